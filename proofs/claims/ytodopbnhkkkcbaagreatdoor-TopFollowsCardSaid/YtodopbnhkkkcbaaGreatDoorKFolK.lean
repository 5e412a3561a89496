/- FolK: A script as it is followed: words. No condition. What each act of a script does to the replies and to those that wait, as a script is followed. Plain words, no program. Walk: canopytop's waitsNow. Walk: canopytop's follow. The conditions of each are in its words. -/
import Derived.Deep.CutRange
import Derived.Great.BuildSlice
import Derived.Great.Walk
import Derived.Laws.CopyOwn
import Derived.Deep.MidRow
import Derived.Test.YtodopbnhkkkcbaaGreatDoorKSrvV
import Derived.Test.YtodopbnhkkkcbaaGreatDoorKHidK
import Derived.Test.YtodopbnhkkkcbaaGreatDoorKWireDecK
import Derived.Test.YtodopbnhkkkcbaaGreatDoorKTopW
import Derived.Test.YtodopbnhkkkcbaaGreatDoorKTopO
namespace Go.Proofs.YtodopbnhkkkcbaaGreatDoor
open Go.RowKit
set_option linter.unusedVariables false
set_option linter.unusedSimpArgs false
set_option maxRecDepth 100000
set_option maxHeartbeats 8000000
def FoCase (rl:List Rp) (x:Ac) (n:Nat) (ms:List Nat) (u:Bool) (n':Nat) (ms':List Nat) (u':Bool):Prop :=
 (x.kind=1∧n'=n+1∧ms'=ms∧u'=u∧∃ p,rl[n]?=some p∧p.session=x.session) ∨
 (x.kind=1∧n'=n∧ms'=ms++[x.session.toNat]∧u'=true∧u=true∧(aM2 x.data).2=0∧(aM2 x.data).1.kind=6∧x.session.toNat ∉ ms) ∨
 (x.kind=2∧u=true∧n'=n+ms.length∧ms'=[]∧u'=true∧∀ j (h:j<ms.length),∃ p,rl[n+j]?=some p∧p.session=(ms[j]:Int)∧p.code=0) ∨
 (x.kind=2∧u=false∧n'=n∧ms'=ms∧u'=false) ∨
 (x.kind=3∧u=true∧n'=n∧ms'=[]∧u'=false) ∨
 (x.kind=3∧u=false∧n'=n∧ms'=ms∧u'=false) ∨
 (x.kind=4∧n'=n∧ms'=ms∧u'=true)
def wl (ms:List Nat):List Value:=(List.range 8).map fun s=>.bool (decide (s ∈ ms))
theorem wl_len (ms:List Nat):(wl ms).length=8:=by simp[wl]
theorem dP5 (ms:List Nat) {s:Nat} (h:s<8):(wl ms)[s]?=some (.bool (decide (s ∈ ms))):=by
 unfold wl
 rw[List.getElem?_map,List.getElem?_range h]
 rfl
theorem wl_nil:wl []=[.bool false,.bool false,.bool false,.bool false,.bool false,.bool false,.bool false,.bool false]:=by
 simp[wl,List.range_succ]
theorem wl_add (ms:List Nat) (s:Nat):(wl ms).set s (.bool true)=wl (ms++[s]):=by
 apply List.ext_getElem?
 intro i
 by_cases hi:i<8
 ·rw[dP5 _ hi,List.getElem?_set]
  by_cases e:s=i
  ·subst e
   rw[if_pos rfl,if_pos (by rw[wl_len];exact hi)]
   simp
  ·rw[if_neg e,dP5 _ hi]
   have e':i≠s:=fun h=>e h.symm
   simp[e']
 ·rw[List.getElem?_eq_none (by simp[wl];omega),List.getElem?_eq_none (by simp[wl];omega)]
theorem wl_drop {ms:List Nat} (hn:ms.Nodup) {j:Nat} (hj:j<ms.length):(wl (ms.drop j)).set ms[j] (.bool false)=wl (ms.drop (j+1)):=by
 have hd:ms.drop j=ms[j] :: ms.drop (j+1):=List.drop_eq_getElem_cons hj
 have hnd:ms[j] ∉ ms.drop (j+1):=by
  have h:(ms.drop j).Nodup:=hn.sublist (List.drop_sublist _ _)
  rw[hd] at h
  exact (List.nodup_cons.1 h).1
 rw[hd]
 generalize ms[j]=a at *
 generalize ms.drop (j+1)=t at *
 apply List.ext_getElem?
 intro i
 by_cases hi:i<8
 ·rw[dP5 _ hi,List.getElem?_set]
  by_cases e:a=i
  ·subst e
   rw[if_pos rfl,if_pos (by rw[wl_len];exact hi)]
   simp[hnd]
  ·rw[if_neg e,dP5 _ hi]
   have e':i≠a:=fun h=>e h.symm
   simp[e']
 ·rw[List.getElem?_eq_none (by simp[wl];omega),List.getElem?_eq_none (by simp[wl];omega)]
structure FoS (xs:List Ac) (rl:List Rp) (N:Nat→Nat) (M:Nat→List Nat) (U:Nat→Bool):Prop where
 act:∀ k (h:k<xs.length),FoCase rl xs[k] (N k) (M k) (U k) (N (k+1)) (M (k+1)) (U (k+1))
 n0:N 0=0
 m0:M 0=[]
 u0:U 0=true
 who:∀ k,k≤xs.length→(∀ s ∈ M k,s<8)∧(M k).Nodup
 le:∀ k,k≤xs.length→N k≤rl.length∧N k≤60∧(M k).length≤60
 fine:∀ a ∈ xs,aB6 a=0
abbrev dP6 (w:World) (A:Option Addr) (xs:List Ac) (c:Nat) (N:Nat→Nat):Prop :=
 ∀ (W:World) (k at':Nat) (up wt ok:Bool) (kd:Int) (o0 o1 o2 o3 o4 c0 c1 c2 c3 c6 c7 c8 c9 c10 c11 c12 c13 c14 c15 c16 c17 c18 c19 c20 c21 c22 c23 c24 c25:Value),Below w.heap.size w W→k<xs.length→at'≤100 →
  Calls Tryz.prog 41 #[.slice A xs.length c,.int .i64 k,.agg #[o0,o1,o2,o3,o4],.int .i64 at',.bool up,.bool wt,.agg #[c0,c1,c2,c3,.bool ok,.int .i64 kd,c6,c7,c8,c9,c10,c11,c12,c13,c14,c15,c16,c17,c18,c19,c20,c21,c22,c23,c24,c25]] W (bQ W (.bool (ok && (kd==6) && !wt && up && decide (N (k+1)=at'))))
abbrev DecSaid:Prop:=∀ (w:World) (P:Option Addr) (b:List UInt8) (pc:Nat),bL w→Bs All w P b→b.length≤pc→Calls Tryz.prog 19 #[.slice P b.length pc] w (bR1 w (aM2 b))
theorem acts_more:∀ (l:List Ac) (g:Eng) (n:Nat),Inv g n→(∀ a ∈ l,aB6 a=0)→∃ r,(l.foldl doE g).replies=g.replies++r
 | [],g,_,_,_=>⟨[],by simp⟩
 | a :: l,g,n,hi,hl=>by
  obtain⟨_,_,⟨r,hr⟩,_⟩:=cV9 hi (hl a ZH2)
  obtain⟨r2,hr2⟩:=acts_more l (doE g a) (n+1) (hi.act (hl a ZH2)) fun b hb=>hl b (by simp[hb])
  exact⟨r++r2,by rw[List.foldl_cons,hr2,hr,List.append_assoc]⟩
theorem dP7 {xs:List Ac} (hx:∀ a ∈ xs,aB6 a=0) (m:Nat):∃ r,(bM xs).replies=(bM (xs.take m)).replies++r:=by
 have e:bM xs=(xs.drop m).foldl doE (bM (xs.take m)):=by
  unfold bM
  rw[← List.foldl_append,List.take_append_drop]
 rw[e]
 exact acts_more _ _ _ (cZ1 fun a h=>hx a (List.mem_of_mem_take h)) fun a h=>hx a (List.mem_of_mem_drop h)
theorem sync_reps:∀ (ws:List Nat) (g:Eng) (j:Nat) (h:j<ws.length),∃ p,(ws.foldl aC1 g).replies[g.replies.length+j]?=some p∧p.session=(ws[j]:Int)∧p.code=0
 | [],_,_,h=>absurd h ZH2
 | a :: ws,g,0,_=>by
  obtain⟨l,hl⟩:=fold_says ws (aC1 g a)
  rw[List.foldl_cons,hl]
  have h1:(aC1 g a).replies=g.replies++[bC5 a ((g.synced+1:Nat):Int)]:=rfl
  rw[h1]
  exact⟨bC5 a ((g.synced+1:Nat):Int),by simp,rfl,rfl⟩
 | a :: ws,g,j+1,h=>by
  have h1:(aC1 g a).replies.length=g.replies.length+1:=by
   show (g.replies++[_]).length=_
   simp
  obtain⟨p,h2,h3,h4⟩:=sync_reps ws (aC1 g a) j (by simp at h;omega)
  rw[h1] at h2
  refine⟨p,?_,by rw[h3];rfl,h4⟩
  rw[List.foldl_cons,show g.replies.length+(j+1)=g.replies.length+1+j by omega,h2]
theorem fo_case {xs:List Ac} (hx:∀ a ∈ xs,aB6 a=0) {k:Nat} (hk:k<xs.length) :
  FoCase (bM xs).replies xs[k] (bM (xs.take k)).replies.length (bM (xs.take k)).waiting (bM (xs.take k)).up (bM (xs.take (k+1))).replies.length (bM (xs.take (k+1))).waiting (bM (xs.take (k+1))).up:=by
 have hxt:∀ m,∀ a ∈ xs.take m,aB6 a=0:=fun m a ha=>hx a (List.mem_of_mem_take ha)
 have hi:=cZ1 (hxt k)
 have hw:=ran_wt (hxt k)
 have ha:=hx xs[k] (List.getElem_mem hk)
 obtain⟨r,hr⟩:=dP7 hx (k+1)
 rw[aC8 xs k hk,cZ2] at hr ⊢
 generalize bM (xs.take k)=g at *
 generalize (bM xs).replies=rl at *
 generalize xs[k]=x at *
 obtain⟨h1,_,h3,h4,_⟩:=aT9 ha
 unfold doE at hr ⊢
 by_cases k1:x.kind=1
 ·obtain⟨s0,s8⟩:=h1 k1
  rw[if_pos k1] at hr ⊢
  rcases cV8 hi.sess (s:=x.session.toNat) AO x.data with ⟨p,hp⟩|⟨c,hc,h5,h6,h7,h8⟩
  ·refine .inl ⟨k1,by rw[hp.replies,List.length_append];rfl,hp.waiting,hp.up,p,?_,by rw[hp.who];omega⟩
   rw[hr,hp.replies,List.append_assoc]
   simp
  ·refine .inr (.inl ⟨k1,by rw[hc.replies],hc.waiting,by rw[hc.up];exact h5,h5,h6,h7,fun hm=>?_⟩)
   rw[(hw.iff x.session.toNat AO).2 hm] at h8
   cases h8
 ·rw[if_neg k1] at hr ⊢
  by_cases k2:x.kind=2
  ·rw[if_pos k2] at hr ⊢
   unfold aV2 at hr ⊢
   by_cases hu:g.up=false
   ·rw[if_pos hu] at hr ⊢
    exact .inr (.inr (.inr (.inl ⟨k2,hu,rfl,rfl,hu⟩)))
   ·rw[if_neg hu] at hr ⊢
    have hu':g.up=true:=by simpa using hu
    obtain⟨b1,b2,b3,b4,b5,b6,b7,b8⟩:=sync_fold g.waiting { g with tape:=if aR5 g.tape then (g.tape.1,(g.tape.1.length:Int)) else ([],0) } hi.sess hi.who
    refine .inr (.inr (.inl ⟨k2,hu',b6,rfl,?_,fun j hj=>?_⟩))
    ·exact b8.trans hu'
    ·obtain⟨p,p1,p2,p3⟩:=sync_reps g.waiting { g with tape:=if aR5 g.tape then (g.tape.1,(g.tape.1.length:Int)) else ([],0) } j hj
     refine⟨p,?_,p2,p3⟩
     rw[hr]
     exact (List.getElem?_append_left (List.getElem?_eq_some_iff.1 p1).1).trans p1
  ·rw[if_neg k2] at hr ⊢
   by_cases k3:x.kind=3
   ·rw[if_pos k3] at hr ⊢
    unfold aS1
    by_cases hu:g.up=false
    ·rw[if_pos hu]
     exact .inr (.inr (.inr (.inr (.inr (.inl ⟨k3,hu,rfl,rfl,hu⟩)))))
    ·rw[if_neg hu]
     exact .inr (.inr (.inr (.inr (.inl ⟨k3,by simpa using hu,rfl,rfl,rfl⟩))))
   ·rw[if_neg k3]
    exact .inr (.inr (.inr (.inr (.inr (.inr ⟨AO,rfl,rfl,rfl⟩)))))
theorem fo_s {xs:List Ac} (hx:∀ a ∈ xs,aB6 a=0) (hl:xs.length≤60):FoS xs (bM xs).replies (fun k=>(bM (xs.take k)).replies.length) (fun k=>(bM (xs.take k)).waiting) (fun k=>(bM (xs.take k)).up):=by
 have hxt:∀ m,∀ a ∈ xs.take m,aB6 a=0:=fun m a ha=>hx a (List.mem_of_mem_take ha)
 refine⟨fun k h=>fo_case hx h,rfl,rfl,rfl,fun k _=>⟨(cZ1 (hxt k)).who,(ran_wt (hxt k)).once⟩,fun k _=>?_,hx⟩
 have ht:=(cZ1 (hxt k)).told
 have h60:(xs.take k).length≤60:=by rw[List.length_take];omega
 obtain⟨r,hr⟩:=dP7 hx k
 refine⟨?_,by show (bM (xs.take k)).replies.length≤60;omega,by show (bM (xs.take k)).waiting.length≤60;omega⟩
 show (bM (xs.take k)).replies.length≤_
 rw[hr,List.length_append]
 omega
abbrev RunIs (l:List Ac) (m:Nat):Prop:=Hid (∀ (w:World) (A:Option Addr) (n c:Nat),n=l.length→bD w→bL w→Acs All w A l→Calls Tryz.prog 27 #[.slice A n c] w (fun e w'=>∃ (u:Bool) (t p:Int) (F:Option Addr) (fl f:Nat) (R:Option Addr) (r:Nat),e=.returned (.tuple #[.agg #[.bool u,.int .i64 t,.int .i64 p,.slice F fl f,.slice R m r],.int .i64 0])∧Below w.heap.size w w'))
theorem run_is {l:List Ac} (hl:∀ a ∈ l,aB6 a=0) (hn:l.length≤100000) {m:Nat} (hm:(bM l).replies.length=m):RunIs l m:=zh fun w A n c h1 hT hH ha=>by
 subst h1 hm
 have h:=bG7 w hT hH A l c ha (by unfold big;omega)
 rw[run_fine hl hn] at h
 refine h.mono ?_
 rintro e w' ⟨A,a,B,b,rfl,_,_,_,hb⟩
 exact⟨_,_,_,_,_,_,_,_,rfl,hb⟩
theorem dP8 (w:World) (hT:bD w) (hH:bL w) (A:Option Addr) (xs:List Ac) (c k m at':Nat) (up wt ok:Bool) (kd:Int) (o0 o1 o2 o3 o4 c0 c1 c2 c3 c6 c7 c8 c9 c10 c11 c12 c13 c14 c15 c16 c17 c18 c19 c20 c21 c22 c23 c24 c25:Value) (ha:Acs All w A xs) (hk:k<xs.length) (hc:xs.length≤c) (hl:xs.length≤60) (hR:RunIs (xs.take (k+1)) m) (hm:m≤100) (hat:at'≤100) :
  Calls Tryz.prog 41 #[.slice A xs.length c,.int .i64 k,.agg #[o0,o1,o2,o3,o4],.int .i64 at',.bool up,.bool wt,.agg #[c0,c1,c2,c3,.bool ok,.int .i64 kd,c6,c7,c8,c9,c10,c11,c12,c13,c14,c15,c16,c17,c18,c19,c20,c21,c22,c23,c24,c25]] w (bQ w (.bool (ok && (kd==6) && !wt && up && decide (m=at')))):=by
 obtain⟨b,off,_,_,rfl,_⟩:=cO9 ha hk
 have Ha:=zh ha
 have HT:=zh hT
 have HH:=zh hH
 have HR:=zh hR
 clear ha hT hH hR
 obtain⟨_,bx,_,hb2⟩:=aM6 w (.cells #[o0,o1,o2,o3,o4] 34) (.cells #[c0,c1,c2,c3,.bool ok,.int .i64 kd,c6,c7,c8,c9,c10,c11,c12,c13,c14,c15,c16,c17,c18,c19,c20,c21,c22,c23,c24,c25] 77)
 have t4:=aA (cs:=[c0,c1,c2,c3,.bool ok,.int .i64 kd,c6,c7,c8,c9,c10,c11,c12,c13,c14,c15,c16,c17,c18,c19,c20,c21,c22,c23,c24,c25]) bx 4
 have t5:=aA (cs:=[c0,c1,c2,c3,.bool ok,.int .i64 kd,c6,c7,c8,c9,c10,c11,c12,c13,c14,c15,c16,c17,c18,c19,c20,c21,c22,c23,c24,c25]) bx 5
 simp only[List.getElem?_cons_zero,List.getElem?_cons_succ] at t4 t5
 have Hb2:=zh hb2
 go_enter Tryz.func41,Tryz.ntmps41
 go_upto_region 1 with fail
 obtain⟨W2,hW2⟩:∃ W2,W2=(w.alloc (.cells #[o0,o1,o2,o3,o4] 34)).alloc (.cells #[c0,c1,c2,c3,.bool ok,.int .i64 kd,c6,c7,c8,c9,c10,c11,c12,c13,c14,c15,c16,c17,c18,c19,c20,c21,c22,c23,c24,c25] 77):=⟨_,rfl⟩
 rw[← hW2] at t4 t5 Hb2 ⊢
 clear bx hW2 hb2
 by_cases h1:ok=true
 ·subst h1
  by_cases h2:kd=6
  ·subst h2
   cases wt
   ·cases up
    ·go_wp2
     go_ret
     exact⟨by simp,Hb2.out⟩
    ·have i0:(0:Int)≤(k:Int):=by omega
     have i1:(k:Int)+1≤(xs.length:Int):=by omega
     have i2:(k:Int)+1≤(c:Int):=by omega
     have i3:(k:Int)≤60:=by omega
     have i4:(0:Int)≤(k:Int)+1:=by omega
     have Hc:=zh (show ((true && ((6:Int)==6) && !false && true && decide (m=at')))=((m:Int)==(at':Int)) by
      by_cases e:m=at'
      ·simp[e]
      ·have e2:¬ ((m:Int)=(at':Int)):=by omega
       simp[e,e2])
     go_upto_region 4 with (go_at_call 27;(with_reducible refine (Hid.out HR.out _ (some ⟨b,off,none⟩) (k+1) (k+1) ?hn ?hT ?hH ?ha).mono ?_);(case hn=>(rw[List.length_take];omega));(case hT=>exact HT.out.below Hb2.out);(case hH=>exact HH.out.below Hb2.out);(case ha=>exact cZ4 (Ha.out.below acR_stays Hb2.out) _);rintro e3 y3 ⟨u',t',p',F',fl',f',R',r',rfl,hb3⟩;have Hb3:=zh hb3;clear hb3)
     have hbz:=aK y3 #[.bool u',.int .i64 t',.int .i64 p',.slice F' fl' f',.slice R' m r'] 34
     have z4:=aA (cs:=[.bool u',.int .i64 t',.int .i64 p',.slice F' fl' f',.slice R' m r']) hbz 4
     simp only[List.getElem?_cons_zero,List.getElem?_cons_succ] at z4
     go_wp2
     go_ret
     exact⟨by rw[Hc.out];rfl,Hb2.out.next (Hb3.out.alloc Hb3.out.size _) Hb2.out.size⟩
   ·go_wp2
    go_ret
    exact⟨by simp,Hb2.out⟩
  ·have e2:(kd != 6)=true:=by simpa using h2
   have e2':(kd==6)=false:=by simpa using h2
   have E2:=zh e2'
   clear e2' h2
   go_wp2
   go_ret
   exact⟨by rw[E2.out];simp,Hb2.out⟩
 ·have h1':ok=false:=by simpa using h1
  subst h1'
  clear h1
  go_wp2
  go_ret
  exact⟨by simp,Hb2.out⟩
theorem dP9 {w:World} (hT:bD w) (hH:bL w) {A:Option Addr} {xs:List Ac} {c:Nat} {N:Nat→Nat} (ha:Acs All w A xs) (hc:xs.length≤c) (hl:xs.length≤60) (hR:∀ k,k<xs.length→RunIs (xs.take (k+1)) (N (k+1))) (hN:∀ k,k≤xs.length→N k≤60):dP6 w A xs c N:=by
 intro W k at' up wt ok kd o0 o1 o2 o3 o4 c0 c1 c2 c3 c6 c7 c8 c9 c10 c11 c12 c13 c14 c15 c16 c17 c18 c19 c20 c21 c22 c23 c24 c25 hb hk hat
 exact dP8 W (hT.below hb) (hH.below hb) A xs c k (N (k+1)) at' up wt ok kd o0 o1 o2 o3 o4 c0 c1 c2 c3 c6 c7 c8 c9 c10 c11 c12 c13 c14 c15 c16 c17 c18 c19 c20 c21 c22 c23 c24 c25 (ha.below acR_stays hb) hk hc hl (hR k hk) (by have:=hN (k+1) AO;omega) hat
theorem dQ0 {xs:List Ac} (hx:∀ a ∈ xs,aB6 a=0) (hl:xs.length≤60):∃ (N:Nat→Nat) (M:Nat→List Nat) (U:Nat→Bool) (ou:Bool) (tn pd:Int) (fo:List Tn) (rl:List Rp),dA3 xs ⟨ou,tn,pd,fo,rl⟩∧FoS xs rl N M U∧N xs.length=rl.length∧((M xs.length).length:Int)=pd∧U xs.length=ou∧(∀ k,k<xs.length→RunIs (xs.take (k+1)) (N (k+1))) :=
 ⟨fun k=>(bM (xs.take k)).replies.length,fun k=>(bM (xs.take k)).waiting,fun k=>(bM (xs.take k)).up,(bM xs).up,(bM xs).synced,(bM xs).waiting.length,(bM xs).now,(bM xs).replies,dA4 hx AO rfl,fo_s hx hl,by simp,by simp,by simp,fun k hk=>run_is (fun a ha=>hx a (List.mem_of_mem_take ha)) ZF6 rfl⟩
def TR (_:Nat→Prop) (_:World) (cs:List Value) (_:Unit):Prop:=∀ u ∈ cs,u.oneCell'=true
theorem tr_stays:bI TR:=⟨fun _ _ _ _ _ _ h=>h,fun _ _ _ _ _ _ h=>h⟩
theorem info_told:(Tryz.prog.info? 77).map (fun i=>(i.zero.map fun z=>z.cells.size,i.size,i.bytes))=some (some 26,26,432):=by kernel_rfl
theorem told_parts:∃ i z,Tryz.prog.info? 77=some i∧i.zero=some z∧i.size=26∧i.bytes=432∧z.cells.size=26:=by
 have h:=info_told
 cases hi:Tryz.prog.info? 77 with
 | none=>rw[hi] at h;cases h
 | some i =>
  rw[hi] at h
  simp only[Option.map_some,Option.some.injEq,Prod.mk.injEq,Option.map_eq_some_iff] at h
  obtain⟨⟨z,hz,hc⟩,h2,h3⟩:=h
  exact⟨i,z,rfl,hz,h2,h3,hc⟩
theorem dQ1 {w:World} {g:Nat} {t:TypeId} {cs:List Value} (h:w.heap[g]?=some (.cells cs.toArray t (0,0))):w.rangeAt g 0 cs:=fun j v hv=>by rw[Nat.zero_add];exact (aA h j).trans hv
theorem dQ8 {b:Nat} {t:TypeId}:∀ (vs:List Value) (o:Nat) (w:World) (cs:List Value),w.heap[b]?=some (.cells cs.toArray t (0,0))→o+vs.length≤cs.length→(w.setCells b o vs).heap[b]?=some (.cells (cs.take o++vs++cs.drop (o+vs.length)).toArray t (0,0))
 | [],o,w,cs,h,hl=>by
  rw[List.length_nil,Nat.add_zero,List.append_nil,List.take_append_drop]
  exact h
 | v :: r,o,w,cs,h,hl=>by
  have h1:=heap_setCell_same w b o _ _ v h
  rw[List.setIfInBounds_toArray] at h1
  simp only[List.length_cons] at hl
  have h2:=dQ8 r (o+1) (w.setCell ⟨b,o,none⟩ v) (cs.set o v) h1 (by rw[List.length_set];omega)
  rw[World.setCells,h2]
  have e1:(cs.set o v).take (o+1)=cs.take o++[v]:=by
   rw[List.take_succ_eq_append_getElem (by rw[List.length_set];omega),List.take_set_of_le zn,List.getElem_set_self]
  have e2:(cs.set o v).drop (o+1+r.length)=cs.drop (o+(v :: r).length):=by
   rw[List.drop_set_of_lt AO,List.length_cons]
   congr 1
   omega
  rw[e1,e2,List.append_assoc (cs.take o) [v] r]
  rfl
theorem dQ9 {b n:Nat} {w:World}:∀ (vs:List Value) (o:Nat) (w':World),Below n w w'→n≤b→Below n w (w'.setCells b o vs)
 | [],_,_,h,_=>h
 | v :: r,o,w',h,hb=>by
  rw[World.setCells]
  exact dQ9 r (o+1) _ (h.setCell (p:=⟨b,o,none⟩) hb v) hb
theorem rp_size:(Tryz.prog.info? 48).map (·.size)=some 15:=by kernel_rfl
theorem told_size:(Tryz.prog.info? 77).map (·.size)=some 26:=by kernel_rfl
theorem dQ2 (a b c:Int) (D:Option Addr) (n d:Nat):(#[.int .i64 a,.int .i64 b,.int .i64 c,.slice D n d,.bool false,.int .i64 0,.slice none 0 0,.slice none 0 0,.slice none 0 0,.slice none 0 0,.int .i64 0,.int .i64 0,.int .i64 0,.bool false,.slice none 0 0,.slice none 0 0,.slice none 0 0,.bool false,.slice none 0 0,.slice none 0 0,.slice none 0 0,.bool false,.slice none 0 0,.slice none 0 0,.slice none 0 0,.bool false]:Array Value).all (·.oneCell')=true:=by simp[Value.oneCell']
theorem dQ3 (v0 v1 v2 v3:Value):Tryz.prog.built 77 [(0,.agg #[v0,v1,v2,v3])]=some #[v0,v1,v2,v3,.bool false,.int .i64 0,.slice none 0 0,.slice none 0 0,.slice none 0 0,.slice none 0 0,.int .i64 0,.int .i64 0,.int .i64 0,.bool false,.slice none 0 0,.slice none 0 0,.slice none 0 0,.bool false,.slice none 0 0,.slice none 0 0,.slice none 0 0,.bool false,.slice none 0 0,.slice none 0 0,.slice none 0 0,.bool false]:=by kernel_rfl
structure FoL (w W0:World) (ob wb:Nat) (ms:List Nat) (k:Nat) (v:Value) (wr:World):Prop where
 bel:Below w.heap.size w wr
 keep:aC (fun b=>b≤ob) W0 wr
 box:wr.heap[wb]?=some (.cells (wl ms).toArray 104 (0,0))
 own:Own 26 TR (aB (wb+1)) wr (wb+1) 77 v (List.replicate k ())
def FoM (wr:World) (tb wb n':Nat) (ms':List Nat) (u':Bool) (s7 s9 s10:Value) (wx:World):Prop :=
 s7=.int .i64 n'∧s9=.int .i64 ms'.length∧s10=.bool u'∧aC (fun b=>b≠wb) wr wx∧Below wb wr wx∧wx.heap[wb]?=some (.cells (wl ms').toArray 104 (0,0))∧∃ cs:List Value,cs.length=26∧(∀ u ∈ cs,u.oneCell'=true)∧wx.heap[tb]?=some (.cells cs.toArray 77 (0,0))
theorem list26 {cs:List Value} (h:cs.length=26):∃ c0 c1 c2 c3 c4 c5 c6 c7 c8 c9 c10 c11 c12 c13 c14 c15 c16 c17 c18 c19 c20 c21 c22 c23 c24 c25,cs=[c0,c1,c2,c3,c4,c5,c6,c7,c8,c9,c10,c11,c12,c13,c14,c15,c16,c17,c18,c19,c20,c21,c22,c23,c24,c25] :=
 match cs,h with
 | [c0,c1,c2,c3,c4,c5,c6,c7,c8,c9,c10,c11,c12,c13,c14,c15,c16,c17,c18,c19,c20,c21,c22,c23,c24,c25],_=>⟨c0,c1,c2,c3,c4,c5,c6,c7,c8,c9,c10,c11,c12,c13,c14,c15,c16,c17,c18,c19,c20,c21,c22,c23,c24,c25,rfl⟩
theorem size8:(Tryz.prog.info? 104).map (·.size)=some 8:=by kernel_rfl
theorem tr_one:∀ S w cs x,TR S w cs x→∀ u ∈ cs,u.oneCell'=true:=fun _ _ _ _ h=>h
theorem dQ4 (c0 c1 c2 c3 c4 c5 c6 c7 c8 c9 c10 c11 c12 c13 c14 c15 c16 c17 c18 c19 c20 c21 c22 c23 c24 c25:Value):Tryz.prog.builtSlice 77 1 [(0,.agg #[c0,c1,c2,c3,c4,c5,c6,c7,c8,c9,c10,c11,c12,c13,c14,c15,c16,c17,c18,c19,c20,c21,c22,c23,c24,c25])]=some #[c0,c1,c2,c3,c4,c5,c6,c7,c8,c9,c10,c11,c12,c13,c14,c15,c16,c17,c18,c19,c20,c21,c22,c23,c24,c25]:=by kernel_rfl
theorem dQ5 (w : World) (hH : bL w) (A : Option Addr) (xs : List Ac) (c : Nat) (ou : Bool) (ot pd : Int) (F : Option Addr) (fl f : Nat) (R : Option Addr) (rl : List Rp) (rc : Nat) (N : Nat → Nat) (M : Nat → List Nat) (U : Nat → Bool) (hD : DecSaid) (hW : dP6 w A xs c N) (hF : FoS xs rl N M U) (ha : Acs All w A xs) (hR : SL 15 RpR All w R rl) (hl : xs.length ≤ 60) (hn : N xs.length = rl.length) (hm : ((M xs.length).length : Int) = pd) (hu : U xs.length = ou) :
    Calls Tryz.prog 20 #[.slice A xs.length c, .agg #[.bool ou, .int .i64 ot, .int .i64 pd, .slice F fl f, .slice R rl.length rc]] w (fun e w' => ∃ v, e = .returned (.tuple #[v, .bool true]) ∧ Below w.heap.size w w') := by
  have HH := zh hH
  have HD := zh hD
  have HW := zh hW
  have HF := zh hF
  have Ha := zh ha
  have HR := zh hR
  have Hn := zh hn
  have Hm := zh hm
  have Hu := zh hu
  clear hH hD hW hF ha hR hn hm hu
  go_enter Tryz.func20, Tryz.ntmps20
  go_upto_region 6 with fail
  obtain ⟨W0, hW0⟩ : ∃ W0, W0 = (w.alloc (.cells #[.bool ou, .int .i64 ot, .int .i64 pd, .slice F fl f, .slice R rl.length rc] 34)).alloc (.cells #[.bool false, .bool false, .bool false, .bool false, .bool false, .bool false, .bool false, .bool false] 104) := ⟨_, rfl⟩
  obtain ⟨t1, t2, t3, t4⟩ := aM6 w (.cells #[.bool ou, .int .i64 ot, .int .i64 pd, .slice F fl f, .slice R rl.length rc] 34) (.cells #[.bool false, .bool false, .bool false, .bool false, .bool false, .bool false, .bool false, .bool false] 104)
  rw [← hW0] at t1 t2 t3 t4 ⊢
  obtain ⟨wb, hwb⟩ : ∃ wb, wb = w.heap.size + 1 := ⟨_, rfl⟩
  rw [← hwb] at t2 ⊢
  obtain ⟨ob, hob⟩ : ∃ ob, ob = w.heap.size := ⟨_, rfl⟩
  have HW0 := zh t4
  have Hob := zh t1
  have HS := zh (And.intro hob (show wb = ob + 1 by omega))
  have lW0 : W0.heap.size = w.heap.size + 2 := t3
  have HlW := zh lW0
  rw [← hob] at t1 Hob ⊢
  have HL0 := zh (show FoL w W0 ob wb [] 0 (.slice none 0 0) W0 from ⟨t4, aC.refl _ _, by rw [wl_nil]; exact t2, Own.nil _ _ _⟩)
  clear t1 t2 t3 t4 hW0 hwb hob lW0
  go_wp2_with fail
  go_loopw [6, 7, 9, 10, 11] (fun v at' many up i wr => ∃ k, k ≤ xs.length ∧ FoL w W0 ob wb (M k) k v wr ∧ at' = .int .i64 (N k) ∧ many = .int .i64 (M k).length ∧ up = .bool (U k) ∧ i = .int .i64 k) (fun _ _ _ _ i _ => xs.length - (intOf i).toNat)
  case atStart => exact ⟨0, AO, by rw [HF.out.m0]; exact HL0.out, by rw [HF.out.n0]; rfl, by rw [HF.out.m0]; rfl, by rw [HF.out.u0], rfl⟩
  case round =>
    obtain ⟨k, hk, hfl, rfl, rfl, rfl, rfl⟩ := hrel
    have HL := zh hfl
    clear hfl
    by_cases hlt : k < xs.length
    · have hsl : aC (fun b => b < w.heap.size) w wr := aC.of_below HL.out.bel
      obtain ⟨b, off, D, d, rfl, hab, a0, a1, a2, a3, hxd, hxD⟩ := cO9 ((Ha.out.below acR_stays HL.out.bel)) hlt
      have HC := zh (HF.out.act k hlt)
      have HE := zh (HF.out.le k hk)
      have HE' := zh (HF.out.le (k + 1) AO)
      have HM := zh (HF.out.who k hk)
      have hafx := HF.out.fine xs[k] (List.getElem_mem hlt)
      generalize hnk : N k = n at *
      generalize hmk : M k = ms at *
      generalize huk : U k = u at *
      generalize xs[k] = x at *
      have HD' := zh hxD.bz
      have i0 : (0 : Int) ≤ (k : Int) := by omega
      have i1 : (k : Int) < (xs.length : Int) := by omega
      clear hxD hsl hnk hmk huk
      go_upto_region 9 with fail
      iterate 24 (first | (first | (refine wpList_buildTo rfl 77 _ rfl (some 26) rfl #[.int .i64 x.kind, .int .i64 x.session, .int .i64 x.keep, .slice D x.data.length d, .bool false, .int .i64 0, .slice none 0 0, .slice none 0 0, .slice none 0 0, .slice none 0 0, .int .i64 0, .int .i64 0, .int .i64 0, .bool false, .slice none 0 0, .slice none 0 0, .slice none 0 0, .bool false, .slice none 0 0, .slice none 0 0, .slice none 0 0, .bool false, .slice none 0 0, .slice none 0 0, .slice none 0 0, .bool false] ?hf ?_; (case hf => exact dQ3 _ _ _ _)) | (refine wpList_store_rowTo rfl 77 (.tmp 12) (.tmp 26) rfl rfl wr.heap.size #[.int .i64 x.kind, .int .i64 x.session, .int .i64 x.keep, .slice D x.data.length d, .bool false, .int .i64 0, .slice none 0 0, .slice none 0 0, .slice none 0 0, .slice none 0 0, .int .i64 0, .int .i64 0, .int .i64 0, .bool false, .slice none 0 0, .slice none 0 0, .slice none 0 0, .bool false, .slice none 0 0, .slice none 0 0, .slice none 0 0, .bool false, .slice none 0 0, .slice none 0 0, .slice none 0 0, .bool false] rfl rfl 77 #[.int .i64 0, .int .i64 0, .int .i64 0, .slice none 0 0, .bool false, .int .i64 0, .slice none 0 0, .slice none 0 0, .slice none 0 0, .slice none 0 0, .int .i64 0, .int .i64 0, .int .i64 0, .bool false, .slice none 0 0, .slice none 0 0, .slice none 0 0, .bool false, .slice none 0 0, .slice none 0 0, .slice none 0 0, .bool false, .slice none 0 0, .slice none 0 0, .slice none 0 0, .bool false] (aK wr _ _) told_size rfl (dQ2 _ _ _ _ _ _) ?_)) | go_values | go_skip | go_guarded | go_step | go_upon)
      obtain ⟨W1, hW1⟩ : ∃ W1, W1 = (wr.alloc (.cells #[.int .i64 0, .int .i64 0, .int .i64 0, .slice none 0 0, .bool false, .int .i64 0, .slice none 0 0, .slice none 0 0, .slice none 0 0, .slice none 0 0, .int .i64 0, .int .i64 0, .int .i64 0, .bool false, .slice none 0 0, .slice none 0 0, .slice none 0 0, .bool false, .slice none 0 0, .slice none 0 0, .slice none 0 0, .bool false, .slice none 0 0, .slice none 0 0, .slice none 0 0, .bool false] 77)).setRow wr.heap.size #[.int .i64 x.kind, .int .i64 x.session, .int .i64 x.keep, .slice D x.data.length d, .bool false, .int .i64 0, .slice none 0 0, .slice none 0 0, .slice none 0 0, .slice none 0 0, .int .i64 0, .int .i64 0, .int .i64 0, .bool false, .slice none 0 0, .slice none 0 0, .slice none 0 0, .bool false, .slice none 0 0, .slice none 0 0, .slice none 0 0, .bool false, .slice none 0 0, .slice none 0 0, .slice none 0 0, .bool false] := ⟨_, rfl⟩
      obtain ⟨tb, htb⟩ : ∃ tb, tb = wr.heap.size := ⟨_, rfl⟩
      have hb1 : Below wr.heap.size wr W1 := by rw [hW1]; exact below_setRow ((Below.refl _ _).alloc zn _) zn _
      have hbT : W1.heap[tb]? = some (.cells #[.int .i64 x.kind, .int .i64 x.session, .int .i64 x.keep, .slice D x.data.length d, .bool false, .int .i64 0, .slice none 0 0, .slice none 0 0, .slice none 0 0, .slice none 0 0, .int .i64 0, .int .i64 0, .int .i64 0, .bool false, .slice none 0 0, .slice none 0 0, .slice none 0 0, .bool false, .slice none 0 0, .slice none 0 0, .slice none 0 0, .bool false, .slice none 0 0, .slice none 0 0, .slice none 0 0, .bool false] 77 (0, 0)) := by rw [hW1, htb]; exact setRow_heap _ _ _ _ _ _ (aK wr _ _)
      rw [← hW1]
      have A1 := zh a1
      replace a0 := (hb1.cell (p := ⟨b, off + k * 4, none⟩) hab).trans a0
      replace a1 := (hb1.cell (p := ⟨b, off + k * 4 + 1, none⟩) hab).trans a1
      replace a3 := (hb1.cell (p := ⟨b, off + k * 4 + 3, none⟩) hab).trans a3
      have Hb1 := zh hb1
      have HbT := zh hbT
      have HwB := zh ((hb1.block wb (by have := (Array.getElem?_eq_some_iff.1 HL.out.box).1; exact this)).trans HL.out.box)
      have Htb := zh htb
      rw [← htb]
      clear hW1 hb1 hbT htb a2
      go_cut [7, 9, 10] from 22 to 177 (fun s7 s9 s10 wx => FoM wr tb wb (N (k + 1)) (M (k + 1)) (U (k + 1)) s7 s9 s10 wx)
      case first =>
        have hwbl : wb < wr.heap.size := (Array.getElem?_eq_some_iff.1 HL.out.box).1
        have B1 := zh (Hb1.out.mono (show wb ≤ wr.heap.size by omega))
        have S1 := zh (show aC (fun b => b ≠ wb) wr W1 from aC.of_below Hb1.out)
        have T1 := zh (show ∃ cs : List Value, cs.length = 26 ∧ (∀ u ∈ cs, u.oneCell' = true) ∧ W1.heap[tb]? = some (.cells cs.toArray 77 (0, 0)) from ⟨[.int .i64 x.kind, .int .i64 x.session, .int .i64 x.keep, .slice D x.data.length d, .bool false, .int .i64 0, .slice none 0 0, .slice none 0 0, .slice none 0 0, .slice none 0 0, .int .i64 0, .int .i64 0, .int .i64 0, .bool false, .slice none 0 0, .slice none 0 0, .slice none 0 0, .bool false, .slice none 0 0, .slice none 0 0, .slice none 0 0, .bool false, .slice none 0 0, .slice none 0 0, .slice none 0 0, .bool false], rfl, by simp [Value.oneCell'], HbT.out⟩)
        have ntw : tb ≠ wb := by have := Htb.out; omega
        have hc := HC.out
        by_cases q9 : x.kind = 1
        · have q1 := q9
          clear q9
          rw [q1] at a0
          obtain ⟨r, ed, hde⟩ : ∃ r ed, aM2 x.data = (r, ed) := ⟨_, _, rfl⟩
          have Hde := zh hde
          have Hde0 := zh hde
          clear hde
          go_upto_region 13 with (go_at_call 19; (with_reducible refine (HD.out _ D x.data d ?hT ?hd hxd).mono ?_); (case hT => exact HH.out.below (HL.out.bel.next Hb1.out HL.out.bel.size)); (case hd => exact HD'.out.bbelow Hb1.out); rw [Hde.out]; rintro e5 y5 ⟨A5, a5, B5, b5, C5, c5, D5, d5, rfl, _, _, _, _, hb5⟩; have Hb5 := zh hb5; clear hb5)
          obtain ⟨W2, hW2⟩ : ∃ W2, W2 = y5.alloc (.cells #[.int .i64 r.kind, .slice A5 r.name.length a5, .slice B5 r.key.length b5, .slice C5 r.last.length c5, .slice D5 r.value.length d5] 29) := ⟨_, rfl⟩
          obtain ⟨gr, hgr⟩ : ∃ gr, gr = y5.heap.size := ⟨_, rfl⟩
          have hb2 : Below W1.heap.size W1 W2 := by rw [hW2]; exact Hb5.out.alloc Hb5.out.size _
          have hbG : W2.heap[gr]? = some (.cells #[.int .i64 r.kind, .slice A5 r.name.length a5, .slice B5 r.key.length b5, .slice C5 r.last.length c5, .slice D5 r.value.length d5] 29 (0, 0)) := by rw [hW2, hgr]; exact aK _ _ _
          rw [← hW2, ← hgr]
          have ltb : tb < W1.heap.size := (Array.getElem?_eq_some_iff.1 HbT.out).1
          have hbT2 := (hb2.block tb ltb).trans HbT.out
          have bc := aA (cs := [.int .i64 x.kind, .int .i64 x.session, .int .i64 x.keep, .slice D x.data.length d, .bool false, .int .i64 0, .slice none 0 0, .slice none 0 0, .slice none 0 0, .slice none 0 0, .int .i64 0, .int .i64 0, .int .i64 0, .bool false, .slice none 0 0, .slice none 0 0, .slice none 0 0, .bool false, .slice none 0 0, .slice none 0 0, .slice none 0 0, .bool false, .slice none 0 0, .slice none 0 0, .slice none 0 0, .bool false]) hbT2
          have bf := aD (cs := [.int .i64 x.kind, .int .i64 x.session, .int .i64 x.keep, .slice D x.data.length d, .bool false, .int .i64 0, .slice none 0 0, .slice none 0 0, .slice none 0 0, .slice none 0 0, .int .i64 0, .int .i64 0, .int .i64 0, .bool false, .slice none 0 0, .slice none 0 0, .slice none 0 0, .bool false, .slice none 0 0, .slice none 0 0, .slice none 0 0, .bool false, .slice none 0 0, .slice none 0 0, .slice none 0 0, .bool false]) hbT2
          have t4 := bc 4
          have g4 := bf 4
          have t5 := bc 5
          have g5 := bf 5
          have t6 := bc 6
          have g6 := bf 6
          have t7 := bc 7
          have g7 := bf 7
          have t8 := bc 8
          have g8 := bf 8
          have t9 := bc 9
          have g9 := bf 9
          clear bc bf
          have bc := aA (cs := [.int .i64 r.kind, .slice A5 r.name.length a5, .slice B5 r.key.length b5, .slice C5 r.last.length c5, .slice D5 r.value.length d5]) hbG
          have r0 := bc 0
          have r1 := bc 1
          have r2 := bc 2
          have r3 := bc 3
          have r4 := bc 4
          clear bc
          simp only [List.getElem?_cons_zero, List.getElem?_cons_succ] at t4 t5 t6 t7 t8 t9 r0 r1 r2 r3 r4
          have hab1 : b < W1.heap.size := Nat.lt_of_lt_of_le hab Hb1.out.size
          replace a0 := (hb2.cell (p := ⟨b, off + k * 4, none⟩) hab1).trans a0
          replace a1 := (hb2.cell (p := ⟨b, off + k * 4 + 1, none⟩) hab1).trans a1
          have HbT2 := zh hbT2
          have HbG := zh hbG
          have Hb2 := zh hb2
          have ngt : gr ≠ tb := by have := Hb5.out.size; omega
          have ngt' : tb ≠ gr := fun e => ngt e.symm
          have nab : b ≠ tb := by have := Htb.out; omega
          clear hW2 hgr hb2 hbG hbT2 a3
          go_upto_region 15 with fail
          obtain ⟨W3, hW3⟩ : ∃ W3, W3 = (((((W2.setCell ⟨tb, 4, none⟩ (.bool (ed == 0))).setCell ⟨tb, 5, none⟩ (.int .i64 r.kind)).setCell ⟨tb, 6, none⟩ (.slice A5 r.name.length a5)).setCell ⟨tb, 7, none⟩ (.slice B5 r.key.length b5)).setCell ⟨tb, 8, none⟩ (.slice C5 r.last.length c5)).setCell ⟨tb, 9, none⟩ (.slice D5 r.value.length d5) := ⟨_, rfl⟩
          rw [← hW3]
          have hbT3 : W3.heap[tb]? = some (.cells #[.int .i64 x.kind, .int .i64 x.session, .int .i64 x.keep, .slice D x.data.length d, .bool (ed == 0), .int .i64 r.kind, .slice A5 r.name.length a5, .slice B5 r.key.length b5, .slice C5 r.last.length c5, .slice D5 r.value.length d5, .int .i64 0, .int .i64 0, .int .i64 0, .bool false, .slice none 0 0, .slice none 0 0, .slice none 0 0, .bool false, .slice none 0 0, .slice none 0 0, .slice none 0 0, .bool false, .slice none 0 0, .slice none 0 0, .slice none 0 0, .bool false] 77 (0, 0)) := by rw [hW3]; exact heap_setCell_same _ tb 9 _ _ _ (heap_setCell_same _ tb 8 _ _ _ (heap_setCell_same _ tb 7 _ _ _ (heap_setCell_same _ tb 6 _ _ _ (heap_setCell_same _ tb 5 _ _ _ (heap_setCell_same _ tb 4 _ _ _ HbT2.out)))))
          have lG : gr < W2.heap.size := (Array.getElem?_eq_some_iff.1 HbG.out).1
          have HG3 := zh (show W3.heap[gr]? = some (.cells #[.int .i64 r.kind, .slice A5 r.name.length a5, .slice B5 r.key.length b5, .slice C5 r.last.length c5, .slice D5 r.value.length d5] 29 (0, 0)) from by rw [hW3]; exact (((((((((aC.refl (fun b => b ≠ tb) W2).setCell (p := ⟨tb, 4, none⟩) (fun h => h rfl) _).setCell (p := ⟨tb, 5, none⟩) (fun h => h rfl) _).setCell (p := ⟨tb, 6, none⟩) (fun h => h rfl) _).setCell (p := ⟨tb, 7, none⟩) (fun h => h rfl) _).setCell (p := ⟨tb, 8, none⟩) (fun h => h rfl) _).setCell (p := ⟨tb, 9, none⟩) (fun h => h rfl) _).block gr ngt lG).trans HbG.out))
          have hlt0 : wr.heap.size ≤ tb := by have := Htb.out; omega
          have hB3 : Below wr.heap.size wr W3 := by rw [hW3]; exact ((((((Hb1.out.next Hb2.out Hb1.out.size).setCell (p := ⟨tb, 4, none⟩) hlt0 _).setCell (p := ⟨tb, 5, none⟩) hlt0 _).setCell (p := ⟨tb, 6, none⟩) hlt0 _).setCell (p := ⟨tb, 7, none⟩) hlt0 _).setCell (p := ⟨tb, 8, none⟩) hlt0 _).setCell (p := ⟨tb, 9, none⟩) hlt0 _
          have HB3 := zh hB3
          have HbT3 := zh hbT3
          have lob : ob < wr.heap.size := by have := HS.out; omega
          have hob := (hB3.block ob lob).trans ((HL.out.keep.block ob zn (Array.getElem?_eq_some_iff.1 Hob.out).1).trans Hob.out)
          have hwb := (hB3.block wb hwbl).trans HL.out.box
          obtain ⟨s0, s8⟩ := (aT9 hafx).1 q1
          have HO3 := zh hob
          have HW3 := zh hwb
          replace a1 := (hB3.cell (p := ⟨b, off + k * 4 + 1, none⟩) hab).trans A1.out
          have v1 := aA hwb x.session.toNat
          rw [dP5 _ (show x.session.toNat < 8 by omega)] at v1
          have l1 : ob < W3.heap.size := Nat.lt_of_lt_of_le lob hB3.size
          have l2 : wb < W3.heap.size := Nat.lt_of_lt_of_le hwbl hB3.size
          have l3 : b < W3.heap.size := Nat.lt_of_lt_of_le hab hB3.size
          have l4 : tb < W3.heap.size := (Array.getElem?_eq_some_iff.1 hbT3).1
          have o0 := aA (cs := [.bool ou, .int .i64 ot, .int .i64 pd, .slice F fl f, .slice R rl.length rc]) hob 0
          have o1 := aA (cs := [.bool ou, .int .i64 ot, .int .i64 pd, .slice F fl f, .slice R rl.length rc]) hob 1
          have o2 := aA (cs := [.bool ou, .int .i64 ot, .int .i64 pd, .slice F fl f, .slice R rl.length rc]) hob 2
          have o3 := aA (cs := [.bool ou, .int .i64 ot, .int .i64 pd, .slice F fl f, .slice R rl.length rc]) hob 3
          have o4 := aA (cs := [.bool ou, .int .i64 ot, .int .i64 pd, .slice F fl f, .slice R rl.length rc]) hob 4
          clear t4 t5 t6 t7 t8 t9 g4 g5 g6 g7 g8 g9 r0 r1 r2 r3 r4
          simp only [List.getElem?_cons_zero, List.getElem?_cons_succ] at o0 o1 o2 o3 o4
          have i2 : (0 : Int) ≤ (n : Int) := by omega
          have i3 : (n : Int) ≤ 60 := by have := HE.out.2.1; omega
          clear hW3 hbT3 hob hwb a0 hB3
          have Q1 := zh q1
          obtain ⟨qb, hqb⟩ : ∃ qb : Bool, qb = ((ed == 0) && (r.kind == 6) && !(decide (x.session.toNat ∈ ms)) && u && decide (N (k + 1) = n)) := ⟨_, rfl⟩
          have Hqb := zh hqb
          clear hqb q1 hc
          by_cases hnl : n < rl.length
          · have i1 : (n : Int) < (rl.length : Int) := by omega
            refine wp_region_held_drew (S := (fun w' : World => w'.cell? ⟨ob, 0, none⟩ = some (.bool ou) ∧ w'.cell? ⟨ob, 1, none⟩ = some (.int .i64 ot) ∧ w'.cell? ⟨ob, 2, none⟩ = some (.int .i64 pd) ∧ w'.cell? ⟨ob, 3, none⟩ = some (.slice F fl f) ∧ w'.cell? ⟨ob, 4, none⟩ = some (.slice R rl.length rc) ∧ w'.cell? ⟨b, off + k * 4 + 1, none⟩ = some (.int .i64 x.session) ∧ w'.cell? ⟨wb, x.session.toNat, none⟩ = some (.bool (decide (x.session.toNat ∈ ms))) ∧ w'.rangeAt tb 0 [.int .i64 x.kind, .int .i64 x.session, .int .i64 x.keep, .slice D x.data.length d, .bool (ed == 0), .int .i64 r.kind, .slice A5 r.name.length a5, .slice B5 r.key.length b5, .slice C5 r.last.length c5, .slice D5 r.value.length d5, .int .i64 0, .int .i64 0, .int .i64 0, .bool false, .slice none 0 0, .slice none 0 0, .slice none 0 0, .bool false, .slice none 0 0, .slice none 0 0, .slice none 0 0, .bool false, .slice none 0 0, .slice none 0 0, .slice none 0 0, .bool false])) ZG0 ?_ (fun hHeld => ?_)
            · exact ⟨o0, o1, o2, o3, o4, a1, v1, dQ1 HbT3.out⟩
            refine wpAnyH_take (i := 0) (oi := { dst := some 48, op := Op.move (Operand.tmp 7), type := 3, pos := "top.go:112", after := #[], guard := none }) (v := ?v0) rfl ZG0 ZG0 ZG0 (fun _ _ _ h => h) (Or.inl ⟨by rfl, ?y0⟩) hHeld ?z0
            case y0 => (intro w hSw; (try dsimp only at hSw); go_simp; (try with_reducible rfl))
            try simp only [Act.put, List.setIfInBounds_toArray, List.set_cons_zero, List.set_cons_succ]
            refine wpAnyH_take (i := 1) (oi := { dst := some 49, op := Op.fieldAddr 34 (Operand.tmp 3) 4, type := 0, pos := "top.go:112", after := #[], guard := none }) (v := ?v1) rfl ZG0 ZG0 ZG0 (fun _ _ _ h => h) (Or.inl ⟨by rfl, ?y1⟩) hHeld ?z1
            case y1 => (intro w hSw; (try dsimp only at hSw); go_simp; (try with_reducible rfl))
            try simp only [Act.put, List.setIfInBounds_toArray, List.set_cons_zero, List.set_cons_succ]
            refine wpAnyH_take (i := 2) (oi := { dst := some 50, op := Op.load 32 (Operand.tmp 49), type := 32, pos := "top.go:112", after := #[{ on := 1, ground := Ground.data }], guard := none }) (v := ?v2) rfl ZG0 ZG0 ZG0 (fun _ _ _ h => h) (Or.inl ⟨by rfl, ?y2⟩) hHeld ?z2
            case y2 => (intro w hSw; (try dsimp only at hSw); go_simp; (try with_reducible rfl))
            try simp only [Act.put, List.setIfInBounds_toArray, List.set_cons_zero, List.set_cons_succ]
            refine wpAnyH_take (i := 3) (oi := { dst := some 51, op := Op.call { callee := Callee.builtin Builtin.len, args := #[Operand.tmp 50], argTypes := #[32] }, type := 3, pos := "top.go:112", after := #[{ on := 2, ground := Ground.data }], guard := none }) (v := ?v3) rfl ZG0 ZG0 ZG0 (fun _ _ _ h => h) (Or.inl ⟨by rfl, ?y3⟩) hHeld ?z3
            case y3 => (intro w hSw; (try dsimp only at hSw); go_simp; (try with_reducible rfl))
            try simp only [Act.put, List.setIfInBounds_toArray, List.set_cons_zero, List.set_cons_succ]
            refine wpAnyH_take (i := 4) (oi := { dst := some 52, op := Op.binOp BinOp.lss 3 (Operand.tmp 48) (Operand.tmp 51) 3, type := 4, pos := "top.go:112", after := #[{ on := 0, ground := Ground.data }, { on := 3, ground := Ground.data }], guard := none }) (v := ?v4) rfl ZG0 ZG0 ZG0 (fun _ _ _ h => h) (Or.inl ⟨by rfl, ?y4⟩) hHeld ?z4
            case y4 => (intro w hSw; (try dsimp only at hSw); go_simp; (try with_reducible rfl))
            try simp only [Act.put, List.setIfInBounds_toArray, List.set_cons_zero, List.set_cons_succ]
            refine wpAnyH_take (i := 5) (oi := { dst := some 53, op := Op.move (Operand.tmp 52), type := 4, pos := "top.go:112", after := #[{ on := 4, ground := Ground.data }], guard := none }) (v := ?v5) rfl ZG0 ZG0 ZG0 (fun _ _ _ h => h) (Or.inl ⟨by rfl, ?y5⟩) hHeld ?z5
            case y5 => (intro w hSw; (try dsimp only at hSw); go_simp; (try with_reducible rfl))
            try simp only [Act.put, List.setIfInBounds_toArray, List.set_cons_zero, List.set_cons_succ]
            refine wpAnyH_take (i := 6) (oi := { dst := some 54, op := Op.move (Operand.tmp 0), type := 25, pos := "top.go:112", after := #[{ on := 5, ground := Ground.guard }], guard := some (5, true) }) (v := ?v6) rfl ZG0 ZG0 ZG0 (fun _ _ _ h => h) (Or.inl ⟨by rfl, ?y6⟩) hHeld ?z6
            case y6 => (intro w hSw; (try dsimp only at hSw); go_simp; (try with_reducible rfl))
            try simp only [Act.put, List.setIfInBounds_toArray, List.set_cons_zero, List.set_cons_succ]
            refine wpAnyH_take (i := 7) (oi := { dst := some 55, op := Op.move (Operand.tmp 11), type := 3, pos := "top.go:112", after := #[{ on := 5, ground := Ground.guard }], guard := some (5, true) }) (v := ?v7) rfl ZG0 ZG0 ZG0 (fun _ _ _ h => h) (Or.inl ⟨by rfl, ?y7⟩) hHeld ?z7
            case y7 => (intro w hSw; (try dsimp only at hSw); go_simp; (try with_reducible rfl))
            try simp only [Act.put, List.setIfInBounds_toArray, List.set_cons_zero, List.set_cons_succ]
            refine wpAnyH_take (i := 8) (oi := { dst := some 56, op := Op.load 34 (Operand.tmp 3), type := 34, pos := "top.go:112", after := #[{ on := 5, ground := Ground.guard }], guard := some (5, true) }) (v := ?v8) rfl ZG0 ZG0 ZG0 (fun _ _ _ h => h) (Or.inl ⟨by rfl, ?y8⟩) hHeld ?z8
            case y8 => (intro w hSw; (try dsimp only at hSw); go_simp; (try with_reducible rfl))
            try simp only [Act.put, List.setIfInBounds_toArray, List.set_cons_zero, List.set_cons_succ]
            refine wpAnyH_take (i := 9) (oi := { dst := some 57, op := Op.move (Operand.tmp 7), type := 3, pos := "top.go:112", after := #[{ on := 5, ground := Ground.guard }], guard := some (5, true) }) (v := ?v9) rfl ZG0 ZG0 ZG0 (fun _ _ _ h => h) (Or.inl ⟨by rfl, ?y9⟩) hHeld ?z9
            case y9 => (intro w hSw; (try dsimp only at hSw); go_simp; (try with_reducible rfl))
            try simp only [Act.put, List.setIfInBounds_toArray, List.set_cons_zero, List.set_cons_succ]
            refine wpAnyH_take (i := 10) (oi := { dst := some 58, op := Op.move (Operand.tmp 10), type := 4, pos := "top.go:112", after := #[{ on := 5, ground := Ground.guard }], guard := some (5, true) }) (v := ?v10) rfl ZG0 ZG0 ZG0 (fun _ _ _ h => h) (Or.inl ⟨by rfl, ?y10⟩) hHeld ?z10
            case y10 => (intro w hSw; (try dsimp only at hSw); go_simp; (try with_reducible rfl))
            try simp only [Act.put, List.setIfInBounds_toArray, List.set_cons_zero, List.set_cons_succ]
            refine wpAnyH_take (i := 11) (oi := { dst := some 59, op := Op.move (Operand.tmp 0), type := 25, pos := "top.go:112", after := #[{ on := 5, ground := Ground.guard }], guard := some (5, true) }) (v := ?v11) rfl ZG0 ZG0 ZG0 (fun _ _ _ h => h) (Or.inl ⟨by rfl, ?y11⟩) hHeld ?z11
            case y11 => (intro w hSw; (try dsimp only at hSw); go_simp; (try with_reducible rfl))
            try simp only [Act.put, List.setIfInBounds_toArray, List.set_cons_zero, List.set_cons_succ]
            refine wpAnyH_take (i := 12) (oi := { dst := some 60, op := Op.move (Operand.tmp 11), type := 3, pos := "top.go:112", after := #[{ on := 5, ground := Ground.guard }], guard := some (5, true) }) (v := ?v12) rfl ZG0 ZG0 ZG0 (fun _ _ _ h => h) (Or.inl ⟨by rfl, ?y12⟩) hHeld ?z12
            case y12 => (intro w hSw; (try dsimp only at hSw); go_simp; (try with_reducible rfl))
            try simp only [Act.put, List.setIfInBounds_toArray, List.set_cons_zero, List.set_cons_succ]
            refine wpAnyH_take (i := 13) (oi := { dst := some 61, op := Op.indexAddr 25 (Operand.tmp 59) (Operand.tmp 60), type := 0, pos := "top.go:112", after := #[{ on := 11, ground := Ground.data }, { on := 12, ground := Ground.data }, { on := 5, ground := Ground.guard }], guard := some (5, true) }) (v := ?v13) rfl ZG0 ZG0 ZG0 (fun _ _ _ h => h) (Or.inl ⟨by rfl, ?y13⟩) hHeld ?z13
            case y13 => (intro w hSw; (try dsimp only at hSw); go_simp; (try with_reducible rfl))
            try simp only [Act.put, List.setIfInBounds_toArray, List.set_cons_zero, List.set_cons_succ]
            refine wpAnyH_take (i := 14) (oi := { dst := some 62, op := Op.fieldAddr 38 (Operand.tmp 61) 1, type := 0, pos := "top.go:112", after := #[{ on := 13, ground := Ground.data }, { on := 5, ground := Ground.guard }], guard := some (5, true) }) (v := ?v14) rfl ZG0 ZG0 ZG0 (fun _ _ _ h => h) (Or.inl ⟨by rfl, ?y14⟩) hHeld ?z14
            case y14 => (intro w hSw; (try dsimp only at hSw); go_simp; (try with_reducible rfl))
            try simp only [Act.put, List.setIfInBounds_toArray, List.set_cons_zero, List.set_cons_succ]
            refine wpAnyH_take (i := 15) (oi := { dst := some 63, op := Op.load 3 (Operand.tmp 62), type := 3, pos := "top.go:112", after := #[{ on := 14, ground := Ground.data }, { on := 5, ground := Ground.guard }], guard := some (5, true) }) (v := ?v15) rfl ZG0 ZG0 ZG0 (fun _ _ _ h => h) (Or.inl ⟨by rfl, ?y15⟩) hHeld ?z15
            case y15 => (intro w hSw; (try dsimp only at hSw); go_simp; (try with_reducible rfl))
            try simp only [Act.put, List.setIfInBounds_toArray, List.set_cons_zero, List.set_cons_succ]
            refine wpAnyH_take (i := 16) (oi := { dst := some 64, op := Op.indexAddr 104 (Operand.tmp 8) (Operand.tmp 63), type := 0, pos := "top.go:112", after := #[{ on := 15, ground := Ground.data }, { on := 5, ground := Ground.guard }], guard := some (5, true) }) (v := ?v16) rfl ZG0 ZG0 ZG0 (fun _ _ _ h => h) (Or.inl ⟨by rfl, ?y16⟩) hHeld ?z16
            case y16 => (intro w hSw; (try dsimp only at hSw); go_simp; (try with_reducible rfl))
            try simp only [Act.put, List.setIfInBounds_toArray, List.set_cons_zero, List.set_cons_succ]
            refine wpAnyH_take (i := 17) (oi := { dst := some 65, op := Op.load 4 (Operand.tmp 64), type := 4, pos := "top.go:112", after := #[{ on := 16, ground := Ground.data }, { on := 5, ground := Ground.guard }], guard := some (5, true) }) (v := ?v17) rfl ZG0 ZG0 ZG0 (fun _ _ _ h => h) (Or.inl ⟨by rfl, ?y17⟩) hHeld ?z17
            case y17 => (intro w hSw; (try dsimp only at hSw); go_simp; (try with_reducible rfl))
            try simp only [Act.put, List.setIfInBounds_toArray, List.set_cons_zero, List.set_cons_succ]
            refine' wpAnyH_take (i := 18) (oi := { dst := some 66, op := Op.load 77 (Operand.tmp 12), type := 77, pos := "top.go:112", after := #[{ on := 5, ground := Ground.guard }], guard := some (5, true) }) (v := _) rfl ZG0 ZG0 ZG0 (fun _ _ _ h => h) (yieldsIf_load_mid (by rfl) _ _ rfl tb 0 rfl [.int .i64 x.kind, .int .i64 x.session, .int .i64 x.keep, .slice D x.data.length d, .bool (ed == 0), .int .i64 r.kind, .slice A5 r.name.length a5, .slice B5 r.key.length b5, .slice C5 r.last.length c5, .slice D5 r.value.length d5, .int .i64 0, .int .i64 0, .int .i64 0, .bool false, .slice none 0 0, .slice none 0 0, .slice none 0 0, .bool false, .slice none 0 0, .slice none 0 0, .slice none 0 0, .bool false, .slice none 0 0, .slice none 0 0, .slice none 0 0, .bool false] _ ?hS Tryz.underlying77 rfl told_size) hHeld ?z18
            case hS => (intro w hSw; exact hSw.2.2.2.2.2.2.2)
            try simp only [Act.put, List.setIfInBounds_toArray, List.set_cons_zero, List.set_cons_succ]
            refine wpAnyH_ready (rs := [19]) ZG0 ZH2 ?_
            refine AllReadyH.cons (o := { dst := some 67, op := Op.call { callee := Callee.value (Operand.func 41), args := #[Operand.tmp 54, Operand.tmp 55, Operand.tmp 56, Operand.tmp 57, Operand.tmp 58, Operand.tmp 65, Operand.tmp 66], argTypes := #[25, 3, 34, 3, 4, 4, 77] }, type := 4, pos := "top.go:112", after := #[{ on := 6, ground := Ground.data }, { on := 7, ground := Ground.data }, { on := 8, ground := Ground.data }, { on := 9, ground := Ground.data }, { on := 10, ground := Ground.data }, { on := 17, ground := Ground.data }, { on := 18, ground := Ground.data }, { on := 5, ground := Ground.chain }, { on := 5, ground := Ground.guard }], guard := some (5, true) }) rfl (fun K hK => ?_) ?more
            case more => exact AllReadyH.nil
            go_simp
            go_at_call 41; (with_reducible refine (HW.out _ k n u (decide (x.session.toNat ∈ ms)) (ed == 0) r.kind _ _ _ _ _ _ _ _ _ _ _ _ _ _ _ _ _ _ _ _ _ _ _ _ _ _ _ _ _ ?hb hlt ?hat).mono ?_); (case hb => exact HL.out.bel.next HB3.out.drew HL.out.bel.size); (case hat => omega); rw [← Hqb.out]; rintro e6 y6 ⟨rfl, hb6'⟩; have hb6 := Below.next (show Below W3.heap.size W3 W3.drew from (Below.refl _ _).drew) hb6' zn; have Hb6 := zh hb6; clear hb6'
            go_wp2_with fail
            refine hK.out _ _ ?_ (fun hHeld2 => ?_)
            · exact ⟨(hb6.cell l1).trans o0, (hb6.cell l1).trans o1, (hb6.cell l1).trans o2, (hb6.cell l1).trans o3, (hb6.cell l1).trans o4, (hb6.cell l3).trans a1, (hb6.cell l2).trans v1, dQ1 ((hb6.block tb l4).trans HbT3.out)⟩
            clear hK K hHeld
            try simp only [Act.put, List.setIfInBounds_toArray, List.set_cons_zero, List.set_cons_succ]
            refine wpAnyH_take (i := 20) (oi := { dst := some 68, op := Op.pick (Operand.tmp 53) (Operand.tmp 67) (Operand.const (Value.bool false)), type := 4, pos := "top.go:112", after := #[{ on := 5, ground := Ground.data }, { on := 19, ground := Ground.data }], guard := none }) (v := ?v20) rfl ZG0 ZG0 ZG0 (fun _ _ _ h => h) (Or.inl ⟨by rfl, ?y20⟩) hHeld2 ?z20
            case y20 => (intro w hSw; (try dsimp only at hSw); go_simp; (try with_reducible rfl))
            try simp only [Act.put, List.setIfInBounds_toArray, List.set_cons_zero, List.set_cons_succ]
            refine wpAnyH_done ZG0 ?_ _
            clear hHeld2
            rcases HC.out with ⟨_, q2, q3, q4, p, q5, q6⟩ | ⟨_, q2, q3, q4, q5, q6, q7, q8⟩ | ⟨h, _⟩ | ⟨h, _⟩ | ⟨h, _⟩ | ⟨h, _⟩ | ⟨h, _⟩
            · obtain ⟨hql, hqp⟩ := List.getElem?_eq_some_iff.1 q5
              have Q := zh (And.intro q2 (And.intro q3 q4))
              have Qp := zh hqp
              have Qs := zh q6
              have hqf : qb = false := by rw [Hqb.out, q2]; simp
              subst hqf
              clear q2 q3 q4 q5 q6 hqp
              clear o0 o1 o2 o3 o4 a1 v1
              have hob := (hb6.block ob l1).trans HO3.out
              have o4 := aA (cs := [.bool ou, .int .i64 ot, .int .i64 pd, .slice F fl f, .slice R rl.length rc]) hob 4
              simp only [List.getElem?_cons_zero, List.getElem?_cons_succ] at o4
              have hbw : Below w.heap.size w y6 := HL.out.bel.next (HB3.out.next hb6 HB3.out.size) HL.out.bel.size
              obtain ⟨rb, ro, V, v, P, pn, Q', qn, sa, sn, K, kn, X, xn, sb, sm, K', kn', X', xn', hRe, hrb, hcs, _⟩ := rep_vals (HR.out.below rpR_stays hbw) hql
              simp only [Qp.out] at hcs
              have Hcs := zh (show y6.rangeAt rb (ro + n * 15) [.int .i64 p.session, .int .i64 p.code, .int .i64 p.turn, .bool p.found, .slice V p.value.length v, .slice P p.pairs.length pn, .slice Q' p.root.length qn, .bool p.outer.empty, .slice sa p.outer.steps.length sn, .slice K p.outer.pair.1.length kn, .slice X p.outer.pair.2.length xn, .bool p.inner.empty, .slice sb p.inner.steps.length sm, .slice K' p.inner.pair.1.length kn', .slice X' p.inner.pair.2.length xn'] from fun j v' hv => (hcs j (List.getElem?_eq_some_iff.1 hv).1).trans hv)
              subst hRe
              have hbT6 := (hb6.block tb l4).trans HbT3.out
              have Hth := zh (show y6.there tb 10 15 from fun j hj => ⟨by rw [aA (cs := [.int .i64 x.kind, .int .i64 x.session, .int .i64 x.keep, .slice D x.data.length d, .bool (ed == 0), .int .i64 r.kind, .slice A5 r.name.length a5, .slice B5 r.key.length b5, .slice C5 r.last.length c5, .slice D5 r.value.length d5, .int .i64 0, .int .i64 0, .int .i64 0, .bool false, .slice none 0 0, .slice none 0 0, .slice none 0 0, .bool false, .slice none 0 0, .slice none 0 0, .slice none 0 0, .bool false, .slice none 0 0, .slice none 0 0, .slice none 0 0, .bool false]) hbT6 (10 + j), List.getElem?_eq_getElem (by simp; omega)]; rfl, aD (cs := [.int .i64 x.kind, .int .i64 x.session, .int .i64 x.keep, .slice D x.data.length d, .bool (ed == 0), .int .i64 r.kind, .slice A5 r.name.length a5, .slice B5 r.key.length b5, .slice C5 r.last.length c5, .slice D5 r.value.length d5, .int .i64 0, .int .i64 0, .int .i64 0, .bool false, .slice none 0 0, .slice none 0 0, .slice none 0 0, .bool false, .slice none 0 0, .slice none 0 0, .slice none 0 0, .bool false, .slice none 0 0, .slice none 0 0, .slice none 0 0, .bool false]) hbT6 (10 + j)⟩)
              have HbT6 := zh hbT6
              have nrb : rb ≠ tb := by
                obtain ⟨rb0, ro0, _, _, _, _, _, _, _, _, _, _, _, _, _, _, _, _, _, _, h1, h2, _⟩ := rep_vals HR.out hql
                have h3 := congrArg (fun o : Option Addr => o.map Addr.block) h1
                simp at h3
                have := Htb.out
                have := HL.out.bel.size
                omega
              clear hob hcs hbT6
              go_upto_region 24 with (first | (refine wpList_load_mid rfl 48 (.tmp 114) rfl rb (ro + n * 15) rfl [.int .i64 p.session, .int .i64 p.code, .int .i64 p.turn, .bool p.found, .slice V p.value.length v, .slice P p.pairs.length pn, .slice Q' p.root.length qn, .bool p.outer.empty, .slice sa p.outer.steps.length sn, .slice K p.outer.pair.1.length kn, .slice X p.outer.pair.2.length xn, .bool p.inner.empty, .slice sb p.inner.steps.length sm, .slice K' p.inner.pair.1.length kn', .slice X' p.inner.pair.2.length xn'] _ Hcs.out Tryz.underlying48 rfl rp_size ?_) | (refine wpList_store_mid rfl 48 (.tmp 116) (.tmp 115) rfl tb 10 #[.int .i64 p.session, .int .i64 p.code, .int .i64 p.turn, .bool p.found, .slice V p.value.length v, .slice P p.pairs.length pn, .slice Q' p.root.length qn, .bool p.outer.empty, .slice sa p.outer.steps.length sn, .slice K p.outer.pair.1.length kn, .slice X p.outer.pair.2.length xn, .bool p.inner.empty, .slice sb p.inner.steps.length sm, .slice K' p.inner.pair.1.length kn', .slice X' p.inner.pair.2.length xn'] rfl rfl Hth.out rp_size (by simp [Value.oneCell']) ?_))
              obtain ⟨W4, hW4⟩ : ∃ W4, W4 = y6.setCells tb 10 [.int .i64 p.session, .int .i64 p.code, .int .i64 p.turn, .bool p.found, .slice V p.value.length v, .slice P p.pairs.length pn, .slice Q' p.root.length qn, .bool p.outer.empty, .slice sa p.outer.steps.length sn, .slice K p.outer.pair.1.length kn, .slice X p.outer.pair.2.length xn, .bool p.inner.empty, .slice sb p.inner.steps.length sm, .slice K' p.inner.pair.1.length kn', .slice X' p.inner.pair.2.length xn'] := ⟨_, rfl⟩
              have hbT4 : W4.heap[tb]? = some (.cells #[.int .i64 x.kind, .int .i64 x.session, .int .i64 x.keep, .slice D x.data.length d, .bool (ed == 0), .int .i64 r.kind, .slice A5 r.name.length a5, .slice B5 r.key.length b5, .slice C5 r.last.length c5, .slice D5 r.value.length d5, .int .i64 p.session, .int .i64 p.code, .int .i64 p.turn, .bool p.found, .slice V p.value.length v, .slice P p.pairs.length pn, .slice Q' p.root.length qn, .bool p.outer.empty, .slice sa p.outer.steps.length sn, .slice K p.outer.pair.1.length kn, .slice X p.outer.pair.2.length xn, .bool p.inner.empty, .slice sb p.inner.steps.length sm, .slice K' p.inner.pair.1.length kn', .slice X' p.inner.pair.2.length xn', .bool false] 77 (0, 0)) := by rw [hW4]; exact dQ8 [.int .i64 p.session, .int .i64 p.code, .int .i64 p.turn, .bool p.found, .slice V p.value.length v, .slice P p.pairs.length pn, .slice Q' p.root.length qn, .bool p.outer.empty, .slice sa p.outer.steps.length sn, .slice K p.outer.pair.1.length kn, .slice X p.outer.pair.2.length xn, .bool p.inner.empty, .slice sb p.inner.steps.length sm, .slice K' p.inner.pair.1.length kn', .slice X' p.inner.pair.2.length xn'] 10 y6 [.int .i64 x.kind, .int .i64 x.session, .int .i64 x.keep, .slice D x.data.length d, .bool (ed == 0), .int .i64 r.kind, .slice A5 r.name.length a5, .slice B5 r.key.length b5, .slice C5 r.last.length c5, .slice D5 r.value.length d5, .int .i64 0, .int .i64 0, .int .i64 0, .bool false, .slice none 0 0, .slice none 0 0, .slice none 0 0, .bool false, .slice none 0 0, .slice none 0 0, .slice none 0 0, .bool false, .slice none 0 0, .slice none 0 0, .slice none 0 0, .bool false] HbT6.out ZH2
              have hB4 : Below wr.heap.size wr W4 := by rw [hW4]; exact dQ9 _ _ _ (HB3.out.next Hb6.out HB3.out.size) hlt0
              (first | rw [← hW4] | (show _ ; rw [show y6.setCells tb 10 (#[.int .i64 p.session, .int .i64 p.code, .int .i64 p.turn, .bool p.found, .slice V p.value.length v, .slice P p.pairs.length pn, .slice Q' p.root.length qn, .bool p.outer.empty, .slice sa p.outer.steps.length sn, .slice K p.outer.pair.1.length kn, .slice X p.outer.pair.2.length xn, .bool p.inner.empty, .slice sb p.inner.steps.length sm, .slice K' p.inner.pair.1.length kn', .slice X' p.inner.pair.2.length xn'] : Array Value).toList = W4 from hW4.symm]))
              have t25 := aA (cs := [.int .i64 x.kind, .int .i64 x.session, .int .i64 x.keep, .slice D x.data.length d, .bool (ed == 0), .int .i64 r.kind, .slice A5 r.name.length a5, .slice B5 r.key.length b5, .slice C5 r.last.length c5, .slice D5 r.value.length d5, .int .i64 p.session, .int .i64 p.code, .int .i64 p.turn, .bool p.found, .slice V p.value.length v, .slice P p.pairs.length pn, .slice Q' p.root.length qn, .bool p.outer.empty, .slice sa p.outer.steps.length sn, .slice K p.outer.pair.1.length kn, .slice X p.outer.pair.2.length xn, .bool p.inner.empty, .slice sb p.inner.steps.length sm, .slice K' p.inner.pair.1.length kn', .slice X' p.inner.pair.2.length xn', .bool false]) hbT4 25
              have g25 := aD (cs := [.int .i64 x.kind, .int .i64 x.session, .int .i64 x.keep, .slice D x.data.length d, .bool (ed == 0), .int .i64 r.kind, .slice A5 r.name.length a5, .slice B5 r.key.length b5, .slice C5 r.last.length c5, .slice D5 r.value.length d5, .int .i64 p.session, .int .i64 p.code, .int .i64 p.turn, .bool p.found, .slice V p.value.length v, .slice P p.pairs.length pn, .slice Q' p.root.length qn, .bool p.outer.empty, .slice sa p.outer.steps.length sn, .slice K p.outer.pair.1.length kn, .slice X p.outer.pair.2.length xn, .bool p.inner.empty, .slice sb p.inner.steps.length sm, .slice K' p.inner.pair.1.length kn', .slice X' p.inner.pair.2.length xn', .bool false]) hbT4 25
              simp only [List.getElem?_cons_zero, List.getElem?_cons_succ] at t25
              have HB4 := zh hB4
              have HbT4 := zh hbT4
              clear hW4 hbT4 hB4
              go_upto_region 25 with fail
              obtain ⟨W5, hW5⟩ : ∃ W5, W5 = W4.setCell ⟨tb, 25, none⟩ (.bool true) := ⟨_, rfl⟩
              rw [← hW5]
              have hbT5 : W5.heap[tb]? = some (.cells #[.int .i64 x.kind, .int .i64 x.session, .int .i64 x.keep, .slice D x.data.length d, .bool (ed == 0), .int .i64 r.kind, .slice A5 r.name.length a5, .slice B5 r.key.length b5, .slice C5 r.last.length c5, .slice D5 r.value.length d5, .int .i64 p.session, .int .i64 p.code, .int .i64 p.turn, .bool p.found, .slice V p.value.length v, .slice P p.pairs.length pn, .slice Q' p.root.length qn, .bool p.outer.empty, .slice sa p.outer.steps.length sn, .slice K p.outer.pair.1.length kn, .slice X p.outer.pair.2.length xn, .bool p.inner.empty, .slice sb p.inner.steps.length sm, .slice K' p.inner.pair.1.length kn', .slice X' p.inner.pair.2.length xn', .bool true] 77 (0, 0)) := by rw [hW5]; exact heap_setCell_same _ tb 25 _ _ _ HbT4.out
              have hB5 : Below wr.heap.size wr W5 := by rw [hW5]; exact HB4.out.setCell (p := ⟨tb, 25, none⟩) hlt0 _
              clear t25 g25 o4
              have a1 := (hB5.cell (p := ⟨b, off + k * 4 + 1, none⟩) hab).trans A1.out
              have t10 := aA (cs := [.int .i64 x.kind, .int .i64 x.session, .int .i64 x.keep, .slice D x.data.length d, .bool (ed == 0), .int .i64 r.kind, .slice A5 r.name.length a5, .slice B5 r.key.length b5, .slice C5 r.last.length c5, .slice D5 r.value.length d5, .int .i64 p.session, .int .i64 p.code, .int .i64 p.turn, .bool p.found, .slice V p.value.length v, .slice P p.pairs.length pn, .slice Q' p.root.length qn, .bool p.outer.empty, .slice sa p.outer.steps.length sn, .slice K p.outer.pair.1.length kn, .slice X p.outer.pair.2.length xn, .bool p.inner.empty, .slice sb p.inner.steps.length sm, .slice K' p.inner.pair.1.length kn', .slice X' p.inner.pair.2.length xn', .bool true]) hbT5 10
              simp only [List.getElem?_cons_zero, List.getElem?_cons_succ] at t10
              rw [Qs.out] at t10
              have HB5 := zh hB5
              have HbT5 := zh hbT5
              clear hW5 hB5 hbT5
              go_quiet (fail)
              go_wp2_with fail
              go_meet
              have hB6 : Below wr.heap.size wr (W5.drewN nq) := HB5.out.trans ⟨rfl, rfl, rfl, zn, fun _ _ => rfl⟩
              exact ⟨by rw [Q.out.1]; first | go_num | simp, by rw [Q.out.2.1], by rw [Q.out.2.2], aC.of_below hB6, hB6.mono (Nat.le_of_lt hwbl), by rw [Q.out.2.1]; exact (hB6.block wb hwbl).trans HL.out.box, [.int .i64 x.kind, .int .i64 x.session, .int .i64 x.keep, .slice D x.data.length d, .bool (ed == 0), .int .i64 r.kind, .slice A5 r.name.length a5, .slice B5 r.key.length b5, .slice C5 r.last.length c5, .slice D5 r.value.length d5, .int .i64 p.session, .int .i64 p.code, .int .i64 p.turn, .bool p.found, .slice V p.value.length v, .slice P p.pairs.length pn, .slice Q' p.root.length qn, .bool p.outer.empty, .slice sa p.outer.steps.length sn, .slice K p.outer.pair.1.length kn, .slice X p.outer.pair.2.length xn, .bool p.inner.empty, .slice sb p.inner.steps.length sm, .slice K' p.inner.pair.1.length kn', .slice X' p.inner.pair.2.length xn', .bool true], rfl, by simp [Value.oneCell'], HbT5.out⟩
            · have hde0 := Hde0.out
              rw [hde0] at q6
              rw [hde0] at q7
              dsimp only at q6 q7
              have Q := zh (And.intro q2 (And.intro q3 q4))
              have hnd : decide (x.session.toNat ∈ ms) = false := by simpa using q8
              have e6 : (r.kind != 6) = false := by simp [q7]
              have e0 : (ed == 0) = true := by simp [q6]
              have HN8 := zh hnd
              have hms := HE.out.2.2
              have hfw := aD HW3.out x.session.toNat
              have i5 : (ms.length : Int) ≤ 60 := by omega
              have hqt : qb = true := by rw [Hqb.out, q2, hnd, e0, q7, q5]; simp
              have E0 := zh e0
              subst q5 hqt
              clear q2 q3 q4 q6 q7 q8 hnd e0 hde0
              have hwb6 := (hb6.block wb l2).trans HW3.out
              have v1' := aA hwb6 x.session.toNat
              rw [dP5 _ (show x.session.toNat < 8 by omega), HN8.out] at v1'
              have f1' := aD hwb6 x.session.toNat
              have a1' := (hb6.cell (p := ⟨b, off + k * 4 + 1, none⟩) l3).trans a1
              have HW6 := zh hwb6
              clear o0 o1 o2 o3 o4 a1 v1 hwb6 hfw e6
              go_wp2_with fail
              go_meet
              have hB6 : Below wr.heap.size wr y6 := HB3.out.next hb6 HB3.out.size
              exact ⟨by rw [Q.out.1], by rw [Q.out.2.1, List.length_append, List.length_singleton]; first | go_num | simp, by rw [Q.out.2.2], ⟨by simpa using hB6.size, fun b hb hl => ((aD1 y6 wb x.session.toNat (.bool true)).block b hb (Nat.lt_of_lt_of_le hl hB6.size)).trans (hB6.block b hl)⟩, (hB6.mono (Nat.le_of_lt hwbl)).setCell (p := ⟨wb, x.session.toNat, none⟩) zn _, by rw [Q.out.2.1, ← wl_add, ← List.setIfInBounds_toArray]; exact heap_setCell_same y6 wb x.session.toNat _ _ (.bool true) HW6.out, [.int .i64 x.kind, .int .i64 x.session, .int .i64 x.keep, .slice D x.data.length d, .bool (ed == 0), .int .i64 r.kind, .slice A5 r.name.length a5, .slice B5 r.key.length b5, .slice C5 r.last.length c5, .slice D5 r.value.length d5, .int .i64 0, .int .i64 0, .int .i64 0, .bool false, .slice none 0 0, .slice none 0 0, .slice none 0 0, .bool false, .slice none 0 0, .slice none 0 0, .slice none 0 0, .bool false, .slice none 0 0, .slice none 0 0, .slice none 0 0, .bool false], rfl, by simp [Value.oneCell'], ((aD1 y6 wb x.session.toNat (.bool true)).block tb ntw (Nat.lt_of_lt_of_le l4 hb6.size)).trans ((hb6.block tb l4).trans HbT3.out)⟩
            all_goals exact absurd (Q1.out.symm.trans h) ZD9
          · rcases HC.out with ⟨_, q2, q3, q4, p, q5, q6⟩ | ⟨_, q2, q3, q4, q5, q6, q7, q8⟩ | ⟨h, _⟩ | ⟨h, _⟩ | ⟨h, _⟩ | ⟨h, _⟩ | ⟨h, _⟩
            · exact absurd (List.getElem?_eq_some_iff.1 q5).1 hnl
            · have hde0 := Hde0.out
              rw [hde0] at q6
              rw [hde0] at q7
              dsimp only at q6 q7
              have Q := zh (And.intro q2 (And.intro q3 q4))
              have hnd : decide (x.session.toNat ∈ ms) = false := by simpa using q8
              have e6 : (r.kind != 6) = false := by simp [q7]
              have e0 : (ed == 0) = true := by simp [q6]
              have HN8 := zh hnd
              have hms := HE.out.2.2
              have hfw := aD HW3.out x.session.toNat
              have i5 : (ms.length : Int) ≤ 60 := by omega
              have hqt : qb = true := by rw [Hqb.out, q2, hnd, e0, q7, q5]; simp
              have E0 := zh e0
              subst q5 hqt
              clear q2 q3 q4 q6 q7 q8 hnd e0 hde0
              rw [HN8.out] at v1
              have i1 : (rl.length : Int) ≤ (n : Int) := by omega
              have t4 := aA (cs := [.int .i64 x.kind, .int .i64 x.session, .int .i64 x.keep, .slice D x.data.length d, .bool (ed == 0), .int .i64 r.kind, .slice A5 r.name.length a5, .slice B5 r.key.length b5, .slice C5 r.last.length c5, .slice D5 r.value.length d5, .int .i64 0, .int .i64 0, .int .i64 0, .bool false, .slice none 0 0, .slice none 0 0, .slice none 0 0, .bool false, .slice none 0 0, .slice none 0 0, .slice none 0 0, .bool false, .slice none 0 0, .slice none 0 0, .slice none 0 0, .bool false]) HbT3.out 4
              simp only [List.getElem?_cons_zero, List.getElem?_cons_succ] at t4
              rw [E0.out] at t4
              have hbG3 := HG3.out
              have r0 := aA (cs := [.int .i64 r.kind, .slice A5 r.name.length a5, .slice B5 r.key.length b5, .slice C5 r.last.length c5, .slice D5 r.value.length d5]) hbG3 0
              simp only [List.getElem?_cons_zero] at r0
              clear hbG3
              go_quiet (fail)
              go_wp2_with fail
              go_meet
              have hB6 := HB3.out
              have hB7 : Below wr.heap.size wr (W3.drewN nq) := hB6.trans ⟨rfl, rfl, rfl, zn, fun _ _ => rfl⟩
              exact ⟨by rw [Q.out.1], by rw [Q.out.2.1, List.length_append, List.length_singleton]; first | go_num | simp, by rw [Q.out.2.2], ⟨by simpa using hB6.size, fun b hb hl => ((aD1 (W3.drewN nq) wb x.session.toNat (.bool true)).block b hb (Nat.lt_of_lt_of_le hl hB6.size)).trans (hB6.block b hl)⟩, (hB7.mono (Nat.le_of_lt hwbl)).setCell (p := ⟨wb, x.session.toNat, none⟩) zn _, by rw [Q.out.2.1, ← wl_add, ← List.setIfInBounds_toArray]; exact heap_setCell_same (W3.drewN nq) wb x.session.toNat _ _ (.bool true) HW3.out, [.int .i64 x.kind, .int .i64 x.session, .int .i64 x.keep, .slice D x.data.length d, .bool (ed == 0), .int .i64 r.kind, .slice A5 r.name.length a5, .slice B5 r.key.length b5, .slice C5 r.last.length c5, .slice D5 r.value.length d5, .int .i64 0, .int .i64 0, .int .i64 0, .bool false, .slice none 0 0, .slice none 0 0, .slice none 0 0, .bool false, .slice none 0 0, .slice none 0 0, .slice none 0 0, .bool false, .slice none 0 0, .slice none 0 0, .slice none 0 0, .bool false], rfl, by simp [Value.oneCell'], ((aD1 (W3.drewN nq) wb x.session.toNat (.bool true)).block tb ntw l4).trans HbT3.out⟩
            all_goals exact absurd (Q1.out.symm.trans h) ZD9
        rcases hc with ⟨q0, _⟩ | ⟨q0, _⟩ | ⟨q1, q2, q3, q4, q5, q6⟩ | ⟨q1, q2, q3, q4, q5⟩ | ⟨q1, q2, q3, q4, q5⟩ | ⟨q1, q2, q3, q4, q5⟩ | ⟨q1, q2, q3, q4⟩
        case' inl => exact absurd q0 q9
        case' inr.inl => exact absurd q0 q9
        all_goals
          rw [q1] at a0
        case' inr.inr.inl =>
          obtain ⟨w5, rfl⟩ : ∃ w5, w5 = wr := ⟨wr, rfl⟩
          subst q2
          have Q := zh (And.intro q3 (And.intro q4 q5))
          have Q6 := zh q6
          clear q1 q3 q4 q5 q6
          go_wp2_with fail
          go_loopw [7, 15] (fun at' kk wx => ∃ j q, j ≤ ms.length ∧ q = n + j ∧ at' = .int .i64 (q : Int) ∧ kk = .int .i64 (j : Int) ∧ aC (fun b => b ≠ wb) w5 wx ∧ Below wb w5 wx ∧ wx.heap[wb]? = some (.cells (wl (ms.drop j)).toArray 104 (0, 0)) ∧ ∃ cs : List Value, cs.length = 26 ∧ (∀ u ∈ cs, u.oneCell' = true) ∧ wx.heap[tb]? = some (.cells cs.toArray 77 (0, 0))) (fun _ kk _ => ms.length - (intOf kk).toNat)
          case atStart => exact ⟨0, n, AO, by omega, rfl, rfl, S1.out, B1.out, HwB.out, T1.out⟩
          case round =>
            obtain ⟨j, q, hj, hq, rfl, rfl, y1, y2, y3, y4⟩ := hrel
            have Y1 := zh y1
            have Y2 := zh y2
            have Y3 := zh y3
            have Y4 := zh y4
            have Hq := zh hq
            clear y1 y2 y3 y4
            have hms := HE.out.2.2
            by_cases hjl : j < ms.length
            · obtain ⟨p, p1, p2, p3⟩ := Q6.out j hjl
              rw [← hq] at p1
              obtain ⟨hql, hqp⟩ := List.getElem?_eq_some_iff.1 p1
              have hs8 := HM.out.1 ms[j] (List.getElem_mem hjl)
              have hin : ms[j] ∈ ms.drop j := by rw [List.drop_eq_getElem_cons hjl]; exact List.mem_cons_self
              have hwd := zh (wl_drop HM.out.2 hjl)
              have hbx : Below w.heap.size w wr := HL.out.bel.trans (Y2.out.mono (by have := HS.out; omega))
              obtain ⟨rb, ro, V, v, P, pn, Q', qn, sa, sn, K, kn, X, xn, sb, sm, K', kn', X', xn', hRe, hrb, hcs, _⟩ := rep_vals (HR.out.below rpR_stays hbx) hql
              have c0 := hcs 0 AO
              have c1 := hcs 1 AO
              simp only [dE6, Nat.add_zero, List.getElem?_cons_zero, List.getElem?_cons_succ] at c0 c1
              rw [hqp, p2] at c0
              rw [hqp, p3] at c1
              have hob := (Y1.out.block ob (by have := HS.out; show ob ≠ wb; omega) (by have := (Array.getElem?_eq_some_iff.1 HL.out.box).1; have := HS.out; omega)).trans ((HL.out.keep.block ob zn (Array.getElem?_eq_some_iff.1 Hob.out).1).trans Hob.out)
              have o4 := aA (cs := [.bool ou, .int .i64 ot, .int .i64 pd, .slice F fl f, .slice R rl.length rc]) hob 4
              simp only [List.getElem?_cons_zero, List.getElem?_cons_succ] at o4
              rw [hRe] at o4
              have v1 := aA Y3.out ms[j]
              have f1 := aD Y3.out ms[j]
              rw [dP5 _ hs8, decide_eq_true hin] at v1
              have hn6 := HE'.out.2.1
              rw [Q.out.1] at hn6
              generalize ms[j] = t at *
              have i1 : (j : Int) < (ms.length : Int) := by omega
              have i2 : (0 : Int) ≤ (q : Int) := by omega
              have i3 : (q : Int) < (rl.length : Int) := by omega
              have i4 : (q : Int) ≤ 60 := by omega
              have i5 : (0 : Int) ≤ (t : Int) := by omega
              have i6 : (t : Int) < 8 := by omega
              have i7 : (j : Int) ≤ 60 := by omega
              clear hcs hob hbx p1 p2 p3 hqp hin hRe a0 a1 a3 hq
              go_wp2_with fail
              go_roundw
              case rel =>
                have hq := Hq.out
                refine ⟨j + 1, q + 1, AO, by omega, by go_num, by go_num, ⟨by simpa using Y1.out.size, fun b hb hl => ((aD1 wr wb t (.bool false)).block b hb (Nat.lt_of_lt_of_le hl Y1.out.size)).trans (Y1.out.block b hb hl)⟩, Y2.out.setCell (p := ⟨wb, t, none⟩) zn _, ?_, ?_⟩
                · have h9 := heap_setCell_same wr wb t _ _ (.bool false) Y3.out
                  rw [List.setIfInBounds_toArray, hwd.out] at h9
                  exact h9
                · obtain ⟨cs, g1, g2, g3⟩ := Y4.out
                  exact ⟨cs, g1, g2, ((aD1 wr wb t (.bool false)).block tb ntw (Array.getElem?_eq_some_iff.1 g3).1).trans g3⟩
              case measure => simp [intOf]; omega
            · have i1 : (ms.length : Int) ≤ (j : Int) := by omega
              have hd : ms.drop j = [] := List.drop_eq_nil_of_le AO
              clear a0 a1 a3 hq
              go_wp2_with fail
              go_meet
              exact ⟨by rw [Q.out.1, Hq.out]; congr 2; omega, by rw [Q.out.2.1]; rfl, by rw [Q.out.2.2], Y1.out, Y2.out, by rw [Q.out.2.1, ← hd]; exact Y3.out, Y4.out⟩
        case' inr.inr.inr.inl =>
          subst q2
          have Q := zh (And.intro q3 (And.intro q4 q5))
          clear q1 q3 q4 q5
          go_wp2_with fail
          go_meet
          exact ⟨by rw [Q.out.1], by rw [Q.out.2.1], by rw [Q.out.2.2], S1.out, B1.out, by rw [Q.out.2.1]; exact HwB.out, T1.out⟩
        case' inr.inr.inr.inr.inl =>
          subst q2
          have Q := zh (And.intro q3 (And.intro q4 q5))
          clear q1 q3 q4 q5
          go_wp2_with (refine wpList_store_rowTo rfl 104 (.tmp 8) (.tmp 175) rfl rfl wb #[.bool false, .bool false, .bool false, .bool false, .bool false, .bool false, .bool false, .bool false] rfl rfl 104 (wl ms).toArray HwB.out size8 (by simp [wl]) (by simp [Value.oneCell']) ?_)
          go_meet
          exact ⟨by rw [Q.out.1], by rw [Q.out.2.1]; rfl, by rw [Q.out.2.2], ⟨by simpa using S1.out.size, fun b hb hl => (setRow_other _ _ _ _ hb).trans (S1.out.block b hb hl)⟩, below_setRow B1.out zn _, by rw [Q.out.2.1, wl_nil]; exact setRow_heap _ _ _ _ _ _ HwB.out, by obtain ⟨cs, h1, h2, h3⟩ := T1.out; exact ⟨cs, h1, h2, (setRow_other _ _ _ _ ntw).trans h3⟩⟩
        case' inr.inr.inr.inr.inr.inl =>
          subst q2
          have Q := zh (And.intro q3 (And.intro q4 q5))
          clear q1 q3 q4 q5
          go_wp2_with fail
          go_meet
          exact ⟨by rw [Q.out.1], by rw [Q.out.2.1], by rw [Q.out.2.2], S1.out, B1.out, by rw [Q.out.2.1]; exact HwB.out, T1.out⟩
        case' inr.inr.inr.inr.inr.inr =>
          have Q := zh (And.intro q2 (And.intro q3 q4))
          clear q1 q2 q3 q4
          go_wp2_with fail
          go_meet
          exact ⟨by rw [Q.out.1], by rw [Q.out.2.1], by rw [Q.out.2.2], S1.out, B1.out, by rw [Q.out.2.1]; exact HwB.out, T1.out⟩
      case rest =>
        obtain ⟨rfl, rfl, rfl, hsame, hbel, hwbx, cs, hcl, hone, htx⟩ := hcut
        obtain ⟨c0, c1, c2, c3, c4, c5, c6, c7, c8, c9, c10, c11, c12, c13, c14, c15, c16, c17, c18, c19, c20, c21, c22, c23, c24, c25, rfl⟩ := list26 hcl
        obtain ⟨WF, rfl⟩ : ∃ WF, WF = wc := ⟨wc, rfl⟩
        have Htx := zh htx
        have Hone := zh hone
        have Hsame := zh hsame
        have Hbel := zh hbel
        have Hwbx := zh hwbx
        have hown := (HL.out.own.same_from tr_stays (hsame.weak fun b (hb : wb + 1 ≤ b) (e : b = wb) => by omega))
        have Hown := zh hown
        have hsz : wb + 1 ≤ WF.heap.size := by have := hbel.size; have := HL.out.bel.size; have := Htb.out; have := HS.out; have := HL.out.keep.size; have := HlW.out; omega
        clear htx hone hsame hbel hwbx hown a0 a1 a3 hcl
        obtain ⟨i9, z9, hi9, hz9, hz91, hz92, hz93⟩ := told_parts
        go_wp2_with (first | (refine wpList_load_row rfl 77 (.tmp 12) rfl tb rfl 77 #[c0, c1, c2, c3, c4, c5, c6, c7, c8, c9, c10, c11, c12, c13, c14, c15, c16, c17, c18, c19, c20, c21, c22, c23, c24, c25] (0, 0) _ Htx.out Tryz.underlying77 rfl told_size ?_) | (refine Go.Great.wpList_buildSliceTo rfl 63 77 1 _ rfl _ rfl (some 180) rfl Tryz.underlying63 #[c0, c1, c2, c3, c4, c5, c6, c7, c8, c9, c10, c11, c12, c13, c14, c15, c16, c17, c18, c19, c20, c21, c22, c23, c24, c25] ?hf ?_; (case hf => exact dQ4 _ _ _ _ _ _ _ _ _ _ _ _ _ _ _ _ _ _ _ _ _ _ _ _ _ _ )) | (at_builtin; refine wpl_cat tr_stays tr_one (S := aB (wb + 1)) _ rfl _ _ _ rfl (wb + 1) 77 i9 _ 26 432 Tryz.underlying63 hi9 hz9 hz91 hz92 hz93 ZD9 u6 (List.replicate k ()) rfl ?hown (some ⟨WF.heap.size, 0, none⟩) 1 1 [()] rfl rfl ?hsrc ?h63 ?hby ?hba ?_; (case hown => exact Hown.out.below tr_stays ((Below.refl _ _).alloc zn _)); (case hsrc => exact sl_one _ _ [c0, c1, c2, c3, c4, c5, c6, c7, c8, c9, c10, c11, c12, c13, c14, c15, c16, c17, c18, c19, c20, c21, c22, c23, c24, c25] _ (aK _ _ _) rfl () Hone.out ⟨hsz, Hown.out.apart _ zn _ zn⟩); (case h63 => (simp only [maxLen, List.length_replicate, List.length_cons, List.length_nil]; omega)); (case hby => (simp only [List.length_replicate, List.length_cons, List.length_nil]; omega)); (case hba => (have := hsz; simp; omega)); intro v9 y9 hown9 hb9 hg9 hat9))
        go_roundw
        case rel =>
          have hS := HS.out
          have hlw : wb < WF.heap.size := (Array.getElem?_eq_some_iff.1 Hwbx.out).1
          refine ⟨k + 1, AO, ⟨?b1, ?b2, ?b3, ?b4⟩, rfl, rfl, rfl, by go_num⟩
          case b1 => exact ((HL.out.bel.trans (Hbel.out.mono AO)).alloc AO _).trans (hb9.mono AO)
          case b2 => exact (HL.out.keep.trans ((Hsame.out.weak fun b (hb : b ≤ ob) (e : b = wb) => by omega).alloc _)).trans ⟨hb9.size, fun b hb _ => hb9.block b (by have hb' : b ≤ ob := hb; omega)⟩
          case b3 => exact (hb9.block wb AO).trans ((aB9 _ _ hlw).trans Hwbx.out)
          case b4 =>
            rw [show List.replicate (k + 1) () = List.replicate k () ++ [()] from List.replicate_succ']
            exact hown9
        case measure => simp [intOf]; omega
    · have hkl : k = xs.length := by omega
      subst hkl
      have hob := (HL.out.keep.block ob zn (Array.getElem?_eq_some_iff.1 Hob.out).1).trans Hob.out
      have o0 := aA (cs := [.bool ou, .int .i64 ot, .int .i64 pd, .slice F fl f, .slice R rl.length rc]) hob 0
      have o2 := aA (cs := [.bool ou, .int .i64 ot, .int .i64 pd, .slice F fl f, .slice R rl.length rc]) hob 2
      have o4 := aA (cs := [.bool ou, .int .i64 ot, .int .i64 pd, .slice F fl f, .slice R rl.length rc]) hob 4
      simp only [List.getElem?_cons_zero, List.getElem?_cons_succ] at o0 o2 o4
      rw [Hn.out, Hm.out, Hu.out]
      have i1 : (xs.length : Int) ≤ (xs.length : Int) := Int.le_refl _
      clear hob
      go_upto_region 46 with fail
      go_quiet (fail)
      go_wp2
      go_ret2
      exact ⟨_, rfl, HL.out.bel.trans ⟨rfl, rfl, rfl, zn, fun _ _ => rfl⟩⟩
end Go.Proofs.YtodopbnhkkkcbaaGreatDoor
