/- Forest: Tenants: words for memory. Facts alone. Walks: tenants copied, by the references and by package forest. Walks: what is refused of tenants: forest.Check, ForestFault. Walks: a name looked for among tenants; the pairs of a tenant. Walks: forest.Get, forest.Range and what the references say of them; the laws ForestChecks, ForestGets, ForestRanges. The laws ForestChecks, ForestGets, ForestRanges: their walks. Walk: forest.own. Walk: sameTenants. The conditions of each are in its words. -/
import Derived.Test.YtablgnacmpcfeaaGreatDoorKBase
import Derived.Test.YtablgnacmpcfeaaGreatDoorKTrees
import Derived.Test.YtablgnacmpcfeaaGreatDoorKTreeW
namespace Go.Proofs.YtablgnacmpcfeaaGreatDoor
open Go.RowKit
set_option linter.unusedVariables false
set_option linter.unusedSimpArgs false
set_option maxRecDepth 100000
set_option maxHeartbeats 8000000
abbrev Tn:=List UInt8 × List Pr
def bK4 (S:Nat→Prop) (w:World) (cs:List Value) (t:Tn):Prop :=
 ∃ A c B d,cs=[.slice A t.1.length c,.slice B t.2.length d]∧Bs S w A t.1∧Ps S w B t.2∧t.1.length≤big∧t.2.length*48≤140737488355328∧t.2.length≤d
theorem tenR_stays:bI bK4 :=
 ⟨fun _ _ _ _ _ hb ⟨A,c,B,d,h0,h1,h2,h3⟩=>⟨A,c,B,d,h0,h1.bsame hb,h2.same pairR_stays hb,h3⟩,fun _ _ _ _ _ hb ⟨A,c,B,d,h0,h1,h2,h3⟩=>⟨A,c,B,d,h0,h1.bless hb,h2.less pairR_stays hb,h3⟩⟩
theorem info_ten:(Tryz.prog.info? 165).map (fun i=>(i.zero,i.size,i.bytes))=some (some (.agg #[.slice none 0 0,.slice none 0 0]),2,48):=by kernel_rfl
abbrev Ts (S:Nat→Prop) (w:World) (A:Option Addr) (l:List Tn):Prop:=SL 2 bK4 S w A l
theorem aN8 {S:Nat→Prop} {w:World} {A:Option Addr} {l:List Tn} (h:Ts S w A l) {k:Nat} (hk:k<l.length) :
  ∃ b off K c V d,A=some ⟨b,off,none⟩∧S b∧b<w.heap.size∧w.cell? ⟨b,off+k*2,none⟩=some (.slice K l[k].1.length c)∧w.cell? ⟨b,off+k*2+1,none⟩=some (.slice V l[k].2.length d) ∧
   Bs S w K l[k].1∧Ps S w V l[k].2∧l[k].1.length≤big∧l[k].2.length*48≤140737488355328∧l[k].2.length≤d:=by
 obtain⟨b,off,cs,e,h0,hlt,h1,h2,A',c,B',d,rfl,h3,h4,h5,h6⟩:=h.at hk
 exact⟨b,off,A',c,B',d,e,h0,hlt,by simpa using h2 0 AO,by simpa using h2 1 AO,h3,h4,h5,h6⟩
theorem aW1 {P:Program} {α:Type} {R:(Nat→Prop)→World→List Value→α→Prop} (hR:bI R) {S:Nat→Prop} (w:World) {ops:Array Oper} {o:Oper} {a:Act} {K:Act→World→Prop} {Q:Exit→Act→World→Prop} {E:Prop} (hgd:o.guard=none) (s x:Operand) (t:TypeId)
  (ho:o.op=.call { callee:=.builtin .append,args:=#[s,x],argTypes:=#[t,t] })
  (base:Nat) (e:TypeId) (i:TypeInfo) (z:Value) (size bytes:Nat) (ht:P.underlying t=some (.slice e)) (hi:P.info? e=some i) (hz:i.zero=some z)
  (hsize:i.size=size) (hby:i.bytes=bytes) (hzs:z.cells.size=size) (hsz:0<size)
  (v:Value) (l:List α) (hs:a.eval s=v) (hown:Own size R S w base e v l)
  (A:Option Addr) (c:Nat) (cs:List Value) (hx:a.eval x=.slice A 1 c) (hl:cs.length=size) (hsrc:∃ ad,A=some ad∧∀ j u,cs[j]?=some u→w.cell? (ad.add j)=some u) (h1:∀ u ∈ cs,u.oneCell'=true)
  (h63:l.length+1≤maxLen) (hbytes:(l.length+1)*bytes≤140737488355328) (hbase:base≤w.heap.size)
  (d:α) (hd:R (fun b=>S b∧v.ownBlock≠some b) w cs d)
  (h:∀ v' w',Own size R S w' base e v' (l++[d])→Below base w w'→w.grownBy w' v.ownBlock→K (a.put o.dst v') w'):if Region.wanted o (yielded ops a.tmps)=true then Oper.wp P o a w K Q else E:=by
 have hw:Region.wanted o (yielded ops a.tmps)=true:=by simp[Region.wanted,hgd]
 rw[if_pos hw]
 obtain⟨xs,hx1,hx2⟩:=hown
 exact cJ7 w s x t ho base e i z size bytes ht hi hz hsize hby hzs hsz v l.length xs hs hx1 A 1 c cs hx AO (fun _=>hsrc) h1 h63 hbytes hbase
  fun v' w' g1 g2 g3=>h v' w' (Own.snoc hR hx2 hx1 g1 g2 g3 hd hl) (aA6 hx1 g2 hbase) g2
theorem bG9 {n base:Nat} {w W:World} {v:Value} {A B:Option Addr} {t:Tn} {c d:Nat} (h1:Bs (aB n) w A t.1) (h2:Ps (aB n) w B t.2) (g1:t.1.length≤big) (g2:t.2.length*48≤140737488355328) (g3:t.2.length≤d) (hs:aC (aB n) w W) (hb:base≤n) (hap:∀ b,aB n b→v.ownBlock≠some b) :
  bK4 (fun b=>aB base b∧v.ownBlock≠some b) W [.slice A t.1.length c,.slice B t.2.length d] t :=
 ⟨A,c,B,d,rfl,(h1.bsame hs).bless fun b _ h=>⟨Nat.le_trans hb h,hap b h⟩,(h2.same pairR_stays hs).less pairR_stays fun b _ h=>⟨Nat.le_trans hb h,hap b h⟩,g1,g2,g3⟩
def RetOwnTs (w:World) (l:List Tn) (e:Ending) (w':World):Prop :=
 ∃ v,e=.returned v∧Own 2 bK4 (aB w.heap.size) w' w.heap.size 165 v l∧Below w.heap.size w w'
def aG6 (t:Tn):Int:=if aI t.1≠0 then aI t.1 else if t.2.length=0 then 4 else aG t.2
def aX5 (l:List Tn) (i:Nat):Int :=
 if aG6 (l.getD i ([],[]))≠0 then aG6 (l.getD i ([],[])) else if 0<i∧lt (l.getD (i - 1) ([],[])).1 (l.getD i ([],[])).1=false then 3 else 0
def aL (l:List Tn):Int:=if 8<l.length then 1 else aB0 (aX5 l) l.length 0
theorem bA5 {l:List Tn} {k:Nat} (hk:k<l.length) (h:aG6 l[k]≠0):aX5 l k=aG6 l[k]:=by
 simp[aX5,hk,h]
theorem bI3 {l:List Tn} {k:Nat} (hk:k+1<l.length) (h:aG6 l[k+1]=0) (ho:lt l[k].1 l[k+1].1=false):aX5 l (k+1)=3:=by
 have hk':k<l.length:=by omega
 simp[aX5,hk,hk',h,ho]
theorem cD5 {l:List Tn} {k:Nat} (hk:k+1<l.length) (h:aG6 l[k+1]=0) (ho:lt l[k].1 l[k+1].1=true):aX5 l (k+1)=0:=by
 have hk':k<l.length:=by omega
 simp[aX5,hk,hk',h,ho]
theorem bM9 {l:List Tn} (hk:0<l.length) (h:aG6 l[0]=0):aX5 l 0=0:=by
 simp[aX5,hk,h]
theorem cD6 {t:Tn} (h:aI t.1≠0):aG6 t=aI t.1:=by simp[aG6,h]
theorem cD7 {t:Tn} (h:aI t.1=0) (h':t.2.length=0):aG6 t=4:=by simp only[aG6];rw[if_neg ZF9,if_pos h']
theorem bY9 {t:Tn} (h:aI t.1=0) (h':t.2.length≠0):aG6 t=aG t.2:=by simp only[aG6];rw[if_neg ZF9,if_neg h']
theorem aD6 (w:World) (A:Option Addr) (l:List Tn) (c:Nat) (ha:Ts All w A l) :
  Calls Tryz.prog 60 #[.slice A l.length c] w (bQ w (.int .i64 (aL l))):=by
 have Ha:=zh ha
 clear ha
 by_cases hbig:8<l.length
 ·go_enter Tryz.func60,Tryz.ntmps60
  go_wp2
  go_ret
  exact⟨aM (by simp[aL,hbig]),Below.refl _ _⟩
 ·have Hv:=zh (show aL l=aB0 (aX5 l) l.length 0 by simp[aL,hbig])
  have h60:decide (8<(l.length:Int))=false:=by simp;omega
  go_enter Tryz.func60,Tryz.ntmps60
  go_wp2
  clear h60
  go_loopw [12] (fun i wr=>∃ k:Nat,k≤l.length∧i=.int .i64 k∧aB0 (aX5 l) (l.length - k) k=aL l∧Below w.heap.size w wr) (fun i _=>l.length - (intOf i).toNat)
  case atStart=>exact⟨0,AO,rfl,by rw[Hv.out];rfl,Below.refl _ _⟩
  case round =>
   obtain⟨k,hk,rfl,hval,hbel⟩:=hrel
   have Hbel:=zh hbel
   have Hval:=zh hval
   have hbz:=hbel.size
   clear hbel hval
   by_cases hlt:k<l.length
   ·have Hstep:=zh (aO4 (aX5 l) hlt)
    obtain⟨ab,ao,K,c1,V,d1,rfl,_,hal,hc1,hc2,hs1,hs2,_,_⟩:=aN8 (Ha.out.below tenR_stays Hbel.out) hlt
    by_cases h1:aI l[k].1=0
    rotate_left
    ·have Hone:=zh (cD6 h1)
     have Hz:=zh (bA5 hlt (by rw[Hone.out];exact h1))
     have Hne:=zh h1
     have b1:(aI l[k].1 != 0)=true:=by simpa using h1
     have b2:(aI l[k].1==0)=false:=by simpa using h1
     clear h1
     generalize l[k]=x at *
     go_wp2_with (go_at_call 90;refine (aA3 _ K x.1 c1).mono ?_;rintro e w0 ⟨rfl,rfl⟩)
     go_ret
     exact⟨aM (by rw[← Hval.out,Hstep.out,Hz.out,if_pos (by rw[Hone.out];first|exact Hne.out|decide),Hone.out]),(Hbel.out.alloc Hbel.out.size _)⟩
    ·have b1:(aI l[k].1 != 0)=false:=by simp[h1]
     have b2:(aI l[k].1==0)=true:=by simp[h1]
     by_cases h2:l[k].2.length=0
     ·have Hone:=zh (cD7 h1 h2)
      have Hz:=zh (bA5 hlt (by rw[Hone.out];decide))
      have Hne:=zh (show (4:Int)≠0 by decide)
      have b3:((l[k].2.length:Int)==0)=true:=by rw[beq_iff_eq];omega
      clear h1 h2
      generalize l[k]=x at *
      go_wp2_with (go_at_call 90;refine (aA3 _ K x.1 c1).mono ?_;rintro e w0 ⟨rfl,rfl⟩)
      go_ret
      exact⟨aM (by rw[← Hval.out,Hstep.out,Hz.out,if_pos (by rw[Hone.out];first|exact Hne.out|decide),Hone.out]),(Hbel.out.alloc Hbel.out.size _)⟩
     ·have Hone:=zh (bY9 h1 h2)
      have b3:((l[k].2.length:Int)==0)=false:=by rw[beq_eq_false_iff_ne];omega
      clear h1 h2
      by_cases h3:aG l[k].2=0
      rotate_left
      ·have Hz:=zh (bA5 hlt (by rw[Hone.out];exact h3))
       have Hne:=zh h3
       have b4:(aG l[k].2 != 0)=true:=by simpa using h3
       have b5:(aG l[k].2==0)=false:=by simpa using h3
       clear h3
       generalize l[k]=x at *
       go_wp2_with (first|(go_at_call 90;refine (aA3 _ K x.1 c1).mono ?_;rintro e w0 ⟨rfl,rfl⟩)|(go_at_call 92;refine (aB3 _ V x.2 d1 ((hs2.z pairR_stays).below pairR_stays ((Below.refl _ _).alloc zn _))).mono ?_;rintro e w1 ⟨rfl,hbw1⟩))
       go_ret
       exact⟨aM (by rw[← Hval.out,Hstep.out,Hz.out,if_pos (by rw[Hone.out];first|exact Hne.out|decide),Hone.out]),(Hbel.out.alloc Hbel.out.size _).next hbw1 ZC8⟩
      ·have Hf:=zh (show aG6 l[k]=0 by rw[Hone.out];exact h3)
       have b4:(aG l[k].2 != 0)=false:=by simp[h3]
       have b5:(aG l[k].2==0)=true:=by simp[h3]
       clear h3 Hone
       rcases k with _|m
       ·have Hz:=zh (bM9 hlt Hf.out)
        simp only[Nat.zero_mul,Nat.add_zero] at hc1 hc2
        generalize l[0]=x at *
        go_wp2_with (first|(go_at_call 90;refine (aA3 _ K x.1 c1).mono ?_;rintro e w0 ⟨rfl,rfl⟩)|(go_at_call 92;refine (aB3 _ V x.2 d1 ((hs2.z pairR_stays).below pairR_stays ((Below.refl _ _).alloc zn _))).mono ?_;rintro e w1 ⟨rfl,hbw1⟩))
        go_quiet (fail)
        go_wp2
        go_roundw
        case rel=>exact⟨1,AO,rfl,by rw[← Hval.out,Hstep.out,Hz.out];rfl,below_drewN ((Hbel.out.alloc Hbel.out.size _).next hbw1 ZC8) _⟩
        case measure=>simp[intOf];omega
       ·have hm:m<l.length:=by omega
        obtain⟨ab0,ao0,K0,c0,V0,d0,he0,_,_,hc3,hc4,hs3,_,_,_⟩:=aN8 (Ha.out.below tenR_stays Hbel.out) hm
        cases he0
        have hi0:(0:Int)≤(m:Int):=by omega
        have hi1:(m:Int)<(l.length:Int):=by omega
        have hi2:(m:Int)+1<(l.length:Int):=by omega
        rcases Bool.eq_false_or_eq_true (lt l[m].1 l[m+1].1) with ho|ho
        ·have Hz:=zh (cD5 hlt Hf.out ho)
         have hcm:decide (0≤aI4 l[m].1 l[m+1].1)=false:=by have:=aX8 ho;simpa using this
         clear ho
         generalize l[m+1]=x at *
         generalize l[m]=q at *
         go_wp2_with (first|(go_at_call 90;refine (aA3 _ K x.1 c1).mono ?_;rintro e w0 ⟨rfl,rfl⟩)|(go_at_call 92;refine (aB3 _ V x.2 d1 ((hs2.z pairR_stays).below pairR_stays ((Below.refl _ _).alloc zn _))).mono ?_;rintro e w1 ⟨rfl,hbw1⟩))
         have hold:=(Below.refl wr.heap.size wr).alloc zn (.cells #[.slice K x.1.length c1,.slice V x.2.length d1] 165)
         have hz1:wr.heap.size+1≤w1.heap.size:=by have hz:=hbw1.size;simpa using hz
         have hg3:=(hbw1.cell (p:=⟨ab,ao+m*2,none⟩) ZC8).trans ((hold.cell (p:=⟨ab,ao+m*2,none⟩) hal).trans hc3)
         have hg1:w1.cell? ⟨wr.heap.size,0,none⟩=some (.slice K x.1.length c1):=(hbw1.cell AU).trans ZH2
         have Ho1:=zh (hold.next hbw1 ZH2)
         have hiw:IntKind.i64.wrap (m:Int)=(m:Int):=IntWalk.i64_in _ AO
         clear hc1 hc2 hc3 hc4 hold
         go_quiet ((go_at_call 103;exact bM3 (aA1 _ K0 K q.1 x.1 c0 c1 ((hs3.bz.bbelow Ho1.out).bsame SM) ((hs1.bz.bbelow Ho1.out).bsame SM))))
         go_wp2
         go_roundw
         case rel=>exact⟨m+2,AO,by go_num,by rw[← Hval.out,Hstep.out,Hz.out];rfl,below_drewN (Hbel.out.next Ho1.out hbz) _⟩
         case measure=>simp[intOf];omega
        ·have Hz:=zh (bI3 hlt Hf.out ho)
         have hcm:decide (0≤aI4 l[m].1 l[m+1].1)=true:=by have:=aO5 ho;simpa using this
         clear ho
         generalize l[m+1]=x at *
         generalize l[m]=q at *
         go_wp2_with (first|(go_at_call 90;refine (aA3 _ K x.1 c1).mono ?_;rintro e w0 ⟨rfl,rfl⟩)|(go_at_call 92;refine (aB3 _ V x.2 d1 ((hs2.z pairR_stays).below pairR_stays ((Below.refl _ _).alloc zn _))).mono ?_;rintro e w1 ⟨rfl,hbw1⟩))
         have hold:=(Below.refl wr.heap.size wr).alloc zn (.cells #[.slice K x.1.length c1,.slice V x.2.length d1] 165)
         have hz1:wr.heap.size+1≤w1.heap.size:=by have hz:=hbw1.size;simpa using hz
         have hg3:=(hbw1.cell (p:=⟨ab,ao+m*2,none⟩) ZC8).trans ((hold.cell (p:=⟨ab,ao+m*2,none⟩) hal).trans hc3)
         have hg1:w1.cell? ⟨wr.heap.size,0,none⟩=some (.slice K x.1.length c1):=(hbw1.cell AU).trans ZH2
         have Ho1:=zh (hold.next hbw1 ZH2)
         have hiw:IntKind.i64.wrap (m:Int)=(m:Int):=IntWalk.i64_in _ AO
         clear hc1 hc2 hc3 hc4 hold
         go_quiet ((go_at_call 103;exact bM3 (aA1 _ K0 K q.1 x.1 c0 c1 ((hs3.bz.bbelow Ho1.out).bsame SM) ((hs1.bz.bbelow Ho1.out).bsame SM))))
         go_wp2
         go_ret
         exact⟨aM (by rw[← Hval.out,Hstep.out,Hz.out];rfl),below_drewN (Hbel.out.next Ho1.out hbz) _⟩
   ·go_wp2
    go_ret
    obtain rfl:k=l.length:=by omega
    have h:=Hval.out
    simp[aB0] at h
    exact⟨aM h,Hbel.out⟩
theorem bD0 (w:World) (A B:Option Addr) (t:Tn) (c d:Nat) (K:Option Addr) (k:List UInt8) (c1:Nat) (ha:Bs All w A t.1) (hk:Bs All w K k) :
  Calls Tryz.prog 157 #[.agg #[.slice A t.1.length c,.slice B t.2.length d],.slice K k.length c1] w (bQ w (.int .i64 (aI4 t.1 k))):=by
 have Ha:=zh ha
 have Hk:=zh hk
 clear ha hk
 go_enter Tryz.func157,Tryz.ntmps157
 go_wp2_with (go_at_call 103;refine (aA1 _ A K t.1 k c c1 (Ha.out.bbelow ?_) (Hk.out.bbelow ?_)).mono ?_;(all_goals try exact BE);rintro e w' ⟨rfl,rfl⟩)
 go_ret
 refine⟨rfl,?_⟩
 exact BE
theorem cK4 (w:World) (A:Option Addr) (l:List Tn) (c:Nat) (K:Option Addr) (k:List UInt8) (c1:Nat) (ha:Ts All w A l) (hk:Bs All w K k) (hn:l.length≤60) (hr:bS (aP l)) :
  Calls Tryz.prog 156 #[.slice A l.length c,.slice K k.length c1,.func (.func 157) #[] #[]] w (bL2 w (aP l) k):=by
 have Ha:=zh ha
 have Hk:=zh hk
 have Hr:=zh hr
 clear ha hk hr
 go_enter Tryz.func156,Tryz.ntmps156
 go_wp2
 go_loopw [9,10,11] (fun i j _ wr=>∃ a b:Nat,i=.int .i64 a∧j=.int .i64 b∧a≤b∧b≤l.length∧(∀ m (_:m<a) (h:m<(aP l).length),lt (aP l)[m] k=true)∧(∀ m (_:b≤m) (h:m<(aP l).length),lt (aP l)[m] k=false)∧Below w.heap.size w wr) (fun i j _ _=>(intOf j).toNat - (intOf i).toNat)
 case atStart=>exact⟨0,l.length,rfl,rfl,AO,zn,fun m h=>absurd h AO,fun m h1 h2=>absurd h2 (by simp[aP];omega),Below.refl _ _⟩
 case round =>
  obtain⟨a,b,rfl,rfl,hab,hbl,hlow,hhigh,hbel⟩:=hrel
  have Hlow:=zh hlow
  have Hhigh:=zh hhigh
  have Hbel:=zh hbel
  have hbz:=hbel.size
  clear hlow hhigh hbel
  by_cases hlt:a<b
  ·have hm1:a≤(a+b) / 2:=by omega
   have hm2:(a+b) / 2<b:=by omega
   have hml:(a+b) / 2<l.length:=by omega
   obtain⟨ab,ao,K0,c0,V0,d0,rfl,_,hal,hc1,hc2,hs1,hs2,_,_⟩:=aN8 (Ha.out.below tenR_stays Hbel.out) hml
   have hi0:(0:Int)≤((a:Int)+(b:Int)) / 2:=by omega
   have hi1:((a:Int)+(b:Int)) / 2<(l.length:Int):=by omega
   have Hmi:=zh (show ((a:Int)+(b:Int)) / 2=(((a+b) / 2:Nat):Int) by omega)
   rcases Bool.eq_false_or_eq_true (lt l[(a+b) / 2].1 k) with ho|ho
   ·have hcm:decide (aI4 l[(a+b) / 2].1 k<0)=true:=by have:=aX8 ho;simpa using this
    have Hl:=zh (cJ8 Hr.out (m:=(a+b) / 2) (k:=k) (by simpa [aP] using hml) (by rw[aC3];exact ho))
    clear ho
    generalize l[(a+b) / 2]=x at *
    go_wp2_with (go_at_call 157;refine (bD0 _ K0 V0 x c0 d0 K k c1 hs1.bz (Hk.out.bbelow Hbel.out)).mono ?_;rintro e w2 ⟨rfl,hbw2⟩)
    go_roundw
    case rel=>exact⟨(a+b) / 2+1,b,by first|go_num|(have:=Hmi.out;simp;omega),rfl,AO,hbl,Hl.out,Hhigh.out,Hbel.out.next hbw2 hbz⟩
    case measure=>simp[intOf];omega
   ·have hcm:decide (aI4 l[(a+b) / 2].1 k<0)=false:=by have:=aO5 ho;simpa using this
    have Hl:=zh (bY3 Hr.out (m:=(a+b) / 2) (k:=k) (by simpa [aP] using hml) (by rw[aC3];exact ho))
    clear ho
    generalize l[(a+b) / 2]=x at *
    go_wp2_with (go_at_call 157;refine (bD0 _ K0 V0 x c0 d0 K k c1 hs1.bz (Hk.out.bbelow Hbel.out)).mono ?_;rintro e w2 ⟨rfl,hbw2⟩)
    go_roundw
    case rel=>exact⟨a,(a+b) / 2,rfl,by first|rfl|go_num|(have:=Hmi.out;simp;omega),AO,by omega,Hlow.out,Hl.out,Hbel.out.next hbw2 hbz⟩
    case measure=>simp[intOf];omega
  ·obtain rfl:a=b:=by omega
   have Hat:=zh (show At (aP l) k a from ⟨by simpa [aP] using hbl,Hlow.out,Hhigh.out⟩)
   clear Hlow Hhigh
   by_cases hml:a<l.length
   ·have b1:decide ((a:Int)<(l.length:Int))=true:=by simp;omega
    obtain⟨ab,ao,K0,c0,V0,d0,rfl,_,hal,hc1,hc2,hs1,hs2,_,_⟩:=aN8 (Ha.out.below tenR_stays Hbel.out) hml
    have hi0:(0:Int)≤(a:Int):=by omega
    have hi1:(a:Int)<(l.length:Int):=by omega
    have hfe:(aI4 l[a].1 k==0)=decide ((aP l)[a]?=some k):=by
     rw[bU9]
     rw[Bool.eq_iff_iff]
     simp[aP,hml]
    have Hfe:=zh hfe
    clear hfe
    go_wp2_with (go_at_call 157;refine (bD0 _ K0 V0 l[a] c0 d0 K k c1 hs1.bz (Hk.out.bbelow Hbel.out)).mono ?_;rintro e w2 ⟨rfl,hbw2⟩)
    go_ret2
    exact⟨a,by rw[← Hfe.out];rfl,Hat.out,Hbel.out.next hbw2 hbz⟩
   ·have b1:decide ((a:Int)<(l.length:Int))=false:=by simp;omega
    go_wp2
    go_ret2
    refine⟨a,?_,Hat.out,Hbel.out⟩
    have hq:(aP l)[a]?=none:=List.getElem?_eq_none (by simp[aP];omega)
    rw[hq]
    rfl
theorem bC0 (w:World) (A:Option Addr) (l:List Tn) (c:Nat) (K:Option Addr) (k:List UInt8) (c1:Nat) (ha:Ts All w A l) (hk:Bs All w K k) (hn:l.length≤60) (hr:bS (aP l)) :
  Calls Tryz.prog 94 #[.slice A l.length c,.slice K k.length c1] w (bL2 w (aP l) k):=by
 have Ha:=zh ha
 have Hk:=zh hk
 have Hr:=zh hr
 have Hn:=zh hn
 clear ha hk hr hn
 go_enter Tryz.func94,Tryz.ntmps94
 go_wp2_with (go_at_call 156;refine (cK4 _ A l c K k c1 Ha.out Hk.out Hn.out Hr.out).mono ?_;rintro e w1 ⟨i,rfl,hat,hb1⟩;dsimp only)
 go_ret2
 exact⟨i,rfl,hat,hb1⟩
def aJ (l:List Tn) (k:List UInt8):List Pr:=((l.find? (·.1==k)).map (·.2)).getD []
def RetPsOld (w:World) (l:List Pr) (e:Ending) (w':World):Prop :=
 ∃ A c,e=.returned (.slice A l.length c)∧Ps All w' A l∧l.length*48≤140737488355328∧l.length≤c∧Below w.heap.size w w'
theorem bN0 {l:List Tn} (h:aL l=0):l.length≤8∧(∀ t ∈ l,aG6 t=0)∧bS (aP l):=by
 unfold aL at h
 split at h
 ·simp at h
 ·rename_i hl
  have hz:=aI0 _ _ h
  have hp:∀ i (hi:i<l.length),aG6 l[i]=0:=fun i hi=>by
   have:=hz i hi
   rw[Nat.zero_add] at this
   by_cases hb:aG6 l[i]=0
   ·exact hb
   ·rw[bA5 hi hb] at this;exact this
  refine⟨AO,fun p hp'=>?_,bB8 fun i hi=>?_⟩
  ·obtain⟨i,hi,rfl⟩:=List.getElem_of_mem hp'
   exact hp i hi
  ·have hi':i+1<l.length:=by simpa [aP] using hi
   simp only[aC3]
   have:=hz (i+1) hi'
   rw[Nat.zero_add] at this
   rcases Bool.eq_false_or_eq_true (lt l[i].1 l[i+1].1) with ho|ho
   ·exact ho
   ·rw[bI3 hi' (hp _ hi') ho] at this
    cases this
theorem cQ2 {β:Type} {l:List (List UInt8 × β)} {k:List UInt8} (hr:bS (aP l)) {i:Nat} (hi:i<l.length) (h:l[i].1=k):l.find? (·.1==k)=some l[i]:=by
 rw[List.find?_eq_some_iff_getElem]
 refine⟨by simpa using h,i,hi,rfl,fun j hj=>?_⟩
 have hjl:j<l.length:=by omega
 simp only[Bool.not_eq_true',beq_eq_false_iff_ne]
 intro e
 have:=aY0 hr (i:=j) (j:=i) (by simpa [aP] using hjl) (by simpa [aP] using hi) (by rw[aC3,aC3,e,h])
 omega
theorem bN1 {β:Type} {l:List (List UInt8 × β)} {k:List UInt8} {i:Nat} (hr:bS (aP l)) (hat:At (aP l) k i) (h:(aP l)[i]?≠some k):l.find? (·.1==k)=none:=by
 rw[List.find?_eq_none]
 intro p hp
 obtain⟨j,hj,rfl⟩:=List.getElem_of_mem hp
 have hjk:j<(aP l).length:=by simpa [aP] using hj
 simp only[beq_iff_eq]
 intro e
 have ek:(aP l)[j]=k:=by rw[aC3];exact e
 rcases (by omega:j<i∨i≤j) with h1|h1
 ·have:=hat.low j h1 hjk;rw[ek,lt_irrefl] at this;cases this
 ·rcases (by omega:i=j∨i<j) with h2|h2
  ·subst h2
   exact h (by rw[List.getElem?_eq_getElem hjk,ek])
  ·have h3:=hr i j h2 hjk
   rw[ek,hat.high i zn AO] at h3
   cases h3
theorem aM4 (w:World) (A:Option Addr) (l:List Tn) (c:Nat) (K:Option Addr) (k:List UInt8) (c1:Nat) (ha:Ts All w A l) (hk:Bs All w K k) (hn:l.length≤60) (hr:bS (aP l)) :
  Calls Tryz.prog 53 #[.slice A l.length c,.slice K k.length c1] w (RetPsOld w (aJ l k)):=by
 have Ha:=zh ha
 have Hk:=zh hk
 have Hr:=zh hr
 have Hn:=zh hn
 clear ha hk hr hn
 go_enter Tryz.func53,Tryz.ntmps53
 go_wp2_with fail
 refine (bC0 _ A l c K k c1 Ha.out Hk.out Hn.out Hr.out).mono ?_
 rintro e w1 ⟨i,rfl,hat,hb1⟩
 have Hb1:=zh hb1
 by_cases hf:(aP l)[i]?=some k
 ·rw[decide_eq_true hf]
  have hik:i<(aP l).length:=by
   rcases Nat.lt_or_ge i (aP l).length with h|h
   ·exact h
   ·rw[List.getElem?_eq_none h] at hf;cases hf
  have hil:i<l.length:=by simpa [aP] using hik
  have hli:l[i].1=k:=by
   rw[List.getElem?_eq_getElem hik,aC3] at hf
   exact Option.some.inj hf
  have Hv:=zh (show aJ l k=l[i].2 by simp only[aJ,cQ2 Hr.out hil hli];rfl)
  obtain⟨ab,ao,K0,c0,V0,d0,rfl,_,hal,hc1,hc2,hs1,hs2,_,hbb,hbc⟩:=aN8 (Ha.out.below tenR_stays Hb1.out) hil
  have hi0:(0:Int)≤(i:Int):=by omega
  have hi1:(i:Int)<(l.length:Int):=by omega
  have Hs2:=zh hs2
  clear hf hik hli hat hb1 hs2
  go_wp2
  go_ret
  rw[Hv.out]
  exact⟨V0,d0,rfl,Hs2.out,hbb,hbc,Hb1.out⟩
 ·rw[decide_eq_false hf]
  have Hv:=zh (show aJ l k=[] by simp only[aJ,bN1 Hr.out hat hf];rfl)
  clear hf hat hb1
  go_wp2
  go_ret
  rw[Hv.out]
  exact⟨none,0,rfl,SL.nil,by simp,by simp,Hb1.out⟩
def aD4 (l:List Tn) (n:List UInt8):Int:=if aL l≠0 then aL l else aI n
theorem bZ0 {l:List Tn} {n:List UInt8} (h:aD4 l n=0):aL l=0∧aI n=0:=by
 unfold aD4 at h
 split at h
 ·rename_i h1;exact absurd h h1
 ·rename_i h1;exact⟨by simpa using h1,h⟩
def aA7 (l:List Tn) (n k:List UInt8):Finding × Int:=if aD4 l n≠0 then ((false,[]),aD4 l n) else aX7 (aJ l n) k
def aA8 (l:List Tn) (n k m:List UInt8):List Pr × Int:=if aD4 l n≠0 then ([],aD4 l n) else aM9 (aJ l n) k m
theorem aE5 (w:World) (A:Option Addr) (l:List Tn) (c:Nat) (K:Option Addr) (k:List UInt8) (c1:Nat) (ha:Ts All w A l) :
  Calls Tryz.prog 51 #[.slice A l.length c,.slice K k.length c1] w (bQ w (.int .i64 (aD4 l k))):=by
 have Ha:=zh ha
 clear ha
 by_cases h1:aL l=0
 ·have b1:(aL l==0)=true:=by simp[h1]
  have b2:(aL l != 0)=false:=by simp[h1]
  have Hv:=zh (show aD4 l k=aI k by simp[aD4,h1])
  clear h1
  go_enter Tryz.func51,Tryz.ntmps51
  go_wp2_with (first
   | (go_at_call 60;refine (aD6 _ A l c Ha.out).mono ?_;rintro e w1 ⟨rfl,hb1⟩)
   | (go_at_call 90;refine (aA3 _ K k c1).mono ?_;rintro e w2 ⟨rfl,rfl⟩))
  go_ret
  exact⟨aM Hv.out.symm,hb1⟩
 ·have b1:(aL l==0)=false:=by simp[h1]
  have b2:(aL l != 0)=true:=by simpa using h1
  have Hv:=zh (show aD4 l k=aL l by simp[aD4,h1])
  clear h1
  go_enter Tryz.func51,Tryz.ntmps51
  go_wp2_with (go_at_call 60;refine (aD6 _ A l c Ha.out).mono ?_;rintro e w1 ⟨rfl,hb1⟩)
  go_ret
  exact⟨aM Hv.out.symm,hb1⟩
theorem aW2 (w:World) (A:Option Addr) (l:List Tn) (c:Nat) (N:Option Addr) (n:List UInt8) (cn:Nat) (K:Option Addr) (k:List UInt8) (c1:Nat) (ha:Ts All w A l) (hn:Bs All w N n) (hk:Bs All w K k) :
  Calls Tryz.prog 24 #[.slice A l.length c,.slice N n.length cn,.slice K k.length c1] w (RetGet w (aA7 l n k)):=by
 have Ha:=zh ha
 have Hn:=zh hn
 have Hk:=zh hk
 clear ha hn hk
 by_cases h1:aD4 l n=0
 ·have b2:(aD4 l n != 0)=false:=by simp[h1]
  have Hv:=zh (show aA7 l n k=aX7 (aJ l n) k by simp[aA7,h1])
  obtain⟨hl8,_,hrise⟩:=bN0 (bZ0 h1).1
  have Hl8:=zh hl8
  have Hr:=zh hrise
  clear h1 hl8 hrise
  go_enter Tryz.func24,Tryz.ntmps24
  go_wp2_with (go_at_call 51;refine (aE5 _ A l c N n cn (Ha.out.below tenR_stays ?_)).mono ?_;(all_goals try exact BE);rintro e w1 ⟨rfl,hb1⟩)
  have hx1:=(hb1.block w.heap.size AU).trans (aK w _ _)
  have hz1:w.heap.size<w1.heap.size:=by have:=hb1.size;simp at this;omega
  have hb01:Below w.heap.size w w1:=Below.next ((Below.refl _ _).alloc zn _) hb1 AU
  have Hx1:=zh hx1
  have Hb1:=zh hb01
  clear hb1 hx1 hb01 b2
  refine (aM4 _ A l c N n cn (Ha.out.below tenR_stays Hb1.out) (Hn.out.bbelow Hb1.out) (by have:=Hl8.out;omega) Hr.out).mono ?_
  rintro e w2 ⟨A2,c2,rfl,hs2,hl2,hcap2,hb2⟩
  have hx2:=(hb2.block w.heap.size hz1).trans Hx1.out
  have hb02:=Hb1.out.next hb2 AO
  have hz2:=hb2.size
  have Hs2:=zh hs2
  have Hx2:=zh hx2
  have Hb2:=zh hb02
  clear hs2 hb2 hx2 hb02
  go_wp2_with fail
  refine (aV7 _ A2 (aJ l n) c2 K k c1 Hs2.out (Hk.out.bbelow Hb2.out)).mono ?_
  rintro e w3 ⟨A3,c3,rfl,hs3,hb3⟩
  obtain⟨g0,g1,f0,f1⟩:=bF ((hb3.block w.heap.size AO).trans Hx2.out)
  have hz3:=hb3.size
  have hz03:w.heap.size<w3.heap.size:=by omega
  have Hb3:=zh (Hb2.out.next hb3 AO)
  have Hs3:=zh hs3
  generalize aX7 (aJ l n) k=r at *
  obtain⟨⟨rf,rv⟩,re⟩:=r
  clear hb3 hs3
  go_wp2
  refine bodyPost_ret (v:=.tuple #[.agg #[.bool rf,.slice A3 rv.length c3],.int .i64 re]) (by simp[results,Tryz.results24,go_sem,g0,g1,hz03]) rfl ?_
  rw[Hv.out]
  exact⟨A3,c3,rfl,(Hs3.out.bsame (((aC.refl _ _).setCell ZD5 _).setCell ZD5 _)).blo AO,Below.setCell (Below.setCell Hb3.out zn _) zn _⟩
 ·have b2:(aD4 l n != 0)=true:=by simpa using h1
  have Hv:=zh (show aA7 l n k=((false,[]),aD4 l n) by simp[aA7,h1])
  clear h1
  go_enter Tryz.func24,Tryz.ntmps24
  go_wp2_with (go_at_call 51;refine (aE5 _ A l c N n cn (Ha.out.below tenR_stays ?_)).mono ?_;(all_goals try exact BE);rintro e w1 ⟨rfl,hb1⟩;obtain⟨g0,g1,f0,f1⟩:=bF ((hb1.block w.heap.size AU).trans (aK w _ _)))
  refine bodyPost_ret (v:=.tuple #[.agg #[.bool false,.slice none 0 0],.int .i64 (aD4 l n)]) (by simp[results,Tryz.results24,go_sem,g0,g1]) rfl ?_
  rw[Hv.out]
  exact ZC0
theorem aY2 (w:World) (A:Option Addr) (l:List Tn) (c:Nat) (N:Option Addr) (n:List UInt8) (cn:Nat) (K:Option Addr) (k:List UInt8) (c1:Nat) (M:Option Addr) (m:List UInt8) (cm:Nat) (ha:Ts All w A l) (hn:Bs All w N n) (hk:Bs All w K k) (hm:Bs All w M m) :
  Calls Tryz.prog 25 #[.slice A l.length c,.slice N n.length cn,.slice K k.length c1,.slice M m.length cm] w (cD0 w (aA8 l n k m)):=by
 have Ha:=zh ha
 have Hn:=zh hn
 have Hk:=zh hk
 have Hm:=zh hm
 clear ha hn hk hm
 by_cases h1:aD4 l n=0
 ·have b2:(aD4 l n != 0)=false:=by simp[h1]
  have Hv:=zh (show aA8 l n k m=aM9 (aJ l n) k m by simp[aA8,h1])
  obtain⟨hl8,_,hrise⟩:=bN0 (bZ0 h1).1
  have Hl8:=zh hl8
  have Hr:=zh hrise
  clear h1 hl8 hrise
  go_enter Tryz.func25,Tryz.ntmps25
  go_wp2_with (go_at_call 51;refine (aE5 _ A l c N n cn Ha.out).mono ?_;rintro e w1 ⟨rfl,hb1⟩)
  have Hb1:=zh hb1
  clear hb1 b2
  refine (aM4 _ A l c N n cn (Ha.out.below tenR_stays Hb1.out) (Hn.out.bbelow Hb1.out) (by have:=Hl8.out;omega) Hr.out).mono ?_
  rintro e w2 ⟨A2,c2,rfl,hs2,hl2,hcap2,hb2⟩
  have Hb2:=zh (Hb1.out.next hb2 Hb1.out.size)
  have Hs2:=zh hs2
  clear hs2 hb2
  go_wp2_with fail
  refine (bY5 _ A2 (aJ l n) c2 K k c1 M m cm Hs2.out (Hk.out.bbelow Hb2.out) (Hm.out.bbelow Hb2.out) hcap2).mono ?_
  rintro e w3 ⟨A3,c3,rfl,hc3,hs3,hb3⟩
  have Hc3:=zh hc3
  clear hc3
  have Hb3:=zh (Hb2.out.next hb3 Hb2.out.size)
  have Hs3:=zh hs3
  generalize aM9 (aJ l n) k m=r at *
  obtain⟨rv,re⟩:=r
  clear hb3 hs3
  go_wp2
  go_ret2
  rw[Hv.out]
  exact⟨A3,c3,rfl,Hc3.out,Hs3.out.lo pairR_stays Hb2.out.size,Hb3.out⟩
 ·have b2:(aD4 l n != 0)=true:=by simpa using h1
  have Hv:=zh (show aA8 l n k m=([],aD4 l n) by simp[aA8,h1])
  clear h1
  go_enter Tryz.func25,Tryz.ntmps25
  go_wp2_with (go_at_call 51;refine (aE5 _ A l c N n cn Ha.out).mono ?_;rintro e w1 ⟨rfl,hb1⟩)
  go_ret2
  rw[Hv.out]
  exact⟨none,0,rfl,zn,SL.nil,hb1⟩
theorem Own.same_from {α:Type} {size:Nat} {R:(Nat→Prop)→World→List Value→α→Prop} {w w':World} {base:Nat} {e:TypeId} {v:Value} {l:List α} (hR:bI R) (h:Own size R (aB base) w base e v l) (hb:aC (aB base) w w'):Own size R (aB base) w' base e v l:=by
 obtain⟨xs,h1,h2⟩:=h
 refine⟨xs,⟨h1.1,?_⟩,fun i hi=>hR.same _ _ _ _ _ ⟨hb.size,fun k hk hk'=>hb.block k hk.1 hk'⟩ (h2 i hi)⟩
 rcases h1.2 with hn|⟨g,cap,cur,hv,hb',hh,rest⟩
 ·exact .inl hn
 ·exact .inr ⟨g,cap,cur,hv,hb',by rw[hb.block g hb' (Array.getElem?_eq_some_iff.1 hh).1];exact hh,rest⟩
theorem bT0 (w:World) (A:Option Addr) (l:List Tn) (c:Nat) (ha:Ts All w A l) (hn:l.length*48≤140737488355328) :
  Calls Tryz.prog 61 #[.slice A l.length c] w (RetOwnTs w l):=by
 obtain⟨i0,hi0,hz0,hz1,hz2⟩:=info_parts info_ten
 obtain⟨j0,hj0,hy0,hy1,hy2⟩:=info_parts info_pair
 have Ha:=zh ha
 clear ha
 go_enter Tryz.func61,Tryz.ntmps61
 go_wp2
 go_loopw [3,11] (fun v i wr=>∃ k:Nat,k≤l.length∧i=.int .i64 k∧Own 2 bK4 (aB w.heap.size) wr w.heap.size 165 v (l.take k)∧Below w.heap.size w wr) (fun _ i _=>l.length - (intOf i).toNat)
 case atStart=>exact⟨0,AO,rfl,Own.nil _ _ _,Below.refl _ _⟩
 case round =>
  obtain⟨k,hk,rfl,hown,hbel⟩:=hrel
  have Hbel:=zh hbel
  have Hown:=zh hown
  have hbz:=hbel.size
  clear hown hbel
  by_cases hlt:k<l.length
  ·obtain⟨ab,ao,K,c1,V,d1,rfl,_,hal,hc1,hc2,hs1,hs2,hb1,hb2,_⟩:=aN8 Ha.out hlt
   replace hc1:=(Hbel.out.cell (p:=⟨ab,ao+k*2,none⟩) hal).trans hc1
   replace hc2:=(Hbel.out.cell (p:=⟨ab,ao+k*2+1,none⟩) hal).trans hc2
   have Hs1:=zh hs1
   have Hs2:=zh (hs2.z pairR_stays)
   have Hsn:=zh (aC8 l k hlt)
   generalize l[k]=x at *
   have hi0':(0:Int)≤(k:Int):=by omega
   have hi1:(k:Int)<(l.length:Int):=by omega
   clear hs1 hs2
   go_wp2_with (go_at_call 49;(with_reducible refine (aE2 _ K x.1 c1 ?ha hb1).mono ?_);(case ha=>exact ((Hs1.out.bz.bbelow Hbel.out).bsame SM));rintro e w1 ⟨A1,c3,rfl,gs1,hbw1⟩;have hx1:w1.heap[wr.heap.size]?=some (.cells #[.slice K x.1.length c1,.slice V x.2.length d1] 165 (0,0)):=(hbw1.block wr.heap.size AU).trans (aK wr _ _);have hzw1:wr.heap.size<w1.heap.size:=(by have:=hbw1.size;simp at this;omega);obtain⟨g0,g1,_,_⟩:=bF hx1)
   have hb01:Below wr.heap.size wr w1:=((Below.refl wr.heap.size wr).alloc zn _).next hbw1 ZH2
   have hx5:(w1.alloc (.cells #[.slice A1 x.1.length c3,.slice none 0 0] 165)).heap[w1.heap.size]?=some (.cells #[.slice A1 x.1.length c3,.slice none 0 0] 165 (0,0)):=aK w1 _ _
   have hb15:Below w1.heap.size w1 (w1.alloc (.cells #[.slice A1 x.1.length c3,.slice none 0 0] 165)):=(Below.refl _ _).alloc zn _
   have hz5:(w1.alloc (.cells #[.slice A1 x.1.length c3,.slice none 0 0] 165)).heap.size=w1.heap.size+1:=by simp
   generalize w1.alloc (.cells #[.slice A1 x.1.length c3,.slice none 0 0] 165)=w5 at *
   have Hz5:=zh hz5
   have hz5':w1.heap.size<w5.heap.size:=by omega
   have Hx5:=zh hx5
   have Hb15:=zh hb15
   have Hb01:=zh hb01
   have Gs1:=zh gs1
   clear hz5 hx5 hb15 hb01 hbw1 gs1 hx1 g0 g1 hc1 hc2
   obtain⟨wm,rfl⟩:∃ wm:World,wm=wr:=⟨_,rfl⟩
   go_loopw [22] (fun i wr=>∃ (j:Nat) (v:Value),j≤x.2.length∧i=.int .i64 j∧Own 2 aU2 (aB w5.heap.size) wr w5.heap.size 53 v (x.2.take j)∧wr.heap[w1.heap.size]?=some (.cells #[.slice A1 x.1.length c3,v] 165 (0,0))∧Below w1.heap.size w5 wr) (fun i _=>x.2.length - (intOf i).toNat)
   case atStart=>exact⟨0,_,AO,rfl,Own.nil _ _ _,Hx5.out,Below.refl _ _⟩
   case round =>
    obtain⟨j,v,hj,rfl,hown2,hcx,hbel2⟩:=hrel
    have Hbel2:=zh hbel2
    have Hown2:=zh hown2
    have Hcx:=zh hcx
    have hbz2:=hbel2.size
    have hb5:Below wm.heap.size wm wr:=(Hb01.out.next Hb15.out AO).trans (hbel2.mono AO)
    have Hb5:=zh hb5
    have Hb0:=zh (Hbel.out.trans (hb5.mono hbz))
    clear hown2 hbel2 hcx hb5
    by_cases hlt2:j<x.2.length
    ·obtain⟨pb,po,K2,c2,V2,d2,rfl,_,hpl,hp1,hp2,hq1,hq2,hqb1,hqb2⟩:=aE3 (Hs2.out.below pairR_stays Hb0.out) hlt2
     have Hsn2:=zh (aC8 x.2 j hlt2)
     generalize x.2[j]=q at *
     have Hq1:=zh hq1.bz
     have Hq2:=zh hq2.bz
     have hj0':(0:Int)≤(j:Int):=by omega
     have hj1:(j:Int)<(x.2.length:Int):=by omega
     have hl8:(x.2.take j++[q]).length=j+1:=by rw[List.length_append,List.length_take,List.length_singleton];omega
     clear hq1 hq2
     have hbox:(wr.alloc (.cells #[.slice K2 q.1.length c2,.slice V2 q.2.length d2] 53)).heap[w1.heap.size]?=some (.cells #[.slice A1 x.1.length c3,v] 165 (0,0)):=by rw[heap_alloc_old _ _ AO];exact Hcx.out
     obtain⟨gc0,gc1,_,_⟩:=bF hbox
     have Hbox:=zh hbox
     clear hbox
     go_wp2_with fail
     go_region_law (first
      | (go_simp;go_at_call 49;(with_reducible refine (aE2 _ K2 q.1 c2 ?ha hqb1).mono ?_);(case ha=>exact Hq1.out.bsame SM);rintro e w6 ⟨A6,c6,rfl,gs6,hbw6⟩;have hb6:Below wr.heap.size wr w6:=(((Below.refl wr.heap.size wr).alloc zn _).drew).next hbw6 ZH2;have hz6:wr.heap.size<w6.heap.size:=(by have:=hbw6.size;simp at this;omega);have hbx6:w6.heap[w1.heap.size]?=some (.cells #[.slice A1 x.1.length c3,v] 165 (0,0)):=(hb6.block _ AO).trans Hcx.out;obtain⟨ga0,ga1,_,_⟩:=bF hbx6;have hbp6:w6.heap[wr.heap.size]?=some (.cells #[.slice K2 q.1.length c2,.slice V2 q.2.length d2] 53 (0,0)):=(hbw6.block wr.heap.size AU).trans (aK wr _ _);obtain⟨gb0,gb1,_,_⟩:=bF hbp6;have hz16:w1.heap.size<w6.heap.size:=AO)
      | (go_simp;go_at_call 49;(with_reducible refine (aE2 _ V2 q.2 d2 ?ha hqb2).mono ?_);(case ha=>exact Hq2.out.bbelow hb6);rintro e w7 ⟨A7,c7,rfl,gs7,hbw7⟩;have hb7:Below wr.heap.size wr w7:=hb6.next hbw7 AZ;have hz7:w6.heap.size≤w7.heap.size:=hbw7.size;have hz17:w1.heap.size<w7.heap.size:=AO;have hbx7:w7.heap[w1.heap.size]?=some (.cells #[.slice A1 x.1.length c3,v] 165 (0,0)):=(hb7.block _ AO).trans Hcx.out;obtain⟨gd0,gd1,_,_⟩:=bF hbx7;have hbp7:w7.heap[wr.heap.size]?=some (.cells #[.slice K2 q.1.length c2,.slice V2 q.2.length d2] 53 (0,0)):=(hbw7.block _ hz6).trans hbp6;obtain⟨gf0,gf1,_,_⟩:=bF hbp7)
      | (refine aW1 pairR_stays (S:=aB w5.heap.size) _ rfl (.tmp 27) (.tmp 35) _ rfl w5.heap.size 53 j0 _ 2 48 Tryz.underlying50 hj0 hy0 hy1 hy2 rfl ZD9 v (x.2.take j) ?hs ?hown (some ⟨w7.heap.size,0,none⟩) 1 [.slice A6 q.1.length c6,.slice A7 q.2.length c7] ?hx rfl (aE6 w7 w7.heap.size [.slice A6 q.1.length c6,.slice A7 q.2.length c7] _ rfl) ZE8 ?hm ?hby ?hba q ?hd ?_;(case hs=>(simp[Act.eval,Act.put]));(case hx=>(simp[Act.eval,Act.put]));(case hown=>(refine Own.below pairR_stays Hown2.out ?_;exact (hb7.alloc AZ _)));(case hm=>(simp only[List.length_take,maxLen];omega));(case hby=>(simp only[List.length_take];omega));(case hba=>(simp;omega));(case hd=>(refine bC9 (n:=wr.heap.size) (gs6.bbelow hbw7 |>.blo AZ) (gs7.blo AZ) hqb1 hqb2 ?_ AZ (Hown2.out.apart _ zn);exact SM));intro v8 w8 hown8 hbw8 hgr8;have hbp8:w8.heap[wr.heap.size]?=some (.cells #[.slice K2 q.1.length c2,.slice V2 q.2.length d2] 53 (0,0)):=(hgr8.block _ ZC8 (fun e=>Hown2.out.apart _ zn _ zn e.symm)).trans ((heap_alloc_old _ _ AO).trans hbp7);obtain⟨gh0,gh1,_,_⟩:=bF hbp8;obtain⟨A8,c8,rfl,_,_⟩:=hown8.readc pairR_stays;have Hown8:=zh hown8;clear hown8;have hbx8:w8.heap[w1.heap.size]?=some (.cells #[.slice A1 x.1.length c3,v] 165 (0,0)):=(hbw8.block _ hz5').trans ((heap_alloc_old _ _ AZ).trans hbx7);obtain⟨ge0,ge1,ge2,ge3⟩:=bF hbx8))
     all_goals
      go_wp2
      go_roundw
      case rel=>exact⟨j+1,_,AO,by go_num,by rw[Hsn2.out];exact Hown8.out.same_from pairR_stays ((aC.refl _ _).setCell ZC4 _),by rw[heap_setCell_same _ _ _ _ _ _ hbx8,hl8];rfl,(((Hbel2.out.trans (hb7.mono AO)).alloc AO _).trans (hbw8.mono AO)).setCell zn _⟩
      case measure=>simp[intOf];omega
    ·obtain rfl:j=x.2.length:=by omega
     have hfull:x.2.take x.2.length=x.2:=List.take_length
     have hown3:=Hown2.out
     rw[hfull] at hown3
     obtain⟨A8,c8,rfl,hc8,hs8⟩:=hown3.readc pairR_stays
     have Hs8:=zh hs8
     obtain⟨ge0,ge1,_,_⟩:=bF Hcx.out
     have Gs1':=zh (Gs1.out.bbelow (Hb15.out.trans Hbel2.out))
     clear hs8 hown3 hfull Hown2
     go_wp2_with (at_builtin;refine aM3 tenR_stays (S:=aB w.heap.size) _ rfl (.tmp 39) (.tmp 41) _ rfl w.heap.size 165 i0 _ 2 48 Tryz.underlying26 hi0 hz0 hz1 hz2 rfl ZD9 _ (l.take k) rfl ?hown _ _ [.slice A1 x.1.length c3,.slice A8 x.2.length c8] rfl rfl (aE6 _ _ [.slice A1 x.1.length c3,.slice A8 x.2.length c8] _ ZH2) ZE8 ?hm ?hby ?hba x ?hd ?_;(case hown=>exact Hown.out.below tenR_stays (Hb5.out.alloc AZ _));(case hm=>(simp only[List.length_take,maxLen];omega));(case hby=>(simp only[List.length_take];omega));(case hba=>(simp;omega));(case hd=>(refine bG9 (n:=wm.heap.size) (Gs1'.out.blo ZH2) (Hs8.out.lo pairR_stays AO) hb1 hb2 hc8 ?_ AZ (Hown.out.apart _ zn);exact SM));intro v9 w9 hown9 hbw9)
     go_roundw
     case rel=>exact⟨k+1,AO,by go_num,by rw[Hsn.out];exact hown9,(Hb0.out.alloc AZ _).trans hbw9⟩
     case measure=>simp[intOf];omega
  ·go_wp2
   go_ret
   obtain rfl:k=l.length:=by omega
   have h:=Hown.out
   rw[List.take_length] at h
   exact⟨_,rfl,h,Hbel.out⟩
end Go.Proofs.YtablgnacmpcfeaaGreatDoor
