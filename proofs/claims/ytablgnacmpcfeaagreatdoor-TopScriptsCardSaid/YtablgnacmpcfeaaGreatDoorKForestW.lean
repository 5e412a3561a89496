/- ForestW: Writes: words for memory; copied, held against each other; what is refused of one. What a write comes to; what stays fine behind one. Plain facts, no program. What package forest's write comes to, case by case. Plain facts, no program. slices.Insert of one tenant among tenants of the call's own: three roads (twin of the text for pairs). slices.Delete of one tenant among tenants of the call's own (twin of the text for pairs): the row stays the call's own. Walk: write of package forest. The conditions of each are in its words. -/
import Derived.Test.YtablgnacmpcfeaaGreatDoorKBase
import Derived.Test.YtablgnacmpcfeaaGreatDoorKTrees
import Derived.Test.YtablgnacmpcfeaaGreatDoorKTreeW
import Derived.Test.YtablgnacmpcfeaaGreatDoorKForest
namespace Go.Proofs.YtablgnacmpcfeaaGreatDoor
open Go.RowKit
set_option linter.unusedVariables false
set_option linter.unusedSimpArgs false
set_option maxRecDepth 100000
set_option maxHeartbeats 8000000
structure Wr where
 name:List UInt8
 key:List UInt8
 flag:Bool
 value:List UInt8
def WrR (S:Nat→Prop) (w:World) (cs:List Value) (x:Wr):Prop :=
 ∃ A a B b C c,cs=[.slice A x.name.length a,.slice B x.key.length b,.bool x.flag,.slice C x.value.length c]∧Bs S w A x.name∧Bs S w B x.key∧Bs S w C x.value∧x.name.length≤big∧x.key.length≤big∧x.value.length≤big
theorem wrR_stays:bI WrR :=
 ⟨fun _ _ _ _ _ hb ⟨A,a,B,b,C,c,h0,h1,h2,h3,h4⟩=>⟨A,a,B,b,C,c,h0,h1.bsame hb,h2.bsame hb,h3.bsame hb,h4⟩,fun _ _ _ _ _ hb ⟨A,a,B,b,C,c,h0,h1,h2,h3,h4⟩=>⟨A,a,B,b,C,c,h0,h1.bless hb,h2.bless hb,h3.bless hb,h4⟩⟩
theorem bG {w:World} {g:Nat} {t:TypeId} {a b c d:Value} (h:w.heap[g]?=some (.cells #[a,b,c,d] t (0,0))) :
  w.cell? ⟨g,0,none⟩=some a∧w.cell? ⟨g,1,none⟩=some b∧w.cell? ⟨g,2,none⟩=some c∧w.cell? ⟨g,3,none⟩=some d∧w.frozen? ⟨g,0,none⟩=false∧w.frozen? ⟨g,1,none⟩=false∧w.frozen? ⟨g,2,none⟩=false∧w.frozen? ⟨g,3,none⟩=false :=
 ⟨aA (cs:=[a,b,c,d]) h 0,aA (cs:=[a,b,c,d]) h 1,aA (cs:=[a,b,c,d]) h 2,aA (cs:=[a,b,c,d]) h 3,aD (cs:=[a,b,c,d]) h 0,aD (cs:=[a,b,c,d]) h 1,aD (cs:=[a,b,c,d]) h 2,aD (cs:=[a,b,c,d]) h 3⟩
theorem info_wr:(Tryz.prog.info? 102).map (fun i=>(i.zero,i.size,i.bytes))=some (some (.agg #[.slice none 0 0,.slice none 0 0,.bool false,.slice none 0 0]),4,80):=by kernel_rfl
abbrev Ws (S:Nat→Prop) (w:World) (A:Option Addr) (l:List Wr):Prop:=SL 4 WrR S w A l
theorem aF4 {S:Nat→Prop} {w:World} {A:Option Addr} {l:List Wr} (h:Ws S w A l) {k:Nat} (hk:k<l.length) :
  ∃ g off A1 a1 B1 b1 C1 c1,A=some ⟨g,off,none⟩∧S g∧g<w.heap.size∧w.cell? ⟨g,off+k*4,none⟩=some (.slice A1 l[k].name.length a1)∧w.cell? ⟨g,off+k*4+1,none⟩=some (.slice B1 l[k].key.length b1)∧w.cell? ⟨g,off+k*4+2,none⟩=some (.bool l[k].flag)∧w.cell? ⟨g,off+k*4+3,none⟩=some (.slice C1 l[k].value.length c1) ∧
   Bs S w A1 l[k].name∧Bs S w B1 l[k].key∧Bs S w C1 l[k].value∧l[k].name.length≤big∧l[k].key.length≤big∧l[k].value.length≤big:=by
 obtain⟨g,off,cs,e,h0,hlt,h1,h2,A1,a1,B1,b1,C1,c1,rfl,h3,h4,h5,h6⟩:=h.at hk
 exact⟨g,off,A1,a1,B1,b1,C1,c1,e,h0,hlt,by simpa using h2 0 AO,by simpa using h2 1 AO,by simpa using h2 2 AO,by simpa using h2 3 AO,h3,h4,h5,h6⟩
def RetWr (w:World) (x:Wr) (e:Ending) (w':World):Prop :=
 ∃ A a B b C c,e=.returned (.agg #[.slice A x.name.length a,.slice B x.key.length b,.bool x.flag,.slice C x.value.length c])∧Bs (aB w.heap.size) w' A x.name∧Bs (aB w.heap.size) w' B x.key∧Bs (aB w.heap.size) w' C x.value∧Below w.heap.size w w'
def RetOwnWs (E:TypeId) (w:World) (l:List Wr) (e:Ending) (w':World):Prop :=
 ∃ v,e=.returned v∧Own 4 WrR (aB w.heap.size) w' w.heap.size E v l∧Below w.heap.size w w'
theorem bN2 {n base:Nat} {w W:World} {v:Value} {A B C:Option Addr} {x:Wr} {a b c:Nat} (h1:Bs (aB n) w A x.name) (h2:Bs (aB n) w B x.key) (h3:Bs (aB n) w C x.value) (g1:x.name.length≤big) (g2:x.key.length≤big) (g3:x.value.length≤big) (hs:aC (aB n) w W) (hb:base≤n) (hap:∀ b,aB n b→v.ownBlock≠some b) :
  WrR (fun b=>aB base b∧v.ownBlock≠some b) W [.slice A x.name.length a,.slice B x.key.length b,.bool x.flag,.slice C x.value.length c] x :=
 ⟨A,a,B,b,C,c,rfl,(h1.bsame hs).bless fun b _ h=>⟨Nat.le_trans hb h,hap b h⟩,(h2.bsame hs).bless fun b _ h=>⟨Nat.le_trans hb h,hap b h⟩,(h3.bsame hs).bless fun b _ h=>⟨Nat.le_trans hb h,hap b h⟩,g1,g2,g3⟩
def aH (x:Wr):Int :=
 if aI x.name≠0 then aI x.name else if x.flag=true then (if aE x.key≠0 then aE x.key else if 0<x.value.length then 4 else 0) else aA5 (x.key,x.value)
theorem bN3 (ks:List (List UInt8)):bS ks↔ks.Pairwise (fun a b=>lt a b=true):=by
 rw[List.pairwise_iff_getElem]
 exact⟨fun h i j _ hj hij=>h i j hij hj,fun h i j hij hj=>h i j AO hj hij⟩
theorem aN9 {f:Nat→Int}:∀ (n k:Nat),(∀ i,i<n→f (k+i)=0)→aB0 f n k=0
 | 0,_,_=>rfl
 | n+1,k,h=>by
  unfold aB0
  rw[if_neg (by have:=h 0 AO;simpa using this)]
  exact aN9 n (k+1) fun i hi=>by have:=h (i+1) AO;rwa [show k+(i+1)=k+1+i by omega] at this
theorem aE0 (l:List Pr):aG l=0↔l.length≤60∧(∀ p ∈ l,aA5 p=0)∧bS (aP l):=by
 refine⟨fun h=>aG5 h,fun ⟨h1,h2,h3⟩=>?_⟩
 unfold aG
 rw[if_neg AO]
 refine aN9 _ _ fun i hi=>?_
 rw[Nat.zero_add]
 have hp:aA5 l[i]=0:=h2 _ (List.getElem_mem hi)
 rcases i with _|i
 ·exact bI1 hi hp
 ·refine bU8 hi hp ?_
  have:=h3 i (i+1) AO (by simpa [aP] using hi)
  rwa [aC3,aC3] at this
theorem aB8 (l:List Tn):aL l=0↔l.length≤8∧(∀ t ∈ l,aG6 t=0)∧bS (aP l):=by
 refine⟨fun h=>bN0 h,fun ⟨h1,h2,h3⟩=>?_⟩
 unfold aL
 rw[if_neg AO]
 refine aN9 _ _ fun i hi=>?_
 rw[Nat.zero_add]
 have hp:aG6 l[i]=0:=h2 _ (List.getElem_mem hi)
 rcases i with _|i
 ·exact bM9 hi hp
 ·refine cD5 hi hp ?_
  have:=h3 i (i+1) AO (by simpa [aP] using hi)
  rwa [aC3,aC3] at this
theorem aS5 {t:Tn}:aG6 t=0↔aI t.1=0∧t.2.length≠0∧aG t.2=0:=by
 unfold aG6
 by_cases h1:aI t.1=0
 ·by_cases h2:t.2.length=0
  ·simp[h1,h2]
  ·simp[h1,h2]
 ·simp[h1]
section
variable {β : Type}
theorem keys_set {l:List (List UInt8 × β)} {i:Nat} {p:List UInt8 × β} (hi:i<l.length) (h:l[i].1=p.1):aP (l.set i p)=aP l:=by
 unfold aP
 rw[List.map_set,← h]
 have:(l.map (·.1))[i]'(by simpa using hi)=l[i].1:=by simp
 rw[← this,List.set_getElem_self]
theorem rise_ins {l:List (List UInt8 × β)} {i:Nat} {p:List UInt8 × β} (hr:bS (aP l)) (hat:At (aP l) p.1 i) (hk:(aP l)[i]?≠some p.1):bS (aP (ins l i p)):=by
 rw[bN3] at *
 have e:aP (ins l i p)=(aP l).take i++p.1 :: (aP l).drop i:=by simp[aP,ins,List.map_take,List.map_drop]
 rw[e,List.pairwise_append,List.pairwise_cons]
 have hsp:((aP l).take i++(aP l).drop i).Pairwise (fun a b=>lt a b=true):=by rw[List.take_append_drop];exact hr
 rw[List.pairwise_append] at hsp
 have hlow:∀ a ∈ (aP l).take i,lt a p.1=true:=fun a ha=>by
  obtain⟨j,hj,rfl⟩:=List.mem_iff_getElem.1 ha
  rw[List.length_take] at hj
  rw[List.getElem_take]
  exact hat.low j AO AO
 have hhigh:∀ a ∈ (aP l).drop i,lt p.1 a=true:=fun a ha=>by
  obtain⟨j,hj,rfl⟩:=List.mem_iff_getElem.1 ha
  rw[List.length_drop] at hj
  rw[List.getElem_drop]
  have h1:=hat.high (i+j) AO AO
  rcases Bool.eq_false_or_eq_true (lt p.1 (aP l)[i+j]) with h2|h2
  ·exact h2
  ·exfalso
   have h3:=lt_tri _ _ h1 h2
   rcases Nat.eq_zero_or_pos j with rfl|hj0
   ·exact hk (by rw[List.getElem?_eq_getElem AO];exact congrArg some h3)
   ·have hr':bS (aP l):=by rw[bN3];exact hr
    have h4:=hr' i (i+j) AO AO
    rw[h3,hat.high i zn AO] at h4
    cases h4
 refine⟨hsp.1,⟨hhigh,hsp.2.1⟩,fun a ha b hb=>?_⟩
 rcases List.mem_cons.1 hb with rfl|hb
 ·exact hlow a ha
 ·exact hsp.2.2 a ha b hb
theorem aY3 {l:List (List UInt8 × β)} (hr:bS (aP l)) (q:List UInt8 × β→Bool):bS (aP (l.filter q)):=by
 rw[bN3] at *
 exact hr.sublist ((List.filter_sublist).map _)
theorem mem_set {l:List (List UInt8 × β)} {i:Nat} {p x:List UInt8 × β} (h:x ∈ l.set i p):x ∈ l∨x=p:=List.mem_or_eq_of_mem_set h
theorem mem_ins {l:List (List UInt8 × β)} {i:Nat} {p x:List UInt8 × β} (h:x ∈ ins l i p):x ∈ l∨x=p:=by
 unfold ins at h
 rcases List.mem_append.1 h with h|h
 ·exact .inl (List.mem_of_mem_take h)
 ·rcases List.mem_cons.1 h with h|h
  ·exact .inr h
  ·exact .inl (List.mem_of_mem_drop h)
theorem cT1 (l:List (List UInt8 × β)) (hr:bS (aP l)) (k:List UInt8):∃ i,At (aP l) k i:=by
 have h:∀ n,n≤(aP l).length→(∃ i,i≤n∧(∀ j (_:j<i) (h:j<(aP l).length),lt (aP l)[j] k=true)∧(∀ j (_:i≤j) (_:j<n) (h:j<(aP l).length),lt (aP l)[j] k=false)):=by
  intro n
  induction n with
  | zero=>exact fun _=>⟨0,zn,fun j h=>absurd h AO,fun j _ h=>absurd h AO⟩
  | succ n ih =>
   intro hn
   obtain⟨i,h1,h2,h3⟩:=ih AO
   by_cases he:i=n
   ·subst he
    rcases Bool.eq_false_or_eq_true (lt ((aP l)[i]'(by omega)) k) with ho|ho
    ·exact⟨i+1,zn,cJ8 hr AO ho,fun j h h'=>absurd h AO⟩
    ·refine⟨i,AO,h2,fun j h h' hj=>?_⟩
     obtain rfl:j=i:=by omega
     exact ho
   ·refine⟨i,AO,h2,fun j h h' hj=>?_⟩
    rcases Nat.lt_or_ge j n with hjn|hjn
    ·exact h3 j h hjn hj
    ·obtain rfl:j=n:=by omega
     exact bY3 hr (m:=i) AO (h3 i zn AO AO) j AO hj
 obtain⟨i,h1,h2,h3⟩:=h (aP l).length zn
 exact⟨i,h1,h2,fun j h hj=>h3 j h hj hj⟩
theorem bZ1 (p:List UInt8 × β) (l:List (List UInt8 × β)) (hr:bS (aP l)):(∃ i,∃ h:i<l.length,l[i].1=p.1∧aL1 p l=l.set i p)∨(∃ i,At (aP l) p.1 i∧(aP l)[i]?≠some p.1∧aL1 p l=ins l i p):=by
 obtain⟨i,hat⟩:=cT1 l hr p.1
 by_cases hf:(aP l)[i]?=some p.1
 ·have hik:i<(aP l).length:=(List.getElem?_eq_some_iff.1 hf).1
  have hil:i<l.length:=by simpa [aP] using hik
  have hli:l[i].1=p.1:=by have:=(List.getElem?_eq_some_iff.1 hf).2;rwa [aC3] at this
  exact .inl ⟨i,hil,hli,bC8 hr hil hli⟩
 ·exact .inr ⟨i,hat,hf,aV8 hr hat hf⟩
theorem bI4 (p:List UInt8 × β) (l:List (List UInt8 × β)) (hr:bS (aP l)):bS (aP (aL1 p l))∧(∀ x ∈ aL1 p l,x ∈ l∨x=p):=by
 rcases bZ1 p l hr with ⟨i,h,hk,e⟩|⟨i,hat,hk,e⟩
 ·rw[e,keys_set h hk]
  exact⟨hr,fun x hx=>mem_set hx⟩
 ·rw[e]
  exact⟨rise_ins hr hat hk,fun x hx=>mem_ins hx⟩
end
theorem bV3 {l:List Pr} {p:Pr} (h:(aK0 l p).2=0):aG (aK0 l p).1=0∧(aK0 l p).1=aL1 p l:=by
 unfold aK0 at *
 by_cases h1:aJ9 l p=0
 ·rw[if_neg ZE3] at h ⊢
  by_cases h2:60<(aL1 p l).length
  ·rw[if_pos h2] at h;cases h
  ·rw[if_neg h2]
   have hf:=pp_fine h1
   obtain⟨g1,g2,g3⟩:=(aE0 l).1 hf.1
   have hr:=bI4 p l g3
   refine⟨(aE0 _).2 ⟨by show (aL1 p l).length≤60;omega,fun x hx=>?_,hr.1⟩,rfl⟩
   rcases hr.2 x hx with h'|rfl
   ·exact g2 x h'
   ·exact hf.2
 ·rw[if_pos h1] at h;exact absurd h h1
theorem bV4 {l:List Pr} {k:List UInt8} (h:(aS2 l k).2=0):aG (aS2 l k).1=0:=by
 unfold aS2 at *
 by_cases h1:aD3 l k=0
 ·rw[if_neg ZE3]
  obtain⟨g1,g2,g3⟩:=(aE0 l).1 (bL3 h1).1
  refine (aE0 _).2 ⟨Nat.le_trans (List.length_filter_le _ _) g1,fun x hx=>g2 x ((List.mem_filter.1 hx).1),aY3 g3 _⟩
 ·rw[if_pos h1] at h;exact absurd h h1
def bH (old:List Pr) (x:Wr):List Pr × Int:=if x.flag=true then aS2 old x.key else aK0 old (x.key,x.value)
def bL4 {β:Type} (p:List UInt8 × β) (d:Bool) (l:List (List UInt8 × β)):List (List UInt8 × β) × Bool:=l.foldl (aE9 p) ([],d)
def aW3 {β:Type} (p:List UInt8 × β) (d:Bool) (l:List (List UInt8 × β)):List (List UInt8 × β):=if (bL4 p d l).2 then (bL4 p d l).1 else (bL4 p d l).1++[p]
def aY4 (l:List Tn) (x:Wr):List Tn × Int :=
 let n:=bH (aJ l x.name) x
 if n.2≠0 then ([],n.2) else if 8<(aW3 (x.name,n.1) (n.1.length==0) l).length then ([],11) else (aW3 (x.name,n.1) (n.1.length==0) l,0)
def aC6 (l:List Tn) (x:Wr):List Tn × Int:=if aH x≠0 then ([],aH x) else aY4 l x
theorem cT2 (old:List Pr) (x:Wr):(bH old x).1.length≤60:=by
 unfold bH
 split
 ·unfold aS2
  split
  ·simp
  ·rename_i h
   have:=(aG5 (bL3 ZF9).1).1
   exact Nat.le_trans (List.length_filter_le _ _) this
 ·unfold aK0
  split
  ·simp
  ·split
   ·simp
   ·rename_i h;show (aL1 _ _).length≤60;omega
theorem bH0 {β:Type} {p:List UInt8 × β}:∀ (xs acc:List (List UInt8 × β)),xs.foldl (aE9 p) (acc,true)=(acc++xs.filter (fun x=>!(x.1==p.1)),true)
 | [],acc=>by simp
 | x :: xs,acc=>by
  rcases Bool.eq_false_or_eq_true (x.1==p.1) with h|h
  ·rw[List.foldl_cons,show aE9 p (acc,true) x=(acc,true) by simp[aE9,h],bH0 xs acc,List.filter_cons,h]
   simp
  ·rw[List.foldl_cons,show aE9 p (acc,true) x=(acc++[x],true) by simp[aE9,h],bH0 xs (acc++[x]),List.filter_cons,h]
   simp
theorem aY5 {β:Type} (p:List UInt8 × β) (l:List (List UInt8 × β)):aW3 p true l=l.filter (fun x=>!(x.1==p.1)):=by
 simp[aW3,bL4,bH0]
theorem aP8 {β:Type} (p:List UInt8 × β) (l:List (List UInt8 × β)):aW3 p false l=aL1 p l:=rfl
def aN0 (l:List Tn):Prop:=aL l=0
theorem aN0.old {l:List Tn} (h:aN0 l) (n:List UInt8):aG (aJ l n)=0:=by
 unfold aJ
 cases hf:l.find? (·.1==n) with
 | none=>rfl
 | some t =>
  have ht:=((aB8 l).1 h).2.1 t (List.mem_of_find?_eq_some hf)
  exact (aS5.1 ht).2.2
theorem bI5 {l:List Tn} {x:Wr} (h:aN0 l) (hz:(aC6 l x).2=0):aN0 (aC6 l x).1:=by
 unfold aC6 at *
 by_cases h1:aH x=0
 ·rw[if_neg ZE3] at hz ⊢
  unfold aY4 at *
  dsimp only at *
  by_cases h2:(bH (aJ l x.name) x).2=0
  ·rw[if_neg (by simpa using h2)] at hz ⊢
   by_cases h3:8<(aW3 (x.name,(bH (aJ l x.name) x).1) ((bH (aJ l x.name) x).1.length==0) l).length
   ·rw[if_pos h3] at hz;cases hz
   ·rw[if_neg h3]
    obtain⟨g1,g2,g3⟩:=(aB8 l).1 h
    have hnf:aI x.name=0:=by
     unfold aH at h1
     split at h1
     ·rename_i h';exact absurd h1 h'
     ·rename_i h';simpa using h'
    refine (aB8 _).2 ⟨by show (aW3 _ _ l).length≤8;omega,?_⟩
    rcases Bool.eq_false_or_eq_true ((bH (aJ l x.name) x).1.length==0) with he|he
    ·rw[he,aY5]
     exact⟨fun t ht=>g2 t ((List.mem_filter.1 ht).1),aY3 g3 _⟩
    ·rw[he,aP8]
     have hr:=bI4 (x.name,(bH (aJ l x.name) x).1) l g3
     refine⟨fun t ht=>?_,hr.1⟩
     rcases hr.2 t ht with h'|rfl
     ·exact g2 t h'
     ·refine aS5.2 ⟨hnf,by simpa using he,?_⟩
      unfold bH at h2 ⊢
      split
      ·rename_i hg;rw[if_pos hg] at h2;exact bV4 h2
      ·rename_i hg;rw[if_neg hg] at h2;exact (bV3 h2).1
  ·rw[if_pos h2] at hz;exact absurd hz h2
 ·rw[if_pos h1] at hz;exact absurd hz h1
section
variable {β : Type}
theorem cD8 {l:List (List UInt8 × β)} {k:List UInt8} {i:Nat} (hr:bS (aP l)) (hi:i<l.length) (h:l[i].1=k):l.filter (fun x=>!(x.1==k))=l.take i++l.drop (i+1):=by
 have hne:∀ j (hj:j<l.length),j≠i→(!(l[j].1==k))=true:=by
  intro j hj hji
  have:l[j].1≠k:=fun e=>hji (aY0 hr (i:=j) (j:=i) (by simpa [aP] using hj) (by simpa [aP] using hi) (by simp[aP,e,h]))
  simpa using this
 have e1:l=l.take i++l[i] :: l.drop (i+1):=by rw[← List.drop_eq_getElem_cons hi,List.take_append_drop]
 have h0:(!(l[i].1==k))=false:=by simp[h]
 conv=>lhs;rw[e1]
 rw[List.filter_append,List.filter_cons,if_neg (by simp[h0])]
 congr 1
 ·refine List.filter_eq_self.2 fun p hp=>?_
  obtain⟨j,hj,rfl⟩:=List.mem_iff_getElem.1 hp
  rw[List.length_take] at hj
  rw[List.getElem_take]
  exact hne j AO AO
 ·refine List.filter_eq_self.2 fun p hp=>?_
  obtain⟨j,hj,rfl⟩:=List.mem_iff_getElem.1 hp
  rw[List.length_drop] at hj
  rw[List.getElem_drop]
  exact hne _ AO AO
theorem bZ2 {l:List (List UInt8 × β)} {k:List UInt8} {i:Nat} (hr:bS (aP l)) (hat:At (aP l) k i) (h:(aP l)[i]?≠some k):l.filter (fun x=>!(x.1==k))=l:=by
 refine List.filter_eq_self.2 fun p hp=>?_
 have:=bN1 hr hat h
 rw[List.find?_eq_none] at this
 simpa using this p hp
end
def bN (old:List Pr) (x:Wr):Int:=if x.flag=true∧(bH old x).2=0∧0<x.value.length then 4 else (bH old x).2
theorem bN4 {l:List Pr} {k:List UInt8} (h:aG l=0):(aS2 l k).2=aE k:=by
 have e:aD3 l k=aE k:=by unfold aD3;rw[if_neg ZF9]
 unfold aS2
 rw[e]
 by_cases h2:aE k=0
 ·simp[h2]
 ·rw[if_pos h2]
theorem aQ6 {l:List Tn} {x:Wr} (hf:aN0 l) (hn:aI x.name=0) (h:bN (aJ l x.name) x≠0):aC6 l x=([],bN (aJ l x.name) x):=by
 have ho:=hf.old x.name
 by_cases hfl:x.flag=true
 ·have e1:(bH (aJ l x.name) x).2=aE x.key:=by unfold bH;rw[if_pos hfl];exact bN4 ho
  have e2:aH x=bN (aJ l x.name) x:=by
   unfold aH bN
   rw[if_neg (by simpa using hn),if_pos hfl,e1]
   by_cases h1:aE x.key=0
   ·by_cases h2:0<x.value.length
    ·rw[if_neg ZE3,if_pos h2,if_pos ⟨hfl,h1,h2⟩]
    ·rw[if_neg ZE3,if_neg h2,if_neg (fun h=>h2 h.2.2),h1]
   ·rw[if_pos h1,if_neg (fun h=>h1 h.2.1)]
  unfold aC6
  rw[e2,if_pos h]
 ·have hff:x.flag=false:=by simpa using hfl
  have e0:bN (aJ l x.name) x=(bH (aJ l x.name) x).2:=by unfold bN;rw[if_neg (fun h=>hfl h.1)]
  have e1:bH (aJ l x.name) x=aK0 (aJ l x.name) (x.key,x.value):=by unfold bH;rw[if_neg hfl]
  have e3:aH x=aA5 (x.key,x.value):=by unfold aH;rw[if_neg (by simpa using hn),if_neg hfl]
  have e4:aJ9 (aJ l x.name) (x.key,x.value)=aA5 (x.key,x.value):=by unfold aJ9;rw[if_neg (by simpa using ho)]
  rw[e0] at h ⊢
  unfold aC6
  by_cases h1:aH x=0
  ·rw[if_neg ZE3]
   unfold aY4
   dsimp only
   rw[if_pos h]
  ·rw[if_pos h1]
   rw[e1]
   rw[e3] at h1 ⊢
   unfold aK0
   rw[e4,if_pos h1]
theorem aR3 {l:List Tn} {x:Wr} (hf:aN0 l) (hn:aI x.name=0) (h:bN (aJ l x.name) x=0) :
  (bH (aJ l x.name) x).2=0∧aC6 l x=if 8<(aW3 (x.name,(bH (aJ l x.name) x).1) ((bH (aJ l x.name) x).1.length==0) l).length then ([],11) else (aW3 (x.name,(bH (aJ l x.name) x).1) ((bH (aJ l x.name) x).1.length==0) l,0):=by
 have ho:=hf.old x.name
 have hn2:(bH (aJ l x.name) x).2=0:=by
  unfold bN at h
  split at h
  ·cases h
  ·exact h
 have hw:aH x=0:=by
  unfold aH
  rw[if_neg (by simpa using hn)]
  by_cases hfl:x.flag=true
  ·have e1:(bH (aJ l x.name) x).2=aE x.key:=by unfold bH;rw[if_pos hfl];exact bN4 ho
   rw[if_pos hfl,if_neg (by rw[← e1];simpa using hn2)]
   by_cases h2:0<x.value.length
   ·unfold bN at h
    rw[if_pos ⟨hfl,hn2,h2⟩] at h
    cases h
   ·rw[if_neg h2]
  ·rw[if_neg hfl]
   have e1:bH (aJ l x.name) x=aK0 (aJ l x.name) (x.key,x.value):=by unfold bH;rw[if_neg hfl]
   rw[e1] at hn2
   unfold aK0 aJ9 at hn2
   rw[if_neg (show ¬ aG (aJ l x.name)≠0 by simpa using ho)] at hn2
   by_cases h1:aA5 (x.key,x.value)=0
   ·exact h1
   ·rw[if_pos h1] at hn2
    exact absurd hn2 h1
 refine⟨hn2,?_⟩
 unfold aC6
 rw[if_neg (by simpa using hw)]
 unfold aY4
 dsimp only
 rw[if_neg (by simpa using hn2)]
theorem bN5 {l:List Tn} {x:Wr} {i:Nat} (hf:aN0 l) (hn:aI x.name=0) (h:bN (aJ l x.name) x=0) (hi:i<l.length) (hk:l[i].1=x.name) (hz:(bH (aJ l x.name) x).1.length=0):aC6 l x=(l.take i++l.drop (i+1),0):=by
 obtain⟨g1,g2,g3⟩:=(aB8 l).1 hf
 rw[(aR3 hf hn h).2,show ((bH (aJ l x.name) x).1.length==0)=true by simpa using hz,aY5]
 rw[cD8 g3 hi hk,if_neg (by rw[List.length_append,List.length_take,List.length_drop];omega)]
theorem bI6 {l:List Tn} {x:Wr} {i:Nat} (hf:aN0 l) (hn:aI x.name=0) (h:bN (aJ l x.name) x=0) (hat:At (aP l) x.name i) (hk:(aP l)[i]?≠some x.name) (hz:(bH (aJ l x.name) x).1.length=0):aC6 l x=(l,0):=by
 obtain⟨g1,g2,g3⟩:=(aB8 l).1 hf
 rw[(aR3 hf hn h).2,show ((bH (aJ l x.name) x).1.length==0)=true by simpa using hz,aY5]
 rw[bZ2 g3 hat hk,if_neg AO]
theorem bN6 {l:List Tn} {x:Wr} {i:Nat} (hf:aN0 l) (hn:aI x.name=0) (h:bN (aJ l x.name) x=0) (hi:i<l.length) (hk:l[i].1=x.name) (hz:(bH (aJ l x.name) x).1.length≠0):aC6 l x=(l.set i (x.name,(bH (aJ l x.name) x).1),0):=by
 obtain⟨g1,g2,g3⟩:=(aB8 l).1 hf
 rw[(aR3 hf hn h).2,show ((bH (aJ l x.name) x).1.length==0)=false by simpa using hz,aP8]
 rw[bC8 g3 hi hk,if_neg (by rw[List.length_set];omega)]
theorem bI7 {l:List Tn} {x:Wr} {i:Nat} (hf:aN0 l) (hn:aI x.name=0) (h:bN (aJ l x.name) x=0) (hat:At (aP l) x.name i) (hk:(aP l)[i]?≠some x.name) (hz:(bH (aJ l x.name) x).1.length≠0) (h8:l.length=8):aC6 l x=([],11):=by
 obtain⟨g1,g2,g3⟩:=(aB8 l).1 hf
 rw[(aR3 hf hn h).2,show ((bH (aJ l x.name) x).1.length==0)=false by simpa using hz,aP8]
 rw[aV8 g3 hat hk,if_pos (by rw[aS4];omega)]
theorem bN7 {l:List Tn} {x:Wr} {i:Nat} (hf:aN0 l) (hn:aI x.name=0) (h:bN (aJ l x.name) x=0) (hat:At (aP l) x.name i) (hk:(aP l)[i]?≠some x.name) (hz:(bH (aJ l x.name) x).1.length≠0) (h8:l.length≠8):aC6 l x=(ins l i (x.name,(bH (aJ l x.name) x).1),0):=by
 obtain⟨g1,g2,g3⟩:=(aB8 l).1 hf
 rw[(aR3 hf hn h).2,show ((bH (aJ l x.name) x).1.length==0)=false by simpa using hz,aP8]
 rw[aV8 g3 hat hk,if_neg (by rw[aS4];omega)]
theorem cD9 {l:List Tn} {x:Wr} (hn:aI x.name≠0):aC6 l x=([],aI x.name):=by
 have e:aH x=aI x.name:=by unfold aH;rw[if_pos hn]
 unfold aC6
 rw[e,if_pos hn]
theorem bZ3 {α:Type} {R:(Nat→Prop)→World→List Value→α→Prop} (hR:bI R) (hone:∀ S w c x,R S w c x→∀ u ∈ c,u.oneCell'=true) (w:World) (base:Nat) (v:Value) (l:List α) (x:α) (vb:Nat) (c:List Value) (T:TypeId)
  (hown:Own 2 R (aB base) w base 165 v l) (hb:base≤w.heap.size) (hl:l.length≤100000) (hvb:w.heap[vb]?=some (.cells c.toArray T (0,0))) (hc:c.length=2) (hx:R (fun b=>aB base b∧v.ownBlock≠some b) w c x) :
  Calls Tryz.prog 107 #[v,.int .i64 l.length,.slice (some ⟨vb,0,none⟩) 1 1] w (aV9 R 165 base w (l++[x])):=by
 obtain⟨i0,hi0,hz0,hz1,hz2⟩:=info_parts info_ten
 obtain⟨A,cap,hv,hcap⟩:∃ A cap,v=.slice A l.length cap∧(A=none→cap=0):=by
  obtain⟨xs,h1,_⟩:=hown
  rcases h1.2 with ⟨rfl,h0⟩|⟨g,cap,cur,rfl,_⟩
  ·exact⟨none,0,by rw[h0],fun _=>rfl⟩
  ·exact⟨_,cap,rfl,fun h=>by cases h⟩
 have Hown:=zh hown
 have Hx:=zh hx
 have Hsrc:=zh (show ∃ ad,some (⟨vb,0,none⟩:Addr)=some ad∧∀ j u,c[j]?=some u→w.cell? (ad.add j)=some u from ⟨_,rfl,fun j u hu=>by rw[bC,Nat.zero_add,aA hvb,hu]⟩)
 have Hone:=zh (hone _ _ _ _ hx)
 have Hv:=zh hv
 have Hcap:=zh hcap
 clear hown hx hvb hone
 have hsame:v=v:=rfl
 rw[hv]
 clear hv hcap
 rcases A with _|⟨g,off,sp⟩
 all_goals
  go_enter Tryz.func107,Tryz.ntmps107
  go_wp2_with (at_builtin;refine aM3 hR (S:=aB base) _ rfl _ _ _ rfl base 165 i0 _ 2 48 Tryz.underlying26 hi0 hz0 hz1 hz2 rfl ZD9 v l ?hs Hown.out (some ⟨vb,0,none⟩) 1 c rfl hc Hsrc.out Hone.out ZD2 AO hb x Hx.out ?_;(case hs=>(rw[Hv.out];rfl));intro v1 w1 hown1 hbw1)
  all_goals
   go_ret
   exact⟨v1,rfl,hown1,hbw1⟩
theorem bT1 {α:Type} {R:(Nat→Prop)→World→List Value→α→Prop} (hR:bI R) (hone:∀ S w c x,R S w c x→∀ u ∈ c,u.oneCell'=true) (w:World) (base:Nat) (l:List α) (i:Nat) (x:α) (g cap:Nat) (vb:Nat) (c:List Value) (T:TypeId)
  (hown:Own 2 R (aB base) w base 165 (.slice (some ⟨g,0,none⟩) l.length cap) l) (hi:i<l.length) (hroom:l.length<cap) (hvb:w.heap[vb]?=some (.cells c.toArray T (0,0))) (hc:c.length=2) (hne:vb≠g) (hx:R (fun b=>aB base b∧b≠g) w c x) :
  Calls Tryz.prog 107 #[.slice (some ⟨g,0,none⟩) l.length cap,.int .i64 i,.slice (some ⟨vb,0,none⟩) 1 1] w (aV9 R 165 base w (ins l i x)):=by
 obtain⟨i0,hi0,hz0,hz1,hz2⟩:=info_parts info_ten
 obtain⟨g',cap',cur,css,hv,hg,hlt,hh,hcap,hmx,hcur,ht,hw,he⟩:=hown.row hR AO
 cases hv
 obtain⟨n,hn⟩:∃ n,n=l.length:=⟨_,rfl⟩
 have hcl:css.length=n:=by rw[hn];exact he.length
 rw[← hn] at hi hroom hcap ht ⊢
 simp only[maxLen] at hmx
 have hcell:∀ j,j<cap*2→(w.cell? ⟨g,j,none⟩).isSome=true:=by
  intro j hj
  simp[World.cell?,hh,hcur,hj]
 have hcells:∀ j,j<n*2→w.cell? ⟨g,j,none⟩=css.flatten[j]?:=by
  intro j hj
  rw[← ht,List.getElem?_take_of_lt hj,Array.getElem?_toList]
  simp[World.cell?,hh]
 have hfroz:∀ j,w.frozen? ⟨g,j,none⟩=false:=fun j=>by simp[World.frozen?,hh]
 have hov:∀ lb cb,(callFunc 169 #[.slice (some ⟨vb,0,none⟩) 1 1,.slice (some ⟨g,(i+1)*2,none⟩) lb cb]).run Tryz.prog w=.ok (.value (.bool false)) w:=fun lb cb=>by
  rw[run_callFunc_extern Tryz.func169 ZG0 ZG0 ZG0 (e:=Extern.SlicesOverlaps.overlaps #[26,26] #[4]) ZG0,
   Lib.run_overlaps_apart w 26 4 165 Tryz.underlying26 2 (bM7 hi0 hz1) ⟨vb,0,none⟩ ⟨g,(i+1)*2,none⟩ 1 1 lb cb hne T 165 _ _ (aN7 hvb) (aN7 hh) AO (by simp[World.frozen?,hvb]) (by simp[World.frozen?,hvb])]
  rfl
 have hdf:css.flatten.drop (i*2)=(css.drop i).flatten:=aL9 hw i AO
 have hdl:(css.drop i).flatten.length=(n - i)*2:=by rw[flat_len (hw.drop i),List.length_drop,hcl]
 obtain⟨news,hnews⟩:∃ news,news=(css.drop i).flatten:=⟨_,rfl⟩
 rw[← hnews] at hdf hdl
 have hn1:∀ v ∈ news,v.oneCell'=true:=by rw[hnews];exact aY1 hone (he.drop i)
 have hc1:∀ v ∈ c,v.oneCell'=true:=hone _ _ _ _ hx
 have hsz:(Tryz.prog.info? 165).map (·.size)=some 2:=bA4 hi0 hz1
 have hcp1:∀ ty dc sc,(Builtin.copy_ #[26,26] ty #[.slice (some ⟨g,(i+1)*2,none⟩) (n - i) dc,.slice (some ⟨g,i*2,none⟩) (n+1 - i) sc]).run Tryz.prog w.drew=.ok (goInt ((n - i:Nat):Int)) (w.drew.setCells g ((i+1)*2) news):=fun ty dc sc =>
  aD9 w.drew _ _ ty 165 2 (n - i) g ((i+1)*2) (n - i) dc ⟨g,i*2,none⟩ (n+1 - i) sc news Tryz.underlying26 hsz ZF8 hdl
   (fun j v hj=>by
    rw[bC]
    have hjl:=(List.getElem?_eq_some_iff.1 hj).1
    have:=hcells (i*2+j) AO
    show w.cell? _=_
    rw[this,← hj,← hdf,List.getElem?_drop])
   (fun j hj=>hcell _ AO) (fun j hj=>hfroz _) hn1
 obtain⟨W1,hW1⟩:∃ W1,W1=w.drew.setCells g ((i+1)*2) news:=⟨_,rfl⟩
 have hcp2:∀ ty dc,(Builtin.copy_ #[26,26] ty #[.slice (some ⟨g,i*2,none⟩) (n+1 - i) dc,.slice (some ⟨vb,0,none⟩) 1 1]).run Tryz.prog W1=.ok (goInt ((1:Nat):Int)) (W1.setCells g (i*2) c):=fun ty dc =>
  aD9 W1 _ _ ty 165 2 1 g (i*2) (n+1 - i) dc ⟨vb,0,none⟩ 1 1 c Tryz.underlying26 hsz ZF8 (by rw[hc])
   (fun j v hj=>by
    rw[bC,hW1,World.cell?_setCells_out g _ _ _ _ (fun h _=>absurd h hne),Nat.zero_add]
    show w.cell? _=_
    rw[aA hvb,hj])
   (fun j hj=>by rw[hW1];exact World.isSome_setCells g news _ _ _ (hcell _ AO)) (fun j hj=>by rw[hW1,World.frozen?_setCells];exact hfroz _) hc1
 rw[← hW1] at hcp1
 have Hcp1:=zh hcp1
 have Hcp2:=zh hcp2
 have Hown:=zh hown
 have Hrest:=zh (And.intro hh (And.intro hcur (And.intro ht (And.intro hw (And.intro he hx)))))
 have HW1:=zh hW1
 have Hn:=zh hn
 have Hcl:=zh hcl
 have Hnews:=zh hnews
 have Hdl:=zh hdl
 have Hc:=zh hc
 have Hlt:=zh hlt
 clear hcp1 hcp2 hown hh hcur ht hw he hx hW1 hn hcl hnews hdl hc hcells hcell hfroz hdf hn1 hc1 hsz hvb hlt
 have hz2':((i:Int)==(n:Int))=false:=by simp;omega
 have hw0:IntKind.i64.wrap ((n:Int)+1)=(n:Int)+1:=by rw[IntKind.wrap_i64];omega
 have hw1:IntKind.i64.wrap ((i:Int)+1)=(i:Int)+1:=by rw[IntKind.wrap_i64];omega
 have hb0:decide ((cap:Int)<(n:Int)+1)=false:=by simp;omega
 have hb1:(0:Int)≤(i:Int)+1:=by omega
 have hb5:(0:Int)≤(n:Int)+1:=by omega
 have hb6:(n:Int)+1≤(cap:Int):=by omega
 have hin:i≤n:=by omega
 have htn:((i:Int)+1).toNat=i+1:=by omega
 have htn':((n:Int)+1).toNat=n+1:=by omega
 have hb2:¬ (cap=i+1):=by omega
 have hb3:(i:Int)≤(n:Int)+1:=by omega
 have hb7:(i:Int)+1≤(n:Int)+1:=by omega
 have hb4:¬ (cap=i):=by omega
 go_enter Tryz.func107,Tryz.ntmps107
 go_wp2_with (simp only[hov])
 go_region_law ((refine step_copy_runI rfl (.tmp 73) (.tmp 76) 26 26 rfl (.slice (some ⟨g,(i+1)*2,none⟩) (n - i) (cap - (i+1))) (.slice (some ⟨g,i*2,none⟩) (n+1 - i) (cap - i)) ?hd ?hx (Hcp1.out _ _ _) ?_);(case hd=>simp[Act.eval,Act.put]);(case hx=>simp[Act.eval,Act.put]))
 go_wp2_with (refine wpList_copy_runI _ rfl (.tmp 80) (.tmp 81) 26 26 rfl (.slice (some ⟨g,i*2,none⟩) (n+1 - i) (cap - i)) (.slice (some ⟨vb,0,none⟩) 1 1) ?hd2 ?hx2 (Hcp2.out _ _) ?_;(case hd2=>simp[Act.eval,Act.put]);(case hx2=>simp[Act.eval,Act.put]))
 go_ret
 obtain⟨hh,hcur,ht,hw,he,hx⟩:=Hrest.out
 have hil:(ins l i x).length=n+1:=by rw[aS4,Hn.out]
 have hh1:W1.heap[g]?=some (.cells (cur.toList.take ((i+1)*2)++news++cur.toList.drop ((i+1)*2+news.length)).toArray 165 (0,0)):=by
  rw[HW1.out]
  exact aB5 news ((i+1)*2) cur w.drew hh (by rw[Hdl.out];omega)
 have hl1:(cur.toList.take ((i+1)*2)++news++cur.toList.drop ((i+1)*2+news.length)).toArray.size=cap*2:=by
  rw[aK5 _ _ _ _ rfl (by rw[Hdl.out,Array.length_toList];omega),Array.length_toList,hcur]
 have hh2:=aB5 c (i*2) _ W1 hh1 (by rw[hl1,Hc.out];omega)
 have hs:aC (fun b=>aB base b∧b≠g) w (W1.setCells g (i*2) c):=by
  rw[HW1.out]
  exact aC.setCells ZH2 _ _ (aC.setCells ZH2 _ _ (aC.refl _ _).drew)
 have hbw:Below base w (W1.setCells g (i*2) c):=by
  rw[HW1.out]
  exact aB7 hg _ _ (aB7 hg _ _ (Below.refl _ _).drew)
 refine⟨.slice (some ⟨g,0,none⟩) (n+1) cap,rfl,?_,hbw⟩
 rw[← hil]
 refine Own.mk_row (css:=css.take i++c :: css.drop i) (bE6 hw Hc.out i) ((bE7 he hx i).mono fun c' x' h'=>hR.same _ _ _ _ _ hs h') hg hh2 AO ZD2 ?_ ?_ hR
 ·have hc2:=Hc.out
  rw[aK5 _ _ _ _ rfl (by rw[hc2];show i*2+2≤Array.size _;rw[hl1];omega)]
  exact hl1
 ·rw[hil]
  exact bV1 hw Hcl.out ht AO Hc.out (by rw[Array.length_toList,hcur];omega) news Hnews.out
theorem bT2 {α:Type} {R:(Nat→Prop)→World→List Value→α→Prop} (hR:bI R) (hone:∀ S w c x,R S w c x→∀ u ∈ c,u.oneCell'=true) (w:World) (base:Nat) (l:List α) (i:Nat) (x:α) (g cap:Nat) (vb:Nat) (c:List Value) (T:TypeId)
  (hown:Own 2 R (aB base) w base 165 (.slice (some ⟨g,0,none⟩) l.length cap) l) (hb:base≤w.heap.size) (hl:l.length≤100000) (hi:i<l.length) (hroom:¬ l.length<cap) (hvb:w.heap[vb]?=some (.cells c.toArray T (0,0))) (hc:c.length=2) (hx:R (fun b=>aB base b∧b≠g) w c x) :
  Calls Tryz.prog 107 #[.slice (some ⟨g,0,none⟩) l.length cap,.int .i64 i,.slice (some ⟨vb,0,none⟩) 1 1] w (aV9 R 165 base w (ins l i x)):=by
 obtain⟨i0,hi0,hz0,hz1,hz2⟩:=info_parts info_ten
 obtain⟨g',cap',cur,css,hv,hg,hlt,hh,hcap,hmx,hcur,ht,hw,he⟩:=hown.row hR AO
 cases hv
 obtain⟨n,hn⟩:∃ n,n=l.length:=⟨_,rfl⟩
 have hcl:css.length=n:=by rw[hn];exact he.length
 rw[← hn] at hi hroom hcap ht hl ⊢
 obtain rfl:cap=n:=by omega
 clear hcap hroom
 have hvlt:vb<w.heap.size:=(Array.getElem?_eq_some_iff.1 hvb).1
 have hcells:∀ j,j<cap*2→w.cell? ⟨g,j,none⟩=css.flatten[j]?:=by
  intro j hj
  rw[← ht,List.getElem?_take_of_lt hj,Array.getElem?_toList]
  simp[World.cell?,hh]
 have hfi:css.flatten.take (i*2)=(css.take i).flatten:=aQ5 hw i AO
 have hfl:(css.take i).flatten.length=i*2:=by rw[flat_len (hw.take i),List.length_take];omega
 have hdf:css.flatten.drop (i*2)=(css.drop i).flatten:=aL9 hw i AO
 have hdl:(css.drop i).flatten.length=(cap - i)*2:=by rw[flat_len (hw.drop i),List.length_drop,hcl]
 obtain⟨news,hnews⟩:∃ news,news=(css.drop i).flatten:=⟨_,rfl⟩
 rw[← hnews] at hdf hdl
 have hn1:∀ v ∈ news,v.oneCell'=true:=by rw[hnews];exact aY1 hone (he.drop i)
 have hc1:∀ v ∈ c,v.oneCell'=true:=hone _ _ _ _ hx
 have hsz:(Tryz.prog.info? 165).map (·.size)=some 2:=bA4 hi0 hz1
 have hold:(Builtin.firstCells i0.size i (.slice (some ⟨g,0,none⟩) i cap)).run Tryz.prog w.drew=.ok (css.take i).flatten.toArray w.drew:=by
  rw[hz1]
  exact run_firstCells_some w.drew 2 i ⟨g,0,none⟩ i cap _ hfl (fun j v hj=>by
   rw[bC,Nat.zero_add]
   have hjl:=(List.getElem?_eq_some_iff.1 hj).1
   show w.cell? _=_
   rw[hcells j AO,← hj,← hfi,List.getElem?_take_of_lt AO])
 have hkk:(cap:Int)+1 - (i:Int)=((cap+1 - i:Nat):Int):=by omega
 have hik:i+(cap+1 - i)=cap+1:=by omega
 obtain⟨G,hG⟩:∃ G,G=grownCap w (cap+1) cap 165:=⟨_,rfl⟩
 have hGn:cap+1≤G:=by rw[hG];exact grownCap_ge w _ _ _
 have hG63:G≤maxLen:=by
  have:=grownCap_le_maxLen w (cap+1) cap 165 ZD2
  rwa [← hG] at this
 obtain⟨ROW,hROW⟩:∃ ROW:Array Value,ROW=(css.take i).flatten.toArray++Builtin.zeroCells (Value.agg #[.slice none 0 0,.slice none 0 0]).cells (cap+1 - i)++Builtin.zeroCells (Value.agg #[.slice none 0 0,.slice none 0 0]).cells (G - (cap+1)):=⟨_,rfl⟩
 have hrz:∀ ty,(Builtin.append_ #[26,3] ty #[.slice (some ⟨g,0,none⟩) i cap,.int .i64 ((cap:Int)+1 - (i:Int))]).run Tryz.prog w=.ok (.slice (some ⟨w.heap.size,0,none⟩) (cap+1) G) (w.drew.alloc (.cells ROW 165)):=fun ty=>by
  have h:=Lib.run_append_grow_zeros (P:=Tryz.prog) w 26 3 ty 165 i0 _ .i64 .i64 Tryz.underlying26 Tryz.underlying3 hi0 hz0 (some ⟨g,0,none⟩) i cap _ hold (cap+1 - i) AO AO AO AO (by rw[hz2];omega) (by rw[hz2,hik];exact growslice_fits AO AO)
  rw[hik,← hG,← hROW] at h
  rw[hkk]
  exact h
 have hRl:ROW.size=G*2:=by
  rw[hROW]
  simp only[Array.size_append,List.size_toArray,hfl,size_zeroCells,Value.cells]
  simp
  omega
 have hRt:ROW.toList.take (i*2)=(css.take i).flatten:=by
  rw[hROW,Array.toList_append,Array.toList_append,List.append_assoc]
  show (((css.take i).flatten)++_).take (i*2)=_
  rw[← hfl,List.take_left]
 clear hROW
 obtain⟨W1,hW1⟩:∃ W1,W1=w.drew.alloc (.cells ROW 165):=⟨_,rfl⟩
 rw[← hW1] at hrz
 have hrow:W1.heap[w.heap.size]?=some (.cells ROW 165 (0,0)):=by rw[hW1];exact heap_alloc_new w.drew _
 have hN:∀ j,j<G*2→(W1.cell? ⟨w.heap.size,j,none⟩).isSome=true:=fun j hj=>by
  simp[World.cell?,hrow,hRl,hj]
 have hNf:∀ j,W1.frozen? ⟨w.heap.size,j,none⟩=false:=fun j=>by simp[World.frozen?,hrow]
 have hOb:∀ b j,b<w.heap.size→W1.cell? ⟨b,j,none⟩=w.cell? ⟨b,j,none⟩:=fun b j h=>by rw[hW1,World.cell?_alloc_past (w:=w.drew) _ b j h];rfl
 have hcpA:∀ (W:World),(∀ x,W.cell? x=W1.cell? x)→(∀ x,W.frozen? x=W1.frozen? x)→∀ ty dc,(Builtin.copy_ #[26,26] ty #[.slice (some ⟨w.heap.size,i*2,none⟩) (cap+1 - i) dc,.slice (some ⟨vb,0,none⟩) 1 1]).run Tryz.prog W=.ok (goInt ((1:Nat):Int)) (W.setCells w.heap.size (i*2) c):=fun W hWc hWf ty dc =>
  aD9 W _ _ ty 165 2 1 w.heap.size (i*2) (cap+1 - i) dc ⟨vb,0,none⟩ 1 1 c Tryz.underlying26 hsz ZF8 (by rw[hc])
   (fun j v hj=>by rw[bC,hWc,Nat.zero_add,hOb _ _ hvlt,aA hvb,hj])
   (fun j hj=>by rw[hWc];exact hN _ AO) (fun j hj=>by rw[hWf];exact hNf _) hc1
 have hcpB:∀ (W:World),(∀ x,W.cell? x=(W1.setCells w.heap.size (i*2) c).cell? x)→(∀ x,W.frozen? x=(W1.setCells w.heap.size (i*2) c).frozen? x)→∀ ty dc sc,(Builtin.copy_ #[26,26] ty #[.slice (some ⟨w.heap.size,(i+1)*2,none⟩) (cap - i) dc,.slice (some ⟨g,i*2,none⟩) (cap - i) sc]).run Tryz.prog W=.ok (goInt ((cap - i:Nat):Int)) (W.setCells w.heap.size ((i+1)*2) news):=fun W hWc hWf ty dc sc =>
  aD9 W _ _ ty 165 2 (cap - i) w.heap.size ((i+1)*2) (cap - i) dc ⟨g,i*2,none⟩ (cap - i) sc news Tryz.underlying26 hsz ZF8 hdl
   (fun j v hj=>by
    rw[bC,hWc,World.cell?_setCells_out _ _ _ _ _ (fun h _=>absurd h (by show ¬ (g=w.heap.size);omega)),hOb _ _ hlt]
    have hjl:=(List.getElem?_eq_some_iff.1 hj).1
    rw[hcells (i*2+j) AO,← hj,← hdf,List.getElem?_drop])
   (fun j hj=>by rw[hWc];exact World.isSome_setCells _ _ _ _ _ (hN _ AO))
   (fun j hj=>by rw[hWf,World.frozen?_setCells];exact hNf _) hn1
 have hE:aC (fun b=>aB base b∧b≠w.heap.size) w W1:=by rw[hW1];exact ((aC.refl _ _).drew).alloc _
 have hB:Below base w W1:=by rw[hW1];exact ((Below.refl _ _).drew).alloc hb _
 have hE1:∀ x,((w.alloc (.cells ROW 165)).drew).cell? x=W1.cell? x:=fun x=>by rw[hW1];rfl
 have hE2:∀ x,((w.alloc (.cells ROW 165)).drew).frozen? x=W1.frozen? x:=fun x=>by rw[hW1];rfl
 have hWW:W1=(w.alloc (.cells ROW 165)).drew:=by rw[hW1];rfl
 have HrzA:=zh hrz
 have HcpA:=zh hcpA
 have HcpB:=zh hcpB
 have Hrest:=zh (And.intro hh (And.intro hrow (And.intro hRl (And.intro hRt (And.intro hw (And.intro he (And.intro hx (And.intro hE hB))))))))
 have Hn:=zh hn
 have Hcl:=zh hcl
 have Hnews:=zh hnews
 have Hdl:=zh hdl
 have Hc:=zh hc
 have HE1:=zh hE1
 have HE2:=zh hE2
 have HWW:=zh hWW
 have HWd:=zh hW1
 have hG63':G≤9223372036854775807:=by simp only[maxLen] at hG63;omega
 have HG63:=zh hG63
 clear hrz hcpA hcpB hown hh hcur ht hw he hx hW1 hn hcl hnews hdl hc hcells hdf hn1 hc1 hsz hvb hrow hRl hRt hN hNf hOb hE hB hE1 hE2 hWW hold hkk hik hfi hfl hlt hG hG63
 have hz2':((i:Int)==(cap:Int))=false:=by simp;omega
 have hw0:IntKind.i64.wrap ((cap:Int)+1)=(cap:Int)+1:=by rw[IntKind.wrap_i64];omega
 have hw1:IntKind.i64.wrap ((i:Int)+1)=(i:Int)+1:=by rw[IntKind.wrap_i64];omega
 have hw2:IntKind.i64.wrap ((cap:Int)+1 - (i:Int))=(cap:Int)+1 - (i:Int):=by rw[IntKind.wrap_i64];omega
 have hb0:decide ((cap:Int)<(cap:Int)+1)=true:=by simp;omega
 have hb1:(0:Int)≤(i:Int)+1:=by omega
 have hin:i≤cap:=by omega
 have htn:((i:Int)+1).toNat=i+1:=by omega
 have hGi:¬ (G=i):=by omega
 have hGim:¬ (G=i+1):=by omega
 have hci:¬ (cap=i):=by omega
 have hb3:(i:Int)≤(cap:Int):=by omega
 have hb7:(i:Int)+1≤(cap:Int)+1:=by omega
 go_enter Tryz.func107,Tryz.ntmps107
 go_wp2_with (first
  | (at_builtin;refine Lib.wpList_append_run _ rfl (.tmp 34) (.tmp 39) _ _ rfl _ _ rfl rfl _ _ (HrzA.out _) ?_)
  | (refine wpList_copy_runI _ rfl (.tmp 43) (.tmp 44) 26 26 rfl (.slice (some ⟨w.heap.size,i*2,none⟩) (cap+1 - i) (G - i)) (.slice (some ⟨vb,0,none⟩) 1 1) ?hd1 ?hx1 (HcpA.out _ (fun _=>rfl) (fun _=>rfl) _ _) ?_;(case hd1=>simp[Act.eval,Act.put]);(case hx1=>simp[Act.eval,Act.put])))
 go_region_law ((refine step_copy_runI rfl (.tmp 50) (.tmp 53) 26 26 rfl (.slice (some ⟨w.heap.size,(i+1)*2,none⟩) (cap - i) (G - (i+1))) (.slice (some ⟨g,i*2,none⟩) (cap - i) (cap - i)) ?hd2 ?hx2 (HcpB.out (W1.setCells w.heap.size (i*2) c).drew (fun _=>rfl) (fun _=>rfl) _ _ _) ?_);(case hd2=>simp[Act.eval,Act.put]);(case hx2=>simp[Act.eval,Act.put]))
 go_wp2
 go_ret
 obtain⟨hh,hrow,hRl,hRt,hw,he,hx,hE,hB⟩:=Hrest.out
 have hil:(ins l i x).length=cap+1:=by rw[aS4,Hn.out]
 have hc2:=Hc.out
 have hh1:=aB5 c (i*2) ROW W1 hrow (by rw[hRl,hc2];omega)
 have hl1:(ROW.toList.take (i*2)++c++ROW.toList.drop (i*2+c.length)).toArray.size=G*2:=by
  rw[aK5 _ _ _ _ rfl (by rw[hc2];show i*2+2≤ROW.size;rw[hRl];omega)]
  exact hRl
 have hh2:=aB5 news ((i+1)*2) _ (W1.setCells w.heap.size (i*2) c).drew hh1 (by rw[hl1,Hdl.out];omega)
 have hs:aC (fun b=>aB base b∧b≠w.heap.size) w ((W1.setCells w.heap.size (i*2) c).drew.setCells w.heap.size ((i+1)*2) news) :=
  aC.setCells ZH2 _ _ (aC.setCells ZH2 _ _ hE).drew
 have hbw:Below base w ((W1.setCells w.heap.size (i*2) c).drew.setCells w.heap.size ((i+1)*2) news) :=
  aB7 hb _ _ (aB7 hb _ _ hB).drew
 have hrow':∀ c' x',R (fun b=>aB base b∧b≠g) w c' x'→R (fun b=>aB base b∧b≠w.heap.size) ((W1.setCells w.heap.size (i*2) c).drew.setCells w.heap.size ((i+1)*2) news) c' x':=fun c' x' h' =>
  hR.same _ _ _ _ _ hs (hR.less _ _ _ _ _ (fun b hlt hs=>⟨hs.1,AO⟩) h')
 refine⟨.slice (some ⟨w.heap.size,0,none⟩) (cap+1) G,rfl,?_,hbw⟩
 rw[← hil]
 refine Own.mk_row (css:=css.take i++c :: css.drop i) (bE6 hw hc2 i) ((bE7 he hx i).mono hrow') hb hh2 AO HG63.out ?_ ?_ hR
 ·rw[aK5 _ _ _ _ rfl (by rw[Hdl.out];show (i+1)*2+(cap - i)*2≤Array.size _;rw[hl1];omega)]
  exact hl1
 ·rw[hil]
  exact bM8 hw Hcl.out hRt AO hc2 (by rw[Array.length_toList,hRl];omega) news Hnews.out
theorem bI8 {α:Type} {R:(Nat→Prop)→World→List Value→α→Prop} (hR:bI R) (hone:∀ S w c x,R S w c x→∀ u ∈ c,u.oneCell'=true) (w:World) (base:Nat) (v:Value) (l:List α) (i:Nat) (x:α) (vb:Nat) (c:List Value) (T:TypeId)
  (hown:Own 2 R (aB base) w base 165 v l) (hi:i≤l.length) (hb:base≤w.heap.size) (hl:l.length≤100000) (hvb:w.heap[vb]?=some (.cells c.toArray T (0,0))) (hne:v.ownBlock≠some vb) (hc:c.length=2) (hx:R (fun b=>aB base b∧v.ownBlock≠some b) w c x) :
  Calls Tryz.prog 107 #[v,.int .i64 i,.slice (some ⟨vb,0,none⟩) 1 1] w (aV9 R 165 base w (ins l i x)):=by
 rcases Nat.lt_or_ge i l.length with h|h
 ·obtain⟨g,cap,cur,css,rfl,_⟩:=hown.row hR AO
  have hx':R (fun b=>aB base b∧b≠g) w c x:=hR.less _ _ _ _ _ (fun b _ hs=>⟨hs.1,fun e=>hs.2 (by simp[Value.ownBlock,e])⟩) hx
  by_cases hroom:l.length<cap
  ·exact bT1 hR hone w base l i x g cap vb c T hown h hroom hvb hc (fun e=>hne (by simp[Value.ownBlock,e])) hx'
  ·exact bT2 hR hone w base l i x g cap vb c T hown hb hl h hroom hvb hc hx'
 ·obtain rfl:i=l.length:=by omega
  have e:ins l l.length x=l++[x]:=by simp[ins]
  rw[e]
  exact bZ3 hR hone w base v l x vb c T hown hb hl hvb hc hx
theorem zero_ten (w:World):(zeroValue 165).run Tryz.prog w=.ok (.agg #[.slice none 0 0,.slice none 0 0]) w:=by
 obtain⟨i0,hi0,hz0,_,_⟩:=info_parts info_ten
 simp[zeroValue,typeInfo,hi0,hz0]
theorem tenR_one:∀ S w c x,bK4 S w c x→∀ u ∈ c,u.oneCell'=true:=by
 rintro S w c x ⟨A,c1,B,d,rfl,_⟩ u hu
 simp only[List.mem_cons,List.not_mem_nil,or_false] at hu
 rcases hu with e|e <;> rw[e] <;> rfl
theorem ownT_one {S:Nat→Prop} {w:World} {l:List Tn} {xs:List Value} (hl:xs.length=l.length*2) (h:∀ i (h:i<l.length),bK4 S w ((xs.drop (i*2)).take 2) l[i]):∀ u ∈ xs,u.oneCell'=true:=by
 intro u hu
 obtain⟨j,hj,rfl⟩:=List.mem_iff_getElem.1 hu
 obtain⟨A,c,V,d,hcs,_⟩:=h (j / 2) AO
 have hin:xs[j] ∈ (xs.drop (j / 2*2)).take 2:=by
  refine List.mem_iff_getElem?.2 ⟨j % 2,?_⟩
  rw[List.getElem?_take_of_lt AO,List.getElem?_drop,show j / 2*2+j % 2=j by omega,List.getElem?_eq_getElem hj]
 rw[hcs] at hin
 simp only[List.mem_cons,List.not_mem_nil,or_false] at hin
 rcases hin with e|e <;> rw[e] <;> rfl
theorem bI9 (w:World) (base:Nat) (v:Value) (l:List Tn) (i:Nat) (hown:Own 2 bK4 (aB base) w base 165 v l) (hi:i<l.length) :
  Calls Tryz.prog 106 #[v,.int .i64 i,.int .i64 (i+1)] w (aV9 bK4 165 base w (l.take i++l.drop (i+1))):=by
 obtain⟨i0,hi0,hz0,hz1,hz2⟩:=info_parts info_ten
 have Hw:=zh hown
 obtain⟨xs,hrow,hels⟩:=hown
 obtain⟨hxl,hr⟩:=hrow
 rcases hr with ⟨_,h0⟩|⟨g,cap,cur,rfl,hg,hheap,hcap,hmx,hcur,htake⟩
 ·omega
 have hglt:g<w.heap.size:=(Array.getElem?_eq_some_iff.1 hheap).1
 obtain⟨n,hn⟩:∃ n,n=l.length:=⟨_,rfl⟩
 rw[← hn] at hi hxl hcap htake
 have hcell:∀ j,j<2*n→w.cell? ⟨g,j,none⟩=xs[j]?:=by
  intro j hj
  rw[← htake,List.getElem?_take_of_lt AO,Array.getElem?_toList]
  simp[World.cell?,hheap]
 have hfroz:∀ j,w.frozen? ⟨g,j,none⟩=false:=by
  intro j
  simp[World.frozen?,hheap]
 obtain⟨news,hnews⟩:∃ news,news=xs.drop (2*(i+1)):=⟨_,rfl⟩
 have hnl:news.length=(n - (i+1))*2:=by rw[hnews,List.length_drop,hxl];omega
 obtain⟨A,hA,hAc⟩:∃ A,(if cap=i+1 then some (⟨g,0,none⟩:Addr) else some ⟨g,(i+1)*2,none⟩)=some A∧Hid (∀ j u,news[j]?=some u→w.drew.cell? (A.add j)=some u):=by
  by_cases hc:cap=i+1
  ·refine⟨_,by rw[if_pos hc],?_⟩
   intro j u hu
   have:=(List.getElem?_eq_some_iff.1 hu).1
   omega
  ·refine⟨_,by rw[if_neg hc],?_⟩
   intro j u hu
   have hj:=(List.getElem?_eq_some_iff.1 hu).1
   rw[hnews,List.getElem?_drop] at hu
   rw[bC]
   exact (hcell ((i+1)*2+j) AO).trans (by rw[← hu];congr 1;omega)
 have S1:=zh hnl
 have S2:Hid (∀ u ∈ news,u.oneCell'=true):=by
  intro u hu
  rw[hnews] at hu
  exact ownT_one (by rw[hxl,hn]) hels u (List.mem_of_mem_drop hu)
 have S3:Hid (∀ j,j<news.length→(w.drew.cell? ⟨g,0+i*2+j,none⟩).isSome=true∧w.drew.frozen? ⟨g,0+i*2+j,none⟩=false):=by
  intro j hj
  refine⟨?_,hfroz _⟩
  have:=hcell (i*2+j) AO
  show (w.cell? _).isSome=true
  rw[Nat.zero_add,this,List.getElem?_eq_getElem AO]
  rfl
 have hwr:IntKind.i64.wrap ((i:Int)+1)=(i:Int)+1:=by rw[IntKind.wrap_i64];simp only[maxLen] at hmx;omega
 have hp0:(0:Int)≤(i:Int)+1:=by omega
 have hp1:(i:Int)+1≤(n:Int):=by omega
 have hp2:((i:Int)+1).toNat=i+1:=by omega
 have hp3:((i:Int)==(i:Int)+1)=false:=by simp;omega
 have hic:i≤cap:=by omega
 have Hels:=zh hels
 have Hheap:=zh hheap
 have Hcell:=zh hcell
 have Hfroz:=zh hfroz
 have Htake:=zh htake
 have Hnews:=zh hnews
 have Hmx:=zh hmx
 have Hcur:=zh hcur
 have hcap':n≤cap:=hcap
 clear hels hheap hcell hfroz htake hnews hmx hcur hnl
 rw[← hn]
 have Hn:=zh hn
 clear hn
 go_enter Tryz.func106,Tryz.ntmps106
 go_wp2_with fail
 go_region_law (refine step_append_room rfl (.tmp 22) (.tmp 25) 26 rfl 165 i0 2 Tryz.underlying26 hi0 hz1 g 0 i cap (by simp[Act.eval,Act.put]) A (n - (i+1)) (cap - (i+1)) news (by simp[Act.eval,Act.put];try assumption) S1.out hAc.out S2.out AO S3.out ?_)
 have Hc2:Hid (∀ j,j<[Value.slice none 0 0,Value.slice none 0 0].length→(((w.drew.setCells g (i*2) news)).cell? ⟨g,(i+(n - (i+1)))*2+j,none⟩).isSome=true):=by
  intro j hj
  have hj2:j<2:=hj
  refine World.isSome_setCells g news _ _ _ ?_
  show (w.cell? _).isSome=true
  rw[Hcell.out _ AO,List.getElem?_eq_getElem AO]
  rfl
 have Hf2:Hid (∀ j,j<[Value.slice none 0 0,Value.slice none 0 0].length→(((w.drew.setCells g (i*2) news)).frozen? ⟨g,(i+(n - (i+1)))*2+j,none⟩)=false):=by
  intro j _
  rw[World.frozen?_setCells]
  exact Hfroz.out _
 go_wp2_with (refine bV2 rfl _ _ rfl 165 _ [.slice none 0 0,.slice none 0 0] Tryz.underlying26 zero_ten rfl ZE8 g ((i+(n - (i+1)))*2) (cap - (i+(n - (i+1)))) ?hx Hc2.out Hf2.out ?_;(case hx=>simp[Act.eval];omega))
 go_ret
 obtain⟨g',cap',cur',css,hv',hg',hglt',hh',hcap2,hmx2,hcur2,ht2,hw2,he2⟩:=Hw.out.row tenR_stays (by rw[← Hn.out];omega)
 cases hv'
 have ecur:cur'=cur:=by have:=hh'.symm.trans Hheap.out;injection this with this;injection this
 subst ecur
 rw[← Hn.out] at ht2 hcap2
 have hcl:css.length=n:=by rw[Hn.out];exact he2.length
 have hxs:xs=css.flatten:=by rw[← Htake.out,ht2]
 have hnw:news=(css.drop (i+1)).flatten:=by rw[Hnews.out,hxs,Nat.mul_comm 2 (i+1)];exact aL9 hw2 (i+1) AO
 have hcs:=Hcur.out
 have hh1:=aB5 news (i*2) cur' w.drew hh' (by rw[S1.out];omega)
 have hl1:(cur'.toList.take (i*2)++news++cur'.toList.drop (i*2+news.length)).toArray.size=cap*2:=by
  rw[aK5 _ _ _ _ rfl (by rw[S1.out];show i*2+(n - (i+1))*2≤Array.size _;omega)]
  exact hcs
 have hh2:=aB5 [.slice none 0 0,.slice none 0 0] ((i+(n - (i+1)))*2) _ (w.drew.setCells g (i*2) news) hh1 (by rw[hl1];show (i+(n - (i+1)))*2+2≤_;omega)
 have hbw:Below base w ((w.drew.setCells g (i*2) news).setCells g ((i+(n - (i+1)))*2) [.slice none 0 0,.slice none 0 0]):=aB7 hg _ _ (aB7 hg _ _ (Below.refl _ _).drew)
 have hs:aC (fun b=>aB base b∧b≠g) w ((w.drew.setCells g (i*2) news).setCells g ((i+(n - (i+1)))*2) [.slice none 0 0,.slice none 0 0]) :=
  aC.setCells ZH2 _ _ (aC.setCells ZH2 _ _ (aC.refl _ _).drew)
 have hll:(l.take i++l.drop (i+1)).length=i+(n - (i+1)):=by rw[List.length_append,List.length_take,List.length_drop,← Hn.out];omega
 generalize (w.drew.setCells g (i*2) news).setCells g ((i+(n - (i+1)))*2) [.slice none 0 0,.slice none 0 0]=WW at hbw hs hh2 ⊢
 refine⟨.slice (some ⟨g,0,none⟩) (i+(n - (i+1))) cap,rfl,?_,hbw⟩
 rw[← hll]
 refine Own.mk_row (css:=css.take i++css.drop (i+1)) ((hw2.take i).append (hw2.drop (i+1))) ((Each.append (he2.drop (i+1)) (he2.take i)).mono fun c' x' h'=>tenR_stays.same _ _ _ _ _ hs h') hg hh2 AO hmx2 ?_ ?_ tenR_stays
 ·rw[aK5 _ _ _ _ rfl (by show (i+(n - (i+1)))*2+2≤Array.size _;rw[hl1];omega)]
  exact hl1
 ·rw[hll]
  have hf1:(css.take i).flatten.length=i*2:=by rw[flat_len (hw2.take i),List.length_take];omega
  have e1:cur'.toList.take (i*2)=(css.take i).flatten:=by rw[← aQ5 hw2 i AO,← ht2,List.take_take,Nat.min_eq_left AO]
  have e2:((css.take i).flatten++news).length=(i+(n - (i+1)))*2:=by rw[List.length_append,hf1,S1.out];omega
  show ((((cur'.toList.take (i*2)++news++cur'.toList.drop (i*2+news.length))).take ((i+(n - (i+1)))*2)++_++_).take _)=_
  rw[e1,List.flatten_append,← hnw,← e2,List.take_left,List.append_assoc ((css.take i).flatten++news),List.take_left]
theorem Own.put_row {α:Type} {size:Nat} {R:(Nat→Prop)→World→List Value→α→Prop} {S:Nat→Prop} {w W:World} {base:Nat} {e:TypeId} {l:List α} {g cap:Nat} {cur:Array Value} {css:List (List Value)} (hR:bI R) (hg:base≤g) (hcap:l.length≤cap) (hmx:cap≤maxLen) (hcur:cur.size=cap*size) (ht:cur.toList.take (l.length*size)=css.flatten) (hw:aO6 size css) (he:Each (R (fun b=>S b∧b≠g) w) css l)
  {i:Nat} (hi:i<l.length) {c:List Value} (hc:c.length=size) {x:α} (hx:R (fun b=>S b∧b≠g) w c x) (hs:aC (fun b=>S b∧b≠g) w W) (hh':W.heap[g]?=some (.cells (cur.toList.take (i*size)++c++cur.toList.drop (i*size+c.length)).toArray e (0,0))) :
  Own size R S W base e (.slice (some ⟨g,0,none⟩) l.length cap) (l.set i x):=by
 have hcl:=he.length
 have hil:(i+1)*size≤l.length*size:=Nat.mul_le_mul_right _ hi
 have hll:l.length*size≤cap*size:=Nat.mul_le_mul_right _ hcap
 rw[Nat.add_mul,Nat.one_mul] at hil
 have hl':(l.set i x).length=l.length:=List.length_set
 rw[← hl']
 refine Own.mk_row (css:=css.set i c) ?_ ((he.set hx i).mono fun c' x' hx'=>hR.same _ _ _ _ _ hs hx') hg hh' (by rw[hl'];exact hcap) hmx ?_ ?_ hR
 ·intro c' hc'
  rcases List.mem_or_eq_of_mem_set hc' with h1|h1
  ·exact hw c' h1
  ·rw[h1];exact hc
 ·simp only[List.size_toArray,List.length_append,List.length_take,List.length_drop,Array.length_toList,hc]
  omega
 ·rw[hl']
  have ecss:css.set i c=css.take i++c :: css.drop (i+1):=List.set_eq_take_append_cons_drop.trans (by rw[if_pos AO])
  have e1:cur.toList.take (i*size)=(css.take i).flatten:=by
   rw[← aQ5 hw i AO,← ht,List.take_take,Nat.min_eq_left AO]
  have e2:(cur.toList.drop (i*size+c.length)).take (l.length*size - (i*size+c.length))=(css.drop (i+1)).flatten:=by
   rw[← aL9 hw (i+1) AO,← ht,List.drop_take,hc,Nat.add_mul,Nat.one_mul]
  rw[ecss,List.flatten_append,List.flatten_cons,← e1,← e2,List.append_assoc,List.take_append,List.take_append]
  simp only[List.length_take,Array.length_toList]
  rw[List.take_take]
  congr 1
  ·congr 1;omega
  ·congr 1
   ·rw[List.take_of_length_le (by rw[hc];omega)]
   ·congr 1;omega
theorem Own.put1 {α:Type} {size:Nat} {R:(Nat→Prop)→World→List Value→α→Prop} {S:Nat→Prop} {w:World} {base:Nat} {e:TypeId} {l:List α} {g cap:Nat} (hR:bI R) (h:Own size R S w base e (.slice (some ⟨g,0,none⟩) l.length cap) l)
  {i j:Nat} (hi:i<l.length) (hj:j<size) (u:Value) {x:α} (hx:∀ c,R (fun b=>S b∧b≠g) w c l[i]→R (fun b=>S b∧b≠g) w (c.set j u) x):Own size R S (w.setCell ⟨g,i*size+j,none⟩ u) base e (.slice (some ⟨g,0,none⟩) l.length cap) (l.set i x):=by
 obtain⟨g',cap',cur,css,hv,hg,hlt,hh,hcap,hmx,hcur,ht,hw,he⟩:=h.row hR AO
 cases hv
 have hic:i<css.length:=by rw[he.length];exact hi
 have hci:css[i].length=size:=hw _ (List.getElem_mem hic)
 have hil:(i+1)*size≤l.length*size:=Nat.mul_le_mul_right _ hi
 have hll:l.length*size≤cap*size:=Nat.mul_le_mul_right _ hcap
 rw[Nat.add_mul,Nat.one_mul] at hil
 have hsplit:cur.toList=cur.toList.take (i*size)++(css[i]++cur.toList.drop (i*size+size)):=by
  have e1:css[i]=(cur.toList.drop (i*size)).take size:=by
   rw[← bY4 hw i hic,← ht,List.drop_take,List.take_take,Nat.min_eq_left AO]
  rw[e1,← List.drop_drop,List.take_append_drop,List.take_append_drop]
 have htl:(cur.toList.take (i*size)).length=i*size:=by rw[List.length_take,Array.length_toList];omega
 refine Own.put_row hR hg hcap hmx hcur ht hw he hi (c:=css[i].set j u) (by rw[List.length_set];exact hci) (hx _ (he.get i hic hi)) ((aC.refl _ _).setCell ZH2 _) ?_
 rw[heap_setCell_same w g _ cur e u hh]
 congr 2
 apply Array.ext'
 rw[Array.toList_setIfInBounds]
 rw[List.length_set,hci]
 show cur.toList.set (i*size+j) u=cur.toList.take (i*size)++css[i].set j u++cur.toList.drop (i*size+size)
 conv=>lhs;rw[hsplit]
 rw[List.set_append,if_neg (by rw[htl];omega),htl,Nat.add_sub_cancel_left,List.set_append,if_pos (by rw[hci];exact hj),List.append_assoc]
def RetWrite (base:Nat) (w:World) (r:List Tn × Int) (e:Ending) (w':World):Prop :=
 ∃ v',e=.returned (.tuple #[v',.int .i64 r.2])∧(r.2=0→Own 2 bK4 (aB base) w' base 165 v' r.1)∧Below base w w'
theorem aY6 (w:World) (base:Nat) (v:Value) (l:List Tn) (P Q V:Option Addr) (x:Wr) (a b d:Nat) (hown:Own 2 bK4 (aB base) w base 165 v l) (hb:base≤w.heap.size) (hf:aN0 l) (hp1:Bs All w P x.name) (hp2:Bs All w Q x.key) (hp3:Bs All w V x.value) (g1:x.name.length≤big) :
  Calls Tryz.prog 62 #[v,.agg #[.slice P x.name.length a,.slice Q x.key.length b,.bool x.flag,.slice V x.value.length d]] w (RetWrite base w (aC6 l x)):=by
 obtain⟨A,c,hv,hcap,hsl⟩:=hown.readc tenR_stays
 subst hv
 obtain⟨hl8,hl0,hrise⟩:=(aB8 l).1 hf
 have Hf:=zh hf
 have Hown:=zh hown
 have Hsl:=zh hsl
 have Hr:=zh hrise
 have Hp1:=zh hp1
 have Hp2:=zh hp2
 have Hp3:=zh hp3
 have Hb0:=zh (show ∀ W,Below (w.heap.size+1) (w.alloc (.cells #[.slice P x.name.length a,.slice Q x.key.length b,.bool x.flag,.slice V x.value.length d] 102)) W→W.heap[w.heap.size]?=some (.cells #[.slice P x.name.length a,.slice Q x.key.length b,.bool x.flag,.slice V x.value.length d] 102 (0,0))∧Below w.heap.size w W∧w.heap.size<W.heap.size from fun W hW=>⟨(hW.block _ AO).trans (aK w _ _),((Below.refl w.heap.size w).alloc zn _).trans (hW.mono AO),by have:=hW.size;simp at this;omega⟩)
 clear hf hown hsl hrise hp1 hp2 hp3 hl0
 by_cases hn:aI x.name=0
 rotate_left
 ·have b1:(aI x.name != 0)=true:=by simpa using hn
  have Hv:=zh (cD9 (l:=l) hn)
  have Hn:=zh hn
  clear hn
  go_enter Tryz.func62,Tryz.ntmps62
  go_wp2_with (go_at_call 90;refine (aA3 _ P x.name a).mono ?_;rintro e w1 ⟨rfl,rfl⟩)
  go_ret2
  rw[Hv.out]
  exact⟨_,rfl,fun h=>absurd h Hn.out,(Below.refl _ _).alloc hb _⟩
 have b1:(aI x.name != 0)=false:=by simp[hn]
 have Hn:=zh hn
 obtain⟨nx,hnx⟩:∃ nx,nx=bH (aJ l x.name) x:=⟨_,rfl⟩
 have Hnx:=zh hnx
 have hn60:nx.1.length≤60:=by rw[hnx];exact cT2 _ _
 clear hn hnx
 go_enter Tryz.func62,Tryz.ntmps62
 go_wp2_with (go_at_call 90;refine (aA3 _ P x.name a).mono ?_;rintro e w1 ⟨rfl,rfl⟩)
 refine (bC0 _ A l c P x.name a ((Hsl.out.z tenR_stays).below tenR_stays ?_) (Hp1.out.bbelow ?_) AO Hr.out).mono ?_
 ·exact BE
 ·exact BE
 rintro e w2 ⟨i,rfl,hat,hb2'⟩
 have hb2:Below (w.heap.size+1) (w.alloc (.cells #[.slice P x.name.length a,.slice Q x.key.length b,.bool x.flag,.slice V x.value.length d] 102)) w2:=hb2'.mono ZH2
 have Hb2:=zh hb2
 have Hw2:=zh (Hb0.out w2 hb2).2.1
 have hz2:=(Hb0.out w2 hb2).2.2
 have Hown2:=zh (Hown.out.below tenR_stays Hw2.out)
 have Hsl2:=zh ((Hsl.out.z tenR_stays).below tenR_stays Hw2.out)
 have Hat:=zh hat
 clear hb2 hb2' hat b1
 by_cases hfd:(aP l)[i]?=some x.name
 ·rw[decide_eq_true hfd]
  have hik:i<(aP l).length:=by
   rcases Nat.lt_or_ge i (aP l).length with h|h
   ·exact h
   ·rw[List.getElem?_eq_none h] at hfd;cases hfd
  have hil:i<l.length:=by simpa [aP] using hik
  have hli:l[i].1=x.name:=by
   rw[List.getElem?_eq_getElem hik,aC3] at hfd
   exact Option.some.inj hfd
  have Hli:=zh hli
  have Hold:=zh (show aJ l x.name=l[i].2 by simp only[aJ,cQ2 Hr.out hil hli];rfl)
  obtain⟨ab,ao,K0,c0,V0,d0,hA,_,hal,hc1,hc2,hs1,hs2,_,hbb,hbc⟩:=aN8 Hsl2.out hil
  subst hA
  obtain⟨g,cap,cur,css,hvv,hge,hglt,hh,hcap',hmx,hcur,_⟩:=Hown2.out.row tenR_stays AO
  cases hvv
  simp only[Nat.zero_add] at hc1 hc2
  have Hs2:=zh hs2
  have Hst:=zh (show ∀ W,Below w2.heap.size w2 W→(∃ u,W.cell? ⟨ab,i*2+1,none⟩=some u)∧W.frozen? ⟨ab,i*2+1,none⟩=false from fun W hW=>by
   have hh':=(hW.block ab hglt).trans hh
   refine⟨⟨cur[i*2+1]'(by omega),?_⟩,frozen_of_row W ab _ cur _ hh'⟩
   rw[cell_of_row W ab _ cur _ _ hh',Array.getElem?_eq_getElem])
  have hi0:(0:Int)≤(i:Int):=by omega
  have hi1:(i:Int)<(l.length:Int):=by omega
  clear hfd hik hli hs1 hs2 hh hcur hmx
  rcases Bool.eq_false_or_eq_true x.flag with hfl|hfl
  ·have Hfl:=zh hfl
   obtain⟨q0,q1,q2,q3,_⟩:=bG (Hb0.out w2 Hb2.out).1
   rw[hfl] at q2
   clear hfl
   have HN:=zh (show aS2 l[i].2 x.key=nx by rw[Hnx.out,Hold.out];unfold bH;rw[if_pos Hfl.out])
   by_cases hne:nx.2=0
   rotate_left
   ·have c1:(nx.2==0)=false:=by simpa using hne
    have c2:(nx.2 != 0)=true:=by simpa using hne
    have Hbad:=zh (show bN (aJ l x.name) x=nx.2 by unfold bN;rw[← Hnx.out,if_neg (fun h=>hne h.2.1)])
    have Hne:=zh (show bN (aJ l x.name) x≠0 by rw[Hbad.out];first|exact hne|decide)
    have Hv:=zh (aQ6 Hf.out Hn.out Hne.out)
    try clear hne
    go_wp2_with ((go_at_call 104;refine (aD5 _ V0 l[i].2 d0 Q x.key b (Hs2.out.z pairR_stays) (Hp2.out.bbelow Hw2.out)).mono ?_;rintro e w3 ⟨A3,c9,rfl,hcap3,hs3,hb3⟩;rw[HN.out] at hcap3 hs3 ⊢;have hb3w:=Hb2.out.next hb3 AO;obtain⟨r0,r1,r2,r3,_⟩:=bG (Hb0.out w3 hb3w).1))
    go_ret2
    rw[Hv.out,Hbad.out]
    exact ZA8
   have c1:(nx.2==0)=true:=by simp[hne]
   have c2:(nx.2 != 0)=false:=by simp[hne]
   by_cases hv0:0<x.value.length
   ·have hne4:=hne
    have Hbad:=zh (show bN (aJ l x.name) x=4 by unfold bN;rw[← Hnx.out,if_pos ⟨Hfl.out,hne,hv0⟩])
    have Hne:=zh (show bN (aJ l x.name) x≠0 by rw[Hbad.out];first|exact hne|decide)
    have Hv:=zh (aQ6 Hf.out Hn.out Hne.out)
    try clear hne
    go_wp2_with ((go_at_call 104;refine (aD5 _ V0 l[i].2 d0 Q x.key b (Hs2.out.z pairR_stays) (Hp2.out.bbelow Hw2.out)).mono ?_;rintro e w3 ⟨A3,c9,rfl,hcap3,hs3,hb3⟩;rw[HN.out] at hcap3 hs3 ⊢;have hb3w:=Hb2.out.next hb3 AO;obtain⟨r0,r1,r2,r3,_⟩:=bG (Hb0.out w3 hb3w).1))
    go_ret2
    rw[Hv.out,Hbad.out]
    exact ZA8
   have Hgood:=zh (show bN (aJ l x.name) x=0 by unfold bN;rw[← Hnx.out,if_neg (fun h=>hv0 h.2.2)];exact hne)
   have Hnx0:=zh hne
   clear hne
   by_cases hz:nx.1.length=0
   ·have d1:((nx.1.length:Int)==0)=true:=by rw[beq_iff_eq];omega
    have Hv:=zh (bN5 Hf.out Hn.out Hgood.out hil Hli.out ZH0)
    have hwi:IntKind.i64.wrap ((i:Int)+1)=(i:Int)+1:=by rw[IntKind.wrap_i64];omega
    clear hz
    go_wp2_with (first
     | (go_at_call 104;refine (aD5 _ V0 l[i].2 d0 Q x.key b (Hs2.out.z pairR_stays) (Hp2.out.bbelow Hw2.out)).mono ?_;rintro e w3 ⟨A3,c9,rfl,hcap3,hs3,hb3⟩;rw[HN.out] at hcap3 hs3 ⊢;have hb3w:=Hb2.out.next hb3 AO;obtain⟨r0,r1,r2,r3,_⟩:=bG (Hb0.out w3 hb3w).1)
     | (go_at_call 106;refine (bI9 _ base _ l i (Hown2.out.below tenR_stays hb3) hil).mono ?_;rintro e w4 ⟨v4,rfl,hown4,hb4⟩;have Hown4:=zh hown4;clear hown4))
    go_ret2
    rw[Hv.out]
    exact⟨_,rfl,fun _=>Hown4.out,((Hw2.out.mono hb).trans (hb3.mono AO)).trans hb4⟩
   ·have d1:((nx.1.length:Int)==0)=false:=by rw[beq_eq_false_iff_ne];omega
    have Hv:=zh (show aC6 l x=(l.set i (x.name,nx.1),0) by have:=bN6 Hf.out Hn.out Hgood.out hil Hli.out ZH0;rwa [← Hnx.out] at this)
    clear hz
    go_wp2_with ((go_at_call 104;refine (aD5 _ V0 l[i].2 d0 Q x.key b (Hs2.out.z pairR_stays) (Hp2.out.bbelow Hw2.out)).mono ?_;rintro e w3 ⟨A3,c9,rfl,hcap3,hs3,hb3⟩;rw[HN.out] at hcap3 hs3 ⊢;have hb3w:=Hb2.out.next hb3 AO;obtain⟨r0,r1,r2,r3,_⟩:=bG (Hb0.out w3 hb3w).1;obtain⟨⟨u1,hu1⟩,hf1⟩:=Hst.out w3 hb3))
    go_ret2
    rw[Hv.out]
    have hown5:=Own.put1 tenR_stays (Hown2.out.below tenR_stays hb3) hil (j:=1) AO (.slice A3 nx.1.length c9) (x:=(x.name,nx.1)) (fun cs h=>by
     obtain⟨A',c',B',d',rfl,k1,_,k3,_,_⟩:=h
     refine⟨A',c',A3,c9,by rw[Hli.out];rfl,by rw[← Hli.out];exact k1,hs3.less pairR_stays (fun bb _ h=>⟨by have h':=h;simp only[aB] at h' ⊢;omega,by have h':=h;simp only[aB] at h';omega⟩),by rw[← Hli.out];exact k3,by show nx.1.length*48≤_;omega,hcap3⟩)
    exact⟨_,rfl,fun _=>by simpa using hown5,((Hw2.out.mono hb).trans (hb3.mono AO)).setCell ZC5 _⟩
  ·have Hfl:=zh hfl
   obtain⟨q0,q1,q2,q3,_⟩:=bG (Hb0.out w2 Hb2.out).1
   rw[hfl] at q2
   clear hfl
   have HN:=zh (show aK0 l[i].2 (x.key,x.value)=nx by rw[Hnx.out,Hold.out];unfold bH;rw[if_neg (by rw[Hfl.out];decide)])
   by_cases hne:nx.2=0
   rotate_left
   ·have c1:(nx.2==0)=false:=by simpa using hne
    have c2:(nx.2 != 0)=true:=by simpa using hne
    have Hbad:=zh (show bN (aJ l x.name) x=nx.2 by unfold bN;rw[← Hnx.out,if_neg (fun h=>hne h.2.1)])
    have Hne:=zh (show bN (aJ l x.name) x≠0 by rw[Hbad.out];first|exact hne|decide)
    have Hv:=zh (aQ6 Hf.out Hn.out Hne.out)
    try clear hne
    go_wp2_with ((go_at_call 105;refine (aH4 _ V0 l[i].2 d0 Q V (x.key,x.value) b d (Hs2.out.z pairR_stays) (Hp2.out.bbelow Hw2.out) (Hp3.out.bbelow Hw2.out)).mono ?_;rintro e w3 ⟨A3,c9,rfl,hcap3,hs3,hb3⟩;rw[HN.out] at hcap3 hs3 ⊢;have hb3w:=Hb2.out.next hb3 AO;obtain⟨r0,r1,r2,r3,_⟩:=bG (Hb0.out w3 hb3w).1))
    go_ret2
    rw[Hv.out,Hbad.out]
    exact ZA8
   have c1:(nx.2==0)=true:=by simp[hne]
   have c2:(nx.2 != 0)=false:=by simp[hne]
   have Hgood:=zh (show bN (aJ l x.name) x=0 by unfold bN;rw[← Hnx.out,if_neg (fun h=>by rw[Hfl.out] at h;exact absurd h.1 ZD9)];exact hne)
   have Hnx0:=zh hne
   clear hne
   by_cases hz:nx.1.length=0
   ·have d1:((nx.1.length:Int)==0)=true:=by rw[beq_iff_eq];omega
    have Hv:=zh (bN5 Hf.out Hn.out Hgood.out hil Hli.out ZH0)
    have hwi:IntKind.i64.wrap ((i:Int)+1)=(i:Int)+1:=by rw[IntKind.wrap_i64];omega
    clear hz
    go_wp2_with (first
     | (go_at_call 105;refine (aH4 _ V0 l[i].2 d0 Q V (x.key,x.value) b d (Hs2.out.z pairR_stays) (Hp2.out.bbelow Hw2.out) (Hp3.out.bbelow Hw2.out)).mono ?_;rintro e w3 ⟨A3,c9,rfl,hcap3,hs3,hb3⟩;rw[HN.out] at hcap3 hs3 ⊢;have hb3w:=Hb2.out.next hb3 AO;obtain⟨r0,r1,r2,r3,_⟩:=bG (Hb0.out w3 hb3w).1)
     | (go_at_call 106;refine (bI9 _ base _ l i (Hown2.out.below tenR_stays hb3) hil).mono ?_;rintro e w4 ⟨v4,rfl,hown4,hb4⟩;have Hown4:=zh hown4;clear hown4))
    go_ret2
    rw[Hv.out]
    exact⟨_,rfl,fun _=>Hown4.out,((Hw2.out.mono hb).trans (hb3.mono AO)).trans hb4⟩
   ·have d1:((nx.1.length:Int)==0)=false:=by rw[beq_eq_false_iff_ne];omega
    have Hv:=zh (show aC6 l x=(l.set i (x.name,nx.1),0) by have:=bN6 Hf.out Hn.out Hgood.out hil Hli.out ZH0;rwa [← Hnx.out] at this)
    clear hz
    go_wp2_with ((go_at_call 105;refine (aH4 _ V0 l[i].2 d0 Q V (x.key,x.value) b d (Hs2.out.z pairR_stays) (Hp2.out.bbelow Hw2.out) (Hp3.out.bbelow Hw2.out)).mono ?_;rintro e w3 ⟨A3,c9,rfl,hcap3,hs3,hb3⟩;rw[HN.out] at hcap3 hs3 ⊢;have hb3w:=Hb2.out.next hb3 AO;obtain⟨r0,r1,r2,r3,_⟩:=bG (Hb0.out w3 hb3w).1;obtain⟨⟨u1,hu1⟩,hf1⟩:=Hst.out w3 hb3))
    go_ret2
    rw[Hv.out]
    have hown5:=Own.put1 tenR_stays (Hown2.out.below tenR_stays hb3) hil (j:=1) AO (.slice A3 nx.1.length c9) (x:=(x.name,nx.1)) (fun cs h=>by
     obtain⟨A',c',B',d',rfl,k1,_,k3,_,_⟩:=h
     refine⟨A',c',A3,c9,by rw[Hli.out];rfl,by rw[← Hli.out];exact k1,hs3.less pairR_stays (fun bb _ h=>⟨by have h':=h;simp only[aB] at h' ⊢;omega,by have h':=h;simp only[aB] at h';omega⟩),by rw[← Hli.out];exact k3,by show nx.1.length*48≤_;omega,hcap3⟩)
    exact⟨_,rfl,fun _=>by simpa using hown5,((Hw2.out.mono hb).trans (hb3.mono AO)).setCell ZC5 _⟩
 ·rw[decide_eq_false hfd]
  have Hnf:=zh hfd
  have Hold:=zh (show aJ l x.name=[] by simp only[aJ,bN1 Hr.out Hat.out hfd];rfl)
  have hil0:i≤l.length:=by have:=Hat.out.le;simpa [aP] using this
  clear hfd
  rcases Bool.eq_false_or_eq_true x.flag with hfl|hfl
  ·have Hfl:=zh hfl
   obtain⟨q0,q1,q2,q3,_⟩:=bG (Hb0.out w2 Hb2.out).1
   rw[hfl] at q2
   clear hfl
   have HN:=zh (show aS2 ([]:List Pr) x.key=nx by rw[Hnx.out,Hold.out];unfold bH;rw[if_pos Hfl.out])
   by_cases hne:nx.2=0
   rotate_left
   ·have c1:(nx.2==0)=false:=by simpa using hne
    have c2:(nx.2 != 0)=true:=by simpa using hne
    have Hbad:=zh (show bN (aJ l x.name) x=nx.2 by unfold bN;rw[← Hnx.out,if_neg (fun h=>hne h.2.1)])
    have Hne:=zh (show bN (aJ l x.name) x≠0 by rw[Hbad.out];first|exact hne|decide)
    have Hv:=zh (aQ6 Hf.out Hn.out Hne.out)
    try clear hne
    go_wp2_with ((go_at_call 104;refine (aD5 _ none [] 0 Q x.key b SL.nil (Hp2.out.bbelow Hw2.out)).mono ?_;rintro e w3 ⟨A3,c9,rfl,hcap3,hs3,hb3⟩;rw[HN.out] at hcap3 hs3 ⊢;have hb3w:=Hb2.out.next hb3 AO;obtain⟨r0,r1,r2,r3,_⟩:=bG (Hb0.out w3 hb3w).1))
    go_ret2
    rw[Hv.out,Hbad.out]
    exact ZA8
   have c1:(nx.2==0)=true:=by simp[hne]
   have c2:(nx.2 != 0)=false:=by simp[hne]
   by_cases hv0:0<x.value.length
   ·have hne4:=hne
    have Hbad:=zh (show bN (aJ l x.name) x=4 by unfold bN;rw[← Hnx.out,if_pos ⟨Hfl.out,hne,hv0⟩])
    have Hne:=zh (show bN (aJ l x.name) x≠0 by rw[Hbad.out];first|exact hne|decide)
    have Hv:=zh (aQ6 Hf.out Hn.out Hne.out)
    try clear hne
    go_wp2_with ((go_at_call 104;refine (aD5 _ none [] 0 Q x.key b SL.nil (Hp2.out.bbelow Hw2.out)).mono ?_;rintro e w3 ⟨A3,c9,rfl,hcap3,hs3,hb3⟩;rw[HN.out] at hcap3 hs3 ⊢;have hb3w:=Hb2.out.next hb3 AO;obtain⟨r0,r1,r2,r3,_⟩:=bG (Hb0.out w3 hb3w).1))
    go_ret2
    rw[Hv.out,Hbad.out]
    exact ZA8
   have Hgood:=zh (show bN (aJ l x.name) x=0 by unfold bN;rw[← Hnx.out,if_neg (fun h=>hv0 h.2.2)];exact hne)
   have Hnx0:=zh hne
   clear hne
   by_cases hz:nx.1.length=0
   ·have d1:((nx.1.length:Int)==0)=true:=by rw[beq_iff_eq];omega
    have Hv:=zh (bI6 Hf.out Hn.out Hgood.out Hat.out Hnf.out ZH0)
    skip
    clear hz
    go_wp2_with ((go_at_call 104;refine (aD5 _ none [] 0 Q x.key b SL.nil (Hp2.out.bbelow Hw2.out)).mono ?_;rintro e w3 ⟨A3,c9,rfl,hcap3,hs3,hb3⟩;rw[HN.out] at hcap3 hs3 ⊢;have hb3w:=Hb2.out.next hb3 AO;obtain⟨r0,r1,r2,r3,_⟩:=bG (Hb0.out w3 hb3w).1))
    go_ret2
    rw[Hv.out]
    exact⟨_,rfl,fun _=>Hown2.out.below tenR_stays hb3,(Hw2.out.mono hb).trans (hb3.mono AO)⟩
   ·have d1:((nx.1.length:Int)==0)=false:=by rw[beq_eq_false_iff_ne];omega
    by_cases h8:l.length=8
    ·have Hv:=zh (bI7 Hf.out Hn.out Hgood.out Hat.out Hnf.out ZH0 h8)
     have d2:((l.length:Int)==8)=true:=by rw[beq_iff_eq];omega
     clear hz h8
     go_wp2_with ((go_at_call 104;refine (aD5 _ none [] 0 Q x.key b SL.nil (Hp2.out.bbelow Hw2.out)).mono ?_;rintro e w3 ⟨A3,c9,rfl,hcap3,hs3,hb3⟩;rw[HN.out] at hcap3 hs3 ⊢;have hb3w:=Hb2.out.next hb3 AO;obtain⟨r0,r1,r2,r3,_⟩:=bG (Hb0.out w3 hb3w).1))
     go_ret2
     rw[Hv.out]
     exact⟨_,rfl,fun h=>absurd h ZD9,(Hw2.out.mono hb).trans (hb3.mono AO)⟩
    ·have Hv:=zh (show aC6 l x=(ins l i (x.name,nx.1),0) by have:=bN7 Hf.out Hn.out Hgood.out Hat.out Hnf.out ZH0 h8;rwa [← Hnx.out] at this)
     have d2:((l.length:Int)==8)=false:=by rw[beq_eq_false_iff_ne];omega
     clear hz h8
     go_wp2_with (first
      | (go_at_call 104;refine (aD5 _ none [] 0 Q x.key b SL.nil (Hp2.out.bbelow Hw2.out)).mono ?_;rintro e w3 ⟨A3,c9,rfl,hcap3,hs3,hb3⟩;rw[HN.out] at hcap3 hs3 ⊢;have hb3w:=Hb2.out.next hb3 AO;obtain⟨r0,r1,r2,r3,_⟩:=bG (Hb0.out w3 hb3w).1)
      | (go_at_call 49;refine (aE2 _ P x.name a (Hp1.out.bbelow (Hb0.out w3 hb3w).2.1) g1).mono ?_;rintro e w4 ⟨A4,c4,rfl,gs4,hb4⟩;have hz3:=hb3.size;have hz4:=hb4.size)
      | (go_at_call 107;refine (bI8 tenR_stays tenR_one _ base (.slice A l.length c) l i (x.name,nx.1) w4.heap.size [.slice A4 x.name.length c4,.slice A3 nx.1.length c9] 165 (((Hown2.out.below tenR_stays hb3).below tenR_stays hb4).below tenR_stays ((Below.refl _ _).alloc zn _)) hil0 ZC8 AO (aK w4 _ _) (Hown2.out.apart w2.heap.size zn _ (by simp only[aB];omega)) rfl (bG9 (n:=w2.heap.size) (t:=(x.name,nx.1)) (gs4.blo AO) (hs3.below pairR_stays hb4) g1 (by show nx.1.length*48≤_;omega) hcap3 ((aC.refl _ _).alloc _) AO (Hown2.out.apart w2.heap.size zn))).mono ?_;rintro e w5 ⟨v5,rfl,hown5,hb5⟩;have Hown5:=zh hown5;clear hown5))
     go_ret2
     rw[Hv.out]
     exact⟨_,rfl,fun _=>Hown5.out,((((Hw2.out.mono hb).trans (hb3.mono AO)).trans (hb4.mono AO)).alloc AO _).trans hb5⟩
  ·have Hfl:=zh hfl
   obtain⟨q0,q1,q2,q3,_⟩:=bG (Hb0.out w2 Hb2.out).1
   rw[hfl] at q2
   clear hfl
   have HN:=zh (show aK0 ([]:List Pr) (x.key,x.value)=nx by rw[Hnx.out,Hold.out];unfold bH;rw[if_neg (by rw[Hfl.out];decide)])
   by_cases hne:nx.2=0
   rotate_left
   ·have c1:(nx.2==0)=false:=by simpa using hne
    have c2:(nx.2 != 0)=true:=by simpa using hne
    have Hbad:=zh (show bN (aJ l x.name) x=nx.2 by unfold bN;rw[← Hnx.out,if_neg (fun h=>hne h.2.1)])
    have Hne:=zh (show bN (aJ l x.name) x≠0 by rw[Hbad.out];first|exact hne|decide)
    have Hv:=zh (aQ6 Hf.out Hn.out Hne.out)
    try clear hne
    go_wp2_with ((go_at_call 105;refine (aH4 _ none [] 0 Q V (x.key,x.value) b d SL.nil (Hp2.out.bbelow Hw2.out) (Hp3.out.bbelow Hw2.out)).mono ?_;rintro e w3 ⟨A3,c9,rfl,hcap3,hs3,hb3⟩;rw[HN.out] at hcap3 hs3 ⊢;have hb3w:=Hb2.out.next hb3 AO;obtain⟨r0,r1,r2,r3,_⟩:=bG (Hb0.out w3 hb3w).1))
    go_ret2
    rw[Hv.out,Hbad.out]
    exact ZA8
   have c1:(nx.2==0)=true:=by simp[hne]
   have c2:(nx.2 != 0)=false:=by simp[hne]
   have Hgood:=zh (show bN (aJ l x.name) x=0 by unfold bN;rw[← Hnx.out,if_neg (fun h=>by rw[Hfl.out] at h;exact absurd h.1 ZD9)];exact hne)
   have Hnx0:=zh hne
   clear hne
   by_cases hz:nx.1.length=0
   ·have d1:((nx.1.length:Int)==0)=true:=by rw[beq_iff_eq];omega
    have Hv:=zh (bI6 Hf.out Hn.out Hgood.out Hat.out Hnf.out ZH0)
    skip
    clear hz
    go_wp2_with ((go_at_call 105;refine (aH4 _ none [] 0 Q V (x.key,x.value) b d SL.nil (Hp2.out.bbelow Hw2.out) (Hp3.out.bbelow Hw2.out)).mono ?_;rintro e w3 ⟨A3,c9,rfl,hcap3,hs3,hb3⟩;rw[HN.out] at hcap3 hs3 ⊢;have hb3w:=Hb2.out.next hb3 AO;obtain⟨r0,r1,r2,r3,_⟩:=bG (Hb0.out w3 hb3w).1))
    go_ret2
    rw[Hv.out]
    exact⟨_,rfl,fun _=>Hown2.out.below tenR_stays hb3,(Hw2.out.mono hb).trans (hb3.mono AO)⟩
   ·have d1:((nx.1.length:Int)==0)=false:=by rw[beq_eq_false_iff_ne];omega
    by_cases h8:l.length=8
    ·have Hv:=zh (bI7 Hf.out Hn.out Hgood.out Hat.out Hnf.out ZH0 h8)
     have d2:((l.length:Int)==8)=true:=by rw[beq_iff_eq];omega
     clear hz h8
     go_wp2_with ((go_at_call 105;refine (aH4 _ none [] 0 Q V (x.key,x.value) b d SL.nil (Hp2.out.bbelow Hw2.out) (Hp3.out.bbelow Hw2.out)).mono ?_;rintro e w3 ⟨A3,c9,rfl,hcap3,hs3,hb3⟩;rw[HN.out] at hcap3 hs3 ⊢;have hb3w:=Hb2.out.next hb3 AO;obtain⟨r0,r1,r2,r3,_⟩:=bG (Hb0.out w3 hb3w).1))
     go_ret2
     rw[Hv.out]
     exact⟨_,rfl,fun h=>absurd h ZD9,(Hw2.out.mono hb).trans (hb3.mono AO)⟩
    ·have Hv:=zh (show aC6 l x=(ins l i (x.name,nx.1),0) by have:=bN7 Hf.out Hn.out Hgood.out Hat.out Hnf.out ZH0 h8;rwa [← Hnx.out] at this)
     have d2:((l.length:Int)==8)=false:=by rw[beq_eq_false_iff_ne];omega
     clear hz h8
     go_wp2_with (first
      | (go_at_call 105;refine (aH4 _ none [] 0 Q V (x.key,x.value) b d SL.nil (Hp2.out.bbelow Hw2.out) (Hp3.out.bbelow Hw2.out)).mono ?_;rintro e w3 ⟨A3,c9,rfl,hcap3,hs3,hb3⟩;rw[HN.out] at hcap3 hs3 ⊢;have hb3w:=Hb2.out.next hb3 AO;obtain⟨r0,r1,r2,r3,_⟩:=bG (Hb0.out w3 hb3w).1)
      | (go_at_call 49;refine (aE2 _ P x.name a (Hp1.out.bbelow (Hb0.out w3 hb3w).2.1) g1).mono ?_;rintro e w4 ⟨A4,c4,rfl,gs4,hb4⟩;have hz3:=hb3.size;have hz4:=hb4.size)
      | (go_at_call 107;refine (bI8 tenR_stays tenR_one _ base (.slice A l.length c) l i (x.name,nx.1) w4.heap.size [.slice A4 x.name.length c4,.slice A3 nx.1.length c9] 165 (((Hown2.out.below tenR_stays hb3).below tenR_stays hb4).below tenR_stays ((Below.refl _ _).alloc zn _)) hil0 ZC8 AO (aK w4 _ _) (Hown2.out.apart w2.heap.size zn _ (by simp only[aB];omega)) rfl (bG9 (n:=w2.heap.size) (t:=(x.name,nx.1)) (gs4.blo AO) (hs3.below pairR_stays hb4) g1 (by show nx.1.length*48≤_;omega) hcap3 ((aC.refl _ _).alloc _) AO (Hown2.out.apart w2.heap.size zn))).mono ?_;rintro e w5 ⟨v5,rfl,hown5,hb5⟩;have Hown5:=zh hown5;clear hown5))
     go_ret2
     rw[Hv.out]
     exact⟨_,rfl,fun _=>Hown5.out,((((Hw2.out.mono hb).trans (hb3.mono AO)).trans (hb4.mono AO)).alloc AO _).trans hb5⟩
end Go.Proofs.YtablgnacmpcfeaaGreatDoor
