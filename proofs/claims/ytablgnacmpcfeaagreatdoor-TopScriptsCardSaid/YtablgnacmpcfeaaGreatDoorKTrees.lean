/- Trees: Rows of a call's own, chunk by chunk: what stays of them when chunks are written. Plain facts, no program. Walks: a key looked for among pairs. Walks: pairs copied by package tree; pairs held against each other. Walks: the value of a key among pairs. Walks: GetOf of the references. Walks: ranges of pairs. What a pair put among pairs comes to. Plain facts, no program. The conditions of each are in its words. -/
import Derived.Deep.RegionLaw
import Derived.Deep.MidRow
import Derived.Deep.QuietTactic
import Derived.Test.YtablgnacmpcfeaaGreatDoorKBase
namespace Go.Proofs.YtablgnacmpcfeaaGreatDoor
open Go.RowKit
set_option linter.unusedVariables false
set_option linter.unusedSimpArgs false
set_option maxRecDepth 100000
set_option maxHeartbeats 8000000
theorem bM3 {P:Program} {f:FuncId} {args:Array Value} {w:World} {n:Nat} {v:Value}
  (h:Calls P f args (w.drewN n) fun e w'=>e=.returned v∧w.drewN n=w'):Calls P f args (w.drewN n) fun e w''=>e=.returned v∧∃ m,w''=w.drewN m :=
 h.mono fun _ _ ⟨he,hm⟩=>⟨he,n,hm.symm⟩
def Each {α:Type} (R:List Value→α→Prop):List (List Value)→List α→Prop
 | [],[]=>True
 | c :: cs,x :: xs=>R c x∧Each R cs xs
 | _,_=>False
section
variable {α : Type} {R R' : List Value → α → Prop}
theorem Each.length:∀ {cs:List (List Value)} {l:List α},Each R cs l→cs.length=l.length
 | [],[],_=>rfl
 | _ :: _,_ :: _,h=>by simp[Each.length h.2]
 | [],_ :: _,h=>h.elim
 | _ :: _,[],h=>h.elim
theorem Each.mono (hm:∀ c x,R c x→R' c x):∀ {cs:List (List Value)} {l:List α},Each R cs l→Each R' cs l
 | [],[],_=>trivial
 | _ :: _,_ :: _,h=>⟨hm _ _ h.1,Each.mono hm h.2⟩
 | [],_ :: _,h=>h.elim
 | _ :: _,[],h=>h.elim
theorem Each.append {cs':List (List Value)} {l':List α} (h':Each R cs' l'):∀ {cs:List (List Value)} {l:List α},Each R cs l→Each R (cs++cs') (l++l')
 | [],[],_=>h'
 | _ :: _,_ :: _,h=>⟨h.1,Each.append h' h.2⟩
 | [],_ :: _,h=>h.elim
 | _ :: _,[],h=>h.elim
theorem Each.take:∀ (n:Nat) {cs:List (List Value)} {l:List α},Each R cs l→Each R (cs.take n) (l.take n)
 | 0,_,_,_=>by simp[Each]
 | _+1,[],[],_=>trivial
 | n+1,_ :: _,_ :: _,h=>⟨h.1,Each.take n h.2⟩
 | _+1,[],_ :: _,h=>h.elim
 | _+1,_ :: _,[],h=>h.elim
theorem Each.drop:∀ (n:Nat) {cs:List (List Value)} {l:List α},Each R cs l→Each R (cs.drop n) (l.drop n)
 | 0,_,_,h=>h
 | _+1,[],[],_=>trivial
 | n+1,_ :: _,_ :: _,h=>Each.drop n h.2
 | _+1,[],_ :: _,h=>h.elim
 | _+1,_ :: _,[],h=>h.elim
theorem Each.one {c:List Value} {x:α} (h:R c x):Each R [c] [x]:=⟨h,trivial⟩
theorem Each.set {c:List Value} {x:α} (hx:R c x):∀ (n:Nat) {cs:List (List Value)} {l:List α},Each R cs l→Each R (cs.set n c) (l.set n x)
 | _,[],[],_=>trivial
 | 0,_ :: _,_ :: _,h=>⟨hx,h.2⟩
 | n+1,_ :: _,_ :: _,h=>⟨h.1,Each.set hx n h.2⟩
 | _,[],_ :: _,h=>h.elim
 | _,_ :: _,[],h=>h.elim
theorem Each.get:∀ {cs:List (List Value)} {l:List α},Each R cs l→∀ (i:Nat) (h1:i<cs.length) (h2:i<l.length),R cs[i] l[i]
 | [],[],_,i,h1,_=>absurd h1 ZH2
 | _ :: _,_ :: _,h,0,_,_=>h.1
 | _ :: _,_ :: _,h,i+1,h1,h2=>Each.get h.2 i ZE3 (by simpa using h2)
 | [],_ :: _,h,_,_,_=>h.elim
 | _ :: _,[],h,_,_,_=>h.elim
theorem Each.of_get:∀ {cs:List (List Value)} {l:List α},cs.length=l.length→(∀ (i:Nat) (h1:i<cs.length) (h2:i<l.length),R cs[i] l[i])→Each R cs l
 | [],[],_,_=>trivial
 | _ :: _,_ :: _,h,hg=>⟨hg 0 ZH2 ZH2,Each.of_get ZF9 fun i h1 h2=>hg (i+1) ZE3 (by simpa using h2)⟩
 | [],_ :: _,h,_=>by simp at h
 | _ :: _,[],h,_=>by simp at h
end
def aO6 (size:Nat) (css:List (List Value)):Prop:=∀ c ∈ css,c.length=size
section
variable {size : Nat} {css : List (List Value)}
theorem aO6.take (h:aO6 size css) (i:Nat):aO6 size (css.take i):=fun c hc=>h c (List.mem_of_mem_take hc)
theorem aO6.drop (h:aO6 size css) (i:Nat):aO6 size (css.drop i):=fun c hc=>h c (List.mem_of_mem_drop hc)
theorem aO6.append {css':List (List Value)} (h:aO6 size css) (h':aO6 size css'):aO6 size (css++css'):=fun c hc=>by
 rcases List.mem_append.1 hc with hc|hc
 ·exact h c hc
 ·exact h' c hc
theorem aO6.one {c:List Value} (h:c.length=size):aO6 size [c]:=fun c' hc=>by simp at hc;rw[hc];exact h
theorem flat_len:∀ {css:List (List Value)},aO6 size css→css.flatten.length=css.length*size
 | [],_=>by simp
 | c :: r,h=>by
  have ih:=flat_len (css:=r) (fun c' hc=>h c' (List.mem_cons_of_mem _ hc))
  rw[List.flatten_cons,List.length_append,ih,h c ZH2,List.length_cons,Nat.add_mul,Nat.one_mul,Nat.add_comm]
theorem aQ5 (h:aO6 size css) (i:Nat) (hi:i≤css.length):css.flatten.take (i*size)=(css.take i).flatten:=by
 have e:css.flatten=(css.take i).flatten++(css.drop i).flatten:=by rw[← List.flatten_append,List.take_append_drop]
 have hl:(css.take i).flatten.length=i*size:=by rw[flat_len (h.take i),List.length_take,Nat.min_eq_left hi]
 rw[e,← hl,List.take_left]
theorem aL9 (h:aO6 size css) (i:Nat) (hi:i≤css.length):css.flatten.drop (i*size)=(css.drop i).flatten:=by
 have e:css.flatten=(css.take i).flatten++(css.drop i).flatten:=by rw[← List.flatten_append,List.take_append_drop]
 have hl:(css.take i).flatten.length=i*size:=by rw[flat_len (h.take i),List.length_take,Nat.min_eq_left hi]
 rw[e,← hl,List.drop_left]
theorem bY4 (h:aO6 size css) (i:Nat) (hi:i<css.length):(css.flatten.drop (i*size)).take size=css[i]:=by
 rw[aL9 h i AO,List.drop_eq_getElem_cons hi,List.flatten_cons]
 have hl:css[i].length=size:=h _ (List.getElem_mem hi)
 rw[← hl,List.take_left]
theorem chunks_of:∀ (n:Nat) (xs:List Value),xs.length=n*size→∃ css:List (List Value),aO6 size css∧css.length=n∧css.flatten=xs
 | 0,xs,h=>⟨[],fun c hc=>by simp at hc,rfl,by have:=List.eq_nil_of_length_eq_zero (by simpa using h:xs.length=0);simp[this]⟩
 | n+1,xs,h=>by
  rw[Nat.add_mul,Nat.one_mul] at h
  obtain⟨css,h1,h2,h3⟩:=chunks_of n (xs.drop size) ZF5
  refine⟨xs.take size :: css,fun c hc=>?_,by simp[h2],by rw[List.flatten_cons,h3,List.take_append_drop]⟩
  rcases List.mem_cons.1 hc with rfl|hc
  ·rw[List.length_take];omega
  ·exact h1 c hc
end
theorem Own.chunks {α:Type} {size:Nat} {R:(Nat→Prop)→World→List Value→α→Prop} {S:Nat→Prop} {w:World} {base:Nat} {e:TypeId} {v:Value} {l:List α} (h:Own size R S w base e v l) :
  ∃ css,aO6 size css∧Each (R (fun b=>S b∧v.ownBlock≠some b) w) css l∧w.ownsRow base e size v l.length css.flatten:=by
 obtain⟨xs,h1,h2⟩:=h
 obtain⟨css,g1,g2,g3⟩:=chunks_of l.length xs h1.1
 refine⟨css,g1,Each.of_get g2 fun i hi hi'=>?_,by rw[g3];exact h1⟩
 have:=h2 i hi'
 rw[← g3,bY4 g1 i hi] at this
 exact this
theorem Own.of_chunks {α:Type} {size:Nat} {R:(Nat→Prop)→World→List Value→α→Prop} {S:Nat→Prop} {w:World} {base:Nat} {e:TypeId} {v:Value} {l:List α} {css:List (List Value)}
  (h1:aO6 size css) (h2:Each (R (fun b=>S b∧v.ownBlock≠some b) w) css l) (h3:w.ownsRow base e size v l.length css.flatten):Own size R S w base e v l :=
 ⟨css.flatten,h3,fun i hi=>by rw[bY4 h1 i (by rw[h2.length];exact hi)];exact h2.get i _ hi⟩
theorem Own.mk_row {α:Type} {size:Nat} {R:(Nat→Prop)→World→List Value→α→Prop} {S:Nat→Prop} {w:World} {base:Nat} {e:TypeId} {l:List α} {css:List (List Value)} {g cap:Nat} {cur:Array Value}
  (hw:aO6 size css) (he:Each (R (fun b=>S b∧b≠g) w) css l) (hg:base≤g) (hh:w.heap[g]?=some (.cells cur e (0,0))) (hcap:l.length≤cap) (hmx:cap≤maxLen) (hcur:cur.size=cap*size) (ht:cur.toList.take (l.length*size)=css.flatten)
  (hR:bI R):Own size R S w base e (.slice (some ⟨g,0,none⟩) l.length cap) l:=by
 refine Own.of_chunks hw (he.mono fun c x hx=>hR.less _ _ _ _ _ (fun b _ hs=>⟨hs.1,fun e=>hs.2 (by simp[Value.ownBlock] at e;exact e.symm)⟩) hx) ⟨by rw[flat_len hw,he.length],.inr ⟨g,cap,cur,rfl,hg,hh,hcap,hmx,hcur,ht⟩⟩
theorem Own.row {α:Type} {size:Nat} {R:(Nat→Prop)→World→List Value→α→Prop} {S:Nat→Prop} {w:World} {base:Nat} {e:TypeId} {v:Value} {l:List α} (hR:bI R) (h:Own size R S w base e v l) (hl:0<l.length) :
  ∃ g cap cur css,v=.slice (some ⟨g,0,none⟩) l.length cap∧base≤g∧g<w.heap.size∧w.heap[g]?=some (.cells cur e (0,0))∧l.length≤cap∧cap≤maxLen∧cur.size=cap*size∧cur.toList.take (l.length*size)=css.flatten∧aO6 size css∧Each (R (fun b=>S b∧b≠g) w) css l:=by
 obtain⟨css,h1,h2,h3⟩:=h.chunks
 rcases h3.2 with ⟨_,h0⟩|⟨g,cap,cur,rfl,hge,hh,hcap,hmx,hcur,ht⟩
 ·omega
 ·exact⟨g,cap,cur,css,rfl,hge,(Array.getElem?_eq_some_iff.1 hh).1,hh,hcap,hmx,hcur,ht,h1,h2.mono fun c x hx=>hR.less _ _ _ _ _ (fun b _ hs=>⟨hs.1,fun e=>hs.2 (by simp[Value.ownBlock,e])⟩) hx⟩
theorem aC.setCells {S:Nat→Prop} {a:World} {g:Nat} (hg:¬ S g):∀ (vs:List Value) (o:Nat) {w:World},aC S a w→aC S a (w.setCells g o vs)
 | [],_,_,h=>h
 | v :: r,o,_,h=>aC.setCells hg r (o+1) (h.setCell (p:=⟨g,o,none⟩) hg v)
theorem aB7 {B:Nat} {a:World} {g:Nat} (hb:B≤g):∀ (vs:List Value) (o:Nat) {w:World},Below B a w→Below B a (w.setCells g o vs)
 | [],_,_,h=>h
 | v :: r,o,_,h=>aB7 hb r (o+1) (h.setCell (p:=⟨g,o,none⟩) hb v)
theorem aB5 {g:Nat} {t:TypeId}:∀ (vs:List Value) (o:Nat) (cur:Array Value) (w:World),w.heap[g]?=some (.cells cur t (0,0))→o+vs.length≤cur.size →
  (w.setCells g o vs).heap[g]?=some (.cells (cur.toList.take o++vs++cur.toList.drop (o+vs.length)).toArray t (0,0))
 | [],o,cur,w,h,_=>by simpa [World.setCells] using h
 | v :: r,o,cur,w,h,hl=>by
  have ih:=aB5 r (o+1) (cur.setIfInBounds o v) (w.setCell ⟨g,o,none⟩ v) (heap_setCell_same w g o cur t v h) (by simp at hl ⊢;omega)
  rw[World.setCells,ih]
  have e:=list_seg_step cur.toList o v r (by simp at hl ⊢;omega)
  congr 3
  simpa [Array.toList_setIfInBounds,Nat.add_assoc,Nat.add_comm,Nat.add_left_comm] using e
theorem Own.put {α:Type} {size:Nat} {R:(Nat→Prop)→World→List Value→α→Prop} {S:Nat→Prop} {w:World} {base:Nat} {e:TypeId} {l:List α} {g cap:Nat} (hR:bI R) (h:Own size R S w base e (.slice (some ⟨g,0,none⟩) l.length cap) l)
  {i:Nat} (hi:i<l.length) {c:List Value} (hc:c.length=size) {x:α} (hx:R (fun b=>S b∧b≠g) w c x):Own size R S (w.setCells g (i*size) c) base e (.slice (some ⟨g,0,none⟩) l.length cap) (l.set i x):=by
 obtain⟨g',cap',cur,css,hv,hg,hlt,hh,hcap,hmx,hcur,ht,hw,he⟩:=h.row hR AO
 cases hv
 have hcl:=he.length
 have hs:aC (fun b=>S b∧b≠g) w (w.setCells g (i*size) c):=aC.setCells ZH2 _ _ (aC.refl _ _)
 have hil:(i+1)*size≤l.length*size:=Nat.mul_le_mul_right _ hi
 have hll:l.length*size≤cap*size:=Nat.mul_le_mul_right _ hcap
 rw[Nat.add_mul,Nat.one_mul] at hil
 have hh':=aB5 c (i*size) cur w hh (by rw[hc];omega)
 have hl':(l.set i x).length=l.length:=List.length_set
 rw[← hl']
 refine Own.mk_row (css:=css.set i c) ?_ ((he.set hx i).mono fun c' x' hx'=>hR.same _ _ _ _ _ hs hx') hg hh' (by rw[hl'];exact hcap) hmx ?_ ?_ hR
 ·intro c' hc'
  rcases List.mem_or_eq_of_mem_set hc' with h1|h1
  ·exact hw c' h1
  ·rw[h1];exact hc
 ·simp only[List.size_toArray,List.length_append,List.length_take,List.length_drop,Array.length_toList,hc]
  omega
 ·rw[hl']
  have ecss:css.set i c=css.take i++c :: css.drop (i+1):=List.set_eq_take_append_cons_drop.trans (by rw[if_pos AO])
  have e1:cur.toList.take (i*size)=(css.take i).flatten:=by
   rw[← aQ5 hw i AO,← ht,List.take_take,Nat.min_eq_left AO]
  have e2:(cur.toList.drop (i*size+c.length)).take (l.length*size - (i*size+c.length))=(css.drop (i+1)).flatten:=by
   rw[← aL9 hw (i+1) AO,← ht,List.drop_take,hc,Nat.add_mul,Nat.one_mul]
  rw[ecss,List.flatten_append,List.flatten_cons,← e1,← e2,List.append_assoc,List.take_append,List.take_append]
  simp only[List.length_take,Array.length_toList]
  rw[List.take_take]
  congr 1
  ·congr 1;omega
  ·congr 1
   ·rw[List.take_of_length_le (by rw[hc];omega)]
   ·congr 1;omega
def aP {β:Type} (l:List (List UInt8 × β)):List (List UInt8):=l.map (·.1)
theorem aC3 {β:Type} (l:List (List UInt8 × β)) (k:Nat) (h:k<(aP l).length):(aP l)[k]=(l[k]'(by simpa [aP] using h)).1:=by simp[aP]
def bL2 (w:World) (ks:List (List UInt8)) (k:List UInt8) (e:Ending) (w':World):Prop :=
 ∃ i:Nat,e=.returned (.tuple #[.int .i64 i,.bool (decide (ks[i]?=some k))])∧At ks k i∧Below w.heap.size w w'
theorem cS8 (w:World) (A:Option Addr) (l:List Pr) (c:Nat) (K V:Option Addr) (p:Pr) (c1 d1:Nat) (ha:Ps All w A l) (hk:Bs All w K p.1) (hn:l.length≤60) (hr:bS (aP l)) :
  Calls Tryz.prog 155 #[.slice A l.length c,.agg #[.slice K p.1.length c1,.slice V p.2.length d1],.func (.func 154) #[] #[]] w (bL2 w (aP l) p.1):=by
 have Ha:=zh ha
 have Hk:=zh hk
 have Hr:=zh hr
 clear ha hk hr
 go_enter Tryz.func155,Tryz.ntmps155
 go_wp2
 have hbx:Below w.heap.size w (w.alloc (.cells #[.slice K p.1.length c1,.slice V p.2.length d1] 53)):=(Below.refl _ _).alloc zn _
 have hg0:(w.alloc (.cells #[.slice K p.1.length c1,.slice V p.2.length d1] 53)).cell? ⟨w.heap.size,0,none⟩=some (.slice K p.1.length c1):=by simp
 have hg1:(w.alloc (.cells #[.slice K p.1.length c1,.slice V p.2.length d1] 53)).cell? ⟨w.heap.size,1,none⟩=some (.slice V p.2.length d1):=by simp
 have hsz:(w.alloc (.cells #[.slice K p.1.length c1,.slice V p.2.length d1] 53)).heap.size=w.heap.size+1:=by simp
 generalize w.alloc (.cells #[.slice K p.1.length c1,.slice V p.2.length d1] 53)=w0 at *
 have Hbx:=zh hbx
 have Hg0:=zh hg0
 have Hg1:=zh hg1
 have Hsz:=zh hsz
 clear hbx hg0 hg1 hsz
 go_loopw [9,10,11] (fun i j _ wr=>∃ a b:Nat,i=.int .i64 a∧j=.int .i64 b∧a≤b∧b≤l.length∧(∀ m (_:m<a) (h:m<(aP l).length),lt (aP l)[m] p.1=true)∧(∀ m (_:b≤m) (h:m<(aP l).length),lt (aP l)[m] p.1=false)∧Below w0.heap.size w0 wr) (fun i j _ _=>(intOf j).toNat - (intOf i).toNat)
 case atStart=>exact⟨0,l.length,rfl,rfl,AO,zn,fun m h=>absurd h AO,fun m h1 h2=>absurd h2 (by simp[aP];omega),Below.refl _ _⟩
 case round =>
  obtain⟨a,b,rfl,rfl,hab,hbl,hlow,hhigh,hbel⟩:=hrel
  have Hlow:=zh hlow
  have Hhigh:=zh hhigh
  have Hbel:=zh hbel
  clear hlow hhigh hbel
  by_cases hlt:a<b
  ·obtain⟨m,hm⟩:∃ m:Nat,((a:Int)+(b:Int)) / 2=(m:Int):=⟨(a+b) / 2,AO⟩
   have hm1:a≤m:=by omega
   have hm2:m<b:=by omega
   have hml:m<l.length:=by omega
   obtain⟨ab,ao,K0,c0,V0,d0,rfl,_,hal,hc1,hc2,hs1,hs2,_,_⟩:=aE3 ((Ha.out.below pairR_stays ((Below.refl w.heap.size w).trans Hbx.out)).below pairR_stays Hbel.out) hml
   have hz1:=Hbel.out.size
   have hz2:=Hsz.out
   have hg0:wr.cell? ⟨w.heap.size,0,none⟩=some (.slice K p.1.length c1):=(Hbel.out.cell ZC5).trans Hg0.out
   have hg1:wr.cell? ⟨w.heap.size,1,none⟩=some (.slice V p.2.length d1):=(Hbel.out.cell ZC5).trans Hg1.out
   have Hkk:=zh ((Hk.out.bbelow Hbx.out).bbelow Hbel.out)
   have hi0:(0:Int)≤(m:Int):=by omega
   have hi1:(m:Int)<(l.length:Int):=by omega
   have Hm:=zh hm
   clear hm
   rcases Bool.eq_false_or_eq_true (lt l[m].1 p.1) with ho|ho
   ·have hcm:=aX8 ho
    generalize hcmv:aI4 l[m].1 p.1=cm at hcm
    have Hcm:=zh hcmv
    have Ho:=zh ho
    clear hcmv ho
    go_wp2_with fail
    rw[Hm.out]
    go_region_held3 (fun w'=>w'.cell? ⟨ab,ao+m*2,none⟩=some (.slice K0 l[m].1.length c0)∧w'.cell? ⟨ab,ao+m*2+1,none⟩=some (.slice V0 l[m].2.length d0)∧w'.cell? ⟨w.heap.size,0,none⟩=some (.slice K p.1.length c1)∧w'.cell? ⟨w.heap.size,1,none⟩=some (.slice V p.2.length d1))
    (first
     | go_keep
     | (go_split_ands;refine⟨(hbw2.cell ZC8).trans ZF3,(hbw2.cell ZC8).trans ZF3,(hbw2.cell ZC8).trans ZF3,(hbw2.cell ZC8).trans ZF3⟩))
    ((go_at_call 154;(with_reducible refine (aR2 _ K0 V0 l[m] c0 d0 K V p c1 d1 ?hp ?hq).mono ?_);(case hp=>exact hs1.bz.bsame (aC.refl _ _).drew);(case hq=>exact Hkk.out.bsame (aC.refl _ _).drew);rintro e w2 ⟨rfl,hbw2⟩;rw[Hcm.out]))
    go_wp2
    go_roundw
    case rel=>exact⟨m+1,b,by go_num,rfl,AO,hbl,cJ8 Hr.out (by simpa [aP] using hml) (by rw[aC3];exact Ho.out),Hhigh.out,Hbel.out.drew.next hbw2 ZC8⟩
    case measure=>simp[intOf];omega
   ·have hcm:=aO5 ho
    generalize hcmv:aI4 l[m].1 p.1=cm at hcm
    have Hcm:=zh hcmv
    have Ho:=zh ho
    clear hcmv ho
    go_wp2_with fail
    rw[Hm.out]
    go_region_held3 (fun w'=>w'.cell? ⟨ab,ao+m*2,none⟩=some (.slice K0 l[m].1.length c0)∧w'.cell? ⟨ab,ao+m*2+1,none⟩=some (.slice V0 l[m].2.length d0)∧w'.cell? ⟨w.heap.size,0,none⟩=some (.slice K p.1.length c1)∧w'.cell? ⟨w.heap.size,1,none⟩=some (.slice V p.2.length d1))
    (first
     | go_keep
     | (go_split_ands;refine⟨(hbw2.cell ZC8).trans ZF3,(hbw2.cell ZC8).trans ZF3,(hbw2.cell ZC8).trans ZF3,(hbw2.cell ZC8).trans ZF3⟩))
    ((go_at_call 154;(with_reducible refine (aR2 _ K0 V0 l[m] c0 d0 K V p c1 d1 ?hp ?hq).mono ?_);(case hp=>exact hs1.bz.bsame (aC.refl _ _).drew);(case hq=>exact Hkk.out.bsame (aC.refl _ _).drew);rintro e w2 ⟨rfl,hbw2⟩;rw[Hcm.out]))
    go_wp2
    go_roundw
    case rel=>exact⟨a,m,rfl,rfl,AO,by omega,Hlow.out,bY3 Hr.out (by simpa [aP] using hml) (by rw[aC3];exact Ho.out),Hbel.out.drew.next hbw2 ZC8⟩
    case measure=>simp[intOf];omega
  ·obtain rfl:a=b:=by omega
   have Hat:=zh (show At (aP l) p.1 a from ⟨by simpa [aP] using hbl,Hlow.out,Hhigh.out⟩)
   clear Hlow Hhigh
   by_cases hml:a<l.length
   ·have b1:decide ((a:Int)<(l.length:Int))=true:=by simp;omega
    obtain⟨ab,ao,K0,c0,V0,d0,rfl,_,hal,hc1,hc2,hs1,hs2,_,_⟩:=aE3 ((Ha.out.below pairR_stays ((Below.refl w.heap.size w).trans Hbx.out)).below pairR_stays Hbel.out) hml
    have hz1:=Hbel.out.size
    have hz2:=Hsz.out
    have hg0:wr.cell? ⟨w.heap.size,0,none⟩=some (.slice K p.1.length c1):=(Hbel.out.cell ZC5).trans Hg0.out
    have hg1:wr.cell? ⟨w.heap.size,1,none⟩=some (.slice V p.2.length d1):=(Hbel.out.cell ZC5).trans Hg1.out
    have Hkk:=zh ((Hk.out.bbelow Hbx.out).bbelow Hbel.out)
    have hi0:(0:Int)≤(a:Int):=by omega
    have hi1:(a:Int)<(l.length:Int):=by omega
    have hfe:(aI4 l[a].1 p.1==0)=decide ((aP l)[a]?=some p.1):=by
     rw[bU9]
     rw[Bool.eq_iff_iff]
     simp[aP,hml]
    have Hfe:=zh hfe
    clear hfe
    go_wp2_with fail
    go_region_held3 (fun w'=>w'.cell? ⟨ab,ao+a*2,none⟩=some (.slice K0 l[a].1.length c0)∧w'.cell? ⟨ab,ao+a*2+1,none⟩=some (.slice V0 l[a].2.length d0)∧w'.cell? ⟨w.heap.size,0,none⟩=some (.slice K p.1.length c1)∧w'.cell? ⟨w.heap.size,1,none⟩=some (.slice V p.2.length d1))
    (first
     | go_keep
     | (go_split_ands;refine⟨(hbw2.cell ZC8).trans ZF3,(hbw2.cell ZC8).trans ZF3,(hbw2.cell ZC8).trans ZF3,(hbw2.cell ZC8).trans ZF3⟩))
    ((go_at_call 154;(with_reducible refine (aR2 _ K0 V0 l[a] c0 d0 K V p c1 d1 ?hp ?hq).mono ?_);(case hp=>exact hs1.bz.bsame (aC.refl _ _).drew);(case hq=>exact Hkk.out.bsame (aC.refl _ _).drew);rintro e w2 ⟨rfl,hbw2⟩;skip))
    go_wp2
    go_ret2
    exact⟨a,by rw[← Hfe.out];rfl,Hat.out,(((Below.refl w.heap.size w).trans Hbx.out).next Hbel.out AO).drew.next hbw2 ZC8⟩
   ·have b1:decide ((a:Int)<(l.length:Int))=false:=by simp;omega
    go_wp2_with fail
    go_quiet (fail)
    go_wp2
    go_ret2
    have hz2:=Hsz.out
    refine⟨a,?_,Hat.out,below_drewN (((Below.refl w.heap.size w).trans Hbx.out).next Hbel.out AO) _⟩
    have hq:(aP l)[a]?=none:=List.getElem?_eq_none (by simp[aP];omega)
    rw[hq]
    rfl
theorem aO7 (w:World) (A:Option Addr) (l:List Pr) (c:Nat) (K:Option Addr) (k:List UInt8) (c1:Nat) (ha:Ps All w A l) (hk:Bs All w K k) (hn:l.length≤60) (hr:bS (aP l)) :
  Calls Tryz.prog 93 #[.slice A l.length c,.slice K k.length c1] w (bL2 w (aP l) k):=by
 have Ha:=zh ha
 have Hk:=zh hk
 have Hr:=zh hr
 have Hn:=zh hn
 clear ha hk hr hn
 go_enter Tryz.func93,Tryz.ntmps93
 go_wp2_with (go_at_call 155;refine (cS8 _ A l c K none (k,[]) c1 0 Ha.out Hk.out Hn.out Hr.out).mono ?_;rintro e w1 ⟨i,rfl,hat,hb1⟩;dsimp only)
 go_ret2
 exact⟨i,rfl,hat,hb1⟩
theorem bC7 (w:World) (A B:Option Addr) (p:Pr) (c d:Nat) (ha:Bs All w A p.1) (hb:Bs All w B p.2) (h1:p.1.length≤big) (h2:p.2.length≤big) :
  Calls Tryz.prog 158 #[.agg #[.slice A p.1.length c,.slice B p.2.length d]] w (cQ1 w p):=by
 have Ha:=zh ha
 have Hb:=zh hb
 clear ha hb
 go_enter Tryz.func158,Tryz.ntmps158
 go_wp2_with fail
 go_region_held3 (fun w'=>w'.cell? ⟨w.heap.size,0,none⟩=some (.slice A p.1.length c)∧w'.cell? ⟨w.heap.size,1,none⟩=some (.slice B p.2.length d))
  (first
   | go_keep
   | (go_split_ands;refine⟨(hb1.cell AU).trans ZF3,(hb1.cell AU).trans ZF3⟩)
   | (go_split_ands;refine⟨(hb2.cell ZD7).trans ZF3,(hb2.cell ZD7).trans ZF3⟩))
  (first
   | (go_at_call 49;(with_reducible refine (aE2 _ A p.1 c ?ha h1).mono ?_);(case ha=>(refine Ha.out.bbelow ?_;exact BE));rintro e w1 ⟨A1,c1,rfl,hs1,hb1⟩)
   | (go_at_call 49;(with_reducible refine (aE2 _ B p.2 d ?ha h2).mono ?_);(case ha=>(refine Hb.out.bbelow (Below.next ?_ hb1 AU);exact BE));rintro e w2 ⟨A2,c2,rfl,hs2,hb2⟩;have g0:w2.cell? ⟨w.heap.size+1,0,none⟩=some (.slice none 0 0):=(hb2.cell ZD7).trans ((hb1.cell AU).trans ZH2);have g1:w2.cell? ⟨w.heap.size+1,1,none⟩=some (.slice none 0 0):=(hb2.cell ZD7).trans ((hb1.cell AU).trans ZH2);have f0:w2.frozen? ⟨w.heap.size+1,0,none⟩=false:=(hb2.frozen ZD7).trans ((hb1.frozen AU).trans ZH2);have f1:w2.frozen? ⟨w.heap.size+1,1,none⟩=false:=(hb2.frozen ZD7).trans ((hb1.frozen AU).trans ZH2)))
 all_goals
  go_wp2
  refine bodyPost_ret (v:=.agg #[.slice A1 p.1.length c1,.slice A2 p.2.length c2]) (by simp[results,Tryz.results158,go_sem,g0,g1]) rfl ⟨A1,c1,A2,c2,rfl,?_,?_,?_⟩
  ·exact ZB3
  ·exact ZB5
  ·refine Below.setCell (Below.setCell (Below.next (Below.next ?_ hb1 AU) hb2 ZD7) AU _) AU _
   exact BE
def RetOwnPs (w:World) (l:List Pr) (e:Ending) (w':World):Prop :=
 ∃ v,e=.returned v∧Own 2 aU2 (aB w.heap.size) w' w.heap.size 53 v l∧Below w.heap.size w w'
theorem aX9 (w:World) (A:Option Addr) (l:List Pr) (c:Nat) (ha:Ps All w A l) (hn:l.length*48≤140737488355328) :
  Calls Tryz.prog 95 #[.slice A l.length c] w (RetOwnPs w l):=by
 obtain⟨i0,hi0,hz0,hz1,hz2⟩:=info_parts info_pair
 have Ha:=zh ha
 clear ha
 go_enter Tryz.func95,Tryz.ntmps95
 go_wp2
 go_loopw [3,8] (fun v i wr=>∃ k:Nat,k≤l.length∧i=.int .i64 k∧Own 2 aU2 (aB w.heap.size) wr w.heap.size 53 v (l.take k)∧Below w.heap.size w wr) (fun _ i _=>l.length - (intOf i).toNat)
 case atStart=>exact⟨0,AO,rfl,Own.nil _ _ _,Below.refl _ _⟩
 case round =>
  obtain⟨k,hk,rfl,hown,hbel⟩:=hrel
  have Hbel:=zh hbel
  have Hown:=zh hown
  clear hown hbel
  by_cases hlt:k<l.length
  ·obtain⟨ab,ao,K,c1,V,d1,rfl,_,hal,hc1,hc2,hs1,hs2,hb1,hb2⟩:=aE3 (Ha.out.below pairR_stays Hbel.out) hlt
   have Hsn:=zh (aC8 l k hlt)
   generalize l[k]=x at *
   go_wp2_with (first
    | (go_at_call 158;refine (bC7 _ K V x c1 d1 (hs1.bz.bbelow ((Below.refl _ _).alloc zn _)) (hs2.bz.bbelow ((Below.refl _ _).alloc zn _)) hb1 hb2).mono ?_;rintro e w1 ⟨A1,c2,A2,d2,rfl,gs1,gs2,hbw1'⟩;have hbw1:Below wr.heap.size wr w1:=((Below.refl _ _).alloc zn _).next hbw1' AU;have hg1z:wr.heap.size+1≤w1.heap.size:=(by have hz:=hbw1'.size;simpa using hz))
    | (at_builtin;refine aM3 pairR_stays (S:=aB w.heap.size) _ rfl _ _ _ rfl w.heap.size 53 i0 _ 2 48 Tryz.underlying50 hi0 hz0 hz1 hz2 rfl ZD9 _ (l.take k) rfl ?hown _ _ [.slice A1 x.1.length c2,.slice A2 x.2.length d2] rfl rfl (aE6 _ _ [.slice A1 x.1.length c2,.slice A2 x.2.length d2] _ ZH2) ZE8 ?hm ?hby ?hba x ?hd ?_;(case hown=>exact (Hown.out.below pairR_stays hbw1).same pairR_stays ((aC.refl _ _).alloc _));(case hm=>simp only[List.length_take,maxLen];omega);(case hby=>simp only[List.length_take];omega);(case hba=>have hz1:=Hbel.out.size;have hz2:=hbw1.size;simp;omega);(case hd=>exact⟨A1,c2,A2,d2,rfl,(gs1.bsame ((aC.refl _ _).alloc _)).bless fun b _ hs=>⟨by have hz1:=Hbel.out.size;have hz2:=hs;simp[aB] at hz2 ⊢;omega,Hown.out.apart wr.heap.size zn b (by have hz2:=hs;simp[aB] at hz2 ⊢;omega)⟩,(gs2.bsame ((aC.refl _ _).alloc _)).bless fun b _ hs=>⟨by have hz1:=Hbel.out.size;have hz2:=hs;simp[aB] at hz2 ⊢;omega,Hown.out.apart wr.heap.size zn b (by have hz2:=hs;simp[aB] at hz2 ⊢;omega)⟩,hb1,hb2⟩);intro v1 w2 hown2 hbw2))
   go_roundw
   case rel=>exact⟨k+1,AO,by go_num,by rw[Hsn.out];exact hown2,((Hbel.out.next hbw1 Hbel.out.size).alloc (by have hz1:=Hbel.out.size;have hz2:=hbw1.size;omega) _).trans hbw2⟩
   case measure=>simp[intOf];omega
  ·go_wp2
   go_ret
   obtain rfl:k=l.length:=by omega
   have h:=Hown.out
   rw[List.take_length] at h
   exact⟨_,rfl,h,Hbel.out⟩
theorem cC8 (w:World) (A:Option Addr) (l:List Pr) (c:Nat) (ha:Ps All w A l) (hn:l.length*48≤140737488355328) :
  Calls Tryz.prog 95 #[.slice A l.length c] w (aT3 2 aU2 w l) :=
 (aX9 w A l c ha hn).mono fun e w' ⟨v,he,h,hb⟩=>by
  obtain⟨A',c',rfl,hcap,hsl⟩:=h.readc pairR_stays
  exact⟨A',c',he,hcap,hsl,hb⟩
def aV6 (l:List Pr) (k:List UInt8):Option (List UInt8):=(l.find? (·.1==k)).map (·.2)
abbrev Finding:=Bool × List UInt8
def aX7 (l:List Pr) (k:List UInt8):Finding × Int :=
 if aG l≠0 then ((false,[]),aG l) else if aE k≠0 then ((false,[]),aE k) else
  match aV6 l k with
  | some v=>((true,v),0)
  | none=>((false,[]),0)
def RetGet (w:World) (r:Finding × Int) (e:Ending) (w':World):Prop :=
 ∃ A c,e=.returned (.tuple #[.agg #[.bool r.1.1,.slice A r.1.2.length c],.int .i64 r.2])∧Bs (aB w.heap.size) w' A r.1.2∧Below w.heap.size w w'
theorem bM4 {l:List Pr} {k:List UInt8} (h:aG l≠0):aX7 l k=((false,[]),aG l):=by simp[aX7,h]
theorem cC9 {l:List Pr} {k:List UInt8} (h:aG l=0) (h':aE k≠0):aX7 l k=((false,[]),aE k):=by simp[aX7,h,h']
theorem cJ9 {l:List Pr} {k v:List UInt8} (h:aG l=0) (h':aE k=0) (hv:aV6 l k=some v):aX7 l k=((true,v),0):=by simp[aX7,h,h',hv]
theorem cS9 {l:List Pr} {k:List UInt8} (h:aG l=0) (h':aE k=0) (hv:aV6 l k=none):aX7 l k=((false,[]),0):=by simp[aX7,h,h',hv]
theorem aY0 {ks:List (List UInt8)} (hr:bS ks) {i j:Nat} (hi:i<ks.length) (hj:j<ks.length) (h:ks[i]=ks[j]):i=j:=by
 rcases (by omega:i<j∨i=j∨j<i) with h1|h1|h1
 ·have:=hr i j h1 hj;rw[h,lt_irrefl] at this;cases this
 ·exact h1
 ·have:=hr j i h1 hi;rw[h,lt_irrefl] at this;cases this
theorem cK0 {l:List Pr} {k:List UInt8} (hr:bS (aP l)) {i:Nat} (hi:i<l.length) (h:l[i].1=k):aV6 l k=some l[i].2:=by
 have hf:(l.find? (·.1==k))=some l[i]:=by
  rw[List.find?_eq_some_iff_getElem]
  refine⟨by simpa using h,i,hi,rfl,fun j hj=>?_⟩
  have hjl:j<l.length:=by omega
  simp only[Bool.not_eq_true',beq_eq_false_iff_ne]
  intro e
  have:=aY0 hr (i:=j) (j:=i) (by simpa [aP] using hjl) (by simpa [aP] using hi) (by rw[aC3,aC3,e,h])
  omega
 simp[aV6,hf]
theorem bS8 {l:List Pr} {k:List UInt8} {i:Nat} (hr:bS (aP l)) (hat:At (aP l) k i) (h:(aP l)[i]?≠some k):aV6 l k=none:=by
 have hf:(l.find? (·.1==k))=none:=by
  rw[List.find?_eq_none]
  intro p hp
  obtain⟨j,hj,rfl⟩:=List.getElem_of_mem hp
  have hjk:j<(aP l).length:=by simpa [aP] using hj
  simp only[beq_iff_eq]
  intro e
  have ek:(aP l)[j]=k:=by rw[aC3];exact e
  rcases (by omega:j<i∨i≤j) with h1|h1
  ·have:=hat.low j h1 hjk;rw[ek,lt_irrefl] at this;cases this
  ·rcases (by omega:i=j∨i<j) with h2|h2
   ·subst h2
    exact h (by rw[List.getElem?_eq_getElem hjk,ek])
   ·have h3:=hr i j h2 hjk
    rw[ek,hat.high i zn AO] at h3
    cases h3
 simp[aV6,hf]
theorem aV7 (w:World) (A:Option Addr) (l:List Pr) (c:Nat) (K:Option Addr) (k:List UInt8) (c1:Nat) (ha:Ps All w A l) (hk:Bs All w K k) :
  Calls Tryz.prog 52 #[.slice A l.length c,.slice K k.length c1] w (RetGet w (aX7 l k)):=by
 have Ha:=zh ha
 have Hk:=zh hk
 clear ha hk
 by_cases h1:aG l=0
 ·by_cases h2:aE k=0
  ·have H1:=zh h1
   have H2:=zh h2
   have b1:(aG l != 0)=false:=by simp[h1]
   have b2:(aE k != 0)=false:=by simp[h2]
   obtain⟨hl60,_,hrise⟩:=aG5 h1
   have Hr:=zh (show bS (aP l) from hrise)
   have Hl:=zh hl60
   clear h1 h2 hrise hl60
   go_enter Tryz.func52,Tryz.ntmps52
   go_wp2_with (first
    | (go_at_call 92;refine (aB3 _ A l c (Ha.out.below pairR_stays ?_)).mono ?_;(all_goals try exact BE);rintro e w1 ⟨rfl,hb1⟩)
    | (go_at_call 91;refine (aF _ K k c1).mono ?_;rintro e w2 ⟨rfl,rfl⟩))
   have hbw:Below w.heap.size w w1:=Below.next ((Below.refl _ _).alloc zn _) hb1 AU
   refine (aO7 _ A l c K k c1 (Ha.out.below pairR_stays hbw) (Hk.out.bbelow hbw) Hl.out Hr.out).mono ?_
   rintro e w3 ⟨i,rfl,hat,hb3⟩
   have hx1:=(hb1.block w.heap.size AU).trans (aK w _ _)
   have hs1:w.heap.size+1≤w1.heap.size:=by have:=hb1.size;simpa using this
   have hx3:=(hb3.block w.heap.size AO).trans hx1
   have Hx3:=zh hx3
   have hbw3:=hbw.next hb3 AO
   have Hb1:=zh hb1
   have Hat:=zh hat
   clear hx1 hx3 hb1 hat
   by_cases hf:(aP l)[i]?=some k
   ·have hil:i<l.length:=by
     have:=(List.getElem?_eq_some_iff.1 hf).1
     simpa [aP] using this
    have hki:l[i].1=k:=by
     have:=(List.getElem?_eq_some_iff.1 hf).2
     rw[aC3] at this
     exact this
    have Hgs:=zh (cJ9 H1.out H2.out (cK0 Hr.out hil hki))
    rw[decide_eq_true hf]
    obtain⟨ab,ao,K0,c0,V0,d0,rfl,_,hal,hc1,hc2,hs1,hs2,_,hvl⟩:=aE3 (Ha.out.below pairR_stays hbw3) hil
    clear hf hki
    generalize l[i]=x at *
    obtain⟨g0,g1,f0,f1⟩:=bF Hx3.out
    go_wp2_with (go_at_call 49;refine (aE2 _ V0 x.2 d0 hs2.bz hvl).mono ?_;rintro e w4 ⟨A4,c4,rfl,hs4,hb4⟩;clear g0 g1 f0 f1;obtain⟨g0,g1,f0,f1⟩:=bF ((hb4.block w.heap.size (by have:=hb3.size;omega)).trans Hx3.out))
    have hs3:w.heap.size+1≤w3.heap.size:=by have:=hb3.size;omega
    have hs4':=hb4.size
    refine bodyPost_ret (v:=.tuple #[.agg #[.bool true,.slice A4 x.2.length c4],.int .i64 0]) (by simp[results,Tryz.results52,go_sem,g0,g1]) rfl ?_
    rw[Hgs.out]
    exact⟨A4,c4,rfl,(hs4.bsame (((aC.refl _ _).setCell ZD5 _).setCell ZD5 _)).blo AO,Below.setCell (Below.setCell (hbw3.next hb4 AO) zn _) zn _⟩
   ·have Hgs:=zh (cS9 H1.out H2.out (bS8 Hr.out Hat.out hf))
    rw[decide_eq_false hf]
    clear hf
    obtain⟨g0,g1,f0,f1⟩:=bF Hx3.out
    go_wp2
    refine bodyPost_ret (v:=.tuple #[.agg #[.bool false,.slice none 0 0],.int .i64 0]) (by simp[results,Tryz.results52,go_sem,g0,g1]) rfl ?_
    rw[Hgs.out]
    exact⟨none,0,rfl,SL.nil,Below.setCell (Below.setCell hbw3 zn _) zn _⟩
  ·have Hgs:=zh (cC9 h1 h2)
   have b1:(aG l != 0)=false:=by simp[h1]
   have b2:(aE k != 0)=true:=by simpa using h2
   clear h1 h2
   go_enter Tryz.func52,Tryz.ntmps52
   go_wp2_with (first
    | (go_at_call 92;refine (aB3 _ A l c (Ha.out.below pairR_stays ?_)).mono ?_;(all_goals try exact BE);rintro e w1 ⟨rfl,hb1⟩;obtain⟨g0,g1,f0,f1⟩:=bF ((hb1.block w.heap.size AU).trans (aK w _ _)))
    | (go_at_call 91;refine (aF _ K k c1).mono ?_;rintro e w2 ⟨rfl,rfl⟩))
   refine bodyPost_ret (v:=.tuple #[.agg #[.bool false,.slice none 0 0],.int .i64 (aE k)]) (by simp[results,Tryz.results52,go_sem,g0,g1]) rfl ?_
   rw[Hgs.out]
   exact ZC0
 ·have Hgs:=zh (bM4 (k:=k) h1)
  have b1:(aG l != 0)=true:=by simpa using h1
  clear h1
  go_enter Tryz.func52,Tryz.ntmps52
  go_wp2_with (go_at_call 92;refine (aB3 _ A l c (Ha.out.below pairR_stays ?_)).mono ?_;(all_goals try exact BE);rintro e w1 ⟨rfl,hb1⟩;obtain⟨g0,g1,f0,f1⟩:=bF ((hb1.block w.heap.size AU).trans (aK w _ _)))
  refine bodyPost_ret (v:=.tuple #[.agg #[.bool false,.slice none 0 0],.int .i64 (aG l)]) (by simp[results,Tryz.results52,go_sem,g0,g1]) rfl ?_
  rw[Hgs.out]
  exact ZC0
def aD3 (l:List Pr) (k:List UInt8):Int:=if aG l≠0 then aG l else aE k
theorem getS_bad {l:List Pr} {k:List UInt8} (h:aD3 l k≠0):aX7 l k=((false,[]),aD3 l k):=by
 unfold aD3 at *
 by_cases h1:aG l=0
 ·rw[if_neg ZE3] at h ⊢
  exact cC9 h1 h
 ·rw[if_pos h1] at h ⊢
  exact bM4 h1
theorem bL3 {l:List Pr} {k:List UInt8} (h:aD3 l k=0):aG l=0∧aE k=0:=by
 unfold aD3 at h
 split at h
 ·rename_i h1;exact absurd h h1
 ·rename_i h1;exact⟨by simpa using h1,h⟩
def bE5 (f t:List UInt8) (p:Pr):Bool:=!lt p.1 f && !lt t p.1
def aI9 (l:List Pr) (f t:List UInt8):Int:=if aG l≠0 then aG l else if aE f≠0 then aE f else aE t
def aM9 (l:List Pr) (f t:List UInt8):List Pr × Int:=if aI9 l f t≠0 then ([],aI9 l f t) else (l.filter (bE5 f t),0)
def cD0 (w:World) (r:List Pr × Int) (e:Ending) (w':World):Prop :=
 ∃ A c,e=.returned (.tuple #[.slice A r.1.length c,.int .i64 r.2])∧r.1.length≤c∧Ps (aB w.heap.size) w' A r.1∧Below w.heap.size w w'
theorem bM5 {α:Type} (q:α→Bool):∀ (l:List α) (a b:Nat),(∀ j (h:j<l.length),q l[j]=decide (a≤j∧j<b))→l.filter q=(l.drop a).take (b - a)
 | [],a,b,_=>by simp
 | x :: l,a,b,h=>by
  have h0:q x=decide (a≤0∧0<b):=h 0 ZH2
  have ih:=bM5 q l (a - 1) (b - 1) (fun j hj=>by
   have:=h (j+1) (by simpa using hj)
   simp only[List.getElem_cons_succ] at this
   rw[this]
   exact decide_eq_decide.2 AO)
  rcases a with _|a
  ·rcases b with _|b
   ·have hq:q x=false:=by rw[h0];simp
    simp only[List.filter_cons,hq]
    simpa using ih
   ·have hq:q x=true:=by rw[h0];simp
    simp only[List.filter_cons,hq,if_true]
    simpa using ih
  ·have hq:q x=false:=by rw[h0];simp
   simp only[List.filter_cons,hq]
   rcases b with _|b
   ·simpa using ih
   ·simpa using ih
theorem bV0 {l:List Pr} {f t:List UInt8} {i k k':Nat} (hr:bS (aP l)) (hi:At (aP l) f i) (hk:At (aP l) t k) (h':k'=if (aP l)[k]?=some t then k+1 else k) :
  l.filter (bE5 f t)=(l.drop i).take (max i k' - i):=by
 have key:∀ j (h:j<l.length),bE5 f t l[j]=decide (i≤j∧j<k'):=by
  intro j hj
  have hjk:j<(aP l).length:=by simpa [aP] using hj
  have e:l[j].1=(aP l)[j]:=(aC3 l j hjk).symm
  unfold bE5
  rw[e]
  have h1:(!lt (aP l)[j] f)=decide (i≤j):=by
   by_cases h:i≤j
   ·rw[hi.high j h hjk];simp[h]
   ·rw[hi.low j AO hjk];simp[h]
  have h2:(!lt t (aP l)[j])=decide (j<k'):=by
   by_cases h:j<k
   ·rw[cC6 _ _ (hk.low j h hjk)]
    have:j<k':=by rw[h'];split <;> omega
    simp[this]
   ·have h3:=hk.high j AO hjk
    by_cases h4:(aP l)[j]=t
    ·have hkj:j=k:=by
      rcases (by omega:j=k∨k<j) with h5|h5
      ·exact h5
      ·have h6:=hr k j h5 hjk
       rw[h4,hk.high k zn AO] at h6
       cases h6
     subst hkj
     have:j<k':=by rw[h',if_pos (by rw[List.getElem?_eq_getElem hjk,h4])];omega
     rw[h4,lt_irrefl]
     simp[this]
    ·have h5:lt t (aP l)[j]=true:=by
      rcases Bool.eq_false_or_eq_true (lt t (aP l)[j]) with h6|h6
      ·exact h6
      ·exact absurd (lt_tri _ _ h3 h6) h4
     have:¬ j<k':=by
      rw[h']
      split
      ·rename_i hs
       intro hlt
       have:j=k:=by omega
       subst this
       rw[List.getElem?_eq_getElem hjk] at hs
       exact h4 (Option.some.inj hs)
      ·exact h
     rw[h5]
     simp[this]
  rw[h1,h2,← Bool.decide_and]
 rw[bM5 _ l i k' key]
 congr 1
 omega
theorem SL.cut {α:Type} {size:Nat} {R:(Nat→Prop)→World→List Value→α→Prop} {S:Nat→Prop} {w:World} {b off:Nat} {l:List α} (h:SL size R S w (some ⟨b,off,none⟩) l) (i m:Nat) :
  SL size R S w (some ⟨b,off+i*size,none⟩) ((l.drop i).take m):=by
 intro hl
 have hln:0<l.length:=by rw[List.length_take,List.length_drop] at hl;omega
 obtain⟨b',off',e,h0,hlt,hi⟩:=h hln
 cases e
 refine⟨b,off+i*size,rfl,h0,hlt,fun j hj=>?_⟩
 have hj':i+j<l.length:=by rw[List.length_take,List.length_drop] at hj;omega
 obtain⟨cs,h1,h2,h3⟩:=hi (i+j) hj'
 refine⟨cs,h1,fun n hn=>?_,?_⟩
 ·rw[← h2 n hn]
  congr 2
  rw[Nat.add_mul]
  omega
 ·rw[List.getElem_take,List.getElem_drop]
  exact h3
theorem sub_ok {α:Type} {size:Nat} {R:(Nat→Prop)→World→List Value→α→Prop} {S:Nat→Prop} {w:World} {A:Option Addr} {l:List α} (h:SL size R S w A l) (i n:Nat):SL size R S w (Option.map (fun x=>x.add (i*size)) A) ((l.drop i).take n):=by
 intro hl
 obtain⟨b,off,e,_⟩:=h (by rw[List.length_take,List.length_drop] at hl;omega)
 subst e
 have:=h.cut i n hl
 rw[Option.map_some,bC]
 exact this
theorem bM6 (w:World) (A:Option Addr) (n:Nat) (l:List Pr) (hl:n=l.length) (c:Nat) (ha:Ps All w A l) (hn:l.length*48≤140737488355328) :
  Calls Tryz.prog 95 #[.slice A n c] w (aT3 2 aU2 w l):=by
 subst hl
 exact cC8 w A l c ha hn
theorem bY5 (w:World) (A:Option Addr) (l:List Pr) (c:Nat) (K:Option Addr) (k:List UInt8) (c1:Nat) (M:Option Addr) (m:List UInt8) (c2:Nat) (ha:Ps All w A l) (hk:Bs All w K k) (hm:Bs All w M m) (hc:l.length≤c) :
  Calls Tryz.prog 54 #[.slice A l.length c,.slice K k.length c1,.slice M m.length c2] w (cD0 w (aM9 l k m)):=by
 have Ha:=zh ha
 have Hk:=zh hk
 have Hm:=zh hm
 clear ha hk hm
 have i0:∀ w,(Instr.index 187 (.agg #[.slice K k.length c1,.slice M m.length c2]) (.int .i64 0)).run Tryz.prog w=.ok (.slice K k.length c1) w:=fun _=>by kernel_rfl
 have i1:∀ w,(Instr.index 187 (.agg #[.slice K k.length c1,.slice M m.length c2]) (.int .i64 1)).run Tryz.prog w=.ok (.slice M m.length c2) w:=fun _=>by kernel_rfl
 by_cases h1:aG l=0
 ·have b1:(aG l != 0)=false:=by simp[h1]
  obtain⟨hl60,_,hrise⟩:=aG5 h1
  have Hr:=zh (show bS (aP l) from hrise)
  have Hl:=zh hl60
  have H1:=zh h1
  clear h1 hrise hl60
  by_cases h2:aE k=0
  ·have b2:(aE k != 0)=false:=by simp[h2]
   by_cases h3:aE m=0
   ·have b3:(aE m != 0)=false:=by simp[h3]
    have Hv:=zh (show aM9 l k m=(l.filter (bE5 k m),0) by simp[aM9,aI9,H1.out,h2,h3])
    clear h2 h3
    go_enter Tryz.func54,Tryz.ntmps54
    go_wp2_with (go_at_call 92;refine (aB3 _ A l c Ha.out).mono ?_;rintro e w1 ⟨rfl,hb1⟩)
    refine wp_loop_rounds 3 ?_
    rw[rounds_succ]
    go_wp2_with (go_at_call 91;(first|(with_reducible refine (aF _ K k c1).mono ?_)|(with_reducible refine (aF _ M m c2).mono ?_));rintro e w' ⟨rfl,rfl⟩)
    rw[rounds_succ]
    go_wp2_with (go_at_call 91;(first|(with_reducible refine (aF _ K k c1).mono ?_)|(with_reducible refine (aF _ M m c2).mono ?_));rintro e w' ⟨rfl,rfl⟩)
    rw[rounds_succ]
    go_wp2_with (go_at_call 91;(first|(with_reducible refine (aF _ K k c1).mono ?_)|(with_reducible refine (aF _ M m c2).mono ?_));rintro e w' ⟨rfl,rfl⟩)
    clear b1 b2 b3 i0 i1
    refine (aO7 _ A l c K k c1 (Ha.out.below pairR_stays hb1) (Hk.out.bbelow hb1) Hl.out Hr.out).mono ?_
    rintro e w3 ⟨i,rfl,hati,hb3⟩
    have hil:=hati.le
    rw[aP,List.length_map] at hil
    have Hati:=zh hati
    have Hb3:=zh (hb1.next hb3 hb1.size)
    clear hati hb1 hb3
    have hl60:=Hl.out
    go_wp2_with fail
    refine (aO7 _ A l c M m c2 (Ha.out.below pairR_stays Hb3.out) (Hm.out.bbelow Hb3.out) Hl.out Hr.out).mono ?_
    rintro e w4 ⟨j,rfl,hatj,hb4⟩
    have hjl:=hatj.le
    rw[aP,List.length_map] at hjl
    have Hatj:=zh hatj
    have Hb4:=zh (Hb3.out.next hb4 Hb3.out.size)
    clear hatj hb4 Hb3
    by_cases hf:(aP l)[j]?=some m
    ·rw[decide_eq_true hf]
     have hjl':j+1≤l.length:=by
      have:=(List.getElem?_eq_some_iff.1 hf).1
      rw[aP,List.length_map] at this
      exact this
     have Hmid:=zh (bV0 (k':=j+1) Hr.out Hati.out Hatj.out (by rw[if_pos hf]))
     clear hf Hati Hatj
     go_wp2_with fail
     all_goals
      obtain⟨sub,hsub⟩:∃ sub,sub=(l.drop i).take (max i (j+1) - i):=⟨_,rfl⟩
      have hsl:sub.length=min (max i (j+1) - i) (l.length - i):=by rw[hsub,List.length_take,List.length_drop]
      have Hsub:=zh hsub
      clear hsub
      refine (bM6 _ _ _ sub ?hn _ ?hs ?hb).mono ?_
      case hn=>omega
      case hb=>omega
      case hs=>rw[Hsub.out];first|exact sub_ok (Ha.out.below pairR_stays Hb4.out) i _|(rw[List.drop_eq_nil_of_le AO,List.take_nil];exact SL.nil)
      clear hsl
      rintro e w5 ⟨A5,c5,rfl,hcc5,hs5,hb5⟩
      go_wp2
      go_ret2
      rw[Hv.out,Hmid.out,← Hsub.out]
      exact⟨A5,c5,rfl,hcc5,hs5.lo pairR_stays Hb4.out.size,Hb4.out.next hb5 Hb4.out.size⟩
    ·rw[decide_eq_false hf]
     have Hmid:=zh (bV0 (k':=j) Hr.out Hati.out Hatj.out (by rw[if_neg hf]))
     clear hf Hati Hatj
     go_wp2_with fail
     all_goals
      obtain⟨sub,hsub⟩:∃ sub,sub=(l.drop i).take (max i (j) - i):=⟨_,rfl⟩
      have hsl:sub.length=min (max i (j) - i) (l.length - i):=by rw[hsub,List.length_take,List.length_drop]
      have Hsub:=zh hsub
      clear hsub
      refine (bM6 _ _ _ sub ?hn _ ?hs ?hb).mono ?_
      case hn=>omega
      case hb=>omega
      case hs=>rw[Hsub.out];first|exact sub_ok (Ha.out.below pairR_stays Hb4.out) i _|(rw[List.drop_eq_nil_of_le AO,List.take_nil];exact SL.nil)
      clear hsl
      rintro e w5 ⟨A5,c5,rfl,hcc5,hs5,hb5⟩
      go_wp2
      go_ret2
      rw[Hv.out,Hmid.out,← Hsub.out]
      exact⟨A5,c5,rfl,hcc5,hs5.lo pairR_stays Hb4.out.size,Hb4.out.next hb5 Hb4.out.size⟩
   ·have b3:(aE m != 0)=true:=by simpa using h3
    have Hv:=zh (show aM9 l k m=([],aE m) by simp[aM9,aI9,H1.out,h2,h3])
    clear h2 h3
    go_enter Tryz.func54,Tryz.ntmps54
    go_wp2_with (go_at_call 92;refine (aB3 _ A l c Ha.out).mono ?_;rintro e w1 ⟨rfl,hb1⟩)
    refine wp_loop_rounds 2 ?_
    rw[rounds_succ]
    go_wp2_with (go_at_call 91;(first|(with_reducible refine (aF _ K k c1).mono ?_)|(with_reducible refine (aF _ M m c2).mono ?_));rintro e w' ⟨rfl,rfl⟩)
    rw[rounds_succ]
    go_wp2_with (go_at_call 91;(first|(with_reducible refine (aF _ K k c1).mono ?_)|(with_reducible refine (aF _ M m c2).mono ?_));rintro e w' ⟨rfl,rfl⟩)
    go_ret2
    rw[Hv.out]
    exact⟨none,0,rfl,zn,SL.nil,hb1⟩
  ·have b2:(aE k != 0)=true:=by simpa using h2
   have Hv:=zh (show aM9 l k m=([],aE k) by simp[aM9,aI9,H1.out,h2])
   clear h2
   go_enter Tryz.func54,Tryz.ntmps54
   go_wp2_with (go_at_call 92;refine (aB3 _ A l c Ha.out).mono ?_;rintro e w1 ⟨rfl,hb1⟩)
   refine wp_loop_rounds 1 ?_
   rw[rounds_succ]
   go_wp2_with (go_at_call 91;(first|(with_reducible refine (aF _ K k c1).mono ?_)|(with_reducible refine (aF _ M m c2).mono ?_));rintro e w' ⟨rfl,rfl⟩)
   go_ret2
   rw[Hv.out]
   exact⟨none,0,rfl,zn,SL.nil,hb1⟩
 ·have b1:(aG l != 0)=true:=by simpa using h1
  have Hv:=zh (show aM9 l k m=([],aG l) by simp[aM9,aI9,h1])
  clear h1
  go_enter Tryz.func54,Tryz.ntmps54
  go_wp2_with (go_at_call 92;refine (aB3 _ A l c Ha.out).mono ?_;rintro e w1 ⟨rfl,hb1⟩)
  go_ret2
  rw[Hv.out]
  exact⟨none,0,rfl,zn,SL.nil,hb1⟩
section
variable {β : Type}
def aE9 (p:List UInt8 × β) (s:List (List UInt8 × β) × Bool) (x:List UInt8 × β):List (List UInt8 × β) × Bool :=
 let s1:=if !s.2 && !lt x.1 p.1 then (s.1++[p],true) else s
 if x.1==p.1 then s1 else (s1.1++[x],s1.2)
def bA3 (p:List UInt8 × β) (l:List (List UInt8 × β)):List (List UInt8 × β) × Bool:=l.foldl (aE9 p) ([],false)
def aL1 (p:List UInt8 × β) (l:List (List UInt8 × β)):List (List UInt8 × β):=if (bA3 p l).2 then (bA3 p l).1 else (bA3 p l).1++[p]
theorem cD1 {p:List UInt8 × β}:∀ (xs acc:List (List UInt8 × β)),(∀ x ∈ xs,lt x.1 p.1=true)→xs.foldl (aE9 p) (acc,false)=(acc++xs,false)
 | [],acc,_=>by simp
 | x :: xs,acc,h=>by
  have h1:=h x ZH2
  have h2:(x.1==p.1)=false:=by
   rw[beq_eq_false_iff_ne]
   intro e
   rw[e,lt_irrefl] at h1
   cases h1
  rw[List.foldl_cons,show aE9 p (acc,false) x=(acc++[x],false) by simp[aE9,h1,h2],cD1 xs (acc++[x]) fun y hy=>h y (by simp[hy])]
  simp
theorem bG8 {p:List UInt8 × β}:∀ (xs acc:List (List UInt8 × β)),(∀ x ∈ xs,(x.1==p.1)=false)→xs.foldl (aE9 p) (acc,true)=(acc++xs,true)
 | [],acc,_=>by simp
 | x :: xs,acc,h=>by
  have h2:=h x ZH2
  rw[List.foldl_cons,show aE9 p (acc,true) x=(acc++[x],true) by simp[aE9,h2],bG8 xs (acc++[x]) fun y hy=>h y (by simp[hy])]
  simp
theorem cD2 {l:List (List UInt8 × β)} {i:Nat} {x:List UInt8 × β} (h:x ∈ l.take i):∃ j,∃ hj:j<l.length,j<i∧l[j]=x:=by
 obtain⟨j,hj,rfl⟩:=List.mem_iff_getElem.1 h
 rw[List.length_take] at hj
 exact⟨j,AO,by omega,by rw[List.getElem_take]⟩
theorem bI2 {l:List (List UInt8 × β)} {i:Nat} {x:List UInt8 × β} (h:x ∈ l.drop i):∃ j,∃ hj:j<l.length,i≤j∧l[j]=x:=by
 obtain⟨j,hj,rfl⟩:=List.mem_iff_getElem.1 h
 rw[List.length_drop] at hj
 exact⟨i+j,AO,by omega,by rw[List.getElem_drop]⟩
theorem bB9 (p:List UInt8 × β) (l:List (List UInt8 × β)) (i:Nat) (hlow:∀ j (_:j<i) (h:j<(aP l).length),lt (aP l)[j] p.1=true):bA3 p l=(l.drop i).foldl (aE9 p) (l.take i,false):=by
 have e:bA3 p l=(l.take i++l.drop i).foldl (aE9 p) ([],false):=by rw[List.take_append_drop];rfl
 rw[e,List.foldl_append,cD1 (l.take i) [] fun x hx=>by
  obtain⟨j,hj,hji,rfl⟩:=cD2 hx
  have:=hlow j hji (by simpa [aP] using hj)
  rwa [aC3] at this]
 simp
theorem bC8 {p:List UInt8 × β} {l:List (List UInt8 × β)} {i:Nat} (hr:bS (aP l)) (hi:i<l.length) (hk:l[i].1=p.1):aL1 p l=l.set i p:=by
 have hlow:∀ j (_:j<i) (h:j<(aP l).length),lt (aP l)[j] p.1=true:=fun j hj h=>by
  have:=hr j i hj (by simpa [aP] using hi)
  rw[aC3 l i,hk] at this
  exact this
 have h1:aE9 p (l.take i,false) l[i]=(l.take i++[p],true):=by simp[aE9,hk,lt_irrefl]
 have hf:bA3 p l=(l.take i++[p]++l.drop (i+1),true):=by
  rw[bB9 p l i hlow,List.drop_eq_getElem_cons hi,List.foldl_cons,h1]
  refine bG8 _ _ fun x hx=>?_
  obtain⟨j,hj,hij,rfl⟩:=bI2 hx
  rw[beq_eq_false_iff_ne]
  intro e
  have:=aY0 hr (i:=j) (j:=i) (by simpa [aP] using hj) (by simpa [aP] using hi) (by rw[aC3,aC3,e,hk])
  omega
 unfold aL1
 rw[hf,List.set_eq_take_append_cons_drop,if_pos hi]
 simp
def ins {α:Type} (l:List α) (i:Nat) (x:α):List α:=l.take i++x :: l.drop i
theorem aV8 {p:List UInt8 × β} {l:List (List UInt8 × β)} {i:Nat} (hr:bS (aP l)) (hat:At (aP l) p.1 i) (hk:(aP l)[i]?≠some p.1):aL1 p l=ins l i p:=by
 have hne:∀ j (hj:j<l.length),i≤j→(l[j].1==p.1)=false:=fun j hj hij=>by
  have hjk:j<(aP l).length:=by simpa [aP] using hj
  rw[beq_eq_false_iff_ne]
  intro e
  have ek:(aP l)[j]=p.1:=by rw[aC3];exact e
  rcases (by omega:i=j∨i<j) with h2|h2
  ·subst h2
   exact hk (by rw[List.getElem?_eq_getElem hjk,ek])
  ·have h3:=hr i j h2 hjk
   rw[ek,hat.high i zn AO] at h3
   cases h3
 unfold aL1 ins
 rw[bB9 p l i hat.low]
 rcases Nat.lt_or_ge i l.length with hi|hi
 ·have hlt:lt l[i].1 p.1=false:=by
   have:=hat.high i zn (by simpa [aP] using hi)
   rwa [aC3] at this
  have h1:aE9 p (l.take i,false) l[i]=(l.take i++[p]++[l[i]],true):=by simp[aE9,hlt,hne i hi zn]
  have hf:(l.drop i).foldl (aE9 p) (l.take i,false)=(l.take i++[p]++l.drop i,true):=by
   rw[List.drop_eq_getElem_cons hi,List.foldl_cons,h1,bG8 _ _ fun x hx=>?_]
   ·simp
   ·obtain⟨j,hj,hij,rfl⟩:=bI2 hx
    exact hne j hj AO
  rw[hf]
  simp
 ·rw[List.drop_eq_nil_of_le hi]
  simp
theorem aS4 {α:Type} (l:List α) (i:Nat) (x:α):(ins l i x).length=l.length+1:=by
 unfold ins
 rw[List.length_append,List.length_cons,List.length_take,List.length_drop]
 omega
end
def aJ9 (l:List Pr) (p:Pr):Int:=if aG l≠0 then aG l else aA5 p
def aK0 (l:List Pr) (p:Pr):List Pr × Int:=if aJ9 l p≠0 then ([],aJ9 l p) else if 60<(aL1 p l).length then ([],11) else (aL1 p l,0)
theorem pp_fine {l:List Pr} {p:Pr} (h:aJ9 l p=0):aG l=0∧aA5 p=0:=by
 unfold aJ9 at h
 split at h
 ·rename_i h1;exact absurd h h1
 ·rename_i h1;exact⟨by simpa using h1,h⟩
end Go.Proofs.YtablgnacmpcfeaaGreatDoor
