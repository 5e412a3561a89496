/- RootR: Walk: canopyref.sides, of pairs that rise, of which each may be: the bit at which they part, and both sides. Walks: canopyref.rootOf and RootOf; the law TreeRoots. Walks: the roots of tenants, the root of a forest; the law ForestRoots. The conditions of each are in its words. -/
import Derived.Test.YtablgnacmpcfeaaGreatDoorKRoot
import Derived.Test.YtablgnacmpcfeaaGreatDoorKBase
import Derived.Test.YtablgnacmpcfeaaGreatDoorKTrees
import Derived.Test.YtablgnacmpcfeaaGreatDoorKForestW
import Derived.Test.YtablgnacmpcfeaaGreatDoorKTreeW
import Derived.Test.YtablgnacmpcfeaaGreatDoorKForest
namespace Go.Proofs.YtablgnacmpcfeaaGreatDoor
open Go.RowKit
set_option linter.unusedVariables false
set_option linter.unusedSimpArgs false
set_option maxRecDepth 100000
set_option maxHeartbeats 8000000
theorem bX5 {P:Program} {α:Type} {R:(Nat→Prop)→World→List Value→α→Prop} (hR:bI R) {S:Nat→Prop} (w:World) {ops:Array Oper} {rest:List Oper} {o:Oper} {a:Act} {Q:Exit→Act→World→Prop} (hgd:o.guard=none) (s x:Operand) (t:TypeId)
  (ho:o.op=.call { callee:=.builtin .append,args:=#[s,x],argTypes:=#[t,t] })
  (base:Nat) (e:TypeId) (i:TypeInfo) (z:Value) (size bytes:Nat) (ht:P.underlying t=some (.slice e)) (hi:P.info? e=some i) (hz:i.zero=some z)
  (hsize:i.size=size) (hby:i.bytes=bytes) (hzs:z.cells.size=size) (hsz:0<size)
  (v:Value) (l:List α) (hs:a.eval s=v) (hown:Own size R S w base e v l)
  (A:Option Addr) (c:Nat) (cs:List Value) (hx:a.eval x=.slice A 1 c) (hl:cs.length=size) (hsrc:∃ ad,A=some ad∧∀ j u,cs[j]?=some u→w.cell? (ad.add j)=some u) (h1:∀ u ∈ cs,u.oneCell'=true)
  (h63:l.length+1≤maxLen) (hbytes:(l.length+1)*bytes≤140737488355328) (hbase:base≤w.heap.size)
  (d:α) (hd:R (fun b=>S b∧v.ownBlock≠some b) w cs d)
  (h:∀ v' w',Own size R S w' base e v' (l++[d])→Below base w w'→w.grownBy w' v.ownBlock→(v'.ownBlock=v.ownBlock∨v'.ownBlock=some w.heap.size)→wpList P ops Q rest (a.put o.dst v') w'):wpList P ops Q (o :: rest) a w:=by
 obtain⟨xs,hx1,hx2⟩:=hown
 exact aC0 w hgd s x t ho base e i z size bytes ht hi hz hsize hby hzs hsz v l.length xs hs hx1 A 1 c cs hx AO (fun _=>hsrc) h1 h63 hbytes hbase
  fun v' w' g1 g2 g3=>h v' w' (Own.snoc hR hx2 hx1 g1 g2 g3 hd hl) (aA6 hx1 g2 hbase) g2 g3
theorem Own.lts {α:Type} {size:Nat} {R:(Nat→Prop)→World→List Value→α→Prop} {S:Nat→Prop} {w:World} {base:Nat} {e:TypeId} {v:Value} {l:List α} (h:Own size R S w base e v l) {b:Nat} (hb:v.ownBlock=some b):base≤b∧b<w.heap.size:=by
 obtain⟨xs,h1,_⟩:=h
 exact h1.lt b hb
theorem Own.slices {α:Type} {size:Nat} {R:(Nat→Prop)→World→List Value→α→Prop} {S:Nat→Prop} {w:World} {base:Nat} {e:TypeId} {v:Value} {l:List α} (hR:bI R) (h:Own size R S w base e v l):∃ A c,v=.slice A l.length c∧l.length≤c∧SL size R (fun b=>S b∨aB base b) w A l:=by
 have h':Own size R (fun b=>S b∨aB base b) w base e v l:=by
  obtain⟨xs,h1,h2⟩:=h
  exact⟨xs,h1,fun i hi=>hR.less _ _ _ _ _ (fun b _ hs=>⟨.inl hs.1,hs.2⟩) (h2 i hi)⟩
 obtain⟨xs,h1,h2⟩:=h'
 have h1':=h1
 rcases h1.2 with ⟨rfl,h0⟩|⟨g,cap,cur,rfl,hge,hh,hcap,_⟩
 ·have hl:=List.eq_nil_of_length_eq_zero h0
  subst hl
  exact⟨none,0,rfl,zn,SL.nil⟩
 ·refine⟨_,cap,rfl,hcap,fun _=>⟨g,0,rfl,.inr hge,(Array.getElem?_eq_some_iff.1 hh).1,fun i hi=>⟨_,?_,fun j hj=>?_,hR.less _ _ _ _ _ (fun b _ hs=>hs.1) (h2 i hi)⟩⟩⟩
  ·rw[List.length_take,List.length_drop,h1'.1]
   have:(i+1)*size≤l.length*size:=Nat.mul_le_mul_right _ hi
   rw[Nat.add_mul,Nat.one_mul] at this
   omega
  ·have hlt:i*size+j<xs.length:=by
    rw[h1'.1]
    have:(i+1)*size≤l.length*size:=Nat.mul_le_mul_right _ hi
    rw[Nat.add_mul,Nat.one_mul] at this
    omega
   have hc:=h1'.cells (g:=g) rfl (i*size+j) xs[i*size+j] (List.getElem?_eq_getElem hlt)
   rw[bC] at hc
   rw[Nat.add_assoc,hc]
   rw[List.getElem?_take_of_lt hj,List.getElem?_drop,List.getElem?_eq_getElem hlt]
theorem cS0 {α:Type} {size:Nat} {R:(Nat→Prop)→World→List Value→α→Prop} {S:Nat→Prop} {w:World} {base:Nat} {e:TypeId} {v:Value} {l:List α} (h:Own size R S w base e v l):∃ A c,v=.slice A l.length c:=by
 obtain⟨xs,h1,_⟩:=h
 rcases h1.2 with ⟨rfl,h0⟩|⟨g,cap,cur,rfl,_⟩
 ·exact⟨none,0,by rw[h0]⟩
 ·exact⟨_,cap,rfl⟩
def RetCut (S:Nat→Prop) (w:World) (d:Nat) (x y:List Pr) (e:Ending) (w':World):Prop :=
 ∃ A a B b,e=.returned (.tuple #[.int .i64 (d:Int),.slice A x.length a,.slice B y.length b])∧x.length≤a∧y.length≤b∧Ps S w' A x∧Ps S w' B y∧Below w.heap.size w w'
def aH9 (t:Tn):Pr:=(t.1,bK t.2)
theorem bR6 {n:List UInt8} (h:aI n=0):aE n=0∧n.length≤8:=by
 unfold aI at h
 unfold aE
 split at h
 ·exact⟨by rw[if_pos AO],AO⟩
 ·omega
theorem bR7 {l:List Tn} (h:aL l=0):aG (l.map aH9)=0:=by
 obtain⟨h1,h2,h3⟩:=(aB8 l).1 h
 refine (aE0 _).2 ⟨by rw[List.length_map];omega,fun p hp=>?_,?_⟩
 ·obtain⟨t,ht,rfl⟩:=List.mem_map.1 hp
  unfold aA5 aH9
  rw[if_neg (by have:=aR0 t.2;simp only[];omega)]
  exact (bR6 (aS5.1 (h2 t ht)).1).1
 ·have e:aP (l.map aH9)=aP l:=by simp[aP,aH9,Function.comp_def]
  rw[e]
  exact h3
def aJ6 (l:List Tn):List UInt8 × Int:=if aL l=0 then (bK (l.map aH9),0) else ([],aL l)
theorem cH6 {l:List Pr} (h:aG l=0):bF5 l=(bK l,0):=by rw[bF5,if_pos h]
def cS3 (l:List Tn):Prop:=∀ t ∈ l,aG t.2=0∧t.1.length≤big
theorem bR8 {l:List Tn} (h:aL l=0):cS3 l:=fun t ht=>by
 obtain⟨_,h2,_⟩:=(aB8 l).1 h
 have:=aS5.1 (h2 t ht)
 exact⟨this.2.2,by have:=(bR6 this.1).2;unfold big;omega⟩
theorem bA0 (w:World) (hT:bD w) (A:Option Addr) (l:List Tn) (c:Nat) (ha:Ts All w A l) (h8:l.length≤8) (hf:cS3 l) :
  Calls Tryz.prog 226 #[.slice A l.length c] w (aT3 2 aU2 w (l.map aH9)):=by
 obtain⟨i0,hi0,hy0,hy1,hy2⟩:=info_parts info_pair
 have HT:=zh hT
 have Ha:=zh ha
 have Hf:=zh hf
 clear ha hf hT
 go_enter Tryz.func226,Tryz.ntmps226
 go_wp2
 go_loopw [3,10] (fun v i wr=>∃ k:Nat,k≤l.length∧i=.int .i64 k∧Own 2 aU2 (aB w.heap.size) wr w.heap.size 53 v ((l.take k).map aH9)∧Below w.heap.size w wr) (fun _ i _=>l.length - (intOf i).toNat)
 case atStart=>exact⟨0,AO,rfl,Own.nil _ _ _,Below.refl _ _⟩
 case round =>
  obtain⟨k,hk,rfl,hown,hbel⟩:=hrel
  have Hbel:=zh hbel
  have Hown:=zh hown
  have hbz:=hbel.size
  clear hown hbel
  by_cases hlt:k<l.length
  ·have hki:(k:Int)<(l.length:Int):=by omega
   have mk:IntKind.i64.wrap ((k:Int)+1)=(k:Int)+1:=IntWalk.i64_in _ AO
   obtain⟨ab,ao,K,c1,V,d1,rfl,_,hal,hc1,hc2,hs1,hs2,hbx,hb2,hcd⟩:=aN8 (Ha.out.below tenR_stays Hbel.out) hlt
   have Hs1:=zh hs1
   have Hs2:=zh hs2
   have hfx:=(Hf.out _ (List.getElem_mem hlt)).1
   have Hrt:=zh (cH6 hfx)
   have Htr:=zh (cA4 hfx)
   have H60:=zh (aG5 hfx).1
   have Hsn:=zh (show (l.take (k+1)).map aH9=(l.take k).map aH9++[aH9 l[k]] by rw[aC8 l k hlt,List.map_append];rfl)
   have HM:=zh (show ((l.take k).map aH9).length≤8 by rw[List.length_map,List.length_take];omega)
   generalize (l.take k).map aH9=M at *
   generalize l[k]=x at *
   clear hs1 hs2 hfx
   have Hbox:=zh (show ∀ W,Below (wr.heap.size+1) (wr.alloc (.cells #[.slice K x.1.length c1,.slice V x.2.length d1] 165)) W→W.cell? ⟨wr.heap.size,0,none⟩=some (.slice K x.1.length c1)∧W.cell? ⟨wr.heap.size,1,none⟩=some (.slice V x.2.length d1)∧Below w.heap.size w W∧wr.heap.size<W.heap.size from fun W hW=>by
    obtain⟨q0,q1,_⟩:=bF ((hW.block wr.heap.size AO).trans (aK wr _ _))
    exact⟨q0,q1,(Hbel.out.alloc hbz _).trans (hW.mono AO),by have:=hW.size;simp at this;omega⟩)
   have Hkk:∀ W,Below (wr.heap.size+1) (wr.alloc (.cells #[.slice K x.1.length c1,.slice V x.2.length d1] 165)) W→Below wr.heap.size wr W:=fun W hW=>((Below.refl _ _).alloc zn _).trans (hW.mono AO)
   go_wp2_with (first
    | (go_at_call 225;(with_reducible refine (aQ3 _ ?hT V x.2 d1 ?ha hcd).mono ?_);(case hT=>(refine HT.out.below ?_;refine Hbel.out.alloc hbz _));(case ha=>(refine (Hs2.out.z pairR_stays).below pairR_stays ?_;exact BX));rw[Hrt.out];rintro e w1 ⟨B1,b1,rfl,gs1,hbw1'⟩;have hbw1:=hbw1'.mono (show wr.heap.size+1≤_ by simp);obtain⟨q0,q1,hw1,hz1⟩:=Hbox.out w1 hbw1)
    | (go_at_call 49;(with_reducible refine (aE2 _ K x.1 c1 ?ha hbx).mono ?_);(case ha=>exact (Hs1.out.bz.bbelow (show Below wr.heap.size wr w1 from ((Below.refl _ _).alloc zn _).trans (hbw1.mono AO))));rintro e w2 ⟨A2,a2,rfl,gs2,hbw2⟩;have hw2:=hw1.next hbw2 hw1.size;have hz2:=hbw2.size)
    | (at_builtin;refine aM3 pairR_stays (S:=aB w.heap.size) _ rfl _ _ _ rfl w.heap.size 53 i0 _ 2 48 Tryz.underlying50 hi0 hy0 hy1 hy2 rfl ZD9 _ M rfl ?hown _ _ [.slice A2 x.1.length a2,.slice B1 (bK x.2).length b1] rfl rfl (aE6 _ _ [.slice A2 x.1.length a2,.slice B1 (bK x.2).length b1] _ ZH2) ZE8 ?hm ?hby ?hba (x.1,bK x.2) ?hd ?_;(case hown=>exact ((Hown.out.below pairR_stays (Hkk w1 hbw1)).below pairR_stays hbw2).same pairR_stays ((aC.refl _ _).alloc _));(case hm=>(have:=HM.out;simp only[maxLen];omega));(case hby=>(have:=HM.out;omega));(case hba=>(simp;omega));(case hd=>(refine bC9 (p:=(x.1,bK x.2)) (n:=wr.heap.size) (gs2.blo AZ) ((gs1.blo AZ).bbelow hbw2) hbx (by rw[aR0];simp[big]) ((aC.refl _ _).alloc _) hbz (Hown.out.apart _ zn)));intro v1 w3 hown3 hbw3;have hw3:Below w.heap.size w w3:=(hw2.alloc AO _).trans hbw3))
   go_roundw
   case rel=>exact⟨k+1,AO,by go_num,by rw[Hsn.out];exact hown3,hw3⟩
   case measure=>simp[intOf];omega
  ·obtain rfl:k=l.length:=by omega
   have hki:¬ (l.length:Int)<(l.length:Int):=by omega
   have h:=Hown.out
   rw[List.take_length] at h
   obtain⟨A1,a1,rfl,hcap,hs⟩:=h.readc pairR_stays
   have Hcap:=zh hcap
   have Hs:=zh hs
   clear h hcap hs Hown hk hlt
   go_wp2
   go_ret
   exact⟨A1,a1,by rw[List.length_map];rfl,Hcap.out,Hs.out,Hbel.out⟩
theorem cV4 (w:World) (hT:bD w) (A:Option Addr) (l:List Tn) (c:Nat) (ha:Ps All w A (l.map aH9)) (hc:(l.map aH9).length≤c) (hf:aG (l.map aH9)=0):Calls Tryz.prog 225 #[.slice A l.length c] w (bD2 w (bK (l.map aH9),0)):=by
 have:=aQ3 w hT A (l.map aH9) c ha hc
 rw[cH6 hf,List.length_map] at this
 exact this
theorem bU1 (w:World) (hT:bD w) (A:Option Addr) (l:List Tn) (c:Nat) (ha:Ts All w A l):Calls Tryz.prog 172 #[.slice A l.length c] w (bD2 w (aJ6 l)):=by
 have HT:=zh hT
 have Ha:=zh ha
 clear ha hT
 by_cases hf:aL l=0
 ·have Hfn:=zh (bR8 hf)
  have H8:=zh ((aB8 l).1 hf).1
  have Hrf:=zh (bR7 hf)
  have Hv:=zh (show aJ6 l=(bK (l.map aH9),0) by rw[aJ6,if_pos hf])
  have Hf:=zh hf
  clear hf
  go_enter Tryz.func172,Tryz.ntmps172
  go_wp2_with (first
   | (go_at_call 60;(with_reducible refine (aD6 _ A l c Ha.out).mono ?_);rintro e1 w1 ⟨rfl,hb1⟩;rw[Hf.out])
   | (go_at_call 226;(with_reducible refine (bA0 _ ?hT A l c ?ha H8.out Hfn.out).mono ?_);(case hT=>exact HT.out.below hb1);(case ha=>exact Ha.out.below tenR_stays hb1);rintro e w2 ⟨A2,a2,rfl,hcap,hs2,hb2⟩;have hq2:=hb1.next hb2 hb1.size)
   | (go_at_call 225;(with_reducible refine (Calls.mono (cV4 _ ?hT A2 l a2 ?ha hcap Hrf.out) ?_));(case hT=>exact HT.out.below hq2);(case ha=>exact hs2.z pairR_stays);rintro e w3 ⟨A3,a3,rfl,hs3,hb3⟩))
  go_ret2
  rw[Hv.out]
  exact⟨A3,a3,rfl,hs3.blo hq2.size,hq2.next hb3 hq2.size⟩
 ·have Hv:=zh (show aJ6 l=([],aL l) by rw[aJ6,if_neg hf])
  have hb:(aL l != 0)=true:=by simpa using hf
  clear hf
  go_enter Tryz.func172,Tryz.ntmps172
  go_wp2_with ((go_at_call 60;(with_reducible refine (aD6 _ A l c Ha.out).mono ?_);rintro e1 w1 ⟨rfl,hb1⟩))
  go_ret2
  rw[Hv.out]
  exact⟨none,0,rfl,SL.nil,hb1⟩
end Go.Proofs.YtablgnacmpcfeaaGreatDoor
