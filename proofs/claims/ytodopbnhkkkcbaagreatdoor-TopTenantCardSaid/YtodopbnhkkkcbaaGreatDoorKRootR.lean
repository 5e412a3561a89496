/- RootR: Walk: canopyref.sides, of pairs that rise, of which each may be: the bit at which they part, and both sides. Walks: canopyref.rootOf and RootOf; the law TreeRoots. The conditions of each are in its words. -/
import Derived.Test.YtodopbnhkkkcbaaGreatDoorKRoot
import Derived.Test.YtodopbnhkkkcbaaGreatDoorKBase
import Derived.Test.YtodopbnhkkkcbaaGreatDoorKTrees
namespace Go.Proofs.YtodopbnhkkkcbaaGreatDoor
open Go.RowKit
set_option linter.unusedVariables false
set_option linter.unusedSimpArgs false
theorem Own.kept {α:Type} {size:Nat} {R:(Nat→Prop)→World→List Value→α→Prop} {S T:Nat→Prop} {w w':World} {base:Nat} {e:TypeId} {v:Value} {l:List α} (hR:bI R) (h:Own size R S w base e v l) (hb:aC T w w') (hST:∀ b,b<w.heap.size→S b→T b) (hv:∀ b,v.ownBlock=some b→T b):Own size R S w' base e v l:=by
 obtain⟨xs,h1,h2⟩:=h
 refine⟨xs,⟨h1.1,?_⟩,fun i hi=>?_⟩
 ·rcases h1.2 with hn|⟨g,cap,cur,hv',hb',hh,rest⟩
  ·exact .inl hn
  ·refine .inr ⟨g,cap,cur,hv',hb',?_,rest⟩
   rw[hb.block g (hv g (by rw[hv'];rfl)) (Array.getElem?_eq_some_iff.1 hh).1]
   exact hh
 ·have h3:=hR.less _ (fun b=>(S b∧v.ownBlock≠some b)∧T b) w _ _ (fun b hb2 hs=>⟨hs,hST b hb2 hs.1⟩) (h2 i hi)
  have h4:=hR.same _ w w' _ _ ⟨hb.size,fun k hk hk2=>hb.block k hk.2 hk2⟩ h3
  exact hR.less _ _ _ _ _ (fun b _ hs=>hs.1) h4
theorem bX5 {P:Program} {α:Type} {R:(Nat→Prop)→World→List Value→α→Prop} (hR:bI R) {S:Nat→Prop} (w:World) {ops:Array Oper} {rest:List Oper} {o:Oper} {a:Act} {Q:Exit→Act→World→Prop} (hgd:o.guard=none) (s x:Operand) (t:TypeId)
  (ho:o.op=.call { callee:=.builtin .append,args:=#[s,x],argTypes:=#[t,t] })
  (base:Nat) (e:TypeId) (i:TypeInfo) (z:Value) (size bytes:Nat) (ht:P.underlying t=some (.slice e)) (hi:P.info? e=some i) (hz:i.zero=some z)
  (hsize:i.size=size) (hby:i.bytes=bytes) (hzs:z.cells.size=size) (hsz:0<size)
  (v:Value) (l:List α) (hs:a.eval s=v) (hown:Own size R S w base e v l)
  (A:Option Addr) (c:Nat) (cs:List Value) (hx:a.eval x=.slice A 1 c) (hl:cs.length=size) (hsrc:∃ ad,A=some ad∧∀ j u,cs[j]?=some u→w.cell? (ad.add j)=some u) (h1:∀ u ∈ cs,u.oneCell'=true)
  (h63:l.length+1≤maxLen) (hbytes:(l.length+1)*bytes≤140737488355328) (hbase:base≤w.heap.size)
  (d:α) (hd:R (fun b=>S b∧v.ownBlock≠some b) w cs d)
  (h:∀ v' w',Own size R S w' base e v' (l++[d])→Below base w w'→w.grownBy w' v.ownBlock→(v'.ownBlock=v.ownBlock∨v'.ownBlock=some w.heap.size)→wpList P ops Q rest (a.put o.dst v') w'):wpList P ops Q (o :: rest) a w:=by
 obtain⟨xs,hx1,hx2⟩:=hown
 exact aC0 w hgd s x t ho base e i z size bytes ht hi hz hsize hby hzs hsz v l.length xs hs hx1 A 1 c cs hx AO (fun _=>hsrc) h1 h63 hbytes hbase
  fun v' w' g1 g2 g3=>h v' w' (Own.snoc hR hx2 hx1 g1 g2 g3 hd hl) (aA6 hx1 g2 hbase) g2 g3
theorem Own.lts {α:Type} {size:Nat} {R:(Nat→Prop)→World→List Value→α→Prop} {S:Nat→Prop} {w:World} {base:Nat} {e:TypeId} {v:Value} {l:List α} (h:Own size R S w base e v l) {b:Nat} (hb:v.ownBlock=some b):base≤b∧b<w.heap.size:=by
 obtain⟨xs,h1,_⟩:=h
 exact h1.lt b hb
theorem Own.slices {α:Type} {size:Nat} {R:(Nat→Prop)→World→List Value→α→Prop} {S:Nat→Prop} {w:World} {base:Nat} {e:TypeId} {v:Value} {l:List α} (hR:bI R) (h:Own size R S w base e v l):∃ A c,v=.slice A l.length c∧l.length≤c∧SL size R (fun b=>S b∨aB base b) w A l:=by
 have h':Own size R (fun b=>S b∨aB base b) w base e v l:=by
  obtain⟨xs,h1,h2⟩:=h
  exact⟨xs,h1,fun i hi=>hR.less _ _ _ _ _ (fun b _ hs=>⟨.inl hs.1,hs.2⟩) (h2 i hi)⟩
 obtain⟨xs,h1,h2⟩:=h'
 have h1':=h1
 rcases h1.2 with ⟨rfl,h0⟩|⟨g,cap,cur,rfl,hge,hh,hcap,_⟩
 ·have hl:=List.eq_nil_of_length_eq_zero h0
  subst hl
  exact⟨none,0,rfl,zn,SL.nil⟩
 ·refine⟨_,cap,rfl,hcap,fun _=>⟨g,0,rfl,.inr hge,(Array.getElem?_eq_some_iff.1 hh).1,fun i hi=>⟨_,?_,fun j hj=>?_,hR.less _ _ _ _ _ (fun b _ hs=>hs.1) (h2 i hi)⟩⟩⟩
  ·rw[List.length_take,List.length_drop,h1'.1]
   have:(i+1)*size≤l.length*size:=Nat.mul_le_mul_right _ hi
   rw[Nat.add_mul,Nat.one_mul] at this
   omega
  ·have hlt:i*size+j<xs.length:=by
    rw[h1'.1]
    have:(i+1)*size≤l.length*size:=Nat.mul_le_mul_right _ hi
    rw[Nat.add_mul,Nat.one_mul] at this
    omega
   have hc:=h1'.cells (g:=g) rfl (i*size+j) xs[i*size+j] (List.getElem?_eq_getElem hlt)
   rw[bC] at hc
   rw[Nat.add_assoc,hc]
   rw[List.getElem?_take_of_lt hj,List.getElem?_drop,List.getElem?_eq_getElem hlt]
theorem cS0 {α:Type} {size:Nat} {R:(Nat→Prop)→World→List Value→α→Prop} {S:Nat→Prop} {w:World} {base:Nat} {e:TypeId} {v:Value} {l:List α} (h:Own size R S w base e v l):∃ A c,v=.slice A l.length c:=by
 obtain⟨xs,h1,_⟩:=h
 rcases h1.2 with ⟨rfl,h0⟩|⟨g,cap,cur,rfl,_⟩
 ·exact⟨none,0,by rw[h0]⟩
 ·exact⟨_,cap,rfl⟩
def RetCut (S:Nat→Prop) (w:World) (d:Nat) (x y:List Pr) (e:Ending) (w':World):Prop :=
 ∃ A a B b,e=.returned (.tuple #[.int .i64 (d:Int),.slice A x.length a,.slice B y.length b])∧x.length≤a∧y.length≤b∧Ps S w' A x∧Ps S w' B y∧Below w.heap.size w w'
end Go.Proofs.YtodopbnhkkkcbaaGreatDoor
