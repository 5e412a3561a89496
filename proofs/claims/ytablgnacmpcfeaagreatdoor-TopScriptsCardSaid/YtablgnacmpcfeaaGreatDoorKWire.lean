/- Wire: Requests: words for memory; what is wrong with one. Walks: RequestFault. Walks: requests copied, and held against each other. Walks: wire.Check. The conditions of each are in its words. -/
import Derived.Test.YtablgnacmpcfeaaGreatDoorKBase
namespace Go.Proofs.YtablgnacmpcfeaaGreatDoor
open Go.RowKit
set_option linter.unusedVariables false
set_option linter.unusedSimpArgs false
set_option maxRecDepth 100000
set_option maxHeartbeats 8000000
structure Rq where
 kind:Int
 name:List UInt8
 key:List UInt8
 last:List UInt8
 value:List UInt8
def RqR (S:Nat→Prop) (w:World) (cs:List Value) (r:Rq):Prop :=
 ∃ A a B b C c D d,cs=[.int .i64 r.kind,.slice A r.name.length a,.slice B r.key.length b,.slice C r.last.length c,.slice D r.value.length d]∧Bs S w A r.name∧Bs S w B r.key∧Bs S w C r.last∧Bs S w D r.value∧r.name.length≤big∧r.key.length≤big∧r.last.length≤big∧r.value.length≤big
theorem bR {w:World} {g:Nat} {t:TypeId} {a b c d e:Value} (h:w.heap[g]?=some (.cells #[a,b,c,d,e] t (0,0))) :
  (w.cell? ⟨g,0,none⟩=some a∧w.cell? ⟨g,1,none⟩=some b∧w.cell? ⟨g,2,none⟩=some c∧w.cell? ⟨g,3,none⟩=some d∧w.cell? ⟨g,4,none⟩=some e)∧(w.frozen? ⟨g,0,none⟩=false∧w.frozen? ⟨g,1,none⟩=false∧w.frozen? ⟨g,2,none⟩=false∧w.frozen? ⟨g,3,none⟩=false∧w.frozen? ⟨g,4,none⟩=false) :=
 ⟨⟨aA (cs:=[a,b,c,d,e]) h 0,aA (cs:=[a,b,c,d,e]) h 1,aA (cs:=[a,b,c,d,e]) h 2,aA (cs:=[a,b,c,d,e]) h 3,aA (cs:=[a,b,c,d,e]) h 4⟩,aD (cs:=[a,b,c,d,e]) h 0,aD (cs:=[a,b,c,d,e]) h 1,aD (cs:=[a,b,c,d,e]) h 2,aD (cs:=[a,b,c,d,e]) h 3,aD (cs:=[a,b,c,d,e]) h 4⟩
def hasT:List Nat:=[0,0,3,7,11,3,0,0,3]
def bO (k:Nat):Nat:=hasT.getD k 0
def named (k:Nat):Bool:=bO k != 0
def aV (r:Rq) (i:Nat):List UInt8:=if i=0 then r.name else if i=1 then r.key else if i=2 then r.last else r.value
def aG3 (h:Nat) (r:Rq) (i:Nat):Int:=if h / 2 ^ i % 2=0∧0<(aV r i).length then 4 else 0
def aG7 (h:Nat) (r:Rq):Int:=aB0 (aG3 h r) 4 0
theorem bX3 {h:Nat} {r:Rq} {j m:Nat} (hm:m=3 - j) (hj:j<4) (he:aG3 h r j=0):aB0 (aG3 h r) (4 - j) j=aB0 (aG3 h r) m (j+1):=by
 subst hm
 rw[show 4 - j=3 - j+1 by omega,aB0,if_neg (by simpa using he)]
theorem aO9 {h:Nat} {r:Rq} {j:Nat} (hj:j<4) (hb:h / 2 ^ j % 2=1):aB0 (aG3 h r) (4 - j) j=aB0 (aG3 h r) (4 - (j+1)) (j+1) :=
 bX3 AO hj (by unfold aG3;rw[if_neg AO])
theorem aM1 {h:Nat} {r:Rq} {j:Nat} (hj:j<4) (hp:¬ 0<(aV r j).length):aB0 (aG3 h r) (4 - j) j=aB0 (aG3 h r) (4 - (j+1)) (j+1) :=
 bX3 AO hj (by unfold aG3;rw[if_neg AO])
theorem aP0 {h:Nat} {r:Rq} {j:Nat} (hj:j<4) (hb:h / 2 ^ j % 2=0) (hp:0<(aV r j).length):aB0 (aG3 h r) (4 - j) j=4:=by
 have e:aG3 h r j=4:=by unfold aG3;rw[if_pos ⟨hb,hp⟩]
 rw[show 4 - j=3 - j+1 by omega,aB0,if_pos (by rw[e];decide),e]
def aA9 (h:Nat) (r:Rq):Int :=
 if h % 2=0 then 0 else if aI r.name≠0 then aI r.name else if aE r.key≠0 then aE r.key else if h / 4 % 2=0 then 0 else aE r.last
def aB4 (h:Nat) (r:Rq):Int:=if aA9 h r≠0 then aA9 h r else if 32<r.value.length then 1 else aG7 h r
def aQ (r:Rq):Int:=if ¬ (1≤r.kind∧r.kind≤8) then 5 else aB4 (bO r.kind.toNat) r
theorem cB0 (w:World) (a b:Obj):((w.alloc a).alloc b).heap[w.heap.size]?=some a∧((w.alloc a).alloc b).heap[w.heap.size+1]?=some b∧((w.alloc a).alloc b).heap.size=w.heap.size+2∧Below w.heap.size w ((w.alloc a).alloc b):=by
 refine⟨?_,?_,by simp,((Below.refl _ _).alloc zn _).alloc ZH2 _⟩
 ·rw[heap_alloc_old _ _ ZH2,heap_alloc_new]
 ·have:=heap_alloc_new (w.alloc a) b
  simpa using this
theorem bH6 {k:Nat} (h1:1≤k) (h8:k≤8):bO k=0∨bO k=3∨bO k=7∨bO k=11:=by
 have:k=1∨k=2∨k=3∨k=4∨k=5∨k=6∨k=7∨k=8:=by omega
 rcases this with rfl|rfl|rfl|rfl|rfl|rfl|rfl|rfl <;> decide
def bL (w:World):Prop:=∀ k,k<9→w.cell? ⟨0,k,none⟩=some (.int .i64 ((bO k:Nat):Int))
theorem bL.below {w w':World} (h:bL w) (hb:Below w.heap.size w w'):bL w':=fun k hk=>(hb.cell (World.block_lt_of_cell? w _ (h k hk))).trans (h k hk)
theorem cR7 (r:Rq):aA9 0 r=0:=rfl
theorem cB1 (r:Rq):aA9 3 r=if aI r.name≠0 then aI r.name else aE r.key:=by
 by_cases h:aE r.key=0 <;> simp[aA9,h]
theorem bL7 (r:Rq):aA9 7 r=if aI r.name≠0 then aI r.name else if aE r.key≠0 then aE r.key else aE r.last:=by
 simp[aA9]
theorem bQ9 (r:Rq):aA9 11 r=if aI r.name≠0 then aI r.name else aE r.key:=by
 by_cases h:aE r.key=0 <;> simp[aA9,h]
theorem aL7 {h:Nat} {r:Rq} (hn:aA9 h r≠0):aB4 h r=aA9 h r:=by unfold aB4;rw[if_pos hn]
theorem aX1 {h:Nat} {r:Rq} (hn:aA9 h r=0) (hv:32<r.value.length):aB4 h r=1:=by unfold aB4;rw[if_neg (by simp[hn]),if_pos hv]
theorem aX2 {h:Nat} {r:Rq} (hn:aA9 h r=0) (hv:r.value.length≤32):aB4 h r=aG7 h r:=by unfold aB4;rw[if_neg (by simp[hn]),if_neg AO]
theorem cG9 (w:World) (hT:bL w) (A B C D:Option Addr) (n e l v:List UInt8) (a b c d k:Nat) (hk1:1≤k) (hk8:k≤8) (hh:bO k=0) :
  Calls Tryz.prog 50 #[.agg #[.int .i64 k,.slice A n.length a,.slice B e.length b,.slice C l.length c,.slice D v.length d]] w (bQ w (.int .i64 (aB4 0 ⟨k,n,e,l,v⟩))):=by
 have hcell:(w.alloc (.cells #[.int .i64 k,.slice A n.length a,.slice B e.length b,.slice C l.length c,.slice D v.length d] 48)).cell? ⟨0,k,none⟩=some (.int .i64 0):=by
  have h1:=hT k AO
  rw[hh] at h1
  exact (((Below.refl w.heap.size w).alloc zn _).cell (World.block_lt_of_cell? w _ (hT k AO))).trans h1
 have hka:¬ (k:Int)<1:=by omega
 have hkb:¬ (8:Int)<(k:Int):=by omega
 have hkc:(0:Int)≤(k:Int):=by omega
 have hkd:(k:Int)<9:=by omega
 have hke:k≠0:=by omega
 have hkf:k<9:=by omega
 have c0_1:bits .and .i64 0 1=0:=by decide
 have c0_4:bits .and .i64 0 4=0:=by decide
 have c0_1:bits .and .i64 0 1=0:=by decide
 have c0_1:bits .and .i64 0 1=0:=by decide
 have c0_1:bits .and .i64 0 1=0:=by decide
 have x0:∀ W:World,(Instr.index 181 (.agg #[.slice A n.length a,.slice B e.length b,.slice C l.length c,.slice D v.length d]) (.int .i64 0)).run Tryz.prog W=.ok (.slice A n.length a) W:=fun _=>by kernel_rfl
 have x1:∀ W:World,(Instr.index 181 (.agg #[.slice A n.length a,.slice B e.length b,.slice C l.length c,.slice D v.length d]) (.int .i64 1)).run Tryz.prog W=.ok (.slice B e.length b) W:=fun _=>by kernel_rfl
 have x2:∀ W:World,(Instr.index 181 (.agg #[.slice A n.length a,.slice B e.length b,.slice C l.length c,.slice D v.length d]) (.int .i64 2)).run Tryz.prog W=.ok (.slice C l.length c) W:=fun _=>by kernel_rfl
 have x3:∀ W:World,(Instr.index 181 (.agg #[.slice A n.length a,.slice B e.length b,.slice C l.length c,.slice D v.length d]) (.int .i64 3)).run Tryz.prog W=.ok (.slice D v.length d) W:=fun _=>by kernel_rfl
 clear hT hh
 by_cases hv:32<v.length
 ·have Hv:=zh (aX1 (r:=⟨k,n,e,l,v⟩) (cR7 _) hv)
  have hv':decide ((32:Int)<(v.length:Int))=true:=decide_eq_true AO
  go_enter Tryz.func50,Tryz.ntmps50
  go_wp2_with (first
    | (go_at_call 90;refine (aA3 _ A n a).mono ?_;rintro e1 w1 ⟨rfl,rfl⟩)
    | (go_at_call 91;(with_reducible refine (aF _ B e b).mono ?_);rintro e1 w1 ⟨rfl,rfl⟩)
    | (go_at_call 91;(with_reducible refine (aF _ C l c).mono ?_);rintro e1 w1 ⟨rfl,rfl⟩))
  go_ret
  exact⟨aM ZH1,BE⟩
 ·have Hv:=zh (aX2 (r:=⟨k,n,e,l,v⟩) (cR7 _) (by show v.length≤32;omega))
  have hv':decide ((32:Int)<(v.length:Int))=false:=decide_eq_false AO
  go_enter Tryz.func50,Tryz.ntmps50
  go_wp2_with (first
    | (go_at_call 90;refine (aA3 _ A n a).mono ?_;rintro e1 w1 ⟨rfl,rfl⟩)
    | (go_at_call 91;(with_reducible refine (aF _ B e b).mono ?_);rintro e1 w1 ⟨rfl,rfl⟩)
    | (go_at_call 91;(with_reducible refine (aF _ C l c).mono ?_);rintro e1 w1 ⟨rfl,rfl⟩))
  go_loopw [58] (fun i wr=>∃ j:Nat,j≤4∧i=.int .i64 j∧aB0 (aG3 0 ⟨k,n,e,l,v⟩) (4 - j) j=aG7 0 ⟨k,n,e,l,v⟩∧Below w.heap.size w wr) (fun i _=>4 - (intOf i).toNat)
  case atStart=>exact⟨0,AO,rfl,rfl,BE⟩
  case round =>
   obtain⟨j,hj,rfl,hval,hbel⟩:=hrel
   have Hval:=zh hval
   have Hbel:=zh hbel
   clear hval hbel
   rcases (by omega:j=0∨j=1∨j=2∨j=3∨j=4) with rfl|rfl|rfl|rfl|rfl
   ·by_cases hp:0<n.length
    ·have hp':decide ((0:Int)<(n.length:Int))=true:=decide_eq_true AO
     go_wp2
     go_ret
     exact⟨aM (by rw[Hv.out,← Hval.out,aP0 (h:=0) (r:=⟨k,n,e,l,v⟩) (j:=0) ZD9 ZD9 (by exact hp)]),Hbel.out⟩
    ·have hp':decide ((0:Int)<(n.length:Int))=false:=decide_eq_false AO
     have Hp:=zh hp
     go_wp2
     go_roundw
     case rel=>exact⟨1,AO,by go_num,by rw[← Hval.out,aM1 (h:=0) (r:=⟨k,n,e,l,v⟩) (j:=0) ZD9 (by exact Hp.out)],Hbel.out⟩
     case measure=>simp[intOf]
   ·by_cases hp:0<e.length
    ·have hp':decide ((0:Int)<(e.length:Int))=true:=decide_eq_true AO
     go_wp2
     go_ret
     exact⟨aM (by rw[Hv.out,← Hval.out,aP0 (h:=0) (r:=⟨k,n,e,l,v⟩) (j:=1) ZD9 ZD9 (by exact hp)]),Hbel.out⟩
    ·have hp':decide ((0:Int)<(e.length:Int))=false:=decide_eq_false AO
     have Hp:=zh hp
     go_wp2
     go_roundw
     case rel=>exact⟨2,AO,by go_num,by rw[← Hval.out,aM1 (h:=0) (r:=⟨k,n,e,l,v⟩) (j:=1) ZD9 (by exact Hp.out)],Hbel.out⟩
     case measure=>simp[intOf]
   ·by_cases hp:0<l.length
    ·have hp':decide ((0:Int)<(l.length:Int))=true:=decide_eq_true AO
     go_wp2
     go_ret
     exact⟨aM (by rw[Hv.out,← Hval.out,aP0 (h:=0) (r:=⟨k,n,e,l,v⟩) (j:=2) ZD9 ZD9 (by exact hp)]),Hbel.out⟩
    ·have hp':decide ((0:Int)<(l.length:Int))=false:=decide_eq_false AO
     have Hp:=zh hp
     go_wp2
     go_roundw
     case rel=>exact⟨3,AO,by go_num,by rw[← Hval.out,aM1 (h:=0) (r:=⟨k,n,e,l,v⟩) (j:=2) ZD9 (by exact Hp.out)],Hbel.out⟩
     case measure=>simp[intOf]
   ·by_cases hp:0<v.length
    ·have hp':decide ((0:Int)<(v.length:Int))=true:=decide_eq_true AO
     go_wp2
     go_ret
     exact⟨aM (by rw[Hv.out,← Hval.out,aP0 (h:=0) (r:=⟨k,n,e,l,v⟩) (j:=3) ZD9 ZD9 (by exact hp)]),Hbel.out⟩
    ·have hp':decide ((0:Int)<(v.length:Int))=false:=decide_eq_false AO
     have Hp:=zh hp
     go_wp2
     go_roundw
     case rel=>exact⟨4,AO,by go_num,by rw[← Hval.out,aM1 (h:=0) (r:=⟨k,n,e,l,v⟩) (j:=3) ZD9 (by exact Hp.out)],Hbel.out⟩
     case measure=>simp[intOf]
   ·go_wp2
    go_ret
    exact⟨aM (by rw[Hv.out,← Hval.out];rfl),Hbel.out⟩
theorem cH0 (w:World) (hT:bL w) (A B C D:Option Addr) (n e l v:List UInt8) (a b c d k:Nat) (hk1:1≤k) (hk8:k≤8) (hh:bO k=3) :
  Calls Tryz.prog 50 #[.agg #[.int .i64 k,.slice A n.length a,.slice B e.length b,.slice C l.length c,.slice D v.length d]] w (bQ w (.int .i64 (aB4 3 ⟨k,n,e,l,v⟩))):=by
 have hcell:(w.alloc (.cells #[.int .i64 k,.slice A n.length a,.slice B e.length b,.slice C l.length c,.slice D v.length d] 48)).cell? ⟨0,k,none⟩=some (.int .i64 3):=by
  have h1:=hT k AO
  rw[hh] at h1
  exact (((Below.refl w.heap.size w).alloc zn _).cell (World.block_lt_of_cell? w _ (hT k AO))).trans h1
 have hka:¬ (k:Int)<1:=by omega
 have hkb:¬ (8:Int)<(k:Int):=by omega
 have hkc:(0:Int)≤(k:Int):=by omega
 have hkd:(k:Int)<9:=by omega
 have hke:k≠0:=by omega
 have hkf:k<9:=by omega
 have c3_1:bits .and .i64 3 1=1:=by decide
 have c3_4:bits .and .i64 3 4=0:=by decide
 have c1_1:bits .and .i64 1 1=1:=by decide
 have c0_1:bits .and .i64 0 1=0:=by decide
 have c0_1:bits .and .i64 0 1=0:=by decide
 have x0:∀ W:World,(Instr.index 181 (.agg #[.slice A n.length a,.slice B e.length b,.slice C l.length c,.slice D v.length d]) (.int .i64 0)).run Tryz.prog W=.ok (.slice A n.length a) W:=fun _=>by kernel_rfl
 have x1:∀ W:World,(Instr.index 181 (.agg #[.slice A n.length a,.slice B e.length b,.slice C l.length c,.slice D v.length d]) (.int .i64 1)).run Tryz.prog W=.ok (.slice B e.length b) W:=fun _=>by kernel_rfl
 have x2:∀ W:World,(Instr.index 181 (.agg #[.slice A n.length a,.slice B e.length b,.slice C l.length c,.slice D v.length d]) (.int .i64 2)).run Tryz.prog W=.ok (.slice C l.length c) W:=fun _=>by kernel_rfl
 have x3:∀ W:World,(Instr.index 181 (.agg #[.slice A n.length a,.slice B e.length b,.slice C l.length c,.slice D v.length d]) (.int .i64 3)).run Tryz.prog W=.ok (.slice D v.length d) W:=fun _=>by kernel_rfl
 clear hT hh
 by_cases hn:aI n=0
 ·have Hn:=zh hn
  by_cases hk:aE e=0
  ·have Hk:=zh hk
   have Hnm:=zh (show aA9 3 ⟨k,n,e,l,v⟩=0 by rw[cB1,if_neg (by simpa using hn)];exact hk)
   clear hn hk
   by_cases hv:32<v.length
   ·have Hv:=zh (aX1 (r:=⟨k,n,e,l,v⟩) Hnm.out hv)
    have hv':decide ((32:Int)<(v.length:Int))=true:=decide_eq_true AO
    go_enter Tryz.func50,Tryz.ntmps50
    go_wp2_with (first
      | (go_at_call 90;refine (aA3 _ A n a).mono ?_;rintro e1 w1 ⟨rfl,rfl⟩;rw[Hn.out])
      | (go_at_call 91;(with_reducible refine (aF _ B e b).mono ?_);rintro e1 w1 ⟨rfl,rfl⟩;rw[Hk.out])
      | (go_at_call 91;(with_reducible refine (aF _ C l c).mono ?_);rintro e1 w1 ⟨rfl,rfl⟩))
    go_ret
    exact⟨aM ZH1,BE⟩
   ·have Hv:=zh (aX2 (r:=⟨k,n,e,l,v⟩) Hnm.out (by show v.length≤32;omega))
    have hv':decide ((32:Int)<(v.length:Int))=false:=decide_eq_false AO
    go_enter Tryz.func50,Tryz.ntmps50
    go_wp2_with (first
      | (go_at_call 90;refine (aA3 _ A n a).mono ?_;rintro e1 w1 ⟨rfl,rfl⟩;rw[Hn.out])
      | (go_at_call 91;(with_reducible refine (aF _ B e b).mono ?_);rintro e1 w1 ⟨rfl,rfl⟩;rw[Hk.out])
      | (go_at_call 91;(with_reducible refine (aF _ C l c).mono ?_);rintro e1 w1 ⟨rfl,rfl⟩))
    go_loopw [58] (fun i wr=>∃ j:Nat,j≤4∧i=.int .i64 j∧aB0 (aG3 3 ⟨k,n,e,l,v⟩) (4 - j) j=aG7 3 ⟨k,n,e,l,v⟩∧Below w.heap.size w wr) (fun i _=>4 - (intOf i).toNat)
    case atStart=>exact⟨0,AO,rfl,rfl,BE⟩
    case round =>
     obtain⟨j,hj,rfl,hval,hbel⟩:=hrel
     have Hval:=zh hval
     have Hbel:=zh hbel
     clear hval hbel
     rcases (by omega:j=0∨j=1∨j=2∨j=3∨j=4) with rfl|rfl|rfl|rfl|rfl
     ·go_wp2
      go_roundw
      case rel=>exact⟨1,AO,by go_num,by rw[← Hval.out,aO9 (h:=3) (r:=⟨k,n,e,l,v⟩) (j:=0) ZD9 ZD9],Hbel.out⟩
      case measure=>simp[intOf]
     ·go_wp2
      go_roundw
      case rel=>exact⟨2,AO,by go_num,by rw[← Hval.out,aO9 (h:=3) (r:=⟨k,n,e,l,v⟩) (j:=1) ZD9 ZD9],Hbel.out⟩
      case measure=>simp[intOf]
     ·by_cases hp:0<l.length
      ·have hp':decide ((0:Int)<(l.length:Int))=true:=decide_eq_true AO
       go_wp2
       go_ret
       exact⟨aM (by rw[Hv.out,← Hval.out,aP0 (h:=3) (r:=⟨k,n,e,l,v⟩) (j:=2) ZD9 ZD9 (by exact hp)]),Hbel.out⟩
      ·have hp':decide ((0:Int)<(l.length:Int))=false:=decide_eq_false AO
       have Hp:=zh hp
       go_wp2
       go_roundw
       case rel=>exact⟨3,AO,by go_num,by rw[← Hval.out,aM1 (h:=3) (r:=⟨k,n,e,l,v⟩) (j:=2) ZD9 (by exact Hp.out)],Hbel.out⟩
       case measure=>simp[intOf]
     ·by_cases hp:0<v.length
      ·have hp':decide ((0:Int)<(v.length:Int))=true:=decide_eq_true AO
       go_wp2
       go_ret
       exact⟨aM (by rw[Hv.out,← Hval.out,aP0 (h:=3) (r:=⟨k,n,e,l,v⟩) (j:=3) ZD9 ZD9 (by exact hp)]),Hbel.out⟩
      ·have hp':decide ((0:Int)<(v.length:Int))=false:=decide_eq_false AO
       have Hp:=zh hp
       go_wp2
       go_roundw
       case rel=>exact⟨4,AO,by go_num,by rw[← Hval.out,aM1 (h:=3) (r:=⟨k,n,e,l,v⟩) (j:=3) ZD9 (by exact Hp.out)],Hbel.out⟩
       case measure=>simp[intOf]
     ·go_wp2
      go_ret
      exact⟨aM (by rw[Hv.out,← Hval.out];rfl),Hbel.out⟩
  ·have hf:aA9 3 ⟨k,n,e,l,v⟩=aE e:=by rw[cB1,if_neg (by simpa using hn)]
   have Hv:=zh ((aL7 (r:=⟨k,n,e,l,v⟩) (h:=3) (by rw[hf];exact hk)).trans hf)
   have hk':(aE e != 0)=true:=by simpa using hk
   clear hn hk hf
   go_enter Tryz.func50,Tryz.ntmps50
   go_wp2_with (first
     | (go_at_call 90;refine (aA3 _ A n a).mono ?_;rintro e1 w1 ⟨rfl,rfl⟩;rw[Hn.out])
     | (go_at_call 91;(with_reducible refine (aF _ B e b).mono ?_);rintro e1 w1 ⟨rfl,rfl⟩)
     | (go_at_call 91;(with_reducible refine (aF _ C l c).mono ?_);rintro e1 w1 ⟨rfl,rfl⟩))
   go_ret
   exact⟨aM ZH1,BE⟩
 ·have hf:aA9 3 ⟨k,n,e,l,v⟩=aI n:=by rw[cB1,if_pos (by exact hn)]
  have Hv:=zh ((aL7 (r:=⟨k,n,e,l,v⟩) (h:=3) (by rw[hf];exact hn)).trans hf)
  have hn':(aI n != 0)=true:=by simpa using hn
  clear hn hf
  go_enter Tryz.func50,Tryz.ntmps50
  go_wp2_with (first
    | (go_at_call 90;refine (aA3 _ A n a).mono ?_;rintro e1 w1 ⟨rfl,rfl⟩)
    | (go_at_call 91;(with_reducible refine (aF _ B e b).mono ?_);rintro e1 w1 ⟨rfl,rfl⟩)
    | (go_at_call 91;(with_reducible refine (aF _ C l c).mono ?_);rintro e1 w1 ⟨rfl,rfl⟩))
  go_ret
  exact⟨aM ZH1,BE⟩
theorem cH1 (w:World) (hT:bL w) (A B C D:Option Addr) (n e l v:List UInt8) (a b c d k:Nat) (hk1:1≤k) (hk8:k≤8) (hh:bO k=7) :
  Calls Tryz.prog 50 #[.agg #[.int .i64 k,.slice A n.length a,.slice B e.length b,.slice C l.length c,.slice D v.length d]] w (bQ w (.int .i64 (aB4 7 ⟨k,n,e,l,v⟩))):=by
 have hcell:(w.alloc (.cells #[.int .i64 k,.slice A n.length a,.slice B e.length b,.slice C l.length c,.slice D v.length d] 48)).cell? ⟨0,k,none⟩=some (.int .i64 7):=by
  have h1:=hT k AO
  rw[hh] at h1
  exact (((Below.refl w.heap.size w).alloc zn _).cell (World.block_lt_of_cell? w _ (hT k AO))).trans h1
 have hka:¬ (k:Int)<1:=by omega
 have hkb:¬ (8:Int)<(k:Int):=by omega
 have hkc:(0:Int)≤(k:Int):=by omega
 have hkd:(k:Int)<9:=by omega
 have hke:k≠0:=by omega
 have hkf:k<9:=by omega
 have c7_1:bits .and .i64 7 1=1:=by decide
 have c7_4:bits .and .i64 7 4=4:=by decide
 have c3_1:bits .and .i64 3 1=1:=by decide
 have c1_1:bits .and .i64 1 1=1:=by decide
 have c0_1:bits .and .i64 0 1=0:=by decide
 have x0:∀ W:World,(Instr.index 181 (.agg #[.slice A n.length a,.slice B e.length b,.slice C l.length c,.slice D v.length d]) (.int .i64 0)).run Tryz.prog W=.ok (.slice A n.length a) W:=fun _=>by kernel_rfl
 have x1:∀ W:World,(Instr.index 181 (.agg #[.slice A n.length a,.slice B e.length b,.slice C l.length c,.slice D v.length d]) (.int .i64 1)).run Tryz.prog W=.ok (.slice B e.length b) W:=fun _=>by kernel_rfl
 have x2:∀ W:World,(Instr.index 181 (.agg #[.slice A n.length a,.slice B e.length b,.slice C l.length c,.slice D v.length d]) (.int .i64 2)).run Tryz.prog W=.ok (.slice C l.length c) W:=fun _=>by kernel_rfl
 have x3:∀ W:World,(Instr.index 181 (.agg #[.slice A n.length a,.slice B e.length b,.slice C l.length c,.slice D v.length d]) (.int .i64 3)).run Tryz.prog W=.ok (.slice D v.length d) W:=fun _=>by kernel_rfl
 clear hT hh
 by_cases hn:aI n=0
 ·have Hn:=zh hn
  by_cases hk:aE e=0
  ·have Hk:=zh hk
   by_cases hl:aE l=0
   ·have Hl:=zh hl
    have Hnm:=zh (show aA9 7 ⟨k,n,e,l,v⟩=0 by rw[bL7,if_neg (by simpa using hn),if_neg (by simpa using hk)];exact hl)
    clear hn hk hl
    by_cases hv:32<v.length
    ·have Hv:=zh (aX1 (r:=⟨k,n,e,l,v⟩) Hnm.out hv)
     have hv':decide ((32:Int)<(v.length:Int))=true:=decide_eq_true AO
     go_enter Tryz.func50,Tryz.ntmps50
     go_wp2_with (first
       | (go_at_call 90;refine (aA3 _ A n a).mono ?_;rintro e1 w1 ⟨rfl,rfl⟩;rw[Hn.out])
       | (go_at_call 91;(with_reducible refine (aF _ B e b).mono ?_);rintro e1 w1 ⟨rfl,rfl⟩;rw[Hk.out])
       | (go_at_call 91;(with_reducible refine (aF _ C l c).mono ?_);rintro e1 w1 ⟨rfl,rfl⟩;rw[Hl.out]))
     go_ret
     exact⟨aM ZH1,BE⟩
    ·have Hv:=zh (aX2 (r:=⟨k,n,e,l,v⟩) Hnm.out (by show v.length≤32;omega))
     have hv':decide ((32:Int)<(v.length:Int))=false:=decide_eq_false AO
     go_enter Tryz.func50,Tryz.ntmps50
     go_wp2_with (first
       | (go_at_call 90;refine (aA3 _ A n a).mono ?_;rintro e1 w1 ⟨rfl,rfl⟩;rw[Hn.out])
       | (go_at_call 91;(with_reducible refine (aF _ B e b).mono ?_);rintro e1 w1 ⟨rfl,rfl⟩;rw[Hk.out])
       | (go_at_call 91;(with_reducible refine (aF _ C l c).mono ?_);rintro e1 w1 ⟨rfl,rfl⟩;rw[Hl.out]))
     go_loopw [58] (fun i wr=>∃ j:Nat,j≤4∧i=.int .i64 j∧aB0 (aG3 7 ⟨k,n,e,l,v⟩) (4 - j) j=aG7 7 ⟨k,n,e,l,v⟩∧Below w.heap.size w wr) (fun i _=>4 - (intOf i).toNat)
     case atStart=>exact⟨0,AO,rfl,rfl,BE⟩
     case round =>
      obtain⟨j,hj,rfl,hval,hbel⟩:=hrel
      have Hval:=zh hval
      have Hbel:=zh hbel
      clear hval hbel
      rcases (by omega:j=0∨j=1∨j=2∨j=3∨j=4) with rfl|rfl|rfl|rfl|rfl
      ·go_wp2
       go_roundw
       case rel=>exact⟨1,AO,by go_num,by rw[← Hval.out,aO9 (h:=7) (r:=⟨k,n,e,l,v⟩) (j:=0) ZD9 ZD9],Hbel.out⟩
       case measure=>simp[intOf]
      ·go_wp2
       go_roundw
       case rel=>exact⟨2,AO,by go_num,by rw[← Hval.out,aO9 (h:=7) (r:=⟨k,n,e,l,v⟩) (j:=1) ZD9 ZD9],Hbel.out⟩
       case measure=>simp[intOf]
      ·go_wp2
       go_roundw
       case rel=>exact⟨3,AO,by go_num,by rw[← Hval.out,aO9 (h:=7) (r:=⟨k,n,e,l,v⟩) (j:=2) ZD9 ZD9],Hbel.out⟩
       case measure=>simp[intOf]
      ·by_cases hp:0<v.length
       ·have hp':decide ((0:Int)<(v.length:Int))=true:=decide_eq_true AO
        go_wp2
        go_ret
        exact⟨aM (by rw[Hv.out,← Hval.out,aP0 (h:=7) (r:=⟨k,n,e,l,v⟩) (j:=3) ZD9 ZD9 (by exact hp)]),Hbel.out⟩
       ·have hp':decide ((0:Int)<(v.length:Int))=false:=decide_eq_false AO
        have Hp:=zh hp
        go_wp2
        go_roundw
        case rel=>exact⟨4,AO,by go_num,by rw[← Hval.out,aM1 (h:=7) (r:=⟨k,n,e,l,v⟩) (j:=3) ZD9 (by exact Hp.out)],Hbel.out⟩
        case measure=>simp[intOf]
      ·go_wp2
       go_ret
       exact⟨aM (by rw[Hv.out,← Hval.out];rfl),Hbel.out⟩
   ·have hf:aA9 7 ⟨k,n,e,l,v⟩=aE l:=by rw[bL7,if_neg (by simpa using hn),if_neg (by simpa using hk)]
    have Hv:=zh ((aL7 (r:=⟨k,n,e,l,v⟩) (h:=7) (by rw[hf];exact hl)).trans hf)
    have hl':(aE l != 0)=true:=by simpa using hl
    clear hn hk hl hf
    go_enter Tryz.func50,Tryz.ntmps50
    go_wp2_with (first
      | (go_at_call 90;refine (aA3 _ A n a).mono ?_;rintro e1 w1 ⟨rfl,rfl⟩;rw[Hn.out])
      | (go_at_call 91;(with_reducible refine (aF _ B e b).mono ?_);rintro e1 w1 ⟨rfl,rfl⟩;rw[Hk.out])
      | (go_at_call 91;(with_reducible refine (aF _ C l c).mono ?_);rintro e1 w1 ⟨rfl,rfl⟩))
    go_ret
    exact⟨aM ZH1,BE⟩
  ·have hf:aA9 7 ⟨k,n,e,l,v⟩=aE e:=by rw[bL7,if_neg (by simpa using hn)];exact if_pos hk
   have Hv:=zh ((aL7 (r:=⟨k,n,e,l,v⟩) (h:=7) (by rw[hf];exact hk)).trans hf)
   have hk':(aE e != 0)=true:=by simpa using hk
   clear hn hk hf
   go_enter Tryz.func50,Tryz.ntmps50
   go_wp2_with (first
     | (go_at_call 90;refine (aA3 _ A n a).mono ?_;rintro e1 w1 ⟨rfl,rfl⟩;rw[Hn.out])
     | (go_at_call 91;(with_reducible refine (aF _ B e b).mono ?_);rintro e1 w1 ⟨rfl,rfl⟩)
     | (go_at_call 91;(with_reducible refine (aF _ C l c).mono ?_);rintro e1 w1 ⟨rfl,rfl⟩))
   go_ret
   exact⟨aM ZH1,BE⟩
 ·have hf:aA9 7 ⟨k,n,e,l,v⟩=aI n:=by rw[bL7,if_pos (by exact hn)]
  have Hv:=zh ((aL7 (r:=⟨k,n,e,l,v⟩) (h:=7) (by rw[hf];exact hn)).trans hf)
  have hn':(aI n != 0)=true:=by simpa using hn
  clear hn hf
  go_enter Tryz.func50,Tryz.ntmps50
  go_wp2_with (first
    | (go_at_call 90;refine (aA3 _ A n a).mono ?_;rintro e1 w1 ⟨rfl,rfl⟩)
    | (go_at_call 91;(with_reducible refine (aF _ B e b).mono ?_);rintro e1 w1 ⟨rfl,rfl⟩)
    | (go_at_call 91;(with_reducible refine (aF _ C l c).mono ?_);rintro e1 w1 ⟨rfl,rfl⟩))
  go_ret
  exact⟨aM ZH1,BE⟩
theorem cB2 (w:World) (hT:bL w) (A B C D:Option Addr) (n e l v:List UInt8) (a b c d k:Nat) (hk1:1≤k) (hk8:k≤8) (hh:bO k=11) :
  Calls Tryz.prog 50 #[.agg #[.int .i64 k,.slice A n.length a,.slice B e.length b,.slice C l.length c,.slice D v.length d]] w (bQ w (.int .i64 (aB4 11 ⟨k,n,e,l,v⟩))):=by
 have hcell:(w.alloc (.cells #[.int .i64 k,.slice A n.length a,.slice B e.length b,.slice C l.length c,.slice D v.length d] 48)).cell? ⟨0,k,none⟩=some (.int .i64 11):=by
  have h1:=hT k AO
  rw[hh] at h1
  exact (((Below.refl w.heap.size w).alloc zn _).cell (World.block_lt_of_cell? w _ (hT k AO))).trans h1
 have hka:¬ (k:Int)<1:=by omega
 have hkb:¬ (8:Int)<(k:Int):=by omega
 have hkc:(0:Int)≤(k:Int):=by omega
 have hkd:(k:Int)<9:=by omega
 have hke:k≠0:=by omega
 have hkf:k<9:=by omega
 have c11_1:bits .and .i64 11 1=1:=by decide
 have c11_4:bits .and .i64 11 4=0:=by decide
 have c5_1:bits .and .i64 5 1=1:=by decide
 have c2_1:bits .and .i64 2 1=0:=by decide
 have c1_1:bits .and .i64 1 1=1:=by decide
 have x0:∀ W:World,(Instr.index 181 (.agg #[.slice A n.length a,.slice B e.length b,.slice C l.length c,.slice D v.length d]) (.int .i64 0)).run Tryz.prog W=.ok (.slice A n.length a) W:=fun _=>by kernel_rfl
 have x1:∀ W:World,(Instr.index 181 (.agg #[.slice A n.length a,.slice B e.length b,.slice C l.length c,.slice D v.length d]) (.int .i64 1)).run Tryz.prog W=.ok (.slice B e.length b) W:=fun _=>by kernel_rfl
 have x2:∀ W:World,(Instr.index 181 (.agg #[.slice A n.length a,.slice B e.length b,.slice C l.length c,.slice D v.length d]) (.int .i64 2)).run Tryz.prog W=.ok (.slice C l.length c) W:=fun _=>by kernel_rfl
 have x3:∀ W:World,(Instr.index 181 (.agg #[.slice A n.length a,.slice B e.length b,.slice C l.length c,.slice D v.length d]) (.int .i64 3)).run Tryz.prog W=.ok (.slice D v.length d) W:=fun _=>by kernel_rfl
 clear hT hh
 by_cases hn:aI n=0
 ·have Hn:=zh hn
  by_cases hk:aE e=0
  ·have Hk:=zh hk
   have Hnm:=zh (show aA9 11 ⟨k,n,e,l,v⟩=0 by rw[bQ9,if_neg (by simpa using hn)];exact hk)
   clear hn hk
   by_cases hv:32<v.length
   ·have Hv:=zh (aX1 (r:=⟨k,n,e,l,v⟩) Hnm.out hv)
    have hv':decide ((32:Int)<(v.length:Int))=true:=decide_eq_true AO
    go_enter Tryz.func50,Tryz.ntmps50
    go_wp2_with (first
      | (go_at_call 90;refine (aA3 _ A n a).mono ?_;rintro e1 w1 ⟨rfl,rfl⟩;rw[Hn.out])
      | (go_at_call 91;(with_reducible refine (aF _ B e b).mono ?_);rintro e1 w1 ⟨rfl,rfl⟩;rw[Hk.out])
      | (go_at_call 91;(with_reducible refine (aF _ C l c).mono ?_);rintro e1 w1 ⟨rfl,rfl⟩))
    go_ret
    exact⟨aM ZH1,BE⟩
   ·have Hv:=zh (aX2 (r:=⟨k,n,e,l,v⟩) Hnm.out (by show v.length≤32;omega))
    have hv':decide ((32:Int)<(v.length:Int))=false:=decide_eq_false AO
    go_enter Tryz.func50,Tryz.ntmps50
    go_wp2_with (first
      | (go_at_call 90;refine (aA3 _ A n a).mono ?_;rintro e1 w1 ⟨rfl,rfl⟩;rw[Hn.out])
      | (go_at_call 91;(with_reducible refine (aF _ B e b).mono ?_);rintro e1 w1 ⟨rfl,rfl⟩;rw[Hk.out])
      | (go_at_call 91;(with_reducible refine (aF _ C l c).mono ?_);rintro e1 w1 ⟨rfl,rfl⟩))
    go_loopw [58] (fun i wr=>∃ j:Nat,j≤4∧i=.int .i64 j∧aB0 (aG3 11 ⟨k,n,e,l,v⟩) (4 - j) j=aG7 11 ⟨k,n,e,l,v⟩∧Below w.heap.size w wr) (fun i _=>4 - (intOf i).toNat)
    case atStart=>exact⟨0,AO,rfl,rfl,BE⟩
    case round =>
     obtain⟨j,hj,rfl,hval,hbel⟩:=hrel
     have Hval:=zh hval
     have Hbel:=zh hbel
     clear hval hbel
     rcases (by omega:j=0∨j=1∨j=2∨j=3∨j=4) with rfl|rfl|rfl|rfl|rfl
     ·go_wp2
      go_roundw
      case rel=>exact⟨1,AO,by go_num,by rw[← Hval.out,aO9 (h:=11) (r:=⟨k,n,e,l,v⟩) (j:=0) ZD9 ZD9],Hbel.out⟩
      case measure=>simp[intOf]
     ·go_wp2
      go_roundw
      case rel=>exact⟨2,AO,by go_num,by rw[← Hval.out,aO9 (h:=11) (r:=⟨k,n,e,l,v⟩) (j:=1) ZD9 ZD9],Hbel.out⟩
      case measure=>simp[intOf]
     ·by_cases hp:0<l.length
      ·have hp':decide ((0:Int)<(l.length:Int))=true:=decide_eq_true AO
       go_wp2
       go_ret
       exact⟨aM (by rw[Hv.out,← Hval.out,aP0 (h:=11) (r:=⟨k,n,e,l,v⟩) (j:=2) ZD9 ZD9 (by exact hp)]),Hbel.out⟩
      ·have hp':decide ((0:Int)<(l.length:Int))=false:=decide_eq_false AO
       have Hp:=zh hp
       go_wp2
       go_roundw
       case rel=>exact⟨3,AO,by go_num,by rw[← Hval.out,aM1 (h:=11) (r:=⟨k,n,e,l,v⟩) (j:=2) ZD9 (by exact Hp.out)],Hbel.out⟩
       case measure=>simp[intOf]
     ·go_wp2
      go_roundw
      case rel=>exact⟨4,AO,by go_num,by rw[← Hval.out,aO9 (h:=11) (r:=⟨k,n,e,l,v⟩) (j:=3) ZD9 ZD9],Hbel.out⟩
      case measure=>simp[intOf]
     ·go_wp2
      go_ret
      exact⟨aM (by rw[Hv.out,← Hval.out];rfl),Hbel.out⟩
  ·have hf:aA9 11 ⟨k,n,e,l,v⟩=aE e:=by rw[bQ9,if_neg (by simpa using hn)]
   have Hv:=zh ((aL7 (r:=⟨k,n,e,l,v⟩) (h:=11) (by rw[hf];exact hk)).trans hf)
   have hk':(aE e != 0)=true:=by simpa using hk
   clear hn hk hf
   go_enter Tryz.func50,Tryz.ntmps50
   go_wp2_with (first
     | (go_at_call 90;refine (aA3 _ A n a).mono ?_;rintro e1 w1 ⟨rfl,rfl⟩;rw[Hn.out])
     | (go_at_call 91;(with_reducible refine (aF _ B e b).mono ?_);rintro e1 w1 ⟨rfl,rfl⟩)
     | (go_at_call 91;(with_reducible refine (aF _ C l c).mono ?_);rintro e1 w1 ⟨rfl,rfl⟩))
   go_ret
   exact⟨aM ZH1,BE⟩
 ·have hf:aA9 11 ⟨k,n,e,l,v⟩=aI n:=by rw[bQ9,if_pos (by exact hn)]
  have Hv:=zh ((aL7 (r:=⟨k,n,e,l,v⟩) (h:=11) (by rw[hf];exact hn)).trans hf)
  have hn':(aI n != 0)=true:=by simpa using hn
  clear hn hf
  go_enter Tryz.func50,Tryz.ntmps50
  go_wp2_with (first
    | (go_at_call 90;refine (aA3 _ A n a).mono ?_;rintro e1 w1 ⟨rfl,rfl⟩)
    | (go_at_call 91;(with_reducible refine (aF _ B e b).mono ?_);rintro e1 w1 ⟨rfl,rfl⟩)
    | (go_at_call 91;(with_reducible refine (aF _ C l c).mono ?_);rintro e1 w1 ⟨rfl,rfl⟩))
  go_ret
  exact⟨aM ZH1,BE⟩
theorem aD7 (w:World) (hT:bL w) (A B C D:Option Addr) (r:Rq) (a b c d:Nat) :
  Calls Tryz.prog 50 #[.agg #[.int .i64 r.kind,.slice A r.name.length a,.slice B r.key.length b,.slice C r.last.length c,.slice D r.value.length d]] w (bQ w (.int .i64 (aQ r))):=by
 obtain⟨i,n,e,l,v⟩:=r
 by_cases hk:1≤i∧i≤8
 ·obtain⟨k,rfl⟩:∃ k:Nat,i=k:=⟨i.toNat,AO⟩
  have hv:aQ ⟨k,n,e,l,v⟩=aB4 (bO k) ⟨k,n,e,l,v⟩:=by unfold aQ;rw[if_neg (by simpa using hk)];rfl
  rw[hv]
  rcases bH6 (k:=k) AO AO with h|h|h|h
  ·rw[h];exact cG9 w hT A B C D n e l v a b c d k AO AO h
  ·rw[h];exact cH0 w hT A B C D n e l v a b c d k AO AO h
  ·rw[h];exact cH1 w hT A B C D n e l v a b c d k AO AO h
  ·rw[h];exact cB2 w hT A B C D n e l v a b c d k AO AO h
 ·have hv:aQ ⟨i,n,e,l,v⟩=5:=by unfold aQ;rw[if_pos hk]
  rw[hv]
  clear hT hv
  rcases (by omega:i<1∨(1≤i∧8<i)) with h|⟨h,h'⟩
  ·clear hk
   go_enter Tryz.func50,Tryz.ntmps50
   go_wp2
   go_ret
   exact⟨rfl,BE⟩
  ·clear hk
   have h1:¬ i<1:=by omega
   go_enter Tryz.func50,Tryz.ntmps50
   go_wp2
   go_ret
   exact⟨rfl,BE⟩
end Go.Proofs.YtablgnacmpcfeaaGreatDoor
