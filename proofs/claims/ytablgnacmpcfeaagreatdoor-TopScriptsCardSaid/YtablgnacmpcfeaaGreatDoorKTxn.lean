/- Txn: Reads: words for memory; what is refused of one; sameness; copies. Transactions: words for memory; what is refused of one, by the references. Reads and writes copied: ReadCopy, and the program's read. Walk: TxnCopy. Walks: sameRead and sameTxn of the laws' package. The conditions of each are in its words. -/
import Derived.Test.YtablgnacmpcfeaaGreatDoorKForestW
import Derived.Test.YtablgnacmpcfeaaGreatDoorKBase
import Derived.Test.YtablgnacmpcfeaaGreatDoorKForest
namespace Go.Proofs.YtablgnacmpcfeaaGreatDoor
open Go.RowKit
set_option linter.unusedVariables false
set_option linter.unusedSimpArgs false
set_option maxRecDepth 100000
set_option maxHeartbeats 8000000
def aA4 (x:Wr):Int :=
 if aI x.name≠0 then aI x.name else if aE x.key≠0 then aE x.key else if x.flag=true then aE x.value else if 0<x.value.length then 4 else 0
theorem info_rd:(Tryz.prog.info? 204).map (fun i=>(i.zero,i.size,i.bytes))=some (some (.agg #[.slice none 0 0,.slice none 0 0,.bool false,.slice none 0 0]),4,80):=by kernel_rfl
def aC7 (x y:Wr):Bool:=x.flag==y.flag && (x.name==y.name && (x.key==y.key && x.value==y.value))
def bE (x y:Wr):Bool:=x.name==y.name && x.key==y.key
theorem aR4 (w:World) (A B C:Option Addr) (x:Wr) (a b c:Nat) :
  Calls Tryz.prog 108 #[.agg #[.slice A x.name.length a,.slice B x.key.length b,.bool x.flag,.slice C x.value.length c]] w (bQ w (.int .i64 (aA4 x))):=by
 obtain⟨xn,xk,xf,xv⟩:=x
 obtain⟨x,hx⟩:∃ x:Wr,x=⟨xn,xk,xf,xv⟩:=⟨_,rfl⟩
 by_cases h1:aI xn=0
 ·have b_n:(aI xn != 0)=false:=by simp[h1]
  by_cases h2:aE xk=0
  ·have b_k:(aE xk != 0)=false:=by simp[h2]
   cases xf with
   | true =>
    have Hv:=zh (show aA4 ⟨xn,xk,true,xv⟩=aE xv by unfold aA4;dsimp only;rw[if_neg ZE3,if_neg (by simpa using h2),if_pos rfl])
    clear hx x
    clear h1 h2
    go_enter Tryz.func108,Tryz.ntmps108
    go_wp2_with (first
  | (go_at_call_of 91 C;refine (aF _ C xv c).mono ?_;rintro e w1 ⟨rfl,rfl⟩)
  | (go_at_call 90;refine (aA3 _ A xn a).mono ?_;rintro e w1 ⟨rfl,rfl⟩)
  | (go_at_call 91;refine (aF _ B xk b).mono ?_;rintro e w1 ⟨rfl,rfl⟩))
    go_ret
    exact ZC1
   | false =>
    by_cases h3:0<xv.length
    ·have b_l:decide ((0:Int)<(xv.length:Int))=true:=by rw[decide_eq_true_eq];omega
     have Hv:=zh (show aA4 ⟨xn,xk,false,xv⟩=4 by unfold aA4;dsimp only;rw[if_neg ZE3,if_neg (by simpa using h2),if_neg ZD9,if_pos h3])
     clear hx x
     clear h1 h2
     go_enter Tryz.func108,Tryz.ntmps108
     go_wp2_with (first
  | (go_at_call_of 91 C;refine (aF _ C xv c).mono ?_;rintro e w1 ⟨rfl,rfl⟩)
  | (go_at_call 90;refine (aA3 _ A xn a).mono ?_;rintro e w1 ⟨rfl,rfl⟩)
  | (go_at_call 91;refine (aF _ B xk b).mono ?_;rintro e w1 ⟨rfl,rfl⟩))
     go_ret
     exact ZC1
    ·have b_l:decide ((0:Int)<(xv.length:Int))=false:=by rw[decide_eq_false_iff_not];omega
     have Hv:=zh (show aA4 ⟨xn,xk,false,xv⟩=0 by unfold aA4;dsimp only;rw[if_neg ZE3,if_neg (by simpa using h2),if_neg ZD9,if_neg h3])
     clear hx x
     have Hk:=zh h2;clear h1 h2
     go_enter Tryz.func108,Tryz.ntmps108
     go_wp2_with (first
  | (go_at_call_of 91 C;refine (aF _ C xv c).mono ?_;rintro e w1 ⟨rfl,rfl⟩)
  | (go_at_call 90;refine (aA3 _ A xn a).mono ?_;rintro e w1 ⟨rfl,rfl⟩)
  | (go_at_call 91;refine (aF _ B xk b).mono ?_;rintro e w1 ⟨rfl,rfl⟩))
     go_ret
     exact ZC1
  ·have b_k:(aE xk != 0)=true:=by simpa using h2
   have Hv:=zh (show aA4 ⟨xn,xk,xf,xv⟩=aE xk by unfold aA4;dsimp only;rw[if_neg ZE3,if_pos h2])
   clear hx x
   clear h1 h2
   go_enter Tryz.func108,Tryz.ntmps108
   go_wp2_with (first
  | (go_at_call_of 91 C;refine (aF _ C xv c).mono ?_;rintro e w1 ⟨rfl,rfl⟩)
  | (go_at_call 90;refine (aA3 _ A xn a).mono ?_;rintro e w1 ⟨rfl,rfl⟩)
  | (go_at_call 91;refine (aF _ B xk b).mono ?_;rintro e w1 ⟨rfl,rfl⟩))
   go_ret
   exact ZC1
 ·have b_n:(aI xn != 0)=true:=by simpa using h1
  have Hv:=zh (show aA4 ⟨xn,xk,xf,xv⟩=aI xn by unfold aA4;dsimp only;rw[if_pos h1])
  clear hx x
  clear h1
  go_enter Tryz.func108,Tryz.ntmps108
  go_wp2_with (first
  | (go_at_call_of 91 C;refine (aF _ C xv c).mono ?_;rintro e w1 ⟨rfl,rfl⟩)
  | (go_at_call 90;refine (aA3 _ A xn a).mono ?_;rintro e w1 ⟨rfl,rfl⟩)
  | (go_at_call 91;refine (aF _ B xk b).mono ?_;rintro e w1 ⟨rfl,rfl⟩))
  go_ret
  exact ZC1
theorem aA0 (w:World) (A B:Option Addr) (a b:List UInt8) (c d:Nat) (ha:Bs All w A a) (hb:Bs All w B b) :
  Calls Tryz.prog 115 #[.slice A a.length c,.slice B b.length d] w fun e w'=>e=.returned (.bool (a==b))∧w=w':=by
 have h1:=bE2 ha 44 9 5 c Tryz.underlying44 Tryz.underlying5 Tryz.underlying9
 have h2:=bE2 hb 44 9 5 d Tryz.underlying44 Tryz.underlying5 Tryz.underlying9
 clear ha hb
 go_enter Tryz.func115,Tryz.ntmps115
 go_wp2
 go_ret
 exact⟨rfl,rfl⟩
theorem aX6 (w:World) (A B C A' B' C':Option Addr) (x y:Wr) (a b c a' b' c':Nat) (ha:Bs All w A x.name) (hb:Bs All w B x.key) (hc:Bs All w C x.value) (ha':Bs All w A' y.name) (hb':Bs All w B' y.key) (hc':Bs All w C' y.value) :
  Calls Tryz.prog 111 #[.agg #[.slice A x.name.length a,.slice B x.key.length b,.bool x.flag,.slice C x.value.length c],.agg #[.slice A' y.name.length a',.slice B' y.key.length b',.bool y.flag,.slice C' y.value.length c']] w (bQ w (.bool (aC7 x y))):=by
 have Ha:=zh ha
 have Hb:=zh hb
 have Hc:=zh hc
 have Ha':=zh ha'
 have Hb':=zh hb'
 have Hc':=zh hc'
 clear ha hb hc ha' hb' hc'
 rcases Bool.eq_false_or_eq_true (x.flag==y.flag) with d_flag|d_flag
 ·
  rcases Bool.eq_false_or_eq_true (x.name==y.name) with d_name|d_name
  ·
   rcases Bool.eq_false_or_eq_true (x.key==y.key) with d_key|d_key
   ·
    rcases Bool.eq_false_or_eq_true (x.value==y.value) with d_value|d_value
    ·
     go_enter Tryz.func111,Tryz.ntmps111
     go_wp2_with (first
   | (go_at_call_of 115 A;(with_reducible refine (aA0 _ A A' x.name y.name a a' ?hx ?hy).mono ?_);(case hx=>(refine Ha.out.bbelow ?_;exact BE));(case hy=>(refine Ha'.out.bbelow ?_;exact BE));rintro e w2 ⟨rfl,rfl⟩)
   | (go_at_call_of 115 B;(with_reducible refine (aA0 _ B B' x.key y.key b b' ?hx ?hy).mono ?_);(case hx=>(refine Hb.out.bbelow ?_;exact BE));(case hy=>(refine Hb'.out.bbelow ?_;exact BE));rintro e w2 ⟨rfl,rfl⟩)
   | (go_at_call_of 115 C;(with_reducible refine (aA0 _ C C' x.value y.value c c' ?hx ?hy).mono ?_);(case hx=>(refine Hc.out.bbelow ?_;exact BE));(case hy=>(refine Hc'.out.bbelow ?_;exact BE));rintro e w2 ⟨rfl,rfl⟩))
     go_ret
     refine⟨aC9 (by simp[aC7,d_flag,d_name,d_key,d_value]),?_⟩
     exact BE
    ·
     go_enter Tryz.func111,Tryz.ntmps111
     go_wp2_with (first
   | (go_at_call_of 115 A;(with_reducible refine (aA0 _ A A' x.name y.name a a' ?hx ?hy).mono ?_);(case hx=>(refine Ha.out.bbelow ?_;exact BE));(case hy=>(refine Ha'.out.bbelow ?_;exact BE));rintro e w2 ⟨rfl,rfl⟩)
   | (go_at_call_of 115 B;(with_reducible refine (aA0 _ B B' x.key y.key b b' ?hx ?hy).mono ?_);(case hx=>(refine Hb.out.bbelow ?_;exact BE));(case hy=>(refine Hb'.out.bbelow ?_;exact BE));rintro e w2 ⟨rfl,rfl⟩)
   | (go_at_call_of 115 C;(with_reducible refine (aA0 _ C C' x.value y.value c c' ?hx ?hy).mono ?_);(case hx=>(refine Hc.out.bbelow ?_;exact BE));(case hy=>(refine Hc'.out.bbelow ?_;exact BE));rintro e w2 ⟨rfl,rfl⟩))
     go_ret
     refine⟨aC9 (by simp[aC7,d_flag,d_name,d_key,d_value]),?_⟩
     exact BE
   ·
    go_enter Tryz.func111,Tryz.ntmps111
    go_wp2_with (first
   | (go_at_call_of 115 A;(with_reducible refine (aA0 _ A A' x.name y.name a a' ?hx ?hy).mono ?_);(case hx=>(refine Ha.out.bbelow ?_;exact BE));(case hy=>(refine Ha'.out.bbelow ?_;exact BE));rintro e w2 ⟨rfl,rfl⟩)
   | (go_at_call_of 115 B;(with_reducible refine (aA0 _ B B' x.key y.key b b' ?hx ?hy).mono ?_);(case hx=>(refine Hb.out.bbelow ?_;exact BE));(case hy=>(refine Hb'.out.bbelow ?_;exact BE));rintro e w2 ⟨rfl,rfl⟩)
   | (go_at_call_of 115 C;(with_reducible refine (aA0 _ C C' x.value y.value c c' ?hx ?hy).mono ?_);(case hx=>(refine Hc.out.bbelow ?_;exact BE));(case hy=>(refine Hc'.out.bbelow ?_;exact BE));rintro e w2 ⟨rfl,rfl⟩))
    go_ret
    refine⟨aC9 (by simp[aC7,d_flag,d_name,d_key]),?_⟩
    exact BE
  ·
   go_enter Tryz.func111,Tryz.ntmps111
   go_wp2_with (first
   | (go_at_call_of 115 A;(with_reducible refine (aA0 _ A A' x.name y.name a a' ?hx ?hy).mono ?_);(case hx=>(refine Ha.out.bbelow ?_;exact BE));(case hy=>(refine Ha'.out.bbelow ?_;exact BE));rintro e w2 ⟨rfl,rfl⟩)
   | (go_at_call_of 115 B;(with_reducible refine (aA0 _ B B' x.key y.key b b' ?hx ?hy).mono ?_);(case hx=>(refine Hb.out.bbelow ?_;exact BE));(case hy=>(refine Hb'.out.bbelow ?_;exact BE));rintro e w2 ⟨rfl,rfl⟩)
   | (go_at_call_of 115 C;(with_reducible refine (aA0 _ C C' x.value y.value c c' ?hx ?hy).mono ?_);(case hx=>(refine Hc.out.bbelow ?_;exact BE));(case hy=>(refine Hc'.out.bbelow ?_;exact BE));rintro e w2 ⟨rfl,rfl⟩))
   go_ret
   refine⟨aC9 (by simp[aC7,d_flag,d_name]),?_⟩
   exact BE
 ·
  go_enter Tryz.func111,Tryz.ntmps111
  go_wp2_with (first
   | (go_at_call_of 115 A;(with_reducible refine (aA0 _ A A' x.name y.name a a' ?hx ?hy).mono ?_);(case hx=>(refine Ha.out.bbelow ?_;exact BE));(case hy=>(refine Ha'.out.bbelow ?_;exact BE));rintro e w2 ⟨rfl,rfl⟩)
   | (go_at_call_of 115 B;(with_reducible refine (aA0 _ B B' x.key y.key b b' ?hx ?hy).mono ?_);(case hx=>(refine Hb.out.bbelow ?_;exact BE));(case hy=>(refine Hb'.out.bbelow ?_;exact BE));rintro e w2 ⟨rfl,rfl⟩)
   | (go_at_call_of 115 C;(with_reducible refine (aA0 _ C C' x.value y.value c c' ?hx ?hy).mono ?_);(case hx=>(refine Hc.out.bbelow ?_;exact BE));(case hy=>(refine Hc'.out.bbelow ?_;exact BE));rintro e w2 ⟨rfl,rfl⟩))
  go_ret
  refine⟨aC9 (by simp[aC7,d_flag]),?_⟩
  exact BE
theorem aH0 (w:World) (A B C A' B' C':Option Addr) (x y:Wr) (a b c a' b' c':Nat) (ha:Bs All w A x.name) (hb:Bs All w B x.key) (hc:Bs All w C x.value) (ha':Bs All w A' y.name) (hb':Bs All w B' y.key) (hc':Bs All w C' y.value) :
  Calls Tryz.prog 69 #[.agg #[.slice A x.name.length a,.slice B x.key.length b,.bool x.flag,.slice C x.value.length c],.agg #[.slice A' y.name.length a',.slice B' y.key.length b',.bool y.flag,.slice C' y.value.length c']] w (bQ w (.bool (bE x y))):=by
 have Ha:=zh ha
 have Hb:=zh hb
 have Hc:=zh hc
 have Ha':=zh ha'
 have Hb':=zh hb'
 have Hc':=zh hc'
 clear ha hb hc ha' hb' hc'
 rcases Bool.eq_false_or_eq_true (x.name==y.name) with d_name|d_name
 ·
  rcases Bool.eq_false_or_eq_true (x.key==y.key) with d_key|d_key
  ·
   go_enter Tryz.func69,Tryz.ntmps69
   go_wp2_with (first
   | (go_at_call_of 115 A;(with_reducible refine (aA0 _ A A' x.name y.name a a' ?hx ?hy).mono ?_);(case hx=>(refine Ha.out.bbelow ?_;exact BE));(case hy=>(refine Ha'.out.bbelow ?_;exact BE));rintro e w2 ⟨rfl,rfl⟩)
   | (go_at_call_of 115 B;(with_reducible refine (aA0 _ B B' x.key y.key b b' ?hx ?hy).mono ?_);(case hx=>(refine Hb.out.bbelow ?_;exact BE));(case hy=>(refine Hb'.out.bbelow ?_;exact BE));rintro e w2 ⟨rfl,rfl⟩))
   go_ret
   refine⟨aC9 (by simp[bE,d_name,d_key]),?_⟩
   exact BE
  ·
   go_enter Tryz.func69,Tryz.ntmps69
   go_wp2_with (first
   | (go_at_call_of 115 A;(with_reducible refine (aA0 _ A A' x.name y.name a a' ?hx ?hy).mono ?_);(case hx=>(refine Ha.out.bbelow ?_;exact BE));(case hy=>(refine Ha'.out.bbelow ?_;exact BE));rintro e w2 ⟨rfl,rfl⟩)
   | (go_at_call_of 115 B;(with_reducible refine (aA0 _ B B' x.key y.key b b' ?hx ?hy).mono ?_);(case hx=>(refine Hb.out.bbelow ?_;exact BE));(case hy=>(refine Hb'.out.bbelow ?_;exact BE));rintro e w2 ⟨rfl,rfl⟩))
   go_ret
   refine⟨aC9 (by simp[bE,d_name,d_key]),?_⟩
   exact BE
 ·
  go_enter Tryz.func69,Tryz.ntmps69
  go_wp2_with (first
   | (go_at_call_of 115 A;(with_reducible refine (aA0 _ A A' x.name y.name a a' ?hx ?hy).mono ?_);(case hx=>(refine Ha.out.bbelow ?_;exact BE));(case hy=>(refine Ha'.out.bbelow ?_;exact BE));rintro e w2 ⟨rfl,rfl⟩)
   | (go_at_call_of 115 B;(with_reducible refine (aA0 _ B B' x.key y.key b b' ?hx ?hy).mono ?_);(case hx=>(refine Hb.out.bbelow ?_;exact BE));(case hy=>(refine Hb'.out.bbelow ?_;exact BE));rintro e w2 ⟨rfl,rfl⟩))
  go_ret
  refine⟨aC9 (by simp[bE,d_name]),?_⟩
  exact BE
structure Tx where
 start:Int
 reads:List Wr
 writes:List Wr
theorem aY {w:World} {g:Nat} {t:TypeId} {a b c:Value} (h:w.heap[g]?=some (.cells #[a,b,c] t (0,0))) :
  w.cell? ⟨g,0,none⟩=some a∧w.cell? ⟨g,1,none⟩=some b∧w.cell? ⟨g,2,none⟩=some c∧w.frozen? ⟨g,0,none⟩=false∧w.frozen? ⟨g,1,none⟩=false∧w.frozen? ⟨g,2,none⟩=false :=
 ⟨aA (cs:=[a,b,c]) h 0,aA (cs:=[a,b,c]) h 1,aA (cs:=[a,b,c]) h 2,aD (cs:=[a,b,c]) h 0,aD (cs:=[a,b,c]) h 1,aD (cs:=[a,b,c]) h 2⟩
def bV6 (q:Wr→Bool) (f:Int) (l:List Wr) (j:Nat):Int:=if f≠0 then f else if (l.take j).any q then 3 else 0
def aL0 (fault:Wr→Int) (same:Wr→Wr→Bool) (l:List Wr) (i:Nat):Int:=bV6 (fun y=>same y (l.getD i ⟨[],[],false,[]⟩)) (fault (l.getD i ⟨[],[],false,[]⟩)) l i
theorem aW4 (fault:Wr→Int) (same:Wr→Wr→Bool) {l:List Wr} {i:Nat} (h:i<l.length):aL0 fault same l i=bV6 (fun y=>same y l[i]) (fault l[i]) l i:=by
 simp[aL0,h]
def aJ1 (l:List Wr):Int:=aB0 (aL0 aA4 aC7 l) l.length 0
def aP9 (l:List Wr):Int:=aB0 (aL0 aH bE l) l.length 0
def aN (t:Tx):Int:=if ¬ (0≤t.start∧t.start≤1048576) then 2 else if 20<t.reads.length∨10<t.writes.length then 1 else if aJ1 t.reads≠0 then aJ1 t.reads else aP9 t.writes
theorem bD1 (w:World) (A B C:Option Addr) (x:Wr) (a b c:Nat) (ha:Bs All w A x.name) (hb:Bs All w B x.key) (hc:Bs All w C x.value) (h1:x.name.length≤big) (h2:x.key.length≤big) (h3:x.value.length≤big) :
  Calls Tryz.prog 114 #[.agg #[.slice A x.name.length a,.slice B x.key.length b,.bool x.flag,.slice C x.value.length c]] w (RetWr w x):=by
 have Ha:=zh ha
 have Hb:=zh hb
 have Hc:=zh hc
 clear ha hb hc
 have Hbox:=zh (show ∀ W,Below (w.heap.size+2) ((w.alloc (.cells #[.slice A x.name.length a,.slice B x.key.length b,.bool x.flag,.slice C x.value.length c] 204)).alloc (.cells #[.slice none 0 0,.slice none 0 0,.bool false,.slice none 0 0] 204)) W→W.heap[w.heap.size]?=some (.cells #[.slice A x.name.length a,.slice B x.key.length b,.bool x.flag,.slice C x.value.length c] 204 (0,0))∧W.heap[w.heap.size+1]?=some (.cells #[.slice none 0 0,.slice none 0 0,.bool false,.slice none 0 0] 204 (0,0))∧Below w.heap.size w W∧w.heap.size+2≤W.heap.size from fun W hW =>
  ⟨(hW.block _ AO).trans ((heap_alloc_old _ _ ZH2).trans (aK w _ _)),(hW.block _ AO).trans (by have:=aK (w.alloc (.cells #[.slice A x.name.length a,.slice B x.key.length b,.bool x.flag,.slice C x.value.length c] 204)) #[.slice none 0 0,.slice none 0 0,.bool false,.slice none 0 0] 204;simpa using this),(((Below.refl w.heap.size w).alloc zn _).alloc ZH2 _).trans (hW.mono AO),by simpa using hW.size⟩)
 go_enter Tryz.func114,Tryz.ntmps114
 go_wp2_with fail
 go_region_held3 (fun w'=>w'.cell? ⟨w.heap.size,0,none⟩=some (.slice A x.name.length a)∧w'.cell? ⟨w.heap.size,1,none⟩=some (.slice B x.key.length b)∧w'.cell? ⟨w.heap.size,2,none⟩=some (.bool x.flag)∧w'.cell? ⟨w.heap.size,3,none⟩=some (.slice C x.value.length c))
  (first
   | go_keep
   | exact⟨q0,q1,q2,q3⟩
   | exact⟨r0,r1,r2,r3⟩
   | exact⟨s0,s1,s2,s3⟩)
  (first
   | (go_at_call 49;(with_reducible refine (aE2 _ A x.name a ?ha h1).mono ?_);(case ha=>(refine Ha.out.bbelow ?_;exact BE));rintro e w1 ⟨A1,a1,rfl,hs1,hb1⟩;have hk1:Below (w.heap.size+2) ((w.alloc (.cells #[.slice A x.name.length a,.slice B x.key.length b,.bool x.flag,.slice C x.value.length c] 204)).alloc (.cells #[.slice none 0 0,.slice none 0 0,.bool false,.slice none 0 0] 204)) w1:=(Below.refl _ _).drew.next hb1 ZH2;obtain⟨q0,q1,q2,q3,_⟩:=bG (Hbox.out _ hk1).1)
   | (go_at_call 49;(with_reducible refine (aE2 _ B x.key b ?ha h2).mono ?_);(case ha=>exact Hb.out.bbelow (Hbox.out _ hk1).2.2.1);rintro e w2 ⟨B1,b1,rfl,hs2,hb2⟩;have hk2:=hk1.next hb2 (by simpa using hk1.size);obtain⟨r0,r1,r2,r3,_⟩:=bG (Hbox.out _ hk2).1)
   | (go_at_call 49;(with_reducible refine (aE2 _ C x.value c ?ha h3).mono ?_);(case ha=>exact Hc.out.bbelow (Hbox.out _ hk2).2.2.1);rintro e w3 ⟨C1,c1,rfl,hs3,hb3⟩;have hk3:=hk2.next hb3 (by simpa using hk2.size);obtain⟨s0,s1,s2,s3,_⟩:=bG (Hbox.out _ hk3).1;obtain⟨z0,z1,z2,z3,y0,y1,y2,y3⟩:=bG (Hbox.out _ hk3).2.1;have hzz:=(Hbox.out _ hk3).2.2.2;have hzz1:w.heap.size+1<w3.heap.size:=AO))
 all_goals
  go_wp2
  have hf1:=hk1.size
  have hf2:=hb2.size
  have hf3:=hb3.size
  simp at hf1
  refine bodyPost_ret (v:=.agg #[.slice A1 x.name.length a1,.slice B1 x.key.length b1,.bool x.flag,.slice C1 x.value.length c1]) (by simp[results,Tryz.results114,go_sem,z0,z1,z2,z3]) rfl ⟨A1,a1,B1,b1,C1,c1,rfl,?_,?_,?_,?_⟩
  ·exact (((hs1.bbelow hb2).bbelow hb3).bless fun b _ h=>show aB (w.heap.size+2) b by simpa using h).bsame (((((aC.refl _ _).setCell ZD5 _).setCell ZD5 _).setCell ZD5 _).setCell ZD5 _) |>.blo AO
  ·exact (((hs2.bbelow hb3)).bless fun b _ h=>show aB (w.heap.size+2) b by simp only[aB] at h ⊢;omega).bsame (((((aC.refl _ _).setCell ZD5 _).setCell ZD5 _).setCell ZD5 _).setCell ZD5 _) |>.blo AO
  ·exact (hs3.bless fun b _ h=>show aB (w.heap.size+2) b by simp only[aB] at h ⊢;omega).bsame (((((aC.refl _ _).setCell ZD5 _).setCell ZD5 _).setCell ZD5 _).setCell ZD5 _) |>.blo AO
  ·exact ((((Hbox.out _ hk3).2.2.1.setCell ZC5 _).setCell ZC5 _).setCell ZC5 _).setCell ZC5 _
theorem aC.of_lt {S:Nat→Prop} {n:Nat} {w w':World} (h:Below n w w') (hS:∀ k,S k→k<n):aC S w w':=⟨h.size,fun k hk _=>h.block k (hS k hk)⟩
theorem cK6 (w:World) (a b c:Obj):(((w.alloc a).alloc b).alloc c).heap[w.heap.size]?=some a∧(((w.alloc a).alloc b).alloc c).heap[w.heap.size+1]?=some b∧(((w.alloc a).alloc b).alloc c).heap[w.heap.size+2]?=some c∧(((w.alloc a).alloc b).alloc c).heap.size=w.heap.size+3∧Below w.heap.size w (((w.alloc a).alloc b).alloc c):=by
 refine⟨?_,?_,?_,by simp,(((Below.refl _ _).alloc zn _).alloc ZH2 _).alloc ZC8 _⟩
 ·rw[heap_alloc_old _ _ ZC8,heap_alloc_old _ _ ZH2,heap_alloc_new]
 ·rw[heap_alloc_old _ _ ZH2]
  have:=heap_alloc_new (w.alloc a) b
  simpa using this
 ·have:=heap_alloc_new ((w.alloc a).alloc b) c
  simpa using this
theorem Own.keep {α:Type} {size:Nat} {R:(Nat→Prop)→World→List Value→α→Prop} {S T S2:Nat→Prop} {w w':World} {base base':Nat} {e:TypeId} {v:Value} {l:List α} (hR:bI R) (h:Own size R S w base e v l) (hb:aC T w w') (hST:∀ b,b<w.heap.size→S b→T b) (hv:∀ b,v.ownBlock=some b→T b) (hS2:∀ b,b<w.heap.size→S b→S2 b) (hbase:base'≤base):Own size R S2 w' base' e v l:=by
 obtain⟨xs,h1,h2⟩:=h
 refine⟨xs,⟨h1.1,?_⟩,fun i hi=>?_⟩
 ·rcases h1.2 with hn|⟨g,cap,cur,hv',hb',hh,rest⟩
  ·exact .inl hn
  ·refine .inr ⟨g,cap,cur,hv',Nat.le_trans hbase hb',?_,rest⟩
   rw[hb.block g (hv g (by rw[hv'];rfl)) (Array.getElem?_eq_some_iff.1 hh).1]
   exact hh
 ·have h3:=hR.less _ (fun b=>(S2 b∧v.ownBlock≠some b)∧T b) w _ _ (fun b hb2 hs=>⟨⟨hS2 b hb2 hs.1,hs.2⟩,hST b hb2 hs.1⟩) (h2 i hi)
  have h4:=hR.same _ w w' _ _ ⟨hb.size,fun k hk hk2=>hb.block k hk.2 hk2⟩ h3
  exact hR.less _ _ _ _ _ (fun b _ hs=>hs.1) h4
def blk (A:Option Addr):Option Nat:=A.map (·.block)
theorem aC5 (A:Option Addr) (n c:Nat):(Value.slice A n c).ownBlock=blk A:=by
 cases A <;> rfl
def bV7 (H:Nat) (w':World) (t:Tx) (A:Option Addr) (n:Nat) (B:Option Addr) (m:Nat):Prop :=
 t.reads.length≤n∧t.writes.length≤m∧Own 4 WrR (fun b=>aB H b∧blk B≠some b) w' H 204 (.slice A t.reads.length n) t.reads∧Own 4 WrR (fun b=>aB H b∧blk A≠some b) w' H 102 (.slice B t.writes.length m) t.writes∧(∀ b,blk A=some b→blk B≠some b)
theorem Own.sl {α:Type} {size:Nat} {R:(Nat→Prop)→World→List Value→α→Prop} {S:Nat→Prop} {w:World} {base:Nat} {e:TypeId} {A:Option Addr} {l:List α} {c:Nat} (hR:bI R) (h:Own size R S w base e (.slice A l.length c) l) (hS:∀ b,base≤b→blk A=some b→S b):SL size R S w A l:=by
 obtain⟨xs,h1,h2⟩:=h
 intro hl
 have h1':=h1
 rcases h1.2 with ⟨hn,h0⟩|⟨g,cap,cur,hv,hge,hh,hcap,_⟩
 ·omega
 ·injection hv with hA _ _
  subst hA
  refine⟨g,0,rfl,hS g hge rfl,(Array.getElem?_eq_some_iff.1 hh).1,fun i hi=>⟨_,?_,fun j hj=>?_,hR.less _ _ _ _ _ (fun b _ hs=>hs.1) (h2 i hi)⟩⟩
  ·rw[List.length_take,List.length_drop,h1'.1]
   have:(i+1)*size≤l.length*size:=Nat.mul_le_mul_right _ hi
   rw[Nat.add_mul,Nat.one_mul] at this
   omega
  ·have hlt:i*size+j<xs.length:=by
    rw[h1'.1]
    have:(i+1)*size≤l.length*size:=Nat.mul_le_mul_right _ hi
    rw[Nat.add_mul,Nat.one_mul] at this
    omega
   have hc:=h1'.cells (g:=g) rfl (i*size+j) xs[i*size+j] (List.getElem?_eq_getElem hlt)
   rw[bC] at hc
   rw[Nat.add_assoc,hc]
   rw[List.getElem?_take_of_lt hj,List.getElem?_drop,List.getElem?_eq_getElem hlt]
theorem bV7.reads {H:Nat} {w':World} {t:Tx} {A B:Option Addr} {n m:Nat} (h:bV7 H w' t A n B m):Ws (fun b=>aB H b∧blk B≠some b) w' A t.reads :=
 h.2.2.1.sl wrR_stays fun b hb hA=>⟨hb,h.2.2.2.2 b hA⟩
theorem bV7.writes {H:Nat} {w':World} {t:Tx} {A B:Option Addr} {n m:Nat} (h:bV7 H w' t A n B m):Ws (fun b=>aB H b∧blk A≠some b) w' B t.writes :=
 h.2.2.2.1.sl wrR_stays fun b hb hB=>⟨hb,fun hA=>h.2.2.2.2 b hA hB⟩
def cK7 (w:World) (t:Tx) (e:Ending) (w':World):Prop :=
 ∃ A n B m,e=.returned (.agg #[.int .i64 t.start,.slice A t.reads.length n,.slice B t.writes.length m])∧bV7 w.heap.size w' t A n B m∧Below w.heap.size w w'
def RetTx (w:World) (t:Tx) (e:Ending) (w':World):Prop :=
 ∃ A n B m,e=.returned (.agg #[.int .i64 t.start,.slice A t.reads.length n,.slice B t.writes.length m])∧t.reads.length≤n∧t.writes.length≤m∧Ws (aB w.heap.size) w' A t.reads∧Ws (aB w.heap.size) w' B t.writes∧Below w.heap.size w w'
theorem cK7.bare {w:World} {t:Tx} {e:Ending} {w':World} (h:cK7 w t e w'):RetTx w t e w':=by
 obtain⟨A,n,B,m,he,ho,hb⟩:=h
 exact⟨A,n,B,m,he,ho.1,ho.2.1,ho.reads.less wrR_stays fun b _ h=>h.1,ho.writes.less wrR_stays fun b _ h=>h.1,hb⟩
theorem alloc2 (w:World) (a b:Obj):((w.alloc a).alloc b).heap[w.heap.size]?=some a∧((w.alloc a).alloc b).heap[w.heap.size+1]?=some b∧((w.alloc a).alloc b).heap.size=w.heap.size+2∧Below w.heap.size w ((w.alloc a).alloc b):=by
 refine⟨?_,?_,by simp,((Below.refl _ _).alloc zn _).alloc ZH2 _⟩
 ·rw[heap_alloc_old _ _ ZH2,heap_alloc_new]
 ·have:=heap_alloc_new (w.alloc a) b
  simpa using this
end Go.Proofs.YtablgnacmpcfeaaGreatDoor
