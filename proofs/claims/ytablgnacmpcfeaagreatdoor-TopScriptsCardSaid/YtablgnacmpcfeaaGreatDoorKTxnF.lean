/- TxnF: Walks: the closures of package txn, and the searches over them; txn.write and txn.touches. Walk: txn.Check. Walks: txn.writes and txn.own. The conditions of each are in its words. -/
import Derived.Test.YtablgnacmpcfeaaGreatDoorKTxn
import Derived.Test.YtablgnacmpcfeaaGreatDoorKCommit
namespace Go.Proofs.YtablgnacmpcfeaaGreatDoor
open Go.RowKit
set_option linter.unusedVariables false
set_option linter.unusedSimpArgs false
set_option maxRecDepth 100000
set_option maxHeartbeats 8000000
def aY7 (q:Wr→Bool) (l:List Wr):Int:=match l.findIdx? q with|some i=>(i:Int)|none=>-1
theorem aU3 {q:Wr→Bool} {l:List Wr} (h:l.any q=false):aY7 q l=-1:=by
 have h':l.findIdx? q=none:=by rw[List.findIdx?_eq_none_iff];simpa using h
 simp[aY7,h']
theorem aY8 {q:Wr→Bool} {l:List Wr} {k:Nat} (hk:k<l.length) (h:(l.take k).any q=false) (hq:q l[k]=true):aY7 q l=k:=by
 have h':l.findIdx? q=some k:=by
  rw[List.findIdx?_eq_some_iff_getElem]
  refine⟨hk,hq,fun j hj=>?_⟩
  simp only[List.any_eq_false] at h
  exact h _ (List.mem_take_iff_getElem.2 ⟨j,AO,rfl⟩)
 simp[aY7,h']
theorem bE9 (q:Wr→Bool) (l:List Wr):decide (0≤aY7 q l)=l.any q:=by
 unfold aY7
 cases h:l.findIdx? q with
 | none =>
  rw[List.findIdx?_eq_none_iff] at h
  have:l.any q=false:=by simpa using h
  rw[this];rfl
 | some i =>
  rw[List.findIdx?_eq_some_iff_getElem] at h
  obtain⟨h1,h2,_⟩:=h
  have:l.any q=true:=List.any_eq_true.2 ⟨_,List.getElem_mem h1,h2⟩
  rw[this];simp
theorem aU4 {q:Wr→Bool} {l:List Wr} {k:Nat} (hk:k<l.length) (h:(l.take k).any q=false) (hq:q l[k]=false):(l.take (k+1)).any q=false:=by
 rw[aC8 l k hk,List.any_append,h]
 simp[hq]
theorem cE1 {a b:List UInt8} (h:lt b a=true):0<aI4 a b:=by
 have h1:=cC6 _ _ h
 have h2:a≠b:=fun e=>by subst e;rw[lt_irrefl] at h;cases h
 simp[aI4,h1,h2]
theorem bJ0 {a b:List UInt8} (h:lt b a=false):aI4 a b≤0:=by
 unfold aI4
 split
 ·decide
 ·split
  ·decide
  ·rename_i h1 h2
   exact absurd (lt_tri _ _ ZE3 h) h2
def aK4 (r x:Wr):Bool:=r.name==x.name && (if r.flag=true then !lt x.key r.key && !lt r.value x.key else r.key==x.key)
theorem bN8 (w:World) (A B C A' B' C':Option Addr) (x y:Wr) (a b c a' b' c':Nat) (ha:Bs All w A x.name) (hb:Bs All w B x.key) (hc:Bs All w C x.value) (ha':Bs All w A' y.name) (hb':Bs All w B' y.key) (hc':Bs All w C' y.value) :
  Calls Tryz.prog 262 #[.agg #[.slice A x.name.length a,.slice B x.key.length b,.bool x.flag,.slice C x.value.length c],.agg #[.slice A' y.name.length a',.slice B' y.key.length b',.bool y.flag,.slice C' y.value.length c']] w (bQ w (.bool (aK4 x y))):=by
 have Ha:=zh ha
 have Hb:=zh hb
 have Hc:=zh hc
 have Ha':=zh ha'
 have Hb':=zh hb'
 have Hc':=zh hc'
 clear ha hb hc ha' hb' hc'
 obtain⟨xn,xk,xf,xv⟩:=x
 obtain⟨yn,yk,yf,yv⟩:=y
 dsimp only at *
 rcases Bool.eq_false_or_eq_true (xn==yn) with d1|d1
 ·
  cases xf with
  | true =>
   rcases Bool.eq_false_or_eq_true (lt yk xk) with d2|d2
   ·
    have e2:decide (0≤aI4 yk xk)=false:=by have:=aX8 d2;rw[decide_eq_false_iff_not];omega
    go_enter Tryz.func262,Tryz.ntmps262
    go_wp2_with (first
   | (go_at_call_of 115 A;(with_reducible refine (aA0 _ A A' xn yn a a' ?hx ?hy).mono ?_);(case hx=>(refine Ha.out.bbelow ?_;exact BE));(case hy=>(refine Ha'.out.bbelow ?_;exact BE));rintro e w2 ⟨rfl,rfl⟩)
   | (go_at_call_of 115 B;(with_reducible refine (aA0 _ B B' xk yk b b' ?hx ?hy).mono ?_);(case hx=>(refine Hb.out.bbelow ?_;exact BE));(case hy=>(refine Hb'.out.bbelow ?_;exact BE));rintro e w2 ⟨rfl,rfl⟩)
   | (go_at_call_of 103 B;(with_reducible refine (aA1 _ B' B yk xk b' b ?hx ?hy).mono ?_);(case hx=>(refine Hb'.out.bbelow ?_;exact BE));(case hy=>(refine Hb.out.bbelow ?_;exact BE));rintro e w2 ⟨rfl,rfl⟩)
   | (go_at_call_of 103 C;(with_reducible refine (aA1 _ B' C yk xv b' c ?hx ?hy).mono ?_);(case hx=>(refine Hb'.out.bbelow ?_;exact BE));(case hy=>(refine Hc.out.bbelow ?_;exact BE));rintro e w2 ⟨rfl,rfl⟩))
    go_ret
    refine⟨aC9 (by simp[aK4,d1,d2]),?_⟩
    exact BE
   ·
    have e2:decide (0≤aI4 yk xk)=true:=by have:=aO5 d2;rw[decide_eq_true_eq];omega
    rcases Bool.eq_false_or_eq_true (lt xv yk) with d3|d3
    ·
     have e3:decide (aI4 yk xv≤0)=false:=by have:=cE1 d3;rw[decide_eq_false_iff_not];omega
     go_enter Tryz.func262,Tryz.ntmps262
     go_wp2_with (first
   | (go_at_call_of 115 A;(with_reducible refine (aA0 _ A A' xn yn a a' ?hx ?hy).mono ?_);(case hx=>(refine Ha.out.bbelow ?_;exact BE));(case hy=>(refine Ha'.out.bbelow ?_;exact BE));rintro e w2 ⟨rfl,rfl⟩)
   | (go_at_call_of 115 B;(with_reducible refine (aA0 _ B B' xk yk b b' ?hx ?hy).mono ?_);(case hx=>(refine Hb.out.bbelow ?_;exact BE));(case hy=>(refine Hb'.out.bbelow ?_;exact BE));rintro e w2 ⟨rfl,rfl⟩)
   | (go_at_call_of 103 B;(with_reducible refine (aA1 _ B' B yk xk b' b ?hx ?hy).mono ?_);(case hx=>(refine Hb'.out.bbelow ?_;exact BE));(case hy=>(refine Hb.out.bbelow ?_;exact BE));rintro e w2 ⟨rfl,rfl⟩)
   | (go_at_call_of 103 C;(with_reducible refine (aA1 _ B' C yk xv b' c ?hx ?hy).mono ?_);(case hx=>(refine Hb'.out.bbelow ?_;exact BE));(case hy=>(refine Hc.out.bbelow ?_;exact BE));rintro e w2 ⟨rfl,rfl⟩))
     go_ret
     refine⟨aC9 (by simp[aK4,d1,d2,d3]),?_⟩
     exact BE
    ·
     have e3:decide (aI4 yk xv≤0)=true:=by have:=bJ0 d3;rw[decide_eq_true_eq];omega
     go_enter Tryz.func262,Tryz.ntmps262
     go_wp2_with (first
   | (go_at_call_of 115 A;(with_reducible refine (aA0 _ A A' xn yn a a' ?hx ?hy).mono ?_);(case hx=>(refine Ha.out.bbelow ?_;exact BE));(case hy=>(refine Ha'.out.bbelow ?_;exact BE));rintro e w2 ⟨rfl,rfl⟩)
   | (go_at_call_of 115 B;(with_reducible refine (aA0 _ B B' xk yk b b' ?hx ?hy).mono ?_);(case hx=>(refine Hb.out.bbelow ?_;exact BE));(case hy=>(refine Hb'.out.bbelow ?_;exact BE));rintro e w2 ⟨rfl,rfl⟩)
   | (go_at_call_of 103 B;(with_reducible refine (aA1 _ B' B yk xk b' b ?hx ?hy).mono ?_);(case hx=>(refine Hb'.out.bbelow ?_;exact BE));(case hy=>(refine Hb.out.bbelow ?_;exact BE));rintro e w2 ⟨rfl,rfl⟩)
   | (go_at_call_of 103 C;(with_reducible refine (aA1 _ B' C yk xv b' c ?hx ?hy).mono ?_);(case hx=>(refine Hb'.out.bbelow ?_;exact BE));(case hy=>(refine Hc.out.bbelow ?_;exact BE));rintro e w2 ⟨rfl,rfl⟩))
     go_ret
     refine⟨aC9 (by simp[aK4,d1,d2,d3]),?_⟩
     exact BE
  | false =>
   go_enter Tryz.func262,Tryz.ntmps262
   go_wp2_with (first
   | (go_at_call_of 115 A;(with_reducible refine (aA0 _ A A' xn yn a a' ?hx ?hy).mono ?_);(case hx=>(refine Ha.out.bbelow ?_;exact BE));(case hy=>(refine Ha'.out.bbelow ?_;exact BE));rintro e w2 ⟨rfl,rfl⟩)
   | (go_at_call_of 115 B;(with_reducible refine (aA0 _ B B' xk yk b b' ?hx ?hy).mono ?_);(case hx=>(refine Hb.out.bbelow ?_;exact BE));(case hy=>(refine Hb'.out.bbelow ?_;exact BE));rintro e w2 ⟨rfl,rfl⟩)
   | (go_at_call_of 103 B;(with_reducible refine (aA1 _ B' B yk xk b' b ?hx ?hy).mono ?_);(case hx=>(refine Hb'.out.bbelow ?_;exact BE));(case hy=>(refine Hb.out.bbelow ?_;exact BE));rintro e w2 ⟨rfl,rfl⟩)
   | (go_at_call_of 103 C;(with_reducible refine (aA1 _ B' C yk xv b' c ?hx ?hy).mono ?_);(case hx=>(refine Hb'.out.bbelow ?_;exact BE));(case hy=>(refine Hc.out.bbelow ?_;exact BE));rintro e w2 ⟨rfl,rfl⟩))
   go_ret
   refine⟨aC9 (by simp[aK4,d1]),?_⟩
   exact BE
 ·
  go_enter Tryz.func262,Tryz.ntmps262
  go_wp2_with (first
   | (go_at_call_of 115 A;(with_reducible refine (aA0 _ A A' xn yn a a' ?hx ?hy).mono ?_);(case hx=>(refine Ha.out.bbelow ?_;exact BE));(case hy=>(refine Ha'.out.bbelow ?_;exact BE));rintro e w2 ⟨rfl,rfl⟩)
   | (go_at_call_of 115 B;(with_reducible refine (aA0 _ B B' xk yk b b' ?hx ?hy).mono ?_);(case hx=>(refine Hb.out.bbelow ?_;exact BE));(case hy=>(refine Hb'.out.bbelow ?_;exact BE));rintro e w2 ⟨rfl,rfl⟩)
   | (go_at_call_of 103 B;(with_reducible refine (aA1 _ B' B yk xk b' b ?hx ?hy).mono ?_);(case hx=>(refine Hb'.out.bbelow ?_;exact BE));(case hy=>(refine Hb.out.bbelow ?_;exact BE));rintro e w2 ⟨rfl,rfl⟩)
   | (go_at_call_of 103 C;(with_reducible refine (aA1 _ B' C yk xv b' c ?hx ?hy).mono ?_);(case hx=>(refine Hb'.out.bbelow ?_;exact BE));(case hy=>(refine Hc.out.bbelow ?_;exact BE));rintro e w2 ⟨rfl,rfl⟩))
  go_ret
  refine⟨aC9 (by simp[aK4,d1]),?_⟩
  exact BE
theorem aF5 (w:World) (A B C:Option Addr) (x:Wr) (a b c:Nat) (ha:Bs All w A x.name) (hb:Bs All w B x.key) (hc:Bs All w C x.value) (h1:x.name.length≤big) (h2:x.key.length≤big) (h3:x.value.length≤big) :
  Calls Tryz.prog 64 #[.agg #[.slice A x.name.length a,.slice B x.key.length b,.bool x.flag,.slice C x.value.length c]] w (bQ w (.int .i64 (aH x))):=by
 have Ha:=zh ha
 have Hb:=zh hb
 have Hc:=zh hc
 have Hone:=zh (bE8 x)
 clear ha hb hc
 go_enter Tryz.func64,Tryz.ntmps64
 go_wp2_with (go_at_call 30;refine (aJ0 _ none [] 0 _ [x] 1 SL.nil ?hws).mono ?_;(case hws=>exact bH1 (w:=w) (w.heap.size+1) (by have:=aK (w.alloc (.cells #[.slice A x.name.length a,.slice B x.key.length b,.bool x.flag,.slice C x.value.length c] 102)) #[.slice A x.name.length a,.slice B x.key.length b,.bool x.flag,.slice C x.value.length c] 102;simpa using this) (((Below.refl _ _).alloc zn _).alloc ZH2 _) Ha.out Hb.out Hc.out h1 h2 h3);rintro e w1 ⟨A5,c5,rfl,_,_,hbw1⟩;rw[Hone.out])
 go_ret
 exact⟨rfl,(((Below.refl w.heap.size w).alloc zn _).alloc ZH2 _).next hbw1 ZC8⟩
theorem cQ3 (w:World) (g:Nat) (A B C A' B' C':Option Addr) (x y:Wr) (a b c a' b' c':Nat) (ha:Bs All w A x.name) (hb:Bs All w B x.key) (hc:Bs All w C x.value) (ha':Bs All w A' y.name) (hb':Bs All w B' y.key) (hc':Bs All w C' y.value) (hg:w.heap[g]?=some (.cells #[.slice A' y.name.length a',.slice B' y.key.length b',.bool y.flag,.slice C' y.value.length c'] 204 (0,0))) :
  Calls Tryz.prog 110 #[.agg #[.slice A x.name.length a,.slice B x.key.length b,.bool x.flag,.slice C x.value.length c],.pointer (some ⟨g,0,none⟩)] w (bQ w (.bool (aC7 x y))):=by
 have Ha:=zh ha
 have Hb:=zh hb
 have Hc:=zh hc
 have Ha':=zh ha'
 have Hb':=zh hb'
 have Hc':=zh hc'
 clear ha hb hc ha' hb' hc'
 obtain⟨q0,q1,q2,q3,_⟩:=bG hg
 have hlt:g<w.heap.size:=(Array.getElem?_eq_some_iff.1 hg).1
 clear hg
 go_enter Tryz.func110,Tryz.ntmps110
 go_wp2_with (go_at_call 111;refine (aX6 _ A B C A' B' C' x y a b c a' b' c' (Ha.out.bbelow ?_) (Hb.out.bbelow ?_) (Hc.out.bbelow ?_) (Ha'.out.bbelow ?_) (Hb'.out.bbelow ?_) (Hc'.out.bbelow ?_)).mono ?_;(all_goals try exact BE);rintro e w1 ⟨rfl,hb1⟩)
 go_ret
 exact ZC3
theorem chk1_idx (w:World) (L:Option Addr) (l:List Wr) (n:Nat) (g:Nat) (A' B' C':Option Addr) (y:Wr) (a' b' c':Nat) (hl:Ws All w L l) (hn:l.length≤big) (ha':Bs All w A' y.name) (hb':Bs All w B' y.key) (hc':Bs All w C' y.value) (hg:w.heap[g]?=some (.cells #[.slice A' y.name.length a',.slice B' y.key.length b',.bool y.flag,.slice C' y.value.length c'] 204 (0,0))) :
  Calls Tryz.prog 171 #[.slice L l.length n,.func (.func 110) #[] #[.pointer (some ⟨g,0,none⟩)]] w (bQ w (.int .i64 (aY7 (fun x=>aC7 x y) l))):=by
 unfold big at hn
 have Hl:=zh hl
 have Ha':=zh ha'
 have Hb':=zh hb'
 have Hc':=zh hc'
 have Hg:=zh hg
 have hgl:g<w.heap.size:=(Array.getElem?_eq_some_iff.1 hg).1
 clear hl ha' hb' hc' hg
 go_enter Tryz.func171,Tryz.ntmps171
 go_wp2
 go_loopw [8] (fun i wr=>∃ k:Nat,k≤l.length∧i=.int .i64 k∧(l.take k).any (fun x=>aC7 x y)=false∧Below w.heap.size w wr) (fun i _=>l.length - (intOf i).toNat)
 case atStart=>exact⟨0,AO,rfl,rfl,Below.refl _ _⟩
 case round =>
  obtain⟨k,hk,rfl,hno,hbel⟩:=hrel
  have Hbel:=zh hbel
  have hbz:=hbel.size
  have Hno:=zh hno
  clear hbel hno
  by_cases hlt:k<l.length
  ·obtain⟨g2,off,A,a,B,b,C,c,rfl,_,hal,hc1,hc2,hc3,hc4,hs1,hs2,hs3,_,_,_⟩:=aF4 (Hl.out.below wrR_stays Hbel.out) hlt
   have Hhere:=zh (fun h=>aY8 (q:=fun x=>aC7 x y) hlt Hno.out h)
   have Hnext:=zh (fun h=>aU4 (q:=fun x=>aC7 x y) hlt Hno.out h)
   generalize l[k]=x at *
   have Hs1:=zh hs1.bz
   have Hs2:=zh hs2.bz
   have Hs3:=zh hs3.bz
   clear hs1 hs2 hs3
   rcases Bool.eq_false_or_eq_true (aC7 x y) with hq|hq
   ·have Hh:=zh (Hhere.out hq)
    have Hq:=zh hq
    clear Hhere Hnext hq
    go_wp2_with (go_at_call 110;refine (cQ3 _ g A B C A' B' C' x y a b c a' b' c' Hs1.out Hs2.out Hs3.out (Ha'.out.bbelow Hbel.out) (Hb'.out.bbelow Hbel.out) (Hc'.out.bbelow Hbel.out) ((Hbel.out.block _ hgl).trans Hg.out)).mono ?_;rintro e w1 ⟨rfl,hb1⟩;rw[Hq.out])
    go_ret
    exact⟨aM (by rw[Hh.out]),Hbel.out.next hb1 hbz⟩
   ·have Hh:=zh (Hnext.out hq)
    have Hq:=zh hq
    clear Hhere Hnext hq
    go_wp2_with (go_at_call 110;refine (cQ3 _ g A B C A' B' C' x y a b c a' b' c' Hs1.out Hs2.out Hs3.out (Ha'.out.bbelow Hbel.out) (Hb'.out.bbelow Hbel.out) (Hc'.out.bbelow Hbel.out) ((Hbel.out.block _ hgl).trans Hg.out)).mono ?_;rintro e w1 ⟨rfl,hb1⟩;rw[Hq.out])
    go_roundw
    case rel=>exact⟨k+1,AO,by go_num,Hh.out,Hbel.out.next hb1 hbz⟩
    case measure=>simp[intOf];omega
  ·obtain rfl:k=l.length:=by omega
   have hf:=Hno.out
   rw[List.take_length] at hf
   have Hf:=zh (aU3 hf)
   clear hf Hno
   go_wp2
   go_ret
   exact⟨aM (by rw[Hf.out]),Hbel.out⟩
theorem chk1_has (w:World) (L:Option Addr) (l:List Wr) (n:Nat) (g:Nat) (A' B' C':Option Addr) (y:Wr) (a' b' c':Nat) (hl:Ws All w L l) (hn:l.length≤big) (ha':Bs All w A' y.name) (hb':Bs All w B' y.key) (hc':Bs All w C' y.value) (hg:w.heap[g]?=some (.cells #[.slice A' y.name.length a',.slice B' y.key.length b',.bool y.flag,.slice C' y.value.length c'] 204 (0,0))) :
  Calls Tryz.prog 109 #[.slice L l.length n,.func (.func 110) #[] #[.pointer (some ⟨g,0,none⟩)]] w (bQ w (.bool (l.any (fun x=>aC7 x y)))):=by
 have Hi:=zh (chk1_idx w L l n g A' B' C' y a' b' c' hl hn ha' hb' hc' hg)
 have Hany:=zh (bE9 (fun x=>aC7 x y) l)
 clear hl ha' hb' hc' hg
 go_enter Tryz.func109,Tryz.ntmps109
 go_wp2_with (go_at_call 171;refine Hi.out.mono ?_;rintro e w1 ⟨rfl,hb1⟩)
 go_ret
 exact⟨aC9 (by rw[← Hany.out]),hb1⟩
theorem cQ4 (w:World) (g:Nat) (A B C A' B' C':Option Addr) (x y:Wr) (a b c a' b' c':Nat) (ha:Bs All w A x.name) (hb:Bs All w B x.key) (hc:Bs All w C x.value) (ha':Bs All w A' y.name) (hb':Bs All w B' y.key) (hc':Bs All w C' y.value) (hg:w.heap[g]?=some (.cells #[.slice A' y.name.length a',.slice B' y.key.length b',.bool y.flag,.slice C' y.value.length c'] 102 (0,0))) :
  Calls Tryz.prog 113 #[.agg #[.slice A x.name.length a,.slice B x.key.length b,.bool x.flag,.slice C x.value.length c],.pointer (some ⟨g,0,none⟩)] w (bQ w (.bool (bE x y))):=by
 have Ha:=zh ha
 have Hb:=zh hb
 have Hc:=zh hc
 have Ha':=zh ha'
 have Hb':=zh hb'
 have Hc':=zh hc'
 clear ha hb hc ha' hb' hc'
 obtain⟨q0,q1,q2,q3,_⟩:=bG hg
 have hlt:g<w.heap.size:=(Array.getElem?_eq_some_iff.1 hg).1
 clear hg
 go_enter Tryz.func113,Tryz.ntmps113
 go_wp2_with (go_at_call 69;refine (aH0 _ A B C A' B' C' x y a b c a' b' c' (Ha.out.bbelow ?_) (Hb.out.bbelow ?_) (Hc.out.bbelow ?_) (Ha'.out.bbelow ?_) (Hb'.out.bbelow ?_) (Hc'.out.bbelow ?_)).mono ?_;(all_goals try exact BE);rintro e w1 ⟨rfl,hb1⟩)
 go_ret
 exact ZC3
theorem chk2_idx (w:World) (L:Option Addr) (l:List Wr) (n:Nat) (g:Nat) (A' B' C':Option Addr) (y:Wr) (a' b' c':Nat) (hl:Ws All w L l) (hn:l.length≤big) (ha':Bs All w A' y.name) (hb':Bs All w B' y.key) (hc':Bs All w C' y.value) (hg:w.heap[g]?=some (.cells #[.slice A' y.name.length a',.slice B' y.key.length b',.bool y.flag,.slice C' y.value.length c'] 102 (0,0))) :
  Calls Tryz.prog 67 #[.slice L l.length n,.func (.func 113) #[] #[.pointer (some ⟨g,0,none⟩)]] w (bQ w (.int .i64 (aY7 (fun x=>bE x y) l))):=by
 unfold big at hn
 have Hl:=zh hl
 have Ha':=zh ha'
 have Hb':=zh hb'
 have Hc':=zh hc'
 have Hg:=zh hg
 have hgl:g<w.heap.size:=(Array.getElem?_eq_some_iff.1 hg).1
 clear hl ha' hb' hc' hg
 go_enter Tryz.func67,Tryz.ntmps67
 go_wp2
 go_loopw [8] (fun i wr=>∃ k:Nat,k≤l.length∧i=.int .i64 k∧(l.take k).any (fun x=>bE x y)=false∧Below w.heap.size w wr) (fun i _=>l.length - (intOf i).toNat)
 case atStart=>exact⟨0,AO,rfl,rfl,Below.refl _ _⟩
 case round =>
  obtain⟨k,hk,rfl,hno,hbel⟩:=hrel
  have Hbel:=zh hbel
  have hbz:=hbel.size
  have Hno:=zh hno
  clear hbel hno
  by_cases hlt:k<l.length
  ·obtain⟨g2,off,A,a,B,b,C,c,rfl,_,hal,hc1,hc2,hc3,hc4,hs1,hs2,hs3,_,_,_⟩:=aF4 (Hl.out.below wrR_stays Hbel.out) hlt
   have Hhere:=zh (fun h=>aY8 (q:=fun x=>bE x y) hlt Hno.out h)
   have Hnext:=zh (fun h=>aU4 (q:=fun x=>bE x y) hlt Hno.out h)
   generalize l[k]=x at *
   have Hs1:=zh hs1.bz
   have Hs2:=zh hs2.bz
   have Hs3:=zh hs3.bz
   clear hs1 hs2 hs3
   rcases Bool.eq_false_or_eq_true (bE x y) with hq|hq
   ·have Hh:=zh (Hhere.out hq)
    have Hq:=zh hq
    clear Hhere Hnext hq
    go_wp2_with (go_at_call 113;refine (cQ4 _ g A B C A' B' C' x y a b c a' b' c' Hs1.out Hs2.out Hs3.out (Ha'.out.bbelow Hbel.out) (Hb'.out.bbelow Hbel.out) (Hc'.out.bbelow Hbel.out) ((Hbel.out.block _ hgl).trans Hg.out)).mono ?_;rintro e w1 ⟨rfl,hb1⟩;rw[Hq.out])
    go_ret
    exact⟨aM (by rw[Hh.out]),Hbel.out.next hb1 hbz⟩
   ·have Hh:=zh (Hnext.out hq)
    have Hq:=zh hq
    clear Hhere Hnext hq
    go_wp2_with (go_at_call 113;refine (cQ4 _ g A B C A' B' C' x y a b c a' b' c' Hs1.out Hs2.out Hs3.out (Ha'.out.bbelow Hbel.out) (Hb'.out.bbelow Hbel.out) (Hc'.out.bbelow Hbel.out) ((Hbel.out.block _ hgl).trans Hg.out)).mono ?_;rintro e w1 ⟨rfl,hb1⟩;rw[Hq.out])
    go_roundw
    case rel=>exact⟨k+1,AO,by go_num,Hh.out,Hbel.out.next hb1 hbz⟩
    case measure=>simp[intOf];omega
  ·obtain rfl:k=l.length:=by omega
   have hf:=Hno.out
   rw[List.take_length] at hf
   have Hf:=zh (aU3 hf)
   clear hf Hno
   go_wp2
   go_ret
   exact⟨aM (by rw[Hf.out]),Hbel.out⟩
theorem chk2_has (w:World) (L:Option Addr) (l:List Wr) (n:Nat) (g:Nat) (A' B' C':Option Addr) (y:Wr) (a' b' c':Nat) (hl:Ws All w L l) (hn:l.length≤big) (ha':Bs All w A' y.name) (hb':Bs All w B' y.key) (hc':Bs All w C' y.value) (hg:w.heap[g]?=some (.cells #[.slice A' y.name.length a',.slice B' y.key.length b',.bool y.flag,.slice C' y.value.length c'] 102 (0,0))) :
  Calls Tryz.prog 112 #[.slice L l.length n,.func (.func 113) #[] #[.pointer (some ⟨g,0,none⟩)]] w (bQ w (.bool (l.any (fun x=>bE x y)))):=by
 have Hi:=zh (chk2_idx w L l n g A' B' C' y a' b' c' hl hn ha' hb' hc' hg)
 have Hany:=zh (bE9 (fun x=>bE x y) l)
 clear hl ha' hb' hc' hg
 go_enter Tryz.func112,Tryz.ntmps112
 go_wp2_with (go_at_call 67;refine Hi.out.mono ?_;rintro e w1 ⟨rfl,hb1⟩)
 go_ret
 exact⟨aC9 (by rw[← Hany.out]),hb1⟩
theorem cQ5 (w:World) (g:Nat) (A B C A' B' C':Option Addr) (x y:Wr) (a b c a' b' c':Nat) (ha:Bs All w A x.name) (hb:Bs All w B x.key) (hc:Bs All w C x.value) (ha':Bs All w A' y.name) (hb':Bs All w B' y.key) (hc':Bs All w C' y.value) (hg:w.heap[g]?=some (.cells #[.slice A' y.name.length a',.slice B' y.key.length b',.bool y.flag,.slice C' y.value.length c'] 204 (0,0))) :
  Calls Tryz.prog 260 #[.agg #[.slice A x.name.length a,.slice B x.key.length b,.bool x.flag,.slice C x.value.length c],.pointer (some ⟨g,0,none⟩)] w (bQ w (.bool (aC7 x y))):=by
 have Ha:=zh ha
 have Hb:=zh hb
 have Hc:=zh hc
 have Ha':=zh ha'
 have Hb':=zh hb'
 have Hc':=zh hc'
 clear ha hb hc ha' hb' hc'
 obtain⟨q0,q1,q2,q3,_⟩:=bG hg
 have hlt:g<w.heap.size:=(Array.getElem?_eq_some_iff.1 hg).1
 clear hg
 go_enter Tryz.func260,Tryz.ntmps260
 go_wp2_with (go_at_call 111;refine (aX6 _ A B C A' B' C' x y a b c a' b' c' (Ha.out.bbelow ?_) (Hb.out.bbelow ?_) (Hc.out.bbelow ?_) (Ha'.out.bbelow ?_) (Hb'.out.bbelow ?_) (Hc'.out.bbelow ?_)).mono ?_;(all_goals try exact BE);rintro e w1 ⟨rfl,hb1⟩)
 go_ret
 exact ZC3
theorem not1_idx (w:World) (L:Option Addr) (l:List Wr) (n:Nat) (g:Nat) (A' B' C':Option Addr) (y:Wr) (a' b' c':Nat) (hl:Ws All w L l) (hn:l.length≤big) (ha':Bs All w A' y.name) (hb':Bs All w B' y.key) (hc':Bs All w C' y.value) (hg:w.heap[g]?=some (.cells #[.slice A' y.name.length a',.slice B' y.key.length b',.bool y.flag,.slice C' y.value.length c'] 204 (0,0))) :
  Calls Tryz.prog 171 #[.slice L l.length n,.func (.func 260) #[] #[.pointer (some ⟨g,0,none⟩)]] w (bQ w (.int .i64 (aY7 (fun x=>aC7 x y) l))):=by
 unfold big at hn
 have Hl:=zh hl
 have Ha':=zh ha'
 have Hb':=zh hb'
 have Hc':=zh hc'
 have Hg:=zh hg
 have hgl:g<w.heap.size:=(Array.getElem?_eq_some_iff.1 hg).1
 clear hl ha' hb' hc' hg
 go_enter Tryz.func171,Tryz.ntmps171
 go_wp2
 go_loopw [8] (fun i wr=>∃ k:Nat,k≤l.length∧i=.int .i64 k∧(l.take k).any (fun x=>aC7 x y)=false∧Below w.heap.size w wr) (fun i _=>l.length - (intOf i).toNat)
 case atStart=>exact⟨0,AO,rfl,rfl,Below.refl _ _⟩
 case round =>
  obtain⟨k,hk,rfl,hno,hbel⟩:=hrel
  have Hbel:=zh hbel
  have hbz:=hbel.size
  have Hno:=zh hno
  clear hbel hno
  by_cases hlt:k<l.length
  ·obtain⟨g2,off,A,a,B,b,C,c,rfl,_,hal,hc1,hc2,hc3,hc4,hs1,hs2,hs3,_,_,_⟩:=aF4 (Hl.out.below wrR_stays Hbel.out) hlt
   have Hhere:=zh (fun h=>aY8 (q:=fun x=>aC7 x y) hlt Hno.out h)
   have Hnext:=zh (fun h=>aU4 (q:=fun x=>aC7 x y) hlt Hno.out h)
   generalize l[k]=x at *
   have Hs1:=zh hs1.bz
   have Hs2:=zh hs2.bz
   have Hs3:=zh hs3.bz
   clear hs1 hs2 hs3
   rcases Bool.eq_false_or_eq_true (aC7 x y) with hq|hq
   ·have Hh:=zh (Hhere.out hq)
    have Hq:=zh hq
    clear Hhere Hnext hq
    go_wp2_with (go_at_call 260;refine (cQ5 _ g A B C A' B' C' x y a b c a' b' c' Hs1.out Hs2.out Hs3.out (Ha'.out.bbelow Hbel.out) (Hb'.out.bbelow Hbel.out) (Hc'.out.bbelow Hbel.out) ((Hbel.out.block _ hgl).trans Hg.out)).mono ?_;rintro e w1 ⟨rfl,hb1⟩;rw[Hq.out])
    go_ret
    exact⟨aM (by rw[Hh.out]),Hbel.out.next hb1 hbz⟩
   ·have Hh:=zh (Hnext.out hq)
    have Hq:=zh hq
    clear Hhere Hnext hq
    go_wp2_with (go_at_call 260;refine (cQ5 _ g A B C A' B' C' x y a b c a' b' c' Hs1.out Hs2.out Hs3.out (Ha'.out.bbelow Hbel.out) (Hb'.out.bbelow Hbel.out) (Hc'.out.bbelow Hbel.out) ((Hbel.out.block _ hgl).trans Hg.out)).mono ?_;rintro e w1 ⟨rfl,hb1⟩;rw[Hq.out])
    go_roundw
    case rel=>exact⟨k+1,AO,by go_num,Hh.out,Hbel.out.next hb1 hbz⟩
    case measure=>simp[intOf];omega
  ·obtain rfl:k=l.length:=by omega
   have hf:=Hno.out
   rw[List.take_length] at hf
   have Hf:=zh (aU3 hf)
   clear hf Hno
   go_wp2
   go_ret
   exact⟨aM (by rw[Hf.out]),Hbel.out⟩
theorem bN9 (w:World) (L:Option Addr) (l:List Wr) (n:Nat) (g:Nat) (A' B' C':Option Addr) (y:Wr) (a' b' c':Nat) (hl:Ws All w L l) (hn:l.length≤big) (ha':Bs All w A' y.name) (hb':Bs All w B' y.key) (hc':Bs All w C' y.value) (hg:w.heap[g]?=some (.cells #[.slice A' y.name.length a',.slice B' y.key.length b',.bool y.flag,.slice C' y.value.length c'] 204 (0,0))) :
  Calls Tryz.prog 109 #[.slice L l.length n,.func (.func 260) #[] #[.pointer (some ⟨g,0,none⟩)]] w (bQ w (.bool (l.any (fun x=>aC7 x y)))):=by
 have Hi:=zh (not1_idx w L l n g A' B' C' y a' b' c' hl hn ha' hb' hc' hg)
 have Hany:=zh (bE9 (fun x=>aC7 x y) l)
 clear hl ha' hb' hc' hg
 go_enter Tryz.func109,Tryz.ntmps109
 go_wp2_with (go_at_call 171;refine Hi.out.mono ?_;rintro e w1 ⟨rfl,hb1⟩)
 go_ret
 exact⟨aC9 (by rw[← Hany.out]),hb1⟩
theorem cQ6 (w:World) (g:Nat) (A B C A' B' C':Option Addr) (x y:Wr) (a b c a' b' c':Nat) (ha:Bs All w A x.name) (hb:Bs All w B x.key) (hc:Bs All w C x.value) (ha':Bs All w A' y.name) (hb':Bs All w B' y.key) (hc':Bs All w C' y.value) (hg:w.heap[g]?=some (.cells #[.slice A' y.name.length a',.slice B' y.key.length b',.bool y.flag,.slice C' y.value.length c'] 102 (0,0))) :
  Calls Tryz.prog 68 #[.agg #[.slice A x.name.length a,.slice B x.key.length b,.bool x.flag,.slice C x.value.length c],.pointer (some ⟨g,0,none⟩)] w (bQ w (.bool (bE x y))):=by
 have Ha:=zh ha
 have Hb:=zh hb
 have Hc:=zh hc
 have Ha':=zh ha'
 have Hb':=zh hb'
 have Hc':=zh hc'
 clear ha hb hc ha' hb' hc'
 obtain⟨q0,q1,q2,q3,_⟩:=bG hg
 have hlt:g<w.heap.size:=(Array.getElem?_eq_some_iff.1 hg).1
 clear hg
 go_enter Tryz.func68,Tryz.ntmps68
 go_wp2_with (go_at_call 69;refine (aH0 _ A B C A' B' C' x y a b c a' b' c' (Ha.out.bbelow ?_) (Hb.out.bbelow ?_) (Hc.out.bbelow ?_) (Ha'.out.bbelow ?_) (Hb'.out.bbelow ?_) (Hc'.out.bbelow ?_)).mono ?_;(all_goals try exact BE);rintro e w1 ⟨rfl,hb1⟩)
 go_ret
 exact ZC3
theorem bO0 (w:World) (L:Option Addr) (l:List Wr) (n:Nat) (g:Nat) (A' B' C':Option Addr) (y:Wr) (a' b' c':Nat) (hl:Ws All w L l) (hn:l.length≤big) (ha':Bs All w A' y.name) (hb':Bs All w B' y.key) (hc':Bs All w C' y.value) (hg:w.heap[g]?=some (.cells #[.slice A' y.name.length a',.slice B' y.key.length b',.bool y.flag,.slice C' y.value.length c'] 102 (0,0))) :
  Calls Tryz.prog 67 #[.slice L l.length n,.func (.func 68) #[] #[.pointer (some ⟨g,0,none⟩)]] w (bQ w (.int .i64 (aY7 (fun x=>bE x y) l))):=by
 unfold big at hn
 have Hl:=zh hl
 have Ha':=zh ha'
 have Hb':=zh hb'
 have Hc':=zh hc'
 have Hg:=zh hg
 have hgl:g<w.heap.size:=(Array.getElem?_eq_some_iff.1 hg).1
 clear hl ha' hb' hc' hg
 go_enter Tryz.func67,Tryz.ntmps67
 go_wp2
 go_loopw [8] (fun i wr=>∃ k:Nat,k≤l.length∧i=.int .i64 k∧(l.take k).any (fun x=>bE x y)=false∧Below w.heap.size w wr) (fun i _=>l.length - (intOf i).toNat)
 case atStart=>exact⟨0,AO,rfl,rfl,Below.refl _ _⟩
 case round =>
  obtain⟨k,hk,rfl,hno,hbel⟩:=hrel
  have Hbel:=zh hbel
  have hbz:=hbel.size
  have Hno:=zh hno
  clear hbel hno
  by_cases hlt:k<l.length
  ·obtain⟨g2,off,A,a,B,b,C,c,rfl,_,hal,hc1,hc2,hc3,hc4,hs1,hs2,hs3,_,_,_⟩:=aF4 (Hl.out.below wrR_stays Hbel.out) hlt
   have Hhere:=zh (fun h=>aY8 (q:=fun x=>bE x y) hlt Hno.out h)
   have Hnext:=zh (fun h=>aU4 (q:=fun x=>bE x y) hlt Hno.out h)
   generalize l[k]=x at *
   have Hs1:=zh hs1.bz
   have Hs2:=zh hs2.bz
   have Hs3:=zh hs3.bz
   clear hs1 hs2 hs3
   rcases Bool.eq_false_or_eq_true (bE x y) with hq|hq
   ·have Hh:=zh (Hhere.out hq)
    have Hq:=zh hq
    clear Hhere Hnext hq
    go_wp2_with (go_at_call 68;refine (cQ6 _ g A B C A' B' C' x y a b c a' b' c' Hs1.out Hs2.out Hs3.out (Ha'.out.bbelow Hbel.out) (Hb'.out.bbelow Hbel.out) (Hc'.out.bbelow Hbel.out) ((Hbel.out.block _ hgl).trans Hg.out)).mono ?_;rintro e w1 ⟨rfl,hb1⟩;rw[Hq.out])
    go_ret
    exact⟨aM (by rw[Hh.out]),Hbel.out.next hb1 hbz⟩
   ·have Hh:=zh (Hnext.out hq)
    have Hq:=zh hq
    clear Hhere Hnext hq
    go_wp2_with (go_at_call 68;refine (cQ6 _ g A B C A' B' C' x y a b c a' b' c' Hs1.out Hs2.out Hs3.out (Ha'.out.bbelow Hbel.out) (Hb'.out.bbelow Hbel.out) (Hc'.out.bbelow Hbel.out) ((Hbel.out.block _ hgl).trans Hg.out)).mono ?_;rintro e w1 ⟨rfl,hb1⟩;rw[Hq.out])
    go_roundw
    case rel=>exact⟨k+1,AO,by go_num,Hh.out,Hbel.out.next hb1 hbz⟩
    case measure=>simp[intOf];omega
  ·obtain rfl:k=l.length:=by omega
   have hf:=Hno.out
   rw[List.take_length] at hf
   have Hf:=zh (aU3 hf)
   clear hf Hno
   go_wp2
   go_ret
   exact⟨aM (by rw[Hf.out]),Hbel.out⟩
theorem cQ7 (w:World) (g:Nat) (A B C A' B' C':Option Addr) (x y:Wr) (a b c a' b' c':Nat) (ha:Bs All w A x.name) (hb:Bs All w B x.key) (hc:Bs All w C x.value) (ha':Bs All w A' y.name) (hb':Bs All w B' y.key) (hc':Bs All w C' y.value) (hg:w.heap[g]?=some (.cells #[.slice A' y.name.length a',.slice B' y.key.length b',.bool y.flag,.slice C' y.value.length c'] 102 (0,0))) :
  Calls Tryz.prog 261 #[.agg #[.slice A x.name.length a,.slice B x.key.length b,.bool x.flag,.slice C x.value.length c],.pointer (some ⟨g,0,none⟩)] w (bQ w (.bool (aK4 x y))):=by
 have Ha:=zh ha
 have Hb:=zh hb
 have Hc:=zh hc
 have Ha':=zh ha'
 have Hb':=zh hb'
 have Hc':=zh hc'
 clear ha hb hc ha' hb' hc'
 obtain⟨q0,q1,q2,q3,_⟩:=bG hg
 have hlt:g<w.heap.size:=(Array.getElem?_eq_some_iff.1 hg).1
 clear hg
 go_enter Tryz.func261,Tryz.ntmps261
 go_wp2_with (go_at_call 262;refine (bN8 _ A B C A' B' C' x y a b c a' b' c' (Ha.out.bbelow ?_) (Hb.out.bbelow ?_) (Hc.out.bbelow ?_) (Ha'.out.bbelow ?_) (Hb'.out.bbelow ?_) (Hc'.out.bbelow ?_)).mono ?_;(all_goals try exact BE);rintro e w1 ⟨rfl,hb1⟩)
 go_ret
 exact ZC3
theorem cla1_idx (w:World) (L:Option Addr) (l:List Wr) (n:Nat) (g:Nat) (A' B' C':Option Addr) (y:Wr) (a' b' c':Nat) (hl:Ws All w L l) (hn:l.length≤big) (ha':Bs All w A' y.name) (hb':Bs All w B' y.key) (hc':Bs All w C' y.value) (hg:w.heap[g]?=some (.cells #[.slice A' y.name.length a',.slice B' y.key.length b',.bool y.flag,.slice C' y.value.length c'] 102 (0,0))) :
  Calls Tryz.prog 171 #[.slice L l.length n,.func (.func 261) #[] #[.pointer (some ⟨g,0,none⟩)]] w (bQ w (.int .i64 (aY7 (fun x=>aK4 x y) l))):=by
 unfold big at hn
 have Hl:=zh hl
 have Ha':=zh ha'
 have Hb':=zh hb'
 have Hc':=zh hc'
 have Hg:=zh hg
 have hgl:g<w.heap.size:=(Array.getElem?_eq_some_iff.1 hg).1
 clear hl ha' hb' hc' hg
 go_enter Tryz.func171,Tryz.ntmps171
 go_wp2
 go_loopw [8] (fun i wr=>∃ k:Nat,k≤l.length∧i=.int .i64 k∧(l.take k).any (fun x=>aK4 x y)=false∧Below w.heap.size w wr) (fun i _=>l.length - (intOf i).toNat)
 case atStart=>exact⟨0,AO,rfl,rfl,Below.refl _ _⟩
 case round =>
  obtain⟨k,hk,rfl,hno,hbel⟩:=hrel
  have Hbel:=zh hbel
  have hbz:=hbel.size
  have Hno:=zh hno
  clear hbel hno
  by_cases hlt:k<l.length
  ·obtain⟨g2,off,A,a,B,b,C,c,rfl,_,hal,hc1,hc2,hc3,hc4,hs1,hs2,hs3,_,_,_⟩:=aF4 (Hl.out.below wrR_stays Hbel.out) hlt
   have Hhere:=zh (fun h=>aY8 (q:=fun x=>aK4 x y) hlt Hno.out h)
   have Hnext:=zh (fun h=>aU4 (q:=fun x=>aK4 x y) hlt Hno.out h)
   generalize l[k]=x at *
   have Hs1:=zh hs1.bz
   have Hs2:=zh hs2.bz
   have Hs3:=zh hs3.bz
   clear hs1 hs2 hs3
   rcases Bool.eq_false_or_eq_true (aK4 x y) with hq|hq
   ·have Hh:=zh (Hhere.out hq)
    have Hq:=zh hq
    clear Hhere Hnext hq
    go_wp2_with (go_at_call 261;refine (cQ7 _ g A B C A' B' C' x y a b c a' b' c' Hs1.out Hs2.out Hs3.out (Ha'.out.bbelow Hbel.out) (Hb'.out.bbelow Hbel.out) (Hc'.out.bbelow Hbel.out) ((Hbel.out.block _ hgl).trans Hg.out)).mono ?_;rintro e w1 ⟨rfl,hb1⟩;rw[Hq.out])
    go_ret
    exact⟨aM (by rw[Hh.out]),Hbel.out.next hb1 hbz⟩
   ·have Hh:=zh (Hnext.out hq)
    have Hq:=zh hq
    clear Hhere Hnext hq
    go_wp2_with (go_at_call 261;refine (cQ7 _ g A B C A' B' C' x y a b c a' b' c' Hs1.out Hs2.out Hs3.out (Ha'.out.bbelow Hbel.out) (Hb'.out.bbelow Hbel.out) (Hc'.out.bbelow Hbel.out) ((Hbel.out.block _ hgl).trans Hg.out)).mono ?_;rintro e w1 ⟨rfl,hb1⟩;rw[Hq.out])
    go_roundw
    case rel=>exact⟨k+1,AO,by go_num,Hh.out,Hbel.out.next hb1 hbz⟩
    case measure=>simp[intOf];omega
  ·obtain rfl:k=l.length:=by omega
   have hf:=Hno.out
   rw[List.take_length] at hf
   have Hf:=zh (aU3 hf)
   clear hf Hno
   go_wp2
   go_ret
   exact⟨aM (by rw[Hf.out]),Hbel.out⟩
theorem cE2 (w:World) (L:Option Addr) (l:List Wr) (n:Nat) (g:Nat) (A' B' C':Option Addr) (y:Wr) (a' b' c':Nat) (hl:Ws All w L l) (hn:l.length≤big) (ha':Bs All w A' y.name) (hb':Bs All w B' y.key) (hc':Bs All w C' y.value) (hg:w.heap[g]?=some (.cells #[.slice A' y.name.length a',.slice B' y.key.length b',.bool y.flag,.slice C' y.value.length c'] 102 (0,0))) :
  Calls Tryz.prog 109 #[.slice L l.length n,.func (.func 261) #[] #[.pointer (some ⟨g,0,none⟩)]] w (bQ w (.bool (l.any (fun x=>aK4 x y)))):=by
 have Hi:=zh (cla1_idx w L l n g A' B' C' y a' b' c' hl hn ha' hb' hc' hg)
 have Hany:=zh (bE9 (fun x=>aK4 x y) l)
 clear hl ha' hb' hc' hg
 go_enter Tryz.func109,Tryz.ntmps109
 go_wp2_with (go_at_call 171;refine Hi.out.mono ?_;rintro e w1 ⟨rfl,hb1⟩)
 go_ret
 exact⟨aC9 (by rw[← Hany.out]),hb1⟩
theorem bJ1 {fault:Wr→Int} {same:Wr→Wr→Bool} {l:List Wr} {k:Nat} (hk:k<l.length) (h:fault l[k]≠0):aL0 fault same l k=fault l[k]:=by
 rw[aW4 _ _ hk]
 unfold bV6
 rw[if_pos h]
theorem bJ2 {fault:Wr→Int} {same:Wr→Wr→Bool} {l:List Wr} {k:Nat} (hk:k<l.length) (h:fault l[k]=0):aL0 fault same l k=if (l.take k).any (fun y=>same y l[k]) then 3 else 0:=by
 rw[aW4 _ _ hk]
 unfold bV6
 rw[if_neg ZF9]
theorem SL.first {α:Type} {size:Nat} {R:(Nat→Prop)→World→List Value→α→Prop} {S:Nat→Prop} {w:World} {A:Option Addr} {l:List α} (h:SL size R S w A l) (k:Nat):SL size R S w A (l.take k):=by
 intro hl
 have hl':0<l.length:=by rw[List.length_take] at hl;omega
 obtain⟨b,off,e,h0,hlt,hi⟩:=h hl'
 refine⟨b,off,e,h0,hlt,fun i hil=>?_⟩
 have hil':i<l.length:=by rw[List.length_take] at hil;omega
 obtain⟨cs,h1,h2,h3⟩:=hi i hil'
 exact⟨cs,h1,h2,by rw[List.getElem_take];exact h3⟩
theorem aD2 (w:World) (A B:Option Addr) (t:Tx) (n m:Nat) (ha:Ws All w A t.reads) (hb:Ws All w B t.writes) (hcn:t.reads.length≤n) (hcm:t.writes.length≤m) :
  Calls Tryz.prog 63 #[.agg #[.int .i64 t.start,.slice A t.reads.length n,.slice B t.writes.length m]] w (bQ w (.int .i64 (aN t))):=by
 have Ha:=zh ha
 have Hb:=zh hb
 have Hcn:=zh hcn
 have Hcm:=zh hcm
 clear ha hb hcn hcm
 by_cases h1:0≤t.start∧t.start≤1048576
 ·have b1:decide (t.start<0)=false:=by rw[decide_eq_false_iff_not];omega
  have b1':decide ((1048576:Int)<t.start)=false:=by rw[decide_eq_false_iff_not];omega
  by_cases h2:20<t.reads.length
  ·have Hv:=zh (show aN t=1 by unfold aN;rw[if_neg ZE3,if_pos (.inl h2)])
   have b2:decide ((20:Int)<(t.reads.length:Int))=true:=by rw[decide_eq_true_eq];omega
   clear h1
   go_enter Tryz.func63,Tryz.ntmps63
   go_wp2
   go_ret
   exact⟨aM ZH1,BX⟩
  ·have b2:decide ((20:Int)<(t.reads.length:Int))=false:=by rw[decide_eq_false_iff_not];omega
   by_cases h3:10<t.writes.length
   ·have Hv:=zh (show aN t=1 by unfold aN;rw[if_neg ZE3,if_pos (.inr h3)])
    have b3:decide ((10:Int)<(t.writes.length:Int))=true:=by rw[decide_eq_true_eq];omega
    clear h1
    go_enter Tryz.func63,Tryz.ntmps63
    go_wp2
    go_ret
    exact⟨aM ZH1,BX⟩
   ·have b3:decide ((10:Int)<(t.writes.length:Int))=false:=by rw[decide_eq_false_iff_not];omega
    have Hbad:=zh (show ∀ e:Int,e≠0→aJ1 t.reads=e→aN t=e from fun e h4 h5=>by unfold aN;rw[if_neg ZE3,if_neg AO,if_pos (by rw[h5];exact h4),h5])
    have Hgood:=zh (show aJ1 t.reads=0→aN t=aP9 t.writes from fun h5=>by unfold aN;rw[if_neg ZE3,if_neg AO,if_neg (by rw[h5];decide)])
    have Hbx:=zh (aK w #[.int .i64 t.start,.slice A t.reads.length n,.slice B t.writes.length m] 98)
    have Hb0:=zh (show Below w.heap.size w (w.alloc (.cells #[.int .i64 t.start,.slice A t.reads.length n,.slice B t.writes.length m] 98)) from (Below.refl _ _).alloc zn _)
    have Hz0:=zh (show w.heap.size<(w.alloc (.cells #[.int .i64 t.start,.slice A t.reads.length n,.slice B t.writes.length m] 98)).heap.size by simp)
    have h20:t.reads.length≤20:=by omega
    have h10:t.writes.length≤10:=by omega
    clear h1
    go_enter Tryz.func63,Tryz.ntmps63
    go_wp2
    clear b1 b2 b3 b1'
    generalize (w.alloc (.cells #[.int .i64 t.start,.slice A t.reads.length n,.slice B t.writes.length m] 98))=w0 at *
    go_loopw [30] (fun i wr=>∃ k:Nat,k≤t.reads.length∧i=.int .i64 k∧aB0 (aL0 aA4 aC7 t.reads) (t.reads.length - k) k=aJ1 t.reads∧Below w0.heap.size w0 wr) (fun i _=>t.reads.length - (intOf i).toNat)
    case atStart=>exact⟨0,AO,rfl,rfl,Below.refl _ _⟩
    case round =>
     obtain⟨k,hk,rfl,hval,hbel⟩:=hrel
     have Hbel:=zh hbel
     have Hval:=zh hval
     have hbz:=hbel.size
     have hz0:=Hz0.out
     have Hbxr:=zh ((hbel.block _ Hz0.out).trans Hbx.out)
     have Hb1:=zh (Hb0.out.next hbel AO)
     clear hbel hval
     by_cases hlt:k<t.reads.length
     ·have Hstep:=zh (aO4 (aL0 aA4 aC7 t.reads) hlt)
      obtain⟨g,off,A1,a1,B1,b1,C1,c1,hX,_,hal,hc1,hc2,hc3,hc4,hs1,hs2,hs3,hb1,hb2,hb3⟩:=aF4 (Ha.out.below wrR_stays Hb1.out) hlt
      have Hs1:=zh hs1.bz
      have Hs2:=zh hs2.bz
      have Hs3:=zh hs3.bz
      have Hxb:=zh (show ∀ W,Below (wr.heap.size+1) (wr.alloc (.cells #[.slice A1 t.reads[k].name.length a1,.slice B1 t.reads[k].key.length b1,.bool t.reads[k].flag,.slice C1 t.reads[k].value.length c1] 204)) W→W.heap[wr.heap.size]?=some (.cells #[.slice A1 t.reads[k].name.length a1,.slice B1 t.reads[k].key.length b1,.bool t.reads[k].flag,.slice C1 t.reads[k].value.length c1] 204 (0,0))∧Below wr.heap.size wr W∧wr.heap.size+1≤W.heap.size from fun W hW =>
       ⟨(hW.block _ AO).trans (aK wr _ _),((Below.refl wr.heap.size wr).alloc zn _).trans (hW.mono AO),by simpa using hW.size⟩)
      subst hX
      clear hs1 hs2 hs3
      by_cases hf:aA4 t.reads[k]=0
      ·have d1:(aA4 t.reads[k] != 0)=false:=by simp[hf]
       have Hpl:=zh (bJ2 (same:=aC7) hlt hf)
       have hlen:(t.reads.take k).length=k:=by rw[List.length_take];omega
       have Hhas:=zh (fun (W:World) (hW:Below w.heap.size w W) (g2:Nat) (x:Wr) (h1:Bs All W A1 x.name) (h2:Bs All W B1 x.key) (h3:Bs All W C1 x.value) (hg)=>chk1_has W (some ⟨g,off,none⟩) (t.reads.take k) n g2 A1 B1 C1 x a1 b1 c1 ((Ha.out.below wrR_stays hW).first k) (by rw[hlen];unfold big;omega) h1 h2 h3 hg)
       rw[hlen] at Hhas
       generalize t.reads[k]=x at *
       generalize hbb:(t.reads.take k).any (fun y=>aC7 y x)=bb at *
       have Hbb:=zh hbb
       clear hf hlen hbb
       have hkc:(k:Int)≤(n:Int):=by have:=Hcn.out;omega
       have hk0:(0:Int)≤(k:Int):=by omega
       cases bb with
       | true =>
        go_wp2_with (first
         | (go_at_call 108;refine (aR4 _ A1 B1 C1 x a1 b1 c1).mono ?_;rintro e w1 ⟨rfl,hbw1⟩;have hk1:=hbw1.mono (show wr.heap.size+1≤(wr.alloc (.cells #[.slice A1 x.name.length a1,.slice B1 x.key.length b1,.bool x.flag,.slice C1 x.value.length c1] 204)).heap.size by simp);obtain⟨hx1,hbw2,hz1⟩:=Hxb.out w1 hk1;have Hx1:=zh hx1;clear hx1 hbw1;obtain⟨g0,g1,g2,_⟩:=aY ((hbw2.block _ AO).trans Hbxr.out))
         | (go_at_call 109;refine (Hhas.out _ (Hb1.out.next hbw2 AO) wr.heap.size x (Hs1.out.bbelow hbw2) (Hs2.out.bbelow hbw2) (Hs3.out.bbelow hbw2) Hx1.out).mono ?_;rintro e w2 ⟨rfl,hb2⟩;have hbw3:=hbw2.next hb2 AO;rw[Hbb.out]))
        go_ret
        exact⟨aM (Eq.symm (Hbad.out 3 ZD9 (by rw[← Hval.out,Hstep.out,if_pos (by rw[Hpl.out];decide),Hpl.out];rfl))),Hb1.out.next hbw3 AO⟩
       | false =>
        go_wp2_with (first
         | (go_at_call 108;refine (aR4 _ A1 B1 C1 x a1 b1 c1).mono ?_;rintro e w1 ⟨rfl,hbw1⟩;have hk1:=hbw1.mono (show wr.heap.size+1≤(wr.alloc (.cells #[.slice A1 x.name.length a1,.slice B1 x.key.length b1,.bool x.flag,.slice C1 x.value.length c1] 204)).heap.size by simp);obtain⟨hx1,hbw2,hz1⟩:=Hxb.out w1 hk1;have Hx1:=zh hx1;clear hx1 hbw1;obtain⟨g0,g1,g2,_⟩:=aY ((hbw2.block _ AO).trans Hbxr.out))
         | (go_at_call 109;refine (Hhas.out _ (Hb1.out.next hbw2 AO) wr.heap.size x (Hs1.out.bbelow hbw2) (Hs2.out.bbelow hbw2) (Hs3.out.bbelow hbw2) Hx1.out).mono ?_;rintro e w2 ⟨rfl,hb2⟩;have hbw3:=hbw2.next hb2 AO;rw[Hbb.out]))
        go_roundw
        case rel=>exact⟨k+1,AO,by go_num,by rw[← Hval.out,Hstep.out,if_neg (by rw[Hpl.out];decide)],Hbel.out.next hbw3 AO⟩
        case measure=>simp[intOf];omega
      ·have d1:(aA4 t.reads[k] != 0)=true:=by simpa using hf
       have Hpl:=zh (bJ1 (same:=aC7) hlt hf)
       have Hf:=zh hf
       generalize t.reads[k]=x at *
       clear hf
       go_wp2_with (go_at_call 108;refine (aR4 _ A1 B1 C1 x a1 b1 c1).mono ?_;rintro e w1 ⟨rfl,hbw1⟩;have hk1:=hbw1.mono (show wr.heap.size+1≤(wr.alloc (.cells #[.slice A1 x.name.length a1,.slice B1 x.key.length b1,.bool x.flag,.slice C1 x.value.length c1] 204)).heap.size by simp);obtain⟨hx1,hbw2,hz1⟩:=Hxb.out w1 hk1;have Hx1:=zh hx1;clear hx1 hbw1;obtain⟨g0,g1,g2,_⟩:=aY ((hbw2.block _ AO).trans Hbxr.out))
       go_ret
       exact⟨aM (Eq.symm (Hbad.out _ Hf.out (by rw[← Hval.out,Hstep.out,if_pos (by rw[Hpl.out];exact Hf.out),Hpl.out]))),Hb1.out.next hbw2 AO⟩
     ·obtain rfl:k=t.reads.length:=by omega
      have hfin:=Hval.out
      rw[Nat.sub_self] at hfin
      have Hfin:=zh (show aJ1 t.reads=0 from hfin.symm)
      clear hfin
      obtain⟨g0,g1,g2,_⟩:=aY Hbxr.out
      go_wp2
      have Hgd:=zh (Hgood.out Hfin.out)
      have Hbst:=zh Hbel.out
      clear Hval Hfin Hbxr hbz hz0 Hb1 g0 g1 g2 hlt hk Hbel
      obtain⟨wn,rfl⟩:∃ wn:World,wn=wr:=⟨_,rfl⟩
      go_loopw [50] (fun i wr=>∃ k:Nat,k≤t.writes.length∧i=.int .i64 k∧aB0 (aL0 aH bE t.writes) (t.writes.length - k) k=aP9 t.writes∧Below w0.heap.size w0 wr) (fun i _=>t.writes.length - (intOf i).toNat)
      case atStart=>exact⟨0,AO,rfl,rfl,Hbst.out⟩
      case round =>
       obtain⟨k,hk,rfl,hval,hbel⟩:=hrel
       have Hbel:=zh hbel
       have Hval:=zh hval
       have hbz:=hbel.size
       have hz0:=Hz0.out
       have Hbxr:=zh ((hbel.block _ Hz0.out).trans Hbx.out)
       have Hb1:=zh (Hb0.out.next hbel AO)
       clear hbel hval
       by_cases hlt:k<t.writes.length
       ·have Hstep:=zh (aO4 (aL0 aH bE t.writes) hlt)
        obtain⟨g,off,A1,a1,B1,b1,C1,c1,hX,_,hal,hc1,hc2,hc3,hc4,hs1,hs2,hs3,hb1,hb2,hb3⟩:=aF4 (Hb.out.below wrR_stays Hb1.out) hlt
        have Hs1:=zh hs1.bz
        have Hs2:=zh hs2.bz
        have Hs3:=zh hs3.bz
        have Hxb:=zh (show ∀ W,Below (wr.heap.size+1) (wr.alloc (.cells #[.slice A1 t.writes[k].name.length a1,.slice B1 t.writes[k].key.length b1,.bool t.writes[k].flag,.slice C1 t.writes[k].value.length c1] 102)) W→W.heap[wr.heap.size]?=some (.cells #[.slice A1 t.writes[k].name.length a1,.slice B1 t.writes[k].key.length b1,.bool t.writes[k].flag,.slice C1 t.writes[k].value.length c1] 102 (0,0))∧Below wr.heap.size wr W∧wr.heap.size+1≤W.heap.size from fun W hW =>
         ⟨(hW.block _ AO).trans (aK wr _ _),((Below.refl wr.heap.size wr).alloc zn _).trans (hW.mono AO),by simpa using hW.size⟩)
        subst hX
        clear hs1 hs2 hs3
        by_cases hf:aH t.writes[k]=0
        ·have d1:(aH t.writes[k] != 0)=false:=by simp[hf]
         have Hpl:=zh (bJ2 (same:=bE) hlt hf)
         have hlen:(t.writes.take k).length=k:=by rw[List.length_take];omega
         have Hhas:=zh (fun (W:World) (hW:Below w.heap.size w W) (g2:Nat) (x:Wr) (h1:Bs All W A1 x.name) (h2:Bs All W B1 x.key) (h3:Bs All W C1 x.value) (hg)=>chk2_has W (some ⟨g,off,none⟩) (t.writes.take k) m g2 A1 B1 C1 x a1 b1 c1 ((Hb.out.below wrR_stays hW).first k) (by rw[hlen];unfold big;omega) h1 h2 h3 hg)
         rw[hlen] at Hhas
         generalize t.writes[k]=x at *
         generalize hbb:(t.writes.take k).any (fun y=>bE y x)=bb at *
         have Hbb:=zh hbb
         clear hf hlen hbb
         have hkc:(k:Int)≤(m:Int):=by have:=Hcm.out;omega
         have hk0:(0:Int)≤(k:Int):=by omega
         cases bb with
         | true =>
          go_wp2_with (first
           | (go_at_call 64;refine (aF5 _ A1 B1 C1 x a1 b1 c1 (Hs1.out.bbelow ((Below.refl _ _).alloc zn _)) (Hs2.out.bbelow ((Below.refl _ _).alloc zn _)) (Hs3.out.bbelow ((Below.refl _ _).alloc zn _)) hb1 hb2 hb3).mono ?_;rintro e w1 ⟨rfl,hbw1⟩;have hk1:=hbw1.mono (show wr.heap.size+1≤(wr.alloc (.cells #[.slice A1 x.name.length a1,.slice B1 x.key.length b1,.bool x.flag,.slice C1 x.value.length c1] 102)).heap.size by simp);obtain⟨hx1,hbw2,hz1⟩:=Hxb.out w1 hk1;have Hx1:=zh hx1;clear hx1 hbw1;obtain⟨g0,g1,g2,_⟩:=aY ((hbw2.block _ AO).trans Hbxr.out))
           | (go_at_call 112;refine (Hhas.out _ (Hb1.out.next hbw2 AO) wr.heap.size x (Hs1.out.bbelow hbw2) (Hs2.out.bbelow hbw2) (Hs3.out.bbelow hbw2) Hx1.out).mono ?_;rintro e w2 ⟨rfl,hb2⟩;have hbw3:=hbw2.next hb2 AO;rw[Hbb.out]))
          go_ret
          exact⟨aM (by rw[Hgd.out,← Hval.out,Hstep.out,if_pos (by rw[Hpl.out];decide),Hpl.out];rfl),Hb1.out.next hbw3 AO⟩
         | false =>
          go_wp2_with (first
           | (go_at_call 64;refine (aF5 _ A1 B1 C1 x a1 b1 c1 (Hs1.out.bbelow ((Below.refl _ _).alloc zn _)) (Hs2.out.bbelow ((Below.refl _ _).alloc zn _)) (Hs3.out.bbelow ((Below.refl _ _).alloc zn _)) hb1 hb2 hb3).mono ?_;rintro e w1 ⟨rfl,hbw1⟩;have hk1:=hbw1.mono (show wr.heap.size+1≤(wr.alloc (.cells #[.slice A1 x.name.length a1,.slice B1 x.key.length b1,.bool x.flag,.slice C1 x.value.length c1] 102)).heap.size by simp);obtain⟨hx1,hbw2,hz1⟩:=Hxb.out w1 hk1;have Hx1:=zh hx1;clear hx1 hbw1;obtain⟨g0,g1,g2,_⟩:=aY ((hbw2.block _ AO).trans Hbxr.out))
           | (go_at_call 112;refine (Hhas.out _ (Hb1.out.next hbw2 AO) wr.heap.size x (Hs1.out.bbelow hbw2) (Hs2.out.bbelow hbw2) (Hs3.out.bbelow hbw2) Hx1.out).mono ?_;rintro e w2 ⟨rfl,hb2⟩;have hbw3:=hbw2.next hb2 AO;rw[Hbb.out]))
          go_roundw
          case rel=>exact⟨k+1,AO,by go_num,by rw[← Hval.out,Hstep.out,if_neg (by rw[Hpl.out];decide)],Hbel.out.next hbw3 AO⟩
          case measure=>simp[intOf];omega
        ·have d1:(aH t.writes[k] != 0)=true:=by simpa using hf
         have Hpl:=zh (bJ1 (same:=bE) hlt hf)
         have Hf:=zh hf
         generalize t.writes[k]=x at *
         clear hf
         go_wp2_with (go_at_call 64;refine (aF5 _ A1 B1 C1 x a1 b1 c1 (Hs1.out.bbelow ((Below.refl _ _).alloc zn _)) (Hs2.out.bbelow ((Below.refl _ _).alloc zn _)) (Hs3.out.bbelow ((Below.refl _ _).alloc zn _)) hb1 hb2 hb3).mono ?_;rintro e w1 ⟨rfl,hbw1⟩;have hk1:=hbw1.mono (show wr.heap.size+1≤(wr.alloc (.cells #[.slice A1 x.name.length a1,.slice B1 x.key.length b1,.bool x.flag,.slice C1 x.value.length c1] 102)).heap.size by simp);obtain⟨hx1,hbw2,hz1⟩:=Hxb.out w1 hk1;have Hx1:=zh hx1;clear hx1 hbw1;obtain⟨g0,g1,g2,_⟩:=aY ((hbw2.block _ AO).trans Hbxr.out))
         go_ret
         exact⟨aM (by rw[Hgd.out,← Hval.out,Hstep.out,if_pos (by rw[Hpl.out];exact Hf.out),Hpl.out]),Hb1.out.next hbw2 AO⟩
       ·obtain rfl:k=t.writes.length:=by omega
        have hfin:=Hval.out
        rw[Nat.sub_self] at hfin
        have Hfin:=zh (show aP9 t.writes=0 from hfin.symm)
        clear hfin
        obtain⟨g0,g1,g2,_⟩:=aY Hbxr.out
        go_wp2
        go_ret
        exact⟨aM (by rw[Hgd.out,Hfin.out]),Hb1.out⟩
 ·have Hv:=zh (show aN t=2 by unfold aN;rw[if_pos h1])
  by_cases h3:t.start<0
  ·have b1:decide (t.start<0)=true:=by rw[decide_eq_true_eq];exact h3
   clear h1 h3
   go_enter Tryz.func63,Tryz.ntmps63
   go_wp2
   go_ret
   exact⟨aM ZH1,BX⟩
  ·have b1:decide (t.start<0)=false:=by rw[decide_eq_false_iff_not];exact h3
   have b1':decide ((1048576:Int)<t.start)=true:=by rw[decide_eq_true_eq];omega
   clear h1 h3
   go_enter Tryz.func63,Tryz.ntmps63
   go_wp2
   go_ret
   exact⟨aM ZH1,BX⟩
theorem bT5 (w:World) (A:Option Addr) (l:List Wr) (c:Nat) (ha:Ws All w A l) (hn:l.length*80≤140737488355328) :
  Calls Tryz.prog 66 #[.slice A l.length c] w (RetOwnWs 102 w l):=by
 obtain⟨i0,hi0,hz0,hz1,hz2⟩:=info_parts info_wr
 have Ha:=zh ha
 clear ha
 go_enter Tryz.func66,Tryz.ntmps66
 go_wp2
 go_loopw [3,8] (fun v i wr=>∃ k:Nat,k≤l.length∧i=.int .i64 k∧Own 4 WrR (aB w.heap.size) wr w.heap.size 102 v (l.take k)∧Below w.heap.size w wr) (fun _ i _=>l.length - (intOf i).toNat)
 case atStart=>exact⟨0,AO,rfl,Own.nil _ _ _,Below.refl _ _⟩
 case round =>
  obtain⟨k,hk,rfl,hown,hbel⟩:=hrel
  have Hbel:=zh hbel
  have Hown:=zh hown
  have hbz:=hbel.size
  clear hown hbel
  by_cases hlt:k<l.length
  ·obtain⟨g,off,A1,a1,B1,b1,C1,c1,rfl,_,hal,hc1,hc2,hc3,hc4,hs1,hs2,hs3,hb1,hb2,hb3⟩:=aF4 (Ha.out.below wrR_stays Hbel.out) hlt
   have Hsn:=zh (aC8 l k hlt)
   generalize l[k]=x at *
   have Hs1:=zh hs1.bz
   have Hs2:=zh hs2.bz
   have Hs3:=zh hs3.bz
   clear hs1 hs2 hs3
   go_wp2_with fail
   go_region_held3 (fun w'=>w'.cell? ⟨wr.heap.size,0,none⟩=some (.slice A1 x.name.length a1)∧w'.cell? ⟨wr.heap.size,1,none⟩=some (.slice B1 x.key.length b1)∧w'.cell? ⟨wr.heap.size,2,none⟩=some (.bool x.flag)∧w'.cell? ⟨wr.heap.size,3,none⟩=some (.slice C1 x.value.length c1))
    (first
     | go_keep
     | exact⟨p0,p1,p2,p3⟩
     | exact⟨q0,q1,q2,q3⟩
     | exact⟨r0,r1,r2,r3⟩
     | exact⟨s0,s1,s2,s3⟩)
    (first
    | (go_at_call 49;(with_reducible refine (aE2 _ A1 x.name a1 ?ha hb1).mono ?_);(case ha=>exact Hs1.out.bsame SM);rintro e w6 ⟨A6,c6,rfl,gs6,hbw6⟩;have hb6:Below wr.heap.size wr w6:=(((Below.refl wr.heap.size wr).alloc zn _).drew).next hbw6 ZH2;have hz6:wr.heap.size<w6.heap.size:=(by have:=hbw6.size;simp at this;omega);have hbp6:w6.heap[wr.heap.size]?=some (.cells #[.slice A1 x.name.length a1,.slice B1 x.key.length b1,.bool x.flag,.slice C1 x.value.length c1] 102 (0,0)):=(hbw6.block wr.heap.size AU).trans (aK wr _ _);obtain⟨p0,p1,p2,p3,_⟩:=bG hbp6)
    | (go_at_call 49;(with_reducible refine (aE2 _ B1 x.key b1 ?ha hb2).mono ?_);(case ha=>exact Hs2.out.bbelow hb6);rintro e w7 ⟨A7,c7,rfl,gs7,hbw7⟩;have hb7:Below wr.heap.size wr w7:=hb6.next hbw7 AZ;have hz67:w6.heap.size≤w7.heap.size:=hbw7.size;have hz7:wr.heap.size<w7.heap.size:=AO;have hbp7:=(hbw7.block _ hz6).trans hbp6;obtain⟨q0,q1,q2,q3,_⟩:=bG hbp7)
    | (go_at_call 49;(with_reducible refine (aE2 _ C1 x.value c1 ?ha hb3).mono ?_);(case ha=>exact Hs3.out.bbelow hb7);rintro e w8 ⟨A8,c8,rfl,gs8,hbw8⟩;have hb8:Below wr.heap.size wr w8:=hb7.next hbw8 AZ;have hz78:w7.heap.size≤w8.heap.size:=hbw8.size;have hbp8:=(hbw8.block _ hz7).trans hbp7;obtain⟨r0,r1,r2,r3,_⟩:=bG hbp8)
    | (refine aW1 wrR_stays (S:=aB w.heap.size) _ rfl (.tmp 12) (.tmp 25) _ rfl w.heap.size 102 i0 _ 4 80 Tryz.underlying37 hi0 hz0 hz1 hz2 rfl ZD9 u3 (l.take k) ?hs ?hown (some ⟨w8.heap.size,0,none⟩) 1 [.slice A6 x.name.length c6,.slice A7 x.key.length c7,.bool x.flag,.slice A8 x.value.length c8] ?hx rfl (aE6 w8 w8.heap.size [.slice A6 x.name.length c6,.slice A7 x.key.length c7,.bool x.flag,.slice A8 x.value.length c8] _ rfl) ZE8 ?hm ?hby ?hba x ?hd ?_;(case hs=>(simp[Act.eval,Act.put]));(case hx=>(simp[Act.eval,Act.put]));(case hown=>(refine Own.below wrR_stays Hown.out ?_;exact (hb8.alloc AZ _)));(case hm=>(simp only[List.length_take,maxLen];omega));(case hby=>(simp only[List.length_take];omega));(case hba=>(simp;omega));(case hd=>(refine bN2 (n:=wr.heap.size) ((gs6.bbelow hbw7).bbelow hbw8 |>.blo AZ) (gs7.bbelow hbw8 |>.blo AZ) (gs8.blo AZ) hb1 hb2 hb3 ?_ AZ (Hown.out.apart _ zn);exact SM));intro v9 w9 hown9 hbw9 hgr9;have Hown9:=zh hown9;have hbp9:=(hgr9.block wr.heap.size ZC8 (fun e=>Hown.out.apart _ zn _ zn e.symm)).trans ((heap_alloc_old _ _ AO).trans hbp8);obtain⟨s0,s1,s2,s3,_⟩:=bG hbp9;clear hown9))
   all_goals
    go_wp2
    go_roundw
    case rel=>exact⟨k+1,AO,by go_num,by rw[Hsn.out];exact Hown9.out,((Hbel.out.trans (hb8.mono hbz)).alloc AO _).trans hbw9⟩
    case measure=>simp[intOf];omega
  ·go_wp2
   go_ret
   obtain rfl:k=l.length:=by omega
   have h:=Hown.out
   rw[List.take_length] at h
   exact⟨_,rfl,h,Hbel.out⟩
structure OutAt (w:World) (A B:Option Addr) (n m:Nat) (B1:Option Addr) (m1:Nat) (t:Tx) (W:World) (G:Nat):Prop where
 x:W.heap[w.heap.size]?=some (.cells #[.int .i64 t.start,.slice A t.reads.length n,.slice B t.writes.length m] 98 (0,0))
 y:W.heap[w.heap.size+1]?=some (.cells #[.int .i64 0,.slice none 0 0,.slice none 0 0] 98 (0,0))
 z:W.heap[G]?=some (.cells #[.int .i64 t.start,.slice none 0 0,.slice B1 t.writes.length m1] 98 (0,0))
 lo:w.heap.size+2≤G
 hi:G<W.heap.size
 b:Below w.heap.size w W
 s:Own 4 WrR (fun b=>w.heap.size+2≤b∧b≠G) W (w.heap.size+2) 102 (.slice B1 t.writes.length m1) t.writes
 g:blk B1≠some G
def RetOwnSl (w:World) (l:List Wr) (e:Ending) (w':World):Prop :=
 ∃ A c,e=.returned (.slice A l.length c)∧l.length≤c∧Own 4 WrR (aB w.heap.size) w' w.heap.size 102 (.slice A l.length c) l∧Below w.heap.size w w'
theorem aQ0 (w:World) (A:Option Addr) (l:List Wr) (c:Nat) (ha:Ws All w A l) (hn:l.length*80≤140737488355328) :
  Calls Tryz.prog 66 #[.slice A l.length c] w (RetOwnSl w l) :=
 (bT5 w A l c ha hn).mono fun e w' ⟨v,he,hown,hb⟩=>by
  obtain⟨A',c',rfl,hc,hs⟩:=hown.readc wrR_stays
  exact⟨A',c',he,hc,hown,hb⟩
theorem Own.blt {α:Type} {size:Nat} {R:(Nat→Prop)→World→List Value→α→Prop} {S:Nat→Prop} {w:World} {base:Nat} {e:TypeId} {A:Option Addr} {l:List α} {n c:Nat} (h:Own size R S w base e (.slice A n c) l):∀ b,blk A=some b→base≤b∧b<w.heap.size:=fun b hb=>by
 obtain⟨xs,h1,_⟩:=h
 exact h1.lt b (by rw[aC5];exact hb)
theorem aN1 (w:World) (A B:Option Addr) (t:Tx) (n m:Nat) (ha:Ws All w A t.reads) (hb:Ws All w B t.writes) (hn:t.reads.length*80≤140737488355328) (hm:t.writes.length*80≤140737488355328) :
  Calls Tryz.prog 65 #[.agg #[.int .i64 t.start,.slice A t.reads.length n,.slice B t.writes.length m]] w (cK7 w t):=by
 obtain⟨i0,hi0,hz0,hz1,hz2⟩:=info_parts info_rd
 have Ha:=zh ha
 have Hb:=zh hb
 clear ha hb
 obtain⟨hx,hy,hsz,hbl⟩:=alloc2 w (.cells #[.int .i64 t.start,.slice A t.reads.length n,.slice B t.writes.length m] 98) (.cells #[.int .i64 0,.slice none 0 0,.slice none 0 0] 98)
 obtain⟨g0,g1,g2,_⟩:=aY hx
 have Hx:=zh hx
 have Hy:=zh hy
 have Hbl:=zh hbl
 have Hsz:=zh hsz
 have Hz2:=zh (show (((w.alloc (.cells #[.int .i64 t.start,.slice A t.reads.length n,.slice B t.writes.length m] 98)).alloc (.cells #[.int .i64 0,.slice none 0 0,.slice none 0 0] 98)).drew.alloc (.cells #[.int .i64 0,.slice none 0 0,.slice none 0 0] 98)).heap[w.heap.size+2]?=some (.cells #[.int .i64 0,.slice none 0 0,.slice none 0 0] 98) by have:=heap_alloc_new ((w.alloc (.cells #[.int .i64 t.start,.slice A t.reads.length n,.slice B t.writes.length m] 98)).alloc (.cells #[.int .i64 0,.slice none 0 0,.slice none 0 0] 98)).drew (.cells #[.int .i64 0,.slice none 0 0,.slice none 0 0] 98);simpa using this)
 clear hx hy hbl hsz
 go_enter Tryz.func65,Tryz.ntmps65
 go_wp2_with fail
 go_region_held3 (fun w'=>w'.cell? ⟨w.heap.size,0,none⟩=some (.int .i64 t.start)∧w'.cell? ⟨w.heap.size,1,none⟩=some (.slice A t.reads.length n)∧w'.cell? ⟨w.heap.size,2,none⟩=some (.slice B t.writes.length m))
  (first
   | go_keep
   | exact⟨q0,q1,q2⟩
   | (go_split_ands;exact⟨(((Below.refl _ w1).alloc zn _).cell hzp).trans ZF3,(((Below.refl _ w1).alloc zn _).cell hzp).trans ZF3,(((Below.refl _ w1).alloc zn _).cell hzp).trans ZF3⟩)
   | (go_split_ands;exact⟨(((((Below.refl (w.heap.size+1+1) w1).setCell zn _).setCell zn _).setCell zn _).cell AU).trans ZF3,(((((Below.refl (w.heap.size+1+1) w1).setCell zn _).setCell zn _).setCell zn _).cell AU).trans ZF3,(((((Below.refl (w.heap.size+1+1) w1).setCell zn _).setCell zn _).setCell zn _).cell AU).trans ZF3⟩))
  ((go_at_call 66;(with_reducible refine (aQ0 _ B t.writes m ?hx hm).mono ?_);(case hx=>(refine (Hb.out.below wrR_stays Hbl.out).same wrR_stays ?_;exact SM));rintro e w1 ⟨B1,m1,rfl,hc1,hs1,hb1⟩;have hx1:w1.heap[w.heap.size]?=some (.cells #[.int .i64 t.start,.slice A t.reads.length n,.slice B t.writes.length m] 98 (0,0)):=(hb1.block w.heap.size AU).trans (by first|exact Hx.out|exact (heap_alloc_old _ _ AU).trans Hx.out);have hy1:w1.heap[w.heap.size+1]?=some (.cells #[.int .i64 0,.slice none 0 0,.slice none 0 0] 98 (0,0)):=(hb1.block (w.heap.size+1) AU).trans (by first|exact Hy.out|exact (heap_alloc_old _ _ AU).trans Hy.out);obtain⟨q0,q1,q2,_⟩:=aY hx1;have hzp:w.heap.size<w1.heap.size:=(by have hq1:=hb1.size;simp at hq1;omega);(try (have hz2:w1.heap[w.heap.size+2]?=some (.cells #[.int .i64 0,.slice none 0 0,.slice none 0 0] 98 (0,0)):=(hb1.block (w.heap.size+2) AU).trans Hz2.out;obtain⟨e0,e1,e2,e3,e4,e5⟩:=aY hz2;have hzl:w.heap.size+1+1<w1.heap.size:=(by have hq1:=hb1.size;simp at hq1;omega)))))
 ·go_wp2_with fail
  have hF:OutAt w A B n m B1 m1 t (w1.alloc (.cells #[.int .i64 t.start,.slice none 0 0,.slice B1 t.writes.length m1] 98)) w1.heap.size:=by
   have hq1:=hb1.size
   simp at hq1
   have hlt1:=hs1.blt
   simp at hlt1
   refine⟨(heap_alloc_old _ _ hzp).trans hx1,(heap_alloc_old _ _ AO).trans hy1,aK w1 _ _,AO,by simp,?_,?_,fun h=>by have:=hlt1 _ h;omega⟩
   ·exact (Hbl.out.drew.next hb1 AU).alloc AO _
   ·exact hs1.keep wrR_stays (T:=All) ((aC.refl _ _).alloc _) (fun _ _ _=>trivial) (fun _ _=>trivial) (fun b hb h=>⟨by simp only[aB] at h;simp at h;omega,AO⟩) ZH2
  have HF:=zh hF
  clear hF hb1 hs1 hx1 hy1 q0 q1 q2 hzp
  generalize w1.alloc (.cells #[.int .i64 t.start,.slice none 0 0,.slice B1 t.writes.length m1] 98)=W0 at *
  generalize w1.heap.size=G at *
  have hlo:=HF.out.lo
  have hhi:=HF.out.hi
  go_loopw [15] (fun i wr=>∃ (k:Nat) (v:Value),k≤t.reads.length∧i=.int .i64 k∧Own 4 WrR (aB W0.heap.size) wr W0.heap.size 204 v (t.reads.take k)∧wr.heap[G]?=some (.cells #[.int .i64 t.start,v,.slice B1 t.writes.length m1] 98 (0,0))∧Below w.heap.size W0 wr∧aC (fun b=>b<W0.heap.size∧b≠G) W0 wr) (fun i _=>t.reads.length - (intOf i).toNat)
  case atStart=>exact⟨0,_,AO,rfl,Own.nil _ _ _,HF.out.z,Below.refl _ _,aC.refl _ _⟩
  case round =>
   obtain⟨k,v,hk,rfl,hown,hcx,hbel,hsm⟩:=hrel
   have Hbel:=zh hbel
   have Hown:=zh hown
   have Hcx:=zh hcx
   have Hsm:=zh hsm
   have hbz:=hbel.size
   have Hbw:=zh (HF.out.b.trans hbel)
   clear hown hbel hcx hsm
   by_cases hlt:k<t.reads.length
   ·obtain⟨g,off,A1,a1,B2,b2,C1,c1,rfl,_,hal,hc1,hc2,hc3,hc4,hs1,hs2,hs3,hb1,hb2,hb3⟩:=aF4 (Ha.out.below wrR_stays Hbw.out) hlt
    have Hsn:=zh (aC8 t.reads k hlt)
    have hl8:(t.reads.take k++[t.reads[k]]).length=k+1:=by rw[List.length_append,List.length_take,List.length_singleton];omega
    generalize t.reads[k]=x at *
    have Hs1:=zh hs1.bz
    have Hs2:=zh hs2.bz
    have Hs3:=zh hs3.bz
    have hGr:G<wr.heap.size:=by omega
    have hbox:(wr.alloc (.cells #[.slice A1 x.name.length a1,.slice B2 x.key.length b2,.bool x.flag,.slice C1 x.value.length c1] 204)).heap[G]?=some (.cells #[.int .i64 t.start,v,.slice B1 t.writes.length m1] 98 (0,0)):=by rw[heap_alloc_old _ _ hGr];exact Hcx.out
    obtain⟨gc0,gc1,gc2,_⟩:=aY hbox
    have Hbox:=zh hbox
    clear hbox hs1 hs2 hs3
    go_wp2_with fail
    go_region_law (first
     | (go_simp;go_at_call 114;(with_reducible refine (bD1 _ A1 B2 C1 x a1 b2 c1 ?h1 ?h2 ?h3 hb1 hb2 hb3).mono ?_);(case h1=>exact Hs1.out.bsame SM);(case h2=>exact Hs2.out.bsame SM);(case h3=>exact Hs3.out.bsame SM);rintro e w6 ⟨A6,a6,B6,b6,C6,c6,rfl,gs1,gs2,gs3,hbw6⟩;have hb6:Below wr.heap.size wr w6:=(((Below.refl wr.heap.size wr).alloc zn _).drew).next hbw6 ZH2;have hz6:wr.heap.size<w6.heap.size:=(by have:=hbw6.size;simp at this;omega);have hbx6:=(hb6.block G hGr).trans Hcx.out;obtain⟨ga0,ga1,ga2,_⟩:=aY hbx6;have hG6:G<w6.heap.size:=AO)
     | (refine aW1 wrR_stays (S:=aB W0.heap.size) _ rfl (.tmp 20) (.tmp 23) _ rfl W0.heap.size 204 i0 _ 4 80 Tryz.underlying96 hi0 hz0 hz1 hz2 rfl ZD9 v (t.reads.take k) ?hs ?hown (some ⟨w6.heap.size,0,none⟩) 1 [.slice A6 x.name.length a6,.slice B6 x.key.length b6,.bool x.flag,.slice C6 x.value.length c6] ?hx rfl (aE6 w6 w6.heap.size [.slice A6 x.name.length a6,.slice B6 x.key.length b6,.bool x.flag,.slice C6 x.value.length c6] _ rfl) ZE8 ?hm ?hby ?hba x ?hd ?_;(case hs=>(simp[Act.eval,Act.put]));(case hx=>(simp[Act.eval,Act.put]));(case hown=>(refine Own.below wrR_stays Hown.out ?_;exact (hb6.alloc AZ _)));(case hm=>(simp only[List.length_take,maxLen];omega));(case hby=>(simp only[List.length_take];omega));(case hba=>(simp;omega));(case hd=>(refine bN2 (n:=wr.heap.size) (gs1.blo AZ) (gs2.blo AZ) (gs3.blo AZ) hb1 hb2 hb3 ?_ AZ (Hown.out.apart _ zn);exact SM));intro v8 w8 hown8 hbw8 hgr8;obtain⟨A8,c8,rfl,_,_⟩:=hown8.readc wrR_stays;have Hown8:=zh hown8;clear hown8;have hbx8:w8.heap[G]?=some (.cells #[.int .i64 t.start,v,.slice B1 t.writes.length m1] 98 (0,0)):=(hbw8.block G hhi).trans ((heap_alloc_old _ _ hG6).trans hbx6);obtain⟨ge0,ge1,ge2,ge3,ge4,ge5⟩:=aY hbx8))
    all_goals
     go_wp2
     go_roundw
     case rel=>exact ZA6
     case measure=>simp[intOf];omega
   ·obtain rfl:k=t.reads.length:=by omega
    have hown3:=Hown.out
    rw[List.take_length] at hown3
    obtain⟨A8,c8,rfl,hc8,_⟩:=hown3.readc wrR_stays
    have Hs8:=zh hown3
    obtain⟨ge0,ge1,ge2,_⟩:=aY Hcx.out
    obtain⟨gh0,gh1,gh2,gh3,gh4,gh5⟩:=aY ((Hsm.out.block (w.heap.size+1) ⟨AO,AO⟩ AO).trans HF.out.y)
    have hzr:w.heap.size+1<wr.heap.size:=by omega
    clear hown3 Hown
    go_wp2
    have hlt8:=Hs8.out.blt
    have hlt1:=HF.out.s.blt
    have hg1:=HF.out.g
    refine bodyPost_ret (v:=.agg #[.int .i64 t.start,.slice A8 t.reads.length c8,.slice B1 t.writes.length m1]) (by simp[results,Tryz.results65,go_sem,gh0,gh1,gh2]) rfl ⟨A8,c8,B1,m1,rfl,⟨hc8,hc1,?_,?_,?_⟩,?_⟩
    ·refine Hs8.out.keep wrR_stays (T:=aB W0.heap.size) ?_ (fun b _ h=>h) (fun b hb=>(hlt8 b (by rw[← aC5 A8];exact hb)).1) (fun b _ h=>⟨by simp only[aB] at *;omega,fun h7=>by have:=hlt1 b h7;simp only[aB] at h;omega⟩) AO
     exact ZA4
    ·refine (HF.out.s.keep wrR_stays (T:=fun b=>b<W0.heap.size∧b≠G) (S2:=fun b=>w.heap.size+2≤b∧b<W0.heap.size) (base':=w.heap.size) Hsm.out (fun b hb h=>⟨hb,h.2⟩) (fun b hb=>⟨(hlt1 b (by rw[← aC5 B1];exact hb)).2,fun e=>hg1 (by rw[aC5] at hb;rw[hb,e])⟩) (fun b hb h=>⟨h.1,hb⟩) AO).keep wrR_stays (T:=aB (w.heap.size+2)) ?_ (fun b _ h=>h.1) (fun b hb=>(hlt1 b (by rw[← aC5 B1];exact hb)).1) (fun b _ h=>⟨by simp only[aB];omega,fun h8=>by have:=hlt8 b h8;omega⟩) zn
     exact ZA4
    ·intro b h8 h1
     have:=hlt8 b h8
     have:=hlt1 b h1
     omega
    ·exact (((Hbw.out.setCell ZC5 _).setCell ZC5 _).setCell ZC5 _)
 ·go_wp2_with fail
  have hF:OutAt w A B n m B1 m1 t (((w1.setCell ⟨w.heap.size+1+1,0,none⟩ (.int .i64 t.start)).setCell ⟨w.heap.size+1+1,1,none⟩ (.slice none 0 0)).setCell ⟨w.heap.size+1+1,2,none⟩ (.slice B1 t.writes.length m1)) (w.heap.size+1+1):=by
   have hq1:=hb1.size
   simp at hq1
   have hlw:Below (w.heap.size+1+1) w1 (((w1.setCell ⟨w.heap.size+1+1,0,none⟩ (.int .i64 t.start)).setCell ⟨w.heap.size+1+1,1,none⟩ (.slice none 0 0)).setCell ⟨w.heap.size+1+1,2,none⟩ (.slice B1 t.writes.length m1)):=(((Below.refl (w.heap.size+1+1) w1).setCell (p:=⟨w.heap.size+1+1,0,none⟩) zn _).setCell (p:=⟨w.heap.size+1+1,1,none⟩) zn _).setCell (p:=⟨w.heap.size+1+1,2,none⟩) zn _
   have hlt1:=hs1.blt
   simp at hlt1
   refine⟨(hlw.block _ AO).trans hx1,(hlw.block _ AO).trans hy1,?_,AO,by simpa using hzl,?_,?_,fun h=>by have:=hlt1 _ h;omega⟩
   ·rw[heap_setCell_same _ _ _ _ _ _ (heap_setCell_same _ _ _ _ _ _ (heap_setCell_same _ _ _ _ _ _ hz2))]
    rfl
   ·exact ((Hbl.out.drew.alloc AU _).next hb1 AU).trans (hlw.mono AO)
   ·refine hs1.keep wrR_stays (T:=fun b=>b≠w.heap.size+1+1) ?_ (fun b _ h=>by simp only[aB] at h;simp at h;omega) (fun b hb=>by rw[aC5] at hb;have:=hlt1 b hb;omega) (fun b hb h=>⟨by simp only[aB] at h;simp at h;omega,by simp only[aB] at h;simp at h;omega⟩) ZH2
    exact (((aC.refl _ _).setCell (fun h=>h rfl) _).setCell (fun h=>h rfl) _).setCell (fun h=>h rfl) _
  have HF:=zh hF
  clear hF hb1 hs1 hx1 hy1 q0 q1 q2 hzp hz2 hzl e0 e1 e2 e3 e4 e5
  generalize (((w1.setCell ⟨w.heap.size+1+1,0,none⟩ (.int .i64 t.start)).setCell ⟨w.heap.size+1+1,1,none⟩ (.slice none 0 0)).setCell ⟨w.heap.size+1+1,2,none⟩ (.slice B1 t.writes.length m1))=W0 at *
  obtain⟨G,hG⟩:∃ G,G=w.heap.size+1+1:=⟨_,rfl⟩
  rw[← hG] at HF ⊢
  clear hG
  have hlo:=HF.out.lo
  have hhi:=HF.out.hi
  go_loopw [15] (fun i wr=>∃ (k:Nat) (v:Value),k≤t.reads.length∧i=.int .i64 k∧Own 4 WrR (aB W0.heap.size) wr W0.heap.size 204 v (t.reads.take k)∧wr.heap[G]?=some (.cells #[.int .i64 t.start,v,.slice B1 t.writes.length m1] 98 (0,0))∧Below w.heap.size W0 wr∧aC (fun b=>b<W0.heap.size∧b≠G) W0 wr) (fun i _=>t.reads.length - (intOf i).toNat)
  case atStart=>exact⟨0,_,AO,rfl,Own.nil _ _ _,HF.out.z,Below.refl _ _,aC.refl _ _⟩
  case round =>
   obtain⟨k,v,hk,rfl,hown,hcx,hbel,hsm⟩:=hrel
   have Hbel:=zh hbel
   have Hown:=zh hown
   have Hcx:=zh hcx
   have Hsm:=zh hsm
   have hbz:=hbel.size
   have Hbw:=zh (HF.out.b.trans hbel)
   clear hown hbel hcx hsm
   by_cases hlt:k<t.reads.length
   ·obtain⟨g,off,A1,a1,B2,b2,C1,c1,rfl,_,hal,hc1,hc2,hc3,hc4,hs1,hs2,hs3,hb1,hb2,hb3⟩:=aF4 (Ha.out.below wrR_stays Hbw.out) hlt
    have Hsn:=zh (aC8 t.reads k hlt)
    have hl8:(t.reads.take k++[t.reads[k]]).length=k+1:=by rw[List.length_append,List.length_take,List.length_singleton];omega
    generalize t.reads[k]=x at *
    have Hs1:=zh hs1.bz
    have Hs2:=zh hs2.bz
    have Hs3:=zh hs3.bz
    have hGr:G<wr.heap.size:=by omega
    have hbox:(wr.alloc (.cells #[.slice A1 x.name.length a1,.slice B2 x.key.length b2,.bool x.flag,.slice C1 x.value.length c1] 204)).heap[G]?=some (.cells #[.int .i64 t.start,v,.slice B1 t.writes.length m1] 98 (0,0)):=by rw[heap_alloc_old _ _ hGr];exact Hcx.out
    obtain⟨gc0,gc1,gc2,_⟩:=aY hbox
    have Hbox:=zh hbox
    clear hbox hs1 hs2 hs3
    go_wp2_with fail
    go_region_law (first
     | (go_simp;go_at_call 114;(with_reducible refine (bD1 _ A1 B2 C1 x a1 b2 c1 ?h1 ?h2 ?h3 hb1 hb2 hb3).mono ?_);(case h1=>exact Hs1.out.bsame SM);(case h2=>exact Hs2.out.bsame SM);(case h3=>exact Hs3.out.bsame SM);rintro e w6 ⟨A6,a6,B6,b6,C6,c6,rfl,gs1,gs2,gs3,hbw6⟩;have hb6:Below wr.heap.size wr w6:=(((Below.refl wr.heap.size wr).alloc zn _).drew).next hbw6 ZH2;have hz6:wr.heap.size<w6.heap.size:=(by have:=hbw6.size;simp at this;omega);have hbx6:=(hb6.block G hGr).trans Hcx.out;obtain⟨ga0,ga1,ga2,_⟩:=aY hbx6;have hG6:G<w6.heap.size:=AO)
     | (refine aW1 wrR_stays (S:=aB W0.heap.size) _ rfl (.tmp 20) (.tmp 23) _ rfl W0.heap.size 204 i0 _ 4 80 Tryz.underlying96 hi0 hz0 hz1 hz2 rfl ZD9 v (t.reads.take k) ?hs ?hown (some ⟨w6.heap.size,0,none⟩) 1 [.slice A6 x.name.length a6,.slice B6 x.key.length b6,.bool x.flag,.slice C6 x.value.length c6] ?hx rfl (aE6 w6 w6.heap.size [.slice A6 x.name.length a6,.slice B6 x.key.length b6,.bool x.flag,.slice C6 x.value.length c6] _ rfl) ZE8 ?hm ?hby ?hba x ?hd ?_;(case hs=>(simp[Act.eval,Act.put]));(case hx=>(simp[Act.eval,Act.put]));(case hown=>(refine Own.below wrR_stays Hown.out ?_;exact (hb6.alloc AZ _)));(case hm=>(simp only[List.length_take,maxLen];omega));(case hby=>(simp only[List.length_take];omega));(case hba=>(simp;omega));(case hd=>(refine bN2 (n:=wr.heap.size) (gs1.blo AZ) (gs2.blo AZ) (gs3.blo AZ) hb1 hb2 hb3 ?_ AZ (Hown.out.apart _ zn);exact SM));intro v8 w8 hown8 hbw8 hgr8;obtain⟨A8,c8,rfl,_,_⟩:=hown8.readc wrR_stays;have Hown8:=zh hown8;clear hown8;have hbx8:w8.heap[G]?=some (.cells #[.int .i64 t.start,v,.slice B1 t.writes.length m1] 98 (0,0)):=(hbw8.block G hhi).trans ((heap_alloc_old _ _ hG6).trans hbx6);obtain⟨ge0,ge1,ge2,ge3,ge4,ge5⟩:=aY hbx8))
    all_goals
     go_wp2
     go_roundw
     case rel=>exact ZA6
     case measure=>simp[intOf];omega
   ·obtain rfl:k=t.reads.length:=by omega
    have hown3:=Hown.out
    rw[List.take_length] at hown3
    obtain⟨A8,c8,rfl,hc8,_⟩:=hown3.readc wrR_stays
    have Hs8:=zh hown3
    obtain⟨ge0,ge1,ge2,_⟩:=aY Hcx.out
    obtain⟨gh0,gh1,gh2,gh3,gh4,gh5⟩:=aY ((Hsm.out.block (w.heap.size+1) ⟨AO,AO⟩ AO).trans HF.out.y)
    have hzr:w.heap.size+1<wr.heap.size:=by omega
    clear hown3 Hown
    go_wp2
    have hlt8:=Hs8.out.blt
    have hlt1:=HF.out.s.blt
    have hg1:=HF.out.g
    refine bodyPost_ret (v:=.agg #[.int .i64 t.start,.slice A8 t.reads.length c8,.slice B1 t.writes.length m1]) (by simp[results,Tryz.results65,go_sem,gh0,gh1,gh2]) rfl ⟨A8,c8,B1,m1,rfl,⟨hc8,hc1,?_,?_,?_⟩,?_⟩
    ·refine Hs8.out.keep wrR_stays (T:=aB W0.heap.size) ?_ (fun b _ h=>h) (fun b hb=>(hlt8 b (by rw[← aC5 A8];exact hb)).1) (fun b _ h=>⟨by simp only[aB] at *;omega,fun h7=>by have:=hlt1 b h7;simp only[aB] at h;omega⟩) AO
     exact ZA4
    ·refine (HF.out.s.keep wrR_stays (T:=fun b=>b<W0.heap.size∧b≠G) (S2:=fun b=>w.heap.size+2≤b∧b<W0.heap.size) (base':=w.heap.size) Hsm.out (fun b hb h=>⟨hb,h.2⟩) (fun b hb=>⟨(hlt1 b (by rw[← aC5 B1];exact hb)).2,fun e=>hg1 (by rw[aC5] at hb;rw[hb,e])⟩) (fun b hb h=>⟨h.1,hb⟩) AO).keep wrR_stays (T:=aB (w.heap.size+2)) ?_ (fun b _ h=>h.1) (fun b hb=>(hlt1 b (by rw[← aC5 B1];exact hb)).1) (fun b _ h=>⟨by simp only[aB];omega,fun h8=>by have:=hlt8 b h8;omega⟩) zn
     exact ZA4
    ·intro b h8 h1
     have:=hlt8 b h8
     have:=hlt1 b h1
     omega
    ·exact (((Hbw.out.setCell ZC5 _).setCell ZC5 _).setCell ZC5 _)
end Go.Proofs.YtablgnacmpcfeaaGreatDoor
