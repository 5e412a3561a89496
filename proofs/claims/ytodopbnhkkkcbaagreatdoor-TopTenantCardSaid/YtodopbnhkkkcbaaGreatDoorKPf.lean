/- Pf: Proofs: words for memory; what is refused of one, by the references. Walks: ProofFault; words for proof.Check. Walk: proofs (a proof in memory of its own). Walks: proof.Check of proofs that are empty, or not in form. Walk: proof.Check of a proof with steps. proof.Check: its contract. Walk: sameProof; the law ProofChecks. The conditions of each are in its words. -/
import Derived.Test.YtodopbnhkkkcbaaGreatDoorKPath
import Derived.Test.YtodopbnhkkkcbaaGreatDoorKBase
import Derived.Test.YtodopbnhkkkcbaaGreatDoorKTrees
namespace Go.Proofs.YtodopbnhkkkcbaaGreatDoor
open Go.RowKit
set_option linter.unusedVariables false
set_option linter.unusedSimpArgs false
set_option maxRecDepth 100000
set_option maxHeartbeats 8000000
structure St where
 bit:Int
 right:Bool
 other:List UInt8
def StR (S:Nat→Prop) (w:World) (cs:List Value) (s:St):Prop :=
 ∃ A c,cs=[.int .i64 s.bit,.bool s.right,.slice A s.other.length c]∧Bs S w A s.other∧s.other.length≤big
theorem stR_stays:bI StR :=
 ⟨fun _ _ _ _ _ hb ⟨A,c,h0,h1,h2⟩=>⟨A,c,h0,h1.bsame hb,h2⟩,fun _ _ _ _ _ hb ⟨A,c,h0,h1,h2⟩=>⟨A,c,h0,h1.bless hb,h2⟩⟩
abbrev Sts (S:Nat→Prop) (w:World) (A:Option Addr) (l:List St):Prop:=SL 3 StR S w A l
theorem dG3 {S:Nat→Prop} {w:World} {A:Option Addr} {l:List St} (h:Sts S w A l) {k:Nat} (hk:k<l.length) :
  ∃ b off B c,A=some ⟨b,off,none⟩∧S b∧b<w.heap.size∧w.cell? ⟨b,off+k*3,none⟩=some (.int .i64 l[k].bit)∧w.cell? ⟨b,off+k*3+1,none⟩=some (.bool l[k].right) ∧
   w.cell? ⟨b,off+k*3+2,none⟩=some (.slice B l[k].other.length c)∧Bs S w B l[k].other∧l[k].other.length≤big:=by
 obtain⟨b,off,cs,e,h0,hlt,h1,h2,B,c,rfl,h3,h4⟩:=h.at hk
 exact⟨b,off,B,c,e,h0,hlt,by simpa using h2 0 AO,by simpa using h2 1 AO,by simpa using h2 2 AO,h3,h4⟩
structure Pf where
 empty:Bool
 steps:List St
 pair:Pr
theorem box3p {w:World} {g:Nat} {t:TypeId} {a b c:Value} (h:w.heap[g]?=some (.cells #[a,b,c] t (0,0))) :
  w.cell? ⟨g,0,none⟩=some a∧w.cell? ⟨g,1,none⟩=some b∧w.cell? ⟨g,2,none⟩=some c∧w.frozen? ⟨g,0,none⟩=false∧w.frozen? ⟨g,1,none⟩=false∧w.frozen? ⟨g,2,none⟩=false :=
 ⟨aA (cs:=[a,b,c]) h 0,aA (cs:=[a,b,c]) h 1,aA (cs:=[a,b,c]) h 2,aD (cs:=[a,b,c]) h 0,aD (cs:=[a,b,c]) h 1,aD (cs:=[a,b,c]) h 2⟩
theorem aF3 {w:World} {g:Nat} {t:TypeId} {a b c d:Value} (h:w.heap[g]?=some (.cells #[a,b,c,d] t (0,0))) :
  w.cell? ⟨g,0,none⟩=some a∧w.cell? ⟨g,1,none⟩=some b∧w.cell? ⟨g,2,none⟩=some c∧w.cell? ⟨g,3,none⟩=some d∧w.frozen? ⟨g,0,none⟩=false∧w.frozen? ⟨g,1,none⟩=false∧w.frozen? ⟨g,2,none⟩=false∧w.frozen? ⟨g,3,none⟩=false :=
 ⟨aA (cs:=[a,b,c,d]) h 0,aA (cs:=[a,b,c,d]) h 1,aA (cs:=[a,b,c,d]) h 2,aA (cs:=[a,b,c,d]) h 3,aD (cs:=[a,b,c,d]) h 0,aD (cs:=[a,b,c,d]) h 1,aD (cs:=[a,b,c,d]) h 2,aD (cs:=[a,b,c,d]) h 3⟩
def dG4 (k p:List UInt8) (prev:Int) (s:St):Bool :=
 !(decide (0≤s.bit) && decide (s.bit≤144)) || s.other.length != 32 || decide (s.bit≤prev) || bP k s.bit.toNat != s.right || bP p s.bit.toNat != s.right
def dG5 (l:List St) (i:Nat):Int:=if i=0 then -1 else (l.getD (i - 1) ⟨0,false,[]⟩).bit
def dG6 (k p:List UInt8) (l:List St) (i:Nat):Int:=if dG4 k p (dG5 l i) (l.getD i ⟨0,false,[]⟩) then 4 else 0
def dG7 (k p:List UInt8) (l:List St):Int:=aB0 (dG6 k p l) l.length 0
def dG8 (k:List UInt8) (p:Pf):Int :=
 if p.empty then (if p.steps.length=0∧p.pair.1.length=0∧p.pair.2.length=0 then 0 else 4) else if aA5 p.pair≠0 then 4 else dG7 k p.pair.1 p.steps
def dG9 (k:List UInt8) (p:Pf):Int:=if aE k≠0 then aE k else dG8 k p
theorem dH0 {l:List St} {i:Nat} (h:i<l.length):dG5 l (i+1)=l[i].bit:=by simp[dG5,h]
theorem dH1 (k p:List UInt8) {l:List St} {i:Nat} (h:i<l.length):dG6 k p l i=if dG4 k p (dG5 l i) l[i] then 4 else 0:=by simp[dG6,h]
theorem one_pair {w:World} {g:Nat} {t:TypeId} {K V:Option Addr} {p:Pr} {a b:Nat} (h:w.heap[g]?=some (.cells #[.slice K p.1.length a,.slice V p.2.length b] t (0,0))) (hK:Bs All w K p.1) (hV:Bs All w V p.2) (h1:p.1.length≤big) (h2:p.2.length≤big) :
  Ps All w (some ⟨g,0,none⟩) [p]:=by
 intro _
 refine⟨g,0,rfl,trivial,(Array.getElem?_eq_some_iff.1 h).1,fun i hi=>?_⟩
 obtain rfl:i=0:=by simpa using hi
 refine⟨[.slice K p.1.length a,.slice V p.2.length b],rfl,fun j hj=>?_,K,a,V,b,rfl,hK,hV,h1,h2⟩
 have:=aA (cs:=[.slice K p.1.length a,.slice V p.2.length b]) h j
 simpa using this
theorem dH2 (p:Pr):aG [p]=aA5 p:=by
 by_cases h:aA5 p=0 <;> simp[aG,aB0,aP4,h]
theorem dH3 (w:World) (g:Nat) (t:TypeId) (K V:Option Addr) (p:Pr) (a b:Nat) (h:w.heap[g]?=some (.cells #[.slice K p.1.length a,.slice V p.2.length b] t (0,0))) (hK:Bs All w K p.1) (hV:Bs All w V p.2) (h1:p.1.length≤big) (h2:p.2.length≤big) :
  Calls Tryz.prog 48 #[.slice (some ⟨g,0,none⟩) 1 1] w (bQ w (.int .i64 (aA5 p))):=by
 have h3:=aB3 w (some ⟨g,0,none⟩) [p] 1 (one_pair h hK hV h1 h2)
 rw[dH2] at h3
 exact h3
theorem dH4 {a:List UInt8} {n:Nat} (h:aE a=0) (hn:n≤144):(bK8 a (n:Int)).1=bP a n∧(bK8 a (n:Int)).2=0:=by
 have e:bK8 a n=(bP a n,0):=by unfold bK8;rw[if_pos h,if_pos AO];simp
 rw[e]
 exact⟨rfl,rfl⟩
theorem dH5 {a:List UInt8} {i:Int} (h:aE a=0) (hn:¬ (0≤i∧i≤144)):(bK8 a i).1=false∧(bK8 a i).2=2:=by
 have e:bK8 a i=(false,2):=by unfold bK8;rw[if_pos h,if_neg hn]
 rw[e]
 exact⟨rfl,rfl⟩
theorem dH6 {p:Pr} (h:aA5 p=0):aE p.1=0:=by
 unfold aA5 at h
 split at h
 ·omega
 ·exact h
theorem dH7 {k:List UInt8} {p:Pf} (h:aE k=0):dG9 k p=dG8 k p:=by
 unfold dG9
 rw[if_neg ZF9]
theorem dH8 (w:World) (K V:Option Addr) (p:Pr) (a b:Nat) (h1:p.1.length≤big) (h2:p.2.length≤big) :
  Calls Tryz.prog 79 #[.agg #[.slice K p.1.length a,.slice V p.2.length b]] w (bQ w (.bool (decide (p.1.length=0) && decide (p.2.length=0)))):=by
 have H1:=zh h1
 have H2:=zh h2
 have hw:IntKind.i64.wrap ((p.1.length:Int)+(p.2.length:Int))=(p.1.length:Int)+(p.2.length:Int):=IntWalk.i64_in _ (by unfold big at h1 h2;omega)
 clear h1 h2
 go_enter Tryz.func79,Tryz.ntmps79
 go_wp2
 go_ret
 refine⟨aC9 ?_,BE⟩
 generalize p.1.length=x
 generalize p.2.length=y
 rw[Bool.eq_iff_iff]
 simp
 omega
theorem info_st:(Tryz.prog.info? 163).map (fun i=>(i.zero,i.size,i.bytes))=some (some (.agg #[.int .i64 0,.bool false,.slice none 0 0]),3,40):=by kernel_rfl
theorem cS1 (w:World) (a b:Obj):((w.alloc a).alloc b).heap[w.heap.size]?=some a∧((w.alloc a).alloc b).heap[w.heap.size+1]?=some b∧((w.alloc a).alloc b).heap.size=w.heap.size+2∧Below w.heap.size w ((w.alloc a).alloc b):=by
 refine⟨?_,?_,by simp,((Below.refl _ _).alloc zn _).alloc ZH2 _⟩
 ·rw[heap_alloc_old _ _ ZH2,heap_alloc_new]
 ·have:=heap_alloc_new (w.alloc a) b
  simpa using this
theorem cH4 {n base:Nat} {w W:World} {v:Value} {A:Option Addr} {x:St} {a:Nat} (h1:Bs (aB n) w A x.other) (g1:x.other.length≤big) (hs:aC (aB n) w W) (hb:base≤n) (hap:∀ b,aB n b→v.ownBlock≠some b) :
  StR (fun b=>aB base b∧v.ownBlock≠some b) W [.int .i64 x.bit,.bool x.right,.slice A x.other.length a] x :=
 ⟨A,a,rfl,(h1.bsame hs).bless fun b _ h=>⟨Nat.le_trans hb h,hap b h⟩,g1⟩
theorem Own.same_from3 {α:Type} {size:Nat} {R:(Nat→Prop)→World→List Value→α→Prop} {w w':World} {base:Nat} {e:TypeId} {v:Value} {l:List α} (hR:bI R) (h:Own size R (aB base) w base e v l) (hb:aC (aB base) w w'):Own size R (aB base) w' base e v l:=by
 obtain⟨xs,h1,h2⟩:=h
 refine⟨xs,⟨h1.1,?_⟩,fun i hi=>?_⟩
 ·rcases h1.2 with hn|⟨g,cap,cur,hv',hb',hh,rest⟩
  ·exact .inl hn
  ·refine .inr ⟨g,cap,cur,hv',hb',?_,rest⟩
   rw[hb.block g hb' (Array.getElem?_eq_some_iff.1 hh).1]
   exact hh
 ·have h3:=hR.less _ (fun b=>(aB base b∧v.ownBlock≠some b)∧aB base b) w _ _ (fun b hb2 hs=>⟨hs,hs.1⟩) (h2 i hi)
  have h4:=hR.same _ w w' _ _ ⟨hb.size,fun k hk hk2=>hb.block k hk.2 hk2⟩ h3
  exact hR.less _ _ _ _ _ (fun b _ hs=>hs.1) h4
theorem dH9 (w:World) (D:Option Addr) (k:List UInt8) (dc:Nat) (A K V:Option Addr) (p:Pf) (n a b:Nat) (hk:Bs All w D k) (ha:Sts All w A p.steps) (hK:Bs All w K p.pair.1) (hV:Bs All w V p.pair.2) (hst:p.steps.length*40≤140737488355328) (hl1:p.pair.1.length≤big) (hl2:p.pair.2.length≤big) (hkf:aE k=0) (he:p.empty=true) :
  Calls Tryz.prog 54 #[.slice D k.length dc,.agg #[.bool true,.slice A p.steps.length n,.slice K p.pair.1.length a,.slice V p.pair.2.length b]] w (bQ w (.int .i64 (dG8 k p))):=by
 have Hk:=zh hk
 have Ha:=zh ha
 have HK:=zh hK
 have HV:=zh hV
 clear hk ha hK hV
 have Hkf:=zh hkf
 clear hkf
 by_cases hs:p.steps.length=0
 ·have Hv:=zh (show dG8 k p=if (decide (p.pair.1.length=0) && decide (p.pair.2.length=0))=true then 0 else 4 by
   unfold dG8
   rw[if_pos he]
   by_cases h2:p.pair.1.length=0 <;> by_cases h3:p.pair.2.length=0 <;> simp_all)
  have hs':decide ((0:Int)<(p.steps.length:Int))=false:=by simp[hs]
  have hs0:p.steps=[]:=List.eq_nil_of_length_eq_zero hs
  clear hs
  cases hn:(decide (p.pair.1.length=0) && decide (p.pair.2.length=0))
  all_goals
   rw[hn] at Hv
   have Hn:=zh hn
   clear hn
   go_enter Tryz.func54,Tryz.ntmps54
   go_wp2_with (first
    | (go_at_call 49;refine (aF _ D k dc).mono ?_;rintro e w1 ⟨rfl,rfl⟩;rw[Hkf.out])
    | (go_at_call 79;refine (dH8 _ K V p.pair a b hl1 hl2).mono ?_;rintro e w2 ⟨rfl,hb2⟩;rw[Hn.out]))
   go_ret
   exact⟨aM (by rw[Hv.out];rfl),(by refine Below.next ?_ hb2 AU;exact BE)⟩
 ·have hv:dG8 k p=4:=by unfold dG8;rw[if_pos he,if_neg (by simp[hs])]
  have hs0:¬ p.steps=[]:=fun h=>hs (by rw[h];rfl)
  have hs1:0<p.steps.length:=by omega
  rw[hv]
  clear hv hs
  go_enter Tryz.func54,Tryz.ntmps54
  go_wp2_with (go_at_call 49;refine (aF _ D k dc).mono ?_;rintro e w1 ⟨rfl,rfl⟩;rw[Hkf.out])
  go_ret
  exact⟨rfl,BE⟩
theorem dI0 (w:World) (D:Option Addr) (k:List UInt8) (dc:Nat) (A K V:Option Addr) (p:Pf) (n a b:Nat) (hk:Bs All w D k) (ha:Sts All w A p.steps) (hK:Bs All w K p.pair.1) (hV:Bs All w V p.pair.2) (hst:p.steps.length*40≤140737488355328) (hl1:p.pair.1.length≤big) (hl2:p.pair.2.length≤big) (hkf:aE k=0) (he':p.empty=false) (hp:aA5 p.pair≠0) :
  Calls Tryz.prog 54 #[.slice D k.length dc,.agg #[.bool false,.slice A p.steps.length n,.slice K p.pair.1.length a,.slice V p.pair.2.length b]] w (bQ w (.int .i64 (dG8 k p))):=by
 have Hk:=zh hk
 have Ha:=zh ha
 have HK:=zh hK
 have HV:=zh hV
 clear hk ha hK hV
 have Hkf:=zh hkf
 clear hkf
 have Hpf:=zh (rfl:aA5 p.pair=aA5 p.pair)
 have hp':(aA5 p.pair != 0)=true:=by simpa using hp
 have hv:dG8 k p=4:=by unfold dG8;rw[if_neg (by simp[he']),if_pos hp]
 rw[hv]
 clear hp hv
 go_enter Tryz.func54,Tryz.ntmps54
 go_wp2_with (first
  | (go_at_call 49;refine (aF _ D k dc).mono ?_;rintro e w1 ⟨rfl,rfl⟩;rw[Hkf.out])
  | (go_at_call 48;(with_reducible refine (dH3 _ _ 44 K V p.pair a b ?hh ?hx ?hy hl1 hl2).mono ?_);(case hh=>(have h:=aK (w.alloc (.cells #[.bool false,.slice A p.steps.length n,.slice K p.pair.1.length a,.slice V p.pair.2.length b] 46)) #[.slice K p.pair.1.length a,.slice V p.pair.2.length b] 44;simpa using h));(case hx=>(refine HK.out.bbelow ?_;exact BE));(case hy=>(refine HV.out.bbelow ?_;exact BE));rintro e w2 ⟨rfl,hb2⟩))
 go_ret
 exact⟨rfl,(by refine Below.next ?_ hb2 AU;exact BE)⟩
theorem dI1 (w:World) (D:Option Addr) (k:List UInt8) (dc:Nat) (A K V:Option Addr) (p:Pf) (n a b:Nat) (hk:Bs All w D k) (ha:Sts All w A p.steps) (hK:Bs All w K p.pair.1) (hV:Bs All w V p.pair.2) (hst:p.steps.length*40≤140737488355328) (hl1:p.pair.1.length≤big) (hl2:p.pair.2.length≤big) (hkf:¬ aE k=0) :
  Calls Tryz.prog 54 #[.slice D k.length dc,.agg #[.bool p.empty,.slice A p.steps.length n,.slice K p.pair.1.length a,.slice V p.pair.2.length b]] w (bQ w (.int .i64 (dG9 k p))):=by
 have Hk:=zh hk
 have Ha:=zh ha
 have HK:=zh hK
 have HV:=zh hV
 clear hk ha hK hV
 have hv:dG9 k p=aE k:=by unfold dG9;rw[if_pos hkf]
 have b1:(aE k != 0)=true:=by simpa using hkf
 rw[hv]
 clear hkf hv
 go_enter Tryz.func54,Tryz.ntmps54
 go_wp2_with (go_at_call 49;refine (aF _ D k dc).mono ?_;rintro e w1 ⟨rfl,rfl⟩)
 go_ret
 exact⟨rfl,BE⟩
theorem dI2 (w:World) (D:Option Addr) (k:List UInt8) (dc:Nat) (A K V:Option Addr) (p:Pf) (n a b:Nat) (hk:Bs All w D k) (ha:Sts All w A p.steps) (hK:Bs All w K p.pair.1) (hV:Bs All w V p.pair.2) (hst:p.steps.length*40≤140737488355328) (hl1:p.pair.1.length≤big) (hl2:p.pair.2.length≤big) (hkf:aE k=0) (he':p.empty=false) (hp:aA5 p.pair=0) :
  Calls Tryz.prog 54 #[.slice D k.length dc,.agg #[.bool false,.slice A p.steps.length n,.slice K p.pair.1.length a,.slice V p.pair.2.length b]] w (bQ w (.int .i64 (dG8 k p))):=by
 have Hk:=zh hk
 have Ha:=zh ha
 have HK:=zh hK
 have HV:=zh hV
 clear hk ha hK hV
 have Hkf:=zh hkf
 clear hkf
 have Hpk:=zh (dH6 hp)
 have Hpf:=zh hp
 have Hv:=zh (show dG8 k p=dG7 k p.pair.1 p.steps by unfold dG8;rw[if_neg (by simp[he']),if_neg (by simpa using hp)])
 have Hbox:=zh (show ∀ W,Below (w.heap.size+1) (w.alloc (.cells #[.bool false,.slice A p.steps.length n,.slice K p.pair.1.length a,.slice V p.pair.2.length b] 46)) W→W.cell? ⟨w.heap.size,1,none⟩=some (.slice A p.steps.length n)∧W.cell? ⟨w.heap.size,2,none⟩=some (.slice K p.pair.1.length a)∧Below w.heap.size w W∧w.heap.size+1≤W.heap.size from fun W hW=>by
  obtain⟨g0,g1,g2,g3,_⟩:=aF3 ((hW.block _ AO).trans (aK w _ _))
  exact⟨g1,g2,((Below.refl w.heap.size w).alloc zn _).trans (hW.mono AO),by simpa using hW.size⟩)
 clear hp
 go_enter Tryz.func54,Tryz.ntmps54
 go_wp2_with (first
  | (go_at_call 49;refine (aF _ D k dc).mono ?_;rintro e w1 ⟨rfl,rfl⟩;rw[Hkf.out])
  | (go_at_call 48;(with_reducible refine (dH3 _ _ 44 K V p.pair a b ?hh ?hx ?hy hl1 hl2).mono ?_);(case hh=>(have h:=aK (w.alloc (.cells #[.bool false,.slice A p.steps.length n,.slice K p.pair.1.length a,.slice V p.pair.2.length b] 46)) #[.slice K p.pair.1.length a,.slice V p.pair.2.length b] 44;simpa using h));(case hx=>(refine HK.out.bbelow ?_;exact BE));(case hy=>(refine HV.out.bbelow ?_;exact BE));rintro e w2 ⟨rfl,hb2'⟩;rw[Hpf.out];have hb2:Below (w.heap.size+1) (w.alloc (.cells #[.bool false,.slice A p.steps.length n,.slice K p.pair.1.length a,.slice V p.pair.2.length b] 46)) w2:=(((Below.refl _ _).alloc ZH2 _).trans (hb2'.mono ZH2));obtain⟨g1,g2,hw2,hz2⟩:=Hbox.out w2 hb2;clear hb2'))
 have Hb2:=zh hb2
 clear hb2 hw2 g1 g2
 go_loopw [6,38] (fun last i wr=>∃ j:Nat,j≤p.steps.length∧i=.int .i64 j∧last=.int .i64 (dG5 p.steps j)∧aB0 (dG6 k p.pair.1 p.steps) (p.steps.length - j) j=dG7 k p.pair.1 p.steps∧Below w2.heap.size w2 wr) (fun _ i _=>p.steps.length - (intOf i).toNat)
 case atStart=>exact⟨0,AO,rfl,rfl,rfl,Below.refl _ _⟩
 case round =>
  obtain⟨j,hj,rfl,rfl,hval,hbel⟩:=hrel
  have Hbel:=zh hbel
  have Hval:=zh hval
  have hzz:=hbel.size
  obtain⟨g1,g2,hb1,hz1⟩:=Hbox.out wr (Hb2.out.next hbel AO)
  have Hb1:=zh hb1
  have Hbr:=zh (Hb2.out.next hbel AO)
  clear hbel hval hb1
  by_cases hlt:j<p.steps.length
  ·have Hstep:=zh (aO4 (dG6 k p.pair.1 p.steps) hlt)
   have Heq:=zh (dH1 k p.pair.1 hlt)
   obtain⟨g,off,B,c,hX,_,hal,hc1,hc2,hc3,_,_⟩:=dG3 (Ha.out.below stR_stays Hb1.out) hlt
   have Hbad0:=zh (show dG4 k p.pair.1 (dG5 p.steps j) p.steps[j]=true→dG8 k p=4 from fun h=>by rw[Hv.out,← Hval.out,Hstep.out,Heq.out,if_pos h];rfl)
   have Hgood0:=zh (show dG4 k p.pair.1 (dG5 p.steps j) p.steps[j]=false→aB0 (dG6 k p.pair.1 p.steps) (p.steps.length - (j+1)) (j+1)=dG7 k p.pair.1 p.steps from fun h=>by rw[← Hval.out,Hstep.out,Heq.out,if_neg (by rw[h];decide)])
   have Hpb:=zh (dH0 hlt)
   clear Hstep Heq Hval
   generalize dG5 p.steps j=yb at *
   generalize p.steps[j]=x at *
   obtain⟨xb,xr,xo⟩:=x
   dsimp only at hc1 hc2 hc3 Hbad0 Hgood0 Hpb
   have Hbad:=zh Hbad0.out
   have Hgood:=zh Hgood0.out
   subst hX
   clear Hbad0 Hgood0
   have Hx:=zh (show ∀ W,Below (wr.heap.size+1) (wr.alloc (.cells #[.int .i64 xb,.bool xr,.slice B xo.length c] 163)) W→W.cell? ⟨wr.heap.size,0,none⟩=some (.int .i64 xb)∧W.cell? ⟨wr.heap.size,1,none⟩=some (.bool xr)∧W.cell? ⟨wr.heap.size,2,none⟩=some (.slice B xo.length c)∧Below wr.heap.size wr W∧wr.heap.size+1≤W.heap.size∧W.cell? ⟨w.heap.size,2,none⟩=some (.slice K p.pair.1.length a)∧Below w.heap.size w W from fun W hW=>by
    obtain⟨q0,q1,q2,_⟩:=box3p ((hW.block _ AO).trans (aK wr _ _))
    have hwW:=((Below.refl wr.heap.size wr).alloc zn _).trans (hW.mono AO)
    have hbx:=Hbox.out W (Hbr.out.next hwW AO)
    exact⟨q0,q1,q2,hwW,by simpa using hW.size,hbx.2.1,hbx.2.2.1⟩)
   rcases Bool.eq_false_or_eq_true (decide (0≤xb) && decide (xb≤144)) with hr|hr
   ·have hx0:0≤xb∧xb≤144:=by simpa using hr
    obtain⟨xn,rfl⟩:∃ n:Nat,xb=n:=⟨xb.toNat,AO⟩
    have HmA:=zh (dH4 (n:=xn) Hkf.out AO).1
    have HmB:=zh (dH4 (n:=xn) Hkf.out AO).2
    have HiA:=zh (dH4 (n:=xn) Hpk.out AO).1
    have HiB:=zh (dH4 (n:=xn) Hpk.out AO).2
    have Hr:=zh hr
    have ex:(xn:Int).toNat=xn:=by simp
    have Hst:=zh (show ∀ u v:Bool,u=bP k xn→v=bP p.pair.1 xn→dG4 k p.pair.1 yb ⟨xn,xr,xo⟩=(((xo.length != 32 || decide ((xn:Int)≤yb)) || (u != xr)) || (v != xr)) from fun u v hu hv=>by unfold dG4;rw[Hr.out];dsimp only;rw[ex,← hu,← hv,Bool.not_true,Bool.false_or])
    clear hr hx0 ex
    generalize hu:bP k xn=u at *
    generalize hv:bP p.pair.1 xn=v at *
    have Hst2:=zh (Hst.out u v rfl rfl)
    clear hu hv Hst
    rcases Bool.eq_false_or_eq_true (decide ((xn:Int)≤yb)) with ho|ho
    ·have Hbd:=zh (Hbad.out (by rw[Hst2.out,ho];simp))
     go_wp2_with (first
      | (go_at_call 80;(with_reducible refine (aR7 _ D k dc xn ?hq).mono ?_);(case hq=>(refine Hk.out.bbelow (Below.next Hb1.out ?_ AO);exact BE));rintro e w4 ⟨rfl,hb4⟩;obtain⟨q0,q1,q2,hx4,hz4,q3,hw4⟩:=Hx.out w4 (hb4.mono ZH2);rw[HmA.out,HmB.out];clear hb4)
      | (go_at_call 80;(with_reducible refine (aR7 _ K p.pair.1 a xn ?hq).mono ?_);(case hq=>exact HK.out.bbelow hw4);rintro e w5 ⟨rfl,hb5⟩;have hx5:=hx4.next hb5 AO;have r0:=(hb5.cell ZC8).trans q0;have r1:=(hb5.cell ZC8).trans q1;have r2:=(hb5.cell ZC8).trans q2;rw[HiA.out,HiB.out];clear hb5))
     go_ret
     exact⟨aM (by rw[Hbd.out]),Hb1.out.next hx5 AO⟩
    ·rcases Bool.eq_false_or_eq_true (u != xr) with h1|h1
     ·have Hbd:=zh (Hbad.out (by rw[Hst2.out,h1];simp))
      clear Hst2 Hbad Hgood
      cases u <;> cases xr <;> first|exact absurd h1 ZD9|skip
      all_goals
       go_wp2_with (first
        | (go_at_call 80;(with_reducible refine (aR7 _ D k dc xn ?hq).mono ?_);(case hq=>(refine Hk.out.bbelow (Below.next Hb1.out ?_ AO);exact BE));rintro e w4 ⟨rfl,hb4⟩;obtain⟨q0,q1,q2,hx4,hz4,q3,hw4⟩:=Hx.out w4 (hb4.mono ZH2);rw[HmA.out,HmB.out];clear hb4)
        | (go_at_call 80;(with_reducible refine (aR7 _ K p.pair.1 a xn ?hq).mono ?_);(case hq=>exact HK.out.bbelow hw4);rintro e w5 ⟨rfl,hb5⟩;have hx5:=hx4.next hb5 AO;have r0:=(hb5.cell ZC8).trans q0;have r1:=(hb5.cell ZC8).trans q1;have r2:=(hb5.cell ZC8).trans q2;rw[HiA.out,HiB.out];clear hb5))
       go_ret
       exact⟨aM (by rw[Hbd.out]),Hb1.out.next hx5 AO⟩
     ·rcases Bool.eq_false_or_eq_true (v != xr) with h2|h2
      ·have Hbd:=zh (Hbad.out (by rw[Hst2.out,h2];simp))
       clear Hst2 Hbad Hgood
       cases u <;> cases xr <;> cases v <;> first|exact absurd h1 ZD9|exact absurd h2 ZD9|skip
       all_goals
        go_wp2_with (first
         | (go_at_call 80;(with_reducible refine (aR7 _ D k dc xn ?hq).mono ?_);(case hq=>(refine Hk.out.bbelow (Below.next Hb1.out ?_ AO);exact BE));rintro e w4 ⟨rfl,hb4⟩;obtain⟨q0,q1,q2,hx4,hz4,q3,hw4⟩:=Hx.out w4 (hb4.mono ZH2);rw[HmA.out,HmB.out];clear hb4)
         | (go_at_call 80;(with_reducible refine (aR7 _ K p.pair.1 a xn ?hq).mono ?_);(case hq=>exact HK.out.bbelow hw4);rintro e w5 ⟨rfl,hb5⟩;have hx5:=hx4.next hb5 AO;have r0:=(hb5.cell ZC8).trans q0;have r1:=(hb5.cell ZC8).trans q1;have r2:=(hb5.cell ZC8).trans q2;rw[HiA.out,HiB.out];clear hb5))
        go_ret
        exact⟨aM (by rw[Hbd.out]),Hb1.out.next hx5 AO⟩
      ·by_cases hl:xo.length=32
       ·have hl':((xo.length:Int) != 32)=false:=by simp[hl]
        have Hgd:=zh (Hgood.out (by rw[Hst2.out,ho,h1,h2];simp[hl]))
        clear hl Hst2 Hbad Hgood
        cases u <;> cases xr <;> cases v <;> first|exact absurd h1 ZD9|exact absurd h2 ZD9|skip
        all_goals
         go_wp2_with (first
          | (go_at_call 80;(with_reducible refine (aR7 _ D k dc xn ?hq).mono ?_);(case hq=>(refine Hk.out.bbelow (Below.next Hb1.out ?_ AO);exact BE));rintro e w4 ⟨rfl,hb4⟩;obtain⟨q0,q1,q2,hx4,hz4,q3,hw4⟩:=Hx.out w4 (hb4.mono ZH2);rw[HmA.out,HmB.out];clear hb4)
          | (go_at_call 80;(with_reducible refine (aR7 _ K p.pair.1 a xn ?hq).mono ?_);(case hq=>exact HK.out.bbelow hw4);rintro e w5 ⟨rfl,hb5⟩;have hx5:=hx4.next hb5 AO;have r0:=(hb5.cell ZC8).trans q0;have r1:=(hb5.cell ZC8).trans q1;have r2:=(hb5.cell ZC8).trans q2;rw[HiA.out,HiB.out];clear hb5))
         go_roundw
         case rel=>exact⟨j+1,AO,by go_num,by rw[Hpb.out],Hgd.out,Hbel.out.next hx5 AO⟩
         case measure=>simp[intOf];omega
       ·have hl':((xo.length:Int) != 32)=true:=by simp;omega
        have Hbd:=zh (Hbad.out (by rw[Hst2.out];simp[hl]))
        clear hl Hst2 Hbad Hgood
        cases u <;> cases xr <;> cases v <;> first|exact absurd h1 ZD9|exact absurd h2 ZD9|skip
        all_goals
         go_wp2_with (first
          | (go_at_call 80;(with_reducible refine (aR7 _ D k dc xn ?hq).mono ?_);(case hq=>(refine Hk.out.bbelow (Below.next Hb1.out ?_ AO);exact BE));rintro e w4 ⟨rfl,hb4⟩;obtain⟨q0,q1,q2,hx4,hz4,q3,hw4⟩:=Hx.out w4 (hb4.mono ZH2);rw[HmA.out,HmB.out];clear hb4)
          | (go_at_call 80;(with_reducible refine (aR7 _ K p.pair.1 a xn ?hq).mono ?_);(case hq=>exact HK.out.bbelow hw4);rintro e w5 ⟨rfl,hb5⟩;have hx5:=hx4.next hb5 AO;have r0:=(hb5.cell ZC8).trans q0;have r1:=(hb5.cell ZC8).trans q1;have r2:=(hb5.cell ZC8).trans q2;rw[HiA.out,HiB.out];clear hb5))
         go_ret
         exact⟨aM (by rw[Hbd.out]),Hb1.out.next hx5 AO⟩
   ·have hx0:¬ (0≤xb∧xb≤144):=by intro h;simp[h] at hr
    have Hbd:=zh (Hbad.out (by unfold dG4;rw[hr];rfl))
    have HmA:=zh (dH5 Hkf.out hx0).1
    have HmB:=zh (dH5 Hkf.out hx0).2
    have HiA:=zh (dH5 Hpk.out hx0).1
    have HiB:=zh (dH5 Hpk.out hx0).2
    clear hr hx0
    go_wp2_with (first
     | (go_at_call 80;(with_reducible refine (aR7 _ D k dc xb ?hq).mono ?_);(case hq=>(refine Hk.out.bbelow (Below.next Hb1.out ?_ AO);exact BE));rintro e w4 ⟨rfl,hb4⟩;obtain⟨q0,q1,q2,hx4,hz4,q3,hw4⟩:=Hx.out w4 (hb4.mono ZH2);rw[HmA.out,HmB.out];clear hb4)
     | (go_at_call 80;(with_reducible refine (aR7 _ K p.pair.1 a xb ?hq).mono ?_);(case hq=>exact HK.out.bbelow hw4);rintro e w5 ⟨rfl,hb5⟩;have hx5:=hx4.next hb5 AO;have r0:=(hb5.cell ZC8).trans q0;have r1:=(hb5.cell ZC8).trans q1;have r2:=(hb5.cell ZC8).trans q2;rw[HiA.out,HiB.out];clear hb5))
    go_ret
    exact⟨aM (by rw[Hbd.out]),Hb1.out.next hx5 AO⟩
  ·go_wp2
   go_ret
   obtain rfl:j=p.steps.length:=by omega
   have h:=Hval.out
   rw[Nat.sub_self] at h
   exact⟨aM (by rw[Hv.out,← h];rfl),Hb1.out⟩
theorem dI3 (w:World) (D:Option Addr) (k:List UInt8) (dc:Nat) (A K V:Option Addr) (p:Pf) (n a b:Nat) (hk:Bs All w D k) (ha:Sts All w A p.steps) (hK:Bs All w K p.pair.1) (hV:Bs All w V p.pair.2) (hst:p.steps.length*40≤140737488355328) (hl1:p.pair.1.length≤big) (hl2:p.pair.2.length≤big) :
  Calls Tryz.prog 54 #[.slice D k.length dc,.agg #[.bool p.empty,.slice A p.steps.length n,.slice K p.pair.1.length a,.slice V p.pair.2.length b]] w (bQ w (.int .i64 (dG9 k p))):=by
 by_cases hkf:aE k=0
 ·rw[dH7 hkf]
  by_cases he:p.empty=true
  ·rw[he]
   exact dH9 w D k dc A K V p n a b hk ha hK hV hst hl1 hl2 hkf he
  ·have he':p.empty=false:=by simpa using he
   rw[he']
   by_cases hp:aA5 p.pair=0
   ·exact dI2 w D k dc A K V p n a b hk ha hK hV hst hl1 hl2 hkf he' hp
   ·exact dI0 w D k dc A K V p n a b hk ha hK hV hst hl1 hl2 hkf he' hp
 ·exact dI1 w D k dc A K V p n a b hk ha hK hV hst hl1 hl2 hkf
end Go.Proofs.YtodopbnhkkkcbaaGreatDoor
