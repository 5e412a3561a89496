/- TapeK: Walks: tapes synced and crashed. The walk of TapeSyncs. Walks: tapes crashed. The conditions of each are in its words. -/
import Derived.OpenShut
import Derived.Test.YtablgnacmpcfeaaGreatDoorKBase
namespace Go.Proofs.YtablgnacmpcfeaaGreatDoor
open Go.RowKit
set_option linter.unusedVariables false
set_option linter.unusedSimpArgs false
set_option maxRecDepth 100000
set_option maxHeartbeats 8000000
abbrev Tp:=List UInt8 × Int
def TapeR (S:Nat→Prop) (w:World) (cs:List Value) (t:Tp):Prop:=∃ A c,cs=[.slice A t.1.length c,.int .i64 t.2]∧t.1.length≤c∧Bs S w A t.1∧t.1.length≤big
def bF2 (w:World) (t:Tp) (v:Value) (e:Ending) (w':World):Prop :=
 ∃ A c,e=.returned (.tuple #[.agg #[.slice A t.1.length c,.int .i64 t.2],v])∧t.1.length≤c∧Bs (aB w.heap.size) w' A t.1∧Below w.heap.size w w'
def aR5 (t:Tp):Bool:=decide (0≤t.2∧t.2≤t.1.length∧t.1.length≤200000)
theorem aH8 (t:Tp):aR5 t=true↔(0≤t.2∧t.2≤t.1.length∧t.1.length≤200000):=by simp[aR5]
theorem aW8 (w:World) (A:Option Addr) (t:Tp) (c:Nat) (ha:Bs All w A t.1) (hm:aR5 t=true) :
  Calls Tryz.prog 179 #[.agg #[.slice A t.1.length c,.int .i64 t.2]] w (bF2 w t (.bool true)):=by
 obtain⟨m0,m1,m2⟩:=(aH8 t).1 hm
 have h1:t.1.length≤big:=by unfold big;omega
 have b1:decide (t.2<0)=false:=by simp;omega
 have b2:decide ((t.1.length:Int)<t.2)=false:=by simp;omega
 have b3:decide (200000<(t.1.length:Int))=false:=by simp;omega
 clear hm
 have Ha:=zh ha
 clear ha
 go_enter Tryz.func179,Tryz.ntmps179
 go_wp2_with fail
 go_region_held3 (fun w'=>w'.cell? ⟨w.heap.size,0,none⟩=some (.slice A t.1.length c)∧w'.cell? ⟨w.heap.size,1,none⟩=some (.int .i64 t.2))
  (first
   | go_keep
   | (go_split_ands;refine⟨(hb1.cell AU).trans ZF3,(hb1.cell AU).trans ZF3⟩))
  ((go_at_call 49;(with_reducible refine (bA2 _ A t.1 c ?ha h1).mono ?_);(case ha=>(refine Ha.out.bbelow ?_;exact BE));rintro e w1 ⟨A1,c1,rfl,hcap,hs1,hb1⟩;have g0:w1.cell? ⟨w.heap.size+1,0,none⟩=some (.slice none 0 0):=(hb1.cell AU).trans ZH2;have g1:w1.cell? ⟨w.heap.size+1,1,none⟩=some (.int .i64 0):=(hb1.cell AU).trans ZH2;have f0:w1.frozen? ⟨w.heap.size+1,0,none⟩=false:=(hb1.frozen AU).trans ZH2;have f1:w1.frozen? ⟨w.heap.size+1,1,none⟩=false:=(hb1.frozen AU).trans ZH2))
 go_wp2
 refine bodyPost_ret (v:=.tuple #[.agg #[.slice A1 t.1.length c1,.int .i64 t.2],.bool true]) (by simp[results,Tryz.results179,go_sem,g0,g1]) rfl ⟨A1,c1,rfl,hcap,?_,?_⟩
 ·exact (hs1.bsame (((aC.refl _ _).setCell ZE6 _).setCell ZE6 _)).blo AU
 ·refine Below.setCell (Below.setCell (Below.next ?_ hb1 AU) AU _) AU _
  exact BE
theorem aS7 (w:World) (A:Option Addr) (t:Tp) (c:Nat) (hm:aR5 t=false) :
  Calls Tryz.prog 179 #[.agg #[.slice A t.1.length c,.int .i64 t.2]] w (bF2 w ([],0) (.bool false)):=by
 have hno:¬ (0≤t.2∧t.2≤t.1.length∧t.1.length≤200000):=fun h=>by rw[(aH8 t).2 h] at hm;cases hm
 clear hm
 rcases (by omega:t.2<0∨(0≤t.2∧(t.1.length:Int)<t.2)∨(0≤t.2∧t.2≤t.1.length∧200000<t.1.length)) with h|⟨h,h'⟩|⟨h,h',h''⟩
 all_goals
  clear hno
  go_enter Tryz.func179,Tryz.ntmps179
  go_wp2
  refine bodyPost_ret (v:=.tuple #[.agg #[.slice none 0 0,.int .i64 0],.bool false]) (by simp[results,Tryz.results179,go_sem]) rfl ⟨none,0,rfl,zn,SL.nil,?_⟩
  exact BX
theorem cF3 (w:World) (A:Option Addr) (t:Tp) (c:Nat) (ha:Bs All w A t.1) :
  Calls Tryz.prog 122 #[.agg #[.slice A t.1.length c,.int .i64 t.2]] w (bF2 w (if aR5 t then (t.1,(t.1.length:Int)) else ([],0)) (.int .i64 (if aR5 t then 0 else 6))):=by
 have Ha:=zh ha
 clear ha
 rcases Bool.eq_false_or_eq_true (aR5 t) with hm|hm
 ·rw[if_pos hm,if_pos hm]
  have Hm:=zh hm
  clear hm
  go_enter Tryz.func122,Tryz.ntmps122
  go_wp2_with (go_at_call 179;refine (aW8 _ A t c (Ha.out.bbelow ?_) Hm.out).mono ?_;(all_goals try exact BE);rintro e w1 ⟨A1,c1,rfl,hcap,hs1,hb1⟩;have g0:w1.cell? ⟨w.heap.size+1,0,none⟩=some (.slice none 0 0):=(hb1.cell AU).trans ZH2;have g1:w1.cell? ⟨w.heap.size+1,1,none⟩=some (.int .i64 0):=(hb1.cell AU).trans ZH2;have f0:w1.frozen? ⟨w.heap.size+1,0,none⟩=false:=(hb1.frozen AU).trans ZH2;have f1:w1.frozen? ⟨w.heap.size+1,1,none⟩=false:=(hb1.frozen AU).trans ZH2;have hlt:w.heap.size+1<w1.heap.size:=ZD8)
  have hbw:Below w.heap.size w w1:=Below.next (((Below.refl _ _).alloc zn _).alloc AU _) hb1 AU
  refine bodyPost_ret (v:=.tuple #[.agg #[.slice A1 t.1.length c1,.int .i64 t.1.length],.int .i64 0]) (by simp[results,Tryz.results122,go_sem,g0,g1,hlt]) rfl ⟨A1,c1,rfl,hcap,?_,?_⟩
  ·refine SL.blo (SL.bsame (hs1.blo (m:=w.heap.size+2) AU) ?_) AU
   repeat' (first|exact aC.refl _ _|refine aC.alloc ?_ _|refine aC.drew ?_|refine aC.drewN ?_ _|refine aC.setCell ?_ ZE6 _)
  ·exact BX
 ·rw[if_neg (by simp[hm]),if_neg (by simp[hm])]
  have Hm:=zh hm
  clear hm
  go_enter Tryz.func122,Tryz.ntmps122
  go_wp2_with (go_at_call 179;refine (aS7 _ A t c Hm.out).mono ?_;rintro e w1 ⟨A1,c1,rfl,hcap,hs1,hb1⟩;have g0:w1.cell? ⟨w.heap.size+1,0,none⟩=some (.slice none 0 0):=(hb1.cell AU).trans ZH2;have g1:w1.cell? ⟨w.heap.size+1,1,none⟩=some (.int .i64 0):=(hb1.cell AU).trans ZH2;have f0:w1.frozen? ⟨w.heap.size+1,0,none⟩=false:=(hb1.frozen AU).trans ZH2;have f1:w1.frozen? ⟨w.heap.size+1,1,none⟩=false:=(hb1.frozen AU).trans ZH2;have hlt:w.heap.size+1<w1.heap.size:=ZD8)
  have hbw:Below w.heap.size w w1:=Below.next (((Below.refl _ _).alloc zn _).alloc AU _) hb1 AU
  refine bodyPost_ret (v:=.tuple #[.agg #[.slice none 0 0,.int .i64 0],.int .i64 6]) (by simp[results,Tryz.results122,go_sem,g0,g1,hlt]) rfl ⟨none,0,rfl,zn,SL.nil,?_⟩
  exact BX
def aZ5 (t:Tp) (k:Int):Nat:=if k<t.1.length - t.2 then (t.2+k).toNat else t.1.length
def aL4 (t:Tp) (k:Int):Tp × Int:=if aR5 t then (if k<0 then (([],0),2) else ((t.1.take (aZ5 t k),(aZ5 t k:Int)),0)) else (([],0),6)
theorem SL.top {α:Type} {size:Nat} {R:(Nat→Prop)→World→List Value→α→Prop} {S:Nat→Prop} {w:World} {A:Option Addr} {l:List α} (h:SL size R S w A l) (n:Nat):SL size R S w A (l.take n):=by
 intro hl
 have hln:0<l.length:=by rw[List.length_take] at hl;omega
 obtain⟨b',off',e,h0,hlt,hi⟩:=h hln
 refine⟨b',off',e,h0,hlt,fun j hj=>?_⟩
 have hj':j<l.length:=by rw[List.length_take] at hj;omega
 rw[List.getElem_take]
 exact hi j hj'
theorem cA1 (w:World) (A:Option Addr) (t:Tp) (c:Nat) (k:Int) (hc:t.1.length≤c) (ha:Bs All w A t.1) :
  Calls Tryz.prog 123 #[.agg #[.slice A t.1.length c,.int .i64 t.2],.int .i64 k] w (bF2 w (aL4 t k).1 (.int .i64 (aL4 t k).2)):=by
 have Ha:=zh ha
 clear ha
 rcases Bool.eq_false_or_eq_true (aR5 t) with hm|hm
 ·rcases (by omega:k<0∨0≤k) with hk|hk
  ·have hS:aL4 t k=(([],0),2):=by unfold aL4;rw[if_pos hm,if_pos hk]
   rw[hS]
   clear hS
   have Hm:=zh hm
   clear hm
   go_enter Tryz.func123,Tryz.ntmps123
   go_wp2_with (go_at_call 179;refine (aW8 _ A t c (Ha.out.bbelow ?_) Hm.out).mono ?_;(all_goals try exact BE);rintro e w1 ⟨A1,c1,rfl,hcap,hs1,hb1⟩;have g0:w1.cell? ⟨w.heap.size+1,0,none⟩=some (.slice none 0 0):=(hb1.cell AU).trans ZH2;have g1:w1.cell? ⟨w.heap.size+1,1,none⟩=some (.int .i64 0):=(hb1.cell AU).trans ZH2;have f0:w1.frozen? ⟨w.heap.size+1,0,none⟩=false:=(hb1.frozen AU).trans ZH2;have f1:w1.frozen? ⟨w.heap.size+1,1,none⟩=false:=(hb1.frozen AU).trans ZH2;have hlt:w.heap.size+1<w1.heap.size:=ZD8)
   have hbw:Below w.heap.size w w1:=Below.next (((Below.refl _ _).alloc zn _).alloc AU _) hb1 AU
   refine bodyPost_ret (v:=.tuple #[.agg #[.slice none 0 0,.int .i64 0],.int .i64 2]) (by simp[results,Tryz.results123,go_sem,g0,g1,hlt]) rfl ⟨none,0,rfl,zn,SL.nil,?_⟩
   exact BX
  ·obtain⟨m0,m1,m2⟩:=(aH8 t).1 hm
   obtain⟨n,hn⟩:∃ n,n=aZ5 t k:=⟨_,rfl⟩
   obtain⟨s,hs⟩:∃ s,s=t.1.take n:=⟨_,rfl⟩
   have hS:aL4 t k=((s,(n:Int)),0):=by unfold aL4;rw[if_pos hm,if_neg AO,← hn,← hs]
   rw[hS]
   clear hS
   have hnl:n≤t.1.length:=by rw[hn];unfold aZ5;split <;> omega
   have hnv:(n:Int)=t.2+min k (t.1.length - t.2):=by rw[hn];unfold aZ5;split <;> omega
   have hsl:n=s.length:=by rw[hs,List.length_take];omega
   have Hm:=zh hm
   have Hs:=zh hs
   have hwk:IntKind.i64.wrap ((t.1.length:Int) - t.2)=(t.1.length:Int) - t.2:=by simp[IntKind.wrap,IntKind.bits];omega
   have b1:decide (k<0)=false:=by simp;omega
   have Hnv:=zh hnv
   clear hm hn hs
   go_enter Tryz.func123,Tryz.ntmps123
   go_wp2_with (go_at_call 179;refine (aW8 _ A t c (Ha.out.bbelow ?_) Hm.out).mono ?_;(all_goals try exact BE);rintro e w1 ⟨A1,c1,rfl,hcap,hs1,hb1⟩;have g0:w1.cell? ⟨w.heap.size+1,0,none⟩=some (.slice none 0 0):=(hb1.cell AU).trans ZH2;have g1:w1.cell? ⟨w.heap.size+1,1,none⟩=some (.int .i64 0):=(hb1.cell AU).trans ZH2;have f0:w1.frozen? ⟨w.heap.size+1,0,none⟩=false:=(hb1.frozen AU).trans ZH2;have f1:w1.frozen? ⟨w.heap.size+1,1,none⟩=false:=(hb1.frozen AU).trans ZH2;have hlt:w.heap.size+1<w1.heap.size:=ZD8)
   all_goals
    have hbw:Below w.heap.size w w1:=Below.next (((Below.refl _ _).alloc zn _).alloc AU _) hb1 AU
    first|rw[show t.2+((t.1.length:Int) - t.2)=(s.length:Int) by omega]|rw[show t.2+k=(s.length:Int) by omega]
    simp only[Int.toNat_natCast]
    refine bodyPost_ret (v:=.tuple #[.agg #[.slice A1 s.length s.length,.int .i64 s.length],.int .i64 0]) (by simp[results,Tryz.results123,go_sem,g0,g1,hlt]) rfl ⟨A1,s.length,rfl,zn,?_,?_⟩
    ·rw[Hs.out]
     refine SL.top (SL.blo (SL.bsame (hs1.blo (m:=w.heap.size+2) AU) ?_) AU) _
     repeat' (first|exact aC.refl _ _|refine aC.alloc ?_ _|refine aC.drew ?_|refine aC.drewN ?_ _|refine aC.setCell ?_ ZE6 _)
    ·exact BX
 ·rw[show aL4 t k=(([],0),6) by unfold aL4;rw[if_neg (by simp[hm])]]
  have Hm:=zh hm
  clear hm
  go_enter Tryz.func123,Tryz.ntmps123
  go_wp2_with (go_at_call 179;refine (aS7 _ A t c Hm.out).mono ?_;rintro e w1 ⟨A1,c1,rfl,hcap,hs1,hb1⟩;have g0:w1.cell? ⟨w.heap.size+1,0,none⟩=some (.slice none 0 0):=(hb1.cell AU).trans ZH2;have g1:w1.cell? ⟨w.heap.size+1,1,none⟩=some (.int .i64 0):=(hb1.cell AU).trans ZH2;have f0:w1.frozen? ⟨w.heap.size+1,0,none⟩=false:=(hb1.frozen AU).trans ZH2;have f1:w1.frozen? ⟨w.heap.size+1,1,none⟩=false:=(hb1.frozen AU).trans ZH2;have hlt:w.heap.size+1<w1.heap.size:=ZD8)
  have hbw:Below w.heap.size w w1:=Below.next (((Below.refl _ _).alloc zn _).alloc AU _) hb1 AU
  refine bodyPost_ret (v:=.tuple #[.agg #[.slice none 0 0,.int .i64 0],.int .i64 6]) (by simp[results,Tryz.results123,go_sem,g0,g1,hlt]) rfl ⟨none,0,rfl,zn,SL.nil,?_⟩
  exact BX
end Go.Proofs.YtablgnacmpcfeaaGreatDoor
