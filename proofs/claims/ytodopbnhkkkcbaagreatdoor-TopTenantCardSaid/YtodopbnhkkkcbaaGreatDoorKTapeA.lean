/- TapeA: Walks: bytes cloned into a row of the call's own; a tape opened so; digests with their room. The conditions of each are in its words. -/
import Derived.Test.YtodopbnhkkkcbaaGreatDoorKDigP
import Derived.Test.YtodopbnhkkkcbaaGreatDoorKTapeK
namespace Go.Proofs.YtodopbnhkkkcbaaGreatDoor
open Go.RowKit
set_option linter.unusedVariables false
set_option linter.unusedSimpArgs false
set_option maxRecDepth 100000
set_option maxHeartbeats 8000000
theorem aZ6 {w w':World} {base:Nat} {e:TypeId} {size:Nat} {v:Value} {n:Nat} {xs:List Value} (h:w.ownsRow base e size v n xs) (hk:∀ g,base≤g→g<w.heap.size→w'.heap[g]?=w.heap[g]?):w'.ownsRow base e size v n xs:=by
 refine⟨h.1,?_⟩
 rcases h.2 with h0|⟨g,cap,cur,rfl,hge,hh,rest⟩
 ·exact .inl h0
 ·exact .inr ⟨g,cap,cur,rfl,hge,(hk g hge (Array.getElem?_eq_some_iff.1 hh).1).trans hh,rest⟩
theorem cF4 {w:World} {base:Nat} {e:TypeId} {v:Value} {l:List UInt8} (h:w.ownsRow base e 1 v l.length (l.map bv)):∃ A c,v=.slice A l.length c∧l.length≤c:=by
 rcases h.2 with ⟨rfl,h0⟩|⟨g,cap,cur,rfl,_,_,hcap,_⟩
 ·exact⟨none,0,by rw[h0],AO⟩
 ·exact⟨_,cap,rfl,hcap⟩
def RetOwnB (w:World) (l:List UInt8) (e:Ending) (w':World):Prop :=
 ∃ A c,e=.returned (.slice A l.length c)∧l.length≤c∧w'.ownsRow w.heap.size 5 1 (.slice A l.length c) l.length (l.map bv)∧Below w.heap.size w w'
theorem cU1 (w:World) (A:Option Addr) (a:List UInt8) (c:Nat) (ha:Bs All w A a) (hn:a.length≤big) :
  Calls Tryz.prog 39 #[.slice A a.length c] w (RetOwnB w a):=by
 unfold big at hn
 obtain⟨i0,hi0,hz0,hz1,hz2⟩:=info_parts info_u8
 have hnil:=Lib.run_eql_slice_nil (P:=Tryz.prog) w 27 5 A a.length c 0 0 Tryz.underlying27
 have Ha:=zh ha
 clear ha
 rcases A with _|ad
 ·have e0:a=[]:=by
   cases a with
   | nil=>rfl
   | cons b l=>obtain⟨_,_,h',_⟩:=Ha.out ZH2;cases h'
  subst e0
  clear hn hnil
  have hnil:=Lib.run_eql_slice_nil (P:=Tryz.prog) w 27 5 none 0 c 0 0 Tryz.underlying27
  go_enter Tryz.func39,Tryz.ntmps39
  go_wp2
  go_ret
  exact⟨none,0,rfl,zn,World.ownsRow_nil _ _ _ _,Below.refl _ _⟩
 ·go_enter Tryz.func39,Tryz.ntmps39
  go_wp2_with (at_builtin;refine aC0 _ rfl _ _ _ rfl w.heap.size 5 i0 (.int .u8 0) 1 1 Tryz.underlying27 hi0 hz0 hz1 hz2 rfl ZD9 _ 0 [] rfl (World.ownsRow_made w #[] 0 zn ZD9 rfl) (some ad) a.length c (a.map bv) rfl ZH2 (Ha.out.bbelow ((Below.refl _ _).alloc zn _)).bsrc (aI3 a) ZD2 AO AU ?_;intro v1 w1 hown1 hg1 hat1)
  go_ret
  have hown:w1.ownsRow w.heap.size 5 1 v1 a.length (a.map bv):=by simpa using hown1
  obtain⟨A1,c1,rfl,hc1⟩:=cF4 hown
  exact⟨A1,c1,rfl,hc1,hown,((Below.refl _ _).alloc zn _).trans (aA6 (World.ownsRow_made (e:=5) (size:=1) w #[] 0 zn ZD9 rfl) hg1 AU)⟩
theorem aQ2 (w:World) (A:Option Addr) (t:Tp) (c:Nat) (ha:Bs All w A t.1) (hm:aR5 t=true) :
  Calls Tryz.prog 122 #[.agg #[.slice A t.1.length c,.int .i64 t.2]] w fun e w'=>∃ A1 c1,e=.returned (.tuple #[.agg #[.slice A1 t.1.length c1,.int .i64 t.2],.bool true])∧t.1.length≤c1∧w'.ownsRow w.heap.size 5 1 (.slice A1 t.1.length c1) t.1.length (t.1.map bv)∧Below w.heap.size w w':=by
 obtain⟨m0,m1,m2⟩:=(aH8 t).1 hm
 have h1:t.1.length≤big:=by unfold big;omega
 have b1:decide (t.2<0)=false:=by simp;omega
 have b2:decide ((t.1.length:Int)<t.2)=false:=by simp;omega
 have b3:decide (200000<(t.1.length:Int))=false:=by simp;omega
 clear hm
 have Ha:=zh ha
 clear ha
 go_enter Tryz.func122,Tryz.ntmps122
 go_wp2_with fail
 go_region_held3 (fun w'=>w'.cell? ⟨w.heap.size,0,none⟩=some (.slice A t.1.length c)∧w'.cell? ⟨w.heap.size,1,none⟩=some (.int .i64 t.2))
  (first
   | go_keep
   | (go_split_ands;refine⟨(hb1.cell AU).trans ZF3,(hb1.cell AU).trans ZF3⟩))
  ((go_at_call 39;(with_reducible refine (cU1 _ A t.1 c ?ha h1).mono ?_);(case ha=>(refine Ha.out.bbelow ?_;exact BE));rintro e w1 ⟨A1,c1,rfl,hcap,hs1,hb1⟩;have g0:w1.cell? ⟨w.heap.size+1,0,none⟩=some (.slice none 0 0):=(hb1.cell AU).trans ZH2;have g1:w1.cell? ⟨w.heap.size+1,1,none⟩=some (.int .i64 0):=(hb1.cell AU).trans ZH2;have f0:w1.frozen? ⟨w.heap.size+1,0,none⟩=false:=(hb1.frozen AU).trans ZH2;have f1:w1.frozen? ⟨w.heap.size+1,1,none⟩=false:=(hb1.frozen AU).trans ZH2))
 go_wp2
 refine bodyPost_ret (v:=.tuple #[.agg #[.slice A1 t.1.length c1,.int .i64 t.2],.bool true]) (by simp[results,Tryz.results122,go_sem,g0,g1]) rfl ⟨A1,c1,rfl,hcap,?_,?_⟩
 ·refine bO9 (aZ6 hs1 fun g hg hlt=>?_) AU
  have hq:=hg
  simp at hq
  exact (Below.heap_setCell _ _ _ _ ZC5).trans (Below.heap_setCell _ _ _ _ ZC5)
 ·refine Below.setCell (Below.setCell (Below.next ?_ hb1 AU) AU _) AU _
  exact BE
theorem bD3 (w:World) (hT:bD w) (A:Option Addr) (b:List UInt8) (c:Nat) (ha:Bs All w A b) (hn:b.length≤4000) :
  Calls Tryz.prog 123 #[.slice A b.length c] w fun e w'=>∃ B d,e=.returned (.tuple #[.slice B (aL2 b).length d,.int .i64 0])∧(aL2 b).length≤d∧Bs (aB w.heap.size) w' B (aL2 b)∧Below w.heap.size w w':=by
 have HT:=zh hT
 have Ha:=zh ha
 clear hT ha
 have h1:¬ (4000:Int)<(b.length:Int):=by omega
 have hs:=cR3 w A b c Ha.out AO HT.out
 go_enter Tryz.func123,Tryz.ntmps123
 go_wp2_with ((go_at_call 82;(with_reducible refine hs.mono ?_);rintro e w1 ⟨B,d,rfl,hc,hb,hb1⟩))
 go_ret2
 exact⟨B,d,rfl,hc,hb,hb1⟩
end Go.Proofs.YtodopbnhkkkcbaaGreatDoor
