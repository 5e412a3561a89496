/- Base: Words for memory that all texts of this seat share: what a slice reads as, and small lemmas. No condition. Walks: bytes copied and compared; keys checked. No condition but the bound of append on lengths. Walks: pairs, one by one. Walks: lists of pairs: copied, checked. Walks of PathChecks, ForestNames, HistoryKepts. Walk: sameBytes of the references. The order of byte lists; lists of pairs that rise. Plain facts, no program. Walks: bytes behind their length. The conditions of each are in its words. -/
import Derived.Test.YtablgnacmpcfeaaGreatDoorProg
import Derived.WalkKit
import Derived.WalkSpells
import Derived.WalkLawsBesides
import Derived.WalkSmall
import Derived.Outline
import Derived.Deep.QuietTactic
import Derived.BigQuiet
import Derived.Deep.RegionHeld3
import Derived.Lib.Hide
import Derived.Maps.AppendAt
import Derived.Deep.AppendLies
import Derived.Lib.Bytealg
import Derived.Lib.BytesEntry
import Derived.Lib.SliceRun
namespace Go.Proofs.YtablgnacmpcfeaaGreatDoor
open Go.RowKit
set_option linter.unusedVariables false
set_option linter.unusedSimpArgs false
set_option maxRecDepth 100000
set_option maxHeartbeats 8000000
theorem bC (b off n:Nat):(⟨b,off,none⟩:Addr).add n=⟨b,off+n,none⟩:=by
 unfold Addr.add
 by_cases h:n=0 <;> simp[h]
def bv (b:UInt8):Value:=.int .u8 (b.toNat:Int)
theorem aI3 (l:List UInt8):∀ u ∈ l.map bv,u.oneCell'=true:=by
 intro u hu
 obtain⟨b,_,rfl⟩:=List.mem_map.1 hu
 rfl
structure aC (S:Nat→Prop) (w w':World):Prop where
 size:w.heap.size≤w'.heap.size
 block:∀ k,S k→k<w.heap.size→w'.heap[k]?=w.heap[k]?
def aB (n:Nat) (b:Nat):Prop:=n≤b
def All (_:Nat):Prop:=True
section
variable {S S' : Nat → Prop} {a b c w w' : World}
theorem aC.refl (S:Nat→Prop) (w:World):aC S w w:=⟨Nat.le_refl _,fun _ _ _=>rfl⟩
theorem aC.trans (h:aC S a b) (k:aC S b c):aC S a c :=
 ⟨Nat.le_trans h.size k.size,fun i h1 h2=>(k.block i h1 (Nat.lt_of_lt_of_le h2 h.size)).trans (h.block i h1 h2)⟩
theorem aC.of_below (h:Below w.heap.size w w'):aC S w w':=⟨h.size,fun k _ hk=>h.block k hk⟩
theorem aC.setCell (h:aC S a w) {p:Addr} (hp:¬ S p.block) (u:Value):aC S a (w.setCell p u) :=
 h.trans ⟨by simp[World.setCell],fun k h1 _=>Below.heap_setCell w p u k (fun e=>hp (e ▸ h1))⟩
theorem aC.alloc (h:aC S a w) (o:Obj):aC S a (w.alloc o) :=
 h.trans ⟨by simp,fun k _ hk=>Below.heap_alloc w o k hk⟩
theorem aC.drew (h:aC S a w):aC S a w.drew:=⟨h.size,h.block⟩
theorem aC.drewN (h:aC S a w) (n:Nat):aC S a (w.drewN n):=⟨h.size,h.block⟩
theorem aC.grown (h:aC S a w) {row:Option Nat} (hg:w.grownBy w' row) (hr:∀ k,row=some k→¬ S k):aC S a w' :=
 h.trans ⟨hg.size,fun k h1 h2=>hg.block k h2 (fun e=>hr k e.symm h1)⟩
theorem aC.cell (h:aC S w w') {p:Addr} (h1:S p.block) (h2:p.block<w.heap.size):w'.cell? p=w.cell? p:=World.cell?_of_block (w:=w) (h.block p.block h1 h2)
end
theorem BE {B:Nat} {w w':World} (h:Below B w w':=by repeat' (first|exact Below.refl _ _|assumption|refine Below.drew ?_|refine below_drewN ?_ _|refine Below.alloc ?_ (by first|exact Nat.le_refl _|omega|(simp;done)|(simp;omega)) _)):Below B w w':=h
theorem BX {B:Nat} {w w':World} (h:Below B w w':=by repeat' (first|exact Below.refl _ _|assumption|refine Below.drew ?_|refine below_drewN ?_ _|refine Below.setCell ?_ (by first|(simp;done)|omega|(simp;omega)) _|refine Below.alloc ?_ (by first|exact Nat.le_refl _|omega|(simp;done)|(simp;omega)) _)):Below B w w':=h
theorem SM {S:Nat→Prop} {w w':World} (h:aC S w w':=by repeat' (first|exact aC.refl _ _|assumption|refine aC.drew ?_|refine aC.drewN ?_ _|refine aC.alloc ?_ _|refine aC.setCell ?_ (fun hq=>by simp only[aB] at hq;first|omega|(simp at hq;done)|(simp at hq;omega)) _)):aC S w w':=h
theorem zh {p:Prop} (h:p):Hid p:=h
theorem zn {n:Nat}:n≤n:=Nat.le_refl n
theorem AO {p:Prop} (h:p:=by omega):p:=h
theorem AU {p:Prop} (h:p:=by first|(simp;done)|omega|(simp;omega)):p:=h
theorem AZ {p:Prop} (h:p:=by first|exact Nat.le_refl _|omega|(simp;done)|(simp;omega)):p:=h
theorem ZA0 {p:Prop} (h:p:=by exact⟨A,a,B,b2,C,c,D,d,rfl,((HA'.out.bbelow hb7).bsame ((((((aC.refl _ _).setCell (fun hq=>by have hq2:w.heap.size+2≤w.heap.size:=hq;omega) _).setCell (fun hq=>by have hq2:w.heap.size+2≤w.heap.size:=hq;omega) _).setCell (fun hq=>by have hq2:w.heap.size+2≤w.heap.size:=hq;omega) _).setCell (fun hq=>by have hq2:w.heap.size+2≤w.heap.size:=hq;omega) _).setCell (fun hq=>by have hq2:w.heap.size+2≤w.heap.size:=hq;omega) _)).blo AO,((HB'.out.bbelow hb7).bsame ((((((aC.refl _ _).setCell (fun hq=>by have hq2:w.heap.size+2≤w.heap.size:=hq;omega) _).setCell (fun hq=>by have hq2:w.heap.size+2≤w.heap.size:=hq;omega) _).setCell (fun hq=>by have hq2:w.heap.size+2≤w.heap.size:=hq;omega) _).setCell (fun hq=>by have hq2:w.heap.size+2≤w.heap.size:=hq;omega) _).setCell (fun hq=>by have hq2:w.heap.size+2≤w.heap.size:=hq;omega) _)).blo AO,((HC'.out.bbelow hb7).bsame ((((((aC.refl _ _).setCell (fun hq=>by have hq2:w.heap.size+2≤w.heap.size:=hq;omega) _).setCell (fun hq=>by have hq2:w.heap.size+2≤w.heap.size:=hq;omega) _).setCell (fun hq=>by have hq2:w.heap.size+2≤w.heap.size:=hq;omega) _).setCell (fun hq=>by have hq2:w.heap.size+2≤w.heap.size:=hq;omega) _).setCell (fun hq=>by have hq2:w.heap.size+2≤w.heap.size:=hq;omega) _)).blo AO,((HDD'.out.bbelow hb7).bsame ((((((aC.refl _ _).setCell (fun hq=>by have hq2:w.heap.size+2≤w.heap.size:=hq;omega) _).setCell (fun hq=>by have hq2:w.heap.size+2≤w.heap.size:=hq;omega) _).setCell (fun hq=>by have hq2:w.heap.size+2≤w.heap.size:=hq;omega) _).setCell (fun hq=>by have hq2:w.heap.size+2≤w.heap.size:=hq;omega) _).setCell (fun hq=>by have hq2:w.heap.size+2≤w.heap.size:=hq;omega) _)).blo AO,((((((Hd.out.bel.trans (hb7.mono AO)).setCell (by show w.heap.size≤w.heap.size;omega) _).setCell (by show w.heap.size≤w.heap.size;omega) _).setCell (by show w.heap.size≤w.heap.size;omega) _).setCell (by show w.heap.size≤w.heap.size;omega) _).setCell (by show w.heap.size≤w.heap.size;omega) _)⟩):p:=h
theorem ZA1 {p:Prop} (h:p:=by exact⟨none,0,none,0,none,0,none,0,rfl,SL.nil,SL.nil,SL.nil,SL.nil,(((((Hd.out.bel.setCell (by show w.heap.size≤w.heap.size;omega) _).setCell (by show w.heap.size≤w.heap.size;omega) _).setCell (by show w.heap.size≤w.heap.size;omega) _).setCell (by show w.heap.size≤w.heap.size;omega) _).setCell (by show w.heap.size≤w.heap.size;omega) _)⟩):p:=h
theorem ZA2 {p:Prop} (h:p:=by exact⟨none,0,rfl,SL.nil,by first|assumption|exact ((Below.refl w.heap.size w).alloc zn _).alloc (by simp) _|exact (Below.setCell (Below.setCell (by first|assumption|(refine Below.alloc (Below.alloc (Below.refl _ _) zn _) (by simp) _)) (by simp) _) (by simp) _)⟩):p:=h
theorem ZA3 {p:Prop} (h:p:=by exact⟨none,0,none,0,none,0,none,0,rfl,SL.nil,SL.nil,SL.nil,SL.nil,((((((Hd.out.bel.trans (hb7.mono AO)).setCell (by show w.heap.size≤w.heap.size;omega) _).setCell (by show w.heap.size≤w.heap.size;omega) _).setCell (by show w.heap.size≤w.heap.size;omega) _).setCell (by show w.heap.size≤w.heap.size;omega) _).setCell (by show w.heap.size≤w.heap.size;omega) _)⟩):p:=h
theorem ZA4 {p:Prop} (h:p:=by exact ((((aC.refl _ _).setCell (fun h=>by simp only[aB] at h;omega) _).setCell (fun h=>by simp only[aB] at h;omega) _).setCell (fun h=>by simp only[aB] at h;omega) _)):p:=h
theorem ZA5 {p:Prop} (h:p:=by exact⟨rfl,⟨X,xc,by show _=Value.slice X (b.drop 1).length xc;rw[List.length_drop],by show (b.drop 1).length≤xc;rw[List.length_drop];exact hx,hX⟩,⟨none,0,none,0,none,0,none,0,h3,SL.nil,SL.nil,SL.nil,SL.nil⟩,h2,h6,AO⟩):p:=h
theorem ZA6 {p:Prop} (h:p:=by exact⟨k+1,_,AO,by go_num,by rw[Hsn.out];exact Hown8.out.same_from wrR_stays ((aC.refl _ _).setCell (fun h=>by simp only[aB] at h;omega) _),by rw[heap_setCell_same _ _ _ _ _ _ hbx8,hl8];rfl,(((Hbel.out.trans (hb6.mono AO)).alloc AO _).trans (hbw8.mono AO)).setCell (by simp only[];omega) _,(((Hsm.out.trans (aC.of_below hb6)).alloc _).trans (aC.of_lt hbw8 (fun k h=>h.1))).setCell (fun h=>h.2 rfl) _⟩):p:=h
theorem ZA7 {p:Prop} (h:p:=by exact⟨none,0,none,0,none,0,rfl,SL.nil,SL.nil,SL.nil,((((hw1.setCell (by simp only[];omega) _).setCell (by simp only[];omega) _).setCell (by simp only[];omega) _).setCell (by simp only[];omega) _)⟩):p:=h
theorem ZA8 {p:Prop} (h:p:=by exact⟨_,rfl,fun h=>absurd h (by have:=Hne.out;rw[Hbad.out] at this;exact this),(Hw2.out.mono hb).trans (hb3.mono AO)⟩):p:=h
theorem ZA9 {p:Prop} (h:p:=by exact (hsg.bsame (((aC.refl _ _).setCell (fun h=>by simp only[aB] at h;first|omega|(simp at h;done)|(simp at h;omega)) _).setCell (fun h=>by simp only[aB] at h;first|omega|(simp at h;done)|(simp at h;omega)) _)).blo (by first|omega|exact hq3.size|exact (hq1.alloc hq1.size _).size|(simp;omega))):p:=h
theorem ZB0 {p:Prop} (h:p:=by exact (Hd.out.bel.trans hfr).setCell (by show w.heap.size≤w.heap.size+1;omega) _):p:=h
theorem ZB1 {p:Prop} (h:p:=by exact ((((aC.refl _ _).setCell (fun h=>h.2 rfl) _).setCell (fun h=>by have h':w2.heap.size≤_:=h.1.1;simp only[] at h';omega) _).setCell (fun h=>by have h':w2.heap.size≤_:=h.1.1;simp only[] at h';omega) _).setCell (fun h=>by have h':w2.heap.size≤_:=h.1.1;simp only[] at h';omega) _):p:=h
theorem ZB2 {p:Prop} (h:p:=by exact⟨⟨2,0,0,[]⟩,none,0,rfl,sync_fine,zn,SL.nil,((((T4.out.setCell (p:=⟨rb,0,none⟩) hwr _).setCell (p:=⟨rb,1,none⟩) hwr _).setCell (p:=⟨rb,2,none⟩) hwr _).setCell (p:=⟨rb,3,none⟩) hwr _)⟩):p:=h
theorem ZB3 {p:Prop} (h:p:=by exact ((hs1.bbelow hb2).bsame (((aC.refl _ _).setCell (fun hq=>by simp only[aB] at hq;first|omega|(simp at hq;done)|(simp at hq;omega)) _).setCell (fun hq=>by simp only[aB] at hq;first|omega|(simp at hq;done)|(simp at hq;omega)) _)).blo AU):p:=h
theorem ZB4 {p:Prop} (h:p:=by exact⟨none,0,rfl,SL.nil,(((Hbel.out.trans (hb7.mono AO)).setCell (by show w.heap.size≤w.heap.size;omega) _).setCell (by show w.heap.size≤w.heap.size;omega) _)⟩):p:=h
theorem ZB5 {p:Prop} (h:p:=by exact (hs2.bsame (((aC.refl _ _).setCell (fun hq=>by have hq1:=hb1.size;simp[aB] at hq hq1;omega) _).setCell (fun hq=>by have hq1:=hb1.size;simp[aB] at hq hq1;omega) _)).blo (by have hq1:=hb1.size;simp at hq1 ⊢;omega)):p:=h
theorem ZB6 {p:Prop} (h:p:=by exact (t1.bless fun b _ h=>show aB (w.heap.size+2) b by simp only[aB] at h ⊢;omega).bsame SM |>.blo AO):p:=h
theorem ZB7 {p:Prop} (h:p:=by exact (t2.bless fun b _ h=>show aB (w.heap.size+2) b by simp only[aB] at h ⊢;omega).bsame SM |>.blo AO):p:=h
theorem ZB8 {p:Prop} (h:p:=by exact (t3.bless fun b _ h=>show aB (w.heap.size+2) b by simp only[aB] at h ⊢;omega).bsame SM |>.blo AO):p:=h
theorem ZB9 {p:Prop} (h:p:=by exact⟨0,_,AO,rfl,rfl,bF9 (l:=[UInt8.ofNat k]) Hx2.out zn (by simp[maxLen]),Below.refl _ _⟩):p:=h
theorem ZC0 {p:Prop} (h:p:=by exact⟨none,0,rfl,SL.nil,Below.setCell (Below.setCell (Below.next ((Below.refl _ _).alloc zn _) hb1 AU) zn _) zn _⟩):p:=h
theorem ZC1 {p:Prop} (h:p:=by exact⟨aM (by first|(rw[Hv.out];done)|(rw[Hv.out];exact Hk.out)),BX⟩):p:=h
theorem ZC2 {p:Prop} (h:p:=by exact⟨k+1,s,O,co,AO,by go_num,Hst.out,Hsf.out,rfl,hco,HO.out.below pairR_stays Hbx.out,Hbel.out.next Hbx.out hbz⟩):p:=h
theorem ZC3 {p:Prop} (h:p:=by exact⟨rfl,((Below.refl w.heap.size w).alloc zn _).next hb1 (by simp)⟩):p:=h
theorem ZC4 {p:Prop} (h:p:=by exact (fun h=>by simp only[aB] at h;omega)):p:=h
theorem ZC5 {p:Prop} (h:p:=by simp only[];omega):p:=h
theorem ZC6 {p:Prop} (h:p:=by exact (fun hq=>by have hq2:w.heap.size+2≤w.heap.size+1:=hq;omega)):p:=h
theorem ZC7 {p:Prop} (h:p:=by first|exact zn|(simp;done)|(simp;omega)):p:=h
theorem ZC8 {p:Prop} (h:p:=by simp;omega):p:=h
theorem ZC9 {p:Prop} (h:p:=by simp[results,Tryz.results19,go_sem,r0,r1,r2,r3,r4]):p:=h
theorem ZD0 {p:Prop} (h:p:=by have:=aK (w3.alloc (.cells #[.int .i64 t.start,.slice A3 t.reads.length n3,.slice B3 t.writes.length m3] 110)) #[.slice P r.name.length p,.slice Q r.key.length q,.bool r.flag,.slice V r.value.length v] 114;simpa using this):p:=h
theorem ZD1 {p:Prop} (h:p:=by have h':=h;simp only[aB] at h' ⊢;(try simp at h');omega):p:=h
theorem ZD2 {p:Prop} (h:p:=by unfold maxLen;omega):p:=h
theorem ZD3 {p:Prop} (h:p:=by simp only[aB1];rw[if_neg AO,if_neg AO,if_neg AO,if_pos AO]):p:=h
theorem ZD4 {p:Prop} (h:p:=by exact (fun h=>by have h':w2.heap.size≤_:=h.1.1;simp only[] at h';omega)):p:=h
theorem ZD5 {p:Prop} (h:p:=by exact (fun hq=>by simp only[aB] at hq;omega)):p:=h
theorem ZD6 {p:Prop} (h:p:=by have:=aK (wr.alloc (.cells #[.slice A1 x.name.length a1,.slice B1 x.key.length b1,.bool x.flag,.slice C1 x.value.length c1] 114)) #[.slice A1 x.name.length a1,.slice B1 x.key.length b1,.bool x.flag,.slice C1 x.value.length c1] 114;simpa using this):p:=h
theorem ZD7 {p:Prop} (h:p:=by have hq1:=hb1.size;simp at hq1 ⊢;omega):p:=h
theorem ZD8 {p:Prop} (h:p:=by have:=hb1.size;simp at this;omega):p:=h
theorem ZD9 {p:Prop} (h:p:=by decide):p:=h
theorem ZE0 {p:Prop} (h:p:=by rw[hzz];omega):p:=h
theorem ZE1 {p:Prop} (h:p:=by first|exact (Below.refl w2.heap.size w2).drew.next hb3 (by simp)|exact ((Below.refl w2.heap.size w2).drew.alloc (by simp) _).next hb3 (by simp)):p:=h
theorem ZE2 {p:Prop} (h:p:=by rw[heap_setCell_same _ _ _ _ _ _ (heap_setCell_same _ _ _ _ _ _ (heap_setCell_same _ _ _ _ _ _ (heap_setCell_same _ _ _ _ _ _ Hy4.out)))];rfl):p:=h
theorem ZE3 {p:Prop} (h:p:=by simpa using h1):p:=h
theorem ZE4 {p:Prop} (h:p:=by have hq1:=hb1.size;rw[hzz] at hq1;exact hq1):p:=h
theorem ZE5 {p:Prop} (h:p:=by exact (fun hq=>by have hq2:w.heap.size+1<w.heap.size:=hq;omega)):p:=h
theorem ZE6 {p:Prop} (h:p:=by exact (fun hq=>by simp only[aB] at hq;first|omega|(simp at hq;done)|(simp at hq;omega))):p:=h
theorem ZE7 {p:Prop} (h:p:=by simp[results,Tryz.results19,go_sem,u0,u1,u2,u3,u4]):p:=h
theorem ZE8 {p:Prop} (h:p:=by simp[Value.oneCell']):p:=h
theorem ZE9 {p:Prop} (h:p:=by have:=B0.out.size;have:=Hw.out.size;simp[World.setCell];omega):p:=h
theorem ZF0 {p:Prop} (h:p:=by simp[results,Tryz.results106,go_sem,g0,g1,f0,f1,hl1]):p:=h
theorem ZF1 {p:Prop} (h:p:=by first|exact hl|(simp only[aT2];exact hl)):p:=h
theorem ZF2 {p:Prop} (h:p:=by simp[results,Tryz.results70,go_sem]):p:=h
theorem ZF3 {p:Prop} (h:p:=by assumption):p:=h
theorem ZF4 {p:Prop} (h:p:=by simp[results,Tryz.results103,go_sem]):p:=h
theorem ZF5 {p:Prop} (h:p:=by rw[List.length_drop];omega):p:=h
theorem ZF6 {p:Prop} (h:p:=by rw[List.length_take];omega):p:=h
theorem ZF7 {p:Prop} (h:p:=by simp[results,Tryz.results11,go_sem,r0,r1,r2,r3,r4]):p:=h
theorem ZF8 {p:Prop} (h:p:=by simp only[Nat.min_def];split <;> omega):p:=h
theorem ZF9 {p:Prop} (h:p:=by simpa using h):p:=h
theorem ZG0 {p:Prop} (h:p:=by kernel_rfl):p:=h
theorem ZG1 {p:Prop} (h:p:=by simp[results,Tryz.results24,go_sem,r0,r1,r2,r3]):p:=h
theorem ZG2 {p:Prop} (h:p:=by show w.heap.size≠w.heap.size+1;omega):p:=h
theorem ZG3 {p:Prop} (h:p:=by simp[bv,Value.oneCell']):p:=h
theorem ZG4 {p:Prop} (h:p:=by have:=Hp3.out;rw[IntWalk.i64_in _ AO];omega):p:=h
theorem ZG5 {p:Prop} (h:p:=by first|exact Hzk.out|(simp;done)|omega|(simp;omega)):p:=h
theorem ZG6 {p:Prop} (h:p:=by simp[results,Tryz.results120,go_sem]):p:=h
theorem ZG7 {p:Prop} (h:p:=by simp[results,Tryz.results35,go_sem,f0,f1]):p:=h
theorem ZG8 {p:Prop} (h:p:=by rw[Hbv.out];exact aJ8 _ _ _):p:=h
theorem ZG9 {p:Prop} (h:p:=by exact (fun e=>by have:=H19.out e;omega)):p:=h
theorem ZH0 {p:Prop} (h:p:=by rw[← Hnx.out];exact hz):p:=h
theorem ZH1 {p:Prop} (h:p:=by rw[Hv.out]):p:=h
theorem ZH2 {p:Prop} (h:p:=by simp):p:=h
def SL {α:Type} (size:Nat) (R:(Nat→Prop)→World→List Value→α→Prop) (S:Nat→Prop) (w:World) (A:Option Addr) (l:List α):Prop :=
 0<l.length→∃ b off,A=some ⟨b,off,none⟩∧S b∧b<w.heap.size∧∀ i (h:i<l.length),∃ cs:List Value,cs.length=size∧(∀ j,j<size→w.cell? ⟨b,off+i*size+j,none⟩=cs[j]?)∧R S w cs l[i]
structure bI {α:Type} (R:(Nat→Prop)→World→List Value→α→Prop):Prop where
 same:∀ S w w' cs x,aC S w w'→R S w cs x→R S w' cs x
 less:∀ (S S':Nat→Prop) w cs x,(∀ b,b<w.heap.size→S b→S' b)→R S w cs x→R S' w cs x
section
variable {α : Type} {size : Nat} {R : (Nat → Prop) → World → List Value → α → Prop} {S S' : Nat → Prop} {w w' : World} {A : Option Addr} {l : List α}
theorem SL.same (hR:bI R) (h:SL size R S w A l) (hb:aC S w w'):SL size R S w' A l:=by
 intro hl
 obtain⟨b,off,e,h0,hlt,hi⟩:=h hl
 refine⟨b,off,e,h0,Nat.lt_of_lt_of_le hlt hb.size,fun i hil=>?_⟩
 obtain⟨cs,h1,h2,h3⟩:=hi i hil
 exact⟨cs,h1,fun j hj=>by rw[← h2 j hj];exact hb.cell h0 hlt,hR.same _ _ _ _ _ hb h3⟩
theorem SL.below (hR:bI R) (h:SL size R S w A l) (hb:Below w.heap.size w w'):SL size R S w' A l:=h.same hR (aC.of_below hb)
theorem SL.less (hR:bI R) (h:SL size R S w A l) (hl:∀ b,b<w.heap.size→S b→S' b):SL size R S' w A l:=by
 intro hl'
 obtain⟨b,off,e,h0,hlt,hi⟩:=h hl'
 refine⟨b,off,e,hl _ hlt h0,hlt,fun i hil=>?_⟩
 obtain⟨cs,h1,h2,h3⟩:=hi i hil
 exact⟨cs,h1,h2,hR.less _ _ _ _ _ hl h3⟩
theorem SL.z (hR:bI R) (h:SL size R S w A l):SL size R All w A l:=h.less hR fun _ _ _=>trivial
theorem SL.lo (hR:bI R) {m n:Nat} (h:SL size R (aB n) w A l) (hl:m≤n):SL size R (aB m) w A l:=h.less hR fun _ _ h=>Nat.le_trans hl h
theorem SL.nil:SL size R S w A []:=fun h=>absurd h ZH2
theorem SL.at (h:SL size R S w A l) {k:Nat} (hk:k<l.length) :
  ∃ b off cs,A=some ⟨b,off,none⟩∧S b∧b<w.heap.size∧cs.length=size∧(∀ j,j<size→w.cell? ⟨b,off+k*size+j,none⟩=cs[j]?)∧R S w cs l[k]:=by
 obtain⟨b,off,e,h0,hlt,hi⟩:=h AO
 obtain⟨cs,h1,h2,h3⟩:=hi k hk
 exact⟨b,off,cs,e,h0,hlt,h1,h2,h3⟩
end
def Own {α:Type} (size:Nat) (R:(Nat→Prop)→World→List Value→α→Prop) (S:Nat→Prop) (w:World) (base:Nat) (e:TypeId) (v:Value) (l:List α):Prop :=
 ∃ xs,w.ownsRow base e size v l.length xs∧∀ i (h:i<l.length),R (fun b=>S b∧v.ownBlock≠some b) w ((xs.drop (i*size)).take size) l[i]
section
variable {α : Type} {size : Nat} {R : (Nat → Prop) → World → List Value → α → Prop} {S S' : Nat → Prop} {w w' : World} {base : Nat} {e : TypeId} {v : Value} {l : List α}
theorem Own.nil (w:World) (base:Nat) (e:TypeId):Own size R S w base e (.slice none 0 0) []:=⟨[],World.ownsRow_nil _ _ _ _,fun i h=>absurd h ZH2⟩
theorem Own.same (hR:bI R) (h:Own size R S w base e v l) (hb:aC All w w'):Own size R S w' base e v l:=by
 obtain⟨xs,h1,h2⟩:=h
 refine⟨xs,⟨h1.1,?_⟩,fun i hi=>hR.same _ _ _ _ _ ⟨hb.size,fun k _ hk=>hb.block k trivial hk⟩ (h2 i hi)⟩
 rcases h1.2 with hn|⟨g,cap,cur,hv,hb',hh,rest⟩
 ·exact .inl hn
 ·exact .inr ⟨g,cap,cur,hv,hb',by rw[hb.block g trivial (Array.getElem?_eq_some_iff.1 hh).1];exact hh,rest⟩
theorem Own.below (hR:bI R) (h:Own size R S w base e v l) (hb:Below w.heap.size w w'):Own size R S w' base e v l:=h.same hR (aC.of_below hb)
theorem Own.snoc (hR:bI R) {v':Value} {x:α} {xs cs:List Value} (hxs:∀ i (h:i<l.length),R (fun b=>S b∧v.ownBlock≠some b) w ((xs.drop (i*size)).take size) l[i]) (h1:w.ownsRow base e size v l.length xs)
  (h':w'.ownsRow base e size v' (l.length+1) (xs++cs)) (hg:w.grownBy w' v.ownBlock) (hat:v'.ownBlock=v.ownBlock∨v'.ownBlock=some w.heap.size)
  (hx:R (fun b=>S b∧v.ownBlock≠some b) w cs x) (hcs:cs.length=size):Own size R S w' base e v' (l++[x]):=by
 have keep:∀ (c:List Value) (y:α),R (fun b=>S b∧v.ownBlock≠some b) w c y→R (fun b=>S b∧v'.ownBlock≠some b) w' c y:=fun c y hy=>by
  have hy1:R (fun b=>(S b∧v.ownBlock≠some b)∧v'.ownBlock≠some b) w c y:=hR.less _ _ _ _ _ (fun b hb hs=>⟨hs,by
   rcases hat with h|h
   ·rw[h];exact hs.2
   ·rw[h];intro e';cases e';omega⟩) hy
  have hy2:=hR.same _ _ w' _ _ (aC.grown (aC.refl _ _) hg (fun k hk hs=>hs.1.2 hk)) hy1
  exact hR.less _ _ _ _ _ (fun b _ hs=>⟨hs.1.1,hs.2⟩) hy2
 refine⟨xs++cs,by simpa using h',fun i hi=>?_⟩
 have hl:=h1.1
 by_cases hil:i<l.length
 ·rw[List.getElem_append_left hil]
  have e1:((xs++cs).drop (i*size)).take size=(xs.drop (i*size)).take size:=by
   have hle:(i+1)*size≤xs.length:=by rw[hl];exact Nat.mul_le_mul_right _ hil
   rw[Nat.add_mul,Nat.one_mul] at hle
   rw[List.drop_append_of_le_length AO,List.take_append_of_le_length ZF5]
  rw[e1]
  exact keep _ _ (hxs i hil)
 ·have hie:i=l.length:=by rw[List.length_append,List.length_singleton] at hi;omega
  subst hie
  rw[List.getElem_append_right zn]
  have e1:((xs++cs).drop (l.length*size)).take size=cs:=by
   rw[← hl,List.drop_append_of_le_length zn,List.drop_length,List.nil_append,← hcs,List.take_length]
  rw[e1]
  simpa using keep _ _ hx
theorem Own.readc (hR:bI R) (h:Own size R (aB base) w base e v l):∃ A c,v=.slice A l.length c∧l.length≤c∧SL size R (aB base) w A l:=by
 obtain⟨xs,h1,h2⟩:=h
 have h1':=h1
 rcases h1.2 with ⟨rfl,h0⟩|⟨g,cap,cur,rfl,hge,hh,hcap,_⟩
 ·have hl:=List.eq_nil_of_length_eq_zero h0
  subst hl
  exact⟨none,0,rfl,zn,SL.nil⟩
 ·refine⟨_,cap,rfl,hcap,fun _=>⟨g,0,rfl,hge,(Array.getElem?_eq_some_iff.1 hh).1,fun i hi=>⟨_,?_,fun j hj=>?_,hR.less _ _ _ _ _ (fun b _ hs=>hs.1) (h2 i hi)⟩⟩⟩
  ·rw[List.length_take,List.length_drop,h1'.1]
   have:(i+1)*size≤l.length*size:=Nat.mul_le_mul_right _ hi
   rw[Nat.add_mul,Nat.one_mul] at this
   omega
  ·have hlt:i*size+j<xs.length:=by
    rw[h1'.1]
    have:(i+1)*size≤l.length*size:=Nat.mul_le_mul_right _ hi
    rw[Nat.add_mul,Nat.one_mul] at this
    omega
   have hc:=h1'.cells (g:=g) rfl (i*size+j) xs[i*size+j] (List.getElem?_eq_getElem hlt)
   rw[bC] at hc
   rw[Nat.add_assoc,hc]
   rw[List.getElem?_take_of_lt hj,List.getElem?_drop,List.getElem?_eq_getElem hlt]
theorem Own.read (hR:bI R) (h:Own size R (aB base) w base e v l):∃ A c,v=.slice A l.length c∧SL size R (aB base) w A l :=
 let ⟨A,c,h1,_,h2⟩:=h.readc hR
 ⟨A,c,h1,h2⟩
end
def bI0 (_:Nat→Prop) (_:World) (cs:List Value) (b:UInt8):Prop:=cs=[bv b]
theorem byteR_stays:bI bI0:=⟨fun _ _ _ _ _ _ h=>h,fun _ _ _ _ _ _ h=>h⟩
abbrev Bs (S:Nat→Prop) (w:World) (A:Option Addr) (l:List UInt8):Prop:=SL 1 bI0 S w A l
section
variable {S S' : Nat → Prop} {w w' : World} {A : Option Addr} {l : List UInt8}
theorem SL.bbelow (h:Bs S w A l) (hb:Below w.heap.size w w'):Bs S w' A l:=SL.below byteR_stays h hb
theorem SL.bsame (h:Bs S w A l) (hb:aC S w w'):Bs S w' A l:=SL.same byteR_stays h hb
theorem SL.bless (h:Bs S w A l) (hl:∀ b,b<w.heap.size→S b→S' b):Bs S' w A l:=SL.less byteR_stays h hl
theorem SL.bz (h:Bs S w A l):Bs All w A l:=h.bless fun _ _ _=>trivial
theorem SL.blo {m n:Nat} (h:Bs (aB n) w A l) (hl:m≤n):Bs (aB m) w A l:=h.bless fun _ _ h=>Nat.le_trans hl h
theorem SL.bat (h:Bs S w A l) {k:Nat} (hk:k<l.length) :
  ∃ b off,A=some ⟨b,off,none⟩∧S b∧b<w.heap.size∧w.cell? ⟨b,off+k,none⟩=some (.int .u8 (l[k].toNat:Int)):=by
 obtain⟨b,off,e,h0,hlt,hi⟩:=h AO
 obtain⟨cs,h1,h2,h3⟩:=hi k hk
 refine⟨b,off,e,h0,hlt,?_⟩
 have:=h2 0 AO
 rw[h3] at this
 simpa [bv] using this
theorem SL.ball (h:Bs S w A l) (hl:0<l.length) :
  ∃ b off,A=some ⟨b,off,none⟩∧S b∧b<w.heap.size∧∀ j u,(l.map bv)[j]?=some u→w.cell? ⟨b,off+j,none⟩=some u:=by
 obtain⟨b,off,e,h0,hlt,_⟩:=h hl
 refine⟨b,off,e,h0,hlt,fun j u hu=>?_⟩
 have hj:j<l.length:=by
  rcases Nat.lt_or_ge j l.length with h'|h'
  ·exact h'
  ·rw[List.getElem?_eq_none (by simpa using h')] at hu;cases hu
 obtain⟨b',off',e',_,_,hc⟩:=h.bat hj
 rw[e] at e'
 cases e'
 rw[hc]
 simpa [bv,hj] using hu
theorem SL.bof_own {base:Nat} {e:TypeId} {n n' c:Nat} (h:w.ownsRow base e 1 (.slice A n' c) n (l.map bv)):n=l.length∧Bs (aB base) w A l:=by
 have hn:n=l.length:=by have:=h.1;simpa using this.symm
 refine⟨hn,fun hl=>?_⟩
 rcases h.2 with ⟨_,h0⟩|⟨g,cap,cur,hv,hge,hh,_⟩
 ·omega
 ·injection hv with hA
  subst hA
  refine⟨g,0,rfl,hge,(Array.getElem?_eq_some_iff.1 hh).1,fun i hi=>⟨[bv l[i]],rfl,fun j hj=>?_,rfl⟩⟩
  obtain rfl:j=0:=by omega
  have hc:=h.cells (g:=g) rfl (i*1+0) (bv l[i]) (by simp[hi])
  rw[bC] at hc
  rw[Nat.add_assoc,hc]
  rfl
end
theorem _root_.Go.RowKit.Below.next {B:Nat} {w W w':World} (h:Below B w W) (h1:Below W.heap.size W w') (hB:B≤W.heap.size):Below B w w':=h.trans (h1.mono hB)
def big:Nat:=140737488355328
def RetSL {α:Type} (size:Nat) (R:(Nat→Prop)→World→List Value→α→Prop) (w:World) (l:List α) (e:Ending) (w':World):Prop :=
 ∃ A c,e=.returned (.slice A l.length c)∧SL size R (aB w.heap.size) w' A l∧Below w.heap.size w w'
def aT3 {α:Type} (size:Nat) (R:(Nat→Prop)→World→List Value→α→Prop) (w:World) (l:List α) (e:Ending) (w':World):Prop :=
 ∃ A c,e=.returned (.slice A l.length c)∧l.length≤c∧SL size R (aB w.heap.size) w' A l∧Below w.heap.size w w'
theorem aT3.bare {α:Type} {size:Nat} {R:(Nat→Prop)→World→List Value→α→Prop} {w:World} {l:List α} {e:Ending} {w':World} (h:aT3 size R w l e w'):RetSL size R w l e w' :=
 let ⟨A,c,h1,_,h2⟩:=h
 ⟨A,c,h1,h2⟩
abbrev bU7 (w:World) (l:List UInt8) (e:Ending) (w':World):Prop:=RetSL 1 bI0 w l e w'
def bQ (w:World) (v:Value) (e:Ending) (w':World):Prop:=e=.returned v∧Below w.heap.size w w'
theorem aA6 {w w':World} {base:Nat} {e:TypeId} {size:Nat} {v:Value} {n:Nat} {xs:List Value} (hown:w.ownsRow base e size v n xs) (hg:w.grownBy w' v.ownBlock) (hb:base≤w.heap.size):Below base w w' :=
 (Below.refl _ _).grown hg hb fun k hk=>(hown.lt k hk).1
section
variable {P : Program} (w : World)
theorem bY2 (base:Nat) (t ty e:TypeId) (i:TypeInfo) (size:Nat) (ht:P.underlying t=some (.slice e)) (hi:P.info? e=some i)
  (v:Value) (n:Nat) (xs:List Value) (hown:w.ownsRow base e size v n xs) (c:Nat):(Builtin.append_ #[t,t] ty #[v,.slice none 0 c]).run P w=.ok v w:=by
 rcases hown.2 with ⟨rfl,rfl⟩|⟨g,cap,cur,rfl,_,_,hnc,_⟩
 ·simp[Builtin.append_,run_underlying ht,sizeOf,typeInfo,hi,Builtin.lenOf,Builtin.firstCells]
 ·simp[Builtin.append_,run_underlying ht,sizeOf,typeInfo,hi,Builtin.lenOf,Builtin.firstCells,hnc,storeCells]
theorem run_app (base:Nat) (t ty e:TypeId) (i:TypeInfo) (z:Value) (size bytes:Nat) (ht:P.underlying t=some (.slice e)) (hi:P.info? e=some i) (hz:i.zero=some z)
  (hsize:i.size=size) (hby:i.bytes=bytes) (hzs:z.cells.size=size) (hsz:0<size)
  (v:Value) (n:Nat) (xs:List Value) (hown:w.ownsRow base e size v n xs)
  (A:Option Addr) (m c:Nat) (news:List Value) (hl:news.length=m*size) (hsrc:0<m→∃ ad,A=some ad∧∀ j u,news[j]?=some u→w.cell? (ad.add j)=some u) (h1:∀ u ∈ news,u.oneCell'=true)
  (h63:n+m≤maxLen) (hbytes:(n+m)*bytes≤140737488355328) (hbase:base≤w.heap.size) :
  ∃ v' w',(Builtin.append_ #[t,t] ty #[v,.slice A m c]).run P w=.ok v' w'∧w'.ownsRow base e size v' (n+m) (xs++news)∧w.grownBy w' v.ownBlock∧(v'.ownBlock=v.ownBlock∨v'.ownBlock=some w.heap.size):=by
 rcases A with _|ad
 ·have hm:m=0:=by
   rcases Nat.eq_zero_or_pos m with h0|h0
   ·exact h0
   ·obtain⟨ad,h,_⟩:=hsrc h0
    cases h
  subst hm
  have hn:news=[]:=List.eq_nil_of_length_eq_zero (by simpa using hl)
  subst hn
  exact⟨v,w,bY2 w base t ty e i size ht hi v n xs hown c,by simpa using hown,⟨rfl,rfl,rfl,zn,fun _ _ _=>rfl⟩,.inl rfl⟩
 ·have hcells:∀ j u,news[j]?=some u→w.cell? (ad.add j)=some u:=by
   rcases Nat.eq_zero_or_pos m with h0|h0
   ·subst h0
    have hn:news=[]:=List.eq_nil_of_length_eq_zero (by simpa using hl)
    subst hn
    intro j u hu
    simp at hu
   ·obtain⟨ad',h,hc⟩:=hsrc h0
    injection h with h
    subst h
    exact hc
  obtain⟨v',w',hrun,h2,h3,_,h5⟩:=run_append_own_at (P:=P) w base t ty e i z size bytes ht hi hz hsize hby hzs hsz v n xs hown ad m c news hl hcells h1 h63 hbytes hbase
  exact⟨v',w',hrun,h2,h3,h5⟩
theorem cJ7 {o:Oper} {a:Act} {K:Act→World→Prop} {Q:Exit→Act→World→Prop} (s x:Operand) (t:TypeId)
  (ho:o.op=.call { callee:=.builtin .append,args:=#[s,x],argTypes:=#[t,t] })
  (base:Nat) (e:TypeId) (i:TypeInfo) (z:Value) (size bytes:Nat) (ht:P.underlying t=some (.slice e)) (hi:P.info? e=some i) (hz:i.zero=some z)
  (hsize:i.size=size) (hby:i.bytes=bytes) (hzs:z.cells.size=size) (hsz:0<size)
  (v:Value) (n:Nat) (xs:List Value) (hs:a.eval s=v) (hown:w.ownsRow base e size v n xs)
  (A:Option Addr) (m c:Nat) (news:List Value) (hx:a.eval x=.slice A m c) (hl:news.length=m*size) (hsrc:0<m→∃ ad,A=some ad∧∀ j u,news[j]?=some u→w.cell? (ad.add j)=some u) (h1:∀ u ∈ news,u.oneCell'=true)
  (h63:n+m≤maxLen) (hbytes:(n+m)*bytes≤140737488355328) (hbase:base≤w.heap.size)
  (h:∀ v' w',w'.ownsRow base e size v' (n+m) (xs++news)→w.grownBy w' v.ownBlock→(v'.ownBlock=v.ownBlock∨v'.ownBlock=some w.heap.size)→K (a.put o.dst v') w'):o.wp P a w K Q:=by
 obtain⟨v',w',hrun,h2,h3,h4⟩:=run_app (P:=P) w base t o.type e i z size bytes ht hi hz hsize hby hzs hsz v n xs hown A m c news hl hsrc h1 h63 hbytes hbase
 unfold Oper.wp execOp
 simp only[ho,resolve,invoke,builtin,Sem.run_bind,Sem.run_pure,Result.andThen_ok,List.map_toArray,List.map_cons,List.map_nil,hs,hx,hrun]
 exact h v' w' h2 h3 h4
theorem aC0 {ops:Array Oper} {rest:List Oper} {o:Oper} {a:Act} {Q:Exit→Act→World→Prop} (hgd:o.guard=none) (s x:Operand) (t:TypeId)
  (ho:o.op=.call { callee:=.builtin .append,args:=#[s,x],argTypes:=#[t,t] })
  (base:Nat) (e:TypeId) (i:TypeInfo) (z:Value) (size bytes:Nat) (ht:P.underlying t=some (.slice e)) (hi:P.info? e=some i) (hz:i.zero=some z)
  (hsize:i.size=size) (hby:i.bytes=bytes) (hzs:z.cells.size=size) (hsz:0<size)
  (v:Value) (n:Nat) (xs:List Value) (hs:a.eval s=v) (hown:w.ownsRow base e size v n xs)
  (A:Option Addr) (m c:Nat) (news:List Value) (hx:a.eval x=.slice A m c) (hl:news.length=m*size) (hsrc:0<m→∃ ad,A=some ad∧∀ j u,news[j]?=some u→w.cell? (ad.add j)=some u) (h1:∀ u ∈ news,u.oneCell'=true)
  (h63:n+m≤maxLen) (hbytes:(n+m)*bytes≤140737488355328) (hbase:base≤w.heap.size)
  (h:∀ v' w',w'.ownsRow base e size v' (n+m) (xs++news)→w.grownBy w' v.ownBlock→(v'.ownBlock=v.ownBlock∨v'.ownBlock=some w.heap.size)→wpList P ops Q rest (a.put o.dst v') w'):wpList P ops Q (o :: rest) a w :=
 wpList_plain hgd fun _ hK=>cJ7 w s x t ho base e i z size bytes ht hi hz hsize hby hzs hsz v n xs hs hown A m c news hx hl hsrc h1 h63 hbytes hbase fun v' w' h2 h3 h4=>hK _ _ (h v' w' h2 h3 h4)
end
theorem Own.apart {α:Type} {size:Nat} {R:(Nat→Prop)→World→List Value→α→Prop} {S:Nat→Prop} {w:World} {base:Nat} {e:TypeId} {v:Value} {l:List α} (h:Own size R S w base e v l) (n:Nat) (hn:w.heap.size≤n):∀ b,aB n b→v.ownBlock≠some b:=by
 obtain⟨xs,h1,_⟩:=h
 intro b hb hv
 have:=(h1.lt b hv).2
 simp only[aB] at hb
 omega
theorem aM3 {P:Program} {α:Type} {R:(Nat→Prop)→World→List Value→α→Prop} (hR:bI R) {S:Nat→Prop} (w:World) {ops:Array Oper} {rest:List Oper} {o:Oper} {a:Act} {Q:Exit→Act→World→Prop} (hgd:o.guard=none) (s x:Operand) (t:TypeId)
  (ho:o.op=.call { callee:=.builtin .append,args:=#[s,x],argTypes:=#[t,t] })
  (base:Nat) (e:TypeId) (i:TypeInfo) (z:Value) (size bytes:Nat) (ht:P.underlying t=some (.slice e)) (hi:P.info? e=some i) (hz:i.zero=some z)
  (hsize:i.size=size) (hby:i.bytes=bytes) (hzs:z.cells.size=size) (hsz:0<size)
  (v:Value) (l:List α) (hs:a.eval s=v) (hown:Own size R S w base e v l)
  (A:Option Addr) (c:Nat) (cs:List Value) (hx:a.eval x=.slice A 1 c) (hl:cs.length=size) (hsrc:∃ ad,A=some ad∧∀ j u,cs[j]?=some u→w.cell? (ad.add j)=some u) (h1:∀ u ∈ cs,u.oneCell'=true)
  (h63:l.length+1≤maxLen) (hbytes:(l.length+1)*bytes≤140737488355328) (hbase:base≤w.heap.size)
  (d:α) (hd:R (fun b=>S b∧v.ownBlock≠some b) w cs d)
  (h:∀ v' w',Own size R S w' base e v' (l++[d])→Below base w w'→wpList P ops Q rest (a.put o.dst v') w'):wpList P ops Q (o :: rest) a w:=by
 obtain⟨xs,hx1,hx2⟩:=hown
 exact aC0 w hgd s x t ho base e i z size bytes ht hi hz hsize hby hzs hsz v l.length xs hs hx1 A 1 c cs hx AO (fun _=>hsrc) h1 h63 hbytes hbase
  fun v' w' g1 g2 g3=>h v' w' (Own.snoc hR hx2 hx1 g1 g2 g3 hd hl) (aA6 hx1 g2 hbase)
theorem aE6 (w:World) (n:Nat) (cs:List Value) (t:TypeId) (hn:w.heap.size=n):∃ ad,some (⟨n,0,none⟩:Addr)=some ad∧∀ j u,cs[j]?=some u→(w.alloc (.cells cs.toArray t)).cell? (ad.add j)=some u:=by
 subst hn
 exact⟨_,rfl,World.news_of_block (cs:=cs.toArray) (t:=t) (fr:=(0,0)) (heap_alloc_new w _)⟩
theorem SL.bsrc {S:Nat→Prop} {w:World} {A:Option Addr} {l:List UInt8} (h:Bs S w A l):0<l.length→∃ ad,A=some ad∧∀ j u,(l.map bv)[j]?=some u→w.cell? (ad.add j)=some u:=fun hl =>
 let ⟨b,off,e,_,_,hc⟩:=h.ball hl
 ⟨⟨b,off,none⟩,e,fun j u hu=>by rw[bC];exact hc j u hu⟩
theorem aJ8 (w:World) (v:Value) (t:TypeId):0<1→∃ ad,some (⟨w.heap.size,0,none⟩:Addr)=some ad∧∀ j u,[v][j]?=some u→(w.alloc (.cells #[v] t)).cell? (ad.add j)=some u :=
 fun _=>⟨_,rfl,World.news_of_block (cs:=#[v]) (t:=t) (fr:=(0,0)) (heap_alloc_new w _)⟩
theorem bA1 {w w1:World} {e:TypeId} {v:Value} {n:Nat} {l:List UInt8} (hown:w1.ownsRow w.heap.size e 1 v n (l.map bv)) (hb:Below w.heap.size w w1):aT3 1 bI0 w l (.returned v) w1:=by
 rcases hown.2 with ⟨rfl,h0⟩|⟨g,cap,cur,rfl,_,_,hcap,_⟩
 ·obtain⟨h1,h2⟩:=SL.bof_own hown
  exact⟨_,_,by rw[← h1,h0],AO,h2,hb⟩
 ·obtain⟨h1,h2⟩:=SL.bof_own hown
  exact⟨_,_,by rw[← h1],AO,h2,hb⟩
theorem aA {w:World} {g:Nat} {t:TypeId} {cs:List Value} (h:w.heap[g]?=some (.cells cs.toArray t (0,0))) (i:Nat):w.cell? ⟨g,i,none⟩=cs[i]?:=by
 rw[cell_of_row w g i _ t (0,0) h]
 simp
theorem aD {w:World} {g:Nat} {t:TypeId} {cs:List Value} (h:w.heap[g]?=some (.cells cs.toArray t (0,0))) (i:Nat):w.frozen? ⟨g,i,none⟩=false:=by
 simp[World.frozen?,h]
theorem bF {w:World} {g:Nat} {t:TypeId} {a b:Value} (h:w.heap[g]?=some (.cells #[a,b] t (0,0))) :
  w.cell? ⟨g,0,none⟩=some a∧w.cell? ⟨g,1,none⟩=some b∧w.frozen? ⟨g,0,none⟩=false∧w.frozen? ⟨g,1,none⟩=false :=
 ⟨aA (cs:=[a,b]) h 0,aA (cs:=[a,b]) h 1,aD (cs:=[a,b]) h 0,aD (cs:=[a,b]) h 1⟩
theorem aK (w:World) (cs:Array Value) (t:TypeId):(w.alloc (.cells cs t)).heap[w.heap.size]?=some (.cells cs t (0,0)):=heap_alloc_new w _
theorem aM {k:IntKind} {a b:Int} (h:a=b):Ending.returned (.int k a)=.returned (.int k b):=by rw[h]
theorem aC9 {a b:Bool} (h:a=b):Ending.returned (.bool a)=.returned (.bool b):=by rw[h]
theorem aC8 {α:Type} (l:List α) (k:Nat) (h:k<l.length):l.take (k+1)=l.take k++[l[k]]:=by
 rw[List.take_succ_eq_append_getElem h]
theorem cS7 (l:List UInt8):∀ s:ByteArray,(l.map fun b=>((b.toNat:Int))).foldl (fun r n=>r.push (UInt8.ofNat n.toNat)) s=⟨(s.data.toList++l).toArray⟩:=by
 induction l with
 | nil=>intro s;simp
 | cons b l ih=>intro s;simp only[List.map_cons,List.foldl_cons,ih];simp[ByteArray.push]
theorem bE2 {P:Program} {S:Nat→Prop} {w:World} {A:Option Addr} {a:List UInt8} (h:Bs S w A a) (src dst e:TypeId) (c:Nat)
  (hs:P.underlying src=some (.slice e)) (he:P.underlying e=some (.int .u8)) (hd:P.underlying dst=some .string) :
  (convert src dst (.slice A a.length c)).run P w=.ok (.string ⟨a.toArray⟩) w:=by
 rw[run_convert_bytes_string w src dst e A _ c hs he hd]
 rcases A with _|ad
 ·have:a=[]:=by
   cases a with
   | nil=>rfl
   | cons b l=>obtain⟨_,_,h',_⟩:=h ZH2;cases h'
  subst this
  rfl
 ·have hl:(loadCells ad a.length).run P w=.ok (((a.map fun b=>((b.toNat:Int))).map (Value.int .u8)).toArray) w:=by
   have e1:a.length=((a.map fun b=>((b.toNat:Int))).map (Value.int .u8)).length:=by simp
   rw[e1]
   refine run_loadCells_list w ad _ fun j v hv=>?_
   rcases Nat.eq_zero_or_pos a.length with h0|h0
   ·obtain rfl:=List.eq_nil_of_length_eq_zero h0
    simp at hv
   ·obtain⟨b',off',e',_,_,hc⟩:=h.ball h0
    cases e'
    rw[bC]
    exact hc j v (by simpa [bv,Function.comp_def] using hv)
  rw[run_bytesToString w ad _ c _ hl,cS7]
  rfl
def lt (a b:List UInt8):Bool:=Op.bytesLess a b
theorem info_u8:(Tryz.prog.info? 5).map (fun i=>(i.zero,i.size,i.bytes))=some (some (.int .u8 0),1,1):=by kernel_rfl
def aE (a:List UInt8):Int:=if 1≤a.length∧a.length≤16 then 0 else 1
theorem aF (w:World) (A:Option Addr) (a:List UInt8) (c:Nat) :
  Calls Tryz.prog 91 #[.slice A a.length c] w fun e w'=>e=.returned (.int .i64 (aE a))∧w=w':=by
 by_cases h1:a.length<1
 rotate_left
 by_cases h2:16<a.length
 all_goals
  go_enter Tryz.func91,Tryz.ntmps91
  go_wp2
  go_ret
  refine⟨aM ?_,rfl⟩
  unfold aE
  first|rw[if_pos AO]|rw[if_neg AO]
theorem cmp_lt:∀ a b:List UInt8,Lib.compareBytes a b=if lt a b then -1 else if a=b then 0 else 1
 | [],[]=>by simp[Lib.compareBytes,lt,Op.bytesLess]
 | [],_ :: _=>by simp[Lib.compareBytes,lt,Op.bytesLess]
 | _ :: _,[]=>by simp[Lib.compareBytes,lt,Op.bytesLess]
 | a :: x,b :: y=>by
  have ih:=cmp_lt x y
  unfold Lib.compareBytes
  by_cases h1:a<b
  ·simp[h1,lt,Op.bytesLess]
  ·by_cases h2:b<a
   ·have h3:a≠b:=fun e=>by subst e;exact h1 h2
    simp[h1,h2,lt,Op.bytesLess,h3]
   ·have h3:a=b:=UInt8.le_antisymm (UInt8.not_lt.1 h2) (UInt8.not_lt.1 h1)
    subst h3
    simp only[lt] at ih
    simp[lt,Op.bytesLess,ih]
    rfl
def aI4 (a b:List UInt8):Int:=if lt a b then -1 else if a=b then 0 else 1
theorem bM0 {P:Program} {S:Nat→Prop} {w:World} {A:Option Addr} {a:List UInt8} (h:Bs S w A a) (c:Nat):(Extern.Bytes.bytesOf (.slice A a.length c)).run P w=.ok ⟨a.toArray⟩ w:=by
 rcases A with _|ad
 ·have:a=[]:=by
   cases a with
   | nil=>rfl
   | cons b l=>obtain⟨_,_,h',_⟩:=h ZH2;cases h'
  subst this
  rfl
 ·rcases Nat.eq_zero_or_pos a.length with h0|h0
  ·obtain rfl:=List.eq_nil_of_length_eq_zero h0
   rfl
  ·obtain⟨b',off',e',_,_,hc⟩:=h.ball h0
   cases e'
   have:=Lib.run_loadBytesX (P:=P) w (a.map fun b=>((b.toNat:Int))) ⟨b',off',none⟩ .empty (fun j x hx=>by
    obtain⟨b,hb,rfl⟩:=List.mem_map.1 (List.mem_of_getElem? hx)
    rw[bC]
    exact hc j _ (by simp only[List.getElem?_map] at hx ⊢;cases hj:a[j]? <;> simp_all [bv]))
   rw[List.length_map] at this
   rw[Extern.Bytes.bytesOf,this]
   congr 2
   simp[Lib.bytesOf,Function.comp_def]
theorem cC5 {P:Program} {Sa Sb:Nat→Prop} {w:World} {A B:Option Addr} {a b:List UInt8} (ha:Bs Sa w A a) (hb:Bs Sb w B b) (c d:Nat) :
  (Extern.BytealgCompare.compare #[.slice A a.length c,.slice B b.length d]).run P w=.ok (.int .i64 (aI4 a b)) w:=by
 change Sem.run P (do pure (goInt (Extern.BytealgCompare.cmp (← Extern.Bytes.bytesOf (.slice A a.length c)) (← Extern.Bytes.bytesOf (.slice B b.length d))))) w=_
 simp only[Sem.run_bind,bM0 ha,bM0 hb,Result.andThen]
 rw[Lib.cmp_eq,cmp_lt]
 rfl
theorem aA1 (w:World) (A B:Option Addr) (a b:List UInt8) (c d:Nat) (ha:Bs All w A a) (hb:Bs All w B b) :
  Calls Tryz.prog 103 #[.slice A a.length c,.slice B b.length d] w fun e w'=>e=.returned (.int .i64 (aI4 a b))∧w=w':=by
 have Hr:=zh (cC5 (P:=Tryz.prog) ha hb c d)
 clear ha hb
 go_enter Tryz.func103,Tryz.ntmps103
 go_wp2
 rw[run_callFunc_extern Tryz.func166 ZG0 ZG0 ZG0 (e:=Extern.BytealgCompare.compare) ZG0,Hr.out]
 simp only[Result.andThen]
 rw[Oper.upon_value]
 go_wp2
 go_ret
 exact⟨rfl,rfl⟩
theorem bA2 (w:World) (A:Option Addr) (a:List UInt8) (c:Nat) (ha:Bs All w A a) (hn:a.length≤big) :
  Calls Tryz.prog 49 #[.slice A a.length c] w (aT3 1 bI0 w a):=by
 unfold big at hn
 obtain⟨i0,hi0,hz0,hz1,hz2⟩:=info_parts info_u8
 have hnil:=Lib.run_eql_slice_nil (P:=Tryz.prog) w 44 5 A a.length c 0 0 Tryz.underlying44
 have Ha:=zh ha
 clear ha
 rcases A with _|ad
 ·have e0:a=[]:=by
   cases a with
   | nil=>rfl
   | cons b l=>obtain⟨_,_,h',_⟩:=Ha.out ZH2;cases h'
  subst e0
  clear hn hnil
  have hnil:=Lib.run_eql_slice_nil (P:=Tryz.prog) w 44 5 none 0 c 0 0 Tryz.underlying44
  go_enter Tryz.func49,Tryz.ntmps49
  go_wp2
  go_ret
  exact⟨none,0,rfl,zn,SL.nil,Below.refl _ _⟩
 ·go_enter Tryz.func49,Tryz.ntmps49
  go_wp2_with (at_builtin;refine aC0 _ rfl _ _ _ rfl w.heap.size 5 i0 (.int .u8 0) 1 1 Tryz.underlying44 hi0 hz0 hz1 hz2 rfl ZD9 _ 0 [] rfl (World.ownsRow_made w #[] 0 zn ZD9 rfl) (some ad) a.length c (a.map bv) rfl ZH2 (Ha.out.bbelow ((Below.refl _ _).alloc zn _)).bsrc (aI3 a) ZD2 AO AU ?_;intro v1 w1 hown1 hg1 hat1)
  go_ret
  exact bA1 (by simpa using hown1) (((Below.refl _ _).alloc zn _).trans (aA6 (World.ownsRow_made (e:=5) (size:=1) w #[] 0 zn ZD9 rfl) hg1 AU))
theorem aE2 (w:World) (A:Option Addr) (a:List UInt8) (c:Nat) (ha:Bs All w A a) (hn:a.length≤big) :
  Calls Tryz.prog 49 #[.slice A a.length c] w (bU7 w a) :=
 (bA2 w A a c ha hn).mono fun _ _ h=>h.bare
abbrev Pr:=List UInt8 × List UInt8
def aU2 (S:Nat→Prop) (w:World) (cs:List Value) (p:Pr):Prop :=
 ∃ A c B d,cs=[.slice A p.1.length c,.slice B p.2.length d]∧Bs S w A p.1∧Bs S w B p.2∧p.1.length≤big∧p.2.length≤big
theorem pairR_stays:bI aU2 :=
 ⟨fun _ _ _ _ _ hb ⟨A,c,B,d,h0,h1,h2,h3⟩=>⟨A,c,B,d,h0,h1.bsame hb,h2.bsame hb,h3⟩,fun _ _ _ _ _ hb ⟨A,c,B,d,h0,h1,h2,h3⟩=>⟨A,c,B,d,h0,h1.bless hb,h2.bless hb,h3⟩⟩
def cQ1 (w:World) (p:Pr) (e:Ending) (w':World):Prop :=
 ∃ A c B d,e=.returned (.agg #[.slice A p.1.length c,.slice B p.2.length d])∧Bs (aB w.heap.size) w' A p.1∧Bs (aB w.heap.size) w' B p.2∧Below w.heap.size w w'
def aA5 (p:Pr):Int:=if 32<p.2.length then 1 else aE p.1
theorem aL8 (w:World) (A B:Option Addr) (p:Pr) (c d:Nat) :
  Calls Tryz.prog 153 #[.agg #[.slice A p.1.length c,.slice B p.2.length d]] w (bQ w (.int .i64 (aA5 p))):=by
 by_cases h:32<p.2.length
 all_goals
  go_enter Tryz.func153,Tryz.ntmps153
  go_wp2_with (go_at_call 91;refine (aF _ A p.1 c).mono ?_;rintro e w' ⟨rfl,rfl⟩)
  go_ret
  refine⟨?_,?_⟩
  ·simp[aA5,h]
  ·exact BE
theorem aR2 (w:World) (A B:Option Addr) (p:Pr) (c d:Nat) (A' B':Option Addr) (q:Pr) (c' d':Nat) (hp:Bs All w A p.1) (hq:Bs All w A' q.1) :
  Calls Tryz.prog 154 #[.agg #[.slice A p.1.length c,.slice B p.2.length d],.agg #[.slice A' q.1.length c',.slice B' q.2.length d']] w (bQ w (.int .i64 (aI4 p.1 q.1))):=by
 have Hp:=zh hp
 have Hq:=zh hq
 clear hp hq
 go_enter Tryz.func154,Tryz.ntmps154
 go_wp2_with (go_at_call 103;refine (aA1 _ A A' p.1 q.1 c c' (Hp.out.bbelow ?_) (Hq.out.bbelow ?_)).mono ?_;(all_goals try exact BE);rintro e w' ⟨rfl,rfl⟩)
 go_ret
 refine⟨rfl,?_⟩
 exact BE
theorem info_pair:(Tryz.prog.info? 53).map (fun i=>(i.zero,i.size,i.bytes))=some (some (.agg #[.slice none 0 0,.slice none 0 0]),2,48):=by kernel_rfl
abbrev Ps (S:Nat→Prop) (w:World) (A:Option Addr) (l:List Pr):Prop:=SL 2 aU2 S w A l
theorem aE3 {S:Nat→Prop} {w:World} {A:Option Addr} {l:List Pr} (h:Ps S w A l) {k:Nat} (hk:k<l.length) :
  ∃ b off K c V d,A=some ⟨b,off,none⟩∧S b∧b<w.heap.size∧w.cell? ⟨b,off+k*2,none⟩=some (.slice K l[k].1.length c)∧w.cell? ⟨b,off+k*2+1,none⟩=some (.slice V l[k].2.length d) ∧
   Bs S w K l[k].1∧Bs S w V l[k].2∧l[k].1.length≤big∧l[k].2.length≤big:=by
 obtain⟨b,off,cs,e,h0,hlt,h1,h2,A',c,B',d,rfl,h3,h4,h5,h6⟩:=h.at hk
 exact⟨b,off,A',c,B',d,e,h0,hlt,by simpa using h2 0 AO,by simpa using h2 1 AO,h3,h4,h5,h6⟩
def aB0 (f:Nat→Int):Nat→Nat→Int
 | 0,_=>0
 | n+1,k=>if f k≠0 then f k else aB0 f n (k+1)
theorem aO4 (f:Nat→Int) {n k:Nat} (hk:k<n):aB0 f (n - k) k=if f k≠0 then f k else aB0 f (n - (k+1)) (k+1):=by
 obtain⟨m,hm⟩:∃ m,n - k=m+1:=⟨n - k - 1,AO⟩
 have e:n - (k+1)=m:=by omega
 rw[hm,e]
 rfl
def aP4 (l:List Pr) (i:Nat):Int :=
 if aA5 (l.getD i ([],[]))≠0 then aA5 (l.getD i ([],[])) else if 0<i∧lt (l.getD (i - 1) ([],[])).1 (l.getD i ([],[])).1=false then 3 else 0
def aG (l:List Pr):Int:=if 60<l.length then 1 else aB0 (aP4 l) l.length 0
theorem bM1 {l:List Pr} {k:Nat} (hk:k<l.length) (h:aA5 l[k]≠0):aP4 l k=aA5 l[k]:=by
 simp[aP4,hk,h]
theorem bE3 {l:List Pr} {k:Nat} (hk:k+1<l.length) (h:aA5 l[k+1]=0) (ho:lt l[k].1 l[k+1].1=false):aP4 l (k+1)=3:=by
 have hk':k<l.length:=by omega
 simp[aP4,hk,hk',h,ho]
theorem bU8 {l:List Pr} {k:Nat} (hk:k+1<l.length) (h:aA5 l[k+1]=0) (ho:lt l[k].1 l[k+1].1=true):aP4 l (k+1)=0:=by
 have hk':k<l.length:=by omega
 simp[aP4,hk,hk',h,ho]
theorem bI1 {l:List Pr} (hk:0<l.length) (h:aA5 l[0]=0):aP4 l 0=0:=by
 simp[aP4,hk,h]
theorem aB3 (w:World) (A:Option Addr) (l:List Pr) (c:Nat) (ha:Ps All w A l) :
  Calls Tryz.prog 92 #[.slice A l.length c] w (bQ w (.int .i64 (aG l))):=by
 have Ha:=zh ha
 clear ha
 by_cases hbig:60<l.length
 ·go_enter Tryz.func92,Tryz.ntmps92
  go_wp2
  go_ret
  exact⟨aM (by simp[aG,hbig]),Below.refl _ _⟩
 ·have Hv:=zh (show aG l=aB0 (aP4 l) l.length 0 by simp[aG,hbig])
  have h60:decide (60<(l.length:Int))=false:=by simp;omega
  go_enter Tryz.func92,Tryz.ntmps92
  go_wp2
  clear h60
  go_loopw [11] (fun i wr=>∃ k:Nat,k≤l.length∧i=.int .i64 k∧aB0 (aP4 l) (l.length - k) k=aG l∧Below w.heap.size w wr) (fun i _=>l.length - (intOf i).toNat)
  case atStart=>exact⟨0,AO,rfl,by rw[Hv.out];rfl,Below.refl _ _⟩
  case round =>
   obtain⟨k,hk,rfl,hval,hbel⟩:=hrel
   have Hbel:=zh hbel
   have Hval:=zh hval
   clear hbel hval
   by_cases hlt:k<l.length
   ·have Hstep:=zh (aO4 (aP4 l) hlt)
    obtain⟨ab,ao,K,c1,V,d1,rfl,_,hal,hc1,hc2,hs1,hs2,hb1,hb2⟩:=aE3 (Ha.out.below pairR_stays Hbel.out) hlt
    clear hb1 hb2
    by_cases hf:aA5 l[k]=0
    ·have Hf:=zh hf
     have hf':(aA5 l[k] != 0)=false:=by simp[hf]
     clear hf
     rcases k with _|m
     ·have Hz:=zh (bI1 hlt Hf.out)
      simp only[Nat.zero_mul,Nat.add_zero] at hc1 hc2
      generalize l[0]=x at *
      go_wp2_with (go_at_call 153;refine (aL8 _ K V x c1 d1).mono ?_;rintro e w1 ⟨rfl,hbw1⟩)
      go_quiet (fail)
      go_wp2
      go_roundw
      case rel=>exact⟨1,AO,rfl,by rw[← Hval.out,Hstep.out,Hz.out];rfl,below_drewN (((Hbel.out.alloc Hbel.out.size _)).next hbw1 (by have hz1:=Hbel.out.size;simp;omega)) _⟩
      case measure=>simp[intOf];omega
     ·have hm:m<l.length:=by omega
      obtain⟨ab0,ao0,K0,c0,V0,d0,he0,_,_,hc3,hc4,hs3,_,_,_⟩:=aE3 (Ha.out.below pairR_stays Hbel.out) hm
      cases he0
      rcases Bool.eq_false_or_eq_true (lt l[m].1 l[m+1].1) with ho|ho
      ·have Hz:=zh (bU8 hlt Hf.out ho)
       have hcm:aI4 l[m].1 l[m+1].1<0:=by simp[aI4,ho]
       generalize l[m+1]=x at *
       generalize l[m]=q at *
       generalize hcmv:aI4 q.1 x.1=cm at hcm
       have Hcm:=zh hcmv
       clear hcmv
       go_wp2_with (go_at_call 153;refine (aL8 _ K V x c1 d1).mono ?_;rintro e w1 ⟨rfl,hbw1⟩)
       have hold:=(Below.refl wr.heap.size wr).alloc zn (.cells #[.slice K x.1.length c1,.slice V x.2.length d1] 53)
       have hz1:wr.heap.size+1≤w1.heap.size:=by have hz:=hbw1.size;simpa using hz
       have hg3:=(hbw1.cell (p:=⟨ab,ao+m*2,none⟩) ZC8).trans ((hold.cell (p:=⟨ab,ao+m*2,none⟩) hal).trans hc3)
       have hg4:=(hbw1.cell (p:=⟨ab,ao+m*2+1,none⟩) ZC8).trans ((hold.cell (p:=⟨ab,ao+m*2+1,none⟩) hal).trans hc4)
       have hg1:w1.cell? ⟨wr.heap.size,0,none⟩=some (.slice K x.1.length c1):=(hbw1.cell AU).trans ZH2
       have hg2:w1.cell? ⟨wr.heap.size,1,none⟩=some (.slice V x.2.length d1):=(hbw1.cell AU).trans ZH2
       have Ho1:=zh (hold.next hbw1 ZH2)
       clear hc1 hc2 hc3 hc4
       clear hold
       have hi0:(0:Int)≤(m:Int):=by omega
       have hi1:(m:Int)<(l.length:Int):=by omega
       have hiw:IntKind.i64.wrap (m:Int)=(m:Int):=IntWalk.i64_in _ AO
       go_region_held3 (fun w'=>w'.cell? ⟨ab,ao+m*2,none⟩=some (.slice K0 q.1.length c0)∧w'.cell? ⟨ab,ao+m*2+1,none⟩=some (.slice V0 q.2.length d0)∧w'.cell? ⟨wr.heap.size,0,none⟩=some (.slice K x.1.length c1)∧w'.cell? ⟨wr.heap.size,1,none⟩=some (.slice V x.2.length d1))
        (first
         | go_keep
         | (go_split_ands;refine⟨(hbw2.cell ZC8).trans ZF3,(hbw2.cell ZC8).trans ZF3,(hbw2.cell ZC8).trans ZF3,(hbw2.cell ZC8).trans ZF3⟩))
        ((go_at_call 154;(with_reducible refine (aR2 _ K0 V0 q c0 d0 K V x c1 d1 ?hp ?hq).mono ?_);(case hp=>exact (hs3.bz.bbelow Ho1.out).bsame (aC.refl _ _).drew);(case hq=>exact (hs1.bz.bbelow Ho1.out).bsame (aC.refl _ _).drew);rintro e w2 ⟨rfl,hbw2⟩;rw[Hcm.out]))
       go_wp2
       go_roundw
       case rel=>exact⟨m+2,AO,by go_num,by rw[← Hval.out,Hstep.out,Hz.out];rfl,(Hbel.out.next Ho1.out Hbel.out.size).drew.next hbw2 (by have hz2:=Hbel.out.size;simp;omega)⟩
       case measure=>simp[intOf];omega
      ·have Hz:=zh (bE3 hlt Hf.out ho)
       have hcm:0≤aI4 l[m].1 l[m+1].1:=by simp only[aI4,ho];simp;split <;> omega
       generalize l[m+1]=x at *
       generalize l[m]=q at *
       generalize hcmv:aI4 q.1 x.1=cm at hcm
       have Hcm:=zh hcmv
       clear hcmv
       go_wp2_with (go_at_call 153;refine (aL8 _ K V x c1 d1).mono ?_;rintro e w1 ⟨rfl,hbw1⟩)
       have hold:=(Below.refl wr.heap.size wr).alloc zn (.cells #[.slice K x.1.length c1,.slice V x.2.length d1] 53)
       have hz1:wr.heap.size+1≤w1.heap.size:=by have hz:=hbw1.size;simpa using hz
       have hg3:=(hbw1.cell (p:=⟨ab,ao+m*2,none⟩) ZC8).trans ((hold.cell (p:=⟨ab,ao+m*2,none⟩) hal).trans hc3)
       have hg4:=(hbw1.cell (p:=⟨ab,ao+m*2+1,none⟩) ZC8).trans ((hold.cell (p:=⟨ab,ao+m*2+1,none⟩) hal).trans hc4)
       have hg1:w1.cell? ⟨wr.heap.size,0,none⟩=some (.slice K x.1.length c1):=(hbw1.cell AU).trans ZH2
       have hg2:w1.cell? ⟨wr.heap.size,1,none⟩=some (.slice V x.2.length d1):=(hbw1.cell AU).trans ZH2
       have Ho1:=zh (hold.next hbw1 ZH2)
       clear hc1 hc2 hc3 hc4
       clear hold
       have hi0:(0:Int)≤(m:Int):=by omega
       have hi1:(m:Int)<(l.length:Int):=by omega
       have hiw:IntKind.i64.wrap (m:Int)=(m:Int):=IntWalk.i64_in _ AO
       go_region_held3 (fun w'=>w'.cell? ⟨ab,ao+m*2,none⟩=some (.slice K0 q.1.length c0)∧w'.cell? ⟨ab,ao+m*2+1,none⟩=some (.slice V0 q.2.length d0)∧w'.cell? ⟨wr.heap.size,0,none⟩=some (.slice K x.1.length c1)∧w'.cell? ⟨wr.heap.size,1,none⟩=some (.slice V x.2.length d1))
        (first
         | go_keep
         | (go_split_ands;refine⟨(hbw2.cell ZC8).trans ZF3,(hbw2.cell ZC8).trans ZF3,(hbw2.cell ZC8).trans ZF3,(hbw2.cell ZC8).trans ZF3⟩))
        ((go_at_call 154;(with_reducible refine (aR2 _ K0 V0 q c0 d0 K V x c1 d1 ?hp ?hq).mono ?_);(case hp=>exact (hs3.bz.bbelow Ho1.out).bsame (aC.refl _ _).drew);(case hq=>exact (hs1.bz.bbelow Ho1.out).bsame (aC.refl _ _).drew);rintro e w2 ⟨rfl,hbw2⟩;rw[Hcm.out]))
       go_wp2
       go_ret
       exact⟨aM (by rw[← Hval.out,Hstep.out,Hz.out];rfl),(Hbel.out.next Ho1.out Hbel.out.size).drew.next hbw2 (by have hz2:=Hbel.out.size;simp;omega)⟩
    ·have Hz:=zh (bM1 hlt hf)
     have Hf:=zh hf
     have hf':(aA5 l[k] != 0)=true:=by simpa using hf
     clear hf
     generalize l[k]=x at *
     go_wp2_with (go_at_call 153;refine (aL8 _ K V x c1 d1).mono ?_;rintro e w1 ⟨rfl,hbw1⟩)
     go_ret
     exact⟨aM (by rw[← Hval.out,Hstep.out,Hz.out,if_pos Hf.out]),((Hbel.out.alloc Hbel.out.size _)).next hbw1 (by have hz1:=Hbel.out.size;simp;omega)⟩
   ·go_wp2
    go_ret
    obtain rfl:k=l.length:=by omega
    have h:=Hval.out
    simp[aB0] at h
    exact⟨aM h,Hbel.out⟩
def aI (a:List UInt8):Int:=if 1≤a.length∧a.length≤8 then 0 else 1
theorem aA3 (w:World) (A:Option Addr) (a:List UInt8) (c:Nat) :
  Calls Tryz.prog 90 #[.slice A a.length c] w fun e w'=>e=.returned (.int .i64 (aI a))∧w=w':=by
 by_cases h1:a.length<1
 rotate_left
 by_cases h2:8<a.length
 all_goals
  go_enter Tryz.func90,Tryz.ntmps90
  go_wp2
  go_ret
  refine⟨aM ?_,rfl⟩
  unfold aI
  first|rw[if_pos AO]|rw[if_neg AO]
theorem lt_irrefl:∀ a:List UInt8,lt a a=false
 | []=>rfl
 | a :: x=>by
  have ih:=lt_irrefl x
  simp only[lt] at ih
  simp[lt,Op.bytesLess,ih]
theorem lt_trans:∀ a b c:List UInt8,lt a b=true→lt b c=true→lt a c=true
 | _,[],_,h,_=>by simp[lt,Op.bytesLess] at h
 | _,_ :: _,[],_,h=>by simp[lt,Op.bytesLess] at h
 | [],_ :: _,_ :: _,_,_=>by simp[lt,Op.bytesLess]
 | a :: x,b :: y,c :: z,h1,h2=>by
  have ih:=lt_trans x y z
  simp only[lt,Op.bytesLess,Bool.or_eq_true,decide_eq_true_eq,Bool.and_eq_true,beq_iff_eq] at *
  rcases h1 with h1|⟨rfl,h1⟩ <;> rcases h2 with h2|⟨rfl,h2⟩
  ·exact .inl (UInt8.lt_trans h1 h2)
  ·exact .inl h1
  ·exact .inl h2
  ·exact .inr ⟨rfl,ih h1 h2⟩
theorem lt_tri:∀ a b:List UInt8,lt a b=false→lt b a=false→a=b
 | [],[],_,_=>rfl
 | [],_ :: _,h,_=>by simp[lt,Op.bytesLess] at h
 | _ :: _,[],_,h=>by simp[lt,Op.bytesLess] at h
 | a :: x,b :: y,h1,h2=>by
  have ih:=lt_tri x y
  simp only[lt] at ih
  simp only[lt,Op.bytesLess,Bool.or_eq_false_iff,decide_eq_false_iff_not,Bool.and_eq_false_iff,beq_eq_false_iff_ne] at h1 h2
  have e:a=b:=UInt8.le_antisymm (UInt8.not_lt.1 h2.1) (UInt8.not_lt.1 h1.1)
  subst e
  rw[ih (by simpa using h1.2) (by simpa using h2.2)]
theorem cC6 (a b:List UInt8) (h:lt a b=true):lt b a=false:=by
 rcases Bool.eq_false_or_eq_true (lt b a) with h'|h'
 ·have:=lt_trans a b a h h'
  rw[lt_irrefl] at this
  cases this
 ·exact h'
theorem aX8 {a b:List UInt8} (h:lt a b=true):aI4 a b<0:=by simp[aI4,h]
theorem aO5 {a b:List UInt8} (h:lt a b=false):0≤aI4 a b:=by simp only[aI4,h];simp;split <;> omega
theorem bU9 (a b:List UInt8):(aI4 a b==0)=(a==b):=by
 by_cases h:a=b
 ·subst h
  simp[aI4,lt_irrefl]
 ·simp only[aI4]
  split
  ·simp[h]
  ·simp[h]
def bS (ks:List (List UInt8)):Prop:=∀ i j (hi:i<j) (hj:j<ks.length),lt (ks[i]'(by omega)) ks[j]=true
theorem bB8 {ks:List (List UInt8)} (h:∀ i (hi:i+1<ks.length),lt ks[i] ks[i+1]=true):bS ks:=by
 intro i j hi hj
 induction j with
 | zero=>omega
 | succ j ih =>
  by_cases e:i=j
  ·subst e;exact h i hj
  ·exact lt_trans _ _ _ (ih AO AO) (h j hj)
theorem aI0 {f:Nat→Int}:∀ (n k:Nat),aB0 f n k=0→∀ i,i<n→f (k+i)=0
 | 0,_,_,i,hi=>absurd hi AO
 | n+1,k,h,i,hi=>by
  unfold aB0 at h
  split at h
  ·rename_i hne;exact absurd h hne
  ·rename_i hz
   rcases i with _|i
   ·simpa using hz
   ·have:=aI0 n (k+1) h i AO
    rw[show k+(i+1)=k+1+i by omega]
    exact this
theorem aG5 {l:List Pr} (h:aG l=0):l.length≤60∧(∀ p ∈ l,aA5 p=0)∧bS (l.map (·.1)):=by
 unfold aG at h
 split at h
 ·simp at h
 ·rename_i hl
  have hz:=aI0 _ _ h
  have hp:∀ i (hi:i<l.length),aA5 l[i]=0:=fun i hi=>by
   have:=hz i hi
   rw[Nat.zero_add] at this
   by_cases hb:aA5 l[i]=0
   ·exact hb
   ·rw[bM1 hi hb] at this;exact this
  refine⟨AO,fun p hp'=>?_,bB8 fun i hi=>?_⟩
  ·obtain⟨i,hi,rfl⟩:=List.getElem_of_mem hp'
   exact hp i hi
  ·have hi':i+1<l.length:=by simpa using hi
   simp only[List.getElem_map]
   have:=hz (i+1) hi'
   rw[Nat.zero_add] at this
   rcases Bool.eq_false_or_eq_true (lt l[i].1 l[i+1].1) with ho|ho
   ·exact ho
   ·rw[bE3 hi' (hp _ hi') ho] at this
    cases this
structure At (ks:List (List UInt8)) (k:List UInt8) (i:Nat):Prop where
 le:i≤ks.length
 low:∀ j (_:j<i) (h:j<ks.length),lt ks[j] k=true
 high:∀ j (_:i≤j) (h:j<ks.length),lt ks[j] k=false
theorem cJ8 {ks:List (List UInt8)} (hr:bS ks) {m:Nat} {k:List UInt8} (hm:m<ks.length) (h:lt ks[m] k=true):∀ j (_:j<m+1) (hj:j<ks.length),lt ks[j] k=true:=by
 intro j h1 hj
 rcases (by omega:j<m∨j=m) with h2|rfl
 ·exact lt_trans _ _ _ (hr j m h2 hm) h
 ·exact h
theorem bY3 {ks:List (List UInt8)} (hr:bS ks) {m:Nat} {k:List UInt8} (hm:m<ks.length) (h:lt ks[m] k=false):∀ j (_:m≤j) (hj:j<ks.length),lt ks[j] k=false:=by
 intro j h1 hj
 rcases (by omega:m<j∨j=m) with h2|rfl
 ·rcases Bool.eq_false_or_eq_true (lt ks[j] k) with h3|h3
  ·rw[lt_trans _ _ _ (hr m j h2 hj) h3] at h;cases h
  ·exact h3
 ·exact h
def Lo (n:Nat) (b:Nat):Prop:=b<n
theorem SL.low {α:Type} {size:Nat} {R:(Nat→Prop)→World→List Value→α→Prop} (hR:bI R) {S:Nat→Prop} {w:World} {A:Option Addr} {l:List α} {n:Nat} (h:SL size R S w A l) (hn:w.heap.size≤n):SL size R (Lo n) w A l :=
 h.less hR fun b hb _=>Nat.lt_of_lt_of_le hb hn
theorem aC.of_low {n:Nat} {w w':World} (h:Below n w w'):aC (Lo n) w w':=⟨h.size,fun k hk _=>h.block k hk⟩
theorem cC7 {S:Nat→Prop} {w:World} {g:Nat} {t:TypeId} {l:List UInt8} (h:w.heap[g]?=some (.cells (l.map bv).toArray t (0,0))) (hS:S g):Bs S w (some ⟨g,0,none⟩) l:=by
 intro _
 refine⟨g,0,rfl,hS,(Array.getElem?_eq_some_iff.1 h).1,fun i hi=>⟨[bv l[i]],rfl,fun j hj=>?_,rfl⟩⟩
 obtain rfl:j=0:=by omega
 have:=aA h (0+i*1+0)
 rw[this]
 simp[hi]
def lpS (p:List UInt8):List UInt8:=UInt8.ofNat p.length :: p
theorem bM2 (p:List UInt8):(lpS p).length=p.length+1:=rfl
theorem wrap_u8 (n:Nat):IntKind.u8.wrap (n:Int)=((UInt8.ofNat n).toNat:Int):=by
 simp[IntKind.wrap,IntKind.bits,IntKind.signed]
def RetApp (base:Nat) (w:World) (v:Value) (l:List UInt8) (e:Ending) (w':World):Prop :=
 ∃ v',e=.returned v'∧w'.ownsRow base 5 1 v' l.length (l.map bv)∧Below base w w'∧aC (fun b=>b<w.heap.size∧v.ownBlock≠some b) w w'∧(∀ b,b<w.heap.size→v.ownBlock≠some b→v'.ownBlock≠some b)
theorem bE4 (w:World) (base:Nat) (v:Value) (l:List UInt8) (hown:w.ownsRow base 5 1 v l.length (l.map bv)) (P:Option Addr) (p:List UInt8) (c:Nat) (hp:Bs (Lo base) w P p) (hbase:base≤w.heap.size) (hn:l.length+p.length+1≤big) :
  Calls Tryz.prog 284 #[v,.slice P p.length c] w (RetApp base w v (l++lpS p)):=by
 unfold big at hn
 obtain⟨i0,hi0,hz0,hz1,hz2⟩:=info_parts info_u8
 have Hown:=zh hown
 have Hp:=zh hp
 have hw:=wrap_u8 p.length
 have Hw:=zh hw
 clear hown hp
 go_enter Tryz.func284,Tryz.ntmps284
 go_wp2_with (first
  | (at_builtin;refine aC0 _ rfl _ _ _ rfl base 5 i0 (.int .u8 0) 1 1 Tryz.underlying44 hi0 hz0 hz1 hz2 rfl ZD9 v l.length (l.map bv) rfl (Hown.out.alloc _) (some ⟨w.heap.size,0,none⟩) 1 1 [bv (UInt8.ofNat p.length)] rfl rfl (by (first|exact aJ8 _ _ _|(rw[Hw.out];exact aJ8 _ _ _))) ZG3 ZD2 AO ZC8 ?_;intro v1 w1 hown1 hg1 hat1)
  | (at_builtin;refine aC0 _ rfl _ _ _ rfl base 5 i0 (.int .u8 0) 1 1 Tryz.underlying44 hi0 hz0 hz1 hz2 rfl ZD9 v1 (l.length+1) _ rfl hown1 P p.length c (p.map bv) rfl ZH2 (SL.bsrc (S:=Lo base) (((Hp.out.bsame (aC.of_low ((Below.refl base w).alloc hbase _))).bsame (aC.of_low (aA6 (Hown.out.alloc _) hg1 ZC8))))) (aI3 p) ZD2 AO (by have:=hg1.size;simp at this;omega) ?_;intro v2 w2 hown2 hg2 hat2))
 go_ret
 refine⟨v2,rfl,?_,?_,?_,?_⟩
 ·have e:l.length+1+p.length=(l++lpS p).length:=by simp[lpS];omega
  rw[← e]
  simpa [lpS,List.map_append] using hown2
 ·exact (((Below.refl base w).alloc hbase _).trans (aA6 (Hown.out.alloc _) hg1 ZC8)).trans (aA6 hown1 hg2 (by have:=hg1.size;simp at this;omega))
 ·refine aC.grown (aC.grown ((aC.refl _ w).alloc _) hg1 fun k hk hs=>hs.2 hk) hg2 fun k hk hs=>?_
  rcases hat1 with h|h
  ·rw[h] at hk;exact hs.2 hk
  ·rw[h] at hk;cases hk;simp at hs;omega
 ·intro b hb hv h
  have hz:=hg1.size
  simp at hz
  rcases hat2 with h2|h2
  ·rw[h2] at h
   rcases hat1 with h1|h1
   ·rw[h1] at h;exact hv h
   ·rw[h1] at h;cases h;simp at hb;omega
  ·rw[h2] at h;cases h;omega
end Go.Proofs.YtablgnacmpcfeaaGreatDoor
