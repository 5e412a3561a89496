/- TopL: Plain laws for the laws of the whole: what is told while the server is down; turns that a sync tells. No program. Walks: canopykeep's SameForest and what it leans on. The conditions of each are in its words. -/
import Derived.Test.YtlhpfgpagggdlaaGreatDoorKSrvP
import Derived.Test.YtlhpfgpagggdlaaGreatDoorKForest
import Derived.Test.YtlhpfgpagggdlaaGreatDoorKTrees
namespace Go.Proofs.YtlhpfgpagggdlaaGreatDoor
open Go.RowKit
set_option linter.unusedVariables false
set_option linter.unusedSimpArgs false
set_option maxRecDepth 100000
set_option maxHeartbeats 8000000
theorem Inv.start {g:Eng} {n:Nat} (h:Inv g n):Inv { g with up:=true } n:={ h with }
theorem dA0 (l m:List Ac):bM (l++m)=m.foldl doE (bM l):=by unfold bM;rw[List.foldl_append]
theorem aU1 (w:World) (A B:Option Addr) (a b:List UInt8) (c d:Nat) (ha:Bs All w A a) (hb:Bs All w B b) :
  Calls Tryz.prog 60 #[.slice A a.length c,.slice B b.length d] w fun e w'=>e=.returned (.bool (a==b))∧w=w':=by
 have h1:=bE2 ha 47 9 5 c Tryz.underlying47 Tryz.underlying5 Tryz.underlying9
 have h2:=bE2 hb 47 9 5 d Tryz.underlying47 Tryz.underlying5 Tryz.underlying9
 clear ha hb
 go_enter Tryz.func60,Tryz.ntmps60
 go_wp2
 go_ret
 exact⟨rfl,rfl⟩
theorem cC4 (w:World) (A B A' B':Option Addr) (p:Pr) (c d c' d':Nat) (ha:Bs All w A p.1) (hb:Bs All w B p.2) (ha':Bs All w A' p.1) (hb':Bs All w B' p.2) :
  Calls Tryz.prog 84 #[.agg #[.slice A p.1.length c,.slice B p.2.length d],.agg #[.slice A' p.1.length c',.slice B' p.2.length d']] w (bQ w (.bool true)):=by
 have Ha:=zh ha
 have Hb:=zh hb
 have Ha':=zh ha'
 have Hb':=zh hb'
 clear ha hb ha' hb'
 go_enter Tryz.func84,Tryz.ntmps84
 go_wp2_with (first
  | (go_at_call 60;(with_reducible refine (aU1 _ A A' p.1 p.1 c c' ?hx ?hy).mono ?_);(case hx=>(refine Ha.out.bbelow ?_;exact BE));(case hy=>(refine Ha'.out.bbelow ?_;exact BE));rintro e w2 ⟨rfl,rfl⟩)
  | (go_at_call 60;(with_reducible refine (aU1 _ B B' p.2 p.2 d d' ?hx ?hy).mono ?_);(case hx=>(refine Hb.out.bbelow ?_;exact BE));(case hy=>(refine Hb'.out.bbelow ?_;exact BE));rintro e w2 ⟨rfl,rfl⟩))
 go_ret
 refine⟨by simp,?_⟩
 exact BE
theorem bU6 (w:World) (A B:Option Addr) (l:List Pr) (c d:Nat) (ha:Ps All w A l) (hb:Ps All w B l) (hn:l.length≤big) :
  Calls Tryz.prog 61 #[.slice A l.length c,.slice B l.length d] w (bQ w (.bool true)):=by
 unfold big at hn
 have Ha:=zh ha
 have Hb:=zh hb
 clear ha hb
 go_enter Tryz.func61,Tryz.ntmps61
 go_wp2
 go_loopw [5] (fun i wr=>∃ k:Nat,k≤l.length∧i=.int .i64 k∧Below w.heap.size w wr) (fun i _=>l.length - (intOf i).toNat)
 case atStart=>exact⟨0,AO,rfl,Below.refl _ _⟩
 case round =>
  obtain⟨k,hk,rfl,hbel⟩:=hrel
  have Hbel:=zh hbel
  clear hbel
  by_cases hlt:k<l.length
  ·obtain⟨ab,ao,K,c1,V,d1,rfl,_,hal,hc1,hc2,hs1,hs2,_,_⟩:=aE3 (Ha.out.below pairR_stays Hbel.out) hlt
   obtain⟨bb,bo,K',c1',V',d1',rfl,_,hbl,hc3,hc4,hs3,hs4,_,_⟩:=aE3 (Hb.out.below pairR_stays Hbel.out) hlt
   generalize l[k]=x at *
   have hi0:(0:Int)≤(k:Int):=by omega
   have hi1:(k:Int)<(l.length:Int):=by omega
   go_wp2_with fail
   go_region_held3 (fun w'=>w'.cell? ⟨ab,ao+k*2,none⟩=some (.slice K x.1.length c1)∧w'.cell? ⟨ab,ao+k*2+1,none⟩=some (.slice V x.2.length d1)∧w'.cell? ⟨bb,bo+k*2,none⟩=some (.slice K' x.1.length c1')∧w'.cell? ⟨bb,bo+k*2+1,none⟩=some (.slice V' x.2.length d1'))
    (first
     | go_keep
     | (go_split_ands;refine⟨(hbw2.cell (by simp;omega)).trans (by assumption),(hbw2.cell (by simp;omega)).trans (by assumption),(hbw2.cell (by simp;omega)).trans (by assumption),(hbw2.cell (by simp;omega)).trans (by assumption)⟩))
    ((go_at_call 84;(with_reducible refine (cC4 _ K V K' V' x c1 d1 c1' d1' (hs1.bz.bsame (aC.refl _ _).drew) (hs2.bz.bsame (aC.refl _ _).drew) (hs3.bz.bsame (aC.refl _ _).drew) (hs4.bz.bsame (aC.refl _ _).drew)).mono ?_);rintro e w2 ⟨rfl,hbw2⟩))
   go_wp2
   go_roundw
   case rel=>exact⟨k+1,AO,by go_num,Hbel.out.drew.next hbw2 (by have hz2:=Hbel.out.size;simp;omega)⟩
   case measure=>simp[intOf];omega
  ·go_wp2
   go_ret
   exact⟨rfl,Hbel.out⟩
theorem bS7 (w:World) (A B:Option Addr) (l:List Tn) (c d:Nat) (ha:Ts All w A l) (hb:Ts All w B l) (hn:l.length≤big) :
  Calls Tryz.prog 37 #[.slice A l.length c,.slice B l.length d] w (bQ w (.bool true)):=by
 unfold big at hn
 have Ha:=zh ha
 have Hb:=zh hb
 clear ha hb
 go_enter Tryz.func37,Tryz.ntmps37
 go_wp2
 go_loopw [5] (fun i wr=>∃ k:Nat,k≤l.length∧i=.int .i64 k∧Below w.heap.size w wr) (fun i _=>l.length - (intOf i).toNat)
 case atStart=>exact⟨0,AO,rfl,Below.refl _ _⟩
 case round =>
  obtain⟨k,hk,rfl,hbel⟩:=hrel
  have Hbel:=zh hbel
  have hbz:=hbel.size
  clear hbel
  by_cases hlt:k<l.length
  ·obtain⟨ab,ao,K,c1,V,d1,rfl,_,hal,hc1,hc2,hs1,hs2,_,h48,_⟩:=aN8 (Ha.out.below tenR_stays Hbel.out) hlt
   obtain⟨bb,bo,K',c1',V',d1',rfl,_,hbl,hc3,hc4,hs3,hs4,_,_,_⟩:=aN8 (Hb.out.below tenR_stays Hbel.out) hlt
   generalize l[k]=x at *
   have hi0:(0:Int)≤(k:Int):=by omega
   have hi1:(k:Int)<(l.length:Int):=by omega
   have e1:(x.1==x.1)=true:=by simp
   have hxb:x.2.length≤big:=by unfold big;omega
   go_wp2_with fail
   go_region_held3 (fun w'=>w'.cell? ⟨ab,ao+k*2,none⟩=some (.slice K x.1.length c1)∧w'.cell? ⟨ab,ao+k*2+1,none⟩=some (.slice V x.2.length d1)∧w'.cell? ⟨bb,bo+k*2,none⟩=some (.slice K' x.1.length c1')∧w'.cell? ⟨bb,bo+k*2+1,none⟩=some (.slice V' x.2.length d1'))
    (first
     | go_keep
     | (go_split_ands;refine⟨(hbw2.cell (by simp;omega)).trans (by assumption),(hbw2.cell (by simp;omega)).trans (by assumption),(hbw2.cell (by simp;omega)).trans (by assumption),(hbw2.cell (by simp;omega)).trans (by assumption)⟩))
    (first
     | (go_at_call 60;refine (aU1 _ K K' x.1 x.1 c1 c1' (hs1.bz.bsame SM) (hs3.bz.bsame SM)).mono ?_;rintro e w3 ⟨rfl,rfl⟩)
     | (go_at_call 61;refine (bU6 _ V V' x.2 d1 d1' ((hs2.z pairR_stays).same pairR_stays SM) ((hs4.z pairR_stays).same pairR_stays SM) hxb).mono ?_;rintro e w2 ⟨rfl,hbw2⟩))
   go_wp2
   go_roundw
   case rel=>exact⟨k+1,AO,by go_num,Hbel.out.drew.next hbw2 (by simp;omega)⟩
   case measure=>simp[intOf];omega
  ·go_wp2
   go_ret
   exact⟨rfl,Hbel.out⟩
theorem SameForestK_ok (w:World) (A B:Option Addr) (l:List Tn) (c d:Nat) (ha:Ts All w A l) (hb:Ts All w B l) (hn:l.length≤big) :
  Calls Tryz.prog 22 #[.slice A l.length c,.slice B l.length d] w (bQ w (.bool true)):=by
 have h:=bS7 w A B l c d ha hb hn
 go_enter Tryz.func22,Tryz.ntmps22
 go_wp2_with (go_at_call 37;(with_reducible refine h.mono ?_);rintro e w1 ⟨rfl,hb1⟩)
 go_ret
 exact⟨rfl,hb1⟩
end Go.Proofs.YtlhpfgpagggdlaaGreatDoor
