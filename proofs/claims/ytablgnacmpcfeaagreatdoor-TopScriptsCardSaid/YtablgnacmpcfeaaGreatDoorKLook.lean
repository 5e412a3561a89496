/- Look: Walks: txn.both and forestAndTxn; txn.Look and Looked; the law TxnLooks. Walks: txn.Scan and Scanned; the law TxnScans. The conditions of each are in its words. -/
import Derived.Test.YtablgnacmpcfeaaGreatDoorKTxnF
import Derived.Test.YtablgnacmpcfeaaGreatDoorKForest
namespace Go.Proofs.YtablgnacmpcfeaaGreatDoor
open Go.RowKit
set_option linter.unusedVariables false
set_option linter.unusedSimpArgs false
set_option maxRecDepth 100000
set_option maxHeartbeats 8000000
theorem bO1 {t:Tx} (h:aN t=0):t.reads.length≤20∧t.writes.length≤10:=by
 unfold aN at h
 split at h
 ·cases h
 ·split at h
  ·cases h
  ·omega
def aM0 (l:List Tn) (t:Tx):Int:=if aL l≠0 then aL l else aN t
theorem aU5 {l:List Tn} {t:Tx} (h:aM0 l t=0):aL l=0∧aN t=0:=by
 unfold aM0 at h
 split at h
 ·rename_i h';exact absurd h h'
 ·rename_i h';exact⟨by simpa using h',h⟩
def aO0 (n k:List UInt8):Int:=if aI n≠0 then aI n else aE k
theorem aY9 {l:List Tn} {n k:List UInt8} (h:aL l=0):(aA7 l n k).2=aO0 n k:=by
 unfold aA7 aD4 aO0
 by_cases h1:aI n=0
 ·simp only[h,ne_eq,not_true_eq_false,if_false,h1]
  unfold aX7
  rw[if_neg (by rw[aN0.old h];decide)]
  by_cases h2:aE k=0
  ·rw[if_neg (by simpa using h2),h2]
   split <;> rfl
  ·rw[if_pos h2]
 ·simp[h,h1]
theorem bT6 {l:List Tn} {n k:List UInt8} (h:aL l=0) (h':aO0 n k≠0):aA7 l n k=((false,[]),aO0 n k):=by
 have hc:=aY9 (n:=n) (k:=k) h
 unfold aA7 at hc ⊢
 split
 ·rename_i h1;rw[if_pos h1] at hc;rw[← hc]
 ·rename_i h1
  rw[if_neg h1] at hc
  rw[← hc] at h' ⊢
  unfold aX7 at h' ⊢
  split
  ·rfl
  ·split
   ·rfl
   ·rename_i h2 h3
    rw[if_neg h2,if_neg h3] at h'
    exfalso
    apply h'
    split <;> rfl
def bF0 (n k:List UInt8) (x:Wr):Bool:=x.name==n && x.key==k
def aS6 (l:List Tn) (t:Tx) (n k:List UInt8):(Finding × Bool) × Int :=
 if aM0 l t≠0 then (((false,[]),false),aM0 l t) else if aO0 n k≠0 then (((false,[]),false),aO0 n k) else
  match t.writes.find? (bF0 n k) with
  | some x=>(((!x.flag,x.value),true),0)
  | none=>(((aA7 l n k).1,false),0)
theorem cT3 {q:Wr→Bool} {l:List Wr} {k:Nat} (hk:k<l.length) (h:(l.take k).any q=false) (hq:q l[k]=true):l.find? q=some l[k]:=by
 have hs:l=l.take k++l[k] :: l.drop (k+1):=by
  rw[List.getElem_cons_drop hk,List.take_append_drop]
 have h1:(l.take k).find? q=none:=by rw[List.find?_eq_none];simpa using h
 generalize hx:l[k]=x at *
 rw[hs,List.find?_append,h1]
 simp[hq]
theorem cT4 {q:Wr→Bool} {l:List Wr} (h:l.any q=false):l.find? q=none:=by rw[List.find?_eq_none];simpa using h
def RetLook (w:World) (r:(Finding × Bool) × Int) (e:Ending) (w':World):Prop :=
 ∃ A c,e=.returned (.tuple #[.agg #[.bool r.1.1.1,.slice A r.1.1.2.length c],.bool r.1.2,.int .i64 r.2])∧Bs (aB w.heap.size) w' A r.1.1.2∧Below w.heap.size w w'
theorem bA6 (w:World) (L:Option Addr) (l:List Tn) (c:Nat) (A B:Option Addr) (t:Tx) (n m:Nat) (hl:Ts All w L l) (ha:Ws All w A t.reads) (hb:Ws All w B t.writes) (hcn:t.reads.length≤n) (hcm:t.writes.length≤m) :
  Calls Tryz.prog 228 #[.slice L l.length c,.agg #[.int .i64 t.start,.slice A t.reads.length n,.slice B t.writes.length m]] w (bQ w (.int .i64 (aM0 l t))):=by
 have Hl:=zh hl
 have Ha:=zh ha
 have Hb:=zh hb
 clear hl ha hb
 have Hbl:=zh (show Below w.heap.size w (w.alloc (.cells #[.int .i64 t.start,.slice A t.reads.length n,.slice B t.writes.length m] 98)) from (Below.refl _ _).alloc zn _)
 have Hx:=zh (aK w #[.int .i64 t.start,.slice A t.reads.length n,.slice B t.writes.length m] 98)
 by_cases h1:aL l=0
 ·have b1:(aL l==0)=true:=by simp[h1]
  have b1':(aL l != 0)=false:=by simp[h1]
  have Hv:=zh (show aM0 l t=aN t by unfold aM0;rw[if_neg ZE3])
  clear h1
  go_enter Tryz.func228,Tryz.ntmps228
  go_wp2_with (first
   | (go_at_call 60;refine (aD6 _ L l c (Hl.out.below tenR_stays Hbl.out)).mono ?_;rintro e w1 ⟨rfl,hb1⟩;obtain⟨x0,x1,x2,_⟩:=aY ((hb1.block _ ZH2).trans Hx.out);have hw1:=Hbl.out.next hb1 ZH2)
   | (go_at_call 63;refine (aD2 _ A B t n m (Ha.out.below wrR_stays hw1) (Hb.out.below wrR_stays hw1) hcn hcm).mono ?_;rintro e w2 ⟨rfl,hb2⟩;have hw2:=hw1.next hb2 ZD8))
  go_ret
  exact⟨aM ZH1,hw2⟩
 ·have b1:(aL l==0)=false:=by simpa using h1
  have b1':(aL l != 0)=true:=by simpa using h1
  have Hv:=zh (show aM0 l t=aL l by unfold aM0;rw[if_pos h1])
  clear h1
  go_enter Tryz.func228,Tryz.ntmps228
  go_wp2_with (go_at_call 60;refine (aD6 _ L l c (Hl.out.below tenR_stays Hbl.out)).mono ?_;rintro e w1 ⟨rfl,hb1⟩;have hw1:=Hbl.out.next hb1 ZH2)
  go_ret
  exact⟨aM ZH1,hw1⟩
theorem look_ok (w:World) (L:Option Addr) (l:List Tn) (c:Nat) (A B:Option Addr) (t:Tx) (n m:Nat) (N:Option Addr) (nm:List UInt8) (nc:Nat) (K:Option Addr) (k:List UInt8) (kc:Nat) (hl:Ts All w L l) (ha:Ws All w A t.reads) (hb:Ws All w B t.writes) (hn:Bs All w N nm) (hk:Bs All w K k) (hcn:t.reads.length≤n) (hcm:t.writes.length≤m) :
  Calls Tryz.prog 174 #[.slice L l.length c,.agg #[.int .i64 t.start,.slice A t.reads.length n,.slice B t.writes.length m],.slice N nm.length nc,.slice K k.length kc] w (RetLook w (aS6 l t nm k)):=by
 have Hl:=zh hl
 have Ha:=zh ha
 have Hb:=zh hb
 have Hn:=zh hn
 have Hk:=zh hk
 clear hl ha hb hn hk
 obtain⟨hx,hy,hsz,hbl⟩:=alloc2 w (.cells #[.int .i64 t.start,.slice A t.reads.length n,.slice B t.writes.length m] 98) (.cells #[.bool false,.slice none 0 0] 81)
 have Hx:=zh hx
 have Hy:=zh hy
 have Hbl:=zh hbl
 have Hsz:=zh hsz
 clear hx hy hbl hsz
 by_cases g1:aM0 l t=0
 ·have b1':(aM0 l t != 0)=false:=by simp[g1]
  by_cases g2:aO0 nm k=0
  ·have Hcode:=zh (show (aA7 l nm k).2=0 by rw[aY9 (aU5 g1).1];exact g2)
   have b2':((0:Int) != 0)=false:=by decide
   have Hg1:=zh g1
   have Hg2:=zh g2
   have hw10:=(bO1 (aU5 g1).2).2
   clear g1 g2
   go_enter Tryz.func174,Tryz.ntmps174
   go_wp2_with (first
    | (go_at_call 228;refine (bA6 _ L l c A B t n m (Hl.out.below tenR_stays Hbl.out) (Ha.out.below wrR_stays Hbl.out) (Hb.out.below wrR_stays Hbl.out) hcn hcm).mono ?_;rintro e w1 ⟨rfl,hb1⟩;have hzz:=Hsz.out;have hs1:=hb1.size;rw[hzz] at hs1;have Hx1:=zh ((hb1.block w.heap.size ZE0).trans Hx.out);have Hy1:=zh ((hb1.block (w.heap.size+1) ZE0).trans Hy.out);have Hw1:=zh (Hbl.out.next hb1 ZE0);obtain⟨x0,x1,x2,_⟩:=aY Hx1.out;obtain⟨z0,z1,z2,z3⟩:=bF Hy1.out;clear hb1 hzz)
    | (go_at_call 24;refine (aW2 _ L l c N nm nc K k kc (Hl.out.below tenR_stays Hw1.out) (Hn.out.bbelow Hw1.out) (Hk.out.bbelow Hw1.out)).mono ?_;rintro e w3 ⟨A3,c3,rfl,gs3,hb3⟩;rw[Hcode.out];have hs3:=hb3.size;have Gs3:=zh gs3;have Hx3:=zh ((hb3.block w.heap.size AO).trans Hx1.out);have Hy3:=zh ((hb3.block (w.heap.size+1) AO).trans Hy1.out);have Hw3:=zh (Hw1.out.next hb3 AO);have hs3a:w.heap.size<w3.heap.size:=AO;have hs3b:w.heap.size+1<w3.heap.size:=AO;clear gs3 hb3 x0 x1 x2 z0 z1 z2 z3;obtain⟨x0,x1,x2,_⟩:=aY Hx3.out;obtain⟨z0,z1,z2,z3⟩:=bF Hy3.out))
   have HxF:=zh ((heap_alloc_old w3 (.cells #[.bool (aA7 l nm k).1.1,.slice A3 (aA7 l nm k).1.2.length c3] 81) hs3a).trans Hx3.out)
   have HyF:=zh ((heap_alloc_old w3 (.cells #[.bool (aA7 l nm k).1.1,.slice A3 (aA7 l nm k).1.2.length c3] 81) hs3b).trans Hy3.out)
   have HzF:=zh (aK w3 #[.bool (aA7 l nm k).1.1,.slice A3 (aA7 l nm k).1.2.length c3] 81)
   have HwF:=zh (Hw3.out.alloc AO (.cells #[.bool (aA7 l nm k).1.1,.slice A3 (aA7 l nm k).1.2.length c3] 81))
   have H34:=zh (show Below w3.heap.size w3 (w3.alloc (.cells #[.bool (aA7 l nm k).1.1,.slice A3 (aA7 l nm k).1.2.length c3] 81)) from (Below.refl _ _).alloc zn _)
   have hsF:w3.heap.size+1≤(w3.alloc (.cells #[.bool (aA7 l nm k).1.1,.slice A3 (aA7 l nm k).1.2.length c3] 81)).heap.size:=by simp
   generalize w3.alloc (.cells #[.bool (aA7 l nm k).1.1,.slice A3 (aA7 l nm k).1.2.length c3] 81)=wF at *
   clear b1' b2' x0 x1 x2 z0 z1 z2 z3
   go_loopw [37] (fun i wr=>∃ j:Nat,j≤t.writes.length∧i=.int .i64 j∧(t.writes.take j).any (bF0 nm k)=false∧Below wF.heap.size wF wr) (fun i _=>t.writes.length - (intOf i).toNat)
   case atStart=>exact⟨0,AO,rfl,rfl,Below.refl _ _⟩
   case round =>
    obtain⟨j,hj,rfl,hno,hbel⟩:=hrel
    have Hno:=zh hno
    have Hbel:=zh hbel
    have hbz:=hbel.size
    have hsF:=hsF
    obtain⟨x0,x1,x2,_⟩:=aY ((hbel.block _ AO).trans HxF.out)
    have Hyr:=zh ((hbel.block (w.heap.size+1) AO).trans HyF.out)
    obtain⟨z0,z1,z2,z3⟩:=bF Hyr.out
    have Hbwr:=zh (HwF.out.next hbel AO)
    have hzy:w.heap.size+1<wr.heap.size:=by omega
    clear hbel hno
    by_cases hlt:j<t.writes.length
    ·obtain⟨g,off,A1,a1,B1,b1,C1,c1,hX,_,hal,hc1,hc2,hc3,hc4,hs1,hs2,hs3,_,_,hb3⟩:=aF4 (Hb.out.below wrR_stays Hbwr.out) hlt
     subst hX
     have Hnext:=zh (fun h=>aU4 (q:=bF0 nm k) hlt Hno.out h)
     have Hfind:=zh (fun h=>cT3 (q:=bF0 nm k) hlt Hno.out h)
     generalize t.writes[j]=x at *
     have Hs1:=zh hs1.bz
     have Hs2:=zh hs2.bz
     have Hs3:=zh hs3.bz
     have Hbx:=zh (show Below wr.heap.size wr (wr.alloc (.cells #[.slice A1 x.name.length a1,.slice B1 x.key.length b1,.bool x.flag,.slice C1 x.value.length c1] 102)) from (Below.refl _ _).alloc zn _)
     clear hs1 hs2 hs3
     have Hdef:=zh (show bF0 nm k x=(x.name==nm && x.key==k) from rfl)
     have Hpl:=zh (show bE x ⟨nm,k,false,[]⟩=(x.name==nm && x.key==k) from rfl)
     rcases Bool.eq_false_or_eq_true (x.name==nm) with d1|d1
     ·rcases Bool.eq_false_or_eq_true (x.key==k) with d2|d2
      ·have Hv:=zh (show aS6 l t nm k=(((!x.flag,x.value),true),0) by unfold aS6;rw[if_neg (by rw[Hg1.out];decide),if_neg (by rw[Hg2.out];decide),Hfind.out (by rw[Hdef.out,d1,d2];rfl)])
       go_wp2_with (go_at_call 69;refine (aH0 _ A1 B1 C1 N K none x ⟨nm,k,false,[]⟩ a1 b1 c1 nc kc 0 (Hs1.out.bbelow Hbx.out) (Hs2.out.bbelow Hbx.out) (Hs3.out.bbelow Hbx.out) ((Hn.out.bbelow Hbwr.out).bbelow Hbx.out) ((Hk.out.bbelow Hbwr.out).bbelow Hbx.out) SL.nil).mono ?_;rintro e w2 ⟨rfl,hb2⟩;rw[Hpl.out];have hb2':Below (wr.heap.size+1) (wr.alloc (.cells #[.slice A1 x.name.length a1,.slice B1 x.key.length b1,.bool x.flag,.slice C1 x.value.length c1] 102)) w2:=hb2.mono ZH2;have hs2:=hb2'.size;have Hq2:=zh ((hb2'.block wr.heap.size AO).trans (aK wr _ _));have Hy2:=zh ((hb2'.block (w.heap.size+1) AO).trans ((heap_alloc_old _ _ hzy).trans Hyr.out));clear z0 z1 z2 z3;obtain⟨q0,q1,q2,q3,_⟩:=bG Hq2.out;obtain⟨z0,z1,z2,z3⟩:=bF Hy2.out;have hz2:w.heap.size+1<w2.heap.size:=(by simp at hs2;omega))
       go_region_held3 (fun w'=>w'.cell? ⟨wr.heap.size,2,none⟩=some (.bool x.flag)∧w'.cell? ⟨wr.heap.size,3,none⟩=some (.slice C1 x.value.length c1))
        (first
         | go_keep
         | exact⟨v2,v3⟩
         | exact⟨((((aC.refl (fun b=>b=wr.heap.size) w5).setCell (fun h=>by simp only[] at h;omega) _).setCell (fun h=>by simp only[] at h;omega) _).cell rfl hz5').trans v2,((((aC.refl (fun b=>b=wr.heap.size) w5).setCell (fun h=>by simp only[] at h;omega) _).setCell (fun h=>by simp only[] at h;omega) _).cell rfl hz5').trans v3⟩)
        ((go_at_call 49;(with_reducible refine (aE2 _ C1 x.value c1 ?ha hb3).mono ?_);(case ha=>exact ((Hs3.out.bbelow Hbx.out).bbelow hb2).bsame SM);rintro e w5 ⟨A5,c5,rfl,gs5,hb5⟩;have hb5':Below w2.heap.size w2 w5:=(Below.refl _ _).drew.next hb5 ZH2;have hs2':wr.heap.size<w2.heap.size:=(by simp at hs2;omega);obtain⟨v0,v1,v2,v3,_⟩:=bG ((hb5'.block wr.heap.size hs2').trans Hq2.out);obtain⟨z0,z1,z2,z3⟩:=bF ((hb5'.block (w.heap.size+1) hz2).trans Hy2.out);have hs5:=hb5'.size;have hz5:w.heap.size+1<w5.heap.size:=AO;have hz5':wr.heap.size<w5.heap.size:=AO))
       go_wp2
       refine bodyPost_ret (v:=.tuple #[.agg #[.bool (!x.flag),.slice A5 x.value.length c5],.bool true,.int .i64 0]) (by simp[results,Tryz.results174,go_sem,z0,z1]) rfl ?_
       rw[Hv.out]
       refine⟨A5,c5,rfl,?_,?_⟩
       ·exact (gs5.bsame (((aC.refl _ _).setCell (fun h=>by simp only[aB] at h;simp at h;omega) _).setCell (fun h=>by simp only[aB] at h;simp at h;omega) _)).blo ZC8
       ·exact (((((Hbwr.out.next Hbx.out AO).next hb2 ZC8).next hb5' AO).setCell ZC5 _).setCell ZC5 _)
      ·have Hn1:=zh (Hnext.out (by rw[Hdef.out,d1,d2];rfl))
       go_wp2_with (go_at_call 69;refine (aH0 _ A1 B1 C1 N K none x ⟨nm,k,false,[]⟩ a1 b1 c1 nc kc 0 (Hs1.out.bbelow Hbx.out) (Hs2.out.bbelow Hbx.out) (Hs3.out.bbelow Hbx.out) ((Hn.out.bbelow Hbwr.out).bbelow Hbx.out) ((Hk.out.bbelow Hbwr.out).bbelow Hbx.out) SL.nil).mono ?_;rintro e w2 ⟨rfl,hb2⟩;rw[Hpl.out];have hb2':Below (wr.heap.size+1) (wr.alloc (.cells #[.slice A1 x.name.length a1,.slice B1 x.key.length b1,.bool x.flag,.slice C1 x.value.length c1] 102)) w2:=hb2.mono ZH2;have hs2:=hb2'.size;have Hq2:=zh ((hb2'.block wr.heap.size AO).trans (aK wr _ _));have Hy2:=zh ((hb2'.block (w.heap.size+1) AO).trans ((heap_alloc_old _ _ hzy).trans Hyr.out));clear z0 z1 z2 z3;obtain⟨q0,q1,q2,q3,_⟩:=bG Hq2.out;obtain⟨z0,z1,z2,z3⟩:=bF Hy2.out;have hz2:w.heap.size+1<w2.heap.size:=(by simp at hs2;omega))
       go_roundw
       case rel=>exact⟨j+1,AO,by go_num,Hn1.out,(Hbel.out.next Hbx.out hbz).next hb2 ZC8⟩
       case measure=>simp[intOf];omega
     ·have Hn1:=zh (Hnext.out (by rw[Hdef.out,d1];rfl))
      go_wp2_with (go_at_call 69;refine (aH0 _ A1 B1 C1 N K none x ⟨nm,k,false,[]⟩ a1 b1 c1 nc kc 0 (Hs1.out.bbelow Hbx.out) (Hs2.out.bbelow Hbx.out) (Hs3.out.bbelow Hbx.out) ((Hn.out.bbelow Hbwr.out).bbelow Hbx.out) ((Hk.out.bbelow Hbwr.out).bbelow Hbx.out) SL.nil).mono ?_;rintro e w2 ⟨rfl,hb2⟩;rw[Hpl.out];have hb2':Below (wr.heap.size+1) (wr.alloc (.cells #[.slice A1 x.name.length a1,.slice B1 x.key.length b1,.bool x.flag,.slice C1 x.value.length c1] 102)) w2:=hb2.mono ZH2;have hs2:=hb2'.size;have Hq2:=zh ((hb2'.block wr.heap.size AO).trans (aK wr _ _));have Hy2:=zh ((hb2'.block (w.heap.size+1) AO).trans ((heap_alloc_old _ _ hzy).trans Hyr.out));clear z0 z1 z2 z3;obtain⟨q0,q1,q2,q3,_⟩:=bG Hq2.out;obtain⟨z0,z1,z2,z3⟩:=bF Hy2.out;have hz2:w.heap.size+1<w2.heap.size:=(by simp at hs2;omega))
      go_roundw
      case rel=>exact⟨j+1,AO,by go_num,Hn1.out,(Hbel.out.next Hbx.out hbz).next hb2 ZC8⟩
      case measure=>simp[intOf];omega
    ·obtain rfl:j=t.writes.length:=by omega
     have hf:=Hno.out
     rw[List.take_length] at hf
     have Hv:=zh (show aS6 l t nm k=(((aA7 l nm k).1,false),0) by unfold aS6;rw[if_neg (by rw[Hg1.out];decide),if_neg (by rw[Hg2.out];decide),cT4 hf])
     clear hf
     obtain⟨f0,f1,_,_⟩:=bF ((Hbel.out.block w3.heap.size AO).trans HzF.out)
     go_wp2
     refine bodyPost_ret (v:=.tuple #[.agg #[.bool (aA7 l nm k).1.1,.slice A3 (aA7 l nm k).1.2.length c3],.bool false,.int .i64 0]) (by simp[results,Tryz.results174,go_sem,z0,z1]) rfl ?_
     rw[Hv.out]
     refine⟨A3,c3,rfl,?_,?_⟩
     ·exact ((Gs3.out.bbelow (H34.out.next Hbel.out AO)).bsame (((aC.refl _ _).setCell ZC4 _).setCell ZC4 _)).blo AO
     ·exact ((Hbwr.out.setCell ZC5 _).setCell ZC5 _)
  ·have Hbadg:=zh (bT6 (aU5 g1).1 g2)
   have b2':(aO0 nm k != 0)=true:=by simpa using g2
   have Hv:=zh (show aS6 l t nm k=(((false,[]),false),aO0 nm k) by
    unfold aS6;rw[if_neg (by simpa using g1),if_pos g2])
   clear g1 g2
   go_enter Tryz.func174,Tryz.ntmps174
   go_wp2_with (first
    | (go_at_call 228;refine (bA6 _ L l c A B t n m (Hl.out.below tenR_stays Hbl.out) (Ha.out.below wrR_stays Hbl.out) (Hb.out.below wrR_stays Hbl.out) hcn hcm).mono ?_;rintro e w1 ⟨rfl,hb1⟩;have hzz:=Hsz.out;have hs1:=hb1.size;rw[hzz] at hs1;have Hx1:=zh ((hb1.block w.heap.size ZE0).trans Hx.out);have Hy1:=zh ((hb1.block (w.heap.size+1) ZE0).trans Hy.out);have Hw1:=zh (Hbl.out.next hb1 ZE0);obtain⟨x0,x1,x2,_⟩:=aY Hx1.out;obtain⟨z0,z1,z2,z3⟩:=bF Hy1.out;clear hb1 hzz)
    | (go_at_call 24;refine (aW2 _ L l c N nm nc K k kc (Hl.out.below tenR_stays Hw1.out) (Hn.out.bbelow Hw1.out) (Hk.out.bbelow Hw1.out)).mono ?_;rw[Hbadg.out];rintro e w3 ⟨A3,c3,rfl,gs3,hb3⟩;have hs3:=hb3.size;have Gs3:=zh gs3;have Hx3:=zh ((hb3.block w.heap.size AO).trans Hx1.out);have Hy3:=zh ((hb3.block (w.heap.size+1) AO).trans Hy1.out);have Hw3:=zh (Hw1.out.next hb3 AO);have hs3a:w.heap.size<w3.heap.size:=AO;have hs3b:w.heap.size+1<w3.heap.size:=AO;clear gs3 hb3 x0 x1 x2 z0 z1 z2 z3;obtain⟨x0,x1,x2,_⟩:=aY Hx3.out;obtain⟨z0,z1,z2,z3⟩:=bF Hy3.out))
   refine bodyPost_ret (v:=.tuple #[.agg #[.bool false,.slice none 0 0],.bool false,.int .i64 (aO0 nm k)]) (by simp[results,Tryz.results174,go_sem,z0,z1,hs3b]) rfl ?_
   rw[Hv.out]
   exact⟨none,0,rfl,SL.nil,(((Hw3.out.setCell ZC5 _).setCell ZC5 _).alloc ZC8 _)⟩
 ·have b1':(aM0 l t != 0)=true:=by simpa using g1
  have Hv:=zh (show aS6 l t nm k=(((false,[]),false),aM0 l t) by
   unfold aS6;rw[if_pos g1])
  clear g1
  go_enter Tryz.func174,Tryz.ntmps174
  go_wp2_with (first
   | (go_at_call 228;refine (bA6 _ L l c A B t n m (Hl.out.below tenR_stays Hbl.out) (Ha.out.below wrR_stays Hbl.out) (Hb.out.below wrR_stays Hbl.out) hcn hcm).mono ?_;rintro e w1 ⟨rfl,hb1⟩;have hzz:=Hsz.out;have hs1:=hb1.size;rw[hzz] at hs1;have Hx1:=zh ((hb1.block w.heap.size ZE0).trans Hx.out);have Hy1:=zh ((hb1.block (w.heap.size+1) ZE0).trans Hy.out);have Hw1:=zh (Hbl.out.next hb1 ZE0);obtain⟨x0,x1,x2,_⟩:=aY Hx1.out;obtain⟨z0,z1,z2,z3⟩:=bF Hy1.out;clear hb1 hzz))
  refine bodyPost_ret (v:=.tuple #[.agg #[.bool false,.slice none 0 0],.bool false,.int .i64 (aM0 l t)]) (by simp[results,Tryz.results174,go_sem,z0,z1]) rfl ?_
  rw[Hv.out]
  exact⟨none,0,rfl,SL.nil,((Hw1.out.setCell ZC5 _).setCell ZC5 _)⟩
def aK6 (n f m:List UInt8) (x:Wr):Bool:=!(x.name==n) || (lt x.key f || lt m x.key)
def aG4 (n f m:List UInt8) (s:List Pr × Int) (x:Wr):List Pr × Int :=
 if s.2≠0 then s else if aK6 n f m x=true then s else if (bH s.1 x).2≠0 then ([],(bH s.1 x).2) else bH s.1 x
def aI5 (n f m:List UInt8) (s:List Pr × Int) (ws:List Wr):List Pr × Int:=ws.foldl (aG4 n f m) s
def aU6 (l:List Tn) (t:Tx) (n f m:List UInt8):List Pr × Int :=
 if aM0 l t≠0 then ([],aM0 l t) else if (aA8 l n f m).2≠0 then ([],(aA8 l n f m).2) else aI5 n f m (aA8 l n f m) t.writes
theorem bJ3 {n f m:List UInt8} {s:List Pr × Int} {ws:List Wr} {k:Nat} (h:k<ws.length):aI5 n f m s (ws.take (k+1))=aG4 n f m (aI5 n f m s (ws.take k)) ws[k]:=by
 unfold aI5
 rw[aC8 ws k h,List.foldl_append]
 rfl
theorem bO2 {n f m:List UInt8}:∀ (ws:List Wr) {s:List Pr × Int},s.2≠0→aI5 n f m s ws=s
 | [],_,_=>rfl
 | x :: ws,s,h=>by
  have e:aG4 n f m s x=s:=by unfold aG4;rw[if_pos h]
  show aI5 n f m (aG4 n f m s x) ws=s
  rw[e]
  exact bO2 ws h
theorem scan_err {n f m:List UInt8} {s:List Pr × Int} {ws:List Wr} {k:Nat} {e:Int} (hk:k<ws.length) (h:aG4 n f m (aI5 n f m s (ws.take k)) ws[k]=([],e)) (he:e≠0):aI5 n f m s ws=([],e):=by
 have h1:=bJ3 (n:=n) (f:=f) (m:=m) (s:=s) hk
 rw[h] at h1
 have h2:aI5 n f m s ws=aI5 n f m (aI5 n f m s (ws.take (k+1))) (ws.drop (k+1)):=by
  unfold aI5
  rw[← List.foldl_append,List.take_append_drop]
 rw[h2,h1]
 exact bO2 _ he
theorem bH2 {n f m:List UInt8} {s:List Pr} {x:Wr} (h:aK6 n f m x=true):aG4 n f m (s,0) x=(s,0):=by
 unfold aG4
 rw[if_neg ZH2,if_pos h]
theorem step_del {n f m:List UInt8} {s:List Pr} {x:Wr} (h:aK6 n f m x=false) (hf:x.flag=true) (hz:(aS2 s x.key).2=0):aG4 n f m (s,0) x=((aS2 s x.key).1,0):=by
 have hN:bH s x=aS2 s x.key:=by
  unfold bH
  rw[if_pos hf]
 unfold aG4
 rw[if_neg ZH2,if_neg (by simp[h])]
 dsimp only
 rw[hN,if_neg (by simpa using hz)]
 exact Prod.ext rfl hz
theorem cE3 {s:List Pr} {x:Wr} (hf:x.flag=false):bH s x=aK0 s (x.key,x.value):=by
 unfold bH
 rw[if_neg (by simp[hf])]
theorem step_put {n f m:List UInt8} {s:List Pr} {x:Wr} (h:aK6 n f m x=false) (hf:x.flag=false) (hz:(aK0 s (x.key,x.value)).2=0):aG4 n f m (s,0) x=((aK0 s (x.key,x.value)).1,0):=by
 unfold aG4
 rw[if_neg ZH2,if_neg (by simp[h])]
 dsimp only
 rw[cE3 hf,if_neg (by simpa using hz)]
 exact Prod.ext rfl hz
theorem step_bad {n f m:List UInt8} {s:List Pr} {x:Wr} (h:aK6 n f m x=false) (hf:x.flag=false) (hz:(aK0 s (x.key,x.value)).2≠0):aG4 n f m (s,0) x=([],(aK0 s (x.key,x.value)).2):=by
 unfold aG4
 rw[if_neg ZH2,if_neg (by simp[h])]
 dsimp only
 rw[cE3 hf,if_pos hz]
theorem bK5 {t:Tx} (h:aN t=0) {i:Nat} (hi:i<t.writes.length):aH t.writes[i]=0:=by
 unfold aN at h
 split at h
 ·cases h
 ·split at h
  ·cases h
  ·split at h
   ·rename_i h';exact absurd h h'
   ·have hz:=aI0 _ _ h i hi
    rw[Nat.zero_add,aW4 _ _ hi] at hz
    unfold bV6 at hz
    by_cases hf:aH t.writes[i]=0
    ·exact hf
    ·rw[if_pos hf] at hz;exact hz
theorem cE4 {x:Wr} (h:aH x=0) (hf:x.flag=true):aE x.key=0:=by
 unfold aH at h
 by_cases hn:aI x.name=0
 ·rw[if_neg (by simpa using hn),if_pos hf] at h
  by_cases hk:aE x.key=0
  ·exact hk
  ·rw[if_pos hk] at h;exact absurd h hk
 ·rw[if_pos hn] at h;exact absurd h hn
theorem cK8 {l:List Tn} {n f m:List UInt8} (h:(aA8 l n f m).2=0):aG (aA8 l n f m).1=0:=by
 unfold aA8 at h ⊢
 split
 ·rename_i h1;rw[if_pos h1] at h;exact absurd h h1
 ·rename_i h1
  rw[if_neg h1] at h
  unfold aM9 at h ⊢
  split
  ·rename_i h2;rw[if_pos h2] at h;exact absurd h h2
  ·rename_i h2
   have h3:aG (aJ l n)=0:=by
    have h2':aI9 (aJ l n) f m=0:=by simpa using h2
    unfold aI9 at h2'
    split at h2'
    ·rename_i h4;exact absurd h2' h4
    ·rename_i h4;simpa using h4
   obtain⟨g1,g2,g3⟩:=(aE0 _).1 h3
   refine (aE0 _).2 ⟨Nat.le_trans (List.length_filter_le _ _) g1,fun p hp=>g2 p (List.mem_filter.1 hp).1,aY3 g3 _⟩
theorem scan_ok (w:World) (L:Option Addr) (l:List Tn) (c:Nat) (A B:Option Addr) (t:Tx) (n m:Nat) (N:Option Addr) (nm:List UInt8) (nc:Nat) (F:Option Addr) (fr:List UInt8) (fc:Nat) (M:Option Addr) (to:List UInt8) (mc:Nat) (hl:Ts All w L l) (ha:Ws All w A t.reads) (hb:Ws All w B t.writes) (hn:Bs All w N nm) (hf:Bs All w F fr) (hm:Bs All w M to) (hcn:t.reads.length≤n) (hcm:t.writes.length≤m) :
  Calls Tryz.prog 176 #[.slice L l.length c,.agg #[.int .i64 t.start,.slice A t.reads.length n,.slice B t.writes.length m],.slice N nm.length nc,.slice F fr.length fc,.slice M to.length mc] w (cD0 w (aU6 l t nm fr to)):=by
 have Hl:=zh hl
 have Ha:=zh ha
 have Hb:=zh hb
 have Hn:=zh hn
 have Hf:=zh hf
 have Hm:=zh hm
 clear hl ha hb hn hf hm
 have Hbl:=zh (show Below w.heap.size w (w.alloc (.cells #[.int .i64 t.start,.slice A t.reads.length n,.slice B t.writes.length m] 98)) from (Below.refl _ _).alloc zn _)
 have Hx:=zh (aK w #[.int .i64 t.start,.slice A t.reads.length n,.slice B t.writes.length m] 98)
 by_cases g1:aM0 l t=0
 ·have b1':(aM0 l t != 0)=false:=by simp[g1]
  by_cases g2:(aA8 l nm fr to).2=0
  ·have b2':((0:Int) != 0)=false:=by decide
   have Hg1:=zh g1
   have Hrz:=zh g2
   have Hwf:=zh (fun (i:Nat) (hi:i<t.writes.length)=>bK5 (aU5 g1).2 hi)
   have hw10:=(bO1 (aU5 g1).2).2
   clear g1 g2
   go_enter Tryz.func176,Tryz.ntmps176
   go_wp2_with (first
    | (go_at_call 228;refine (bA6 _ L l c A B t n m (Hl.out.below tenR_stays Hbl.out) (Ha.out.below wrR_stays Hbl.out) (Hb.out.below wrR_stays Hbl.out) hcn hcm).mono ?_;rintro e w1 ⟨rfl,hb1⟩;have hs1:w.heap.size<w1.heap.size:=ZD8;have Hx1:=zh ((hb1.block w.heap.size ZH2).trans Hx.out);have Hw1:=zh (Hbl.out.next hb1 ZH2);obtain⟨x0,x1,x2,_⟩:=aY Hx1.out;clear hb1)
    | (go_at_call 25;refine (aY2 _ L l c N nm nc F fr fc M to mc (Hl.out.below tenR_stays Hw1.out) (Hn.out.bbelow Hw1.out) (Hf.out.bbelow Hw1.out) (Hm.out.bbelow Hw1.out)).mono ?_;rintro e w2 ⟨R,rc,rfl,hrc,gs2,hb2⟩;rw[Hrz.out];have hs2:=hb2.size;have Hx2:=zh ((hb2.block w.heap.size AO).trans Hx1.out);have Hw2:=zh (Hw1.out.next hb2 AO);have Gs2:=zh gs2;clear gs2 hb2 x0 x1 x2;obtain⟨x0,x1,x2,_⟩:=aY Hx2.out))
   clear b1' b2' x0 x1 x2
   go_loopw [13,38] (fun v i wr=>∃ (k:Nat) (s:List Pr) (O:Option Addr) (co:Nat),k≤t.writes.length∧i=.int .i64 k∧aI5 nm fr to (aA8 l nm fr to) (t.writes.take k)=(s,0)∧aG s=0∧v=.slice O s.length co∧s.length≤co∧Ps (aB w.heap.size) wr O s∧Below w2.heap.size w2 wr) (fun _ i _=>t.writes.length - (intOf i).toNat)
   case atStart=>exact⟨0,(aA8 l nm fr to).1,R,rc,AO,rfl,Prod.ext rfl Hrz.out,cK8 Hrz.out,rfl,hrc,Gs2.out.lo pairR_stays AO,Below.refl _ _⟩
   case round =>
    obtain⟨k,s,O,co,hk,rfl,hcur,hsf,rfl,hco,ho,hbel⟩:=hrel
    have Hcur:=zh hcur
    have Hsf:=zh hsf
    have HO:=zh ho
    have Hbel:=zh hbel
    have hbz:=hbel.size
    have Hbwr:=zh (Hw2.out.next hbel AO)
    obtain⟨x0,x1,x2,_⟩:=aY ((hbel.block _ AO).trans Hx2.out)
    clear hcur hsf ho hbel
    by_cases hlt:k<t.writes.length
    ·obtain⟨g,off,A1,a1,B1,b1,C1,c1,hX,_,hal,hc1,hc2,hc3,hc4,hs1,hs2,hs3,_,_,_⟩:=aF4 (Hb.out.below wrR_stays Hbwr.out) hlt
     subst hX
     have Hnext:=zh (bJ3 (n:=nm) (f:=fr) (m:=to) (s:=aA8 l nm fr to) hlt)
     have Herr:=zh (fun e h he=>scan_err (n:=nm) (f:=fr) (m:=to) (s:=aA8 l nm fr to) (e:=e) hlt h he)
     have Hfx:=zh (Hwf.out k hlt)
     generalize t.writes[k]=x at *
     have Hs1:=zh hs1.bz
     have Hs2:=zh hs2.bz
     have Hs3:=zh hs3.bz
     have Hbx:=zh (show Below wr.heap.size wr (wr.alloc (.cells #[.slice A1 x.name.length a1,.slice B1 x.key.length b1,.bool x.flag,.slice C1 x.value.length c1] 102)) from (Below.refl _ _).alloc zn _)
     clear hs1 hs2 hs3
     rcases Bool.eq_false_or_eq_true (x.name==nm) with d1|d1
     ·rcases Bool.eq_false_or_eq_true (lt x.key fr) with d2|d2
      ·have Hst:=zh (show aI5 nm fr to (aA8 l nm fr to) (t.writes.take (k+1))=(s,0) by rw[Hnext.out,Hcur.out];exact bH2 (by simp[aK6,d1,d2]))
       have e2:decide (aI4 x.key fr<0)=true:=by have:=aX8 d2;rw[decide_eq_true_eq];omega
       go_wp2_with (first
           | (go_at_call_of 115 A1;(with_reducible refine (aA0 _ A1 N x.name nm a1 nc ?hx ?hy).mono ?_);(case hx=>exact Hs1.out.bbelow Hbx.out);(case hy=>exact (Hn.out.bbelow Hbwr.out).bbelow Hbx.out);rintro e w5 ⟨rfl,rfl⟩)
           | (go_at_call_of 103 B1;(with_reducible refine (aA1 _ B1 F x.key fr b1 fc ?hx ?hy).mono ?_);(case hx=>exact Hs2.out.bbelow Hbx.out);(case hy=>exact (Hf.out.bbelow Hbwr.out).bbelow Hbx.out);rintro e w5 ⟨rfl,rfl⟩)
           | (go_at_call_of 103 B1;(with_reducible refine (aA1 _ B1 M x.key to b1 mc ?hx ?hy).mono ?_);(case hx=>exact Hs2.out.bbelow Hbx.out);(case hy=>exact (Hm.out.bbelow Hbwr.out).bbelow Hbx.out);rintro e w5 ⟨rfl,rfl⟩))
       go_roundw
       case rel=>exact ZC2
       case measure=>simp[intOf];omega
      ·have e2:decide (aI4 x.key fr<0)=false:=by have:=aO5 d2;rw[decide_eq_false_iff_not];omega
       rcases Bool.eq_false_or_eq_true (lt to x.key) with d3|d3
       ·have Hst:=zh (show aI5 nm fr to (aA8 l nm fr to) (t.writes.take (k+1))=(s,0) by rw[Hnext.out,Hcur.out];exact bH2 (by simp[aK6,d1,d2,d3]))
        have e3:decide (0<aI4 x.key to)=true:=by have:=cE1 d3;rw[decide_eq_true_eq];omega
        go_wp2_with (first
           | (go_at_call_of 115 A1;(with_reducible refine (aA0 _ A1 N x.name nm a1 nc ?hx ?hy).mono ?_);(case hx=>exact Hs1.out.bbelow Hbx.out);(case hy=>exact (Hn.out.bbelow Hbwr.out).bbelow Hbx.out);rintro e w5 ⟨rfl,rfl⟩)
           | (go_at_call_of 103 B1;(with_reducible refine (aA1 _ B1 F x.key fr b1 fc ?hx ?hy).mono ?_);(case hx=>exact Hs2.out.bbelow Hbx.out);(case hy=>exact (Hf.out.bbelow Hbwr.out).bbelow Hbx.out);rintro e w5 ⟨rfl,rfl⟩)
           | (go_at_call_of 103 B1;(with_reducible refine (aA1 _ B1 M x.key to b1 mc ?hx ?hy).mono ?_);(case hx=>exact Hs2.out.bbelow Hbx.out);(case hy=>exact (Hm.out.bbelow Hbwr.out).bbelow Hbx.out);rintro e w5 ⟨rfl,rfl⟩))
        go_roundw
        case rel=>exact ZC2
        case measure=>simp[intOf];omega
       ·have e3:decide (0<aI4 x.key to)=false:=by have:=bJ0 d3;rw[decide_eq_false_iff_not];omega
        have Hsk:=zh (show aK6 nm fr to x=false by simp[aK6,d1,d2,d3])
        rcases Bool.eq_false_or_eq_true x.flag with hfl|hfl
        ·have Hdz:=zh (show (aS2 s x.key).2=0 by rw[bN4 Hsf.out];exact cE4 Hfx.out hfl)
         have Hst:=zh (show aI5 nm fr to (aA8 l nm fr to) (t.writes.take (k+1))=((aS2 s x.key).1,0) by rw[Hnext.out,Hcur.out];exact step_del Hsk.out hfl Hdz.out)
         have d5:((0:Int) != 0)=false:=by decide
         rw[hfl] at hc3 Hbx
         go_wp2_with (first
           | (go_at_call_of 115 A1;(with_reducible refine (aA0 _ A1 N x.name nm a1 nc ?hx ?hy).mono ?_);(case hx=>exact Hs1.out.bbelow Hbx.out);(case hy=>exact (Hn.out.bbelow Hbwr.out).bbelow Hbx.out);rintro e w5 ⟨rfl,rfl⟩)
           | (go_at_call_of 103 B1;(with_reducible refine (aA1 _ B1 F x.key fr b1 fc ?hx ?hy).mono ?_);(case hx=>exact Hs2.out.bbelow Hbx.out);(case hy=>exact (Hf.out.bbelow Hbwr.out).bbelow Hbx.out);rintro e w5 ⟨rfl,rfl⟩)
           | (go_at_call_of 103 B1;(with_reducible refine (aA1 _ B1 M x.key to b1 mc ?hx ?hy).mono ?_);(case hx=>exact Hs2.out.bbelow Hbx.out);(case hy=>exact (Hm.out.bbelow Hbwr.out).bbelow Hbx.out);rintro e w5 ⟨rfl,rfl⟩)
           | (go_at_call 104;refine (aD5 _ O s co B1 x.key b1 ((HO.out.z pairR_stays).below pairR_stays Hbx.out) (Hs2.out.bbelow Hbx.out)).mono ?_;rintro e w6 ⟨O6,c6,rfl,hc6,gs6,hb6⟩;rw[Hdz.out]))
         go_roundw
         case rel=>exact⟨k+1,_,O6,c6,AO,by go_num,Hst.out,bV4 Hdz.out,rfl,hc6,gs6.lo pairR_stays ZC8,(Hbel.out.next Hbx.out hbz).next hb6 ZC8⟩
         case measure=>simp[intOf];omega
        ·rw[hfl] at hc3 Hbx
         by_cases hz:(aK0 s (x.key,x.value)).2=0
         ·have d5:((aK0 s (x.key,x.value)).2 != 0)=false:=by simp[hz]
          have Hst:=zh (show aI5 nm fr to (aA8 l nm fr to) (t.writes.take (k+1))=((aK0 s (x.key,x.value)).1,0) by rw[Hnext.out,Hcur.out];exact step_put Hsk.out hfl hz)
          have Hpf:=zh (bV3 hz).1
          clear hz
          go_wp2_with (first
           | (go_at_call_of 115 A1;(with_reducible refine (aA0 _ A1 N x.name nm a1 nc ?hx ?hy).mono ?_);(case hx=>exact Hs1.out.bbelow Hbx.out);(case hy=>exact (Hn.out.bbelow Hbwr.out).bbelow Hbx.out);rintro e w5 ⟨rfl,rfl⟩)
           | (go_at_call_of 103 B1;(with_reducible refine (aA1 _ B1 F x.key fr b1 fc ?hx ?hy).mono ?_);(case hx=>exact Hs2.out.bbelow Hbx.out);(case hy=>exact (Hf.out.bbelow Hbwr.out).bbelow Hbx.out);rintro e w5 ⟨rfl,rfl⟩)
           | (go_at_call_of 103 B1;(with_reducible refine (aA1 _ B1 M x.key to b1 mc ?hx ?hy).mono ?_);(case hx=>exact Hs2.out.bbelow Hbx.out);(case hy=>exact (Hm.out.bbelow Hbwr.out).bbelow Hbx.out);rintro e w5 ⟨rfl,rfl⟩)
           | (go_at_call 105;refine (aH4 _ O s co B1 C1 (x.key,x.value) b1 c1 ((HO.out.z pairR_stays).below pairR_stays Hbx.out) (Hs2.out.bbelow Hbx.out) (Hs3.out.bbelow Hbx.out)).mono ?_;rintro e w6 ⟨O6,c6,rfl,hc6,gs6,hb6⟩))
          go_roundw
          case rel=>exact⟨k+1,_,O6,c6,AO,by go_num,Hst.out,Hpf.out,rfl,hc6,gs6.lo pairR_stays ZC8,(Hbel.out.next Hbx.out hbz).next hb6 ZC8⟩
          case measure=>simp[intOf];omega
         ·have d5:((aK0 s (x.key,x.value)).2 != 0)=true:=by simpa using hz
          have Hv:=zh (show aU6 l t nm fr to=([],(aK0 s (x.key,x.value)).2) by unfold aU6;rw[if_neg (by rw[Hg1.out];decide),if_neg (by rw[Hrz.out];decide)];exact Herr.out _ (by rw[Hcur.out];exact step_bad Hsk.out hfl hz) hz)
          clear hz
          go_wp2_with (first
           | (go_at_call_of 115 A1;(with_reducible refine (aA0 _ A1 N x.name nm a1 nc ?hx ?hy).mono ?_);(case hx=>exact Hs1.out.bbelow Hbx.out);(case hy=>exact (Hn.out.bbelow Hbwr.out).bbelow Hbx.out);rintro e w5 ⟨rfl,rfl⟩)
           | (go_at_call_of 103 B1;(with_reducible refine (aA1 _ B1 F x.key fr b1 fc ?hx ?hy).mono ?_);(case hx=>exact Hs2.out.bbelow Hbx.out);(case hy=>exact (Hf.out.bbelow Hbwr.out).bbelow Hbx.out);rintro e w5 ⟨rfl,rfl⟩)
           | (go_at_call_of 103 B1;(with_reducible refine (aA1 _ B1 M x.key to b1 mc ?hx ?hy).mono ?_);(case hx=>exact Hs2.out.bbelow Hbx.out);(case hy=>exact (Hm.out.bbelow Hbwr.out).bbelow Hbx.out);rintro e w5 ⟨rfl,rfl⟩)
           | (go_at_call 105;refine (aH4 _ O s co B1 C1 (x.key,x.value) b1 c1 ((HO.out.z pairR_stays).below pairR_stays Hbx.out) (Hs2.out.bbelow Hbx.out) (Hs3.out.bbelow Hbx.out)).mono ?_;rintro e w6 ⟨O6,c6,rfl,hc6,gs6,hb6⟩))
          go_ret2
          rw[Hv.out]
          exact⟨none,0,rfl,zn,SL.nil,(Hbwr.out.next Hbx.out AO).next hb6 ZC8⟩
     ·have Hst:=zh (show aI5 nm fr to (aA8 l nm fr to) (t.writes.take (k+1))=(s,0) by rw[Hnext.out,Hcur.out];exact bH2 (by simp[aK6,d1]))
      go_wp2_with (first
           | (go_at_call_of 115 A1;(with_reducible refine (aA0 _ A1 N x.name nm a1 nc ?hx ?hy).mono ?_);(case hx=>exact Hs1.out.bbelow Hbx.out);(case hy=>exact (Hn.out.bbelow Hbwr.out).bbelow Hbx.out);rintro e w5 ⟨rfl,rfl⟩)
           | (go_at_call_of 103 B1;(with_reducible refine (aA1 _ B1 F x.key fr b1 fc ?hx ?hy).mono ?_);(case hx=>exact Hs2.out.bbelow Hbx.out);(case hy=>exact (Hf.out.bbelow Hbwr.out).bbelow Hbx.out);rintro e w5 ⟨rfl,rfl⟩)
           | (go_at_call_of 103 B1;(with_reducible refine (aA1 _ B1 M x.key to b1 mc ?hx ?hy).mono ?_);(case hx=>exact Hs2.out.bbelow Hbx.out);(case hy=>exact (Hm.out.bbelow Hbwr.out).bbelow Hbx.out);rintro e w5 ⟨rfl,rfl⟩))
      go_roundw
      case rel=>exact ZC2
      case measure=>simp[intOf];omega
    ·obtain rfl:k=t.writes.length:=by omega
     have hfi:=Hcur.out
     rw[List.take_length] at hfi
     have Hv:=zh (show aU6 l t nm fr to=(s,0) by unfold aU6;rw[if_neg (by rw[Hg1.out];decide),if_neg (by rw[Hrz.out];decide)];exact hfi)
     clear hfi
     go_wp2
     go_ret2
     rw[Hv.out]
     exact⟨O,co,rfl,hco,HO.out,Hbwr.out⟩
  ·have b2':((aA8 l nm fr to).2 != 0)=true:=by simpa using g2
   have Hv:=zh (show aU6 l t nm fr to=([],(aA8 l nm fr to).2) by
    unfold aU6;rw[if_neg (by simpa using g1),if_pos g2])
   clear g1 g2
   go_enter Tryz.func176,Tryz.ntmps176
   go_wp2_with (first
    | (go_at_call 228;refine (bA6 _ L l c A B t n m (Hl.out.below tenR_stays Hbl.out) (Ha.out.below wrR_stays Hbl.out) (Hb.out.below wrR_stays Hbl.out) hcn hcm).mono ?_;rintro e w1 ⟨rfl,hb1⟩;have hs1:w.heap.size<w1.heap.size:=ZD8;have Hx1:=zh ((hb1.block w.heap.size ZH2).trans Hx.out);have Hw1:=zh (Hbl.out.next hb1 ZH2);obtain⟨x0,x1,x2,_⟩:=aY Hx1.out;clear hb1)
    | (go_at_call 25;refine (aY2 _ L l c N nm nc F fr fc M to mc (Hl.out.below tenR_stays Hw1.out) (Hn.out.bbelow Hw1.out) (Hf.out.bbelow Hw1.out) (Hm.out.bbelow Hw1.out)).mono ?_;rintro e w2 ⟨R,rc,rfl,hrc,gs2,hb2⟩;have hs2:=hb2.size;have Hx2:=zh ((hb2.block w.heap.size AO).trans Hx1.out);have Hw2:=zh (Hw1.out.next hb2 AO);have Gs2:=zh gs2;clear gs2 hb2 x0 x1 x2;obtain⟨x0,x1,x2,_⟩:=aY Hx2.out))
   go_ret2
   rw[Hv.out]
   exact⟨none,0,rfl,zn,SL.nil,Hw2.out⟩
 ·have b1':(aM0 l t != 0)=true:=by simpa using g1
  have Hv:=zh (show aU6 l t nm fr to=([],aM0 l t) by
   unfold aU6;rw[if_pos g1])
  clear g1
  go_enter Tryz.func176,Tryz.ntmps176
  go_wp2_with (first
   | (go_at_call 228;refine (bA6 _ L l c A B t n m (Hl.out.below tenR_stays Hbl.out) (Ha.out.below wrR_stays Hbl.out) (Hb.out.below wrR_stays Hbl.out) hcn hcm).mono ?_;rintro e w1 ⟨rfl,hb1⟩;have hs1:w.heap.size<w1.heap.size:=ZD8;have Hx1:=zh ((hb1.block w.heap.size ZH2).trans Hx.out);have Hw1:=zh (Hbl.out.next hb1 ZH2);obtain⟨x0,x1,x2,_⟩:=aY Hx1.out;clear hb1))
  go_ret2
  rw[Hv.out]
  exact⟨none,0,rfl,zn,SL.nil,Hw1.out⟩
end Go.Proofs.YtablgnacmpcfeaaGreatDoor
