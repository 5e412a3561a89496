/- Scan: Walks: txn.Scan and Scanned; the law TxnScans. The conditions of each are in its words. -/
import Derived.Test.YtodopbnhkkkcbaaGreatDoorKLook
namespace Go.Proofs.YtodopbnhkkkcbaaGreatDoor
open Go.RowKit
set_option linter.unusedVariables false
set_option linter.unusedSimpArgs false
set_option maxRecDepth 100000
set_option maxHeartbeats 8000000
def aK6 (n f m:List UInt8) (x:Wr):Bool:=!(x.name==n) || (lt x.key f || lt m x.key)
def aG4 (n f m:List UInt8) (s:List Pr × Int) (x:Wr):List Pr × Int :=
 if s.2≠0 then s else if aK6 n f m x=true then s else if (bH s.1 x).2≠0 then ([],(bH s.1 x).2) else bH s.1 x
def aI5 (n f m:List UInt8) (s:List Pr × Int) (ws:List Wr):List Pr × Int:=ws.foldl (aG4 n f m) s
def aU6 (l:List Tn) (t:Tx) (n f m:List UInt8):List Pr × Int :=
 if aM0 l t≠0 then ([],aM0 l t) else if (aA8 l n f m).2≠0 then ([],(aA8 l n f m).2) else aI5 n f m (aA8 l n f m) t.writes
theorem bJ3 {n f m:List UInt8} {s:List Pr × Int} {ws:List Wr} {k:Nat} (h:k<ws.length):aI5 n f m s (ws.take (k+1))=aG4 n f m (aI5 n f m s (ws.take k)) ws[k]:=by
 unfold aI5
 rw[aC8 ws k h,List.foldl_append]
 rfl
theorem bO2 {n f m:List UInt8}:∀ (ws:List Wr) {s:List Pr × Int},s.2≠0→aI5 n f m s ws=s
 | [],_,_=>rfl
 | x :: ws,s,h=>by
  have e:aG4 n f m s x=s:=by unfold aG4;rw[if_pos h]
  show aI5 n f m (aG4 n f m s x) ws=s
  rw[e]
  exact bO2 ws h
theorem scan_err {n f m:List UInt8} {s:List Pr × Int} {ws:List Wr} {k:Nat} {e:Int} (hk:k<ws.length) (h:aG4 n f m (aI5 n f m s (ws.take k)) ws[k]=([],e)) (he:e≠0):aI5 n f m s ws=([],e):=by
 have h1:=bJ3 (n:=n) (f:=f) (m:=m) (s:=s) hk
 rw[h] at h1
 have h2:aI5 n f m s ws=aI5 n f m (aI5 n f m s (ws.take (k+1))) (ws.drop (k+1)):=by
  unfold aI5
  rw[← List.foldl_append,List.take_append_drop]
 rw[h2,h1]
 exact bO2 _ he
theorem bH2 {n f m:List UInt8} {s:List Pr} {x:Wr} (h:aK6 n f m x=true):aG4 n f m (s,0) x=(s,0):=by
 unfold aG4
 rw[if_neg ZH2,if_pos h]
theorem step_del {n f m:List UInt8} {s:List Pr} {x:Wr} (h:aK6 n f m x=false) (hf:x.flag=true) (hz:(aS2 s x.key).2=0):aG4 n f m (s,0) x=((aS2 s x.key).1,0):=by
 have hN:bH s x=aS2 s x.key:=by
  unfold bH
  rw[if_pos hf]
 unfold aG4
 rw[if_neg ZH2,if_neg (by simp[h])]
 dsimp only
 rw[hN,if_neg (by simpa using hz)]
 exact Prod.ext rfl hz
theorem cE3 {s:List Pr} {x:Wr} (hf:x.flag=false):bH s x=aK0 s (x.key,x.value):=by
 unfold bH
 rw[if_neg (by simp[hf])]
theorem step_put {n f m:List UInt8} {s:List Pr} {x:Wr} (h:aK6 n f m x=false) (hf:x.flag=false) (hz:(aK0 s (x.key,x.value)).2=0):aG4 n f m (s,0) x=((aK0 s (x.key,x.value)).1,0):=by
 unfold aG4
 rw[if_neg ZH2,if_neg (by simp[h])]
 dsimp only
 rw[cE3 hf,if_neg (by simpa using hz)]
 exact Prod.ext rfl hz
theorem step_bad {n f m:List UInt8} {s:List Pr} {x:Wr} (h:aK6 n f m x=false) (hf:x.flag=false) (hz:(aK0 s (x.key,x.value)).2≠0):aG4 n f m (s,0) x=([],(aK0 s (x.key,x.value)).2):=by
 unfold aG4
 rw[if_neg ZH2,if_neg (by simp[h])]
 dsimp only
 rw[cE3 hf,if_pos hz]
theorem bK5 {t:Tx} (h:aN t=0) {i:Nat} (hi:i<t.writes.length):aH t.writes[i]=0:=by
 unfold aN at h
 split at h
 ·cases h
 ·split at h
  ·cases h
  ·split at h
   ·rename_i h';exact absurd h h'
   ·have hz:=aI0 _ _ h i hi
    rw[Nat.zero_add,aW4 _ _ hi] at hz
    unfold bV6 at hz
    by_cases hf:aH t.writes[i]=0
    ·exact hf
    ·rw[if_pos hf] at hz;exact hz
theorem cE4 {x:Wr} (h:aH x=0) (hf:x.flag=true):aE x.key=0:=by
 unfold aH at h
 by_cases hn:aI x.name=0
 ·rw[if_neg (by simpa using hn),if_pos hf] at h
  by_cases hk:aE x.key=0
  ·exact hk
  ·rw[if_pos hk] at h;exact absurd h hk
 ·rw[if_pos hn] at h;exact absurd h hn
theorem cK8 {l:List Tn} {n f m:List UInt8} (h:(aA8 l n f m).2=0):aG (aA8 l n f m).1=0:=by
 unfold aA8 at h ⊢
 split
 ·rename_i h1;rw[if_pos h1] at h;exact absurd h h1
 ·rename_i h1
  rw[if_neg h1] at h
  unfold aM9 at h ⊢
  split
  ·rename_i h2;rw[if_pos h2] at h;exact absurd h h2
  ·rename_i h2
   have h3:aG (aJ l n)=0:=by
    have h2':aI9 (aJ l n) f m=0:=by simpa using h2
    unfold aI9 at h2'
    split at h2'
    ·rename_i h4;exact absurd h2' h4
    ·rename_i h4;simpa using h4
   obtain⟨g1,g2,g3⟩:=(aE0 _).1 h3
   refine (aE0 _).2 ⟨Nat.le_trans (List.length_filter_le _ _) g1,fun p hp=>g2 p (List.mem_filter.1 hp).1,aY3 g3 _⟩
theorem scan_ok (w:World) (L:Option Addr) (l:List Tn) (c:Nat) (A B:Option Addr) (t:Tx) (n m:Nat) (N:Option Addr) (nm:List UInt8) (nc:Nat) (F:Option Addr) (fr:List UInt8) (fc:Nat) (M:Option Addr) (to:List UInt8) (mc:Nat) (hl:Ts All w L l) (ha:Ws All w A t.reads) (hb:Ws All w B t.writes) (hn:Bs All w N nm) (hf:Bs All w F fr) (hm:Bs All w M to) (hcn:t.reads.length≤n) (hcm:t.writes.length≤m) :
  Calls Tryz.prog 119 #[.slice L l.length c,.agg #[.int .i64 t.start,.slice A t.reads.length n,.slice B t.writes.length m],.slice N nm.length nc,.slice F fr.length fc,.slice M to.length mc] w (cD0 w (aU6 l t nm fr to)):=by
 have Hl:=zh hl
 have Ha:=zh ha
 have Hb:=zh hb
 have Hn:=zh hn
 have Hf:=zh hf
 have Hm:=zh hm
 clear hl ha hb hn hf hm
 have Hbl:=zh (show Below w.heap.size w (w.alloc (.cells #[.int .i64 t.start,.slice A t.reads.length n,.slice B t.writes.length m] 110)) from (Below.refl _ _).alloc zn _)
 have Hx:=zh (aK w #[.int .i64 t.start,.slice A t.reads.length n,.slice B t.writes.length m] 110)
 by_cases g1:aM0 l t=0
 ·have b1':(aM0 l t != 0)=false:=by simp[g1]
  by_cases g2:(aA8 l nm fr to).2=0
  ·have b2':((0:Int) != 0)=false:=by decide
   have Hg1:=zh g1
   have Hrz:=zh g2
   have Hwf:=zh (fun (i:Nat) (hi:i<t.writes.length)=>bK5 (aU5 g1).2 hi)
   have hw10:=(bO1 (aU5 g1).2).2
   clear g1 g2
   go_enter Tryz.func119,Tryz.ntmps119
   go_wp2_with (first
    | (go_at_call 131;refine (bA6 _ L l c A B t n m (Hl.out.below tenR_stays Hbl.out) (Ha.out.below wrR_stays Hbl.out) (Hb.out.below wrR_stays Hbl.out) hcn hcm).mono ?_;rintro e w1 ⟨rfl,hb1⟩;have hs1:w.heap.size<w1.heap.size:=ZD8;have Hx1:=zh ((hb1.block w.heap.size ZH2).trans Hx.out);have Hw1:=zh (Hbl.out.next hb1 ZH2);obtain⟨x0,x1,x2,_⟩:=aY Hx1.out;clear hb1)
    | (go_at_call 25;refine (aY2 _ L l c N nm nc F fr fc M to mc (Hl.out.below tenR_stays Hw1.out) (Hn.out.bbelow Hw1.out) (Hf.out.bbelow Hw1.out) (Hm.out.bbelow Hw1.out)).mono ?_;rintro e w2 ⟨R,rc,rfl,hrc,gs2,hb2⟩;rw[Hrz.out];have hs2:=hb2.size;have Hx2:=zh ((hb2.block w.heap.size AO).trans Hx1.out);have Hw2:=zh (Hw1.out.next hb2 AO);have Gs2:=zh gs2;clear gs2 hb2 x0 x1 x2;obtain⟨x0,x1,x2,_⟩:=aY Hx2.out))
   clear b1' b2' x0 x1 x2
   go_loopw [13,38] (fun v i wr=>∃ (k:Nat) (s:List Pr) (O:Option Addr) (co:Nat),k≤t.writes.length∧i=.int .i64 k∧aI5 nm fr to (aA8 l nm fr to) (t.writes.take k)=(s,0)∧aG s=0∧v=.slice O s.length co∧s.length≤co∧Ps (aB w.heap.size) wr O s∧Below w2.heap.size w2 wr) (fun _ i _=>t.writes.length - (intOf i).toNat)
   case atStart=>exact⟨0,(aA8 l nm fr to).1,R,rc,AO,rfl,Prod.ext rfl Hrz.out,cK8 Hrz.out,rfl,hrc,Gs2.out.lo pairR_stays AO,Below.refl _ _⟩
   case round =>
    obtain⟨k,s,O,co,hk,rfl,hcur,hsf,rfl,hco,ho,hbel⟩:=hrel
    have Hcur:=zh hcur
    have Hsf:=zh hsf
    have HO:=zh ho
    have Hbel:=zh hbel
    have hbz:=hbel.size
    have Hbwr:=zh (Hw2.out.next hbel AO)
    obtain⟨x0,x1,x2,_⟩:=aY ((hbel.block _ AO).trans Hx2.out)
    clear hcur hsf ho hbel
    by_cases hlt:k<t.writes.length
    ·obtain⟨g,off,A1,a1,B1,b1,C1,c1,hX,_,hal,hc1,hc2,hc3,hc4,hs1,hs2,hs3,_,_,_⟩:=aF4 (Hb.out.below wrR_stays Hbwr.out) hlt
     subst hX
     have Hnext:=zh (bJ3 (n:=nm) (f:=fr) (m:=to) (s:=aA8 l nm fr to) hlt)
     have Herr:=zh (fun e h he=>scan_err (n:=nm) (f:=fr) (m:=to) (s:=aA8 l nm fr to) (e:=e) hlt h he)
     have Hfx:=zh (Hwf.out k hlt)
     generalize t.writes[k]=x at *
     have Hs1:=zh hs1.bz
     have Hs2:=zh hs2.bz
     have Hs3:=zh hs3.bz
     have Hbx:=zh (show Below wr.heap.size wr (wr.alloc (.cells #[.slice A1 x.name.length a1,.slice B1 x.key.length b1,.bool x.flag,.slice C1 x.value.length c1] 114)) from (Below.refl _ _).alloc zn _)
     clear hs1 hs2 hs3
     rcases Bool.eq_false_or_eq_true (x.name==nm) with d1|d1
     ·rcases Bool.eq_false_or_eq_true (lt x.key fr) with d2|d2
      ·have Hst:=zh (show aI5 nm fr to (aA8 l nm fr to) (t.writes.take (k+1))=(s,0) by rw[Hnext.out,Hcur.out];exact bH2 (by simp[aK6,d1,d2]))
       have e2:decide (aI4 x.key fr<0)=true:=by have:=aX8 d2;rw[decide_eq_true_eq];omega
       go_wp2_with (first
           | (go_at_call_of 55 A1;(with_reducible refine (aA0 _ A1 N x.name nm a1 nc ?hx ?hy).mono ?_);(case hx=>exact Hs1.out.bbelow Hbx.out);(case hy=>exact (Hn.out.bbelow Hbwr.out).bbelow Hbx.out);rintro e w5 ⟨rfl,rfl⟩)
           | (go_at_call_of 59 B1;(with_reducible refine (aA1 _ B1 F x.key fr b1 fc ?hx ?hy).mono ?_);(case hx=>exact Hs2.out.bbelow Hbx.out);(case hy=>exact (Hf.out.bbelow Hbwr.out).bbelow Hbx.out);rintro e w5 ⟨rfl,rfl⟩)
           | (go_at_call_of 59 B1;(with_reducible refine (aA1 _ B1 M x.key to b1 mc ?hx ?hy).mono ?_);(case hx=>exact Hs2.out.bbelow Hbx.out);(case hy=>exact (Hm.out.bbelow Hbwr.out).bbelow Hbx.out);rintro e w5 ⟨rfl,rfl⟩))
       go_roundw
       case rel=>exact ZC2
       case measure=>simp[intOf];omega
      ·have e2:decide (aI4 x.key fr<0)=false:=by have:=aO5 d2;rw[decide_eq_false_iff_not];omega
       rcases Bool.eq_false_or_eq_true (lt to x.key) with d3|d3
       ·have Hst:=zh (show aI5 nm fr to (aA8 l nm fr to) (t.writes.take (k+1))=(s,0) by rw[Hnext.out,Hcur.out];exact bH2 (by simp[aK6,d1,d2,d3]))
        have e3:decide (0<aI4 x.key to)=true:=by have:=cE1 d3;rw[decide_eq_true_eq];omega
        go_wp2_with (first
           | (go_at_call_of 55 A1;(with_reducible refine (aA0 _ A1 N x.name nm a1 nc ?hx ?hy).mono ?_);(case hx=>exact Hs1.out.bbelow Hbx.out);(case hy=>exact (Hn.out.bbelow Hbwr.out).bbelow Hbx.out);rintro e w5 ⟨rfl,rfl⟩)
           | (go_at_call_of 59 B1;(with_reducible refine (aA1 _ B1 F x.key fr b1 fc ?hx ?hy).mono ?_);(case hx=>exact Hs2.out.bbelow Hbx.out);(case hy=>exact (Hf.out.bbelow Hbwr.out).bbelow Hbx.out);rintro e w5 ⟨rfl,rfl⟩)
           | (go_at_call_of 59 B1;(with_reducible refine (aA1 _ B1 M x.key to b1 mc ?hx ?hy).mono ?_);(case hx=>exact Hs2.out.bbelow Hbx.out);(case hy=>exact (Hm.out.bbelow Hbwr.out).bbelow Hbx.out);rintro e w5 ⟨rfl,rfl⟩))
        go_roundw
        case rel=>exact ZC2
        case measure=>simp[intOf];omega
       ·have e3:decide (0<aI4 x.key to)=false:=by have:=bJ0 d3;rw[decide_eq_false_iff_not];omega
        have Hsk:=zh (show aK6 nm fr to x=false by simp[aK6,d1,d2,d3])
        rcases Bool.eq_false_or_eq_true x.flag with hfl|hfl
        ·have Hdz:=zh (show (aS2 s x.key).2=0 by rw[bN4 Hsf.out];exact cE4 Hfx.out hfl)
         have Hst:=zh (show aI5 nm fr to (aA8 l nm fr to) (t.writes.take (k+1))=((aS2 s x.key).1,0) by rw[Hnext.out,Hcur.out];exact step_del Hsk.out hfl Hdz.out)
         have d5:((0:Int) != 0)=false:=by decide
         rw[hfl] at hc3 Hbx
         go_wp2_with (first
           | (go_at_call_of 55 A1;(with_reducible refine (aA0 _ A1 N x.name nm a1 nc ?hx ?hy).mono ?_);(case hx=>exact Hs1.out.bbelow Hbx.out);(case hy=>exact (Hn.out.bbelow Hbwr.out).bbelow Hbx.out);rintro e w5 ⟨rfl,rfl⟩)
           | (go_at_call_of 59 B1;(with_reducible refine (aA1 _ B1 F x.key fr b1 fc ?hx ?hy).mono ?_);(case hx=>exact Hs2.out.bbelow Hbx.out);(case hy=>exact (Hf.out.bbelow Hbwr.out).bbelow Hbx.out);rintro e w5 ⟨rfl,rfl⟩)
           | (go_at_call_of 59 B1;(with_reducible refine (aA1 _ B1 M x.key to b1 mc ?hx ?hy).mono ?_);(case hx=>exact Hs2.out.bbelow Hbx.out);(case hy=>exact (Hm.out.bbelow Hbwr.out).bbelow Hbx.out);rintro e w5 ⟨rfl,rfl⟩)
           | (go_at_call 87;refine (aD5 _ O s co B1 x.key b1 ((HO.out.z pairR_stays).below pairR_stays Hbx.out) (Hs2.out.bbelow Hbx.out)).mono ?_;rintro e w6 ⟨O6,c6,rfl,hc6,gs6,hb6⟩;rw[Hdz.out]))
         go_roundw
         case rel=>exact⟨k+1,_,O6,c6,AO,by go_num,Hst.out,bV4 Hdz.out,rfl,hc6,gs6.lo pairR_stays ZC8,(Hbel.out.next Hbx.out hbz).next hb6 ZC8⟩
         case measure=>simp[intOf];omega
        ·rw[hfl] at hc3 Hbx
         by_cases hz:(aK0 s (x.key,x.value)).2=0
         ·have d5:((aK0 s (x.key,x.value)).2 != 0)=false:=by simp[hz]
          have Hst:=zh (show aI5 nm fr to (aA8 l nm fr to) (t.writes.take (k+1))=((aK0 s (x.key,x.value)).1,0) by rw[Hnext.out,Hcur.out];exact step_put Hsk.out hfl hz)
          have Hpf:=zh (bV3 hz).1
          clear hz
          go_wp2_with (first
           | (go_at_call_of 55 A1;(with_reducible refine (aA0 _ A1 N x.name nm a1 nc ?hx ?hy).mono ?_);(case hx=>exact Hs1.out.bbelow Hbx.out);(case hy=>exact (Hn.out.bbelow Hbwr.out).bbelow Hbx.out);rintro e w5 ⟨rfl,rfl⟩)
           | (go_at_call_of 59 B1;(with_reducible refine (aA1 _ B1 F x.key fr b1 fc ?hx ?hy).mono ?_);(case hx=>exact Hs2.out.bbelow Hbx.out);(case hy=>exact (Hf.out.bbelow Hbwr.out).bbelow Hbx.out);rintro e w5 ⟨rfl,rfl⟩)
           | (go_at_call_of 59 B1;(with_reducible refine (aA1 _ B1 M x.key to b1 mc ?hx ?hy).mono ?_);(case hx=>exact Hs2.out.bbelow Hbx.out);(case hy=>exact (Hm.out.bbelow Hbwr.out).bbelow Hbx.out);rintro e w5 ⟨rfl,rfl⟩)
           | (go_at_call 88;refine (aH4 _ O s co B1 C1 (x.key,x.value) b1 c1 ((HO.out.z pairR_stays).below pairR_stays Hbx.out) (Hs2.out.bbelow Hbx.out) (Hs3.out.bbelow Hbx.out)).mono ?_;rintro e w6 ⟨O6,c6,rfl,hc6,gs6,hb6⟩))
          go_roundw
          case rel=>exact⟨k+1,_,O6,c6,AO,by go_num,Hst.out,Hpf.out,rfl,hc6,gs6.lo pairR_stays ZC8,(Hbel.out.next Hbx.out hbz).next hb6 ZC8⟩
          case measure=>simp[intOf];omega
         ·have d5:((aK0 s (x.key,x.value)).2 != 0)=true:=by simpa using hz
          have Hv:=zh (show aU6 l t nm fr to=([],(aK0 s (x.key,x.value)).2) by unfold aU6;rw[if_neg (by rw[Hg1.out];decide),if_neg (by rw[Hrz.out];decide)];exact Herr.out _ (by rw[Hcur.out];exact step_bad Hsk.out hfl hz) hz)
          clear hz
          go_wp2_with (first
           | (go_at_call_of 55 A1;(with_reducible refine (aA0 _ A1 N x.name nm a1 nc ?hx ?hy).mono ?_);(case hx=>exact Hs1.out.bbelow Hbx.out);(case hy=>exact (Hn.out.bbelow Hbwr.out).bbelow Hbx.out);rintro e w5 ⟨rfl,rfl⟩)
           | (go_at_call_of 59 B1;(with_reducible refine (aA1 _ B1 F x.key fr b1 fc ?hx ?hy).mono ?_);(case hx=>exact Hs2.out.bbelow Hbx.out);(case hy=>exact (Hf.out.bbelow Hbwr.out).bbelow Hbx.out);rintro e w5 ⟨rfl,rfl⟩)
           | (go_at_call_of 59 B1;(with_reducible refine (aA1 _ B1 M x.key to b1 mc ?hx ?hy).mono ?_);(case hx=>exact Hs2.out.bbelow Hbx.out);(case hy=>exact (Hm.out.bbelow Hbwr.out).bbelow Hbx.out);rintro e w5 ⟨rfl,rfl⟩)
           | (go_at_call 88;refine (aH4 _ O s co B1 C1 (x.key,x.value) b1 c1 ((HO.out.z pairR_stays).below pairR_stays Hbx.out) (Hs2.out.bbelow Hbx.out) (Hs3.out.bbelow Hbx.out)).mono ?_;rintro e w6 ⟨O6,c6,rfl,hc6,gs6,hb6⟩))
          go_ret2
          rw[Hv.out]
          exact⟨none,0,rfl,zn,SL.nil,(Hbwr.out.next Hbx.out AO).next hb6 ZC8⟩
     ·have Hst:=zh (show aI5 nm fr to (aA8 l nm fr to) (t.writes.take (k+1))=(s,0) by rw[Hnext.out,Hcur.out];exact bH2 (by simp[aK6,d1]))
      go_wp2_with (first
           | (go_at_call_of 55 A1;(with_reducible refine (aA0 _ A1 N x.name nm a1 nc ?hx ?hy).mono ?_);(case hx=>exact Hs1.out.bbelow Hbx.out);(case hy=>exact (Hn.out.bbelow Hbwr.out).bbelow Hbx.out);rintro e w5 ⟨rfl,rfl⟩)
           | (go_at_call_of 59 B1;(with_reducible refine (aA1 _ B1 F x.key fr b1 fc ?hx ?hy).mono ?_);(case hx=>exact Hs2.out.bbelow Hbx.out);(case hy=>exact (Hf.out.bbelow Hbwr.out).bbelow Hbx.out);rintro e w5 ⟨rfl,rfl⟩)
           | (go_at_call_of 59 B1;(with_reducible refine (aA1 _ B1 M x.key to b1 mc ?hx ?hy).mono ?_);(case hx=>exact Hs2.out.bbelow Hbx.out);(case hy=>exact (Hm.out.bbelow Hbwr.out).bbelow Hbx.out);rintro e w5 ⟨rfl,rfl⟩))
      go_roundw
      case rel=>exact ZC2
      case measure=>simp[intOf];omega
    ·obtain rfl:k=t.writes.length:=by omega
     have hfi:=Hcur.out
     rw[List.take_length] at hfi
     have Hv:=zh (show aU6 l t nm fr to=(s,0) by unfold aU6;rw[if_neg (by rw[Hg1.out];decide),if_neg (by rw[Hrz.out];decide)];exact hfi)
     clear hfi
     go_wp2
     go_ret2
     rw[Hv.out]
     exact⟨O,co,rfl,hco,HO.out,Hbwr.out⟩
  ·have b2':((aA8 l nm fr to).2 != 0)=true:=by simpa using g2
   have Hv:=zh (show aU6 l t nm fr to=([],(aA8 l nm fr to).2) by
    unfold aU6;rw[if_neg (by simpa using g1),if_pos g2])
   clear g1 g2
   go_enter Tryz.func119,Tryz.ntmps119
   go_wp2_with (first
    | (go_at_call 131;refine (bA6 _ L l c A B t n m (Hl.out.below tenR_stays Hbl.out) (Ha.out.below wrR_stays Hbl.out) (Hb.out.below wrR_stays Hbl.out) hcn hcm).mono ?_;rintro e w1 ⟨rfl,hb1⟩;have hs1:w.heap.size<w1.heap.size:=ZD8;have Hx1:=zh ((hb1.block w.heap.size ZH2).trans Hx.out);have Hw1:=zh (Hbl.out.next hb1 ZH2);obtain⟨x0,x1,x2,_⟩:=aY Hx1.out;clear hb1)
    | (go_at_call 25;refine (aY2 _ L l c N nm nc F fr fc M to mc (Hl.out.below tenR_stays Hw1.out) (Hn.out.bbelow Hw1.out) (Hf.out.bbelow Hw1.out) (Hm.out.bbelow Hw1.out)).mono ?_;rintro e w2 ⟨R,rc,rfl,hrc,gs2,hb2⟩;have hs2:=hb2.size;have Hx2:=zh ((hb2.block w.heap.size AO).trans Hx1.out);have Hw2:=zh (Hw1.out.next hb2 AO);have Gs2:=zh gs2;clear gs2 hb2 x0 x1 x2;obtain⟨x0,x1,x2,_⟩:=aY Hx2.out))
   go_ret2
   rw[Hv.out]
   exact⟨none,0,rfl,zn,SL.nil,Hw2.out⟩
 ·have b1':(aM0 l t != 0)=true:=by simpa using g1
  have Hv:=zh (show aU6 l t nm fr to=([],aM0 l t) by
   unfold aU6;rw[if_pos g1])
  clear g1
  go_enter Tryz.func119,Tryz.ntmps119
  go_wp2_with (first
   | (go_at_call 131;refine (bA6 _ L l c A B t n m (Hl.out.below tenR_stays Hbl.out) (Ha.out.below wrR_stays Hbl.out) (Hb.out.below wrR_stays Hbl.out) hcn hcm).mono ?_;rintro e w1 ⟨rfl,hb1⟩;have hs1:w.heap.size<w1.heap.size:=ZD8;have Hx1:=zh ((hb1.block w.heap.size ZH2).trans Hx.out);have Hw1:=zh (Hbl.out.next hb1 ZH2);obtain⟨x0,x1,x2,_⟩:=aY Hx1.out;clear hb1))
  go_ret2
  rw[Hv.out]
  exact⟨none,0,rfl,zn,SL.nil,Hw1.out⟩
end Go.Proofs.YtodopbnhkkkcbaaGreatDoor
