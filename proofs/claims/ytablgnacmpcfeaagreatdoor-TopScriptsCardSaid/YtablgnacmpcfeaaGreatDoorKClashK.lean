/- ClashK: Walks: txn.Clash and Clashes; the law TxnClashes. Walk: txn.Clash; the law TxnClashes. The conditions of each are in its words. -/
import Derived.Test.YtablgnacmpcfeaaGreatDoorKTxnF
namespace Go.Proofs.YtablgnacmpcfeaaGreatDoor
open Go.RowKit
set_option linter.unusedVariables false
set_option linter.unusedSimpArgs false
set_option maxRecDepth 100000
set_option maxHeartbeats 8000000
def hitW (rs:List Wr) (x:Wr):Bool:=rs.any (fun r=>aK4 r x)
def aZ0 (t:Tx) (c:Cm):Bool:=decide (t.start<c.1) && c.2.any (hitW t.reads)
def aZ1 (t:Tx) (l:List Cm):Bool × Int:=if aN t≠0 then (false,aN t) else (l.any (aZ0 t),0)
theorem bV9 {α:Type} {q:α→Bool} {l:List α} {k:Nat} (hk:k<l.length) (h:(l.take k).any q=false) (hq:q l[k]=false):(l.take (k+1)).any q=false:=by
 rw[aC8 l k hk,List.any_append,h]
 simp[hq]
theorem bW0 {α:Type} {q:α→Bool} {l:List α} {k:Nat} (hk:k<l.length) (hq:q l[k]=true):l.any q=true:=List.any_eq_true.2 ⟨_,List.getElem_mem hk,hq⟩
def RetBI (w:World) (r:Bool × Int) (e:Ending) (w':World):Prop:=e=.returned (.tuple #[.bool r.1,.int .i64 r.2])∧Below w.heap.size w w'
theorem clash_ok (w:World) (A B:Option Addr) (t:Tx) (n m:Nat) (C:Option Addr) (l:List Cm) (cc:Nat) (ha:Ws All w A t.reads) (hb:Ws All w B t.writes) (hc:Cs All w C l) (hcn:t.reads.length≤n) (hcm:t.writes.length≤m) (hn:l.length≤big) :
  Calls Tryz.prog 231 #[.agg #[.int .i64 t.start,.slice A t.reads.length n,.slice B t.writes.length m],.slice C l.length cc] w (RetBI w (aZ1 t l)):=by
 have hnn:l.length≤140737488355328:=hn
 have Ha:=zh ha
 have Hb:=zh hb
 have Hc:=zh hc
 clear ha hb hc
 have Hb0:=zh (show Below w.heap.size w (w.alloc (.cells #[.int .i64 t.start,.slice A t.reads.length n,.slice B t.writes.length m] 98)) from (Below.refl _ _).alloc zn _)
 by_cases h1:aN t=0
 ·have b1:(aN t != 0)=false:=by simp[h1]
  have Hv:=zh (show aZ1 t l=(l.any (aZ0 t),0) by unfold aZ1;rw[if_neg ZE3])
  have h20:t.reads.length≤20:=by
   unfold aN at h1
   split at h1
   ·cases h1
   ·split at h1
    ·cases h1
    ·omega
  have hbig:t.reads.length≤big:=by unfold big;omega
  clear h1
  go_enter Tryz.func231,Tryz.ntmps231
  go_wp2_with (go_at_call 63;refine (aD2 _ A B t n m (Ha.out.below wrR_stays Hb0.out) (Hb.out.below wrR_stays Hb0.out) hcn hcm).mono ?_;rintro e w1 ⟨rfl,hb1⟩;have hx1:=(hb1.block w.heap.size ZH2).trans (aK w _ _);have hbw1:=Hb0.out.next hb1 ZH2;have hz1:w.heap.size<w1.heap.size:=ZD8)
  have Hx1:=zh hx1
  have Hbw1:=zh hbw1
  clear hb1 hx1 hbw1 b1
  go_loopw [18] (fun i wr=>∃ k:Nat,k≤l.length∧i=.int .i64 k∧(l.take k).any (aZ0 t)=false∧Below w1.heap.size w1 wr) (fun i _=>l.length - (intOf i).toNat)
  case atStart=>exact⟨0,AO,rfl,rfl,Below.refl _ _⟩
  case round =>
   obtain⟨k,hk,rfl,hno,hbel⟩:=hrel
   have Hbel:=zh hbel
   have hbz:=hbel.size
   have Hno:=zh hno
   have Hbw:=zh (Hbw1.out.next hbel AO)
   clear hbel hno
   by_cases hlt:k<l.length
   ·obtain⟨g,off,D,dn,rfl,_,hal,hc1,hc2,hs,h80⟩:=cms_at (Hc.out.below cmR_stays Hbw.out) hlt
    have Hnext:=zh (fun h=>bV9 (q:=aZ0 t) hlt Hno.out h)
    have Hhere:=zh (fun h=>bW0 (q:=aZ0 t) hlt h)
    have Hcl:=zh (show aZ0 t l[k]=(decide (t.start<l[k].1) && l[k].2.any (hitW t.reads)) from rfl)
    have Hs:=zh (hs.z wrR_stays)
    generalize hcg:aZ0 t l[k]=cg at *
    generalize l[k]=c at *
    obtain⟨ct,cw⟩:=c
    dsimp only at *
    clear hs hcg
    obtain⟨q0,q1,q2,_⟩:=aY ((Hbel.out.block _ hz1).trans Hx1.out)
    have hzw:w.heap.size<wr.heap.size:=by omega
    by_cases hd:t.start<ct
    ·have d1:decide (ct≤t.start)=false:=by rw[decide_eq_false_iff_not];omega
     have Hcl2:=zh (show cg=cw.any (hitW t.reads) by rw[Hcl.out];simp[hd])
     have Hbc:=zh (show Below wr.heap.size wr (wr.alloc (.cells #[.int .i64 ct,.slice D cw.length dn] 177)) from (Below.refl _ _).alloc zn _)
     have hzc:(wr.alloc (.cells #[.int .i64 ct,.slice D cw.length dn] 177)).heap.size=wr.heap.size+1:=by simp
     have Hzc:=zh hzc
     clear hd hzc
     go_wp2
     clear q0 q1 q2 hc1 hc2 d1
     obtain⟨wa,rfl⟩:∃ wa:World,wa=wr:=⟨_,rfl⟩
     generalize wa.alloc (.cells #[.int .i64 ct,.slice D cw.length dn] 177)=wc at *
     go_loopw [30] (fun i wr=>∃ j:Nat,j≤cw.length∧i=.int .i64 j∧(cw.take j).any (hitW t.reads)=false∧Below wc.heap.size wc wr) (fun i _=>cw.length - (intOf i).toNat)
     case atStart=>exact⟨0,AO,rfl,rfl,Below.refl _ _⟩
     case round =>
      obtain⟨j,hj,rfl,hno2,hbel2⟩:=hrel
      have Hbel2:=zh hbel2
      have hbz2:=hbel2.size
      have Hno2:=zh hno2
      have hzc:=Hzc.out
      have Hba:=zh (Hbc.out.next hbel2 AO)
      have Hbr:=zh (Hbw.out.next Hba.out AO)
      obtain⟨q0,q1,q2,_⟩:=aY (((Hbel.out.next Hba.out AO).block _ hz1).trans Hx1.out)
      clear hbel2 hno2
      by_cases hlt2:j<cw.length
      ·obtain⟨g2,off2,A2,a2,B2,b2,C2,c2,hX2,_,hal2,hd1,hd2,hd3,hd4,ht1,ht2,ht3,_,_,_⟩:=aF4 (Hs.out.below wrR_stays Hba.out) hlt2
       subst hX2
       have Hnext2:=zh (fun h=>bV9 (q:=hitW t.reads) hlt2 Hno2.out h)
       have Hhere2:=zh (fun h=>bW0 (q:=hitW t.reads) hlt2 h)
       have Hw:=zh (show hitW t.reads cw[j]=t.reads.any (fun r=>aK4 r cw[j]) from rfl)
       generalize hwg:hitW t.reads cw[j]=wg at *
       generalize cw[j]=x at *
       have Ht1:=zh ht1.bz
       have Ht2:=zh ht2.bz
       have Ht3:=zh ht3.bz
       have hzr:w.heap.size<wr.heap.size:=by omega
       have Hbx:=zh (show Below wr.heap.size wr (wr.alloc (.cells #[.slice A2 x.name.length a2,.slice B2 x.key.length b2,.bool x.flag,.slice C2 x.value.length c2] 102)) from (Below.refl _ _).alloc zn _)
       clear hwg ht1 ht2 ht3
       cases wg with
       | true =>
        have Hany:=zh (show l.any (aZ0 t)=true from Hhere.out (by rw[Hcl2.out];exact Hhere2.out rfl))
        go_wp2_with (go_at_call 109;refine (cE2 _ A t.reads n wr.heap.size A2 B2 C2 x a2 b2 c2 ((Ha.out.below wrR_stays Hbr.out).below wrR_stays Hbx.out) hbig (Ht1.out.bbelow Hbx.out) (Ht2.out.bbelow Hbx.out) (Ht3.out.bbelow Hbx.out) (aK wr _ _)).mono ?_;rintro e w2 ⟨rfl,hb2⟩;rw[← Hw.out])
        go_ret2
        rw[Hv.out,Hany.out]
        exact⟨rfl,(Hbr.out.next Hbx.out AO).next hb2 ZC8⟩
       | false =>
        have Hn2:=zh (Hnext2.out rfl)
        go_wp2_with (go_at_call 109;refine (cE2 _ A t.reads n wr.heap.size A2 B2 C2 x a2 b2 c2 ((Ha.out.below wrR_stays Hbr.out).below wrR_stays Hbx.out) hbig (Ht1.out.bbelow Hbx.out) (Ht2.out.bbelow Hbx.out) (Ht3.out.bbelow Hbx.out) (aK wr _ _)).mono ?_;rintro e w2 ⟨rfl,hb2⟩;rw[← Hw.out])
        go_roundw
        case rel=>exact⟨j+1,AO,by go_num,Hn2.out,(Hbel2.out.next Hbx.out AO).next hb2 ZC8⟩
        case measure=>simp[intOf];omega
      ·obtain rfl:j=cw.length:=by omega
       have h2:=Hno2.out
       rw[List.take_length] at h2
       have Hn1:=zh (Hnext.out (by rw[Hcl2.out];exact h2))
       clear h2
       go_wp2
       go_roundw
       case rel=>exact⟨k+1,AO,by go_num,Hn1.out,Hbel.out.next Hba.out AO⟩
       case measure=>simp[intOf];omega
    ·have d1:decide (ct≤t.start)=true:=by rw[decide_eq_true_eq];omega
     have Hn1:=zh (Hnext.out (by rw[Hcl.out];simp[hd]))
     clear hd
     go_wp2
     go_roundw
     case rel=>exact⟨k+1,AO,by go_num,Hn1.out,Hbel.out.alloc AO _⟩
     case measure=>simp[intOf];omega
   ·obtain rfl:k=l.length:=by omega
    have h:=Hno.out
    rw[List.take_length] at h
    have Hf:=zh h
    clear h
    go_wp2
    go_ret2
    rw[Hv.out,Hf.out]
    exact⟨rfl,Hbw.out⟩
 ·have b1:(aN t != 0)=true:=by simpa using h1
  have Hv:=zh (show aZ1 t l=(false,aN t) by unfold aZ1;rw[if_pos h1])
  clear h1
  go_enter Tryz.func231,Tryz.ntmps231
  go_wp2_with (go_at_call 63;refine (aD2 _ A B t n m (Ha.out.below wrR_stays Hb0.out) (Hb.out.below wrR_stays Hb0.out) hcn hcm).mono ?_;rintro e w1 ⟨rfl,hb1⟩;have hbw1:=Hb0.out.next hb1 ZH2)
  go_ret2
  rw[Hv.out]
  exact⟨rfl,hbw1⟩
end Go.Proofs.YtablgnacmpcfeaaGreatDoor
