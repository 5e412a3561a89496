/- DigP: Walks: digest.Sum, DigestOf; the law DigestSums. Walks: digest.Parts, PartsOf. The conditions of each are in its words. -/
import Derived.Test.YtodopbnhkkkcbaaGreatDoorKSum
import Derived.Test.YtodopbnhkkkcbaaGreatDoorKDigD
import Derived.Test.YtodopbnhkkkcbaaGreatDoorKBase
namespace Go.Proofs.YtodopbnhkkkcbaaGreatDoor
open Go.RowKit
set_option linter.unusedVariables false
set_option linter.unusedSimpArgs false
set_option maxRecDepth 100000
set_option maxHeartbeats 8000000
def bD2 (w:World) (r:List UInt8 × Int) (e:Ending) (w':World):Prop :=
 ∃ B d,e=.returned (.tuple #[.slice B r.1.length d,.int .i64 r.2])∧Bs (aB w.heap.size) w' B r.1∧Below w.heap.size w w'
def BlR (S:Nat→Prop) (w:World) (cs:List Value) (b:List UInt8):Prop:=∃ A c,cs=[.slice A b.length c]∧Bs S w A b∧b.length≤big
theorem blR_stays:bI BlR :=
 ⟨fun _ _ _ _ _ hb ⟨A,c,h0,h1,h2⟩=>⟨A,c,h0,h1.bsame hb,h2⟩,fun _ _ _ _ _ hb ⟨A,c,h0,h1,h2⟩=>⟨A,c,h0,h1.bless hb,h2⟩⟩
abbrev Bls (S:Nat→Prop) (w:World) (A:Option Addr) (l:List (List UInt8)):Prop:=SL 1 BlR S w A l
theorem bls_at {S:Nat→Prop} {w:World} {A:Option Addr} {l:List (List UInt8)} (h:Bls S w A l) {k:Nat} (hk:k<l.length) :
  ∃ b off K c,A=some ⟨b,off,none⟩∧S b∧b<w.heap.size∧w.cell? ⟨b,off+k,none⟩=some (.slice K l[k].length c)∧Bs S w K l[k]∧l[k].length≤big:=by
 obtain⟨b,off,cs,e,h0,hlt,h1,h2,A',c,rfl,h3,h4⟩:=h.at hk
 exact⟨b,off,A',c,e,h0,hlt,by simpa using h2 0 AO,h3,h4⟩
def hdr2 (p:List UInt8):List UInt8:=[UInt8.ofNat (p.length / 256),UInt8.ofNat p.length]
def aL3 (b:List UInt8):List (List UInt8)→Option (List UInt8)
 | []=>some b
 | p :: r=>if p.length≤4000∧b.length+2+p.length≤4000 then aL3 (b++hdr2 p++p) r else none
def aW7 (k:UInt8) (l:List (List UInt8)):List UInt8 × Int:=match aL3 [k] l with
 | none=>([],1)
 | some b=>(aL2 b,0)
theorem bP3 {b p:List UInt8} {r:List (List UInt8)} (h:¬ (p.length≤4000∧b.length+2+p.length≤4000)):aL3 b (p :: r)=none:=by rw[aL3,if_neg h]
theorem bW8 {b p:List UInt8} {r:List (List UInt8)} (h:p.length≤4000∧b.length+2+p.length≤4000):aL3 b (p :: r)=aL3 (b++hdr2 p++p) r:=by rw[aL3,if_pos h]
theorem bP4 {k:UInt8} {l:List (List UInt8)} (h:aL3 [k] l=none):aW7 k l=([],1):=by unfold aW7;rw[h]
theorem bP5 {k:UInt8} {l:List (List UInt8)} {b:List UInt8} (h:aL3 [k] l=some b):aW7 k l=(aL2 b,0):=by unfold aW7;rw[h]
theorem bP6 (w:World) (hT:bD w) (kb:UInt8) (A:Option Addr) (l:List (List UInt8)) (c:Nat) (ha:Bls All w A l) (hn:l.length*24≤140737488355328) :
  Calls Tryz.prog 57 #[.int .u8 (kb.toNat:Int),.slice A l.length c] w (bD2 w (aW7 kb l)):=by
 obtain⟨i0,hi0,hz0,hz1,hz2⟩:=info_parts info_u8
 have HT:=zh hT
 have Ha:=zh (SL.low blR_stays ha (Nat.le_refl w.heap.size))
 clear hT ha
 go_enter Tryz.func57,Tryz.ntmps57
 go_wp2
 have Hr0:=zh (show (w.alloc (.cells #[.int .u8 (kb.toNat:Int)] 5)).ownsRow w.heap.size 5 1 (.slice (some ⟨w.heap.size,0,none⟩) 1 1) [kb].length ([kb].map bv) from World.ownsRow_lit w #[.int .u8 (kb.toNat:Int)] 1 zn ZD2 rfl)
 go_loopw [6,8,13] (fun v _ i wr=>∃ (k:Nat) (bk:List UInt8),k≤l.length∧i=.int .i64 k∧wr.ownsRow w.heap.size 5 1 v bk.length (bk.map bv)∧aL3 bk (l.drop k)=aL3 [kb] l∧bk.length≤4000∧Below w.heap.size w wr) (fun _ _ i _=>l.length - (intOf i).toNat)
 case atStart=>exact⟨0,[kb],AO,rfl,Hr0.out,by rw[List.drop_zero],by simp,(Below.refl _ _).alloc zn _⟩
 case round =>
  clear Hr0
  obtain⟨k,bk,hk,rfl,hown,hpt,hbk,hbel⟩:=hrel
  obtain⟨A1,cap1,rfl⟩:=aQ7 hown
  have Hown:=zh hown
  have Hbel:=zh hbel
  have Hpt:=zh hpt
  clear hown hbel hpt
  by_cases hlt:k<l.length
  ·have hki:(k:Int)<(l.length:Int):=by omega
   have mk:IntKind.i64.wrap ((k:Int)+1)=(k:Int)+1:=IntWalk.i64_in _ AO
   obtain⟨ab,ao,K,cp,rfl,_,hal,hcell,hs,hpb⟩:=bls_at (Ha.out.same blR_stays (aC.of_low Hbel.out)) hlt
   have Hs:=zh hs
   have Hdr:=zh (List.drop_eq_getElem_cons hlt)
   generalize l[k]=p at *
   have Hp2:=zh (show aL3 bk (p :: l.drop (k+1))=aL3 [kb] l by rw[← Hdr.out];exact Hpt.out)
   clear hs Hdr Hpt
   by_cases h1:4000<p.length
   ·have Hv:=zh (bP4 (Hp2.out.symm.trans (bP3 AO)))
    have z1:(4000:Int)<(p.length:Int):=by omega
    go_wp2
    go_ret2
    rw[Hv.out]
    exact⟨none,0,rfl,SL.nil,Hbel.out⟩
   ·have z1:¬ (4000:Int)<(p.length:Int):=by omega
    have m1:IntKind.i64.wrap ((bk.length:Int)+2)=(bk.length:Int)+2:=IntWalk.i64_in _ AO
    have m2:IntKind.i64.wrap ((bk.length:Int)+2+(p.length:Int))=(bk.length:Int)+2+(p.length:Int):=IntWalk.i64_in _ AO
    by_cases h2:4000<bk.length+2+p.length
    ·have Hv:=zh (bP4 (Hp2.out.symm.trans (bP3 AO)))
     have z2:(4000:Int)<(bk.length:Int)+2+(p.length:Int):=by omega
     go_wp2
     go_ret2
     rw[Hv.out]
     exact⟨none,0,rfl,SL.nil,Hbel.out⟩
    ·have Hnx:=zh (Hp2.out.symm.trans (bW8 AO))
     have z2:¬ (4000:Int)<(bk.length:Int)+2+(p.length:Int):=by omega
     obtain⟨hi,hhi⟩:∃ hi,hi=UInt8.ofNat (p.length / 256):=⟨_,rfl⟩
     obtain⟨lo,hlo⟩:∃ lo,lo=UInt8.ofNat p.length:=⟨_,rfl⟩
     have t1:IntKind.u8.wrap ((p.length:Int) / 256)=(hi.toNat:Int):=by rw[hhi,← wrap_u8];rfl
     have t2:IntKind.u8.wrap (p.length:Int)=(lo.toNat:Int):=by rw[hlo,← wrap_u8]
     have Hl2:=zh (show hdr2 p=[hi,lo] by rw[hhi,hlo];rfl)
     clear hhi hlo
     go_wp2_with (first
      | (at_builtin;refine aC0 _ rfl _ _ _ rfl w.heap.size 5 i0 (.int .u8 0) 1 1 Tryz.underlying27 hi0 hz0 hz1 hz2 rfl ZD9 _ bk.length (bk.map bv) rfl (Hown.out.alloc _) (some ⟨wr.heap.size,0,none⟩) 2 2 [bv hi,bv lo] rfl rfl (fun _=>aE6 _ _ [bv hi,bv lo] _ rfl) ZG3 ZD2 AO (by have:=Hbel.out.size;simp;omega) ?_;intro v1 w1 hown1 hg1 hat1)
      | (at_builtin;refine aC0 _ rfl _ _ _ rfl w.heap.size 5 i0 (.int .u8 0) 1 1 Tryz.underlying27 hi0 hz0 hz1 hz2 rfl ZD9 v1 (bk.length+2) _ rfl hown1 K p.length cp (p.map bv) rfl ZH2 ?hsrc (aI3 p) ZD2 AO ?hbz ?_;(case hsrc=>exact SL.bsrc (S:=Lo w.heap.size) ((Hs.out.bsame (aC.of_low ((Below.refl w.heap.size wr).alloc Hbel.out.size _))).bsame (aC.of_low (aA6 (Hown.out.alloc _) hg1 (by have:=Hbel.out.size;simp;omega)))));(case hbz=>(have e1:=hg1.size;have e2:=Hbel.out.size;simp at e1;omega));intro v2 w2 hown2 hg2 hat2))
     have Hown2:=zh (show w2.ownsRow w.heap.size 5 1 v2 (bk++hdr2 p++p).length ((bk++hdr2 p++p).map bv) by
      rw[Hl2.out]
      have e:(bk++[hi,lo]++p).length=bk.length+2+p.length:=by simp;omega
      rw[e]
      simpa [List.map_append] using hown2)
     have hz1:=hg1.size
     have Hb2:=zh (show Below w.heap.size w w2 from ((Hbel.out.alloc Hbel.out.size _).trans (aA6 (Hown.out.alloc _) hg1 (by have:=Hbel.out.size;simp;omega))).trans (aA6 hown1 hg2 (by have e2:=Hbel.out.size;simp at hz1;omega)))
     have hlb:(bk++hdr2 p++p).length≤4000:=by simp[hdr2];omega
     clear hown1 hg1 hat1 hown2 hg2 hat2 hz1
     go_roundw
     case rel=>exact⟨k+1,bk++hdr2 p++p,AO,by go_num,Hown2.out,Hnx.out.symm,hlb,Hb2.out⟩
     case measure=>simp[intOf];omega
  ·have Hv:=zh (show aW7 kb l=(aL2 bk,0) by have h:=Hpt.out;rw[List.drop_eq_nil_of_le AO] at h;exact bP5 h.symm)
   have hki:¬ (k:Int)<(l.length:Int):=by omega
   have hbs:=SL.bof_own Hown.out
   have hsm:=sum_ok wr A1 bk cap1 hbs.2.bz AO (HT.out.below Hbel.out)
   clear hlt hk Hpt
   go_wp2_with ((go_at_call 82;(with_reducible refine hsm.mono ?_);rintro e w1 ⟨B,d,rfl,hb,hb1⟩))
   go_ret2
   rw[Hv.out]
   exact⟨B,d,rfl,hb.blo Hbel.out.size,Hbel.out.next hb1 Hbel.out.size⟩
end Go.Proofs.YtodopbnhkkkcbaaGreatDoor
