/- TapeB: Walk: tape.Append. The conditions of each are in its words. -/
import Derived.Test.YtablgnacmpcfeaaGreatDoorKSum
import Derived.Test.YtablgnacmpcfeaaGreatDoorKEnc
import Derived.Test.YtablgnacmpcfeaaGreatDoorKRoot
namespace Go.Proofs.YtablgnacmpcfeaaGreatDoor
open Go.RowKit
set_option linter.unusedVariables false
set_option linter.unusedSimpArgs false
set_option maxRecDepth 100000
set_option maxHeartbeats 8000000
def aN2 (b:List UInt8):List UInt8:=aP5 b++(aL2 (aP5 b)).take 4
theorem bB0 (b:List UInt8):(aN2 b).length=b.length+6:=by simp[aN2,aP5,aO2]
theorem cG3 (b:List UInt8):(aP5 b).length=b.length+2:=by simp[aP5]
def aE1 (t:Tp) (c:Cm):Tp × Int :=
 if aR5 t=false then (([],0),6) else if (aM5 c).2≠0 then (([],0),(aM5 c).2) else if 200000<t.1.length+(aN2 (aM5 c).1).length then (([],0),11) else ((t.1++aN2 (aM5 c).1,t.2),0)
def cG4 (w:World) (r:Tp × Int) (e:Ending) (w':World):Prop :=
 ∃ A c,e=.returned (.tuple #[.agg #[.slice A r.1.1.length c,.int .i64 r.1.2],.int .i64 r.2])∧r.1.1.length≤c∧Bs (aB w.heap.size) w' A r.1.1∧Below w.heap.size w w'
theorem bB1 {c:Cm} (h:(aM5 c).2=0):(aM5 c).1.length≤600:=by
 unfold aM5 at h ⊢
 by_cases h1:aA2 c=0
 ·rw[if_neg ZE3]
  have h2:=bH5 h1 c.2.length zn
  have h3:=(bF3 h1).2.1
  simp only[]
  omega
 ·rw[if_pos h1]
  simp
theorem cM3 {w:World} {base:Nat} {e:TypeId} {size:Nat} {v:Value} {n:Nat} {xs:List Value} (h:w.ownsRow base e size v n xs) {k:Nat} (hk:v.ownBlock=some k):base≤k∧k<w.heap.size:=by
 rcases h.2 with ⟨rfl,_⟩|⟨g,cap,cur,rfl,hge,hh,_⟩
 ·cases hk
 ·have e1:g=k:=by simpa [Value.ownBlock] using hk
  subst e1
  exact⟨hge,(Array.getElem?_eq_some_iff.1 hh).1⟩
theorem cU5 {w w':World} {base:Nat} {e:TypeId} {size:Nat} {v:Value} {n:Nat} {xs:List Value} (h:w.ownsRow base e size v n xs) (hk:∀ g,v.ownBlock=some g→base≤g→w'.heap[g]?=w.heap[g]?):w'.ownsRow base e size v n xs:=by
 refine⟨h.1,?_⟩
 rcases h.2 with h0|⟨g,cap,cur,rfl,hge,hh,rest⟩
 ·exact .inl h0
 ·exact .inr ⟨g,cap,cur,rfl,hge,(hk g rfl hge).trans hh,rest⟩
theorem cG5 {w w':World} (h:Below w.heap.size w w') {g i j:Nat} (hg:w.heap.size≤g) {a b:Value}:Below w.heap.size w ((w'.setCell ⟨g,i,none⟩ a).setCell ⟨g,j,none⟩ b) :=
 (h.setCell hg _).setCell hg _
theorem aX0 {S:Nat→Prop} {w:World} {A:Option Addr} {l:List UInt8} (h:Bs S w A l) (n:Nat):Bs S w A (l.take n):=by
 intro hl
 have hln:0<l.length:=by rw[List.length_take] at hl;omega
 obtain⟨b',off',e,h0,hlt,hi⟩:=h hln
 refine⟨b',off',e,h0,hlt,fun j hj=>?_⟩
 have hj':j<l.length:=by rw[List.length_take] at hj;omega
 rw[List.getElem_take]
 exact hi j hj'
theorem aB9 (w:World) (o:Obj) {r:Nat} (h:r<w.heap.size):(w.alloc o).heap[r]?=w.heap[r]?:=by
 show (w.heap.push o)[r]?=_
 rw[Array.getElem?_push_lt h,Array.getElem?_eq_getElem h]
theorem aN3 (w:World) (o:Obj):(w.alloc o).heap[w.heap.size]?=some o:=by
 show (w.heap.push o)[w.heap.size]?=some o
 simp
theorem box3_new (w:World) (a b c:Obj):(((w.alloc a).alloc b).alloc c).heap[w.heap.size]?=some a∧(((w.alloc a).alloc b).alloc c).heap[w.heap.size+1]?=some b∧(((w.alloc a).alloc b).alloc c).heap[w.heap.size+1+1]?=some c∧(((w.alloc a).alloc b).alloc c).heap.size=w.heap.size+3∧Below w.heap.size w (((w.alloc a).alloc b).alloc c):=by
 refine⟨?_,?_,?_,by simp,(((Below.refl _ _).alloc zn _).alloc ZH2 _).alloc ZC8 _⟩
 ·rw[aB9 _ _ ZC8,aB9 _ _ ZH2,aN3]
 ·rw[aB9 _ _ ZH2]
  have:=aN3 (w.alloc a) b
  simpa using this
 ·have:=aN3 ((w.alloc a).alloc b) c
  simpa using this
structure ApAt (w:World) (A V:Option Addr) (t:Tp) (x:Cm) (c n:Nat) (W:World):Prop where
 p1:W.heap[w.heap.size]?=some (.cells #[.slice A t.1.length c,.int .i64 t.2] 108 (0,0))
 p2:W.heap[w.heap.size+1]?=some (.cells #[.int .i64 x.1,.slice V x.2.length n] 177 (0,0))
 p3:W.heap[w.heap.size+1+1]?=some (.cells #[.slice none 0 0,.int .i64 0] 108 (0,0))
 b:Below w.heap.size w W
 z:w.heap.size+3≤W.heap.size
theorem apAt_new (w:World) (A V:Option Addr) (t:Tp) (x:Cm) (c n:Nat):ApAt w A V t x c n (((w.alloc (.cells #[.slice A t.1.length c,.int .i64 t.2] 108)).alloc (.cells #[.int .i64 x.1,.slice V x.2.length n] 177)).alloc (.cells #[.slice none 0 0,.int .i64 0] 108)) :=
 let h:=box3_new w (.cells #[.slice A t.1.length c,.int .i64 t.2] 108) (.cells #[.int .i64 x.1,.slice V x.2.length n] 177) (.cells #[.slice none 0 0,.int .i64 0] 108)
 ⟨h.1,h.2.1,h.2.2.1,h.2.2.2.2,Nat.le_of_eq h.2.2.2.1.symm⟩
theorem ApAt.next {w W W':World} {A V:Option Addr} {t:Tp} {x:Cm} {c n B:Nat} (h:ApAt w A V t x c n W) (hb:Below B W W') (hB:w.heap.size+3≤B):ApAt w A V t x c n W' :=
 have hz:=h.z
 ⟨(hb.block _ AO).trans h.p1,(hb.block _ AO).trans h.p2,(hb.block _ AO).trans h.p3,h.b.trans (hb.mono AO),Nat.le_trans hz hb.size⟩
theorem bU0 (w:World) (hT:bD w) (A V:Option Addr) (t:Tp) (x:Cm) (c n:Nat) (ha:Bs All w A t.1) (hx:Ws All w V x.2) (h80:x.2.length*80≤140737488355328) :
  Calls Tryz.prog 232 #[.agg #[.slice A t.1.length c,.int .i64 t.2],.agg #[.int .i64 x.1,.slice V x.2.length n]] w (cG4 w (aE1 t x)):=by
 obtain⟨i0,hi0,hy0,hy1,hy2⟩:=info_parts info_u8
 have HT:=zh hT
 have Ha:=zh ha
 have Hx:=zh hx
 clear hT ha hx
 have H0:=zh (apAt_new w A V t x c n)
 rcases Bool.eq_false_or_eq_true (aR5 t) with hm|hm
 ·obtain⟨b,be,hb⟩:∃ b be,aM5 x=(b,be):=⟨_,_,rfl⟩
  have Hb:=zh hb
  have Hm:=zh hm
  have hb':aM5 (x.1,x.2)=(b,be):=hb
  by_cases hz:be=0
  ·subst hz
   have h600:=bB1 (c:=x) (by rw[hb])
   rw[hb] at h600
   simp only[] at h600
   have hfl:=bB0 b
   by_cases hbig:200000<t.1.length+(aN2 b).length
   ·have Hv:=zh (show aE1 t x=(([],0),11) by unfold aE1;rw[if_neg (by simp[hm]),hb,if_neg ZH2,if_pos hbig])
    have Hfl:=zh hfl
    have Hbig:=zh hbig
    have H6:=zh h600
    obtain⟨hi,hhi⟩:∃ hi,hi=UInt8.ofNat (b.length / 256):=⟨_,rfl⟩
    obtain⟨lo,hlo⟩:∃ lo,lo=UInt8.ofNat b.length:=⟨_,rfl⟩
    have t1:IntKind.u8.wrap ((b.length:Int) / 256)=(hi.toNat:Int):=by rw[hhi,← wrap_u8];rfl
    have t2:IntKind.u8.wrap (b.length:Int)=(lo.toNat:Int):=by rw[hlo,← wrap_u8]
    have Hl2:=zh (show aP5 b=[hi,lo]++b by rw[hhi,hlo];rfl)
    obtain⟨f2,hf2⟩:∃ f2,f2=aP5 b:=⟨_,rfl⟩
    obtain⟨dg,hdg⟩:∃ dg,dg=aL2 f2:=⟨_,rfl⟩
    obtain⟨ff,hff⟩:∃ ff,ff=f2++dg.take 4:=⟨_,rfl⟩
    have Hff:=zh (show aN2 b=ff by rw[hff,hdg,hf2];rfl)
    have Hf2:=zh (show f2=[hi,lo]++b from hf2.trans Hl2.out)
    have Hf2l:=zh (show f2.length=2+b.length by rw[hf2,cG3];omega)
    have Hdl:=zh (show dg.length=32 by rw[hdg];exact aO2 _)
    have Hffl:=zh (show ff.length=f2.length+4 by rw[hff,hdg];simp[aO2])
    have Hdg:=zh hdg
    have Hfe:=zh hff
    have hffz:(200000:Int)<(t.1.length:Int)+(ff.length:Int):=by rw[Hff.out] at hbig;omega
    have hw64:IntKind.i64.wrap ((t.1.length:Int)+(ff.length:Int))=(t.1.length:Int)+(ff.length:Int):=IntWalk.i64_in _ (by have:=Hffl.out;have:=Hf2l.out;have:=(aH8 t).1 hm;omega)
    have Htl:=zh ((aH8 t).1 hm)
    clear hhi hlo hb hm hfl hbig hf2 hdg hff
    go_enter Tryz.func232,Tryz.ntmps232
    go_wp2_with (first
     | (go_at_call 179;(with_reducible refine (aQ2 _ A t c ?ha Hm.out).mono ?_);(case ha=>exact Ha.out.bbelow H0.out.b);rintro e1 w1 ⟨A1,c1,rfl,hcap,hs1,hb1⟩;have H1:=H0.out.next hb1 H0.out.z;obtain⟨j0,j1,j2,j3⟩:=bF H1.p2;have hz1:=H1.z;have hzz1:w.heap.size+1<w1.heap.size:=AO)
     | (go_at_call 263;(with_reducible refine (bD4 _ V x.1 x.2 n ?hx h80).mono ?_);(case hx=>exact Hx.out.below wrR_stays (H1.b.alloc AO _));rw[hb'];rintro e2 w2 ⟨B,bc,rfl,hs2,hb2⟩;have H2:=(H1.next ((Below.refl w1.heap.size w1).alloc zn _) hz1).next hb2 ZC8;have hxb:=(hb2.block w1.heap.size ZH2).trans (aK w1 _ _);have hz2:=H2.z;obtain⟨k0,k1,k2,k3⟩:=bF hxb;obtain⟨g0,g1,g2,g3⟩:=bF H2.p3;have hzx:w1.heap.size<w2.heap.size:=(by have:=hb2.size;simp at this;omega);have hzz2:w.heap.size+1+1<w2.heap.size:=AO)
     | (at_builtin;refine aC0 _ rfl _ _ _ rfl w2.heap.size 5 i0 (.int .u8 0) 1 1 Tryz.underlying44 hi0 hy0 hy1 hy2 rfl ZD9 _ 2 ([bv hi,bv lo]) rfl (aU7 (l:=[hi,lo]) (aK w2 _ _) zn (by simp[maxLen])) B b.length bc (b.map bv) rfl ZH2 ?hsrc (by first|exact aI3 _|simp[bv,Value.oneCell']) ZD2 AO ?hbz ?_;(case hsrc=>exact (hs2.bz.bbelow ((Below.refl _ _).alloc zn _)).bsrc);(case hbz=>exact AU);intro v3 w3 hown3 hg3 hat3;have ho3:w3.ownsRow w2.heap.size 5 1 v3 f2.length (f2.map bv):=(by rw[Hf2l.out,Hf2.out];simpa using hown3);obtain⟨F3,fc3,rfl⟩:=aQ7 ho3;have hb3:Below w2.heap.size w2 w3:=((Below.refl _ _).alloc zn _).trans (aA6 (aU7 (l:=[hi,lo]) (aK w2 _ _) zn (by simp[maxLen])) hg3 ZH2);have H3:=H2.next hb3 hz2;have hz3:=H3.z;clear hown3 hg3 hat3)
     | (go_at_call 180;(with_reducible refine (bD3 _ ?t0 F3 f2 fc3 ?t1 ?t2).mono ?_);(case t0=>exact HT.out.below H3.b);(case t1=>exact (SL.bof_own ho3).2.bz);(case t2=>(have:=Hf2l.out;omega));rw[← Hdg.out];rintro e4 w4 ⟨D,d,rfl,hd4,hs4,hb4⟩;have ho4:=aZ6 ho3 (fun g _ hg=>hb4.block g hg);have H4:=H3.next hb4 hz3;have hz4:=H4.z;have h4d:4≤d:=(by have:=Hdl.out;omega);have hs4':=hs4 (by rw[Hdl.out];omega);obtain⟨db,dof,rfl,_⟩:=hs4')
     | (at_builtin;refine aC0 _ rfl _ _ _ rfl w2.heap.size 5 i0 (.int .u8 0) 1 1 Tryz.underlying44 hi0 hy0 hy1 hy2 rfl ZD9 _ f2.length (f2.map bv) rfl ho4 _ 4 _ ((dg.take 4).map bv) rfl (by simp[Hdl.out]) ?hsrc (by first|exact aI3 _|simp[bv,Value.oneCell']) (by have:=Hf2l.out;unfold maxLen;omega) (by have:=Hf2l.out;omega) ?hbz ?_;(case hsrc=>exact fun _=>SL.bsrc (aX0 hs4.bz 4) (by simp[Hdl.out]));(case hbz=>exact Nat.le_trans hb3.size hb4.size);intro v5 w5 hown5 hg5 hat5;have ho5:w5.ownsRow w2.heap.size 5 1 v5 ff.length (ff.map bv):=(by rw[Hffl.out,Hfe.out];simpa using hown5);obtain⟨F5,fc5,rfl⟩:=aQ7 ho5;have hb5:Below w2.heap.size w4 w5:=aA6 ho4 hg5 (Nat.le_trans hb3.size hb4.size);have H5:=H4.next hb5 hz2;have hz5:=H5.z;have hx5:=((hb3.trans (hb4.mono hb3.size)).trans hb5).block w1.heap.size hzx |>.trans hxb;obtain⟨y0,y1,y2,y3⟩:=bF hx5;have hzx5:=(Array.getElem?_eq_some_iff.1 hx5).1;obtain⟨g05,g15,g25,g35⟩:=bF H5.p3;have hzf5:w.heap.size+1+1<w5.heap.size:=AO;clear hown5 hg5 hat5;have hxo:w5.ownsRow (w.heap.size+3) 5 1 (.slice A1 t.1.length c1) t.1.length (t.1.map bv):=aZ6 (bO9 hs1 ZH2) (fun g _ hg=>(((hb2.mono (show w1.heap.size+1≤_ by simp)).trans ((hb3.trans (hb4.mono hb3.size)).trans hb5 |>.mono AO)).block g AO).trans (Below.heap_alloc w1 _ g hg))))
    refine bodyPost_ret (v:=.tuple #[.agg #[.slice none 0 0,.int .i64 0],.int .i64 11]) (by simp[results,Tryz.results232,go_sem,g05,g15,hzf5]) rfl ?_
    rw[Hv.out]
    exact⟨none,0,rfl,zn,SL.nil,cG5 H5.b AO⟩
   ·have Hv:=zh (show aE1 t x=((t.1++aN2 b,t.2),0) by unfold aE1;rw[if_neg (by simp[hm]),hb,if_neg ZH2,if_neg hbig])
    have Hfl:=zh hfl
    have Hbig:=zh hbig
    have H6:=zh h600
    obtain⟨hi,hhi⟩:∃ hi,hi=UInt8.ofNat (b.length / 256):=⟨_,rfl⟩
    obtain⟨lo,hlo⟩:∃ lo,lo=UInt8.ofNat b.length:=⟨_,rfl⟩
    have t1:IntKind.u8.wrap ((b.length:Int) / 256)=(hi.toNat:Int):=by rw[hhi,← wrap_u8];rfl
    have t2:IntKind.u8.wrap (b.length:Int)=(lo.toNat:Int):=by rw[hlo,← wrap_u8]
    have Hl2:=zh (show aP5 b=[hi,lo]++b by rw[hhi,hlo];rfl)
    obtain⟨f2,hf2⟩:∃ f2,f2=aP5 b:=⟨_,rfl⟩
    obtain⟨dg,hdg⟩:∃ dg,dg=aL2 f2:=⟨_,rfl⟩
    obtain⟨ff,hff⟩:∃ ff,ff=f2++dg.take 4:=⟨_,rfl⟩
    have Hff:=zh (show aN2 b=ff by rw[hff,hdg,hf2];rfl)
    have Hf2:=zh (show f2=[hi,lo]++b from hf2.trans Hl2.out)
    have Hf2l:=zh (show f2.length=2+b.length by rw[hf2,cG3];omega)
    have Hdl:=zh (show dg.length=32 by rw[hdg];exact aO2 _)
    have Hffl:=zh (show ff.length=f2.length+4 by rw[hff,hdg];simp[aO2])
    have Hdg:=zh hdg
    have Hfe:=zh hff
    have hffz:¬ (200000:Int)<(t.1.length:Int)+(ff.length:Int):=by rw[Hff.out] at hbig;omega
    have hw64:IntKind.i64.wrap ((t.1.length:Int)+(ff.length:Int))=(t.1.length:Int)+(ff.length:Int):=IntWalk.i64_in _ (by have:=Hffl.out;have:=Hf2l.out;have:=(aH8 t).1 hm;omega)
    have Htl:=zh ((aH8 t).1 hm)
    clear hhi hlo hb hm hfl hbig hf2 hdg hff
    go_enter Tryz.func232,Tryz.ntmps232
    go_wp2_with (first
     | (go_at_call 179;(with_reducible refine (aQ2 _ A t c ?ha Hm.out).mono ?_);(case ha=>exact Ha.out.bbelow H0.out.b);rintro e1 w1 ⟨A1,c1,rfl,hcap,hs1,hb1⟩;have H1:=H0.out.next hb1 H0.out.z;obtain⟨j0,j1,j2,j3⟩:=bF H1.p2;have hz1:=H1.z;have hzz1:w.heap.size+1<w1.heap.size:=AO)
     | (go_at_call 263;(with_reducible refine (bD4 _ V x.1 x.2 n ?hx h80).mono ?_);(case hx=>exact Hx.out.below wrR_stays (H1.b.alloc AO _));rw[hb'];rintro e2 w2 ⟨B,bc,rfl,hs2,hb2⟩;have H2:=(H1.next ((Below.refl w1.heap.size w1).alloc zn _) hz1).next hb2 ZC8;have hxb:=(hb2.block w1.heap.size ZH2).trans (aK w1 _ _);have hz2:=H2.z;obtain⟨k0,k1,k2,k3⟩:=bF hxb;obtain⟨g0,g1,g2,g3⟩:=bF H2.p3;have hzx:w1.heap.size<w2.heap.size:=(by have:=hb2.size;simp at this;omega);have hzz2:w.heap.size+1+1<w2.heap.size:=AO)
     | (at_builtin;refine aC0 _ rfl _ _ _ rfl w2.heap.size 5 i0 (.int .u8 0) 1 1 Tryz.underlying44 hi0 hy0 hy1 hy2 rfl ZD9 _ 2 ([bv hi,bv lo]) rfl (aU7 (l:=[hi,lo]) (aK w2 _ _) zn (by simp[maxLen])) B b.length bc (b.map bv) rfl ZH2 ?hsrc (by first|exact aI3 _|simp[bv,Value.oneCell']) ZD2 AO ?hbz ?_;(case hsrc=>exact (hs2.bz.bbelow ((Below.refl _ _).alloc zn _)).bsrc);(case hbz=>exact AU);intro v3 w3 hown3 hg3 hat3;have ho3:w3.ownsRow w2.heap.size 5 1 v3 f2.length (f2.map bv):=(by rw[Hf2l.out,Hf2.out];simpa using hown3);obtain⟨F3,fc3,rfl⟩:=aQ7 ho3;have hb3:Below w2.heap.size w2 w3:=((Below.refl _ _).alloc zn _).trans (aA6 (aU7 (l:=[hi,lo]) (aK w2 _ _) zn (by simp[maxLen])) hg3 ZH2);have H3:=H2.next hb3 hz2;have hz3:=H3.z;clear hown3 hg3 hat3)
     | (go_at_call 180;(with_reducible refine (bD3 _ ?t0 F3 f2 fc3 ?t1 ?t2).mono ?_);(case t0=>exact HT.out.below H3.b);(case t1=>exact (SL.bof_own ho3).2.bz);(case t2=>(have:=Hf2l.out;omega));rw[← Hdg.out];rintro e4 w4 ⟨D,d,rfl,hd4,hs4,hb4⟩;have ho4:=aZ6 ho3 (fun g _ hg=>hb4.block g hg);have H4:=H3.next hb4 hz3;have hz4:=H4.z;have h4d:4≤d:=(by have:=Hdl.out;omega);have hs4':=hs4 (by rw[Hdl.out];omega);obtain⟨db,dof,rfl,_⟩:=hs4')
     | (at_builtin;refine aC0 _ rfl _ _ _ rfl w2.heap.size 5 i0 (.int .u8 0) 1 1 Tryz.underlying44 hi0 hy0 hy1 hy2 rfl ZD9 _ f2.length (f2.map bv) rfl ho4 _ 4 _ ((dg.take 4).map bv) rfl (by simp[Hdl.out]) ?hsrc (by first|exact aI3 _|simp[bv,Value.oneCell']) (by have:=Hf2l.out;unfold maxLen;omega) (by have:=Hf2l.out;omega) ?hbz ?_;(case hsrc=>exact fun _=>SL.bsrc (aX0 hs4.bz 4) (by simp[Hdl.out]));(case hbz=>exact Nat.le_trans hb3.size hb4.size);intro v5 w5 hown5 hg5 hat5;have ho5:w5.ownsRow w2.heap.size 5 1 v5 ff.length (ff.map bv):=(by rw[Hffl.out,Hfe.out];simpa using hown5);obtain⟨F5,fc5,rfl⟩:=aQ7 ho5;have hb5:Below w2.heap.size w4 w5:=aA6 ho4 hg5 (Nat.le_trans hb3.size hb4.size);have H5:=H4.next hb5 hz2;have hz5:=H5.z;have hx5:=((hb3.trans (hb4.mono hb3.size)).trans hb5).block w1.heap.size hzx |>.trans hxb;obtain⟨y0,y1,y2,y3⟩:=bF hx5;have hzx5:=(Array.getElem?_eq_some_iff.1 hx5).1;obtain⟨g05,g15,g25,g35⟩:=bF H5.p3;have hzf5:w.heap.size+1+1<w5.heap.size:=AO;clear hown5 hg5 hat5;have hxo:w5.ownsRow (w.heap.size+3) 5 1 (.slice A1 t.1.length c1) t.1.length (t.1.map bv):=aZ6 (bO9 hs1 ZH2) (fun g _ hg=>(((hb2.mono (show w1.heap.size+1≤_ by simp)).trans ((hb3.trans (hb4.mono hb3.size)).trans hb5 |>.mono AO)).block g AO).trans (Below.heap_alloc w1 _ g hg)))
     | (at_builtin;refine aC0 _ rfl _ _ _ rfl (w.heap.size+3) 5 i0 (.int .u8 0) 1 1 Tryz.underlying44 hi0 hy0 hy1 hy2 rfl ZD9 _ t.1.length (t.1.map bv) rfl ?own F5 ff.length fc5 (ff.map bv) rfl ZH2 ?hsrc (by first|exact aI3 _|simp[bv,Value.oneCell']) (by have:=Hffl.out;have:=Hf2l.out;have:=Htl.out;unfold maxLen;omega) (by have:=Hffl.out;have:=Hf2l.out;have:=Htl.out;omega) ?hbz ?_;(case own=>exact hxo);(case hsrc=>exact SL.bsrc (SL.bof_own ho5).2.bz);(case hbz=>exact hz5);intro v6 w6 hown6 hg6 hat6;have hb6:Below (w.heap.size+3) w5 w6:=aA6 hxo hg6 hz5;have H6:=H5.next hb6 zn;have hz6:=H6.z;have hx6:=(hg6.block w1.heap.size hzx5 (fun e=>absurd (cM3 hxo e.symm).2 (by have:=cM3 hs1 e.symm;omega))).trans hx5;obtain⟨u0,u1,u2,u3⟩:=bF hx6;obtain⟨g06,g16,g26,g36⟩:=bF H6.p3;have hzx6:=(Array.getElem?_eq_some_iff.1 hx6).1;have ho6:w6.ownsRow (w.heap.size+3) 5 1 v6 (t.1++ff).length ((t.1++ff).map bv):=(by simpa using hown6);obtain⟨T6,tc6,rfl⟩:=aQ7 ho6;have hne6:w1.heap.size≠w.heap.size+1+1:=AO;have hne6':w.heap.size+1+1≠w1.heap.size:=AO;have hzf6:w.heap.size+1+1<w6.heap.size:=AO;clear hg6))
    refine bodyPost_ret (v:=.tuple #[.agg #[.slice T6 (t.1.length+ff.length) tc6,.int .i64 t.2],.int .i64 0]) (by simp[results,Tryz.results232,go_sem,g06,g16,hzf6]) rfl ?_
    rw[Hv.out,Hff.out]
    have hown:(((w6.setCell ⟨w1.heap.size,0,none⟩ (.slice T6 (t.1.length+ff.length) tc6)).setCell ⟨w.heap.size+1+1,0,none⟩ (.slice T6 (t.1.length+ff.length) tc6)).setCell ⟨w.heap.size+1+1,1,none⟩ (.int .i64 t.2)).ownsRow (w.heap.size+3) 5 1 (.slice T6 (t.1++ff).length tc6) (t.1++ff).length ((t.1++ff).map bv):=cU5 ho6 fun g hg hge=>by
     have hne:g≠w1.heap.size:=by
      rcases hat6 with h|h
      ·have h1:=(cM3 hs1 (h.symm.trans hg)).2
       omega
      ·have h1:w5.heap.size=g:=Option.some.inj (h.symm.trans hg)
       omega
     exact ((Below.heap_setCell _ _ _ _ ZC5).trans (Below.heap_setCell _ _ _ _ ZC5)).trans (Below.heap_setCell _ _ _ _ ZC5)
    have hcap6:(t.1++ff).length≤tc6:=by
     obtain⟨_,_,e,h⟩:=cF4 ho6
     cases e
     exact h
    exact⟨T6,tc6,by rw[List.length_append],hcap6,(SL.bof_own hown).2.blo AO,cG5 (H6.b.setCell (show w.heap.size≤w1.heap.size by omega) _) AO⟩
  ·have Hv:=zh (show aE1 t x=(([],0),be) by unfold aE1;rw[if_neg (by simp[hm]),hb,if_pos hz])
   have hbe:(be != 0)=true:=by simpa using hz
   clear hb hm hz
   go_enter Tryz.func232,Tryz.ntmps232
   go_wp2_with (first
    | (go_at_call 179;(with_reducible refine (aQ2 _ A t c ?ha Hm.out).mono ?_);(case ha=>exact Ha.out.bbelow H0.out.b);rintro e1 w1 ⟨A1,c1,rfl,hcap,hs1,hb1⟩;have H1:=H0.out.next hb1 H0.out.z;obtain⟨j0,j1,j2,j3⟩:=bF H1.p2;have hz1:=H1.z;have hzz1:w.heap.size+1<w1.heap.size:=AO)
    | (go_at_call 263;(with_reducible refine (bD4 _ V x.1 x.2 n ?hx h80).mono ?_);(case hx=>exact Hx.out.below wrR_stays (H1.b.alloc AO _));rw[hb'];rintro e2 w2 ⟨B,bc,rfl,hs2,hb2⟩;have H2:=(H1.next ((Below.refl w1.heap.size w1).alloc zn _) hz1).next hb2 ZC8;have hxb:=(hb2.block w1.heap.size ZH2).trans (aK w1 _ _);have hz2:=H2.z;obtain⟨k0,k1,k2,k3⟩:=bF hxb;obtain⟨g0,g1,g2,g3⟩:=bF H2.p3;have hzx:w1.heap.size<w2.heap.size:=(by have:=hb2.size;simp at this;omega);have hzz2:w.heap.size+1+1<w2.heap.size:=AO))
   refine bodyPost_ret (v:=.tuple #[.agg #[.slice none 0 0,.int .i64 0],.int .i64 be]) (by simp[results,Tryz.results232,go_sem,g0,g1,hzz2]) rfl ?_
   rw[Hv.out]
   exact⟨none,0,rfl,zn,SL.nil,cG5 H2.b AO⟩
 ·have Hv:=zh (show aE1 t x=(([],0),6) by unfold aE1;rw[if_pos hm])
  have Hm:=zh hm
  clear hm
  go_enter Tryz.func232,Tryz.ntmps232
  go_wp2_with ((go_at_call 179;(with_reducible refine (aS7 _ A t c Hm.out).mono ?_);rintro e1 w1 ⟨A1,c1,rfl,_,_,hb1⟩;have H1:=H0.out.next hb1 H0.out.z;obtain⟨g0,g1,g2,g3⟩:=bF H1.p3;have hz1:=H1.z;have hzz:w.heap.size+1+1<w1.heap.size:=AO))
  refine bodyPost_ret (v:=.tuple #[.agg #[.slice none 0 0,.int .i64 0],.int .i64 6]) (by simp[results,Tryz.results232,go_sem,g0,g1,hzz]) rfl ?_
  rw[Hv.out]
  exact⟨none,0,rfl,zn,SL.nil,(cG5 H1.b AO).alloc (cG5 H1.b AO).size _⟩
end Go.Proofs.YtablgnacmpcfeaaGreatDoor
