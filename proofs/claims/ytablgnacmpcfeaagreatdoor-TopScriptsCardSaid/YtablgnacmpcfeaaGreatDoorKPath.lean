/- Path: Walks: keys as bits. Walk of path.Bit. The first bit at which two bytes differ. The walks of PathBits and PathParts. The walk of PathParts. Proofs: words for memory; what is refused of one, by the references. Walks: ProofFault; words for proof.Check. Walk: proofs (a proof in memory of its own). Walks: proof.Check of proofs that are empty, or not in form. Walk: proof.Check of a proof with steps. proof.Check: its contract. Walk: sameProof; the law ProofChecks. The conditions of each are in its words. -/
import Derived.OpenShut
import Derived.Test.YtablgnacmpcfeaaGreatDoorKBase
import Derived.Test.YtablgnacmpcfeaaGreatDoorKTrees
namespace Go.Proofs.YtablgnacmpcfeaaGreatDoor
open Go.RowKit
set_option linter.unusedVariables false
set_option linter.unusedSimpArgs false
set_option maxRecDepth 100000
set_option maxHeartbeats 8000000
def nAt (b j:Nat):Nat:=b % (256 / 2 ^ j)
def pAt (j:Nat):Nat:=128 / 2 ^ j
def bitN (b j:Nat):Bool:=decide (pAt j≤nAt b j)
def aR6 (b:UInt8) (j:Nat):List Bool:=true :: (List.range j).map (bitN b.toNat)
def bits (l:List UInt8):List Bool:=l.flatMap fun b=>aR6 b 8
theorem bP9 (l:List UInt8):(bits l).length=9*l.length:=by
 induction l with
 | nil=>rfl
 | cons b l ih=>rw[show bits (b :: l)=aR6 b 8++bits l from rfl,List.length_append,ih];simp[aR6];omega
theorem aQ8 (b:UInt8) (j:Nat):(aR6 b j).length=j+1:=by simp[aR6]
def cA3 (l:List UInt8):List Bool:=bits l++List.replicate (145 - 9*l.length) false
theorem bits_get:∀ (a:List UInt8) (q r:Nat) (hq:q<a.length),r<9→(bits a)[9*q+r]?=(aR6 a[q] 8)[r]?
 | [],q,r,hq,_=>absurd hq ZH2
 | x :: a,0,r,_,hr=>by
  rw[show bits (x :: a)=aR6 x 8++bits a from rfl,List.getElem?_append_left (by rw[aQ8];omega)]
  simp
 | x :: a,q+1,r,hq,hr=>by
  rw[show bits (x :: a)=aR6 x 8++bits a from rfl,List.getElem?_append_right (by rw[aQ8];omega),aQ8,show 9*(q+1)+r - (8+1)=9*q+r by omega,bits_get a q r (by simpa using hq) hr]
  simp
theorem shr_all:∀ x<256,∀ r<9,0<r→(Go.bits BinOp.and IntKind.u8 (((x:Nat):Int) / 2 ^ (8 - r)) 1==1)=bitN x (r - 1):=by decide +kernel
theorem shr_one (x:UInt8) {r:Nat} (h:r<9) (h0:0<r):(Go.bits BinOp.and IntKind.u8 ((x.toNat:Int) / 2 ^ (8 - r)) 1==1)=((aR6 x 8)[r]?).getD false:=by
 rw[shr_all x.toNat x.toNat_lt r h h0]
 obtain⟨j,rfl⟩:∃ j,r=j+1:=⟨r - 1,AO⟩
 simp only[aR6,List.getElem?_cons_succ,List.getElem?_map,Nat.add_sub_cancel]
 rw[List.getElem?_range AO]
 rfl
def bP (a:List UInt8) (i:Nat):Bool:=(cA3 a).getD i false
theorem bitB_off {a:List UInt8} {i q r:Nat} (hi:i=9*q+r) (h:a.length≤q):bP a i=false:=by
 unfold bP cA3
 rw[List.getD_eq_getElem?_getD,List.getElem?_append_right (by rw[bP9];omega),List.getElem?_replicate]
 split <;> rfl
theorem bitB_on {a:List UInt8} {i q r:Nat} (hi:i=9*q+r) (hr:r<9) (h:q<a.length):bP a i=((aR6 a[q] 8)[r]?).getD false:=by
 unfold bP cA3
 rw[List.getD_eq_getElem?_getD,List.getElem?_append_left (by rw[bP9];omega),hi,bits_get a q r h hr]
theorem bF4 (w:World) (A:Option Addr) (a:List UInt8) (c:Nat) (i:Nat) (ha:Bs All w A a) (hi:i<145) (hn:a.length≤16) :
  Calls Tryz.prog 283 #[.slice A a.length c,.int .i64 i] w (fun e w'=>e=.returned (.bool (bP a i))∧w'=w):=by
 obtain⟨q,hq⟩:∃ q,q=i / 9:=⟨_,rfl⟩
 obtain⟨r,hr⟩:∃ r,r=i % 9:=⟨_,rfl⟩
 have hir:i=9*q+r:=by omega
 have hr9:r<9:=by omega
 have hq16:q≤16:=by omega
 have e1:(i:Int) / 9=(q:Int):=by omega
 have e2:(i:Int) % 9=(r:Int):=by omega
 have Hir:=zh hir
 clear hq hr hir
 by_cases h1:a.length≤q
 ·have b1:decide ((a.length:Int)≤(q:Int))=true:=decide_eq_true AO
  rw[bitB_off Hir.out h1]
  clear Hir
  go_enter Tryz.func283,Tryz.ntmps283
  go_wp2
  go_ret
  exact⟨rfl,rfl⟩
 ·have b1:decide ((a.length:Int)≤(q:Int))=false:=decide_eq_false AO
  rw[bitB_on Hir.out hr9 AO]
  clear Hir
  obtain⟨ab,ao,rfl,_,hal,hcell⟩:=ha.bat (k:=q) AO
  obtain⟨x,hx⟩:∃ x,x=a[q]:=⟨_,rfl⟩
  rw[← hx] at hcell
  rw[← hx]
  clear hx ha
  rcases (by omega:r=0∨0<r) with h2|h2
  ·subst h2
   rw[show ((aR6 x 8)[0]?).getD false=true from rfl]
   go_enter Tryz.func283,Tryz.ntmps283
   go_wp2
   go_ret
   exact⟨rfl,rfl⟩
  ·have b2:decide ((r:Int)=0)=false:=decide_eq_false AO
   go_enter Tryz.func283,Tryz.ntmps283
   go_wp2
   go_ret
   exact⟨aC9 (shr_one x hr9 h2),rfl⟩
def bK8 (a:List UInt8) (i:Int):Bool × Int:=if aE a=0 then (if 0≤i∧i≤144 then (bP a i.toNat,0) else (false,2)) else (false,aE a)
theorem key16 {a:List UInt8} (h:aE a=0):a.length≤16:=by unfold aE at h;split at h <;> omega
theorem aR7 (w:World) (A:Option Addr) (a:List UInt8) (c:Nat) (i:Int) (ha:Bs All w A a) :
  Calls Tryz.prog 258 #[.slice A a.length c,.int .i64 i] w (bQ w (.tuple #[.bool (bK8 a i).1,.int .i64 (bK8 a i).2])):=by
 have Ha:=zh ha
 clear ha
 by_cases hk:aE a=0
 ·have H16:=zh (key16 hk)
  have Hk:=zh hk
  rcases (by omega:i<0∨(0≤i∧145≤i)∨(0≤i∧i≤144)) with h|⟨h,h'⟩|⟨h,h'⟩
  ·have e:bK8 a i=(false,2):=by unfold bK8;rw[if_pos hk,if_neg AO]
   rw[e]
   clear e hk
   go_enter Tryz.func258,Tryz.ntmps258
   go_wp2_with (go_at_call 91;refine (aF _ A a c).mono ?_;rintro e w1 ⟨rfl,rfl⟩;rw[Hk.out])
   go_ret2
   exact⟨rfl,Below.refl _ _⟩
  ·have e:bK8 a i=(false,2):=by unfold bK8;rw[if_pos hk,if_neg AO]
   rw[e]
   clear e hk
   go_enter Tryz.func258,Tryz.ntmps258
   go_wp2_with (go_at_call 91;refine (aF _ A a c).mono ?_;rintro e w1 ⟨rfl,rfl⟩;rw[Hk.out])
   go_ret2
   exact⟨rfl,Below.refl _ _⟩
  ·obtain⟨n,rfl⟩:∃ n:Nat,i=n:=⟨i.toNat,AO⟩
   have e:bK8 a n=(bP a n,0):=by unfold bK8;rw[if_pos hk,if_pos ⟨h,h'⟩];simp
   rw[e]
   have hn:n<145:=by omega
   clear e hk
   go_enter Tryz.func258,Tryz.ntmps258
   go_wp2_with (first
    | (go_at_call 91;refine (aF _ A a c).mono ?_;rintro e w1 ⟨rfl,rfl⟩;rw[Hk.out])
    | (go_at_call 283;refine (bF4 _ A a c n Ha.out hn H16.out).mono ?_;rintro e w2 ⟨rfl,rfl⟩))
   go_ret2
   exact⟨rfl,Below.refl _ _⟩
 ·have e:bK8 a i=(false,aE a):=by unfold bK8;rw[if_neg hk]
  rw[e]
  have b1:(aE a != 0)=true:=by simpa using hk
  clear e hk
  go_enter Tryz.func258,Tryz.ntmps258
  go_wp2_with (go_at_call 91;refine (aF _ A a c).mono ?_;rintro e w1 ⟨rfl,rfl⟩)
  go_ret2
  exact⟨rfl,Below.refl _ _⟩
end Go.Proofs.YtablgnacmpcfeaaGreatDoor
namespace Go.Proofs.YtablgnacmpcfeaaGreatDoor
set_option linter.unusedVariables false
set_option linter.unusedSimpArgs false
set_option maxRecDepth 100000
set_option maxHeartbeats 8000000
def aU8 (x y:Nat):Nat:=((List.range 8).find? fun j=>bitN x j != bitN y j).getD 8
theorem byte_first:∀ x<256,∀ y<256,x<y→aU8 x y<8∧(bitN x (aU8 x y)=false∧bitN y (aU8 x y)=true)∧(List.range (aU8 x y)).all (fun j=>bitN x j==bitN y j)=true:=by decide +kernel
end Go.Proofs.YtablgnacmpcfeaaGreatDoor
namespace Go.Proofs.YtablgnacmpcfeaaGreatDoor
open Go.RowKit
set_option linter.unusedVariables false
set_option linter.unusedSimpArgs false
set_option maxRecDepth 100000
set_option maxHeartbeats 8000000
def aF7 (a b:List UInt8):Nat→Nat→Int
 | 0,_=>-1
 | n+1,k=>if bP a k=bP b k then aF7 a b n (k+1) else (k:Int)
theorem cF6 {a b:List UInt8} {k:Nat} (hk:k<145):aF7 a b (145 - k) k=if bP a k=bP b k then aF7 a b (145 - (k+1)) (k+1) else (k:Int):=by
 obtain⟨m,hm⟩:∃ m,145 - k=m+1:=⟨144 - k,AO⟩
 have e:145 - (k+1)=m:=by omega
 rw[hm,e]
 rfl
def bC2 (a b:List UInt8):Int × Int:=if aE a=0 then (if aE b=0 then (aF7 a b 145 0,0) else (0,aE b)) else (0,aE a)
theorem bJ7 (w : World) (A B : Option Addr) (a b : List UInt8) (c d : Nat) (ha : Bs All w A a) (hb : Bs All w B b) :
    Calls Tryz.prog 280 #[.slice A a.length c, .slice B b.length d] w (bQ w (.tuple #[.int .i64 (bC2 a b).1, .int .i64 (bC2 a b).2])) := by
  have Ha := zh ha
  have Hb := zh hb
  clear ha hb
  by_cases hk : aE a = 0
  · have H16 := zh (key16 hk)
    have Hk := zh hk
    by_cases hm : aE b = 0
    · have J16 := zh (key16 hm)
      have Jk := zh hm
      have e : bC2 a b = (aF7 a b 145 0, 0) := by unfold bC2; rw [if_pos hk, if_pos hm]
      rw [e]
      obtain ⟨r, hr⟩ : ∃ r, r = aF7 a b 145 0 := ⟨_, rfl⟩
      rw [← hr]
      have Hr := zh hr
      clear e hk hm hr
      go_enter Tryz.func280, Tryz.ntmps280
      go_wp2_with (go_at_call 91; (first | (with_reducible refine (aF _ A a c).mono ?_; rintro e w1 ⟨rfl, rfl⟩; rw [Hk.out]) | (with_reducible refine (aF _ B b d).mono ?_; rintro e w2 ⟨rfl, rfl⟩; rw [Jk.out])))
      go_loopw [19] (fun i wr => ∃ k : Nat, k ≤ 145 ∧ i = .int .i64 k ∧ r = aF7 a b (145 - k) k ∧ wr = w) (fun i _ => 145 - (intOf i).toNat)
      case atStart => exact ⟨0, AO, rfl, Hr.out, rfl⟩
      case round =>
        obtain ⟨k, hk, rfl, hr, rfl⟩ := hrel
        by_cases hlt : k < 145
        · rw [cF6 hlt] at hr
          rcases Bool.eq_false_or_eq_true (bP a k) with hxa | hxa <;> rcases Bool.eq_false_or_eq_true (bP b k) with hxb | hxb
          all_goals
            rw [hxa, hxb] at hr
            have Hxa := zh hxa
            have Hxb := zh hxb
            clear hxa hxb
            first
              | (rw [if_neg ZD9] at hr
                 have Hr2 := zh hr
                 clear hr
                 go_wp2_with (go_at_call 283; (first | (with_reducible refine (bF4 _ A a c k Ha.out hlt H16.out).mono ?_; rintro e w3 ⟨rfl, rfl⟩; rw [Hxa.out]) | (with_reducible refine (bF4 _ B b d k Hb.out hlt J16.out).mono ?_; rintro e w4 ⟨rfl, rfl⟩; rw [Hxb.out])))
                 go_ret2
                 exact ⟨by rw [Hr2.out]; rfl, Below.refl _ _⟩)
              | (rw [if_pos rfl] at hr
                 have Hr2 := zh hr
                 clear hr
                 go_wp2_with (go_at_call 283; (first | (with_reducible refine (bF4 _ A a c k Ha.out hlt H16.out).mono ?_; rintro e w3 ⟨rfl, rfl⟩; rw [Hxa.out]) | (with_reducible refine (bF4 _ B b d k Hb.out hlt J16.out).mono ?_; rintro e w4 ⟨rfl, rfl⟩; rw [Hxb.out])))
                 exact ⟨⟨k + 1, AO, rfl, Hr2.out, trivial⟩, by simp [intOf]; omega⟩)
        · obtain rfl : k = 145 := by omega
          rw [show aF7 a b (145 - 145) 145 = -1 from rfl] at hr
          subst hr
          go_wp2
          go_ret2
          exact ⟨rfl, Below.refl _ _⟩
    · have e : bC2 a b = (0, aE b) := by unfold bC2; rw [if_pos hk, if_neg hm]
      rw [e]
      have b1 : (aE b != 0) = true := by simpa using hm
      clear e hk hm
      go_enter Tryz.func280, Tryz.ntmps280
      go_wp2_with (go_at_call 91; (first | (with_reducible refine (aF _ A a c).mono ?_; rintro e w1 ⟨rfl, rfl⟩; rw [Hk.out]) | (with_reducible refine (aF _ B b d).mono ?_; rintro e w2 ⟨rfl, rfl⟩)))
      go_ret2
      exact ⟨rfl, Below.refl _ _⟩
  · have e : bC2 a b = (0, aE a) := by unfold bC2; rw [if_neg hk]
    rw [e]
    have b1 : (aE a != 0) = true := by simpa using hk
    clear e hk
    go_enter Tryz.func280, Tryz.ntmps280
    go_wp2_with (go_at_call 91; refine (aF _ A a c).mono ?_; rintro e w1 ⟨rfl, rfl⟩)
    go_ret2
    exact ⟨rfl, Below.refl _ _⟩
structure St where
 bit:Int
 right:Bool
 other:List UInt8
def StR (S:Nat→Prop) (w:World) (cs:List Value) (s:St):Prop :=
 ∃ A c,cs=[.int .i64 s.bit,.bool s.right,.slice A s.other.length c]∧Bs S w A s.other∧s.other.length≤big
theorem stR_stays:bI StR :=
 ⟨fun _ _ _ _ _ hb ⟨A,c,h0,h1,h2⟩=>⟨A,c,h0,h1.bsame hb,h2⟩,fun _ _ _ _ _ hb ⟨A,c,h0,h1,h2⟩=>⟨A,c,h0,h1.bless hb,h2⟩⟩
abbrev Sts (S:Nat→Prop) (w:World) (A:Option Addr) (l:List St):Prop:=SL 3 StR S w A l
structure Pf where
 empty:Bool
 steps:List St
 pair:Pr
theorem box3p {w:World} {g:Nat} {t:TypeId} {a b c:Value} (h:w.heap[g]?=some (.cells #[a,b,c] t (0,0))) :
  w.cell? ⟨g,0,none⟩=some a∧w.cell? ⟨g,1,none⟩=some b∧w.cell? ⟨g,2,none⟩=some c∧w.frozen? ⟨g,0,none⟩=false∧w.frozen? ⟨g,1,none⟩=false∧w.frozen? ⟨g,2,none⟩=false :=
 ⟨aA (cs:=[a,b,c]) h 0,aA (cs:=[a,b,c]) h 1,aA (cs:=[a,b,c]) h 2,aD (cs:=[a,b,c]) h 0,aD (cs:=[a,b,c]) h 1,aD (cs:=[a,b,c]) h 2⟩
theorem aF3 {w:World} {g:Nat} {t:TypeId} {a b c d:Value} (h:w.heap[g]?=some (.cells #[a,b,c,d] t (0,0))) :
  w.cell? ⟨g,0,none⟩=some a∧w.cell? ⟨g,1,none⟩=some b∧w.cell? ⟨g,2,none⟩=some c∧w.cell? ⟨g,3,none⟩=some d∧w.frozen? ⟨g,0,none⟩=false∧w.frozen? ⟨g,1,none⟩=false∧w.frozen? ⟨g,2,none⟩=false∧w.frozen? ⟨g,3,none⟩=false :=
 ⟨aA (cs:=[a,b,c,d]) h 0,aA (cs:=[a,b,c,d]) h 1,aA (cs:=[a,b,c,d]) h 2,aA (cs:=[a,b,c,d]) h 3,aD (cs:=[a,b,c,d]) h 0,aD (cs:=[a,b,c,d]) h 1,aD (cs:=[a,b,c,d]) h 2,aD (cs:=[a,b,c,d]) h 3⟩
theorem info_st:(Tryz.prog.info? 239).map (fun i=>(i.zero,i.size,i.bytes))=some (some (.agg #[.int .i64 0,.bool false,.slice none 0 0]),3,40):=by kernel_rfl
theorem cS1 (w:World) (a b:Obj):((w.alloc a).alloc b).heap[w.heap.size]?=some a∧((w.alloc a).alloc b).heap[w.heap.size+1]?=some b∧((w.alloc a).alloc b).heap.size=w.heap.size+2∧Below w.heap.size w ((w.alloc a).alloc b):=by
 refine⟨?_,?_,by simp,((Below.refl _ _).alloc zn _).alloc ZH2 _⟩
 ·rw[heap_alloc_old _ _ ZH2,heap_alloc_new]
 ·have:=heap_alloc_new (w.alloc a) b
  simpa using this
theorem cH4 {n base:Nat} {w W:World} {v:Value} {A:Option Addr} {x:St} {a:Nat} (h1:Bs (aB n) w A x.other) (g1:x.other.length≤big) (hs:aC (aB n) w W) (hb:base≤n) (hap:∀ b,aB n b→v.ownBlock≠some b) :
  StR (fun b=>aB base b∧v.ownBlock≠some b) W [.int .i64 x.bit,.bool x.right,.slice A x.other.length a] x :=
 ⟨A,a,rfl,(h1.bsame hs).bless fun b _ h=>⟨Nat.le_trans hb h,hap b h⟩,g1⟩
theorem Own.same_from3 {α:Type} {size:Nat} {R:(Nat→Prop)→World→List Value→α→Prop} {w w':World} {base:Nat} {e:TypeId} {v:Value} {l:List α} (hR:bI R) (h:Own size R (aB base) w base e v l) (hb:aC (aB base) w w'):Own size R (aB base) w' base e v l:=by
 obtain⟨xs,h1,h2⟩:=h
 refine⟨xs,⟨h1.1,?_⟩,fun i hi=>?_⟩
 ·rcases h1.2 with hn|⟨g,cap,cur,hv',hb',hh,rest⟩
  ·exact .inl hn
  ·refine .inr ⟨g,cap,cur,hv',hb',?_,rest⟩
   rw[hb.block g hb' (Array.getElem?_eq_some_iff.1 hh).1]
   exact hh
 ·have h3:=hR.less _ (fun b=>(aB base b∧v.ownBlock≠some b)∧aB base b) w _ _ (fun b hb2 hs=>⟨hs,hs.1⟩) (h2 i hi)
  have h4:=hR.same _ w w' _ _ ⟨hb.size,fun k hk hk2=>hb.block k hk.2 hk2⟩ h3
  exact hR.less _ _ _ _ _ (fun b _ hs=>hs.1) h4
end Go.Proofs.YtablgnacmpcfeaaGreatDoor
