/- Path: Walks: keys as bits. Walk of path.Bit. The first bit at which two bytes differ. The walks of PathBits and PathParts. The walk of PathParts. The conditions of each are in its words. -/
import Derived.OpenShut
import Derived.Test.YtodopbnhkkkcbaaGreatDoorKBase
namespace Go.Proofs.YtodopbnhkkkcbaaGreatDoor
open Go.RowKit
set_option linter.unusedVariables false
set_option linter.unusedSimpArgs false
set_option maxRecDepth 100000
set_option maxHeartbeats 8000000
def nAt (b j:Nat):Nat:=b % (256 / 2 ^ j)
def pAt (j:Nat):Nat:=128 / 2 ^ j
def bitN (b j:Nat):Bool:=decide (pAt j≤nAt b j)
def aR6 (b:UInt8) (j:Nat):List Bool:=true :: (List.range j).map (bitN b.toNat)
def bits (l:List UInt8):List Bool:=l.flatMap fun b=>aR6 b 8
theorem bP9 (l:List UInt8):(bits l).length=9*l.length:=by
 induction l with
 | nil=>rfl
 | cons b l ih=>rw[show bits (b :: l)=aR6 b 8++bits l from rfl,List.length_append,ih];simp[aR6];omega
theorem aQ8 (b:UInt8) (j:Nat):(aR6 b j).length=j+1:=by simp[aR6]
def cA3 (l:List UInt8):List Bool:=bits l++List.replicate (145 - 9*l.length) false
theorem bits_get:∀ (a:List UInt8) (q r:Nat) (hq:q<a.length),r<9→(bits a)[9*q+r]?=(aR6 a[q] 8)[r]?
 | [],q,r,hq,_=>absurd hq ZH2
 | x :: a,0,r,_,hr=>by
  rw[show bits (x :: a)=aR6 x 8++bits a from rfl,List.getElem?_append_left (by rw[aQ8];omega)]
  simp
 | x :: a,q+1,r,hq,hr=>by
  rw[show bits (x :: a)=aR6 x 8++bits a from rfl,List.getElem?_append_right (by rw[aQ8];omega),aQ8,show 9*(q+1)+r - (8+1)=9*q+r by omega,bits_get a q r (by simpa using hq) hr]
  simp
theorem shr_all:∀ x<256,∀ r<9,0<r→(Go.bits BinOp.and IntKind.u8 (((x:Nat):Int) / 2 ^ (8 - r)) 1==1)=bitN x (r - 1):=by decide +kernel
theorem shr_one (x:UInt8) {r:Nat} (h:r<9) (h0:0<r):(Go.bits BinOp.and IntKind.u8 ((x.toNat:Int) / 2 ^ (8 - r)) 1==1)=((aR6 x 8)[r]?).getD false:=by
 rw[shr_all x.toNat x.toNat_lt r h h0]
 obtain⟨j,rfl⟩:∃ j,r=j+1:=⟨r - 1,AO⟩
 simp only[aR6,List.getElem?_cons_succ,List.getElem?_map,Nat.add_sub_cancel]
 rw[List.getElem?_range AO]
 rfl
def bP (a:List UInt8) (i:Nat):Bool:=(cA3 a).getD i false
theorem bitB_off {a:List UInt8} {i q r:Nat} (hi:i=9*q+r) (h:a.length≤q):bP a i=false:=by
 unfold bP cA3
 rw[List.getD_eq_getElem?_getD,List.getElem?_append_right (by rw[bP9];omega),List.getElem?_replicate]
 split <;> rfl
theorem bitB_on {a:List UInt8} {i q r:Nat} (hi:i=9*q+r) (hr:r<9) (h:q<a.length):bP a i=((aR6 a[q] 8)[r]?).getD false:=by
 unfold bP cA3
 rw[List.getD_eq_getElem?_getD,List.getElem?_append_left (by rw[bP9];omega),hi,bits_get a q r h hr]
theorem bF4 (w:World) (A:Option Addr) (a:List UInt8) (c:Nat) (i:Nat) (ha:Bs All w A a) (hi:i<145) (hn:a.length≤16) :
  Calls Tryz.prog 107 #[.slice A a.length c,.int .i64 i] w (fun e w'=>e=.returned (.bool (bP a i))∧w'=w):=by
 obtain⟨q,hq⟩:∃ q,q=i / 9:=⟨_,rfl⟩
 obtain⟨r,hr⟩:∃ r,r=i % 9:=⟨_,rfl⟩
 have hir:i=9*q+r:=by omega
 have hr9:r<9:=by omega
 have hq16:q≤16:=by omega
 have e1:(i:Int) / 9=(q:Int):=by omega
 have e2:(i:Int) % 9=(r:Int):=by omega
 have Hir:=zh hir
 clear hq hr hir
 by_cases h1:a.length≤q
 ·have b1:decide ((a.length:Int)≤(q:Int))=true:=decide_eq_true AO
  rw[bitB_off Hir.out h1]
  clear Hir
  go_enter Tryz.func107,Tryz.ntmps107
  go_wp2
  go_ret
  exact⟨rfl,rfl⟩
 ·have b1:decide ((a.length:Int)≤(q:Int))=false:=decide_eq_false AO
  rw[bitB_on Hir.out hr9 AO]
  clear Hir
  obtain⟨ab,ao,rfl,_,hal,hcell⟩:=ha.bat (k:=q) AO
  obtain⟨x,hx⟩:∃ x,x=a[q]:=⟨_,rfl⟩
  rw[← hx] at hcell
  rw[← hx]
  clear hx ha
  rcases (by omega:r=0∨0<r) with h2|h2
  ·subst h2
   rw[show ((aR6 x 8)[0]?).getD false=true from rfl]
   go_enter Tryz.func107,Tryz.ntmps107
   go_wp2
   go_ret
   exact⟨rfl,rfl⟩
  ·have b2:decide ((r:Int)=0)=false:=decide_eq_false AO
   go_enter Tryz.func107,Tryz.ntmps107
   go_wp2
   go_ret
   exact⟨aC9 (shr_one x hr9 h2),rfl⟩
def bK8 (a:List UInt8) (i:Int):Bool × Int:=if aE a=0 then (if 0≤i∧i≤144 then (bP a i.toNat,0) else (false,2)) else (false,aE a)
theorem key16 {a:List UInt8} (h:aE a=0):a.length≤16:=by unfold aE at h;split at h <;> omega
theorem aR7 (w:World) (A:Option Addr) (a:List UInt8) (c:Nat) (i:Int) (ha:Bs All w A a) :
  Calls Tryz.prog 80 #[.slice A a.length c,.int .i64 i] w (bQ w (.tuple #[.bool (bK8 a i).1,.int .i64 (bK8 a i).2])):=by
 have Ha:=zh ha
 clear ha
 by_cases hk:aE a=0
 ·have H16:=zh (key16 hk)
  have Hk:=zh hk
  rcases (by omega:i<0∨(0≤i∧145≤i)∨(0≤i∧i≤144)) with h|⟨h,h'⟩|⟨h,h'⟩
  ·have e:bK8 a i=(false,2):=by unfold bK8;rw[if_pos hk,if_neg AO]
   rw[e]
   clear e hk
   go_enter Tryz.func80,Tryz.ntmps80
   go_wp2_with (go_at_call 49;refine (aF _ A a c).mono ?_;rintro e w1 ⟨rfl,rfl⟩;rw[Hk.out])
   go_ret2
   exact⟨rfl,Below.refl _ _⟩
  ·have e:bK8 a i=(false,2):=by unfold bK8;rw[if_pos hk,if_neg AO]
   rw[e]
   clear e hk
   go_enter Tryz.func80,Tryz.ntmps80
   go_wp2_with (go_at_call 49;refine (aF _ A a c).mono ?_;rintro e w1 ⟨rfl,rfl⟩;rw[Hk.out])
   go_ret2
   exact⟨rfl,Below.refl _ _⟩
  ·obtain⟨n,rfl⟩:∃ n:Nat,i=n:=⟨i.toNat,AO⟩
   have e:bK8 a n=(bP a n,0):=by unfold bK8;rw[if_pos hk,if_pos ⟨h,h'⟩];simp
   rw[e]
   have hn:n<145:=by omega
   clear e hk
   go_enter Tryz.func80,Tryz.ntmps80
   go_wp2_with (first
    | (go_at_call 49;refine (aF _ A a c).mono ?_;rintro e w1 ⟨rfl,rfl⟩;rw[Hk.out])
    | (go_at_call 107;refine (bF4 _ A a c n Ha.out hn H16.out).mono ?_;rintro e w2 ⟨rfl,rfl⟩))
   go_ret2
   exact⟨rfl,Below.refl _ _⟩
 ·have e:bK8 a i=(false,aE a):=by unfold bK8;rw[if_neg hk]
  rw[e]
  have b1:(aE a != 0)=true:=by simpa using hk
  clear e hk
  go_enter Tryz.func80,Tryz.ntmps80
  go_wp2_with (go_at_call 49;refine (aF _ A a c).mono ?_;rintro e w1 ⟨rfl,rfl⟩)
  go_ret2
  exact⟨rfl,Below.refl _ _⟩
end Go.Proofs.YtodopbnhkkkcbaaGreatDoor
namespace Go.Proofs.YtodopbnhkkkcbaaGreatDoor
set_option linter.unusedVariables false
set_option linter.unusedSimpArgs false
set_option maxRecDepth 100000
set_option maxHeartbeats 8000000
def aU8 (x y:Nat):Nat:=((List.range 8).find? fun j=>bitN x j != bitN y j).getD 8
theorem byte_first:∀ x<256,∀ y<256,x<y→aU8 x y<8∧(bitN x (aU8 x y)=false∧bitN y (aU8 x y)=true)∧(List.range (aU8 x y)).all (fun j=>bitN x j==bitN y j)=true:=by decide +kernel
end Go.Proofs.YtodopbnhkkkcbaaGreatDoor
namespace Go.Proofs.YtodopbnhkkkcbaaGreatDoor
open Go.RowKit
set_option linter.unusedVariables false
set_option linter.unusedSimpArgs false
set_option maxRecDepth 100000
set_option maxHeartbeats 8000000
def aF7 (a b:List UInt8):Nat→Nat→Int
 | 0,_=>-1
 | n+1,k=>if bP a k=bP b k then aF7 a b n (k+1) else (k:Int)
theorem cF6 {a b:List UInt8} {k:Nat} (hk:k<145):aF7 a b (145 - k) k=if bP a k=bP b k then aF7 a b (145 - (k+1)) (k+1) else (k:Int):=by
 obtain⟨m,hm⟩:∃ m,145 - k=m+1:=⟨144 - k,AO⟩
 have e:145 - (k+1)=m:=by omega
 rw[hm,e]
 rfl
def bC2 (a b:List UInt8):Int × Int:=if aE a=0 then (if aE b=0 then (aF7 a b 145 0,0) else (0,aE b)) else (0,aE a)
theorem bJ7 (w : World) (A B : Option Addr) (a b : List UInt8) (c d : Nat) (ha : Bs All w A a) (hb : Bs All w B b) :
    Calls Tryz.prog 110 #[.slice A a.length c, .slice B b.length d] w (bQ w (.tuple #[.int .i64 (bC2 a b).1, .int .i64 (bC2 a b).2])) := by
  have Ha := zh ha
  have Hb := zh hb
  clear ha hb
  by_cases hk : aE a = 0
  · have H16 := zh (key16 hk)
    have Hk := zh hk
    by_cases hm : aE b = 0
    · have J16 := zh (key16 hm)
      have Jk := zh hm
      have e : bC2 a b = (aF7 a b 145 0, 0) := by unfold bC2; rw [if_pos hk, if_pos hm]
      rw [e]
      obtain ⟨r, hr⟩ : ∃ r, r = aF7 a b 145 0 := ⟨_, rfl⟩
      rw [← hr]
      have Hr := zh hr
      clear e hk hm hr
      go_enter Tryz.func110, Tryz.ntmps110
      go_wp2_with (go_at_call 49; (first | (with_reducible refine (aF _ A a c).mono ?_; rintro e w1 ⟨rfl, rfl⟩; rw [Hk.out]) | (with_reducible refine (aF _ B b d).mono ?_; rintro e w2 ⟨rfl, rfl⟩; rw [Jk.out])))
      go_loopw [19] (fun i wr => ∃ k : Nat, k ≤ 145 ∧ i = .int .i64 k ∧ r = aF7 a b (145 - k) k ∧ wr = w) (fun i _ => 145 - (intOf i).toNat)
      case atStart => exact ⟨0, AO, rfl, Hr.out, rfl⟩
      case round =>
        obtain ⟨k, hk, rfl, hr, rfl⟩ := hrel
        by_cases hlt : k < 145
        · rw [cF6 hlt] at hr
          rcases Bool.eq_false_or_eq_true (bP a k) with hxa | hxa <;> rcases Bool.eq_false_or_eq_true (bP b k) with hxb | hxb
          all_goals
            rw [hxa, hxb] at hr
            have Hxa := zh hxa
            have Hxb := zh hxb
            clear hxa hxb
            first
              | (rw [if_neg ZD9] at hr
                 have Hr2 := zh hr
                 clear hr
                 go_wp2_with (go_at_call 107; (first | (with_reducible refine (bF4 _ A a c k Ha.out hlt H16.out).mono ?_; rintro e w3 ⟨rfl, rfl⟩; rw [Hxa.out]) | (with_reducible refine (bF4 _ B b d k Hb.out hlt J16.out).mono ?_; rintro e w4 ⟨rfl, rfl⟩; rw [Hxb.out])))
                 go_ret2
                 exact ⟨by rw [Hr2.out]; rfl, Below.refl _ _⟩)
              | (rw [if_pos rfl] at hr
                 have Hr2 := zh hr
                 clear hr
                 go_wp2_with (go_at_call 107; (first | (with_reducible refine (bF4 _ A a c k Ha.out hlt H16.out).mono ?_; rintro e w3 ⟨rfl, rfl⟩; rw [Hxa.out]) | (with_reducible refine (bF4 _ B b d k Hb.out hlt J16.out).mono ?_; rintro e w4 ⟨rfl, rfl⟩; rw [Hxb.out])))
                 exact ⟨⟨k + 1, AO, rfl, Hr2.out, trivial⟩, by simp [intOf]; omega⟩)
        · obtain rfl : k = 145 := by omega
          rw [show aF7 a b (145 - 145) 145 = -1 from rfl] at hr
          subst hr
          go_wp2
          go_ret2
          exact ⟨rfl, Below.refl _ _⟩
    · have e : bC2 a b = (0, aE b) := by unfold bC2; rw [if_pos hk, if_neg hm]
      rw [e]
      have b1 : (aE b != 0) = true := by simpa using hm
      clear e hk hm
      go_enter Tryz.func110, Tryz.ntmps110
      go_wp2_with (go_at_call 49; (first | (with_reducible refine (aF _ A a c).mono ?_; rintro e w1 ⟨rfl, rfl⟩; rw [Hk.out]) | (with_reducible refine (aF _ B b d).mono ?_; rintro e w2 ⟨rfl, rfl⟩)))
      go_ret2
      exact ⟨rfl, Below.refl _ _⟩
  · have e : bC2 a b = (0, aE a) := by unfold bC2; rw [if_neg hk]
    rw [e]
    have b1 : (aE a != 0) = true := by simpa using hk
    clear e hk
    go_enter Tryz.func110, Tryz.ntmps110
    go_wp2_with (go_at_call 49; refine (aF _ A a c).mono ?_; rintro e w1 ⟨rfl, rfl⟩)
    go_ret2
    exact ⟨rfl, Below.refl _ _⟩
end Go.Proofs.YtodopbnhkkkcbaaGreatDoor
