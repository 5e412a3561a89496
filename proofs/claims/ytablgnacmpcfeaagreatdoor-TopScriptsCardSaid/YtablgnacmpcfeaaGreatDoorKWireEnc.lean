/- WireEnc: Walks: wire.Encode, RequestBytes. The conditions of each are in its words. -/
import Derived.Test.YtablgnacmpcfeaaGreatDoorKWire
import Derived.Test.YtablgnacmpcfeaaGreatDoorKBase
namespace Go.Proofs.YtablgnacmpcfeaaGreatDoor
open Go.RowKit
set_option linter.unusedVariables false
set_option linter.unusedSimpArgs false
def bA (h:Nat) (r:Rq):Nat→List UInt8
 | 0=>[UInt8.ofNat r.kind.toNat]
 | j+1=>bA h r j++(if h / 2 ^ j % 2=1 then lpS (aV r j) else [])
def bK9 (r:Rq):List UInt8 × Int:=if aQ r≠0 then ([],aQ r) else (bA (bO r.kind.toNat) r 4,0)
theorem bX7 {a:List UInt8} (h:aE a=0):a.length≤16:=by unfold aE at h;split at h <;> omega
theorem cN7 {a:List UInt8} (h:aI a=0):a.length≤8:=by unfold aI at h;split at h <;> omega
theorem aR9 {h:Nat} {r:Rq} (hf:aB4 h r=0):(h % 2=1→r.name.length≤8∧r.key.length≤16)∧(h % 2=1→h / 4 % 2=1→r.last.length≤16)∧r.value.length≤32:=by
 unfold aB4 at hf
 by_cases h1:aA9 h r=0
 ·rw[if_neg (by simp[h1])] at hf
  by_cases h2:32<r.value.length
  ·rw[if_pos h2] at hf;cases hf
  ·unfold aA9 at h1
   refine⟨fun hh=>?_,fun hh hl=>?_,AO⟩
   ·rw[if_neg AO] at h1
    by_cases h3:aI r.name=0
    ·rw[if_neg (by simp[h3])] at h1
     by_cases h4:aE r.key=0
     ·exact⟨cN7 h3,bX7 h4⟩
     ·rw[if_pos h4] at h1;exact absurd h1 h4
    ·rw[if_pos h3] at h1;exact absurd h1 h3
   ·rw[if_neg AO] at h1
    by_cases h3:aI r.name=0
    ·rw[if_neg (by simp[h3])] at h1
     by_cases h4:aE r.key=0
     ·rw[if_neg (by simp[h4]),if_neg AO] at h1
      exact bX7 h1
     ·rw[if_pos h4] at h1;exact absurd h1 h4
    ·rw[if_pos h3] at h1;exact absurd h1 h3
 ·rw[if_pos h1] at hf;exact absurd hf h1
theorem aS8 {h:Nat} {r:Rq} {j:Nat} (hb:h / 2 ^ j % 2=1):bA h r (j+1)=bA h r j++lpS (aV r j):=by rw[bA,if_pos hb]
theorem aP2 {h:Nat} {r:Rq} {j:Nat} (hb:h / 2 ^ j % 2=0):bA h r (j+1)=bA h r j:=by rw[bA,if_neg AO,List.append_nil]
theorem bF9 {w:World} {base g:Nat} {l:List UInt8} (h:w.heap[g]?=some (.cells (l.map bv).toArray 5 (0,0))) (hb:base≤g) (hm:l.length≤maxLen) :
  w.ownsRow base 5 1 (.slice (some ⟨g,0,none⟩) l.length l.length) l.length (l.map bv) :=
 ⟨by simp,.inr ⟨g,l.length,_,rfl,hb,h,zn,hm,by simp,by rw[Nat.mul_one];exact List.take_of_length_le ZH2⟩⟩
theorem rq_kind {r:Rq} (h:aQ r=0):∃ k:Nat,r.kind=(k:Int)∧1≤k∧k≤8∧aB4 (bO k) r=0:=by
 unfold aQ at h
 by_cases hk:1≤r.kind∧r.kind≤8
 ·rw[if_neg (by simpa using hk)] at h
  exact⟨r.kind.toNat,AO,by omega,AO,h⟩
 ·rw[if_pos hk] at h
  cases h
end Go.Proofs.YtablgnacmpcfeaaGreatDoor
