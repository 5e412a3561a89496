/- Kec: The digest's function in plain words: 25 lanes of 64 bits; no program. Lanes as the model's numbers: without a sign, and with one. The state of 25 lanes in a block; tables of the digest: words for memory; plain laws of stir. Plain laws of the references' digest: places of lanes, the register of bits, bytes out of lanes. The conditions of each are in its words. -/
import Derived.Laws.BitsLemmas
import Derived.Laws.Bits64
import Derived.Laws.Entries
import Derived.Deep.MidRow
import Derived.Test.YtablgnacmpcfeaaGreatDoorKBase
namespace Go.Proofs.YtablgnacmpcfeaaGreatDoor
set_option linter.unusedVariables false
set_option linter.unusedSimpArgs false
abbrev Ln:=BitVec 64
def rotl (x:Ln) (n:Nat):Ln:=x <<< n ||| x >>> (64 - n)
def ga (s:List Ln) (i:Nat):Ln:=s.getD i 0
def tab (n:Nat) (f:Nat→Ln):List Ln:=(List.range n).map f
theorem aO1 (n:Nat) (f:Nat→Ln):(tab n f).length=n:=by simp[tab]
theorem bZ7 {n i:Nat} (f:Nat→Ln) (h:i<n):ga (tab n f) i=f i:=by
 unfold ga tab
 rw[List.getD_eq_getElem?_getD,List.getElem?_map,List.getElem?_range h]
 rfl
theorem aI1 {n:Nat} {f g:Nat→Ln} (h:∀ k,k<n→f k=g k):tab n f=tab n g :=
 List.map_congr_left fun k hk=>h k (List.mem_range.1 hk)
theorem bZ8 (n i:Nat) (f:Nat→Ln):(tab n f)[i]?=if i<n then some (f i) else none:=by
 unfold tab
 rw[List.getElem?_map]
 by_cases h:i<n
 ·rw[if_pos h,List.getElem?_range h]
  rfl
 ·rw[if_neg h,List.getElem?_eq_none ZC8]
  rfl
theorem bO4 {s:List Ln} {n:Nat} (h:s.length=n):tab n (ga s)=s:=by
 apply List.ext_getElem?
 intro i
 rw[bZ8]
 by_cases hi:i<n
 ·rw[if_pos hi,List.getElem?_eq_getElem AO,ga,List.getD_eq_getElem?_getD,List.getElem?_eq_getElem AO]
  rfl
 ·rw[if_neg hi,List.getElem?_eq_none AO]
theorem bL5 {n i:Nat} (f:Nat→Ln) (v:Ln):(tab n f).set i v=tab n (fun k=>if k=i then v else f k):=by
 apply List.ext_getElem?
 intro k
 rw[bZ8,List.getElem?_set,bZ8,aO1]
 by_cases hk:i=k
 ·subst hk
  by_cases h:i<n
  ·rw[if_pos rfl,if_pos h,if_pos h,if_pos rfl]
  ·rw[if_pos rfl,if_neg h,if_neg h]
 ·rw[if_neg hk]
  by_cases h:k<n
  ·rw[if_pos h,if_pos h,if_neg (fun e=>hk e.symm)]
  ·rw[if_neg h,if_neg h]
def upto (n:Nat) (f:Nat→Ln) (s:List Ln) (i:Nat):List Ln:=tab n fun k=>if k<i then f k else ga s k
theorem bW1 {n:Nat} (f:Nat→Ln) {s:List Ln} (h:s.length=n):upto n f s 0=s:=by
 rw[upto]
 exact Eq.trans (aI1 fun k hk=>by rw[if_neg AO]) (bO4 h)
theorem bW2 {n i:Nat} (f:Nat→Ln) (s:List Ln):(upto n f s i).set i (f i)=upto n f s (i+1):=by
 rw[upto,bL5,upto]
 refine aI1 fun k _=>?_
 by_cases h1:k=i
 ·subst h1
  rw[if_pos rfl,if_pos AO]
 ·rw[if_neg h1]
  by_cases h2:k<i
  ·rw[if_pos h2,if_pos AO]
  ·rw[if_neg h2,if_neg AO]
theorem cE5 {n:Nat} (f:Nat→Ln) (s:List Ln):upto n f s n=tab n f:=aI1 fun k hk=>by rw[if_pos hk]
theorem cE6 {n i k:Nat} (f:Nat→Ln) (s:List Ln) (h:k<n) (hi:i≤k):ga (upto n f s i) k=ga s k:=by
 rw[upto,bZ7 _ h,if_neg AO]
theorem bO5 (n:Nat) (f:Nat→Ln) (s:List Ln) (i:Nat):(upto n f s i).length=n:=aO1 _ _
def bF1 (s:List Ln) (x:Nat):Ln:=ga s x ^^^ ga s (x+5) ^^^ ga s (x+10) ^^^ ga s (x+15) ^^^ ga s (x+20)
def aZ2 (s:List Ln) (k:Nat):Ln:=ga s k ^^^ (bF1 s ((k % 5+4) % 5) ^^^ rotl (bF1 s ((k % 5+1) % 5)) 1)
def goesT:List Nat:=[10,7,11,17,18,3,5,16,8,21,24,4,15,23,19,13,12,2,20,14,22,9,6,1]
def turnsT:List Nat:=[1,3,6,10,15,21,28,36,45,55,2,14,27,41,56,8,25,43,62,18,39,61,20,44]
def roundsT:List Nat:=[0x0000000000000001,0x0000000000008082,0x800000000000808a,0x8000000080008000,0x000000000000808b,0x0000000080000001,0x8000000080008081,0x8000000000008009,0x000000000000008a,0x0000000000000088,0x0000000080008009,0x000000008000000a,0x000000008000808b,0x800000000000008b,0x8000000000008089,0x8000000000008003,0x8000000000008002,0x8000000000000080,0x000000000000800a,0x800000008000000a,0x8000000080008081,0x8000000000008080,0x0000000080000001,0x8000000080008008]
def goS (i:Nat):Nat:=goesT.getD i 0
def tnS (i:Nat):Nat:=turnsT.getD i 0
def srcS (i:Nat):Nat:=if i=0 then 1 else goS (i - 1)
def posS (k:Nat):Nat:=goesT.idxOf k
theorem go_lt:∀ i,i<24→goS i<25∧goS i≠0:=by decide
theorem tn_lt:∀ i,i<24→1≤tnS i∧tnS i<63:=by decide
theorem pos_go:∀ i,i<24→posS (goS i)=i:=by decide
theorem pos_lt:∀ k,k<25→k≠0→posS k<24:=by decide
theorem pos_zero:posS 0=24:=by decide
theorem go_pos:∀ k,k<25→posS k<24→goS (posS k)=k:=by decide
def cL1 (s:List Ln) (k:Nat):Ln:=rotl (ga s (srcS (posS k))) (tnS (posS k))
def aJ2 (old s:List Ln) (i:Nat):List Ln:=tab 25 fun k=>if posS k<i then cL1 s k else ga old k
theorem bO6 {old s:List Ln} (h:old.length=25):aJ2 old s 0=old:=by
 rw[aJ2]
 refine Eq.trans (aI1 fun k hk=>?_) (bO4 h)
 rw[if_neg AO]
theorem cL2 (old s:List Ln) {i:Nat} (h:i<24):(aJ2 old s i).set (goS i) (rotl (ga s (srcS i)) (tnS i))=aJ2 old s (i+1):=by
 rw[aJ2,bL5,aJ2]
 refine aI1 fun k hk=>?_
 by_cases h1:k=goS i
 ·rw[if_pos h1,h1,pos_go i h,if_pos AO,cL1,pos_go i h]
 ·rw[if_neg h1]
  have h2:posS k≠i:=fun e=>by
   have:=go_pos k hk AO
   rw[e] at this
   exact h1 this.symm
  by_cases h3:posS k<i
  ·rw[if_pos h3,if_pos AO]
  ·rw[if_neg h3,if_neg AO]
theorem cT5 (old s:List Ln) {i:Nat} (h:i<24):ga (aJ2 old s i) (goS i)=ga old (goS i):=by
 rw[aJ2,bZ7 _ (go_lt i h).1,pos_go i h,if_neg AO]
def cL3 (s:List Ln):List Ln:=tab 25 fun k=>if k=0 then ga s 0 else cL1 s k
theorem cT6 {old s:List Ln} (h:ga old 0=ga s 0):aJ2 old s 24=cL3 s:=by
 refine aI1 fun k hk=>?_
 by_cases h1:k=0
 ·subst h1
  rw[pos_zero,if_neg AO,if_pos rfl,h]
 ·rw[if_pos (pos_lt k hk h1),if_neg h1]
def chiS (s:List Ln) (k:Nat):Ln:=ga s k ^^^ (~~~ ga s ((k % 5+1) % 5+k / 5*5) &&& ga s ((k % 5+2) % 5+k / 5*5))
def iotaS (s:List Ln) (v:Ln):List Ln:=s.set 0 (ga s 0 ^^^ v)
def rcS (r:Nat):Ln:=BitVec.ofNat 64 (roundsT.getD r 0)
def mixS (s:List Ln):List Ln:=tab 25 (chiS (cL3 (tab 25 (aZ2 s))))
def bW3 (s:List Ln) (r:Nat):List Ln:=iotaS (mixS s) (rcS r)
theorem cQ9 (s:List Ln):(mixS s).length=25:=aO1 _ _
theorem stir_len (s:List Ln) (r:Nat):(bW3 s r).length=25:=by rw[bW3,iotaS,List.length_set,cQ9]
def aZ3 (s:List Ln) (n:Nat):List Ln:=(List.range n).foldl bW3 s
theorem bO7 (s:List Ln) (n:Nat):aZ3 s (n+1)=bW3 (aZ3 s n) n:=by
 rw[aZ3,List.range_succ,List.foldl_append]
 rfl
theorem bW4 {s:List Ln} (h:s.length=25):∀ n,(aZ3 s n).length=25
 | 0=>h
 | n+1=>by rw[bO7];exact stir_len _ _
def aJ3 (p:List UInt8) (i:Nat):Nat:=(p.getD i 0).toNat
def lowS (p:List UInt8) (k:Nat):Nat→Nat
 | 0=>0
 | m+1=>lowS p k m+aJ3 p (8*k+m)*256 ^ m
theorem bZ9 (p:List UInt8) (i:Nat):aJ3 p i<256:=by unfold aJ3;exact UInt8.toNat_lt _
theorem cL4 (p:List UInt8) (k:Nat):∀ m,lowS p k m<256 ^ m
 | 0=>by simp[lowS]
 | m+1=>by
  have h1:=cL4 p k m
  have h2:=bZ9 p (8*k+m)
  have h3:aJ3 p (8*k+m)*256 ^ m≤255*256 ^ m:=Nat.mul_le_mul_right _ AO
  rw[lowS,Nat.pow_succ]
  omega
theorem xor_join {a b i:Nat} (h:a<2 ^ i):a ^^^ (b*2 ^ i)=a+b*2 ^ i:=by
 apply Nat.eq_of_testBit_eq
 intro j
 rw[Nat.testBit_xor,Nat.add_comm,Nat.mul_comm,Nat.testBit_two_pow_mul_add _ h]
 by_cases hj:j<i
 ·rw[if_pos hj,Nat.testBit_two_pow_mul]
  simp[Nat.not_le.2 hj]
 ·rw[if_neg hj,Nat.testBit_two_pow_mul,Nat.testBit_lt_two_pow (Nat.lt_of_lt_of_le h (Nat.pow_le_pow_right ZD9 AO))]
  simp[Nat.not_lt.1 hj]
def bJ5 (p:List UInt8) (k m:Nat):Ln:=BitVec.ofNat 64 (lowS p k m)
theorem cL5 (m:Nat):256 ^ m=2 ^ (8*m):=by rw[Nat.pow_mul]
theorem cT7 (p:List UInt8) (k:Nat) {m:Nat} (h:m<8):bJ5 p k m ^^^ BitVec.ofNat 64 (aJ3 p (8*k+m)*2 ^ (8*m))=bJ5 p k (m+1):=by
 apply BitVec.eq_of_toNat_eq
 have h1:=cL4 p k m
 have h2:=bZ9 p (8*k+m)
 have h3:=cL4 p k (m+1)
 have h4:256 ^ (m+1)≤2 ^ 64:=by rw[cL5];exact Nat.pow_le_pow_right ZD9 AO
 have h5:lowS p k (m+1)=lowS p k m+aJ3 p (8*k+m)*2 ^ (8*m):=by rw[← cL5];rfl
 rw[cL5] at h1
 rw[bJ5,bJ5,BitVec.toNat_xor,BitVec.toNat_ofNat,BitVec.toNat_ofNat,BitVec.toNat_ofNat,Nat.mod_eq_of_lt AO,Nat.mod_eq_of_lt AO,Nat.mod_eq_of_lt AO,h5]
 exact xor_join h1
def bA7 (s:List Ln) (p:List UInt8):List Ln:=tab 25 fun k=>if k<17 then ga s k ^^^ bJ5 p k 8 else ga s k
def aG9 (s:List Ln) (p:List UInt8) (i:Nat):List Ln:=tab 25 fun k=>if k<17 then ga s k ^^^ bJ5 p k (min 8 (i - 8*k)) else ga s k
theorem cT8 (p:List UInt8) (k:Nat):bJ5 p k 0=0:=rfl
theorem cE7 {s:List Ln} (h:s.length=25) (p:List UInt8):aG9 s p 0=s:=by
 rw[aG9]
 refine Eq.trans (aI1 fun k hk=>?_) (bO4 h)
 rw[show min 8 (0 - 8*k)=0 by omega,cT8]
 split <;> simp
theorem cL6 (s:List Ln) (p:List UInt8):aG9 s p 136=bA7 s p:=by
 refine aI1 fun k hk=>?_
 by_cases h:k<17
 ·rw[if_pos h,if_pos h,show min 8 (136 - 8*k)=8 by omega]
 ·rw[if_neg h,if_neg h]
theorem cE8 (s:List Ln) (p:List UInt8) {i:Nat} (h:i<136) :
  (aG9 s p i).set (i / 8) (ga (aG9 s p i) (i / 8) ^^^ BitVec.ofNat 64 (aJ3 p i*2 ^ (i % 8*8)))=aG9 s p (i+1):=by
 have e:ga (aG9 s p i) (i / 8)=ga s (i / 8) ^^^ bJ5 p (i / 8) (i % 8):=by
  rw[aG9,bZ7 _ AO,if_pos AO,show min 8 (i - 8*(i / 8))=i % 8 by omega]
 have h8:=cT7 p (i / 8) (m:=i % 8) AO
 rw[show 8*(i / 8)+i % 8=i by omega,Nat.mul_comm 8] at h8
 rw[e,BitVec.xor_assoc,h8,aG9,bL5,aG9]
 refine aI1 fun k hk=>?_
 by_cases h1:k=i / 8
 ·subst h1
  rw[if_pos rfl,if_pos AO,show min 8 (i+1 - 8*(i / 8))=i % 8+1 by omega]
 ·rw[if_neg h1]
  by_cases h2:k<17
  ·rw[if_pos h2,if_pos h2,show min 8 (i - 8*k)=min 8 (i+1 - 8*k) by omega]
  ·rw[if_neg h2,if_neg h2]
def spS (p:List UInt8):Nat→List Ln
 | 0=>List.replicate 25 0
 | n+1=>aZ3 (bA7 (spS p n) (p.drop (136*n))) 24
theorem sp_len (p:List UInt8):∀ n,(spS p n).length=25
 | 0=>rfl
 | n+1=>by rw[spS];exact bW4 (aO1 _ _) 24
def padS (b:List UInt8):List UInt8 :=
 let z:=b++[6]++List.replicate (135 - b.length % 136) 0
 z.set (z.length - 1) (z.getD (z.length - 1) 0+128)
def aT4 (s:List Ln) (n:Nat):List UInt8:=(List.range n).map fun i=>UInt8.ofNat ((ga s (i / 8)).toNat / 2 ^ (i % 8*8) % 256)
theorem out_next (s:List Ln) (n:Nat):aT4 s (n+1)=aT4 s n++[UInt8.ofNat ((ga s (n / 8)).toNat / 2 ^ (n % 8*8) % 256)]:=by
 rw[aT4,List.range_succ,List.map_append]
 rfl
def aL2 (b:List UInt8):List UInt8:=aT4 (spS (padS b) ((padS b).length / 136)) 32
theorem aO2 (b:List UInt8):(aL2 b).length=32:=by simp[aL2,aT4]
end Go.Proofs.YtablgnacmpcfeaaGreatDoor
namespace Go.Proofs.YtablgnacmpcfeaaGreatDoor
open Go.RowKit
set_option linter.unusedVariables false
set_option linter.unusedSimpArgs false
def uv (x:Ln):Int:=(x.toNat:Int)
def iv (x:Ln):Int:=x.toInt
theorem cA0 (x:Ln):BitVec.ofInt 64 (x.toNat:Int)=x:=by rw[BitVec.ofInt_natCast,BitVec.ofNat_toNat,BitVec.setWidth_eq]
theorem bW5 (x:Ln):BitVec.ofInt 64 (uv x)=x:=cA0 x
theorem cE9 (n:Int):IntKind.u64.wrap n=uv (BitVec.ofInt 64 n):=by
 rw[IntKind.wrap_u64,uv,BitVec.toNat_ofInt]
 omega
theorem aT5 (a b:Ln):bits .xor .u64 (uv a) (uv b)=uv (a ^^^ b):=by
 show IntKind.u64.wrap ((BitVec.ofInt 64 (uv a) ^^^ BitVec.ofInt 64 (uv b)).toNat:Int)=_
 rw[bW5,bW5,cE9,cA0]
theorem uv_and (a b:Ln):bits .and .u64 (uv a) (uv b)=uv (a &&& b):=by
 show IntKind.u64.wrap ((BitVec.ofInt 64 (uv a) &&& BitVec.ofInt 64 (uv b)).toNat:Int)=_
 rw[bW5,bW5,cE9,cA0]
theorem uv_or (a b:Ln):bits .or .u64 (uv a) (uv b)=uv (a ||| b):=by
 show IntKind.u64.wrap ((BitVec.ofInt 64 (uv a) ||| BitVec.ofInt 64 (uv b)).toNat:Int)=_
 rw[bW5,bW5,cE9,cA0]
theorem uv_ones:(18446744073709551615:Int)=uv (BitVec.allOnes 64):=rfl
theorem uv_not (a:Ln):bits .xor .u64 18446744073709551615 (uv a)=uv (~~~a):=by rw[uv_ones,aT5,BitVec.allOnes_xor]
theorem uv_shl (x:Ln) {n:Nat} (h:n≤64):IntKind.u64.wrap (uv x*2 ^ min n 64)=uv (x <<< n):=by
 rw[cE9,Nat.min_eq_left h]
 congr 1
 apply BitVec.eq_of_toNat_eq
 rw[BitVec.toNat_ofInt,BitVec.toNat_shiftLeft,Nat.shiftLeft_eq,uv]
 have:((x.toNat:Int)*2 ^ n)=((x.toNat*2 ^ n:Nat):Int):=by simp
 rw[this]
 omega
theorem uv_shr (x:Ln) {n:Nat} (h:n≤64):uv x / 2 ^ min n 64=uv (x >>> n):=by
 rw[Nat.min_eq_left h,uv,uv,BitVec.toNat_ushiftRight,Nat.shiftRight_eq_div_pow]
 simp
theorem cT9 (x:Ln) {n:Nat} (h:n≤64):bits .or .u64 (IntKind.u64.wrap (uv x*2 ^ min n 64)) (uv x / 2 ^ min (64 - n) 64)=uv (rotl x n):=by
 rw[uv_shl x h,uv_shr x AO,uv_or,rotl]
theorem byte_shl (b:UInt8) {s:Nat} (h:s≤64):IntKind.u64.wrap ((b.toNat:Int)*2 ^ min s 64)=uv (BitVec.ofNat 64 (b.toNat*2 ^ s)):=by
 rw[cE9,Nat.min_eq_left h]
 congr 1
theorem byte_shr (x:Ln) {s:Nat} (h:s≤64):IntKind.u8.wrap (uv x / 2 ^ min s 64)=((UInt8.ofNat (x.toNat / 2 ^ s % 256)).toNat:Int):=by
 rw[Nat.min_eq_left h,uv,IntKind.wrap_u8]
 have:((x.toNat:Int) / 2 ^ s)=((x.toNat / 2 ^ s:Nat):Int):=by simp
 rw[this,UInt8.toNat_ofNat']
 omega
def uc (l:List Ln):List Value:=l.map fun x=>Value.int .u64 (uv x)
theorem uc_set (l:List Ln) (i:Nat) (x:Ln):(uc l).toArray.setIfInBounds i (.int .u64 (uv x))=(uc (l.set i x)).toArray:=by
 unfold uc
 rw[List.setIfInBounds_toArray,List.map_set]
theorem uc_get (l:List Ln) {k:Nat} (hk:k<l.length):(uc l)[k]?=some (.int .u64 (uv (ga l k))):=by
 unfold uc
 rw[List.getElem?_map,List.getElem?_eq_getElem hk,ga,List.getD_eq_getElem?_getD,List.getElem?_eq_getElem hk]
 rfl
theorem aF0 {w:World} {g:Nat} {t:TypeId} {l:List Ln} (h:w.heap[g]?=some (.cells (uc l).toArray t (0,0))) {k:Nat} (hk:k<l.length):w.cell? ⟨g,k,none⟩=some (.int .u64 (uv (ga l k))):=by
 rw[aA (cs:=uc l) h k,uc_get l hk]
theorem bA8 {w:World} {g:Nat} {t:TypeId} {l:List Ln} (h:w.heap[g]?=some (.cells (uc l).toArray t (0,0))) (k:Nat):w.frozen? ⟨g,k,none⟩=false:=aD (cs:=uc l) h k
structure bD (w:World):Prop where
 rounds:∀ k,k<24→w.cell? ⟨8,k,none⟩=some (.int .u64 (uv (rcS k)))
 goes:w.rangeAt 6 0 (goesT.map fun (n:Nat)=>Value.int .i64 (n:Int))
 turns:∀ k,k<24→w.cell? ⟨7,k,none⟩=some (.int .i64 (tnS k:Nat))
theorem bD.bsame {S:Nat→Prop} {w w':World} (h:bD w) (hb:aC S w w') (hS:S 8∧S 6∧S 7):bD w' :=
 ⟨fun k hk=>(hb.cell hS.1 (World.block_lt_of_cell? w _ (h.rounds k hk))).trans (h.rounds k hk),fun j v hv=>(hb.cell hS.2.1 (World.block_lt_of_cell? w _ (h.goes j v hv))).trans (h.goes j v hv),fun k hk=>(hb.cell hS.2.2 (World.block_lt_of_cell? w _ (h.turns k hk))).trans (h.turns k hk)⟩
theorem bD.below {w w':World} (h:bD w) (hb:Below w.heap.size w w'):bD w' :=
 ⟨fun k hk=>(hb.cell (World.block_lt_of_cell? w _ (h.rounds k hk))).trans (h.rounds k hk),fun j v hv=>(hb.cell (World.block_lt_of_cell? w _ (h.goes j v hv))).trans (h.goes j v hv),fun k hk=>(hb.cell (World.block_lt_of_cell? w _ (h.turns k hk))).trans (h.turns k hk)⟩
def aZ4 (s:List Ln) (n:Nat):List Ln:=(List.range 5).map fun x=>if x<n then bF1 s x else 0
theorem cols_set (s:List Ln) {n:Nat} (h:n<5):(aZ4 s n).set n (bF1 s n)=aZ4 s (n+1):=by
 have e:∀ n,aZ4 s n=tab 5 fun x=>if x<n then bF1 s x else 0:=fun _=>rfl
 rw[e,e,bL5]
 refine aI1 fun k hk=>?_
 by_cases h1:k=n
 ·subst h1;rw[if_pos rfl,if_pos AO]
 ·rw[if_neg h1]
  by_cases h2:k<n
  ·rw[if_pos h2,if_pos AO]
  ·rw[if_neg h2,if_neg AO]
theorem cR0 (s:List Ln) {x:Nat} (h:x<5):ga (aZ4 s 5) x=bF1 s x:=by
 have e:aZ4 s 5=tab 5 fun x=>if x<5 then bF1 s x else 0:=rfl
 rw[e,bZ7 _ h,if_pos h]
theorem bO8 (s:List Ln) (n:Nat):(aZ4 s n).length=5:=by simp[aZ4]
def aW6 (s:List Ln) (i:Nat):List Ln:=upto 25 (aZ2 s) s i
def bK6 (s:List Ln) (i:Nat):List Ln:=upto 25 (chiS s) s i
theorem cL7 (s:List Ln) {i:Nat} (h:i<24):ga (aJ2 s s i) (goS i)=ga s (srcS (i+1)):=by
 rw[cT5 s s h,srcS,if_neg AO,Nat.add_sub_cancel]
theorem cF0 {w:World} {base:Nat} {e:TypeId} {size:Nat} {v:Value} {n:Nat} {xs:List Value} (h:w.ownsRow base e size v n xs) (hn:0<n) :
  ∃ g cap,v=.slice (some ⟨g,0,none⟩) n cap∧base≤g∧g<w.heap.size∧n≤cap:=by
 rcases h.2 with ⟨_,h0⟩|⟨g,cap,cur,rfl,hge,hh,hcap,_⟩
 ·omega
 ·exact⟨g,cap,rfl,hge,(Array.getElem?_eq_some_iff.1 hh).1,hcap⟩
theorem cR1 {w w':World} {base:Nat} {e:TypeId} {size g n cap:Nat} {xs:List Value} (h:w.ownsRow base e size (.slice (some ⟨g,0,none⟩) n cap) n xs) (hb:w'.heap[g]?=w.heap[g]?):w'.ownsRow base e size (.slice (some ⟨g,0,none⟩) n cap) n xs:=by
 refine⟨h.1,?_⟩
 rcases h.2 with h0|⟨g',cap',cur,he,hge,hh,rest⟩
 ·exact .inl h0
 ·simp only[Value.slice.injEq,Option.some.injEq,Addr.mk.injEq,and_true,true_and] at he
  obtain⟨rfl,rfl⟩:=he
  exact .inr ⟨g,cap,cur,rfl,hge,hb.trans hh,rest⟩
def lenOf:Value→Nat
 | .slice _ n _=>n
 | _=>0
theorem aQ7 {w:World} {base:Nat} {e:TypeId} {size:Nat} {v:Value} {n:Nat} {xs:List Value} (h:w.ownsRow base e size v n xs):∃ A cap,v=.slice A n cap:=by
 rcases h.2 with ⟨rfl,h0⟩|⟨g,cap,cur,rfl,_⟩
 ·exact⟨none,0,by rw[h0]⟩
 ·exact⟨_,cap,rfl⟩
theorem bO9 {w:World} {base base':Nat} {e:TypeId} {size:Nat} {v:Value} {n:Nat} {xs:List Value} (h:w.ownsRow base e size v n xs) (hb:base'≤base):w.ownsRow base' e size v n xs:=by
 refine⟨h.1,?_⟩
 rcases h.2 with h0|⟨g,cap,cur,rfl,hge,rest⟩
 ·exact .inl h0
 ·exact .inr ⟨g,cap,cur,rfl,Nat.le_trans hb hge,rest⟩
def mx (t:Nat):Nat:=srcS t % 5
def aQ1 (b:List UInt8) (n:Nat):List UInt8:=b++[6]++List.replicate n 0
theorem cF1 (b:List UInt8) (n:Nat):(aQ1 b n).length=b.length+1+n:=by simp[aQ1];omega
theorem bW6 (b:List UInt8) (n:Nat):aQ1 b n++[0]=aQ1 b (n+1):=by
 rw[aQ1,aQ1,List.replicate_succ',List.append_assoc]
theorem pad_eq (b:List UInt8):padS b=(aQ1 b (135 - b.length % 136)).set ((aQ1 b (135 - b.length % 136)).length - 1) ((aQ1 b (135 - b.length % 136)).getD ((aQ1 b (135 - b.length % 136)).length - 1) 0+128):=rfl
theorem pad_last (b:List UInt8) (n:Nat):(aQ1 b n).getD ((aQ1 b n).length - 1) 0=if n=0 then 6 else 0:=by
 cases n with
 | zero =>
  rw[if_pos rfl,cF1]
  simp[aQ1]
 | succ n =>
  rw[if_neg AO,← bW6]
  simp
end Go.Proofs.YtablgnacmpcfeaaGreatDoor
