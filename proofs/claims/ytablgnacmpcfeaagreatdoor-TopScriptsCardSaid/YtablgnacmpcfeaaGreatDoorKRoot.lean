/- Root: Keys in order, and their bits; the root of pairs in plain words: no program. The root's plain words: parts that are short, the least bit at which pairs differ, the two sides. No program. Walks: the digests of a leaf and of a fork, in the program and in the document's answer. Keys and values are short. Walks: tree.parted and tree.root. Pairs that rise, of which each may be. The conditions of each are in its words. -/
import Derived.Test.YtablgnacmpcfeaaGreatDoorKBase
import Derived.Test.YtablgnacmpcfeaaGreatDoorKPath
import Derived.Test.YtablgnacmpcfeaaGreatDoorKKec
import Derived.Test.YtablgnacmpcfeaaGreatDoorKSum
import Derived.Test.YtablgnacmpcfeaaGreatDoorKTrees
namespace Go.Proofs.YtablgnacmpcfeaaGreatDoor
open Go.RowKit
set_option linter.unusedVariables false
set_option linter.unusedSimpArgs false
set_option maxRecDepth 100000
set_option maxHeartbeats 8000000
theorem aU9 (a:List UInt8) (n:Nat):bP a n=(bits a).getD n false:=by
 unfold bP cA3
 by_cases h:n<(bits a).length
 ·rw[List.getD_eq_getElem?_getD,List.getElem?_append_left h,List.getD_eq_getElem?_getD]
 ·rw[List.getD_eq_getElem?_getD,List.getElem?_append_right AO,List.getElem?_replicate,List.getD_eq_getElem?_getD,List.getElem?_eq_none AO]
  split <;> rfl
theorem bitB_nil (n:Nat):bP [] n=false:=by rw[aU9];rfl
theorem aV0 (x:UInt8) (a:List UInt8):bP (x :: a) 0=true:=by rw[aU9];rfl
theorem aQ9 (x:UInt8) (a:List UInt8) {j:Nat} (h:j<8):bP (x :: a) (j+1)=bitN x.toNat j:=by
 rw[aU9,show bits (x :: a)=aR6 x 8++bits a from rfl,List.getD_eq_getElem?_getD,List.getElem?_append_left (by rw[aQ8];omega)]
 simp only[aR6,List.getElem?_cons_succ,List.getElem?_map]
 rw[List.getElem?_range h]
 rfl
theorem bA9 (x:UInt8) (a:List UInt8) (n:Nat):bP (x :: a) (n+9)=bP a n:=by
 rw[aU9,aU9,show bits (x :: a)=aR6 x 8++bits a from rfl,List.getD_eq_getElem?_getD,List.getElem?_append_right (by rw[aQ8];omega),aQ8,List.getD_eq_getElem?_getD]
 congr 2
theorem bitB_far {a:List UInt8} {n:Nat} (h:9*a.length≤n):bP a n=false:=by
 rw[aU9,List.getD_eq_getElem?_getD,List.getElem?_eq_none (by rw[bP9];exact h)]
 rfl
def aZ7 (a b:List UInt8) (d:Nat):Prop:=(∀ n,n<d→bP a n=bP b n)∧bP a d=false∧bP b d=true
theorem less_of_lt:∀ a b:List UInt8,lt a b=true→∃ d,aZ7 a b d
 | [],[],h=>by simp[lt,Op.bytesLess] at h
 | _ :: _,[],h=>by simp[lt,Op.bytesLess] at h
 | [],y :: b,_=>⟨0,fun n h=>absurd h AO,bitB_nil 0,aV0 y b⟩
 | x :: a,y :: b,h=>by
  have ih:=less_of_lt a b
  simp only[lt,Op.bytesLess,Bool.or_eq_true,decide_eq_true_eq,Bool.and_eq_true,beq_iff_eq] at h ih
  rcases h with h|⟨rfl,h⟩
  ·obtain⟨h1,⟨h2,h3⟩,h4⟩:=byte_first x.toNat x.toNat_lt y.toNat y.toNat_lt h
   refine⟨aU8 x.toNat y.toNat+1,fun n hn=>?_,by rw[aQ9 x a h1];exact h2,by rw[aQ9 y b h1];exact h3⟩
   rcases n with _|n
   ·rw[aV0,aV0]
   ·rw[aQ9 x a AO,aQ9 y b AO]
    have:=List.all_eq_true.1 h4 n (List.mem_range.2 AO)
    simpa using this
  ·obtain⟨d,h1,h2,h3⟩:=ih h
   refine⟨d+9,fun n hn=>?_,by rw[bA9];exact h2,by rw[bA9];exact h3⟩
   by_cases h9:n<9
   ·rcases n with _|n
    ·rw[aV0,aV0]
    ·rw[aQ9 x a AO,aQ9 x b AO]
   ·obtain⟨m,rfl⟩:∃ m,n=m+9:=⟨n - 9,AO⟩
    rw[bA9,bA9]
    exact h1 m AO
theorem cF7 {a b:List UInt8} {d e:Nat} (h:aZ7 a b d) (h':aZ7 b a e):False:=by
 obtain⟨h1,h2,h3⟩:=h
 obtain⟨g1,g2,g3⟩:=h'
 rcases (by omega:d<e∨d=e∨e<d) with hd|hd|hd
 ·rw[← g1 d hd,h3] at h2;cases h2
 ·subst hd;rw[h3] at g2;cases g2
 ·rw[← h1 e hd,g3] at g2;cases g2
theorem bQ0 {a b:List UInt8} {d:Nat} (h:aZ7 a b d) (hb:b.length≤16):d<144:=by
 rcases Nat.lt_or_ge d 144 with h1|h1
 ·exact h1
 ·have:=bitB_far (a:=b) (n:=d) AO
  rw[h.2.2] at this
  cases this
theorem bT8 {a b:List UInt8} {d:Nat} (h:aZ7 a b d):∀ n k,k≤d→d<k+n→aF7 a b n k=d:=by
 intro n
 induction n with
 | zero=>intro k h1 h2;omega
 | succ n ih =>
  intro k h1 h2
  unfold aF7
  by_cases hk:k=d
  ·subst hk
   rw[if_neg (by rw[h.2.1,h.2.2];decide)]
  ·rw[if_pos (h.1 k AO)]
   exact ih (k+1) AO AO
theorem bW9 {a b:List UInt8} {d:Nat} (h:aZ7 a b d) (hb:b.length≤16):aF7 a b 145 0=d:=bT8 h 145 0 AO (by have:=bQ0 h hb;omega)
def aF1 (l:List Pr):Int:=aF7 (l.getD 0 ([],[])).1 (l.getD (l.length - 1) ([],[])).1 145 0
def aU (l:List Pr):Nat:=l.findIdx fun p=>bP p.1 (aF1 l).toNat
structure Parts (l:List Pr) (d:Nat):Prop where
 bit:aF1 l=d
 d144:d<144
 least:∀ i (h:i<l.length),0<i→∃ e:Nat,d≤e∧e<144∧aF7 (l[0]'(by omega)).1 l[i].1 145 0=e
 last:aF7 (l.getD 0 ([],[])).1 (l.getD (l.length - 1) ([],[])).1 145 0=d
 mono:∀ i j (hi:i<j) (hj:j<l.length),bP (l[i]'(by omega)).1 d=true→bP l[j].1 d=true
 first:∀ h:0<l.length,bP l[0].1 d=false
 end':∀ h:0<l.length,bP (l[l.length - 1]'(by omega)).1 d=true
theorem cF8 {l:List Pr} (hr:bS (l.map (·.1))) (hk:∀ p ∈ l,p.1.length≤16) (h2:2≤l.length):∃ d,Parts l d:=by
 have hlt:∀ i j (hi:i<j) (hj:j<l.length),lt (l[i]'(by omega)).1 l[j].1=true:=by
  intro i j hi hj
  have:=hr i j hi (by simpa using hj)
  simpa using this
 have h16:∀ i (hi:i<l.length),l[i].1.length≤16:=fun i hi=>hk _ (List.getElem_mem hi)
 obtain⟨d,hd⟩:=less_of_lt _ _ (hlt 0 (l.length - 1) AO AO)
 have e0:l.getD 0 ([],[])=l[0]:=by simp[List.getD_eq_getElem?_getD,List.getElem?_eq_getElem (show 0<l.length by omega)]
 have e1:l.getD (l.length - 1) ([],[])=l[l.length - 1]:=by simp[List.getD_eq_getElem?_getD,List.getElem?_eq_getElem (show l.length - 1<l.length by omega)]
 have hbit:aF7 (l.getD 0 ([],[])).1 (l.getD (l.length - 1) ([],[])).1 145 0=d:=by rw[e0,e1];exact bW9 hd (h16 _ _)
 have hleast:∀ i (h:i<l.length),0<i→∃ e:Nat,d≤e∧aZ7 l[0].1 l[i].1 e:=by
  intro i h hi
  obtain⟨e,he⟩:=less_of_lt _ _ (hlt 0 i hi h)
  refine⟨e,?_,he⟩
  rcases Nat.lt_or_ge e d with hed|hed
  ·exfalso
   have hl:aZ7 (l[l.length - 1]).1 l[i].1 e:=⟨fun n hn=>by rw[← hd.1 n AO];exact he.1 n hn,by rw[← hd.1 e hed];exact he.2.1,he.2.2⟩
   by_cases hi':i=l.length - 1
   ·subst hi'
    have h3:=hl.2.1
    rw[hl.2.2] at h3
    cases h3
   ·obtain⟨f,hf⟩:=less_of_lt _ _ (hlt i (l.length - 1) AO AO)
    exact cF7 hl hf
  ·exact hed
 have hagree:∀ i (h:i<l.length) n,n<d→bP l[i].1 n=bP l[0].1 n:=by
  intro i h n hn
  by_cases hi:i=0
  ·subst hi;rfl
  ·obtain⟨e,he,hl⟩:=hleast i h AO
   exact (hl.1 n AO).symm
 refine⟨d,hbit,bQ0 hd (h16 _ _),fun i h hi=>?_,hbit,fun i j hi hj hb=>?_,fun _=>hd.2.1,fun _=>hd.2.2⟩
 ·obtain⟨e,he,hl⟩:=hleast i h hi
  exact⟨e,he,bQ0 hl (h16 _ _),bW9 hl (h16 _ _)⟩
 ·rcases Bool.eq_false_or_eq_true (bP l[j].1 d) with h1|h1
  ·exact h1
  ·exfalso
   obtain⟨f,hf⟩:=less_of_lt _ _ (hlt i j hi hj)
   exact cF7 ⟨fun n hn=>by rw[hagree j hj n hn,hagree i AO n hn],h1,hb⟩ hf
def aP5 (p:List UInt8):List UInt8:=UInt8.ofNat (p.length / 256) :: UInt8.ofNat p.length :: p
def joinS (k:UInt8) (ps:List (List UInt8)):List UInt8:=k :: ps.flatMap aP5
def bX0 (p:Pr):List UInt8:=aL2 (joinS 1 [p.1,p.2])
def bQ1 (bit:Int) (a b:List UInt8):List UInt8:=aL2 (joinS 2 [[UInt8.ofNat bit.toNat],a,b])
def noneS:List UInt8:=aL2 [0]
def rootF:Nat→List Pr→List UInt8
 | 0,_=>noneS
 | n+1,l=>if l.length=0 then noneS else if l.length=1 then bX0 (l.getD 0 ([],[])) else bQ1 (aF1 l) (rootF n (l.take (aU l))) (rootF n (l.drop (aU l)))
theorem root_len:∀ n l,(rootF n l).length=32
 | 0,l=>aO2 _
 | n+1,l=>by
  unfold rootF
  split
  ·exact aO2 _
  ·split <;> exact aO2 _
theorem aW9 {l:List Pr} {d:Nat} (h:Parts l d) (h2:2≤l.length):1≤aU l∧aU l≤l.length - 1∧(∀ i (hi:i<l.length),bP l[i].1 d=decide (aU l≤i)):=by
 obtain rfl:d=(aF1 l).toNat:=by rw[h.bit];rfl
 have hno:∀ i (hi:i<l.length),i<aU l→bP l[i].1 (aF1 l).toNat=false:=by
  intro i hi hl
  have:=List.not_of_lt_findIdx (xs:=l) (p:=fun p:Pr=>bP p.1 (aF1 l).toNat) hl
  simpa using this
 have h1:aU l≤l.length - 1:=by
  rcases Nat.lt_or_ge (l.length - 1) (aU l) with h3|h3
  ·have h4:=hno (l.length - 1) AO h3
   rw[h.end' AO] at h4
   cases h4
  ·exact h3
 have h0:∀ i (hi:i<aU l),bP (l[i]'(by omega)).1 (aF1 l).toNat=false:=fun i hi=>hno i AO hi
 have h3:bP (l[aU l]'(by omega)).1 (aF1 l).toNat=true :=
  List.findIdx_getElem (xs:=l) (p:=fun p:Pr=>bP p.1 (aF1 l).toNat) (w:=by unfold aU at h1;omega)
 refine⟨?_,h1,fun i hi=>?_⟩
 ·rcases Nat.eq_zero_or_pos (aU l) with h4|h4
  ·have:=h.first AO
   have h5:bP (l[0]'(by omega)).1 (aF1 l).toNat=true:=by
    have:=h3
    simp only[h4] at this
    exact this
   rw[h5] at this
   cases this
  ·exact h4
 ·by_cases hl:aU l≤i
  ·rw[decide_eq_true hl]
   by_cases he:aU l=i
   ·subst he;exact h3
   ·exact h.mono (aU l) i AO hi h3
  ·rw[decide_eq_false hl]
   exact h0 i AO
theorem root_more:∀ n m l,(bS (l.map (·.1)))→(∀ p ∈ l,p.1.length≤16)→l.length≤n→l.length≤m→rootF n l=rootF m l
 | 0,0,_,_,_,_,_=>rfl
 | 0,m+1,l,_,_,h,_=>by
  unfold rootF
  rw[if_pos AO]
 | n+1,0,l,_,_,_,h=>by
  unfold rootF
  rw[if_pos AO]
 | n+1,m+1,l,hr,hk,h1,h2=>by
  unfold rootF
  by_cases h0:l.length=0
  ·rw[if_pos h0,if_pos h0]
  ·by_cases h3:l.length=1
   ·rw[if_neg h0,if_neg h0,if_pos h3,if_pos h3]
   ·obtain⟨d,hp⟩:=cF8 hr hk AO
    obtain⟨g1,g2,_⟩:=aW9 hp AO
    rw[if_neg h0,if_neg h0,if_neg h3,if_neg h3]
    have ht:bS ((l.take (aU l)).map (·.1)):=by
     intro i j hi hj
     simp only[List.length_map,List.length_take] at hj
     have:=hr i j hi ZC8
     simpa using this
    have hd:bS ((l.drop (aU l)).map (·.1)):=by
     intro i j hi hj
     simp only[List.length_map,List.length_drop] at hj
     have:=hr (aU l+i) (aU l+j) AO ZC8
     simpa using this
    rw[root_more n m _ ht (fun p hp=>hk p (List.mem_of_mem_take hp)) ZF6 ZF6,
     root_more n m _ hd (fun p hp=>hk p (List.mem_of_mem_drop hp)) ZF5 ZF5]
def bK (l:List Pr):List UInt8:=rootF l.length l
theorem partsT_join:∀ (l:List (List UInt8)) (b:List UInt8),b.length+(l.flatMap aP5).length≤4000→aL3 b l=some (b++l.flatMap aP5)
 | [],b,_=>by simp[aL3]
 | p :: r,b,h=>by
  rw[List.flatMap_cons,List.length_append] at h
  have hp:(aP5 p).length=p.length+2:=by simp[aP5]
  have hq:(b++hdr2 p++p).length=b.length+(aP5 p).length:=by simp[hdr2,aP5] <;> omega
  rw[bW8 ⟨AO,AO⟩,partsT_join r _ (by rw[hq];omega),List.flatMap_cons,List.append_assoc,List.append_assoc]
  rfl
theorem bQ2 {k:UInt8} {l:List (List UInt8)} (h:1+(l.flatMap aP5).length≤4000):aW7 k l=(aL2 (joinS k l),0):=bP5 (partsT_join l [k] ZF9)
theorem cL9 {p:Pr} (h:p.1.length+p.2.length≤3000):aW7 1 [p.1,p.2]=(bX0 p,0):=bQ2 (by simp[aP5];omega)
theorem cM0 {bit:Int} {a b:List UInt8} (h:a.length+b.length≤3000):aW7 2 [[UInt8.ofNat bit.toNat],a,b]=(bQ1 bit a b,0):=bQ2 (by simp[aP5];omega)
structure aT6 (l:List Pr):Prop where
 rise:bS (l.map (·.1))
 key:∀ p ∈ l,aE p.1=0
 val:∀ p ∈ l,p.2.length≤32
theorem cA4 {l:List Pr} (h:aG l=0):aT6 l:=by
 obtain⟨_,h2,h3⟩:=aG5 h
 refine⟨h3,fun p hp=>?_,fun p hp=>?_⟩
 ·have:=h2 p hp
  unfold aA5 at this
  split at this
  ·cases this
  ·exact this
 ·have:=h2 p hp
  unfold aA5 at this
  split at this
  ·cases this
  ·omega
section
variable {l : List Pr}
theorem aT6.k16 (h:aT6 l) {p:Pr} (hp:p ∈ l):p.1.length≤16:=key16 (h.key p hp)
theorem aT6.parts (h:aT6 l) (h2:2≤l.length):∃ d,Parts l d:=cF8 h.rise (fun _ hp=>h.k16 hp) h2
theorem aT6.take (h:aT6 l) (n:Nat):aT6 (l.take n):=by
 refine⟨fun i j hi hj=>?_,fun p hp=>h.key p (List.mem_of_mem_take hp),fun p hp=>h.val p (List.mem_of_mem_take hp)⟩
 simp only[List.length_map,List.length_take] at hj
 have:=h.rise i j hi ZC8
 simpa using this
theorem aT6.drop (h:aT6 l) (n:Nat):aT6 (l.drop n):=by
 refine⟨fun i j hi hj=>?_,fun p hp=>h.key p (List.mem_of_mem_drop hp),fun p hp=>h.val p (List.mem_of_mem_drop hp)⟩
 simp only[List.length_map,List.length_drop] at hj
 have:=h.rise (n+i) (n+j) AO ZC8
 simpa using this
theorem cM1 (n:Nat) (l:List Pr):rootF (n+1) l=if l.length=0 then noneS else if l.length=1 then bX0 (l.getD 0 ([],[])) else bQ1 (aF1 l) (rootF n (l.take (aU l))) (rootF n (l.drop (aU l))):=rfl
theorem cU3 (h:l.length=0):bK l=noneS:=by
 obtain rfl:=List.eq_nil_of_length_eq_zero h
 rfl
theorem root_one (h:l.length=1):bK l=bX0 (l.getD 0 ([],[])):=by
 unfold bK
 rw[h]
 unfold rootF
 rw[if_neg AO,if_pos h]
theorem root_two (h:aT6 l) (h2:2≤l.length):bK l=bQ1 (aF1 l) (bK (l.take (aU l))) (bK (l.drop (aU l))):=by
 obtain⟨d,hp⟩:=h.parts h2
 obtain⟨g1,g2,_⟩:=aW9 hp h2
 obtain⟨n,hn⟩:∃ n,l.length=n+1:=⟨l.length - 1,AO⟩
 have ht:=h.take (aU l)
 have hd:=h.drop (aU l)
 show rootF l.length l=bQ1 (aF1 l) (rootF (l.take (aU l)).length (l.take (aU l))) (rootF (l.drop (aU l)).length (l.drop (aU l)))
 rw[hn,cM1,if_neg AO,if_neg AO,root_more n (l.take (aU l)).length _ ht.rise (fun _ hp=>ht.k16 hp) ZF6 zn,
  root_more n (l.drop (aU l)).length _ hd.rise (fun _ hp=>hd.k16 hp) ZF5 zn]
theorem aR0 (l:List Pr):(bK l).length=32:=root_len _ _
end
theorem cA5 {l:List Pr} {k:Nat} (h:k<l.length):l.getD k ([],[])=l[k]:=by simp[List.getD_eq_getElem?_getD,List.getElem?_eq_getElem h]
theorem bQ3 {α:Type} {size:Nat} {R:(Nat→Prop)→World→List Value→α→Prop} {S:Nat→Prop} {w:World} {g:Nat} {t:TypeId} {cs:List Value} {l:List α} (h:w.heap[g]?=some (.cells cs.toArray t (0,0))) (hS:S g)
  (hR:∀ i (hi:i<l.length),∃ c:List Value,c.length=size∧(∀ j,j<size→cs[i*size+j]?=c[j]?)∧R S w c l[i]):SL size R S w (some ⟨g,0,none⟩) l:=by
 intro _
 refine⟨g,0,rfl,hS,(Array.getElem?_eq_some_iff.1 h).1,fun i hi=>?_⟩
 obtain⟨c,h1,h2,h3⟩:=hR i hi
 exact⟨c,h1,fun j hj=>by rw[Nat.zero_add,aA h,h2 j hj],h3⟩
theorem cM2 {w:World} {n:Nat} (cs:Array Value) (t:TypeId) (h:w.heap.size=n):(w.alloc (.cells cs t)).heap[n]?=some (.cells cs t (0,0)):=h ▸ heap_alloc_new w _
theorem bls_two {w : World} {g : Nat} {t : TypeId} {A B : Option Addr} {a b : Nat} {x y : List UInt8} (h : w.heap[g]? = some (.cells #[.slice A x.length a, .slice B y.length b] t (0, 0))) (h1 : Bs All w A x) (h2 : Bs All w B y) (g1 : x.length ≤ big) (g2 : y.length ≤ big) : Bls All w (some ⟨g, 0, none⟩) [x, y] := by
  refine bQ3 (cs := [.slice A x.length a, .slice B y.length b]) h trivial fun i hi => ?_
  match i, hi with
  | 0, _ => exact ⟨[.slice A x.length a], rfl, fun j hj => by obtain rfl : j = 0 := by omega
                                                              rfl, A, a, rfl, h1, g1⟩
  | 1, _ => exact ⟨[.slice B y.length b], rfl, fun j hj => by obtain rfl : j = 0 := by omega
                                                              rfl, B, b, rfl, h2, g2⟩
theorem cU4 {w : World} {g : Nat} {t : TypeId} {A B C : Option Addr} {a b c : Nat} {x y z : List UInt8} (h : w.heap[g]? = some (.cells #[.slice A x.length a, .slice B y.length b, .slice C z.length c] t (0, 0))) (h1 : Bs All w A x) (h2 : Bs All w B y) (h3 : Bs All w C z) (g1 : x.length ≤ big) (g2 : y.length ≤ big) (g3 : z.length ≤ big) : Bls All w (some ⟨g, 0, none⟩) [x, y, z] := by
  refine bQ3 (cs := [.slice A x.length a, .slice B y.length b, .slice C z.length c]) h trivial fun i hi => ?_
  match i, hi with
  | 0, _ => exact ⟨[.slice A x.length a], rfl, fun j hj => by obtain rfl : j = 0 := by omega
                                                              rfl, A, a, rfl, h1, g1⟩
  | 1, _ => exact ⟨[.slice B y.length b], rfl, fun j hj => by obtain rfl : j = 0 := by omega
                                                              rfl, B, b, rfl, h2, g2⟩
  | 2, _ => exact ⟨[.slice C z.length c], rfl, fun j hj => by obtain rfl : j = 0 := by omega
                                                              rfl, C, c, rfl, h3, g3⟩
theorem bs_one {w : World} {g : Nat} {t : TypeId} {b : UInt8} (h : w.heap[g]? = some (.cells #[bv b] t (0, 0))) : Bs All w (some ⟨g, 0, none⟩) [b] := by
  refine bQ3 (cs := [bv b]) h trivial fun i hi => ?_
  obtain rfl : i = 0 := by simpa using hi
  exact ⟨[bv b], rfl, fun j hj => by obtain rfl : j = 0 := by omega
                                     rfl, rfl⟩
theorem bv_bit {d:Nat} (h:d<256):(.int .u8 (d:Int):Value)=bv (UInt8.ofNat (d:Int).toNat):=by
 have:(UInt8.ofNat (d:Int).toNat).toNat=d:=by simp;omega
 rw[bv,this]
theorem cA6 (w:World) (hT:bD w) (A:Option Addr) (p:Pr) (c:Nat) (ha:Bls All w A [p.1,p.2]) (h:p.1.length+p.2.length≤3000):Calls Tryz.prog 255 #[.int .u8 1,.slice A 2 c] w (bD2 w (bX0 p,0)):=by
 have:=bP6 w hT 1 A [p.1,p.2] c ha ZH2
 rw[cL9 h] at this
 exact this
theorem cA7 (w:World) (hT:bD w) (A:Option Addr) (d:Nat) (a b:List UInt8) (c:Nat) (ha:Bls All w A [[UInt8.ofNat (d:Int).toNat],a,b]) (h:a.length+b.length≤3000):Calls Tryz.prog 255 #[.int .u8 2,.slice A 3 c] w (bD2 w (bQ1 d a b,0)):=by
 have:=bP6 w hT 2 A [[UInt8.ofNat (d:Int).toNat],a,b] c ha ZH2
 rw[cM0 h] at this
 exact this
theorem cA8 (w:World) (hT:bD w) (c:Nat):Calls Tryz.prog 255 #[.int .u8 0,.slice none 0 c] w (bD2 w (noneS,0)):=bP6 w hT 0 none [] c SL.nil ZH2
theorem cF9 (w:World) (hT:bD w) (A B:Option Addr) (p:Pr) (c d:Nat) (ha:Bs All w A p.1) (hb:Bs All w B p.2) (h:p.1.length+p.2.length≤3000) :
  Calls Tryz.prog 277 #[.agg #[.slice A p.1.length c,.slice B p.2.length d]] w (bU7 w (bX0 p)):=by
 have HT:=zh hT
 have Ha:=zh ha
 have Hb:=zh hb
 have Hl:=zh h
 clear hT ha hb h
 go_enter Tryz.func277,Tryz.ntmps277
 go_wp2_with (first
  | (go_at_call 255;(with_reducible refine (cA6 _ ?hT _ p _ ?ha Hl.out).mono ?_);(case hT=>(refine HT.out.below ?_;exact BX));(case ha=>(refine bls_two (cM2 _ _ ZH2) (Ha.out.bbelow ?_) (Hb.out.bbelow ?_) (by have:=Hl.out;unfold big;omega) (by have:=Hl.out;unfold big;omega);(all_goals try exact BX)));rintro e1 w1 ⟨B1,d1,rfl,hs1,hb1⟩))
 go_ret
 refine⟨B1,d1,rfl,hs1.blo ZC8,?_⟩
 refine Below.next (W:=_) ?_ hb1 ZC8
 exact BX
theorem cG0 (w:World) (hT:bD w) (A B:Option Addr) (d:Nat) (x y:List UInt8) (a b:Nat) (ha:Bs All w A x) (hb:Bs All w B y) (h:x.length+y.length≤3000) (hd:d<256) :
  Calls Tryz.prog 279 #[.int .i64 (d:Int),.slice A x.length a,.slice B y.length b] w (bU7 w (bQ1 d x y)):=by
 have HT:=zh hT
 have Ha:=zh ha
 have Hb:=zh hb
 have Hl:=zh h
 have mk:IntKind.u8.wrap (d:Int)=(d:Int):=IntWalk.u8_in _ AO
 have Hv:=zh (bv_bit hd)
 clear hT ha hb h hd
 go_enter Tryz.func279,Tryz.ntmps279
 go_wp2_with (first
  | (go_at_call 255;(with_reducible refine (cA7 _ ?hT _ d x y _ ?ha Hl.out).mono ?_);(case hT=>(refine HT.out.below ?_;exact BX));(case ha=>(refine cU4 (x:=[UInt8.ofNat (d:Int).toNat]) (a:=1) (cM2 _ _ ZH2) (bs_one ((heap_alloc_old _ _ ZH2).trans (by rw[← Hv.out];exact cM2 _ _ rfl))) (Ha.out.bbelow ?_) (Hb.out.bbelow ?_) (by simp[big]) (by have:=Hl.out;unfold big;omega) (by have:=Hl.out;unfold big;omega);(all_goals try exact BX)));rintro e1 w1 ⟨B1,d1,rfl,hs1,hb1⟩))
 go_ret
 refine⟨B1,d1,rfl,hs1.blo ZC8,?_⟩
 refine Below.next (W:=_) ?_ hb1 ZC8
 exact BX
theorem cG1 {l:List Pr} {d:Nat} (hp:Parts l d) (ht:aT6 l) (h2:2≤l.length):bC2 (l[0]'(by omega)).1 (l[l.length - 1]'(by omega)).1=((d:Int),0):=by
 have h:=hp.last
 rw[cA5 (show 0<l.length by omega),cA5 (show l.length - 1<l.length by omega)] at h
 unfold bC2
 rw[if_pos (ht.key _ (List.getElem_mem _)),if_pos (ht.key _ (List.getElem_mem _)),h]
theorem cA9 {a:List UInt8} {d:Nat} (hk:aE a=0) (hd:d<145):bK8 a d=(bP a d,0):=by
 unfold bK8
 rw[if_pos hk,if_pos ⟨AO,AO⟩]
 rfl
theorem bT9 (w:World) (A:Option Addr) (l:List Pr) (c d:Nat) (ha:Ps All w A l) (hp:Parts l d) (h2:2≤l.length) (h60:l.length≤60) (ht:aT6 l) :
  Calls Tryz.prog 278 #[.slice A l.length c] w (bQ w (.tuple #[.int .i64 (d:Int),.int .i64 ((aU l:Nat):Int)])):=by
 obtain⟨hn1,hn2,hbit⟩:=aW9 hp h2
 have Hbit:=zh hbit
 have Hpt:=zh (cG1 hp ht h2)
 have Ht:=zh ht
 have Ha:=zh ha
 have H144:=zh hp.d144
 obtain⟨g,off,K0,c0,V0,d0,rfl,_,hgl,q0,_,hs0,_,_,_⟩:=aE3 ha (show 0<l.length by omega)
 obtain⟨g',off',K1,c1,V1,d1,he,_,_,q1,_,hs1,_,_,_⟩:=aE3 ha (show l.length - 1<l.length by omega)
 cases he
 simp only[Nat.zero_mul,Nat.add_zero] at q0
 have Hs0:=zh hs0
 have Hs1:=zh hs1
 have mk:IntKind.i64.wrap ((l.length:Int) - 1)=((l.length - 1:Nat):Int):=by rw[IntWalk.i64_in _ AO];omega
 have hi0:(0:Int)<(l.length:Int):=by omega
 have hi1:((l.length - 1:Nat):Int)<(l.length:Int):=by omega
 have hj0:0<l.length:=by omega
 have hj1:l.length - 1<l.length:=by omega
 clear hbit ha hp ht hs0 hs1
 go_enter Tryz.func278,Tryz.ntmps278
 go_wp2_with fail
 go_region_held3 (fun w'=>w'.cell? ⟨g,off,none⟩=some (.slice K0 l[0].1.length c0)∧w'.cell? ⟨g,off+(l.length - 1)*2,none⟩=some (.slice K1 l[l.length - 1].1.length c1))
  (first
   | go_keep
   | (go_split_ands;refine⟨(hb1.cell ZC8).trans ZF3,(hb1.cell ZC8).trans ZF3⟩))
  ((go_at_call 280;(with_reducible refine (bJ7 _ K0 K1 _ _ c0 c1 ?h1 ?h2).mono ?_);(case h1=>exact Hs0.out.bz.bsame SM);(case h2=>exact Hs1.out.bz.bsame SM);rintro e w1 ⟨rfl,hb1⟩;rw[Hpt.out]))
 go_wp2
 have Hb1:=zh (show Below w.heap.size w w1 from by (refine Below.next (W:=_) ?_ hb1 (by first|exact zn|simp);exact BX))
 clear mk hi0 hi1
 go_loopw [6] (fun n wr=>∃ k:Nat,k≤aU l∧n=.int .i64 k∧Below w.heap.size w wr) (fun n _=>l.length - (intOf n).toNat)
 case atStart=>exact⟨0,AO,rfl,Hb1.out⟩
 case round =>
  obtain⟨k,hk,rfl,hbel⟩:=hrel
  have Hbel:=zh hbel
  clear hbel
  have hlt:k<l.length:=by omega
  have hki:(k:Int)<(l.length:Int):=by omega
  have mk:IntKind.i64.wrap ((k:Int)+1)=(k:Int)+1:=IntWalk.i64_in _ AO
  obtain⟨g',off',K,c',V,d',he,_,hgl',q0,_,hs,_,_,_⟩:=aE3 (Ha.out.below pairR_stays Hbel.out) hlt
  cases he
  have Hs:=zh hs
  have Hbk:=zh (cA9 (Ht.out.key _ (List.getElem_mem hlt)) (show d<145 by have:=H144.out;omega))
  have Hbt:=zh (Hbit.out k hlt)
  generalize l[k]=x at *
  clear hs
  have Hlt:=zh hlt
  by_cases hl:k<aU l
  ·have Hf:=zh (show bP x.1 d=false by rw[Hbt.out];simp;omega)
   have Hl:=zh hl
   clear hl
   go_wp2_with (go_at_call 258;(with_reducible refine (aR7 _ K x.1 c' d ?ha).mono ?_);(case ha=>exact Hs.out.bz);rintro e w2 ⟨rfl,hb2⟩;rw[Hbk.out,Hf.out])
   go_roundw
   case rel=>exact⟨k+1,Hl.out,by go_num,Hbel.out.next hb2 Hbel.out.size⟩
   case measure=>have hq:=Hlt.out;simp[intOf];omega
  ·obtain rfl:k=aU l:=by omega
   have Hf:=zh (show bP x.1 d=true by rw[Hbt.out];simp)
   clear hl
   go_wp2_with (go_at_call 258;(with_reducible refine (aR7 _ K x.1 c' d ?ha).mono ?_);(case ha=>exact Hs.out.bz);rintro e w2 ⟨rfl,hb2⟩;rw[Hbk.out,Hf.out])
   go_ret2
   exact⟨rfl,Hbel.out.next hb2 Hbel.out.size⟩
theorem treeRoot_n:∀ (n:Nat) (l:List Pr) (_:l.length≤n) (w:World) (_:bD w) (A:Option Addr) (m c:Nat) (_:m=l.length) (_:Ps All w A l) (_:1≤l.length) (_:l.length≤60) (_:l.length≤c) (_:aT6 l),
  Calls Tryz.prog 256 #[.slice A m c] w (bU7 w (bK l)):=by
 intro n
 induction n with
 | zero=>intro l hl w hT A m c hm ha h1;omega
 | succ n ih =>
  intro l hl w hT A m c hm ha h1 h60 hc ht
  subst hm
  have HT:=zh hT
  have Ha:=zh ha
  clear hT
  by_cases h2:l.length=1
  ·rw[root_one h2,cA5 (show 0<l.length by omega)]
   have Hp:=zh (show l[0].1.length+l[0].2.length≤3000 by have:=ht.k16 (List.getElem_mem (show 0<l.length by omega));have:=ht.val _ (List.getElem_mem (show 0<l.length by omega));omega)
   obtain⟨g,off,K0,c0,V0,d0,rfl,_,hgl,q0,q1,hs0,hs1,_,_⟩:=aE3 ha (show 0<l.length by omega)
   simp only[Nat.zero_mul,Nat.add_zero] at q0 q1
   have Hs0:=zh hs0
   have Hs1:=zh hs1
   generalize l[0]=x at *
   rw[h2]
   clear hl ha h1 h60 hc ht hs0 hs1 h2 ih
   go_enter Tryz.func256,Tryz.ntmps256
   go_wp2_with (go_at_call 277;(with_reducible refine (cF9 _ HT.out K0 V0 x c0 d0 Hs0.out.bz Hs1.out.bz Hp.out).mono ?_);rintro e1 w1 ⟨B1,e1,rfl,hr1,hb1⟩)
   go_ret
   exact⟨B1,_,rfl,hr1,hb1⟩
  ·have h22:2≤l.length:=by omega
   obtain⟨d,hp⟩:=ht.parts h22
   obtain⟨hn1,hn2,_⟩:=aW9 hp h22
   have Hv:=zh (root_two ht h22)
   rw[hp.bit] at Hv
   have Hpar:=zh (bT9 w A l c d ha hp h22 h60 ht)
   have Hx:=zh (ih (l.take (aU l)) ZF6)
   have Hy:=zh (ih (l.drop (aU l)) ZF5)
   have Htx:=zh (ht.take (aU l))
   have Hty:=zh (ht.drop (aU l))
   have Hd:=zh hp.d144
   obtain⟨g,off,_,_,_,_,rfl,_,hgl,_⟩:=aE3 ha (show 0<l.length by omega)
   have Hax:=zh (show ∀ W,Below w.heap.size w W→Ps All W (some ⟨g,off,none⟩) (l.take (aU l)) from fun W hW=>by have:=SL.cut (Ha.out.below pairR_stays hW) 0 (aU l);simpa using this)
   have Hay:=zh (show ∀ W,Below w.heap.size w W→Ps All W (some ⟨g,off+aU l*2,none⟩) (l.drop (aU l)) from fun W hW=>by have:=SL.cut (Ha.out.below pairR_stays hW) (aU l) l.length;rw[List.take_of_length_le ZF5] at this;exact this)
   generalize hk:aU l=k at *
   have Hlx:=zh (show (l.take k).length=k by rw[List.length_take];omega)
   have Hly:=zh (show (l.drop k).length=l.length - k by rw[List.length_drop])
   generalize l.take k=x at *
   generalize l.drop k=y at *
   have hki:(k:Int)≤(l.length:Int):=by omega
   have hkc:(k:Int)≤(c:Int):=by omega
   have hlc:(l.length:Int)≤(c:Int):=by omega
   have hkn:k≤l.length:=by omega
   have hkm:k≤c:=by omega
   clear hl ha ht hp ih h2 hk
   go_enter Tryz.func256,Tryz.ntmps256
   go_wp2_with (go_at_call 278;(with_reducible refine Hpar.out.mono ?_);rintro e1 w1 ⟨rfl,hb1⟩)
   go_region_held3 (fun _=>True)
    (trivial)
    (first
     | (go_at_call 256;(with_reducible refine (Hx.out _ ?hT _ _ _ ?hm ?ha ?h1 ?h60 ?hc ?ht).mono ?_);(case hm=>exact Hlx.out.symm);(case hT=>(refine HT.out.below ?_;exact BX));(case ha=>(refine Hax.out _ ?_;exact BX));(case h1=>(rw[Hlx.out];exact hn1));(case h60=>(rw[Hlx.out];omega));(case hc=>(rw[Hlx.out];omega));(case ht=>exact Htx.out);rintro e2 w2 ⟨X,cx,rfl,hsx,hb2⟩;have hq2:Below w.heap.size w w2:=(Below.next BX hb2 hb1.size))
     | (go_at_call 256;(with_reducible refine (Hy.out _ ?hT _ _ _ ?hm ?ha ?h1 ?h60 ?hc ?ht).mono ?_);(case hm=>exact Hly.out.symm);(case hT=>(refine HT.out.below ?_;exact BX));(case ha=>(refine Hay.out _ ?_;exact BX));(case h1=>(rw[Hly.out];omega));(case h60=>(rw[Hly.out];omega));(case hc=>(rw[Hly.out];omega));(case ht=>exact Hty.out);rintro e3 w3 ⟨Y,cy,rfl,hsy,hb3⟩;have hq3:Below w.heap.size w w3:=(Below.next BX hb3 hq2.size))
     | (go_at_call 279;(with_reducible refine (cG0 _ ?hT X Y d _ _ cx cy ?ha ?hb ?hl ?hd).mono ?_);(case hT=>(refine HT.out.below ?_;exact BX));(case ha=>exact (hsx.bsame (aC.trans SM (aC.of_below hb3))).bz);(case hb=>exact (hsy.bsame SM).bz);(case hl=>(rw[aR0,aR0];omega));(case hd=>(have:=Hd.out;omega));rintro e4 w4 ⟨Z,cz,rfl,hsz,hb4⟩;have hq4:Below w.heap.size w w4:=(Below.next BX hb4 hq3.size)))
   go_wp2
   go_ret
   rw[Hv.out]
   exact⟨Z,cz,rfl,hsz.blo hq3.size,hq4⟩
theorem cG2 (w:World) (hT:bD w) (A:Option Addr) (l:List Pr) (c:Nat) (ha:Ps All w A l) (h1:1≤l.length) (h60:l.length≤60) (hc:l.length≤c) (ht:aT6 l):Calls Tryz.prog 256 #[.slice A l.length c] w (bU7 w (bK l)) :=
 treeRoot_n l.length l zn w hT A l.length c rfl ha h1 h60 hc ht
def bF5 (l:List Pr):List UInt8 × Int:=if aG l=0 then (bK l,0) else ([],aG l)
theorem aQ3 (w:World) (hT:bD w) (A:Option Addr) (l:List Pr) (c:Nat) (ha:Ps All w A l) (hc:l.length≤c):Calls Tryz.prog 225 #[.slice A l.length c] w (bD2 w (bF5 l)):=by
 have HT:=zh hT
 have Ha:=zh ha
 clear hT ha
 by_cases hf:aG l=0
 ·have Ht:=zh (cA4 hf)
  have H60:=zh (aG5 hf).1
  have Hv:=zh (show bF5 l=(bK l,0) by rw[bF5,if_pos hf])
  have Hf:=zh hf
  clear hf
  by_cases h0:l.length=0
  ·have Hz:=zh (cU3 h0)
   have hz:((l.length:Int)==0)=true:=by simp[h0]
   have hz':decide ((l.length:Int)=0)=true:=by simp[h0]
   clear h0
   go_enter Tryz.func225,Tryz.ntmps225
   go_wp2_with (first
    | (go_at_call 92;(with_reducible refine (aB3 _ A l c Ha.out).mono ?_);rintro e1 w1 ⟨rfl,hb1⟩;rw[Hf.out])
    | (go_at_call 255;(with_reducible refine (cA8 _ ?hT _).mono ?_);(case hT=>(refine HT.out.below ?_;exact BX));rintro e2 w2 ⟨B,d,rfl,hs,hb2⟩;have hq2:Below w.heap.size w w2:=(Below.next BX hb2 hb1.size)))
   go_ret2
   rw[Hv.out,Hz.out]
   exact⟨B,d,rfl,hs.blo hb1.size,hq2⟩
  ·have H1:=zh (show 1≤l.length by omega)
   have hz:((l.length:Int)==0)=false:=by rw[beq_eq_false_iff_ne];omega
   have hz':decide ((l.length:Int)=0)=false:=decide_eq_false AO
   clear h0
   go_enter Tryz.func225,Tryz.ntmps225
   go_wp2_with (first
    | (go_at_call 92;(with_reducible refine (aB3 _ A l c Ha.out).mono ?_);rintro e1 w1 ⟨rfl,hb1⟩;rw[Hf.out])
    | (go_at_call 256;(with_reducible refine (cG2 _ ?hT A l c ?ha H1.out H60.out hc Ht.out).mono ?_);(case hT=>(refine HT.out.below ?_;exact BX));(case ha=>(refine Ha.out.below pairR_stays ?_;exact BX));rintro e2 w2 ⟨B,d,rfl,hs,hb2⟩;have hq2:Below w.heap.size w w2:=(Below.next BX hb2 hb1.size)))
   go_ret2
   rw[Hv.out]
   exact⟨B,d,rfl,hs.blo hb1.size,hq2⟩
 ·have Hv:=zh (show bF5 l=([],aG l) by rw[bF5,if_neg hf])
  have hb:(aG l != 0)=true:=by simpa using hf
  clear hf
  go_enter Tryz.func225,Tryz.ntmps225
  go_wp2_with ((go_at_call 92;(with_reducible refine (aB3 _ A l c Ha.out).mono ?_);rintro e1 w1 ⟨rfl,hb1⟩))
  go_ret2
  rw[Hv.out]
  exact⟨none,0,rfl,SL.nil,hb1⟩
end Go.Proofs.YtablgnacmpcfeaaGreatDoor
