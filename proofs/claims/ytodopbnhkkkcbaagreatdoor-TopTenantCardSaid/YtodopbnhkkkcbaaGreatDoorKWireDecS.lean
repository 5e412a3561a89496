/- WireDecS: Words for wire.Decode. The conditions of each are in its words. -/
import Derived.Test.YtodopbnhkkkcbaaGreatDoorKWire
import Derived.Test.YtodopbnhkkkcbaaGreatDoorKDec
import Derived.Test.YtodopbnhkkkcbaaGreatDoorKBase
namespace Go.Proofs.YtodopbnhkkkcbaaGreatDoor
open Go.RowKit
set_option linter.unusedVariables false
set_option linter.unusedSimpArgs false
def bJ (h j:Nat) (s:Rdr):List UInt8 × Rdr:=if h / 2 ^ j % 2=1 then aZ s else ([],s)
def aW (h:Nat) (s:Rdr):Nat→Rdr
 | 0=>s
 | j+1=>(bJ h j (aW h s j)).2
def fAt (h:Nat) (s:Rdr) (j:Nat):List UInt8:=(bJ h j (aW h s j)).1
def fUp (h:Nat) (s:Rdr) (j i:Nat):List UInt8:=if i<j then fAt h s i else []
def rqS (k h:Nat) (s:Rdr):Rq:=⟨k,fAt h s 0,fAt h s 1,fAt h s 2,fAt h s 3⟩
def rq0:Rq:=⟨0,[],[],[],[]⟩
def aK7 (k h:Nat) (s:Rdr):Rq × Int :=
 if (aW h s 4).2=true then (rq0,14) else if 0<(aW h s 4).1.length then (rq0,4) else if aQ (rqS k h s)≠0 then (rq0,aQ (rqS k h s)) else (rqS k h s,0)
def aM2 (b:List UInt8):Rq × Int :=
 if 4000<b.length then (rq0,1) else if b.length=0 then (rq0,14) else
 if ¬ (1≤(b.getD 0 0).toNat∧(b.getD 0 0).toNat≤8) then (rq0,5) else aK7 (b.getD 0 0).toNat (bO (b.getD 0 0).toNat) (b.drop 1,false)
theorem aI2 {h j:Nat} {s:Rdr} (hs:s.2=true):(bJ h j s).2.2=true:=by
 unfold bJ
 split
 ·exact cG6 hs
 ·exact hs
theorem aJ4 {h:Nat} {s:Rdr} {j:Nat} (hj:j≤4) (hs:(aW h s j).2=true):(aW h s 4).2=true:=by
 rcases (by omega:j=0∨j=1∨j=2∨j=3∨j=4) with rfl|rfl|rfl|rfl|rfl
 ·exact aI2 (aI2 (aI2 (aI2 hs)))
 ·exact aI2 (aI2 (aI2 hs))
 ·exact aI2 (aI2 hs)
 ·exact aI2 hs
 ·exact hs
theorem aJ5 {q:List UInt8} (h1:1≤q.length) (h2:1+(q.getD 0 0).toNat≤q.length):aZ (q,false)=((q.drop 1).take (q.getD 0 0).toNat,(q.drop (1+(q.getD 0 0).toNat),false)):=by
 have hb:=cR5 (b:=q) (n:=0) AO
 rw[List.drop_zero] at hb
 unfold aZ
 rw[hb]
 dsimp only
 rw[bQ4 (show (q.getD 0 0).toNat≤(q.drop 1).length by rw[List.length_drop];omega),List.drop_drop]
theorem aC2 {q:List UInt8} (h:q.length=0∨q.length<1+(q.getD 0 0).toNat):(aZ (q,false)).2.2=true:=by
 by_cases h1:1≤q.length
 ·have hb:=cR5 (b:=q) (n:=0) AO
  rw[List.drop_zero] at hb
  unfold aZ
  rw[hb]
  exact take_no (.inr (by rw[List.length_drop];dsimp only;omega))
 ·have hb:bB (q,false)=(0,(q,true)):=byte_no (.inl (show q=[] from List.eq_nil_of_length_eq_zero AO))
  unfold aZ
  rw[hb]
  exact bD5 rfl _
theorem bR0 (h:Nat) (s:Rdr):∀ j,(aW h s j).1.length≤s.1.length
 | 0=>zn
 | j+1=>by
  have:=bR0 h s j
  show (bJ h j (aW h s j)).2.1.length≤_
  unfold bJ
  split
  ·exact Nat.le_trans (bD6 _) this
  ·exact this
theorem aK3 {S:Nat→Prop} {w:World} {X:Option Addr} {q:List UInt8} (h:Bs S w X q) (h1:1≤q.length):∃ g off,X=some ⟨g,off,none⟩∧w.cell? ⟨g,off,none⟩=some (.int .u8 ((q.getD 0 0).toNat:Int)):=by
 obtain⟨g,off,e,_,_,hc⟩:=h.bat (k:=0) AO
 refine⟨g,off,e,?_⟩
 rw[Nat.add_zero] at hc
 rw[hc,List.getD_eq_getElem?_getD,List.getElem?_eq_getElem AO]
 rfl
theorem aP1 (w:World) (A:Option Addr) (n:Nat) (a:List UInt8) (hl:n=a.length) (c:Nat) (ha:Bs All w A a) (hn:a.length≤big) :
  Calls Tryz.prog 39 #[.slice A n c] w (aT3 1 bI0 w a):=by
 subst hl
 exact bA2 w A a c ha hn
theorem aI7 {S:Nat→Prop} {w:World} {A:Option Addr} {l:List UInt8} (h:Bs S w A l) (i:Nat):Bs S w (Option.map (fun x=>x.add i) A) (l.drop i):=by
 have:=aN5 h i (l.length - i)
 rwa [List.take_of_length_le ZF5] at this
theorem aZ8 {S:Nat→Prop} {w:World} {A:Option Addr} {l:List UInt8} (h:Bs S w A l) (c n:Nat) (hc:l.length≤c):Bs S w (if c=n then A else Option.map (fun x=>x.add n) A) (l.drop n):=by
 by_cases hcn:c=n
 ·rw[if_pos hcn,List.drop_eq_nil_of_le AO]
  exact SL.nil
 ·rw[if_neg hcn]
  exact aI7 h n
theorem aZ9 {S:Nat→Prop} {w:World} {g o:Nat} {q:List UInt8} (h:Bs S w (some ⟨g,o,none⟩) q) (c i:Nat) (hc:q.length≤c):Bs S w (if c=i then some ⟨g,o,none⟩ else some ⟨g,o+i,none⟩) (q.drop i):=by
 by_cases hci:c=i
 ·rw[List.drop_eq_nil_of_le AO]
  exact SL.nil
 ·rw[if_neg hci]
  have h2:=aI7 h i
  rw[Option.map_some,bC] at h2
  exact h2
theorem bJ9 {S:Nat→Prop} {w:World} {g o:Nat} {q:List UInt8} (h:Bs S w (some ⟨g,o,none⟩) q) (c i n:Nat) (hc:q.length≤c):Bs S w (if c=i then some ⟨g,o,none⟩ else some ⟨g,o+i,none⟩) ((q.drop i).take n):=by
 by_cases hci:c=i
 ·rw[List.drop_eq_nil_of_le AO,List.take_nil]
  exact SL.nil
 ·rw[if_neg hci]
  have h2:=aN5 h i n
  rw[Option.map_some,bC] at h2
  exact h2
structure DRq (w:World) (k h:Nat) (s:Rdr) (j:Nat) (v:Value) (wr:World):Prop where
 long:(aW h s j).2=false
 rest:∃ X c,v=.slice X (aW h s j).1.length c∧(aW h s j).1.length≤c∧Bs (Lo w.heap.size) wr X (aW h s j).1
 box:∃ A a B b C c D d,wr.heap[w.heap.size+1]?=some (.cells #[.int .i64 k,.slice A (fUp h s j 0).length a,.slice B (fUp h s j 1).length b,.slice C (fUp h s j 2).length c,.slice D (fUp h s j 3).length d] 29 (0,0)) ∧
  Bs (aB (w.heap.size+2)) wr A (fUp h s j 0)∧Bs (aB (w.heap.size+2)) wr B (fUp h s j 1)∧Bs (aB (w.heap.size+2)) wr C (fUp h s j 2)∧Bs (aB (w.heap.size+2)) wr D (fUp h s j 3)
 res:wr.heap[w.heap.size]?=some (.cells #[.int .i64 0,.slice none 0 0,.slice none 0 0,.slice none 0 0,.slice none 0 0] 29 (0,0))
 bel:Below w.heap.size w wr
 siz:w.heap.size+2≤wr.heap.size
def bR1 (w:World) (r:Rq × Int) (e:Ending) (w':World):Prop :=
 ∃ A a B b C c D d,e=.returned (.tuple #[.agg #[.int .i64 r.1.kind,.slice A r.1.name.length a,.slice B r.1.key.length b,.slice C r.1.last.length c,.slice D r.1.value.length d],.int .i64 r.2])∧Bs (aB w.heap.size) w' A r.1.name∧Bs (aB w.heap.size) w' B r.1.key∧Bs (aB w.heap.size) w' C r.1.last∧Bs (aB w.heap.size) w' D r.1.value∧Below w.heap.size w w'
end Go.Proofs.YtodopbnhkkkcbaaGreatDoor
