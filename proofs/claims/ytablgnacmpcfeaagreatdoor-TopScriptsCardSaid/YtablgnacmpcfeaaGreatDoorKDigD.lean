/- DigD: Walks: lanes of the references: power, turned, column. Walks: parities, rows of the reference. Walks: moved, roundNumbers of the reference. Walk: roundNumbers of the reference. Walk: Digested of the reference. The conditions of each are in its words. -/
import Derived.Deep.OwnRows
import Derived.Deep.RegionWith
import Derived.StillTailTactics
import Derived.Test.YtablgnacmpcfeaaGreatDoorKKec
import Derived.Test.YtablgnacmpcfeaaGreatDoorKBase
namespace Go.Proofs.YtablgnacmpcfeaaGreatDoor
open Go.RowKit
set_option linter.unusedVariables false
set_option linter.unusedSimpArgs false
def lc (l:List Ln):Array Value:=(l.map fun x=>Value.int .i64 (iv x)).toArray
theorem lc_set (l:List Ln) (i:Nat) (x:Ln):(lc l).setIfInBounds i (.int .i64 (iv x))=lc (l.set i x):=by
 unfold lc
 rw[List.setIfInBounds_toArray,List.map_set]
abbrev LnB (w:World) (g:Nat) (l:List Ln):Prop:=w.heap[g]?=some (.cells (lc l) 3 (0,0))
theorem LnB.set {w:World} {g:Nat} {l:List Ln} (h:LnB w g l) (k:Nat) (x:Ln):LnB (w.setCell ⟨g,k,none⟩ (.int .i64 (iv x))) g (l.set k x):=by
 unfold LnB
 rw[heap_setCell_same _ _ _ _ _ _ h]
 exact congrArg (fun c=>some (Obj.cells c _ (0,0))) (lc_set l k x)
structure cF2 (w:World) (g cap gn:Nat) (P:List UInt8) (w1:World):Prop where
 row:w1.ownsRow w.heap.size 5 1 (.slice (some ⟨g,0,none⟩) P.length cap) P.length (P.map bv)
 nums:∀ k,k<24→w1.cell? ⟨gn,k,none⟩=some (.int .i64 (iv (rcS k)))
 below:Below w.heap.size w w1
 lt:g<w1.heap.size
theorem cF2.next {w:World} {g cap gn:Nat} {P:List UInt8} {w1 w2:World} (h:cF2 w g cap gn P w1) (hb:Below w1.heap.size w1 w2):cF2 w g cap gn P w2 :=
 ⟨cR1 h.row (hb.block g h.lt),fun k hk=>(hb.cell (World.block_lt_of_cell? w1 _ (h.nums k hk))).trans (h.nums k hk),h.below.trans (hb.mono h.below.size),Nat.lt_of_lt_of_le h.lt hb.size⟩
theorem cF2.cell {w:World} {g cap gn:Nat} {P:List UInt8} {w2:World} (h:cF2 w g cap gn P w2) {k:Nat} (hk:k<P.length):w2.cell? ⟨g,k,none⟩=some (.int .u8 ((aJ3 P k:Nat):Int)):=by
 rw[h.row.cellAt k AO,List.getElem?_map,List.getElem?_eq_getElem hk,aJ3,List.getD_eq_getElem?_getD,List.getElem?_eq_getElem hk]
 rfl
end Go.Proofs.YtablgnacmpcfeaaGreatDoor
