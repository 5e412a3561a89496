/- LnB: Walks: the references' Dec, hexDigit. Walks: the references' hexDigit, actLine. Walk: the reference's ActsShown. Walks: the law's acts (a copy of a row of acts), sameActs. The law LinesShows: both answer what the plain words say; nothing that was there turns. The conditions of each are in its words. -/
import Derived.BigQuiet
import Derived.Deep.CutRange
import Derived.Lib.AppendStr
import Derived.Test.YtablgnacmpcfeaaGreatDoorKLnA
import Derived.Test.YtablgnacmpcfeaaGreatDoorKBase
namespace Go.Proofs.YtablgnacmpcfeaaGreatDoor
open Go.RowKit
set_option linter.unusedVariables false
set_option linter.unusedSimpArgs false
abbrev OwB (base:Nat) (w:World) (v:Value) (l:List UInt8):Prop:=w.ownsRow base 5 1 v l.length (l.map bv)
theorem dZ6 {B:Nat} {w w':World} {v:Value} {l:List UInt8} (h:OwB B w v l) (hb:Below w.heap.size w w'):OwB B w' v l:=World.ownsRow_below h hb
section
variable (w : World) {ops : Array Oper} {rest : List Oper} {o : Oper} {a : Act} {Q : Exit → Act → World → Prop}
theorem owb_step {K:Act→World→Prop} {E:Prop} (hgd:o.guard=none) (sl x:Operand) (ho:o.op=.call { callee:=.builtin .append,args:=#[sl,x],argTypes:=#[44,44] })
  (base:Nat) (v:Value) (l:List UInt8) (hs:a.eval sl=v) (hown:OwB base w v l) (g c:Nat) (bs:List UInt8) (hx:a.eval x=.slice (some ⟨g,0,none⟩) bs.length c) (hsrc:w.heap[g]?=some (.cells (bs.map bv).toArray 5 (0,0))) (hlim:l.length+bs.length≤140737488355328) (hbase:base≤w.heap.size)
  (h:∀ v' w',OwB base w' v' (l++bs)→Below base w w'→K (a.put o.dst v') w'):if Region.wanted o (yielded ops a.tmps)=true then Oper.wp Tryz.prog o a w K Q else E:=by
 have hw:Region.wanted o (yielded ops a.tmps)=true:=by simp[Region.wanted,hgd]
 rw[if_pos hw]
 obtain⟨i0,hi,hz0,hz1,hz2⟩:=info_parts info_u8
 refine cJ7 w sl x 44 ho base 5 i0 (.int .u8 0) 1 1 Tryz.underlying44 hi hz0 hz1 hz2 rfl ZD9 v l.length (l.map bv) hs hown (some ⟨g,0,none⟩) bs.length c (bs.map bv) hx ZH2 (fun _=>⟨_,rfl,World.news_of_block (cs:=(bs.map bv).toArray) (t:=5) (fr:=(0,0)) hsrc⟩) (aI3 bs) ZD2 AO hbase fun v' w' h1 h2 _=>h v' w' ?_ (aA6 hown h2 hbase)
 show w'.ownsRow base 5 1 v' (l++bs).length ((l++bs).map bv)
 rw[List.length_append,List.map_append]
 exact h1
end
theorem ret_owb {B:Nat} {w w':World} {v:Value} {l:List UInt8} (h:OwB B w' v l) (hb:Below w.heap.size w w') (hB:w.heap.size≤B):bU7 w l (.returned v) w':=by
 rcases h.2 with ⟨rfl,h0⟩|⟨g,cap,cur,rfl,_⟩
 ·have hl:=List.eq_nil_of_length_eq_zero h0
  subst hl
  exact⟨none,0,rfl,SL.nil,hb⟩
 ·exact⟨_,_,rfl,(SL.bof_own h).2.blo hB,hb⟩
theorem owb_bs {B:Nat} {w:World} {v:Value} {l:List UInt8} (h:OwB B w v l):∃ A c,v=.slice A l.length c∧Bs All w A l:=by
 obtain⟨A,c,e,hs,_⟩:=ret_owb (w:={ w with heap:=#[] }) h ⟨rfl,rfl,rfl,Nat.zero_le _,fun k hk=>absurd hk (Nat.not_lt_zero _)⟩ (Nat.zero_le _)
 injection e with e
 exact⟨A,c,e,hs.bz⟩
end Go.Proofs.YtablgnacmpcfeaaGreatDoor
