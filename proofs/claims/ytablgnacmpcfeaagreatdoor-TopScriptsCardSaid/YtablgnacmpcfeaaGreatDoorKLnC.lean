/- LnC: The tables that lines read, as the walks' facts. From the form's reading of arguments to the words of Core: rows of acts. The conditions of each are in its words. -/
import Derived.Test.YtablgnacmpcfeaaGreatDoorRows
import Derived.Lib.LaidTab
import Derived.LaidSub
import Derived.Test.YtablgnacmpcfeaaGreatDoorKLnA
import Derived.Test.YtablgnacmpcfeaaGreatDoorKOpenA
namespace Go.Proofs.YtablgnacmpcfeaaGreatDoor
open Go.RowKit
set_option linter.unusedVariables false
set_option linter.unusedSimpArgs false
theorem eF2 {H:Type} {enc:TypeId × Value→H} {P:Program} {w:World} {base:Nat} {sp:Nat→Bool} {held:Bool} {fuel:Nat} {t e:TypeId} {n:Nat} {cs:List Value} {zs:List (List UInt8)} {p:List MemPlace}
  (ht:P.underlying t=some (.array n e)) (he:P.underlying e=some .string) (hce:P.cellsOf e=1) (hct:P.cellsOf t=n)
  (h:DataW.trod enc P w base sp held fuel t cs=some (.agg (zs.map fun z=>.lit (.string z)),p)):cs=zs.map fun z=>Value.string ⟨z.toArray⟩:=by
 cases fuel with
 | zero=>simp[DataW.trod] at h
 | succ fuel =>
  simp only[DataW.trod,ht,hce,hct,Nat.mul_one] at h
  split at h
  ·rename_i hl
   obtain⟨xs,hm,hx⟩:=Option.map_eq_some_iff.1 h
   have hxs:xs.map (·.1)=zs.map fun z=>(DataW.lit (.string z):DataW H):=by
    have:=congrArg Prod.fst hx
    simpa using this
   have hxl:xs.length=n:=by simpa using Lib.mapM_length hm
   have hzl:zs.length=n:=by
    have:=congrArg List.length hxs
    simp at this
    omega
   apply List.ext_getElem?
   intro i
   by_cases hi:i<n
   ·obtain⟨b,hb,hf⟩:=Lib.mapM_at hm i i (by simp[hi])
    obtain⟨z,hc,rfl,_⟩:=DataW.trod_string he hf
    have h1:cs[i]?=some (.string z):=by
     have:=congrArg (·[0]?) hc
     simpa [List.getElem?_take,List.getElem?_drop] using this
    have h2:(xs.map (·.1))[i]?=some (DataW.lit (.string z.data.toList):DataW H):=by simp[hb]
    rw[hxs] at h2
    simp only[List.getElem?_map,Option.map_eq_some_iff,DataW.lit.injEq,Lit.string.injEq] at h2
    obtain⟨z',hz',hz2⟩:=h2
    have hz3:z=⟨z'.toArray⟩:=by rw[hz2]
    rw[h1,List.getElem?_map,hz',hz3]
    rfl
   ·rw[List.getElem?_eq_none AO,List.getElem?_eq_none ZC8]
  ·cases h
theorem eF3 {P:Program} {W:World} {name:String} {zs:List (List UInt8)} {rest:List (String × DataW Unit)} {g:Nat} {t e:TypeId} {n:Nat}
  (hg:P.globalNamed name=some g) (hty:(P.globals[g]?).map (·.type)=some t) (ht:P.underlying t=some (.array n e)) (he:P.underlying e=some .string) (hce:P.cellsOf e=1) (hct:P.cellsOf t=n)
  (h:laidMet P ((name,.agg (zs.map fun z=>.lit (.string z))) :: rest) W):∀ i (hi:i<zs.length),W.cell? ⟨g,i,none⟩=some (.string ⟨(zs[i]).toArray⟩):=by
 obtain⟨ps,⟨g',t',cs,fuel,p,q,hg',ht',hvar,hd,_,_⟩,_⟩:=h
 obtain rfl:=Option.some.inj (hg.symm.trans hg')
 obtain rfl:=Option.some.inj (hty.symm.trans ht')
 have e1:=eF2 ht he hce hct hd
 have hvar2:W.var? P name=some (zs.map fun z=>Value.string ⟨z.toArray⟩).toArray:=by rw[hvar,← e1]
 intro i hi
 have:=World.var?_cell hg hvar2 i
 simpa [hi] using this
theorem eF4 {w:World} {a:Addr} {v:Value} (h:w.cell? a=some v):a.block<w.heap.size:=by
 rcases Nat.lt_or_ge a.block w.heap.size with h'|h'
 ·exact h'
 ·simp[World.cell?,Array.getElem?_eq_none h'] at h
theorem eF5 {W : World} (h : laidMet Tryz.prog [("math/bits.deBruijn32tab", Rows.laid_math_bits_deBruijn32tab), ("math/bits.deBruijn64tab", Rows.laid_math_bits_deBruijn64tab), ("internal/strconv.uint64pow10", Rows.laid_internal_strconv_uint64pow10), ("canopy/lines.words", Rows.laid_canopy_lines_words)] W) : dY9 W := by
  have h1 : laidMet Tryz.prog [("internal/strconv.uint64pow10", Rows.laid_internal_strconv_uint64pow10)] W := by
    have := laidMet.filter (fun x => x.1 == "internal/strconv.uint64pow10") h
    simpa using this
  have h2 : laidMet Tryz.prog [("canopy/lines.words", Rows.laid_canopy_lines_words)] W := by
    have := laidMet.filter (fun x => x.1 == "canopy/lines.words") h
    simpa using this
  have g2 := eF3 (zs := [[], [97, 115, 107], [115, 121, 110, 99], [99, 114, 97, 115, 104], [115, 116, 97, 114, 116]]) (g := 1) (t := 189) (e := 9) (n := 5) ZG0 ZG0 Tryz.underlying189 Tryz.underlying9 ZG0 ZG0 h2
  have hw : ∀ k, k < 5 → W.cell? ⟨1, k, none⟩ = some (.string ⟨(wordS k).toArray⟩) := fun k hk => by
    rw [g2 k hk]
    match k, hk with
    | 0, _ => rfl
    | 1, _ => rfl
    | 2, _ => rfl
    | 3, _ => rfl
    | 4, _ => rfl
  exact ⟨hw, eF4 (hw 0 AO), Lib.tabIs_of_head (g := 5) (t := 313) (e := 292) (n := 20) ZG0 ZG0 Tryz.underlying313 Tryz.underlying292 ZG0 ZG0 h1⟩
end Go.Proofs.YtablgnacmpcfeaaGreatDoor
namespace Go.Proofs.YtablgnacmpcfeaaGreatDoor
open Go.RowKit Go.ChangeShapes Go.WideShapes Go.ChangeAt Go.Deep
set_option linter.unusedVariables false
set_option linter.unusedSimpArgs false
end Go.Proofs.YtablgnacmpcfeaaGreatDoor
