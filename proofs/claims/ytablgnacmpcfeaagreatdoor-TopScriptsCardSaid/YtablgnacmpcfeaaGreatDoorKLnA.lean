/- LnA: Acts as lines: plain words, and words for memory. Facts alone. The contracts of the library that lines wants, as they lie in this program (written by the shelf's lay-plain): strings.Builder, strconv.Itoa. No condition. Walks: (*strings.Builder).copyCheck and WriteString, at a builder that the call has made and that has only been written. Walk: lines.line of an act that may be. Walk: lines.Show. The conditions of each are in its words. -/
import Derived.Lib.ItoaNum
import Derived.Shelf.Small.Strs
import Derived.Shelf.LaysM
import Derived.Shelf.Strings.Builder1
import Derived.Shelf.Strconv.Itoa3
import Derived.Test.YtablgnacmpcfeaaGreatDoorProg
import Derived.Lib.Builder
import Derived.Lib.AppendIntMem
import Derived.Lib.AppendStr
import Derived.Lib.UnsafeStr
import Derived.Lib.Strings
import Derived.Lib.Slices
import Derived.Lib.Walk
import Derived.Laws.Externs
import Derived.BigQuiet
import Derived.Deep.CutRange
import Derived.Test.YtablgnacmpcfeaaGreatDoorKActK
import Derived.Test.YtablgnacmpcfeaaGreatDoorKBase
namespace Go.Proofs.YtablgnacmpcfeaaGreatDoor
open Go.RowKit
set_option linter.unusedVariables false
set_option linter.unusedSimpArgs false
set_option maxRecDepth 100000
set_option maxHeartbeats 8000000
structure Le where
 kind:Int
 session:Int
 keep:Int
 data:List UInt8
def LeR (S:Nat→Prop) (w:World) (cs:List Value) (a:Le):Prop :=
 ∃ A c,cs=[.int .i64 a.kind,.int .i64 a.session,.int .i64 a.keep,.slice A a.data.length c]∧Bs S w A a.data∧a.data.length≤big
theorem leR_stays:bI LeR :=
 ⟨fun _ _ _ _ _ hb ⟨A,c,h0,h1,h2⟩=>⟨A,c,h0,h1.bsame hb,h2⟩,fun _ _ _ _ _ hb ⟨A,c,h0,h1,h2⟩=>⟨A,c,h0,h1.bless hb,h2⟩⟩
abbrev Les (S:Nat→Prop) (w:World) (A:Option Addr) (l:List Le):Prop:=SL 4 LeR S w A l
theorem info_ln:(Tryz.prog.info? 46).map (fun i=>(i.zero,i.size,i.bytes))=some (some (.agg #[.int .i64 0,.int .i64 0,.int .i64 0,.slice none 0 0]),4,48):=by kernel_rfl
theorem dX4 {S:Nat→Prop} {w:World} {A:Option Addr} {l:List Le} (h:Les S w A l) {k:Nat} (hk:k<l.length) :
  ∃ g off D d,A=some ⟨g,off,none⟩∧S g∧g<w.heap.size∧w.cell? ⟨g,off+k*4,none⟩=some (.int .i64 l[k].kind)∧w.cell? ⟨g,off+k*4+1,none⟩=some (.int .i64 l[k].session)∧w.cell? ⟨g,off+k*4+2,none⟩=some (.int .i64 l[k].keep)∧w.cell? ⟨g,off+k*4+3,none⟩=some (.slice D l[k].data.length d)∧Bs S w D l[k].data∧l[k].data.length≤big:=by
 obtain⟨g,off,cs,e,h0,hlt,h1,h2,D,d,rfl,h3,h4⟩:=h.at hk
 exact⟨g,off,D,d,e,h0,hlt,h2 0 AO,h2 1 AO,h2 2 AO,h2 3 AO,h3,h4⟩
def dX5 (a:Le):Int:=aB1 a.kind a.session a.keep a.data.length
def dX6 (n:Nat):UInt8:=if n<10 then UInt8.ofNat (48+n) else UInt8.ofNat (87+n)
def dX7 (l:List UInt8):List UInt8:=l.flatMap fun b=>[dX6 (b.toNat / 16),dX6 (b.toNat % 16)]
theorem dX8 {l:List UInt8} {k:Nat} (h:k<l.length):dX7 (l.take (k+1))=dX7 (l.take k)++[dX6 (l[k].toNat / 16),dX6 (l[k].toNat % 16)]:=by
 unfold dX7
 rw[aC8 _ _ h,List.flatMap_append]
 simp
theorem dX9 (l:List UInt8):(dX7 l).length=2*l.length:=by
 unfold dX7
 induction l with
 | nil=>rfl
 | cons b l ih=>rw[List.flatMap_cons,List.length_append,ih,List.length_cons];simp;omega
def dY0 (a:Le):List UInt8 :=
 if a.kind=1 then [97,115,107,32]++Lib.decDigits a.session.toNat++[32]++dX7 a.data
 else if a.kind=2 then [115,121,110,99] else if a.kind=3 then [99,114,97,115,104,32]++Lib.decDigits a.keep.toNat
 else if a.kind=4 then [115,116,97,114,116] else []
def lnS (a:Le):List UInt8:=dY0 a++[10]
def showFrom:List Le→Nat→List UInt8→List UInt8 × Int × Int
 | [],_,acc=>(acc,0,0)
 | a :: l,i,acc=>if dX5 a≠0 then ([],i,dX5 a) else showFrom l (i+1) (acc++lnS a)
def showS (l:List Le):List UInt8 × Int × Int:=if 100000<l.length then ([],0,1) else showFrom l 0 []
theorem show_at {l:List Le} {k:Nat} {acc:List UInt8} (h:k<l.length):showFrom (l.drop k) k acc=if dX5 l[k]≠0 then ([],(k:Int),dX5 l[k]) else showFrom (l.drop (k+1)) (k+1) (acc++lnS l[k]):=by
 rw[List.drop_eq_getElem_cons h]
 rfl
theorem show_end {l:List Le} {k:Nat} {acc:List UInt8} (h:¬ k<l.length):showFrom (l.drop k) k acc=(acc,0,0):=by
 rw[List.drop_eq_nil_of_le AO]
 rfl
theorem dY1 {a:Le} (h:dX5 a=0):(a.kind=1∧0≤a.session∧a.session<8∧a.data.length≤4000)∨a.kind=2∨(a.kind=3∧0≤a.keep∧a.keep≤200000)∨a.kind=4:=by
 unfold dX5 aB1 at h
 split at h
 ·cases h
 ·split at h
  ·cases h
  ·split at h
   ·cases h
   ·split at h
    ·cases h
    ·omega
theorem dY2 (n:Nat) (h:n≤200000):(Lib.decDigits n).length≤6:=by
 rw[Lib.decDigits]
 split
 ·simp
 ·rw[List.length_append,Lib.decDigits]
  split
  ·simp
  ·rw[List.length_append,Lib.decDigits]
   split
   ·simp
   ·rw[List.length_append,Lib.decDigits]
    split
    ·simp
    ·rw[List.length_append,Lib.decDigits]
     split
     ·simp
     ·rw[List.length_append,Lib.decDigits]
      split
      ·simp
      ·omega
theorem dY3 {a:Le} (h:dX5 a=0):(dY0 a).length≤8020:=by
 rcases dY1 h with ⟨h1,h2,h3,h4⟩|h1|⟨h1,h2,h3⟩|h1
 ·unfold dY0
  rw[if_pos h1]
  have:=dY2 a.session.toNat AO
  simp only[List.length_append,dX9,List.length_cons,List.length_nil]
  omega
 ·simp[dY0,h1]
 ·unfold dY0
  rw[if_neg AO,if_neg AO,if_pos h1]
  have:=dY2 a.keep.toNat AO
  simp only[List.length_append,List.length_cons,List.length_nil]
  omega
 ·simp[dY0,h1]
theorem lnS_len {a:Le} (h:dX5 a=0):(lnS a).length≤8021:=by
 have:=dY3 h
 unfold lnS
 rw[List.length_append]
 simp
 omega
end Go.Proofs.YtablgnacmpcfeaaGreatDoor
namespace Go.Proofs
open Go.Shelf Go.Proofs.YtablgnacmpcfeaaGreatDoor
def Tryz.lays169_ren:Go.Shelf.Ren:=⟨fun|169=>57|n=>n,fun|70=>141|9=>9|0=>0|72=>143|37=>44|127=>192|3=>3|5=>5|n=>n,fun|n=>n⟩
theorem Tryz.lays169:Go.Proofs.Lays.n169 Tryz.prog Tryz.lays169_ren:={
 mixed:=by kernel_rfl
 f169:=Tryz.func57.trans (congrArg some ZG0)
 t0:=Tryz.underlying0
 a0:=Tryz.isAgg0
 z0:=Tryz.sizeOf0
 v0:=Tryz.zeroValue0
 t3:=Tryz.underlying3
 a3:=Tryz.isAgg3
 z3:=Tryz.sizeOf3
 v3:=Tryz.zeroValue3
 t9:=Tryz.underlying9
 a9:=Tryz.isAgg9
 z9:=Tryz.sizeOf9
 v9:=Tryz.zeroValue9
 t37:=Tryz.underlying44
 a37:=Tryz.isAgg44
 z37:=Tryz.sizeOf44
 v37:=Tryz.zeroValue44
 t70:=Tryz.underlying141
 a70:=Tryz.isAgg141
 z70:=Tryz.sizeOf141
 v70:=Tryz.zeroValue141
 t72:=Tryz.underlying143
 a72:=Tryz.isAgg143
 z72:=Tryz.sizeOf143
 v72:=Tryz.zeroValue143
 t127:=Tryz.underlying192
 a127:=Tryz.isAgg192
 z127:=Tryz.sizeOf192
 v127:=Tryz.zeroValue192 }
theorem Tryz.Builder_Extra_169:Builder.Extra Tryz.prog Tryz.lays169_ren:={
 sizeBuilder:=by kernel_rfl
 liesBuilder:=by kernel_rfl
 t5:=Tryz.underlying5
 a5:=Tryz.isAgg5
 z5:=Tryz.sizeOf5
 v5:=Tryz.zeroValue5
 infoByte:=by kernel_rfl
 cellsByte:=by kernel_rfl
 sizeByte:=by kernel_rfl
 neB5:=by decide }
open Go.RowKit in
theorem Tryz.Builder_String_any (B b:Nat) (l:List UInt8) (w:World) (h:Lib.IsBuilder 143 5 B b (Lib.byteCells l) w) (hBw:B≤w.heap.size) :
  Calls Tryz.prog 57 #[.pointer (some ⟨b,0,none⟩)] w fun e w'=>e=.returned (.string ⟨l.toArray⟩)∧Below B w w':=Any.Builder_String_any Tryz.lays169 Tryz.Builder_Extra_169 B b l w h hBw
def Tryz.laysM171_ren:Go.Shelf.Ren:=⟨fun|171=>97|243=>160|246=>211|283=>242|284=>243|285=>244|286=>245|129=>266|317=>265|318=>267|319=>268|320=>269|337=>286|338=>287|n=>n,fun|3=>3|9=>9|2=>2|4=>4|171=>291|0=>0|53=>292|37=>44|5=>5|173=>295|212=>313|51=>314|20=>20|213=>315|46=>191|232=>341|233=>342|n=>n,fun|17=>5|18=>11|19=>12|n=>n⟩
theorem Tryz.laysM171:Go.Proofs.LaysM.n171 Tryz.prog Tryz.laysM171_ren:={
 mixed:=by kernel_rfl
 f129:=Tryz.func266.trans (congrArg some ZG0)
 f171:=Tryz.func97.trans (congrArg some ZG0)
 f243:=Tryz.func160.trans (congrArg some ZG0)
 f246:=Tryz.func211.trans (congrArg some ZG0)
 f283:=Tryz.func242.trans (congrArg some ZG0)
 f284:=Tryz.func243.trans (congrArg some ZG0)
 f285:=Tryz.func244.trans (congrArg some ZG0)
 f286:=Tryz.func245.trans (congrArg some ZG0)
 f317:=Tryz.func265.trans (congrArg some ZG0)
 f318:=Tryz.func267.trans (congrArg some ZG0)
 f319:=Tryz.func268.trans (congrArg some ZG0)
 f320:=Tryz.func269.trans (congrArg some ZG0)
 f337:=Tryz.func286.trans (congrArg some ZG0)
 f338:=Tryz.func287.trans (congrArg some ZG0)
 t0:=Tryz.underlying0
 a0:=Tryz.isAgg0
 z0:=Tryz.sizeOf0
 v0:=Tryz.zeroValue0
 t2:=Tryz.underlying2
 a2:=Tryz.isAgg2
 z2:=Tryz.sizeOf2
 v2:=Tryz.zeroValue2
 t3:=Tryz.underlying3
 a3:=Tryz.isAgg3
 z3:=Tryz.sizeOf3
 v3:=Tryz.zeroValue3
 t4:=Tryz.underlying4
 a4:=Tryz.isAgg4
 z4:=Tryz.sizeOf4
 v4:=Tryz.zeroValue4
 t5:=Tryz.underlying5
 a5:=Tryz.isAgg5
 z5:=Tryz.sizeOf5
 v5:=Tryz.zeroValue5
 t9:=Tryz.underlying9
 a9:=Tryz.isAgg9
 z9:=Tryz.sizeOf9
 v9:=Tryz.zeroValue9
 t20:=Tryz.underlying20
 a20:=Tryz.isAgg20
 z20:=Tryz.sizeOf20
 v20:=Tryz.zeroValue20
 t37:=Tryz.underlying44
 a37:=Tryz.isAgg44
 z37:=Tryz.sizeOf44
 v37:=Tryz.zeroValue44
 t46:=Tryz.underlying191
 a46:=Tryz.isAgg191
 z46:=Tryz.sizeOf191
 v46:=Tryz.zeroValue191
 t51:=Tryz.underlying314
 a51:=Tryz.isAgg314
 z51:=Tryz.sizeOf314
 v51:=Tryz.zeroValue314
 t53:=Tryz.underlying292
 a53:=Tryz.isAgg292
 z53:=Tryz.sizeOf292
 v53:=Tryz.zeroValue292
 t171:=Tryz.underlying291
 a171:=Tryz.isAgg291
 z171:=Tryz.sizeOf291
 v171:=Tryz.zeroValue291
 t173:=Tryz.underlying295
 a173:=Tryz.isAgg295
 z173:=Tryz.sizeOf295
 v173:=Tryz.zeroValue295
 t212:=Tryz.underlying313
 a212:=Tryz.isAgg313
 z212:=Tryz.sizeOf313
 v212:=Tryz.zeroValue313
 t213:=Tryz.underlying315
 a213:=Tryz.isAgg315
 z213:=Tryz.sizeOf315
 t232:=Tryz.underlying341
 a232:=Tryz.isAgg341
 z232:=Tryz.sizeOf341
 v232:=Tryz.zeroValue341
 t233:=Tryz.underlying342
 a233:=Tryz.isAgg342
 z233:=Tryz.sizeOf342
 v233:=Tryz.zeroValue342
 g17:=by kernel_rfl
 g18:=by kernel_rfl
 g19:=by kernel_rfl
 i0:=by kernel_rfl
 i2:=by kernel_rfl
 i3:=by kernel_rfl
 i4:=by kernel_rfl
 i5:=by kernel_rfl
 i9:=by kernel_rfl
 i20:=by kernel_rfl
 i37:=by kernel_rfl
 i46:=by kernel_rfl
 i51:=by kernel_rfl
 i53:=by kernel_rfl
 i171:=by kernel_rfl
 i173:=by kernel_rfl
 i212:=by kernel_rfl
 i232:=by kernel_rfl
 i233:=by kernel_rfl
 m17:=by kernel_rfl
 m18:=by kernel_rfl
 m19:=by kernel_rfl }
open Go.RowKit Go.Sort Go.Lib in
theorem Tryz.strconv_Itoa (n : Int) (h0 : -9223372036854775808 ≤ n) (h1 : n ≤ 9223372036854775807) (w : World) (htab : Lib.TabIs Tryz.prog w "internal/strconv.uint64pow10" .u64 Lib.pow10Tab) :
    Calls Tryz.prog 97 #[.int .i64 n] w fun e w' => e = .returned (.string ⟨(Lib.itoa n).toArray⟩) ∧ ∃ k os, w' = grow (w.drewN k) os := Any.strconv_Itoa Tryz.laysM171 n h0 h1 w htab
end Go.Proofs
namespace Go.Proofs.YtablgnacmpcfeaaGreatDoor
open Go.RowKit
set_option linter.unusedVariables false
set_option linter.unusedSimpArgs false
set_option maxRecDepth 100000
set_option maxHeartbeats 8000000
abbrev Bld (B b:Nat) (l:List UInt8) (w:World):Prop:=Lib.IsBuilder 143 5 B b (Lib.byteCells l) w
theorem info_bld:(Tryz.prog.info? 143).map (·.size)=some 2:=by kernel_rfl
theorem bld_lies:liesAt Tryz.prog Tryz.prog.depth 143 (2 / Tryz.prog.cellsOf 143) 0 143 1=true:=by kernel_rfl
theorem dY4 (b:Nat) (w:World) (h0:w.cell? ⟨b,0,none⟩=some (.pointer (some ⟨b,0,none⟩))) :
  Calls Tryz.prog 96 #[.pointer (some ⟨b,0,none⟩)] w fun e w'=>e=.returned (.tuple #[])∧w'=w:=by
 obtain⟨j,hj,_⟩:=Option.map_eq_some_iff.1 info_bld
 go_enter Tryz.func96,Tryz.ntmps96
 go_wp2
 rw[Lib.run_neq_ptr_same w _ Tryz.underlying141 hj]
 go_wp2
 go_end0
 exact⟨rfl,rfl⟩
theorem dY5 (b:Nat) (w:World) (h0:w.cell? ⟨b,0,none⟩=some (.pointer none)) (hsh:w.shape? b=some (143,2)) (hfz:w.frozen? ⟨b,0,none⟩=false) :
  Calls Tryz.prog 96 #[.pointer (some ⟨b,0,none⟩)] w fun e w'=>e=.returned (.tuple #[])∧w'=w.setCell ⟨b,0,none⟩ (.pointer (some ⟨b,0,none⟩)):=by
 obtain⟨j,hj,hjs⟩:=Option.map_eq_some_iff.1 info_bld
 go_enter Tryz.func96,Tryz.ntmps96
 go_wp2
 rw[Lib.run_to_unsafe w ⟨b,0,none⟩ Tryz.underlying141 Tryz.underlying246 hj (by rw[hjs];decide) hsh (Nat.zero_lt_succ 1)]
 simp only[Result.andThen]
 rw[Oper.upon_value]
 go_wp2
 rw[run_callFunc_extern Tryz.func159 ZG0 ZG0 ZG0 (e:=Extern.AbiNoEscape.same) ZG0]
 rw[Lib.run_noEscape]
 simp only[Result.andThen]
 rw[Oper.upon_value]
 go_wp2
 rw[Lib.run_from_unsafe w ⟨b,0,none⟩ Tryz.underlying246 Tryz.underlying141 hj hsh bld_lies]
 simp only[Result.andThen]
 rw[Oper.upon_value]
 go_wp2
 go_end0
 exact⟨rfl,rfl⟩
theorem dY6 (B b:Nat) (bs:List Value) (w:World) (h:Lib.IsBuilder 143 5 B b bs w) :
  Calls Tryz.prog 96 #[.pointer (some ⟨b,0,none⟩)] w fun e w'=>e=.returned (.tuple #[])∧(Lib.BuilderAt 143 5 B b (.pointer (some ⟨b,0,none⟩)) bs w'∧Below B w w'):=by
 rcases h with h|h
 ·refine (dY5 b w h.cell0 h.shape h.frozen0).mono ?_
  rintro e w' ⟨rfl,rfl⟩
  exact⟨rfl,h.used _,(Below.refl B w).setCell (p:=⟨b,0,none⟩) h.1 _⟩
 ·refine (dY4 b w h.cell0).mono ?_
  rintro e w' ⟨rfl,rfl⟩
  exact⟨rfl,h,Below.refl B _⟩
theorem dY7 (B b:Nat) (l:List UInt8) (s:List UInt8) (w:World) (h:Bld B b l w) (hlen:l.length+s.length≤140737488355328) (hBw:B≤w.heap.size) :
  Calls Tryz.prog 55 #[.pointer (some ⟨b,0,none⟩),.string ⟨s.toArray⟩] w fun e w'=>e=.returned (.tuple #[.int .i64 s.length,.nilIface])∧(Bld B b (l++s) w'∧Below B w w'):=by
 have hll:=Lib.byteCells_length l
 have hss:(⟨s.toArray⟩:ByteArray).size=s.length:=by simp[ByteArray.size]
 have hcs:Lib.strCells ⟨s.toArray⟩=Lib.byteCells s:=by simp[Lib.strCells,Lib.byteCells]
 obtain⟨i0,hi,hz0,hz1,hz2⟩:=info_parts info_u8
 have hap:∀ W,Lib.IsBuilder 143 5 B b (Lib.byteCells l++Lib.strCells ⟨s.toArray⟩) W→Bld B b (l++s) W:=fun W hW=>by
  rw[hcs] at hW
  show Lib.IsBuilder _ _ B b (Lib.byteCells (l++s)) W
  rw[Lib.byteCells_append]
  exact hW
 have h':Lib.IsBuilder 143 5 B b (Lib.byteCells l) w:=h
 have Hss:=zh hss
 have Hll:=zh hll
 have Hap:=zh hap
 clear hss hcs hll hap h
 generalize (⟨s.toArray⟩:ByteArray)=S at *
 generalize Lib.byteCells l=bs at *
 go_enter Tryz.func55,Tryz.ntmps55
 go_wp2_with (first
  | (go_at_call 96;refine (dY6 B b bs _ h').mono ?_;rintro e w1 ⟨rfl,⟨hB,v,hbk,hown,hne⟩,hb1⟩;have c0:w1.cell? ⟨b,0,none⟩=some (.pointer (some ⟨b,0,none⟩)):=(by rw[Lib.cell_of_heap hbk];rfl);have c1:w1.cell? ⟨b,1,none⟩=some v:=(by rw[Lib.cell_of_heap hbk];rfl))
  | (at_builtin;refine Lib.wpList_append_own_string _ rfl _ _ 44 9 rfl B 5 i0 Tryz.underlying44 Tryz.underlying9 hi hz0 hz1 hz2 _ _ _ rfl hown S rfl ?c3 ?c4 ?c5 ?_;(case c3=>(rw[Hss.out,Hll.out];unfold maxLen;omega));(case c4=>(rw[Hss.out,Hll.out];omega));(case c5=>(have:=hb1.size;omega));intro v' w2 hown' hgrow hzz;have hlt:b<w1.heap.size:=(Array.getElem?_eq_some_iff.1 hbk).1;have hb2:w2.heap[b]?=some (.cells #[.pointer (some ⟨b,0,none⟩),v] 143 (0,0)):=(hgrow.block b hlt (fun e=>hne e.symm)).trans hbk;have d0:w2.cell? ⟨b,0,none⟩=some (.pointer (some ⟨b,0,none⟩)):=(by rw[Lib.cell_of_heap hb2];rfl);have d1:w2.cell? ⟨b,1,none⟩=some v:=(by rw[Lib.cell_of_heap hb2];rfl);have f1:w2.frozen? ⟨b,1,none⟩=false:=Lib.frozen_of_heap hb2 1;obtain⟨ao,n',cap,rfl⟩:∃ ao n' cap,v'=.slice ao n' cap:=(by rcases hown'.2 with ⟨hv,_⟩|⟨g,cap,cur,hv,_⟩;(exact⟨_,_,_,hv⟩);(exact⟨_,_,_,hv⟩));have Hown':=zh hown';clear hown'))
 go_ret2
 refine⟨by rw[Hss.out];rfl,?_,?_⟩
 ·exact Hap.out _ (Or.inr (Lib.BuilderAt.put (T:=143) (e:=5) hB hb2 (bs':=bs++Lib.strCells S) (by have:=Hown'.out;simpa [Lib.strCells_length] using this) ZD9))
 ·exact (hb1.grown hgrow (by have:=hb1.size;omega) (fun k hk=>(hown.lt k hk).1)).setCell (p:=⟨b,1,none⟩) hB _
theorem _root_.Go.RowKit.World.ownsRow_below {w w':World} {B:Nat} {e:TypeId} {size:Nat} {v:Value} {n:Nat} {xs:List Value} (h:w.ownsRow B e size v n xs) (hb:Below w.heap.size w w'):w'.ownsRow B e size v n xs :=
 ⟨h.1,h.2.imp id fun ⟨g,cap,cur,hv,hge,hh,rest⟩=>⟨g,cap,cur,hv,hge,(hb.block g (Array.getElem?_eq_some_iff.1 hh).1).trans hh,rest⟩⟩
theorem dY8 {B b:Nat} {l:List UInt8} {w w':World} (h:Bld B b l w) (hb:Below w.heap.size w w'):Bld B b l w' :=
 h.imp (fun ⟨h1,v,h2,h3,h4⟩=>⟨h1,v,(hb.block b (Array.getElem?_eq_some_iff.1 h2).1).trans h2,World.ownsRow_below h3 hb,h4⟩) fun ⟨h1,v,h2,h3,h4⟩=>⟨h1,v,(hb.block b (Array.getElem?_eq_some_iff.1 h2).1).trans h2,World.ownsRow_below h3 hb,h4⟩
theorem bld_new (w:World):Bld w.heap.size w.heap.size [] (w.alloc (.cells #[.pointer none,.slice none 0 0] 143)):=Lib.fresh_isBuilder _ _ w
def wordS:Nat→List UInt8
 | 1=>[97,115,107]
 | 2=>[115,121,110,99]
 | 3=>[99,114,97,115,104]
 | 4=>[115,116,97,114,116]
 | _=>[]
structure dY9 (w : World) : Prop where
  words : ∀ k, k < 5 → w.cell? ⟨1, k, none⟩ = some (.string ⟨(wordS k).toArray⟩)
  size : 1 < w.heap.size
  pow : Lib.TabIs Tryz.prog w "internal/strconv.uint64pow10" .u64 Lib.pow10Tab
theorem dY9.below {w w':World} (h:dY9 w) (hb:Below w.heap.size w w'):dY9 w' :=
 ⟨fun k hk=>(hb.cell (p:=⟨1,k,none⟩) h.size).trans (h.words k hk),Nat.lt_of_lt_of_le h.size hb.size,Lib.tabBelow_of_tabIs h.pow w' hb⟩
theorem dZ0 (n:Int) (h0:0≤n) (h1:n≤200000) (w:World) (ht:dY9 w) :
  Calls Tryz.prog 97 #[.int .i64 n] w fun e w'=>e=.returned (.string ⟨(Lib.decDigits n.toNat).toArray⟩)∧Below w.heap.size w w' :=
 (Tryz.strconv_Itoa n AO AO w ht.pow).mono fun e w' h=>by
  obtain⟨rfl,k,os,rfl⟩:=h
  refine⟨?_,Lib.below_grow _ _ zn k os⟩
  unfold Lib.itoa
  rw[if_neg AO]
theorem dZ1 {w:World} {g:Nat} {t:TypeId} {a b c d:Value} (h:w.heap[g]?=some (.cells #[a,b,c,d] t (0,0))) :
  w.cell? ⟨g,0,none⟩=some a∧w.cell? ⟨g,1,none⟩=some b∧w.cell? ⟨g,2,none⟩=some c∧w.cell? ⟨g,3,none⟩=some d∧w.frozen? ⟨g,0,none⟩=false∧w.frozen? ⟨g,1,none⟩=false∧w.frozen? ⟨g,2,none⟩=false∧w.frozen? ⟨g,3,none⟩=false :=
 ⟨aA (cs:=[a,b,c,d]) h 0,aA (cs:=[a,b,c,d]) h 1,aA (cs:=[a,b,c,d]) h 2,aA (cs:=[a,b,c,d]) h 3,aD (cs:=[a,b,c,d]) h 0,aD (cs:=[a,b,c,d]) h 1,aD (cs:=[a,b,c,d]) h 2,aD (cs:=[a,b,c,d]) h 3⟩
theorem dZ2 (B b:Nat) (l:List UInt8) (S:ByteArray) (w:World) (h:Bld B b l w) (hlen:l.length+S.data.toList.length≤140737488355328) (hBw:B≤w.heap.size) :
  Calls Tryz.prog 55 #[.pointer (some ⟨b,0,none⟩),.string S] w fun e w'=>e=.returned (.tuple #[.int .i64 S.data.toList.length,.nilIface])∧(Bld B b (l++S.data.toList) w'∧Below B w w'):=by
 have e:S=⟨S.data.toList.toArray⟩:=by cases S;simp
 have h2:=dY7 B b l S.data.toList w h hlen hBw
 rw[← e] at h2
 exact h2
theorem dig_at:∀ n,n<16→(({ data:=#[48,49,50,51,52,53,54,55,56,57,97,98,99,100,101,102] }:ByteArray).extract n (n+1)).data.toList=[dX6 n]:=by decide
theorem dZ3 {B b:Nat} {l r:List UInt8} {w:World} (h:Bld B b l w) (e:l=r):Bld B b r w:=e ▸ h
theorem dZ4 (w:World) (hT:dY9 w) (a:Le) (D:Option Addr) (n:Nat) (h0:dX5 a=0) (hD:Bs All w D a.data) :
  Calls Tryz.prog 56 #[.agg #[.int .i64 a.kind,.int .i64 a.session,.int .i64 a.keep,.slice D a.data.length n]] w fun e w'=>e=.returned (.string ⟨(lnS a).toArray⟩)∧Below w.heap.size w w':=by
 have hb0:=(Below.refl w.heap.size w).alloc zn (.cells #[.int .i64 a.kind,.int .i64 a.session,.int .i64 a.keep,.slice D a.data.length n] 46)
 have hx0:=aK w #[.int .i64 a.kind,.int .i64 a.session,.int .i64 a.keep,.slice D a.data.length n] 46
 have hn0:=bld_new (w.alloc (.cells #[.int .i64 a.kind,.int .i64 a.session,.int .i64 a.keep,.slice D a.data.length n] 46))
 have hb1:=hb0.alloc hb0.size (.cells #[.pointer none,.slice none 0 0] 143)
 have hx1:=(heap_alloc_old (w.alloc (.cells #[.int .i64 a.kind,.int .i64 a.session,.int .i64 a.keep,.slice D a.data.length n] 46)) (.cells #[.pointer none,.slice none 0 0] 143) (show w.heap.size<_ by simp)).trans hx0
 have hsz:((w.alloc (.cells #[.int .i64 a.kind,.int .i64 a.session,.int .i64 a.keep,.slice D a.data.length n] 46)).alloc (.cells #[.pointer none,.slice none 0 0] 143)).heap.size=w.heap.size+2:=by simp
 have hne:(w.alloc (.cells #[.int .i64 a.kind,.int .i64 a.session,.int .i64 a.keep,.slice D a.data.length n] 46)).heap.size=w.heap.size+1:=by simp
 rw[hne] at hn0
 have HT:=zh hT
 have HD:=zh hD
 clear hT hD hb0 hx0 hne
 go_enter Tryz.func56,Tryz.ntmps56
 go_upto_region 3 with fail
 obtain⟨w1,hw1e⟩:∃ w1,w1=((w.alloc (.cells #[.int .i64 a.kind,.int .i64 a.session,.int .i64 a.keep,.slice D a.data.length n] 46)).alloc (.cells #[.pointer none,.slice none 0 0] 143)):=⟨_,rfl⟩
 rw[← hw1e] at hn0 hb1 hx1 hsz ⊢
 obtain⟨b,hbe⟩:∃ b,b=w.heap.size+1:=⟨_,rfl⟩
 rw[← hbe] at hn0 ⊢
 obtain⟨g,hge⟩:∃ g,g=w.heap.size:=⟨_,rfl⟩
 rw[← hge] at hx1 ⊢
 have hgb:g<b:=by omega
 have hwb:w.heap.size≤b:=by omega
 have hb1':b<w1.heap.size:=by omega
 have hg1:g<w1.heap.size:=by omega
 have hw1:Below b w1 w1:=Below.refl _ _
 have Hb:=zh hb1
 have Hn1:=zh hn0
 have Hx:=zh hx1
 have Hbe:=zh hsz
 have htw:=(HT.out.below hb1).words
 have hgw:=(HT.out.below hb1).size
 obtain⟨z0,z1,z2,z3,_⟩:=dZ1 hx1
 clear hw1e hbe hge hb1 hn0 hx1 hsz
 rcases dY1 h0 with ⟨h1,h2,h3,h4⟩|h1|⟨h1,h2,h3⟩|h1
 ·have hv:=zh (show lnS a=[97,115,107,32]++Lib.decDigits a.session.toNat++[32]++dX7 a.data++[10] by unfold lnS dY0;rw[if_pos h1])
  rw[h1] at z0
  have h1w:=htw 1 AO
  have h1':=zh h1
  have hd:=dY2 a.session.toNat AO
  clear htw h1 h0
  go_upto_region 4 with (go_at_call 55;(refine (dZ2 b b ([]) _ _ Hn1.out ?hl ?hz).mono ?_);(case hl=>(simp[wordS]));(case hz=>(have:=hw1.size;omega));rintro e w2 ⟨rfl,hn2,hv2⟩;have Hn2:=zh (dZ3 (r:=wordS 1) hn2 ZH2);have hw2:Below b w1 w2:=hw1.trans hv2;clear hn2 hv2;obtain⟨z0,z1,z2,z3,_⟩:=dZ1 ((hw2.block g hgb).trans Hx.out);have hg2:g<w2.heap.size:=(by have:=hw2.size;omega);have hb2:b<w2.heap.size:=(by have:=hw2.size;omega))
  rw[h1'.out] at z0
  go_upto_region 6 with fail
  go_upto_region 7 with (first
   | (go_at_call 97;(refine (dZ0 a.session h2 AO _ (HT.out.below (Hb.out.trans (hw2.mono hwb)))).mono ?_);rintro e w3 ⟨rfl,hv3⟩;have hw3:Below b w1 w3:=hw2.trans (hv3.mono (by have:=hw2.size;omega));have Hn3:=zh (dY8 Hn2.out hv3);clear hv3;obtain⟨z0,z1,z2,z3,_⟩:=dZ1 ((hw3.block g hgb).trans Hx.out);have hg3:g<w3.heap.size:=(by have:=hw3.size;omega);have hb3:b<w3.heap.size:=(by have:=hw3.size;omega))
   | (go_at_call 55;(refine (dZ2 b b (wordS 1) _ _ Hn3.out ?hl ?hz).mono ?_);(case hl=>(simp[wordS];omega));(case hz=>(have:=hw3.size;omega));rintro e w4 ⟨rfl,hn4,hv4⟩;have Hn4:=zh (dZ3 (r:=wordS 1++([32]++Lib.decDigits a.session.toNat++[32])) hn4 ZH2);have hw4:Below b w1 w4:=hw3.trans hv4;clear hn4 hv4;obtain⟨z0,z1,z2,z3,_⟩:=dZ1 ((hw4.block g hgb).trans Hx.out);have hg4:g<w4.heap.size:=(by have:=hw4.size;omega);have hb4:b<w4.heap.size:=(by have:=hw4.size;omega)))
  go_wp2
  go_loopw [28] (fun i wr=>∃ k:Nat,k≤a.data.length∧i=.int .i64 k∧Bld b b (wordS 1++([32]++Lib.decDigits a.session.toNat++[32])++dX7 (a.data.take k)) wr∧Below b w1 wr) (fun i _=>a.data.length - (intOf i).toNat)
  case atStart=>exact⟨0,Nat.zero_le _,rfl,dZ3 Hn4.out (by simp[dX7]),hw4⟩
  case round =>
   obtain⟨k,hk,rfl,hn5,hw5⟩:=hrel
   have Hn5:=zh hn5
   obtain⟨z0,z1,z2,z3,_⟩:=dZ1 ((hw5.block g hgb).trans Hx.out)
   have hg5:g<wr.heap.size:=by have:=hw5.size;omega
   have hb5:b<wr.heap.size:=by have:=hw5.size;omega
   clear hn5
   by_cases hlt:k<a.data.length
   ·obtain⟨db,dof,hX,_,hdl,hdc⟩:=(HD.out.bbelow (Hb.out.trans (hw5.mono hwb))).bat hlt
    subst hX
    have Hsn:=zh (dX8 hlt)
    generalize a.data[k]=c at *
    have hi0:(0:Int)≤(k:Int):=by omega
    have hi1:(k:Int)<(a.data.length:Int):=by omega
    have hc:=c.toNat_lt
    have hc16:c.toNat / 16<16:=by omega
    have hm16:c.toNat % 16<16:=by omega
    go_upto_region 10 with fail
    go_upto_region 11 with (go_at_call 55;(refine (dZ2 b b (wordS 1++([32]++Lib.decDigits a.session.toNat++[32])++dX7 (a.data.take k)) _ _ Hn5.out ?hl ?hz).mono ?_);(case hl=>(rw[dig_at _ hc16];simp[wordS,dX9];omega));(case hz=>(have:=hw5.size;omega));rintro e w6 ⟨rfl,hn6,hv6⟩;have Hn6:=zh (dZ3 (r:=wordS 1++([32]++Lib.decDigits a.session.toNat++[32])++dX7 (a.data.take k)++[dX6 (c.toNat / 16)]) hn6 (by rw[dig_at _ hc16]));have hw6:Below b w1 w6:=hw5.trans hv6;clear hn6 hv6;obtain⟨z0,z1,z2,z3,_⟩:=dZ1 ((hw6.block g hgb).trans Hx.out);have hg6:g<w6.heap.size:=(by have:=hw6.size;omega);have hb6:b<w6.heap.size:=(by have:=hw6.size;omega))
    go_wp2_with (go_at_call 55;(refine (dZ2 b b (wordS 1++([32]++Lib.decDigits a.session.toNat++[32])++dX7 (a.data.take k)++[dX6 (c.toNat / 16)]) _ _ Hn6.out ?hl ?hz).mono ?_);(case hl=>(rw[dig_at _ hm16];simp[wordS,dX9];omega));(case hz=>(have:=hw6.size;omega));rintro e w7 ⟨rfl,hn7,hv7⟩;have Hn7:=zh (dZ3 (r:=wordS 1++([32]++Lib.decDigits a.session.toNat++[32])++dX7 (a.data.take k)++[dX6 (c.toNat / 16)]++[dX6 (c.toNat % 16)]) hn7 (by rw[dig_at _ hm16]));have hw7:Below b w1 w7:=hw6.trans hv7;clear hn7 hv7;obtain⟨z0,z1,z2,z3,_⟩:=dZ1 ((hw7.block g hgb).trans Hx.out);have hg7:g<w7.heap.size:=(by have:=hw7.size;omega);have hb7:b<w7.heap.size:=(by have:=hw7.size;omega))
    go_roundw
    case rel=>exact⟨k+1,AO,by go_num,dZ3 Hn7.out (by rw[Hsn.out];simp),hw7⟩
    case measure=>simp[intOf];omega
   ·obtain rfl:k=a.data.length:=by omega
    have Hn5':=zh (dZ3 Hn5.out (by rw[List.take_length]))
    go_upto_region 15 with fail
    go_upto_region 16 with (go_at_call 55;(refine (dZ2 b b (wordS 1++([32]++Lib.decDigits a.session.toNat++[32])++dX7 a.data) _ _ Hn5'.out ?hl ?hz).mono ?_);(case hl=>(simp[wordS,dX9];omega));(case hz=>(have:=hw5.size;omega));rintro e w8 ⟨rfl,hn8,hv8⟩;have Hn8:=zh (dZ3 (r:=wordS 1++([32]++Lib.decDigits a.session.toNat++[32])++dX7 a.data++[10]) hn8 ZH2);have hw8:Below b w1 w8:=hw5.trans hv8;clear hn8 hv8;obtain⟨z0,z1,z2,z3,_⟩:=dZ1 ((hw8.block g hgb).trans Hx.out);have hg8:g<w8.heap.size:=(by have:=hw8.size;omega);have hb8:b<w8.heap.size:=(by have:=hw8.size;omega))
    go_wp2_with (go_at_call 57;(refine (Tryz.Builder_String_any b b (wordS 1++([32]++Lib.decDigits a.session.toNat++[32])++dX7 a.data++[10]) _ Hn8.out (by have:=hw8.size;omega)).mono ?_);rintro e w9 ⟨rfl,hv9⟩;have hw9:Below b w1 w9:=hw8.trans hv9)
    go_ret
    refine⟨?_,Hb.out.trans (hw9.mono AO)⟩
    rw[hv.out]
    simp[wordS]
 ·have hv:=zh (show lnS a=[115,121,110,99]++[10] by unfold lnS dY0;simp[h1])
  rw[h1] at z0
  have h1w:=htw 2 AO
  have h1':=zh h1
  clear htw h1 h0
  go_upto_region 4 with (go_at_call 55;(refine (dZ2 b b ([]) _ _ Hn1.out ?hl ?hz).mono ?_);(case hl=>(simp[wordS]));(case hz=>(have:=hw1.size;omega));rintro e w2 ⟨rfl,hn2,hv2⟩;have Hn2:=zh (dZ3 (r:=wordS 2) hn2 ZH2);have hw2:Below b w1 w2:=hw1.trans hv2;clear hn2 hv2;obtain⟨z0,z1,z2,z3,_⟩:=dZ1 ((hw2.block g hgb).trans Hx.out);have hg2:g<w2.heap.size:=(by have:=hw2.size;omega);have hb2:b<w2.heap.size:=(by have:=hw2.size;omega))
  rw[h1'.out] at z0
  go_upto_region 15 with fail
  go_upto_region 16 with (go_at_call 55;(refine (dZ2 b b (wordS 2) _ _ Hn2.out ?hl ?hz).mono ?_);(case hl=>(simp[wordS]));(case hz=>(have:=hw2.size;omega));rintro e w3 ⟨rfl,hn3,hv3⟩;have Hn3:=zh (dZ3 (r:=wordS 2++[10]) hn3 ZH2);have hw3:Below b w1 w3:=hw2.trans hv3;clear hn3 hv3;obtain⟨z0,z1,z2,z3,_⟩:=dZ1 ((hw3.block g hgb).trans Hx.out);have hg3:g<w3.heap.size:=(by have:=hw3.size;omega);have hb3:b<w3.heap.size:=(by have:=hw3.size;omega))
  go_wp2_with (go_at_call 57;(refine (Tryz.Builder_String_any b b (wordS 2++[10]) _ Hn3.out (by have:=hw3.size;omega)).mono ?_);rintro e w9 ⟨rfl,hv9⟩;have hw9:Below b w1 w9:=hw3.trans hv9)
  go_ret
  refine⟨?_,Hb.out.trans (hw9.mono AO)⟩
  rw[hv.out]
  simp[wordS]
 ·have hv:=zh (show lnS a=[99,114,97,115,104]++([32]++Lib.decDigits a.keep.toNat)++[10] by unfold lnS dY0;simp[h1])
  rw[h1] at z0
  have h1w:=htw 3 AO
  have h1':=zh h1
  have hd:=dY2 a.keep.toNat AO
  clear htw h1 h0
  go_upto_region 4 with (go_at_call 55;(refine (dZ2 b b ([]) _ _ Hn1.out ?hl ?hz).mono ?_);(case hl=>(simp[wordS]));(case hz=>(have:=hw1.size;omega));rintro e w2 ⟨rfl,hn2,hv2⟩;have Hn2:=zh (dZ3 (r:=wordS 3) hn2 ZH2);have hw2:Below b w1 w2:=hw1.trans hv2;clear hn2 hv2;obtain⟨z0,z1,z2,z3,_⟩:=dZ1 ((hw2.block g hgb).trans Hx.out);have hg2:g<w2.heap.size:=(by have:=hw2.size;omega);have hb2:b<w2.heap.size:=(by have:=hw2.size;omega))
  rw[h1'.out] at z0
  go_upto_region 14 with fail
  go_upto_region 15 with (first
   | (go_at_call 97;(refine (dZ0 a.keep h2 h3 _ (HT.out.below (Hb.out.trans (hw2.mono hwb)))).mono ?_);rintro e w3 ⟨rfl,hv3⟩;have hw3:Below b w1 w3:=hw2.trans (hv3.mono (by have:=hw2.size;omega));have Hn3:=zh (dY8 Hn2.out hv3);clear hv3;obtain⟨z0,z1,z2,z3,_⟩:=dZ1 ((hw3.block g hgb).trans Hx.out);have hg3:g<w3.heap.size:=(by have:=hw3.size;omega);have hb3:b<w3.heap.size:=(by have:=hw3.size;omega))
   | (go_at_call 55;(refine (dZ2 b b (wordS 3) _ _ Hn3.out ?hl ?hz).mono ?_);(case hl=>(simp[wordS];omega));(case hz=>(have:=hw3.size;omega));rintro e w4 ⟨rfl,hn4,hv4⟩;have Hn4:=zh (dZ3 (r:=wordS 3++([32]++Lib.decDigits a.keep.toNat)) hn4 ZH2);have hw4:Below b w1 w4:=hw3.trans hv4;clear hn4 hv4;obtain⟨z0,z1,z2,z3,_⟩:=dZ1 ((hw4.block g hgb).trans Hx.out);have hg4:g<w4.heap.size:=(by have:=hw4.size;omega);have hb4:b<w4.heap.size:=(by have:=hw4.size;omega)))
  go_upto_region 16 with (go_at_call 55;(refine (dZ2 b b (wordS 3++([32]++Lib.decDigits a.keep.toNat)) _ _ Hn4.out ?hl ?hz).mono ?_);(case hl=>(simp[wordS];omega));(case hz=>(have:=hw4.size;omega));rintro e w5 ⟨rfl,hn5,hv5⟩;have Hn5:=zh (dZ3 (r:=wordS 3++([32]++Lib.decDigits a.keep.toNat)++[10]) hn5 ZH2);have hw5:Below b w1 w5:=hw4.trans hv5;clear hn5 hv5;obtain⟨z0,z1,z2,z3,_⟩:=dZ1 ((hw5.block g hgb).trans Hx.out);have hg5:g<w5.heap.size:=(by have:=hw5.size;omega);have hb5:b<w5.heap.size:=(by have:=hw5.size;omega))
  go_wp2_with (go_at_call 57;(refine (Tryz.Builder_String_any b b (wordS 3++([32]++Lib.decDigits a.keep.toNat)++[10]) _ Hn5.out (by have:=hw5.size;omega)).mono ?_);rintro e w9 ⟨rfl,hv9⟩;have hw9:Below b w1 w9:=hw5.trans hv9)
  go_ret
  refine⟨?_,Hb.out.trans (hw9.mono AO)⟩
  rw[hv.out]
  simp[wordS]
 ·have hv:=zh (show lnS a=[115,116,97,114,116]++[10] by unfold lnS dY0;simp[h1])
  rw[h1] at z0
  have h1w:=htw 4 AO
  have h1':=zh h1
  clear htw h1 h0
  go_upto_region 4 with (go_at_call 55;(refine (dZ2 b b ([]) _ _ Hn1.out ?hl ?hz).mono ?_);(case hl=>(simp[wordS]));(case hz=>(have:=hw1.size;omega));rintro e w2 ⟨rfl,hn2,hv2⟩;have Hn2:=zh (dZ3 (r:=wordS 4) hn2 ZH2);have hw2:Below b w1 w2:=hw1.trans hv2;clear hn2 hv2;obtain⟨z0,z1,z2,z3,_⟩:=dZ1 ((hw2.block g hgb).trans Hx.out);have hg2:g<w2.heap.size:=(by have:=hw2.size;omega);have hb2:b<w2.heap.size:=(by have:=hw2.size;omega))
  rw[h1'.out] at z0
  go_upto_region 15 with fail
  go_upto_region 16 with (go_at_call 55;(refine (dZ2 b b (wordS 4) _ _ Hn2.out ?hl ?hz).mono ?_);(case hl=>(simp[wordS]));(case hz=>(have:=hw2.size;omega));rintro e w3 ⟨rfl,hn3,hv3⟩;have Hn3:=zh (dZ3 (r:=wordS 4++[10]) hn3 ZH2);have hw3:Below b w1 w3:=hw2.trans hv3;clear hn3 hv3;obtain⟨z0,z1,z2,z3,_⟩:=dZ1 ((hw3.block g hgb).trans Hx.out);have hg3:g<w3.heap.size:=(by have:=hw3.size;omega);have hb3:b<w3.heap.size:=(by have:=hw3.size;omega))
  go_wp2_with (go_at_call 57;(refine (Tryz.Builder_String_any b b (wordS 4++[10]) _ Hn3.out (by have:=hw3.size;omega)).mono ?_);rintro e w9 ⟨rfl,hv9⟩;have hw9:Below b w1 w9:=hw3.trans hv9)
  go_ret
  refine⟨?_,Hb.out.trans (hw9.mono AO)⟩
  rw[hv.out]
  simp[wordS]
def eW5 (w:World) (r:List UInt8 × Int × Int) (e:Ending) (w':World):Prop:=e=.returned (.tuple #[.string ⟨r.1.toArray⟩,.int .i64 r.2.1,.int .i64 r.2.2])∧Below w.heap.size w w'
theorem show_ok (w:World) (hT:dY9 w) (A:Option Addr) (l:List Le) (c:Nat) (hA:Les All w A l) :
  Calls Tryz.prog 27 #[.slice A l.length c] w (eW5 w (showS l)):=by
 by_cases hL:100000<l.length
 ·have Hv:=zh (show showS l=([],0,1) by unfold showS;rw[if_pos hL])
  have b1:decide ((100000:Int)<(l.length:Int))=true:=by simp;omega
  clear hL
  go_enter Tryz.func27,Tryz.ntmps27
  go_wp2
  go_ret3
  rw[Hv.out]
  exact⟨rfl,Below.refl _ _⟩
 ·have Hv:=zh (show showS l=showFrom l 0 [] by unfold showS;rw[if_neg hL])
  have b1:decide ((100000:Int)<(l.length:Int))=false:=by simp;omega
  have hb1:=(Below.refl w.heap.size w).alloc zn (.cells #[.pointer none,.slice none 0 0] 143)
  have hn1:=bld_new w
  have HT:=zh hT
  have HA:=zh hA
  have hL':l.length≤100000:=by omega
  clear hT hA hL
  go_enter Tryz.func27,Tryz.ntmps27
  go_upto_region 4 with fail
  obtain⟨w1,hw1e⟩:∃ w1,w1=w.alloc (.cells #[.pointer none,.slice none 0 0] 143):=⟨_,rfl⟩
  rw[← hw1e] at hn1 hb1 ⊢
  obtain⟨b,hbe⟩:∃ b,b=w.heap.size:=⟨_,rfl⟩
  have hwb:w.heap.size≤b:=by omega
  rw[← hbe] at hn1 ⊢
  have Hb:=zh hb1
  have Hn1:=zh hn1
  clear hw1e hbe hb1 hn1 b1
  go_wp2
  go_loopw [14] (fun i wr=>∃ (k:Nat) (acc:List UInt8),k≤l.length∧i=.int .i64 k∧Bld b b acc wr∧showFrom (l.drop k) k acc=showFrom l 0 []∧acc.length≤8021*k∧Below w.heap.size w wr) (fun i _=>l.length - (intOf i).toNat)
  case atStart=>exact⟨0,[],Nat.zero_le _,rfl,Hn1.out,rfl,Nat.zero_le _,Hb.out⟩
  case round =>
   obtain⟨k,acc,hk,rfl,hn,hsh,hal,hbel⟩:=hrel
   have Hn:=zh hn
   have Hsh:=zh hsh
   have Hbel:=zh hbel
   have hbz:=hbel.size
   have hbb:b<wr.heap.size:=by rcases hn with h|h <;> obtain⟨_,v,h2,_⟩:=h <;> exact (Array.getElem?_eq_some_iff.1 h2).1
   clear hn hsh hbel
   by_cases hlt:k<l.length
   ·obtain⟨g,off,D,d,hX,_,hgl,hc0,hc1,hc2,hc3,hd,hdl⟩:=dX4 (HA.out.below leR_stays Hbel.out) hlt
    subst hX
    have Hd:=zh hd
    have Hat:=zh (show_at (acc:=acc) hlt)
    generalize l[k]=a at *
    have hi0:(0:Int)≤(k:Int):=by omega
    have hi1:(k:Int)<(l.length:Int):=by omega
    have hwg:=(Below.refl wr.heap.size wr).alloc zn (.cells #[.int .i64 a.kind,.int .i64 a.session,.int .i64 a.keep,.slice D a.data.length d] 46)
    have hbg:=aK wr #[.int .i64 a.kind,.int .i64 a.session,.int .i64 a.keep,.slice D a.data.length d] 46
    clear hd
    go_upto_region 7 with fail
    obtain⟨wg,hwge⟩:∃ wg,wg=wr.alloc (.cells #[.int .i64 a.kind,.int .i64 a.session,.int .i64 a.keep,.slice D a.data.length d] 46):=⟨_,rfl⟩
    rw[← hwge] at hwg hbg ⊢
    obtain⟨gb,hgbe⟩:∃ gb,gb=wr.heap.size:=⟨_,rfl⟩
    rw[← hgbe] at hbg ⊢
    have hgbl:=(Array.getElem?_eq_some_iff.1 hbg).1
    obtain⟨z0,z1,z2,z3,_⟩:=dZ1 hbg
    have Hbg:=zh hbg
    have Hwg:=zh hwg
    have hzg:=hwg.size
    clear hwge hgbe hwg hbg hc0 hc1 hc2 hc3
    by_cases hf:dX5 a=0
    ·have Hf:=zh hf
     have hat:=Hat.out
     rw[if_neg (by simpa using hf),Hsh.out] at hat
     have Hat2:=zh hat
     have hlen:=lnS_len hf
     clear hat hf
     go_wp2_with (first
      | (go_at_call 35;(refine (bC4 _ a.kind a.session a.keep D a.data.length d).mono ?_);rw[show aB1 a.kind a.session a.keep a.data.length=0 from Hf.out];rintro e w2 ⟨rfl,hv2⟩;have hz2:=hv2.size;have Hn2:=zh (dY8 (dY8 Hn.out Hwg.out) hv2);obtain⟨z0,z1,z2,z3,_⟩:=dZ1 ((hv2.block gb hgbl).trans Hbg.out);have hg2:gb<w2.heap.size:=AO;have Hw2:=zh (Hwg.out.trans (hv2.mono AO));clear hv2)
      | (go_at_call 56;(refine (dZ4 _ (HT.out.below (Hbel.out.trans (Hw2.out.mono hbz))) a D d Hf.out (Hd.out.bbelow Hw2.out)).mono ?_);rintro e w3 ⟨rfl,hv3⟩;have hz3:=hv3.size;have Hn3:=zh (dY8 Hn2.out hv3);have Hw3:=zh (Hw2.out.trans (hv3.mono AO));clear hv3)
      | (go_at_call 55;(refine (dY7 b b acc (lnS a) _ Hn3.out AO AO).mono ?_);rintro e w4 ⟨rfl,hn4,hv4⟩;have Hn4:=zh hn4;clear hn4))
     go_roundw
     case rel=>exact⟨k+1,acc++lnS a,AO,by go_num,Hn4.out,Hat2.out.symm,by rw[List.length_append];omega,(Hbel.out.trans (Hw3.out.mono hbz)).trans (hv4.mono hwb)⟩
     case measure=>simp[intOf];omega
    ·have hat:=Hat.out
     rw[if_pos hf,Hsh.out] at hat
     have Hat2:=zh hat
     have b2:(aB1 a.kind a.session a.keep a.data.length != 0)=true:=by simpa [dX5] using hf
     clear hat hf
     go_wp2_with (go_at_call 35;(refine (bC4 _ a.kind a.session a.keep D a.data.length d).mono ?_);rintro e w2 ⟨rfl,hv2⟩)
     go_ret3
     rw[Hv.out,Hat2.out]
     exact⟨rfl,(Hbel.out.trans (Hwg.out.mono hbz)).trans (hv2.mono AO)⟩
   ·have hend:=show_end (acc:=acc) hlt
    rw[Hsh.out] at hend
    have Hend:=zh hend
    clear hend
    go_wp2_with (go_at_call 57;(refine (Tryz.Builder_String_any b b acc _ Hn.out AO).mono ?_);rintro e w2 ⟨rfl,hv2⟩)
    go_ret3
    rw[Hv.out,Hend.out]
    exact⟨rfl,Hbel.out.trans (hv2.mono hwb)⟩
end Go.Proofs.YtablgnacmpcfeaaGreatDoor
