/- LnD: Lines read, in plain words: what the program and the reference make of a line, and that both take the same lines for the same acts. No program. Lines read, in plain words: both take the same lines for the same acts. No program. The library's functions that reading lines calls, in plain words: TrimSuffix, Split, Atoi, IndexByte. Walk: lines.act: what the program makes of a line. Walks: the reference's wordsOf, whole, hexValue. Walk: the reference's lineAct: what it makes of a line. Walk: the reference's ActsRead. The conditions of each are in its words. -/
import Derived.Lib.Split
import Derived.Lib.IndexMore
import Derived.Lib.CountLaws
import Derived.Lib.AtoiAll
import Derived.Lib.AtoiErrMem
import Derived.BigQuiet
import Derived.Deep.CutRange
import Derived.Lib.Strings
import Derived.Test.YtablgnacmpcfeaaGreatDoorKLnA
import Derived.Test.YtablgnacmpcfeaaGreatDoorKShelfR
import Derived.Test.YtablgnacmpcfeaaGreatDoorKLnB
namespace Go.Proofs.YtablgnacmpcfeaaGreatDoor
open Go.RowKit
set_option linter.unusedVariables false
set_option linter.unusedSimpArgs false
set_option maxRecDepth 100000
set_option maxHeartbeats 8000000
def dZ8 (c:UInt8):List UInt8→List (List UInt8)
 | []=>[[]]
 | x :: l=>if x=c then [] :: dZ8 c l else match dZ8 c l with|w :: ws=>(x :: w) :: ws|[]=>[[x]]
theorem dZ9 (c:UInt8):∀ l,dZ8 c l≠[]
 | []=>by simp[dZ8]
 | x :: l=>by
  unfold dZ8
  split
  ·simp
  ·split <;> simp
theorem eA0 {c:UInt8}:∀ {l:List UInt8},c ∉ l→dZ8 c l=[l]
 | [],_=>rfl
 | x :: l,h=>by
  have h1:x≠c:=fun e=>h (by simp[e])
  have h2:c ∉ l:=fun e=>h (by simp[e])
  unfold dZ8
  rw[if_neg h1,eA0 h2]
theorem eA1 {c:UInt8}:∀ {p q:List UInt8},c ∉ p→dZ8 c (p++c :: q)=p :: dZ8 c q
 | [],q,_=>by simp[dZ8]
 | x :: p,q,h=>by
  have h1:x≠c:=fun e=>h (by simp[e])
  have h2:c ∉ p:=fun e=>h (by simp[e])
  rw[List.cons_append,dZ8,if_neg h1,eA1 h2]
theorem eA2 (s:List UInt8) (c:UInt8) (j:Nat):Lib.occAt s [c] j=true↔s[j]?=some c:=by
 unfold Lib.occAt
 cases h:s.drop j with
 | nil =>
  have:s.length≤j:=by simpa using h
  rw[List.getElem?_eq_none this]
  simp
 | cons x r =>
  have hj:s[j]?=some x:=by
   have:=congrArg (·[0]?) h
   simpa using this
  rw[hj]
  simp only[List.isPrefixOf,Bool.and_true,beq_iff_eq,Option.some.injEq]
  exact eq_comm
theorem eA3 (c:UInt8):∀ (n:Nat) (s:List UInt8),s.length≤n→Lib.splitK [c] 0 (Lib.count s [c]) s=dZ8 c s:=by
 intro n
 induction n with
 | zero =>
  intro s hs
  obtain rfl:s=[]:=List.eq_nil_of_length_eq_zero AO
  have hi:Lib.index [] [c]=-1:=Lib.index_none fun j _=>by
   rcases Bool.eq_false_or_eq_true (Lib.occAt [] [c] j) with h|h
   ·rw[eA2] at h;simp at h
   ·exact h
  rw[Lib.count_miss hi]
  rfl
 | succ n ih =>
  intro s hs
  rcases Lib.index_spec s [c] with ⟨h1,h2⟩|⟨i,h1,h2,h3,h4⟩
  ·rw[Lib.count_miss h1,eA0]
   ·rfl
   ·intro hm
    obtain⟨j,hj,hc⟩:=List.getElem_of_mem hm
    have:=h2 j AO
    have h3:=(eA2 s c j).2 (by rw[List.getElem?_eq_getElem hj,hc])
    rw[h3] at this
    cases this
  ·have hc:=(eA2 s c i).1 h3
   obtain⟨hi,hci⟩:=List.getElem?_eq_some_iff.1 hc
   have hs2:s=s.take i++c :: s.drop (i+1):=by
    rw[← hci,← List.drop_eq_getElem_cons hi,List.take_append_drop]
   have hn:c ∉ s.take i:=by
    intro hm
    obtain⟨j,hj,hcj⟩:=List.getElem_of_mem hm
    rw[List.length_take] at hj
    have:=h4 j AO
    have h5:=(eA2 s c j).2 (by
     rw[List.getElem_take] at hcj
     rw[List.getElem?_eq_getElem AO,hcj])
    rw[h5] at this
    cases this
   rw[Lib.count_hit ZH2 h1,Nat.add_comm 1,Lib.splitK,if_neg (by rw[h1];simp)]
   rw[h1]
   simp only[Int.toNat_natCast,List.length_cons,List.length_nil,Nat.add_zero,Nat.zero_add]
   rw[ih (s.drop (i+1)) ZF5]
   conv=>rhs;rw[hs2]
   rw[eA1 hn]
def wholeF:List UInt8→Nat→Int
 | [],n=>n
 | c :: r,n=>if c.toNat<48∨57<c.toNat then -1 else wholeF r (10*n+(c.toNat - 48))
def eA4 (c:UInt8):Prop:=48≤c.toNat∧c.toNat≤57
theorem wholeF_snoc:∀ (s:List UInt8) (n:Nat) (c:UInt8),(∀ x ∈ s,eA4 x)→eA4 c→wholeF (s++[c]) n=10*wholeF s n+(c.toNat - 48)
 | [],n,c,_,hc=>by
  unfold eA4 at hc
  simp only[List.nil_append,wholeF]
  rw[if_neg AO]
  omega
 | x :: s,n,c,hs,hc=>by
  have hx:=hs x ZH2
  unfold eA4 at hx
  rw[List.cons_append]
  simp only[wholeF]
  rw[if_neg AO,if_neg AO,wholeF_snoc s _ c (fun y hy=>hs y (by simp[hy])) hc]
theorem dec_digit:∀ (n:Nat),∀ c ∈ Lib.decDigits n,eA4 c:=by
 intro n
 induction n using Nat.strongRecOn with
 | ind n ih =>
  intro c hc
  rw[Lib.decDigits] at hc
  split at hc
  ·simp only[List.mem_singleton] at hc
   rw[hc]
   unfold eA4
   rw[UInt8.toNat_ofNat']
   omega
  ·rcases List.mem_append.1 hc with h|h
   ·exact ih _ AO c h
   ·simp only[List.mem_singleton] at h
    rw[h]
    unfold eA4
    rw[UInt8.toNat_ofNat']
    omega
theorem wholeF_dec:∀ (n:Nat),wholeF (Lib.decDigits n) 0=n:=by
 intro n
 induction n using Nat.strongRecOn with
 | ind n ih =>
  rw[Lib.decDigits]
  split
  ·simp only[wholeF]
   rw[UInt8.toNat_ofNat',if_neg AO]
   omega
  ·rw[wholeF_snoc _ _ _ (dec_digit _) (by unfold eA4;rw[UInt8.toNat_ofNat'];omega),ih _ AO,UInt8.toNat_ofNat']
   omega
theorem dec_head:∀ (n:Nat),0<n→(Lib.decDigits n).head?≠some 48∧Lib.decDigits n≠[]:=by
 intro n
 induction n using Nat.strongRecOn with
 | ind n ih =>
  intro hn
  rw[Lib.decDigits]
  split
  ·refine⟨?_,by simp⟩
   simp only[List.head?_cons,ne_eq,Option.some.injEq]
   intro e
   have:=congrArg UInt8.toNat e
   rw[UInt8.toNat_ofNat'] at this
   simp at this
   omega
  ·obtain⟨h1,h2⟩:=ih (n / 10) AO AO
   refine⟨?_,by simp⟩
   cases hd:Lib.decDigits (n / 10) with
   | nil=>exact absurd hd h2
   | cons x l =>
    rw[hd] at h1
    simpa using h1
def eA5 (s:List UInt8):Int:=match Lib.atoiAll s with|.ok v=>v|.range=>Lib.atoiSat s|_=>0
theorem parse_dec:∀ (s:List UInt8) (acc:Nat),(∀ c ∈ s,eA4 c)→wholeF s acc≤200000→Lib.parseUint10 acc s=.ok (wholeF s acc).toNat
 | [],acc,_,_=>by simp[Lib.parseUint10,wholeF]
 | c :: r,acc,hd,hl=>by
  have hc:=hd c ZH2
  unfold eA4 at hc
  have hw:wholeF (c :: r) acc=wholeF r (10*acc+(c.toNat - 48)):=by simp only[wholeF];rw[if_neg AO]
  rw[hw] at hl ⊢
  have hm:∀ (s:List UInt8) (n:Nat),(∀ c ∈ s,eA4 c)→(n:Int)≤wholeF s n:=by
   intro s
   induction s with
   | nil=>intro n _;exact Int.le_refl _
   | cons x s ih =>
    intro n hx
    have hx1:=hx x ZH2
    unfold eA4 at hx1
    simp only[wholeF]
    rw[if_neg AO]
    have:=ih (10*n+(x.toNat - 48)) fun y hy=>hx y (by simp[hy])
    omega
  have h1:=hm r (10*acc+(c.toNat - 48)) fun y hy=>hd y (by simp[hy])
  rw[Lib.parseUint10,if_pos hc,if_neg AO,if_neg AO,show acc*10+(c.toNat - 48)=10*acc+(c.toNat - 48) by omega]
  exact parse_dec r _ (fun y hy=>hd y (by simp[hy])) hl
theorem eA6 {n:Nat} (h:n≤200000):eA5 (Lib.decDigits n)=n:=by
 have hd:=dec_digit n
 have hw:=wholeF_dec n
 have hne:Lib.decDigits n≠[]:=by
  rcases Nat.eq_zero_or_pos n with h0|h0
  ·subst h0;rw[Lib.decDigits];simp
  ·exact (dec_head n h0).2
 generalize Lib.decDigits n=s at *
 cases s with
 | nil=>exact absurd rfl hne
 | cons c r =>
  have hc:=hd c ZH2
  unfold eA4 at hc
  have hp:Lib.parseMag (c :: r)=.ok n:=by
   unfold Lib.parseMag
   rw[if_neg hne,parse_dec (c :: r) 0 hd (by rw[hw];omega),hw]
   rfl
  unfold eA5 Lib.atoiAll
  dsimp only
  rw[if_neg AO,hp]
  dsimp only
  rw[if_neg AO,if_neg AO,if_neg AO]
def noLn:Le:=⟨0,0,0,[]⟩
def eA7 (w:List UInt8):Nat→Int
 | 0=>0
 | k+1=>if 0<k∧wordS k=w then (k:Int) else eA7 w k
def eA8 (w:List UInt8):Int:=eA7 w 5
def digs:List UInt8:=[48,49,50,51,52,53,54,55,56,57,97,98,99,100,101,102]
def hexB (c0 c1:UInt8):UInt8:=UInt8.ofNat (IntKind.u8.wrap (bits .or .i64 (IntKind.i64.wrap (Lib.indexByte digs c0*16)) (bits .and .i64 (Lib.indexByte digs c1) 15))).toNat
theorem hexB_val (c0 c1:UInt8):IntKind.u8.wrap (bits .or .i64 (IntKind.i64.wrap (Lib.indexByte digs c0*16)) (bits .and .i64 (Lib.indexByte digs c1) 15))=((hexB c0 c1).toNat:Int):=by
 unfold hexB
 rw[UInt8.toNat_ofNat',IntKind.wrap_u8]
 omega
def unhexP:List UInt8→List UInt8
 | c0 :: c1 :: r=>hexB c0 c1 :: unhexP r
 | _=>[]
theorem hexB_ok:∀ x,x<16→∀ y,y<16→hexB (dX6 x) (dX6 y)=UInt8.ofNat (16*x+y):=by decide +kernel
theorem unhexP_hexS:∀ d:List UInt8,unhexP (dX7 d)=d
 | []=>rfl
 | b :: d=>by
  have hb:=b.toNat_lt
  have e:dX7 (b :: d)=dX6 (b.toNat / 16) :: dX6 (b.toNat % 16) :: dX7 d:=rfl
  rw[e,unhexP,hexB_ok _ AO _ AO,unhexP_hexS d,show 16*(b.toNat / 16)+b.toNat % 16=b.toNat by omega,UInt8.ofNat_toNat]
def eA9 (s:List UInt8):List UInt8:=if s.getLast?=some 10 then s.dropLast else s
theorem eB0 (s:List UInt8):eA9 (s++[10])=s:=by simp[eA9]
def actOf (l:List (List UInt8)):Le :=
 match l with
 | []=>noLn
 | [w]=>⟨eA8 w,0,0,[]⟩
 | w :: v :: r=>if eA8 w=3 then ⟨3,0,eA5 v,[]⟩ else if eA8 w=1 then ⟨1,eA5 v,0,unhexP ((v :: r).getLast ZH2)⟩ else ⟨eA8 w,0,0,[]⟩
def pS (s:List UInt8):Le:=actOf (dZ8 32 (eA9 s))
theorem eB1 {a:Le} (h:dX5 a=0):(∃ s:Nat,s<8∧a=⟨1,s,0,a.data⟩)∨a=⟨2,0,0,[]⟩∨(∃ p:Nat,p≤200000∧a=⟨3,0,p,[]⟩)∨a=⟨4,0,0,[]⟩:=by
 obtain⟨k,s,p,d⟩:=a
 unfold dX5 aB1 at h
 dsimp only at h
 split at h
 ·cases h
 ·split at h
  ·cases h
  ·split at h
   ·cases h
   ·split at h
    ·cases h
    ·have hd:k≠1→d=[]:=fun hk=>List.eq_nil_of_length_eq_zero AO
     rcases (by omega:k=1∨k=2∨k=3∨k=4) with e|e|e|e
     ·refine .inl ⟨s.toNat,AO,?_⟩
      rw[e,show p=0 by omega,Int.toNat_of_nonneg AO]
     ·rw[e,hd AO,show s=0 by omega,show p=0 by omega]
      exact .inr (.inl rfl)
     ·refine .inr (.inr (.inl ⟨p.toNat,AO,?_⟩))
      rw[e,hd AO,show s=0 by omega,Int.toNat_of_nonneg AO]
     ·rw[e,hd AO,show s=0 by omega,show p=0 by omega]
      exact .inr (.inr (.inr rfl))
theorem eB2 (n:Nat):(32:UInt8) ∉ Lib.decDigits n:=fun h=>by
 have:=dec_digit n 32 h
 unfold eA4 at this
 simp at this
theorem no_blank_hex:∀ d:List UInt8,(32:UInt8) ∉ dX7 d:=by
 have h16:∀ n,n<16→(32:UInt8)≠dX6 n:=by decide
 intro d
 induction d with
 | nil=>simp[dX7]
 | cons b d ih =>
  have hb:=b.toNat_lt
  have e:dX7 (b :: d)=dX6 (b.toNat / 16) :: dX6 (b.toNat % 16) :: dX7 d:=rfl
  rw[e]
  simp only[List.mem_cons,not_or]
  exact⟨h16 _ AO,h16 _ AO,ih⟩
theorem cut_ask (s:Nat) (d:List UInt8):dZ8 32 (dY0 ⟨1,s,0,d⟩)=[[97,115,107],Lib.decDigits s,dX7 d]:=by
 have e:dY0 ⟨1,s,0,d⟩=[97,115,107]++32 :: (Lib.decDigits s++32 :: dX7 d):=by simp[dY0]
 rw[e,eA1 ZD9,eA1 (eB2 s),eA0 (no_blank_hex d)]
theorem eB3 (p:Nat):dZ8 32 (dY0 ⟨3,0,p,[]⟩)=[[99,114,97,115,104],Lib.decDigits p]:=by
 have e:dY0 ⟨3,0,p,[]⟩=[99,114,97,115,104]++32 :: Lib.decDigits p:=by simp[dY0]
 rw[e,eA1 ZD9,eA0 (eB2 p)]
theorem cut_sync:dZ8 32 (dY0 ⟨2,0,0,[]⟩)=[[115,121,110,99]]:=by decide
theorem cut_start:dZ8 32 (dY0 ⟨4,0,0,[]⟩)=[[115,116,97,114,116]]:=by decide
theorem back_p {a:Le} (h:dX5 a=0):pS (lnS a)=a:=by
 unfold pS lnS
 rw[eB0]
 rcases eB1 h with ⟨s,hs,e⟩|e|⟨p,hp,e⟩|e
 ·rw[e,cut_ask]
  have hk:eA8 [97,115,107]=1:=by decide
  unfold actOf
  dsimp only
  rw[hk,if_neg ZD9,if_pos rfl,eA6 AO]
  simp[unhexP_hexS]
 ·rw[e,cut_sync]
  show (⟨eA8 [115,121,110,99],0,0,[]⟩:Le)=_
  rw[show eA8 [115,121,110,99]=2 by decide]
 ·rw[e,eB3]
  have hk:eA8 [99,114,97,115,104]=3:=by decide
  unfold actOf
  dsimp only
  rw[hk,if_pos rfl,eA6 AO]
 ·rw[e,cut_start]
  show (⟨eA8 [115,116,97,114,116],0,0,[]⟩:Le)=_
  rw[show eA8 [115,116,97,114,116]=4 by decide]
def okS (s:List UInt8):Option Le:=if dX5 (pS s)=0∧lnS (pS s)=s then some (pS s) else none
def linesOf:List UInt8→List (List UInt8)
 | []=>[]
 | x :: l=>if x=10 then [10] :: linesOf l else match linesOf l with|[]=>[[x]]|w :: ws=>(x :: w) :: ws
theorem linesOf_app:∀ {p q:List UInt8},(10:UInt8) ∉ p→linesOf (p++10 :: q)=(p++[10]) :: linesOf q
 | [],q,_=>by simp[linesOf]
 | x :: p,q,h=>by
  have h1:x≠10:=fun e=>h (by simp[e])
  have h2:(10:UInt8) ∉ p:=fun e=>h (by simp[e])
  rw[List.cons_append,linesOf,if_neg h1,linesOf_app h2]
  rfl
theorem linesOf_one:∀ {p:List UInt8},(10:UInt8) ∉ p→p≠[]→linesOf p=[p]
 | [],_,h=>absurd rfl h
 | [x],h,_=>by
  have h1:x≠10:=fun e=>h (by simp[e])
  simp[linesOf,h1]
 | x :: y :: p,h,_=>by
  have h1:x≠10:=fun e=>h (by simp[e])
  have h2:(10:UInt8) ∉ y :: p:=fun e=>h (by simp[e])
  rw[linesOf,if_neg h1,linesOf_one h2 ZH2]
def readFrom:List (List UInt8)→List Le→List Le × Int × Int
 | [],acc=>(acc,0,0)
 | s :: r,acc=>if acc.length=100000 then ([],100000,11) else match okS s with|none=>([],acc.length,4)|some a=>readFrom r (acc++[a])
def eB4 (t:List UInt8):List Le × Int × Int:=if 2000000<t.length then ([],0,1) else readFrom (linesOf t) []
theorem eB5 {P:Program} {w w':World} {name:String} {cs:Array Value} (h:w.var? P name=some cs) (hb:Below w.heap.size w w'):w'.var? P name=some cs:=by
 unfold World.var? at *
 cases hg:P.globalNamed name with
 | none=>simp[hg] at h
 | some g =>
  simp only[hg,Option.bind_some] at h ⊢
  have hlt:g<w.heap.size:=by
   rcases Nat.lt_or_ge g w.heap.size with h'|h'
   ·exact h'
   ·rw[Array.getElem?_eq_none h'] at h;simp at h
  rw[hb.block g hlt]
  exact h
structure eB6 (w : World) : Prop where
  ln : dY9 w
  mx : ∃ m, w.cell? ⟨2, 0, none⟩ = some (.int .i64 m)
  syn : ∃ tp p, w.var? Tryz.prog "strconv.ErrSyntax" = some #[.iface tp p]
  rng : ∃ tp p, w.var? Tryz.prog "strconv.ErrRange" = some #[.iface tp p]
theorem cell_lt {w:World} {a:Addr} {v:Value} (h:w.cell? a=some v):a.block<w.heap.size:=by
 rcases Nat.lt_or_ge a.block w.heap.size with h'|h'
 ·exact h'
 ·simp[World.cell?,Array.getElem?_eq_none h'] at h
theorem eB6.below {w w':World} (h:eB6 w) (hb:Below w.heap.size w w'):eB6 w' :=
 ⟨h.ln.below hb,h.mx.imp fun m hm=>(hb.cell (cell_lt hm)).trans hm,h.syn.imp fun _ ⟨p,hp⟩=>⟨p,eB5 hp hb⟩,h.rng.imp fun _ ⟨p,hp⟩=>⟨p,eB5 hp hb⟩⟩
theorem eB7 (s:List UInt8):(⟨s.toArray⟩:ByteArray).size=s.length:=by simp[ByteArray.size]
theorem atoi_ok (w:World) (ht:eB6 w) (s:List UInt8) (hs:s.length≤2000000) :
  Calls Tryz.prog 102 #[.string ⟨s.toArray⟩] w fun e w'=>∃ err,e=.returned (.tuple #[.int .i64 (eA5 s),err])∧Below w.heap.size w w':=by
 have hz:=eB7 s
 cases h:Lib.atoiAll s
 case ok v =>
  refine (Tryz.strconv_Atoi_ok ⟨s.toArray⟩ (by rw[hz];omega) v h w).mono ?_
  rintro e w' ⟨rfl,hw⟩
  refine⟨.nilIface,by unfold eA5;rw[h],?_⟩
  rcases hw with rfl|⟨t,rfl⟩
  ·exact Below.refl _ _
  ·exact Lib.bytesWorld_below _ _ _
 case range =>
  obtain⟨tp,p,hv⟩:=ht.rng
  refine (Tryz.strconv_Atoi_range_var ⟨s.toArray⟩ (by rw[hz];omega) h tp p w hv).mono ?_
  rintro e w' ⟨n,rfl,_,_,hb⟩
  exact⟨_,by unfold eA5;rw[h],hb⟩
 all_goals
  obtain⟨tp,p,hv⟩:=ht.syn
  refine (Tryz.strconv_Atoi_bad_var ⟨s.toArray⟩ (by rw[hz];omega) (fun v e=>by rw[show (⟨s.toArray⟩:ByteArray).data.toList=s from rfl,h] at e;cases e) (fun e=>by rw[show (⟨s.toArray⟩:ByteArray).data.toList=s from rfl,h] at e;cases e) tp p w hv).mono ?_
  rintro e w' ⟨n,rfl,_,_,hb⟩
  exact⟨_,by unfold eA5;rw[h],hb⟩
theorem trim_ok (w:World) (s:List UInt8) (hs:s.length≤2000000) :
  Calls Tryz.prog 101 #[.string ⟨s.toArray⟩,.string ⟨#[10]⟩] w fun e w'=>e=.returned (.string ⟨(eA9 s).toArray⟩)∧w'=w:=by
 refine (Tryz.strings_TrimSuffix ⟨s.toArray⟩ ⟨#[10]⟩ w (by rw[eB7];omega)).mono ?_
 rintro e w' ⟨rfl,rfl⟩
 refine⟨?_,rfl⟩
 have e1:Lib.trimSuffix s [10]=eA9 s:=by
  unfold Lib.trimSuffix Lib.hasSuffix eA9
  rcases List.eq_nil_or_concat s with h|⟨p,c,h⟩
  ·rw[h];rfl
  ·rw[h]
   by_cases hc:c=10
   ·rw[hc,if_pos ZH2,if_pos ZH2]
    simp
   ·rw[if_neg (by
     simp only[List.isSuffixOf_iff_suffix]
     rintro⟨t,ht⟩
     have h2:=congrArg List.getLast? ht
     simp at h2
     exact hc h2.symm),if_neg (by simpa using hc)]
 rw[← e1]
theorem eB8 (c:UInt8):∀ (n:Nat) (s:List UInt8),s.length≤n→(Lib.splitK [c] 0 (Lib.count s [c]) s).length=Lib.count s [c]+1:=by
 intro n
 induction n with
 | zero =>
  intro s hs
  obtain rfl:s=[]:=List.eq_nil_of_length_eq_zero AO
  have hi:Lib.index [] [c]=-1:=Lib.index_none fun j _=>by
   rcases Bool.eq_false_or_eq_true (Lib.occAt [] [c] j) with h|h
   ·rw[eA2] at h;simp at h
   ·exact h
  rw[Lib.count_miss hi]
  rfl
 | succ n ih =>
  intro s hs
  rcases Lib.index_spec s [c] with ⟨h1,h2⟩|⟨i,h1,h2,h3,h4⟩
  ·rw[Lib.count_miss h1]
   rfl
  ·have hc:=(eA2 s c i).1 h3
   obtain⟨hi,hci⟩:=List.getElem?_eq_some_iff.1 hc
   rw[Lib.count_hit ZH2 h1,Nat.add_comm 1,Lib.splitK,if_neg (by rw[h1];simp),h1]
   simp only[Int.toNat_natCast,List.length_cons,List.length_nil,Nat.zero_add]
   rw[ih (s.drop (i+1)) ZF5]
theorem split_ok (w:World) (ht:eB6 w) (s:List UInt8) (hs:s.length≤2000000) :
  Calls Tryz.prog 100 #[.string ⟨s.toArray⟩,.string ⟨#[32]⟩] w fun e w' =>
   e=.returned (.slice (some ⟨w.heap.size,0,none⟩) (dZ8 32 s).length (dZ8 32 s).length)∧w'=w.alloc (.cells ((dZ8 32 s).map fun l=>Value.string ⟨l.toArray⟩).toArray 9):=by
 obtain⟨m,hm⟩:=ht.mx
 refine (Tryz.strings_Split ⟨s.toArray⟩ ⟨#[32]⟩ m w (by rw[eB7];omega) hm ZD9).mono ?_
 rintro e w' ⟨rfl,rfl⟩
 have h1:Lib.countB ⟨s.toArray⟩ ⟨#[32]⟩=Lib.count s [32]:=rfl
 have h2:=Lib.splitB_data ⟨#[32]⟩ 0 (Lib.count s [32]) ⟨s.toArray⟩
 have h3:(⟨#[32]⟩:ByteArray).data.toList=[32]:=rfl
 have h4:(⟨s.toArray⟩:ByteArray).data.toList=s:=rfl
 rw[h3,h4,eA3 32 s.length s zn] at h2
 have h5:(dZ8 32 s).length=Lib.count s [32]+1:=by rw[← eA3 32 s.length s zn];exact eB8 32 s.length s zn
 rw[h1,h5]
 refine⟨rfl,?_⟩
 rw[← h2,List.map_map]
 rfl
theorem idx_ok (w:World) (c:UInt8) :
  Calls Tryz.prog 99 #[.string ⟨#[48,49,50,51,52,53,54,55,56,57,97,98,99,100,101,102]⟩,.int .u8 (c.toNat:Int)] w fun e w'=>e=.returned (.int .i64 (Lib.indexByte digs c))∧w'=w:=by
 refine (Tryz.strings_IndexByte ⟨#[48,49,50,51,52,53,54,55,56,57,97,98,99,100,101,102]⟩ (c.toNat:Int) w).mono ?_
 rintro e w' ⟨rfl,rfl⟩
 have e1:((c.toNat:Int)).toNat.toUInt8=c:=by simp
 rw[e1]
 exact⟨rfl,rfl⟩
def RetLeC (w:World) (a:Le) (e:Ending) (w':World):Prop:=∃ D d,e=.returned (.agg #[.int .i64 a.kind,.int .i64 a.session,.int .i64 a.keep,.slice D a.data.length d])∧Bs (aB w.heap.size) w' D a.data∧Below w.heap.size w w'∧a.data.length≤d
theorem owb_cap {B n c:Nat} {w:World} {A:Option Addr} {l:List UInt8} (h:OwB B w (.slice A n c) l):l.length≤c:=by
 rcases h.2 with ⟨e,h0⟩|⟨g,cap,cur,e,_,_,hcap,_⟩
 ·omega
 ·injection e with _ _ e
  omega
theorem eB9 {w:World} {g:Nat} {ws:List (List UInt8)} (h:w.heap[g]?=some (.cells (ws.map fun l=>Value.string ⟨l.toArray⟩).toArray 9 (0,0))) {i:Nat} (hi:i<ws.length):w.cell? ⟨g,i,none⟩=some (.string ⟨(ws[i]).toArray⟩):=by
 rw[aA (cs:=ws.map fun l=>Value.string ⟨l.toArray⟩) h i]
 simp[hi]
theorem idx_agg (W:World) (cs:Array Value) (k:Nat) (i:Int) (v:Value) (hk:k<5) (hi:i=k) (hv:cs[k]?=some v):(Instr.index 189 (.agg cs) (.int .i64 i)).run Tryz.prog W=.ok v W:=by
 subst hi
 have u:=run_underlying (w:=W) (Tryz.underlying189)
 simp[Instr.index,u,asIntOf,hk,part,go_sem,Tryz.isAgg9,hv]
theorem eC0 {c:UInt8}:∀ {s x:List UInt8},x ∈ dZ8 c s→x.length≤s.length
 | [],x,h=>by
  simp only[dZ8,List.mem_singleton] at h
  rw[h]
  exact zn
 | y :: l,x,h=>by
  unfold dZ8 at h
  split at h
  ·rcases List.mem_cons.1 h with e|e
   ·rw[e];exact Nat.zero_le _
   ·have:=eC0 e
    simp only[List.length_cons]
    omega
  ·cases hc:dZ8 c l with
   | nil=>exact absurd hc (dZ9 c l)
   | cons w ws =>
    rw[hc] at h
    rcases List.mem_cons.1 h with e|e
    ·have:=eC0 (c:=c) (s:=l) (x:=w) (by rw[hc];simp)
     rw[e]
     simp only[List.length_cons]
     omega
    ·have:=eC0 (c:=c) (s:=l) (x:=x) (by rw[hc];simp[e])
     simp only[List.length_cons]
     omega
theorem eC1 (c:UInt8):∀ s:List UInt8,(dZ8 c s).length≤s.length+1
 | []=>by simp[dZ8]
 | y :: l=>by
  have ih:=eC1 c l
  unfold dZ8
  split
  ·simp only[List.length_cons]
   omega
  ·cases hc:dZ8 c l with
   | nil=>exact absurd hc (dZ9 c l)
   | cons w ws =>
    rw[hc] at ih
    simp only[List.length_cons] at ih ⊢
    omega
theorem owb_off {B g i:Nat} {w:World} {v:Value} {l:List UInt8} {u:Value} (h:OwB B w v l) (hg:g<B):OwB B (w.setCell ⟨g,i,none⟩ u) v l :=
 ⟨h.1,h.2.imp id fun ⟨b,cap,cur,hv,hge,hh,rest⟩=>⟨b,cap,cur,hv,hge,(heap_setCell_other _ _ _ _ (show b≠g by omega)).trans hh,rest⟩⟩
def strLen:Value→Nat
 | .string s=>s.size
 | _=>0
theorem eC2 (w:List UInt8) (k:Nat):eA7 w (k+1)=if 0<k∧wordS k=w then (k:Int) else eA7 w k:=rfl
theorem eC3 (w:World) (hT:eB6 w) (s:List UInt8) (hs:s.length≤2000000) :
  Calls Tryz.prog 59 #[.string ⟨s.toArray⟩] w (RetLeC w (pS s)):=by
 have hts:(eA9 s).length≤2000000:=by
  unfold eA9
  split
  ·rw[List.length_dropLast];omega
  ·exact hs
 have hx0:=aK w #[.int .i64 0,.int .i64 0,.int .i64 0,.slice none 0 0] 46
 have hb0:=(Below.refl w.heap.size w).alloc zn (.cells #[.int .i64 0,.int .i64 0,.int .i64 0,.slice none 0 0] 46)
 have hsz0:(w.alloc (.cells #[.int .i64 0,.int .i64 0,.int .i64 0,.slice none 0 0] 46)).heap.size=w.heap.size+1:=by simp
 have HT:=zh hT
 have Hp:=zh (show pS s=actOf (dZ8 32 (eA9 s)) from rfl)
 clear hT
 go_enter Tryz.func59,Tryz.ntmps59
 go_upto_region 1 with fail
 obtain⟨w0,hw0e⟩:∃ w0,w0=w.alloc (.cells #[.int .i64 0,.int .i64 0,.int .i64 0,.slice none 0 0] 46):=⟨_,rfl⟩
 rw[← hw0e] at hx0 hb0 hsz0 ⊢
 obtain⟨g2,hg2e⟩:∃ g2,g2=w.heap.size:=⟨_,rfl⟩
 have hwg:w.heap.size≤g2:=by omega
 have hgw:g2<w0.heap.size:=by omega
 rw[← hg2e] at hx0 ⊢
 have Hx0:=zh hx0
 have Hb0:=zh hb0
 clear hw0e hg2e hx0 hb0 hsz0
 go_upto_region 2 with (first
  | (go_at_call 101;(refine (trim_ok _ s hs).mono ?_);rintro e w1 ⟨rfl,hw⟩;rw[hw];clear hw)
  | (go_at_call 100;(refine (split_ok _ (HT.out.below Hb0.out) (eA9 s) hts).mono ?_);rintro e w1 ⟨rfl,rfl⟩))
 obtain⟨ws,hws⟩:∃ ws,ws=dZ8 32 (eA9 s):=⟨_,rfl⟩
 have hne:ws≠[]:=by rw[hws];exact dZ9 _ _
 have Hlen2:=zh (show ∀ x ∈ ws,x.length≤2000000 from fun x hx=>Nat.le_trans (eC0 (c:=32) (hws ▸ hx)) hts)
 have Hwn:=zh (show ws.length≤2000001 by rw[hws];have:=eC1 32 (eA9 s);omega)
 rw[← hws] at Hp ⊢
 clear hws
 have hx1:=aK w0 (ws.map fun l=>Value.string ⟨l.toArray⟩).toArray 9
 have hb1:=(Below.refl w0.heap.size w0).alloc zn (.cells (ws.map fun l=>Value.string ⟨l.toArray⟩).toArray 9)
 have hsz1:(w0.alloc (.cells (ws.map fun l=>Value.string ⟨l.toArray⟩).toArray 9)).heap.size=w0.heap.size+1:=by simp
 obtain⟨w1,hw1e⟩:∃ w1,w1=w0.alloc (.cells (ws.map fun l=>Value.string ⟨l.toArray⟩).toArray 9):=⟨_,rfl⟩
 rw[← hw1e] at hx1 hb1 hsz1 ⊢
 obtain⟨g3,hg3e⟩:∃ g3,g3=w0.heap.size:=⟨_,rfl⟩
 rw[← hg3e] at hx1 hsz1 ⊢
 have hg23:g2<g3:=by omega
 have Hx1:=zh hx1
 have Hb1:=zh (Hb0.out.trans (hb1.mono AO))
 have Hx01:=zh ((hb1.block g2 hgw).trans Hx0.out)
 have hx2:=aK w1 #[.int .i64 0,.int .i64 0,.int .i64 0,.slice none 0 0] 46
 have hb2:=(Below.refl w1.heap.size w1).alloc zn (.cells #[.int .i64 0,.int .i64 0,.int .i64 0,.slice none 0 0] 46)
 have hsz2:(w1.alloc (.cells #[.int .i64 0,.int .i64 0,.int .i64 0,.slice none 0 0] 46)).heap.size=w1.heap.size+1:=by simp
 have hz1a:w1.heap.size≤g3+1:=by omega
 have hz1b:g3+1≤w1.heap.size:=by omega
 clear hw1e hg3e hx1 hb1 hsz1
 go_upto_region 3 with fail
 obtain⟨w2,hw2e⟩:∃ w2,w2=w1.alloc (.cells #[.int .i64 0,.int .i64 0,.int .i64 0,.slice none 0 0] 46):=⟨_,rfl⟩
 rw[← hw2e] at hx2 hb2 hsz2 ⊢
 obtain⟨g4,hg4e⟩:∃ g4,g4=w1.heap.size:=⟨_,rfl⟩
 rw[← hg4e] at hx2 hsz2 ⊢
 have hg34:g3<g4:=by omega
 have hw2s:w2.heap.size=g4+1:=by omega
 have Hx2:=zh hx2
 have Hb2:=zh (Hb1.out.trans (hb2.mono (by have:=Hb1.out.size;omega)))
 have Hx02:=zh ((hb2.block g2 AO).trans Hx01.out)
 have Hx12:=zh ((hb2.block g3 AO).trans Hx1.out)
 have hwd:=(HT.out.below Hb2.out).ln.words
 have hgl:=(HT.out.below Hb2.out).ln.size
 have q0:=hwd 0 AO
 have q1:=hwd 1 AO
 have q2:=hwd 2 AO
 have q3:=hwd 3 AO
 have q4:=hwd 4 AO
 have hg4l:g4<w2.heap.size:=by omega
 clear hw2e hg4e hx2 hb2 hsz2 hwd hw2s
 obtain⟨w0',r,hwr⟩:∃ x r,ws=x :: r:=by
  cases ws with
  | nil=>exact absurd rfl hne
  | cons x r=>exact⟨x,r,rfl⟩
 go_wp2_with fail
 go_loopw [14] (fun i wr=>∃ k:Nat,k≤5∧i=.int .i64 k∧wr.heap[g4]?=some (.cells #[.int .i64 (eA7 w0' k),.int .i64 0,.int .i64 0,.slice none 0 0] 46 (0,0))∧Below g4 w2 wr) (fun i _=>5 - (intOf i).toNat)
 case atStart=>exact⟨0,AO,rfl,Hx2.out,Below.refl _ _⟩
 case round =>
  obtain⟨k,hk,rfl,hbk,hbel⟩:=hrel
  have Hbk:=zh hbk
  have hgl4:=(Array.getElem?_eq_some_iff.1 hbk).1
  have Hbel:=zh hbel
  have hx12:=(hbel.block g3 hg34).trans Hx12.out
  have hw0c:=eB9 hx12 (i:=0) (by rw[hwr];simp)
  have hw0d:ws[0]'(by rw[hwr];simp)=w0':=by simp[hwr]
  rw[hw0d] at hw0c
  have hg3l:g3<wr.heap.size:=by omega
  have hlen:0<ws.length:=by rw[hwr];simp
  obtain⟨c0,c1,c2,c3,f0,f1,f2,f3⟩:=dZ1 hbk
  have Hwr:=zh hwr
  clear hbk hx12 hw0d hwr hbel
  by_cases hlt:k<5
  ·have ix:=fun (W:World) (k:Nat) (i:Int) (v:Value) (hk:k<5) (hi:i=k) (hv:#[Value.string ⟨(wordS 0).toArray⟩,.string ⟨(wordS 1).toArray⟩,.string ⟨(wordS 2).toArray⟩,.string ⟨(wordS 3).toArray⟩,.string ⟨(wordS 4).toArray⟩][k]?=some v)=>idx_agg W _ k i v hk hi hv
   have Ix:=zh ix
   clear ix
   rcases (by omega:k=0∨k=1∨k=2∨k=3∨k=4) with e|e|e|e|e <;> subst e
   ·have i0:=fun W=>Ix.out W 0 0 _ AO rfl rfl
    go_wp2
    go_roundw
    case rel=>exact⟨1,AO,by go_num,Hbk.out,Hbel.out⟩
    case measure=>simp[intOf]
   ·by_cases hw:wordS 1=w0'
    ·have Hku:=zh (show eA7 w0' (1+1)=1 by rw[eC2,if_pos ⟨AO,hw⟩];rfl)
     have bw:(wordS 1==w0')=true:=by simpa using hw
     clear hw
     have i0:=fun W=>Ix.out W 1 1 _ AO rfl rfl
     go_wp2
     go_roundw
     case rel=>exact⟨1+1,AO,by go_num,by rw[heap_setCell_same _ _ _ _ _ _ Hbk.out,Hku.out];rfl,Hbel.out.setCell (p:=⟨g4,0,none⟩) zn _⟩
     case measure=>simp[intOf]
    ·have Hku:=zh (show eA7 w0' (1+1)=eA7 w0' 1 by rw[eC2,if_neg (fun h=>hw h.2)])
     have bw:(wordS 1==w0')=false:=by simpa using hw
     clear hw
     have i0:=fun W=>Ix.out W 1 1 _ AO rfl rfl
     go_wp2
     go_roundw
     case rel=>exact⟨1+1,AO,by go_num,by rw[Hku.out];exact Hbk.out,Hbel.out⟩
     case measure=>simp[intOf]
   ·by_cases hw:wordS 2=w0'
    ·have Hku:=zh (show eA7 w0' (2+1)=2 by rw[eC2,if_pos ⟨AO,hw⟩];rfl)
     have bw:(wordS 2==w0')=true:=by simpa using hw
     clear hw
     have i0:=fun W=>Ix.out W 2 2 _ AO rfl rfl
     go_wp2
     go_roundw
     case rel=>exact⟨2+1,AO,by go_num,by rw[heap_setCell_same _ _ _ _ _ _ Hbk.out,Hku.out];rfl,Hbel.out.setCell (p:=⟨g4,0,none⟩) zn _⟩
     case measure=>simp[intOf]
    ·have Hku:=zh (show eA7 w0' (2+1)=eA7 w0' 2 by rw[eC2,if_neg (fun h=>hw h.2)])
     have bw:(wordS 2==w0')=false:=by simpa using hw
     clear hw
     have i0:=fun W=>Ix.out W 2 2 _ AO rfl rfl
     go_wp2
     go_roundw
     case rel=>exact⟨2+1,AO,by go_num,by rw[Hku.out];exact Hbk.out,Hbel.out⟩
     case measure=>simp[intOf]
   ·by_cases hw:wordS 3=w0'
    ·have Hku:=zh (show eA7 w0' (3+1)=3 by rw[eC2,if_pos ⟨AO,hw⟩];rfl)
     have bw:(wordS 3==w0')=true:=by simpa using hw
     clear hw
     have i0:=fun W=>Ix.out W 3 3 _ AO rfl rfl
     go_wp2
     go_roundw
     case rel=>exact⟨3+1,AO,by go_num,by rw[heap_setCell_same _ _ _ _ _ _ Hbk.out,Hku.out];rfl,Hbel.out.setCell (p:=⟨g4,0,none⟩) zn _⟩
     case measure=>simp[intOf]
    ·have Hku:=zh (show eA7 w0' (3+1)=eA7 w0' 3 by rw[eC2,if_neg (fun h=>hw h.2)])
     have bw:(wordS 3==w0')=false:=by simpa using hw
     clear hw
     have i0:=fun W=>Ix.out W 3 3 _ AO rfl rfl
     go_wp2
     go_roundw
     case rel=>exact⟨3+1,AO,by go_num,by rw[Hku.out];exact Hbk.out,Hbel.out⟩
     case measure=>simp[intOf]
   ·by_cases hw:wordS 4=w0'
    ·have Hku:=zh (show eA7 w0' (4+1)=4 by rw[eC2,if_pos ⟨AO,hw⟩];rfl)
     have bw:(wordS 4==w0')=true:=by simpa using hw
     clear hw
     have i0:=fun W=>Ix.out W 4 4 _ AO rfl rfl
     go_wp2
     go_roundw
     case rel=>exact⟨4+1,AO,by go_num,by rw[heap_setCell_same _ _ _ _ _ _ Hbk.out,Hku.out];rfl,Hbel.out.setCell (p:=⟨g4,0,none⟩) zn _⟩
     case measure=>simp[intOf]
    ·have Hku:=zh (show eA7 w0' (4+1)=eA7 w0' 4 by rw[eC2,if_neg (fun h=>hw h.2)])
     have bw:(wordS 4==w0')=false:=by simpa using hw
     clear hw
     have i0:=fun W=>Ix.out W 4 4 _ AO rfl rfl
     go_wp2
     go_roundw
     case rel=>exact⟨4+1,AO,by go_num,by rw[Hku.out];exact Hbk.out,Hbel.out⟩
     case measure=>simp[intOf]
  ·obtain rfl:k=5:=by omega
   have hB24:Below g4 w2 wr:=Hbel.out
   have Hx2r:=zh ((hB24.block g2 AO).trans Hx02.out)
   have Hxwr:=zh ((hB24.block g3 hg34).trans Hx12.out)
   have Hwl:=zh (Hb2.out.trans (hB24.mono (by have:=Hb2.out.size;have:=Hb1.out.size;omega)))
   have Hbk5:=zh (show wr.heap[g4]?=some (.cells #[.int .i64 (eA8 w0'),.int .i64 0,.int .i64 0,.slice none 0 0] 46 (0,0)) from Hbk.out)
   have hwg4:w.heap.size≤g4:=by omega
   clear c0 c1 c2 c3 f0 f1 f2 f3 Hbk
   obtain⟨c0,c1,c2,c3,f0,f1,f2,f3⟩:=dZ1 Hbk5.out
   obtain⟨d0,d1,d2,d3,e0,e1,e2,e3⟩:=dZ1 Hx2r.out
   have hg2r:g2<wr.heap.size:=by omega
   have hne24:g2≠g4:=by omega
   have hne42:g4≠g2:=by omega
   cases r with
   | nil =>
    have Hr:=zh (show pS s=⟨eA8 w0',0,0,[]⟩ by rw[Hp.out,Hwr.out];rfl)
    have hl1:ws.length=1:=by rw[Hwr.out];rfl
    rw[hl1]
    generalize eA8 w0'=K at *
    clear hl1 hlen
    go_wp2
    refine bodyPost_ret (v:=.agg #[.int .i64 K,.int .i64 0,.int .i64 0,.slice none 0 0]) (by simp[results,Tryz.results59,go_sem,d0,d1,d2,d3,hg2r]) rfl ?_
    rw[Hr.out]
    exact⟨none,0,rfl,SL.nil,((((Hwl.out).setCell (p:=⟨g2,0,none⟩) hwg _).setCell (p:=⟨g2,1,none⟩) hwg _).setCell (p:=⟨g2,2,none⟩) hwg _).setCell (p:=⟨g2,3,none⟩) hwg _,Nat.zero_le _⟩
   | cons v r2 =>
    have hl2:2≤ws.length:=by rw[Hwr.out];simp
    have hv1:=eB9 Hxwr.out (i:=1) AO
    have hv2:ws[1]'(by omega)=v:=by simp[Hwr.out]
    rw[hv2] at hv1
    have Hvl:=zh (Hlen2.out v (by rw[Hwr.out];simp))
    have b2:decide ((ws.length:Int)<2)=false:=by simp;omega
    have hi1:(1:Int)<(ws.length:Int):=by omega
    have hlst:ws.getLast hne=(v :: r2).getLast ZH2:=by simp[Hwr.out]
    have Hlst:=zh hlst
    have Hr:=zh (show pS s=if eA8 w0'=3 then ⟨3,0,eA5 v,[]⟩ else if eA8 w0'=1 then ⟨1,eA5 v,0,unhexP ((v :: r2).getLast ZH2)⟩ else ⟨eA8 w0',0,0,[]⟩ by rw[Hp.out,Hwr.out];rfl)
    clear hv2 hlst
    generalize eA8 w0'=K at *
    go_upto_region 12 with (go_at_call 102;(refine (atoi_ok _ (HT.out.below Hwl.out) v Hvl.out).mono ?_);rintro e w4 ⟨err,rfl,hv4⟩;have hz4:=hv4.size;have hbx4:=(hv4.block g4 hgl4).trans Hbk5.out;have hbr4:=(hv4.block g2 hg2r).trans Hx2r.out;have hbw4:=(hv4.block g3 hg3l).trans Hxwr.out;have Hw4:=zh (Hwl.out.trans (hv4.mono (by have:=Hwl.out.size;omega)));clear c0 c1 c2 c3 f0 f1 f2 f3 d0 d1 d2 d3 e0 e1 e2 e3;obtain⟨c0,c1,c2,c3,f0,f1,f2,f3⟩:=dZ1 hbx4;obtain⟨d0,d1,d2,d3,e0,e1,e2,e3⟩:=dZ1 hbr4;have hg24:g2<w4.heap.size:=AO;have hg44:g4<w4.heap.size:=AO;have hg34':g3<w4.heap.size:=AO;have Hbx4:=zh hbx4;have Hbr4:=zh hbr4;have Hbw4:=zh hbw4;clear hbx4 hbr4 hbw4 hv4)
    generalize eA5 v=n at *
    by_cases h3:K=3
    ·have hr:=Hr.out
     rw[if_pos h3] at hr
     have Hr3:=zh hr
     subst h3
     clear hr
     go_wp2
     refine bodyPost_ret (v:=.agg #[.int .i64 3,.int .i64 0,.int .i64 n,.slice none 0 0]) (by simp[results,Tryz.results59,go_sem,d0,d1,d2,d3,hg24]) rfl ?_
     rw[Hr3.out]
     exact⟨none,0,rfl,SL.nil,((((Hw4.out.setCell (p:=⟨g4,2,none⟩) hwg4 _).setCell (p:=⟨g2,0,none⟩) hwg _).setCell (p:=⟨g2,1,none⟩) hwg _).setCell (p:=⟨g2,2,none⟩) hwg _).setCell (p:=⟨g2,3,none⟩) hwg _,Nat.zero_le _⟩
    ·by_cases h1:K=1
     ·have hr:=Hr.out
      rw[if_neg h3,if_pos h1] at hr
      have Hr1:=zh hr
      subst h1
      clear hr h3
      obtain⟨m,hm⟩:∃ m,ws.length=m+1:=⟨ws.length - 1,AO⟩
      have hlc:=eB9 Hbw4.out (i:=m) AO
      have hle:ws[m]'(by omega)=(v :: r2).getLast ZH2:=by
       rw[← Hlst.out,List.getLast_eq_getElem]
       congr 1
       omega
      rw[hle] at hlc
      have Hll:=zh (show ((v :: r2).getLast ZH2).length≤2000000 from by rw[← Hlst.out];exact Hlen2.out _ (List.getLast_mem hne))
      clear Hlst hle
      generalize (v :: r2).getLast ZH2=h0 at *
      have hmw:wrap64 (m:Int)=(m:Int):=by have:=Hwn.out;unfold wrap64;omega
      rw[hm]
      clear hm b2 hi1 hl2 hlen hv1
      have hW:(w4.setCell ⟨g4,1,none⟩ (.int .i64 n)).heap[g4]?=some (.cells #[.int .i64 1,.int .i64 n,.int .i64 0,.slice none 0 0] 46 (0,0)):=by
       rw[heap_setCell_same _ _ _ _ _ _ Hbx4.out]
       rfl
      have hW2:(w4.setCell ⟨g4,1,none⟩ (.int .i64 n)).heap[g2]?=some (.cells #[.int .i64 0,.int .i64 0,.int .i64 0,.slice none 0 0] 46 (0,0)):=(heap_setCell_other _ _ _ _ (show g2≠g4 from hne24)).trans Hbr4.out
      have hWl:(w4.setCell ⟨g4,1,none⟩ (.int .i64 n)).cell? ⟨g3,m,none⟩=some (.string ⟨h0.toArray⟩):=by
       rw[← hlc]
       exact World.cell?_of_block (w:=w4) (heap_setCell_other _ _ _ _ (show g3≠g4 by omega))
      have hWb:Below w.heap.size w (w4.setCell ⟨g4,1,none⟩ (.int .i64 n)):=Hw4.out.setCell (p:=⟨g4,1,none⟩) hwg4 _
      have hWz:(w4.setCell ⟨g4,1,none⟩ (.int .i64 n)).heap.size=w4.heap.size:=by simp[World.setCell]
      go_upto_region 17 with fail
      obtain⟨w5,hw5e⟩:∃ w5,w5=w4.setCell ⟨g4,1,none⟩ (.int .i64 n):=⟨_,rfl⟩
      rw[← hw5e] at hW hW2 hWl hWb hWz ⊢
      have hg45:g4<w5.heap.size:=by omega
      have hg35:g3<w5.heap.size:=by omega
      have hg25:g2<w5.heap.size:=by omega
      have Hbx5:=zh hW
      have Hbr5:=zh hW2
      have Hw5:=zh hWb
      clear hw5e hW hW2 hWb hWz hlc c0 c1 c2 c3 f0 f1 f2 f3 d0 d1 d2 d3 e0 e1 e2 e3
      go_wp2_with fail
      go_loopw [9] (fun hv wr=>∃ (S:ByteArray) (acc:List UInt8) (v:Value),hv=.string S∧wr.heap[g4]?=some (.cells #[.int .i64 1,.int .i64 n,.int .i64 0,v] 46 (0,0))∧OwB w5.heap.size wr v acc∧unhexP h0=acc++unhexP S.data.toList∧acc.length+S.size≤2000000∧Below g4 w5 wr) (fun hv _=>strLen hv)
      case atStart=>exact⟨⟨h0.toArray⟩,[],_,rfl,Hbx5.out,World.ownsRow_nil _ _ _ _,rfl,by have:=Hll.out;rw[eB7];simpa using this,Below.refl _ _⟩
      case round =>
       obtain⟨S,acc,v,rfl,hbx,ho,hun,hlen,hb6⟩:=hrel
       have Hbx:=zh hbx
       have Ho:=zh ho
       have Hun:=zh hun
       have Hb6:=zh hb6
       have hz6:=hb6.size
       have hg46:g4<wr.heap.size:=by omega
       have hvb:v.ownBlock≠some g4:=fun e=>by have:=(ho.lt g4 e).1;omega
       obtain⟨c0,c1,c2,c3,f0,f1,f2,f3⟩:=dZ1 hbx
       clear hbx ho hun hb6
       by_cases hl:1<S.size
       ·have b1:decide ((1:Int)<(S.size:Int))=true:=by simp;omega
        have hp0:0<S.size:=by omega
        have hl0:(0:Int)<(S.size:Int):=by omega
        have hl1:(1:Int)<(S.size:Int):=by omega
        obtain⟨a0,a1,r',hS⟩:∃ a0 a1 r',S.data.toList=a0 :: a1 :: r':=by
         have h2:1<S.data.toList.length:=by rw[← Lib.size_eq];exact hl
         match hx:S.data.toList,h2 with
         | a0 :: a1 :: r',_=>exact⟨a0,a1,r',rfl⟩
        have hS0:∀ h,(S[0]'h)=a0:=fun h=>by
         have h2:S.data.toList[0]?=some a0:=by rw[hS];rfl
         rw[Array.getElem?_toList] at h2
         obtain⟨_,e⟩:=Array.getElem?_eq_some_iff.1 h2
         exact e
        have hS1:∀ h,(S[1]'h)=a1:=fun h=>by
         have h2:S.data.toList[1]?=some a1:=by rw[hS];rfl
         rw[Array.getElem?_toList] at h2
         obtain⟨_,e⟩:=Array.getElem?_eq_some_iff.1 h2
         exact e
        have HS:=zh hS
        have hE:=hexB_val a0 a1
        clear hS
        go_wp2_with fail
        go_region_law (first
         | (go_simp;go_at_call 99;(with_reducible refine (idx_ok _ a0).mono ?_);rintro e w7 ⟨rfl,rfl⟩)
         | (go_simp;go_at_call 99;(with_reducible refine (idx_ok _ a1).mono ?_);rintro e w7 ⟨rfl,rfl⟩)
         | (refine owb_step _ rfl (.tmp 63) (.tmp 74) rfl w5.heap.size v acc ?hs ?own wr.heap.size 1 [hexB a0 a1] ?hx ?hsrc ?hl ?hb ?_;(case hsrc=>exact aK _ _ _);(case hs=>(simp[Act.eval,Act.put]));(case own=>exact dZ6 Ho.out ((Below.refl _ _).drew.alloc ZH2 _));(case hx=>(simp[Act.eval,Act.put]));(case hl=>(simp;omega));(case hb=>(simp;omega));intro v8 w8 ho8 hv8;obtain⟨A8,c8,e8,_⟩:=owb_bs ho8;rw[List.length_append,List.length_singleton] at e8;subst e8;have Ho8:=zh ho8;have hz8:=hv8.size;simp at hz8;have hg48:g4<w8.heap.size:=AO;have Hbx8:=zh ((hv8.block g4 hg45).trans ((heap_alloc_old _ _ hg46).trans Hbx.out));obtain⟨m0,m1,m2,m3,n0,n1,n2,n3⟩:=dZ1 Hbx8.out;have hw8:Below g4 w5 w8:=((Hb6.out.drew.alloc ZC8 _)).trans (hv8.mono AO);clear ho8 hv8))
        all_goals
         have hW8:=heap_setCell_same _ _ 3 _ _ (.slice A8 (acc.length+1) c8) Hbx8.out
         have ho9:OwB w5.heap.size (w8.setCell ⟨g4,3,none⟩ (.slice A8 (acc.length+1) c8)) (.slice A8 (acc.length+1) c8) (acc++[hexB a0 a1]):=owb_off Ho8.out hg45
         go_wp2
         go_roundw
         case rel=>exact⟨S.extract 2 S.size,acc++[hexB a0 a1],.slice A8 (acc.length+1) c8,by first|rfl|simp,hW8,ho9,by rw[Hun.out,HS.out,unhexP,Lib.extract_to_end,HS.out];simp,by rw[ByteArray.size_extract];simp;omega,hw8.setCell (p:=⟨g4,3,none⟩) zn _⟩
         case measure=>simp[strLen,ByteArray.size_extract];omega
       ·have b1:decide ((1:Int)<(S.size:Int))=false:=by simp;omega
        have hS:unhexP S.data.toList=[]:=by
         have h2:S.data.toList.length≤1:=by rw[← Lib.size_eq];omega
         match hx:S.data.toList,h2 with
         | [],_=>rfl
         | [a0],_=>rfl
        have hun:=Hun.out
        rw[hS,List.append_nil] at hun
        have Hacc:=zh hun
        have Hown:=zh Ho.out
        obtain⟨A8,c8,rfl,_⟩:=owb_bs Ho.out
        have Hcap8:=zh (owb_cap Ho.out)
        have Hs8:=zh (SL.bof_own Hown.out).2
        have hbr:=(Hb6.out.block g2 AO).trans Hbr5.out
        obtain⟨d0,d1,d2,d3,e0,e1,e2,e3⟩:=dZ1 hbr
        have hg26:g2<wr.heap.size:=by omega
        have hn2:¬ aB w5.heap.size g2:=fun h=>by have h':w5.heap.size≤g2:=h;omega
        have hlow:w.heap.size≤w5.heap.size:=by have:=Hw5.out.size;omega
        clear hun hS hbr hl
        go_wp2
        refine bodyPost_ret (v:=.agg #[.int .i64 1,.int .i64 n,.int .i64 0,.slice A8 acc.length c8]) (by simp[results,Tryz.results59,go_sem,d0,d1,d2,d3,hg26]) rfl ?_
        rw[Hr1.out,Hacc.out]
        exact⟨A8,c8,rfl,(Hs8.out.bsame (((((aC.refl _ _).setCell (p:=⟨g2,0,none⟩) hn2 _).setCell (p:=⟨g2,1,none⟩) hn2 _).setCell (p:=⟨g2,2,none⟩) hn2 _).setCell (p:=⟨g2,3,none⟩) hn2 _)).blo hlow,((((Hw5.out.trans (Hb6.out.mono hwg4)).setCell (p:=⟨g2,0,none⟩) hwg _).setCell (p:=⟨g2,1,none⟩) hwg _).setCell (p:=⟨g2,2,none⟩) hwg _).setCell (p:=⟨g2,3,none⟩) hwg _,Hcap8.out⟩
     ·have hr:=Hr.out
      rw[if_neg h3,if_neg h1] at hr
      have Hr0:=zh hr
      have b3:(K==3)=false:=by simpa using h3
      have b1:(K==1)=false:=by simpa using h1
      clear hr h3 h1
      go_wp2
      refine bodyPost_ret (v:=.agg #[.int .i64 K,.int .i64 0,.int .i64 0,.slice none 0 0]) (by simp[results,Tryz.results59,go_sem,d0,d1,d2,d3,hg24]) rfl ?_
      rw[Hr0.out]
      exact⟨none,0,rfl,SL.nil,((((Hw4.out).setCell (p:=⟨g2,0,none⟩) hwg _).setCell (p:=⟨g2,1,none⟩) hwg _).setCell (p:=⟨g2,2,none⟩) hwg _).setCell (p:=⟨g2,3,none⟩) hwg _,Nat.zero_le _⟩
theorem eC6 {a:Le} (h:dX5 a=0):a.data.length≤4000:=by
 rcases Nat.lt_or_ge 4000 a.data.length with h9|h9
 ·exfalso
  unfold dX5 aB1 at h
  repeat' split at h
  all_goals first|omega|(cases h;done)|(simp at h;done)
 ·exact h9
end Go.Proofs.YtablgnacmpcfeaaGreatDoor
