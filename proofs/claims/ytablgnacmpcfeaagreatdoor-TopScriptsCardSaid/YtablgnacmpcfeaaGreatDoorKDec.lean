/- Dec: A piece behind its length, at a place; what a reader takes: no program. What tape.Decode reads, in plain words: a reader of bytes; no program. Walk: the references' piece. Walks: the reader of package tape. Walk: tape.Decode. Walk: CommitOf. The law TapeDecodes: its walk. The conditions of each are in its words. -/
import Derived.Deep.OwnRows
import Derived.Laws.OwnMore
import Derived.Test.YtablgnacmpcfeaaGreatDoorKBase
import Derived.Test.YtablgnacmpcfeaaGreatDoorKCommit
import Derived.Test.YtablgnacmpcfeaaGreatDoorKEnc
import Derived.Test.YtablgnacmpcfeaaGreatDoorKForest
namespace Go.Proofs.YtablgnacmpcfeaaGreatDoor
open Go.RowKit
set_option linter.unusedVariables false
set_option linter.unusedSimpArgs false
set_option maxRecDepth 100000
set_option maxHeartbeats 8000000
abbrev Rdr:=List UInt8 × Bool
def aH1 (s:Rdr) (n:Nat):List UInt8 × Rdr:=if s.2=true∨s.1.length<n then (List.replicate n 0,(s.1,true)) else (s.1.take n,(s.1.drop n,false))
theorem bF6 (s:Rdr) (n:Nat):(aH1 s n).1.length=n:=by
 unfold aH1
 split
 ·simp
 ·simp;omega
theorem aV1 (s:Rdr) (n:Nat):(aH1 s n).2.1.length≤s.1.length:=by
 unfold aH1
 split <;> simp
theorem bD5 {s:Rdr} (h:s.2=true) (n:Nat):(aH1 s n).2.2=true:=by unfold aH1;rw[if_pos (.inl h)]
def bB (s:Rdr):Nat × Rdr:=(((aH1 s 1).1.getD 0 0).toNat,(aH1 s 1).2)
theorem aK2 (s:Rdr):(bB s).1<256:=UInt8.toNat_lt _
theorem cM4 {s:Rdr} (h:s.2=true):(bB s).2.2=true:=bD5 h 1
theorem aD8 (s:Rdr):(bB s).2.1.length≤s.1.length:=aV1 s 1
def aZ (s:Rdr):List UInt8 × Rdr:=aH1 (bB s).2 (bB s).1
theorem cG6 {s:Rdr} (h:s.2=true):(aZ s).2.2=true:=bD5 (cM4 h) _
theorem bD6 (s:Rdr):(aZ s).2.1.length≤s.1.length:=Nat.le_trans (aV1 _ _) (aD8 s)
theorem aF8 {x:UInt8} {r:List UInt8}:bB (x :: r,false)=(x.toNat,(r,false)):=by simp[bB,aH1]
theorem byte_no {s:Rdr} (h:s.1=[]∨s.2=true):bB s=(0,(s.1,true)):=by
 have:s.2=true∨s.1.length<1:=by
  rcases h with h|h
  ·exact .inr (by rw[h];decide)
  ·exact .inl h
 unfold bB aH1
 rw[if_pos this]
 rfl
theorem cR5 {b:List UInt8} {n:Nat} (h:n<b.length):bB (b.drop n,false)=((b.getD n 0).toNat,(b.drop (n+1),false)):=by
 rw[List.drop_eq_getElem_cons h,aF8]
 simp[List.getD_eq_getElem?_getD,List.getElem?_eq_getElem h]
theorem bQ4 {l:List UInt8} {n:Nat} (h:n≤l.length):aH1 (l,false) n=(l.take n,(l.drop n,false)):=by
 unfold aH1
 rw[if_neg ZC8]
theorem take_no {s:Rdr} {n:Nat} (h:s.2=true∨s.1.length<n):(aH1 s n).2.2=true:=by
 unfold aH1
 rw[if_pos h]
def aL5 (s:Rdr):(Bool × List UInt8) × Rdr:=if (bB s).1=255 then ((true,[]),(bB s).2) else ((false,(aH1 (bB s).2 (bB s).1).1),(aH1 (bB s).2 (bB s).1).2)
theorem cM5 (s:Rdr):(aL5 s).2.1.length≤s.1.length:=by
 unfold aL5
 split
 ·exact aD8 s
 ·exact Nat.le_trans (aV1 _ _) (aD8 s)
def wrS (s:Rdr):Wr × Rdr :=
 (⟨(aZ s).1,(aZ (aZ s).2).1,(aL5 (aZ (aZ s).2).2).1.1,(aL5 (aZ (aZ s).2).2).1.2⟩,(aL5 (aZ (aZ s).2).2).2)
theorem wr_rest (s:Rdr):(wrS s).2.1.length≤s.1.length:=Nat.le_trans (cM5 _) (Nat.le_trans (bD6 _) (bD6 _))
def aN4 (s:Rdr):Nat→List Wr × Rdr
 | 0=>([],s)
 | n+1=>((aN4 s n).1++[(wrS (aN4 s n).2).1],(wrS (aN4 s n).2).2)
theorem bL6 (s:Rdr):∀ n,(aN4 s n).1.length=n
 | 0=>rfl
 | n+1=>by rw[aN4,List.length_append,bL6 s n];rfl
theorem cG7 (s:Rdr):∀ n,(aN4 s n).2.1.length≤s.1.length
 | 0=>zn
 | n+1=>Nat.le_trans (wr_rest _) (cG7 s n)
def aH5 (b:List UInt8):Rdr:=(bB (bB (bB (bB (b,false)).2).2).2).2
def bC3 (b:List UInt8):Nat:=65536*(bB (b,false)).1+256*(bB (bB (b,false)).2).1+(bB (bB (bB (b,false)).2).2).1
def aL6 (b:List UInt8):Nat:=(bB (bB (bB (bB (b,false)).2).2).2).1
def cmS (b:List UInt8):Cm:=(bC3 b,(aN4 (aH5 b) (aL6 b)).1)
def aT7 (b:List UInt8):Cm × Int :=
 if 4000<b.length then ((0,[]),1) else if (aN4 (aH5 b) (aL6 b)).2.2=true then ((0,[]),14) else
 if 0<(aN4 (aH5 b) (aL6 b)).2.1.length then ((0,[]),4) else if aA2 (cmS b)≠0 then ((0,[]),aA2 (cmS b)) else (cmS b,0)
theorem cU6 {x y z t:UInt8} {r:List UInt8}:aH5 (x :: y :: z :: t :: r)=(r,false)∧bC3 (x :: y :: z :: t :: r)=65536*x.toNat+256*y.toNat+z.toNat∧aL6 (x :: y :: z :: t :: r)=t.toNat:=by
 refine⟨?_,?_,?_⟩
 ·unfold aH5;rw[aF8,aF8,aF8,aF8]
 ·unfold bC3;rw[aF8,aF8,aF8]
 ·unfold aL6;rw[aF8,aF8,aF8,aF8]
theorem aN5 {S:Nat→Prop} {w:World} {A:Option Addr} {l:List UInt8} (h:Bs S w A l) (i n:Nat):Bs S w (Option.map (fun x=>x.add i) A) ((l.drop i).take n):=by
 intro hl
 have hln:i<l.length:=by rw[List.length_take,List.length_drop] at hl;omega
 obtain⟨b,off,e,h0,hlt,hi⟩:=h AO
 subst e
 refine⟨b,off+i,by rw[Option.map_some,bC],h0,hlt,fun j hj=>?_⟩
 have hj':i+j<l.length:=by rw[List.length_take,List.length_drop] at hj;omega
 obtain⟨cs,h1,h2,h3⟩:=hi (i+j) hj'
 refine⟨cs,h1,fun n hn=>?_,?_⟩
 ·rw[← h2 n hn]
  congr 2
  omega
 ·rw[List.getElem_take,List.getElem_drop]
  exact h3
structure aR8 (w:World) (R:Nat) (s:Rdr):Prop where
 box:∃ A c,w.heap[R]?=some (.cells #[.slice A s.1.length c,.bool s.2] 286 (0,0))∧s.1.length≤c∧Bs (fun b=>b<R) w A s.1
theorem aC.weak {S S':Nat→Prop} {w w':World} (h:aC S w w') (hs:∀ k,S' k→S k):aC S' w w':=⟨h.size,fun k hk hk2=>h.block k (hs k hk) hk2⟩
theorem aR8.same {w w':World} {R:Nat} {s:Rdr} (h:aR8 w R s) (hs:aC (fun b=>b≤R) w w'):aR8 w' R s:=by
 obtain⟨A,c,hx,hc,ha⟩:=h.box
 exact⟨A,c,(hs.block R (Nat.le_refl R) (Array.getElem?_eq_some_iff.1 hx).1).trans hx,hc,ha.bsame (hs.weak fun k hk=>Nat.le_of_lt hk)⟩
def RetTake (w:World) (R:Nat) (r:List UInt8 × Rdr) (e:Ending) (w':World):Prop :=
 ∃ B d,e=.returned (.slice B r.1.length d)∧Bs (aB w.heap.size) w' B r.1∧aR8 w' R r.2∧aC (fun b=>b≠R) w w'∧Below R w w'
theorem bQ5 (n:Nat):madeCells #[Value.int .u8 0] n=((List.replicate n (0:UInt8)).map bv).toArray:=by
 apply Array.ext'
 rw[toList_madeCells_one]
 simp[bv]
theorem clone_at (w:World) (A:Option Addr) (n:Nat) (a:List UInt8) (hl:n=a.length) (c:Nat) (ha:Bs All w A a) (hn:a.length≤big) :
  Calls Tryz.prog 49 #[.slice A n c] w (aT3 1 bI0 w a):=by
 subst hl
 exact bA2 w A a c ha hn
theorem bs_drop {S:Nat→Prop} {w:World} {A:Option Addr} {l:List UInt8} (h:Bs S w A l) (i:Nat):Bs S w (Option.map (fun x=>x.add i) A) (l.drop i):=by
 have:=aN5 h i (l.length - i)
 rwa [List.take_of_length_le ZF5] at this
theorem bs_take {S:Nat→Prop} {w:World} {A:Option Addr} {l:List UInt8} (h:Bs S w A l) (n:Nat):Bs S w A (l.take n):=by
 have:=aN5 h 0 n
 rw[List.drop_zero] at this
 cases A with
 | none=>exact this
 | some a=>obtain⟨b,off,sp⟩:=a;exact this
theorem cR6 (w:World) (R:Nat) (s:Rdr) (n:Nat) (h:aR8 w R s) (hn:n≤255) (hb:s.1.length≤4000) :
  Calls Tryz.prog 235 #[.pointer (some ⟨R,0,none⟩),.int .i64 n] w (RetTake w R (aH1 s n)):=by
 obtain⟨A,c,hx,hc,ha⟩:=h.box
 have hR:R<w.heap.size:=(Array.getElem?_eq_some_iff.1 hx).1
 obtain⟨g0,g1,f0,f1⟩:=bF hx
 have Ha:=zh ha
 have Hx:=zh hx
 have hmk:=run_make_row' (P:=Tryz.prog) 44 5 (.int .u8 0) 1 Tryz.underlying44 info_u8 rfl .i64 .i64 n AO AO
 clear ha h hx
 obtain⟨l,f⟩:=s
 dsimp only at *
 by_cases hs:f=true∨l.length<n
 ·have Hv:=zh (show aH1 (l,f) n=(List.replicate n 0,(l,true)) by unfold aH1;rw[if_pos hs])
  cases f
  ·have h1:l.length<n:=by rcases hs with h|h;cases h;exact h
   clear hs
   go_enter Tryz.func235,Tryz.ntmps235
   go_wp2
   go_ret
   rw[Hv.out]
   refine⟨some ⟨w.heap.size,0,none⟩,n,by rw[List.length_replicate];rfl,cC7 (t:=5) ?_ zn,⟨A,c,?_,hc,?_⟩,?_,?_⟩
   ·rw[← bQ5]
    have:=heap_alloc_new (w.setCell ⟨R,1,none⟩ (.bool true)) (.cells (madeCells #[Value.int .u8 0] n) 5)
    simpa using this
   ·rw[heap_alloc_old _ _ (by simpa using hR),heap_setCell_same _ _ _ _ _ _ Hx.out]
    rfl
   ·exact Ha.out.bsame (((aC.refl _ _).setCell ZH2 _).alloc _)
   ·exact ((aC.refl _ _).setCell ZH2 _).alloc _
   ·exact ((Below.refl R w).setCell (p:=⟨R,1,none⟩) zn (.bool true)).alloc ZC8 _
  ·clear hs
   go_enter Tryz.func235,Tryz.ntmps235
   go_wp2
   go_ret
   rw[Hv.out]
   refine⟨some ⟨w.heap.size,0,none⟩,n,by rw[List.length_replicate];rfl,cC7 (t:=5) ?_ zn,⟨A,c,?_,hc,?_⟩,?_,?_⟩
   ·rw[← bQ5]
    have:=heap_alloc_new (w.setCell ⟨R,1,none⟩ (.bool true)) (.cells (madeCells #[Value.int .u8 0] n) 5)
    simpa using this
   ·rw[heap_alloc_old _ _ (by simpa using hR),heap_setCell_same _ _ _ _ _ _ Hx.out]
    rfl
   ·exact Ha.out.bsame (((aC.refl _ _).setCell ZH2 _).alloc _)
   ·exact ((aC.refl _ _).setCell ZH2 _).alloc _
   ·exact ((Below.refl R w).setCell (p:=⟨R,1,none⟩) zn (.bool true)).alloc ZC8 _
 ·have hf:f=false:=by cases f;rfl;exact absurd (.inl rfl) hs
  subst hf
  have hnl:n≤l.length:=by omega
  have Hv:=zh (show aH1 (l,false) n=(l.take n,(l.drop n,false)) by unfold aH1;rw[if_neg hs])
  have h1:¬ l.length<n:=by omega
  have s0:(0:Int)≤(n:Int):=by omega
  have s1:(n:Int)≤(c:Int):=by omega
  have s2:(n:Int)≤(l.length:Int):=by omega
  have s3:(l.length:Int)≤(c:Int):=by omega
  clear hs
  go_enter Tryz.func235,Tryz.ntmps235
  go_wp2_with (go_at_call 49;(with_reducible refine (clone_at _ A n (l.take n) ?hn n ?ha ?hb).mono ?_);(case hn=>(rw[List.length_take];omega));(case hb=>(rw[List.length_take];unfold big;omega));(case ha=>exact ((bs_take Ha.out n).bsame ((aC.refl _ _).setCell ZH2 _)).bz);rintro e w5 ⟨A5,c5,rfl,_,hs5,hb5⟩)
  all_goals
   have hln:(l.take n).length=n:=by rw[List.length_take];omega
   have Hbs:=zh (show Bs (fun b=>b<R) w (if c=n then A else Option.map (fun x=>x.add n) A) (l.drop n) by
    by_cases hcn:c=n
    ·rw[if_pos hcn,List.drop_eq_nil_of_le AO]
     exact SL.nil
    ·rw[if_neg hcn]
     exact bs_drop Ha.out n)
   go_ret
   rw[Hv.out]
   refine⟨A5,c5,?_,hs5.blo ZH2,⟨(if c=n then A else Option.map (fun x=>x.add n) A),c - n,(hb5.block R (by simpa using hR)).trans ((heap_setCell_same _ _ _ _ _ _ Hx.out).trans ?_),?_,?_⟩,((aC.refl _ _).setCell ZH2 _).trans (aC.of_below hb5),Below.next ((Below.refl R w).setCell (p:=⟨R,0,none⟩) zn _) hb5 ZC8⟩
   ·show _=Ending.returned (.slice A5 (l.take n).length c5)
    rw[hln]
    rfl
   ·show _=some (Obj.cells #[.slice (if c=n then A else Option.map (fun x=>x.add n) A) (l.drop n).length (c - n),.bool false] 286 (0,0))
    rw[List.length_drop]
    rfl
   ·show (l.drop n).length≤c - n
    rw[List.length_drop]
    omega
   ·exact Hbs.out.bsame (((aC.refl _ _).setCell ZH2 _).trans (aC.of_below hb5))
def RetByte (w:World) (R:Nat) (r:Nat × Rdr) (e:Ending) (w':World):Prop :=
 e=.returned (.int .i64 (r.1:Int))∧aR8 w' R r.2∧aC (fun b=>b≠R) w w'∧Below R w w'
theorem bF7 (w:World) (R:Nat) (s:Rdr) (h:aR8 w R s) (hb:s.1.length≤4000) :
  Calls Tryz.prog 234 #[.pointer (some ⟨R,0,none⟩)] w (RetByte w R (bB s)):=by
 have H:=zh h
 have hl1:=bF6 s 1
 obtain⟨x,hx⟩:∃ x,(aH1 s 1).1=[x]:=List.length_eq_one_iff.1 hl1
 have Hv:=zh (show (bB s).1=x.toNat by unfold bB;rw[hx];rfl)
 have hxl:=x.toNat_lt
 clear hl1 h
 go_enter Tryz.func234,Tryz.ntmps234
 go_wp2_with (go_at_call 235;refine (cR6 _ R s 1 H.out AO hb).mono ?_;rintro e w1 ⟨B,d,rfl,hs,hr,hsm,hbl⟩;rw[hx] at hs ⊢;obtain⟨g,off,rfl,hS,hlt,hcell⟩:=hs.bat (k:=0) ZH2;simp only[List.getElem_cons_zero,Nat.add_zero] at hcell)
 go_ret
 exact⟨by rw[Hv.out];rfl,hr,hsm,hbl⟩
def RetCmE (w:World) (r:Cm × Int) (e:Ending) (w':World):Prop :=
 ∃ A n,e=.returned (.tuple #[.agg #[.int .i64 r.1.1,.slice A r.1.2.length n],.int .i64 r.2])∧Ws (aB w.heap.size) w' A r.1.2∧Below w.heap.size w w'
theorem bB2 {w:World} {R:Nat} {s s':Rdr} {n:Nat} (e:bB s=(n,s')) (h:aR8 w R s) (hb:s.1.length≤4000) :
  Calls Tryz.prog 234 #[.pointer (some ⟨R,0,none⟩)] w (fun e w'=>e=.returned (.int .i64 (n:Int))∧aR8 w' R s'∧aC (fun b=>b≠R) w w'∧Below R w w'):=by
 have h:=bF7 w R s h hb
 rw[e] at h
 exact h
theorem bF8 {w:World} {R:Nat} {s s':Rdr} {n:Nat} {x:List UInt8} (e:aH1 s n=(x,s')) (h:aR8 w R s) (hn:n≤255) (hb:s.1.length≤4000) :
  Calls Tryz.prog 235 #[.pointer (some ⟨R,0,none⟩),.int .i64 n] w (fun e w'=>∃ B d,e=.returned (.slice B x.length d)∧Bs (aB w.heap.size) w' B x∧aR8 w' R s'∧aC (fun b=>b≠R) w w'∧Below R w w'):=by
 have h:=cR6 w R s n h hn hb
 rw[e] at h
 exact h
theorem or_turn (x y z:Nat) (hx:x<256) (hy:y<256) (hz:z<256) :
  Go.bits .or .i64 (Go.bits .or .i64 (IntKind.i64.wrap ((x:Int)*65536)) (IntKind.i64.wrap ((y:Int)*256))) (z:Int)=((65536*x+256*y+z:Nat):Int):=by
 have wr:∀ n:Int,0≤n→n<2 ^ 62→IntKind.i64.wrap n=n:=fun n h0 h1=>IntWalk.i64_in _ AO
 rw[wr _ AO AO,wr _ AO AO]
 rw[bits_join .i64 62 ZD9 wr 16 ((x:Int)*65536) ((y:Int)*256) AO AO AO AO AO AO]
 rw[bits_join .i64 62 ZD9 wr 8 ((x:Int)*65536+(y:Int)*256) (z:Int) AO AO AO AO AO AO]
 omega
structure DecAt (w:World) (R C base:Nat) (b:List UInt8) (k:Nat) (v:Value) (wr:World):Prop where
 rdr:aR8 wr R (aN4 (aH5 b) k).2
 com:wr.heap[C]?=some (.cells #[.int .i64 (bC3 b:Nat),v] 177 (0,0))
 own:Own 4 WrR (aB base) wr base 102 v (aN4 (aH5 b) k).1
 res:wr.heap[w.heap.size]?=some (.cells #[.int .i64 0,.slice none 0 0] 177 (0,0))
 bel:Below w.heap.size w wr
 siz:base≤wr.heap.size
theorem cU7 (b:List UInt8):(aH5 b).1.length≤b.length:=Nat.le_trans (aD8 _) (Nat.le_trans (aD8 _) (Nat.le_trans (aD8 _) (aD8 _)))
theorem cU8 (w:World) (A:Option Addr) (b:List UInt8) (c:Nat) (ha:Bs All w A b) (hc:b.length≤c) :
  Calls Tryz.prog 182 #[.slice A b.length c] w (RetCmE w (aT7 b)):=by
 obtain⟨i0,hi0,hz0,hz1,hz2⟩:=info_parts info_wr
 by_cases hb:4000<b.length
 ·have Hv:=zh (show aT7 b=((0,[]),1) by unfold aT7;rw[if_pos hb])
  clear ha hc
  go_enter Tryz.func182,Tryz.ntmps182
  go_wp2
  refine bodyPost_ret (v:=.tuple #[.agg #[.int .i64 0,.slice none 0 0],.int .i64 1]) (by simp[results,Tryz.results182,go_sem]) rfl ?_
  rw[Hv.out]
  exact⟨none,0,rfl,SL.nil,BX⟩
 ·have hb':b.length≤4000:=by omega
  have Hr0:=zh (show aR8 ((w.alloc (.cells #[.int .i64 0,.slice none 0 0] 177)).alloc (.cells #[.slice A b.length c,.bool false] 286)) (w.heap.size+1) (b,false) from
   ⟨A,c,by have:=heap_alloc_new (w.alloc (.cells #[.int .i64 0,.slice none 0 0] 177)) (.cells #[.slice A b.length c,.bool false] 286);simpa using this,hc,((ha.low byteR_stays (n:=w.heap.size+1) AO).bsame (((aC.refl _ _).alloc _).alloc _)).bless fun b _ h=>h⟩)
  clear ha
  go_enter Tryz.func182,Tryz.ntmps182
  go_wp2_with (first
   | (go_at_call 234;(with_reducible refine (bF7 _ (w.heap.size+1) (b,false) ?h hb').mono ?_);(case h=>exact Hr0.out);rintro e w1 ⟨rfl,hr1,hsm1,hbl1⟩)
   | (go_at_call 234;(with_reducible refine (bF7 _ (w.heap.size+1) (bB (b,false)).2 ?h ?hb).mono ?_);(case h=>exact hr1);(case hb=>exact Nat.le_trans (aD8 _) hb');rintro e w2 ⟨rfl,hr2,hsm2,hbl2⟩)
   | (go_at_call 234;(with_reducible refine (bF7 _ (w.heap.size+1) (bB (bB (b,false)).2).2 ?h ?hb).mono ?_);(case h=>exact hr2);(case hb=>exact Nat.le_trans (aD8 _) (Nat.le_trans (aD8 _) hb'));rintro e w3 ⟨rfl,hr3,hsm3,hbl3⟩)
   | (go_at_call 234;(with_reducible refine (bF7 _ (w.heap.size+1) (bB (bB (bB (b,false)).2).2).2 ?h ?hb).mono ?_);(case h=>exact hr3.same ((aC.refl _ _).alloc _));(case hb=>exact Nat.le_trans (aD8 _) (Nat.le_trans (aD8 _) (Nat.le_trans (aD8 _) hb')));rintro e w4 ⟨rfl,hr4,hsm4,hbl4⟩))
  have z1:=hsm1.size
  have z2:=hsm2.size
  have z3:=hsm3.size
  have z4:=hsm4.size
  simp at z1 z4
  have hD:DecAt w (w.heap.size+1) w3.heap.size w4.heap.size b 0 (.slice none 0 0) w4:=by
   have hs14:aC (fun b=>b≠w.heap.size+1) ((w.alloc (.cells #[.int .i64 0,.slice none 0 0] 177)).alloc (.cells #[.slice A b.length c,.bool false] 286)) w4:=((hsm1.trans hsm2).trans hsm3).trans ((aC.refl _ _).alloc _ |>.trans hsm4)
   refine⟨hr4,?_,Own.nil _ _ _,?_,?_,zn⟩
   ·refine (hsm4.block w3.heap.size AO ZH2).trans ((aK w3 _ _).trans ?_)
    rw[← IntWalk.i64_left,← IntWalk.i64_left]
    have e:=or_turn (bB (b,false)).1 (bB (bB (b,false)).2).1 (bB (bB (bB (b,false)).2).2).1 (aK2 _) (aK2 _) (aK2 _)
    exact congrArg (fun z=>some (Obj.cells #[.int .i64 z,.slice none 0 0] 177 (0,0))) (e.trans (by rfl))
   ·refine (hs14.block w.heap.size AO ZC8).trans ?_
    rw[heap_alloc_old _ _ ZH2]
    exact aK w _ _
   ·exact ((((((Below.refl w.heap.size w).alloc zn _).alloc ZH2 _).trans (hbl1.mono AO)).trans (hbl2.mono AO)).trans (hbl3.mono AO)).trans ((((Below.refl _ _).alloc zn _).mono AO).trans (hbl4.mono AO))
  have HD:=zh hD
  have hCR:w.heap.size+1<w3.heap.size:=by omega
  have hC4:w3.heap.size<w4.heap.size:=by omega
  clear hD hr1 hr2 hr3 hr4 hsm1 hsm2 hsm3 hsm4 hbl1 hbl2 hbl3 hbl4 Hr0 z1 z2 z3 z4
  have hcnt:(bB (bB (bB (bB (b,false)).2).2).2).1=aL6 b:=rfl
  rw[hcnt]
  generalize w3.heap.size=C at *
  generalize w4.heap.size=base at *
  generalize hRR:w.heap.size+1=R at *
  go_loopw [29] (fun i wr=>∃ (k:Nat) (v:Value),k≤aL6 b∧i=.int .i64 k∧DecAt w R C base b k v wr) (fun i _=>aL6 b - (intOf i).toNat)
  case atStart=>exact⟨0,_,AO,rfl,HD.out⟩
  case round =>
   obtain⟨k,v,hk,rfl,hd⟩:=hrel
   have Hd:=zh hd
   have hsz:=hd.siz
   clear hd HD
   by_cases hlt:k<aL6 b
   ·obtain⟨s0,es0⟩:∃ s,s=(aN4 (aH5 b) k).2:=⟨_,rfl⟩
    have hr0:aR8 wr R s0:=by rw[es0];exact Hd.out.rdr
    have hl0:s0.1.length≤4000:=by rw[es0];exact Nat.le_trans (cG7 _ _) (Nat.le_trans (cU7 b) hb')
    obtain⟨n1,s1,e1⟩:∃ n s,bB s0=(n,s):=⟨_,_,rfl⟩
    have hl1:s1.1.length≤4000:=by have:=aD8 s0;rw[e1] at this;exact Nat.le_trans this hl0
    have hn1:n1<256:=by have:=aK2 s0;rw[e1] at this;exact this
    obtain⟨x1,s2,e2⟩:∃ n s,aH1 s1 n1=(n,s):=⟨_,_,rfl⟩
    have hl2:s2.1.length≤4000:=by have:=aV1 s1 n1;rw[e2] at this;exact Nat.le_trans this hl1
    have hx1:x1.length≤255:=by have:=bF6 s1 n1;rw[e2] at this;dsimp only at this;omega
    obtain⟨n2,s3,e3⟩:∃ n s,bB s2=(n,s):=⟨_,_,rfl⟩
    have hl3:s3.1.length≤4000:=by have:=aD8 s2;rw[e3] at this;exact Nat.le_trans this hl2
    have hn2:n2<256:=by have:=aK2 s2;rw[e3] at this;exact this
    obtain⟨x2,s4,e4⟩:∃ n s,aH1 s3 n2=(n,s):=⟨_,_,rfl⟩
    have hl4:s4.1.length≤4000:=by have:=aV1 s3 n2;rw[e4] at this;exact Nat.le_trans this hl3
    have hx2:x2.length≤255:=by have:=bF6 s3 n2;rw[e4] at this;dsimp only at this;omega
    obtain⟨n3,s5,e5⟩:∃ n s,bB s4=(n,s):=⟨_,_,rfl⟩
    have hl5:s5.1.length≤4000:=by have:=aD8 s4;rw[e5] at this;exact Nat.le_trans this hl4
    have hn3:n3<256:=by have:=aK2 s4;rw[e5] at this;exact this
    have p1:aZ s0=(x1,s2):=by unfold aZ;rw[e1];exact e2
    have p2:aZ s2=(x2,s4):=by unfold aZ;rw[e3];exact e4
    have Hwr:=zh (show wrS s0=(⟨x1,x2,(aL5 s4).1.1,(aL5 s4).1.2⟩,(aL5 s4).2) by unfold wrS;rw[p1];dsimp only;rw[p2])
    clear p1 p2
    have hl8:(aN4 (aH5 b) k).1.length=k:=bL6 _ _
    have hk255:k<255:=by have:=aK2 ((bB (bB (bB (b,false)).2).2).2);have h2:(bB (bB (bB (bB (b,false)).2).2).2).1=aL6 b:=rfl;omega
    by_cases hg:n3=255
    ·
     have hg':((n3:Int)==255)=true:=by simp;omega
     have Hv:=zh (show aL5 s4=((true,[]),s5) by unfold aL5;rw[e5];exact if_pos hg)
     have Hnext:=zh (show aN4 (aH5 b) (k+1)=((aN4 (aH5 b) k).1++[⟨x1,x2,true,[]⟩],s5) by rw[aN4,← es0,Hwr.out,Hv.out])
     clear hg Hv Hwr
     go_wp2_with (first
      | (go_at_call 234;(with_reducible refine (bB2 (s:=s0) e1 ?h ?hb).mono ?_);(case h=>exact hr0);(case hb=>exact hl0);rintro e w1 ⟨rfl,hr1,hsm1,hbl1⟩;have z1:=hsm1.size)
      | (go_at_call 235;(with_reducible refine (bF8 (s:=s1) e2 ?h ?hn ?hb).mono ?_);(case h=>exact hr1);(case hn=>omega);(case hb=>exact hl1);rintro e w2 ⟨B1,d1,rfl,hs1,hr2,hsm2,hbl2⟩;have z2:=hsm2.size)
      | (go_at_call 234;(with_reducible refine (bB2 (s:=s2) e3 ?h ?hb).mono ?_);(case h=>exact hr2.same ((aC.refl _ _).alloc _));(case hb=>exact hl2);rintro e w3 ⟨rfl,hr3,hsm3,hbl3⟩;have z3:=hsm3.size;simp at z3)
      | (go_at_call 235;(with_reducible refine (bF8 (s:=s3) e4 ?h ?hn ?hb).mono ?_);(case h=>exact hr3);(case hn=>omega);(case hb=>exact hl3);rintro e w4 ⟨B2,d2,rfl,hs2,hr4,hsm4,hbl4⟩;have z4:=hsm4.size;have hW4:w4.heap[w2.heap.size]?=some (.cells #[.slice B1 x1.length d1,.slice none 0 0,.bool false,.slice none 0 0] 102 (0,0)):=(hsm4.block w2.heap.size AO AO).trans ((hsm3.block w2.heap.size AO ZH2).trans (aK w2 _ _));obtain⟨qa0,qa1,qa2,qa3,qa4,qa5,qa6,qa7⟩:=bG hW4)
      | (go_at_call 234;(with_reducible refine (bB2 (s:=s4) e5 ?h ?hb).mono ?_);(case h=>exact hr4.same ((aC.refl _ _).setCell (fun hq=>by have hq2:w2.heap.size≤R:=hq;omega) _));(case hb=>exact hl4);rintro e w5 ⟨rfl,hr5,hsm5,hbl5⟩;have z5:=hsm5.size;simp at z5;have hW5:w5.heap[w2.heap.size]?=some (.cells #[.slice B1 x1.length d1,.slice B2 x2.length d2,.bool false,.slice none 0 0] 102 (0,0)):=(hsm5.block w2.heap.size AO ZC8).trans ((heap_setCell_same _ _ _ _ _ _ hW4).trans rfl);obtain⟨ra0,ra1,ra2,ra3,ra4,ra5,ra6,ra7⟩:=bG hW5;have F1:aC (fun b=>b≠R∧b<wr.heap.size) wr w5:=((((((hsm1.trans hsm2).weak (fun k h=>h.1)).alloc _).trans (hsm3.weak (fun k h=>h.1))).trans (hsm4.weak (fun k h=>h.1))).setCell (fun hq=>by have hq2:w2.heap.size<wr.heap.size:=hq.2;omega) _).trans (hsm5.weak (fun k h=>h.1));have F3:Below w.heap.size wr w5:=((((((hbl1.mono AO).trans (hbl2.mono AO)).alloc AO _).trans (hbl3.mono AO)).trans (hbl4.mono AO)).setCell ZC5 _).trans (hbl5.mono AO);have hB1:Bs (fun b=>wr.heap.size≤b∧b≠w2.heap.size) w5 B1 x1:=(hs1.bless (S':=fun b=>wr.heap.size≤b∧b≠w2.heap.size) fun b hb h=>⟨by simp only[aB] at h;omega,AO⟩).bsame ((((((aC.refl _ _).alloc _).trans (hsm3.weak fun k h=>by have:=h.1;omega)).trans (hsm4.weak fun k h=>by have:=h.1;omega)).setCell (fun hq=>hq.2 rfl) _).trans (hsm5.weak fun k h=>by have:=h.1;omega));have hB2:Bs (fun b=>wr.heap.size≤b∧b≠w2.heap.size) w5 B2 x2:=(hs2.bless (S':=fun b=>wr.heap.size≤b∧b≠w2.heap.size) fun b hb h=>⟨by simp only[aB] at h;omega,by simp only[aB] at h;omega⟩).bsame (((aC.refl _ _).setCell (fun hq=>hq.2 rfl) _).trans (hsm5.weak fun k h=>by have:=h.1;omega));have hCw5:w5.heap[C]?=some (.cells #[.int .i64 (bC3 b:Nat),v] 177 (0,0)):=(F1.block C ⟨AO,AO⟩ AO).trans Hd.out.com;obtain⟨ca0,ca1,ca2,ca3⟩:=bF hCw5)
      | (at_builtin;refine aM3 wrR_stays (S:=aB base) _ rfl _ _ _ rfl base 102 i0 _ 4 80 Tryz.underlying37 hi0 hz0 hz1 hz2 rfl ZD9 v (aN4 (aH5 b) k).1 rfl ?hown _ _ [.slice B1 x1.length d1,.slice B2 x2.length d2,.bool true,.slice none 0 0] rfl rfl (aE6 _ _ [.slice B1 x1.length d1,.slice B2 x2.length d2,.bool true,.slice none 0 0] _ ZH2) ZE8 ?hm ?hby ?hba ⟨x1,x2,true,[]⟩ ?hd ?_;(case hown=>(have h0:aC (fun b=>b≠R∧b<wr.heap.size) wr ((w5.setCell ⟨w2.heap.size,2,none⟩ (.bool true)).alloc (.cells ([.slice B1 x1.length d1,.slice B2 x2.length d2,.bool true,.slice none 0 0]:List Value).toArray 102)):=(F1.setCell (fun hq=>by have hq2:w2.heap.size<wr.heap.size:=hq.2;omega) _).alloc _;exact Own.same_from wrR_stays Hd.out.own ⟨h0.size,fun k hk hk2=>h0.block k ⟨by simp only[aB] at hk;omega,hk2⟩ hk2⟩));(case hm=>(rw[hl8];simp only[maxLen];omega));(case hby=>(rw[hl8];omega));(case hba=>(simp;omega));(case hd=>exact⟨B1,d1,B2,d2,none,0,rfl,(hB1.bsame (((aC.refl _ _).setCell (p:=⟨w2.heap.size,2,none⟩) (S:=fun b=>wr.heap.size≤b∧b≠w2.heap.size) (fun hq=>hq.2 rfl) (.bool true)).alloc _)).bless (fun b _ h=>⟨by have:=h.1;simp only[aB];omega,Hd.out.own.apart wr.heap.size zn b h.1⟩),(hB2.bsame (((aC.refl _ _).setCell (p:=⟨w2.heap.size,2,none⟩) (S:=fun b=>wr.heap.size≤b∧b≠w2.heap.size) (fun hq=>hq.2 rfl) (.bool true)).alloc _)).bless (fun b _ h=>⟨by have:=h.1;simp only[aB];omega,Hd.out.own.apart wr.heap.size zn b h.1⟩),SL.nil,by show x1.length≤140737488355328;omega,by show x2.length≤140737488355328;omega,by exact Nat.zero_le _⟩);intro v8 w8 hown8 hbw8;obtain⟨A8,c8,rfl,_,_⟩:=hown8.readc wrR_stays;have Hown8:=zh hown8;clear hown8;have hC8:w8.heap[C]?=some (.cells #[.int .i64 (bC3 b:Nat),v] 177 (0,0)):=(hbw8.block C AO).trans ((heap_alloc_old _ _ ZC8).trans ((heap_setCell_other _ _ _ _ (by show C≠w2.heap.size;omega)).trans hCw5));obtain⟨da0,da1,da2,da3⟩:=bF hC8;have z8:=hbw8.size;simp at z8))
     go_roundw
     case rel =>
      refine⟨k+1,.slice A8 (k+1) c8,AO,by go_num,⟨?_,?_,?_,?_,?_,?_⟩⟩
      ·rw[Hnext.out]
       exact hr5.same (((((aC.refl (fun b=>b≤R) w5).setCell (fun hq=>by have hq2:w2.heap.size≤R:=hq;omega) _).alloc _).trans ⟨hbw8.size,fun k hk _=>hbw8.block k AO⟩).setCell (fun hq=>by have hq2:C≤R:=hq;omega) _)
      ·rw[heap_setCell_same _ _ _ _ _ _ hC8]
       rfl
      ·rw[Hnext.out]
       have h:=Own.same_from wrR_stays Hown8.out ((aC.refl _ _).setCell (p:=⟨C,1,none⟩) ZC4 (.slice A8 (k+1) c8))
       rw[List.length_append,hl8] at h
       exact h
      ·rw[heap_setCell_other _ _ _ _ (by show w.heap.size≠C;omega),hbw8.block _ AO,heap_alloc_old _ _ ZC8,heap_setCell_other _ _ _ _ (by show w.heap.size≠w2.heap.size;omega)]
       exact (F1.block w.heap.size ⟨AO,AO⟩ AO).trans Hd.out.res
      ·exact (((Hd.out.bel.trans F3).setCell (by show w.heap.size≤w2.heap.size;omega) _).alloc ZC8 _).trans (hbw8.mono AO) |>.setCell (by show w.heap.size≤C;omega) _
      ·simp;omega
     case measure=>simp[intOf];omega
    ·
     have hg':((n3:Int)==255)=false:=by simp;omega
     obtain⟨x3,s6,e6⟩:∃ n s,aH1 s5 n3=(n,s):=⟨_,_,rfl⟩
     have hx3:x3.length≤255:=by have:=bF6 s5 n3;rw[e6] at this;dsimp only at this;omega
     have Hv:=zh (show aL5 s4=((false,x3),s6) by unfold aL5;rw[e5];dsimp only;rw[if_neg hg,e6])
     have Hnext:=zh (show aN4 (aH5 b) (k+1)=((aN4 (aH5 b) k).1++[⟨x1,x2,false,x3⟩],s6) by rw[aN4,← es0,Hwr.out,Hv.out])
     clear hg Hv Hwr
     go_wp2_with (first
      | (go_at_call 234;(with_reducible refine (bB2 (s:=s0) e1 ?h ?hb).mono ?_);(case h=>exact hr0);(case hb=>exact hl0);rintro e w1 ⟨rfl,hr1,hsm1,hbl1⟩;have z1:=hsm1.size)
      | (go_at_call 235;(with_reducible refine (bF8 (s:=s1) e2 ?h ?hn ?hb).mono ?_);(case h=>exact hr1);(case hn=>omega);(case hb=>exact hl1);rintro e w2 ⟨B1,d1,rfl,hs1,hr2,hsm2,hbl2⟩;have z2:=hsm2.size)
      | (go_at_call 234;(with_reducible refine (bB2 (s:=s2) e3 ?h ?hb).mono ?_);(case h=>exact hr2.same ((aC.refl _ _).alloc _));(case hb=>exact hl2);rintro e w3 ⟨rfl,hr3,hsm3,hbl3⟩;have z3:=hsm3.size;simp at z3)
      | (go_at_call 235;(with_reducible refine (bF8 (s:=s3) e4 ?h ?hn ?hb).mono ?_);(case h=>exact hr3);(case hn=>omega);(case hb=>exact hl3);rintro e w4 ⟨B2,d2,rfl,hs2,hr4,hsm4,hbl4⟩;have z4:=hsm4.size;have hW4:w4.heap[w2.heap.size]?=some (.cells #[.slice B1 x1.length d1,.slice none 0 0,.bool false,.slice none 0 0] 102 (0,0)):=(hsm4.block w2.heap.size AO AO).trans ((hsm3.block w2.heap.size AO ZH2).trans (aK w2 _ _));obtain⟨qa0,qa1,qa2,qa3,qa4,qa5,qa6,qa7⟩:=bG hW4)
      | (go_at_call 234;(with_reducible refine (bB2 (s:=s4) e5 ?h ?hb).mono ?_);(case h=>exact hr4.same ((aC.refl _ _).setCell (fun hq=>by have hq2:w2.heap.size≤R:=hq;omega) _));(case hb=>exact hl4);rintro e w5 ⟨rfl,hr5,hsm5,hbl5⟩;have z5:=hsm5.size;simp at z5;have hW5:w5.heap[w2.heap.size]?=some (.cells #[.slice B1 x1.length d1,.slice B2 x2.length d2,.bool false,.slice none 0 0] 102 (0,0)):=(hsm5.block w2.heap.size AO ZC8).trans ((heap_setCell_same _ _ _ _ _ _ hW4).trans rfl);obtain⟨ra0,ra1,ra2,ra3,ra4,ra5,ra6,ra7⟩:=bG hW5;have F1:aC (fun b=>b≠R∧b<wr.heap.size) wr w5:=((((((hsm1.trans hsm2).weak (fun k h=>h.1)).alloc _).trans (hsm3.weak (fun k h=>h.1))).trans (hsm4.weak (fun k h=>h.1))).setCell (fun hq=>by have hq2:w2.heap.size<wr.heap.size:=hq.2;omega) _).trans (hsm5.weak (fun k h=>h.1));have F3:Below w.heap.size wr w5:=((((((hbl1.mono AO).trans (hbl2.mono AO)).alloc AO _).trans (hbl3.mono AO)).trans (hbl4.mono AO)).setCell ZC5 _).trans (hbl5.mono AO);have hB1:Bs (fun b=>wr.heap.size≤b∧b≠w2.heap.size) w5 B1 x1:=(hs1.bless (S':=fun b=>wr.heap.size≤b∧b≠w2.heap.size) fun b hb h=>⟨by simp only[aB] at h;omega,AO⟩).bsame ((((((aC.refl _ _).alloc _).trans (hsm3.weak fun k h=>by have:=h.1;omega)).trans (hsm4.weak fun k h=>by have:=h.1;omega)).setCell (fun hq=>hq.2 rfl) _).trans (hsm5.weak fun k h=>by have:=h.1;omega));have hB2:Bs (fun b=>wr.heap.size≤b∧b≠w2.heap.size) w5 B2 x2:=(hs2.bless (S':=fun b=>wr.heap.size≤b∧b≠w2.heap.size) fun b hb h=>⟨by simp only[aB] at h;omega,by simp only[aB] at h;omega⟩).bsame (((aC.refl _ _).setCell (fun hq=>hq.2 rfl) _).trans (hsm5.weak fun k h=>by have:=h.1;omega)))
      | (go_at_call 235;(with_reducible refine (bF8 (s:=s5) e6 ?h ?hn ?hb).mono ?_);(case h=>exact hr5);(case hn=>omega);(case hb=>exact hl5);rintro e w6 ⟨B3,d3,rfl,hs3,hr6,hsm6,hbl6⟩;have z6:=hsm6.size;replace F1:aC (fun b=>b≠R∧b<wr.heap.size) wr w6:=F1.trans (hsm6.weak (fun k h=>h.1));replace F3:Below w.heap.size wr w6:=F3.trans (hbl6.mono AO);replace hB1:Bs (fun b=>wr.heap.size≤b∧b≠w2.heap.size) w6 B1 x1:=hB1.bsame (hsm6.weak fun k h=>by have:=h.1;omega);replace hB2:Bs (fun b=>wr.heap.size≤b∧b≠w2.heap.size) w6 B2 x2:=hB2.bsame (hsm6.weak fun k h=>by have:=h.1;omega);have hB3:Bs (fun b=>wr.heap.size≤b∧b≠w2.heap.size) w6 B3 x3:=hs3.bless fun b hb h=>⟨by simp only[aB] at h;omega,by simp only[aB] at h;omega⟩;have hW6:w6.heap[w2.heap.size]?=some (.cells #[.slice B1 x1.length d1,.slice B2 x2.length d2,.bool false,.slice none 0 0] 102 (0,0)):=(hsm6.block w2.heap.size AO AO).trans hW5;obtain⟨sa0,sa1,sa2,sa3,sa4,sa5,sa6,sa7⟩:=bG hW6;have hCw6:w6.heap[C]?=some (.cells #[.int .i64 (bC3 b:Nat),v] 177 (0,0)):=(F1.block C ⟨AO,AO⟩ AO).trans Hd.out.com;obtain⟨ca0,ca1,ca2,ca3⟩:=bF hCw6)
      | (at_builtin;refine aM3 wrR_stays (S:=aB base) _ rfl _ _ _ rfl base 102 i0 _ 4 80 Tryz.underlying37 hi0 hz0 hz1 hz2 rfl ZD9 v (aN4 (aH5 b) k).1 rfl ?hown _ _ [.slice B1 x1.length d1,.slice B2 x2.length d2,.bool false,.slice B3 x3.length d3] rfl rfl (aE6 _ _ [.slice B1 x1.length d1,.slice B2 x2.length d2,.bool false,.slice B3 x3.length d3] _ ZH2) ZE8 ?hm ?hby ?hba ⟨x1,x2,false,x3⟩ ?hd ?_;(case hown=>(have h0:aC (fun b=>b≠R∧b<wr.heap.size) wr ((w6.setCell ⟨w2.heap.size,3,none⟩ (.slice B3 x3.length d3)).alloc (.cells ([.slice B1 x1.length d1,.slice B2 x2.length d2,.bool false,.slice B3 x3.length d3]:List Value).toArray 102)):=(F1.setCell (fun hq=>by have hq2:w2.heap.size<wr.heap.size:=hq.2;omega) _).alloc _;exact Own.same_from wrR_stays Hd.out.own ⟨h0.size,fun k hk hk2=>h0.block k ⟨by simp only[aB] at hk;omega,hk2⟩ hk2⟩));(case hm=>(rw[hl8];simp only[maxLen];omega));(case hby=>(rw[hl8];omega));(case hba=>(simp;omega));(case hd=>exact⟨B1,d1,B2,d2,B3,d3,rfl,(hB1.bsame (((aC.refl _ _).setCell (p:=⟨w2.heap.size,3,none⟩) (S:=fun b=>wr.heap.size≤b∧b≠w2.heap.size) (fun hq=>hq.2 rfl) (.slice B3 x3.length d3)).alloc _)).bless (fun b _ h=>⟨by have:=h.1;simp only[aB];omega,Hd.out.own.apart wr.heap.size zn b h.1⟩),(hB2.bsame (((aC.refl _ _).setCell (p:=⟨w2.heap.size,3,none⟩) (S:=fun b=>wr.heap.size≤b∧b≠w2.heap.size) (fun hq=>hq.2 rfl) (.slice B3 x3.length d3)).alloc _)).bless (fun b _ h=>⟨by have:=h.1;simp only[aB];omega,Hd.out.own.apart wr.heap.size zn b h.1⟩),(hB3.bsame (((aC.refl _ _).setCell (p:=⟨w2.heap.size,3,none⟩) (S:=fun b=>wr.heap.size≤b∧b≠w2.heap.size) (fun hq=>hq.2 rfl) (.slice B3 x3.length d3)).alloc _)).bless (fun b _ h=>⟨by have:=h.1;simp only[aB];omega,Hd.out.own.apart wr.heap.size zn b h.1⟩),by show x1.length≤140737488355328;omega,by show x2.length≤140737488355328;omega,by show x3.length≤140737488355328;omega⟩);intro v8 w8 hown8 hbw8;obtain⟨A8,c8,rfl,_,_⟩:=hown8.readc wrR_stays;have Hown8:=zh hown8;clear hown8;have hC8:w8.heap[C]?=some (.cells #[.int .i64 (bC3 b:Nat),v] 177 (0,0)):=(hbw8.block C AO).trans ((heap_alloc_old _ _ ZC8).trans ((heap_setCell_other _ _ _ _ (by show C≠w2.heap.size;omega)).trans hCw6));obtain⟨da0,da1,da2,da3⟩:=bF hC8;have z8:=hbw8.size;simp at z8))
     go_roundw
     case rel =>
      refine⟨k+1,.slice A8 (k+1) c8,AO,by go_num,⟨?_,?_,?_,?_,?_,?_⟩⟩
      ·rw[Hnext.out]
       exact hr6.same (((((aC.refl (fun b=>b≤R) w6).setCell (fun hq=>by have hq2:w2.heap.size≤R:=hq;omega) _).alloc _).trans ⟨hbw8.size,fun k hk _=>hbw8.block k AO⟩).setCell (fun hq=>by have hq2:C≤R:=hq;omega) _)
      ·rw[heap_setCell_same _ _ _ _ _ _ hC8]
       rfl
      ·rw[Hnext.out]
       have h:=Own.same_from wrR_stays Hown8.out ((aC.refl _ _).setCell (p:=⟨C,1,none⟩) ZC4 (.slice A8 (k+1) c8))
       rw[List.length_append,hl8] at h
       exact h
      ·rw[heap_setCell_other _ _ _ _ (by show w.heap.size≠C;omega),hbw8.block _ AO,heap_alloc_old _ _ ZC8,heap_setCell_other _ _ _ _ (by show w.heap.size≠w2.heap.size;omega)]
       exact (F1.block w.heap.size ⟨AO,AO⟩ AO).trans Hd.out.res
      ·exact (((Hd.out.bel.trans F3).setCell (by show w.heap.size≤w2.heap.size;omega) _).alloc ZC8 _).trans (hbw8.mono AO) |>.setCell (by show w.heap.size≤C;omega) _
      ·simp;omega
     case measure=>simp[intOf];omega
   ·obtain rfl:k=aL6 b:=by omega
    obtain⟨l,el⟩:∃ l,l=(aN4 (aH5 b) (aL6 b)).1:=⟨_,rfl⟩
    obtain⟨rest,short,eS⟩:∃ r f,(aN4 (aH5 b) (aL6 b)).2=(r,f):=⟨_,_,rfl⟩
    have hll:l.length<256:=by rw[el,bL6];exact aK2 _
    have hr:aR8 wr R (rest,short):=by rw[← eS];exact Hd.out.rdr
    have hown:Own 4 WrR (aB base) wr base 102 v l:=by rw[el];exact Hd.out.own
    obtain⟨A8,c8,rfl,_,hs8⟩:=hown.readc wrR_stays
    have Hs8:=zh hs8
    have Hr:=zh hr
    obtain⟨ca0,ca1,_⟩:=bF Hd.out.com
    have hcm:cmS b=((bC3 b:Int),l):=by unfold cmS;rw[el]
    have hcom:=Hd.out.com
    have Hres:=zh Hd.out.res
    have Hbel:=zh Hd.out.bel
    clear hs8 hr hown Hd el
    generalize ((bC3 b:Nat):Int)=T at *
    cases short
    ·by_cases h1:0<rest.length
     ·have h1':decide ((0:Int)<(rest.length:Int))=true:=decide_eq_true AO
      have Hv:=zh (show aT7 b=((0,[]),4) by unfold aT7;rw[if_neg hb,eS];dsimp only;rw[if_neg ZD9,if_pos h1])
      go_wp2_with (go_at_call 236;(with_reducible refine (aK1 _ A8 T l c8 ?ha ?hn).mono ?_);(case ha=>exact Hs8.out.z wrR_stays);(case hn=>omega);rintro e w7 ⟨rfl,hb7⟩;have z7:=hb7.size;obtain⟨A9,c9,hx9,_,_⟩:=(Hr.out.same (aC.of_below hb7)).box;obtain⟨rr0,rr1,_⟩:=bF hx9;have hG7:=(hb7.block w.heap.size AO).trans Hres.out;obtain⟨gg0,gg1,gg2,gg3⟩:=bF hG7;have hC7:=(hb7.block C AO).trans hcom;obtain⟨cc0,cc1,_⟩:=bF hC7)
      refine bodyPost_ret (v:=.tuple #[.agg #[.int .i64 0,.slice none 0 0],.int .i64 4]) (by simp[results,Tryz.results182,go_sem,gg0,gg1]) rfl ?_
      rw[Hv.out]
      exact ZB4
     ·have h1':decide ((0:Int)<(rest.length:Int))=false:=decide_eq_false AO
      by_cases h2:aA2 (T,l)=0
      ·have H2:=zh h2
       have Hv:=zh (show aT7 b=((T,l),0) by unfold aT7;rw[if_neg hb,eS];dsimp only;rw[if_neg ZD9,if_neg h1,hcm,if_neg (by rw[h2];decide)])
       clear h2
       go_wp2_with (go_at_call 236;(with_reducible refine (aK1 _ A8 T l c8 ?ha ?hn).mono ?_);(case ha=>exact Hs8.out.z wrR_stays);(case hn=>omega);rintro e w7 ⟨rfl,hb7⟩;have z7:=hb7.size;obtain⟨A9,c9,hx9,_,_⟩:=(Hr.out.same (aC.of_below hb7)).box;obtain⟨rr0,rr1,_⟩:=bF hx9;have hG7:=(hb7.block w.heap.size AO).trans Hres.out;obtain⟨gg0,gg1,gg2,gg3⟩:=bF hG7;have hC7:=(hb7.block C AO).trans hcom;obtain⟨cc0,cc1,_⟩:=bF hC7;rw[H2.out])
       refine bodyPost_ret (v:=.tuple #[.agg #[.int .i64 T,.slice A8 l.length c8],.int .i64 0]) (by simp[results,Tryz.results182,go_sem,gg0,gg1]) rfl ?_
       rw[Hv.out]
       refine⟨A8,c8,rfl,?_,(((Hbel.out.trans (hb7.mono AO)).setCell (by show w.heap.size≤w.heap.size;omega) _).setCell (by show w.heap.size≤w.heap.size;omega) _)⟩
       exact ((Hs8.out.below wrR_stays hb7).same wrR_stays (((aC.refl _ _).setCell ZC4 _).setCell ZC4 _)).lo wrR_stays AO
      ·have h2':(aA2 (T,l) != 0)=true:=by simpa using h2
       have Hv:=zh (show aT7 b=((0,[]),aA2 (T,l)) by unfold aT7;rw[if_neg hb,eS];dsimp only;rw[if_neg ZD9,if_neg h1,hcm,if_pos h2])
       go_wp2_with (go_at_call 236;(with_reducible refine (aK1 _ A8 T l c8 ?ha ?hn).mono ?_);(case ha=>exact Hs8.out.z wrR_stays);(case hn=>omega);rintro e w7 ⟨rfl,hb7⟩;have z7:=hb7.size;obtain⟨A9,c9,hx9,_,_⟩:=(Hr.out.same (aC.of_below hb7)).box;obtain⟨rr0,rr1,_⟩:=bF hx9;have hG7:=(hb7.block w.heap.size AO).trans Hres.out;obtain⟨gg0,gg1,gg2,gg3⟩:=bF hG7;have hC7:=(hb7.block C AO).trans hcom;obtain⟨cc0,cc1,_⟩:=bF hC7)
       refine bodyPost_ret (v:=.tuple #[.agg #[.int .i64 0,.slice none 0 0],.int .i64 (aA2 (T,l))]) (by simp[results,Tryz.results182,go_sem,gg0,gg1]) rfl ?_
       rw[Hv.out]
       exact ZB4
    ·
     have Hv:=zh (show aT7 b=((0,[]),14) by unfold aT7;rw[if_neg hb,eS];dsimp only;rw[if_pos rfl])
     go_wp2_with (go_at_call 236;(with_reducible refine (aK1 _ A8 T l c8 ?ha ?hn).mono ?_);(case ha=>exact Hs8.out.z wrR_stays);(case hn=>omega);rintro e w7 ⟨rfl,hb7⟩;have z7:=hb7.size;obtain⟨A9,c9,hx9,_,_⟩:=(Hr.out.same (aC.of_below hb7)).box;obtain⟨rr0,rr1,_⟩:=bF hx9;have hG7:=(hb7.block w.heap.size AO).trans Hres.out;obtain⟨gg0,gg1,gg2,gg3⟩:=bF hG7;have hC7:=(hb7.block C AO).trans hcom;obtain⟨cc0,cc1,_⟩:=bF hC7)
     refine bodyPost_ret (v:=.tuple #[.agg #[.int .i64 0,.slice none 0 0],.int .i64 14]) (by simp[results,Tryz.results182,go_sem,gg0,gg1]) rfl ?_
     rw[Hv.out]
     exact ZB4
end Go.Proofs.YtablgnacmpcfeaaGreatDoor
