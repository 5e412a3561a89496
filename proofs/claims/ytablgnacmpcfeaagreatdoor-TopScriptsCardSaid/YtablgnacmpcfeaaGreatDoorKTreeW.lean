/- TreeW: slices.Insert of one pair among pairs of the call's own: three roads. slices.Insert of one pair among pairs of the call's own: where there is no room; and all roads in one. Walks: PutOf of the references; tree.Put. Walks: a key taken out of pairs. slices.Delete of pairs. Walks: tree.Delete; the law TreeDeletes. Walks: tree.Put; the law TreePuts. The conditions of each are in its words. -/
import Derived.Shelf.Spec.SlicesInsert
import Derived.Lib.Overlaps
import Derived.Lib.AppendZerosOnto
import Derived.Test.YtablgnacmpcfeaaGreatDoorKBase
import Derived.Test.YtablgnacmpcfeaaGreatDoorKTrees
namespace Go.Proofs.YtablgnacmpcfeaaGreatDoor
open Go.RowKit
set_option linter.unusedVariables false
set_option linter.unusedSimpArgs false
set_option maxRecDepth 100000
set_option maxHeartbeats 8000000
theorem aD9 {P:Program} (w:World) (dT sT ty elem:TypeId) (size n:Nat) (b o dLen dCap:Nat) (a:Addr) (sLen sCap:Nat) (cs:List Value)
  (hu:P.underlying dT=some (.slice elem)) (hs:(P.info? elem).map (·.size)=some size) (hn:n=Nat.min sLen dLen) (hl:cs.length=n*size)
  (hsrc:∀ j v,cs[j]?=some v→w.cell? (a.add j)=some v) (hc:∀ j,j<cs.length→(w.cell? ⟨b,o+j,none⟩).isSome=true) (hf:∀ j,j<cs.length→w.frozen? ⟨b,o+j,none⟩=false) (h1:∀ v ∈ cs,v.oneCell'=true) :
  (Builtin.copy_ #[dT,sT] ty #[.slice (some ⟨b,o,none⟩) dLen dCap,.slice (some a) sLen sCap]).run P w=.ok (goInt n) (w.setCells b o cs):=by
 have hst:=run_storeCells_cells (P:=P) b o cs 0 w (by simpa using hc) (by simpa using hf) h1
 have hfc:=run_firstCells_some (P:=P) w size n a sLen sCap cs hl hsrc
 cases hq:P.info? elem with
 | none=>simp[hq] at hs
 | some i =>
  have hi:i.size=size:=by simpa [hq] using hs
  simp[Builtin.copy_,run_underlying hu,Builtin.lenOf,sizeOf,typeInfo,hq,hi,← hn,hfc,hst]
theorem aY1 {α:Type} {R:(Nat→Prop)→World→List Value→α→Prop} {S:Nat→Prop} {w:World} (hone:∀ S w c x,R S w c x→∀ u ∈ c,u.oneCell'=true):∀ {css:List (List Value)} {l:List α},Each (R S w) css l→∀ u ∈ css.flatten,u.oneCell'=true
 | [],[],_,u,hu=>by simp at hu
 | c :: cs,x :: xs,h,u,hu=>by
  rw[List.flatten_cons] at hu
  rcases List.mem_append.1 hu with h1|h1
  ·exact hone _ _ _ _ h.1 u h1
  ·exact aY1 hone h.2 u h1
 | [],_ :: _,h,_,_=>h.elim
 | _ :: _,[],h,_,_=>h.elim
theorem pairR_one:∀ S w c x,aU2 S w c x→∀ u ∈ c,u.oneCell'=true:=by
 rintro S w c x ⟨A,c1,B,d,rfl,_⟩ u hu
 simp only[List.mem_cons,List.not_mem_nil,or_false] at hu
 rcases hu with e|e <;> rw[e] <;> rfl
theorem aN7 {w:World} {g:Nat} {t:TypeId} {cs:Array Value} (h:w.heap[g]?=some (.cells cs t (0,0))):w.shape? g=some (t,cs.size):=by
 simp[World.shape?,h]
theorem bA4 {P:Program} {e:TypeId} {i0:TypeInfo} {size:Nat} (hi:P.info? e=some i0) (hz:i0.size=size):(P.info? e).map (·.size)=some size:=by
 rw[hi];simp[hz]
theorem bM7 {P:Program} {e:TypeId} {i0:TypeInfo} {size:Nat} (hi:P.info? e=some i0) (hz:i0.size=size) (w:World):(Go.sizeOf e).run P w=.ok size w:=by
 simp[Go.sizeOf,typeInfo,hi,hz]
theorem bV1 {cur c:List Value} {css:List (List Value)} {n i:Nat} (hw:aO6 2 css) (hcl:css.length=n) (ht:cur.take (n*2)=css.flatten) (hi:i≤n) (hc:c.length=2) (hcur:(n+1)*2≤cur.length) (news:List Value) (hnews:news=(css.drop i).flatten) :
  ((cur.take ((i+1)*2)++news++cur.drop ((i+1)*2+news.length)).take (i*2)++c++(cur.take ((i+1)*2)++news++cur.drop ((i+1)*2+news.length)).drop (i*2+c.length)).take ((n+1)*2)=(css.take i++c :: css.drop i).flatten:=by
 have hdl:news.length=(n - i)*2:=by rw[hnews,flat_len (hw.drop i),List.length_drop,hcl]
 have e1:(cur.take ((i+1)*2)++news++cur.drop ((i+1)*2+news.length)).take (i*2)=(css.take i).flatten:=by
  rw[List.append_assoc,List.take_append_of_le_length ZF6,List.take_take,Nat.min_eq_left AO,← aQ5 hw i AO,← ht,List.take_take,Nat.min_eq_left AO]
 have e2:(cur.take ((i+1)*2)++news++cur.drop ((i+1)*2+news.length)).drop (i*2+c.length)=news++cur.drop ((i+1)*2+news.length):=by
  rw[List.append_assoc,hc,show i*2+2=(cur.take ((i+1)*2)).length by rw[List.length_take];omega,List.drop_left]
 have hl1:(css.take i).flatten.length=i*2:=by rw[flat_len (hw.take i),List.length_take];omega
 have e3:(css.take i++c :: css.drop i).flatten=(css.take i).flatten++c++news:=by rw[List.flatten_append,List.flatten_cons,hnews,List.append_assoc]
 rw[e1,e2,e3,← List.append_assoc]
 have hl2:((css.take i).flatten++c++news).length=(n+1)*2:=by rw[List.length_append,List.length_append,hl1,hc,hdl];omega
 rw[← hl2,List.take_left]
theorem aK5 (cur vs:List Value) (o k:Nat) (hk:k=o+vs.length) (h:k≤cur.length):(cur.take o++vs++cur.drop k).toArray.size=cur.length:=by
 simp only[List.size_toArray,List.length_append,List.length_take,List.length_drop]
 omega
theorem bE6 {css:List (List Value)} {c:List Value} (hw:aO6 2 css) (hc:c.length=2) (i:Nat):aO6 2 (css.take i++c :: css.drop i):=by
 intro c' hc'
 rcases List.mem_append.1 hc' with h|h
 ·exact hw _ (List.mem_of_mem_take h)
 ·rcases List.mem_cons.1 h with rfl|h
  ·exact hc
  ·exact hw _ (List.mem_of_mem_drop h)
theorem bE7 {α:Type} {R:List Value→α→Prop} {css:List (List Value)} {l:List α} {c:List Value} {x:α} (h:Each R css l) (hx:R c x) (i:Nat):Each R (css.take i++c :: css.drop i) (ins l i x) :=
 Each.append (cs':=c :: css.drop i) (l':=x :: l.drop i) ⟨hx,h.drop i⟩ (h.take i)
def aV9 {α:Type} (R:(Nat→Prop)→World→List Value→α→Prop) (E:TypeId) (base:Nat) (w:World) (l:List α) (e:Ending) (w':World):Prop :=
 ∃ v',e=.returned v'∧Own 2 R (aB base) w' base E v' l∧Below base w w'
theorem cD3 {α:Type} {R:(Nat→Prop)→World→List Value→α→Prop} (hR:bI R) (hone:∀ S w c x,R S w c x→∀ u ∈ c,u.oneCell'=true) (w:World) (base:Nat) (v:Value) (l:List α) (x:α) (vb:Nat) (c:List Value) (T:TypeId)
  (hown:Own 2 R (aB base) w base 53 v l) (hb:base≤w.heap.size) (hl:l.length≤100000) (hvb:w.heap[vb]?=some (.cells c.toArray T (0,0))) (hc:c.length=2) (hx:R (fun b=>aB base b∧v.ownBlock≠some b) w c x) :
  Calls Tryz.prog 168 #[v,.int .i64 l.length,.slice (some ⟨vb,0,none⟩) 1 1] w (aV9 R 53 base w (l++[x])):=by
 obtain⟨i0,hi0,hz0,hz1,hz2⟩:=info_parts info_pair
 obtain⟨A,cap,hv,hcap⟩:∃ A cap,v=.slice A l.length cap∧(A=none→cap=0):=by
  obtain⟨xs,h1,_⟩:=hown
  rcases h1.2 with ⟨rfl,h0⟩|⟨g,cap,cur,rfl,_⟩
  ·exact⟨none,0,by rw[h0],fun _=>rfl⟩
  ·exact⟨_,cap,rfl,fun h=>by cases h⟩
 have Hown:=zh hown
 have Hx:=zh hx
 have Hsrc:=zh (show ∃ ad,some (⟨vb,0,none⟩:Addr)=some ad∧∀ j u,c[j]?=some u→w.cell? (ad.add j)=some u from ⟨_,rfl,fun j u hu=>by rw[bC,Nat.zero_add,aA hvb,hu]⟩)
 have Hone:=zh (hone _ _ _ _ hx)
 have Hv:=zh hv
 have Hcap:=zh hcap
 clear hown hx hvb hone
 have hsame:v=v:=rfl
 rw[hv]
 clear hv hcap
 rcases A with _|⟨g,off,sp⟩
 all_goals
  go_enter Tryz.func168,Tryz.ntmps168
  go_wp2_with (at_builtin;refine aM3 hR (S:=aB base) _ rfl _ _ _ rfl base 53 i0 _ 2 48 Tryz.underlying50 hi0 hz0 hz1 hz2 rfl ZD9 v l ?hs Hown.out (some ⟨vb,0,none⟩) 1 c rfl hc Hsrc.out Hone.out ZD2 AO hb x Hx.out ?_;(case hs=>(rw[Hv.out];rfl));intro v1 w1 hown1 hbw1)
  all_goals
   go_ret
   exact⟨v1,rfl,hown1,hbw1⟩
theorem bY6 {α:Type} {R:(Nat→Prop)→World→List Value→α→Prop} (hR:bI R) (hone:∀ S w c x,R S w c x→∀ u ∈ c,u.oneCell'=true) (w:World) (base:Nat) (l:List α) (i:Nat) (x:α) (g cap:Nat) (vb:Nat) (c:List Value) (T:TypeId)
  (hown:Own 2 R (aB base) w base 53 (.slice (some ⟨g,0,none⟩) l.length cap) l) (hi:i<l.length) (hroom:l.length<cap) (hvb:w.heap[vb]?=some (.cells c.toArray T (0,0))) (hc:c.length=2) (hne:vb≠g) (hx:R (fun b=>aB base b∧b≠g) w c x) :
  Calls Tryz.prog 168 #[.slice (some ⟨g,0,none⟩) l.length cap,.int .i64 i,.slice (some ⟨vb,0,none⟩) 1 1] w (aV9 R 53 base w (ins l i x)):=by
 obtain⟨i0,hi0,hz0,hz1,hz2⟩:=info_parts info_pair
 obtain⟨g',cap',cur,css,hv,hg,hlt,hh,hcap,hmx,hcur,ht,hw,he⟩:=hown.row hR AO
 cases hv
 obtain⟨n,hn⟩:∃ n,n=l.length:=⟨_,rfl⟩
 have hcl:css.length=n:=by rw[hn];exact he.length
 rw[← hn] at hi hroom hcap ht ⊢
 simp only[maxLen] at hmx
 have hcell:∀ j,j<cap*2→(w.cell? ⟨g,j,none⟩).isSome=true:=by
  intro j hj
  simp[World.cell?,hh,hcur,hj]
 have hcells:∀ j,j<n*2→w.cell? ⟨g,j,none⟩=css.flatten[j]?:=by
  intro j hj
  rw[← ht,List.getElem?_take_of_lt hj,Array.getElem?_toList]
  simp[World.cell?,hh]
 have hfroz:∀ j,w.frozen? ⟨g,j,none⟩=false:=fun j=>by simp[World.frozen?,hh]
 have hov:∀ lb cb,(callFunc 222 #[.slice (some ⟨vb,0,none⟩) 1 1,.slice (some ⟨g,(i+1)*2,none⟩) lb cb]).run Tryz.prog w=.ok (.value (.bool false)) w:=fun lb cb=>by
  rw[run_callFunc_extern Tryz.func222 ZG0 ZG0 ZG0 (e:=Extern.SlicesOverlaps.overlaps #[50,50] #[4]) ZG0,
   Lib.run_overlaps_apart w 50 4 53 Tryz.underlying50 2 (bM7 hi0 hz1) ⟨vb,0,none⟩ ⟨g,(i+1)*2,none⟩ 1 1 lb cb hne T 53 _ _ (aN7 hvb) (aN7 hh) AO (by simp[World.frozen?,hvb]) (by simp[World.frozen?,hvb])]
  rfl
 have hdf:css.flatten.drop (i*2)=(css.drop i).flatten:=aL9 hw i AO
 have hdl:(css.drop i).flatten.length=(n - i)*2:=by rw[flat_len (hw.drop i),List.length_drop,hcl]
 obtain⟨news,hnews⟩:∃ news,news=(css.drop i).flatten:=⟨_,rfl⟩
 rw[← hnews] at hdf hdl
 have hn1:∀ v ∈ news,v.oneCell'=true:=by rw[hnews];exact aY1 hone (he.drop i)
 have hc1:∀ v ∈ c,v.oneCell'=true:=hone _ _ _ _ hx
 have hsz:(Tryz.prog.info? 53).map (·.size)=some 2:=bA4 hi0 hz1
 have hcp1:∀ ty dc sc,(Builtin.copy_ #[50,50] ty #[.slice (some ⟨g,(i+1)*2,none⟩) (n - i) dc,.slice (some ⟨g,i*2,none⟩) (n+1 - i) sc]).run Tryz.prog w.drew=.ok (goInt ((n - i:Nat):Int)) (w.drew.setCells g ((i+1)*2) news):=fun ty dc sc =>
  aD9 w.drew _ _ ty 53 2 (n - i) g ((i+1)*2) (n - i) dc ⟨g,i*2,none⟩ (n+1 - i) sc news Tryz.underlying50 hsz ZF8 hdl
   (fun j v hj=>by
    rw[bC]
    have hjl:=(List.getElem?_eq_some_iff.1 hj).1
    have:=hcells (i*2+j) AO
    show w.cell? _=_
    rw[this,← hj,← hdf,List.getElem?_drop])
   (fun j hj=>hcell _ AO) (fun j hj=>hfroz _) hn1
 obtain⟨W1,hW1⟩:∃ W1,W1=w.drew.setCells g ((i+1)*2) news:=⟨_,rfl⟩
 have hcp2:∀ ty dc,(Builtin.copy_ #[50,50] ty #[.slice (some ⟨g,i*2,none⟩) (n+1 - i) dc,.slice (some ⟨vb,0,none⟩) 1 1]).run Tryz.prog W1=.ok (goInt ((1:Nat):Int)) (W1.setCells g (i*2) c):=fun ty dc =>
  aD9 W1 _ _ ty 53 2 1 g (i*2) (n+1 - i) dc ⟨vb,0,none⟩ 1 1 c Tryz.underlying50 hsz ZF8 (by rw[hc])
   (fun j v hj=>by
    rw[bC,hW1,World.cell?_setCells_out g _ _ _ _ (fun h _=>absurd h hne),Nat.zero_add]
    show w.cell? _=_
    rw[aA hvb,hj])
   (fun j hj=>by rw[hW1];exact World.isSome_setCells g news _ _ _ (hcell _ AO)) (fun j hj=>by rw[hW1,World.frozen?_setCells];exact hfroz _) hc1
 rw[← hW1] at hcp1
 have Hcp1:=zh hcp1
 have Hcp2:=zh hcp2
 have Hown:=zh hown
 have Hrest:=zh (And.intro hh (And.intro hcur (And.intro ht (And.intro hw (And.intro he hx)))))
 have HW1:=zh hW1
 have Hn:=zh hn
 have Hcl:=zh hcl
 have Hnews:=zh hnews
 have Hdl:=zh hdl
 have Hc:=zh hc
 have Hlt:=zh hlt
 clear hcp1 hcp2 hown hh hcur ht hw he hx hW1 hn hcl hnews hdl hc hcells hcell hfroz hdf hn1 hc1 hsz hvb hlt
 have hz2':((i:Int)==(n:Int))=false:=by simp;omega
 have hw0:IntKind.i64.wrap ((n:Int)+1)=(n:Int)+1:=by rw[IntKind.wrap_i64];omega
 have hw1:IntKind.i64.wrap ((i:Int)+1)=(i:Int)+1:=by rw[IntKind.wrap_i64];omega
 have hb0:decide ((cap:Int)<(n:Int)+1)=false:=by simp;omega
 have hb1:(0:Int)≤(i:Int)+1:=by omega
 have hb5:(0:Int)≤(n:Int)+1:=by omega
 have hb6:(n:Int)+1≤(cap:Int):=by omega
 have hin:i≤n:=by omega
 have htn:((i:Int)+1).toNat=i+1:=by omega
 have htn':((n:Int)+1).toNat=n+1:=by omega
 have hb2:¬ (cap=i+1):=by omega
 have hb3:(i:Int)≤(n:Int)+1:=by omega
 have hb7:(i:Int)+1≤(n:Int)+1:=by omega
 have hb4:¬ (cap=i):=by omega
 go_enter Tryz.func168,Tryz.ntmps168
 go_wp2_with (simp only[hov])
 go_region_law ((refine step_copy_runI rfl (.tmp 73) (.tmp 76) 50 50 rfl (.slice (some ⟨g,(i+1)*2,none⟩) (n - i) (cap - (i+1))) (.slice (some ⟨g,i*2,none⟩) (n+1 - i) (cap - i)) ?hd ?hx (Hcp1.out _ _ _) ?_);(case hd=>simp[Act.eval,Act.put]);(case hx=>simp[Act.eval,Act.put]))
 go_wp2_with (refine wpList_copy_runI _ rfl (.tmp 80) (.tmp 81) 50 50 rfl (.slice (some ⟨g,i*2,none⟩) (n+1 - i) (cap - i)) (.slice (some ⟨vb,0,none⟩) 1 1) ?hd2 ?hx2 (Hcp2.out _ _) ?_;(case hd2=>simp[Act.eval,Act.put]);(case hx2=>simp[Act.eval,Act.put]))
 go_ret
 obtain⟨hh,hcur,ht,hw,he,hx⟩:=Hrest.out
 have hil:(ins l i x).length=n+1:=by rw[aS4,Hn.out]
 have hh1:W1.heap[g]?=some (.cells (cur.toList.take ((i+1)*2)++news++cur.toList.drop ((i+1)*2+news.length)).toArray 53 (0,0)):=by
  rw[HW1.out]
  exact aB5 news ((i+1)*2) cur w.drew hh (by rw[Hdl.out];omega)
 have hl1:(cur.toList.take ((i+1)*2)++news++cur.toList.drop ((i+1)*2+news.length)).toArray.size=cap*2:=by
  rw[aK5 _ _ _ _ rfl (by rw[Hdl.out,Array.length_toList];omega),Array.length_toList,hcur]
 have hh2:=aB5 c (i*2) _ W1 hh1 (by rw[hl1,Hc.out];omega)
 have hs:aC (fun b=>aB base b∧b≠g) w (W1.setCells g (i*2) c):=by
  rw[HW1.out]
  exact aC.setCells ZH2 _ _ (aC.setCells ZH2 _ _ (aC.refl _ _).drew)
 have hbw:Below base w (W1.setCells g (i*2) c):=by
  rw[HW1.out]
  exact aB7 hg _ _ (aB7 hg _ _ (Below.refl _ _).drew)
 refine⟨.slice (some ⟨g,0,none⟩) (n+1) cap,rfl,?_,hbw⟩
 rw[← hil]
 refine Own.mk_row (css:=css.take i++c :: css.drop i) (bE6 hw Hc.out i) ((bE7 he hx i).mono fun c' x' h'=>hR.same _ _ _ _ _ hs h') hg hh2 AO ZD2 ?_ ?_ hR
 ·have hc2:=Hc.out
  rw[aK5 _ _ _ _ rfl (by rw[hc2];show i*2+2≤Array.size _;rw[hl1];omega)]
  exact hl1
 ·rw[hil]
  exact bV1 hw Hcl.out ht AO Hc.out (by rw[Array.length_toList,hcur];omega) news Hnews.out
theorem bM8 {row c:List Value} {css:List (List Value)} {n i:Nat} (hw:aO6 2 css) (hcl:css.length=n) (ht:row.take (i*2)=(css.take i).flatten) (hi:i≤n) (hc:c.length=2) (hrow:(n+1)*2≤row.length) (news:List Value) (hnews:news=(css.drop i).flatten) :
  ((row.take (i*2)++c++row.drop (i*2+c.length)).take ((i+1)*2)++news++(row.take (i*2)++c++row.drop (i*2+c.length)).drop ((i+1)*2+news.length)).take ((n+1)*2)=(css.take i++c :: css.drop i).flatten:=by
 have hdl:news.length=(n - i)*2:=by rw[hnews,flat_len (hw.drop i),List.length_drop,hcl]
 have hl1:(css.take i).flatten.length=i*2:=by rw[flat_len (hw.take i),List.length_take];omega
 have e1:(row.take (i*2)++c++row.drop (i*2+c.length)).take ((i+1)*2)=(css.take i).flatten++c:=by
  have:((css.take i).flatten++c).length=(i+1)*2:=by rw[List.length_append,hl1,hc];omega
  rw[ht,← this,List.take_left]
 have e3:(css.take i++c :: css.drop i).flatten=(css.take i).flatten++c++news:=by rw[List.flatten_append,List.flatten_cons,hnews,List.append_assoc]
 rw[e1,e3]
 have hl2:((css.take i).flatten++c++news).length=(n+1)*2:=by rw[List.length_append,List.length_append,hl1,hc,hdl];omega
 rw[← hl2,List.take_left]
theorem bY7 {α:Type} {R:(Nat→Prop)→World→List Value→α→Prop} (hR:bI R) (hone:∀ S w c x,R S w c x→∀ u ∈ c,u.oneCell'=true) (w:World) (base:Nat) (l:List α) (i:Nat) (x:α) (g cap:Nat) (vb:Nat) (c:List Value) (T:TypeId)
  (hown:Own 2 R (aB base) w base 53 (.slice (some ⟨g,0,none⟩) l.length cap) l) (hb:base≤w.heap.size) (hl:l.length≤100000) (hi:i<l.length) (hroom:¬ l.length<cap) (hvb:w.heap[vb]?=some (.cells c.toArray T (0,0))) (hc:c.length=2) (hx:R (fun b=>aB base b∧b≠g) w c x) :
  Calls Tryz.prog 168 #[.slice (some ⟨g,0,none⟩) l.length cap,.int .i64 i,.slice (some ⟨vb,0,none⟩) 1 1] w (aV9 R 53 base w (ins l i x)):=by
 obtain⟨i0,hi0,hz0,hz1,hz2⟩:=info_parts info_pair
 obtain⟨g',cap',cur,css,hv,hg,hlt,hh,hcap,hmx,hcur,ht,hw,he⟩:=hown.row hR AO
 cases hv
 obtain⟨n,hn⟩:∃ n,n=l.length:=⟨_,rfl⟩
 have hcl:css.length=n:=by rw[hn];exact he.length
 rw[← hn] at hi hroom hcap ht hl ⊢
 obtain rfl:cap=n:=by omega
 clear hcap hroom
 have hvlt:vb<w.heap.size:=(Array.getElem?_eq_some_iff.1 hvb).1
 have hcells:∀ j,j<cap*2→w.cell? ⟨g,j,none⟩=css.flatten[j]?:=by
  intro j hj
  rw[← ht,List.getElem?_take_of_lt hj,Array.getElem?_toList]
  simp[World.cell?,hh]
 have hfi:css.flatten.take (i*2)=(css.take i).flatten:=aQ5 hw i AO
 have hfl:(css.take i).flatten.length=i*2:=by rw[flat_len (hw.take i),List.length_take];omega
 have hdf:css.flatten.drop (i*2)=(css.drop i).flatten:=aL9 hw i AO
 have hdl:(css.drop i).flatten.length=(cap - i)*2:=by rw[flat_len (hw.drop i),List.length_drop,hcl]
 obtain⟨news,hnews⟩:∃ news,news=(css.drop i).flatten:=⟨_,rfl⟩
 rw[← hnews] at hdf hdl
 have hn1:∀ v ∈ news,v.oneCell'=true:=by rw[hnews];exact aY1 hone (he.drop i)
 have hc1:∀ v ∈ c,v.oneCell'=true:=hone _ _ _ _ hx
 have hsz:(Tryz.prog.info? 53).map (·.size)=some 2:=bA4 hi0 hz1
 have hold:(Builtin.firstCells i0.size i (.slice (some ⟨g,0,none⟩) i cap)).run Tryz.prog w.drew=.ok (css.take i).flatten.toArray w.drew:=by
  rw[hz1]
  exact run_firstCells_some w.drew 2 i ⟨g,0,none⟩ i cap _ hfl (fun j v hj=>by
   rw[bC,Nat.zero_add]
   have hjl:=(List.getElem?_eq_some_iff.1 hj).1
   show w.cell? _=_
   rw[hcells j AO,← hj,← hfi,List.getElem?_take_of_lt AO])
 have hkk:(cap:Int)+1 - (i:Int)=((cap+1 - i:Nat):Int):=by omega
 have hik:i+(cap+1 - i)=cap+1:=by omega
 obtain⟨G,hG⟩:∃ G,G=grownCap w (cap+1) cap 53:=⟨_,rfl⟩
 have hGn:cap+1≤G:=by rw[hG];exact grownCap_ge w _ _ _
 have hG63:G≤maxLen:=by
  have:=grownCap_le_maxLen w (cap+1) cap 53 ZD2
  rwa [← hG] at this
 obtain⟨ROW,hROW⟩:∃ ROW:Array Value,ROW=(css.take i).flatten.toArray++Builtin.zeroCells (Value.agg #[.slice none 0 0,.slice none 0 0]).cells (cap+1 - i)++Builtin.zeroCells (Value.agg #[.slice none 0 0,.slice none 0 0]).cells (G - (cap+1)):=⟨_,rfl⟩
 have hrz:∀ ty,(Builtin.append_ #[50,3] ty #[.slice (some ⟨g,0,none⟩) i cap,.int .i64 ((cap:Int)+1 - (i:Int))]).run Tryz.prog w=.ok (.slice (some ⟨w.heap.size,0,none⟩) (cap+1) G) (w.drew.alloc (.cells ROW 53)):=fun ty=>by
  have h:=Lib.run_append_grow_zeros (P:=Tryz.prog) w 50 3 ty 53 i0 _ .i64 .i64 Tryz.underlying50 Tryz.underlying3 hi0 hz0 (some ⟨g,0,none⟩) i cap _ hold (cap+1 - i) AO AO AO AO (by rw[hz2];omega) (by rw[hz2,hik];exact growslice_fits AO AO)
  rw[hik,← hG,← hROW] at h
  rw[hkk]
  exact h
 have hRl:ROW.size=G*2:=by
  rw[hROW]
  simp only[Array.size_append,List.size_toArray,hfl,size_zeroCells,Value.cells]
  simp
  omega
 have hRt:ROW.toList.take (i*2)=(css.take i).flatten:=by
  rw[hROW,Array.toList_append,Array.toList_append,List.append_assoc]
  show (((css.take i).flatten)++_).take (i*2)=_
  rw[← hfl,List.take_left]
 clear hROW
 obtain⟨W1,hW1⟩:∃ W1,W1=w.drew.alloc (.cells ROW 53):=⟨_,rfl⟩
 rw[← hW1] at hrz
 have hrow:W1.heap[w.heap.size]?=some (.cells ROW 53 (0,0)):=by rw[hW1];exact heap_alloc_new w.drew _
 have hN:∀ j,j<G*2→(W1.cell? ⟨w.heap.size,j,none⟩).isSome=true:=fun j hj=>by
  simp[World.cell?,hrow,hRl,hj]
 have hNf:∀ j,W1.frozen? ⟨w.heap.size,j,none⟩=false:=fun j=>by simp[World.frozen?,hrow]
 have hOb:∀ b j,b<w.heap.size→W1.cell? ⟨b,j,none⟩=w.cell? ⟨b,j,none⟩:=fun b j h=>by rw[hW1,World.cell?_alloc_past (w:=w.drew) _ b j h];rfl
 have hcpA:∀ (W:World),(∀ x,W.cell? x=W1.cell? x)→(∀ x,W.frozen? x=W1.frozen? x)→∀ ty dc,(Builtin.copy_ #[50,50] ty #[.slice (some ⟨w.heap.size,i*2,none⟩) (cap+1 - i) dc,.slice (some ⟨vb,0,none⟩) 1 1]).run Tryz.prog W=.ok (goInt ((1:Nat):Int)) (W.setCells w.heap.size (i*2) c):=fun W hWc hWf ty dc =>
  aD9 W _ _ ty 53 2 1 w.heap.size (i*2) (cap+1 - i) dc ⟨vb,0,none⟩ 1 1 c Tryz.underlying50 hsz ZF8 (by rw[hc])
   (fun j v hj=>by rw[bC,hWc,Nat.zero_add,hOb _ _ hvlt,aA hvb,hj])
   (fun j hj=>by rw[hWc];exact hN _ AO) (fun j hj=>by rw[hWf];exact hNf _) hc1
 have hcpB:∀ (W:World),(∀ x,W.cell? x=(W1.setCells w.heap.size (i*2) c).cell? x)→(∀ x,W.frozen? x=(W1.setCells w.heap.size (i*2) c).frozen? x)→∀ ty dc sc,(Builtin.copy_ #[50,50] ty #[.slice (some ⟨w.heap.size,(i+1)*2,none⟩) (cap - i) dc,.slice (some ⟨g,i*2,none⟩) (cap - i) sc]).run Tryz.prog W=.ok (goInt ((cap - i:Nat):Int)) (W.setCells w.heap.size ((i+1)*2) news):=fun W hWc hWf ty dc sc =>
  aD9 W _ _ ty 53 2 (cap - i) w.heap.size ((i+1)*2) (cap - i) dc ⟨g,i*2,none⟩ (cap - i) sc news Tryz.underlying50 hsz ZF8 hdl
   (fun j v hj=>by
    rw[bC,hWc,World.cell?_setCells_out _ _ _ _ _ (fun h _=>absurd h (by show ¬ (g=w.heap.size);omega)),hOb _ _ hlt]
    have hjl:=(List.getElem?_eq_some_iff.1 hj).1
    rw[hcells (i*2+j) AO,← hj,← hdf,List.getElem?_drop])
   (fun j hj=>by rw[hWc];exact World.isSome_setCells _ _ _ _ _ (hN _ AO))
   (fun j hj=>by rw[hWf,World.frozen?_setCells];exact hNf _) hn1
 have hE:aC (fun b=>aB base b∧b≠w.heap.size) w W1:=by rw[hW1];exact ((aC.refl _ _).drew).alloc _
 have hB:Below base w W1:=by rw[hW1];exact ((Below.refl _ _).drew).alloc hb _
 have hE1:∀ x,((w.alloc (.cells ROW 53)).drew).cell? x=W1.cell? x:=fun x=>by rw[hW1];rfl
 have hE2:∀ x,((w.alloc (.cells ROW 53)).drew).frozen? x=W1.frozen? x:=fun x=>by rw[hW1];rfl
 have hWW:W1=(w.alloc (.cells ROW 53)).drew:=by rw[hW1];rfl
 have HrzA:=zh hrz
 have HcpA:=zh hcpA
 have HcpB:=zh hcpB
 have Hrest:=zh (And.intro hh (And.intro hrow (And.intro hRl (And.intro hRt (And.intro hw (And.intro he (And.intro hx (And.intro hE hB))))))))
 have Hn:=zh hn
 have Hcl:=zh hcl
 have Hnews:=zh hnews
 have Hdl:=zh hdl
 have Hc:=zh hc
 have HE1:=zh hE1
 have HE2:=zh hE2
 have HWW:=zh hWW
 have HWd:=zh hW1
 have hG63':G≤9223372036854775807:=by simp only[maxLen] at hG63;omega
 have HG63:=zh hG63
 clear hrz hcpA hcpB hown hh hcur ht hw he hx hW1 hn hcl hnews hdl hc hcells hdf hn1 hc1 hsz hvb hrow hRl hRt hN hNf hOb hE hB hE1 hE2 hWW hold hkk hik hfi hfl hlt hG hG63
 have hz2':((i:Int)==(cap:Int))=false:=by simp;omega
 have hw0:IntKind.i64.wrap ((cap:Int)+1)=(cap:Int)+1:=by rw[IntKind.wrap_i64];omega
 have hw1:IntKind.i64.wrap ((i:Int)+1)=(i:Int)+1:=by rw[IntKind.wrap_i64];omega
 have hw2:IntKind.i64.wrap ((cap:Int)+1 - (i:Int))=(cap:Int)+1 - (i:Int):=by rw[IntKind.wrap_i64];omega
 have hb0:decide ((cap:Int)<(cap:Int)+1)=true:=by simp;omega
 have hb1:(0:Int)≤(i:Int)+1:=by omega
 have hin:i≤cap:=by omega
 have htn:((i:Int)+1).toNat=i+1:=by omega
 have hGi:¬ (G=i):=by omega
 have hGim:¬ (G=i+1):=by omega
 have hci:¬ (cap=i):=by omega
 have hb3:(i:Int)≤(cap:Int):=by omega
 have hb7:(i:Int)+1≤(cap:Int)+1:=by omega
 go_enter Tryz.func168,Tryz.ntmps168
 go_wp2_with (first
  | (at_builtin;refine Lib.wpList_append_run _ rfl (.tmp 34) (.tmp 39) _ _ rfl _ _ rfl rfl _ _ (HrzA.out _) ?_)
  | (refine wpList_copy_runI _ rfl (.tmp 43) (.tmp 44) 50 50 rfl (.slice (some ⟨w.heap.size,i*2,none⟩) (cap+1 - i) (G - i)) (.slice (some ⟨vb,0,none⟩) 1 1) ?hd1 ?hx1 (HcpA.out _ (fun _=>rfl) (fun _=>rfl) _ _) ?_;(case hd1=>simp[Act.eval,Act.put]);(case hx1=>simp[Act.eval,Act.put])))
 go_region_law ((refine step_copy_runI rfl (.tmp 50) (.tmp 53) 50 50 rfl (.slice (some ⟨w.heap.size,(i+1)*2,none⟩) (cap - i) (G - (i+1))) (.slice (some ⟨g,i*2,none⟩) (cap - i) (cap - i)) ?hd2 ?hx2 (HcpB.out (W1.setCells w.heap.size (i*2) c).drew (fun _=>rfl) (fun _=>rfl) _ _ _) ?_);(case hd2=>simp[Act.eval,Act.put]);(case hx2=>simp[Act.eval,Act.put]))
 go_wp2
 go_ret
 obtain⟨hh,hrow,hRl,hRt,hw,he,hx,hE,hB⟩:=Hrest.out
 have hil:(ins l i x).length=cap+1:=by rw[aS4,Hn.out]
 have hc2:=Hc.out
 have hh1:=aB5 c (i*2) ROW W1 hrow (by rw[hRl,hc2];omega)
 have hl1:(ROW.toList.take (i*2)++c++ROW.toList.drop (i*2+c.length)).toArray.size=G*2:=by
  rw[aK5 _ _ _ _ rfl (by rw[hc2];show i*2+2≤ROW.size;rw[hRl];omega)]
  exact hRl
 have hh2:=aB5 news ((i+1)*2) _ (W1.setCells w.heap.size (i*2) c).drew hh1 (by rw[hl1,Hdl.out];omega)
 have hs:aC (fun b=>aB base b∧b≠w.heap.size) w ((W1.setCells w.heap.size (i*2) c).drew.setCells w.heap.size ((i+1)*2) news) :=
  aC.setCells ZH2 _ _ (aC.setCells ZH2 _ _ hE).drew
 have hbw:Below base w ((W1.setCells w.heap.size (i*2) c).drew.setCells w.heap.size ((i+1)*2) news) :=
  aB7 hb _ _ (aB7 hb _ _ hB).drew
 have hrow':∀ c' x',R (fun b=>aB base b∧b≠g) w c' x'→R (fun b=>aB base b∧b≠w.heap.size) ((W1.setCells w.heap.size (i*2) c).drew.setCells w.heap.size ((i+1)*2) news) c' x':=fun c' x' h' =>
  hR.same _ _ _ _ _ hs (hR.less _ _ _ _ _ (fun b hlt hs=>⟨hs.1,AO⟩) h')
 refine⟨.slice (some ⟨w.heap.size,0,none⟩) (cap+1) G,rfl,?_,hbw⟩
 rw[← hil]
 refine Own.mk_row (css:=css.take i++c :: css.drop i) (bE6 hw hc2 i) ((bE7 he hx i).mono hrow') hb hh2 AO HG63.out ?_ ?_ hR
 ·rw[aK5 _ _ _ _ rfl (by rw[Hdl.out];show (i+1)*2+(cap - i)*2≤Array.size _;rw[hl1];omega)]
  exact hl1
 ·rw[hil]
  exact bM8 hw Hcl.out hRt AO hc2 (by rw[Array.length_toList,hRl];omega) news Hnews.out
theorem cK1 {α:Type} {R:(Nat→Prop)→World→List Value→α→Prop} (hR:bI R) (hone:∀ S w c x,R S w c x→∀ u ∈ c,u.oneCell'=true) (w:World) (base:Nat) (v:Value) (l:List α) (i:Nat) (x:α) (vb:Nat) (c:List Value) (T:TypeId)
  (hown:Own 2 R (aB base) w base 53 v l) (hi:i≤l.length) (hb:base≤w.heap.size) (hl:l.length≤100000) (hvb:w.heap[vb]?=some (.cells c.toArray T (0,0))) (hne:v.ownBlock≠some vb) (hc:c.length=2) (hx:R (fun b=>aB base b∧v.ownBlock≠some b) w c x) :
  Calls Tryz.prog 168 #[v,.int .i64 i,.slice (some ⟨vb,0,none⟩) 1 1] w (aV9 R 53 base w (ins l i x)):=by
 rcases Nat.lt_or_ge i l.length with h|h
 ·obtain⟨g,cap,cur,css,rfl,_⟩:=hown.row hR AO
  have hx':R (fun b=>aB base b∧b≠g) w c x:=hR.less _ _ _ _ _ (fun b _ hs=>⟨hs.1,fun e=>hs.2 (by simp[Value.ownBlock,e])⟩) hx
  by_cases hroom:l.length<cap
  ·exact bY6 hR hone w base l i x g cap vb c T hown h hroom hvb hc (fun e=>hne (by simp[Value.ownBlock,e])) hx'
  ·exact bY7 hR hone w base l i x g cap vb c T hown hb hl h hroom hvb hc hx'
 ·obtain rfl:i=l.length:=by omega
  have e:ins l l.length x=l++[x]:=by simp[ins]
  rw[e]
  exact cD3 hR hone w base v l x vb c T hown hb hl hvb hc hx
theorem bC9 {n base:Nat} {w W:World} {v:Value} {A B:Option Addr} {p:Pr} {c d:Nat} (h1:Bs (aB n) w A p.1) (h2:Bs (aB n) w B p.2) (g1:p.1.length≤big) (g2:p.2.length≤big) (hs:aC (aB n) w W) (hb:base≤n) (hap:∀ b,aB n b→v.ownBlock≠some b) :
  aU2 (fun b=>aB base b∧v.ownBlock≠some b) W [.slice A p.1.length c,.slice B p.2.length d] p :=
 ⟨A,c,B,d,rfl,(h1.bsame hs).bless fun b _ h=>⟨Nat.le_trans hb h,hap b h⟩,(h2.bsame hs).bless fun b _ h=>⟨Nat.le_trans hb h,hap b h⟩,g1,g2⟩
theorem bY8 {p:Pr} (h:aA5 p=0):p.1.length≤big∧p.2.length≤big:=by
 unfold aA5 aE at h
 unfold big
 split at h
 ·simp at h
 ·split at h
  ·omega
  ·simp at h
def aW0 (k:List UInt8) (p:Pr):Bool:=!(p.1==k)
def aS2 (l:List Pr) (k:List UInt8):List Pr × Int:=if aD3 l k≠0 then ([],aD3 l k) else (l.filter (aW0 k),0)
theorem bS9 {P:Program} (w:World) (t e ty:TypeId) (z:Value) (zs:List Value) (ht:P.underlying t=some (.slice e)) (hv:∀ w,(zeroValue e).run P w=.ok z w) (hz:z.cells=zs.toArray) (h1:∀ v ∈ zs,v.oneCell'=true) (b o c:Nat)
  (hc:∀ j,j<zs.length→(w.cell? ⟨b,o+j,none⟩).isSome=true) (hf:∀ j,j<zs.length→w.frozen? ⟨b,o+j,none⟩=false) :
  (Builtin.clear_ #[t] ty #[.slice (some ⟨b,o,none⟩) 1 c]).run P w=.ok (.tuple #[]) (w.setCells b o zs):=by
 have hzc:(Builtin.zeroCells z.cells 1).toList=zs:=by
  rw[hz]
  apply List.ext_getElem
  ·simp[Builtin.zeroCells]
  ·intro i h1 h2
   simp[Builtin.zeroCells,Nat.mod_eq_of_lt h2,List.getElem?_eq_getElem h2]
 have hst:=run_storeCells_cells (P:=P) b o zs 0 w (by simpa using hc) (by simpa using hf) h1
 simp only[Nat.add_zero] at hst
 simp[Builtin.clear_,run_underlying ht,hv,hzc,hst]
theorem bV2 {P:Program} {w:World} {ops:Array Oper} {rest:List Oper} {o:Oper} {a:Act} {Q:Exit→Act→World→Prop} (hgd:o.guard=none) (x:Operand) (t:TypeId)
  (ho:o.op=.call { callee:=.builtin .clear,args:=#[x],argTypes:=#[t] })
  (e:TypeId) (z:Value) (zs:List Value) (ht:P.underlying t=some (.slice e)) (hv:∀ w,(zeroValue e).run P w=.ok z w) (hz:z.cells=zs.toArray) (h1:∀ v ∈ zs,v.oneCell'=true) (b off c:Nat) (hx:a.eval x=.slice (some ⟨b,off,none⟩) 1 c)
  (hc:∀ j,j<zs.length→(w.cell? ⟨b,off+j,none⟩).isSome=true) (hf:∀ j,j<zs.length→w.frozen? ⟨b,off+j,none⟩=false)
  (h:wpList P ops Q rest (a.put o.dst (.tuple #[])) (w.setCells b off zs)):wpList P ops Q (o :: rest) a w :=
 wpList_plain hgd fun _ hK=>by
  have hrun:=bS9 (P:=P) w t e o.type z zs ht hv hz h1 b off c hc hf
  unfold Oper.wp execOp
  simp only[ho,resolve,invoke,builtin,Sem.run_bind,Sem.run_pure,Result.andThen_ok,List.map_toArray,List.map_cons,List.map_nil,hx,hrun]
  exact hK _ _ h
theorem cT0 (w:World):(zeroValue 53).run Tryz.prog w=.ok (.agg #[.slice none 0 0,.slice none 0 0]) w:=by
 obtain⟨i0,hi0,hz0,_,_⟩:=info_parts info_pair
 simp[zeroValue,typeInfo,hi0,hz0]
theorem own_one {S:Nat→Prop} {w:World} {l:List Pr} {xs:List Value} (hl:xs.length=l.length*2) (h:∀ i (h:i<l.length),aU2 S w ((xs.drop (i*2)).take 2) l[i]):∀ u ∈ xs,u.oneCell'=true:=by
 intro u hu
 obtain⟨j,hj,rfl⟩:=List.mem_iff_getElem.1 hu
 obtain⟨A,c,V,d,hcs,_⟩:=h (j / 2) AO
 have hin:xs[j] ∈ (xs.drop (j / 2*2)).take 2:=by
  refine List.mem_iff_getElem?.2 ⟨j % 2,?_⟩
  rw[List.getElem?_take_of_lt AO,List.getElem?_drop,show j / 2*2+j % 2=j by omega,List.getElem?_eq_getElem hj]
 rw[hcs] at hin
 simp only[List.mem_cons,List.not_mem_nil,or_false] at hin
 rcases hin with e|e <;> rw[e] <;> rfl
def cut1 (l:List Pr) (i:Nat):List Pr:=l.take i++l.drop (i+1)
theorem cut1_at (l:List Pr) (i p:Nat) (hi:i<l.length):(cut1 l i)[p]?=if p<i then l[p]? else l[p+1]?:=by
 unfold cut1
 split
 ·rename_i h
  rw[List.getElem?_append_left ZF6,List.getElem?_take_of_lt h]
 ·rw[List.getElem?_append_right ZF6,List.getElem?_drop]
  congr 1
  rw[List.length_take]
  omega
theorem cK2 (w:World) (base:Nat) (v:Value) (l:List Pr) (i:Nat) (hown:Own 2 aU2 (aB base) w base 53 v l) (hi:i<l.length) (hb:base≤w.heap.size) :
  Calls Tryz.prog 167 #[v,.int .i64 i,.int .i64 (i+1)] w (fun e w'=>∃ A c,e=.returned (.slice A (cut1 l i).length c)∧(cut1 l i).length≤c∧Ps (aB base) w' A (cut1 l i)∧Below base w w'):=by
 obtain⟨i0,hi0,hz0,hz1,hz2⟩:=info_parts info_pair
 obtain⟨xs,hrow,hels⟩:=hown
 obtain⟨hxl,hr⟩:=hrow
 rcases hr with ⟨_,h0⟩|⟨g,cap,cur,rfl,hg,hheap,hcap,hmx,hcur,htake⟩
 ·omega
 have hglt:g<w.heap.size:=(Array.getElem?_eq_some_iff.1 hheap).1
 obtain⟨n,hn⟩:∃ n,n=l.length:=⟨_,rfl⟩
 rw[← hn] at hi hxl hcap htake
 have hcell:∀ j,j<2*n→w.cell? ⟨g,j,none⟩=xs[j]?:=by
  intro j hj
  rw[← htake,List.getElem?_take_of_lt AO,Array.getElem?_toList]
  simp[World.cell?,hheap]
 have hfroz:∀ j,w.frozen? ⟨g,j,none⟩=false:=by
  intro j
  simp[World.frozen?,hheap]
 obtain⟨news,hnews⟩:∃ news,news=xs.drop (2*(i+1)):=⟨_,rfl⟩
 have hnl:news.length=(n - (i+1))*2:=by rw[hnews,List.length_drop,hxl];omega
 obtain⟨A,hA,hAc⟩:∃ A,(if cap=i+1 then some (⟨g,0,none⟩:Addr) else some ⟨g,(i+1)*2,none⟩)=some A∧Hid (∀ j u,news[j]?=some u→w.drew.cell? (A.add j)=some u):=by
  by_cases hc:cap=i+1
  ·refine⟨_,by rw[if_pos hc],?_⟩
   intro j u hu
   have:=(List.getElem?_eq_some_iff.1 hu).1
   omega
  ·refine⟨_,by rw[if_neg hc],?_⟩
   intro j u hu
   have hj:=(List.getElem?_eq_some_iff.1 hu).1
   rw[hnews,List.getElem?_drop] at hu
   rw[bC]
   exact (hcell ((i+1)*2+j) AO).trans (by rw[← hu];congr 1;omega)
 have S1:=zh hnl
 have S2:Hid (∀ u ∈ news,u.oneCell'=true):=by
  intro u hu
  rw[hnews] at hu
  exact own_one (by rw[hxl,hn]) hels u (List.mem_of_mem_drop hu)
 have S3:Hid (∀ j,j<news.length→(w.drew.cell? ⟨g,0+i*2+j,none⟩).isSome=true∧w.drew.frozen? ⟨g,0+i*2+j,none⟩=false):=by
  intro j hj
  refine⟨?_,hfroz _⟩
  have:=hcell (i*2+j) AO
  show (w.cell? _).isSome=true
  rw[Nat.zero_add,this,List.getElem?_eq_getElem AO]
  rfl
 have hwr:IntKind.i64.wrap ((i:Int)+1)=(i:Int)+1:=by rw[IntKind.wrap_i64];simp only[maxLen] at hmx;omega
 have hp0:(0:Int)≤(i:Int)+1:=by omega
 have hp1:(i:Int)+1≤(n:Int):=by omega
 have hp2:((i:Int)+1).toNat=i+1:=by omega
 have hp3:((i:Int)==(i:Int)+1)=false:=by simp;omega
 have hic:i≤cap:=by omega
 have Hels:=zh hels
 have Hheap:=zh hheap
 have Hcell:=zh hcell
 have Hfroz:=zh hfroz
 have Htake:=zh htake
 have Hnews:=zh hnews
 have Hmx:=zh hmx
 have Hcur:=zh hcur
 have hcap':n≤cap:=hcap
 clear hels hheap hcell hfroz htake hnews hmx hcur hnl
 rw[← hn]
 have Hn:=zh hn
 clear hn
 go_enter Tryz.func167,Tryz.ntmps167
 go_wp2_with fail
 go_region_law (refine step_append_room rfl (.tmp 22) (.tmp 25) 50 rfl 53 i0 2 Tryz.underlying50 hi0 hz1 g 0 i cap (by simp[Act.eval,Act.put]) A (n - (i+1)) (cap - (i+1)) news (by simp[Act.eval,Act.put];try assumption) S1.out hAc.out S2.out AO S3.out ?_)
 have Hc2:Hid (∀ j,j<[Value.slice none 0 0,Value.slice none 0 0].length→(((w.drew.setCells g (i*2) news)).cell? ⟨g,(i+(n - (i+1)))*2+j,none⟩).isSome=true):=by
  intro j hj
  have hj2:j<2:=hj
  refine World.isSome_setCells g news _ _ _ ?_
  show (w.cell? _).isSome=true
  rw[Hcell.out _ AO,List.getElem?_eq_getElem AO]
  rfl
 have Hf2:Hid (∀ j,j<[Value.slice none 0 0,Value.slice none 0 0].length→(((w.drew.setCells g (i*2) news)).frozen? ⟨g,(i+(n - (i+1)))*2+j,none⟩)=false):=by
  intro j _
  rw[World.frozen?_setCells]
  exact Hfroz.out _
 go_wp2_with (refine bV2 rfl _ _ rfl 53 _ [.slice none 0 0,.slice none 0 0] Tryz.underlying50 cT0 rfl ZE8 g ((i+(n - (i+1)))*2) (cap - (i+(n - (i+1)))) ?hx Hc2.out Hf2.out ?_;(case hx=>simp[Act.eval];omega))
 go_ret
 have hcut:(cut1 l i).length=i+(n - (i+1)):=by unfold cut1;rw[List.length_append,List.length_take,List.length_drop,← Hn.out];omega
 have hbw:Below base w ((w.drew.setCells g (i*2) news).setCells g ((i+(n - (i+1)))*2) [.slice none 0 0,.slice none 0 0]):=aB7 hg _ _ (aB7 hg _ _ (Below.refl _ _).drew)
 rw[hcut]
 refine⟨some ⟨g,0,none⟩,cap,by simp,AO,?_,hbw⟩
 intro hl
 refine⟨g,0,rfl,hg,Nat.lt_of_lt_of_le hglt hbw.size,fun p hp=>?_⟩
 have hpn:p<i+(n - (i+1)):=by rw[← hcut];exact hp
 obtain⟨q,hq,hq'⟩:∃ q,q<n∧((q=p∧p<i)∨(q=p+1∧i≤p)):=by
  by_cases h:p<i
  ·exact⟨p,AO,.inl ⟨rfl,h⟩⟩
  ·exact⟨p+1,AO,.inr ⟨rfl,AO⟩⟩
 have hlq:q<l.length:=by rw[← Hn.out];exact hq
 have hget:(cut1 l i)[p]=l[q]:=by
  have e:=cut1_at l i p (by rw[← Hn.out];exact hi)
  rw[List.getElem?_eq_getElem hp] at e
  rcases hq' with ⟨rfl,h⟩|⟨rfl,h⟩
  ·rw[if_pos h,List.getElem?_eq_getElem hlq] at e
   exact Option.some.inj e
  ·rw[if_neg AO,List.getElem?_eq_getElem hlq] at e
   exact Option.some.inj e
 have hR:=Hels.out q hlq
 have hsame:aC (fun b=>aB base b∧(Value.slice (some ⟨g,0,none⟩) n cap).ownBlock≠some b) w ((w.drew.setCells g (i*2) news).setCells g ((i+(n - (i+1)))*2) [.slice none 0 0,.slice none 0 0]) :=
  aC.setCells (by simp[Value.ownBlock]) _ _ (aC.setCells (by simp[Value.ownBlock]) _ _ (aC.refl _ _).drew)
 refine⟨(xs.drop (q*2)).take 2,by rw[List.length_take,List.length_drop,hxl];omega,fun j hj=>?_,?_⟩
 ·rw[World.cell?_setCells_out g _ _ _ _ (fun _ _=>by left;show 0+p*2+j<_;omega),List.getElem?_take_of_lt hj,List.getElem?_drop]
  rcases hq' with ⟨rfl,h⟩|⟨rfl,h⟩
  ·rw[World.cell?_setCells_out g _ _ _ _ (fun _ _=>by left;show 0+q*2+j<_;omega)]
   show w.cell? _=_
   rw[Hcell.out _ AO]
   congr 1
   omega
  ·have hjn:p*2+j - i*2<news.length:=by rw[S1.out];omega
   have hin:=World.cell?_setCells_in g news (i*2) w.drew (fun k hk=>by rw[← Nat.zero_add (i*2)];exact (S3.out k hk).1) (p*2+j - i*2) hjn
   rw[show 0+p*2+j=i*2+(p*2+j - i*2) by omega,hin,← List.getElem?_eq_getElem hjn,Hnews.out,List.getElem?_drop]
   congr 1
   omega
 ·rw[hget]
  exact pairR_stays.less _ _ _ _ _ (fun b _ hs=>hs.1) (pairR_stays.same _ _ _ _ _ hsame hR)
theorem cK3 {l:List Pr} {k:List UInt8} {i:Nat} (hr:bS (aP l)) (hi:i<l.length) (h:l[i].1=k):l.filter (aW0 k)=cut1 l i:=by
 have hne:∀ j (hj:j<l.length),j≠i→aW0 k l[j]=true:=by
  intro j hj hji
  have:l[j].1≠k:=fun e=>hji (aY0 hr (i:=j) (j:=i) (by simpa [aP] using hj) (by simpa [aP] using hi) (by simp[aP,e,h]))
  simpa [aW0] using this
 have e1:l=l.take i++l[i] :: l.drop (i+1):=by rw[← List.drop_eq_getElem_cons hi,List.take_append_drop]
 have h0:aW0 k l[i]=false:=by simp[aW0,h]
 conv=>lhs;rw[e1]
 rw[List.filter_append,List.filter_cons,if_neg (by simp[h0])]
 unfold cut1
 congr 1
 ·refine List.filter_eq_self.2 fun p hp=>?_
  obtain⟨j,hj,rfl⟩:=List.mem_iff_getElem.1 hp
  rw[List.length_take] at hj
  rw[List.getElem_take]
  exact hne j AO AO
 ·refine List.filter_eq_self.2 fun p hp=>?_
  obtain⟨j,hj,rfl⟩:=List.mem_iff_getElem.1 hp
  rw[List.length_drop] at hj
  rw[List.getElem_drop]
  exact hne _ AO AO
theorem cD4 {l:List Pr} {k:List UInt8} {i:Nat} (hr:bS (aP l)) (hat:At (aP l) k i) (h:(aP l)[i]?≠some k):l.filter (aW0 k)=l:=by
 refine List.filter_eq_self.2 fun p hp=>?_
 obtain⟨j,hj,rfl⟩:=List.mem_iff_getElem.1 hp
 have hjk:j<(aP l).length:=by simpa [aP] using hj
 have hne:l[j].1≠k:=by
  intro e
  have ek:(aP l)[j]=k:=by simp[aP,e]
  rcases (by omega:j<i∨j=i∨i<j) with h1|h1|h1
  ·have:=hat.low j h1 hjk
   rw[ek,lt_irrefl] at this
   cases this
  ·subst h1
   exact h (by rw[List.getElem?_eq_getElem hjk,ek])
  ·have h2:=hat.high i zn AO
   have h3:=hr i j h1 hjk
   rw[ek,h2] at h3
   cases h3
 simpa [aW0] using hne
theorem aD5 (w:World) (A:Option Addr) (l:List Pr) (c:Nat) (K:Option Addr) (k:List UInt8) (c1:Nat) (ha:Ps All w A l) (hk:Bs All w K k) :
  Calls Tryz.prog 104 #[.slice A l.length c,.slice K k.length c1] w (cD0 w (aS2 l k)):=by
 have Ha:=zh ha
 have Hk:=zh hk
 clear ha hk
 by_cases h1:aG l=0
 ·have b1:(aG l != 0)=false:=by simp[h1]
  obtain⟨hl60,_,hrise⟩:=aG5 h1
  have Hr:=zh (show bS (aP l) from hrise)
  have Hl:=zh hl60
  have H1:=zh h1
  clear h1 hrise hl60
  by_cases h2:aE k=0
  ·have b2:(aE k != 0)=false:=by simp[h2]
   have Hv:=zh (show aS2 l k=(l.filter (aW0 k),0) by simp[aS2,aD3,H1.out,h2])
   clear h2
   go_enter Tryz.func104,Tryz.ntmps104
   go_wp2_with (first
    | (go_at_call 92;refine (aB3 _ A l c Ha.out).mono ?_;rintro e w1 ⟨rfl,hb1⟩)
    | (go_at_call 91;refine (aF _ K k c1).mono ?_;rintro e w' ⟨rfl,rfl⟩))
   clear b1 b2
   have Hb1:=zh hb1
   clear hb1
   refine (aX9 _ A l c (Ha.out.below pairR_stays Hb1.out) (by have:=Hl.out;omega)).mono ?_
   rintro e w2 ⟨v,rfl,hown,hb2⟩
   obtain⟨A2,c2,rfl,hc2,hs2⟩:=hown.readc pairR_stays
   have Hown:=zh hown
   have Hs2:=zh hs2
   have Hb12:=zh hb2
   have Hb2:=zh (Hb1.out.next hb2 Hb1.out.size)
   clear hown hs2 hb2
   go_wp2_with fail
   refine (aO7 _ A2 l c2 K k c1 (Hs2.out.z pairR_stays) (Hk.out.bbelow Hb2.out) Hl.out Hr.out).mono ?_
   rintro e w3 ⟨i,rfl,hati,hb3⟩
   have Hb3:=zh (Hb2.out.next hb3 Hb2.out.size)
   have Hown3:=zh (Hown.out.same pairR_stays (aC.of_below hb3))
   have Hs3:=zh (Hs2.out.below pairR_stays hb3)
   have Hsz:=zh hb3.size
   clear hb3
   by_cases hf:(aP l)[i]?=some k
   ·rw[decide_eq_true hf]
    have hik:i<(aP l).length:=by
     rcases Nat.lt_or_ge i (aP l).length with h|h
     ·exact h
     ·rw[List.getElem?_eq_none h] at hf;cases hf
    have hil:i<l.length:=by simpa [aP] using hik
    have hli:l[i].1=k:=by
     rw[List.getElem?_eq_getElem hik,aC3] at hf
     exact Option.some.inj hf
    have Hcut:=zh (cK3 Hr.out hil hli)
    have hl60:=Hl.out
    have hwi:IntKind.i64.wrap ((i:Int)+1)=(i:Int)+1:=by rw[IntKind.wrap_i64];omega
    clear hf hik hli hati
    go_wp2_with fail
    refine (cK2 _ w1.heap.size _ l i Hown3.out hil (Nat.le_trans Hb12.out.size Hsz.out)).mono ?_
    rintro e w4 ⟨A4,c4,rfl,hc4,hs4,hb4⟩
    go_wp2
    go_ret2
    rw[Hv.out,Hcut.out]
    exact⟨A4,c4,rfl,hc4,hs4.lo pairR_stays Hb1.out.size,Hb3.out.trans (hb4.mono Hb1.out.size)⟩
   ·rw[decide_eq_false hf]
    have Hno:=zh (cD4 Hr.out hati hf)
    clear hf hati
    go_wp2
    go_ret2
    rw[Hv.out,Hno.out]
    exact⟨A2,c2,rfl,hc2,Hs3.out.lo pairR_stays Hb1.out.size,Hb3.out⟩
  ·have b2:(aE k != 0)=true:=by simpa using h2
   have Hv:=zh (show aS2 l k=([],aE k) by simp[aS2,aD3,H1.out,h2])
   clear h2
   go_enter Tryz.func104,Tryz.ntmps104
   go_wp2_with (first
    | (go_at_call 92;refine (aB3 _ A l c Ha.out).mono ?_;rintro e w1 ⟨rfl,hb1⟩)
    | (go_at_call 91;refine (aF _ K k c1).mono ?_;rintro e w' ⟨rfl,rfl⟩))
   go_ret2
   rw[Hv.out]
   exact⟨none,0,rfl,zn,SL.nil,hb1⟩
 ·have b1:(aG l != 0)=true:=by simpa using h1
  have Hv:=zh (show aS2 l k=([],aG l) by simp[aS2,aD3,h1])
  clear h1
  go_enter Tryz.func104,Tryz.ntmps104
  go_wp2_with (go_at_call 92;refine (aB3 _ A l c Ha.out).mono ?_;rintro e w1 ⟨rfl,hb1⟩)
  go_ret2
  rw[Hv.out]
  exact⟨none,0,rfl,zn,SL.nil,hb1⟩
theorem aH4 (w:World) (A:Option Addr) (l:List Pr) (c:Nat) (P Q:Option Addr) (p:Pr) (pc pd:Nat) (ha:Ps All w A l) (hp1:Bs All w P p.1) (hp2:Bs All w Q p.2) :
  Calls Tryz.prog 105 #[.slice A l.length c,.agg #[.slice P p.1.length pc,.slice Q p.2.length pd]] w (cD0 w (aK0 l p)):=by
 have Ha:=zh ha
 have Hp1:=zh hp1
 have Hp2:=zh hp2
 clear ha hp1 hp2
 by_cases h1:aG l=0
 ·have b1:(aG l != 0)=false:=by simp[h1]
  obtain⟨hl60,_,hrise⟩:=aG5 h1
  have Hr:=zh (show bS (aP l) from hrise)
  have Hl:=zh hl60
  have H1:=zh h1
  clear h1 hrise
  by_cases h2:aA5 p=0
  ·have b2:(aA5 p != 0)=false:=by simp[h2]
   have Hpp:=zh (show aJ9 l p=0 by simp[aJ9,H1.out,h2])
   have Hpb:=zh (bY8 h2)
   clear h2
   go_enter Tryz.func105,Tryz.ntmps105
   go_wp2_with (first
    | (go_at_call 92;refine (aB3 _ A l c (Ha.out.below pairR_stays ?_)).mono ?_;(all_goals try exact BE);rintro e w2 ⟨rfl,hb2⟩;have hg0:w2.cell? ⟨w.heap.size,0,none⟩=some (.slice P p.1.length pc):=(hb2.cell AU).trans ZH2;have hg1:w2.cell? ⟨w.heap.size,1,none⟩=some (.slice Q p.2.length pd):=(hb2.cell AU).trans ZH2)
    | (go_at_call 153;refine (aL8 _ P Q p pc pd).mono ?_;rintro e w1 ⟨rfl,hb1⟩))
   clear b1 b2
   have hbox:w2.heap[w.heap.size]?=some (.cells #[.slice P p.1.length pc,.slice Q p.2.length pd] 53 (0,0)):=(hb2.block w.heap.size AU).trans (aK w _ _)
   have hz2':w.heap.size+1≤w2.heap.size:=by have:=hb2.size;simpa using this
   have hb02:Below w.heap.size w w2:=((Below.refl w.heap.size w).alloc zn _).next hb2 AU
   have hz1':w2.heap.size≤w1.heap.size:=hb1.size
   have hb01:Below w.heap.size w w1:=hb02.next hb1 AO
   have hbox1:w1.heap[w.heap.size]?=some (.cells #[.slice P p.1.length pc,.slice Q p.2.length pd] 53 (0,0)):=(hb1.block w.heap.size AO).trans hbox
   have Hbox:=zh hbox1
   have Hb1:=zh hb01
   have hzb:w.heap.size<w1.heap.size:=by omega
   clear hbox hbox1 hb02 hb01 hb1 hb2 hz1' hz2' hg0 hg1
   refine (aX9 _ A l c (Ha.out.below pairR_stays Hb1.out) AO).mono ?_
   rintro e w3 ⟨v,rfl,hown,hb3⟩
   obtain⟨A2,c2,rfl,hc2,hs2⟩:=hown.readc pairR_stays
   have Hown:=zh hown
   have Hs2:=zh hs2
   have Hb13:=zh hb3
   have Hb3:=zh (Hb1.out.next hb3 Hb1.out.size)
   obtain⟨g0,g1,_,_⟩:=bF ((hb3.block _ hzb).trans Hbox.out)
   clear hown hs2 hb3
   go_wp2_with fail
   refine (aO7 _ A2 l c2 P p.1 pc (Hs2.out.z pairR_stays) (Hp1.out.bbelow Hb3.out) Hl.out Hr.out).mono ?_
   rintro e w4 ⟨i,rfl,hati,hb4⟩
   have Hb14:=zh (Hb13.out.next hb4 Hb13.out.size)
   have Hb4:=zh (Hb3.out.next hb4 Hb3.out.size)
   have Hown4:=zh (Hown.out.below pairR_stays hb4)
   obtain⟨g0,g1,_,_⟩:=bF ((Hb14.out.block _ hzb).trans Hbox.out)
   have hz14:=Hb14.out.size
   clear hb4
   by_cases hf:(aP l)[i]?=some p.1
   ·rw[decide_eq_true hf]
    have hik:i<(aP l).length:=by
     rcases Nat.lt_or_ge i (aP l).length with h|h
     ·exact h
     ·rw[List.getElem?_eq_none h] at hf;cases hf
    have hil:i<l.length:=by simpa [aP] using hik
    have hli:l[i].1=p.1:=by
     rw[List.getElem?_eq_getElem hik,aC3] at hf
     exact Option.some.inj hf
    have Hset:=zh (bC8 Hr.out hil hli)
    have Hv:=zh (show aK0 l p=(l.set i p,0) by
     simp only[aK0,Hpp.out,Hset.out]
     rw[if_neg ZH2,if_neg (by rw[List.length_set];omega)])
    obtain⟨g,cap,cur,css,hvv,hge,hglt,hh,hcap,hmx,hcur,_⟩:=Hown4.out.row pairR_stays AO
    cases hvv
    have Hfacts:=zh (show ∀ W,Below w4.heap.size w4 W→(∃ u,W.cell? ⟨g,i*2,none⟩=some u)∧(∃ u,W.cell? ⟨g,i*2+1,none⟩=some u)∧W.frozen? ⟨g,i*2,none⟩=false∧W.frozen? ⟨g,i*2+1,none⟩=false from fun W hW=>by
     have hh':=(hW.block g hglt).trans hh
     have hc:∀ j,j<c2*2→∃ u,W.cell? ⟨g,j,none⟩=some u:=fun j hj=>by
      refine⟨cur[j]'(by omega),?_⟩
      rw[cell_of_row W g j cur _ _ hh',Array.getElem?_eq_getElem]
     exact⟨hc _ AO,hc _ AO,frozen_of_row W g _ cur _ hh',frozen_of_row W g _ cur _ hh'⟩)
    have hi1:(i:Int)<(l.length:Int):=by omega
    clear hf hik hli hati hh hcur hmx
    go_wp2_with (go_at_call 158;refine (bC7 _ P Q p pc pd (Hp1.out.bbelow Hb4.out) (Hp2.out.bbelow Hb4.out) Hpb.out.1 Hpb.out.2).mono ?_;rintro e w5 ⟨A5,c5,B5,d5,rfl,gs1,gs2,hb5⟩;obtain⟨⟨u1,hu1⟩,⟨u2,hu2⟩,hf1,hf2⟩:=Hfacts.out w5 hb5)
    go_ret2
    have hown6:=(Hown4.out.below pairR_stays hb5).put pairR_stays hil (c:=[.slice A5 p.1.length c5,.slice B5 p.2.length d5]) rfl (x:=p)
     ⟨A5,c5,B5,d5,rfl,gs1.bless (fun b _ h=>⟨by have h':=h;simp only[aB] at h' ⊢;omega,by have h':=h;simp only[aB] at h';omega⟩),gs2.bless (fun b _ h=>⟨by have h':=h;simp only[aB] at h' ⊢;omega,by have h':=h;simp only[aB] at h';omega⟩),Hpb.out.1,Hpb.out.2⟩
    have hl':(l.set i p).length=l.length:=List.length_set
    rw[← hl'] at hown6
    obtain⟨A6,c6,he6,hc6,hs6⟩:=hown6.readc pairR_stays
    rw[Hv.out]
    cases he6
    refine⟨some ⟨g,0,none⟩,c2,by simp,hc6,hs6.lo pairR_stays AO,?_⟩
    ·exact Below.setCell (Below.setCell (Hb4.out.next hb5 AO) ZC5 _) ZC5 _
   ·rw[decide_eq_false hf]
    have Hins:=zh (aV8 Hr.out hati hf)
    have hil:i≤l.length:=by have:=hati.le;simpa [aP] using this
    by_cases hfull:l.length=60
    ·have Hv:=zh (show aK0 l p=([],11) by
      simp only[aK0,Hpp.out,Hins.out]
      rw[if_neg ZH2,if_pos (by rw[aS4];omega)])
     have b3:((l.length:Int)==60)=true:=by simp;omega
     clear hf hati hfull
     go_wp2
     go_ret2
     rw[Hv.out]
     exact⟨none,0,rfl,zn,SL.nil,Hb4.out⟩
    ·have Hv:=zh (show aK0 l p=(ins l i p,0) by
      simp only[aK0,Hpp.out,Hins.out]
      rw[if_neg ZH2,if_neg (by rw[aS4];omega)])
     have b3:((l.length:Int)==60)=false:=by simp;omega
     clear hf hati hfull
     go_wp2_with (go_at_call 158;refine (bC7 _ P Q p pc pd (Hp1.out.bbelow Hb4.out) (Hp2.out.bbelow Hb4.out) Hpb.out.1 Hpb.out.2).mono ?_;rintro e w5 ⟨A5,c5,B5,d5,rfl,gs1,gs2,hb5⟩;have hz5:=hb5.size)
     have hown5:=(Hown4.out.below pairR_stays hb5).below pairR_stays ((Below.refl w5.heap.size w5).alloc zn (.cells #[.slice A5 p.1.length c5,.slice B5 p.2.length d5] 53))
     have hap5:∀ b,aB w4.heap.size b→(Value.slice A2 l.length c2).ownBlock≠some b:=Hown4.out.apart _ zn
     refine (cK1 pairR_stays pairR_one _ w1.heap.size (.slice A2 l.length c2) l i p w5.heap.size [.slice A5 p.1.length c5,.slice B5 p.2.length d5] 53 hown5 hil ZC8 AO (aK w5 _ _) (hap5 _ (by simp only[aB];omega)) rfl ?_).mono ?_
     ·exact bC9 (n:=w4.heap.size) gs1 gs2 Hpb.out.1 Hpb.out.2 ((aC.refl _ _).alloc _) AO hap5
     ·rintro e w6 ⟨v6,rfl,hown6,hb6⟩
      obtain⟨A6,c6,rfl,hc6,hs6⟩:=hown6.readc pairR_stays
      have Hs6:=zh hs6
      clear hs6 hown6 hown5
      go_wp2
      go_ret2
      rw[Hv.out]
      exact⟨A6,c6,rfl,hc6,Hs6.out.lo pairR_stays AO,((Hb4.out.next hb5 AO).alloc AO _).trans (hb6.mono AO)⟩
  ·have b2:(aA5 p != 0)=true:=by simpa using h2
   have Hv:=zh (show aK0 l p=([],aA5 p) by simp[aK0,aJ9,H1.out,h2])
   clear h2
   go_enter Tryz.func105,Tryz.ntmps105
   go_wp2_with (first
    | (go_at_call 92;refine (aB3 _ A l c (Ha.out.below pairR_stays ?_)).mono ?_;(all_goals try exact BE);rintro e w2 ⟨rfl,hb2⟩;have hg0:w2.cell? ⟨w.heap.size,0,none⟩=some (.slice P p.1.length pc):=(hb2.cell AU).trans ZH2;have hg1:w2.cell? ⟨w.heap.size,1,none⟩=some (.slice Q p.2.length pd):=(hb2.cell AU).trans ZH2)
    | (go_at_call 153;refine (aL8 _ P Q p pc pd).mono ?_;rintro e w1 ⟨rfl,hb1⟩))
   go_ret2
   rw[Hv.out]
   exact⟨none,0,rfl,zn,SL.nil,(((Below.refl w.heap.size w).alloc zn _).next hb2 AU).next hb1 (by have hz:=hb2.size;simp at hz;omega)⟩
 ·have b2:(aG l != 0)=true:=by simpa using h1
  have Hv:=zh (show aK0 l p=([],aG l) by simp[aK0,aJ9,h1])
  clear h1
  go_enter Tryz.func105,Tryz.ntmps105
  go_wp2_with (go_at_call 92;refine (aB3 _ A l c (Ha.out.below pairR_stays ?_)).mono ?_;(all_goals try exact BE);rintro e w2 ⟨rfl,hb2⟩)
  go_ret2
  rw[Hv.out]
  exact⟨none,0,rfl,zn,SL.nil,((Below.refl w.heap.size w).alloc zn _).next hb2 AU⟩
end Go.Proofs.YtablgnacmpcfeaaGreatDoor
