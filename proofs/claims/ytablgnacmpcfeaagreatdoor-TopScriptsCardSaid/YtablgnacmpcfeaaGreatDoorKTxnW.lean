/- TxnW: Walks: txn.Note and Noted; the law TxnNotes. Walks: WrittenTo and txn.Write. The conditions of each are in its words. -/
import Derived.Test.YtablgnacmpcfeaaGreatDoorKTxnF
namespace Go.Proofs.YtablgnacmpcfeaaGreatDoor
open Go.RowKit
set_option linter.unusedVariables false
set_option linter.unusedSimpArgs false
set_option maxRecDepth 100000
set_option maxHeartbeats 8000000
def zeroTx:Tx:=⟨0,[],[]⟩
def aH7 (t:Tx) (r:Wr):Tx × Int :=
 if aN t≠0 then (zeroTx,aN t) else if aA4 r≠0 then (zeroTx,aA4 r) else if t.reads.any (fun x=>aC7 x r)=true then (t,0) else if t.reads.length=20 then (zeroTx,11) else (⟨t.start,t.reads++[r],t.writes⟩,0)
def bO3 (w:World) (r:Tx × Int) (e:Ending) (w':World):Prop :=
 ∃ A n B m,e=.returned (.tuple #[.agg #[.int .i64 r.1.start,.slice A r.1.reads.length n,.slice B r.1.writes.length m],.int .i64 r.2])∧r.1.reads.length≤n∧r.1.writes.length≤m∧Ws (aB w.heap.size) w' A r.1.reads∧Ws (aB w.heap.size) w' B r.1.writes∧Below w.heap.size w w'
theorem bV8 {n:Nat} {S:Nat→Prop} {w W:World} {v:Value} {A B C:Option Addr} {x:Wr} {a b c:Nat} (h1:Bs (aB n) w A x.name) (h2:Bs (aB n) w B x.key) (h3:Bs (aB n) w C x.value) (g1:x.name.length≤big) (g2:x.key.length≤big) (g3:x.value.length≤big) (hs:aC (aB n) w W) (hS:∀ b,aB n b→S b∧v.ownBlock≠some b) :
  WrR (fun b=>S b∧v.ownBlock≠some b) W [.slice A x.name.length a,.slice B x.key.length b,.bool x.flag,.slice C x.value.length c] x :=
 ⟨A,a,B,b,C,c,rfl,(h1.bsame hs).bless fun b _ h=>hS b h,(h2.bsame hs).bless fun b _ h=>hS b h,(h3.bsame hs).bless fun b _ h=>hS b h,g1,g2,g3⟩
theorem bH3 {P:Program} {α:Type} {R:(Nat→Prop)→World→List Value→α→Prop} (hR:bI R) {S:Nat→Prop} (w:World) {ops:Array Oper} {rest:List Oper} {o:Oper} {a:Act} {Q:Exit→Act→World→Prop} (hgd:o.guard=none) (s x:Operand) (t:TypeId)
  (ho:o.op=.call { callee:=.builtin .append,args:=#[s,x],argTypes:=#[t,t] })
  (base:Nat) (e:TypeId) (i:TypeInfo) (z:Value) (size bytes:Nat) (ht:P.underlying t=some (.slice e)) (hi:P.info? e=some i) (hz:i.zero=some z)
  (hsize:i.size=size) (hby:i.bytes=bytes) (hzs:z.cells.size=size) (hsz:0<size)
  (v:Value) (l:List α) (hs:a.eval s=v) (hown:Own size R S w base e v l)
  (A:Option Addr) (c:Nat) (cs:List Value) (hx:a.eval x=.slice A 1 c) (hl:cs.length=size) (hsrc:∃ ad,A=some ad∧∀ j u,cs[j]?=some u→w.cell? (ad.add j)=some u) (h1:∀ u ∈ cs,u.oneCell'=true)
  (h63:l.length+1≤maxLen) (hbytes:(l.length+1)*bytes≤140737488355328) (hbase:base≤w.heap.size)
  (d:α) (hd:R (fun b=>S b∧v.ownBlock≠some b) w cs d)
  (h:∀ v' w',Own size R S w' base e v' (l++[d])→Below base w w'→w.grownBy w' v.ownBlock→(v'.ownBlock=v.ownBlock∨v'.ownBlock=some w.heap.size)→wpList P ops Q rest (a.put o.dst v') w'):wpList P ops Q (o :: rest) a w:=by
 obtain⟨xs,hx1,hx2⟩:=hown
 exact aC0 w hgd s x t ho base e i z size bytes ht hi hz hsize hby hzs hsz v l.length xs hs hx1 A 1 c cs hx AO (fun _=>hsrc) h1 h63 hbytes hbase
  fun v' w' g1 g2 g3=>h v' w' (Own.snoc hR hx2 hx1 g1 g2 g3 hd hl) (aA6 hx1 g2 hbase) g2 g3
theorem aW5 {P:Program} {α:Type} {R:(Nat→Prop)→World→List Value→α→Prop} (hR:bI R) {S:Nat→Prop} (w:World) {ops:Array Oper} {o:Oper} {a:Act} {K:Act→World→Prop} {Q:Exit→Act→World→Prop} {E:Prop} (hgd:o.guard=none) (s x:Operand) (t:TypeId)
  (ho:o.op=.call { callee:=.builtin .append,args:=#[s,x],argTypes:=#[t,t] })
  (base:Nat) (e:TypeId) (i:TypeInfo) (z:Value) (size bytes:Nat) (ht:P.underlying t=some (.slice e)) (hi:P.info? e=some i) (hz:i.zero=some z)
  (hsize:i.size=size) (hby:i.bytes=bytes) (hzs:z.cells.size=size) (hsz:0<size)
  (v:Value) (l:List α) (hs:a.eval s=v) (hown:Own size R S w base e v l)
  (A:Option Addr) (c:Nat) (cs:List Value) (hx:a.eval x=.slice A 1 c) (hl:cs.length=size) (hsrc:∃ ad,A=some ad∧∀ j u,cs[j]?=some u→w.cell? (ad.add j)=some u) (h1:∀ u ∈ cs,u.oneCell'=true)
  (h63:l.length+1≤maxLen) (hbytes:(l.length+1)*bytes≤140737488355328) (hbase:base≤w.heap.size)
  (d:α) (hd:R (fun b=>S b∧v.ownBlock≠some b) w cs d)
  (h:∀ v' w',Own size R S w' base e v' (l++[d])→Below base w w'→w.grownBy w' v.ownBlock→(v'.ownBlock=v.ownBlock∨v'.ownBlock=some w.heap.size)→K (a.put o.dst v') w'):if Region.wanted o (yielded ops a.tmps)=true then Oper.wp P o a w K Q else E:=by
 have hw:Region.wanted o (yielded ops a.tmps)=true:=by simp[Region.wanted,hgd]
 rw[if_pos hw]
 obtain⟨xs,hx1,hx2⟩:=hown
 exact cJ7 w s x t ho base e i z size bytes ht hi hz hsize hby hzs hsz v l.length xs hs hx1 A 1 c cs hx AO (fun _=>hsrc) h1 h63 hbytes hbase
  fun v' w' g1 g2 g3=>h v' w' (Own.snoc hR hx2 hx1 g1 g2 g3 hd hl) (aA6 hx1 g2 hbase) g2 g3
theorem bH4 {t:Tx} (h:aN t=0):t.reads.length≤20∧t.writes.length≤10:=by
 unfold aN at h
 split at h
 ·cases h
 ·split at h
  ·cases h
  ·omega
theorem note_app (w:World) (A B:Option Addr) (t:Tx) (n m:Nat) (P Q V:Option Addr) (r:Wr) (p q v:Nat) (ha:Ws All w A t.reads) (hb:Ws All w B t.writes) (hp:Bs All w P r.name) (hq:Bs All w Q r.key) (hv:Bs All w V r.value) (h1:r.name.length≤big) (h2:r.key.length≤big) (h3:r.value.length≤big) (hcn:t.reads.length≤n) (hcm:t.writes.length≤m)
  (g1:aN t=0) (g2:aA4 r=0) (g3:t.reads.any (fun x=>aC7 x r)=false) (g4:¬ t.reads.length=20) :
  Calls Tryz.prog 230 #[.agg #[.int .i64 t.start,.slice A t.reads.length n,.slice B t.writes.length m],.agg #[.slice P r.name.length p,.slice Q r.key.length q,.bool r.flag,.slice V r.value.length v]] w (bO3 w (aH7 t r)):=by
 have Ha:=zh ha
 have Hb:=zh hb
 have Hp:=zh hp
 have Hq:=zh hq
 have Hv:=zh hv
 clear ha hb hp hq hv
 obtain⟨hx,hy,hz,hsz,hbl⟩:=cK6 w (.cells #[.int .i64 t.start,.slice A t.reads.length n,.slice B t.writes.length m] 98) (.cells #[.slice P r.name.length p,.slice Q r.key.length q,.bool r.flag,.slice V r.value.length v] 204) (.cells #[.int .i64 0,.slice none 0 0,.slice none 0 0] 98)
 have Hx:=zh hx
 have Hy:=zh hy
 have Hz:=zh hz
 have Hbl:=zh hbl
 have Hsz:=zh hsz
 clear hx hy hz hbl hsz
 obtain⟨i0,hi0,hz0,hz1,hz2⟩:=info_parts info_rd
 have b1:(aN t==0)=true:=by simp[g1]
 have b1':(aN t != 0)=false:=by simp[g1]
 obtain⟨h20,h10⟩:=bH4 g1
 have b2':(aA4 r != 0)=false:=by simp[g2]
 have hbig:t.reads.length≤big:=by unfold big;omega
 have hr80:t.reads.length*80≤140737488355328:=by omega
 have hw80:t.writes.length*80≤140737488355328:=by omega
 have Hv0:=zh (show aH7 t r=(⟨t.start,t.reads++[r],t.writes⟩,0) by unfold aH7;rw[if_neg (by simpa using g1),if_neg (by simpa using g2),if_neg (by rw[g3];decide),if_neg g4])
 have b3:((t.reads.length:Int)==20)=false:=by rw[beq_eq_false_iff_ne];omega
 have Hany:=zh g3
 clear g1 g2 g3
 go_enter Tryz.func230,Tryz.ntmps230
 go_wp2_with (first
  | (go_at_call 63;refine (aD2 _ A B t n m (Ha.out.below wrR_stays Hbl.out) (Hb.out.below wrR_stays Hbl.out) hcn hcm).mono ?_;rintro e w1 ⟨rfl,hb1⟩;have hzz:=Hsz.out;have hs1:w.heap.size+3≤w1.heap.size:=ZE4;have Hx1:=zh ((hb1.block w.heap.size ZE0).trans Hx.out);have Hy1:=zh ((hb1.block (w.heap.size+1) ZE0).trans Hy.out);have Hz1:=zh ((hb1.block (w.heap.size+2) ZE0).trans Hz.out);have Hw1:=zh (Hbl.out.next hb1 ZE0);obtain⟨x0,x1,x2,_⟩:=aY Hx1.out;obtain⟨y0,y1,y2,y3,_⟩:=bG Hy1.out;obtain⟨z0,z1,z2,z3,z4,z5⟩:=aY Hz1.out;clear hzz hb1)
  | (go_at_call 108;refine (aR4 _ P Q V r p q v).mono ?_;rintro e w2 ⟨rfl,hb2⟩;have hs2:=hb2.size;have Hx2:=zh ((hb2.block w.heap.size AO).trans Hx1.out);have Hy2:=zh ((hb2.block (w.heap.size+1) AO).trans Hy1.out);have Hz2:=zh ((hb2.block (w.heap.size+2) AO).trans Hz1.out);have Hw2:=zh (Hw1.out.next hb2 AO);clear x0 x1 x2 y0 y1 y2 y3 z0 z1 z2 z3 z4 z5;obtain⟨x0,x1,x2,_⟩:=aY Hx2.out;obtain⟨y0,y1,y2,y3,_⟩:=bG Hy2.out;obtain⟨z0,z1,z2,z3,z4,z5⟩:=aY Hz2.out;clear hb2)
  | (go_at_call 65;refine (aN1 _ A B t n m (Ha.out.below wrR_stays Hw2.out) (Hb.out.below wrR_stays Hw2.out) hr80 hw80).mono ?_;rintro e w3 ⟨A3,n3,B3,m3,rfl,ho3,hb3⟩;have hs3:=hb3.size;have Hx3:=zh ((hb3.block w.heap.size AO).trans Hx2.out);have Hy3:=zh ((hb3.block (w.heap.size+1) AO).trans Hy2.out);have Hz3:=zh ((hb3.block (w.heap.size+2) AO).trans Hz2.out);have Hw3:=zh (Hw2.out.next hb3 AO);have Ho3:=zh ho3;clear x0 x1 x2 y0 y1 y2 y3 z0 z1 z2 z3 z4 z5 ho3 hb3;obtain⟨x0,x1,x2,_⟩:=aY Hx3.out;obtain⟨y0,y1,y2,y3,_⟩:=bG Hy3.out;obtain⟨z0,z1,z2,z3,z4,z5⟩:=aY Hz3.out;have hs3a:w.heap.size+2<w3.heap.size:=AO;have hs3c:w.heap.size<w3.heap.size:=AO;have hs3d:w.heap.size+1<w3.heap.size:=AO)
  | (go_at_call 109;refine (bN9 _ A t.reads n (w.heap.size+1) P Q V r p q v ((Ha.out.below wrR_stays Hw3.out).below wrR_stays ((Below.refl _ _).alloc zn _)) hbig ((Hp.out.bbelow Hw3.out).bbelow ((Below.refl _ _).alloc zn _)) ((Hq.out.bbelow Hw3.out).bbelow ((Below.refl _ _).alloc zn _)) ((Hv.out.bbelow Hw3.out).bbelow ((Below.refl _ _).alloc zn _)) ((heap_alloc_old _ _ AO).trans Hy3.out)).mono ?_;rintro e w5 ⟨rfl,hb5⟩;rw[Hany.out];have hs5:w3.heap.size+1≤w5.heap.size:=(by have hq1:=hb5.size;simp at hq1;omega);have hb35:Below w3.heap.size w3 w5:=((Below.refl _ _).alloc zn _).next hb5 ZH2;have Hb35:=zh hb35;have Hx5:=zh ((hb35.block _ AO).trans Hx3.out);have Hy5:=zh ((hb35.block (w.heap.size+1) AO).trans Hy3.out);have Hz5:=zh ((hb35.block (w.heap.size+2) AO).trans Hz3.out);have Hu5:=zh ((hb5.block w3.heap.size ZH2).trans (aK w3 _ _));have Hw5:=zh (Hw3.out.next hb35 AO);clear hb5 hb35 x0 x1 x2 y0 y1 y2 y3 z0 z1 z2 z3 z4 z5;obtain⟨x0,x1,x2,_⟩:=aY Hx5.out;obtain⟨y0,y1,y2,y3,_⟩:=bG Hy5.out;obtain⟨z0,z1,z2,z3,z4,z5⟩:=aY Hz5.out;obtain⟨o0,o1,o2,o3,o4,o5⟩:=aY Hu5.out;have hs5a:w.heap.size+2<w5.heap.size:=AO;have hs5b:w3.heap.size<w5.heap.size:=AO;have hs5c:w.heap.size<w5.heap.size:=AO;have hs5d:w.heap.size+1<w5.heap.size:=AO))
 have hlA:=Ho3.out.2.2.1.blt
 have hlB:=Ho3.out.2.2.2.1.blt
 have hab:=Ho3.out.2.2.2.2
 clear b1 b1' b2' b3 x0 x1 x2
 go_region_law (first
  | (go_simp;go_at_call 114;(with_reducible refine (bD1 _ P Q V r p q v ?h1 ?h2 ?h3 h1 h2 h3).mono ?_);(case h1=>exact (Hp.out.bbelow Hw5.out).bsame SM);(case h2=>exact (Hq.out.bbelow Hw5.out).bsame SM);(case h3=>exact (Hv.out.bbelow Hw5.out).bsame SM);rintro e w6 ⟨P6,p6,Q6,q6,V6,v6,rfl,gs1,gs2,gs3,hb6⟩;have hb56:Below w5.heap.size w5 w6:=(Below.refl _ _).drew.next hb6 ZH2;have hs6:=hb56.size;have Hu6:=zh ((hb56.block w3.heap.size hs5b).trans Hu5.out);have Hz6:=zh ((hb56.block (w.heap.size+2) hs5a).trans Hz5.out);have Hb36:=zh (Hb35.out.next hb56 AO);obtain⟨e0,e1,e2,_⟩:=aY Hu6.out;have ho6:w3.heap.size<w6.heap.size:=AO;have Hw6:=zh (Hw5.out.next hb56 AO);obtain⟨f0,f1,f2,f3,_⟩:=bG ((hb56.block (w.heap.size+1) hs5d).trans Hy5.out))
  | (refine aW5 wrR_stays (S:=fun b=>(aB w2.heap.size b∧blk B3≠some b)∧b≠w3.heap.size) _ rfl (.tmp 24) (.tmp 27) _ rfl w2.heap.size 204 i0 _ 4 80 Tryz.underlying96 hi0 hz0 hz1 hz2 rfl ZD9 (.slice A3 t.reads.length n3) t.reads ?hs ?hown (some ⟨w6.heap.size,0,none⟩) 1 [.slice P6 r.name.length p6,.slice Q6 r.key.length q6,.bool r.flag,.slice V6 r.value.length v6] ?hx rfl (aE6 w6 w6.heap.size [.slice P6 r.name.length p6,.slice Q6 r.key.length q6,.bool r.flag,.slice V6 r.value.length v6] _ rfl) ZE8 ?hm ?hby ?hba r ?hd ?_;(case hs=>(simp[Act.eval,Act.put]));(case hx=>(simp[Act.eval,Act.put]));(case hown=>exact Ho3.out.2.2.1.keep wrR_stays (T:=fun b=>b<w3.heap.size) (aC.of_lt (Hb36.out.alloc AO _) (fun k h=>h)) (fun b hb _=>hb) (fun b hb=>(hlA b (by rw[aC5] at hb;exact hb)).2) (fun b hb h=>⟨h,AO⟩) zn);(case hm=>(simp only[maxLen];omega));(case hby=>omega);(case hba=>(simp;omega));(case hd=>(refine bV8 (n:=w5.heap.size) (gs1.blo ZH2) (gs2.blo ZH2) (gs3.blo ZH2) h1 h2 h3 ?_ (fun b hb=>⟨⟨⟨by have hb':w5.heap.size≤b:=hb;show w2.heap.size≤b;omega,fun h=>by have hb':w5.heap.size≤b:=hb;have:=hlB b h;omega⟩,by have hb':w5.heap.size≤b:=hb;omega⟩,fun h=>by have hb':w5.heap.size≤b:=hb;rw[aC5] at h;have:=hlA b h;omega⟩);exact SM));intro v8 w8 hown8 hbw8 hgr8 hat8;obtain⟨A8,c8,rfl,hcap8,_⟩:∃ A c,v8=.slice A (t.reads++[r]).length c∧(t.reads++[r]).length≤c∧True:=(by obtain⟨xs,hk1,_⟩:=hown8;rcases hk1.2 with ⟨hn,h0⟩|⟨g,cap,cur,hv,_,_,hcap,_⟩;(simp at h0);exact⟨_,cap,hv,hcap,trivial⟩);have Hown8:=zh hown8;clear hown8;have hbx8:w8.heap[w3.heap.size]?=some (.cells #[.int .i64 t.start,.slice A3 t.reads.length n3,.slice B3 t.writes.length m3] 98 (0,0)):=(hgr8.block w3.heap.size ZC8 (fun e=>by rw[aC5] at e;have:=hlA _ e.symm;omega)).trans ((heap_alloc_old _ _ ho6).trans Hu6.out);obtain⟨ge0,ge1,ge2,ge3,ge4,ge5⟩:=aY hbx8;obtain⟨k0,k1,k2,k3,k4,k5⟩:=aY ((hbw8.block (w.heap.size+2) AO).trans ((heap_alloc_old _ _ AO).trans Hz6.out));have hs8:=hgr8.size;simp at hs8;have hs8':w.heap.size+2<w8.heap.size:=AO;have hs8'':w3.heap.size<w8.heap.size:=AO;have hs8n:¬ w3.heap.size=w.heap.size+2:=AO;have hs8m:¬ w.heap.size+2=w3.heap.size:=AO))
 all_goals
  go_wp2
  have hl8:(t.reads++[r]).length=t.reads.length+1:=by simp
  refine bodyPost_ret (v:=.tuple #[.agg #[.int .i64 t.start,.slice A8 (t.reads++[r]).length c8,.slice B3 t.writes.length m3],.int .i64 0]) (by simp[results,Tryz.results230,go_sem,k0,k1,k2,hs8n,hs8m]) rfl ?_
  rw[Hv0.out]
  have hlt8:=Hown8.out.blt
  have hat8':∀ b,blk A8=some b→blk A3=some b∨w5.heap.size≤b:=fun b hb=>by
   rw[aC5,aC5,hb] at hat8
   rcases hat8 with h|h
   ·exact .inl h.symm
   ·simp at h
    exact .inr AO
  refine⟨A8,c8,B3,m3,rfl,hcap8,Ho3.out.2.1,?_,?_,?_⟩
  ·have hS:∀ b,w2.heap.size≤b→blk A8=some b→(aB w2.heap.size b∧blk B3≠some b)∧b≠w3.heap.size:=fun b hb hA=>by
    rcases hat8' b hA with h|h
    ·exact⟨⟨hb,hab b h⟩,by have:=hlA b h;omega⟩
    ·exact⟨⟨hb,fun hB=>by have:=hlB b hB;omega⟩,AO⟩
   refine ((Hown8.out.sl wrR_stays hS).same wrR_stays ?_).less wrR_stays fun b _ h=>by have h':w2.heap.size≤b:=h.1.1;show w.heap.size≤b;omega
   exact ZB1
  ·have h7:Ws (fun b=>(aB w2.heap.size b∧blk A3≠some b)∧b<w3.heap.size) w3 B3 t.writes:=Ho3.out.writes.less wrR_stays fun b hb h=>⟨h,hb⟩
   refine (h7.same wrR_stays ?_).less wrR_stays fun b _ h=>by have h':w2.heap.size≤b:=h.1.1;show w.heap.size≤b;omega
   exact ((((((aC.of_below Hb36.out).alloc _).grown hgr8 (fun k hk hs=>hs.1.2 (by rw[aC5] at hk;exact hk))).setCell (fun h=>by have h':=h.2;simp only[] at h';omega) _).setCell ZD4 _).setCell ZD4 _).setCell ZD4 _
  ·exact (((((Hw6.out.alloc AO _).trans (hbw8.mono AO)).setCell ZC5 _).setCell ZC5 _).setCell ZC5 _).setCell ZC5 _
theorem cQ8 (w:World) (A B:Option Addr) (t:Tx) (n m:Nat) (P Q V:Option Addr) (r:Wr) (p q v:Nat) (ha:Ws All w A t.reads) (hb:Ws All w B t.writes) (hp:Bs All w P r.name) (hq:Bs All w Q r.key) (hv:Bs All w V r.value) (h1:r.name.length≤big) (h2:r.key.length≤big) (h3:r.value.length≤big) (hcn:t.reads.length≤n) (hcm:t.writes.length≤m) :
  Calls Tryz.prog 230 #[.agg #[.int .i64 t.start,.slice A t.reads.length n,.slice B t.writes.length m],.agg #[.slice P r.name.length p,.slice Q r.key.length q,.bool r.flag,.slice V r.value.length v]] w (bO3 w (aH7 t r)):=by
 have Ha:=zh ha
 have Hb:=zh hb
 have Hp:=zh hp
 have Hq:=zh hq
 have Hv:=zh hv
 clear ha hb hp hq hv
 obtain⟨hx,hy,hz,hsz,hbl⟩:=cK6 w (.cells #[.int .i64 t.start,.slice A t.reads.length n,.slice B t.writes.length m] 98) (.cells #[.slice P r.name.length p,.slice Q r.key.length q,.bool r.flag,.slice V r.value.length v] 204) (.cells #[.int .i64 0,.slice none 0 0,.slice none 0 0] 98)
 have Hx:=zh hx
 have Hy:=zh hy
 have Hz:=zh hz
 have Hbl:=zh hbl
 have Hsz:=zh hsz
 clear hx hy hz hbl hsz
 obtain⟨i0,hi0,hz0,hz1,hz2⟩:=info_parts info_rd
 by_cases g1:aN t=0
 ·have b1:(aN t==0)=true:=by simp[g1]
  have b1':(aN t != 0)=false:=by simp[g1]
  obtain⟨h20,h10⟩:=bH4 g1
  by_cases g2:aA4 r=0
  ·have b2':(aA4 r != 0)=false:=by simp[g2]
   have hbig:t.reads.length≤big:=by unfold big;omega
   have hr80:t.reads.length*80≤140737488355328:=by omega
   have hw80:t.writes.length*80≤140737488355328:=by omega
   by_cases g3:t.reads.any (fun x=>aC7 x r)=true
   ·have Hv0:=zh (show aH7 t r=(t,0) by unfold aH7;rw[if_neg (by simpa using g1),if_neg (by simpa using g2),if_pos g3])
    have Hany:=zh g3
    clear g1 g2 g3
    go_enter Tryz.func230,Tryz.ntmps230
    go_wp2_with (first
     | (go_at_call 63;refine (aD2 _ A B t n m (Ha.out.below wrR_stays Hbl.out) (Hb.out.below wrR_stays Hbl.out) hcn hcm).mono ?_;rintro e w1 ⟨rfl,hb1⟩;have hzz:=Hsz.out;have hs1:w.heap.size+3≤w1.heap.size:=ZE4;have Hx1:=zh ((hb1.block w.heap.size ZE0).trans Hx.out);have Hy1:=zh ((hb1.block (w.heap.size+1) ZE0).trans Hy.out);have Hz1:=zh ((hb1.block (w.heap.size+2) ZE0).trans Hz.out);have Hw1:=zh (Hbl.out.next hb1 ZE0);obtain⟨x0,x1,x2,_⟩:=aY Hx1.out;obtain⟨y0,y1,y2,y3,_⟩:=bG Hy1.out;obtain⟨z0,z1,z2,z3,z4,z5⟩:=aY Hz1.out;clear hzz hb1)
     | (go_at_call 108;refine (aR4 _ P Q V r p q v).mono ?_;rintro e w2 ⟨rfl,hb2⟩;have hs2:=hb2.size;have Hx2:=zh ((hb2.block w.heap.size AO).trans Hx1.out);have Hy2:=zh ((hb2.block (w.heap.size+1) AO).trans Hy1.out);have Hz2:=zh ((hb2.block (w.heap.size+2) AO).trans Hz1.out);have Hw2:=zh (Hw1.out.next hb2 AO);clear x0 x1 x2 y0 y1 y2 y3 z0 z1 z2 z3 z4 z5;obtain⟨x0,x1,x2,_⟩:=aY Hx2.out;obtain⟨y0,y1,y2,y3,_⟩:=bG Hy2.out;obtain⟨z0,z1,z2,z3,z4,z5⟩:=aY Hz2.out;clear hb2)
     | (go_at_call 65;refine (aN1 _ A B t n m (Ha.out.below wrR_stays Hw2.out) (Hb.out.below wrR_stays Hw2.out) hr80 hw80).mono ?_;rintro e w3 ⟨A3,n3,B3,m3,rfl,ho3,hb3⟩;have hs3:=hb3.size;have Hx3:=zh ((hb3.block w.heap.size AO).trans Hx2.out);have Hy3:=zh ((hb3.block (w.heap.size+1) AO).trans Hy2.out);have Hz3:=zh ((hb3.block (w.heap.size+2) AO).trans Hz2.out);have Hw3:=zh (Hw2.out.next hb3 AO);have Ho3:=zh ho3;clear x0 x1 x2 y0 y1 y2 y3 z0 z1 z2 z3 z4 z5 ho3 hb3;obtain⟨x0,x1,x2,_⟩:=aY Hx3.out;obtain⟨y0,y1,y2,y3,_⟩:=bG Hy3.out;obtain⟨z0,z1,z2,z3,z4,z5⟩:=aY Hz3.out;have hs3a:w.heap.size+2<w3.heap.size:=AO;have hs3c:w.heap.size<w3.heap.size:=AO;have hs3d:w.heap.size+1<w3.heap.size:=AO)
     | (go_at_call 109;refine (bN9 _ A t.reads n (w.heap.size+1) P Q V r p q v ((Ha.out.below wrR_stays Hw3.out).below wrR_stays ((Below.refl _ _).alloc zn _)) hbig ((Hp.out.bbelow Hw3.out).bbelow ((Below.refl _ _).alloc zn _)) ((Hq.out.bbelow Hw3.out).bbelow ((Below.refl _ _).alloc zn _)) ((Hv.out.bbelow Hw3.out).bbelow ((Below.refl _ _).alloc zn _)) ((heap_alloc_old _ _ AO).trans Hy3.out)).mono ?_;rintro e w5 ⟨rfl,hb5⟩;rw[Hany.out];have hs5:w3.heap.size+1≤w5.heap.size:=(by have hq1:=hb5.size;simp at hq1;omega);have hb35:Below w3.heap.size w3 w5:=((Below.refl _ _).alloc zn _).next hb5 ZH2;have Hb35:=zh hb35;have Hx5:=zh ((hb35.block _ AO).trans Hx3.out);have Hy5:=zh ((hb35.block (w.heap.size+1) AO).trans Hy3.out);have Hz5:=zh ((hb35.block (w.heap.size+2) AO).trans Hz3.out);have Hu5:=zh ((hb5.block w3.heap.size ZH2).trans (aK w3 _ _));have Hw5:=zh (Hw3.out.next hb35 AO);clear hb5 hb35 x0 x1 x2 y0 y1 y2 y3 z0 z1 z2 z3 z4 z5;obtain⟨x0,x1,x2,_⟩:=aY Hx5.out;obtain⟨y0,y1,y2,y3,_⟩:=bG Hy5.out;obtain⟨z0,z1,z2,z3,z4,z5⟩:=aY Hz5.out;obtain⟨o0,o1,o2,o3,o4,o5⟩:=aY Hu5.out;have hs5a:w.heap.size+2<w5.heap.size:=AO;have hs5b:w3.heap.size<w5.heap.size:=AO;have hs5c:w.heap.size<w5.heap.size:=AO;have hs5d:w.heap.size+1<w5.heap.size:=AO))
    refine bodyPost_ret (v:=.tuple #[.agg #[.int .i64 t.start,.slice A3 t.reads.length n3,.slice B3 t.writes.length m3],.int .i64 0]) (by simp[results,Tryz.results230,go_sem,z0,z1,z2]) rfl ?_
    rw[Hv0.out]
    refine⟨A3,n3,B3,m3,rfl,Ho3.out.1,Ho3.out.2.1,?_,?_,((Hw5.out.setCell ZC5 _).setCell ZC5 _).setCell ZC5 _⟩
    ·refine (((Ho3.out.reads.less wrR_stays fun b _ h=>h.1).below wrR_stays Hb35.out).same wrR_stays ?_).lo wrR_stays AO
     exact ZA4
    ·refine (((Ho3.out.writes.less wrR_stays fun b _ h=>h.1).below wrR_stays Hb35.out).same wrR_stays ?_).lo wrR_stays AO
     exact ZA4
   ·have Hany:=zh (show t.reads.any (fun x=>aC7 x r)=false by simpa using g3)
    by_cases g4:t.reads.length=20
    ·have Hv0:=zh (show aH7 t r=(zeroTx,11) by unfold aH7;rw[if_neg (by simpa using g1),if_neg (by simpa using g2),if_neg g3,if_pos g4])
     have b3:((t.reads.length:Int)==20)=true:=by rw[beq_iff_eq];omega
     clear g1 g2 g3 g4
     go_enter Tryz.func230,Tryz.ntmps230
     go_wp2_with (first
      | (go_at_call 63;refine (aD2 _ A B t n m (Ha.out.below wrR_stays Hbl.out) (Hb.out.below wrR_stays Hbl.out) hcn hcm).mono ?_;rintro e w1 ⟨rfl,hb1⟩;have hzz:=Hsz.out;have hs1:w.heap.size+3≤w1.heap.size:=ZE4;have Hx1:=zh ((hb1.block w.heap.size ZE0).trans Hx.out);have Hy1:=zh ((hb1.block (w.heap.size+1) ZE0).trans Hy.out);have Hz1:=zh ((hb1.block (w.heap.size+2) ZE0).trans Hz.out);have Hw1:=zh (Hbl.out.next hb1 ZE0);obtain⟨x0,x1,x2,_⟩:=aY Hx1.out;obtain⟨y0,y1,y2,y3,_⟩:=bG Hy1.out;obtain⟨z0,z1,z2,z3,z4,z5⟩:=aY Hz1.out;clear hzz hb1)
      | (go_at_call 108;refine (aR4 _ P Q V r p q v).mono ?_;rintro e w2 ⟨rfl,hb2⟩;have hs2:=hb2.size;have Hx2:=zh ((hb2.block w.heap.size AO).trans Hx1.out);have Hy2:=zh ((hb2.block (w.heap.size+1) AO).trans Hy1.out);have Hz2:=zh ((hb2.block (w.heap.size+2) AO).trans Hz1.out);have Hw2:=zh (Hw1.out.next hb2 AO);clear x0 x1 x2 y0 y1 y2 y3 z0 z1 z2 z3 z4 z5;obtain⟨x0,x1,x2,_⟩:=aY Hx2.out;obtain⟨y0,y1,y2,y3,_⟩:=bG Hy2.out;obtain⟨z0,z1,z2,z3,z4,z5⟩:=aY Hz2.out;clear hb2)
      | (go_at_call 65;refine (aN1 _ A B t n m (Ha.out.below wrR_stays Hw2.out) (Hb.out.below wrR_stays Hw2.out) hr80 hw80).mono ?_;rintro e w3 ⟨A3,n3,B3,m3,rfl,ho3,hb3⟩;have hs3:=hb3.size;have Hx3:=zh ((hb3.block w.heap.size AO).trans Hx2.out);have Hy3:=zh ((hb3.block (w.heap.size+1) AO).trans Hy2.out);have Hz3:=zh ((hb3.block (w.heap.size+2) AO).trans Hz2.out);have Hw3:=zh (Hw2.out.next hb3 AO);have Ho3:=zh ho3;clear x0 x1 x2 y0 y1 y2 y3 z0 z1 z2 z3 z4 z5 ho3 hb3;obtain⟨x0,x1,x2,_⟩:=aY Hx3.out;obtain⟨y0,y1,y2,y3,_⟩:=bG Hy3.out;obtain⟨z0,z1,z2,z3,z4,z5⟩:=aY Hz3.out;have hs3a:w.heap.size+2<w3.heap.size:=AO;have hs3c:w.heap.size<w3.heap.size:=AO;have hs3d:w.heap.size+1<w3.heap.size:=AO)
      | (go_at_call 109;refine (bN9 _ A t.reads n (w.heap.size+1) P Q V r p q v ((Ha.out.below wrR_stays Hw3.out).below wrR_stays ((Below.refl _ _).alloc zn _)) hbig ((Hp.out.bbelow Hw3.out).bbelow ((Below.refl _ _).alloc zn _)) ((Hq.out.bbelow Hw3.out).bbelow ((Below.refl _ _).alloc zn _)) ((Hv.out.bbelow Hw3.out).bbelow ((Below.refl _ _).alloc zn _)) ((heap_alloc_old _ _ AO).trans Hy3.out)).mono ?_;rintro e w5 ⟨rfl,hb5⟩;rw[Hany.out];have hs5:w3.heap.size+1≤w5.heap.size:=(by have hq1:=hb5.size;simp at hq1;omega);have hb35:Below w3.heap.size w3 w5:=((Below.refl _ _).alloc zn _).next hb5 ZH2;have Hb35:=zh hb35;have Hx5:=zh ((hb35.block _ AO).trans Hx3.out);have Hy5:=zh ((hb35.block (w.heap.size+1) AO).trans Hy3.out);have Hz5:=zh ((hb35.block (w.heap.size+2) AO).trans Hz3.out);have Hu5:=zh ((hb5.block w3.heap.size ZH2).trans (aK w3 _ _));have Hw5:=zh (Hw3.out.next hb35 AO);clear hb5 hb35 x0 x1 x2 y0 y1 y2 y3 z0 z1 z2 z3 z4 z5;obtain⟨x0,x1,x2,_⟩:=aY Hx5.out;obtain⟨y0,y1,y2,y3,_⟩:=bG Hy5.out;obtain⟨z0,z1,z2,z3,z4,z5⟩:=aY Hz5.out;obtain⟨o0,o1,o2,o3,o4,o5⟩:=aY Hu5.out;have hs5a:w.heap.size+2<w5.heap.size:=AO;have hs5b:w3.heap.size<w5.heap.size:=AO;have hs5c:w.heap.size<w5.heap.size:=AO;have hs5d:w.heap.size+1<w5.heap.size:=AO))
     refine bodyPost_ret (v:=.tuple #[.agg #[.int .i64 0,.slice none 0 0,.slice none 0 0],.int .i64 (11)]) (by simp[results,Tryz.results230,go_sem,z0,z1,z2]) rfl ?_
     rw[Hv0.out]
     exact⟨none,0,none,0,rfl,zn,zn,SL.nil,SL.nil,(((Hw5.out.setCell ZC5 _).setCell ZC5 _).setCell ZC5 _)⟩
    ·exact note_app w A B t n m P Q V r p q v Ha.out Hb.out Hp.out Hq.out Hv.out h1 h2 h3 hcn hcm g1 g2 (by simpa using g3) g4
  ·have b2':(aA4 r != 0)=true:=by simpa using g2
   have Hv0:=zh (show aH7 t r=(zeroTx,aA4 r) by unfold aH7;rw[if_neg (by simpa using g1),if_pos g2])
   clear g1 g2
   go_enter Tryz.func230,Tryz.ntmps230
   go_wp2_with (first
    | (go_at_call 63;refine (aD2 _ A B t n m (Ha.out.below wrR_stays Hbl.out) (Hb.out.below wrR_stays Hbl.out) hcn hcm).mono ?_;rintro e w1 ⟨rfl,hb1⟩;have hzz:=Hsz.out;have hs1:w.heap.size+3≤w1.heap.size:=ZE4;have Hx1:=zh ((hb1.block w.heap.size ZE0).trans Hx.out);have Hy1:=zh ((hb1.block (w.heap.size+1) ZE0).trans Hy.out);have Hz1:=zh ((hb1.block (w.heap.size+2) ZE0).trans Hz.out);have Hw1:=zh (Hbl.out.next hb1 ZE0);obtain⟨x0,x1,x2,_⟩:=aY Hx1.out;obtain⟨y0,y1,y2,y3,_⟩:=bG Hy1.out;obtain⟨z0,z1,z2,z3,z4,z5⟩:=aY Hz1.out;clear hzz hb1)
    | (go_at_call 108;refine (aR4 _ P Q V r p q v).mono ?_;rintro e w2 ⟨rfl,hb2⟩;have hs2:=hb2.size;have Hx2:=zh ((hb2.block w.heap.size AO).trans Hx1.out);have Hy2:=zh ((hb2.block (w.heap.size+1) AO).trans Hy1.out);have Hz2:=zh ((hb2.block (w.heap.size+2) AO).trans Hz1.out);have Hw2:=zh (Hw1.out.next hb2 AO);clear x0 x1 x2 y0 y1 y2 y3 z0 z1 z2 z3 z4 z5;obtain⟨x0,x1,x2,_⟩:=aY Hx2.out;obtain⟨y0,y1,y2,y3,_⟩:=bG Hy2.out;obtain⟨z0,z1,z2,z3,z4,z5⟩:=aY Hz2.out;clear hb2))
   refine bodyPost_ret (v:=.tuple #[.agg #[.int .i64 0,.slice none 0 0,.slice none 0 0],.int .i64 (aA4 r)]) (by simp[results,Tryz.results230,go_sem,z0,z1,z2]) rfl ?_
   rw[Hv0.out]
   exact⟨none,0,none,0,rfl,zn,zn,SL.nil,SL.nil,(((Hw2.out.setCell ZC5 _).setCell ZC5 _).setCell ZC5 _)⟩
 ·have b1:(aN t==0)=false:=by simpa using g1
  have b1':(aN t != 0)=true:=by simpa using g1
  have Hv0:=zh (show aH7 t r=(zeroTx,aN t) by unfold aH7;rw[if_pos g1])
  clear g1
  go_enter Tryz.func230,Tryz.ntmps230
  go_wp2_with ((go_at_call 63;refine (aD2 _ A B t n m (Ha.out.below wrR_stays Hbl.out) (Hb.out.below wrR_stays Hbl.out) hcn hcm).mono ?_;rintro e w1 ⟨rfl,hb1⟩;have hzz:=Hsz.out;have hs1:w.heap.size+3≤w1.heap.size:=ZE4;have Hx1:=zh ((hb1.block w.heap.size ZE0).trans Hx.out);have Hy1:=zh ((hb1.block (w.heap.size+1) ZE0).trans Hy.out);have Hz1:=zh ((hb1.block (w.heap.size+2) ZE0).trans Hz.out);have Hw1:=zh (Hbl.out.next hb1 ZE0);obtain⟨x0,x1,x2,_⟩:=aY Hx1.out;obtain⟨y0,y1,y2,y3,_⟩:=bG Hy1.out;obtain⟨z0,z1,z2,z3,z4,z5⟩:=aY Hz1.out;clear hzz hb1))
  refine bodyPost_ret (v:=.tuple #[.agg #[.int .i64 0,.slice none 0 0,.slice none 0 0],.int .i64 (aN t)]) (by simp[results,Tryz.results230,go_sem,z0,z1,z2]) rfl ?_
  rw[Hv0.out]
  exact⟨none,0,none,0,rfl,zn,zn,SL.nil,SL.nil,(((Hw1.out.setCell ZC5 _).setCell ZC5 _).setCell ZC5 _)⟩
def aD0 (t:Tx) (r:Wr):Tx × Int :=
 if aN t≠0 then (zeroTx,aN t) else if aH r≠0 then (zeroTx,aH r) else if t.writes.any (fun x=>bE x r)=true then (⟨t.start,t.reads,t.writes.set (aY7 (fun x=>bE x r) t.writes).toNat r⟩,0) else if t.writes.length=10 then (zeroTx,11) else (⟨t.start,t.reads,t.writes++[r]⟩,0)
theorem cK9 {q:Wr→Bool} {l:List Wr} (h:l.any q=true):∃ k:Nat,k<l.length∧aY7 q l=(k:Int):=by
 have h1:=bE9 q l
 rw[h] at h1
 unfold aY7 at h1 ⊢
 cases hf:l.findIdx? q with
 | none=>rw[hf] at h1;simp at h1
 | some i =>
  rw[List.findIdx?_eq_some_iff_getElem] at hf
  exact⟨i,hf.1,rfl⟩
theorem aC.weakT {S T:Nat→Prop} {a b:World} (h:aC T a b) (hS:∀ k,S k→T k):aC S a b:=⟨h.size,fun k hk hl=>h.block k (hS k hk) hl⟩
theorem cL0 {H:Nat} {w3 w6:World} {t:Tx} {A3 B3:Option Addr} {n3 m3:Nat} {k:Nat} (ho:bV7 H w3 t A3 n3 B3 m3) (hk:k<t.writes.length) (hT:aC (aB H) w3 w6) :
  ∃ gB,B3=some ⟨gB,0,none⟩∧H≤gB∧gB<w3.heap.size∧(∃ u,w6.cell? ⟨gB,k*4,none⟩=some u)∧(∃ u,w6.cell? ⟨gB,k*4+1,none⟩=some u)∧(∃ u,w6.cell? ⟨gB,k*4+2,none⟩=some u)∧(∃ u,w6.cell? ⟨gB,k*4+3,none⟩=some u)∧w6.frozen? ⟨gB,k*4,none⟩=false∧w6.frozen? ⟨gB,k*4+1,none⟩=false∧w6.frozen? ⟨gB,k*4+2,none⟩=false∧w6.frozen? ⟨gB,k*4+3,none⟩=false:=by
 obtain⟨gB,capB,curB,cssB,hvB,hgB,hltB,hhB,hcapB,hmxB,hcurB,_⟩:=ho.2.2.2.1.row wrR_stays AO
 injection hvB with hBB _ hmm
 have hh':=(hT.block gB hgB hltB).trans hhB
 have hc:∀ j,j<capB*4→∃ u,w6.cell? ⟨gB,j,none⟩=some u:=fun j hj=>by
  refine⟨curB[j]'(by omega),?_⟩
  rw[cell_of_row w6 gB j curB _ _ hh',Array.getElem?_eq_getElem]
 exact⟨gB,hBB,hgB,hltB,hc _ AO,hc _ AO,hc _ AO,hc _ AO,frozen_of_row w6 gB _ curB _ hh',frozen_of_row w6 gB _ curB _ hh',frozen_of_row w6 gB _ curB _ hh',frozen_of_row w6 gB _ curB _ hh'⟩
theorem bJ4 (w:World) (A B:Option Addr) (t:Tx) (n m:Nat) (P Q V:Option Addr) (r:Wr) (p q v:Nat) (ha:Ws All w A t.reads) (hb:Ws All w B t.writes) (hp:Bs All w P r.name) (hq:Bs All w Q r.key) (hv:Bs All w V r.value) (h1:r.name.length≤big) (h2:r.key.length≤big) (h3:r.value.length≤big) (hcn:t.reads.length≤n) (hcm:t.writes.length≤m) :
  Calls Tryz.prog 31 #[.agg #[.int .i64 t.start,.slice A t.reads.length n,.slice B t.writes.length m],.agg #[.slice P r.name.length p,.slice Q r.key.length q,.bool r.flag,.slice V r.value.length v]] w (bO3 w (aD0 t r)):=by
 have Ha:=zh ha
 have Hb:=zh hb
 have Hp:=zh hp
 have Hq:=zh hq
 have Hv:=zh hv
 clear ha hb hp hq hv
 obtain⟨hx,hy,hz,hsz,hbl⟩:=cK6 w (.cells #[.int .i64 t.start,.slice A t.reads.length n,.slice B t.writes.length m] 98) (.cells #[.slice P r.name.length p,.slice Q r.key.length q,.bool r.flag,.slice V r.value.length v] 102) (.cells #[.int .i64 0,.slice none 0 0,.slice none 0 0] 98)
 have Hx:=zh hx
 have Hy:=zh hy
 have Hz:=zh hz
 have Hbl:=zh hbl
 have Hsz:=zh hsz
 clear hx hy hz hbl hsz
 obtain⟨i0,hi0,hz0,hz1,hz2⟩:=info_parts info_wr
 by_cases g1:aN t=0
 ·have b1:(aN t==0)=true:=by simp[g1]
  have b1':(aN t != 0)=false:=by simp[g1]
  obtain⟨h20,h10⟩:=bH4 g1
  by_cases g2:aH r=0
  ·have b2':(aH r != 0)=false:=by simp[g2]
   have hbig:t.writes.length≤big:=by unfold big;omega
   have hr80:t.reads.length*80≤140737488355328:=by omega
   have hw80:t.writes.length*80≤140737488355328:=by omega
   rcases Bool.eq_false_or_eq_true (t.writes.any (fun x=>bE x r)) with g3|g3
   ·obtain⟨k,hkl,hidx⟩:=cK9 g3
    have Hv0:=zh (show aD0 t r=(⟨t.start,t.reads,t.writes.set k r⟩,0) by unfold aD0;rw[if_neg (by simpa using g1),if_neg (by simpa using g2),if_pos g3,hidx];rfl)
    have Hidx:=zh hidx
    have d9:decide ((0:Int)≤(k:Int))=true:=by rw[decide_eq_true_eq];omega
    have hi0':(0:Int)≤(k:Int):=by omega
    have hi1':(k:Int)<(t.writes.length:Int):=by omega
    clear g1 g2 g3 hidx
    go_enter Tryz.func31,Tryz.ntmps31
    go_wp2_with (first
     | (go_at_call 63;refine (aD2 _ A B t n m (Ha.out.below wrR_stays Hbl.out) (Hb.out.below wrR_stays Hbl.out) hcn hcm).mono ?_;rintro e w1 ⟨rfl,hb1⟩;have hzz:=Hsz.out;have hs1:w.heap.size+3≤w1.heap.size:=ZE4;have Hx1:=zh ((hb1.block w.heap.size ZE0).trans Hx.out);have Hy1:=zh ((hb1.block (w.heap.size+1) ZE0).trans Hy.out);have Hz1:=zh ((hb1.block (w.heap.size+2) ZE0).trans Hz.out);have Hw1:=zh (Hbl.out.next hb1 ZE0);obtain⟨x0,x1,x2,_⟩:=aY Hx1.out;obtain⟨y0,y1,y2,y3,_⟩:=bG Hy1.out;obtain⟨z0,z1,z2,z3,z4,z5⟩:=aY Hz1.out;clear hzz hb1)
     | (go_at_call 64;refine (aF5 _ P Q V r p q v (Hp.out.bbelow Hw1.out) (Hq.out.bbelow Hw1.out) (Hv.out.bbelow Hw1.out) h1 h2 h3).mono ?_;rintro e w2 ⟨rfl,hb2⟩;have hs2:=hb2.size;have Hx2:=zh ((hb2.block w.heap.size AO).trans Hx1.out);have Hy2:=zh ((hb2.block (w.heap.size+1) AO).trans Hy1.out);have Hz2:=zh ((hb2.block (w.heap.size+2) AO).trans Hz1.out);have Hw2:=zh (Hw1.out.next hb2 AO);clear x0 x1 x2 y0 y1 y2 y3 z0 z1 z2 z3 z4 z5;obtain⟨x0,x1,x2,_⟩:=aY Hx2.out;obtain⟨y0,y1,y2,y3,_⟩:=bG Hy2.out;obtain⟨z0,z1,z2,z3,z4,z5⟩:=aY Hz2.out;clear hb2)
     | (go_at_call 65;refine (aN1 _ A B t n m (Ha.out.below wrR_stays Hw2.out) (Hb.out.below wrR_stays Hw2.out) hr80 hw80).mono ?_;rintro e w3 ⟨A3,n3,B3,m3,rfl,ho3,hb3⟩;have hs3:=hb3.size;have Hx3:=zh ((hb3.block w.heap.size AO).trans Hx2.out);have Hy3:=zh ((hb3.block (w.heap.size+1) AO).trans Hy2.out);have Hz3:=zh ((hb3.block (w.heap.size+2) AO).trans Hz2.out);have Hw3:=zh (Hw2.out.next hb3 AO);have Ho3:=zh ho3;clear x0 x1 x2 y0 y1 y2 y3 z0 z1 z2 z3 z4 z5 ho3 hb3;obtain⟨x0,x1,x2,_⟩:=aY Hx3.out;obtain⟨y0,y1,y2,y3,_⟩:=bG Hy3.out;obtain⟨z0,z1,z2,z3,z4,z5⟩:=aY Hz3.out;have hs3a:w.heap.size+2<w3.heap.size:=AO;have hs3c:w.heap.size<w3.heap.size:=AO;have hs3d:w.heap.size+1<w3.heap.size:=AO)
     | (go_at_call 66;refine (aQ0 _ _ [r] 1 ?hws ZH2).mono ?_;(case hws=>exact bH1 (w:=w3) (w3.heap.size+1) (by have:=aK (w3.alloc (.cells #[.int .i64 t.start,.slice A3 t.reads.length n3,.slice B3 t.writes.length m3] 98)) #[.slice P r.name.length p,.slice Q r.key.length q,.bool r.flag,.slice V r.value.length v] 102;simpa using this) (((Below.refl _ _).alloc zn _).alloc ZH2 _) (Hp.out.bbelow Hw3.out) (Hq.out.bbelow Hw3.out) (Hv.out.bbelow Hw3.out) h1 h2 h3);rintro e w4 ⟨L4,l4,rfl,hl4,hown4,hb4⟩;have hs4:w3.heap.size+2≤w4.heap.size:=(by have hq1:=hb4.size;simp at hq1;omega);obtain⟨g4,off4,P4,p4,Q4,q4,V4,v4,rfl,hfr4,hlt4,hd1,hd2,hd3,hd4,ps4,qs4,vs4,_,_,_⟩:=aF4 (hown4.sl wrR_stays (fun b hb _=>hb)) (k:=0) ZH2;simp only[List.getElem_cons_zero,Nat.zero_mul,Nat.add_zero] at hd1 hd2 hd3 hd4 ps4 qs4 vs4;have Hb34:=zh ((((Below.refl w3.heap.size w3).alloc zn _).alloc ZH2 _).next hb4 ZC8);have Hu4:=zh ((hb4.block w3.heap.size AU).trans ((heap_alloc_old _ _ ZH2).trans (aK w3 _ _)));have Hy4:=zh ((Hb34.out.block (w.heap.size+1) AO).trans Hy3.out);have Hz4:=zh ((Hb34.out.block (w.heap.size+2) AO).trans Hz3.out);have Ps4:=zh (ps4.bless (S':=aB (w3.heap.size+2)) fun b _ h=>by have h':=h;simp only[aB] at h' ⊢;simp at h';omega);have Qs4:=zh (qs4.bless (S':=aB (w3.heap.size+2)) fun b _ h=>by have h':=h;simp only[aB] at h' ⊢;simp at h';omega);have Vs4:=zh (vs4.bless (S':=aB (w3.heap.size+2)) fun b _ h=>by have h':=h;simp only[aB] at h' ⊢;simp at h';omega);clear hown4 ps4 qs4 vs4 x0 x1 x2 y0 y1 y2 y3 z0 z1 z2 z3 z4 z5;obtain⟨y0,y1,y2,y3,y4,y5,y6,y7⟩:=bG Hy4.out;obtain⟨o0,o1,o2,_⟩:=aY Hu4.out;have hs4y:w.heap.size+1<w4.heap.size:=AO;have hs4o:w3.heap.size<w4.heap.size:=AO;have hne4:¬ w3.heap.size=w.heap.size+1:=AO;have hne4':¬ w.heap.size+1=w3.heap.size:=AO)
     | (go_at_call 67;(with_reducible refine (bO0 _ B3 t.writes m3 (w.heap.size+1) P4 Q4 V4 r p4 q4 v4 ?g1 hbig ?g2 ?g3 ?g4 ?g5).mono ?_);(case g1=>exact ((((Ho3.out.writes.less wrR_stays (S':=aB w2.heap.size) fun b _ h=>h.1).below wrR_stays Hb34.out).same wrR_stays (((((aC.refl _ w4).setCell ZC4 _).setCell ZC4 _).setCell ZC4 _).setCell ZC4 _)).z wrR_stays));(case g2=>exact (Ps4.out.bsame (((((aC.refl _ w4).setCell ZC4 _).setCell ZC4 _).setCell ZC4 _).setCell ZC4 _)).bz);(case g3=>exact (Qs4.out.bsame (((((aC.refl _ w4).setCell ZC4 _).setCell ZC4 _).setCell ZC4 _).setCell ZC4 _)).bz);(case g4=>exact (Vs4.out.bsame (((((aC.refl _ w4).setCell ZC4 _).setCell ZC4 _).setCell ZC4 _).setCell ZC4 _)).bz);(case g5=>(rw[heap_setCell_same _ _ _ _ _ _ (heap_setCell_same _ _ _ _ _ _ (heap_setCell_same _ _ _ _ _ _ (heap_setCell_same _ _ _ _ _ _ Hy4.out)))];rfl));rintro e w6 ⟨rfl,hb6⟩;rw[Hidx.out];have hs6:w4.heap.size≤w6.heap.size:=(by have hq1:=hb6.size;simp at hq1;omega);have HT46:=zh (show aC (fun b=>b≠w.heap.size+1) w4 w6 from (((((aC.refl _ w4).setCell (fun h=>h rfl) _).setCell (fun h=>h rfl) _).setCell (fun h=>h rfl) _).setCell (fun h=>h rfl) _).trans (aC.of_below hb6));have HT:=zh (show aC (aB w2.heap.size) w3 w6 from (aC.of_below Hb34.out).trans (HT46.out.weakT fun k hk=>by simp only[aB] at hk;omega));have Hu:=zh ((HT46.out.block w3.heap.size hne4 hs4o).trans Hu4.out);have HzZ:=zh ((HT46.out.block (w.heap.size+2) AO AO).trans Hz4.out);have Hy6:=zh (show w6.heap[w.heap.size+1]?=some (.cells #[.slice P4 r.name.length p4,.slice Q4 r.key.length q4,.bool r.flag,.slice V4 r.value.length v4] 102 (0,0)) from (hb6.block (w.heap.size+1) (by simpa using hs4y)).trans ZE2);have Gs1:=zh (((Ps4.out.bsame (((((aC.refl _ w4).setCell ZC4 _).setCell ZC4 _).setCell ZC4 _).setCell ZC4 _)).bbelow hb6).blo (show w3.heap.size+1≤w3.heap.size+2 by omega));have Gs2:=zh (((Qs4.out.bsame (((((aC.refl _ w4).setCell ZC4 _).setCell ZC4 _).setCell ZC4 _).setCell ZC4 _)).bbelow hb6).blo (show w3.heap.size+1≤w3.heap.size+2 by omega));have Gs3:=zh (((Vs4.out.bsame (((((aC.refl _ w4).setCell ZC4 _).setCell ZC4 _).setCell ZC4 _).setCell ZC4 _)).bbelow hb6).blo (show w3.heap.size+1≤w3.heap.size+2 by omega));have Hw6:=zh (show Below w.heap.size w w6 from (((((Hw3.out.next Hb34.out AO).setCell ZC5 _).setCell ZC5 _).setCell ZC5 _).setCell ZC5 _).next hb6 ZC8);clear hb6 y0 y1 y2 y3 y4 y5 y6 y7 o0 o1 o2;obtain⟨y0,y1,y2,y3,_⟩:=bG Hy6.out;obtain⟨z0,z1,z2,z3,z4,z5⟩:=aY HzZ.out;obtain⟨o0,o1,o2,o3,o4,o5⟩:=aY Hu.out;have ho6:w3.heap.size<w6.heap.size:=AO;have hs6z:w.heap.size+2<w6.heap.size:=AO;have Hrow:=zh (cL0 Ho3.out hkl HT.out);obtain⟨gB,hBB,hgB,hltB,⟨u1,hu1⟩,⟨u2,hu2⟩,⟨u3,hu3⟩,⟨u4,hu4⟩,hf1,hf2,hf3,hf4⟩:=Hrow.out;subst hBB;have hneB:¬ gB=w3.heap.size:=AO;have hneB':¬ w3.heap.size=gB:=AO;have hne1:¬ gB=w.heap.size+2:=AO;have hne2:¬ w.heap.size+2=gB:=AO))
    have hlA:=Ho3.out.2.2.1.blt
    have hlB:=Ho3.out.2.2.2.1.blt
    have hown6:=(Ho3.out.2.2.2.1.keep wrR_stays (T:=aB w2.heap.size) (S2:=fun b=>aB w2.heap.size b∧blk A3≠some b) HT.out (fun b _ h=>h.1) (fun b hb=>(hlB b (by rw[aC5] at hb;exact hb)).1) (fun b _ h=>h) zn).put wrR_stays hkl (c:=[.slice P4 r.name.length p4,.slice Q4 r.key.length q4,.bool r.flag,.slice V4 r.value.length v4]) rfl (x:=r)
     ⟨P4,p4,Q4,q4,V4,v4,rfl,Gs1.out.bless (fun b _ h=>⟨⟨by have h':=h;simp only[aB] at h' ⊢;omega,fun hA=>by have:=hlA b hA;have h':=h;simp only[aB] at h';omega⟩,by have h':=h;simp only[aB] at h';omega⟩),Gs2.out.bless (fun b _ h=>⟨⟨by have h':=h;simp only[aB] at h' ⊢;omega,fun hA=>by have:=hlA b hA;have h':=h;simp only[aB] at h';omega⟩,by have h':=h;simp only[aB] at h';omega⟩),Gs3.out.bless (fun b _ h=>⟨⟨by have h':=h;simp only[aB] at h' ⊢;omega,fun hA=>by have:=hlA b hA;have h':=h;simp only[aB] at h';omega⟩,by have h':=h;simp only[aB] at h';omega⟩),h1,h2,h3⟩
    have hl':(t.writes.set k r).length=t.writes.length:=List.length_set
    rw[← hl'] at hown6
    refine bodyPost_ret (v:=.tuple #[.agg #[.int .i64 t.start,.slice A3 t.reads.length n3,.slice (some ⟨gB,0,none⟩) t.writes.length m3],.int .i64 0]) (by simp[results,Tryz.results31,go_sem,z0,z1,z2,hne1,hne2]) rfl ?_
    rw[Hv0.out]
    refine⟨A3,n3,some ⟨gB,0,none⟩,m3,by rw[hl'],Ho3.out.1,by rw[hl'];exact Ho3.out.2.1,?_,?_,?_⟩
    ·have h7:Ws (fun b=>(aB w2.heap.size b∧blk (some ⟨gB,0,none⟩)≠some b)∧b<w3.heap.size) w3 A3 t.reads:=Ho3.out.reads.less wrR_stays fun b hb h=>⟨h,hb⟩
     refine (h7.same wrR_stays ?_).less wrR_stays fun b _ h=>by have h':w2.heap.size≤b:=h.1.1;show w.heap.size≤b;omega
     exact ((((((((HT.out.weakT fun k hk=>hk.1.1).setCell (fun h=>h.1.2 rfl) _).setCell (fun h=>h.1.2 rfl) _).setCell (fun h=>h.1.2 rfl) _).setCell (fun h=>h.1.2 rfl) _).setCell ZD4 _).setCell ZD4 _).setCell ZD4 _)
    ·have h8:=hown6.sl wrR_stays (fun b hb hB=>⟨hb,fun hA=>Ho3.out.2.2.2.2 b hA hB⟩)
     refine (h8.same wrR_stays ?_).less wrR_stays fun b _ h=>by have h':w2.heap.size≤b:=h.1;show w.heap.size≤b;omega
     exact ((((aC.refl _ _).setCell (fun h=>by have h':w2.heap.size≤_:=h.1;simp only[] at h';omega) _).setCell (fun h=>by have h':w2.heap.size≤_:=h.1;simp only[] at h';omega) _).setCell (fun h=>by have h':w2.heap.size≤_:=h.1;simp only[] at h';omega) _)
    ·exact (((((((Hw6.out.setCell ZC5 _).setCell ZC5 _).setCell ZC5 _).setCell ZC5 _).setCell ZC5 _).setCell ZC5 _).setCell ZC5 _)
   ·have Hidx:=zh (aU3 g3)
    have d9:decide ((0:Int)≤-1)=false:=by decide
    by_cases g4:t.writes.length=10
    ·have Hv0:=zh (show aD0 t r=(zeroTx,11) by unfold aD0;rw[if_neg (by simpa using g1),if_neg (by simpa using g2),if_neg (by rw[g3];decide),if_pos g4])
     have b3:((t.writes.length:Int)==10)=true:=by rw[beq_iff_eq];omega
     clear g1 g2 g3 g4
     go_enter Tryz.func31,Tryz.ntmps31
     go_wp2_with (first
      | (go_at_call 63;refine (aD2 _ A B t n m (Ha.out.below wrR_stays Hbl.out) (Hb.out.below wrR_stays Hbl.out) hcn hcm).mono ?_;rintro e w1 ⟨rfl,hb1⟩;have hzz:=Hsz.out;have hs1:w.heap.size+3≤w1.heap.size:=ZE4;have Hx1:=zh ((hb1.block w.heap.size ZE0).trans Hx.out);have Hy1:=zh ((hb1.block (w.heap.size+1) ZE0).trans Hy.out);have Hz1:=zh ((hb1.block (w.heap.size+2) ZE0).trans Hz.out);have Hw1:=zh (Hbl.out.next hb1 ZE0);obtain⟨x0,x1,x2,_⟩:=aY Hx1.out;obtain⟨y0,y1,y2,y3,_⟩:=bG Hy1.out;obtain⟨z0,z1,z2,z3,z4,z5⟩:=aY Hz1.out;clear hzz hb1)
      | (go_at_call 64;refine (aF5 _ P Q V r p q v (Hp.out.bbelow Hw1.out) (Hq.out.bbelow Hw1.out) (Hv.out.bbelow Hw1.out) h1 h2 h3).mono ?_;rintro e w2 ⟨rfl,hb2⟩;have hs2:=hb2.size;have Hx2:=zh ((hb2.block w.heap.size AO).trans Hx1.out);have Hy2:=zh ((hb2.block (w.heap.size+1) AO).trans Hy1.out);have Hz2:=zh ((hb2.block (w.heap.size+2) AO).trans Hz1.out);have Hw2:=zh (Hw1.out.next hb2 AO);clear x0 x1 x2 y0 y1 y2 y3 z0 z1 z2 z3 z4 z5;obtain⟨x0,x1,x2,_⟩:=aY Hx2.out;obtain⟨y0,y1,y2,y3,_⟩:=bG Hy2.out;obtain⟨z0,z1,z2,z3,z4,z5⟩:=aY Hz2.out;clear hb2)
      | (go_at_call 65;refine (aN1 _ A B t n m (Ha.out.below wrR_stays Hw2.out) (Hb.out.below wrR_stays Hw2.out) hr80 hw80).mono ?_;rintro e w3 ⟨A3,n3,B3,m3,rfl,ho3,hb3⟩;have hs3:=hb3.size;have Hx3:=zh ((hb3.block w.heap.size AO).trans Hx2.out);have Hy3:=zh ((hb3.block (w.heap.size+1) AO).trans Hy2.out);have Hz3:=zh ((hb3.block (w.heap.size+2) AO).trans Hz2.out);have Hw3:=zh (Hw2.out.next hb3 AO);have Ho3:=zh ho3;clear x0 x1 x2 y0 y1 y2 y3 z0 z1 z2 z3 z4 z5 ho3 hb3;obtain⟨x0,x1,x2,_⟩:=aY Hx3.out;obtain⟨y0,y1,y2,y3,_⟩:=bG Hy3.out;obtain⟨z0,z1,z2,z3,z4,z5⟩:=aY Hz3.out;have hs3a:w.heap.size+2<w3.heap.size:=AO;have hs3c:w.heap.size<w3.heap.size:=AO;have hs3d:w.heap.size+1<w3.heap.size:=AO)
      | (go_at_call 66;refine (aQ0 _ _ [r] 1 ?hws ZH2).mono ?_;(case hws=>exact bH1 (w:=w3) (w3.heap.size+1) (by have:=aK (w3.alloc (.cells #[.int .i64 t.start,.slice A3 t.reads.length n3,.slice B3 t.writes.length m3] 98)) #[.slice P r.name.length p,.slice Q r.key.length q,.bool r.flag,.slice V r.value.length v] 102;simpa using this) (((Below.refl _ _).alloc zn _).alloc ZH2 _) (Hp.out.bbelow Hw3.out) (Hq.out.bbelow Hw3.out) (Hv.out.bbelow Hw3.out) h1 h2 h3);rintro e w4 ⟨L4,l4,rfl,hl4,hown4,hb4⟩;have hs4:w3.heap.size+2≤w4.heap.size:=(by have hq1:=hb4.size;simp at hq1;omega);obtain⟨g4,off4,P4,p4,Q4,q4,V4,v4,rfl,hfr4,hlt4,hd1,hd2,hd3,hd4,ps4,qs4,vs4,_,_,_⟩:=aF4 (hown4.sl wrR_stays (fun b hb _=>hb)) (k:=0) ZH2;simp only[List.getElem_cons_zero,Nat.zero_mul,Nat.add_zero] at hd1 hd2 hd3 hd4 ps4 qs4 vs4;have Hb34:=zh ((((Below.refl w3.heap.size w3).alloc zn _).alloc ZH2 _).next hb4 ZC8);have Hu4:=zh ((hb4.block w3.heap.size AU).trans ((heap_alloc_old _ _ ZH2).trans (aK w3 _ _)));have Hy4:=zh ((Hb34.out.block (w.heap.size+1) AO).trans Hy3.out);have Hz4:=zh ((Hb34.out.block (w.heap.size+2) AO).trans Hz3.out);have Ps4:=zh (ps4.bless (S':=aB (w3.heap.size+2)) fun b _ h=>by have h':=h;simp only[aB] at h' ⊢;simp at h';omega);have Qs4:=zh (qs4.bless (S':=aB (w3.heap.size+2)) fun b _ h=>by have h':=h;simp only[aB] at h' ⊢;simp at h';omega);have Vs4:=zh (vs4.bless (S':=aB (w3.heap.size+2)) fun b _ h=>by have h':=h;simp only[aB] at h' ⊢;simp at h';omega);clear hown4 ps4 qs4 vs4 x0 x1 x2 y0 y1 y2 y3 z0 z1 z2 z3 z4 z5;obtain⟨y0,y1,y2,y3,y4,y5,y6,y7⟩:=bG Hy4.out;obtain⟨o0,o1,o2,_⟩:=aY Hu4.out;have hs4y:w.heap.size+1<w4.heap.size:=AO;have hs4o:w3.heap.size<w4.heap.size:=AO;have hne4:¬ w3.heap.size=w.heap.size+1:=AO;have hne4':¬ w.heap.size+1=w3.heap.size:=AO)
      | (go_at_call 67;(with_reducible refine (bO0 _ B3 t.writes m3 (w.heap.size+1) P4 Q4 V4 r p4 q4 v4 ?g1 hbig ?g2 ?g3 ?g4 ?g5).mono ?_);(case g1=>exact ((((Ho3.out.writes.less wrR_stays (S':=aB w2.heap.size) fun b _ h=>h.1).below wrR_stays Hb34.out).same wrR_stays (((((aC.refl _ w4).setCell ZC4 _).setCell ZC4 _).setCell ZC4 _).setCell ZC4 _)).z wrR_stays));(case g2=>exact (Ps4.out.bsame (((((aC.refl _ w4).setCell ZC4 _).setCell ZC4 _).setCell ZC4 _).setCell ZC4 _)).bz);(case g3=>exact (Qs4.out.bsame (((((aC.refl _ w4).setCell ZC4 _).setCell ZC4 _).setCell ZC4 _).setCell ZC4 _)).bz);(case g4=>exact (Vs4.out.bsame (((((aC.refl _ w4).setCell ZC4 _).setCell ZC4 _).setCell ZC4 _).setCell ZC4 _)).bz);(case g5=>(rw[heap_setCell_same _ _ _ _ _ _ (heap_setCell_same _ _ _ _ _ _ (heap_setCell_same _ _ _ _ _ _ (heap_setCell_same _ _ _ _ _ _ Hy4.out)))];rfl));rintro e w6 ⟨rfl,hb6⟩;rw[Hidx.out];have hs6:w4.heap.size≤w6.heap.size:=(by have hq1:=hb6.size;simp at hq1;omega);have HT46:=zh (show aC (fun b=>b≠w.heap.size+1) w4 w6 from (((((aC.refl _ w4).setCell (fun h=>h rfl) _).setCell (fun h=>h rfl) _).setCell (fun h=>h rfl) _).setCell (fun h=>h rfl) _).trans (aC.of_below hb6));have HT:=zh (show aC (aB w2.heap.size) w3 w6 from (aC.of_below Hb34.out).trans (HT46.out.weakT fun k hk=>by simp only[aB] at hk;omega));have Hu:=zh ((HT46.out.block w3.heap.size hne4 hs4o).trans Hu4.out);have HzZ:=zh ((HT46.out.block (w.heap.size+2) AO AO).trans Hz4.out);have Hy6:=zh (show w6.heap[w.heap.size+1]?=some (.cells #[.slice P4 r.name.length p4,.slice Q4 r.key.length q4,.bool r.flag,.slice V4 r.value.length v4] 102 (0,0)) from (hb6.block (w.heap.size+1) (by simpa using hs4y)).trans ZE2);have Gs1:=zh (((Ps4.out.bsame (((((aC.refl _ w4).setCell ZC4 _).setCell ZC4 _).setCell ZC4 _).setCell ZC4 _)).bbelow hb6).blo (show w3.heap.size+1≤w3.heap.size+2 by omega));have Gs2:=zh (((Qs4.out.bsame (((((aC.refl _ w4).setCell ZC4 _).setCell ZC4 _).setCell ZC4 _).setCell ZC4 _)).bbelow hb6).blo (show w3.heap.size+1≤w3.heap.size+2 by omega));have Gs3:=zh (((Vs4.out.bsame (((((aC.refl _ w4).setCell ZC4 _).setCell ZC4 _).setCell ZC4 _).setCell ZC4 _)).bbelow hb6).blo (show w3.heap.size+1≤w3.heap.size+2 by omega));have Hw6:=zh (show Below w.heap.size w w6 from (((((Hw3.out.next Hb34.out AO).setCell ZC5 _).setCell ZC5 _).setCell ZC5 _).setCell ZC5 _).next hb6 ZC8);clear hb6 y0 y1 y2 y3 y4 y5 y6 y7 o0 o1 o2;obtain⟨y0,y1,y2,y3,_⟩:=bG Hy6.out;obtain⟨z0,z1,z2,z3,z4,z5⟩:=aY HzZ.out;obtain⟨o0,o1,o2,o3,o4,o5⟩:=aY Hu.out;have ho6:w3.heap.size<w6.heap.size:=AO;have hs6z:w.heap.size+2<w6.heap.size:=AO))
     refine bodyPost_ret (v:=.tuple #[.agg #[.int .i64 0,.slice none 0 0,.slice none 0 0],.int .i64 (11)]) (by simp[results,Tryz.results31,go_sem,z0,z1,z2]) rfl ?_
     rw[Hv0.out]
     exact⟨none,0,none,0,rfl,zn,zn,SL.nil,SL.nil,(((Hw6.out.setCell ZC5 _).setCell ZC5 _).setCell ZC5 _)⟩
    ·have Hv0:=zh (show aD0 t r=(⟨t.start,t.reads,t.writes++[r]⟩,0) by unfold aD0;rw[if_neg (by simpa using g1),if_neg (by simpa using g2),if_neg (by rw[g3];decide),if_neg g4])
     have b3:((t.writes.length:Int)==10)=false:=by rw[beq_eq_false_iff_ne];omega
     clear g1 g2 g3
     go_enter Tryz.func31,Tryz.ntmps31
     go_wp2_with (first
      | (go_at_call 63;refine (aD2 _ A B t n m (Ha.out.below wrR_stays Hbl.out) (Hb.out.below wrR_stays Hbl.out) hcn hcm).mono ?_;rintro e w1 ⟨rfl,hb1⟩;have hzz:=Hsz.out;have hs1:w.heap.size+3≤w1.heap.size:=ZE4;have Hx1:=zh ((hb1.block w.heap.size ZE0).trans Hx.out);have Hy1:=zh ((hb1.block (w.heap.size+1) ZE0).trans Hy.out);have Hz1:=zh ((hb1.block (w.heap.size+2) ZE0).trans Hz.out);have Hw1:=zh (Hbl.out.next hb1 ZE0);obtain⟨x0,x1,x2,_⟩:=aY Hx1.out;obtain⟨y0,y1,y2,y3,_⟩:=bG Hy1.out;obtain⟨z0,z1,z2,z3,z4,z5⟩:=aY Hz1.out;clear hzz hb1)
      | (go_at_call 64;refine (aF5 _ P Q V r p q v (Hp.out.bbelow Hw1.out) (Hq.out.bbelow Hw1.out) (Hv.out.bbelow Hw1.out) h1 h2 h3).mono ?_;rintro e w2 ⟨rfl,hb2⟩;have hs2:=hb2.size;have Hx2:=zh ((hb2.block w.heap.size AO).trans Hx1.out);have Hy2:=zh ((hb2.block (w.heap.size+1) AO).trans Hy1.out);have Hz2:=zh ((hb2.block (w.heap.size+2) AO).trans Hz1.out);have Hw2:=zh (Hw1.out.next hb2 AO);clear x0 x1 x2 y0 y1 y2 y3 z0 z1 z2 z3 z4 z5;obtain⟨x0,x1,x2,_⟩:=aY Hx2.out;obtain⟨y0,y1,y2,y3,_⟩:=bG Hy2.out;obtain⟨z0,z1,z2,z3,z4,z5⟩:=aY Hz2.out;clear hb2)
      | (go_at_call 65;refine (aN1 _ A B t n m (Ha.out.below wrR_stays Hw2.out) (Hb.out.below wrR_stays Hw2.out) hr80 hw80).mono ?_;rintro e w3 ⟨A3,n3,B3,m3,rfl,ho3,hb3⟩;have hs3:=hb3.size;have Hx3:=zh ((hb3.block w.heap.size AO).trans Hx2.out);have Hy3:=zh ((hb3.block (w.heap.size+1) AO).trans Hy2.out);have Hz3:=zh ((hb3.block (w.heap.size+2) AO).trans Hz2.out);have Hw3:=zh (Hw2.out.next hb3 AO);have Ho3:=zh ho3;clear x0 x1 x2 y0 y1 y2 y3 z0 z1 z2 z3 z4 z5 ho3 hb3;obtain⟨x0,x1,x2,_⟩:=aY Hx3.out;obtain⟨y0,y1,y2,y3,_⟩:=bG Hy3.out;obtain⟨z0,z1,z2,z3,z4,z5⟩:=aY Hz3.out;have hs3a:w.heap.size+2<w3.heap.size:=AO;have hs3c:w.heap.size<w3.heap.size:=AO;have hs3d:w.heap.size+1<w3.heap.size:=AO)
      | (go_at_call 66;refine (aQ0 _ _ [r] 1 ?hws ZH2).mono ?_;(case hws=>exact bH1 (w:=w3) (w3.heap.size+1) (by have:=aK (w3.alloc (.cells #[.int .i64 t.start,.slice A3 t.reads.length n3,.slice B3 t.writes.length m3] 98)) #[.slice P r.name.length p,.slice Q r.key.length q,.bool r.flag,.slice V r.value.length v] 102;simpa using this) (((Below.refl _ _).alloc zn _).alloc ZH2 _) (Hp.out.bbelow Hw3.out) (Hq.out.bbelow Hw3.out) (Hv.out.bbelow Hw3.out) h1 h2 h3);rintro e w4 ⟨L4,l4,rfl,hl4,hown4,hb4⟩;have hs4:w3.heap.size+2≤w4.heap.size:=(by have hq1:=hb4.size;simp at hq1;omega);obtain⟨g4,off4,P4,p4,Q4,q4,V4,v4,rfl,hfr4,hlt4,hd1,hd2,hd3,hd4,ps4,qs4,vs4,_,_,_⟩:=aF4 (hown4.sl wrR_stays (fun b hb _=>hb)) (k:=0) ZH2;simp only[List.getElem_cons_zero,Nat.zero_mul,Nat.add_zero] at hd1 hd2 hd3 hd4 ps4 qs4 vs4;have Hb34:=zh ((((Below.refl w3.heap.size w3).alloc zn _).alloc ZH2 _).next hb4 ZC8);have Hu4:=zh ((hb4.block w3.heap.size AU).trans ((heap_alloc_old _ _ ZH2).trans (aK w3 _ _)));have Hy4:=zh ((Hb34.out.block (w.heap.size+1) AO).trans Hy3.out);have Hz4:=zh ((Hb34.out.block (w.heap.size+2) AO).trans Hz3.out);have Ps4:=zh (ps4.bless (S':=aB (w3.heap.size+2)) fun b _ h=>by have h':=h;simp only[aB] at h' ⊢;simp at h';omega);have Qs4:=zh (qs4.bless (S':=aB (w3.heap.size+2)) fun b _ h=>by have h':=h;simp only[aB] at h' ⊢;simp at h';omega);have Vs4:=zh (vs4.bless (S':=aB (w3.heap.size+2)) fun b _ h=>by have h':=h;simp only[aB] at h' ⊢;simp at h';omega);clear hown4 ps4 qs4 vs4 x0 x1 x2 y0 y1 y2 y3 z0 z1 z2 z3 z4 z5;obtain⟨y0,y1,y2,y3,y4,y5,y6,y7⟩:=bG Hy4.out;obtain⟨o0,o1,o2,_⟩:=aY Hu4.out;have hs4y:w.heap.size+1<w4.heap.size:=AO;have hs4o:w3.heap.size<w4.heap.size:=AO;have hne4:¬ w3.heap.size=w.heap.size+1:=AO;have hne4':¬ w.heap.size+1=w3.heap.size:=AO)
      | (go_at_call 67;(with_reducible refine (bO0 _ B3 t.writes m3 (w.heap.size+1) P4 Q4 V4 r p4 q4 v4 ?g1 hbig ?g2 ?g3 ?g4 ?g5).mono ?_);(case g1=>exact ((((Ho3.out.writes.less wrR_stays (S':=aB w2.heap.size) fun b _ h=>h.1).below wrR_stays Hb34.out).same wrR_stays (((((aC.refl _ w4).setCell ZC4 _).setCell ZC4 _).setCell ZC4 _).setCell ZC4 _)).z wrR_stays));(case g2=>exact (Ps4.out.bsame (((((aC.refl _ w4).setCell ZC4 _).setCell ZC4 _).setCell ZC4 _).setCell ZC4 _)).bz);(case g3=>exact (Qs4.out.bsame (((((aC.refl _ w4).setCell ZC4 _).setCell ZC4 _).setCell ZC4 _).setCell ZC4 _)).bz);(case g4=>exact (Vs4.out.bsame (((((aC.refl _ w4).setCell ZC4 _).setCell ZC4 _).setCell ZC4 _).setCell ZC4 _)).bz);(case g5=>(rw[heap_setCell_same _ _ _ _ _ _ (heap_setCell_same _ _ _ _ _ _ (heap_setCell_same _ _ _ _ _ _ (heap_setCell_same _ _ _ _ _ _ Hy4.out)))];rfl));rintro e w6 ⟨rfl,hb6⟩;rw[Hidx.out];have hs6:w4.heap.size≤w6.heap.size:=(by have hq1:=hb6.size;simp at hq1;omega);have HT46:=zh (show aC (fun b=>b≠w.heap.size+1) w4 w6 from (((((aC.refl _ w4).setCell (fun h=>h rfl) _).setCell (fun h=>h rfl) _).setCell (fun h=>h rfl) _).setCell (fun h=>h rfl) _).trans (aC.of_below hb6));have HT:=zh (show aC (aB w2.heap.size) w3 w6 from (aC.of_below Hb34.out).trans (HT46.out.weakT fun k hk=>by simp only[aB] at hk;omega));have Hu:=zh ((HT46.out.block w3.heap.size hne4 hs4o).trans Hu4.out);have HzZ:=zh ((HT46.out.block (w.heap.size+2) AO AO).trans Hz4.out);have Hy6:=zh (show w6.heap[w.heap.size+1]?=some (.cells #[.slice P4 r.name.length p4,.slice Q4 r.key.length q4,.bool r.flag,.slice V4 r.value.length v4] 102 (0,0)) from (hb6.block (w.heap.size+1) (by simpa using hs4y)).trans ZE2);have Gs1:=zh (((Ps4.out.bsame (((((aC.refl _ w4).setCell ZC4 _).setCell ZC4 _).setCell ZC4 _).setCell ZC4 _)).bbelow hb6).blo (show w3.heap.size+1≤w3.heap.size+2 by omega));have Gs2:=zh (((Qs4.out.bsame (((((aC.refl _ w4).setCell ZC4 _).setCell ZC4 _).setCell ZC4 _).setCell ZC4 _)).bbelow hb6).blo (show w3.heap.size+1≤w3.heap.size+2 by omega));have Gs3:=zh (((Vs4.out.bsame (((((aC.refl _ w4).setCell ZC4 _).setCell ZC4 _).setCell ZC4 _).setCell ZC4 _)).bbelow hb6).blo (show w3.heap.size+1≤w3.heap.size+2 by omega));have Hw6:=zh (show Below w.heap.size w w6 from (((((Hw3.out.next Hb34.out AO).setCell ZC5 _).setCell ZC5 _).setCell ZC5 _).setCell ZC5 _).next hb6 ZC8);clear hb6 y0 y1 y2 y3 y4 y5 y6 y7 o0 o1 o2;obtain⟨y0,y1,y2,y3,_⟩:=bG Hy6.out;obtain⟨z0,z1,z2,z3,z4,z5⟩:=aY HzZ.out;obtain⟨o0,o1,o2,o3,o4,o5⟩:=aY Hu.out;have ho6:w3.heap.size<w6.heap.size:=AO;have hs6z:w.heap.size+2<w6.heap.size:=AO;have hlA:=Ho3.out.2.2.1.blt;have hlB:=Ho3.out.2.2.2.1.blt;have hab:=Ho3.out.2.2.2.2)
      | (at_builtin;refine bH3 wrR_stays (S:=fun b=>(aB w2.heap.size b∧blk A3≠some b)∧b≠w3.heap.size) _ rfl _ _ _ rfl w2.heap.size 102 i0 _ 4 80 Tryz.underlying37 hi0 hz0 hz1 hz2 rfl ZD9 (.slice B3 t.writes.length m3) t.writes rfl ?hown _ _ [.slice P4 r.name.length p4,.slice Q4 r.key.length q4,.bool r.flag,.slice V4 r.value.length v4] rfl rfl (aE6 _ _ [.slice P4 r.name.length p4,.slice Q4 r.key.length q4,.bool r.flag,.slice V4 r.value.length v4] _ ZH2) ZE8 ?hm ?hby ?hba r ?hd ?_;(case hown=>exact Ho3.out.2.2.2.1.keep wrR_stays (T:=aB w2.heap.size) (HT.out.alloc _) (fun b _ h=>h.1) (fun b hb=>(hlB b (by rw[aC5] at hb;exact hb)).1) (fun b hb h=>⟨h,AO⟩) zn);(case hm=>(simp only[maxLen];omega));(case hby=>omega);(case hba=>(simp;omega));(case hd=>(refine bV8 (n:=w3.heap.size+1) Gs1.out Gs2.out Gs3.out h1 h2 h3 ?_ (fun b hb=>⟨⟨⟨by have hb':w3.heap.size+1≤b:=hb;show w2.heap.size≤b;omega,fun h=>by have hb':w3.heap.size+1≤b:=hb;have:=hlA b h;omega⟩,by have hb':w3.heap.size+1≤b:=hb;omega⟩,fun h=>by have hb':w3.heap.size+1≤b:=hb;rw[aC5] at h;have:=hlB b h;omega⟩);exact SM));intro v8 w8 hown8 hbw8 hgr8 hat8;obtain⟨A8,c8,rfl,hcap8,_⟩:∃ A c,v8=.slice A (t.writes++[r]).length c∧(t.writes++[r]).length≤c∧True:=(by obtain⟨xs,hk1,_⟩:=hown8;rcases hk1.2 with ⟨hn,h0⟩|⟨g,cap,cur,hv,_,_,hcap,_⟩;(simp at h0);exact⟨_,cap,hv,hcap,trivial⟩);have Hown8:=zh hown8;clear hown8;have hbx8:w8.heap[w3.heap.size]?=some (.cells #[.int .i64 t.start,.slice A3 t.reads.length n3,.slice B3 t.writes.length m3] 98 (0,0)):=(hgr8.block w3.heap.size ZC8 (fun e=>by rw[aC5] at e;have:=hlB _ e.symm;omega)).trans ((heap_alloc_old _ _ ho6).trans Hu.out);obtain⟨ge0,ge1,ge2,ge3,ge4,ge5⟩:=aY hbx8;obtain⟨z0,z1,z2,z3,z4,z5⟩:=aY ((hbw8.block (w.heap.size+2) AO).trans ((heap_alloc_old _ _ AO).trans HzZ.out));have hs8:=hgr8.size;simp at hs8;have hs8':w.heap.size+2<w8.heap.size:=AO;have hs8'':w3.heap.size<w8.heap.size:=AO;have hs8n:¬ w3.heap.size=w.heap.size+2:=AO;have hs8m:¬ w.heap.size+2=w3.heap.size:=AO))
     have hl8:(t.writes++[r]).length=t.writes.length+1:=by simp
     refine bodyPost_ret (v:=.tuple #[.agg #[.int .i64 t.start,.slice A3 t.reads.length n3,.slice A8 (t.writes++[r]).length c8],.int .i64 0]) (by simp[results,Tryz.results31,go_sem,z0,z1,z2,hs8n,hs8m]) rfl ?_
     rw[Hv0.out]
     refine⟨A3,n3,A8,c8,rfl,Ho3.out.1,hcap8,?_,?_,?_⟩
     ·have h7:Ws (fun b=>(aB w2.heap.size b∧blk B3≠some b)∧b<w3.heap.size) w3 A3 t.reads:=Ho3.out.reads.less wrR_stays fun b hb h=>⟨h,hb⟩
      refine (h7.same wrR_stays ?_).less wrR_stays fun b _ h=>by have h':w2.heap.size≤b:=h.1.1;show w.heap.size≤b;omega
      exact ((((((HT.out.weakT fun k hk=>hk.1.1).alloc _).grown hgr8 (fun k hk hs=>hs.1.2 (by rw[aC5] at hk;exact hk))).setCell (fun h=>by have h':=h.2;simp only[] at h';omega) _).setCell ZD4 _).setCell ZD4 _).setCell ZD4 _
     ·have hS:∀ b,w2.heap.size≤b→blk A8=some b→(aB w2.heap.size b∧blk A3≠some b)∧b≠w3.heap.size:=fun b hb hA=>by
       rw[aC5,aC5] at hat8
       rcases hat8 with h|h
       ·rw[hA] at h
        exact⟨⟨hb,fun h'=>hab b h' h.symm⟩,by have:=hlB b h.symm;omega⟩
       ·rw[hA] at h
        simp at h
        exact⟨⟨hb,fun hB=>by have:=hlA b hB;omega⟩,AO⟩
      refine ((Hown8.out.sl wrR_stays hS).same wrR_stays ?_).less wrR_stays fun b _ h=>by have h':w2.heap.size≤b:=h.1.1;show w.heap.size≤b;omega
      exact ZB1
     ·exact ((((((Hw6.out).alloc AO _).trans (hbw8.mono AO)).setCell ZC5 _).setCell ZC5 _).setCell ZC5 _).setCell ZC5 _
  ·have b2':(aH r != 0)=true:=by simpa using g2
   have Hv0:=zh (show aD0 t r=(zeroTx,aH r) by unfold aD0;rw[if_neg (by simpa using g1),if_pos g2])
   clear g1 g2
   go_enter Tryz.func31,Tryz.ntmps31
   go_wp2_with (first
    | (go_at_call 63;refine (aD2 _ A B t n m (Ha.out.below wrR_stays Hbl.out) (Hb.out.below wrR_stays Hbl.out) hcn hcm).mono ?_;rintro e w1 ⟨rfl,hb1⟩;have hzz:=Hsz.out;have hs1:w.heap.size+3≤w1.heap.size:=ZE4;have Hx1:=zh ((hb1.block w.heap.size ZE0).trans Hx.out);have Hy1:=zh ((hb1.block (w.heap.size+1) ZE0).trans Hy.out);have Hz1:=zh ((hb1.block (w.heap.size+2) ZE0).trans Hz.out);have Hw1:=zh (Hbl.out.next hb1 ZE0);obtain⟨x0,x1,x2,_⟩:=aY Hx1.out;obtain⟨y0,y1,y2,y3,_⟩:=bG Hy1.out;obtain⟨z0,z1,z2,z3,z4,z5⟩:=aY Hz1.out;clear hzz hb1)
    | (go_at_call 64;refine (aF5 _ P Q V r p q v (Hp.out.bbelow Hw1.out) (Hq.out.bbelow Hw1.out) (Hv.out.bbelow Hw1.out) h1 h2 h3).mono ?_;rintro e w2 ⟨rfl,hb2⟩;have hs2:=hb2.size;have Hx2:=zh ((hb2.block w.heap.size AO).trans Hx1.out);have Hy2:=zh ((hb2.block (w.heap.size+1) AO).trans Hy1.out);have Hz2:=zh ((hb2.block (w.heap.size+2) AO).trans Hz1.out);have Hw2:=zh (Hw1.out.next hb2 AO);clear x0 x1 x2 y0 y1 y2 y3 z0 z1 z2 z3 z4 z5;obtain⟨x0,x1,x2,_⟩:=aY Hx2.out;obtain⟨y0,y1,y2,y3,_⟩:=bG Hy2.out;obtain⟨z0,z1,z2,z3,z4,z5⟩:=aY Hz2.out;clear hb2))
   refine bodyPost_ret (v:=.tuple #[.agg #[.int .i64 0,.slice none 0 0,.slice none 0 0],.int .i64 (aH r)]) (by simp[results,Tryz.results31,go_sem,z0,z1,z2]) rfl ?_
   rw[Hv0.out]
   exact⟨none,0,none,0,rfl,zn,zn,SL.nil,SL.nil,(((Hw2.out.setCell ZC5 _).setCell ZC5 _).setCell ZC5 _)⟩
 ·have b1:(aN t==0)=false:=by simpa using g1
  have b1':(aN t != 0)=true:=by simpa using g1
  have Hv0:=zh (show aD0 t r=(zeroTx,aN t) by unfold aD0;rw[if_pos g1])
  clear g1
  go_enter Tryz.func31,Tryz.ntmps31
  go_wp2_with ((go_at_call 63;refine (aD2 _ A B t n m (Ha.out.below wrR_stays Hbl.out) (Hb.out.below wrR_stays Hbl.out) hcn hcm).mono ?_;rintro e w1 ⟨rfl,hb1⟩;have hzz:=Hsz.out;have hs1:w.heap.size+3≤w1.heap.size:=ZE4;have Hx1:=zh ((hb1.block w.heap.size ZE0).trans Hx.out);have Hy1:=zh ((hb1.block (w.heap.size+1) ZE0).trans Hy.out);have Hz1:=zh ((hb1.block (w.heap.size+2) ZE0).trans Hz.out);have Hw1:=zh (Hbl.out.next hb1 ZE0);obtain⟨x0,x1,x2,_⟩:=aY Hx1.out;obtain⟨y0,y1,y2,y3,_⟩:=bG Hy1.out;obtain⟨z0,z1,z2,z3,z4,z5⟩:=aY Hz1.out;clear hzz hb1))
  refine bodyPost_ret (v:=.tuple #[.agg #[.int .i64 0,.slice none 0 0,.slice none 0 0],.int .i64 (aN t)]) (by simp[results,Tryz.results31,go_sem,z0,z1,z2]) rfl ?_
  rw[Hv0.out]
  exact⟨none,0,none,0,rfl,zn,zn,SL.nil,SL.nil,(((Hw1.out.setCell ZC5 _).setCell ZC5 _).setCell ZC5 _)⟩
end Go.Proofs.YtablgnacmpcfeaaGreatDoor
