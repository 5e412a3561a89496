/- TapeR: Recovery in plain words: the frame at a place, the frames from a place on. Walk: frameAt. Walk: TapeRecovered. Walk: slices.Equal of bytes, at two lists of one length. Walk: tape.Recover. The conditions of each are in its words. -/
import Derived.Test.YtablgnacmpcfeaaGreatDoorKTapeB
import Derived.Test.YtablgnacmpcfeaaGreatDoorKDec
import Derived.Test.YtablgnacmpcfeaaGreatDoorKBase
import Derived.Test.YtablgnacmpcfeaaGreatDoorKSum
namespace Go.Proofs.YtablgnacmpcfeaaGreatDoor
open Go.RowKit
set_option linter.unusedVariables false
set_option linter.unusedSimpArgs false
set_option maxRecDepth 100000
set_option maxHeartbeats 8000000
def frameF:List UInt8→Option (Cm × Nat)
 | a :: b :: r =>
  let n:=256*a.toNat+b.toNat
  if 4000<n+2∨r.length<n+4 then none
  else if (aL2 (a :: b :: r.take n)).take 4≠(r.drop n).take 4 then none
  else if (aT7 (r.take n)).2≠0 then none
  else some ((aT7 (r.take n)).1,n+6)
 | _=>none
def recF:Nat→List UInt8→Nat→List Cm × Nat
 | 0,_,_=>([],0)
 | k+1,d,turn =>
  match frameF d with
  | none=>([],0)
  | some (c,n)=>if c.1≠(turn:Int) then ([],0) else ((c :: (recF k (d.drop n) (turn+1)).1),n+(recF k (d.drop n) (turn+1)).2)
def bQ6 (t:Tp):(List Cm × Tp) × Int :=
 if aR5 t=false then (([],([],0)),6)
 else (((recF t.1.length t.1 1).1,(t.1.take (recF t.1.length t.1 1).2,min t.2 ((recF t.1.length t.1 1).2:Int))),0)
theorem cM6 {d:List UInt8} {c:Cm} {n:Nat} (h:frameF d=some (c,n)):n≤d.length∧6≤n∧n≤4004:=by
 match d,h with
 | [],h=>simp[frameF] at h
 | [x],h=>simp[frameF] at h
 | a :: b :: r,h =>
  simp only[frameF] at h
  split at h
  ·cases h
  ·rename_i h1
   split at h
   ·cases h
   ·split at h
    ·cases h
    ·simp only[Option.some.injEq,Prod.mk.injEq] at h
     obtain⟨_,rfl⟩:=h
     simp only[List.length_cons]
     omega
theorem aN6 {k:Nat} {d:List UInt8} {turn:Nat} (h:frameF d=none):recF k d turn=([],0):=by
 cases k with
 | zero=>rfl
 | succ k=>unfold recF;rw[h]
theorem cU9 {k:Nat} {d:List UInt8} {turn:Nat} {c:Cm} {n:Nat} (h:frameF d=some (c,n)) (hc:c.1≠(turn:Int)):recF k d turn=([],0):=by
 cases k with
 | zero=>rfl
 | succ k=>unfold recF;rw[h];exact if_pos hc
theorem bX1 {k:Nat} {d:List UInt8} {turn:Nat} {c:Cm} {n:Nat} (h:frameF d=some (c,n)) (hc:c.1=(turn:Int)):recF (k+1) d turn=(c :: (recF k (d.drop n) (turn+1)).1,n+(recF k (d.drop n) (turn+1)).2):=by
 conv=>lhs;unfold recF
 rw[h]
 exact if_neg (by simpa using hc)
theorem bD7 {a b:UInt8} {r:List UInt8} (h:4000<256*a.toNat+b.toNat+2∨r.length<256*a.toNat+b.toNat+4):frameF (a :: b :: r)=none:=by
 unfold frameF
 exact if_pos h
theorem cM7 {d:List UInt8} (h:d.length<6):frameF d=none:=by
 match d,h with
 | [],_=>rfl
 | [_],_=>rfl
 | a :: b :: r,h =>
  simp only[List.length_cons] at h
  unfold frameF
  exact if_pos (.inr AO)
theorem info_cmT:(Tryz.prog.info? 177).map (fun i=>(i.zero,i.size,i.bytes))=some (some (.agg #[.int .i64 0,.slice none 0 0]),2,32):=by kernel_rfl
def RetRec (w:World) (r:(List Cm × Tp) × Int) (e:Ending) (w':World):Prop :=
 ∃ v B d,e=.returned (.tuple #[v,.agg #[.slice B r.1.2.1.length d,.int .i64 r.1.2.2],.int .i64 r.2])∧r.1.2.1.length≤d∧Own 2 CmR (aB w.heap.size) w' w.heap.size 177 v r.1.1∧Bs (fun b=>aB w.heap.size b∧v.ownBlock≠some b) w' B r.1.2.1∧Below w.heap.size w w'
def cG8 (d:List UInt8) (done:List Cm) (p:Nat):Prop :=
 p≤d.length∧6*done.length≤p∧recF d.length d 1=(done++(recF (d.length - done.length) (d.drop p) (done.length+1)).1,p+(recF (d.length - done.length) (d.drop p) (done.length+1)).2)
theorem cM8 (d:List UInt8):cG8 d [] 0:=⟨Nat.zero_le _,Nat.zero_le _,by simp⟩
theorem aR1 {d:List UInt8} {done:List Cm} {p:Nat} (h:cG8 d done p) (he:∀ k,recF k (d.drop p) (done.length+1)=([],0)):recF d.length d 1=(done,p):=by
 rw[h.2.2,he]
 simp
theorem cM9 {d:List UInt8} {done:List Cm} {p n:Nat} {c:Cm} (h:cG8 d done p) (hf:frameF (d.drop p)=some (c,n)) (hc:c.1=((done.length+1:Nat):Int)):cG8 d (done++[c]) (p+n)∧p+n≤d.length∧6≤n∧n≤4004:=by
 obtain⟨h1,h2,h3⟩:=h
 obtain⟨f1,f2,f3⟩:=cM6 hf
 rw[List.length_drop] at f1
 refine⟨⟨AO,by simp;omega,?_⟩,AO,f2,f3⟩
 obtain⟨k,hk⟩:∃ k,d.length - done.length=k+1:=⟨d.length - done.length - 1,AO⟩
 rw[h3,hk,bX1 hf hc,List.length_append,List.length_singleton,show d.length - (done.length+1)=k by omega,List.drop_drop]
 simp[Nat.add_assoc]
theorem dec_few (b:List UInt8):(aT7 b).1.2.length*80≤140737488355328:=by
 have h255:aL6 b<256:=aK2 _
 unfold aT7
 split
 ·simp
 ·split
  ·simp
  ·split
   ·simp
   ·split
    ·simp
    ·show (cmS b).2.length*80≤_
     unfold cmS
     rw[bL6]
     omega
theorem aM6 (w:World) (a b:Obj):((w.alloc a).alloc b).heap[w.heap.size]?=some a∧((w.alloc a).alloc b).heap[w.heap.size+1]?=some b∧((w.alloc a).alloc b).heap.size=w.heap.size+2∧Below w.heap.size w ((w.alloc a).alloc b):=by
 refine⟨?_,?_,by simp,((Below.refl _ _).alloc zn _).alloc ZH2 _⟩
 ·rw[aB9 _ _ ZH2,aN3]
 ·have:=aN3 (w.alloc a) b
  simpa using this
theorem Own.keepT {α:Type} {size:Nat} {R:(Nat→Prop)→World→List Value→α→Prop} {S T S2:Nat→Prop} {w w':World} {base base':Nat} {e:TypeId} {v:Value} {l:List α} (hR:bI R) (h:Own size R S w base e v l) (hb:aC T w w') (hST:∀ b,b<w.heap.size→S b→T b) (hv:∀ b,v.ownBlock=some b→T b) (hS2:∀ b,b<w.heap.size→S b→S2 b) (hbase:base'≤base):Own size R S2 w' base' e v l:=by
 obtain⟨xs,h1,h2⟩:=h
 refine⟨xs,⟨h1.1,?_⟩,fun i hi=>?_⟩
 ·rcases h1.2 with hn|⟨g,cap,cur,hv',hb',hh,rest⟩
  ·exact .inl hn
  ·refine .inr ⟨g,cap,cur,hv',Nat.le_trans hbase hb',?_,rest⟩
   rw[hb.block g (hv g (by rw[hv'];rfl)) (Array.getElem?_eq_some_iff.1 hh).1]
   exact hh
 ·have h3:=hR.less _ (fun b=>(S2 b∧v.ownBlock≠some b)∧T b) w _ _ (fun b hb2 hs=>⟨⟨hS2 b hb2 hs.1,hs.2⟩,hST b hb2 hs.1⟩) (h2 i hi)
  have h4:=hR.same _ w w' _ _ ⟨hb.size,fun k hk hk2=>hb.block k hk.2 hk2⟩ h3
  exact hR.less _ _ _ _ _ (fun b _ hs=>hs.1) h4
theorem Own.lowT {α:Type} {size:Nat} {R:(Nat→Prop)→World→List Value→α→Prop} {S:Nat→Prop} {w:World} {base:Nat} {e:TypeId} {v:Value} {l:List α} (h:Own size R S w base e v l):∀ b,v.ownBlock=some b→base≤b∧b<w.heap.size:=by
 obtain⟨xs,h1,_⟩:=h
 exact fun b hb=>h1.lt b hb
theorem bX2 (w:World) (m n:Nat):(w.drewN m).drewN n=w.drewN (m+n):=by
 simp[World.drewN,Nat.add_assoc]
theorem beq_at {a b:List UInt8} {k:Nat} (h1:k<a.length) (h2:k<b.length) (h:a[k]≠b[k]):(a==b)=false:=by
 rw[beq_eq_false_iff_ne]
 intro e
 subst e
 exact h rfl
theorem cN0 (w:World) (A B:Option Addr) (a b:List UInt8) (n c d:Nat) (ha:Bs All w A a) (hb:Bs All w B b) (hn:a.length=n) (hm:b.length=n) (h8:n≤big) :
  Calls Tryz.prog 181 #[.slice A n c,.slice B n d] w (fun e w'=>e=.returned (.bool (a==b))∧∃ m,w'=w.drewN m):=by
 unfold big at h8
 have Ha:=zh ha
 have Hb:=zh hb
 have Hn:=zh hn
 have Hm:=zh hm
 clear ha hb hn hm
 go_enter Tryz.func181,Tryz.ntmps181
 go_wp2
 go_loopw [13] (fun i wr=>∃ k:Nat,k≤n∧i=.int .i64 k∧a.take k=b.take k∧∃ m,wr=w.drewN m) (fun i _=>n - (intOf i).toNat)
 case atStart=>exact⟨0,AO,rfl,rfl,0,rfl⟩
 case round =>
  obtain⟨k,hk,rfl,heq,m,rfl⟩:=hrel
  have Heq:=zh heq
  clear heq
  by_cases hlt:k<n
  ·have k1:k<a.length:=by have:=Hn.out;omega
   have k2:k<b.length:=by have:=Hm.out;omega
   obtain⟨g,off,rfl,_,hal,hc1⟩:=Ha.out.bat k1
   obtain⟨g',off',rfl,_,hal',hc2⟩:=Hb.out.bat k2
   have T1:=zh (aC8 a k k1)
   have T2:=zh (aC8 b k k2)
   have Hne:=zh (beq_at k1 k2)
   have hi0:(0:Int)≤(k:Int):=by omega
   have hi1:(k:Int)<(n:Int):=by omega
   generalize a[k]=x at *
   generalize b[k]=y at *
   by_cases hxy:x=y
   ·subst hxy
    clear k1 k2
    go_wp2
    go_quiet (fail)
    go_wp2
    go_roundw
    case rel=>exact⟨k+1,AO,by go_num,by rw[T1.out,T2.out,Heq.out],(by first|exact⟨_,rfl⟩|exact⟨m+nq,bX2 w m nq⟩)⟩
    case measure=>simp[intOf];omega
   ·have b1:((x.toNat:Int) != (y.toNat:Int))=true:=by
     rw[bne_iff_ne]
     intro e
     exact hxy (UInt8.toNat_inj.1 (by exact_mod_cast e))
    have Hv:=zh (Hne.out hxy)
    clear k1 k2 hxy
    go_wp2
    go_quiet (fail)
    go_wp2
    go_ret
    exact⟨aC9 Hv.out.symm,(by first|exact⟨_,rfl⟩|exact⟨m+nq,bX2 w m nq⟩)⟩
  ·obtain rfl:k=n:=by omega
   have Hv:=zh (show (a==b)=true by
    have h:=Heq.out
    rw[List.take_of_length_le (by rw[Hn.out];omega),List.take_of_length_le (by rw[Hm.out];omega)] at h
    rw[h]
    exact beq_self_eq_true b)
   go_wp2
   go_ret
   exact⟨aC9 Hv.out.symm,m,rfl⟩
theorem bJ8 {d:List UInt8} (h:d.length<2):frameF d=none:=cM7 AO
theorem cV0 {a b:UInt8} {r:List UInt8} (h:(aL2 (a :: b :: r.take (256*a.toNat+b.toNat))).take 4≠(r.drop (256*a.toNat+b.toNat)).take 4):frameF (a :: b :: r)=none:=by
 unfold frameF
 dsimp only
 by_cases h1:4000<256*a.toNat+b.toNat+2∨r.length<256*a.toNat+b.toNat+4
 ·exact if_pos h1
 ·rw[if_neg h1,if_pos h]
theorem cV1 {a b:UInt8} {r:List UInt8} (h:(aT7 (r.take (256*a.toNat+b.toNat))).2≠0):frameF (a :: b :: r)=none:=by
 unfold frameF
 dsimp only
 by_cases h1:4000<256*a.toNat+b.toNat+2∨r.length<256*a.toNat+b.toNat+4
 ·exact if_pos h1
 ·rw[if_neg h1]
  by_cases h2:(aL2 (a :: b :: r.take (256*a.toNat+b.toNat))).take 4≠(r.drop (256*a.toNat+b.toNat)).take 4
  ·exact if_pos h2
  ·rw[if_neg h2]
   exact if_pos h
theorem bQ7 {a b:UInt8} {r:List UInt8} (h1:¬ (4000<256*a.toNat+b.toNat+2∨r.length<256*a.toNat+b.toNat+4)) (h2:(aL2 (a :: b :: r.take (256*a.toNat+b.toNat))).take 4=(r.drop (256*a.toNat+b.toNat)).take 4) (h3:(aT7 (r.take (256*a.toNat+b.toNat))).2=0) :
  frameF (a :: b :: r)=some ((aT7 (r.take (256*a.toNat+b.toNat))).1,256*a.toNat+b.toNat+6):=by
 unfold frameF
 dsimp only
 rw[if_neg h1,if_neg (fun h:_≠_=>h h2),if_neg (fun h:_≠(0:Int)=>h h3)]
theorem bB3 {w w0 wr WF:World} {R p:Nat} {v:Value} {done:List Cm} {data:List UInt8} {n:Int} {A:Option Addr} {r:(List Cm × Tp) × Int}
  (hr:r=((done,(data.take p,n)),0)) (hp:p≤data.length) (hR2:R<w.heap.size+2) (hz:w.heap.size+2≤w0.heap.size) (hA:Bs (aB (w.heap.size+2)) w0 A data) (hb:Below w0.heap.size w0 wr) (hown:Own 2 CmR (aB w0.heap.size) wr w0.heap.size 177 v done)
  (hF:aC (fun b=>b≠R) wr WF) (hB:Below w.heap.size w WF) :
  RetRec w r (.returned (.tuple #[v,.agg #[.slice A p p,.int .i64 n],.int .i64 0])) WF:=by
 subst hr
 have hl:(data.take p).length=p:=by rw[List.length_take];omega
 refine⟨v,A,p,by rw[hl],by rw[hl];exact zn,?_,?_,hB⟩
 ·refine hown.keepT cmR_stays (T:=fun b=>b≠R) hF (fun b _ h=>?_) (fun b hb=>?_) (fun b _ h=>?_) AO
  ·have h':w0.heap.size≤b:=h
   show b≠R
   omega
  ·have:=(hown.lowT b hb).1
   show b≠R
   omega
  ·have h':w0.heap.size≤b:=h
   exact (show w.heap.size≤b by omega)
 ·have h1:Bs (fun b=>aB (w.heap.size+2) b∧v.ownBlock≠some b) w0 A (data.take p):=(aX0 hA p).bless fun b hb h=>⟨h,fun he=>by have:=(hown.lowT b he).1;omega⟩
  have h2:Bs (fun b=>b≠R∧aB w.heap.size b∧v.ownBlock≠some b) w0 A (data.take p):=h1.bless fun b _ h=>⟨by have h':w.heap.size+2≤b:=h.1;omega,by have h':w.heap.size+2≤b:=h.1;exact (show w.heap.size≤b by omega),h.2⟩
  have h3:=(h2.bsame (aC.of_below hb)).bsame (⟨hF.size,fun k hk hk'=>hF.block k hk.1 hk'⟩:aC (fun b=>b≠R∧aB w.heap.size b∧v.ownBlock≠some b) wr WF)
  exact h3.bless fun b _ h=>h.2
theorem bs_at {S:Nat→Prop} {w:World} {g:Nat} {l:List UInt8} (h:Bs S w (some ⟨g,0,none⟩) l) (i n:Nat):Bs S w (some ⟨g,i,none⟩) ((l.drop i).take n):=by
 have h1:=aN5 h i n
 rw[Option.map_some,bC,Nat.zero_add] at h1
 exact h1
theorem bQ8 (w:World) (hT:bD w) (A:Option Addr) (t:Tp) (c:Nat) (ha:Bs All w A t.1) :
  Calls Tryz.prog 124 #[.agg #[.slice A t.1.length c,.int .i64 t.2]] w (RetRec w (bQ6 t)):=by
 obtain⟨i0,hi0,hz0,hz1,hz2⟩:=info_parts info_cmT
 have Ha:=zh ha
 have HT:=zh hT
 clear ha hT
 rcases Bool.eq_false_or_eq_true (aR5 t) with hm|hm
 ·obtain⟨m0,m1,m2⟩:=(aH8 t).1 hm
  have Hv:=zh (show bQ6 t=(((recF t.1.length t.1 1).1,(t.1.take (recF t.1.length t.1 1).2,min t.2 ((recF t.1.length t.1 1).2:Int))),0) by unfold bQ6;rw[if_neg (by simp[hm])])
  have Hm:=zh hm
  clear hm
  go_enter Tryz.func124,Tryz.ntmps124
  go_wp2_with (go_at_call 179;(with_reducible refine (aQ2 _ A t c ?ha Hm.out).mono ?_);(case ha=>exact Ha.out.bbelow (((Below.refl _ _).alloc zn _).alloc ZH2 _));rintro e w1 ⟨A1,c1,rfl,hc1,ho1,hb1⟩)
  obtain⟨q1,q2,q3,q4⟩:=aM6 w (.cells #[.slice A t.1.length c,.int .i64 t.2] 108) (.cells #[.slice none 0 0,.int .i64 0] 108)
  have k2:=(hb1.block (w.heap.size+1) AO).trans q2
  have hbw:=q4.next hb1 q4.size
  have hT1:=HT.out.below hbw
  have hz:=hb1.size
  obtain⟨_,hbs1⟩:=SL.bof_own ho1
  have hbs:Bs (aB (w.heap.size+2)) w1 A1 t.1:=hbs1.blo ZH2
  have hG:w.heap.size+2≤w1.heap.size:=by omega
  have hcase:=ho1.2
  clear q1 q2 q3 q4 hb1 hz ho1 hbs1
  rcases A1 with _|⟨g,off,sub⟩
  ·have h0:t.1.length=0:=by
    cases ht:t.1 with
    | nil=>rfl
    | cons b l=>obtain⟨_,_,h',_⟩:=hbs (by rw[ht];simp);cases h'
   have hcc:c1=0:=by
    rcases hcase with ⟨hn,_⟩|⟨g',cap,cur,hv,_⟩
    ·simp only[Value.slice.injEq] at hn
     exact hn.2.2
    ·cases hv
   have hd0:t.1=[]:=List.eq_nil_of_length_eq_zero h0
   have hr0:recF t.1.length t.1 1=([],0):=by rw[hd0];rfl
   have ht2:t.2=0:=by omega
   have Hr:=zh (show bQ6 t=(([],([],0)),0) by rw[Hv.out,hr0,hd0,ht2];rfl)
   subst hcc
   have k3:=(aB9 w1 (.cells #[.slice none 0 0,.int .i64 0] 108) AO).trans k2
   have k4:=heap_alloc_new w1 (.cells #[.slice none 0 0,.int .i64 0] 108)
   obtain⟨x0,x1,_,_⟩:=bF k4
   obtain⟨g0,g1,f0,f1⟩:=bF k3
   have hl1:w.heap.size+1<(w1.alloc (.cells #[.slice none 0 0,.int .i64 0] 108)).heap.size:=by simp;omega
   have hGl:w1.heap.size<(w1.alloc (.cells #[.slice none 0 0,.int .i64 0] 108)).heap.size:=by simp
   have hbF:=hbw.alloc hbw.size (.cells #[.slice none 0 0,.int .i64 0] 108)
   rw[h0,ht2]
   clear hcase hbs k2 k3 k4 hr0 hd0 h0 hc1 hT1 hbw Hv ht2
   generalize w1.alloc (.cells #[.slice none 0 0,.int .i64 0] 108)=w0 at *
   go_loopw [7,8] (fun v i wr=>v=.slice none 0 0∧i=.int .i64 0∧wr=w0) (fun _ _ _=>0)
   case atStart=>exact⟨rfl,rfl,rfl⟩
   case round =>
    obtain⟨rfl,rfl,rfl⟩:=hrel
    go_wp2
    go_region
    go_wp2
    refine bodyPost_ret (v:=.tuple #[.slice none 0 0,.agg #[.slice none 0 0,.int .i64 0],.int .i64 0]) (by simp[results,Tryz.results124,go_sem,g0,g1,f0,f1,hl1]) rfl ?_
    rw[Hr.out]
    exact⟨.slice none 0 0,none,0,rfl,zn,Own.nil _ _ _,SL.nil,((hbF.setCell (p:=⟨w.heap.size+1,0,none⟩) (Nat.le_succ _) _).setCell (p:=⟨w.heap.size+1,1,none⟩) (Nat.le_succ _) _).drew⟩
  ·have hoff:off=0∧sub=none:=by
    rcases hcase with ⟨hn,_⟩|⟨g',cap,cur,hv,_⟩
    ·cases hn
    ·simp only[Value.slice.injEq,Option.some.injEq,Addr.mk.injEq] at hv
     exact⟨hv.1.2.1,hv.1.2.2⟩
   obtain⟨rfl,rfl⟩:=hoff
   clear hcase
   have hb0:Below w1.heap.size w1 (w1.alloc (.cells #[.slice (some ⟨g,0,none⟩) t.1.length c1,.int .i64 t.2] 108)):=(Below.refl _ _).alloc zn _
   have HA0:=zh (hbs.bbelow hb0)
   have HT0:=zh (hT1.below hb0)
   have X0:=zh (heap_alloc_new w1 (.cells #[.slice (some ⟨g,0,none⟩) t.1.length c1,.int .i64 t.2] 108))
   have R0:=zh ((aB9 w1 (.cells #[.slice (some ⟨g,0,none⟩) t.1.length c1,.int .i64 t.2] 108) AO).trans k2)
   have B0:=zh (hbw.next hb0 hbw.size)
   have hG0:w1.heap.size<(w1.alloc (.cells #[.slice (some ⟨g,0,none⟩) t.1.length c1,.int .i64 t.2] 108)).heap.size:=by simp
   clear k2 hbw hT1 hbs hb0
   generalize w1.alloc (.cells #[.slice (some ⟨g,0,none⟩) t.1.length c1,.int .i64 t.2] 108)=w0 at *
   generalize w1.heap.size=G at *
   have hc1':(t.1.length:Int)≤(c1:Int):=by omega
   go_loopw [7,8] (fun v i wr=>∃ (done:List Cm) (p:Nat),i=.int .i64 p∧cG8 t.1 done p∧Own 2 CmR (aB w0.heap.size) wr w0.heap.size 177 v done∧Below w0.heap.size w0 wr) (fun _ i _=>t.1.length - (intOf i).toNat)
   case atStart=>exact⟨[],0,rfl,cM8 _,Own.nil _ _ _,Below.refl _ _⟩
   case round =>
    obtain⟨done,p,rfl,hat,hown,hbel⟩:=hrel
    obtain⟨VA,vc,rfl,_,_⟩:=hown.readc cmR_stays
    have Hat:=zh hat
    have Hown:=zh hown
    have Hbel:=zh hbel
    have hpl:=hat.1
    have h6:=hat.2.1
    obtain⟨x0,x1,_,_⟩:=bF ((hbel.block G hG0).trans X0.out)
    have hGl:G<wr.heap.size:=by have:=hbel.size;omega
    have r1:(0:Int)≤(p:Int):=by omega
    have r2:(p:Int)≤(t.1.length:Int):=by omega
    have r3:(p:Int)≤(c1:Int):=by omega
    clear hat hown hbel
    by_cases h2:t.1.length<p+2
    ·have Hend:=zh (aR1 Hat.out (fun k=>aN6 (bJ8 ZC8)))
     have z1:((t.1.length - p:Nat):Int)<2:=by omega
     have k1':=(Hbel.out.block (w.heap.size+1) AO).trans R0.out
     obtain⟨g0,g1,f0,f1⟩:=bF k1'
     have hl1:w.heap.size+1<wr.heap.size:=by omega
     have Hw:=zh Hbel.out
     have Ho:=zh Hown.out
     go_wp2
     all_goals
      go_region
     all_goals
      go_wp2
      refine bodyPost_ret (v:=.tuple #[.slice VA done.length vc,.agg #[.slice (some ⟨g,0,none⟩) p p,.int .i64 (min t.2 (p:Int))],.int .i64 0]) (by simp[results,Tryz.results124,go_sem,g0,g1,f0,f1,hl1]) rfl ?_
      exact bB3 (R:=w.heap.size+1) (by rw[Hv.out,Hend.out]) hpl AO AO HA0.out Hw.out Ho.out (by repeat' (first|with_reducible exact aC.refl _ _|refine aC.drew ?_|refine aC.drewN ?_ _|refine aC.alloc ?_ _|refine aC.setCell ?_ (fun h=>h rfl) _)) (by repeat' (first|with_reducible exact B0.out.next Hw.out B0.out.size|refine Below.drew ?_|refine below_drewN ?_ _|refine Below.setCell ?_ (Nat.le_succ _) _|refine Below.alloc ?_ ZE9 _))
    ·have z1:¬ ((t.1.length - p:Nat):Int)<2:=by omega
     have hpc:p<c1:=by omega
     have j0:(0:Int)<((t.1.length - p:Nat):Int):=by omega
     have j1:(1:Int)<((t.1.length - p:Nat):Int):=by omega
     obtain⟨_,_,e1,_,hgl,hc2⟩:=(HA0.out.bbelow Hbel.out).bat (k:=p) AO
     cases e1
     obtain⟨_,_,e2,_,_,hc3⟩:=(HA0.out.bbelow Hbel.out).bat (k:=p+1) AO
     cases e2
     obtain⟨a,hae⟩:∃ a,a=t.1[p]'(by omega):=⟨_,rfl⟩
     obtain⟨b,hbe⟩:∃ b,b=t.1[p+1]'(by omega):=⟨_,rfl⟩
     have hal:=a.toNat_lt
     have hbl:=b.toNat_lt
     rw[← hae] at hc2
     rw[← hbe] at hc3
     rw[Nat.zero_add] at hc2 hc3
     have hdr:t.1.drop p=a :: b :: t.1.drop (p+2):=by
      rw[List.drop_eq_getElem_cons AO,List.drop_eq_getElem_cons (i:=p+1) AO,← hae,← hbe]
     have Hdr:=zh hdr
     have hre:(t.1.drop (p+2)).length=t.1.length - (p+2):=List.length_drop
     clear hae hbe hdr
     have k1':=(Hbel.out.block (w.heap.size+1) AO).trans R0.out
     obtain⟨g0,g1,f0,f1⟩:=bF k1'
     have hl1:w.heap.size+1<wr.heap.size:=by omega
     have Hw:=zh Hbel.out
     have Ho:=zh Hown.out
     by_cases h3:4000<256*a.toNat+b.toNat+2
     ·have Hend:=zh (aR1 Hat.out (fun k=>aN6 (by rw[Hdr.out];exact bD7 (.inl h3))))
      have z2:decide ((4000:Int)<2+(a.toNat:Int)*256+(b.toNat:Int))=true:=by simp;omega
      clear hre h3
      go_wp2
      go_quiet (fail)
      go_wp2
      all_goals
       go_region
      all_goals
       go_wp2
       refine bodyPost_ret (v:=.tuple #[.slice VA done.length vc,.agg #[.slice (some ⟨g,0,none⟩) p p,.int .i64 (min t.2 (p:Int))],.int .i64 0]) (by simp[results,Tryz.results124,go_sem,g0,g1,f0,f1,hl1]) rfl ?_
       exact bB3 (R:=w.heap.size+1) (by rw[Hv.out,Hend.out]) hpl AO AO HA0.out Hw.out Ho.out (by repeat' (first|with_reducible exact aC.refl _ _|refine aC.drew ?_|refine aC.drewN ?_ _|refine aC.alloc ?_ _|refine aC.setCell ?_ (fun h=>h rfl) _)) (by repeat' (first|with_reducible exact B0.out.next Hw.out B0.out.size|refine Below.drew ?_|refine below_drewN ?_ _|refine Below.setCell ?_ (Nat.le_succ _) _|refine Below.alloc ?_ ZE9 _))
     ·have z2:decide ((4000:Int)<2+(a.toNat:Int)*256+(b.toNat:Int))=false:=by simp;omega
      by_cases h4:t.1.length<p+2+256*a.toNat+b.toNat+4
      ·have Hend:=zh (aR1 Hat.out (fun k=>aN6 (by rw[Hdr.out];exact bD7 (.inr AO))))
       have z3:decide (((t.1.length - p:Nat):Int)<2+(a.toNat:Int)*256+(b.toNat:Int)+4)=true:=by simp;omega
       clear hre h3 h4
       go_wp2
       go_quiet (fail)
       go_wp2
       all_goals
        go_region
       all_goals
        go_wp2
        refine bodyPost_ret (v:=.tuple #[.slice VA done.length vc,.agg #[.slice (some ⟨g,0,none⟩) p p,.int .i64 (min t.2 (p:Int))],.int .i64 0]) (by simp[results,Tryz.results124,go_sem,g0,g1,f0,f1,hl1]) rfl ?_
        exact bB3 (R:=w.heap.size+1) (by rw[Hv.out,Hend.out]) hpl AO AO HA0.out Hw.out Ho.out (by repeat' (first|with_reducible exact aC.refl _ _|refine aC.drew ?_|refine aC.drewN ?_ _|refine aC.alloc ?_ _|refine aC.setCell ?_ (fun h=>h rfl) _)) (by repeat' (first|with_reducible exact B0.out.next Hw.out B0.out.size|refine Below.drew ?_|refine below_drewN ?_ _|refine Below.setCell ?_ (Nat.le_succ _) _|refine Below.alloc ?_ ZE9 _))
      ·have z3:decide (((t.1.length - p:Nat):Int)<2+(a.toNat:Int)*256+(b.toNat:Int)+4)=false:=by simp;omega
       have hfit:¬ (4000<256*a.toNat+b.toNat+2∨(t.1.drop (p+2)).length<256*a.toNat+b.toNat+4):=by omega
       obtain⟨X,hX⟩:∃ X,X=(t.1.drop p).take (256*a.toNat+b.toNat+2):=⟨_,rfl⟩
       have hX':X=a :: b :: (t.1.drop (p+2)).take (256*a.toNat+b.toNat):=by rw[hX,Hdr.out];rfl
       obtain⟨Y,hY⟩:∃ Y,Y=(t.1.drop (p+(2+a.toNat*256+b.toNat))).take 4:=⟨_,rfl⟩
       have hY':Y=((t.1.drop (p+2)).drop (256*a.toNat+b.toNat)).take 4:=by rw[hY,List.drop_drop,show p+2+(256*a.toNat+b.toNat)=p+(2+a.toNat*256+b.toNat) by omega]
       obtain⟨R,hR⟩:∃ R,R=(t.1.drop (p+2)).take (256*a.toNat+b.toNat):=⟨_,rfl⟩
       obtain⟨D,hD⟩:∃ D,D=aL2 X:=⟨_,rfl⟩
       have Hdl:=zh (show D.length=32 by rw[hD];exact aO2 _)
       have hXl:X.length=256*a.toNat+b.toNat+2:=by rw[hX,List.length_take,List.length_drop];omega
       have hYl:Y.length=4:=by rw[hY,List.length_take,List.length_drop];omega
       have hRl:R.length=256*a.toNat+b.toNat:=by rw[hR,List.length_take,List.length_drop];omega
       have HAr:=zh (HA0.out.bz.bbelow Hbel.out)
       have HX:=zh (show Bs All wr (some ⟨g,p,none⟩) X by rw[hX];exact bs_at HAr.out _ _)
       have HY:=zh (show Bs All wr (some ⟨g,p+(2+a.toNat*256+b.toNat),none⟩) Y by rw[hY];exact bs_at HAr.out _ _)
       have HR:=zh (show Bs All wr (some ⟨g,p+2,none⟩) R by rw[hR];exact bs_at HAr.out _ _)
       have HD:=zh (show ∀ (W:World) (A':Option Addr) (n' c':Nat),bD W→n'=X.length→Bs All W A' X→Calls Tryz.prog 180 #[.slice A' n' c'] W (fun e w'=>∃ B d,e=.returned (.tuple #[.slice B D.length d,.int .i64 0])∧D.length≤d∧Bs (aB W.heap.size) w' B D∧Below W.heap.size W w') from fun W A' n' c' h0 h1 h2=>by subst h1;rw[hD];exact bD3 W h0 A' X c' h2 AO)
       obtain⟨q,hq⟩:∃ q,q=(D.take 4==Y):=⟨_,rfl⟩
       have HS:=zh (show ∀ (W:World) (A' B':Option Addr) (n1 c' d':Nat),n1=4→Bs All W A' (D.take 4)→Bs All W B' Y→Calls Tryz.prog 181 #[.slice A' n1 c',.slice B' n1 d'] W (fun e w'=>e=.returned (.bool q)∧∃ m,w'=W.drewN m) from fun W A' B' n1 c' d' h1 h3 h4=>by
        subst h1
        rw[hq]
        exact cN0 W A' B' (D.take 4) Y 4 c' d' h3 h4 (by rw[List.length_take,Hdl.out];rfl) hYl (by unfold big;omega))
       obtain⟨x,er,hxe⟩:∃ x er,aT7 R=(x,er):=⟨_,_,rfl⟩
       have HC:=zh (show ∀ (W:World) (A':Option Addr) (n' c':Nat),n'=R.length→n'≤c'→Bs All W A' R→Calls Tryz.prog 182 #[.slice A' n' c'] W (RetCmE W (x,er)) from fun W A' n' c' h1 h2 h3=>by subst h1;rw[← hxe];exact cU8 W A' R c' h3 h2)
       have hfew:x.2.length*80≤140737488355328:=by have:=dec_few R;rw[hxe] at this;exact this
       have Hf0:=zh (show q=false→frameF (t.1.drop p)=none from fun h=>by
        rw[Hdr.out]
        refine cV0 ?_
        rw[← hX',← hY',← hD]
        rw[hq] at h
        simpa using h)
       have Hf1:=zh (show er≠0→frameF (t.1.drop p)=none from fun h=>by
        rw[Hdr.out]
        refine cV1 ?_
        rw[← hR,hxe]
        exact h)
       have Hf2:=zh (show q=true→er=0→frameF (t.1.drop p)=some (x,256*a.toNat+b.toNat+6) from fun h h'=>by
        rw[Hdr.out,bQ7 hfit (by rw[← hX',← hY',← hD];rw[hq] at h;simpa using h) (by rw[← hR,hxe];exact h'),← hR,hxe])
       have HXl:=zh hXl
       have HRl:=zh hRl
       have HTr:=zh (HT0.out.below Hbel.out)
       have s0:(0:Int)≤2+(a.toNat:Int)*256+(b.toNat:Int):=by omega
       have s1:2+(a.toNat:Int)*256+(b.toNat:Int)≤((c1 - p:Nat):Int):=by omega
       have s2:2+(a.toNat:Int)*256+(b.toNat:Int)+4≤((c1 - p:Nat):Int):=by omega
       have s3:(2:Int)≤2+(a.toNat:Int)*256+(b.toNat:Int):=by omega
       clear hre h3 h4 hX hX' hY hY' hR hD hq hxe hXl hYl hRl hfit
       cases q with
       | false =>
        have Hend:=zh (aR1 Hat.out (fun k=>aN6 (Hf0.out rfl)))
        clear Hf0 Hf1 Hf2
        go_wp2
        go_quiet (fail)
        go_wp2_with (go_at_call 180;(with_reducible refine (HD.out _ _ _ _ ?ht ?hn ?hb).mono ?_);(case ht=>exact HTr.out.bsame ((aC.refl All wr).drewN _) ⟨trivial,trivial,trivial⟩);(case hn=>(have:=HXl.out;omega));(case hb=>exact HX.out.bsame ((aC.refl _ _).drewN _));rintro e w2 ⟨D1,dd,rfl,hdc,hs2,hb2⟩;have h4d:4≤dd:=(by have:=Hdl.out;omega);have hdb:=hs2 (by rw[Hdl.out];omega);obtain⟨db,dof,rfl,_⟩:=hdb;have hwr2:Below wr.heap.size wr w2:=(below_drewN (Below.refl wr.heap.size wr) _).next hb2 zn;have hw02:Below w0.heap.size w0 w2:=Hbel.out.next hwr2 Hbel.out.size;have hy2:wr.heap.size≤w2.heap.size:=hwr2.size;have Ho:=zh (Own.below cmR_stays Hown.out hwr2);obtain⟨x0,x1,_,_⟩:=bF ((hw02.block G hG0).trans X0.out);obtain⟨g0,g1,f0,f1⟩:=bF ((hw02.block (w.heap.size+1) AO).trans R0.out);have hz9:w0.heap.size≤w2.heap.size:=hw02.size;have hl1:w.heap.size+1<w2.heap.size:=AO;have hGl:G<w2.heap.size:=AO;have Hw:=zh hw02)
        go_quiet ((go_at_call 181;exact Calls.quiet_of (HS.out _ _ _ _ _ _ AO ((aX0 (SL.bz hs2) 4).bsame ((aC.refl _ _).drewN _)) ((HY.out.bbelow hwr2).bsame ((aC.refl _ _).drewN _)))))
        go_wp2
        all_goals
         go_region
        all_goals
         go_wp2
         refine bodyPost_ret (v:=.tuple #[.slice VA done.length vc,.agg #[.slice (some ⟨g,0,none⟩) p p,.int .i64 (min t.2 (p:Int))],.int .i64 0]) (by simp[results,Tryz.results124,go_sem,g0,g1,f0,f1,hl1]) rfl ?_
         exact bB3 (R:=w.heap.size+1) (by rw[Hv.out,Hend.out]) hpl AO AO HA0.out Hw.out Ho.out (by repeat' (first|with_reducible exact aC.refl _ _|refine aC.drew ?_|refine aC.drewN ?_ _|refine aC.alloc ?_ _|refine aC.setCell ?_ (fun h=>h rfl) _)) (by repeat' (first|with_reducible exact B0.out.next Hw.out B0.out.size|refine Below.drew ?_|refine below_drewN ?_ _|refine Below.setCell ?_ (Nat.le_succ _) _|refine Below.alloc ?_ ZE9 _))
       | true =>
        by_cases he:er=0
        ·have Hfr:=zh (Hf2.out rfl he)
         have b1:(er != 0)=false:=by simp[he]
         clear Hf0 Hf1 Hf2 he
         by_cases hx:x.1=(done.length:Int)+1
         ·have hx':x.1=((done.length+1:Nat):Int):=by omega
          have Hnx:=zh (cM9 Hat.out Hfr.out hx')
          have b2:(x.1 != (done.length:Int)+1)=false:=by simp[hx]
          clear hx hx'
          go_wp2
          go_quiet (fail)
          go_wp2_with (go_at_call 180;(with_reducible refine (HD.out _ _ _ _ ?ht ?hn ?hb).mono ?_);(case ht=>exact HTr.out.bsame ((aC.refl All wr).drewN _) ⟨trivial,trivial,trivial⟩);(case hn=>(have:=HXl.out;omega));(case hb=>exact HX.out.bsame ((aC.refl _ _).drewN _));rintro e w2 ⟨D1,dd,rfl,hdc,hs2,hb2⟩;have h4d:4≤dd:=(by have:=Hdl.out;omega);have hdb:=hs2 (by rw[Hdl.out];omega);obtain⟨db,dof,rfl,_⟩:=hdb;have hwr2:Below wr.heap.size wr w2:=(below_drewN (Below.refl wr.heap.size wr) _).next hb2 zn;have hw02:Below w0.heap.size w0 w2:=Hbel.out.next hwr2 Hbel.out.size;have hy2:wr.heap.size≤w2.heap.size:=hwr2.size;have Ho:=zh (Own.below cmR_stays Hown.out hwr2);obtain⟨x0,x1,_,_⟩:=bF ((hw02.block G hG0).trans X0.out);obtain⟨g0,g1,f0,f1⟩:=bF ((hw02.block (w.heap.size+1) AO).trans R0.out);have hz9:w0.heap.size≤w2.heap.size:=hw02.size;have hl1:w.heap.size+1<w2.heap.size:=AO;have hGl:G<w2.heap.size:=AO;have Hw:=zh hw02)
          go_quiet ((go_at_call 181;exact Calls.quiet_of (HS.out _ _ _ _ _ _ AO ((aX0 (SL.bz hs2) 4).bsame ((aC.refl _ _).drewN _)) ((HY.out.bbelow hwr2).bsame ((aC.refl _ _).drewN _)))))
          go_wp2_with (first|(go_at_call 182;(with_reducible refine (HC.out _ _ _ _ ?hn ?hc ?hb).mono ?_);(case hn=>(have:=HRl.out;omega));(case hc=>omega);(case hb=>exact (HR.out.bbelow hwr2).bsame ((aC.refl _ _).drewN _));rintro e w3 ⟨A3,n3,rfl,hs3,hb3⟩;have h23:Below w2.heap.size w2 w3:=(below_drewN (Below.refl w2.heap.size w2) _).next hb3 zn;have hw03:Below w0.heap.size w0 w3:=hw02.next h23 hw02.size;have hy3:w2.heap.size≤w3.heap.size:=h23.size;have Ho2:=Ho;have Ho:=zh (Own.below cmR_stays Ho2.out h23);have hs3':Ws (aB w2.heap.size) w3 A3 x.2:=hs3;obtain⟨x0,x1,_,_⟩:=bF ((hw03.block G hG0).trans X0.out);obtain⟨g0,g1,f0,f1⟩:=bF ((hw03.block (w.heap.size+1) AO).trans R0.out);have hz9:w0.heap.size≤w3.heap.size:=hw03.size;have hl1:w.heap.size+1<w3.heap.size:=AO;have hGl:G<w3.heap.size:=AO;have Hw:=zh hw03)|(at_builtin;refine aM3 cmR_stays (S:=aB w0.heap.size) _ rfl _ _ _ rfl w0.heap.size 177 i0 _ 2 32 Tryz.underlying109 hi0 hz0 hz1 hz2 rfl ZD9 _ done rfl ?hown _ _ [.int .i64 x.1,.slice A3 x.2.length n3] rfl rfl (aE6 _ _ [.int .i64 x.1,.slice A3 x.2.length n3] _ ZH2) ZE8 ?hm ?hby ?hba x ?hd ?_;(case hown=>(refine Own.below cmR_stays Ho.out ?_;exact BX));(case hm=>(simp only[maxLen];omega));(case hby=>omega);(case hba=>(simp;omega));(case hd=>(refine cm_fresh (n:=w2.heap.size) hs3' hfew ?_ AO (Ho2.out.apart _ zn);exact SM));intro v1 w4 hown4 hbw4))
          have hbb:=((hw03.alloc hw03.size (.cells #[.int .i64 x.1,.slice A3 x.2.length n3] 177)).alloc (by have:=hw03.size;simp;omega) (.cells #[.int .i64 x.1,.slice A3 x.2.length n3] 177)).trans hbw4
          exact⟨⟨done++[x],p+(256*a.toNat+b.toNat+6),congrArg (Value.int .i64) AO,Hnx.out.1,hown4,hbb⟩,by simp[intOf];omega⟩
         ·have Hend:=zh (aR1 Hat.out (fun k=>cU9 Hfr.out (by rw[Int.natCast_add];exact hx)))
          have b2:(x.1 != (done.length:Int)+1)=true:=by simpa using hx
          clear hx
          go_wp2
          go_quiet (fail)
          go_wp2_with (go_at_call 180;(with_reducible refine (HD.out _ _ _ _ ?ht ?hn ?hb).mono ?_);(case ht=>exact HTr.out.bsame ((aC.refl All wr).drewN _) ⟨trivial,trivial,trivial⟩);(case hn=>(have:=HXl.out;omega));(case hb=>exact HX.out.bsame ((aC.refl _ _).drewN _));rintro e w2 ⟨D1,dd,rfl,hdc,hs2,hb2⟩;have h4d:4≤dd:=(by have:=Hdl.out;omega);have hdb:=hs2 (by rw[Hdl.out];omega);obtain⟨db,dof,rfl,_⟩:=hdb;have hwr2:Below wr.heap.size wr w2:=(below_drewN (Below.refl wr.heap.size wr) _).next hb2 zn;have hw02:Below w0.heap.size w0 w2:=Hbel.out.next hwr2 Hbel.out.size;have hy2:wr.heap.size≤w2.heap.size:=hwr2.size;have Ho:=zh (Own.below cmR_stays Hown.out hwr2);obtain⟨x0,x1,_,_⟩:=bF ((hw02.block G hG0).trans X0.out);obtain⟨g0,g1,f0,f1⟩:=bF ((hw02.block (w.heap.size+1) AO).trans R0.out);have hz9:w0.heap.size≤w2.heap.size:=hw02.size;have hl1:w.heap.size+1<w2.heap.size:=AO;have hGl:G<w2.heap.size:=AO;have Hw:=zh hw02)
          go_quiet ((go_at_call 181;exact Calls.quiet_of (HS.out _ _ _ _ _ _ AO ((aX0 (SL.bz hs2) 4).bsame ((aC.refl _ _).drewN _)) ((HY.out.bbelow hwr2).bsame ((aC.refl _ _).drewN _)))))
          go_wp2_with (go_at_call 182;(with_reducible refine (HC.out _ _ _ _ ?hn ?hc ?hb).mono ?_);(case hn=>(have:=HRl.out;omega));(case hc=>omega);(case hb=>exact (HR.out.bbelow hwr2).bsame ((aC.refl _ _).drewN _));rintro e w3 ⟨A3,n3,rfl,hs3,hb3⟩;have h23:Below w2.heap.size w2 w3:=(below_drewN (Below.refl w2.heap.size w2) _).next hb3 zn;have hw03:Below w0.heap.size w0 w3:=hw02.next h23 hw02.size;have hy3:w2.heap.size≤w3.heap.size:=h23.size;have Ho2:=Ho;have Ho:=zh (Own.below cmR_stays Ho2.out h23);have hs3':Ws (aB w2.heap.size) w3 A3 x.2:=hs3;obtain⟨x0,x1,_,_⟩:=bF ((hw03.block G hG0).trans X0.out);obtain⟨g0,g1,f0,f1⟩:=bF ((hw03.block (w.heap.size+1) AO).trans R0.out);have hz9:w0.heap.size≤w3.heap.size:=hw03.size;have hl1:w.heap.size+1<w3.heap.size:=AO;have hGl:G<w3.heap.size:=AO;have Hw:=zh hw03)
          all_goals
           go_region
          all_goals
           go_wp2
           refine bodyPost_ret (v:=.tuple #[.slice VA done.length vc,.agg #[.slice (some ⟨g,0,none⟩) p p,.int .i64 (min t.2 (p:Int))],.int .i64 0]) (by simp[results,Tryz.results124,go_sem,g0,g1,f0,f1,hl1]) rfl ?_
           exact bB3 (R:=w.heap.size+1) (by rw[Hv.out,Hend.out]) hpl AO AO HA0.out Hw.out Ho.out (by repeat' (first|with_reducible exact aC.refl _ _|refine aC.drew ?_|refine aC.drewN ?_ _|refine aC.alloc ?_ _|refine aC.setCell ?_ (fun h=>h rfl) _)) (by repeat' (first|with_reducible exact B0.out.next Hw.out B0.out.size|refine Below.drew ?_|refine below_drewN ?_ _|refine Below.setCell ?_ (Nat.le_succ _) _|refine Below.alloc ?_ ZE9 _))
        ·have Hend:=zh (aR1 Hat.out (fun k=>aN6 (Hf1.out he)))
         have b1:(er != 0)=true:=by simpa using he
         clear Hf0 Hf1 Hf2 he
         go_wp2
         go_quiet (fail)
         go_wp2_with (go_at_call 180;(with_reducible refine (HD.out _ _ _ _ ?ht ?hn ?hb).mono ?_);(case ht=>exact HTr.out.bsame ((aC.refl All wr).drewN _) ⟨trivial,trivial,trivial⟩);(case hn=>(have:=HXl.out;omega));(case hb=>exact HX.out.bsame ((aC.refl _ _).drewN _));rintro e w2 ⟨D1,dd,rfl,hdc,hs2,hb2⟩;have h4d:4≤dd:=(by have:=Hdl.out;omega);have hdb:=hs2 (by rw[Hdl.out];omega);obtain⟨db,dof,rfl,_⟩:=hdb;have hwr2:Below wr.heap.size wr w2:=(below_drewN (Below.refl wr.heap.size wr) _).next hb2 zn;have hw02:Below w0.heap.size w0 w2:=Hbel.out.next hwr2 Hbel.out.size;have hy2:wr.heap.size≤w2.heap.size:=hwr2.size;have Ho:=zh (Own.below cmR_stays Hown.out hwr2);obtain⟨x0,x1,_,_⟩:=bF ((hw02.block G hG0).trans X0.out);obtain⟨g0,g1,f0,f1⟩:=bF ((hw02.block (w.heap.size+1) AO).trans R0.out);have hz9:w0.heap.size≤w2.heap.size:=hw02.size;have hl1:w.heap.size+1<w2.heap.size:=AO;have hGl:G<w2.heap.size:=AO;have Hw:=zh hw02)
         go_quiet ((go_at_call 181;exact Calls.quiet_of (HS.out _ _ _ _ _ _ AO ((aX0 (SL.bz hs2) 4).bsame ((aC.refl _ _).drewN _)) ((HY.out.bbelow hwr2).bsame ((aC.refl _ _).drewN _)))))
         go_wp2_with (go_at_call 182;(with_reducible refine (HC.out _ _ _ _ ?hn ?hc ?hb).mono ?_);(case hn=>(have:=HRl.out;omega));(case hc=>omega);(case hb=>exact (HR.out.bbelow hwr2).bsame ((aC.refl _ _).drewN _));rintro e w3 ⟨A3,n3,rfl,hs3,hb3⟩;have h23:Below w2.heap.size w2 w3:=(below_drewN (Below.refl w2.heap.size w2) _).next hb3 zn;have hw03:Below w0.heap.size w0 w3:=hw02.next h23 hw02.size;have hy3:w2.heap.size≤w3.heap.size:=h23.size;have Ho2:=Ho;have Ho:=zh (Own.below cmR_stays Ho2.out h23);have hs3':Ws (aB w2.heap.size) w3 A3 x.2:=hs3;obtain⟨x0,x1,_,_⟩:=bF ((hw03.block G hG0).trans X0.out);obtain⟨g0,g1,f0,f1⟩:=bF ((hw03.block (w.heap.size+1) AO).trans R0.out);have hz9:w0.heap.size≤w3.heap.size:=hw03.size;have hl1:w.heap.size+1<w3.heap.size:=AO;have hGl:G<w3.heap.size:=AO;have Hw:=zh hw03)
         all_goals
          go_region
         all_goals
          go_wp2
          refine bodyPost_ret (v:=.tuple #[.slice VA done.length vc,.agg #[.slice (some ⟨g,0,none⟩) p p,.int .i64 (min t.2 (p:Int))],.int .i64 0]) (by simp[results,Tryz.results124,go_sem,g0,g1,f0,f1,hl1]) rfl ?_
          exact bB3 (R:=w.heap.size+1) (by rw[Hv.out,Hend.out]) hpl AO AO HA0.out Hw.out Ho.out (by repeat' (first|with_reducible exact aC.refl _ _|refine aC.drew ?_|refine aC.drewN ?_ _|refine aC.alloc ?_ _|refine aC.setCell ?_ (fun h=>h rfl) _)) (by repeat' (first|with_reducible exact B0.out.next Hw.out B0.out.size|refine Below.drew ?_|refine below_drewN ?_ _|refine Below.setCell ?_ (Nat.le_succ _) _|refine Below.alloc ?_ ZE9 _))
 ·have Hv:=zh (show bQ6 t=(([],([],0)),6) by unfold bQ6;rw[if_pos hm])
  have Hm:=zh hm
  clear hm
  go_enter Tryz.func124,Tryz.ntmps124
  go_wp2_with (go_at_call 179;(with_reducible refine (aS7 _ A t c Hm.out).mono ?_);rintro e w1 ⟨A1,c1,rfl,_,_,hb1⟩;have g0:w1.cell? ⟨w.heap.size+1,0,none⟩=some (.slice none 0 0):=(hb1.cell AU).trans ZH2;have g1:w1.cell? ⟨w.heap.size+1,1,none⟩=some (.int .i64 0):=(hb1.cell AU).trans ZH2;have f0:w1.frozen? ⟨w.heap.size+1,0,none⟩=false:=(hb1.frozen AU).trans ZH2;have f1:w1.frozen? ⟨w.heap.size+1,1,none⟩=false:=(hb1.frozen AU).trans ZH2;have hlt:w.heap.size+1<w1.heap.size:=ZD8)
  refine bodyPost_ret (v:=.tuple #[.slice none 0 0,.agg #[.slice none 0 0,.int .i64 0],.int .i64 6]) (by simp[results,Tryz.results124,go_sem,g0,g1,f0,f1,hlt]) rfl ?_
  rw[Hv.out]
  refine⟨.slice none 0 0,none,0,rfl,zn,Own.nil _ _ _,SL.nil,?_⟩
  have hq9:=((Below.next (((Below.refl w.heap.size w).alloc zn _).alloc ZH2 _) hb1 ZC8).setCell (p:=⟨w.heap.size+1,0,none⟩) ZH2 (.slice none 0 0)).setCell (p:=⟨w.heap.size+1,1,none⟩) ZH2 (.int .i64 0)
  exact hq9.alloc hq9.size _
end Go.Proofs.YtablgnacmpcfeaaGreatDoor
