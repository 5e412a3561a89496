/- HidK: A reply among others, with all that it points to. No condition. What a proof that is asked for tells: as if nothing waited. Plain words, no program. A list appended to a row of the call's own, in a region that draws its order; a proof that is asked for. No condition. The conditions of each are in its words. -/
import Derived.Test.YtodopbnhkkkcbaaGreatDoorKTopO
namespace Go.Proofs.YtodopbnhkkkcbaaGreatDoor
open Go.RowKit
set_option linter.unusedVariables false
set_option linter.unusedSimpArgs false
def dE6 (r:Rp) (V:Option Addr) (v:Nat) (P:Option Addr) (p:Nat) (R:Option Addr) (q:Nat) (A:Option Addr) (n:Nat) (K:Option Addr) (a:Nat) (X:Option Addr) (y:Nat) (A':Option Addr) (n':Nat) (K':Option Addr) (a':Nat) (X':Option Addr) (y':Nat):List Value:=[.int .i64 r.session,.int .i64 r.code,.int .i64 r.turn,.bool r.found,.slice V r.value.length v,.slice P r.pairs.length p,.slice R r.root.length q,.bool r.outer.empty,.slice A r.outer.steps.length n,.slice K r.outer.pair.1.length a,.slice X r.outer.pair.2.length y,.bool r.inner.empty,.slice A' r.inner.steps.length n',.slice K' r.inner.pair.1.length a',.slice X' r.inner.pair.2.length y']
theorem rep_vals {S:Nat→Prop} {w:World} {R0:Option Addr} {l:List Rp} (h:SL 15 RpR S w R0 l) {k:Nat} (hk:k<l.length) :
  ∃ b off V v P p R q A n K a X y A' n' K' a' X' y',R0=some ⟨b,off,none⟩∧b<w.heap.size∧(∀ j,j<15→w.cell? ⟨b,off+k*15+j,none⟩=(dE6 l[k] V v P p R q A n K a X y A' n' K' a' X' y')[j]?)∧Bs S w V l[k].value∧Ps S w P l[k].pairs∧Bs S w R l[k].root∧(Sts S w A l[k].outer.steps∧Bs S w K l[k].outer.pair.1∧Bs S w X l[k].outer.pair.2)∧(Sts S w A' l[k].inner.steps∧Bs S w K' l[k].inner.pair.1∧Bs S w X' l[k].inner.pair.2):=by
 obtain⟨b,off,cs,hA,hb,hlt,hlen,hc,V,v,P,p,R,q,A,n,K,a,X,y,A',n',K',a',X',b',rfl,hr⟩:=h.at hk
 exact⟨b,off,V,v,P,p,R,q,A,n,K,a,X,y,A',n',K',a',X',b',hA,hlt,hc,hr⟩
theorem dI9 {n k:List UInt8} (hn:aI n=0) (hk:aE k=0):aQ ⟨8,n,k,[],[]⟩=0:=by
 simp[aQ,aB4,aA9,aG7,aB0,aG3,aV,bO,hasT,hn,hk]
theorem dJ0 {l:List Tn} (h:aL l=0) {n k:List UInt8} (hn:aI n=0) (hk:aE k=0):(aA7 l n k).2=0:=by
 have hfn:aD4 l n=0:=by unfold aD4;rw[if_neg ZF9];exact hn
 unfold aA7
 rw[if_neg (by simpa using hfn)]
 have hp:aG (aJ l n)=0:=aN0.old h n
 cases hv:aV6 (aJ l n) k with
 | none=>rw[cS9 hp hk hv]
 | some v=>rw[cJ9 hp hk hv]
theorem dJ1 {g:Eng} {s:Nat} {d:List UInt8} {r:Rq} (hd:aM2 d=(r,0)) (h8:r.kind=8):aS0 g s d=g.say (if g.up=false then aE4 s 13 else bS1 g s r):=by
 unfold aS0
 by_cases hu:g.up=false
 ·rw[if_pos hu,if_pos hu]
 ·rw[if_neg hu,if_neg hu,hd,if_neg ZH2]
  unfold aH3
  rw[if_pos h8]
abbrev dJ2 (l:List Ac) (o:Oc):Prop:=Hid (∀ (w:World) (A:Option Addr) (n c:Nat),n=l.length→bD w→bL w→Acs All w A l→Calls Tryz.prog 12 #[.slice A n c] w (cP7 w o))
theorem dJ3 {l:List Ac} (hl:∀ a ∈ l,aB6 a=0) (hn:l.length≤100000) {o:Oc} (ho:(bM l).out=o):dJ2 l o:=zh fun w A n c h1 hT hH ha=>by
 subst h1 ho
 exact cZ3 w hT hH A l c ha hl hn
theorem dJ4 {xs:List Ac} (hx:∀ a ∈ xs,aB6 a=0) (hl:xs.length≤60) {d n k:List UInt8} (hd:aM2 d=(⟨8,n,k,[],[]⟩,0)) (hf:aB6 ⟨1,((0:Nat):Int),0,d⟩=0) (hn:aI n=0) (hk:aE k=0):∃ (u:Bool) (tn pd:Int) (fo:List Tn) (rl:List Rp) (p:Rp),dA3 xs ⟨u,tn,pd,fo,rl⟩∧dJ2 (xs++[(⟨1,((0:Nat):Int),0,d⟩:Ac)]) ⟨u,tn,pd,fo,rl++[p]⟩∧((u=false∧p.code=13)∨(u=true∧p.code=0∧p.found=(aA7 fo n k).1.1∧p.value=(aA7 fo n k).1.2))∧(aA7 fo n k).2=0∧fo.length≤8∧rl.length≤60:=by
 have ht:=(cZ1 hx).told
 refine⟨(bM xs).up,(bM xs).synced,(bM xs).waiting.length,aS (bM xs).commits (bM xs).synced,(bM xs).replies,if (bM xs).up=false then aE4 0 13 else bS1 (bM xs) 0 ⟨8,n,k,[],[]⟩,dA4 hx AO rfl,dJ3 (fun a ha=>?_) (by rw[List.length_append,List.length_singleton];omega) ?_,?_,dJ0 (bZ6 _ _) hn hk,(bZ6 _ _).len,AO⟩
 ·rcases List.mem_append.1 ha with h|h
  ·exact hx a h
  ·rw[List.mem_singleton] at h;rw[h];exact hf
 ·rw[cZ2]
  show (aS0 (bM xs) 0 d).out=_
  rw[dJ1 hd rfl]
  rfl
 ·cases h:(bM xs).up
  ·exact .inl ⟨rfl,by rw[if_pos rfl];rfl⟩
  ·exact .inr ⟨rfl,by rw[if_neg ZH2];rfl,by rw[if_neg ZH2];rfl,by rw[if_neg ZH2];rfl⟩
theorem dJ5 {P:Program} {α:Type} {R:(Nat→Prop)→World→List Value→α→Prop} (hR:bI R) (hone:∀ S w cs x,R S w cs x→∀ u ∈ cs,u.oneCell'=true) {S:Nat→Prop} (w:World) {ops:Array Oper} {o:Oper} {a:Act} {K:Act→World→Prop} {Q:Exit→Act→World→Prop} {E:Prop} (hgd:o.guard=none) (s x:Operand) (t:TypeId)
  (ho:o.op=.call { callee:=.builtin .append,args:=#[s,x],argTypes:=#[t,t] })
  (base:Nat) (e:TypeId) (i:TypeInfo) (z:Value) (size bytes:Nat) (ht:P.underlying t=some (.slice e)) (hi:P.info? e=some i) (hz:i.zero=some z)
  (hsize:i.size=size) (hby:i.bytes=bytes) (hzs:z.cells.size=size) (hsz:0<size)
  (v:Value) (l:List α) (hs:a.eval s=v) (hown:Own size R S w base e v l)
  (A:Option Addr) (m c:Nat) (l2:List α) (hm:m=l2.length) (hx:a.eval x=.slice A m c) (hsrc:SL size R (fun b=>S b∧v.ownBlock≠some b) w A l2)
  (h63:l.length+l2.length≤maxLen) (hbytes:(l.length+l2.length)*bytes≤140737488355328) (hbase:base≤w.heap.size)
  (h:∀ v' w',Own size R S w' base e v' (l++l2)→Below base w w'→w.grownBy w' v.ownBlock→(v'.ownBlock=v.ownBlock∨v'.ownBlock=some w.heap.size)→K (a.put o.dst v') w'):if Region.wanted o (yielded ops a.tmps)=true then Oper.wp P o a w K Q else E:=by
 have hw:Region.wanted o (yielded ops a.tmps)=true:=by simp[Region.wanted,hgd]
 rw[if_pos hw]
 subst hm
 obtain⟨xs,h1,h2⟩:=hown
 obtain⟨news,n1,n2,n3,n4⟩:=sl_news hsrc hone
 exact cJ7 w s x t ho base e i z size bytes ht hi hz hsize hby hzs hsz v l.length xs hs h1 A l2.length c news hx n1 n3 n4 h63 hbytes hbase fun v' w' h3 h4 h5 =>
  h v' w' (Own.cat hR h2 h1 h3 h4 h5 n2) (aA6 h1 h4 hbase) h4 h5
theorem dJ6 {n k:List UInt8} (hf:aQ ⟨8,n,k,[],[]⟩=0):∃ d:List UInt8,Hid (∀ (w:World) (A B:Option Addr) (a b:Nat),bL w→Bs All w A n→Bs All w B k→Calls Tryz.prog 13 #[.int .i64 0,.agg #[.int .i64 8,.slice A n.length a,.slice B k.length b,.slice none 0 0,.slice none 0 0]] w (RetAsk w 0 d))∧aB6 ⟨1,((0:Nat):Int),0,d⟩=0∧aM2 d=(⟨8,n,k,[],[]⟩,0)∧d.length≤4000 :=
 ⟨(bK9 ⟨8,n,k,[],[]⟩).1,zh fun w A B a b hH hA hB=>dE2 w hH 0 AO A B none none ⟨8,n,k,[],[]⟩ a b 0 0 hA hB SL.nil SL.nil,cY8 AO (cY0 hf).2,(cY0 hf).1,(cY0 hf).2⟩
end Go.Proofs.YtodopbnhkkkcbaaGreatDoor
