/- TenK: A region that draws its order, walked by what stays true of it: each operation once, whatever came up ahead of it. No condition. A row of acts holds no cell that is a byte or a truth, nor does its room: what is read as bytes, or as steps, lies elsewhere. No condition. A tenant's own proof stays the same while another tenant is written. Plain words, no program. What stays true of TopTenant's region that draws its order: another tenant's write is asked for. No condition. Walk: TopTenant. The conditions of each are in its words. -/
import Derived.Deep.CutRange
import Derived.Test.YtodopbnhkkkcbaaGreatDoorKBase
import Derived.Test.YtodopbnhkkkcbaaGreatDoorKTopW
import Derived.Test.YtodopbnhkkkcbaaGreatDoorKTopO
import Derived.Test.YtodopbnhkkkcbaaGreatDoorKTopV
namespace Go.Proofs.YtodopbnhkkkcbaaGreatDoor
open Go.RowKit
set_option linter.unusedVariables false
set_option linter.unusedSimpArgs false
set_option maxRecDepth 100000
set_option maxHeartbeats 8000000
def dR6 (A:Act) (ds:List Nat) (f:Nat→Value):Act:=ds.foldl (fun a d=>a.put (some d) (f d)) A
def upd {β:Type} (f:Nat→β) (i:Nat) (v:β):Nat→β:=fun j=>if j=i then v else f j
theorem dR7 {β:Type} (f:Nat→β) (i:Nat) (v:β):upd f i v i=v:=if_pos rfl
theorem dR8 {β:Type} {f:Nat→β} {i j:Nat} {v:β} (h:j≠i):upd f i v j=f j:=if_neg h
theorem put_put (A:Act) (d:Nat) (u v:Value):(A.put (some d) u).put (some d) v=A.put (some d) v:=by
 simp[Act.put]
theorem put_past:∀ (ds:List Nat) (A:Act) (d:Nat) (f:Nat→Value) (v:Value),d ∉ ds→(dR6 A ds f).put (some d) v=dR6 (A.put (some d) v) ds f
 | [],_,_,_,_,_=>rfl
 | x :: xs,A,d,f,v,h=>by
  have hx:x≠d:=fun e=>h (by simp[e])
  show (dR6 (A.put (some x) (f x)) xs f).put (some d) v=dR6 ((A.put (some d) v).put (some x) (f x)) xs f
  rw[put_past xs _ d f v fun e=>h (by simp[e]),Act.put_comm A (f x) v (x:=some x) (y:=some d) fun e he=>by
   intro h2
   injection he with he
   injection h2 with h2
   exact hx (by rw[he,h2])]
theorem putF_off:∀ (ds:List Nat) (A:Act) (d:Nat) (f:Nat→Value) (v:Value),d ∉ ds→dR6 A ds (upd f d v)=dR6 A ds f
 | [],_,_,_,_,_=>rfl
 | x :: xs,A,d,f,v,h=>by
  have hx:x≠d:=fun e=>h (by simp[e])
  show dR6 (A.put (some x) (upd f d v x)) xs (upd f d v)=dR6 (A.put (some x) (f x)) xs f
  rw[dR8 hx,putF_off xs _ d f v fun e=>h (by simp[e])]
theorem putF_put:∀ (ds:List Nat) (A:Act) (d:Nat) (f:Nat→Value) (v:Value),d ∈ ds→ds.Nodup→(dR6 A ds f).put (some d) v=dR6 A ds (upd f d v)
 | [],_,_,_,_,h,_=>by cases h
 | x :: xs,A,d,f,v,h,hn=>by
  obtain⟨h1,h2⟩:=List.nodup_cons.1 hn
  by_cases e:x=d
  ·subst e
   show (dR6 (A.put (some x) (f x)) xs f).put (some x) v=dR6 (A.put (some x) (upd f x v x)) xs (upd f x v)
   rw[put_past xs _ x f v h1,put_put,dR7,putF_off xs _ x f v h1]
  ·have hd:d ∈ xs:=(List.mem_cons.1 h).resolve_left fun e2=>e e2.symm
   show (dR6 (A.put (some x) (f x)) xs f).put (some d) v=dR6 (A.put (some x) (upd f d v x)) xs (upd f d v)
   rw[putF_put xs _ d f v hd h2,dR8 e]
theorem put_tmps (A:Act) (d t:Nat) (v:Value):(A.put (some d) v).tmps.getD t undef=if d=t∧d<A.tmps.size then v else A.tmps.getD t undef:=by
 simp only[Act.put,Array.getD_eq_getD_getElem?,Array.getElem?_setIfInBounds]
 by_cases h:d=t
 ·subst h
  by_cases h2:d<A.tmps.size
  ·simp[h2]
  ·simp[h2]
 ·simp[h]
theorem put_size (A:Act) (d:Nat) (v:Value):(A.put (some d) v).tmps.size=A.tmps.size:=by simp[Act.put]
theorem putF_tmp:∀ (ds:List Nat) (A:Act) (f:Nat→Value) (t:Nat),(∀ d ∈ ds,d<A.tmps.size)→ds.Nodup→(dR6 A ds f).tmps.getD t undef=if t ∈ ds then f t else A.tmps.getD t undef
 | [],_,_,_,_,_=>rfl
 | x :: xs,A,f,t,h,hn=>by
  obtain⟨h1,h2⟩:=List.nodup_cons.1 hn
  show (dR6 (A.put (some x) (f x)) xs f).tmps.getD t undef=_
  rw[putF_tmp xs _ f t (fun d hd=>by rw[put_size];exact h d (by simp[hd])) h2,put_tmps]
  by_cases e:x=t
  ·subst e
   simp[h1,h x ZH2]
  ·by_cases e2:t ∈ xs
   ·simp[e2]
   ·have e3:¬ t=x:=fun q=>e q.symm
    simp[e,e2,e3]
theorem putF_self:∀ (ds:List Nat) (A:Act),(∀ d ∈ ds,d<A.tmps.size)→dR6 A ds (fun t=>A.tmps.getD t undef)=A
 | [],_,_=>rfl
 | x :: xs,A,h=>by
  have hx:x<A.tmps.size:=h x ZH2
  have e:A.put (some x) (A.tmps.getD x undef)=A:=by
   obtain⟨T,D⟩:=A
   simp only[Act.put,Act.mk.injEq,and_true]
   dsimp only at hx
   apply Array.ext_getElem?
   intro i
   rw[Array.getElem?_setIfInBounds]
   by_cases hi:x=i
   ·subst hi
    simp[hx]
   ·simp[hi]
  show dR6 (A.put (some x) (A.tmps.getD x undef)) xs (fun t=>A.tmps.getD t undef)=A
  rw[e]
  exact putF_self xs A fun d hd=>h d (by simp[hd])
theorem dR9 {p q:Nat→Bool}:∀ (l:List Nat) (x:Nat),x ∈ l→(∀ y,q y=true→p y=true)→p x=true→q x=false→l.countP q<l.countP p
 | [],_,h,_,_,_=>by cases h
 | y :: l,x,h,hqp,hp,hq=>by
  have hm:l.countP q≤l.countP p:=List.countP_mono_left fun z _=>hqp z
  rw[List.countP_cons,List.countP_cons]
  by_cases e:y=x
  ·subst e
   rw[if_pos hp,if_neg (by simp[hq])]
   omega
  ·have h1:=dR9 l x ((List.mem_cons.1 h).resolve_left fun q=>e q.symm) hqp hp hq
   by_cases e2:q y=true
   ·rw[if_pos e2,if_pos (hqp y e2)];omega
   ·rw[if_neg e2]
    split <;> omega
def dS0 (ds:List Nat) (ops:Array Oper):Bool :=
 (List.range ops.size).all fun i=>match ops[i]? with
  | some o=>o.guard.isNone && (match o.dst with|some d=>ds.contains d|none=>false) && o.after.all (fun e=>decide (e.on<i))
  | none=>false
section
variable {P : Program} {ops : Array Oper} {Q : Exit → Act → World → Prop}
theorem dS1 {ds:List Nat} (hnd:ds.Nodup) (hB:dS0 ds ops=true) {A:Act} {J:(Nat→Bool)→(Nat→Value)→World→Prop}
  (hstep:∀ b f w,J b f w→∀ (i:Nat) (o:Oper),ops[i]?=some o→b i=false→(∀ e ∈ o.after,Region.binds .any e=true→b e.on=true)→∀ K:Act→World→Prop,(∀ d v w',o.dst=some d→J (upd b i true) (upd f d v) w'→K ((dR6 A ds f).put o.dst v) w')→o.wp P (dR6 A ds f) w K Q)
  (hend:∀ b f w,(∀ i,i<ops.size→b i=true)→J b f w→Q .normal (dR6 A ds f) w) :
  ∀ (fuel:Nat) (listed:Array Bool) (f:Nat→Value) (w:World),listed.size=ops.size→(List.range ops.size).countP (fun i=>!listed.getD i false)≤fuel→J (fun i=>listed.getD i false) f w→wpAny P .any ops Q fuel listed (dR6 A ds f) w:=by
 have hB':∀ (i:Nat) (o:Oper),ops[i]?=some o→o.guard=none∧(∃ d,o.dst=some d∧d ∈ ds)∧∀ e ∈ o.after,e.on<i:=by
  intro i o ho
  have hi:i<ops.size:=(Array.getElem?_eq_some_iff.1 ho).1
  have h:=(List.all_eq_true.1 hB) i (List.mem_range.2 hi)
  simp only[ho,Bool.and_eq_true] at h
  obtain⟨⟨h1,h2⟩,h3⟩:=h
  refine⟨by simpa using h1,?_,fun e he=>?_⟩
  ·cases hd:o.dst with
   | none=>rw[hd] at h2;cases h2
   | some d=>rw[hd] at h2;exact⟨d,rfl,by simpa using h2⟩
  ·rw[Array.all_eq_true_iff_forall_mem] at h3
   simpa using h3 e he
 have key:∀ (listed:Array Bool),listed.size=ops.size→Region.ready .any ops listed=[]→∀ i,i<ops.size→listed.getD i false=true:=by
  intro listed hsz hr i
  induction i using Nat.strongRecOn with
  | ind i ih =>
   intro hi
   rcases Bool.eq_false_or_eq_true (listed.getD i false) with h|h
   ·exact h
   ·exfalso
    have hi':i<listed.size:=by omega
    have h2:listed.getD i true=false:=by
     simp only[Array.getD_eq_getD_getElem?,Array.getElem?_eq_getElem hi',Option.getD_some] at h ⊢
     exact h
    have hm:i ∈ Region.ready .any ops listed:=mem_ready.2 ⟨h2,ops[i],Array.getElem?_eq_getElem hi,fun e he _=>by
     have:=(hB' i _ (Array.getElem?_eq_getElem hi)).2.2 e he
     exact ih e.on this AO⟩
    rw[hr] at hm
    cases hm
 intro fuel
 induction fuel with
 | zero =>
  intro listed f w hsz hc hJ
  have hall:∀ i,i<ops.size→listed.getD i false=true:=by
   intro i hi
   have h0:(List.range ops.size).countP (fun i=>!listed.getD i false)=0:=by omega
   have:=(List.countP_eq_zero.1 h0) i (List.mem_range.2 hi)
   simpa using this
  refine⟨?_,hend _ f w hall hJ⟩
  refine List.eq_nil_iff_forall_not_mem.2 fun i hi=>?_
  obtain⟨h1,o,ho,_⟩:=mem_ready.1 hi
  have hlt:i<ops.size:=(Array.getElem?_eq_some_iff.1 ho).1
  have h2:=hall i hlt
  have hi':i<listed.size:=by omega
  simp only[Array.getD_eq_getD_getElem?,Array.getElem?_eq_getElem hi',Option.getD_some] at h1 h2
  rw[h1] at h2
  cases h2
 | succ fuel ih =>
  intro listed f w hsz hc hJ
  refine⟨fun hr=>hend _ f w (key listed hsz hr) hJ,fun i hi=>?_⟩
  obtain⟨h1,o,ho,hafter⟩:=mem_ready.1 hi
  have hlt:i<ops.size:=(Array.getElem?_eq_some_iff.1 ho).1
  have hi':i<listed.size:=by omega
  obtain⟨hg,⟨d,hd,hds⟩,_⟩:=hB' i o ho
  have hbi:listed.getD i false=false:=by
   simp only[Array.getD_eq_getD_getElem?,Array.getElem?_eq_getElem hi',Option.getD_some] at h1 ⊢
   exact h1
  unfold wpOp
  simp only[ho]
  rw[if_pos (by simp[Region.wanted,hg])]
  refine .inl (hstep _ f w hJ i o ho hbi hafter _ fun d' v w' hd' hJ'=>?_)
  rw[hd',putF_put ds A d' f v (by rw[hd] at hd';injection hd' with hd';exact hd' ▸ hds) hnd]
  have hset:(fun j=>(listed.setIfInBounds i true).getD j false)=upd (fun j=>listed.getD j false) i true:=by
   funext j
   simp only[Array.getD_eq_getD_getElem?,Array.getElem?_setIfInBounds,upd]
   by_cases e:i=j
   ·subst e;simp[hi']
   ·have e':¬ j=i:=fun q=>e q.symm
    simp[e,e']
  refine ih _ _ w' (by simpa using hsz) ?_ (by rw[hset];exact hJ')
  have hlt2:(List.range ops.size).countP (fun j=>!(listed.setIfInBounds i true).getD j false)<(List.range ops.size).countP (fun j=>!listed.getD j false):=by
   refine dR9 _ i (List.mem_range.2 hlt) (fun y hy=>?_) (by simp only[hbi];rfl) ?_
   ·have:=congrFun hset y
    rw[this] at hy
    by_cases e:y=i
    ·subst e;rw[dR7] at hy;cases hy
    ·rw[dR8 e] at hy;exact hy
   ·have:=congrFun hset i
    rw[this,dR7]
    rfl
  omega
theorem dS2 {id:Nat} {A:Act} {w:World} (hm:P.follows .mixedOrders=true) (ds:List Nat) (hnd:ds.Nodup) (hB:dS0 ds ops=true) (hin:∀ d ∈ ds,d<A.tmps.size) (J:(Nat→Bool)→(Nat→Value)→World→Prop)
  (h0:J (fun _=>false) (fun t=>A.tmps.getD t undef) w.drew)
  (hstep:∀ b f w,J b f w→∀ (i:Nat) (o:Oper),ops[i]?=some o→b i=false→(∀ e ∈ o.after,Region.binds .any e=true→b e.on=true)→∀ a:Act,(∀ t ∈ ds,a.tmps.getD t undef=f t)→(∀ t,t ∉ ds→a.tmps.getD t undef=A.tmps.getD t undef)→∀ K:Act→World→Prop,(∀ d v w',o.dst=some d→J (upd b i true) (upd f d v) w'→K (a.put o.dst v) w')→o.wp P a w K Q)
  (hend:∀ b f w,(∀ i,i<ops.size→b i=true)→J b f w→Q .normal (dR6 A ds f) w):(Code.region id ops true).wp P Q A w:=by
 refine wp_region_any hm ?_
 have hf:(fun i=>(Array.replicate ops.size false).getD i false)=fun _=>false:=by
  funext i
  simp only[Array.getD_eq_getD_getElem?,Array.getElem?_replicate]
  split <;> rfl
 have h:=dS1 hnd hB (P:=P) (A:=A) (fun b f w hJ i o ho hbi haf K hK=>hstep b f w hJ i o ho hbi haf (dR6 A ds f) (fun t ht=>by rw[putF_tmp ds A f t hin hnd,if_pos ht]) (fun t ht=>by rw[putF_tmp ds A f t hin hnd,if_neg ht]) K hK) hend ops.size (Array.replicate ops.size false) (fun t=>A.tmps.getD t undef) w.drew ZH2 (Nat.le_trans List.countP_le_length ZH2) (by rw[hf];exact h0)
 rw[putF_self ds A hin] at h
 exact h
end
def NoB (u:Value):Prop:=(∀ x,u≠.int .u8 x)∧∀ b,u≠.bool b
def dS3 (w:World) (v:Value):Prop:=∀ g,v.ownBlock=some g→∀ j u,w.cell? ⟨g,j,none⟩=some u→NoB u
theorem dS4 {w:World} {g:Nat} {cs:Array Value} {t:TypeId} {fr:Nat × Nat} (h:w.heap[g]?=some (.cells cs t fr)) (hc:∀ u ∈ cs.toList,NoB u) {v:Value} (hv:v.ownBlock=some g):dS3 w v:=by
 intro g' hg' j u hu
 rw[hv] at hg'
 injection hg' with hg'
 subst hg'
 rw[cell_of_row w g j cs t fr h] at hu
 obtain⟨hj,rfl⟩:=Array.getElem?_eq_some_iff.1 hu
 exact hc _ ZH2
theorem dS3.same {w w':World} {v:Value} (h:dS3 w v) (hb:∀ g,v.ownBlock=some g→w'.heap[g]?=w.heap[g]?):dS3 w' v:=fun g hg j u hu=>h g hg j u (by rw[← World.cell?_of_block (a:=⟨g,j,none⟩) (hb g hg)];exact hu)
theorem act_zero:(Tryz.prog.info? 38).map (fun i=>i.zero.map fun z=>z.cells)=some (some #[.int .i64 0,.int .i64 0,.int .i64 0,.slice none 0 0]):=by kernel_rfl
theorem act_z {i:TypeInfo} {z:Value} (hi:Tryz.prog.info? 38=some i) (hz:i.zero=some z):∀ u ∈ z.cells.toList,NoB u:=by
 have h:=act_zero
 rw[hi] at h
 simp only[Option.map_some,Option.some.injEq,hz] at h
 rw[h]
 intro u hu
 simp at hu
 rcases hu with rfl|rfl <;> exact⟨fun x e=>(by cases e),fun b e=>(by cases e)⟩
theorem dS5 {z:Array Value} (hz:∀ u ∈ z.toList,NoB u) (hs:0<z.size) (n:Nat):∀ u ∈ (Builtin.zeroCells z n).toList,NoB u:=by
 intro u hu
 simp only[Builtin.zeroCells,Array.toList_map,List.mem_map] at hu
 obtain⟨i,_,rfl⟩:=hu
 have hlt:i % z.size<z.size:=Nat.mod_lt _ hs
 rw[getElem!_pos z _ hlt]
 exact hz _ ZH2
section
variable {P : Program} (w : World)
theorem app_N (base:Nat) (t ty e:TypeId) (i:TypeInfo) (z:Value) (size bytes:Nat) (ht:P.underlying t=some (.slice e)) (hi:P.info? e=some i) (hz:i.zero=some z)
  (hsize:i.size=size) (hby:i.bytes=bytes) (hzs:z.cells.size=size) (hsz:0<size)
  (v:Value) (n:Nat) (xs:List Value) (hown:w.ownsRow base e size v n xs)
  (ad:Addr) (m c:Nat) (news:List Value) (hl:news.length=m*size) (hnews:∀ j u,news[j]?=some u→w.cell? (ad.add j)=some u) (h1:∀ u ∈ news,u.oneCell'=true) (hm:0<m)
  (h63:n+m≤maxLen) (hbytes:(n+m)*bytes≤140737488355328)
  (hnz:∀ u ∈ z.cells.toList,NoB u) (hnn:∀ u ∈ news,NoB u) (hv:dS3 w v) {v':Value} {w':World}
  (hrun:(Builtin.append_ #[t,t] ty #[v,.slice (some ad) m c]).run P w=.ok v' w'):dS3 w' v':=by
 subst hsize
 subst hby
 have hsmall:n+m≤9223372036854775807:=by simp only[maxLen] at h63;omega
 have hzc:=fun k=>dS5 hnz AO k
 have mem3:∀ (xs ys zs:List Value),(∀ u ∈ xs,NoB u)→(∀ u ∈ ys,NoB u)→(∀ u ∈ zs,NoB u)→∀ u ∈ xs++ys++zs,NoB u:=fun xs ys zs h1 h2 h3 u hu=>by
  rcases List.mem_append.1 hu with h|h
  ·exact (List.mem_append.1 h).elim (h1 u) (h2 u)
  ·exact h3 u h
 rcases hown.2 with ⟨rfl,rfl⟩|⟨g,cap,cur,rfl,hbg,hg,hnc,hcm,hcs,htake⟩
 ·have hr:=run_append_nil (P:=P) w t ty e i z ht hi hz ad m c news hl hnews hm AO (by have hb:=hbytes;simp only[Nat.zero_add] at hb;omega)
  rw[hr] at hrun
  injection hrun with e1 e2
  subst e1
  subst e2
  refine dS4 (heap_alloc_new w.drew _) (fun u hu=>?_) rfl
  rw[Array.toList_append] at hu
  rcases List.mem_append.1 hu with h|h
  ·exact hnn u h
  ·exact hzc _ u h
 ·have hcur:∀ u ∈ cur.toList,NoB u:=fun u hu=>by
   obtain⟨j,hj,rfl⟩:=List.mem_iff_getElem.1 hu
   refine hv g rfl j _ ?_
   rw[cell_of_row w g j cur e (0,0) hg]
   simp at hj ⊢
  by_cases hroom:n+m≤cap
  ·have hfit:n*i.size+news.length≤cur.size:=by rw[hl,hcs,← Nat.add_mul];exact Nat.mul_le_mul_right _ hroom
   have hr:=run_append_room (P:=P) w t ty e i ht hi g n cap cur hg ad m c news hl hnews h1 hroom hfit
   rw[hr] at hrun
   injection hrun with e1 e2
   subst e1
   subst e2
   refine dS4 (setRow_heap w g cur _ e _ hg) (fun u hu=>?_) rfl
   exact mem3 _ _ _ (fun u hu=>hcur u (List.mem_of_mem_take hu)) hnn (fun u hu=>hcur u (List.mem_of_mem_drop hu)) u hu
  ·have hx:∀ u ∈ xs,NoB u:=fun u hu=>hcur u (by rw[← htake] at hu;exact List.mem_of_mem_take hu)
   have holds:∀ j u,xs[j]?=some u→w.cell? ((⟨g,0,none⟩:Addr).add j)=some u:=hown.cells (g:=g) rfl
   have hr:=run_append_grow (P:=P) w t ty e i z ht hi hz ⟨g,0,none⟩ n cap xs hown.1 holds ad m c news hl hnews AO AO (growslice_fits AO hbytes)
   rw[hr] at hrun
   injection hrun with e1 e2
   subst e1
   subst e2
   refine dS4 (heap_alloc_new w.drew _) (fun u hu=>?_) rfl
   rw[Array.toList_append,Array.toList_append] at hu
   exact mem3 _ _ _ hx hnn (hzc _) u hu
end
section
variable {P : Program} {α : Type} {size : Nat} {R : (Nat → Prop) → World → List Value → α → Prop} {S : Nat → Prop}
def NV (v:Value) (b:Nat):Prop:=v.ownBlock≠some b
theorem dS6 {news:List Value} {n:Nat} (h:news.length=n*size) (hs:0<size) {u:Value} (hu:u ∈ news):∃ i,i<n∧u ∈ (news.drop (i*size)).take size:=by
 obtain⟨j,hj,rfl⟩:=List.mem_iff_getElem.1 hu
 refine⟨j / size,Nat.div_lt_of_lt_mul (by rw[Nat.mul_comm,← h];exact hj),List.mem_iff_getElem?.2 ⟨j % size,?_⟩⟩
 rw[List.getElem?_take_of_lt (Nat.mod_lt _ hs),List.getElem?_drop,Nat.div_add_mod' j size]
 exact List.getElem?_eq_getElem hj
theorem own_news (hR:bI R) (hone:∀ S w cs x,R S w cs x→∀ u ∈ cs,u.oneCell'=true) (hs:0<size) {w:World} {base:Nat} {e:TypeId} {A:Option Addr} {n c:Nat} {l:List α} (h:Own size R S w base e (.slice A n c) l) (hl:0<l.length) :
  ∃ g,A=some ⟨g,0,none⟩∧∃ news:List Value,news.length=l.length*size∧(∀ i (hi:i<l.length),R (NV (.slice A n c)) w ((news.drop (i*size)).take size) l[i])∧(∀ j u,news[j]?=some u→w.cell? ((⟨g,0,none⟩:Addr).add j)=some u)∧∀ u ∈ news,u.oneCell'=true:=by
 obtain⟨xs,h1,h2⟩:=h
 rcases h1.2 with ⟨_,h0⟩|⟨g,cap,cur,hv,_⟩
 ·omega
 ·have hA:A=some ⟨g,0,none⟩:=by injection hv
  subst hA
  refine⟨g,rfl,xs,h1.1,fun i hi=>hR.less _ _ _ _ _ (fun b _ hb=>hb.2) (h2 i hi),h1.cells (g:=g) rfl,fun u hu=>?_⟩
  obtain⟨i,hi,hm⟩:=dS6 h1.1 hs hu
  exact hone _ _ _ _ (h2 i hi) u hm
theorem dS7 (hno:∀ S w cs x,R S w cs x→∀ u ∈ cs,NoB u) (hR:bI R) (w:World) {o:Oper} {a:Act} {K:Act→World→Prop} {Q:Exit→Act→World→Prop} (s x:Operand) (t:TypeId)
  (ho:o.op=.call { callee:=.builtin .append,args:=#[s,x],argTypes:=#[t,t] })
  (base:Nat) (e:TypeId) (i:TypeInfo) (z:Value) (bytes:Nat) (ht:P.underlying t=some (.slice e)) (hi:P.info? e=some i) (hz:i.zero=some z)
  (hsize:i.size=size) (hby:i.bytes=bytes) (hzs:z.cells.size=size) (hsz:0<size) (hnz:∀ u ∈ z.cells.toList,NoB u)
  (v:Value) (l:List α) (hs:a.eval s=v) (hown:Own size R S w base e v l) (hv:dS3 w v)
  (ad:Addr) (m c:Nat) (l2:List α) (hm:m=l2.length) (hm0:0<m) (hx:a.eval x=.slice (some ad) m c)
  (news:List Value) (n1:news.length=l2.length*size) (n2:∀ i (h:i<l2.length),R (fun b=>S b∧v.ownBlock≠some b) w ((news.drop (i*size)).take size) l2[i]) (n3:∀ j u,news[j]?=some u→w.cell? (ad.add j)=some u) (n4:∀ u ∈ news,u.oneCell'=true)
  (h63:l.length+l2.length≤maxLen) (hbytes:(l.length+l2.length)*bytes≤140737488355328) (hbase:base≤w.heap.size)
  (h:∀ v' w',Own size R S w' base e v' (l++l2)→Below base w w'→w.grownBy w' v.ownBlock→dS3 w' v'→K (a.put o.dst v') w'):o.wp P a w K Q:=by
 subst hm
 obtain⟨xs,h1,h2⟩:=hown
 have hnn:∀ u ∈ news,NoB u:=fun u hu=>by
  obtain⟨i,hi,hm⟩:=dS6 n1 hsz hu
  exact hno _ _ _ _ (n2 i hi) u hm
 obtain⟨v',w',hrun,r1,r2,r3⟩:=run_app (P:=P) w base t o.type e i z size bytes ht hi hz hsize hby hzs hsz v l.length xs h1 (some ad) l2.length c news n1 (fun _=>⟨ad,rfl,n3⟩) n4 h63 hbytes hbase
 have hN:=app_N (P:=P) w base t o.type e i z size bytes ht hi hz hsize hby hzs hsz v l.length xs h1 ad l2.length c news n1 n3 n4 hm0 h63 hbytes hnz hnn hv hrun
 unfold Oper.wp execOp
 simp only[ho,resolve,invoke,builtin,Sem.run_bind,Sem.run_pure,Result.andThen_ok,List.map_toArray,List.map_cons,List.map_nil,hs,hx,hrun]
 exact h v' w' (Own.cat hR h2 h1 r1 r2 r3 n2) (aA6 h1 r2 hbase) r2 hN
theorem wpl_catN (hno:∀ S w cs x,R S w cs x→∀ u ∈ cs,NoB u) (hR:bI R) (w:World) {ops:Array Oper} {rest:List Oper} {o:Oper} {a:Act} {Q:Exit→Act→World→Prop} (hgd:o.guard=none) (s x:Operand) (t:TypeId)
  (ho:o.op=.call { callee:=.builtin .append,args:=#[s,x],argTypes:=#[t,t] })
  (base:Nat) (e:TypeId) (i:TypeInfo) (z:Value) (bytes:Nat) (ht:P.underlying t=some (.slice e)) (hi:P.info? e=some i) (hz:i.zero=some z)
  (hsize:i.size=size) (hby:i.bytes=bytes) (hzs:z.cells.size=size) (hsz:0<size) (hnz:∀ u ∈ z.cells.toList,NoB u)
  (v:Value) (l:List α) (hs:a.eval s=v) (hown:Own size R S w base e v l) (hv:dS3 w v)
  (ad:Addr) (m c:Nat) (l2:List α) (hm:m=l2.length) (hm0:0<m) (hx:a.eval x=.slice (some ad) m c)
  (news:List Value) (n1:news.length=l2.length*size) (n2:∀ i (h:i<l2.length),R (fun b=>S b∧v.ownBlock≠some b) w ((news.drop (i*size)).take size) l2[i]) (n3:∀ j u,news[j]?=some u→w.cell? (ad.add j)=some u) (n4:∀ u ∈ news,u.oneCell'=true)
  (h63:l.length+l2.length≤maxLen) (hbytes:(l.length+l2.length)*bytes≤140737488355328) (hbase:base≤w.heap.size)
  (h:∀ v' w',Own size R S w' base e v' (l++l2)→Below base w w'→w.grownBy w' v.ownBlock→dS3 w' v'→wpList P ops Q rest (a.put o.dst v') w'):wpList P ops Q (o :: rest) a w :=
 wpList_plain hgd fun _ hK=>dS7 hno hR w s x t ho base e i z bytes ht hi hz hsize hby hzs hsz hnz v l hs hown hv ad m c l2 hm hm0 hx news n1 n2 n3 n4 h63 hbytes hbase fun v' w' h1 h2 h3 h4=>hK _ _ (h v' w' h1 h2 h3 h4)
end
theorem acR_noB:∀ S w cs x,AcR S w cs x→∀ u ∈ cs,NoB u:=by
 rintro S w cs x ⟨A,c,rfl,_⟩ u hu
 simp at hu
 rcases hu with rfl|rfl|rfl|rfl <;> exact⟨fun x e=>(by cases e),fun b e=>(by cases e)⟩
theorem dS8 {S:Nat→Prop} {w:World} {A:Option Addr} {l:List UInt8} {v:Value} (h:Bs S w A l) (hn:dS3 w v):Bs (NV v) w A l:=by
 intro hl
 obtain⟨b,off,hA,_,hlt,hi⟩:=h hl
 refine⟨b,off,hA,fun e=>?_,hlt,fun i hil=>?_⟩
 ·obtain⟨cs,c1,c2,c3⟩:=hi 0 hl
  have c3':cs=[bv l[0]]:=c3
  have:=c2 0 AO
  rw[c3'] at this
  exact (hn b e _ _ this).1 _ rfl
 ·obtain⟨cs,c1,c2,c3⟩:=hi i hil
  exact⟨cs,c1,c2,c3⟩
theorem sts_notN {S:Nat→Prop} {w:World} {A:Option Addr} {l:List St} {v:Value} (h:Sts S w A l) (hn:dS3 w v):Sts (NV v) w A l:=by
 intro hl
 obtain⟨b,off,hA,_,hlt,hi⟩:=h hl
 refine⟨b,off,hA,fun e=>?_,hlt,fun i hil=>?_⟩
 ·obtain⟨cs,c1,c2,B,c,c3,_⟩:=hi 0 hl
  have:=c2 1 AO
  rw[c3] at this
  exact (hn b e _ _ this).2 _ rfl
 ·obtain⟨cs,c1,c2,B,c,c3,c4,c5⟩:=hi i hil
  exact⟨cs,c1,c2,B,c,c3,dS8 c4 hn,c5⟩
theorem dS9 {w w':World} {v:Value} (hg:w.grownBy w' v.ownBlock):aC (NV v) w w':=aC.grown (aC.refl _ _) hg fun _ hk hn=>hn hk
theorem own_from {α:Type} {size:Nat} {R:(Nat→Prop)→World→List Value→α→Prop} (hR:bI R) {S:Nat→Prop} {w w':World} {base:Nat} {e:TypeId} {v:Value} {l:List α} (h:Own size R S w base e v l) (hb:aC S w w') (hS:∀ b,base≤b→S b):Own size R S w' base e v l:=by
 obtain⟨xs,h1,h2⟩:=h
 exact⟨xs,aZ6 h1 fun g hg hl=>hb.block g (hS g hg) hl,fun i hi=>hR.1 _ _ _ _ _ ⟨hb.size,fun k hk hl=>hb.block k hk.1 hl⟩ (h2 i hi)⟩
theorem dT0 {α:Type} {size:Nat} {R:(Nat→Prop)→World→List Value→α→Prop} {S:Nat→Prop} {w:World} {base:Nat} {e:TypeId} {v:Value} {l:List α} (h:Own size R S w base e v l) {g:Nat} (hg:v.ownBlock=some g):base≤g∧g<w.heap.size:=by
 obtain⟨xs,h1,_⟩:=h
 exact h1.lt g hg
theorem sl_three {α:Type} {size:Nat} {R:(Nat→Prop)→World→List Value→α→Prop} {S:Nat→Prop} (W:World) (b:Nat) (c0 c1 c2:List Value) (t:TypeId) (h:W.heap[b]?=some (.cells (c0++(c1++c2)).toArray t (0,0))) (h0:c0.length=size) (h1:c1.length=size) (h2:c2.length=size) (x0 x1 x2:α) (r0:R S W c0 x0) (r1:R S W c1 x1) (r2:R S W c2 x2) (hS:S b):SL size R S W (some ⟨b,0,none⟩) [x0,x1,x2]:=by
 refine fun _=>⟨b,0,rfl,hS,(Array.getElem?_eq_some_iff.1 h).1,fun i hi=>?_⟩
 have hi':i<3:=hi
 have:i=0∨i=1∨i=2:=by omega
 rcases this with rfl|rfl|rfl
 ·exact⟨c0,h0,fun j hj=>by rw[aA h,List.getElem?_append_left AO];simp,r0⟩
 ·exact⟨c1,h1,fun j hj=>by rw[aA h,List.getElem?_append_right AO,List.getElem?_append_left AO];congr 1;omega,r1⟩
 ·exact⟨c2,h2,fun j hj=>by rw[aA h,List.getElem?_append_right AO,List.getElem?_append_right AO];congr 1;omega,r2⟩
structure Nm (g:Eng) (n:Nat):Prop where
 few:g.commits.length≤n
 com:∀ c ∈ g.commits,∀ x ∈ c.2,Abc x.name
 txn:∀ s t,(g.at s).txn=some t→∀ x ∈ t.writes,Abc x.name
 down:g.up=false→g.waiting=[]
theorem nm_zero:Nm eng0 0 :=
 ⟨zn,fun c h=>by simp[eng0] at h,fun s t h=>(by rw[show eng0.at s=ss0 from cO1 s] at h;cases h),fun h=>by cases h⟩
theorem dT1 {t:Tx} {r:Wr} (h:(aH7 t r).2=0):(aH7 t r).1.writes=t.writes:=by
 unfold aH7 at h ⊢
 by_cases h1:aN t=0
 ·rw[if_neg ZE3] at h ⊢
  by_cases h2:aA4 r=0
  ·rw[if_neg (by simpa using h2)] at h ⊢
   by_cases h3:t.reads.any (fun x=>aC7 x r)=true
   ·rw[if_pos h3]
   ·rw[if_neg h3] at h ⊢
    by_cases h4:t.reads.length=20
    ·rw[if_pos h4] at h;cases h
    ·rw[if_neg h4]
  ·rw[if_pos h2] at h;exact absurd h h2
 ·rw[if_pos h1] at h;exact absurd h h1
theorem dT2 {t:Tx} {r:Wr} (h:(aD0 t r).2=0):aH r=0∧∀ x ∈ (aD0 t r).1.writes,x ∈ t.writes∨x=r:=by
 unfold aD0 at h ⊢
 by_cases h1:aN t=0
 ·rw[if_neg ZE3] at h ⊢
  by_cases h2:aH r=0
  ·rw[if_neg (by simpa using h2)] at h ⊢
   refine⟨h2,fun x hx=>?_⟩
   by_cases h3:t.writes.any (fun x=>bE x r)=true
   ·rw[if_pos h3] at hx
    exact List.mem_or_eq_of_mem_set hx
   ·rw[if_neg h3] at h hx
    by_cases h4:t.writes.length=10
    ·rw[if_pos h4] at h;cases h
    ·rw[if_neg h4] at hx
     simpa using hx
  ·rw[if_pos h2] at h;exact absurd h h2
 ·rw[if_pos h1] at h;exact absurd h h1
theorem dT3 {r:Rq} (h:aH (aF9 r).1=0):(r.kind=4∨r.kind=5)∧(aF9 r).1.name=r.name:=by
 unfold aF9 at h ⊢
 split at h
 ·exact absurd (show aH wr0=0 from h) ZD9
 ·rename_i h1
  rw[if_neg h1]
  split at h
  ·rename_i h2
   rw[if_pos h2]
   exact⟨h2,rfl⟩
  ·exact absurd (show aH wr0=0 from h) ZD9
section
variable {g : Eng} {n : Nat}
theorem Nm.mono (h:Nm g n) {k:Nat} (hk:n≤k):Nm g k:=⟨Nat.le_trans h.few hk,h.com,h.txn,h.down⟩
theorem Nm.say (h:Nm g n) (r:Rp):Nm (g.say r) n:=⟨h.few,h.com,h.txn,h.down⟩
theorem Nm.put (h:Nm g n) (hl:g.sess.length=8) {s:Nat} (hs:s<8) (x:Ss) (hx:∀ t,x.txn=some t→∀ y ∈ t.writes,Abc y.name):Nm (g.put s x) n :=
 ⟨h.few,h.com,fun k t hk=>by
  rw[aH6 g s k x (by rw[hl];exact hs)] at hk
  by_cases e:k=s
  ·rw[if_pos e] at hk;exact hx t hk
  ·rw[if_neg e] at hk;exact h.txn k t hk,h.down⟩
theorem Nm.note (h:Nm g n) (hl:g.sess.length=8) {s:Nat} (hs:s<8) {t:Tx} (ht:∀ x ∈ t.writes,Abc x.name) (r:Rq):Nm (aE8 g s t r).1 n:=by
 unfold aE8
 by_cases h1:(aH7 t (aG1 r).1).2=0
 ·rw[if_neg ZE3]
  exact h.put hl hs _ fun x e=>by cases e;rw[dT1 h1];exact ht
 ·rw[if_pos h1]
  exact h.say _
theorem Nm.commit (h:Nm g n) (hl:g.sess.length=8) {s:Nat} (hs:s<8) {t:Tx} (ht:∀ x ∈ t.writes,Abc x.name) (hu:g.up=true):Nm (aG2 g s t) (n+1):=by
 have hd:Nm (g.txn s none) n:=h.put hl hs _ fun _ e=>by cases e
 unfold aG2
 split
 ·exact (hd.say _).mono (Nat.le_succ n)
 ·split
  ·exact (h.say _).mono (Nat.le_succ n)
  ·split
   ·exact (hd.say _).mono (Nat.le_succ n)
   ·split
    ·exact (hd.say _).mono (Nat.le_succ n)
    ·split
     ·exact (hd.say _).mono (Nat.le_succ n)
     ·have h1:=h.put hl hs ⟨none,true⟩ fun _ e=>by cases e
      exact⟨by show (g.commits++[_]).length≤n+1;have:=h.few;rw[List.length_append,List.length_singleton];omega,fun c hc=>by
       have hc':c ∈ g.commits++[g.next t]:=hc
       rcases List.mem_append.1 hc' with h2|h2
       ·exact h.com c h2
       ·rw[List.mem_singleton] at h2;rw[h2];exact ht,h1.txn,fun e=>by
       have e':g.up=false:=e
       rw[hu] at e';cases e'⟩
theorem Nm.work (h:Nm g n) (hl:g.sess.length=8) {s:Nat} (hs:s<8) {t:Tx} (ht:∀ x ∈ t.writes,Abc x.name) (hu:g.up=true) (r:Rq) (hr:(r.kind=4∨r.kind=5)→Abc r.name):Nm (aG8 g s t r) (n+1):=by
 have hn:=h.note hl hs ht r
 unfold aG8
 split
 ·unfold getE
  split
  ·exact hn.mono (Nat.le_succ n)
  ·split
   ·exact (h.say _).mono (Nat.le_succ n)
   ·exact (hn.say _).mono (Nat.le_succ n)
 ·split
  ·unfold scanE
   split
   ·exact (h.say _).mono (Nat.le_succ n)
   ·split
    ·exact hn.mono (Nat.le_succ n)
    ·exact (hn.say _).mono (Nat.le_succ n)
  ·split
   ·exact h.commit hl hs ht hu
   ·unfold cB4
    split
    ·rename_i hc
     obtain⟨h1,h2⟩:=dT2 hc
     obtain⟨h3,h4⟩:=dT3 h1
     refine ((h.put hl hs _ fun x e=>?_).say _).mono (Nat.le_succ n)
     cases e
     intro y hy
     rcases h2 y hy with h5|h5
     ·exact ht y h5
     ·rw[h5,h4];exact hr h3
    ·exact (h.say _).mono (Nat.le_succ n)
theorem Nm.request (h:Nm g n) (hl:g.sess.length=8) {s:Nat} (hs:s<8) (hu:g.up=true) (r:Rq) (hr:(r.kind=4∨r.kind=5)→Abc r.name):Nm (aH3 g s r) (n+1):=by
 have hd:Nm (g.txn s none) n:=h.put hl hs _ fun _ e=>by cases e
 unfold aH3
 split
 ·exact (h.say _).mono (Nat.le_succ n)
 ·split
  ·exact (h.say _).mono (Nat.le_succ n)
  ·split
   ·exact ((h.put hl hs _ fun x e=>by cases e;intro y hy;cases hy).say _).mono (Nat.le_succ n)
   ·split
    ·exact (hd.say _).mono (Nat.le_succ n)
    ·split
     ·exact (hd.say _).mono (Nat.le_succ n)
     ·refine h.work hl hs ?_ hu r hr
      cases e:(g.at s).txn with
      | none=>intro y hy;cases hy
      | some t=>exact h.txn s t e
theorem Nm.ask (h:Nm g n) (hl:g.sess.length=8) {s:Nat} (hs:s<8) (d:List UInt8) (hd:(aM2 d).2=0→((aM2 d).1.kind=4∨(aM2 d).1.kind=5)→Abc (aM2 d).1.name):Nm (aS0 g s d) (n+1):=by
 unfold aS0
 split
 ·exact (h.say _).mono (Nat.le_succ n)
 ·rename_i hu
  split
  ·exact (h.say _).mono (Nat.le_succ n)
  ·rename_i he
   exact h.request hl hs (by simpa using hu) _ (hd (by simpa using he))
theorem Nm.act (h:Nm g n) {m:Nat} (hi:Inv g m) {a:Ac} (ha:aB6 a=0) (hb:dR0 a):Nm (doE g a) (n+1):=by
 obtain⟨h1,h2,_⟩:=aT9 ha
 unfold doE
 split
 ·rename_i hk
  exact h.ask hi.sess (by have:=h1 hk;omega) _ (hb hk)
 ·split
  ·unfold aV2
   split
   ·exact h.mono (Nat.le_succ n)
   ·obtain⟨b1,b2,b3,b4,b5,b6,b7,b8⟩:=sync_fold g.waiting { g with tape:=if aR5 g.tape then (g.tape.1,(g.tape.1.length:Int)) else ([],0) } hi.sess hi.who
    generalize List.foldl aC1 { g with tape:=if aR5 g.tape then (g.tape.1,(g.tape.1.length:Int)) else ([],0) } g.waiting=x at *
    dsimp only at b3
    exact⟨by show x.commits.length≤_;rw[b3];have:=h.few;omega,fun c hc=>by
     have hc':c ∈ x.commits:=hc
     rw[b3] at hc'
     exact h.com c hc',fun s t ht=>by
     have ht':(x.at s).txn=some t:=ht
     rw[b7] at ht'
     exact h.txn s t ht',fun _=>rfl⟩
  ·split
   ·rename_i hk
    unfold aS1
    split
    ·exact h.mono (Nat.le_succ n)
    ·obtain⟨j,j1,j2,j3⟩:=bH8 hi.holds (h2 hk).1
     rw[j3]
     exact⟨by show (g.commits.take j).length≤_;have:=h.few;rw[List.length_take];omega,fun c hc=>h.com c (List.mem_of_mem_take hc),fun s t ht=>(by
      have ht':((List.replicate 8 ss0).getD s ss0).txn=some t:=ht
      rw[cO1] at ht';cases ht'),fun _=>rfl⟩
   ·exact⟨Nat.le_trans h.few (Nat.le_succ n),h.com,h.txn,fun e=>by cases e⟩
end
theorem nm_acts:∀ (l:List Ac) (g:Eng) (n m:Nat),Nm g n→Inv g m→(∀ a ∈ l,aB6 a=0∧dR0 a)→Nm (l.foldl doE g) (n+l.length)
 | [],_,_,_,h,_,_=>h
 | a :: l,g,n,m,h,hi,hl=>by
  obtain⟨h1,h2⟩:=hl a ZH2
  have:=nm_acts l (doE g a) (n+1) (m+1) (h.act hi h1 h2) (hi.act h1) fun b hb=>hl b (by simp[hb])
  rw[List.foldl_cons,List.length_cons,show n+(l.length+1)=n+1+l.length by omega]
  exact this
def Nms (l:List Tn):Prop:=∀ t ∈ l,Abc t.1
theorem put_mem {l:List Tn} (h:aN0 l) (p:Tn) (d:Bool) {t:Tn} (ht:t ∈ aW3 p d l):t ∈ l∨t=p:=by
 have hr:=((aB8 l).1 h).2.2
 cases d
 ·exact (bI4 p l hr).2 t ht
 ·rw[aY5] at ht
  exact .inl (List.mem_filter.1 ht).1
theorem dT4 {l:List Tn} {x:Wr} (h:aN0 l) (hl:Nms l) (hx:Abc x.name):Nms (aC6 l x).1:=by
 unfold aC6
 split
 ·intro t ht;cases ht
 ·unfold aY4
  dsimp only
  split
  ·intro t ht;cases ht
  ·split
   ·intro t ht;cases ht
   ·intro t ht
    rcases put_mem h _ _ ht with h1|h1
    ·exact hl t h1
    ·rw[h1];exact hx
theorem apply_names:∀ (ws:List Wr) (l:List Tn),aN0 l→Nms l→(∀ x ∈ ws,Abc x.name)→Nms (applyAll ws l).1
 | [],_,_,h,_=>h
 | x :: xs,l,hf,h,hw=>by
  unfold applyAll
  by_cases h1:(aC6 l x).2=0
  ·rw[if_neg ZE3]
   exact apply_names xs _ (bI5 hf h1) (dT4 hf h (hw x ZH2)) fun y hy=>hw y (by simp[hy])
  ·rw[if_pos h1]
   intro t ht;cases ht
theorem dT5 {l:List Tn} {ws:List Wr} (hf:aN0 l) (h:Nms l) (hw:∀ x ∈ ws,Abc x.name):Nms (aC4 l ws).1:=by
 unfold aC4
 split
 ·intro t ht;cases ht
 ·split
  ·intro t ht;cases ht
  ·exact apply_names ws l hf h hw
theorem dT6 {l:List Cm} (h:∀ c ∈ l,∀ x ∈ c.2,Abc x.name) (n:Nat):Nms (aS l n):=by
 have key:∀ (m:List Cm) (f:List Tn),aN0 f→Nms f→(∀ c ∈ m,∀ x ∈ c.2,Abc x.name)→Nms (m.foldl (fun f c=>(aC4 f c.2).1) f):=by
  intro m
  induction m with
  | nil=>exact fun f _ h _=>h
  | cons c m ih=>exact fun f hf hn hm=>ih _ (bT3 f c.2) (dT5 hf hn (hm c ZH2)) fun d hd=>hm d (by simp[hd])
 exact key _ [] rfl (fun t ht=>by cases ht) fun c hc=>h c (List.mem_of_mem_take hc)
theorem abc_num {n:List UInt8} (h:Abc n):∃ b:UInt8,n=[b]∧97≤b.toNat∧b.toNat<100:=by
 rcases h with rfl|rfl|rfl
 ·exact⟨97,rfl,by decide,by decide⟩
 ·exact⟨98,rfl,by decide,by decide⟩
 ·exact⟨99,rfl,by decide,by decide⟩
theorem dT7 {a b:UInt8} (h:lt [a] [b]=true):a.toNat<b.toNat:=by
 simpa [lt,Op.bytesLess,UInt8.lt_iff_toNat_lt] using h
theorem dT8 {l:List Tn} (hf:aN0 l) (h:Nms l):l.length≤3:=by
 have hr:=((aB8 l).1 hf).2.2
 rcases Nat.lt_or_ge 3 l.length with h4|h4
 ·exfalso
  have hk:(aP l).length=l.length:=by simp[aP]
  have key:∀ i (hi:i<l.length),∃ b:UInt8,(aP l)[i]'(by omega)=[b]∧97≤b.toNat∧b.toNat<100:=fun i hi=>by
   rw[aC3]
   exact abc_num (h _ (List.getElem_mem hi))
  obtain⟨b0,e0,p0,_⟩:=key 0 AO
  obtain⟨b1,e1,_,_⟩:=key 1 AO
  obtain⟨b2,e2,_,_⟩:=key 2 AO
  obtain⟨b3,e3,_,p3⟩:=key 3 AO
  have h01:=hr 0 1 AO AO
  have h12:=hr 1 2 AO AO
  have h23:=hr 2 3 AO AO
  rw[e0,e1] at h01
  rw[e1,e2] at h12
  rw[e2,e3] at h23
  have:=dT7 h01
  have:=dT7 h12
  have:=dT7 h23
  omega
 ·exact h4
theorem dT9 {l:List Tn} {p:Tn} {m:List UInt8} (i:Nat) (h:(p.1==m)=false):aJ (ins l i p) m=aJ l m:=by
 unfold aJ ins
 conv=>rhs;rw[← List.take_append_drop i l]
 rw[List.find?_append,List.find?_append,List.find?_cons,h]
def yWr (k:List UInt8):Wr:=⟨[121],k,false,[]⟩
theorem dU0 {l:List Tn} (hf:aN0 l) (h:Nms l) {k:List UInt8} (hk:k.length=1):(aC4 l [yWr k]).2=0∧∀ m,Abc m→aJ (aC4 l [yWr k]).1 m=aJ l m:=by
 have hr:=((aB8 l).1 hf).2.2
 have hfew:=dT8 hf h
 have hkf:aE k=0:=by unfold aE;rw[if_pos ⟨AO,AO⟩]
 have hpf:aA5 (k,[])=0:=by unfold aA5;simp[hkf]
 have hw:aH (yWr k)=0:=by
  unfold aH
  rw[if_neg (by simp[yWr,aI]),if_neg (by simp[yWr])]
  exact hpf
 have hno:∀ t ∈ l,t.1≠[121]:=fun t ht e=>by
  have:=h t ht
  rw[e] at this
  rcases this with h1|h1|h1 <;> exact absurd h1 ZD9
 have hp0:aJ l [121]=[]:=by
  unfold aJ
  rw[List.find?_eq_none.2 fun t ht=>by simpa using hno t ht]
  rfl
 have hn:bH (aJ l (yWr k).name) (yWr k)=([(k,[])],0):=by
  show bH (aJ l [121]) (yWr k)=_
  rw[hp0]
  unfold bH
  rw[if_neg (by simp[yWr])]
  unfold aK0
  rw[if_neg (by unfold aJ9;rw[if_neg ZD9];show ¬ (aA5 (k,[])≠0);simpa using hpf)]
  rfl
 have hpe:∃ i,aW3 ([121],[(k,[])]) false l=ins l i ([121],[(k,([]:List UInt8))]):=by
  rw[aP8]
  rcases bZ1 ([121],[(k,([]:List UInt8))]) l hr with ⟨i,hi,he,_⟩|⟨i,_,_,he⟩
  ·exact absurd he (hno _ (List.getElem_mem hi))
  ·exact⟨i,he⟩
 obtain⟨i,hpe⟩:=hpe
 have hwr:aC6 l (yWr k)=(ins l i ([121],[(k,([]:List UInt8))]),0):=by
  unfold aC6
  rw[if_neg (by simpa using hw)]
  unfold aY4
  dsimp only
  rw[hn,if_neg ZH2]
  show (if 8<(aW3 ([121],[(k,[])]) false l).length then _ else (aW3 ([121],[(k,[])]) false l,_))=_
  rw[hpe,if_neg (by rw[aS4];omega)]
 have ha:aC4 l [yWr k]=(ins l i ([121],[(k,([]:List UInt8))]),0):=by
  unfold aC4
  rw[if_neg (by rw[show aL l=0 from hf];simp),if_neg ZH2]
  unfold applyAll
  rw[hwr,if_neg ZH2]
  rfl
 rw[ha]
 refine⟨rfl,fun m hm=>dT9 i ?_⟩
 rcases hm with rfl|rfl|rfl
 ·show (([121]:List UInt8)==[97])=false;decide
 ·show (([121]:List UInt8)==[98])=false;decide
 ·show (([121]:List UInt8)==[99])=false;decide
theorem frames_len:∀ (l:List Cm) (s:Nat),bG0 s l→(aR l).length≤606*l.length
 | [],_,_=>by simp[aR]
 | c :: l,s,h=>by
  have h1:=frames_len l (s+1) h.tail
  have h2:=(cO0 (h 0 ZH2).1).2
  simp only[List.getElem_cons_zero] at h2
  rw[aO3,List.length_append,List.length_cons]
  omega
structure Idle (g:Eng):Prop where
 up:g.up=true
 waiting:g.waiting=[]
 mine:g.at 7=⟨none,false⟩
theorem dU1 {g:Eng} {s:Nat} {d:List UInt8} {r:Rq} (hu:g.up=true) (hd:aM2 d=(r,0)):aS0 g s d=aH3 g s r:=by
 unfold aS0
 rw[if_neg (by rw[hu];simp),hd,if_neg ZH2]
theorem idle_of {g:Eng} {m n:Nat} (hi:Inv g m) (hn:Nm g n) (hw:Wt g) {d:List UInt8} (hd:aM2 d=(⟨7,[],[],[],[]⟩,0)):Idle ([(⟨2,0,0,[]⟩:Ac),⟨4,0,0,[]⟩,⟨1,((7:Nat):Int),0,d⟩].foldl doE g):=by
 have hi1:=hi.act sync_fine
 have hw1:=hw.act hi sync_fine
 have h1:(doE g ⟨2,0,0,[]⟩).waiting=[]:=by
  show (aV2 g).waiting=[]
  unfold aV2
  by_cases hu:g.up=false
  ·rw[if_pos hu];exact hn.down hu
  ·rw[if_neg hu]
 have hi2:=hi1.act start_fine
 have hw2:=hw1.act hi1 start_fine
 have h2:(doE (doE g ⟨2,0,0,[]⟩) ⟨4,0,0,[]⟩).waiting=[]:=h1
 have hu2:(doE (doE g ⟨2,0,0,[]⟩) ⟨4,0,0,[]⟩).up=true:=rfl
 show Idle (doE (doE (doE g ⟨2,0,0,[]⟩) ⟨4,0,0,[]⟩) ⟨1,((7:Nat):Int),0,d⟩)
 generalize doE (doE g ⟨2,0,0,[]⟩) ⟨4,0,0,[]⟩=x at *
 show Idle (aS0 x 7 d)
 have hws:(x.at 7).waits=false:=by
  have:=hw2.iff 7 AO
  rw[h2] at this
  simpa using this
 rw[dU1 hu2 hd]
 cases ht:(x.at 7).txn with
 | none =>
  have e:aH3 x 7 ⟨7,[],[],[],[]⟩=x.say (aE4 7 6):=by simp[aH3,hws,ht]
  rw[e]
  refine⟨hu2,h2,?_⟩
  show x.at 7=_
  generalize x.at 7=y at *
  obtain⟨a,b⟩:=y
  dsimp only at ht hws
  rw[ht,hws]
 | some t =>
  have e:aH3 x 7 ⟨7,[],[],[],[]⟩=(x.txn 7 none).say (aE4 7 0):=by simp[aH3,hws,ht]
  rw[e]
  refine⟨hu2,h2,?_⟩
  show (x.put 7 ⟨none,(x.at 7).waits⟩).at 7=_
  rw[aH6 x 7 7 _ (by rw[hi2.sess];omega),if_pos rfl,hws]
theorem dU2 {g:Eng} {d:List UInt8} (hu:g.up=true) (ht:g.at 7=⟨none,false⟩) (hd:aM2 d=(⟨1,[],[],[],[]⟩,0)):aS0 g 7 d=(g.put 7 ⟨some ⟨g.synced,[],[]⟩,false⟩).say (bC5 7 g.synced):=by
 rw[dU1 hu hd]
 simp[aH3,ht,Eng.txn]
theorem dU3 {n:Nat}:bS0 (n:Int) (n:Int)=true:=by unfold bS0;simp
theorem dU4 {k:List UInt8} (hk:k.length=1):aH (yWr k)=0∧aQ ⟨4,[121],k,[],[]⟩=0:=by
 have hkf:aE k=0:=by unfold aE;rw[if_pos ⟨AO,AO⟩]
 have hnf:aI [121]=0:=by decide
 refine⟨?_,by simp[aQ,aB4,aA9,aG7,aB0,aG3,aV,bO,hasT,hnf,hkf]⟩
 unfold aH
 rw[if_neg (by simp[yWr,aI]),if_neg (by simp[yWr])]
 show aA5 (k,[])=0
 unfold aA5
 simp[hkf]
theorem put_ask {g:Eng} {d k:List UInt8} (hu:g.up=true) (ht:g.at 7=⟨some ⟨g.synced,[],[]⟩,false⟩) (hd:aM2 d=(⟨4,[121],k,[],[]⟩,0)) (hk:k.length=1) (hs:g.synced≤300):aS0 g 7 d=(g.put 7 ⟨some ⟨g.synced,[],[yWr k]⟩,false⟩).say (aE4 7 0):=by
 obtain⟨h1,h2⟩:=dU4 hk
 have ht0:aN ⟨(g.synced:Int),[],[]⟩=0:=aQ4.2 ⟨⟨by simp,by show (g.synced:Int)≤1048576;omega⟩,by simp,by simp,fun i h=>by simp at h,fun i h=>by simp at h⟩
 have hw:aF9 ⟨4,[121],k,[],[]⟩=(yWr k,0):=by
  unfold aF9
  rw[if_neg (by simpa using h2),if_pos (.inl rfl)]
  rfl
 have hwt:aD0 ⟨(g.synced:Int),[],[]⟩ (yWr k)=(⟨(g.synced:Int),[],[yWr k]⟩,0):=by
  unfold aD0
  rw[if_neg (by simpa using ht0),if_neg ZE3]
  rfl
 rw[dU1 hu hd]
 have hkp:bS0 (g.synced:Int) (g.synced:Int)=true:=dU3
 simp[aH3,ht,aG8,cB4,hw,hwt,hkp,Eng.txn]
theorem dU5 {g:Eng} {d k:List UInt8} (hu:g.up=true) (ht:g.at 7=⟨some ⟨g.synced,[],[yWr k]⟩,false⟩) (hd:aM2 d=(⟨6,[],[],[],[]⟩,0)) (hk:k.length=1) (hs:g.synced≤100) (hc:g.commits.length=g.synced)
  (ha:(aC4 (aS g.commits g.commits.length) [yWr k]).2=0) (hh:bK0 g.tape g.commits g.synced) :
  ∃ tp,aS0 g 7 d={ g.put 7 ⟨none,true⟩ with tape:=tp,commits:=g.commits++[(((g.commits.length+1:Nat):Int),[yWr k])],waiting:=g.waiting++[7] }:=by
 obtain⟨h1,h2⟩:=dU4 hk
 have hg:Good aH bE [yWr k]:=fun i hi=>by
  have hi':i<1:=hi
  obtain rfl:i=0:=by omega
  exact⟨h1,fun j hj=>absurd hj AO⟩
 have ht0:aN ⟨(g.synced:Int),[],[yWr k]⟩=0:=aQ4.2 ⟨⟨by simp,by show (g.synced:Int)≤1048576;omega⟩,by simp,by simp,fun i h=>by simp at h,hg⟩
 have hcl:(aZ1 ⟨(g.synced:Int),[],[yWr k]⟩ g.commits).1=false:=by
  unfold aZ1
  rw[if_neg (by simpa using ht0)]
  show g.commits.any _=false
  rw[List.any_eq_false]
  intro c _
  have:∀ x:Wr,hitW [] x=false:=fun x=>rfl
  simp[aZ0,this]
 have hcf:aA2 (((g.commits.length+1:Nat):Int),[yWr k])=0:=by
  unfold aA2
  rw[if_neg (by simp only[Decidable.not_not];omega),if_neg ZH2]
  show aB0 (cwAt [yWr k]) 1 0=0
  have:=cE0 (ws:=[yWr k]) (k:=0) ZH2 AO
  simp only[aB0]
  rw[this]
  simp[h1]
 have hap:(aE1 g.tape (((g.commits.length+1:Nat):Int),[yWr k])).2=0:=by
  have hfl:=frames_len g.commits 1 hh.turns
  have hfc:=(cO0 hcf).2
  have he:(aM5 (((g.commits.length+1:Nat):Int),[yWr k])).2=0:=by unfold aM5;rw[if_neg (by simpa using hcf)]
  unfold aG0 at hfc
  unfold aE1
  rw[if_neg (by rw[hh.may];simp),if_neg (by simpa using he),if_neg (by rw[hh.data];omega)]
 refine⟨(aE1 g.tape (((g.commits.length+1:Nat):Int),[yWr k])).1,?_⟩
 have hkp:bS0 (g.synced:Int) (g.synced:Int)=true:=dU3
 have hr:aH3 g 7 ⟨6,[],[],[],[]⟩=aG2 g 7 ⟨(g.synced:Int),[],[yWr k]⟩:=by simp[aH3,ht,aG8,hkp]
 rw[dU1 hu hd,hr]
 unfold aG2
 rw[if_neg ZH2,if_neg (by rw[hc];omega),if_neg (by rw[hcl];simp),if_neg (by simpa using ha)]
 show (if (aE1 g.tape (((g.commits.length+1:Nat):Int),[yWr k])).2≠0 then _ else _)=_
 rw[if_neg (by simpa using hap)]
 rfl
def askP (d:List UInt8):Ac:=⟨1,((0:Nat):Int),0,d⟩
def dU6 (d:List UInt8):List Ac:=[⟨2,0,0,[]⟩,⟨4,0,0,[]⟩,⟨1,((7:Nat):Int),0,d⟩]
def dU7 (dB dP dC:List UInt8):List Ac:=[⟨1,((7:Nat):Int),0,dB⟩,⟨1,((7:Nat):Int),0,dP⟩,⟨1,((7:Nat):Int),0,dC⟩,⟨2,0,0,[]⟩]
theorem put7 {g:Eng} (hl:g.sess.length=8) (x:Ss) (r:Rp):((g.put 7 x).say r).at 7=x∧((g.put 7 x).say r).sess.length=8 :=
 ⟨(aH6 g 7 7 x AO).trans (if_pos rfl),by show (g.sess.set 7 x).length=8;simpa using hl⟩
theorem y_done {g:Eng} {m n:Nat} (hi:Inv g m) (hn:Nm g n) (h:Idle g) (hm:n≤40) {dB dP dC k:List UInt8} (hB:aM2 dB=(⟨1,[],[],[],[]⟩,0)) (hP:aM2 dP=(⟨4,[121],k,[],[]⟩,0)) (hC:aM2 dC=(⟨6,[],[],[],[]⟩,0)) (hk:k.length=1) {G:Eng} (hG:G=(dU7 dB dP dC).foldl doE g) :
  G.up=true∧G.waiting=[]∧G.synced=g.synced+1∧G.now=(aC4 g.now [yWr k]).1:=by
 have hc:g.commits.length=g.synced:=by have:=hi.wait;rw[h.waiting] at this;simpa using this.symm
 have hs:g.synced≤40:=by have:=hn.few;omega
 obtain⟨g4,h4⟩:∃ x,x=(g.put 7 ⟨some ⟨g.synced,[],[]⟩,false⟩).say (bC5 7 g.synced):=⟨_,rfl⟩
 have e4:=dU2 h.up h.mine hB
 obtain⟨a4,l4⟩:=put7 hi.sess ⟨some ⟨g.synced,[],[]⟩,false⟩ (bC5 7 g.synced)
 have f4:g4.up=true∧g4.synced=g.synced∧g4.commits=g.commits∧g4.waiting=[]∧g4.tape=g.tape:=by rw[h4];exact⟨h.up,rfl,rfl,h.waiting,rfl⟩
 rw[← h4] at e4 a4 l4
 obtain⟨u4,s4,c4,w4,t4⟩:=f4
 rw[← s4] at a4
 obtain⟨g5,h5⟩:∃ x,x=(g4.put 7 ⟨some ⟨g4.synced,[],[yWr k]⟩,false⟩).say (aE4 7 0):=⟨_,rfl⟩
 have e5:=put_ask u4 a4 hP hk AO
 obtain⟨a5,_⟩:=put7 l4 ⟨some ⟨g4.synced,[],[yWr k]⟩,false⟩ (aE4 7 0)
 have f5:g5.up=true∧g5.synced=g.synced∧g5.commits=g.commits∧g5.waiting=[]∧g5.tape=g.tape:=by rw[h5];exact⟨u4,s4,c4,w4,t4⟩
 rw[← h5] at e5 a5
 obtain⟨u5,s5,c5,w5,t5⟩:=f5
 rw[s4,← s5] at a5
 obtain⟨tp,e6⟩:=dU5 u5 a5 hC hk AO (by rw[c5,s5,hc]) (by rw[c5];exact (dU0 (bZ6 _ _) (dT6 hn.com _) hk).1) (by rw[t5,c5,s5];exact hi.holds)
 have hw:g5.waiting++[7]=[7]:=by rw[w5];rfl
 have e7:G=aV2 { g5.put 7 ⟨none,true⟩ with tape:=tp,commits:=g5.commits++[(((g5.commits.length+1:Nat):Int),[yWr k])],waiting:=g5.waiting++[7] }:=by
  rw[hG,← e6,← e5,← e4]
  rfl
 rw[e7]
 unfold aV2
 rw[if_neg (by show ¬ g5.up=false;rw[u5];simp)]
 refine⟨?_,rfl,?_,?_⟩
 ·show (List.foldl aC1 _ (g5.waiting++[7])).up=true
  rw[hw]
  exact u5
 ·show (List.foldl aC1 _ (g5.waiting++[7])).synced=_
  rw[hw]
  show g5.synced+1=_
  rw[s5]
 ·show aS (List.foldl aC1 _ (g5.waiting++[7])).commits (List.foldl aC1 _ (g5.waiting++[7])).synced=_
  rw[hw]
  show aS (g5.commits++[(((g5.commits.length+1:Nat):Int),[yWr k])]) (g5.synced+1)=(aC4 (aS g.commits g.synced) [yWr k]).1
  rw[c5,s5,← hc,bZ5 ZH2,show ∀ c,(g.commits++[c])[g.commits.length]'ZH2=c by simp,show aS (g.commits++[(((g.commits.length+1:Nat):Int),[yWr k])]) g.commits.length=aS g.commits g.commits.length by unfold aS;rw[List.take_append_of_le_length zn]]
structure Tnt (n k:List UInt8) (p q:Rp):Prop where
 ver:∃ gf gv,p.found=gf∧p.value=gv∧q.found=gf∧fvS q.root n k q.outer p.inner=((gf,gv),0)
 len:p.inner.steps.length=q.inner.steps.length
 so:PfS q.outer
 si:PfS p.inner
theorem dU8 {xs:List Ac} (hx:∀ a ∈ xs,aB6 a=0) (hb:∀ a ∈ xs,dR0 a) (hl:xs.length≤30) {dA dB dP dC d n k ky:List UInt8} (hA:aM2 dA=(⟨7,[],[],[],[]⟩,0)) (hB:aM2 dB=(⟨1,[],[],[],[]⟩,0)) (hP:aM2 dP=(⟨4,[121],ky,[],[]⟩,0)) (hC:aM2 dC=(⟨6,[],[],[],[]⟩,0)) (hd:aM2 d=(⟨8,n,k,[],[]⟩,0))
  (fA:aB6 ⟨1,((7:Nat):Int),0,dA⟩=0) (fB:aB6 ⟨1,((7:Nat):Int),0,dB⟩=0) (fP:aB6 ⟨1,((7:Nat):Int),0,dP⟩=0) (fC:aB6 ⟨1,((7:Nat):Int),0,dC⟩=0) (fd:aB6 (askP d)=0) (hky:ky.length=1) (hn:Abc n) (hk:aE k=0) :
  ∃ (ts:Nat) (fo fo':List Tn) (rl rl':List Rp) (p q:Rp),dA3 ((xs++dU6 dA)++[askP d]) ⟨true,ts,0,fo,rl++[p]⟩∧dA3 (((xs++dU6 dA)++dU7 dB dP dC)++[askP d]) ⟨true,((ts+1:Nat):Int),0,fo',rl'++[q]⟩∧Tnt n k p q∧rl.length≤60∧rl'.length≤60∧ts≤100:=by
 have hA3:∀ a ∈ dU6 dA,aB6 a=0:=fun a ha=>by
  simp only[dU6,List.mem_cons,List.not_mem_nil,or_false] at ha
  rcases ha with rfl|rfl|rfl
  ·exact sync_fine
  ·exact start_fine
  ·exact fA
 have hA4:∀ a ∈ dU7 dB dP dC,aB6 a=0:=fun a ha=>by
  simp only[dU7,List.mem_cons,List.not_mem_nil,or_false] at ha
  rcases ha with rfl|rfl|rfl|rfl
  ·exact fB
  ·exact fP
  ·exact fC
  ·exact sync_fine
 have hAb:∀ a ∈ dU6 dA,dR0 a:=fun a ha=>by
  simp only[dU6,List.mem_cons,List.not_mem_nil,or_false] at ha
  rcases ha with rfl|rfl|rfl
  ·intro h;exact absurd h ZD9
  ·intro h;exact absurd h ZD9
  ·intro _ _ h
   have h':(aM2 dA).1.kind=4∨(aM2 dA).1.kind=5:=h
   rw[hA] at h'
   exact absurd h' ZD9
 have hxs:∀ a ∈ xs++dU6 dA,aB6 a=0:=fun a ha=>(List.mem_append.1 ha).elim (hx a) (hA3 a)
 have hxt:∀ a ∈ (xs++dU6 dA)++dU7 dB dP dC,aB6 a=0:=fun a ha=>(List.mem_append.1 ha).elim (hxs a) (hA4 a)
 have hl1:(xs++dU6 dA).length≤33:=by rw[List.length_append];show _+3≤_;omega
 have hl2:((xs++dU6 dA)++dU7 dB dP dC).length≤37:=by rw[List.length_append];show _+4≤_;omega
 have hfd:∀ (l:List Ac),(∀ a ∈ l,aB6 a=0)→∀ a ∈ l++[askP d],aB6 a=0:=fun l hl a ha=>by
  rcases List.mem_append.1 ha with h|h
  ·exact hl a h
  ·rw[List.mem_singleton] at h;rw[h];exact fd
 have hnm:Nm (bM (xs++dU6 dA)) (xs++dU6 dA).length:=by
  have:=nm_acts (xs++dU6 dA) eng0 0 0 nm_zero inv_zero fun a ha=>⟨hxs a ha,(List.mem_append.1 ha).elim (hb a) (hAb a)⟩
  rwa [Nat.zero_add] at this
 have hnx:Nm (bM xs) xs.length:=by
  have:=nm_acts xs eng0 0 0 nm_zero inv_zero fun a ha=>⟨hx a ha,hb a ha⟩
  rwa [Nat.zero_add] at this
 have hid:Idle (bM (xs++dU6 dA)):=by
  rw[ran_app]
  exact idle_of (cZ1 hx) hnx (ran_wt hx) hA
 have hinv:=cZ1 hxs
 have e2:bM ((xs++dU6 dA)++dU7 dB dP dC)=(dU7 dB dP dC).foldl doE (bM (xs++dU6 dA)):=ran_app _ _
 have hy:=y_done hinv hnm hid AO hB hP hC hky e2
 have hinv2:=cZ1 hxt
 have t1:=hinv.told
 have t2:=hinv2.told
 have hfs:aN0 (bM (xs++dU6 dA)).now:=bZ6 _ _
 have hap:=dU0 hfs (dT6 hnm.com _) hky
 have hpo:=hap.2 n hn
 have hi2:(bM (xs++dU6 dA)).synced≤100:=by
  have:=hinv.wait
  have:=hnm.few
  omega
 have r1:(bM ((xs++dU6 dA)++[askP d])).out=⟨true,(bM (xs++dU6 dA)).synced,0,(bM (xs++dU6 dA)).now,(bM (xs++dU6 dA)).replies++[bS1 (bM (xs++dU6 dA)) 0 ⟨8,n,k,[],[]⟩]⟩:=by
  rw[cZ2]
  show (aS0 (bM (xs++dU6 dA)) 0 d).out=_
  rw[dJ1 hd rfl,if_neg (by rw[hid.up];simp)]
  have hw:=hid.waiting
  have hu:=hid.up
  generalize bM (xs++dU6 dA)=g at *
  show (⟨g.up,_,(g.waiting.length:Int),_,_⟩:Oc)=_
  rw[hw,hu]
  rfl
 have r2:(bM (((xs++dU6 dA)++dU7 dB dP dC)++[askP d])).out=⟨true,(((bM (xs++dU6 dA)).synced+1:Nat):Int),0,(bM ((xs++dU6 dA)++dU7 dB dP dC)).now,(bM ((xs++dU6 dA)++dU7 dB dP dC)).replies++[bS1 (bM ((xs++dU6 dA)++dU7 dB dP dC)) 0 ⟨8,n,k,[],[]⟩]⟩:=by
  rw[cZ2]
  show (aS0 (bM ((xs++dU6 dA)++dU7 dB dP dC)) 0 d).out=_
  obtain⟨hu,hw,hsy,_⟩:=hy
  rw[dJ1 hd rfl,if_neg (by rw[hu];simp)]
  rw[← hsy]
  generalize bM ((xs++dU6 dA)++dU7 dB dP dC)=g at *
  show (⟨g.up,_,(g.waiting.length:Int),_,_⟩:Oc)=_
  rw[hw,hu]
  rfl
 refine⟨(bM (xs++dU6 dA)).synced,_,_,(bM (xs++dU6 dA)).replies,(bM ((xs++dU6 dA)++dU7 dB dP dC)).replies,_,_,dA4 (hfd _ hxs) (by rw[List.length_append];show _+1≤_;omega) r1,dA4 (hfd _ hxt) (by rw[List.length_append];show _+1≤_;omega) r2,?_,AO,by omega,hi2⟩
 obtain⟨_,_,_,hnow⟩:=hy
 have hnf:aI n=0:=by rcases hn with rfl|rfl|rfl <;> decide
 have hfq:aN0 (bM ((xs++dU6 dA)++dU7 dB dP dC)).now:=bZ6 _ _
 have hpairs:aJ (bM ((xs++dU6 dA)++dU7 dB dP dC)).now n=aJ (bM (xs++dU6 dA)).now n:=by rw[hnow];exact hpo
 show Tnt n k (bS1 (bM (xs++dU6 dA)) 0 ⟨8,n,k,[],[]⟩) (bS1 (bM ((xs++dU6 dA)++dU7 dB dP dC)) 0 ⟨8,n,k,[],[]⟩)
 have hfp:∀ l,aN0 l→fpS l n k=(((aH2 (l.map aH9) n).1,(aH2 (aJ l n) k).1),0):=fun l hl=>by
  unfold fpS
  rw[if_neg (by unfold aD4;rw[show aL l=0 from hl,if_neg ZH2];simpa using hnf),if_neg (by simpa using hk)]
 have hfg:∀ l,aN0 l→aA7 l n k=aX7 (aJ l n) k:=fun l hl=>by
  unfold aA7
  rw[if_neg (by unfold aD4;rw[show aL l=0 from hl,if_neg ZH2];simpa using hnf)]
 have hin:(fpS (bM (xs++dU6 dA)).now n k).1.2=(fpS (bM ((xs++dU6 dA)++dU7 dB dP dC)).now n k).1.2:=by
  rw[hfp _ hfs,hfp _ hfq,hpairs]
 have hge:aA7 (bM (xs++dU6 dA)).now n k=aA7 (bM ((xs++dU6 dA)++dU7 dB dP dC)).now n k:=by
  rw[hfg _ hfs,hfg _ hfq,hpairs]
 have hv:=dO6 hfq hnf hk
 generalize (bM ((xs++dU6 dA)++dU7 dB dP dC))=G2 at *
 generalize (bM (xs++dU6 dA))=G1 at *
 refine⟨⟨(aA7 G2.now n k).1.1,(aA7 G2.now n k).1.2,?_,?_,rfl,?_⟩,?_,(dO4 _ _ _).1,(dO4 _ _ _).2⟩
 ·show (aA7 G1.now n k).1.1=_
  rw[hge]
 ·show (aA7 G1.now n k).1.2=_
  rw[hge]
 ·show fvS (aJ6 G2.now).1 n k (fpS G2.now n k).1.1 (fpS G1.now n k).1.2=_
  rw[hin,show (aJ6 G2.now).1=bK (G2.now.map aH9) by unfold aJ6;rw[if_pos (show aL G2.now=0 from hfq)]]
  exact hv
 ·show (fpS G1.now n k).1.2.steps.length=(fpS G2.now n k).1.2.steps.length
  rw[hin]
abbrev nilV:Value:=.slice none 0 0
def ActV (n:Nat) (d:List UInt8) (v:Value) (w:World):Prop:=∃ A c,v=.agg #[.int .i64 1,.int .i64 7,.int .i64 0,.slice A d.length c]∧d.length≤c∧Bs (aB n) w A d
def dU9 (n:Nat) (x:Value) (v:Value) (w:World):Prop:=∃ g,v=.slice (some ⟨g,0,none⟩) 1 1∧n≤g∧w.heap[g]?=some (.cells #[x] 5 (0,0))
def dV0 (n gb:Nat) (gv pv:Int) (kv V4:Value) (dB dP dC:List UInt8) (i:Nat) (v:Value) (w:World):Prop :=
 match i with
 | 0=>v=V4
 | 1=>v=.agg #[.int .i64 1,nilV,nilV,nilV,nilV]
 | 2=>ActV n dB v w
 | 3=>dU9 n (.int .u8 121) v w
 | 4=>v=.pointer (some ⟨gb,4,none⟩)
 | 5=>v=.int .i64 gv
 | 6=>v=.int .i64 pv
 | 7=>v=kv
 | 8=>dU9 n kv v w
 | 9=>∃ v1 v2,v=.agg #[.int .i64 4,v1,v2,nilV,nilV]∧dU9 n (.int .u8 121) v1 w∧dU9 n kv v2 w
 | 10=>ActV n dP v w
 | 11=>v=.agg #[.int .i64 6,nilV,nilV,nilV,nilV]
 | 12=>ActV n dC v w
 | 13=>v=.agg #[.int .i64 2,.int .i64 0,.int .i64 0,nilV]
 | 14=>∃ g,v=.slice (some ⟨g,0,none⟩) 4 4∧n≤g∧SL 4 AcR (aB n) w (some ⟨g,0,none⟩) (dU7 dB dP dC)
 | _=>True
section
variable {n gb : Nat} {gv pv : Int} {kv V4 : Value} {dB dP dC : List UInt8} {i : Nat} {v : Value} {w w' : World}
theorem ActV.same {d:List UInt8} (h:ActV n d v w) (hb:aC (aB n) w w'):ActV n d v w':=let ⟨A,c,h1,h2,h3⟩:=h;⟨A,c,h1,h2,h3.bsame hb⟩
theorem dU9.same {x:Value} (h:dU9 n x v w) (hb:aC (aB n) w w'):dU9 n x v w':=let ⟨g,h1,h2,h3⟩:=h;⟨g,h1,h2,(hb.block g h2 (Array.getElem?_eq_some_iff.1 h3).1).trans h3⟩
theorem dV0.same (h:dV0 n gb gv pv kv V4 dB dP dC i v w) (hb:aC (aB n) w w'):dV0 n gb gv pv kv V4 dB dP dC i v w':=by
 match i,h with
 | 0,h=>exact h
 | 1,h=>exact h
 | 2,h=>exact ActV.same h hb
 | 3,h=>exact dU9.same h hb
 | 4,h=>exact h
 | 5,h=>exact h
 | 6,h=>exact h
 | 7,h=>exact h
 | 8,h=>exact dU9.same h hb
 | 9,⟨v1,v2,h1,h2,h3⟩=>exact⟨v1,v2,h1,h2.same hb,h3.same hb⟩
 | 10,h=>exact ActV.same h hb
 | 11,h=>exact h
 | 12,h=>exact ActV.same h hb
 | 13,h=>exact h
 | 14,⟨g,h1,h2,h3⟩=>exact⟨g,h1,h2,h3.same acR_stays hb⟩
 | k+15,_=>trivial
end
structure J4 (S:Nat→Prop) (n3:Nat) (Y4:World) (gb:Nat) (gv pv:Int) (kv V4:Value) (ys:List Ac) (dB dP dC:List UInt8) (b:Nat→Bool) (f:Nat→Value) (w:World):Prop where
 bel:Below n3 Y4 w
 f7:b 16=false→f 7=V4
 low:∀ i,i<15→b i=true→dV0 Y4.heap.size gb gv pv kv V4 dB dP dC i (f (30+i)) w
 row:b 15=false→Own 4 AcR S w n3 38 V4 ys∧dS3 w V4
 app:b 15=true→Own 4 AcR S w n3 38 (f 45) (ys++dU7 dB dP dC)∧dS3 w (f 45)
 fin:b 16=true→f 7=f 45
 o15:b 15=true→b 0=true
 o16:b 16=true→b 15=true
section
variable {S : Nat → Prop} {n3 : Nat} {Y4 : World} {gb : Nat} {gv pv : Int} {kv V4 : Value} {ys : List Ac} {dB dP dC : List UInt8} {b : Nat → Bool} {f : Nat → Value} {w w' : World}
theorem dS3.own {base:Nat} {e:TypeId} {v:Value} {l:List Ac} (h:dS3 w v) (ho:Own 4 AcR S w base e v l) (hb:Below w.heap.size w w'):dS3 w' v:=h.same fun g hg=>hb.block g (dT0 ho hg).2
theorem J4.next (h:J4 S n3 Y4 gb gv pv kv V4 ys dB dP dC b f w) (hn:n3≤Y4.heap.size) {i d:Nat} (hi:i<15) (hd:d=30+i) {v:Value} (hb:Below w.heap.size w w') (hf:dV0 Y4.heap.size gb gv pv kv V4 dB dP dC i v w'):J4 S n3 Y4 gb gv pv kv V4 ys dB dP dC (upd b i true) (upd f d v) w':=by
 subst hd
 have e15:upd b i true 15=b 15:=dR8 AO
 have e16:upd b i true 16=b 16:=dR8 AO
 have e0:b 0=true→upd b i true 0=true:=fun h0=>by
  unfold upd;split
  ·rfl
  ·exact h0
 have g45:upd f (30+i) v 45=f 45:=dR8 AO
 have g7:upd f (30+i) v 7=f 7:=dR8 AO
 exact
  {bel:=h.bel.trans (hb.mono (Nat.le_trans hn h.bel.size))
   f7:=fun q=>by rw[g7];exact h.f7 (e16 ▸ q)
   low:=fun j hj hbj=>by
    by_cases e:j=i
    ·subst e;rw[dR7];exact hf
    ·rw[dR8 AO]
     rw[dR8 e] at hbj
     exact (h.low j hj hbj).same (aC.of_below hb)
   row:=fun q=>by
    obtain⟨r1,r2⟩:=h.row (e15 ▸ q)
    exact⟨r1.below acR_stays hb,r2.own r1 hb⟩
   app:=fun q=>by
    obtain⟨r1,r2⟩:=h.app (e15 ▸ q)
    rw[g45]
    exact⟨r1.below acR_stays hb,r2.own r1 hb⟩
   fin:=fun q=>by rw[g45,g7];exact h.fin (e16 ▸ q)
   o15:=fun q=>e0 (h.o15 (e15 ▸ q))
   o16:=fun q=>by rw[e15];exact h.o16 (e16 ▸ q) }
theorem J4.next15 (h:J4 S n3 Y4 gb gv pv kv V4 ys dB dP dC b f w) (hn:n3≤Y4.heap.size) (h0:b 0=true) (h15:b 15=false) {v:Value} (hb:Below n3 w w') (hg:w.grownBy w' V4.ownBlock) (hV:∀ g,V4.ownBlock=some g→g<Y4.heap.size) (hown:Own 4 AcR S w' n3 38 v (ys++dU7 dB dP dC)) (hN:dS3 w' v):J4 S n3 Y4 gb gv pv kv V4 ys dB dP dC (upd b 15 true) (upd f 45 v) w':=by
 have g7:upd f 45 v 7=f 7:=dR8 AO
 have e16:upd b 15 true 16=b 16:=dR8 AO
 have h16:b 16=false:=by
  cases e:b 16 with
  | false=>rfl
  | true=>rw[h.o16 e] at h15;cases h15
 exact
  {bel:=h.bel.trans hb
   f7:=fun _=>by rw[g7];exact h.f7 h16
   low:=fun j hj hbj=>by
    rw[dR8 AO] at hbj ⊢
    exact (h.low j hj hbj).same (aC.grown (aC.refl _ _) hg fun k hk hs=>by have:=hV k hk;simp only[aB] at hs;omega)
   row:=fun q=>by rw[dR7] at q;cases q
   app:=fun _=>by rw[dR7];exact⟨hown,hN⟩
   fin:=fun q=>by rw[e16,h16] at q;cases q
   o15:=fun _=>by rw[dR8 AO];exact h0
   o16:=fun _=>dR7 _ _ _ }
theorem J4.next16 (h:J4 S n3 Y4 gb gv pv kv V4 ys dB dP dC b f w) (h15:b 15=true):J4 S n3 Y4 gb gv pv kv V4 ys dB dP dC (upd b 16 true) (upd f 7 (f 45)) w:=by
 have e15:upd b 16 true 15=b 15:=dR8 AO
 have g45:upd f 7 (f 45) 45=f 45:=dR8 AO
 exact
  {bel:=h.bel
   f7:=fun q=>by rw[dR7] at q;cases q
   low:=fun j hj hbj=>by
    rw[dR8 AO] at hbj ⊢
    exact h.low j hj hbj
   row:=fun q=>by rw[e15,h15] at q;cases q
   app:=fun _=>by rw[g45];exact h.app h15
   fin:=fun _=>by rw[dR7,g45]
   o15:=fun _=>by rw[dR8 AO];exact h.o15 h15
   o16:=fun _=>by rw[e15];exact h15 }
end
theorem dV1 (s:Nat) (sI:Int) (hsI:sI=s) (hs:s<8) (r:Rq) (hf:aQ r=0):∃ d:List UInt8,Hid (∀ (w:World) (A B C D:Option Addr) (a b c d':Nat),bL w→Bs All w A r.name→Bs All w B r.key→Bs All w C r.last→Bs All w D r.value→Calls Tryz.prog 13 #[.int .i64 sI,.agg #[.int .i64 r.kind,.slice A r.name.length a,.slice B r.key.length b,.slice C r.last.length c,.slice D r.value.length d']] w (RetAsk w sI d))∧aB6 ⟨1,(s:Int),0,d⟩=0∧aM2 d=(r,0)∧d.length≤4000:=by
 subst hsI
 exact⟨(bK9 r).1,zh fun w A B C D a b c d' hH hA hB hC hD=>dE2 w hH s AO A B C D r a b c d' hA hB hC hD,cY8 hs (cY0 hf).2,(cY0 hf).1,(cY0 hf).2⟩
theorem dV6 {y W:World} {b:Nat} {cs:Array Value} {t:TypeId} (hW:W=y.alloc (.cells cs t)) (hb:b=y.heap.size):W.heap[b]?=some (.cells cs t (0,0))∧Below y.heap.size y W:=by
 subst hW hb
 exact⟨aK _ _ _,(Below.refl _ _).alloc zn _⟩
theorem dV2 (w:World) (hT:bD w) (hH:bL w) (A:Option Addr) (l:List Gr) (c:Nat) (ha:Grs All w A l) (hl:l.length≤big) (g:Gr) (h4:aS3 g.key) (h5:aS3 g.value) :
  Calls Tryz.prog 4 #[.slice A l.length c,.agg #[.int .i64 g.kind,.int .i64 g.session,.int .i64 g.name,.int .i64 g.key,.int .i64 g.value]] w (bQ w (.bool true)):=by
 have hwg:=(Below.refl w.heap.size w).alloc zn (.cells #[.int .i64 g.kind,.int .i64 g.session,.int .i64 g.name,.int .i64 g.key,.int .i64 g.value] 24)
 have hbg:=aK w #[.int .i64 g.kind,.int .i64 g.session,.int .i64 g.name,.int .i64 g.key,.int .i64 g.value] 24
 have HReq:=zh (show ∀ W:World,Calls Tryz.prog 11 #[.agg #[.int .i64 19,.int .i64 0,.int .i64 0,.int .i64 g.key,.int .i64 0]] W (RetRq1 ⟨19,0,0,g.key,0⟩ W) from fun W=>cP6 W ⟨19,0,0,g.key,0⟩ (show aS3 (19:Int) by unfold aS3;omega) (show aS3 (0:Int) by unfold aS3;omega) h4 (show aS3 (0:Int) by unfold aS3;omega))
 have HbR:=zh hwg
 have HT:=zh hT
 have HH:=zh hH
 have Ha:=zh (ha.below grR_stays hwg)
 obtain⟨i0,z0,hi0,hz0,hz1,hz2,hz3⟩:=ac_parts
 obtain⟨pv,_,HPk⟩:=aJ7 g.value 200 200 rfl AO AO h5
 obtain⟨kb,hkb⟩:=aI8 pv
 obtain⟨dA,HA,fA,eA,_⟩:=dE3 7 7 rfl AO 7 (.inr (.inr rfl))
 obtain⟨dB,HB,fB,eB,_⟩:=dE3 7 7 rfl AO 1 (.inl rfl)
 obtain⟨dC,HC,fC,eC,_⟩:=dE3 7 7 rfl AO 6 (.inr (.inl rfl))
 obtain⟨dP,HP,fP,eP,_⟩:=dV1 7 7 rfl AO ⟨4,[121],[kb],[],[]⟩ (dU4 (k:=[kb]) rfl).2
 have Hkb:=zh hkb
 have HfA:=zh (And.intro fA eA)
 have HfB:=zh (And.intro fB eB)
 have HfC:=zh (And.intro fC eC)
 have HfP:=zh (And.intro fP eP)
 have g3:=aA (cs:=[.int .i64 g.kind,.int .i64 g.session,.int .i64 g.name,.int .i64 g.key,.int .i64 g.value]) hbg 3
 have g4:=aA (cs:=[.int .i64 g.kind,.int .i64 g.session,.int .i64 g.name,.int .i64 g.key,.int .i64 g.value]) hbg 4
 simp only[List.getElem?_cons_zero,List.getElem?_cons_succ] at g3 g4
 have lgb:=(Array.getElem?_eq_some_iff.1 hbg).1
 clear hkb fA eA fB eB fC eC fP eP
 go_enter Tryz.func4,Tryz.ntmps4
 go_upto_region 1 with fail
 obtain⟨wg,hwge⟩:∃ wg,wg=w.alloc (.cells #[.int .i64 g.kind,.int .i64 g.session,.int .i64 g.name,.int .i64 g.key,.int .i64 g.value] 24):=⟨_,rfl⟩
 rw[← hwge] at g3 g4 HbR Ha lgb ⊢
 obtain⟨gb,hgbe⟩:∃ gb,gb=w.heap.size:=⟨_,rfl⟩
 rw[← hgbe] at g3 g4 lgb ⊢
 clear hwge hgbe hwg hbg hT hH ha h4 h5
 go_upto_region 2 with (go_at_call 11;(with_reducible refine (HReq.out _).mono ?_);rintro e5 u5 ⟨r,A5,a5,B5,b5,C5,c5,D5,d5,rfl,hfine,s1,s2,s3,s4,hb5⟩;have S1:=zh s1;have S2:=zh s2;have S3:=zh s3;have S4:=zh s4;have Hfine:=zh hfine;have Hb5:=zh hb5;clear s1 s2 s3 s4 hb5 hfine)
 have hb5:=Hb5.out
 clear g3
 obtain⟨WX,hWWX⟩:∃ WX,WX=u5.alloc (.cells #[.int .i64 r.kind,.slice A5 r.name.length a5,.slice B5 r.key.length b5,.slice C5 r.last.length c5,.slice D5 r.value.length d5] 29):=⟨_,rfl⟩
 obtain⟨bx,hbx⟩:∃ bx,bx=u5.heap.size:=⟨_,rfl⟩
 obtain⟨hq,hyW⟩:=dV6 hWWX hbx
 have hbq:=hb5.next hyW hb5.size
 replace g4:=(hbq.cell (p:=⟨gb,4,none⟩) lgb).trans g4
 replace lgb:=Nat.lt_of_lt_of_le lgb hbq.size
 replace Ha:=zh (Ha.out.below grR_stays hbq)
 have lX:=(Array.getElem?_eq_some_iff.1 hq).1
 have x0:=aA hq 0
 have x1:=aA hq 1
 have x2:=aA hq 2
 have x3:=aA hq 3
 have x4:=aA hq 4
 simp only[List.getElem?_cons_zero,List.getElem?_cons_succ] at x0 x1 x2 x3 x4
 replace HbR:=zh (HbR.out.next hbq HbR.out.size)
 rw[← hWWX,← hbx]
 have T1:=zh (S1.out.bz.bbelow hyW)
 have T2:=zh (S2.out.bz.bbelow hyW)
 have T3:=zh (S3.out.bz.bbelow hyW)
 have T4:=zh (S4.out.bz.bbelow hyW)
 clear hWWX hbx hbq hq hyW hb5 Hb5 HReq
 clear S1 S2 S3 S4
 obtain⟨hf0,hf1,hfa,hf3⟩:=Hfine.out
 obtain⟨hk8,hla,hva,hnl⟩:=hf1 rfl
 have hr:r=⟨8,r.name,r.key,[],[]⟩:=by cases r;simp at hk8 hla hva;simp[hk8,hla,hva]
 obtain⟨d,HD,hdf,hdd,_⟩:=dV1 0 0 rfl AO r hf0
 obtain⟨_,hkf⟩:=rq_eight hf0 hk8
 have Habc:=zh (hfa.resolve_left fun e=>by rw[e] at hnl;cases hnl)
 have Hdd:=zh (hr ▸ hdd)
 have Hdf:=zh hdf
 have Hkf:=zh hkf
 have hnl':r.name.length≤big:=by unfold big;omega
 clear hf0 hf1 hfa hf3 hk8 hla hva hnl hr hdd hdf hkf Hfine
 go_upto_region 3 with (first|(go_at_call 10;(with_reducible refine (dR5 _ ?hT A l c 30 30 rfl AO ?ha hl).mono ?_);(case hT=>exact HH.out.below HbR.out);(case ha=>exact Ha.out);rintro e1 w1 ⟨xs,v,rfl,hxl,hxs,hown,hb1⟩;obtain⟨VA,vc,rfl⟩:=aP6 hown;have Hxs:=zh hxs;have Hown1:=zh hown;have Hb1:=zh hb1;clear hxs hown hb1)|(go_at_call 13;(with_reducible refine (HA.out _ ?hT).mono ?_);(case hT=>exact HH.out.below (HbR.out.next Hb1.out HbR.out.size));rintro e2 y2 ⟨A2,c2,rfl,hc2,hs2,hb2⟩;have S2:=zh hs2;have Hb2:=zh hb2;clear hs2 hb2)|(at_builtin;refine wpl_cat acR_stays acR_one (S:=aB WX.heap.size) _ rfl _ _ _ rfl WX.heap.size 38 i0 _ 4 48 Tryz.underlying25 hi0 hz0 hz1 hz2 hz3 ZD9 (.slice VA xs.length vc) xs rfl ?hown _ 3 _ [(⟨2,0,0,[]⟩:Ac),⟨4,0,0,[]⟩,⟨1,((7:Nat):Int),0,dA⟩] rfl rfl ?hsrc ?h63 ?hby ?hba ?_;(case hown=>exact (Hown1.out.below acR_stays Hb2.out).below acR_stays ((Below.refl _ _).alloc zn _));(case hsrc=>exact sl_three _ _ [.int .i64 2,.int .i64 0,.int .i64 0,.slice none 0 0] [.int .i64 4,.int .i64 0,.int .i64 0,.slice none 0 0] [.int .i64 1,.int .i64 7,.int .i64 0,.slice A2 dA.length c2] _ (aK _ _ _) rfl rfl rfl _ _ _ ⟨none,0,rfl,zn,SL.nil⟩ ⟨none,0,rfl,zn,SL.nil⟩ ⟨A2,c2,rfl,hc2,(S2.out.bbelow ((Below.refl _ _).alloc zn _)).bless fun b _ h=>⟨Nat.le_trans Hb1.out.size h,Hown1.out.apart _ zn b h⟩⟩ ⟨Nat.le_trans Hb1.out.size Hb2.out.size,Hown1.out.apart _ zn _ Hb2.out.size⟩);(case h63=>(simp only[maxLen,List.length_cons,List.length_nil];omega));(case hby=>(simp only[List.length_cons,List.length_nil];omega));(case hba=>exact ((Hb1.out.next Hb2.out Hb1.out.size).alloc (Hb1.out.next Hb2.out Hb1.out.size).size _).size);intro v3 y3 hown3 hb3 hg3 hat3;obtain⟨ys,hys⟩:∃ ys,ys=xs++[(⟨2,0,0,[]⟩:Ac),⟨4,0,0,[]⟩,⟨1,((7:Nat):Int),0,dA⟩]:=⟨_,rfl⟩;rw[← hys] at hown3;obtain⟨V3,c3,hve3,hvc3,hsl3⟩:=hown3.slices acR_stays;subst hve3;have Hown3:=zh hown3;have HX3:=zh (hsl3.z acR_stays);have HbY3:=zh (((Hb1.out.next Hb2.out Hb1.out.size).alloc (Hb1.out.next Hb2.out Hb1.out.size).size _).trans hb3);have Hys:=zh hys;clear hown3 hsl3 hvc3 hb3 hg3 hat3 hys))
 have hyl:ys.length≤33:=by rw[Hys.out,List.length_append];show _+3≤_;omega
 have hyp:0<ys.length:=by rw[Hys.out,List.length_append];show 0<_+3;omega
 obtain⟨b3,hV3,nw3,nw1,nw2,nw4,nw5⟩:=own_news acR_stays acR_one AO Hown3.out hyp
 subst hV3
 have hS3:∀ b,y3.heap.size≤b→NV (.slice (some ⟨b3,0,none⟩) ys.length c3) b:=Hown3.out.apart _ zn
 have hX3:WX.heap.size≤y3.heap.size:=HbY3.out.size
 clear Hb1 Hb2 S2 Hown1 hc2 HX3
 go_upto_region 4 with (at_builtin;refine wpl_catN acR_noB acR_stays (S:=NV (.slice (some ⟨b3,0,none⟩) ys.length c3)) _ rfl _ _ _ rfl y3.heap.size 38 i0 _ 48 Tryz.underlying25 hi0 hz0 hz1 hz2 hz3 ZD9 (act_z hi0 hz0) (.slice none 0 0) [] rfl (Own.nil _ _ _) (fun _ h=>by cases h) ⟨b3,0,none⟩ ys.length c3 ys rfl hyp rfl nw3 nw1 (fun i h=>acR_stays.less _ _ _ _ _ (fun b _ h=>⟨h,nofun⟩) (nw2 i h)) nw4 nw5 ?h63 ?hby zn ?_;(case h63=>(simp only[maxLen,List.length_nil];omega));(case hby=>(simp only[List.length_nil];omega));intro v4 y4 hown4 hb4 hg4 hn4;rw[List.nil_append] at hown4;obtain⟨V4,c4,rfl⟩:=aP6 hown4;have Hown4:=zh hown4;have Hb4:=zh hb4;have HN4:=zh hn4;clear hown4 hb4 hg4 hn4)
 clear nw3 nw1 nw2 nw4 nw5
 have HPy:=zh (show ∀ (w:World) (A B:Option Addr),bL w→Bs All w A [121]→Bs All w B [kb]→Calls Tryz.prog 13 #[.int .i64 7,.agg #[.int .i64 4,.slice A 1 1,.slice B 1 1,.slice none 0 0,.slice none 0 0]] w (RetAsk w 7 dP) from fun w A B h1 h2 h3=>HP.out w A B none none 1 1 0 0 h1 h2 h3 SL.nil SL.nil)
 clear HP
 obtain⟨ts,hts⟩:∃ ts,ts=ys++dU7 dB dP dC:=⟨_,rfl⟩
 have htl:ts.length≤37:=by rw[hts,List.length_append];show _+4≤_;omega
 have hn3:y3.heap.size≤y4.heap.size:=Hb4.out.size
 have g4':=((Hb4.out.cell (p:=⟨gb,4,none⟩) (Nat.lt_of_lt_of_le lgb hX3)).trans ((HbY3.out.cell (p:=⟨gb,4,none⟩) lgb).trans g4))
 have Hts:=zh hts
 have Hg4:=zh g4'
 have Hg4':=zh g4
 clear hts g4' g4
 go_cut [7] from 30 to 45 (fun s7 wx=>∃ V c',s7=.slice V ts.length c'∧Own 4 AcR (NV (.slice (some ⟨b3,0,none⟩) ys.length c3)) wx y3.heap.size 38 s7 ts∧dS3 wx s7∧Below y3.heap.size y4 wx)
 case first =>
  refine dS2 ZG0 [7,30,31,32,33,34,35,36,37,38,39,40,41,42,43,44,45] ZD9 ZG0 (fun d hd=>(show ∀ x ∈ [7,30,31,32,33,34,35,36,37,38,39,40,41,42,43,44,45],x<156 from by decide) d hd) (J4 (NV (.slice (some ⟨b3,0,none⟩) ys.length c3)) y3.heap.size y4 gb g.value pv (.int .u8 (IntKind.u8.wrap pv)) (.slice V4 ys.length c4) ys dB dP dC) ?z0 ?zs ?ze
  case z0 =>
   exact { bel:=(Below.refl _ _).drew,f7:=fun _=>rfl,low:=fun _ _ h=>(by cases h),row:=fun _=>⟨Hown4.out.below acR_stays (Below.refl _ _).drew,HN4.out.same fun _ _=>rfl⟩,app:=fun h=>(by cases h),fin:=fun h=>(by cases h),o15:=fun h=>(by cases h),o16:=fun h=>(by cases h) }
  case ze =>
   intro b f wj hall hJ
   obtain⟨r1,r2⟩:=hJ.app (hall 15 ZD9)
   have r3:=hJ.fin (hall 16 ZD9)
   have r4:=hJ.bel
   simp only[dR6,List.foldl_cons,List.foldl_nil,Act.put,List.setIfInBounds_toArray,List.set_cons_zero,List.set_cons_succ]
   rw[← Hts.out,← r3] at r1
   rw[← r3] at r2
   obtain⟨V5,c5,hv5⟩:=aP6 r1
   go_wp2_with fail
   go_meet
   exact⟨V5,c5,hv5,r1,r2,r4⟩
  case zs =>
   intro b f wj hJ i o ho hbi haf a hev hof K hK
   have hi:i<17:=(Array.getElem?_eq_some_iff.1 ho).1
   have e3:a.tmps.getD 3 undef=.pointer (some ⟨gb,0,none⟩):=hof 3 ZD9
   have e3':a.tmps[3]?.getD undef=.pointer (some ⟨gb,0,none⟩):=by rw[← Array.getD_eq_getD_getElem?];exact e3
   have HHj:=zh (HH.out.below (HbR.out.trans ((HbY3.out.mono HbR.out.size).trans ((Hb4.out.mono (Nat.le_trans HbR.out.size hX3)).trans (hJ.bel.mono (Nat.le_trans HbR.out.size hX3))))))
   clear hof
   rcases (by omega:i=0∨i=1∨i=2∨i=3∨i=4∨i=5∨i=6∨i=7∨i=8∨i=9∨i=10∨i=11∨i=12∨i=13∨i=14∨i=15∨i=16) with rfl|rfl|rfl|rfl|rfl|rfl|rfl|rfl|rfl|rfl|rfl|rfl|rfl|rfl|rfl|rfl|rfl
   ·simp only[List.getElem?_toArray,List.getElem?_cons_zero,List.getElem?_cons_succ,Option.some.injEq] at ho;subst ho
    have h7:=hJ.f7 (by cases q:b 16 with|false=>rfl|true=>(have:=hJ.o15 (hJ.o16 q);rw[this] at hbi;cases hbi))
    go_simp
    exact hK 30 _ _ rfl (hJ.next hn3 AO rfl (Below.refl _ _) rfl)
   ·simp only[List.getElem?_toArray,List.getElem?_cons_zero,List.getElem?_cons_succ,Option.some.injEq] at ho;subst ho
    go_simp
    exact hK 31 _ _ rfl (hJ.next hn3 AO rfl (Below.refl _ _) rfl)
   ·simp only[List.getElem?_toArray,List.getElem?_cons_zero,List.getElem?_cons_succ,Option.some.injEq] at ho;subst ho
    have h31:f 31=.agg #[.int .i64 1,nilV,nilV,nilV,nilV]:=(hJ.low 1 AO (haf ⟨1,.data⟩ ZH2 rfl))
    have e31:a.tmps.getD 31 undef=.agg #[.int .i64 1,nilV,nilV,nilV,nilV]:=(hev 31 ZD9).trans (show f 31=.agg #[.int .i64 1,nilV,nilV,nilV,nilV] from (hJ.low 1 AO (haf ⟨1,.data⟩ ZH2 rfl)))
    have e31':a.tmps[31]?.getD undef=.agg #[.int .i64 1,nilV,nilV,nilV,nilV]:=by rw[← Array.getD_eq_getD_getElem?];exact e31
    go_simp
    (with_reducible refine (HB.out _ HHj.out).mono ?_)
    rintro e w1 ⟨A1,c1,rfl,hc1,hs1,hb1⟩
    exact hK 32 _ _ rfl (hJ.next hn3 AO rfl hb1 ⟨A1,c1,rfl,hc1,hs1.blo hJ.bel.size⟩)
   ·simp only[List.getElem?_toArray,List.getElem?_cons_zero,List.getElem?_cons_succ,Option.some.injEq] at ho;subst ho
    go_simp
    exact hK 33 _ _ rfl (hJ.next hn3 AO rfl ((Below.refl _ _).alloc zn _) ⟨wj.heap.size,rfl,hJ.bel.size,aK wj _ _⟩)
   ·simp only[List.getElem?_toArray,List.getElem?_cons_zero,List.getElem?_cons_succ,Option.some.injEq] at ho;subst ho
    go_simp
    exact hK 34 _ _ rfl (hJ.next hn3 AO rfl (Below.refl _ _) rfl)
   ·simp only[List.getElem?_toArray,List.getElem?_cons_zero,List.getElem?_cons_succ,Option.some.injEq] at ho;subst ho
    have h34:f 34=.pointer (some ⟨gb,4,none⟩):=(hJ.low 4 AO (haf ⟨4,.data⟩ ZH2 rfl))
    have e34:a.tmps.getD 34 undef=.pointer (some ⟨gb,4,none⟩):=(hev 34 ZD9).trans (show f 34=.pointer (some ⟨gb,4,none⟩) from (hJ.low 4 AO (haf ⟨4,.data⟩ ZH2 rfl)))
    have e34':a.tmps[34]?.getD undef=.pointer (some ⟨gb,4,none⟩):=by rw[← Array.getD_eq_getD_getElem?];exact e34
    have hcg:=(hJ.bel.cell (p:=⟨gb,4,none⟩) (Nat.lt_of_lt_of_le lgb hX3)).trans Hg4.out
    go_simp
    exact hK 35 _ _ rfl (hJ.next hn3 AO rfl (Below.refl _ _) rfl)
   ·simp only[List.getElem?_toArray,List.getElem?_cons_zero,List.getElem?_cons_succ,Option.some.injEq] at ho;subst ho
    have h35:f 35=.int .i64 g.value:=(hJ.low 5 AO (haf ⟨5,.data⟩ ZH2 rfl))
    have e35:a.tmps.getD 35 undef=.int .i64 g.value:=(hev 35 ZD9).trans (show f 35=.int .i64 g.value from (hJ.low 5 AO (haf ⟨5,.data⟩ ZH2 rfl)))
    have e35':a.tmps[35]?.getD undef=.int .i64 g.value:=by rw[← Array.getD_eq_getD_getElem?];exact e35
    go_simp
    (with_reducible refine (HPk.out _).mono ?_)
    rintro e w1 ⟨rfl,rfl⟩
    exact hK 36 _ _ rfl (hJ.next hn3 AO rfl (Below.refl _ _) rfl)
   ·simp only[List.getElem?_toArray,List.getElem?_cons_zero,List.getElem?_cons_succ,Option.some.injEq] at ho;subst ho
    have h36:f 36=.int .i64 pv:=(hJ.low 6 AO (haf ⟨6,.data⟩ ZH2 rfl))
    have e36:a.tmps.getD 36 undef=.int .i64 pv:=(hev 36 ZD9).trans (show f 36=.int .i64 pv from (hJ.low 6 AO (haf ⟨6,.data⟩ ZH2 rfl)))
    have e36':a.tmps[36]?.getD undef=.int .i64 pv:=by rw[← Array.getD_eq_getD_getElem?];exact e36
    go_simp
    exact hK 37 _ _ rfl (hJ.next hn3 AO rfl (Below.refl _ _) rfl)
   ·simp only[List.getElem?_toArray,List.getElem?_cons_zero,List.getElem?_cons_succ,Option.some.injEq] at ho;subst ho
    have h37:f 37=(.int .u8 (IntKind.u8.wrap pv)):=(hJ.low 7 AO (haf ⟨7,.data⟩ ZH2 rfl))
    have e37:a.tmps.getD 37 undef=(.int .u8 (IntKind.u8.wrap pv)):=(hev 37 ZD9).trans (show f 37=(.int .u8 (IntKind.u8.wrap pv)) from (hJ.low 7 AO (haf ⟨7,.data⟩ ZH2 rfl)))
    have e37':a.tmps[37]?.getD undef=(.int .u8 (IntKind.u8.wrap pv)):=by rw[← Array.getD_eq_getD_getElem?];exact e37
    go_simp
    exact hK 38 _ _ rfl (hJ.next hn3 AO rfl ((Below.refl _ _).alloc zn _) ⟨wj.heap.size,rfl,hJ.bel.size,aK wj _ _⟩)
   ·simp only[List.getElem?_toArray,List.getElem?_cons_zero,List.getElem?_cons_succ,Option.some.injEq] at ho;subst ho
    obtain⟨q1,h33,hq1,hh1⟩:=(hJ.low 3 AO (haf ⟨3,.data⟩ ZH2 rfl))
    obtain⟨q2,h38,hq2,hh2⟩:=(hJ.low 8 AO (haf ⟨8,.data⟩ ZH2 rfl))
    have e33:a.tmps.getD 33 undef=.slice (some ⟨q1,0,none⟩) 1 1:=(hev 33 ZD9).trans h33
    have e33':a.tmps[33]?.getD undef=.slice (some ⟨q1,0,none⟩) 1 1:=by rw[← Array.getD_eq_getD_getElem?];exact e33
    have e38:a.tmps.getD 38 undef=.slice (some ⟨q2,0,none⟩) 1 1:=(hev 38 ZD9).trans h38
    have e38':a.tmps[38]?.getD undef=.slice (some ⟨q2,0,none⟩) 1 1:=by rw[← Array.getD_eq_getD_getElem?];exact e38
    clear h33 h38
    have Hh1:=zh hh1
    have Hh2:=zh hh2
    clear hh1 hh2
    go_simp
    exact hK 39 _ _ rfl (hJ.next hn3 AO rfl (Below.refl _ _) ⟨_,_,rfl,⟨q1,rfl,hq1,Hh1.out⟩,⟨q2,rfl,hq2,Hh2.out⟩⟩)
   ·simp only[List.getElem?_toArray,List.getElem?_cons_zero,List.getElem?_cons_succ,Option.some.injEq] at ho;subst ho
    obtain⟨v1,v2,h39,⟨q1,rfl,hq1,hh1⟩,⟨q2,rfl,hq2,hh2⟩⟩:=(hJ.low 9 AO (haf ⟨9,.data⟩ ZH2 rfl))
    have e39:a.tmps.getD 39 undef=.agg #[.int .i64 4,.slice (some ⟨q1,0,none⟩) 1 1,.slice (some ⟨q2,0,none⟩) 1 1,nilV,nilV]:=(hev 39 ZD9).trans h39
    have e39':a.tmps[39]?.getD undef=.agg #[.int .i64 4,.slice (some ⟨q1,0,none⟩) 1 1,.slice (some ⟨q2,0,none⟩) 1 1,nilV,nilV]:=by rw[← Array.getD_eq_getD_getElem?];exact e39
    have Hh1:=zh hh1
    have Hh2:=zh hh2
    clear hh1 hh2
    go_simp
    have BA:Bs All wj (some ⟨q1,0,none⟩) [121]:=bL9 (x:=121) Hh1.out trivial
    have BB:Bs All wj (some ⟨q2,0,none⟩) [kb]:=by have h:=Hh2.out;rw[Hkb.out] at h;exact bL9 h trivial
    (with_reducible refine (HPy.out _ (some ⟨q1,0,none⟩) (some ⟨q2,0,none⟩) HHj.out BA BB).mono ?_)
    rintro e w1 ⟨A1,c1,rfl,hc1,hs1,hb1⟩
    exact hK 40 _ _ rfl (hJ.next hn3 AO rfl hb1 ⟨A1,c1,rfl,hc1,hs1.blo hJ.bel.size⟩)
   ·simp only[List.getElem?_toArray,List.getElem?_cons_zero,List.getElem?_cons_succ,Option.some.injEq] at ho;subst ho
    go_simp
    exact hK 41 _ _ rfl (hJ.next hn3 AO rfl (Below.refl _ _) rfl)
   ·simp only[List.getElem?_toArray,List.getElem?_cons_zero,List.getElem?_cons_succ,Option.some.injEq] at ho;subst ho
    have h41:f 41=.agg #[.int .i64 6,nilV,nilV,nilV,nilV]:=(hJ.low 11 AO (haf ⟨11,.data⟩ ZH2 rfl))
    have e41:a.tmps.getD 41 undef=.agg #[.int .i64 6,nilV,nilV,nilV,nilV]:=(hev 41 ZD9).trans (show f 41=.agg #[.int .i64 6,nilV,nilV,nilV,nilV] from (hJ.low 11 AO (haf ⟨11,.data⟩ ZH2 rfl)))
    have e41':a.tmps[41]?.getD undef=.agg #[.int .i64 6,nilV,nilV,nilV,nilV]:=by rw[← Array.getD_eq_getD_getElem?];exact e41
    go_simp
    (with_reducible refine (HC.out _ HHj.out).mono ?_)
    rintro e w1 ⟨A1,c1,rfl,hc1,hs1,hb1⟩
    exact hK 42 _ _ rfl (hJ.next hn3 AO rfl hb1 ⟨A1,c1,rfl,hc1,hs1.blo hJ.bel.size⟩)
   ·simp only[List.getElem?_toArray,List.getElem?_cons_zero,List.getElem?_cons_succ,Option.some.injEq] at ho;subst ho
    go_simp
    exact hK 43 _ _ rfl (hJ.next hn3 AO rfl (Below.refl _ _) rfl)
   ·simp only[List.getElem?_toArray,List.getElem?_cons_zero,List.getElem?_cons_succ,Option.some.injEq] at ho;subst ho
    obtain⟨A1,ccA1,h32,hc1,hs1⟩:=(hJ.low 2 AO (haf ⟨2,.data⟩ ZH2 rfl))
    obtain⟨A2,ccA2,h40,hc2,hs2⟩:=(hJ.low 10 AO (haf ⟨10,.data⟩ ZH2 rfl))
    obtain⟨A3,ccA3,h42,hc3,hs3⟩:=(hJ.low 12 AO (haf ⟨12,.data⟩ ZH2 rfl))
    have e32:a.tmps.getD 32 undef=.agg #[.int .i64 1,.int .i64 7,.int .i64 0,.slice A1 dB.length ccA1]:=(hev 32 ZD9).trans h32
    have e32':a.tmps[32]?.getD undef=.agg #[.int .i64 1,.int .i64 7,.int .i64 0,.slice A1 dB.length ccA1]:=by rw[← Array.getD_eq_getD_getElem?];exact e32
    have e40:a.tmps.getD 40 undef=.agg #[.int .i64 1,.int .i64 7,.int .i64 0,.slice A2 dP.length ccA2]:=(hev 40 ZD9).trans h40
    have e40':a.tmps[40]?.getD undef=.agg #[.int .i64 1,.int .i64 7,.int .i64 0,.slice A2 dP.length ccA2]:=by rw[← Array.getD_eq_getD_getElem?];exact e40
    have e42:a.tmps.getD 42 undef=.agg #[.int .i64 1,.int .i64 7,.int .i64 0,.slice A3 dC.length ccA3]:=(hev 42 ZD9).trans h42
    have e42':a.tmps[42]?.getD undef=.agg #[.int .i64 1,.int .i64 7,.int .i64 0,.slice A3 dC.length ccA3]:=by rw[← Array.getD_eq_getD_getElem?];exact e42
    have h43:f 43=.agg #[.int .i64 2,.int .i64 0,.int .i64 0,nilV]:=(hJ.low 13 AO (haf ⟨13,.data⟩ ZH2 rfl))
    have e43:a.tmps.getD 43 undef=.agg #[.int .i64 2,.int .i64 0,.int .i64 0,nilV]:=(hev 43 ZD9).trans (show f 43=.agg #[.int .i64 2,.int .i64 0,.int .i64 0,nilV] from (hJ.low 13 AO (haf ⟨13,.data⟩ ZH2 rfl)))
    have e43':a.tmps[43]?.getD undef=.agg #[.int .i64 2,.int .i64 0,.int .i64 0,nilV]:=by rw[← Array.getD_eq_getD_getElem?];exact e43
    have Q1:=zh hs1
    have Q2:=zh hs2
    have Q3:=zh hs3
    clear h32 h40 h42 hs1 hs2 hs3
    go_simp
    exact hK 44 _ _ rfl (hJ.next hn3 AO rfl ((Below.refl _ _).alloc zn _) ⟨wj.heap.size,rfl,hJ.bel.size,sl_four _ _ [.int .i64 1,.int .i64 7,.int .i64 0,.slice A1 dB.length ccA1] [.int .i64 1,.int .i64 7,.int .i64 0,.slice A2 dP.length ccA2] [.int .i64 1,.int .i64 7,.int .i64 0,.slice A3 dC.length ccA3] [.int .i64 2,.int .i64 0,.int .i64 0,.slice none 0 0] _ (aK _ _ _) rfl rfl rfl rfl _ _ _ _ ⟨A1,ccA1,rfl,hc1,Q1.out.bbelow ((Below.refl _ _).alloc zn _)⟩ ⟨A2,ccA2,rfl,hc2,Q2.out.bbelow ((Below.refl _ _).alloc zn _)⟩ ⟨A3,ccA3,rfl,hc3,Q3.out.bbelow ((Below.refl _ _).alloc zn _)⟩ ⟨none,0,rfl,zn,SL.nil⟩ hJ.bel.size⟩)
   ·simp only[List.getElem?_toArray,List.getElem?_cons_zero,List.getElem?_cons_succ,Option.some.injEq] at ho;subst ho
    obtain⟨ro1,ro2⟩:=hJ.row hbi
    obtain⟨q1,h44,hq1,hsl⟩:=(hJ.low 14 AO (haf ⟨14,.data⟩ ZH2 rfl))
    have h30:f 30=.slice V4 ys.length c4:=(hJ.low 0 AO (haf ⟨0,.data⟩ ZH2 rfl))
    have e30:a.tmps.getD 30 undef=.slice V4 ys.length c4:=(hev 30 ZD9).trans (show f 30=.slice V4 ys.length c4 from (hJ.low 0 AO (haf ⟨0,.data⟩ ZH2 rfl)))
    have e44:=(hev 44 ZD9).trans h44
    have hj:=hJ.bel.size
    obtain⟨news,n1,n2,n3,n4⟩:=sl_news (hsl.less (S':=fun b=>NV (.slice (some ⟨b3,0,none⟩) ys.length c3) b∧(Value.slice V4 ys.length c4).ownBlock≠some b) acR_stays fun b _ h=>⟨hS3 b (Nat.le_trans hn3 h),Hown4.out.apart _ zn b h⟩) acR_one
    obtain⟨ad,had,n3⟩:=n3 (show 0<4 by omega)
    injection had with had
    subst had
    refine dS7 acR_noB acR_stays (S:=NV (.slice (some ⟨b3,0,none⟩) ys.length c3)) wj (.tmp 30) (.tmp 44) _ rfl y3.heap.size 38 i0 _ 48 Tryz.underlying25 hi0 hz0 hz1 hz2 hz3 ZD9 (act_z hi0 hz0) (.slice V4 ys.length c4) ys e30 ro1 ro2 ⟨q1,0,none⟩ 4 4 (dU7 dB dP dC) rfl ZD9 e44 news n1 n2 n3 n4 ?h63 ?hby (Nat.le_trans hn3 hj) ?_
    case h63=>(show _+4≤_;simp only[maxLen];omega)
    case hby=>(show (_+4)*_≤_;omega)
    intro v' w' k1 k2 k3 k5
    exact hK 45 _ _ rfl (hJ.next15 hn3 (haf ⟨0,.data⟩ ZH2 rfl) hbi k2 k3 (fun g hg=>(dT0 Hown4.out hg).2) k1 k5)
   ·simp only[List.getElem?_toArray,List.getElem?_cons_zero,List.getElem?_cons_succ,Option.some.injEq] at ho;subst ho
    have e45:=hev 45 ZD9
    have e45':a.tmps[45]?.getD undef=f 45:=by rw[← Array.getD_eq_getD_getElem?];exact e45
    go_simp
    exact hK 7 _ _ rfl (hJ.next16 (haf ⟨15,.data⟩ ZH2 rfl))
 case rest =>
  obtain⟨V5,ct,rfl,hown5,hn5,hb45⟩:=hcut
  obtain⟨W5,rfl⟩:∃ W5,W5=wc:=⟨wc,rfl⟩
  have hb35:=Hb4.out.trans hb45
  have Hown3w:=zh (Hown3.out.below acR_stays hb35)
  have HbX5:=zh (HbY3.out.trans (hb35.mono hX3))
  have hl35:y3.heap.size≤W5.heap.size:=hb35.size
  have Hown5:=zh hown5
  have HN5:=zh hn5
  obtain⟨n,fo,fo',rl,rk,p,q,HRa,HRb,HTn,hrl,hrk,hn⟩:=dU8 (fun a ha=>(Hxs.out a ha).1) (fun a ha=>(Hxs.out a ha).2) hxl HfA.out.2 HfB.out.2 HfP.out.2 HfC.out.2 Hdd.out HfA.out.1 HfB.out.1 HfP.out.1 HfC.out.1 Hdf.out rfl Habc.out Hkf.out
  replace HRa:dA3 (ys++[(⟨1,((0:Nat):Int),0,d⟩:Ac)]) _:=Hys.out ▸ HRa
  replace HRb:dA3 (ts++[(⟨1,((0:Nat):Int),0,d⟩:Ac)]) _:=Hts.out ▸ Hys.out ▸ HRb
  have HTt:=zh HTn
  obtain⟨ti,hti,hti0,hti1⟩:∃ ti:Int,ti=(n:Int)∧0≤ti∧ti≤100:=⟨_,rfl,AO,AO⟩
  rw[show (((n+1:Nat):Int))=ti+1 by omega] at HRb
  rw[← hti] at HRa
  have HX0:=zh x0
  have HX1':=zh x1
  have HX2:=zh x2
  have HX3:=zh x3
  have HX4:=zh x4
  clear x0 x1 x2 x3 x4 hown5 hn5 hb45 hb35 Hown4 HN4 Hg4 Hg4' HTn hti hn hn3 HPk Hkb HfA HfB HfC HfP HA HB HC HPy Hxs Ha Hys Hts
  have x0:=(HbX5.out.cell (p:=⟨bx,0,none⟩) lX).trans HX0.out
  have x1:=(HbX5.out.cell (p:=⟨bx,1,none⟩) lX).trans HX1'.out
  have x2:=(HbX5.out.cell (p:=⟨bx,2,none⟩) lX).trans HX2.out
  have x3:=(HbX5.out.cell (p:=⟨bx,3,none⟩) lX).trans HX3.out
  have x4:=(HbX5.out.cell (p:=⟨bx,4,none⟩) lX).trans HX4.out
  have U1:=zh (T1.out.bbelow HbX5.out)
  have U2:=zh (T2.out.bbelow HbX5.out)
  have U3:=zh (T3.out.bbelow HbX5.out)
  have U4:=zh (T4.out.bbelow HbX5.out)
  go_upto_region 6 with (first|(go_at_call 13;(with_reducible refine (HD.out _ A5 B5 C5 D5 a5 b5 c5 d5 ?hTz6 ?h1z6 ?h2z6 ?h3z6 ?h4z6).mono ?_);(case hTz6=>exact HH.out.below (HbR.out.next HbX5.out HbR.out.size));(case h1z6=>exact U1.out);(case h2z6=>exact U2.out);(case h3z6=>exact U3.out);(case h4z6=>exact U4.out);rintro e6 y6 ⟨A6,c6,rfl,hc6,hs6,hb6⟩;have S6:=zh hs6;have Hb6:=zh hb6;clear hs6 hb6)|(at_builtin;refine wpl_cat acR_stays acR_one (S:=aB WX.heap.size) _ rfl _ _ _ rfl WX.heap.size 38 i0 _ 4 48 Tryz.underlying25 hi0 hz0 hz1 hz2 hz3 ZD9 (.slice (some ⟨b3,0,none⟩) ys.length c3) ys rfl ?hownz7 _ 1 _ [(⟨1,((0:Nat):Int),0,d⟩:Ac)] rfl rfl ?hsrcz7 ?h63z7 ?hbyz7 ?hbaz7 ?_;(case hownz7=>exact (Hown3w.out.below acR_stays Hb6.out).below acR_stays ((Below.refl _ _).alloc zn _));(case hsrcz7=>exact sl_one _ _ [.int .i64 1,.int .i64 0,.int .i64 0,.slice A6 d.length c6] _ (aK _ _ _) rfl _ ⟨A6,c6,rfl,hc6,(S6.out.bbelow ((Below.refl _ _).alloc zn _)).bless fun b _ h=>⟨Nat.le_trans HbX5.out.size h,Hown3w.out.apart _ zn b h⟩⟩ ⟨Nat.le_trans HbX5.out.size Hb6.out.size,Hown3w.out.apart _ zn _ Hb6.out.size⟩);(case h63z7=>(simp only[maxLen,List.length_cons,List.length_nil];omega));(case hbyz7=>(simp only[List.length_cons,List.length_nil];omega));(case hbaz7=>exact (by have:=HbX5.out.size;have:=Hb6.out.size;have:=HbY3.out.size;simp;omega));intro v7 y7 hown7 hb7 hg7 hat7;obtain⟨V7,c7,hve7,hvc7,hsl7⟩:=hown7.slices acR_stays;subst hve7;have HX7:=zh (hsl7.z acR_stays);have HbY7:=zh (((Hb6.out.alloc Hb6.out.size _).mono HbX5.out.size).trans hb7);have HsY7:=zh (((aC.of_below (S:=NV (.slice (some ⟨b3,0,none⟩) ys.length c3)) Hb6.out).alloc _).trans (dS9 hg7));clear hown7 hsl7 hvc7 hb7 hg7 hat7)|(go_at_call 12;(with_reducible refine (Hid.out HRa _ V7 (ys.length+1) c7 (by rw[List.length_append,List.length_singleton]) ?hTz8 ?hHz8 ?haz8).mono ?_);(case hTz8=>exact HT.out.below (HbR.out.next (HbX5.out.trans HbY7.out) HbR.out.size));(case hHz8=>exact HH.out.below (HbR.out.next (HbX5.out.trans HbY7.out) HbR.out.size));(case haz8=>exact HX7.out);rintro e8 u8 ⟨F8,f8,R8,r8,W8,b8,hi8,rfl,hW8,hbb8,hhi8,hB8,hw8,hu8,hv8⟩;have HV8:=zh hv8;have HB8:=zh hB8;have Hw8:=zh hw8;have HW8:=zh hW8;have Hbb8:=zh hbb8;have Hhi8:=zh hhi8;clear hB8 hw8 hu8 hv8 hW8 hbb8 hhi8))
  have e8:=HW8.out
  rw[List.length_append,List.length_singleton] at e8
  rw[e8,Hbb8.out]
  clear e8
  have hw8:=Hw8.out
  have hy57:=HbX5.out.trans HbY7.out
  have HbX8:=zh (hy57.trans (hw8.mono hy57.size))
  have HsX8:=HsY7.out.trans (aC.of_below hw8)
  have Hown8:=zh (own_from acR_stays Hown5.out HsX8 hS3)
  have HN8:=zh (HN5.out.same fun g hg=>HsX8.block g (hS3 g (dT0 Hown5.out hg).1) (dT0 Hown5.out hg).2)
  have hl38:y3.heap.size≤W8.heap.size:=Nat.le_trans hl35 HsX8.size
  have hl57:W5.heap.size≤y7.heap.size:=HsY7.out.size
  have hnv:∀ b,y7.heap.size≤b→NV (.slice V5 ts.length ct) b:=fun b hb=>Hown5.out.apart _ zn b (Nat.le_trans hl57 hb)
  obtain⟨a0,a1,a2,a3,a4⟩:=HB8.out.cells
  dsimp only at a1 a4
  rw[List.length_append,List.length_singleton] at a4
  have lA:=HB8.out.lt
  have nA:=hnv _ HB8.out.inb.1
  obtain⟨rb,ro,V,v,P,pn,Q,qn,sa,sn,K,kn,X,xn,sb,sm,K',kn',X',xn',hR8,hrl8,hcs,hv1,hv2,hv3,⟨hv4,hv5,hv6⟩,hv7,hv8,hv9⟩:=rep_vals (HV8.out.z rpR_stays) (show rl.length<(rl++[p]).length by simp)
  rw[show (rl++[p])[rl.length]'ZH2=p by simp] at hcs hv1 hv3 hv4 hv5 hv6 hv7 hv8 hv9
  subst hR8
  have w0:=hcs 0 AO
  have w1:=hcs 1 AO
  have w2:=hcs 2 AO
  have w3:=hcs 3 AO
  have w4:=hcs 4 AO
  have w5:=hcs 5 AO
  have w6:=hcs 6 AO
  have w7:=hcs 7 AO
  have w8:=hcs 8 AO
  have w9:=hcs 9 AO
  have w10:=hcs 10 AO
  have w11:=hcs 11 AO
  have w12:=hcs 12 AO
  have w13:=hcs 13 AO
  have w14:=hcs 14 AO
  simp only[dE6,Nat.add_zero,List.getElem?_cons_zero,List.getElem?_cons_succ] at w0 w1 w2 w3 w4 w5 w6 w7 w8 w9 w10 w11 w12 w13 w14
  clear hcs
  have nR:NV (.slice V5 ts.length ct) rb:=by
   obtain⟨rb2,ro2,hR2,hbt,_⟩:=HB8.out.re (show 0<(rl++[p]).length by simp)
   have hR3:rb=rb2:=by simp at hR2;exact hR2.1
   rw[hR3]
   exact hnv _ hbt.1
  have VV:=zh (dS8 hv1 HN8.out)
  have J4:=zh (sts_notN hv7 HN8.out)
  have J5:=zh (dS8 hv8 HN8.out)
  have J6:=zh (dS8 hv9 HN8.out)
  clear hv1 hv2 hv3 hv4 hv5 hv6 hv7 hv8 hv9 x0 x1 x2 x3 x4 U1 U2 U3 U4 a0 a2 a3 hw8 hy57 HsX8 HW8 Hbb8 Hhi8 HV8 Hw8 HB8 HRa HbY7 HsY7 HX7 Hown3w Hown3 HbX5 Hown5 HN5 hnv S6 Hb6
  have G0:=zh w0
  have G1:=zh w1
  have G2:=zh w2
  have G3:=zh w3
  have G4:=zh w4
  have G5:=zh w5
  have G6:=zh w6
  have G7:=zh w7
  have G8:=zh w8
  have G9:=zh w9
  have G10:=zh w10
  have G11:=zh w11
  have G12:=zh w12
  have G13:=zh w13
  have G14:=zh w14
  have GA1:=zh a1
  have GA4:=zh a4
  clear a1 a4 w0 w1 w2 w3 w4 w5 w6 w7 w8 w9 w10 w11 w12 w13 w14
  have x0:=(HbX8.out.cell (p:=⟨bx,0,none⟩) lX).trans HX0.out
  have x1:=(HbX8.out.cell (p:=⟨bx,1,none⟩) lX).trans HX1'.out
  have x2:=(HbX8.out.cell (p:=⟨bx,2,none⟩) lX).trans HX2.out
  have x3:=(HbX8.out.cell (p:=⟨bx,3,none⟩) lX).trans HX3.out
  have x4:=(HbX8.out.cell (p:=⟨bx,4,none⟩) lX).trans HX4.out
  have U1:=zh (T1.out.bbelow HbX8.out)
  have U2:=zh (T2.out.bbelow HbX8.out)
  have U3:=zh (T3.out.bbelow HbX8.out)
  have U4:=zh (T4.out.bbelow HbX8.out)
  go_upto_region 7 with (first|(go_at_call 13;(with_reducible refine (HD.out _ A5 B5 C5 D5 a5 b5 c5 d5 ?hTz9 ?h1z9 ?h2z9 ?h3z9 ?h4z9).mono ?_);(case hTz9=>exact HH.out.below (HbR.out.next HbX8.out HbR.out.size));(case h1z9=>exact U1.out);(case h2z9=>exact U2.out);(case h3z9=>exact U3.out);(case h4z9=>exact U4.out);rintro e9 y9 ⟨A9,c9,rfl,hc9,hs9,hb9⟩;have S9:=zh hs9;have Hb9:=zh hb9;clear hs9 hb9)|(at_builtin;refine wpl_cat acR_stays acR_one (S:=NV (.slice (some ⟨b3,0,none⟩) ys.length c3)) _ rfl _ _ _ rfl y3.heap.size 38 i0 _ 4 48 Tryz.underlying25 hi0 hz0 hz1 hz2 hz3 ZD9 (.slice V5 ts.length ct) ts rfl ?hownz10 _ 1 _ [(⟨1,((0:Nat):Int),0,d⟩:Ac)] rfl rfl ?hsrcz10 ?h63z10 ?hbyz10 ?hbaz10 ?_;(case hownz10=>exact (Hown8.out.below acR_stays Hb9.out).below acR_stays ((Below.refl _ _).alloc zn _));(case hsrcz10=>exact sl_one _ _ [.int .i64 1,.int .i64 0,.int .i64 0,.slice A9 d.length c9] _ (aK _ _ _) rfl _ ⟨A9,c9,rfl,hc9,(S9.out.bbelow ((Below.refl _ _).alloc zn _)).bless fun b _ h=>⟨hS3 _ (Nat.le_trans hl38 h),Hown8.out.apart _ zn b h⟩⟩ ⟨hS3 _ (Nat.le_trans hl38 Hb9.out.size),Hown8.out.apart _ zn _ Hb9.out.size⟩);(case h63z10=>(simp only[maxLen,List.length_cons,List.length_nil];omega));(case hbyz10=>(simp only[List.length_cons,List.length_nil];omega));(case hbaz10=>exact (by have:=HbX8.out.size;have:=Hb9.out.size;have:=HbY3.out.size;simp;omega));intro v10 y10 hown10 hb10 hg10 hat10;obtain⟨V10,c10,hve10,hvc10,hsl10⟩:=hown10.slices acR_stays;subst hve10;have HX10:=zh (hsl10.z acR_stays);have HbY10:=zh (((Hb9.out.alloc Hb9.out.size _).mono HbX8.out.size).trans (hb10.mono HbY3.out.size));have HsY10:=zh (((aC.of_below (S:=NV (.slice V5 ts.length ct)) Hb9.out).alloc _).trans (dS9 hg10));clear hown10 hsl10 hvc10 hb10 hg10 hat10)|(go_at_call 12;(with_reducible refine (Hid.out HRb _ V10 (ts.length+1) c10 (by rw[List.length_append,List.length_singleton]) ?hTz11 ?hHz11 ?haz11).mono ?_);(case hTz11=>exact HT.out.below (HbR.out.next (HbX8.out.trans HbY10.out) HbR.out.size));(case hHz11=>exact HH.out.below (HbR.out.next (HbX8.out.trans HbY10.out) HbR.out.size));(case haz11=>exact HX10.out);rintro e11 u11 ⟨F11,f11,R11,r11,W11,b11,hi11,rfl,hW11,hbb11,hhi11,hB11,hw11,hu11,hv11⟩;have HV11:=zh hv11;have HB11:=zh hB11;have Hw11:=zh hw11;have HW11:=zh hW11;have Hbb11:=zh hbb11;have Hhi11:=zh hhi11;clear hB11 hw11 hu11 hv11 hW11 hbb11 hhi11))
  have e11:=HW11.out
  rw[List.length_append,List.length_singleton] at e11
  rw[e11,Hbb11.out]
  clear e11
  have hw11:=Hw11.out
  have hs:=HsY10.out.trans (aC.of_below hw11)
  have hy:=HbX8.out.trans HbY10.out
  have hX11:=hy.trans (hw11.mono hy.size)
  replace HbR:=zh (HbR.out.next hX11 HbR.out.size)
  have x1:=(hX11.cell (p:=⟨bx,1,none⟩) lX).trans HX1'.out
  have x2:=(hX11.cell (p:=⟨bx,2,none⟩) lX).trans HX2.out
  replace T1:=zh (T1.out.bbelow hX11)
  replace T2:=zh (T2.out.bbelow hX11)
  replace lX:=Nat.lt_of_lt_of_le lX hX11.size
  clear x0 x3 x4 U1 U2 U3 U4
  have a1:=(hs.cell (p:=⟨b8,1,none⟩) nA lA).trans GA1.out
  have a4:=(hs.cell (p:=⟨b8,4,none⟩) nA lA).trans GA4.out
  replace lA:=Nat.lt_of_lt_of_le lA hs.size
  have w0:=(hs.cell (p:=⟨rb,ro+rl.length*15,none⟩) nR hrl8).trans G0.out
  have w1:=(hs.cell (p:=⟨rb,ro+rl.length*15+1,none⟩) nR hrl8).trans G1.out
  have w2:=(hs.cell (p:=⟨rb,ro+rl.length*15+2,none⟩) nR hrl8).trans G2.out
  have w3:=(hs.cell (p:=⟨rb,ro+rl.length*15+3,none⟩) nR hrl8).trans G3.out
  have w4:=(hs.cell (p:=⟨rb,ro+rl.length*15+4,none⟩) nR hrl8).trans G4.out
  have w5:=(hs.cell (p:=⟨rb,ro+rl.length*15+5,none⟩) nR hrl8).trans G5.out
  have w6:=(hs.cell (p:=⟨rb,ro+rl.length*15+6,none⟩) nR hrl8).trans G6.out
  have w7:=(hs.cell (p:=⟨rb,ro+rl.length*15+7,none⟩) nR hrl8).trans G7.out
  have w8:=(hs.cell (p:=⟨rb,ro+rl.length*15+8,none⟩) nR hrl8).trans G8.out
  have w9:=(hs.cell (p:=⟨rb,ro+rl.length*15+9,none⟩) nR hrl8).trans G9.out
  have w10:=(hs.cell (p:=⟨rb,ro+rl.length*15+10,none⟩) nR hrl8).trans G10.out
  have w11:=(hs.cell (p:=⟨rb,ro+rl.length*15+11,none⟩) nR hrl8).trans G11.out
  have w12:=(hs.cell (p:=⟨rb,ro+rl.length*15+12,none⟩) nR hrl8).trans G12.out
  have w13:=(hs.cell (p:=⟨rb,ro+rl.length*15+13,none⟩) nR hrl8).trans G13.out
  have w14:=(hs.cell (p:=⟨rb,ro+rl.length*15+14,none⟩) nR hrl8).trans G14.out
  replace hrl8:=Nat.lt_of_lt_of_le hrl8 hs.size
  replace VV:=zh (VV.out.bsame hs).bz
  replace J4:=zh ((J4.out.same stR_stays hs).z stR_stays)
  replace J5:=zh (J5.out.bsame hs).bz
  replace J6:=zh (J6.out.bsame hs).bz
  obtain⟨b0,b1,b2,b3',b4⟩:=HB11.out.cells
  dsimp only at b1 b4
  rw[List.length_append,List.length_singleton] at b4
  have lB:=HB11.out.lt
  obtain⟨rc,rd,V2,v2,P2,pn2,Q2,qn2,sa2,sn2,K2,kn2,X2,xn2,sb2,sm2,K3,kn3,X3,xn3,hR11,hrl11,hcs,hu1,hu2,hu3,⟨hu4,hu5,hu6⟩,hu7,hu8,hu9⟩:=rep_vals (HV11.out.z rpR_stays) (show rk.length<(rk++[q]).length by simp)
  rw[show (rk++[q])[rk.length]'ZH2=q by simp] at hcs hu1 hu3 hu4 hu5 hu6 hu7 hu8 hu9
  subst hR11
  have cq0:=hcs 0 AO
  have cq1:=hcs 1 AO
  have cq2:=hcs 2 AO
  have cq3:=hcs 3 AO
  have cq4:=hcs 4 AO
  have cq5:=hcs 5 AO
  have cq6:=hcs 6 AO
  have cq7:=hcs 7 AO
  have cq8:=hcs 8 AO
  have cq9:=hcs 9 AO
  have cq10:=hcs 10 AO
  have cq11:=hcs 11 AO
  have cq12:=hcs 12 AO
  have cq13:=hcs 13 AO
  have cq14:=hcs 14 AO
  simp only[dE6,Nat.add_zero,List.getElem?_cons_zero,List.getElem?_cons_succ] at cq0 cq1 cq2 cq3 cq4 cq5 cq6 cq7 cq8 cq9 cq10 cq11 cq12 cq13 cq14
  clear hcs
  have VQ:=zh hu3
  have J1:=zh hu4
  have J2:=zh hu5
  have J3:=zh hu6
  clear hu1 hu2 hu3 hu4 hu5 hu6 hu7 hu8 hu9 b0 b2 b3' hw11 hy hX11 hs HW11 Hbb11 Hhi11 HV11 Hw11 HB11 HRb HbY10 HsY10 HX10 Hown8 HN8 HbX8 HbY3 Hb4 S9 Hb9 nA nR HX0 HX1' HX2 HX3 HX4 T3 T4 HD Hdf G0 G1 G2 G3 G4 G5 G6 G7 G8 G9 G10 G11 G12 G13 G14 GA1 GA4
  obtain⟨⟨gf,gv,hpf,hpv,hqf,hver⟩,hlen,⟨z1,z2,z3⟩,⟨z4,z5,z6⟩⟩:=HTt.out
  have z7:=hnl'
  have HVer:=zh hver
  have Hval:=zh hpv
  have Hlen:=zh hlen
  have Hpf:=zh hpf
  have Hqf:=zh hqf
  clear hver hpv hlen hpf hqf hnl'
  have k0:(((rl.length+1:Nat):Int)==0)=false:=by rw[beq_eq_false_iff_ne];omega
  have k0':((rl.length:Int)+1==0)=false:=by rw[beq_eq_false_iff_ne];omega
  have k1:((rl.length+1:Nat):Int) - 1=(rl.length:Int):=by omega
  have k2:(rl.length:Int)<((rl.length+1:Nat):Int):=by omega
  have k2':(rl.length:Int)<(rl.length:Int)+1:=by omega
  have k3:(0:Int)≤(rl.length:Int):=by omega
  have k4:(rl.length:Int)≤60:=by omega
  have m0:(((rk.length+1:Nat):Int)==0)=false:=by rw[beq_eq_false_iff_ne];omega
  have m0':((rk.length:Int)+1==0)=false:=by rw[beq_eq_false_iff_ne];omega
  have m1:((rk.length+1:Nat):Int) - 1=(rk.length:Int):=by omega
  have m2:(rk.length:Int)<((rk.length+1:Nat):Int):=by omega
  have m2':(rk.length:Int)<(rk.length:Int)+1:=by omega
  have m3:(0:Int)≤(rk.length:Int):=by omega
  have m4:(rk.length:Int)≤60:=by omega
  clear HTt lgb hX3 hl35 hl38 hl57 hxl hyl htl hyp hrl hrk
  go_upto_region 10 with fail
  have Hbz:=Below.refl W11.heap.size W11
  obtain⟨WP,hWWP⟩:∃ WP,WP=W11.alloc (.cells #[.int .i64 p.session,.int .i64 p.code,.int .i64 p.turn,.bool p.found,.slice V p.value.length v,.slice P p.pairs.length pn,.slice Q p.root.length qn,.bool p.outer.empty,.slice sa p.outer.steps.length sn,.slice K p.outer.pair.1.length kn,.slice X p.outer.pair.2.length xn,.bool p.inner.empty,.slice sb p.inner.steps.length sm,.slice K' p.inner.pair.1.length kn',.slice X' p.inner.pair.2.length xn'] 48):=⟨_,rfl⟩
  obtain⟨gn,hgn⟩:∃ gn,gn=W11.heap.size:=⟨_,rfl⟩
  obtain⟨hq,hyW⟩:=dV6 hWWP hgn
  have hbq:=Hbz.next hyW Hbz.size
  replace x1:=(hbq.cell (p:=⟨bx,1,none⟩) lX).trans x1
  replace x2:=(hbq.cell (p:=⟨bx,2,none⟩) lX).trans x2
  replace b4:=(hbq.cell (p:=⟨b11,4,none⟩) lB).trans b4
  replace cq0:=(hbq.cell (p:=⟨rc,rd+rk.length*15,none⟩) hrl11).trans cq0
  replace cq1:=(hbq.cell (p:=⟨rc,rd+rk.length*15+1,none⟩) hrl11).trans cq1
  replace cq2:=(hbq.cell (p:=⟨rc,rd+rk.length*15+2,none⟩) hrl11).trans cq2
  replace cq3:=(hbq.cell (p:=⟨rc,rd+rk.length*15+3,none⟩) hrl11).trans cq3
  replace cq4:=(hbq.cell (p:=⟨rc,rd+rk.length*15+4,none⟩) hrl11).trans cq4
  replace cq5:=(hbq.cell (p:=⟨rc,rd+rk.length*15+5,none⟩) hrl11).trans cq5
  replace cq6:=(hbq.cell (p:=⟨rc,rd+rk.length*15+6,none⟩) hrl11).trans cq6
  replace cq7:=(hbq.cell (p:=⟨rc,rd+rk.length*15+7,none⟩) hrl11).trans cq7
  replace cq8:=(hbq.cell (p:=⟨rc,rd+rk.length*15+8,none⟩) hrl11).trans cq8
  replace cq9:=(hbq.cell (p:=⟨rc,rd+rk.length*15+9,none⟩) hrl11).trans cq9
  replace cq10:=(hbq.cell (p:=⟨rc,rd+rk.length*15+10,none⟩) hrl11).trans cq10
  replace cq11:=(hbq.cell (p:=⟨rc,rd+rk.length*15+11,none⟩) hrl11).trans cq11
  replace cq12:=(hbq.cell (p:=⟨rc,rd+rk.length*15+12,none⟩) hrl11).trans cq12
  replace cq13:=(hbq.cell (p:=⟨rc,rd+rk.length*15+13,none⟩) hrl11).trans cq13
  replace cq14:=(hbq.cell (p:=⟨rc,rd+rk.length*15+14,none⟩) hrl11).trans cq14
  replace lX:=Nat.lt_of_lt_of_le lX hbq.size
  replace lB:=Nat.lt_of_lt_of_le lB hbq.size
  replace hrl11:=Nat.lt_of_lt_of_le hrl11 hbq.size
  replace T1:=zh (T1.out.bbelow hbq)
  replace T2:=zh (T2.out.bbelow hbq)
  replace VV:=zh (VV.out.bbelow hbq)
  replace J5:=zh (J5.out.bbelow hbq)
  replace J6:=zh (J6.out.bbelow hbq)
  replace VQ:=zh (VQ.out.bbelow hbq)
  replace J2:=zh (J2.out.bbelow hbq)
  replace J3:=zh (J3.out.bbelow hbq)
  replace J4:=zh (J4.out.below stR_stays hbq)
  replace J1:=zh (J1.out.below stR_stays hbq)
  have lG:=(Array.getElem?_eq_some_iff.1 hq).1
  have p3:=aA hq 3
  have p4:=aA hq 4
  have p11:=aA hq 11
  have p12:=aA hq 12
  have p13:=aA hq 13
  have p14:=aA hq 14
  simp only[List.getElem?_cons_zero,List.getElem?_cons_succ] at p3 p4 p11 p12 p13 p14
  replace HbR:=zh (HbR.out.next hbq HbR.out.size)
  rw[← hWWP,← hgn]
  clear hWWP hgn hbq hq hyW Hbz
  clear w0 w1 w2 w3 w4 w5 w6 w7 w8 w9 w10 w11 w12 w13 w14 a1 a4 b1 lA hrl8 k0 k0' k1 k2 k2' k3 k4
  go_upto_region 11 with fail
  have Hbz:=Below.refl WP.heap.size WP
  obtain⟨WQ,hWWQ⟩:∃ WQ,WQ=WP.alloc (.cells #[.int .i64 q.session,.int .i64 q.code,.int .i64 q.turn,.bool q.found,.slice V2 q.value.length v2,.slice P2 q.pairs.length pn2,.slice Q2 q.root.length qn2,.bool q.outer.empty,.slice sa2 q.outer.steps.length sn2,.slice K2 q.outer.pair.1.length kn2,.slice X2 q.outer.pair.2.length xn2,.bool q.inner.empty,.slice sb2 q.inner.steps.length sm2,.slice K3 q.inner.pair.1.length kn3,.slice X3 q.inner.pair.2.length xn3] 48):=⟨_,rfl⟩
  obtain⟨gq,hgq⟩:∃ gq,gq=WP.heap.size:=⟨_,rfl⟩
  obtain⟨hq,hyW⟩:=dV6 hWWQ hgq
  have hbq:=Hbz.next hyW Hbz.size
  replace x1:=(hbq.cell (p:=⟨bx,1,none⟩) lX).trans x1
  replace x2:=(hbq.cell (p:=⟨bx,2,none⟩) lX).trans x2
  replace p3:=(hbq.cell (p:=⟨gn,3,none⟩) lG).trans p3
  replace p4:=(hbq.cell (p:=⟨gn,4,none⟩) lG).trans p4
  replace p11:=(hbq.cell (p:=⟨gn,11,none⟩) lG).trans p11
  replace p12:=(hbq.cell (p:=⟨gn,12,none⟩) lG).trans p12
  replace p13:=(hbq.cell (p:=⟨gn,13,none⟩) lG).trans p13
  replace p14:=(hbq.cell (p:=⟨gn,14,none⟩) lG).trans p14
  replace lX:=Nat.lt_of_lt_of_le lX hbq.size
  replace lG:=Nat.lt_of_lt_of_le lG hbq.size
  replace T1:=zh (T1.out.bbelow hbq)
  replace T2:=zh (T2.out.bbelow hbq)
  replace VV:=zh (VV.out.bbelow hbq)
  replace J5:=zh (J5.out.bbelow hbq)
  replace J6:=zh (J6.out.bbelow hbq)
  replace VQ:=zh (VQ.out.bbelow hbq)
  replace J2:=zh (J2.out.bbelow hbq)
  replace J3:=zh (J3.out.bbelow hbq)
  replace J4:=zh (J4.out.below stR_stays hbq)
  replace J1:=zh (J1.out.below stR_stays hbq)
  have lQ:=(Array.getElem?_eq_some_iff.1 hq).1
  have q3:=aA hq 3
  have q6:=aA hq 6
  have q7:=aA hq 7
  have q8:=aA hq 8
  have q9:=aA hq 9
  have q10:=aA hq 10
  have q12:=aA hq 12
  simp only[List.getElem?_cons_zero,List.getElem?_cons_succ] at q3 q6 q7 q8 q9 q10 q12
  replace HbR:=zh (HbR.out.next hbq HbR.out.size)
  rw[← hWWQ,← hgq]
  clear hWWQ hgq hbq hq hyW Hbz
  clear cq0 cq1 cq2 cq3 cq4 cq5 cq6 cq7 cq8 cq9 cq10 cq11 cq12 cq13 cq14 b4 lB hrl11 m0 m0' m1 m2 m2' m3 m4
  rw[Hpf.out] at p3
  rw[Hqf.out] at q3
  rw[Hval.out] at VV p4
  rw[← Hlen.out] at q12
  go_upto_region 12 with (go_at_call 17;(with_reducible refine (dM9 _ ?hTz12 Q2 A5 B5 sa2 K2 X2 sb K' X' q.root r.name r.key q.outer p.inner qn2 a5 b5 sn2 kn2 xn2 sm kn' xn' ?i1z12 ?i2z12 ?i3z12 ?j1z12 ?j2z12 ?j3z12 z1 z2 z3 ?k1z12 ?k2z12 ?k3z12 z4 z5 z6 z7).mono ?_);(case hTz12=>exact HT.out.below HbR.out);(case i1z12=>exact VQ.out);(case i2z12=>exact T1.out);(case i3z12=>exact T2.out);(case j1z12=>exact J1.out);(case j2z12=>exact J2.out);(case j3z12=>exact J3.out);(case k1z12=>exact J4.out);(case k2z12=>exact J5.out);(case k3z12=>exact J6.out);rw[HVer.out];rintro e12 y12 ⟨A12,c12,rfl,hs12,hb12⟩;have S12:=zh hs12.bz;have Hb12:=zh hb12;clear hs12 hb12)
  have hb12:=Hb12.out
  clear x1 x2 lX T1 T2 J1 J2 J3 J4 J5 J6 VQ p11 p13 p14 q6 q7 q8 q9 q10
  obtain⟨WV,hWWV⟩:∃ WV,WV=y12.alloc (.cells #[.bool gf,.slice A12 gv.length c12] 50):=⟨_,rfl⟩
  obtain⟨vn,hvn⟩:∃ vn,vn=y12.heap.size:=⟨_,rfl⟩
  obtain⟨hq,hyW⟩:=dV6 hWWV hvn
  have hbq:=hb12.next hyW hb12.size
  replace p3:=(hbq.cell (p:=⟨gn,3,none⟩) lG).trans p3
  replace p4:=(hbq.cell (p:=⟨gn,4,none⟩) lG).trans p4
  replace p12:=(hbq.cell (p:=⟨gn,12,none⟩) lG).trans p12
  replace q3:=(hbq.cell (p:=⟨gq,3,none⟩) lQ).trans q3
  replace q12:=(hbq.cell (p:=⟨gq,12,none⟩) lQ).trans q12
  replace lG:=Nat.lt_of_lt_of_le lG hbq.size
  replace lQ:=Nat.lt_of_lt_of_le lQ hbq.size
  replace VV:=zh (VV.out.bbelow hbq)
  have lV:=(Array.getElem?_eq_some_iff.1 hq).1
  have v0:=aA hq 0
  have v1:=aA hq 1
  simp only[List.getElem?_cons_zero,List.getElem?_cons_succ] at v0 v1
  replace HbR:=zh (HbR.out.next hbq HbR.out.size)
  rw[← hWWV,← hvn]
  replace S12:=zh (S12.out.bbelow hyW)
  clear hWWV hvn hbq hq hyW hb12 Hb12 HVer
  have h1:=bE2 (S12.out) 27 9 5 c12 Tryz.underlying27 Tryz.underlying5 Tryz.underlying9
  have h2:=bE2 (VV.out) 27 9 5 v Tryz.underlying27 Tryz.underlying5 Tryz.underlying9
  go_wp2
  go_ret
  exact⟨rfl,HbR.out⟩
theorem dV3 (w:World) (hT:bD w) (hH:bL w) {A:Option Addr} {l:List Gr} {c:Nat} (h:Grs All w A l∧l.length≤big) {cl:List Value} {g:Gr} (hg:GrR All w cl g) :
  Calls Tryz.prog 4 #[.slice A l.length c,.agg ⟨cl⟩] w (bQ w (.bool true)):=by
 obtain⟨rfl,_,_,_,h4,h5⟩:=hg
 exact dV2 w hT hH A l c h.1 h.2 g h4 h5
end Go.Proofs.YtodopbnhkkkcbaaGreatDoor
