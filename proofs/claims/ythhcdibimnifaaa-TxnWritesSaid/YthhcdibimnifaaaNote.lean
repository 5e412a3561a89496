/- Walks: txn.Note and Noted; the law TxnNotes. -/
import Derived.Test.YthhcdibimnifaaaTxnOwn
namespace Go.Proofs.Ythhcdibimnifaaa
open Go.RowKit
set_option linter.unusedVariables false
set_option linter.unusedSimpArgs false

def zeroTx : Tx := ⟨0, [], []⟩
/-- What Note and Noted answer. -/
def noteS (t : Tx) (r : Wr) : Tx × Int :=
  if txnFaultS t ≠ 0 then (zeroTx, txnFaultS t) else if readFaultS r ≠ 0 then (zeroTx, readFaultS r) else if t.reads.any (fun x => sameRd x r) = true then (t, 0) else if t.reads.length = 20 then (zeroTx, 11) else (⟨t.start, t.reads ++ [r], t.writes⟩, 0)
/-- The call returns a transaction and a number. -/
def RetTxE (w : World) (r : Tx × Int) (e : Ending) (w' : World) : Prop :=
  ∃ A n B m, e = .returned (.tuple #[.agg #[.int .i64 r.1.start, .slice A r.1.reads.length n, .slice B r.1.writes.length m], .int .i64 r.2]) ∧ r.1.reads.length ≤ n ∧ r.1.writes.length ≤ m ∧ Ws (From w.heap.size) w' A r.1.reads ∧ Ws (From w.heap.size) w' B r.1.writes ∧ Below w.heap.size w w'
theorem wr_freshS {n : Nat} {S : Nat → Prop} {w W : World} {v : Value} {A B C : Option Addr} {x : Wr} {a b c : Nat} (h1 : Bs (From n) w A x.name) (h2 : Bs (From n) w B x.key) (h3 : Bs (From n) w C x.value) (g1 : x.name.length ≤ big) (g2 : x.key.length ≤ big) (g3 : x.value.length ≤ big) (hs : Same (From n) w W) (hS : ∀ b, From n b → S b ∧ v.ownBlock ≠ some b) :
    WrR (fun b => S b ∧ v.ownBlock ≠ some b) W [.slice A x.name.length a, .slice B x.key.length b, .bool x.flag, .slice C x.value.length c] x :=
  ⟨A, a, B, b, C, c, rfl, (h1.bsame hs).bless fun b _ h => hS b h, (h2.bsame hs).bless fun b _ h => hS b h, (h3.bsame hs).bless fun b _ h => hS b h, g1, g2, g3⟩
theorem wpl_snocG {P : Program} {α : Type} {R : (Nat → Prop) → World → List Value → α → Prop} (hR : Stays R) {S : Nat → Prop} (w : World) {ops : Array Oper} {rest : List Oper} {o : Oper} {a : Act} {Q : Exit → Act → World → Prop} (hgd : o.guard = none) (s x : Operand) (t : TypeId)
    (ho : o.op = .call { callee := .builtin .append, args := #[s, x], argTypes := #[t, t] })
    (base : Nat) (e : TypeId) (i : TypeInfo) (z : Value) (size bytes : Nat) (ht : P.underlying t = some (.slice e)) (hi : P.info? e = some i) (hz : i.zero = some z)
    (hsize : i.size = size) (hby : i.bytes = bytes) (hzs : z.cells.size = size) (hsz : 0 < size)
    (v : Value) (l : List α) (hs : a.eval s = v) (hown : Own size R S w base e v l)
    (A : Option Addr) (c : Nat) (cs : List Value) (hx : a.eval x = .slice A 1 c) (hl : cs.length = size) (hsrc : ∃ ad, A = some ad ∧ ∀ j u, cs[j]? = some u → w.cell? (ad.add j) = some u) (h1 : ∀ u ∈ cs, u.oneCell' = true)
    (h63 : l.length + 1 ≤ maxLen) (hbytes : (l.length + 1) * bytes ≤ 140737488355328) (hbase : base ≤ w.heap.size)
    (d : α) (hd : R (fun b => S b ∧ v.ownBlock ≠ some b) w cs d)
    (h : ∀ v' w', Own size R S w' base e v' (l ++ [d]) → Below base w w' → w.grownBy w' v.ownBlock → (v'.ownBlock = v.ownBlock ∨ v'.ownBlock = some w.heap.size) → wpList P ops Q rest (a.put o.dst v') w') : wpList P ops Q (o :: rest) a w := by
  obtain ⟨xs, hx1, hx2⟩ := hown
  exact wpl_app w hgd s x t ho base e i z size bytes ht hi hz hsize hby hzs hsz v l.length xs hs hx1 A 1 c cs hx (by omega) (fun _ => hsrc) h1 h63 hbytes hbase
    fun v' w' g1 g2 g3 => h v' w' (Own.snoc hR hx2 hx1 g1 g2 g3 hd hl) (own_below hx1 g2 hbase) g2 g3
theorem step_snocH {P : Program} {α : Type} {R : (Nat → Prop) → World → List Value → α → Prop} (hR : Stays R) {S : Nat → Prop} (w : World) {ops : Array Oper} {o : Oper} {a : Act} {K : Act → World → Prop} {Q : Exit → Act → World → Prop} {E : Prop} (hgd : o.guard = none) (s x : Operand) (t : TypeId)
    (ho : o.op = .call { callee := .builtin .append, args := #[s, x], argTypes := #[t, t] })
    (base : Nat) (e : TypeId) (i : TypeInfo) (z : Value) (size bytes : Nat) (ht : P.underlying t = some (.slice e)) (hi : P.info? e = some i) (hz : i.zero = some z)
    (hsize : i.size = size) (hby : i.bytes = bytes) (hzs : z.cells.size = size) (hsz : 0 < size)
    (v : Value) (l : List α) (hs : a.eval s = v) (hown : Own size R S w base e v l)
    (A : Option Addr) (c : Nat) (cs : List Value) (hx : a.eval x = .slice A 1 c) (hl : cs.length = size) (hsrc : ∃ ad, A = some ad ∧ ∀ j u, cs[j]? = some u → w.cell? (ad.add j) = some u) (h1 : ∀ u ∈ cs, u.oneCell' = true)
    (h63 : l.length + 1 ≤ maxLen) (hbytes : (l.length + 1) * bytes ≤ 140737488355328) (hbase : base ≤ w.heap.size)
    (d : α) (hd : R (fun b => S b ∧ v.ownBlock ≠ some b) w cs d)
    (h : ∀ v' w', Own size R S w' base e v' (l ++ [d]) → Below base w w' → w.grownBy w' v.ownBlock → (v'.ownBlock = v.ownBlock ∨ v'.ownBlock = some w.heap.size) → K (a.put o.dst v') w') : if Region.wanted o (yielded ops a.tmps) = true then Oper.wp P o a w K Q else E := by
  have hw : Region.wanted o (yielded ops a.tmps) = true := by simp [Region.wanted, hgd]
  rw [if_pos hw]
  obtain ⟨xs, hx1, hx2⟩ := hown
  exact wp_app w s x t ho base e i z size bytes ht hi hz hsize hby hzs hsz v l.length xs hs hx1 A 1 c cs hx (by omega) (fun _ => hsrc) h1 h63 hbytes hbase
    fun v' w' g1 g2 g3 => h v' w' (Own.snoc hR hx2 hx1 g1 g2 g3 hd hl) (own_below hx1 g2 hbase) g2 g3
theorem txn_small {t : Tx} (h : txnFaultS t = 0) : t.reads.length ≤ 20 ∧ t.writes.length ≤ 10 := by
  unfold txnFaultS at h
  split at h
  · cases h
  · split at h
    · cases h
    · omega

set_option maxRecDepth 100000 in
set_option maxHeartbeats 20000000 in
theorem noted_ok (w : World) (A B : Option Addr) (t : Tx) (n m : Nat) (P Q V : Option Addr) (r : Wr) (p q v : Nat) (ha : Ws All w A t.reads) (hb : Ws All w B t.writes) (hp : Bs All w P r.name) (hq : Bs All w Q r.key) (hv : Bs All w V r.value) (h1 : r.name.length ≤ big) (h2 : r.key.length ≤ big) (h3 : r.value.length ≤ big) :
    Calls Try.prog 71 #[.agg #[.int .i64 t.start, .slice A t.reads.length n, .slice B t.writes.length m], .agg #[.slice P r.name.length p, .slice Q r.key.length q, .bool r.flag, .slice V r.value.length v]] w (RetTxE w (noteS t r)) := by
  have Ha := Lib.hid ha
  have Hb := Lib.hid hb
  have Hp := Lib.hid hp
  have Hq := Lib.hid hq
  have Hv := Lib.hid hv
  clear ha hb hp hq hv
  obtain ⟨hx, hy, hz, hsz, hbl⟩ := alloc3 w (.cells #[.int .i64 t.start, .slice A t.reads.length n, .slice B t.writes.length m] 79) (.cells #[.slice P r.name.length p, .slice Q r.key.length q, .bool r.flag, .slice V r.value.length v] 88) (.cells #[.int .i64 0, .slice none 0 0, .slice none 0 0] 79)
  have Hx := Lib.hid hx
  have Hy := Lib.hid hy
  have Hz := Lib.hid hz
  have Hbl := Lib.hid hbl
  have Hsz := Lib.hid hsz
  clear hx hy hz hbl hsz
  obtain ⟨i0, hi0, hz0, hz1, hz2⟩ := info_parts info_rd
  by_cases g1 : txnFaultS t = 0
  · have b1 : (txnFaultS t == 0) = true := by simp [g1]
    have b1' : (txnFaultS t != 0) = false := by simp [g1]
    obtain ⟨h20, h10⟩ := txn_small g1
    by_cases g2 : readFaultS r = 0
    · have b2' : (readFaultS r != 0) = false := by simp [g2]
      have hbig : t.reads.length ≤ big := by unfold big; omega
      have hr80 : t.reads.length * 80 ≤ 140737488355328 := by omega
      have hw80 : t.writes.length * 80 ≤ 140737488355328 := by omega
      go_enter Try.func71, Try.ntmps71
      go_wp2_with (first
        | (go_at_call 65; refine (txnFault_ok _ A B t n m (Ha.out.below wrR_stays Hbl.out) (Hb.out.below wrR_stays Hbl.out)).mono ?_; rintro e w1 ⟨rfl, hb1⟩; have hzz := Hsz.out; have hs1 : w.heap.size + 3 ≤ w1.heap.size := (by have hq1 := hb1.size; rw [hzz] at hq1; exact hq1); have Hx1 := Lib.hid ((hb1.block w.heap.size (by rw [hzz]; omega)).trans Hx.out); have Hy1 := Lib.hid ((hb1.block (w.heap.size + 1) (by rw [hzz]; omega)).trans Hy.out); have Hz1 := Lib.hid ((hb1.block (w.heap.size + 2) (by rw [hzz]; omega)).trans Hz.out); have Hw1 := Lib.hid (Hbl.out.next hb1 (by rw [hzz]; omega)); obtain ⟨x0, x1, x2, _⟩ := box3 Hx1.out; obtain ⟨y0, y1, y2, y3, _⟩ := box4 Hy1.out; obtain ⟨z0, z1, z2, z3, z4, z5⟩ := box3 Hz1.out; clear hzz hb1)
        | (go_at_call 130; refine (readFault_ok _ P Q V r p q v).mono ?_; rintro e w2 ⟨rfl, hb2⟩; have hs2 := hb2.size; have Hx2 := Lib.hid ((hb2.block w.heap.size (by omega)).trans Hx1.out); have Hy2 := Lib.hid ((hb2.block (w.heap.size + 1) (by omega)).trans Hy1.out); have Hz2 := Lib.hid ((hb2.block (w.heap.size + 2) (by omega)).trans Hz1.out); have Hw2 := Lib.hid (Hw1.out.next hb2 (by omega)); clear x0 x1 x2 y0 y1 y2 y3 z0 z1 z2 z3 z4 z5; obtain ⟨x0, x1, x2, _⟩ := box3 Hx2.out; obtain ⟨y0, y1, y2, y3, _⟩ := box4 Hy2.out; obtain ⟨z0, z1, z2, z3, z4, z5⟩ := box3 Hz2.out; clear hb2)
        | (go_at_call 63; refine (txnCopy_own _ A B t n m (Ha.out.below wrR_stays Hw2.out) (Hb.out.below wrR_stays Hw2.out) hr80 hw80).mono ?_; rintro e w3 ⟨A3, n3, B3, m3, rfl, ho3, hb3⟩; have hs3 := hb3.size; have Hx3 := Lib.hid ((hb3.block w.heap.size (by omega)).trans Hx2.out); have Hy3 := Lib.hid ((hb3.block (w.heap.size + 1) (by omega)).trans Hy2.out); have Hz3 := Lib.hid ((hb3.block (w.heap.size + 2) (by omega)).trans Hz2.out); have Hw3 := Lib.hid (Hw2.out.next hb3 (by omega)); have Ho3 := Lib.hid ho3; clear x0 x1 x2 y0 y1 y2 y3 z0 z1 z2 z3 z4 z5 ho3 hb3))
      have Hb34 := Lib.hid (show Below w3.heap.size w3 (w3.alloc (.cells #[.int .i64 t.start, .slice A3 t.reads.length n3, .slice B3 t.writes.length m3] 79)) from (Below.refl _ _).alloc (Nat.le_refl _) _)
      have Hu4 := Lib.hid (box_new w3 #[.int .i64 t.start, .slice A3 t.reads.length n3, .slice B3 t.writes.length m3] 79)
      have Hs4 := Lib.hid (show (w3.alloc (.cells #[.int .i64 t.start, .slice A3 t.reads.length n3, .slice B3 t.writes.length m3] 79)).heap.size = w3.heap.size + 1 by simp)
      generalize w3.alloc (.cells #[.int .i64 t.start, .slice A3 t.reads.length n3, .slice B3 t.writes.length m3] 79) = w4 at *
      clear b1 b1' b2'
      have Hg1 := Lib.hid g1
      have Hg2 := Lib.hid g2
      clear g1 g2
      go_loopw [8] (fun i wr => ∃ k : Nat, k ≤ t.reads.length ∧ i = .int .i64 k ∧ (t.reads.take k).any (fun x => sameRd x r) = false ∧ Below w4.heap.size w4 wr) (fun i _ => t.reads.length - (intOf i).toNat)
      case atStart => exact ⟨0, by omega, rfl, rfl, Below.refl _ _⟩
      case round =>
        obtain ⟨k, hk, rfl, hno, hbel⟩ := hrel
        have Hno := Lib.hid hno
        have hbz := hbel.size
        have hs4 := Hs4.out
        have Hb3 := Lib.hid (Hb34.out.next hbel (by omega))
        have Hbw := Lib.hid (Hw3.out.next Hb3.out (by omega))
        have Hbel := Lib.hid hbel
        obtain ⟨x0, x1, x2, _⟩ := box3 ((Hb3.out.block _ (by omega)).trans Hx3.out)
        obtain ⟨y0, y1, y2, y3, _⟩ := box4 ((Hb3.out.block _ (by omega)).trans Hy3.out)
        obtain ⟨z0, z1, z2, z3, z4, z5⟩ := box3 ((Hb3.out.block _ (by omega)).trans Hz3.out)
        have Hu := Lib.hid ((hbel.block w3.heap.size (by omega)).trans Hu4.out)
        obtain ⟨o0, o1, o2, o3, o4, o5⟩ := box3 Hu.out
        clear hbel hno
        by_cases hlt : k < t.reads.length
        · obtain ⟨g, off, A1, a1, B1, b1, C1, c1, hX, _, hal, hc1, hc2, hc3, hc4, ht1, ht2, ht3, _, _, _⟩ := wrs_at (Ha.out.below wrR_stays Hbw.out) hlt
          subst hX
          have Hnext := Lib.hid (fun h => any_next (q := fun x => sameRd x r) hlt Hno.out h)
          have Hhere := Lib.hid (fun h => List.any_eq_true.2 ⟨t.reads[k], List.getElem_mem hlt, h⟩ : sameRd t.reads[k] r = true → t.reads.any (fun x => sameRd x r) = true)
          generalize t.reads[k] = x at *
          have Ht1 := Lib.hid ht1.bz
          have Ht2 := Lib.hid ht2.bz
          have Ht3 := Lib.hid ht3.bz
          have hi0' : (0 : Int) ≤ (k : Int) := by omega
          have hi1' : (k : Int) < (t.reads.length : Int) := by omega
          clear ht1 ht2 ht3
          rcases Bool.eq_false_or_eq_true (sameRd x r) with hq | hq
          · have Hv0 := Lib.hid (show noteS t r = (t, 0) by unfold noteS; rw [if_neg (by simpa using Hg1.out), if_neg (by simpa using Hg2.out), if_pos (Hhere.out hq)])
            go_wp2_with fail
            go_region_held3 (fun w' => w'.cell? ⟨w.heap.size, 1, none⟩ = some (.slice (some ⟨g, off, none⟩) t.reads.length n) ∧ w'.cell? ⟨w.heap.size + 1, 0, none⟩ = some (.slice P r.name.length p) ∧ w'.cell? ⟨w.heap.size + 1, 1, none⟩ = some (.slice Q r.key.length q) ∧ w'.cell? ⟨w.heap.size + 1, 2, none⟩ = some (.bool r.flag) ∧ w'.cell? ⟨w.heap.size + 1, 3, none⟩ = some (.slice V r.value.length v) ∧ w'.cell? ⟨g, off + k * 4, none⟩ = some (.slice A1 x.name.length a1) ∧ w'.cell? ⟨g, off + k * 4 + 1, none⟩ = some (.slice B1 x.key.length b1) ∧ w'.cell? ⟨g, off + k * 4 + 2, none⟩ = some (.bool x.flag) ∧ w'.cell? ⟨g, off + k * 4 + 3, none⟩ = some (.slice C1 x.value.length c1))
              (first
                | go_keep
                | (go_split_ands; refine ⟨?_, ?_, ?_, ?_, ?_, ?_, ?_, ?_, ?_⟩ <;> exact (hbw2.cell (by simp; omega)).trans (by assumption)))
              ((go_at_call 131; refine (refSameRead_ok _ A1 B1 C1 P Q V x r a1 b1 c1 p q v (Ht1.out.bsame (by repeat' (first | exact Same.refl _ _ | assumption | refine Same.drew ?_ | refine Same.drewN ?_ _ | refine Same.alloc ?_ _ | refine Same.setCell ?_ (fun hq => by simp only [From] at hq; first | omega | (simp at hq; done) | (simp at hq; omega)) _))) (Ht2.out.bsame (by repeat' (first | exact Same.refl _ _ | assumption | refine Same.drew ?_ | refine Same.drewN ?_ _ | refine Same.alloc ?_ _ | refine Same.setCell ?_ (fun hq => by simp only [From] at hq; first | omega | (simp at hq; done) | (simp at hq; omega)) _))) (Ht3.out.bsame (by repeat' (first | exact Same.refl _ _ | assumption | refine Same.drew ?_ | refine Same.drewN ?_ _ | refine Same.alloc ?_ _ | refine Same.setCell ?_ (fun hq => by simp only [From] at hq; first | omega | (simp at hq; done) | (simp at hq; omega)) _))) ((Hp.out.bbelow Hbw.out).bsame (by repeat' (first | exact Same.refl _ _ | assumption | refine Same.drew ?_ | refine Same.drewN ?_ _ | refine Same.alloc ?_ _ | refine Same.setCell ?_ (fun hq => by simp only [From] at hq; first | omega | (simp at hq; done) | (simp at hq; omega)) _))) ((Hq.out.bbelow Hbw.out).bsame (by repeat' (first | exact Same.refl _ _ | assumption | refine Same.drew ?_ | refine Same.drewN ?_ _ | refine Same.alloc ?_ _ | refine Same.setCell ?_ (fun hq => by simp only [From] at hq; first | omega | (simp at hq; done) | (simp at hq; omega)) _))) ((Hv.out.bbelow Hbw.out).bsame (by repeat' (first | exact Same.refl _ _ | assumption | refine Same.drew ?_ | refine Same.drewN ?_ _ | refine Same.alloc ?_ _ | refine Same.setCell ?_ (fun hq => by simp only [From] at hq; first | omega | (simp at hq; done) | (simp at hq; omega)) _)))).mono ?_; rintro e w5 ⟨rfl, hbw2⟩; rw [hq]))
            obtain ⟨o0, o1, o2, o3, o4, o5⟩ := box3 ((hbw2.block w3.heap.size (by simp; omega)).trans Hu.out)
            obtain ⟨z0, z1, z2, z3, z4, z5⟩ := box3 ((hbw2.block (w.heap.size + 2) (by simp; omega)).trans ((Hb3.out.block _ (by omega)).trans Hz3.out))
            have hz22 := hbw2.size
            simp at hz22
            go_wp2
            refine bodyPost_ret (v := .tuple #[.agg #[.int .i64 t.start, .slice A3 t.reads.length n3, .slice B3 t.writes.length m3], .int .i64 0]) (by simp [results, Try.results71, go_sem, z0, z1, z2]) rfl ?_
            rw [Hv0.out]
            have h5 : Below w3.heap.size w3 w5 := Hb3.out.drew.next hbw2 (by simp; omega)
            refine ⟨A3, n3, B3, m3, rfl, Ho3.out.1, Ho3.out.2.1, ?_, ?_, (((Hbw.out.drew.next hbw2 (by simp; omega)).setCell (by simp only []; omega) _).setCell (by simp only []; omega) _).setCell (by simp only []; omega) _⟩
            · refine (((Ho3.out.reads.less wrR_stays fun b _ h => h.1).below wrR_stays h5).same wrR_stays ?_).lo wrR_stays (by omega)
              exact ((((Same.refl _ _).setCell (fun h => by simp only [From] at h; omega) _).setCell (fun h => by simp only [From] at h; omega) _).setCell (fun h => by simp only [From] at h; omega) _)
            · refine (((Ho3.out.writes.less wrR_stays fun b _ h => h.1).below wrR_stays h5).same wrR_stays ?_).lo wrR_stays (by omega)
              exact ((((Same.refl _ _).setCell (fun h => by simp only [From] at h; omega) _).setCell (fun h => by simp only [From] at h; omega) _).setCell (fun h => by simp only [From] at h; omega) _)
          · have Hn := Lib.hid (Hnext.out hq)
            go_wp2_with fail
            go_region_held3 (fun w' => w'.cell? ⟨w.heap.size, 1, none⟩ = some (.slice (some ⟨g, off, none⟩) t.reads.length n) ∧ w'.cell? ⟨w.heap.size + 1, 0, none⟩ = some (.slice P r.name.length p) ∧ w'.cell? ⟨w.heap.size + 1, 1, none⟩ = some (.slice Q r.key.length q) ∧ w'.cell? ⟨w.heap.size + 1, 2, none⟩ = some (.bool r.flag) ∧ w'.cell? ⟨w.heap.size + 1, 3, none⟩ = some (.slice V r.value.length v) ∧ w'.cell? ⟨g, off + k * 4, none⟩ = some (.slice A1 x.name.length a1) ∧ w'.cell? ⟨g, off + k * 4 + 1, none⟩ = some (.slice B1 x.key.length b1) ∧ w'.cell? ⟨g, off + k * 4 + 2, none⟩ = some (.bool x.flag) ∧ w'.cell? ⟨g, off + k * 4 + 3, none⟩ = some (.slice C1 x.value.length c1))
              (first
                | go_keep
                | (go_split_ands; refine ⟨?_, ?_, ?_, ?_, ?_, ?_, ?_, ?_, ?_⟩ <;> exact (hbw2.cell (by simp; omega)).trans (by assumption)))
              ((go_at_call 131; refine (refSameRead_ok _ A1 B1 C1 P Q V x r a1 b1 c1 p q v (Ht1.out.bsame (by repeat' (first | exact Same.refl _ _ | assumption | refine Same.drew ?_ | refine Same.drewN ?_ _ | refine Same.alloc ?_ _ | refine Same.setCell ?_ (fun hq => by simp only [From] at hq; first | omega | (simp at hq; done) | (simp at hq; omega)) _))) (Ht2.out.bsame (by repeat' (first | exact Same.refl _ _ | assumption | refine Same.drew ?_ | refine Same.drewN ?_ _ | refine Same.alloc ?_ _ | refine Same.setCell ?_ (fun hq => by simp only [From] at hq; first | omega | (simp at hq; done) | (simp at hq; omega)) _))) (Ht3.out.bsame (by repeat' (first | exact Same.refl _ _ | assumption | refine Same.drew ?_ | refine Same.drewN ?_ _ | refine Same.alloc ?_ _ | refine Same.setCell ?_ (fun hq => by simp only [From] at hq; first | omega | (simp at hq; done) | (simp at hq; omega)) _))) ((Hp.out.bbelow Hbw.out).bsame (by repeat' (first | exact Same.refl _ _ | assumption | refine Same.drew ?_ | refine Same.drewN ?_ _ | refine Same.alloc ?_ _ | refine Same.setCell ?_ (fun hq => by simp only [From] at hq; first | omega | (simp at hq; done) | (simp at hq; omega)) _))) ((Hq.out.bbelow Hbw.out).bsame (by repeat' (first | exact Same.refl _ _ | assumption | refine Same.drew ?_ | refine Same.drewN ?_ _ | refine Same.alloc ?_ _ | refine Same.setCell ?_ (fun hq => by simp only [From] at hq; first | omega | (simp at hq; done) | (simp at hq; omega)) _))) ((Hv.out.bbelow Hbw.out).bsame (by repeat' (first | exact Same.refl _ _ | assumption | refine Same.drew ?_ | refine Same.drewN ?_ _ | refine Same.alloc ?_ _ | refine Same.setCell ?_ (fun hq => by simp only [From] at hq; first | omega | (simp at hq; done) | (simp at hq; omega)) _)))).mono ?_; rintro e w5 ⟨rfl, hbw2⟩; rw [hq]))
            go_wp2
            go_roundw
            case rel => exact ⟨k + 1, by omega, by go_num, Hn.out, Hbel.out.drew.next hbw2 (by simp; omega)⟩
            case measure => simp [intOf]; omega
        · obtain rfl : k = t.reads.length := by omega
          have hf := Hno.out
          rw [List.take_length] at hf
          by_cases g3 : t.reads.length = 20
          · have Hv0 := Lib.hid (show noteS t r = (zeroTx, 11) by unfold noteS; rw [if_neg (by simpa using Hg1.out), if_neg (by simpa using Hg2.out), if_neg (by rw [hf]; decide), if_pos g3])
            have b3 : ((t.reads.length : Int) == 20) = true := by rw [beq_iff_eq]; omega
            clear hf
            go_wp2
            refine bodyPost_ret (v := .tuple #[.agg #[.int .i64 0, .slice none 0 0, .slice none 0 0], .int .i64 (11)]) (by simp [results, Try.results71, go_sem, z0, z1, z2]) rfl ?_
            rw [Hv0.out]
            exact ⟨none, 0, none, 0, rfl, Nat.le_refl _, Nat.le_refl _, SL.nil, SL.nil, (((Hbw.out.setCell (by simp only []; omega) _).setCell (by simp only []; omega) _).setCell (by simp only []; omega) _)⟩
          · have Hv0 := Lib.hid (show noteS t r = (⟨t.start, t.reads ++ [r], t.writes⟩, 0) by unfold noteS; rw [if_neg (by simpa using Hg1.out), if_neg (by simpa using Hg2.out), if_neg (by rw [hf]; decide), if_neg g3])
            have b3 : ((t.reads.length : Int) == 20) = false := by rw [beq_eq_false_iff_ne]; omega
            have hlA := Ho3.out.2.2.1.blt
            have hlB := Ho3.out.2.2.2.1.blt
            have hab := Ho3.out.2.2.2.2
            clear hf g3
            go_wp2_with (first
              | (go_at_call 70; refine (readCopy_ok _ P Q V r p q v (Hp.out.bbelow Hbw.out) (Hq.out.bbelow Hbw.out) (Hv.out.bbelow Hbw.out) h1 h2 h3).mono ?_; rintro e w6 ⟨P6, p6, Q6, q6, V6, v6, rfl, gs1, gs2, gs3, hb6⟩; have hs6 := hb6.size; have Hu6 := Lib.hid ((hb6.block w3.heap.size (by omega)).trans Hu.out); have Hz6 := Lib.hid ((hb6.block (w.heap.size + 2) (by omega)).trans ((Hb3.out.block _ (by omega)).trans Hz3.out)); have Hb36 := Lib.hid (Hb3.out.next hb6 (by omega)); clear o0 o1 o2 o3 o4 o5 z0 z1 z2 z3 z4 z5; obtain ⟨o0, o1, o2, _⟩ := box3 Hu6.out; have ho6 : w3.heap.size < w6.heap.size := (by omega); have Hw6 := Lib.hid (Hbw.out.next hb6 (by omega)); clear hb6)
              | (at_builtin; refine wpl_snocG wrR_stays (S := fun b => (From w2.heap.size b ∧ blk B3 ≠ some b) ∧ b ≠ w3.heap.size) _ rfl _ _ _ rfl w2.heap.size 88 i0 _ 4 80 Try.underlying77 hi0 hz0 hz1 hz2 rfl (by decide) (.slice A3 t.reads.length n3) t.reads rfl ?hown _ _ [.slice P6 r.name.length p6, .slice Q6 r.key.length q6, .bool r.flag, .slice V6 r.value.length v6] rfl rfl (new_src _ _ [.slice P6 r.name.length p6, .slice Q6 r.key.length q6, .bool r.flag, .slice V6 r.value.length v6] _ (by simp)) (by simp [Value.oneCell']) ?hm ?hby ?hba r ?hd ?_; (case hown => exact Ho3.out.2.2.1.keep wrR_stays (T := fun b => b < w3.heap.size) (Same.of_lt ((Hb36.out.alloc (by omega) _).alloc (by simp; omega) _) (fun k h => h)) (fun b hb _ => hb) (fun b hb => (hlA b (by rw [own_blk] at hb; exact hb)).2) (fun b hb h => ⟨h, by omega⟩) (Nat.le_refl _)); (case hm => (simp only [maxLen]; omega)); (case hby => omega); (case hba => (simp; omega)); (case hd => (refine wr_freshS (n := wr.heap.size) gs1 gs2 gs3 h1 h2 h3 ?_ (fun b hb => ⟨⟨⟨by have hb' : wr.heap.size ≤ b := hb; show w2.heap.size ≤ b; omega, fun h => by have hb' : wr.heap.size ≤ b := hb; have := hlB b h; omega⟩, by have hb' : wr.heap.size ≤ b := hb; omega⟩, fun h => by have hb' : wr.heap.size ≤ b := hb; rw [own_blk] at h; have := hlA b h; omega⟩); repeat' (first | exact Same.refl _ _ | assumption | refine Same.drew ?_ | refine Same.drewN ?_ _ | refine Same.alloc ?_ _ | refine Same.setCell ?_ (fun hq => by simp only [From] at hq; first | omega | (simp at hq; done) | (simp at hq; omega)) _))); intro v8 w8 hown8 hbw8 hgr8 hat8; obtain ⟨A8, c8, rfl, hcap8, _⟩ : ∃ A c, v8 = .slice A (t.reads ++ [r]).length c ∧ (t.reads ++ [r]).length ≤ c ∧ True := (by obtain ⟨xs, hk1, _⟩ := hown8; rcases hk1.2 with ⟨hn, h0⟩ | ⟨g, cap, cur, hv, _, _, hcap, _⟩; (simp at h0); exact ⟨_, cap, hv, hcap, trivial⟩); have Hown8 := Lib.hid hown8; clear hown8; have hbx8 : w8.heap[w3.heap.size]? = some (.cells #[.int .i64 t.start, .slice A3 t.reads.length n3, .slice B3 t.writes.length m3] 79 (0, 0)) := (hgr8.block w3.heap.size (by simp; omega) (fun e => by rw [own_blk] at e; have := hlA _ e.symm; omega)).trans ((heap_alloc_old _ _ (by simp; omega)).trans ((heap_alloc_old _ _ ho6).trans Hu6.out)); obtain ⟨ge0, ge1, ge2, ge3, ge4, ge5⟩ := box3 hbx8; obtain ⟨z0, z1, z2, z3, z4, z5⟩ := box3 ((hbw8.block (w.heap.size + 2) (by omega)).trans ((heap_alloc_old _ _ (by simp; omega)).trans ((heap_alloc_old _ _ (by omega)).trans Hz6.out))); have hs8 := hgr8.size; simp at hs8; have hs8' : w.heap.size + 2 < w8.heap.size := (by omega); have hs8'' : w3.heap.size < w8.heap.size := (by omega); have hs8n : ¬ w3.heap.size = w.heap.size + 2 := (by omega); have hs8m : ¬ w.heap.size + 2 = w3.heap.size := (by omega)))
            have hl8 : (t.reads ++ [r]).length = t.reads.length + 1 := by simp
            refine bodyPost_ret (v := .tuple #[.agg #[.int .i64 t.start, .slice A8 (t.reads ++ [r]).length c8, .slice B3 t.writes.length m3], .int .i64 0]) (by simp [results, Try.results71, go_sem, z0, z1, z2, hs8n, hs8m]) rfl ?_
            rw [Hv0.out]
            have hlt8 := Hown8.out.blt
            refine ⟨A8, c8, B3, m3, rfl, hcap8, Ho3.out.2.1, ?_, ?_, ?_⟩
            · have hS : ∀ b, w2.heap.size ≤ b → blk A8 = some b → (From w2.heap.size b ∧ blk B3 ≠ some b) ∧ b ≠ w3.heap.size := fun b hb hA => by
                rw [own_blk, own_blk] at hat8
                rcases hat8 with h | h
                · rw [hA] at h
                  exact ⟨⟨hb, hab b h.symm⟩, by have := hlA b h.symm; omega⟩
                · rw [hA] at h
                  simp at h
                  exact ⟨⟨hb, fun hB => by have := hlB b hB; omega⟩, by omega⟩
              refine ((Hown8.out.sl wrR_stays hS).same wrR_stays ?_).less wrR_stays fun b _ h => by have h' : w2.heap.size ≤ b := h.1.1; show w.heap.size ≤ b; omega
              exact ((((Same.refl _ _).setCell (fun h => h.2 rfl) _).setCell (fun h => by have h' : w2.heap.size ≤ _ := h.1.1; simp only [] at h'; omega) _).setCell (fun h => by have h' : w2.heap.size ≤ _ := h.1.1; simp only [] at h'; omega) _).setCell (fun h => by have h' : w2.heap.size ≤ _ := h.1.1; simp only [] at h'; omega) _
            · have h7 : Ws (fun b => (From w2.heap.size b ∧ blk A3 ≠ some b) ∧ b < w3.heap.size) w3 B3 t.writes := Ho3.out.writes.less wrR_stays fun b hb h => ⟨h, hb⟩
              refine (h7.same wrR_stays ?_).less wrR_stays fun b _ h => by have h' : w2.heap.size ≤ b := h.1.1; show w.heap.size ≤ b; omega
              exact (((((((Same.of_below Hb36.out).alloc _).alloc _).grown hgr8 (fun k hk hs => hs.1.2 (by rw [own_blk] at hk; exact hk))).setCell (fun h => by have h' := h.2; simp only [] at h'; omega) _).setCell (fun h => by have h' : w2.heap.size ≤ _ := h.1.1; simp only [] at h'; omega) _).setCell (fun h => by have h' : w2.heap.size ≤ _ := h.1.1; simp only [] at h'; omega) _).setCell (fun h => by have h' : w2.heap.size ≤ _ := h.1.1; simp only [] at h'; omega) _
            · exact ((((((Hw6.out.alloc (by omega) _).alloc (by simp; omega) _).trans (hbw8.mono (by omega))).setCell (by simp only []; omega) _).setCell (by simp only []; omega) _).setCell (by simp only []; omega) _).setCell (by simp only []; omega) _
    · have b2' : (readFaultS r != 0) = true := by simpa using g2
      have Hv0 := Lib.hid (show noteS t r = (zeroTx, readFaultS r) by unfold noteS; rw [if_neg (by simpa using g1), if_pos g2])
      clear g1 g2
      go_enter Try.func71, Try.ntmps71
      go_wp2_with (first
        | (go_at_call 65; refine (txnFault_ok _ A B t n m (Ha.out.below wrR_stays Hbl.out) (Hb.out.below wrR_stays Hbl.out)).mono ?_; rintro e w1 ⟨rfl, hb1⟩; have hzz := Hsz.out; have hs1 : w.heap.size + 3 ≤ w1.heap.size := (by have hq1 := hb1.size; rw [hzz] at hq1; exact hq1); have Hx1 := Lib.hid ((hb1.block w.heap.size (by rw [hzz]; omega)).trans Hx.out); have Hy1 := Lib.hid ((hb1.block (w.heap.size + 1) (by rw [hzz]; omega)).trans Hy.out); have Hz1 := Lib.hid ((hb1.block (w.heap.size + 2) (by rw [hzz]; omega)).trans Hz.out); have Hw1 := Lib.hid (Hbl.out.next hb1 (by rw [hzz]; omega)); obtain ⟨x0, x1, x2, _⟩ := box3 Hx1.out; obtain ⟨y0, y1, y2, y3, _⟩ := box4 Hy1.out; obtain ⟨z0, z1, z2, z3, z4, z5⟩ := box3 Hz1.out; clear hzz hb1)
        | (go_at_call 130; refine (readFault_ok _ P Q V r p q v).mono ?_; rintro e w2 ⟨rfl, hb2⟩; have hs2 := hb2.size; have Hx2 := Lib.hid ((hb2.block w.heap.size (by omega)).trans Hx1.out); have Hy2 := Lib.hid ((hb2.block (w.heap.size + 1) (by omega)).trans Hy1.out); have Hz2 := Lib.hid ((hb2.block (w.heap.size + 2) (by omega)).trans Hz1.out); have Hw2 := Lib.hid (Hw1.out.next hb2 (by omega)); clear x0 x1 x2 y0 y1 y2 y3 z0 z1 z2 z3 z4 z5; obtain ⟨x0, x1, x2, _⟩ := box3 Hx2.out; obtain ⟨y0, y1, y2, y3, _⟩ := box4 Hy2.out; obtain ⟨z0, z1, z2, z3, z4, z5⟩ := box3 Hz2.out; clear hb2))
      refine bodyPost_ret (v := .tuple #[.agg #[.int .i64 0, .slice none 0 0, .slice none 0 0], .int .i64 (readFaultS r)]) (by simp [results, Try.results71, go_sem, z0, z1, z2]) rfl ?_
      rw [Hv0.out]
      exact ⟨none, 0, none, 0, rfl, Nat.le_refl _, Nat.le_refl _, SL.nil, SL.nil, (((Hw2.out.setCell (by simp only []; omega) _).setCell (by simp only []; omega) _).setCell (by simp only []; omega) _)⟩
  · have b1 : (txnFaultS t == 0) = false := by simpa using g1
    have b1' : (txnFaultS t != 0) = true := by simpa using g1
    have Hv0 := Lib.hid (show noteS t r = (zeroTx, txnFaultS t) by unfold noteS; rw [if_pos g1])
    clear g1
    go_enter Try.func71, Try.ntmps71
    go_wp2_with ((go_at_call 65; refine (txnFault_ok _ A B t n m (Ha.out.below wrR_stays Hbl.out) (Hb.out.below wrR_stays Hbl.out)).mono ?_; rintro e w1 ⟨rfl, hb1⟩; have hzz := Hsz.out; have hs1 : w.heap.size + 3 ≤ w1.heap.size := (by have hq1 := hb1.size; rw [hzz] at hq1; exact hq1); have Hx1 := Lib.hid ((hb1.block w.heap.size (by rw [hzz]; omega)).trans Hx.out); have Hy1 := Lib.hid ((hb1.block (w.heap.size + 1) (by rw [hzz]; omega)).trans Hy.out); have Hz1 := Lib.hid ((hb1.block (w.heap.size + 2) (by rw [hzz]; omega)).trans Hz.out); have Hw1 := Lib.hid (Hbl.out.next hb1 (by rw [hzz]; omega)); obtain ⟨x0, x1, x2, _⟩ := box3 Hx1.out; obtain ⟨y0, y1, y2, y3, _⟩ := box4 Hy1.out; obtain ⟨z0, z1, z2, z3, z4, z5⟩ := box3 Hz1.out; clear hzz hb1))
    refine bodyPost_ret (v := .tuple #[.agg #[.int .i64 0, .slice none 0 0, .slice none 0 0], .int .i64 (txnFaultS t)]) (by simp [results, Try.results71, go_sem, z0, z1, z2]) rfl ?_
    rw [Hv0.out]
    exact ⟨none, 0, none, 0, rfl, Nat.le_refl _, Nat.le_refl _, SL.nil, SL.nil, (((Hw1.out.setCell (by simp only []; omega) _).setCell (by simp only []; omega) _).setCell (by simp only []; omega) _)⟩
set_option maxRecDepth 100000 in
set_option maxHeartbeats 20000000 in
theorem note_app (w : World) (A B : Option Addr) (t : Tx) (n m : Nat) (P Q V : Option Addr) (r : Wr) (p q v : Nat) (ha : Ws All w A t.reads) (hb : Ws All w B t.writes) (hp : Bs All w P r.name) (hq : Bs All w Q r.key) (hv : Bs All w V r.value) (h1 : r.name.length ≤ big) (h2 : r.key.length ≤ big) (h3 : r.value.length ≤ big) (hcn : t.reads.length ≤ n) (hcm : t.writes.length ≤ m)
    (g1 : txnFaultS t = 0) (g2 : readFaultS r = 0) (g3 : t.reads.any (fun x => sameRd x r) = false) (g4 : ¬ t.reads.length = 20) :
    Calls Try.prog 69 #[.agg #[.int .i64 t.start, .slice A t.reads.length n, .slice B t.writes.length m], .agg #[.slice P r.name.length p, .slice Q r.key.length q, .bool r.flag, .slice V r.value.length v]] w (RetTxE w (noteS t r)) := by
  have Ha := Lib.hid ha
  have Hb := Lib.hid hb
  have Hp := Lib.hid hp
  have Hq := Lib.hid hq
  have Hv := Lib.hid hv
  clear ha hb hp hq hv
  obtain ⟨hx, hy, hz, hsz, hbl⟩ := alloc3 w (.cells #[.int .i64 t.start, .slice A t.reads.length n, .slice B t.writes.length m] 79) (.cells #[.slice P r.name.length p, .slice Q r.key.length q, .bool r.flag, .slice V r.value.length v] 88) (.cells #[.int .i64 0, .slice none 0 0, .slice none 0 0] 79)
  have Hx := Lib.hid hx
  have Hy := Lib.hid hy
  have Hz := Lib.hid hz
  have Hbl := Lib.hid hbl
  have Hsz := Lib.hid hsz
  clear hx hy hz hbl hsz
  obtain ⟨i0, hi0, hz0, hz1, hz2⟩ := info_parts info_rd
  have b1 : (txnFaultS t == 0) = true := by simp [g1]
  have b1' : (txnFaultS t != 0) = false := by simp [g1]
  obtain ⟨h20, h10⟩ := txn_small g1
  have b2' : (readFaultS r != 0) = false := by simp [g2]
  have hbig : t.reads.length ≤ big := by unfold big; omega
  have hr80 : t.reads.length * 80 ≤ 140737488355328 := by omega
  have hw80 : t.writes.length * 80 ≤ 140737488355328 := by omega
  have Hv0 := Lib.hid (show noteS t r = (⟨t.start, t.reads ++ [r], t.writes⟩, 0) by unfold noteS; rw [if_neg (by simpa using g1), if_neg (by simpa using g2), if_neg (by rw [g3]; decide), if_neg g4])
  have b3 : ((t.reads.length : Int) == 20) = false := by rw [beq_eq_false_iff_ne]; omega
  have Hany := Lib.hid g3
  clear g1 g2 g3
  go_enter Try.func69, Try.ntmps69
  go_wp2_with (first
    | (go_at_call 64; refine (txnCheck_ok _ A B t n m (Ha.out.below wrR_stays Hbl.out) (Hb.out.below wrR_stays Hbl.out) hcn hcm).mono ?_; rintro e w1 ⟨rfl, hb1⟩; have hzz := Hsz.out; have hs1 : w.heap.size + 3 ≤ w1.heap.size := (by have hq1 := hb1.size; rw [hzz] at hq1; exact hq1); have Hx1 := Lib.hid ((hb1.block w.heap.size (by rw [hzz]; omega)).trans Hx.out); have Hy1 := Lib.hid ((hb1.block (w.heap.size + 1) (by rw [hzz]; omega)).trans Hy.out); have Hz1 := Lib.hid ((hb1.block (w.heap.size + 2) (by rw [hzz]; omega)).trans Hz.out); have Hw1 := Lib.hid (Hbl.out.next hb1 (by rw [hzz]; omega)); obtain ⟨x0, x1, x2, _⟩ := box3 Hx1.out; obtain ⟨y0, y1, y2, y3, _⟩ := box4 Hy1.out; obtain ⟨z0, z1, z2, z3, z4, z5⟩ := box3 Hz1.out; clear hzz hb1)
    | (go_at_call 122; refine (shape_ok _ P Q V r p q v).mono ?_; rintro e w2 ⟨rfl, hb2⟩; have hs2 := hb2.size; have Hx2 := Lib.hid ((hb2.block w.heap.size (by omega)).trans Hx1.out); have Hy2 := Lib.hid ((hb2.block (w.heap.size + 1) (by omega)).trans Hy1.out); have Hz2 := Lib.hid ((hb2.block (w.heap.size + 2) (by omega)).trans Hz1.out); have Hw2 := Lib.hid (Hw1.out.next hb2 (by omega)); clear x0 x1 x2 y0 y1 y2 y3 z0 z1 z2 z3 z4 z5; obtain ⟨x0, x1, x2, _⟩ := box3 Hx2.out; obtain ⟨y0, y1, y2, y3, _⟩ := box4 Hy2.out; obtain ⟨z0, z1, z2, z3, z4, z5⟩ := box3 Hz2.out; clear hb2)
    | (go_at_call 137; refine (txnOwn_own _ A B t n m (Ha.out.below wrR_stays Hw2.out) (Hb.out.below wrR_stays Hw2.out) hr80 hw80).mono ?_; rintro e w3 ⟨A3, n3, B3, m3, rfl, ho3, hb3⟩; have hs3 := hb3.size; have Hx3 := Lib.hid ((hb3.block w.heap.size (by omega)).trans Hx2.out); have Hy3 := Lib.hid ((hb3.block (w.heap.size + 1) (by omega)).trans Hy2.out); have Hz3 := Lib.hid ((hb3.block (w.heap.size + 2) (by omega)).trans Hz2.out); have Hw3 := Lib.hid (Hw2.out.next hb3 (by omega)); have Ho3 := Lib.hid ho3; clear x0 x1 x2 y0 y1 y2 y3 z0 z1 z2 z3 z4 z5 ho3 hb3; obtain ⟨x0, x1, x2, _⟩ := box3 Hx3.out; obtain ⟨y0, y1, y2, y3, _⟩ := box4 Hy3.out; obtain ⟨z0, z1, z2, z3, z4, z5⟩ := box3 Hz3.out; have hs3a : w.heap.size + 2 < w3.heap.size := (by omega); have hs3c : w.heap.size < w3.heap.size := (by omega); have hs3d : w.heap.size + 1 < w3.heap.size := (by omega))
    | (go_at_call 123; refine (not1_has _ A t.reads n (w.heap.size + 1) P Q V r p q v ((Ha.out.below wrR_stays Hw3.out).below wrR_stays ((Below.refl _ _).alloc (Nat.le_refl _) _)) hbig ((Hp.out.bbelow Hw3.out).bbelow ((Below.refl _ _).alloc (Nat.le_refl _) _)) ((Hq.out.bbelow Hw3.out).bbelow ((Below.refl _ _).alloc (Nat.le_refl _) _)) ((Hv.out.bbelow Hw3.out).bbelow ((Below.refl _ _).alloc (Nat.le_refl _) _)) ((heap_alloc_old _ _ (by omega)).trans Hy3.out)).mono ?_; rintro e w5 ⟨rfl, hb5⟩; rw [Hany.out]; have hs5 : w3.heap.size + 1 ≤ w5.heap.size := (by have hq1 := hb5.size; simp at hq1; omega); have hb35 : Below w3.heap.size w3 w5 := ((Below.refl _ _).alloc (Nat.le_refl _) _).next hb5 (by simp); have Hb35 := Lib.hid hb35; have Hx5 := Lib.hid ((hb35.block _ (by omega)).trans Hx3.out); have Hy5 := Lib.hid ((hb35.block (w.heap.size + 1) (by omega)).trans Hy3.out); have Hz5 := Lib.hid ((hb35.block (w.heap.size + 2) (by omega)).trans Hz3.out); have Hu5 := Lib.hid ((hb5.block w3.heap.size (by simp)).trans (box_new w3 _ _)); have Hw5 := Lib.hid (Hw3.out.next hb35 (by omega)); clear hb5 hb35 x0 x1 x2 y0 y1 y2 y3 z0 z1 z2 z3 z4 z5; obtain ⟨x0, x1, x2, _⟩ := box3 Hx5.out; obtain ⟨y0, y1, y2, y3, _⟩ := box4 Hy5.out; obtain ⟨z0, z1, z2, z3, z4, z5⟩ := box3 Hz5.out; obtain ⟨o0, o1, o2, o3, o4, o5⟩ := box3 Hu5.out; have hs5a : w.heap.size + 2 < w5.heap.size := (by omega); have hs5b : w3.heap.size < w5.heap.size := (by omega); have hs5c : w.heap.size < w5.heap.size := (by omega); have hs5d : w.heap.size + 1 < w5.heap.size := (by omega)))
  have hlA := Ho3.out.2.2.1.blt
  have hlB := Ho3.out.2.2.2.1.blt
  have hab := Ho3.out.2.2.2.2
  clear b1 b1' b2' b3 x0 x1 x2
  go_region_law (first
    | (go_simp; go_at_call 139; (with_reducible refine (txnRead_ok _ P Q V r p q v ?h1 ?h2 ?h3 h1 h2 h3).mono ?_); (case h1 => exact (Hp.out.bbelow Hw5.out).bsame (by repeat' (first | exact Same.refl _ _ | assumption | refine Same.drew ?_ | refine Same.drewN ?_ _ | refine Same.alloc ?_ _ | refine Same.setCell ?_ (fun hq => by simp only [From] at hq; first | omega | (simp at hq; done) | (simp at hq; omega)) _))); (case h2 => exact (Hq.out.bbelow Hw5.out).bsame (by repeat' (first | exact Same.refl _ _ | assumption | refine Same.drew ?_ | refine Same.drewN ?_ _ | refine Same.alloc ?_ _ | refine Same.setCell ?_ (fun hq => by simp only [From] at hq; first | omega | (simp at hq; done) | (simp at hq; omega)) _))); (case h3 => exact (Hv.out.bbelow Hw5.out).bsame (by repeat' (first | exact Same.refl _ _ | assumption | refine Same.drew ?_ | refine Same.drewN ?_ _ | refine Same.alloc ?_ _ | refine Same.setCell ?_ (fun hq => by simp only [From] at hq; first | omega | (simp at hq; done) | (simp at hq; omega)) _))); rintro e w6 ⟨P6, p6, Q6, q6, V6, v6, rfl, gs1, gs2, gs3, hb6⟩; have hb56 : Below w5.heap.size w5 w6 := (Below.refl _ _).drew.next hb6 (by simp); have hs6 := hb56.size; have Hu6 := Lib.hid ((hb56.block w3.heap.size hs5b).trans Hu5.out); have Hz6 := Lib.hid ((hb56.block (w.heap.size + 2) hs5a).trans Hz5.out); have Hb36 := Lib.hid (Hb35.out.next hb56 (by omega)); obtain ⟨e0, e1, e2, _⟩ := box3 Hu6.out; have ho6 : w3.heap.size < w6.heap.size := (by omega); have Hw6 := Lib.hid (Hw5.out.next hb56 (by omega)); obtain ⟨f0, f1, f2, f3, _⟩ := box4 ((hb56.block (w.heap.size + 1) hs5d).trans Hy5.out))
    | (refine step_snocH wrR_stays (S := fun b => (From w2.heap.size b ∧ blk B3 ≠ some b) ∧ b ≠ w3.heap.size) _ rfl (.tmp 24) (.tmp 27) _ rfl w2.heap.size 88 i0 _ 4 80 Try.underlying77 hi0 hz0 hz1 hz2 rfl (by decide) (.slice A3 t.reads.length n3) t.reads ?hs ?hown (some ⟨w6.heap.size, 0, none⟩) 1 [.slice P6 r.name.length p6, .slice Q6 r.key.length q6, .bool r.flag, .slice V6 r.value.length v6] ?hx rfl (new_src w6 w6.heap.size [.slice P6 r.name.length p6, .slice Q6 r.key.length q6, .bool r.flag, .slice V6 r.value.length v6] _ rfl) (by simp [Value.oneCell']) ?hm ?hby ?hba r ?hd ?_; (case hs => (simp [Act.eval, Act.put])); (case hx => (simp [Act.eval, Act.put])); (case hown => exact Ho3.out.2.2.1.keep wrR_stays (T := fun b => b < w3.heap.size) (Same.of_lt (Hb36.out.alloc (by omega) _) (fun k h => h)) (fun b hb _ => hb) (fun b hb => (hlA b (by rw [own_blk] at hb; exact hb)).2) (fun b hb h => ⟨h, by omega⟩) (Nat.le_refl _)); (case hm => (simp only [maxLen]; omega)); (case hby => omega); (case hba => (simp; omega)); (case hd => (refine wr_freshS (n := w5.heap.size) (gs1.blo (by simp)) (gs2.blo (by simp)) (gs3.blo (by simp)) h1 h2 h3 ?_ (fun b hb => ⟨⟨⟨by have hb' : w5.heap.size ≤ b := hb; show w2.heap.size ≤ b; omega, fun h => by have hb' : w5.heap.size ≤ b := hb; have := hlB b h; omega⟩, by have hb' : w5.heap.size ≤ b := hb; omega⟩, fun h => by have hb' : w5.heap.size ≤ b := hb; rw [own_blk] at h; have := hlA b h; omega⟩); repeat' (first | exact Same.refl _ _ | assumption | refine Same.drew ?_ | refine Same.drewN ?_ _ | refine Same.alloc ?_ _ | refine Same.setCell ?_ (fun hq => by simp only [From] at hq; first | omega | (simp at hq; done) | (simp at hq; omega)) _))); intro v8 w8 hown8 hbw8 hgr8 hat8; obtain ⟨A8, c8, rfl, hcap8, _⟩ : ∃ A c, v8 = .slice A (t.reads ++ [r]).length c ∧ (t.reads ++ [r]).length ≤ c ∧ True := (by obtain ⟨xs, hk1, _⟩ := hown8; rcases hk1.2 with ⟨hn, h0⟩ | ⟨g, cap, cur, hv, _, _, hcap, _⟩; (simp at h0); exact ⟨_, cap, hv, hcap, trivial⟩); have Hown8 := Lib.hid hown8; clear hown8; have hbx8 : w8.heap[w3.heap.size]? = some (.cells #[.int .i64 t.start, .slice A3 t.reads.length n3, .slice B3 t.writes.length m3] 79 (0, 0)) := (hgr8.block w3.heap.size (by simp; omega) (fun e => by rw [own_blk] at e; have := hlA _ e.symm; omega)).trans ((heap_alloc_old _ _ ho6).trans Hu6.out); obtain ⟨ge0, ge1, ge2, ge3, ge4, ge5⟩ := box3 hbx8; obtain ⟨k0, k1, k2, k3, k4, k5⟩ := box3 ((hbw8.block (w.heap.size + 2) (by omega)).trans ((heap_alloc_old _ _ (by omega)).trans Hz6.out)); have hs8 := hgr8.size; simp at hs8; have hs8' : w.heap.size + 2 < w8.heap.size := (by omega); have hs8'' : w3.heap.size < w8.heap.size := (by omega); have hs8n : ¬ w3.heap.size = w.heap.size + 2 := (by omega); have hs8m : ¬ w.heap.size + 2 = w3.heap.size := (by omega)))
  all_goals
    go_wp2
    have hl8 : (t.reads ++ [r]).length = t.reads.length + 1 := by simp
    refine bodyPost_ret (v := .tuple #[.agg #[.int .i64 t.start, .slice A8 (t.reads ++ [r]).length c8, .slice B3 t.writes.length m3], .int .i64 0]) (by simp [results, Try.results69, go_sem, k0, k1, k2, hs8n, hs8m]) rfl ?_
    rw [Hv0.out]
    have hlt8 := Hown8.out.blt
    have hat8' : ∀ b, blk A8 = some b → blk A3 = some b ∨ w5.heap.size ≤ b := fun b hb => by
      rw [own_blk, own_blk, hb] at hat8
      rcases hat8 with h | h
      · exact .inl h.symm
      · simp at h
        exact .inr (by omega)
    refine ⟨A8, c8, B3, m3, rfl, hcap8, Ho3.out.2.1, ?_, ?_, ?_⟩
    · have hS : ∀ b, w2.heap.size ≤ b → blk A8 = some b → (From w2.heap.size b ∧ blk B3 ≠ some b) ∧ b ≠ w3.heap.size := fun b hb hA => by
        rcases hat8' b hA with h | h
        · exact ⟨⟨hb, hab b h⟩, by have := hlA b h; omega⟩
        · exact ⟨⟨hb, fun hB => by have := hlB b hB; omega⟩, by omega⟩
      refine ((Hown8.out.sl wrR_stays hS).same wrR_stays ?_).less wrR_stays fun b _ h => by have h' : w2.heap.size ≤ b := h.1.1; show w.heap.size ≤ b; omega
      exact ((((Same.refl _ _).setCell (fun h => h.2 rfl) _).setCell (fun h => by have h' : w2.heap.size ≤ _ := h.1.1; simp only [] at h'; omega) _).setCell (fun h => by have h' : w2.heap.size ≤ _ := h.1.1; simp only [] at h'; omega) _).setCell (fun h => by have h' : w2.heap.size ≤ _ := h.1.1; simp only [] at h'; omega) _
    · have h7 : Ws (fun b => (From w2.heap.size b ∧ blk A3 ≠ some b) ∧ b < w3.heap.size) w3 B3 t.writes := Ho3.out.writes.less wrR_stays fun b hb h => ⟨h, hb⟩
      refine (h7.same wrR_stays ?_).less wrR_stays fun b _ h => by have h' : w2.heap.size ≤ b := h.1.1; show w.heap.size ≤ b; omega
      exact ((((((Same.of_below Hb36.out).alloc _).grown hgr8 (fun k hk hs => hs.1.2 (by rw [own_blk] at hk; exact hk))).setCell (fun h => by have h' := h.2; simp only [] at h'; omega) _).setCell (fun h => by have h' : w2.heap.size ≤ _ := h.1.1; simp only [] at h'; omega) _).setCell (fun h => by have h' : w2.heap.size ≤ _ := h.1.1; simp only [] at h'; omega) _).setCell (fun h => by have h' : w2.heap.size ≤ _ := h.1.1; simp only [] at h'; omega) _
    · exact (((((Hw6.out.alloc (by omega) _).trans (hbw8.mono (by omega))).setCell (by simp only []; omega) _).setCell (by simp only []; omega) _).setCell (by simp only []; omega) _).setCell (by simp only []; omega) _
set_option maxRecDepth 100000 in
set_option maxHeartbeats 20000000 in
theorem note_ok (w : World) (A B : Option Addr) (t : Tx) (n m : Nat) (P Q V : Option Addr) (r : Wr) (p q v : Nat) (ha : Ws All w A t.reads) (hb : Ws All w B t.writes) (hp : Bs All w P r.name) (hq : Bs All w Q r.key) (hv : Bs All w V r.value) (h1 : r.name.length ≤ big) (h2 : r.key.length ≤ big) (h3 : r.value.length ≤ big) (hcn : t.reads.length ≤ n) (hcm : t.writes.length ≤ m) :
    Calls Try.prog 69 #[.agg #[.int .i64 t.start, .slice A t.reads.length n, .slice B t.writes.length m], .agg #[.slice P r.name.length p, .slice Q r.key.length q, .bool r.flag, .slice V r.value.length v]] w (RetTxE w (noteS t r)) := by
  have Ha := Lib.hid ha
  have Hb := Lib.hid hb
  have Hp := Lib.hid hp
  have Hq := Lib.hid hq
  have Hv := Lib.hid hv
  clear ha hb hp hq hv
  obtain ⟨hx, hy, hz, hsz, hbl⟩ := alloc3 w (.cells #[.int .i64 t.start, .slice A t.reads.length n, .slice B t.writes.length m] 79) (.cells #[.slice P r.name.length p, .slice Q r.key.length q, .bool r.flag, .slice V r.value.length v] 88) (.cells #[.int .i64 0, .slice none 0 0, .slice none 0 0] 79)
  have Hx := Lib.hid hx
  have Hy := Lib.hid hy
  have Hz := Lib.hid hz
  have Hbl := Lib.hid hbl
  have Hsz := Lib.hid hsz
  clear hx hy hz hbl hsz
  obtain ⟨i0, hi0, hz0, hz1, hz2⟩ := info_parts info_rd
  by_cases g1 : txnFaultS t = 0
  · have b1 : (txnFaultS t == 0) = true := by simp [g1]
    have b1' : (txnFaultS t != 0) = false := by simp [g1]
    obtain ⟨h20, h10⟩ := txn_small g1
    by_cases g2 : readFaultS r = 0
    · have b2' : (readFaultS r != 0) = false := by simp [g2]
      have hbig : t.reads.length ≤ big := by unfold big; omega
      have hr80 : t.reads.length * 80 ≤ 140737488355328 := by omega
      have hw80 : t.writes.length * 80 ≤ 140737488355328 := by omega
      by_cases g3 : t.reads.any (fun x => sameRd x r) = true
      · have Hv0 := Lib.hid (show noteS t r = (t, 0) by unfold noteS; rw [if_neg (by simpa using g1), if_neg (by simpa using g2), if_pos g3])
        have Hany := Lib.hid g3
        clear g1 g2 g3
        go_enter Try.func69, Try.ntmps69
        go_wp2_with (first
          | (go_at_call 64; refine (txnCheck_ok _ A B t n m (Ha.out.below wrR_stays Hbl.out) (Hb.out.below wrR_stays Hbl.out) hcn hcm).mono ?_; rintro e w1 ⟨rfl, hb1⟩; have hzz := Hsz.out; have hs1 : w.heap.size + 3 ≤ w1.heap.size := (by have hq1 := hb1.size; rw [hzz] at hq1; exact hq1); have Hx1 := Lib.hid ((hb1.block w.heap.size (by rw [hzz]; omega)).trans Hx.out); have Hy1 := Lib.hid ((hb1.block (w.heap.size + 1) (by rw [hzz]; omega)).trans Hy.out); have Hz1 := Lib.hid ((hb1.block (w.heap.size + 2) (by rw [hzz]; omega)).trans Hz.out); have Hw1 := Lib.hid (Hbl.out.next hb1 (by rw [hzz]; omega)); obtain ⟨x0, x1, x2, _⟩ := box3 Hx1.out; obtain ⟨y0, y1, y2, y3, _⟩ := box4 Hy1.out; obtain ⟨z0, z1, z2, z3, z4, z5⟩ := box3 Hz1.out; clear hzz hb1)
          | (go_at_call 122; refine (shape_ok _ P Q V r p q v).mono ?_; rintro e w2 ⟨rfl, hb2⟩; have hs2 := hb2.size; have Hx2 := Lib.hid ((hb2.block w.heap.size (by omega)).trans Hx1.out); have Hy2 := Lib.hid ((hb2.block (w.heap.size + 1) (by omega)).trans Hy1.out); have Hz2 := Lib.hid ((hb2.block (w.heap.size + 2) (by omega)).trans Hz1.out); have Hw2 := Lib.hid (Hw1.out.next hb2 (by omega)); clear x0 x1 x2 y0 y1 y2 y3 z0 z1 z2 z3 z4 z5; obtain ⟨x0, x1, x2, _⟩ := box3 Hx2.out; obtain ⟨y0, y1, y2, y3, _⟩ := box4 Hy2.out; obtain ⟨z0, z1, z2, z3, z4, z5⟩ := box3 Hz2.out; clear hb2)
          | (go_at_call 137; refine (txnOwn_own _ A B t n m (Ha.out.below wrR_stays Hw2.out) (Hb.out.below wrR_stays Hw2.out) hr80 hw80).mono ?_; rintro e w3 ⟨A3, n3, B3, m3, rfl, ho3, hb3⟩; have hs3 := hb3.size; have Hx3 := Lib.hid ((hb3.block w.heap.size (by omega)).trans Hx2.out); have Hy3 := Lib.hid ((hb3.block (w.heap.size + 1) (by omega)).trans Hy2.out); have Hz3 := Lib.hid ((hb3.block (w.heap.size + 2) (by omega)).trans Hz2.out); have Hw3 := Lib.hid (Hw2.out.next hb3 (by omega)); have Ho3 := Lib.hid ho3; clear x0 x1 x2 y0 y1 y2 y3 z0 z1 z2 z3 z4 z5 ho3 hb3; obtain ⟨x0, x1, x2, _⟩ := box3 Hx3.out; obtain ⟨y0, y1, y2, y3, _⟩ := box4 Hy3.out; obtain ⟨z0, z1, z2, z3, z4, z5⟩ := box3 Hz3.out; have hs3a : w.heap.size + 2 < w3.heap.size := (by omega); have hs3c : w.heap.size < w3.heap.size := (by omega); have hs3d : w.heap.size + 1 < w3.heap.size := (by omega))
          | (go_at_call 123; refine (not1_has _ A t.reads n (w.heap.size + 1) P Q V r p q v ((Ha.out.below wrR_stays Hw3.out).below wrR_stays ((Below.refl _ _).alloc (Nat.le_refl _) _)) hbig ((Hp.out.bbelow Hw3.out).bbelow ((Below.refl _ _).alloc (Nat.le_refl _) _)) ((Hq.out.bbelow Hw3.out).bbelow ((Below.refl _ _).alloc (Nat.le_refl _) _)) ((Hv.out.bbelow Hw3.out).bbelow ((Below.refl _ _).alloc (Nat.le_refl _) _)) ((heap_alloc_old _ _ (by omega)).trans Hy3.out)).mono ?_; rintro e w5 ⟨rfl, hb5⟩; rw [Hany.out]; have hs5 : w3.heap.size + 1 ≤ w5.heap.size := (by have hq1 := hb5.size; simp at hq1; omega); have hb35 : Below w3.heap.size w3 w5 := ((Below.refl _ _).alloc (Nat.le_refl _) _).next hb5 (by simp); have Hb35 := Lib.hid hb35; have Hx5 := Lib.hid ((hb35.block _ (by omega)).trans Hx3.out); have Hy5 := Lib.hid ((hb35.block (w.heap.size + 1) (by omega)).trans Hy3.out); have Hz5 := Lib.hid ((hb35.block (w.heap.size + 2) (by omega)).trans Hz3.out); have Hu5 := Lib.hid ((hb5.block w3.heap.size (by simp)).trans (box_new w3 _ _)); have Hw5 := Lib.hid (Hw3.out.next hb35 (by omega)); clear hb5 hb35 x0 x1 x2 y0 y1 y2 y3 z0 z1 z2 z3 z4 z5; obtain ⟨x0, x1, x2, _⟩ := box3 Hx5.out; obtain ⟨y0, y1, y2, y3, _⟩ := box4 Hy5.out; obtain ⟨z0, z1, z2, z3, z4, z5⟩ := box3 Hz5.out; obtain ⟨o0, o1, o2, o3, o4, o5⟩ := box3 Hu5.out; have hs5a : w.heap.size + 2 < w5.heap.size := (by omega); have hs5b : w3.heap.size < w5.heap.size := (by omega); have hs5c : w.heap.size < w5.heap.size := (by omega); have hs5d : w.heap.size + 1 < w5.heap.size := (by omega)))
        refine bodyPost_ret (v := .tuple #[.agg #[.int .i64 t.start, .slice A3 t.reads.length n3, .slice B3 t.writes.length m3], .int .i64 0]) (by simp [results, Try.results69, go_sem, z0, z1, z2]) rfl ?_
        rw [Hv0.out]
        refine ⟨A3, n3, B3, m3, rfl, Ho3.out.1, Ho3.out.2.1, ?_, ?_, ((Hw5.out.setCell (by simp only []; omega) _).setCell (by simp only []; omega) _).setCell (by simp only []; omega) _⟩
        · refine (((Ho3.out.reads.less wrR_stays fun b _ h => h.1).below wrR_stays Hb35.out).same wrR_stays ?_).lo wrR_stays (by omega)
          exact ((((Same.refl _ _).setCell (fun h => by simp only [From] at h; omega) _).setCell (fun h => by simp only [From] at h; omega) _).setCell (fun h => by simp only [From] at h; omega) _)
        · refine (((Ho3.out.writes.less wrR_stays fun b _ h => h.1).below wrR_stays Hb35.out).same wrR_stays ?_).lo wrR_stays (by omega)
          exact ((((Same.refl _ _).setCell (fun h => by simp only [From] at h; omega) _).setCell (fun h => by simp only [From] at h; omega) _).setCell (fun h => by simp only [From] at h; omega) _)
      · have Hany := Lib.hid (show t.reads.any (fun x => sameRd x r) = false by simpa using g3)
        by_cases g4 : t.reads.length = 20
        · have Hv0 := Lib.hid (show noteS t r = (zeroTx, 11) by unfold noteS; rw [if_neg (by simpa using g1), if_neg (by simpa using g2), if_neg g3, if_pos g4])
          have b3 : ((t.reads.length : Int) == 20) = true := by rw [beq_iff_eq]; omega
          clear g1 g2 g3 g4
          go_enter Try.func69, Try.ntmps69
          go_wp2_with (first
            | (go_at_call 64; refine (txnCheck_ok _ A B t n m (Ha.out.below wrR_stays Hbl.out) (Hb.out.below wrR_stays Hbl.out) hcn hcm).mono ?_; rintro e w1 ⟨rfl, hb1⟩; have hzz := Hsz.out; have hs1 : w.heap.size + 3 ≤ w1.heap.size := (by have hq1 := hb1.size; rw [hzz] at hq1; exact hq1); have Hx1 := Lib.hid ((hb1.block w.heap.size (by rw [hzz]; omega)).trans Hx.out); have Hy1 := Lib.hid ((hb1.block (w.heap.size + 1) (by rw [hzz]; omega)).trans Hy.out); have Hz1 := Lib.hid ((hb1.block (w.heap.size + 2) (by rw [hzz]; omega)).trans Hz.out); have Hw1 := Lib.hid (Hbl.out.next hb1 (by rw [hzz]; omega)); obtain ⟨x0, x1, x2, _⟩ := box3 Hx1.out; obtain ⟨y0, y1, y2, y3, _⟩ := box4 Hy1.out; obtain ⟨z0, z1, z2, z3, z4, z5⟩ := box3 Hz1.out; clear hzz hb1)
            | (go_at_call 122; refine (shape_ok _ P Q V r p q v).mono ?_; rintro e w2 ⟨rfl, hb2⟩; have hs2 := hb2.size; have Hx2 := Lib.hid ((hb2.block w.heap.size (by omega)).trans Hx1.out); have Hy2 := Lib.hid ((hb2.block (w.heap.size + 1) (by omega)).trans Hy1.out); have Hz2 := Lib.hid ((hb2.block (w.heap.size + 2) (by omega)).trans Hz1.out); have Hw2 := Lib.hid (Hw1.out.next hb2 (by omega)); clear x0 x1 x2 y0 y1 y2 y3 z0 z1 z2 z3 z4 z5; obtain ⟨x0, x1, x2, _⟩ := box3 Hx2.out; obtain ⟨y0, y1, y2, y3, _⟩ := box4 Hy2.out; obtain ⟨z0, z1, z2, z3, z4, z5⟩ := box3 Hz2.out; clear hb2)
            | (go_at_call 137; refine (txnOwn_own _ A B t n m (Ha.out.below wrR_stays Hw2.out) (Hb.out.below wrR_stays Hw2.out) hr80 hw80).mono ?_; rintro e w3 ⟨A3, n3, B3, m3, rfl, ho3, hb3⟩; have hs3 := hb3.size; have Hx3 := Lib.hid ((hb3.block w.heap.size (by omega)).trans Hx2.out); have Hy3 := Lib.hid ((hb3.block (w.heap.size + 1) (by omega)).trans Hy2.out); have Hz3 := Lib.hid ((hb3.block (w.heap.size + 2) (by omega)).trans Hz2.out); have Hw3 := Lib.hid (Hw2.out.next hb3 (by omega)); have Ho3 := Lib.hid ho3; clear x0 x1 x2 y0 y1 y2 y3 z0 z1 z2 z3 z4 z5 ho3 hb3; obtain ⟨x0, x1, x2, _⟩ := box3 Hx3.out; obtain ⟨y0, y1, y2, y3, _⟩ := box4 Hy3.out; obtain ⟨z0, z1, z2, z3, z4, z5⟩ := box3 Hz3.out; have hs3a : w.heap.size + 2 < w3.heap.size := (by omega); have hs3c : w.heap.size < w3.heap.size := (by omega); have hs3d : w.heap.size + 1 < w3.heap.size := (by omega))
            | (go_at_call 123; refine (not1_has _ A t.reads n (w.heap.size + 1) P Q V r p q v ((Ha.out.below wrR_stays Hw3.out).below wrR_stays ((Below.refl _ _).alloc (Nat.le_refl _) _)) hbig ((Hp.out.bbelow Hw3.out).bbelow ((Below.refl _ _).alloc (Nat.le_refl _) _)) ((Hq.out.bbelow Hw3.out).bbelow ((Below.refl _ _).alloc (Nat.le_refl _) _)) ((Hv.out.bbelow Hw3.out).bbelow ((Below.refl _ _).alloc (Nat.le_refl _) _)) ((heap_alloc_old _ _ (by omega)).trans Hy3.out)).mono ?_; rintro e w5 ⟨rfl, hb5⟩; rw [Hany.out]; have hs5 : w3.heap.size + 1 ≤ w5.heap.size := (by have hq1 := hb5.size; simp at hq1; omega); have hb35 : Below w3.heap.size w3 w5 := ((Below.refl _ _).alloc (Nat.le_refl _) _).next hb5 (by simp); have Hb35 := Lib.hid hb35; have Hx5 := Lib.hid ((hb35.block _ (by omega)).trans Hx3.out); have Hy5 := Lib.hid ((hb35.block (w.heap.size + 1) (by omega)).trans Hy3.out); have Hz5 := Lib.hid ((hb35.block (w.heap.size + 2) (by omega)).trans Hz3.out); have Hu5 := Lib.hid ((hb5.block w3.heap.size (by simp)).trans (box_new w3 _ _)); have Hw5 := Lib.hid (Hw3.out.next hb35 (by omega)); clear hb5 hb35 x0 x1 x2 y0 y1 y2 y3 z0 z1 z2 z3 z4 z5; obtain ⟨x0, x1, x2, _⟩ := box3 Hx5.out; obtain ⟨y0, y1, y2, y3, _⟩ := box4 Hy5.out; obtain ⟨z0, z1, z2, z3, z4, z5⟩ := box3 Hz5.out; obtain ⟨o0, o1, o2, o3, o4, o5⟩ := box3 Hu5.out; have hs5a : w.heap.size + 2 < w5.heap.size := (by omega); have hs5b : w3.heap.size < w5.heap.size := (by omega); have hs5c : w.heap.size < w5.heap.size := (by omega); have hs5d : w.heap.size + 1 < w5.heap.size := (by omega)))
          refine bodyPost_ret (v := .tuple #[.agg #[.int .i64 0, .slice none 0 0, .slice none 0 0], .int .i64 (11)]) (by simp [results, Try.results69, go_sem, z0, z1, z2]) rfl ?_
          rw [Hv0.out]
          exact ⟨none, 0, none, 0, rfl, Nat.le_refl _, Nat.le_refl _, SL.nil, SL.nil, (((Hw5.out.setCell (by simp only []; omega) _).setCell (by simp only []; omega) _).setCell (by simp only []; omega) _)⟩
        · exact note_app w A B t n m P Q V r p q v Ha.out Hb.out Hp.out Hq.out Hv.out h1 h2 h3 hcn hcm g1 g2 (by simpa using g3) g4
    · have b2' : (readFaultS r != 0) = true := by simpa using g2
      have Hv0 := Lib.hid (show noteS t r = (zeroTx, readFaultS r) by unfold noteS; rw [if_neg (by simpa using g1), if_pos g2])
      clear g1 g2
      go_enter Try.func69, Try.ntmps69
      go_wp2_with (first
        | (go_at_call 64; refine (txnCheck_ok _ A B t n m (Ha.out.below wrR_stays Hbl.out) (Hb.out.below wrR_stays Hbl.out) hcn hcm).mono ?_; rintro e w1 ⟨rfl, hb1⟩; have hzz := Hsz.out; have hs1 : w.heap.size + 3 ≤ w1.heap.size := (by have hq1 := hb1.size; rw [hzz] at hq1; exact hq1); have Hx1 := Lib.hid ((hb1.block w.heap.size (by rw [hzz]; omega)).trans Hx.out); have Hy1 := Lib.hid ((hb1.block (w.heap.size + 1) (by rw [hzz]; omega)).trans Hy.out); have Hz1 := Lib.hid ((hb1.block (w.heap.size + 2) (by rw [hzz]; omega)).trans Hz.out); have Hw1 := Lib.hid (Hbl.out.next hb1 (by rw [hzz]; omega)); obtain ⟨x0, x1, x2, _⟩ := box3 Hx1.out; obtain ⟨y0, y1, y2, y3, _⟩ := box4 Hy1.out; obtain ⟨z0, z1, z2, z3, z4, z5⟩ := box3 Hz1.out; clear hzz hb1)
        | (go_at_call 122; refine (shape_ok _ P Q V r p q v).mono ?_; rintro e w2 ⟨rfl, hb2⟩; have hs2 := hb2.size; have Hx2 := Lib.hid ((hb2.block w.heap.size (by omega)).trans Hx1.out); have Hy2 := Lib.hid ((hb2.block (w.heap.size + 1) (by omega)).trans Hy1.out); have Hz2 := Lib.hid ((hb2.block (w.heap.size + 2) (by omega)).trans Hz1.out); have Hw2 := Lib.hid (Hw1.out.next hb2 (by omega)); clear x0 x1 x2 y0 y1 y2 y3 z0 z1 z2 z3 z4 z5; obtain ⟨x0, x1, x2, _⟩ := box3 Hx2.out; obtain ⟨y0, y1, y2, y3, _⟩ := box4 Hy2.out; obtain ⟨z0, z1, z2, z3, z4, z5⟩ := box3 Hz2.out; clear hb2))
      refine bodyPost_ret (v := .tuple #[.agg #[.int .i64 0, .slice none 0 0, .slice none 0 0], .int .i64 (readFaultS r)]) (by simp [results, Try.results69, go_sem, z0, z1, z2]) rfl ?_
      rw [Hv0.out]
      exact ⟨none, 0, none, 0, rfl, Nat.le_refl _, Nat.le_refl _, SL.nil, SL.nil, (((Hw2.out.setCell (by simp only []; omega) _).setCell (by simp only []; omega) _).setCell (by simp only []; omega) _)⟩
  · have b1 : (txnFaultS t == 0) = false := by simpa using g1
    have b1' : (txnFaultS t != 0) = true := by simpa using g1
    have Hv0 := Lib.hid (show noteS t r = (zeroTx, txnFaultS t) by unfold noteS; rw [if_pos g1])
    clear g1
    go_enter Try.func69, Try.ntmps69
    go_wp2_with ((go_at_call 64; refine (txnCheck_ok _ A B t n m (Ha.out.below wrR_stays Hbl.out) (Hb.out.below wrR_stays Hbl.out) hcn hcm).mono ?_; rintro e w1 ⟨rfl, hb1⟩; have hzz := Hsz.out; have hs1 : w.heap.size + 3 ≤ w1.heap.size := (by have hq1 := hb1.size; rw [hzz] at hq1; exact hq1); have Hx1 := Lib.hid ((hb1.block w.heap.size (by rw [hzz]; omega)).trans Hx.out); have Hy1 := Lib.hid ((hb1.block (w.heap.size + 1) (by rw [hzz]; omega)).trans Hy.out); have Hz1 := Lib.hid ((hb1.block (w.heap.size + 2) (by rw [hzz]; omega)).trans Hz.out); have Hw1 := Lib.hid (Hbl.out.next hb1 (by rw [hzz]; omega)); obtain ⟨x0, x1, x2, _⟩ := box3 Hx1.out; obtain ⟨y0, y1, y2, y3, _⟩ := box4 Hy1.out; obtain ⟨z0, z1, z2, z3, z4, z5⟩ := box3 Hz1.out; clear hzz hb1))
    refine bodyPost_ret (v := .tuple #[.agg #[.int .i64 0, .slice none 0 0, .slice none 0 0], .int .i64 (txnFaultS t)]) (by simp [results, Try.results69, go_sem, z0, z1, z2]) rfl ?_
    rw [Hv0.out]
    exact ⟨none, 0, none, 0, rfl, Nat.le_refl _, Nat.le_refl _, SL.nil, SL.nil, (((Hw1.out.setCell (by simp only []; omega) _).setCell (by simp only []; omega) _).setCell (by simp only []; omega) _)⟩
end Go.Proofs.Ythhcdibimnifaaa
