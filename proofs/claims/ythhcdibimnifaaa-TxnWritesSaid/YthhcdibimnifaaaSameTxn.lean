/- Walks: sameRead and sameTxn of the laws' package. -/
import Derived.Test.YthhcdibimnifaaaTxnCopy
namespace Go.Proofs.Ythhcdibimnifaaa
open Go.RowKit
set_option linter.unusedVariables false
set_option linter.unusedSimpArgs false

set_option maxRecDepth 100000 in
set_option maxHeartbeats 1000000 in
theorem lawSameRead_ok (w : World) (A B C A' B' C' : Option Addr) (x : Wr) (a b c a' b' c' : Nat) (ha : Bs All w A x.name) (hb : Bs All w B x.key) (hc : Bs All w C x.value) (ha' : Bs All w A' x.name) (hb' : Bs All w B' x.key) (hc' : Bs All w C' x.value) :
    Calls Try.prog 133 #[.agg #[.slice A x.name.length a, .slice B x.key.length b, .bool x.flag, .slice C x.value.length c], .agg #[.slice A' x.name.length a', .slice B' x.key.length b', .bool x.flag, .slice C' x.value.length c']] w (RetV w (.bool true)) := by
  have Ha := Lib.hid ha
  have Hb := Lib.hid hb
  have Hc := Lib.hid hc
  have Ha' := Lib.hid ha'
  have Hb' := Lib.hid hb'
  have Hc' := Lib.hid hc'
  clear ha hb hc ha' hb' hc'
  go_enter Try.func133, Try.ntmps133
  go_wp2_with (first
    | (go_at_call_of 53 A; (with_reducible refine (sameBytes_ok _ A A' x.name x.name a a' ?hx ?hy).mono ?_); (case hx => (refine Ha.out.bbelow ?_; repeat' (first | exact Below.refl _ _ | assumption | refine Below.drew ?_ | refine below_drewN ?_ _ | refine Below.alloc ?_ (by first | exact Nat.le_refl _ | omega | (simp; done) | (simp; omega)) _))); (case hy => (refine Ha'.out.bbelow ?_; repeat' (first | exact Below.refl _ _ | assumption | refine Below.drew ?_ | refine below_drewN ?_ _ | refine Below.alloc ?_ (by first | exact Nat.le_refl _ | omega | (simp; done) | (simp; omega)) _))); rintro e w2 ⟨rfl, rfl⟩)
    | (go_at_call_of 53 B; (with_reducible refine (sameBytes_ok _ B B' x.key x.key b b' ?hx ?hy).mono ?_); (case hx => (refine Hb.out.bbelow ?_; repeat' (first | exact Below.refl _ _ | assumption | refine Below.drew ?_ | refine below_drewN ?_ _ | refine Below.alloc ?_ (by first | exact Nat.le_refl _ | omega | (simp; done) | (simp; omega)) _))); (case hy => (refine Hb'.out.bbelow ?_; repeat' (first | exact Below.refl _ _ | assumption | refine Below.drew ?_ | refine below_drewN ?_ _ | refine Below.alloc ?_ (by first | exact Nat.le_refl _ | omega | (simp; done) | (simp; omega)) _))); rintro e w2 ⟨rfl, rfl⟩)
    | (go_at_call_of 53 C; (with_reducible refine (sameBytes_ok _ C C' x.value x.value c c' ?hx ?hy).mono ?_); (case hx => (refine Hc.out.bbelow ?_; repeat' (first | exact Below.refl _ _ | assumption | refine Below.drew ?_ | refine below_drewN ?_ _ | refine Below.alloc ?_ (by first | exact Nat.le_refl _ | omega | (simp; done) | (simp; omega)) _))); (case hy => (refine Hc'.out.bbelow ?_; repeat' (first | exact Below.refl _ _ | assumption | refine Below.drew ?_ | refine below_drewN ?_ _ | refine Below.alloc ?_ (by first | exact Nat.le_refl _ | omega | (simp; done) | (simp; omega)) _))); rintro e w2 ⟨rfl, rfl⟩))
  go_ret
  refine ⟨by simp, ?_⟩
  repeat' (first | exact Below.refl _ _ | assumption | refine Below.drew ?_ | refine below_drewN ?_ _ | refine Below.alloc ?_ (by first | exact Nat.le_refl _ | omega | (simp; done) | (simp; omega)) _)
theorem alloc2 (w : World) (a b : Obj) : ((w.alloc a).alloc b).heap[w.heap.size]? = some a ∧ ((w.alloc a).alloc b).heap[w.heap.size + 1]? = some b ∧ ((w.alloc a).alloc b).heap.size = w.heap.size + 2 ∧ Below w.heap.size w ((w.alloc a).alloc b) := by
  refine ⟨?_, ?_, by simp, ((Below.refl _ _).alloc (Nat.le_refl _) _).alloc (by simp) _⟩
  · rw [heap_alloc_old _ _ (by simp), heap_alloc_new]
  · have := heap_alloc_new (w.alloc a) b
    simpa using this
set_option maxRecDepth 100000 in
set_option maxHeartbeats 2000000 in
theorem sameTxn_ok (w : World) (A B A' B' : Option Addr) (t : Tx) (n m n' m' : Nat) (ha : Ws All w A t.reads) (hb : Ws All w B t.writes) (ha' : Ws All w A' t.reads) (hb' : Ws All w B' t.writes) (hn : t.reads.length ≤ big) (hm : t.writes.length ≤ big) :
    Calls Try.prog 66 #[.agg #[.int .i64 t.start, .slice A t.reads.length n, .slice B t.writes.length m], .agg #[.int .i64 t.start, .slice A' t.reads.length n', .slice B' t.writes.length m']] w (RetV w (.bool true)) := by
  unfold big at hn
  have Hm := Lib.hid hm
  have Ha := Lib.hid ha
  have Hb := Lib.hid hb
  have Ha' := Lib.hid ha'
  have Hb' := Lib.hid hb'
  clear ha hb ha' hb' hm
  obtain ⟨hx, hy, hsz, hbl⟩ := alloc2 w (.cells #[.int .i64 t.start, .slice A t.reads.length n, .slice B t.writes.length m] 79) (.cells #[.int .i64 t.start, .slice A' t.reads.length n', .slice B' t.writes.length m'] 79)
  have Hx := Lib.hid hx
  have Hy := Lib.hid hy
  have Hbl := Lib.hid hbl
  have Hsz := Lib.hid hsz
  clear hx hy hbl hsz
  go_enter Try.func66, Try.ntmps66
  go_wp2_with (go_at_call 47; refine (sameWrites_ok _ B B' t.writes m m' (Hb.out.below wrR_stays Hbl.out) (Hb'.out.below wrR_stays Hbl.out) Hm.out).mono ?_; rintro e w1 ⟨rfl, hb1⟩; have hz1 := hb1.size)
  rw [Hsz.out] at hz1
  have hsz := Hsz.out
  have Hx1 := Lib.hid ((hb1.block _ (by omega)).trans Hx.out)
  have Hy1 := Lib.hid ((hb1.block _ (by omega)).trans Hy.out)
  have Hb1 := Lib.hid (Hbl.out.next hb1 (by omega))
  clear hb1 hsz Hsz Hx Hy Hbl
  go_loopw [5] (fun i wr => ∃ k : Nat, k ≤ t.reads.length ∧ i = .int .i64 k ∧ Below w1.heap.size w1 wr) (fun i _ => t.reads.length - (intOf i).toNat)
  case atStart => exact ⟨0, by omega, rfl, Below.refl _ _⟩
  case round =>
    obtain ⟨k, hk, rfl, hbel⟩ := hrel
    have Hbel := Lib.hid hbel
    have hbz := hbel.size
    have Hbw := Lib.hid (Hb1.out.next hbel (by omega))
    obtain ⟨g0, g1, _, _⟩ := box3 ((hbel.block _ (by omega)).trans Hx1.out)
    obtain ⟨q0, q1, _, _⟩ := box3 ((hbel.block _ (by omega)).trans Hy1.out)
    clear hbel
    by_cases hlt : k < t.reads.length
    · obtain ⟨g, off, A1, a1, B1, b1, C1, c1, rfl, _, hal, hc1, hc2, hc3, hc4, hs1, hs2, hs3, _, _, _⟩ := wrs_at (Ha.out.below wrR_stays Hbw.out) hlt
      obtain ⟨g', off', A2, a2, B2, b2, C2, c2, rfl, _, hal', hd1, hd2, hd3, hd4, ht1, ht2, ht3, _, _, _⟩ := wrs_at (Ha'.out.below wrR_stays Hbw.out) hlt
      generalize t.reads[k] = x at *
      have Hs1 := Lib.hid hs1.bz
      have Hs2 := Lib.hid hs2.bz
      have Hs3 := Lib.hid hs3.bz
      have Ht1 := Lib.hid ht1.bz
      have Ht2 := Lib.hid ht2.bz
      have Ht3 := Lib.hid ht3.bz
      clear hs1 hs2 hs3 ht1 ht2 ht3
      have hi0 : (0 : Int) ≤ (k : Int) := by omega
      have hi1 : (k : Int) < (t.reads.length : Int) := by omega
      go_wp2_with fail
      go_region_held3 (fun w' => w'.cell? ⟨w.heap.size, 1, none⟩ = some (.slice (some ⟨g, off, none⟩) t.reads.length n) ∧ w'.cell? ⟨w.heap.size + 1, 1, none⟩ = some (.slice (some ⟨g', off', none⟩) t.reads.length n') ∧ w'.cell? ⟨g, off + k * 4, none⟩ = some (.slice A1 x.name.length a1) ∧ w'.cell? ⟨g, off + k * 4 + 1, none⟩ = some (.slice B1 x.key.length b1) ∧ w'.cell? ⟨g, off + k * 4 + 2, none⟩ = some (.bool x.flag) ∧ w'.cell? ⟨g, off + k * 4 + 3, none⟩ = some (.slice C1 x.value.length c1) ∧ w'.cell? ⟨g', off' + k * 4, none⟩ = some (.slice A2 x.name.length a2) ∧ w'.cell? ⟨g', off' + k * 4 + 1, none⟩ = some (.slice B2 x.key.length b2) ∧ w'.cell? ⟨g', off' + k * 4 + 2, none⟩ = some (.bool x.flag) ∧ w'.cell? ⟨g', off' + k * 4 + 3, none⟩ = some (.slice C2 x.value.length c2))
        (first
          | go_keep
          | (go_split_ands; refine ⟨?_, ?_, ?_, ?_, ?_, ?_, ?_, ?_, ?_, ?_⟩ <;> exact (hbw2.cell (by simp; omega)).trans (by assumption)))
        ((go_at_call 133; refine (lawSameRead_ok _ A1 B1 C1 A2 B2 C2 x a1 b1 c1 a2 b2 c2 (Hs1.out.bsame (by repeat' (first | exact Same.refl _ _ | assumption | refine Same.drew ?_ | refine Same.drewN ?_ _ | refine Same.alloc ?_ _ | refine Same.setCell ?_ (fun hq => by simp only [From] at hq; first | omega | (simp at hq; done) | (simp at hq; omega)) _))) (Hs2.out.bsame (by repeat' (first | exact Same.refl _ _ | assumption | refine Same.drew ?_ | refine Same.drewN ?_ _ | refine Same.alloc ?_ _ | refine Same.setCell ?_ (fun hq => by simp only [From] at hq; first | omega | (simp at hq; done) | (simp at hq; omega)) _))) (Hs3.out.bsame (by repeat' (first | exact Same.refl _ _ | assumption | refine Same.drew ?_ | refine Same.drewN ?_ _ | refine Same.alloc ?_ _ | refine Same.setCell ?_ (fun hq => by simp only [From] at hq; first | omega | (simp at hq; done) | (simp at hq; omega)) _))) (Ht1.out.bsame (by repeat' (first | exact Same.refl _ _ | assumption | refine Same.drew ?_ | refine Same.drewN ?_ _ | refine Same.alloc ?_ _ | refine Same.setCell ?_ (fun hq => by simp only [From] at hq; first | omega | (simp at hq; done) | (simp at hq; omega)) _))) (Ht2.out.bsame (by repeat' (first | exact Same.refl _ _ | assumption | refine Same.drew ?_ | refine Same.drewN ?_ _ | refine Same.alloc ?_ _ | refine Same.setCell ?_ (fun hq => by simp only [From] at hq; first | omega | (simp at hq; done) | (simp at hq; omega)) _))) (Ht3.out.bsame (by repeat' (first | exact Same.refl _ _ | assumption | refine Same.drew ?_ | refine Same.drewN ?_ _ | refine Same.alloc ?_ _ | refine Same.setCell ?_ (fun hq => by simp only [From] at hq; first | omega | (simp at hq; done) | (simp at hq; omega)) _)))).mono ?_; rintro e w2 ⟨rfl, hbw2⟩))
      go_wp2
      go_roundw
      case rel => exact ⟨k + 1, by omega, by go_num, Hbel.out.drew.next hbw2 (by simp; omega)⟩
      case measure => simp [intOf]; omega
    · go_wp2
      go_ret
      exact ⟨rfl, Hbw.out⟩
end Go.Proofs.Ythhcdibimnifaaa
