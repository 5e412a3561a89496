/- WireR: What a request reads and writes: plain words; the references. Walks: wire.Read, wire.Write, RequestRead, RequestWrite. Walks: wire.Read, wire.Write. The laws WireReads, WireWrites: their walks. The conditions of each are in its words. -/
import Derived.Deep.RegionHeld3
import Derived.Test.YtjgdeeabejoegaaDoorKWire
import Derived.Test.YtjgdeeabejoegaaDoorKBase
import Derived.Test.YtjgdeeabejoegaaDoorKTxnW
import Derived.Test.YtjgdeeabejoegaaDoorKTxn
namespace Go.Proofs.YtjgdeeabejoegaaDoor
open Go.RowKit
set_option linter.unusedVariables false
set_option linter.unusedSimpArgs false

def wr0 : Wr := ⟨[], [], false, []⟩
def readRq (r : Rq) : Wr := ⟨r.name, r.key, r.kind == 3, r.last⟩
def writeRq (r : Rq) : Wr := ⟨r.name, r.key, r.kind == 5, r.value⟩
/-- What wire.Read and RequestRead answer. -/
def rqReadS (r : Rq) : Wr × Int := if rqFault r ≠ 0 then (wr0, rqFault r) else if r.kind = 2 ∨ r.kind = 3 then (readRq r, 0) else (wr0, 7)
/-- What wire.Write and RequestWrite answer. -/
def rqWriteS (r : Rq) : Wr × Int := if rqFault r ≠ 0 then (wr0, rqFault r) else if r.kind = 4 ∨ r.kind = 5 then (writeRq r, 0) else (wr0, 7)
/-- The call returns a read or a write, and a number. -/
def RetWrE (w : World) (r : Wr × Int) (e : Ending) (w' : World) : Prop :=
  ∃ A a B b C c, e = .returned (.tuple #[.agg #[.slice A r.1.name.length a, .slice B r.1.key.length b, .bool r.1.flag, .slice C r.1.value.length c], .int .i64 r.2]) ∧ Bs (From w.heap.size) w' A r.1.name ∧ Bs (From w.heap.size) w' B r.1.key ∧ Bs (From w.heap.size) w' C r.1.value ∧ Below w.heap.size w w'
theorem parts_zero {h : Nat} {r : Rq} (hp : partsFault h r = 0) : partF h r 0 = 0 ∧ partF h r 1 = 0 ∧ partF h r 2 = 0 ∧ partF h r 3 = 0 := by
  unfold partsFault at hp
  simp only [firstBad] at hp
  by_cases h0 : partF h r 0 = 0
  · rw [if_neg (by simpa using h0)] at hp
    by_cases h1 : partF h r 1 = 0
    · rw [if_neg (by simpa using h1)] at hp
      by_cases h2 : partF h r 2 = 0
      · rw [if_neg (by simpa using h2)] at hp
        by_cases h3 : partF h r 3 = 0
        · exact ⟨h0, h1, h2, h3⟩
        · rw [if_pos (by simpa using h3)] at hp; exact absurd hp h3
      · rw [if_pos (by simpa using h2)] at hp; exact absurd hp h2
    · rw [if_pos (by simpa using h1)] at hp; exact absurd hp h1
  · rw [if_pos (by simpa using h0)] at hp; exact absurd hp h0
theorem body_zero {h : Nat} {r : Rq} (hf : bodyFault h r = 0) : namesFault h r = 0 ∧ r.value.length ≤ 32 ∧ partsFault h r = 0 := by
  unfold bodyFault at hf
  by_cases h1 : namesFault h r = 0
  · rw [if_neg (by simp [h1])] at hf
    by_cases h2 : 32 < r.value.length
    · rw [if_pos h2] at hf; cases hf
    · rw [if_neg h2] at hf; exact ⟨h1, by omega, hf⟩
  · rw [if_pos h1] at hf; exact absurd hf h1
theorem names_zero {h : Nat} {r : Rq} (hh : h % 2 = 1) (h1 : namesFault h r = 0) : nameFault r.name = 0 ∧ keyFault r.key = 0 ∧ (h / 4 % 2 = 1 → keyFault r.last = 0) := by
  unfold namesFault at h1
  rw [if_neg (by omega)] at h1
  by_cases h3 : nameFault r.name = 0
  · rw [if_neg (by simp [h3])] at h1
    by_cases h4 : keyFault r.key = 0
    · refine ⟨h3, h4, fun hl => ?_⟩
      rw [if_neg (by simp [h4]), if_neg (by omega)] at h1
      exact h1
    · rw [if_pos h4] at h1; exact absurd h1 h4
  · rw [if_pos h3] at h1; exact absurd h1 h3
theorem part_len {h : Nat} {r : Rq} {i : Nat} (hp : partF h r i = 0) (hb : h / 2 ^ i % 2 = 0) : (partAt r i).length = 0 := by
  unfold partF at hp
  by_cases h0 : 0 < (partAt r i).length
  · rw [if_pos ⟨hb, h0⟩] at hp; cases hp
  · omega
theorem rq_body {r : Rq} (hf : rqFault r = 0) : (1 ≤ r.kind ∧ r.kind ≤ 8) ∧ bodyFault (hasS r.kind.toNat) r = 0 := by
  unfold rqFault at hf
  by_cases h : 1 ≤ r.kind ∧ r.kind ≤ 8
  · rw [if_neg (by simpa using h)] at hf; exact ⟨h, hf⟩
  · rw [if_pos h] at hf; cases hf
theorem rq_read {r : Rq} (hf : rqFault r = 0) (hk : r.kind = 2 ∨ r.kind = 3) : readFaultS (readRq r) = 0 := by
  obtain ⟨_, hb⟩ := rq_body hf
  obtain ⟨i, n, e, l, v⟩ := r
  dsimp only at *
  rcases hk with rfl | rfl
  · obtain ⟨b1, b2, b3⟩ := body_zero (h := 3) (hb)
    obtain ⟨n1, n2, n3⟩ := names_zero (by decide) b1
    obtain ⟨_, _, p2, _⟩ := parts_zero b3
    have hl : l.length = 0 := part_len p2 (by decide)
    have n1' : nameFault n = 0 := n1
    have n2' : keyFault e = 0 := n2
    unfold readFaultS readRq
    dsimp only
    rw [if_neg (by simp [n1']), if_neg (by simp [n2']), if_neg (by decide), if_neg (by omega)]
  · obtain ⟨b1, b2, b3⟩ := body_zero (h := 7) (hb)
    obtain ⟨n1, n2, n3⟩ := names_zero (by decide) b1
    have n1' : nameFault n = 0 := n1
    have n2' : keyFault e = 0 := n2
    unfold readFaultS readRq
    dsimp only
    rw [if_neg (by simp [n1']), if_neg (by simp [n2']), if_pos (by decide)]
    exact n3 (by decide)
theorem rq_write {r : Rq} (hf : rqFault r = 0) (hk : r.kind = 4 ∨ r.kind = 5) : writeFaultS (writeRq r) = 0 := by
  obtain ⟨_, hb⟩ := rq_body hf
  obtain ⟨i, n, e, l, v⟩ := r
  dsimp only at *
  rcases hk with rfl | rfl
  · obtain ⟨b1, b2, b3⟩ := body_zero (h := 11) (hb)
    obtain ⟨n1, n2, n3⟩ := names_zero (by decide) b1
    have n1' : nameFault n = 0 := n1
    have n2' : keyFault e = 0 := n2
    have b2' : v.length ≤ 32 := b2
    unfold writeFaultS writeRq
    dsimp only
    rw [if_neg (by simp [n1']), if_neg (by decide)]
    unfold pairFaultS
    dsimp only
    rw [if_neg (by omega)]
    exact n2'
  · obtain ⟨b1, b2, b3⟩ := body_zero (h := 3) (hb)
    obtain ⟨n1, n2, n3⟩ := names_zero (by decide) b1
    obtain ⟨_, _, _, p3⟩ := parts_zero b3
    have hl : v.length = 0 := part_len p3 (by decide)
    have n1' : nameFault n = 0 := n1
    have n2' : keyFault e = 0 := n2
    unfold writeFaultS writeRq
    dsimp only
    rw [if_neg (by simp [n1']), if_pos (by decide), if_neg (by simp [n2']), if_neg (by omega)]
theorem note_zero {r : Wr} (h : readFaultS r = 0) : noteS zeroTx r = (⟨0, [r], []⟩, 0) := by
  unfold noteS
  rw [if_neg (by decide), if_neg (by simp [h])]
  rfl
theorem write_zero {r : Wr} (h : writeFaultS r = 0) : writeToS zeroTx r = (⟨0, [], [r]⟩, 0) := by
  unfold writeToS
  rw [if_neg (by decide), if_neg (by simp [h])]
  rfl
end Go.Proofs.YtjgdeeabejoegaaDoor
namespace Go.Proofs.YtjgdeeabejoegaaDoor
open Go.RowKit
set_option linter.unusedVariables false
set_option linter.unusedSimpArgs false

/-- The request's box and the result's, in whatever world goes on from there. -/
structure Box2 (w : World) (t : TypeId) (k : Int) (A B C D : Option Addr) (r : Rq) (a b c d : Nat) (W : World) : Prop where
  c0 : W.cell? ⟨w.heap.size, 0, none⟩ = some (.int .i64 k)
  c1 : W.cell? ⟨w.heap.size, 1, none⟩ = some (.slice A r.name.length a)
  c2 : W.cell? ⟨w.heap.size, 2, none⟩ = some (.slice B r.key.length b)
  c3 : W.cell? ⟨w.heap.size, 3, none⟩ = some (.slice C r.last.length c)
  c4 : W.cell? ⟨w.heap.size, 4, none⟩ = some (.slice D r.value.length d)
  z0 : W.cell? ⟨w.heap.size + 1, 0, none⟩ = some (.slice none 0 0)
  z1 : W.cell? ⟨w.heap.size + 1, 1, none⟩ = some (.slice none 0 0)
  z2 : W.cell? ⟨w.heap.size + 1, 2, none⟩ = some (.bool false)
  z3 : W.cell? ⟨w.heap.size + 1, 3, none⟩ = some (.slice none 0 0)
  y0 : W.frozen? ⟨w.heap.size + 1, 0, none⟩ = false
  y1 : W.frozen? ⟨w.heap.size + 1, 1, none⟩ = false
  y2 : W.frozen? ⟨w.heap.size + 1, 2, none⟩ = false
  y3 : W.frozen? ⟨w.heap.size + 1, 3, none⟩ = false
  bel : Below w.heap.size w W
  size : w.heap.size + 2 ≤ W.heap.size
theorem box2_of (w : World) (t : TypeId) (A B C D : Option Addr) (r : Rq) (a b c d : Nat) {W : World} (hW : Below (w.heap.size + 2) ((w.alloc (.cells #[.int .i64 r.kind, .slice A r.name.length a, .slice B r.key.length b, .slice C r.last.length c, .slice D r.value.length d] 24)).alloc (.cells #[.slice none 0 0, .slice none 0 0, .bool false, .slice none 0 0] t)) W) : Box2 w t r.kind A B C D r a b c d W := by
  have h0 : W.heap[w.heap.size]? = some (.cells #[.int .i64 r.kind, .slice A r.name.length a, .slice B r.key.length b, .slice C r.last.length c, .slice D r.value.length d] 24 (0, 0)) := (hW.block _ (by omega)).trans ((heap_alloc_old _ _ (by simp)).trans (box_new w _ _))
  have h1 : W.heap[w.heap.size + 1]? = some (.cells #[.slice none 0 0, .slice none 0 0, .bool false, .slice none 0 0] t (0, 0)) := (hW.block _ (by omega)).trans (by have := box_new (w.alloc (.cells #[.int .i64 r.kind, .slice A r.name.length a, .slice B r.key.length b, .slice C r.last.length c, .slice D r.value.length d] 24)) #[.slice none 0 0, .slice none 0 0, .bool false, .slice none 0 0] t; simpa using this)
  obtain ⟨⟨g0, g1, g2, g3, g4⟩, _⟩ := box5 h0
  obtain ⟨z0, z1, z2, z3, y0, y1, y2, y3⟩ := box4 h1
  exact ⟨g0, g1, g2, g3, g4, z0, z1, z2, z3, y0, y1, y2, y3, (((Below.refl w.heap.size w).alloc (Nat.le_refl _) _).alloc (by simp) _).trans (hW.mono (by omega)), by simpa using hW.size⟩
set_option maxRecDepth 100000 in
set_option maxHeartbeats 4000000 in
theorem rqRead_ok (w : World) (A B C D : Option Addr) (r : Rq) (a b c d : Nat) (hA : Bs All w A r.name) (hB : Bs All w B r.key) (hC : Bs All w C r.last) (hn : r.name.length ≤ big) (he : r.key.length ≤ big) (hl : r.last.length ≤ big) :
    Calls Tryd.prog 13 #[.agg #[.int .i64 r.kind, .slice A r.name.length a, .slice B r.key.length b, .slice C r.last.length c, .slice D r.value.length d]] w (RetWrE w (rqReadS r)) := by
  have HA := Lib.hid hA
  have HB := Lib.hid hB
  have HC := Lib.hid hC
  have Hbox := Lib.hid (show ∀ W, Below (w.heap.size + 2) ((w.alloc (.cells #[.int .i64 r.kind, .slice A r.name.length a, .slice B r.key.length b, .slice C r.last.length c, .slice D r.value.length d] 24)).alloc (.cells #[.slice none 0 0, .slice none 0 0, .bool false, .slice none 0 0] 26)) W → Box2 w 26 r.kind A B C D r a b c d W from fun W hW => box2_of w _ A B C D r a b c d hW)
  clear hA hB hC
  have hrf := fun w => rqFault_ok w A B C D r a b c d hn he
  by_cases hf : rqFault r = 0
  · rw [hf] at hrf
    by_cases hk : r.kind = 2 ∨ r.kind = 3
    · have Hv := Lib.hid (show rqReadS r = (readRq r, 0) by unfold rqReadS; rw [if_neg (by simp [hf]), if_pos hk])
      have Hfl := Lib.hid (show (readRq r).flag = (r.kind == 3) from rfl)
      generalize hkg : r.kind = kd at *
      clear hkg
      clear hf
      go_enter Tryd.func13, Tryd.ntmps13
      rcases hk with rfl | rfl
      · go_wp2_with ((go_at_call 41; (with_reducible refine (hrf _).mono ?_); rintro e1 w1 ⟨rfl, hb1⟩; have hk1 := (Below.refl (w.heap.size + 2) _).next hb1 (by simp); obtain ⟨c0, c1, c2, c3, c4, z0, z1, z2, z3, y0, y1, y2, y3, hw1, hs1⟩ := Hbox.out _ hk1))
        go_region_held3 (fun w' => w'.cell? ⟨w.heap.size, 0, none⟩ = some (.int .i64 2) ∧ w'.cell? ⟨w.heap.size, 1, none⟩ = some (.slice A r.name.length a) ∧ w'.cell? ⟨w.heap.size, 2, none⟩ = some (.slice B r.key.length b) ∧ w'.cell? ⟨w.heap.size, 3, none⟩ = some (.slice C r.last.length c))
          (first
            | go_keep
            | exact ⟨q0, q1, q2, q3⟩
            | exact ⟨r0, r1, r2, r3⟩
            | exact ⟨s0, s1, s2, s3⟩)
          (first
            | (go_at_call 42; (with_reducible refine (joinedNil_ok _ A r.name a ?ha hn).mono ?_); (case ha => exact (HA.out.bbelow hw1).bsame (Same.refl _ _).drew); rintro e2 w2 ⟨A1, a1, rfl, hs2, hb2⟩; have hk2 := hk1.drew.next hb2 (by simpa using hs1); obtain ⟨q0, q1, q2, q3, q4, _, _, _, _, _, _, _, _, hw2, hz2⟩ := Hbox.out _ hk2)
            | (go_at_call 42; (with_reducible refine (joinedNil_ok _ B r.key b ?ha he).mono ?_); (case ha => exact HB.out.bbelow hw2); rintro e3 w3 ⟨B1, b1, rfl, hs3, hb3⟩; have hk3 := hk2.next hb3 hz2; obtain ⟨r0, r1, r2, r3, r4, _, _, _, _, _, _, _, _, hw3, hz3⟩ := Hbox.out _ hk3)
            | (go_at_call 42; (with_reducible refine (joinedNil_ok _ C r.last c ?ha hl).mono ?_); (case ha => exact HC.out.bbelow hw3); rintro e4 w4 ⟨C1, c1', rfl, hs4, hb4⟩; have hk4 := hk3.next hb4 hz3; obtain ⟨s0, s1, s2, s3, s4, z0', z1', z2', z3', y0', y1', y2', y3', hw4, hz4⟩ := Hbox.out _ hk4; have hzz1 : w.heap.size + 1 < w4.heap.size := (by omega)))
        all_goals
          go_wp2
          have hf2 := hb2.size
          have hf3 := hb3.size
          have hf4 := hb4.size
          simp at hf2
          refine bodyPost_ret (v := .tuple #[.agg #[.slice A1 r.name.length a1, .slice B1 r.key.length b1, .bool false, .slice C1 r.last.length c1'], .int .i64 0]) (by simp [results, Tryd.results13, go_sem, z0', z1', z2', z3']) rfl ?_
          rw [Hv.out]
          have hfl : (readRq r).flag = false := Hfl.out
          refine ⟨A1, a1, B1, b1, C1, c1', by rw [hfl]; rfl, ?_, ?_, ?_, ?_⟩
          · exact (((hs2.bbelow hb3).bbelow hb4).bless fun b _ h => show From (w.heap.size + 2) b by simp only [From] at h ⊢; simp at h; omega).bsame (((((Same.refl _ _).setCell (fun hq => by simp only [From] at hq; omega) _).setCell (fun hq => by simp only [From] at hq; omega) _).setCell (fun hq => by simp only [From] at hq; omega) _).setCell (fun hq => by simp only [From] at hq; omega) _) |>.blo (by omega)
          · exact ((hs3.bbelow hb4).bless fun b _ h => show From (w.heap.size + 2) b by simp only [From] at h ⊢; omega).bsame (((((Same.refl _ _).setCell (fun hq => by simp only [From] at hq; omega) _).setCell (fun hq => by simp only [From] at hq; omega) _).setCell (fun hq => by simp only [From] at hq; omega) _).setCell (fun hq => by simp only [From] at hq; omega) _) |>.blo (by omega)
          · exact (hs4.bless fun b _ h => show From (w.heap.size + 2) b by simp only [From] at h ⊢; omega).bsame (((((Same.refl _ _).setCell (fun hq => by simp only [From] at hq; omega) _).setCell (fun hq => by simp only [From] at hq; omega) _).setCell (fun hq => by simp only [From] at hq; omega) _).setCell (fun hq => by simp only [From] at hq; omega) _) |>.blo (by omega)
          · exact ((((hw4.setCell (by simp only []; omega) _).setCell (by simp only []; omega) _).setCell (by simp only []; omega) _).setCell (by simp only []; omega) _)
      · go_wp2_with ((go_at_call 41; (with_reducible refine (hrf _).mono ?_); rintro e1 w1 ⟨rfl, hb1⟩; have hk1 := (Below.refl (w.heap.size + 2) _).next hb1 (by simp); obtain ⟨c0, c1, c2, c3, c4, z0, z1, z2, z3, y0, y1, y2, y3, hw1, hs1⟩ := Hbox.out _ hk1))
        go_region_held3 (fun w' => w'.cell? ⟨w.heap.size, 0, none⟩ = some (.int .i64 3) ∧ w'.cell? ⟨w.heap.size, 1, none⟩ = some (.slice A r.name.length a) ∧ w'.cell? ⟨w.heap.size, 2, none⟩ = some (.slice B r.key.length b) ∧ w'.cell? ⟨w.heap.size, 3, none⟩ = some (.slice C r.last.length c))
          (first
            | go_keep
            | exact ⟨q0, q1, q2, q3⟩
            | exact ⟨r0, r1, r2, r3⟩
            | exact ⟨s0, s1, s2, s3⟩)
          (first
            | (go_at_call 42; (with_reducible refine (joinedNil_ok _ A r.name a ?ha hn).mono ?_); (case ha => exact (HA.out.bbelow hw1).bsame (Same.refl _ _).drew); rintro e2 w2 ⟨A1, a1, rfl, hs2, hb2⟩; have hk2 := hk1.drew.next hb2 (by simpa using hs1); obtain ⟨q0, q1, q2, q3, q4, _, _, _, _, _, _, _, _, hw2, hz2⟩ := Hbox.out _ hk2)
            | (go_at_call 42; (with_reducible refine (joinedNil_ok _ B r.key b ?ha he).mono ?_); (case ha => exact HB.out.bbelow hw2); rintro e3 w3 ⟨B1, b1, rfl, hs3, hb3⟩; have hk3 := hk2.next hb3 hz2; obtain ⟨r0, r1, r2, r3, r4, _, _, _, _, _, _, _, _, hw3, hz3⟩ := Hbox.out _ hk3)
            | (go_at_call 42; (with_reducible refine (joinedNil_ok _ C r.last c ?ha hl).mono ?_); (case ha => exact HC.out.bbelow hw3); rintro e4 w4 ⟨C1, c1', rfl, hs4, hb4⟩; have hk4 := hk3.next hb4 hz3; obtain ⟨s0, s1, s2, s3, s4, z0', z1', z2', z3', y0', y1', y2', y3', hw4, hz4⟩ := Hbox.out _ hk4; have hzz1 : w.heap.size + 1 < w4.heap.size := (by omega)))
        all_goals
          go_wp2
          have hf2 := hb2.size
          have hf3 := hb3.size
          have hf4 := hb4.size
          simp at hf2
          refine bodyPost_ret (v := .tuple #[.agg #[.slice A1 r.name.length a1, .slice B1 r.key.length b1, .bool true, .slice C1 r.last.length c1'], .int .i64 0]) (by simp [results, Tryd.results13, go_sem, z0', z1', z2', z3']) rfl ?_
          rw [Hv.out]
          have hfl : (readRq r).flag = true := Hfl.out
          refine ⟨A1, a1, B1, b1, C1, c1', by rw [hfl]; rfl, ?_, ?_, ?_, ?_⟩
          · exact (((hs2.bbelow hb3).bbelow hb4).bless fun b _ h => show From (w.heap.size + 2) b by simp only [From] at h ⊢; simp at h; omega).bsame (((((Same.refl _ _).setCell (fun hq => by simp only [From] at hq; omega) _).setCell (fun hq => by simp only [From] at hq; omega) _).setCell (fun hq => by simp only [From] at hq; omega) _).setCell (fun hq => by simp only [From] at hq; omega) _) |>.blo (by omega)
          · exact ((hs3.bbelow hb4).bless fun b _ h => show From (w.heap.size + 2) b by simp only [From] at h ⊢; omega).bsame (((((Same.refl _ _).setCell (fun hq => by simp only [From] at hq; omega) _).setCell (fun hq => by simp only [From] at hq; omega) _).setCell (fun hq => by simp only [From] at hq; omega) _).setCell (fun hq => by simp only [From] at hq; omega) _) |>.blo (by omega)
          · exact (hs4.bless fun b _ h => show From (w.heap.size + 2) b by simp only [From] at h ⊢; omega).bsame (((((Same.refl _ _).setCell (fun hq => by simp only [From] at hq; omega) _).setCell (fun hq => by simp only [From] at hq; omega) _).setCell (fun hq => by simp only [From] at hq; omega) _).setCell (fun hq => by simp only [From] at hq; omega) _) |>.blo (by omega)
          · exact ((((hw4.setCell (by simp only []; omega) _).setCell (by simp only []; omega) _).setCell (by simp only []; omega) _).setCell (by simp only []; omega) _)
    · have Hv := Lib.hid (show rqReadS r = (wr0, 7) by unfold rqReadS; rw [if_neg (by simp [hf]), if_neg hk])
      have k1 : (r.kind == 2) = false := by simp; omega
      have k2 : (r.kind == 3) = false := by simp; omega
      have k3 : (r.kind != 2) = true := by simp; omega
      have k4 : (r.kind != 3) = true := by simp; omega
      clear hk hf
      go_enter Tryd.func13, Tryd.ntmps13
      go_wp2_with ((go_at_call 41; (with_reducible refine (hrf _).mono ?_); rintro e1 w1 ⟨rfl, hb1⟩; have hk1 := (Below.refl (w.heap.size + 2) _).next hb1 (by simp); obtain ⟨c0, c1, c2, c3, c4, z0, z1, z2, z3, y0, y1, y2, y3, hw1, hs1⟩ := Hbox.out _ hk1))
      refine bodyPost_ret (v := .tuple #[.agg #[.slice none 0 0, .slice none 0 0, .bool false, .slice none 0 0], .int .i64 7]) (by simp [results, Tryd.results13, go_sem, z0, z1, z2, z3]) rfl ?_
      rw [Hv.out]
      exact ⟨none, 0, none, 0, none, 0, rfl, SL.nil, SL.nil, SL.nil, ((((hw1.setCell (by simp only []; omega) _).setCell (by simp only []; omega) _).setCell (by simp only []; omega) _).setCell (by simp only []; omega) _)⟩
  · have Hv := Lib.hid (show rqReadS r = (wr0, rqFault r) by unfold rqReadS; rw [if_pos hf])
    have t0 : (rqFault r == 0) = false := by simpa using hf
    have t1 : (rqFault r != 0) = true := by simpa using hf
    clear hf
    go_enter Tryd.func13, Tryd.ntmps13
    go_wp2_with ((go_at_call 41; (with_reducible refine (hrf _).mono ?_); rintro e1 w1 ⟨rfl, hb1⟩; have hk1 := (Below.refl (w.heap.size + 2) _).next hb1 (by simp); obtain ⟨c0, c1, c2, c3, c4, z0, z1, z2, z3, y0, y1, y2, y3, hw1, hs1⟩ := Hbox.out _ hk1))
    refine bodyPost_ret (v := .tuple #[.agg #[.slice none 0 0, .slice none 0 0, .bool false, .slice none 0 0], .int .i64 (rqFault r)]) (by simp [results, Tryd.results13, go_sem, z0, z1, z2, z3]) rfl ?_
    rw [Hv.out]
    exact ⟨none, 0, none, 0, none, 0, rfl, SL.nil, SL.nil, SL.nil, ((((hw1.setCell (by simp only []; omega) _).setCell (by simp only []; omega) _).setCell (by simp only []; omega) _).setCell (by simp only []; omega) _)⟩
set_option maxRecDepth 100000 in
set_option maxHeartbeats 4000000 in
theorem rqWrite_ok (w : World) (A B C D : Option Addr) (r : Rq) (a b c d : Nat) (hA : Bs All w A r.name) (hB : Bs All w B r.key) (hC : Bs All w D r.value) (hn : r.name.length ≤ big) (he : r.key.length ≤ big) (hl : r.value.length ≤ big) :
    Calls Tryd.prog 16 #[.agg #[.int .i64 r.kind, .slice A r.name.length a, .slice B r.key.length b, .slice C r.last.length c, .slice D r.value.length d]] w (RetWrE w (rqWriteS r)) := by
  have HA := Lib.hid hA
  have HB := Lib.hid hB
  have HC := Lib.hid hC
  have Hbox := Lib.hid (show ∀ W, Below (w.heap.size + 2) ((w.alloc (.cells #[.int .i64 r.kind, .slice A r.name.length a, .slice B r.key.length b, .slice C r.last.length c, .slice D r.value.length d] 24)).alloc (.cells #[.slice none 0 0, .slice none 0 0, .bool false, .slice none 0 0] 34)) W → Box2 w 34 r.kind A B C D r a b c d W from fun W hW => box2_of w _ A B C D r a b c d hW)
  clear hA hB hC
  have hrf := fun w => rqFault_ok w A B C D r a b c d hn he
  by_cases hf : rqFault r = 0
  · rw [hf] at hrf
    by_cases hk : r.kind = 4 ∨ r.kind = 5
    · have Hv := Lib.hid (show rqWriteS r = (writeRq r, 0) by unfold rqWriteS; rw [if_neg (by simp [hf]), if_pos hk])
      have Hfl := Lib.hid (show (writeRq r).flag = (r.kind == 5) from rfl)
      generalize hkg : r.kind = kd at *
      clear hkg
      clear hf
      go_enter Tryd.func16, Tryd.ntmps16
      rcases hk with rfl | rfl
      · go_wp2_with ((go_at_call 41; (with_reducible refine (hrf _).mono ?_); rintro e1 w1 ⟨rfl, hb1⟩; have hk1 := (Below.refl (w.heap.size + 2) _).next hb1 (by simp); obtain ⟨c0, c1, c2, c3, c4, z0, z1, z2, z3, y0, y1, y2, y3, hw1, hs1⟩ := Hbox.out _ hk1))
        go_region_held3 (fun w' => w'.cell? ⟨w.heap.size, 0, none⟩ = some (.int .i64 4) ∧ w'.cell? ⟨w.heap.size, 1, none⟩ = some (.slice A r.name.length a) ∧ w'.cell? ⟨w.heap.size, 2, none⟩ = some (.slice B r.key.length b) ∧ w'.cell? ⟨w.heap.size, 4, none⟩ = some (.slice D r.value.length d))
          (first
            | go_keep
            | exact ⟨q0, q1, q2, q4⟩
            | exact ⟨r0, r1, r2, r4⟩
            | exact ⟨s0, s1, s2, s4⟩)
          (first
            | (go_at_call 42; (with_reducible refine (joinedNil_ok _ A r.name a ?ha hn).mono ?_); (case ha => exact (HA.out.bbelow hw1).bsame (Same.refl _ _).drew); rintro e2 w2 ⟨A1, a1, rfl, hs2, hb2⟩; have hk2 := hk1.drew.next hb2 (by simpa using hs1); obtain ⟨q0, q1, q2, q3, q4, _, _, _, _, _, _, _, _, hw2, hz2⟩ := Hbox.out _ hk2)
            | (go_at_call 42; (with_reducible refine (joinedNil_ok _ B r.key b ?ha he).mono ?_); (case ha => exact HB.out.bbelow hw2); rintro e3 w3 ⟨B1, b1, rfl, hs3, hb3⟩; have hk3 := hk2.next hb3 hz2; obtain ⟨r0, r1, r2, r3, r4, _, _, _, _, _, _, _, _, hw3, hz3⟩ := Hbox.out _ hk3)
            | (go_at_call 42; (with_reducible refine (joinedNil_ok _ D r.value d ?ha hl).mono ?_); (case ha => exact HC.out.bbelow hw3); rintro e4 w4 ⟨C1, c1', rfl, hs4, hb4⟩; have hk4 := hk3.next hb4 hz3; obtain ⟨s0, s1, s2, s3, s4, z0', z1', z2', z3', y0', y1', y2', y3', hw4, hz4⟩ := Hbox.out _ hk4; have hzz1 : w.heap.size + 1 < w4.heap.size := (by omega)))
        all_goals
          go_wp2
          have hf2 := hb2.size
          have hf3 := hb3.size
          have hf4 := hb4.size
          simp at hf2
          refine bodyPost_ret (v := .tuple #[.agg #[.slice A1 r.name.length a1, .slice B1 r.key.length b1, .bool false, .slice C1 r.value.length c1'], .int .i64 0]) (by simp [results, Tryd.results16, go_sem, z0', z1', z2', z3']) rfl ?_
          rw [Hv.out]
          have hfl : (writeRq r).flag = false := Hfl.out
          refine ⟨A1, a1, B1, b1, C1, c1', by rw [hfl]; rfl, ?_, ?_, ?_, ?_⟩
          · exact (((hs2.bbelow hb3).bbelow hb4).bless fun b _ h => show From (w.heap.size + 2) b by simp only [From] at h ⊢; simp at h; omega).bsame (((((Same.refl _ _).setCell (fun hq => by simp only [From] at hq; omega) _).setCell (fun hq => by simp only [From] at hq; omega) _).setCell (fun hq => by simp only [From] at hq; omega) _).setCell (fun hq => by simp only [From] at hq; omega) _) |>.blo (by omega)
          · exact ((hs3.bbelow hb4).bless fun b _ h => show From (w.heap.size + 2) b by simp only [From] at h ⊢; omega).bsame (((((Same.refl _ _).setCell (fun hq => by simp only [From] at hq; omega) _).setCell (fun hq => by simp only [From] at hq; omega) _).setCell (fun hq => by simp only [From] at hq; omega) _).setCell (fun hq => by simp only [From] at hq; omega) _) |>.blo (by omega)
          · exact (hs4.bless fun b _ h => show From (w.heap.size + 2) b by simp only [From] at h ⊢; omega).bsame (((((Same.refl _ _).setCell (fun hq => by simp only [From] at hq; omega) _).setCell (fun hq => by simp only [From] at hq; omega) _).setCell (fun hq => by simp only [From] at hq; omega) _).setCell (fun hq => by simp only [From] at hq; omega) _) |>.blo (by omega)
          · exact ((((hw4.setCell (by simp only []; omega) _).setCell (by simp only []; omega) _).setCell (by simp only []; omega) _).setCell (by simp only []; omega) _)
      · go_wp2_with ((go_at_call 41; (with_reducible refine (hrf _).mono ?_); rintro e1 w1 ⟨rfl, hb1⟩; have hk1 := (Below.refl (w.heap.size + 2) _).next hb1 (by simp); obtain ⟨c0, c1, c2, c3, c4, z0, z1, z2, z3, y0, y1, y2, y3, hw1, hs1⟩ := Hbox.out _ hk1))
        go_region_held3 (fun w' => w'.cell? ⟨w.heap.size, 0, none⟩ = some (.int .i64 5) ∧ w'.cell? ⟨w.heap.size, 1, none⟩ = some (.slice A r.name.length a) ∧ w'.cell? ⟨w.heap.size, 2, none⟩ = some (.slice B r.key.length b) ∧ w'.cell? ⟨w.heap.size, 4, none⟩ = some (.slice D r.value.length d))
          (first
            | go_keep
            | exact ⟨q0, q1, q2, q4⟩
            | exact ⟨r0, r1, r2, r4⟩
            | exact ⟨s0, s1, s2, s4⟩)
          (first
            | (go_at_call 42; (with_reducible refine (joinedNil_ok _ A r.name a ?ha hn).mono ?_); (case ha => exact (HA.out.bbelow hw1).bsame (Same.refl _ _).drew); rintro e2 w2 ⟨A1, a1, rfl, hs2, hb2⟩; have hk2 := hk1.drew.next hb2 (by simpa using hs1); obtain ⟨q0, q1, q2, q3, q4, _, _, _, _, _, _, _, _, hw2, hz2⟩ := Hbox.out _ hk2)
            | (go_at_call 42; (with_reducible refine (joinedNil_ok _ B r.key b ?ha he).mono ?_); (case ha => exact HB.out.bbelow hw2); rintro e3 w3 ⟨B1, b1, rfl, hs3, hb3⟩; have hk3 := hk2.next hb3 hz2; obtain ⟨r0, r1, r2, r3, r4, _, _, _, _, _, _, _, _, hw3, hz3⟩ := Hbox.out _ hk3)
            | (go_at_call 42; (with_reducible refine (joinedNil_ok _ D r.value d ?ha hl).mono ?_); (case ha => exact HC.out.bbelow hw3); rintro e4 w4 ⟨C1, c1', rfl, hs4, hb4⟩; have hk4 := hk3.next hb4 hz3; obtain ⟨s0, s1, s2, s3, s4, z0', z1', z2', z3', y0', y1', y2', y3', hw4, hz4⟩ := Hbox.out _ hk4; have hzz1 : w.heap.size + 1 < w4.heap.size := (by omega)))
        all_goals
          go_wp2
          have hf2 := hb2.size
          have hf3 := hb3.size
          have hf4 := hb4.size
          simp at hf2
          refine bodyPost_ret (v := .tuple #[.agg #[.slice A1 r.name.length a1, .slice B1 r.key.length b1, .bool true, .slice C1 r.value.length c1'], .int .i64 0]) (by simp [results, Tryd.results16, go_sem, z0', z1', z2', z3']) rfl ?_
          rw [Hv.out]
          have hfl : (writeRq r).flag = true := Hfl.out
          refine ⟨A1, a1, B1, b1, C1, c1', by rw [hfl]; rfl, ?_, ?_, ?_, ?_⟩
          · exact (((hs2.bbelow hb3).bbelow hb4).bless fun b _ h => show From (w.heap.size + 2) b by simp only [From] at h ⊢; simp at h; omega).bsame (((((Same.refl _ _).setCell (fun hq => by simp only [From] at hq; omega) _).setCell (fun hq => by simp only [From] at hq; omega) _).setCell (fun hq => by simp only [From] at hq; omega) _).setCell (fun hq => by simp only [From] at hq; omega) _) |>.blo (by omega)
          · exact ((hs3.bbelow hb4).bless fun b _ h => show From (w.heap.size + 2) b by simp only [From] at h ⊢; omega).bsame (((((Same.refl _ _).setCell (fun hq => by simp only [From] at hq; omega) _).setCell (fun hq => by simp only [From] at hq; omega) _).setCell (fun hq => by simp only [From] at hq; omega) _).setCell (fun hq => by simp only [From] at hq; omega) _) |>.blo (by omega)
          · exact (hs4.bless fun b _ h => show From (w.heap.size + 2) b by simp only [From] at h ⊢; omega).bsame (((((Same.refl _ _).setCell (fun hq => by simp only [From] at hq; omega) _).setCell (fun hq => by simp only [From] at hq; omega) _).setCell (fun hq => by simp only [From] at hq; omega) _).setCell (fun hq => by simp only [From] at hq; omega) _) |>.blo (by omega)
          · exact ((((hw4.setCell (by simp only []; omega) _).setCell (by simp only []; omega) _).setCell (by simp only []; omega) _).setCell (by simp only []; omega) _)
    · have Hv := Lib.hid (show rqWriteS r = (wr0, 7) by unfold rqWriteS; rw [if_neg (by simp [hf]), if_neg hk])
      have k1 : (r.kind == 4) = false := by simp; omega
      have k2 : (r.kind == 5) = false := by simp; omega
      have k3 : (r.kind != 4) = true := by simp; omega
      have k4 : (r.kind != 5) = true := by simp; omega
      clear hk hf
      go_enter Tryd.func16, Tryd.ntmps16
      go_wp2_with ((go_at_call 41; (with_reducible refine (hrf _).mono ?_); rintro e1 w1 ⟨rfl, hb1⟩; have hk1 := (Below.refl (w.heap.size + 2) _).next hb1 (by simp); obtain ⟨c0, c1, c2, c3, c4, z0, z1, z2, z3, y0, y1, y2, y3, hw1, hs1⟩ := Hbox.out _ hk1))
      refine bodyPost_ret (v := .tuple #[.agg #[.slice none 0 0, .slice none 0 0, .bool false, .slice none 0 0], .int .i64 7]) (by simp [results, Tryd.results16, go_sem, z0, z1, z2, z3]) rfl ?_
      rw [Hv.out]
      exact ⟨none, 0, none, 0, none, 0, rfl, SL.nil, SL.nil, SL.nil, ((((hw1.setCell (by simp only []; omega) _).setCell (by simp only []; omega) _).setCell (by simp only []; omega) _).setCell (by simp only []; omega) _)⟩
  · have Hv := Lib.hid (show rqWriteS r = (wr0, rqFault r) by unfold rqWriteS; rw [if_pos hf])
    have t0 : (rqFault r == 0) = false := by simpa using hf
    have t1 : (rqFault r != 0) = true := by simpa using hf
    clear hf
    go_enter Tryd.func16, Tryd.ntmps16
    go_wp2_with ((go_at_call 41; (with_reducible refine (hrf _).mono ?_); rintro e1 w1 ⟨rfl, hb1⟩; have hk1 := (Below.refl (w.heap.size + 2) _).next hb1 (by simp); obtain ⟨c0, c1, c2, c3, c4, z0, z1, z2, z3, y0, y1, y2, y3, hw1, hs1⟩ := Hbox.out _ hk1))
    refine bodyPost_ret (v := .tuple #[.agg #[.slice none 0 0, .slice none 0 0, .bool false, .slice none 0 0], .int .i64 (rqFault r)]) (by simp [results, Tryd.results16, go_sem, z0, z1, z2, z3]) rfl ?_
    rw [Hv.out]
    exact ⟨none, 0, none, 0, none, 0, rfl, SL.nil, SL.nil, SL.nil, ((((hw1.setCell (by simp only []; omega) _).setCell (by simp only []; omega) _).setCell (by simp only []; omega) _).setCell (by simp only []; omega) _)⟩
end Go.Proofs.YtjgdeeabejoegaaDoor
namespace Go.Proofs.YtjgdeeabejoegaaDoor
open Go.RowKit
set_option linter.unusedVariables false
set_option linter.unusedSimpArgs false

theorem noteRd_ok (w : World) (P Q V : Option Addr) (n e l : List UInt8) (f : Bool) (p q v : Nat) (hp : Bs All w P n) (hq : Bs All w Q e) (hv : Bs All w V l) (h1 : n.length ≤ big) (h2 : e.length ≤ big) (h3 : l.length ≤ big) (hz : readFaultS ⟨n, e, f, l⟩ = 0) :
    Calls Tryd.prog 40 #[.agg #[.int .i64 0, .slice none 0 0, .slice none 0 0], .agg #[.slice P n.length p, .slice Q e.length q, .bool f, .slice V l.length v]] w (RetTxE w (⟨0, [⟨n, e, f, l⟩], []⟩, 0)) := by
  have h := note_ok w none none zeroTx 0 0 P Q V ⟨n, e, f, l⟩ p q v SL.nil SL.nil hp hq hv h1 h2 h3 (Nat.le_refl _) (Nat.le_refl _)
  rw [note_zero hz] at h
  exact h
theorem writeWr_ok (w : World) (P Q V : Option Addr) (n e l : List UInt8) (f : Bool) (p q v : Nat) (hp : Bs All w P n) (hq : Bs All w Q e) (hv : Bs All w V l) (h1 : n.length ≤ big) (h2 : e.length ≤ big) (h3 : l.length ≤ big) (hz : writeFaultS ⟨n, e, f, l⟩ = 0) :
    Calls Tryd.prog 43 #[.agg #[.int .i64 0, .slice none 0 0, .slice none 0 0], .agg #[.slice P n.length p, .slice Q e.length q, .bool f, .slice V l.length v]] w (RetTxE w (⟨0, [], [⟨n, e, f, l⟩]⟩, 0)) := by
  have h := txnWrite_ok w none none zeroTx 0 0 P Q V ⟨n, e, f, l⟩ p q v SL.nil SL.nil hp hq hv h1 h2 h3 (Nat.le_refl _) (Nat.le_refl _)
  rw [write_zero hz] at h
  exact h
set_option maxRecDepth 100000 in
set_option maxHeartbeats 4000000 in
theorem wireRead_ok (w : World) (hT : HasAt w) (A B C D : Option Addr) (r : Rq) (a b c d : Nat) (hA : Bs All w A r.name) (hB : Bs All w B r.key) (hC : Bs All w C r.last) (hn : r.name.length ≤ big) (he : r.key.length ≤ big) (hl : r.last.length ≤ big) :
    Calls Tryd.prog 11 #[.agg #[.int .i64 r.kind, .slice A r.name.length a, .slice B r.key.length b, .slice C r.last.length c, .slice D r.value.length d]] w (RetWrE w (rqReadS r)) := by
  have HT := Lib.hid hT
  have HA := Lib.hid hA
  have HB := Lib.hid hB
  have HC := Lib.hid hC
  have Hbox := Lib.hid (show ∀ W, Below (w.heap.size + 2) ((w.alloc (.cells #[.int .i64 r.kind, .slice A r.name.length a, .slice B r.key.length b, .slice C r.last.length c, .slice D r.value.length d] 24)).alloc (.cells #[.slice none 0 0, .slice none 0 0, .bool false, .slice none 0 0] 26)) W → Box2 w 26 r.kind A B C D r a b c d W from fun W hW => box2_of w _ A B C D r a b c d hW)
  clear hA hB hC hT
  have hrf := fun w hT => wireCheck_ok w hT A B C D r a b c d
  by_cases hf : rqFault r = 0
  · rw [hf] at hrf
    by_cases hk : r.kind = 2 ∨ r.kind = 3
    · have Hv := Lib.hid (show rqReadS r = (readRq r, 0) by unfold rqReadS; rw [if_neg (by simp [hf]), if_pos hk])
      have Hz0 := Lib.hid (show readFaultS ⟨r.name, r.key, (r.kind == 3), r.last⟩ = 0 from rq_read hf hk)
      have Hfl := Lib.hid (show readRq r = ⟨r.name, r.key, (r.kind == 3), r.last⟩ from rfl)
      clear hf
      generalize hkg : r.kind = kd at *
      clear hkg
      rcases hk with rfl | rfl
      · have Hz := Lib.hid (show readFaultS ⟨r.name, r.key, false, r.last⟩ = 0 from Hz0.out)
        go_enter Tryd.func11, Tryd.ntmps11
        go_wp2_with (first
          | (go_at_call 39; (with_reducible refine (hrf _ ?hT).mono ?_); (case hT => exact HT.out.below ((((Below.refl w.heap.size w).alloc (Nat.le_refl _) _).alloc (by simp) _))); rintro e1 w1 ⟨rfl, hb1⟩; have hk1 := (Below.refl (w.heap.size + 2) _).next hb1 (by simp); obtain ⟨c0, c1, c2, c3, c4, z0, z1, z2, z3, y0, y1, y2, y3, hw1, hs1⟩ := Hbox.out _ hk1)
          | (go_at_call 40; (with_reducible refine (noteRd_ok _ A B C r.name r.key r.last false a b c ?h1 ?h2 ?h3 hn he hl Hz.out).mono ?_); (case h1 => exact HA.out.bbelow hw1); (case h2 => exact HB.out.bbelow hw1); (case h3 => exact HC.out.bbelow hw1); rintro e2 w2 ⟨A2, n2, B2, m2, rfl, _, _, hsR, hsW, hb2⟩; have hk2 := hk1.next hb2 hs1; obtain ⟨_, _, _, _, _, z0', z1', z2', z3', y0', y1', y2', y3', hw2, hz2⟩ := Hbox.out _ hk2; obtain ⟨g, off, A3, a3, B3, b3, C3, c3', rfl, hgS, hgl, q0, q1, q2, q3, t1, t2, t3, _, _, _⟩ := wrs_at hsR (k := 0) (by simp); simp only [Nat.zero_mul, Nat.add_zero, List.getElem_cons_zero] at q0 q1 q2 q3 t1 t2 t3; have hb2s := hb2.size; have hzz1 : w.heap.size + 1 < w2.heap.size := (by omega)))
        refine bodyPost_ret (v := .tuple #[.agg #[.slice A3 r.name.length a3, .slice B3 r.key.length b3, .bool false, .slice C3 r.last.length c3'], .int .i64 0]) (by simp [results, Tryd.results11, go_sem, z0', z1', z2', z3', y0', y1', y2', y3', hzz1]) rfl ?_
        rw [Hv.out, Hfl.out]
        refine ⟨A3, a3, B3, b3, C3, c3', rfl, ?_, ?_, ?_, ?_⟩
        · exact (t1.bless fun b _ h => show From (w.heap.size + 2) b by simp only [From] at h ⊢; omega).bsame (by repeat' (first | exact Same.refl _ _ | assumption | refine Same.drew ?_ | refine Same.drewN ?_ _ | refine Same.alloc ?_ _ | refine Same.setCell ?_ (fun hq => by simp only [From] at hq; first | omega | (simp at hq; done) | (simp at hq; omega)) _)) |>.blo (by omega)
        · exact (t2.bless fun b _ h => show From (w.heap.size + 2) b by simp only [From] at h ⊢; omega).bsame (by repeat' (first | exact Same.refl _ _ | assumption | refine Same.drew ?_ | refine Same.drewN ?_ _ | refine Same.alloc ?_ _ | refine Same.setCell ?_ (fun hq => by simp only [From] at hq; first | omega | (simp at hq; done) | (simp at hq; omega)) _)) |>.blo (by omega)
        · exact (t3.bless fun b _ h => show From (w.heap.size + 2) b by simp only [From] at h ⊢; omega).bsame (by repeat' (first | exact Same.refl _ _ | assumption | refine Same.drew ?_ | refine Same.drewN ?_ _ | refine Same.alloc ?_ _ | refine Same.setCell ?_ (fun hq => by simp only [From] at hq; first | omega | (simp at hq; done) | (simp at hq; omega)) _)) |>.blo (by omega)
        · repeat' (first | exact Below.refl _ _ | assumption | refine Below.drew ?_ | refine below_drewN ?_ _ | refine Below.setCell ?_ (by first | (simp; done) | omega | (simp; omega)) _ | refine Below.alloc ?_ (by first | exact Nat.le_refl _ | omega | (simp; done) | (simp; omega)) _)
      · have Hz := Lib.hid (show readFaultS ⟨r.name, r.key, true, r.last⟩ = 0 from Hz0.out)
        go_enter Tryd.func11, Tryd.ntmps11
        go_wp2_with (first
          | (go_at_call 39; (with_reducible refine (hrf _ ?hT).mono ?_); (case hT => exact HT.out.below ((((Below.refl w.heap.size w).alloc (Nat.le_refl _) _).alloc (by simp) _))); rintro e1 w1 ⟨rfl, hb1⟩; have hk1 := (Below.refl (w.heap.size + 2) _).next hb1 (by simp); obtain ⟨c0, c1, c2, c3, c4, z0, z1, z2, z3, y0, y1, y2, y3, hw1, hs1⟩ := Hbox.out _ hk1)
          | (go_at_call 40; (with_reducible refine (noteRd_ok _ A B C r.name r.key r.last true a b c ?h1 ?h2 ?h3 hn he hl Hz.out).mono ?_); (case h1 => exact HA.out.bbelow hw1); (case h2 => exact HB.out.bbelow hw1); (case h3 => exact HC.out.bbelow hw1); rintro e2 w2 ⟨A2, n2, B2, m2, rfl, _, _, hsR, hsW, hb2⟩; have hk2 := hk1.next hb2 hs1; obtain ⟨_, _, _, _, _, z0', z1', z2', z3', y0', y1', y2', y3', hw2, hz2⟩ := Hbox.out _ hk2; obtain ⟨g, off, A3, a3, B3, b3, C3, c3', rfl, hgS, hgl, q0, q1, q2, q3, t1, t2, t3, _, _, _⟩ := wrs_at hsR (k := 0) (by simp); simp only [Nat.zero_mul, Nat.add_zero, List.getElem_cons_zero] at q0 q1 q2 q3 t1 t2 t3; have hb2s := hb2.size; have hzz1 : w.heap.size + 1 < w2.heap.size := (by omega)))
        refine bodyPost_ret (v := .tuple #[.agg #[.slice A3 r.name.length a3, .slice B3 r.key.length b3, .bool true, .slice C3 r.last.length c3'], .int .i64 0]) (by simp [results, Tryd.results11, go_sem, z0', z1', z2', z3', y0', y1', y2', y3', hzz1]) rfl ?_
        rw [Hv.out, Hfl.out]
        refine ⟨A3, a3, B3, b3, C3, c3', rfl, ?_, ?_, ?_, ?_⟩
        · exact (t1.bless fun b _ h => show From (w.heap.size + 2) b by simp only [From] at h ⊢; omega).bsame (by repeat' (first | exact Same.refl _ _ | assumption | refine Same.drew ?_ | refine Same.drewN ?_ _ | refine Same.alloc ?_ _ | refine Same.setCell ?_ (fun hq => by simp only [From] at hq; first | omega | (simp at hq; done) | (simp at hq; omega)) _)) |>.blo (by omega)
        · exact (t2.bless fun b _ h => show From (w.heap.size + 2) b by simp only [From] at h ⊢; omega).bsame (by repeat' (first | exact Same.refl _ _ | assumption | refine Same.drew ?_ | refine Same.drewN ?_ _ | refine Same.alloc ?_ _ | refine Same.setCell ?_ (fun hq => by simp only [From] at hq; first | omega | (simp at hq; done) | (simp at hq; omega)) _)) |>.blo (by omega)
        · exact (t3.bless fun b _ h => show From (w.heap.size + 2) b by simp only [From] at h ⊢; omega).bsame (by repeat' (first | exact Same.refl _ _ | assumption | refine Same.drew ?_ | refine Same.drewN ?_ _ | refine Same.alloc ?_ _ | refine Same.setCell ?_ (fun hq => by simp only [From] at hq; first | omega | (simp at hq; done) | (simp at hq; omega)) _)) |>.blo (by omega)
        · repeat' (first | exact Below.refl _ _ | assumption | refine Below.drew ?_ | refine below_drewN ?_ _ | refine Below.setCell ?_ (by first | (simp; done) | omega | (simp; omega)) _ | refine Below.alloc ?_ (by first | exact Nat.le_refl _ | omega | (simp; done) | (simp; omega)) _)
    · have Hv := Lib.hid (show rqReadS r = (wr0, 7) by unfold rqReadS; rw [if_neg (by simp [hf]), if_neg hk])
      have k1 : (r.kind == 2) = false := by simp; omega
      have k2 : (r.kind == 3) = false := by simp; omega
      clear hk hf
      go_enter Tryd.func11, Tryd.ntmps11
      go_wp2_with ((go_at_call 39; (with_reducible refine (hrf _ ?hT).mono ?_); (case hT => exact HT.out.below ((((Below.refl w.heap.size w).alloc (Nat.le_refl _) _).alloc (by simp) _))); rintro e1 w1 ⟨rfl, hb1⟩; have hk1 := (Below.refl (w.heap.size + 2) _).next hb1 (by simp); obtain ⟨c0, c1, c2, c3, c4, z0, z1, z2, z3, y0, y1, y2, y3, hw1, hs1⟩ := Hbox.out _ hk1))
      refine bodyPost_ret (v := .tuple #[.agg #[.slice none 0 0, .slice none 0 0, .bool false, .slice none 0 0], .int .i64 7]) (by simp [results, Tryd.results11, go_sem, z0, z1, z2, z3]) rfl ?_
      rw [Hv.out]
      exact ⟨none, 0, none, 0, none, 0, rfl, SL.nil, SL.nil, SL.nil, ((((hw1.setCell (by simp only []; omega) _).setCell (by simp only []; omega) _).setCell (by simp only []; omega) _).setCell (by simp only []; omega) _)⟩
  · have Hv := Lib.hid (show rqReadS r = (wr0, rqFault r) by unfold rqReadS; rw [if_pos hf])
    have t0 : (rqFault r == 0) = false := by simpa using hf
    have t1 : (rqFault r != 0) = true := by simpa using hf
    clear hf
    go_enter Tryd.func11, Tryd.ntmps11
    go_wp2_with ((go_at_call 39; (with_reducible refine (hrf _ ?hT).mono ?_); (case hT => exact HT.out.below ((((Below.refl w.heap.size w).alloc (Nat.le_refl _) _).alloc (by simp) _))); rintro e1 w1 ⟨rfl, hb1⟩; have hk1 := (Below.refl (w.heap.size + 2) _).next hb1 (by simp); obtain ⟨c0, c1, c2, c3, c4, z0, z1, z2, z3, y0, y1, y2, y3, hw1, hs1⟩ := Hbox.out _ hk1))
    refine bodyPost_ret (v := .tuple #[.agg #[.slice none 0 0, .slice none 0 0, .bool false, .slice none 0 0], .int .i64 (rqFault r)]) (by simp [results, Tryd.results11, go_sem, z0, z1, z2, z3]) rfl ?_
    rw [Hv.out]
    exact ⟨none, 0, none, 0, none, 0, rfl, SL.nil, SL.nil, SL.nil, ((((hw1.setCell (by simp only []; omega) _).setCell (by simp only []; omega) _).setCell (by simp only []; omega) _).setCell (by simp only []; omega) _)⟩
set_option maxRecDepth 100000 in
set_option maxHeartbeats 4000000 in
theorem wireWrite_ok (w : World) (hT : HasAt w) (A B C D : Option Addr) (r : Rq) (a b c d : Nat) (hA : Bs All w A r.name) (hB : Bs All w B r.key) (hC : Bs All w D r.value) (hn : r.name.length ≤ big) (he : r.key.length ≤ big) (hl : r.value.length ≤ big) :
    Calls Tryd.prog 15 #[.agg #[.int .i64 r.kind, .slice A r.name.length a, .slice B r.key.length b, .slice C r.last.length c, .slice D r.value.length d]] w (RetWrE w (rqWriteS r)) := by
  have HT := Lib.hid hT
  have HA := Lib.hid hA
  have HB := Lib.hid hB
  have HC := Lib.hid hC
  have Hbox := Lib.hid (show ∀ W, Below (w.heap.size + 2) ((w.alloc (.cells #[.int .i64 r.kind, .slice A r.name.length a, .slice B r.key.length b, .slice C r.last.length c, .slice D r.value.length d] 24)).alloc (.cells #[.slice none 0 0, .slice none 0 0, .bool false, .slice none 0 0] 34)) W → Box2 w 34 r.kind A B C D r a b c d W from fun W hW => box2_of w _ A B C D r a b c d hW)
  clear hA hB hC hT
  have hrf := fun w hT => wireCheck_ok w hT A B C D r a b c d
  by_cases hf : rqFault r = 0
  · rw [hf] at hrf
    by_cases hk : r.kind = 4 ∨ r.kind = 5
    · have Hv := Lib.hid (show rqWriteS r = (writeRq r, 0) by unfold rqWriteS; rw [if_neg (by simp [hf]), if_pos hk])
      have Hz0 := Lib.hid (show writeFaultS ⟨r.name, r.key, (r.kind == 5), r.value⟩ = 0 from rq_write hf hk)
      have Hfl := Lib.hid (show writeRq r = ⟨r.name, r.key, (r.kind == 5), r.value⟩ from rfl)
      clear hf
      generalize hkg : r.kind = kd at *
      clear hkg
      rcases hk with rfl | rfl
      · have Hz := Lib.hid (show writeFaultS ⟨r.name, r.key, false, r.value⟩ = 0 from Hz0.out)
        go_enter Tryd.func15, Tryd.ntmps15
        go_wp2_with (first
          | (go_at_call 39; (with_reducible refine (hrf _ ?hT).mono ?_); (case hT => exact HT.out.below ((((Below.refl w.heap.size w).alloc (Nat.le_refl _) _).alloc (by simp) _))); rintro e1 w1 ⟨rfl, hb1⟩; have hk1 := (Below.refl (w.heap.size + 2) _).next hb1 (by simp); obtain ⟨c0, c1, c2, c3, c4, z0, z1, z2, z3, y0, y1, y2, y3, hw1, hs1⟩ := Hbox.out _ hk1)
          | (go_at_call 43; (with_reducible refine (writeWr_ok _ A B D r.name r.key r.value false a b d ?h1 ?h2 ?h3 hn he hl Hz.out).mono ?_); (case h1 => exact HA.out.bbelow hw1); (case h2 => exact HB.out.bbelow hw1); (case h3 => exact HC.out.bbelow hw1); rintro e2 w2 ⟨A2, n2, B2, m2, rfl, _, _, hsR, hsW, hb2⟩; have hk2 := hk1.next hb2 hs1; obtain ⟨_, _, _, _, _, z0', z1', z2', z3', y0', y1', y2', y3', hw2, hz2⟩ := Hbox.out _ hk2; obtain ⟨g, off, A3, a3, B3, b3, C3, c3', rfl, hgS, hgl, q0, q1, q2, q3, t1, t2, t3, _, _, _⟩ := wrs_at hsW (k := 0) (by simp); simp only [Nat.zero_mul, Nat.add_zero, List.getElem_cons_zero] at q0 q1 q2 q3 t1 t2 t3; have hb2s := hb2.size; have hzz1 : w.heap.size + 1 < w2.heap.size := (by omega)))
        refine bodyPost_ret (v := .tuple #[.agg #[.slice A3 r.name.length a3, .slice B3 r.key.length b3, .bool false, .slice C3 r.value.length c3'], .int .i64 0]) (by simp [results, Tryd.results15, go_sem, z0', z1', z2', z3', y0', y1', y2', y3', hzz1]) rfl ?_
        rw [Hv.out, Hfl.out]
        refine ⟨A3, a3, B3, b3, C3, c3', rfl, ?_, ?_, ?_, ?_⟩
        · exact (t1.bless fun b _ h => show From (w.heap.size + 2) b by simp only [From] at h ⊢; omega).bsame (by repeat' (first | exact Same.refl _ _ | assumption | refine Same.drew ?_ | refine Same.drewN ?_ _ | refine Same.alloc ?_ _ | refine Same.setCell ?_ (fun hq => by simp only [From] at hq; first | omega | (simp at hq; done) | (simp at hq; omega)) _)) |>.blo (by omega)
        · exact (t2.bless fun b _ h => show From (w.heap.size + 2) b by simp only [From] at h ⊢; omega).bsame (by repeat' (first | exact Same.refl _ _ | assumption | refine Same.drew ?_ | refine Same.drewN ?_ _ | refine Same.alloc ?_ _ | refine Same.setCell ?_ (fun hq => by simp only [From] at hq; first | omega | (simp at hq; done) | (simp at hq; omega)) _)) |>.blo (by omega)
        · exact (t3.bless fun b _ h => show From (w.heap.size + 2) b by simp only [From] at h ⊢; omega).bsame (by repeat' (first | exact Same.refl _ _ | assumption | refine Same.drew ?_ | refine Same.drewN ?_ _ | refine Same.alloc ?_ _ | refine Same.setCell ?_ (fun hq => by simp only [From] at hq; first | omega | (simp at hq; done) | (simp at hq; omega)) _)) |>.blo (by omega)
        · repeat' (first | exact Below.refl _ _ | assumption | refine Below.drew ?_ | refine below_drewN ?_ _ | refine Below.setCell ?_ (by first | (simp; done) | omega | (simp; omega)) _ | refine Below.alloc ?_ (by first | exact Nat.le_refl _ | omega | (simp; done) | (simp; omega)) _)
      · have Hz := Lib.hid (show writeFaultS ⟨r.name, r.key, true, r.value⟩ = 0 from Hz0.out)
        go_enter Tryd.func15, Tryd.ntmps15
        go_wp2_with (first
          | (go_at_call 39; (with_reducible refine (hrf _ ?hT).mono ?_); (case hT => exact HT.out.below ((((Below.refl w.heap.size w).alloc (Nat.le_refl _) _).alloc (by simp) _))); rintro e1 w1 ⟨rfl, hb1⟩; have hk1 := (Below.refl (w.heap.size + 2) _).next hb1 (by simp); obtain ⟨c0, c1, c2, c3, c4, z0, z1, z2, z3, y0, y1, y2, y3, hw1, hs1⟩ := Hbox.out _ hk1)
          | (go_at_call 43; (with_reducible refine (writeWr_ok _ A B D r.name r.key r.value true a b d ?h1 ?h2 ?h3 hn he hl Hz.out).mono ?_); (case h1 => exact HA.out.bbelow hw1); (case h2 => exact HB.out.bbelow hw1); (case h3 => exact HC.out.bbelow hw1); rintro e2 w2 ⟨A2, n2, B2, m2, rfl, _, _, hsR, hsW, hb2⟩; have hk2 := hk1.next hb2 hs1; obtain ⟨_, _, _, _, _, z0', z1', z2', z3', y0', y1', y2', y3', hw2, hz2⟩ := Hbox.out _ hk2; obtain ⟨g, off, A3, a3, B3, b3, C3, c3', rfl, hgS, hgl, q0, q1, q2, q3, t1, t2, t3, _, _, _⟩ := wrs_at hsW (k := 0) (by simp); simp only [Nat.zero_mul, Nat.add_zero, List.getElem_cons_zero] at q0 q1 q2 q3 t1 t2 t3; have hb2s := hb2.size; have hzz1 : w.heap.size + 1 < w2.heap.size := (by omega)))
        refine bodyPost_ret (v := .tuple #[.agg #[.slice A3 r.name.length a3, .slice B3 r.key.length b3, .bool true, .slice C3 r.value.length c3'], .int .i64 0]) (by simp [results, Tryd.results15, go_sem, z0', z1', z2', z3', y0', y1', y2', y3', hzz1]) rfl ?_
        rw [Hv.out, Hfl.out]
        refine ⟨A3, a3, B3, b3, C3, c3', rfl, ?_, ?_, ?_, ?_⟩
        · exact (t1.bless fun b _ h => show From (w.heap.size + 2) b by simp only [From] at h ⊢; omega).bsame (by repeat' (first | exact Same.refl _ _ | assumption | refine Same.drew ?_ | refine Same.drewN ?_ _ | refine Same.alloc ?_ _ | refine Same.setCell ?_ (fun hq => by simp only [From] at hq; first | omega | (simp at hq; done) | (simp at hq; omega)) _)) |>.blo (by omega)
        · exact (t2.bless fun b _ h => show From (w.heap.size + 2) b by simp only [From] at h ⊢; omega).bsame (by repeat' (first | exact Same.refl _ _ | assumption | refine Same.drew ?_ | refine Same.drewN ?_ _ | refine Same.alloc ?_ _ | refine Same.setCell ?_ (fun hq => by simp only [From] at hq; first | omega | (simp at hq; done) | (simp at hq; omega)) _)) |>.blo (by omega)
        · exact (t3.bless fun b _ h => show From (w.heap.size + 2) b by simp only [From] at h ⊢; omega).bsame (by repeat' (first | exact Same.refl _ _ | assumption | refine Same.drew ?_ | refine Same.drewN ?_ _ | refine Same.alloc ?_ _ | refine Same.setCell ?_ (fun hq => by simp only [From] at hq; first | omega | (simp at hq; done) | (simp at hq; omega)) _)) |>.blo (by omega)
        · repeat' (first | exact Below.refl _ _ | assumption | refine Below.drew ?_ | refine below_drewN ?_ _ | refine Below.setCell ?_ (by first | (simp; done) | omega | (simp; omega)) _ | refine Below.alloc ?_ (by first | exact Nat.le_refl _ | omega | (simp; done) | (simp; omega)) _)
    · have Hv := Lib.hid (show rqWriteS r = (wr0, 7) by unfold rqWriteS; rw [if_neg (by simp [hf]), if_neg hk])
      have k1 : (r.kind == 4) = false := by simp; omega
      have k2 : (r.kind == 5) = false := by simp; omega
      clear hk hf
      go_enter Tryd.func15, Tryd.ntmps15
      go_wp2_with ((go_at_call 39; (with_reducible refine (hrf _ ?hT).mono ?_); (case hT => exact HT.out.below ((((Below.refl w.heap.size w).alloc (Nat.le_refl _) _).alloc (by simp) _))); rintro e1 w1 ⟨rfl, hb1⟩; have hk1 := (Below.refl (w.heap.size + 2) _).next hb1 (by simp); obtain ⟨c0, c1, c2, c3, c4, z0, z1, z2, z3, y0, y1, y2, y3, hw1, hs1⟩ := Hbox.out _ hk1))
      refine bodyPost_ret (v := .tuple #[.agg #[.slice none 0 0, .slice none 0 0, .bool false, .slice none 0 0], .int .i64 7]) (by simp [results, Tryd.results15, go_sem, z0, z1, z2, z3]) rfl ?_
      rw [Hv.out]
      exact ⟨none, 0, none, 0, none, 0, rfl, SL.nil, SL.nil, SL.nil, ((((hw1.setCell (by simp only []; omega) _).setCell (by simp only []; omega) _).setCell (by simp only []; omega) _).setCell (by simp only []; omega) _)⟩
  · have Hv := Lib.hid (show rqWriteS r = (wr0, rqFault r) by unfold rqWriteS; rw [if_pos hf])
    have t0 : (rqFault r == 0) = false := by simpa using hf
    have t1 : (rqFault r != 0) = true := by simpa using hf
    clear hf
    go_enter Tryd.func15, Tryd.ntmps15
    go_wp2_with ((go_at_call 39; (with_reducible refine (hrf _ ?hT).mono ?_); (case hT => exact HT.out.below ((((Below.refl w.heap.size w).alloc (Nat.le_refl _) _).alloc (by simp) _))); rintro e1 w1 ⟨rfl, hb1⟩; have hk1 := (Below.refl (w.heap.size + 2) _).next hb1 (by simp); obtain ⟨c0, c1, c2, c3, c4, z0, z1, z2, z3, y0, y1, y2, y3, hw1, hs1⟩ := Hbox.out _ hk1))
    refine bodyPost_ret (v := .tuple #[.agg #[.slice none 0 0, .slice none 0 0, .bool false, .slice none 0 0], .int .i64 (rqFault r)]) (by simp [results, Tryd.results15, go_sem, z0, z1, z2, z3]) rfl ?_
    rw [Hv.out]
    exact ⟨none, 0, none, 0, none, 0, rfl, SL.nil, SL.nil, SL.nil, ((((hw1.setCell (by simp only []; omega) _).setCell (by simp only []; omega) _).setCell (by simp only []; omega) _).setCell (by simp only []; omega) _)⟩
end Go.Proofs.YtjgdeeabejoegaaDoor
namespace Go.Proofs.YtjgdeeabejoegaaDoor
open Go.RowKit
set_option linter.unusedVariables false
set_option linter.unusedSimpArgs false

theorem ws_one {w : World} {g : Nat} {t : TypeId} {A B C : Option Addr} {a b c : Nat} {x : Wr} (h : w.heap[g]? = some (.cells #[.slice A x.name.length a, .slice B x.key.length b, .bool x.flag, .slice C x.value.length c] t (0, 0))) (h1 : Bs All w A x.name) (h2 : Bs All w B x.key) (h3 : Bs All w C x.value) (g1 : x.name.length ≤ big) (g2 : x.key.length ≤ big) (g3 : x.value.length ≤ big) : Ws All w (some ⟨g, 0, none⟩) [x] := by
  intro _
  refine ⟨g, 0, rfl, trivial, (Array.getElem?_eq_some_iff.1 h).1, fun i hi => ⟨[.slice A x.name.length a, .slice B x.key.length b, .bool x.flag, .slice C x.value.length c], rfl, fun j hj => ?_, ?_⟩⟩
  · obtain rfl : i = 0 := by simpa using hi
    obtain ⟨z0, z1, z2, z3, _⟩ := box4 h
    match j, hj with
    | 0, _ => simpa using z0
    | 1, _ => simpa using z1
    | 2, _ => simpa using z2
    | 3, _ => simpa using z3
  · obtain rfl : i = 0 := by simpa using hi
    exact ⟨A, a, B, b, C, c, rfl, h1, h2, h3, g1, g2, g3⟩
theorem sameWritesOne_ok (w : World) (A B : Option Addr) (x : Wr) (c d : Nat) (ha : Ws All w A [x]) (hb : Ws All w B [x]) :
    Calls Tryd.prog 17 #[.slice A 1 c, .slice B 1 d] w (RetV w (.bool true)) := sameWrites_ok w A B [x] c d ha hb (by simp [big])
theorem rqRead_big {r : Rq} (h1 : r.name.length ≤ big) (h2 : r.key.length ≤ big) (h3 : r.last.length ≤ big) : (rqReadS r).1.name.length ≤ big ∧ (rqReadS r).1.key.length ≤ big ∧ (rqReadS r).1.value.length ≤ big := by
  unfold rqReadS
  split
  · exact ⟨by simp [wr0, big], by simp [wr0, big], by simp [wr0, big]⟩
  · split
    · exact ⟨h1, h2, h3⟩
    · exact ⟨by simp [wr0, big], by simp [wr0, big], by simp [wr0, big]⟩
theorem rqWrite_big {r : Rq} (h1 : r.name.length ≤ big) (h2 : r.key.length ≤ big) (h3 : r.value.length ≤ big) : (rqWriteS r).1.name.length ≤ big ∧ (rqWriteS r).1.key.length ≤ big ∧ (rqWriteS r).1.value.length ≤ big := by
  unfold rqWriteS
  split
  · exact ⟨by simp [wr0, big], by simp [wr0, big], by simp [wr0, big]⟩
  · split
    · exact ⟨h1, h2, h3⟩
    · exact ⟨by simp [wr0, big], by simp [wr0, big], by simp [wr0, big]⟩
set_option maxRecDepth 100000 in
set_option maxHeartbeats 4000000 in
theorem wireReads_walk (w : World) (hT : HasAt w) {cl : List Value} {r : Rq} (h : RqR All w cl r) :
    Calls Tryd.prog 3 #[.agg cl.toArray] w (RetV w (.bool true)) := by
  obtain ⟨A, a, B, b, C, c, D, d, rfl, hA, hB, hC, hD, h1, h2, h3, h4⟩ := h
  have HA := Lib.hid hA
  have HB := Lib.hid hB
  have HC := Lib.hid hC
  have HD := Lib.hid hD
  have HT := Lib.hid hT
  clear hA hB hC hD hT
  obtain ⟨x, ri, hr⟩ : ∃ (x : Wr) (ri : Int), rqReadS r = (x, ri) := ⟨_, _, rfl⟩
  have Hr := Lib.hid hr
  have Hbig := Lib.hid (rqRead_big (r := r) h1 h2 h3)
  rw [hr] at Hbig
  clear hr
  have Hbox := Lib.hid (show ∀ W, Below (w.heap.size + 1) (w.alloc (.cells #[.int .i64 r.kind, .slice A r.name.length a, .slice B r.key.length b, .slice C r.last.length c, .slice D r.value.length d] 24)) W → (W.cell? ⟨w.heap.size, 0, none⟩ = some (.int .i64 r.kind) ∧ W.cell? ⟨w.heap.size, 1, none⟩ = some (.slice A r.name.length a) ∧ W.cell? ⟨w.heap.size, 2, none⟩ = some (.slice B r.key.length b) ∧ W.cell? ⟨w.heap.size, 3, none⟩ = some (.slice C r.last.length c) ∧ W.cell? ⟨w.heap.size, 4, none⟩ = some (.slice D r.value.length d)) ∧ Below w.heap.size w W ∧ w.heap.size + 1 ≤ W.heap.size from fun W hW => by
    obtain ⟨q, _⟩ := box5 ((hW.block w.heap.size (by omega)).trans (box_new w _ _))
    exact ⟨q, ((Below.refl w.heap.size w).alloc (Nat.le_refl _) _).trans (hW.mono (by omega)), by simpa using hW.size⟩)
  go_enter Tryd.func3, Tryd.ntmps3
  go_wp2_with (first
    | (go_at_call 12; (with_reducible refine (requests_ok _ A B C D r a b c d ?h1 ?h2 ?h3 ?h4 h1 h2 h3 h4).mono ?_); (case h1 => (refine HA.out.bbelow ?_; repeat' (first | exact Below.refl _ _ | assumption | refine Below.drew ?_ | refine below_drewN ?_ _ | refine Below.alloc ?_ (by first | exact Nat.le_refl _ | omega | (simp; done) | (simp; omega)) _))); (case h2 => (refine HB.out.bbelow ?_; repeat' (first | exact Below.refl _ _ | assumption | refine Below.drew ?_ | refine below_drewN ?_ _ | refine Below.alloc ?_ (by first | exact Nat.le_refl _ | omega | (simp; done) | (simp; omega)) _))); (case h3 => (refine HC.out.bbelow ?_; repeat' (first | exact Below.refl _ _ | assumption | refine Below.drew ?_ | refine below_drewN ?_ _ | refine Below.alloc ?_ (by first | exact Nat.le_refl _ | omega | (simp; done) | (simp; omega)) _))); (case h4 => (refine HD.out.bbelow ?_; repeat' (first | exact Below.refl _ _ | assumption | refine Below.drew ?_ | refine below_drewN ?_ _ | refine Below.alloc ?_ (by first | exact Nat.le_refl _ | omega | (simp; done) | (simp; omega)) _))); rintro e1 w1 ⟨A1, a1, B1, b1, C1, c1, D1, d1, rfl, s1, s2, s3, s4, hb1'⟩; have hb1 := hb1'.mono (show w.heap.size + 1 ≤ _ by simp); obtain ⟨⟨qa, qb, qc, qd, qe⟩, hw1, hz1⟩ := Hbox.out w1 hb1; clear hb1')
    | (go_at_call 11; (with_reducible refine (wireRead_ok _ ?ht A1 B1 C1 D1 r a1 b1 c1 d1 ?h1 ?h2 ?h3 h1 h2 h3).mono ?_); (case ht => exact HT.out.below hw1); (case h1 => exact s1.bz); (case h2 => exact s2.bz); (case h3 => exact s3.bz); rw [Hr.out]; rintro e2 w2 ⟨A2, a2, B2, b2, C2, c2, rfl, p1, p2, p3, hb2'⟩; have hb2 := hb1.next hb2' hz1; obtain ⟨⟨ra, rb, rc, rd, re⟩, hw2, hz2⟩ := Hbox.out w2 hb2; have hzz2 : w.heap.size < w2.heap.size := (by omega))
    | (go_at_call 13; (with_reducible refine (rqRead_ok _ A B C D r a b c d ?h1 ?h2 ?h3 h1 h2 h3).mono ?_); (case h1 => exact HA.out.bbelow (hw2.alloc hw2.size _)); (case h2 => exact HB.out.bbelow (hw2.alloc hw2.size _)); (case h3 => exact HC.out.bbelow (hw2.alloc hw2.size _)); rw [Hr.out]; rintro e3 w3 ⟨A3, a3, B3, b3, C3, c3, rfl, q1, q2, q3, hb3⟩; have hg3 := (hb3.block w2.heap.size (by simp)).trans (box_new w2 _ _); have hw3 := (hw2.alloc hw2.size _).next hb3 (by have := hw2.size; simp; omega); have hz3 := hb3.size; simp at hz3; have hzz3 : w2.heap.size < w3.heap.size := (by omega); have hsm3 := (((Same.refl (From w1.heap.size) w2).alloc _).trans (Same.of_below hb3)); obtain ⟨x0, x1, x2, x3, _⟩ := box4 hg3)
    | (go_at_call 14; (with_reducible refine (lawSameRead_ok _ A2 B2 C2 A3 B3 C3 x a2 b2 c2 a3 b3 c3 ?g1 ?g2 ?g3 ?g4 ?g5 ?g6).mono ?_); (case g1 => exact (p1.bsame (by repeat' (first | exact Same.refl _ _ | assumption | refine Same.drew ?_ | refine Same.drewN ?_ _ | refine Same.alloc ?_ _ | refine Same.setCell ?_ (fun hq => by simp only [From] at hq; first | omega | (simp at hq; done) | (simp at hq; omega)) _))).bz); (case g2 => exact (p2.bsame (by repeat' (first | exact Same.refl _ _ | assumption | refine Same.drew ?_ | refine Same.drewN ?_ _ | refine Same.alloc ?_ _ | refine Same.setCell ?_ (fun hq => by simp only [From] at hq; first | omega | (simp at hq; done) | (simp at hq; omega)) _))).bz); (case g3 => exact (p3.bsame (by repeat' (first | exact Same.refl _ _ | assumption | refine Same.drew ?_ | refine Same.drewN ?_ _ | refine Same.alloc ?_ _ | refine Same.setCell ?_ (fun hq => by simp only [From] at hq; first | omega | (simp at hq; done) | (simp at hq; omega)) _))).bz); (case g4 => exact (q1.bsame (by repeat' (first | exact Same.refl _ _ | assumption | refine Same.drew ?_ | refine Same.drewN ?_ _ | refine Same.alloc ?_ _ | refine Same.setCell ?_ (fun hq => by simp only [From] at hq; first | omega | (simp at hq; done) | (simp at hq; omega)) _))).bz); (case g5 => exact (q2.bsame (by repeat' (first | exact Same.refl _ _ | assumption | refine Same.drew ?_ | refine Same.drewN ?_ _ | refine Same.alloc ?_ _ | refine Same.setCell ?_ (fun hq => by simp only [From] at hq; first | omega | (simp at hq; done) | (simp at hq; omega)) _))).bz); (case g6 => exact (q3.bsame (by repeat' (first | exact Same.refl _ _ | assumption | refine Same.drew ?_ | refine Same.drewN ?_ _ | refine Same.alloc ?_ _ | refine Same.setCell ?_ (fun hq => by simp only [From] at hq; first | omega | (simp at hq; done) | (simp at hq; omega)) _))).bz); rintro e4 w4 ⟨rfl, hb4⟩))
  all_goals
    refine bodyPost_ret (v := .bool true) (by simp [results, Tryd.results3, go_sem]) rfl ⟨rfl, ?_⟩
    refine Below.next (W := _) ?_ hb4 (by simp; have := hw3.size; omega)
    repeat' (first | exact Below.refl _ _ | assumption | refine Below.drew ?_ | refine below_drewN ?_ _ | refine Below.setCell ?_ (by first | (simp; done) | omega | (simp; omega)) _ | refine Below.alloc ?_ (by first | exact Nat.le_refl _ | omega | (simp; done) | (simp; omega)) _)
set_option maxRecDepth 100000 in
set_option maxHeartbeats 4000000 in
theorem wireWrites_walk (w : World) (hT : HasAt w) {cl : List Value} {r : Rq} (h : RqR All w cl r) :
    Calls Tryd.prog 4 #[.agg cl.toArray] w (RetV w (.bool true)) := by
  obtain ⟨A, a, B, b, C, c, D, d, rfl, hA, hB, hC, hD, h1, h2, h3, h4⟩ := h
  have HA := Lib.hid hA
  have HB := Lib.hid hB
  have HC := Lib.hid hC
  have HD := Lib.hid hD
  have HT := Lib.hid hT
  clear hA hB hC hD hT
  obtain ⟨x, ri, hr⟩ : ∃ (x : Wr) (ri : Int), rqWriteS r = (x, ri) := ⟨_, _, rfl⟩
  have Hr := Lib.hid hr
  have Hbig := Lib.hid (rqWrite_big (r := r) h1 h2 h4)
  rw [hr] at Hbig
  clear hr
  have Hbox := Lib.hid (show ∀ W, Below (w.heap.size + 1) (w.alloc (.cells #[.int .i64 r.kind, .slice A r.name.length a, .slice B r.key.length b, .slice C r.last.length c, .slice D r.value.length d] 24)) W → (W.cell? ⟨w.heap.size, 0, none⟩ = some (.int .i64 r.kind) ∧ W.cell? ⟨w.heap.size, 1, none⟩ = some (.slice A r.name.length a) ∧ W.cell? ⟨w.heap.size, 2, none⟩ = some (.slice B r.key.length b) ∧ W.cell? ⟨w.heap.size, 3, none⟩ = some (.slice C r.last.length c) ∧ W.cell? ⟨w.heap.size, 4, none⟩ = some (.slice D r.value.length d)) ∧ Below w.heap.size w W ∧ w.heap.size + 1 ≤ W.heap.size from fun W hW => by
    obtain ⟨q, _⟩ := box5 ((hW.block w.heap.size (by omega)).trans (box_new w _ _))
    exact ⟨q, ((Below.refl w.heap.size w).alloc (Nat.le_refl _) _).trans (hW.mono (by omega)), by simpa using hW.size⟩)
  go_enter Tryd.func4, Tryd.ntmps4
  go_wp2_with (first
    | (go_at_call 12; (with_reducible refine (requests_ok _ A B C D r a b c d ?h1 ?h2 ?h3 ?h4 h1 h2 h3 h4).mono ?_); (case h1 => (refine HA.out.bbelow ?_; repeat' (first | exact Below.refl _ _ | assumption | refine Below.drew ?_ | refine below_drewN ?_ _ | refine Below.alloc ?_ (by first | exact Nat.le_refl _ | omega | (simp; done) | (simp; omega)) _))); (case h2 => (refine HB.out.bbelow ?_; repeat' (first | exact Below.refl _ _ | assumption | refine Below.drew ?_ | refine below_drewN ?_ _ | refine Below.alloc ?_ (by first | exact Nat.le_refl _ | omega | (simp; done) | (simp; omega)) _))); (case h3 => (refine HC.out.bbelow ?_; repeat' (first | exact Below.refl _ _ | assumption | refine Below.drew ?_ | refine below_drewN ?_ _ | refine Below.alloc ?_ (by first | exact Nat.le_refl _ | omega | (simp; done) | (simp; omega)) _))); (case h4 => (refine HD.out.bbelow ?_; repeat' (first | exact Below.refl _ _ | assumption | refine Below.drew ?_ | refine below_drewN ?_ _ | refine Below.alloc ?_ (by first | exact Nat.le_refl _ | omega | (simp; done) | (simp; omega)) _))); rintro e1 w1 ⟨A1, a1, B1, b1, C1, c1, D1, d1, rfl, s1, s2, s3, s4, hb1'⟩; have hb1 := hb1'.mono (show w.heap.size + 1 ≤ _ by simp); obtain ⟨⟨qa, qb, qc, qd, qe⟩, hw1, hz1⟩ := Hbox.out w1 hb1; clear hb1')
    | (go_at_call 15; (with_reducible refine (wireWrite_ok _ ?ht A1 B1 C1 D1 r a1 b1 c1 d1 ?h1 ?h2 ?h3 h1 h2 h4).mono ?_); (case ht => exact HT.out.below hw1); (case h1 => exact s1.bz); (case h2 => exact s2.bz); (case h3 => exact s4.bz); rw [Hr.out]; rintro e2 w2 ⟨A2, a2, B2, b2, C2, c2, rfl, p1, p2, p3, hb2'⟩; have hb2 := hb1.next hb2' hz1; obtain ⟨⟨ra, rb, rc, rd, re⟩, hw2, hz2⟩ := Hbox.out w2 hb2; have hzz2 : w.heap.size < w2.heap.size := (by omega))
    | (go_at_call 16; (with_reducible refine (rqWrite_ok _ A B C D r a b c d ?h1 ?h2 ?h3 h1 h2 h4).mono ?_); (case h1 => exact HA.out.bbelow (hw2.alloc hw2.size _)); (case h2 => exact HB.out.bbelow (hw2.alloc hw2.size _)); (case h3 => exact HD.out.bbelow (hw2.alloc hw2.size _)); rw [Hr.out]; rintro e3 w3 ⟨A3, a3, B3, b3, C3, c3, rfl, q1, q2, q3, hb3⟩; have hg3 := (hb3.block w2.heap.size (by simp)).trans (box_new w2 _ _); have hw3 := (hw2.alloc hw2.size _).next hb3 (by have := hw2.size; simp; omega); have hz3 := hb3.size; simp at hz3; have hzz3 : w2.heap.size < w3.heap.size := (by omega); have hsm3 := (((Same.refl (From w1.heap.size) w2).alloc _).trans (Same.of_below hb3)); obtain ⟨x0, x1, x2, x3, _⟩ := box4 hg3)
    | (go_at_call 17; (with_reducible refine (sameWritesOne_ok _ _ _ x _ _ ?g1 ?g2).mono ?_); (case g1 => exact ws_one (alloc3 w3 _ _ _).2.1 (p1.bsame (by repeat' (first | exact Same.refl _ _ | assumption | refine Same.drew ?_ | refine Same.drewN ?_ _ | refine Same.alloc ?_ _ | refine Same.setCell ?_ (fun hq => by simp only [From] at hq; first | omega | (simp at hq; done) | (simp at hq; omega)) _))).bz (p2.bsame (by repeat' (first | exact Same.refl _ _ | assumption | refine Same.drew ?_ | refine Same.drewN ?_ _ | refine Same.alloc ?_ _ | refine Same.setCell ?_ (fun hq => by simp only [From] at hq; first | omega | (simp at hq; done) | (simp at hq; omega)) _))).bz (p3.bsame (by repeat' (first | exact Same.refl _ _ | assumption | refine Same.drew ?_ | refine Same.drewN ?_ _ | refine Same.alloc ?_ _ | refine Same.setCell ?_ (fun hq => by simp only [From] at hq; first | omega | (simp at hq; done) | (simp at hq; omega)) _))).bz Hbig.out.1 Hbig.out.2.1 Hbig.out.2.2); (case g2 => exact ws_one (alloc3 w3 _ _ _).2.2.1 (q1.bsame (by repeat' (first | exact Same.refl _ _ | assumption | refine Same.drew ?_ | refine Same.drewN ?_ _ | refine Same.alloc ?_ _ | refine Same.setCell ?_ (fun hq => by simp only [From] at hq; first | omega | (simp at hq; done) | (simp at hq; omega)) _))).bz (q2.bsame (by repeat' (first | exact Same.refl _ _ | assumption | refine Same.drew ?_ | refine Same.drewN ?_ _ | refine Same.alloc ?_ _ | refine Same.setCell ?_ (fun hq => by simp only [From] at hq; first | omega | (simp at hq; done) | (simp at hq; omega)) _))).bz (q3.bsame (by repeat' (first | exact Same.refl _ _ | assumption | refine Same.drew ?_ | refine Same.drewN ?_ _ | refine Same.alloc ?_ _ | refine Same.setCell ?_ (fun hq => by simp only [From] at hq; first | omega | (simp at hq; done) | (simp at hq; omega)) _))).bz Hbig.out.1 Hbig.out.2.1 Hbig.out.2.2); rintro e4 w4 ⟨rfl, hb4⟩))
  all_goals
    refine bodyPost_ret (v := .bool true) (by simp [results, Tryd.results4, go_sem]) rfl ⟨rfl, ?_⟩
    refine Below.next (W := _) ?_ hb4 (by simp; have := hw3.size; omega)
    repeat' (first | exact Below.refl _ _ | assumption | refine Below.drew ?_ | refine below_drewN ?_ _ | refine Below.setCell ?_ (by first | (simp; done) | omega | (simp; omega)) _ | refine Below.alloc ?_ (by first | exact Nat.le_refl _ | omega | (simp; done) | (simp; omega)) _)
end Go.Proofs.YtjgdeeabejoegaaDoor
