/- Reads and writes copied: ReadCopy, and the program's read. -/
import Derived.Test.YthhcdibimnifaaaRd
import Derived.Test.YthhcdibimnifaaaTenOwn
namespace Go.Proofs.Ythhcdibimnifaaa
open Go.RowKit
set_option linter.unusedVariables false
set_option linter.unusedSimpArgs false

set_option maxRecDepth 100000 in
set_option maxHeartbeats 1000000 in
theorem readCopy_ok (w : World) (A B C : Option Addr) (x : Wr) (a b c : Nat) (ha : Bs All w A x.name) (hb : Bs All w B x.key) (hc : Bs All w C x.value) (h1 : x.name.length ≤ big) (h2 : x.key.length ≤ big) (h3 : x.value.length ≤ big) :
    Calls Try.prog 70 #[.agg #[.slice A x.name.length a, .slice B x.key.length b, .bool x.flag, .slice C x.value.length c]] w (RetWr w x) := by
  have Ha := Lib.hid ha
  have Hb := Lib.hid hb
  have Hc := Lib.hid hc
  clear ha hb hc
  have Hbox := Lib.hid (show ∀ W, Below (w.heap.size + 2) ((w.alloc (.cells #[.slice A x.name.length a, .slice B x.key.length b, .bool x.flag, .slice C x.value.length c] 88)).alloc (.cells #[.slice none 0 0, .slice none 0 0, .bool false, .slice none 0 0] 88)) W → W.heap[w.heap.size]? = some (.cells #[.slice A x.name.length a, .slice B x.key.length b, .bool x.flag, .slice C x.value.length c] 88 (0, 0)) ∧ W.heap[w.heap.size + 1]? = some (.cells #[.slice none 0 0, .slice none 0 0, .bool false, .slice none 0 0] 88 (0, 0)) ∧ Below w.heap.size w W ∧ w.heap.size + 2 ≤ W.heap.size from fun W hW =>
    ⟨(hW.block _ (by omega)).trans ((heap_alloc_old _ _ (by simp)).trans (box_new w _ _)), (hW.block _ (by omega)).trans (by have := box_new (w.alloc (.cells #[.slice A x.name.length a, .slice B x.key.length b, .bool x.flag, .slice C x.value.length c] 88)) #[.slice none 0 0, .slice none 0 0, .bool false, .slice none 0 0] 88; simpa using this), (((Below.refl w.heap.size w).alloc (Nat.le_refl _) _).alloc (by simp) _).trans (hW.mono (by omega)), by simpa using hW.size⟩)
  go_enter Try.func70, Try.ntmps70
  go_wp2_with fail
  go_region_held3 (fun w' => w'.cell? ⟨w.heap.size, 0, none⟩ = some (.slice A x.name.length a) ∧ w'.cell? ⟨w.heap.size, 1, none⟩ = some (.slice B x.key.length b) ∧ w'.cell? ⟨w.heap.size, 2, none⟩ = some (.bool x.flag) ∧ w'.cell? ⟨w.heap.size, 3, none⟩ = some (.slice C x.value.length c))
    (first
      | go_keep
      | exact ⟨q0, q1, q2, q3⟩
      | exact ⟨r0, r1, r2, r3⟩
      | exact ⟨s0, s1, s2, s3⟩)
    (first
      | (go_at_call 90; (with_reducible refine (joinedNil_ok _ A x.name a ?ha h1).mono ?_); (case ha => (refine Ha.out.bbelow ?_; repeat' (first | exact Below.refl _ _ | assumption | refine Below.drew ?_ | refine below_drewN ?_ _ | refine Below.alloc ?_ (by first | exact Nat.le_refl _ | omega | (simp; done) | (simp; omega)) _))); rintro e w1 ⟨A1, a1, rfl, hs1, hb1⟩; have hk1 : Below (w.heap.size + 2) ((w.alloc (.cells #[.slice A x.name.length a, .slice B x.key.length b, .bool x.flag, .slice C x.value.length c] 88)).alloc (.cells #[.slice none 0 0, .slice none 0 0, .bool false, .slice none 0 0] 88)) w1 := (Below.refl _ _).drew.next hb1 (by simp); obtain ⟨q0, q1, q2, q3, _⟩ := box4 (Hbox.out _ hk1).1)
      | (go_at_call 90; (with_reducible refine (joinedNil_ok _ B x.key b ?ha h2).mono ?_); (case ha => exact Hb.out.bbelow (Hbox.out _ hk1).2.2.1); rintro e w2 ⟨B1, b1, rfl, hs2, hb2⟩; have hk2 := hk1.next hb2 (by simpa using hk1.size); obtain ⟨r0, r1, r2, r3, _⟩ := box4 (Hbox.out _ hk2).1)
      | (go_at_call 90; (with_reducible refine (joinedNil_ok _ C x.value c ?ha h3).mono ?_); (case ha => exact Hc.out.bbelow (Hbox.out _ hk2).2.2.1); rintro e w3 ⟨C1, c1, rfl, hs3, hb3⟩; have hk3 := hk2.next hb3 (by simpa using hk2.size); obtain ⟨s0, s1, s2, s3, _⟩ := box4 (Hbox.out _ hk3).1; obtain ⟨z0, z1, z2, z3, y0, y1, y2, y3⟩ := box4 (Hbox.out _ hk3).2.1; have hzz := (Hbox.out _ hk3).2.2.2; have hzz1 : w.heap.size + 1 < w3.heap.size := (by omega)))
  all_goals
    go_wp2
    have hf1 := hk1.size
    have hf2 := hb2.size
    have hf3 := hb3.size
    simp at hf1
    refine bodyPost_ret (v := .agg #[.slice A1 x.name.length a1, .slice B1 x.key.length b1, .bool x.flag, .slice C1 x.value.length c1]) (by simp [results, Try.results70, go_sem, z0, z1, z2, z3]) rfl ⟨A1, a1, B1, b1, C1, c1, rfl, ?_, ?_, ?_, ?_⟩
    · exact (((hs1.bbelow hb2).bbelow hb3).bless fun b _ h => show From (w.heap.size + 2) b by simpa using h).bsame (((((Same.refl _ _).setCell (fun hq => by simp only [From] at hq; omega) _).setCell (fun hq => by simp only [From] at hq; omega) _).setCell (fun hq => by simp only [From] at hq; omega) _).setCell (fun hq => by simp only [From] at hq; omega) _) |>.blo (by omega)
    · exact (((hs2.bbelow hb3)).bless fun b _ h => show From (w.heap.size + 2) b by simp only [From] at h ⊢; omega).bsame (((((Same.refl _ _).setCell (fun hq => by simp only [From] at hq; omega) _).setCell (fun hq => by simp only [From] at hq; omega) _).setCell (fun hq => by simp only [From] at hq; omega) _).setCell (fun hq => by simp only [From] at hq; omega) _) |>.blo (by omega)
    · exact (hs3.bless fun b _ h => show From (w.heap.size + 2) b by simp only [From] at h ⊢; omega).bsame (((((Same.refl _ _).setCell (fun hq => by simp only [From] at hq; omega) _).setCell (fun hq => by simp only [From] at hq; omega) _).setCell (fun hq => by simp only [From] at hq; omega) _).setCell (fun hq => by simp only [From] at hq; omega) _) |>.blo (by omega)
    · exact ((((Hbox.out _ hk3).2.2.1.setCell (by simp only []; omega) _).setCell (by simp only []; omega) _).setCell (by simp only []; omega) _).setCell (by simp only []; omega) _

set_option maxRecDepth 100000 in
set_option maxHeartbeats 1000000 in
theorem txnRead_ok (w : World) (A B C : Option Addr) (x : Wr) (a b c : Nat) (ha : Bs All w A x.name) (hb : Bs All w B x.key) (hc : Bs All w C x.value) (h1 : x.name.length ≤ big) (h2 : x.key.length ≤ big) (h3 : x.value.length ≤ big) :
    Calls Try.prog 139 #[.agg #[.slice A x.name.length a, .slice B x.key.length b, .bool x.flag, .slice C x.value.length c]] w (RetWr w x) := by
  have Ha := Lib.hid ha
  have Hb := Lib.hid hb
  have Hc := Lib.hid hc
  clear ha hb hc
  have Hbox := Lib.hid (show ∀ W, Below (w.heap.size + 2) ((w.alloc (.cells #[.slice A x.name.length a, .slice B x.key.length b, .bool x.flag, .slice C x.value.length c] 88)).alloc (.cells #[.slice none 0 0, .slice none 0 0, .bool false, .slice none 0 0] 88)) W → W.heap[w.heap.size]? = some (.cells #[.slice A x.name.length a, .slice B x.key.length b, .bool x.flag, .slice C x.value.length c] 88 (0, 0)) ∧ W.heap[w.heap.size + 1]? = some (.cells #[.slice none 0 0, .slice none 0 0, .bool false, .slice none 0 0] 88 (0, 0)) ∧ Below w.heap.size w W ∧ w.heap.size + 2 ≤ W.heap.size from fun W hW =>
    ⟨(hW.block _ (by omega)).trans ((heap_alloc_old _ _ (by simp)).trans (box_new w _ _)), (hW.block _ (by omega)).trans (by have := box_new (w.alloc (.cells #[.slice A x.name.length a, .slice B x.key.length b, .bool x.flag, .slice C x.value.length c] 88)) #[.slice none 0 0, .slice none 0 0, .bool false, .slice none 0 0] 88; simpa using this), (((Below.refl w.heap.size w).alloc (Nat.le_refl _) _).alloc (by simp) _).trans (hW.mono (by omega)), by simpa using hW.size⟩)
  go_enter Try.func139, Try.ntmps139
  go_wp2_with fail
  go_region_held3 (fun w' => w'.cell? ⟨w.heap.size, 0, none⟩ = some (.slice A x.name.length a) ∧ w'.cell? ⟨w.heap.size, 1, none⟩ = some (.slice B x.key.length b) ∧ w'.cell? ⟨w.heap.size, 2, none⟩ = some (.bool x.flag) ∧ w'.cell? ⟨w.heap.size, 3, none⟩ = some (.slice C x.value.length c))
    (first
      | go_keep
      | exact ⟨q0, q1, q2, q3⟩
      | exact ⟨r0, r1, r2, r3⟩
      | exact ⟨s0, s1, s2, s3⟩)
    (first
      | (go_at_call 86; (with_reducible refine (clone_ok _ A x.name a ?ha h1).mono ?_); (case ha => (refine Ha.out.bbelow ?_; repeat' (first | exact Below.refl _ _ | assumption | refine Below.drew ?_ | refine below_drewN ?_ _ | refine Below.alloc ?_ (by first | exact Nat.le_refl _ | omega | (simp; done) | (simp; omega)) _))); rintro e w1 ⟨A1, a1, rfl, hs1, hb1⟩; have hk1 : Below (w.heap.size + 2) ((w.alloc (.cells #[.slice A x.name.length a, .slice B x.key.length b, .bool x.flag, .slice C x.value.length c] 88)).alloc (.cells #[.slice none 0 0, .slice none 0 0, .bool false, .slice none 0 0] 88)) w1 := (Below.refl _ _).drew.next hb1 (by simp); obtain ⟨q0, q1, q2, q3, _⟩ := box4 (Hbox.out _ hk1).1)
      | (go_at_call 86; (with_reducible refine (clone_ok _ B x.key b ?ha h2).mono ?_); (case ha => exact Hb.out.bbelow (Hbox.out _ hk1).2.2.1); rintro e w2 ⟨B1, b1, rfl, hs2, hb2⟩; have hk2 := hk1.next hb2 (by simpa using hk1.size); obtain ⟨r0, r1, r2, r3, _⟩ := box4 (Hbox.out _ hk2).1)
      | (go_at_call 86; (with_reducible refine (clone_ok _ C x.value c ?ha h3).mono ?_); (case ha => exact Hc.out.bbelow (Hbox.out _ hk2).2.2.1); rintro e w3 ⟨C1, c1, rfl, hs3, hb3⟩; have hk3 := hk2.next hb3 (by simpa using hk2.size); obtain ⟨s0, s1, s2, s3, _⟩ := box4 (Hbox.out _ hk3).1; obtain ⟨z0, z1, z2, z3, y0, y1, y2, y3⟩ := box4 (Hbox.out _ hk3).2.1; have hzz := (Hbox.out _ hk3).2.2.2; have hzz1 : w.heap.size + 1 < w3.heap.size := (by omega)))
  all_goals
    go_wp2
    have hf1 := hk1.size
    have hf2 := hb2.size
    have hf3 := hb3.size
    simp at hf1
    refine bodyPost_ret (v := .agg #[.slice A1 x.name.length a1, .slice B1 x.key.length b1, .bool x.flag, .slice C1 x.value.length c1]) (by simp [results, Try.results139, go_sem, z0, z1, z2, z3]) rfl ⟨A1, a1, B1, b1, C1, c1, rfl, ?_, ?_, ?_, ?_⟩
    · exact (((hs1.bbelow hb2).bbelow hb3).bless fun b _ h => show From (w.heap.size + 2) b by simpa using h).bsame (((((Same.refl _ _).setCell (fun hq => by simp only [From] at hq; omega) _).setCell (fun hq => by simp only [From] at hq; omega) _).setCell (fun hq => by simp only [From] at hq; omega) _).setCell (fun hq => by simp only [From] at hq; omega) _) |>.blo (by omega)
    · exact (((hs2.bbelow hb3)).bless fun b _ h => show From (w.heap.size + 2) b by simp only [From] at h ⊢; omega).bsame (((((Same.refl _ _).setCell (fun hq => by simp only [From] at hq; omega) _).setCell (fun hq => by simp only [From] at hq; omega) _).setCell (fun hq => by simp only [From] at hq; omega) _).setCell (fun hq => by simp only [From] at hq; omega) _) |>.blo (by omega)
    · exact (hs3.bless fun b _ h => show From (w.heap.size + 2) b by simp only [From] at h ⊢; omega).bsame (((((Same.refl _ _).setCell (fun hq => by simp only [From] at hq; omega) _).setCell (fun hq => by simp only [From] at hq; omega) _).setCell (fun hq => by simp only [From] at hq; omega) _).setCell (fun hq => by simp only [From] at hq; omega) _) |>.blo (by omega)
    · exact ((((Hbox.out _ hk3).2.2.1.setCell (by simp only []; omega) _).setCell (by simp only []; omega) _).setCell (by simp only []; omega) _).setCell (by simp only []; omega) _

end Go.Proofs.Ythhcdibimnifaaa
