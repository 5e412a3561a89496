/- Walk: RequestOf. -/
import Derived.Test.YtddppmhpdgecgaaDoorWireDecS
import Derived.Test.YtddppmhpdgecgaaDoorWireFault
namespace Go.Proofs.YtddppmhpdgecgaaDoor
open Go.RowKit
set_option linter.unusedVariables false
set_option linter.unusedSimpArgs false

theorem pieceAt_short (b : List UInt8) (p : Int) : (pieceAt b p).1.length ≤ 255 := by
  unfold pieceAt
  split
  · rw [List.length_take]
    have := (b.getD p.toNat 0).toNat_lt
    omega
  · exact Nat.zero_le _
theorem piece_run {w : World} {A : Option Addr} {b : List UInt8} {c : Nat} {p q : Int} {x : List UInt8} (e : pieceAt b p = (x, q)) (ha : Bs All w A b) (hc : b.length ≤ c) (hb : b.length ≤ 4000) :
    Calls Tryd.prog 86 #[.slice A b.length c, .int .i64 p] w (fun e w' => ∃ B d, e = .returned (.tuple #[.slice B x.length d, .int .i64 q]) ∧ Bs (From w.heap.size) w' B x ∧ Below w.heap.size w w') := by
  have h := piece_ok w A b c p ha hc hb
  rw [e] at h
  exact h

set_option maxRecDepth 100000 in
set_option maxHeartbeats 4000000 in
theorem rqOf_0 (w : World) (P : Option Addr) (b : List UInt8) (pc : Nat) (hb : Bs All w P b) (hpc : b.length ≤ pc) (h4 : b.length ≤ 4000) (h1 : 1 ≤ b.length) (k : Nat) (hk1 : 1 ≤ k) (hk8 : k ≤ 8) (hh : hasS k = 0) (hk3 : k ≠ 3) (hk4 : k ≠ 4) (hk : (b.getD 0 0).toNat = k) :
    Calls Tryd.prog 29 #[.slice P b.length pc] w (RetRqE w (decK k 0 (b.drop 1, false))) := by
  obtain ⟨g, off, rfl, hc0⟩ := bs_zero hb h1
  rw [hk] at hc0
  have Hb := Lib.hid hb
  have hgl := World.block_lt_of_cell? w _ hc0
  have hb4 : ¬ (4000 : Int) < (b.length : Int) := by omega
  have hbn : b ≠ [] := by intro h; rw [h] at h1; simp at h1
  have hb0 : ((b.length : Int) == 0) = false := by simp; exact hbn
  have i0 : (0 : Int) < (b.length : Int) := by omega
  have Hnm := Lib.hid (show ∀ W : World, Calls Tryd.prog 80 #[.int .i64 k] W (fun e w' => e = .returned (.bool false) ∧ w' = W) from fun W => by have h := named_ok W k hk1 hk8; rw [named_of hh] at h; exact h)
  have hi : (decide ((1 : Int) ≤ (k : Int)) && decide ((k : Int) ≤ 8)) = true := by simp; omega
  have h3 : ((k : Int) == 3) = false := by simp; omega
  have h4' : ((k : Int) == 4) = false := by simp; omega
  have hk9 : k < 9 := by omega
  obtain ⟨s, es⟩ : ∃ s : Rdr, s = (b.drop 1, false) := ⟨_, rfl⟩
  rw [← es]
  have hd0 : RdAt b (rdUp 0 s 0) 1 := by rw [es]; exact .inl ⟨rfl, by omega, by omega, rfl⟩
  have hd1 : RdAt b (rdUp 0 s 1) 1 := by show RdAt b (fldS 0 0 (rdUp 0 s 0)).2 1; unfold fldS; rw [if_neg (by decide)]; exact hd0
  have hf0 : (rdUp 0 s 4).2 = false → fAt 0 s 0 = [] := fun _ => by unfold fAt fldS; rw [if_neg (by decide)]
  have hd2 : RdAt b (rdUp 0 s 2) 1 := by show RdAt b (fldS 0 1 (rdUp 0 s 1)).2 1; unfold fldS; rw [if_neg (by decide)]; exact hd1
  have hf1 : (rdUp 0 s 4).2 = false → fAt 0 s 1 = [] := fun _ => by unfold fAt fldS; rw [if_neg (by decide)]
  have hd3 : RdAt b (rdUp 0 s 3) 1 := by show RdAt b (fldS 0 2 (rdUp 0 s 2)).2 1; unfold fldS; rw [if_neg (by decide)]; exact hd2
  have hf2 : (rdUp 0 s 4).2 = false → fAt 0 s 2 = [] := fun _ => by unfold fAt fldS; rw [if_neg (by decide)]
  have hd4 : RdAt b (rdUp 0 s 4) 1 := by show RdAt b (fldS 0 3 (rdUp 0 s 3)).2 1; unfold fldS; rw [if_neg (by decide)]; exact hd3
  have hf3 : (rdUp 0 s 4).2 = false → fAt 0 s 3 = [] := fun _ => by unfold fAt fldS; rw [if_neg (by decide)]
  have hrq : (rdUp 0 s 4).2 = false → rqS k 0 s = ⟨k, [], [], [], []⟩ := fun h => by unfold rqS; rw [hf0 h, hf1 h, hf2 h, hf3 h]
  have hshort := at_short hd4
  have hrest := at_rest hd4
  have hdk : (1 : Int) < 0 ∨ ((1 : Int) < (b.length : Int) ∧ 0 ≤ (1 : Int)) ∨ ((b.length : Int) ≤ (1 : Int) ∧ 0 ≤ (1 : Int)) := by omega
  have Hn0 := Lib.hid (show (1 : Int) < 0 → decK k 0 s = (rq0, 14) from fun h => by unfold decK; rw [if_pos (by rw [hshort]; exact decide_eq_true h)])
  have Hn1 := Lib.hid (show 0 ≤ (1 : Int) → (1 : Int) < (b.length : Int) → decK k 0 s = (rq0, 4) from fun h h' => by
    have hl : (rdUp 0 s 4).2 = false := by rw [hshort]; exact decide_eq_false (by omega)
    unfold decK
    rw [if_neg (by rw [hl]; decide), if_pos (of_decide_eq_true ((hrest hl).1.trans (decide_eq_true h')))])
  have Hn2 := Lib.hid (show 0 ≤ (1 : Int) → (b.length : Int) ≤ (1 : Int) → decK k 0 s = if rqFault ⟨k, [], [], [], []⟩ ≠ 0 then (rq0, rqFault ⟨k, [], [], [], []⟩) else (⟨k, [], [], [], []⟩, 0) from fun h h' => by
    have hl : (rdUp 0 s 4).2 = false := by rw [hshort]; exact decide_eq_false (by omega)
    unfold decK
    rw [if_neg (by rw [hl]; decide), if_neg (of_decide_eq_false ((hrest hl).1.trans (decide_eq_false (by omega)))), hrq hl])
  clear hshort hrest hrq hf0 hf1 hf2 hf3 hd0 hd1 hd2 hd3 hd4 es hb hh
  obtain ⟨hG0, hR0, hsz0, hF0⟩ := two_rq w (.cells #[.int .i64 0, .slice none 0 0, .slice none 0 0, .slice none 0 0, .slice none 0 0] 24) (.cells #[.int .i64 k, .slice none 0 0, .slice none 0 0, .slice none 0 0, .slice none 0 0] 24)
  have HG0 := Lib.hid hG0
  have HR0 := Lib.hid hR0
  have HF0 := Lib.hid hF0
  have HZ0 := Lib.hid hsz0
  clear hG0 hR0 hF0 hsz0
  rcases hdk with h | ⟨h, h'⟩ | ⟨h, h'⟩
  · have Hv := Lib.hid (Hn0.out h)
    omega
  · have Hv := Lib.hid (Hn1.out h' h)
    have t1 : decide ((1 : Int) < 0) = false := decide_eq_false (by omega)
    have t2 : decide ((1 : Int) < (b.length : Int)) = true := decide_eq_true h
    clear Hn0 Hn1 Hn2
    obtain ⟨⟨za, zb, zc, zd, ze⟩, ya, yb, yc, yd, ye⟩ := box5 (show ((w.alloc (.cells #[.int .i64 0, .slice none 0 0, .slice none 0 0, .slice none 0 0, .slice none 0 0] 24)).alloc (.cells #[.int .i64 k, .slice none 0 0, .slice none 0 0, .slice none 0 0, .slice none 0 0] 24)).heap[w.heap.size]? = some (.cells #[.int .i64 0, .slice none 0 0, .slice none 0 0, .slice none 0 0, .slice none 0 0] 24 (0, 0)) from HG0.out)
    go_enter Tryd.func29, Tryd.ntmps29
    go_wp2_with (first
      | (go_at_call 79; refine (in_ok _ _ _ _).mono ?_; rintro e wi ⟨rfl, rfl⟩)
      | (go_at_call 80; refine (Hnm.out _).mono ?_; rintro e wn ⟨rfl, rfl⟩))
    refine bodyPost_ret (v := .tuple #[.agg #[.int .i64 0, .slice none 0 0, .slice none 0 0, .slice none 0 0, .slice none 0 0], .int .i64 4]) (by simp [results, Tryd.results29, go_sem, za, zb, zc, zd, ze]) rfl ?_
    rw [Hv.out]
    exact ⟨none, 0, none, 0, none, 0, none, 0, rfl, SL.nil, SL.nil, SL.nil, SL.nil, HF0.out⟩
  · have Hn := Lib.hid (Hn2.out h' h)
    have t1 : decide ((1 : Int) < 0) = false := decide_eq_false (by omega)
    have t2 : decide ((1 : Int) < (b.length : Int)) = false := decide_eq_false (by omega)
    have Hck := Lib.hid (show ∀ (W : World) (A B C D : Option Addr) (a b c d : Nat), Calls Tryd.prog 23 #[.agg #[.int .i64 k, .slice A 0 a, .slice B 0 b, .slice C 0 c, .slice D 0 d]] W (RetV W (.int .i64 (rqFault ⟨k, [], [], [], []⟩))) from fun W A B C D a b c d => rqFault_ok W A B C D ⟨k, [], [], [], []⟩ a b c d (by exact Nat.zero_le _) (by exact Nat.zero_le _))
    clear Hn0 Hn1 Hn2
    by_cases hf : rqFault ⟨k, [], [], [], []⟩ = 0
    · have Hv := Lib.hid (Hn.out.trans (if_neg (by rw [hf]; decide)))
      have Hrq := Lib.hid hf
      clear hf Hn
      go_enter Tryd.func29, Tryd.ntmps29
      go_wp2_with (first
        | (go_at_call 79; refine (in_ok _ _ _ _).mono ?_; rintro e wi ⟨rfl, rfl⟩)
        | (go_at_call 80; refine (Hnm.out _).mono ?_; rintro e wn ⟨rfl, rfl⟩)
        | (go_at_call 23; refine (Hck.out _ none none none none 0 0 0 0).mono ?_; rintro e w9 ⟨rfl, hb9⟩; rw [Hrq.out]; have hz9 := hb9.size; have hG9 := (hb9.block w.heap.size (by rw [HZ0.out]; omega)).trans (show ((w.alloc (.cells #[.int .i64 0, .slice none 0 0, .slice none 0 0, .slice none 0 0, .slice none 0 0] 24)).alloc (.cells #[.int .i64 k, .slice none 0 0, .slice none 0 0, .slice none 0 0, .slice none 0 0] 24)).heap[w.heap.size]? = some (.cells #[.int .i64 0, .slice none 0 0, .slice none 0 0, .slice none 0 0, .slice none 0 0] 24 (0, 0)) from HG0.out); obtain ⟨⟨za, zb, zc, zd, ze⟩, ya, yb, yc, yd, ye⟩ := box5 hG9; have hR9 := (hb9.block (w.heap.size + 1) (by rw [HZ0.out]; omega)).trans (show ((w.alloc (.cells #[.int .i64 0, .slice none 0 0, .slice none 0 0, .slice none 0 0, .slice none 0 0] 24)).alloc (.cells #[.int .i64 k, .slice none 0 0, .slice none 0 0, .slice none 0 0, .slice none 0 0] 24)).heap[w.heap.size + 1]? = some (.cells #[.int .i64 k, .slice none 0 0, .slice none 0 0, .slice none 0 0, .slice none 0 0] 24 (0, 0)) from HR0.out); obtain ⟨⟨sa, sb, sc, sd, se⟩, _⟩ := box5 hR9))
      refine bodyPost_ret (v := .tuple #[.agg #[.int .i64 k, .slice none 0 0, .slice none 0 0, .slice none 0 0, .slice none 0 0], .int .i64 0]) (by simp [results, Tryd.results29, go_sem, za, zb, zc, zd, ze]) rfl ?_
      rw [Hv.out]
      exact ⟨none, 0, none, 0, none, 0, none, 0, rfl, SL.nil, SL.nil, SL.nil, SL.nil, ((((((HF0.out.next hb9 HF0.out.size).setCell (by show w.heap.size ≤ w.heap.size; omega) _).setCell (by show w.heap.size ≤ w.heap.size; omega) _).setCell (by show w.heap.size ≤ w.heap.size; omega) _).setCell (by show w.heap.size ≤ w.heap.size; omega) _).setCell (by show w.heap.size ≤ w.heap.size; omega) _)⟩
    · have Hv := Lib.hid (Hn.out.trans (if_pos hf))
      have hf' : (rqFault ⟨k, [], [], [], []⟩ != 0) = true := by simpa using hf
      clear hf Hn
      go_enter Tryd.func29, Tryd.ntmps29
      go_wp2_with (first
        | (go_at_call 79; refine (in_ok _ _ _ _).mono ?_; rintro e wi ⟨rfl, rfl⟩)
        | (go_at_call 80; refine (Hnm.out _).mono ?_; rintro e wn ⟨rfl, rfl⟩)
        | (go_at_call 23; refine (Hck.out _ none none none none 0 0 0 0).mono ?_; rintro e w9 ⟨rfl, hb9⟩; have hz9 := hb9.size; have hG9 := (hb9.block w.heap.size (by rw [HZ0.out]; omega)).trans (show ((w.alloc (.cells #[.int .i64 0, .slice none 0 0, .slice none 0 0, .slice none 0 0, .slice none 0 0] 24)).alloc (.cells #[.int .i64 k, .slice none 0 0, .slice none 0 0, .slice none 0 0, .slice none 0 0] 24)).heap[w.heap.size]? = some (.cells #[.int .i64 0, .slice none 0 0, .slice none 0 0, .slice none 0 0, .slice none 0 0] 24 (0, 0)) from HG0.out); obtain ⟨⟨za, zb, zc, zd, ze⟩, ya, yb, yc, yd, ye⟩ := box5 hG9; have hR9 := (hb9.block (w.heap.size + 1) (by rw [HZ0.out]; omega)).trans (show ((w.alloc (.cells #[.int .i64 0, .slice none 0 0, .slice none 0 0, .slice none 0 0, .slice none 0 0] 24)).alloc (.cells #[.int .i64 k, .slice none 0 0, .slice none 0 0, .slice none 0 0, .slice none 0 0] 24)).heap[w.heap.size + 1]? = some (.cells #[.int .i64 k, .slice none 0 0, .slice none 0 0, .slice none 0 0, .slice none 0 0] 24 (0, 0)) from HR0.out); obtain ⟨⟨sa, sb, sc, sd, se⟩, _⟩ := box5 hR9))
      refine bodyPost_ret (v := .tuple #[.agg #[.int .i64 0, .slice none 0 0, .slice none 0 0, .slice none 0 0, .slice none 0 0], .int .i64 (rqFault ⟨k, [], [], [], []⟩)]) (by simp [results, Tryd.results29, go_sem, za, zb, zc, zd, ze]) rfl ?_
      rw [Hv.out]
      exact ⟨none, 0, none, 0, none, 0, none, 0, rfl, SL.nil, SL.nil, SL.nil, SL.nil, ((((((HF0.out.next hb9 HF0.out.size).setCell (by show w.heap.size ≤ w.heap.size; omega) _).setCell (by show w.heap.size ≤ w.heap.size; omega) _).setCell (by show w.heap.size ≤ w.heap.size; omega) _).setCell (by show w.heap.size ≤ w.heap.size; omega) _).setCell (by show w.heap.size ≤ w.heap.size; omega) _)⟩
set_option maxRecDepth 100000 in
set_option maxHeartbeats 4000000 in
theorem rqOf_3 (w : World) (P : Option Addr) (b : List UInt8) (pc : Nat) (hb : Bs All w P b) (hpc : b.length ≤ pc) (h4 : b.length ≤ 4000) (h1 : 1 ≤ b.length) (k : Nat) (hk1 : 1 ≤ k) (hk8 : k ≤ 8) (hh : hasS k = 3) (hk3 : k ≠ 3) (hk4 : k ≠ 4) (hk : (b.getD 0 0).toNat = k) :
    Calls Tryd.prog 29 #[.slice P b.length pc] w (RetRqE w (decK k 3 (b.drop 1, false))) := by
  obtain ⟨g, off, rfl, hc0⟩ := bs_zero hb h1
  rw [hk] at hc0
  have Hb := Lib.hid hb
  have hgl := World.block_lt_of_cell? w _ hc0
  have hb4 : ¬ (4000 : Int) < (b.length : Int) := by omega
  have hbn : b ≠ [] := by intro h; rw [h] at h1; simp at h1
  have hb0 : ((b.length : Int) == 0) = false := by simp; exact hbn
  have i0 : (0 : Int) < (b.length : Int) := by omega
  have Hnm := Lib.hid (show ∀ W : World, Calls Tryd.prog 80 #[.int .i64 k] W (fun e w' => e = .returned (.bool true) ∧ w' = W) from fun W => by have h := named_ok W k hk1 hk8; rw [named_of hh] at h; exact h)
  have hi : (decide ((1 : Int) ≤ (k : Int)) && decide ((k : Int) ≤ 8)) = true := by simp; omega
  have h3 : ((k : Int) == 3) = false := by simp; omega
  have h4' : ((k : Int) == 4) = false := by simp; omega
  have hk9 : k < 9 := by omega
  obtain ⟨s, es⟩ : ∃ s : Rdr, s = (b.drop 1, false) := ⟨_, rfl⟩
  rw [← es]
  have hd0 : RdAt b (rdUp 3 s 0) 1 := by rw [es]; exact .inl ⟨rfl, by omega, by omega, rfl⟩
  obtain ⟨x0, p0, e0⟩ : ∃ x q, pieceAt b 1 = (x, q) := ⟨_, _, rfl⟩
  have hx0 : x0.length ≤ 255 := by have := pieceAt_short b 1; rw [e0] at this; exact this
  obtain ⟨hq0, hv0⟩ := piece_at hd0
  rw [e0] at hq0 hv0
  dsimp only at hq0 hv0
  have hd1 : RdAt b (rdUp 3 s 1) p0 := by show RdAt b (fldS 3 0 (rdUp 3 s 0)).2 p0; unfold fldS; rw [if_pos (by decide)]; exact hq0
  have hf0 : (rdUp 3 s 4).2 = false → fAt 3 s 0 = x0 := fun h => by
    have h2 : (pieceS (rdUp 3 s 0)).2.2 = false := by
      rcases Bool.eq_false_or_eq_true (pieceS (rdUp 3 s 0)).2.2 with h3 | h3
      · have h5 : (rdUp 3 s 1).2 = true := by show (fldS 3 0 (rdUp 3 s 0)).2.2 = true; unfold fldS; rw [if_pos (by decide)]; exact h3
        rw [rdUp_short (by omega) h5] at h; cases h
      · exact h3
    unfold fAt fldS
    rw [if_pos (by decide)]
    exact (hv0 h2).symm
  obtain ⟨x1, p1, e1⟩ : ∃ x q, pieceAt b p0 = (x, q) := ⟨_, _, rfl⟩
  have hx1 : x1.length ≤ 255 := by have := pieceAt_short b p0; rw [e1] at this; exact this
  obtain ⟨hq1, hv1⟩ := piece_at hd1
  rw [e1] at hq1 hv1
  dsimp only at hq1 hv1
  have hd2 : RdAt b (rdUp 3 s 2) p1 := by show RdAt b (fldS 3 1 (rdUp 3 s 1)).2 p1; unfold fldS; rw [if_pos (by decide)]; exact hq1
  have hf1 : (rdUp 3 s 4).2 = false → fAt 3 s 1 = x1 := fun h => by
    have h2 : (pieceS (rdUp 3 s 1)).2.2 = false := by
      rcases Bool.eq_false_or_eq_true (pieceS (rdUp 3 s 1)).2.2 with h3 | h3
      · have h5 : (rdUp 3 s 2).2 = true := by show (fldS 3 1 (rdUp 3 s 1)).2.2 = true; unfold fldS; rw [if_pos (by decide)]; exact h3
        rw [rdUp_short (by omega) h5] at h; cases h
      · exact h3
    unfold fAt fldS
    rw [if_pos (by decide)]
    exact (hv1 h2).symm
  have hd3 : RdAt b (rdUp 3 s 3) p1 := by show RdAt b (fldS 3 2 (rdUp 3 s 2)).2 p1; unfold fldS; rw [if_neg (by decide)]; exact hd2
  have hf2 : (rdUp 3 s 4).2 = false → fAt 3 s 2 = [] := fun _ => by unfold fAt fldS; rw [if_neg (by decide)]
  have hd4 : RdAt b (rdUp 3 s 4) p1 := by show RdAt b (fldS 3 3 (rdUp 3 s 3)).2 p1; unfold fldS; rw [if_neg (by decide)]; exact hd3
  have hf3 : (rdUp 3 s 4).2 = false → fAt 3 s 3 = [] := fun _ => by unfold fAt fldS; rw [if_neg (by decide)]
  have hrq : (rdUp 3 s 4).2 = false → rqS k 3 s = ⟨k, x0, x1, [], []⟩ := fun h => by unfold rqS; rw [hf0 h, hf1 h, hf2 h, hf3 h]
  have hshort := at_short hd4
  have hrest := at_rest hd4
  have hdk : p1 < 0 ∨ (p1 < (b.length : Int) ∧ 0 ≤ p1) ∨ ((b.length : Int) ≤ p1 ∧ 0 ≤ p1) := by omega
  have Hn0 := Lib.hid (show p1 < 0 → decK k 3 s = (rq0, 14) from fun h => by unfold decK; rw [if_pos (by rw [hshort]; exact decide_eq_true h)])
  have Hn1 := Lib.hid (show 0 ≤ p1 → p1 < (b.length : Int) → decK k 3 s = (rq0, 4) from fun h h' => by
    have hl : (rdUp 3 s 4).2 = false := by rw [hshort]; exact decide_eq_false (by omega)
    unfold decK
    rw [if_neg (by rw [hl]; decide), if_pos (of_decide_eq_true ((hrest hl).1.trans (decide_eq_true h')))])
  have Hn2 := Lib.hid (show 0 ≤ p1 → (b.length : Int) ≤ p1 → decK k 3 s = if rqFault ⟨k, x0, x1, [], []⟩ ≠ 0 then (rq0, rqFault ⟨k, x0, x1, [], []⟩) else (⟨k, x0, x1, [], []⟩, 0) from fun h h' => by
    have hl : (rdUp 3 s 4).2 = false := by rw [hshort]; exact decide_eq_false (by omega)
    unfold decK
    rw [if_neg (by rw [hl]; decide), if_neg (of_decide_eq_false ((hrest hl).1.trans (decide_eq_false (by omega)))), hrq hl])
  clear hshort hrest hrq hf0 hf1 hf2 hf3 hd0 hd1 hd2 hd3 hd4 es hb hq0 hv0 hq1 hv1 hh
  obtain ⟨hG0, hR0, hsz0, hF0⟩ := two_rq w (.cells #[.int .i64 0, .slice none 0 0, .slice none 0 0, .slice none 0 0, .slice none 0 0] 24) (.cells #[.int .i64 k, .slice none 0 0, .slice none 0 0, .slice none 0 0, .slice none 0 0] 24)
  have HG0 := Lib.hid hG0
  have HR0 := Lib.hid hR0
  have HF0 := Lib.hid hF0
  have HZ0 := Lib.hid hsz0
  clear hG0 hR0 hF0 hsz0
  rcases hdk with h | ⟨h, h'⟩ | ⟨h, h'⟩
  · have Hv := Lib.hid (Hn0.out h)
    have t1 : decide (p1 < 0) = true := decide_eq_true h
    clear Hn0 Hn1 Hn2
    go_enter Tryd.func29, Tryd.ntmps29
    go_wp2_with (first
      | (go_at_call 79; refine (in_ok _ _ _ _).mono ?_; rintro e wi ⟨rfl, rfl⟩)
      | (go_at_call 80; refine (Hnm.out _).mono ?_; rintro e wn ⟨rfl, rfl⟩)
      | (go_at_call 86; (with_reducible refine (piece_run (p := 1) e0 ?ha hpc h4).mono ?_); (case ha => exact Hb.out.bbelow HF0.out); rintro e w1 ⟨B1, d1, rfl, hs1, hb1⟩; have hF1 : Below w.heap.size w w1 := HF0.out.next hb1 (by rw [HZ0.out]; omega); have hG1 : w1.heap[w.heap.size]? = some (.cells #[.int .i64 0, .slice none 0 0, .slice none 0 0, .slice none 0 0, .slice none 0 0] 24 (0, 0)) := (hb1.block w.heap.size (by rw [HZ0.out]; omega)).trans HG0.out; have hR1 : w1.heap[w.heap.size + 1]? = some (.cells #[.int .i64 k, .slice none 0 0, .slice none 0 0, .slice none 0 0, .slice none 0 0] 24 (0, 0)) := (hb1.block (w.heap.size + 1) (by rw [HZ0.out]; omega)).trans HR0.out; have hz1 : w.heap.size + 1 < w1.heap.size := (by have h := hb1.size; rw [HZ0.out] at h; omega); obtain ⟨⟨ga1, gb1, gc1, gd1, ge1⟩, fa1, fb1, fc1, fd1, fe1⟩ := box5 hG1; obtain ⟨⟨ra1, rb1, rc1, rd1, re1⟩, qa1, qb1, qc1, qd1, qe1⟩ := box5 hR1; have hB1 : Bs (From (w.heap.size + 2)) w1 B1 x0 := hs1.blo (by rw [HZ0.out]; omega))
      | (go_at_call 86; (with_reducible refine (piece_run (p := p0) e1 ?ha hpc h4).mono ?_); (case ha => exact Hb.out.bbelow (hF1.setCell (p := ⟨w.heap.size + 1, 1, none⟩) (by show w.heap.size ≤ w.heap.size + 1; omega) (.slice B1 x0.length d1))); rintro e w2 ⟨B2, d2, rfl, hs2, hb2⟩; have hF2 : Below w.heap.size w w2 := (hF1.setCell (p := ⟨w.heap.size + 1, 1, none⟩) (by show w.heap.size ≤ w.heap.size + 1; omega) (.slice B1 x0.length d1)).next hb2 (by simp; omega); have hG2 : w2.heap[w.heap.size]? = some (.cells #[.int .i64 0, .slice none 0 0, .slice none 0 0, .slice none 0 0, .slice none 0 0] 24 (0, 0)) := (hb2.block w.heap.size (by simp; omega)).trans ((heap_setCell_other _ _ _ _ (by show w.heap.size ≠ w.heap.size + 1; omega)).trans hG1); have hR2 : w2.heap[w.heap.size + 1]? = some (.cells #[.int .i64 k, .slice B1 x0.length d1, .slice none 0 0, .slice none 0 0, .slice none 0 0] 24 (0, 0)) := (hb2.block (w.heap.size + 1) (by simp; omega)).trans ((heap_setCell_same _ _ _ _ _ _ hR1).trans rfl); have hz2 : w.heap.size + 1 < w2.heap.size := (by have h := hb2.size; simp at h; omega); obtain ⟨⟨ga2, gb2, gc2, gd2, ge2⟩, fa2, fb2, fc2, fd2, fe2⟩ := box5 hG2; obtain ⟨⟨ra2, rb2, rc2, rd2, re2⟩, qa2, qb2, qc2, qd2, qe2⟩ := box5 hR2; have hB2 : Bs (From (w.heap.size + 2)) w2 B2 x1 := hs2.blo (by simp; omega); replace hB1 : Bs (From (w.heap.size + 2)) w2 B1 x0 := (hB1.bsame ((Same.refl _ _).setCell (p := ⟨w.heap.size + 1, 1, none⟩) (fun hq => by have hq2 : w.heap.size + 2 ≤ w.heap.size + 1 := hq; omega) _)).bbelow hb2))
    obtain ⟨⟨za, zb, zc, zd, ze⟩, ya, yb, yc, yd, ye⟩ := box5 (show (w2.setCell ⟨w.heap.size + 1, 2, none⟩ (.slice B2 x1.length d2)).heap[w.heap.size]? = some (.cells #[.int .i64 0, .slice none 0 0, .slice none 0 0, .slice none 0 0, .slice none 0 0] 24 (0, 0)) from ((heap_setCell_other _ _ _ _ (by show w.heap.size ≠ w.heap.size + 1; omega)).trans hG2))
    refine bodyPost_ret (v := .tuple #[.agg #[.int .i64 0, .slice none 0 0, .slice none 0 0, .slice none 0 0, .slice none 0 0], .int .i64 14]) (by simp [results, Tryd.results29, go_sem, za, zb, zc, zd, ze]) rfl ?_
    rw [Hv.out]
    exact ⟨none, 0, none, 0, none, 0, none, 0, rfl, SL.nil, SL.nil, SL.nil, SL.nil, ((((((hF2.setCell (p := ⟨w.heap.size + 1, 2, none⟩) (by show w.heap.size ≤ w.heap.size + 1; omega) (.slice B2 x1.length d2)).setCell (by show w.heap.size ≤ w.heap.size; omega) _).setCell (by show w.heap.size ≤ w.heap.size; omega) _).setCell (by show w.heap.size ≤ w.heap.size; omega) _).setCell (by show w.heap.size ≤ w.heap.size; omega) _).setCell (by show w.heap.size ≤ w.heap.size; omega) _)⟩
  · have Hv := Lib.hid (Hn1.out h' h)
    have t1 : decide (p1 < 0) = false := decide_eq_false (by omega)
    have t2 : decide (p1 < (b.length : Int)) = true := decide_eq_true h
    clear Hn0 Hn1 Hn2
    go_enter Tryd.func29, Tryd.ntmps29
    go_wp2_with (first
      | (go_at_call 79; refine (in_ok _ _ _ _).mono ?_; rintro e wi ⟨rfl, rfl⟩)
      | (go_at_call 80; refine (Hnm.out _).mono ?_; rintro e wn ⟨rfl, rfl⟩)
      | (go_at_call 86; (with_reducible refine (piece_run (p := 1) e0 ?ha hpc h4).mono ?_); (case ha => exact Hb.out.bbelow HF0.out); rintro e w1 ⟨B1, d1, rfl, hs1, hb1⟩; have hF1 : Below w.heap.size w w1 := HF0.out.next hb1 (by rw [HZ0.out]; omega); have hG1 : w1.heap[w.heap.size]? = some (.cells #[.int .i64 0, .slice none 0 0, .slice none 0 0, .slice none 0 0, .slice none 0 0] 24 (0, 0)) := (hb1.block w.heap.size (by rw [HZ0.out]; omega)).trans HG0.out; have hR1 : w1.heap[w.heap.size + 1]? = some (.cells #[.int .i64 k, .slice none 0 0, .slice none 0 0, .slice none 0 0, .slice none 0 0] 24 (0, 0)) := (hb1.block (w.heap.size + 1) (by rw [HZ0.out]; omega)).trans HR0.out; have hz1 : w.heap.size + 1 < w1.heap.size := (by have h := hb1.size; rw [HZ0.out] at h; omega); obtain ⟨⟨ga1, gb1, gc1, gd1, ge1⟩, fa1, fb1, fc1, fd1, fe1⟩ := box5 hG1; obtain ⟨⟨ra1, rb1, rc1, rd1, re1⟩, qa1, qb1, qc1, qd1, qe1⟩ := box5 hR1; have hB1 : Bs (From (w.heap.size + 2)) w1 B1 x0 := hs1.blo (by rw [HZ0.out]; omega))
      | (go_at_call 86; (with_reducible refine (piece_run (p := p0) e1 ?ha hpc h4).mono ?_); (case ha => exact Hb.out.bbelow (hF1.setCell (p := ⟨w.heap.size + 1, 1, none⟩) (by show w.heap.size ≤ w.heap.size + 1; omega) (.slice B1 x0.length d1))); rintro e w2 ⟨B2, d2, rfl, hs2, hb2⟩; have hF2 : Below w.heap.size w w2 := (hF1.setCell (p := ⟨w.heap.size + 1, 1, none⟩) (by show w.heap.size ≤ w.heap.size + 1; omega) (.slice B1 x0.length d1)).next hb2 (by simp; omega); have hG2 : w2.heap[w.heap.size]? = some (.cells #[.int .i64 0, .slice none 0 0, .slice none 0 0, .slice none 0 0, .slice none 0 0] 24 (0, 0)) := (hb2.block w.heap.size (by simp; omega)).trans ((heap_setCell_other _ _ _ _ (by show w.heap.size ≠ w.heap.size + 1; omega)).trans hG1); have hR2 : w2.heap[w.heap.size + 1]? = some (.cells #[.int .i64 k, .slice B1 x0.length d1, .slice none 0 0, .slice none 0 0, .slice none 0 0] 24 (0, 0)) := (hb2.block (w.heap.size + 1) (by simp; omega)).trans ((heap_setCell_same _ _ _ _ _ _ hR1).trans rfl); have hz2 : w.heap.size + 1 < w2.heap.size := (by have h := hb2.size; simp at h; omega); obtain ⟨⟨ga2, gb2, gc2, gd2, ge2⟩, fa2, fb2, fc2, fd2, fe2⟩ := box5 hG2; obtain ⟨⟨ra2, rb2, rc2, rd2, re2⟩, qa2, qb2, qc2, qd2, qe2⟩ := box5 hR2; have hB2 : Bs (From (w.heap.size + 2)) w2 B2 x1 := hs2.blo (by simp; omega); replace hB1 : Bs (From (w.heap.size + 2)) w2 B1 x0 := (hB1.bsame ((Same.refl _ _).setCell (p := ⟨w.heap.size + 1, 1, none⟩) (fun hq => by have hq2 : w.heap.size + 2 ≤ w.heap.size + 1 := hq; omega) _)).bbelow hb2))
    obtain ⟨⟨za, zb, zc, zd, ze⟩, ya, yb, yc, yd, ye⟩ := box5 (show (w2.setCell ⟨w.heap.size + 1, 2, none⟩ (.slice B2 x1.length d2)).heap[w.heap.size]? = some (.cells #[.int .i64 0, .slice none 0 0, .slice none 0 0, .slice none 0 0, .slice none 0 0] 24 (0, 0)) from ((heap_setCell_other _ _ _ _ (by show w.heap.size ≠ w.heap.size + 1; omega)).trans hG2))
    refine bodyPost_ret (v := .tuple #[.agg #[.int .i64 0, .slice none 0 0, .slice none 0 0, .slice none 0 0, .slice none 0 0], .int .i64 4]) (by simp [results, Tryd.results29, go_sem, za, zb, zc, zd, ze]) rfl ?_
    rw [Hv.out]
    exact ⟨none, 0, none, 0, none, 0, none, 0, rfl, SL.nil, SL.nil, SL.nil, SL.nil, ((((((hF2.setCell (p := ⟨w.heap.size + 1, 2, none⟩) (by show w.heap.size ≤ w.heap.size + 1; omega) (.slice B2 x1.length d2)).setCell (by show w.heap.size ≤ w.heap.size; omega) _).setCell (by show w.heap.size ≤ w.heap.size; omega) _).setCell (by show w.heap.size ≤ w.heap.size; omega) _).setCell (by show w.heap.size ≤ w.heap.size; omega) _).setCell (by show w.heap.size ≤ w.heap.size; omega) _)⟩
  · have Hn := Lib.hid (Hn2.out h' h)
    have t1 : decide (p1 < 0) = false := decide_eq_false (by omega)
    have t2 : decide (p1 < (b.length : Int)) = false := decide_eq_false (by omega)
    have Hck := Lib.hid (show ∀ (W : World) (A B C D : Option Addr) (a b c d : Nat), Calls Tryd.prog 23 #[.agg #[.int .i64 k, .slice A x0.length a, .slice B x1.length b, .slice C 0 c, .slice D 0 d]] W (RetV W (.int .i64 (rqFault ⟨k, x0, x1, [], []⟩))) from fun W A B C D a b c d => rqFault_ok W A B C D ⟨k, x0, x1, [], []⟩ a b c d (by show x0.length ≤ 140737488355328; omega) (by show x1.length ≤ 140737488355328; omega))
    clear Hn0 Hn1 Hn2
    by_cases hf : rqFault ⟨k, x0, x1, [], []⟩ = 0
    · have Hv := Lib.hid (Hn.out.trans (if_neg (by rw [hf]; decide)))
      have Hrq := Lib.hid hf
      clear hf Hn
      go_enter Tryd.func29, Tryd.ntmps29
      go_wp2_with (first
        | (go_at_call 79; refine (in_ok _ _ _ _).mono ?_; rintro e wi ⟨rfl, rfl⟩)
        | (go_at_call 80; refine (Hnm.out _).mono ?_; rintro e wn ⟨rfl, rfl⟩)
        | (go_at_call 86; (with_reducible refine (piece_run (p := 1) e0 ?ha hpc h4).mono ?_); (case ha => exact Hb.out.bbelow HF0.out); rintro e w1 ⟨B1, d1, rfl, hs1, hb1⟩; have hF1 : Below w.heap.size w w1 := HF0.out.next hb1 (by rw [HZ0.out]; omega); have hG1 : w1.heap[w.heap.size]? = some (.cells #[.int .i64 0, .slice none 0 0, .slice none 0 0, .slice none 0 0, .slice none 0 0] 24 (0, 0)) := (hb1.block w.heap.size (by rw [HZ0.out]; omega)).trans HG0.out; have hR1 : w1.heap[w.heap.size + 1]? = some (.cells #[.int .i64 k, .slice none 0 0, .slice none 0 0, .slice none 0 0, .slice none 0 0] 24 (0, 0)) := (hb1.block (w.heap.size + 1) (by rw [HZ0.out]; omega)).trans HR0.out; have hz1 : w.heap.size + 1 < w1.heap.size := (by have h := hb1.size; rw [HZ0.out] at h; omega); obtain ⟨⟨ga1, gb1, gc1, gd1, ge1⟩, fa1, fb1, fc1, fd1, fe1⟩ := box5 hG1; obtain ⟨⟨ra1, rb1, rc1, rd1, re1⟩, qa1, qb1, qc1, qd1, qe1⟩ := box5 hR1; have hB1 : Bs (From (w.heap.size + 2)) w1 B1 x0 := hs1.blo (by rw [HZ0.out]; omega))
        | (go_at_call 86; (with_reducible refine (piece_run (p := p0) e1 ?ha hpc h4).mono ?_); (case ha => exact Hb.out.bbelow (hF1.setCell (p := ⟨w.heap.size + 1, 1, none⟩) (by show w.heap.size ≤ w.heap.size + 1; omega) (.slice B1 x0.length d1))); rintro e w2 ⟨B2, d2, rfl, hs2, hb2⟩; have hF2 : Below w.heap.size w w2 := (hF1.setCell (p := ⟨w.heap.size + 1, 1, none⟩) (by show w.heap.size ≤ w.heap.size + 1; omega) (.slice B1 x0.length d1)).next hb2 (by simp; omega); have hG2 : w2.heap[w.heap.size]? = some (.cells #[.int .i64 0, .slice none 0 0, .slice none 0 0, .slice none 0 0, .slice none 0 0] 24 (0, 0)) := (hb2.block w.heap.size (by simp; omega)).trans ((heap_setCell_other _ _ _ _ (by show w.heap.size ≠ w.heap.size + 1; omega)).trans hG1); have hR2 : w2.heap[w.heap.size + 1]? = some (.cells #[.int .i64 k, .slice B1 x0.length d1, .slice none 0 0, .slice none 0 0, .slice none 0 0] 24 (0, 0)) := (hb2.block (w.heap.size + 1) (by simp; omega)).trans ((heap_setCell_same _ _ _ _ _ _ hR1).trans rfl); have hz2 : w.heap.size + 1 < w2.heap.size := (by have h := hb2.size; simp at h; omega); obtain ⟨⟨ga2, gb2, gc2, gd2, ge2⟩, fa2, fb2, fc2, fd2, fe2⟩ := box5 hG2; obtain ⟨⟨ra2, rb2, rc2, rd2, re2⟩, qa2, qb2, qc2, qd2, qe2⟩ := box5 hR2; have hB2 : Bs (From (w.heap.size + 2)) w2 B2 x1 := hs2.blo (by simp; omega); replace hB1 : Bs (From (w.heap.size + 2)) w2 B1 x0 := (hB1.bsame ((Same.refl _ _).setCell (p := ⟨w.heap.size + 1, 1, none⟩) (fun hq => by have hq2 : w.heap.size + 2 ≤ w.heap.size + 1 := hq; omega) _)).bbelow hb2)
        | (go_at_call 23; refine (Hck.out _ B1 B2 none none d1 d2 0 0).mono ?_; rintro e w9 ⟨rfl, hb9⟩; rw [Hrq.out]; have hz9 := hb9.size; have hG9 := (hb9.block w.heap.size (by simp; omega)).trans (show (w2.setCell ⟨w.heap.size + 1, 2, none⟩ (.slice B2 x1.length d2)).heap[w.heap.size]? = some (.cells #[.int .i64 0, .slice none 0 0, .slice none 0 0, .slice none 0 0, .slice none 0 0] 24 (0, 0)) from ((heap_setCell_other _ _ _ _ (by show w.heap.size ≠ w.heap.size + 1; omega)).trans hG2)); obtain ⟨⟨za, zb, zc, zd, ze⟩, ya, yb, yc, yd, ye⟩ := box5 hG9; have hR9 := (hb9.block (w.heap.size + 1) (by simp; omega)).trans (show (w2.setCell ⟨w.heap.size + 1, 2, none⟩ (.slice B2 x1.length d2)).heap[w.heap.size + 1]? = some (.cells #[.int .i64 k, .slice B1 x0.length d1, .slice B2 x1.length d2, .slice none 0 0, .slice none 0 0] 24 (0, 0)) from ((heap_setCell_same _ _ _ _ _ _ hR2).trans rfl)); obtain ⟨⟨sa, sb, sc, sd, se⟩, _⟩ := box5 hR9))
      refine bodyPost_ret (v := .tuple #[.agg #[.int .i64 k, .slice B1 x0.length d1, .slice B2 x1.length d2, .slice none 0 0, .slice none 0 0], .int .i64 0]) (by simp [results, Tryd.results29, go_sem, za, zb, zc, zd, ze]) rfl ?_
      rw [Hv.out]
      exact ⟨B1, d1, B2, d2, none, 0, none, 0, rfl, (((hB1.bsame ((Same.refl _ _).setCell (p := ⟨w.heap.size + 1, 2, none⟩) (fun hq => by have hq2 : w.heap.size + 2 ≤ w.heap.size + 1 := hq; omega) _)).bbelow hb9).bsame ((((((Same.refl _ _).setCell (fun hq => by have hq2 : w.heap.size + 2 ≤ w.heap.size := hq; omega) _).setCell (fun hq => by have hq2 : w.heap.size + 2 ≤ w.heap.size := hq; omega) _).setCell (fun hq => by have hq2 : w.heap.size + 2 ≤ w.heap.size := hq; omega) _).setCell (fun hq => by have hq2 : w.heap.size + 2 ≤ w.heap.size := hq; omega) _).setCell (fun hq => by have hq2 : w.heap.size + 2 ≤ w.heap.size := hq; omega) _)).blo (by omega), (((hB2.bsame ((Same.refl _ _).setCell (p := ⟨w.heap.size + 1, 2, none⟩) (fun hq => by have hq2 : w.heap.size + 2 ≤ w.heap.size + 1 := hq; omega) _)).bbelow hb9).bsame ((((((Same.refl _ _).setCell (fun hq => by have hq2 : w.heap.size + 2 ≤ w.heap.size := hq; omega) _).setCell (fun hq => by have hq2 : w.heap.size + 2 ≤ w.heap.size := hq; omega) _).setCell (fun hq => by have hq2 : w.heap.size + 2 ≤ w.heap.size := hq; omega) _).setCell (fun hq => by have hq2 : w.heap.size + 2 ≤ w.heap.size := hq; omega) _).setCell (fun hq => by have hq2 : w.heap.size + 2 ≤ w.heap.size := hq; omega) _)).blo (by omega), SL.nil, SL.nil, (((((((hF2.setCell (p := ⟨w.heap.size + 1, 2, none⟩) (by show w.heap.size ≤ w.heap.size + 1; omega) (.slice B2 x1.length d2)).next hb9 (hF2.setCell (p := ⟨w.heap.size + 1, 2, none⟩) (by show w.heap.size ≤ w.heap.size + 1; omega) (.slice B2 x1.length d2)).size).setCell (by show w.heap.size ≤ w.heap.size; omega) _).setCell (by show w.heap.size ≤ w.heap.size; omega) _).setCell (by show w.heap.size ≤ w.heap.size; omega) _).setCell (by show w.heap.size ≤ w.heap.size; omega) _).setCell (by show w.heap.size ≤ w.heap.size; omega) _)⟩
    · have Hv := Lib.hid (Hn.out.trans (if_pos hf))
      have hf' : (rqFault ⟨k, x0, x1, [], []⟩ != 0) = true := by simpa using hf
      clear hf Hn
      go_enter Tryd.func29, Tryd.ntmps29
      go_wp2_with (first
        | (go_at_call 79; refine (in_ok _ _ _ _).mono ?_; rintro e wi ⟨rfl, rfl⟩)
        | (go_at_call 80; refine (Hnm.out _).mono ?_; rintro e wn ⟨rfl, rfl⟩)
        | (go_at_call 86; (with_reducible refine (piece_run (p := 1) e0 ?ha hpc h4).mono ?_); (case ha => exact Hb.out.bbelow HF0.out); rintro e w1 ⟨B1, d1, rfl, hs1, hb1⟩; have hF1 : Below w.heap.size w w1 := HF0.out.next hb1 (by rw [HZ0.out]; omega); have hG1 : w1.heap[w.heap.size]? = some (.cells #[.int .i64 0, .slice none 0 0, .slice none 0 0, .slice none 0 0, .slice none 0 0] 24 (0, 0)) := (hb1.block w.heap.size (by rw [HZ0.out]; omega)).trans HG0.out; have hR1 : w1.heap[w.heap.size + 1]? = some (.cells #[.int .i64 k, .slice none 0 0, .slice none 0 0, .slice none 0 0, .slice none 0 0] 24 (0, 0)) := (hb1.block (w.heap.size + 1) (by rw [HZ0.out]; omega)).trans HR0.out; have hz1 : w.heap.size + 1 < w1.heap.size := (by have h := hb1.size; rw [HZ0.out] at h; omega); obtain ⟨⟨ga1, gb1, gc1, gd1, ge1⟩, fa1, fb1, fc1, fd1, fe1⟩ := box5 hG1; obtain ⟨⟨ra1, rb1, rc1, rd1, re1⟩, qa1, qb1, qc1, qd1, qe1⟩ := box5 hR1; have hB1 : Bs (From (w.heap.size + 2)) w1 B1 x0 := hs1.blo (by rw [HZ0.out]; omega))
        | (go_at_call 86; (with_reducible refine (piece_run (p := p0) e1 ?ha hpc h4).mono ?_); (case ha => exact Hb.out.bbelow (hF1.setCell (p := ⟨w.heap.size + 1, 1, none⟩) (by show w.heap.size ≤ w.heap.size + 1; omega) (.slice B1 x0.length d1))); rintro e w2 ⟨B2, d2, rfl, hs2, hb2⟩; have hF2 : Below w.heap.size w w2 := (hF1.setCell (p := ⟨w.heap.size + 1, 1, none⟩) (by show w.heap.size ≤ w.heap.size + 1; omega) (.slice B1 x0.length d1)).next hb2 (by simp; omega); have hG2 : w2.heap[w.heap.size]? = some (.cells #[.int .i64 0, .slice none 0 0, .slice none 0 0, .slice none 0 0, .slice none 0 0] 24 (0, 0)) := (hb2.block w.heap.size (by simp; omega)).trans ((heap_setCell_other _ _ _ _ (by show w.heap.size ≠ w.heap.size + 1; omega)).trans hG1); have hR2 : w2.heap[w.heap.size + 1]? = some (.cells #[.int .i64 k, .slice B1 x0.length d1, .slice none 0 0, .slice none 0 0, .slice none 0 0] 24 (0, 0)) := (hb2.block (w.heap.size + 1) (by simp; omega)).trans ((heap_setCell_same _ _ _ _ _ _ hR1).trans rfl); have hz2 : w.heap.size + 1 < w2.heap.size := (by have h := hb2.size; simp at h; omega); obtain ⟨⟨ga2, gb2, gc2, gd2, ge2⟩, fa2, fb2, fc2, fd2, fe2⟩ := box5 hG2; obtain ⟨⟨ra2, rb2, rc2, rd2, re2⟩, qa2, qb2, qc2, qd2, qe2⟩ := box5 hR2; have hB2 : Bs (From (w.heap.size + 2)) w2 B2 x1 := hs2.blo (by simp; omega); replace hB1 : Bs (From (w.heap.size + 2)) w2 B1 x0 := (hB1.bsame ((Same.refl _ _).setCell (p := ⟨w.heap.size + 1, 1, none⟩) (fun hq => by have hq2 : w.heap.size + 2 ≤ w.heap.size + 1 := hq; omega) _)).bbelow hb2)
        | (go_at_call 23; refine (Hck.out _ B1 B2 none none d1 d2 0 0).mono ?_; rintro e w9 ⟨rfl, hb9⟩; have hz9 := hb9.size; have hG9 := (hb9.block w.heap.size (by simp; omega)).trans (show (w2.setCell ⟨w.heap.size + 1, 2, none⟩ (.slice B2 x1.length d2)).heap[w.heap.size]? = some (.cells #[.int .i64 0, .slice none 0 0, .slice none 0 0, .slice none 0 0, .slice none 0 0] 24 (0, 0)) from ((heap_setCell_other _ _ _ _ (by show w.heap.size ≠ w.heap.size + 1; omega)).trans hG2)); obtain ⟨⟨za, zb, zc, zd, ze⟩, ya, yb, yc, yd, ye⟩ := box5 hG9; have hR9 := (hb9.block (w.heap.size + 1) (by simp; omega)).trans (show (w2.setCell ⟨w.heap.size + 1, 2, none⟩ (.slice B2 x1.length d2)).heap[w.heap.size + 1]? = some (.cells #[.int .i64 k, .slice B1 x0.length d1, .slice B2 x1.length d2, .slice none 0 0, .slice none 0 0] 24 (0, 0)) from ((heap_setCell_same _ _ _ _ _ _ hR2).trans rfl)); obtain ⟨⟨sa, sb, sc, sd, se⟩, _⟩ := box5 hR9))
      refine bodyPost_ret (v := .tuple #[.agg #[.int .i64 0, .slice none 0 0, .slice none 0 0, .slice none 0 0, .slice none 0 0], .int .i64 (rqFault ⟨k, x0, x1, [], []⟩)]) (by simp [results, Tryd.results29, go_sem, za, zb, zc, zd, ze]) rfl ?_
      rw [Hv.out]
      exact ⟨none, 0, none, 0, none, 0, none, 0, rfl, SL.nil, SL.nil, SL.nil, SL.nil, (((((((hF2.setCell (p := ⟨w.heap.size + 1, 2, none⟩) (by show w.heap.size ≤ w.heap.size + 1; omega) (.slice B2 x1.length d2)).next hb9 (hF2.setCell (p := ⟨w.heap.size + 1, 2, none⟩) (by show w.heap.size ≤ w.heap.size + 1; omega) (.slice B2 x1.length d2)).size).setCell (by show w.heap.size ≤ w.heap.size; omega) _).setCell (by show w.heap.size ≤ w.heap.size; omega) _).setCell (by show w.heap.size ≤ w.heap.size; omega) _).setCell (by show w.heap.size ≤ w.heap.size; omega) _).setCell (by show w.heap.size ≤ w.heap.size; omega) _)⟩
set_option maxRecDepth 100000 in
set_option maxHeartbeats 4000000 in
theorem rqOf_7 (w : World) (P : Option Addr) (b : List UInt8) (pc : Nat) (hb : Bs All w P b) (hpc : b.length ≤ pc) (h4 : b.length ≤ 4000) (h1 : 1 ≤ b.length) (hk : (b.getD 0 0).toNat = 3) :
    Calls Tryd.prog 29 #[.slice P b.length pc] w (RetRqE w (decK 3 7 (b.drop 1, false))) := by
  obtain ⟨g, off, rfl, hc0⟩ := bs_zero hb h1
  rw [hk] at hc0
  have Hb := Lib.hid hb
  have hgl := World.block_lt_of_cell? w _ hc0
  have hb4 : ¬ (4000 : Int) < (b.length : Int) := by omega
  have hbn : b ≠ [] := by intro h; rw [h] at h1; simp at h1
  have hb0 : ((b.length : Int) == 0) = false := by simp; exact hbn
  have i0 : (0 : Int) < (b.length : Int) := by omega
  have Hnm := Lib.hid (show ∀ W : World, Calls Tryd.prog 80 #[.int .i64 3] W (fun e w' => e = .returned (.bool true) ∧ w' = W) from fun W => named_ok W 3 (by decide) (by decide))
  have hk9 : 3 < 9 := by omega
  obtain ⟨s, es⟩ : ∃ s : Rdr, s = (b.drop 1, false) := ⟨_, rfl⟩
  rw [← es]
  have hd0 : RdAt b (rdUp 7 s 0) 1 := by rw [es]; exact .inl ⟨rfl, by omega, by omega, rfl⟩
  obtain ⟨x0, p0, e0⟩ : ∃ x q, pieceAt b 1 = (x, q) := ⟨_, _, rfl⟩
  have hx0 : x0.length ≤ 255 := by have := pieceAt_short b 1; rw [e0] at this; exact this
  obtain ⟨hq0, hv0⟩ := piece_at hd0
  rw [e0] at hq0 hv0
  dsimp only at hq0 hv0
  have hd1 : RdAt b (rdUp 7 s 1) p0 := by show RdAt b (fldS 7 0 (rdUp 7 s 0)).2 p0; unfold fldS; rw [if_pos (by decide)]; exact hq0
  have hf0 : (rdUp 7 s 4).2 = false → fAt 7 s 0 = x0 := fun h => by
    have h2 : (pieceS (rdUp 7 s 0)).2.2 = false := by
      rcases Bool.eq_false_or_eq_true (pieceS (rdUp 7 s 0)).2.2 with h3 | h3
      · have h5 : (rdUp 7 s 1).2 = true := by show (fldS 7 0 (rdUp 7 s 0)).2.2 = true; unfold fldS; rw [if_pos (by decide)]; exact h3
        rw [rdUp_short (by omega) h5] at h; cases h
      · exact h3
    unfold fAt fldS
    rw [if_pos (by decide)]
    exact (hv0 h2).symm
  obtain ⟨x1, p1, e1⟩ : ∃ x q, pieceAt b p0 = (x, q) := ⟨_, _, rfl⟩
  have hx1 : x1.length ≤ 255 := by have := pieceAt_short b p0; rw [e1] at this; exact this
  obtain ⟨hq1, hv1⟩ := piece_at hd1
  rw [e1] at hq1 hv1
  dsimp only at hq1 hv1
  have hd2 : RdAt b (rdUp 7 s 2) p1 := by show RdAt b (fldS 7 1 (rdUp 7 s 1)).2 p1; unfold fldS; rw [if_pos (by decide)]; exact hq1
  have hf1 : (rdUp 7 s 4).2 = false → fAt 7 s 1 = x1 := fun h => by
    have h2 : (pieceS (rdUp 7 s 1)).2.2 = false := by
      rcases Bool.eq_false_or_eq_true (pieceS (rdUp 7 s 1)).2.2 with h3 | h3
      · have h5 : (rdUp 7 s 2).2 = true := by show (fldS 7 1 (rdUp 7 s 1)).2.2 = true; unfold fldS; rw [if_pos (by decide)]; exact h3
        rw [rdUp_short (by omega) h5] at h; cases h
      · exact h3
    unfold fAt fldS
    rw [if_pos (by decide)]
    exact (hv1 h2).symm
  obtain ⟨x2, p2, e2⟩ : ∃ x q, pieceAt b p1 = (x, q) := ⟨_, _, rfl⟩
  have hx2 : x2.length ≤ 255 := by have := pieceAt_short b p1; rw [e2] at this; exact this
  obtain ⟨hq2, hv2⟩ := piece_at hd2
  rw [e2] at hq2 hv2
  dsimp only at hq2 hv2
  have hd3 : RdAt b (rdUp 7 s 3) p2 := by show RdAt b (fldS 7 2 (rdUp 7 s 2)).2 p2; unfold fldS; rw [if_pos (by decide)]; exact hq2
  have hf2 : (rdUp 7 s 4).2 = false → fAt 7 s 2 = x2 := fun h => by
    have h2 : (pieceS (rdUp 7 s 2)).2.2 = false := by
      rcases Bool.eq_false_or_eq_true (pieceS (rdUp 7 s 2)).2.2 with h3 | h3
      · have h5 : (rdUp 7 s 3).2 = true := by show (fldS 7 2 (rdUp 7 s 2)).2.2 = true; unfold fldS; rw [if_pos (by decide)]; exact h3
        rw [rdUp_short (by omega) h5] at h; cases h
      · exact h3
    unfold fAt fldS
    rw [if_pos (by decide)]
    exact (hv2 h2).symm
  have hd4 : RdAt b (rdUp 7 s 4) p2 := by show RdAt b (fldS 7 3 (rdUp 7 s 3)).2 p2; unfold fldS; rw [if_neg (by decide)]; exact hd3
  have hf3 : (rdUp 7 s 4).2 = false → fAt 7 s 3 = [] := fun _ => by unfold fAt fldS; rw [if_neg (by decide)]
  have hrq : (rdUp 7 s 4).2 = false → rqS 3 7 s = ⟨3, x0, x1, x2, []⟩ := fun h => by unfold rqS; rw [hf0 h, hf1 h, hf2 h, hf3 h]; rfl
  have hshort := at_short hd4
  have hrest := at_rest hd4
  have hdk : p2 < 0 ∨ (p2 < (b.length : Int) ∧ 0 ≤ p2) ∨ ((b.length : Int) ≤ p2 ∧ 0 ≤ p2) := by omega
  have Hn0 := Lib.hid (show p2 < 0 → decK 3 7 s = (rq0, 14) from fun h => by unfold decK; rw [if_pos (by rw [hshort]; exact decide_eq_true h)])
  have Hn1 := Lib.hid (show 0 ≤ p2 → p2 < (b.length : Int) → decK 3 7 s = (rq0, 4) from fun h h' => by
    have hl : (rdUp 7 s 4).2 = false := by rw [hshort]; exact decide_eq_false (by omega)
    unfold decK
    rw [if_neg (by rw [hl]; decide), if_pos (of_decide_eq_true ((hrest hl).1.trans (decide_eq_true h')))])
  have Hn2 := Lib.hid (show 0 ≤ p2 → (b.length : Int) ≤ p2 → decK 3 7 s = if rqFault ⟨3, x0, x1, x2, []⟩ ≠ 0 then (rq0, rqFault ⟨3, x0, x1, x2, []⟩) else (⟨3, x0, x1, x2, []⟩, 0) from fun h h' => by
    have hl : (rdUp 7 s 4).2 = false := by rw [hshort]; exact decide_eq_false (by omega)
    unfold decK
    rw [if_neg (by rw [hl]; decide), if_neg (of_decide_eq_false ((hrest hl).1.trans (decide_eq_false (by omega)))), hrq hl])
  clear hshort hrest hrq hf0 hf1 hf2 hf3 hd0 hd1 hd2 hd3 hd4 es hb hq0 hv0 hq1 hv1 hq2 hv2
  obtain ⟨hG0, hR0, hsz0, hF0⟩ := two_rq w (.cells #[.int .i64 0, .slice none 0 0, .slice none 0 0, .slice none 0 0, .slice none 0 0] 24) (.cells #[.int .i64 3, .slice none 0 0, .slice none 0 0, .slice none 0 0, .slice none 0 0] 24)
  have HG0 := Lib.hid hG0
  have HR0 := Lib.hid hR0
  have HF0 := Lib.hid hF0
  have HZ0 := Lib.hid hsz0
  clear hG0 hR0 hF0 hsz0
  rcases hdk with h | ⟨h, h'⟩ | ⟨h, h'⟩
  · have Hv := Lib.hid (Hn0.out h)
    have t1 : decide (p2 < 0) = true := decide_eq_true h
    clear Hn0 Hn1 Hn2
    go_enter Tryd.func29, Tryd.ntmps29
    go_wp2_with (first
      | (go_at_call 79; refine (in_ok _ _ _ _).mono ?_; rintro e wi ⟨rfl, rfl⟩)
      | (go_at_call 80; refine (Hnm.out _).mono ?_; rintro e wn ⟨rfl, rfl⟩)
      | (go_at_call 86; (with_reducible refine (piece_run (p := 1) e0 ?ha hpc h4).mono ?_); (case ha => exact Hb.out.bbelow HF0.out); rintro e w1 ⟨B1, d1, rfl, hs1, hb1⟩; have hF1 : Below w.heap.size w w1 := HF0.out.next hb1 (by rw [HZ0.out]; omega); have hG1 : w1.heap[w.heap.size]? = some (.cells #[.int .i64 0, .slice none 0 0, .slice none 0 0, .slice none 0 0, .slice none 0 0] 24 (0, 0)) := (hb1.block w.heap.size (by rw [HZ0.out]; omega)).trans HG0.out; have hR1 : w1.heap[w.heap.size + 1]? = some (.cells #[.int .i64 3, .slice none 0 0, .slice none 0 0, .slice none 0 0, .slice none 0 0] 24 (0, 0)) := (hb1.block (w.heap.size + 1) (by rw [HZ0.out]; omega)).trans HR0.out; have hz1 : w.heap.size + 1 < w1.heap.size := (by have h := hb1.size; rw [HZ0.out] at h; omega); obtain ⟨⟨ga1, gb1, gc1, gd1, ge1⟩, fa1, fb1, fc1, fd1, fe1⟩ := box5 hG1; obtain ⟨⟨ra1, rb1, rc1, rd1, re1⟩, qa1, qb1, qc1, qd1, qe1⟩ := box5 hR1; have hB1 : Bs (From (w.heap.size + 2)) w1 B1 x0 := hs1.blo (by rw [HZ0.out]; omega))
      | (go_at_call 86; (with_reducible refine (piece_run (p := p0) e1 ?ha hpc h4).mono ?_); (case ha => exact Hb.out.bbelow (hF1.setCell (p := ⟨w.heap.size + 1, 1, none⟩) (by show w.heap.size ≤ w.heap.size + 1; omega) (.slice B1 x0.length d1))); rintro e w2 ⟨B2, d2, rfl, hs2, hb2⟩; have hF2 : Below w.heap.size w w2 := (hF1.setCell (p := ⟨w.heap.size + 1, 1, none⟩) (by show w.heap.size ≤ w.heap.size + 1; omega) (.slice B1 x0.length d1)).next hb2 (by simp; omega); have hG2 : w2.heap[w.heap.size]? = some (.cells #[.int .i64 0, .slice none 0 0, .slice none 0 0, .slice none 0 0, .slice none 0 0] 24 (0, 0)) := (hb2.block w.heap.size (by simp; omega)).trans ((heap_setCell_other _ _ _ _ (by show w.heap.size ≠ w.heap.size + 1; omega)).trans hG1); have hR2 : w2.heap[w.heap.size + 1]? = some (.cells #[.int .i64 3, .slice B1 x0.length d1, .slice none 0 0, .slice none 0 0, .slice none 0 0] 24 (0, 0)) := (hb2.block (w.heap.size + 1) (by simp; omega)).trans ((heap_setCell_same _ _ _ _ _ _ hR1).trans rfl); have hz2 : w.heap.size + 1 < w2.heap.size := (by have h := hb2.size; simp at h; omega); obtain ⟨⟨ga2, gb2, gc2, gd2, ge2⟩, fa2, fb2, fc2, fd2, fe2⟩ := box5 hG2; obtain ⟨⟨ra2, rb2, rc2, rd2, re2⟩, qa2, qb2, qc2, qd2, qe2⟩ := box5 hR2; have hB2 : Bs (From (w.heap.size + 2)) w2 B2 x1 := hs2.blo (by simp; omega); replace hB1 : Bs (From (w.heap.size + 2)) w2 B1 x0 := (hB1.bsame ((Same.refl _ _).setCell (p := ⟨w.heap.size + 1, 1, none⟩) (fun hq => by have hq2 : w.heap.size + 2 ≤ w.heap.size + 1 := hq; omega) _)).bbelow hb2)
      | (go_at_call 86; (with_reducible refine (piece_run (p := p1) e2 ?ha hpc h4).mono ?_); (case ha => exact Hb.out.bbelow (hF2.setCell (p := ⟨w.heap.size + 1, 2, none⟩) (by show w.heap.size ≤ w.heap.size + 1; omega) (.slice B2 x1.length d2))); rintro e w3 ⟨B3, d3, rfl, hs3, hb3⟩; have hF3 : Below w.heap.size w w3 := (hF2.setCell (p := ⟨w.heap.size + 1, 2, none⟩) (by show w.heap.size ≤ w.heap.size + 1; omega) (.slice B2 x1.length d2)).next hb3 (by simp; omega); have hG3 : w3.heap[w.heap.size]? = some (.cells #[.int .i64 0, .slice none 0 0, .slice none 0 0, .slice none 0 0, .slice none 0 0] 24 (0, 0)) := (hb3.block w.heap.size (by simp; omega)).trans ((heap_setCell_other _ _ _ _ (by show w.heap.size ≠ w.heap.size + 1; omega)).trans hG2); have hR3 : w3.heap[w.heap.size + 1]? = some (.cells #[.int .i64 3, .slice B1 x0.length d1, .slice B2 x1.length d2, .slice none 0 0, .slice none 0 0] 24 (0, 0)) := (hb3.block (w.heap.size + 1) (by simp; omega)).trans ((heap_setCell_same _ _ _ _ _ _ hR2).trans rfl); have hz3 : w.heap.size + 1 < w3.heap.size := (by have h := hb3.size; simp at h; omega); obtain ⟨⟨ga3, gb3, gc3, gd3, ge3⟩, fa3, fb3, fc3, fd3, fe3⟩ := box5 hG3; obtain ⟨⟨ra3, rb3, rc3, rd3, re3⟩, qa3, qb3, qc3, qd3, qe3⟩ := box5 hR3; have hB3 : Bs (From (w.heap.size + 2)) w3 B3 x2 := hs3.blo (by simp; omega); replace hB1 : Bs (From (w.heap.size + 2)) w3 B1 x0 := (hB1.bsame ((Same.refl _ _).setCell (p := ⟨w.heap.size + 1, 2, none⟩) (fun hq => by have hq2 : w.heap.size + 2 ≤ w.heap.size + 1 := hq; omega) _)).bbelow hb3; replace hB2 : Bs (From (w.heap.size + 2)) w3 B2 x1 := (hB2.bsame ((Same.refl _ _).setCell (p := ⟨w.heap.size + 1, 2, none⟩) (fun hq => by have hq2 : w.heap.size + 2 ≤ w.heap.size + 1 := hq; omega) _)).bbelow hb3))
    obtain ⟨⟨za, zb, zc, zd, ze⟩, ya, yb, yc, yd, ye⟩ := box5 (show (w3.setCell ⟨w.heap.size + 1, 3, none⟩ (.slice B3 x2.length d3)).heap[w.heap.size]? = some (.cells #[.int .i64 0, .slice none 0 0, .slice none 0 0, .slice none 0 0, .slice none 0 0] 24 (0, 0)) from ((heap_setCell_other _ _ _ _ (by show w.heap.size ≠ w.heap.size + 1; omega)).trans hG3))
    refine bodyPost_ret (v := .tuple #[.agg #[.int .i64 0, .slice none 0 0, .slice none 0 0, .slice none 0 0, .slice none 0 0], .int .i64 14]) (by simp [results, Tryd.results29, go_sem, za, zb, zc, zd, ze]) rfl ?_
    rw [Hv.out]
    exact ⟨none, 0, none, 0, none, 0, none, 0, rfl, SL.nil, SL.nil, SL.nil, SL.nil, ((((((hF3.setCell (p := ⟨w.heap.size + 1, 3, none⟩) (by show w.heap.size ≤ w.heap.size + 1; omega) (.slice B3 x2.length d3)).setCell (by show w.heap.size ≤ w.heap.size; omega) _).setCell (by show w.heap.size ≤ w.heap.size; omega) _).setCell (by show w.heap.size ≤ w.heap.size; omega) _).setCell (by show w.heap.size ≤ w.heap.size; omega) _).setCell (by show w.heap.size ≤ w.heap.size; omega) _)⟩
  · have Hv := Lib.hid (Hn1.out h' h)
    have t1 : decide (p2 < 0) = false := decide_eq_false (by omega)
    have t2 : decide (p2 < (b.length : Int)) = true := decide_eq_true h
    clear Hn0 Hn1 Hn2
    go_enter Tryd.func29, Tryd.ntmps29
    go_wp2_with (first
      | (go_at_call 79; refine (in_ok _ _ _ _).mono ?_; rintro e wi ⟨rfl, rfl⟩)
      | (go_at_call 80; refine (Hnm.out _).mono ?_; rintro e wn ⟨rfl, rfl⟩)
      | (go_at_call 86; (with_reducible refine (piece_run (p := 1) e0 ?ha hpc h4).mono ?_); (case ha => exact Hb.out.bbelow HF0.out); rintro e w1 ⟨B1, d1, rfl, hs1, hb1⟩; have hF1 : Below w.heap.size w w1 := HF0.out.next hb1 (by rw [HZ0.out]; omega); have hG1 : w1.heap[w.heap.size]? = some (.cells #[.int .i64 0, .slice none 0 0, .slice none 0 0, .slice none 0 0, .slice none 0 0] 24 (0, 0)) := (hb1.block w.heap.size (by rw [HZ0.out]; omega)).trans HG0.out; have hR1 : w1.heap[w.heap.size + 1]? = some (.cells #[.int .i64 3, .slice none 0 0, .slice none 0 0, .slice none 0 0, .slice none 0 0] 24 (0, 0)) := (hb1.block (w.heap.size + 1) (by rw [HZ0.out]; omega)).trans HR0.out; have hz1 : w.heap.size + 1 < w1.heap.size := (by have h := hb1.size; rw [HZ0.out] at h; omega); obtain ⟨⟨ga1, gb1, gc1, gd1, ge1⟩, fa1, fb1, fc1, fd1, fe1⟩ := box5 hG1; obtain ⟨⟨ra1, rb1, rc1, rd1, re1⟩, qa1, qb1, qc1, qd1, qe1⟩ := box5 hR1; have hB1 : Bs (From (w.heap.size + 2)) w1 B1 x0 := hs1.blo (by rw [HZ0.out]; omega))
      | (go_at_call 86; (with_reducible refine (piece_run (p := p0) e1 ?ha hpc h4).mono ?_); (case ha => exact Hb.out.bbelow (hF1.setCell (p := ⟨w.heap.size + 1, 1, none⟩) (by show w.heap.size ≤ w.heap.size + 1; omega) (.slice B1 x0.length d1))); rintro e w2 ⟨B2, d2, rfl, hs2, hb2⟩; have hF2 : Below w.heap.size w w2 := (hF1.setCell (p := ⟨w.heap.size + 1, 1, none⟩) (by show w.heap.size ≤ w.heap.size + 1; omega) (.slice B1 x0.length d1)).next hb2 (by simp; omega); have hG2 : w2.heap[w.heap.size]? = some (.cells #[.int .i64 0, .slice none 0 0, .slice none 0 0, .slice none 0 0, .slice none 0 0] 24 (0, 0)) := (hb2.block w.heap.size (by simp; omega)).trans ((heap_setCell_other _ _ _ _ (by show w.heap.size ≠ w.heap.size + 1; omega)).trans hG1); have hR2 : w2.heap[w.heap.size + 1]? = some (.cells #[.int .i64 3, .slice B1 x0.length d1, .slice none 0 0, .slice none 0 0, .slice none 0 0] 24 (0, 0)) := (hb2.block (w.heap.size + 1) (by simp; omega)).trans ((heap_setCell_same _ _ _ _ _ _ hR1).trans rfl); have hz2 : w.heap.size + 1 < w2.heap.size := (by have h := hb2.size; simp at h; omega); obtain ⟨⟨ga2, gb2, gc2, gd2, ge2⟩, fa2, fb2, fc2, fd2, fe2⟩ := box5 hG2; obtain ⟨⟨ra2, rb2, rc2, rd2, re2⟩, qa2, qb2, qc2, qd2, qe2⟩ := box5 hR2; have hB2 : Bs (From (w.heap.size + 2)) w2 B2 x1 := hs2.blo (by simp; omega); replace hB1 : Bs (From (w.heap.size + 2)) w2 B1 x0 := (hB1.bsame ((Same.refl _ _).setCell (p := ⟨w.heap.size + 1, 1, none⟩) (fun hq => by have hq2 : w.heap.size + 2 ≤ w.heap.size + 1 := hq; omega) _)).bbelow hb2)
      | (go_at_call 86; (with_reducible refine (piece_run (p := p1) e2 ?ha hpc h4).mono ?_); (case ha => exact Hb.out.bbelow (hF2.setCell (p := ⟨w.heap.size + 1, 2, none⟩) (by show w.heap.size ≤ w.heap.size + 1; omega) (.slice B2 x1.length d2))); rintro e w3 ⟨B3, d3, rfl, hs3, hb3⟩; have hF3 : Below w.heap.size w w3 := (hF2.setCell (p := ⟨w.heap.size + 1, 2, none⟩) (by show w.heap.size ≤ w.heap.size + 1; omega) (.slice B2 x1.length d2)).next hb3 (by simp; omega); have hG3 : w3.heap[w.heap.size]? = some (.cells #[.int .i64 0, .slice none 0 0, .slice none 0 0, .slice none 0 0, .slice none 0 0] 24 (0, 0)) := (hb3.block w.heap.size (by simp; omega)).trans ((heap_setCell_other _ _ _ _ (by show w.heap.size ≠ w.heap.size + 1; omega)).trans hG2); have hR3 : w3.heap[w.heap.size + 1]? = some (.cells #[.int .i64 3, .slice B1 x0.length d1, .slice B2 x1.length d2, .slice none 0 0, .slice none 0 0] 24 (0, 0)) := (hb3.block (w.heap.size + 1) (by simp; omega)).trans ((heap_setCell_same _ _ _ _ _ _ hR2).trans rfl); have hz3 : w.heap.size + 1 < w3.heap.size := (by have h := hb3.size; simp at h; omega); obtain ⟨⟨ga3, gb3, gc3, gd3, ge3⟩, fa3, fb3, fc3, fd3, fe3⟩ := box5 hG3; obtain ⟨⟨ra3, rb3, rc3, rd3, re3⟩, qa3, qb3, qc3, qd3, qe3⟩ := box5 hR3; have hB3 : Bs (From (w.heap.size + 2)) w3 B3 x2 := hs3.blo (by simp; omega); replace hB1 : Bs (From (w.heap.size + 2)) w3 B1 x0 := (hB1.bsame ((Same.refl _ _).setCell (p := ⟨w.heap.size + 1, 2, none⟩) (fun hq => by have hq2 : w.heap.size + 2 ≤ w.heap.size + 1 := hq; omega) _)).bbelow hb3; replace hB2 : Bs (From (w.heap.size + 2)) w3 B2 x1 := (hB2.bsame ((Same.refl _ _).setCell (p := ⟨w.heap.size + 1, 2, none⟩) (fun hq => by have hq2 : w.heap.size + 2 ≤ w.heap.size + 1 := hq; omega) _)).bbelow hb3))
    obtain ⟨⟨za, zb, zc, zd, ze⟩, ya, yb, yc, yd, ye⟩ := box5 (show (w3.setCell ⟨w.heap.size + 1, 3, none⟩ (.slice B3 x2.length d3)).heap[w.heap.size]? = some (.cells #[.int .i64 0, .slice none 0 0, .slice none 0 0, .slice none 0 0, .slice none 0 0] 24 (0, 0)) from ((heap_setCell_other _ _ _ _ (by show w.heap.size ≠ w.heap.size + 1; omega)).trans hG3))
    refine bodyPost_ret (v := .tuple #[.agg #[.int .i64 0, .slice none 0 0, .slice none 0 0, .slice none 0 0, .slice none 0 0], .int .i64 4]) (by simp [results, Tryd.results29, go_sem, za, zb, zc, zd, ze]) rfl ?_
    rw [Hv.out]
    exact ⟨none, 0, none, 0, none, 0, none, 0, rfl, SL.nil, SL.nil, SL.nil, SL.nil, ((((((hF3.setCell (p := ⟨w.heap.size + 1, 3, none⟩) (by show w.heap.size ≤ w.heap.size + 1; omega) (.slice B3 x2.length d3)).setCell (by show w.heap.size ≤ w.heap.size; omega) _).setCell (by show w.heap.size ≤ w.heap.size; omega) _).setCell (by show w.heap.size ≤ w.heap.size; omega) _).setCell (by show w.heap.size ≤ w.heap.size; omega) _).setCell (by show w.heap.size ≤ w.heap.size; omega) _)⟩
  · have Hn := Lib.hid (Hn2.out h' h)
    have t1 : decide (p2 < 0) = false := decide_eq_false (by omega)
    have t2 : decide (p2 < (b.length : Int)) = false := decide_eq_false (by omega)
    have Hck := Lib.hid (show ∀ (W : World) (A B C D : Option Addr) (a b c d : Nat), Calls Tryd.prog 23 #[.agg #[.int .i64 3, .slice A x0.length a, .slice B x1.length b, .slice C x2.length c, .slice D 0 d]] W (RetV W (.int .i64 (rqFault ⟨3, x0, x1, x2, []⟩))) from fun W A B C D a b c d => rqFault_ok W A B C D ⟨3, x0, x1, x2, []⟩ a b c d (by show x0.length ≤ 140737488355328; omega) (by show x1.length ≤ 140737488355328; omega))
    clear Hn0 Hn1 Hn2
    by_cases hf : rqFault ⟨3, x0, x1, x2, []⟩ = 0
    · have Hv := Lib.hid (Hn.out.trans (if_neg (by rw [hf]; decide)))
      have Hrq := Lib.hid hf
      clear hf Hn
      go_enter Tryd.func29, Tryd.ntmps29
      go_wp2_with (first
        | (go_at_call 79; refine (in_ok _ _ _ _).mono ?_; rintro e wi ⟨rfl, rfl⟩)
        | (go_at_call 80; refine (Hnm.out _).mono ?_; rintro e wn ⟨rfl, rfl⟩)
        | (go_at_call 86; (with_reducible refine (piece_run (p := 1) e0 ?ha hpc h4).mono ?_); (case ha => exact Hb.out.bbelow HF0.out); rintro e w1 ⟨B1, d1, rfl, hs1, hb1⟩; have hF1 : Below w.heap.size w w1 := HF0.out.next hb1 (by rw [HZ0.out]; omega); have hG1 : w1.heap[w.heap.size]? = some (.cells #[.int .i64 0, .slice none 0 0, .slice none 0 0, .slice none 0 0, .slice none 0 0] 24 (0, 0)) := (hb1.block w.heap.size (by rw [HZ0.out]; omega)).trans HG0.out; have hR1 : w1.heap[w.heap.size + 1]? = some (.cells #[.int .i64 3, .slice none 0 0, .slice none 0 0, .slice none 0 0, .slice none 0 0] 24 (0, 0)) := (hb1.block (w.heap.size + 1) (by rw [HZ0.out]; omega)).trans HR0.out; have hz1 : w.heap.size + 1 < w1.heap.size := (by have h := hb1.size; rw [HZ0.out] at h; omega); obtain ⟨⟨ga1, gb1, gc1, gd1, ge1⟩, fa1, fb1, fc1, fd1, fe1⟩ := box5 hG1; obtain ⟨⟨ra1, rb1, rc1, rd1, re1⟩, qa1, qb1, qc1, qd1, qe1⟩ := box5 hR1; have hB1 : Bs (From (w.heap.size + 2)) w1 B1 x0 := hs1.blo (by rw [HZ0.out]; omega))
        | (go_at_call 86; (with_reducible refine (piece_run (p := p0) e1 ?ha hpc h4).mono ?_); (case ha => exact Hb.out.bbelow (hF1.setCell (p := ⟨w.heap.size + 1, 1, none⟩) (by show w.heap.size ≤ w.heap.size + 1; omega) (.slice B1 x0.length d1))); rintro e w2 ⟨B2, d2, rfl, hs2, hb2⟩; have hF2 : Below w.heap.size w w2 := (hF1.setCell (p := ⟨w.heap.size + 1, 1, none⟩) (by show w.heap.size ≤ w.heap.size + 1; omega) (.slice B1 x0.length d1)).next hb2 (by simp; omega); have hG2 : w2.heap[w.heap.size]? = some (.cells #[.int .i64 0, .slice none 0 0, .slice none 0 0, .slice none 0 0, .slice none 0 0] 24 (0, 0)) := (hb2.block w.heap.size (by simp; omega)).trans ((heap_setCell_other _ _ _ _ (by show w.heap.size ≠ w.heap.size + 1; omega)).trans hG1); have hR2 : w2.heap[w.heap.size + 1]? = some (.cells #[.int .i64 3, .slice B1 x0.length d1, .slice none 0 0, .slice none 0 0, .slice none 0 0] 24 (0, 0)) := (hb2.block (w.heap.size + 1) (by simp; omega)).trans ((heap_setCell_same _ _ _ _ _ _ hR1).trans rfl); have hz2 : w.heap.size + 1 < w2.heap.size := (by have h := hb2.size; simp at h; omega); obtain ⟨⟨ga2, gb2, gc2, gd2, ge2⟩, fa2, fb2, fc2, fd2, fe2⟩ := box5 hG2; obtain ⟨⟨ra2, rb2, rc2, rd2, re2⟩, qa2, qb2, qc2, qd2, qe2⟩ := box5 hR2; have hB2 : Bs (From (w.heap.size + 2)) w2 B2 x1 := hs2.blo (by simp; omega); replace hB1 : Bs (From (w.heap.size + 2)) w2 B1 x0 := (hB1.bsame ((Same.refl _ _).setCell (p := ⟨w.heap.size + 1, 1, none⟩) (fun hq => by have hq2 : w.heap.size + 2 ≤ w.heap.size + 1 := hq; omega) _)).bbelow hb2)
        | (go_at_call 86; (with_reducible refine (piece_run (p := p1) e2 ?ha hpc h4).mono ?_); (case ha => exact Hb.out.bbelow (hF2.setCell (p := ⟨w.heap.size + 1, 2, none⟩) (by show w.heap.size ≤ w.heap.size + 1; omega) (.slice B2 x1.length d2))); rintro e w3 ⟨B3, d3, rfl, hs3, hb3⟩; have hF3 : Below w.heap.size w w3 := (hF2.setCell (p := ⟨w.heap.size + 1, 2, none⟩) (by show w.heap.size ≤ w.heap.size + 1; omega) (.slice B2 x1.length d2)).next hb3 (by simp; omega); have hG3 : w3.heap[w.heap.size]? = some (.cells #[.int .i64 0, .slice none 0 0, .slice none 0 0, .slice none 0 0, .slice none 0 0] 24 (0, 0)) := (hb3.block w.heap.size (by simp; omega)).trans ((heap_setCell_other _ _ _ _ (by show w.heap.size ≠ w.heap.size + 1; omega)).trans hG2); have hR3 : w3.heap[w.heap.size + 1]? = some (.cells #[.int .i64 3, .slice B1 x0.length d1, .slice B2 x1.length d2, .slice none 0 0, .slice none 0 0] 24 (0, 0)) := (hb3.block (w.heap.size + 1) (by simp; omega)).trans ((heap_setCell_same _ _ _ _ _ _ hR2).trans rfl); have hz3 : w.heap.size + 1 < w3.heap.size := (by have h := hb3.size; simp at h; omega); obtain ⟨⟨ga3, gb3, gc3, gd3, ge3⟩, fa3, fb3, fc3, fd3, fe3⟩ := box5 hG3; obtain ⟨⟨ra3, rb3, rc3, rd3, re3⟩, qa3, qb3, qc3, qd3, qe3⟩ := box5 hR3; have hB3 : Bs (From (w.heap.size + 2)) w3 B3 x2 := hs3.blo (by simp; omega); replace hB1 : Bs (From (w.heap.size + 2)) w3 B1 x0 := (hB1.bsame ((Same.refl _ _).setCell (p := ⟨w.heap.size + 1, 2, none⟩) (fun hq => by have hq2 : w.heap.size + 2 ≤ w.heap.size + 1 := hq; omega) _)).bbelow hb3; replace hB2 : Bs (From (w.heap.size + 2)) w3 B2 x1 := (hB2.bsame ((Same.refl _ _).setCell (p := ⟨w.heap.size + 1, 2, none⟩) (fun hq => by have hq2 : w.heap.size + 2 ≤ w.heap.size + 1 := hq; omega) _)).bbelow hb3)
        | (go_at_call 23; refine (Hck.out _ B1 B2 B3 none d1 d2 d3 0).mono ?_; rintro e w9 ⟨rfl, hb9⟩; rw [Hrq.out]; have hz9 := hb9.size; have hG9 := (hb9.block w.heap.size (by simp; omega)).trans (show (w3.setCell ⟨w.heap.size + 1, 3, none⟩ (.slice B3 x2.length d3)).heap[w.heap.size]? = some (.cells #[.int .i64 0, .slice none 0 0, .slice none 0 0, .slice none 0 0, .slice none 0 0] 24 (0, 0)) from ((heap_setCell_other _ _ _ _ (by show w.heap.size ≠ w.heap.size + 1; omega)).trans hG3)); obtain ⟨⟨za, zb, zc, zd, ze⟩, ya, yb, yc, yd, ye⟩ := box5 hG9; have hR9 := (hb9.block (w.heap.size + 1) (by simp; omega)).trans (show (w3.setCell ⟨w.heap.size + 1, 3, none⟩ (.slice B3 x2.length d3)).heap[w.heap.size + 1]? = some (.cells #[.int .i64 3, .slice B1 x0.length d1, .slice B2 x1.length d2, .slice B3 x2.length d3, .slice none 0 0] 24 (0, 0)) from ((heap_setCell_same _ _ _ _ _ _ hR3).trans rfl)); obtain ⟨⟨sa, sb, sc, sd, se⟩, _⟩ := box5 hR9))
      refine bodyPost_ret (v := .tuple #[.agg #[.int .i64 3, .slice B1 x0.length d1, .slice B2 x1.length d2, .slice B3 x2.length d3, .slice none 0 0], .int .i64 0]) (by simp [results, Tryd.results29, go_sem, za, zb, zc, zd, ze]) rfl ?_
      rw [Hv.out]
      exact ⟨B1, d1, B2, d2, B3, d3, none, 0, rfl, (((hB1.bsame ((Same.refl _ _).setCell (p := ⟨w.heap.size + 1, 3, none⟩) (fun hq => by have hq2 : w.heap.size + 2 ≤ w.heap.size + 1 := hq; omega) _)).bbelow hb9).bsame ((((((Same.refl _ _).setCell (fun hq => by have hq2 : w.heap.size + 2 ≤ w.heap.size := hq; omega) _).setCell (fun hq => by have hq2 : w.heap.size + 2 ≤ w.heap.size := hq; omega) _).setCell (fun hq => by have hq2 : w.heap.size + 2 ≤ w.heap.size := hq; omega) _).setCell (fun hq => by have hq2 : w.heap.size + 2 ≤ w.heap.size := hq; omega) _).setCell (fun hq => by have hq2 : w.heap.size + 2 ≤ w.heap.size := hq; omega) _)).blo (by omega), (((hB2.bsame ((Same.refl _ _).setCell (p := ⟨w.heap.size + 1, 3, none⟩) (fun hq => by have hq2 : w.heap.size + 2 ≤ w.heap.size + 1 := hq; omega) _)).bbelow hb9).bsame ((((((Same.refl _ _).setCell (fun hq => by have hq2 : w.heap.size + 2 ≤ w.heap.size := hq; omega) _).setCell (fun hq => by have hq2 : w.heap.size + 2 ≤ w.heap.size := hq; omega) _).setCell (fun hq => by have hq2 : w.heap.size + 2 ≤ w.heap.size := hq; omega) _).setCell (fun hq => by have hq2 : w.heap.size + 2 ≤ w.heap.size := hq; omega) _).setCell (fun hq => by have hq2 : w.heap.size + 2 ≤ w.heap.size := hq; omega) _)).blo (by omega), (((hB3.bsame ((Same.refl _ _).setCell (p := ⟨w.heap.size + 1, 3, none⟩) (fun hq => by have hq2 : w.heap.size + 2 ≤ w.heap.size + 1 := hq; omega) _)).bbelow hb9).bsame ((((((Same.refl _ _).setCell (fun hq => by have hq2 : w.heap.size + 2 ≤ w.heap.size := hq; omega) _).setCell (fun hq => by have hq2 : w.heap.size + 2 ≤ w.heap.size := hq; omega) _).setCell (fun hq => by have hq2 : w.heap.size + 2 ≤ w.heap.size := hq; omega) _).setCell (fun hq => by have hq2 : w.heap.size + 2 ≤ w.heap.size := hq; omega) _).setCell (fun hq => by have hq2 : w.heap.size + 2 ≤ w.heap.size := hq; omega) _)).blo (by omega), SL.nil, (((((((hF3.setCell (p := ⟨w.heap.size + 1, 3, none⟩) (by show w.heap.size ≤ w.heap.size + 1; omega) (.slice B3 x2.length d3)).next hb9 (hF3.setCell (p := ⟨w.heap.size + 1, 3, none⟩) (by show w.heap.size ≤ w.heap.size + 1; omega) (.slice B3 x2.length d3)).size).setCell (by show w.heap.size ≤ w.heap.size; omega) _).setCell (by show w.heap.size ≤ w.heap.size; omega) _).setCell (by show w.heap.size ≤ w.heap.size; omega) _).setCell (by show w.heap.size ≤ w.heap.size; omega) _).setCell (by show w.heap.size ≤ w.heap.size; omega) _)⟩
    · have Hv := Lib.hid (Hn.out.trans (if_pos hf))
      have hf' : (rqFault ⟨3, x0, x1, x2, []⟩ != 0) = true := by simpa using hf
      clear hf Hn
      go_enter Tryd.func29, Tryd.ntmps29
      go_wp2_with (first
        | (go_at_call 79; refine (in_ok _ _ _ _).mono ?_; rintro e wi ⟨rfl, rfl⟩)
        | (go_at_call 80; refine (Hnm.out _).mono ?_; rintro e wn ⟨rfl, rfl⟩)
        | (go_at_call 86; (with_reducible refine (piece_run (p := 1) e0 ?ha hpc h4).mono ?_); (case ha => exact Hb.out.bbelow HF0.out); rintro e w1 ⟨B1, d1, rfl, hs1, hb1⟩; have hF1 : Below w.heap.size w w1 := HF0.out.next hb1 (by rw [HZ0.out]; omega); have hG1 : w1.heap[w.heap.size]? = some (.cells #[.int .i64 0, .slice none 0 0, .slice none 0 0, .slice none 0 0, .slice none 0 0] 24 (0, 0)) := (hb1.block w.heap.size (by rw [HZ0.out]; omega)).trans HG0.out; have hR1 : w1.heap[w.heap.size + 1]? = some (.cells #[.int .i64 3, .slice none 0 0, .slice none 0 0, .slice none 0 0, .slice none 0 0] 24 (0, 0)) := (hb1.block (w.heap.size + 1) (by rw [HZ0.out]; omega)).trans HR0.out; have hz1 : w.heap.size + 1 < w1.heap.size := (by have h := hb1.size; rw [HZ0.out] at h; omega); obtain ⟨⟨ga1, gb1, gc1, gd1, ge1⟩, fa1, fb1, fc1, fd1, fe1⟩ := box5 hG1; obtain ⟨⟨ra1, rb1, rc1, rd1, re1⟩, qa1, qb1, qc1, qd1, qe1⟩ := box5 hR1; have hB1 : Bs (From (w.heap.size + 2)) w1 B1 x0 := hs1.blo (by rw [HZ0.out]; omega))
        | (go_at_call 86; (with_reducible refine (piece_run (p := p0) e1 ?ha hpc h4).mono ?_); (case ha => exact Hb.out.bbelow (hF1.setCell (p := ⟨w.heap.size + 1, 1, none⟩) (by show w.heap.size ≤ w.heap.size + 1; omega) (.slice B1 x0.length d1))); rintro e w2 ⟨B2, d2, rfl, hs2, hb2⟩; have hF2 : Below w.heap.size w w2 := (hF1.setCell (p := ⟨w.heap.size + 1, 1, none⟩) (by show w.heap.size ≤ w.heap.size + 1; omega) (.slice B1 x0.length d1)).next hb2 (by simp; omega); have hG2 : w2.heap[w.heap.size]? = some (.cells #[.int .i64 0, .slice none 0 0, .slice none 0 0, .slice none 0 0, .slice none 0 0] 24 (0, 0)) := (hb2.block w.heap.size (by simp; omega)).trans ((heap_setCell_other _ _ _ _ (by show w.heap.size ≠ w.heap.size + 1; omega)).trans hG1); have hR2 : w2.heap[w.heap.size + 1]? = some (.cells #[.int .i64 3, .slice B1 x0.length d1, .slice none 0 0, .slice none 0 0, .slice none 0 0] 24 (0, 0)) := (hb2.block (w.heap.size + 1) (by simp; omega)).trans ((heap_setCell_same _ _ _ _ _ _ hR1).trans rfl); have hz2 : w.heap.size + 1 < w2.heap.size := (by have h := hb2.size; simp at h; omega); obtain ⟨⟨ga2, gb2, gc2, gd2, ge2⟩, fa2, fb2, fc2, fd2, fe2⟩ := box5 hG2; obtain ⟨⟨ra2, rb2, rc2, rd2, re2⟩, qa2, qb2, qc2, qd2, qe2⟩ := box5 hR2; have hB2 : Bs (From (w.heap.size + 2)) w2 B2 x1 := hs2.blo (by simp; omega); replace hB1 : Bs (From (w.heap.size + 2)) w2 B1 x0 := (hB1.bsame ((Same.refl _ _).setCell (p := ⟨w.heap.size + 1, 1, none⟩) (fun hq => by have hq2 : w.heap.size + 2 ≤ w.heap.size + 1 := hq; omega) _)).bbelow hb2)
        | (go_at_call 86; (with_reducible refine (piece_run (p := p1) e2 ?ha hpc h4).mono ?_); (case ha => exact Hb.out.bbelow (hF2.setCell (p := ⟨w.heap.size + 1, 2, none⟩) (by show w.heap.size ≤ w.heap.size + 1; omega) (.slice B2 x1.length d2))); rintro e w3 ⟨B3, d3, rfl, hs3, hb3⟩; have hF3 : Below w.heap.size w w3 := (hF2.setCell (p := ⟨w.heap.size + 1, 2, none⟩) (by show w.heap.size ≤ w.heap.size + 1; omega) (.slice B2 x1.length d2)).next hb3 (by simp; omega); have hG3 : w3.heap[w.heap.size]? = some (.cells #[.int .i64 0, .slice none 0 0, .slice none 0 0, .slice none 0 0, .slice none 0 0] 24 (0, 0)) := (hb3.block w.heap.size (by simp; omega)).trans ((heap_setCell_other _ _ _ _ (by show w.heap.size ≠ w.heap.size + 1; omega)).trans hG2); have hR3 : w3.heap[w.heap.size + 1]? = some (.cells #[.int .i64 3, .slice B1 x0.length d1, .slice B2 x1.length d2, .slice none 0 0, .slice none 0 0] 24 (0, 0)) := (hb3.block (w.heap.size + 1) (by simp; omega)).trans ((heap_setCell_same _ _ _ _ _ _ hR2).trans rfl); have hz3 : w.heap.size + 1 < w3.heap.size := (by have h := hb3.size; simp at h; omega); obtain ⟨⟨ga3, gb3, gc3, gd3, ge3⟩, fa3, fb3, fc3, fd3, fe3⟩ := box5 hG3; obtain ⟨⟨ra3, rb3, rc3, rd3, re3⟩, qa3, qb3, qc3, qd3, qe3⟩ := box5 hR3; have hB3 : Bs (From (w.heap.size + 2)) w3 B3 x2 := hs3.blo (by simp; omega); replace hB1 : Bs (From (w.heap.size + 2)) w3 B1 x0 := (hB1.bsame ((Same.refl _ _).setCell (p := ⟨w.heap.size + 1, 2, none⟩) (fun hq => by have hq2 : w.heap.size + 2 ≤ w.heap.size + 1 := hq; omega) _)).bbelow hb3; replace hB2 : Bs (From (w.heap.size + 2)) w3 B2 x1 := (hB2.bsame ((Same.refl _ _).setCell (p := ⟨w.heap.size + 1, 2, none⟩) (fun hq => by have hq2 : w.heap.size + 2 ≤ w.heap.size + 1 := hq; omega) _)).bbelow hb3)
        | (go_at_call 23; refine (Hck.out _ B1 B2 B3 none d1 d2 d3 0).mono ?_; rintro e w9 ⟨rfl, hb9⟩; have hz9 := hb9.size; have hG9 := (hb9.block w.heap.size (by simp; omega)).trans (show (w3.setCell ⟨w.heap.size + 1, 3, none⟩ (.slice B3 x2.length d3)).heap[w.heap.size]? = some (.cells #[.int .i64 0, .slice none 0 0, .slice none 0 0, .slice none 0 0, .slice none 0 0] 24 (0, 0)) from ((heap_setCell_other _ _ _ _ (by show w.heap.size ≠ w.heap.size + 1; omega)).trans hG3)); obtain ⟨⟨za, zb, zc, zd, ze⟩, ya, yb, yc, yd, ye⟩ := box5 hG9; have hR9 := (hb9.block (w.heap.size + 1) (by simp; omega)).trans (show (w3.setCell ⟨w.heap.size + 1, 3, none⟩ (.slice B3 x2.length d3)).heap[w.heap.size + 1]? = some (.cells #[.int .i64 3, .slice B1 x0.length d1, .slice B2 x1.length d2, .slice B3 x2.length d3, .slice none 0 0] 24 (0, 0)) from ((heap_setCell_same _ _ _ _ _ _ hR3).trans rfl)); obtain ⟨⟨sa, sb, sc, sd, se⟩, _⟩ := box5 hR9))
      refine bodyPost_ret (v := .tuple #[.agg #[.int .i64 0, .slice none 0 0, .slice none 0 0, .slice none 0 0, .slice none 0 0], .int .i64 (rqFault ⟨3, x0, x1, x2, []⟩)]) (by simp [results, Tryd.results29, go_sem, za, zb, zc, zd, ze]) rfl ?_
      rw [Hv.out]
      exact ⟨none, 0, none, 0, none, 0, none, 0, rfl, SL.nil, SL.nil, SL.nil, SL.nil, (((((((hF3.setCell (p := ⟨w.heap.size + 1, 3, none⟩) (by show w.heap.size ≤ w.heap.size + 1; omega) (.slice B3 x2.length d3)).next hb9 (hF3.setCell (p := ⟨w.heap.size + 1, 3, none⟩) (by show w.heap.size ≤ w.heap.size + 1; omega) (.slice B3 x2.length d3)).size).setCell (by show w.heap.size ≤ w.heap.size; omega) _).setCell (by show w.heap.size ≤ w.heap.size; omega) _).setCell (by show w.heap.size ≤ w.heap.size; omega) _).setCell (by show w.heap.size ≤ w.heap.size; omega) _).setCell (by show w.heap.size ≤ w.heap.size; omega) _)⟩
set_option maxRecDepth 100000 in
set_option maxHeartbeats 4000000 in
theorem rqOf_11 (w : World) (P : Option Addr) (b : List UInt8) (pc : Nat) (hb : Bs All w P b) (hpc : b.length ≤ pc) (h4 : b.length ≤ 4000) (h1 : 1 ≤ b.length) (hk : (b.getD 0 0).toNat = 4) :
    Calls Tryd.prog 29 #[.slice P b.length pc] w (RetRqE w (decK 4 11 (b.drop 1, false))) := by
  obtain ⟨g, off, rfl, hc0⟩ := bs_zero hb h1
  rw [hk] at hc0
  have Hb := Lib.hid hb
  have hgl := World.block_lt_of_cell? w _ hc0
  have hb4 : ¬ (4000 : Int) < (b.length : Int) := by omega
  have hbn : b ≠ [] := by intro h; rw [h] at h1; simp at h1
  have hb0 : ((b.length : Int) == 0) = false := by simp; exact hbn
  have i0 : (0 : Int) < (b.length : Int) := by omega
  have Hnm := Lib.hid (show ∀ W : World, Calls Tryd.prog 80 #[.int .i64 4] W (fun e w' => e = .returned (.bool true) ∧ w' = W) from fun W => named_ok W 4 (by decide) (by decide))
  have hk9 : 3 < 9 := by omega
  obtain ⟨s, es⟩ : ∃ s : Rdr, s = (b.drop 1, false) := ⟨_, rfl⟩
  rw [← es]
  have hd0 : RdAt b (rdUp 11 s 0) 1 := by rw [es]; exact .inl ⟨rfl, by omega, by omega, rfl⟩
  obtain ⟨x0, p0, e0⟩ : ∃ x q, pieceAt b 1 = (x, q) := ⟨_, _, rfl⟩
  have hx0 : x0.length ≤ 255 := by have := pieceAt_short b 1; rw [e0] at this; exact this
  obtain ⟨hq0, hv0⟩ := piece_at hd0
  rw [e0] at hq0 hv0
  dsimp only at hq0 hv0
  have hd1 : RdAt b (rdUp 11 s 1) p0 := by show RdAt b (fldS 11 0 (rdUp 11 s 0)).2 p0; unfold fldS; rw [if_pos (by decide)]; exact hq0
  have hf0 : (rdUp 11 s 4).2 = false → fAt 11 s 0 = x0 := fun h => by
    have h2 : (pieceS (rdUp 11 s 0)).2.2 = false := by
      rcases Bool.eq_false_or_eq_true (pieceS (rdUp 11 s 0)).2.2 with h3 | h3
      · have h5 : (rdUp 11 s 1).2 = true := by show (fldS 11 0 (rdUp 11 s 0)).2.2 = true; unfold fldS; rw [if_pos (by decide)]; exact h3
        rw [rdUp_short (by omega) h5] at h; cases h
      · exact h3
    unfold fAt fldS
    rw [if_pos (by decide)]
    exact (hv0 h2).symm
  obtain ⟨x1, p1, e1⟩ : ∃ x q, pieceAt b p0 = (x, q) := ⟨_, _, rfl⟩
  have hx1 : x1.length ≤ 255 := by have := pieceAt_short b p0; rw [e1] at this; exact this
  obtain ⟨hq1, hv1⟩ := piece_at hd1
  rw [e1] at hq1 hv1
  dsimp only at hq1 hv1
  have hd2 : RdAt b (rdUp 11 s 2) p1 := by show RdAt b (fldS 11 1 (rdUp 11 s 1)).2 p1; unfold fldS; rw [if_pos (by decide)]; exact hq1
  have hf1 : (rdUp 11 s 4).2 = false → fAt 11 s 1 = x1 := fun h => by
    have h2 : (pieceS (rdUp 11 s 1)).2.2 = false := by
      rcases Bool.eq_false_or_eq_true (pieceS (rdUp 11 s 1)).2.2 with h3 | h3
      · have h5 : (rdUp 11 s 2).2 = true := by show (fldS 11 1 (rdUp 11 s 1)).2.2 = true; unfold fldS; rw [if_pos (by decide)]; exact h3
        rw [rdUp_short (by omega) h5] at h; cases h
      · exact h3
    unfold fAt fldS
    rw [if_pos (by decide)]
    exact (hv1 h2).symm
  have hd3 : RdAt b (rdUp 11 s 3) p1 := by show RdAt b (fldS 11 2 (rdUp 11 s 2)).2 p1; unfold fldS; rw [if_neg (by decide)]; exact hd2
  have hf2 : (rdUp 11 s 4).2 = false → fAt 11 s 2 = [] := fun _ => by unfold fAt fldS; rw [if_neg (by decide)]
  obtain ⟨x3, p3, e3⟩ : ∃ x q, pieceAt b p1 = (x, q) := ⟨_, _, rfl⟩
  have hx3 : x3.length ≤ 255 := by have := pieceAt_short b p1; rw [e3] at this; exact this
  obtain ⟨hq3, hv3⟩ := piece_at hd3
  rw [e3] at hq3 hv3
  dsimp only at hq3 hv3
  have hd4 : RdAt b (rdUp 11 s 4) p3 := by show RdAt b (fldS 11 3 (rdUp 11 s 3)).2 p3; unfold fldS; rw [if_pos (by decide)]; exact hq3
  have hf3 : (rdUp 11 s 4).2 = false → fAt 11 s 3 = x3 := fun h => by
    have h2 : (pieceS (rdUp 11 s 3)).2.2 = false := by
      rcases Bool.eq_false_or_eq_true (pieceS (rdUp 11 s 3)).2.2 with h3 | h3
      · have h5 : (rdUp 11 s 4).2 = true := by show (fldS 11 3 (rdUp 11 s 3)).2.2 = true; unfold fldS; rw [if_pos (by decide)]; exact h3
        rw [rdUp_short (by omega) h5] at h; cases h
      · exact h3
    unfold fAt fldS
    rw [if_pos (by decide)]
    exact (hv3 h2).symm
  have hrq : (rdUp 11 s 4).2 = false → rqS 4 11 s = ⟨4, x0, x1, [], x3⟩ := fun h => by unfold rqS; rw [hf0 h, hf1 h, hf2 h, hf3 h]; rfl
  have hshort := at_short hd4
  have hrest := at_rest hd4
  have hdk : p3 < 0 ∨ (p3 < (b.length : Int) ∧ 0 ≤ p3) ∨ ((b.length : Int) ≤ p3 ∧ 0 ≤ p3) := by omega
  have Hn0 := Lib.hid (show p3 < 0 → decK 4 11 s = (rq0, 14) from fun h => by unfold decK; rw [if_pos (by rw [hshort]; exact decide_eq_true h)])
  have Hn1 := Lib.hid (show 0 ≤ p3 → p3 < (b.length : Int) → decK 4 11 s = (rq0, 4) from fun h h' => by
    have hl : (rdUp 11 s 4).2 = false := by rw [hshort]; exact decide_eq_false (by omega)
    unfold decK
    rw [if_neg (by rw [hl]; decide), if_pos (of_decide_eq_true ((hrest hl).1.trans (decide_eq_true h')))])
  have Hn2 := Lib.hid (show 0 ≤ p3 → (b.length : Int) ≤ p3 → decK 4 11 s = if rqFault ⟨4, x0, x1, [], x3⟩ ≠ 0 then (rq0, rqFault ⟨4, x0, x1, [], x3⟩) else (⟨4, x0, x1, [], x3⟩, 0) from fun h h' => by
    have hl : (rdUp 11 s 4).2 = false := by rw [hshort]; exact decide_eq_false (by omega)
    unfold decK
    rw [if_neg (by rw [hl]; decide), if_neg (of_decide_eq_false ((hrest hl).1.trans (decide_eq_false (by omega)))), hrq hl])
  clear hshort hrest hrq hf0 hf1 hf2 hf3 hd0 hd1 hd2 hd3 hd4 es hb hq0 hv0 hq1 hv1 hq3 hv3
  obtain ⟨hG0, hR0, hsz0, hF0⟩ := two_rq w (.cells #[.int .i64 0, .slice none 0 0, .slice none 0 0, .slice none 0 0, .slice none 0 0] 24) (.cells #[.int .i64 4, .slice none 0 0, .slice none 0 0, .slice none 0 0, .slice none 0 0] 24)
  have HG0 := Lib.hid hG0
  have HR0 := Lib.hid hR0
  have HF0 := Lib.hid hF0
  have HZ0 := Lib.hid hsz0
  clear hG0 hR0 hF0 hsz0
  rcases hdk with h | ⟨h, h'⟩ | ⟨h, h'⟩
  · have Hv := Lib.hid (Hn0.out h)
    have t1 : decide (p3 < 0) = true := decide_eq_true h
    clear Hn0 Hn1 Hn2
    go_enter Tryd.func29, Tryd.ntmps29
    go_wp2_with (first
      | (go_at_call 79; refine (in_ok _ _ _ _).mono ?_; rintro e wi ⟨rfl, rfl⟩)
      | (go_at_call 80; refine (Hnm.out _).mono ?_; rintro e wn ⟨rfl, rfl⟩)
      | (go_at_call 86; (with_reducible refine (piece_run (p := 1) e0 ?ha hpc h4).mono ?_); (case ha => exact Hb.out.bbelow HF0.out); rintro e w1 ⟨B1, d1, rfl, hs1, hb1⟩; have hF1 : Below w.heap.size w w1 := HF0.out.next hb1 (by rw [HZ0.out]; omega); have hG1 : w1.heap[w.heap.size]? = some (.cells #[.int .i64 0, .slice none 0 0, .slice none 0 0, .slice none 0 0, .slice none 0 0] 24 (0, 0)) := (hb1.block w.heap.size (by rw [HZ0.out]; omega)).trans HG0.out; have hR1 : w1.heap[w.heap.size + 1]? = some (.cells #[.int .i64 4, .slice none 0 0, .slice none 0 0, .slice none 0 0, .slice none 0 0] 24 (0, 0)) := (hb1.block (w.heap.size + 1) (by rw [HZ0.out]; omega)).trans HR0.out; have hz1 : w.heap.size + 1 < w1.heap.size := (by have h := hb1.size; rw [HZ0.out] at h; omega); obtain ⟨⟨ga1, gb1, gc1, gd1, ge1⟩, fa1, fb1, fc1, fd1, fe1⟩ := box5 hG1; obtain ⟨⟨ra1, rb1, rc1, rd1, re1⟩, qa1, qb1, qc1, qd1, qe1⟩ := box5 hR1; have hB1 : Bs (From (w.heap.size + 2)) w1 B1 x0 := hs1.blo (by rw [HZ0.out]; omega))
      | (go_at_call 86; (with_reducible refine (piece_run (p := p0) e1 ?ha hpc h4).mono ?_); (case ha => exact Hb.out.bbelow (hF1.setCell (p := ⟨w.heap.size + 1, 1, none⟩) (by show w.heap.size ≤ w.heap.size + 1; omega) (.slice B1 x0.length d1))); rintro e w2 ⟨B2, d2, rfl, hs2, hb2⟩; have hF2 : Below w.heap.size w w2 := (hF1.setCell (p := ⟨w.heap.size + 1, 1, none⟩) (by show w.heap.size ≤ w.heap.size + 1; omega) (.slice B1 x0.length d1)).next hb2 (by simp; omega); have hG2 : w2.heap[w.heap.size]? = some (.cells #[.int .i64 0, .slice none 0 0, .slice none 0 0, .slice none 0 0, .slice none 0 0] 24 (0, 0)) := (hb2.block w.heap.size (by simp; omega)).trans ((heap_setCell_other _ _ _ _ (by show w.heap.size ≠ w.heap.size + 1; omega)).trans hG1); have hR2 : w2.heap[w.heap.size + 1]? = some (.cells #[.int .i64 4, .slice B1 x0.length d1, .slice none 0 0, .slice none 0 0, .slice none 0 0] 24 (0, 0)) := (hb2.block (w.heap.size + 1) (by simp; omega)).trans ((heap_setCell_same _ _ _ _ _ _ hR1).trans rfl); have hz2 : w.heap.size + 1 < w2.heap.size := (by have h := hb2.size; simp at h; omega); obtain ⟨⟨ga2, gb2, gc2, gd2, ge2⟩, fa2, fb2, fc2, fd2, fe2⟩ := box5 hG2; obtain ⟨⟨ra2, rb2, rc2, rd2, re2⟩, qa2, qb2, qc2, qd2, qe2⟩ := box5 hR2; have hB2 : Bs (From (w.heap.size + 2)) w2 B2 x1 := hs2.blo (by simp; omega); replace hB1 : Bs (From (w.heap.size + 2)) w2 B1 x0 := (hB1.bsame ((Same.refl _ _).setCell (p := ⟨w.heap.size + 1, 1, none⟩) (fun hq => by have hq2 : w.heap.size + 2 ≤ w.heap.size + 1 := hq; omega) _)).bbelow hb2)
      | (go_at_call 86; (with_reducible refine (piece_run (p := p1) e3 ?ha hpc h4).mono ?_); (case ha => exact Hb.out.bbelow (hF2.setCell (p := ⟨w.heap.size + 1, 2, none⟩) (by show w.heap.size ≤ w.heap.size + 1; omega) (.slice B2 x1.length d2))); rintro e w3 ⟨B3, d3, rfl, hs3, hb3⟩; have hF3 : Below w.heap.size w w3 := (hF2.setCell (p := ⟨w.heap.size + 1, 2, none⟩) (by show w.heap.size ≤ w.heap.size + 1; omega) (.slice B2 x1.length d2)).next hb3 (by simp; omega); have hG3 : w3.heap[w.heap.size]? = some (.cells #[.int .i64 0, .slice none 0 0, .slice none 0 0, .slice none 0 0, .slice none 0 0] 24 (0, 0)) := (hb3.block w.heap.size (by simp; omega)).trans ((heap_setCell_other _ _ _ _ (by show w.heap.size ≠ w.heap.size + 1; omega)).trans hG2); have hR3 : w3.heap[w.heap.size + 1]? = some (.cells #[.int .i64 4, .slice B1 x0.length d1, .slice B2 x1.length d2, .slice none 0 0, .slice none 0 0] 24 (0, 0)) := (hb3.block (w.heap.size + 1) (by simp; omega)).trans ((heap_setCell_same _ _ _ _ _ _ hR2).trans rfl); have hz3 : w.heap.size + 1 < w3.heap.size := (by have h := hb3.size; simp at h; omega); obtain ⟨⟨ga3, gb3, gc3, gd3, ge3⟩, fa3, fb3, fc3, fd3, fe3⟩ := box5 hG3; obtain ⟨⟨ra3, rb3, rc3, rd3, re3⟩, qa3, qb3, qc3, qd3, qe3⟩ := box5 hR3; have hB3 : Bs (From (w.heap.size + 2)) w3 B3 x3 := hs3.blo (by simp; omega); replace hB1 : Bs (From (w.heap.size + 2)) w3 B1 x0 := (hB1.bsame ((Same.refl _ _).setCell (p := ⟨w.heap.size + 1, 2, none⟩) (fun hq => by have hq2 : w.heap.size + 2 ≤ w.heap.size + 1 := hq; omega) _)).bbelow hb3; replace hB2 : Bs (From (w.heap.size + 2)) w3 B2 x1 := (hB2.bsame ((Same.refl _ _).setCell (p := ⟨w.heap.size + 1, 2, none⟩) (fun hq => by have hq2 : w.heap.size + 2 ≤ w.heap.size + 1 := hq; omega) _)).bbelow hb3))
    obtain ⟨⟨za, zb, zc, zd, ze⟩, ya, yb, yc, yd, ye⟩ := box5 (show (w3.setCell ⟨w.heap.size + 1, 4, none⟩ (.slice B3 x3.length d3)).heap[w.heap.size]? = some (.cells #[.int .i64 0, .slice none 0 0, .slice none 0 0, .slice none 0 0, .slice none 0 0] 24 (0, 0)) from ((heap_setCell_other _ _ _ _ (by show w.heap.size ≠ w.heap.size + 1; omega)).trans hG3))
    refine bodyPost_ret (v := .tuple #[.agg #[.int .i64 0, .slice none 0 0, .slice none 0 0, .slice none 0 0, .slice none 0 0], .int .i64 14]) (by simp [results, Tryd.results29, go_sem, za, zb, zc, zd, ze]) rfl ?_
    rw [Hv.out]
    exact ⟨none, 0, none, 0, none, 0, none, 0, rfl, SL.nil, SL.nil, SL.nil, SL.nil, ((((((hF3.setCell (p := ⟨w.heap.size + 1, 4, none⟩) (by show w.heap.size ≤ w.heap.size + 1; omega) (.slice B3 x3.length d3)).setCell (by show w.heap.size ≤ w.heap.size; omega) _).setCell (by show w.heap.size ≤ w.heap.size; omega) _).setCell (by show w.heap.size ≤ w.heap.size; omega) _).setCell (by show w.heap.size ≤ w.heap.size; omega) _).setCell (by show w.heap.size ≤ w.heap.size; omega) _)⟩
  · have Hv := Lib.hid (Hn1.out h' h)
    have t1 : decide (p3 < 0) = false := decide_eq_false (by omega)
    have t2 : decide (p3 < (b.length : Int)) = true := decide_eq_true h
    clear Hn0 Hn1 Hn2
    go_enter Tryd.func29, Tryd.ntmps29
    go_wp2_with (first
      | (go_at_call 79; refine (in_ok _ _ _ _).mono ?_; rintro e wi ⟨rfl, rfl⟩)
      | (go_at_call 80; refine (Hnm.out _).mono ?_; rintro e wn ⟨rfl, rfl⟩)
      | (go_at_call 86; (with_reducible refine (piece_run (p := 1) e0 ?ha hpc h4).mono ?_); (case ha => exact Hb.out.bbelow HF0.out); rintro e w1 ⟨B1, d1, rfl, hs1, hb1⟩; have hF1 : Below w.heap.size w w1 := HF0.out.next hb1 (by rw [HZ0.out]; omega); have hG1 : w1.heap[w.heap.size]? = some (.cells #[.int .i64 0, .slice none 0 0, .slice none 0 0, .slice none 0 0, .slice none 0 0] 24 (0, 0)) := (hb1.block w.heap.size (by rw [HZ0.out]; omega)).trans HG0.out; have hR1 : w1.heap[w.heap.size + 1]? = some (.cells #[.int .i64 4, .slice none 0 0, .slice none 0 0, .slice none 0 0, .slice none 0 0] 24 (0, 0)) := (hb1.block (w.heap.size + 1) (by rw [HZ0.out]; omega)).trans HR0.out; have hz1 : w.heap.size + 1 < w1.heap.size := (by have h := hb1.size; rw [HZ0.out] at h; omega); obtain ⟨⟨ga1, gb1, gc1, gd1, ge1⟩, fa1, fb1, fc1, fd1, fe1⟩ := box5 hG1; obtain ⟨⟨ra1, rb1, rc1, rd1, re1⟩, qa1, qb1, qc1, qd1, qe1⟩ := box5 hR1; have hB1 : Bs (From (w.heap.size + 2)) w1 B1 x0 := hs1.blo (by rw [HZ0.out]; omega))
      | (go_at_call 86; (with_reducible refine (piece_run (p := p0) e1 ?ha hpc h4).mono ?_); (case ha => exact Hb.out.bbelow (hF1.setCell (p := ⟨w.heap.size + 1, 1, none⟩) (by show w.heap.size ≤ w.heap.size + 1; omega) (.slice B1 x0.length d1))); rintro e w2 ⟨B2, d2, rfl, hs2, hb2⟩; have hF2 : Below w.heap.size w w2 := (hF1.setCell (p := ⟨w.heap.size + 1, 1, none⟩) (by show w.heap.size ≤ w.heap.size + 1; omega) (.slice B1 x0.length d1)).next hb2 (by simp; omega); have hG2 : w2.heap[w.heap.size]? = some (.cells #[.int .i64 0, .slice none 0 0, .slice none 0 0, .slice none 0 0, .slice none 0 0] 24 (0, 0)) := (hb2.block w.heap.size (by simp; omega)).trans ((heap_setCell_other _ _ _ _ (by show w.heap.size ≠ w.heap.size + 1; omega)).trans hG1); have hR2 : w2.heap[w.heap.size + 1]? = some (.cells #[.int .i64 4, .slice B1 x0.length d1, .slice none 0 0, .slice none 0 0, .slice none 0 0] 24 (0, 0)) := (hb2.block (w.heap.size + 1) (by simp; omega)).trans ((heap_setCell_same _ _ _ _ _ _ hR1).trans rfl); have hz2 : w.heap.size + 1 < w2.heap.size := (by have h := hb2.size; simp at h; omega); obtain ⟨⟨ga2, gb2, gc2, gd2, ge2⟩, fa2, fb2, fc2, fd2, fe2⟩ := box5 hG2; obtain ⟨⟨ra2, rb2, rc2, rd2, re2⟩, qa2, qb2, qc2, qd2, qe2⟩ := box5 hR2; have hB2 : Bs (From (w.heap.size + 2)) w2 B2 x1 := hs2.blo (by simp; omega); replace hB1 : Bs (From (w.heap.size + 2)) w2 B1 x0 := (hB1.bsame ((Same.refl _ _).setCell (p := ⟨w.heap.size + 1, 1, none⟩) (fun hq => by have hq2 : w.heap.size + 2 ≤ w.heap.size + 1 := hq; omega) _)).bbelow hb2)
      | (go_at_call 86; (with_reducible refine (piece_run (p := p1) e3 ?ha hpc h4).mono ?_); (case ha => exact Hb.out.bbelow (hF2.setCell (p := ⟨w.heap.size + 1, 2, none⟩) (by show w.heap.size ≤ w.heap.size + 1; omega) (.slice B2 x1.length d2))); rintro e w3 ⟨B3, d3, rfl, hs3, hb3⟩; have hF3 : Below w.heap.size w w3 := (hF2.setCell (p := ⟨w.heap.size + 1, 2, none⟩) (by show w.heap.size ≤ w.heap.size + 1; omega) (.slice B2 x1.length d2)).next hb3 (by simp; omega); have hG3 : w3.heap[w.heap.size]? = some (.cells #[.int .i64 0, .slice none 0 0, .slice none 0 0, .slice none 0 0, .slice none 0 0] 24 (0, 0)) := (hb3.block w.heap.size (by simp; omega)).trans ((heap_setCell_other _ _ _ _ (by show w.heap.size ≠ w.heap.size + 1; omega)).trans hG2); have hR3 : w3.heap[w.heap.size + 1]? = some (.cells #[.int .i64 4, .slice B1 x0.length d1, .slice B2 x1.length d2, .slice none 0 0, .slice none 0 0] 24 (0, 0)) := (hb3.block (w.heap.size + 1) (by simp; omega)).trans ((heap_setCell_same _ _ _ _ _ _ hR2).trans rfl); have hz3 : w.heap.size + 1 < w3.heap.size := (by have h := hb3.size; simp at h; omega); obtain ⟨⟨ga3, gb3, gc3, gd3, ge3⟩, fa3, fb3, fc3, fd3, fe3⟩ := box5 hG3; obtain ⟨⟨ra3, rb3, rc3, rd3, re3⟩, qa3, qb3, qc3, qd3, qe3⟩ := box5 hR3; have hB3 : Bs (From (w.heap.size + 2)) w3 B3 x3 := hs3.blo (by simp; omega); replace hB1 : Bs (From (w.heap.size + 2)) w3 B1 x0 := (hB1.bsame ((Same.refl _ _).setCell (p := ⟨w.heap.size + 1, 2, none⟩) (fun hq => by have hq2 : w.heap.size + 2 ≤ w.heap.size + 1 := hq; omega) _)).bbelow hb3; replace hB2 : Bs (From (w.heap.size + 2)) w3 B2 x1 := (hB2.bsame ((Same.refl _ _).setCell (p := ⟨w.heap.size + 1, 2, none⟩) (fun hq => by have hq2 : w.heap.size + 2 ≤ w.heap.size + 1 := hq; omega) _)).bbelow hb3))
    obtain ⟨⟨za, zb, zc, zd, ze⟩, ya, yb, yc, yd, ye⟩ := box5 (show (w3.setCell ⟨w.heap.size + 1, 4, none⟩ (.slice B3 x3.length d3)).heap[w.heap.size]? = some (.cells #[.int .i64 0, .slice none 0 0, .slice none 0 0, .slice none 0 0, .slice none 0 0] 24 (0, 0)) from ((heap_setCell_other _ _ _ _ (by show w.heap.size ≠ w.heap.size + 1; omega)).trans hG3))
    refine bodyPost_ret (v := .tuple #[.agg #[.int .i64 0, .slice none 0 0, .slice none 0 0, .slice none 0 0, .slice none 0 0], .int .i64 4]) (by simp [results, Tryd.results29, go_sem, za, zb, zc, zd, ze]) rfl ?_
    rw [Hv.out]
    exact ⟨none, 0, none, 0, none, 0, none, 0, rfl, SL.nil, SL.nil, SL.nil, SL.nil, ((((((hF3.setCell (p := ⟨w.heap.size + 1, 4, none⟩) (by show w.heap.size ≤ w.heap.size + 1; omega) (.slice B3 x3.length d3)).setCell (by show w.heap.size ≤ w.heap.size; omega) _).setCell (by show w.heap.size ≤ w.heap.size; omega) _).setCell (by show w.heap.size ≤ w.heap.size; omega) _).setCell (by show w.heap.size ≤ w.heap.size; omega) _).setCell (by show w.heap.size ≤ w.heap.size; omega) _)⟩
  · have Hn := Lib.hid (Hn2.out h' h)
    have t1 : decide (p3 < 0) = false := decide_eq_false (by omega)
    have t2 : decide (p3 < (b.length : Int)) = false := decide_eq_false (by omega)
    have Hck := Lib.hid (show ∀ (W : World) (A B C D : Option Addr) (a b c d : Nat), Calls Tryd.prog 23 #[.agg #[.int .i64 4, .slice A x0.length a, .slice B x1.length b, .slice C 0 c, .slice D x3.length d]] W (RetV W (.int .i64 (rqFault ⟨4, x0, x1, [], x3⟩))) from fun W A B C D a b c d => rqFault_ok W A B C D ⟨4, x0, x1, [], x3⟩ a b c d (by show x0.length ≤ 140737488355328; omega) (by show x1.length ≤ 140737488355328; omega))
    clear Hn0 Hn1 Hn2
    by_cases hf : rqFault ⟨4, x0, x1, [], x3⟩ = 0
    · have Hv := Lib.hid (Hn.out.trans (if_neg (by rw [hf]; decide)))
      have Hrq := Lib.hid hf
      clear hf Hn
      go_enter Tryd.func29, Tryd.ntmps29
      go_wp2_with (first
        | (go_at_call 79; refine (in_ok _ _ _ _).mono ?_; rintro e wi ⟨rfl, rfl⟩)
        | (go_at_call 80; refine (Hnm.out _).mono ?_; rintro e wn ⟨rfl, rfl⟩)
        | (go_at_call 86; (with_reducible refine (piece_run (p := 1) e0 ?ha hpc h4).mono ?_); (case ha => exact Hb.out.bbelow HF0.out); rintro e w1 ⟨B1, d1, rfl, hs1, hb1⟩; have hF1 : Below w.heap.size w w1 := HF0.out.next hb1 (by rw [HZ0.out]; omega); have hG1 : w1.heap[w.heap.size]? = some (.cells #[.int .i64 0, .slice none 0 0, .slice none 0 0, .slice none 0 0, .slice none 0 0] 24 (0, 0)) := (hb1.block w.heap.size (by rw [HZ0.out]; omega)).trans HG0.out; have hR1 : w1.heap[w.heap.size + 1]? = some (.cells #[.int .i64 4, .slice none 0 0, .slice none 0 0, .slice none 0 0, .slice none 0 0] 24 (0, 0)) := (hb1.block (w.heap.size + 1) (by rw [HZ0.out]; omega)).trans HR0.out; have hz1 : w.heap.size + 1 < w1.heap.size := (by have h := hb1.size; rw [HZ0.out] at h; omega); obtain ⟨⟨ga1, gb1, gc1, gd1, ge1⟩, fa1, fb1, fc1, fd1, fe1⟩ := box5 hG1; obtain ⟨⟨ra1, rb1, rc1, rd1, re1⟩, qa1, qb1, qc1, qd1, qe1⟩ := box5 hR1; have hB1 : Bs (From (w.heap.size + 2)) w1 B1 x0 := hs1.blo (by rw [HZ0.out]; omega))
        | (go_at_call 86; (with_reducible refine (piece_run (p := p0) e1 ?ha hpc h4).mono ?_); (case ha => exact Hb.out.bbelow (hF1.setCell (p := ⟨w.heap.size + 1, 1, none⟩) (by show w.heap.size ≤ w.heap.size + 1; omega) (.slice B1 x0.length d1))); rintro e w2 ⟨B2, d2, rfl, hs2, hb2⟩; have hF2 : Below w.heap.size w w2 := (hF1.setCell (p := ⟨w.heap.size + 1, 1, none⟩) (by show w.heap.size ≤ w.heap.size + 1; omega) (.slice B1 x0.length d1)).next hb2 (by simp; omega); have hG2 : w2.heap[w.heap.size]? = some (.cells #[.int .i64 0, .slice none 0 0, .slice none 0 0, .slice none 0 0, .slice none 0 0] 24 (0, 0)) := (hb2.block w.heap.size (by simp; omega)).trans ((heap_setCell_other _ _ _ _ (by show w.heap.size ≠ w.heap.size + 1; omega)).trans hG1); have hR2 : w2.heap[w.heap.size + 1]? = some (.cells #[.int .i64 4, .slice B1 x0.length d1, .slice none 0 0, .slice none 0 0, .slice none 0 0] 24 (0, 0)) := (hb2.block (w.heap.size + 1) (by simp; omega)).trans ((heap_setCell_same _ _ _ _ _ _ hR1).trans rfl); have hz2 : w.heap.size + 1 < w2.heap.size := (by have h := hb2.size; simp at h; omega); obtain ⟨⟨ga2, gb2, gc2, gd2, ge2⟩, fa2, fb2, fc2, fd2, fe2⟩ := box5 hG2; obtain ⟨⟨ra2, rb2, rc2, rd2, re2⟩, qa2, qb2, qc2, qd2, qe2⟩ := box5 hR2; have hB2 : Bs (From (w.heap.size + 2)) w2 B2 x1 := hs2.blo (by simp; omega); replace hB1 : Bs (From (w.heap.size + 2)) w2 B1 x0 := (hB1.bsame ((Same.refl _ _).setCell (p := ⟨w.heap.size + 1, 1, none⟩) (fun hq => by have hq2 : w.heap.size + 2 ≤ w.heap.size + 1 := hq; omega) _)).bbelow hb2)
        | (go_at_call 86; (with_reducible refine (piece_run (p := p1) e3 ?ha hpc h4).mono ?_); (case ha => exact Hb.out.bbelow (hF2.setCell (p := ⟨w.heap.size + 1, 2, none⟩) (by show w.heap.size ≤ w.heap.size + 1; omega) (.slice B2 x1.length d2))); rintro e w3 ⟨B3, d3, rfl, hs3, hb3⟩; have hF3 : Below w.heap.size w w3 := (hF2.setCell (p := ⟨w.heap.size + 1, 2, none⟩) (by show w.heap.size ≤ w.heap.size + 1; omega) (.slice B2 x1.length d2)).next hb3 (by simp; omega); have hG3 : w3.heap[w.heap.size]? = some (.cells #[.int .i64 0, .slice none 0 0, .slice none 0 0, .slice none 0 0, .slice none 0 0] 24 (0, 0)) := (hb3.block w.heap.size (by simp; omega)).trans ((heap_setCell_other _ _ _ _ (by show w.heap.size ≠ w.heap.size + 1; omega)).trans hG2); have hR3 : w3.heap[w.heap.size + 1]? = some (.cells #[.int .i64 4, .slice B1 x0.length d1, .slice B2 x1.length d2, .slice none 0 0, .slice none 0 0] 24 (0, 0)) := (hb3.block (w.heap.size + 1) (by simp; omega)).trans ((heap_setCell_same _ _ _ _ _ _ hR2).trans rfl); have hz3 : w.heap.size + 1 < w3.heap.size := (by have h := hb3.size; simp at h; omega); obtain ⟨⟨ga3, gb3, gc3, gd3, ge3⟩, fa3, fb3, fc3, fd3, fe3⟩ := box5 hG3; obtain ⟨⟨ra3, rb3, rc3, rd3, re3⟩, qa3, qb3, qc3, qd3, qe3⟩ := box5 hR3; have hB3 : Bs (From (w.heap.size + 2)) w3 B3 x3 := hs3.blo (by simp; omega); replace hB1 : Bs (From (w.heap.size + 2)) w3 B1 x0 := (hB1.bsame ((Same.refl _ _).setCell (p := ⟨w.heap.size + 1, 2, none⟩) (fun hq => by have hq2 : w.heap.size + 2 ≤ w.heap.size + 1 := hq; omega) _)).bbelow hb3; replace hB2 : Bs (From (w.heap.size + 2)) w3 B2 x1 := (hB2.bsame ((Same.refl _ _).setCell (p := ⟨w.heap.size + 1, 2, none⟩) (fun hq => by have hq2 : w.heap.size + 2 ≤ w.heap.size + 1 := hq; omega) _)).bbelow hb3)
        | (go_at_call 23; refine (Hck.out _ B1 B2 none B3 d1 d2 0 d3).mono ?_; rintro e w9 ⟨rfl, hb9⟩; rw [Hrq.out]; have hz9 := hb9.size; have hG9 := (hb9.block w.heap.size (by simp; omega)).trans (show (w3.setCell ⟨w.heap.size + 1, 4, none⟩ (.slice B3 x3.length d3)).heap[w.heap.size]? = some (.cells #[.int .i64 0, .slice none 0 0, .slice none 0 0, .slice none 0 0, .slice none 0 0] 24 (0, 0)) from ((heap_setCell_other _ _ _ _ (by show w.heap.size ≠ w.heap.size + 1; omega)).trans hG3)); obtain ⟨⟨za, zb, zc, zd, ze⟩, ya, yb, yc, yd, ye⟩ := box5 hG9; have hR9 := (hb9.block (w.heap.size + 1) (by simp; omega)).trans (show (w3.setCell ⟨w.heap.size + 1, 4, none⟩ (.slice B3 x3.length d3)).heap[w.heap.size + 1]? = some (.cells #[.int .i64 4, .slice B1 x0.length d1, .slice B2 x1.length d2, .slice none 0 0, .slice B3 x3.length d3] 24 (0, 0)) from ((heap_setCell_same _ _ _ _ _ _ hR3).trans rfl)); obtain ⟨⟨sa, sb, sc, sd, se⟩, _⟩ := box5 hR9))
      refine bodyPost_ret (v := .tuple #[.agg #[.int .i64 4, .slice B1 x0.length d1, .slice B2 x1.length d2, .slice none 0 0, .slice B3 x3.length d3], .int .i64 0]) (by simp [results, Tryd.results29, go_sem, za, zb, zc, zd, ze]) rfl ?_
      rw [Hv.out]
      exact ⟨B1, d1, B2, d2, none, 0, B3, d3, rfl, (((hB1.bsame ((Same.refl _ _).setCell (p := ⟨w.heap.size + 1, 4, none⟩) (fun hq => by have hq2 : w.heap.size + 2 ≤ w.heap.size + 1 := hq; omega) _)).bbelow hb9).bsame ((((((Same.refl _ _).setCell (fun hq => by have hq2 : w.heap.size + 2 ≤ w.heap.size := hq; omega) _).setCell (fun hq => by have hq2 : w.heap.size + 2 ≤ w.heap.size := hq; omega) _).setCell (fun hq => by have hq2 : w.heap.size + 2 ≤ w.heap.size := hq; omega) _).setCell (fun hq => by have hq2 : w.heap.size + 2 ≤ w.heap.size := hq; omega) _).setCell (fun hq => by have hq2 : w.heap.size + 2 ≤ w.heap.size := hq; omega) _)).blo (by omega), (((hB2.bsame ((Same.refl _ _).setCell (p := ⟨w.heap.size + 1, 4, none⟩) (fun hq => by have hq2 : w.heap.size + 2 ≤ w.heap.size + 1 := hq; omega) _)).bbelow hb9).bsame ((((((Same.refl _ _).setCell (fun hq => by have hq2 : w.heap.size + 2 ≤ w.heap.size := hq; omega) _).setCell (fun hq => by have hq2 : w.heap.size + 2 ≤ w.heap.size := hq; omega) _).setCell (fun hq => by have hq2 : w.heap.size + 2 ≤ w.heap.size := hq; omega) _).setCell (fun hq => by have hq2 : w.heap.size + 2 ≤ w.heap.size := hq; omega) _).setCell (fun hq => by have hq2 : w.heap.size + 2 ≤ w.heap.size := hq; omega) _)).blo (by omega), SL.nil, (((hB3.bsame ((Same.refl _ _).setCell (p := ⟨w.heap.size + 1, 4, none⟩) (fun hq => by have hq2 : w.heap.size + 2 ≤ w.heap.size + 1 := hq; omega) _)).bbelow hb9).bsame ((((((Same.refl _ _).setCell (fun hq => by have hq2 : w.heap.size + 2 ≤ w.heap.size := hq; omega) _).setCell (fun hq => by have hq2 : w.heap.size + 2 ≤ w.heap.size := hq; omega) _).setCell (fun hq => by have hq2 : w.heap.size + 2 ≤ w.heap.size := hq; omega) _).setCell (fun hq => by have hq2 : w.heap.size + 2 ≤ w.heap.size := hq; omega) _).setCell (fun hq => by have hq2 : w.heap.size + 2 ≤ w.heap.size := hq; omega) _)).blo (by omega), (((((((hF3.setCell (p := ⟨w.heap.size + 1, 4, none⟩) (by show w.heap.size ≤ w.heap.size + 1; omega) (.slice B3 x3.length d3)).next hb9 (hF3.setCell (p := ⟨w.heap.size + 1, 4, none⟩) (by show w.heap.size ≤ w.heap.size + 1; omega) (.slice B3 x3.length d3)).size).setCell (by show w.heap.size ≤ w.heap.size; omega) _).setCell (by show w.heap.size ≤ w.heap.size; omega) _).setCell (by show w.heap.size ≤ w.heap.size; omega) _).setCell (by show w.heap.size ≤ w.heap.size; omega) _).setCell (by show w.heap.size ≤ w.heap.size; omega) _)⟩
    · have Hv := Lib.hid (Hn.out.trans (if_pos hf))
      have hf' : (rqFault ⟨4, x0, x1, [], x3⟩ != 0) = true := by simpa using hf
      clear hf Hn
      go_enter Tryd.func29, Tryd.ntmps29
      go_wp2_with (first
        | (go_at_call 79; refine (in_ok _ _ _ _).mono ?_; rintro e wi ⟨rfl, rfl⟩)
        | (go_at_call 80; refine (Hnm.out _).mono ?_; rintro e wn ⟨rfl, rfl⟩)
        | (go_at_call 86; (with_reducible refine (piece_run (p := 1) e0 ?ha hpc h4).mono ?_); (case ha => exact Hb.out.bbelow HF0.out); rintro e w1 ⟨B1, d1, rfl, hs1, hb1⟩; have hF1 : Below w.heap.size w w1 := HF0.out.next hb1 (by rw [HZ0.out]; omega); have hG1 : w1.heap[w.heap.size]? = some (.cells #[.int .i64 0, .slice none 0 0, .slice none 0 0, .slice none 0 0, .slice none 0 0] 24 (0, 0)) := (hb1.block w.heap.size (by rw [HZ0.out]; omega)).trans HG0.out; have hR1 : w1.heap[w.heap.size + 1]? = some (.cells #[.int .i64 4, .slice none 0 0, .slice none 0 0, .slice none 0 0, .slice none 0 0] 24 (0, 0)) := (hb1.block (w.heap.size + 1) (by rw [HZ0.out]; omega)).trans HR0.out; have hz1 : w.heap.size + 1 < w1.heap.size := (by have h := hb1.size; rw [HZ0.out] at h; omega); obtain ⟨⟨ga1, gb1, gc1, gd1, ge1⟩, fa1, fb1, fc1, fd1, fe1⟩ := box5 hG1; obtain ⟨⟨ra1, rb1, rc1, rd1, re1⟩, qa1, qb1, qc1, qd1, qe1⟩ := box5 hR1; have hB1 : Bs (From (w.heap.size + 2)) w1 B1 x0 := hs1.blo (by rw [HZ0.out]; omega))
        | (go_at_call 86; (with_reducible refine (piece_run (p := p0) e1 ?ha hpc h4).mono ?_); (case ha => exact Hb.out.bbelow (hF1.setCell (p := ⟨w.heap.size + 1, 1, none⟩) (by show w.heap.size ≤ w.heap.size + 1; omega) (.slice B1 x0.length d1))); rintro e w2 ⟨B2, d2, rfl, hs2, hb2⟩; have hF2 : Below w.heap.size w w2 := (hF1.setCell (p := ⟨w.heap.size + 1, 1, none⟩) (by show w.heap.size ≤ w.heap.size + 1; omega) (.slice B1 x0.length d1)).next hb2 (by simp; omega); have hG2 : w2.heap[w.heap.size]? = some (.cells #[.int .i64 0, .slice none 0 0, .slice none 0 0, .slice none 0 0, .slice none 0 0] 24 (0, 0)) := (hb2.block w.heap.size (by simp; omega)).trans ((heap_setCell_other _ _ _ _ (by show w.heap.size ≠ w.heap.size + 1; omega)).trans hG1); have hR2 : w2.heap[w.heap.size + 1]? = some (.cells #[.int .i64 4, .slice B1 x0.length d1, .slice none 0 0, .slice none 0 0, .slice none 0 0] 24 (0, 0)) := (hb2.block (w.heap.size + 1) (by simp; omega)).trans ((heap_setCell_same _ _ _ _ _ _ hR1).trans rfl); have hz2 : w.heap.size + 1 < w2.heap.size := (by have h := hb2.size; simp at h; omega); obtain ⟨⟨ga2, gb2, gc2, gd2, ge2⟩, fa2, fb2, fc2, fd2, fe2⟩ := box5 hG2; obtain ⟨⟨ra2, rb2, rc2, rd2, re2⟩, qa2, qb2, qc2, qd2, qe2⟩ := box5 hR2; have hB2 : Bs (From (w.heap.size + 2)) w2 B2 x1 := hs2.blo (by simp; omega); replace hB1 : Bs (From (w.heap.size + 2)) w2 B1 x0 := (hB1.bsame ((Same.refl _ _).setCell (p := ⟨w.heap.size + 1, 1, none⟩) (fun hq => by have hq2 : w.heap.size + 2 ≤ w.heap.size + 1 := hq; omega) _)).bbelow hb2)
        | (go_at_call 86; (with_reducible refine (piece_run (p := p1) e3 ?ha hpc h4).mono ?_); (case ha => exact Hb.out.bbelow (hF2.setCell (p := ⟨w.heap.size + 1, 2, none⟩) (by show w.heap.size ≤ w.heap.size + 1; omega) (.slice B2 x1.length d2))); rintro e w3 ⟨B3, d3, rfl, hs3, hb3⟩; have hF3 : Below w.heap.size w w3 := (hF2.setCell (p := ⟨w.heap.size + 1, 2, none⟩) (by show w.heap.size ≤ w.heap.size + 1; omega) (.slice B2 x1.length d2)).next hb3 (by simp; omega); have hG3 : w3.heap[w.heap.size]? = some (.cells #[.int .i64 0, .slice none 0 0, .slice none 0 0, .slice none 0 0, .slice none 0 0] 24 (0, 0)) := (hb3.block w.heap.size (by simp; omega)).trans ((heap_setCell_other _ _ _ _ (by show w.heap.size ≠ w.heap.size + 1; omega)).trans hG2); have hR3 : w3.heap[w.heap.size + 1]? = some (.cells #[.int .i64 4, .slice B1 x0.length d1, .slice B2 x1.length d2, .slice none 0 0, .slice none 0 0] 24 (0, 0)) := (hb3.block (w.heap.size + 1) (by simp; omega)).trans ((heap_setCell_same _ _ _ _ _ _ hR2).trans rfl); have hz3 : w.heap.size + 1 < w3.heap.size := (by have h := hb3.size; simp at h; omega); obtain ⟨⟨ga3, gb3, gc3, gd3, ge3⟩, fa3, fb3, fc3, fd3, fe3⟩ := box5 hG3; obtain ⟨⟨ra3, rb3, rc3, rd3, re3⟩, qa3, qb3, qc3, qd3, qe3⟩ := box5 hR3; have hB3 : Bs (From (w.heap.size + 2)) w3 B3 x3 := hs3.blo (by simp; omega); replace hB1 : Bs (From (w.heap.size + 2)) w3 B1 x0 := (hB1.bsame ((Same.refl _ _).setCell (p := ⟨w.heap.size + 1, 2, none⟩) (fun hq => by have hq2 : w.heap.size + 2 ≤ w.heap.size + 1 := hq; omega) _)).bbelow hb3; replace hB2 : Bs (From (w.heap.size + 2)) w3 B2 x1 := (hB2.bsame ((Same.refl _ _).setCell (p := ⟨w.heap.size + 1, 2, none⟩) (fun hq => by have hq2 : w.heap.size + 2 ≤ w.heap.size + 1 := hq; omega) _)).bbelow hb3)
        | (go_at_call 23; refine (Hck.out _ B1 B2 none B3 d1 d2 0 d3).mono ?_; rintro e w9 ⟨rfl, hb9⟩; have hz9 := hb9.size; have hG9 := (hb9.block w.heap.size (by simp; omega)).trans (show (w3.setCell ⟨w.heap.size + 1, 4, none⟩ (.slice B3 x3.length d3)).heap[w.heap.size]? = some (.cells #[.int .i64 0, .slice none 0 0, .slice none 0 0, .slice none 0 0, .slice none 0 0] 24 (0, 0)) from ((heap_setCell_other _ _ _ _ (by show w.heap.size ≠ w.heap.size + 1; omega)).trans hG3)); obtain ⟨⟨za, zb, zc, zd, ze⟩, ya, yb, yc, yd, ye⟩ := box5 hG9; have hR9 := (hb9.block (w.heap.size + 1) (by simp; omega)).trans (show (w3.setCell ⟨w.heap.size + 1, 4, none⟩ (.slice B3 x3.length d3)).heap[w.heap.size + 1]? = some (.cells #[.int .i64 4, .slice B1 x0.length d1, .slice B2 x1.length d2, .slice none 0 0, .slice B3 x3.length d3] 24 (0, 0)) from ((heap_setCell_same _ _ _ _ _ _ hR3).trans rfl)); obtain ⟨⟨sa, sb, sc, sd, se⟩, _⟩ := box5 hR9))
      refine bodyPost_ret (v := .tuple #[.agg #[.int .i64 0, .slice none 0 0, .slice none 0 0, .slice none 0 0, .slice none 0 0], .int .i64 (rqFault ⟨4, x0, x1, [], x3⟩)]) (by simp [results, Tryd.results29, go_sem, za, zb, zc, zd, ze]) rfl ?_
      rw [Hv.out]
      exact ⟨none, 0, none, 0, none, 0, none, 0, rfl, SL.nil, SL.nil, SL.nil, SL.nil, (((((((hF3.setCell (p := ⟨w.heap.size + 1, 4, none⟩) (by show w.heap.size ≤ w.heap.size + 1; omega) (.slice B3 x3.length d3)).next hb9 (hF3.setCell (p := ⟨w.heap.size + 1, 4, none⟩) (by show w.heap.size ≤ w.heap.size + 1; omega) (.slice B3 x3.length d3)).size).setCell (by show w.heap.size ≤ w.heap.size; omega) _).setCell (by show w.heap.size ≤ w.heap.size; omega) _).setCell (by show w.heap.size ≤ w.heap.size; omega) _).setCell (by show w.heap.size ≤ w.heap.size; omega) _).setCell (by show w.heap.size ≤ w.heap.size; omega) _)⟩
end Go.Proofs.YtddppmhpdgecgaaDoor
