/- Walk: write of package forest. -/
import Derived.Test.YthhcdibimnifaaaWriteP
import Derived.Test.YthhcdibimnifaaaSDelT
import Derived.Test.YthhcdibimnifaaaTreePut
import Derived.Test.YthhcdibimnifaaaTenCopy
namespace Go.Proofs.Ythhcdibimnifaaa
open Go.RowKit
set_option linter.unusedVariables false
set_option linter.unusedSimpArgs false

theorem Own.put_row {α : Type} {size : Nat} {R : (Nat → Prop) → World → List Value → α → Prop} {S : Nat → Prop} {w W : World} {base : Nat} {e : TypeId} {l : List α} {g cap : Nat} {cur : Array Value} {css : List (List Value)} (hR : Stays R) (hg : base ≤ g) (hcap : l.length ≤ cap) (hmx : cap ≤ maxLen) (hcur : cur.size = cap * size) (ht : cur.toList.take (l.length * size) = css.flatten) (hw : Wide size css) (he : Each (R (fun b => S b ∧ b ≠ g) w) css l)
    {i : Nat} (hi : i < l.length) {c : List Value} (hc : c.length = size) {x : α} (hx : R (fun b => S b ∧ b ≠ g) w c x) (hs : Same (fun b => S b ∧ b ≠ g) w W) (hh' : W.heap[g]? = some (.cells (cur.toList.take (i * size) ++ c ++ cur.toList.drop (i * size + c.length)).toArray e (0, 0))) :
    Own size R S W base e (.slice (some ⟨g, 0, none⟩) l.length cap) (l.set i x) := by
  have hcl := he.length
  have hil : (i + 1) * size ≤ l.length * size := Nat.mul_le_mul_right _ hi
  have hll : l.length * size ≤ cap * size := Nat.mul_le_mul_right _ hcap
  rw [Nat.add_mul, Nat.one_mul] at hil
  have hl' : (l.set i x).length = l.length := List.length_set
  rw [← hl']
  refine Own.mk_row (css := css.set i c) ?_ ((he.set hx i).mono fun c' x' hx' => hR.same _ _ _ _ _ hs hx') hg hh' (by rw [hl']; exact hcap) hmx ?_ ?_ hR
  · intro c' hc'
    rcases List.mem_or_eq_of_mem_set hc' with h1 | h1
    · exact hw c' h1
    · rw [h1]; exact hc
  · simp only [List.size_toArray, List.length_append, List.length_take, List.length_drop, Array.length_toList, hc]
    omega
  · rw [hl']
    have ecss : css.set i c = css.take i ++ c :: css.drop (i + 1) := List.set_eq_take_append_cons_drop.trans (by rw [if_pos (by omega)])
    have e1 : cur.toList.take (i * size) = (css.take i).flatten := by
      rw [← flat_take hw i (by omega), ← ht, List.take_take, Nat.min_eq_left (by omega)]
    have e2 : (cur.toList.drop (i * size + c.length)).take (l.length * size - (i * size + c.length)) = (css.drop (i + 1)).flatten := by
      rw [← flat_drop hw (i + 1) (by omega), ← ht, List.drop_take, hc, Nat.add_mul, Nat.one_mul]
    rw [ecss, List.flatten_append, List.flatten_cons, ← e1, ← e2, List.append_assoc, List.take_append, List.take_append]
    simp only [List.length_take, Array.length_toList]
    rw [List.take_take]
    congr 1
    · congr 1; omega
    · congr 1
      · rw [List.take_of_length_le (by rw [hc]; omega)]
      · congr 1; omega
/-- One cell of one chunk is written anew. -/
theorem Own.put1 {α : Type} {size : Nat} {R : (Nat → Prop) → World → List Value → α → Prop} {S : Nat → Prop} {w : World} {base : Nat} {e : TypeId} {l : List α} {g cap : Nat} (hR : Stays R) (h : Own size R S w base e (.slice (some ⟨g, 0, none⟩) l.length cap) l)
    {i j : Nat} (hi : i < l.length) (hj : j < size) (u : Value) {x : α} (hx : ∀ c, R (fun b => S b ∧ b ≠ g) w c l[i] → R (fun b => S b ∧ b ≠ g) w (c.set j u) x) : Own size R S (w.setCell ⟨g, i * size + j, none⟩ u) base e (.slice (some ⟨g, 0, none⟩) l.length cap) (l.set i x) := by
  obtain ⟨g', cap', cur, css, hv, hg, hlt, hh, hcap, hmx, hcur, ht, hw, he⟩ := h.row hR (by omega)
  cases hv
  have hic : i < css.length := by rw [he.length]; exact hi
  have hci : css[i].length = size := hw _ (List.getElem_mem hic)
  have hil : (i + 1) * size ≤ l.length * size := Nat.mul_le_mul_right _ hi
  have hll : l.length * size ≤ cap * size := Nat.mul_le_mul_right _ hcap
  rw [Nat.add_mul, Nat.one_mul] at hil
  have hsplit : cur.toList = cur.toList.take (i * size) ++ (css[i] ++ cur.toList.drop (i * size + size)) := by
    have e1 : css[i] = (cur.toList.drop (i * size)).take size := by
      rw [← flat_at hw i hic, ← ht, List.drop_take, List.take_take, Nat.min_eq_left (by omega)]
    rw [e1, ← List.drop_drop, List.take_append_drop, List.take_append_drop]
  have htl : (cur.toList.take (i * size)).length = i * size := by rw [List.length_take, Array.length_toList]; omega
  refine Own.put_row hR hg hcap hmx hcur ht hw he hi (c := css[i].set j u) (by rw [List.length_set]; exact hci) (hx _ (he.get i hic hi)) ((Same.refl _ _).setCell (by simp) _) ?_
  rw [heap_setCell_same w g _ cur e u hh]
  congr 2
  apply Array.ext'
  rw [Array.toList_setIfInBounds]
  rw [List.length_set, hci]
  show cur.toList.set (i * size + j) u = cur.toList.take (i * size) ++ css[i].set j u ++ cur.toList.drop (i * size + size)
  conv => lhs; rw [hsplit]
  rw [List.set_append, if_neg (by rw [htl]; omega), htl, Nat.add_sub_cancel_left, List.set_append, if_pos (by rw [hci]; exact hj), List.append_assoc]

/-- What write answers: its tenants are in a row of the caller's own. -/
def RetWrite (base : Nat) (w : World) (r : List Tn × Int) (e : Ending) (w' : World) : Prop :=
  ∃ v', e = .returned (.tuple #[v', .int .i64 r.2]) ∧ (r.2 = 0 → Own 2 TenR (From base) w' base 122 v' r.1) ∧ Below base w w'

set_option maxRecDepth 100000 in
set_option maxHeartbeats 4000000 in
theorem forestWrite_ok (w : World) (base : Nat) (v : Value) (l : List Tn) (P Q V : Option Addr) (x : Wr) (a b d : Nat) (hown : Own 2 TenR (From base) w base 122 v l) (hb : base ≤ w.heap.size) (hf : Fine l) (hp1 : Bs All w P x.name) (hp2 : Bs All w Q x.key) (hp3 : Bs All w V x.value) (g1 : x.name.length ≤ big) :
    Calls Try.prog 111 #[v, .agg #[.slice P x.name.length a, .slice Q x.key.length b, .bool x.flag, .slice V x.value.length d]] w (RetWrite base w (writeS l x)) := by
  obtain ⟨A, c, hv, hcap, hsl⟩ := hown.readc tenR_stays
  subst hv
  obtain ⟨hl8, hl0, hrise⟩ := (ten_fault_iff l).1 hf
  have Hf := Lib.hid hf
  have Hown := Lib.hid hown
  have Hsl := Lib.hid hsl
  have Hr := Lib.hid hrise
  have Hp1 := Lib.hid hp1
  have Hp2 := Lib.hid hp2
  have Hp3 := Lib.hid hp3
  have Hb0 := Lib.hid (show ∀ W, Below (w.heap.size + 1) (w.alloc (.cells #[.slice P x.name.length a, .slice Q x.key.length b, .bool x.flag, .slice V x.value.length d] 94)) W → W.heap[w.heap.size]? = some (.cells #[.slice P x.name.length a, .slice Q x.key.length b, .bool x.flag, .slice V x.value.length d] 94 (0, 0)) ∧ Below w.heap.size w W ∧ w.heap.size < W.heap.size from fun W hW => ⟨(hW.block _ (by omega)).trans (box_new w _ _), ((Below.refl w.heap.size w).alloc (Nat.le_refl _) _).trans (hW.mono (by omega)), by have := hW.size; simp at this; omega⟩)
  clear hf hown hsl hrise hp1 hp2 hp3 hl0
  by_cases hn : nameFault x.name = 0
  rotate_left
  · have b1 : (nameFault x.name != 0) = true := by simpa using hn
    have Hv := Lib.hid (writeS_name (l := l) hn)
    have Hn := Lib.hid hn
    clear hn
    go_enter Try.func111, Try.ntmps111
    go_wp2_with (go_at_call 102; refine (forestName_ok _ P x.name a).mono ?_; rintro e w1 ⟨rfl, rfl⟩)
    go_ret2
    rw [Hv.out]
    exact ⟨_, rfl, fun h => absurd h Hn.out, (Below.refl _ _).alloc hb _⟩
  have b1 : (nameFault x.name != 0) = false := by simp [hn]
  have Hn := Lib.hid hn
  obtain ⟨nx, hnx⟩ : ∃ nx, nx = nextS (pairsOfS l x.name) x := ⟨_, rfl⟩
  have Hnx := Lib.hid hnx
  have hn60 : nx.1.length ≤ 60 := by rw [hnx]; exact nextS_len _ _
  clear hn hnx
  go_enter Try.func111, Try.ntmps111
  go_wp2_with (go_at_call 102; refine (forestName_ok _ P x.name a).mono ?_; rintro e w1 ⟨rfl, rfl⟩)
  refine (forestFind_ok _ A l c P x.name a ((Hsl.out.z tenR_stays).below tenR_stays ?_) (Hp1.out.bbelow ?_) (by omega) Hr.out).mono ?_
  · repeat' (first | exact Below.refl _ _ | assumption | refine Below.drew ?_ | refine below_drewN ?_ _ | refine Below.alloc ?_ (by first | exact Nat.le_refl _ | omega | (simp; done) | (simp; omega)) _)
  · repeat' (first | exact Below.refl _ _ | assumption | refine Below.drew ?_ | refine below_drewN ?_ _ | refine Below.alloc ?_ (by first | exact Nat.le_refl _ | omega | (simp; done) | (simp; omega)) _)
  rintro e w2 ⟨i, rfl, hat, hb2'⟩
  have hb2 : Below (w.heap.size + 1) (w.alloc (.cells #[.slice P x.name.length a, .slice Q x.key.length b, .bool x.flag, .slice V x.value.length d] 94)) w2 := hb2'.mono (by simp)
  have Hb2 := Lib.hid hb2
  have Hw2 := Lib.hid (Hb0.out w2 hb2).2.1
  have hz2 := (Hb0.out w2 hb2).2.2
  have Hown2 := Lib.hid (Hown.out.below tenR_stays Hw2.out)
  have Hsl2 := Lib.hid ((Hsl.out.z tenR_stays).below tenR_stays Hw2.out)
  have Hat := Lib.hid hat
  clear hb2 hb2' hat b1
  by_cases hfd : (keys l)[i]? = some x.name
  · rw [decide_eq_true hfd]
    have hik : i < (keys l).length := by
      rcases Nat.lt_or_ge i (keys l).length with h | h
      · exact h
      · rw [List.getElem?_eq_none h] at hfd; cases hfd
    have hil : i < l.length := by simpa [keys] using hik
    have hli : l[i].1 = x.name := by
      rw [List.getElem?_eq_getElem hik, keys_at] at hfd
      exact Option.some.inj hfd
    have Hli := Lib.hid hli
    have Hold := Lib.hid (show pairsOfS l x.name = l[i].2 by simp only [pairsOfS, find_at Hr.out hil hli]; rfl)
    obtain ⟨ab, ao, K0, c0, V0, d0, hA, _, hal, hc1, hc2, hs1, hs2, _, hbb, hbc⟩ := tens_at Hsl2.out hil
    subst hA
    obtain ⟨g, cap, cur, css, hvv, hge, hglt, hh, hcap', hmx, hcur, _⟩ := Hown2.out.row tenR_stays (by omega)
    cases hvv
    simp only [Nat.zero_add] at hc1 hc2
    have Hs2 := Lib.hid hs2
    have Hst := Lib.hid (show ∀ W, Below w2.heap.size w2 W → (∃ u, W.cell? ⟨ab, i * 2 + 1, none⟩ = some u) ∧ W.frozen? ⟨ab, i * 2 + 1, none⟩ = false from fun W hW => by
      have hh' := (hW.block ab hglt).trans hh
      refine ⟨⟨cur[i * 2 + 1]'(by omega), ?_⟩, frozen_of_row W ab _ cur _ hh'⟩
      rw [cell_of_row W ab _ cur _ _ hh', Array.getElem?_eq_getElem])
    have hi0 : (0 : Int) ≤ (i : Int) := by omega
    have hi1 : (i : Int) < (l.length : Int) := by omega
    clear hfd hik hli hs1 hs2 hh hcur hmx
    rcases Bool.eq_false_or_eq_true x.flag with hfl | hfl
    · have Hfl := Lib.hid hfl
      obtain ⟨q0, q1, q2, q3, _⟩ := box4 (Hb0.out w2 Hb2.out).1
      rw [hfl] at q2
      clear hfl
      have HN := Lib.hid (show delS l[i].2 x.key = nx by rw [Hnx.out, Hold.out]; unfold nextS; rw [if_pos Hfl.out])
      by_cases hne : nx.2 = 0
      rotate_left
      · have c1 : (nx.2 == 0) = false := by simpa using hne
        have c2 : (nx.2 != 0) = true := by simpa using hne
        have Hbad := Lib.hid (show progE (pairsOfS l x.name) x = nx.2 by unfold progE; rw [← Hnx.out, if_neg (fun h => hne h.2.1)])
        have Hne := Lib.hid (show progE (pairsOfS l x.name) x ≠ 0 by rw [Hbad.out]; first | exact hne | decide)
        have Hv := Lib.hid (progE_bad Hf.out Hn.out Hne.out)
        try clear hne
        go_wp2_with ((go_at_call 31; refine (treeDelete_ok _ V0 l[i].2 d0 Q x.key b (Hs2.out.z pairR_stays) (Hp2.out.bbelow Hw2.out)).mono ?_; rintro e w3 ⟨A3, c9, rfl, hcap3, hs3, hb3⟩; rw [HN.out] at hcap3 hs3 ⊢; have hb3w := Hb2.out.next hb3 (by omega); obtain ⟨r0, r1, r2, r3, _⟩ := box4 (Hb0.out w3 hb3w).1))
        go_ret2
        rw [Hv.out, Hbad.out]
        exact ⟨_, rfl, fun h => absurd h (by have := Hne.out; rw [Hbad.out] at this; exact this), (Hw2.out.mono hb).trans (hb3.mono (by omega))⟩
      have c1 : (nx.2 == 0) = true := by simp [hne]
      have c2 : (nx.2 != 0) = false := by simp [hne]
      by_cases hv0 : 0 < x.value.length
      · have hne4 := hne
        have Hbad := Lib.hid (show progE (pairsOfS l x.name) x = 4 by unfold progE; rw [← Hnx.out, if_pos ⟨Hfl.out, hne, hv0⟩])
        have Hne := Lib.hid (show progE (pairsOfS l x.name) x ≠ 0 by rw [Hbad.out]; first | exact hne | decide)
        have Hv := Lib.hid (progE_bad Hf.out Hn.out Hne.out)
        try clear hne
        go_wp2_with ((go_at_call 31; refine (treeDelete_ok _ V0 l[i].2 d0 Q x.key b (Hs2.out.z pairR_stays) (Hp2.out.bbelow Hw2.out)).mono ?_; rintro e w3 ⟨A3, c9, rfl, hcap3, hs3, hb3⟩; rw [HN.out] at hcap3 hs3 ⊢; have hb3w := Hb2.out.next hb3 (by omega); obtain ⟨r0, r1, r2, r3, _⟩ := box4 (Hb0.out w3 hb3w).1))
        go_ret2
        rw [Hv.out, Hbad.out]
        exact ⟨_, rfl, fun h => absurd h (by have := Hne.out; rw [Hbad.out] at this; exact this), (Hw2.out.mono hb).trans (hb3.mono (by omega))⟩
      have Hgood := Lib.hid (show progE (pairsOfS l x.name) x = 0 by unfold progE; rw [← Hnx.out, if_neg (fun h => hv0 h.2.2)]; exact hne)
      have Hnx0 := Lib.hid hne
      clear hne
      by_cases hz : nx.1.length = 0
      · have d1 : ((nx.1.length : Int) == 0) = true := by rw [beq_iff_eq]; omega
        have Hv := Lib.hid (writeS_cut Hf.out Hn.out Hgood.out hil Hli.out (by rw [← Hnx.out]; exact hz))
        have hwi : IntKind.i64.wrap ((i : Int) + 1) = (i : Int) + 1 := by rw [IntKind.wrap_i64]; omega
        clear hz
        go_wp2_with (first
          | (go_at_call 31; refine (treeDelete_ok _ V0 l[i].2 d0 Q x.key b (Hs2.out.z pairR_stays) (Hp2.out.bbelow Hw2.out)).mono ?_; rintro e w3 ⟨A3, c9, rfl, hcap3, hs3, hb3⟩; rw [HN.out] at hcap3 hs3 ⊢; have hb3w := Hb2.out.next hb3 (by omega); obtain ⟨r0, r1, r2, r3, _⟩ := box4 (Hb0.out w3 hb3w).1)
          | (go_at_call 155; refine (sdeleteT_ok _ base _ l i (Hown2.out.below tenR_stays hb3) hil).mono ?_; rintro e w4 ⟨v4, rfl, hown4, hb4⟩; have Hown4 := Lib.hid hown4; clear hown4))
        go_ret2
        rw [Hv.out]
        exact ⟨_, rfl, fun _ => Hown4.out, ((Hw2.out.mono hb).trans (hb3.mono (by omega))).trans hb4⟩
      · have d1 : ((nx.1.length : Int) == 0) = false := by rw [beq_eq_false_iff_ne]; omega
        have Hv := Lib.hid (show writeS l x = (l.set i (x.name, nx.1), 0) by have := writeS_set Hf.out Hn.out Hgood.out hil Hli.out (by rw [← Hnx.out]; exact hz); rwa [← Hnx.out] at this)
        clear hz
        go_wp2_with ((go_at_call 31; refine (treeDelete_ok _ V0 l[i].2 d0 Q x.key b (Hs2.out.z pairR_stays) (Hp2.out.bbelow Hw2.out)).mono ?_; rintro e w3 ⟨A3, c9, rfl, hcap3, hs3, hb3⟩; rw [HN.out] at hcap3 hs3 ⊢; have hb3w := Hb2.out.next hb3 (by omega); obtain ⟨r0, r1, r2, r3, _⟩ := box4 (Hb0.out w3 hb3w).1; obtain ⟨⟨u1, hu1⟩, hf1⟩ := Hst.out w3 hb3))
        go_ret2
        rw [Hv.out]
        have hown5 := Own.put1 tenR_stays (Hown2.out.below tenR_stays hb3) hil (j := 1) (by omega) (.slice A3 nx.1.length c9) (x := (x.name, nx.1)) (fun cs h => by
          obtain ⟨A', c', B', d', rfl, k1, _, k3, _, _⟩ := h
          refine ⟨A', c', A3, c9, by rw [Hli.out]; rfl, by rw [← Hli.out]; exact k1, hs3.less pairR_stays (fun bb _ h => ⟨by have h' := h; simp only [From] at h' ⊢; omega, by have h' := h; simp only [From] at h'; omega⟩), by rw [← Hli.out]; exact k3, by show nx.1.length * 48 ≤ _; omega, hcap3⟩)
        exact ⟨_, rfl, fun _ => by simpa using hown5, ((Hw2.out.mono hb).trans (hb3.mono (by omega))).setCell (by simp only []; omega) _⟩
    · have Hfl := Lib.hid hfl
      obtain ⟨q0, q1, q2, q3, _⟩ := box4 (Hb0.out w2 Hb2.out).1
      rw [hfl] at q2
      clear hfl
      have HN := Lib.hid (show putS l[i].2 (x.key, x.value) = nx by rw [Hnx.out, Hold.out]; unfold nextS; rw [if_neg (by rw [Hfl.out]; decide)])
      by_cases hne : nx.2 = 0
      rotate_left
      · have c1 : (nx.2 == 0) = false := by simpa using hne
        have c2 : (nx.2 != 0) = true := by simpa using hne
        have Hbad := Lib.hid (show progE (pairsOfS l x.name) x = nx.2 by unfold progE; rw [← Hnx.out, if_neg (fun h => hne h.2.1)])
        have Hne := Lib.hid (show progE (pairsOfS l x.name) x ≠ 0 by rw [Hbad.out]; first | exact hne | decide)
        have Hv := Lib.hid (progE_bad Hf.out Hn.out Hne.out)
        try clear hne
        go_wp2_with ((go_at_call 33; refine (treePut_ok _ V0 l[i].2 d0 Q V (x.key, x.value) b d (Hs2.out.z pairR_stays) (Hp2.out.bbelow Hw2.out) (Hp3.out.bbelow Hw2.out)).mono ?_; rintro e w3 ⟨A3, c9, rfl, hcap3, hs3, hb3⟩; rw [HN.out] at hcap3 hs3 ⊢; have hb3w := Hb2.out.next hb3 (by omega); obtain ⟨r0, r1, r2, r3, _⟩ := box4 (Hb0.out w3 hb3w).1))
        go_ret2
        rw [Hv.out, Hbad.out]
        exact ⟨_, rfl, fun h => absurd h (by have := Hne.out; rw [Hbad.out] at this; exact this), (Hw2.out.mono hb).trans (hb3.mono (by omega))⟩
      have c1 : (nx.2 == 0) = true := by simp [hne]
      have c2 : (nx.2 != 0) = false := by simp [hne]
      have Hgood := Lib.hid (show progE (pairsOfS l x.name) x = 0 by unfold progE; rw [← Hnx.out, if_neg (fun h => by rw [Hfl.out] at h; exact absurd h.1 (by decide))]; exact hne)
      have Hnx0 := Lib.hid hne
      clear hne
      by_cases hz : nx.1.length = 0
      · have d1 : ((nx.1.length : Int) == 0) = true := by rw [beq_iff_eq]; omega
        have Hv := Lib.hid (writeS_cut Hf.out Hn.out Hgood.out hil Hli.out (by rw [← Hnx.out]; exact hz))
        have hwi : IntKind.i64.wrap ((i : Int) + 1) = (i : Int) + 1 := by rw [IntKind.wrap_i64]; omega
        clear hz
        go_wp2_with (first
          | (go_at_call 33; refine (treePut_ok _ V0 l[i].2 d0 Q V (x.key, x.value) b d (Hs2.out.z pairR_stays) (Hp2.out.bbelow Hw2.out) (Hp3.out.bbelow Hw2.out)).mono ?_; rintro e w3 ⟨A3, c9, rfl, hcap3, hs3, hb3⟩; rw [HN.out] at hcap3 hs3 ⊢; have hb3w := Hb2.out.next hb3 (by omega); obtain ⟨r0, r1, r2, r3, _⟩ := box4 (Hb0.out w3 hb3w).1)
          | (go_at_call 155; refine (sdeleteT_ok _ base _ l i (Hown2.out.below tenR_stays hb3) hil).mono ?_; rintro e w4 ⟨v4, rfl, hown4, hb4⟩; have Hown4 := Lib.hid hown4; clear hown4))
        go_ret2
        rw [Hv.out]
        exact ⟨_, rfl, fun _ => Hown4.out, ((Hw2.out.mono hb).trans (hb3.mono (by omega))).trans hb4⟩
      · have d1 : ((nx.1.length : Int) == 0) = false := by rw [beq_eq_false_iff_ne]; omega
        have Hv := Lib.hid (show writeS l x = (l.set i (x.name, nx.1), 0) by have := writeS_set Hf.out Hn.out Hgood.out hil Hli.out (by rw [← Hnx.out]; exact hz); rwa [← Hnx.out] at this)
        clear hz
        go_wp2_with ((go_at_call 33; refine (treePut_ok _ V0 l[i].2 d0 Q V (x.key, x.value) b d (Hs2.out.z pairR_stays) (Hp2.out.bbelow Hw2.out) (Hp3.out.bbelow Hw2.out)).mono ?_; rintro e w3 ⟨A3, c9, rfl, hcap3, hs3, hb3⟩; rw [HN.out] at hcap3 hs3 ⊢; have hb3w := Hb2.out.next hb3 (by omega); obtain ⟨r0, r1, r2, r3, _⟩ := box4 (Hb0.out w3 hb3w).1; obtain ⟨⟨u1, hu1⟩, hf1⟩ := Hst.out w3 hb3))
        go_ret2
        rw [Hv.out]
        have hown5 := Own.put1 tenR_stays (Hown2.out.below tenR_stays hb3) hil (j := 1) (by omega) (.slice A3 nx.1.length c9) (x := (x.name, nx.1)) (fun cs h => by
          obtain ⟨A', c', B', d', rfl, k1, _, k3, _, _⟩ := h
          refine ⟨A', c', A3, c9, by rw [Hli.out]; rfl, by rw [← Hli.out]; exact k1, hs3.less pairR_stays (fun bb _ h => ⟨by have h' := h; simp only [From] at h' ⊢; omega, by have h' := h; simp only [From] at h'; omega⟩), by rw [← Hli.out]; exact k3, by show nx.1.length * 48 ≤ _; omega, hcap3⟩)
        exact ⟨_, rfl, fun _ => by simpa using hown5, ((Hw2.out.mono hb).trans (hb3.mono (by omega))).setCell (by simp only []; omega) _⟩
  · rw [decide_eq_false hfd]
    have Hnf := Lib.hid hfd
    have Hold := Lib.hid (show pairsOfS l x.name = [] by simp only [pairsOfS, find_not Hr.out Hat.out hfd]; rfl)
    have hil0 : i ≤ l.length := by have := Hat.out.le; simpa [keys] using this
    clear hfd
    rcases Bool.eq_false_or_eq_true x.flag with hfl | hfl
    · have Hfl := Lib.hid hfl
      obtain ⟨q0, q1, q2, q3, _⟩ := box4 (Hb0.out w2 Hb2.out).1
      rw [hfl] at q2
      clear hfl
      have HN := Lib.hid (show delS ([] : List Pr) x.key = nx by rw [Hnx.out, Hold.out]; unfold nextS; rw [if_pos Hfl.out])
      by_cases hne : nx.2 = 0
      rotate_left
      · have c1 : (nx.2 == 0) = false := by simpa using hne
        have c2 : (nx.2 != 0) = true := by simpa using hne
        have Hbad := Lib.hid (show progE (pairsOfS l x.name) x = nx.2 by unfold progE; rw [← Hnx.out, if_neg (fun h => hne h.2.1)])
        have Hne := Lib.hid (show progE (pairsOfS l x.name) x ≠ 0 by rw [Hbad.out]; first | exact hne | decide)
        have Hv := Lib.hid (progE_bad Hf.out Hn.out Hne.out)
        try clear hne
        go_wp2_with ((go_at_call 31; refine (treeDelete_ok _ none [] 0 Q x.key b SL.nil (Hp2.out.bbelow Hw2.out)).mono ?_; rintro e w3 ⟨A3, c9, rfl, hcap3, hs3, hb3⟩; rw [HN.out] at hcap3 hs3 ⊢; have hb3w := Hb2.out.next hb3 (by omega); obtain ⟨r0, r1, r2, r3, _⟩ := box4 (Hb0.out w3 hb3w).1))
        go_ret2
        rw [Hv.out, Hbad.out]
        exact ⟨_, rfl, fun h => absurd h (by have := Hne.out; rw [Hbad.out] at this; exact this), (Hw2.out.mono hb).trans (hb3.mono (by omega))⟩
      have c1 : (nx.2 == 0) = true := by simp [hne]
      have c2 : (nx.2 != 0) = false := by simp [hne]
      by_cases hv0 : 0 < x.value.length
      · have hne4 := hne
        have Hbad := Lib.hid (show progE (pairsOfS l x.name) x = 4 by unfold progE; rw [← Hnx.out, if_pos ⟨Hfl.out, hne, hv0⟩])
        have Hne := Lib.hid (show progE (pairsOfS l x.name) x ≠ 0 by rw [Hbad.out]; first | exact hne | decide)
        have Hv := Lib.hid (progE_bad Hf.out Hn.out Hne.out)
        try clear hne
        go_wp2_with ((go_at_call 31; refine (treeDelete_ok _ none [] 0 Q x.key b SL.nil (Hp2.out.bbelow Hw2.out)).mono ?_; rintro e w3 ⟨A3, c9, rfl, hcap3, hs3, hb3⟩; rw [HN.out] at hcap3 hs3 ⊢; have hb3w := Hb2.out.next hb3 (by omega); obtain ⟨r0, r1, r2, r3, _⟩ := box4 (Hb0.out w3 hb3w).1))
        go_ret2
        rw [Hv.out, Hbad.out]
        exact ⟨_, rfl, fun h => absurd h (by have := Hne.out; rw [Hbad.out] at this; exact this), (Hw2.out.mono hb).trans (hb3.mono (by omega))⟩
      have Hgood := Lib.hid (show progE (pairsOfS l x.name) x = 0 by unfold progE; rw [← Hnx.out, if_neg (fun h => hv0 h.2.2)]; exact hne)
      have Hnx0 := Lib.hid hne
      clear hne
      by_cases hz : nx.1.length = 0
      · have d1 : ((nx.1.length : Int) == 0) = true := by rw [beq_iff_eq]; omega
        have Hv := Lib.hid (writeS_same Hf.out Hn.out Hgood.out Hat.out Hnf.out (by rw [← Hnx.out]; exact hz))
        skip
        clear hz
        go_wp2_with ((go_at_call 31; refine (treeDelete_ok _ none [] 0 Q x.key b SL.nil (Hp2.out.bbelow Hw2.out)).mono ?_; rintro e w3 ⟨A3, c9, rfl, hcap3, hs3, hb3⟩; rw [HN.out] at hcap3 hs3 ⊢; have hb3w := Hb2.out.next hb3 (by omega); obtain ⟨r0, r1, r2, r3, _⟩ := box4 (Hb0.out w3 hb3w).1))
        go_ret2
        rw [Hv.out]
        exact ⟨_, rfl, fun _ => Hown2.out.below tenR_stays hb3, (Hw2.out.mono hb).trans (hb3.mono (by omega))⟩
      · have d1 : ((nx.1.length : Int) == 0) = false := by rw [beq_eq_false_iff_ne]; omega
        by_cases h8 : l.length = 8
        · have Hv := Lib.hid (writeS_full Hf.out Hn.out Hgood.out Hat.out Hnf.out (by rw [← Hnx.out]; exact hz) h8)
          have d2 : ((l.length : Int) == 8) = true := by rw [beq_iff_eq]; omega
          clear hz h8
          go_wp2_with ((go_at_call 31; refine (treeDelete_ok _ none [] 0 Q x.key b SL.nil (Hp2.out.bbelow Hw2.out)).mono ?_; rintro e w3 ⟨A3, c9, rfl, hcap3, hs3, hb3⟩; rw [HN.out] at hcap3 hs3 ⊢; have hb3w := Hb2.out.next hb3 (by omega); obtain ⟨r0, r1, r2, r3, _⟩ := box4 (Hb0.out w3 hb3w).1))
          go_ret2
          rw [Hv.out]
          exact ⟨_, rfl, fun h => absurd h (by decide), (Hw2.out.mono hb).trans (hb3.mono (by omega))⟩
        · have Hv := Lib.hid (show writeS l x = (ins l i (x.name, nx.1), 0) by have := writeS_ins Hf.out Hn.out Hgood.out Hat.out Hnf.out (by rw [← Hnx.out]; exact hz) h8; rwa [← Hnx.out] at this)
          have d2 : ((l.length : Int) == 8) = false := by rw [beq_eq_false_iff_ne]; omega
          clear hz h8
          go_wp2_with (first
            | (go_at_call 31; refine (treeDelete_ok _ none [] 0 Q x.key b SL.nil (Hp2.out.bbelow Hw2.out)).mono ?_; rintro e w3 ⟨A3, c9, rfl, hcap3, hs3, hb3⟩; rw [HN.out] at hcap3 hs3 ⊢; have hb3w := Hb2.out.next hb3 (by omega); obtain ⟨r0, r1, r2, r3, _⟩ := box4 (Hb0.out w3 hb3w).1)
            | (go_at_call 86; refine (clone_ok _ P x.name a (Hp1.out.bbelow (Hb0.out w3 hb3w).2.1) g1).mono ?_; rintro e w4 ⟨A4, c4, rfl, gs4, hb4⟩; have hz3 := hb3.size; have hz4 := hb4.size)
            | (go_at_call 156; refine (sinsertT_ok tenR_stays tenR_one _ base (.slice A l.length c) l i (x.name, nx.1) w4.heap.size [.slice A4 x.name.length c4, .slice A3 nx.1.length c9] 122 (((Hown2.out.below tenR_stays hb3).below tenR_stays hb4).below tenR_stays ((Below.refl _ _).alloc (Nat.le_refl _) _)) hil0 (by simp; omega) (by omega) (box_new w4 _ _) (Hown2.out.apart w2.heap.size (Nat.le_refl _) _ (by simp only [From]; omega)) rfl (ten_fresh (n := w2.heap.size) (t := (x.name, nx.1)) (gs4.blo (by omega)) (hs3.below pairR_stays hb4) g1 (by show nx.1.length * 48 ≤ _; omega) hcap3 ((Same.refl _ _).alloc _) (by omega) (Hown2.out.apart w2.heap.size (Nat.le_refl _)))).mono ?_; rintro e w5 ⟨v5, rfl, hown5, hb5⟩; have Hown5 := Lib.hid hown5; clear hown5))
          go_ret2
          rw [Hv.out]
          exact ⟨_, rfl, fun _ => Hown5.out, ((((Hw2.out.mono hb).trans (hb3.mono (by omega))).trans (hb4.mono (by omega))).alloc (by omega) _).trans hb5⟩
    · have Hfl := Lib.hid hfl
      obtain ⟨q0, q1, q2, q3, _⟩ := box4 (Hb0.out w2 Hb2.out).1
      rw [hfl] at q2
      clear hfl
      have HN := Lib.hid (show putS ([] : List Pr) (x.key, x.value) = nx by rw [Hnx.out, Hold.out]; unfold nextS; rw [if_neg (by rw [Hfl.out]; decide)])
      by_cases hne : nx.2 = 0
      rotate_left
      · have c1 : (nx.2 == 0) = false := by simpa using hne
        have c2 : (nx.2 != 0) = true := by simpa using hne
        have Hbad := Lib.hid (show progE (pairsOfS l x.name) x = nx.2 by unfold progE; rw [← Hnx.out, if_neg (fun h => hne h.2.1)])
        have Hne := Lib.hid (show progE (pairsOfS l x.name) x ≠ 0 by rw [Hbad.out]; first | exact hne | decide)
        have Hv := Lib.hid (progE_bad Hf.out Hn.out Hne.out)
        try clear hne
        go_wp2_with ((go_at_call 33; refine (treePut_ok _ none [] 0 Q V (x.key, x.value) b d SL.nil (Hp2.out.bbelow Hw2.out) (Hp3.out.bbelow Hw2.out)).mono ?_; rintro e w3 ⟨A3, c9, rfl, hcap3, hs3, hb3⟩; rw [HN.out] at hcap3 hs3 ⊢; have hb3w := Hb2.out.next hb3 (by omega); obtain ⟨r0, r1, r2, r3, _⟩ := box4 (Hb0.out w3 hb3w).1))
        go_ret2
        rw [Hv.out, Hbad.out]
        exact ⟨_, rfl, fun h => absurd h (by have := Hne.out; rw [Hbad.out] at this; exact this), (Hw2.out.mono hb).trans (hb3.mono (by omega))⟩
      have c1 : (nx.2 == 0) = true := by simp [hne]
      have c2 : (nx.2 != 0) = false := by simp [hne]
      have Hgood := Lib.hid (show progE (pairsOfS l x.name) x = 0 by unfold progE; rw [← Hnx.out, if_neg (fun h => by rw [Hfl.out] at h; exact absurd h.1 (by decide))]; exact hne)
      have Hnx0 := Lib.hid hne
      clear hne
      by_cases hz : nx.1.length = 0
      · have d1 : ((nx.1.length : Int) == 0) = true := by rw [beq_iff_eq]; omega
        have Hv := Lib.hid (writeS_same Hf.out Hn.out Hgood.out Hat.out Hnf.out (by rw [← Hnx.out]; exact hz))
        skip
        clear hz
        go_wp2_with ((go_at_call 33; refine (treePut_ok _ none [] 0 Q V (x.key, x.value) b d SL.nil (Hp2.out.bbelow Hw2.out) (Hp3.out.bbelow Hw2.out)).mono ?_; rintro e w3 ⟨A3, c9, rfl, hcap3, hs3, hb3⟩; rw [HN.out] at hcap3 hs3 ⊢; have hb3w := Hb2.out.next hb3 (by omega); obtain ⟨r0, r1, r2, r3, _⟩ := box4 (Hb0.out w3 hb3w).1))
        go_ret2
        rw [Hv.out]
        exact ⟨_, rfl, fun _ => Hown2.out.below tenR_stays hb3, (Hw2.out.mono hb).trans (hb3.mono (by omega))⟩
      · have d1 : ((nx.1.length : Int) == 0) = false := by rw [beq_eq_false_iff_ne]; omega
        by_cases h8 : l.length = 8
        · have Hv := Lib.hid (writeS_full Hf.out Hn.out Hgood.out Hat.out Hnf.out (by rw [← Hnx.out]; exact hz) h8)
          have d2 : ((l.length : Int) == 8) = true := by rw [beq_iff_eq]; omega
          clear hz h8
          go_wp2_with ((go_at_call 33; refine (treePut_ok _ none [] 0 Q V (x.key, x.value) b d SL.nil (Hp2.out.bbelow Hw2.out) (Hp3.out.bbelow Hw2.out)).mono ?_; rintro e w3 ⟨A3, c9, rfl, hcap3, hs3, hb3⟩; rw [HN.out] at hcap3 hs3 ⊢; have hb3w := Hb2.out.next hb3 (by omega); obtain ⟨r0, r1, r2, r3, _⟩ := box4 (Hb0.out w3 hb3w).1))
          go_ret2
          rw [Hv.out]
          exact ⟨_, rfl, fun h => absurd h (by decide), (Hw2.out.mono hb).trans (hb3.mono (by omega))⟩
        · have Hv := Lib.hid (show writeS l x = (ins l i (x.name, nx.1), 0) by have := writeS_ins Hf.out Hn.out Hgood.out Hat.out Hnf.out (by rw [← Hnx.out]; exact hz) h8; rwa [← Hnx.out] at this)
          have d2 : ((l.length : Int) == 8) = false := by rw [beq_eq_false_iff_ne]; omega
          clear hz h8
          go_wp2_with (first
            | (go_at_call 33; refine (treePut_ok _ none [] 0 Q V (x.key, x.value) b d SL.nil (Hp2.out.bbelow Hw2.out) (Hp3.out.bbelow Hw2.out)).mono ?_; rintro e w3 ⟨A3, c9, rfl, hcap3, hs3, hb3⟩; rw [HN.out] at hcap3 hs3 ⊢; have hb3w := Hb2.out.next hb3 (by omega); obtain ⟨r0, r1, r2, r3, _⟩ := box4 (Hb0.out w3 hb3w).1)
            | (go_at_call 86; refine (clone_ok _ P x.name a (Hp1.out.bbelow (Hb0.out w3 hb3w).2.1) g1).mono ?_; rintro e w4 ⟨A4, c4, rfl, gs4, hb4⟩; have hz3 := hb3.size; have hz4 := hb4.size)
            | (go_at_call 156; refine (sinsertT_ok tenR_stays tenR_one _ base (.slice A l.length c) l i (x.name, nx.1) w4.heap.size [.slice A4 x.name.length c4, .slice A3 nx.1.length c9] 122 (((Hown2.out.below tenR_stays hb3).below tenR_stays hb4).below tenR_stays ((Below.refl _ _).alloc (Nat.le_refl _) _)) hil0 (by simp; omega) (by omega) (box_new w4 _ _) (Hown2.out.apart w2.heap.size (Nat.le_refl _) _ (by simp only [From]; omega)) rfl (ten_fresh (n := w2.heap.size) (t := (x.name, nx.1)) (gs4.blo (by omega)) (hs3.below pairR_stays hb4) g1 (by show nx.1.length * 48 ≤ _; omega) hcap3 ((Same.refl _ _).alloc _) (by omega) (Hown2.out.apart w2.heap.size (Nat.le_refl _)))).mono ?_; rintro e w5 ⟨v5, rfl, hown5, hb5⟩; have Hown5 := Lib.hid hown5; clear hown5))
          go_ret2
          rw [Hv.out]
          exact ⟨_, rfl, fun _ => Hown5.out, ((((Hw2.out.mono hb).trans (hb3.mono (by omega))).trans (hb4.mono (by omega))).alloc (by omega) _).trans hb5⟩
end Go.Proofs.Ythhcdibimnifaaa
