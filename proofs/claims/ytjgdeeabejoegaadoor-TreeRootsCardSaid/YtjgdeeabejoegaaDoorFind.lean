/- Walks: a key looked for among pairs. -/
import Derived.Test.YtjgdeeabejoegaaDoorOrder
namespace Go.Proofs.YtjgdeeabejoegaaDoor
open Go.RowKit
set_option linter.unusedVariables false
set_option linter.unusedSimpArgs false

def keys {β : Type} (l : List (List UInt8 × β)) : List (List UInt8) := l.map (·.1)
theorem keys_at {β : Type} (l : List (List UInt8 × β)) (k : Nat) (h : k < (keys l).length) : (keys l)[k] = (l[k]'(by simpa [keys] using h)).1 := by simp [keys]
/-- What the search answers: a place, and whether the key is there. -/
def RetFind (w : World) (ks : List (List UInt8)) (k : List UInt8) (e : Ending) (w' : World) : Prop :=
  ∃ i : Nat, e = .returned (.tuple #[.int .i64 i, .bool (decide (ks[i]? = some k))]) ∧ At ks k i ∧ Below w.heap.size w w'

set_option maxRecDepth 100000 in
set_option maxHeartbeats 1000000 in
theorem search_ok (w : World) (A : Option Addr) (l : List Pr) (c : Nat) (K V : Option Addr) (p : Pr) (c1 d1 : Nat) (ha : Ps All w A l) (hk : Bs All w K p.1) (hn : l.length ≤ 60) (hr : Rise (keys l)) :
    Calls Tryd.prog 127 #[.slice A l.length c, .agg #[.slice K p.1.length c1, .slice V p.2.length d1], .func (.func 98) #[] #[]] w (RetFind w (keys l) p.1) := by
  have Ha := Lib.hid ha
  have Hk := Lib.hid hk
  have Hr := Lib.hid hr
  clear ha hk hr
  go_enter Tryd.func127, Tryd.ntmps127
  go_wp2
  have hbx : Below w.heap.size w (w.alloc (.cells #[.slice K p.1.length c1, .slice V p.2.length d1] 60)) := (Below.refl _ _).alloc (Nat.le_refl _) _
  have hg0 : (w.alloc (.cells #[.slice K p.1.length c1, .slice V p.2.length d1] 60)).cell? ⟨w.heap.size, 0, none⟩ = some (.slice K p.1.length c1) := by simp
  have hg1 : (w.alloc (.cells #[.slice K p.1.length c1, .slice V p.2.length d1] 60)).cell? ⟨w.heap.size, 1, none⟩ = some (.slice V p.2.length d1) := by simp
  have hsz : (w.alloc (.cells #[.slice K p.1.length c1, .slice V p.2.length d1] 60)).heap.size = w.heap.size + 1 := by simp
  generalize w.alloc (.cells #[.slice K p.1.length c1, .slice V p.2.length d1] 60) = w0 at *
  have Hbx := Lib.hid hbx
  have Hg0 := Lib.hid hg0
  have Hg1 := Lib.hid hg1
  have Hsz := Lib.hid hsz
  clear hbx hg0 hg1 hsz
  go_loopw [9, 10, 11] (fun i j _ wr => ∃ a b : Nat, i = .int .i64 a ∧ j = .int .i64 b ∧ a ≤ b ∧ b ≤ l.length ∧ (∀ m (_ : m < a) (h : m < (keys l).length), lt (keys l)[m] p.1 = true) ∧ (∀ m (_ : b ≤ m) (h : m < (keys l).length), lt (keys l)[m] p.1 = false) ∧ Below w0.heap.size w0 wr) (fun i j _ _ => (intOf j).toNat - (intOf i).toNat)
  case atStart => exact ⟨0, l.length, rfl, rfl, by omega, Nat.le_refl _, fun m h => absurd h (by omega), fun m h1 h2 => absurd h2 (by simp [keys]; omega), Below.refl _ _⟩
  case round =>
    obtain ⟨a, b, rfl, rfl, hab, hbl, hlow, hhigh, hbel⟩ := hrel
    have Hlow := Lib.hid hlow
    have Hhigh := Lib.hid hhigh
    have Hbel := Lib.hid hbel
    clear hlow hhigh hbel
    by_cases hlt : a < b
    · obtain ⟨m, hm⟩ : ∃ m : Nat, ((a : Int) + (b : Int)) / 2 = (m : Int) := ⟨(a + b) / 2, by omega⟩
      have hm1 : a ≤ m := by omega
      have hm2 : m < b := by omega
      have hml : m < l.length := by omega
      obtain ⟨ab, ao, K0, c0, V0, d0, rfl, _, hal, hc1, hc2, hs1, hs2, _, _⟩ := pairs_at ((Ha.out.below pairR_stays ((Below.refl w.heap.size w).trans Hbx.out)).below pairR_stays Hbel.out) hml
      have hz1 := Hbel.out.size
      have hz2 := Hsz.out
      have hg0 : wr.cell? ⟨w.heap.size, 0, none⟩ = some (.slice K p.1.length c1) := (Hbel.out.cell (by simp only []; omega)).trans Hg0.out
      have hg1 : wr.cell? ⟨w.heap.size, 1, none⟩ = some (.slice V p.2.length d1) := (Hbel.out.cell (by simp only []; omega)).trans Hg1.out
      have Hkk := Lib.hid ((Hk.out.bbelow Hbx.out).bbelow Hbel.out)
      have hi0 : (0 : Int) ≤ (m : Int) := by omega
      have hi1 : (m : Int) < (l.length : Int) := by omega
      have Hm := Lib.hid hm
      clear hm
      rcases Bool.eq_false_or_eq_true (lt l[m].1 p.1) with ho | ho
      · have hcm := cmp3_neg ho
        generalize hcmv : cmp3 l[m].1 p.1 = cm at hcm
        have Hcm := Lib.hid hcmv
        have Ho := Lib.hid ho
        clear hcmv ho
        go_wp2_with fail
        rw [Hm.out]
        go_region_held3 (fun w' => w'.cell? ⟨ab, ao + m * 2, none⟩ = some (.slice K0 l[m].1.length c0) ∧ w'.cell? ⟨ab, ao + m * 2 + 1, none⟩ = some (.slice V0 l[m].2.length d0) ∧ w'.cell? ⟨w.heap.size, 0, none⟩ = some (.slice K p.1.length c1) ∧ w'.cell? ⟨w.heap.size, 1, none⟩ = some (.slice V p.2.length d1))
        (first
          | go_keep
          | (go_split_ands; refine ⟨(hbw2.cell (by simp; omega)).trans (by assumption), (hbw2.cell (by simp; omega)).trans (by assumption), (hbw2.cell (by simp; omega)).trans (by assumption), (hbw2.cell (by simp; omega)).trans (by assumption)⟩))
        ((go_at_call 98; (with_reducible refine (compare_ok _ K0 V0 l[m] c0 d0 K V p c1 d1 ?hp ?hq).mono ?_); (case hp => exact hs1.bz.bsame (Same.refl _ _).drew); (case hq => exact Hkk.out.bsame (Same.refl _ _).drew); rintro e w2 ⟨rfl, hbw2⟩; rw [Hcm.out]))
        go_wp2
        go_roundw
        case rel => exact ⟨m + 1, b, by go_num, rfl, by omega, hbl, low_of Hr.out (by simpa [keys] using hml) (by rw [keys_at]; exact Ho.out), Hhigh.out, Hbel.out.drew.next hbw2 (by simp; omega)⟩
        case measure => simp [intOf]; omega
      · have hcm := cmp3_nonneg ho
        generalize hcmv : cmp3 l[m].1 p.1 = cm at hcm
        have Hcm := Lib.hid hcmv
        have Ho := Lib.hid ho
        clear hcmv ho
        go_wp2_with fail
        rw [Hm.out]
        go_region_held3 (fun w' => w'.cell? ⟨ab, ao + m * 2, none⟩ = some (.slice K0 l[m].1.length c0) ∧ w'.cell? ⟨ab, ao + m * 2 + 1, none⟩ = some (.slice V0 l[m].2.length d0) ∧ w'.cell? ⟨w.heap.size, 0, none⟩ = some (.slice K p.1.length c1) ∧ w'.cell? ⟨w.heap.size, 1, none⟩ = some (.slice V p.2.length d1))
        (first
          | go_keep
          | (go_split_ands; refine ⟨(hbw2.cell (by simp; omega)).trans (by assumption), (hbw2.cell (by simp; omega)).trans (by assumption), (hbw2.cell (by simp; omega)).trans (by assumption), (hbw2.cell (by simp; omega)).trans (by assumption)⟩))
        ((go_at_call 98; (with_reducible refine (compare_ok _ K0 V0 l[m] c0 d0 K V p c1 d1 ?hp ?hq).mono ?_); (case hp => exact hs1.bz.bsame (Same.refl _ _).drew); (case hq => exact Hkk.out.bsame (Same.refl _ _).drew); rintro e w2 ⟨rfl, hbw2⟩; rw [Hcm.out]))
        go_wp2
        go_roundw
        case rel => exact ⟨a, m, rfl, rfl, by omega, by omega, Hlow.out, high_of Hr.out (by simpa [keys] using hml) (by rw [keys_at]; exact Ho.out), Hbel.out.drew.next hbw2 (by simp; omega)⟩
        case measure => simp [intOf]; omega
    · obtain rfl : a = b := by omega
      have Hat := Lib.hid (show At (keys l) p.1 a from ⟨by simpa [keys] using hbl, Hlow.out, Hhigh.out⟩)
      clear Hlow Hhigh
      by_cases hml : a < l.length
      · have b1 : decide ((a : Int) < (l.length : Int)) = true := by simp; omega
        obtain ⟨ab, ao, K0, c0, V0, d0, rfl, _, hal, hc1, hc2, hs1, hs2, _, _⟩ := pairs_at ((Ha.out.below pairR_stays ((Below.refl w.heap.size w).trans Hbx.out)).below pairR_stays Hbel.out) hml
        have hz1 := Hbel.out.size
        have hz2 := Hsz.out
        have hg0 : wr.cell? ⟨w.heap.size, 0, none⟩ = some (.slice K p.1.length c1) := (Hbel.out.cell (by simp only []; omega)).trans Hg0.out
        have hg1 : wr.cell? ⟨w.heap.size, 1, none⟩ = some (.slice V p.2.length d1) := (Hbel.out.cell (by simp only []; omega)).trans Hg1.out
        have Hkk := Lib.hid ((Hk.out.bbelow Hbx.out).bbelow Hbel.out)
        have hi0 : (0 : Int) ≤ (a : Int) := by omega
        have hi1 : (a : Int) < (l.length : Int) := by omega
        have hfe : (cmp3 l[a].1 p.1 == 0) = decide ((keys l)[a]? = some p.1) := by
          rw [cmp3_zero]
          rw [Bool.eq_iff_iff]
          simp [keys, hml]
        have Hfe := Lib.hid hfe
        clear hfe
        go_wp2_with fail
        go_region_held3 (fun w' => w'.cell? ⟨ab, ao + a * 2, none⟩ = some (.slice K0 l[a].1.length c0) ∧ w'.cell? ⟨ab, ao + a * 2 + 1, none⟩ = some (.slice V0 l[a].2.length d0) ∧ w'.cell? ⟨w.heap.size, 0, none⟩ = some (.slice K p.1.length c1) ∧ w'.cell? ⟨w.heap.size, 1, none⟩ = some (.slice V p.2.length d1))
        (first
          | go_keep
          | (go_split_ands; refine ⟨(hbw2.cell (by simp; omega)).trans (by assumption), (hbw2.cell (by simp; omega)).trans (by assumption), (hbw2.cell (by simp; omega)).trans (by assumption), (hbw2.cell (by simp; omega)).trans (by assumption)⟩))
        ((go_at_call 98; (with_reducible refine (compare_ok _ K0 V0 l[a] c0 d0 K V p c1 d1 ?hp ?hq).mono ?_); (case hp => exact hs1.bz.bsame (Same.refl _ _).drew); (case hq => exact Hkk.out.bsame (Same.refl _ _).drew); rintro e w2 ⟨rfl, hbw2⟩; skip))
        go_wp2
        go_ret2
        exact ⟨a, by rw [← Hfe.out]; rfl, Hat.out, (((Below.refl w.heap.size w).trans Hbx.out).next Hbel.out (by omega)).drew.next hbw2 (by simp; omega)⟩
      · have b1 : decide ((a : Int) < (l.length : Int)) = false := by simp; omega
        go_wp2_with fail
        go_quiet (fail)
        go_wp2
        go_ret2
        have hz2 := Hsz.out
        refine ⟨a, ?_, Hat.out, below_drewN (((Below.refl w.heap.size w).trans Hbx.out).next Hbel.out (by omega)) _⟩
        have hq : (keys l)[a]? = none := List.getElem?_eq_none (by simp [keys]; omega)
        rw [hq]
        rfl

set_option maxRecDepth 100000 in
set_option maxHeartbeats 1000000 in
theorem treeFind_ok (w : World) (A : Option Addr) (l : List Pr) (c : Nat) (K : Option Addr) (k : List UInt8) (c1 : Nat) (ha : Ps All w A l) (hk : Bs All w K k) (hn : l.length ≤ 60) (hr : Rise (keys l)) :
    Calls Tryd.prog 110 #[.slice A l.length c, .slice K k.length c1] w (RetFind w (keys l) k) := by
  have Ha := Lib.hid ha
  have Hk := Lib.hid hk
  have Hr := Lib.hid hr
  have Hn := Lib.hid hn
  clear ha hk hr hn
  go_enter Tryd.func110, Tryd.ntmps110
  go_wp2_with (go_at_call 127; refine (search_ok _ A l c K none (k, []) c1 0 Ha.out Hk.out Hn.out Hr.out).mono ?_; rintro e w1 ⟨i, rfl, hat, hb1⟩; dsimp only)
  go_ret2
  exact ⟨i, rfl, hat, hb1⟩
end Go.Proofs.YtjgdeeabejoegaaDoor
