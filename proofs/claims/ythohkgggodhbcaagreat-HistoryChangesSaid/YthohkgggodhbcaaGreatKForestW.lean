/- ForestW: Writes: words for memory; copied, held against each other; what is refused of one. What a write comes to; what stays fine behind one. Plain facts, no program. What package forest's write comes to, case by case. Plain facts, no program. slices.Insert of one tenant among tenants of the call's own: three roads (twin of the text for pairs). slices.Delete of one tenant among tenants of the call's own (twin of the text for pairs): the row stays the call's own. Walk: write of package forest. The conditions of each are in its words. -/
import Derived.Test.YthohkgggodhbcaaGreatKBase
import Derived.Test.YthohkgggodhbcaaGreatKTrees
import Derived.Test.YthohkgggodhbcaaGreatKTreeW
import Derived.Test.YthohkgggodhbcaaGreatKForest
namespace Go.Proofs.YthohkgggodhbcaaGreat
open Go.RowKit
set_option linter.unusedVariables false
set_option linter.unusedSimpArgs false

/-- A write, or a read: three byte slices and a bool, in the order of the fields. -/
structure Wr where
  name : List UInt8
  key : List UInt8
  flag : Bool
  value : List UInt8
/-- The four cells of a write. -/
def WrR (S : Nat → Prop) (w : World) (cs : List Value) (x : Wr) : Prop :=
  ∃ A a B b C c, cs = [.slice A x.name.length a, .slice B x.key.length b, .bool x.flag, .slice C x.value.length c] ∧ Bs S w A x.name ∧ Bs S w B x.key ∧ Bs S w C x.value ∧ x.name.length ≤ big ∧ x.key.length ≤ big ∧ x.value.length ≤ big
theorem wrR_stays : Stays WrR :=
  ⟨fun _ _ _ _ _ hb ⟨A, a, B, b, C, c, h0, h1, h2, h3, h4⟩ => ⟨A, a, B, b, C, c, h0, h1.bsame hb, h2.bsame hb, h3.bsame hb, h4⟩, fun _ _ _ _ _ hb ⟨A, a, B, b, C, c, h0, h1, h2, h3, h4⟩ => ⟨A, a, B, b, C, c, h0, h1.bless hb, h2.bless hb, h3.bless hb, h4⟩⟩
theorem box4 {w : World} {g : Nat} {t : TypeId} {a b c d : Value} (h : w.heap[g]? = some (.cells #[a, b, c, d] t (0, 0))) :
    w.cell? ⟨g, 0, none⟩ = some a ∧ w.cell? ⟨g, 1, none⟩ = some b ∧ w.cell? ⟨g, 2, none⟩ = some c ∧ w.cell? ⟨g, 3, none⟩ = some d ∧ w.frozen? ⟨g, 0, none⟩ = false ∧ w.frozen? ⟨g, 1, none⟩ = false ∧ w.frozen? ⟨g, 2, none⟩ = false ∧ w.frozen? ⟨g, 3, none⟩ = false :=
  ⟨box_cell (cs := [a, b, c, d]) h 0, box_cell (cs := [a, b, c, d]) h 1, box_cell (cs := [a, b, c, d]) h 2, box_cell (cs := [a, b, c, d]) h 3, box_frozen (cs := [a, b, c, d]) h 0, box_frozen (cs := [a, b, c, d]) h 1, box_frozen (cs := [a, b, c, d]) h 2, box_frozen (cs := [a, b, c, d]) h 3⟩
theorem info_wr : (Tryz.prog.info? 40).map (fun i => (i.zero, i.size, i.bytes)) = some (some (.agg #[.slice none 0 0, .slice none 0 0, .bool false, .slice none 0 0]), 4, 80) := by kernel_rfl
abbrev Ws (S : Nat → Prop) (w : World) (A : Option Addr) (l : List Wr) : Prop := SL 4 WrR S w A l
theorem wrs_at {S : Nat → Prop} {w : World} {A : Option Addr} {l : List Wr} (h : Ws S w A l) {k : Nat} (hk : k < l.length) :
    ∃ g off A1 a1 B1 b1 C1 c1, A = some ⟨g, off, none⟩ ∧ S g ∧ g < w.heap.size ∧ w.cell? ⟨g, off + k * 4, none⟩ = some (.slice A1 l[k].name.length a1) ∧ w.cell? ⟨g, off + k * 4 + 1, none⟩ = some (.slice B1 l[k].key.length b1) ∧ w.cell? ⟨g, off + k * 4 + 2, none⟩ = some (.bool l[k].flag) ∧ w.cell? ⟨g, off + k * 4 + 3, none⟩ = some (.slice C1 l[k].value.length c1) ∧
      Bs S w A1 l[k].name ∧ Bs S w B1 l[k].key ∧ Bs S w C1 l[k].value ∧ l[k].name.length ≤ big ∧ l[k].key.length ≤ big ∧ l[k].value.length ≤ big := by
  obtain ⟨g, off, cs, e, h0, hlt, h1, h2, A1, a1, B1, b1, C1, c1, rfl, h3, h4, h5, h6⟩ := h.at hk
  exact ⟨g, off, A1, a1, B1, b1, C1, c1, e, h0, hlt, by simpa using h2 0 (by omega), by simpa using h2 1 (by omega), by simpa using h2 2 (by omega), by simpa using h2 3 (by omega), h3, h4, h5, h6⟩
/-- The call returns a write of its own memory. -/
def RetWr (w : World) (x : Wr) (e : Ending) (w' : World) : Prop :=
  ∃ A a B b C c, e = .returned (.agg #[.slice A x.name.length a, .slice B x.key.length b, .bool x.flag, .slice C x.value.length c]) ∧ Bs (From w.heap.size) w' A x.name ∧ Bs (From w.heap.size) w' B x.key ∧ Bs (From w.heap.size) w' C x.value ∧ Below w.heap.size w w'
/-- The call returns writes in a row of its own. -/
def RetOwnWs (E : TypeId) (w : World) (l : List Wr) (e : Ending) (w' : World) : Prop :=
  ∃ v, e = .returned v ∧ Own 4 WrR (From w.heap.size) w' w.heap.size E v l ∧ Below w.heap.size w w'

set_option maxRecDepth 100000 in
set_option maxHeartbeats 1000000 in
theorem writeCopy_ok (w : World) (A B C : Option Addr) (x : Wr) (a b c : Nat) (ha : Bs All w A x.name) (hb : Bs All w B x.key) (hc : Bs All w C x.value) (h1 : x.name.length ≤ big) (h2 : x.key.length ≤ big) (h3 : x.value.length ≤ big) :
    Calls Tryz.prog 37 #[.agg #[.slice A x.name.length a, .slice B x.key.length b, .bool x.flag, .slice C x.value.length c]] w (RetWr w x) := by
  have Ha := Lib.hid ha
  have Hb := Lib.hid hb
  have Hc := Lib.hid hc
  clear ha hb hc
  have Hbox := Lib.hid (show ∀ W, Below (w.heap.size + 2) ((w.alloc (.cells #[.slice A x.name.length a, .slice B x.key.length b, .bool x.flag, .slice C x.value.length c] 40)).alloc (.cells #[.slice none 0 0, .slice none 0 0, .bool false, .slice none 0 0] 40)) W → W.heap[w.heap.size]? = some (.cells #[.slice A x.name.length a, .slice B x.key.length b, .bool x.flag, .slice C x.value.length c] 40 (0, 0)) ∧ W.heap[w.heap.size + 1]? = some (.cells #[.slice none 0 0, .slice none 0 0, .bool false, .slice none 0 0] 40 (0, 0)) ∧ Below w.heap.size w W ∧ w.heap.size + 2 ≤ W.heap.size from fun W hW =>
    ⟨(hW.block _ (by omega)).trans ((heap_alloc_old _ _ (by simp)).trans (box_new w _ _)), (hW.block _ (by omega)).trans (by have := box_new (w.alloc (.cells #[.slice A x.name.length a, .slice B x.key.length b, .bool x.flag, .slice C x.value.length c] 40)) #[.slice none 0 0, .slice none 0 0, .bool false, .slice none 0 0] 40; simpa using this), (((Below.refl w.heap.size w).alloc (Nat.le_refl _) _).alloc (by simp) _).trans (hW.mono (by omega)), by simpa using hW.size⟩)
  go_enter Tryz.func37, Tryz.ntmps37
  go_wp2_with fail
  go_region_held3 (fun w' => w'.cell? ⟨w.heap.size, 0, none⟩ = some (.slice A x.name.length a) ∧ w'.cell? ⟨w.heap.size, 1, none⟩ = some (.slice B x.key.length b) ∧ w'.cell? ⟨w.heap.size, 2, none⟩ = some (.bool x.flag) ∧ w'.cell? ⟨w.heap.size, 3, none⟩ = some (.slice C x.value.length c))
    (first
      | go_keep
      | exact ⟨q0, q1, q2, q3⟩
      | exact ⟨r0, r1, r2, r3⟩
      | exact ⟨s0, s1, s2, s3⟩)
    (first
      | (go_at_call 17; (with_reducible refine (joinedNil_ok _ A x.name a ?ha h1).mono ?_); (case ha => (refine Ha.out.bbelow ?_; repeat' (first | exact Below.refl _ _ | assumption | refine Below.drew ?_ | refine below_drewN ?_ _ | refine Below.alloc ?_ (by first | exact Nat.le_refl _ | omega | (simp; done) | (simp; omega)) _))); rintro e w1 ⟨A1, a1, rfl, hs1, hb1⟩; have hk1 : Below (w.heap.size + 2) ((w.alloc (.cells #[.slice A x.name.length a, .slice B x.key.length b, .bool x.flag, .slice C x.value.length c] 40)).alloc (.cells #[.slice none 0 0, .slice none 0 0, .bool false, .slice none 0 0] 40)) w1 := (Below.refl _ _).drew.next hb1 (by simp); obtain ⟨q0, q1, q2, q3, _⟩ := box4 (Hbox.out _ hk1).1)
      | (go_at_call 17; (with_reducible refine (joinedNil_ok _ B x.key b ?ha h2).mono ?_); (case ha => exact Hb.out.bbelow (Hbox.out _ hk1).2.2.1); rintro e w2 ⟨B1, b1, rfl, hs2, hb2⟩; have hk2 := hk1.next hb2 (by simpa using hk1.size); obtain ⟨r0, r1, r2, r3, _⟩ := box4 (Hbox.out _ hk2).1)
      | (go_at_call 17; (with_reducible refine (joinedNil_ok _ C x.value c ?ha h3).mono ?_); (case ha => exact Hc.out.bbelow (Hbox.out _ hk2).2.2.1); rintro e w3 ⟨C1, c1, rfl, hs3, hb3⟩; have hk3 := hk2.next hb3 (by simpa using hk2.size); obtain ⟨s0, s1, s2, s3, _⟩ := box4 (Hbox.out _ hk3).1; obtain ⟨z0, z1, z2, z3, y0, y1, y2, y3⟩ := box4 (Hbox.out _ hk3).2.1; have hzz := (Hbox.out _ hk3).2.2.2; have hzz1 : w.heap.size + 1 < w3.heap.size := (by omega)))
  all_goals
    go_wp2
    have hf1 := hk1.size
    have hf2 := hb2.size
    have hf3 := hb3.size
    simp at hf1
    refine bodyPost_ret (v := .agg #[.slice A1 x.name.length a1, .slice B1 x.key.length b1, .bool x.flag, .slice C1 x.value.length c1]) (by simp [results, Tryz.results37, go_sem, z0, z1, z2, z3]) rfl ⟨A1, a1, B1, b1, C1, c1, rfl, ?_, ?_, ?_, ?_⟩
    · exact (((hs1.bbelow hb2).bbelow hb3).bless fun b _ h => show From (w.heap.size + 2) b by simpa using h).bsame (((((Same.refl _ _).setCell (fun hq => by simp only [From] at hq; omega) _).setCell (fun hq => by simp only [From] at hq; omega) _).setCell (fun hq => by simp only [From] at hq; omega) _).setCell (fun hq => by simp only [From] at hq; omega) _) |>.blo (by omega)
    · exact (((hs2.bbelow hb3)).bless fun b _ h => show From (w.heap.size + 2) b by simp only [From] at h ⊢; omega).bsame (((((Same.refl _ _).setCell (fun hq => by simp only [From] at hq; omega) _).setCell (fun hq => by simp only [From] at hq; omega) _).setCell (fun hq => by simp only [From] at hq; omega) _).setCell (fun hq => by simp only [From] at hq; omega) _) |>.blo (by omega)
    · exact (hs3.bless fun b _ h => show From (w.heap.size + 2) b by simp only [From] at h ⊢; omega).bsame (((((Same.refl _ _).setCell (fun hq => by simp only [From] at hq; omega) _).setCell (fun hq => by simp only [From] at hq; omega) _).setCell (fun hq => by simp only [From] at hq; omega) _).setCell (fun hq => by simp only [From] at hq; omega) _) |>.blo (by omega)
    · exact ((((Hbox.out _ hk3).2.2.1.setCell (by simp only []; omega) _).setCell (by simp only []; omega) _).setCell (by simp only []; omega) _).setCell (by simp only []; omega) _

/-- A new write's cells, as what they say behind more allocations. -/
theorem wr_fresh {n base : Nat} {w W : World} {v : Value} {A B C : Option Addr} {x : Wr} {a b c : Nat} (h1 : Bs (From n) w A x.name) (h2 : Bs (From n) w B x.key) (h3 : Bs (From n) w C x.value) (g1 : x.name.length ≤ big) (g2 : x.key.length ≤ big) (g3 : x.value.length ≤ big) (hs : Same (From n) w W) (hb : base ≤ n) (hap : ∀ b, From n b → v.ownBlock ≠ some b) :
    WrR (fun b => From base b ∧ v.ownBlock ≠ some b) W [.slice A x.name.length a, .slice B x.key.length b, .bool x.flag, .slice C x.value.length c] x :=
  ⟨A, a, B, b, C, c, rfl, (h1.bsame hs).bless fun b _ h => ⟨Nat.le_trans hb h, hap b h⟩, (h2.bsame hs).bless fun b _ h => ⟨Nat.le_trans hb h, hap b h⟩, (h3.bsame hs).bless fun b _ h => ⟨Nat.le_trans hb h, hap b h⟩, g1, g2, g3⟩

set_option maxRecDepth 100000 in
set_option maxHeartbeats 1000000 in
theorem writes_own (w : World) (A : Option Addr) (l : List Wr) (c : Nat) (ha : Ws All w A l) (hn : l.length * 80 ≤ 140737488355328) :
    Calls Tryz.prog 21 #[.slice A l.length c] w (RetOwnWs 40 w l) := by
  obtain ⟨i0, hi0, hz0, hz1, hz2⟩ := info_parts info_wr
  have Ha := Lib.hid ha
  clear ha
  go_enter Tryz.func21, Tryz.ntmps21
  go_wp2
  go_loopw [3, 4] (fun v i wr => ∃ k : Nat, k ≤ l.length ∧ i = .int .i64 k ∧ Own 4 WrR (From w.heap.size) wr w.heap.size 40 v (l.take k) ∧ Below w.heap.size w wr) (fun _ i _ => l.length - (intOf i).toNat)
  case atStart => exact ⟨0, by omega, rfl, Own.nil _ _ _, Below.refl _ _⟩
  case round =>
    obtain ⟨k, hk, rfl, hown, hbel⟩ := hrel
    have Hbel := Lib.hid hbel
    have Hown := Lib.hid hown
    have hbz := hbel.size
    clear hown hbel
    by_cases hlt : k < l.length
    · obtain ⟨g, off, A1, a1, B1, b1, C1, c1, rfl, _, hal, hc1, hc2, hc3, hc4, hs1, hs2, hs3, hb1, hb2, hb3⟩ := wrs_at (Ha.out.below wrR_stays Hbel.out) hlt
      have Hsn := Lib.hid (take_snoc l k hlt)
      generalize l[k] = x at *
      go_wp2_with (first
        | (go_at_call 37; refine (writeCopy_ok _ A1 B1 C1 x a1 b1 c1 hs1.bz hs2.bz hs3.bz hb1 hb2 hb3).mono ?_; rintro e w1 ⟨A2, a2, B2, b2, C2, c2, rfl, gs1, gs2, gs3, hbw1⟩; have hzw1 := hbw1.size)
        | (at_builtin; refine wpl_snoc wrR_stays (S := From w.heap.size) _ rfl _ _ _ rfl w.heap.size 40 i0 _ 4 80 Tryz.underlying24 hi0 hz0 hz1 hz2 rfl (by decide) _ (l.take k) rfl ?hown _ _ [.slice A2 x.name.length a2, .slice B2 x.key.length b2, .bool x.flag, .slice C2 x.value.length c2] rfl rfl (new_src _ _ [.slice A2 x.name.length a2, .slice B2 x.key.length b2, .bool x.flag, .slice C2 x.value.length c2] _ (by simp)) (by simp [Value.oneCell']) ?hm ?hby ?hba x ?hd ?_; (case hown => (refine Own.below wrR_stays Hown.out ?_; repeat' (first | exact Below.refl _ _ | assumption | refine Below.drew ?_ | refine below_drewN ?_ _ | refine Below.setCell ?_ (by first | (simp; done) | omega | (simp; omega)) _ | refine Below.alloc ?_ (by first | exact Nat.le_refl _ | omega | (simp; done) | (simp; omega)) _))); (case hm => (simp only [List.length_take, maxLen]; omega)); (case hby => (simp only [List.length_take]; omega)); (case hba => (simp; omega)); (case hd => (refine wr_fresh (n := wr.heap.size) gs1 gs2 gs3 hb1 hb2 hb3 ?_ (by first | exact Nat.le_refl _ | omega | (simp; done) | (simp; omega)) (Hown.out.apart _ (Nat.le_refl _)); repeat' (first | exact Same.refl _ _ | assumption | refine Same.drew ?_ | refine Same.drewN ?_ _ | refine Same.alloc ?_ _ | refine Same.setCell ?_ (fun hq => by simp only [From] at hq; first | omega | (simp at hq; done) | (simp at hq; omega)) _))); intro v1 w2 hown2 hbw2))
      go_roundw
      case rel => exact ⟨k + 1, by omega, by go_num, by rw [Hsn.out]; exact hown2, (((Hbel.out.next hbw1 hbz).alloc (by first | exact Nat.le_refl _ | omega | (simp; done) | (simp; omega)) _).alloc (by first | exact Nat.le_refl _ | omega | (simp; done) | (simp; omega)) _).trans hbw2⟩
      case measure => simp [intOf]; omega
    · go_wp2
      go_ret
      obtain rfl : k = l.length := by omega
      have h := Hown.out
      rw [List.take_length] at h
      exact ⟨_, rfl, h, Hbel.out⟩

set_option maxRecDepth 100000 in
set_option maxHeartbeats 1000000 in
theorem sameWrites_ok (w : World) (A B : Option Addr) (l : List Wr) (c d : Nat) (ha : Ws All w A l) (hb : Ws All w B l) (hn : l.length ≤ big) :
    Calls Tryz.prog 7 #[.slice A l.length c, .slice B l.length d] w (RetV w (.bool true)) := by
  unfold big at hn
  have Ha := Lib.hid ha
  have Hb := Lib.hid hb
  clear ha hb
  go_enter Tryz.func7, Tryz.ntmps7
  go_wp2
  go_loopw [5] (fun i wr => ∃ k : Nat, k ≤ l.length ∧ i = .int .i64 k ∧ Below w.heap.size w wr) (fun i _ => l.length - (intOf i).toNat)
  case atStart => exact ⟨0, by omega, rfl, Below.refl _ _⟩
  case round =>
    obtain ⟨k, hk, rfl, hbel⟩ := hrel
    have Hbel := Lib.hid hbel
    clear hbel
    by_cases hlt : k < l.length
    · obtain ⟨g, off, A1, a1, B1, b1, C1, c1, rfl, _, hal, hc1, hc2, hc3, hc4, hs1, hs2, hs3, _, _, _⟩ := wrs_at (Ha.out.below wrR_stays Hbel.out) hlt
      obtain ⟨g', off', A2, a2, B2, b2, C2, c2, rfl, _, hal', hd1, hd2, hd3, hd4, ht1, ht2, ht3, _, _, _⟩ := wrs_at (Hb.out.below wrR_stays Hbel.out) hlt
      generalize l[k] = x at *
      have hi0 : (0 : Int) ≤ (k : Int) := by omega
      have hi1 : (k : Int) < (l.length : Int) := by omega
      have e1 : (x.name == x.name) = true := by simp
      have e2 : (x.key == x.key) = true := by simp
      have e3 : (x.value == x.value) = true := by simp
      go_wp2_with fail
      go_quiet ((first
        | (go_at_call_of 19 A1; exact quiet_left (sameBytes_ok _ A1 A2 x.name x.name a1 a2 (hs1.bz.bsame (by repeat' (first | exact Same.refl _ _ | assumption | refine Same.drew ?_ | refine Same.drewN ?_ _ | refine Same.alloc ?_ _ | refine Same.setCell ?_ (fun hq => by simp only [From] at hq; first | omega | (simp at hq; done) | (simp at hq; omega)) _))) (ht1.bz.bsame (by repeat' (first | exact Same.refl _ _ | assumption | refine Same.drew ?_ | refine Same.drewN ?_ _ | refine Same.alloc ?_ _ | refine Same.setCell ?_ (fun hq => by simp only [From] at hq; first | omega | (simp at hq; done) | (simp at hq; omega)) _)))))
        | (go_at_call_of 19 B1; exact quiet_left (sameBytes_ok _ B1 B2 x.key x.key b1 b2 (hs2.bz.bsame (by repeat' (first | exact Same.refl _ _ | assumption | refine Same.drew ?_ | refine Same.drewN ?_ _ | refine Same.alloc ?_ _ | refine Same.setCell ?_ (fun hq => by simp only [From] at hq; first | omega | (simp at hq; done) | (simp at hq; omega)) _))) (ht2.bz.bsame (by repeat' (first | exact Same.refl _ _ | assumption | refine Same.drew ?_ | refine Same.drewN ?_ _ | refine Same.alloc ?_ _ | refine Same.setCell ?_ (fun hq => by simp only [From] at hq; first | omega | (simp at hq; done) | (simp at hq; omega)) _)))))
        | (go_at_call_of 19 C1; exact quiet_left (sameBytes_ok _ C1 C2 x.value x.value c1 c2 (hs3.bz.bsame (by repeat' (first | exact Same.refl _ _ | assumption | refine Same.drew ?_ | refine Same.drewN ?_ _ | refine Same.alloc ?_ _ | refine Same.setCell ?_ (fun hq => by simp only [From] at hq; first | omega | (simp at hq; done) | (simp at hq; omega)) _))) (ht3.bz.bsame (by repeat' (first | exact Same.refl _ _ | assumption | refine Same.drew ?_ | refine Same.drewN ?_ _ | refine Same.alloc ?_ _ | refine Same.setCell ?_ (fun hq => by simp only [From] at hq; first | omega | (simp at hq; done) | (simp at hq; omega)) _)))))))
      go_wp2
      go_roundw
      case rel => exact ⟨k + 1, by omega, by go_num, below_drewN Hbel.out _⟩
      case measure => simp [intOf]; omega
    · go_wp2
      go_ret
      exact ⟨rfl, Hbel.out⟩

/-- What is refused of a write alone. -/
def writeFaultS (x : Wr) : Int :=
  if nameFault x.name ≠ 0 then nameFault x.name else if x.flag = true then (if keyFault x.key ≠ 0 then keyFault x.key else if 0 < x.value.length then 4 else 0) else pairFaultS (x.key, x.value)
set_option maxRecDepth 100000 in
set_option maxHeartbeats 1000000 in
theorem writeFault_ok (w : World) (A B C : Option Addr) (x : Wr) (a b c : Nat) :
    Calls Tryz.prog 71 #[.agg #[.slice A x.name.length a, .slice B x.key.length b, .bool x.flag, .slice C x.value.length c]] w (RetV w (.int .i64 (writeFaultS x))) := by
  by_cases h1 : nameFault x.name = 0
  · have b1 : (nameFault x.name == 0) = true := by simp [h1]
    obtain ⟨name, key, flag, value⟩ := x
    dsimp only at *
    cases flag with
    | true =>
      by_cases h2 : keyFault key = 0
      · have b2 : (keyFault key == 0) = true := by simp [h2]
        by_cases h3 : 0 < value.length
        · have Hv := Lib.hid (show writeFaultS ⟨name, key, true, value⟩ = 4 by unfold writeFaultS; dsimp only; rw [if_neg (by simpa using h1), if_pos rfl, if_neg (by simpa using h2), if_pos h3])
          have b3 : decide ((0 : Int) < (value.length : Int)) = true := by rw [decide_eq_true_eq]; omega
          clear h1 h2
          go_enter Tryz.func71, Tryz.ntmps71
          go_wp2_with (first
            | (go_at_call 84; refine (nameFault_ok _ A name a).mono ?_; rintro e w1 ⟨rfl, rfl⟩)
            | (go_at_call 85; refine (keyFault_ok _ B key b).mono ?_; rintro e w1 ⟨rfl, rfl⟩))
          go_ret
          exact ⟨ret_int (by rw [Hv.out]), by repeat' (first | exact Below.refl _ _ | assumption | refine Below.drew ?_ | refine below_drewN ?_ _ | refine Below.setCell ?_ (by first | (simp; done) | omega | (simp; omega)) _ | refine Below.alloc ?_ (by first | exact Nat.le_refl _ | omega | (simp; done) | (simp; omega)) _)⟩
        · have Hv := Lib.hid (show writeFaultS ⟨name, key, true, value⟩ = 0 by unfold writeFaultS; dsimp only; rw [if_neg (by simpa using h1), if_pos rfl, if_neg (by simpa using h2), if_neg h3])
          have b3 : decide ((0 : Int) < (value.length : Int)) = false := by rw [decide_eq_false_iff_not]; omega
          have Hk := Lib.hid h2
          clear h1 h2
          go_enter Tryz.func71, Tryz.ntmps71
          go_wp2_with (first
            | (go_at_call 84; refine (nameFault_ok _ A name a).mono ?_; rintro e w1 ⟨rfl, rfl⟩)
            | (go_at_call 85; refine (keyFault_ok _ B key b).mono ?_; rintro e w1 ⟨rfl, rfl⟩))
          go_ret
          exact ⟨ret_int (by rw [Hv.out, Hk.out]), by repeat' (first | exact Below.refl _ _ | assumption | refine Below.drew ?_ | refine below_drewN ?_ _ | refine Below.setCell ?_ (by first | (simp; done) | omega | (simp; omega)) _ | refine Below.alloc ?_ (by first | exact Nat.le_refl _ | omega | (simp; done) | (simp; omega)) _)⟩
      · have Hv := Lib.hid (show writeFaultS ⟨name, key, true, value⟩ = keyFault key by unfold writeFaultS; dsimp only; rw [if_neg (by simpa using h1), if_pos rfl, if_pos h2])
        have b2 : (keyFault key == 0) = false := by simpa using h2
        clear h1 h2
        go_enter Tryz.func71, Tryz.ntmps71
        go_wp2_with (first
          | (go_at_call 84; refine (nameFault_ok _ A name a).mono ?_; rintro e w1 ⟨rfl, rfl⟩)
          | (go_at_call 85; refine (keyFault_ok _ B key b).mono ?_; rintro e w1 ⟨rfl, rfl⟩))
        go_ret
        exact ⟨ret_int (by rw [Hv.out]), by repeat' (first | exact Below.refl _ _ | assumption | refine Below.drew ?_ | refine below_drewN ?_ _ | refine Below.setCell ?_ (by first | (simp; done) | omega | (simp; omega)) _ | refine Below.alloc ?_ (by first | exact Nat.le_refl _ | omega | (simp; done) | (simp; omega)) _)⟩
    | false =>
      have Hv := Lib.hid (show writeFaultS ⟨name, key, false, value⟩ = pairFaultS (key, value) by unfold writeFaultS; dsimp only; rw [if_neg (by simpa using h1)]; rfl)
      clear h1
      go_enter Tryz.func71, Tryz.ntmps71
      go_wp2_with (first
        | (go_at_call 84; refine (nameFault_ok _ A name a).mono ?_; rintro e w1 ⟨rfl, rfl⟩)
        | (go_at_call 86; refine (pairFault_ok _ B C (key, value) b c).mono ?_; rintro e w2 ⟨rfl, hb2⟩))
      go_ret
      exact ⟨ret_int (by rw [Hv.out]), ((Below.refl _ _).alloc (Nat.le_refl _) _).next hb2 (by simp)⟩
  · have b1 : (nameFault x.name == 0) = false := by simpa using h1
    have Hv := Lib.hid (show writeFaultS x = nameFault x.name by unfold writeFaultS; rw [if_pos h1])
    clear h1
    go_enter Tryz.func71, Tryz.ntmps71
    go_wp2_with (go_at_call 84; refine (nameFault_ok _ A x.name a).mono ?_; rintro e w1 ⟨rfl, rfl⟩)
    go_ret
    exact ⟨ret_int (by rw [Hv.out]), by repeat' (first | exact Below.refl _ _ | assumption | refine Below.drew ?_ | refine below_drewN ?_ _ | refine Below.setCell ?_ (by first | (simp; done) | omega | (simp; omega)) _ | refine Below.alloc ?_ (by first | exact Nat.le_refl _ | omega | (simp; done) | (simp; omega)) _)⟩

end Go.Proofs.YthohkgggodhbcaaGreat
namespace Go.Proofs.YthohkgggodhbcaaGreat
open Go.RowKit
set_option linter.unusedVariables false
set_option linter.unusedSimpArgs false

theorem rise_iff (ks : List (List UInt8)) : Rise ks ↔ ks.Pairwise (fun a b => lt a b = true) := by
  rw [List.pairwise_iff_getElem]
  exact ⟨fun h i j _ hj hij => h i j hij hj, fun h i j hij hj => h i j (by omega) hj hij⟩
theorem firstBad_none {f : Nat → Int} : ∀ (n k : Nat), (∀ i, i < n → f (k + i) = 0) → firstBad f n k = 0
  | 0, _, _ => rfl
  | n + 1, k, h => by
    unfold firstBad
    rw [if_neg (by have := h 0 (by omega); simpa using this)]
    exact firstBad_none n (k + 1) fun i hi => by have := h (i + 1) (by omega); rwa [show k + (i + 1) = k + 1 + i by omega] at this
theorem pairs_fault_iff (l : List Pr) : pairsFaultS l = 0 ↔ l.length ≤ 60 ∧ (∀ p ∈ l, pairFaultS p = 0) ∧ Rise (keys l) := by
  refine ⟨fun h => pairs_fine h, fun ⟨h1, h2, h3⟩ => ?_⟩
  unfold pairsFaultS
  rw [if_neg (by omega)]
  refine firstBad_none _ _ fun i hi => ?_
  rw [Nat.zero_add]
  have hp : pairFaultS l[i] = 0 := h2 _ (List.getElem_mem hi)
  rcases i with _ | i
  · exact pairAt_zero hi hp
  · refine pairAt_ok hi hp ?_
    have := h3 i (i + 1) (by omega) (by simpa [keys] using hi)
    rwa [keys_at, keys_at] at this
theorem ten_fault_iff (l : List Tn) : forestFaultS l = 0 ↔ l.length ≤ 8 ∧ (∀ t ∈ l, tenOne t = 0) ∧ Rise (keys l) := by
  refine ⟨fun h => ten_fine h, fun ⟨h1, h2, h3⟩ => ?_⟩
  unfold forestFaultS
  rw [if_neg (by omega)]
  refine firstBad_none _ _ fun i hi => ?_
  rw [Nat.zero_add]
  have hp : tenOne l[i] = 0 := h2 _ (List.getElem_mem hi)
  rcases i with _ | i
  · exact tenAt_zero hi hp
  · refine tenAt_ok hi hp ?_
    have := h3 i (i + 1) (by omega) (by simpa [keys] using hi)
    rwa [keys_at, keys_at] at this
theorem tenOne_fine {t : Tn} : tenOne t = 0 ↔ nameFault t.1 = 0 ∧ t.2.length ≠ 0 ∧ pairsFaultS t.2 = 0 := by
  unfold tenOne
  by_cases h1 : nameFault t.1 = 0
  · by_cases h2 : t.2.length = 0
    · simp [h1, h2]
    · simp [h1, h2]
  · simp [h1]
section
variable {β : Type}
theorem keys_set {l : List (List UInt8 × β)} {i : Nat} {p : List UInt8 × β} (hi : i < l.length) (h : l[i].1 = p.1) : keys (l.set i p) = keys l := by
  unfold keys
  rw [List.map_set, ← h]
  have : (l.map (·.1))[i]'(by simpa using hi) = l[i].1 := by simp
  rw [← this, List.set_getElem_self]
theorem rise_ins {l : List (List UInt8 × β)} {i : Nat} {p : List UInt8 × β} (hr : Rise (keys l)) (hat : At (keys l) p.1 i) (hk : (keys l)[i]? ≠ some p.1) : Rise (keys (ins l i p)) := by
  rw [rise_iff] at *
  have e : keys (ins l i p) = (keys l).take i ++ p.1 :: (keys l).drop i := by simp [keys, ins, List.map_take, List.map_drop]
  rw [e, List.pairwise_append, List.pairwise_cons]
  have hsp : ((keys l).take i ++ (keys l).drop i).Pairwise (fun a b => lt a b = true) := by rw [List.take_append_drop]; exact hr
  rw [List.pairwise_append] at hsp
  have hlow : ∀ a ∈ (keys l).take i, lt a p.1 = true := fun a ha => by
    obtain ⟨j, hj, rfl⟩ := List.mem_iff_getElem.1 ha
    rw [List.length_take] at hj
    rw [List.getElem_take]
    exact hat.low j (by omega) (by omega)
  have hhigh : ∀ a ∈ (keys l).drop i, lt p.1 a = true := fun a ha => by
    obtain ⟨j, hj, rfl⟩ := List.mem_iff_getElem.1 ha
    rw [List.length_drop] at hj
    rw [List.getElem_drop]
    have h1 := hat.high (i + j) (by omega) (by omega)
    rcases Bool.eq_false_or_eq_true (lt p.1 (keys l)[i + j]) with h2 | h2
    · exact h2
    · exfalso
      have h3 := lt_tri _ _ h1 h2
      rcases Nat.eq_zero_or_pos j with rfl | hj0
      · exact hk (by rw [List.getElem?_eq_getElem (by omega)]; exact congrArg some h3)
      · have hr' : Rise (keys l) := by rw [rise_iff]; exact hr
        have h4 := hr' i (i + j) (by omega) (by omega)
        rw [h3, hat.high i (Nat.le_refl _) (by omega)] at h4
        cases h4
  refine ⟨hsp.1, ⟨hhigh, hsp.2.1⟩, fun a ha b hb => ?_⟩
  rcases List.mem_cons.1 hb with rfl | hb
  · exact hlow a ha
  · exact hsp.2.2 a ha b hb
theorem rise_filter {l : List (List UInt8 × β)} (hr : Rise (keys l)) (q : List UInt8 × β → Bool) : Rise (keys (l.filter q)) := by
  rw [rise_iff] at *
  exact hr.sublist ((List.filter_sublist).map _)
theorem mem_set {l : List (List UInt8 × β)} {i : Nat} {p x : List UInt8 × β} (h : x ∈ l.set i p) : x ∈ l ∨ x = p := List.mem_or_eq_of_mem_set h
theorem mem_ins {l : List (List UInt8 × β)} {i : Nat} {p x : List UInt8 × β} (h : x ∈ ins l i p) : x ∈ l ∨ x = p := by
  unfold ins at h
  rcases List.mem_append.1 h with h | h
  · exact .inl (List.mem_of_mem_take h)
  · rcases List.mem_cons.1 h with h | h
    · exact .inr h
    · exact .inl (List.mem_of_mem_drop h)
/-- Where a key is among keys that rise. -/
theorem at_exists (l : List (List UInt8 × β)) (hr : Rise (keys l)) (k : List UInt8) : ∃ i, At (keys l) k i := by
  have h : ∀ n, n ≤ (keys l).length → (∃ i, i ≤ n ∧ (∀ j (_ : j < i) (h : j < (keys l).length), lt (keys l)[j] k = true) ∧ (∀ j (_ : i ≤ j) (_ : j < n) (h : j < (keys l).length), lt (keys l)[j] k = false)) := by
    intro n
    induction n with
    | zero => exact fun _ => ⟨0, Nat.le_refl _, fun j h => absurd h (by omega), fun j _ h => absurd h (by omega)⟩
    | succ n ih =>
      intro hn
      obtain ⟨i, h1, h2, h3⟩ := ih (by omega)
      by_cases he : i = n
      · subst he
        rcases Bool.eq_false_or_eq_true (lt ((keys l)[i]'(by omega)) k) with ho | ho
        · exact ⟨i + 1, Nat.le_refl _, low_of hr (by omega) ho, fun j h h' => absurd h (by omega)⟩
        · refine ⟨i, by omega, h2, fun j h h' hj => ?_⟩
          obtain rfl : j = i := by omega
          exact ho
      · refine ⟨i, by omega, h2, fun j h h' hj => ?_⟩
        rcases Nat.lt_or_ge j n with hjn | hjn
        · exact h3 j h hjn hj
        · obtain rfl : j = n := by omega
          exact high_of hr (m := i) (by omega) (h3 i (Nat.le_refl _) (by omega) (by omega)) j (by omega) hj
  obtain ⟨i, h1, h2, h3⟩ := h (keys l).length (Nat.le_refl _)
  exact ⟨i, h1, h2, fun j h hj => h3 j h hj hj⟩
/-- What a pair put among others is: set, or put in between. -/
theorem putAll_cases (p : List UInt8 × β) (l : List (List UInt8 × β)) (hr : Rise (keys l)) : (∃ i, ∃ h : i < l.length, l[i].1 = p.1 ∧ putAll p l = l.set i p) ∨ (∃ i, At (keys l) p.1 i ∧ (keys l)[i]? ≠ some p.1 ∧ putAll p l = ins l i p) := by
  obtain ⟨i, hat⟩ := at_exists l hr p.1
  by_cases hf : (keys l)[i]? = some p.1
  · have hik : i < (keys l).length := (List.getElem?_eq_some_iff.1 hf).1
    have hil : i < l.length := by simpa [keys] using hik
    have hli : l[i].1 = p.1 := by have := (List.getElem?_eq_some_iff.1 hf).2; rwa [keys_at] at this
    exact .inl ⟨i, hil, hli, putAll_set hr hil hli⟩
  · exact .inr ⟨i, hat, hf, putAll_ins hr hat hf⟩
theorem putAll_rise (p : List UInt8 × β) (l : List (List UInt8 × β)) (hr : Rise (keys l)) : Rise (keys (putAll p l)) ∧ (∀ x ∈ putAll p l, x ∈ l ∨ x = p) := by
  rcases putAll_cases p l hr with ⟨i, h, hk, e⟩ | ⟨i, hat, hk, e⟩
  · rw [e, keys_set h hk]
    exact ⟨hr, fun x hx => mem_set hx⟩
  · rw [e]
    exact ⟨rise_ins hr hat hk, fun x hx => mem_ins hx⟩
end
theorem putS_fine {l : List Pr} {p : Pr} (h : (putS l p).2 = 0) : pairsFaultS (putS l p).1 = 0 ∧ (putS l p).1 = putAll p l := by
  unfold putS at *
  by_cases h1 : ppFault l p = 0
  · rw [if_neg (by simpa using h1)] at h ⊢
    by_cases h2 : 60 < (putAll p l).length
    · rw [if_pos h2] at h; cases h
    · rw [if_neg h2]
      have hf := pp_fine h1
      obtain ⟨g1, g2, g3⟩ := (pairs_fault_iff l).1 hf.1
      have hr := putAll_rise p l g3
      refine ⟨(pairs_fault_iff _).2 ⟨by show (putAll p l).length ≤ 60; omega, fun x hx => ?_, hr.1⟩, rfl⟩
      rcases hr.2 x hx with h' | rfl
      · exact g2 x h'
      · exact hf.2
  · rw [if_pos h1] at h; exact absurd h h1
theorem delS_fine {l : List Pr} {k : List UInt8} (h : (delS l k).2 = 0) : pairsFaultS (delS l k).1 = 0 := by
  unfold delS at *
  by_cases h1 : pkFault l k = 0
  · rw [if_neg (by simpa using h1)]
    obtain ⟨g1, g2, g3⟩ := (pairs_fault_iff l).1 (pk_fine h1).1
    refine (pairs_fault_iff _).2 ⟨Nat.le_trans (List.length_filter_le _ _) g1, fun x hx => g2 x ((List.mem_filter.1 hx).1), rise_filter g3 _⟩
  · rw [if_pos h1] at h; exact absurd h h1

/-- The pairs of a tenant behind a write. -/
def nextS (old : List Pr) (x : Wr) : List Pr × Int := if x.flag = true then delS old x.key else putS old (x.key, x.value)
def putFrom {β : Type} (p : List UInt8 × β) (d : Bool) (l : List (List UInt8 × β)) : List (List UInt8 × β) × Bool := l.foldl (putStep p) ([], d)
def putEnd {β : Type} (p : List UInt8 × β) (d : Bool) (l : List (List UInt8 × β)) : List (List UInt8 × β) := if (putFrom p d l).2 then (putFrom p d l).1 else (putFrom p d l).1 ++ [p]
def writtenS (l : List Tn) (x : Wr) : List Tn × Int :=
  let n := nextS (pairsOfS l x.name) x
  if n.2 ≠ 0 then ([], n.2) else if 8 < (putEnd (x.name, n.1) (n.1.length == 0) l).length then ([], 11) else (putEnd (x.name, n.1) (n.1.length == 0) l, 0)
def writeS (l : List Tn) (x : Wr) : List Tn × Int := if writeFaultS x ≠ 0 then ([], writeFaultS x) else writtenS l x
theorem nextS_len (old : List Pr) (x : Wr) : (nextS old x).1.length ≤ 60 := by
  unfold nextS
  split
  · unfold delS
    split
    · simp
    · rename_i h
      have := (pairs_fine (pk_fine (by simpa using h)).1).1
      exact Nat.le_trans (List.length_filter_le _ _) this
  · unfold putS
    split
    · simp
    · split
      · simp
      · rename_i h; show (putAll _ _).length ≤ 60; omega
theorem putFrom_snoc {β : Type} {p : List UInt8 × β} {d : Bool} {l : List (List UInt8 × β)} {k : Nat} (h : k < l.length) : putFrom p d (l.take (k + 1)) = putStep p (putFrom p d (l.take k)) l[k] := by
  unfold putFrom
  rw [take_snoc l k h, List.foldl_append]
  rfl
theorem putFrom_len {β : Type} (p : List UInt8 × β) (d : Bool) (l : List (List UInt8 × β)) : ∀ k, k ≤ l.length → (putFrom p d (l.take k)).1.length ≤ 2 * k
  | 0, _ => by simp [putFrom]
  | k + 1, h => by
    rw [putFrom_snoc (by omega)]
    have := putStep_len p (putFrom p d (l.take k)) l[k]
    have := putFrom_len p d l k (by omega)
    omega
theorem fold_true {β : Type} {p : List UInt8 × β} : ∀ (xs acc : List (List UInt8 × β)), xs.foldl (putStep p) (acc, true) = (acc ++ xs.filter (fun x => !(x.1 == p.1)), true)
  | [], acc => by simp
  | x :: xs, acc => by
    rcases Bool.eq_false_or_eq_true (x.1 == p.1) with h | h
    · rw [List.foldl_cons, show putStep p (acc, true) x = (acc, true) by simp [putStep, h], fold_true xs acc, List.filter_cons, h]
      simp
    · rw [List.foldl_cons, show putStep p (acc, true) x = (acc ++ [x], true) by simp [putStep, h], fold_true xs (acc ++ [x]), List.filter_cons, h]
      simp
theorem putEnd_true {β : Type} (p : List UInt8 × β) (l : List (List UInt8 × β)) : putEnd p true l = l.filter (fun x => !(x.1 == p.1)) := by
  simp [putEnd, putFrom, fold_true]
theorem putEnd_false {β : Type} (p : List UInt8 × β) (l : List (List UInt8 × β)) : putEnd p false l = putAll p l := rfl
/-- What a forest must be to be written to. -/
def Fine (l : List Tn) : Prop := forestFaultS l = 0
theorem Fine.old {l : List Tn} (h : Fine l) (n : List UInt8) : pairsFaultS (pairsOfS l n) = 0 := by
  unfold pairsOfS
  cases hf : l.find? (·.1 == n) with
  | none => rfl
  | some t =>
    have ht := ((ten_fault_iff l).1 h).2.1 t (List.mem_of_find?_eq_some hf)
    exact (tenOne_fine.1 ht).2.2
theorem writeS_fine {l : List Tn} {x : Wr} (h : Fine l) (hz : (writeS l x).2 = 0) : Fine (writeS l x).1 := by
  unfold writeS at *
  by_cases h1 : writeFaultS x = 0
  · rw [if_neg (by simpa using h1)] at hz ⊢
    unfold writtenS at *
    dsimp only at *
    by_cases h2 : (nextS (pairsOfS l x.name) x).2 = 0
    · rw [if_neg (by simpa using h2)] at hz ⊢
      by_cases h3 : 8 < (putEnd (x.name, (nextS (pairsOfS l x.name) x).1) ((nextS (pairsOfS l x.name) x).1.length == 0) l).length
      · rw [if_pos h3] at hz; cases hz
      · rw [if_neg h3]
        obtain ⟨g1, g2, g3⟩ := (ten_fault_iff l).1 h
        have hnf : nameFault x.name = 0 := by
          unfold writeFaultS at h1
          split at h1
          · rename_i h'; exact absurd h1 h'
          · rename_i h'; simpa using h'
        refine (ten_fault_iff _).2 ⟨by show (putEnd _ _ l).length ≤ 8; omega, ?_⟩
        rcases Bool.eq_false_or_eq_true ((nextS (pairsOfS l x.name) x).1.length == 0) with he | he
        · rw [he, putEnd_true]
          exact ⟨fun t ht => g2 t ((List.mem_filter.1 ht).1), rise_filter g3 _⟩
        · rw [he, putEnd_false]
          have hr := putAll_rise (x.name, (nextS (pairsOfS l x.name) x).1) l g3
          refine ⟨fun t ht => ?_, hr.1⟩
          rcases hr.2 t ht with h' | rfl
          · exact g2 t h'
          · refine tenOne_fine.2 ⟨hnf, by simpa using he, ?_⟩
            unfold nextS at h2 ⊢
            split
            · rename_i hg; rw [if_pos hg] at h2; exact delS_fine h2
            · rename_i hg; rw [if_neg hg] at h2; exact (putS_fine h2).1
    · rw [if_pos h2] at hz; exact absurd hz h2
  · rw [if_pos h1] at hz; exact absurd hz h1
end Go.Proofs.YthohkgggodhbcaaGreat
namespace Go.Proofs.YthohkgggodhbcaaGreat
open Go.RowKit
set_option linter.unusedVariables false
set_option linter.unusedSimpArgs false

section
variable {β : Type}
theorem filterT_cut {l : List (List UInt8 × β)} {k : List UInt8} {i : Nat} (hr : Rise (keys l)) (hi : i < l.length) (h : l[i].1 = k) : l.filter (fun x => !(x.1 == k)) = l.take i ++ l.drop (i + 1) := by
  have hne : ∀ j (hj : j < l.length), j ≠ i → (!(l[j].1 == k)) = true := by
    intro j hj hji
    have : l[j].1 ≠ k := fun e => hji (rise_inj hr (i := j) (j := i) (by simpa [keys] using hj) (by simpa [keys] using hi) (by simp [keys, e, h]))
    simpa using this
  have e1 : l = l.take i ++ l[i] :: l.drop (i + 1) := by rw [← List.drop_eq_getElem_cons hi, List.take_append_drop]
  have h0 : (!(l[i].1 == k)) = false := by simp [h]
  conv => lhs; rw [e1]
  rw [List.filter_append, List.filter_cons, if_neg (by simp [h0])]
  congr 1
  · refine List.filter_eq_self.2 fun p hp => ?_
    obtain ⟨j, hj, rfl⟩ := List.mem_iff_getElem.1 hp
    rw [List.length_take] at hj
    rw [List.getElem_take]
    exact hne j (by omega) (by omega)
  · refine List.filter_eq_self.2 fun p hp => ?_
    obtain ⟨j, hj, rfl⟩ := List.mem_iff_getElem.1 hp
    rw [List.length_drop] at hj
    rw [List.getElem_drop]
    exact hne _ (by omega) (by omega)
theorem filterT_none {l : List (List UInt8 × β)} {k : List UInt8} {i : Nat} (hr : Rise (keys l)) (hat : At (keys l) k i) (h : (keys l)[i]? ≠ some k) : l.filter (fun x => !(x.1 == k)) = l := by
  refine List.filter_eq_self.2 fun p hp => ?_
  have := find_not hr hat h
  rw [List.find?_eq_none] at this
  simpa using this p hp
end
/-- What write has for an error, behind the name's. -/
def progE (old : List Pr) (x : Wr) : Int := if x.flag = true ∧ (nextS old x).2 = 0 ∧ 0 < x.value.length then 4 else (nextS old x).2
theorem delS_err {l : List Pr} {k : List UInt8} (h : pairsFaultS l = 0) : (delS l k).2 = keyFault k := by
  have e : pkFault l k = keyFault k := by unfold pkFault; rw [if_neg (by simpa using h)]
  unfold delS
  rw [e]
  by_cases h2 : keyFault k = 0
  · simp [h2]
  · rw [if_pos h2]
theorem progE_bad {l : List Tn} {x : Wr} (hf : Fine l) (hn : nameFault x.name = 0) (h : progE (pairsOfS l x.name) x ≠ 0) : writeS l x = ([], progE (pairsOfS l x.name) x) := by
  have ho := hf.old x.name
  by_cases hfl : x.flag = true
  · have e1 : (nextS (pairsOfS l x.name) x).2 = keyFault x.key := by unfold nextS; rw [if_pos hfl]; exact delS_err ho
    have e2 : writeFaultS x = progE (pairsOfS l x.name) x := by
      unfold writeFaultS progE
      rw [if_neg (by simpa using hn), if_pos hfl, e1]
      by_cases h1 : keyFault x.key = 0
      · by_cases h2 : 0 < x.value.length
        · rw [if_neg (by simpa using h1), if_pos h2, if_pos ⟨hfl, h1, h2⟩]
        · rw [if_neg (by simpa using h1), if_neg h2, if_neg (fun h => h2 h.2.2), h1]
      · rw [if_pos h1, if_neg (fun h => h1 h.2.1)]
    unfold writeS
    rw [e2, if_pos h]
  · have hff : x.flag = false := by simpa using hfl
    have e0 : progE (pairsOfS l x.name) x = (nextS (pairsOfS l x.name) x).2 := by unfold progE; rw [if_neg (fun h => hfl h.1)]
    have e1 : nextS (pairsOfS l x.name) x = putS (pairsOfS l x.name) (x.key, x.value) := by unfold nextS; rw [if_neg hfl]
    have e3 : writeFaultS x = pairFaultS (x.key, x.value) := by unfold writeFaultS; rw [if_neg (by simpa using hn), if_neg hfl]
    have e4 : ppFault (pairsOfS l x.name) (x.key, x.value) = pairFaultS (x.key, x.value) := by unfold ppFault; rw [if_neg (by simpa using ho)]
    rw [e0] at h ⊢
    unfold writeS
    by_cases h1 : writeFaultS x = 0
    · rw [if_neg (by simpa using h1)]
      unfold writtenS
      dsimp only
      rw [if_pos h]
    · rw [if_pos h1]
      rw [e1]
      rw [e3] at h1 ⊢
      unfold putS
      rw [e4, if_pos h1]
theorem progE_good {l : List Tn} {x : Wr} (hf : Fine l) (hn : nameFault x.name = 0) (h : progE (pairsOfS l x.name) x = 0) :
    (nextS (pairsOfS l x.name) x).2 = 0 ∧ writeS l x = if 8 < (putEnd (x.name, (nextS (pairsOfS l x.name) x).1) ((nextS (pairsOfS l x.name) x).1.length == 0) l).length then ([], 11) else (putEnd (x.name, (nextS (pairsOfS l x.name) x).1) ((nextS (pairsOfS l x.name) x).1.length == 0) l, 0) := by
  have ho := hf.old x.name
  have hn2 : (nextS (pairsOfS l x.name) x).2 = 0 := by
    unfold progE at h
    split at h
    · cases h
    · exact h
  have hw : writeFaultS x = 0 := by
    unfold writeFaultS
    rw [if_neg (by simpa using hn)]
    by_cases hfl : x.flag = true
    · have e1 : (nextS (pairsOfS l x.name) x).2 = keyFault x.key := by unfold nextS; rw [if_pos hfl]; exact delS_err ho
      rw [if_pos hfl, if_neg (by rw [← e1]; simpa using hn2)]
      by_cases h2 : 0 < x.value.length
      · unfold progE at h
        rw [if_pos ⟨hfl, hn2, h2⟩] at h
        cases h
      · rw [if_neg h2]
    · rw [if_neg hfl]
      have e1 : nextS (pairsOfS l x.name) x = putS (pairsOfS l x.name) (x.key, x.value) := by unfold nextS; rw [if_neg hfl]
      rw [e1] at hn2
      unfold putS ppFault at hn2
      rw [if_neg (show ¬ pairsFaultS (pairsOfS l x.name) ≠ 0 by simpa using ho)] at hn2
      by_cases h1 : pairFaultS (x.key, x.value) = 0
      · exact h1
      · rw [if_pos h1] at hn2
        exact absurd hn2 h1
  refine ⟨hn2, ?_⟩
  unfold writeS
  rw [if_neg (by simpa using hw)]
  unfold writtenS
  dsimp only
  rw [if_neg (by simpa using hn2)]
theorem writeS_cut {l : List Tn} {x : Wr} {i : Nat} (hf : Fine l) (hn : nameFault x.name = 0) (h : progE (pairsOfS l x.name) x = 0) (hi : i < l.length) (hk : l[i].1 = x.name) (hz : (nextS (pairsOfS l x.name) x).1.length = 0) : writeS l x = (l.take i ++ l.drop (i + 1), 0) := by
  obtain ⟨g1, g2, g3⟩ := (ten_fault_iff l).1 hf
  rw [(progE_good hf hn h).2, show ((nextS (pairsOfS l x.name) x).1.length == 0) = true by simpa using hz, putEnd_true]
  rw [filterT_cut g3 hi hk, if_neg (by rw [List.length_append, List.length_take, List.length_drop]; omega)]
theorem writeS_same {l : List Tn} {x : Wr} {i : Nat} (hf : Fine l) (hn : nameFault x.name = 0) (h : progE (pairsOfS l x.name) x = 0) (hat : At (keys l) x.name i) (hk : (keys l)[i]? ≠ some x.name) (hz : (nextS (pairsOfS l x.name) x).1.length = 0) : writeS l x = (l, 0) := by
  obtain ⟨g1, g2, g3⟩ := (ten_fault_iff l).1 hf
  rw [(progE_good hf hn h).2, show ((nextS (pairsOfS l x.name) x).1.length == 0) = true by simpa using hz, putEnd_true]
  rw [filterT_none g3 hat hk, if_neg (by omega)]
theorem writeS_set {l : List Tn} {x : Wr} {i : Nat} (hf : Fine l) (hn : nameFault x.name = 0) (h : progE (pairsOfS l x.name) x = 0) (hi : i < l.length) (hk : l[i].1 = x.name) (hz : (nextS (pairsOfS l x.name) x).1.length ≠ 0) : writeS l x = (l.set i (x.name, (nextS (pairsOfS l x.name) x).1), 0) := by
  obtain ⟨g1, g2, g3⟩ := (ten_fault_iff l).1 hf
  rw [(progE_good hf hn h).2, show ((nextS (pairsOfS l x.name) x).1.length == 0) = false by simpa using hz, putEnd_false]
  rw [putAll_set g3 hi hk, if_neg (by rw [List.length_set]; omega)]
theorem writeS_full {l : List Tn} {x : Wr} {i : Nat} (hf : Fine l) (hn : nameFault x.name = 0) (h : progE (pairsOfS l x.name) x = 0) (hat : At (keys l) x.name i) (hk : (keys l)[i]? ≠ some x.name) (hz : (nextS (pairsOfS l x.name) x).1.length ≠ 0) (h8 : l.length = 8) : writeS l x = ([], 11) := by
  obtain ⟨g1, g2, g3⟩ := (ten_fault_iff l).1 hf
  rw [(progE_good hf hn h).2, show ((nextS (pairsOfS l x.name) x).1.length == 0) = false by simpa using hz, putEnd_false]
  rw [putAll_ins g3 hat hk, if_pos (by rw [ins_len]; omega)]
theorem writeS_ins {l : List Tn} {x : Wr} {i : Nat} (hf : Fine l) (hn : nameFault x.name = 0) (h : progE (pairsOfS l x.name) x = 0) (hat : At (keys l) x.name i) (hk : (keys l)[i]? ≠ some x.name) (hz : (nextS (pairsOfS l x.name) x).1.length ≠ 0) (h8 : l.length ≠ 8) : writeS l x = (ins l i (x.name, (nextS (pairsOfS l x.name) x).1), 0) := by
  obtain ⟨g1, g2, g3⟩ := (ten_fault_iff l).1 hf
  rw [(progE_good hf hn h).2, show ((nextS (pairsOfS l x.name) x).1.length == 0) = false by simpa using hz, putEnd_false]
  rw [putAll_ins g3 hat hk, if_neg (by rw [ins_len]; omega)]
theorem writeS_name {l : List Tn} {x : Wr} (hn : nameFault x.name ≠ 0) : writeS l x = ([], nameFault x.name) := by
  have e : writeFaultS x = nameFault x.name := by unfold writeFaultS; rw [if_pos hn]
  unfold writeS
  rw [e, if_pos hn]
end Go.Proofs.YthohkgggodhbcaaGreat
namespace Go.Proofs.YthohkgggodhbcaaGreat
open Go.RowKit
set_option linter.unusedVariables false
set_option linter.unusedSimpArgs false

set_option maxRecDepth 100000 in
set_option maxHeartbeats 1000000 in
theorem sinsertT_end {α : Type} {R : (Nat → Prop) → World → List Value → α → Prop} (hR : Stays R) (hone : ∀ S w c x, R S w c x → ∀ u ∈ c, u.oneCell' = true) (w : World) (base : Nat) (v : Value) (l : List α) (x : α) (vb : Nat) (c : List Value) (T : TypeId)
    (hown : Own 2 R (From base) w base 48 v l) (hb : base ≤ w.heap.size) (hl : l.length ≤ 100000) (hvb : w.heap[vb]? = some (.cells c.toArray T (0, 0))) (hc : c.length = 2) (hx : R (fun b => From base b ∧ v.ownBlock ≠ some b) w c x) :
    Calls Tryz.prog 78 #[v, .int .i64 l.length, .slice (some ⟨vb, 0, none⟩) 1 1] w (RetIns R 48 base w (l ++ [x])) := by
  obtain ⟨i0, hi0, hz0, hz1, hz2⟩ := info_parts info_ten
  obtain ⟨A, cap, hv, hcap⟩ : ∃ A cap, v = .slice A l.length cap ∧ (A = none → cap = 0) := by
    obtain ⟨xs, h1, _⟩ := hown
    rcases h1.2 with ⟨rfl, h0⟩ | ⟨g, cap, cur, rfl, _⟩
    · exact ⟨none, 0, by rw [h0], fun _ => rfl⟩
    · exact ⟨_, cap, rfl, fun h => by cases h⟩
  have Hown := Lib.hid hown
  have Hx := Lib.hid hx
  have Hsrc := Lib.hid (show ∃ ad, some (⟨vb, 0, none⟩ : Addr) = some ad ∧ ∀ j u, c[j]? = some u → w.cell? (ad.add j) = some u from ⟨_, rfl, fun j u hu => by rw [add_at, Nat.zero_add, box_cell hvb, hu]⟩)
  have Hone := Lib.hid (hone _ _ _ _ hx)
  have Hv := Lib.hid hv
  have Hcap := Lib.hid hcap
  clear hown hx hvb hone
  have hsame : v = v := rfl
  rw [hv]
  clear hv hcap
  rcases A with _ | ⟨g, off, sp⟩
  all_goals
    go_enter Tryz.func78, Tryz.ntmps78
    go_wp2_with (at_builtin; refine wpl_snoc hR (S := From base) _ rfl _ _ _ rfl base 48 i0 _ 2 48 Tryz.underlying34 hi0 hz0 hz1 hz2 rfl (by decide) v l ?hs Hown.out (some ⟨vb, 0, none⟩) 1 c rfl hc Hsrc.out Hone.out (by unfold maxLen; omega) (by omega) hb x Hx.out ?_; (case hs => (rw [Hv.out]; rfl)); intro v1 w1 hown1 hbw1)
    all_goals
      go_ret
      exact ⟨v1, rfl, hown1, hbw1⟩
set_option maxRecDepth 100000 in
set_option maxHeartbeats 2000000 in
theorem sinsertT_room {α : Type} {R : (Nat → Prop) → World → List Value → α → Prop} (hR : Stays R) (hone : ∀ S w c x, R S w c x → ∀ u ∈ c, u.oneCell' = true) (w : World) (base : Nat) (l : List α) (i : Nat) (x : α) (g cap : Nat) (vb : Nat) (c : List Value) (T : TypeId)
    (hown : Own 2 R (From base) w base 48 (.slice (some ⟨g, 0, none⟩) l.length cap) l) (hi : i < l.length) (hroom : l.length < cap) (hvb : w.heap[vb]? = some (.cells c.toArray T (0, 0))) (hc : c.length = 2) (hne : vb ≠ g) (hx : R (fun b => From base b ∧ b ≠ g) w c x) :
    Calls Tryz.prog 78 #[.slice (some ⟨g, 0, none⟩) l.length cap, .int .i64 i, .slice (some ⟨vb, 0, none⟩) 1 1] w (RetIns R 48 base w (ins l i x)) := by
  obtain ⟨i0, hi0, hz0, hz1, hz2⟩ := info_parts info_ten
  obtain ⟨g', cap', cur, css, hv, hg, hlt, hh, hcap, hmx, hcur, ht, hw, he⟩ := hown.row hR (by omega)
  cases hv
  obtain ⟨n, hn⟩ : ∃ n, n = l.length := ⟨_, rfl⟩
  have hcl : css.length = n := by rw [hn]; exact he.length
  rw [← hn] at hi hroom hcap ht ⊢
  simp only [maxLen] at hmx
  have hcell : ∀ j, j < cap * 2 → (w.cell? ⟨g, j, none⟩).isSome = true := by
    intro j hj
    simp [World.cell?, hh, hcur, hj]
  have hcells : ∀ j, j < n * 2 → w.cell? ⟨g, j, none⟩ = css.flatten[j]? := by
    intro j hj
    rw [← ht, List.getElem?_take_of_lt hj, Array.getElem?_toList]
    simp [World.cell?, hh]
  have hfroz : ∀ j, w.frozen? ⟨g, j, none⟩ = false := fun j => by simp [World.frozen?, hh]
  have hov : ∀ lb cb, (callFunc 95 #[.slice (some ⟨vb, 0, none⟩) 1 1, .slice (some ⟨g, (i + 1) * 2, none⟩) lb cb]).run Tryz.prog w = .ok (.value (.bool false)) w := fun lb cb => by
    rw [run_callFunc_extern Tryz.func95 (by kernel_rfl) (by kernel_rfl) (by kernel_rfl) (e := Extern.SlicesOverlaps.overlaps #[34, 34] #[4]) (by kernel_rfl),
      Lib.run_overlaps_apart w 34 4 48 Tryz.underlying34 2 (sizeOf_run hi0 hz1) ⟨vb, 0, none⟩ ⟨g, (i + 1) * 2, none⟩ 1 1 lb cb hne T 48 _ _ (shape_of_heap hvb) (shape_of_heap hh) (by omega) (by simp [World.frozen?, hvb]) (by simp [World.frozen?, hvb])]
    rfl
  have hdf : css.flatten.drop (i * 2) = (css.drop i).flatten := flat_drop hw i (by omega)
  have hdl : (css.drop i).flatten.length = (n - i) * 2 := by rw [flat_len (hw.drop i), List.length_drop, hcl]
  obtain ⟨news, hnews⟩ : ∃ news, news = (css.drop i).flatten := ⟨_, rfl⟩
  rw [← hnews] at hdf hdl
  have hn1 : ∀ v ∈ news, v.oneCell' = true := by rw [hnews]; exact each_one hone (he.drop i)
  have hc1 : ∀ v ∈ c, v.oneCell' = true := hone _ _ _ _ hx
  have hsz : (Tryz.prog.info? 48).map (·.size) = some 2 := info_size hi0 hz1
  have hcp1 : ∀ ty dc sc, (Builtin.copy_ #[34, 34] ty #[.slice (some ⟨g, (i + 1) * 2, none⟩) (n - i) dc, .slice (some ⟨g, i * 2, none⟩) (n + 1 - i) sc]).run Tryz.prog w.drew = .ok (goInt ((n - i : Nat) : Int)) (w.drew.setCells g ((i + 1) * 2) news) := fun ty dc sc =>
    run_copy_chunks w.drew _ _ ty 48 2 (n - i) g ((i + 1) * 2) (n - i) dc ⟨g, i * 2, none⟩ (n + 1 - i) sc news Tryz.underlying34 hsz (by simp only [Nat.min_def]; split <;> omega) hdl
      (fun j v hj => by
        rw [add_at]
        have hjl := (List.getElem?_eq_some_iff.1 hj).1
        have := hcells (i * 2 + j) (by omega)
        show w.cell? _ = _
        rw [this, ← hj, ← hdf, List.getElem?_drop])
      (fun j hj => hcell _ (by omega)) (fun j hj => hfroz _) hn1
  obtain ⟨W1, hW1⟩ : ∃ W1, W1 = w.drew.setCells g ((i + 1) * 2) news := ⟨_, rfl⟩
  have hcp2 : ∀ ty dc, (Builtin.copy_ #[34, 34] ty #[.slice (some ⟨g, i * 2, none⟩) (n + 1 - i) dc, .slice (some ⟨vb, 0, none⟩) 1 1]).run Tryz.prog W1 = .ok (goInt ((1 : Nat) : Int)) (W1.setCells g (i * 2) c) := fun ty dc =>
    run_copy_chunks W1 _ _ ty 48 2 1 g (i * 2) (n + 1 - i) dc ⟨vb, 0, none⟩ 1 1 c Tryz.underlying34 hsz (by simp only [Nat.min_def]; split <;> omega) (by rw [hc])
      (fun j v hj => by
        rw [add_at, hW1, World.cell?_setCells_out g _ _ _ _ (fun h _ => absurd h hne), Nat.zero_add]
        show w.cell? _ = _
        rw [box_cell hvb, hj])
      (fun j hj => by rw [hW1]; exact World.isSome_setCells g news _ _ _ (hcell _ (by omega))) (fun j hj => by rw [hW1, World.frozen?_setCells]; exact hfroz _) hc1
  rw [← hW1] at hcp1
  have Hcp1 := Lib.hid hcp1
  have Hcp2 := Lib.hid hcp2
  have Hown := Lib.hid hown
  have Hrest := Lib.hid (And.intro hh (And.intro hcur (And.intro ht (And.intro hw (And.intro he hx)))))
  have HW1 := Lib.hid hW1
  have Hn := Lib.hid hn
  have Hcl := Lib.hid hcl
  have Hnews := Lib.hid hnews
  have Hdl := Lib.hid hdl
  have Hc := Lib.hid hc
  have Hlt := Lib.hid hlt
  clear hcp1 hcp2 hown hh hcur ht hw he hx hW1 hn hcl hnews hdl hc hcells hcell hfroz hdf hn1 hc1 hsz hvb hlt
  have hz2' : ((i : Int) == (n : Int)) = false := by simp; omega
  have hw0 : IntKind.i64.wrap ((n : Int) + 1) = (n : Int) + 1 := by rw [IntKind.wrap_i64]; omega
  have hw1 : IntKind.i64.wrap ((i : Int) + 1) = (i : Int) + 1 := by rw [IntKind.wrap_i64]; omega
  have hb0 : decide ((cap : Int) < (n : Int) + 1) = false := by simp; omega
  have hb1 : (0 : Int) ≤ (i : Int) + 1 := by omega
  have hb5 : (0 : Int) ≤ (n : Int) + 1 := by omega
  have hb6 : (n : Int) + 1 ≤ (cap : Int) := by omega
  have hin : i ≤ n := by omega
  have htn : ((i : Int) + 1).toNat = i + 1 := by omega
  have htn' : ((n : Int) + 1).toNat = n + 1 := by omega
  have hb2 : ¬ (cap = i + 1) := by omega
  have hb3 : (i : Int) ≤ (n : Int) + 1 := by omega
  have hb7 : (i : Int) + 1 ≤ (n : Int) + 1 := by omega
  have hb4 : ¬ (cap = i) := by omega
  go_enter Tryz.func78, Tryz.ntmps78
  go_wp2_with (simp only [hov])
  go_region_law ((refine step_copy_runI rfl (.tmp 73) (.tmp 76) 34 34 rfl (.slice (some ⟨g, (i + 1) * 2, none⟩) (n - i) (cap - (i + 1))) (.slice (some ⟨g, i * 2, none⟩) (n + 1 - i) (cap - i)) ?hd ?hx (Hcp1.out _ _ _) ?_); (case hd => simp [Act.eval, Act.put]); (case hx => simp [Act.eval, Act.put]))
  go_wp2_with (refine wpList_copy_runI _ rfl (.tmp 80) (.tmp 81) 34 34 rfl (.slice (some ⟨g, i * 2, none⟩) (n + 1 - i) (cap - i)) (.slice (some ⟨vb, 0, none⟩) 1 1) ?hd2 ?hx2 (Hcp2.out _ _) ?_; (case hd2 => simp [Act.eval, Act.put]); (case hx2 => simp [Act.eval, Act.put]))
  go_ret
  obtain ⟨hh, hcur, ht, hw, he, hx⟩ := Hrest.out
  have hil : (ins l i x).length = n + 1 := by rw [ins_len, Hn.out]
  have hh1 : W1.heap[g]? = some (.cells (cur.toList.take ((i + 1) * 2) ++ news ++ cur.toList.drop ((i + 1) * 2 + news.length)).toArray 48 (0, 0)) := by
    rw [HW1.out]
    exact heap_setCells_row news ((i + 1) * 2) cur w.drew hh (by rw [Hdl.out]; omega)
  have hl1 : (cur.toList.take ((i + 1) * 2) ++ news ++ cur.toList.drop ((i + 1) * 2 + news.length)).toArray.size = cap * 2 := by
    rw [size_row _ _ _ _ rfl (by rw [Hdl.out, Array.length_toList]; omega), Array.length_toList, hcur]
  have hh2 := heap_setCells_row c (i * 2) _ W1 hh1 (by rw [hl1, Hc.out]; omega)
  have hs : Same (fun b => From base b ∧ b ≠ g) w (W1.setCells g (i * 2) c) := by
    rw [HW1.out]
    exact Same.setCells (by simp) _ _ (Same.setCells (by simp) _ _ (Same.refl _ _).drew)
  have hbw : Below base w (W1.setCells g (i * 2) c) := by
    rw [HW1.out]
    exact below_setCells' hg _ _ (below_setCells' hg _ _ (Below.refl _ _).drew)
  refine ⟨.slice (some ⟨g, 0, none⟩) (n + 1) cap, rfl, ?_, hbw⟩
  rw [← hil]
  refine Own.mk_row (css := css.take i ++ c :: css.drop i) (wide_ins hw Hc.out i) ((each_ins he hx i).mono fun c' x' h' => hR.same _ _ _ _ _ hs h') hg hh2 (by omega) (by unfold maxLen; omega) ?_ ?_ hR
  · have hc2 := Hc.out
    rw [size_row _ _ _ _ rfl (by rw [hc2]; show i * 2 + 2 ≤ Array.size _; rw [hl1]; omega)]
    exact hl1
  · rw [hil]
    exact ins_cells hw Hcl.out ht (by omega) Hc.out (by rw [Array.length_toList, hcur]; omega) news Hnews.out
set_option maxRecDepth 100000 in
set_option maxHeartbeats 2000000 in
theorem sinsertT_grow {α : Type} {R : (Nat → Prop) → World → List Value → α → Prop} (hR : Stays R) (hone : ∀ S w c x, R S w c x → ∀ u ∈ c, u.oneCell' = true) (w : World) (base : Nat) (l : List α) (i : Nat) (x : α) (g cap : Nat) (vb : Nat) (c : List Value) (T : TypeId)
    (hown : Own 2 R (From base) w base 48 (.slice (some ⟨g, 0, none⟩) l.length cap) l) (hb : base ≤ w.heap.size) (hl : l.length ≤ 100000) (hi : i < l.length) (hroom : ¬ l.length < cap) (hvb : w.heap[vb]? = some (.cells c.toArray T (0, 0))) (hc : c.length = 2) (hx : R (fun b => From base b ∧ b ≠ g) w c x) :
    Calls Tryz.prog 78 #[.slice (some ⟨g, 0, none⟩) l.length cap, .int .i64 i, .slice (some ⟨vb, 0, none⟩) 1 1] w (RetIns R 48 base w (ins l i x)) := by
  obtain ⟨i0, hi0, hz0, hz1, hz2⟩ := info_parts info_ten
  obtain ⟨g', cap', cur, css, hv, hg, hlt, hh, hcap, hmx, hcur, ht, hw, he⟩ := hown.row hR (by omega)
  cases hv
  obtain ⟨n, hn⟩ : ∃ n, n = l.length := ⟨_, rfl⟩
  have hcl : css.length = n := by rw [hn]; exact he.length
  rw [← hn] at hi hroom hcap ht hl ⊢
  obtain rfl : cap = n := by omega
  clear hcap hroom
  have hvlt : vb < w.heap.size := (Array.getElem?_eq_some_iff.1 hvb).1
  have hcells : ∀ j, j < cap * 2 → w.cell? ⟨g, j, none⟩ = css.flatten[j]? := by
    intro j hj
    rw [← ht, List.getElem?_take_of_lt hj, Array.getElem?_toList]
    simp [World.cell?, hh]
  have hfi : css.flatten.take (i * 2) = (css.take i).flatten := flat_take hw i (by omega)
  have hfl : (css.take i).flatten.length = i * 2 := by rw [flat_len (hw.take i), List.length_take]; omega
  have hdf : css.flatten.drop (i * 2) = (css.drop i).flatten := flat_drop hw i (by omega)
  have hdl : (css.drop i).flatten.length = (cap - i) * 2 := by rw [flat_len (hw.drop i), List.length_drop, hcl]
  obtain ⟨news, hnews⟩ : ∃ news, news = (css.drop i).flatten := ⟨_, rfl⟩
  rw [← hnews] at hdf hdl
  have hn1 : ∀ v ∈ news, v.oneCell' = true := by rw [hnews]; exact each_one hone (he.drop i)
  have hc1 : ∀ v ∈ c, v.oneCell' = true := hone _ _ _ _ hx
  have hsz : (Tryz.prog.info? 48).map (·.size) = some 2 := info_size hi0 hz1
  have hold : (Builtin.firstCells i0.size i (.slice (some ⟨g, 0, none⟩) i cap)).run Tryz.prog w.drew = .ok (css.take i).flatten.toArray w.drew := by
    rw [hz1]
    exact run_firstCells_some w.drew 2 i ⟨g, 0, none⟩ i cap _ hfl (fun j v hj => by
      rw [add_at, Nat.zero_add]
      have hjl := (List.getElem?_eq_some_iff.1 hj).1
      show w.cell? _ = _
      rw [hcells j (by omega), ← hj, ← hfi, List.getElem?_take_of_lt (by omega)])
  have hkk : (cap : Int) + 1 - (i : Int) = ((cap + 1 - i : Nat) : Int) := by omega
  have hik : i + (cap + 1 - i) = cap + 1 := by omega
  obtain ⟨G, hG⟩ : ∃ G, G = grownCap w (cap + 1) cap 48 := ⟨_, rfl⟩
  have hGn : cap + 1 ≤ G := by rw [hG]; exact grownCap_ge w _ _ _
  have hG63 : G ≤ maxLen := by
    have := grownCap_le_maxLen w (cap + 1) cap 48 (by unfold maxLen; omega)
    rwa [← hG] at this
  obtain ⟨ROW, hROW⟩ : ∃ ROW : Array Value, ROW = (css.take i).flatten.toArray ++ Builtin.zeroCells (Value.agg #[.slice none 0 0, .slice none 0 0]).cells (cap + 1 - i) ++ Builtin.zeroCells (Value.agg #[.slice none 0 0, .slice none 0 0]).cells (G - (cap + 1)) := ⟨_, rfl⟩
  have hrz : ∀ ty, (Builtin.append_ #[34, 3] ty #[.slice (some ⟨g, 0, none⟩) i cap, .int .i64 ((cap : Int) + 1 - (i : Int))]).run Tryz.prog w = .ok (.slice (some ⟨w.heap.size, 0, none⟩) (cap + 1) G) (w.drew.alloc (.cells ROW 48)) := fun ty => by
    have h := Lib.run_append_grow_zeros (P := Tryz.prog) w 34 3 ty 48 i0 _ .i64 .i64 Tryz.underlying34 Tryz.underlying3 hi0 hz0 (some ⟨g, 0, none⟩) i cap _ hold (cap + 1 - i) (by omega) (by omega) (by omega) (by omega) (by rw [hz2]; omega) (by rw [hz2, hik]; exact growslice_fits (by omega) (by omega))
    rw [hik, ← hG, ← hROW] at h
    rw [hkk]
    exact h
  have hRl : ROW.size = G * 2 := by
    rw [hROW]
    simp only [Array.size_append, List.size_toArray, hfl, size_zeroCells, Value.cells]
    simp
    omega
  have hRt : ROW.toList.take (i * 2) = (css.take i).flatten := by
    rw [hROW, Array.toList_append, Array.toList_append, List.append_assoc]
    show (((css.take i).flatten) ++ _).take (i * 2) = _
    rw [← hfl, List.take_left]
  clear hROW
  obtain ⟨W1, hW1⟩ : ∃ W1, W1 = w.drew.alloc (.cells ROW 48) := ⟨_, rfl⟩
  rw [← hW1] at hrz
  have hrow : W1.heap[w.heap.size]? = some (.cells ROW 48 (0, 0)) := by rw [hW1]; exact heap_alloc_new w.drew _
  have hN : ∀ j, j < G * 2 → (W1.cell? ⟨w.heap.size, j, none⟩).isSome = true := fun j hj => by
    simp [World.cell?, hrow, hRl, hj]
  have hNf : ∀ j, W1.frozen? ⟨w.heap.size, j, none⟩ = false := fun j => by simp [World.frozen?, hrow]
  have hOb : ∀ b j, b < w.heap.size → W1.cell? ⟨b, j, none⟩ = w.cell? ⟨b, j, none⟩ := fun b j h => by rw [hW1, World.cell?_alloc_past (w := w.drew) _ b j h]; rfl
  have hcpA : ∀ (W : World), (∀ x, W.cell? x = W1.cell? x) → (∀ x, W.frozen? x = W1.frozen? x) → ∀ ty dc, (Builtin.copy_ #[34, 34] ty #[.slice (some ⟨w.heap.size, i * 2, none⟩) (cap + 1 - i) dc, .slice (some ⟨vb, 0, none⟩) 1 1]).run Tryz.prog W = .ok (goInt ((1 : Nat) : Int)) (W.setCells w.heap.size (i * 2) c) := fun W hWc hWf ty dc =>
    run_copy_chunks W _ _ ty 48 2 1 w.heap.size (i * 2) (cap + 1 - i) dc ⟨vb, 0, none⟩ 1 1 c Tryz.underlying34 hsz (by simp only [Nat.min_def]; split <;> omega) (by rw [hc])
      (fun j v hj => by rw [add_at, hWc, Nat.zero_add, hOb _ _ hvlt, box_cell hvb, hj])
      (fun j hj => by rw [hWc]; exact hN _ (by omega)) (fun j hj => by rw [hWf]; exact hNf _) hc1
  have hcpB : ∀ (W : World), (∀ x, W.cell? x = (W1.setCells w.heap.size (i * 2) c).cell? x) → (∀ x, W.frozen? x = (W1.setCells w.heap.size (i * 2) c).frozen? x) → ∀ ty dc sc, (Builtin.copy_ #[34, 34] ty #[.slice (some ⟨w.heap.size, (i + 1) * 2, none⟩) (cap - i) dc, .slice (some ⟨g, i * 2, none⟩) (cap - i) sc]).run Tryz.prog W = .ok (goInt ((cap - i : Nat) : Int)) (W.setCells w.heap.size ((i + 1) * 2) news) := fun W hWc hWf ty dc sc =>
    run_copy_chunks W _ _ ty 48 2 (cap - i) w.heap.size ((i + 1) * 2) (cap - i) dc ⟨g, i * 2, none⟩ (cap - i) sc news Tryz.underlying34 hsz (by simp only [Nat.min_def]; split <;> omega) hdl
      (fun j v hj => by
        rw [add_at, hWc, World.cell?_setCells_out _ _ _ _ _ (fun h _ => absurd h (by show ¬ (g = w.heap.size); omega)), hOb _ _ hlt]
        have hjl := (List.getElem?_eq_some_iff.1 hj).1
        rw [hcells (i * 2 + j) (by omega), ← hj, ← hdf, List.getElem?_drop])
      (fun j hj => by rw [hWc]; exact World.isSome_setCells _ _ _ _ _ (hN _ (by omega)))
      (fun j hj => by rw [hWf, World.frozen?_setCells]; exact hNf _) hn1
  have hE : Same (fun b => From base b ∧ b ≠ w.heap.size) w W1 := by rw [hW1]; exact ((Same.refl _ _).drew).alloc _
  have hB : Below base w W1 := by rw [hW1]; exact ((Below.refl _ _).drew).alloc hb _
  have hE1 : ∀ x, ((w.alloc (.cells ROW 48)).drew).cell? x = W1.cell? x := fun x => by rw [hW1]; rfl
  have hE2 : ∀ x, ((w.alloc (.cells ROW 48)).drew).frozen? x = W1.frozen? x := fun x => by rw [hW1]; rfl
  have hWW : W1 = (w.alloc (.cells ROW 48)).drew := by rw [hW1]; rfl
  have HrzA := Lib.hid hrz
  have HcpA := Lib.hid hcpA
  have HcpB := Lib.hid hcpB
  have Hrest := Lib.hid (And.intro hh (And.intro hrow (And.intro hRl (And.intro hRt (And.intro hw (And.intro he (And.intro hx (And.intro hE hB))))))))
  have Hn := Lib.hid hn
  have Hcl := Lib.hid hcl
  have Hnews := Lib.hid hnews
  have Hdl := Lib.hid hdl
  have Hc := Lib.hid hc
  have HE1 := Lib.hid hE1
  have HE2 := Lib.hid hE2
  have HWW := Lib.hid hWW
  have HWd := Lib.hid hW1
  have hG63' : G ≤ 9223372036854775807 := by simp only [maxLen] at hG63; omega
  have HG63 := Lib.hid hG63
  clear hrz hcpA hcpB hown hh hcur ht hw he hx hW1 hn hcl hnews hdl hc hcells hdf hn1 hc1 hsz hvb hrow hRl hRt hN hNf hOb hE hB hE1 hE2 hWW hold hkk hik hfi hfl hlt hG hG63
  have hz2' : ((i : Int) == (cap : Int)) = false := by simp; omega
  have hw0 : IntKind.i64.wrap ((cap : Int) + 1) = (cap : Int) + 1 := by rw [IntKind.wrap_i64]; omega
  have hw1 : IntKind.i64.wrap ((i : Int) + 1) = (i : Int) + 1 := by rw [IntKind.wrap_i64]; omega
  have hw2 : IntKind.i64.wrap ((cap : Int) + 1 - (i : Int)) = (cap : Int) + 1 - (i : Int) := by rw [IntKind.wrap_i64]; omega
  have hb0 : decide ((cap : Int) < (cap : Int) + 1) = true := by simp; omega
  have hb1 : (0 : Int) ≤ (i : Int) + 1 := by omega
  have hin : i ≤ cap := by omega
  have htn : ((i : Int) + 1).toNat = i + 1 := by omega
  have hGi : ¬ (G = i) := by omega
  have hGim : ¬ (G = i + 1) := by omega
  have hci : ¬ (cap = i) := by omega
  have hb3 : (i : Int) ≤ (cap : Int) := by omega
  have hb7 : (i : Int) + 1 ≤ (cap : Int) + 1 := by omega
  go_enter Tryz.func78, Tryz.ntmps78
  go_wp2_with (first
    | (at_builtin; refine Lib.wpList_append_run _ rfl (.tmp 34) (.tmp 39) _ _ rfl _ _ rfl rfl _ _ (HrzA.out _) ?_)
    | (refine wpList_copy_runI _ rfl (.tmp 43) (.tmp 44) 34 34 rfl (.slice (some ⟨w.heap.size, i * 2, none⟩) (cap + 1 - i) (G - i)) (.slice (some ⟨vb, 0, none⟩) 1 1) ?hd1 ?hx1 (HcpA.out _ (fun _ => rfl) (fun _ => rfl) _ _) ?_; (case hd1 => simp [Act.eval, Act.put]); (case hx1 => simp [Act.eval, Act.put])))
  go_region_law ((refine step_copy_runI rfl (.tmp 50) (.tmp 53) 34 34 rfl (.slice (some ⟨w.heap.size, (i + 1) * 2, none⟩) (cap - i) (G - (i + 1))) (.slice (some ⟨g, i * 2, none⟩) (cap - i) (cap - i)) ?hd2 ?hx2 (HcpB.out (W1.setCells w.heap.size (i * 2) c).drew (fun _ => rfl) (fun _ => rfl) _ _ _) ?_); (case hd2 => simp [Act.eval, Act.put]); (case hx2 => simp [Act.eval, Act.put]))
  go_wp2
  go_ret
  obtain ⟨hh, hrow, hRl, hRt, hw, he, hx, hE, hB⟩ := Hrest.out
  have hil : (ins l i x).length = cap + 1 := by rw [ins_len, Hn.out]
  have hc2 := Hc.out
  have hh1 := heap_setCells_row c (i * 2) ROW W1 hrow (by rw [hRl, hc2]; omega)
  have hl1 : (ROW.toList.take (i * 2) ++ c ++ ROW.toList.drop (i * 2 + c.length)).toArray.size = G * 2 := by
    rw [size_row _ _ _ _ rfl (by rw [hc2]; show i * 2 + 2 ≤ ROW.size; rw [hRl]; omega)]
    exact hRl
  have hh2 := heap_setCells_row news ((i + 1) * 2) _ (W1.setCells w.heap.size (i * 2) c).drew hh1 (by rw [hl1, Hdl.out]; omega)
  have hs : Same (fun b => From base b ∧ b ≠ w.heap.size) w ((W1.setCells w.heap.size (i * 2) c).drew.setCells w.heap.size ((i + 1) * 2) news) :=
    Same.setCells (by simp) _ _ (Same.setCells (by simp) _ _ hE).drew
  have hbw : Below base w ((W1.setCells w.heap.size (i * 2) c).drew.setCells w.heap.size ((i + 1) * 2) news) :=
    below_setCells' hb _ _ (below_setCells' hb _ _ hB).drew
  have hrow' : ∀ c' x', R (fun b => From base b ∧ b ≠ g) w c' x' → R (fun b => From base b ∧ b ≠ w.heap.size) ((W1.setCells w.heap.size (i * 2) c).drew.setCells w.heap.size ((i + 1) * 2) news) c' x' := fun c' x' h' =>
    hR.same _ _ _ _ _ hs (hR.less _ _ _ _ _ (fun b hlt hs => ⟨hs.1, by omega⟩) h')
  refine ⟨.slice (some ⟨w.heap.size, 0, none⟩) (cap + 1) G, rfl, ?_, hbw⟩
  rw [← hil]
  refine Own.mk_row (css := css.take i ++ c :: css.drop i) (wide_ins hw hc2 i) ((each_ins he hx i).mono hrow') hb hh2 (by omega) HG63.out ?_ ?_ hR
  · rw [size_row _ _ _ _ rfl (by rw [Hdl.out]; show (i + 1) * 2 + (cap - i) * 2 ≤ Array.size _; rw [hl1]; omega)]
    exact hl1
  · rw [hil]
    exact grow_cells hw Hcl.out hRt (by omega) hc2 (by rw [Array.length_toList, hRl]; omega) news Hnews.out
/-- All roads. -/
theorem sinsertT_ok {α : Type} {R : (Nat → Prop) → World → List Value → α → Prop} (hR : Stays R) (hone : ∀ S w c x, R S w c x → ∀ u ∈ c, u.oneCell' = true) (w : World) (base : Nat) (v : Value) (l : List α) (i : Nat) (x : α) (vb : Nat) (c : List Value) (T : TypeId)
    (hown : Own 2 R (From base) w base 48 v l) (hi : i ≤ l.length) (hb : base ≤ w.heap.size) (hl : l.length ≤ 100000) (hvb : w.heap[vb]? = some (.cells c.toArray T (0, 0))) (hne : v.ownBlock ≠ some vb) (hc : c.length = 2) (hx : R (fun b => From base b ∧ v.ownBlock ≠ some b) w c x) :
    Calls Tryz.prog 78 #[v, .int .i64 i, .slice (some ⟨vb, 0, none⟩) 1 1] w (RetIns R 48 base w (ins l i x)) := by
  rcases Nat.lt_or_ge i l.length with h | h
  · obtain ⟨g, cap, cur, css, rfl, _⟩ := hown.row hR (by omega)
    have hx' : R (fun b => From base b ∧ b ≠ g) w c x := hR.less _ _ _ _ _ (fun b _ hs => ⟨hs.1, fun e => hs.2 (by simp [Value.ownBlock, e])⟩) hx
    by_cases hroom : l.length < cap
    · exact sinsertT_room hR hone w base l i x g cap vb c T hown h hroom hvb hc (fun e => hne (by simp [Value.ownBlock, e])) hx'
    · exact sinsertT_grow hR hone w base l i x g cap vb c T hown hb hl h hroom hvb hc hx'
  · obtain rfl : i = l.length := by omega
    have e : ins l l.length x = l ++ [x] := by simp [ins]
    rw [e]
    exact sinsertT_end hR hone w base v l x vb c T hown hb hl hvb hc hx
end Go.Proofs.YthohkgggodhbcaaGreat
namespace Go.Proofs.YthohkgggodhbcaaGreat
open Go.RowKit
set_option linter.unusedVariables false
set_option linter.unusedSimpArgs false

theorem zero_ten (w : World) : (zeroValue 48).run Tryz.prog w = .ok (.agg #[.slice none 0 0, .slice none 0 0]) w := by
  obtain ⟨i0, hi0, hz0, _, _⟩ := info_parts info_ten
  simp [zeroValue, typeInfo, hi0, hz0]
theorem tenR_one : ∀ S w c x, TenR S w c x → ∀ u ∈ c, u.oneCell' = true := by
  rintro S w c x ⟨A, c1, B, d, rfl, _⟩ u hu
  simp only [List.mem_cons, List.not_mem_nil, or_false] at hu
  rcases hu with e | e <;> rw [e] <;> rfl
theorem ownT_one {S : Nat → Prop} {w : World} {l : List Tn} {xs : List Value} (hl : xs.length = l.length * 2) (h : ∀ i (h : i < l.length), TenR S w ((xs.drop (i * 2)).take 2) l[i]) : ∀ u ∈ xs, u.oneCell' = true := by
  intro u hu
  obtain ⟨j, hj, rfl⟩ := List.mem_iff_getElem.1 hu
  obtain ⟨A, c, V, d, hcs, _⟩ := h (j / 2) (by omega)
  have hin : xs[j] ∈ (xs.drop (j / 2 * 2)).take 2 := by
    refine List.mem_iff_getElem?.2 ⟨j % 2, ?_⟩
    rw [List.getElem?_take_of_lt (by omega), List.getElem?_drop, show j / 2 * 2 + j % 2 = j by omega, List.getElem?_eq_getElem hj]
  rw [hcs] at hin
  simp only [List.mem_cons, List.not_mem_nil, or_false] at hin
  rcases hin with e | e <;> rw [e] <;> rfl
set_option maxRecDepth 1000000 in
set_option maxHeartbeats 1600000 in
theorem sdeleteT_ok (w : World) (base : Nat) (v : Value) (l : List Tn) (i : Nat) (hown : Own 2 TenR (From base) w base 48 v l) (hi : i < l.length) :
    Calls Tryz.prog 77 #[v, .int .i64 i, .int .i64 (i + 1)] w (RetIns TenR 48 base w (l.take i ++ l.drop (i + 1))) := by
  obtain ⟨i0, hi0, hz0, hz1, hz2⟩ := info_parts info_ten
  have Hw := Lib.hid hown
  obtain ⟨xs, hrow, hels⟩ := hown
  obtain ⟨hxl, hr⟩ := hrow
  rcases hr with ⟨_, h0⟩ | ⟨g, cap, cur, rfl, hg, hheap, hcap, hmx, hcur, htake⟩
  · omega
  have hglt : g < w.heap.size := (Array.getElem?_eq_some_iff.1 hheap).1
  obtain ⟨n, hn⟩ : ∃ n, n = l.length := ⟨_, rfl⟩
  rw [← hn] at hi hxl hcap htake
  have hcell : ∀ j, j < 2 * n → w.cell? ⟨g, j, none⟩ = xs[j]? := by
    intro j hj
    rw [← htake, List.getElem?_take_of_lt (by omega), Array.getElem?_toList]
    simp [World.cell?, hheap]
  have hfroz : ∀ j, w.frozen? ⟨g, j, none⟩ = false := by
    intro j
    simp [World.frozen?, hheap]
  obtain ⟨news, hnews⟩ : ∃ news, news = xs.drop (2 * (i + 1)) := ⟨_, rfl⟩
  have hnl : news.length = (n - (i + 1)) * 2 := by rw [hnews, List.length_drop, hxl]; omega
  obtain ⟨A, hA, hAc⟩ : ∃ A, (if cap = i + 1 then some (⟨g, 0, none⟩ : Addr) else some ⟨g, (i + 1) * 2, none⟩) = some A ∧ Hid (∀ j u, news[j]? = some u → w.drew.cell? (A.add j) = some u) := by
    by_cases hc : cap = i + 1
    · refine ⟨_, by rw [if_pos hc], ?_⟩
      intro j u hu
      have := (List.getElem?_eq_some_iff.1 hu).1
      omega
    · refine ⟨_, by rw [if_neg hc], ?_⟩
      intro j u hu
      have hj := (List.getElem?_eq_some_iff.1 hu).1
      rw [hnews, List.getElem?_drop] at hu
      rw [add_at]
      exact (hcell ((i + 1) * 2 + j) (by omega)).trans (by rw [← hu]; congr 1; omega)
  have S1 := Lib.hid hnl
  have S2 : Hid (∀ u ∈ news, u.oneCell' = true) := by
    intro u hu
    rw [hnews] at hu
    exact ownT_one (by rw [hxl, hn]) hels u (List.mem_of_mem_drop hu)
  have S3 : Hid (∀ j, j < news.length → (w.drew.cell? ⟨g, 0 + i * 2 + j, none⟩).isSome = true ∧ w.drew.frozen? ⟨g, 0 + i * 2 + j, none⟩ = false) := by
    intro j hj
    refine ⟨?_, hfroz _⟩
    have := hcell (i * 2 + j) (by omega)
    show (w.cell? _).isSome = true
    rw [Nat.zero_add, this, List.getElem?_eq_getElem (by omega)]
    rfl
  have hwr : IntKind.i64.wrap ((i : Int) + 1) = (i : Int) + 1 := by rw [IntKind.wrap_i64]; simp only [maxLen] at hmx; omega
  have hp0 : (0 : Int) ≤ (i : Int) + 1 := by omega
  have hp1 : (i : Int) + 1 ≤ (n : Int) := by omega
  have hp2 : ((i : Int) + 1).toNat = i + 1 := by omega
  have hp3 : ((i : Int) == (i : Int) + 1) = false := by simp; omega
  have hic : i ≤ cap := by omega
  have Hels := Lib.hid hels
  have Hheap := Lib.hid hheap
  have Hcell := Lib.hid hcell
  have Hfroz := Lib.hid hfroz
  have Htake := Lib.hid htake
  have Hnews := Lib.hid hnews
  have Hmx := Lib.hid hmx
  have Hcur := Lib.hid hcur
  have hcap' : n ≤ cap := hcap
  clear hels hheap hcell hfroz htake hnews hmx hcur hnl
  rw [← hn]
  have Hn := Lib.hid hn
  clear hn
  go_enter Tryz.func77, Tryz.ntmps77
  go_wp2_with fail
  go_region_law (refine step_append_room rfl (.tmp 22) (.tmp 25) 34 rfl 48 i0 2 Tryz.underlying34 hi0 hz1 g 0 i cap (by simp [Act.eval, Act.put]) A (n - (i + 1)) (cap - (i + 1)) news (by simp [Act.eval, Act.put]; try assumption) S1.out hAc.out S2.out (by omega) S3.out ?_)
  have Hc2 : Hid (∀ j, j < [Value.slice none 0 0, Value.slice none 0 0].length → (((w.drew.setCells g (i * 2) news)).cell? ⟨g, (i + (n - (i + 1))) * 2 + j, none⟩).isSome = true) := by
    intro j hj
    have hj2 : j < 2 := hj
    refine World.isSome_setCells g news _ _ _ ?_
    show (w.cell? _).isSome = true
    rw [Hcell.out _ (by omega), List.getElem?_eq_getElem (by omega)]
    rfl
  have Hf2 : Hid (∀ j, j < [Value.slice none 0 0, Value.slice none 0 0].length → (((w.drew.setCells g (i * 2) news)).frozen? ⟨g, (i + (n - (i + 1))) * 2 + j, none⟩) = false) := by
    intro j _
    rw [World.frozen?_setCells]
    exact Hfroz.out _
  go_wp2_with (refine wpl_clear rfl _ _ rfl 48 _ [.slice none 0 0, .slice none 0 0] Tryz.underlying34 zero_ten rfl (by simp [Value.oneCell']) g ((i + (n - (i + 1))) * 2) (cap - (i + (n - (i + 1)))) ?hx Hc2.out Hf2.out ?_; (case hx => simp [Act.eval]; omega))
  go_ret
  obtain ⟨g', cap', cur', css, hv', hg', hglt', hh', hcap2, hmx2, hcur2, ht2, hw2, he2⟩ := Hw.out.row tenR_stays (by rw [← Hn.out]; omega)
  cases hv'
  have ecur : cur' = cur := by have := hh'.symm.trans Hheap.out; injection this with this; injection this
  subst ecur
  rw [← Hn.out] at ht2 hcap2
  have hcl : css.length = n := by rw [Hn.out]; exact he2.length
  have hxs : xs = css.flatten := by rw [← Htake.out, ht2]
  have hnw : news = (css.drop (i + 1)).flatten := by rw [Hnews.out, hxs, Nat.mul_comm 2 (i + 1)]; exact flat_drop hw2 (i + 1) (by omega)
  have hcs := Hcur.out
  have hh1 := heap_setCells_row news (i * 2) cur' w.drew hh' (by rw [S1.out]; omega)
  have hl1 : (cur'.toList.take (i * 2) ++ news ++ cur'.toList.drop (i * 2 + news.length)).toArray.size = cap * 2 := by
    rw [size_row _ _ _ _ rfl (by rw [S1.out]; show i * 2 + (n - (i + 1)) * 2 ≤ Array.size _; omega)]
    exact hcs
  have hh2 := heap_setCells_row [.slice none 0 0, .slice none 0 0] ((i + (n - (i + 1))) * 2) _ (w.drew.setCells g (i * 2) news) hh1 (by rw [hl1]; show (i + (n - (i + 1))) * 2 + 2 ≤ _; omega)
  have hbw : Below base w ((w.drew.setCells g (i * 2) news).setCells g ((i + (n - (i + 1))) * 2) [.slice none 0 0, .slice none 0 0]) := below_setCells' hg _ _ (below_setCells' hg _ _ (Below.refl _ _).drew)
  have hs : Same (fun b => From base b ∧ b ≠ g) w ((w.drew.setCells g (i * 2) news).setCells g ((i + (n - (i + 1))) * 2) [.slice none 0 0, .slice none 0 0]) :=
    Same.setCells (by simp) _ _ (Same.setCells (by simp) _ _ (Same.refl _ _).drew)
  have hll : (l.take i ++ l.drop (i + 1)).length = i + (n - (i + 1)) := by rw [List.length_append, List.length_take, List.length_drop, ← Hn.out]; omega
  generalize (w.drew.setCells g (i * 2) news).setCells g ((i + (n - (i + 1))) * 2) [.slice none 0 0, .slice none 0 0] = WW at hbw hs hh2 ⊢
  refine ⟨.slice (some ⟨g, 0, none⟩) (i + (n - (i + 1))) cap, rfl, ?_, hbw⟩
  rw [← hll]
  refine Own.mk_row (css := css.take i ++ css.drop (i + 1)) ((hw2.take i).append (hw2.drop (i + 1))) ((Each.append (he2.drop (i + 1)) (he2.take i)).mono fun c' x' h' => tenR_stays.same _ _ _ _ _ hs h') hg hh2 (by omega) hmx2 ?_ ?_ tenR_stays
  · rw [size_row _ _ _ _ rfl (by show (i + (n - (i + 1))) * 2 + 2 ≤ Array.size _; rw [hl1]; omega)]
    exact hl1
  · rw [hll]
    have hf1 : (css.take i).flatten.length = i * 2 := by rw [flat_len (hw2.take i), List.length_take]; omega
    have e1 : cur'.toList.take (i * 2) = (css.take i).flatten := by rw [← flat_take hw2 i (by omega), ← ht2, List.take_take, Nat.min_eq_left (by omega)]
    have e2 : ((css.take i).flatten ++ news).length = (i + (n - (i + 1))) * 2 := by rw [List.length_append, hf1, S1.out]; omega
    show ((((cur'.toList.take (i * 2) ++ news ++ cur'.toList.drop (i * 2 + news.length))).take ((i + (n - (i + 1))) * 2) ++ _ ++ _).take _) = _
    rw [e1, List.flatten_append, ← hnw, ← e2, List.take_left, List.append_assoc ((css.take i).flatten ++ news), List.take_left]
end Go.Proofs.YthohkgggodhbcaaGreat
namespace Go.Proofs.YthohkgggodhbcaaGreat
open Go.RowKit
set_option linter.unusedVariables false
set_option linter.unusedSimpArgs false

theorem Own.put_row {α : Type} {size : Nat} {R : (Nat → Prop) → World → List Value → α → Prop} {S : Nat → Prop} {w W : World} {base : Nat} {e : TypeId} {l : List α} {g cap : Nat} {cur : Array Value} {css : List (List Value)} (hR : Stays R) (hg : base ≤ g) (hcap : l.length ≤ cap) (hmx : cap ≤ maxLen) (hcur : cur.size = cap * size) (ht : cur.toList.take (l.length * size) = css.flatten) (hw : Wide size css) (he : Each (R (fun b => S b ∧ b ≠ g) w) css l)
    {i : Nat} (hi : i < l.length) {c : List Value} (hc : c.length = size) {x : α} (hx : R (fun b => S b ∧ b ≠ g) w c x) (hs : Same (fun b => S b ∧ b ≠ g) w W) (hh' : W.heap[g]? = some (.cells (cur.toList.take (i * size) ++ c ++ cur.toList.drop (i * size + c.length)).toArray e (0, 0))) :
    Own size R S W base e (.slice (some ⟨g, 0, none⟩) l.length cap) (l.set i x) := by
  have hcl := he.length
  have hil : (i + 1) * size ≤ l.length * size := Nat.mul_le_mul_right _ hi
  have hll : l.length * size ≤ cap * size := Nat.mul_le_mul_right _ hcap
  rw [Nat.add_mul, Nat.one_mul] at hil
  have hl' : (l.set i x).length = l.length := List.length_set
  rw [← hl']
  refine Own.mk_row (css := css.set i c) ?_ ((he.set hx i).mono fun c' x' hx' => hR.same _ _ _ _ _ hs hx') hg hh' (by rw [hl']; exact hcap) hmx ?_ ?_ hR
  · intro c' hc'
    rcases List.mem_or_eq_of_mem_set hc' with h1 | h1
    · exact hw c' h1
    · rw [h1]; exact hc
  · simp only [List.size_toArray, List.length_append, List.length_take, List.length_drop, Array.length_toList, hc]
    omega
  · rw [hl']
    have ecss : css.set i c = css.take i ++ c :: css.drop (i + 1) := List.set_eq_take_append_cons_drop.trans (by rw [if_pos (by omega)])
    have e1 : cur.toList.take (i * size) = (css.take i).flatten := by
      rw [← flat_take hw i (by omega), ← ht, List.take_take, Nat.min_eq_left (by omega)]
    have e2 : (cur.toList.drop (i * size + c.length)).take (l.length * size - (i * size + c.length)) = (css.drop (i + 1)).flatten := by
      rw [← flat_drop hw (i + 1) (by omega), ← ht, List.drop_take, hc, Nat.add_mul, Nat.one_mul]
    rw [ecss, List.flatten_append, List.flatten_cons, ← e1, ← e2, List.append_assoc, List.take_append, List.take_append]
    simp only [List.length_take, Array.length_toList]
    rw [List.take_take]
    congr 1
    · congr 1; omega
    · congr 1
      · rw [List.take_of_length_le (by rw [hc]; omega)]
      · congr 1; omega
/-- One cell of one chunk is written anew. -/
theorem Own.put1 {α : Type} {size : Nat} {R : (Nat → Prop) → World → List Value → α → Prop} {S : Nat → Prop} {w : World} {base : Nat} {e : TypeId} {l : List α} {g cap : Nat} (hR : Stays R) (h : Own size R S w base e (.slice (some ⟨g, 0, none⟩) l.length cap) l)
    {i j : Nat} (hi : i < l.length) (hj : j < size) (u : Value) {x : α} (hx : ∀ c, R (fun b => S b ∧ b ≠ g) w c l[i] → R (fun b => S b ∧ b ≠ g) w (c.set j u) x) : Own size R S (w.setCell ⟨g, i * size + j, none⟩ u) base e (.slice (some ⟨g, 0, none⟩) l.length cap) (l.set i x) := by
  obtain ⟨g', cap', cur, css, hv, hg, hlt, hh, hcap, hmx, hcur, ht, hw, he⟩ := h.row hR (by omega)
  cases hv
  have hic : i < css.length := by rw [he.length]; exact hi
  have hci : css[i].length = size := hw _ (List.getElem_mem hic)
  have hil : (i + 1) * size ≤ l.length * size := Nat.mul_le_mul_right _ hi
  have hll : l.length * size ≤ cap * size := Nat.mul_le_mul_right _ hcap
  rw [Nat.add_mul, Nat.one_mul] at hil
  have hsplit : cur.toList = cur.toList.take (i * size) ++ (css[i] ++ cur.toList.drop (i * size + size)) := by
    have e1 : css[i] = (cur.toList.drop (i * size)).take size := by
      rw [← flat_at hw i hic, ← ht, List.drop_take, List.take_take, Nat.min_eq_left (by omega)]
    rw [e1, ← List.drop_drop, List.take_append_drop, List.take_append_drop]
  have htl : (cur.toList.take (i * size)).length = i * size := by rw [List.length_take, Array.length_toList]; omega
  refine Own.put_row hR hg hcap hmx hcur ht hw he hi (c := css[i].set j u) (by rw [List.length_set]; exact hci) (hx _ (he.get i hic hi)) ((Same.refl _ _).setCell (by simp) _) ?_
  rw [heap_setCell_same w g _ cur e u hh]
  congr 2
  apply Array.ext'
  rw [Array.toList_setIfInBounds]
  rw [List.length_set, hci]
  show cur.toList.set (i * size + j) u = cur.toList.take (i * size) ++ css[i].set j u ++ cur.toList.drop (i * size + size)
  conv => lhs; rw [hsplit]
  rw [List.set_append, if_neg (by rw [htl]; omega), htl, Nat.add_sub_cancel_left, List.set_append, if_pos (by rw [hci]; exact hj), List.append_assoc]

/-- What write answers: its tenants are in a row of the caller's own. -/
def RetWrite (base : Nat) (w : World) (r : List Tn × Int) (e : Ending) (w' : World) : Prop :=
  ∃ v', e = .returned (.tuple #[v', .int .i64 r.2]) ∧ (r.2 = 0 → Own 2 TenR (From base) w' base 48 v' r.1) ∧ Below base w w'

set_option maxRecDepth 100000 in
set_option maxHeartbeats 4000000 in
theorem forestWrite_ok (w : World) (base : Nat) (v : Value) (l : List Tn) (P Q V : Option Addr) (x : Wr) (a b d : Nat) (hown : Own 2 TenR (From base) w base 48 v l) (hb : base ≤ w.heap.size) (hf : Fine l) (hp1 : Bs All w P x.name) (hp2 : Bs All w Q x.key) (hp3 : Bs All w V x.value) (g1 : x.name.length ≤ big) :
    Calls Tryz.prog 54 #[v, .agg #[.slice P x.name.length a, .slice Q x.key.length b, .bool x.flag, .slice V x.value.length d]] w (RetWrite base w (writeS l x)) := by
  obtain ⟨A, c, hv, hcap, hsl⟩ := hown.readc tenR_stays
  subst hv
  obtain ⟨hl8, hl0, hrise⟩ := (ten_fault_iff l).1 hf
  have Hf := Lib.hid hf
  have Hown := Lib.hid hown
  have Hsl := Lib.hid hsl
  have Hr := Lib.hid hrise
  have Hp1 := Lib.hid hp1
  have Hp2 := Lib.hid hp2
  have Hp3 := Lib.hid hp3
  have Hb0 := Lib.hid (show ∀ W, Below (w.heap.size + 1) (w.alloc (.cells #[.slice P x.name.length a, .slice Q x.key.length b, .bool x.flag, .slice V x.value.length d] 40)) W → W.heap[w.heap.size]? = some (.cells #[.slice P x.name.length a, .slice Q x.key.length b, .bool x.flag, .slice V x.value.length d] 40 (0, 0)) ∧ Below w.heap.size w W ∧ w.heap.size < W.heap.size from fun W hW => ⟨(hW.block _ (by omega)).trans (box_new w _ _), ((Below.refl w.heap.size w).alloc (Nat.le_refl _) _).trans (hW.mono (by omega)), by have := hW.size; simp at this; omega⟩)
  clear hf hown hsl hrise hp1 hp2 hp3 hl0
  by_cases hn : nameFault x.name = 0
  rotate_left
  · have b1 : (nameFault x.name != 0) = true := by simpa using hn
    have Hv := Lib.hid (writeS_name (l := l) hn)
    have Hn := Lib.hid hn
    clear hn
    go_enter Tryz.func54, Tryz.ntmps54
    go_wp2_with (go_at_call 45; refine (forestName_ok _ P x.name a).mono ?_; rintro e w1 ⟨rfl, rfl⟩)
    go_ret2
    rw [Hv.out]
    exact ⟨_, rfl, fun h => absurd h Hn.out, (Below.refl _ _).alloc hb _⟩
  have b1 : (nameFault x.name != 0) = false := by simp [hn]
  have Hn := Lib.hid hn
  obtain ⟨nx, hnx⟩ : ∃ nx, nx = nextS (pairsOfS l x.name) x := ⟨_, rfl⟩
  have Hnx := Lib.hid hnx
  have hn60 : nx.1.length ≤ 60 := by rw [hnx]; exact nextS_len _ _
  clear hn hnx
  go_enter Tryz.func54, Tryz.ntmps54
  go_wp2_with (go_at_call 45; refine (forestName_ok _ P x.name a).mono ?_; rintro e w1 ⟨rfl, rfl⟩)
  refine (forestFind_ok _ A l c P x.name a ((Hsl.out.z tenR_stays).below tenR_stays ?_) (Hp1.out.bbelow ?_) (by omega) Hr.out).mono ?_
  · repeat' (first | exact Below.refl _ _ | assumption | refine Below.drew ?_ | refine below_drewN ?_ _ | refine Below.alloc ?_ (by first | exact Nat.le_refl _ | omega | (simp; done) | (simp; omega)) _)
  · repeat' (first | exact Below.refl _ _ | assumption | refine Below.drew ?_ | refine below_drewN ?_ _ | refine Below.alloc ?_ (by first | exact Nat.le_refl _ | omega | (simp; done) | (simp; omega)) _)
  rintro e w2 ⟨i, rfl, hat, hb2'⟩
  have hb2 : Below (w.heap.size + 1) (w.alloc (.cells #[.slice P x.name.length a, .slice Q x.key.length b, .bool x.flag, .slice V x.value.length d] 40)) w2 := hb2'.mono (by simp)
  have Hb2 := Lib.hid hb2
  have Hw2 := Lib.hid (Hb0.out w2 hb2).2.1
  have hz2 := (Hb0.out w2 hb2).2.2
  have Hown2 := Lib.hid (Hown.out.below tenR_stays Hw2.out)
  have Hsl2 := Lib.hid ((Hsl.out.z tenR_stays).below tenR_stays Hw2.out)
  have Hat := Lib.hid hat
  clear hb2 hb2' hat b1
  by_cases hfd : (keys l)[i]? = some x.name
  · rw [decide_eq_true hfd]
    have hik : i < (keys l).length := by
      rcases Nat.lt_or_ge i (keys l).length with h | h
      · exact h
      · rw [List.getElem?_eq_none h] at hfd; cases hfd
    have hil : i < l.length := by simpa [keys] using hik
    have hli : l[i].1 = x.name := by
      rw [List.getElem?_eq_getElem hik, keys_at] at hfd
      exact Option.some.inj hfd
    have Hli := Lib.hid hli
    have Hold := Lib.hid (show pairsOfS l x.name = l[i].2 by simp only [pairsOfS, find_at Hr.out hil hli]; rfl)
    obtain ⟨ab, ao, K0, c0, V0, d0, hA, _, hal, hc1, hc2, hs1, hs2, _, hbb, hbc⟩ := tens_at Hsl2.out hil
    subst hA
    obtain ⟨g, cap, cur, css, hvv, hge, hglt, hh, hcap', hmx, hcur, _⟩ := Hown2.out.row tenR_stays (by omega)
    cases hvv
    simp only [Nat.zero_add] at hc1 hc2
    have Hs2 := Lib.hid hs2
    have Hst := Lib.hid (show ∀ W, Below w2.heap.size w2 W → (∃ u, W.cell? ⟨ab, i * 2 + 1, none⟩ = some u) ∧ W.frozen? ⟨ab, i * 2 + 1, none⟩ = false from fun W hW => by
      have hh' := (hW.block ab hglt).trans hh
      refine ⟨⟨cur[i * 2 + 1]'(by omega), ?_⟩, frozen_of_row W ab _ cur _ hh'⟩
      rw [cell_of_row W ab _ cur _ _ hh', Array.getElem?_eq_getElem])
    have hi0 : (0 : Int) ≤ (i : Int) := by omega
    have hi1 : (i : Int) < (l.length : Int) := by omega
    clear hfd hik hli hs1 hs2 hh hcur hmx
    rcases Bool.eq_false_or_eq_true x.flag with hfl | hfl
    · have Hfl := Lib.hid hfl
      obtain ⟨q0, q1, q2, q3, _⟩ := box4 (Hb0.out w2 Hb2.out).1
      rw [hfl] at q2
      clear hfl
      have HN := Lib.hid (show delS l[i].2 x.key = nx by rw [Hnx.out, Hold.out]; unfold nextS; rw [if_pos Hfl.out])
      by_cases hne : nx.2 = 0
      rotate_left
      · have c1 : (nx.2 == 0) = false := by simpa using hne
        have c2 : (nx.2 != 0) = true := by simpa using hne
        have Hbad := Lib.hid (show progE (pairsOfS l x.name) x = nx.2 by unfold progE; rw [← Hnx.out, if_neg (fun h => hne h.2.1)])
        have Hne := Lib.hid (show progE (pairsOfS l x.name) x ≠ 0 by rw [Hbad.out]; first | exact hne | decide)
        have Hv := Lib.hid (progE_bad Hf.out Hn.out Hne.out)
        try clear hne
        go_wp2_with ((go_at_call 75; refine (treeDelete_ok _ V0 l[i].2 d0 Q x.key b (Hs2.out.z pairR_stays) (Hp2.out.bbelow Hw2.out)).mono ?_; rintro e w3 ⟨A3, c9, rfl, hcap3, hs3, hb3⟩; rw [HN.out] at hcap3 hs3 ⊢; have hb3w := Hb2.out.next hb3 (by omega); obtain ⟨r0, r1, r2, r3, _⟩ := box4 (Hb0.out w3 hb3w).1))
        go_ret2
        rw [Hv.out, Hbad.out]
        exact ⟨_, rfl, fun h => absurd h (by have := Hne.out; rw [Hbad.out] at this; exact this), (Hw2.out.mono hb).trans (hb3.mono (by omega))⟩
      have c1 : (nx.2 == 0) = true := by simp [hne]
      have c2 : (nx.2 != 0) = false := by simp [hne]
      by_cases hv0 : 0 < x.value.length
      · have hne4 := hne
        have Hbad := Lib.hid (show progE (pairsOfS l x.name) x = 4 by unfold progE; rw [← Hnx.out, if_pos ⟨Hfl.out, hne, hv0⟩])
        have Hne := Lib.hid (show progE (pairsOfS l x.name) x ≠ 0 by rw [Hbad.out]; first | exact hne | decide)
        have Hv := Lib.hid (progE_bad Hf.out Hn.out Hne.out)
        try clear hne
        go_wp2_with ((go_at_call 75; refine (treeDelete_ok _ V0 l[i].2 d0 Q x.key b (Hs2.out.z pairR_stays) (Hp2.out.bbelow Hw2.out)).mono ?_; rintro e w3 ⟨A3, c9, rfl, hcap3, hs3, hb3⟩; rw [HN.out] at hcap3 hs3 ⊢; have hb3w := Hb2.out.next hb3 (by omega); obtain ⟨r0, r1, r2, r3, _⟩ := box4 (Hb0.out w3 hb3w).1))
        go_ret2
        rw [Hv.out, Hbad.out]
        exact ⟨_, rfl, fun h => absurd h (by have := Hne.out; rw [Hbad.out] at this; exact this), (Hw2.out.mono hb).trans (hb3.mono (by omega))⟩
      have Hgood := Lib.hid (show progE (pairsOfS l x.name) x = 0 by unfold progE; rw [← Hnx.out, if_neg (fun h => hv0 h.2.2)]; exact hne)
      have Hnx0 := Lib.hid hne
      clear hne
      by_cases hz : nx.1.length = 0
      · have d1 : ((nx.1.length : Int) == 0) = true := by rw [beq_iff_eq]; omega
        have Hv := Lib.hid (writeS_cut Hf.out Hn.out Hgood.out hil Hli.out (by rw [← Hnx.out]; exact hz))
        have hwi : IntKind.i64.wrap ((i : Int) + 1) = (i : Int) + 1 := by rw [IntKind.wrap_i64]; omega
        clear hz
        go_wp2_with (first
          | (go_at_call 75; refine (treeDelete_ok _ V0 l[i].2 d0 Q x.key b (Hs2.out.z pairR_stays) (Hp2.out.bbelow Hw2.out)).mono ?_; rintro e w3 ⟨A3, c9, rfl, hcap3, hs3, hb3⟩; rw [HN.out] at hcap3 hs3 ⊢; have hb3w := Hb2.out.next hb3 (by omega); obtain ⟨r0, r1, r2, r3, _⟩ := box4 (Hb0.out w3 hb3w).1)
          | (go_at_call 77; refine (sdeleteT_ok _ base _ l i (Hown2.out.below tenR_stays hb3) hil).mono ?_; rintro e w4 ⟨v4, rfl, hown4, hb4⟩; have Hown4 := Lib.hid hown4; clear hown4))
        go_ret2
        rw [Hv.out]
        exact ⟨_, rfl, fun _ => Hown4.out, ((Hw2.out.mono hb).trans (hb3.mono (by omega))).trans hb4⟩
      · have d1 : ((nx.1.length : Int) == 0) = false := by rw [beq_eq_false_iff_ne]; omega
        have Hv := Lib.hid (show writeS l x = (l.set i (x.name, nx.1), 0) by have := writeS_set Hf.out Hn.out Hgood.out hil Hli.out (by rw [← Hnx.out]; exact hz); rwa [← Hnx.out] at this)
        clear hz
        go_wp2_with ((go_at_call 75; refine (treeDelete_ok _ V0 l[i].2 d0 Q x.key b (Hs2.out.z pairR_stays) (Hp2.out.bbelow Hw2.out)).mono ?_; rintro e w3 ⟨A3, c9, rfl, hcap3, hs3, hb3⟩; rw [HN.out] at hcap3 hs3 ⊢; have hb3w := Hb2.out.next hb3 (by omega); obtain ⟨r0, r1, r2, r3, _⟩ := box4 (Hb0.out w3 hb3w).1; obtain ⟨⟨u1, hu1⟩, hf1⟩ := Hst.out w3 hb3))
        go_ret2
        rw [Hv.out]
        have hown5 := Own.put1 tenR_stays (Hown2.out.below tenR_stays hb3) hil (j := 1) (by omega) (.slice A3 nx.1.length c9) (x := (x.name, nx.1)) (fun cs h => by
          obtain ⟨A', c', B', d', rfl, k1, _, k3, _, _⟩ := h
          refine ⟨A', c', A3, c9, by rw [Hli.out]; rfl, by rw [← Hli.out]; exact k1, hs3.less pairR_stays (fun bb _ h => ⟨by have h' := h; simp only [From] at h' ⊢; omega, by have h' := h; simp only [From] at h'; omega⟩), by rw [← Hli.out]; exact k3, by show nx.1.length * 48 ≤ _; omega, hcap3⟩)
        exact ⟨_, rfl, fun _ => by simpa using hown5, ((Hw2.out.mono hb).trans (hb3.mono (by omega))).setCell (by simp only []; omega) _⟩
    · have Hfl := Lib.hid hfl
      obtain ⟨q0, q1, q2, q3, _⟩ := box4 (Hb0.out w2 Hb2.out).1
      rw [hfl] at q2
      clear hfl
      have HN := Lib.hid (show putS l[i].2 (x.key, x.value) = nx by rw [Hnx.out, Hold.out]; unfold nextS; rw [if_neg (by rw [Hfl.out]; decide)])
      by_cases hne : nx.2 = 0
      rotate_left
      · have c1 : (nx.2 == 0) = false := by simpa using hne
        have c2 : (nx.2 != 0) = true := by simpa using hne
        have Hbad := Lib.hid (show progE (pairsOfS l x.name) x = nx.2 by unfold progE; rw [← Hnx.out, if_neg (fun h => hne h.2.1)])
        have Hne := Lib.hid (show progE (pairsOfS l x.name) x ≠ 0 by rw [Hbad.out]; first | exact hne | decide)
        have Hv := Lib.hid (progE_bad Hf.out Hn.out Hne.out)
        try clear hne
        go_wp2_with ((go_at_call 76; refine (treePut_ok _ V0 l[i].2 d0 Q V (x.key, x.value) b d (Hs2.out.z pairR_stays) (Hp2.out.bbelow Hw2.out) (Hp3.out.bbelow Hw2.out)).mono ?_; rintro e w3 ⟨A3, c9, rfl, hcap3, hs3, hb3⟩; rw [HN.out] at hcap3 hs3 ⊢; have hb3w := Hb2.out.next hb3 (by omega); obtain ⟨r0, r1, r2, r3, _⟩ := box4 (Hb0.out w3 hb3w).1))
        go_ret2
        rw [Hv.out, Hbad.out]
        exact ⟨_, rfl, fun h => absurd h (by have := Hne.out; rw [Hbad.out] at this; exact this), (Hw2.out.mono hb).trans (hb3.mono (by omega))⟩
      have c1 : (nx.2 == 0) = true := by simp [hne]
      have c2 : (nx.2 != 0) = false := by simp [hne]
      have Hgood := Lib.hid (show progE (pairsOfS l x.name) x = 0 by unfold progE; rw [← Hnx.out, if_neg (fun h => by rw [Hfl.out] at h; exact absurd h.1 (by decide))]; exact hne)
      have Hnx0 := Lib.hid hne
      clear hne
      by_cases hz : nx.1.length = 0
      · have d1 : ((nx.1.length : Int) == 0) = true := by rw [beq_iff_eq]; omega
        have Hv := Lib.hid (writeS_cut Hf.out Hn.out Hgood.out hil Hli.out (by rw [← Hnx.out]; exact hz))
        have hwi : IntKind.i64.wrap ((i : Int) + 1) = (i : Int) + 1 := by rw [IntKind.wrap_i64]; omega
        clear hz
        go_wp2_with (first
          | (go_at_call 76; refine (treePut_ok _ V0 l[i].2 d0 Q V (x.key, x.value) b d (Hs2.out.z pairR_stays) (Hp2.out.bbelow Hw2.out) (Hp3.out.bbelow Hw2.out)).mono ?_; rintro e w3 ⟨A3, c9, rfl, hcap3, hs3, hb3⟩; rw [HN.out] at hcap3 hs3 ⊢; have hb3w := Hb2.out.next hb3 (by omega); obtain ⟨r0, r1, r2, r3, _⟩ := box4 (Hb0.out w3 hb3w).1)
          | (go_at_call 77; refine (sdeleteT_ok _ base _ l i (Hown2.out.below tenR_stays hb3) hil).mono ?_; rintro e w4 ⟨v4, rfl, hown4, hb4⟩; have Hown4 := Lib.hid hown4; clear hown4))
        go_ret2
        rw [Hv.out]
        exact ⟨_, rfl, fun _ => Hown4.out, ((Hw2.out.mono hb).trans (hb3.mono (by omega))).trans hb4⟩
      · have d1 : ((nx.1.length : Int) == 0) = false := by rw [beq_eq_false_iff_ne]; omega
        have Hv := Lib.hid (show writeS l x = (l.set i (x.name, nx.1), 0) by have := writeS_set Hf.out Hn.out Hgood.out hil Hli.out (by rw [← Hnx.out]; exact hz); rwa [← Hnx.out] at this)
        clear hz
        go_wp2_with ((go_at_call 76; refine (treePut_ok _ V0 l[i].2 d0 Q V (x.key, x.value) b d (Hs2.out.z pairR_stays) (Hp2.out.bbelow Hw2.out) (Hp3.out.bbelow Hw2.out)).mono ?_; rintro e w3 ⟨A3, c9, rfl, hcap3, hs3, hb3⟩; rw [HN.out] at hcap3 hs3 ⊢; have hb3w := Hb2.out.next hb3 (by omega); obtain ⟨r0, r1, r2, r3, _⟩ := box4 (Hb0.out w3 hb3w).1; obtain ⟨⟨u1, hu1⟩, hf1⟩ := Hst.out w3 hb3))
        go_ret2
        rw [Hv.out]
        have hown5 := Own.put1 tenR_stays (Hown2.out.below tenR_stays hb3) hil (j := 1) (by omega) (.slice A3 nx.1.length c9) (x := (x.name, nx.1)) (fun cs h => by
          obtain ⟨A', c', B', d', rfl, k1, _, k3, _, _⟩ := h
          refine ⟨A', c', A3, c9, by rw [Hli.out]; rfl, by rw [← Hli.out]; exact k1, hs3.less pairR_stays (fun bb _ h => ⟨by have h' := h; simp only [From] at h' ⊢; omega, by have h' := h; simp only [From] at h'; omega⟩), by rw [← Hli.out]; exact k3, by show nx.1.length * 48 ≤ _; omega, hcap3⟩)
        exact ⟨_, rfl, fun _ => by simpa using hown5, ((Hw2.out.mono hb).trans (hb3.mono (by omega))).setCell (by simp only []; omega) _⟩
  · rw [decide_eq_false hfd]
    have Hnf := Lib.hid hfd
    have Hold := Lib.hid (show pairsOfS l x.name = [] by simp only [pairsOfS, find_not Hr.out Hat.out hfd]; rfl)
    have hil0 : i ≤ l.length := by have := Hat.out.le; simpa [keys] using this
    clear hfd
    rcases Bool.eq_false_or_eq_true x.flag with hfl | hfl
    · have Hfl := Lib.hid hfl
      obtain ⟨q0, q1, q2, q3, _⟩ := box4 (Hb0.out w2 Hb2.out).1
      rw [hfl] at q2
      clear hfl
      have HN := Lib.hid (show delS ([] : List Pr) x.key = nx by rw [Hnx.out, Hold.out]; unfold nextS; rw [if_pos Hfl.out])
      by_cases hne : nx.2 = 0
      rotate_left
      · have c1 : (nx.2 == 0) = false := by simpa using hne
        have c2 : (nx.2 != 0) = true := by simpa using hne
        have Hbad := Lib.hid (show progE (pairsOfS l x.name) x = nx.2 by unfold progE; rw [← Hnx.out, if_neg (fun h => hne h.2.1)])
        have Hne := Lib.hid (show progE (pairsOfS l x.name) x ≠ 0 by rw [Hbad.out]; first | exact hne | decide)
        have Hv := Lib.hid (progE_bad Hf.out Hn.out Hne.out)
        try clear hne
        go_wp2_with ((go_at_call 75; refine (treeDelete_ok _ none [] 0 Q x.key b SL.nil (Hp2.out.bbelow Hw2.out)).mono ?_; rintro e w3 ⟨A3, c9, rfl, hcap3, hs3, hb3⟩; rw [HN.out] at hcap3 hs3 ⊢; have hb3w := Hb2.out.next hb3 (by omega); obtain ⟨r0, r1, r2, r3, _⟩ := box4 (Hb0.out w3 hb3w).1))
        go_ret2
        rw [Hv.out, Hbad.out]
        exact ⟨_, rfl, fun h => absurd h (by have := Hne.out; rw [Hbad.out] at this; exact this), (Hw2.out.mono hb).trans (hb3.mono (by omega))⟩
      have c1 : (nx.2 == 0) = true := by simp [hne]
      have c2 : (nx.2 != 0) = false := by simp [hne]
      by_cases hv0 : 0 < x.value.length
      · have hne4 := hne
        have Hbad := Lib.hid (show progE (pairsOfS l x.name) x = 4 by unfold progE; rw [← Hnx.out, if_pos ⟨Hfl.out, hne, hv0⟩])
        have Hne := Lib.hid (show progE (pairsOfS l x.name) x ≠ 0 by rw [Hbad.out]; first | exact hne | decide)
        have Hv := Lib.hid (progE_bad Hf.out Hn.out Hne.out)
        try clear hne
        go_wp2_with ((go_at_call 75; refine (treeDelete_ok _ none [] 0 Q x.key b SL.nil (Hp2.out.bbelow Hw2.out)).mono ?_; rintro e w3 ⟨A3, c9, rfl, hcap3, hs3, hb3⟩; rw [HN.out] at hcap3 hs3 ⊢; have hb3w := Hb2.out.next hb3 (by omega); obtain ⟨r0, r1, r2, r3, _⟩ := box4 (Hb0.out w3 hb3w).1))
        go_ret2
        rw [Hv.out, Hbad.out]
        exact ⟨_, rfl, fun h => absurd h (by have := Hne.out; rw [Hbad.out] at this; exact this), (Hw2.out.mono hb).trans (hb3.mono (by omega))⟩
      have Hgood := Lib.hid (show progE (pairsOfS l x.name) x = 0 by unfold progE; rw [← Hnx.out, if_neg (fun h => hv0 h.2.2)]; exact hne)
      have Hnx0 := Lib.hid hne
      clear hne
      by_cases hz : nx.1.length = 0
      · have d1 : ((nx.1.length : Int) == 0) = true := by rw [beq_iff_eq]; omega
        have Hv := Lib.hid (writeS_same Hf.out Hn.out Hgood.out Hat.out Hnf.out (by rw [← Hnx.out]; exact hz))
        skip
        clear hz
        go_wp2_with ((go_at_call 75; refine (treeDelete_ok _ none [] 0 Q x.key b SL.nil (Hp2.out.bbelow Hw2.out)).mono ?_; rintro e w3 ⟨A3, c9, rfl, hcap3, hs3, hb3⟩; rw [HN.out] at hcap3 hs3 ⊢; have hb3w := Hb2.out.next hb3 (by omega); obtain ⟨r0, r1, r2, r3, _⟩ := box4 (Hb0.out w3 hb3w).1))
        go_ret2
        rw [Hv.out]
        exact ⟨_, rfl, fun _ => Hown2.out.below tenR_stays hb3, (Hw2.out.mono hb).trans (hb3.mono (by omega))⟩
      · have d1 : ((nx.1.length : Int) == 0) = false := by rw [beq_eq_false_iff_ne]; omega
        by_cases h8 : l.length = 8
        · have Hv := Lib.hid (writeS_full Hf.out Hn.out Hgood.out Hat.out Hnf.out (by rw [← Hnx.out]; exact hz) h8)
          have d2 : ((l.length : Int) == 8) = true := by rw [beq_iff_eq]; omega
          clear hz h8
          go_wp2_with ((go_at_call 75; refine (treeDelete_ok _ none [] 0 Q x.key b SL.nil (Hp2.out.bbelow Hw2.out)).mono ?_; rintro e w3 ⟨A3, c9, rfl, hcap3, hs3, hb3⟩; rw [HN.out] at hcap3 hs3 ⊢; have hb3w := Hb2.out.next hb3 (by omega); obtain ⟨r0, r1, r2, r3, _⟩ := box4 (Hb0.out w3 hb3w).1))
          go_ret2
          rw [Hv.out]
          exact ⟨_, rfl, fun h => absurd h (by decide), (Hw2.out.mono hb).trans (hb3.mono (by omega))⟩
        · have Hv := Lib.hid (show writeS l x = (ins l i (x.name, nx.1), 0) by have := writeS_ins Hf.out Hn.out Hgood.out Hat.out Hnf.out (by rw [← Hnx.out]; exact hz) h8; rwa [← Hnx.out] at this)
          have d2 : ((l.length : Int) == 8) = false := by rw [beq_eq_false_iff_ne]; omega
          clear hz h8
          go_wp2_with (first
            | (go_at_call 75; refine (treeDelete_ok _ none [] 0 Q x.key b SL.nil (Hp2.out.bbelow Hw2.out)).mono ?_; rintro e w3 ⟨A3, c9, rfl, hcap3, hs3, hb3⟩; rw [HN.out] at hcap3 hs3 ⊢; have hb3w := Hb2.out.next hb3 (by omega); obtain ⟨r0, r1, r2, r3, _⟩ := box4 (Hb0.out w3 hb3w).1)
            | (go_at_call 23; refine (clone_ok _ P x.name a (Hp1.out.bbelow (Hb0.out w3 hb3w).2.1) g1).mono ?_; rintro e w4 ⟨A4, c4, rfl, gs4, hb4⟩; have hz3 := hb3.size; have hz4 := hb4.size)
            | (go_at_call 78; refine (sinsertT_ok tenR_stays tenR_one _ base (.slice A l.length c) l i (x.name, nx.1) w4.heap.size [.slice A4 x.name.length c4, .slice A3 nx.1.length c9] 48 (((Hown2.out.below tenR_stays hb3).below tenR_stays hb4).below tenR_stays ((Below.refl _ _).alloc (Nat.le_refl _) _)) hil0 (by simp; omega) (by omega) (box_new w4 _ _) (Hown2.out.apart w2.heap.size (Nat.le_refl _) _ (by simp only [From]; omega)) rfl (ten_fresh (n := w2.heap.size) (t := (x.name, nx.1)) (gs4.blo (by omega)) (hs3.below pairR_stays hb4) g1 (by show nx.1.length * 48 ≤ _; omega) hcap3 ((Same.refl _ _).alloc _) (by omega) (Hown2.out.apart w2.heap.size (Nat.le_refl _)))).mono ?_; rintro e w5 ⟨v5, rfl, hown5, hb5⟩; have Hown5 := Lib.hid hown5; clear hown5))
          go_ret2
          rw [Hv.out]
          exact ⟨_, rfl, fun _ => Hown5.out, ((((Hw2.out.mono hb).trans (hb3.mono (by omega))).trans (hb4.mono (by omega))).alloc (by omega) _).trans hb5⟩
    · have Hfl := Lib.hid hfl
      obtain ⟨q0, q1, q2, q3, _⟩ := box4 (Hb0.out w2 Hb2.out).1
      rw [hfl] at q2
      clear hfl
      have HN := Lib.hid (show putS ([] : List Pr) (x.key, x.value) = nx by rw [Hnx.out, Hold.out]; unfold nextS; rw [if_neg (by rw [Hfl.out]; decide)])
      by_cases hne : nx.2 = 0
      rotate_left
      · have c1 : (nx.2 == 0) = false := by simpa using hne
        have c2 : (nx.2 != 0) = true := by simpa using hne
        have Hbad := Lib.hid (show progE (pairsOfS l x.name) x = nx.2 by unfold progE; rw [← Hnx.out, if_neg (fun h => hne h.2.1)])
        have Hne := Lib.hid (show progE (pairsOfS l x.name) x ≠ 0 by rw [Hbad.out]; first | exact hne | decide)
        have Hv := Lib.hid (progE_bad Hf.out Hn.out Hne.out)
        try clear hne
        go_wp2_with ((go_at_call 76; refine (treePut_ok _ none [] 0 Q V (x.key, x.value) b d SL.nil (Hp2.out.bbelow Hw2.out) (Hp3.out.bbelow Hw2.out)).mono ?_; rintro e w3 ⟨A3, c9, rfl, hcap3, hs3, hb3⟩; rw [HN.out] at hcap3 hs3 ⊢; have hb3w := Hb2.out.next hb3 (by omega); obtain ⟨r0, r1, r2, r3, _⟩ := box4 (Hb0.out w3 hb3w).1))
        go_ret2
        rw [Hv.out, Hbad.out]
        exact ⟨_, rfl, fun h => absurd h (by have := Hne.out; rw [Hbad.out] at this; exact this), (Hw2.out.mono hb).trans (hb3.mono (by omega))⟩
      have c1 : (nx.2 == 0) = true := by simp [hne]
      have c2 : (nx.2 != 0) = false := by simp [hne]
      have Hgood := Lib.hid (show progE (pairsOfS l x.name) x = 0 by unfold progE; rw [← Hnx.out, if_neg (fun h => by rw [Hfl.out] at h; exact absurd h.1 (by decide))]; exact hne)
      have Hnx0 := Lib.hid hne
      clear hne
      by_cases hz : nx.1.length = 0
      · have d1 : ((nx.1.length : Int) == 0) = true := by rw [beq_iff_eq]; omega
        have Hv := Lib.hid (writeS_same Hf.out Hn.out Hgood.out Hat.out Hnf.out (by rw [← Hnx.out]; exact hz))
        skip
        clear hz
        go_wp2_with ((go_at_call 76; refine (treePut_ok _ none [] 0 Q V (x.key, x.value) b d SL.nil (Hp2.out.bbelow Hw2.out) (Hp3.out.bbelow Hw2.out)).mono ?_; rintro e w3 ⟨A3, c9, rfl, hcap3, hs3, hb3⟩; rw [HN.out] at hcap3 hs3 ⊢; have hb3w := Hb2.out.next hb3 (by omega); obtain ⟨r0, r1, r2, r3, _⟩ := box4 (Hb0.out w3 hb3w).1))
        go_ret2
        rw [Hv.out]
        exact ⟨_, rfl, fun _ => Hown2.out.below tenR_stays hb3, (Hw2.out.mono hb).trans (hb3.mono (by omega))⟩
      · have d1 : ((nx.1.length : Int) == 0) = false := by rw [beq_eq_false_iff_ne]; omega
        by_cases h8 : l.length = 8
        · have Hv := Lib.hid (writeS_full Hf.out Hn.out Hgood.out Hat.out Hnf.out (by rw [← Hnx.out]; exact hz) h8)
          have d2 : ((l.length : Int) == 8) = true := by rw [beq_iff_eq]; omega
          clear hz h8
          go_wp2_with ((go_at_call 76; refine (treePut_ok _ none [] 0 Q V (x.key, x.value) b d SL.nil (Hp2.out.bbelow Hw2.out) (Hp3.out.bbelow Hw2.out)).mono ?_; rintro e w3 ⟨A3, c9, rfl, hcap3, hs3, hb3⟩; rw [HN.out] at hcap3 hs3 ⊢; have hb3w := Hb2.out.next hb3 (by omega); obtain ⟨r0, r1, r2, r3, _⟩ := box4 (Hb0.out w3 hb3w).1))
          go_ret2
          rw [Hv.out]
          exact ⟨_, rfl, fun h => absurd h (by decide), (Hw2.out.mono hb).trans (hb3.mono (by omega))⟩
        · have Hv := Lib.hid (show writeS l x = (ins l i (x.name, nx.1), 0) by have := writeS_ins Hf.out Hn.out Hgood.out Hat.out Hnf.out (by rw [← Hnx.out]; exact hz) h8; rwa [← Hnx.out] at this)
          have d2 : ((l.length : Int) == 8) = false := by rw [beq_eq_false_iff_ne]; omega
          clear hz h8
          go_wp2_with (first
            | (go_at_call 76; refine (treePut_ok _ none [] 0 Q V (x.key, x.value) b d SL.nil (Hp2.out.bbelow Hw2.out) (Hp3.out.bbelow Hw2.out)).mono ?_; rintro e w3 ⟨A3, c9, rfl, hcap3, hs3, hb3⟩; rw [HN.out] at hcap3 hs3 ⊢; have hb3w := Hb2.out.next hb3 (by omega); obtain ⟨r0, r1, r2, r3, _⟩ := box4 (Hb0.out w3 hb3w).1)
            | (go_at_call 23; refine (clone_ok _ P x.name a (Hp1.out.bbelow (Hb0.out w3 hb3w).2.1) g1).mono ?_; rintro e w4 ⟨A4, c4, rfl, gs4, hb4⟩; have hz3 := hb3.size; have hz4 := hb4.size)
            | (go_at_call 78; refine (sinsertT_ok tenR_stays tenR_one _ base (.slice A l.length c) l i (x.name, nx.1) w4.heap.size [.slice A4 x.name.length c4, .slice A3 nx.1.length c9] 48 (((Hown2.out.below tenR_stays hb3).below tenR_stays hb4).below tenR_stays ((Below.refl _ _).alloc (Nat.le_refl _) _)) hil0 (by simp; omega) (by omega) (box_new w4 _ _) (Hown2.out.apart w2.heap.size (Nat.le_refl _) _ (by simp only [From]; omega)) rfl (ten_fresh (n := w2.heap.size) (t := (x.name, nx.1)) (gs4.blo (by omega)) (hs3.below pairR_stays hb4) g1 (by show nx.1.length * 48 ≤ _; omega) hcap3 ((Same.refl _ _).alloc _) (by omega) (Hown2.out.apart w2.heap.size (Nat.le_refl _)))).mono ?_; rintro e w5 ⟨v5, rfl, hown5, hb5⟩; have Hown5 := Lib.hid hown5; clear hown5))
          go_ret2
          rw [Hv.out]
          exact ⟨_, rfl, fun _ => Hown5.out, ((((Hw2.out.mono hb).trans (hb3.mono (by omega))).trans (hb4.mono (by omega))).alloc (by omega) _).trans hb5⟩
end Go.Proofs.YthohkgggodhbcaaGreat
