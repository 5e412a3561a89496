/- Writes: words for memory; copied, held against each other; what is refused of one. -/
import Derived.Test.YthhcdibimnifaaaPairs
import Derived.Test.YthhcdibimnifaaaKeyLaws
import Derived.Test.YthhcdibimnifaaaChunk
namespace Go.Proofs.Ythhcdibimnifaaa
open Go.RowKit
set_option linter.unusedVariables false
set_option linter.unusedSimpArgs false

/-- A write, or a read: three byte slices and a bool, in the order of the fields. -/
structure Wr where
  name : List UInt8
  key : List UInt8
  flag : Bool
  value : List UInt8
/-- The four cells of a write. -/
def WrR (S : Nat → Prop) (w : World) (cs : List Value) (x : Wr) : Prop :=
  ∃ A a B b C c, cs = [.slice A x.name.length a, .slice B x.key.length b, .bool x.flag, .slice C x.value.length c] ∧ Bs S w A x.name ∧ Bs S w B x.key ∧ Bs S w C x.value ∧ x.name.length ≤ big ∧ x.key.length ≤ big ∧ x.value.length ≤ big
theorem wrR_stays : Stays WrR :=
  ⟨fun _ _ _ _ _ hb ⟨A, a, B, b, C, c, h0, h1, h2, h3, h4⟩ => ⟨A, a, B, b, C, c, h0, h1.bsame hb, h2.bsame hb, h3.bsame hb, h4⟩, fun _ _ _ _ _ hb ⟨A, a, B, b, C, c, h0, h1, h2, h3, h4⟩ => ⟨A, a, B, b, C, c, h0, h1.bless hb, h2.bless hb, h3.bless hb, h4⟩⟩
theorem box4 {w : World} {g : Nat} {t : TypeId} {a b c d : Value} (h : w.heap[g]? = some (.cells #[a, b, c, d] t (0, 0))) :
    w.cell? ⟨g, 0, none⟩ = some a ∧ w.cell? ⟨g, 1, none⟩ = some b ∧ w.cell? ⟨g, 2, none⟩ = some c ∧ w.cell? ⟨g, 3, none⟩ = some d ∧ w.frozen? ⟨g, 0, none⟩ = false ∧ w.frozen? ⟨g, 1, none⟩ = false ∧ w.frozen? ⟨g, 2, none⟩ = false ∧ w.frozen? ⟨g, 3, none⟩ = false :=
  ⟨box_cell (cs := [a, b, c, d]) h 0, box_cell (cs := [a, b, c, d]) h 1, box_cell (cs := [a, b, c, d]) h 2, box_cell (cs := [a, b, c, d]) h 3, box_frozen (cs := [a, b, c, d]) h 0, box_frozen (cs := [a, b, c, d]) h 1, box_frozen (cs := [a, b, c, d]) h 2, box_frozen (cs := [a, b, c, d]) h 3⟩
theorem info_wr : (Try.prog.info? 94).map (fun i => (i.zero, i.size, i.bytes)) = some (some (.agg #[.slice none 0 0, .slice none 0 0, .bool false, .slice none 0 0]), 4, 80) := by kernel_rfl
abbrev Ws (S : Nat → Prop) (w : World) (A : Option Addr) (l : List Wr) : Prop := SL 4 WrR S w A l
theorem wrs_at {S : Nat → Prop} {w : World} {A : Option Addr} {l : List Wr} (h : Ws S w A l) {k : Nat} (hk : k < l.length) :
    ∃ g off A1 a1 B1 b1 C1 c1, A = some ⟨g, off, none⟩ ∧ S g ∧ g < w.heap.size ∧ w.cell? ⟨g, off + k * 4, none⟩ = some (.slice A1 l[k].name.length a1) ∧ w.cell? ⟨g, off + k * 4 + 1, none⟩ = some (.slice B1 l[k].key.length b1) ∧ w.cell? ⟨g, off + k * 4 + 2, none⟩ = some (.bool l[k].flag) ∧ w.cell? ⟨g, off + k * 4 + 3, none⟩ = some (.slice C1 l[k].value.length c1) ∧
      Bs S w A1 l[k].name ∧ Bs S w B1 l[k].key ∧ Bs S w C1 l[k].value ∧ l[k].name.length ≤ big ∧ l[k].key.length ≤ big ∧ l[k].value.length ≤ big := by
  obtain ⟨g, off, cs, e, h0, hlt, h1, h2, A1, a1, B1, b1, C1, c1, rfl, h3, h4, h5, h6⟩ := h.at hk
  exact ⟨g, off, A1, a1, B1, b1, C1, c1, e, h0, hlt, by simpa using h2 0 (by omega), by simpa using h2 1 (by omega), by simpa using h2 2 (by omega), by simpa using h2 3 (by omega), h3, h4, h5, h6⟩
/-- The call returns a write of its own memory. -/
def RetWr (w : World) (x : Wr) (e : Ending) (w' : World) : Prop :=
  ∃ A a B b C c, e = .returned (.agg #[.slice A x.name.length a, .slice B x.key.length b, .bool x.flag, .slice C x.value.length c]) ∧ Bs (From w.heap.size) w' A x.name ∧ Bs (From w.heap.size) w' B x.key ∧ Bs (From w.heap.size) w' C x.value ∧ Below w.heap.size w w'
/-- The call returns writes in a row of its own. -/
def RetOwnWs (E : TypeId) (w : World) (l : List Wr) (e : Ending) (w' : World) : Prop :=
  ∃ v, e = .returned v ∧ Own 4 WrR (From w.heap.size) w' w.heap.size E v l ∧ Below w.heap.size w w'

set_option maxRecDepth 100000 in
set_option maxHeartbeats 1000000 in
theorem writeCopy_ok (w : World) (A B C : Option Addr) (x : Wr) (a b c : Nat) (ha : Bs All w A x.name) (hb : Bs All w B x.key) (hc : Bs All w C x.value) (h1 : x.name.length ≤ big) (h2 : x.key.length ≤ big) (h3 : x.value.length ≤ big) :
    Calls Try.prog 73 #[.agg #[.slice A x.name.length a, .slice B x.key.length b, .bool x.flag, .slice C x.value.length c]] w (RetWr w x) := by
  have Ha := Lib.hid ha
  have Hb := Lib.hid hb
  have Hc := Lib.hid hc
  clear ha hb hc
  have Hbox := Lib.hid (show ∀ W, Below (w.heap.size + 2) ((w.alloc (.cells #[.slice A x.name.length a, .slice B x.key.length b, .bool x.flag, .slice C x.value.length c] 94)).alloc (.cells #[.slice none 0 0, .slice none 0 0, .bool false, .slice none 0 0] 94)) W → W.heap[w.heap.size]? = some (.cells #[.slice A x.name.length a, .slice B x.key.length b, .bool x.flag, .slice C x.value.length c] 94 (0, 0)) ∧ W.heap[w.heap.size + 1]? = some (.cells #[.slice none 0 0, .slice none 0 0, .bool false, .slice none 0 0] 94 (0, 0)) ∧ Below w.heap.size w W ∧ w.heap.size + 2 ≤ W.heap.size from fun W hW =>
    ⟨(hW.block _ (by omega)).trans ((heap_alloc_old _ _ (by simp)).trans (box_new w _ _)), (hW.block _ (by omega)).trans (by have := box_new (w.alloc (.cells #[.slice A x.name.length a, .slice B x.key.length b, .bool x.flag, .slice C x.value.length c] 94)) #[.slice none 0 0, .slice none 0 0, .bool false, .slice none 0 0] 94; simpa using this), (((Below.refl w.heap.size w).alloc (Nat.le_refl _) _).alloc (by simp) _).trans (hW.mono (by omega)), by simpa using hW.size⟩)
  go_enter Try.func73, Try.ntmps73
  go_wp2_with fail
  go_region_held3 (fun w' => w'.cell? ⟨w.heap.size, 0, none⟩ = some (.slice A x.name.length a) ∧ w'.cell? ⟨w.heap.size, 1, none⟩ = some (.slice B x.key.length b) ∧ w'.cell? ⟨w.heap.size, 2, none⟩ = some (.bool x.flag) ∧ w'.cell? ⟨w.heap.size, 3, none⟩ = some (.slice C x.value.length c))
    (first
      | go_keep
      | exact ⟨q0, q1, q2, q3⟩
      | exact ⟨r0, r1, r2, r3⟩
      | exact ⟨s0, s1, s2, s3⟩)
    (first
      | (go_at_call 90; (with_reducible refine (joinedNil_ok _ A x.name a ?ha h1).mono ?_); (case ha => (refine Ha.out.bbelow ?_; repeat' (first | exact Below.refl _ _ | assumption | refine Below.drew ?_ | refine below_drewN ?_ _ | refine Below.alloc ?_ (by first | exact Nat.le_refl _ | omega | (simp; done) | (simp; omega)) _))); rintro e w1 ⟨A1, a1, rfl, hs1, hb1⟩; have hk1 : Below (w.heap.size + 2) ((w.alloc (.cells #[.slice A x.name.length a, .slice B x.key.length b, .bool x.flag, .slice C x.value.length c] 94)).alloc (.cells #[.slice none 0 0, .slice none 0 0, .bool false, .slice none 0 0] 94)) w1 := (Below.refl _ _).drew.next hb1 (by simp); obtain ⟨q0, q1, q2, q3, _⟩ := box4 (Hbox.out _ hk1).1)
      | (go_at_call 90; (with_reducible refine (joinedNil_ok _ B x.key b ?ha h2).mono ?_); (case ha => exact Hb.out.bbelow (Hbox.out _ hk1).2.2.1); rintro e w2 ⟨B1, b1, rfl, hs2, hb2⟩; have hk2 := hk1.next hb2 (by simpa using hk1.size); obtain ⟨r0, r1, r2, r3, _⟩ := box4 (Hbox.out _ hk2).1)
      | (go_at_call 90; (with_reducible refine (joinedNil_ok _ C x.value c ?ha h3).mono ?_); (case ha => exact Hc.out.bbelow (Hbox.out _ hk2).2.2.1); rintro e w3 ⟨C1, c1, rfl, hs3, hb3⟩; have hk3 := hk2.next hb3 (by simpa using hk2.size); obtain ⟨s0, s1, s2, s3, _⟩ := box4 (Hbox.out _ hk3).1; obtain ⟨z0, z1, z2, z3, y0, y1, y2, y3⟩ := box4 (Hbox.out _ hk3).2.1; have hzz := (Hbox.out _ hk3).2.2.2; have hzz1 : w.heap.size + 1 < w3.heap.size := (by omega)))
  all_goals
    go_wp2
    have hf1 := hk1.size
    have hf2 := hb2.size
    have hf3 := hb3.size
    simp at hf1
    refine bodyPost_ret (v := .agg #[.slice A1 x.name.length a1, .slice B1 x.key.length b1, .bool x.flag, .slice C1 x.value.length c1]) (by simp [results, Try.results73, go_sem, z0, z1, z2, z3]) rfl ⟨A1, a1, B1, b1, C1, c1, rfl, ?_, ?_, ?_, ?_⟩
    · exact (((hs1.bbelow hb2).bbelow hb3).bless fun b _ h => show From (w.heap.size + 2) b by simpa using h).bsame (((((Same.refl _ _).setCell (fun hq => by simp only [From] at hq; omega) _).setCell (fun hq => by simp only [From] at hq; omega) _).setCell (fun hq => by simp only [From] at hq; omega) _).setCell (fun hq => by simp only [From] at hq; omega) _) |>.blo (by omega)
    · exact (((hs2.bbelow hb3)).bless fun b _ h => show From (w.heap.size + 2) b by simp only [From] at h ⊢; omega).bsame (((((Same.refl _ _).setCell (fun hq => by simp only [From] at hq; omega) _).setCell (fun hq => by simp only [From] at hq; omega) _).setCell (fun hq => by simp only [From] at hq; omega) _).setCell (fun hq => by simp only [From] at hq; omega) _) |>.blo (by omega)
    · exact (hs3.bless fun b _ h => show From (w.heap.size + 2) b by simp only [From] at h ⊢; omega).bsame (((((Same.refl _ _).setCell (fun hq => by simp only [From] at hq; omega) _).setCell (fun hq => by simp only [From] at hq; omega) _).setCell (fun hq => by simp only [From] at hq; omega) _).setCell (fun hq => by simp only [From] at hq; omega) _) |>.blo (by omega)
    · exact ((((Hbox.out _ hk3).2.2.1.setCell (by simp only []; omega) _).setCell (by simp only []; omega) _).setCell (by simp only []; omega) _).setCell (by simp only []; omega) _

/-- A new write's cells, as what they say behind more allocations. -/
theorem wr_fresh {n base : Nat} {w W : World} {v : Value} {A B C : Option Addr} {x : Wr} {a b c : Nat} (h1 : Bs (From n) w A x.name) (h2 : Bs (From n) w B x.key) (h3 : Bs (From n) w C x.value) (g1 : x.name.length ≤ big) (g2 : x.key.length ≤ big) (g3 : x.value.length ≤ big) (hs : Same (From n) w W) (hb : base ≤ n) (hap : ∀ b, From n b → v.ownBlock ≠ some b) :
    WrR (fun b => From base b ∧ v.ownBlock ≠ some b) W [.slice A x.name.length a, .slice B x.key.length b, .bool x.flag, .slice C x.value.length c] x :=
  ⟨A, a, B, b, C, c, rfl, (h1.bsame hs).bless fun b _ h => ⟨Nat.le_trans hb h, hap b h⟩, (h2.bsame hs).bless fun b _ h => ⟨Nat.le_trans hb h, hap b h⟩, (h3.bsame hs).bless fun b _ h => ⟨Nat.le_trans hb h, hap b h⟩, g1, g2, g3⟩

set_option maxRecDepth 100000 in
set_option maxHeartbeats 1000000 in
theorem writes_own (w : World) (A : Option Addr) (l : List Wr) (c : Nat) (ha : Ws All w A l) (hn : l.length * 80 ≤ 140737488355328) :
    Calls Try.prog 43 #[.slice A l.length c] w (RetOwnWs 94 w l) := by
  obtain ⟨i0, hi0, hz0, hz1, hz2⟩ := info_parts info_wr
  have Ha := Lib.hid ha
  clear ha
  go_enter Try.func43, Try.ntmps43
  go_wp2
  go_loopw [3, 4] (fun v i wr => ∃ k : Nat, k ≤ l.length ∧ i = .int .i64 k ∧ Own 4 WrR (From w.heap.size) wr w.heap.size 94 v (l.take k) ∧ Below w.heap.size w wr) (fun _ i _ => l.length - (intOf i).toNat)
  case atStart => exact ⟨0, by omega, rfl, Own.nil _ _ _, Below.refl _ _⟩
  case round =>
    obtain ⟨k, hk, rfl, hown, hbel⟩ := hrel
    have Hbel := Lib.hid hbel
    have Hown := Lib.hid hown
    have hbz := hbel.size
    clear hown hbel
    by_cases hlt : k < l.length
    · obtain ⟨g, off, A1, a1, B1, b1, C1, c1, rfl, _, hal, hc1, hc2, hc3, hc4, hs1, hs2, hs3, hb1, hb2, hb3⟩ := wrs_at (Ha.out.below wrR_stays Hbel.out) hlt
      have Hsn := Lib.hid (take_snoc l k hlt)
      generalize l[k] = x at *
      go_wp2_with (first
        | (go_at_call 73; refine (writeCopy_ok _ A1 B1 C1 x a1 b1 c1 hs1.bz hs2.bz hs3.bz hb1 hb2 hb3).mono ?_; rintro e w1 ⟨A2, a2, B2, b2, C2, c2, rfl, gs1, gs2, gs3, hbw1⟩; have hzw1 := hbw1.size)
        | (at_builtin; refine wpl_snoc wrR_stays (S := From w.heap.size) _ rfl _ _ _ rfl w.heap.size 94 i0 _ 4 80 Try.underlying51 hi0 hz0 hz1 hz2 rfl (by decide) _ (l.take k) rfl ?hown _ _ [.slice A2 x.name.length a2, .slice B2 x.key.length b2, .bool x.flag, .slice C2 x.value.length c2] rfl rfl (new_src _ _ [.slice A2 x.name.length a2, .slice B2 x.key.length b2, .bool x.flag, .slice C2 x.value.length c2] _ (by simp)) (by simp [Value.oneCell']) ?hm ?hby ?hba x ?hd ?_; (case hown => (refine Own.below wrR_stays Hown.out ?_; repeat' (first | exact Below.refl _ _ | assumption | refine Below.drew ?_ | refine below_drewN ?_ _ | refine Below.setCell ?_ (by first | (simp; done) | omega | (simp; omega)) _ | refine Below.alloc ?_ (by first | exact Nat.le_refl _ | omega | (simp; done) | (simp; omega)) _))); (case hm => (simp only [List.length_take, maxLen]; omega)); (case hby => (simp only [List.length_take]; omega)); (case hba => (simp; omega)); (case hd => (refine wr_fresh (n := wr.heap.size) gs1 gs2 gs3 hb1 hb2 hb3 ?_ (by first | exact Nat.le_refl _ | omega | (simp; done) | (simp; omega)) (Hown.out.apart _ (Nat.le_refl _)); repeat' (first | exact Same.refl _ _ | assumption | refine Same.drew ?_ | refine Same.drewN ?_ _ | refine Same.alloc ?_ _ | refine Same.setCell ?_ (fun hq => by simp only [From] at hq; first | omega | (simp at hq; done) | (simp at hq; omega)) _))); intro v1 w2 hown2 hbw2))
      go_roundw
      case rel => exact ⟨k + 1, by omega, by go_num, by rw [Hsn.out]; exact hown2, (((Hbel.out.next hbw1 hbz).alloc (by first | exact Nat.le_refl _ | omega | (simp; done) | (simp; omega)) _).alloc (by first | exact Nat.le_refl _ | omega | (simp; done) | (simp; omega)) _).trans hbw2⟩
      case measure => simp [intOf]; omega
    · go_wp2
      go_ret
      obtain rfl : k = l.length := by omega
      have h := Hown.out
      rw [List.take_length] at h
      exact ⟨_, rfl, h, Hbel.out⟩

set_option maxRecDepth 100000 in
set_option maxHeartbeats 1000000 in
theorem sameWrites_ok (w : World) (A B : Option Addr) (l : List Wr) (c d : Nat) (ha : Ws All w A l) (hb : Ws All w B l) (hn : l.length ≤ big) :
    Calls Try.prog 47 #[.slice A l.length c, .slice B l.length d] w (RetV w (.bool true)) := by
  unfold big at hn
  have Ha := Lib.hid ha
  have Hb := Lib.hid hb
  clear ha hb
  go_enter Try.func47, Try.ntmps47
  go_wp2
  go_loopw [5] (fun i wr => ∃ k : Nat, k ≤ l.length ∧ i = .int .i64 k ∧ Below w.heap.size w wr) (fun i _ => l.length - (intOf i).toNat)
  case atStart => exact ⟨0, by omega, rfl, Below.refl _ _⟩
  case round =>
    obtain ⟨k, hk, rfl, hbel⟩ := hrel
    have Hbel := Lib.hid hbel
    clear hbel
    by_cases hlt : k < l.length
    · obtain ⟨g, off, A1, a1, B1, b1, C1, c1, rfl, _, hal, hc1, hc2, hc3, hc4, hs1, hs2, hs3, _, _, _⟩ := wrs_at (Ha.out.below wrR_stays Hbel.out) hlt
      obtain ⟨g', off', A2, a2, B2, b2, C2, c2, rfl, _, hal', hd1, hd2, hd3, hd4, ht1, ht2, ht3, _, _, _⟩ := wrs_at (Hb.out.below wrR_stays Hbel.out) hlt
      generalize l[k] = x at *
      have hi0 : (0 : Int) ≤ (k : Int) := by omega
      have hi1 : (k : Int) < (l.length : Int) := by omega
      have e1 : (x.name == x.name) = true := by simp
      have e2 : (x.key == x.key) = true := by simp
      have e3 : (x.value == x.value) = true := by simp
      go_wp2_with fail
      go_quiet ((first
        | (go_at_call_of 53 A1; exact quiet_left (sameBytes_ok _ A1 A2 x.name x.name a1 a2 (hs1.bz.bsame (by repeat' (first | exact Same.refl _ _ | assumption | refine Same.drew ?_ | refine Same.drewN ?_ _ | refine Same.alloc ?_ _ | refine Same.setCell ?_ (fun hq => by simp only [From] at hq; first | omega | (simp at hq; done) | (simp at hq; omega)) _))) (ht1.bz.bsame (by repeat' (first | exact Same.refl _ _ | assumption | refine Same.drew ?_ | refine Same.drewN ?_ _ | refine Same.alloc ?_ _ | refine Same.setCell ?_ (fun hq => by simp only [From] at hq; first | omega | (simp at hq; done) | (simp at hq; omega)) _)))))
        | (go_at_call_of 53 B1; exact quiet_left (sameBytes_ok _ B1 B2 x.key x.key b1 b2 (hs2.bz.bsame (by repeat' (first | exact Same.refl _ _ | assumption | refine Same.drew ?_ | refine Same.drewN ?_ _ | refine Same.alloc ?_ _ | refine Same.setCell ?_ (fun hq => by simp only [From] at hq; first | omega | (simp at hq; done) | (simp at hq; omega)) _))) (ht2.bz.bsame (by repeat' (first | exact Same.refl _ _ | assumption | refine Same.drew ?_ | refine Same.drewN ?_ _ | refine Same.alloc ?_ _ | refine Same.setCell ?_ (fun hq => by simp only [From] at hq; first | omega | (simp at hq; done) | (simp at hq; omega)) _)))))
        | (go_at_call_of 53 C1; exact quiet_left (sameBytes_ok _ C1 C2 x.value x.value c1 c2 (hs3.bz.bsame (by repeat' (first | exact Same.refl _ _ | assumption | refine Same.drew ?_ | refine Same.drewN ?_ _ | refine Same.alloc ?_ _ | refine Same.setCell ?_ (fun hq => by simp only [From] at hq; first | omega | (simp at hq; done) | (simp at hq; omega)) _))) (ht3.bz.bsame (by repeat' (first | exact Same.refl _ _ | assumption | refine Same.drew ?_ | refine Same.drewN ?_ _ | refine Same.alloc ?_ _ | refine Same.setCell ?_ (fun hq => by simp only [From] at hq; first | omega | (simp at hq; done) | (simp at hq; omega)) _)))))))
      go_wp2
      go_roundw
      case rel => exact ⟨k + 1, by omega, by go_num, below_drewN Hbel.out _⟩
      case measure => simp [intOf]; omega
    · go_wp2
      go_ret
      exact ⟨rfl, Hbel.out⟩

/-- What is refused of a write alone. -/
def writeFaultS (x : Wr) : Int :=
  if nameFault x.name ≠ 0 then nameFault x.name else if x.flag = true then (if keyFault x.key ≠ 0 then keyFault x.key else if 0 < x.value.length then 4 else 0) else pairFaultS (x.key, x.value)
set_option maxRecDepth 100000 in
set_option maxHeartbeats 1000000 in
theorem writeFault_ok (w : World) (A B C : Option Addr) (x : Wr) (a b c : Nat) :
    Calls Try.prog 112 #[.agg #[.slice A x.name.length a, .slice B x.key.length b, .bool x.flag, .slice C x.value.length c]] w (RetV w (.int .i64 (writeFaultS x))) := by
  by_cases h1 : nameFault x.name = 0
  · have b1 : (nameFault x.name == 0) = true := by simp [h1]
    obtain ⟨name, key, flag, value⟩ := x
    dsimp only at *
    cases flag with
    | true =>
      by_cases h2 : keyFault key = 0
      · have b2 : (keyFault key == 0) = true := by simp [h2]
        by_cases h3 : 0 < value.length
        · have Hv := Lib.hid (show writeFaultS ⟨name, key, true, value⟩ = 4 by unfold writeFaultS; dsimp only; rw [if_neg (by simpa using h1), if_pos rfl, if_neg (by simpa using h2), if_pos h3])
          have b3 : decide ((0 : Int) < (value.length : Int)) = true := by rw [decide_eq_true_eq]; omega
          clear h1 h2
          go_enter Try.func112, Try.ntmps112
          go_wp2_with (first
            | (go_at_call 105; refine (nameFault_ok _ A name a).mono ?_; rintro e w1 ⟨rfl, rfl⟩)
            | (go_at_call 92; refine (keyFault_ok _ B key b).mono ?_; rintro e w1 ⟨rfl, rfl⟩))
          go_ret
          exact ⟨ret_int (by rw [Hv.out]), by repeat' (first | exact Below.refl _ _ | assumption | refine Below.drew ?_ | refine below_drewN ?_ _ | refine Below.setCell ?_ (by first | (simp; done) | omega | (simp; omega)) _ | refine Below.alloc ?_ (by first | exact Nat.le_refl _ | omega | (simp; done) | (simp; omega)) _)⟩
        · have Hv := Lib.hid (show writeFaultS ⟨name, key, true, value⟩ = 0 by unfold writeFaultS; dsimp only; rw [if_neg (by simpa using h1), if_pos rfl, if_neg (by simpa using h2), if_neg h3])
          have b3 : decide ((0 : Int) < (value.length : Int)) = false := by rw [decide_eq_false_iff_not]; omega
          have Hk := Lib.hid h2
          clear h1 h2
          go_enter Try.func112, Try.ntmps112
          go_wp2_with (first
            | (go_at_call 105; refine (nameFault_ok _ A name a).mono ?_; rintro e w1 ⟨rfl, rfl⟩)
            | (go_at_call 92; refine (keyFault_ok _ B key b).mono ?_; rintro e w1 ⟨rfl, rfl⟩))
          go_ret
          exact ⟨ret_int (by rw [Hv.out, Hk.out]), by repeat' (first | exact Below.refl _ _ | assumption | refine Below.drew ?_ | refine below_drewN ?_ _ | refine Below.setCell ?_ (by first | (simp; done) | omega | (simp; omega)) _ | refine Below.alloc ?_ (by first | exact Nat.le_refl _ | omega | (simp; done) | (simp; omega)) _)⟩
      · have Hv := Lib.hid (show writeFaultS ⟨name, key, true, value⟩ = keyFault key by unfold writeFaultS; dsimp only; rw [if_neg (by simpa using h1), if_pos rfl, if_pos h2])
        have b2 : (keyFault key == 0) = false := by simpa using h2
        clear h1 h2
        go_enter Try.func112, Try.ntmps112
        go_wp2_with (first
          | (go_at_call 105; refine (nameFault_ok _ A name a).mono ?_; rintro e w1 ⟨rfl, rfl⟩)
          | (go_at_call 92; refine (keyFault_ok _ B key b).mono ?_; rintro e w1 ⟨rfl, rfl⟩))
        go_ret
        exact ⟨ret_int (by rw [Hv.out]), by repeat' (first | exact Below.refl _ _ | assumption | refine Below.drew ?_ | refine below_drewN ?_ _ | refine Below.setCell ?_ (by first | (simp; done) | omega | (simp; omega)) _ | refine Below.alloc ?_ (by first | exact Nat.le_refl _ | omega | (simp; done) | (simp; omega)) _)⟩
    | false =>
      have Hv := Lib.hid (show writeFaultS ⟨name, key, false, value⟩ = pairFaultS (key, value) by unfold writeFaultS; dsimp only; rw [if_neg (by simpa using h1)]; rfl)
      clear h1
      go_enter Try.func112, Try.ntmps112
      go_wp2_with (first
        | (go_at_call 105; refine (nameFault_ok _ A name a).mono ?_; rintro e w1 ⟨rfl, rfl⟩)
        | (go_at_call 101; refine (pairFault_ok _ B C (key, value) b c).mono ?_; rintro e w2 ⟨rfl, hb2⟩))
      go_ret
      exact ⟨ret_int (by rw [Hv.out]), ((Below.refl _ _).alloc (Nat.le_refl _) _).next hb2 (by simp)⟩
  · have b1 : (nameFault x.name == 0) = false := by simpa using h1
    have Hv := Lib.hid (show writeFaultS x = nameFault x.name by unfold writeFaultS; rw [if_pos h1])
    clear h1
    go_enter Try.func112, Try.ntmps112
    go_wp2_with (go_at_call 105; refine (nameFault_ok _ A x.name a).mono ?_; rintro e w1 ⟨rfl, rfl⟩)
    go_ret
    exact ⟨ret_int (by rw [Hv.out]), by repeat' (first | exact Below.refl _ _ | assumption | refine Below.drew ?_ | refine below_drewN ?_ _ | refine Below.setCell ?_ (by first | (simp; done) | omega | (simp; omega)) _ | refine Below.alloc ?_ (by first | exact Nat.le_refl _ | omega | (simp; done) | (simp; omega)) _)⟩

end Go.Proofs.Ythhcdibimnifaaa
