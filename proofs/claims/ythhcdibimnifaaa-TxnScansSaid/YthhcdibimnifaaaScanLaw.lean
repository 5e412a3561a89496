/- Walk of the law TxnScans. -/
import Derived.Test.YthhcdibimnifaaaScan
import Derived.Test.YthhcdibimnifaaaSameTen
namespace Go.Proofs.Ythhcdibimnifaaa
open Go.RowKit
set_option linter.unusedVariables false
set_option linter.unusedSimpArgs false

theorem scanTo_len {n f m : List UInt8} : ∀ (ws : List Wr) {s : List Pr × Int}, s.1.length ≤ 60 → (scanTo n f m s ws).1.length ≤ 60
  | [], _, h => h
  | x :: ws, s, h => by
    show (scanTo n f m (scanStep n f m s x) ws).1.length ≤ 60
    refine scanTo_len ws ?_
    unfold scanStep
    split
    · exact h
    · split
      · exact h
      · split
        · simp
        · exact nextS_len _ _
theorem scanS_len (l : List Tn) (t : Tx) (n f m : List UInt8) : (scanS l t n f m).1.length ≤ 60 := by
  unfold scanS
  split
  · simp
  · split
    · simp
    · exact scanTo_len _ range_fine_len
set_option maxRecDepth 100000 in
set_option maxHeartbeats 8000000 in
theorem txnScans_walk (w : World) {L : Option Addr} {l : List Tn} {c : Nat} (hl' : Ts All w L l ∧ l.length * 48 ≤ 140737488355328) {cl : List Value} {t : Tx} (h : TxR All w cl t) {N : Option Addr} {nm : List UInt8} {nc : Nat} (hn' : Bs All w N nm ∧ nm.length ≤ big) {F : Option Addr} {fr : List UInt8} {fc : Nat} (hf' : Bs All w F fr ∧ fr.length ≤ big) {M : Option Addr} {to : List UInt8} {mc : Nat} (hm' : Bs All w M to ∧ to.length ≤ big) :
    Calls Try.prog 21 #[.slice L l.length c, .agg cl.toArray, .slice N nm.length nc, .slice F fr.length fc, .slice M to.length mc] w (RetV w (.bool true)) := by
  obtain ⟨A, n, B, m, rfl, ha, hb, h1, h2, h3, h4⟩ := h
  obtain ⟨hl, hl48⟩ := hl'
  obtain ⟨hn, hnb⟩ := hn'
  obtain ⟨hf, hfb⟩ := hf'
  obtain ⟨hm, hmb⟩ := hm'
  have hlb : l.length ≤ big := by unfold big; omega
  have hrl : t.reads.length ≤ big := by unfold big; omega
  have hwl : t.writes.length ≤ big := by unfold big; omega
  have Ha := Lib.hid ha
  have Hb := Lib.hid hb
  have Hl := Lib.hid hl
  have Hn := Lib.hid hn
  have Hf := Lib.hid hf
  have Hm := Lib.hid hm
  clear ha hb hl hn hf hm h3 h4
  obtain ⟨r, hr⟩ : ∃ r, r = scanS l t nm fr to := ⟨_, rfl⟩
  have hrb : r.1.length ≤ big := by have := scanS_len l t nm fr to; rw [hr]; unfold big; omega
  have Hp := Lib.hid (show ∀ (W : World) (L : Option Addr) (c : Nat) (A B : Option Addr) (n m : Nat) (N : Option Addr) (nc : Nat) (F : Option Addr) (fc : Nat) (M : Option Addr) (mc : Nat), Ts All W L l → Ws All W A t.reads → Ws All W B t.writes → Bs All W N nm → Bs All W F fr → Bs All W M to → t.reads.length ≤ n → t.writes.length ≤ m → Calls Try.prog 77 #[.slice L l.length c, .agg #[.int .i64 t.start, .slice A t.reads.length n, .slice B t.writes.length m], .slice N nm.length nc, .slice F fr.length fc, .slice M to.length mc] W (RetPE W r) from fun W L c A B n m N nc F fc M mc g1 g2 g3 g4 g5 g6 g7 g8 => by rw [hr]; exact scan_ok W L l c A B t n m N nm nc F fr fc M to mc g1 g2 g3 g4 g5 g6 g7 g8)
  have Hq := Lib.hid (show ∀ (W : World), Ts All W L l → Ws All W A t.reads → Ws All W B t.writes → Bs All W N nm → Bs All W F fr → Bs All W M to → Calls Try.prog 78 #[.slice L l.length c, .agg #[.int .i64 t.start, .slice A t.reads.length n, .slice B t.writes.length m], .slice N nm.length nc, .slice F fr.length fc, .slice M to.length mc] W (RetPE W r) from fun W g1 g2 g3 g4 g5 g6 => by rw [hr]; exact scanned_ok W L l c A B t n m N nm nc F fr fc M to mc g1 g2 g3 g4 g5 g6)
  clear hr
  have Hb0 := Lib.hid (show Below w.heap.size w (w.alloc (.cells #[.int .i64 t.start, .slice A t.reads.length n, .slice B t.writes.length m] 79)) from (Below.refl _ _).alloc (Nat.le_refl _) _)
  have Hx0 := Lib.hid (box_new w #[.int .i64 t.start, .slice A t.reads.length n, .slice B t.writes.length m] 79)
  go_enter Try.func21, Try.ntmps21
  go_wp2_with (first
    | (go_at_call 37; go_in)
    | (go_at_call 104; refine (forestCopy_ok _ L l c (Hl.out.below tenR_stays Hb0.out) hl48).mono ?_; rintro e w1 ⟨L1, c1, rfl, _, hs1, hb1⟩; have hz1 : w.heap.size < w1.heap.size := (by have := hb1.size; simp at this; omega); have Hx1 := Lib.hid ((hb1.block w.heap.size (by simp)).trans Hx0.out); obtain ⟨x0, x1, x2, _⟩ := box3 Hx1.out; have Hw1 := Lib.hid (Hb0.out.next hb1 (by simp)); have Hs1 := Lib.hid (hs1.z tenR_stays); clear hs1 hb1)
    | (go_at_call 63; refine (txnCopy_ok _ A B t n m (Ha.out.below wrR_stays Hw1.out) (Hb.out.below wrR_stays Hw1.out) h1 h2).mono ?_; rintro e w2 ⟨A2, n2, B2, m2, rfl, hk1, hk2, hs2, hs3, hb2⟩; have Hs2 := Lib.hid (hs2.z wrR_stays); have Hs3 := Lib.hid (hs3.z wrR_stays); have hz2 := hb2.size; have Hx2 := Lib.hid ((hb2.block w.heap.size hz1).trans Hx1.out); have Hb12 := Lib.hid hb2; have Hw2 := Lib.hid (Hw1.out.next hb2 (by omega)); clear hs2 hs3 hb2 x0 x1 x2))
  have Hxd := Lib.hid ((heap_alloc_old w2 (.cells #[.int .i64 t.start, .slice A2 t.reads.length n2, .slice B2 t.writes.length m2] 79) (by omega)).trans Hx2.out)
  have Hyd := Lib.hid (box_new w2 #[.int .i64 t.start, .slice A2 t.reads.length n2, .slice B2 t.writes.length m2] 79)
  have Hbd := Lib.hid (show Below w2.heap.size w2 (w2.alloc (.cells #[.int .i64 t.start, .slice A2 t.reads.length n2, .slice B2 t.writes.length m2] 79)) from (Below.refl _ _).alloc (Nat.le_refl _) _)
  have hzd : (w2.alloc (.cells #[.int .i64 t.start, .slice A2 t.reads.length n2, .slice B2 t.writes.length m2] 79)).heap.size = w2.heap.size + 1 := by simp
  generalize w2.alloc (.cells #[.int .i64 t.start, .slice A2 t.reads.length n2, .slice B2 t.writes.length m2] 79) = wd at *
  have Hwd := Lib.hid (Hw2.out.next Hbd.out (by omega))
  obtain ⟨d0, d1, d2, _⟩ := box3 Hyd.out
  have hzw : w2.heap.size < wd.heap.size := by omega
  have hzw' : w.heap.size < wd.heap.size := by omega
  go_region_held3 (fun w' => w'.cell? ⟨w2.heap.size, 0, none⟩ = some (.int .i64 t.start) ∧ w'.cell? ⟨w2.heap.size, 1, none⟩ = some (.slice A2 t.reads.length n2) ∧ w'.cell? ⟨w2.heap.size, 2, none⟩ = some (.slice B2 t.writes.length m2))
    (first
      | go_keep
      | exact ⟨(H3.out.cell hzw).trans d0, (H3.out.cell hzw).trans d1, (H3.out.cell hzw).trans d2⟩
      | exact ⟨(H4.out.cell hzw).trans d0, (H4.out.cell hzw).trans d1, (H4.out.cell hzw).trans d2⟩
      | exact ⟨(H5.out.cell hzw).trans d0, (H5.out.cell hzw).trans d1, (H5.out.cell hzw).trans d2⟩
      | exact ⟨(H6.out.cell hzw).trans d0, (H6.out.cell hzw).trans d1, (H6.out.cell hzw).trans d2⟩)
    (first
      | (go_at_call 25; (with_reducible refine (octets_ok _ N nm nc ?hx hnb).mono ?_); (case hx => exact (Hn.out.bbelow Hwd.out).bsame (Same.refl _ _).drew); rintro e w3 ⟨N3, nc3, rfl, ns, hb3⟩; have H3 := Lib.hid (show Below wd.heap.size wd w3 from (Below.refl _ _).drew.next hb3 (by simp)); have Ns := Lib.hid ns.bz; clear ns hb3)
      | (go_at_call 25; (with_reducible refine (octets_ok _ F fr fc ?hx hfb).mono ?_); (case hx => exact ((Hf.out.bbelow Hwd.out).bbelow H3.out)); rintro e w4 ⟨F3, fc3, rfl, fs, hb4⟩; have H34 := Lib.hid hb4; have H4 := Lib.hid (H3.out.next hb4 H3.out.size); have Fs := Lib.hid fs.bz; clear fs hb4)
      | (go_at_call 25; (with_reducible refine (octets_ok _ M to mc ?hx hmb).mono ?_); (case hx => exact ((Hm.out.bbelow Hwd.out).bbelow H4.out)); rintro e w5 ⟨M3, mc3, rfl, ms, hb5⟩; have H45 := Lib.hid hb5; have H5 := Lib.hid (H4.out.next hb5 H4.out.size); have Ms := Lib.hid ms.bz; clear ms hb5)
      | (go_at_call 77; refine (Hp.out _ L1 c1 A2 B2 n2 m2 N3 nc3 F3 fc3 M3 mc3 ((((Hs1.out.below tenR_stays Hb12.out).below tenR_stays Hbd.out).below tenR_stays H5.out)) ((Hs2.out.below wrR_stays Hbd.out).below wrR_stays H5.out) ((Hs3.out.below wrR_stays Hbd.out).below wrR_stays H5.out) ((Ns.out.bbelow H34.out).bbelow H45.out) (Fs.out.bbelow H45.out) Ms.out hk1 hk2).mono ?_; rintro e w6 ⟨R6, c6, rfl, _, rs, hb6⟩; have H6 := Lib.hid (H5.out.next hb6 H5.out.size); have Rs := Lib.hid (rs.z pairR_stays); clear rs hb6))
  have hz6 := H6.out.size
  have Hw6 := Lib.hid (Hwd.out.next H6.out (by omega))
  clear d0 d1 d2
  obtain ⟨x0, x1, x2, _⟩ := box3 ((H6.out.block _ hzw').trans Hxd.out)
  go_wp2_with (first
    | (go_at_call 78; refine (Hq.out _ (Hl.out.below tenR_stays Hw6.out) (Ha.out.below wrR_stays Hw6.out) (Hb.out.below wrR_stays Hw6.out) (Hn.out.bbelow Hw6.out) (Hf.out.bbelow Hw6.out) (Hm.out.bbelow Hw6.out)).mono ?_; rintro e w7 ⟨R7, c7, rfl, _, rs7, hb7⟩; have H67 := Lib.hid hb7; have H7 := Lib.hid (H6.out.next hb7 hz6); have Rs7 := Lib.hid (rs7.z pairR_stays); clear rs7 hb7)
    | (go_at_call 30; refine (samePairs_ok _ R6 R7 r.1 c6 c7 (Rs.out.below pairR_stays H67.out) Rs7.out hrb).mono ?_; rintro e w8 ⟨rfl, hb8⟩; have H8 := Lib.hid (H7.out.next hb8 H7.out.size); have Hw8 := Lib.hid (Hwd.out.next H8.out (by omega)); clear hb8)
    | (go_at_call 46; refine (sameTenants_ok _ L1 L l c1 c (((Hs1.out.below tenR_stays Hb12.out).below tenR_stays Hbd.out).below tenR_stays H8.out) (Hl.out.below tenR_stays Hw8.out) hlb).mono ?_; rintro e w9 ⟨rfl, hb9⟩; have H9 := Lib.hid (H8.out.next hb9 H8.out.size); have Hw9 := Lib.hid (Hwd.out.next H9.out (by omega)); obtain ⟨y0, y1, y2, _⟩ := box3 ((H9.out.block _ hzw').trans Hxd.out); obtain ⟨d0, d1, d2, _⟩ := box3 ((H9.out.block _ hzw).trans Hyd.out); clear hb9)
    | (go_at_call 66; refine (sameTxn_ok _ A2 B2 A B t n2 m2 n m ((Hs2.out.below wrR_stays Hbd.out).below wrR_stays H9.out) ((Hs3.out.below wrR_stays Hbd.out).below wrR_stays H9.out) (Ha.out.below wrR_stays Hw9.out) (Hb.out.below wrR_stays Hw9.out) hrl hwl).mono ?_; rintro e w10 ⟨rfl, hb10⟩; have H10 := Lib.hid (H9.out.next hb10 H9.out.size)))
  go_ret
  exact ⟨by simp, Hwd.out.next H10.out (by omega)⟩
end Go.Proofs.Ythhcdibimnifaaa
