/- The statement of TapeRecovers, from its walk: for every input. No condition. -/
import Derived.Test.YteacjkihjeiafaaDoorCards
import Derived.Test.YteacjkihjeiafaaDoorTie
import Derived.LaidMore
import Derived.Lay
import Derived.SevenTiedAt
import Derived.Test.YteacjkihjeiafaaDoorKTapeI
import Derived.Test.YteacjkihjeiafaaDoorKOpenT
import Derived.Test.YteacjkihjeiafaaDoorKTabsD
import Derived.Test.YteacjkihjeiafaaDoorOnce
namespace Go.Proofs.YteacjkihjeiafaaDoor.tapeRecovers
open Go.RowKit Go.ChangeShapes Go.WideShapes Go.ChangeAt
set_option linter.unusedVariables false
set_option linter.unusedSimpArgs false

theorem own : ownKnob Tryd.prog.godebug = none := by kernel_rfl
theorem laidOut : laidOutB Tryd.prog = true := by kernel_rfl
set_option maxRecDepth 100000 in
set_option maxHeartbeats 1000000 in
theorem lifted (os : Os) (started : os.Started) (H : Type) (enc : TypeId × Value → H) :
    ReturnsInHanded {} Tryd.checked os 6 .any (fun w args => (Rows.tapeRecoversSpec.pre enc Tryd.prog Tryd.f6 Rows.tapeRecoversRow.domain false w args ∧ laidMetH Tryd.prog Rows.tapeRecoversRow.laid w) ∧ sizedMet enc Tryd.prog Tryd.f6 (OpenSpec.ofChange Rows.tapeRecoversSpec) false w args) (Rows.tapeRecoversSpec.post enc Tryd.prog Tryd.f6 false true false false) := by
  refine returnsInHanded_of_change_and (C := Tryd.checked) (X := fun w _ => laidMetH Tryd.prog Rows.tapeRecoversRow.laid w) (fun _ _ _ hh h => h.of_heap hh) own started (by kernel_rfl) Tryd.func6
    (ChangeSpec.witness_shaped (enc := enc) (C := Tryd.checked) (os := os) (X := fun w _ => laidMetH Tryd.prog Rows.tapeRecoversRow.laid w) false (World.laidAll Tryd.prog os Rows.tapeRecoversRow.laid) #[.agg #[.slice none 0 0, .int .i64 0]] 8 (World.laidAll_os _ _ _)
      (World.shaped_of_ZipB (by kernel_rfl) (by kernel_rfl)) (by kernel_rfl) (by kernel_rfl) (by kernel_rfl)
      (by rw [MakeChecks.laidMetH_plain _ _ _ (by kernel_rfl)]; exact laidMet_laidAll _ (by kernel_rfl) (by kernel_rfl))) ?_
  intro W base args ds gs before hval0 hW hcnd0 hsz0 hL0 _
  have hL : laidMet Tryd.prog Rows.tapeRecoversRow.laid W := by rw [← MakeChecks.laidMetH_plain _ _ _ (by kernel_rfl)]; exact hL0
  have hval : ∀ (j : Nat) t v, Tryd.f6.params[j]? = some t → args[j]? = some v → Value.okWide Tryd.prog W .any base t v := hval0
  have hsz : (DataW.weightsEach Tryd.prog (Tryd.f6.params.toList ++ Rows.tapeRecoversSpec.plain.varTypes Tryd.prog) (ds ++ gs)).all (· ≤ reachBytes) = true := hsz0
  have hvt : Rows.tapeRecoversSpec.plain.varTypes Tryd.prog = [] := rfl
  rw [hvt] at hsz
  have hW' := hW
  obtain ⟨p, q, hA0, hV, rfl, hfz, hnd⟩ := hW
  have hA : DataW.TrodAll enc Tryd.prog W 0 (fun _ => true) true Tryd.f6.params.toList args.toList ds p := hA0
  rw [Tryd.params6] at hA hval hsz
  obtain ⟨v0, vs0, d0, ds0, p0, q0, hargs, rfl, rfl, h0, r0⟩ := trodAll_cons hA
  obtain ⟨rfl, rfl, rfl⟩ := trodAll_nil r0
  obtain rfl : args = #[v0] := by cases args; simp_all
  obtain ⟨rfl, rfl⟩ := trodVars_none hV
  simp only [List.append_nil, DataW.weightsEach, List.all_append, Bool.and_eq_true] at hsz
  have z0 := hsz
  clear hA0 hval0 hsz0 hcnd0
  have k0 := h0
  have lt0 : ∀ x ∈ p0, x.block < W.heap.size := by obtain ⟨m, hm⟩ := k0; exact DataW.trod_lt m _ _ _ hm
  obtain ⟨fu0, hf0⟩ := h0
  obtain ⟨cs0, rfl, _⟩ := okWide_struct Tryd.underlying45 (hval 0 45 v0 rfl rfl)
  obtain ⟨cl0⟩ := cs0
  obtain ⟨x0, hr0⟩ := opens_tape W H enc _ _ _ _ _ _ hf0 z0
  simp only [Value.cells] at hr0
  refine (tapeRecovers_walk W (tabsAt_of hL) hr0).mono fun e W' ⟨he, bel⟩ => ?_
  subst he
  exact ⟨_, rfl, _, _, _, [], _, [], hW', trodAll_mk1 (shut_bool Tryd.underlying4 _), (trodAll_cons_mk (Below.trod laidOut (by kernel_rfl) (of_decide_eq_true (by kernel_rfl)) k0 bel lt0) trodAll_mk0), rfl, bel.frame _, fun h => by cases h⟩

theorem closed : joinedFacts Tryd.prog 6 Tryd.f6 Rows.tapeRecoversSpec Rows.tapeRecoversRow = true := by
  unfold joinedFacts
  rw [lifts, makes, enters]
  kernel_rfl
theorem inst : Tryd.f6.isInstance Tryd.pinned.checked.prog Rows.tapeRecoversRow.origin Rows.tapeRecoversRow.targs := of_decide_eq_true (by kernel_rfl)
theorem wrap : Tryd.f6.isWrapper Tryd.pinned.checked.prog Rows.tapeRecoversRow.wrapper Rows.tapeRecoversRow.mainSum := by
  unfold Func.isWrapper
  first
    | (rw [if_pos (by decide +kernel)]; kernel_rfl)
    | (rw [if_neg (by decide +kernel)]; exact ⟨rfl, rfl⟩)
theorem over : Rows.tapeRecoversRow.holds Tryd.pinned (OpenSpec.ofChange Rows.tapeRecoversSpec) :=
  OpenClaim.holds_of_wide 6 Tryd.f6 rfl rfl rfl rfl rfl rfl rfl ⟨rfl, rfl, rfl, rfl, rfl⟩ rfl rfl rfl rfl rfl (by kernel_rfl) Tryd.func6 closed inst wrap
    (fun os started H enc _ => lifted os started H enc)
theorem goes : Rows.tapeRecoversRow.goesBy Tryd.pinned.checked.prog = false := by kernel_rfl
theorem wfText : Rows.tapeRecoversRow.wfByText (OpenSpec.ofChange Rows.tapeRecoversSpec) = true := by kernel_rfl
theorem mainIs : Tryd.pinned.checked.prog.mainIs = some (true, "f155268f7bddae1b371f7e2ccf780a66a8bc549773bc22aef52916e1c03ea242".toList) := by kernel_rfl
theorem looksAt : Tryd.prog.looks [] = false := by kernel_rfl

/-- THE STATEMENT: the tied card. -/
theorem proved : Rows.TapeRecoversCardSaid :=
  Claim7.holds_tied_plain_at .later [] [.data, .data, .data] true (true, "f155268f7bddae1b371f7e2ccf780a66a8bc549773bc22aef52916e1c03ea242") false over (fun _ h => by cases h) wfText (fun _ h => by cases h) tapeRecovers_row_tie rfl ⟨rfl, rfl⟩ mainIs rfl
    (fun f fn hf hfn => by
      obtain rfl : f = 6 := Option.some.inj ((show Tryd.prog.funcNamed "canopy/canopylaw.TapeRecovers" = some 6 by kernel_rfl).symm.trans hf) |>.symm
      obtain rfl : fn = Tryd.f6 := (Option.some.inj (Tryd.func6.symm.trans hfn)).symm
      exact ⟨looksAt.symm, fun j t ht => by
        rw [Tryd.params6] at ht
        have hm : t ∈ [45] := by simpa using Array.mem_of_getElem? ht
        have hall : ([45].all fun u => !Tryd.prog.wantsStandIn u) = true := by kernel_rfl
        exact (show Tryd.prog.wantsStandIn t = false by simpa using List.all_eq_true.1 hall t hm)⟩)
    goes.symm
#print axioms proved
end Go.Proofs.YteacjkihjeiafaaDoor.tapeRecovers
