/- For any two conditions, smartcardlaw14.AccessImplies returns true: the program and the reference agree whether the first implies the second; what came in reads behind the call as it read before. No condition. -/
import Derived.Test.YtahemenhcoedgaaDoorI5
set_option linter.unusedSimpArgs false
set_option linter.unusedVariables false
namespace Go.Proofs.YtahemenhcoedgaaDoor
open Go Go.Joins Go.ChangeShapes Go.WideShapes Go.ChangeAt Go.RowKit Go.Deep En
set_option linter.unusedVariables false
set_option maxRecDepth 100000 in
theorem lifted_accessImplies (os : Os) (started : os.Started) (H : Type) (enc : TypeId × Value → H) :
    ReturnsInHanded {} Tryd.checked os 5 .any (fun w args => (Rows.accessImpliesSpec.pre enc Tryd.prog Tryd.f5 [] false w args ∧ laidMetH Tryd.prog Rows.accessImpliesRow.laid w) ∧ sizedMet enc Tryd.prog Tryd.f5 (OpenSpec.ofChange Rows.accessImpliesSpec) false w args) (Rows.accessImpliesSpec.post enc Tryd.prog Tryd.f5 false true false false) := by
  refine returnsInHanded_of_change_and (C := Tryd.checked) (X := fun w _ => laidMetH Tryd.prog Rows.accessImpliesRow.laid w) (fun _ _ _ hh h => h.of_heap hh) En.own started (by kernel_rfl) Tryd.func5
    (ChangeSpec.witness_shaped (enc := enc) (C := Tryd.checked) (os := os) (X := fun w _ => laidMetH Tryd.prog Rows.accessImpliesRow.laid w) false (World.doorLaid Tryd.prog 400 os) #[.agg #[.int .i64 0, .int .i64 0, .slice none 0 0], .agg #[.int .i64 0, .int .i64 0, .slice none 0 0]] 8 rfl (En.door_shaped os _) (by kernel_rfl) (by kernel_rfl) (by kernel_rfl) (En.door_met os _)) ?_
  intro W base args ds gs before hval0 hW _ _ _ _
  have hval : ∀ (j : Nat) t v, Tryd.f5.params[j]? = some t → args[j]? = some v → Value.okWide Tryd.prog W .any base t v := hval0
  have hW' := hW
  obtain ⟨p, q, hA0, hV, rfl, hfz, hnd⟩ := hW
  have hA : DataW.TrodAll enc Tryd.prog W 0 (fun _ => true) true Tryd.f5.params.toList args.toList ds p := hA0
  rw [Tryd.params5] at hA hval
  obtain ⟨v0, vs0, d0, ds0, p0, q0, hargs, rfl, rfl, h0, r0⟩ := trodAll_cons hA
  obtain ⟨v1, vs1, d1, ds1, p1, q1, rfl, rfl, rfl, h1, r1⟩ := trodAll_cons r0
  obtain ⟨rfl, rfl, rfl⟩ := trodAll_nil r1
  obtain rfl : args = #[v0, v1] := by cases args; simp_all
  obtain ⟨rfl, rfl⟩ := trodVars_none hV
  have k0 := h0
  have lt0 : ∀ x ∈ p0, x.block < W.heap.size := by obtain ⟨m, hm⟩ := k0; exact DataW.trod_lt m _ _ _ hm
  have k1 := h1
  have lt1 : ∀ x ∈ p1, x.block < W.heap.size := by obtain ⟨m, hm⟩ := k1; exact DataW.trod_lt m _ _ _ hm
  clear hA0
  obtain ⟨n0, x0, f0, w0⟩ := arg_struct T_ok argTys_ok (by decide) Tryd.underlying24 (hval 0 24 v0 rfl rfl) h0
  obtain ⟨co0, cm0, ck0, rfl, g0⟩ := cond_arg f0
  obtain ⟨n1, x1, f1, w1⟩ := arg_struct T_ok argTys_ok (by decide) Tryd.underlying24 (hval 1 24 v1 rfl rfl) h1
  obtain ⟨co1, cm1, ck1, rfl, g1⟩ := cond_arg f1
  clear hval0
  have walk := walk_of (p_wImplies (200001 + ck0.nodes + ck1.nodes + 2) _ _ _ _ _ _ true (wImplies_eq (200001 + ck0.nodes + ck1.nodes + 2) (by omega) g0 g1 (by omega))) (reps_cons (rep_agg w0) (reps_cons (rep_agg w1) reps_nil))
  refine walk.mono fun e W' ⟨he, bel⟩ => ?_
  subst he
  exact ⟨_, rfl, _, _, _, [], _, [], hW', trodAll_mk1 (shut_bool Tryd.underlying4 _), (trodAll_cons_mk (Below.trod En.laidOut (by kernel_rfl) (of_decide_eq_true (by kernel_rfl)) k0 bel lt0) (trodAll_cons_mk (Below.trod En.laidOut (by kernel_rfl) (of_decide_eq_true (by kernel_rfl)) k1 bel lt1) trodAll_mk0)), rfl, bel.frame _, fun h => by cases h⟩

theorem over_accessImplies : Rows.accessImpliesRow.holds Tryd.pinned (OpenSpec.ofChange Rows.accessImpliesSpec) :=
  OpenClaim.holds_of_wide 5 Tryd.f5 rfl rfl rfl rfl rfl rfl rfl ⟨rfl, rfl, rfl, rfl, rfl⟩ rfl rfl rfl rfl rfl (by kernel_rfl) Tryd.func5 (by kernel_rfl)
    (of_decide_eq_true (by kernel_rfl)) (by unfold Func.isWrapper; first | (rw [if_pos (by decide +kernel)]; kernel_rfl) | (rw [if_neg (by decide +kernel)]; exact ⟨rfl, rfl⟩))
    (fun os started H enc _ => lifted_accessImplies os started H enc)

theorem accessImplies_holds : Rows.AccessImpliesCardSaid :=
  Claim7.holds_tied_plain_at .later [] Rows.accessImpliesCard.laidKinds true Rows.accessImpliesCard.stood.harness Rows.accessImpliesCard.stood.looks
    over_accessImplies (fun _ h => by cases h) (by kernel_rfl) (fun _ h => by cases h) accessImplies_row_tie rfl ⟨rfl, rfl⟩ (by kernel_rfl) rfl
    (fun f fn hf hfn => by
      obtain rfl : f = 5 := Option.some.inj ((show Tryd.prog.funcNamed "smartcard/smartcardlaw14.AccessImplies" = some 5 by kernel_rfl).symm.trans hf) |>.symm
      obtain rfl : fn = Tryd.f5 := (Option.some.inj (Tryd.func5.symm.trans hfn)).symm
      exact ⟨by kernel_rfl, fun j t ht => by
        rw [Tryd.params5] at ht
        have hm : t ∈ [24, 24] := by simpa using Array.mem_of_getElem? ht
        have hall : ([24, 24].all fun u => !Tryd.prog.wantsStandIn u) = true := by kernel_rfl
        exact (show Tryd.prog.wantsStandIn t = false by simpa using List.all_eq_true.1 hall t hm)⟩)
    (by kernel_rfl)
#print axioms accessImplies_holds
end Go.Proofs.YtahemenhcoedgaaDoor
