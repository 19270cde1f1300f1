/- For any instruction and number, smartcardlaw27.CodeFollows returns true: the program and the reference agree which instructions can follow; what came in reads behind the call as it read before. No condition but the listed package variables. -/
import Derived.Test.YtjpmogajlnkihaaDoorF5
set_option linter.unusedSimpArgs false
set_option linter.unusedVariables false
namespace Go.Proofs.YtjpmogajlnkihaaDoor
open Go Go.Joins Go.ChangeShapes Go.WideShapes Go.ChangeAt Go.RowKit Go.Deep En
set_option linter.unusedVariables false
set_option maxRecDepth 100000 in
theorem lifted_codeFollows (os : Os) (started : os.Started) (H : Type) (enc : TypeId × Value → H) :
    ReturnsInHanded {} Tryd.checked os 11 .any (fun w args => (Rows.codeFollowsSpec.pre enc Tryd.prog Tryd.f11 [] false w args ∧ laidMetH Tryd.prog Rows.codeFollowsRow.laid w) ∧ sizedMet enc Tryd.prog Tryd.f11 (OpenSpec.ofChange Rows.codeFollowsSpec) false w args) (Rows.codeFollowsSpec.post enc Tryd.prog Tryd.f11 false true false false) := by
  refine handed_both (C := Tryd.checked) (l := Rows.codeFollowsRow.laid) En.own started (by kernel_rfl) Tryd.func11
    (ChangeSpec.witness_shaped (enc := enc) (C := Tryd.checked) (os := os) (X := fun w _ => laidMetH Tryd.prog Rows.codeFollowsRow.laid w) false (World.laidAll Tryd.prog os Rows.codeChecksRow.laid) #[.agg #[.int .i64 0, .int .i64 0, .int .i64 0, .int .i64 0], .int .i64 0] 8 (World.laidAll_os _ _ _) (En.door_shaped os _) (by kernel_rfl) (by kernel_rfl) (by kernel_rfl) (En.door_met os _)) ?_
  intro W base args ds gs before hval0 hW hX hS
  have hval : ∀ (j : Nat) t v, Tryd.f11.params[j]? = some t → args[j]? = some v → Value.okWide Tryd.prog W .any base t v := hval0
  have hW' := hW
  obtain ⟨p, q, hA0, hV, rfl, hfz, hnd⟩ := hW
  have hA : DataW.TrodAll enc Tryd.prog W 0 (fun _ => true) true Tryd.f11.params.toList args.toList ds p := hA0
  rw [Tryd.params11] at hA hval
  obtain ⟨v0, vs0, d0, ds0, p0, q0, hargs, rfl, rfl, h0, r0⟩ := trodAll_cons hA
  obtain ⟨v1, vs1, d1, ds1, p1, q1, rfl, rfl, rfl, h1, r1⟩ := trodAll_cons r0
  obtain ⟨rfl, rfl, rfl⟩ := trodAll_nil r1
  obtain rfl : args = #[v0, v1] := by cases args; simp_all
  obtain ⟨rfl, rfl⟩ := trodVars_none hV
  have k0 := h0
  have lt0 : ∀ x ∈ p0, x.block < W.heap.size := by obtain ⟨m, hm⟩ := k0; exact DataW.trod_lt m _ _ _ hm
  have k1 := h1
  have lt1 : ∀ x ∈ p1, x.block < W.heap.size := by obtain ⟨m, hm⟩ := k1; exact DataW.trod_lt m _ _ _ hm
  clear hA0
  obtain ⟨n0, x0, f0, w0⟩ := arg_struct T_ok argTys_ok (by decide) Tryd.underlying23 (hval 0 23 v0 rfl rfl) h0
  obtain ⟨ci0, rfl⟩ := ins_arg f0
  obtain ⟨n1, x1, f1, w1⟩ := arg_int T_ok argTys_ok (by decide) Tryd.underlying3 (hval 1 3 v1 rfl rfl) h1
  obtain ⟨cn1, rfl, gl1, gh1⟩ := int_arg f1
  clear hval0
  have walk := walk_of (p_wFollows (200001) _ _ _ _ _ true (law_follows (200001) (by omega) ci0 cn1)) (reps_cons (rep_agg w0) (reps_cons (rep_v w1) reps_nil)) (globs_of hX hS)
  refine walk.mono fun e W' ⟨he, bel⟩ => ?_
  subst he
  exact ⟨_, rfl, _, _, _, [], _, [], hW', trodAll_mk1 (shut_bool Tryd.underlying4 _), (trodAll_cons_mk (Below.trod En.laidOut (by kernel_rfl) (of_decide_eq_true (by kernel_rfl)) k0 bel lt0) (trodAll_cons_mk (Below.trod En.laidOut (by kernel_rfl) (of_decide_eq_true (by kernel_rfl)) k1 bel lt1) trodAll_mk0)), rfl, bel.frame _, fun h => by cases h⟩

theorem over_codeFollows : Rows.codeFollowsRow.holds Tryd.pinned (OpenSpec.ofChange Rows.codeFollowsSpec) :=
  OpenClaim.holds_of_wide 11 Tryd.f11 rfl rfl rfl rfl rfl rfl rfl ⟨rfl, rfl, rfl, rfl, rfl⟩ rfl rfl rfl rfl rfl (by kernel_rfl) Tryd.func11 (by kernel_rfl)
    (of_decide_eq_true (by kernel_rfl)) (by unfold Func.isWrapper; first | (rw [if_pos (by decide +kernel)]; kernel_rfl) | (rw [if_neg (by decide +kernel)]; exact ⟨rfl, rfl⟩))
    (fun os started H enc _ => lifted_codeFollows os started H enc)

theorem codeFollows_holds : Rows.CodeFollowsCardSaid :=
  Claim7.holds_tied_plain_at .later [] Rows.codeFollowsCard.laidKinds true Rows.codeFollowsCard.stood.harness Rows.codeFollowsCard.stood.looks
    over_codeFollows (fun _ h => by cases h) (by kernel_rfl) (fun _ h => by cases h) codeFollows_row_tie rfl ⟨rfl, rfl⟩ (by kernel_rfl) rfl
    (fun f fn hf hfn => by
      obtain rfl : f = 11 := Option.some.inj ((show Tryd.prog.funcNamed "smartcard/smartcardlaw27.CodeFollows" = some 11 by kernel_rfl).symm.trans hf) |>.symm
      obtain rfl : fn = Tryd.f11 := (Option.some.inj (Tryd.func11.symm.trans hfn)).symm
      exact ⟨by kernel_rfl, fun j t ht => by
        rw [Tryd.params11] at ht
        have hm : t ∈ [23, 3] := by simpa using Array.mem_of_getElem? ht
        have hall : ([23, 3].all fun u => !Tryd.prog.wantsStandIn u) = true := by kernel_rfl
        exact (show Tryd.prog.wantsStandIn t = false by simpa using List.all_eq_true.1 hall t hm)⟩)
    (by kernel_rfl)
#print axioms codeFollows_holds
end Go.Proofs.YtjpmogajlnkihaaDoor
