/- For any instructions, bytes and text, smartcardlaw27.CodeRoundTrip returns true: instructions come back from their bytes and their text, bytes and texts from their instructions; what came in reads behind the call as it read before. No condition but the listed package variables. -/
import Derived.Test.YtjpmogajlnkihaaDoorG5
set_option linter.unusedSimpArgs false
set_option linter.unusedVariables false
namespace Go.Proofs.YtjpmogajlnkihaaDoor
open Go Go.Joins Go.ChangeShapes Go.WideShapes Go.ChangeAt Go.RowKit Go.Deep En
set_option linter.unusedVariables false
set_option maxRecDepth 100000 in
theorem lifted_codeRoundTrip (os : Os) (started : os.Started) (H : Type) (enc : TypeId × Value → H) :
    ReturnsInHanded {} Tryd.checked os 10 .any (fun w args => (Rows.codeRoundTripSpec.pre enc Tryd.prog Tryd.f10 [] false w args ∧ laidMetH Tryd.prog Rows.codeRoundTripRow.laid w) ∧ sizedMet enc Tryd.prog Tryd.f10 (OpenSpec.ofChange Rows.codeRoundTripSpec) false w args) (Rows.codeRoundTripSpec.post enc Tryd.prog Tryd.f10 false true false false) := by
  refine handed_both (C := Tryd.checked) (l := Rows.codeRoundTripRow.laid) En.own started (by kernel_rfl) Tryd.func10
    (ChangeSpec.witness_shaped (enc := enc) (C := Tryd.checked) (os := os) (X := fun w _ => laidMetH Tryd.prog Rows.codeRoundTripRow.laid w) false (World.laidAll Tryd.prog os Rows.codeChecksRow.laid) #[.slice none 0 0, .slice none 0 0, .string ⟨#[]⟩] 8 (World.laidAll_os _ _ _) (En.door_shaped os _) (by kernel_rfl) (by kernel_rfl) (by kernel_rfl) (En.door_met os _)) ?_
  intro W base args ds gs before hval0 hW hX hS
  have hval : ∀ (j : Nat) t v, Tryd.f10.params[j]? = some t → args[j]? = some v → Value.okWide Tryd.prog W .any base t v := hval0
  have hW' := hW
  obtain ⟨p, q, hA0, hV, rfl, hfz, hnd⟩ := hW
  have hA : DataW.TrodAll enc Tryd.prog W 0 (fun _ => true) true Tryd.f10.params.toList args.toList ds p := hA0
  rw [Tryd.params10] at hA hval
  obtain ⟨v0, vs0, d0, ds0, p0, q0, hargs, rfl, rfl, h0, r0⟩ := trodAll_cons hA
  obtain ⟨v1, vs1, d1, ds1, p1, q1, rfl, rfl, rfl, h1, r1⟩ := trodAll_cons r0
  obtain ⟨v2, vs2, d2, ds2, p2, q2, rfl, rfl, rfl, h2, r2⟩ := trodAll_cons r1
  obtain ⟨rfl, rfl, rfl⟩ := trodAll_nil r2
  obtain rfl : args = #[v0, v1, v2] := by cases args; simp_all
  obtain ⟨rfl, rfl⟩ := trodVars_none hV
  have k0 := h0
  have lt0 : ∀ x ∈ p0, x.block < W.heap.size := by obtain ⟨m, hm⟩ := k0; exact DataW.trod_lt m _ _ _ hm
  have k1 := h1
  have lt1 : ∀ x ∈ p1, x.block < W.heap.size := by obtain ⟨m, hm⟩ := k1; exact DataW.trod_lt m _ _ _ hm
  have k2 := h2
  have lt2 : ∀ x ∈ p2, x.block < W.heap.size := by obtain ⟨m, hm⟩ := k2; exact DataW.trod_lt m _ _ _ hm
  clear hA0
  obtain ⟨n0, x0, f0, w0⟩ := arg_slice T_ok argTys_ok (by decide) Tryd.underlying28 (hval 0 28 v0 rfl rfl) h0
  obtain ⟨cl0, rfl⟩ := is_arg f0
  obtain ⟨n1, x1, f1, w1⟩ := arg_slice T_ok argTys_ok (by decide) Tryd.underlying29 (hval 1 29 v1 rfl rfl) h1
  obtain ⟨cb1, rfl, g1⟩ := bytes_arg f1
  obtain ⟨n2, x2, f2, w2⟩ := arg_string T_ok argTys_ok (by decide) Tryd.underlying9 (hval 2 9 v2 rfl rfl) h2
  obtain ⟨cs2, rfl, g2⟩ := str_arg f2
  clear hval0
  have walk := walk_of (p_wRoundTrip (200001) _ _ _ true (law_round (200001) (by omega) cl0 cb1 cs2)) (reps_cons (rep_v w0) (reps_cons (rep_v w1) (reps_cons (rep_v w2) reps_nil))) (globs_of hX hS)
  refine walk.mono fun e W' ⟨he, bel⟩ => ?_
  subst he
  exact ⟨_, rfl, _, _, _, [], _, [], hW', trodAll_mk1 (shut_bool Tryd.underlying4 _), (trodAll_cons_mk (Below.trod En.laidOut (by kernel_rfl) (of_decide_eq_true (by kernel_rfl)) k0 bel lt0) (trodAll_cons_mk (Below.trod En.laidOut (by kernel_rfl) (of_decide_eq_true (by kernel_rfl)) k1 bel lt1) (trodAll_cons_mk (Below.trod En.laidOut (by kernel_rfl) (of_decide_eq_true (by kernel_rfl)) k2 bel lt2) trodAll_mk0))), rfl, bel.frame _, fun h => by cases h⟩

theorem over_codeRoundTrip : Rows.codeRoundTripRow.holds Tryd.pinned (OpenSpec.ofChange Rows.codeRoundTripSpec) :=
  OpenClaim.holds_of_wide 10 Tryd.f10 rfl rfl rfl rfl rfl rfl rfl ⟨rfl, rfl, rfl, rfl, rfl⟩ rfl rfl rfl rfl rfl (by kernel_rfl) Tryd.func10 (by kernel_rfl)
    (of_decide_eq_true (by kernel_rfl)) (by unfold Func.isWrapper; first | (rw [if_pos (by decide +kernel)]; kernel_rfl) | (rw [if_neg (by decide +kernel)]; exact ⟨rfl, rfl⟩))
    (fun os started H enc _ => lifted_codeRoundTrip os started H enc)

theorem codeRoundTrip_holds : Rows.CodeRoundTripCardSaid :=
  Claim7.holds_tied_plain_at .later [] Rows.codeRoundTripCard.laidKinds true Rows.codeRoundTripCard.stood.harness Rows.codeRoundTripCard.stood.looks
    over_codeRoundTrip (fun _ h => by cases h) (by kernel_rfl) (fun _ h => by cases h) codeRoundTrip_row_tie rfl ⟨rfl, rfl⟩ (by kernel_rfl) rfl
    (fun f fn hf hfn => by
      obtain rfl : f = 10 := Option.some.inj ((show Tryd.prog.funcNamed "smartcard/smartcardlaw27.CodeRoundTrip" = some 10 by kernel_rfl).symm.trans hf) |>.symm
      obtain rfl : fn = Tryd.f10 := (Option.some.inj (Tryd.func10.symm.trans hfn)).symm
      exact ⟨by kernel_rfl, fun j t ht => by
        rw [Tryd.params10] at ht
        have hm : t ∈ [28, 29, 9] := by simpa using Array.mem_of_getElem? ht
        have hall : ([28, 29, 9].all fun u => !Tryd.prog.wantsStandIn u) = true := by kernel_rfl
        exact (show Tryd.prog.wantsStandIn t = false by simpa using List.all_eq_true.1 hall t hm)⟩)
    (by kernel_rfl)
#print axioms codeRoundTrip_holds
end Go.Proofs.YtjpmogajlnkihaaDoor
