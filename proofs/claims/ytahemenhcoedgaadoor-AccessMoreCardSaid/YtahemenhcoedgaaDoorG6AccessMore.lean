/- For any rules, any operation and any two security statuses, smartcardlaw14.AccessMore returns true: what is permitted remains permitted with more rights; what came in reads behind the call as it read before. No condition. -/
import Derived.Test.YtahemenhcoedgaaDoorG6
set_option linter.unusedSimpArgs false
set_option linter.unusedVariables false
namespace Go.Proofs.YtahemenhcoedgaaDoor
open Go Go.Joins Go.ChangeShapes Go.WideShapes Go.ChangeAt Go.RowKit Go.Deep En
set_option linter.unusedVariables false
set_option maxRecDepth 100000 in
theorem lifted_accessMore (os : Os) (started : os.Started) (H : Type) (enc : TypeId × Value → H) :
    ReturnsInHanded {} Tryd.checked os 11 .any (fun w args => (Rows.accessMoreSpec.pre enc Tryd.prog Tryd.f11 [] false w args ∧ laidMetH Tryd.prog Rows.accessMoreRow.laid w) ∧ sizedMet enc Tryd.prog Tryd.f11 (OpenSpec.ofChange Rows.accessMoreSpec) false w args) (Rows.accessMoreSpec.post enc Tryd.prog Tryd.f11 false true false false) := by
  refine returnsInHanded_of_change_and (C := Tryd.checked) (X := fun w _ => laidMetH Tryd.prog Rows.accessMoreRow.laid w) (fun _ _ _ hh h => h.of_heap hh) En.own started (by kernel_rfl) Tryd.func11
    (ChangeSpec.witness_shaped (enc := enc) (C := Tryd.checked) (os := os) (X := fun w _ => laidMetH Tryd.prog Rows.accessMoreRow.laid w) false (World.doorLaid Tryd.prog 400 os) #[.slice none 0 0, .int .i64 0, .agg #[.int .i64 0, .int .i64 0, .int .i64 0, .int .i64 0], .agg #[.int .i64 0, .int .i64 0, .int .i64 0, .int .i64 0]] 8 rfl (En.door_shaped os _) (by kernel_rfl) (by kernel_rfl) (by kernel_rfl) (En.door_met os _)) ?_
  intro W base args ds gs before hval0 hW _ _ _ _
  have hval : ∀ (j : Nat) t v, Tryd.f11.params[j]? = some t → args[j]? = some v → Value.okWide Tryd.prog W .any base t v := hval0
  have hW' := hW
  obtain ⟨p, q, hA0, hV, rfl, hfz, hnd⟩ := hW
  have hA : DataW.TrodAll enc Tryd.prog W 0 (fun _ => true) true Tryd.f11.params.toList args.toList ds p := hA0
  rw [Tryd.params11] at hA hval
  obtain ⟨v0, vs0, d0, ds0, p0, q0, hargs, rfl, rfl, h0, r0⟩ := trodAll_cons hA
  obtain ⟨v1, vs1, d1, ds1, p1, q1, rfl, rfl, rfl, h1, r1⟩ := trodAll_cons r0
  obtain ⟨v2, vs2, d2, ds2, p2, q2, rfl, rfl, rfl, h2, r2⟩ := trodAll_cons r1
  obtain ⟨v3, vs3, d3, ds3, p3, q3, rfl, rfl, rfl, h3, r3⟩ := trodAll_cons r2
  obtain ⟨rfl, rfl, rfl⟩ := trodAll_nil r3
  obtain rfl : args = #[v0, v1, v2, v3] := by cases args; simp_all
  obtain ⟨rfl, rfl⟩ := trodVars_none hV
  have k0 := h0
  have lt0 : ∀ x ∈ p0, x.block < W.heap.size := by obtain ⟨m, hm⟩ := k0; exact DataW.trod_lt m _ _ _ hm
  have k1 := h1
  have lt1 : ∀ x ∈ p1, x.block < W.heap.size := by obtain ⟨m, hm⟩ := k1; exact DataW.trod_lt m _ _ _ hm
  have k2 := h2
  have lt2 : ∀ x ∈ p2, x.block < W.heap.size := by obtain ⟨m, hm⟩ := k2; exact DataW.trod_lt m _ _ _ hm
  have k3 := h3
  have lt3 : ∀ x ∈ p3, x.block < W.heap.size := by obtain ⟨m, hm⟩ := k3; exact DataW.trod_lt m _ _ _ hm
  clear hA0
  obtain ⟨n0, x0, f0, w0⟩ := arg_slice T_ok argTys_ok (by decide) Tryd.underlying37 (hval 0 37 v0 rfl rfl) h0
  obtain ⟨cl0, rfl, g0⟩ := rules_arg f0
  obtain ⟨n1, x1, f1, w1⟩ := arg_int T_ok argTys_ok (by decide) Tryd.underlying3 (hval 1 3 v1 rfl rfl) h1
  obtain ⟨ci1, rfl, g1⟩ := int_arg f1
  obtain ⟨n2, x2, f2, w2⟩ := arg_struct T_ok argTys_ok (by decide) Tryd.underlying31 (hval 2 31 v2 rfl rfl) h2
  obtain ⟨sa2, sb2, sc2, sd2, rfl⟩ := sec_arg f2
  obtain ⟨n3, x3, f3, w3⟩ := arg_struct T_ok argTys_ok (by decide) Tryd.underlying31 (hval 3 31 v3 rfl rfl) h3
  obtain ⟨sa3, sb3, sc3, sd3, rfl⟩ := sec_arg f3
  clear hval0
  have walk := walk_of (p_wMore (200001 + sumR cl0) _ _ _ _ _ _ _ _ _ _ true (wMore_eq (200001 + sumR cl0) (by omega) g0 (by omega) _ _ _ _ _ _ _ _ _)) (reps_cons (rep_v w0) (reps_cons (rep_v w1) (reps_cons (rep_agg w2) (reps_cons (rep_agg w3) reps_nil))))
  refine walk.mono fun e W' ⟨he, bel⟩ => ?_
  subst he
  exact ⟨_, rfl, _, _, _, [], _, [], hW', trodAll_mk1 (shut_bool Tryd.underlying4 _), (trodAll_cons_mk (Below.trod En.laidOut (by kernel_rfl) (of_decide_eq_true (by kernel_rfl)) k0 bel lt0) (trodAll_cons_mk (Below.trod En.laidOut (by kernel_rfl) (of_decide_eq_true (by kernel_rfl)) k1 bel lt1) (trodAll_cons_mk (Below.trod En.laidOut (by kernel_rfl) (of_decide_eq_true (by kernel_rfl)) k2 bel lt2) (trodAll_cons_mk (Below.trod En.laidOut (by kernel_rfl) (of_decide_eq_true (by kernel_rfl)) k3 bel lt3) trodAll_mk0)))), rfl, bel.frame _, fun h => by cases h⟩

theorem over_accessMore : Rows.accessMoreRow.holds Tryd.pinned (OpenSpec.ofChange Rows.accessMoreSpec) :=
  OpenClaim.holds_of_wide 11 Tryd.f11 rfl rfl rfl rfl rfl rfl rfl ⟨rfl, rfl, rfl, rfl, rfl⟩ rfl rfl rfl rfl rfl (by kernel_rfl) Tryd.func11 (by kernel_rfl)
    (of_decide_eq_true (by kernel_rfl)) (by unfold Func.isWrapper; first | (rw [if_pos (by decide +kernel)]; kernel_rfl) | (rw [if_neg (by decide +kernel)]; exact ⟨rfl, rfl⟩))
    (fun os started H enc _ => lifted_accessMore os started H enc)

theorem accessMore_holds : Rows.AccessMoreCardSaid :=
  Claim7.holds_tied_plain_at .later [] Rows.accessMoreCard.laidKinds true Rows.accessMoreCard.stood.harness Rows.accessMoreCard.stood.looks
    over_accessMore (fun _ h => by cases h) (by kernel_rfl) (fun _ h => by cases h) accessMore_row_tie rfl ⟨rfl, rfl⟩ (by kernel_rfl) rfl
    (fun f fn hf hfn => by
      obtain rfl : f = 11 := Option.some.inj ((show Tryd.prog.funcNamed "smartcard/smartcardlaw14.AccessMore" = some 11 by kernel_rfl).symm.trans hf) |>.symm
      obtain rfl : fn = Tryd.f11 := (Option.some.inj (Tryd.func11.symm.trans hfn)).symm
      exact ⟨by kernel_rfl, fun j t ht => by
        rw [Tryd.params11] at ht
        have hm : t ∈ [37, 3, 31, 31] := by simpa using Array.mem_of_getElem? ht
        have hall : ([37, 3, 31, 31].all fun u => !Tryd.prog.wantsStandIn u) = true := by kernel_rfl
        exact (show Tryd.prog.wantsStandIn t = false by simpa using List.all_eq_true.1 hall t hm)⟩)
    (by kernel_rfl)
#print axioms accessMore_holds
end Go.Proofs.YtahemenhcoedgaaDoor
