/- An exchange over a link with few disturbances succeeds: the row. -/
import Derived.Test.YtilfphdeacogmaaZ6
set_option linter.unusedSimpArgs false
set_option linter.unusedVariables false
namespace Go.Proofs.Ytilfphdeacogmaa
open Go Go.Joins Go.ChangeShapes Go.WideShapes Go.ChangeAt Go.RowKit Go.Deep En
set_option linter.unusedVariables false
set_option maxRecDepth 100000 in
theorem lifted_toneRecovers (os : Os) (started : os.Started) (H : Type) (enc : TypeId × Value → H) :
    ReturnsInHanded {} Try.checked os 7 .any (Rows.toneRecoversSpec.pre6 enc Try.prog Try.f7 Rows.toneRecoversRow.domain false) (Rows.toneRecoversSpec.post enc Try.prog Try.f7 false true false false) := by
  refine returnsInHanded_of_change (C := Try.checked) En.own started (by kernel_rfl) Try.func7
    (ChangeSpec.witness6 (enc := enc) (C := Try.checked) false ⟨#[], #[.int .i64 0, .int .i64 0, .int .i64 0, .slice none 0 0], []⟩ 8 (by kernel_rfl) (by kernel_rfl) (by kernel_rfl) (by kernel_rfl)) ?_
  intro W base args ds gs before hval0 hW hcnd _
  have hval : ∀ (j : Nat) t v, Try.f7.params[j]? = some t → args[j]? = some v → Value.okWide Try.prog W .any base t v := hval0
  have hW' := hW
  obtain ⟨p, q, hA0, hV, rfl, hfz, hnd⟩ := hW
  have hA : DataW.TrodAll enc Try.prog W 0 (fun _ => true) true Try.f7.params.toList args.toList ds p := hA0
  rw [Try.params7] at hA hval
  obtain ⟨v0, vs0, d0, ds0, p0, q0, hargs, rfl, rfl, h0, r0⟩ := trodAll_cons hA
  obtain ⟨v1, vs1, d1, ds1, p1, q1, rfl, rfl, rfl, h1, r1⟩ := trodAll_cons r0
  obtain ⟨v2, vs2, d2, ds2, p2, q2, rfl, rfl, rfl, h2, r2⟩ := trodAll_cons r1
  obtain ⟨v3, vs3, d3, ds3, p3, q3, rfl, rfl, rfl, h3, r3⟩ := trodAll_cons r2
  obtain ⟨rfl, rfl, rfl⟩ := trodAll_nil r3
  obtain rfl : args = #[v0, v1, v2, v3] := by cases args; simp_all
  obtain ⟨rfl, rfl⟩ := trodVars_none hV
  have k0 := h0
  have lt0 : ∀ x ∈ p0, x.block < W.heap.size := by obtain ⟨m, hm⟩ := k0; exact DataW.trod_lt m _ _ _ hm
  have k1 := h1
  have lt1 : ∀ x ∈ p1, x.block < W.heap.size := by obtain ⟨m, hm⟩ := k1; exact DataW.trod_lt m _ _ _ hm
  have k2 := h2
  have lt2 : ∀ x ∈ p2, x.block < W.heap.size := by obtain ⟨m, hm⟩ := k2; exact DataW.trod_lt m _ _ _ hm
  have k3 := h3
  have lt3 : ∀ x ∈ p3, x.block < W.heap.size := by obtain ⟨m, hm⟩ := k3; exact DataW.trod_lt m _ _ _ hm
  clear hA0
  obtain ⟨n0, x0, f0, w0⟩ := arg_int T_ok argTys_ok (by decide) Try.underlying3 (hval 0 3 v0 rfl rfl) h0
  obtain ⟨ci0, rfl⟩ := int_arg f0
  obtain ⟨n1, x1, f1, w1⟩ := arg_int T_ok argTys_ok (by decide) Try.underlying3 (hval 1 3 v1 rfl rfl) h1
  obtain ⟨ci1, rfl⟩ := int_arg f1
  obtain ⟨n2, x2, f2, w2⟩ := arg_int T_ok argTys_ok (by decide) Try.underlying3 (hval 2 3 v2 rfl rfl) h2
  obtain ⟨ci2, rfl⟩ := int_arg f2
  obtain ⟨n3, x3, f3, w3⟩ := arg_slice T_ok argTys_ok (by decide) Try.underlying65 (hval 3 65 v3 rfl rfl) h3
  obtain ⟨ce3, rfl, g3⟩ := exs_arg f3
  clear hval0
  have walk := walk_of (p_wRecovers (9223372036854785000) _ _ _ _ true (wRecovers_eq (9223372036854785000) (by omega) _ _ _ _ g3)) (reps_cons (rep_v w0) (reps_cons (rep_v w1) (reps_cons (rep_v w2) (reps_cons (rep_v w3) reps_nil))))
  refine walk.mono fun e W' ⟨he, bel⟩ => ?_
  subst he
  exact ⟨_, rfl, _, _, _, [], _, [], hW', trodAll_mk1 (shut_bool Try.underlying4 _), (trodAll_cons_mk (Below.trod En.laidOut (by kernel_rfl) (of_decide_eq_true (by kernel_rfl)) k0 bel lt0) (trodAll_cons_mk (Below.trod En.laidOut (by kernel_rfl) (of_decide_eq_true (by kernel_rfl)) k1 bel lt1) (trodAll_cons_mk (Below.trod En.laidOut (by kernel_rfl) (of_decide_eq_true (by kernel_rfl)) k2 bel lt2) (trodAll_cons_mk (Below.trod En.laidOut (by kernel_rfl) (of_decide_eq_true (by kernel_rfl)) k3 bel lt3) trodAll_mk0)))), rfl, bel.frame _, fun h => by cases h⟩

theorem over_toneRecovers : Rows.toneRecoversRow.holds Try.pinned (OpenSpec.ofChange Rows.toneRecoversSpec) :=
  OpenClaim.holds_of_wide 7 Try.f7 rfl rfl rfl rfl rfl rfl rfl ⟨rfl, rfl, rfl, rfl, rfl⟩ rfl rfl rfl rfl rfl (by kernel_rfl) Try.func7 (by kernel_rfl)
    (of_decide_eq_true (by kernel_rfl)) (by unfold Func.isWrapper; first | (rw [if_pos (by decide +kernel)]; kernel_rfl) | (rw [if_neg (by decide +kernel)]; exact ⟨rfl, rfl⟩))
    (fun os started H enc _ => lifted_toneRecovers os started H enc)

theorem toneRecovers_holds : Rows.ToneRecoversSaid := over_toneRecovers
#print axioms toneRecovers_holds
end Go.Proofs.Ytilfphdeacogmaa
