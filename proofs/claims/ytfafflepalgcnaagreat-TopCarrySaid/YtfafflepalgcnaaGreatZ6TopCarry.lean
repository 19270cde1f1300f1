/- A command and its response come through both protocols as they were sent: TopCarry returns true for every input, and the input reads as it did; there is no further condition. -/
import Derived.Test.YtfafflepalgcnaaGreatZ9
set_option linter.unusedSimpArgs false
set_option linter.unusedVariables false
namespace Go.Proofs.YtfafflepalgcnaaGreat
open Go Go.Joins Go.ChangeShapes Go.WideShapes Go.ChangeAt Go.RowKit Go.Deep En
set_option maxRecDepth 100000 in
theorem L (o : Os) (s : o.Started) (H : Type) (enc : TypeId × Value → H) :
 ReturnsInHanded {} Tryz.checked o 3 .any (Rows.topCarrySpec.pre6 enc Tryz.prog Tryz.f3 Rows.topCarryRow.domain false) (Rows.topCarrySpec.post enc Tryz.prog Tryz.f3 false true false false) := by
 refine returnsInHanded_of_change (C := Tryz.checked) En.own s (by kernel_rfl) Tryz.func3
  (ChangeSpec.witness6 (enc := enc) (C := Tryz.checked) false ⟨#[], #[.agg #[.int .i64 0, .int .i64 0, .int .i64 0, .int .i64 0, .slice none 0 0, .int .i64 0, .bool false], .agg #[.slice none 0 0, .int .i64 0], .int .i64 0], []⟩ 8 (by kernel_rfl) (by kernel_rfl) (by kernel_rfl) (by kernel_rfl)) ?_
 intro W base args ds gs before d4h hW d7x _
 have c8e : ∀ (j : Nat) t v, Tryz.f3.params[j]? = some t → args[j]? = some v → Value.okWide Tryz.prog W .any base t v := d4h
 have hW' := hW
 obtain ⟨p, q, hA0, hV, rfl, hfz, hnd⟩ := hW
 have hA : DataW.TrodAll enc Tryz.prog W 0 (fun _ => true) true Tryz.f3.params.toList args.toList ds p := hA0
 rw [Tryz.params3] at hA c8e
 obtain ⟨v0, vs0, d0, ds0, p0, q0, a0o, rfl, rfl, h0, r0⟩ := trodAll_cons hA
 obtain ⟨v1, vs1, d1, ds1, p1, q1, rfl, rfl, rfl, h1, r1⟩ := trodAll_cons r0
 obtain ⟨v2, vs2, d2, ds2, p2, q2, rfl, rfl, rfl, h2, r2⟩ := trodAll_cons r1
 obtain ⟨rfl, rfl, rfl⟩ := trodAll_nil r2
 obtain rfl : args = #[v0, v1, v2] := by cases args; simp_all
 obtain ⟨rfl, rfl⟩ := trodVars_none hV
 have l0 : ∀ x ∈ p0, x.block < W.heap.size := Exists.elim h0 fun m => DataW.trod_lt m _ _ _
 have l1 : ∀ x ∈ p1, x.block < W.heap.size := Exists.elim h1 fun m => DataW.trod_lt m _ _ _
 have l2 : ∀ x ∈ p2, x.block < W.heap.size := Exists.elim h2 fun m => DataW.trod_lt m _ _ _
 obtain ⟨n0, x0, f0, w0⟩ := b1q a6l a8g (by decide) Tryz.underlying24 (c8e 0 24 v0 rfl rfl) h0
 obtain ⟨ca0, cb0, cc0, cd0, ce0, cf0, cg0, rfl⟩ := d2N f0
 obtain ⟨n1, x1, f1, w1⟩ := b1q a6l a8g (by decide) Tryz.underlying26 (c8e 1 26 v1 rfl rfl) h1
 obtain ⟨ra1, rb1, rfl⟩ := c8E f1
 obtain ⟨n2, x2, f2, w2⟩ := d2b a6l a8g (by decide) Tryz.underlying3 (c8e 2 3 v2 rfl rfl) h2
 obtain ⟨ci2, rfl⟩ := d1s f2
 have walk := d2k (d4A (300000) _ _ _ _ _ _ _ _ _ _ true ((d4i (N := (300000)) _ _ _ _ _ _ _ _ _ _ (by decide)))) (a8E (c4R w0) (a8E (c4R w1) (a8E (d6C w2) d0e)))
 refine walk.mono fun e W' ⟨he, bel⟩ => ?_
 subst he
 exact ⟨_, rfl, _, _, _, [], _, [], hW', trodAll_mk1 (shut_bool Tryz.underlying4 _), (trodAll_cons_mk (Below.trod En.laidOut (by kernel_rfl) (of_decide_eq_true (by kernel_rfl)) h0 bel l0) (trodAll_cons_mk (Below.trod En.laidOut (by kernel_rfl) (of_decide_eq_true (by kernel_rfl)) h1 bel l1) (trodAll_cons_mk (Below.trod En.laidOut (by kernel_rfl) (of_decide_eq_true (by kernel_rfl)) h2 bel l2) trodAll_mk0))), rfl, bel.frame _, fun h => by cases h⟩
theorem topCarry_holds : Rows.TopCarrySaid :=
 OpenClaim.holds_of_wide 3 Tryz.f3 rfl rfl rfl rfl rfl rfl rfl ⟨rfl, rfl, rfl, rfl, rfl⟩ rfl rfl rfl rfl rfl (by kernel_rfl) Tryz.func3 (by kernel_rfl)
  (of_decide_eq_true (by kernel_rfl)) (by unfold Func.isWrapper; first | (rw [if_pos (by decide +kernel)]; kernel_rfl) | (rw [if_neg (by decide +kernel)]; exact ⟨rfl, rfl⟩))
  fun o s H enc _ => L o s H enc
#print axioms topCarry_holds
end Go.Proofs.YtfafflepalgcnaaGreat
