/- Several texts in one. -/
import Derived.Test.YtllnklkjkjmjbaaI5
import Derived.Test.YtllnklkjkjmjbaaRows
import Derived.ProofKit
import Derived.OpenShut
import Derived.ShutString
import Derived.ChangeOld
import Derived.Below
import Derived.Lib.SmallJoins

set_option linter.unusedSimpArgs false
set_option linter.unusedVariables false
set_option linter.unusedSectionVars false
/- Conditions: which are valid, how long, how deep, satisfied: the program and the reference. -/
namespace Go.Proofs.Ytllnklkjkjmjbaa.En
open Go
set_option linter.unusedVariables false
abbrev ce (o m : Int) (k : Cl) : V := .agg [.int .i64 o, .int .i64 m, .sl 46 k.enc]
abbrev K63 (k : Cl) : Prop := k.len ≤ 9223372036854775807
theorem enc_cons (o m : Int) (k r : Cl) : (Cl.cons o m k r).enc = ce o m k :: r.enc := rfl
theorem stepC (pre : List V) (x : V) (r : Cl) (h : pre.length + (r.len + 1) ≤ 9223372036854775807) :
    (pre.length : Int) < ((pre ++ x :: r.enc).length : Int) ∧ (0 : Int) ≤ pre.length ∧ IntKind.i64.wrap ((pre.length : Int) + 1) = ((pre ++ [x]).length : Int) ∧ ((pre ++ x :: r.enc).length : Int) = (((pre ++ [x]) ++ r.enc).length : Int) :=
  stepI pre x r.enc (by rw [Cl.enc_len]; exact h)
section
variable (N : Nat)
theorem andNot_eq {m : Int} (h1 : 1 ≤ m) (h2 : m ≤ 51) : decide (bitsI BinOp.andNot IntKind.i64 m 51 = 0) = decide (bitsI BinOp.and IntKind.i64 51 m = m) := by
  have key : ∀ n : Fin 52, decide (bitsI BinOp.andNot IntKind.i64 (n.val : Int) 51 = 0) = decide (bitsI BinOp.and IntKind.i64 51 (n.val : Int) = (n.val : Int)) := by decide +kernel
  obtain ⟨k, rfl⟩ := Int.eq_ofNat_of_zero_le (by omega : 0 ≤ m)
  exact key ⟨k, by omega⟩
theorem IndexFuncA_loop (f : Int → Int → List V → Int → Option Bool) (n : Nat) (d : Int) (hf : ∀ (o m : Int) (k : Cl) (d : Int), k.nodes < n → k.wf → K63 k → f o m k.enc d = some (vC o m k)) :
    ∀ (l : Cl) (pre : List V) (t : Nat), l.len < t → l.nodes ≤ n → l.wf → pre.length + l.len ≤ 9223372036854775807 →
      ∃ i, S_IndexFuncA_2 N f (pre ++ l.enc) ((pre ++ l.enc).length : Int) d t (pre.length : Int) (fun n0 => some n0) (some (-1)) = some i ∧ decide (0 ≤ i) = !vL l
  | l, pre, 0, ht, _, _, _ => by omega
  | .nil, pre, t + 1, ht, _, _, _ => by
    unfold S_IndexFuncA_2 F_IndexFuncA_2
    simp only [Cl.enc, br_t, br_f, br_dec, br_not, br_and, br_or, bnd1_mk, bnd2_mk, bnd3_mk, bnd4_mk, bnd5_mk, bnd10_mk, at_zero, at_succ, at_mid, unInt_mk, unBool_mk, unStr_mk, unBytes_mk, unSl_mk, unAgg_mk, unCons_mk, unNil_mk, endI, if_false]
    exact ⟨-1, rfl, by simp [vL]⟩
  | .cons o m k r, pre, t + 1, ht, hn, hw, hl => by
    simp only [Cl.len, Cl.nodes] at ht hn hl
    obtain ⟨_, _, hk1, hk2, hr⟩ := hw
    obtain ⟨h1, h2, h3, h4⟩ := stepC pre (ce o m k) r hl
    obtain ⟨i, ih1, ih2⟩ := IndexFuncA_loop f n d hf r (pre ++ [ce o m k]) t (by omega) (by omega) hr (by simp; omega)
    rw [← mid, ← h3] at ih1
    unfold S_IndexFuncA_2 F_IndexFuncA_2 s_avalid1 C_avalid1
    rw [vL_cons]
    simp only [enc_cons, br_t, br_f, br_dec, br_not, br_and, br_or, bnd1_mk, bnd2_mk, bnd3_mk, bnd4_mk, bnd5_mk, bnd10_mk, at_zero, at_succ, at_mid, unInt_mk, unBool_mk, unStr_mk, unBytes_mk, unSl_mk, unAgg_mk, unCons_mk, unNil_mk, h1, h2, if_true, Int.toNat_natCast, hf o m k _ (by omega) hk2 hk1]
    cases vC o m k with
    | false => exact ⟨_, rfl, by simp⟩
    | true => exact ⟨i, ih1, by rw [ih2]; rfl⟩
theorem avalid_eq : ∀ (M : Nat) (o m : Int) (k : Cl) (d : Int), k.nodes < M → k.nodes < N → k.wf → K63 k → s_avalid N M o m k.enc d = some (vC o m k)
  | 0, o, m, k, d, h, _, _, _ => by omega
  | M + 1, o, m, k, d, h, hN, hw, hl => by
    have hln := Cl.len_le k
    obtain ⟨i, i1, i2⟩ := IndexFuncA_loop N (s_avalid N M) k.nodes d (fun o m k' d' a1 a2 a3 => avalid_eq M o m k' d' (by omega) (by omega) a2 a3) k [] N (by omega) (Nat.le_refl _) hw (by simpa using hl)
    have i1' : S_IndexFuncA_2 N (s_avalid N M) k.enc (k.enc.length : Int) d N 0 (fun n0 => some n0) (some (-1)) = some i := i1
    have hz : ((k.enc.length : Int) = 0) = (k.len = 0) := by rw [Cl.enc_len]; exact propext (by omega)
    have hp : ((0 : Int) < (k.enc.length : Int)) = (k.len ≠ 0) := by rw [Cl.enc_len]; exact propext (by omega)
    have hc : s_ContainsFuncA N (s_avalid N M) k.enc d = some (!vL k) := by
      unfold s_ContainsFuncA C_ContainsFuncA s_IndexFuncA C_IndexFuncA
      rw [i1', bnd1_mk]
      exact congrArg some i2
    have hv0 : k.len = 0 → vL k = true := by cases k <;> simp [Cl.len, vL]
    unfold s_avalid B_avalid
    simp only [hc, hz, hp, s_forms, bnd1_mk, br_dec, br_not, Bool.not_not, vC, vL, Bool.and_true]
    by_cases h0 : o < 0
    · rw [if_pos h0, if_neg (by omega), if_neg (by omega), if_neg (by omega), if_neg (by omega), if_neg (by omega)]
    rw [if_neg h0]
    by_cases h9 : 7 < o
    · rw [if_pos h9, if_neg (by omega), if_neg (by omega), if_neg (by omega), if_neg (by omega), if_neg (by omega)]
    rw [if_neg h9]
    rcases (by omega : o = 0 ∨ o = 1 ∨ o = 2 ∨ o = 3 ∨ o = 4 ∨ o = 5 ∨ o = 6 ∨ o = 7) with rfl | rfl | rfl | rfl | rfl | rfl | rfl | rfl
    · by_cases hm : m = 0 <;> by_cases hk : k.len = 0 <;> simp [hm, hk, hv0]
    · by_cases hm : m = 0 <;> by_cases hk : k.len = 0 <;> simp [hm, hk, hv0]
    · by_cases ha : m < 1 <;> by_cases hb : 8 < m <;> by_cases hk : k.len = 0 <;> simp [ha, hb, hk, hv0] <;> omega
    · by_cases ha : m < 1 <;> by_cases hb : 8 < m <;> by_cases hk : k.len = 0 <;> simp [ha, hb, hk, hv0] <;> omega
    · by_cases ha : m < 1 <;> by_cases hb : 5 < m <;> by_cases hk : k.len = 0 <;> simp [ha, hb, hk, hv0] <;> omega
    · by_cases ha : m < 1
      · simp [ha]; omega
      by_cases hb : 51 < m
      · have : ¬ bitsI BinOp.and IntKind.i64 51 m = m := fun e => by have := level_range (by omega) e; omega
        simp [ha, hb, this]
      have he := andNot_eq (m := m) (by omega) (by omega)
      rw [decide_eq_decide] at he
      by_cases hk : k.len = 0
      · by_cases hx : bitsI BinOp.and IntKind.i64 51 m = m
        · simp [ha, hb, hk, hv0, hx, he.2 hx]; omega
        · simp [ha, hb, hk, hv0, hx, he]
      · simp [ha, hb, hk]
    · by_cases hm : m = 0 <;> by_cases hk : k.len = 0 <;> simp [hm, hk]
    · by_cases hm : m = 0 <;> by_cases hk : k.len = 0 <;> simp [hm, hk]
/-! Nodes, depth -/
theorem measure_loop {R : Type} (f : Int → Int → List V → Option (Int × Int)) (n : Nat) (hf : ∀ (o m : Int) (k : Cl), k.nodes < n → k.wf → K63 k → f o m k.enc = some ((k.nodes : Int) + 1, (k.dep : Int) + 1)) (x y : Int) (z : List V) (K : Int → Int → Option R) :
    ∀ (l : Cl) (pre : List V) (t : Nat) (a b : Nat), l.len < t → l.nodes ≤ n → l.wf → pre.length + l.len ≤ 9223372036854775807 → a + l.nodes ≤ 10000000000000000 →
      S_measure_3 N f (pre ++ l.enc) ((pre ++ l.enc).length : Int) x y z t (a : Int) (b : Int) (pre.length : Int) K = K ((a + l.nodes : Nat) : Int) ((max b l.dep : Nat) : Int)
  | l, pre, 0, a, b, ht, _, _, _, _ => by omega
  | .nil, pre, t + 1, a, b, ht, _, _, _, _ => by
    unfold S_measure_3 F_measure_3
    simp only [Cl.enc, br_t, br_f, br_dec, br_not, br_and, br_or, bnd1_mk, bnd2_mk, bnd3_mk, bnd4_mk, bnd5_mk, bnd10_mk, at_zero, at_succ, at_mid, unInt_mk, unBool_mk, unStr_mk, unBytes_mk, unSl_mk, unAgg_mk, unCons_mk, unNil_mk, endI, if_false]
    simp [Cl.nodes, Cl.dep]
  | .cons o m k r, pre, t + 1, a, b, ht, hn, hw, hl, ha => by
    simp only [Cl.len, Cl.nodes] at ht hn hl ha
    obtain ⟨_, _, hk1, hk2, hr⟩ := hw
    obtain ⟨h1, h2, h3, h4⟩ := stepC pre (ce o m k) r hl
    have ih := measure_loop f n hf x y z K r (pre ++ [ce o m k]) t (a + (k.nodes + 1)) (max b (k.dep + 1)) (by omega) (by omega) hr (by simp; omega) (by omega)
    rw [← mid, ← h3] at ih
    unfold S_measure_3 F_measure_3
    simp only [enc_cons, br_t, br_f, br_dec, br_not, br_and, br_or, bnd1_mk, bnd2_mk, bnd3_mk, bnd4_mk, bnd5_mk, bnd10_mk, at_zero, at_succ, at_mid, unInt_mk, unBool_mk, unStr_mk, unBytes_mk, unSl_mk, unAgg_mk, unCons_mk, unNil_mk, h1, h2, if_true, Int.toNat_natCast, hf o m k (by omega) hk2 hk1]
    have e1 : IntKind.i64.wrap ((a : Int) + ((k.nodes : Int) + 1)) = ((a + (k.nodes + 1) : Nat) : Int) := by rw [w64 (by omega) (by omega)]; omega
    have e2 : max (b : Int) ((k.dep : Int) + 1) = ((max b (k.dep + 1) : Nat) : Int) := by omega
    rw [e1, e2, ih]
    simp only [Cl.nodes, Cl.dep]
    rw [show max (max b (k.dep + 1)) r.dep = max b (max (k.dep + 1) r.dep) by omega, show a + (k.nodes + 1) + r.nodes = a + (k.nodes + r.nodes + 1) by omega]
theorem measure_eq : ∀ (M : Nat) (o m : Int) (k : Cl), k.nodes < M → k.nodes < N → k.nodes ≤ 1000000000000000 → k.wf → K63 k → s_measure N M o m k.enc = some ((k.nodes : Int) + 1, (k.dep : Int) + 1)
  | 0, o, m, k, h, _, _, _, _ => by omega
  | M + 1, o, m, k, h, hN, hs, hw, hl => by
    have hln := Cl.len_le k
    have hd := Cl.dep_le k
    have hL := measure_loop N (s_measure N M) k.nodes (fun o m k' a1 a2 a3 => measure_eq M o m k' (by omega) (by omega) (by omega) a2 a3) o m k.enc (fun n0 n1 => some (n0, IntKind.i64.wrap (n1 + 1))) k [] N 1 0 (by omega) (Nat.le_refl _) hw (by simpa using hl) (by omega)
    unfold s_measure B_measure
    refine hL.trans ?_
    rw [w64 (by omega) (by omega)]
    congr 2 <;> omega
theorem qnodes_loop {R : Type} (f : Int → Int → List V → Option Int) (n : Nat) (hf : ∀ (o m : Int) (k : Cl), k.nodes < n → k.wf → K63 k → f o m k.enc = some ((k.nodes : Int) + 1)) (x y : Int) (K : Int → Option R) :
    ∀ (l : Cl) (pre : List V) (t : Nat) (a : Nat), l.len < t → l.nodes ≤ n → l.wf → pre.length + l.len ≤ 9223372036854775807 → a + l.nodes ≤ 10000000000000000 →
      S_qnodes_3 N f x y (pre ++ l.enc) t (a : Int) (pre.length : Int) K = K ((a + l.nodes : Nat) : Int)
  | l, pre, 0, a, ht, _, _, _, _ => by omega
  | .nil, pre, t + 1, a, ht, _, _, _, _ => by
    unfold S_qnodes_3 F_qnodes_3
    simp only [Cl.enc, br_t, br_f, br_dec, br_not, br_and, br_or, bnd1_mk, bnd2_mk, bnd3_mk, bnd4_mk, bnd5_mk, bnd10_mk, at_zero, at_succ, at_mid, unInt_mk, unBool_mk, unStr_mk, unBytes_mk, unSl_mk, unAgg_mk, unCons_mk, unNil_mk, endI, if_false]
    simp [Cl.nodes]
  | .cons o m k r, pre, t + 1, a, ht, hn, hw, hl, ha => by
    simp only [Cl.len, Cl.nodes] at ht hn hl ha
    obtain ⟨_, _, hk1, hk2, hr⟩ := hw
    obtain ⟨h1, h2, h3, h4⟩ := stepC pre (ce o m k) r hl
    have ih := qnodes_loop f n hf x y K r (pre ++ [ce o m k]) t (a + (k.nodes + 1)) (by omega) (by omega) hr (by simp; omega) (by omega)
    rw [← mid, ← h3] at ih
    unfold S_qnodes_3 F_qnodes_3
    simp only [enc_cons, br_t, br_f, br_dec, br_not, br_and, br_or, bnd1_mk, bnd2_mk, bnd3_mk, bnd4_mk, bnd5_mk, bnd10_mk, at_zero, at_succ, at_mid, unInt_mk, unBool_mk, unStr_mk, unBytes_mk, unSl_mk, unAgg_mk, unCons_mk, unNil_mk, h1, h2, if_true, Int.toNat_natCast, hf o m k (by omega) hk2 hk1]
    have e1 : IntKind.i64.wrap ((a : Int) + ((k.nodes : Int) + 1)) = ((a + (k.nodes + 1) : Nat) : Int) := by rw [w64 (by omega) (by omega)]; omega
    rw [e1, ih]
    simp only [Cl.nodes]
    rw [show a + (k.nodes + 1) + r.nodes = a + (k.nodes + r.nodes + 1) by omega]
theorem qnodes_eq : ∀ (M : Nat) (o m : Int) (k : Cl), k.nodes < M → k.nodes < N → k.nodes ≤ 1000000000000000 → k.wf → K63 k → s_qnodes N M o m k.enc = some ((k.nodes : Int) + 1)
  | 0, o, m, k, h, _, _, _, _ => by omega
  | M + 1, o, m, k, h, hN, hs, hw, hl => by
    have hln := Cl.len_le k
    have hL := qnodes_loop N (s_qnodes N M) k.nodes (fun o m k' a1 a2 a3 => qnodes_eq M o m k' (by omega) (by omega) (by omega) a2 a3) o m (fun n0 => some n0) k [] N 1 (by omega) (Nat.le_refl _) hw (by simpa using hl) (by omega)
    unfold s_qnodes B_qnodes
    refine hL.trans ?_
    congr 1 <;> omega
theorem qdepth_loop {R : Type} (f : Int → Int → List V → Option Int) (n : Nat) (hf : ∀ (o m : Int) (k : Cl), k.nodes < n → k.wf → K63 k → f o m k.enc = some ((k.dep : Int) + 1)) (x y : Int) (K : Int → Option R) :
    ∀ (l : Cl) (pre : List V) (t : Nat) (b : Nat), l.len < t → l.nodes ≤ n → l.wf → pre.length + l.len ≤ 9223372036854775807 →
      S_qdepth_3 N f x y (pre ++ l.enc) t (b : Int) (pre.length : Int) K = K ((max b l.dep : Nat) : Int)
  | l, pre, 0, b, ht, _, _, _ => by omega
  | .nil, pre, t + 1, b, ht, _, _, _ => by
    unfold S_qdepth_3 F_qdepth_3
    simp only [Cl.enc, br_t, br_f, br_dec, br_not, br_and, br_or, bnd1_mk, bnd2_mk, bnd3_mk, bnd4_mk, bnd5_mk, bnd10_mk, at_zero, at_succ, at_mid, unInt_mk, unBool_mk, unStr_mk, unBytes_mk, unSl_mk, unAgg_mk, unCons_mk, unNil_mk, endI, if_false]
    simp [Cl.dep]
  | .cons o m k r, pre, t + 1, b, ht, hn, hw, hl => by
    simp only [Cl.len, Cl.nodes] at ht hn hl
    obtain ⟨_, _, hk1, hk2, hr⟩ := hw
    obtain ⟨h1, h2, h3, h4⟩ := stepC pre (ce o m k) r hl
    have ih := fun b => qdepth_loop f n hf x y K r (pre ++ [ce o m k]) t b (by omega) (by omega) hr (by simp; omega)
    rw [← mid, ← h3] at ih
    unfold S_qdepth_3 F_qdepth_3
    simp only [enc_cons, br_t, br_f, br_dec, br_not, br_and, br_or, bnd1_mk, bnd2_mk, bnd3_mk, bnd4_mk, bnd5_mk, bnd10_mk, at_zero, at_succ, at_mid, unInt_mk, unBool_mk, unStr_mk, unBytes_mk, unSl_mk, unAgg_mk, unCons_mk, unNil_mk, h1, h2, if_true, Int.toNat_natCast, hf o m k (by omega) hk2 hk1, Cl.dep]
    by_cases c : (b : Int) < (k.dep : Int) + 1
    · have := ih (k.dep + 1)
      rw [if_pos c, show ((k.dep : Int) + 1) = ((k.dep + 1 : Nat) : Int) by omega, this]
      exact congrArg (fun z : Nat => K (z : Int)) (by omega)
    · rw [if_neg c, ih b]
      exact congrArg (fun z : Nat => K (z : Int)) (by omega)
theorem qdepth_eq : ∀ (M : Nat) (o m : Int) (k : Cl), k.nodes < M → k.nodes < N → k.nodes ≤ 1000000000000000 → k.wf → K63 k → s_qdepth N M o m k.enc = some ((k.dep : Int) + 1)
  | 0, o, m, k, h, _, _, _, _ => by omega
  | M + 1, o, m, k, h, hN, hs, hw, hl => by
    have hln := Cl.len_le k
    have hd := Cl.dep_le k
    have hL := qdepth_loop N (s_qdepth N M) k.nodes (fun o m k' a1 a2 a3 => qdepth_eq M o m k' (by omega) (by omega) (by omega) a2 a3) o m (fun n0 => some (IntKind.i64.wrap (n0 + 1))) k [] N 0 (by omega) (Nat.le_refl _) hw (by simpa using hl)
    unfold s_qdepth B_qdepth
    refine hL.trans ?_
    rw [w64 (by omega) (by omega)]
    congr 1 <;> omega
/-- A condition that came in, small. -/
structure GoodC (N : Nat) (k : Cl) : Prop where
  wf : k.wf
  len : K63 k
  nodes : k.nodes ≤ 1000000000000000
  fuel : k.nodes < N
def chk (o m : Int) (k : Cl) : Int := if vC o m k = true then (if 16 < k.nodes + 1 ∨ 8 < k.dep + 1 then 3 else 0) else 1
theorem aCheck_eq (o m : Int) (k : Cl) (g : GoodC N k) : s_aCheck N o m k.enc = some (chk o m k) := by
  unfold s_aCheck chk
  rw [avalid_eq N N o m k 1 g.fuel g.fuel g.wf g.len, bnd1_mk, br_not]
  cases vC o m k with
  | false => rfl
  | true =>
    simp only [measure_eq N N o m k g.fuel g.fuel g.nodes g.wf g.len, br_t, bnd2_mk, br_dec, if_true]
    by_cases h1 : 16 < k.nodes + 1
    · rw [if_pos (by omega), if_pos (.inl h1)]
    · rw [if_neg (by omega)]
      by_cases h2 : 8 < k.dep + 1
      · rw [if_pos (by omega), if_pos (.inr h2)]
      · rw [if_neg (by omega), if_neg (by omega)]
theorem qCheck_eq (o m : Int) (k : Cl) (g : GoodC N k) : s_qCheck N o m k.enc = some (chk o m k) := by
  unfold s_qCheck chk
  rw [qvalid_ok N N o m k (Nat.le_refl _) g.fuel g.wf g.len, bnd1_mk, br_not]
  cases vC o m k with
  | false => rfl
  | true =>
    simp only [qnodes_eq N N o m k g.fuel g.fuel g.nodes g.wf g.len, qdepth_eq N N o m k g.fuel g.fuel g.nodes g.wf g.len, br_t, bnd1_mk, br_dec, if_true]
    by_cases h1 : 16 < k.nodes + 1
    · rw [if_pos (by omega), if_pos (.inl h1)]
    · rw [if_neg (by omega)]
      by_cases h2 : 8 < k.dep + 1
      · rw [if_pos (by omega), if_pos (.inr h2)]
      · rw [if_neg (by omega), if_neg (by omega)]
theorem chk_zero {o m : Int} {k : Cl} (h : chk o m k = 0) : vC o m k = true ∧ k.nodes ≤ 15 ∧ k.dep ≤ 7 := by
  unfold chk at h
  split at h
  · rename_i hv
    split at h
    · omega
    · exact ⟨hv, by omega, by omega⟩
  · omega
/-! Satisfied -/
end
end Go.Proofs.Ytllnklkjkjmjbaa.En

/- Rules: which are small, which are valid, what they permit: the program and the reference. -/
namespace Go.Proofs.Ytllnklkjkjmjbaa.En
open Go
set_option linter.unusedVariables false
/-- A rule. -/
structure Ru where
  ops : Int
  o : Int
  m : Int
  k : Cl
  deriving DecidableEq
def Ru.enc (r : Ru) : V := .agg [.int .i64 r.ops, .int .i64 r.o, .int .i64 r.m, .sl 46 r.k.enc]
def rE : List Ru → List V
  | [] => []
  | r :: l => .agg [.int .i64 r.ops, .int .i64 r.o, .int .i64 r.m, .sl 46 r.k.enc] :: rE l
theorem rE_len : ∀ l : List Ru, (rE l).length = l.length
  | [] => rfl
  | r :: l => by simp [rE, rE_len l]
theorem rE_append : ∀ a b : List Ru, rE (a ++ b) = rE a ++ rE b
  | [], b => rfl
  | r :: a, b => by simp [rE, rE_append a b]
theorem stepR (pre : List V) (x : V) (r : List Ru) (h : pre.length + (r.length + 1) ≤ 9223372036854775807) :
    (pre.length : Int) < ((pre ++ x :: rE r).length : Int) ∧ (0 : Int) ≤ pre.length ∧ IntKind.i64.wrap ((pre.length : Int) + 1) = ((pre ++ [x]).length : Int) ∧ ((pre ++ x :: rE r).length : Int) = (((pre ++ [x]) ++ rE r).length : Int) :=
  stepI pre x (rE r) (by rw [rE_len]; exact h)
def chkRL : List Ru → Int
  | [] => 0
  | r :: l => if r.ops < 1 ∨ 255 < r.ops then 1 else if chk r.o r.m r.k = 0 then chkRL l else chk r.o r.m r.k
def chkR (l : List Ru) : Int := if 8 < l.length then 3 else chkRL l
section
variable (N : Nat)
/-- A rule's condition that came in. -/
structure InC (N : Nat) (k : Cl) : Prop where
  wf : k.wf
  len : K63 k
  fuel : k.nodes < N
theorem InC.good {k : Cl} (h : InC N k) (hn : k.nodes ≤ 1000000000000000) : GoodC N k := ⟨h.wf, h.len, hn, h.fuel⟩
theorem aCheckRules_loop {R : Type} (K0 : Int → Option R) (K1 : Option R) : ∀ (l : List Ru) (pre : List V) (t : Nat), l.length < t → (∀ r ∈ l, GoodC N r.k) → pre.length + l.length ≤ 9223372036854775807 →
      S_aCheckRules_4 N (pre ++ rE l) ((pre ++ rE l).length : Int) t (pre.length : Int) K0 K1 = if chkRL l = 0 then K1 else K0 (chkRL l)
  | l, pre, 0, ht, _, _ => by omega
  | [], pre, t + 1, ht, _, _ => by
    unfold S_aCheckRules_4 F_aCheckRules_4
    simp only [rE, br_t, br_f, br_dec, br_not, br_and, br_or, bnd1_mk, bnd2_mk, bnd3_mk, bnd4_mk, bnd5_mk, bnd10_mk, at_zero, at_succ, at_mid, unInt_mk, unBool_mk, unStr_mk, unBytes_mk, unSl_mk, unAgg_mk, unCons_mk, unNil_mk, endI, if_false, chkRL, if_true]
  | r :: l, pre, t + 1, ht, hg, hl => by
    simp only [List.length_cons] at ht hl
    obtain ⟨h1, h2, h3, h4⟩ := stepR pre (.agg [.int .i64 r.ops, .int .i64 r.o, .int .i64 r.m, .sl 46 r.k.enc]) l hl
    have ih := aCheckRules_loop K0 K1 l (pre ++ [.agg [.int .i64 r.ops, .int .i64 r.o, .int .i64 r.m, .sl 46 r.k.enc]]) t (by omega) (fun r hr => hg r (by simp [hr])) (by simp; omega)
    rw [← mid, ← h3] at ih
    unfold S_aCheckRules_4 F_aCheckRules_4
    simp only [rE, br_t, br_f, br_dec, br_not, br_and, br_or, bnd1_mk, bnd2_mk, bnd3_mk, bnd4_mk, bnd5_mk, bnd10_mk, at_zero, at_succ, at_mid, unInt_mk, unBool_mk, unStr_mk, unBytes_mk, unSl_mk, unAgg_mk, unCons_mk, unNil_mk, h1, h2, if_true, Int.toNat_natCast, aCheck_eq N r.o r.m r.k (hg r (by simp)), ih]
    have ec : chkRL (r :: l) = if r.ops < 1 ∨ 255 < r.ops then 1 else if chk r.o r.m r.k = 0 then chkRL l else chk r.o r.m r.k := rfl
    by_cases c1 : r.ops < 1
    · have e : chkRL (r :: l) = 1 := by rw [ec, if_pos (.inl c1)]
      rw [if_pos c1, e, if_neg (by omega)]
    rw [if_neg c1]
    by_cases c2 : 255 < r.ops
    · have e : chkRL (r :: l) = 1 := by rw [ec, if_pos (.inr c2)]
      rw [if_pos c2, e, if_neg (by omega)]
    rw [if_neg c2]
    by_cases c3 : chk r.o r.m r.k = 0
    · have e : chkRL (r :: l) = chkRL l := by rw [ec, if_neg (by omega), if_pos c3]
      rw [if_pos c3, e]
    · have e : chkRL (r :: l) = chk r.o r.m r.k := by rw [ec, if_neg (by omega), if_neg c3]
      rw [if_neg c3, e, if_neg c3]
theorem qCheckRules_loop {R : Type} (K0 : Int → Option R) (K1 : Option R) : ∀ (l : List Ru) (pre : List V) (t : Nat), l.length < t → (∀ r ∈ l, GoodC N r.k) → pre.length + l.length ≤ 9223372036854775807 →
      S_qCheckRules_4 N (pre ++ rE l) t (pre.length : Int) K0 K1 = if chkRL l = 0 then K1 else K0 (chkRL l)
  | l, pre, 0, ht, _, _ => by omega
  | [], pre, t + 1, ht, _, _ => by
    unfold S_qCheckRules_4 F_qCheckRules_4
    simp only [rE, br_t, br_f, br_dec, br_not, br_and, br_or, bnd1_mk, bnd2_mk, bnd3_mk, bnd4_mk, bnd5_mk, bnd10_mk, at_zero, at_succ, at_mid, unInt_mk, unBool_mk, unStr_mk, unBytes_mk, unSl_mk, unAgg_mk, unCons_mk, unNil_mk, endI, if_false, chkRL, if_true]
  | r :: l, pre, t + 1, ht, hg, hl => by
    simp only [List.length_cons] at ht hl
    obtain ⟨h1, h2, h3, h4⟩ := stepR pre (.agg [.int .i64 r.ops, .int .i64 r.o, .int .i64 r.m, .sl 46 r.k.enc]) l hl
    have ih := qCheckRules_loop K0 K1 l (pre ++ [.agg [.int .i64 r.ops, .int .i64 r.o, .int .i64 r.m, .sl 46 r.k.enc]]) t (by omega) (fun r hr => hg r (by simp [hr])) (by simp; omega)
    rw [← mid, ← h3] at ih
    unfold S_qCheckRules_4 F_qCheckRules_4
    simp only [rE, br_t, br_f, br_dec, br_not, br_and, br_or, bnd1_mk, bnd2_mk, bnd3_mk, bnd4_mk, bnd5_mk, bnd10_mk, at_zero, at_succ, at_mid, unInt_mk, unBool_mk, unStr_mk, unBytes_mk, unSl_mk, unAgg_mk, unCons_mk, unNil_mk, h1, h2, if_true, Int.toNat_natCast, qCheck_eq N r.o r.m r.k (hg r (by simp)), ih]
    have ec : chkRL (r :: l) = if r.ops < 1 ∨ 255 < r.ops then 1 else if chk r.o r.m r.k = 0 then chkRL l else chk r.o r.m r.k := rfl
    by_cases c1 : r.ops < 1
    · have e : chkRL (r :: l) = 1 := by rw [ec, if_pos (.inl c1)]
      rw [if_pos c1, e, if_neg (by omega)]
    rw [if_neg c1]
    by_cases c2 : 255 < r.ops
    · have e : chkRL (r :: l) = 1 := by rw [ec, if_pos (.inr c2)]
      rw [if_pos c2, e, if_neg (by omega)]
    rw [if_neg c2]
    by_cases c3 : chk r.o r.m r.k = 0
    · have e : chkRL (r :: l) = chkRL l := by rw [ec, if_neg (by omega), if_pos c3]
      rw [if_pos c3, e]
    · have e : chkRL (r :: l) = chk r.o r.m r.k := by rw [ec, if_neg (by omega), if_neg c3]
      rw [if_neg c3, e, if_neg c3]
/-- Rules that came in, few and small; or rules that were read. -/
structure GoodR (N : Nat) (l : List Ru) : Prop where
  len : l.length ≤ 1000
  fuel : 1000 < N
  good : ∀ r ∈ l, GoodC N r.k
theorem aCheckRules_eq (l : List Ru) (g : GoodR N l) : s_aCheckRules N (rE l) = some (chkR l) := by
  have h1 := g.len
  have h2 := g.fuel
  have hL : S_aCheckRules_4 N (rE l) ((rE l).length : Int) N 0 (fun n0 => some n0) (some 0) = if chkRL l = 0 then some 0 else some (chkRL l) :=
    aCheckRules_loop N (fun n0 => some n0) (some 0) l [] N (by omega) g.good (by simp; omega)
  unfold s_aCheckRules chkR
  rw [hL, rE_len, br_dec]
  by_cases c : 8 < l.length
  · rw [if_pos (by omega), if_pos c]
  · rw [if_neg (by omega), if_neg c]
    by_cases c2 : chkRL l = 0
    · rw [if_pos c2, c2]
    · rw [if_neg c2]
theorem qCheckRules_eq (l : List Ru) (g : GoodR N l) : s_qCheckRules N (rE l) = some (chkR l) := by
  have h1 := g.len
  have h2 := g.fuel
  have hL : S_qCheckRules_4 N (rE l) N 0 (fun n0 => some n0) (some 0) = if chkRL l = 0 then some 0 else some (chkRL l) :=
    qCheckRules_loop N (fun n0 => some n0) (some 0) l [] N (by omega) g.good (by simp; omega)
  unfold s_qCheckRules chkR
  rw [hL, rE_len, br_dec]
  by_cases c : 8 < l.length
  · rw [if_pos (by omega), if_pos c]
  · rw [if_neg (by omega), if_neg c]
    by_cases c2 : chkRL l = 0
    · rw [if_pos c2, c2]
    · rw [if_neg c2]
theorem chkRL_zero : ∀ {l : List Ru}, chkRL l = 0 → ∀ r ∈ l, 1 ≤ r.ops ∧ r.ops ≤ 255 ∧ chk r.o r.m r.k = 0
  | [], _, r, hr => by simp at hr
  | a :: l, h, r, hr => by
    unfold chkRL at h
    split at h
    · omega
    · split at h
      · rename_i c1 c2
        rcases List.mem_cons.1 hr with rfl | hr
        · exact ⟨by omega, by omega, c2⟩
        · exact chkRL_zero h r hr
      · rename_i c1 c2; exact absurd h c2
theorem chkR_zero {l : List Ru} (h : chkR l = 0) : l.length ≤ 8 ∧ ∀ r ∈ l, 1 ≤ r.ops ∧ r.ops ≤ 255 ∧ vC r.o r.m r.k = true ∧ r.k.nodes ≤ 15 ∧ r.k.dep ≤ 7 := by
  unfold chkR at h
  split at h
  · omega
  · rename_i c
    refine ⟨by omega, fun r hr => ?_⟩
    obtain ⟨h1, h2, h3⟩ := chkRL_zero h r hr
    obtain ⟨h4, h5, h6⟩ := chk_zero h3
    exact ⟨h1, h2, h4, h5, h6⟩
/-! What is permitted -/
end
end Go.Proofs.Ytllnklkjkjmjbaa.En

/- Decoding data objects: what the program and the reference compute; there and back. -/
namespace Go.Proofs.Ytllnklkjkjmjbaa.En
open Go
set_option linter.unusedVariables false
def rdTag : List UInt8 → Except Int (Int × List UInt8)
  | [] => .error 4
  | u :: r => if (u.toNat : Int) = 0 then .error 4 else if ¬ (u.toNat : Int) % 32 = 31 then .ok (u.toNat, r) else
    match r with
    | [] => .error 5
    | w :: r' => if tagV (256 * (u.toNat : Int) + w.toNat) = true then .ok (256 * (u.toNat : Int) + w.toNat, r') else .error 4
def rdLen : List UInt8 → Except Int (Int × List UInt8)
  | [] => .error 5
  | u :: r => if (u.toNat : Int) < 128 then .ok (u.toNat, r) else if (u.toNat : Int) = 129 then
      (match r with
       | [] => .error 5
       | w :: r' => if (w.toNat : Int) < 128 then .error 4 else .ok (w.toNat, r'))
    else if (u.toNat : Int) = 130 then
      (match r with
       | w :: x :: r' => if 256 * (w.toNat : Int) + x.toNat < 256 then .error 4 else .ok (256 * (w.toNat : Int) + x.toNat, r')
       | _ => .error 5)
    else .error 4
def triple : Except Int (Int × List UInt8) → Int × List UInt8 × Int
  | .error e => (0, [], e)
  | .ok (t, r) => (t, r, 0)
def tripleR (b : List UInt8) : Except Int (Int × List UInt8) → Int × Int × Int
  | .error e => (0, 0, e)
  | .ok (t, r) => (t, (b.length : Int) - r.length, 0)
theorem at_one {R α : Type} (x y : α) (r : List α) (K : α → Option R) : at? (x :: y :: r) 1 K = K y := rfl
theorem shl8_or' (u w : UInt8) : bitsI .or .i64 (shlI .i64 (u.toNat : Int) 8) (w.toNat : Int) = 256 * (u.toNat : Int) + w.toNat := by
  have := u8_lt u; have := u8_lt w
  exact shl8_or _ _ (by omega) (by omega) (by omega) (by omega)
theorem or0' (w : UInt8) : bitsI .or .i64 0 (w.toNat : Int) = w.toNat := by have := u8_lt w; exact or0 _ (by omega) this
theorem w256 (u w : UInt8) : IntKind.i64.wrap (IntKind.i64.wrap (256 * (u.toNat : Int)) + (w.toNat : Int)) = 256 * (u.toNat : Int) + w.toNat := by
  have := u8_lt u; have := u8_lt w
  rw [w64 (n := 256 * (u.toNat : Int)) (by omega) (by omega), w64 (by omega) (by omega)]
theorem tmod32 (u : UInt8) : (u.toNat : Int).tmod 32 = (u.toNat : Int) % 32 := Int.tmod_eq_emod_of_nonneg (by omega)
theorem tripleR_ok (b : List UInt8) (t : Int) (r : List UInt8) (k : Int) (h : k = (b.length : Int) - r.length) : (some (t, k, 0) : Option (Int × Int × Int)) = some (tripleR b (.ok (t, r))) := by rw [h]; rfl
theorem tag_eq (N : Nat) (b : List UInt8) (h : b ≠ []) : s_tag N b = some (triple (rdTag b)) := by
  match b, h with
  | [u], _ =>
    have hl : (([u] : List UInt8).length : Int) = 1 := rfl
    unfold s_tag rdTag
    simp only [br_t, br_f, br_dec, br_not, br_and, br_or, bnd1_mk, bnd2_mk, bnd3_mk, bnd4_mk, bnd5_mk, bnd10_mk, at_zero, w64_u8, and31, List.drop_succ_cons, List.drop_zero, hl, (by decide : (0 : Int) < 1), (by decide : (1 : Int) ≤ 1), (by decide : (1 : Int) < 2), if_true]
    by_cases c0 : (u.toNat : Int) = 0
    · simp only [c0, if_true]; rfl
    · by_cases c1 : (u.toNat : Int) % 32 = 31
      · simp only [c0, c1, if_true, if_false, not_true]; rfl
      · simp only [c0, c1, if_true, if_false, not_false_iff]; rfl
  | u :: w :: r', _ =>
    have hu := u8_lt u
    have hw := u8_lt w
    have hl : ((u :: w :: r').length : Int) = r'.length + 2 := by simp; omega
    have f1 : (0 : Int) < r'.length + 2 := by omega
    have f2 : (1 : Int) ≤ r'.length + 2 := by omega
    have f3 : ¬ ((r'.length : Int) + 2 < 2) := by omega
    have f4 : (1 : Int) < r'.length + 2 := by omega
    have f5 : (2 : Int) ≤ r'.length + 2 := by omega
    unfold s_tag rdTag
    simp only [br_t, br_f, br_dec, br_not, br_and, br_or, bnd1_mk, bnd2_mk, bnd3_mk, bnd4_mk, bnd5_mk, bnd10_mk, at_zero, at_one, w64_u8, and31, shl8_or', List.drop_succ_cons, List.drop_zero, hl, f1, f2, f3, f4, f5, if_true, if_false, Valid_eq N (256 * (u.toNat : Int) + w.toNat) ⟨by omega, by omega⟩]
    by_cases c0 : (u.toNat : Int) = 0
    · simp only [c0, if_true]; rfl
    · by_cases c1 : (u.toNat : Int) % 32 = 31
      · simp only [c0, c1, if_true, if_false, not_true]
        cases hv : tagV (256 * (u.toNat : Int) + w.toNat) <;> rfl
      · simp only [c0, c1, if_true, if_false, not_false_iff]; rfl
theorem length_eq (N : Nat) (b : List UInt8) : s_length N b = some (triple (rdLen b)) := by
  match b with
  | [] => rfl
  | u :: r =>
    have hl : ((u :: r).length : Int) = r.length + 1 := by simp
    have f0 : ¬ ((r.length : Int) + 1 = 0) := by omega
    have f1 : (0 : Int) < r.length + 1 := by omega
    have f2 : (1 : Int) ≤ r.length + 1 := by omega
    unfold s_length rdLen
    simp only [br_t, br_f, br_dec, br_not, br_and, br_or, bnd1_mk, bnd2_mk, bnd3_mk, bnd4_mk, bnd5_mk, bnd10_mk, at_zero, w64_u8, or0', shl8_or', List.drop_succ_cons, List.drop_zero, hl, f0, f1, f2, if_true, if_false]
    by_cases c0 : (u.toNat : Int) < 128
    · simp only [c0, if_true]; rfl
    · by_cases c1 : (u.toNat : Int) = 129
      · simp only [c1, if_true, (by decide : ¬ ((129 : Int) < 128)), if_false]
        match r with
        | [] => rfl
        | w :: r' =>
          have hl : ((w :: r').length : Int) = r'.length + 1 := by simp
          have g0 : ¬ ((r'.length : Int) + 1 < 1) := by omega
          have g1 : (0 : Int) < r'.length + 1 := by omega
          have g2 : (1 : Int) ≤ r'.length + 1 := by omega
          have e0 : ∀ (K : UInt8 → Option (Int × List UInt8 × Int)), at? (w :: r') 0 K = K w := fun _ => rfl
          simp only [hl, g0, g1, g2, if_true, if_false]
          rw [e0]
          by_cases c2 : (w.toNat : Int) < 128
          · simp only [c2, if_true]; rfl
          · simp only [c2, if_false]; rfl
      · by_cases c2 : (u.toNat : Int) = 130
        · simp only [c2, if_true, (by decide : ¬ ((130 : Int) < 128)), (by decide : ¬ ((130 : Int) = 129)), if_false]
          match r with
          | [] => rfl
          | [w] => rfl
          | w :: x :: r' =>
            have hl : ((w :: x :: r').length : Int) = r'.length + 2 := by simp; omega
            have hl2 : ((x :: r').length : Int) = r'.length + 1 := by simp
            have g0 : ¬ ((r'.length : Int) + 2 < 2) := by omega
            have g1 : (0 : Int) < r'.length + 2 := by omega
            have g2 : (1 : Int) ≤ r'.length + 2 := by omega
            have g3 : (0 : Int) < r'.length + 1 := by omega
            have g4 : (1 : Int) ≤ r'.length + 1 := by omega
            have e0 : ∀ (K : UInt8 → Option (Int × List UInt8 × Int)), at? (w :: x :: r') 0 K = K w := fun _ => rfl
            have e1 : ∀ (K : UInt8 → Option (Int × List UInt8 × Int)), at? (x :: r') 0 K = K x := fun _ => rfl
            simp only [hl, g0, g1, g2, if_true, if_false, List.drop_succ_cons, List.drop_zero]
            rw [e0]
            simp only [hl2, g3, g4, if_true]
            rw [e1]
            by_cases c3 : 256 * (w.toNat : Int) + x.toNat < 256
            · simp only [c3, if_true]; rfl
            · simp only [c3, if_false]; rfl
        · simp only [c0, c1, c2, if_false]; rfl
theorem rtag_eq (N : Nat) (b : List UInt8) (h : b ≠ []) : s_rtag N b = some (tripleR b (rdTag b)) := by
  match b, h with
  | [u], _ =>
    have hl : (([u] : List UInt8).length : Int) = 1 := rfl
    unfold s_rtag rdTag
    simp only [br_t, br_f, br_dec, br_not, br_and, br_or, bnd1_mk, bnd2_mk, bnd3_mk, bnd4_mk, bnd5_mk, bnd10_mk, at_zero, w64_u8, tmod32, hl, (by decide : (0 : Int) < 1), (by decide : (1 : Int) < 2), if_true]
    by_cases c0 : (u.toNat : Int) = 0
    · simp only [c0, if_true]; rfl
    · by_cases c1 : (u.toNat : Int) % 32 = 31
      · simp only [c0, c1, if_true, if_false, not_true]; rfl
      · simp only [c0, c1, if_true, if_false, not_false_iff]; rfl
  | u :: w :: r', _ =>
    have hu := u8_lt u
    have hw := u8_lt w
    have hl : ((u :: w :: r').length : Int) = r'.length + 2 := by simp; omega
    have f1 : (0 : Int) < r'.length + 2 := by omega
    have f3 : ¬ ((r'.length : Int) + 2 < 2) := by omega
    have f4 : (1 : Int) < r'.length + 2 := by omega
    unfold s_rtag rdTag
    simp only [br_t, br_f, br_dec, br_not, br_and, br_or, bnd1_mk, bnd2_mk, bnd3_mk, bnd4_mk, bnd5_mk, bnd10_mk, at_zero, at_one, w64_u8, tmod32, w256, hl, f1, f3, f4, if_true, if_false]
    by_cases c0 : (u.toNat : Int) = 0
    · simp only [c0, if_true]; rfl
    · by_cases c1 : (u.toNat : Int) % 32 = 31
      · simp only [c0, c1, if_true, if_false, not_true]
        by_cases c2 : (w.toNat : Int) < 31
        · rw [if_neg (show ¬ (tagV (256 * (u.toNat : Int) + w.toNat) = true) by simp [tagV]; omega)]
          simp only [c2, if_true]; rfl
        · by_cases c3 : 127 < (w.toNat : Int)
          · rw [if_neg (show ¬ (tagV (256 * (u.toNat : Int) + w.toNat) = true) by simp [tagV]; omega)]
            simp only [c2, c3, if_true, if_false]; rfl
          · rw [if_pos (show tagV (256 * (u.toNat : Int) + w.toNat) = true by simp [tagV]; omega)]
            simp only [c2, c3, if_false]
            apply tripleR_ok; rw [hl]; omega
      · simp only [c0, c1, if_true, if_false, not_false_iff]
        apply tripleR_ok; simp only [List.length_cons]; omega
theorem rlength_eq (N : Nat) (b : List UInt8) : s_rlength N b = some (tripleR b (rdLen b)) := by
  match b with
  | [] => rfl
  | u :: r =>
    have hl : ((u :: r).length : Int) = r.length + 1 := by simp
    have f0 : ¬ ((r.length : Int) + 1 < 1) := by omega
    have f1 : (0 : Int) < r.length + 1 := by omega
    unfold s_rlength rdLen
    simp only [br_t, br_f, br_dec, br_not, br_and, br_or, bnd1_mk, bnd2_mk, bnd3_mk, bnd4_mk, bnd5_mk, bnd10_mk, at_zero, w64_u8, w256, hl, f0, f1, if_true, if_false]
    by_cases c0 : (u.toNat : Int) < 128
    · simp only [c0, if_true]
      apply tripleR_ok; simp only [List.length_cons]; omega
    · by_cases c1 : (u.toNat : Int) = 129
      · simp only [c1, if_true, (by decide : ¬ ((129 : Int) < 128)), if_false]
        match r with
        | [] => rfl
        | w :: r' =>
          have hl : ((w :: r').length : Int) + 1 = r'.length + 2 := by simp; omega
          have g0 : ¬ ((r'.length : Int) + 2 < 2) := by omega
          have g1 : (1 : Int) < r'.length + 2 := by omega
          have e0 : ∀ (K : UInt8 → Option (Int × Int × Int)), at? (u :: w :: r') 1 K = K w := fun _ => rfl
          simp only [hl, g0, g1, if_true, if_false]
          rw [e0]
          by_cases c2 : (w.toNat : Int) < 128
          · simp only [c2, if_true]; rfl
          · simp only [c2, if_false]
            apply tripleR_ok; simp only [List.length_cons]; omega
      · by_cases c2 : (u.toNat : Int) = 130
        · simp only [c2, if_true, (by decide : ¬ ((130 : Int) < 128)), (by decide : ¬ ((130 : Int) = 129)), if_false]
          match r with
          | [] => rfl
          | [w] => rfl
          | w :: x :: r' =>
            have hl : ((w :: x :: r').length : Int) + 1 = r'.length + 3 := by simp; omega
            have g0 : ¬ ((r'.length : Int) + 3 < 3) := by omega
            have g1 : (1 : Int) < r'.length + 3 := by omega
            have g2 : (2 : Int) < r'.length + 3 := by omega
            have e0 : ∀ (K : UInt8 → Option (Int × Int × Int)), at? (u :: w :: x :: r') 1 K = K w := fun _ => rfl
            have e1 : ∀ (K : UInt8 → Option (Int × Int × Int)), at? (u :: w :: x :: r') 2 K = K x := fun _ => rfl
            simp only [hl, g0, g1, g2, if_true, if_false]
            rw [e0, e1]
            by_cases c3 : 256 * (w.toNat : Int) + x.toNat < 256
            · simp only [c3, if_true]; rfl
            · simp only [c3, if_false]
              apply tripleR_ok; simp only [List.length_cons]; omega
        · simp only [c0, c1, c2, if_false]; rfl
end Go.Proofs.Ytllnklkjkjmjbaa.En

/- Decoding lists of data objects. -/
namespace Go.Proofs.Ytllnklkjkjmjbaa.En
open Go
set_option linter.unusedVariables false
def dec : Nat → Int → List UInt8 → Except Int Tl
  | 0, _, _ => .error 4
  | n + 1, d, b =>
    if b.length = 0 then .ok .nil else if 8 < d then .error 4 else
    match rdTag b with
    | .error e => .error e
    | .ok (t, r) => match rdLen r with
      | .error e => .error e
      | .ok (m, r') =>
        if (r'.length : Int) < m then .error 5
        else if tagC t = true then
          (match dec n (d + 1) (r'.take m.toNat) with
           | .error e => .error e
           | .ok k => match dec n d (r'.drop m.toNat) with
             | .error e => .error e
             | .ok l => .ok (.cons t [] k l))
        else
          (match dec n d (r'.drop m.toNat) with
           | .error e => .error e
           | .ok l => .ok (.cons t (r'.take m.toNat) .nil l))
theorem rdTag_ok {b r : List UInt8} {t : Int} (h : rdTag b = .ok (t, r)) : tagV t = true ∧ b = tagB t ++ r := by
  match b, h with
  | u :: r0, h =>
    have hu := u8_lt u
    unfold rdTag at h
    dsimp only at h
    by_cases c0 : (u.toNat : Int) = 0
    · rw [if_pos c0] at h; cases h
    · rw [if_neg c0] at h
      by_cases c1 : (u.toNat : Int) % 32 = 31
      · rw [if_neg (fun h => h c1)] at h
        match r0, h with
        | w :: r', h =>
          have hw := u8_lt w
          simp only at h
          by_cases hv : tagV (256 * (u.toNat : Int) + w.toNat) = true
          · rw [if_pos hv] at h
            injection h with h
            injection h with e1 e2
            subst e1 e2
            refine ⟨hv, ?_⟩
            unfold tagB
            simp [tagV] at hv
            rw [if_pos (by omega), byteI_eq (u := u) (by omega), byteI_eq (u := w) (by omega)]; rfl
          · rw [if_neg hv] at h; cases h
      · rw [if_pos c1] at h
        injection h with h
        injection h with e1 e2
        subst e1 e2
        refine ⟨by simp [tagV]; omega, ?_⟩
        unfold tagB
        rw [if_neg (by omega), byteI_u8]; rfl
set_option maxRecDepth 100000 in
theorem rdTag_err {b : List UInt8} {e : Int} (h : rdTag b = .error e) : e = 4 ∨ e = 5 := by
  unfold rdTag at h
  repeat' split at h
  all_goals first | cases h | skip
  all_goals simp
set_option maxRecDepth 100000 in
theorem rdLen_ok {b r : List UInt8} {m : Int} (h : rdLen b = .ok (m, r)) : 0 ≤ m ∧ m ≤ 65535 ∧ b = lenB m ++ r := by
  match b, h with
  | u :: r0, h =>
    have hu := u8_lt u
    unfold rdLen at h
    dsimp only at h
    by_cases c0 : (u.toNat : Int) < 128
    · rw [if_pos c0] at h
      injection h with h
      injection h with e1 e2
      subst e1 e2
      refine ⟨by omega, by omega, ?_⟩
      unfold lenB
      rw [if_pos c0, byteI_u8]; rfl
    · rw [if_neg c0] at h
      by_cases c1 : (u.toNat : Int) = 129
      · rw [if_pos c1] at h
        match r0, h with
        | w :: r', h =>
          have hw := u8_lt w
          simp only at h
          by_cases c2 : (w.toNat : Int) < 128
          · rw [if_pos c2] at h; cases h
          · rw [if_neg c2] at h
            injection h with h
            injection h with e1 e2
            subst e1 e2
            refine ⟨by omega, by omega, ?_⟩
            unfold lenB
            rw [if_neg c2, if_pos hw, byteI_u8]
            have : u = 129 := by apply UInt8.toNat_inj.1; show u.toNat = 129; omega
            rw [this]; rfl
      · rw [if_neg c1] at h
        by_cases c2 : (u.toNat : Int) = 130
        · rw [if_pos c2] at h
          match r0, h with
          | w :: x :: r', h =>
            have hw := u8_lt w
            have hx := u8_lt x
            simp only at h
            by_cases c3 : 256 * (w.toNat : Int) + x.toNat < 256
            · rw [if_pos c3] at h; cases h
            · rw [if_neg c3] at h
              injection h with h
              injection h with e1 e2
              subst e1 e2
              refine ⟨by omega, by omega, ?_⟩
              unfold lenB
              rw [if_neg (by omega), if_neg c3, byteI_eq (u := w) (by omega), byteI_eq (u := x) (by omega)]
              have : u = 130 := by apply UInt8.toNat_inj.1; show u.toNat = 130; omega
              rw [this]; rfl
        · rw [if_neg c2] at h; cases h
set_option maxRecDepth 100000 in
theorem rdLen_err {b : List UInt8} {e : Int} (h : rdLen b = .error e) : e = 4 ∨ e = 5 := by
  match b, h with
  | [], h => injection h with h; exact .inr h.symm
  | u :: r, h =>
    unfold rdLen at h
    dsimp only at h
    by_cases c0 : (u.toNat : Int) < 128
    · rw [if_pos c0] at h; cases h
    · rw [if_neg c0] at h
      by_cases c1 : (u.toNat : Int) = 129
      · rw [if_pos c1] at h
        match r, h with
        | [], h => injection h with h; exact .inr h.symm
        | w :: r', h =>
          dsimp only at h
          by_cases c2 : (w.toNat : Int) < 128
          · rw [if_pos c2] at h; injection h with h; exact .inl h.symm
          · rw [if_neg c2] at h; cases h
      · rw [if_neg c1] at h
        by_cases c2 : (u.toNat : Int) = 130
        · rw [if_pos c2] at h
          match r, h with
          | [], h => injection h with h; exact .inr h.symm
          | [w], h => injection h with h; exact .inr h.symm
          | w :: x :: r', h =>
            dsimp only at h
            by_cases c3 : 256 * (w.toNat : Int) + x.toNat < 256
            · rw [if_pos c3] at h; injection h with h; exact .inl h.symm
            · rw [if_neg c3] at h; cases h
        · rw [if_neg c2] at h; injection h with h; exact .inl h.symm
theorem dec_err : ∀ (n : Nat) (d : Int) (b : List UInt8) (e : Int), dec n d b = .error e → e = 4 ∨ e = 5
  | 0, d, b, e, h => by simp [dec] at h; omega
  | n + 1, d, b, e, h => by
    unfold dec at h
    split at h
    · cases h
    · split at h
      · injection h with h; omega
      · split at h
        · rename_i e' he; injection h with h; subst h; exact rdTag_err he
        · split at h
          · rename_i e' he; injection h with h; subst h; exact rdLen_err he
          · split at h
            · injection h with h; omega
            · split at h
              · split at h
                · rename_i e' he; injection h with h; subst h; exact dec_err n _ _ _ he
                · split at h
                  · rename_i e' he; injection h with h; subst h; exact dec_err n _ _ _ he
                  · cases h
              · split at h
                · rename_i e' he; injection h with h; subst h; exact dec_err n _ _ _ he
                · cases h
/-- Enough fuel is enough. -/
theorem dec_fuel : ∀ (n : Nat) (m : Nat) (d : Int) (b : List UInt8), b.length < n → b.length < m → dec n d b = dec m d b
  | 0, m, d, b, h, _ => by omega
  | n + 1, 0, d, b, _, h => by omega
  | n + 1, m + 1, d, b, h1, h2 => by
    unfold dec
    split
    · rfl
    · split
      · rfl
      · split
        · rfl
        · rename_i t r hr
          obtain ⟨_, e1⟩ := rdTag_ok hr
          have ht := tagB_len t
          have hb : b.length = (tagB t).length + r.length := by rw [e1, List.length_append]
          split
          · rfl
          · rename_i q r' hr'
            obtain ⟨_, _, e2⟩ := rdLen_ok hr'
            have hl := lenB_len q
            have hb2 : r.length = (lenB q).length + r'.length := by rw [e2, List.length_append]
            have i1 := dec_fuel n m (d + 1) (r'.take q.toNat) (by rw [List.length_take]; omega) (by rw [List.length_take]; omega)
            have i2 := dec_fuel n m d (r'.drop q.toNat) (by rw [List.length_drop]; omega) (by rw [List.length_drop]; omega)
            rw [i1, i2]
/-- What is decoded is encoded to the same bytes. -/
theorem enc_dec : ∀ (n : Nat) (d : Int) (b : List UInt8) (l : Tl), dec n d b = .ok l → okL d l = true ∧ encL l = b ∧ l.wt ≤ b.length ∧ l.wf
  | 0, d, b, l, h => by simp [dec] at h
  | n + 1, d, b, l, h => by
    unfold dec at h
    split at h
    · rename_i h0
      injection h with h
      subst h
      have : b = [] := List.length_eq_zero_iff.1 h0
      subst this
      exact ⟨rfl, rfl, Nat.le_refl _, trivial⟩
    · split at h
      · cases h
      · rename_i hd8
        split at h
        · cases h
        · rename_i t r hr
          obtain ⟨hv, e1⟩ := rdTag_ok hr
          have hvr := tagV_range hv
          have ht := tagB_len t
          have hb : b.length = (tagB t).length + r.length := by rw [e1, List.length_append]
          split at h
          · cases h
          · rename_i q r' hr'
            obtain ⟨hq0, hq1, e2⟩ := rdLen_ok hr'
            have hl := lenB_len q
            have hb2 : r.length = (lenB q).length + r'.length := by rw [e2, List.length_append]
            split at h
            · cases h
            · rename_i hlt
              have htake : (r'.take q.toNat).length = q.toNat := by rw [List.length_take]; omega
              have hdrop : (r'.drop q.toNat).length = r'.length - q.toNat := List.length_drop ..
              have hqq : ((r'.take q.toNat).length : Int) = q := by omega
              split at h
              · rename_i hc
                split at h
                · cases h
                · rename_i k hk
                  obtain ⟨k1, k2, k3, k4⟩ := enc_dec n _ _ _ hk
                  split at h
                  · cases h
                  · rename_i l' hl'
                    obtain ⟨l1, l2, l3, l4⟩ := enc_dec n _ _ _ hl'
                    injection h with h
                    subst h
                    refine ⟨by simp [okL, hv, hc, k1, l1]; omega, ?_, by simp only [Tl.wt, List.length_nil]; omega, ⟨by omega, by simp, ?_, k4, l4⟩⟩
                    · rw [encL_cons, hc, cond_true, k2, l2, hqq, e1, e2]
                      simp only [List.append_assoc, List.take_append_drop]
                    · have := k.len_wt; omega
              · rename_i hc
                split at h
                · cases h
                · rename_i l' hl'
                  obtain ⟨l1, l2, l3, l4⟩ := enc_dec n _ _ _ hl'
                  injection h with h
                  subst h
                  have hc' : tagC t = false := by simpa using hc
                  refine ⟨by simp [okL, hv, hc', l1, Tl.isNil]; omega, ?_, by simp only [Tl.wt]; omega, ⟨by omega, ?_, by simp [Tl.len], trivial, l4⟩⟩
                  · rw [encL_cons, hc', cond_false, l2, hqq, e1, e2]
                    simp only [List.append_assoc, List.take_append_drop]
                  · omega
end Go.Proofs.Ytllnklkjkjmjbaa.En

/- Decode, of the program and of the reference. -/
namespace Go.Proofs.Ytllnklkjkjmjbaa.En
open Go
set_option linter.unusedVariables false
def decP (acc : List V) : Except Int Tl → List V × Int
  | .ok l => (acc ++ l.enc, 0)
  | .error e => ([], e)
theorem decode_loop (N : Nat) (f : List UInt8 → Int → Option (List V × Int)) (d : Int) (hd : 1 ≤ d ∧ d ≤ 9) (n : Nat) (hf : d ≤ 8 → ∀ (b : List UInt8), b.length < n → f b (d + 1) = some (decP [] (dec n (d + 1) b))) :
    ∀ (t : Nat) (b : List UInt8) (acc : List V), b.length < t → b.length ≤ n → b.length ≤ 4096 → acc.length + b.length ≤ 4096 →
      S_decode_2 N f d t b acc (fun l0 n1 l2 => some (l0, n1)) (fun l3 => some (l3, 0)) = some (decP acc (dec (n + 1) d b))
  | 0, b, acc, ht, _, _, _ => by omega
  | t + 1, b, acc, ht, hn, hb, ha => by
    unfold S_decode_2 F_decode_2 dec
    simp only [br_dec, br_not, br_and]
    by_cases h0 : b.length = 0
    · rw [if_pos h0, if_neg (by omega)]; simp [decP, Tl.enc]
    · rw [if_neg h0, if_pos (by omega)]
      by_cases h8 : 8 < d
      · rw [if_pos h8, if_pos h8]; rfl
      · rw [if_neg h8, if_neg h8]
        have hbn : b ≠ [] := fun e => h0 (by rw [e]; rfl)
        rw [tag_eq N b hbn]
        cases hr : rdTag b with
        | error e =>
          have := rdTag_err hr
          simp only [triple, bnd3_mk]
          rw [if_neg (by omega)]; rfl
        | ok p =>
          obtain ⟨tg, r⟩ := p
          obtain ⟨hv, e1⟩ := rdTag_ok hr
          have hvr := tagV_range hv
          have ht2 := tagB_len tg
          have hbl : b.length = (tagB tg).length + r.length := by rw [e1, List.length_append]
          simp only [triple, bnd3_mk, if_true]
          rw [length_eq N r]
          cases hr' : rdLen r with
          | error e =>
            have := rdLen_err hr'
            simp only [triple, bnd3_mk]
            rw [if_neg (by omega)]; rfl
          | ok p =>
            obtain ⟨m, r'⟩ := p
            obtain ⟨hm0, hm1, e2⟩ := rdLen_ok hr'
            have hl2 := lenB_len m
            have hrl : r.length = (lenB m).length + r'.length := by rw [e2, List.length_append]
            simp only [triple, bnd3_mk, if_true]
            by_cases hlt : (r'.length : Int) < m
            · rw [if_pos hlt, if_pos hlt]; rfl
            · rw [if_neg hlt, if_neg hlt, Constructed_eq N tg ⟨by omega, by omega⟩, bnd1_mk]
              have htake : (r'.take m.toNat).length = m.toNat := by rw [List.length_take]; omega
              have hdrop : (r'.drop m.toNat).length = r'.length - m.toNat := List.length_drop ..
              have f1 : (0 : Int) ≤ m := hm0
              have f2 : m ≤ (r'.length : Int) := by omega
              have wd : IntKind.i64.wrap (d + 1) = d + 1 := w64 (by omega) (by omega)
              have g2 : (acc.length + (0 + 1)) * 56 ≤ 140737488355328 := by omega
              have g1 : (0 + (r'.take m.toNat).length) * 1 ≤ 140737488355328 := by omega
              simp only [f1, f2, if_true, List.length_cons, List.length_nil, wd, g1, g2]
              have efu : ∀ (b' : List UInt8), b'.length < n → dec n d b' = dec (n + 1) d b' := fun b' h => dec_fuel n (n + 1) d b' h (by omega)
              cases hc : tagC tg with
              | true =>
                rw [br_t, if_pos rfl, hf (by omega) _ (by omega)]
                cases hk : dec n (d + 1) (r'.take m.toNat) with
                | error e =>
                  have := dec_err _ _ _ _ hk
                  simp only [decP, bnd2_mk]
                  rw [if_neg (by omega)]
                | ok k =>
                  simp only [decP, bnd2_mk, if_true]
                  rw [decode_loop N f d hd n hf t (r'.drop m.toNat) _ (by omega) (by omega) (by omega) (by simp; omega), ← efu _ (by omega)]
                  cases dec n d (r'.drop m.toNat) with
                  | error e => rfl
                  | ok l => simp [decP, Tl.enc]
              | false =>
                rw [br_f, if_neg (by simp)]
                unfold s_clone
                rw [br_dec, if_pos (by omega), bnd1_mk]
                rw [decode_loop N f d hd n hf t (r'.drop m.toNat) _ (by omega) (by omega) (by omega) (by simp; omega), ← efu _ (by omega)]
                cases dec n d (r'.drop m.toNat) with
                | error e => rfl
                | ok l => simp [decP, Tl.enc]
theorem decode_eq (N : Nat) (hN : 4096 < N) : ∀ (M : Nat) (b : List UInt8) (d : Int), 1 ≤ d → d ≤ 9 → 9 < d + M → b.length ≤ 4096 → s_decode N M b d = some (decP [] (dec (b.length + 1) d b))
  | 0, b, d, h1, h2, h, _ => by omega
  | M + 1, b, d, h1, h2, h, hb => by
    unfold s_decode B_decode
    exact decode_loop N (s_decode N M) d ⟨h1, h2⟩ b.length (fun h8 b' hb' => by
      rw [decode_eq N hN M b' (d + 1) (by omega) (by omega) (by omega) (by omega), dec_fuel (b'.length + 1) b.length (d + 1) b' (by omega) hb']) N b [] (by omega) (Nat.le_refl _) hb (by simpa using hb)
theorem rread_loop (N : Nat) (f : List UInt8 → Int → Option (List V × Int)) (d : Int) (hd : 1 ≤ d ∧ d ≤ 9) (n : Nat) (hf : d ≤ 8 → ∀ (b : List UInt8), b.length < n → f b (d + 1) = some (decP [] (dec n (d + 1) b))) :
    ∀ (t : Nat) (b : List UInt8) (acc : List V), b.length < t → b.length ≤ n → b.length ≤ 4096 → acc.length + b.length ≤ 4096 →
      S_rread_2 N f d t b acc (fun l0 n1 l2 => some (l0, n1)) (fun l3 => some (l3, 0)) = some (decP acc (dec (n + 1) d b))
  | 0, b, acc, ht, _, _, _ => by omega
  | t + 1, b, acc, ht, hn, hb, ha => by
    unfold S_rread_2 F_rread_2 dec
    simp only [br_dec, br_not, br_and]
    by_cases h0 : b.length = 0
    · rw [if_pos h0, if_neg (by omega)]; simp [decP, Tl.enc]
    · rw [if_neg h0, if_pos (by omega)]
      by_cases h8 : 8 < d
      · rw [if_pos h8, if_pos h8]; rfl
      · rw [if_neg h8, if_neg h8]
        have hbn : b ≠ [] := fun e => h0 (by rw [e]; rfl)
        rw [rtag_eq N b hbn]
        cases hr : rdTag b with
        | error e =>
          have := rdTag_err hr
          simp only [tripleR, bnd3_mk]
          rw [if_neg (by omega)]; rfl
        | ok p =>
          obtain ⟨tg, r⟩ := p
          obtain ⟨hv, e1⟩ := rdTag_ok hr
          have hvr := tagV_range hv
          have ht2 := tagB_len tg
          have hbl : b.length = (tagB tg).length + r.length := by rw [e1, List.length_append]
          have ed : b.drop ((b.length : Int) - (r.length : Int)).toNat = r := by
            rw [show ((b.length : Int) - (r.length : Int)).toNat = (tagB tg).length by omega, e1, List.drop_left]
          simp only [tripleR, bnd3_mk, if_true, ed]
          rw [if_pos (by omega), if_pos (by omega), rlength_eq N r]
          cases hr' : rdLen r with
          | error e =>
            have := rdLen_err hr'
            simp only [tripleR, bnd3_mk]
            rw [if_neg (by omega)]; rfl
          | ok p =>
            obtain ⟨m, r'⟩ := p
            obtain ⟨hm0, hm1, e2⟩ := rdLen_ok hr'
            have hl2 := lenB_len m
            have hrl : r.length = (lenB m).length + r'.length := by rw [e2, List.length_append]
            have ed2 : r.drop ((r.length : Int) - (r'.length : Int)).toNat = r' := by
              rw [show ((r.length : Int) - (r'.length : Int)).toNat = (lenB m).length by omega, e2, List.drop_left]
            simp only [tripleR, bnd3_mk, if_true, ed2]
            rw [if_pos (by omega), if_pos (by omega)]
            by_cases hlt : (r'.length : Int) < m
            · rw [if_pos hlt, if_pos hlt]; rfl
            · rw [if_neg hlt, if_neg hlt, rConstructed_eq N tg ⟨by omega, by omega⟩, bnd1_mk]
              have htake : (r'.take m.toNat).length = m.toNat := by rw [List.length_take]; omega
              have hdrop : (r'.drop m.toNat).length = r'.length - m.toNat := List.length_drop ..
              have f1 : (0 : Int) ≤ m := hm0
              have f2 : m ≤ (r'.length : Int) := by omega
              have wd : IntKind.i64.wrap (d + 1) = d + 1 := w64 (by omega) (by omega)
              have g2 : (acc.length + (0 + 1)) * 56 ≤ 140737488355328 := by omega
              have g1 : (0 + (r'.take m.toNat).length) * 1 ≤ 140737488355328 := by omega
              simp only [f1, f2, if_true, List.length_cons, List.length_nil, wd, g1, g2]
              have efu : ∀ (b' : List UInt8), b'.length < n → dec n d b' = dec (n + 1) d b' := fun b' h => dec_fuel n (n + 1) d b' h (by omega)
              cases hc : tagC tg with
              | true =>
                rw [br_t, if_pos rfl, hf (by omega) _ (by omega)]
                cases hk : dec n (d + 1) (r'.take m.toNat) with
                | error e =>
                  have := dec_err _ _ _ _ hk
                  simp only [decP, bnd2_mk]
                  rw [if_neg (by omega)]
                | ok k =>
                  simp only [decP, bnd2_mk, if_true]
                  rw [rread_loop N f d hd n hf t (r'.drop m.toNat) _ (by omega) (by omega) (by omega) (by simp; omega), ← efu _ (by omega)]
                  cases dec n d (r'.drop m.toNat) with
                  | error e => rfl
                  | ok l => simp [decP, Tl.enc]
              | false =>
                rw [br_f, if_neg (by simp)]
                rw [rread_loop N f d hd n hf t (r'.drop m.toNat) _ (by omega) (by omega) (by omega) (by simp; omega), ← efu _ (by omega)]
                cases dec n d (r'.drop m.toNat) with
                | error e => rfl
                | ok l => simp [decP, Tl.enc]
theorem rread_eq (N : Nat) (hN : 4096 < N) : ∀ (M : Nat) (b : List UInt8) (d : Int), 1 ≤ d → d ≤ 9 → 9 < d + M → b.length ≤ 4096 → s_rread N M b d = some (decP [] (dec (b.length + 1) d b))
  | 0, b, d, h1, h2, h, _ => by omega
  | M + 1, b, d, h1, h2, h, hb => by
    unfold s_rread B_rread
    exact rread_loop N (s_rread N M) d ⟨h1, h2⟩ b.length (fun h8 b' hb' => by
      rw [rread_eq N hN M b' (d + 1) (by omega) (by omega) (by omega) (by omega), dec_fuel (b'.length + 1) b.length (d + 1) b' (by omega) hb']) N b [] (by omega) (Nat.le_refl _) hb (by simpa using hb)
/-- Decode -/
def decR (b : List UInt8) : List V × Int := if 4096 < b.length then ([], 3) else decP [] (dec (b.length + 1) 1 b)
theorem Decode_eq (N : Nat) (hN : 4096 < N) (b : List UInt8) : s_Decode N b = some (decR b) := by
  unfold s_Decode decR
  rw [br_dec]
  by_cases h : 4096 < b.length
  · rw [if_pos (by omega), if_pos h]
  · rw [if_neg (by omega), if_neg h, decode_eq N hN N b 1 (by omega) (by omega) (by omega) (by omega)]; rfl
theorem rDecode_eq (N : Nat) (hN : 4096 < N) (b : List UInt8) : s_rDecode N b = some (decR b) := by
  unfold s_rDecode decR
  rw [br_dec]
  by_cases h : 4096 < b.length
  · rw [if_pos (by omega), if_pos h]
  · rw [if_neg (by omega), if_neg h, rread_eq N hN N b 1 (by omega) (by omega) (by omega) (by omega)]; rfl
end Go.Proofs.Ytllnklkjkjmjbaa.En

/- Encoding rules: the program and the reference. -/
namespace Go.Proofs.Ytllnklkjkjmjbaa.En
open Go
set_option linter.unusedVariables false
theorem bI (n : Int) : UInt8.ofNat (IntKind.u8.wrap n).toNat = byteI n := by rw [wu8]; rfl
theorem nilApp {α : Type} (l : List α) : List.append [] l = l := id rfl
section
variable (N : Nat)
theorem aencode_loop {R : Type} (f : Int → Int → List V → Option (List UInt8)) (n : Nat) (hf : ∀ (o m : Int) (k : Cl), vC o m k = true → k.nodes < n → k.wf → K63 k → f o m k.enc = some (eC o m k)) (K : List UInt8 → Option R) (a4 a5 : Int) (a6 : List V) (a7 : List UInt8) (b8 b9 : Bool) (a10 a11 : Int) :
    ∀ (l : Cl) (pre : List V) (t : Nat) (acc : List UInt8), vL l = true → l.len < t → l.nodes ≤ n → l.wf → pre.length + l.len ≤ 9223372036854775807 → acc.length + 2 * l.nodes ≤ 1000000 →
      S_aencode_8 N f (pre ++ l.enc) ((pre ++ l.enc).length : Int) a4 a5 a6 a7 b8 b9 a10 a11 t acc (pre.length : Int) K = K (acc ++ eL l)
  | l, pre, 0, acc, _, ht, _, _, _, _ => by omega
  | .nil, pre, t + 1, acc, _, ht, _, _, _, _ => by
    unfold S_aencode_8 F_aencode_8
    simp only [Cl.enc, br_t, br_f, br_dec, br_not, br_and, br_or, bnd1_mk, bnd2_mk, bnd3_mk, bnd4_mk, bnd5_mk, bnd10_mk, at_zero, at_succ, at_mid, unInt_mk, unBool_mk, unStr_mk, unBytes_mk, unSl_mk, unAgg_mk, unCons_mk, unNil_mk, endI, if_false, eL]
    rw [List.append_nil]
  | .cons o m k r, pre, t + 1, acc, hv, ht, hn, hw, hl, hb => by
    simp only [Cl.len, Cl.nodes] at ht hn hl hb
    rw [vL_cons, Bool.and_eq_true] at hv
    obtain ⟨_, _, hk1, hk2, hr⟩ := hw
    obtain ⟨h1, h2, h3, h4⟩ := stepC pre (ce o m k) r hl
    have hlen : (eC o m k).length ≤ 2 * k.nodes + 2 := by
      have := eL_len (.cons o m k .nil)
      rw [eL_cons] at this
      simp only [eL, List.append_nil, Cl.nodes] at this
      omega
    have ih := aencode_loop f n hf K a4 a5 a6 a7 b8 b9 a10 a11 r (pre ++ [ce o m k]) t (acc ++ eC o m k) hv.2 (by omega) (by omega) hr (by simp; omega) (by rw [List.length_append]; omega)
    rw [← mid, ← h3] at ih
    have hc : (acc.length + (eC o m k).length) * 1 ≤ 140737488355328 := by omega
    unfold S_aencode_8 F_aencode_8
    simp only [enc_cons, br_t, br_f, br_dec, br_not, br_and, br_or, bnd1_mk, bnd2_mk, bnd3_mk, bnd4_mk, bnd5_mk, bnd10_mk, at_zero, at_succ, at_mid, unInt_mk, unBool_mk, unStr_mk, unBytes_mk, unSl_mk, unAgg_mk, unCons_mk, unNil_mk, h1, h2, if_true, Int.toNat_natCast, hf o m k hv.1 (by omega) hk2 hk1, hc]
    rw [ih, eL_cons, List.append_assoc]
theorem aencode_eq : ∀ (M : Nat) (o m : Int) (k : Cl), vC o m k = true → k.nodes < M → k.nodes < N → k.nodes ≤ 1000 → k.wf → K63 k → s_aencode N M o m k.enc = some (eC o m k)
  | 0, o, m, k, _, h, _, _, _, _ => by omega
  | M + 1, o, m, k, hv, h, hN, hs, hw, hl => by
    have hln := Cl.len_le k
    have hf := fun (o m : Int) (k' : Cl) (a0 : vC o m k' = true) (a1 : k'.nodes < k.nodes) (a2 : k'.wf) (a3 : K63 k') => aencode_eq M o m k' a0 (by omega) (by omega) (by omega) a2 a3
    have hL := fun (a7 : List UInt8) (b8 b9 : Bool) (a10 a11 : Int) (acc : List UInt8) (ha : acc.length ≤ 2) (hvk : vL k = true) => aencode_loop N (s_aencode N M) k.nodes hf (fun l1 => some l1) o m k.enc a7 b8 b9 a10 a11 k [] N acc hvk (by omega) (Nat.le_refl _) hw (by simpa using hl) (by omega)
    have hL' : ∀ (a7 : List UInt8) (b8 b9 : Bool) (a10 a11 : Int) (acc : List UInt8), acc.length ≤ 2 → vL k = true → S_aencode_8 N (s_aencode N M) k.enc (k.enc.length : Int) o m k.enc a7 b8 b9 a10 a11 N acc 0 (fun l1 => some l1) = some (acc ++ eL k) := hL
    unfold s_aencode B_aencode eC
    simp only [s_forms, bnd1_mk, br_dec, bI, Cl.enc_len] at hL' ⊢
    rcases vC_leaf hv with ⟨rfl, _, rfl⟩ | ⟨rfl, _, rfl⟩ | ⟨rfl, b1, b2, rfl⟩ | ⟨rfl, b1, b2, rfl⟩ | ⟨rfl, _, _, rfl⟩ | ⟨rfl, b1, b2, rfl⟩ | ⟨rfl | rfl, h1, h2, h3⟩
    · rw [if_pos rfl, hL' _ _ _ _ _ _ (by simp) rfl]; rfl
    · rw [if_neg (by omega), if_pos rfl, hL' _ _ _ _ _ _ (by simp) rfl]; rfl
    · rw [if_neg (by omega), if_neg (by omega), if_pos rfl, hL' _ _ _ _ _ _ (by simp) rfl, if_neg (by omega), if_pos (by omega)]; rfl
    · rw [if_neg (by omega), if_neg (by omega), if_neg (by omega), if_pos rfl, hL' _ _ _ _ _ _ (by simp) rfl, if_neg (by omega), if_pos (by omega)]; rfl
    · rw [if_neg (by omega), if_neg (by omega), if_neg (by omega), if_neg (by omega), if_pos rfl, hL' _ _ _ _ _ _ (by simp) rfl, if_neg (by omega), if_pos (by omega)]; rfl
    · rw [if_neg (by omega), if_neg (by omega), if_neg (by omega), if_neg (by omega), if_neg (by omega), if_pos rfl, hL' _ _ _ _ _ _ (by simp) rfl, if_neg (by omega), if_pos (by omega)]; rfl
    · rw [if_neg (by omega), if_neg (by omega), if_neg (by omega), if_neg (by omega), if_neg (by omega), if_neg (by omega), if_pos rfl, hL' _ _ _ _ _ _ (by simp) h3, if_pos (by omega)]; rfl
    · rw [if_neg (by omega), if_neg (by omega), if_neg (by omega), if_neg (by omega), if_neg (by omega), if_neg (by omega), if_neg (by omega), if_pos rfl, hL' _ _ _ _ _ _ (by simp) h3, if_pos (by omega)]; rfl
theorem qBytes_loop {R : Type} (f : Int → Int → List V → Option (List UInt8)) (n : Nat) (hf : ∀ (o m : Int) (k : Cl), vC o m k = true → k.nodes < n → k.wf → K63 k → f o m k.enc = some (eC o m k)) (K : List UInt8 → Option R) (a4 a5 : Int) :
    ∀ (l : Cl) (pre : List V) (t : Nat) (acc : List UInt8), vL l = true → l.len < t → l.nodes ≤ n → l.wf → pre.length + l.len ≤ 9223372036854775807 → acc.length + 2 * l.nodes ≤ 1000000 →
      S_qBytes_5 N f a4 a5 (pre ++ l.enc) t acc (pre.length : Int) K = K (acc ++ eL l)
  | l, pre, 0, acc, _, ht, _, _, _, _ => by omega
  | .nil, pre, t + 1, acc, _, ht, _, _, _, _ => by
    unfold S_qBytes_5 F_qBytes_5
    simp only [Cl.enc, br_t, br_f, br_dec, br_not, br_and, br_or, bnd1_mk, bnd2_mk, bnd3_mk, bnd4_mk, bnd5_mk, bnd10_mk, at_zero, at_succ, at_mid, unInt_mk, unBool_mk, unStr_mk, unBytes_mk, unSl_mk, unAgg_mk, unCons_mk, unNil_mk, endI, if_false, eL]
    rw [List.append_nil]
  | .cons o m k r, pre, t + 1, acc, hv, ht, hn, hw, hl, hb => by
    simp only [Cl.len, Cl.nodes] at ht hn hl hb
    rw [vL_cons, Bool.and_eq_true] at hv
    obtain ⟨_, _, hk1, hk2, hr⟩ := hw
    obtain ⟨h1, h2, h3, h4⟩ := stepC pre (ce o m k) r hl
    have hlen : (eC o m k).length ≤ 2 * k.nodes + 2 := by
      have := eL_len (.cons o m k .nil)
      rw [eL_cons] at this
      simp only [eL, List.append_nil, Cl.nodes] at this
      omega
    have ih := qBytes_loop f n hf K a4 a5 r (pre ++ [ce o m k]) t (acc ++ eC o m k) hv.2 (by omega) (by omega) hr (by simp; omega) (by rw [List.length_append]; omega)
    rw [← mid, ← h3] at ih
    have hc : (acc.length + (eC o m k).length) * 1 ≤ 140737488355328 := by omega
    unfold S_qBytes_5 F_qBytes_5
    simp only [enc_cons, br_t, br_f, br_dec, br_not, br_and, br_or, bnd1_mk, bnd2_mk, bnd3_mk, bnd4_mk, bnd5_mk, bnd10_mk, at_zero, at_succ, at_mid, unInt_mk, unBool_mk, unStr_mk, unBytes_mk, unSl_mk, unAgg_mk, unCons_mk, unNil_mk, h1, h2, if_true, Int.toNat_natCast, hf o m k hv.1 (by omega) hk2 hk1, hc]
    rw [ih, eL_cons, List.append_assoc]
theorem qBytes_eq : ∀ (M : Nat) (o m : Int) (k : Cl), vC o m k = true → k.nodes < M → k.nodes < N → k.nodes ≤ 1000 → k.wf → K63 k → s_qBytes N M o m k.enc = some (eC o m k)
  | 0, o, m, k, _, h, _, _, _, _ => by omega
  | M + 1, o, m, k, hv, h, hN, hs, hw, hl => by
    have hln := Cl.len_le k
    have hf := fun (o m : Int) (k' : Cl) (a0 : vC o m k' = true) (a1 : k'.nodes < k.nodes) (a2 : k'.wf) (a3 : K63 k') => qBytes_eq M o m k' a0 (by omega) (by omega) (by omega) a2 a3
    have hL := fun (acc : List UInt8) (ha : acc.length ≤ 2) (hvk : vL k = true) => qBytes_loop N (s_qBytes N M) k.nodes hf (fun l1 => some l1) o m k [] N acc hvk (by omega) (Nat.le_refl _) hw (by simpa using hl) (by omega)
    have hL' : ∀ (acc : List UInt8), acc.length ≤ 2 → vL k = true → S_qBytes_5 N (s_qBytes N M) o m k.enc N acc 0 (fun l1 => some l1) = some (acc ++ eL k) := hL
    unfold s_qBytes B_qBytes eC
    simp only [bnd1_mk, br_dec, bI, Cl.enc_len]
    by_cases h6 : 6 ≤ o
    · have h3 : vL k = true := by
        rcases vC_leaf hv with h | h | h | h | h | h | h
        all_goals first | omega | exact h.2.2.2
      rw [if_pos h6, if_pos h6, hL' _ (by simp) h3]; rfl
    · rw [if_neg h6, if_neg h6]
      by_cases h2 : 2 ≤ o
      · rw [if_pos h2, if_pos h2]
      · rw [if_neg h2, if_neg h2]
/-- Rules as data objects. -/
def rT : List Ru → Tl
  | [] => .nil
  | r :: l => .cons 128 (byteI r.ops :: eC r.o r.m r.k) .nil (rT l)
theorem rT_ok : ∀ l : List Ru, okL 1 (rT l) = true
  | [] => rfl
  | r :: l => by
    have e1 : tagV 128 = true := by decide
    have e2 : tagC 128 = false := by decide
    unfold rT okL
    rw [e1, e2, rT_ok l]; rfl
theorem rT_len : ∀ l : List Ru, (rT l).len = l.length
  | [] => rfl
  | r :: l => by simp [rT, Tl.len, rT_len l]
theorem rT_wt : ∀ l : List Ru, (∀ r ∈ l, r.k.nodes ≤ 15) → (rT l).wt ≤ 40 * l.length ∧ (encL (rT l)).length ≤ 40 * l.length ∧ (rT l).nodes ≤ l.length ∧ (rT l).wf
  | [], _ => ⟨Nat.le_refl _, Nat.le_refl _, Nat.le_refl _, trivial⟩
  | r :: l, h => by
    obtain ⟨h1, h2, h3, h4⟩ := rT_wt l fun r hr => h r (by simp [hr])
    have hr := h r (by simp)
    have hlen : (eC r.o r.m r.k).length ≤ 2 * r.k.nodes + 2 := by
      have := eL_len (.cons r.o r.m r.k .nil)
      rw [eL_cons] at this
      simp only [eL, List.append_nil, Cl.nodes] at this
      omega
    have e2 : tagC 128 = false := by decide
    have ht := tagB_len 128
    have hlb := lenB_len (((byteI r.ops :: eC r.o r.m r.k).length : Nat) : Int)
    refine ⟨?_, ?_, ?_, ?_⟩
    · unfold rT; simp only [Tl.wt, List.length_cons]; omega
    · unfold rT; rw [encL_cons, e2]; simp only [cond_false, List.length_append, List.length_cons] at hlb ⊢; omega
    · unfold rT; simp only [Tl.nodes, List.length_cons]; omega
    · unfold rT; exact ⟨⟨by omega, by omega⟩, by simp only [List.length_cons]; omega, by simp [Tl.len], trivial, h4⟩
theorem rT_cons (a : Tl) (r : Ru) (l : List Ru) : (a.append (.cons 128 (byteI r.ops :: eC r.o r.m r.k) .nil .nil)).append (rT l) = a.append (rT (r :: l)) := by
  induction a with
  | nil => rfl
  | cons t v k r' _ ih => simp only [Tl.append]; rw [ih]
theorem aEncode_loop {R : Type} (K : List V → Option R) : ∀ (l : List Ru) (pre : List V) (t : Nat) (acc : Tl), l.length < t → (∀ r ∈ l, GoodC N r.k ∧ vC r.o r.m r.k = true ∧ r.k.nodes ≤ 15) → pre.length + l.length ≤ 9223372036854775807 → acc.len + l.length ≤ 1000 →
      S_aEncode_6 N (pre ++ rE l) ((pre ++ rE l).length : Int) t acc.enc (pre.length : Int) K = K (acc.append (rT l)).enc
  | l, pre, 0, acc, ht, _, _, _ => by omega
  | [], pre, t + 1, acc, ht, _, _, _ => by
    unfold S_aEncode_6 F_aEncode_6
    simp only [rE, br_t, br_f, br_dec, br_not, br_and, br_or, bnd1_mk, bnd2_mk, bnd3_mk, bnd4_mk, bnd5_mk, bnd10_mk, at_zero, at_succ, at_mid, unInt_mk, unBool_mk, unStr_mk, unBytes_mk, unSl_mk, unAgg_mk, unCons_mk, unNil_mk, endI, if_false, rT, Tl.append_nil]
  | r :: l, pre, t + 1, acc, ht, hg, hl, hb => by
    simp only [List.length_cons] at ht hl hb
    obtain ⟨h1, h2, h3, h4⟩ := stepR pre (.agg [.int .i64 r.ops, .int .i64 r.o, .int .i64 r.m, .sl 46 r.k.enc]) l hl
    obtain ⟨g, gv, gn⟩ := hg r (by simp)
    have hlen : (eC r.o r.m r.k).length ≤ 2 * r.k.nodes + 2 := by
      have := eL_len (.cons r.o r.m r.k .nil)
      rw [eL_cons] at this
      simp only [eL, List.append_nil, Cl.nodes] at this
      omega
    have ih := aEncode_loop K l (pre ++ [.agg [.int .i64 r.ops, .int .i64 r.o, .int .i64 r.m, .sl 46 r.k.enc]]) t (acc.append (.cons 128 (byteI r.ops :: eC r.o r.m r.k) .nil .nil)) (by omega) (fun r hr => hg r (by simp [hr])) (by simp; omega) (by rw [Tl.len_append]; simp only [Tl.len]; omega)
    rw [← mid, ← h3, rT_cons, Tl.enc_append] at ih
    have c1 : ([byteI r.ops].length + (eC r.o r.m r.k).length) * 1 ≤ 140737488355328 := by simp; omega
    have c2 : (acc.enc.length + [V.agg [V.int IntKind.i64 128, V.bytes (byteI r.ops :: eC r.o r.m r.k), V.sl 62 []]].length) * 56 ≤ 140737488355328 := by rw [Tl.enc_len]; simp; omega
    unfold S_aEncode_6 F_aEncode_6
    simp only [rE, br_t, br_f, br_dec, br_not, br_and, br_or, bnd1_mk, bnd2_mk, bnd3_mk, bnd4_mk, bnd5_mk, bnd10_mk, at_zero, at_succ, at_mid, unInt_mk, unBool_mk, unStr_mk, unBytes_mk, unSl_mk, unAgg_mk, unCons_mk, unNil_mk, h1, h2, if_true, Int.toNat_natCast, aencode_eq N N r.o r.m r.k gv g.fuel g.fuel (by omega) g.wf g.len, bI, nilApp, c1, c2]
    exact ih
theorem qEncode_loop {R : Type} (K : List V → Option R) : ∀ (l : List Ru) (pre : List V) (t : Nat) (acc : Tl), l.length < t → (∀ r ∈ l, GoodC N r.k ∧ vC r.o r.m r.k = true ∧ r.k.nodes ≤ 15) → pre.length + l.length ≤ 9223372036854775807 → acc.len + l.length ≤ 1000 →
      S_qEncode_6 N (pre ++ rE l) t acc.enc (pre.length : Int) K = K (acc.append (rT l)).enc
  | l, pre, 0, acc, ht, _, _, _ => by omega
  | [], pre, t + 1, acc, ht, _, _, _ => by
    unfold S_qEncode_6 F_qEncode_6
    simp only [rE, br_t, br_f, br_dec, br_not, br_and, br_or, bnd1_mk, bnd2_mk, bnd3_mk, bnd4_mk, bnd5_mk, bnd10_mk, at_zero, at_succ, at_mid, unInt_mk, unBool_mk, unStr_mk, unBytes_mk, unSl_mk, unAgg_mk, unCons_mk, unNil_mk, endI, if_false, rT, Tl.append_nil]
  | r :: l, pre, t + 1, acc, ht, hg, hl, hb => by
    simp only [List.length_cons] at ht hl hb
    obtain ⟨h1, h2, h3, h4⟩ := stepR pre (.agg [.int .i64 r.ops, .int .i64 r.o, .int .i64 r.m, .sl 46 r.k.enc]) l hl
    obtain ⟨g, gv, gn⟩ := hg r (by simp)
    have hlen : (eC r.o r.m r.k).length ≤ 2 * r.k.nodes + 2 := by
      have := eL_len (.cons r.o r.m r.k .nil)
      rw [eL_cons] at this
      simp only [eL, List.append_nil, Cl.nodes] at this
      omega
    have ih := qEncode_loop K l (pre ++ [.agg [.int .i64 r.ops, .int .i64 r.o, .int .i64 r.m, .sl 46 r.k.enc]]) t (acc.append (.cons 128 (byteI r.ops :: eC r.o r.m r.k) .nil .nil)) (by omega) (fun r hr => hg r (by simp [hr])) (by simp; omega) (by rw [Tl.len_append]; simp only [Tl.len]; omega)
    rw [← mid, ← h3, rT_cons, Tl.enc_append] at ih
    have c1 : ([byteI r.ops].length + (eC r.o r.m r.k).length) * 1 ≤ 140737488355328 := by simp; omega
    have c2 : (acc.enc.length + [V.agg [V.int IntKind.i64 128, V.bytes (byteI r.ops :: eC r.o r.m r.k), V.sl 62 []]].length) * 56 ≤ 140737488355328 := by rw [Tl.enc_len]; simp; omega
    unfold S_qEncode_6 F_qEncode_6
    simp only [rE, br_t, br_f, br_dec, br_not, br_and, br_or, bnd1_mk, bnd2_mk, bnd3_mk, bnd4_mk, bnd5_mk, bnd10_mk, at_zero, at_succ, at_mid, unInt_mk, unBool_mk, unStr_mk, unBytes_mk, unSl_mk, unAgg_mk, unCons_mk, unNil_mk, h1, h2, if_true, Int.toNat_natCast, qBytes_eq N N r.o r.m r.k gv g.fuel g.fuel (by omega) g.wf g.len, bI, nilApp, c1, c2]
    exact ih
/-- What Encode returns. -/
def encRu (l : List Ru) : List UInt8 × Int := if chkR l = 0 then (encL (rT l), 0) else ([], chkR l)
theorem encR_rT {l : List Ru} (h : chkR l = 0) : encR (rT l) = (encL (rT l), 0) := by
  obtain ⟨h8, hv⟩ := chkR_zero h
  obtain ⟨_, h2, _, _⟩ := rT_wt l fun r hr => by have := (hv r hr).2.2.2.1; omega
  unfold encR
  rw [if_pos (rT_ok l), if_pos (by omega)]
theorem aEncode_eq (l : List Ru) (g : GoodR N l) : s_aEncode N (rE l) = some (encRu l) := by
  have g1 := g.len
  have g2 := g.fuel
  unfold s_aEncode encRu
  rw [aCheckRules_eq N l g, bnd1_mk, br_not, br_dec]
  by_cases c : chkR l = 0
  · obtain ⟨h8, hv⟩ := chkR_zero c
    obtain ⟨h1, h2, h3, h4⟩ := rT_wt l fun r hr => by have := (hv r hr).2.2.2.1; omega
    have hl1 := rT_len l
    have hL : ∀ (K : List V → Option (List UInt8 × Int)), S_aEncode_6 N (rE l) ((rE l).length : Int) N [] 0 K = K (Tl.append .nil (rT l)).enc := fun K =>
      aEncode_loop N K l [] N .nil (by omega) (fun r hr => ⟨g.good r hr, (hv r hr).2.2.1, (hv r hr).2.2.2.1⟩) (by simp; omega) (by simp [Tl.len]; omega)
    rw [if_pos c, if_pos c, hL]
    show bnd2 (s_Encode N (rT l).enc) _ = _
    rw [Encode_eq N (rT l) (by omega) h4 (by show (rT l).len ≤ _; omega) (by omega), encR_rT c]; rfl
  · rw [if_neg c, if_neg c]
theorem qEncode_eq (l : List Ru) (g : GoodR N l) : s_qEncode N (rE l) = some (encRu l) := by
  have g1 := g.len
  have g2 := g.fuel
  unfold s_qEncode encRu
  rw [qCheckRules_eq N l g, bnd1_mk, br_not, br_dec]
  by_cases c : chkR l = 0
  · obtain ⟨h8, hv⟩ := chkR_zero c
    obtain ⟨h1, h2, h3, h4⟩ := rT_wt l fun r hr => by have := (hv r hr).2.2.2.1; omega
    have hl1 := rT_len l
    have hL : ∀ (K : List V → Option (List UInt8 × Int)), S_qEncode_6 N (rE l) N [] 0 K = K (Tl.append .nil (rT l)).enc := fun K =>
      qEncode_loop N K l [] N .nil (by omega) (fun r hr => ⟨g.good r hr, (hv r hr).2.2.1, (hv r hr).2.2.2.1⟩) (by simp; omega) (by simp [Tl.len]; omega)
    rw [if_pos c, if_pos c, hL]
    show bnd2 (s_rEncode N (rT l).enc) _ = _
    rw [rEncode_eq N (rT l) (by omega) h4 (by show (rT l).len ≤ _; omega) (by omega), encR_rT c]; rfl
  · rw [if_neg c, if_neg c]
end
end Go.Proofs.Ytllnklkjkjmjbaa.En

/- Decoding rules: the program and the reference. -/
namespace Go.Proofs.Ytllnklkjkjmjbaa.En
open Go
set_option linter.unusedVariables false
def dcP : Option ((Int × Int × Cl) × List UInt8) → Int × Int × List V × List UInt8 × Bool
  | none => (0, 0, [], [], false)
  | some ((o, m, k), rest) => (o, m, k.enc, rest, true)
theorem enc_app (acc : List V) (o m : Int) (k r : Cl) : acc ++ [V.agg [V.int .i64 o, V.int .i64 m, V.sl 46 k.enc]] ++ r.enc = acc ++ (Cl.cons o m k r).enc := by simp [Cl.enc]
section
variable (N : Nat)
theorem adecode_loop (f : List UInt8 → Int → Option (Int × Int × List V × List UInt8 × Bool)) (d : Int) (e : Nat) (hf : ∀ b, f b (IntKind.i64.wrap (d + 1)) = some (dcP (rd 7 e b))) (n : Nat) (hn : n ≤ 255) (a4 a5 a7 a8 a13 a14 : Int) (a6 : List V) (a10 : List UInt8) (a11 a12 : Bool) (K1 : List UInt8 → List V → Option (Int × Int × List V × List UInt8 × Bool)) :
    ∀ (j : Nat) (b : List UInt8) (i : Nat) (acc : List V) (t : Nat), i + j = n → acc.length = i → j < t →
      S_adecode_16 N f d (n : Int) a4 a5 a6 a7 a8 a10 a11 a12 a13 a14 t b (i : Int) acc (fun l8 l9 b10 n11 n12 l13 l14 => some (n11, n12, l13, l9, b10)) K1 = match rdL (rd 7 e) j b with
        | none => some (0, 0, [], [], false)
        | some (l, rest) => K1 rest (acc ++ l.enc)
  | j, b, i, acc, 0, _, _, ht => by omega
  | 0, b, i, acc, t + 1, hi, ha, ht => by
    unfold S_adecode_16 F_adecode_16
    rw [br_dec, if_neg (by omega)]
    simp [rdL, Cl.enc]
  | j + 1, b, i, acc, t + 1, hi, ha, ht => by
    unfold S_adecode_16 F_adecode_16 rdL
    rw [br_dec, if_pos (by omega), hf]
    cases h : rd 7 e b with
    | none => rfl
    | some x =>
      obtain ⟨⟨o, m, k⟩, rest⟩ := x
      have hc : (acc.length + [V.agg [V.int IntKind.i64 o, V.int IntKind.i64 m, V.sl 46 k.enc]].length) * 40 ≤ 140737488355328 := by simp; omega
      have hw : IntKind.i64.wrap ((i : Int) + 1) = ((i + 1 : Nat) : Int) := by rw [w64 (by omega) (by omega)]; omega
      have ih := adecode_loop f d e hf n hn a4 a5 a7 a8 a13 a14 a6 a10 a11 a12 K1 j rest (i + 1) (acc ++ [V.agg [V.int IntKind.i64 o, V.int IntKind.i64 m, V.sl 46 k.enc]]) t (by omega) (by simp [ha]) (by omega)
      simp only [dcP, bnd5_mk, br_not, br_t, br_dec, hc, if_true, hw]
      rw [ih]
      cases rdL (rd 7 e) j rest with
      | none => rfl
      | some y =>
        obtain ⟨l, rest'⟩ := y
        show K1 rest' _ = K1 rest' _
        rw [enc_app]
theorem adecode_eq (hN : 1000 < N) : ∀ (e M : Nat) (b : List UInt8), e ≤ 8 → e < M → s_adecode N M b (9 - (e : Int)) = some (dcP (rd 7 e b))
  | e, 0, b, _, h => by omega
  | e, M + 1, b, he, h => by
    unfold s_adecode B_adecode
    simp only [br_dec, br_not, br_and, s_forms, bnd1_mk]
    cases b with
    | nil => cases e <;> simp [rd, dcP]
    | cons op b =>
      have ho := u8_lt op
      have hl : ¬ (((op :: b).length : Int) = 0) := by simp only [List.length_cons]; omega
      have hl2 : (0 : Int) < ((op :: b).length : Int) := by simp only [List.length_cons]; omega
      have hl3 : (1 : Int) ≤ ((op :: b).length : Int) := by simp only [List.length_cons]; omega
      simp only [hl, hl2, hl3, if_false, if_true, at_zero, w64_u8, List.drop_succ_cons, List.drop_zero]
      cases e with
      | zero =>
        have : (8 : Int) < 9 - ((0 : Nat) : Int) := by omega
        simp only [this, if_true]
        by_cases c : (7 : Int) < (op.toNat : Int)
        · rw [if_pos c]; rfl
        · rw [if_neg c]; rfl
      | succ e =>
        unfold rd
        by_cases c : (7 : Int) < (op.toNat : Int)
        · rw [if_pos c, if_pos c]; rfl
        rw [if_neg c, if_neg c, if_neg (by omega)]
        by_cases c2 : (op.toNat : Int) < 2
        · rw [if_pos c2]
          rcases (by omega : (op.toNat : Int) = 0 ∨ (op.toNat : Int) = 1) with c3 | c3
          · rw [if_pos c3]; simp [dcP, Cl.enc]
          · rw [if_neg (by omega), if_pos c3]; simp [dcP, Cl.enc]
        rw [if_neg c2, if_neg (by omega), if_neg (by omega)]
        cases b with
        | nil =>
          simp only [List.length_nil, Int.natCast_zero, if_true, dcP]
          rcases (by omega : (op.toNat : Int) = 2 ∨ (op.toNat : Int) = 3 ∨ (op.toNat : Int) = 4 ∨ (op.toNat : Int) = 5 ∨ (op.toNat : Int) = 6 ∨ (op.toNat : Int) = 7) with c3 | c3 | c3 | c3 | c3 | c3 <;> simp [c3]
        | cons n b =>
          have hn := u8_lt n
          have hl : ¬ (((n :: b).length : Int) = 0) := by simp only [List.length_cons]; omega
          have hl2 : (0 : Int) < ((n :: b).length : Int) := by simp only [List.length_cons]; omega
          have hl3 : (1 : Int) ≤ ((n :: b).length : Int) := by simp only [List.length_cons]; omega
          simp only [hl, hl2, hl3, if_false, if_true, at_zero, w64_u8, List.drop_succ_cons, List.drop_zero]
          by_cases c6 : (op.toNat : Int) < 6
          · rw [if_pos c6]
            rcases (by omega : (op.toNat : Int) = 2 ∨ (op.toNat : Int) = 3 ∨ (op.toNat : Int) = 4 ∨ (op.toNat : Int) = 5) with c3 | c3 | c3 | c3 <;> simp [c3, dcP, Cl.enc]
          · rw [if_neg c6]
            have hf : ∀ b, s_adecode N M b (IntKind.i64.wrap (9 - ((e + 1 : Nat) : Int) + 1)) = some (dcP (rd 7 e b)) := by
              intro b
              rw [w64 (by omega) (by omega), show 9 - ((e + 1 : Nat) : Int) + 1 = 9 - (e : Int) by omega]
              exact adecode_eq hN e M b (by omega) (by omega)
            have hL := fun (a7 : Int) (a10 : List UInt8) (K1 : List UInt8 → List V → Option (Int × Int × List V × List UInt8 × Bool)) => adecode_loop N (s_adecode N M) (9 - ((e + 1 : Nat) : Int)) e hf n.toNat (by omega) 0 0 a7 0 0 0 [] a10 false true K1 n.toNat b 0 [] N (by omega) rfl (by omega)
            have hL' : ∀ (a7 : Int) (a10 : List UInt8) (K1 : List UInt8 → List V → Option (Int × Int × List V × List UInt8 × Bool)), S_adecode_16 N (s_adecode N M) (9 - ((e + 1 : Nat) : Int)) (n.toNat : Int) 0 0 [] a7 0 a10 false true 0 0 N b 0 [] (fun l8 l9 b10 n11 n12 l13 l14 => some (n11, n12, l13, l9, b10)) K1 = match rdL (rd 7 e) n.toNat b with
              | none => some (0, 0, [], [], false)
              | some (l, rest) => K1 rest ([] ++ l.enc) := hL
            simp only [hL']
            rcases (by omega : (op.toNat : Int) = 6 ∨ (op.toNat : Int) = 7) with c3 | c3
            · rw [if_neg (by omega), if_neg (by omega), if_neg (by omega), if_neg (by omega), if_pos c3]
              cases rdL (rd 7 e) n.toNat b with
              | none => rfl
              | some y => rfl
            · rw [if_neg (by omega), if_neg (by omega), if_neg (by omega), if_neg (by omega), if_neg (by omega), if_pos c3]
              cases rdL (rd 7 e) n.toNat b with
              | none => rfl
              | some y => rfl
/-- The reference's reading: what it leaves at a failure does not matter. -/
def QR (r : Option (Int × Int × List V × List UInt8 × Bool)) (x : Option ((Int × Int × Cl) × List UInt8)) : Prop :=
  match x with
  | none => ∃ o m v, r = some (o, m, v, [], false)
  | some ((o, m, k), rest) => r = some (o, m, k.enc, rest, true)
theorem qread_loop (f : List UInt8 → Int → Option (Int × Int × List V × List UInt8 × Bool)) (d : Int) (e : Nat) (hf : ∀ b, QR (f b (IntKind.i64.wrap (d - 1))) (rd 255 e b)) (n : Nat) (hn : n ≤ 255) (op : Int) (a4 a5 a7 a8 : Int) (a6 : List V) :
    ∀ (j : Nat) (b : List UInt8) (i : Nat) (acc : List V) (t : Nat), i + j = n → acc.length = i → j < t →
      match rdL (rd 255 e) j b with
        | none => ∃ o m v, S_qread_16 N f d (n : Int) a4 a5 a6 a7 a8 t b (i : Int) acc (fun l2 l3 b4 l5 l6 => some (op, (0 : Int), l5, l3, b4)) (fun l7 l8 => some (op, (0 : Int), l8, l7, true)) = some (o, m, v, [], false)
        | some (l, rest) => S_qread_16 N f d (n : Int) a4 a5 a6 a7 a8 t b (i : Int) acc (fun l2 l3 b4 l5 l6 => some (op, (0 : Int), l5, l3, b4)) (fun l7 l8 => some (op, (0 : Int), l8, l7, true)) = some (op, 0, acc ++ l.enc, rest, true)
  | j, b, i, acc, 0, _, _, ht => by omega
  | 0, b, i, acc, t + 1, hi, ha, ht => by
    unfold S_qread_16 F_qread_16
    rw [br_dec, if_neg (by omega)]
    simp [rdL, Cl.enc]
  | j + 1, b, i, acc, t + 1, hi, ha, ht => by
    unfold S_qread_16 F_qread_16 rdL
    rw [br_dec, if_pos (by omega)]
    have h0 := hf b
    cases h : rd 255 e b with
    | none =>
      rw [h] at h0
      obtain ⟨o, m, v, h0⟩ := h0
      rw [h0]
      exact ⟨_, _, _, rfl⟩
    | some x =>
      obtain ⟨⟨o, m, k⟩, rest⟩ := x
      rw [h] at h0
      have h0' : f b (IntKind.i64.wrap (d - 1)) = some (o, m, k.enc, rest, true) := h0
      have hc : (acc.length + [V.agg [V.int IntKind.i64 o, V.int IntKind.i64 m, V.sl 46 k.enc]].length) * 40 ≤ 140737488355328 := by simp; omega
      have hw : IntKind.i64.wrap ((i : Int) + 1) = ((i + 1 : Nat) : Int) := by rw [w64 (by omega) (by omega)]; omega
      have ih := qread_loop f d e hf n hn op a4 a5 a7 a8 a6 j rest (i + 1) (acc ++ [V.agg [V.int IntKind.i64 o, V.int IntKind.i64 m, V.sl 46 k.enc]]) t (by omega) (by simp [ha]) (by omega)
      simp only [h0', bnd5_mk, br_not, br_t, br_dec, hc, if_true, hw]
      revert ih
      cases rdL (rd 255 e) j rest with
      | none => intro ih; exact ih
      | some y =>
        obtain ⟨l, rest'⟩ := y
        intro ih
        simp only at ih ⊢
        rw [enc_app] at ih
        exact ih
theorem qread_eq (hN : 1000 < N) : ∀ (e M : Nat) (b : List UInt8), e ≤ 16 → e < M → QR (s_qread N M b (e : Int)) (rd 255 e b)
  | e, 0, b, _, h => by omega
  | e, M + 1, b, he, h => by
    unfold s_qread B_qread
    simp only [br_dec, br_not, br_and, s_forms, bnd1_mk]
    cases b with
    | nil => cases e <;> exact ⟨0, 0, [], by simp⟩
    | cons op b =>
      have ho := u8_lt op
      have hl : ¬ (((op :: b).length : Int) = 0) := by simp only [List.length_cons]; omega
      have hl2 : (0 : Int) < ((op :: b).length : Int) := by simp only [List.length_cons]; omega
      have hl3 : (1 : Int) ≤ ((op :: b).length : Int) := by simp only [List.length_cons]; omega
      simp only [hl, hl2, hl3, if_false, if_true, at_zero, w64_u8, List.drop_succ_cons, List.drop_zero]
      cases e with
      | zero => exact ⟨0, 0, [], by simp⟩
      | succ e =>
        rw [if_neg (show ¬ ((e + 1 : Nat) : Int) < 1 by omega)]
        unfold rd
        rw [if_neg (show ¬ (255 : Int) < (op.toNat : Int) by omega)]
        by_cases c2 : (op.toNat : Int) < 2
        · rw [if_pos c2, if_pos c2]; rfl
        rw [if_neg c2, if_neg c2]
        cases b with
        | nil => exact ⟨op.toNat, 0, [], by simp⟩
        | cons n b =>
          have hn := u8_lt n
          have hl : ¬ (((n :: b).length : Int) = 0) := by simp only [List.length_cons]; omega
          have hl2 : (0 : Int) < ((n :: b).length : Int) := by simp only [List.length_cons]; omega
          have hl3 : (1 : Int) ≤ ((n :: b).length : Int) := by simp only [List.length_cons]; omega
          simp only [hl, hl2, hl3, if_false, if_true, at_zero, w64_u8, List.drop_succ_cons, List.drop_zero]
          by_cases c6 : (op.toNat : Int) < 6
          · rw [if_pos c6, if_pos c6]; rfl
          · rw [if_neg c6, if_neg c6]
            have hf : ∀ b, QR (s_qread N M b (IntKind.i64.wrap (((e + 1 : Nat) : Int) - 1))) (rd 255 e b) := by
              intro b
              rw [w64 (by omega) (by omega), show ((e + 1 : Nat) : Int) - 1 = (e : Int) by omega]
              exact qread_eq hN e M b (by omega) (by omega)
            have hL := qread_loop N (s_qread N M) ((e + 1 : Nat) : Int) e hf n.toNat (by omega) (op.toNat : Int) 0 0 (op.toNat : Int) 0 [] n.toNat b 0 [] N (by omega) rfl (by omega)
            revert hL
            cases rdL (rd 255 e) n.toNat b with
            | none =>
              intro hL
              simp only [Int.natCast_zero] at hL
              simp only [QR]
              exact hL
            | some y =>
              obtain ⟨l, rest⟩ := y
              intro hL
              simp only [Int.natCast_zero, List.nil_append] at hL
              simp only [QR]
              exact hL
/-! Rules -/
def rdRu (lim : Int) (e : Nat) : Tl → Option (List Ru)
  | .nil => some []
  | .cons t v k r => if t = 128 then (match v with
      | [] => none
      | op :: v => match rd lim e v with
        | none => none
        | some ((o, m, k'), rest) => if rest.length = 0 then (match rdRu lim e r with | none => none | some l => some (⟨(op.toNat : Int), o, m, k'⟩ :: l)) else none) else none
/-- What is read has the bytes that were read. -/
theorem rdRu_ok {lim : Int} {e : Nat} : ∀ (l : Tl) (rs : List Ru), okL 1 l = true → rdRu lim e l = some rs → l = rT rs
  | .nil, rs, _, h => by
    simp only [rdRu, Option.some.injEq] at h
    subst h; rfl
  | .cons t v k r, rs, hok, h => by
    unfold rdRu at h
    split at h
    · rename_i c
      subst c
      cases v with
      | nil => cases h
      | cons op v =>
        simp only at h
        split at h
        · cases h
        · rename_i o m k' rest h1
          split at h
          · rename_i c2
            split at h
            · cases h
            · rename_i l h3
              simp only [Option.some.injEq] at h
              subst h
              have e1 : tagV 128 = true := by decide
              have e2 : tagC 128 = false := by decide
              unfold okL at hok
              rw [e1, e2] at hok
              simp only [cond_false, Bool.true_and, Bool.and_eq_true] at hok
              have hk : k = .nil := by
                have := hok.1.2
                cases k <;> simp [Tl.isNil] at this
                rfl
              have := rd_ok lim e v o m k' rest h1
              have hr : rest = [] := List.length_eq_zero_iff.1 c2
              subst hr
              rw [List.append_nil] at this
              rw [rdRu_ok r l hok.2 h3, hk, this]
              show _ = Tl.cons 128 (byteI (op.toNat : Int) :: eC o m k') .nil (rT l)
              rw [byteI_u8]
          · cases h
    · cases h
theorem rdRu_wf {lim : Int} {e : Nat} : ∀ (l : Tl) (rs : List Ru), rdRu lim e l = some rs → rs.length = l.len ∧ ∀ r ∈ rs, r.k.wf ∧ K63 r.k ∧ r.k.nodes ≤ l.wt ∧ I64 r.o ∧ I64 r.m ∧ I64 r.ops
  | .nil, rs, h => by
    simp only [rdRu, Option.some.injEq] at h
    subst h; exact ⟨rfl, by simp⟩
  | .cons t v k r, rs, h => by
    unfold rdRu at h
    split at h
    · cases v with
      | nil => cases h
      | cons op v =>
        simp only at h
        split at h
        · cases h
        · rename_i o m k' rest h1
          split at h
          · split at h
            · cases h
            · rename_i l h3
              simp only [Option.some.injEq] at h
              subst h
              obtain ⟨h4, h5⟩ := rdRu_wf r l h3
              obtain ⟨⟨a1, a2, a3, a4, _⟩, a6⟩ := rd_wf lim e v o m k' rest h1
              have := u8_lt op
              refine ⟨by simp [Tl.len, h4], fun x hx => ?_⟩
              rcases List.mem_cons.1 hx with rfl | hx
              · exact ⟨a4, a3, by simp only [Tl.wt, List.length_cons]; omega, a1, a2, ⟨by show (-9223372036854775808 : Int) ≤ (op.toNat : Int); omega, by show (op.toNat : Int) ≤ 9223372036854775807; omega⟩⟩
              · obtain ⟨b1, b2, b3, b4⟩ := h5 x hx
                exact ⟨b1, b2, by simp only [Tl.wt]; omega, b4⟩
          · cases h
    · cases h
theorem rdRu_mono {lim lim' : Int} {e e' : Nat} (hl : lim ≤ lim') (he : e ≤ e') : ∀ (l : Tl) (rs : List Ru), rdRu lim e l = some rs → rdRu lim' e' l = some rs
  | .nil, rs, h => h
  | .cons t v k r, rs, h => by
    unfold rdRu at h ⊢
    split at h
    · rename_i c
      rw [if_pos c]
      cases v with
      | nil => cases h
      | cons op v =>
        simp only at h ⊢
        split at h
        · cases h
        · rename_i o m k' rest h1
          rw [rd_mono hl e e' v _ he h1]
          simp only
          split at h
          · rename_i c2
            rw [if_pos c2]
            split at h
            · cases h
            · rename_i l h3
              rw [rdRu_mono hl he r l h3]
              exact h
          · cases h
    · cases h
/-- What valid rules are encoded to is read. -/
theorem rdRu_put : ∀ (l : List Ru), (∀ r ∈ l, 1 ≤ r.ops ∧ r.ops ≤ 255 ∧ vC r.o r.m r.k = true ∧ r.k.nodes ≤ 15 ∧ r.k.dep ≤ 7) → rdRu 7 8 (rT l) = some l
  | [], _ => rfl
  | r :: l, h => by
    obtain ⟨h1, h2, h3, h4, h5⟩ := h r (by simp)
    have ih := rdRu_put l fun r hr => h r (by simp [hr])
    have hp := rd_putC (d := 7) [] h3 (by omega) h5
    rw [List.append_nil] at hp
    have hb : ((byteI r.ops).toNat : Int) = r.ops := by rw [byteI_toNat]; omega
    unfold rT rdRu
    rw [if_pos rfl]
    simp only [hp, ih, List.length_nil, if_true, hb]
theorem aDecode_loop (hN : 1000 < N) (K1 : List V → Option (List V × Int)) : ∀ (l : Tl) (pre : List V) (t : Nat) (acc : List Ru), l.len < t → pre.length + l.len ≤ 100000 → acc.length + l.len ≤ 100000 →
      S_aDecode_6 N (pre ++ l.enc) ((pre ++ l.enc).length : Int) t (rE acc) (pre.length : Int) (fun l2 n3 l4 => some (l2, n3)) K1 = match rdRu 7 8 l with
        | none => some ([], 4)
        | some rs => K1 (rE (acc ++ rs))
  | l, pre, 0, acc, ht, _, _ => by omega
  | .nil, pre, t + 1, acc, ht, _, _ => by
    unfold S_aDecode_6 F_aDecode_6
    simp only [Tl.enc, br_t, br_f, br_dec, br_not, br_and, br_or, bnd1_mk, bnd2_mk, bnd3_mk, bnd4_mk, bnd5_mk, bnd10_mk, at_zero, at_succ, at_mid, unInt_mk, unBool_mk, unStr_mk, unBytes_mk, unSl_mk, unAgg_mk, unCons_mk, unNil_mk, endI, if_false, rdRu]
    rw [List.append_nil]
  | .cons tg v k r, pre, t + 1, acc, ht, hl, ha => by
    simp only [Tl.len] at ht hl ha
    obtain ⟨h1, h2, h3, h4⟩ := stepI pre (.agg [.int .i64 tg, .bytes v, .sl 62 k.enc]) r.enc (by rw [Tl.enc_len]; omega)
    have ih := fun acc ha => aDecode_loop hN K1 r (pre ++ [.agg [.int .i64 tg, .bytes v, .sl 62 k.enc]]) t acc (by omega) (by simp; omega) ha
    rw [← mid, ← h3] at ih
    have hde := fun b => adecode_eq N hN 8 N b (by omega) (by omega)
    have hde' : ∀ b, s_adecode N N b 1 = some (dcP (rd 7 8 b)) := hde
    unfold S_aDecode_6 F_aDecode_6 rdRu
    simp only [Tl.enc, br_t, br_f, br_dec, br_not, br_and, br_or, bnd1_mk, bnd2_mk, bnd3_mk, bnd4_mk, bnd5_mk, bnd10_mk, at_zero, at_succ, at_mid, unInt_mk, unBool_mk, unStr_mk, unBytes_mk, unSl_mk, unAgg_mk, unCons_mk, unNil_mk, h1, h2, if_true, Int.toNat_natCast, hde']
    by_cases c1 : tg = 128
    · rw [if_pos c1, if_pos c1]
      cases v with
      | nil => simp
      | cons op v =>
        have e1 : ¬ (((op :: v).length : Int) = 0) := by simp only [List.length_cons]; omega
        have e2 : (1 : Int) ≤ ((op :: v).length : Int) := by simp only [List.length_cons]; omega
        have e3 : (0 : Int) < ((op :: v).length : Int) := by simp only [List.length_cons]; omega
        simp only [e1, e2, e3, if_false, if_true, List.drop_succ_cons, List.drop_zero, at_zero, w64_u8]
        cases h : rd 7 8 v with
        | none => rfl
        | some x =>
          obtain ⟨⟨o, m, k'⟩, rest⟩ := x
          simp only [dcP, bnd5_mk, br_t]
          by_cases c2 : rest.length = 0
          · have hc : ((rE acc).length + [V.agg [V.int IntKind.i64 (op.toNat : Int), V.int IntKind.i64 o, V.int IntKind.i64 m, V.sl 46 k'.enc]].length) * 48 ≤ 140737488355328 := by rw [rE_len]; simp; omega
            have e : rE acc ++ [V.agg [V.int IntKind.i64 (op.toNat : Int), V.int IntKind.i64 o, V.int IntKind.i64 m, V.sl 46 k'.enc]] = rE (acc ++ [⟨(op.toNat : Int), o, m, k'⟩]) := by rw [rE_append]; rfl
            rw [if_neg (by omega), if_pos hc, if_pos c2, e, ih _ (by simp; omega)]
            cases rdRu 7 8 r with
            | none => rfl
            | some rs => simp
          · rw [if_pos (by omega), if_neg c2]
    · rw [if_neg c1, if_neg c1]
theorem qDecode_loop (hN : 1000 < N) (b0 : List UInt8) (K1 : List V → Option (List V × Int)) : ∀ (l : Tl) (pre : List V) (t : Nat) (acc : List Ru), l.len < t → pre.length + l.len ≤ 100000 → acc.length + l.len ≤ 100000 →
      S_qDecode_6 N b0 (pre ++ l.enc) t (rE acc) (pre.length : Int) (fun l2 n3 l4 => some (l2, n3)) K1 = match rdRu 255 16 l with
        | none => some ([], 4)
        | some rs => K1 (rE (acc ++ rs))
  | l, pre, 0, acc, ht, _, _ => by omega
  | .nil, pre, t + 1, acc, ht, _, _ => by
    unfold S_qDecode_6 F_qDecode_6
    simp only [Tl.enc, br_t, br_f, br_dec, br_not, br_and, br_or, bnd1_mk, bnd2_mk, bnd3_mk, bnd4_mk, bnd5_mk, bnd10_mk, at_zero, at_succ, at_mid, unInt_mk, unBool_mk, unStr_mk, unBytes_mk, unSl_mk, unAgg_mk, unCons_mk, unNil_mk, endI, if_false, rdRu]
    rw [List.append_nil]
  | .cons tg v k r, pre, t + 1, acc, ht, hl, ha => by
    simp only [Tl.len] at ht hl ha
    obtain ⟨h1, h2, h3, h4⟩ := stepI pre (.agg [.int .i64 tg, .bytes v, .sl 62 k.enc]) r.enc (by rw [Tl.enc_len]; omega)
    have ih := fun acc ha => qDecode_loop hN b0 K1 r (pre ++ [.agg [.int .i64 tg, .bytes v, .sl 62 k.enc]]) t acc (by omega) (by simp; omega) ha
    rw [← mid, ← h3] at ih
    unfold S_qDecode_6 F_qDecode_6 rdRu
    simp only [Tl.enc, br_t, br_f, br_dec, br_not, br_and, br_or, bnd1_mk, bnd2_mk, bnd3_mk, bnd4_mk, bnd5_mk, bnd10_mk, at_zero, at_succ, at_mid, unInt_mk, unBool_mk, unStr_mk, unBytes_mk, unSl_mk, unAgg_mk, unCons_mk, unNil_mk, h1, h2, if_true, Int.toNat_natCast]
    by_cases c1 : tg = 128
    · rw [if_pos c1, if_pos c1]
      cases v with
      | nil => simp
      | cons op v =>
        have hq := qread_eq N hN 16 N v (by omega) (by omega)
        have hq' : QR (s_qread N N v 16) (rd 255 16 v) := hq
        cases v with
        | nil => simp [rd]
        | cons z v =>
        have e1 : ¬ (((op :: z :: v).length : Int) < 2) := by simp only [List.length_cons]; omega
        have e2 : (1 : Int) ≤ ((op :: z :: v).length : Int) := by simp only [List.length_cons]; omega
        have e3 : (0 : Int) < ((op :: z :: v).length : Int) := by simp only [List.length_cons]; omega
        simp only [e1, e2, e3, if_false, if_true, List.drop_succ_cons, List.drop_zero, at_zero, w64_u8]
        cases h : rd 255 16 (z :: v) with
        | none =>
          rw [h] at hq'
          obtain ⟨o, m, w, hq'⟩ := hq'
          rw [hq']; rfl
        | some x =>
          obtain ⟨⟨o, m, k'⟩, rest⟩ := x
          rw [h] at hq'
          have hq2 : s_qread N N (z :: v) 16 = some (o, m, k'.enc, rest, true) := hq'
          simp only [hq2, bnd5_mk, br_t]
          by_cases c2 : rest.length = 0
          · have hc : ((rE acc).length + [V.agg [V.int IntKind.i64 (op.toNat : Int), V.int IntKind.i64 o, V.int IntKind.i64 m, V.sl 46 k'.enc]].length) * 48 ≤ 140737488355328 := by rw [rE_len]; simp; omega
            have e : rE acc ++ [V.agg [V.int IntKind.i64 (op.toNat : Int), V.int IntKind.i64 o, V.int IntKind.i64 m, V.sl 46 k'.enc]] = rE (acc ++ [⟨(op.toNat : Int), o, m, k'⟩]) := by rw [rE_append]; rfl
            rw [if_neg (by omega), if_pos hc, if_pos c2, e, ih _ (by simp; omega)]
            cases rdRu 255 16 r with
            | none => rfl
            | some rs => simp
          · rw [if_pos (by omega), if_neg c2]
    · rw [if_neg c1, if_neg c1]
/-! Decode -/
def decT (b : List UInt8) : Except Int Tl := if 4096 < b.length then .error 3 else dec (b.length + 1) 1 b
theorem decR_decT (b : List UInt8) : decR b = decP [] (decT b) := by
  unfold decR decT
  split <;> rfl
theorem decT_ok {b : List UInt8} {l : Tl} (h : decT b = .ok l) : okL 1 l = true ∧ encL l = b ∧ l.wt ≤ b.length ∧ l.wf ∧ b.length ≤ 4096 := by
  unfold decT at h
  split at h
  · cases h
  · obtain ⟨h1, h2, h3, h4⟩ := enc_dec _ _ _ _ h
    exact ⟨h1, h2, h3, h4, by omega⟩
theorem decT_err {b : List UInt8} {e : Int} (h : decT b = .error e) : e ≠ 0 := by
  unfold decT at h
  split at h
  · injection h with h; omega
  · have := dec_err _ _ _ _ h; omega
def decRu (b : List UInt8) : List Ru × Int :=
  match decT b with
  | .error e => ([], e)
  | .ok l => match rdRu 7 8 l with
    | none => ([], 4)
    | some rs => if chkR rs = 0 then (rs, 0) else ([], 4)
theorem goodR_rd {lim : Int} {e : Nat} {b : List UInt8} (hb : b.length ≤ 1000) (hN : 10000 < N) {l : Tl} (hd : decT b = .ok l) {rs : List Ru} (h : rdRu lim e l = some rs) : GoodR N rs := by
  obtain ⟨h1, h2, h3, h4, h5⟩ := decT_ok hd
  obtain ⟨h6, h7⟩ := rdRu_wf l rs h
  have := l.len_wt
  refine ⟨by omega, by omega, fun r hr => ?_⟩
  obtain ⟨a1, a2, a3, _⟩ := h7 r hr
  exact ⟨a1, a2, by omega, by omega⟩
theorem aDecode_eq (hN : 10000 < N) (b : List UInt8) (hb : b.length ≤ 1000) : s_aDecode N b = some (rE (decRu b).1, (decRu b).2) := by
  unfold s_aDecode decRu
  rw [Decode_eq N (by omega), decR_decT]
  cases hd : decT b with
  | error e =>
    have he := decT_err hd
    simp only [decP, bnd2_mk, br_not, br_dec]
    rw [if_neg he]; rfl
  | ok l =>
    obtain ⟨h1, h2, h3, h4, h5⟩ := decT_ok hd
    have := l.len_wt
    have hL : ∀ (K1 : List V → Option (List V × Int)), S_aDecode_6 N l.enc (l.enc.length : Int) N [] 0 (fun l2 n3 l4 => some (l2, n3)) K1 = match rdRu 7 8 l with
        | none => some ([], 4)
        | some rs => K1 (rE ([] ++ rs)) := fun K1 => aDecode_loop N (by omega) K1 l [] N [] (by omega) (by simp; omega) (by simp; omega)
    simp only [decP, List.nil_append, bnd2_mk, br_not, br_dec, if_true, hL]
    cases hr : rdRu 7 8 l with
    | none => rfl
    | some rs =>
      simp only [aCheckRules_eq N rs (goodR_rd N hb hN hd hr), bnd1_mk]
      by_cases c : chkR rs = 0
      · simp only [c, if_true]
      · simp only [c, if_false]; rfl
/-- The reference decodes what the program decodes. -/
theorem qDecode_eq (hN : 10000 < N) (b : List UInt8) (hb : b.length ≤ 1000) : s_qDecode N b = some (rE (decRu b).1, (decRu b).2) := by
  unfold s_qDecode decRu
  rw [rDecode_eq N (by omega), decR_decT]
  cases hd : decT b with
  | error e =>
    have he := decT_err hd
    simp only [decP, bnd2_mk, br_not, br_dec]
    rw [if_neg he]; rfl
  | ok l =>
    obtain ⟨h1, h2, h3, h4, h5⟩ := decT_ok hd
    have := l.len_wt
    have hL : ∀ (K1 : List V → Option (List V × Int)), S_qDecode_6 N b l.enc N [] 0 (fun l2 n3 l4 => some (l2, n3)) K1 = match rdRu 255 16 l with
        | none => some ([], 4)
        | some rs => K1 (rE ([] ++ rs)) := fun K1 => qDecode_loop N (by omega) b K1 l [] N [] (by omega) (by simp; omega) (by simp; omega)
    simp only [decP, List.nil_append, bnd2_mk, br_not, br_dec, if_true, hL]
    cases hr : rdRu 255 16 l with
    | none =>
      cases hr7 : rdRu 7 8 l with
      | none => rfl
      | some rs => rw [rdRu_mono (by omega) (by omega) l rs hr7] at hr; cases hr
    | some rs =>
      have hT := rdRu_ok l rs h1 hr
      have g := goodR_rd N hb hN hd hr
      simp only [qEncode_eq N rs g]
      unfold encRu
      by_cases c : chkR rs = 0
      · rw [if_pos c]
        obtain ⟨_, hv⟩ := chkR_zero c
        have h7 := rdRu_put rs hv
        rw [← hT] at h7
        have hlen : (encL (rT rs)).length ≤ 9223372036854775807 := by rw [← hT, h2]; omega
        simp only [bnd2_mk, if_true, hlen, (by omega : b.length ≤ 9223372036854775807)]
        rw [← hT, h2, if_pos rfl, h7]
        simp only [c, if_true]
      · rw [if_neg c]
        simp only [bnd2_mk, c, if_false]
        cases hr7 : rdRu 7 8 l with
        | none => rfl
        | some rs' =>
          have := rdRu_mono (lim' := 255) (e' := 16) (by omega) (by omega) l rs' hr7
          rw [hr] at this
          injection this with this
          subst this
          simp only [c, if_false]; rfl
end
end Go.Proofs.Ytllnklkjkjmjbaa.En

/- Which rules are the same: the program and the reference. -/
namespace Go.Proofs.Ytllnklkjkjmjbaa.En
open Go
set_option linter.unusedVariables false
theorem at_midE {α R : Type} {pre : List α} {n : Nat} (h : pre.length = n) (x : α) (suf : List α) (K : α → Option R) : at? (pre ++ x :: suf) n K = K x := by
  subst h; exact at_mid pre x suf K
section
variable (N : Nat)
def eqC (o m : Int) (k : Cl) (o' m' : Int) (k' : Cl) : Bool := decide (o = o' ∧ m = m' ∧ k = k')
theorem qSameCond_loop {R : Type} (f : Int → Int → List V → Int → Int → List V → Option Bool) (n : Nat) (hf : ∀ (o m : Int) (k : Cl) (o' m' : Int) (k' : Cl), k.nodes < n → k.wf → K63 k → k'.wf → K63 k' → f o m k.enc o' m' k'.enc = some (eqC o m k o' m' k')) (x y z w : Int) (K0 : Bool → Option R) (K1 : Option R) :
    ∀ (l l' : Cl) (pre pre' : List V) (t : Nat), pre'.length = pre.length → l.len = l'.len → l.len < t → l.nodes ≤ n → l.wf → l'.wf → pre.length + l.len ≤ 9223372036854775807 →
      S_qSameCond_4 N f x y (pre ++ l.enc) z w (pre' ++ l'.enc) t (pre.length : Int) K0 K1 = if l = l' then K1 else K0 false
  | l, l', pre, pre', 0, _, _, ht, _, _, _, _ => by omega
  | .nil, .nil, pre, pre', t + 1, _, _, ht, _, _, _, _ => by
    unfold S_qSameCond_4 F_qSameCond_4
    simp only [Cl.enc, br_t, br_f, br_dec, br_not, br_and, br_or, bnd1_mk, bnd2_mk, bnd3_mk, bnd4_mk, bnd5_mk, bnd10_mk, at_zero, at_succ, at_mid, unInt_mk, unBool_mk, unStr_mk, unBytes_mk, unSl_mk, unAgg_mk, unCons_mk, unNil_mk, endI, if_false, if_true]
  | .nil, .cons o m k r, pre, pre', t + 1, _, he, _, _, _, _, _ => by simp [Cl.len] at he
  | .cons o m k r, .nil, pre, pre', t + 1, _, he, _, _, _, _, _ => by simp [Cl.len] at he
  | .cons o m k r, .cons o' m' k' r', pre, pre', t + 1, hp, he, ht, hn, hw, hw', hl => by
    simp only [Cl.len, Cl.nodes] at ht hn hl he
    obtain ⟨_, _, hk1, hk2, hr⟩ := hw
    obtain ⟨_, _, hk1', hk2', hr'⟩ := hw'
    obtain ⟨h1, h2, h3, h4⟩ := stepC pre (ce o m k) r hl
    obtain ⟨h1', h2', h3', h4'⟩ := stepC pre' (ce o' m' k') r' (by omega)
    have ih := qSameCond_loop f n hf x y z w K0 K1 r r' (pre ++ [ce o m k]) (pre' ++ [ce o' m' k']) t (by simp [hp]) (by omega) (by omega) (by omega) hr hr' (by simp; omega)
    rw [← mid, ← mid, ← h3] at ih
    rw [hp] at h1'
    unfold S_qSameCond_4 F_qSameCond_4
    simp only [enc_cons, br_t, br_f, br_dec, br_not, br_and, br_or, bnd1_mk, bnd2_mk, bnd3_mk, bnd4_mk, bnd5_mk, bnd10_mk, at_zero, at_succ, at_mid, unInt_mk, unBool_mk, unStr_mk, unBytes_mk, unSl_mk, unAgg_mk, unCons_mk, unNil_mk, at_midE hp, h1, h1', h2, if_true, Int.toNat_natCast, hf o m k o' m' k' (by omega) hk2 hk1 hk2' hk1']
    rw [ih]
    unfold eqC
    by_cases c : o = o' ∧ m = m' ∧ k = k'
    · obtain ⟨rfl, rfl, rfl⟩ := c
      simp only [and_self, decide_true, br_t, Cl.cons.injEq, true_and]
    · rw [decide_eq_false c, br_f, if_neg]
      intro e
      injection e with e1 e2 e3 e4
      exact c ⟨e1, e2, e3⟩
theorem qSameCond_eq : ∀ (M : Nat) (o m : Int) (k : Cl) (o' m' : Int) (k' : Cl), k.nodes < M → k.nodes < N → k.wf → K63 k → k'.wf → K63 k' → s_qSameCond N M o m k.enc o' m' k'.enc = some (eqC o m k o' m' k')
  | 0, o, m, k, o', m', k', h, _, _, _, _, _ => by omega
  | M + 1, o, m, k, o', m', k', h, hN, hw, hl, hw', hl' => by
    have hln := Cl.len_le k
    have hf := fun (o m : Int) (k1 : Cl) (o' m' : Int) (k1' : Cl) (a1 : k1.nodes < k.nodes) (a2 : k1.wf) (a3 : K63 k1) (a4 : k1'.wf) (a5 : K63 k1') => qSameCond_eq M o m k1 o' m' k1' (by omega) (by omega) a2 a3 a4 a5
    unfold s_qSameCond B_qSameCond
    simp only [Cl.enc_len, br_not, br_dec]
    unfold eqC
    by_cases c1 : o = o'
    case neg => rw [if_neg c1, decide_eq_false (fun c => c1 c.1)]
    by_cases c2 : m = m'
    case neg => rw [if_pos c1, if_neg c2, decide_eq_false (fun c => c2 c.2.1)]
    rw [if_pos c1, if_pos c2]
    by_cases c3 : k.len = k'.len
    case neg => rw [if_neg (by omega), decide_eq_false (fun c => c3 (by rw [c.2.2]))]
    have hL : S_qSameCond_4 N (s_qSameCond N M) o m k.enc o' m' k'.enc N 0 (fun b => some b) (some true) = if k = k' then some true else some false :=
      qSameCond_loop N (s_qSameCond N M) k.nodes hf o m o' m' (fun b => some b) (some true) k k' [] [] N rfl c3 (by omega) (Nat.le_refl _) hw hw' (by simpa using hl)
    rw [hL, if_pos (by omega)]
    by_cases c4 : k = k'
    · rw [if_pos c4, decide_eq_true ⟨c1, c2, c4⟩]
    · rw [if_neg c4, decide_eq_false (fun c => c4 c.2.2)]
/-! Rules -/
theorem qSame_loop {R : Type} (K0 : Bool → Option R) (K1 : Option R) :
    ∀ (l l' : List Ru) (pre pre' : List V) (t : Nat), pre'.length = pre.length → l.length = l'.length → l.length < t → (∀ r ∈ l, InC N r.k) → (∀ r ∈ l', InC N r.k) → pre.length + l.length ≤ 9223372036854775807 →
      S_qSame_4 N (pre ++ rE l) (pre' ++ rE l') t (pre.length : Int) K0 K1 = if l = l' then K1 else K0 false
  | l, l', pre, pre', 0, _, _, ht, _, _, _ => by omega
  | [], [], pre, pre', t + 1, _, _, ht, _, _, _ => by
    unfold S_qSame_4 F_qSame_4
    simp only [rE, br_t, br_f, br_dec, br_not, br_and, br_or, bnd1_mk, bnd2_mk, bnd3_mk, bnd4_mk, bnd5_mk, bnd10_mk, at_zero, at_succ, at_mid, unInt_mk, unBool_mk, unStr_mk, unBytes_mk, unSl_mk, unAgg_mk, unCons_mk, unNil_mk, endI, if_false, if_true]
  | [], _ :: _, pre, pre', t + 1, _, he, _, _, _, _ => by simp at he
  | _ :: _, [], pre, pre', t + 1, _, he, _, _, _, _ => by simp at he
  | r :: l, r' :: l', pre, pre', t + 1, hp, he, ht, hg, hg', hl => by
    simp only [List.length_cons] at ht hl he
    obtain ⟨h1, h2, h3, h4⟩ := stepR pre (.agg [.int .i64 r.ops, .int .i64 r.o, .int .i64 r.m, .sl 46 r.k.enc]) l hl
    obtain ⟨h1', h2', h3', h4'⟩ := stepR pre' (.agg [.int .i64 r'.ops, .int .i64 r'.o, .int .i64 r'.m, .sl 46 r'.k.enc]) l' (by omega)
    have ih := qSame_loop K0 K1 l l' (pre ++ [.agg [.int .i64 r.ops, .int .i64 r.o, .int .i64 r.m, .sl 46 r.k.enc]]) (pre' ++ [.agg [.int .i64 r'.ops, .int .i64 r'.o, .int .i64 r'.m, .sl 46 r'.k.enc]]) t (by simp [hp]) (by omega) (by omega) (fun r hr => hg r (by simp [hr])) (fun r hr => hg' r (by simp [hr])) (by simp; omega)
    rw [← mid, ← mid, ← h3] at ih
    rw [hp] at h1'
    have g := hg r (by simp)
    have g' := hg' r' (by simp)
    unfold S_qSame_4 F_qSame_4
    simp only [rE, br_t, br_f, br_dec, br_not, br_and, br_or, bnd1_mk, bnd2_mk, bnd3_mk, bnd4_mk, bnd5_mk, bnd10_mk, at_zero, at_succ, at_mid, unInt_mk, unBool_mk, unStr_mk, unBytes_mk, unSl_mk, unAgg_mk, unCons_mk, unNil_mk, at_midE hp, h1, h1', h2, if_true, Int.toNat_natCast, qSameCond_eq N N r.o r.m r.k r'.o r'.m r'.k g.fuel g.fuel g.wf g.len g'.wf g'.len]
    rw [ih]
    obtain ⟨a, b, c, d⟩ := r
    obtain ⟨a', b', c', d'⟩ := r'
    unfold eqC
    by_cases c0 : a = a'
    case neg =>
      rw [if_neg c0, if_neg]
      intro e; injection e with e1 _; injection e1 with e2; exact c0 e2
    rw [if_pos c0]
    simp only [br_dec]
    by_cases c : b = b' ∧ c = c' ∧ d = d'
    · obtain ⟨rfl, rfl, rfl⟩ := c
      subst c0
      simp only [and_self, if_true, List.cons.injEq, true_and]
    · rw [if_neg c, if_neg]
      intro e; injection e with e1 _; injection e1 with e2 e3 e4 e5; exact c ⟨e3, e4, e5⟩
theorem qSame_eq (l l' : List Ru) (hN : l.length < N) (hl : l.length ≤ 9223372036854775807) (hg : ∀ r ∈ l, InC N r.k) (hg' : ∀ r ∈ l', InC N r.k) : s_qSame N (rE l) (rE l') = some (decide (l = l')) := by
  unfold s_qSame
  rw [br_not, br_dec, rE_len, rE_len]
  by_cases c : l.length = l'.length
  · have hL : S_qSame_4 N (rE l) (rE l') N 0 (fun b => some b) (some true) = if l = l' then some true else some false :=
      qSame_loop N (fun b => some b) (some true) l l' [] [] N rfl c hN hg hg' (by simpa using hl)
    rw [if_pos (by omega), hL]
    by_cases c2 : l = l' <;> simp [c2]
  · rw [if_neg (by omega), decide_eq_false (fun e => c (by rw [e]))]
end
end Go.Proofs.Ytllnklkjkjmjbaa.En

/- Functions of the program in plain Lean, joined to the program by evaluation; printed by a program. -/
namespace Go.Proofs.Ytllnklkjkjmjbaa.En
open Go Go.Proofs
set_option maxRecDepth 100000
set_option linter.unusedVariables false
noncomputable def e_fDecode {R : Type} (s : List UInt8 → Option (Int × Int × List UInt8 × Int × Int × Int × Int × Int × List V × Int)) (ds : List D) (K : List D → Option R) : Option R :=
  match ds with
  | [.v (.bytes x0) .no] => bnd10 (s x0) fun r0 r1 r2 r3 r4 r5 r6 r7 r8 r9 => K [.agg [.v (.int .i64 r0) .no, .v (.int .i64 r1) .no, .v (.bytes r2) .no, .v (.int .i64 r3) .no, .v (.int .i64 r4) .no, .v (.int .i64 r5) .no, .v (.int .i64 r6) .no, .v (.int .i64 r7) .no, .v (.sl 48 r8) .no], .v (.int .i64 r9) .no]
  | _ => none
noncomputable def r_fDecode (rs : List D) (_ : Mem) : Option (Int × Int × List UInt8 × Int × Int × Int × Int × Int × List V × Int) :=
  match rs with
  | [.agg [.v (.int .i64 r0) _, .v (.int .i64 r1) _, .v (.bytes r2) _, .v (.int .i64 r3) _, .v (.int .i64 r4) _, .v (.int .i64 r5) _, .v (.int .i64 r6) _, .v (.int .i64 r7) _, .v (.sl 48 r8) _], .v (.int .i64 r9) _] => some (r0, r1, r2, r3, r4, r5, r6, r7, r8, r9)
  | _ => none
noncomputable def F_fDecode_8 {R : Type} (N : Nat) (l0 : List UInt8) (vs1 : List V) (n2 : Int) (n4 : Int) (n5 : Int) (l6 : List UInt8) (n7 : Int) (n8 : Int) (n9 : Int) (n10 : Int) (n11 : Int) (vs12 : List V) (Lq : Int → Int → Int → List UInt8 → Int → Int → Int → Int → Int → List V → Option R) (K0 : Int → Int → Int → List UInt8 → Int → Int → Int → Int → Int → List V → Int → Int → List UInt8 → Int → Int → Int → Int → Int → List V → Option R) (K1 : Int → Int → List UInt8 → Int → Int → Int → Int → Int → List V → Option R) (n3 : Int) (n13 : Int) (n14 : Int) (l15 : List UInt8) (n16 : Int) (n17 : Int) (n18 : Int) (n19 : Int) (n20 : Int) (vs21 : List V) : Option R := br (decide (n3 < n2)) (br (decide (0 ≤ n3) && decide (n3 < (↑vs1.length : Int))) (at? vs1 n3.toNat fun x0 => x0.unAgg fun l1 => unCons l1 fun x2 l3 => V.unInt IntKind.i64 x2 fun n4 => unCons l3 fun x5 l6 => x5.unBytes fun l7 => unCons l6 fun x8 l9 => V.unSl 62 x8 fun l10 => unNil l9 (br (decide (n4 = 130)) (br (decide (0 < (↑l7.length : Int))) (at? l7 0 fun u11 => br (decide ((↑l7.length : Int) = 3)) (br (decide (1 < (↑l7.length : Int))) (at? l7 1 fun u12 => br (decide (2 < (↑l7.length : Int))) (at? l7 2 fun u13 => Lq (IntKind.i64.wrap (n3 + 1)) n13 (IntKind.i64.wrap (↑u11.toNat : Int)) l15 n16 n17 (IntKind.i64.wrap (↑u12.toNat : Int)) (IntKind.i64.wrap (↑u13.toNat : Int)) n20 vs21) none) none) (Lq (IntKind.i64.wrap (n3 + 1)) n13 (IntKind.i64.wrap (↑u11.toNat : Int)) l15 n16 n17 n18 n19 n20 vs21)) none) (br (decide (n4 = 131)) (bnd1 (s_fget N l7) fun n14_1 => Lq (IntKind.i64.wrap (n3 + 1)) n14_1 n14 l15 n16 n17 n18 n19 n20 vs21) (br (decide (n4 = 132)) (Lq (IntKind.i64.wrap (n3 + 1)) n13 n14 l7 n16 n17 n18 n19 n20 vs21) (br (decide (n4 = 128)) (bnd1 (s_fget N l7) fun n15 => Lq (IntKind.i64.wrap (n3 + 1)) n13 n14 l15 n16 n15 n18 n19 n20 vs21) (br (decide (n4 = 136)) (bnd1 (s_fget N l7) fun n16 => Lq (IntKind.i64.wrap (n3 + 1)) n13 n14 l15 n16 n17 n18 n19 n20 vs21) (br (decide (n4 = 138)) (bnd1 (s_fget N l7) fun n17_1 => Lq (IntKind.i64.wrap (n3 + 1)) n13 n14 l15 n16 n17 n18 n19 n17_1 vs21) (br (decide (n4 = 134)) (bnd2 (s_aDecode N l7) fun l18 n19_1 => br (!decide (n19_1 = 0)) (K0 n19_1 0 0 [] 0 0 0 0 0 [] n13 n14 l15 n16 n17 n18 n19 n20 l18) (Lq (IntKind.i64.wrap (n3 + 1)) n13 n14 l15 n16 n17 n18 n19 n20 l18)) (Lq (IntKind.i64.wrap (n3 + 1)) n13 n14 l15 n16 n17 n18 n19 n20 vs21))))))))) none) (K1 n13 n14 l15 n16 n17 n18 n19 n20 vs21)
noncomputable def S_fDecode_8 {R : Type} (N : Nat) (l0 : List UInt8) (vs1 : List V) (n2 : Int) (n4 : Int) (n5 : Int) (l6 : List UInt8) (n7 : Int) (n8 : Int) (n9 : Int) (n10 : Int) (n11 : Int) (vs12 : List V) : Nat → Int → Int → Int → List UInt8 → Int → Int → Int → Int → Int → List V → (Int → Int → Int → List UInt8 → Int → Int → Int → Int → Int → List V → Int → Int → List UInt8 → Int → Int → Int → Int → Int → List V → Option R) → (Int → Int → List UInt8 → Int → Int → Int → Int → Int → List V → Option R) → Option R | 0, _, _, _, _, _, _, _, _, _, _, _, _ => none | t + 1, n3, n13, n14, l15, n16, n17, n18, n19, n20, vs21, K0, K1 => F_fDecode_8 N l0 vs1 n2 n4 n5 l6 n7 n8 n9 n10 n11 vs12 (fun n3 n13 n14 l15 n16 n17 n18 n19 n20 vs21 => S_fDecode_8 N l0 vs1 n2 n4 n5 l6 n7 n8 n9 n10 n11 vs12 t n3 n13 n14 l15 n16 n17 n18 n19 n20 vs21 K0 K1) K0 K1 n3 n13 n14 l15 n16 n17 n18 n19 n20 vs21
noncomputable def l_fDecode_8 {R : Type} (N : Nat) (ds : List D) (m : Mem) (K : Ex → List D → Mem → Option R) : Option R :=
  match ds, m with
  | [(.v (.bytes l0) .no), (.ptr 0 2 0), (.ptr 0 6 0), (.v (.sl 62 vs1) .no), (.v (.int .i64 n2) .no), (.v (.int .i64 n3) .no), .any], [[(2, ⟨25, [(.v (.int .i64 n4) .no), (.v (.int .i64 n5) .no), (.v (.bytes l6) (.own (.slot 0) 5)), (.v (.int .i64 n7) .no), (.v (.int .i64 n8) .no), (.v (.int .i64 n9) .no), (.v (.int .i64 n10) .no), (.v (.int .i64 n11) .no), (.v (.sl 48 vs12) (.own (.slot 0) 48))]⟩), (6, ⟨25, [(.v (.int .i64 n13) .no), (.v (.int .i64 n14) .no), (.v (.bytes l15) .no), (.v (.int .i64 n16) .no), (.v (.int .i64 n17) .no), (.v (.int .i64 n18) .no), (.v (.int .i64 n19) .no), (.v (.int .i64 n20) .no), (.v (.sl 48 vs21) .no)]⟩)]] => S_fDecode_8 N l0 vs1 n2 n4 n5 l6 n7 n8 n9 n10 n11 vs12 N n3 n13 n14 l15 n16 n17 n18 n19 n20 vs21 (fun a1 a2 a3 a4 a5 a6 a7 a8 a9 a10 a11 a12 a13 a14 a15 a16 a17 a18 a19 => K .ret [(.v (.bytes l0) .no), (.ptr 0 2 0), (.v (.int .i64 a1) .no), (.ptr 0 6 0)] [[(2, ⟨25, [(.v (.int .i64 a2) .no), (.v (.int .i64 a3) .no), (.v (.bytes a4) (.own (.slot 0) 5)), (.v (.int .i64 a5) .no), (.v (.int .i64 a6) .no), (.v (.int .i64 a7) .no), (.v (.int .i64 a8) .no), (.v (.int .i64 a9) .no), (.v (.sl 48 a10) (.own (.slot 0) 48))]⟩), (6, ⟨25, [(.v (.int .i64 a11) .no), (.v (.int .i64 a12) .no), (.v (.bytes a13) .no), (.v (.int .i64 a14) .no), (.v (.int .i64 a15) .no), (.v (.int .i64 a16) .no), (.v (.int .i64 a17) .no), (.v (.int .i64 a18) .no), (.v (.sl 48 a19) .no)]⟩)]]) (fun a10 a11 a12 a13 a14 a15 a16 a17 a18 => K (.exit 0) [(.v (.bytes l0) .no), (.ptr 0 2 0), .any, (.ptr 0 6 0)] [[(2, ⟨25, [(.v (.int .i64 n4) .no), (.v (.int .i64 n5) .no), (.v (.bytes l6) (.own (.slot 0) 5)), (.v (.int .i64 n7) .no), (.v (.int .i64 n8) .no), (.v (.int .i64 n9) .no), (.v (.int .i64 n10) .no), (.v (.int .i64 n11) .no), (.v (.sl 48 vs12) (.own (.slot 0) 48))]⟩), (6, ⟨25, [(.v (.int .i64 a10) .no), (.v (.int .i64 a11) .no), (.v (.bytes a12) .no), (.v (.int .i64 a13) .no), (.v (.int .i64 a14) .no), (.v (.int .i64 a15) .no), (.v (.int .i64 a16) .no), (.v (.int .i64 a17) .no), (.v (.sl 48 a18) .no)]⟩)]])
  | _, _ => none
noncomputable def s_fDecode (N : Nat) (x0 : List UInt8) : Option (Int × Int × List UInt8 × Int × Int × Int × Int × Int × List V × Int) := bnd2 (s_Decode N x0) fun l0 n1 => br (!decide (n1 = 0)) (some (0, 0, [], 0, 0, 0, 0, 0, [], n1)) (br (!decide ((↑l0.length : Int) = 1)) (some (0, 0, [], 0, 0, 0, 0, 0, [], 4)) (br (decide (0 < (↑l0.length : Int))) (at? l0 0 fun x2 => x2.unAgg fun l3 => unCons l3 fun x4 l5 => V.unInt IntKind.i64 x4 fun n6 => unCons l5 fun x7 l8 => x7.unBytes fun l9 => unCons l8 fun x10 l11 => V.unSl 62 x10 fun l12 => unNil l11 (br (!decide (n6 = 98)) (some (0, 0, [], 0, 0, 0, 0, 0, [], 4)) (br (decide (0 < (↑l0.length : Int))) (at? l0 0 fun x13 => x13.unAgg fun l14 => unCons l14 fun x15 l16 => V.unInt IntKind.i64 x15 fun n17 => unCons l16 fun x18 l19 => x18.unBytes fun l20 => unCons l19 fun x21 l22 => V.unSl 62 x21 fun l23 => unNil l22 (bnd1 (s_farranged N l23) fun b24 => br (!b24) (some (0, 0, [], 0, 0, 0, 0, 0, [], 4)) (br (decide (0 < (↑l0.length : Int))) (at? l0 0 fun x25 => x25.unAgg fun l26 => unCons l26 fun x27 l28 => V.unInt IntKind.i64 x27 fun n29 => unCons l28 fun x30 l31 => x30.unBytes fun l32 => unCons l31 fun x33 l34 => V.unSl 62 x33 fun l35 => unNil l34 (S_fDecode_8 N x0 l35 (↑l35.length : Int) 0 0 [] 0 0 0 0 0 [] N 0 0 0 [] 0 0 0 0 0 [] (fun n36 n37 n38 l39 n40 n41 n42 n43 n44 l45 n46 n47 l48 n49 n50 n51 n52 n53 l54 => some (n37, n38, l39, n40, n41, n42, n43, n44, l45, n36)) fun n55 n56 l57 n58 n59 n60 n61 n62 l63 => bnd2 (s_fEncode N n55 n56 l57 n58 n59 n60 n61 n62 l63) fun l64 n65 => br (!decide (n65 = 0)) (some (0, 0, [], 0, 0, 0, 0, 0, [], n65)) (bnd1 (s_Equal N x0 l64) fun b66 => br (!b66) (some (0, 0, [], 0, 0, 0, 0, 0, [], 4)) (some (n55, n56, l57, n58, n59, n60, n61, n62, l63, 0))))) none))) none))) none))
noncomputable def cx_fDecode (N : Nat) : Cx := { T := T, isPure := tabP [⟨48, e_Decode (s_Decode N)⟩, ⟨49, e_farranged (s_farranged N)⟩, ⟨50, e_fget (s_fget N)⟩, ⟨51, e_aDecode (s_aDecode N)⟩, ⟨14, e_fEncode (s_fEncode N)⟩, ⟨46, e_Equal (s_Equal N)⟩], pureK := fun g ds K => tabK [⟨48, e_Decode (s_Decode N)⟩, ⟨49, e_farranged (s_farranged N)⟩, ⟨50, e_fget (s_fget N)⟩, ⟨51, e_aDecode (s_aDecode N)⟩, ⟨14, e_fEncode (s_fEncode N)⟩, ⟨46, e_Equal (s_Equal N)⟩] g ds K, memK := fun g dst ds m K => tabMK [] g dst ds m K, meth := tabM [], keep := fun r => match r with | 8 => [0, 2, 6, 41, 42, 43, 100006] | _ => [], keepX := fun r => match r with | 8 => [0, 2, 3, 6] | _ => [], loopT := fun r ds m K => match r with | 8 => l_fDecode_8 N ds m K | _ => none, jumps := 9, dyn := true }
theorem F_fDecode_8_ok {R : Type} (N : Nat) (l0 : List UInt8) (vs1 : List V) (n2 : Int) (n4 : Int) (n5 : Int) (l6 : List UInt8) (n7 : Int) (n8 : Int) (n9 : Int) (n10 : Int) (n11 : Int) (vs12 : List V) (n3 : Int) (n13 : Int) (n14 : Int) (l15 : List UInt8) (n16 : Int) (n17 : Int) (n18 : Int) (n19 : Int) (n20 : Int) (vs21 : List V) (L : List D → Mem → Option R) (K : Ex → List D → Mem → Option R) :
    roundK (fun st K => codeK (cx_fDecode N) (loopN Try.f24 0) st K) 131 [0, 2, 6, 41, 42, 43, 100006] [0, 2, 3, 6] L [(.v (.bytes l0) .no), (.ptr 0 2 0), (.ptr 0 6 0), (.v (.sl 62 vs1) .no), (.v (.int .i64 n2) .no), (.v (.int .i64 n3) .no), .any] [[(2, ⟨25, [(.v (.int .i64 n4) .no), (.v (.int .i64 n5) .no), (.v (.bytes l6) (.own (.slot 0) 5)), (.v (.int .i64 n7) .no), (.v (.int .i64 n8) .no), (.v (.int .i64 n9) .no), (.v (.int .i64 n10) .no), (.v (.int .i64 n11) .no), (.v (.sl 48 vs12) (.own (.slot 0) 48))]⟩), (6, ⟨25, [(.v (.int .i64 n13) .no), (.v (.int .i64 n14) .no), (.v (.bytes l15) .no), (.v (.int .i64 n16) .no), (.v (.int .i64 n17) .no), (.v (.int .i64 n18) .no), (.v (.int .i64 n19) .no), (.v (.int .i64 n20) .no), (.v (.sl 48 vs21) .no)]⟩)]] K = F_fDecode_8 N l0 vs1 n2 n4 n5 l6 n7 n8 n9 n10 n11 vs12 (fun n3 n13 n14 l15 n16 n17 n18 n19 n20 vs21 => L [(.v (.bytes l0) .no), (.ptr 0 2 0), (.ptr 0 6 0), (.v (.sl 62 vs1) .no), (.v (.int .i64 n2) .no), (.v (.int .i64 n3) .no), .any] [[(2, ⟨25, [(.v (.int .i64 n4) .no), (.v (.int .i64 n5) .no), (.v (.bytes l6) (.own (.slot 0) 5)), (.v (.int .i64 n7) .no), (.v (.int .i64 n8) .no), (.v (.int .i64 n9) .no), (.v (.int .i64 n10) .no), (.v (.int .i64 n11) .no), (.v (.sl 48 vs12) (.own (.slot 0) 48))]⟩), (6, ⟨25, [(.v (.int .i64 n13) .no), (.v (.int .i64 n14) .no), (.v (.bytes l15) .no), (.v (.int .i64 n16) .no), (.v (.int .i64 n17) .no), (.v (.int .i64 n18) .no), (.v (.int .i64 n19) .no), (.v (.int .i64 n20) .no), (.v (.sl 48 vs21) .no)]⟩)]]) (fun a1 a2 a3 a4 a5 a6 a7 a8 a9 a10 a11 a12 a13 a14 a15 a16 a17 a18 a19 => K .ret [(.v (.bytes l0) .no), (.ptr 0 2 0), (.v (.int .i64 a1) .no), (.ptr 0 6 0)] [[(2, ⟨25, [(.v (.int .i64 a2) .no), (.v (.int .i64 a3) .no), (.v (.bytes a4) (.own (.slot 0) 5)), (.v (.int .i64 a5) .no), (.v (.int .i64 a6) .no), (.v (.int .i64 a7) .no), (.v (.int .i64 a8) .no), (.v (.int .i64 a9) .no), (.v (.sl 48 a10) (.own (.slot 0) 48))]⟩), (6, ⟨25, [(.v (.int .i64 a11) .no), (.v (.int .i64 a12) .no), (.v (.bytes a13) .no), (.v (.int .i64 a14) .no), (.v (.int .i64 a15) .no), (.v (.int .i64 a16) .no), (.v (.int .i64 a17) .no), (.v (.int .i64 a18) .no), (.v (.sl 48 a19) .no)]⟩)]]) (fun a10 a11 a12 a13 a14 a15 a16 a17 a18 => K (.exit 0) [(.v (.bytes l0) .no), (.ptr 0 2 0), .any, (.ptr 0 6 0)] [[(2, ⟨25, [(.v (.int .i64 n4) .no), (.v (.int .i64 n5) .no), (.v (.bytes l6) (.own (.slot 0) 5)), (.v (.int .i64 n7) .no), (.v (.int .i64 n8) .no), (.v (.int .i64 n9) .no), (.v (.int .i64 n10) .no), (.v (.int .i64 n11) .no), (.v (.sl 48 vs12) (.own (.slot 0) 48))]⟩), (6, ⟨25, [(.v (.int .i64 a10) .no), (.v (.int .i64 a11) .no), (.v (.bytes a12) .no), (.v (.int .i64 a13) .no), (.v (.int .i64 a14) .no), (.v (.int .i64 a15) .no), (.v (.int .i64 a16) .no), (.v (.int .i64 a17) .no), (.v (.sl 48 a18) .no)]⟩)]]) n3 n13 n14 l15 n16 n17 n18 n19 n20 vs21 := by
  kernel_rfl
theorem S_fDecode_8_ok {R : Type} (N : Nat) (l0 : List UInt8) (vs1 : List V) (n2 : Int) (n4 : Int) (n5 : Int) (l6 : List UInt8) (n7 : Int) (n8 : Int) (n9 : Int) (n10 : Int) (n11 : Int) (vs12 : List V) (K : Ex → List D → Mem → Option R) : ∀ (t : Nat) (n3 : Int) (n13 : Int) (n14 : Int) (l15 : List UInt8) (n16 : Int) (n17 : Int) (n18 : Int) (n19 : Int) (n20 : Int) (vs21 : List V),
    loopK (fun st K => codeK (cx_fDecode N) (loopN Try.f24 0) st K) 131 [0, 2, 6, 41, 42, 43, 100006] [0, 2, 3, 6] t [(.v (.bytes l0) .no), (.ptr 0 2 0), (.ptr 0 6 0), (.v (.sl 62 vs1) .no), (.v (.int .i64 n2) .no), (.v (.int .i64 n3) .no), .any] [[(2, ⟨25, [(.v (.int .i64 n4) .no), (.v (.int .i64 n5) .no), (.v (.bytes l6) (.own (.slot 0) 5)), (.v (.int .i64 n7) .no), (.v (.int .i64 n8) .no), (.v (.int .i64 n9) .no), (.v (.int .i64 n10) .no), (.v (.int .i64 n11) .no), (.v (.sl 48 vs12) (.own (.slot 0) 48))]⟩), (6, ⟨25, [(.v (.int .i64 n13) .no), (.v (.int .i64 n14) .no), (.v (.bytes l15) .no), (.v (.int .i64 n16) .no), (.v (.int .i64 n17) .no), (.v (.int .i64 n18) .no), (.v (.int .i64 n19) .no), (.v (.int .i64 n20) .no), (.v (.sl 48 vs21) .no)]⟩)]] K = S_fDecode_8 N l0 vs1 n2 n4 n5 l6 n7 n8 n9 n10 n11 vs12 t n3 n13 n14 l15 n16 n17 n18 n19 n20 vs21 (fun a1 a2 a3 a4 a5 a6 a7 a8 a9 a10 a11 a12 a13 a14 a15 a16 a17 a18 a19 => K .ret [(.v (.bytes l0) .no), (.ptr 0 2 0), (.v (.int .i64 a1) .no), (.ptr 0 6 0)] [[(2, ⟨25, [(.v (.int .i64 a2) .no), (.v (.int .i64 a3) .no), (.v (.bytes a4) (.own (.slot 0) 5)), (.v (.int .i64 a5) .no), (.v (.int .i64 a6) .no), (.v (.int .i64 a7) .no), (.v (.int .i64 a8) .no), (.v (.int .i64 a9) .no), (.v (.sl 48 a10) (.own (.slot 0) 48))]⟩), (6, ⟨25, [(.v (.int .i64 a11) .no), (.v (.int .i64 a12) .no), (.v (.bytes a13) .no), (.v (.int .i64 a14) .no), (.v (.int .i64 a15) .no), (.v (.int .i64 a16) .no), (.v (.int .i64 a17) .no), (.v (.int .i64 a18) .no), (.v (.sl 48 a19) .no)]⟩)]]) (fun a10 a11 a12 a13 a14 a15 a16 a17 a18 => K (.exit 0) [(.v (.bytes l0) .no), (.ptr 0 2 0), .any, (.ptr 0 6 0)] [[(2, ⟨25, [(.v (.int .i64 n4) .no), (.v (.int .i64 n5) .no), (.v (.bytes l6) (.own (.slot 0) 5)), (.v (.int .i64 n7) .no), (.v (.int .i64 n8) .no), (.v (.int .i64 n9) .no), (.v (.int .i64 n10) .no), (.v (.int .i64 n11) .no), (.v (.sl 48 vs12) (.own (.slot 0) 48))]⟩), (6, ⟨25, [(.v (.int .i64 a10) .no), (.v (.int .i64 a11) .no), (.v (.bytes a12) .no), (.v (.int .i64 a13) .no), (.v (.int .i64 a14) .no), (.v (.int .i64 a15) .no), (.v (.int .i64 a16) .no), (.v (.int .i64 a17) .no), (.v (.sl 48 a18) .no)]⟩)]])
  | 0, n3, n13, n14, l15, n16, n17, n18, n19, n20, vs21 => rfl
  | t + 1, n3, n13, n14, l15, n16, n17, n18, n19, n20, vs21 => (F_fDecode_8_ok N l0 vs1 n2 n4 n5 l6 n7 n8 n9 n10 n11 vs12 n3 n13 n14 l15 n16 n17 n18 n19 n20 vs21 _ K).trans (congrArg (fun L => F_fDecode_8 N l0 vs1 n2 n4 n5 l6 n7 n8 n9 n10 n11 vs12 L (fun a1 a2 a3 a4 a5 a6 a7 a8 a9 a10 a11 a12 a13 a14 a15 a16 a17 a18 a19 => K .ret [(.v (.bytes l0) .no), (.ptr 0 2 0), (.v (.int .i64 a1) .no), (.ptr 0 6 0)] [[(2, ⟨25, [(.v (.int .i64 a2) .no), (.v (.int .i64 a3) .no), (.v (.bytes a4) (.own (.slot 0) 5)), (.v (.int .i64 a5) .no), (.v (.int .i64 a6) .no), (.v (.int .i64 a7) .no), (.v (.int .i64 a8) .no), (.v (.int .i64 a9) .no), (.v (.sl 48 a10) (.own (.slot 0) 48))]⟩), (6, ⟨25, [(.v (.int .i64 a11) .no), (.v (.int .i64 a12) .no), (.v (.bytes a13) .no), (.v (.int .i64 a14) .no), (.v (.int .i64 a15) .no), (.v (.int .i64 a16) .no), (.v (.int .i64 a17) .no), (.v (.int .i64 a18) .no), (.v (.sl 48 a19) .no)]⟩)]]) (fun a10 a11 a12 a13 a14 a15 a16 a17 a18 => K (.exit 0) [(.v (.bytes l0) .no), (.ptr 0 2 0), .any, (.ptr 0 6 0)] [[(2, ⟨25, [(.v (.int .i64 n4) .no), (.v (.int .i64 n5) .no), (.v (.bytes l6) (.own (.slot 0) 5)), (.v (.int .i64 n7) .no), (.v (.int .i64 n8) .no), (.v (.int .i64 n9) .no), (.v (.int .i64 n10) .no), (.v (.int .i64 n11) .no), (.v (.sl 48 vs12) (.own (.slot 0) 48))]⟩), (6, ⟨25, [(.v (.int .i64 a10) .no), (.v (.int .i64 a11) .no), (.v (.bytes a12) .no), (.v (.int .i64 a13) .no), (.v (.int .i64 a14) .no), (.v (.int .i64 a15) .no), (.v (.int .i64 a16) .no), (.v (.int .i64 a17) .no), (.v (.sl 48 a18) .no)]⟩)]]) n3 n13 n14 l15 n16 n17 n18 n19 n20 vs21) (funext fun n3 => funext fun n13 => funext fun n14 => funext fun l15 => funext fun n16 => funext fun n17 => funext fun n18 => funext fun n19 => funext fun n20 => funext fun vs21 => S_fDecode_8_ok N l0 vs1 n2 n4 n5 l6 n7 n8 n9 n10 n11 vs12 K t n3 n13 n14 l15 n16 n17 n18 n19 n20 vs21))
theorem s_fDecode_ok (N : Nat) (x0 : List UInt8) : bodyK (cx_fDecode N) Try.f24 [.v (.bytes x0) .no] [] r_fDecode = s_fDecode N x0 := by
  kernel_rfl
theorem go_fDecode : Goes Try.prog 24 := goes_of Try.func24 (by kernel_rfl) (c := bodyOf Try.f24) (by kernel_rfl)
theorem eo_fDecode (s : List UInt8 → Option (Int × Int × List UInt8 × Int × Int × Int × Int × Int × List V × Int)) (hs : ∀ (x0 : List UInt8) (r0 : Int) (r1 : Int) (r2 : List UInt8) (r3 : Int) (r4 : Int) (r5 : Int) (r6 : Int) (r7 : Int) (r8 : List V) (r9 : Int), s x0 = some (r0, r1, r2, r3, r4, r5, r6, r7, r8, r9) → PureRet Try.prog T 24 [.v (.bytes x0) .no] [.agg [.v (.int .i64 r0) .no, .v (.int .i64 r1) .no, .v (.bytes r2) .no, .v (.int .i64 r3) .no, .v (.int .i64 r4) .no, .v (.int .i64 r5) .no, .v (.int .i64 r6) .no, .v (.int .i64 r7) .no, .v (.sl 48 r8) .no], .v (.int .i64 r9) .no]) : EntOK Try.prog T ⟨24, e_fDecode s⟩ := by
  refine ⟨go_fDecode, fun R ds K r h => ?_, fun R ds K => ?_⟩
  · simp only [e_fDecode] at h
    split at h
    · obtain ⟨r0, r1, r2, r3, r4, r5, r6, r7, r8, r9, h1, h2⟩ := bnd10_some h
      exact ⟨_, h2, hs _ _ _ _ _ _ _ _ _ _ _ h1⟩
    · cases h
  · simp only [e_fDecode]
    split
    · rw [bnd10_b]; rfl
    · rfl
theorem co_fDecode (N : Nat) : CxOK Try.prog (cx_fDecode N) :=
  cxOK_of2 (es := [⟨48, e_Decode (s_Decode N)⟩, ⟨49, e_farranged (s_farranged N)⟩, ⟨50, e_fget (s_fget N)⟩, ⟨51, e_aDecode (s_aDecode N)⟩, ⟨14, e_fEncode (s_fEncode N)⟩, ⟨46, e_Equal (s_Equal N)⟩]) (me := []) (ms := []) T_ok ⟨eo_Decode _ (p_Decode N), eo_farranged _ (p_farranged N), eo_fget _ (p_fget N), eo_aDecode _ (p_aDecode N), eo_fEncode _ (p_fEncode N), eo_Equal _ (p_Equal N), trivial⟩ trivial trivial rfl (fun _ _ _ _ => rfl) (fun _ _ _ _ _ _ => rfl) rfl
theorem lk_fDecode_8 (N : Nat) : LoopOK (cx_fDecode N) 131 (loopN Try.f24 0) := by
  refine loopOK_of (rid := 8) (by kernel_rfl) rfl rfl fun R ds m K r h => ?_
  have h : l_fDecode_8 N ds m K = some r := h
  unfold l_fDecode_8 at h
  split at h
  · exact ⟨N, Eq.trans (S_fDecode_8_ok ..) h⟩
  · cases h
theorem lo_fDecode (N : Nat) : LoopsOK (cx_fDecode N) Try.f24.ntmps (bodyOf Try.f24) :=
  loopsOK_of (k := 1) (by kernel_rfl) ⟨trivial, lk_fDecode_8 N⟩
theorem p_fDecode (N : Nat) (x0 : List UInt8) (r0 : Int) (r1 : Int) (r2 : List UInt8) (r3 : Int) (r4 : Int) (r5 : Int) (r6 : Int) (r7 : Int) (r8 : List V) (r9 : Int) (h : s_fDecode N x0 = some (r0, r1, r2, r3, r4, r5, r6, r7, r8, r9)) : PureRet Try.prog T 24 [.v (.bytes x0) .no] [.agg [.v (.int .i64 r0) .no, .v (.int .i64 r1) .no, .v (.bytes r2) .no, .v (.int .i64 r3) .no, .v (.int .i64 r4) .no, .v (.int .i64 r5) .no, .v (.int .i64 r6) .no, .v (.int .i64 r7) .no, .v (.sl 48 r8) .no], .v (.int .i64 r9) .no] :=
  pure_of (cx := cx_fDecode N) (by kernel_rfl) (co_fDecode N) Try.func24 (by kernel_rfl) (by kernel_rfl) (lo_fDecode N) rfl rfl rfl (rf := r_fDecode) ((s_fDecode_ok N x0).trans h) (fun rs' m h => by
    unfold r_fDecode at h
    split at h
    · cases h; exact ⟨rfl, rfl⟩
    · cases h)
noncomputable def e_hheader {R : Type} (s : List V → Option (Int × Int × List UInt8 × Int × Int × Int × Int × Int × List V × Int)) (ds : List D) (K : List D → Option R) : Option R :=
  match ds with
  | [.v (.sl 62 x0) .no] => bnd10 (s x0) fun r0 r1 r2 r3 r4 r5 r6 r7 r8 r9 => K [.agg [.v (.int .i64 r0) .no, .v (.int .i64 r1) .no, .v (.bytes r2) .no, .v (.int .i64 r3) .no, .v (.int .i64 r4) .no, .v (.int .i64 r5) .no, .v (.int .i64 r6) .no, .v (.int .i64 r7) .no, .v (.sl 48 r8) .no], .v (.int .i64 r9) .no]
  | _ => none
noncomputable def r_hheader (rs : List D) (_ : Mem) : Option (Int × Int × List UInt8 × Int × Int × Int × Int × Int × List V × Int) :=
  match rs with
  | [.agg [.v (.int .i64 r0) _, .v (.int .i64 r1) _, .v (.bytes r2) _, .v (.int .i64 r3) _, .v (.int .i64 r4) _, .v (.int .i64 r5) _, .v (.int .i64 r6) _, .v (.int .i64 r7) _, .v (.sl 48 r8) _], .v (.int .i64 r9) _] => some (r0, r1, r2, r3, r4, r5, r6, r7, r8, r9)
  | _ => none
noncomputable def F_hheader_3 {R : Type} (N : Nat) (vs0 : List V) (n2 : Int) (n3 : Int) (l4 : List UInt8) (n5 : Int) (n6 : Int) (n7 : Int) (n8 : Int) (n9 : Int) (vs10 : List V) (Lq : Int → Int → Int → List UInt8 → Int → Int → Int → Int → Int → List V → Option R) (K0 : Int → Int → Int → List UInt8 → Int → Int → Int → Int → Int → List V → Int → Int → List UInt8 → Int → Int → Int → Int → Int → List V → Option R) (K1 : Int → Int → List UInt8 → Int → Int → Int → Int → Int → List V → Option R) (n1 : Int) (n11 : Int) (n12 : Int) (l13 : List UInt8) (n14 : Int) (n15 : Int) (n16 : Int) (n17 : Int) (n18 : Int) (vs19 : List V) : Option R := br (decide (n1 < (↑vs0.length : Int))) (br (decide (0 ≤ n1) && decide (n1 < (↑vs0.length : Int))) (at? vs0 n1.toNat fun x0 => x0.unAgg fun l1 => unCons l1 fun x2 l3 => V.unInt IntKind.i64 x2 fun n4 => unCons l3 fun x5 l6 => x5.unBytes fun l7 => unCons l6 fun x8 l9 => V.unSl 62 x8 fun l10 => unNil l9 (br (decide (0 ≤ n1) && decide (n1 < (↑vs0.length : Int))) (at? vs0 n1.toNat fun x11 => x11.unAgg fun l12 => unCons l12 fun x13 l14 => V.unInt IntKind.i64 x13 fun n15_1 => unCons l14 fun x16 l17 => x16.unBytes fun l18 => unCons l17 fun x19 l20 => V.unSl 62 x19 fun l21 => unNil l20 (br (decide (n15_1 = 130)) (br (decide (0 < (↑l7.length : Int))) (at? l7 0 fun u22 => br (decide ((↑l7.length : Int) = 3)) (br (decide (1 < (↑l7.length : Int))) (at? l7 1 fun u23 => br (decide (2 < (↑l7.length : Int))) (at? l7 2 fun u24 => Lq (IntKind.i64.wrap (n1 + 1)) n11 (IntKind.i64.wrap (↑u22.toNat : Int)) l13 n14 n15 (IntKind.i64.wrap (↑u23.toNat : Int)) (IntKind.i64.wrap (↑u24.toNat : Int)) n18 vs19) none) none) (Lq (IntKind.i64.wrap (n1 + 1)) n11 (IntKind.i64.wrap (↑u22.toNat : Int)) l13 n14 n15 n16 n17 n18 vs19)) none) (br (decide (n15_1 = 131)) (br (decide (0 < (↑l7.length : Int))) (at? l7 0 fun u25 => br (decide (1 < (↑l7.length : Int))) (at? l7 1 fun u26 => Lq (IntKind.i64.wrap (n1 + 1)) (IntKind.i64.wrap (IntKind.i64.wrap (256 * IntKind.i64.wrap (↑u25.toNat : Int)) + IntKind.i64.wrap (↑u26.toNat : Int))) n12 l13 n14 n15 n16 n17 n18 vs19) none) none) (br (decide (n15_1 = 132)) (Lq (IntKind.i64.wrap (n1 + 1)) n11 n12 l7 n14 n15 n16 n17 n18 vs19) (br (decide (n15_1 = 128)) (br (decide (0 < (↑l7.length : Int))) (at? l7 0 fun u27 => br (decide (1 < (↑l7.length : Int))) (at? l7 1 fun u28 => Lq (IntKind.i64.wrap (n1 + 1)) n11 n12 l13 n14 (IntKind.i64.wrap (IntKind.i64.wrap (256 * IntKind.i64.wrap (↑u27.toNat : Int)) + IntKind.i64.wrap (↑u28.toNat : Int))) n16 n17 n18 vs19) none) none) (br (decide (n15_1 = 136)) (br (decide (0 < (↑l7.length : Int))) (at? l7 0 fun u29 => Lq (IntKind.i64.wrap (n1 + 1)) n11 n12 l13 (IntKind.i64.wrap (↑u29.toNat : Int)) n15 n16 n17 n18 vs19) none) (br (decide (n15_1 = 138)) (br (decide (0 < (↑l7.length : Int))) (at? l7 0 fun u30 => Lq (IntKind.i64.wrap (n1 + 1)) n11 n12 l13 n14 n15 n16 n17 (IntKind.i64.wrap (↑u30.toNat : Int)) vs19) none) (br (decide (n15_1 = 134)) (bnd2 (s_qDecode N l7) fun l31 n32 => br (!decide (n32 = 0)) (K0 n32 0 0 [] 0 0 0 0 0 [] n11 n12 l13 n14 n15 n16 n17 n18 vs19) (Lq (IntKind.i64.wrap (n1 + 1)) n11 n12 l13 n14 n15 n16 n17 n18 l31)) (Lq (IntKind.i64.wrap (n1 + 1)) n11 n12 l13 n14 n15 n16 n17 n18 vs19))))))))) none)) none) (K1 n11 n12 l13 n14 n15 n16 n17 n18 vs19)
noncomputable def S_hheader_3 {R : Type} (N : Nat) (vs0 : List V) (n2 : Int) (n3 : Int) (l4 : List UInt8) (n5 : Int) (n6 : Int) (n7 : Int) (n8 : Int) (n9 : Int) (vs10 : List V) : Nat → Int → Int → Int → List UInt8 → Int → Int → Int → Int → Int → List V → (Int → Int → Int → List UInt8 → Int → Int → Int → Int → Int → List V → Int → Int → List UInt8 → Int → Int → Int → Int → Int → List V → Option R) → (Int → Int → List UInt8 → Int → Int → Int → Int → Int → List V → Option R) → Option R | 0, _, _, _, _, _, _, _, _, _, _, _, _ => none | t + 1, n1, n11, n12, l13, n14, n15, n16, n17, n18, vs19, K0, K1 => F_hheader_3 N vs0 n2 n3 l4 n5 n6 n7 n8 n9 vs10 (fun n1 n11 n12 l13 n14 n15 n16 n17 n18 vs19 => S_hheader_3 N vs0 n2 n3 l4 n5 n6 n7 n8 n9 vs10 t n1 n11 n12 l13 n14 n15 n16 n17 n18 vs19 K0 K1) K0 K1 n1 n11 n12 l13 n14 n15 n16 n17 n18 vs19
noncomputable def l_hheader_3 {R : Type} (N : Nat) (ds : List D) (m : Mem) (K : Ex → List D → Mem → Option R) : Option R :=
  match ds, m with
  | [(.v (.sl 62 vs0) .no), (.ptr 0 2 0), (.ptr 0 4 0), (.v (.int .i64 n1) .no), .any], [[(2, ⟨25, [(.v (.int .i64 n2) .no), (.v (.int .i64 n3) .no), (.v (.bytes l4) (.own (.slot 0) 5)), (.v (.int .i64 n5) .no), (.v (.int .i64 n6) .no), (.v (.int .i64 n7) .no), (.v (.int .i64 n8) .no), (.v (.int .i64 n9) .no), (.v (.sl 48 vs10) (.own (.slot 0) 48))]⟩), (4, ⟨25, [(.v (.int .i64 n11) .no), (.v (.int .i64 n12) .no), (.v (.bytes l13) .no), (.v (.int .i64 n14) .no), (.v (.int .i64 n15) .no), (.v (.int .i64 n16) .no), (.v (.int .i64 n17) .no), (.v (.int .i64 n18) .no), (.v (.sl 48 vs19) .no)]⟩)]] => S_hheader_3 N vs0 n2 n3 l4 n5 n6 n7 n8 n9 vs10 N n1 n11 n12 l13 n14 n15 n16 n17 n18 vs19 (fun a0 a1 a2 a3 a4 a5 a6 a7 a8 a9 a10 a11 a12 a13 a14 a15 a16 a17 a18 => K .ret [(.ptr 0 2 0), (.v (.int .i64 a0) .no), (.ptr 0 4 0)] [[(2, ⟨25, [(.v (.int .i64 a1) .no), (.v (.int .i64 a2) .no), (.v (.bytes a3) (.own (.slot 0) 5)), (.v (.int .i64 a4) .no), (.v (.int .i64 a5) .no), (.v (.int .i64 a6) .no), (.v (.int .i64 a7) .no), (.v (.int .i64 a8) .no), (.v (.sl 48 a9) (.own (.slot 0) 48))]⟩), (4, ⟨25, [(.v (.int .i64 a10) .no), (.v (.int .i64 a11) .no), (.v (.bytes a12) .no), (.v (.int .i64 a13) .no), (.v (.int .i64 a14) .no), (.v (.int .i64 a15) .no), (.v (.int .i64 a16) .no), (.v (.int .i64 a17) .no), (.v (.sl 48 a18) .no)]⟩)]]) (fun a9 a10 a11 a12 a13 a14 a15 a16 a17 => K (.exit 0) [(.ptr 0 2 0), .any, (.ptr 0 4 0)] [[(2, ⟨25, [(.v (.int .i64 n2) .no), (.v (.int .i64 n3) .no), (.v (.bytes l4) (.own (.slot 0) 5)), (.v (.int .i64 n5) .no), (.v (.int .i64 n6) .no), (.v (.int .i64 n7) .no), (.v (.int .i64 n8) .no), (.v (.int .i64 n9) .no), (.v (.sl 48 vs10) (.own (.slot 0) 48))]⟩), (4, ⟨25, [(.v (.int .i64 a9) .no), (.v (.int .i64 a10) .no), (.v (.bytes a11) .no), (.v (.int .i64 a12) .no), (.v (.int .i64 a13) .no), (.v (.int .i64 a14) .no), (.v (.int .i64 a15) .no), (.v (.int .i64 a16) .no), (.v (.sl 48 a17) .no)]⟩)]])
  | _, _ => none
noncomputable def s_hheader (N : Nat) (x0 : List V) : Option (Int × Int × List UInt8 × Int × Int × Int × Int × Int × List V × Int) := S_hheader_3 N x0 0 0 [] 0 0 0 0 0 [] N 0 0 0 [] 0 0 0 0 0 [] (fun n0 n1 n2 l3 n4 n5 n6 n7 n8 l9 n10 n11 l12 n13 n14 n15 n16 n17 l18 => some (n1, n2, l3, n4, n5, n6, n7, n8, l9, n0)) fun n19 n20 l21 n22 n23 n24 n25 n26 l27 => bnd1 (s_hCheck N n19 n20 l21 n22 n23 n24 n25 n26 l27) fun n28 => some (n19, n20, l21, n22, n23, n24, n25, n26, l27, n28)
noncomputable def cx_hheader (N : Nat) : Cx := { T := T, isPure := tabP [⟨80, e_qDecode (s_qDecode N)⟩, ⟨12, e_hCheck (s_hCheck N)⟩], pureK := fun g ds K => tabK [⟨80, e_qDecode (s_qDecode N)⟩, ⟨12, e_hCheck (s_hCheck N)⟩] g ds K, memK := fun g dst ds m K => tabMK [] g dst ds m K, meth := tabM [], keep := fun r => match r with | 3 => [0, 2, 4, 5, 100004] | _ => [], keepX := fun r => match r with | 3 => [2, 3, 4] | _ => [], loopT := fun r ds m K => match r with | 3 => l_hheader_3 N ds m K | _ => none, jumps := 9 }
theorem F_hheader_3_ok {R : Type} (N : Nat) (vs0 : List V) (n2 : Int) (n3 : Int) (l4 : List UInt8) (n5 : Int) (n6 : Int) (n7 : Int) (n8 : Int) (n9 : Int) (vs10 : List V) (n1 : Int) (n11 : Int) (n12 : Int) (l13 : List UInt8) (n14 : Int) (n15 : Int) (n16 : Int) (n17 : Int) (n18 : Int) (vs19 : List V) (L : List D → Mem → Option R) (K : Ex → List D → Mem → Option R) :
    roundK (fun st K => codeK (cx_hheader N) (loopN Try.f54 0) st K) 105 [0, 2, 4, 5, 100004] [2, 3, 4] L [(.v (.sl 62 vs0) .no), (.ptr 0 2 0), (.ptr 0 4 0), (.v (.int .i64 n1) .no), .any] [[(2, ⟨25, [(.v (.int .i64 n2) .no), (.v (.int .i64 n3) .no), (.v (.bytes l4) (.own (.slot 0) 5)), (.v (.int .i64 n5) .no), (.v (.int .i64 n6) .no), (.v (.int .i64 n7) .no), (.v (.int .i64 n8) .no), (.v (.int .i64 n9) .no), (.v (.sl 48 vs10) (.own (.slot 0) 48))]⟩), (4, ⟨25, [(.v (.int .i64 n11) .no), (.v (.int .i64 n12) .no), (.v (.bytes l13) .no), (.v (.int .i64 n14) .no), (.v (.int .i64 n15) .no), (.v (.int .i64 n16) .no), (.v (.int .i64 n17) .no), (.v (.int .i64 n18) .no), (.v (.sl 48 vs19) .no)]⟩)]] K = F_hheader_3 N vs0 n2 n3 l4 n5 n6 n7 n8 n9 vs10 (fun n1 n11 n12 l13 n14 n15 n16 n17 n18 vs19 => L [(.v (.sl 62 vs0) .no), (.ptr 0 2 0), (.ptr 0 4 0), (.v (.int .i64 n1) .no), .any] [[(2, ⟨25, [(.v (.int .i64 n2) .no), (.v (.int .i64 n3) .no), (.v (.bytes l4) (.own (.slot 0) 5)), (.v (.int .i64 n5) .no), (.v (.int .i64 n6) .no), (.v (.int .i64 n7) .no), (.v (.int .i64 n8) .no), (.v (.int .i64 n9) .no), (.v (.sl 48 vs10) (.own (.slot 0) 48))]⟩), (4, ⟨25, [(.v (.int .i64 n11) .no), (.v (.int .i64 n12) .no), (.v (.bytes l13) .no), (.v (.int .i64 n14) .no), (.v (.int .i64 n15) .no), (.v (.int .i64 n16) .no), (.v (.int .i64 n17) .no), (.v (.int .i64 n18) .no), (.v (.sl 48 vs19) .no)]⟩)]]) (fun a0 a1 a2 a3 a4 a5 a6 a7 a8 a9 a10 a11 a12 a13 a14 a15 a16 a17 a18 => K .ret [(.ptr 0 2 0), (.v (.int .i64 a0) .no), (.ptr 0 4 0)] [[(2, ⟨25, [(.v (.int .i64 a1) .no), (.v (.int .i64 a2) .no), (.v (.bytes a3) (.own (.slot 0) 5)), (.v (.int .i64 a4) .no), (.v (.int .i64 a5) .no), (.v (.int .i64 a6) .no), (.v (.int .i64 a7) .no), (.v (.int .i64 a8) .no), (.v (.sl 48 a9) (.own (.slot 0) 48))]⟩), (4, ⟨25, [(.v (.int .i64 a10) .no), (.v (.int .i64 a11) .no), (.v (.bytes a12) .no), (.v (.int .i64 a13) .no), (.v (.int .i64 a14) .no), (.v (.int .i64 a15) .no), (.v (.int .i64 a16) .no), (.v (.int .i64 a17) .no), (.v (.sl 48 a18) .no)]⟩)]]) (fun a9 a10 a11 a12 a13 a14 a15 a16 a17 => K (.exit 0) [(.ptr 0 2 0), .any, (.ptr 0 4 0)] [[(2, ⟨25, [(.v (.int .i64 n2) .no), (.v (.int .i64 n3) .no), (.v (.bytes l4) (.own (.slot 0) 5)), (.v (.int .i64 n5) .no), (.v (.int .i64 n6) .no), (.v (.int .i64 n7) .no), (.v (.int .i64 n8) .no), (.v (.int .i64 n9) .no), (.v (.sl 48 vs10) (.own (.slot 0) 48))]⟩), (4, ⟨25, [(.v (.int .i64 a9) .no), (.v (.int .i64 a10) .no), (.v (.bytes a11) .no), (.v (.int .i64 a12) .no), (.v (.int .i64 a13) .no), (.v (.int .i64 a14) .no), (.v (.int .i64 a15) .no), (.v (.int .i64 a16) .no), (.v (.sl 48 a17) .no)]⟩)]]) n1 n11 n12 l13 n14 n15 n16 n17 n18 vs19 := by
  kernel_rfl
theorem S_hheader_3_ok {R : Type} (N : Nat) (vs0 : List V) (n2 : Int) (n3 : Int) (l4 : List UInt8) (n5 : Int) (n6 : Int) (n7 : Int) (n8 : Int) (n9 : Int) (vs10 : List V) (K : Ex → List D → Mem → Option R) : ∀ (t : Nat) (n1 : Int) (n11 : Int) (n12 : Int) (l13 : List UInt8) (n14 : Int) (n15 : Int) (n16 : Int) (n17 : Int) (n18 : Int) (vs19 : List V),
    loopK (fun st K => codeK (cx_hheader N) (loopN Try.f54 0) st K) 105 [0, 2, 4, 5, 100004] [2, 3, 4] t [(.v (.sl 62 vs0) .no), (.ptr 0 2 0), (.ptr 0 4 0), (.v (.int .i64 n1) .no), .any] [[(2, ⟨25, [(.v (.int .i64 n2) .no), (.v (.int .i64 n3) .no), (.v (.bytes l4) (.own (.slot 0) 5)), (.v (.int .i64 n5) .no), (.v (.int .i64 n6) .no), (.v (.int .i64 n7) .no), (.v (.int .i64 n8) .no), (.v (.int .i64 n9) .no), (.v (.sl 48 vs10) (.own (.slot 0) 48))]⟩), (4, ⟨25, [(.v (.int .i64 n11) .no), (.v (.int .i64 n12) .no), (.v (.bytes l13) .no), (.v (.int .i64 n14) .no), (.v (.int .i64 n15) .no), (.v (.int .i64 n16) .no), (.v (.int .i64 n17) .no), (.v (.int .i64 n18) .no), (.v (.sl 48 vs19) .no)]⟩)]] K = S_hheader_3 N vs0 n2 n3 l4 n5 n6 n7 n8 n9 vs10 t n1 n11 n12 l13 n14 n15 n16 n17 n18 vs19 (fun a0 a1 a2 a3 a4 a5 a6 a7 a8 a9 a10 a11 a12 a13 a14 a15 a16 a17 a18 => K .ret [(.ptr 0 2 0), (.v (.int .i64 a0) .no), (.ptr 0 4 0)] [[(2, ⟨25, [(.v (.int .i64 a1) .no), (.v (.int .i64 a2) .no), (.v (.bytes a3) (.own (.slot 0) 5)), (.v (.int .i64 a4) .no), (.v (.int .i64 a5) .no), (.v (.int .i64 a6) .no), (.v (.int .i64 a7) .no), (.v (.int .i64 a8) .no), (.v (.sl 48 a9) (.own (.slot 0) 48))]⟩), (4, ⟨25, [(.v (.int .i64 a10) .no), (.v (.int .i64 a11) .no), (.v (.bytes a12) .no), (.v (.int .i64 a13) .no), (.v (.int .i64 a14) .no), (.v (.int .i64 a15) .no), (.v (.int .i64 a16) .no), (.v (.int .i64 a17) .no), (.v (.sl 48 a18) .no)]⟩)]]) (fun a9 a10 a11 a12 a13 a14 a15 a16 a17 => K (.exit 0) [(.ptr 0 2 0), .any, (.ptr 0 4 0)] [[(2, ⟨25, [(.v (.int .i64 n2) .no), (.v (.int .i64 n3) .no), (.v (.bytes l4) (.own (.slot 0) 5)), (.v (.int .i64 n5) .no), (.v (.int .i64 n6) .no), (.v (.int .i64 n7) .no), (.v (.int .i64 n8) .no), (.v (.int .i64 n9) .no), (.v (.sl 48 vs10) (.own (.slot 0) 48))]⟩), (4, ⟨25, [(.v (.int .i64 a9) .no), (.v (.int .i64 a10) .no), (.v (.bytes a11) .no), (.v (.int .i64 a12) .no), (.v (.int .i64 a13) .no), (.v (.int .i64 a14) .no), (.v (.int .i64 a15) .no), (.v (.int .i64 a16) .no), (.v (.sl 48 a17) .no)]⟩)]])
  | 0, n1, n11, n12, l13, n14, n15, n16, n17, n18, vs19 => rfl
  | t + 1, n1, n11, n12, l13, n14, n15, n16, n17, n18, vs19 => (F_hheader_3_ok N vs0 n2 n3 l4 n5 n6 n7 n8 n9 vs10 n1 n11 n12 l13 n14 n15 n16 n17 n18 vs19 _ K).trans (congrArg (fun L => F_hheader_3 N vs0 n2 n3 l4 n5 n6 n7 n8 n9 vs10 L (fun a0 a1 a2 a3 a4 a5 a6 a7 a8 a9 a10 a11 a12 a13 a14 a15 a16 a17 a18 => K .ret [(.ptr 0 2 0), (.v (.int .i64 a0) .no), (.ptr 0 4 0)] [[(2, ⟨25, [(.v (.int .i64 a1) .no), (.v (.int .i64 a2) .no), (.v (.bytes a3) (.own (.slot 0) 5)), (.v (.int .i64 a4) .no), (.v (.int .i64 a5) .no), (.v (.int .i64 a6) .no), (.v (.int .i64 a7) .no), (.v (.int .i64 a8) .no), (.v (.sl 48 a9) (.own (.slot 0) 48))]⟩), (4, ⟨25, [(.v (.int .i64 a10) .no), (.v (.int .i64 a11) .no), (.v (.bytes a12) .no), (.v (.int .i64 a13) .no), (.v (.int .i64 a14) .no), (.v (.int .i64 a15) .no), (.v (.int .i64 a16) .no), (.v (.int .i64 a17) .no), (.v (.sl 48 a18) .no)]⟩)]]) (fun a9 a10 a11 a12 a13 a14 a15 a16 a17 => K (.exit 0) [(.ptr 0 2 0), .any, (.ptr 0 4 0)] [[(2, ⟨25, [(.v (.int .i64 n2) .no), (.v (.int .i64 n3) .no), (.v (.bytes l4) (.own (.slot 0) 5)), (.v (.int .i64 n5) .no), (.v (.int .i64 n6) .no), (.v (.int .i64 n7) .no), (.v (.int .i64 n8) .no), (.v (.int .i64 n9) .no), (.v (.sl 48 vs10) (.own (.slot 0) 48))]⟩), (4, ⟨25, [(.v (.int .i64 a9) .no), (.v (.int .i64 a10) .no), (.v (.bytes a11) .no), (.v (.int .i64 a12) .no), (.v (.int .i64 a13) .no), (.v (.int .i64 a14) .no), (.v (.int .i64 a15) .no), (.v (.int .i64 a16) .no), (.v (.sl 48 a17) .no)]⟩)]]) n1 n11 n12 l13 n14 n15 n16 n17 n18 vs19) (funext fun n1 => funext fun n11 => funext fun n12 => funext fun l13 => funext fun n14 => funext fun n15 => funext fun n16 => funext fun n17 => funext fun n18 => funext fun vs19 => S_hheader_3_ok N vs0 n2 n3 l4 n5 n6 n7 n8 n9 vs10 K t n1 n11 n12 l13 n14 n15 n16 n17 n18 vs19))
theorem s_hheader_ok (N : Nat) (x0 : List V) : bodyK (cx_hheader N) Try.f54 [.v (.sl 62 x0) .no] [] r_hheader = s_hheader N x0 := by
  kernel_rfl
theorem go_hheader : Goes Try.prog 54 := goes_of Try.func54 (by kernel_rfl) (c := bodyOf Try.f54) (by kernel_rfl)
theorem eo_hheader (s : List V → Option (Int × Int × List UInt8 × Int × Int × Int × Int × Int × List V × Int)) (hs : ∀ (x0 : List V) (r0 : Int) (r1 : Int) (r2 : List UInt8) (r3 : Int) (r4 : Int) (r5 : Int) (r6 : Int) (r7 : Int) (r8 : List V) (r9 : Int), s x0 = some (r0, r1, r2, r3, r4, r5, r6, r7, r8, r9) → PureRet Try.prog T 54 [.v (.sl 62 x0) .no] [.agg [.v (.int .i64 r0) .no, .v (.int .i64 r1) .no, .v (.bytes r2) .no, .v (.int .i64 r3) .no, .v (.int .i64 r4) .no, .v (.int .i64 r5) .no, .v (.int .i64 r6) .no, .v (.int .i64 r7) .no, .v (.sl 48 r8) .no], .v (.int .i64 r9) .no]) : EntOK Try.prog T ⟨54, e_hheader s⟩ := by
  refine ⟨go_hheader, fun R ds K r h => ?_, fun R ds K => ?_⟩
  · simp only [e_hheader] at h
    split at h
    · obtain ⟨r0, r1, r2, r3, r4, r5, r6, r7, r8, r9, h1, h2⟩ := bnd10_some h
      exact ⟨_, h2, hs _ _ _ _ _ _ _ _ _ _ _ h1⟩
    · cases h
  · simp only [e_hheader]
    split
    · rw [bnd10_b]; rfl
    · rfl
theorem co_hheader (N : Nat) : CxOK Try.prog (cx_hheader N) :=
  cxOK_of2 (es := [⟨80, e_qDecode (s_qDecode N)⟩, ⟨12, e_hCheck (s_hCheck N)⟩]) (me := []) (ms := []) T_ok ⟨eo_qDecode _ (p_qDecode N), eo_hCheck _ (p_hCheck N), trivial⟩ trivial trivial rfl (fun _ _ _ _ => rfl) (fun _ _ _ _ _ _ => rfl) rfl
theorem lk_hheader_3 (N : Nat) : LoopOK (cx_hheader N) 105 (loopN Try.f54 0) := by
  refine loopOK_of (rid := 3) (by kernel_rfl) rfl rfl fun R ds m K r h => ?_
  have h : l_hheader_3 N ds m K = some r := h
  unfold l_hheader_3 at h
  split at h
  · exact ⟨N, Eq.trans (S_hheader_3_ok ..) h⟩
  · cases h
theorem lo_hheader (N : Nat) : LoopsOK (cx_hheader N) Try.f54.ntmps (bodyOf Try.f54) :=
  loopsOK_of (k := 1) (by kernel_rfl) ⟨trivial, lk_hheader_3 N⟩
theorem p_hheader (N : Nat) (x0 : List V) (r0 : Int) (r1 : Int) (r2 : List UInt8) (r3 : Int) (r4 : Int) (r5 : Int) (r6 : Int) (r7 : Int) (r8 : List V) (r9 : Int) (h : s_hheader N x0 = some (r0, r1, r2, r3, r4, r5, r6, r7, r8, r9)) : PureRet Try.prog T 54 [.v (.sl 62 x0) .no] [.agg [.v (.int .i64 r0) .no, .v (.int .i64 r1) .no, .v (.bytes r2) .no, .v (.int .i64 r3) .no, .v (.int .i64 r4) .no, .v (.int .i64 r5) .no, .v (.int .i64 r6) .no, .v (.int .i64 r7) .no, .v (.sl 48 r8) .no], .v (.int .i64 r9) .no] :=
  pure_of (cx := cx_hheader N) (by kernel_rfl) (co_hheader N) Try.func54 (by kernel_rfl) (by kernel_rfl) (lo_hheader N) rfl rfl rfl (rf := r_hheader) ((s_hheader_ok N x0).trans h) (fun rs' m h => by
    unfold r_hheader at h
    split at h
    · cases h; exact ⟨rfl, rfl⟩
    · cases h)
noncomputable def e_hDecode {R : Type} (s : List UInt8 → Option (Int × Int × List UInt8 × Int × Int × Int × Int × Int × List V × Int)) (ds : List D) (K : List D → Option R) : Option R :=
  match ds with
  | [.v (.bytes x0) .no] => bnd10 (s x0) fun r0 r1 r2 r3 r4 r5 r6 r7 r8 r9 => K [.agg [.v (.int .i64 r0) .no, .v (.int .i64 r1) .no, .v (.bytes r2) .no, .v (.int .i64 r3) .no, .v (.int .i64 r4) .no, .v (.int .i64 r5) .no, .v (.int .i64 r6) .no, .v (.int .i64 r7) .no, .v (.sl 48 r8) .no], .v (.int .i64 r9) .no]
  | _ => none
noncomputable def r_hDecode (rs : List D) (_ : Mem) : Option (Int × Int × List UInt8 × Int × Int × Int × Int × Int × List V × Int) :=
  match rs with
  | [.agg [.v (.int .i64 r0) _, .v (.int .i64 r1) _, .v (.bytes r2) _, .v (.int .i64 r3) _, .v (.int .i64 r4) _, .v (.int .i64 r5) _, .v (.int .i64 r6) _, .v (.int .i64 r7) _, .v (.sl 48 r8) _], .v (.int .i64 r9) _] => some (r0, r1, r2, r3, r4, r5, r6, r7, r8, r9)
  | _ => none
noncomputable def s_hDecode (N : Nat) (x0 : List UInt8) : Option (Int × Int × List UInt8 × Int × Int × Int × Int × Int × List V × Int) := bnd2 (s_rDecode N x0) fun l0 n1 => br (!decide (n1 = 0)) (some (0, 0, [], 0, 0, 0, 0, 0, [], n1)) (br (!decide ((↑l0.length : Int) = 1)) (some (0, 0, [], 0, 0, 0, 0, 0, [], 4)) (br (decide (0 < (↑l0.length : Int))) (at? l0 0 fun x2 => x2.unAgg fun l3 => unCons l3 fun x4 l5 => V.unInt IntKind.i64 x4 fun n6 => unCons l5 fun x7 l8 => x7.unBytes fun l9 => unCons l8 fun x10 l11 => V.unSl 62 x10 fun l12 => unNil l11 (br (!decide (n6 = 98)) (some (0, 0, [], 0, 0, 0, 0, 0, [], 4)) (br (decide (0 < (↑l0.length : Int))) (at? l0 0 fun x13 => x13.unAgg fun l14 => unCons l14 fun x15 l16 => V.unInt IntKind.i64 x15 fun n17 => unCons l16 fun x18 l19 => x18.unBytes fun l20 => unCons l19 fun x21 l22 => V.unSl 62 x21 fun l23 => unNil l22 (bnd1 (s_hform N l23) fun b24 => br (!b24) (some (0, 0, [], 0, 0, 0, 0, 0, [], 4)) (br (decide (0 < (↑l0.length : Int))) (at? l0 0 fun x25 => x25.unAgg fun l26 => unCons l26 fun x27 l28 => V.unInt IntKind.i64 x27 fun n29 => unCons l28 fun x30 l31 => x30.unBytes fun l32 => unCons l31 fun x33 l34 => V.unSl 62 x33 fun l35 => unNil l34 (bnd10 (s_hheader N l35) fun n36 n37 l38 n39 n40 n41 n42 n43 l44 n45 => br (!decide (n45 = 0)) (some (0, 0, [], 0, 0, 0, 0, 0, [], n45)) (bnd2 (s_hEncode N n36 n37 l38 n39 n40 n41 n42 n43 l44) fun l46 n47 => bnd1 (s_oSame N l46 x0) fun b48 => br (!b48) (some (0, 0, [], 0, 0, 0, 0, 0, [], 4)) (some (n36, n37, l38, n39, n40, n41, n42, n43, l44, 0))))) none))) none))) none))
noncomputable def cx_hDecode (N : Nat) : Cx := { T := T, isPure := tabP [⟨52, e_rDecode (s_rDecode N)⟩, ⟨53, e_hform (s_hform N)⟩, ⟨54, e_hheader (s_hheader N)⟩, ⟨15, e_hEncode (s_hEncode N)⟩, ⟨16, e_oSame (s_oSame N)⟩], pureK := fun g ds K => tabK [⟨52, e_rDecode (s_rDecode N)⟩, ⟨53, e_hform (s_hform N)⟩, ⟨54, e_hheader (s_hheader N)⟩, ⟨15, e_hEncode (s_hEncode N)⟩, ⟨16, e_oSame (s_oSame N)⟩] g ds K, memK := fun g dst ds m K => tabMK [] g dst ds m K, meth := tabM [], keep := fun _ => [], keepX := fun _ => [], loopT := fun _ _ _ _ => none, jumps := 9 }
theorem s_hDecode_ok (N : Nat) (x0 : List UInt8) : bodyK (cx_hDecode N) Try.f25 [.v (.bytes x0) .no] [] r_hDecode = s_hDecode N x0 := by
  kernel_rfl
theorem go_hDecode : Goes Try.prog 25 := goes_of Try.func25 (by kernel_rfl) (c := bodyOf Try.f25) (by kernel_rfl)
theorem eo_hDecode (s : List UInt8 → Option (Int × Int × List UInt8 × Int × Int × Int × Int × Int × List V × Int)) (hs : ∀ (x0 : List UInt8) (r0 : Int) (r1 : Int) (r2 : List UInt8) (r3 : Int) (r4 : Int) (r5 : Int) (r6 : Int) (r7 : Int) (r8 : List V) (r9 : Int), s x0 = some (r0, r1, r2, r3, r4, r5, r6, r7, r8, r9) → PureRet Try.prog T 25 [.v (.bytes x0) .no] [.agg [.v (.int .i64 r0) .no, .v (.int .i64 r1) .no, .v (.bytes r2) .no, .v (.int .i64 r3) .no, .v (.int .i64 r4) .no, .v (.int .i64 r5) .no, .v (.int .i64 r6) .no, .v (.int .i64 r7) .no, .v (.sl 48 r8) .no], .v (.int .i64 r9) .no]) : EntOK Try.prog T ⟨25, e_hDecode s⟩ := by
  refine ⟨go_hDecode, fun R ds K r h => ?_, fun R ds K => ?_⟩
  · simp only [e_hDecode] at h
    split at h
    · obtain ⟨r0, r1, r2, r3, r4, r5, r6, r7, r8, r9, h1, h2⟩ := bnd10_some h
      exact ⟨_, h2, hs _ _ _ _ _ _ _ _ _ _ _ h1⟩
    · cases h
  · simp only [e_hDecode]
    split
    · rw [bnd10_b]; rfl
    · rfl
theorem co_hDecode (N : Nat) : CxOK Try.prog (cx_hDecode N) :=
  cxOK_of2 (es := [⟨52, e_rDecode (s_rDecode N)⟩, ⟨53, e_hform (s_hform N)⟩, ⟨54, e_hheader (s_hheader N)⟩, ⟨15, e_hEncode (s_hEncode N)⟩, ⟨16, e_oSame (s_oSame N)⟩]) (me := []) (ms := []) T_ok ⟨eo_rDecode _ (p_rDecode N), eo_hform _ (p_hform N), eo_hheader _ (p_hheader N), eo_hEncode _ (p_hEncode N), eo_oSame _ (p_oSame N), trivial⟩ trivial trivial rfl (fun _ _ _ _ => rfl) (fun _ _ _ _ _ _ => rfl) rfl
theorem lo_hDecode (N : Nat) : LoopsOK (cx_hDecode N) Try.f25.ntmps (bodyOf Try.f25) :=
  loopsOK_of (k := 0) (by kernel_rfl) trivial
theorem p_hDecode (N : Nat) (x0 : List UInt8) (r0 : Int) (r1 : Int) (r2 : List UInt8) (r3 : Int) (r4 : Int) (r5 : Int) (r6 : Int) (r7 : Int) (r8 : List V) (r9 : Int) (h : s_hDecode N x0 = some (r0, r1, r2, r3, r4, r5, r6, r7, r8, r9)) : PureRet Try.prog T 25 [.v (.bytes x0) .no] [.agg [.v (.int .i64 r0) .no, .v (.int .i64 r1) .no, .v (.bytes r2) .no, .v (.int .i64 r3) .no, .v (.int .i64 r4) .no, .v (.int .i64 r5) .no, .v (.int .i64 r6) .no, .v (.int .i64 r7) .no, .v (.sl 48 r8) .no], .v (.int .i64 r9) .no] :=
  pure_of (cx := cx_hDecode N) (by kernel_rfl) (co_hDecode N) Try.func25 (by kernel_rfl) (by kernel_rfl) (lo_hDecode N) rfl rfl rfl (rf := r_hDecode) ((s_hDecode_ok N x0).trans h) (fun rs' m h => by
    unfold r_hDecode at h
    split at h
    · cases h; exact ⟨rfl, rfl⟩
    · cases h)
end Go.Proofs.Ytllnklkjkjmjbaa.En

/- The printed functions, together. -/

/- The chapter's first example, as an item of the engine (written by hand after the printer's form: the printer takes too long at it). -/
namespace Go.Proofs.Ytllnklkjkjmjbaa.En
open Go Go.Proofs
set_option maxRecDepth 100000
set_option linter.unusedVariables false
noncomputable def e_vawake {R : Type} (s : Option (Bool)) (ds : List D) (K : List D → Option R) : Option R :=
  match ds with
  | [] => bnd1 (s) fun r0 => K [.v (.bool r0) .no]
  | _ => none
noncomputable def r_vawake (rs : List D) (_ : Mem) : Option (Bool) :=
  match rs with
  | [.v (.bool r0) _] => some (r0)
  | _ => none
noncomputable def s_vawake (N : Nat)  : Option (Bool) := bnd2 (s_fEncode N 12033 2 [] 1 32 0 0 1 []) fun l0 n1 => bnd2 (s_fNext N 1 64) fun n2 n3 => br (decide (n1 = 0)) (bnd1 (s_oSame N l0 ([98, 17, 130, 1, 2, 131, 2, 47, 1, 128, 2, 0, 32, 136, 1, 1, 138, 1, 1] : List UInt8)) fun b4 => br b4 (bnd1 (s_fBytes N 12033 2 [] 1 32 0 0 1 []) fun n5 => br (decide (n5 = 32)) (br (decide (n3 = 0)) (some (decide (n2 = 2))) (some false)) (some false)) (some false)) (some false)
noncomputable def cx_vawake (N : Nat) : Cx := { T := T, isPure := tabP [⟨14, e_fEncode (s_fEncode N)⟩, ⟨19, e_fNext (s_fNext N)⟩, ⟨16, e_oSame (s_oSame N)⟩, ⟨17, e_fBytes (s_fBytes N)⟩], pureK := fun g ds K => tabK [⟨14, e_fEncode (s_fEncode N)⟩, ⟨19, e_fNext (s_fNext N)⟩, ⟨16, e_oSame (s_oSame N)⟩, ⟨17, e_fBytes (s_fBytes N)⟩] g ds K, memK := fun g dst ds m K => tabMK [] g dst ds m K, meth := tabM [], keep := fun _ => [], keepX := fun _ => [], loopT := fun _ _ _ _ => none, jumps := 9 }
theorem s_vawake_ok (N : Nat)  : bodyK (cx_vawake N) Try.f13 [] [] r_vawake = s_vawake N  := by
  kernel_rfl
theorem go_vawake : Goes Try.prog 13 := goes_of Try.func13 (by kernel_rfl) (c := bodyOf Try.f13) (by kernel_rfl)
theorem eo_vawake (s : Option (Bool)) (hs : ∀  (r0 : Bool), s  = some r0 → PureRet Try.prog T 13 [] [.v (.bool r0) .no]) : EntOK Try.prog T ⟨13, e_vawake s⟩ := by
  refine ⟨go_vawake, fun R ds K r h => ?_, fun R ds K => ?_⟩
  · simp only [e_vawake] at h
    split at h
    · obtain ⟨r0, h1, h2⟩ := bnd1_some h
      exact ⟨_, h2, hs _ h1⟩
    · cases h
  · simp only [e_vawake]
    split
    · rw [bnd1_b]; rfl
    · rfl
theorem co_vawake (N : Nat) : CxOK Try.prog (cx_vawake N) :=
  cxOK_of2 (es := [⟨14, e_fEncode (s_fEncode N)⟩, ⟨19, e_fNext (s_fNext N)⟩, ⟨16, e_oSame (s_oSame N)⟩, ⟨17, e_fBytes (s_fBytes N)⟩]) (me := []) (ms := []) T_ok ⟨eo_fEncode _ (p_fEncode N), eo_fNext _ (p_fNext N), eo_oSame _ (p_oSame N), eo_fBytes _ (p_fBytes N), trivial⟩ trivial trivial rfl (fun _ _ _ _ => rfl) (fun _ _ _ _ _ _ => rfl) rfl
theorem lo_vawake (N : Nat) : LoopsOK (cx_vawake N) Try.f13.ntmps (bodyOf Try.f13) :=
  loopsOK_of (k := 0) (by kernel_rfl) trivial
theorem p_vawake (N : Nat)  (r0 : Bool) (h : s_vawake N  = some r0) : PureRet Try.prog T 13 [] [.v (.bool r0) .no] :=
  pure_of (cx := cx_vawake N) (by kernel_rfl) (co_vawake N) Try.func13 (by kernel_rfl) (by kernel_rfl) (lo_vawake N) rfl rfl rfl (rf := r_vawake) ((s_vawake_ok N ).trans h) (fun rs' m h => by
    unfold r_vawake at h
    split at h
    · cases h; exact ⟨rfl, rfl⟩
    · cases h)
end Go.Proofs.Ytllnklkjkjmjbaa.En

/- Functions of the program in plain Lean, joined to the program by evaluation; printed by a program. -/
namespace Go.Proofs.Ytllnklkjkjmjbaa.En
open Go Go.Proofs
set_option maxRecDepth 100000
set_option linter.unusedVariables false
noncomputable def r_vDecodes (rs : List D) (_ : Mem) : Option (Bool) :=
  match rs with
  | [.v (.bool r0) _] => some (r0)
  | _ => none
noncomputable def s_vDecodes (N : Nat) (x0 : List UInt8) : Option (Bool) := br (decide (600 < (↑x0.length : Int))) (some true) (bnd10 (s_fDecode N x0) fun n0 n1 l2 n3 n4 n5 n6 n7 l8 n9 => bnd10 (s_hDecode N x0) fun n10 n11 l12 n13 n14 n15 n16 n17 l18 n19 => br (decide (n9 = n19)) (bnd1 (s_hSame N n0 n1 l2 n3 n4 n5 n6 n7 l8 n10 n11 l12 n13 n14 n15 n16 n17 l18) fun b20 => br b20 (bnd1 (s_vawake N) fun b21 => some b21) (some false)) (some false))
noncomputable def cx_vDecodes (N : Nat) : Cx := { T := T, isPure := tabP [⟨24, e_fDecode (s_fDecode N)⟩, ⟨25, e_hDecode (s_hDecode N)⟩, ⟨23, e_hSame (s_hSame N)⟩, ⟨13, e_vawake (s_vawake N)⟩], pureK := fun g ds K => tabK [⟨24, e_fDecode (s_fDecode N)⟩, ⟨25, e_hDecode (s_hDecode N)⟩, ⟨23, e_hSame (s_hSame N)⟩, ⟨13, e_vawake (s_vawake N)⟩] g ds K, memK := fun g dst ds m K => tabMK [] g dst ds m K, meth := tabM [], keep := fun _ => [], keepX := fun _ => [], loopT := fun _ _ _ _ => none, jumps := 9 }
theorem s_vDecodes_ok (N : Nat) (x0 : List UInt8) : bodyK (cx_vDecodes N) Try.f8 [.v (.bytes x0) .no] [] r_vDecodes = s_vDecodes N x0 := by
  kernel_rfl
theorem co_vDecodes (N : Nat) : CxOK Try.prog (cx_vDecodes N) :=
  cxOK_of2 (es := [⟨24, e_fDecode (s_fDecode N)⟩, ⟨25, e_hDecode (s_hDecode N)⟩, ⟨23, e_hSame (s_hSame N)⟩, ⟨13, e_vawake (s_vawake N)⟩]) (me := []) (ms := []) T_ok ⟨eo_fDecode _ (p_fDecode N), eo_hDecode _ (p_hDecode N), eo_hSame _ (p_hSame N), eo_vawake _ (p_vawake N), trivial⟩ trivial trivial rfl (fun _ _ _ _ => rfl) (fun _ _ _ _ _ _ => rfl) rfl
theorem lo_vDecodes (N : Nat) : LoopsOK (cx_vDecodes N) Try.f8.ntmps (bodyOf Try.f8) :=
  loopsOK_of (k := 0) (by kernel_rfl) trivial
theorem p_vDecodes (N : Nat) (x0 : List UInt8) (r0 : Bool) (h : s_vDecodes N x0 = some r0) : PureRet Try.prog T 8 [.v (.bytes x0) .no] [.v (.bool r0) .no] :=
  pure_of (cx := cx_vDecodes N) (by kernel_rfl) (co_vDecodes N) Try.func8 (by kernel_rfl) (by kernel_rfl) (lo_vDecodes N) rfl rfl rfl (rf := r_vDecodes) ((s_vDecodes_ok N x0).trans h) (fun rs' m h => by
    unfold r_vDecodes at h
    split at h
    · cases h; exact ⟨rfl, rfl⟩
    · cases h)
end Go.Proofs.Ytllnklkjkjmjbaa.En

/- The printed functions, together. -/

/- Headers of files as plain data; octets compared; which headers are valid: the program and the reference. -/
namespace Go.Proofs.Ytllnklkjkjmjbaa.En
open Go
set_option linter.unusedVariables false
theorem midG {α : Type} (pre : List α) (x : α) (suf : List α) : pre ++ x :: suf = (pre ++ [x]) ++ suf := by simp
section
variable (N : Nat)
theorem oCmp_loop : ∀ (a b pre : List UInt8) (t : Nat), a.length < t → pre.length + a.length ≤ 9223372036854775807 → pre.length + b.length ≤ 9223372036854775807 →
    ∃ z, S_oCompare_2 N (pre ++ a) (pre ++ b) t (pre.length : Int) (fun n0 => some n0) (br (decide (((pre ++ a).length : Int) < ((pre ++ b).length : Int))) (some (-1)) (br (decide (((pre ++ b).length : Int) < ((pre ++ a).length : Int))) (some 1) (some 0))) = some z ∧ (z = 0 ↔ a = b)
  | a, b, pre, 0, ht, _, _ => by omega
  | [], [], pre, t + 1, ht, _, _ => by
    unfold S_oCompare_2 F_oCompare_2
    exact ⟨0, by simp [br], by simp⟩
  | [], y :: b, pre, t + 1, ht, _, _ => by
    unfold S_oCompare_2 F_oCompare_2
    refine ⟨-1, ?_, by simp⟩
    simp only [br_dec, List.append_nil]
    rw [if_neg (by omega), if_pos (by simp; omega)]
  | x :: a, [], pre, t + 1, ht, _, _ => by
    unfold S_oCompare_2 F_oCompare_2
    refine ⟨1, ?_, by simp⟩
    simp only [br_dec, List.append_nil]
    rw [if_pos (by simp; omega), if_neg (by omega), if_neg (by simp; omega), if_pos (by simp; omega)]
  | x :: a, y :: b, pre, t + 1, ht, h1, h2 => by
    simp only [List.length_cons] at ht h1 h2
    obtain ⟨z, ih1, ih2⟩ := oCmp_loop a b (pre ++ [x]) t (by omega) (by simp; omega) (by simp; omega)
    have e1 : (pre.length : Int) < ((pre ++ x :: a).length : Int) := by simp; omega
    have e2 : (pre.length : Int) < ((pre ++ y :: b).length : Int) := by simp; omega
    have e3 : (0 : Int) ≤ pre.length := by omega
    have e4 : IntKind.i64.wrap ((pre.length : Int) + 1) = ((pre ++ [x]).length : Int) := by rw [w64 (by omega) (by omega)]; simp
    unfold S_oCompare_2 F_oCompare_2
    simp only [br_t, br_f, br_dec, br_not, br_and, br_or, bnd1_mk, bnd2_mk, bnd3_mk, bnd4_mk, bnd5_mk, bnd10_mk, at_zero, at_succ, at_mid, unInt_mk, unBool_mk, unStr_mk, unBytes_mk, unSl_mk, unAgg_mk, unCons_mk, unNil_mk, e1, e2, e3, if_true, Int.toNat_natCast]
    by_cases c1 : (x.toNat : Int) < (y.toNat : Int)
    · rw [if_pos c1]
      exact ⟨-1, rfl, ⟨fun h => (by cases h), fun h => by injection h with h _; subst h; omega⟩⟩
    rw [if_neg c1]
    by_cases c2 : (y.toNat : Int) < (x.toNat : Int)
    · rw [if_pos c2]
      exact ⟨1, rfl, ⟨fun h => (by cases h), fun h => by injection h with h _; subst h; omega⟩⟩
    rw [if_neg c2]
    obtain rfl : x = y := UInt8.toNat_inj.1 (by omega)
    refine ⟨z, ?_, by rw [ih2]; simp⟩
    rw [e4]
    rw [← midG, ← midG] at ih1
    simpa only [br_dec] using ih1
theorem oSame_eq (a b : List UInt8) (h : a.length < N) (h1 : a.length ≤ 9223372036854775807) (h2 : b.length ≤ 9223372036854775807) : s_oSame N a b = some (decide (a = b)) := by
  obtain ⟨z, h3, h4⟩ := oCmp_loop N a b [] N h (by simpa using h1) (by simpa using h2)
  have h3' : s_oCompare N a b = some z := h3
  unfold s_oSame
  rw [h3', bnd1_mk]
  exact congrArg some (decide_eq_decide.2 h4)
theorem Equal_eq (a b : List UInt8) (h1 : a.length ≤ 9223372036854775807) (h2 : b.length ≤ 9223372036854775807) : s_Equal N a b = some (decide (a = b)) := by
  unfold s_Equal
  rw [br_dec, if_pos h1, br_dec, if_pos h2]
end
/-- A header. -/
structure Fi where
  id : Int
  kind : Int
  name : List UInt8
  short : Int
  size : Int
  length : Int
  recs : Int
  state : Int
  rules : List Ru
  deriving DecidableEq
def numF (n : Int) (u : Bool) (most : Int) : Int := bif u then (if n < 1 then 2 else if most < n then 2 else 0) else (if n = 0 then 0 else 4)
def recK (k : Int) : Bool := decide (3 ≤ k) && decide (k ≤ 5)
def szF (f : Fi) : Int :=
  if numF f.size (decide (f.kind = 2)) 1024 = 0 then
    (if numF f.length (recK f.kind) 254 = 0 then
      (if numF f.recs (recK f.kind) 254 = 0 then (if 1024 < IntKind.i64.wrap (f.length * f.recs) then 3 else 0) else numF f.recs (recK f.kind) 254)
     else numF f.length (recK f.kind) 254)
  else numF f.size (decide (f.kind = 2)) 1024
def chkF3 (f : Fi) : Int := if szF f = 0 then (if f.state < 1 then 2 else if 3 < f.state then 2 else chkR f.rules) else szF f
def chkF2 (f : Fi) : Int := if f.short < 0 then 2 else if 30 < f.short then 2 else if f.short = 0 then chkF3 f else if f.kind = 1 then 4 else chkF3 f
def chkF (f : Fi) : Int :=
  if f.kind < 1 then 1 else if 5 < f.kind then 1 else if f.id < 1 then 2 else if 65534 < f.id then 2 else if f.id = 16383 then 2 else if 16 < (f.name.length : Int) then 3
  else if 0 < (f.name.length : Int) then (if f.kind = 1 then chkF2 f else 4) else chkF2 f
section
variable (N : Nat)
theorem fnumber_eq (n : Int) (u : Bool) (most : Int) : s_fnumber N n u most = some (numF n u most) := by
  unfold s_fnumber numF
  cases u <;> simp only [br_not, br_t, br_f, br_dec, cond_true, cond_false, apply_ite some]
theorem hnumber_eq (n : Int) (u : Bool) (most : Int) : s_hnumber N n u most = some (numF n u most) := by
  unfold s_hnumber numF
  cases u <;> simp only [br_not, br_t, br_f, br_dec, cond_true, cond_false, apply_ite some]
theorem frecords_eq (k : Int) : s_frecords N k = some (recK k) := by
  unfold s_frecords recK
  rw [br_dec]
  by_cases c : 3 ≤ k
  · rw [if_pos c, decide_eq_true c, Bool.true_and]
  · rw [if_neg c, decide_eq_false c]; rfl
theorem hrecords_eq (k : Int) : s_hrecords N k = some (recK k) := by
  unfold s_hrecords recK
  rw [br_dec, br_dec]
  by_cases c : k = 3
  · subst c; rfl
  by_cases c' : k = 4
  · subst c'; rfl
  rw [if_neg c, if_neg c']
  congr 1
  rw [← Bool.decide_and, decide_eq_decide]
  omega
theorem isState_eq (k : Int) : s_fisState N k = some (decide (1 ≤ k) && decide (k ≤ 3)) := by
  unfold s_fisState
  rw [br_dec]
  by_cases c : 1 ≤ k
  · rw [if_pos c, decide_eq_true c, Bool.true_and]
  · rw [if_neg c, decide_eq_false c]; rfl
theorem chk3 {R : Type} (hN : 10 < N) (a b c : Int) (n3 n4 : Int) (l5 : List UInt8) (n6 n7 n8 n9 n10 : Int) (vs11 : List V) (K0 : Int → Option R) (K1 : Option R) :
    S_fCheck_15 N [V.int IntKind.i64 a, V.int IntKind.i64 b, V.int IntKind.i64 c] (([V.int IntKind.i64 a, V.int IntKind.i64 b, V.int IntKind.i64 c].length : Nat) : Int) n3 n4 l5 n6 n7 n8 n9 n10 vs11 N 0 K0 K1
      = if a = 0 then (if b = 0 then (if c = 0 then K1 else K0 c) else K0 b) else K0 a := by
  obtain ⟨t, ht⟩ : ∃ t, N = t + 4 := ⟨N - 4, by omega⟩
  have e1 : IntKind.i64.wrap ((0 : Int) + 1) = 1 := by decide
  have e2 : IntKind.i64.wrap ((1 : Int) + 1) = 2 := by decide
  have e3 : IntKind.i64.wrap ((2 : Int) + 1) = 3 := by decide
  have a0 : ∀ (K : V → Option R), at? [V.int IntKind.i64 a, V.int IntKind.i64 b, V.int IntKind.i64 c] (0 : Int).toNat K = K (V.int IntKind.i64 a) := fun _ => rfl
  have a1 : ∀ (K : V → Option R), at? [V.int IntKind.i64 a, V.int IntKind.i64 b, V.int IntKind.i64 c] (1 : Int).toNat K = K (V.int IntKind.i64 b) := fun _ => rfl
  have a2 : ∀ (K : V → Option R), at? [V.int IntKind.i64 a, V.int IntKind.i64 b, V.int IntKind.i64 c] (2 : Int).toNat K = K (V.int IntKind.i64 c) := fun _ => rfl
  have hs : ∀ (n : Nat), S_fCheck_15 N [V.int IntKind.i64 a, V.int IntKind.i64 b, V.int IntKind.i64 c] (([V.int IntKind.i64 a, V.int IntKind.i64 b, V.int IntKind.i64 c].length : Nat) : Int) n3 n4 l5 n6 n7 n8 n9 n10 vs11 (n + 4) 0 K0 K1
      = if a = 0 then (if b = 0 then (if c = 0 then K1 else K0 c) else K0 b) else K0 a := by
    intro n
    unfold S_fCheck_15 F_fCheck_15
    simp only [br_dec, br_and, br_not, a0, unInt_mk, e1, List.length_cons, List.length_nil]
    rw [if_pos (by decide), if_pos (by decide), if_pos (by decide)]
    congr 1
    unfold S_fCheck_15 F_fCheck_15
    simp only [br_dec, br_and, br_not, a1, unInt_mk, e2, List.length_cons, List.length_nil]
    rw [if_pos (by decide), if_pos (by decide), if_pos (by decide)]
    congr 1
    unfold S_fCheck_15 F_fCheck_15
    simp only [br_dec, br_and, br_not, a2, unInt_mk, e3, List.length_cons, List.length_nil]
    rw [if_pos (by decide), if_pos (by decide), if_pos (by decide)]
    congr 1
  have := hs t
  rw [← ht] at this
  exact this
theorem fCheck_eq (hN : 10 < N) (f : Fi) (g : GoodR N f.rules) : s_fCheck N f.id f.kind f.name f.short f.size f.length f.recs f.state (rE f.rules) = some (chkF f) := by
  unfold s_fCheck chkF chkF2 chkF3 szF
  simp only [fnumber_eq, frecords_eq, isState_eq, bnd1_mk, chk3 N hN, aCheckRules_eq N f.rules g, br_dec, br_not, br_and]
  have hst : ∀ (x y : Option Int), (if 1 ≤ f.state then (if f.state ≤ 3 then x else y) else y) = if f.state < 1 then y else if 3 < f.state then y else x := by
    intro x y
    by_cases c1 : f.state < 1
    · rw [if_pos c1, if_neg (by omega)]
    · rw [if_neg c1, if_pos (by omega)]
      by_cases c2 : 3 < f.state
      · rw [if_pos c2, if_neg (by omega)]
      · rw [if_neg c2, if_pos (by omega)]
  generalize numF f.size (decide (f.kind = 2)) 1024 = a
  generalize numF f.length (recK f.kind) 254 = b
  generalize numF f.recs (recK f.kind) 254 = c
  have tail : (if a = 0 then (if b = 0 then (if c = 0 then (if 1024 < IntKind.i64.wrap (f.length * f.recs) then some 3 else if 1 ≤ f.state then if f.state ≤ 3 then some (chkR f.rules) else some 2 else some 2) else some c) else some b) else some a)
      = some (if (if a = 0 then (if b = 0 then (if c = 0 then (if 1024 < IntKind.i64.wrap (f.length * f.recs) then 3 else 0) else c) else b) else a) = 0 then (if f.state < 1 then 2 else if 3 < f.state then 2 else chkR f.rules)
        else (if a = 0 then (if b = 0 then (if c = 0 then (if 1024 < IntKind.i64.wrap (f.length * f.recs) then 3 else 0) else c) else b) else a)) := by
    by_cases ca : a = 0
    case neg => simp [ca]
    by_cases cb : b = 0
    case neg => simp [ca, cb]
    by_cases cc : c = 0
    case neg => simp [ca, cb, cc]
    by_cases cd : 1024 < IntKind.i64.wrap (f.length * f.recs)
    · simp [ca, cb, cc, cd]
    · simp only [ca, cb, cc, cd, if_true, if_false, hst, apply_ite some]
  simp only [tail, apply_ite some]
theorem hsizes_eq (f : Fi) : s_hsizes N f.id f.kind f.name f.short f.size f.length f.recs f.state (rE f.rules) = some (szF f) := by
  unfold s_hsizes szF
  simp only [hnumber_eq, hrecords_eq, bnd1_mk, br_dec]
  generalize numF f.size (decide (f.kind = 2)) 1024 = a
  generalize numF f.length (recK f.kind) 254 = b
  generalize numF f.recs (recK f.kind) 254 = c
  by_cases ca : a = 0
  case neg => simp [ca]
  by_cases cb : b = 0
  case neg => simp [ca, cb]
  by_cases cc : c = 0
  case neg => simp [ca, cb, cc]
  by_cases cd : 1024 < IntKind.i64.wrap (f.length * f.recs) <;> simp [ca, cb, cc, cd]
theorem hCheck_eq (f : Fi) (g : GoodR N f.rules) : s_hCheck N f.id f.kind f.name f.short f.size f.length f.recs f.state (rE f.rules) = some (chkF f) := by
  unfold s_hCheck chkF chkF2 chkF3
  simp only [hsizes_eq N f, bnd1_mk, qCheckRules_eq N f.rules g, br_dec, br_not, apply_ite some]
end
end Go.Proofs.Ytllnklkjkjmjbaa.En

/- The parameters of headers: the program and the reference. -/
namespace Go.Proofs.Ytllnklkjkjmjbaa.En
open Go
set_option linter.unusedVariables false
def twoB (n : Int) : List UInt8 := [byteI (n / 256), byteI (n % 256)]
def kindB (f : Fi) : List UInt8 := bif recK f.kind then [byteI f.kind, byteI f.length, byteI f.recs] else [byteI f.kind]
def partsF (f : Fi) : List (Int × List UInt8) :=
  (130, kindB f) :: (131, twoB f.id) :: ((if 0 < (f.name.length : Int) then [(132, f.name)] else []) ++ ((if f.kind = 2 then [(128, twoB f.size)] else []) ++
    ((if f.short = 0 then [] else [(136, [byteI f.short])]) ++ ((138, [byteI f.state]) :: (if 0 < (f.rules.length : Int) then [(134, (encRu f.rules).1)] else [])))))
def pE : List (Int × List UInt8) → List V
  | [] => []
  | p :: r => .agg [.int .i64 p.1, .bytes p.2, .sl 62 []] :: pE r
def pT : List (Int × List UInt8) → Tl
  | [] => .nil
  | p :: r => .cons p.1 p.2 .nil (pT r)
theorem pT_enc : ∀ l, (pT l).enc = pE l
  | [] => rfl
  | p :: r => by simp only [pT, pE, Tl.enc, pT_enc r]
theorem pE_append : ∀ a b, pE (a ++ b) = pE a ++ pE b
  | [], b => rfl
  | p :: a, b => by simp [pE, pE_append a b]
theorem pE_len : ∀ a, (pE a).length = a.length
  | [] => rfl
  | p :: a => by simp [pE, pE_len a]
theorem numF_zero {n : Int} {u : Bool} {most : Int} (h : numF n u most = 0) : (u = true → 1 ≤ n ∧ n ≤ most) ∧ (u = false → n = 0) := by
  unfold numF at h
  cases u with
  | true =>
    simp only [cond_true] at h
    refine ⟨fun _ => ?_, fun e => (by cases e)⟩
    split at h
    · cases h
    · split at h
      · cases h
      · omega
  | false =>
    simp only [cond_false] at h
    refine ⟨fun e => (by cases e), fun _ => ?_⟩
    split at h
    · assumption
    · cases h
theorem encF_len (l : List Ru) : (encRu l).1.length ≤ 320 := by
  unfold encRu
  split
  · rename_i h
    obtain ⟨h8, hv⟩ := chkR_zero h
    obtain ⟨_, h2, _, _⟩ := rT_wt l fun r hr => (hv r hr).2.2.2.1
    simp only; omega
  · simp
/-- What is known of a valid header. -/
structure OkF (f : Fi) : Prop where
  kind : 1 ≤ f.kind ∧ f.kind ≤ 5
  id : 1 ≤ f.id ∧ f.id ≤ 65534
  name : f.name.length ≤ 16
  short : 0 ≤ f.short ∧ f.short ≤ 30
  size : numF f.size (decide (f.kind = 2)) 1024 = 0
  length : numF f.length (recK f.kind) 254 = 0
  recs : numF f.recs (recK f.kind) 254 = 0
  state : 1 ≤ f.state ∧ f.state ≤ 3
  rules : chkR f.rules = 0
theorem chkF3_zero {f : Fi} (h : chkF3 f = 0) : szF f = 0 ∧ (1 ≤ f.state ∧ f.state ≤ 3) ∧ chkR f.rules = 0 := by
  unfold chkF3 at h
  split at h
  · rename_i c
    split at h
    · cases h
    · split at h
      · cases h
      · exact ⟨c, by omega, h⟩
  · rename_i c; exact absurd h c
theorem szF_zero {f : Fi} (h : szF f = 0) : numF f.size (decide (f.kind = 2)) 1024 = 0 ∧ numF f.length (recK f.kind) 254 = 0 ∧ numF f.recs (recK f.kind) 254 = 0 := by
  unfold szF at h
  split at h
  · rename_i c1
    split at h
    · rename_i c2
      split at h
      · rename_i c3; exact ⟨c1, c2, c3⟩
      · rename_i c3; exact absurd h c3
    · rename_i c2; exact absurd h c2
  · rename_i c1; exact absurd h c1
theorem chkF2_zero {f : Fi} (h : chkF2 f = 0) : (0 ≤ f.short ∧ f.short ≤ 30) ∧ chkF3 f = 0 := by
  unfold chkF2 at h
  split at h
  · cases h
  split at h
  · cases h
  split at h
  · exact ⟨by omega, h⟩
  split at h
  · cases h
  · exact ⟨by omega, h⟩
theorem okF_of {f : Fi} (h : chkF f = 0) : OkF f := by
  unfold chkF at h
  split at h
  · cases h
  split at h
  · cases h
  split at h
  · cases h
  split at h
  · cases h
  split at h
  · cases h
  split at h
  · cases h
  have h2 : chkF2 f = 0 := by
    split at h
    · split at h
      · exact h
      · cases h
    · exact h
  obtain ⟨h3, h4⟩ := chkF2_zero h2
  obtain ⟨h5, h6, h7⟩ := chkF3_zero h4
  obtain ⟨a, b, c⟩ := szF_zero h5
  exact ⟨by omega, by omega, by omega, h3, a, b, c, h6, h7⟩
def encFi (f : Fi) : List UInt8 × Int := if chkF f = 0 then encR (.cons 98 [] (pT (partsF f)) .nil) else ([], chkF f)
theorem pT_ok : ∀ ps : List (Int × List UInt8), (∀ p ∈ ps, I64 p.1 ∧ p.2.length ≤ 400) → (pT ps).wf ∧ (pT ps).wt ≤ 401 * ps.length ∧ (pT ps).nodes = ps.length ∧ (pT ps).len = ps.length
  | [], _ => ⟨trivial, Nat.le_refl _, rfl, rfl⟩
  | p :: r, h => by
    obtain ⟨h1, h2, h3, h4⟩ := pT_ok r fun q hq => h q (by simp [hq])
    obtain ⟨h5, h6⟩ := h p (by simp)
    refine ⟨⟨h5, by omega, by simp [Tl.len], trivial, h1⟩, ?_, ?_, ?_⟩
    · simp only [pT, Tl.wt, List.length_cons]; omega
    · simp only [pT, Tl.nodes, List.length_cons]; omega
    · simp only [pT, Tl.len, List.length_cons]; omega
theorem parts_all {f : Fi} (h : OkF f) : (∀ p ∈ partsF f, I64 p.1 ∧ p.2.length ≤ 400) ∧ (partsF f).length ≤ 7 := by
  have hr := encF_len f.rules
  have hn := h.name
  have i0 : ∀ z : Int, 0 ≤ z → z < 1000 → I64 z := fun z a b => ⟨by omega, by omega⟩
  constructor
  · intro p hp
    unfold partsF at hp
    simp only [List.mem_cons, List.mem_append] at hp
    rcases hp with rfl | rfl | hp | hp | hp | rfl | hp
    · exact ⟨i0 _ (by omega) (by omega), by simp only [kindB]; cases recK f.kind <;> simp⟩
    · exact ⟨i0 _ (by omega) (by omega), by simp [twoB]⟩
    · split at hp
      · simp at hp; subst hp; exact ⟨i0 _ (by omega) (by omega), by simp only; omega⟩
      · cases hp
    · split at hp
      · simp at hp; subst hp; exact ⟨i0 _ (by omega) (by omega), by simp [twoB]⟩
      · cases hp
    · split at hp
      · cases hp
      · simp at hp; subst hp; exact ⟨i0 _ (by omega) (by omega), by simp⟩
    · exact ⟨i0 _ (by omega) (by omega), by simp⟩
    · split at hp
      · simp at hp; subst hp; exact ⟨i0 _ (by omega) (by omega), by simp only; omega⟩
      · cases hp
  · unfold partsF
    simp only [List.length_cons, List.length_append]
    have l1 : ∀ (c : Prop) [Decidable c] (x : Int × List UInt8), (if c then [x] else []).length ≤ 1 := fun c _ x => by split <;> simp
    have l2 : (if f.short = 0 then ([] : List (Int × List UInt8)) else [(136, [byteI f.short])]).length ≤ 1 := by split <;> simp
    have a := l1 (0 < (f.name.length : Int)) (132, f.name)
    have b := l1 (f.kind = 2) (128, twoB f.size)
    have c := l1 (0 < (f.rules.length : Int)) (134, (encRu f.rules).1)
    omega
section
variable (N : Nat)
theorem fput_eq (t : Int) (b : List UInt8) (ps : List (Int × List UInt8)) (h : ps.length ≤ 100) : s_fput N t b (pE ps) = some (pE (ps ++ [(t, b)])) := by
  unfold s_fput
  rw [pE_len, if_pos (by omega), pE_append]; rfl
theorem Put_eq {n : Int} (h : 0 ≤ n ∧ n ≤ 65535) : s_Put N n 2 = some (twoB n, 0) := by
  unfold s_Put twoB byteI
  rw [if_pos rfl, if_neg (by omega)]
  rw [show n / 256 % 256 = n / 256 by omega, show n % 256 % 256 = n % 256 by omega]
theorem two_eq {n : Int} (h : 0 ≤ n ∧ n ≤ 65535) : s_htwo N n = some (twoB n) := by
  unfold s_htwo twoB
  have e1 : n.tdiv 256 = n / 256 := Int.tdiv_eq_ediv_of_nonneg h.1
  have e2 : n.tmod 256 = n % 256 := Int.tmod_eq_emod_of_nonneg h.1
  rw [e1, e2, w64 (by omega) (by omega), bI, bI]
theorem fEncode_eq (hN : 10000 < N) (f : Fi) (g : GoodR N f.rules) : s_fEncode N f.id f.kind f.name f.short f.size f.length f.recs f.state (rE f.rules) = some (encFi f) := by
  unfold s_fEncode encFi
  rw [fCheck_eq N (by omega) f g, bnd1_mk, br_not, br_dec]
  by_cases c : chkF f = 0
  case neg => rw [if_neg c, if_neg c]
  have ok := okF_of c
  have hsz : f.kind = 2 → 0 ≤ f.size ∧ f.size ≤ 65535 := fun e => by
    have := (numF_zero ok.size).1 (by simp [e])
    omega
  have kinds : s_partKinds N f.id f.kind f.name f.short f.size f.length f.recs f.state (rE f.rules) true [] = some (pE [(130, kindB f)]) := by
    unfold s_partKinds C_partKinds s_fkinds C_fkinds kindB
    rw [br_t, frecords_eq, bnd1_mk]
    cases recK f.kind with
    | true =>
      rw [br_t]
      have := fput_eq N 130 [byteI f.kind, byteI f.length, byteI f.recs] [] (by simp)
      rw [bI, bI, bI]
      have e : pE [] = [] := rfl
      rw [e] at this
      rw [this]; rfl
    | false =>
      rw [br_f]
      have := fput_eq N 130 [byteI f.kind] [] (by simp)
      rw [bI]
      have e : pE [] = [] := rfl
      rw [e] at this
      rw [this]; rfl
  have ident : ∀ ps : List (Int × List UInt8), ps.length ≤ 100 → s_partIdent N f.id f.kind f.name f.short f.size f.length f.recs f.state (rE f.rules) true (pE ps) = some (pE (ps ++ [(131, twoB f.id)])) := fun ps h => by
    unfold s_partIdent C_partIdent s_fident C_fident s_fwide C_fwide
    rw [br_t, Put_eq N (by have := ok.id; omega), bnd2_mk, fput_eq N _ _ ps h]; rfl
  have name : ∀ ps : List (Int × List UInt8), ps.length ≤ 100 → s_partName N f.id f.kind f.name f.short f.size f.length f.recs f.state (rE f.rules) (decide (0 < (f.name.length : Int))) (pE ps) = some (pE (ps ++ (if 0 < (f.name.length : Int) then [(132, f.name)] else []))) := fun ps h => by
    unfold s_partName C_partName s_fname C_fname s_clone
    rw [br_dec]
    by_cases hc : 0 < (f.name.length : Int)
    · rw [if_pos hc, if_pos hc, br_dec, if_pos (by have := ok.name; omega), bnd1_mk, fput_eq N _ _ ps h]; rfl
    · rw [if_neg hc, if_neg hc, List.append_nil]
  have size : ∀ ps : List (Int × List UInt8), ps.length ≤ 100 → s_partSize N f.id f.kind f.name f.short f.size f.length f.recs f.state (rE f.rules) (decide (f.kind = 2)) (pE ps) = some (pE (ps ++ (if f.kind = 2 then [(128, twoB f.size)] else []))) := fun ps h => by
    unfold s_partSize C_partSize s_fsize C_fsize s_fwide C_fwide
    rw [br_dec]
    by_cases hc : f.kind = 2
    · rw [if_pos hc, if_pos hc, Put_eq N (hsz hc), bnd2_mk, fput_eq N _ _ ps h]; rfl
    · rw [if_neg hc, if_neg hc, List.append_nil]
  have short : ∀ ps : List (Int × List UInt8), ps.length ≤ 100 → s_partShort N f.id f.kind f.name f.short f.size f.length f.recs f.state (rE f.rules) (!decide (f.short = 0)) (pE ps) = some (pE (ps ++ (if f.short = 0 then [] else [(136, [byteI f.short])]))) := fun ps h => by
    unfold s_partShort C_partShort s_fshort C_fshort
    rw [br_not, br_dec]
    by_cases hc : f.short = 0
    · rw [if_pos hc, if_pos hc, List.append_nil]
    · rw [if_neg hc, if_neg hc, bI, fput_eq N _ _ ps h]; rfl
  have state : ∀ ps : List (Int × List UInt8), ps.length ≤ 100 → s_partState N f.id f.kind f.name f.short f.size f.length f.recs f.state (rE f.rules) true (pE ps) = some (pE (ps ++ [(138, [byteI f.state])])) := fun ps h => by
    unfold s_partState C_partState s_fstate C_fstate
    rw [br_t, bI, fput_eq N _ _ ps h]; rfl
  have rules : ∀ ps : List (Int × List UInt8), ps.length ≤ 100 → s_partRules N f.id f.kind f.name f.short f.size f.length f.recs f.state (rE f.rules) (decide (0 < ((rE f.rules).length : Int))) (pE ps) = some (pE (ps ++ (if 0 < (f.rules.length : Int) then [(134, (encRu f.rules).1)] else []))) := fun ps h => by
    unfold s_partRules C_partRules s_frules C_frules
    rw [br_dec, rE_len]
    by_cases hc : 0 < (f.rules.length : Int)
    · rw [if_pos hc, if_pos hc, aEncode_eq N f.rules g]
      show bnd1 (bnd1 (s_fput N 134 (encRu f.rules).1 (pE ps)) _) _ = _
      rw [fput_eq N _ _ ps h]; rfl
    · rw [if_neg hc, if_neg hc, List.append_nil]
  obtain ⟨hp1, hp2⟩ := parts_all ok
  have hpl := hp2
  unfold partsF at hpl
  simp only [List.length_cons, List.length_append] at hpl
  rw [if_pos c, if_pos c, kinds, bnd1_mk, ident _ (by simp), bnd1_mk, name _ (by simp), bnd1_mk, size _ (by simp only [List.length_append, List.length_cons, List.length_nil]; omega), bnd1_mk, short _ (by simp only [List.length_append, List.length_cons, List.length_nil]; omega), bnd1_mk,
    state _ (by simp only [List.length_append, List.length_cons, List.length_nil]; omega), bnd1_mk, rules _ (by simp only [List.length_append, List.length_cons, List.length_nil]; omega), bnd1_mk]
  have e : ∀ (a b c d e g : List (Int × List UInt8)), [(130, kindB f)] ++ a ++ b ++ c ++ d ++ e ++ g = (130, kindB f) :: (a ++ (b ++ (c ++ (d ++ (e ++ g))))) := fun a b c d e g => by simp
  rw [e]
  obtain ⟨q1, q2, q3, q4⟩ := pT_ok (partsF f) hp1
  have hE := Encode_eq N (.cons 98 [] (pT (partsF f)) .nil) (by simp only [Tl.nodes]; omega) ⟨⟨by omega, by omega⟩, by simp, by omega, q1, trivial⟩ (by show 1 ≤ 9223372036854775807; omega) (by simp only [Tl.wt, List.length_nil]; omega)
  have hE' : s_Encode N [V.agg [V.int IntKind.i64 98, V.bytes [], V.sl 62 (pE (partsF f))]] = some (encR (.cons 98 [] (pT (partsF f)) .nil)) := by
    rw [← pT_enc]; exact hE
  show bnd2 (s_Encode N [V.agg [V.int IntKind.i64 98, V.bytes [], V.sl 62 (pE (partsF f))]]) _ = _
  rw [hE']; rfl
theorem hEncode_eq (hN : 10000 < N) (f : Fi) (g : GoodR N f.rules) : s_hEncode N f.id f.kind f.name f.short f.size f.length f.recs f.state (rE f.rules) = some (encFi f) := by
  unfold s_hEncode encFi
  rw [hCheck_eq N f g, bnd1_mk, br_not, br_dec]
  by_cases c : chkF f = 0
  case neg => rw [if_neg c, if_neg c]
  have ok := okF_of c
  have hid := two_eq N (n := f.id) (by have := ok.id; omega)
  have hsz : f.kind = 2 → s_htwo N f.size = some (twoB f.size) := fun e => by
    have := (numF_zero ok.size).1 (by simp [e])
    exact two_eq N (by omega)
  have hob : s_hobject N f.id f.kind f.name f.short f.size f.length f.recs f.state (rE f.rules) = some (98, [], pE (partsF f)) := by
    unfold s_hobject partsF kindB
    simp only [hrecords_eq, bnd1_mk, hid, bI, qEncode_eq N f.rules g, br_dec, br_not, rE_len]
    have e2 : ∀ {R : Type} (K : List UInt8 → Int → Option R), bnd2 (some (encRu f.rules)) K = K (encRu f.rules).1 (encRu f.rules).2 := fun K => rfl
    simp only [e2]
    by_cases h2 : f.kind = 2
    · have e3 := hsz h2
      cases recK f.kind <;> by_cases h1 : 0 < (f.name.length : Int) <;> by_cases h3 : f.short = 0 <;> by_cases h4 : 0 < (f.rules.length : Int) <;>
        simp only [h1, h2, h3, h4, br_t, br_f, if_true, if_false, cond_true, cond_false, e3, bnd1_mk] <;> rfl
    · cases recK f.kind <;> by_cases h1 : 0 < (f.name.length : Int) <;> by_cases h3 : f.short = 0 <;> by_cases h4 : 0 < (f.rules.length : Int) <;>
        simp only [h1, h2, h3, h4, br_t, br_f, if_true, if_false, cond_true, cond_false, bnd1_mk] <;> rfl
  obtain ⟨hp1, hp2⟩ := parts_all ok
  obtain ⟨q1, q2, q3, q4⟩ := pT_ok (partsF f) hp1
  have hE := rEncode_eq N (.cons 98 [] (pT (partsF f)) .nil) (by simp only [Tl.nodes]; omega) ⟨⟨by omega, by omega⟩, by simp, by omega, q1, trivial⟩ (by show 1 ≤ 9223372036854775807; omega) (by simp only [Tl.wt, List.length_nil]; omega)
  have hE' : s_rEncode N [V.agg [V.int IntKind.i64 98, V.bytes [], V.sl 62 (pE (partsF f))]] = some (encR (.cons 98 [] (pT (partsF f)) .nil)) := by
    rw [← pT_enc]; exact hE
  rw [if_pos c, if_pos c, hob]
  show bnd2 (s_rEncode N [V.agg [V.int IntKind.i64 98, V.bytes [], V.sl 62 (pE (partsF f))]]) _ = _
  rw [hE']; rfl
end
end Go.Proofs.Ytllnklkjkjmjbaa.En

/- Headers: the byte count, the states, equality, which are small; the statements without decoding. -/
namespace Go.Proofs.Ytllnklkjkjmjbaa.En
open Go
set_option linter.unusedVariables false
theorem wrapW (n : Int) : IntKind.i64.wrap (IntKind.i64.wrap n) = IntKind.i64.wrap n := by
  have h := wrap_range n
  exact w64 h.1 h.2
section
variable (N : Nat)
/-- A header that came in. -/
structure ArgF (N : Nat) (f : Fi) : Prop where
  big : 200000 < N
  rules : ∀ r ∈ f.rules, InC N r.k
  fuel : f.rules.length < N
  len : f.rules.length ≤ 9223372036854775807
  name : f.name.length ≤ 9223372036854775807
def byF (f : Fi) : Int := if chkF f = 0 then (if f.kind = 2 then f.size else IntKind.i64.wrap (f.length * f.recs)) else 0
theorem fBytes_eq (hN : 10 < N) (f : Fi) (g : GoodR N f.rules) : s_fBytes N f.id f.kind f.name f.short f.size f.length f.recs f.state (rE f.rules) = some (byF f) := by
  unfold s_fBytes byF
  rw [fCheck_eq N hN f g, bnd1_mk, br_not, br_dec]
  by_cases c : chkF f = 0
  case neg => rw [if_neg c, if_neg c]
  have ok := okF_of c
  rw [if_pos c, if_pos c]
  congr 1
  by_cases c2 : f.kind = 2
  · rw [if_pos c2]
    have hs := (numF_zero ok.size).1 (by simp [c2])
    have e : recK f.kind = false := by rw [c2]; rfl
    have h1 := (numF_zero ok.length).2 e
    rw [h1, Int.zero_mul, show IntKind.i64.wrap 0 = 0 by decide, Int.add_zero, w64 (by omega) (by omega)]
  · rw [if_neg c2]
    have h1 := (numF_zero ok.size).2 (by simp [c2])
    rw [h1, Int.zero_add]
    exact wrapW _
theorem hSame_eq (f f' : Fi) (g : GoodR N f.rules) (g' : GoodR N f'.rules) (h : f.name.length ≤ 60) (h' : f'.name.length ≤ 60) (hN : 100 < N) :
    s_hSame N f.id f.kind f.name f.short f.size f.length f.recs f.state (rE f.rules) f'.id f'.kind f'.name f'.short f'.size f'.length f'.recs f'.state (rE f'.rules) = some (decide (f = f')) := by
  have i1 : ∀ r ∈ f.rules, InC N r.k := fun r hr => ⟨(g.good r hr).wf, (g.good r hr).len, (g.good r hr).fuel⟩
  have i2 : ∀ r ∈ f'.rules, InC N r.k := fun r hr => ⟨(g'.good r hr).wf, (g'.good r hr).len, (g'.good r hr).fuel⟩
  have hl := g.len
  have hf := g.fuel
  unfold s_hSame
  rw [oSame_eq N _ _ (by omega) (by omega) (by omega), qSame_eq N _ _ (by omega) (by omega) i1 i2]
  simp only [bnd1_mk, br_dec]
  obtain ⟨a1, a2, a3, a4, a5, a6, a7, a8, a9⟩ := f
  obtain ⟨b1, b2, b3, b4, b5, b6, b7, b8, b9⟩ := f'
  simp only [Fi.mk.injEq]
  by_cases c1 : a1 = b1 <;> by_cases c2 : a2 = b2 <;> by_cases c3 : a3 = b3 <;> by_cases c4 : a4 = b4 <;> by_cases c5 : a5 = b5 <;> by_cases c6 : a6 = b6 <;> by_cases c7 : a7 = b7 <;> by_cases c8 : a8 = b8 <;> simp [c1, c2, c3, c4, c5, c6, c7, c8]
def nextF (s o : Int) : Int × Int :=
  if o = 32 then (if 1 ≤ s ∧ s ≤ 3 then (if s = 2 then (1, 0) else (0, 14)) else (0, 2))
  else if o = 64 then (if 1 ≤ s ∧ s ≤ 3 then (if s = 1 then (2, 0) else (0, 14)) else (0, 2))
  else if o = 128 then (if 1 ≤ s ∧ s ≤ 3 then (if s = 3 then (0, 14) else (3, 0)) else (0, 2))
  else (0, 1)
theorem fNext_eq (s o : Int) : s_fNext N s o = some (nextF s o) := by
  unfold s_fNext nextF
  simp only [isState_eq, bnd1_mk, br_dec, br_not, br_and]
  by_cases c1 : o = 32
  · rw [if_pos c1, if_pos c1]
    by_cases c : 1 ≤ s ∧ s ≤ 3
    · rw [if_pos c, if_pos c.1, if_pos c.2]
      by_cases d1 : s = 1
      · subst d1; rfl
      by_cases d2 : s = 3
      · subst d2; rfl
      rw [if_neg d1, if_neg d2, if_pos (by omega)]
    · rw [if_neg c]
      by_cases e : 1 ≤ s
      · rw [if_pos e, if_neg (by omega)]
      · rw [if_neg e]
  rw [if_neg c1, if_neg c1]
  by_cases c2 : o = 64
  · rw [if_pos c2, if_pos c2]
    by_cases c : 1 ≤ s ∧ s ≤ 3
    · rw [if_pos c, if_pos c.1, if_pos c.2]
      by_cases d1 : s = 2
      · subst d1; rfl
      by_cases d2 : s = 3
      · subst d2; rfl
      rw [if_neg d1, if_neg d2, if_pos (by omega)]
    · rw [if_neg c]
      by_cases e : 1 ≤ s
      · rw [if_pos e, if_neg (by omega)]
      · rw [if_neg e]
  rw [if_neg c2, if_neg c2]
  by_cases c3 : o = 128
  · rw [if_pos c3, if_pos c3]
    by_cases c : 1 ≤ s ∧ s ≤ 3
    · rw [if_pos c, if_pos c.1, if_pos c.2]
      by_cases d2 : s = 3
      · subst d2; rfl
      rw [if_neg d2, if_neg d2, if_neg d2]
    · rw [if_neg c]
      by_cases e : 1 ≤ s
      · rw [if_pos e, if_neg (by omega)]
      · rw [if_neg e]
  rw [if_neg c3, if_neg c3]
def exF : Fi := ⟨12033, 2, [], 1, 32, 0, 0, 1, []⟩
theorem awake_eq (hN : 200000 < N) : s_vawake N = some true := by
  have gx : GoodR N exF.rules := ⟨by decide, by omega, by intro r hr; cases hr⟩
  have e1 : s_fEncode N 12033 2 [] 1 32 0 0 1 [] = some ([98, 17, 130, 1, 2, 131, 2, 47, 1, 128, 2, 0, 32, 136, 1, 1, 138, 1, 1], 0) := by
    have := fEncode_eq N (by omega) exF gx
    rw [show encFi exF = ([98, 17, 130, 1, 2, 131, 2, 47, 1, 128, 2, 0, 32, 136, 1, 1, 138, 1, 1], 0) by decide +kernel] at this
    exact this
  have e2 : s_fNext N 1 64 = some (2, 0) := fNext_eq N 1 64
  have e3 : s_fBytes N 12033 2 [] 1 32 0 0 1 [] = some 32 := by
    have := fBytes_eq N (by omega) exF gx
    rw [show byF exF = 32 by decide +kernel] at this
    exact this
  unfold s_vawake
  rw [e1, bnd2_mk, e2, bnd2_mk, br_dec, if_pos rfl, oSame_eq N _ _ (by show (19 : Nat) < N; omega) (by show (19 : Nat) ≤ _; omega) (by show (19 : Nat) ≤ _; omega), bnd1_mk, decide_eq_true rfl, br_t, e3, bnd1_mk]
  rfl
theorem encR_max (l : Tl) : (encR l).1.length ≤ 4096 := by
  unfold encR
  split
  · split
    · assumption
    · exact Nat.zero_le _
  · exact Nat.zero_le _
theorem encFi_max (f : Fi) : (encFi f).1.length ≤ 4096 := by
  unfold encFi
  split
  · exact encR_max _
  · exact Nat.zero_le _
end
end Go.Proofs.Ytllnklkjkjmjbaa.En

/- The engine, part 2s: rows: arguments that came in, what a law's function leaves. -/
namespace Go.Proofs.Ytllnklkjkjmjbaa.En
open Go Go.RowKit Go.WideShapes
set_option linter.unusedVariables false
theorem own : ownKnob Try.prog.godebug = none := by kernel_rfl
theorem laidOut : laidOutB Try.prog = true := by kernel_rfl
section
variable {P : Program} {T : TypeId → Option Ty} {f : FuncId} {w : World}
def noEnv : Env := { d := 0, dom := fun _ _ => False }
theorem walk_of {ds : List D} (hp : PureRet P T f ds [.v (.bool true) .no]) {us : List Value} (hr : RepDs noEnv (immG T) w [] ds us) :
    Calls P f us.toArray w fun e w' => e = .returned (.bool true) ∧ Below w.heap.size w w' := by
  refine (hp noEnv (immG T) w us rfl hr).mono ?_
  rintro e w' ⟨us', g', rfl, h1, h2⟩
  obtain ⟨l, hr'⟩ := h1 noEnv
  match us', l with
  | [u], _ =>
  have := hr' 0 _ rfl
  simp only [List.getD_cons_zero] at this
  cases this with
  | v x a v h ha =>
  cases h
  exact ⟨rfl, ⟨h2.grows.os, h2.grows.tape, h2.grows.output, h2.grows.size, h2.grows.old⟩⟩
theorem reps_nil : RepDs noEnv (immG T) w [] [] [] := ⟨rfl, fun k y h => by simp at h⟩
theorem reps_cons {d : D} {u : Value} {ds : List D} {us : List Value} (h : RepD noEnv (immG T) w [] d u) (hs : RepDs noEnv (immG T) w [] ds us) : RepDs noEnv (immG T) w [] (d :: ds) (u :: us) :=
  ⟨by simp [hs.1], fun k y hk => by
    rcases k with _ | k
    · simp at hk; subst hk; exact h
    · simpa using hs.2 k y (by simpa using hk)⟩
theorem rep_v {x : V} {u : Value} (h : RepV (immG T) w x u) : RepD noEnv (immG T) w [] (.v x .no) u := .v _ _ _ h trivial
variable {H : Type} {enc : TypeId × Value → H} {base : Nat} {spare : Nat → Bool} {held : Bool} {r : Reach} {b0 : Nat} {t : TypeId} {v : Value} {d : DataW H} {ps : List MemPlace} {l : List TypeId}
theorem row_of (hT : TypesOK P T) {desc : TypeDesc} (ht : P.underlying t = some desc) {ty : Ty} (h : T t = some ty) : ty.desc = desc := by
  have := (hT t ty h).desc
  rw [ht] at this
  injection this with this
  exact this.symm
theorem cells_self {x : V} (h : x = mkEl false (V.cells x)) : V.cells x = [x] := by
  cases x with
  | agg cs =>
    exfalso
    simp only [V.cells, mkEl] at h
    cases cs with
    | nil => simp at h
    | cons c r =>
      have h' : V.agg (c :: r) = c := h
      have : _root_.SizeOf.sizeOf (V.agg (c :: r)) = _root_.SizeOf.sizeOf c := by rw [h']
      simp at this
      omega
  | _ => rfl
theorem fits_self (hT : TypesOK P T) {desc : TypeDesc} (ht : P.underlying t = some desc) (hnr : ∀ ty : Ty, ty.desc = desc → ty.row = false) {n : Nat} {x : V} (h1 : Fits T n t (V.cells x)) (h3 : ∀ ty, T t = some ty → x = mkEl ty.row (V.cells x)) : Fits T n t [x] := by
  cases hTt : T t with
  | none => cases n <;> simp [Fits, hTt] at h1
  | some ty =>
    have := h3 ty hTt
    rw [hnr ty (row_of hT ht hTt)] at this
    rw [← cells_self this]; exact h1
theorem arg_slice (hT : TypesOK P T) (hl : closedT T l = true) (hm : t ∈ l) {e : TypeId} (ht : P.underlying t = some (.slice e)) (hv : Value.okWide P w r b0 t v) (hd : DataW.Trod enc P w base spare held t v d ps) :
    ∃ n x, Fits T n t [x] ∧ RepV (immG T) w x v := by
  obtain ⟨A, n, c, rfl⟩ := okWide_slice ht hv
  obtain ⟨n, x, h1, h2, h3⟩ := arg_rep hT hl hm (fun ty hty => ⟨fun hr => (by rw [Ty.row, row_of hT ht hty] at hr; cases hr), fun _ => rfl⟩) hd
  exact ⟨n, x, fits_self hT ht (fun ty e => by rw [Ty.row, e]) h1 h3, h2⟩
theorem fits_bytes {e e' : TypeId} {ty : Ty} (h : T t = some ty) (hd : ty.desc = .slice e) (hc : ty.cks = [.bytes e']) {n : Nat} {xs : List V} (hf : Fits T n t xs) : ∃ s, xs = [.bytes s] ∧ s.length ≤ maxLen := by
  cases n with
  | zero => cases hf
  | succ n => unfold Fits at hf; rw [h] at hf; simp only [hd, hc] at hf; exact hf
end
end Go.Proofs.Ytllnklkjkjmjbaa.En

/- What the arguments of chapter 15 read as. -/
namespace Go.Proofs.Ytllnklkjkjmjbaa.En
open Go Go.RowKit
set_option linter.unusedVariables false
/-- A condition that came in. -/
structure ArgC (o m : Int) (k : Cl) : Prop where
  o : I64 o
  m : I64 m
  wf : k.wf
  len : K63 k
/-- Rules that came in. -/
structure ArgR (l : List Ru) : Prop where
  all : ∀ r ∈ l, ArgC r.o r.m r.k ∧ I64 r.ops
  len : l.length ≤ 9223372036854775807
theorem T_bytes : T 22 = some ty22 := by kernel_rfl
theorem max63 {n : Nat} (h : n ≤ maxLen) : n ≤ 9223372036854775807 := by unfold maxLen at h; omega
theorem bytes_arg {n : Nat} {x : V} (h : Fits T n 22 [x]) : ∃ b : List UInt8, x = .bytes b ∧ b.length ≤ 9223372036854775807 := by
  obtain ⟨b, e, h1⟩ := fits_bytes T_bytes rfl rfl h
  injection e with e _
  exact ⟨b, e, max63 h1⟩
/-- A header that came in. -/
structure ArgH (f : Fi) : Prop where
  rules : ArgR f.rules
  name : f.name.length ≤ 9223372036854775807
def Fi.cells (f : Fi) : List V := [.int .i64 f.id, .int .i64 f.kind, .bytes f.name, .int .i64 f.short, .int .i64 f.size, .int .i64 f.length, .int .i64 f.recs, .int .i64 f.state, .sl 48 (rE f.rules)]
/-- The types that the arguments lead to. -/
def argTys : List TypeId := [44, 46, 48, 23, 25, 3, 22, 5]
theorem argTys_ok : closedT T argTys = true := by kernel_rfl
end Go.Proofs.Ytllnklkjkjmjbaa.En

/- Headers: their encoding tells them apart. -/
namespace Go.Proofs.Ytllnklkjkjmjbaa.En
open Go
set_option linter.unusedVariables false
section
variable (N : Nat)
end
end Go.Proofs.Ytllnklkjkjmjbaa.En

/- Headers out of objects: which lists of objects are arranged; plain. -/
namespace Go.Proofs.Ytllnklkjkjmjbaa.En
open Go
set_option linter.unusedVariables false
def fitV (t : Int) (n : Nat) : Bool := if t = 130 then (decide (n = 1) || decide (n = 3)) else if t = 131 ∨ t = 128 then decide (n = 2) else if t = 136 ∨ t = 138 then decide (n = 1) else true
def tabF : List (Int × Bool) := [(130, true), (131, true), (132, false), (128, false), (136, false), (138, true), (134, false)]
def arrT : List (Int × Bool) → Tl → Bool
  | [], l => decide (l.len = 0)
  | (g, a) :: ts, .nil => !a && arrT ts .nil
  | (g, a) :: ts, .cons t v k r => if t = g then fitV t v.length && arrT ts r else !a && arrT ts (.cons t v k r)
def ordT (t : Int) : Int := if t = 130 then 0 else if t = 131 then 1 else if t = 132 then 2 else if t = 128 then 3 else if t = 136 then 4 else if t = 138 then 5 else if t = 134 then 6 else -1
def alw (t : Int) : Int := if t = 130 ∨ t = 131 ∨ t = 138 then 1 else 0
def formT : Int → Int → Tl → Bool
  | last, seen, .nil => decide (seen = 3)
  | last, seen, .cons t v k r => if ordT t ≤ last then false else fitV t v.length && formT (ordT t) (seen + alw t) r
def cntT (p : Int) : Int := if p ≤ 0 then 3 else if p ≤ 1 then 2 else if p ≤ 5 then 1 else 0
theorem cnt_step {t p : Int} (hp : -1 ≤ p) (h : ¬ ordT t ≤ p) : alw t + cntT (ordT t + 1) ≤ cntT (p + 1) := by
  unfold ordT alw cntT at *
  by_cases h0 : t = 130
  · subst h0; simp at h ⊢; omega
  by_cases h1 : t = 131
  · subst h1; simp at h ⊢; split <;> (try split) <;> (try split) <;> omega
  by_cases h2 : t = 132
  · subst h2; simp at h ⊢; split <;> (try split) <;> (try split) <;> omega
  by_cases h3 : t = 128
  · subst h3; simp at h ⊢; split <;> (try split) <;> (try split) <;> omega
  by_cases h4 : t = 136
  · subst h4; simp at h ⊢; split <;> (try split) <;> (try split) <;> omega
  by_cases h5 : t = 138
  · subst h5; simp at h ⊢; split <;> (try split) <;> (try split) <;> omega
  by_cases h6 : t = 134
  · subst h6; simp at h ⊢; split <;> (try split) <;> (try split) <;> omega
  simp only [h0, h1, h2, h3, h4, h5, h6, if_false] at h
  omega
theorem form_few : ∀ (l : Tl) (p s : Int), -1 ≤ p → s + cntT (p + 1) < 3 → formT p s l = false
  | .nil, p, s, hp, h => by
    unfold formT
    have : 0 ≤ cntT (p + 1) := by unfold cntT; split <;> (try split) <;> (try split) <;> omega
    exact decide_eq_false (by omega)
  | .cons t v k r, p, s, hp, h => by
    unfold formT
    split
    · rfl
    · rename_i hq
      have := cnt_step hp hq
      rw [form_few r (ordT t) (s + alw t) (by unfold ordT; split <;> (try split) <;> (try split) <;> (try split) <;> (try split) <;> (try split) <;> (try split) <;> omega) (by omega), Bool.and_false]
theorem form_arr : ∀ (l : Tl) (p : Nat), p ≤ 7 → formT ((p : Int) - 1) (3 - cntT (p : Int)) l = arrT (tabF.drop p) l
  | .nil, p, hp => by
    rcases (by omega : p = 0 ∨ p = 1 ∨ p = 2 ∨ p = 3 ∨ p = 4 ∨ p = 5 ∨ p = 6 ∨ p = 7) with rfl | rfl | rfl | rfl | rfl | rfl | rfl | rfl <;> rfl
  | .cons t v k r, p, hp => by
    have ih := form_arr r
    have i1 : formT 0 1 r = arrT (tabF.drop 1) r := ih 1 (by omega)
    have i2 : formT 1 2 r = arrT (tabF.drop 2) r := ih 2 (by omega)
    have i3 : formT 2 2 r = arrT (tabF.drop 3) r := ih 3 (by omega)
    have i4 : formT 3 2 r = arrT (tabF.drop 4) r := ih 4 (by omega)
    have i5 : formT 4 2 r = arrT (tabF.drop 5) r := ih 5 (by omega)
    have i6 : formT 5 3 r = arrT (tabF.drop 6) r := ih 6 (by omega)
    have i7 : formT 6 3 r = arrT (tabF.drop 7) r := ih 7 (by omega)
    have few : ∀ (p s : Int), -1 ≤ p → s + cntT (p + 1) < 3 → formT p s r = false := form_few r
    simp only [tabF, List.drop] at i1 i2 i3 i4 i5 i6 i7
    by_cases h0 : t = 130
    · subst h0
      rcases (by omega : p = 0 ∨ p = 1 ∨ p = 2 ∨ p = 3 ∨ p = 4 ∨ p = 5 ∨ p = 6 ∨ p = 7) with rfl | rfl | rfl | rfl | rfl | rfl | rfl | rfl <;> simp [formT, arrT, tabF, ordT, alw, cntT, i1, Tl.len]
    by_cases h1 : t = 131
    · subst h1
      have f0 := few 1 1 (by omega) (by decide)
      rcases (by omega : p = 0 ∨ p = 1 ∨ p = 2 ∨ p = 3 ∨ p = 4 ∨ p = 5 ∨ p = 6 ∨ p = 7) with rfl | rfl | rfl | rfl | rfl | rfl | rfl | rfl <;> simp [formT, arrT, tabF, ordT, alw, cntT, i2, f0, Tl.len]
    by_cases h2 : t = 132
    · subst h2
      have f0 := few 2 0 (by omega) (by decide)
      have f1 := few 2 1 (by omega) (by decide)
      rcases (by omega : p = 0 ∨ p = 1 ∨ p = 2 ∨ p = 3 ∨ p = 4 ∨ p = 5 ∨ p = 6 ∨ p = 7) with rfl | rfl | rfl | rfl | rfl | rfl | rfl | rfl <;> simp [formT, arrT, tabF, ordT, alw, cntT, i3, f0, f1, Tl.len]
    by_cases h3 : t = 128
    · subst h3
      have f0 := few 3 0 (by omega) (by decide)
      have f1 := few 3 1 (by omega) (by decide)
      rcases (by omega : p = 0 ∨ p = 1 ∨ p = 2 ∨ p = 3 ∨ p = 4 ∨ p = 5 ∨ p = 6 ∨ p = 7) with rfl | rfl | rfl | rfl | rfl | rfl | rfl | rfl <;> simp [formT, arrT, tabF, ordT, alw, cntT, i4, f0, f1, Tl.len]
    by_cases h4 : t = 136
    · subst h4
      have f0 := few 4 0 (by omega) (by decide)
      have f1 := few 4 1 (by omega) (by decide)
      rcases (by omega : p = 0 ∨ p = 1 ∨ p = 2 ∨ p = 3 ∨ p = 4 ∨ p = 5 ∨ p = 6 ∨ p = 7) with rfl | rfl | rfl | rfl | rfl | rfl | rfl | rfl <;> simp [formT, arrT, tabF, ordT, alw, cntT, i5, f0, f1, Tl.len]
    by_cases h5 : t = 138
    · subst h5
      have f0 := few 5 1 (by omega) (by decide)
      have f1 := few 5 2 (by omega) (by decide)
      rcases (by omega : p = 0 ∨ p = 1 ∨ p = 2 ∨ p = 3 ∨ p = 4 ∨ p = 5 ∨ p = 6 ∨ p = 7) with rfl | rfl | rfl | rfl | rfl | rfl | rfl | rfl <;> simp [formT, arrT, tabF, ordT, alw, cntT, i6, f0, f1, Tl.len]
    by_cases h6 : t = 134
    · subst h6
      have f0 := few 6 0 (by omega) (by decide)
      have f1 := few 6 1 (by omega) (by decide)
      have f2 := few 6 2 (by omega) (by decide)
      rcases (by omega : p = 0 ∨ p = 1 ∨ p = 2 ∨ p = 3 ∨ p = 4 ∨ p = 5 ∨ p = 6 ∨ p = 7) with rfl | rfl | rfl | rfl | rfl | rfl | rfl | rfl <;> simp [formT, arrT, tabF, ordT, alw, cntT, i7, f0, f1, f2, Tl.len]
    rcases (by omega : p = 0 ∨ p = 1 ∨ p = 2 ∨ p = 3 ∨ p = 4 ∨ p = 5 ∨ p = 6 ∨ p = 7) with rfl | rfl | rfl | rfl | rfl | rfl | rfl | rfl <;> simp [formT, arrT, tabF, ordT, h0, h1, h2, h3, h4, h5, h6, Tl.len]
theorem form_eq (l : Tl) : formT (-1) 0 l = arrT tabF l := form_arr l 0 (by omega)
end Go.Proofs.Ytllnklkjkjmjbaa.En

/- Headers out of objects: what is decoded; what was encoded comes back; plain. -/
namespace Go.Proofs.Ytllnklkjkjmjbaa.En
open Go
set_option linter.unusedVariables false
def zF : Fi := ⟨0, 0, [], 0, 0, 0, 0, 0, []⟩
/-- A number in one or two bytes. -/
def getB : List UInt8 → Int
  | [] => 0
  | [a] => a.toNat
  | a :: b :: _ => 256 * (a.toNat : Int) + b.toNat
def updF (t : Int) (v : List UInt8) (f : Fi) : Fi :=
  if t = 130 then (match v with | a :: b :: c :: _ => { f with kind := a.toNat, length := b.toNat, recs := c.toNat } | a :: _ => { f with kind := a.toNat } | [] => f)
  else if t = 131 then { f with id := getB v } else if t = 132 then { f with name := v } else if t = 128 then { f with size := getB v } else if t = 136 then { f with short := getB v } else if t = 138 then { f with state := getB v } else f
def hdT : Tl → Fi → Fi × Int
  | .nil, f => (f, 0)
  | .cons t v k r, f => if t = 134 then (if (decRu v).2 = 0 then hdT r { f with rules := (decRu v).1 } else (zF, (decRu v).2)) else hdT r (updF t v f)
def endF (b : List UInt8) (f : Fi) : Fi × Int := if (encFi f).2 = 0 then (if b = (encFi f).1 then (f, 0) else (zF, 4)) else (zF, (encFi f).2)
def objF (b : List UInt8) (t : Int) (k : Tl) : Fi × Int := if t = 98 then (if arrT tabF k = true then (if (hdT k zF).2 = 0 then endF b (hdT k zF).1 else (zF, (hdT k zF).2)) else (zF, 4)) else (zF, 4)
def decFi (b : List UInt8) : Fi × Int :=
  match decT b with
  | .error e => (zF, e)
  | .ok l => match l with
    | .cons t v k .nil => objF b t k
    | _ => (zF, 4)
/-! A valid header's objects -/
/-! A valid header can be encoded -/
theorem okL_pT : ∀ ps : List (Int × List UInt8), (∀ p ∈ ps, p.1 = 130 ∨ p.1 = 131 ∨ p.1 = 132 ∨ p.1 = 128 ∨ p.1 = 136 ∨ p.1 = 138 ∨ p.1 = 134) → okL 2 (pT ps) = true
  | [], _ => rfl
  | p :: r, h => by
    have ih := okL_pT r fun q hq => h q (by simp [hq])
    unfold pT okL
    have h1 := h p (by simp)
    have e1 : tagV p.1 = true ∧ tagC p.1 = false := by
      rcases h1 with h | h | h | h | h | h | h <;> rw [h] <;> exact ⟨by decide, by decide⟩
    rw [e1.1, e1.2, ih]; rfl
theorem len_encL_pT : ∀ ps : List (Int × List UInt8), (∀ p ∈ ps, (p.1 = 130 ∨ p.1 = 131 ∨ p.1 = 132 ∨ p.1 = 128 ∨ p.1 = 136 ∨ p.1 = 138 ∨ p.1 = 134) ∧ p.2.length ≤ 400) → (encL (pT ps)).length ≤ 405 * ps.length
  | [], _ => Nat.le_refl _
  | p :: r, h => by
    have ih := len_encL_pT r fun q hq => h q (by simp [hq])
    obtain ⟨h1, h2⟩ := h p (by simp)
    have e1 : tagC p.1 = false := by rcases h1 with h | h | h | h | h | h | h <;> rw [h] <;> decide
    have e2 : (tagB p.1).length ≤ 2 := by unfold tagB; split <;> simp
    have e3 : (lenB (p.2.length : Int)).length ≤ 3 := by unfold lenB; split <;> (try split) <;> simp
    unfold pT
    rw [encL_cons, e1]
    simp only [cond_false, List.length_append, List.length_cons]
    omega
theorem encFi_err (f : Fi) : (encFi f).2 = chkF f := by
  unfold encFi
  by_cases c : chkF f = 0
  case neg => rw [if_neg c]
  rw [if_pos c, c]
  have ok := okF_of c
  obtain ⟨hp, hn⟩ := parts_all ok
  have ht : ∀ p ∈ partsF f, p.1 = 130 ∨ p.1 = 131 ∨ p.1 = 132 ∨ p.1 = 128 ∨ p.1 = 136 ∨ p.1 = 138 ∨ p.1 = 134 := by
    intro p hp
    unfold partsF at hp
    simp only [List.mem_cons, List.mem_append] at hp
    rcases hp with rfl | rfl | hp | hp | hp | rfl | hp
    · simp
    · simp
    · split at hp
      · simp at hp; subst hp; simp
      · cases hp
    · split at hp
      · simp at hp; subst hp; simp
      · cases hp
    · split at hp
      · cases hp
      · simp at hp; subst hp; simp
    · simp
    · split at hp
      · simp at hp; subst hp; simp
      · cases hp
  have h1 := okL_pT _ ht
  have h2 := len_encL_pT _ fun p hq => ⟨ht p hq, (hp p hq).2⟩
  have e98 : tagV 98 = true ∧ tagC 98 = true := ⟨by decide, by decide⟩
  have hok : okL 1 (.cons 98 [] (pT (partsF f)) .nil) = true := by
    unfold okL
    rw [e98.1, e98.2, cond_true, show (1 : Int) + 1 = 2 by decide, h1]; rfl
  have e2 : (tagB 98).length ≤ 2 := by decide
  have e3 : (lenB ((encL (pT (partsF f))).length : Int)).length ≤ 3 := by unfold lenB; split <;> (try split) <;> simp
  have hlen : (encL (.cons 98 [] (pT (partsF f)) .nil)).length ≤ 4096 := by
    rw [encL_cons, e98.2]
    simp only [cond_true, List.length_append]
    have : (encL Tl.nil).length = 0 := rfl
    omega
  unfold encR
  rw [if_pos hok, if_pos hlen]
end Go.Proofs.Ytllnklkjkjmjbaa.En

/- Headers out of objects: the program and the reference. -/
namespace Go.Proofs.Ytllnklkjkjmjbaa.En
open Go
set_option linter.unusedVariables false
/-- All values have the lengths that their tags require. -/
def fitL : Tl → Prop
  | .nil => True
  | .cons t v k r => fitV t v.length = true ∧ v.length ≤ 1000 ∧ fitL r
theorem arrT_nil (g : Int) (a : Bool) (ts : List (Int × Bool)) : arrT ((g, a) :: ts) .nil = (!a && arrT ts .nil) := rfl
theorem arrT_cons (g : Int) (a : Bool) (ts : List (Int × Bool)) (t : Int) (v : List UInt8) (k r : Tl) : arrT ((g, a) :: ts) (.cons t v k r) = if t = g then fitV t v.length && arrT ts r else !a && arrT ts (.cons t v k r) := rfl
abbrev te (t : Int) (v : List UInt8) (k : Tl) : V := .agg [.int .i64 t, .bytes v, .sl 62 k.enc]
theorem tenc (t : Int) (v : List UInt8) (k r : Tl) : (Tl.cons t v k r).enc = te t v k :: r.enc := rfl
theorem at_head {R α : Type} (x : α) (l : List α) (K : α → Option R) : at? (x :: l) 0 K = K x := rfl
section
variable (N : Nat)
theorem flengthFits_eq (t : Int) (v : List UInt8) (k : List V) : s_flengthFits N t v k = some (fitV t v.length) := by
  have e1 : decide ((v.length : Int) = 1) = decide (v.length = 1) := decide_eq_decide.2 (by omega)
  have e2 : decide ((v.length : Int) = 2) = decide (v.length = 2) := decide_eq_decide.2 (by omega)
  have e3 : decide ((v.length : Int) = 3) = decide (v.length = 3) := decide_eq_decide.2 (by omega)
  unfold s_flengthFits fitV
  rw [e1, e2, e3]
  simp only [br_dec]
  by_cases h0 : t = 130
  · rw [if_pos h0, if_pos h0]
    by_cases c : v.length = 1 <;> simp [c, br]
  by_cases h1 : t = 131
  · simp [h1]
  by_cases h3 : t = 128
  · simp [h3]
  by_cases h4 : t = 136
  · simp [h4]
  by_cases h5 : t = 138
  · simp [h5]
  · simp [h0, h1, h3, h4, h5]
abbrev TG : List V := [V.int IntKind.i64 130, V.int IntKind.i64 131, V.int IntKind.i64 132, V.int IntKind.i64 128, V.int IntKind.i64 136, V.int IntKind.i64 138, V.int IntKind.i64 134]
abbrev AL : List V := [V.bool true, V.bool true, V.bool false, V.bool false, V.bool false, V.bool true, V.bool false]
theorem arr_step {i : Nat} {g : Int} {a : Bool} (hi : i < 7) (h1 : ∀ {R : Type} (K : V → Option R), at? TG ((i : Int)).toNat K = K (.int .i64 g)) (h2 : ∀ {R : Type} (K : V → Option R), at? AL ((i : Int)).toNat K = K (.bool a)) (hd : tabF.drop i = (g, a) :: tabF.drop (i + 1)) (t : Nat)
    (ih : ∀ l : Tl, l.len ≤ 100000 → S_farranged_3 N AL TG 7 t l.enc ((i + 1 : Nat) : Int) (fun l2 b3 => some b3) (fun l4 => some (decide ((l4.length : Int) = 0))) = some (arrT (tabF.drop (i + 1)) l)) (l : Tl) (hl : l.len ≤ 100000) :
    S_farranged_3 N AL TG 7 (t + 1) l.enc (i : Int) (fun l2 b3 => some b3) (fun l4 => some (decide ((l4.length : Int) = 0))) = some (arrT (tabF.drop i) l) := by
  have e1 : ((TG.length : Nat) : Int) = 7 := rfl
  have e2 : ((AL.length : Nat) : Int) = 7 := rfl
  have e3 : IntKind.i64.wrap ((i : Int) + 1) = ((i + 1 : Nat) : Int) := by rw [w64 (by omega) (by omega)]; omega
  have c1 : (i : Int) < 7 := by omega
  have c2 : (0 : Int) ≤ (i : Int) := by omega
  unfold S_farranged_3 F_farranged_3
  rw [hd]
  simp only [br_dec, br_and, e1, e2, c1, c2, if_true, h1, h2, unInt_mk, unBool_mk, e3]
  cases l with
  | nil =>
    have ihn := ih .nil (by simp [Tl.len])
    have c0 : ¬ (0 : Int) < ((Tl.nil.enc).length : Int) := by simp [Tl.enc]
    rw [if_neg c0, ihn, arrT_nil]
    cases a <;> rfl
  | cons tg v k r =>
    have c3 : (0 : Int) < ((Tl.cons tg v k r).enc.length : Int) := by rw [tenc]; simp only [List.length_cons]; omega
    have c4 : (1 : Int) ≤ ((Tl.cons tg v k r).enc.length : Int) := by omega
    have ihc := ih (.cons tg v k r) hl
    simp only [Tl.len] at hl
    have ihr := ih r (by omega)
    simp only [c3, c4, if_true]
    rw [tenc] at ihc ⊢
    simp only [at_head, unAgg_mk, unCons_mk, unInt_mk, unBytes_mk, unSl_mk, unNil_mk, List.drop_succ_cons, List.drop_zero, flengthFits_eq, bnd1_mk, ihr, ihc]
    rw [arrT_cons]
    by_cases hg : tg = g
    · rw [if_pos hg, if_pos hg, br_not]
      cases fitV tg v.length <;> rfl
    · rw [if_neg hg, if_neg hg]
      cases a <;> rfl
theorem farranged_eq (hN : 100 < N) (l : Tl) (hl : l.len ≤ 100000) : s_farranged N l.enc = some (arrT tabF l) := by
  obtain ⟨t, rfl⟩ : ∃ t, N = t + 8 := ⟨N - 8, by omega⟩
  have i7 : ∀ l : Tl, l.len ≤ 100000 → S_farranged_3 (t + 8) AL TG 7 (t + 1) l.enc ((7 : Nat) : Int) (fun l2 b3 => some b3) (fun l4 => some (decide ((l4.length : Int) = 0))) = some (arrT (tabF.drop 7) l) := by
    intro l hl
    unfold S_farranged_3 F_farranged_3
    rw [br_dec, if_neg (by omega)]
    show some (decide ((l.enc.length : Int) = 0)) = some (decide (l.len = 0))
    rw [Tl.enc_len]
    congr 1
    exact decide_eq_decide.2 (by omega)
  have i6 := arr_step (t + 8) (i := 6) (g := 134) (a := false) (by omega) (fun K => rfl) (fun K => rfl) rfl (t + 1) i7
  have i5 := arr_step (t + 8) (i := 5) (g := 138) (a := true) (by omega) (fun K => rfl) (fun K => rfl) rfl (t + 2) i6
  have i4 := arr_step (t + 8) (i := 4) (g := 136) (a := false) (by omega) (fun K => rfl) (fun K => rfl) rfl (t + 3) i5
  have i3 := arr_step (t + 8) (i := 3) (g := 128) (a := false) (by omega) (fun K => rfl) (fun K => rfl) rfl (t + 4) i4
  have i2 := arr_step (t + 8) (i := 2) (g := 132) (a := false) (by omega) (fun K => rfl) (fun K => rfl) rfl (t + 5) i3
  have i1 := arr_step (t + 8) (i := 1) (g := 131) (a := true) (by omega) (fun K => rfl) (fun K => rfl) rfl (t + 6) i2
  have i0 := arr_step (t + 8) (i := 0) (g := 130) (a := true) (by omega) (fun K => rfl) (fun K => rfl) rfl (t + 7) i1
  have := i0 l hl
  unfold s_farranged s_forder
  exact this
theorem ord_step {i : Nat} {g : Int} (hi : i < 7) (h1 : ∀ {R : Type} (K : V → Option R), at? TG ((i : Int)).toNat K = K (.int .i64 g)) (tg : Int) (t : Nat) (r : Int)
    (ih : g ≠ tg → S_horder_3 N tg TG t ((i + 1 : Nat) : Int) (fun n0 => some n0) (some (-1)) = some r) : S_horder_3 N tg TG (t + 1) (i : Int) (fun n0 => some n0) (some (-1)) = some (if g = tg then (i : Int) else r) := by
  have e1 : ((TG.length : Nat) : Int) = 7 := rfl
  have e3 : IntKind.i64.wrap ((i : Int) + 1) = ((i + 1 : Nat) : Int) := by rw [w64 (by omega) (by omega)]; omega
  have c1 : (i : Int) < 7 := by omega
  have c2 : (0 : Int) ≤ (i : Int) := by omega
  unfold S_horder_3 F_horder_3
  simp only [br_dec, br_and, e1, c1, c2, if_true, h1, unInt_mk, e3]
  by_cases h : g = tg
  · rw [if_pos h, if_pos h]
  · rw [if_neg h, if_neg h, ih h]
theorem horder_eq (hN : 100 < N) (tg : Int) : s_horder N tg = some (ordT tg) := by
  obtain ⟨t, rfl⟩ : ∃ t, N = t + 8 := ⟨N - 8, by omega⟩
  have i7 : S_horder_3 (t + 8) tg TG (t + 1) ((7 : Nat) : Int) (fun n0 => some n0) (some (-1)) = some (-1) := by
    unfold S_horder_3 F_horder_3
    rw [br_dec, if_neg (by show ¬ (7 : Int) < 7; omega)]
  have i6 := ord_step (t + 8) (i := 6) (g := 134) (by omega) (fun K => rfl) tg (t + 1) _ (fun _ => i7)
  have i5 := ord_step (t + 8) (i := 5) (g := 138) (by omega) (fun K => rfl) tg (t + 2) _ (fun _ => i6)
  have i4 := ord_step (t + 8) (i := 4) (g := 136) (by omega) (fun K => rfl) tg (t + 3) _ (fun _ => i5)
  have i3 := ord_step (t + 8) (i := 3) (g := 128) (by omega) (fun K => rfl) tg (t + 4) _ (fun _ => i4)
  have i2 := ord_step (t + 8) (i := 2) (g := 132) (by omega) (fun K => rfl) tg (t + 5) _ (fun _ => i3)
  have i1 := ord_step (t + 8) (i := 1) (g := 131) (by omega) (fun K => rfl) tg (t + 6) _ (fun _ => i2)
  have i0 := ord_step (t + 8) (i := 0) (g := 130) (by omega) (fun K => rfl) tg (t + 7) _ (fun _ => i1)
  unfold s_horder
  refine Eq.trans i0 (congrArg some ?_)
  unfold ordT
  by_cases h0 : tg = 130
  · subst h0; rfl
  by_cases h1 : tg = 131
  · subst h1; rfl
  by_cases h2 : tg = 132
  · subst h2; rfl
  by_cases h3 : tg = 128
  · subst h3; rfl
  by_cases h4 : tg = 136
  · subst h4; rfl
  by_cases h5 : tg = 138
  · subst h5; rfl
  by_cases h6 : tg = 134
  · subst h6; rfl
  simp only [h0, h1, h2, h3, h4, h5, h6, Ne.symm h0, Ne.symm h1, Ne.symm h2, Ne.symm h3, Ne.symm h4, Ne.symm h5, Ne.symm h6, if_false]
theorem hform_loop (hN : 100 < N) : ∀ (l : Tl) (pre : List V) (t : Nat) (last seen : Int), l.len < t → pre.length + l.len ≤ 100000 → -1 ≤ last → 0 ≤ seen → seen ≤ pre.length →
      S_hform_4 N (pre ++ l.enc) t last seen (pre.length : Int) (fun b0 n1 => some b0) (fun n2 => some (decide (n2 = 3))) = some (formT last seen l)
  | l, pre, 0, last, seen, ht, _, _, _, _ => by omega
  | .nil, pre, t + 1, last, seen, ht, hl, h1, h2, h3 => by
    unfold S_hform_4 F_hform_4
    simp only [Tl.enc, br_t, br_f, br_dec, br_not, br_and, br_or, bnd1_mk, bnd2_mk, bnd3_mk, bnd4_mk, bnd5_mk, bnd10_mk, at_zero, at_succ, at_mid, unInt_mk, unBool_mk, unStr_mk, unBytes_mk, unSl_mk, unAgg_mk, unCons_mk, unNil_mk, endI, if_false]
    rfl
  | .cons tg v k r, pre, t + 1, last, seen, ht, hl, g1, g2, g3 => by
    simp only [Tl.len] at ht hl
    obtain ⟨h1, h2, h3, h4⟩ := stepI pre (te tg v k) r.enc (by rw [Tl.enc_len]; omega)
    have ih := fun last seen a b c => hform_loop hN r (pre ++ [te tg v k]) t last seen (by omega) (by simp; omega) a b c
    rw [← mid, ← h3] at ih
    have e1 : (¬ (v.length : Int) = 1) ↔ ¬ v.length = 1 := by omega
    have e2 : (¬ (v.length : Int) = 2) ↔ ¬ v.length = 2 := by omega
    have e3 : (¬ (v.length : Int) = 3) ↔ ¬ v.length = 3 := by omega
    have d1 : ((v.length : Int) = 1) ↔ v.length = 1 := by omega
    have d2 : ((v.length : Int) = 2) ↔ v.length = 2 := by omega
    have d3 : ((v.length : Int) = 3) ↔ v.length = 3 := by omega
    have ws : IntKind.i64.wrap (seen + 1) = seen + 1 := w64 (by omega) (by omega)
    unfold S_hform_4 F_hform_4
    simp only [tenc, br_t, br_f, br_dec, br_not, br_and, br_or, bnd1_mk, bnd2_mk, bnd3_mk, bnd4_mk, bnd5_mk, bnd10_mk, at_zero, at_succ, at_mid, unInt_mk, unBool_mk, unStr_mk, unBytes_mk, unSl_mk, unAgg_mk, unCons_mk, unNil_mk, h1, h2, if_true, Int.toNat_natCast, horder_eq N hN, ws]
    rw [show formT last seen (.cons tg v k r) = if ordT tg ≤ last then false else fitV tg v.length && formT (ordT tg) (seen + alw tg) r from rfl]
    by_cases c : ordT tg ≤ last
    · rw [if_pos c, if_pos c]
    rw [if_neg c, if_neg c]
    have ih1 := ih (ordT tg) (seen + 1) (by omega) (by omega) (by rw [h3]; simp; omega)
    have ih0 := ih (ordT tg) seen (by omega) (by omega) (by rw [h3]; simp; omega)
    simp only [ih1, ih0, d1, d2, d3]
    unfold fitV alw
    by_cases k0 : tg = 130
    · subst k0
      by_cases a : v.length = 1 <;> by_cases b : v.length = 3 <;> simp [a, b]
    by_cases k1 : tg = 131
    · subst k1
      by_cases a : v.length = 2 <;> simp [a]
    by_cases k3 : tg = 128
    · subst k3
      by_cases a : v.length = 2 <;> simp [a]
    by_cases k4 : tg = 136
    · subst k4
      by_cases a : v.length = 1 <;> simp [a]
    by_cases k5 : tg = 138
    · subst k5
      by_cases a : v.length = 1 <;> simp [a]
    simp [k0, k1, k3, k4, k5]
theorem hform_eq (l : Tl) (hl : l.len < N) (hl2 : l.len ≤ 100000) (hN : 100 < N) : s_hform N l.enc = some (arrT tabF l) := by
  have := hform_loop N hN l [] N (-1) 0 hl (by simpa using hl2) (by omega) (by omega) (by simp)
  unfold s_hform
  rw [← form_eq]
  exact this
theorem Get_two (hN : 100 < N) (v : List UInt8) (h : v.length = 1 ∨ v.length = 2) : s_fget N v = some (getB v) := by
  obtain ⟨t, rfl⟩ : ∃ t, N = t + 3 := ⟨N - 3, by omega⟩
  unfold s_fget s_Get
  match v, h with
  | [a], _ =>
    have ha := u8_lt a
    have e0 : (([a] : List UInt8).length : Int) = 1 := rfl
    have e1 : IntKind.i64.wrap ((0 : Int) + 1) = 1 := by decide
    have a0 : ∀ {R : Type} (K : UInt8 → Option R), at? [a] (0 : Int).toNat K = K a := fun K => rfl
    have o1 : bitsI BinOp.or IntKind.i64 (shlI IntKind.i64 0 8) (IntKind.i64.wrap (a.toNat : Int)) = (a.toNat : Int) := by
      rw [w64_u8, shl8_or 0 _ (by omega) (by omega) (by omega) (by omega)]; omega
    rw [e0, br_dec, if_neg (by omega)]
    unfold S_Get_5 F_Get_5
    simp only [br_dec, br_and, e0, a0, e1, o1]
    rw [if_pos (by decide), if_pos (by decide), if_pos (by decide)]
    unfold S_Get_5 F_Get_5
    rw [br_dec, if_neg (by omega)]
    show bnd2 (if (a.toNat : Int) < 0 then _ else _) _ = _
    rw [if_neg (by omega)]
    rfl
  | [a, b], _ =>
    have ha := u8_lt a
    have hb := u8_lt b
    have e0 : (([a, b] : List UInt8).length : Int) = 2 := rfl
    have e1 : IntKind.i64.wrap ((0 : Int) + 1) = 1 := by decide
    have e2 : IntKind.i64.wrap ((1 : Int) + 1) = 2 := by decide
    have a0 : ∀ {R : Type} (K : UInt8 → Option R), at? [a, b] (0 : Int).toNat K = K a := fun K => rfl
    have a1 : ∀ {R : Type} (K : UInt8 → Option R), at? [a, b] (1 : Int).toNat K = K b := fun K => rfl
    have o1 : bitsI BinOp.or IntKind.i64 (shlI IntKind.i64 0 8) (IntKind.i64.wrap (a.toNat : Int)) = (a.toNat : Int) := by
      rw [w64_u8, shl8_or 0 _ (by omega) (by omega) (by omega) (by omega)]; omega
    have o2 : bitsI BinOp.or IntKind.i64 (shlI IntKind.i64 (a.toNat : Int) 8) (IntKind.i64.wrap (b.toNat : Int)) = 256 * (a.toNat : Int) + b.toNat := by
      rw [w64_u8, shl8_or _ _ (by omega) (by omega) (by omega) (by omega)]
    rw [e0, br_dec, if_neg (by omega)]
    unfold S_Get_5 F_Get_5
    simp only [br_dec, br_and, e0, a0, e1, o1]
    rw [if_pos (by decide), if_pos (by decide), if_pos (by decide)]
    unfold S_Get_5 F_Get_5
    simp only [br_dec, br_and, e0, a1, e2, o2]
    rw [if_pos (by decide), if_pos (by decide), if_pos (by decide)]
    unfold S_Get_5 F_Get_5
    rw [br_dec, if_neg (by omega)]
    show bnd2 (if 256 * (a.toNat : Int) + b.toNat < 0 then _ else _) _ = _
    rw [if_neg (by omega)]
    rfl
end
end Go.Proofs.Ytllnklkjkjmjbaa.En

/- Headers are decoded: the program and the reference; the two statements that decode. -/
namespace Go.Proofs.Ytllnklkjkjmjbaa.En
open Go
set_option linter.unusedVariables false
def shortT : Tl → Prop
  | .nil => True
  | .cons t v k r => v.length ≤ 1000 ∧ shortT r
theorem shortT_wt : ∀ l : Tl, l.wt ≤ 1000 → shortT l
  | .nil, _ => trivial
  | .cons t v k r, h => by
    simp only [Tl.wt] at h
    exact ⟨by omega, shortT_wt r (by omega)⟩
theorem fitL_short : ∀ (ts : List (Int × Bool)) (l : Tl), arrT ts l = true → shortT l → fitL l
  | [], l, h, _ => by
    unfold arrT at h
    cases l with
    | nil => trivial
    | cons t v k r => simp [Tl.len] at h
  | (g, a) :: ts, .nil, _, _ => trivial
  | (g, a) :: ts, .cons t v k r, h, hw => by
    rw [arrT_cons] at h
    split at h
    · rw [Bool.and_eq_true] at h
      exact ⟨h.1, hw.1, fitL_short ts r h.2 hw.2⟩
    · rw [Bool.and_eq_true] at h
      exact fitL_short ts (.cons t v k r) h.2 hw
theorem hdT_134 (v : List UInt8) (k r : Tl) (f : Fi) : hdT (.cons 134 v k r) f = if (decRu v).2 = 0 then hdT r { f with rules := (decRu v).1 } else (zF, (decRu v).2) := rfl
theorem hdT_ne {t : Int} (h : t ≠ 134) (v : List UInt8) (k r : Tl) (f : Fi) : hdT (.cons t v k r) f = hdT r (updF t v f) := by
  show (if t = 134 then _ else _) = _
  rw [if_neg h]
theorem len1 {v : List UInt8} (h : v.length = 1) : ∃ a, v = [a] := by
  match v, h with
  | [a], _ => exact ⟨a, rfl⟩
theorem len2 {v : List UInt8} (h : v.length = 2) : ∃ a b, v = [a, b] := by
  match v, h with
  | [a, b], _ => exact ⟨a, b, rfl⟩
theorem len3 {v : List UInt8} (h : v.length = 3) : ∃ a b c, v = [a, b, c] := by
  match v, h with
  | [a, b, c], _ => exact ⟨a, b, c, rfl⟩
theorem updF_other {t : Int} (h0 : t ≠ 130) (h1 : t ≠ 131) (h2 : t ≠ 132) (h3 : t ≠ 128) (h4 : t ≠ 136) (h5 : t ≠ 138) (v : List UInt8) (f : Fi) : updF t v f = f := by
  unfold updF
  rw [if_neg h0, if_neg h1, if_neg h2, if_neg h3, if_neg h4, if_neg h5]
section
variable (N : Nat)
theorem goodR_decRu {b : List UInt8} (hb : b.length ≤ 1000) (hN : 10000 < N) : GoodR N (decRu b).1 := by
  have gnil : GoodR N [] := ⟨by simp, by omega, by simp⟩
  unfold decRu
  cases hd : decT b with
  | error e => exact gnil
  | ok l =>
    simp only
    cases hr : rdRu 7 8 l with
    | none => exact gnil
    | some rs =>
      simp only
      split
      · exact goodR_rd N hb hN hd hr
      · exact gnil
theorem hdT_good (hN : 10000 < N) : ∀ (l : Tl) (f : Fi), fitL l → GoodR N f.rules → GoodR N (hdT l f).1.rules
  | .nil, f, _, h => h
  | .cons t v k r, f, hf, h => by
    have gnil : GoodR N [] := ⟨by simp, by omega, by simp⟩
    by_cases c : t = 134
    · subst c
      rw [hdT_134]
      split
      · exact hdT_good hN r _ hf.2.2 (goodR_decRu N hf.2.1 hN)
      · exact gnil
    · rw [hdT_ne c]
      refine hdT_good hN r _ hf.2.2 ?_
      have : (updF t v f).rules = f.rules := by
        unfold updF
        split
        · split <;> rfl
        split
        · rfl
        split
        · rfl
        split
        · rfl
        split
        · rfl
        split <;> rfl
      rw [this]; exact h
theorem fd_loop {R : Type} (hN : 10000 < N) (x0 : List UInt8) (n4 n5 : Int) (l6 : List UInt8) (n7 n8 n9 n10 n11 : Int) (vs12 : List V) (K0 : Int → Int → Int → List UInt8 → Int → Int → Int → Int → Int → List V → Int → Int → List UInt8 → Int → Int → Int → Int → Int → List V → Option R)
    (K1 : Int → Int → List UInt8 → Int → Int → Int → Int → Int → List V → Option R) (Z : Int → Option R) (hK0 : ∀ e a b c d e' f g h i, K0 e 0 0 [] 0 0 0 0 0 [] a b c d e' f g h i = Z e) :
    ∀ (l : Tl) (pre : List V) (t : Nat) (f : Fi), l.len < t → pre.length + l.len ≤ 100000 → fitL l →
      S_fDecode_8 N x0 (pre ++ l.enc) ((pre ++ l.enc).length : Int) n4 n5 l6 n7 n8 n9 n10 n11 vs12 t (pre.length : Int) f.id f.kind f.name f.short f.size f.length f.recs f.state (rE f.rules) K0 K1
        = if (hdT l f).2 = 0 then K1 (hdT l f).1.id (hdT l f).1.kind (hdT l f).1.name (hdT l f).1.short (hdT l f).1.size (hdT l f).1.length (hdT l f).1.recs (hdT l f).1.state (rE (hdT l f).1.rules) else Z (hdT l f).2
  | l, pre, 0, f, ht, _, _ => by omega
  | .nil, pre, t + 1, f, ht, _, _ => by
    unfold S_fDecode_8 F_fDecode_8
    simp only [Tl.enc, br_t, br_f, br_dec, br_not, br_and, br_or, bnd1_mk, bnd2_mk, bnd3_mk, bnd4_mk, bnd5_mk, bnd10_mk, at_zero, at_succ, at_mid, unInt_mk, unBool_mk, unStr_mk, unBytes_mk, unSl_mk, unAgg_mk, unCons_mk, unNil_mk, endI, if_false]
    rfl
  | .cons tg v k r, pre, t + 1, f, ht, hl, hf => by
    simp only [Tl.len] at ht hl
    obtain ⟨h1, h2, h3, h4⟩ := stepI pre (te tg v k) r.enc (by rw [Tl.enc_len]; omega)
    have ih := fun f => fd_loop hN x0 n4 n5 l6 n7 n8 n9 n10 n11 vs12 K0 K1 Z hK0 r (pre ++ [te tg v k]) t f (by omega) (by simp; omega) hf.2.2
    rw [← mid, ← h3] at ih
    obtain ⟨hf1, hf2, _⟩ := hf
    unfold S_fDecode_8 F_fDecode_8
    simp only [tenc, br_t, br_f, br_dec, br_not, br_and, br_or, bnd1_mk, bnd2_mk, bnd3_mk, bnd4_mk, bnd5_mk, bnd10_mk, at_zero, at_succ, at_mid, unInt_mk, unBool_mk, unStr_mk, unBytes_mk, unSl_mk, unAgg_mk, unCons_mk, unNil_mk, h1, h2, if_true, Int.toNat_natCast]
    by_cases k0 : tg = 130
    · subst k0
      rw [hdT_ne (by decide), if_pos rfl]
      simp only [fitV, if_true, Bool.or_eq_true, decide_eq_true_eq] at hf1
      rcases hf1 with hv | hv
      · obtain ⟨a, rfl⟩ := len1 hv
        have e0 : (0 : Int) < (([a] : List UInt8).length : Int) := by simp
        have e3 : ¬ ((([a] : List UInt8).length : Int) = 3) := by simp
        rw [if_pos e0, at_head, if_neg e3, w64_u8]
        exact ih (updF 130 [a] f)
      · obtain ⟨a, b, c, rfl⟩ := len3 hv
        have e0 : (0 : Int) < (([a, b, c] : List UInt8).length : Int) := by simp
        have e1 : (1 : Int) < (([a, b, c] : List UInt8).length : Int) := by simp
        have e2 : (2 : Int) < (([a, b, c] : List UInt8).length : Int) := by simp
        have e3 : ((([a, b, c] : List UInt8).length : Int) = 3) := by simp
        have a1 : ∀ {R : Type} (K : UInt8 → Option R), at? [a, b, c] 1 K = K b := fun K => rfl
        have a2 : ∀ {R : Type} (K : UInt8 → Option R), at? [a, b, c] 2 K = K c := fun K => rfl
        rw [if_pos e0, at_head, if_pos e3, if_pos e1, a1, if_pos e2, a2, w64_u8, w64_u8, w64_u8]
        exact ih (updF 130 [a, b, c] f)
    rw [if_neg k0]
    by_cases k1 : tg = 131
    · subst k1
      have hv : v.length = 2 := by simpa [fitV] using hf1
      rw [hdT_ne (by decide), if_pos rfl, Get_two N (by omega) v (.inr hv), bnd1_mk]
      exact ih (updF 131 v f)
    rw [if_neg k1]
    by_cases k2 : tg = 132
    · subst k2
      rw [hdT_ne (by decide), if_pos rfl]
      exact ih (updF 132 v f)
    rw [if_neg k2]
    by_cases k3 : tg = 128
    · subst k3
      have hv : v.length = 2 := by simpa [fitV] using hf1
      rw [hdT_ne (by decide), if_pos rfl, Get_two N (by omega) v (.inr hv), bnd1_mk]
      exact ih (updF 128 v f)
    rw [if_neg k3]
    by_cases k4 : tg = 136
    · subst k4
      have hv : v.length = 1 := by simpa [fitV] using hf1
      rw [hdT_ne (by decide), if_pos rfl, Get_two N (by omega) v (.inl hv), bnd1_mk]
      exact ih (updF 136 v f)
    rw [if_neg k4]
    by_cases k5 : tg = 138
    · subst k5
      have hv : v.length = 1 := by simpa [fitV] using hf1
      rw [hdT_ne (by decide), if_pos rfl, Get_two N (by omega) v (.inl hv), bnd1_mk]
      exact ih (updF 138 v f)
    rw [if_neg k5]
    by_cases k6 : tg = 134
    · subst k6
      rw [hdT_134, if_pos rfl, aDecode_eq N hN v hf2, bnd2_mk]
      by_cases c : (decRu v).2 = 0
      · rw [if_pos c, if_pos c]
        exact ih { f with rules := (decRu v).1 }
      · rw [if_neg c, if_neg c, hK0, if_neg c]
    rw [if_neg k6, hdT_ne k6, updF_other k0 k1 k2 k3 k4 k5]
    exact ih f
theorem hh_loop {R : Type} (hN : 10000 < N) (n2 n3 : Int) (l4 : List UInt8) (n5 n6 n7 n8 n9 : Int) (vs10 : List V) (K0 : Int → Int → Int → List UInt8 → Int → Int → Int → Int → Int → List V → Int → Int → List UInt8 → Int → Int → Int → Int → Int → List V → Option R)
    (K1 : Int → Int → List UInt8 → Int → Int → Int → Int → Int → List V → Option R) (Z : Int → Option R) (hK0 : ∀ e a b c d e' f g h i, K0 e 0 0 [] 0 0 0 0 0 [] a b c d e' f g h i = Z e) :
    ∀ (l : Tl) (pre : List V) (t : Nat) (f : Fi), l.len < t → pre.length + l.len ≤ 100000 → fitL l →
      S_hheader_3 N (pre ++ l.enc) n2 n3 l4 n5 n6 n7 n8 n9 vs10 t (pre.length : Int) f.id f.kind f.name f.short f.size f.length f.recs f.state (rE f.rules) K0 K1
        = if (hdT l f).2 = 0 then K1 (hdT l f).1.id (hdT l f).1.kind (hdT l f).1.name (hdT l f).1.short (hdT l f).1.size (hdT l f).1.length (hdT l f).1.recs (hdT l f).1.state (rE (hdT l f).1.rules) else Z (hdT l f).2
  | l, pre, 0, f, ht, _, _ => by omega
  | .nil, pre, t + 1, f, ht, _, _ => by
    unfold S_hheader_3 F_hheader_3
    simp only [Tl.enc, br_t, br_f, br_dec, br_not, br_and, br_or, bnd1_mk, bnd2_mk, bnd3_mk, bnd4_mk, bnd5_mk, bnd10_mk, at_zero, at_succ, at_mid, unInt_mk, unBool_mk, unStr_mk, unBytes_mk, unSl_mk, unAgg_mk, unCons_mk, unNil_mk, endI, if_false]
    rfl
  | .cons tg v k r, pre, t + 1, f, ht, hl, hf => by
    simp only [Tl.len] at ht hl
    obtain ⟨h1, h2, h3, h4⟩ := stepI pre (te tg v k) r.enc (by rw [Tl.enc_len]; omega)
    have ih := fun f => hh_loop hN n2 n3 l4 n5 n6 n7 n8 n9 vs10 K0 K1 Z hK0 r (pre ++ [te tg v k]) t f (by omega) (by simp; omega) hf.2.2
    rw [← mid, ← h3] at ih
    obtain ⟨hf1, hf2, _⟩ := hf
    have w2 : ∀ a b : UInt8, IntKind.i64.wrap (IntKind.i64.wrap (256 * (a.toNat : Int)) + (b.toNat : Int)) = 256 * (a.toNat : Int) + b.toNat := fun a b => by
      have := u8_lt a
      have := u8_lt b
      rw [w64 (n := 256 * (a.toNat : Int)) (by omega) (by omega), w64 (by omega) (by omega)]
    unfold S_hheader_3 F_hheader_3
    simp only [tenc, br_t, br_f, br_dec, br_not, br_and, br_or, bnd1_mk, bnd2_mk, bnd3_mk, bnd4_mk, bnd5_mk, bnd10_mk, at_zero, at_succ, at_mid, unInt_mk, unBool_mk, unStr_mk, unBytes_mk, unSl_mk, unAgg_mk, unCons_mk, unNil_mk, h1, h2, if_true, Int.toNat_natCast]
    by_cases k0 : tg = 130
    · subst k0
      rw [hdT_ne (by decide), if_pos rfl]
      simp only [fitV, if_true, Bool.or_eq_true, decide_eq_true_eq] at hf1
      rcases hf1 with hv | hv
      · obtain ⟨a, rfl⟩ := len1 hv
        have e0 : (0 : Int) < (([a] : List UInt8).length : Int) := by simp
        have e3 : ¬ ((([a] : List UInt8).length : Int) = 3) := by simp
        rw [if_pos e0, at_head, if_neg e3, w64_u8]
        exact ih (updF 130 [a] f)
      · obtain ⟨a, b, c, rfl⟩ := len3 hv
        have e0 : (0 : Int) < (([a, b, c] : List UInt8).length : Int) := by simp
        have e1 : (1 : Int) < (([a, b, c] : List UInt8).length : Int) := by simp
        have e2 : (2 : Int) < (([a, b, c] : List UInt8).length : Int) := by simp
        have e3 : ((([a, b, c] : List UInt8).length : Int) = 3) := by simp
        have a1 : ∀ {R : Type} (K : UInt8 → Option R), at? [a, b, c] 1 K = K b := fun K => rfl
        have a2 : ∀ {R : Type} (K : UInt8 → Option R), at? [a, b, c] 2 K = K c := fun K => rfl
        rw [if_pos e0, at_head, if_pos e3, if_pos e1, a1, if_pos e2, a2, w64_u8, w64_u8, w64_u8]
        exact ih (updF 130 [a, b, c] f)
    rw [if_neg k0]
    by_cases k1 : tg = 131
    · subst k1
      have hv : v.length = 2 := by simpa [fitV] using hf1
      obtain ⟨a, b, rfl⟩ := len2 hv
      have e0 : (0 : Int) < (([a, b] : List UInt8).length : Int) := by simp
      have e1 : (1 : Int) < (([a, b] : List UInt8).length : Int) := by simp
      have a1 : ∀ {R : Type} (K : UInt8 → Option R), at? [a, b] 1 K = K b := fun K => rfl
      rw [hdT_ne (by decide), if_pos rfl, if_pos e0, at_head, if_pos e1, a1, w64_u8, w64_u8, w2]
      exact ih (updF 131 [a, b] f)
    rw [if_neg k1]
    by_cases k2 : tg = 132
    · subst k2
      rw [hdT_ne (by decide), if_pos rfl]
      exact ih (updF 132 v f)
    rw [if_neg k2]
    by_cases k3 : tg = 128
    · subst k3
      have hv : v.length = 2 := by simpa [fitV] using hf1
      obtain ⟨a, b, rfl⟩ := len2 hv
      have e0 : (0 : Int) < (([a, b] : List UInt8).length : Int) := by simp
      have e1 : (1 : Int) < (([a, b] : List UInt8).length : Int) := by simp
      have a1 : ∀ {R : Type} (K : UInt8 → Option R), at? [a, b] 1 K = K b := fun K => rfl
      rw [hdT_ne (by decide), if_pos rfl, if_pos e0, at_head, if_pos e1, a1, w64_u8, w64_u8, w2]
      exact ih (updF 128 [a, b] f)
    rw [if_neg k3]
    by_cases k4 : tg = 136
    · subst k4
      have hv : v.length = 1 := by simpa [fitV] using hf1
      obtain ⟨a, rfl⟩ := len1 hv
      have e0 : (0 : Int) < (([a] : List UInt8).length : Int) := by simp
      rw [hdT_ne (by decide), if_pos rfl, if_pos e0, at_head, w64_u8]
      exact ih (updF 136 [a] f)
    rw [if_neg k4]
    by_cases k5 : tg = 138
    · subst k5
      have hv : v.length = 1 := by simpa [fitV] using hf1
      obtain ⟨a, rfl⟩ := len1 hv
      have e0 : (0 : Int) < (([a] : List UInt8).length : Int) := by simp
      rw [hdT_ne (by decide), if_pos rfl, if_pos e0, at_head, w64_u8]
      exact ih (updF 138 [a] f)
    rw [if_neg k5]
    by_cases k6 : tg = 134
    · subst k6
      rw [hdT_134, if_pos rfl, qDecode_eq N hN v hf2, bnd2_mk]
      by_cases c : (decRu v).2 = 0
      · rw [if_pos c, if_pos c]
        exact ih { f with rules := (decRu v).1 }
      · rw [if_neg c, if_neg c, hK0, if_neg c]
    rw [if_neg k6, hdT_ne k6, updF_other k0 k1 k2 k3 k4 k5]
    exact ih f
def outF (p : Fi × Int) : Int × Int × List UInt8 × Int × Int × Int × Int × Int × List V × Int := (p.1.id, p.1.kind, p.1.name, p.1.short, p.1.size, p.1.length, p.1.recs, p.1.state, rE p.1.rules, p.2)
theorem gzero (hN : 10000 < N) : GoodR N zF.rules := ⟨by decide, by omega, by intro r hr; cases hr⟩
theorem decR_nil {b : List UInt8} {e : Int} (h : decT b = .error e) : decR b = ([], e) := by rw [decR_decT, h]; rfl
theorem decR_ok {b : List UInt8} {l : Tl} (h : decT b = .ok l) : decR b = (l.enc, 0) := by rw [decR_decT, h]; rfl
theorem fDecode_eq (hN : 10000 < N) (b : List UInt8) (hb : ∀ t v k, decT b = .ok (.cons t v k .nil) → shortT k) : s_fDecode N b = some (outF (decFi b)) := by
  unfold s_fDecode decFi
  rw [Decode_eq N (by omega)]
  cases hd : decT b with
  | error e =>
    rw [decR_nil hd, bnd2_mk, br_not, br_dec, if_neg (decT_err hd)]; rfl
  | ok l =>
    rw [decR_ok hd, bnd2_mk, br_not, br_dec, if_pos rfl]
    cases l with
    | nil => rw [br_not, br_dec, if_neg (by simp [Tl.enc])]; rfl
    | cons t v k r =>
      cases r with
      | cons t2 v2 k2 r2 => rw [br_not, br_dec, if_neg (by simp [Tl.enc]; omega)]; rfl
      | nil =>
        obtain ⟨d1, d2, d3, d4, d5⟩ := decT_ok hd
        simp only [Tl.wt] at d3
        have hkl := Tl.len_wt k
        have e1 : (((Tl.cons t v k .nil).enc.length : Int)) = 1 := rfl
        have e0 : (0 : Int) < (((Tl.cons t v k .nil).enc.length : Int)) := by rw [e1]; omega
        have a0 : ∀ {R : Type} (K : V → Option R), at? (Tl.cons t v k .nil).enc 0 K = K (te t v k) := fun K => rfl
        simp only [br_not, br_dec, e1, if_true, a0, unAgg_mk, unCons_mk, unInt_mk, unBytes_mk, unSl_mk, unNil_mk, farranged_eq N (by omega) k (by omega), bnd1_mk]
        rw [if_pos (by omega)]
        simp only [objF]
        by_cases ct : t = 98
        case neg => rw [if_neg ct, if_neg ct]; rfl
        rw [if_pos ct, if_pos ct, if_pos (by omega)]
        cases ca : arrT tabF k with
        | false => rfl
        | true =>
          have hfit := fitL_short tabF k ca (hb t v k hd)
          have hL := fd_loop N hN b 0 0 [] 0 0 0 0 0 [] (fun n36 n37 n38 l39 n40 n41 n42 n43 n44 l45 n46 n47 l48 n49 n50 n51 n52 n53 l54 => some (n37, n38, l39, n40, n41, n42, n43, n44, l45, n36))
            (fun n55 n56 l57 n58 n59 n60 n61 n62 l63 => bnd2 (s_fEncode N n55 n56 l57 n58 n59 n60 n61 n62 l63) fun l64 n65 => if n65 = 0 then (bnd1 (s_Equal N b l64) fun b66 => br b66 (some (n55, n56, l57, n58, n59, n60, n61, n62, l63, (0 : Int))) (some (0, 0, [], 0, 0, 0, 0, 0, [], 4))) else some (0, 0, [], 0, 0, 0, 0, 0, [], n65))
            (fun e => some (0, 0, [], 0, 0, 0, 0, 0, [], e)) (fun _ _ _ _ _ _ _ _ _ _ => rfl) k [] N zF (by omega) (by simp; omega) hfit
          simp only [br_t, if_true]
          rw [if_pos (by omega)]
          refine Eq.trans hL ?_
          by_cases ch : (hdT k zF).2 = 0
          case neg => rw [if_neg ch, if_neg ch]; rfl
          have gg := hdT_good N hN k zF hfit (gzero N hN)
          have hm := encFi_max (hdT k zF).1
          rw [if_pos ch, if_pos ch, fEncode_eq N hN _ gg]
          unfold endF
          show (if (encFi (hdT k zF).1).2 = 0 then (bnd1 (s_Equal N b (encFi (hdT k zF).1).1) _) else _) = _
          by_cases ce : (encFi (hdT k zF).1).2 = 0
          case neg => rw [if_neg ce, if_neg ce]; rfl
          rw [if_pos ce, if_pos ce, Equal_eq N _ _ (by omega) (by omega), bnd1_mk, br_dec]
          by_cases cb : b = (encFi (hdT k zF).1).1
          · rw [if_pos cb, if_pos cb]; rfl
          · rw [if_neg cb, if_neg cb]; rfl
theorem hDecode_eq (hN : 10000 < N) (b : List UInt8) (hb : ∀ t v k, decT b = .ok (.cons t v k .nil) → shortT k) : s_hDecode N b = some (outF (decFi b)) := by
  unfold s_hDecode decFi
  rw [rDecode_eq N (by omega)]
  cases hd : decT b with
  | error e =>
    rw [decR_nil hd, bnd2_mk, br_not, br_dec, if_neg (decT_err hd)]; rfl
  | ok l =>
    rw [decR_ok hd, bnd2_mk, br_not, br_dec, if_pos rfl]
    cases l with
    | nil => rw [br_not, br_dec, if_neg (by simp [Tl.enc])]; rfl
    | cons t v k r =>
      cases r with
      | cons t2 v2 k2 r2 => rw [br_not, br_dec, if_neg (by simp [Tl.enc]; omega)]; rfl
      | nil =>
        obtain ⟨d1, d2, d3, d4, d5⟩ := decT_ok hd
        simp only [Tl.wt] at d3
        have hkl := Tl.len_wt k
        have e1 : (((Tl.cons t v k .nil).enc.length : Int)) = 1 := rfl
        have a0 : ∀ {R : Type} (K : V → Option R), at? (Tl.cons t v k .nil).enc 0 K = K (te t v k) := fun K => rfl
        simp only [br_not, br_dec, e1, if_true, a0, unAgg_mk, unCons_mk, unInt_mk, unBytes_mk, unSl_mk, unNil_mk, hform_eq N k (by omega) (by omega) (by omega), bnd1_mk]
        rw [if_pos (by omega)]
        simp only [objF]
        by_cases ct : t = 98
        case neg => rw [if_neg ct, if_neg ct]; rfl
        rw [if_pos ct, if_pos ct, if_pos (by omega)]
        cases ca : arrT tabF k with
        | false => rfl
        | true =>
          have hfit := fitL_short tabF k ca (hb t v k hd)
          have gg := hdT_good N hN k zF hfit (gzero N hN)
          have hL := hh_loop N hN 0 0 [] 0 0 0 0 0 [] (fun n0 n1 n2 l3 n4 n5 n6 n7 n8 l9 n10 n11 l12 n13 n14 n15 n16 n17 l18 => some (n1, n2, l3, n4, n5, n6, n7, n8, l9, n0))
            (fun n19 n20 l21 n22 n23 n24 n25 n26 l27 => bnd1 (s_hCheck N n19 n20 l21 n22 n23 n24 n25 n26 l27) fun n28 => some (n19, n20, l21, n22, n23, n24, n25, n26, l27, n28))
            (fun e => some (0, 0, [], 0, 0, 0, 0, 0, [], e)) (fun _ _ _ _ _ _ _ _ _ _ => rfl) k [] N zF (by omega) (by simp; omega) hfit
          have hH : s_hheader N k.enc = if (hdT k zF).2 = 0 then some ((hdT k zF).1.id, (hdT k zF).1.kind, (hdT k zF).1.name, (hdT k zF).1.short, (hdT k zF).1.size, (hdT k zF).1.length, (hdT k zF).1.recs, (hdT k zF).1.state, rE (hdT k zF).1.rules, chkF (hdT k zF).1) else some (0, 0, [], 0, 0, 0, 0, 0, [], (hdT k zF).2) := by
            unfold s_hheader
            refine Eq.trans hL ?_
            by_cases ch : (hdT k zF).2 = 0
            · rw [if_pos ch, if_pos ch, hCheck_eq N _ gg]; rfl
            · rw [if_neg ch, if_neg ch]
          simp only [br_t, if_true]
          rw [if_pos (by omega), hH]
          by_cases ch : (hdT k zF).2 = 0
          case neg => rw [if_neg ch, if_neg ch, bnd10_mk, if_neg ch]; rfl
          have hm := encFi_max (hdT k zF).1
          rw [if_pos ch, if_pos ch, bnd10_mk]
          unfold endF
          have he := encFi_err (hdT k zF).1
          by_cases ce : chkF (hdT k zF).1 = 0
          case neg => rw [if_neg ce, if_neg (by rw [he]; exact ce), he]; rfl
          rw [if_pos ce, if_pos (by rw [he]; exact ce), hEncode_eq N hN _ gg]
          show bnd1 (s_oSame N (encFi (hdT k zF).1).1 b) _ = _
          rw [oSame_eq N _ _ (by omega) (by omega) (by omega), bnd1_mk, br_dec]
          by_cases cb : b = (encFi (hdT k zF).1).1
          · rw [if_pos cb.symm, if_pos cb]; rfl
          · rw [if_neg (fun e => cb e.symm), if_neg cb]; rfl
/-- What is decoded is small. -/
theorem decFi_small (hN : 10000 < N) (b : List UInt8) (hb : ∀ t v k, decT b = .ok (.cons t v k .nil) → shortT k) : GoodR N (decFi b).1.rules ∧ (decFi b).1.name.length ≤ 60 := by
  have z : GoodR N zF.rules ∧ zF.name.length ≤ 60 := ⟨gzero N hN, by decide⟩
  unfold decFi
  cases hd : decT b with
  | error e => exact z
  | ok l =>
    cases l with
    | nil => exact z
    | cons t v k r =>
      cases r with
      | cons t2 v2 k2 r2 => exact z
      | nil =>
        show GoodR N (objF b t k).1.rules ∧ (objF b t k).1.name.length ≤ 60
        unfold objF
        split
        · split
          · rename_i ca
            have hfit := fitL_short tabF k ca (hb t v k hd)
            have gg := hdT_good N hN k zF hfit (gzero N hN)
            split
            · unfold endF
              split
              · rename_i ce
                split
                · rw [encFi_err] at ce
                  have := (okF_of ce).name
                  exact ⟨gg, Nat.le_trans this (by decide)⟩
                · exact z
              · exact z
            · exact z
          · exact z
        · exact z
theorem short_of {b : List UInt8} (h : b.length ≤ 1000) : ∀ t v k, decT b = .ok (.cons t v k .nil) → shortT k := by
  intro t v k hd
  obtain ⟨_, _, d3, _⟩ := decT_ok hd
  simp only [Tl.wt] at d3
  exact shortT_wt k (by omega)
theorem vDecodes_eq (hN : 200000 < N) (b : List UInt8) : s_vDecodes N b = some true := by
  unfold s_vDecodes
  rw [br_dec]
  by_cases c : 600 < (b.length : Int)
  · rw [if_pos c]
  have hs := short_of (b := b) (by omega)
  obtain ⟨g1, g2⟩ := decFi_small N (by omega) b hs
  rw [if_neg c, fDecode_eq N (by omega) b hs, hDecode_eq N (by omega) b hs]
  unfold outF
  rw [bnd10_mk, bnd10_mk, br_dec, if_pos rfl, hSame_eq N _ _ g1 g1 g2 g2 (by omega), bnd1_mk, decide_eq_true rfl, br_t, awake_eq N hN]; rfl
end
end Go.Proofs.Ytllnklkjkjmjbaa.En

/- What the rows that decode headers lean on. -/
