/- Several texts in one. -/
import Derived.Test.YtllnklkjkjmjbaaH4
import Derived.Test.YtllnklkjkjmjbaaRows
import Derived.ProofKit
import Derived.OpenShut
import Derived.ShutString
import Derived.ChangeOld
import Derived.Below
import Derived.Lib.SmallJoins

set_option linter.unusedSimpArgs false
set_option linter.unusedVariables false
set_option linter.unusedSectionVars false
/- Encoding data objects: what the program and the reference compute. -/
namespace Go.Proofs.Ytllnklkjkjmjbaa.En
open Go
set_option linter.unusedVariables false
def Tl.isNil : Tl → Bool
  | .nil => true
  | _ => false
def okL : Int → Tl → Bool
  | _, .nil => true
  | d, .cons t v k r => (decide (d ≤ 8) && (tagV t && (bif tagC t then v.isEmpty && okL (d + 1) k else k.isNil))) && okL d r
def encL : Tl → List UInt8
  | .nil => []
  | .cons t v k r => (tagB t ++ lenB ((bif tagC t then encL k else v).length : Int) ++ (bif tagC t then encL k else v)) ++ encL r
theorem encL_cons (t : Int) (v : List UInt8) (k r : Tl) : encL (.cons t v k r) = (tagB t ++ lenB ((bif tagC t then encL k else v).length : Int) ++ (bif tagC t then encL k else v)) ++ encL r := by
  conv => lhs; unfold encL
theorem isNil_len (k : Tl) : k.isNil = decide (k.len = 0) := by cases k <;> simp [Tl.isNil, Tl.len]
theorem tagB_len (t : Int) : 1 ≤ (tagB t).length ∧ (tagB t).length ≤ 2 := by unfold tagB; split <;> simp
theorem lenB_len (n : Int) : 1 ≤ (lenB n).length ∧ (lenB n).length ≤ 3 := by unfold lenB; (repeat' split) <;> simp
section
variable (N : Nat) (n : Nat) (d : Int)
abbrev L63 (k : Tl) : Prop := k.len ≤ 9223372036854775807
theorem mid (pre : List V) (x : V) (suf : List V) : pre ++ x :: suf = (pre ++ [x]) ++ suf := by simp
/-- What a step through a list knows. -/
theorem stepI (pre : List V) (x : V) (suf : List V) (h : pre.length + (suf.length + 1) ≤ 9223372036854775807) :
    (pre.length : Int) < ((pre ++ x :: suf).length : Int) ∧ (0 : Int) ≤ pre.length ∧ IntKind.i64.wrap ((pre.length : Int) + 1) = ((pre ++ [x]).length : Int) ∧ ((pre ++ x :: suf).length : Int) = (((pre ++ [x]) ++ suf).length : Int) := by
  refine ⟨by simp; omega, by omega, ?_, by simp⟩
  rw [w64 (by omega) (by omega)]; simp
theorem endI (pre : List V) : ¬ ((pre.length : Int) < ((pre ++ ([] : List V)).length : Int)) := by simp
theorem IndexFuncV_loop (f : List V → Int → Option Bool) (hd : -9223372036854775808 ≤ d ∧ d ≤ 1000) (hf : ∀ (k : Tl), d ≤ 8 → k.nodes < n → k.wf → L63 k → f k.enc (d + 1) = some (okL (d + 1) k)) :
    ∀ (l : Tl) (pre : List V) (t : Nat), l.len < t → l.nodes ≤ n → l.wf → pre.length + l.len ≤ 9223372036854775807 →
      ∃ i, S_IndexFuncV_2 N f (pre ++ l.enc) ((pre ++ l.enc).length : Int) d t (pre.length : Int) (fun n0 => some n0) (some (-1)) = some i ∧ decide (0 ≤ i) = !okL d l
  | l, pre, 0, ht, _, _, _ => by omega
  | .nil, pre, t + 1, ht, _, _, _ => by
    unfold S_IndexFuncV_2 F_IndexFuncV_2
    simp only [Tl.enc, br_t, br_f, br_dec, br_not, br_and, br_or, bnd1_mk, bnd2_mk, bnd3_mk, bnd4_mk, bnd5_mk, bnd10_mk, at_zero, at_succ, at_mid, unInt_mk, unBool_mk, unStr_mk, unBytes_mk, unSl_mk, unAgg_mk, unCons_mk, unNil_mk, endI, if_false]
    exact ⟨-1, rfl, by simp [okL]⟩
  | .cons tg v k r, pre, t + 1, ht, hn, hw, hl => by
    simp only [Tl.len, Tl.nodes] at ht hn hl
    obtain ⟨ht1, hv, hk1, hk2, hr⟩ := hw
    obtain ⟨h1, h2, h3, h4⟩ := stepI pre (.agg [.int .i64 tg, .bytes v, .sl 62 k.enc]) r.enc (by rw [Tl.enc_len]; exact hl)
    obtain ⟨i, ih1, ih2⟩ := IndexFuncV_loop f hd hf r (pre ++ [.agg [.int .i64 tg, .bytes v, .sl 62 k.enc]]) t (by omega) (by omega) hr (by simp; omega)
    rw [← mid, ← h3] at ih1
    unfold S_IndexFuncV_2 F_IndexFuncV_2 s_valid1 C_valid1 okL
    simp only [Tl.enc, br_t, br_f, br_dec, br_not, br_and, br_or, bnd1_mk, bnd2_mk, bnd3_mk, bnd4_mk, bnd5_mk, bnd10_mk, at_zero, at_succ, at_mid, unInt_mk, unBool_mk, unStr_mk, unBytes_mk, unSl_mk, unAgg_mk, unCons_mk, unNil_mk, h1, h2, if_true, Int.toNat_natCast, Valid_eq N tg ht1, Constructed_eq N tg ht1]
    by_cases c1 : 8 < d
    · rw [if_pos c1]
      exact ⟨_, by rw [bnd1_mk, br_t], by simp; omega⟩
    · rw [if_neg c1]
      cases tagV tg with
      | false => exact ⟨_, by rw [br_f, bnd1_mk, br_t], by simp⟩
      | true =>
        rw [br_t]
        cases tagC tg with
        | false =>
          rw [br_f, bnd1_mk, br_dec, Tl.enc_len]
          by_cases c2 : (0 : Int) < (k.len : Int)
          · rw [if_pos c2]; refine ⟨_, rfl, ?_⟩; simp [isNil_len]; omega
          · rw [if_neg c2]; refine ⟨i, ih1, ?_⟩
            rw [ih2]
            have : k.len = 0 := by omega
            simp [isNil_len, this, (by omega : d ≤ 8)]
        | true =>
          rw [br_t]
          by_cases c2 : (0 : Int) < (v.length : Int)
          · rw [if_pos c2]
            refine ⟨_, by rw [bnd1_mk, br_t], ?_⟩
            cases v with
            | nil => simp at c2
            | cons a b => simp
          · rw [if_neg c2]
            have hv0 : v = [] := List.length_eq_zero_iff.1 (by omega)
            subst hv0
            rw [w64 (n := d + 1) (by omega) (by omega), hf k (by omega) (by omega) hk2 hk1, bnd1_mk, bnd1_mk]
            cases okL (d + 1) k with
            | false => refine ⟨_, rfl, by simp⟩
            | true => refine ⟨i, ih1, ?_⟩; rw [ih2]; simp [(by omega : d ≤ 8)]
theorem valid_eq (N : Nat) : ∀ (M : Nat) (l : Tl) (d : Int), l.nodes < M → l.nodes < N → l.wf → L63 l → -9223372036854775808 ≤ d ∧ d ≤ 1000 → s_valid N M l.enc d = some (okL d l)
  | 0, l, d, h, _, _, _, _ => by omega
  | M + 1, l, d, h, hN, hw, hl, hd => by
    have := l.len_le
    obtain ⟨i, h1, h2⟩ := IndexFuncV_loop N l.nodes d (s_valid N M) hd (fun k hd8 hk hkw hkl => valid_eq N M k (d + 1) (by omega) (by omega) hkw hkl (by omega)) l [] N (by omega) (Nat.le_refl _) hw (by simpa using hl)
    simp only [List.nil_append, List.length_nil, Int.natCast_zero] at h1
    unfold s_valid B_valid s_ContainsFuncV C_ContainsFuncV s_IndexFuncV C_IndexFuncV
    have h1' : S_IndexFuncV_2 N (s_valid N M) l.enc (l.enc.length : Int) d N 0 (fun n0 => some n0) (some (-1)) = some i := h1
    rw [h1', bnd1_mk, bnd1_mk, h2, Bool.not_not]
/-! size -/
theorem size_loop (f : List V → Option Int)
    (hf : ∀ (k : Tl), k.nodes < n → k.wf → L63 k → k.wt ≤ 20000 → okL (d + 1) k = true → ∃ s, f k.enc = some s ∧ (((encL k).length : Int) ≤ 4096 → s = (encL k).length) ∧ (4096 < ((encL k).length : Int) → 4096 < s) ∧ 0 ≤ s ∧ s ≤ 5 * k.wt) :
    ∀ (l : Tl) (pre : List V) (t : Nat) (n0 : Int), l.len < t → l.nodes ≤ n → l.wf → pre.length + l.len ≤ 9223372036854775807 → l.wt ≤ 20000 → okL d l = true → 0 ≤ n0 → n0 ≤ 4096 →
      ∃ s, S_size_3 N f (pre ++ l.enc) ((pre ++ l.enc).length : Int) t n0 (pre.length : Int) (fun n0 => some n0) = some s ∧ (n0 + (encL l).length ≤ 4096 → s = n0 + (encL l).length) ∧ (4096 < n0 + (encL l).length → 4096 < s) ∧ n0 ≤ s ∧ s ≤ n0 + 5 * l.wt
  | l, pre, 0, n0, ht, _, _, _, _, _, _, _ => by omega
  | .nil, pre, t + 1, n0, ht, _, _, _, _, _, _, _ => by
    unfold S_size_3 F_size_3
    simp only [Tl.enc, br_t, br_f, br_dec, br_not, br_and, br_or, bnd1_mk, bnd2_mk, bnd3_mk, bnd4_mk, bnd5_mk, bnd10_mk, at_zero, at_succ, at_mid, unInt_mk, unBool_mk, unStr_mk, unBytes_mk, unSl_mk, unAgg_mk, unCons_mk, unNil_mk, endI, if_false]
    exact ⟨n0, rfl, fun _ => by simp [encL], fun h => by simp [encL] at h; omega, Int.le_refl _, by omega⟩
  | .cons tg v k r, pre, t + 1, n0, ht, hn, hw, hl, hwt, hok, hn0, hn1 => by
    simp only [Tl.len, Tl.nodes, Tl.wt] at ht hn hl hwt
    obtain ⟨ht1, hv, hk1, hk2, hr⟩ := hw
    obtain ⟨h1, h2, h3, h4⟩ := stepI pre (.agg [.int .i64 tg, .bytes v, .sl 62 k.enc]) r.enc (by rw [Tl.enc_len]; exact hl)
    unfold okL at hok
    simp only [Bool.and_eq_true] at hok
    obtain ⟨⟨hd8, htv, hb⟩, hokr⟩ := hok
    -- the kids
    have hkid : ∃ s, f k.enc = some s ∧ (((bif tagC tg then encL k else v).length : Int) ≤ 4096 → (v.length : Int) + s = (bif tagC tg then encL k else v).length) ∧ (4096 < ((bif tagC tg then encL k else v).length : Int) → 4096 < (v.length : Int) + s) ∧ 0 ≤ s ∧ s ≤ 5 * k.wt := by
      cases hc : tagC tg with
      | true =>
        rw [hc] at hb
        simp only [cond_true, Bool.and_eq_true] at hb
        have hv0 : v = [] := by cases v with | nil => rfl | cons a b => simp at hb
        subst hv0
        obtain ⟨s, s1, s2, s3, s4, s5⟩ := hf k (by omega) hk2 hk1 (by omega) hb.2
        exact ⟨s, s1, fun h => by rw [s2 h]; simp, fun h => by have := s3 h; simp; omega, s4, s5⟩
      | false =>
        rw [hc] at hb
        simp only [cond_false] at hb
        have hk0 : k = .nil := by cases k with | nil => rfl | cons a b c d => simp [Tl.isNil] at hb
        subst hk0
        obtain ⟨s, s1, s2, s3, s4, s5⟩ := hf .nil (by have : Tl.nil.nodes = 0 := rfl; omega) trivial (Nat.zero_le _) (Nat.zero_le _) rfl
        have hs0 : s = 0 := by have := s2 (by simp [encL]); simpa [encL] using this
        subst hs0
        exact ⟨0, s1, fun h => Int.add_zero _, fun h => by rw [Int.add_zero]; exact h, Int.le_refl _, by omega⟩
    obtain ⟨s, s1, s2, s3, s4, s5⟩ := hkid
    have hE : (encL (.cons tg v k r)).length = (tagB tg).length + (lenB ((bif tagC tg then encL k else v).length : Int)).length + (bif tagC tg then encL k else v).length + (encL r).length := by
      rw [encL_cons]; simp only [List.length_append]
    rw [hE]
    generalize hB : (bif tagC tg then encL k else v) = B at *
    have ht2 := tagB_len tg
    have hl2 := lenB_len ((v.length : Int) + s)
    have hl3 := lenB_len (B.length : Int)
    unfold S_size_3 F_size_3
    have w1 : IntKind.i64.wrap ((v.length : Int) + s) = v.length + s := w64 (by omega) (by omega)
    simp only [Tl.enc, br_t, br_f, br_dec, br_not, br_and, br_or, bnd1_mk, bnd2_mk, bnd3_mk, bnd4_mk, bnd5_mk, bnd10_mk, at_zero, at_succ, at_mid, unInt_mk, unBool_mk, unStr_mk, unBytes_mk, unSl_mk, unAgg_mk, unCons_mk, unNil_mk, h1, h2, if_true, Int.toNat_natCast, s1, tagBytes_eq, w1, lengthBytes_eq]
    have w2 : IntKind.i64.wrap (((tagB tg).length : Int) + ((lenB ((v.length : Int) + s)).length : Int)) = (tagB tg).length + (lenB ((v.length : Int) + s)).length := w64 (by omega) (by omega)
    rw [w2]
    have w3 : IntKind.i64.wrap (((tagB tg).length : Int) + ((lenB ((v.length : Int) + s)).length : Int) + ((v.length : Int) + s)) = (tagB tg).length + (lenB ((v.length : Int) + s)).length + (v.length + s) := w64 (by omega) (by omega)
    rw [w3]
    have w4 : IntKind.i64.wrap (n0 + (((tagB tg).length : Int) + ((lenB ((v.length : Int) + s)).length : Int) + ((v.length : Int) + s))) = n0 + ((tagB tg).length + (lenB ((v.length : Int) + s)).length + (v.length + s)) := w64 (by omega) (by omega)
    rw [w4]
    by_cases c1 : 4096 < n0 + (((tagB tg).length : Int) + ((lenB ((v.length : Int) + s)).length : Int) + ((v.length : Int) + s))
    · rw [if_pos c1]
      refine ⟨_, rfl, fun h => ?_, fun _ => c1, by omega, by simp only [Tl.wt]; omega⟩
      exfalso
      have e1 := s2 (by omega)
      rw [e1] at c1
      omega
    · rw [if_neg c1]
      have e1 : (v.length : Int) + s = B.length := by
        by_cases hb4 : (B.length : Int) ≤ 4096
        · exact s2 hb4
        · have := s3 (by omega); omega
      rw [e1] at c1 ⊢
      obtain ⟨q, q1, q2, q3, q4, q5⟩ := size_loop f hf r (pre ++ [.agg [.int .i64 tg, .bytes v, .sl 62 k.enc]]) t (n0 + (((tagB tg).length : Int) + ((lenB (B.length : Int)).length : Int) + (B.length : Int))) (by omega) (by omega) hr (by simp; omega) (by omega) hokr (by omega) (by omega)
      rw [← mid, ← h3] at q1
      refine ⟨q, q1, fun h => by rw [q2 (by omega)]; omega, fun h => q3 (by omega), by omega, by simp only [Tl.wt]; omega⟩
theorem size_eq (N : Nat) : ∀ (M : Nat) (l : Tl) (d : Int), l.nodes < M → l.nodes < N → l.wf → L63 l → l.wt ≤ 20000 → okL d l = true →
    ∃ s, s_size N M l.enc = some s ∧ (((encL l).length : Int) ≤ 4096 → s = (encL l).length) ∧ (4096 < ((encL l).length : Int) → 4096 < s) ∧ 0 ≤ s ∧ s ≤ 5 * l.wt
  | 0, l, d, h, _, _, _, _, _ => by omega
  | M + 1, l, d, h, hN, hw, hl, hwt, hok => by
    have := l.len_le
    obtain ⟨s, s1, s2, s3, s4, s5⟩ := size_loop N l.nodes d (s_size N M) (fun k hk hkw hkl hkwt hkok => size_eq N M k (d + 1) (by omega) (by omega) hkw hkl hkwt hkok) l [] N 0 (by omega) (Nat.le_refl _) hw (by simpa using hl) hwt hok (by omega) (by omega)
    unfold s_size B_size
    refine ⟨s, s1, fun h => by rw [s2 (by omega)]; omega, fun h => s3 (by omega), by omega, by omega⟩
/-! encode, all -/
theorem concat4 (a b c e : List UInt8) (h : a.length + b.length + c.length + e.length ≤ 1000000) : s_concat N [.bytes a, .bytes b, .bytes c, .bytes e] = some (a ++ (b ++ c ++ e)) := by
  unfold s_concat
  simp only [flatB, Option.bind_some, br_dec]
  rw [if_pos (by simp; omega)]
  simp
theorem encode_loop (f : List V → Option (List UInt8)) (hf : ∀ (k : Tl), k.nodes < n → k.wf → L63 k → (encL k).length ≤ 4096 → f k.enc = some (encL k)) :
    ∀ (l : Tl) (pre : List V) (t : Nat) (acc : List UInt8), l.len < t → l.nodes ≤ n → l.wf → pre.length + l.len ≤ 9223372036854775807 → acc.length + (encL l).length ≤ 4096 →
      S_encode_3 N f (pre ++ l.enc) ((pre ++ l.enc).length : Int) t acc (pre.length : Int) (fun l0 => some l0) = some (acc ++ encL l)
  | l, pre, 0, acc, ht, _, _, _, _ => by omega
  | .nil, pre, t + 1, acc, ht, _, _, _, _ => by
    unfold S_encode_3 F_encode_3
    simp only [Tl.enc, br_t, br_f, br_dec, br_not, br_and, br_or, bnd1_mk, bnd2_mk, bnd3_mk, bnd4_mk, bnd5_mk, bnd10_mk, at_zero, at_succ, at_mid, unInt_mk, unBool_mk, unStr_mk, unBytes_mk, unSl_mk, unAgg_mk, unCons_mk, unNil_mk, endI, if_false]
    simp [encL]
  | .cons tg v k r, pre, t + 1, acc, ht, hn, hw, hl, hE => by
    simp only [Tl.len, Tl.nodes] at ht hn hl
    obtain ⟨ht1, hv, hk1, hk2, hr⟩ := hw
    obtain ⟨h1, h2, h3, h4⟩ := stepI pre (.agg [.int .i64 tg, .bytes v, .sl 62 k.enc]) r.enc (by rw [Tl.enc_len]; exact hl)
    rw [encL_cons] at hE ⊢
    have ht2 := tagB_len tg
    unfold S_encode_3 F_encode_3
    simp only [Tl.enc, br_t, br_f, br_dec, br_not, br_and, br_or, bnd1_mk, bnd2_mk, bnd3_mk, bnd4_mk, bnd5_mk, bnd10_mk, at_zero, at_succ, at_mid, unInt_mk, unBool_mk, unStr_mk, unBytes_mk, unSl_mk, unAgg_mk, unCons_mk, unNil_mk, h1, h2, if_true, Int.toNat_natCast, Constructed_eq N tg ht1, tagBytes_eq, lengthBytes_eq]
    generalize hB : (bif tagC tg then encL k else v) = B at *
    simp only [List.length_append] at hE
    have ih := encode_loop f hf r (pre ++ [.agg [.int .i64 tg, .bytes v, .sl 62 k.enc]]) t (acc ++ (tagB tg ++ lenB (B.length : Int) ++ B)) (by omega) (by omega) hr (by simp; omega) (by simp; omega)
    rw [← mid, ← h3] at ih
    cases hc : tagC tg with
    | true =>
      rw [hc] at hB
      simp only [cond_true] at hB
      subst hB
      rw [br_t, hf k (by omega) hk2 hk1 (by omega), bnd1_mk, concat4 N _ _ _ _ (by omega), bnd1_mk, ih]; simp
    | false =>
      rw [hc] at hB
      simp only [cond_false] at hB
      subst hB
      rw [br_f, concat4 N _ _ _ _ (by omega), bnd1_mk, ih]; simp
theorem encode_eq (N : Nat) : ∀ (M : Nat) (l : Tl), l.nodes < M → l.nodes < N → l.wf → L63 l → (encL l).length ≤ 4096 → s_encode N M l.enc = some (encL l)
  | 0, l, h, _, _, _, _ => by omega
  | M + 1, l, h, hN, hw, hl, hE => by
    have := l.len_le
    exact encode_loop N l.nodes (s_encode N M) (fun k hk hkw hkl hkE => encode_eq N M k (by omega) (by omega) hkw hkl hkE) l [] N [] (by omega) (Nat.le_refl _) hw (by simpa using hl) (by simpa using hE)
/-- Encode -/
def encR (l : Tl) : List UInt8 × Int := if okL 1 l = true then (if (encL l).length ≤ 4096 then (encL l, 0) else ([], 3)) else ([], 1)
theorem Encode_eq (l : Tl) (h : l.nodes < N) (hw : l.wf) (hl : L63 l) (hwt : l.wt ≤ 20000) : s_Encode N l.enc = some (encR l) := by
  unfold s_Encode encR
  rw [valid_eq N N l 1 h h hw hl (by omega), bnd1_mk, br_not]
  cases hok : okL 1 l with
  | false => rfl
  | true =>
    obtain ⟨s, s1, s2, s3, s4, s5⟩ := size_eq N N l 1 h h hw hl hwt hok
    simp only [br_t, if_true, s1, bnd1_mk, br_dec]
    by_cases hE : (encL l).length ≤ 4096
    · rw [if_pos hE, s2 (by omega), if_neg (by omega), encode_eq N N l h h hw hl hE, bnd1_mk]
    · rw [if_neg hE, if_pos (s3 (by omega))]
end
end Go.Proofs.Ytllnklkjkjmjbaa.En

/- Conditions: which are valid, how long, how deep, satisfied: the program and the reference. -/
namespace Go.Proofs.Ytllnklkjkjmjbaa.En
open Go
set_option linter.unusedVariables false
abbrev ce (o m : Int) (k : Cl) : V := .agg [.int .i64 o, .int .i64 m, .sl 46 k.enc]
abbrev K63 (k : Cl) : Prop := k.len ≤ 9223372036854775807
theorem enc_cons (o m : Int) (k r : Cl) : (Cl.cons o m k r).enc = ce o m k :: r.enc := rfl
theorem stepC (pre : List V) (x : V) (r : Cl) (h : pre.length + (r.len + 1) ≤ 9223372036854775807) :
    (pre.length : Int) < ((pre ++ x :: r.enc).length : Int) ∧ (0 : Int) ≤ pre.length ∧ IntKind.i64.wrap ((pre.length : Int) + 1) = ((pre ++ [x]).length : Int) ∧ ((pre ++ x :: r.enc).length : Int) = (((pre ++ [x]) ++ r.enc).length : Int) :=
  stepI pre x r.enc (by rw [Cl.enc_len]; exact h)
section
variable (N : Nat)
theorem andNot_eq {m : Int} (h1 : 1 ≤ m) (h2 : m ≤ 51) : decide (bitsI BinOp.andNot IntKind.i64 m 51 = 0) = decide (bitsI BinOp.and IntKind.i64 51 m = m) := by
  have key : ∀ n : Fin 52, decide (bitsI BinOp.andNot IntKind.i64 (n.val : Int) 51 = 0) = decide (bitsI BinOp.and IntKind.i64 51 (n.val : Int) = (n.val : Int)) := by decide +kernel
  obtain ⟨k, rfl⟩ := Int.eq_ofNat_of_zero_le (by omega : 0 ≤ m)
  exact key ⟨k, by omega⟩
theorem IndexFuncA_loop (f : Int → Int → List V → Int → Option Bool) (n : Nat) (d : Int) (hf : ∀ (o m : Int) (k : Cl) (d : Int), k.nodes < n → k.wf → K63 k → f o m k.enc d = some (vC o m k)) :
    ∀ (l : Cl) (pre : List V) (t : Nat), l.len < t → l.nodes ≤ n → l.wf → pre.length + l.len ≤ 9223372036854775807 →
      ∃ i, S_IndexFuncA_2 N f (pre ++ l.enc) ((pre ++ l.enc).length : Int) d t (pre.length : Int) (fun n0 => some n0) (some (-1)) = some i ∧ decide (0 ≤ i) = !vL l
  | l, pre, 0, ht, _, _, _ => by omega
  | .nil, pre, t + 1, ht, _, _, _ => by
    unfold S_IndexFuncA_2 F_IndexFuncA_2
    simp only [Cl.enc, br_t, br_f, br_dec, br_not, br_and, br_or, bnd1_mk, bnd2_mk, bnd3_mk, bnd4_mk, bnd5_mk, bnd10_mk, at_zero, at_succ, at_mid, unInt_mk, unBool_mk, unStr_mk, unBytes_mk, unSl_mk, unAgg_mk, unCons_mk, unNil_mk, endI, if_false]
    exact ⟨-1, rfl, by simp [vL]⟩
  | .cons o m k r, pre, t + 1, ht, hn, hw, hl => by
    simp only [Cl.len, Cl.nodes] at ht hn hl
    obtain ⟨_, _, hk1, hk2, hr⟩ := hw
    obtain ⟨h1, h2, h3, h4⟩ := stepC pre (ce o m k) r hl
    obtain ⟨i, ih1, ih2⟩ := IndexFuncA_loop f n d hf r (pre ++ [ce o m k]) t (by omega) (by omega) hr (by simp; omega)
    rw [← mid, ← h3] at ih1
    unfold S_IndexFuncA_2 F_IndexFuncA_2 s_avalid1 C_avalid1
    rw [vL_cons]
    simp only [enc_cons, br_t, br_f, br_dec, br_not, br_and, br_or, bnd1_mk, bnd2_mk, bnd3_mk, bnd4_mk, bnd5_mk, bnd10_mk, at_zero, at_succ, at_mid, unInt_mk, unBool_mk, unStr_mk, unBytes_mk, unSl_mk, unAgg_mk, unCons_mk, unNil_mk, h1, h2, if_true, Int.toNat_natCast, hf o m k _ (by omega) hk2 hk1]
    cases vC o m k with
    | false => exact ⟨_, rfl, by simp⟩
    | true => exact ⟨i, ih1, by rw [ih2]; rfl⟩
theorem avalid_eq : ∀ (M : Nat) (o m : Int) (k : Cl) (d : Int), k.nodes < M → k.nodes < N → k.wf → K63 k → s_avalid N M o m k.enc d = some (vC o m k)
  | 0, o, m, k, d, h, _, _, _ => by omega
  | M + 1, o, m, k, d, h, hN, hw, hl => by
    have hln := Cl.len_le k
    obtain ⟨i, i1, i2⟩ := IndexFuncA_loop N (s_avalid N M) k.nodes d (fun o m k' d' a1 a2 a3 => avalid_eq M o m k' d' (by omega) (by omega) a2 a3) k [] N (by omega) (Nat.le_refl _) hw (by simpa using hl)
    have i1' : S_IndexFuncA_2 N (s_avalid N M) k.enc (k.enc.length : Int) d N 0 (fun n0 => some n0) (some (-1)) = some i := i1
    have hz : ((k.enc.length : Int) = 0) = (k.len = 0) := by rw [Cl.enc_len]; exact propext (by omega)
    have hp : ((0 : Int) < (k.enc.length : Int)) = (k.len ≠ 0) := by rw [Cl.enc_len]; exact propext (by omega)
    have hc : s_ContainsFuncA N (s_avalid N M) k.enc d = some (!vL k) := by
      unfold s_ContainsFuncA C_ContainsFuncA s_IndexFuncA C_IndexFuncA
      rw [i1', bnd1_mk]
      exact congrArg some i2
    have hv0 : k.len = 0 → vL k = true := by cases k <;> simp [Cl.len, vL]
    unfold s_avalid B_avalid
    simp only [hc, hz, hp, s_forms, bnd1_mk, br_dec, br_not, Bool.not_not, vC, vL, Bool.and_true]
    by_cases h0 : o < 0
    · rw [if_pos h0, if_neg (by omega), if_neg (by omega), if_neg (by omega), if_neg (by omega), if_neg (by omega)]
    rw [if_neg h0]
    by_cases h9 : 7 < o
    · rw [if_pos h9, if_neg (by omega), if_neg (by omega), if_neg (by omega), if_neg (by omega), if_neg (by omega)]
    rw [if_neg h9]
    rcases (by omega : o = 0 ∨ o = 1 ∨ o = 2 ∨ o = 3 ∨ o = 4 ∨ o = 5 ∨ o = 6 ∨ o = 7) with rfl | rfl | rfl | rfl | rfl | rfl | rfl | rfl
    · by_cases hm : m = 0 <;> by_cases hk : k.len = 0 <;> simp [hm, hk, hv0]
    · by_cases hm : m = 0 <;> by_cases hk : k.len = 0 <;> simp [hm, hk, hv0]
    · by_cases ha : m < 1 <;> by_cases hb : 8 < m <;> by_cases hk : k.len = 0 <;> simp [ha, hb, hk, hv0] <;> omega
    · by_cases ha : m < 1 <;> by_cases hb : 8 < m <;> by_cases hk : k.len = 0 <;> simp [ha, hb, hk, hv0] <;> omega
    · by_cases ha : m < 1 <;> by_cases hb : 5 < m <;> by_cases hk : k.len = 0 <;> simp [ha, hb, hk, hv0] <;> omega
    · by_cases ha : m < 1
      · simp [ha]; omega
      by_cases hb : 51 < m
      · have : ¬ bitsI BinOp.and IntKind.i64 51 m = m := fun e => by have := level_range (by omega) e; omega
        simp [ha, hb, this]
      have he := andNot_eq (m := m) (by omega) (by omega)
      rw [decide_eq_decide] at he
      by_cases hk : k.len = 0
      · by_cases hx : bitsI BinOp.and IntKind.i64 51 m = m
        · simp [ha, hb, hk, hv0, hx, he.2 hx]; omega
        · simp [ha, hb, hk, hv0, hx, he]
      · simp [ha, hb, hk]
    · by_cases hm : m = 0 <;> by_cases hk : k.len = 0 <;> simp [hm, hk]
    · by_cases hm : m = 0 <;> by_cases hk : k.len = 0 <;> simp [hm, hk]
/-! Nodes, depth -/
theorem measure_loop {R : Type} (f : Int → Int → List V → Option (Int × Int)) (n : Nat) (hf : ∀ (o m : Int) (k : Cl), k.nodes < n → k.wf → K63 k → f o m k.enc = some ((k.nodes : Int) + 1, (k.dep : Int) + 1)) (x y : Int) (z : List V) (K : Int → Int → Option R) :
    ∀ (l : Cl) (pre : List V) (t : Nat) (a b : Nat), l.len < t → l.nodes ≤ n → l.wf → pre.length + l.len ≤ 9223372036854775807 → a + l.nodes ≤ 10000000000000000 →
      S_measure_3 N f (pre ++ l.enc) ((pre ++ l.enc).length : Int) x y z t (a : Int) (b : Int) (pre.length : Int) K = K ((a + l.nodes : Nat) : Int) ((max b l.dep : Nat) : Int)
  | l, pre, 0, a, b, ht, _, _, _, _ => by omega
  | .nil, pre, t + 1, a, b, ht, _, _, _, _ => by
    unfold S_measure_3 F_measure_3
    simp only [Cl.enc, br_t, br_f, br_dec, br_not, br_and, br_or, bnd1_mk, bnd2_mk, bnd3_mk, bnd4_mk, bnd5_mk, bnd10_mk, at_zero, at_succ, at_mid, unInt_mk, unBool_mk, unStr_mk, unBytes_mk, unSl_mk, unAgg_mk, unCons_mk, unNil_mk, endI, if_false]
    simp [Cl.nodes, Cl.dep]
  | .cons o m k r, pre, t + 1, a, b, ht, hn, hw, hl, ha => by
    simp only [Cl.len, Cl.nodes] at ht hn hl ha
    obtain ⟨_, _, hk1, hk2, hr⟩ := hw
    obtain ⟨h1, h2, h3, h4⟩ := stepC pre (ce o m k) r hl
    have ih := measure_loop f n hf x y z K r (pre ++ [ce o m k]) t (a + (k.nodes + 1)) (max b (k.dep + 1)) (by omega) (by omega) hr (by simp; omega) (by omega)
    rw [← mid, ← h3] at ih
    unfold S_measure_3 F_measure_3
    simp only [enc_cons, br_t, br_f, br_dec, br_not, br_and, br_or, bnd1_mk, bnd2_mk, bnd3_mk, bnd4_mk, bnd5_mk, bnd10_mk, at_zero, at_succ, at_mid, unInt_mk, unBool_mk, unStr_mk, unBytes_mk, unSl_mk, unAgg_mk, unCons_mk, unNil_mk, h1, h2, if_true, Int.toNat_natCast, hf o m k (by omega) hk2 hk1]
    have e1 : IntKind.i64.wrap ((a : Int) + ((k.nodes : Int) + 1)) = ((a + (k.nodes + 1) : Nat) : Int) := by rw [w64 (by omega) (by omega)]; omega
    have e2 : max (b : Int) ((k.dep : Int) + 1) = ((max b (k.dep + 1) : Nat) : Int) := by omega
    rw [e1, e2, ih]
    simp only [Cl.nodes, Cl.dep]
    rw [show max (max b (k.dep + 1)) r.dep = max b (max (k.dep + 1) r.dep) by omega, show a + (k.nodes + 1) + r.nodes = a + (k.nodes + r.nodes + 1) by omega]
theorem measure_eq : ∀ (M : Nat) (o m : Int) (k : Cl), k.nodes < M → k.nodes < N → k.nodes ≤ 1000000000000000 → k.wf → K63 k → s_measure N M o m k.enc = some ((k.nodes : Int) + 1, (k.dep : Int) + 1)
  | 0, o, m, k, h, _, _, _, _ => by omega
  | M + 1, o, m, k, h, hN, hs, hw, hl => by
    have hln := Cl.len_le k
    have hd := Cl.dep_le k
    have hL := measure_loop N (s_measure N M) k.nodes (fun o m k' a1 a2 a3 => measure_eq M o m k' (by omega) (by omega) (by omega) a2 a3) o m k.enc (fun n0 n1 => some (n0, IntKind.i64.wrap (n1 + 1))) k [] N 1 0 (by omega) (Nat.le_refl _) hw (by simpa using hl) (by omega)
    unfold s_measure B_measure
    refine hL.trans ?_
    rw [w64 (by omega) (by omega)]
    congr 2 <;> omega
/-- A condition that came in, small. -/
structure GoodC (N : Nat) (k : Cl) : Prop where
  wf : k.wf
  len : K63 k
  nodes : k.nodes ≤ 1000000000000000
  fuel : k.nodes < N
def chk (o m : Int) (k : Cl) : Int := if vC o m k = true then (if 16 < k.nodes + 1 ∨ 8 < k.dep + 1 then 3 else 0) else 1
theorem aCheck_eq (o m : Int) (k : Cl) (g : GoodC N k) : s_aCheck N o m k.enc = some (chk o m k) := by
  unfold s_aCheck chk
  rw [avalid_eq N N o m k 1 g.fuel g.fuel g.wf g.len, bnd1_mk, br_not]
  cases vC o m k with
  | false => rfl
  | true =>
    simp only [measure_eq N N o m k g.fuel g.fuel g.nodes g.wf g.len, br_t, bnd2_mk, br_dec, if_true]
    by_cases h1 : 16 < k.nodes + 1
    · rw [if_pos (by omega), if_pos (.inl h1)]
    · rw [if_neg (by omega)]
      by_cases h2 : 8 < k.dep + 1
      · rw [if_pos (by omega), if_pos (.inr h2)]
      · rw [if_neg (by omega), if_neg (by omega)]
theorem chk_zero {o m : Int} {k : Cl} (h : chk o m k = 0) : vC o m k = true ∧ k.nodes ≤ 15 ∧ k.dep ≤ 7 := by
  unfold chk at h
  split at h
  · rename_i hv
    split at h
    · omega
    · exact ⟨hv, by omega, by omega⟩
  · omega
/-! Satisfied -/
end
end Go.Proofs.Ytllnklkjkjmjbaa.En

/- Rules: which are small, which are valid, what they permit: the program and the reference. -/
namespace Go.Proofs.Ytllnklkjkjmjbaa.En
open Go
set_option linter.unusedVariables false
/-- A rule. -/
structure Ru where
  ops : Int
  o : Int
  m : Int
  k : Cl
  deriving DecidableEq
def Ru.enc (r : Ru) : V := .agg [.int .i64 r.ops, .int .i64 r.o, .int .i64 r.m, .sl 46 r.k.enc]
def rE : List Ru → List V
  | [] => []
  | r :: l => .agg [.int .i64 r.ops, .int .i64 r.o, .int .i64 r.m, .sl 46 r.k.enc] :: rE l
theorem rE_len : ∀ l : List Ru, (rE l).length = l.length
  | [] => rfl
  | r :: l => by simp [rE, rE_len l]
theorem rE_append : ∀ a b : List Ru, rE (a ++ b) = rE a ++ rE b
  | [], b => rfl
  | r :: a, b => by simp [rE, rE_append a b]
theorem stepR (pre : List V) (x : V) (r : List Ru) (h : pre.length + (r.length + 1) ≤ 9223372036854775807) :
    (pre.length : Int) < ((pre ++ x :: rE r).length : Int) ∧ (0 : Int) ≤ pre.length ∧ IntKind.i64.wrap ((pre.length : Int) + 1) = ((pre ++ [x]).length : Int) ∧ ((pre ++ x :: rE r).length : Int) = (((pre ++ [x]) ++ rE r).length : Int) :=
  stepI pre x (rE r) (by rw [rE_len]; exact h)
def chkRL : List Ru → Int
  | [] => 0
  | r :: l => if r.ops < 1 ∨ 255 < r.ops then 1 else if chk r.o r.m r.k = 0 then chkRL l else chk r.o r.m r.k
def chkR (l : List Ru) : Int := if 8 < l.length then 3 else chkRL l
section
variable (N : Nat)
/-- A rule's condition that came in. -/
structure InC (N : Nat) (k : Cl) : Prop where
  wf : k.wf
  len : K63 k
  fuel : k.nodes < N
theorem InC.good {k : Cl} (h : InC N k) (hn : k.nodes ≤ 1000000000000000) : GoodC N k := ⟨h.wf, h.len, hn, h.fuel⟩
theorem aCheckRules_loop {R : Type} (K0 : Int → Option R) (K1 : Option R) : ∀ (l : List Ru) (pre : List V) (t : Nat), l.length < t → (∀ r ∈ l, GoodC N r.k) → pre.length + l.length ≤ 9223372036854775807 →
      S_aCheckRules_4 N (pre ++ rE l) ((pre ++ rE l).length : Int) t (pre.length : Int) K0 K1 = if chkRL l = 0 then K1 else K0 (chkRL l)
  | l, pre, 0, ht, _, _ => by omega
  | [], pre, t + 1, ht, _, _ => by
    unfold S_aCheckRules_4 F_aCheckRules_4
    simp only [rE, br_t, br_f, br_dec, br_not, br_and, br_or, bnd1_mk, bnd2_mk, bnd3_mk, bnd4_mk, bnd5_mk, bnd10_mk, at_zero, at_succ, at_mid, unInt_mk, unBool_mk, unStr_mk, unBytes_mk, unSl_mk, unAgg_mk, unCons_mk, unNil_mk, endI, if_false, chkRL, if_true]
  | r :: l, pre, t + 1, ht, hg, hl => by
    simp only [List.length_cons] at ht hl
    obtain ⟨h1, h2, h3, h4⟩ := stepR pre (.agg [.int .i64 r.ops, .int .i64 r.o, .int .i64 r.m, .sl 46 r.k.enc]) l hl
    have ih := aCheckRules_loop K0 K1 l (pre ++ [.agg [.int .i64 r.ops, .int .i64 r.o, .int .i64 r.m, .sl 46 r.k.enc]]) t (by omega) (fun r hr => hg r (by simp [hr])) (by simp; omega)
    rw [← mid, ← h3] at ih
    unfold S_aCheckRules_4 F_aCheckRules_4
    simp only [rE, br_t, br_f, br_dec, br_not, br_and, br_or, bnd1_mk, bnd2_mk, bnd3_mk, bnd4_mk, bnd5_mk, bnd10_mk, at_zero, at_succ, at_mid, unInt_mk, unBool_mk, unStr_mk, unBytes_mk, unSl_mk, unAgg_mk, unCons_mk, unNil_mk, h1, h2, if_true, Int.toNat_natCast, aCheck_eq N r.o r.m r.k (hg r (by simp)), ih]
    have ec : chkRL (r :: l) = if r.ops < 1 ∨ 255 < r.ops then 1 else if chk r.o r.m r.k = 0 then chkRL l else chk r.o r.m r.k := rfl
    by_cases c1 : r.ops < 1
    · have e : chkRL (r :: l) = 1 := by rw [ec, if_pos (.inl c1)]
      rw [if_pos c1, e, if_neg (by omega)]
    rw [if_neg c1]
    by_cases c2 : 255 < r.ops
    · have e : chkRL (r :: l) = 1 := by rw [ec, if_pos (.inr c2)]
      rw [if_pos c2, e, if_neg (by omega)]
    rw [if_neg c2]
    by_cases c3 : chk r.o r.m r.k = 0
    · have e : chkRL (r :: l) = chkRL l := by rw [ec, if_neg (by omega), if_pos c3]
      rw [if_pos c3, e]
    · have e : chkRL (r :: l) = chk r.o r.m r.k := by rw [ec, if_neg (by omega), if_neg c3]
      rw [if_neg c3, e, if_neg c3]
/-- Rules that came in, few and small; or rules that were read. -/
structure GoodR (N : Nat) (l : List Ru) : Prop where
  len : l.length ≤ 1000
  fuel : 1000 < N
  good : ∀ r ∈ l, GoodC N r.k
theorem aCheckRules_eq (l : List Ru) (g : GoodR N l) : s_aCheckRules N (rE l) = some (chkR l) := by
  have h1 := g.len
  have h2 := g.fuel
  have hL : S_aCheckRules_4 N (rE l) ((rE l).length : Int) N 0 (fun n0 => some n0) (some 0) = if chkRL l = 0 then some 0 else some (chkRL l) :=
    aCheckRules_loop N (fun n0 => some n0) (some 0) l [] N (by omega) g.good (by simp; omega)
  unfold s_aCheckRules chkR
  rw [hL, rE_len, br_dec]
  by_cases c : 8 < l.length
  · rw [if_pos (by omega), if_pos c]
  · rw [if_neg (by omega), if_neg c]
    by_cases c2 : chkRL l = 0
    · rw [if_pos c2, c2]
    · rw [if_neg c2]
theorem chkRL_zero : ∀ {l : List Ru}, chkRL l = 0 → ∀ r ∈ l, 1 ≤ r.ops ∧ r.ops ≤ 255 ∧ chk r.o r.m r.k = 0
  | [], _, r, hr => by simp at hr
  | a :: l, h, r, hr => by
    unfold chkRL at h
    split at h
    · omega
    · split at h
      · rename_i c1 c2
        rcases List.mem_cons.1 hr with rfl | hr
        · exact ⟨by omega, by omega, c2⟩
        · exact chkRL_zero h r hr
      · rename_i c1 c2; exact absurd h c2
theorem chkR_zero {l : List Ru} (h : chkR l = 0) : l.length ≤ 8 ∧ ∀ r ∈ l, 1 ≤ r.ops ∧ r.ops ≤ 255 ∧ vC r.o r.m r.k = true ∧ r.k.nodes ≤ 15 ∧ r.k.dep ≤ 7 := by
  unfold chkR at h
  split at h
  · omega
  · rename_i c
    refine ⟨by omega, fun r hr => ?_⟩
    obtain ⟨h1, h2, h3⟩ := chkRL_zero h r hr
    obtain ⟨h4, h5, h6⟩ := chk_zero h3
    exact ⟨h1, h2, h4, h5, h6⟩
/-! What is permitted -/
end
end Go.Proofs.Ytllnklkjkjmjbaa.En

/- Decoding data objects: what the program and the reference compute; there and back. -/
namespace Go.Proofs.Ytllnklkjkjmjbaa.En
open Go
set_option linter.unusedVariables false
def rdTag : List UInt8 → Except Int (Int × List UInt8)
  | [] => .error 4
  | u :: r => if (u.toNat : Int) = 0 then .error 4 else if ¬ (u.toNat : Int) % 32 = 31 then .ok (u.toNat, r) else
    match r with
    | [] => .error 5
    | w :: r' => if tagV (256 * (u.toNat : Int) + w.toNat) = true then .ok (256 * (u.toNat : Int) + w.toNat, r') else .error 4
def rdLen : List UInt8 → Except Int (Int × List UInt8)
  | [] => .error 5
  | u :: r => if (u.toNat : Int) < 128 then .ok (u.toNat, r) else if (u.toNat : Int) = 129 then
      (match r with
       | [] => .error 5
       | w :: r' => if (w.toNat : Int) < 128 then .error 4 else .ok (w.toNat, r'))
    else if (u.toNat : Int) = 130 then
      (match r with
       | w :: x :: r' => if 256 * (w.toNat : Int) + x.toNat < 256 then .error 4 else .ok (256 * (w.toNat : Int) + x.toNat, r')
       | _ => .error 5)
    else .error 4
def triple : Except Int (Int × List UInt8) → Int × List UInt8 × Int
  | .error e => (0, [], e)
  | .ok (t, r) => (t, r, 0)
theorem at_one {R α : Type} (x y : α) (r : List α) (K : α → Option R) : at? (x :: y :: r) 1 K = K y := rfl
theorem shl8_or' (u w : UInt8) : bitsI .or .i64 (shlI .i64 (u.toNat : Int) 8) (w.toNat : Int) = 256 * (u.toNat : Int) + w.toNat := by
  have := u8_lt u; have := u8_lt w
  exact shl8_or _ _ (by omega) (by omega) (by omega) (by omega)
theorem or0' (w : UInt8) : bitsI .or .i64 0 (w.toNat : Int) = w.toNat := by have := u8_lt w; exact or0 _ (by omega) this
theorem tag_eq (N : Nat) (b : List UInt8) (h : b ≠ []) : s_tag N b = some (triple (rdTag b)) := by
  match b, h with
  | [u], _ =>
    have hl : (([u] : List UInt8).length : Int) = 1 := rfl
    unfold s_tag rdTag
    simp only [br_t, br_f, br_dec, br_not, br_and, br_or, bnd1_mk, bnd2_mk, bnd3_mk, bnd4_mk, bnd5_mk, bnd10_mk, at_zero, w64_u8, and31, List.drop_succ_cons, List.drop_zero, hl, (by decide : (0 : Int) < 1), (by decide : (1 : Int) ≤ 1), (by decide : (1 : Int) < 2), if_true]
    by_cases c0 : (u.toNat : Int) = 0
    · simp only [c0, if_true]; rfl
    · by_cases c1 : (u.toNat : Int) % 32 = 31
      · simp only [c0, c1, if_true, if_false, not_true]; rfl
      · simp only [c0, c1, if_true, if_false, not_false_iff]; rfl
  | u :: w :: r', _ =>
    have hu := u8_lt u
    have hw := u8_lt w
    have hl : ((u :: w :: r').length : Int) = r'.length + 2 := by simp; omega
    have f1 : (0 : Int) < r'.length + 2 := by omega
    have f2 : (1 : Int) ≤ r'.length + 2 := by omega
    have f3 : ¬ ((r'.length : Int) + 2 < 2) := by omega
    have f4 : (1 : Int) < r'.length + 2 := by omega
    have f5 : (2 : Int) ≤ r'.length + 2 := by omega
    unfold s_tag rdTag
    simp only [br_t, br_f, br_dec, br_not, br_and, br_or, bnd1_mk, bnd2_mk, bnd3_mk, bnd4_mk, bnd5_mk, bnd10_mk, at_zero, at_one, w64_u8, and31, shl8_or', List.drop_succ_cons, List.drop_zero, hl, f1, f2, f3, f4, f5, if_true, if_false, Valid_eq N (256 * (u.toNat : Int) + w.toNat) ⟨by omega, by omega⟩]
    by_cases c0 : (u.toNat : Int) = 0
    · simp only [c0, if_true]; rfl
    · by_cases c1 : (u.toNat : Int) % 32 = 31
      · simp only [c0, c1, if_true, if_false, not_true]
        cases hv : tagV (256 * (u.toNat : Int) + w.toNat) <;> rfl
      · simp only [c0, c1, if_true, if_false, not_false_iff]; rfl
theorem length_eq (N : Nat) (b : List UInt8) : s_length N b = some (triple (rdLen b)) := by
  match b with
  | [] => rfl
  | u :: r =>
    have hl : ((u :: r).length : Int) = r.length + 1 := by simp
    have f0 : ¬ ((r.length : Int) + 1 = 0) := by omega
    have f1 : (0 : Int) < r.length + 1 := by omega
    have f2 : (1 : Int) ≤ r.length + 1 := by omega
    unfold s_length rdLen
    simp only [br_t, br_f, br_dec, br_not, br_and, br_or, bnd1_mk, bnd2_mk, bnd3_mk, bnd4_mk, bnd5_mk, bnd10_mk, at_zero, w64_u8, or0', shl8_or', List.drop_succ_cons, List.drop_zero, hl, f0, f1, f2, if_true, if_false]
    by_cases c0 : (u.toNat : Int) < 128
    · simp only [c0, if_true]; rfl
    · by_cases c1 : (u.toNat : Int) = 129
      · simp only [c1, if_true, (by decide : ¬ ((129 : Int) < 128)), if_false]
        match r with
        | [] => rfl
        | w :: r' =>
          have hl : ((w :: r').length : Int) = r'.length + 1 := by simp
          have g0 : ¬ ((r'.length : Int) + 1 < 1) := by omega
          have g1 : (0 : Int) < r'.length + 1 := by omega
          have g2 : (1 : Int) ≤ r'.length + 1 := by omega
          have e0 : ∀ (K : UInt8 → Option (Int × List UInt8 × Int)), at? (w :: r') 0 K = K w := fun _ => rfl
          simp only [hl, g0, g1, g2, if_true, if_false]
          rw [e0]
          by_cases c2 : (w.toNat : Int) < 128
          · simp only [c2, if_true]; rfl
          · simp only [c2, if_false]; rfl
      · by_cases c2 : (u.toNat : Int) = 130
        · simp only [c2, if_true, (by decide : ¬ ((130 : Int) < 128)), (by decide : ¬ ((130 : Int) = 129)), if_false]
          match r with
          | [] => rfl
          | [w] => rfl
          | w :: x :: r' =>
            have hl : ((w :: x :: r').length : Int) = r'.length + 2 := by simp; omega
            have hl2 : ((x :: r').length : Int) = r'.length + 1 := by simp
            have g0 : ¬ ((r'.length : Int) + 2 < 2) := by omega
            have g1 : (0 : Int) < r'.length + 2 := by omega
            have g2 : (1 : Int) ≤ r'.length + 2 := by omega
            have g3 : (0 : Int) < r'.length + 1 := by omega
            have g4 : (1 : Int) ≤ r'.length + 1 := by omega
            have e0 : ∀ (K : UInt8 → Option (Int × List UInt8 × Int)), at? (w :: x :: r') 0 K = K w := fun _ => rfl
            have e1 : ∀ (K : UInt8 → Option (Int × List UInt8 × Int)), at? (x :: r') 0 K = K x := fun _ => rfl
            simp only [hl, g0, g1, g2, if_true, if_false, List.drop_succ_cons, List.drop_zero]
            rw [e0]
            simp only [hl2, g3, g4, if_true]
            rw [e1]
            by_cases c3 : 256 * (w.toNat : Int) + x.toNat < 256
            · simp only [c3, if_true]; rfl
            · simp only [c3, if_false]; rfl
        · simp only [c0, c1, c2, if_false]; rfl
end Go.Proofs.Ytllnklkjkjmjbaa.En

/- Decoding lists of data objects. -/
namespace Go.Proofs.Ytllnklkjkjmjbaa.En
open Go
set_option linter.unusedVariables false
def dec : Nat → Int → List UInt8 → Except Int Tl
  | 0, _, _ => .error 4
  | n + 1, d, b =>
    if b.length = 0 then .ok .nil else if 8 < d then .error 4 else
    match rdTag b with
    | .error e => .error e
    | .ok (t, r) => match rdLen r with
      | .error e => .error e
      | .ok (m, r') =>
        if (r'.length : Int) < m then .error 5
        else if tagC t = true then
          (match dec n (d + 1) (r'.take m.toNat) with
           | .error e => .error e
           | .ok k => match dec n d (r'.drop m.toNat) with
             | .error e => .error e
             | .ok l => .ok (.cons t [] k l))
        else
          (match dec n d (r'.drop m.toNat) with
           | .error e => .error e
           | .ok l => .ok (.cons t (r'.take m.toNat) .nil l))
theorem rdTag_ok {b r : List UInt8} {t : Int} (h : rdTag b = .ok (t, r)) : tagV t = true ∧ b = tagB t ++ r := by
  match b, h with
  | u :: r0, h =>
    have hu := u8_lt u
    unfold rdTag at h
    dsimp only at h
    by_cases c0 : (u.toNat : Int) = 0
    · rw [if_pos c0] at h; cases h
    · rw [if_neg c0] at h
      by_cases c1 : (u.toNat : Int) % 32 = 31
      · rw [if_neg (fun h => h c1)] at h
        match r0, h with
        | w :: r', h =>
          have hw := u8_lt w
          simp only at h
          by_cases hv : tagV (256 * (u.toNat : Int) + w.toNat) = true
          · rw [if_pos hv] at h
            injection h with h
            injection h with e1 e2
            subst e1 e2
            refine ⟨hv, ?_⟩
            unfold tagB
            simp [tagV] at hv
            rw [if_pos (by omega), byteI_eq (u := u) (by omega), byteI_eq (u := w) (by omega)]; rfl
          · rw [if_neg hv] at h; cases h
      · rw [if_pos c1] at h
        injection h with h
        injection h with e1 e2
        subst e1 e2
        refine ⟨by simp [tagV]; omega, ?_⟩
        unfold tagB
        rw [if_neg (by omega), byteI_u8]; rfl
set_option maxRecDepth 100000 in
theorem rdTag_err {b : List UInt8} {e : Int} (h : rdTag b = .error e) : e = 4 ∨ e = 5 := by
  unfold rdTag at h
  repeat' split at h
  all_goals first | cases h | skip
  all_goals simp
set_option maxRecDepth 100000 in
theorem rdLen_ok {b r : List UInt8} {m : Int} (h : rdLen b = .ok (m, r)) : 0 ≤ m ∧ m ≤ 65535 ∧ b = lenB m ++ r := by
  match b, h with
  | u :: r0, h =>
    have hu := u8_lt u
    unfold rdLen at h
    dsimp only at h
    by_cases c0 : (u.toNat : Int) < 128
    · rw [if_pos c0] at h
      injection h with h
      injection h with e1 e2
      subst e1 e2
      refine ⟨by omega, by omega, ?_⟩
      unfold lenB
      rw [if_pos c0, byteI_u8]; rfl
    · rw [if_neg c0] at h
      by_cases c1 : (u.toNat : Int) = 129
      · rw [if_pos c1] at h
        match r0, h with
        | w :: r', h =>
          have hw := u8_lt w
          simp only at h
          by_cases c2 : (w.toNat : Int) < 128
          · rw [if_pos c2] at h; cases h
          · rw [if_neg c2] at h
            injection h with h
            injection h with e1 e2
            subst e1 e2
            refine ⟨by omega, by omega, ?_⟩
            unfold lenB
            rw [if_neg c2, if_pos hw, byteI_u8]
            have : u = 129 := by apply UInt8.toNat_inj.1; show u.toNat = 129; omega
            rw [this]; rfl
      · rw [if_neg c1] at h
        by_cases c2 : (u.toNat : Int) = 130
        · rw [if_pos c2] at h
          match r0, h with
          | w :: x :: r', h =>
            have hw := u8_lt w
            have hx := u8_lt x
            simp only at h
            by_cases c3 : 256 * (w.toNat : Int) + x.toNat < 256
            · rw [if_pos c3] at h; cases h
            · rw [if_neg c3] at h
              injection h with h
              injection h with e1 e2
              subst e1 e2
              refine ⟨by omega, by omega, ?_⟩
              unfold lenB
              rw [if_neg (by omega), if_neg c3, byteI_eq (u := w) (by omega), byteI_eq (u := x) (by omega)]
              have : u = 130 := by apply UInt8.toNat_inj.1; show u.toNat = 130; omega
              rw [this]; rfl
        · rw [if_neg c2] at h; cases h
set_option maxRecDepth 100000 in
theorem rdLen_err {b : List UInt8} {e : Int} (h : rdLen b = .error e) : e = 4 ∨ e = 5 := by
  match b, h with
  | [], h => injection h with h; exact .inr h.symm
  | u :: r, h =>
    unfold rdLen at h
    dsimp only at h
    by_cases c0 : (u.toNat : Int) < 128
    · rw [if_pos c0] at h; cases h
    · rw [if_neg c0] at h
      by_cases c1 : (u.toNat : Int) = 129
      · rw [if_pos c1] at h
        match r, h with
        | [], h => injection h with h; exact .inr h.symm
        | w :: r', h =>
          dsimp only at h
          by_cases c2 : (w.toNat : Int) < 128
          · rw [if_pos c2] at h; injection h with h; exact .inl h.symm
          · rw [if_neg c2] at h; cases h
      · rw [if_neg c1] at h
        by_cases c2 : (u.toNat : Int) = 130
        · rw [if_pos c2] at h
          match r, h with
          | [], h => injection h with h; exact .inr h.symm
          | [w], h => injection h with h; exact .inr h.symm
          | w :: x :: r', h =>
            dsimp only at h
            by_cases c3 : 256 * (w.toNat : Int) + x.toNat < 256
            · rw [if_pos c3] at h; injection h with h; exact .inl h.symm
            · rw [if_neg c3] at h; cases h
        · rw [if_neg c2] at h; injection h with h; exact .inl h.symm
theorem rdTag_put {t : Int} (h : tagV t = true) (x : List UInt8) : rdTag (tagB t ++ x) = .ok (t, x) := by
  have h' := h
  simp [tagV] at h'
  unfold tagB
  by_cases c : 255 < t
  · rw [if_pos c]
    show rdTag (byteI (t / 256) :: byteI t :: x) = _
    unfold rdTag
    simp only [byteI_toNat]
    rw [if_neg (by omega), if_neg (by omega)]
    have e : 256 * (t / 256 % 256) + t % 256 = t := by omega
    rw [e, if_pos h]
  · rw [if_neg c]
    show rdTag (byteI t :: x) = _
    unfold rdTag
    simp only [byteI_toNat]
    rw [if_neg (by omega), if_pos (by omega)]
    congr 2; omega
theorem rdLen_put {m : Int} (h0 : 0 ≤ m) (h1 : m ≤ 65535) (x : List UInt8) : rdLen (lenB m ++ x) = .ok (m, x) := by
  unfold lenB
  by_cases c : m < 128
  · rw [if_pos c]
    show rdLen (byteI m :: x) = _
    unfold rdLen
    simp only [byteI_toNat]
    rw [if_pos (by omega)]; congr 2; omega
  · rw [if_neg c]
    by_cases c2 : m < 256
    · rw [if_pos c2]
      show rdLen (129 :: byteI m :: x) = _
      unfold rdLen
      simp only [byteI_toNat]
      rw [if_neg (by decide), if_pos (by decide), if_neg (by omega)]; congr 2; omega
    · rw [if_neg c2]
      show rdLen (130 :: byteI (m / 256) :: byteI m :: x) = _
      unfold rdLen
      simp only [byteI_toNat]
      rw [if_neg (by decide), if_neg (by decide), if_pos (by decide), if_neg (by omega)]; congr 2; omega
theorem dec_err : ∀ (n : Nat) (d : Int) (b : List UInt8) (e : Int), dec n d b = .error e → e = 4 ∨ e = 5
  | 0, d, b, e, h => by simp [dec] at h; omega
  | n + 1, d, b, e, h => by
    unfold dec at h
    split at h
    · cases h
    · split at h
      · injection h with h; omega
      · split at h
        · rename_i e' he; injection h with h; subst h; exact rdTag_err he
        · split at h
          · rename_i e' he; injection h with h; subst h; exact rdLen_err he
          · split at h
            · injection h with h; omega
            · split at h
              · split at h
                · rename_i e' he; injection h with h; subst h; exact dec_err n _ _ _ he
                · split at h
                  · rename_i e' he; injection h with h; subst h; exact dec_err n _ _ _ he
                  · cases h
              · split at h
                · rename_i e' he; injection h with h; subst h; exact dec_err n _ _ _ he
                · cases h
/-- Enough fuel is enough. -/
theorem dec_fuel : ∀ (n : Nat) (m : Nat) (d : Int) (b : List UInt8), b.length < n → b.length < m → dec n d b = dec m d b
  | 0, m, d, b, h, _ => by omega
  | n + 1, 0, d, b, _, h => by omega
  | n + 1, m + 1, d, b, h1, h2 => by
    unfold dec
    split
    · rfl
    · split
      · rfl
      · split
        · rfl
        · rename_i t r hr
          obtain ⟨_, e1⟩ := rdTag_ok hr
          have ht := tagB_len t
          have hb : b.length = (tagB t).length + r.length := by rw [e1, List.length_append]
          split
          · rfl
          · rename_i q r' hr'
            obtain ⟨_, _, e2⟩ := rdLen_ok hr'
            have hl := lenB_len q
            have hb2 : r.length = (lenB q).length + r'.length := by rw [e2, List.length_append]
            have i1 := dec_fuel n m (d + 1) (r'.take q.toNat) (by rw [List.length_take]; omega) (by rw [List.length_take]; omega)
            have i2 := dec_fuel n m d (r'.drop q.toNat) (by rw [List.length_drop]; omega) (by rw [List.length_drop]; omega)
            rw [i1, i2]
/-- What is encoded is decoded. -/
theorem dec_enc : ∀ (l : Tl) (n : Nat) (d : Int), okL d l = true → (encL l).length ≤ 65535 → (encL l).length < n → dec n d (encL l) = .ok l
  | .nil, 0, d, _, _, h => by simp at h
  | .nil, n + 1, d, _, _, _ => by unfold dec; rw [if_pos (by rfl)]
  | .cons t v k r, 0, d, _, _, h => by simp at h
  | .cons t v k r, n + 1, d, hok, hE, hn => by
    unfold okL at hok
    simp only [Bool.and_eq_true, decide_eq_true_eq] at hok
    obtain ⟨⟨hd8, htv, hb⟩, hokr⟩ := hok
    have ht := tagB_len t
    have hl := lenB_len ((bif tagC t then encL k else v).length : Int)
    unfold dec
    rw [encL_cons] at hE hn ⊢
    generalize hB : (bif tagC t then encL k else v) = B at *
    simp only [List.length_append] at hE hn
    rw [if_neg (by simp only [List.length_append]; omega), if_neg (by omega)]
    rw [List.append_assoc, List.append_assoc, rdTag_put htv]
    simp only
    rw [rdLen_put (by omega) (by omega)]
    simp only
    rw [if_neg (by simp only [List.length_append]; omega)]
    rw [Int.toNat_natCast, List.take_left, List.drop_left]
    rw [dec_enc r n d hokr (by omega) (by omega)]
    cases hc : tagC t with
    | true =>
      rw [hc] at hB hb
      simp only [cond_true, Bool.and_eq_true] at hB hb
      subst hB
      rw [if_pos rfl, dec_enc k n (d + 1) hb.2 (by omega) (by omega)]
      have hv0 : v = [] := by cases v with | nil => rfl | cons a b => simp at hb
      rw [hv0]
    | false =>
      rw [hc] at hB hb
      simp only [cond_false] at hB hb
      subst hB
      have hk0 : k = .nil := by cases k with | nil => rfl | cons a b c d => simp [Tl.isNil] at hb
      rw [if_neg (by simp), hk0]
/-- What is decoded is encoded to the same bytes. -/
theorem enc_dec : ∀ (n : Nat) (d : Int) (b : List UInt8) (l : Tl), dec n d b = .ok l → okL d l = true ∧ encL l = b ∧ l.wt ≤ b.length ∧ l.wf
  | 0, d, b, l, h => by simp [dec] at h
  | n + 1, d, b, l, h => by
    unfold dec at h
    split at h
    · rename_i h0
      injection h with h
      subst h
      have : b = [] := List.length_eq_zero_iff.1 h0
      subst this
      exact ⟨rfl, rfl, Nat.le_refl _, trivial⟩
    · split at h
      · cases h
      · rename_i hd8
        split at h
        · cases h
        · rename_i t r hr
          obtain ⟨hv, e1⟩ := rdTag_ok hr
          have hvr := tagV_range hv
          have ht := tagB_len t
          have hb : b.length = (tagB t).length + r.length := by rw [e1, List.length_append]
          split at h
          · cases h
          · rename_i q r' hr'
            obtain ⟨hq0, hq1, e2⟩ := rdLen_ok hr'
            have hl := lenB_len q
            have hb2 : r.length = (lenB q).length + r'.length := by rw [e2, List.length_append]
            split at h
            · cases h
            · rename_i hlt
              have htake : (r'.take q.toNat).length = q.toNat := by rw [List.length_take]; omega
              have hdrop : (r'.drop q.toNat).length = r'.length - q.toNat := List.length_drop ..
              have hqq : ((r'.take q.toNat).length : Int) = q := by omega
              split at h
              · rename_i hc
                split at h
                · cases h
                · rename_i k hk
                  obtain ⟨k1, k2, k3, k4⟩ := enc_dec n _ _ _ hk
                  split at h
                  · cases h
                  · rename_i l' hl'
                    obtain ⟨l1, l2, l3, l4⟩ := enc_dec n _ _ _ hl'
                    injection h with h
                    subst h
                    refine ⟨by simp [okL, hv, hc, k1, l1]; omega, ?_, by simp only [Tl.wt, List.length_nil]; omega, ⟨by omega, by simp, ?_, k4, l4⟩⟩
                    · rw [encL_cons, hc, cond_true, k2, l2, hqq, e1, e2]
                      simp only [List.append_assoc, List.take_append_drop]
                    · have := k.len_wt; omega
              · rename_i hc
                split at h
                · cases h
                · rename_i l' hl'
                  obtain ⟨l1, l2, l3, l4⟩ := enc_dec n _ _ _ hl'
                  injection h with h
                  subst h
                  have hc' : tagC t = false := by simpa using hc
                  refine ⟨by simp [okL, hv, hc', l1, Tl.isNil]; omega, ?_, by simp only [Tl.wt]; omega, ⟨by omega, ?_, by simp [Tl.len], trivial, l4⟩⟩
                  · rw [encL_cons, hc', cond_false, l2, hqq, e1, e2]
                    simp only [List.append_assoc, List.take_append_drop]
                  · omega
end Go.Proofs.Ytllnklkjkjmjbaa.En

/- Decode, of the program and of the reference. -/
namespace Go.Proofs.Ytllnklkjkjmjbaa.En
open Go
set_option linter.unusedVariables false
def decP (acc : List V) : Except Int Tl → List V × Int
  | .ok l => (acc ++ l.enc, 0)
  | .error e => ([], e)
theorem decode_loop (N : Nat) (f : List UInt8 → Int → Option (List V × Int)) (d : Int) (hd : 1 ≤ d ∧ d ≤ 9) (n : Nat) (hf : d ≤ 8 → ∀ (b : List UInt8), b.length < n → f b (d + 1) = some (decP [] (dec n (d + 1) b))) :
    ∀ (t : Nat) (b : List UInt8) (acc : List V), b.length < t → b.length ≤ n → b.length ≤ 4096 → acc.length + b.length ≤ 4096 →
      S_decode_2 N f d t b acc (fun l0 n1 l2 => some (l0, n1)) (fun l3 => some (l3, 0)) = some (decP acc (dec (n + 1) d b))
  | 0, b, acc, ht, _, _, _ => by omega
  | t + 1, b, acc, ht, hn, hb, ha => by
    unfold S_decode_2 F_decode_2 dec
    simp only [br_dec, br_not, br_and]
    by_cases h0 : b.length = 0
    · rw [if_pos h0, if_neg (by omega)]; simp [decP, Tl.enc]
    · rw [if_neg h0, if_pos (by omega)]
      by_cases h8 : 8 < d
      · rw [if_pos h8, if_pos h8]; rfl
      · rw [if_neg h8, if_neg h8]
        have hbn : b ≠ [] := fun e => h0 (by rw [e]; rfl)
        rw [tag_eq N b hbn]
        cases hr : rdTag b with
        | error e =>
          have := rdTag_err hr
          simp only [triple, bnd3_mk]
          rw [if_neg (by omega)]; rfl
        | ok p =>
          obtain ⟨tg, r⟩ := p
          obtain ⟨hv, e1⟩ := rdTag_ok hr
          have hvr := tagV_range hv
          have ht2 := tagB_len tg
          have hbl : b.length = (tagB tg).length + r.length := by rw [e1, List.length_append]
          simp only [triple, bnd3_mk, if_true]
          rw [length_eq N r]
          cases hr' : rdLen r with
          | error e =>
            have := rdLen_err hr'
            simp only [triple, bnd3_mk]
            rw [if_neg (by omega)]; rfl
          | ok p =>
            obtain ⟨m, r'⟩ := p
            obtain ⟨hm0, hm1, e2⟩ := rdLen_ok hr'
            have hl2 := lenB_len m
            have hrl : r.length = (lenB m).length + r'.length := by rw [e2, List.length_append]
            simp only [triple, bnd3_mk, if_true]
            by_cases hlt : (r'.length : Int) < m
            · rw [if_pos hlt, if_pos hlt]; rfl
            · rw [if_neg hlt, if_neg hlt, Constructed_eq N tg ⟨by omega, by omega⟩, bnd1_mk]
              have htake : (r'.take m.toNat).length = m.toNat := by rw [List.length_take]; omega
              have hdrop : (r'.drop m.toNat).length = r'.length - m.toNat := List.length_drop ..
              have f1 : (0 : Int) ≤ m := hm0
              have f2 : m ≤ (r'.length : Int) := by omega
              have wd : IntKind.i64.wrap (d + 1) = d + 1 := w64 (by omega) (by omega)
              have g2 : (acc.length + (0 + 1)) * 56 ≤ 140737488355328 := by omega
              have g1 : (0 + (r'.take m.toNat).length) * 1 ≤ 140737488355328 := by omega
              simp only [f1, f2, if_true, List.length_cons, List.length_nil, wd, g1, g2]
              have efu : ∀ (b' : List UInt8), b'.length < n → dec n d b' = dec (n + 1) d b' := fun b' h => dec_fuel n (n + 1) d b' h (by omega)
              cases hc : tagC tg with
              | true =>
                rw [br_t, if_pos rfl, hf (by omega) _ (by omega)]
                cases hk : dec n (d + 1) (r'.take m.toNat) with
                | error e =>
                  have := dec_err _ _ _ _ hk
                  simp only [decP, bnd2_mk]
                  rw [if_neg (by omega)]
                | ok k =>
                  simp only [decP, bnd2_mk, if_true]
                  rw [decode_loop N f d hd n hf t (r'.drop m.toNat) _ (by omega) (by omega) (by omega) (by simp; omega), ← efu _ (by omega)]
                  cases dec n d (r'.drop m.toNat) with
                  | error e => rfl
                  | ok l => simp [decP, Tl.enc]
              | false =>
                rw [br_f, if_neg (by simp)]
                unfold s_clone
                rw [br_dec, if_pos (by omega), bnd1_mk]
                rw [decode_loop N f d hd n hf t (r'.drop m.toNat) _ (by omega) (by omega) (by omega) (by simp; omega), ← efu _ (by omega)]
                cases dec n d (r'.drop m.toNat) with
                | error e => rfl
                | ok l => simp [decP, Tl.enc]
theorem decode_eq (N : Nat) (hN : 4096 < N) : ∀ (M : Nat) (b : List UInt8) (d : Int), 1 ≤ d → d ≤ 9 → 9 < d + M → b.length ≤ 4096 → s_decode N M b d = some (decP [] (dec (b.length + 1) d b))
  | 0, b, d, h1, h2, h, _ => by omega
  | M + 1, b, d, h1, h2, h, hb => by
    unfold s_decode B_decode
    exact decode_loop N (s_decode N M) d ⟨h1, h2⟩ b.length (fun h8 b' hb' => by
      rw [decode_eq N hN M b' (d + 1) (by omega) (by omega) (by omega) (by omega), dec_fuel (b'.length + 1) b.length (d + 1) b' (by omega) hb']) N b [] (by omega) (Nat.le_refl _) hb (by simpa using hb)
/-- Decode -/
def decR (b : List UInt8) : List V × Int := if 4096 < b.length then ([], 3) else decP [] (dec (b.length + 1) 1 b)
theorem Decode_eq (N : Nat) (hN : 4096 < N) (b : List UInt8) : s_Decode N b = some (decR b) := by
  unfold s_Decode decR
  rw [br_dec]
  by_cases h : 4096 < b.length
  · rw [if_pos (by omega), if_pos h]
  · rw [if_neg (by omega), if_neg h, decode_eq N hN N b 1 (by omega) (by omega) (by omega) (by omega)]; rfl
end Go.Proofs.Ytllnklkjkjmjbaa.En

/- Encoding rules: the program and the reference. -/
namespace Go.Proofs.Ytllnklkjkjmjbaa.En
open Go
set_option linter.unusedVariables false
theorem bI (n : Int) : UInt8.ofNat (IntKind.u8.wrap n).toNat = byteI n := by rw [wu8]; rfl
theorem nilApp {α : Type} (l : List α) : List.append [] l = l := id rfl
section
variable (N : Nat)
theorem aencode_loop {R : Type} (f : Int → Int → List V → Option (List UInt8)) (n : Nat) (hf : ∀ (o m : Int) (k : Cl), vC o m k = true → k.nodes < n → k.wf → K63 k → f o m k.enc = some (eC o m k)) (K : List UInt8 → Option R) (a4 a5 : Int) (a6 : List V) (a7 : List UInt8) (b8 b9 : Bool) (a10 a11 : Int) :
    ∀ (l : Cl) (pre : List V) (t : Nat) (acc : List UInt8), vL l = true → l.len < t → l.nodes ≤ n → l.wf → pre.length + l.len ≤ 9223372036854775807 → acc.length + 2 * l.nodes ≤ 1000000 →
      S_aencode_8 N f (pre ++ l.enc) ((pre ++ l.enc).length : Int) a4 a5 a6 a7 b8 b9 a10 a11 t acc (pre.length : Int) K = K (acc ++ eL l)
  | l, pre, 0, acc, _, ht, _, _, _, _ => by omega
  | .nil, pre, t + 1, acc, _, ht, _, _, _, _ => by
    unfold S_aencode_8 F_aencode_8
    simp only [Cl.enc, br_t, br_f, br_dec, br_not, br_and, br_or, bnd1_mk, bnd2_mk, bnd3_mk, bnd4_mk, bnd5_mk, bnd10_mk, at_zero, at_succ, at_mid, unInt_mk, unBool_mk, unStr_mk, unBytes_mk, unSl_mk, unAgg_mk, unCons_mk, unNil_mk, endI, if_false, eL]
    rw [List.append_nil]
  | .cons o m k r, pre, t + 1, acc, hv, ht, hn, hw, hl, hb => by
    simp only [Cl.len, Cl.nodes] at ht hn hl hb
    rw [vL_cons, Bool.and_eq_true] at hv
    obtain ⟨_, _, hk1, hk2, hr⟩ := hw
    obtain ⟨h1, h2, h3, h4⟩ := stepC pre (ce o m k) r hl
    have hlen : (eC o m k).length ≤ 2 * k.nodes + 2 := by
      have := eL_len (.cons o m k .nil)
      rw [eL_cons] at this
      simp only [eL, List.append_nil, Cl.nodes] at this
      omega
    have ih := aencode_loop f n hf K a4 a5 a6 a7 b8 b9 a10 a11 r (pre ++ [ce o m k]) t (acc ++ eC o m k) hv.2 (by omega) (by omega) hr (by simp; omega) (by rw [List.length_append]; omega)
    rw [← mid, ← h3] at ih
    have hc : (acc.length + (eC o m k).length) * 1 ≤ 140737488355328 := by omega
    unfold S_aencode_8 F_aencode_8
    simp only [enc_cons, br_t, br_f, br_dec, br_not, br_and, br_or, bnd1_mk, bnd2_mk, bnd3_mk, bnd4_mk, bnd5_mk, bnd10_mk, at_zero, at_succ, at_mid, unInt_mk, unBool_mk, unStr_mk, unBytes_mk, unSl_mk, unAgg_mk, unCons_mk, unNil_mk, h1, h2, if_true, Int.toNat_natCast, hf o m k hv.1 (by omega) hk2 hk1, hc]
    rw [ih, eL_cons, List.append_assoc]
theorem aencode_eq : ∀ (M : Nat) (o m : Int) (k : Cl), vC o m k = true → k.nodes < M → k.nodes < N → k.nodes ≤ 1000 → k.wf → K63 k → s_aencode N M o m k.enc = some (eC o m k)
  | 0, o, m, k, _, h, _, _, _, _ => by omega
  | M + 1, o, m, k, hv, h, hN, hs, hw, hl => by
    have hln := Cl.len_le k
    have hf := fun (o m : Int) (k' : Cl) (a0 : vC o m k' = true) (a1 : k'.nodes < k.nodes) (a2 : k'.wf) (a3 : K63 k') => aencode_eq M o m k' a0 (by omega) (by omega) (by omega) a2 a3
    have hL := fun (a7 : List UInt8) (b8 b9 : Bool) (a10 a11 : Int) (acc : List UInt8) (ha : acc.length ≤ 2) (hvk : vL k = true) => aencode_loop N (s_aencode N M) k.nodes hf (fun l1 => some l1) o m k.enc a7 b8 b9 a10 a11 k [] N acc hvk (by omega) (Nat.le_refl _) hw (by simpa using hl) (by omega)
    have hL' : ∀ (a7 : List UInt8) (b8 b9 : Bool) (a10 a11 : Int) (acc : List UInt8), acc.length ≤ 2 → vL k = true → S_aencode_8 N (s_aencode N M) k.enc (k.enc.length : Int) o m k.enc a7 b8 b9 a10 a11 N acc 0 (fun l1 => some l1) = some (acc ++ eL k) := hL
    unfold s_aencode B_aencode eC
    simp only [s_forms, bnd1_mk, br_dec, bI, Cl.enc_len] at hL' ⊢
    rcases vC_leaf hv with ⟨rfl, _, rfl⟩ | ⟨rfl, _, rfl⟩ | ⟨rfl, b1, b2, rfl⟩ | ⟨rfl, b1, b2, rfl⟩ | ⟨rfl, _, _, rfl⟩ | ⟨rfl, b1, b2, rfl⟩ | ⟨rfl | rfl, h1, h2, h3⟩
    · rw [if_pos rfl, hL' _ _ _ _ _ _ (by simp) rfl]; rfl
    · rw [if_neg (by omega), if_pos rfl, hL' _ _ _ _ _ _ (by simp) rfl]; rfl
    · rw [if_neg (by omega), if_neg (by omega), if_pos rfl, hL' _ _ _ _ _ _ (by simp) rfl, if_neg (by omega), if_pos (by omega)]; rfl
    · rw [if_neg (by omega), if_neg (by omega), if_neg (by omega), if_pos rfl, hL' _ _ _ _ _ _ (by simp) rfl, if_neg (by omega), if_pos (by omega)]; rfl
    · rw [if_neg (by omega), if_neg (by omega), if_neg (by omega), if_neg (by omega), if_pos rfl, hL' _ _ _ _ _ _ (by simp) rfl, if_neg (by omega), if_pos (by omega)]; rfl
    · rw [if_neg (by omega), if_neg (by omega), if_neg (by omega), if_neg (by omega), if_neg (by omega), if_pos rfl, hL' _ _ _ _ _ _ (by simp) rfl, if_neg (by omega), if_pos (by omega)]; rfl
    · rw [if_neg (by omega), if_neg (by omega), if_neg (by omega), if_neg (by omega), if_neg (by omega), if_neg (by omega), if_pos rfl, hL' _ _ _ _ _ _ (by simp) h3, if_pos (by omega)]; rfl
    · rw [if_neg (by omega), if_neg (by omega), if_neg (by omega), if_neg (by omega), if_neg (by omega), if_neg (by omega), if_neg (by omega), if_pos rfl, hL' _ _ _ _ _ _ (by simp) h3, if_pos (by omega)]; rfl
/-- Rules as data objects. -/
def rT : List Ru → Tl
  | [] => .nil
  | r :: l => .cons 128 (byteI r.ops :: eC r.o r.m r.k) .nil (rT l)
theorem rT_ok : ∀ l : List Ru, okL 1 (rT l) = true
  | [] => rfl
  | r :: l => by
    have e1 : tagV 128 = true := by decide
    have e2 : tagC 128 = false := by decide
    unfold rT okL
    rw [e1, e2, rT_ok l]; rfl
theorem rT_len : ∀ l : List Ru, (rT l).len = l.length
  | [] => rfl
  | r :: l => by simp [rT, Tl.len, rT_len l]
theorem rT_wt : ∀ l : List Ru, (∀ r ∈ l, r.k.nodes ≤ 15) → (rT l).wt ≤ 40 * l.length ∧ (encL (rT l)).length ≤ 40 * l.length ∧ (rT l).nodes ≤ l.length ∧ (rT l).wf
  | [], _ => ⟨Nat.le_refl _, Nat.le_refl _, Nat.le_refl _, trivial⟩
  | r :: l, h => by
    obtain ⟨h1, h2, h3, h4⟩ := rT_wt l fun r hr => h r (by simp [hr])
    have hr := h r (by simp)
    have hlen : (eC r.o r.m r.k).length ≤ 2 * r.k.nodes + 2 := by
      have := eL_len (.cons r.o r.m r.k .nil)
      rw [eL_cons] at this
      simp only [eL, List.append_nil, Cl.nodes] at this
      omega
    have e2 : tagC 128 = false := by decide
    have ht := tagB_len 128
    have hlb := lenB_len (((byteI r.ops :: eC r.o r.m r.k).length : Nat) : Int)
    refine ⟨?_, ?_, ?_, ?_⟩
    · unfold rT; simp only [Tl.wt, List.length_cons]; omega
    · unfold rT; rw [encL_cons, e2]; simp only [cond_false, List.length_append, List.length_cons] at hlb ⊢; omega
    · unfold rT; simp only [Tl.nodes, List.length_cons]; omega
    · unfold rT; exact ⟨⟨by omega, by omega⟩, by simp only [List.length_cons]; omega, by simp [Tl.len], trivial, h4⟩
theorem rT_cons (a : Tl) (r : Ru) (l : List Ru) : (a.append (.cons 128 (byteI r.ops :: eC r.o r.m r.k) .nil .nil)).append (rT l) = a.append (rT (r :: l)) := by
  induction a with
  | nil => rfl
  | cons t v k r' _ ih => simp only [Tl.append]; rw [ih]
theorem aEncode_loop {R : Type} (K : List V → Option R) : ∀ (l : List Ru) (pre : List V) (t : Nat) (acc : Tl), l.length < t → (∀ r ∈ l, GoodC N r.k ∧ vC r.o r.m r.k = true ∧ r.k.nodes ≤ 15) → pre.length + l.length ≤ 9223372036854775807 → acc.len + l.length ≤ 1000 →
      S_aEncode_6 N (pre ++ rE l) ((pre ++ rE l).length : Int) t acc.enc (pre.length : Int) K = K (acc.append (rT l)).enc
  | l, pre, 0, acc, ht, _, _, _ => by omega
  | [], pre, t + 1, acc, ht, _, _, _ => by
    unfold S_aEncode_6 F_aEncode_6
    simp only [rE, br_t, br_f, br_dec, br_not, br_and, br_or, bnd1_mk, bnd2_mk, bnd3_mk, bnd4_mk, bnd5_mk, bnd10_mk, at_zero, at_succ, at_mid, unInt_mk, unBool_mk, unStr_mk, unBytes_mk, unSl_mk, unAgg_mk, unCons_mk, unNil_mk, endI, if_false, rT, Tl.append_nil]
  | r :: l, pre, t + 1, acc, ht, hg, hl, hb => by
    simp only [List.length_cons] at ht hl hb
    obtain ⟨h1, h2, h3, h4⟩ := stepR pre (.agg [.int .i64 r.ops, .int .i64 r.o, .int .i64 r.m, .sl 46 r.k.enc]) l hl
    obtain ⟨g, gv, gn⟩ := hg r (by simp)
    have hlen : (eC r.o r.m r.k).length ≤ 2 * r.k.nodes + 2 := by
      have := eL_len (.cons r.o r.m r.k .nil)
      rw [eL_cons] at this
      simp only [eL, List.append_nil, Cl.nodes] at this
      omega
    have ih := aEncode_loop K l (pre ++ [.agg [.int .i64 r.ops, .int .i64 r.o, .int .i64 r.m, .sl 46 r.k.enc]]) t (acc.append (.cons 128 (byteI r.ops :: eC r.o r.m r.k) .nil .nil)) (by omega) (fun r hr => hg r (by simp [hr])) (by simp; omega) (by rw [Tl.len_append]; simp only [Tl.len]; omega)
    rw [← mid, ← h3, rT_cons, Tl.enc_append] at ih
    have c1 : ([byteI r.ops].length + (eC r.o r.m r.k).length) * 1 ≤ 140737488355328 := by simp; omega
    have c2 : (acc.enc.length + [V.agg [V.int IntKind.i64 128, V.bytes (byteI r.ops :: eC r.o r.m r.k), V.sl 62 []]].length) * 56 ≤ 140737488355328 := by rw [Tl.enc_len]; simp; omega
    unfold S_aEncode_6 F_aEncode_6
    simp only [rE, br_t, br_f, br_dec, br_not, br_and, br_or, bnd1_mk, bnd2_mk, bnd3_mk, bnd4_mk, bnd5_mk, bnd10_mk, at_zero, at_succ, at_mid, unInt_mk, unBool_mk, unStr_mk, unBytes_mk, unSl_mk, unAgg_mk, unCons_mk, unNil_mk, h1, h2, if_true, Int.toNat_natCast, aencode_eq N N r.o r.m r.k gv g.fuel g.fuel (by omega) g.wf g.len, bI, nilApp, c1, c2]
    exact ih
/-- What Encode returns. -/
def encRu (l : List Ru) : List UInt8 × Int := if chkR l = 0 then (encL (rT l), 0) else ([], chkR l)
theorem encR_rT {l : List Ru} (h : chkR l = 0) : encR (rT l) = (encL (rT l), 0) := by
  obtain ⟨h8, hv⟩ := chkR_zero h
  obtain ⟨_, h2, _, _⟩ := rT_wt l fun r hr => by have := (hv r hr).2.2.2.1; omega
  unfold encR
  rw [if_pos (rT_ok l), if_pos (by omega)]
theorem aEncode_eq (l : List Ru) (g : GoodR N l) : s_aEncode N (rE l) = some (encRu l) := by
  have g1 := g.len
  have g2 := g.fuel
  unfold s_aEncode encRu
  rw [aCheckRules_eq N l g, bnd1_mk, br_not, br_dec]
  by_cases c : chkR l = 0
  · obtain ⟨h8, hv⟩ := chkR_zero c
    obtain ⟨h1, h2, h3, h4⟩ := rT_wt l fun r hr => by have := (hv r hr).2.2.2.1; omega
    have hl1 := rT_len l
    have hL : ∀ (K : List V → Option (List UInt8 × Int)), S_aEncode_6 N (rE l) ((rE l).length : Int) N [] 0 K = K (Tl.append .nil (rT l)).enc := fun K =>
      aEncode_loop N K l [] N .nil (by omega) (fun r hr => ⟨g.good r hr, (hv r hr).2.2.1, (hv r hr).2.2.2.1⟩) (by simp; omega) (by simp [Tl.len]; omega)
    rw [if_pos c, if_pos c, hL]
    show bnd2 (s_Encode N (rT l).enc) _ = _
    rw [Encode_eq N (rT l) (by omega) h4 (by show (rT l).len ≤ _; omega) (by omega), encR_rT c]; rfl
  · rw [if_neg c, if_neg c]
end
end Go.Proofs.Ytllnklkjkjmjbaa.En

/- Decoding rules: the program and the reference. -/
namespace Go.Proofs.Ytllnklkjkjmjbaa.En
open Go
set_option linter.unusedVariables false
def dcP : Option ((Int × Int × Cl) × List UInt8) → Int × Int × List V × List UInt8 × Bool
  | none => (0, 0, [], [], false)
  | some ((o, m, k), rest) => (o, m, k.enc, rest, true)
theorem enc_app (acc : List V) (o m : Int) (k r : Cl) : acc ++ [V.agg [V.int .i64 o, V.int .i64 m, V.sl 46 k.enc]] ++ r.enc = acc ++ (Cl.cons o m k r).enc := by simp [Cl.enc]
section
variable (N : Nat)
theorem adecode_loop (f : List UInt8 → Int → Option (Int × Int × List V × List UInt8 × Bool)) (d : Int) (e : Nat) (hf : ∀ b, f b (IntKind.i64.wrap (d + 1)) = some (dcP (rd 7 e b))) (n : Nat) (hn : n ≤ 255) (a4 a5 a7 a8 a13 a14 : Int) (a6 : List V) (a10 : List UInt8) (a11 a12 : Bool) (K1 : List UInt8 → List V → Option (Int × Int × List V × List UInt8 × Bool)) :
    ∀ (j : Nat) (b : List UInt8) (i : Nat) (acc : List V) (t : Nat), i + j = n → acc.length = i → j < t →
      S_adecode_16 N f d (n : Int) a4 a5 a6 a7 a8 a10 a11 a12 a13 a14 t b (i : Int) acc (fun l8 l9 b10 n11 n12 l13 l14 => some (n11, n12, l13, l9, b10)) K1 = match rdL (rd 7 e) j b with
        | none => some (0, 0, [], [], false)
        | some (l, rest) => K1 rest (acc ++ l.enc)
  | j, b, i, acc, 0, _, _, ht => by omega
  | 0, b, i, acc, t + 1, hi, ha, ht => by
    unfold S_adecode_16 F_adecode_16
    rw [br_dec, if_neg (by omega)]
    simp [rdL, Cl.enc]
  | j + 1, b, i, acc, t + 1, hi, ha, ht => by
    unfold S_adecode_16 F_adecode_16 rdL
    rw [br_dec, if_pos (by omega), hf]
    cases h : rd 7 e b with
    | none => rfl
    | some x =>
      obtain ⟨⟨o, m, k⟩, rest⟩ := x
      have hc : (acc.length + [V.agg [V.int IntKind.i64 o, V.int IntKind.i64 m, V.sl 46 k.enc]].length) * 40 ≤ 140737488355328 := by simp; omega
      have hw : IntKind.i64.wrap ((i : Int) + 1) = ((i + 1 : Nat) : Int) := by rw [w64 (by omega) (by omega)]; omega
      have ih := adecode_loop f d e hf n hn a4 a5 a7 a8 a13 a14 a6 a10 a11 a12 K1 j rest (i + 1) (acc ++ [V.agg [V.int IntKind.i64 o, V.int IntKind.i64 m, V.sl 46 k.enc]]) t (by omega) (by simp [ha]) (by omega)
      simp only [dcP, bnd5_mk, br_not, br_t, br_dec, hc, if_true, hw]
      rw [ih]
      cases rdL (rd 7 e) j rest with
      | none => rfl
      | some y =>
        obtain ⟨l, rest'⟩ := y
        show K1 rest' _ = K1 rest' _
        rw [enc_app]
theorem adecode_eq (hN : 1000 < N) : ∀ (e M : Nat) (b : List UInt8), e ≤ 8 → e < M → s_adecode N M b (9 - (e : Int)) = some (dcP (rd 7 e b))
  | e, 0, b, _, h => by omega
  | e, M + 1, b, he, h => by
    unfold s_adecode B_adecode
    simp only [br_dec, br_not, br_and, s_forms, bnd1_mk]
    cases b with
    | nil => cases e <;> simp [rd, dcP]
    | cons op b =>
      have ho := u8_lt op
      have hl : ¬ (((op :: b).length : Int) = 0) := by simp only [List.length_cons]; omega
      have hl2 : (0 : Int) < ((op :: b).length : Int) := by simp only [List.length_cons]; omega
      have hl3 : (1 : Int) ≤ ((op :: b).length : Int) := by simp only [List.length_cons]; omega
      simp only [hl, hl2, hl3, if_false, if_true, at_zero, w64_u8, List.drop_succ_cons, List.drop_zero]
      cases e with
      | zero =>
        have : (8 : Int) < 9 - ((0 : Nat) : Int) := by omega
        simp only [this, if_true]
        by_cases c : (7 : Int) < (op.toNat : Int)
        · rw [if_pos c]; rfl
        · rw [if_neg c]; rfl
      | succ e =>
        unfold rd
        by_cases c : (7 : Int) < (op.toNat : Int)
        · rw [if_pos c, if_pos c]; rfl
        rw [if_neg c, if_neg c, if_neg (by omega)]
        by_cases c2 : (op.toNat : Int) < 2
        · rw [if_pos c2]
          rcases (by omega : (op.toNat : Int) = 0 ∨ (op.toNat : Int) = 1) with c3 | c3
          · rw [if_pos c3]; simp [dcP, Cl.enc]
          · rw [if_neg (by omega), if_pos c3]; simp [dcP, Cl.enc]
        rw [if_neg c2, if_neg (by omega), if_neg (by omega)]
        cases b with
        | nil =>
          simp only [List.length_nil, Int.natCast_zero, if_true, dcP]
          rcases (by omega : (op.toNat : Int) = 2 ∨ (op.toNat : Int) = 3 ∨ (op.toNat : Int) = 4 ∨ (op.toNat : Int) = 5 ∨ (op.toNat : Int) = 6 ∨ (op.toNat : Int) = 7) with c3 | c3 | c3 | c3 | c3 | c3 <;> simp [c3]
        | cons n b =>
          have hn := u8_lt n
          have hl : ¬ (((n :: b).length : Int) = 0) := by simp only [List.length_cons]; omega
          have hl2 : (0 : Int) < ((n :: b).length : Int) := by simp only [List.length_cons]; omega
          have hl3 : (1 : Int) ≤ ((n :: b).length : Int) := by simp only [List.length_cons]; omega
          simp only [hl, hl2, hl3, if_false, if_true, at_zero, w64_u8, List.drop_succ_cons, List.drop_zero]
          by_cases c6 : (op.toNat : Int) < 6
          · rw [if_pos c6]
            rcases (by omega : (op.toNat : Int) = 2 ∨ (op.toNat : Int) = 3 ∨ (op.toNat : Int) = 4 ∨ (op.toNat : Int) = 5) with c3 | c3 | c3 | c3 <;> simp [c3, dcP, Cl.enc]
          · rw [if_neg c6]
            have hf : ∀ b, s_adecode N M b (IntKind.i64.wrap (9 - ((e + 1 : Nat) : Int) + 1)) = some (dcP (rd 7 e b)) := by
              intro b
              rw [w64 (by omega) (by omega), show 9 - ((e + 1 : Nat) : Int) + 1 = 9 - (e : Int) by omega]
              exact adecode_eq hN e M b (by omega) (by omega)
            have hL := fun (a7 : Int) (a10 : List UInt8) (K1 : List UInt8 → List V → Option (Int × Int × List V × List UInt8 × Bool)) => adecode_loop N (s_adecode N M) (9 - ((e + 1 : Nat) : Int)) e hf n.toNat (by omega) 0 0 a7 0 0 0 [] a10 false true K1 n.toNat b 0 [] N (by omega) rfl (by omega)
            have hL' : ∀ (a7 : Int) (a10 : List UInt8) (K1 : List UInt8 → List V → Option (Int × Int × List V × List UInt8 × Bool)), S_adecode_16 N (s_adecode N M) (9 - ((e + 1 : Nat) : Int)) (n.toNat : Int) 0 0 [] a7 0 a10 false true 0 0 N b 0 [] (fun l8 l9 b10 n11 n12 l13 l14 => some (n11, n12, l13, l9, b10)) K1 = match rdL (rd 7 e) n.toNat b with
              | none => some (0, 0, [], [], false)
              | some (l, rest) => K1 rest ([] ++ l.enc) := hL
            simp only [hL']
            rcases (by omega : (op.toNat : Int) = 6 ∨ (op.toNat : Int) = 7) with c3 | c3
            · rw [if_neg (by omega), if_neg (by omega), if_neg (by omega), if_neg (by omega), if_pos c3]
              cases rdL (rd 7 e) n.toNat b with
              | none => rfl
              | some y => rfl
            · rw [if_neg (by omega), if_neg (by omega), if_neg (by omega), if_neg (by omega), if_neg (by omega), if_pos c3]
              cases rdL (rd 7 e) n.toNat b with
              | none => rfl
              | some y => rfl
/-! Rules -/
def rdRu (lim : Int) (e : Nat) : Tl → Option (List Ru)
  | .nil => some []
  | .cons t v k r => if t = 128 then (match v with
      | [] => none
      | op :: v => match rd lim e v with
        | none => none
        | some ((o, m, k'), rest) => if rest.length = 0 then (match rdRu lim e r with | none => none | some l => some (⟨(op.toNat : Int), o, m, k'⟩ :: l)) else none) else none
theorem rdRu_wf {lim : Int} {e : Nat} : ∀ (l : Tl) (rs : List Ru), rdRu lim e l = some rs → rs.length = l.len ∧ ∀ r ∈ rs, r.k.wf ∧ K63 r.k ∧ r.k.nodes ≤ l.wt ∧ I64 r.o ∧ I64 r.m ∧ I64 r.ops
  | .nil, rs, h => by
    simp only [rdRu, Option.some.injEq] at h
    subst h; exact ⟨rfl, by simp⟩
  | .cons t v k r, rs, h => by
    unfold rdRu at h
    split at h
    · cases v with
      | nil => cases h
      | cons op v =>
        simp only at h
        split at h
        · cases h
        · rename_i o m k' rest h1
          split at h
          · split at h
            · cases h
            · rename_i l h3
              simp only [Option.some.injEq] at h
              subst h
              obtain ⟨h4, h5⟩ := rdRu_wf r l h3
              obtain ⟨⟨a1, a2, a3, a4, _⟩, a6⟩ := rd_wf lim e v o m k' rest h1
              have := u8_lt op
              refine ⟨by simp [Tl.len, h4], fun x hx => ?_⟩
              rcases List.mem_cons.1 hx with rfl | hx
              · exact ⟨a4, a3, by simp only [Tl.wt, List.length_cons]; omega, a1, a2, ⟨by show (-9223372036854775808 : Int) ≤ (op.toNat : Int); omega, by show (op.toNat : Int) ≤ 9223372036854775807; omega⟩⟩
              · obtain ⟨b1, b2, b3, b4⟩ := h5 x hx
                exact ⟨b1, b2, by simp only [Tl.wt]; omega, b4⟩
          · cases h
    · cases h
/-- What valid rules are encoded to is read. -/
theorem rdRu_put : ∀ (l : List Ru), (∀ r ∈ l, 1 ≤ r.ops ∧ r.ops ≤ 255 ∧ vC r.o r.m r.k = true ∧ r.k.nodes ≤ 15 ∧ r.k.dep ≤ 7) → rdRu 7 8 (rT l) = some l
  | [], _ => rfl
  | r :: l, h => by
    obtain ⟨h1, h2, h3, h4, h5⟩ := h r (by simp)
    have ih := rdRu_put l fun r hr => h r (by simp [hr])
    have hp := rd_putC (d := 7) [] h3 (by omega) h5
    rw [List.append_nil] at hp
    have hb : ((byteI r.ops).toNat : Int) = r.ops := by rw [byteI_toNat]; omega
    unfold rT rdRu
    rw [if_pos rfl]
    simp only [hp, ih, List.length_nil, if_true, hb]
theorem aDecode_loop (hN : 1000 < N) (K1 : List V → Option (List V × Int)) : ∀ (l : Tl) (pre : List V) (t : Nat) (acc : List Ru), l.len < t → pre.length + l.len ≤ 100000 → acc.length + l.len ≤ 100000 →
      S_aDecode_6 N (pre ++ l.enc) ((pre ++ l.enc).length : Int) t (rE acc) (pre.length : Int) (fun l2 n3 l4 => some (l2, n3)) K1 = match rdRu 7 8 l with
        | none => some ([], 4)
        | some rs => K1 (rE (acc ++ rs))
  | l, pre, 0, acc, ht, _, _ => by omega
  | .nil, pre, t + 1, acc, ht, _, _ => by
    unfold S_aDecode_6 F_aDecode_6
    simp only [Tl.enc, br_t, br_f, br_dec, br_not, br_and, br_or, bnd1_mk, bnd2_mk, bnd3_mk, bnd4_mk, bnd5_mk, bnd10_mk, at_zero, at_succ, at_mid, unInt_mk, unBool_mk, unStr_mk, unBytes_mk, unSl_mk, unAgg_mk, unCons_mk, unNil_mk, endI, if_false, rdRu]
    rw [List.append_nil]
  | .cons tg v k r, pre, t + 1, acc, ht, hl, ha => by
    simp only [Tl.len] at ht hl ha
    obtain ⟨h1, h2, h3, h4⟩ := stepI pre (.agg [.int .i64 tg, .bytes v, .sl 62 k.enc]) r.enc (by rw [Tl.enc_len]; omega)
    have ih := fun acc ha => aDecode_loop hN K1 r (pre ++ [.agg [.int .i64 tg, .bytes v, .sl 62 k.enc]]) t acc (by omega) (by simp; omega) ha
    rw [← mid, ← h3] at ih
    have hde := fun b => adecode_eq N hN 8 N b (by omega) (by omega)
    have hde' : ∀ b, s_adecode N N b 1 = some (dcP (rd 7 8 b)) := hde
    unfold S_aDecode_6 F_aDecode_6 rdRu
    simp only [Tl.enc, br_t, br_f, br_dec, br_not, br_and, br_or, bnd1_mk, bnd2_mk, bnd3_mk, bnd4_mk, bnd5_mk, bnd10_mk, at_zero, at_succ, at_mid, unInt_mk, unBool_mk, unStr_mk, unBytes_mk, unSl_mk, unAgg_mk, unCons_mk, unNil_mk, h1, h2, if_true, Int.toNat_natCast, hde']
    by_cases c1 : tg = 128
    · rw [if_pos c1, if_pos c1]
      cases v with
      | nil => simp
      | cons op v =>
        have e1 : ¬ (((op :: v).length : Int) = 0) := by simp only [List.length_cons]; omega
        have e2 : (1 : Int) ≤ ((op :: v).length : Int) := by simp only [List.length_cons]; omega
        have e3 : (0 : Int) < ((op :: v).length : Int) := by simp only [List.length_cons]; omega
        simp only [e1, e2, e3, if_false, if_true, List.drop_succ_cons, List.drop_zero, at_zero, w64_u8]
        cases h : rd 7 8 v with
        | none => rfl
        | some x =>
          obtain ⟨⟨o, m, k'⟩, rest⟩ := x
          simp only [dcP, bnd5_mk, br_t]
          by_cases c2 : rest.length = 0
          · have hc : ((rE acc).length + [V.agg [V.int IntKind.i64 (op.toNat : Int), V.int IntKind.i64 o, V.int IntKind.i64 m, V.sl 46 k'.enc]].length) * 48 ≤ 140737488355328 := by rw [rE_len]; simp; omega
            have e : rE acc ++ [V.agg [V.int IntKind.i64 (op.toNat : Int), V.int IntKind.i64 o, V.int IntKind.i64 m, V.sl 46 k'.enc]] = rE (acc ++ [⟨(op.toNat : Int), o, m, k'⟩]) := by rw [rE_append]; rfl
            rw [if_neg (by omega), if_pos hc, if_pos c2, e, ih _ (by simp; omega)]
            cases rdRu 7 8 r with
            | none => rfl
            | some rs => simp
          · rw [if_pos (by omega), if_neg c2]
    · rw [if_neg c1, if_neg c1]
/-! Decode -/
def decT (b : List UInt8) : Except Int Tl := if 4096 < b.length then .error 3 else dec (b.length + 1) 1 b
theorem decR_decT (b : List UInt8) : decR b = decP [] (decT b) := by
  unfold decR decT
  split <;> rfl
theorem decT_ok {b : List UInt8} {l : Tl} (h : decT b = .ok l) : okL 1 l = true ∧ encL l = b ∧ l.wt ≤ b.length ∧ l.wf ∧ b.length ≤ 4096 := by
  unfold decT at h
  split at h
  · cases h
  · obtain ⟨h1, h2, h3, h4⟩ := enc_dec _ _ _ _ h
    exact ⟨h1, h2, h3, h4, by omega⟩
theorem decT_err {b : List UInt8} {e : Int} (h : decT b = .error e) : e ≠ 0 := by
  unfold decT at h
  split at h
  · injection h with h; omega
  · have := dec_err _ _ _ _ h; omega
theorem decT_put {l : Tl} (h : okL 1 l = true) (hl : (encL l).length ≤ 4096) : decT (encL l) = .ok l := by
  unfold decT
  rw [if_neg (by omega), dec_enc l _ 1 h (by omega) (Nat.lt_succ_self _)]
def decRu (b : List UInt8) : List Ru × Int :=
  match decT b with
  | .error e => ([], e)
  | .ok l => match rdRu 7 8 l with
    | none => ([], 4)
    | some rs => if chkR rs = 0 then (rs, 0) else ([], 4)
theorem goodR_rd {lim : Int} {e : Nat} {b : List UInt8} (hb : b.length ≤ 1000) (hN : 10000 < N) {l : Tl} (hd : decT b = .ok l) {rs : List Ru} (h : rdRu lim e l = some rs) : GoodR N rs := by
  obtain ⟨h1, h2, h3, h4, h5⟩ := decT_ok hd
  obtain ⟨h6, h7⟩ := rdRu_wf l rs h
  have := l.len_wt
  refine ⟨by omega, by omega, fun r hr => ?_⟩
  obtain ⟨a1, a2, a3, _⟩ := h7 r hr
  exact ⟨a1, a2, by omega, by omega⟩
theorem aDecode_eq (hN : 10000 < N) (b : List UInt8) (hb : b.length ≤ 1000) : s_aDecode N b = some (rE (decRu b).1, (decRu b).2) := by
  unfold s_aDecode decRu
  rw [Decode_eq N (by omega), decR_decT]
  cases hd : decT b with
  | error e =>
    have he := decT_err hd
    simp only [decP, bnd2_mk, br_not, br_dec]
    rw [if_neg he]; rfl
  | ok l =>
    obtain ⟨h1, h2, h3, h4, h5⟩ := decT_ok hd
    have := l.len_wt
    have hL : ∀ (K1 : List V → Option (List V × Int)), S_aDecode_6 N l.enc (l.enc.length : Int) N [] 0 (fun l2 n3 l4 => some (l2, n3)) K1 = match rdRu 7 8 l with
        | none => some ([], 4)
        | some rs => K1 (rE ([] ++ rs)) := fun K1 => aDecode_loop N (by omega) K1 l [] N [] (by omega) (by simp; omega) (by simp; omega)
    simp only [decP, List.nil_append, bnd2_mk, br_not, br_dec, if_true, hL]
    cases hr : rdRu 7 8 l with
    | none => rfl
    | some rs =>
      simp only [aCheckRules_eq N rs (goodR_rd N hb hN hd hr), bnd1_mk]
      by_cases c : chkR rs = 0
      · simp only [c, if_true]
      · simp only [c, if_false]; rfl
theorem decRu_put {l : List Ru} (h : chkR l = 0) : decRu (encL (rT l)) = (l, 0) := by
  obtain ⟨h8, hv⟩ := chkR_zero h
  obtain ⟨_, h2, _, _⟩ := rT_wt l fun r hr => (hv r hr).2.2.2.1
  unfold decRu
  rw [decT_put (rT_ok l) (by omega)]
  simp only [rdRu_put l hv, h, if_true]
end
end Go.Proofs.Ytllnklkjkjmjbaa.En

/- Which rules are the same: the program and the reference. -/
namespace Go.Proofs.Ytllnklkjkjmjbaa.En
open Go
set_option linter.unusedVariables false
theorem at_midE {α R : Type} {pre : List α} {n : Nat} (h : pre.length = n) (x : α) (suf : List α) (K : α → Option R) : at? (pre ++ x :: suf) n K = K x := by
  subst h; exact at_mid pre x suf K
section
variable (N : Nat)
def eqC (o m : Int) (k : Cl) (o' m' : Int) (k' : Cl) : Bool := decide (o = o' ∧ m = m' ∧ k = k')
theorem qSameCond_loop {R : Type} (f : Int → Int → List V → Int → Int → List V → Option Bool) (n : Nat) (hf : ∀ (o m : Int) (k : Cl) (o' m' : Int) (k' : Cl), k.nodes < n → k.wf → K63 k → k'.wf → K63 k' → f o m k.enc o' m' k'.enc = some (eqC o m k o' m' k')) (x y z w : Int) (K0 : Bool → Option R) (K1 : Option R) :
    ∀ (l l' : Cl) (pre pre' : List V) (t : Nat), pre'.length = pre.length → l.len = l'.len → l.len < t → l.nodes ≤ n → l.wf → l'.wf → pre.length + l.len ≤ 9223372036854775807 →
      S_qSameCond_4 N f x y (pre ++ l.enc) z w (pre' ++ l'.enc) t (pre.length : Int) K0 K1 = if l = l' then K1 else K0 false
  | l, l', pre, pre', 0, _, _, ht, _, _, _, _ => by omega
  | .nil, .nil, pre, pre', t + 1, _, _, ht, _, _, _, _ => by
    unfold S_qSameCond_4 F_qSameCond_4
    simp only [Cl.enc, br_t, br_f, br_dec, br_not, br_and, br_or, bnd1_mk, bnd2_mk, bnd3_mk, bnd4_mk, bnd5_mk, bnd10_mk, at_zero, at_succ, at_mid, unInt_mk, unBool_mk, unStr_mk, unBytes_mk, unSl_mk, unAgg_mk, unCons_mk, unNil_mk, endI, if_false, if_true]
  | .nil, .cons o m k r, pre, pre', t + 1, _, he, _, _, _, _, _ => by simp [Cl.len] at he
  | .cons o m k r, .nil, pre, pre', t + 1, _, he, _, _, _, _, _ => by simp [Cl.len] at he
  | .cons o m k r, .cons o' m' k' r', pre, pre', t + 1, hp, he, ht, hn, hw, hw', hl => by
    simp only [Cl.len, Cl.nodes] at ht hn hl he
    obtain ⟨_, _, hk1, hk2, hr⟩ := hw
    obtain ⟨_, _, hk1', hk2', hr'⟩ := hw'
    obtain ⟨h1, h2, h3, h4⟩ := stepC pre (ce o m k) r hl
    obtain ⟨h1', h2', h3', h4'⟩ := stepC pre' (ce o' m' k') r' (by omega)
    have ih := qSameCond_loop f n hf x y z w K0 K1 r r' (pre ++ [ce o m k]) (pre' ++ [ce o' m' k']) t (by simp [hp]) (by omega) (by omega) (by omega) hr hr' (by simp; omega)
    rw [← mid, ← mid, ← h3] at ih
    rw [hp] at h1'
    unfold S_qSameCond_4 F_qSameCond_4
    simp only [enc_cons, br_t, br_f, br_dec, br_not, br_and, br_or, bnd1_mk, bnd2_mk, bnd3_mk, bnd4_mk, bnd5_mk, bnd10_mk, at_zero, at_succ, at_mid, unInt_mk, unBool_mk, unStr_mk, unBytes_mk, unSl_mk, unAgg_mk, unCons_mk, unNil_mk, at_midE hp, h1, h1', h2, if_true, Int.toNat_natCast, hf o m k o' m' k' (by omega) hk2 hk1 hk2' hk1']
    rw [ih]
    unfold eqC
    by_cases c : o = o' ∧ m = m' ∧ k = k'
    · obtain ⟨rfl, rfl, rfl⟩ := c
      simp only [and_self, decide_true, br_t, Cl.cons.injEq, true_and]
    · rw [decide_eq_false c, br_f, if_neg]
      intro e
      injection e with e1 e2 e3 e4
      exact c ⟨e1, e2, e3⟩
theorem qSameCond_eq : ∀ (M : Nat) (o m : Int) (k : Cl) (o' m' : Int) (k' : Cl), k.nodes < M → k.nodes < N → k.wf → K63 k → k'.wf → K63 k' → s_qSameCond N M o m k.enc o' m' k'.enc = some (eqC o m k o' m' k')
  | 0, o, m, k, o', m', k', h, _, _, _, _, _ => by omega
  | M + 1, o, m, k, o', m', k', h, hN, hw, hl, hw', hl' => by
    have hln := Cl.len_le k
    have hf := fun (o m : Int) (k1 : Cl) (o' m' : Int) (k1' : Cl) (a1 : k1.nodes < k.nodes) (a2 : k1.wf) (a3 : K63 k1) (a4 : k1'.wf) (a5 : K63 k1') => qSameCond_eq M o m k1 o' m' k1' (by omega) (by omega) a2 a3 a4 a5
    unfold s_qSameCond B_qSameCond
    simp only [Cl.enc_len, br_not, br_dec]
    unfold eqC
    by_cases c1 : o = o'
    case neg => rw [if_neg c1, decide_eq_false (fun c => c1 c.1)]
    by_cases c2 : m = m'
    case neg => rw [if_pos c1, if_neg c2, decide_eq_false (fun c => c2 c.2.1)]
    rw [if_pos c1, if_pos c2]
    by_cases c3 : k.len = k'.len
    case neg => rw [if_neg (by omega), decide_eq_false (fun c => c3 (by rw [c.2.2]))]
    have hL : S_qSameCond_4 N (s_qSameCond N M) o m k.enc o' m' k'.enc N 0 (fun b => some b) (some true) = if k = k' then some true else some false :=
      qSameCond_loop N (s_qSameCond N M) k.nodes hf o m o' m' (fun b => some b) (some true) k k' [] [] N rfl c3 (by omega) (Nat.le_refl _) hw hw' (by simpa using hl)
    rw [hL, if_pos (by omega)]
    by_cases c4 : k = k'
    · rw [if_pos c4, decide_eq_true ⟨c1, c2, c4⟩]
    · rw [if_neg c4, decide_eq_false (fun c => c4 c.2.2)]
/-! Rules -/
theorem qSame_loop {R : Type} (K0 : Bool → Option R) (K1 : Option R) :
    ∀ (l l' : List Ru) (pre pre' : List V) (t : Nat), pre'.length = pre.length → l.length = l'.length → l.length < t → (∀ r ∈ l, InC N r.k) → (∀ r ∈ l', InC N r.k) → pre.length + l.length ≤ 9223372036854775807 →
      S_qSame_4 N (pre ++ rE l) (pre' ++ rE l') t (pre.length : Int) K0 K1 = if l = l' then K1 else K0 false
  | l, l', pre, pre', 0, _, _, ht, _, _, _ => by omega
  | [], [], pre, pre', t + 1, _, _, ht, _, _, _ => by
    unfold S_qSame_4 F_qSame_4
    simp only [rE, br_t, br_f, br_dec, br_not, br_and, br_or, bnd1_mk, bnd2_mk, bnd3_mk, bnd4_mk, bnd5_mk, bnd10_mk, at_zero, at_succ, at_mid, unInt_mk, unBool_mk, unStr_mk, unBytes_mk, unSl_mk, unAgg_mk, unCons_mk, unNil_mk, endI, if_false, if_true]
  | [], _ :: _, pre, pre', t + 1, _, he, _, _, _, _ => by simp at he
  | _ :: _, [], pre, pre', t + 1, _, he, _, _, _, _ => by simp at he
  | r :: l, r' :: l', pre, pre', t + 1, hp, he, ht, hg, hg', hl => by
    simp only [List.length_cons] at ht hl he
    obtain ⟨h1, h2, h3, h4⟩ := stepR pre (.agg [.int .i64 r.ops, .int .i64 r.o, .int .i64 r.m, .sl 46 r.k.enc]) l hl
    obtain ⟨h1', h2', h3', h4'⟩ := stepR pre' (.agg [.int .i64 r'.ops, .int .i64 r'.o, .int .i64 r'.m, .sl 46 r'.k.enc]) l' (by omega)
    have ih := qSame_loop K0 K1 l l' (pre ++ [.agg [.int .i64 r.ops, .int .i64 r.o, .int .i64 r.m, .sl 46 r.k.enc]]) (pre' ++ [.agg [.int .i64 r'.ops, .int .i64 r'.o, .int .i64 r'.m, .sl 46 r'.k.enc]]) t (by simp [hp]) (by omega) (by omega) (fun r hr => hg r (by simp [hr])) (fun r hr => hg' r (by simp [hr])) (by simp; omega)
    rw [← mid, ← mid, ← h3] at ih
    rw [hp] at h1'
    have g := hg r (by simp)
    have g' := hg' r' (by simp)
    unfold S_qSame_4 F_qSame_4
    simp only [rE, br_t, br_f, br_dec, br_not, br_and, br_or, bnd1_mk, bnd2_mk, bnd3_mk, bnd4_mk, bnd5_mk, bnd10_mk, at_zero, at_succ, at_mid, unInt_mk, unBool_mk, unStr_mk, unBytes_mk, unSl_mk, unAgg_mk, unCons_mk, unNil_mk, at_midE hp, h1, h1', h2, if_true, Int.toNat_natCast, qSameCond_eq N N r.o r.m r.k r'.o r'.m r'.k g.fuel g.fuel g.wf g.len g'.wf g'.len]
    rw [ih]
    obtain ⟨a, b, c, d⟩ := r
    obtain ⟨a', b', c', d'⟩ := r'
    unfold eqC
    by_cases c0 : a = a'
    case neg =>
      rw [if_neg c0, if_neg]
      intro e; injection e with e1 _; injection e1 with e2; exact c0 e2
    rw [if_pos c0]
    simp only [br_dec]
    by_cases c : b = b' ∧ c = c' ∧ d = d'
    · obtain ⟨rfl, rfl, rfl⟩ := c
      subst c0
      simp only [and_self, if_true, List.cons.injEq, true_and]
    · rw [if_neg c, if_neg]
      intro e; injection e with e1 _; injection e1 with e2 e3 e4 e5; exact c ⟨e3, e4, e5⟩
theorem qSame_eq (l l' : List Ru) (hN : l.length < N) (hl : l.length ≤ 9223372036854775807) (hg : ∀ r ∈ l, InC N r.k) (hg' : ∀ r ∈ l', InC N r.k) : s_qSame N (rE l) (rE l') = some (decide (l = l')) := by
  unfold s_qSame
  rw [br_not, br_dec, rE_len, rE_len]
  by_cases c : l.length = l'.length
  · have hL : S_qSame_4 N (rE l) (rE l') N 0 (fun b => some b) (some true) = if l = l' then some true else some false :=
      qSame_loop N (fun b => some b) (some true) l l' [] [] N rfl c hN hg hg' (by simpa using hl)
    rw [if_pos (by omega), hL]
    by_cases c2 : l = l' <;> simp [c2]
  · rw [if_neg (by omega), decide_eq_false (fun e => c (by rw [e]))]
end
end Go.Proofs.Ytllnklkjkjmjbaa.En

/- Functions of the program in plain Lean, joined to the program by evaluation; printed by a program. -/
namespace Go.Proofs.Ytllnklkjkjmjbaa.En
open Go Go.Proofs
set_option maxRecDepth 100000
set_option linter.unusedVariables false
noncomputable def e_fDecode {R : Type} (s : List UInt8 → Option (Int × Int × List UInt8 × Int × Int × Int × Int × Int × List V × Int)) (ds : List D) (K : List D → Option R) : Option R :=
  match ds with
  | [.v (.bytes x0) .no] => bnd10 (s x0) fun r0 r1 r2 r3 r4 r5 r6 r7 r8 r9 => K [.agg [.v (.int .i64 r0) .no, .v (.int .i64 r1) .no, .v (.bytes r2) .no, .v (.int .i64 r3) .no, .v (.int .i64 r4) .no, .v (.int .i64 r5) .no, .v (.int .i64 r6) .no, .v (.int .i64 r7) .no, .v (.sl 48 r8) .no], .v (.int .i64 r9) .no]
  | _ => none
noncomputable def r_fDecode (rs : List D) (_ : Mem) : Option (Int × Int × List UInt8 × Int × Int × Int × Int × Int × List V × Int) :=
  match rs with
  | [.agg [.v (.int .i64 r0) _, .v (.int .i64 r1) _, .v (.bytes r2) _, .v (.int .i64 r3) _, .v (.int .i64 r4) _, .v (.int .i64 r5) _, .v (.int .i64 r6) _, .v (.int .i64 r7) _, .v (.sl 48 r8) _], .v (.int .i64 r9) _] => some (r0, r1, r2, r3, r4, r5, r6, r7, r8, r9)
  | _ => none
noncomputable def F_fDecode_8 {R : Type} (N : Nat) (l0 : List UInt8) (vs1 : List V) (n2 : Int) (n4 : Int) (n5 : Int) (l6 : List UInt8) (n7 : Int) (n8 : Int) (n9 : Int) (n10 : Int) (n11 : Int) (vs12 : List V) (Lq : Int → Int → Int → List UInt8 → Int → Int → Int → Int → Int → List V → Option R) (K0 : Int → Int → Int → List UInt8 → Int → Int → Int → Int → Int → List V → Int → Int → List UInt8 → Int → Int → Int → Int → Int → List V → Option R) (K1 : Int → Int → List UInt8 → Int → Int → Int → Int → Int → List V → Option R) (n3 : Int) (n13 : Int) (n14 : Int) (l15 : List UInt8) (n16 : Int) (n17 : Int) (n18 : Int) (n19 : Int) (n20 : Int) (vs21 : List V) : Option R :=
  br (decide (n3 < n2))
  (br (decide (0 ≤ n3) && decide (n3 < (↑vs1.length : Int)))
    (at? vs1 n3.toNat fun x0 =>
      x0.unAgg fun l1 =>
        unCons l1 fun x2 l3 =>
          V.unInt IntKind.i64 x2 fun n4 =>
            unCons l3 fun x5 l6 =>
              x5.unBytes fun l7 =>
                unCons l6 fun x8 l9 =>
                  V.unSl 62 x8 fun l10 =>
                    unNil l9
                      (br (decide (n4 = 130))
                        (br (decide (0 < (↑l7.length : Int)))
                          (at? l7 0 fun u11 =>
                            br (decide ((↑l7.length : Int) = 3))
                              (br (decide (1 < (↑l7.length : Int)))
                                (at? l7 1 fun u12 =>
                                  br (decide (2 < (↑l7.length : Int)))
                                    (at? l7 2 fun u13 => Lq (IntKind.i64.wrap (n3 + 1)) n13 (IntKind.i64.wrap (↑u11.toNat : Int)) l15 n16 n17 (IntKind.i64.wrap (↑u12.toNat : Int)) (IntKind.i64.wrap (↑u13.toNat : Int)) n20 vs21) none)
                                none)
                              (Lq (IntKind.i64.wrap (n3 + 1)) n13 (IntKind.i64.wrap (↑u11.toNat : Int)) l15 n16 n17 n18 n19 n20 vs21))
                          none)
                        (br (decide (n4 = 131)) (bnd1 (s_fget N l7) fun n14_1 => Lq (IntKind.i64.wrap (n3 + 1)) n14_1 n14 l15 n16 n17 n18 n19 n20 vs21)
                          (br (decide (n4 = 132)) (Lq (IntKind.i64.wrap (n3 + 1)) n13 n14 l7 n16 n17 n18 n19 n20 vs21)
                            (br (decide (n4 = 128)) (bnd1 (s_fget N l7) fun n15 => Lq (IntKind.i64.wrap (n3 + 1)) n13 n14 l15 n16 n15 n18 n19 n20 vs21)
                              (br (decide (n4 = 136)) (bnd1 (s_fget N l7) fun n16 => Lq (IntKind.i64.wrap (n3 + 1)) n13 n14 l15 n16 n17 n18 n19 n20 vs21)
                                (br (decide (n4 = 138)) (bnd1 (s_fget N l7) fun n17_1 => Lq (IntKind.i64.wrap (n3 + 1)) n13 n14 l15 n16 n17 n18 n19 n17_1 vs21)
                                  (br (decide (n4 = 134))
                                    (bnd2 (s_aDecode N l7) fun l18 n19_1 => br (!decide (n19_1 = 0)) (K0 n19_1 0 0 [] 0 0 0 0 0 [] n13 n14 l15 n16 n17 n18 n19 n20 l18) (Lq (IntKind.i64.wrap (n3 + 1)) n13 n14 l15 n16 n17 n18 n19 n20 l18))
                                    (Lq (IntKind.i64.wrap (n3 + 1)) n13 n14 l15 n16 n17 n18 n19 n20 vs21)))))))))
    none)
  (K1 n13 n14 l15 n16 n17 n18 n19 n20 vs21)
noncomputable def S_fDecode_8 {R : Type} (N : Nat) (l0 : List UInt8) (vs1 : List V) (n2 : Int) (n4 : Int) (n5 : Int) (l6 : List UInt8) (n7 : Int) (n8 : Int) (n9 : Int) (n10 : Int) (n11 : Int) (vs12 : List V) : Nat → Int → Int → Int → List UInt8 → Int → Int → Int → Int → Int → List V → (Int → Int → Int → List UInt8 → Int → Int → Int → Int → Int → List V → Int → Int → List UInt8 → Int → Int → Int → Int → Int → List V → Option R) → (Int → Int → List UInt8 → Int → Int → Int → Int → Int → List V → Option R) → Option R
  | 0, _, _, _, _, _, _, _, _, _, _, _, _ => none
  | t + 1, n3, n13, n14, l15, n16, n17, n18, n19, n20, vs21, K0, K1 => F_fDecode_8 N l0 vs1 n2 n4 n5 l6 n7 n8 n9 n10 n11 vs12 (fun n3 n13 n14 l15 n16 n17 n18 n19 n20 vs21 => S_fDecode_8 N l0 vs1 n2 n4 n5 l6 n7 n8 n9 n10 n11 vs12 t n3 n13 n14 l15 n16 n17 n18 n19 n20 vs21 K0 K1) K0 K1 n3 n13 n14 l15 n16 n17 n18 n19 n20 vs21
noncomputable def l_fDecode_8 {R : Type} (N : Nat) (ds : List D) (m : Mem) (K : Ex → List D → Mem → Option R) : Option R :=
  match ds, m with
  | [(.v (.bytes l0) .no), (.ptr 0 2 0), (.ptr 0 6 0), (.v (.sl 62 vs1) .no), (.v (.int .i64 n2) .no), (.v (.int .i64 n3) .no), .any], [[(2, ⟨25, [(.v (.int .i64 n4) .no), (.v (.int .i64 n5) .no), (.v (.bytes l6) (.own (.slot 0) 5)), (.v (.int .i64 n7) .no), (.v (.int .i64 n8) .no), (.v (.int .i64 n9) .no), (.v (.int .i64 n10) .no), (.v (.int .i64 n11) .no), (.v (.sl 48 vs12) (.own (.slot 0) 48))]⟩), (6, ⟨25, [(.v (.int .i64 n13) .no), (.v (.int .i64 n14) .no), (.v (.bytes l15) .no), (.v (.int .i64 n16) .no), (.v (.int .i64 n17) .no), (.v (.int .i64 n18) .no), (.v (.int .i64 n19) .no), (.v (.int .i64 n20) .no), (.v (.sl 48 vs21) .no)]⟩)]] => S_fDecode_8 N l0 vs1 n2 n4 n5 l6 n7 n8 n9 n10 n11 vs12 N n3 n13 n14 l15 n16 n17 n18 n19 n20 vs21 (fun a1 a2 a3 a4 a5 a6 a7 a8 a9 a10 a11 a12 a13 a14 a15 a16 a17 a18 a19 => K .ret [(.v (.bytes l0) .no), (.ptr 0 2 0), (.v (.int .i64 a1) .no), (.ptr 0 6 0)] [[(2, ⟨25, [(.v (.int .i64 a2) .no), (.v (.int .i64 a3) .no), (.v (.bytes a4) (.own (.slot 0) 5)), (.v (.int .i64 a5) .no), (.v (.int .i64 a6) .no), (.v (.int .i64 a7) .no), (.v (.int .i64 a8) .no), (.v (.int .i64 a9) .no), (.v (.sl 48 a10) (.own (.slot 0) 48))]⟩), (6, ⟨25, [(.v (.int .i64 a11) .no), (.v (.int .i64 a12) .no), (.v (.bytes a13) .no), (.v (.int .i64 a14) .no), (.v (.int .i64 a15) .no), (.v (.int .i64 a16) .no), (.v (.int .i64 a17) .no), (.v (.int .i64 a18) .no), (.v (.sl 48 a19) .no)]⟩)]]) (fun a10 a11 a12 a13 a14 a15 a16 a17 a18 => K (.exit 0) [(.v (.bytes l0) .no), (.ptr 0 2 0), .any, (.ptr 0 6 0)] [[(2, ⟨25, [(.v (.int .i64 n4) .no), (.v (.int .i64 n5) .no), (.v (.bytes l6) (.own (.slot 0) 5)), (.v (.int .i64 n7) .no), (.v (.int .i64 n8) .no), (.v (.int .i64 n9) .no), (.v (.int .i64 n10) .no), (.v (.int .i64 n11) .no), (.v (.sl 48 vs12) (.own (.slot 0) 48))]⟩), (6, ⟨25, [(.v (.int .i64 a10) .no), (.v (.int .i64 a11) .no), (.v (.bytes a12) .no), (.v (.int .i64 a13) .no), (.v (.int .i64 a14) .no), (.v (.int .i64 a15) .no), (.v (.int .i64 a16) .no), (.v (.int .i64 a17) .no), (.v (.sl 48 a18) .no)]⟩)]])
  | _, _ => none
noncomputable def s_fDecode (N : Nat) (x0 : List UInt8) : Option (Int × Int × List UInt8 × Int × Int × Int × Int × Int × List V × Int) :=
  bnd2 (s_Decode N x0) fun l0 n1 =>
  br (!decide (n1 = 0)) (some (0, 0, [], 0, 0, 0, 0, 0, [], n1))
    (br (!decide ((↑l0.length : Int) = 1)) (some (0, 0, [], 0, 0, 0, 0, 0, [], 4))
      (br (decide (0 < (↑l0.length : Int)))
        (at? l0 0 fun x2 =>
          x2.unAgg fun l3 =>
            unCons l3 fun x4 l5 =>
              V.unInt IntKind.i64 x4 fun n6 =>
                unCons l5 fun x7 l8 =>
                  x7.unBytes fun l9 =>
                    unCons l8 fun x10 l11 =>
                      V.unSl 62 x10 fun l12 =>
                        unNil l11
                          (br (!decide (n6 = 98)) (some (0, 0, [], 0, 0, 0, 0, 0, [], 4))
                            (br (decide (0 < (↑l0.length : Int)))
                              (at? l0 0 fun x13 =>
                                x13.unAgg fun l14 =>
                                  unCons l14 fun x15 l16 =>
                                    V.unInt IntKind.i64 x15 fun n17 =>
                                      unCons l16 fun x18 l19 =>
                                        x18.unBytes fun l20 =>
                                          unCons l19 fun x21 l22 =>
                                            V.unSl 62 x21 fun l23 =>
                                              unNil l22
                                                (bnd1 (s_farranged N l23) fun b24 =>
                                                  br (!b24) (some (0, 0, [], 0, 0, 0, 0, 0, [], 4))
                                                    (br (decide (0 < (↑l0.length : Int)))
                                                      (at? l0 0 fun x25 =>
                                                        x25.unAgg fun l26 =>
                                                          unCons l26 fun x27 l28 =>
                                                            V.unInt IntKind.i64 x27 fun n29 =>
                                                              unCons l28 fun x30 l31 =>
                                                                x30.unBytes fun l32 =>
                                                                  unCons l31 fun x33 l34 =>
                                                                    V.unSl 62 x33 fun l35 =>
                                                                      unNil l34
                                                                        (S_fDecode_8 N x0 l35 (↑l35.length : Int) 0 0 [] 0 0 0 0 0 [] N 0 0 0 [] 0 0 0 0 0 []
                                                                          (fun n36 n37 n38 l39 n40 n41 n42 n43 n44 l45 n46 n47 l48 n49 n50 n51 n52 n53 l54 => some (n37, n38, l39, n40, n41, n42, n43, n44, l45, n36))
                                                                          fun n55 n56 l57 n58 n59 n60 n61 n62 l63 =>
                                                                          bnd2 (s_fEncode N n55 n56 l57 n58 n59 n60 n61 n62 l63) fun l64 n65 =>
                                                                            br (!decide (n65 = 0)) (some (0, 0, [], 0, 0, 0, 0, 0, [], n65))
                                                                              (bnd1 (s_Equal N x0 l64) fun b66 => br (!b66) (some (0, 0, [], 0, 0, 0, 0, 0, [], 4)) (some (n55, n56, l57, n58, n59, n60, n61, n62, l63, 0)))))
                                                      none)))
                              none)))
        none))
noncomputable def cx_fDecode (N : Nat) : Cx := { T := T, isPure := tabP [⟨48, e_Decode (s_Decode N)⟩, ⟨49, e_farranged (s_farranged N)⟩, ⟨50, e_fget (s_fget N)⟩, ⟨51, e_aDecode (s_aDecode N)⟩, ⟨14, e_fEncode (s_fEncode N)⟩, ⟨46, e_Equal (s_Equal N)⟩], pureK := fun g ds K => tabK [⟨48, e_Decode (s_Decode N)⟩, ⟨49, e_farranged (s_farranged N)⟩, ⟨50, e_fget (s_fget N)⟩, ⟨51, e_aDecode (s_aDecode N)⟩, ⟨14, e_fEncode (s_fEncode N)⟩, ⟨46, e_Equal (s_Equal N)⟩] g ds K, memK := fun g dst ds m K => tabMK [] g dst ds m K, meth := tabM [], keep := fun r => match r with | 8 => [0, 2, 6, 41, 42, 43, 100006] | _ => [], keepX := fun r => match r with | 8 => [0, 2, 3, 6] | _ => [], loopT := fun r ds m K => match r with | 8 => l_fDecode_8 N ds m K | _ => none, jumps := 9, dyn := true }
theorem F_fDecode_8_ok {R : Type} (N : Nat) (l0 : List UInt8) (vs1 : List V) (n2 : Int) (n4 : Int) (n5 : Int) (l6 : List UInt8) (n7 : Int) (n8 : Int) (n9 : Int) (n10 : Int) (n11 : Int) (vs12 : List V) (n3 : Int) (n13 : Int) (n14 : Int) (l15 : List UInt8) (n16 : Int) (n17 : Int) (n18 : Int) (n19 : Int) (n20 : Int) (vs21 : List V) (L : List D → Mem → Option R) (K : Ex → List D → Mem → Option R) :
    roundK (fun st K => codeK (cx_fDecode N) (loopN Try.f24 0) st K) 131 [0, 2, 6, 41, 42, 43, 100006] [0, 2, 3, 6] L [(.v (.bytes l0) .no), (.ptr 0 2 0), (.ptr 0 6 0), (.v (.sl 62 vs1) .no), (.v (.int .i64 n2) .no), (.v (.int .i64 n3) .no), .any] [[(2, ⟨25, [(.v (.int .i64 n4) .no), (.v (.int .i64 n5) .no), (.v (.bytes l6) (.own (.slot 0) 5)), (.v (.int .i64 n7) .no), (.v (.int .i64 n8) .no), (.v (.int .i64 n9) .no), (.v (.int .i64 n10) .no), (.v (.int .i64 n11) .no), (.v (.sl 48 vs12) (.own (.slot 0) 48))]⟩), (6, ⟨25, [(.v (.int .i64 n13) .no), (.v (.int .i64 n14) .no), (.v (.bytes l15) .no), (.v (.int .i64 n16) .no), (.v (.int .i64 n17) .no), (.v (.int .i64 n18) .no), (.v (.int .i64 n19) .no), (.v (.int .i64 n20) .no), (.v (.sl 48 vs21) .no)]⟩)]] K = F_fDecode_8 N l0 vs1 n2 n4 n5 l6 n7 n8 n9 n10 n11 vs12 (fun n3 n13 n14 l15 n16 n17 n18 n19 n20 vs21 => L [(.v (.bytes l0) .no), (.ptr 0 2 0), (.ptr 0 6 0), (.v (.sl 62 vs1) .no), (.v (.int .i64 n2) .no), (.v (.int .i64 n3) .no), .any] [[(2, ⟨25, [(.v (.int .i64 n4) .no), (.v (.int .i64 n5) .no), (.v (.bytes l6) (.own (.slot 0) 5)), (.v (.int .i64 n7) .no), (.v (.int .i64 n8) .no), (.v (.int .i64 n9) .no), (.v (.int .i64 n10) .no), (.v (.int .i64 n11) .no), (.v (.sl 48 vs12) (.own (.slot 0) 48))]⟩), (6, ⟨25, [(.v (.int .i64 n13) .no), (.v (.int .i64 n14) .no), (.v (.bytes l15) .no), (.v (.int .i64 n16) .no), (.v (.int .i64 n17) .no), (.v (.int .i64 n18) .no), (.v (.int .i64 n19) .no), (.v (.int .i64 n20) .no), (.v (.sl 48 vs21) .no)]⟩)]]) (fun a1 a2 a3 a4 a5 a6 a7 a8 a9 a10 a11 a12 a13 a14 a15 a16 a17 a18 a19 => K .ret [(.v (.bytes l0) .no), (.ptr 0 2 0), (.v (.int .i64 a1) .no), (.ptr 0 6 0)] [[(2, ⟨25, [(.v (.int .i64 a2) .no), (.v (.int .i64 a3) .no), (.v (.bytes a4) (.own (.slot 0) 5)), (.v (.int .i64 a5) .no), (.v (.int .i64 a6) .no), (.v (.int .i64 a7) .no), (.v (.int .i64 a8) .no), (.v (.int .i64 a9) .no), (.v (.sl 48 a10) (.own (.slot 0) 48))]⟩), (6, ⟨25, [(.v (.int .i64 a11) .no), (.v (.int .i64 a12) .no), (.v (.bytes a13) .no), (.v (.int .i64 a14) .no), (.v (.int .i64 a15) .no), (.v (.int .i64 a16) .no), (.v (.int .i64 a17) .no), (.v (.int .i64 a18) .no), (.v (.sl 48 a19) .no)]⟩)]]) (fun a10 a11 a12 a13 a14 a15 a16 a17 a18 => K (.exit 0) [(.v (.bytes l0) .no), (.ptr 0 2 0), .any, (.ptr 0 6 0)] [[(2, ⟨25, [(.v (.int .i64 n4) .no), (.v (.int .i64 n5) .no), (.v (.bytes l6) (.own (.slot 0) 5)), (.v (.int .i64 n7) .no), (.v (.int .i64 n8) .no), (.v (.int .i64 n9) .no), (.v (.int .i64 n10) .no), (.v (.int .i64 n11) .no), (.v (.sl 48 vs12) (.own (.slot 0) 48))]⟩), (6, ⟨25, [(.v (.int .i64 a10) .no), (.v (.int .i64 a11) .no), (.v (.bytes a12) .no), (.v (.int .i64 a13) .no), (.v (.int .i64 a14) .no), (.v (.int .i64 a15) .no), (.v (.int .i64 a16) .no), (.v (.int .i64 a17) .no), (.v (.sl 48 a18) .no)]⟩)]]) n3 n13 n14 l15 n16 n17 n18 n19 n20 vs21 := by
  kernel_rfl
theorem S_fDecode_8_ok {R : Type} (N : Nat) (l0 : List UInt8) (vs1 : List V) (n2 : Int) (n4 : Int) (n5 : Int) (l6 : List UInt8) (n7 : Int) (n8 : Int) (n9 : Int) (n10 : Int) (n11 : Int) (vs12 : List V) (K : Ex → List D → Mem → Option R) : ∀ (t : Nat) (n3 : Int) (n13 : Int) (n14 : Int) (l15 : List UInt8) (n16 : Int) (n17 : Int) (n18 : Int) (n19 : Int) (n20 : Int) (vs21 : List V),
    loopK (fun st K => codeK (cx_fDecode N) (loopN Try.f24 0) st K) 131 [0, 2, 6, 41, 42, 43, 100006] [0, 2, 3, 6] t [(.v (.bytes l0) .no), (.ptr 0 2 0), (.ptr 0 6 0), (.v (.sl 62 vs1) .no), (.v (.int .i64 n2) .no), (.v (.int .i64 n3) .no), .any] [[(2, ⟨25, [(.v (.int .i64 n4) .no), (.v (.int .i64 n5) .no), (.v (.bytes l6) (.own (.slot 0) 5)), (.v (.int .i64 n7) .no), (.v (.int .i64 n8) .no), (.v (.int .i64 n9) .no), (.v (.int .i64 n10) .no), (.v (.int .i64 n11) .no), (.v (.sl 48 vs12) (.own (.slot 0) 48))]⟩), (6, ⟨25, [(.v (.int .i64 n13) .no), (.v (.int .i64 n14) .no), (.v (.bytes l15) .no), (.v (.int .i64 n16) .no), (.v (.int .i64 n17) .no), (.v (.int .i64 n18) .no), (.v (.int .i64 n19) .no), (.v (.int .i64 n20) .no), (.v (.sl 48 vs21) .no)]⟩)]] K = S_fDecode_8 N l0 vs1 n2 n4 n5 l6 n7 n8 n9 n10 n11 vs12 t n3 n13 n14 l15 n16 n17 n18 n19 n20 vs21 (fun a1 a2 a3 a4 a5 a6 a7 a8 a9 a10 a11 a12 a13 a14 a15 a16 a17 a18 a19 => K .ret [(.v (.bytes l0) .no), (.ptr 0 2 0), (.v (.int .i64 a1) .no), (.ptr 0 6 0)] [[(2, ⟨25, [(.v (.int .i64 a2) .no), (.v (.int .i64 a3) .no), (.v (.bytes a4) (.own (.slot 0) 5)), (.v (.int .i64 a5) .no), (.v (.int .i64 a6) .no), (.v (.int .i64 a7) .no), (.v (.int .i64 a8) .no), (.v (.int .i64 a9) .no), (.v (.sl 48 a10) (.own (.slot 0) 48))]⟩), (6, ⟨25, [(.v (.int .i64 a11) .no), (.v (.int .i64 a12) .no), (.v (.bytes a13) .no), (.v (.int .i64 a14) .no), (.v (.int .i64 a15) .no), (.v (.int .i64 a16) .no), (.v (.int .i64 a17) .no), (.v (.int .i64 a18) .no), (.v (.sl 48 a19) .no)]⟩)]]) (fun a10 a11 a12 a13 a14 a15 a16 a17 a18 => K (.exit 0) [(.v (.bytes l0) .no), (.ptr 0 2 0), .any, (.ptr 0 6 0)] [[(2, ⟨25, [(.v (.int .i64 n4) .no), (.v (.int .i64 n5) .no), (.v (.bytes l6) (.own (.slot 0) 5)), (.v (.int .i64 n7) .no), (.v (.int .i64 n8) .no), (.v (.int .i64 n9) .no), (.v (.int .i64 n10) .no), (.v (.int .i64 n11) .no), (.v (.sl 48 vs12) (.own (.slot 0) 48))]⟩), (6, ⟨25, [(.v (.int .i64 a10) .no), (.v (.int .i64 a11) .no), (.v (.bytes a12) .no), (.v (.int .i64 a13) .no), (.v (.int .i64 a14) .no), (.v (.int .i64 a15) .no), (.v (.int .i64 a16) .no), (.v (.int .i64 a17) .no), (.v (.sl 48 a18) .no)]⟩)]])
  | 0, n3, n13, n14, l15, n16, n17, n18, n19, n20, vs21 => rfl
  | t + 1, n3, n13, n14, l15, n16, n17, n18, n19, n20, vs21 => (F_fDecode_8_ok N l0 vs1 n2 n4 n5 l6 n7 n8 n9 n10 n11 vs12 n3 n13 n14 l15 n16 n17 n18 n19 n20 vs21 _ K).trans (congrArg (fun L => F_fDecode_8 N l0 vs1 n2 n4 n5 l6 n7 n8 n9 n10 n11 vs12 L (fun a1 a2 a3 a4 a5 a6 a7 a8 a9 a10 a11 a12 a13 a14 a15 a16 a17 a18 a19 => K .ret [(.v (.bytes l0) .no), (.ptr 0 2 0), (.v (.int .i64 a1) .no), (.ptr 0 6 0)] [[(2, ⟨25, [(.v (.int .i64 a2) .no), (.v (.int .i64 a3) .no), (.v (.bytes a4) (.own (.slot 0) 5)), (.v (.int .i64 a5) .no), (.v (.int .i64 a6) .no), (.v (.int .i64 a7) .no), (.v (.int .i64 a8) .no), (.v (.int .i64 a9) .no), (.v (.sl 48 a10) (.own (.slot 0) 48))]⟩), (6, ⟨25, [(.v (.int .i64 a11) .no), (.v (.int .i64 a12) .no), (.v (.bytes a13) .no), (.v (.int .i64 a14) .no), (.v (.int .i64 a15) .no), (.v (.int .i64 a16) .no), (.v (.int .i64 a17) .no), (.v (.int .i64 a18) .no), (.v (.sl 48 a19) .no)]⟩)]]) (fun a10 a11 a12 a13 a14 a15 a16 a17 a18 => K (.exit 0) [(.v (.bytes l0) .no), (.ptr 0 2 0), .any, (.ptr 0 6 0)] [[(2, ⟨25, [(.v (.int .i64 n4) .no), (.v (.int .i64 n5) .no), (.v (.bytes l6) (.own (.slot 0) 5)), (.v (.int .i64 n7) .no), (.v (.int .i64 n8) .no), (.v (.int .i64 n9) .no), (.v (.int .i64 n10) .no), (.v (.int .i64 n11) .no), (.v (.sl 48 vs12) (.own (.slot 0) 48))]⟩), (6, ⟨25, [(.v (.int .i64 a10) .no), (.v (.int .i64 a11) .no), (.v (.bytes a12) .no), (.v (.int .i64 a13) .no), (.v (.int .i64 a14) .no), (.v (.int .i64 a15) .no), (.v (.int .i64 a16) .no), (.v (.int .i64 a17) .no), (.v (.sl 48 a18) .no)]⟩)]]) n3 n13 n14 l15 n16 n17 n18 n19 n20 vs21) (funext fun n3 => funext fun n13 => funext fun n14 => funext fun l15 => funext fun n16 => funext fun n17 => funext fun n18 => funext fun n19 => funext fun n20 => funext fun vs21 => S_fDecode_8_ok N l0 vs1 n2 n4 n5 l6 n7 n8 n9 n10 n11 vs12 K t n3 n13 n14 l15 n16 n17 n18 n19 n20 vs21))
theorem s_fDecode_ok (N : Nat) (x0 : List UInt8) : bodyK (cx_fDecode N) Try.f24 [.v (.bytes x0) .no] [] r_fDecode = s_fDecode N x0 := by
  kernel_rfl
theorem go_fDecode : Goes Try.prog 24 := goes_of Try.func24 (by kernel_rfl) (c := bodyOf Try.f24) (by kernel_rfl)
theorem eo_fDecode (s : List UInt8 → Option (Int × Int × List UInt8 × Int × Int × Int × Int × Int × List V × Int)) (hs : ∀ (x0 : List UInt8) (r0 : Int) (r1 : Int) (r2 : List UInt8) (r3 : Int) (r4 : Int) (r5 : Int) (r6 : Int) (r7 : Int) (r8 : List V) (r9 : Int), s x0 = some (r0, r1, r2, r3, r4, r5, r6, r7, r8, r9) → PureRet Try.prog T 24 [.v (.bytes x0) .no] [.agg [.v (.int .i64 r0) .no, .v (.int .i64 r1) .no, .v (.bytes r2) .no, .v (.int .i64 r3) .no, .v (.int .i64 r4) .no, .v (.int .i64 r5) .no, .v (.int .i64 r6) .no, .v (.int .i64 r7) .no, .v (.sl 48 r8) .no], .v (.int .i64 r9) .no]) : EntOK Try.prog T ⟨24, e_fDecode s⟩ := by
  refine ⟨go_fDecode, fun R ds K r h => ?_, fun R ds K => ?_⟩
  · simp only [e_fDecode] at h
    split at h
    · obtain ⟨r0, r1, r2, r3, r4, r5, r6, r7, r8, r9, h1, h2⟩ := bnd10_some h
      exact ⟨_, h2, hs _ _ _ _ _ _ _ _ _ _ _ h1⟩
    · cases h
  · simp only [e_fDecode]
    split
    · rw [bnd10_b]; rfl
    · rfl
theorem co_fDecode (N : Nat) : CxOK Try.prog (cx_fDecode N) :=
  cxOK_of2 (es := [⟨48, e_Decode (s_Decode N)⟩, ⟨49, e_farranged (s_farranged N)⟩, ⟨50, e_fget (s_fget N)⟩, ⟨51, e_aDecode (s_aDecode N)⟩, ⟨14, e_fEncode (s_fEncode N)⟩, ⟨46, e_Equal (s_Equal N)⟩]) (me := []) (ms := []) T_ok ⟨eo_Decode _ (p_Decode N), eo_farranged _ (p_farranged N), eo_fget _ (p_fget N), eo_aDecode _ (p_aDecode N), eo_fEncode _ (p_fEncode N), eo_Equal _ (p_Equal N), trivial⟩ trivial trivial rfl (fun _ _ _ _ => rfl) (fun _ _ _ _ _ _ => rfl) rfl
theorem lk_fDecode_8 (N : Nat) : LoopOK (cx_fDecode N) 131 (loopN Try.f24 0) := by
  refine loopOK_of (rid := 8) (by kernel_rfl) rfl rfl fun R ds m K r h => ?_
  have h : l_fDecode_8 N ds m K = some r := h
  unfold l_fDecode_8 at h
  split at h
  · exact ⟨N, Eq.trans (S_fDecode_8_ok ..) h⟩
  · cases h
theorem lo_fDecode (N : Nat) : LoopsOK (cx_fDecode N) Try.f24.ntmps (bodyOf Try.f24) :=
  loopsOK_of (k := 1) (by kernel_rfl) ⟨trivial, lk_fDecode_8 N⟩
theorem p_fDecode (N : Nat) (x0 : List UInt8) (r0 : Int) (r1 : Int) (r2 : List UInt8) (r3 : Int) (r4 : Int) (r5 : Int) (r6 : Int) (r7 : Int) (r8 : List V) (r9 : Int) (h : s_fDecode N x0 = some (r0, r1, r2, r3, r4, r5, r6, r7, r8, r9)) : PureRet Try.prog T 24 [.v (.bytes x0) .no] [.agg [.v (.int .i64 r0) .no, .v (.int .i64 r1) .no, .v (.bytes r2) .no, .v (.int .i64 r3) .no, .v (.int .i64 r4) .no, .v (.int .i64 r5) .no, .v (.int .i64 r6) .no, .v (.int .i64 r7) .no, .v (.sl 48 r8) .no], .v (.int .i64 r9) .no] :=
  pure_of (cx := cx_fDecode N) (by kernel_rfl) (co_fDecode N) Try.func24 (by kernel_rfl) (by kernel_rfl) (lo_fDecode N) rfl rfl rfl (rf := r_fDecode) ((s_fDecode_ok N x0).trans h) (fun rs' m h => by
    unfold r_fDecode at h
    split at h
    · cases h; exact ⟨rfl, rfl⟩
    · cases h)
noncomputable def e_vsmall {R : Type} (s : Int → Int → List V → Int → Option (Bool)) (ds : List D) (K : List D → Option R) : Option R :=
  match ds with
  | [.agg [.v (.int .i64 x0) .no, .v (.int .i64 x1) .no, .v (.sl 46 x2) .no], .v (.int .i64 x3) .no] => bnd1 (s x0 x1 x2 x3) fun r0 => K [.v (.bool r0) .no]
  | _ => none
noncomputable def r_vsmall (rs : List D) (_ : Mem) : Option (Bool) :=
  match rs with
  | [.v (.bool r0) _] => some (r0)
  | _ => none
noncomputable def F_vsmall_4 {R : Type} (N : Nat) (f : Int → Int → List V → Int → Option (Bool)) (n0 : Int) (n2 : Int) (n3 : Int) (vs4 : List V) (Lq : Int → Option R) (K0 : Bool → Option R) (K1 : Option R) (n1 : Int) : Option R :=
  br (decide (n1 < (↑vs4.length : Int)))
  (br (decide (0 ≤ n1) && decide (n1 < (↑vs4.length : Int)))
    (at? vs4 n1.toNat fun x0 =>
      x0.unAgg fun l1 =>
        unCons l1 fun x2 l3 =>
          V.unInt IntKind.i64 x2 fun n4 =>
            unCons l3 fun x5 l6 => V.unInt IntKind.i64 x5 fun n7 => unCons l6 fun x8 l9 => V.unSl 46 x8 fun l10 => unNil l9 (bnd1 (f n4 n7 l10 (IntKind.i64.wrap (n0 - 1))) fun b11 => br (!b11) (K0 false) (Lq (IntKind.i64.wrap (n1 + 1)))))
    none)
  K1
noncomputable def S_vsmall_4 {R : Type} (N : Nat) (f : Int → Int → List V → Int → Option (Bool)) (n0 : Int) (n2 : Int) (n3 : Int) (vs4 : List V) : Nat → Int → (Bool → Option R) → (Option R) → Option R
  | 0, _, _, _ => none
  | t + 1, n1, K0, K1 => F_vsmall_4 N f n0 n2 n3 vs4 (fun n1 => S_vsmall_4 N f n0 n2 n3 vs4 t n1 K0 K1) K0 K1 n1
noncomputable def l_vsmall_4 {R : Type} (N : Nat) (f : Int → Int → List V → Int → Option (Bool)) (ds : List D) (m : Mem) (K : Ex → List D → Mem → Option R) : Option R :=
  match ds, m with
  | [(.v (.int .i64 n0) .no), (.ptr 0 2 0), (.v (.int .i64 n1) .no)], [[(2, ⟨46, [(.v (.int .i64 n2) .no), (.v (.int .i64 n3) .no), (.v (.sl 46 vs4) .no)]⟩)]] => S_vsmall_4 N f n0 n2 n3 vs4 N n1 (fun a0 => K .ret [(.ptr 0 2 0), (.v (.bool a0) .no)] [[(2, ⟨46, [(.v (.int .i64 n2) .no), (.v (.int .i64 n3) .no), (.v (.sl 46 vs4) .no)]⟩)]]) (K (.exit 0) [(.ptr 0 2 0), .any] [[(2, ⟨46, [(.v (.int .i64 n2) .no), (.v (.int .i64 n3) .no), (.v (.sl 46 vs4) .no)]⟩)]])
  | _, _ => none
noncomputable def B_vsmall (N : Nat) (f : Int → Int → List V → Int → Option (Bool)) (x0 : Int) (x1 : Int) (x2 : List V) (x3 : Int) : Option (Bool) :=
  br (decide (x3 = 0)) (some false) (br (decide (20 < (↑x2.length : Int))) (some false) (S_vsmall_4 N f x3 x0 x1 x2 N 0 (fun b0 => some b0) (some true)))
noncomputable def s_vsmall (N : Nat) : Nat → Int → Int → List V → Int → Option (Bool)
  | 0, _, _, _, _ => none
  | n + 1, x0, x1, x2, x3 => B_vsmall N (s_vsmall N n) x0 x1 x2 x3
noncomputable def cx_vsmall (N : Nat) (f : Int → Int → List V → Int → Option (Bool)) : Cx := { T := T, isPure := tabP [⟨26, e_vsmall f⟩], pureK := fun g ds K => tabK [⟨26, e_vsmall f⟩] g ds K, memK := fun g dst ds m K => tabMK [] g dst ds m K, meth := tabM [], keep := fun r => match r with | 4 => [1, 2, 5] | _ => [], keepX := fun r => match r with | 4 => [2, 4] | _ => [], loopT := fun r ds m K => match r with | 4 => l_vsmall_4 N f ds m K | _ => none, jumps := 9 }
theorem F_vsmall_4_ok {R : Type} (N : Nat) (f : Int → Int → List V → Int → Option (Bool)) (n0 : Int) (n2 : Int) (n3 : Int) (vs4 : List V) (n1 : Int) (L : List D → Mem → Option R) (K : Ex → List D → Mem → Option R) :
    roundK (fun st K => codeK (cx_vsmall N f) (loopN Try.f26 0) st K) 30 [1, 2, 5] [2, 4] L [(.v (.int .i64 n0) .no), (.ptr 0 2 0), (.v (.int .i64 n1) .no)] [[(2, ⟨46, [(.v (.int .i64 n2) .no), (.v (.int .i64 n3) .no), (.v (.sl 46 vs4) .no)]⟩)]] K = F_vsmall_4 N f n0 n2 n3 vs4 (fun n1 => L [(.v (.int .i64 n0) .no), (.ptr 0 2 0), (.v (.int .i64 n1) .no)] [[(2, ⟨46, [(.v (.int .i64 n2) .no), (.v (.int .i64 n3) .no), (.v (.sl 46 vs4) .no)]⟩)]]) (fun a0 => K .ret [(.ptr 0 2 0), (.v (.bool a0) .no)] [[(2, ⟨46, [(.v (.int .i64 n2) .no), (.v (.int .i64 n3) .no), (.v (.sl 46 vs4) .no)]⟩)]]) (K (.exit 0) [(.ptr 0 2 0), .any] [[(2, ⟨46, [(.v (.int .i64 n2) .no), (.v (.int .i64 n3) .no), (.v (.sl 46 vs4) .no)]⟩)]]) n1 := by
  kernel_rfl
theorem S_vsmall_4_ok {R : Type} (N : Nat) (f : Int → Int → List V → Int → Option (Bool)) (n0 : Int) (n2 : Int) (n3 : Int) (vs4 : List V) (K : Ex → List D → Mem → Option R) : ∀ (t : Nat) (n1 : Int),
    loopK (fun st K => codeK (cx_vsmall N f) (loopN Try.f26 0) st K) 30 [1, 2, 5] [2, 4] t [(.v (.int .i64 n0) .no), (.ptr 0 2 0), (.v (.int .i64 n1) .no)] [[(2, ⟨46, [(.v (.int .i64 n2) .no), (.v (.int .i64 n3) .no), (.v (.sl 46 vs4) .no)]⟩)]] K = S_vsmall_4 N f n0 n2 n3 vs4 t n1 (fun a0 => K .ret [(.ptr 0 2 0), (.v (.bool a0) .no)] [[(2, ⟨46, [(.v (.int .i64 n2) .no), (.v (.int .i64 n3) .no), (.v (.sl 46 vs4) .no)]⟩)]]) (K (.exit 0) [(.ptr 0 2 0), .any] [[(2, ⟨46, [(.v (.int .i64 n2) .no), (.v (.int .i64 n3) .no), (.v (.sl 46 vs4) .no)]⟩)]])
  | 0, n1 => rfl
  | t + 1, n1 => (F_vsmall_4_ok N f n0 n2 n3 vs4 n1 _ K).trans (congrArg (fun L => F_vsmall_4 N f n0 n2 n3 vs4 L (fun a0 => K .ret [(.ptr 0 2 0), (.v (.bool a0) .no)] [[(2, ⟨46, [(.v (.int .i64 n2) .no), (.v (.int .i64 n3) .no), (.v (.sl 46 vs4) .no)]⟩)]]) (K (.exit 0) [(.ptr 0 2 0), .any] [[(2, ⟨46, [(.v (.int .i64 n2) .no), (.v (.int .i64 n3) .no), (.v (.sl 46 vs4) .no)]⟩)]]) n1) (funext fun n1 => S_vsmall_4_ok N f n0 n2 n3 vs4 K t n1))
theorem B_vsmall_ok (N : Nat) (f : Int → Int → List V → Int → Option (Bool)) (x0 : Int) (x1 : Int) (x2 : List V) (x3 : Int) : bodyK (cx_vsmall N f) Try.f26 [.agg [.v (.int .i64 x0) .no, .v (.int .i64 x1) .no, .v (.sl 46 x2) .no], .v (.int .i64 x3) .no] [] r_vsmall = B_vsmall N f x0 x1 x2 x3 := by
  kernel_rfl
theorem go_vsmall : Goes Try.prog 26 := goes_of Try.func26 (by kernel_rfl) (c := bodyOf Try.f26) (by kernel_rfl)
theorem eo_vsmall (s : Int → Int → List V → Int → Option (Bool)) (hs : ∀ (x0 : Int) (x1 : Int) (x2 : List V) (x3 : Int) (r0 : Bool), s x0 x1 x2 x3 = some r0 → PureRet Try.prog T 26 [.agg [.v (.int .i64 x0) .no, .v (.int .i64 x1) .no, .v (.sl 46 x2) .no], .v (.int .i64 x3) .no] [.v (.bool r0) .no]) : EntOK Try.prog T ⟨26, e_vsmall s⟩ := by
  refine ⟨go_vsmall, fun R ds K r h => ?_, fun R ds K => ?_⟩
  · simp only [e_vsmall] at h
    split at h
    · obtain ⟨r0, h1, h2⟩ := bnd1_some h
      exact ⟨_, h2, hs _ _ _ _ _ h1⟩
    · cases h
  · simp only [e_vsmall]
    split
    · rw [bnd1_b]; rfl
    · rfl
theorem co_vsmall (N : Nat) (f : Int → Int → List V → Int → Option (Bool)) (hf : ∀ (x0 : Int) (x1 : Int) (x2 : List V) (x3 : Int) (r0 : Bool), f x0 x1 x2 x3 = some r0 → PureRet Try.prog T 26 [.agg [.v (.int .i64 x0) .no, .v (.int .i64 x1) .no, .v (.sl 46 x2) .no], .v (.int .i64 x3) .no] [.v (.bool r0) .no]) : CxOK Try.prog (cx_vsmall N f) :=
  cxOK_of2 (es := [⟨26, e_vsmall f⟩]) (me := []) (ms := []) T_ok ⟨eo_vsmall f hf, trivial⟩ trivial trivial rfl (fun _ _ _ _ => rfl) (fun _ _ _ _ _ _ => rfl) rfl
theorem lk_vsmall_4 (N : Nat) (f : Int → Int → List V → Int → Option (Bool)) : LoopOK (cx_vsmall N f) 30 (loopN Try.f26 0) := by
  refine loopOK_of (rid := 4) (by kernel_rfl) rfl rfl fun R ds m K r h => ?_
  have h : l_vsmall_4 N f ds m K = some r := h
  unfold l_vsmall_4 at h
  split at h
  · exact ⟨N, Eq.trans (S_vsmall_4_ok ..) h⟩
  · cases h
theorem lo_vsmall (N : Nat) (f : Int → Int → List V → Int → Option (Bool)) : LoopsOK (cx_vsmall N f) Try.f26.ntmps (bodyOf Try.f26) :=
  loopsOK_of (k := 1) (by kernel_rfl) ⟨trivial, lk_vsmall_4 N f⟩
theorem p_vsmall (N : Nat) : ∀ (M : Nat) (x0 : Int) (x1 : Int) (x2 : List V) (x3 : Int) (r0 : Bool), s_vsmall N M x0 x1 x2 x3 = some r0 → PureRet Try.prog T 26 [.agg [.v (.int .i64 x0) .no, .v (.int .i64 x1) .no, .v (.sl 46 x2) .no], .v (.int .i64 x3) .no] [.v (.bool r0) .no]
  | 0, _, _, _, _, _, h => by cases h
  | M + 1, x0, x1, x2, x3, r0, h => pure_of (cx := cx_vsmall N (s_vsmall N M)) (by kernel_rfl) (co_vsmall N (s_vsmall N M) (p_vsmall N M)) Try.func26 (by kernel_rfl) (by kernel_rfl) (lo_vsmall N (s_vsmall N M)) rfl rfl rfl (rf := r_vsmall) ((B_vsmall_ok N (s_vsmall N M) x0 x1 x2 x3).trans h) (fun rs' m h => by
    unfold r_vsmall at h
    split at h
    · cases h; exact ⟨rfl, rfl⟩
    · cases h)
noncomputable def e_vfew {R : Type} (s : Int → Int → List UInt8 → Int → Int → Int → Int → Int → List V → Option (Bool)) (ds : List D) (K : List D → Option R) : Option R :=
  match ds with
  | [.agg [.v (.int .i64 x0) .no, .v (.int .i64 x1) .no, .v (.bytes x2) .no, .v (.int .i64 x3) .no, .v (.int .i64 x4) .no, .v (.int .i64 x5) .no, .v (.int .i64 x6) .no, .v (.int .i64 x7) .no, .v (.sl 48 x8) .no]] => bnd1 (s x0 x1 x2 x3 x4 x5 x6 x7 x8) fun r0 => K [.v (.bool r0) .no]
  | _ => none
noncomputable def r_vfew (rs : List D) (_ : Mem) : Option (Bool) :=
  match rs with
  | [.v (.bool r0) _] => some (r0)
  | _ => none
noncomputable def F_vfew_4 {R : Type} (N : Nat) (n1 : Int) (n2 : Int) (l3 : List UInt8) (n4 : Int) (n5 : Int) (n6 : Int) (n7 : Int) (n8 : Int) (vs9 : List V) (Lq : Int → Option R) (K0 : Bool → Option R) (K1 : Option R) (n0 : Int) : Option R :=
  br (decide (n0 < (↑vs9.length : Int)))
  (br (decide (0 ≤ n0) && decide (n0 < (↑vs9.length : Int)))
    (at? vs9 n0.toNat fun x0 =>
      x0.unAgg fun l1 =>
        unCons l1 fun x2 l3 =>
          V.unInt IntKind.i64 x2 fun n4 =>
            unCons l3 fun x5 l6 =>
              V.unInt IntKind.i64 x5 fun n7 =>
                unCons l6 fun x8 l9 => V.unInt IntKind.i64 x8 fun n10 => unCons l9 fun x11 l12 => V.unSl 46 x11 fun l13 => unNil l12 (bnd1 (s_vsmall N N n7 n10 l13 12) fun b14 => br (!b14) (K0 false) (Lq (IntKind.i64.wrap (n0 + 1)))))
    none)
  K1
noncomputable def S_vfew_4 {R : Type} (N : Nat) (n1 : Int) (n2 : Int) (l3 : List UInt8) (n4 : Int) (n5 : Int) (n6 : Int) (n7 : Int) (n8 : Int) (vs9 : List V) : Nat → Int → (Bool → Option R) → (Option R) → Option R
  | 0, _, _, _ => none
  | t + 1, n0, K0, K1 => F_vfew_4 N n1 n2 l3 n4 n5 n6 n7 n8 vs9 (fun n0 => S_vfew_4 N n1 n2 l3 n4 n5 n6 n7 n8 vs9 t n0 K0 K1) K0 K1 n0
noncomputable def l_vfew_4 {R : Type} (N : Nat) (ds : List D) (m : Mem) (K : Ex → List D → Mem → Option R) : Option R :=
  match ds, m with
  | [(.ptr 0 1 0), (.v (.int .i64 n0) .no)], [[(1, ⟨25, [(.v (.int .i64 n1) .no), (.v (.int .i64 n2) .no), (.v (.bytes l3) .no), (.v (.int .i64 n4) .no), (.v (.int .i64 n5) .no), (.v (.int .i64 n6) .no), (.v (.int .i64 n7) .no), (.v (.int .i64 n8) .no), (.v (.sl 48 vs9) .no)]⟩)]] => S_vfew_4 N n1 n2 l3 n4 n5 n6 n7 n8 vs9 N n0 (fun a0 => K .ret [(.ptr 0 1 0), (.v (.bool a0) .no)] [[(1, ⟨25, [(.v (.int .i64 n1) .no), (.v (.int .i64 n2) .no), (.v (.bytes l3) .no), (.v (.int .i64 n4) .no), (.v (.int .i64 n5) .no), (.v (.int .i64 n6) .no), (.v (.int .i64 n7) .no), (.v (.int .i64 n8) .no), (.v (.sl 48 vs9) .no)]⟩)]]) (K (.exit 0) [(.ptr 0 1 0), .any] [[(1, ⟨25, [(.v (.int .i64 n1) .no), (.v (.int .i64 n2) .no), (.v (.bytes l3) .no), (.v (.int .i64 n4) .no), (.v (.int .i64 n5) .no), (.v (.int .i64 n6) .no), (.v (.int .i64 n7) .no), (.v (.int .i64 n8) .no), (.v (.sl 48 vs9) .no)]⟩)]])
  | _, _ => none
noncomputable def s_vfew (N : Nat) (x0 : Int) (x1 : Int) (x2 : List UInt8) (x3 : Int) (x4 : Int) (x5 : Int) (x6 : Int) (x7 : Int) (x8 : List V) : Option (Bool) :=
  br (decide (20 < (↑x8.length : Int))) (some false) (br (decide (60 < (↑x2.length : Int))) (some false) (S_vfew_4 N x0 x1 x2 x3 x4 x5 x6 x7 x8 N 0 (fun b0 => some b0) (some true)))
noncomputable def cx_vfew (N : Nat) : Cx := { T := T, isPure := tabP [⟨26, e_vsmall (s_vsmall N N)⟩], pureK := fun g ds K => tabK [⟨26, e_vsmall (s_vsmall N N)⟩] g ds K, memK := fun g dst ds m K => tabMK [] g dst ds m K, meth := tabM [], keep := fun r => match r with | 4 => [1, 3] | _ => [], keepX := fun r => match r with | 4 => [1, 2] | _ => [], loopT := fun r ds m K => match r with | 4 => l_vfew_4 N ds m K | _ => none, jumps := 9 }
theorem F_vfew_4_ok {R : Type} (N : Nat) (n1 : Int) (n2 : Int) (l3 : List UInt8) (n4 : Int) (n5 : Int) (n6 : Int) (n7 : Int) (n8 : Int) (vs9 : List V) (n0 : Int) (L : List D → Mem → Option R) (K : Ex → List D → Mem → Option R) :
    roundK (fun st K => codeK (cx_vfew N) (loopN Try.f10 0) st K) 29 [1, 3] [1, 2] L [(.ptr 0 1 0), (.v (.int .i64 n0) .no)] [[(1, ⟨25, [(.v (.int .i64 n1) .no), (.v (.int .i64 n2) .no), (.v (.bytes l3) .no), (.v (.int .i64 n4) .no), (.v (.int .i64 n5) .no), (.v (.int .i64 n6) .no), (.v (.int .i64 n7) .no), (.v (.int .i64 n8) .no), (.v (.sl 48 vs9) .no)]⟩)]] K = F_vfew_4 N n1 n2 l3 n4 n5 n6 n7 n8 vs9 (fun n0 => L [(.ptr 0 1 0), (.v (.int .i64 n0) .no)] [[(1, ⟨25, [(.v (.int .i64 n1) .no), (.v (.int .i64 n2) .no), (.v (.bytes l3) .no), (.v (.int .i64 n4) .no), (.v (.int .i64 n5) .no), (.v (.int .i64 n6) .no), (.v (.int .i64 n7) .no), (.v (.int .i64 n8) .no), (.v (.sl 48 vs9) .no)]⟩)]]) (fun a0 => K .ret [(.ptr 0 1 0), (.v (.bool a0) .no)] [[(1, ⟨25, [(.v (.int .i64 n1) .no), (.v (.int .i64 n2) .no), (.v (.bytes l3) .no), (.v (.int .i64 n4) .no), (.v (.int .i64 n5) .no), (.v (.int .i64 n6) .no), (.v (.int .i64 n7) .no), (.v (.int .i64 n8) .no), (.v (.sl 48 vs9) .no)]⟩)]]) (K (.exit 0) [(.ptr 0 1 0), .any] [[(1, ⟨25, [(.v (.int .i64 n1) .no), (.v (.int .i64 n2) .no), (.v (.bytes l3) .no), (.v (.int .i64 n4) .no), (.v (.int .i64 n5) .no), (.v (.int .i64 n6) .no), (.v (.int .i64 n7) .no), (.v (.int .i64 n8) .no), (.v (.sl 48 vs9) .no)]⟩)]]) n0 := by
  kernel_rfl
theorem S_vfew_4_ok {R : Type} (N : Nat) (n1 : Int) (n2 : Int) (l3 : List UInt8) (n4 : Int) (n5 : Int) (n6 : Int) (n7 : Int) (n8 : Int) (vs9 : List V) (K : Ex → List D → Mem → Option R) : ∀ (t : Nat) (n0 : Int),
    loopK (fun st K => codeK (cx_vfew N) (loopN Try.f10 0) st K) 29 [1, 3] [1, 2] t [(.ptr 0 1 0), (.v (.int .i64 n0) .no)] [[(1, ⟨25, [(.v (.int .i64 n1) .no), (.v (.int .i64 n2) .no), (.v (.bytes l3) .no), (.v (.int .i64 n4) .no), (.v (.int .i64 n5) .no), (.v (.int .i64 n6) .no), (.v (.int .i64 n7) .no), (.v (.int .i64 n8) .no), (.v (.sl 48 vs9) .no)]⟩)]] K = S_vfew_4 N n1 n2 l3 n4 n5 n6 n7 n8 vs9 t n0 (fun a0 => K .ret [(.ptr 0 1 0), (.v (.bool a0) .no)] [[(1, ⟨25, [(.v (.int .i64 n1) .no), (.v (.int .i64 n2) .no), (.v (.bytes l3) .no), (.v (.int .i64 n4) .no), (.v (.int .i64 n5) .no), (.v (.int .i64 n6) .no), (.v (.int .i64 n7) .no), (.v (.int .i64 n8) .no), (.v (.sl 48 vs9) .no)]⟩)]]) (K (.exit 0) [(.ptr 0 1 0), .any] [[(1, ⟨25, [(.v (.int .i64 n1) .no), (.v (.int .i64 n2) .no), (.v (.bytes l3) .no), (.v (.int .i64 n4) .no), (.v (.int .i64 n5) .no), (.v (.int .i64 n6) .no), (.v (.int .i64 n7) .no), (.v (.int .i64 n8) .no), (.v (.sl 48 vs9) .no)]⟩)]])
  | 0, n0 => rfl
  | t + 1, n0 => (F_vfew_4_ok N n1 n2 l3 n4 n5 n6 n7 n8 vs9 n0 _ K).trans (congrArg (fun L => F_vfew_4 N n1 n2 l3 n4 n5 n6 n7 n8 vs9 L (fun a0 => K .ret [(.ptr 0 1 0), (.v (.bool a0) .no)] [[(1, ⟨25, [(.v (.int .i64 n1) .no), (.v (.int .i64 n2) .no), (.v (.bytes l3) .no), (.v (.int .i64 n4) .no), (.v (.int .i64 n5) .no), (.v (.int .i64 n6) .no), (.v (.int .i64 n7) .no), (.v (.int .i64 n8) .no), (.v (.sl 48 vs9) .no)]⟩)]]) (K (.exit 0) [(.ptr 0 1 0), .any] [[(1, ⟨25, [(.v (.int .i64 n1) .no), (.v (.int .i64 n2) .no), (.v (.bytes l3) .no), (.v (.int .i64 n4) .no), (.v (.int .i64 n5) .no), (.v (.int .i64 n6) .no), (.v (.int .i64 n7) .no), (.v (.int .i64 n8) .no), (.v (.sl 48 vs9) .no)]⟩)]]) n0) (funext fun n0 => S_vfew_4_ok N n1 n2 l3 n4 n5 n6 n7 n8 vs9 K t n0))
theorem s_vfew_ok (N : Nat) (x0 : Int) (x1 : Int) (x2 : List UInt8) (x3 : Int) (x4 : Int) (x5 : Int) (x6 : Int) (x7 : Int) (x8 : List V) : bodyK (cx_vfew N) Try.f10 [.agg [.v (.int .i64 x0) .no, .v (.int .i64 x1) .no, .v (.bytes x2) .no, .v (.int .i64 x3) .no, .v (.int .i64 x4) .no, .v (.int .i64 x5) .no, .v (.int .i64 x6) .no, .v (.int .i64 x7) .no, .v (.sl 48 x8) .no]] [] r_vfew = s_vfew N x0 x1 x2 x3 x4 x5 x6 x7 x8 := by
  kernel_rfl
theorem go_vfew : Goes Try.prog 10 := goes_of Try.func10 (by kernel_rfl) (c := bodyOf Try.f10) (by kernel_rfl)
theorem eo_vfew (s : Int → Int → List UInt8 → Int → Int → Int → Int → Int → List V → Option (Bool)) (hs : ∀ (x0 : Int) (x1 : Int) (x2 : List UInt8) (x3 : Int) (x4 : Int) (x5 : Int) (x6 : Int) (x7 : Int) (x8 : List V) (r0 : Bool), s x0 x1 x2 x3 x4 x5 x6 x7 x8 = some r0 → PureRet Try.prog T 10 [.agg [.v (.int .i64 x0) .no, .v (.int .i64 x1) .no, .v (.bytes x2) .no, .v (.int .i64 x3) .no, .v (.int .i64 x4) .no, .v (.int .i64 x5) .no, .v (.int .i64 x6) .no, .v (.int .i64 x7) .no, .v (.sl 48 x8) .no]] [.v (.bool r0) .no]) : EntOK Try.prog T ⟨10, e_vfew s⟩ := by
  refine ⟨go_vfew, fun R ds K r h => ?_, fun R ds K => ?_⟩
  · simp only [e_vfew] at h
    split at h
    · obtain ⟨r0, h1, h2⟩ := bnd1_some h
      exact ⟨_, h2, hs _ _ _ _ _ _ _ _ _ _ h1⟩
    · cases h
  · simp only [e_vfew]
    split
    · rw [bnd1_b]; rfl
    · rfl
theorem co_vfew (N : Nat) : CxOK Try.prog (cx_vfew N) :=
  cxOK_of2 (es := [⟨26, e_vsmall (s_vsmall N N)⟩]) (me := []) (ms := []) T_ok ⟨eo_vsmall _ (p_vsmall N N), trivial⟩ trivial trivial rfl (fun _ _ _ _ => rfl) (fun _ _ _ _ _ _ => rfl) rfl
theorem lk_vfew_4 (N : Nat) : LoopOK (cx_vfew N) 29 (loopN Try.f10 0) := by
  refine loopOK_of (rid := 4) (by kernel_rfl) rfl rfl fun R ds m K r h => ?_
  have h : l_vfew_4 N ds m K = some r := h
  unfold l_vfew_4 at h
  split at h
  · exact ⟨N, Eq.trans (S_vfew_4_ok ..) h⟩
  · cases h
theorem lo_vfew (N : Nat) : LoopsOK (cx_vfew N) Try.f10.ntmps (bodyOf Try.f10) :=
  loopsOK_of (k := 1) (by kernel_rfl) ⟨trivial, lk_vfew_4 N⟩
theorem p_vfew (N : Nat) (x0 : Int) (x1 : Int) (x2 : List UInt8) (x3 : Int) (x4 : Int) (x5 : Int) (x6 : Int) (x7 : Int) (x8 : List V) (r0 : Bool) (h : s_vfew N x0 x1 x2 x3 x4 x5 x6 x7 x8 = some r0) : PureRet Try.prog T 10 [.agg [.v (.int .i64 x0) .no, .v (.int .i64 x1) .no, .v (.bytes x2) .no, .v (.int .i64 x3) .no, .v (.int .i64 x4) .no, .v (.int .i64 x5) .no, .v (.int .i64 x6) .no, .v (.int .i64 x7) .no, .v (.sl 48 x8) .no]] [.v (.bool r0) .no] :=
  pure_of (cx := cx_vfew N) (by kernel_rfl) (co_vfew N) Try.func10 (by kernel_rfl) (by kernel_rfl) (lo_vfew N) rfl rfl rfl (rf := r_vfew) ((s_vfew_ok N x0 x1 x2 x3 x4 x5 x6 x7 x8).trans h) (fun rs' m h => by
    unfold r_vfew at h
    split at h
    · cases h; exact ⟨rfl, rfl⟩
    · cases h)
end Go.Proofs.Ytllnklkjkjmjbaa.En

/- The printed functions, together. -/

/- The chapter's first example, as an item of the engine (written by hand after the printer's form: the printer takes too long at it). -/
namespace Go.Proofs.Ytllnklkjkjmjbaa.En
open Go Go.Proofs
set_option maxRecDepth 100000
set_option linter.unusedVariables false
noncomputable def e_vawake {R : Type} (s : Option (Bool)) (ds : List D) (K : List D → Option R) : Option R :=
  match ds with
  | [] => bnd1 (s) fun r0 => K [.v (.bool r0) .no]
  | _ => none
noncomputable def r_vawake (rs : List D) (_ : Mem) : Option (Bool) :=
  match rs with
  | [.v (.bool r0) _] => some (r0)
  | _ => none
noncomputable def s_vawake (N : Nat)  : Option (Bool) :=
  bnd2 (s_fEncode N 12033 2 [] 1 32 0 0 1 []) fun l0 n1 => bnd2 (s_fNext N 1 64) fun n2 n3 =>
  br (decide (n1 = 0))
  (bnd1 (s_oSame N l0 ([98, 17, 130, 1, 2, 131, 2, 47, 1, 128, 2, 0, 32, 136, 1, 1, 138, 1, 1] : List UInt8)) fun b4 =>
    br b4 (bnd1 (s_fBytes N 12033 2 [] 1 32 0 0 1 []) fun n5 => br (decide (n5 = 32)) (br (decide (n3 = 0)) (some (decide (n2 = 2))) (some false)) (some false)) (some false))
  (some false)
noncomputable def cx_vawake (N : Nat) : Cx := { T := T, isPure := tabP [⟨14, e_fEncode (s_fEncode N)⟩, ⟨19, e_fNext (s_fNext N)⟩, ⟨16, e_oSame (s_oSame N)⟩, ⟨17, e_fBytes (s_fBytes N)⟩], pureK := fun g ds K => tabK [⟨14, e_fEncode (s_fEncode N)⟩, ⟨19, e_fNext (s_fNext N)⟩, ⟨16, e_oSame (s_oSame N)⟩, ⟨17, e_fBytes (s_fBytes N)⟩] g ds K, memK := fun g dst ds m K => tabMK [] g dst ds m K, meth := tabM [], keep := fun _ => [], keepX := fun _ => [], loopT := fun _ _ _ _ => none, jumps := 9 }
theorem s_vawake_ok (N : Nat)  : bodyK (cx_vawake N) Try.f13 [] [] r_vawake = s_vawake N  := by
  kernel_rfl
theorem go_vawake : Goes Try.prog 13 := goes_of Try.func13 (by kernel_rfl) (c := bodyOf Try.f13) (by kernel_rfl)
theorem eo_vawake (s : Option (Bool)) (hs : ∀  (r0 : Bool), s  = some r0 → PureRet Try.prog T 13 [] [.v (.bool r0) .no]) : EntOK Try.prog T ⟨13, e_vawake s⟩ := by
  refine ⟨go_vawake, fun R ds K r h => ?_, fun R ds K => ?_⟩
  · simp only [e_vawake] at h
    split at h
    · obtain ⟨r0, h1, h2⟩ := bnd1_some h
      exact ⟨_, h2, hs _ h1⟩
    · cases h
  · simp only [e_vawake]
    split
    · rw [bnd1_b]; rfl
    · rfl
theorem co_vawake (N : Nat) : CxOK Try.prog (cx_vawake N) :=
  cxOK_of2 (es := [⟨14, e_fEncode (s_fEncode N)⟩, ⟨19, e_fNext (s_fNext N)⟩, ⟨16, e_oSame (s_oSame N)⟩, ⟨17, e_fBytes (s_fBytes N)⟩]) (me := []) (ms := []) T_ok ⟨eo_fEncode _ (p_fEncode N), eo_fNext _ (p_fNext N), eo_oSame _ (p_oSame N), eo_fBytes _ (p_fBytes N), trivial⟩ trivial trivial rfl (fun _ _ _ _ => rfl) (fun _ _ _ _ _ _ => rfl) rfl
theorem lo_vawake (N : Nat) : LoopsOK (cx_vawake N) Try.f13.ntmps (bodyOf Try.f13) :=
  loopsOK_of (k := 0) (by kernel_rfl) trivial
theorem p_vawake (N : Nat)  (r0 : Bool) (h : s_vawake N  = some r0) : PureRet Try.prog T 13 [] [.v (.bool r0) .no] :=
  pure_of (cx := cx_vawake N) (by kernel_rfl) (co_vawake N) Try.func13 (by kernel_rfl) (by kernel_rfl) (lo_vawake N) rfl rfl rfl (rf := r_vawake) ((s_vawake_ok N ).trans h) (fun rs' m h => by
    unfold r_vawake at h
    split at h
    · cases h; exact ⟨rfl, rfl⟩
    · cases h)
end Go.Proofs.Ytllnklkjkjmjbaa.En

/- Functions of the program in plain Lean, joined to the program by evaluation; printed by a program. -/
namespace Go.Proofs.Ytllnklkjkjmjbaa.En
open Go Go.Proofs
set_option maxRecDepth 100000
set_option linter.unusedVariables false
noncomputable def r_vRoundTrip (rs : List D) (_ : Mem) : Option (Bool) :=
  match rs with
  | [.v (.bool r0) _] => some (r0)
  | _ => none
noncomputable def s_vRoundTrip (N : Nat) (x0 : Int) (x1 : Int) (x2 : List UInt8) (x3 : Int) (x4 : Int) (x5 : Int) (x6 : Int) (x7 : Int) (x8 : List V) (x9 : List UInt8) : Option (Bool) :=
  bnd1 (s_vfew N x0 x1 x2 x3 x4 x5 x6 x7 x8) fun b0 =>
  br (!b0) (some true)
    (br (decide (600 < (↑x9.length : Int))) (some true)
      (bnd2 (s_fEncode N x0 x1 x2 x3 x4 x5 x6 x7 x8) fun l1 n2 =>
        bnd1 (s_fCheck N x0 x1 x2 x3 x4 x5 x6 x7 x8) fun n3 =>
          br (!decide (n2 = 0) == decide (n3 = 0)) (some false)
            (br (decide (n2 = 0))
              (bnd10 (s_fDecode N l1) fun n4 n5 l6 n7 n8 n9 n10 n11 l12 n13 =>
                br (!decide (n13 = 0)) (some false)
                  (bnd1 (s_hSame N x0 x1 x2 x3 x4 x5 x6 x7 x8 n4 n5 l6 n7 n8 n9 n10 n11 l12) fun b14 =>
                    br (!b14) (some false)
                      (bnd10 (s_fDecode N x9) fun n15 n16 l17 n18 n19 n20 n21 n22 l23 n24 =>
                        br (decide (n24 = 0))
                          (bnd2 (s_fEncode N n15 n16 l17 n18 n19 n20 n21 n22 l23) fun l25 n26 => br (!decide (n26 = 0)) (some false) (bnd1 (s_oSame N l25 x9) fun b27 => br (!b27) (some false) (bnd1 (s_vawake N) fun b28 => some b28)))
                          (bnd1 (s_vawake N) fun b29 => some b29))))
              (bnd10 (s_fDecode N x9) fun n30 n31 l32 n33 n34 n35 n36 n37 l38 n39 =>
                br (decide (n39 = 0))
                  (bnd2 (s_fEncode N n30 n31 l32 n33 n34 n35 n36 n37 l38) fun l40 n41 => br (!decide (n41 = 0)) (some false) (bnd1 (s_oSame N l40 x9) fun b42 => br (!b42) (some false) (bnd1 (s_vawake N) fun b43 => some b43)))
                  (bnd1 (s_vawake N) fun b44 => some b44)))))
noncomputable def cx_vRoundTrip (N : Nat) : Cx := { T := T, isPure := tabP [⟨10, e_vfew (s_vfew N)⟩, ⟨14, e_fEncode (s_fEncode N)⟩, ⟨11, e_fCheck (s_fCheck N)⟩, ⟨24, e_fDecode (s_fDecode N)⟩, ⟨23, e_hSame (s_hSame N)⟩, ⟨16, e_oSame (s_oSame N)⟩, ⟨13, e_vawake (s_vawake N)⟩], pureK := fun g ds K => tabK [⟨10, e_vfew (s_vfew N)⟩, ⟨14, e_fEncode (s_fEncode N)⟩, ⟨11, e_fCheck (s_fCheck N)⟩, ⟨24, e_fDecode (s_fDecode N)⟩, ⟨23, e_hSame (s_hSame N)⟩, ⟨16, e_oSame (s_oSame N)⟩, ⟨13, e_vawake (s_vawake N)⟩] g ds K, memK := fun g dst ds m K => tabMK [] g dst ds m K, meth := tabM [], keep := fun _ => [], keepX := fun _ => [], loopT := fun _ _ _ _ => none, jumps := 9 }
theorem s_vRoundTrip_ok (N : Nat) (x0 : Int) (x1 : Int) (x2 : List UInt8) (x3 : Int) (x4 : Int) (x5 : Int) (x6 : Int) (x7 : Int) (x8 : List V) (x9 : List UInt8) : bodyK (cx_vRoundTrip N) Try.f9 [.agg [.v (.int .i64 x0) .no, .v (.int .i64 x1) .no, .v (.bytes x2) .no, .v (.int .i64 x3) .no, .v (.int .i64 x4) .no, .v (.int .i64 x5) .no, .v (.int .i64 x6) .no, .v (.int .i64 x7) .no, .v (.sl 48 x8) .no], .v (.bytes x9) .no] [] r_vRoundTrip = s_vRoundTrip N x0 x1 x2 x3 x4 x5 x6 x7 x8 x9 := by
  kernel_rfl
theorem co_vRoundTrip (N : Nat) : CxOK Try.prog (cx_vRoundTrip N) :=
  cxOK_of2 (es := [⟨10, e_vfew (s_vfew N)⟩, ⟨14, e_fEncode (s_fEncode N)⟩, ⟨11, e_fCheck (s_fCheck N)⟩, ⟨24, e_fDecode (s_fDecode N)⟩, ⟨23, e_hSame (s_hSame N)⟩, ⟨16, e_oSame (s_oSame N)⟩, ⟨13, e_vawake (s_vawake N)⟩]) (me := []) (ms := []) T_ok ⟨eo_vfew _ (p_vfew N), eo_fEncode _ (p_fEncode N), eo_fCheck _ (p_fCheck N), eo_fDecode _ (p_fDecode N), eo_hSame _ (p_hSame N), eo_oSame _ (p_oSame N), eo_vawake _ (p_vawake N), trivial⟩ trivial trivial rfl (fun _ _ _ _ => rfl) (fun _ _ _ _ _ _ => rfl) rfl
theorem lo_vRoundTrip (N : Nat) : LoopsOK (cx_vRoundTrip N) Try.f9.ntmps (bodyOf Try.f9) :=
  loopsOK_of (k := 0) (by kernel_rfl) trivial
theorem p_vRoundTrip (N : Nat) (x0 : Int) (x1 : Int) (x2 : List UInt8) (x3 : Int) (x4 : Int) (x5 : Int) (x6 : Int) (x7 : Int) (x8 : List V) (x9 : List UInt8) (r0 : Bool) (h : s_vRoundTrip N x0 x1 x2 x3 x4 x5 x6 x7 x8 x9 = some r0) : PureRet Try.prog T 9 [.agg [.v (.int .i64 x0) .no, .v (.int .i64 x1) .no, .v (.bytes x2) .no, .v (.int .i64 x3) .no, .v (.int .i64 x4) .no, .v (.int .i64 x5) .no, .v (.int .i64 x6) .no, .v (.int .i64 x7) .no, .v (.sl 48 x8) .no], .v (.bytes x9) .no] [.v (.bool r0) .no] :=
  pure_of (cx := cx_vRoundTrip N) (by kernel_rfl) (co_vRoundTrip N) Try.func9 (by kernel_rfl) (by kernel_rfl) (lo_vRoundTrip N) rfl rfl rfl (rf := r_vRoundTrip) ((s_vRoundTrip_ok N x0 x1 x2 x3 x4 x5 x6 x7 x8 x9).trans h) (fun rs' m h => by
    unfold r_vRoundTrip at h
    split at h
    · cases h; exact ⟨rfl, rfl⟩
    · cases h)
end Go.Proofs.Ytllnklkjkjmjbaa.En

/- The printed functions, together. -/

/- Headers of files as plain data; octets compared; which headers are valid: the program and the reference. -/
namespace Go.Proofs.Ytllnklkjkjmjbaa.En
open Go
set_option linter.unusedVariables false
theorem midG {α : Type} (pre : List α) (x : α) (suf : List α) : pre ++ x :: suf = (pre ++ [x]) ++ suf := by simp
section
variable (N : Nat)
theorem oCmp_loop : ∀ (a b pre : List UInt8) (t : Nat), a.length < t → pre.length + a.length ≤ 9223372036854775807 → pre.length + b.length ≤ 9223372036854775807 →
    ∃ z, S_oCompare_2 N (pre ++ a) (pre ++ b) t (pre.length : Int) (fun n0 => some n0) (br (decide (((pre ++ a).length : Int) < ((pre ++ b).length : Int))) (some (-1)) (br (decide (((pre ++ b).length : Int) < ((pre ++ a).length : Int))) (some 1) (some 0))) = some z ∧ (z = 0 ↔ a = b)
  | a, b, pre, 0, ht, _, _ => by omega
  | [], [], pre, t + 1, ht, _, _ => by
    unfold S_oCompare_2 F_oCompare_2
    exact ⟨0, by simp [br], by simp⟩
  | [], y :: b, pre, t + 1, ht, _, _ => by
    unfold S_oCompare_2 F_oCompare_2
    refine ⟨-1, ?_, by simp⟩
    simp only [br_dec, List.append_nil]
    rw [if_neg (by omega), if_pos (by simp; omega)]
  | x :: a, [], pre, t + 1, ht, _, _ => by
    unfold S_oCompare_2 F_oCompare_2
    refine ⟨1, ?_, by simp⟩
    simp only [br_dec, List.append_nil]
    rw [if_pos (by simp; omega), if_neg (by omega), if_neg (by simp; omega), if_pos (by simp; omega)]
  | x :: a, y :: b, pre, t + 1, ht, h1, h2 => by
    simp only [List.length_cons] at ht h1 h2
    obtain ⟨z, ih1, ih2⟩ := oCmp_loop a b (pre ++ [x]) t (by omega) (by simp; omega) (by simp; omega)
    have e1 : (pre.length : Int) < ((pre ++ x :: a).length : Int) := by simp; omega
    have e2 : (pre.length : Int) < ((pre ++ y :: b).length : Int) := by simp; omega
    have e3 : (0 : Int) ≤ pre.length := by omega
    have e4 : IntKind.i64.wrap ((pre.length : Int) + 1) = ((pre ++ [x]).length : Int) := by rw [w64 (by omega) (by omega)]; simp
    unfold S_oCompare_2 F_oCompare_2
    simp only [br_t, br_f, br_dec, br_not, br_and, br_or, bnd1_mk, bnd2_mk, bnd3_mk, bnd4_mk, bnd5_mk, bnd10_mk, at_zero, at_succ, at_mid, unInt_mk, unBool_mk, unStr_mk, unBytes_mk, unSl_mk, unAgg_mk, unCons_mk, unNil_mk, e1, e2, e3, if_true, Int.toNat_natCast]
    by_cases c1 : (x.toNat : Int) < (y.toNat : Int)
    · rw [if_pos c1]
      exact ⟨-1, rfl, ⟨fun h => (by cases h), fun h => by injection h with h _; subst h; omega⟩⟩
    rw [if_neg c1]
    by_cases c2 : (y.toNat : Int) < (x.toNat : Int)
    · rw [if_pos c2]
      exact ⟨1, rfl, ⟨fun h => (by cases h), fun h => by injection h with h _; subst h; omega⟩⟩
    rw [if_neg c2]
    obtain rfl : x = y := UInt8.toNat_inj.1 (by omega)
    refine ⟨z, ?_, by rw [ih2]; simp⟩
    rw [e4]
    rw [← midG, ← midG] at ih1
    simpa only [br_dec] using ih1
theorem oSame_eq (a b : List UInt8) (h : a.length < N) (h1 : a.length ≤ 9223372036854775807) (h2 : b.length ≤ 9223372036854775807) : s_oSame N a b = some (decide (a = b)) := by
  obtain ⟨z, h3, h4⟩ := oCmp_loop N a b [] N h (by simpa using h1) (by simpa using h2)
  have h3' : s_oCompare N a b = some z := h3
  unfold s_oSame
  rw [h3', bnd1_mk]
  exact congrArg some (decide_eq_decide.2 h4)
theorem Equal_eq (a b : List UInt8) (h1 : a.length ≤ 9223372036854775807) (h2 : b.length ≤ 9223372036854775807) : s_Equal N a b = some (decide (a = b)) := by
  unfold s_Equal
  rw [br_dec, if_pos h1, br_dec, if_pos h2]
end
/-- A header. -/
structure Fi where
  id : Int
  kind : Int
  name : List UInt8
  short : Int
  size : Int
  length : Int
  recs : Int
  state : Int
  rules : List Ru
  deriving DecidableEq
def numF (n : Int) (u : Bool) (most : Int) : Int := bif u then (if n < 1 then 2 else if most < n then 2 else 0) else (if n = 0 then 0 else 4)
def recK (k : Int) : Bool := decide (3 ≤ k) && decide (k ≤ 5)
def szF (f : Fi) : Int :=
  if numF f.size (decide (f.kind = 2)) 1024 = 0 then
    (if numF f.length (recK f.kind) 254 = 0 then
      (if numF f.recs (recK f.kind) 254 = 0 then (if 1024 < IntKind.i64.wrap (f.length * f.recs) then 3 else 0) else numF f.recs (recK f.kind) 254)
     else numF f.length (recK f.kind) 254)
  else numF f.size (decide (f.kind = 2)) 1024
def chkF3 (f : Fi) : Int := if szF f = 0 then (if f.state < 1 then 2 else if 3 < f.state then 2 else chkR f.rules) else szF f
def chkF2 (f : Fi) : Int := if f.short < 0 then 2 else if 30 < f.short then 2 else if f.short = 0 then chkF3 f else if f.kind = 1 then 4 else chkF3 f
def chkF (f : Fi) : Int :=
  if f.kind < 1 then 1 else if 5 < f.kind then 1 else if f.id < 1 then 2 else if 65534 < f.id then 2 else if f.id = 16383 then 2 else if 16 < (f.name.length : Int) then 3
  else if 0 < (f.name.length : Int) then (if f.kind = 1 then chkF2 f else 4) else chkF2 f
section
variable (N : Nat)
theorem fnumber_eq (n : Int) (u : Bool) (most : Int) : s_fnumber N n u most = some (numF n u most) := by
  unfold s_fnumber numF
  cases u <;> simp only [br_not, br_t, br_f, br_dec, cond_true, cond_false, apply_ite some]
theorem frecords_eq (k : Int) : s_frecords N k = some (recK k) := by
  unfold s_frecords recK
  rw [br_dec]
  by_cases c : 3 ≤ k
  · rw [if_pos c, decide_eq_true c, Bool.true_and]
  · rw [if_neg c, decide_eq_false c]; rfl
theorem isState_eq (k : Int) : s_fisState N k = some (decide (1 ≤ k) && decide (k ≤ 3)) := by
  unfold s_fisState
  rw [br_dec]
  by_cases c : 1 ≤ k
  · rw [if_pos c, decide_eq_true c, Bool.true_and]
  · rw [if_neg c, decide_eq_false c]; rfl
theorem chk3 {R : Type} (hN : 10 < N) (a b c : Int) (n3 n4 : Int) (l5 : List UInt8) (n6 n7 n8 n9 n10 : Int) (vs11 : List V) (K0 : Int → Option R) (K1 : Option R) :
    S_fCheck_15 N [V.int IntKind.i64 a, V.int IntKind.i64 b, V.int IntKind.i64 c] (([V.int IntKind.i64 a, V.int IntKind.i64 b, V.int IntKind.i64 c].length : Nat) : Int) n3 n4 l5 n6 n7 n8 n9 n10 vs11 N 0 K0 K1
      = if a = 0 then (if b = 0 then (if c = 0 then K1 else K0 c) else K0 b) else K0 a := by
  obtain ⟨t, ht⟩ : ∃ t, N = t + 4 := ⟨N - 4, by omega⟩
  have e1 : IntKind.i64.wrap ((0 : Int) + 1) = 1 := by decide
  have e2 : IntKind.i64.wrap ((1 : Int) + 1) = 2 := by decide
  have e3 : IntKind.i64.wrap ((2 : Int) + 1) = 3 := by decide
  have a0 : ∀ (K : V → Option R), at? [V.int IntKind.i64 a, V.int IntKind.i64 b, V.int IntKind.i64 c] (0 : Int).toNat K = K (V.int IntKind.i64 a) := fun _ => rfl
  have a1 : ∀ (K : V → Option R), at? [V.int IntKind.i64 a, V.int IntKind.i64 b, V.int IntKind.i64 c] (1 : Int).toNat K = K (V.int IntKind.i64 b) := fun _ => rfl
  have a2 : ∀ (K : V → Option R), at? [V.int IntKind.i64 a, V.int IntKind.i64 b, V.int IntKind.i64 c] (2 : Int).toNat K = K (V.int IntKind.i64 c) := fun _ => rfl
  have hs : ∀ (n : Nat), S_fCheck_15 N [V.int IntKind.i64 a, V.int IntKind.i64 b, V.int IntKind.i64 c] (([V.int IntKind.i64 a, V.int IntKind.i64 b, V.int IntKind.i64 c].length : Nat) : Int) n3 n4 l5 n6 n7 n8 n9 n10 vs11 (n + 4) 0 K0 K1
      = if a = 0 then (if b = 0 then (if c = 0 then K1 else K0 c) else K0 b) else K0 a := by
    intro n
    unfold S_fCheck_15 F_fCheck_15
    simp only [br_dec, br_and, br_not, a0, unInt_mk, e1, List.length_cons, List.length_nil]
    rw [if_pos (by decide), if_pos (by decide), if_pos (by decide)]
    congr 1
    unfold S_fCheck_15 F_fCheck_15
    simp only [br_dec, br_and, br_not, a1, unInt_mk, e2, List.length_cons, List.length_nil]
    rw [if_pos (by decide), if_pos (by decide), if_pos (by decide)]
    congr 1
    unfold S_fCheck_15 F_fCheck_15
    simp only [br_dec, br_and, br_not, a2, unInt_mk, e3, List.length_cons, List.length_nil]
    rw [if_pos (by decide), if_pos (by decide), if_pos (by decide)]
    congr 1
  have := hs t
  rw [← ht] at this
  exact this
theorem fCheck_eq (hN : 10 < N) (f : Fi) (g : GoodR N f.rules) : s_fCheck N f.id f.kind f.name f.short f.size f.length f.recs f.state (rE f.rules) = some (chkF f) := by
  unfold s_fCheck chkF chkF2 chkF3 szF
  simp only [fnumber_eq, frecords_eq, isState_eq, bnd1_mk, chk3 N hN, aCheckRules_eq N f.rules g, br_dec, br_not, br_and]
  have hst : ∀ (x y : Option Int), (if 1 ≤ f.state then (if f.state ≤ 3 then x else y) else y) = if f.state < 1 then y else if 3 < f.state then y else x := by
    intro x y
    by_cases c1 : f.state < 1
    · rw [if_pos c1, if_neg (by omega)]
    · rw [if_neg c1, if_pos (by omega)]
      by_cases c2 : 3 < f.state
      · rw [if_pos c2, if_neg (by omega)]
      · rw [if_neg c2, if_pos (by omega)]
  generalize numF f.size (decide (f.kind = 2)) 1024 = a
  generalize numF f.length (recK f.kind) 254 = b
  generalize numF f.recs (recK f.kind) 254 = c
  have tail : (if a = 0 then (if b = 0 then (if c = 0 then (if 1024 < IntKind.i64.wrap (f.length * f.recs) then some 3 else if 1 ≤ f.state then if f.state ≤ 3 then some (chkR f.rules) else some 2 else some 2) else some c) else some b) else some a)
      = some (if (if a = 0 then (if b = 0 then (if c = 0 then (if 1024 < IntKind.i64.wrap (f.length * f.recs) then 3 else 0) else c) else b) else a) = 0 then (if f.state < 1 then 2 else if 3 < f.state then 2 else chkR f.rules)
        else (if a = 0 then (if b = 0 then (if c = 0 then (if 1024 < IntKind.i64.wrap (f.length * f.recs) then 3 else 0) else c) else b) else a)) := by
    by_cases ca : a = 0
    case neg => simp [ca]
    by_cases cb : b = 0
    case neg => simp [ca, cb]
    by_cases cc : c = 0
    case neg => simp [ca, cb, cc]
    by_cases cd : 1024 < IntKind.i64.wrap (f.length * f.recs)
    · simp [ca, cb, cc, cd]
    · simp only [ca, cb, cc, cd, if_true, if_false, hst, apply_ite some]
  simp only [tail, apply_ite some]
end
end Go.Proofs.Ytllnklkjkjmjbaa.En

/- The parameters of headers: the program and the reference. -/
namespace Go.Proofs.Ytllnklkjkjmjbaa.En
open Go
set_option linter.unusedVariables false
def twoB (n : Int) : List UInt8 := [byteI (n / 256), byteI (n % 256)]
def kindB (f : Fi) : List UInt8 := bif recK f.kind then [byteI f.kind, byteI f.length, byteI f.recs] else [byteI f.kind]
def partsF (f : Fi) : List (Int × List UInt8) :=
  (130, kindB f) :: (131, twoB f.id) :: ((if 0 < (f.name.length : Int) then [(132, f.name)] else []) ++ ((if f.kind = 2 then [(128, twoB f.size)] else []) ++
    ((if f.short = 0 then [] else [(136, [byteI f.short])]) ++ ((138, [byteI f.state]) :: (if 0 < (f.rules.length : Int) then [(134, (encRu f.rules).1)] else [])))))
def pE : List (Int × List UInt8) → List V
  | [] => []
  | p :: r => .agg [.int .i64 p.1, .bytes p.2, .sl 62 []] :: pE r
def pT : List (Int × List UInt8) → Tl
  | [] => .nil
  | p :: r => .cons p.1 p.2 .nil (pT r)
theorem pT_enc : ∀ l, (pT l).enc = pE l
  | [] => rfl
  | p :: r => by simp only [pT, pE, Tl.enc, pT_enc r]
theorem pE_append : ∀ a b, pE (a ++ b) = pE a ++ pE b
  | [], b => rfl
  | p :: a, b => by simp [pE, pE_append a b]
theorem pE_len : ∀ a, (pE a).length = a.length
  | [] => rfl
  | p :: a => by simp [pE, pE_len a]
theorem numF_zero {n : Int} {u : Bool} {most : Int} (h : numF n u most = 0) : (u = true → 1 ≤ n ∧ n ≤ most) ∧ (u = false → n = 0) := by
  unfold numF at h
  cases u with
  | true =>
    simp only [cond_true] at h
    refine ⟨fun _ => ?_, fun e => (by cases e)⟩
    split at h
    · cases h
    · split at h
      · cases h
      · omega
  | false =>
    simp only [cond_false] at h
    refine ⟨fun e => (by cases e), fun _ => ?_⟩
    split at h
    · assumption
    · cases h
theorem encF_len (l : List Ru) : (encRu l).1.length ≤ 320 := by
  unfold encRu
  split
  · rename_i h
    obtain ⟨h8, hv⟩ := chkR_zero h
    obtain ⟨_, h2, _, _⟩ := rT_wt l fun r hr => (hv r hr).2.2.2.1
    simp only; omega
  · simp
/-- What is known of a valid header. -/
structure OkF (f : Fi) : Prop where
  kind : 1 ≤ f.kind ∧ f.kind ≤ 5
  id : 1 ≤ f.id ∧ f.id ≤ 65534
  name : f.name.length ≤ 16
  short : 0 ≤ f.short ∧ f.short ≤ 30
  size : numF f.size (decide (f.kind = 2)) 1024 = 0
  length : numF f.length (recK f.kind) 254 = 0
  recs : numF f.recs (recK f.kind) 254 = 0
  state : 1 ≤ f.state ∧ f.state ≤ 3
  rules : chkR f.rules = 0
theorem chkF3_zero {f : Fi} (h : chkF3 f = 0) : szF f = 0 ∧ (1 ≤ f.state ∧ f.state ≤ 3) ∧ chkR f.rules = 0 := by
  unfold chkF3 at h
  split at h
  · rename_i c
    split at h
    · cases h
    · split at h
      · cases h
      · exact ⟨c, by omega, h⟩
  · rename_i c; exact absurd h c
theorem szF_zero {f : Fi} (h : szF f = 0) : numF f.size (decide (f.kind = 2)) 1024 = 0 ∧ numF f.length (recK f.kind) 254 = 0 ∧ numF f.recs (recK f.kind) 254 = 0 := by
  unfold szF at h
  split at h
  · rename_i c1
    split at h
    · rename_i c2
      split at h
      · rename_i c3; exact ⟨c1, c2, c3⟩
      · rename_i c3; exact absurd h c3
    · rename_i c2; exact absurd h c2
  · rename_i c1; exact absurd h c1
theorem chkF2_zero {f : Fi} (h : chkF2 f = 0) : (0 ≤ f.short ∧ f.short ≤ 30) ∧ chkF3 f = 0 := by
  unfold chkF2 at h
  split at h
  · cases h
  split at h
  · cases h
  split at h
  · exact ⟨by omega, h⟩
  split at h
  · cases h
  · exact ⟨by omega, h⟩
theorem okF_of {f : Fi} (h : chkF f = 0) : OkF f := by
  unfold chkF at h
  split at h
  · cases h
  split at h
  · cases h
  split at h
  · cases h
  split at h
  · cases h
  split at h
  · cases h
  split at h
  · cases h
  have h2 : chkF2 f = 0 := by
    split at h
    · split at h
      · exact h
      · cases h
    · exact h
  obtain ⟨h3, h4⟩ := chkF2_zero h2
  obtain ⟨h5, h6, h7⟩ := chkF3_zero h4
  obtain ⟨a, b, c⟩ := szF_zero h5
  exact ⟨by omega, by omega, by omega, h3, a, b, c, h6, h7⟩
def encFi (f : Fi) : List UInt8 × Int := if chkF f = 0 then encR (.cons 98 [] (pT (partsF f)) .nil) else ([], chkF f)
theorem pT_ok : ∀ ps : List (Int × List UInt8), (∀ p ∈ ps, I64 p.1 ∧ p.2.length ≤ 400) → (pT ps).wf ∧ (pT ps).wt ≤ 401 * ps.length ∧ (pT ps).nodes = ps.length ∧ (pT ps).len = ps.length
  | [], _ => ⟨trivial, Nat.le_refl _, rfl, rfl⟩
  | p :: r, h => by
    obtain ⟨h1, h2, h3, h4⟩ := pT_ok r fun q hq => h q (by simp [hq])
    obtain ⟨h5, h6⟩ := h p (by simp)
    refine ⟨⟨h5, by omega, by simp [Tl.len], trivial, h1⟩, ?_, ?_, ?_⟩
    · simp only [pT, Tl.wt, List.length_cons]; omega
    · simp only [pT, Tl.nodes, List.length_cons]; omega
    · simp only [pT, Tl.len, List.length_cons]; omega
theorem parts_all {f : Fi} (h : OkF f) : (∀ p ∈ partsF f, I64 p.1 ∧ p.2.length ≤ 400) ∧ (partsF f).length ≤ 7 := by
  have hr := encF_len f.rules
  have hn := h.name
  have i0 : ∀ z : Int, 0 ≤ z → z < 1000 → I64 z := fun z a b => ⟨by omega, by omega⟩
  constructor
  · intro p hp
    unfold partsF at hp
    simp only [List.mem_cons, List.mem_append] at hp
    rcases hp with rfl | rfl | hp | hp | hp | rfl | hp
    · exact ⟨i0 _ (by omega) (by omega), by simp only [kindB]; cases recK f.kind <;> simp⟩
    · exact ⟨i0 _ (by omega) (by omega), by simp [twoB]⟩
    · split at hp
      · simp at hp; subst hp; exact ⟨i0 _ (by omega) (by omega), by simp only; omega⟩
      · cases hp
    · split at hp
      · simp at hp; subst hp; exact ⟨i0 _ (by omega) (by omega), by simp [twoB]⟩
      · cases hp
    · split at hp
      · cases hp
      · simp at hp; subst hp; exact ⟨i0 _ (by omega) (by omega), by simp⟩
    · exact ⟨i0 _ (by omega) (by omega), by simp⟩
    · split at hp
      · simp at hp; subst hp; exact ⟨i0 _ (by omega) (by omega), by simp only; omega⟩
      · cases hp
  · unfold partsF
    simp only [List.length_cons, List.length_append]
    have l1 : ∀ (c : Prop) [Decidable c] (x : Int × List UInt8), (if c then [x] else []).length ≤ 1 := fun c _ x => by split <;> simp
    have l2 : (if f.short = 0 then ([] : List (Int × List UInt8)) else [(136, [byteI f.short])]).length ≤ 1 := by split <;> simp
    have a := l1 (0 < (f.name.length : Int)) (132, f.name)
    have b := l1 (f.kind = 2) (128, twoB f.size)
    have c := l1 (0 < (f.rules.length : Int)) (134, (encRu f.rules).1)
    omega
section
variable (N : Nat)
theorem fput_eq (t : Int) (b : List UInt8) (ps : List (Int × List UInt8)) (h : ps.length ≤ 100) : s_fput N t b (pE ps) = some (pE (ps ++ [(t, b)])) := by
  unfold s_fput
  rw [pE_len, if_pos (by omega), pE_append]; rfl
theorem Put_eq {n : Int} (h : 0 ≤ n ∧ n ≤ 65535) : s_Put N n 2 = some (twoB n, 0) := by
  unfold s_Put twoB byteI
  rw [if_pos rfl, if_neg (by omega)]
  rw [show n / 256 % 256 = n / 256 by omega, show n % 256 % 256 = n % 256 by omega]
theorem fEncode_eq (hN : 10000 < N) (f : Fi) (g : GoodR N f.rules) : s_fEncode N f.id f.kind f.name f.short f.size f.length f.recs f.state (rE f.rules) = some (encFi f) := by
  unfold s_fEncode encFi
  rw [fCheck_eq N (by omega) f g, bnd1_mk, br_not, br_dec]
  by_cases c : chkF f = 0
  case neg => rw [if_neg c, if_neg c]
  have ok := okF_of c
  have hsz : f.kind = 2 → 0 ≤ f.size ∧ f.size ≤ 65535 := fun e => by
    have := (numF_zero ok.size).1 (by simp [e])
    omega
  have kinds : s_partKinds N f.id f.kind f.name f.short f.size f.length f.recs f.state (rE f.rules) true [] = some (pE [(130, kindB f)]) := by
    unfold s_partKinds C_partKinds s_fkinds C_fkinds kindB
    rw [br_t, frecords_eq, bnd1_mk]
    cases recK f.kind with
    | true =>
      rw [br_t]
      have := fput_eq N 130 [byteI f.kind, byteI f.length, byteI f.recs] [] (by simp)
      rw [bI, bI, bI]
      have e : pE [] = [] := rfl
      rw [e] at this
      rw [this]; rfl
    | false =>
      rw [br_f]
      have := fput_eq N 130 [byteI f.kind] [] (by simp)
      rw [bI]
      have e : pE [] = [] := rfl
      rw [e] at this
      rw [this]; rfl
  have ident : ∀ ps : List (Int × List UInt8), ps.length ≤ 100 → s_partIdent N f.id f.kind f.name f.short f.size f.length f.recs f.state (rE f.rules) true (pE ps) = some (pE (ps ++ [(131, twoB f.id)])) := fun ps h => by
    unfold s_partIdent C_partIdent s_fident C_fident s_fwide C_fwide
    rw [br_t, Put_eq N (by have := ok.id; omega), bnd2_mk, fput_eq N _ _ ps h]; rfl
  have name : ∀ ps : List (Int × List UInt8), ps.length ≤ 100 → s_partName N f.id f.kind f.name f.short f.size f.length f.recs f.state (rE f.rules) (decide (0 < (f.name.length : Int))) (pE ps) = some (pE (ps ++ (if 0 < (f.name.length : Int) then [(132, f.name)] else []))) := fun ps h => by
    unfold s_partName C_partName s_fname C_fname s_clone
    rw [br_dec]
    by_cases hc : 0 < (f.name.length : Int)
    · rw [if_pos hc, if_pos hc, br_dec, if_pos (by have := ok.name; omega), bnd1_mk, fput_eq N _ _ ps h]; rfl
    · rw [if_neg hc, if_neg hc, List.append_nil]
  have size : ∀ ps : List (Int × List UInt8), ps.length ≤ 100 → s_partSize N f.id f.kind f.name f.short f.size f.length f.recs f.state (rE f.rules) (decide (f.kind = 2)) (pE ps) = some (pE (ps ++ (if f.kind = 2 then [(128, twoB f.size)] else []))) := fun ps h => by
    unfold s_partSize C_partSize s_fsize C_fsize s_fwide C_fwide
    rw [br_dec]
    by_cases hc : f.kind = 2
    · rw [if_pos hc, if_pos hc, Put_eq N (hsz hc), bnd2_mk, fput_eq N _ _ ps h]; rfl
    · rw [if_neg hc, if_neg hc, List.append_nil]
  have short : ∀ ps : List (Int × List UInt8), ps.length ≤ 100 → s_partShort N f.id f.kind f.name f.short f.size f.length f.recs f.state (rE f.rules) (!decide (f.short = 0)) (pE ps) = some (pE (ps ++ (if f.short = 0 then [] else [(136, [byteI f.short])]))) := fun ps h => by
    unfold s_partShort C_partShort s_fshort C_fshort
    rw [br_not, br_dec]
    by_cases hc : f.short = 0
    · rw [if_pos hc, if_pos hc, List.append_nil]
    · rw [if_neg hc, if_neg hc, bI, fput_eq N _ _ ps h]; rfl
  have state : ∀ ps : List (Int × List UInt8), ps.length ≤ 100 → s_partState N f.id f.kind f.name f.short f.size f.length f.recs f.state (rE f.rules) true (pE ps) = some (pE (ps ++ [(138, [byteI f.state])])) := fun ps h => by
    unfold s_partState C_partState s_fstate C_fstate
    rw [br_t, bI, fput_eq N _ _ ps h]; rfl
  have rules : ∀ ps : List (Int × List UInt8), ps.length ≤ 100 → s_partRules N f.id f.kind f.name f.short f.size f.length f.recs f.state (rE f.rules) (decide (0 < ((rE f.rules).length : Int))) (pE ps) = some (pE (ps ++ (if 0 < (f.rules.length : Int) then [(134, (encRu f.rules).1)] else []))) := fun ps h => by
    unfold s_partRules C_partRules s_frules C_frules
    rw [br_dec, rE_len]
    by_cases hc : 0 < (f.rules.length : Int)
    · rw [if_pos hc, if_pos hc, aEncode_eq N f.rules g]
      show bnd1 (bnd1 (s_fput N 134 (encRu f.rules).1 (pE ps)) _) _ = _
      rw [fput_eq N _ _ ps h]; rfl
    · rw [if_neg hc, if_neg hc, List.append_nil]
  obtain ⟨hp1, hp2⟩ := parts_all ok
  have hpl := hp2
  unfold partsF at hpl
  simp only [List.length_cons, List.length_append] at hpl
  rw [if_pos c, if_pos c, kinds, bnd1_mk, ident _ (by simp), bnd1_mk, name _ (by simp), bnd1_mk, size _ (by simp only [List.length_append, List.length_cons, List.length_nil]; omega), bnd1_mk, short _ (by simp only [List.length_append, List.length_cons, List.length_nil]; omega), bnd1_mk,
    state _ (by simp only [List.length_append, List.length_cons, List.length_nil]; omega), bnd1_mk, rules _ (by simp only [List.length_append, List.length_cons, List.length_nil]; omega), bnd1_mk]
  have e : ∀ (a b c d e g : List (Int × List UInt8)), [(130, kindB f)] ++ a ++ b ++ c ++ d ++ e ++ g = (130, kindB f) :: (a ++ (b ++ (c ++ (d ++ (e ++ g))))) := fun a b c d e g => by simp
  rw [e]
  obtain ⟨q1, q2, q3, q4⟩ := pT_ok (partsF f) hp1
  have hE := Encode_eq N (.cons 98 [] (pT (partsF f)) .nil) (by simp only [Tl.nodes]; omega) ⟨⟨by omega, by omega⟩, by simp, by omega, q1, trivial⟩ (by show 1 ≤ 9223372036854775807; omega) (by simp only [Tl.wt, List.length_nil]; omega)
  have hE' : s_Encode N [V.agg [V.int IntKind.i64 98, V.bytes [], V.sl 62 (pE (partsF f))]] = some (encR (.cons 98 [] (pT (partsF f)) .nil)) := by
    rw [← pT_enc]; exact hE
  show bnd2 (s_Encode N [V.agg [V.int IntKind.i64 98, V.bytes [], V.sl 62 (pE (partsF f))]]) _ = _
  rw [hE']; rfl
end
end Go.Proofs.Ytllnklkjkjmjbaa.En

/- Headers: the byte count, the states, equality, which are small; the statements without decoding. -/
namespace Go.Proofs.Ytllnklkjkjmjbaa.En
open Go
set_option linter.unusedVariables false
def allC (p : Cl → Bool) : Cl → Bool
  | .nil => true
  | .cons _ _ k r => p k && allC p r
def sm : Nat → Cl → Bool
  | 0, _ => false
  | d + 1, k => decide (k.len ≤ 20) && allC (sm d) k
def smB : Nat → Nat
  | 0 => 0
  | 1 => 0
  | d + 2 => 20 * (smB (d + 1) + 1)
theorem allC_nodes {p : Cl → Bool} {b : Nat} (hp : ∀ k, p k = true → k.nodes ≤ b) : ∀ k, allC p k = true → k.nodes ≤ k.len * (b + 1)
  | .nil, _ => by simp [Cl.nodes]
  | .cons o m k r, h => by
    unfold allC at h
    rw [Bool.and_eq_true] at h
    have h1 := hp k h.1
    have h2 := allC_nodes hp r h.2
    simp only [Cl.nodes, Cl.len, Nat.add_mul]
    omega
theorem sm_nodes : ∀ (d : Nat) (k : Cl), sm d k = true → k.nodes ≤ smB d
  | 0, k, h => by cases h
  | 1, .nil, h => Nat.le_refl _
  | 1, .cons o m k r, h => by
    have e : sm 1 (.cons o m k r) = (decide ((Cl.cons o m k r).len ≤ 20) && (false && allC (sm 0) r)) := rfl
    rw [e, Bool.false_and, Bool.and_false] at h
    cases h
  | d + 2, k, h => by
    unfold sm at h
    rw [Bool.and_eq_true, decide_eq_true_eq] at h
    have h2 := allC_nodes (sm_nodes (d + 1)) k h.2
    have h3 := Nat.mul_le_mul_right (smB (d + 1) + 1) h.1
    unfold smB
    omega
theorem wrapW (n : Int) : IntKind.i64.wrap (IntKind.i64.wrap n) = IntKind.i64.wrap n := by
  have h := wrap_range n
  exact w64 h.1 h.2
def fewF (f : Fi) : Bool := decide (f.rules.length ≤ 20) && (decide (f.name.length ≤ 60) && f.rules.all fun r => sm 12 r.k)
section
variable (N : Nat)
theorem vsmall_loop {R : Type} (f : Int → Int → List V → Int → Option Bool) (p : Cl → Bool) (n : Nat) (d o' m' : Int) (hf : ∀ (o m : Int) (k : Cl), k.nodes < n → k.wf → K63 k → f o m k.enc (IntKind.i64.wrap (d - 1)) = some (p k)) (K0 : Bool → Option R) (K1 : Option R) :
    ∀ (l : Cl) (pre : List V) (t : Nat), l.len < t → l.nodes ≤ n → l.wf → pre.length + l.len ≤ 9223372036854775807 →
      S_vsmall_4 N f d o' m' (pre ++ l.enc) t (pre.length : Int) K0 K1 = if allC p l = true then K1 else K0 false
  | l, pre, 0, ht, _, _, _ => by omega
  | .nil, pre, t + 1, ht, _, _, _ => by
    unfold S_vsmall_4 F_vsmall_4
    simp only [Cl.enc, br_t, br_f, br_dec, br_not, br_and, br_or, bnd1_mk, bnd2_mk, bnd3_mk, bnd4_mk, bnd5_mk, bnd10_mk, at_zero, at_succ, at_mid, unInt_mk, unBool_mk, unStr_mk, unBytes_mk, unSl_mk, unAgg_mk, unCons_mk, unNil_mk, endI, if_false, allC, if_true]
  | .cons o m k r, pre, t + 1, ht, hn, hw, hl => by
    simp only [Cl.len, Cl.nodes] at ht hn hl
    obtain ⟨_, _, hk1, hk2, hr⟩ := hw
    obtain ⟨h1, h2, h3, h4⟩ := stepC pre (ce o m k) r hl
    have ih := vsmall_loop f p n d o' m' hf K0 K1 r (pre ++ [ce o m k]) t (by omega) (by omega) hr (by simp; omega)
    rw [← mid, ← h3] at ih
    unfold S_vsmall_4 F_vsmall_4
    simp only [enc_cons, br_t, br_f, br_dec, br_not, br_and, br_or, bnd1_mk, bnd2_mk, bnd3_mk, bnd4_mk, bnd5_mk, bnd10_mk, at_zero, at_succ, at_mid, unInt_mk, unBool_mk, unStr_mk, unBytes_mk, unSl_mk, unAgg_mk, unCons_mk, unNil_mk, h1, h2, if_true, Int.toNat_natCast, hf o m k (by omega) hk2 hk1]
    rw [ih, show allC p (.cons o m k r) = (p k && allC p r) from rfl]
    cases p k <;> rfl
theorem vsmall_eq : ∀ (M d : Nat) (o m : Int) (k : Cl), d ≤ 100 → k.nodes < M → k.nodes < N → k.wf → K63 k → s_vsmall N M o m k.enc (d : Int) = some (sm d k)
  | 0, d, o, m, k, _, h, _, _, _ => by omega
  | M + 1, 0, o, m, k, _, h, hN, hw, hl => by
    unfold s_vsmall B_vsmall
    rw [br_dec, if_pos (by omega)]; rfl
  | M + 1, d + 1, o, m, k, hd, h, hN, hw, hl => by
    have hln := Cl.len_le k
    have e0 : IntKind.i64.wrap (((d + 1 : Nat) : Int) - 1) = (d : Int) := by rw [w64 (by omega) (by omega)]; omega
    have hf := fun (o m : Int) (k1 : Cl) (a1 : k1.nodes < k.nodes) (a2 : k1.wf) (a3 : K63 k1) => vsmall_eq M d o m k1 (by omega) (by omega) (by omega) a2 a3
    have hL : S_vsmall_4 N (s_vsmall N M) ((d + 1 : Nat) : Int) o m k.enc N 0 (fun b => some b) (some true) = if allC (sm d) k = true then some true else some false :=
      vsmall_loop N (s_vsmall N M) (sm d) k.nodes ((d + 1 : Nat) : Int) o m (by rw [e0]; exact hf) (fun b => some b) (some true) k [] N (by omega) (Nat.le_refl _) hw (by simpa using hl)
    unfold s_vsmall B_vsmall sm
    rw [br_dec, if_neg (by omega), Cl.enc_len, br_dec, hL]
    by_cases c : k.len ≤ 20
    · rw [if_neg (by omega), decide_eq_true c, Bool.true_and]
      cases allC (sm d) k <;> rfl
    · rw [if_pos (by omega), decide_eq_false c]; rfl
theorem vfew_loop {R : Type} (n1 n2 : Int) (l3 : List UInt8) (n4 n5 n6 n7 n8 : Int) (K0 : Bool → Option R) (K1 : Option R) : ∀ (l : List Ru) (pre : List V) (t : Nat), l.length < t → (∀ r ∈ l, InC N r.k) → pre.length + l.length ≤ 9223372036854775807 →
      S_vfew_4 N n1 n2 l3 n4 n5 n6 n7 n8 (pre ++ rE l) t (pre.length : Int) K0 K1 = if (l.all fun r => sm 12 r.k) = true then K1 else K0 false
  | l, pre, 0, ht, _, _ => by omega
  | [], pre, t + 1, ht, _, _ => by
    unfold S_vfew_4 F_vfew_4
    simp only [rE, br_t, br_f, br_dec, br_not, br_and, br_or, bnd1_mk, bnd2_mk, bnd3_mk, bnd4_mk, bnd5_mk, bnd10_mk, at_zero, at_succ, at_mid, unInt_mk, unBool_mk, unStr_mk, unBytes_mk, unSl_mk, unAgg_mk, unCons_mk, unNil_mk, endI, if_false, List.all_nil, if_true]
  | r :: l, pre, t + 1, ht, hg, hl => by
    simp only [List.length_cons] at ht hl
    obtain ⟨h1, h2, h3, h4⟩ := stepR pre (.agg [.int .i64 r.ops, .int .i64 r.o, .int .i64 r.m, .sl 46 r.k.enc]) l hl
    have ih := vfew_loop n1 n2 l3 n4 n5 n6 n7 n8 K0 K1 l (pre ++ [.agg [.int .i64 r.ops, .int .i64 r.o, .int .i64 r.m, .sl 46 r.k.enc]]) t (by omega) (fun r hr => hg r (by simp [hr])) (by simp; omega)
    rw [← mid, ← h3] at ih
    have g := hg r (by simp)
    have hf : s_vsmall N N r.o r.m r.k.enc 12 = some (sm 12 r.k) := vsmall_eq N N 12 r.o r.m r.k (by omega) g.fuel g.fuel g.wf g.len
    unfold S_vfew_4 F_vfew_4
    simp only [rE, br_t, br_f, br_dec, br_not, br_and, br_or, bnd1_mk, bnd2_mk, bnd3_mk, bnd4_mk, bnd5_mk, bnd10_mk, at_zero, at_succ, at_mid, unInt_mk, unBool_mk, unStr_mk, unBytes_mk, unSl_mk, unAgg_mk, unCons_mk, unNil_mk, h1, h2, if_true, Int.toNat_natCast, hf, ih, List.all_cons]
    have key : ∀ b c : Bool, br b (if c = true then K1 else K0 false) (K0 false) = if (b && c) = true then K1 else K0 false := fun b c => by cases b <;> rfl
    exact key _ _
/-- A header that came in. -/
structure ArgF (N : Nat) (f : Fi) : Prop where
  big : 200000 < N
  rules : ∀ r ∈ f.rules, InC N r.k
  fuel : f.rules.length < N
  len : f.rules.length ≤ 9223372036854775807
  name : f.name.length ≤ 9223372036854775807
theorem vfew_eq (f : Fi) (g : ArgF N f) : s_vfew N f.id f.kind f.name f.short f.size f.length f.recs f.state (rE f.rules) = some (fewF f) := by
  have hL : S_vfew_4 N f.id f.kind f.name f.short f.size f.length f.recs f.state (rE f.rules) N 0 (fun b => some b) (some true) = if (f.rules.all fun r => sm 12 r.k) = true then some true else some false :=
    vfew_loop N f.id f.kind f.name f.short f.size f.length f.recs f.state (fun b => some b) (some true) f.rules [] N g.fuel g.rules (by simpa using g.len)
  unfold s_vfew fewF
  rw [rE_len, br_dec, br_dec, hL]
  by_cases c : f.rules.length ≤ 20
  · rw [if_neg (by omega), decide_eq_true c, Bool.true_and]
    by_cases c' : f.name.length ≤ 60
    · rw [if_neg (by omega), decide_eq_true c', Bool.true_and]
      cases (f.rules.all fun r => sm 12 r.k) <;> rfl
    · rw [if_pos (by omega), decide_eq_false c']; rfl
  · rw [if_pos (by omega), decide_eq_false c]; rfl
theorem goodF {f : Fi} (g : ArgF N f) (h : fewF f = true) : GoodR N f.rules ∧ f.name.length ≤ 60 := by
  unfold fewF at h
  simp only [Bool.and_eq_true, decide_eq_true_eq, List.all_eq_true] at h
  have hb := g.big
  refine ⟨⟨by omega, by omega, fun r hr => ?_⟩, h.2.1⟩
  have h1 := sm_nodes 12 r.k (h.2.2 r hr)
  have h2 : smB 12 ≤ 1000000000000000 := by decide
  exact (g.rules r hr).good N (by omega)
def byF (f : Fi) : Int := if chkF f = 0 then (if f.kind = 2 then f.size else IntKind.i64.wrap (f.length * f.recs)) else 0
theorem fBytes_eq (hN : 10 < N) (f : Fi) (g : GoodR N f.rules) : s_fBytes N f.id f.kind f.name f.short f.size f.length f.recs f.state (rE f.rules) = some (byF f) := by
  unfold s_fBytes byF
  rw [fCheck_eq N hN f g, bnd1_mk, br_not, br_dec]
  by_cases c : chkF f = 0
  case neg => rw [if_neg c, if_neg c]
  have ok := okF_of c
  rw [if_pos c, if_pos c]
  congr 1
  by_cases c2 : f.kind = 2
  · rw [if_pos c2]
    have hs := (numF_zero ok.size).1 (by simp [c2])
    have e : recK f.kind = false := by rw [c2]; rfl
    have h1 := (numF_zero ok.length).2 e
    rw [h1, Int.zero_mul, show IntKind.i64.wrap 0 = 0 by decide, Int.add_zero, w64 (by omega) (by omega)]
  · rw [if_neg c2]
    have h1 := (numF_zero ok.size).2 (by simp [c2])
    rw [h1, Int.zero_add]
    exact wrapW _
theorem hSame_eq (f f' : Fi) (g : GoodR N f.rules) (g' : GoodR N f'.rules) (h : f.name.length ≤ 60) (h' : f'.name.length ≤ 60) (hN : 100 < N) :
    s_hSame N f.id f.kind f.name f.short f.size f.length f.recs f.state (rE f.rules) f'.id f'.kind f'.name f'.short f'.size f'.length f'.recs f'.state (rE f'.rules) = some (decide (f = f')) := by
  have i1 : ∀ r ∈ f.rules, InC N r.k := fun r hr => ⟨(g.good r hr).wf, (g.good r hr).len, (g.good r hr).fuel⟩
  have i2 : ∀ r ∈ f'.rules, InC N r.k := fun r hr => ⟨(g'.good r hr).wf, (g'.good r hr).len, (g'.good r hr).fuel⟩
  have hl := g.len
  have hf := g.fuel
  unfold s_hSame
  rw [oSame_eq N _ _ (by omega) (by omega) (by omega), qSame_eq N _ _ (by omega) (by omega) i1 i2]
  simp only [bnd1_mk, br_dec]
  obtain ⟨a1, a2, a3, a4, a5, a6, a7, a8, a9⟩ := f
  obtain ⟨b1, b2, b3, b4, b5, b6, b7, b8, b9⟩ := f'
  simp only [Fi.mk.injEq]
  by_cases c1 : a1 = b1 <;> by_cases c2 : a2 = b2 <;> by_cases c3 : a3 = b3 <;> by_cases c4 : a4 = b4 <;> by_cases c5 : a5 = b5 <;> by_cases c6 : a6 = b6 <;> by_cases c7 : a7 = b7 <;> by_cases c8 : a8 = b8 <;> simp [c1, c2, c3, c4, c5, c6, c7, c8]
def nextF (s o : Int) : Int × Int :=
  if o = 32 then (if 1 ≤ s ∧ s ≤ 3 then (if s = 2 then (1, 0) else (0, 14)) else (0, 2))
  else if o = 64 then (if 1 ≤ s ∧ s ≤ 3 then (if s = 1 then (2, 0) else (0, 14)) else (0, 2))
  else if o = 128 then (if 1 ≤ s ∧ s ≤ 3 then (if s = 3 then (0, 14) else (3, 0)) else (0, 2))
  else (0, 1)
theorem fNext_eq (s o : Int) : s_fNext N s o = some (nextF s o) := by
  unfold s_fNext nextF
  simp only [isState_eq, bnd1_mk, br_dec, br_not, br_and]
  by_cases c1 : o = 32
  · rw [if_pos c1, if_pos c1]
    by_cases c : 1 ≤ s ∧ s ≤ 3
    · rw [if_pos c, if_pos c.1, if_pos c.2]
      by_cases d1 : s = 1
      · subst d1; rfl
      by_cases d2 : s = 3
      · subst d2; rfl
      rw [if_neg d1, if_neg d2, if_pos (by omega)]
    · rw [if_neg c]
      by_cases e : 1 ≤ s
      · rw [if_pos e, if_neg (by omega)]
      · rw [if_neg e]
  rw [if_neg c1, if_neg c1]
  by_cases c2 : o = 64
  · rw [if_pos c2, if_pos c2]
    by_cases c : 1 ≤ s ∧ s ≤ 3
    · rw [if_pos c, if_pos c.1, if_pos c.2]
      by_cases d1 : s = 2
      · subst d1; rfl
      by_cases d2 : s = 3
      · subst d2; rfl
      rw [if_neg d1, if_neg d2, if_pos (by omega)]
    · rw [if_neg c]
      by_cases e : 1 ≤ s
      · rw [if_pos e, if_neg (by omega)]
      · rw [if_neg e]
  rw [if_neg c2, if_neg c2]
  by_cases c3 : o = 128
  · rw [if_pos c3, if_pos c3]
    by_cases c : 1 ≤ s ∧ s ≤ 3
    · rw [if_pos c, if_pos c.1, if_pos c.2]
      by_cases d2 : s = 3
      · subst d2; rfl
      rw [if_neg d2, if_neg d2, if_neg d2]
    · rw [if_neg c]
      by_cases e : 1 ≤ s
      · rw [if_pos e, if_neg (by omega)]
      · rw [if_neg e]
  rw [if_neg c3, if_neg c3]
def exF : Fi := ⟨12033, 2, [], 1, 32, 0, 0, 1, []⟩
theorem awake_eq (hN : 200000 < N) : s_vawake N = some true := by
  have gx : GoodR N exF.rules := ⟨by decide, by omega, by intro r hr; cases hr⟩
  have e1 : s_fEncode N 12033 2 [] 1 32 0 0 1 [] = some ([98, 17, 130, 1, 2, 131, 2, 47, 1, 128, 2, 0, 32, 136, 1, 1, 138, 1, 1], 0) := by
    have := fEncode_eq N (by omega) exF gx
    rw [show encFi exF = ([98, 17, 130, 1, 2, 131, 2, 47, 1, 128, 2, 0, 32, 136, 1, 1, 138, 1, 1], 0) by decide +kernel] at this
    exact this
  have e2 : s_fNext N 1 64 = some (2, 0) := fNext_eq N 1 64
  have e3 : s_fBytes N 12033 2 [] 1 32 0 0 1 [] = some 32 := by
    have := fBytes_eq N (by omega) exF gx
    rw [show byF exF = 32 by decide +kernel] at this
    exact this
  unfold s_vawake
  rw [e1, bnd2_mk, e2, bnd2_mk, br_dec, if_pos rfl, oSame_eq N _ _ (by show (19 : Nat) < N; omega) (by show (19 : Nat) ≤ _; omega) (by show (19 : Nat) ≤ _; omega), bnd1_mk, decide_eq_true rfl, br_t, e3, bnd1_mk]
  rfl
theorem encR_max (l : Tl) : (encR l).1.length ≤ 4096 := by
  unfold encR
  split
  · split
    · assumption
    · exact Nat.zero_le _
  · exact Nat.zero_le _
theorem encFi_max (f : Fi) : (encFi f).1.length ≤ 4096 := by
  unfold encFi
  split
  · exact encR_max _
  · exact Nat.zero_le _
end
end Go.Proofs.Ytllnklkjkjmjbaa.En

/- The engine, part 2s: rows: arguments that came in, what a law's function leaves. -/
namespace Go.Proofs.Ytllnklkjkjmjbaa.En
open Go Go.RowKit Go.WideShapes
set_option linter.unusedVariables false
theorem own : ownKnob Try.prog.godebug = none := by kernel_rfl
theorem laidOut : laidOutB Try.prog = true := by kernel_rfl
section
variable {P : Program} {T : TypeId → Option Ty} {f : FuncId} {w : World}
def noEnv : Env := { d := 0, dom := fun _ _ => False }
theorem walk_of {ds : List D} (hp : PureRet P T f ds [.v (.bool true) .no]) {us : List Value} (hr : RepDs noEnv (immG T) w [] ds us) :
    Calls P f us.toArray w fun e w' => e = .returned (.bool true) ∧ Below w.heap.size w w' := by
  refine (hp noEnv (immG T) w us rfl hr).mono ?_
  rintro e w' ⟨us', g', rfl, h1, h2⟩
  obtain ⟨l, hr'⟩ := h1 noEnv
  match us', l with
  | [u], _ =>
  have := hr' 0 _ rfl
  simp only [List.getD_cons_zero] at this
  cases this with
  | v x a v h ha =>
  cases h
  exact ⟨rfl, ⟨h2.grows.os, h2.grows.tape, h2.grows.output, h2.grows.size, h2.grows.old⟩⟩
theorem reps_nil : RepDs noEnv (immG T) w [] [] [] := ⟨rfl, fun k y h => by simp at h⟩
theorem reps_cons {d : D} {u : Value} {ds : List D} {us : List Value} (h : RepD noEnv (immG T) w [] d u) (hs : RepDs noEnv (immG T) w [] ds us) : RepDs noEnv (immG T) w [] (d :: ds) (u :: us) :=
  ⟨by simp [hs.1], fun k y hk => by
    rcases k with _ | k
    · simp at hk; subst hk; exact h
    · simpa using hs.2 k y (by simpa using hk)⟩
theorem rep_v {x : V} {u : Value} (h : RepV (immG T) w x u) : RepD noEnv (immG T) w [] (.v x .no) u := .v _ _ _ h trivial
theorem rep_agg {cs : List V} {u : Value} (h : RepV (immG T) w (.agg cs) u) : RepD noEnv (immG T) w [] (.agg (cs.map vD)) u := by
  cases h with
  | agg cs us hn hr =>
    refine .agg _ us (by simpa using hn) fun k y hk => ?_
    rw [List.getElem?_map, Option.map_eq_some_iff] at hk
    obtain ⟨z, hz, rfl⟩ := hk
    exact .v _ _ _ (hr k z hz) trivial
variable {H : Type} {enc : TypeId × Value → H} {base : Nat} {spare : Nat → Bool} {held : Bool} {r : Reach} {b0 : Nat} {t : TypeId} {v : Value} {d : DataW H} {ps : List MemPlace} {l : List TypeId}
theorem row_of (hT : TypesOK P T) {desc : TypeDesc} (ht : P.underlying t = some desc) {ty : Ty} (h : T t = some ty) : ty.desc = desc := by
  have := (hT t ty h).desc
  rw [ht] at this
  injection this with this
  exact this.symm
theorem cells_self {x : V} (h : x = mkEl false (V.cells x)) : V.cells x = [x] := by
  cases x with
  | agg cs =>
    exfalso
    simp only [V.cells, mkEl] at h
    cases cs with
    | nil => simp at h
    | cons c r =>
      have h' : V.agg (c :: r) = c := h
      have : _root_.SizeOf.sizeOf (V.agg (c :: r)) = _root_.SizeOf.sizeOf c := by rw [h']
      simp at this
      omega
  | _ => rfl
theorem fits_self (hT : TypesOK P T) {desc : TypeDesc} (ht : P.underlying t = some desc) (hnr : ∀ ty : Ty, ty.desc = desc → ty.row = false) {n : Nat} {x : V} (h1 : Fits T n t (V.cells x)) (h3 : ∀ ty, T t = some ty → x = mkEl ty.row (V.cells x)) : Fits T n t [x] := by
  cases hTt : T t with
  | none => cases n <;> simp [Fits, hTt] at h1
  | some ty =>
    have := h3 ty hTt
    rw [hnr ty (row_of hT ht hTt)] at this
    rw [← cells_self this]; exact h1
theorem arg_slice (hT : TypesOK P T) (hl : closedT T l = true) (hm : t ∈ l) {e : TypeId} (ht : P.underlying t = some (.slice e)) (hv : Value.okWide P w r b0 t v) (hd : DataW.Trod enc P w base spare held t v d ps) :
    ∃ n x, Fits T n t [x] ∧ RepV (immG T) w x v := by
  obtain ⟨A, n, c, rfl⟩ := okWide_slice ht hv
  obtain ⟨n, x, h1, h2, h3⟩ := arg_rep hT hl hm (fun ty hty => ⟨fun hr => (by rw [Ty.row, row_of hT ht hty] at hr; cases hr), fun _ => rfl⟩) hd
  exact ⟨n, x, fits_self hT ht (fun ty e => by rw [Ty.row, e]) h1 h3, h2⟩
theorem arg_struct (hT : TypesOK P T) (hl : closedT T l = true) (hm : t ∈ l) {fs : Array Field} (ht : P.underlying t = some (.struct fs)) (hv : Value.okWide P w r b0 t v) (hd : DataW.Trod enc P w base spare held t v d ps) :
    ∃ n cs, Fits T n t cs ∧ RepV (immG T) w (.agg cs) v := by
  obtain ⟨cs, rfl, _⟩ := okWide_struct ht hv
  obtain ⟨n, x, h1, h2, h3⟩ := arg_rep hT hl hm (fun ty hty => ⟨fun _ => ⟨cs, rfl⟩, fun hr => (by rw [Ty.row, row_of hT ht hty] at hr; cases hr)⟩) hd
  cases h2 with
  | agg ys us a b => exact ⟨n, ys, h1, .agg ys _ a b⟩
/-- What fits a type of one cell. -/
theorem fits_int {k : IntKind} {ty : Ty} (h : T t = some ty) (hd : ty.desc = .int k) {n : Nat} {xs : List V} (hf : Fits T n t xs) : ∃ i, xs = [.int k i] ∧ k.min ≤ i ∧ i ≤ k.max := by
  cases n with
  | zero => cases hf
  | succ n => unfold Fits at hf; rw [h] at hf; simp only [hd] at hf; exact hf
theorem fits_bytes {e e' : TypeId} {ty : Ty} (h : T t = some ty) (hd : ty.desc = .slice e) (hc : ty.cks = [.bytes e']) {n : Nat} {xs : List V} (hf : Fits T n t xs) : ∃ s, xs = [.bytes s] ∧ s.length ≤ maxLen := by
  cases n with
  | zero => cases hf
  | succ n => unfold Fits at hf; rw [h] at hf; simp only [hd, hc] at hf; exact hf
theorem fits_slice {e e' : TypeId} {ty te : Ty} (h : T t = some ty) (hd : ty.desc = .slice e) (hc : ty.cks = [.slc e']) (he : T e = some te) {n : Nat} {xs : List V} (hf : Fits T n t xs) :
    ∃ m ys, n = m + 1 ∧ xs = [.sl e ys] ∧ ys.length ≤ maxLen ∧ ∀ y ∈ ys, ∃ cs, y = mkEl te.row cs ∧ Fits T m e cs := by
  cases n with
  | zero => cases hf
  | succ n =>
    unfold Fits at hf; rw [h] at hf; simp only [hd, hc] at hf
    obtain ⟨rfl, ys, h1, h2, h3⟩ := hf
    refine ⟨n, ys, rfl, h1, h2, fun y hy => ?_⟩
    obtain ⟨te', cs, h4, h5, h6⟩ := h3 y hy
    rw [he] at h4
    injection h4 with h4
    subst h4
    exact ⟨cs, h5, h6⟩
theorem fits_struct {fs : Array Field} {ty : Ty} (h : T t = some ty) (hd : ty.desc = .struct fs) {n : Nat} {xs : List V} (hf : Fits T n t xs) : ∃ m, n = m + 1 ∧ FitsFs (Fits T m) fs.toList xs := by
  cases n with
  | zero => cases hf
  | succ n => unfold Fits at hf; rw [h] at hf; simp only [hd] at hf; exact ⟨n, rfl, hf⟩
end
end Go.Proofs.Ytllnklkjkjmjbaa.En

/- What the arguments of chapter 15 read as. -/
namespace Go.Proofs.Ytllnklkjkjmjbaa.En
open Go Go.RowKit
set_option linter.unusedVariables false
/-- A condition that came in. -/
structure ArgC (o m : Int) (k : Cl) : Prop where
  o : I64 o
  m : I64 m
  wf : k.wf
  len : K63 k
/-- Rules that came in. -/
structure ArgR (l : List Ru) : Prop where
  all : ∀ r ∈ l, ArgC r.o r.m r.k ∧ I64 r.ops
  len : l.length ≤ 9223372036854775807
def sumR : List Ru → Nat
  | [] => 0
  | r :: l => r.k.nodes + 1 + sumR l
theorem sumR_mem : ∀ {l : List Ru} {r : Ru}, r ∈ l → r.k.nodes + 1 ≤ sumR l
  | a :: l, r, h => by
    unfold sumR
    rcases List.mem_cons.1 h with rfl | h
    · omega
    · have := sumR_mem h; omega
theorem sumR_len : ∀ l : List Ru, l.length ≤ sumR l
  | [] => Nat.le_refl _
  | r :: l => by have := sumR_len l; simp only [List.length_cons, sumR]; omega
theorem T_int : T 3 = some ty3 := by kernel_rfl
theorem T_bytes : T 22 = some ty22 := by kernel_rfl
theorem T_cond : T 46 = some ty46 := by kernel_rfl
theorem T_conds : T 44 = some ty44 := by kernel_rfl
theorem T_rule : T 48 = some ty48 := by kernel_rfl
theorem T_rules : T 23 = some ty23 := by kernel_rfl
theorem T_file : T 25 = some ty25 := by kernel_rfl
theorem max63 {n : Nat} (h : n ≤ maxLen) : n ≤ 9223372036854775807 := by unfold maxLen at h; omega
theorem cl_of : ∀ (n : Nat) (ys : List V), (∀ y ∈ ys, ∃ cs, y = mkEl true cs ∧ Fits T n 46 cs) → ys.length ≤ maxLen → ∃ l : Cl, ys = l.enc ∧ l.wf ∧ K63 l := by
  intro n
  induction n using Nat.strongRecOn with
  | ind n IH =>
    intro ys
    induction ys with
    | nil => intro _ _; exact ⟨.nil, rfl, trivial, Nat.zero_le _⟩
    | cons y ys ih =>
      intro hy hl
      obtain ⟨r, h1, h2, _⟩ := ih (fun z hz => hy z (List.mem_cons_of_mem _ hz)) (by simp at hl; omega)
      obtain ⟨cs, rfl, hc⟩ := hy y (by simp)
      obtain ⟨m, rfl, a, r1, rfl, ha, b, r2, rfl, hb, c, r3, rfl, hcc, rfl⟩ := fits_struct T_cond rfl hc
      obtain ⟨t, rfl, t1, t2⟩ := fits_int T_int rfl ha
      obtain ⟨v, rfl, v1, v2⟩ := fits_int T_int rfl hb
      obtain ⟨m', ks, rfl, rfl, k1, k2⟩ := fits_slice T_conds rfl rfl T_cond hcc
      obtain ⟨k, rfl, k3, k4⟩ := IH m' (by omega) ks k2 k1
      refine ⟨.cons t v k r, by rw [h1]; rfl, ⟨⟨t1, t2⟩, ⟨v1, v2⟩, k4, k3, h2⟩, ?_⟩
      show r.len + 1 ≤ _
      rw [h1] at hl
      simp only [List.length_cons, Cl.enc_len] at hl
      exact max63 hl
theorem cond_arg {n : Nat} {cs : List V} (h : Fits T n 46 cs) : ∃ (o m : Int) (k : Cl), cs = [.int .i64 o, .int .i64 m, .sl 46 k.enc] ∧ ArgC o m k := by
  obtain ⟨m, rfl, a, r1, rfl, ha, b, r2, rfl, hb, c, r3, rfl, hcc, rfl⟩ := fits_struct T_cond rfl h
  obtain ⟨t, rfl, t1, t2⟩ := fits_int T_int rfl ha
  obtain ⟨v, rfl, v1, v2⟩ := fits_int T_int rfl hb
  obtain ⟨m', ks, rfl, rfl, k1, k2⟩ := fits_slice T_conds rfl rfl T_cond hcc
  obtain ⟨k, rfl, k3, k4⟩ := cl_of m' ks k2 k1
  exact ⟨t, v, k, rfl, ⟨t1, t2⟩, ⟨v1, v2⟩, k3, k4⟩
theorem rules_of (n : Nat) : ∀ (ys : List V), (∀ y ∈ ys, ∃ cs, y = mkEl true cs ∧ Fits T n 48 cs) → ∃ l : List Ru, ys = rE l ∧ ∀ r ∈ l, ArgC r.o r.m r.k ∧ I64 r.ops
  | [], _ => ⟨[], rfl, by simp⟩
  | y :: ys, h => by
    obtain ⟨l, h1, h2⟩ := rules_of n ys fun z hz => h z (List.mem_cons_of_mem _ hz)
    obtain ⟨cs, rfl, hc⟩ := h y (by simp)
    obtain ⟨m, rfl, a, r1, rfl, ha, b, r2, rfl, hb, rfl⟩ := fits_struct T_rule rfl hc
    obtain ⟨i, rfl, i1, i2⟩ := fits_int T_int rfl ha
    obtain ⟨o, m', k, rfl, g⟩ := cond_arg hb
    refine ⟨⟨i, o, m', k⟩ :: l, by rw [h1]; rfl, fun r hr => ?_⟩
    rcases List.mem_cons.1 hr with rfl | hr
    · exact ⟨g, i1, i2⟩
    · exact h2 r hr
theorem bytes_arg {n : Nat} {x : V} (h : Fits T n 22 [x]) : ∃ b : List UInt8, x = .bytes b ∧ b.length ≤ 9223372036854775807 := by
  obtain ⟨b, e, h1⟩ := fits_bytes T_bytes rfl rfl h
  injection e with e _
  exact ⟨b, e, max63 h1⟩
/-- A header that came in. -/
structure ArgH (f : Fi) : Prop where
  rules : ArgR f.rules
  name : f.name.length ≤ 9223372036854775807
theorem ArgH.argF {f : Fi} (g : ArgH f) {N : Nat} (h : 200000 < N) (h' : sumR f.rules < N) : ArgF N f := by
  have := sumR_len f.rules
  refine ⟨h, fun r hr => ?_, by omega, g.rules.len, g.name⟩
  have := sumR_mem hr
  obtain ⟨ga, gb⟩ := g.rules.all r hr
  exact ⟨ga.wf, ga.len, by omega⟩
def Fi.cells (f : Fi) : List V := [.int .i64 f.id, .int .i64 f.kind, .bytes f.name, .int .i64 f.short, .int .i64 f.size, .int .i64 f.length, .int .i64 f.recs, .int .i64 f.state, .sl 48 (rE f.rules)]
theorem file_arg {n : Nat} {cs : List V} (h : Fits T n 25 cs) : ∃ f : Fi, cs = [.int .i64 f.id, .int .i64 f.kind, .bytes f.name, .int .i64 f.short, .int .i64 f.size, .int .i64 f.length, .int .i64 f.recs, .int .i64 f.state, .sl 48 (rE f.rules)] ∧ ArgH f := by
  obtain ⟨m, rfl, a1, r1, rfl, h1, a2, r2, rfl, h2, a3, r3, rfl, h3, a4, r4, rfl, h4, a5, r5, rfl, h5, a6, r6, rfl, h6, a7, r7, rfl, h7, a8, r8, rfl, h8, a9, r9, rfl, h9, rfl⟩ := fits_struct T_file rfl h
  obtain ⟨v1, rfl, _⟩ := fits_int T_int rfl h1
  obtain ⟨v2, rfl, _⟩ := fits_int T_int rfl h2
  obtain ⟨v3, rfl, b3⟩ := fits_bytes T_bytes rfl rfl h3
  obtain ⟨v4, rfl, _⟩ := fits_int T_int rfl h4
  obtain ⟨v5, rfl, _⟩ := fits_int T_int rfl h5
  obtain ⟨v6, rfl, _⟩ := fits_int T_int rfl h6
  obtain ⟨v7, rfl, _⟩ := fits_int T_int rfl h7
  obtain ⟨v8, rfl, _⟩ := fits_int T_int rfl h8
  obtain ⟨m', ys, rfl, rfl, k1, k2⟩ := fits_slice T_rules rfl rfl T_rule h9
  obtain ⟨l, rfl, k3⟩ := rules_of m' ys k2
  rw [rE_len] at k1
  exact ⟨⟨v1, v2, v3, v4, v5, v6, v7, v8, l⟩, rfl, ⟨k3, max63 k1⟩, max63 b3⟩
/-- The types that the arguments lead to. -/
def argTys : List TypeId := [44, 46, 48, 23, 25, 3, 22, 5]
theorem argTys_ok : closedT T argTys = true := by kernel_rfl
end Go.Proofs.Ytllnklkjkjmjbaa.En

/- Headers: their encoding tells them apart. -/
namespace Go.Proofs.Ytllnklkjkjmjbaa.En
open Go
set_option linter.unusedVariables false
theorem encFi_ok {f : Fi} (h : (encFi f).2 = 0) : OkF f ∧ okL 1 (.cons 98 [] (pT (partsF f)) .nil) = true ∧ (encL (.cons 98 [] (pT (partsF f)) .nil)).length ≤ 4096 ∧ (encFi f).1 = encL (.cons 98 [] (pT (partsF f)) .nil) := by
  unfold encFi at h ⊢
  by_cases c : chkF f = 0
  case neg => rw [if_neg c] at h; exact absurd h c
  rw [if_pos c] at h ⊢
  refine ⟨okF_of c, ?_⟩
  unfold encR at h ⊢
  split at h
  · rename_i c1
    split at h
    · rename_i c2
      rw [if_pos c1, if_pos c2]
      exact ⟨c1, c2, rfl⟩
    · exact absurd h (by decide)
  · exact absurd h (by decide)
section
variable (N : Nat)
end
end Go.Proofs.Ytllnklkjkjmjbaa.En

/- Headers out of objects: which lists of objects are arranged; plain. -/
namespace Go.Proofs.Ytllnklkjkjmjbaa.En
open Go
set_option linter.unusedVariables false
def fitV (t : Int) (n : Nat) : Bool := if t = 130 then (decide (n = 1) || decide (n = 3)) else if t = 131 ∨ t = 128 then decide (n = 2) else if t = 136 ∨ t = 138 then decide (n = 1) else true
def tabF : List (Int × Bool) := [(130, true), (131, true), (132, false), (128, false), (136, false), (138, true), (134, false)]
def arrT : List (Int × Bool) → Tl → Bool
  | [], l => decide (l.len = 0)
  | (g, a) :: ts, .nil => !a && arrT ts .nil
  | (g, a) :: ts, .cons t v k r => if t = g then fitV t v.length && arrT ts r else !a && arrT ts (.cons t v k r)
end Go.Proofs.Ytllnklkjkjmjbaa.En

/- Headers out of objects: what is decoded; what was encoded comes back; plain. -/
namespace Go.Proofs.Ytllnklkjkjmjbaa.En
open Go
set_option linter.unusedVariables false
def zF : Fi := ⟨0, 0, [], 0, 0, 0, 0, 0, []⟩
/-- A number in one or two bytes. -/
def getB : List UInt8 → Int
  | [] => 0
  | [a] => a.toNat
  | a :: b :: _ => 256 * (a.toNat : Int) + b.toNat
def updF (t : Int) (v : List UInt8) (f : Fi) : Fi :=
  if t = 130 then (match v with | a :: b :: c :: _ => { f with kind := a.toNat, length := b.toNat, recs := c.toNat } | a :: _ => { f with kind := a.toNat } | [] => f)
  else if t = 131 then { f with id := getB v } else if t = 132 then { f with name := v } else if t = 128 then { f with size := getB v } else if t = 136 then { f with short := getB v } else if t = 138 then { f with state := getB v } else f
def hdT : Tl → Fi → Fi × Int
  | .nil, f => (f, 0)
  | .cons t v k r, f => if t = 134 then (if (decRu v).2 = 0 then hdT r { f with rules := (decRu v).1 } else (zF, (decRu v).2)) else hdT r (updF t v f)
def endF (b : List UInt8) (f : Fi) : Fi × Int := if (encFi f).2 = 0 then (if b = (encFi f).1 then (f, 0) else (zF, 4)) else (zF, (encFi f).2)
def objF (b : List UInt8) (t : Int) (k : Tl) : Fi × Int := if t = 98 then (if arrT tabF k = true then (if (hdT k zF).2 = 0 then endF b (hdT k zF).1 else (zF, (hdT k zF).2)) else (zF, 4)) else (zF, 4)
def decFi (b : List UInt8) : Fi × Int :=
  match decT b with
  | .error e => (zF, e)
  | .ok l => match l with
    | .cons t v k .nil => objF b t k
    | _ => (zF, 4)
/-! A valid header's objects -/
def arrP : List (Int × Bool) → List (Int × List UInt8) → Bool
  | [], l => decide (l.length = 0)
  | (g, a) :: ts, [] => !a && arrP ts []
  | (g, a) :: ts, p :: r => if p.1 = g then fitV p.1 p.2.length && arrP ts r else !a && arrP ts (p :: r)
theorem arrP_eq : ∀ (ts : List (Int × Bool)) (ps : List (Int × List UInt8)), arrT ts (pT ps) = arrP ts ps
  | [], [] => rfl
  | [], p :: r => by simp [arrT, arrP, pT, Tl.len]
  | (g, a) :: ts, [] => by simp only [arrT, arrP, pT]; rw [← arrP_eq ts []]; rfl
  | (g, a) :: ts, p :: r => by
    have h1 := arrP_eq ts r
    have h2 := arrP_eq ts (p :: r)
    simp only [pT] at h2
    simp only [arrT, arrP, pT, h1, h2]
def hdP : List (Int × List UInt8) → Fi → Fi × Int
  | [], f => (f, 0)
  | p :: r, f => if p.1 = 134 then (if (decRu p.2).2 = 0 then hdP r { f with rules := (decRu p.2).1 } else (zF, (decRu p.2).2)) else hdP r (updF p.1 p.2 f)
theorem hdP_eq : ∀ (ps : List (Int × List UInt8)) (f : Fi), hdT (pT ps) f = hdP ps f
  | [], f => rfl
  | p :: r, f => by simp only [pT, hdT, hdP, hdP_eq r]
theorem kindB_len (f : Fi) : (kindB f).length = 1 ∨ (kindB f).length = 3 := by
  unfold kindB
  cases recK f.kind
  · exact .inl rfl
  · exact .inr rfl
theorem arr_parts (f : Fi) : arrT tabF (pT (partsF f)) = true := by
  have h4 : ∀ n, (twoB n).length = 2 := fun _ => rfl
  rw [arrP_eq]
  unfold partsF tabF
  by_cases c1 : 0 < (f.name.length : Int) <;> by_cases c2 : f.kind = 2 <;> by_cases c3 : f.short = 0 <;> by_cases c4 : 0 < (f.rules.length : Int) <;>
    simp only [c1, c2, c3, c4, if_true, if_false, List.nil_append, List.cons_append, List.append_nil] <;>
    simp [arrP, fitV, kindB_len f, h4]
theorem getB_two {n : Int} (h : 0 ≤ n ∧ n ≤ 65535) : getB (twoB n) = n := by
  unfold twoB getB
  simp only [byteI_toNat]
  omega
theorem getB_one {n : Int} (h : 0 ≤ n ∧ n ≤ 255) : getB [byteI n] = n := by
  unfold getB
  simp only [byteI_toNat]
  omega
theorem hdP_skip {t : Int} (h : t ≠ 134) (v : List UInt8) (r : List (Int × List UInt8)) (f : Fi) : hdP ((t, v) :: r) f = hdP r (updF t v f) := by
  show (if t = 134 then _ else _) = _
  rw [if_neg h]
theorem hd_parts {f : Fi} (ok : OkF f) : hdT (pT (partsF f)) zF = (f, 0) := by
  have fk := ok.kind
  have fi := ok.id
  have fs := ok.state
  have fh := ok.short
  have bk : ((byteI f.kind).toNat : Int) = f.kind := by rw [byteI_toNat]; omega
  have e1 : updF 130 (kindB f) zF = { zF with kind := f.kind, length := f.length, recs := f.recs } := by
    unfold updF kindB
    rw [if_pos rfl]
    cases hr : recK f.kind with
    | true =>
      have l1 := (numF_zero ok.length).1 hr
      have r1 := (numF_zero ok.recs).1 hr
      have b1 : ((byteI f.length).toNat : Int) = f.length := by rw [byteI_toNat]; omega
      have b2 : ((byteI f.recs).toNat : Int) = f.recs := by rw [byteI_toNat]; omega
      simp only [cond_true, bk, b1, b2]
    | false =>
      have l1 := (numF_zero ok.length).2 hr
      have r1 := (numF_zero ok.recs).2 hr
      simp only [cond_false, bk, l1, r1]
      rfl
  have tail : ∀ g : Fi, g.rules = [] → hdP (if 0 < (f.rules.length : Int) then [(134, (encRu f.rules).1)] else []) g = ({ g with rules := f.rules }, 0) := by
    intro g hg
    by_cases c : 0 < (f.rules.length : Int)
    · rw [if_pos c]
      have h1 : decRu (encRu f.rules).1 = (f.rules, 0) := by
        unfold encRu
        rw [if_pos ok.rules]
        exact decRu_put ok.rules
      show (if (134 : Int) = 134 then (if (decRu (encRu f.rules).1).2 = 0 then hdP [] { g with rules := (decRu (encRu f.rules).1).1 } else _) else _) = _
      rw [if_pos rfl, h1, if_pos rfl]; rfl
    · rw [if_neg c]
      have : f.rules = [] := List.length_eq_zero_iff.1 (by omega)
      rw [this, ← hg]; rfl
  have s138 : ∀ (r : List (Int × List UInt8)) (g : Fi), hdP ((138, [byteI f.state]) :: r) g = hdP r { g with state := f.state } := by
    intro r g
    rw [hdP_skip (by decide)]
    have : updF 138 [byteI f.state] g = { g with state := getB [byteI f.state] } := rfl
    rw [this, getB_one (by omega)]
  have s136 : ∀ (r : List (Int × List UInt8)) (g : Fi), g.short = 0 → hdP ((if f.short = 0 then [] else [(136, [byteI f.short])]) ++ r) g = hdP r { g with short := f.short } := by
    intro r g hg
    by_cases c : f.short = 0
    · rw [if_pos c, List.nil_append, c, ← hg]
    · rw [if_neg c, List.cons_append, List.nil_append, hdP_skip (by decide)]
      have : updF 136 [byteI f.short] g = { g with short := getB [byteI f.short] } := rfl
      rw [this, getB_one (by omega)]
  have s128 : ∀ (r : List (Int × List UInt8)) (g : Fi), g.size = 0 → hdP ((if f.kind = 2 then [(128, twoB f.size)] else []) ++ r) g = hdP r { g with size := f.size } := by
    intro r g hg
    by_cases c : f.kind = 2
    · have := (numF_zero ok.size).1 (by simp [c])
      rw [if_pos c, List.cons_append, List.nil_append, hdP_skip (by decide)]
      have e : updF 128 (twoB f.size) g = { g with size := getB (twoB f.size) } := rfl
      rw [e, getB_two (by omega)]
    · have := (numF_zero ok.size).2 (by simp [c])
      rw [if_neg c, List.nil_append, this, ← hg]
  have s132 : ∀ (r : List (Int × List UInt8)) (g : Fi), g.name = [] → hdP ((if 0 < (f.name.length : Int) then [(132, f.name)] else []) ++ r) g = hdP r { g with name := f.name } := by
    intro r g hg
    by_cases c : 0 < (f.name.length : Int)
    · rw [if_pos c, List.cons_append, List.nil_append, hdP_skip (by decide)]; rfl
    · rw [if_neg c, List.nil_append, List.length_eq_zero_iff.1 (by omega : f.name.length = 0), ← hg]
  have s131 : ∀ (r : List (Int × List UInt8)) (g : Fi), hdP ((131, twoB f.id) :: r) g = hdP r { g with id := f.id } := by
    intro r g
    rw [hdP_skip (by decide)]
    have e : updF 131 (twoB f.id) g = { g with id := getB (twoB f.id) } := rfl
    rw [e, getB_two (by omega)]
  rw [hdP_eq]
  unfold partsF
  rw [hdP_skip (by decide), e1, s131, s132 _ _ rfl, s128 _ _ rfl, s136 _ _ rfl, s138, tail _ rfl]
/-! A valid header can be encoded -/
theorem okL_pT : ∀ ps : List (Int × List UInt8), (∀ p ∈ ps, p.1 = 130 ∨ p.1 = 131 ∨ p.1 = 132 ∨ p.1 = 128 ∨ p.1 = 136 ∨ p.1 = 138 ∨ p.1 = 134) → okL 2 (pT ps) = true
  | [], _ => rfl
  | p :: r, h => by
    have ih := okL_pT r fun q hq => h q (by simp [hq])
    unfold pT okL
    have h1 := h p (by simp)
    have e1 : tagV p.1 = true ∧ tagC p.1 = false := by
      rcases h1 with h | h | h | h | h | h | h <;> rw [h] <;> exact ⟨by decide, by decide⟩
    rw [e1.1, e1.2, ih]; rfl
theorem len_encL_pT : ∀ ps : List (Int × List UInt8), (∀ p ∈ ps, (p.1 = 130 ∨ p.1 = 131 ∨ p.1 = 132 ∨ p.1 = 128 ∨ p.1 = 136 ∨ p.1 = 138 ∨ p.1 = 134) ∧ p.2.length ≤ 400) → (encL (pT ps)).length ≤ 405 * ps.length
  | [], _ => Nat.le_refl _
  | p :: r, h => by
    have ih := len_encL_pT r fun q hq => h q (by simp [hq])
    obtain ⟨h1, h2⟩ := h p (by simp)
    have e1 : tagC p.1 = false := by rcases h1 with h | h | h | h | h | h | h <;> rw [h] <;> decide
    have e2 : (tagB p.1).length ≤ 2 := by unfold tagB; split <;> simp
    have e3 : (lenB (p.2.length : Int)).length ≤ 3 := by unfold lenB; split <;> (try split) <;> simp
    unfold pT
    rw [encL_cons, e1]
    simp only [cond_false, List.length_append, List.length_cons]
    omega
theorem encFi_err (f : Fi) : (encFi f).2 = chkF f := by
  unfold encFi
  by_cases c : chkF f = 0
  case neg => rw [if_neg c]
  rw [if_pos c, c]
  have ok := okF_of c
  obtain ⟨hp, hn⟩ := parts_all ok
  have ht : ∀ p ∈ partsF f, p.1 = 130 ∨ p.1 = 131 ∨ p.1 = 132 ∨ p.1 = 128 ∨ p.1 = 136 ∨ p.1 = 138 ∨ p.1 = 134 := by
    intro p hp
    unfold partsF at hp
    simp only [List.mem_cons, List.mem_append] at hp
    rcases hp with rfl | rfl | hp | hp | hp | rfl | hp
    · simp
    · simp
    · split at hp
      · simp at hp; subst hp; simp
      · cases hp
    · split at hp
      · simp at hp; subst hp; simp
      · cases hp
    · split at hp
      · cases hp
      · simp at hp; subst hp; simp
    · simp
    · split at hp
      · simp at hp; subst hp; simp
      · cases hp
  have h1 := okL_pT _ ht
  have h2 := len_encL_pT _ fun p hq => ⟨ht p hq, (hp p hq).2⟩
  have e98 : tagV 98 = true ∧ tagC 98 = true := ⟨by decide, by decide⟩
  have hok : okL 1 (.cons 98 [] (pT (partsF f)) .nil) = true := by
    unfold okL
    rw [e98.1, e98.2, cond_true, show (1 : Int) + 1 = 2 by decide, h1]; rfl
  have e2 : (tagB 98).length ≤ 2 := by decide
  have e3 : (lenB ((encL (pT (partsF f))).length : Int)).length ≤ 3 := by unfold lenB; split <;> (try split) <;> simp
  have hlen : (encL (.cons 98 [] (pT (partsF f)) .nil)).length ≤ 4096 := by
    rw [encL_cons, e98.2]
    simp only [cond_true, List.length_append]
    have : (encL Tl.nil).length = 0 := rfl
    omega
  unfold encR
  rw [if_pos hok, if_pos hlen]
/-- What was encoded is decoded. -/
theorem decFi_put {f : Fi} (h : chkF f = 0) : decFi (encFi f).1 = (f, 0) := by
  have h0 : (encFi f).2 = 0 := by rw [encFi_err]; exact h
  obtain ⟨ok, a1, a2, a3⟩ := encFi_ok h0
  unfold decFi
  rw [a3, decT_put a1 a2]
  show objF _ 98 (pT (partsF f)) = _
  unfold objF endF
  rw [if_pos rfl, if_pos (arr_parts f), hd_parts ok, if_pos rfl, if_pos h0, a3, if_pos rfl]
theorem decFi_ok {b : List UInt8} (h : (decFi b).2 = 0) : encFi (decFi b).1 = (b, 0) := by
  have key : ∀ f : Fi, (endF b f).2 = 0 → encFi (endF b f).1 = (b, 0) := by
    intro f hf
    unfold endF at hf ⊢
    by_cases c : (encFi f).2 = 0
    · rw [if_pos c] at hf ⊢
      by_cases c2 : b = (encFi f).1
      · rw [if_pos c2]
        show encFi f = _
        rw [c2, ← c]
      · rw [if_neg c2] at hf; exact absurd hf (by decide)
    · rw [if_neg c] at hf; exact absurd hf c
  unfold decFi at h ⊢
  split at h
  · rename_i e he
    exact absurd h (decT_err he)
  · rename_i l hl
    split at h
    · rename_i t v k
      unfold objF at h ⊢
      split at h
      · rename_i c1
        rw [if_pos c1]
        split at h
        · rename_i c2
          rw [if_pos c2]
          split at h
          · rename_i c3
            rw [if_pos c3]
            exact key _ h
          · rename_i c3; exact absurd h c3
        · exact absurd h (by decide)
      · exact absurd h (by decide)
    · exact absurd h (by decide)
end Go.Proofs.Ytllnklkjkjmjbaa.En

/- Headers out of objects: the program and the reference. -/
namespace Go.Proofs.Ytllnklkjkjmjbaa.En
open Go
set_option linter.unusedVariables false
/-- All values have the lengths that their tags require. -/
def fitL : Tl → Prop
  | .nil => True
  | .cons t v k r => fitV t v.length = true ∧ v.length ≤ 1000 ∧ fitL r
theorem arrT_nil (g : Int) (a : Bool) (ts : List (Int × Bool)) : arrT ((g, a) :: ts) .nil = (!a && arrT ts .nil) := rfl
theorem arrT_cons (g : Int) (a : Bool) (ts : List (Int × Bool)) (t : Int) (v : List UInt8) (k r : Tl) : arrT ((g, a) :: ts) (.cons t v k r) = if t = g then fitV t v.length && arrT ts r else !a && arrT ts (.cons t v k r) := rfl
abbrev te (t : Int) (v : List UInt8) (k : Tl) : V := .agg [.int .i64 t, .bytes v, .sl 62 k.enc]
theorem tenc (t : Int) (v : List UInt8) (k r : Tl) : (Tl.cons t v k r).enc = te t v k :: r.enc := rfl
theorem at_head {R α : Type} (x : α) (l : List α) (K : α → Option R) : at? (x :: l) 0 K = K x := rfl
section
variable (N : Nat)
theorem flengthFits_eq (t : Int) (v : List UInt8) (k : List V) : s_flengthFits N t v k = some (fitV t v.length) := by
  have e1 : decide ((v.length : Int) = 1) = decide (v.length = 1) := decide_eq_decide.2 (by omega)
  have e2 : decide ((v.length : Int) = 2) = decide (v.length = 2) := decide_eq_decide.2 (by omega)
  have e3 : decide ((v.length : Int) = 3) = decide (v.length = 3) := decide_eq_decide.2 (by omega)
  unfold s_flengthFits fitV
  rw [e1, e2, e3]
  simp only [br_dec]
  by_cases h0 : t = 130
  · rw [if_pos h0, if_pos h0]
    by_cases c : v.length = 1 <;> simp [c, br]
  by_cases h1 : t = 131
  · simp [h1]
  by_cases h3 : t = 128
  · simp [h3]
  by_cases h4 : t = 136
  · simp [h4]
  by_cases h5 : t = 138
  · simp [h5]
  · simp [h0, h1, h3, h4, h5]
abbrev TG : List V := [V.int IntKind.i64 130, V.int IntKind.i64 131, V.int IntKind.i64 132, V.int IntKind.i64 128, V.int IntKind.i64 136, V.int IntKind.i64 138, V.int IntKind.i64 134]
abbrev AL : List V := [V.bool true, V.bool true, V.bool false, V.bool false, V.bool false, V.bool true, V.bool false]
theorem arr_step {i : Nat} {g : Int} {a : Bool} (hi : i < 7) (h1 : ∀ {R : Type} (K : V → Option R), at? TG ((i : Int)).toNat K = K (.int .i64 g)) (h2 : ∀ {R : Type} (K : V → Option R), at? AL ((i : Int)).toNat K = K (.bool a)) (hd : tabF.drop i = (g, a) :: tabF.drop (i + 1)) (t : Nat)
    (ih : ∀ l : Tl, l.len ≤ 100000 → S_farranged_3 N AL TG 7 t l.enc ((i + 1 : Nat) : Int) (fun l2 b3 => some b3) (fun l4 => some (decide ((l4.length : Int) = 0))) = some (arrT (tabF.drop (i + 1)) l)) (l : Tl) (hl : l.len ≤ 100000) :
    S_farranged_3 N AL TG 7 (t + 1) l.enc (i : Int) (fun l2 b3 => some b3) (fun l4 => some (decide ((l4.length : Int) = 0))) = some (arrT (tabF.drop i) l) := by
  have e1 : ((TG.length : Nat) : Int) = 7 := rfl
  have e2 : ((AL.length : Nat) : Int) = 7 := rfl
  have e3 : IntKind.i64.wrap ((i : Int) + 1) = ((i + 1 : Nat) : Int) := by rw [w64 (by omega) (by omega)]; omega
  have c1 : (i : Int) < 7 := by omega
  have c2 : (0 : Int) ≤ (i : Int) := by omega
  unfold S_farranged_3 F_farranged_3
  rw [hd]
  simp only [br_dec, br_and, e1, e2, c1, c2, if_true, h1, h2, unInt_mk, unBool_mk, e3]
  cases l with
  | nil =>
    have ihn := ih .nil (by simp [Tl.len])
    have c0 : ¬ (0 : Int) < ((Tl.nil.enc).length : Int) := by simp [Tl.enc]
    rw [if_neg c0, ihn, arrT_nil]
    cases a <;> rfl
  | cons tg v k r =>
    have c3 : (0 : Int) < ((Tl.cons tg v k r).enc.length : Int) := by rw [tenc]; simp only [List.length_cons]; omega
    have c4 : (1 : Int) ≤ ((Tl.cons tg v k r).enc.length : Int) := by omega
    have ihc := ih (.cons tg v k r) hl
    simp only [Tl.len] at hl
    have ihr := ih r (by omega)
    simp only [c3, c4, if_true]
    rw [tenc] at ihc ⊢
    simp only [at_head, unAgg_mk, unCons_mk, unInt_mk, unBytes_mk, unSl_mk, unNil_mk, List.drop_succ_cons, List.drop_zero, flengthFits_eq, bnd1_mk, ihr, ihc]
    rw [arrT_cons]
    by_cases hg : tg = g
    · rw [if_pos hg, if_pos hg, br_not]
      cases fitV tg v.length <;> rfl
    · rw [if_neg hg, if_neg hg]
      cases a <;> rfl
theorem farranged_eq (hN : 100 < N) (l : Tl) (hl : l.len ≤ 100000) : s_farranged N l.enc = some (arrT tabF l) := by
  obtain ⟨t, rfl⟩ : ∃ t, N = t + 8 := ⟨N - 8, by omega⟩
  have i7 : ∀ l : Tl, l.len ≤ 100000 → S_farranged_3 (t + 8) AL TG 7 (t + 1) l.enc ((7 : Nat) : Int) (fun l2 b3 => some b3) (fun l4 => some (decide ((l4.length : Int) = 0))) = some (arrT (tabF.drop 7) l) := by
    intro l hl
    unfold S_farranged_3 F_farranged_3
    rw [br_dec, if_neg (by omega)]
    show some (decide ((l.enc.length : Int) = 0)) = some (decide (l.len = 0))
    rw [Tl.enc_len]
    congr 1
    exact decide_eq_decide.2 (by omega)
  have i6 := arr_step (t + 8) (i := 6) (g := 134) (a := false) (by omega) (fun K => rfl) (fun K => rfl) rfl (t + 1) i7
  have i5 := arr_step (t + 8) (i := 5) (g := 138) (a := true) (by omega) (fun K => rfl) (fun K => rfl) rfl (t + 2) i6
  have i4 := arr_step (t + 8) (i := 4) (g := 136) (a := false) (by omega) (fun K => rfl) (fun K => rfl) rfl (t + 3) i5
  have i3 := arr_step (t + 8) (i := 3) (g := 128) (a := false) (by omega) (fun K => rfl) (fun K => rfl) rfl (t + 4) i4
  have i2 := arr_step (t + 8) (i := 2) (g := 132) (a := false) (by omega) (fun K => rfl) (fun K => rfl) rfl (t + 5) i3
  have i1 := arr_step (t + 8) (i := 1) (g := 131) (a := true) (by omega) (fun K => rfl) (fun K => rfl) rfl (t + 6) i2
  have i0 := arr_step (t + 8) (i := 0) (g := 130) (a := true) (by omega) (fun K => rfl) (fun K => rfl) rfl (t + 7) i1
  have := i0 l hl
  unfold s_farranged s_forder
  exact this
theorem Get_two (hN : 100 < N) (v : List UInt8) (h : v.length = 1 ∨ v.length = 2) : s_fget N v = some (getB v) := by
  obtain ⟨t, rfl⟩ : ∃ t, N = t + 3 := ⟨N - 3, by omega⟩
  unfold s_fget s_Get
  match v, h with
  | [a], _ =>
    have ha := u8_lt a
    have e0 : (([a] : List UInt8).length : Int) = 1 := rfl
    have e1 : IntKind.i64.wrap ((0 : Int) + 1) = 1 := by decide
    have a0 : ∀ {R : Type} (K : UInt8 → Option R), at? [a] (0 : Int).toNat K = K a := fun K => rfl
    have o1 : bitsI BinOp.or IntKind.i64 (shlI IntKind.i64 0 8) (IntKind.i64.wrap (a.toNat : Int)) = (a.toNat : Int) := by
      rw [w64_u8, shl8_or 0 _ (by omega) (by omega) (by omega) (by omega)]; omega
    rw [e0, br_dec, if_neg (by omega)]
    unfold S_Get_5 F_Get_5
    simp only [br_dec, br_and, e0, a0, e1, o1]
    rw [if_pos (by decide), if_pos (by decide), if_pos (by decide)]
    unfold S_Get_5 F_Get_5
    rw [br_dec, if_neg (by omega)]
    show bnd2 (if (a.toNat : Int) < 0 then _ else _) _ = _
    rw [if_neg (by omega)]
    rfl
  | [a, b], _ =>
    have ha := u8_lt a
    have hb := u8_lt b
    have e0 : (([a, b] : List UInt8).length : Int) = 2 := rfl
    have e1 : IntKind.i64.wrap ((0 : Int) + 1) = 1 := by decide
    have e2 : IntKind.i64.wrap ((1 : Int) + 1) = 2 := by decide
    have a0 : ∀ {R : Type} (K : UInt8 → Option R), at? [a, b] (0 : Int).toNat K = K a := fun K => rfl
    have a1 : ∀ {R : Type} (K : UInt8 → Option R), at? [a, b] (1 : Int).toNat K = K b := fun K => rfl
    have o1 : bitsI BinOp.or IntKind.i64 (shlI IntKind.i64 0 8) (IntKind.i64.wrap (a.toNat : Int)) = (a.toNat : Int) := by
      rw [w64_u8, shl8_or 0 _ (by omega) (by omega) (by omega) (by omega)]; omega
    have o2 : bitsI BinOp.or IntKind.i64 (shlI IntKind.i64 (a.toNat : Int) 8) (IntKind.i64.wrap (b.toNat : Int)) = 256 * (a.toNat : Int) + b.toNat := by
      rw [w64_u8, shl8_or _ _ (by omega) (by omega) (by omega) (by omega)]
    rw [e0, br_dec, if_neg (by omega)]
    unfold S_Get_5 F_Get_5
    simp only [br_dec, br_and, e0, a0, e1, o1]
    rw [if_pos (by decide), if_pos (by decide), if_pos (by decide)]
    unfold S_Get_5 F_Get_5
    simp only [br_dec, br_and, e0, a1, e2, o2]
    rw [if_pos (by decide), if_pos (by decide), if_pos (by decide)]
    unfold S_Get_5 F_Get_5
    rw [br_dec, if_neg (by omega)]
    show bnd2 (if 256 * (a.toNat : Int) + b.toNat < 0 then _ else _) _ = _
    rw [if_neg (by omega)]
    rfl
end
end Go.Proofs.Ytllnklkjkjmjbaa.En

/- Headers are decoded: the program and the reference; the two statements that decode. -/
namespace Go.Proofs.Ytllnklkjkjmjbaa.En
open Go
set_option linter.unusedVariables false
def shortT : Tl → Prop
  | .nil => True
  | .cons t v k r => v.length ≤ 1000 ∧ shortT r
theorem shortT_wt : ∀ l : Tl, l.wt ≤ 1000 → shortT l
  | .nil, _ => trivial
  | .cons t v k r, h => by
    simp only [Tl.wt] at h
    exact ⟨by omega, shortT_wt r (by omega)⟩
theorem shortT_pT : ∀ ps : List (Int × List UInt8), (∀ p ∈ ps, I64 p.1 ∧ p.2.length ≤ 400) → shortT (pT ps)
  | [], _ => trivial
  | p :: r, h => ⟨by have := (h p (by simp)).2; omega, shortT_pT r fun q hq => h q (by simp [hq])⟩
theorem fitL_short : ∀ (ts : List (Int × Bool)) (l : Tl), arrT ts l = true → shortT l → fitL l
  | [], l, h, _ => by
    unfold arrT at h
    cases l with
    | nil => trivial
    | cons t v k r => simp [Tl.len] at h
  | (g, a) :: ts, .nil, _, _ => trivial
  | (g, a) :: ts, .cons t v k r, h, hw => by
    rw [arrT_cons] at h
    split at h
    · rw [Bool.and_eq_true] at h
      exact ⟨h.1, hw.1, fitL_short ts r h.2 hw.2⟩
    · rw [Bool.and_eq_true] at h
      exact fitL_short ts (.cons t v k r) h.2 hw
theorem hdT_134 (v : List UInt8) (k r : Tl) (f : Fi) : hdT (.cons 134 v k r) f = if (decRu v).2 = 0 then hdT r { f with rules := (decRu v).1 } else (zF, (decRu v).2) := rfl
theorem hdT_ne {t : Int} (h : t ≠ 134) (v : List UInt8) (k r : Tl) (f : Fi) : hdT (.cons t v k r) f = hdT r (updF t v f) := by
  show (if t = 134 then _ else _) = _
  rw [if_neg h]
theorem len1 {v : List UInt8} (h : v.length = 1) : ∃ a, v = [a] := by
  match v, h with
  | [a], _ => exact ⟨a, rfl⟩
theorem len3 {v : List UInt8} (h : v.length = 3) : ∃ a b c, v = [a, b, c] := by
  match v, h with
  | [a, b, c], _ => exact ⟨a, b, c, rfl⟩
theorem updF_other {t : Int} (h0 : t ≠ 130) (h1 : t ≠ 131) (h2 : t ≠ 132) (h3 : t ≠ 128) (h4 : t ≠ 136) (h5 : t ≠ 138) (v : List UInt8) (f : Fi) : updF t v f = f := by
  unfold updF
  rw [if_neg h0, if_neg h1, if_neg h2, if_neg h3, if_neg h4, if_neg h5]
section
variable (N : Nat)
theorem goodR_decRu {b : List UInt8} (hb : b.length ≤ 1000) (hN : 10000 < N) : GoodR N (decRu b).1 := by
  have gnil : GoodR N [] := ⟨by simp, by omega, by simp⟩
  unfold decRu
  cases hd : decT b with
  | error e => exact gnil
  | ok l =>
    simp only
    cases hr : rdRu 7 8 l with
    | none => exact gnil
    | some rs =>
      simp only
      split
      · exact goodR_rd N hb hN hd hr
      · exact gnil
theorem hdT_good (hN : 10000 < N) : ∀ (l : Tl) (f : Fi), fitL l → GoodR N f.rules → GoodR N (hdT l f).1.rules
  | .nil, f, _, h => h
  | .cons t v k r, f, hf, h => by
    have gnil : GoodR N [] := ⟨by simp, by omega, by simp⟩
    by_cases c : t = 134
    · subst c
      rw [hdT_134]
      split
      · exact hdT_good hN r _ hf.2.2 (goodR_decRu N hf.2.1 hN)
      · exact gnil
    · rw [hdT_ne c]
      refine hdT_good hN r _ hf.2.2 ?_
      have : (updF t v f).rules = f.rules := by
        unfold updF
        split
        · split <;> rfl
        split
        · rfl
        split
        · rfl
        split
        · rfl
        split
        · rfl
        split <;> rfl
      rw [this]; exact h
theorem fd_loop {R : Type} (hN : 10000 < N) (x0 : List UInt8) (n4 n5 : Int) (l6 : List UInt8) (n7 n8 n9 n10 n11 : Int) (vs12 : List V) (K0 : Int → Int → Int → List UInt8 → Int → Int → Int → Int → Int → List V → Int → Int → List UInt8 → Int → Int → Int → Int → Int → List V → Option R)
    (K1 : Int → Int → List UInt8 → Int → Int → Int → Int → Int → List V → Option R) (Z : Int → Option R) (hK0 : ∀ e a b c d e' f g h i, K0 e 0 0 [] 0 0 0 0 0 [] a b c d e' f g h i = Z e) :
    ∀ (l : Tl) (pre : List V) (t : Nat) (f : Fi), l.len < t → pre.length + l.len ≤ 100000 → fitL l →
      S_fDecode_8 N x0 (pre ++ l.enc) ((pre ++ l.enc).length : Int) n4 n5 l6 n7 n8 n9 n10 n11 vs12 t (pre.length : Int) f.id f.kind f.name f.short f.size f.length f.recs f.state (rE f.rules) K0 K1
        = if (hdT l f).2 = 0 then K1 (hdT l f).1.id (hdT l f).1.kind (hdT l f).1.name (hdT l f).1.short (hdT l f).1.size (hdT l f).1.length (hdT l f).1.recs (hdT l f).1.state (rE (hdT l f).1.rules) else Z (hdT l f).2
  | l, pre, 0, f, ht, _, _ => by omega
  | .nil, pre, t + 1, f, ht, _, _ => by
    unfold S_fDecode_8 F_fDecode_8
    simp only [Tl.enc, br_t, br_f, br_dec, br_not, br_and, br_or, bnd1_mk, bnd2_mk, bnd3_mk, bnd4_mk, bnd5_mk, bnd10_mk, at_zero, at_succ, at_mid, unInt_mk, unBool_mk, unStr_mk, unBytes_mk, unSl_mk, unAgg_mk, unCons_mk, unNil_mk, endI, if_false]
    rfl
  | .cons tg v k r, pre, t + 1, f, ht, hl, hf => by
    simp only [Tl.len] at ht hl
    obtain ⟨h1, h2, h3, h4⟩ := stepI pre (te tg v k) r.enc (by rw [Tl.enc_len]; omega)
    have ih := fun f => fd_loop hN x0 n4 n5 l6 n7 n8 n9 n10 n11 vs12 K0 K1 Z hK0 r (pre ++ [te tg v k]) t f (by omega) (by simp; omega) hf.2.2
    rw [← mid, ← h3] at ih
    obtain ⟨hf1, hf2, _⟩ := hf
    unfold S_fDecode_8 F_fDecode_8
    simp only [tenc, br_t, br_f, br_dec, br_not, br_and, br_or, bnd1_mk, bnd2_mk, bnd3_mk, bnd4_mk, bnd5_mk, bnd10_mk, at_zero, at_succ, at_mid, unInt_mk, unBool_mk, unStr_mk, unBytes_mk, unSl_mk, unAgg_mk, unCons_mk, unNil_mk, h1, h2, if_true, Int.toNat_natCast]
    by_cases k0 : tg = 130
    · subst k0
      rw [hdT_ne (by decide), if_pos rfl]
      simp only [fitV, if_true, Bool.or_eq_true, decide_eq_true_eq] at hf1
      rcases hf1 with hv | hv
      · obtain ⟨a, rfl⟩ := len1 hv
        have e0 : (0 : Int) < (([a] : List UInt8).length : Int) := by simp
        have e3 : ¬ ((([a] : List UInt8).length : Int) = 3) := by simp
        rw [if_pos e0, at_head, if_neg e3, w64_u8]
        exact ih (updF 130 [a] f)
      · obtain ⟨a, b, c, rfl⟩ := len3 hv
        have e0 : (0 : Int) < (([a, b, c] : List UInt8).length : Int) := by simp
        have e1 : (1 : Int) < (([a, b, c] : List UInt8).length : Int) := by simp
        have e2 : (2 : Int) < (([a, b, c] : List UInt8).length : Int) := by simp
        have e3 : ((([a, b, c] : List UInt8).length : Int) = 3) := by simp
        have a1 : ∀ {R : Type} (K : UInt8 → Option R), at? [a, b, c] 1 K = K b := fun K => rfl
        have a2 : ∀ {R : Type} (K : UInt8 → Option R), at? [a, b, c] 2 K = K c := fun K => rfl
        rw [if_pos e0, at_head, if_pos e3, if_pos e1, a1, if_pos e2, a2, w64_u8, w64_u8, w64_u8]
        exact ih (updF 130 [a, b, c] f)
    rw [if_neg k0]
    by_cases k1 : tg = 131
    · subst k1
      have hv : v.length = 2 := by simpa [fitV] using hf1
      rw [hdT_ne (by decide), if_pos rfl, Get_two N (by omega) v (.inr hv), bnd1_mk]
      exact ih (updF 131 v f)
    rw [if_neg k1]
    by_cases k2 : tg = 132
    · subst k2
      rw [hdT_ne (by decide), if_pos rfl]
      exact ih (updF 132 v f)
    rw [if_neg k2]
    by_cases k3 : tg = 128
    · subst k3
      have hv : v.length = 2 := by simpa [fitV] using hf1
      rw [hdT_ne (by decide), if_pos rfl, Get_two N (by omega) v (.inr hv), bnd1_mk]
      exact ih (updF 128 v f)
    rw [if_neg k3]
    by_cases k4 : tg = 136
    · subst k4
      have hv : v.length = 1 := by simpa [fitV] using hf1
      rw [hdT_ne (by decide), if_pos rfl, Get_two N (by omega) v (.inl hv), bnd1_mk]
      exact ih (updF 136 v f)
    rw [if_neg k4]
    by_cases k5 : tg = 138
    · subst k5
      have hv : v.length = 1 := by simpa [fitV] using hf1
      rw [hdT_ne (by decide), if_pos rfl, Get_two N (by omega) v (.inl hv), bnd1_mk]
      exact ih (updF 138 v f)
    rw [if_neg k5]
    by_cases k6 : tg = 134
    · subst k6
      rw [hdT_134, if_pos rfl, aDecode_eq N hN v hf2, bnd2_mk]
      by_cases c : (decRu v).2 = 0
      · rw [if_pos c, if_pos c]
        exact ih { f with rules := (decRu v).1 }
      · rw [if_neg c, if_neg c, hK0, if_neg c]
    rw [if_neg k6, hdT_ne k6, updF_other k0 k1 k2 k3 k4 k5]
    exact ih f
def outF (p : Fi × Int) : Int × Int × List UInt8 × Int × Int × Int × Int × Int × List V × Int := (p.1.id, p.1.kind, p.1.name, p.1.short, p.1.size, p.1.length, p.1.recs, p.1.state, rE p.1.rules, p.2)
theorem gzero (hN : 10000 < N) : GoodR N zF.rules := ⟨by decide, by omega, by intro r hr; cases hr⟩
theorem decR_nil {b : List UInt8} {e : Int} (h : decT b = .error e) : decR b = ([], e) := by rw [decR_decT, h]; rfl
theorem decR_ok {b : List UInt8} {l : Tl} (h : decT b = .ok l) : decR b = (l.enc, 0) := by rw [decR_decT, h]; rfl
theorem fDecode_eq (hN : 10000 < N) (b : List UInt8) (hb : ∀ t v k, decT b = .ok (.cons t v k .nil) → shortT k) : s_fDecode N b = some (outF (decFi b)) := by
  unfold s_fDecode decFi
  rw [Decode_eq N (by omega)]
  cases hd : decT b with
  | error e =>
    rw [decR_nil hd, bnd2_mk, br_not, br_dec, if_neg (decT_err hd)]; rfl
  | ok l =>
    rw [decR_ok hd, bnd2_mk, br_not, br_dec, if_pos rfl]
    cases l with
    | nil => rw [br_not, br_dec, if_neg (by simp [Tl.enc])]; rfl
    | cons t v k r =>
      cases r with
      | cons t2 v2 k2 r2 => rw [br_not, br_dec, if_neg (by simp [Tl.enc]; omega)]; rfl
      | nil =>
        obtain ⟨d1, d2, d3, d4, d5⟩ := decT_ok hd
        simp only [Tl.wt] at d3
        have hkl := Tl.len_wt k
        have e1 : (((Tl.cons t v k .nil).enc.length : Int)) = 1 := rfl
        have e0 : (0 : Int) < (((Tl.cons t v k .nil).enc.length : Int)) := by rw [e1]; omega
        have a0 : ∀ {R : Type} (K : V → Option R), at? (Tl.cons t v k .nil).enc 0 K = K (te t v k) := fun K => rfl
        simp only [br_not, br_dec, e1, if_true, a0, unAgg_mk, unCons_mk, unInt_mk, unBytes_mk, unSl_mk, unNil_mk, farranged_eq N (by omega) k (by omega), bnd1_mk]
        rw [if_pos (by omega)]
        simp only [objF]
        by_cases ct : t = 98
        case neg => rw [if_neg ct, if_neg ct]; rfl
        rw [if_pos ct, if_pos ct, if_pos (by omega)]
        cases ca : arrT tabF k with
        | false => rfl
        | true =>
          have hfit := fitL_short tabF k ca (hb t v k hd)
          have hL := fd_loop N hN b 0 0 [] 0 0 0 0 0 [] (fun n36 n37 n38 l39 n40 n41 n42 n43 n44 l45 n46 n47 l48 n49 n50 n51 n52 n53 l54 => some (n37, n38, l39, n40, n41, n42, n43, n44, l45, n36))
            (fun n55 n56 l57 n58 n59 n60 n61 n62 l63 => bnd2 (s_fEncode N n55 n56 l57 n58 n59 n60 n61 n62 l63) fun l64 n65 => if n65 = 0 then (bnd1 (s_Equal N b l64) fun b66 => br b66 (some (n55, n56, l57, n58, n59, n60, n61, n62, l63, (0 : Int))) (some (0, 0, [], 0, 0, 0, 0, 0, [], 4))) else some (0, 0, [], 0, 0, 0, 0, 0, [], n65))
            (fun e => some (0, 0, [], 0, 0, 0, 0, 0, [], e)) (fun _ _ _ _ _ _ _ _ _ _ => rfl) k [] N zF (by omega) (by simp; omega) hfit
          simp only [br_t, if_true]
          rw [if_pos (by omega)]
          refine Eq.trans hL ?_
          by_cases ch : (hdT k zF).2 = 0
          case neg => rw [if_neg ch, if_neg ch]; rfl
          have gg := hdT_good N hN k zF hfit (gzero N hN)
          have hm := encFi_max (hdT k zF).1
          rw [if_pos ch, if_pos ch, fEncode_eq N hN _ gg]
          unfold endF
          show (if (encFi (hdT k zF).1).2 = 0 then (bnd1 (s_Equal N b (encFi (hdT k zF).1).1) _) else _) = _
          by_cases ce : (encFi (hdT k zF).1).2 = 0
          case neg => rw [if_neg ce, if_neg ce]; rfl
          rw [if_pos ce, if_pos ce, Equal_eq N _ _ (by omega) (by omega), bnd1_mk, br_dec]
          by_cases cb : b = (encFi (hdT k zF).1).1
          · rw [if_pos cb, if_pos cb]; rfl
          · rw [if_neg cb, if_neg cb]; rfl
/-- What is decoded is small. -/
theorem decFi_small (hN : 10000 < N) (b : List UInt8) (hb : ∀ t v k, decT b = .ok (.cons t v k .nil) → shortT k) : GoodR N (decFi b).1.rules ∧ (decFi b).1.name.length ≤ 60 := by
  have z : GoodR N zF.rules ∧ zF.name.length ≤ 60 := ⟨gzero N hN, by decide⟩
  unfold decFi
  cases hd : decT b with
  | error e => exact z
  | ok l =>
    cases l with
    | nil => exact z
    | cons t v k r =>
      cases r with
      | cons t2 v2 k2 r2 => exact z
      | nil =>
        show GoodR N (objF b t k).1.rules ∧ (objF b t k).1.name.length ≤ 60
        unfold objF
        split
        · split
          · rename_i ca
            have hfit := fitL_short tabF k ca (hb t v k hd)
            have gg := hdT_good N hN k zF hfit (gzero N hN)
            split
            · unfold endF
              split
              · rename_i ce
                split
                · rw [encFi_err] at ce
                  have := (okF_of ce).name
                  exact ⟨gg, Nat.le_trans this (by decide)⟩
                · exact z
              · exact z
            · exact z
          · exact z
        · exact z
theorem short_of {b : List UInt8} (h : b.length ≤ 1000) : ∀ t v k, decT b = .ok (.cons t v k .nil) → shortT k := by
  intro t v k hd
  obtain ⟨_, _, d3, _⟩ := decT_ok hd
  simp only [Tl.wt] at d3
  exact shortT_wt k (by omega)
theorem short_enc {f : Fi} (h : chkF f = 0) : ∀ t v k, decT (encFi f).1 = .ok (.cons t v k .nil) → shortT k := by
  intro t v k hd
  obtain ⟨ok, a1, a2, a3⟩ := encFi_ok (by rw [encFi_err]; exact h)
  rw [a3, decT_put a1 a2] at hd
  have h3 := Except.ok.inj hd
  rw [Tl.cons.injEq] at h3
  rw [← h3.2.2.1]
  exact shortT_pT _ (parts_all ok).1
theorem vRoundTrip_eq (f : Fi) (g : ArgF N f) (b : List UInt8) : s_vRoundTrip N f.id f.kind f.name f.short f.size f.length f.recs f.state (rE f.rules) b = some true := by
  have hb := g.big
  unfold s_vRoundTrip
  rw [vfew_eq N f g, bnd1_mk, awake_eq N hb, br_not]
  cases h : fewF f with
  | false => rfl
  | true =>
  obtain ⟨g1, n1⟩ := goodF N g h
  rw [br_t, br_dec]
  by_cases c : 600 < (b.length : Int)
  · rw [if_pos c]
  rw [if_neg c]
  have hs := short_of (b := b) (by omega)
  obtain ⟨s1, s2⟩ := decFi_small N (by omega) b hs
  have second : bnd10 (s_fDecode N b) (fun n15 n16 l17 n18 n19 n20 n21 n22 l23 n24 =>
      br (decide (n24 = 0))
        (bnd2 (s_fEncode N n15 n16 l17 n18 n19 n20 n21 n22 l23) fun l25 n26 => br (!decide (n26 = 0)) (some false) (bnd1 (s_oSame N l25 b) fun b27 => br (!b27) (some false) (bnd1 (some true) fun b28 => some b28)))
        (bnd1 (some true) fun b29 => some b29)) = some true := by
    rw [fDecode_eq N (by omega) b hs]
    unfold outF
    rw [bnd10_mk, br_dec]
    by_cases cd : (decFi b).2 = 0
    · rw [if_pos cd, fEncode_eq N (by omega) _ s1, decFi_ok cd, bnd2_mk, br_not, br_dec, if_pos rfl, oSame_eq N _ _ (by omega) (by omega) (by omega), bnd1_mk, decide_eq_true rfl]; rfl
    · rw [if_neg cd]; rfl
  rw [fEncode_eq N (by omega) f g1, fCheck_eq N (by omega) f g1]
  have e2 : ∀ {R : Type} (x : List UInt8 × Int) (K : List UInt8 → Int → Option R), bnd2 (some x) K = K x.1 x.2 := fun x K => rfl
  rw [e2, bnd1_mk, encFi_err]
  by_cases z : chkF f = 0
  · have hz : (!decide (chkF f = 0) == decide (chkF f = 0)) = false := by simp [z]
    rw [hz, br_f, br_dec, if_pos z, fDecode_eq N (by omega) _ (short_enc z), decFi_put z]
    unfold outF
    rw [bnd10_mk, br_not, br_dec, if_pos rfl, hSame_eq N f f g1 g1 n1 n1 (by omega), bnd1_mk, decide_eq_true rfl]
    exact second
  · have hz : (!decide (chkF f = 0) == decide (chkF f = 0)) = false := by simp [z]
    rw [hz, br_f, br_dec, if_neg z]
    exact second
end
end Go.Proofs.Ytllnklkjkjmjbaa.En

/- What the rows that decode headers lean on. -/
