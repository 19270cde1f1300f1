/- Several texts in one. -/
import Derived.Test.YtahemenhcoedgaaDoorH5
import Derived.Test.YtahemenhcoedgaaDoorRows
import Derived.ProofKit
import Derived.OpenShut
import Derived.ShutString
import Derived.ChangeOld
import Derived.Below
import Derived.Lib.SmallJoins
import Derived.Test.YtahemenhcoedgaaDoorCards
import Derived.Test.YtahemenhcoedgaaDoorTie
import Derived.LaidMore

set_option linter.unusedSimpArgs false
set_option linter.unusedVariables false
set_option linter.unusedSectionVars false
/- Encoding data objects: what the program and the reference compute. -/
namespace Go.Proofs.YtahemenhcoedgaaDoor.En
open Go
set_option linter.unusedVariables false
def Tl.isNil : Tl → Bool
  | .nil => true
  | _ => false
def okL : Int → Tl → Bool
  | _, .nil => true
  | d, .cons t v k r => (decide (d ≤ 8) && (tagV t && (bif tagC t then v.isEmpty && okL (d + 1) k else k.isNil))) && okL d r
def encL : Tl → List UInt8
  | .nil => []
  | .cons t v k r => (tagB t ++ lenB ((bif tagC t then encL k else v).length : Int) ++ (bif tagC t then encL k else v)) ++ encL r
theorem encL_cons (t : Int) (v : List UInt8) (k r : Tl) : encL (.cons t v k r) = (tagB t ++ lenB ((bif tagC t then encL k else v).length : Int) ++ (bif tagC t then encL k else v)) ++ encL r := by
  conv => lhs; unfold encL
theorem isNil_len (k : Tl) : k.isNil = decide (k.len = 0) := by cases k <;> simp [Tl.isNil, Tl.len]
theorem tagB_len (t : Int) : 1 ≤ (tagB t).length ∧ (tagB t).length ≤ 2 := by unfold tagB; split <;> simp
theorem lenB_len (n : Int) : 1 ≤ (lenB n).length ∧ (lenB n).length ≤ 3 := by unfold lenB; (repeat' split) <;> simp
section
variable (N : Nat) (n : Nat) (d : Int)
abbrev L63 (k : Tl) : Prop := k.len ≤ 9223372036854775807
theorem mid (pre : List V) (x : V) (suf : List V) : pre ++ x :: suf = (pre ++ [x]) ++ suf := by simp
/-- What a step through a list knows. -/
theorem stepI (pre : List V) (x : V) (suf : List V) (h : pre.length + (suf.length + 1) ≤ 9223372036854775807) :
    (pre.length : Int) < ((pre ++ x :: suf).length : Int) ∧ (0 : Int) ≤ pre.length ∧ IntKind.i64.wrap ((pre.length : Int) + 1) = ((pre ++ [x]).length : Int) ∧ ((pre ++ x :: suf).length : Int) = (((pre ++ [x]) ++ suf).length : Int) := by
  refine ⟨by simp; omega, by omega, ?_, by simp⟩
  rw [w64 (by omega) (by omega)]; simp
theorem endI (pre : List V) : ¬ ((pre.length : Int) < ((pre ++ ([] : List V)).length : Int)) := by simp
theorem IndexFuncV_loop (f : List V → Int → Option Bool) (hd : -9223372036854775808 ≤ d ∧ d ≤ 1000) (hf : ∀ (k : Tl), d ≤ 8 → k.nodes < n → k.wf → L63 k → f k.enc (d + 1) = some (okL (d + 1) k)) :
    ∀ (l : Tl) (pre : List V) (t : Nat), l.len < t → l.nodes ≤ n → l.wf → pre.length + l.len ≤ 9223372036854775807 →
      ∃ i, S_IndexFuncV_2 N f (pre ++ l.enc) ((pre ++ l.enc).length : Int) d t (pre.length : Int) (fun n0 => some n0) (some (-1)) = some i ∧ decide (0 ≤ i) = !okL d l
  | l, pre, 0, ht, _, _, _ => by omega
  | .nil, pre, t + 1, ht, _, _, _ => by
    unfold S_IndexFuncV_2 F_IndexFuncV_2
    simp only [Tl.enc, br_t, br_f, br_dec, br_not, br_and, br_or, bnd1_mk, bnd2_mk, bnd3_mk, bnd4_mk, bnd5_mk, at_zero, at_succ, at_mid, unInt_mk, unBool_mk, unStr_mk, unBytes_mk, unSl_mk, unAgg_mk, unCons_mk, unNil_mk, endI, if_false]
    exact ⟨-1, rfl, by simp [okL]⟩
  | .cons tg v k r, pre, t + 1, ht, hn, hw, hl => by
    simp only [Tl.len, Tl.nodes] at ht hn hl
    obtain ⟨ht1, hv, hk1, hk2, hr⟩ := hw
    obtain ⟨h1, h2, h3, h4⟩ := stepI pre (.agg [.int .i64 tg, .bytes v, .sl 67 k.enc]) r.enc (by rw [Tl.enc_len]; exact hl)
    obtain ⟨i, ih1, ih2⟩ := IndexFuncV_loop f hd hf r (pre ++ [.agg [.int .i64 tg, .bytes v, .sl 67 k.enc]]) t (by omega) (by omega) hr (by simp; omega)
    rw [← mid, ← h3] at ih1
    unfold S_IndexFuncV_2 F_IndexFuncV_2 s_valid1 C_valid1 okL
    simp only [Tl.enc, br_t, br_f, br_dec, br_not, br_and, br_or, bnd1_mk, bnd2_mk, bnd3_mk, bnd4_mk, bnd5_mk, at_zero, at_succ, at_mid, unInt_mk, unBool_mk, unStr_mk, unBytes_mk, unSl_mk, unAgg_mk, unCons_mk, unNil_mk, h1, h2, if_true, Int.toNat_natCast, Valid_eq N tg ht1, Constructed_eq N tg ht1]
    by_cases c1 : 8 < d
    · rw [if_pos c1]
      exact ⟨_, by rw [bnd1_mk, br_t], by simp; omega⟩
    · rw [if_neg c1]
      cases tagV tg with
      | false => exact ⟨_, by rw [br_f, bnd1_mk, br_t], by simp⟩
      | true =>
        rw [br_t]
        cases tagC tg with
        | false =>
          rw [br_f, bnd1_mk, br_dec, Tl.enc_len]
          by_cases c2 : (0 : Int) < (k.len : Int)
          · rw [if_pos c2]; refine ⟨_, rfl, ?_⟩; simp [isNil_len]; omega
          · rw [if_neg c2]; refine ⟨i, ih1, ?_⟩
            rw [ih2]
            have : k.len = 0 := by omega
            simp [isNil_len, this, (by omega : d ≤ 8)]
        | true =>
          rw [br_t]
          by_cases c2 : (0 : Int) < (v.length : Int)
          · rw [if_pos c2]
            refine ⟨_, by rw [bnd1_mk, br_t], ?_⟩
            cases v with
            | nil => simp at c2
            | cons a b => simp
          · rw [if_neg c2]
            have hv0 : v = [] := List.length_eq_zero_iff.1 (by omega)
            subst hv0
            rw [w64 (n := d + 1) (by omega) (by omega), hf k (by omega) (by omega) hk2 hk1, bnd1_mk, bnd1_mk]
            cases okL (d + 1) k with
            | false => refine ⟨_, rfl, by simp⟩
            | true => refine ⟨i, ih1, ?_⟩; rw [ih2]; simp [(by omega : d ≤ 8)]
theorem valid_eq (N : Nat) : ∀ (M : Nat) (l : Tl) (d : Int), l.nodes < M → l.nodes < N → l.wf → L63 l → -9223372036854775808 ≤ d ∧ d ≤ 1000 → s_valid N M l.enc d = some (okL d l)
  | 0, l, d, h, _, _, _, _ => by omega
  | M + 1, l, d, h, hN, hw, hl, hd => by
    have := l.len_le
    obtain ⟨i, h1, h2⟩ := IndexFuncV_loop N l.nodes d (s_valid N M) hd (fun k hd8 hk hkw hkl => valid_eq N M k (d + 1) (by omega) (by omega) hkw hkl (by omega)) l [] N (by omega) (Nat.le_refl _) hw (by simpa using hl)
    simp only [List.nil_append, List.length_nil, Int.natCast_zero] at h1
    unfold s_valid B_valid s_ContainsFuncV C_ContainsFuncV s_IndexFuncV C_IndexFuncV
    have h1' : S_IndexFuncV_2 N (s_valid N M) l.enc (l.enc.length : Int) d N 0 (fun n0 => some n0) (some (-1)) = some i := h1
    rw [h1', bnd1_mk, bnd1_mk, h2, Bool.not_not]
theorem rright_loop (f : List V → Int → Option Bool) (hd : -9223372036854775808 ≤ d ∧ d ≤ 1000) (hf : ∀ (k : Tl), d ≤ 8 → k.nodes < n → k.wf → L63 k → f k.enc (d + 1) = some (okL (d + 1) k)) :
    ∀ (l : Tl) (pre : List V) (t : Nat), l.len < t → l.nodes ≤ n → l.wf → pre.length + l.len ≤ 9223372036854775807 →
      S_rright_2 N f (pre ++ l.enc) d t (pre.length : Int) (fun b => some b) (some true) = some (okL d l)
  | l, pre, 0, ht, _, _, _ => by omega
  | .nil, pre, t + 1, ht, _, _, _ => by
    unfold S_rright_2 F_rright_2
    simp only [Tl.enc, br_t, br_f, br_dec, br_not, br_and, br_or, bnd1_mk, bnd2_mk, bnd3_mk, bnd4_mk, bnd5_mk, at_zero, at_succ, at_mid, unInt_mk, unBool_mk, unStr_mk, unBytes_mk, unSl_mk, unAgg_mk, unCons_mk, unNil_mk, endI, if_false, okL]
  | .cons tg v k r, pre, t + 1, ht, hn, hw, hl => by
    simp only [Tl.len, Tl.nodes] at ht hn hl
    obtain ⟨ht1, hv, hk1, hk2, hr⟩ := hw
    obtain ⟨h1, h2, h3, h4⟩ := stepI pre (.agg [.int .i64 tg, .bytes v, .sl 67 k.enc]) r.enc (by rw [Tl.enc_len]; exact hl)
    have ih := rright_loop f hd hf r (pre ++ [.agg [.int .i64 tg, .bytes v, .sl 67 k.enc]]) t (by omega) (by omega) hr (by simp; omega)
    rw [← mid, ← h3] at ih
    unfold S_rright_2 F_rright_2 okL
    simp only [Tl.enc, br_t, br_f, br_dec, br_not, br_and, br_or, bnd1_mk, bnd2_mk, bnd3_mk, bnd4_mk, bnd5_mk, at_zero, at_succ, at_mid, unInt_mk, unBool_mk, unStr_mk, unBytes_mk, unSl_mk, unAgg_mk, unCons_mk, unNil_mk, h1, h2, if_true, Int.toNat_natCast, rValid_eq N tg ht1, rConstructed_eq N tg ht1]
    by_cases c1 : 8 < d
    · rw [if_pos c1]; simp; omega
    · rw [if_neg c1]
      have c1' : d ≤ 8 := by omega
      simp only [c1', decide_true, Bool.true_and]
      cases tagV tg with
      | false => rfl
      | true =>
        rw [br_t]
        cases tagC tg with
        | false =>
          simp only [br_f, Tl.enc_len, cond_false, Bool.true_and]
          by_cases c2 : (0 : Int) < (k.len : Int)
          · rw [if_pos c2]; simp [isNil_len]; omega
          · rw [if_neg c2, ih]
            have : k.len = 0 := by omega
            simp [isNil_len, this]
        | true =>
          simp only [br_t, cond_true, Bool.true_and]
          by_cases c2 : (0 : Int) < (v.length : Int)
          · rw [if_pos c2]
            cases v with
            | nil => simp at c2
            | cons a b => rfl
          · rw [if_neg c2]
            have hv0 : v = [] := List.length_eq_zero_iff.1 (by omega)
            subst hv0
            rw [w64 (n := d + 1) (by omega) (by omega), hf k c1' (by omega) hk2 hk1, bnd1_mk]
            cases okL (d + 1) k with
            | false => rfl
            | true => rw [br_t, ih]; rfl
theorem rright_eq (N : Nat) : ∀ (M : Nat) (l : Tl) (d : Int), l.nodes < M → l.nodes < N → l.wf → L63 l → -9223372036854775808 ≤ d ∧ d ≤ 1000 → s_rright N M l.enc d = some (okL d l)
  | 0, l, d, h, _, _, _, _ => by omega
  | M + 1, l, d, h, hN, hw, hl, hd => by
    have := l.len_le
    exact rright_loop N l.nodes d (s_rright N M) hd (fun k hd8 hk hkw hkl => rright_eq N M k (d + 1) (by omega) (by omega) hkw hkl (by omega)) l [] N (by omega) (Nat.le_refl _) hw (by simpa using hl)
/-! size -/
theorem size_loop (f : List V → Option Int)
    (hf : ∀ (k : Tl), k.nodes < n → k.wf → L63 k → k.wt ≤ 20000 → okL (d + 1) k = true → ∃ s, f k.enc = some s ∧ (((encL k).length : Int) ≤ 4096 → s = (encL k).length) ∧ (4096 < ((encL k).length : Int) → 4096 < s) ∧ 0 ≤ s ∧ s ≤ 5 * k.wt) :
    ∀ (l : Tl) (pre : List V) (t : Nat) (n0 : Int), l.len < t → l.nodes ≤ n → l.wf → pre.length + l.len ≤ 9223372036854775807 → l.wt ≤ 20000 → okL d l = true → 0 ≤ n0 → n0 ≤ 4096 →
      ∃ s, S_size_3 N f (pre ++ l.enc) ((pre ++ l.enc).length : Int) t n0 (pre.length : Int) (fun n0 => some n0) = some s ∧ (n0 + (encL l).length ≤ 4096 → s = n0 + (encL l).length) ∧ (4096 < n0 + (encL l).length → 4096 < s) ∧ n0 ≤ s ∧ s ≤ n0 + 5 * l.wt
  | l, pre, 0, n0, ht, _, _, _, _, _, _, _ => by omega
  | .nil, pre, t + 1, n0, ht, _, _, _, _, _, _, _ => by
    unfold S_size_3 F_size_3
    simp only [Tl.enc, br_t, br_f, br_dec, br_not, br_and, br_or, bnd1_mk, bnd2_mk, bnd3_mk, bnd4_mk, bnd5_mk, at_zero, at_succ, at_mid, unInt_mk, unBool_mk, unStr_mk, unBytes_mk, unSl_mk, unAgg_mk, unCons_mk, unNil_mk, endI, if_false]
    exact ⟨n0, rfl, fun _ => by simp [encL], fun h => by simp [encL] at h; omega, Int.le_refl _, by omega⟩
  | .cons tg v k r, pre, t + 1, n0, ht, hn, hw, hl, hwt, hok, hn0, hn1 => by
    simp only [Tl.len, Tl.nodes, Tl.wt] at ht hn hl hwt
    obtain ⟨ht1, hv, hk1, hk2, hr⟩ := hw
    obtain ⟨h1, h2, h3, h4⟩ := stepI pre (.agg [.int .i64 tg, .bytes v, .sl 67 k.enc]) r.enc (by rw [Tl.enc_len]; exact hl)
    unfold okL at hok
    simp only [Bool.and_eq_true] at hok
    obtain ⟨⟨hd8, htv, hb⟩, hokr⟩ := hok
    -- the kids
    have hkid : ∃ s, f k.enc = some s ∧ (((bif tagC tg then encL k else v).length : Int) ≤ 4096 → (v.length : Int) + s = (bif tagC tg then encL k else v).length) ∧ (4096 < ((bif tagC tg then encL k else v).length : Int) → 4096 < (v.length : Int) + s) ∧ 0 ≤ s ∧ s ≤ 5 * k.wt := by
      cases hc : tagC tg with
      | true =>
        rw [hc] at hb
        simp only [cond_true, Bool.and_eq_true] at hb
        have hv0 : v = [] := by cases v with | nil => rfl | cons a b => simp at hb
        subst hv0
        obtain ⟨s, s1, s2, s3, s4, s5⟩ := hf k (by omega) hk2 hk1 (by omega) hb.2
        exact ⟨s, s1, fun h => by rw [s2 h]; simp, fun h => by have := s3 h; simp; omega, s4, s5⟩
      | false =>
        rw [hc] at hb
        simp only [cond_false] at hb
        have hk0 : k = .nil := by cases k with | nil => rfl | cons a b c d => simp [Tl.isNil] at hb
        subst hk0
        obtain ⟨s, s1, s2, s3, s4, s5⟩ := hf .nil (by have : Tl.nil.nodes = 0 := rfl; omega) trivial (Nat.zero_le _) (Nat.zero_le _) rfl
        have hs0 : s = 0 := by have := s2 (by simp [encL]); simpa [encL] using this
        subst hs0
        exact ⟨0, s1, fun h => Int.add_zero _, fun h => by rw [Int.add_zero]; exact h, Int.le_refl _, by omega⟩
    obtain ⟨s, s1, s2, s3, s4, s5⟩ := hkid
    have hE : (encL (.cons tg v k r)).length = (tagB tg).length + (lenB ((bif tagC tg then encL k else v).length : Int)).length + (bif tagC tg then encL k else v).length + (encL r).length := by
      rw [encL_cons]; simp only [List.length_append]
    rw [hE]
    generalize hB : (bif tagC tg then encL k else v) = B at *
    have ht2 := tagB_len tg
    have hl2 := lenB_len ((v.length : Int) + s)
    have hl3 := lenB_len (B.length : Int)
    unfold S_size_3 F_size_3
    have w1 : IntKind.i64.wrap ((v.length : Int) + s) = v.length + s := w64 (by omega) (by omega)
    simp only [Tl.enc, br_t, br_f, br_dec, br_not, br_and, br_or, bnd1_mk, bnd2_mk, bnd3_mk, bnd4_mk, bnd5_mk, at_zero, at_succ, at_mid, unInt_mk, unBool_mk, unStr_mk, unBytes_mk, unSl_mk, unAgg_mk, unCons_mk, unNil_mk, h1, h2, if_true, Int.toNat_natCast, s1, tagBytes_eq, w1, lengthBytes_eq]
    have w2 : IntKind.i64.wrap (((tagB tg).length : Int) + ((lenB ((v.length : Int) + s)).length : Int)) = (tagB tg).length + (lenB ((v.length : Int) + s)).length := w64 (by omega) (by omega)
    rw [w2]
    have w3 : IntKind.i64.wrap (((tagB tg).length : Int) + ((lenB ((v.length : Int) + s)).length : Int) + ((v.length : Int) + s)) = (tagB tg).length + (lenB ((v.length : Int) + s)).length + (v.length + s) := w64 (by omega) (by omega)
    rw [w3]
    have w4 : IntKind.i64.wrap (n0 + (((tagB tg).length : Int) + ((lenB ((v.length : Int) + s)).length : Int) + ((v.length : Int) + s))) = n0 + ((tagB tg).length + (lenB ((v.length : Int) + s)).length + (v.length + s)) := w64 (by omega) (by omega)
    rw [w4]
    by_cases c1 : 4096 < n0 + (((tagB tg).length : Int) + ((lenB ((v.length : Int) + s)).length : Int) + ((v.length : Int) + s))
    · rw [if_pos c1]
      refine ⟨_, rfl, fun h => ?_, fun _ => c1, by omega, by simp only [Tl.wt]; omega⟩
      exfalso
      have e1 := s2 (by omega)
      rw [e1] at c1
      omega
    · rw [if_neg c1]
      have e1 : (v.length : Int) + s = B.length := by
        by_cases hb4 : (B.length : Int) ≤ 4096
        · exact s2 hb4
        · have := s3 (by omega); omega
      rw [e1] at c1 ⊢
      obtain ⟨q, q1, q2, q3, q4, q5⟩ := size_loop f hf r (pre ++ [.agg [.int .i64 tg, .bytes v, .sl 67 k.enc]]) t (n0 + (((tagB tg).length : Int) + ((lenB (B.length : Int)).length : Int) + (B.length : Int))) (by omega) (by omega) hr (by simp; omega) (by omega) hokr (by omega) (by omega)
      rw [← mid, ← h3] at q1
      refine ⟨q, q1, fun h => by rw [q2 (by omega)]; omega, fun h => q3 (by omega), by omega, by simp only [Tl.wt]; omega⟩
theorem size_eq (N : Nat) : ∀ (M : Nat) (l : Tl) (d : Int), l.nodes < M → l.nodes < N → l.wf → L63 l → l.wt ≤ 20000 → okL d l = true →
    ∃ s, s_size N M l.enc = some s ∧ (((encL l).length : Int) ≤ 4096 → s = (encL l).length) ∧ (4096 < ((encL l).length : Int) → 4096 < s) ∧ 0 ≤ s ∧ s ≤ 5 * l.wt
  | 0, l, d, h, _, _, _, _, _ => by omega
  | M + 1, l, d, h, hN, hw, hl, hwt, hok => by
    have := l.len_le
    obtain ⟨s, s1, s2, s3, s4, s5⟩ := size_loop N l.nodes d (s_size N M) (fun k hk hkw hkl hkwt hkok => size_eq N M k (d + 1) (by omega) (by omega) hkw hkl hkwt hkok) l [] N 0 (by omega) (Nat.le_refl _) hw (by simpa using hl) hwt hok (by omega) (by omega)
    unfold s_size B_size
    refine ⟨s, s1, fun h => by rw [s2 (by omega)]; omega, fun h => s3 (by omega), by omega, by omega⟩
/-! encode, all -/
theorem concat4 (a b c e : List UInt8) (h : a.length + b.length + c.length + e.length ≤ 1000000) : s_concat N [.bytes a, .bytes b, .bytes c, .bytes e] = some (a ++ (b ++ c ++ e)) := by
  unfold s_concat
  simp only [flatB, Option.bind_some, br_dec]
  rw [if_pos (by simp; omega)]
  simp
theorem encode_loop (f : List V → Option (List UInt8)) (hf : ∀ (k : Tl), k.nodes < n → k.wf → L63 k → (encL k).length ≤ 4096 → f k.enc = some (encL k)) :
    ∀ (l : Tl) (pre : List V) (t : Nat) (acc : List UInt8), l.len < t → l.nodes ≤ n → l.wf → pre.length + l.len ≤ 9223372036854775807 → acc.length + (encL l).length ≤ 4096 →
      S_encode_3 N f (pre ++ l.enc) ((pre ++ l.enc).length : Int) t acc (pre.length : Int) (fun l0 => some l0) = some (acc ++ encL l)
  | l, pre, 0, acc, ht, _, _, _, _ => by omega
  | .nil, pre, t + 1, acc, ht, _, _, _, _ => by
    unfold S_encode_3 F_encode_3
    simp only [Tl.enc, br_t, br_f, br_dec, br_not, br_and, br_or, bnd1_mk, bnd2_mk, bnd3_mk, bnd4_mk, bnd5_mk, at_zero, at_succ, at_mid, unInt_mk, unBool_mk, unStr_mk, unBytes_mk, unSl_mk, unAgg_mk, unCons_mk, unNil_mk, endI, if_false]
    simp [encL]
  | .cons tg v k r, pre, t + 1, acc, ht, hn, hw, hl, hE => by
    simp only [Tl.len, Tl.nodes] at ht hn hl
    obtain ⟨ht1, hv, hk1, hk2, hr⟩ := hw
    obtain ⟨h1, h2, h3, h4⟩ := stepI pre (.agg [.int .i64 tg, .bytes v, .sl 67 k.enc]) r.enc (by rw [Tl.enc_len]; exact hl)
    rw [encL_cons] at hE ⊢
    have ht2 := tagB_len tg
    unfold S_encode_3 F_encode_3
    simp only [Tl.enc, br_t, br_f, br_dec, br_not, br_and, br_or, bnd1_mk, bnd2_mk, bnd3_mk, bnd4_mk, bnd5_mk, at_zero, at_succ, at_mid, unInt_mk, unBool_mk, unStr_mk, unBytes_mk, unSl_mk, unAgg_mk, unCons_mk, unNil_mk, h1, h2, if_true, Int.toNat_natCast, Constructed_eq N tg ht1, tagBytes_eq, lengthBytes_eq]
    generalize hB : (bif tagC tg then encL k else v) = B at *
    simp only [List.length_append] at hE
    have ih := encode_loop f hf r (pre ++ [.agg [.int .i64 tg, .bytes v, .sl 67 k.enc]]) t (acc ++ (tagB tg ++ lenB (B.length : Int) ++ B)) (by omega) (by omega) hr (by simp; omega) (by simp; omega)
    rw [← mid, ← h3] at ih
    cases hc : tagC tg with
    | true =>
      rw [hc] at hB
      simp only [cond_true] at hB
      subst hB
      rw [br_t, hf k (by omega) hk2 hk1 (by omega), bnd1_mk, concat4 N _ _ _ _ (by omega), bnd1_mk, ih]; simp
    | false =>
      rw [hc] at hB
      simp only [cond_false] at hB
      subst hB
      rw [br_f, concat4 N _ _ _ _ (by omega), bnd1_mk, ih]; simp
theorem encode_eq (N : Nat) : ∀ (M : Nat) (l : Tl), l.nodes < M → l.nodes < N → l.wf → L63 l → (encL l).length ≤ 4096 → s_encode N M l.enc = some (encL l)
  | 0, l, h, _, _, _, _ => by omega
  | M + 1, l, h, hN, hw, hl, hE => by
    have := l.len_le
    exact encode_loop N l.nodes (s_encode N M) (fun k hk hkw hkl hkE => encode_eq N M k (by omega) (by omega) hkw hkl hkE) l [] N [] (by omega) (Nat.le_refl _) hw (by simpa using hl) (by simpa using hE)
/-- Encode -/
def encR (l : Tl) : List UInt8 × Int := if okL 1 l = true then (if (encL l).length ≤ 4096 then (encL l, 0) else ([], 3)) else ([], 1)
theorem Encode_eq (l : Tl) (h : l.nodes < N) (hw : l.wf) (hl : L63 l) (hwt : l.wt ≤ 20000) : s_Encode N l.enc = some (encR l) := by
  unfold s_Encode encR
  rw [valid_eq N N l 1 h h hw hl (by omega), bnd1_mk, br_not]
  cases hok : okL 1 l with
  | false => rfl
  | true =>
    obtain ⟨s, s1, s2, s3, s4, s5⟩ := size_eq N N l 1 h h hw hl hwt hok
    simp only [br_t, if_true, s1, bnd1_mk, br_dec]
    by_cases hE : (encL l).length ≤ 4096
    · rw [if_pos hE, s2 (by omega), if_neg (by omega), encode_eq N N l h h hw hl hE, bnd1_mk]
    · rw [if_neg hE, if_pos (s3 (by omega))]
theorem rall_loop (f : List V → Option (List UInt8 × Bool)) (hf : ∀ (k : Tl), k.nodes < n → k.wf → L63 k → okL (d + 1) k = true → k.wt ≤ 20000 → f k.enc = some (if (encL k).length ≤ 4096 then (encL k, true) else ([], false))) :
    ∀ (l : Tl) (pre : List V) (t : Nat) (acc : List UInt8), l.len < t → l.nodes ≤ n → l.wf → pre.length + l.len ≤ 9223372036854775807 → okL d l = true → l.wt ≤ 20000 → acc.length ≤ 4096 →
      S_rall_3 N f (pre ++ l.enc) t acc (pre.length : Int) (fun l0 b1 l2 => some (l0, b1)) (fun l3 => some (l3, true)) = some (if acc.length + (encL l).length ≤ 4096 then (acc ++ encL l, true) else ([], false))
  | l, pre, 0, acc, ht, _, _, _, _, _, _ => by omega
  | .nil, pre, t + 1, acc, ht, _, _, _, _, _, ha => by
    unfold S_rall_3 F_rall_3
    simp only [Tl.enc, br_t, br_f, br_dec, br_not, br_and, br_or, bnd1_mk, bnd2_mk, bnd3_mk, bnd4_mk, bnd5_mk, at_zero, at_succ, at_mid, unInt_mk, unBool_mk, unStr_mk, unBytes_mk, unSl_mk, unAgg_mk, unCons_mk, unNil_mk, endI, if_false]
    simp [encL, ha]
  | .cons tg v k r, pre, t + 1, acc, ht, hn, hw, hl, hok, hwt, ha => by
    simp only [Tl.len, Tl.nodes, Tl.wt] at ht hn hl hwt
    obtain ⟨ht1, hv, hk1, hk2, hr⟩ := hw
    obtain ⟨h1, h2, h3, h4⟩ := stepI pre (.agg [.int .i64 tg, .bytes v, .sl 67 k.enc]) r.enc (by rw [Tl.enc_len]; exact hl)
    unfold okL at hok
    simp only [Bool.and_eq_true] at hok
    obtain ⟨⟨hd8, htv, hb⟩, hokr⟩ := hok
    have htr := tagV_range htv
    rw [encL_cons]
    have ht2 := tagB_len tg
    unfold S_rall_3 F_rall_3
    simp only [Tl.enc, br_t, br_f, br_dec, br_not, br_and, br_or, bnd1_mk, bnd2_mk, bnd3_mk, bnd4_mk, bnd5_mk, at_zero, at_succ, at_mid, unInt_mk, unBool_mk, unStr_mk, unBytes_mk, unSl_mk, unAgg_mk, unCons_mk, unNil_mk, h1, h2, if_true, Int.toNat_natCast, rConstructed_eq N tg ht1]
    have fin : ∀ (B : List UInt8), B.length ≤ 4096 → (bnd1 (s_rhead N tg (B.length : Int)) fun l59 =>
        if (acc.length + l59.length) * 1 ≤ 140737488355328 then
          if ((acc ++ l59).length + B.length) * 1 ≤ 140737488355328 then
            if 4096 < ((acc ++ l59 ++ B).length : Int) then some ([], false) else S_rall_3 N f (pre ++ .agg [.int .i64 tg, .bytes v, .sl 67 k.enc] :: r.enc) t (acc ++ l59 ++ B) (IntKind.i64.wrap ((pre.length : Int) + 1)) (fun l0 b1 l2 => some (l0, b1)) (fun l3 => some (l3, true))
          else none
        else none) = some (if acc.length + (tagB tg ++ lenB (B.length : Int) ++ B ++ encL r).length ≤ 4096 then (acc ++ (tagB tg ++ lenB (B.length : Int) ++ B ++ encL r), true) else ([], false)) := by
      intro B hB
      have hl2 := lenB_len (B.length : Int)
      rw [rhead_eq N tg _ (by omega) (by omega), bnd1_mk]
      simp only [List.length_append]
      rw [if_pos (by omega), if_pos (by omega)]
      by_cases c : 4096 < acc.length + ((tagB tg).length + (lenB (B.length : Int)).length) + B.length
      · rw [if_pos (by omega), if_neg (by omega)]
      · rw [if_neg (by omega)]
        have ih := rall_loop f hf r (pre ++ [.agg [.int .i64 tg, .bytes v, .sl 67 k.enc]]) t (acc ++ (tagB tg ++ lenB (B.length : Int)) ++ B) (by omega) (by omega) hr (by simp; omega) hokr (by omega) (by simp; omega)
        rw [← mid, ← h3] at ih
        rw [ih]
        simp only [List.length_append, List.append_assoc]
        congr 1
        by_cases c2 : acc.length + ((tagB tg).length + ((lenB (B.length : Int)).length + (B.length + (encL r).length))) ≤ 4096
        · rw [if_pos (by omega), if_pos (by omega)]
        · rw [if_neg (by omega), if_neg (by omega)]
    cases hc : tagC tg with
    | true =>
      rw [hc] at hb
      simp only [cond_true, Bool.and_eq_true] at hb
      rw [br_t, hf k (by omega) hk2 hk1 hb.2 (by omega)]
      simp only [cond_true]
      by_cases cE : (encL k).length ≤ 4096
      · rw [if_pos cE, bnd2_mk, br_t, if_neg (by omega)]
        exact fin (encL k) cE
      · rw [if_neg cE, bnd2_mk, br_f, if_neg (by simp only [List.length_append]; omega)]
    | false =>
      rw [br_f]
      simp only [cond_false]
      by_cases cE : v.length ≤ 4096
      · rw [if_neg (by omega)]
        exact fin v cE
      · rw [if_pos (by omega), if_neg (by simp only [List.length_append]; omega)]
theorem rall_eq (N : Nat) : ∀ (M : Nat) (l : Tl) (d : Int), l.nodes < M → l.nodes < N → l.wf → L63 l → okL d l = true → l.wt ≤ 20000 → s_rall N M l.enc = some (if (encL l).length ≤ 4096 then (encL l, true) else ([], false))
  | 0, l, d, h, _, _, _, _, _ => by omega
  | M + 1, l, d, h, hN, hw, hl, hok, hwt => by
    have := l.len_le
    have := rall_loop N l.nodes d (s_rall N M) (fun k hk hkw hkl hkok hkwt => rall_eq N M k (d + 1) (by omega) (by omega) hkw hkl hkok hkwt) l [] N [] (by omega) (Nat.le_refl _) hw (by simpa using hl) hok hwt (by simp)
    unfold s_rall B_rall
    simpa using this
theorem rEncode_eq (l : Tl) (h : l.nodes < N) (hw : l.wf) (hl : L63 l) (hwt : l.wt ≤ 20000) : s_rEncode N l.enc = some (encR l) := by
  unfold s_rEncode s_rRight encR
  rw [rright_eq N N l 1 h h hw hl (by omega), bnd1_mk, bnd1_mk, br_not]
  cases hok : okL 1 l with
  | false => rfl
  | true =>
    rw [br_t, rall_eq N N l 1 h h hw hl hok hwt]
    simp only [if_true]
    by_cases hE : (encL l).length ≤ 4096
    · rw [if_pos hE, if_pos hE]; rfl
    · rw [if_neg hE, if_neg hE]; rfl
end
end Go.Proofs.YtahemenhcoedgaaDoor.En

/- Conditions: which are valid, how long, how deep, satisfied: the program and the reference. -/
namespace Go.Proofs.YtahemenhcoedgaaDoor.En
open Go
set_option linter.unusedVariables false
abbrev ce (o m : Int) (k : Cl) : V := .agg [.int .i64 o, .int .i64 m, .sl 24 k.enc]
abbrev K63 (k : Cl) : Prop := k.len ≤ 9223372036854775807
theorem enc_cons (o m : Int) (k r : Cl) : (Cl.cons o m k r).enc = ce o m k :: r.enc := rfl
theorem stepC (pre : List V) (x : V) (r : Cl) (h : pre.length + (r.len + 1) ≤ 9223372036854775807) :
    (pre.length : Int) < ((pre ++ x :: r.enc).length : Int) ∧ (0 : Int) ≤ pre.length ∧ IntKind.i64.wrap ((pre.length : Int) + 1) = ((pre ++ [x]).length : Int) ∧ ((pre ++ x :: r.enc).length : Int) = (((pre ++ [x]) ++ r.enc).length : Int) :=
  stepI pre x r.enc (by rw [Cl.enc_len]; exact h)
section
variable (N : Nat)
theorem andNot_eq {m : Int} (h1 : 1 ≤ m) (h2 : m ≤ 51) : decide (bitsI BinOp.andNot IntKind.i64 m 51 = 0) = decide (bitsI BinOp.and IntKind.i64 51 m = m) := by
  have key : ∀ n : Fin 52, decide (bitsI BinOp.andNot IntKind.i64 (n.val : Int) 51 = 0) = decide (bitsI BinOp.and IntKind.i64 51 (n.val : Int) = (n.val : Int)) := by decide +kernel
  obtain ⟨k, rfl⟩ := Int.eq_ofNat_of_zero_le (by omega : 0 ≤ m)
  exact key ⟨k, by omega⟩
theorem IndexFuncA_loop (f : Int → Int → List V → Int → Option Bool) (n : Nat) (d : Int) (hf : ∀ (o m : Int) (k : Cl) (d : Int), k.nodes < n → k.wf → K63 k → f o m k.enc d = some (vC o m k)) :
    ∀ (l : Cl) (pre : List V) (t : Nat), l.len < t → l.nodes ≤ n → l.wf → pre.length + l.len ≤ 9223372036854775807 →
      ∃ i, S_IndexFuncA_2 N f (pre ++ l.enc) ((pre ++ l.enc).length : Int) d t (pre.length : Int) (fun n0 => some n0) (some (-1)) = some i ∧ decide (0 ≤ i) = !vL l
  | l, pre, 0, ht, _, _, _ => by omega
  | .nil, pre, t + 1, ht, _, _, _ => by
    unfold S_IndexFuncA_2 F_IndexFuncA_2
    simp only [Cl.enc, br_t, br_f, br_dec, br_not, br_and, br_or, bnd1_mk, bnd2_mk, bnd3_mk, bnd4_mk, bnd5_mk, at_zero, at_succ, at_mid, unInt_mk, unBool_mk, unStr_mk, unBytes_mk, unSl_mk, unAgg_mk, unCons_mk, unNil_mk, endI, if_false]
    exact ⟨-1, rfl, by simp [vL]⟩
  | .cons o m k r, pre, t + 1, ht, hn, hw, hl => by
    simp only [Cl.len, Cl.nodes] at ht hn hl
    obtain ⟨_, _, hk1, hk2, hr⟩ := hw
    obtain ⟨h1, h2, h3, h4⟩ := stepC pre (ce o m k) r hl
    obtain ⟨i, ih1, ih2⟩ := IndexFuncA_loop f n d hf r (pre ++ [ce o m k]) t (by omega) (by omega) hr (by simp; omega)
    rw [← mid, ← h3] at ih1
    unfold S_IndexFuncA_2 F_IndexFuncA_2 s_avalid1 C_avalid1
    rw [vL_cons]
    simp only [enc_cons, br_t, br_f, br_dec, br_not, br_and, br_or, bnd1_mk, bnd2_mk, bnd3_mk, bnd4_mk, bnd5_mk, at_zero, at_succ, at_mid, unInt_mk, unBool_mk, unStr_mk, unBytes_mk, unSl_mk, unAgg_mk, unCons_mk, unNil_mk, h1, h2, if_true, Int.toNat_natCast, hf o m k _ (by omega) hk2 hk1]
    cases vC o m k with
    | false => exact ⟨_, rfl, by simp⟩
    | true => exact ⟨i, ih1, by rw [ih2]; rfl⟩
theorem avalid_eq : ∀ (M : Nat) (o m : Int) (k : Cl) (d : Int), k.nodes < M → k.nodes < N → k.wf → K63 k → s_avalid N M o m k.enc d = some (vC o m k)
  | 0, o, m, k, d, h, _, _, _ => by omega
  | M + 1, o, m, k, d, h, hN, hw, hl => by
    have hln := Cl.len_le k
    obtain ⟨i, i1, i2⟩ := IndexFuncA_loop N (s_avalid N M) k.nodes d (fun o m k' d' a1 a2 a3 => avalid_eq M o m k' d' (by omega) (by omega) a2 a3) k [] N (by omega) (Nat.le_refl _) hw (by simpa using hl)
    have i1' : S_IndexFuncA_2 N (s_avalid N M) k.enc (k.enc.length : Int) d N 0 (fun n0 => some n0) (some (-1)) = some i := i1
    have hz : ((k.enc.length : Int) = 0) = (k.len = 0) := by rw [Cl.enc_len]; exact propext (by omega)
    have hp : ((0 : Int) < (k.enc.length : Int)) = (k.len ≠ 0) := by rw [Cl.enc_len]; exact propext (by omega)
    have hc : s_ContainsFuncA N (s_avalid N M) k.enc d = some (!vL k) := by
      unfold s_ContainsFuncA C_ContainsFuncA s_IndexFuncA C_IndexFuncA
      rw [i1', bnd1_mk]
      exact congrArg some i2
    have hv0 : k.len = 0 → vL k = true := by cases k <;> simp [Cl.len, vL]
    unfold s_avalid B_avalid
    simp only [hc, hz, hp, s_forms, bnd1_mk, br_dec, br_not, Bool.not_not, vC, vL, Bool.and_true]
    by_cases h0 : o < 0
    · rw [if_pos h0, if_neg (by omega), if_neg (by omega), if_neg (by omega), if_neg (by omega), if_neg (by omega)]
    rw [if_neg h0]
    by_cases h9 : 7 < o
    · rw [if_pos h9, if_neg (by omega), if_neg (by omega), if_neg (by omega), if_neg (by omega), if_neg (by omega)]
    rw [if_neg h9]
    rcases (by omega : o = 0 ∨ o = 1 ∨ o = 2 ∨ o = 3 ∨ o = 4 ∨ o = 5 ∨ o = 6 ∨ o = 7) with rfl | rfl | rfl | rfl | rfl | rfl | rfl | rfl
    · by_cases hm : m = 0 <;> by_cases hk : k.len = 0 <;> simp [hm, hk, hv0]
    · by_cases hm : m = 0 <;> by_cases hk : k.len = 0 <;> simp [hm, hk, hv0]
    · by_cases ha : m < 1 <;> by_cases hb : 8 < m <;> by_cases hk : k.len = 0 <;> simp [ha, hb, hk, hv0] <;> omega
    · by_cases ha : m < 1 <;> by_cases hb : 8 < m <;> by_cases hk : k.len = 0 <;> simp [ha, hb, hk, hv0] <;> omega
    · by_cases ha : m < 1 <;> by_cases hb : 5 < m <;> by_cases hk : k.len = 0 <;> simp [ha, hb, hk, hv0] <;> omega
    · by_cases ha : m < 1
      · simp [ha]; omega
      by_cases hb : 51 < m
      · have : ¬ bitsI BinOp.and IntKind.i64 51 m = m := fun e => by have := level_range (by omega) e; omega
        simp [ha, hb, this]
      have he := andNot_eq (m := m) (by omega) (by omega)
      rw [decide_eq_decide] at he
      by_cases hk : k.len = 0
      · by_cases hx : bitsI BinOp.and IntKind.i64 51 m = m
        · simp [ha, hb, hk, hv0, hx, he.2 hx]; omega
        · simp [ha, hb, hk, hv0, hx, he]
      · simp [ha, hb, hk]
    · by_cases hm : m = 0 <;> by_cases hk : k.len = 0 <;> simp [hm, hk]
    · by_cases hm : m = 0 <;> by_cases hk : k.len = 0 <;> simp [hm, hk]
/-! Nodes, depth -/
theorem measure_loop {R : Type} (f : Int → Int → List V → Option (Int × Int)) (n : Nat) (hf : ∀ (o m : Int) (k : Cl), k.nodes < n → k.wf → K63 k → f o m k.enc = some ((k.nodes : Int) + 1, (k.dep : Int) + 1)) (x y : Int) (z : List V) (K : Int → Int → Option R) :
    ∀ (l : Cl) (pre : List V) (t : Nat) (a b : Nat), l.len < t → l.nodes ≤ n → l.wf → pre.length + l.len ≤ 9223372036854775807 → a + l.nodes ≤ 10000 →
      S_measure_3 N f (pre ++ l.enc) ((pre ++ l.enc).length : Int) x y z t (a : Int) (b : Int) (pre.length : Int) K = K ((a + l.nodes : Nat) : Int) ((max b l.dep : Nat) : Int)
  | l, pre, 0, a, b, ht, _, _, _, _ => by omega
  | .nil, pre, t + 1, a, b, ht, _, _, _, _ => by
    unfold S_measure_3 F_measure_3
    simp only [Cl.enc, br_t, br_f, br_dec, br_not, br_and, br_or, bnd1_mk, bnd2_mk, bnd3_mk, bnd4_mk, bnd5_mk, at_zero, at_succ, at_mid, unInt_mk, unBool_mk, unStr_mk, unBytes_mk, unSl_mk, unAgg_mk, unCons_mk, unNil_mk, endI, if_false]
    simp [Cl.nodes, Cl.dep]
  | .cons o m k r, pre, t + 1, a, b, ht, hn, hw, hl, ha => by
    simp only [Cl.len, Cl.nodes] at ht hn hl ha
    obtain ⟨_, _, hk1, hk2, hr⟩ := hw
    obtain ⟨h1, h2, h3, h4⟩ := stepC pre (ce o m k) r hl
    have ih := measure_loop f n hf x y z K r (pre ++ [ce o m k]) t (a + (k.nodes + 1)) (max b (k.dep + 1)) (by omega) (by omega) hr (by simp; omega) (by omega)
    rw [← mid, ← h3] at ih
    unfold S_measure_3 F_measure_3
    simp only [enc_cons, br_t, br_f, br_dec, br_not, br_and, br_or, bnd1_mk, bnd2_mk, bnd3_mk, bnd4_mk, bnd5_mk, at_zero, at_succ, at_mid, unInt_mk, unBool_mk, unStr_mk, unBytes_mk, unSl_mk, unAgg_mk, unCons_mk, unNil_mk, h1, h2, if_true, Int.toNat_natCast, hf o m k (by omega) hk2 hk1]
    have e1 : IntKind.i64.wrap ((a : Int) + ((k.nodes : Int) + 1)) = ((a + (k.nodes + 1) : Nat) : Int) := by rw [w64 (by omega) (by omega)]; omega
    have e2 : max (b : Int) ((k.dep : Int) + 1) = ((max b (k.dep + 1) : Nat) : Int) := by omega
    rw [e1, e2, ih]
    simp only [Cl.nodes, Cl.dep]
    rw [show max (max b (k.dep + 1)) r.dep = max b (max (k.dep + 1) r.dep) by omega, show a + (k.nodes + 1) + r.nodes = a + (k.nodes + r.nodes + 1) by omega]
theorem measure_eq : ∀ (M : Nat) (o m : Int) (k : Cl), k.nodes < M → k.nodes < N → k.nodes ≤ 1000 → k.wf → K63 k → s_measure N M o m k.enc = some ((k.nodes : Int) + 1, (k.dep : Int) + 1)
  | 0, o, m, k, h, _, _, _, _ => by omega
  | M + 1, o, m, k, h, hN, hs, hw, hl => by
    have hln := Cl.len_le k
    have hd := Cl.dep_le k
    have hL := measure_loop N (s_measure N M) k.nodes (fun o m k' a1 a2 a3 => measure_eq M o m k' (by omega) (by omega) (by omega) a2 a3) o m k.enc (fun n0 n1 => some (n0, IntKind.i64.wrap (n1 + 1))) k [] N 1 0 (by omega) (Nat.le_refl _) hw (by simpa using hl) (by omega)
    unfold s_measure B_measure
    refine hL.trans ?_
    rw [w64 (by omega) (by omega)]
    congr 2 <;> omega
theorem qnodes_loop {R : Type} (f : Int → Int → List V → Option Int) (n : Nat) (hf : ∀ (o m : Int) (k : Cl), k.nodes < n → k.wf → K63 k → f o m k.enc = some ((k.nodes : Int) + 1)) (x y : Int) (K : Int → Option R) :
    ∀ (l : Cl) (pre : List V) (t : Nat) (a : Nat), l.len < t → l.nodes ≤ n → l.wf → pre.length + l.len ≤ 9223372036854775807 → a + l.nodes ≤ 10000 →
      S_qnodes_3 N f x y (pre ++ l.enc) t (a : Int) (pre.length : Int) K = K ((a + l.nodes : Nat) : Int)
  | l, pre, 0, a, ht, _, _, _, _ => by omega
  | .nil, pre, t + 1, a, ht, _, _, _, _ => by
    unfold S_qnodes_3 F_qnodes_3
    simp only [Cl.enc, br_t, br_f, br_dec, br_not, br_and, br_or, bnd1_mk, bnd2_mk, bnd3_mk, bnd4_mk, bnd5_mk, at_zero, at_succ, at_mid, unInt_mk, unBool_mk, unStr_mk, unBytes_mk, unSl_mk, unAgg_mk, unCons_mk, unNil_mk, endI, if_false]
    simp [Cl.nodes]
  | .cons o m k r, pre, t + 1, a, ht, hn, hw, hl, ha => by
    simp only [Cl.len, Cl.nodes] at ht hn hl ha
    obtain ⟨_, _, hk1, hk2, hr⟩ := hw
    obtain ⟨h1, h2, h3, h4⟩ := stepC pre (ce o m k) r hl
    have ih := qnodes_loop f n hf x y K r (pre ++ [ce o m k]) t (a + (k.nodes + 1)) (by omega) (by omega) hr (by simp; omega) (by omega)
    rw [← mid, ← h3] at ih
    unfold S_qnodes_3 F_qnodes_3
    simp only [enc_cons, br_t, br_f, br_dec, br_not, br_and, br_or, bnd1_mk, bnd2_mk, bnd3_mk, bnd4_mk, bnd5_mk, at_zero, at_succ, at_mid, unInt_mk, unBool_mk, unStr_mk, unBytes_mk, unSl_mk, unAgg_mk, unCons_mk, unNil_mk, h1, h2, if_true, Int.toNat_natCast, hf o m k (by omega) hk2 hk1]
    have e1 : IntKind.i64.wrap ((a : Int) + ((k.nodes : Int) + 1)) = ((a + (k.nodes + 1) : Nat) : Int) := by rw [w64 (by omega) (by omega)]; omega
    rw [e1, ih]
    simp only [Cl.nodes]
    rw [show a + (k.nodes + 1) + r.nodes = a + (k.nodes + r.nodes + 1) by omega]
theorem qnodes_eq : ∀ (M : Nat) (o m : Int) (k : Cl), k.nodes < M → k.nodes < N → k.nodes ≤ 1000 → k.wf → K63 k → s_qnodes N M o m k.enc = some ((k.nodes : Int) + 1)
  | 0, o, m, k, h, _, _, _, _ => by omega
  | M + 1, o, m, k, h, hN, hs, hw, hl => by
    have hln := Cl.len_le k
    have hL := qnodes_loop N (s_qnodes N M) k.nodes (fun o m k' a1 a2 a3 => qnodes_eq M o m k' (by omega) (by omega) (by omega) a2 a3) o m (fun n0 => some n0) k [] N 1 (by omega) (Nat.le_refl _) hw (by simpa using hl) (by omega)
    unfold s_qnodes B_qnodes
    refine hL.trans ?_
    congr 1 <;> omega
theorem qdepth_loop {R : Type} (f : Int → Int → List V → Option Int) (n : Nat) (hf : ∀ (o m : Int) (k : Cl), k.nodes < n → k.wf → K63 k → f o m k.enc = some ((k.dep : Int) + 1)) (x y : Int) (K : Int → Option R) :
    ∀ (l : Cl) (pre : List V) (t : Nat) (b : Nat), l.len < t → l.nodes ≤ n → l.wf → pre.length + l.len ≤ 9223372036854775807 →
      S_qdepth_3 N f x y (pre ++ l.enc) t (b : Int) (pre.length : Int) K = K ((max b l.dep : Nat) : Int)
  | l, pre, 0, b, ht, _, _, _ => by omega
  | .nil, pre, t + 1, b, ht, _, _, _ => by
    unfold S_qdepth_3 F_qdepth_3
    simp only [Cl.enc, br_t, br_f, br_dec, br_not, br_and, br_or, bnd1_mk, bnd2_mk, bnd3_mk, bnd4_mk, bnd5_mk, at_zero, at_succ, at_mid, unInt_mk, unBool_mk, unStr_mk, unBytes_mk, unSl_mk, unAgg_mk, unCons_mk, unNil_mk, endI, if_false]
    simp [Cl.dep]
  | .cons o m k r, pre, t + 1, b, ht, hn, hw, hl => by
    simp only [Cl.len, Cl.nodes] at ht hn hl
    obtain ⟨_, _, hk1, hk2, hr⟩ := hw
    obtain ⟨h1, h2, h3, h4⟩ := stepC pre (ce o m k) r hl
    have ih := fun b => qdepth_loop f n hf x y K r (pre ++ [ce o m k]) t b (by omega) (by omega) hr (by simp; omega)
    rw [← mid, ← h3] at ih
    unfold S_qdepth_3 F_qdepth_3
    simp only [enc_cons, br_t, br_f, br_dec, br_not, br_and, br_or, bnd1_mk, bnd2_mk, bnd3_mk, bnd4_mk, bnd5_mk, at_zero, at_succ, at_mid, unInt_mk, unBool_mk, unStr_mk, unBytes_mk, unSl_mk, unAgg_mk, unCons_mk, unNil_mk, h1, h2, if_true, Int.toNat_natCast, hf o m k (by omega) hk2 hk1, Cl.dep]
    by_cases c : (b : Int) < (k.dep : Int) + 1
    · have := ih (k.dep + 1)
      rw [if_pos c, show ((k.dep : Int) + 1) = ((k.dep + 1 : Nat) : Int) by omega, this]
      exact congrArg (fun z : Nat => K (z : Int)) (by omega)
    · rw [if_neg c, ih b]
      exact congrArg (fun z : Nat => K (z : Int)) (by omega)
theorem qdepth_eq : ∀ (M : Nat) (o m : Int) (k : Cl), k.nodes < M → k.nodes < N → k.nodes ≤ 1000 → k.wf → K63 k → s_qdepth N M o m k.enc = some ((k.dep : Int) + 1)
  | 0, o, m, k, h, _, _, _, _ => by omega
  | M + 1, o, m, k, h, hN, hs, hw, hl => by
    have hln := Cl.len_le k
    have hd := Cl.dep_le k
    have hL := qdepth_loop N (s_qdepth N M) k.nodes (fun o m k' a1 a2 a3 => qdepth_eq M o m k' (by omega) (by omega) (by omega) a2 a3) o m (fun n0 => some (IntKind.i64.wrap (n0 + 1))) k [] N 0 (by omega) (Nat.le_refl _) hw (by simpa using hl)
    unfold s_qdepth B_qdepth
    refine hL.trans ?_
    rw [w64 (by omega) (by omega)]
    congr 1 <;> omega
/-- A condition that came in, small. -/
structure GoodC (N : Nat) (k : Cl) : Prop where
  wf : k.wf
  len : K63 k
  nodes : k.nodes ≤ 1000
  fuel : k.nodes < N
def chk (o m : Int) (k : Cl) : Int := if vC o m k = true then (if 16 < k.nodes + 1 ∨ 8 < k.dep + 1 then 3 else 0) else 1
theorem aCheck_eq (o m : Int) (k : Cl) (g : GoodC N k) : s_aCheck N o m k.enc = some (chk o m k) := by
  unfold s_aCheck chk
  rw [avalid_eq N N o m k 1 g.fuel g.fuel g.wf g.len, bnd1_mk, br_not]
  cases vC o m k with
  | false => rfl
  | true =>
    simp only [measure_eq N N o m k g.fuel g.fuel g.nodes g.wf g.len, br_t, bnd2_mk, br_dec, if_true]
    by_cases h1 : 16 < k.nodes + 1
    · rw [if_pos (by omega), if_pos (.inl h1)]
    · rw [if_neg (by omega)]
      by_cases h2 : 8 < k.dep + 1
      · rw [if_pos (by omega), if_pos (.inr h2)]
      · rw [if_neg (by omega), if_neg (by omega)]
theorem qCheck_eq (o m : Int) (k : Cl) (g : GoodC N k) : s_qCheck N o m k.enc = some (chk o m k) := by
  unfold s_qCheck chk
  rw [qvalid_ok N N o m k (Nat.le_refl _) g.fuel g.wf g.len, bnd1_mk, br_not]
  cases vC o m k with
  | false => rfl
  | true =>
    simp only [qnodes_eq N N o m k g.fuel g.fuel g.nodes g.wf g.len, qdepth_eq N N o m k g.fuel g.fuel g.nodes g.wf g.len, br_t, bnd1_mk, br_dec, if_true]
    by_cases h1 : 16 < k.nodes + 1
    · rw [if_pos (by omega), if_pos (.inl h1)]
    · rw [if_neg (by omega)]
      by_cases h2 : 8 < k.dep + 1
      · rw [if_pos (by omega), if_pos (.inr h2)]
      · rw [if_neg (by omega), if_neg (by omega)]
theorem chk_zero {o m : Int} {k : Cl} (h : chk o m k = 0) : vC o m k = true ∧ k.nodes ≤ 15 ∧ k.dep ≤ 7 := by
  unfold chk at h
  split at h
  · rename_i hv
    split at h
    · omega
    · exact ⟨hv, by omega, by omega⟩
  · omega
/-! Satisfied -/
theorem IndexFuncN_loop (x : Sec) (f : Int → Int → List V → Int → Int → Int → Int → Option Bool) (n : Nat) (hf : ∀ (o m : Int) (k : Cl), vC o m k = true → k.nodes < n → k.wf → K63 k → f o m k.enc x.p x.k x.s x.l = some (satC x o m k)) :
    ∀ (l : Cl) (pre : List V) (t : Nat), vL l = true → l.len < t → l.nodes ≤ n → l.wf → pre.length + l.len ≤ 9223372036854775807 →
      ∃ i, S_IndexFuncN_2 N f (pre ++ l.enc) ((pre ++ l.enc).length : Int) x.p x.k x.s x.l t (pre.length : Int) (fun n0 => some n0) (some (-1)) = some i ∧ decide (0 ≤ i) = !sq x l true
  | l, pre, 0, _, ht, _, _, _ => by omega
  | .nil, pre, t + 1, _, ht, _, _, _ => by
    unfold S_IndexFuncN_2 F_IndexFuncN_2
    simp only [Cl.enc, br_t, br_f, br_dec, br_not, br_and, br_or, bnd1_mk, bnd2_mk, bnd3_mk, bnd4_mk, bnd5_mk, at_zero, at_succ, at_mid, unInt_mk, unBool_mk, unStr_mk, unBytes_mk, unSl_mk, unAgg_mk, unCons_mk, unNil_mk, endI, if_false]
    exact ⟨-1, rfl, by simp [sq]⟩
  | .cons o m k r, pre, t + 1, hv, ht, hn, hw, hl => by
    simp only [Cl.len, Cl.nodes] at ht hn hl
    rw [vL_cons, Bool.and_eq_true] at hv
    obtain ⟨_, _, hk1, hk2, hr⟩ := hw
    obtain ⟨h1, h2, h3, h4⟩ := stepC pre (ce o m k) r hl
    obtain ⟨i, ih1, ih2⟩ := IndexFuncN_loop x f n hf r (pre ++ [ce o m k]) t hv.2 (by omega) (by omega) hr (by simp; omega)
    rw [← mid, ← h3] at ih1
    unfold S_IndexFuncN_2 F_IndexFuncN_2 s_satno C_satno
    rw [sq_cons]
    simp only [enc_cons, br_t, br_f, br_dec, br_not, br_and, br_or, bnd1_mk, bnd2_mk, bnd3_mk, bnd4_mk, bnd5_mk, at_zero, at_succ, at_mid, unInt_mk, unBool_mk, unStr_mk, unBytes_mk, unSl_mk, unAgg_mk, unCons_mk, unNil_mk, h1, h2, if_true, Int.toNat_natCast, hf o m k hv.1 (by omega) hk2 hk1]
    cases satC x o m k with
    | false => exact ⟨_, rfl, by simp⟩
    | true => exact ⟨i, ih1, by rw [ih2]; rfl⟩
theorem IndexFuncY_loop (x : Sec) (f : Int → Int → List V → Int → Int → Int → Int → Option Bool) (n : Nat) (hf : ∀ (o m : Int) (k : Cl), vC o m k = true → k.nodes < n → k.wf → K63 k → f o m k.enc x.p x.k x.s x.l = some (satC x o m k)) :
    ∀ (l : Cl) (pre : List V) (t : Nat), vL l = true → l.len < t → l.nodes ≤ n → l.wf → pre.length + l.len ≤ 9223372036854775807 →
      ∃ i, S_IndexFuncY_2 N f (pre ++ l.enc) ((pre ++ l.enc).length : Int) x.p x.k x.s x.l t (pre.length : Int) (fun n0 => some n0) (some (-1)) = some i ∧ decide (0 ≤ i) = sq x l false
  | l, pre, 0, _, ht, _, _, _ => by omega
  | .nil, pre, t + 1, _, ht, _, _, _ => by
    unfold S_IndexFuncY_2 F_IndexFuncY_2
    simp only [Cl.enc, br_t, br_f, br_dec, br_not, br_and, br_or, bnd1_mk, bnd2_mk, bnd3_mk, bnd4_mk, bnd5_mk, at_zero, at_succ, at_mid, unInt_mk, unBool_mk, unStr_mk, unBytes_mk, unSl_mk, unAgg_mk, unCons_mk, unNil_mk, endI, if_false]
    exact ⟨-1, rfl, by simp [sq]⟩
  | .cons o m k r, pre, t + 1, hv, ht, hn, hw, hl => by
    simp only [Cl.len, Cl.nodes] at ht hn hl
    rw [vL_cons, Bool.and_eq_true] at hv
    obtain ⟨_, _, hk1, hk2, hr⟩ := hw
    obtain ⟨h1, h2, h3, h4⟩ := stepC pre (ce o m k) r hl
    obtain ⟨i, ih1, ih2⟩ := IndexFuncY_loop x f n hf r (pre ++ [ce o m k]) t hv.2 (by omega) (by omega) hr (by simp; omega)
    rw [← mid, ← h3] at ih1
    unfold S_IndexFuncY_2 F_IndexFuncY_2 s_satyes C_satyes
    rw [sq_cons]
    simp only [enc_cons, br_t, br_f, br_dec, br_not, br_and, br_or, bnd1_mk, bnd2_mk, bnd3_mk, bnd4_mk, bnd5_mk, at_zero, at_succ, at_mid, unInt_mk, unBool_mk, unStr_mk, unBytes_mk, unSl_mk, unAgg_mk, unCons_mk, unNil_mk, h1, h2, if_true, Int.toNat_natCast, hf o m k hv.1 (by omega) hk2 hk1]
    cases satC x o m k with
    | true => exact ⟨_, rfl, by simp⟩
    | false => exact ⟨i, ih1, by rw [ih2]; rfl⟩
theorem asat_eq (x : Sec) : ∀ (M : Nat) (o m : Int) (k : Cl), vC o m k = true → k.nodes < M → k.nodes < N → k.wf → K63 k → s_asat N M o m k.enc x.p x.k x.s x.l = some (satC x o m k)
  | 0, o, m, k, _, h, _, _, _ => by omega
  | M + 1, o, m, k, hv, h, hN, hw, hl => by
    have hln := Cl.len_le k
    have hf := fun (o m : Int) (k' : Cl) (a0 : vC o m k' = true) (a1 : k'.nodes < k.nodes) (a2 : k'.wf) (a3 : K63 k') => asat_eq x M o m k' a0 (by omega) (by omega) a2 a3
    unfold s_asat B_asat satC
    simp only [br_dec]
    have hbit : ∀ (a : Int), 1 ≤ m → m ≤ 8 → decide (bitsI BinOp.and IntKind.i64 (shrI IntKind.i64 a m) 1 = 1) = hasB (bv a) (bv (p2 m.toNat)) := by
      intro a b1 b2
      have := bit_test a (n := m.toNat) (by omega)
      rwa [Int.toNat_of_nonneg (by omega)] at this
    rcases vC_leaf hv with ⟨rfl, _⟩ | ⟨rfl, _⟩ | ⟨rfl, b1, b2, _⟩ | ⟨rfl, b1, b2, _⟩ | ⟨rfl, _⟩ | ⟨rfl, b1, b2, _⟩ | ⟨rfl | rfl, h1, h2, h3⟩
    · simp [satB]
    · simp [satB]
    · simp [satB, hbit _ b1 b2]; omega
    · simp [satB, hbit _ b1 b2]; omega
    · simp [satB]
    · have := level_range b1 b2
      have e := has_iff x.l m (by omega)
      simp [satB, e]
    · obtain ⟨i, i1, i2⟩ := IndexFuncN_loop N x (s_asat N M) k.nodes hf k [] N h3 (by omega) (Nat.le_refl _) hw (by simpa using hl)
      have i1' : S_IndexFuncN_2 N (s_asat N M) k.enc (k.enc.length : Int) x.p x.k x.s x.l N 0 (fun n0 => some n0) (some (-1)) = some i := i1
      unfold s_ContainsFuncN C_ContainsFuncN s_IndexFuncN C_IndexFuncN
      rw [if_pos rfl, i1', if_pos rfl, bnd1_mk]
      show some (!decide (0 ≤ i)) = _
      rw [i2, Bool.not_not]
    · obtain ⟨i, i1, i2⟩ := IndexFuncY_loop N x (s_asat N M) k.nodes hf k [] N h3 (by omega) (Nat.le_refl _) hw (by simpa using hl)
      have i1' : S_IndexFuncY_2 N (s_asat N M) k.enc (k.enc.length : Int) x.p x.k x.s x.l N 0 (fun n0 => some n0) (some (-1)) = some i := i1
      unfold s_ContainsFuncY C_ContainsFuncY s_IndexFuncY C_IndexFuncY
      rw [if_neg (by omega), if_pos rfl, i1', if_neg (by omega), if_pos rfl, bnd1_mk]
      show some (decide (0 ≤ i)) = _
      rw [i2]
def holdsP (x : Sec) (o m : Int) (k : Cl) : Bool := decide (chk o m k = 0) && satC x o m k
theorem aHolds_eq (x : Sec) (o m : Int) (k : Cl) (g : GoodC N k) : s_aHolds N o m k.enc x.p x.k x.s x.l = some (holdsP x o m k) := by
  unfold s_aHolds holdsP
  rw [aCheck_eq N o m k g, bnd1_mk, br_dec]
  by_cases hc : chk o m k = 0
  · rw [if_pos hc, asat_eq N x N o m k (chk_zero hc).1 g.fuel g.fuel g.wf g.len]
    simp [hc, bnd1_mk]
  · rw [if_neg hc]; simp [hc]
end
end Go.Proofs.YtahemenhcoedgaaDoor.En

/- Rules: which are small, which are valid, what they permit: the program and the reference. -/
namespace Go.Proofs.YtahemenhcoedgaaDoor.En
open Go
set_option linter.unusedVariables false
/-- All of the list are small. -/
def fewL : Cl → Bool
  | .nil => true
  | .cons o m k r => decide (k.nodes ≤ 199) && fewL r
/-- A rule. -/
structure Ru where
  ops : Int
  o : Int
  m : Int
  k : Cl
  deriving DecidableEq
def Ru.enc (r : Ru) : V := .agg [.int .i64 r.ops, .int .i64 r.o, .int .i64 r.m, .sl 24 r.k.enc]
def rE : List Ru → List V
  | [] => []
  | r :: l => .agg [.int .i64 r.ops, .int .i64 r.o, .int .i64 r.m, .sl 24 r.k.enc] :: rE l
theorem rE_len : ∀ l : List Ru, (rE l).length = l.length
  | [] => rfl
  | r :: l => by simp [rE, rE_len l]
theorem rE_append : ∀ a b : List Ru, rE (a ++ b) = rE a ++ rE b
  | [], b => rfl
  | r :: a, b => by simp [rE, rE_append a b]
theorem stepR (pre : List V) (x : V) (r : List Ru) (h : pre.length + (r.length + 1) ≤ 9223372036854775807) :
    (pre.length : Int) < ((pre ++ x :: rE r).length : Int) ∧ (0 : Int) ≤ pre.length ∧ IntKind.i64.wrap ((pre.length : Int) + 1) = ((pre ++ [x]).length : Int) ∧ ((pre ++ x :: rE r).length : Int) = (((pre ++ [x]) ++ rE r).length : Int) :=
  stepI pre x (rE r) (by rw [rE_len]; exact h)
def fewR (l : List Ru) : Bool := decide (l.length ≤ 50) && l.all fun r => decide (r.k.nodes ≤ 199)
def chkRL : List Ru → Int
  | [] => 0
  | r :: l => if r.ops < 1 ∨ 255 < r.ops then 1 else if chk r.o r.m r.k = 0 then chkRL l else chk r.o r.m r.k
def chkR (l : List Ru) : Int := if 8 < l.length then 3 else chkRL l
section
variable (N : Nat)
/-- A rule's condition that came in. -/
structure InC (N : Nat) (k : Cl) : Prop where
  wf : k.wf
  len : K63 k
  fuel : k.nodes < N
theorem InC.good {k : Cl} (h : InC N k) (hn : k.nodes ≤ 1000) : GoodC N k := ⟨h.wf, h.len, hn, h.fuel⟩
theorem lfew_loop {R : Type} (K0 : Bool → Option R) (K1 : Option R) : ∀ (l : Cl) (pre : List V) (t : Nat), l.len < t → l.nodes < N → l.wf → pre.length + l.len ≤ 9223372036854775807 →
      S_lfew_2 N (pre ++ l.enc) t (pre.length : Int) K0 K1 = if fewL l = true then K1 else K0 false
  | l, pre, 0, ht, _, _, _ => by omega
  | .nil, pre, t + 1, ht, _, _, _ => by
    unfold S_lfew_2 F_lfew_2
    simp only [Cl.enc, br_t, br_f, br_dec, br_not, br_and, br_or, bnd1_mk, bnd2_mk, bnd3_mk, bnd4_mk, bnd5_mk, at_zero, at_succ, at_mid, unInt_mk, unBool_mk, unStr_mk, unBytes_mk, unSl_mk, unAgg_mk, unCons_mk, unNil_mk, endI, if_false, fewL, if_true]
  | .cons o m k r, pre, t + 1, ht, hn, hw, hl => by
    simp only [Cl.len, Cl.nodes] at ht hn hl
    obtain ⟨_, _, hk1, hk2, hr⟩ := hw
    obtain ⟨h1, h2, h3, h4⟩ := stepC pre (ce o m k) r hl
    have ih := lfew_loop K0 K1 r (pre ++ [ce o m k]) t (by omega) (by omega) hr (by simp; omega)
    rw [← mid, ← h3] at ih
    unfold S_lfew_2 F_lfew_2
    simp only [enc_cons, br_t, br_f, br_dec, br_not, br_and, br_or, bnd1_mk, bnd2_mk, bnd3_mk, bnd4_mk, bnd5_mk, at_zero, at_succ, at_mid, unInt_mk, unBool_mk, unStr_mk, unBytes_mk, unSl_mk, unAgg_mk, unCons_mk, unNil_mk, h1, h2, if_true, Int.toNat_natCast, left_ok N N o m k 200 (Nat.le_refl _) (by omega) hk2 hk1 (by omega) (by omega), ih]
    obtain ⟨n1, n2⟩ := lfl_nodes k 199 (by omega)
    by_cases c : (k.nodes : Int) ≤ 199
    · rw [show (200 : Int) - 1 = 199 by omega, n1 c, if_neg (by omega)]
      have ef : fewL (.cons o m k r) = fewL r := by
        conv => lhs; unfold fewL
        rw [decide_eq_true (by omega : k.nodes ≤ 199)]; rfl
      rw [ef]
    · rw [show (200 : Int) - 1 = 199 by omega, n2 (by omega), if_pos (by omega)]
      have ef : fewL (.cons o m k r) = false := by unfold fewL; rw [decide_eq_false (by omega : ¬ k.nodes ≤ 199)]; rfl
      rw [if_neg (by rw [ef]; decide)]
theorem lfew_eq (l : Cl) (h : l.nodes < N) (hw : l.wf) (hl : K63 l) : s_lfew N l.enc = some (fewL l) := by
  have hln := Cl.len_le l
  have hL := lfew_loop N (fun b => some b) (some true) l [] N (by omega) h hw (by simpa using hl)
  unfold s_lfew
  refine hL.trans ?_
  cases fewL l <;> rfl
theorem lfewRules_loop {R : Type} (K0 : Bool → Option R) (K1 : Option R) : ∀ (l : List Ru) (pre : List V) (t : Nat), l.length < t → (∀ r ∈ l, InC N r.k ∧ r.k.nodes + 1 < N ∧ I64 r.o ∧ I64 r.m) → pre.length + l.length ≤ 9223372036854775807 →
      S_lfewRules_4 N (pre ++ rE l) t (pre.length : Int) K0 K1 = if (l.all fun r => decide (r.k.nodes ≤ 199)) = true then K1 else K0 false
  | l, pre, 0, ht, _, _ => by omega
  | [], pre, t + 1, ht, _, _ => by
    unfold S_lfewRules_4 F_lfewRules_4
    simp only [rE, br_t, br_f, br_dec, br_not, br_and, br_or, bnd1_mk, bnd2_mk, bnd3_mk, bnd4_mk, bnd5_mk, at_zero, at_succ, at_mid, unInt_mk, unBool_mk, unStr_mk, unBytes_mk, unSl_mk, unAgg_mk, unCons_mk, unNil_mk, endI, if_false, List.all_nil, if_true]
  | r :: l, pre, t + 1, ht, hg, hl => by
    simp only [List.length_cons] at ht hl
    obtain ⟨h1, h2, h3, h4⟩ := stepR pre (.agg [.int .i64 r.ops, .int .i64 r.o, .int .i64 r.m, .sl 24 r.k.enc]) l hl
    have ih := lfewRules_loop K0 K1 l (pre ++ [.agg [.int .i64 r.ops, .int .i64 r.o, .int .i64 r.m, .sl 24 r.k.enc]]) t (by omega) (fun r hr => hg r (by simp [hr])) (by simp; omega)
    rw [← mid, ← h3] at ih
    obtain ⟨g, gn, go, gm⟩ := hg r (by simp)
    have hf : s_lfew N [V.agg [V.int IntKind.i64 r.o, V.int IntKind.i64 r.m, V.sl 24 r.k.enc]] = some (fewL (.cons r.o r.m r.k .nil)) :=
      lfew_eq N (.cons r.o r.m r.k .nil) (by simp only [Cl.nodes]; omega) ⟨go, gm, g.len, g.wf, trivial⟩ (by simp [Cl.len])
    unfold S_lfewRules_4 F_lfewRules_4
    simp only [rE, br_t, br_f, br_dec, br_not, br_and, br_or, bnd1_mk, bnd2_mk, bnd3_mk, bnd4_mk, bnd5_mk, at_zero, at_succ, at_mid, unInt_mk, unBool_mk, unStr_mk, unBytes_mk, unSl_mk, unAgg_mk, unCons_mk, unNil_mk, h1, h2, if_true, Int.toNat_natCast, hf, fewL, Bool.and_true, ih, List.all_cons]
    by_cases c : r.k.nodes ≤ 199 <;> simp [c]
theorem lfewRules_eq (l : List Ru) (h : l.length < N) (hg : ∀ r ∈ l, InC N r.k ∧ r.k.nodes + 1 < N ∧ I64 r.o ∧ I64 r.m) (hl : l.length ≤ 9223372036854775807) : s_lfewRules N (rE l) = some (fewR l) := by
  have hL := lfewRules_loop N (fun b => some b) (some true) l [] N h hg (by simpa using hl)
  have hL' : S_lfewRules_4 N (rE l) N 0 (fun b => some b) (some true) = if (l.all fun r => decide (r.k.nodes ≤ 199)) = true then some true else some false := hL
  unfold s_lfewRules fewR
  rw [rE_len, br_dec, hL']
  by_cases c : l.length ≤ 50
  · rw [if_neg (by omega)]
    cases hc : (l.all fun r => decide (r.k.nodes ≤ 199)) <;> simp [c]
  · rw [if_pos (by omega)]; simp [c]
theorem aCheckRules_loop {R : Type} (K0 : Int → Option R) (K1 : Option R) : ∀ (l : List Ru) (pre : List V) (t : Nat), l.length < t → (∀ r ∈ l, GoodC N r.k) → pre.length + l.length ≤ 9223372036854775807 →
      S_aCheckRules_4 N (pre ++ rE l) ((pre ++ rE l).length : Int) t (pre.length : Int) K0 K1 = if chkRL l = 0 then K1 else K0 (chkRL l)
  | l, pre, 0, ht, _, _ => by omega
  | [], pre, t + 1, ht, _, _ => by
    unfold S_aCheckRules_4 F_aCheckRules_4
    simp only [rE, br_t, br_f, br_dec, br_not, br_and, br_or, bnd1_mk, bnd2_mk, bnd3_mk, bnd4_mk, bnd5_mk, at_zero, at_succ, at_mid, unInt_mk, unBool_mk, unStr_mk, unBytes_mk, unSl_mk, unAgg_mk, unCons_mk, unNil_mk, endI, if_false, chkRL, if_true]
  | r :: l, pre, t + 1, ht, hg, hl => by
    simp only [List.length_cons] at ht hl
    obtain ⟨h1, h2, h3, h4⟩ := stepR pre (.agg [.int .i64 r.ops, .int .i64 r.o, .int .i64 r.m, .sl 24 r.k.enc]) l hl
    have ih := aCheckRules_loop K0 K1 l (pre ++ [.agg [.int .i64 r.ops, .int .i64 r.o, .int .i64 r.m, .sl 24 r.k.enc]]) t (by omega) (fun r hr => hg r (by simp [hr])) (by simp; omega)
    rw [← mid, ← h3] at ih
    unfold S_aCheckRules_4 F_aCheckRules_4
    simp only [rE, br_t, br_f, br_dec, br_not, br_and, br_or, bnd1_mk, bnd2_mk, bnd3_mk, bnd4_mk, bnd5_mk, at_zero, at_succ, at_mid, unInt_mk, unBool_mk, unStr_mk, unBytes_mk, unSl_mk, unAgg_mk, unCons_mk, unNil_mk, h1, h2, if_true, Int.toNat_natCast, aCheck_eq N r.o r.m r.k (hg r (by simp)), ih]
    have ec : chkRL (r :: l) = if r.ops < 1 ∨ 255 < r.ops then 1 else if chk r.o r.m r.k = 0 then chkRL l else chk r.o r.m r.k := rfl
    by_cases c1 : r.ops < 1
    · have e : chkRL (r :: l) = 1 := by rw [ec, if_pos (.inl c1)]
      rw [if_pos c1, e, if_neg (by omega)]
    rw [if_neg c1]
    by_cases c2 : 255 < r.ops
    · have e : chkRL (r :: l) = 1 := by rw [ec, if_pos (.inr c2)]
      rw [if_pos c2, e, if_neg (by omega)]
    rw [if_neg c2]
    by_cases c3 : chk r.o r.m r.k = 0
    · have e : chkRL (r :: l) = chkRL l := by rw [ec, if_neg (by omega), if_pos c3]
      rw [if_pos c3, e]
    · have e : chkRL (r :: l) = chk r.o r.m r.k := by rw [ec, if_neg (by omega), if_neg c3]
      rw [if_neg c3, e, if_neg c3]
theorem qCheckRules_loop {R : Type} (K0 : Int → Option R) (K1 : Option R) : ∀ (l : List Ru) (pre : List V) (t : Nat), l.length < t → (∀ r ∈ l, GoodC N r.k) → pre.length + l.length ≤ 9223372036854775807 →
      S_qCheckRules_4 N (pre ++ rE l) t (pre.length : Int) K0 K1 = if chkRL l = 0 then K1 else K0 (chkRL l)
  | l, pre, 0, ht, _, _ => by omega
  | [], pre, t + 1, ht, _, _ => by
    unfold S_qCheckRules_4 F_qCheckRules_4
    simp only [rE, br_t, br_f, br_dec, br_not, br_and, br_or, bnd1_mk, bnd2_mk, bnd3_mk, bnd4_mk, bnd5_mk, at_zero, at_succ, at_mid, unInt_mk, unBool_mk, unStr_mk, unBytes_mk, unSl_mk, unAgg_mk, unCons_mk, unNil_mk, endI, if_false, chkRL, if_true]
  | r :: l, pre, t + 1, ht, hg, hl => by
    simp only [List.length_cons] at ht hl
    obtain ⟨h1, h2, h3, h4⟩ := stepR pre (.agg [.int .i64 r.ops, .int .i64 r.o, .int .i64 r.m, .sl 24 r.k.enc]) l hl
    have ih := qCheckRules_loop K0 K1 l (pre ++ [.agg [.int .i64 r.ops, .int .i64 r.o, .int .i64 r.m, .sl 24 r.k.enc]]) t (by omega) (fun r hr => hg r (by simp [hr])) (by simp; omega)
    rw [← mid, ← h3] at ih
    unfold S_qCheckRules_4 F_qCheckRules_4
    simp only [rE, br_t, br_f, br_dec, br_not, br_and, br_or, bnd1_mk, bnd2_mk, bnd3_mk, bnd4_mk, bnd5_mk, at_zero, at_succ, at_mid, unInt_mk, unBool_mk, unStr_mk, unBytes_mk, unSl_mk, unAgg_mk, unCons_mk, unNil_mk, h1, h2, if_true, Int.toNat_natCast, qCheck_eq N r.o r.m r.k (hg r (by simp)), ih]
    have ec : chkRL (r :: l) = if r.ops < 1 ∨ 255 < r.ops then 1 else if chk r.o r.m r.k = 0 then chkRL l else chk r.o r.m r.k := rfl
    by_cases c1 : r.ops < 1
    · have e : chkRL (r :: l) = 1 := by rw [ec, if_pos (.inl c1)]
      rw [if_pos c1, e, if_neg (by omega)]
    rw [if_neg c1]
    by_cases c2 : 255 < r.ops
    · have e : chkRL (r :: l) = 1 := by rw [ec, if_pos (.inr c2)]
      rw [if_pos c2, e, if_neg (by omega)]
    rw [if_neg c2]
    by_cases c3 : chk r.o r.m r.k = 0
    · have e : chkRL (r :: l) = chkRL l := by rw [ec, if_neg (by omega), if_pos c3]
      rw [if_pos c3, e]
    · have e : chkRL (r :: l) = chk r.o r.m r.k := by rw [ec, if_neg (by omega), if_neg c3]
      rw [if_neg c3, e, if_neg c3]
/-- Rules that came in, few and small; or rules that were read. -/
structure GoodR (N : Nat) (l : List Ru) : Prop where
  len : l.length ≤ 1000
  fuel : 1000 < N
  good : ∀ r ∈ l, GoodC N r.k
theorem aCheckRules_eq (l : List Ru) (g : GoodR N l) : s_aCheckRules N (rE l) = some (chkR l) := by
  have h1 := g.len
  have h2 := g.fuel
  have hL : S_aCheckRules_4 N (rE l) ((rE l).length : Int) N 0 (fun n0 => some n0) (some 0) = if chkRL l = 0 then some 0 else some (chkRL l) :=
    aCheckRules_loop N (fun n0 => some n0) (some 0) l [] N (by omega) g.good (by simp; omega)
  unfold s_aCheckRules chkR
  rw [hL, rE_len, br_dec]
  by_cases c : 8 < l.length
  · rw [if_pos (by omega), if_pos c]
  · rw [if_neg (by omega), if_neg c]
    by_cases c2 : chkRL l = 0
    · rw [if_pos c2, c2]
    · rw [if_neg c2]
theorem qCheckRules_eq (l : List Ru) (g : GoodR N l) : s_qCheckRules N (rE l) = some (chkR l) := by
  have h1 := g.len
  have h2 := g.fuel
  have hL : S_qCheckRules_4 N (rE l) N 0 (fun n0 => some n0) (some 0) = if chkRL l = 0 then some 0 else some (chkRL l) :=
    qCheckRules_loop N (fun n0 => some n0) (some 0) l [] N (by omega) g.good (by simp; omega)
  unfold s_qCheckRules chkR
  rw [hL, rE_len, br_dec]
  by_cases c : 8 < l.length
  · rw [if_pos (by omega), if_pos c]
  · rw [if_neg (by omega), if_neg c]
    by_cases c2 : chkRL l = 0
    · rw [if_pos c2, c2]
    · rw [if_neg c2]
theorem chkRL_zero : ∀ {l : List Ru}, chkRL l = 0 → ∀ r ∈ l, 1 ≤ r.ops ∧ r.ops ≤ 255 ∧ chk r.o r.m r.k = 0
  | [], _, r, hr => by simp at hr
  | a :: l, h, r, hr => by
    unfold chkRL at h
    split at h
    · omega
    · split at h
      · rename_i c1 c2
        rcases List.mem_cons.1 hr with rfl | hr
        · exact ⟨by omega, by omega, c2⟩
        · exact chkRL_zero h r hr
      · rename_i c1 c2; exact absurd h c2
theorem chkR_zero {l : List Ru} (h : chkR l = 0) : l.length ≤ 8 ∧ ∀ r ∈ l, 1 ≤ r.ops ∧ r.ops ≤ 255 ∧ vC r.o r.m r.k = true ∧ r.k.nodes ≤ 15 ∧ r.k.dep ≤ 7 := by
  unfold chkR at h
  split at h
  · omega
  · rename_i c
    refine ⟨by omega, fun r hr => ?_⟩
    obtain ⟨h1, h2, h3⟩ := chkRL_zero h r hr
    obtain ⟨h4, h5, h6⟩ := chk_zero h3
    exact ⟨h1, h2, h4, h5, h6⟩
/-! What is permitted -/
def single (op : Int) : Bool := decide (op = 1) || decide (op = 2) || decide (op = 4) || decide (op = 8) || decide (op = 16) || decide (op = 32) || decide (op = 64) || decide (op = 128)
def permL (x : Sec) (op : Int) : List Ru → Bool
  | [] => false
  | r :: l => decide (bitsI BinOp.and IntKind.i64 r.ops op = op) && satC x r.o r.m r.k || permL x op l
def perm (x : Sec) (op : Int) (l : List Ru) : Bool := decide (chkR l = 0) && (single op && permL x op l)
theorem br_lt {R : Type} (a b : Int) (x y : Option R) : br (decide (a < b)) x y = if a < b then x else y := br_dec _ x y
theorem br_le {R : Type} (a b : Int) (x y : Option R) : br (decide (a ≤ b)) x y = if a ≤ b then x else y := br_dec _ x y
end
end Go.Proofs.YtahemenhcoedgaaDoor.En

/- Which conditions imply which: the program. -/
namespace Go.Proofs.YtahemenhcoedgaaDoor.En
open Go
set_option linter.unusedVariables false
def sE : List Sec → List V
  | [] => []
  | x :: l => .agg [.int .i64 x.p, .int .i64 x.k, .int .i64 x.s, .int .i64 x.l] :: sE l
abbrev se (x : Sec) : V := .agg [.int .i64 x.p, .int .i64 x.k, .int .i64 x.s, .int .i64 x.l]
theorem sE_cons (x : Sec) (l : List Sec) : sE (x :: l) = se x :: sE l := rfl
theorem sE_len : ∀ l : List Sec, (sE l).length = l.length
  | [] => rfl
  | r :: l => by simp [sE, sE_len l]
theorem sE_append : ∀ a b : List Sec, sE (a ++ b) = sE a ++ sE b
  | [], b => rfl
  | r :: a, b => by simp [sE, sE_append a b]
theorem stepS (pre : List V) (x : V) (r : List Sec) (h : pre.length + (r.length + 1) ≤ 9223372036854775807) :
    (pre.length : Int) < ((pre ++ x :: sE r).length : Int) ∧ (0 : Int) ≤ pre.length ∧ IntKind.i64.wrap ((pre.length : Int) + 1) = ((pre ++ [x]).length : Int) ∧ ((pre ++ x :: sE r).length : Int) = (((pre ++ [x]) ++ sE r).length : Int) :=
  stepI pre x (sE r) (by rw [sE_len]; exact h)
section
variable (N : Nat)
theorem IndexS_loop (s : Sec) : ∀ (l : List Sec) (pre : List V) (t : Nat), l.length < t → pre.length + l.length ≤ 9223372036854775807 →
      ∃ i, S_IndexS_2 N (pre ++ sE l) ((pre ++ sE l).length : Int) s.p s.k s.s s.l t (pre.length : Int) (fun n0 => some n0) (some (-1)) = some i ∧ decide (0 ≤ i) = decide (s ∈ l)
  | l, pre, 0, ht, _ => by omega
  | [], pre, t + 1, ht, _ => by
    unfold S_IndexS_2 F_IndexS_2
    simp only [sE, br_t, br_f, br_dec, br_not, br_and, br_or, bnd1_mk, bnd2_mk, bnd3_mk, bnd4_mk, bnd5_mk, at_zero, at_succ, at_mid, unInt_mk, unBool_mk, unStr_mk, unBytes_mk, unSl_mk, unAgg_mk, unCons_mk, unNil_mk, endI, if_false]
    exact ⟨-1, rfl, by simp⟩
  | x :: l, pre, t + 1, ht, hl => by
    simp only [List.length_cons] at ht hl
    obtain ⟨h1, h2, h3, h4⟩ := stepS pre (se x) l hl
    obtain ⟨i, ih1, ih2⟩ := IndexS_loop s l (pre ++ [se x]) t (by omega) (by simp; omega)
    rw [← mid, ← h3] at ih1
    unfold S_IndexS_2 F_IndexS_2
    have e : (decide (s.p = x.p) && (decide (s.k = x.k) && (decide (s.s = x.s) && (decide (s.l = x.l) && true)))) = decide (s = x) := by
      obtain ⟨a, b, c, d⟩ := s
      obtain ⟨a', b', c', d'⟩ := x
      rw [Bool.eq_iff_iff]; simp
    simp only [sE_cons, br_lt, br_le, decide_true, br_t, at_mid, unInt_mk, unAgg_mk, unCons_mk, unNil_mk, br_and, h1, h2, if_true, Int.toNat_natCast]
    have e2 : br (decide (s.p = x.p)) (br (decide (s.k = x.k)) (br (decide (s.s = x.s)) (br (decide (s.l = x.l)) (some (pre.length : Int)) (S_IndexS_2 N (pre ++ se x :: sE l) ((pre ++ se x :: sE l).length : Int) s.p s.k s.s s.l t (IntKind.i64.wrap ((pre.length : Int) + 1)) (fun n0 => some n0) (some (-1)))) (S_IndexS_2 N (pre ++ se x :: sE l) ((pre ++ se x :: sE l).length : Int) s.p s.k s.s s.l t (IntKind.i64.wrap ((pre.length : Int) + 1)) (fun n0 => some n0) (some (-1)))) (S_IndexS_2 N (pre ++ se x :: sE l) ((pre ++ se x :: sE l).length : Int) s.p s.k s.s s.l t (IntKind.i64.wrap ((pre.length : Int) + 1)) (fun n0 => some n0) (some (-1)))) (S_IndexS_2 N (pre ++ se x :: sE l) ((pre ++ se x :: sE l).length : Int) s.p s.k s.s s.l t (IntKind.i64.wrap ((pre.length : Int) + 1)) (fun n0 => some n0) (some (-1))) = if s = x then some (pre.length : Int) else S_IndexS_2 N (pre ++ se x :: sE l) ((pre ++ se x :: sE l).length : Int) s.p s.k s.s s.l t (IntKind.i64.wrap ((pre.length : Int) + 1)) (fun n0 => some n0) (some (-1)) := by
      generalize S_IndexS_2 N (pre ++ se x :: sE l) ((pre ++ se x :: sE l).length : Int) s.p s.k s.s s.l t (IntKind.i64.wrap ((pre.length : Int) + 1)) (fun n0 => some n0) (some (-1)) = z
      by_cases c : s = x
      · rw [if_pos c, c]; simp [br]
      · rw [if_neg c]
        have : (decide (s.p = x.p) && (decide (s.k = x.k) && (decide (s.s = x.s) && (decide (s.l = x.l) && true)))) = false := by rw [e]; simpa using c
        revert this
        cases decide (s.p = x.p) <;> cases decide (s.k = x.k) <;> cases decide (s.s = x.s) <;> cases decide (s.l = x.l) <;> simp [br]
    rw [e2]
    by_cases c : s = x
    · rw [if_pos c]; exact ⟨_, rfl, by simp [c]⟩
    · rw [if_neg c]; exact ⟨i, ih1, by rw [ih2]; simp [c]⟩
theorem ContainsS_eq (s : Sec) (l : List Sec) (h : l.length < N) (hl : l.length ≤ 9223372036854775807) : s_ContainsS N (sE l) s.p s.k s.s s.l = some (decide (s ∈ l)) := by
  obtain ⟨i, i1, i2⟩ := IndexS_loop N s l [] N h (by simpa using hl)
  have i1' : S_IndexS_2 N (sE l) ((sE l).length : Int) s.p s.k s.s s.l N 0 (fun n0 => some n0) (some (-1)) = some i := i1
  unfold s_ContainsS s_IndexS
  rw [i1', bnd1_mk, i2]
theorem join_eq (x y : Sec) : s_join N x.p x.k x.s x.l y.p y.k y.s y.l = some ((x.join y).p, (x.join y).k, (x.join y).s, (x.join y).l) := rfl
theorem least30_loop {R : Type} (hN : 200000 < N) (f : Int → Int → List V → Option (List V)) (x : Sec) (K : List V → Option R) (a1 a2 a5 a13 a16 : List V) (b3 b4 b6 b7 b11 b12 b14 b15 : Int) : ∀ (ys : List Sec) (pre : List V) (t : Nat) (next : List Sec), ys.length < t → pre.length + ys.length ≤ 9223372036854775807 → next.length + ys.length ≤ 100000 →
      S_least_30 N f a1 a2 b3 b4 a5 b6 b7 (pre ++ sE ys) ((pre ++ sE ys).length : Int) b11 b12 a13 b14 b15 a16 x.p x.k x.s x.l t (sE next) (pre.length : Int) K = K (sE (prod1 x next ys))
  | ys, pre, 0, next, ht, _, _ => by omega
  | [], pre, t + 1, next, ht, _, _ => by
    unfold S_least_30 F_least_30
    simp only [sE, br_t, br_f, br_dec, br_not, br_and, br_or, bnd1_mk, bnd2_mk, bnd3_mk, bnd4_mk, bnd5_mk, at_zero, at_succ, at_mid, unInt_mk, unBool_mk, unStr_mk, unBytes_mk, unSl_mk, unAgg_mk, unCons_mk, unNil_mk, endI, if_false, prod1]
  | y :: ys, pre, t + 1, next, ht, hl, hn => by
    simp only [List.length_cons] at ht hl hn
    obtain ⟨h1, h2, h3, h4⟩ := stepS pre (se y) ys hl
    have ih := fun next hn => least30_loop hN f x K a1 a2 a5 a13 a16 b3 b4 b6 b7 b11 b12 b14 b15 ys (pre ++ [se y]) t next (by omega) (by simp; omega) hn
    rw [← mid, ← h3] at ih
    unfold S_least_30 F_least_30
    simp only [sE_cons, br_t, br_f, br_dec, br_not, br_and, br_or, bnd1_mk, bnd2_mk, bnd3_mk, bnd4_mk, bnd5_mk, at_zero, at_succ, at_mid, unInt_mk, unBool_mk, unStr_mk, unBytes_mk, unSl_mk, unAgg_mk, unCons_mk, unNil_mk, h1, h2, if_true, Int.toNat_natCast, join_eq, ContainsS_eq N (x.join y) next (by omega) (by omega), prod1, addS]
    by_cases c : x.join y ∈ next
    · rw [if_pos c, ih next (by omega), if_pos c]
    · have hlen : ((sE next).length + [V.agg [V.int IntKind.i64 (x.join y).p, V.int IntKind.i64 (x.join y).k, V.int IntKind.i64 (x.join y).s, V.int IntKind.i64 (x.join y).l]].length) * 32 ≤ 140737488355328 := by
        rw [sE_len]; simp; omega
      have e : sE next ++ [V.agg [V.int IntKind.i64 (x.join y).p, V.int IntKind.i64 (x.join y).k, V.int IntKind.i64 (x.join y).s, V.int IntKind.i64 (x.join y).l]] = sE (next ++ [x.join y]) := by rw [sE_append]; rfl
      rw [if_neg c, if_pos hlen, e, ih (next ++ [x.join y]) (by simp; omega), if_neg c]
theorem least27_loop {R : Type} (hN : 200000 < N) (f : Int → Int → List V → Option (List V)) (ys : List Sec) (K : List V → Option R) (a2 a10 a13 : List V) (b3 b4 b8 b9 b11 b12 : Int) : ∀ (xs : List Sec) (pre : List V) (t : Nat) (next : List Sec), xs.length < t → pre.length + xs.length ≤ 9223372036854775807 → next.length + xs.length * ys.length ≤ 100000 → ys.length ≤ 100000 →
      S_least_27 N f (sE ys) a2 b3 b4 (pre ++ sE xs) ((pre ++ sE xs).length : Int) b8 b9 a10 b11 b12 a13 t (sE next) (pre.length : Int) K = K (sE (prod ys next xs))
  | xs, pre, 0, next, ht, _, _, _ => by omega
  | [], pre, t + 1, next, ht, _, _, _ => by
    unfold S_least_27 F_least_27
    simp only [sE, br_t, br_f, br_dec, br_not, br_and, br_or, bnd1_mk, bnd2_mk, bnd3_mk, bnd4_mk, bnd5_mk, at_zero, at_succ, at_mid, unInt_mk, unBool_mk, unStr_mk, unBytes_mk, unSl_mk, unAgg_mk, unCons_mk, unNil_mk, endI, if_false, prod]
  | x :: xs, pre, t + 1, next, ht, hl, hn, hy => by
    simp only [List.length_cons, Nat.succ_mul] at ht hl hn
    obtain ⟨h1, h2, h3, h4⟩ := stepS pre (se x) xs hl
    have hp := len_prod1 x ys next
    have ih := least27_loop hN f ys K a2 a10 a13 b3 b4 b8 b9 b11 b12 xs (pre ++ [se x]) t (prod1 x next ys) (by omega) (by simp; omega) (by omega) hy
    rw [← mid, ← h3] at ih
    unfold S_least_27 F_least_27
    have h30 := fun (K : List V → Option R) (b6 b7 b11 b12 b14 b15 : Int) (a5 a13 a16 : List V) => least30_loop N hN f x K (sE ys) a2 a5 a13 a16 b3 b4 b6 b7 b11 b12 b14 b15 ys [] N next (by omega) (by simp; omega) (by omega)
    simp only [List.nil_append, List.length_nil, Int.natCast_zero] at h30
    have h30' : ∀ (K : List V → Option R) (b6 b7 b11 b12 b14 b15 : Int) (a5 a13 a16 : List V), S_least_30 N f (sE ys) a2 b3 b4 a5 b6 b7 (sE ys) ((sE ys).length : Int) b11 b12 a13 b14 b15 a16 x.p x.k x.s x.l N (sE next) 0 K = K (sE (prod1 x next ys)) := h30
    simp only [sE_cons, br_t, br_f, br_dec, br_not, br_and, br_or, bnd1_mk, bnd2_mk, bnd3_mk, bnd4_mk, bnd5_mk, at_zero, at_succ, at_mid, unInt_mk, unBool_mk, unStr_mk, unBytes_mk, unSl_mk, unAgg_mk, unCons_mk, unNil_mk, h1, h2, if_true, Int.toNat_natCast, h30', prod]
    exact ih
theorem least23_loop {R : Type} (hN : 200000 < N) (f : Int → Int → List V → Option (List V)) (n : Nat) (hf : ∀ (o m : Int) (k : Cl), vC o m k = true → k.nodes < n → k.wf → K63 k → f o m k.enc = some (sE (lC o m k))) (K : List V → Option R) (a6 : List V) (b4 b5 : Int) : ∀ (l : Cl) (pre : List V) (t : Nat) (out : List Sec), vL l = true → l.len < t → l.nodes ≤ n → l.wf → pre.length + l.len ≤ 9223372036854775807 → out.length * 2 ^ l.nodes ≤ 100000 → out.length ≤ 100000 → l.nodes ≤ 16 →
      S_least_23 N f (pre ++ l.enc) ((pre ++ l.enc).length : Int) b4 b5 a6 t (sE out) (pre.length : Int) K = K (sE (lq l true out))
  | l, pre, 0, out, _, ht, _, _, _, _, _, _ => by omega
  | .nil, pre, t + 1, out, _, ht, _, _, _, _, _, _ => by
    unfold S_least_23 F_least_23
    simp only [Cl.enc, br_t, br_f, br_dec, br_not, br_and, br_or, bnd1_mk, bnd2_mk, bnd3_mk, bnd4_mk, bnd5_mk, at_zero, at_succ, at_mid, unInt_mk, unBool_mk, unStr_mk, unBytes_mk, unSl_mk, unAgg_mk, unCons_mk, unNil_mk, endI, if_false, lq]
  | .cons o m k r, pre, t + 1, out, hv, ht, hn, hw, hl, hb, ho, h16 => by
    simp only [Cl.len, Cl.nodes] at ht hn hl hb h16
    rw [vL_cons, Bool.and_eq_true] at hv
    obtain ⟨_, _, hk1, hk2, hr⟩ := hw
    obtain ⟨h1, h2, h3, h4⟩ := stepC pre (ce o m k) r hl
    have hp2 : 2 ^ k.nodes ≤ 2 ^ 15 := Nat.pow_le_pow_right (by omega) (by omega)
    have hlc : (lC o m k).length ≤ 2 ^ k.nodes := by
      have hk := len_lq k [zeroS]
      have hk2 := len_lq k []
      have hp : 1 ≤ 2 ^ k.nodes := Nat.one_le_two_pow
      unfold lC
      split
      · simpa using hk.1
      split
      · simpa using hk2.2
      · exact Nat.le_trans (len_base o m) hp
    have hpr := len_prod out (lC o m k) []
    have hmul : (lC o m k).length * out.length ≤ 2 ^ k.nodes * out.length := Nat.mul_le_mul_right _ hlc
    have e : out.length * 2 ^ (k.nodes + r.nodes + 1) = (2 ^ k.nodes * out.length) * 2 ^ r.nodes * 2 := by
      rw [Nat.pow_succ, Nat.pow_add]; simp only [Nat.mul_comm, Nat.mul_left_comm, Nat.mul_assoc]
    rw [e] at hb
    have hone : 1 ≤ 2 ^ r.nodes := Nat.one_le_two_pow
    have hb1 : 2 ^ k.nodes * out.length ≤ (2 ^ k.nodes * out.length) * 2 ^ r.nodes := Nat.le_mul_of_pos_right _ hone
    have hb2 : (prod out [] (lC o m k)).length * 2 ^ r.nodes ≤ (2 ^ k.nodes * out.length) * 2 ^ r.nodes := Nat.mul_le_mul_right _ (by simp at hpr; omega)
    have ih := least23_loop hN f n hf K a6 b4 b5 r (pre ++ [ce o m k]) t (prod out [] (lC o m k)) hv.2 (by omega) (by omega) hr (by simp; omega) (by omega) (by simp at hpr; omega) (by omega)
    rw [← mid, ← h3] at ih
    have h27 := fun (K : List V → Option R) (a2 a10 a13 : List V) (b3 b4 b8 b9 b11 b12 : Int) => least27_loop N hN f out K a2 a10 a13 b3 b4 b8 b9 b11 b12 (lC o m k) [] N [] (by omega) (by simp; omega) (by simp; omega) ho
    have h27' : ∀ (K : List V → Option R) (a2 a10 a13 : List V) (b3 b4 b8 b9 b11 b12 : Int), S_least_27 N f (sE out) a2 b3 b4 (sE (lC o m k)) ((sE (lC o m k)).length : Int) b8 b9 a10 b11 b12 a13 N [] 0 K = K (sE (prod out [] (lC o m k))) := h27
    unfold S_least_23 F_least_23
    rw [lq_cons]
    simp only [enc_cons, br_t, br_f, br_dec, br_not, br_and, br_or, bnd1_mk, bnd2_mk, bnd3_mk, bnd4_mk, bnd5_mk, at_zero, at_succ, at_mid, unInt_mk, unBool_mk, unStr_mk, unBytes_mk, unSl_mk, unAgg_mk, unCons_mk, unNil_mk, h1, h2, if_true, Int.toNat_natCast, hf o m k hv.1 (by omega) hk2 hk1, h27', cond_true]
    exact ih
theorem least15_loop {R : Type} (hN : 200000 < N) (f : Int → Int → List V → Option (List V)) (n : Nat) (hf : ∀ (o m : Int) (k : Cl), vC o m k = true → k.nodes < n → k.wf → K63 k → f o m k.enc = some (sE (lC o m k))) (K : List V → Option R) (a6 : List V) (b4 b5 : Int) : ∀ (l : Cl) (pre : List V) (t : Nat) (out : List Sec), vL l = true → l.len < t → l.nodes ≤ n → l.wf → pre.length + l.len ≤ 9223372036854775807 → out.length + 2 ^ l.nodes ≤ 100000 →
      S_least_15 N f (pre ++ l.enc) ((pre ++ l.enc).length : Int) b4 b5 a6 t (sE out) (pre.length : Int) K = K (sE (lq l false out))
  | l, pre, 0, out, _, ht, _, _, _, _ => by omega
  | .nil, pre, t + 1, out, _, ht, _, _, _, _ => by
    unfold S_least_15 F_least_15
    simp only [Cl.enc, br_t, br_f, br_dec, br_not, br_and, br_or, bnd1_mk, bnd2_mk, bnd3_mk, bnd4_mk, bnd5_mk, at_zero, at_succ, at_mid, unInt_mk, unBool_mk, unStr_mk, unBytes_mk, unSl_mk, unAgg_mk, unCons_mk, unNil_mk, endI, if_false, lq]
  | .cons o m k r, pre, t + 1, out, hv, ht, hn, hw, hl, hb => by
    simp only [Cl.len, Cl.nodes] at ht hn hl hb
    rw [vL_cons, Bool.and_eq_true] at hv
    obtain ⟨_, _, hk1, hk2, hr⟩ := hw
    obtain ⟨h1, h2, h3, h4⟩ := stepC pre (ce o m k) r hl
    have hlc : (lC o m k).length ≤ 2 ^ k.nodes := by
      have hk := len_lq k [zeroS]
      have hk2 := len_lq k []
      have hp : 1 ≤ 2 ^ k.nodes := Nat.one_le_two_pow
      unfold lC
      split
      · simpa using hk.1
      split
      · simpa using hk2.2
      · exact Nat.le_trans (len_base o m) hp
    have h2a := two_add k.nodes r.nodes
    have hone : 1 ≤ 2 ^ r.nodes := Nat.one_le_two_pow
    have ih := least15_loop hN f n hf K a6 b4 b5 r (pre ++ [ce o m k]) t (out ++ lC o m k) hv.2 (by omega) (by omega) hr (by simp; omega) (by rw [List.length_append]; omega)
    rw [← mid, ← h3] at ih
    unfold S_least_15 F_least_15
    rw [lq_cons]
    have hlen : ((sE out).length + (sE (lC o m k)).length) * 32 ≤ 140737488355328 := by rw [sE_len, sE_len]; omega
    simp only [enc_cons, br_t, br_f, br_dec, br_not, br_and, br_or, bnd1_mk, bnd2_mk, bnd3_mk, bnd4_mk, bnd5_mk, at_zero, at_succ, at_mid, unInt_mk, unBool_mk, unStr_mk, unBytes_mk, unSl_mk, unAgg_mk, unCons_mk, unNil_mk, h1, h2, if_true, Int.toNat_natCast, hf o m k hv.1 (by omega) hk2 hk1, cond_false, hlen]
    rw [← sE_append]
    exact ih
theorem least_eq (hN : 200000 < N) : ∀ (M : Nat) (o m : Int) (k : Cl), vC o m k = true → k.nodes < M → k.nodes ≤ 15 → k.wf → K63 k → s_least N M o m k.enc = some (sE (lC o m k))
  | 0, o, m, k, _, h, _, _, _ => by omega
  | M + 1, o, m, k, hv, h, h15, hw, hl => by
    have hln := Cl.len_le k
    have hf := fun (o m : Int) (k' : Cl) (a0 : vC o m k' = true) (a1 : k'.nodes < k.nodes) (a2 : k'.wf) (a3 : K63 k') => least_eq hN M o m k' a0 (by omega) (by omega) a2 a3
    have hp2 : 2 ^ k.nodes ≤ 2 ^ 15 := Nat.pow_le_pow_right (by omega) (by omega)
    unfold s_least B_least lC
    simp only [br_dec]
    rcases vC_leaf hv with ⟨rfl, _⟩ | ⟨rfl, _⟩ | ⟨rfl, b1, b2, _⟩ | ⟨rfl, b1, b2, _⟩ | ⟨rfl, _⟩ | ⟨rfl, b1, b2, _⟩ | ⟨rfl | rfl, h1, h2, h3⟩
    · simp [baseS, sE]
    · simp [baseS, sE, zeroS]
    · have e := shl1 (n := m.toNat) (by omega)
      rw [Int.toNat_of_nonneg (by omega)] at e
      simp [baseS, sE, e]; omega
    · have e := shl1 (n := m.toNat) (by omega)
      rw [Int.toNat_of_nonneg (by omega)] at e
      simp [baseS, sE, e]; omega
    · simp [baseS, sE]
    · simp [baseS, sE]
    · have hL := least23_loop N hN (s_least N M) k.nodes hf (fun l1 => some l1) k.enc 6 m k [] N [zeroS] h3 (by omega) (Nat.le_refl _) hw (by simpa using hl) (by simp; omega) (by simp) (by omega)
      simp only [if_true, (by decide : ¬ (6 : Int) = 1), (by decide : ¬ (6 : Int) = 2), (by decide : ¬ (6 : Int) = 3), (by decide : ¬ (6 : Int) = 4), (by decide : ¬ (6 : Int) = 5), (by decide : ¬ (6 : Int) = 7), if_false]
      exact hL
    · have hL := least15_loop N hN (s_least N M) k.nodes hf (fun l1 => some l1) k.enc 7 m k [] N [] h3 (by omega) (Nat.le_refl _) hw (by simpa using hl) (by simp; omega)
      simp only [if_true, (by decide : ¬ (7 : Int) = 1), (by decide : ¬ (7 : Int) = 2), (by decide : ¬ (7 : Int) = 3), (by decide : ¬ (7 : Int) = 4), (by decide : ¬ (7 : Int) = 5), (by decide : ¬ (7 : Int) = 6), if_false]
      exact hL
theorem IndexFuncP_loop (o m : Int) (k : Cl) (hv : vC o m k = true) (g : GoodC N k) : ∀ (l : List Sec) (pre : List V) (t : Nat), l.length < t → pre.length + l.length ≤ 9223372036854775807 →
      ∃ i, S_IndexFuncP_2 N (pre ++ sE l) ((pre ++ sE l).length : Int) o m k.enc t (pre.length : Int) (fun n0 => some n0) (some (-1)) = some i ∧ decide (0 ≤ i) = !l.all fun x => satC x o m k
  | l, pre, 0, ht, _ => by omega
  | [], pre, t + 1, ht, _ => by
    unfold S_IndexFuncP_2 F_IndexFuncP_2
    simp only [sE, br_t, br_f, br_dec, br_not, br_and, br_or, bnd1_mk, bnd2_mk, bnd3_mk, bnd4_mk, bnd5_mk, at_zero, at_succ, at_mid, unInt_mk, unBool_mk, unStr_mk, unBytes_mk, unSl_mk, unAgg_mk, unCons_mk, unNil_mk, endI, if_false]
    exact ⟨-1, rfl, by simp⟩
  | x :: l, pre, t + 1, ht, hl => by
    simp only [List.length_cons] at ht hl
    obtain ⟨h1, h2, h3, h4⟩ := stepS pre (se x) l hl
    obtain ⟨i, ih1, ih2⟩ := IndexFuncP_loop o m k hv g l (pre ++ [se x]) t (by omega) (by simp; omega)
    rw [← mid, ← h3] at ih1
    unfold S_IndexFuncP_2 F_IndexFuncP_2 s_Implies1 C_Implies1
    rw [List.all_cons]
    simp only [sE_cons, br_t, br_f, br_dec, br_not, br_and, br_or, bnd1_mk, bnd2_mk, bnd3_mk, bnd4_mk, bnd5_mk, at_zero, at_succ, at_mid, unInt_mk, unBool_mk, unStr_mk, unBytes_mk, unSl_mk, unAgg_mk, unCons_mk, unNil_mk, h1, h2, if_true, Int.toNat_natCast, asat_eq N x N o m k hv g.fuel g.fuel g.wf g.len]
    cases satC x o m k with
    | false => exact ⟨_, rfl, by simp⟩
    | true => exact ⟨i, ih1, by rw [ih2]; rfl⟩
/-- What the program's Implies returns. -/
def impP (o m : Int) (k : Cl) (o' m' : Int) (k' : Cl) : Bool := decide (chk o m k = 0) && (decide (chk o' m' k' = 0) && (lC o m k).all fun x => satC x o' m' k')
theorem Implies_eq (hN : 200000 < N) (o m : Int) (k : Cl) (o' m' : Int) (k' : Cl) (g : GoodC N k) (g' : GoodC N k') : s_Implies N o m k.enc o' m' k'.enc = some (impP o m k o' m' k') := by
  unfold s_Implies impP
  rw [aCheck_eq N o m k g, bnd1_mk, br_not, br_dec]
  by_cases c : chk o m k = 0
  · rw [if_pos c, aCheck_eq N o' m' k' g', bnd1_mk, br_not, br_dec]
    by_cases c' : chk o' m' k' = 0
    · obtain ⟨v, n15, _⟩ := chk_zero c
      obtain ⟨v', _, _⟩ := chk_zero c'
      have hlc : (lC o m k).length ≤ 2 ^ k.nodes := by
        have hk := len_lq k [zeroS]
        have hk2 := len_lq k []
        have hp : 1 ≤ 2 ^ k.nodes := Nat.one_le_two_pow
        unfold lC
        split
        · simpa using hk.1
        split
        · simpa using hk2.2
        · exact Nat.le_trans (len_base o m) hp
      have hp2 : 2 ^ k.nodes ≤ 2 ^ 15 := Nat.pow_le_pow_right (by omega) (by omega)
      obtain ⟨i, i1, i2⟩ := IndexFuncP_loop N o' m' k' v' g' (lC o m k) [] N (by omega) (by simp; omega)
      have i1' : S_IndexFuncP_2 N (sE (lC o m k)) ((sE (lC o m k)).length : Int) o' m' k'.enc N 0 (fun n0 => some n0) (some (-1)) = some i := i1
      rw [if_pos c', least_eq N hN N o m k v g.fuel n15 g.wf g.len, bnd1_mk]
      unfold s_ContainsFuncP C_ContainsFuncP s_IndexFuncP C_IndexFuncP
      rw [i1', bnd1_mk]
      show some (!decide (0 ≤ i)) = _
      rw [i2, Bool.not_not]
      simp [c, c']
    · rw [if_neg c']; simp [c']
  · rw [if_neg c]; simp [c]
end
end Go.Proofs.YtahemenhcoedgaaDoor.En

/- Decoding data objects: what the program and the reference compute; there and back. -/
namespace Go.Proofs.YtahemenhcoedgaaDoor.En
open Go
set_option linter.unusedVariables false
def rdTag : List UInt8 → Except Int (Int × List UInt8)
  | [] => .error 4
  | u :: r => if (u.toNat : Int) = 0 then .error 4 else if ¬ (u.toNat : Int) % 32 = 31 then .ok (u.toNat, r) else
    match r with
    | [] => .error 5
    | w :: r' => if tagV (256 * (u.toNat : Int) + w.toNat) = true then .ok (256 * (u.toNat : Int) + w.toNat, r') else .error 4
def rdLen : List UInt8 → Except Int (Int × List UInt8)
  | [] => .error 5
  | u :: r => if (u.toNat : Int) < 128 then .ok (u.toNat, r) else if (u.toNat : Int) = 129 then
      (match r with
       | [] => .error 5
       | w :: r' => if (w.toNat : Int) < 128 then .error 4 else .ok (w.toNat, r'))
    else if (u.toNat : Int) = 130 then
      (match r with
       | w :: x :: r' => if 256 * (w.toNat : Int) + x.toNat < 256 then .error 4 else .ok (256 * (w.toNat : Int) + x.toNat, r')
       | _ => .error 5)
    else .error 4
def triple : Except Int (Int × List UInt8) → Int × List UInt8 × Int
  | .error e => (0, [], e)
  | .ok (t, r) => (t, r, 0)
def tripleR (b : List UInt8) : Except Int (Int × List UInt8) → Int × Int × Int
  | .error e => (0, 0, e)
  | .ok (t, r) => (t, (b.length : Int) - r.length, 0)
theorem at_one {R α : Type} (x y : α) (r : List α) (K : α → Option R) : at? (x :: y :: r) 1 K = K y := rfl
theorem shl8_or' (u w : UInt8) : bitsI .or .i64 (shlI .i64 (u.toNat : Int) 8) (w.toNat : Int) = 256 * (u.toNat : Int) + w.toNat := by
  have := u8_lt u; have := u8_lt w
  exact shl8_or _ _ (by omega) (by omega) (by omega) (by omega)
theorem or0' (w : UInt8) : bitsI .or .i64 0 (w.toNat : Int) = w.toNat := by have := u8_lt w; exact or0 _ (by omega) this
theorem w256 (u w : UInt8) : IntKind.i64.wrap (IntKind.i64.wrap (256 * (u.toNat : Int)) + (w.toNat : Int)) = 256 * (u.toNat : Int) + w.toNat := by
  have := u8_lt u; have := u8_lt w
  rw [w64 (n := 256 * (u.toNat : Int)) (by omega) (by omega), w64 (by omega) (by omega)]
theorem tmod32 (u : UInt8) : (u.toNat : Int).tmod 32 = (u.toNat : Int) % 32 := Int.tmod_eq_emod_of_nonneg (by omega)
theorem tripleR_ok (b : List UInt8) (t : Int) (r : List UInt8) (k : Int) (h : k = (b.length : Int) - r.length) : (some (t, k, 0) : Option (Int × Int × Int)) = some (tripleR b (.ok (t, r))) := by rw [h]; rfl
theorem tag_eq (N : Nat) (b : List UInt8) (h : b ≠ []) : s_tag N b = some (triple (rdTag b)) := by
  match b, h with
  | [u], _ =>
    have hl : (([u] : List UInt8).length : Int) = 1 := rfl
    unfold s_tag rdTag
    simp only [br_t, br_f, br_dec, br_not, br_and, br_or, bnd1_mk, bnd2_mk, bnd3_mk, bnd4_mk, bnd5_mk, at_zero, w64_u8, and31, List.drop_succ_cons, List.drop_zero, hl, (by decide : (0 : Int) < 1), (by decide : (1 : Int) ≤ 1), (by decide : (1 : Int) < 2), if_true]
    by_cases c0 : (u.toNat : Int) = 0
    · simp only [c0, if_true]; rfl
    · by_cases c1 : (u.toNat : Int) % 32 = 31
      · simp only [c0, c1, if_true, if_false, not_true]; rfl
      · simp only [c0, c1, if_true, if_false, not_false_iff]; rfl
  | u :: w :: r', _ =>
    have hu := u8_lt u
    have hw := u8_lt w
    have hl : ((u :: w :: r').length : Int) = r'.length + 2 := by simp; omega
    have f1 : (0 : Int) < r'.length + 2 := by omega
    have f2 : (1 : Int) ≤ r'.length + 2 := by omega
    have f3 : ¬ ((r'.length : Int) + 2 < 2) := by omega
    have f4 : (1 : Int) < r'.length + 2 := by omega
    have f5 : (2 : Int) ≤ r'.length + 2 := by omega
    unfold s_tag rdTag
    simp only [br_t, br_f, br_dec, br_not, br_and, br_or, bnd1_mk, bnd2_mk, bnd3_mk, bnd4_mk, bnd5_mk, at_zero, at_one, w64_u8, and31, shl8_or', List.drop_succ_cons, List.drop_zero, hl, f1, f2, f3, f4, f5, if_true, if_false, Valid_eq N (256 * (u.toNat : Int) + w.toNat) ⟨by omega, by omega⟩]
    by_cases c0 : (u.toNat : Int) = 0
    · simp only [c0, if_true]; rfl
    · by_cases c1 : (u.toNat : Int) % 32 = 31
      · simp only [c0, c1, if_true, if_false, not_true]
        cases hv : tagV (256 * (u.toNat : Int) + w.toNat) <;> rfl
      · simp only [c0, c1, if_true, if_false, not_false_iff]; rfl
theorem length_eq (N : Nat) (b : List UInt8) : s_length N b = some (triple (rdLen b)) := by
  match b with
  | [] => rfl
  | u :: r =>
    have hl : ((u :: r).length : Int) = r.length + 1 := by simp
    have f0 : ¬ ((r.length : Int) + 1 = 0) := by omega
    have f1 : (0 : Int) < r.length + 1 := by omega
    have f2 : (1 : Int) ≤ r.length + 1 := by omega
    unfold s_length rdLen
    simp only [br_t, br_f, br_dec, br_not, br_and, br_or, bnd1_mk, bnd2_mk, bnd3_mk, bnd4_mk, bnd5_mk, at_zero, w64_u8, or0', shl8_or', List.drop_succ_cons, List.drop_zero, hl, f0, f1, f2, if_true, if_false]
    by_cases c0 : (u.toNat : Int) < 128
    · simp only [c0, if_true]; rfl
    · by_cases c1 : (u.toNat : Int) = 129
      · simp only [c1, if_true, (by decide : ¬ ((129 : Int) < 128)), if_false]
        match r with
        | [] => rfl
        | w :: r' =>
          have hl : ((w :: r').length : Int) = r'.length + 1 := by simp
          have g0 : ¬ ((r'.length : Int) + 1 < 1) := by omega
          have g1 : (0 : Int) < r'.length + 1 := by omega
          have g2 : (1 : Int) ≤ r'.length + 1 := by omega
          have e0 : ∀ (K : UInt8 → Option (Int × List UInt8 × Int)), at? (w :: r') 0 K = K w := fun _ => rfl
          simp only [hl, g0, g1, g2, if_true, if_false]
          rw [e0]
          by_cases c2 : (w.toNat : Int) < 128
          · simp only [c2, if_true]; rfl
          · simp only [c2, if_false]; rfl
      · by_cases c2 : (u.toNat : Int) = 130
        · simp only [c2, if_true, (by decide : ¬ ((130 : Int) < 128)), (by decide : ¬ ((130 : Int) = 129)), if_false]
          match r with
          | [] => rfl
          | [w] => rfl
          | w :: x :: r' =>
            have hl : ((w :: x :: r').length : Int) = r'.length + 2 := by simp; omega
            have hl2 : ((x :: r').length : Int) = r'.length + 1 := by simp
            have g0 : ¬ ((r'.length : Int) + 2 < 2) := by omega
            have g1 : (0 : Int) < r'.length + 2 := by omega
            have g2 : (1 : Int) ≤ r'.length + 2 := by omega
            have g3 : (0 : Int) < r'.length + 1 := by omega
            have g4 : (1 : Int) ≤ r'.length + 1 := by omega
            have e0 : ∀ (K : UInt8 → Option (Int × List UInt8 × Int)), at? (w :: x :: r') 0 K = K w := fun _ => rfl
            have e1 : ∀ (K : UInt8 → Option (Int × List UInt8 × Int)), at? (x :: r') 0 K = K x := fun _ => rfl
            simp only [hl, g0, g1, g2, if_true, if_false, List.drop_succ_cons, List.drop_zero]
            rw [e0]
            simp only [hl2, g3, g4, if_true]
            rw [e1]
            by_cases c3 : 256 * (w.toNat : Int) + x.toNat < 256
            · simp only [c3, if_true]; rfl
            · simp only [c3, if_false]; rfl
        · simp only [c0, c1, c2, if_false]; rfl
theorem rtag_eq (N : Nat) (b : List UInt8) (h : b ≠ []) : s_rtag N b = some (tripleR b (rdTag b)) := by
  match b, h with
  | [u], _ =>
    have hl : (([u] : List UInt8).length : Int) = 1 := rfl
    unfold s_rtag rdTag
    simp only [br_t, br_f, br_dec, br_not, br_and, br_or, bnd1_mk, bnd2_mk, bnd3_mk, bnd4_mk, bnd5_mk, at_zero, w64_u8, tmod32, hl, (by decide : (0 : Int) < 1), (by decide : (1 : Int) < 2), if_true]
    by_cases c0 : (u.toNat : Int) = 0
    · simp only [c0, if_true]; rfl
    · by_cases c1 : (u.toNat : Int) % 32 = 31
      · simp only [c0, c1, if_true, if_false, not_true]; rfl
      · simp only [c0, c1, if_true, if_false, not_false_iff]; rfl
  | u :: w :: r', _ =>
    have hu := u8_lt u
    have hw := u8_lt w
    have hl : ((u :: w :: r').length : Int) = r'.length + 2 := by simp; omega
    have f1 : (0 : Int) < r'.length + 2 := by omega
    have f3 : ¬ ((r'.length : Int) + 2 < 2) := by omega
    have f4 : (1 : Int) < r'.length + 2 := by omega
    unfold s_rtag rdTag
    simp only [br_t, br_f, br_dec, br_not, br_and, br_or, bnd1_mk, bnd2_mk, bnd3_mk, bnd4_mk, bnd5_mk, at_zero, at_one, w64_u8, tmod32, w256, hl, f1, f3, f4, if_true, if_false]
    by_cases c0 : (u.toNat : Int) = 0
    · simp only [c0, if_true]; rfl
    · by_cases c1 : (u.toNat : Int) % 32 = 31
      · simp only [c0, c1, if_true, if_false, not_true]
        by_cases c2 : (w.toNat : Int) < 31
        · rw [if_neg (show ¬ (tagV (256 * (u.toNat : Int) + w.toNat) = true) by simp [tagV]; omega)]
          simp only [c2, if_true]; rfl
        · by_cases c3 : 127 < (w.toNat : Int)
          · rw [if_neg (show ¬ (tagV (256 * (u.toNat : Int) + w.toNat) = true) by simp [tagV]; omega)]
            simp only [c2, c3, if_true, if_false]; rfl
          · rw [if_pos (show tagV (256 * (u.toNat : Int) + w.toNat) = true by simp [tagV]; omega)]
            simp only [c2, c3, if_false]
            apply tripleR_ok; rw [hl]; omega
      · simp only [c0, c1, if_true, if_false, not_false_iff]
        apply tripleR_ok; simp only [List.length_cons]; omega
theorem rlength_eq (N : Nat) (b : List UInt8) : s_rlength N b = some (tripleR b (rdLen b)) := by
  match b with
  | [] => rfl
  | u :: r =>
    have hl : ((u :: r).length : Int) = r.length + 1 := by simp
    have f0 : ¬ ((r.length : Int) + 1 < 1) := by omega
    have f1 : (0 : Int) < r.length + 1 := by omega
    unfold s_rlength rdLen
    simp only [br_t, br_f, br_dec, br_not, br_and, br_or, bnd1_mk, bnd2_mk, bnd3_mk, bnd4_mk, bnd5_mk, at_zero, w64_u8, w256, hl, f0, f1, if_true, if_false]
    by_cases c0 : (u.toNat : Int) < 128
    · simp only [c0, if_true]
      apply tripleR_ok; simp only [List.length_cons]; omega
    · by_cases c1 : (u.toNat : Int) = 129
      · simp only [c1, if_true, (by decide : ¬ ((129 : Int) < 128)), if_false]
        match r with
        | [] => rfl
        | w :: r' =>
          have hl : ((w :: r').length : Int) + 1 = r'.length + 2 := by simp; omega
          have g0 : ¬ ((r'.length : Int) + 2 < 2) := by omega
          have g1 : (1 : Int) < r'.length + 2 := by omega
          have e0 : ∀ (K : UInt8 → Option (Int × Int × Int)), at? (u :: w :: r') 1 K = K w := fun _ => rfl
          simp only [hl, g0, g1, if_true, if_false]
          rw [e0]
          by_cases c2 : (w.toNat : Int) < 128
          · simp only [c2, if_true]; rfl
          · simp only [c2, if_false]
            apply tripleR_ok; simp only [List.length_cons]; omega
      · by_cases c2 : (u.toNat : Int) = 130
        · simp only [c2, if_true, (by decide : ¬ ((130 : Int) < 128)), (by decide : ¬ ((130 : Int) = 129)), if_false]
          match r with
          | [] => rfl
          | [w] => rfl
          | w :: x :: r' =>
            have hl : ((w :: x :: r').length : Int) + 1 = r'.length + 3 := by simp; omega
            have g0 : ¬ ((r'.length : Int) + 3 < 3) := by omega
            have g1 : (1 : Int) < r'.length + 3 := by omega
            have g2 : (2 : Int) < r'.length + 3 := by omega
            have e0 : ∀ (K : UInt8 → Option (Int × Int × Int)), at? (u :: w :: x :: r') 1 K = K w := fun _ => rfl
            have e1 : ∀ (K : UInt8 → Option (Int × Int × Int)), at? (u :: w :: x :: r') 2 K = K x := fun _ => rfl
            simp only [hl, g0, g1, g2, if_true, if_false]
            rw [e0, e1]
            by_cases c3 : 256 * (w.toNat : Int) + x.toNat < 256
            · simp only [c3, if_true]; rfl
            · simp only [c3, if_false]
              apply tripleR_ok; simp only [List.length_cons]; omega
        · simp only [c0, c1, c2, if_false]; rfl
end Go.Proofs.YtahemenhcoedgaaDoor.En

/- Decoding lists of data objects. -/
namespace Go.Proofs.YtahemenhcoedgaaDoor.En
open Go
set_option linter.unusedVariables false
def dec : Nat → Int → List UInt8 → Except Int Tl
  | 0, _, _ => .error 4
  | n + 1, d, b =>
    if b.length = 0 then .ok .nil else if 8 < d then .error 4 else
    match rdTag b with
    | .error e => .error e
    | .ok (t, r) => match rdLen r with
      | .error e => .error e
      | .ok (m, r') =>
        if (r'.length : Int) < m then .error 5
        else if tagC t = true then
          (match dec n (d + 1) (r'.take m.toNat) with
           | .error e => .error e
           | .ok k => match dec n d (r'.drop m.toNat) with
             | .error e => .error e
             | .ok l => .ok (.cons t [] k l))
        else
          (match dec n d (r'.drop m.toNat) with
           | .error e => .error e
           | .ok l => .ok (.cons t (r'.take m.toNat) .nil l))
theorem rdTag_ok {b r : List UInt8} {t : Int} (h : rdTag b = .ok (t, r)) : tagV t = true ∧ b = tagB t ++ r := by
  match b, h with
  | u :: r0, h =>
    have hu := u8_lt u
    unfold rdTag at h
    dsimp only at h
    by_cases c0 : (u.toNat : Int) = 0
    · rw [if_pos c0] at h; cases h
    · rw [if_neg c0] at h
      by_cases c1 : (u.toNat : Int) % 32 = 31
      · rw [if_neg (fun h => h c1)] at h
        match r0, h with
        | w :: r', h =>
          have hw := u8_lt w
          simp only at h
          by_cases hv : tagV (256 * (u.toNat : Int) + w.toNat) = true
          · rw [if_pos hv] at h
            injection h with h
            injection h with e1 e2
            subst e1 e2
            refine ⟨hv, ?_⟩
            unfold tagB
            simp [tagV] at hv
            rw [if_pos (by omega), byteI_eq (u := u) (by omega), byteI_eq (u := w) (by omega)]; rfl
          · rw [if_neg hv] at h; cases h
      · rw [if_pos c1] at h
        injection h with h
        injection h with e1 e2
        subst e1 e2
        refine ⟨by simp [tagV]; omega, ?_⟩
        unfold tagB
        rw [if_neg (by omega), byteI_u8]; rfl
set_option maxRecDepth 100000 in
theorem rdTag_err {b : List UInt8} {e : Int} (h : rdTag b = .error e) : e = 4 ∨ e = 5 := by
  unfold rdTag at h
  repeat' split at h
  all_goals first | cases h | skip
  all_goals simp
set_option maxRecDepth 100000 in
theorem rdLen_ok {b r : List UInt8} {m : Int} (h : rdLen b = .ok (m, r)) : 0 ≤ m ∧ m ≤ 65535 ∧ b = lenB m ++ r := by
  match b, h with
  | u :: r0, h =>
    have hu := u8_lt u
    unfold rdLen at h
    dsimp only at h
    by_cases c0 : (u.toNat : Int) < 128
    · rw [if_pos c0] at h
      injection h with h
      injection h with e1 e2
      subst e1 e2
      refine ⟨by omega, by omega, ?_⟩
      unfold lenB
      rw [if_pos c0, byteI_u8]; rfl
    · rw [if_neg c0] at h
      by_cases c1 : (u.toNat : Int) = 129
      · rw [if_pos c1] at h
        match r0, h with
        | w :: r', h =>
          have hw := u8_lt w
          simp only at h
          by_cases c2 : (w.toNat : Int) < 128
          · rw [if_pos c2] at h; cases h
          · rw [if_neg c2] at h
            injection h with h
            injection h with e1 e2
            subst e1 e2
            refine ⟨by omega, by omega, ?_⟩
            unfold lenB
            rw [if_neg c2, if_pos hw, byteI_u8]
            have : u = 129 := by apply UInt8.toNat_inj.1; show u.toNat = 129; omega
            rw [this]; rfl
      · rw [if_neg c1] at h
        by_cases c2 : (u.toNat : Int) = 130
        · rw [if_pos c2] at h
          match r0, h with
          | w :: x :: r', h =>
            have hw := u8_lt w
            have hx := u8_lt x
            simp only at h
            by_cases c3 : 256 * (w.toNat : Int) + x.toNat < 256
            · rw [if_pos c3] at h; cases h
            · rw [if_neg c3] at h
              injection h with h
              injection h with e1 e2
              subst e1 e2
              refine ⟨by omega, by omega, ?_⟩
              unfold lenB
              rw [if_neg (by omega), if_neg c3, byteI_eq (u := w) (by omega), byteI_eq (u := x) (by omega)]
              have : u = 130 := by apply UInt8.toNat_inj.1; show u.toNat = 130; omega
              rw [this]; rfl
        · rw [if_neg c2] at h; cases h
set_option maxRecDepth 100000 in
theorem rdLen_err {b : List UInt8} {e : Int} (h : rdLen b = .error e) : e = 4 ∨ e = 5 := by
  match b, h with
  | [], h => injection h with h; exact .inr h.symm
  | u :: r, h =>
    unfold rdLen at h
    dsimp only at h
    by_cases c0 : (u.toNat : Int) < 128
    · rw [if_pos c0] at h; cases h
    · rw [if_neg c0] at h
      by_cases c1 : (u.toNat : Int) = 129
      · rw [if_pos c1] at h
        match r, h with
        | [], h => injection h with h; exact .inr h.symm
        | w :: r', h =>
          dsimp only at h
          by_cases c2 : (w.toNat : Int) < 128
          · rw [if_pos c2] at h; injection h with h; exact .inl h.symm
          · rw [if_neg c2] at h; cases h
      · rw [if_neg c1] at h
        by_cases c2 : (u.toNat : Int) = 130
        · rw [if_pos c2] at h
          match r, h with
          | [], h => injection h with h; exact .inr h.symm
          | [w], h => injection h with h; exact .inr h.symm
          | w :: x :: r', h =>
            dsimp only at h
            by_cases c3 : 256 * (w.toNat : Int) + x.toNat < 256
            · rw [if_pos c3] at h; injection h with h; exact .inl h.symm
            · rw [if_neg c3] at h; cases h
        · rw [if_neg c2] at h; injection h with h; exact .inl h.symm
theorem rdTag_put {t : Int} (h : tagV t = true) (x : List UInt8) : rdTag (tagB t ++ x) = .ok (t, x) := by
  have h' := h
  simp [tagV] at h'
  unfold tagB
  by_cases c : 255 < t
  · rw [if_pos c]
    show rdTag (byteI (t / 256) :: byteI t :: x) = _
    unfold rdTag
    simp only [byteI_toNat]
    rw [if_neg (by omega), if_neg (by omega)]
    have e : 256 * (t / 256 % 256) + t % 256 = t := by omega
    rw [e, if_pos h]
  · rw [if_neg c]
    show rdTag (byteI t :: x) = _
    unfold rdTag
    simp only [byteI_toNat]
    rw [if_neg (by omega), if_pos (by omega)]
    congr 2; omega
theorem rdLen_put {m : Int} (h0 : 0 ≤ m) (h1 : m ≤ 65535) (x : List UInt8) : rdLen (lenB m ++ x) = .ok (m, x) := by
  unfold lenB
  by_cases c : m < 128
  · rw [if_pos c]
    show rdLen (byteI m :: x) = _
    unfold rdLen
    simp only [byteI_toNat]
    rw [if_pos (by omega)]; congr 2; omega
  · rw [if_neg c]
    by_cases c2 : m < 256
    · rw [if_pos c2]
      show rdLen (129 :: byteI m :: x) = _
      unfold rdLen
      simp only [byteI_toNat]
      rw [if_neg (by decide), if_pos (by decide), if_neg (by omega)]; congr 2; omega
    · rw [if_neg c2]
      show rdLen (130 :: byteI (m / 256) :: byteI m :: x) = _
      unfold rdLen
      simp only [byteI_toNat]
      rw [if_neg (by decide), if_neg (by decide), if_pos (by decide), if_neg (by omega)]; congr 2; omega
theorem dec_err : ∀ (n : Nat) (d : Int) (b : List UInt8) (e : Int), dec n d b = .error e → e = 4 ∨ e = 5
  | 0, d, b, e, h => by simp [dec] at h; omega
  | n + 1, d, b, e, h => by
    unfold dec at h
    split at h
    · cases h
    · split at h
      · injection h with h; omega
      · split at h
        · rename_i e' he; injection h with h; subst h; exact rdTag_err he
        · split at h
          · rename_i e' he; injection h with h; subst h; exact rdLen_err he
          · split at h
            · injection h with h; omega
            · split at h
              · split at h
                · rename_i e' he; injection h with h; subst h; exact dec_err n _ _ _ he
                · split at h
                  · rename_i e' he; injection h with h; subst h; exact dec_err n _ _ _ he
                  · cases h
              · split at h
                · rename_i e' he; injection h with h; subst h; exact dec_err n _ _ _ he
                · cases h
/-- Enough fuel is enough. -/
theorem dec_fuel : ∀ (n : Nat) (m : Nat) (d : Int) (b : List UInt8), b.length < n → b.length < m → dec n d b = dec m d b
  | 0, m, d, b, h, _ => by omega
  | n + 1, 0, d, b, _, h => by omega
  | n + 1, m + 1, d, b, h1, h2 => by
    unfold dec
    split
    · rfl
    · split
      · rfl
      · split
        · rfl
        · rename_i t r hr
          obtain ⟨_, e1⟩ := rdTag_ok hr
          have ht := tagB_len t
          have hb : b.length = (tagB t).length + r.length := by rw [e1, List.length_append]
          split
          · rfl
          · rename_i q r' hr'
            obtain ⟨_, _, e2⟩ := rdLen_ok hr'
            have hl := lenB_len q
            have hb2 : r.length = (lenB q).length + r'.length := by rw [e2, List.length_append]
            have i1 := dec_fuel n m (d + 1) (r'.take q.toNat) (by rw [List.length_take]; omega) (by rw [List.length_take]; omega)
            have i2 := dec_fuel n m d (r'.drop q.toNat) (by rw [List.length_drop]; omega) (by rw [List.length_drop]; omega)
            rw [i1, i2]
/-- What is encoded is decoded. -/
theorem dec_enc : ∀ (l : Tl) (n : Nat) (d : Int), okL d l = true → (encL l).length ≤ 65535 → (encL l).length < n → dec n d (encL l) = .ok l
  | .nil, 0, d, _, _, h => by simp at h
  | .nil, n + 1, d, _, _, _ => by unfold dec; rw [if_pos (by rfl)]
  | .cons t v k r, 0, d, _, _, h => by simp at h
  | .cons t v k r, n + 1, d, hok, hE, hn => by
    unfold okL at hok
    simp only [Bool.and_eq_true, decide_eq_true_eq] at hok
    obtain ⟨⟨hd8, htv, hb⟩, hokr⟩ := hok
    have ht := tagB_len t
    have hl := lenB_len ((bif tagC t then encL k else v).length : Int)
    unfold dec
    rw [encL_cons] at hE hn ⊢
    generalize hB : (bif tagC t then encL k else v) = B at *
    simp only [List.length_append] at hE hn
    rw [if_neg (by simp only [List.length_append]; omega), if_neg (by omega)]
    rw [List.append_assoc, List.append_assoc, rdTag_put htv]
    simp only
    rw [rdLen_put (by omega) (by omega)]
    simp only
    rw [if_neg (by simp only [List.length_append]; omega)]
    rw [Int.toNat_natCast, List.take_left, List.drop_left]
    rw [dec_enc r n d hokr (by omega) (by omega)]
    cases hc : tagC t with
    | true =>
      rw [hc] at hB hb
      simp only [cond_true, Bool.and_eq_true] at hB hb
      subst hB
      rw [if_pos rfl, dec_enc k n (d + 1) hb.2 (by omega) (by omega)]
      have hv0 : v = [] := by cases v with | nil => rfl | cons a b => simp at hb
      rw [hv0]
    | false =>
      rw [hc] at hB hb
      simp only [cond_false] at hB hb
      subst hB
      have hk0 : k = .nil := by cases k with | nil => rfl | cons a b c d => simp [Tl.isNil] at hb
      rw [if_neg (by simp), hk0]
/-- What is decoded is encoded to the same bytes. -/
theorem enc_dec : ∀ (n : Nat) (d : Int) (b : List UInt8) (l : Tl), dec n d b = .ok l → okL d l = true ∧ encL l = b ∧ l.wt ≤ b.length ∧ l.wf
  | 0, d, b, l, h => by simp [dec] at h
  | n + 1, d, b, l, h => by
    unfold dec at h
    split at h
    · rename_i h0
      injection h with h
      subst h
      have : b = [] := List.length_eq_zero_iff.1 h0
      subst this
      exact ⟨rfl, rfl, Nat.le_refl _, trivial⟩
    · split at h
      · cases h
      · rename_i hd8
        split at h
        · cases h
        · rename_i t r hr
          obtain ⟨hv, e1⟩ := rdTag_ok hr
          have hvr := tagV_range hv
          have ht := tagB_len t
          have hb : b.length = (tagB t).length + r.length := by rw [e1, List.length_append]
          split at h
          · cases h
          · rename_i q r' hr'
            obtain ⟨hq0, hq1, e2⟩ := rdLen_ok hr'
            have hl := lenB_len q
            have hb2 : r.length = (lenB q).length + r'.length := by rw [e2, List.length_append]
            split at h
            · cases h
            · rename_i hlt
              have htake : (r'.take q.toNat).length = q.toNat := by rw [List.length_take]; omega
              have hdrop : (r'.drop q.toNat).length = r'.length - q.toNat := List.length_drop ..
              have hqq : ((r'.take q.toNat).length : Int) = q := by omega
              split at h
              · rename_i hc
                split at h
                · cases h
                · rename_i k hk
                  obtain ⟨k1, k2, k3, k4⟩ := enc_dec n _ _ _ hk
                  split at h
                  · cases h
                  · rename_i l' hl'
                    obtain ⟨l1, l2, l3, l4⟩ := enc_dec n _ _ _ hl'
                    injection h with h
                    subst h
                    refine ⟨by simp [okL, hv, hc, k1, l1]; omega, ?_, by simp only [Tl.wt, List.length_nil]; omega, ⟨by omega, by simp, ?_, k4, l4⟩⟩
                    · rw [encL_cons, hc, cond_true, k2, l2, hqq, e1, e2]
                      simp only [List.append_assoc, List.take_append_drop]
                    · have := k.len_wt; omega
              · rename_i hc
                split at h
                · cases h
                · rename_i l' hl'
                  obtain ⟨l1, l2, l3, l4⟩ := enc_dec n _ _ _ hl'
                  injection h with h
                  subst h
                  have hc' : tagC t = false := by simpa using hc
                  refine ⟨by simp [okL, hv, hc', l1, Tl.isNil]; omega, ?_, by simp only [Tl.wt]; omega, ⟨by omega, ?_, by simp [Tl.len], trivial, l4⟩⟩
                  · rw [encL_cons, hc', cond_false, l2, hqq, e1, e2]
                    simp only [List.append_assoc, List.take_append_drop]
                  · omega
end Go.Proofs.YtahemenhcoedgaaDoor.En

/- Decode, of the program and of the reference. -/
namespace Go.Proofs.YtahemenhcoedgaaDoor.En
open Go
set_option linter.unusedVariables false
def decP (acc : List V) : Except Int Tl → List V × Int
  | .ok l => (acc ++ l.enc, 0)
  | .error e => ([], e)
theorem decode_loop (N : Nat) (f : List UInt8 → Int → Option (List V × Int)) (d : Int) (hd : 1 ≤ d ∧ d ≤ 9) (n : Nat) (hf : d ≤ 8 → ∀ (b : List UInt8), b.length < n → f b (d + 1) = some (decP [] (dec n (d + 1) b))) :
    ∀ (t : Nat) (b : List UInt8) (acc : List V), b.length < t → b.length ≤ n → b.length ≤ 4096 → acc.length + b.length ≤ 4096 →
      S_decode_2 N f d t b acc (fun l0 n1 l2 => some (l0, n1)) (fun l3 => some (l3, 0)) = some (decP acc (dec (n + 1) d b))
  | 0, b, acc, ht, _, _, _ => by omega
  | t + 1, b, acc, ht, hn, hb, ha => by
    unfold S_decode_2 F_decode_2 dec
    simp only [br_dec, br_not, br_and]
    by_cases h0 : b.length = 0
    · rw [if_pos h0, if_neg (by omega)]; simp [decP, Tl.enc]
    · rw [if_neg h0, if_pos (by omega)]
      by_cases h8 : 8 < d
      · rw [if_pos h8, if_pos h8]; rfl
      · rw [if_neg h8, if_neg h8]
        have hbn : b ≠ [] := fun e => h0 (by rw [e]; rfl)
        rw [tag_eq N b hbn]
        cases hr : rdTag b with
        | error e =>
          have := rdTag_err hr
          simp only [triple, bnd3_mk]
          rw [if_neg (by omega)]; rfl
        | ok p =>
          obtain ⟨tg, r⟩ := p
          obtain ⟨hv, e1⟩ := rdTag_ok hr
          have hvr := tagV_range hv
          have ht2 := tagB_len tg
          have hbl : b.length = (tagB tg).length + r.length := by rw [e1, List.length_append]
          simp only [triple, bnd3_mk, if_true]
          rw [length_eq N r]
          cases hr' : rdLen r with
          | error e =>
            have := rdLen_err hr'
            simp only [triple, bnd3_mk]
            rw [if_neg (by omega)]; rfl
          | ok p =>
            obtain ⟨m, r'⟩ := p
            obtain ⟨hm0, hm1, e2⟩ := rdLen_ok hr'
            have hl2 := lenB_len m
            have hrl : r.length = (lenB m).length + r'.length := by rw [e2, List.length_append]
            simp only [triple, bnd3_mk, if_true]
            by_cases hlt : (r'.length : Int) < m
            · rw [if_pos hlt, if_pos hlt]; rfl
            · rw [if_neg hlt, if_neg hlt, Constructed_eq N tg ⟨by omega, by omega⟩, bnd1_mk]
              have htake : (r'.take m.toNat).length = m.toNat := by rw [List.length_take]; omega
              have hdrop : (r'.drop m.toNat).length = r'.length - m.toNat := List.length_drop ..
              have f1 : (0 : Int) ≤ m := hm0
              have f2 : m ≤ (r'.length : Int) := by omega
              have wd : IntKind.i64.wrap (d + 1) = d + 1 := w64 (by omega) (by omega)
              have g2 : (acc.length + (0 + 1)) * 56 ≤ 140737488355328 := by omega
              have g1 : (0 + (r'.take m.toNat).length) * 1 ≤ 140737488355328 := by omega
              simp only [f1, f2, if_true, List.length_cons, List.length_nil, wd, g1, g2]
              have efu : ∀ (b' : List UInt8), b'.length < n → dec n d b' = dec (n + 1) d b' := fun b' h => dec_fuel n (n + 1) d b' h (by omega)
              cases hc : tagC tg with
              | true =>
                rw [br_t, if_pos rfl, hf (by omega) _ (by omega)]
                cases hk : dec n (d + 1) (r'.take m.toNat) with
                | error e =>
                  have := dec_err _ _ _ _ hk
                  simp only [decP, bnd2_mk]
                  rw [if_neg (by omega)]
                | ok k =>
                  simp only [decP, bnd2_mk, if_true]
                  rw [decode_loop N f d hd n hf t (r'.drop m.toNat) _ (by omega) (by omega) (by omega) (by simp; omega), ← efu _ (by omega)]
                  cases dec n d (r'.drop m.toNat) with
                  | error e => rfl
                  | ok l => simp [decP, Tl.enc]
              | false =>
                rw [br_f, if_neg (by simp)]
                unfold s_clone
                rw [br_dec, if_pos (by omega), bnd1_mk]
                rw [decode_loop N f d hd n hf t (r'.drop m.toNat) _ (by omega) (by omega) (by omega) (by simp; omega), ← efu _ (by omega)]
                cases dec n d (r'.drop m.toNat) with
                | error e => rfl
                | ok l => simp [decP, Tl.enc]
theorem decode_eq (N : Nat) (hN : 4096 < N) : ∀ (M : Nat) (b : List UInt8) (d : Int), 1 ≤ d → d ≤ 9 → 9 < d + M → b.length ≤ 4096 → s_decode N M b d = some (decP [] (dec (b.length + 1) d b))
  | 0, b, d, h1, h2, h, _ => by omega
  | M + 1, b, d, h1, h2, h, hb => by
    unfold s_decode B_decode
    exact decode_loop N (s_decode N M) d ⟨h1, h2⟩ b.length (fun h8 b' hb' => by
      rw [decode_eq N hN M b' (d + 1) (by omega) (by omega) (by omega) (by omega), dec_fuel (b'.length + 1) b.length (d + 1) b' (by omega) hb']) N b [] (by omega) (Nat.le_refl _) hb (by simpa using hb)
theorem rread_loop (N : Nat) (f : List UInt8 → Int → Option (List V × Int)) (d : Int) (hd : 1 ≤ d ∧ d ≤ 9) (n : Nat) (hf : d ≤ 8 → ∀ (b : List UInt8), b.length < n → f b (d + 1) = some (decP [] (dec n (d + 1) b))) :
    ∀ (t : Nat) (b : List UInt8) (acc : List V), b.length < t → b.length ≤ n → b.length ≤ 4096 → acc.length + b.length ≤ 4096 →
      S_rread_2 N f d t b acc (fun l0 n1 l2 => some (l0, n1)) (fun l3 => some (l3, 0)) = some (decP acc (dec (n + 1) d b))
  | 0, b, acc, ht, _, _, _ => by omega
  | t + 1, b, acc, ht, hn, hb, ha => by
    unfold S_rread_2 F_rread_2 dec
    simp only [br_dec, br_not, br_and]
    by_cases h0 : b.length = 0
    · rw [if_pos h0, if_neg (by omega)]; simp [decP, Tl.enc]
    · rw [if_neg h0, if_pos (by omega)]
      by_cases h8 : 8 < d
      · rw [if_pos h8, if_pos h8]; rfl
      · rw [if_neg h8, if_neg h8]
        have hbn : b ≠ [] := fun e => h0 (by rw [e]; rfl)
        rw [rtag_eq N b hbn]
        cases hr : rdTag b with
        | error e =>
          have := rdTag_err hr
          simp only [tripleR, bnd3_mk]
          rw [if_neg (by omega)]; rfl
        | ok p =>
          obtain ⟨tg, r⟩ := p
          obtain ⟨hv, e1⟩ := rdTag_ok hr
          have hvr := tagV_range hv
          have ht2 := tagB_len tg
          have hbl : b.length = (tagB tg).length + r.length := by rw [e1, List.length_append]
          have ed : b.drop ((b.length : Int) - (r.length : Int)).toNat = r := by
            rw [show ((b.length : Int) - (r.length : Int)).toNat = (tagB tg).length by omega, e1, List.drop_left]
          simp only [tripleR, bnd3_mk, if_true, ed]
          rw [if_pos (by omega), if_pos (by omega), rlength_eq N r]
          cases hr' : rdLen r with
          | error e =>
            have := rdLen_err hr'
            simp only [tripleR, bnd3_mk]
            rw [if_neg (by omega)]; rfl
          | ok p =>
            obtain ⟨m, r'⟩ := p
            obtain ⟨hm0, hm1, e2⟩ := rdLen_ok hr'
            have hl2 := lenB_len m
            have hrl : r.length = (lenB m).length + r'.length := by rw [e2, List.length_append]
            have ed2 : r.drop ((r.length : Int) - (r'.length : Int)).toNat = r' := by
              rw [show ((r.length : Int) - (r'.length : Int)).toNat = (lenB m).length by omega, e2, List.drop_left]
            simp only [tripleR, bnd3_mk, if_true, ed2]
            rw [if_pos (by omega), if_pos (by omega)]
            by_cases hlt : (r'.length : Int) < m
            · rw [if_pos hlt, if_pos hlt]; rfl
            · rw [if_neg hlt, if_neg hlt, rConstructed_eq N tg ⟨by omega, by omega⟩, bnd1_mk]
              have htake : (r'.take m.toNat).length = m.toNat := by rw [List.length_take]; omega
              have hdrop : (r'.drop m.toNat).length = r'.length - m.toNat := List.length_drop ..
              have f1 : (0 : Int) ≤ m := hm0
              have f2 : m ≤ (r'.length : Int) := by omega
              have wd : IntKind.i64.wrap (d + 1) = d + 1 := w64 (by omega) (by omega)
              have g2 : (acc.length + (0 + 1)) * 56 ≤ 140737488355328 := by omega
              have g1 : (0 + (r'.take m.toNat).length) * 1 ≤ 140737488355328 := by omega
              simp only [f1, f2, if_true, List.length_cons, List.length_nil, wd, g1, g2]
              have efu : ∀ (b' : List UInt8), b'.length < n → dec n d b' = dec (n + 1) d b' := fun b' h => dec_fuel n (n + 1) d b' h (by omega)
              cases hc : tagC tg with
              | true =>
                rw [br_t, if_pos rfl, hf (by omega) _ (by omega)]
                cases hk : dec n (d + 1) (r'.take m.toNat) with
                | error e =>
                  have := dec_err _ _ _ _ hk
                  simp only [decP, bnd2_mk]
                  rw [if_neg (by omega)]
                | ok k =>
                  simp only [decP, bnd2_mk, if_true]
                  rw [rread_loop N f d hd n hf t (r'.drop m.toNat) _ (by omega) (by omega) (by omega) (by simp; omega), ← efu _ (by omega)]
                  cases dec n d (r'.drop m.toNat) with
                  | error e => rfl
                  | ok l => simp [decP, Tl.enc]
              | false =>
                rw [br_f, if_neg (by simp)]
                rw [rread_loop N f d hd n hf t (r'.drop m.toNat) _ (by omega) (by omega) (by omega) (by simp; omega), ← efu _ (by omega)]
                cases dec n d (r'.drop m.toNat) with
                | error e => rfl
                | ok l => simp [decP, Tl.enc]
theorem rread_eq (N : Nat) (hN : 4096 < N) : ∀ (M : Nat) (b : List UInt8) (d : Int), 1 ≤ d → d ≤ 9 → 9 < d + M → b.length ≤ 4096 → s_rread N M b d = some (decP [] (dec (b.length + 1) d b))
  | 0, b, d, h1, h2, h, _ => by omega
  | M + 1, b, d, h1, h2, h, hb => by
    unfold s_rread B_rread
    exact rread_loop N (s_rread N M) d ⟨h1, h2⟩ b.length (fun h8 b' hb' => by
      rw [rread_eq N hN M b' (d + 1) (by omega) (by omega) (by omega) (by omega), dec_fuel (b'.length + 1) b.length (d + 1) b' (by omega) hb']) N b [] (by omega) (Nat.le_refl _) hb (by simpa using hb)
/-- Decode -/
def decR (b : List UInt8) : List V × Int := if 4096 < b.length then ([], 3) else decP [] (dec (b.length + 1) 1 b)
theorem Decode_eq (N : Nat) (hN : 4096 < N) (b : List UInt8) : s_Decode N b = some (decR b) := by
  unfold s_Decode decR
  rw [br_dec]
  by_cases h : 4096 < b.length
  · rw [if_pos (by omega), if_pos h]
  · rw [if_neg (by omega), if_neg h, decode_eq N hN N b 1 (by omega) (by omega) (by omega) (by omega)]; rfl
theorem rDecode_eq (N : Nat) (hN : 4096 < N) (b : List UInt8) : s_rDecode N b = some (decR b) := by
  unfold s_rDecode decR
  rw [br_dec]
  by_cases h : 4096 < b.length
  · rw [if_pos (by omega), if_pos h]
  · rw [if_neg (by omega), if_neg h, rread_eq N hN N b 1 (by omega) (by omega) (by omega) (by omega)]; rfl
end Go.Proofs.YtahemenhcoedgaaDoor.En

/- Encoding rules: the program and the reference. -/
namespace Go.Proofs.YtahemenhcoedgaaDoor.En
open Go
set_option linter.unusedVariables false
theorem bI (n : Int) : UInt8.ofNat (IntKind.u8.wrap n).toNat = byteI n := by rw [wu8]; rfl
theorem nilApp {α : Type} (l : List α) : List.append [] l = l := id rfl
section
variable (N : Nat)
theorem aencode_loop {R : Type} (f : Int → Int → List V → Option (List UInt8)) (n : Nat) (hf : ∀ (o m : Int) (k : Cl), vC o m k = true → k.nodes < n → k.wf → K63 k → f o m k.enc = some (eC o m k)) (K : List UInt8 → Option R) (a4 a5 : Int) (a6 : List V) (a7 : List UInt8) (b8 b9 : Bool) (a10 a11 : Int) :
    ∀ (l : Cl) (pre : List V) (t : Nat) (acc : List UInt8), vL l = true → l.len < t → l.nodes ≤ n → l.wf → pre.length + l.len ≤ 9223372036854775807 → acc.length + 2 * l.nodes ≤ 1000000 →
      S_aencode_8 N f (pre ++ l.enc) ((pre ++ l.enc).length : Int) a4 a5 a6 a7 b8 b9 a10 a11 t acc (pre.length : Int) K = K (acc ++ eL l)
  | l, pre, 0, acc, _, ht, _, _, _, _ => by omega
  | .nil, pre, t + 1, acc, _, ht, _, _, _, _ => by
    unfold S_aencode_8 F_aencode_8
    simp only [Cl.enc, br_t, br_f, br_dec, br_not, br_and, br_or, bnd1_mk, bnd2_mk, bnd3_mk, bnd4_mk, bnd5_mk, at_zero, at_succ, at_mid, unInt_mk, unBool_mk, unStr_mk, unBytes_mk, unSl_mk, unAgg_mk, unCons_mk, unNil_mk, endI, if_false, eL]
    rw [List.append_nil]
  | .cons o m k r, pre, t + 1, acc, hv, ht, hn, hw, hl, hb => by
    simp only [Cl.len, Cl.nodes] at ht hn hl hb
    rw [vL_cons, Bool.and_eq_true] at hv
    obtain ⟨_, _, hk1, hk2, hr⟩ := hw
    obtain ⟨h1, h2, h3, h4⟩ := stepC pre (ce o m k) r hl
    have hlen : (eC o m k).length ≤ 2 * k.nodes + 2 := by
      have := eL_len (.cons o m k .nil)
      rw [eL_cons] at this
      simp only [eL, List.append_nil, Cl.nodes] at this
      omega
    have ih := aencode_loop f n hf K a4 a5 a6 a7 b8 b9 a10 a11 r (pre ++ [ce o m k]) t (acc ++ eC o m k) hv.2 (by omega) (by omega) hr (by simp; omega) (by rw [List.length_append]; omega)
    rw [← mid, ← h3] at ih
    have hc : (acc.length + (eC o m k).length) * 1 ≤ 140737488355328 := by omega
    unfold S_aencode_8 F_aencode_8
    simp only [enc_cons, br_t, br_f, br_dec, br_not, br_and, br_or, bnd1_mk, bnd2_mk, bnd3_mk, bnd4_mk, bnd5_mk, at_zero, at_succ, at_mid, unInt_mk, unBool_mk, unStr_mk, unBytes_mk, unSl_mk, unAgg_mk, unCons_mk, unNil_mk, h1, h2, if_true, Int.toNat_natCast, hf o m k hv.1 (by omega) hk2 hk1, hc]
    rw [ih, eL_cons, List.append_assoc]
theorem aencode_eq : ∀ (M : Nat) (o m : Int) (k : Cl), vC o m k = true → k.nodes < M → k.nodes < N → k.nodes ≤ 1000 → k.wf → K63 k → s_aencode N M o m k.enc = some (eC o m k)
  | 0, o, m, k, _, h, _, _, _, _ => by omega
  | M + 1, o, m, k, hv, h, hN, hs, hw, hl => by
    have hln := Cl.len_le k
    have hf := fun (o m : Int) (k' : Cl) (a0 : vC o m k' = true) (a1 : k'.nodes < k.nodes) (a2 : k'.wf) (a3 : K63 k') => aencode_eq M o m k' a0 (by omega) (by omega) (by omega) a2 a3
    have hL := fun (a7 : List UInt8) (b8 b9 : Bool) (a10 a11 : Int) (acc : List UInt8) (ha : acc.length ≤ 2) (hvk : vL k = true) => aencode_loop N (s_aencode N M) k.nodes hf (fun l1 => some l1) o m k.enc a7 b8 b9 a10 a11 k [] N acc hvk (by omega) (Nat.le_refl _) hw (by simpa using hl) (by omega)
    have hL' : ∀ (a7 : List UInt8) (b8 b9 : Bool) (a10 a11 : Int) (acc : List UInt8), acc.length ≤ 2 → vL k = true → S_aencode_8 N (s_aencode N M) k.enc (k.enc.length : Int) o m k.enc a7 b8 b9 a10 a11 N acc 0 (fun l1 => some l1) = some (acc ++ eL k) := hL
    unfold s_aencode B_aencode eC
    simp only [s_forms, bnd1_mk, br_dec, bI, Cl.enc_len] at hL' ⊢
    rcases vC_leaf hv with ⟨rfl, _, rfl⟩ | ⟨rfl, _, rfl⟩ | ⟨rfl, b1, b2, rfl⟩ | ⟨rfl, b1, b2, rfl⟩ | ⟨rfl, _, _, rfl⟩ | ⟨rfl, b1, b2, rfl⟩ | ⟨rfl | rfl, h1, h2, h3⟩
    · rw [if_pos rfl, hL' _ _ _ _ _ _ (by simp) rfl]; rfl
    · rw [if_neg (by omega), if_pos rfl, hL' _ _ _ _ _ _ (by simp) rfl]; rfl
    · rw [if_neg (by omega), if_neg (by omega), if_pos rfl, hL' _ _ _ _ _ _ (by simp) rfl, if_neg (by omega), if_pos (by omega)]; rfl
    · rw [if_neg (by omega), if_neg (by omega), if_neg (by omega), if_pos rfl, hL' _ _ _ _ _ _ (by simp) rfl, if_neg (by omega), if_pos (by omega)]; rfl
    · rw [if_neg (by omega), if_neg (by omega), if_neg (by omega), if_neg (by omega), if_pos rfl, hL' _ _ _ _ _ _ (by simp) rfl, if_neg (by omega), if_pos (by omega)]; rfl
    · rw [if_neg (by omega), if_neg (by omega), if_neg (by omega), if_neg (by omega), if_neg (by omega), if_pos rfl, hL' _ _ _ _ _ _ (by simp) rfl, if_neg (by omega), if_pos (by omega)]; rfl
    · rw [if_neg (by omega), if_neg (by omega), if_neg (by omega), if_neg (by omega), if_neg (by omega), if_neg (by omega), if_pos rfl, hL' _ _ _ _ _ _ (by simp) h3, if_pos (by omega)]; rfl
    · rw [if_neg (by omega), if_neg (by omega), if_neg (by omega), if_neg (by omega), if_neg (by omega), if_neg (by omega), if_neg (by omega), if_pos rfl, hL' _ _ _ _ _ _ (by simp) h3, if_pos (by omega)]; rfl
theorem qBytes_loop {R : Type} (f : Int → Int → List V → Option (List UInt8)) (n : Nat) (hf : ∀ (o m : Int) (k : Cl), vC o m k = true → k.nodes < n → k.wf → K63 k → f o m k.enc = some (eC o m k)) (K : List UInt8 → Option R) (a4 a5 : Int) :
    ∀ (l : Cl) (pre : List V) (t : Nat) (acc : List UInt8), vL l = true → l.len < t → l.nodes ≤ n → l.wf → pre.length + l.len ≤ 9223372036854775807 → acc.length + 2 * l.nodes ≤ 1000000 →
      S_qBytes_5 N f a4 a5 (pre ++ l.enc) t acc (pre.length : Int) K = K (acc ++ eL l)
  | l, pre, 0, acc, _, ht, _, _, _, _ => by omega
  | .nil, pre, t + 1, acc, _, ht, _, _, _, _ => by
    unfold S_qBytes_5 F_qBytes_5
    simp only [Cl.enc, br_t, br_f, br_dec, br_not, br_and, br_or, bnd1_mk, bnd2_mk, bnd3_mk, bnd4_mk, bnd5_mk, at_zero, at_succ, at_mid, unInt_mk, unBool_mk, unStr_mk, unBytes_mk, unSl_mk, unAgg_mk, unCons_mk, unNil_mk, endI, if_false, eL]
    rw [List.append_nil]
  | .cons o m k r, pre, t + 1, acc, hv, ht, hn, hw, hl, hb => by
    simp only [Cl.len, Cl.nodes] at ht hn hl hb
    rw [vL_cons, Bool.and_eq_true] at hv
    obtain ⟨_, _, hk1, hk2, hr⟩ := hw
    obtain ⟨h1, h2, h3, h4⟩ := stepC pre (ce o m k) r hl
    have hlen : (eC o m k).length ≤ 2 * k.nodes + 2 := by
      have := eL_len (.cons o m k .nil)
      rw [eL_cons] at this
      simp only [eL, List.append_nil, Cl.nodes] at this
      omega
    have ih := qBytes_loop f n hf K a4 a5 r (pre ++ [ce o m k]) t (acc ++ eC o m k) hv.2 (by omega) (by omega) hr (by simp; omega) (by rw [List.length_append]; omega)
    rw [← mid, ← h3] at ih
    have hc : (acc.length + (eC o m k).length) * 1 ≤ 140737488355328 := by omega
    unfold S_qBytes_5 F_qBytes_5
    simp only [enc_cons, br_t, br_f, br_dec, br_not, br_and, br_or, bnd1_mk, bnd2_mk, bnd3_mk, bnd4_mk, bnd5_mk, at_zero, at_succ, at_mid, unInt_mk, unBool_mk, unStr_mk, unBytes_mk, unSl_mk, unAgg_mk, unCons_mk, unNil_mk, h1, h2, if_true, Int.toNat_natCast, hf o m k hv.1 (by omega) hk2 hk1, hc]
    rw [ih, eL_cons, List.append_assoc]
theorem qBytes_eq : ∀ (M : Nat) (o m : Int) (k : Cl), vC o m k = true → k.nodes < M → k.nodes < N → k.nodes ≤ 1000 → k.wf → K63 k → s_qBytes N M o m k.enc = some (eC o m k)
  | 0, o, m, k, _, h, _, _, _, _ => by omega
  | M + 1, o, m, k, hv, h, hN, hs, hw, hl => by
    have hln := Cl.len_le k
    have hf := fun (o m : Int) (k' : Cl) (a0 : vC o m k' = true) (a1 : k'.nodes < k.nodes) (a2 : k'.wf) (a3 : K63 k') => qBytes_eq M o m k' a0 (by omega) (by omega) (by omega) a2 a3
    have hL := fun (acc : List UInt8) (ha : acc.length ≤ 2) (hvk : vL k = true) => qBytes_loop N (s_qBytes N M) k.nodes hf (fun l1 => some l1) o m k [] N acc hvk (by omega) (Nat.le_refl _) hw (by simpa using hl) (by omega)
    have hL' : ∀ (acc : List UInt8), acc.length ≤ 2 → vL k = true → S_qBytes_5 N (s_qBytes N M) o m k.enc N acc 0 (fun l1 => some l1) = some (acc ++ eL k) := hL
    unfold s_qBytes B_qBytes eC
    simp only [bnd1_mk, br_dec, bI, Cl.enc_len]
    by_cases h6 : 6 ≤ o
    · have h3 : vL k = true := by
        rcases vC_leaf hv with h | h | h | h | h | h | h
        all_goals first | omega | exact h.2.2.2
      rw [if_pos h6, if_pos h6, hL' _ (by simp) h3]; rfl
    · rw [if_neg h6, if_neg h6]
      by_cases h2 : 2 ≤ o
      · rw [if_pos h2, if_pos h2]
      · rw [if_neg h2, if_neg h2]
/-- Rules as data objects. -/
def rT : List Ru → Tl
  | [] => .nil
  | r :: l => .cons 128 (byteI r.ops :: eC r.o r.m r.k) .nil (rT l)
theorem rT_ok : ∀ l : List Ru, okL 1 (rT l) = true
  | [] => rfl
  | r :: l => by
    have e1 : tagV 128 = true := by decide
    have e2 : tagC 128 = false := by decide
    unfold rT okL
    rw [e1, e2, rT_ok l]; rfl
theorem rT_len : ∀ l : List Ru, (rT l).len = l.length
  | [] => rfl
  | r :: l => by simp [rT, Tl.len, rT_len l]
theorem rT_wt : ∀ l : List Ru, (∀ r ∈ l, r.k.nodes ≤ 15) → (rT l).wt ≤ 40 * l.length ∧ (encL (rT l)).length ≤ 40 * l.length ∧ (rT l).nodes ≤ l.length ∧ (rT l).wf
  | [], _ => ⟨Nat.le_refl _, Nat.le_refl _, Nat.le_refl _, trivial⟩
  | r :: l, h => by
    obtain ⟨h1, h2, h3, h4⟩ := rT_wt l fun r hr => h r (by simp [hr])
    have hr := h r (by simp)
    have hlen : (eC r.o r.m r.k).length ≤ 2 * r.k.nodes + 2 := by
      have := eL_len (.cons r.o r.m r.k .nil)
      rw [eL_cons] at this
      simp only [eL, List.append_nil, Cl.nodes] at this
      omega
    have e2 : tagC 128 = false := by decide
    have ht := tagB_len 128
    have hlb := lenB_len (((byteI r.ops :: eC r.o r.m r.k).length : Nat) : Int)
    refine ⟨?_, ?_, ?_, ?_⟩
    · unfold rT; simp only [Tl.wt, List.length_cons]; omega
    · unfold rT; rw [encL_cons, e2]; simp only [cond_false, List.length_append, List.length_cons] at hlb ⊢; omega
    · unfold rT; simp only [Tl.nodes, List.length_cons]; omega
    · unfold rT; exact ⟨⟨by omega, by omega⟩, by simp only [List.length_cons]; omega, by simp [Tl.len], trivial, h4⟩
theorem rT_cons (a : Tl) (r : Ru) (l : List Ru) : (a.append (.cons 128 (byteI r.ops :: eC r.o r.m r.k) .nil .nil)).append (rT l) = a.append (rT (r :: l)) := by
  induction a with
  | nil => rfl
  | cons t v k r' _ ih => simp only [Tl.append]; rw [ih]
theorem aEncode_loop {R : Type} (K : List V → Option R) : ∀ (l : List Ru) (pre : List V) (t : Nat) (acc : Tl), l.length < t → (∀ r ∈ l, GoodC N r.k ∧ vC r.o r.m r.k = true) → pre.length + l.length ≤ 9223372036854775807 → acc.len + l.length ≤ 1000 →
      S_aEncode_6 N (pre ++ rE l) ((pre ++ rE l).length : Int) t acc.enc (pre.length : Int) K = K (acc.append (rT l)).enc
  | l, pre, 0, acc, ht, _, _, _ => by omega
  | [], pre, t + 1, acc, ht, _, _, _ => by
    unfold S_aEncode_6 F_aEncode_6
    simp only [rE, br_t, br_f, br_dec, br_not, br_and, br_or, bnd1_mk, bnd2_mk, bnd3_mk, bnd4_mk, bnd5_mk, at_zero, at_succ, at_mid, unInt_mk, unBool_mk, unStr_mk, unBytes_mk, unSl_mk, unAgg_mk, unCons_mk, unNil_mk, endI, if_false, rT, Tl.append_nil]
  | r :: l, pre, t + 1, acc, ht, hg, hl, hb => by
    simp only [List.length_cons] at ht hl hb
    obtain ⟨h1, h2, h3, h4⟩ := stepR pre (.agg [.int .i64 r.ops, .int .i64 r.o, .int .i64 r.m, .sl 24 r.k.enc]) l hl
    obtain ⟨g, gv⟩ := hg r (by simp)
    have hlen : (eC r.o r.m r.k).length ≤ 2 * r.k.nodes + 2 := by
      have := eL_len (.cons r.o r.m r.k .nil)
      rw [eL_cons] at this
      simp only [eL, List.append_nil, Cl.nodes] at this
      omega
    have gn := g.nodes
    have ih := aEncode_loop K l (pre ++ [.agg [.int .i64 r.ops, .int .i64 r.o, .int .i64 r.m, .sl 24 r.k.enc]]) t (acc.append (.cons 128 (byteI r.ops :: eC r.o r.m r.k) .nil .nil)) (by omega) (fun r hr => hg r (by simp [hr])) (by simp; omega) (by rw [Tl.len_append]; simp only [Tl.len]; omega)
    rw [← mid, ← h3, rT_cons, Tl.enc_append] at ih
    have c1 : ([byteI r.ops].length + (eC r.o r.m r.k).length) * 1 ≤ 140737488355328 := by simp; omega
    have c2 : (acc.enc.length + [V.agg [V.int IntKind.i64 128, V.bytes (byteI r.ops :: eC r.o r.m r.k), V.sl 67 []]].length) * 56 ≤ 140737488355328 := by rw [Tl.enc_len]; simp; omega
    unfold S_aEncode_6 F_aEncode_6
    simp only [rE, br_t, br_f, br_dec, br_not, br_and, br_or, bnd1_mk, bnd2_mk, bnd3_mk, bnd4_mk, bnd5_mk, at_zero, at_succ, at_mid, unInt_mk, unBool_mk, unStr_mk, unBytes_mk, unSl_mk, unAgg_mk, unCons_mk, unNil_mk, h1, h2, if_true, Int.toNat_natCast, aencode_eq N N r.o r.m r.k gv g.fuel g.fuel g.nodes g.wf g.len, bI, nilApp, c1, c2]
    exact ih
theorem qEncode_loop {R : Type} (K : List V → Option R) : ∀ (l : List Ru) (pre : List V) (t : Nat) (acc : Tl), l.length < t → (∀ r ∈ l, GoodC N r.k ∧ vC r.o r.m r.k = true) → pre.length + l.length ≤ 9223372036854775807 → acc.len + l.length ≤ 1000 →
      S_qEncode_6 N (pre ++ rE l) t acc.enc (pre.length : Int) K = K (acc.append (rT l)).enc
  | l, pre, 0, acc, ht, _, _, _ => by omega
  | [], pre, t + 1, acc, ht, _, _, _ => by
    unfold S_qEncode_6 F_qEncode_6
    simp only [rE, br_t, br_f, br_dec, br_not, br_and, br_or, bnd1_mk, bnd2_mk, bnd3_mk, bnd4_mk, bnd5_mk, at_zero, at_succ, at_mid, unInt_mk, unBool_mk, unStr_mk, unBytes_mk, unSl_mk, unAgg_mk, unCons_mk, unNil_mk, endI, if_false, rT, Tl.append_nil]
  | r :: l, pre, t + 1, acc, ht, hg, hl, hb => by
    simp only [List.length_cons] at ht hl hb
    obtain ⟨h1, h2, h3, h4⟩ := stepR pre (.agg [.int .i64 r.ops, .int .i64 r.o, .int .i64 r.m, .sl 24 r.k.enc]) l hl
    obtain ⟨g, gv⟩ := hg r (by simp)
    have hlen : (eC r.o r.m r.k).length ≤ 2 * r.k.nodes + 2 := by
      have := eL_len (.cons r.o r.m r.k .nil)
      rw [eL_cons] at this
      simp only [eL, List.append_nil, Cl.nodes] at this
      omega
    have gn := g.nodes
    have ih := qEncode_loop K l (pre ++ [.agg [.int .i64 r.ops, .int .i64 r.o, .int .i64 r.m, .sl 24 r.k.enc]]) t (acc.append (.cons 128 (byteI r.ops :: eC r.o r.m r.k) .nil .nil)) (by omega) (fun r hr => hg r (by simp [hr])) (by simp; omega) (by rw [Tl.len_append]; simp only [Tl.len]; omega)
    rw [← mid, ← h3, rT_cons, Tl.enc_append] at ih
    have c1 : ([byteI r.ops].length + (eC r.o r.m r.k).length) * 1 ≤ 140737488355328 := by simp; omega
    have c2 : (acc.enc.length + [V.agg [V.int IntKind.i64 128, V.bytes (byteI r.ops :: eC r.o r.m r.k), V.sl 67 []]].length) * 56 ≤ 140737488355328 := by rw [Tl.enc_len]; simp; omega
    unfold S_qEncode_6 F_qEncode_6
    simp only [rE, br_t, br_f, br_dec, br_not, br_and, br_or, bnd1_mk, bnd2_mk, bnd3_mk, bnd4_mk, bnd5_mk, at_zero, at_succ, at_mid, unInt_mk, unBool_mk, unStr_mk, unBytes_mk, unSl_mk, unAgg_mk, unCons_mk, unNil_mk, h1, h2, if_true, Int.toNat_natCast, qBytes_eq N N r.o r.m r.k gv g.fuel g.fuel g.nodes g.wf g.len, bI, nilApp, c1, c2]
    exact ih
/-- What Encode returns. -/
def encRu (l : List Ru) : List UInt8 × Int := if chkR l = 0 then (encL (rT l), 0) else ([], chkR l)
theorem encR_rT {l : List Ru} (h : chkR l = 0) : encR (rT l) = (encL (rT l), 0) := by
  obtain ⟨h8, hv⟩ := chkR_zero h
  obtain ⟨_, h2, _, _⟩ := rT_wt l fun r hr => by have := (hv r hr).2.2.2.1; omega
  unfold encR
  rw [if_pos (rT_ok l), if_pos (by omega)]
theorem aEncode_eq (l : List Ru) (g : GoodR N l) : s_aEncode N (rE l) = some (encRu l) := by
  have g1 := g.len
  have g2 := g.fuel
  unfold s_aEncode encRu
  rw [aCheckRules_eq N l g, bnd1_mk, br_not, br_dec]
  by_cases c : chkR l = 0
  · obtain ⟨h8, hv⟩ := chkR_zero c
    obtain ⟨h1, h2, h3, h4⟩ := rT_wt l fun r hr => by have := (hv r hr).2.2.2.1; omega
    have hl1 := rT_len l
    have hL : ∀ (K : List V → Option (List UInt8 × Int)), S_aEncode_6 N (rE l) ((rE l).length : Int) N [] 0 K = K (Tl.append .nil (rT l)).enc := fun K =>
      aEncode_loop N K l [] N .nil (by omega) (fun r hr => ⟨g.good r hr, (hv r hr).2.2.1⟩) (by simp; omega) (by simp [Tl.len]; omega)
    rw [if_pos c, if_pos c, hL]
    show bnd2 (s_Encode N (rT l).enc) _ = _
    rw [Encode_eq N (rT l) (by omega) h4 (by show (rT l).len ≤ _; omega) (by omega), encR_rT c]; rfl
  · rw [if_neg c, if_neg c]
theorem qEncode_eq (l : List Ru) (g : GoodR N l) : s_qEncode N (rE l) = some (encRu l) := by
  have g1 := g.len
  have g2 := g.fuel
  unfold s_qEncode encRu
  rw [qCheckRules_eq N l g, bnd1_mk, br_not, br_dec]
  by_cases c : chkR l = 0
  · obtain ⟨h8, hv⟩ := chkR_zero c
    obtain ⟨h1, h2, h3, h4⟩ := rT_wt l fun r hr => by have := (hv r hr).2.2.2.1; omega
    have hl1 := rT_len l
    have hL : ∀ (K : List V → Option (List UInt8 × Int)), S_qEncode_6 N (rE l) N [] 0 K = K (Tl.append .nil (rT l)).enc := fun K =>
      qEncode_loop N K l [] N .nil (by omega) (fun r hr => ⟨g.good r hr, (hv r hr).2.2.1⟩) (by simp; omega) (by simp [Tl.len]; omega)
    rw [if_pos c, if_pos c, hL]
    show bnd2 (s_rEncode N (rT l).enc) _ = _
    rw [rEncode_eq N (rT l) (by omega) h4 (by show (rT l).len ≤ _; omega) (by omega), encR_rT c]; rfl
  · rw [if_neg c, if_neg c]
end
end Go.Proofs.YtahemenhcoedgaaDoor.En

/- Decoding rules: the program and the reference. -/
namespace Go.Proofs.YtahemenhcoedgaaDoor.En
open Go
set_option linter.unusedVariables false
def dcP : Option ((Int × Int × Cl) × List UInt8) → Int × Int × List V × List UInt8 × Bool
  | none => (0, 0, [], [], false)
  | some ((o, m, k), rest) => (o, m, k.enc, rest, true)
theorem enc_app (acc : List V) (o m : Int) (k r : Cl) : acc ++ [V.agg [V.int .i64 o, V.int .i64 m, V.sl 24 k.enc]] ++ r.enc = acc ++ (Cl.cons o m k r).enc := by simp [Cl.enc]
section
variable (N : Nat)
theorem adecode_loop (f : List UInt8 → Int → Option (Int × Int × List V × List UInt8 × Bool)) (d : Int) (e : Nat) (hf : ∀ b, f b (IntKind.i64.wrap (d + 1)) = some (dcP (rd 7 e b))) (n : Nat) (hn : n ≤ 255) (a4 a5 a7 a8 a13 a14 : Int) (a6 : List V) (a10 : List UInt8) (a11 a12 : Bool) (K1 : List UInt8 → List V → Option (Int × Int × List V × List UInt8 × Bool)) :
    ∀ (j : Nat) (b : List UInt8) (i : Nat) (acc : List V) (t : Nat), i + j = n → acc.length = i → j < t →
      S_adecode_16 N f d (n : Int) a4 a5 a6 a7 a8 a10 a11 a12 a13 a14 t b (i : Int) acc (fun l8 l9 b10 n11 n12 l13 l14 => some (n11, n12, l13, l9, b10)) K1 = match rdL (rd 7 e) j b with
        | none => some (0, 0, [], [], false)
        | some (l, rest) => K1 rest (acc ++ l.enc)
  | j, b, i, acc, 0, _, _, ht => by omega
  | 0, b, i, acc, t + 1, hi, ha, ht => by
    unfold S_adecode_16 F_adecode_16
    rw [br_dec, if_neg (by omega)]
    simp [rdL, Cl.enc]
  | j + 1, b, i, acc, t + 1, hi, ha, ht => by
    unfold S_adecode_16 F_adecode_16 rdL
    rw [br_dec, if_pos (by omega), hf]
    cases h : rd 7 e b with
    | none => rfl
    | some x =>
      obtain ⟨⟨o, m, k⟩, rest⟩ := x
      have hc : (acc.length + [V.agg [V.int IntKind.i64 o, V.int IntKind.i64 m, V.sl 24 k.enc]].length) * 40 ≤ 140737488355328 := by simp; omega
      have hw : IntKind.i64.wrap ((i : Int) + 1) = ((i + 1 : Nat) : Int) := by rw [w64 (by omega) (by omega)]; omega
      have ih := adecode_loop f d e hf n hn a4 a5 a7 a8 a13 a14 a6 a10 a11 a12 K1 j rest (i + 1) (acc ++ [V.agg [V.int IntKind.i64 o, V.int IntKind.i64 m, V.sl 24 k.enc]]) t (by omega) (by simp [ha]) (by omega)
      simp only [dcP, bnd5_mk, br_not, br_t, br_dec, hc, if_true, hw]
      rw [ih]
      cases rdL (rd 7 e) j rest with
      | none => rfl
      | some y =>
        obtain ⟨l, rest'⟩ := y
        show K1 rest' _ = K1 rest' _
        rw [enc_app]
theorem adecode_eq (hN : 1000 < N) : ∀ (e M : Nat) (b : List UInt8), e ≤ 8 → e < M → s_adecode N M b (9 - (e : Int)) = some (dcP (rd 7 e b))
  | e, 0, b, _, h => by omega
  | e, M + 1, b, he, h => by
    unfold s_adecode B_adecode
    simp only [br_dec, br_not, br_and, s_forms, bnd1_mk]
    cases b with
    | nil => cases e <;> simp [rd, dcP]
    | cons op b =>
      have ho := u8_lt op
      have hl : ¬ (((op :: b).length : Int) = 0) := by simp only [List.length_cons]; omega
      have hl2 : (0 : Int) < ((op :: b).length : Int) := by simp only [List.length_cons]; omega
      have hl3 : (1 : Int) ≤ ((op :: b).length : Int) := by simp only [List.length_cons]; omega
      simp only [hl, hl2, hl3, if_false, if_true, at_zero, w64_u8, List.drop_succ_cons, List.drop_zero]
      cases e with
      | zero =>
        have : (8 : Int) < 9 - ((0 : Nat) : Int) := by omega
        simp only [this, if_true]
        by_cases c : (7 : Int) < (op.toNat : Int)
        · rw [if_pos c]; rfl
        · rw [if_neg c]; rfl
      | succ e =>
        unfold rd
        by_cases c : (7 : Int) < (op.toNat : Int)
        · rw [if_pos c, if_pos c]; rfl
        rw [if_neg c, if_neg c, if_neg (by omega)]
        by_cases c2 : (op.toNat : Int) < 2
        · rw [if_pos c2]
          rcases (by omega : (op.toNat : Int) = 0 ∨ (op.toNat : Int) = 1) with c3 | c3
          · rw [if_pos c3]; simp [dcP, Cl.enc]
          · rw [if_neg (by omega), if_pos c3]; simp [dcP, Cl.enc]
        rw [if_neg c2, if_neg (by omega), if_neg (by omega)]
        cases b with
        | nil =>
          simp only [List.length_nil, Int.natCast_zero, if_true, dcP]
          rcases (by omega : (op.toNat : Int) = 2 ∨ (op.toNat : Int) = 3 ∨ (op.toNat : Int) = 4 ∨ (op.toNat : Int) = 5 ∨ (op.toNat : Int) = 6 ∨ (op.toNat : Int) = 7) with c3 | c3 | c3 | c3 | c3 | c3 <;> simp [c3]
        | cons n b =>
          have hn := u8_lt n
          have hl : ¬ (((n :: b).length : Int) = 0) := by simp only [List.length_cons]; omega
          have hl2 : (0 : Int) < ((n :: b).length : Int) := by simp only [List.length_cons]; omega
          have hl3 : (1 : Int) ≤ ((n :: b).length : Int) := by simp only [List.length_cons]; omega
          simp only [hl, hl2, hl3, if_false, if_true, at_zero, w64_u8, List.drop_succ_cons, List.drop_zero]
          by_cases c6 : (op.toNat : Int) < 6
          · rw [if_pos c6]
            rcases (by omega : (op.toNat : Int) = 2 ∨ (op.toNat : Int) = 3 ∨ (op.toNat : Int) = 4 ∨ (op.toNat : Int) = 5) with c3 | c3 | c3 | c3 <;> simp [c3, dcP, Cl.enc]
          · rw [if_neg c6]
            have hf : ∀ b, s_adecode N M b (IntKind.i64.wrap (9 - ((e + 1 : Nat) : Int) + 1)) = some (dcP (rd 7 e b)) := by
              intro b
              rw [w64 (by omega) (by omega), show 9 - ((e + 1 : Nat) : Int) + 1 = 9 - (e : Int) by omega]
              exact adecode_eq hN e M b (by omega) (by omega)
            have hL := fun (a7 : Int) (a10 : List UInt8) (K1 : List UInt8 → List V → Option (Int × Int × List V × List UInt8 × Bool)) => adecode_loop N (s_adecode N M) (9 - ((e + 1 : Nat) : Int)) e hf n.toNat (by omega) 0 0 a7 0 0 0 [] a10 false true K1 n.toNat b 0 [] N (by omega) rfl (by omega)
            have hL' : ∀ (a7 : Int) (a10 : List UInt8) (K1 : List UInt8 → List V → Option (Int × Int × List V × List UInt8 × Bool)), S_adecode_16 N (s_adecode N M) (9 - ((e + 1 : Nat) : Int)) (n.toNat : Int) 0 0 [] a7 0 a10 false true 0 0 N b 0 [] (fun l8 l9 b10 n11 n12 l13 l14 => some (n11, n12, l13, l9, b10)) K1 = match rdL (rd 7 e) n.toNat b with
              | none => some (0, 0, [], [], false)
              | some (l, rest) => K1 rest ([] ++ l.enc) := hL
            simp only [hL']
            rcases (by omega : (op.toNat : Int) = 6 ∨ (op.toNat : Int) = 7) with c3 | c3
            · rw [if_neg (by omega), if_neg (by omega), if_neg (by omega), if_neg (by omega), if_pos c3]
              cases rdL (rd 7 e) n.toNat b with
              | none => rfl
              | some y => rfl
            · rw [if_neg (by omega), if_neg (by omega), if_neg (by omega), if_neg (by omega), if_neg (by omega), if_pos c3]
              cases rdL (rd 7 e) n.toNat b with
              | none => rfl
              | some y => rfl
/-- The reference's reading: what it leaves at a failure does not matter. -/
def QR (r : Option (Int × Int × List V × List UInt8 × Bool)) (x : Option ((Int × Int × Cl) × List UInt8)) : Prop :=
  match x with
  | none => ∃ o m v, r = some (o, m, v, [], false)
  | some ((o, m, k), rest) => r = some (o, m, k.enc, rest, true)
theorem qread_loop (f : List UInt8 → Int → Option (Int × Int × List V × List UInt8 × Bool)) (d : Int) (e : Nat) (hf : ∀ b, QR (f b (IntKind.i64.wrap (d - 1))) (rd 255 e b)) (n : Nat) (hn : n ≤ 255) (op : Int) (a4 a5 a7 a8 : Int) (a6 : List V) :
    ∀ (j : Nat) (b : List UInt8) (i : Nat) (acc : List V) (t : Nat), i + j = n → acc.length = i → j < t →
      match rdL (rd 255 e) j b with
        | none => ∃ o m v, S_qread_16 N f d (n : Int) a4 a5 a6 a7 a8 t b (i : Int) acc (fun l2 l3 b4 l5 l6 => some (op, (0 : Int), l5, l3, b4)) (fun l7 l8 => some (op, (0 : Int), l8, l7, true)) = some (o, m, v, [], false)
        | some (l, rest) => S_qread_16 N f d (n : Int) a4 a5 a6 a7 a8 t b (i : Int) acc (fun l2 l3 b4 l5 l6 => some (op, (0 : Int), l5, l3, b4)) (fun l7 l8 => some (op, (0 : Int), l8, l7, true)) = some (op, 0, acc ++ l.enc, rest, true)
  | j, b, i, acc, 0, _, _, ht => by omega
  | 0, b, i, acc, t + 1, hi, ha, ht => by
    unfold S_qread_16 F_qread_16
    rw [br_dec, if_neg (by omega)]
    simp [rdL, Cl.enc]
  | j + 1, b, i, acc, t + 1, hi, ha, ht => by
    unfold S_qread_16 F_qread_16 rdL
    rw [br_dec, if_pos (by omega)]
    have h0 := hf b
    cases h : rd 255 e b with
    | none =>
      rw [h] at h0
      obtain ⟨o, m, v, h0⟩ := h0
      rw [h0]
      exact ⟨_, _, _, rfl⟩
    | some x =>
      obtain ⟨⟨o, m, k⟩, rest⟩ := x
      rw [h] at h0
      have h0' : f b (IntKind.i64.wrap (d - 1)) = some (o, m, k.enc, rest, true) := h0
      have hc : (acc.length + [V.agg [V.int IntKind.i64 o, V.int IntKind.i64 m, V.sl 24 k.enc]].length) * 40 ≤ 140737488355328 := by simp; omega
      have hw : IntKind.i64.wrap ((i : Int) + 1) = ((i + 1 : Nat) : Int) := by rw [w64 (by omega) (by omega)]; omega
      have ih := qread_loop f d e hf n hn op a4 a5 a7 a8 a6 j rest (i + 1) (acc ++ [V.agg [V.int IntKind.i64 o, V.int IntKind.i64 m, V.sl 24 k.enc]]) t (by omega) (by simp [ha]) (by omega)
      simp only [h0', bnd5_mk, br_not, br_t, br_dec, hc, if_true, hw]
      revert ih
      cases rdL (rd 255 e) j rest with
      | none => intro ih; exact ih
      | some y =>
        obtain ⟨l, rest'⟩ := y
        intro ih
        simp only at ih ⊢
        rw [enc_app] at ih
        exact ih
theorem qread_eq (hN : 1000 < N) : ∀ (e M : Nat) (b : List UInt8), e ≤ 16 → e < M → QR (s_qread N M b (e : Int)) (rd 255 e b)
  | e, 0, b, _, h => by omega
  | e, M + 1, b, he, h => by
    unfold s_qread B_qread
    simp only [br_dec, br_not, br_and, s_forms, bnd1_mk]
    cases b with
    | nil => cases e <;> exact ⟨0, 0, [], by simp⟩
    | cons op b =>
      have ho := u8_lt op
      have hl : ¬ (((op :: b).length : Int) = 0) := by simp only [List.length_cons]; omega
      have hl2 : (0 : Int) < ((op :: b).length : Int) := by simp only [List.length_cons]; omega
      have hl3 : (1 : Int) ≤ ((op :: b).length : Int) := by simp only [List.length_cons]; omega
      simp only [hl, hl2, hl3, if_false, if_true, at_zero, w64_u8, List.drop_succ_cons, List.drop_zero]
      cases e with
      | zero => exact ⟨0, 0, [], by simp⟩
      | succ e =>
        rw [if_neg (show ¬ ((e + 1 : Nat) : Int) < 1 by omega)]
        unfold rd
        rw [if_neg (show ¬ (255 : Int) < (op.toNat : Int) by omega)]
        by_cases c2 : (op.toNat : Int) < 2
        · rw [if_pos c2, if_pos c2]; rfl
        rw [if_neg c2, if_neg c2]
        cases b with
        | nil => exact ⟨op.toNat, 0, [], by simp⟩
        | cons n b =>
          have hn := u8_lt n
          have hl : ¬ (((n :: b).length : Int) = 0) := by simp only [List.length_cons]; omega
          have hl2 : (0 : Int) < ((n :: b).length : Int) := by simp only [List.length_cons]; omega
          have hl3 : (1 : Int) ≤ ((n :: b).length : Int) := by simp only [List.length_cons]; omega
          simp only [hl, hl2, hl3, if_false, if_true, at_zero, w64_u8, List.drop_succ_cons, List.drop_zero]
          by_cases c6 : (op.toNat : Int) < 6
          · rw [if_pos c6, if_pos c6]; rfl
          · rw [if_neg c6, if_neg c6]
            have hf : ∀ b, QR (s_qread N M b (IntKind.i64.wrap (((e + 1 : Nat) : Int) - 1))) (rd 255 e b) := by
              intro b
              rw [w64 (by omega) (by omega), show ((e + 1 : Nat) : Int) - 1 = (e : Int) by omega]
              exact qread_eq hN e M b (by omega) (by omega)
            have hL := qread_loop N (s_qread N M) ((e + 1 : Nat) : Int) e hf n.toNat (by omega) (op.toNat : Int) 0 0 (op.toNat : Int) 0 [] n.toNat b 0 [] N (by omega) rfl (by omega)
            revert hL
            cases rdL (rd 255 e) n.toNat b with
            | none =>
              intro hL
              simp only [Int.natCast_zero] at hL
              simp only [QR]
              exact hL
            | some y =>
              obtain ⟨l, rest⟩ := y
              intro hL
              simp only [Int.natCast_zero, List.nil_append] at hL
              simp only [QR]
              exact hL
/-! Rules -/
def rdRu (lim : Int) (e : Nat) : Tl → Option (List Ru)
  | .nil => some []
  | .cons t v k r => if t = 128 then (match v with
      | [] => none
      | op :: v => match rd lim e v with
        | none => none
        | some ((o, m, k'), rest) => if rest.length = 0 then (match rdRu lim e r with | none => none | some l => some (⟨(op.toNat : Int), o, m, k'⟩ :: l)) else none) else none
/-- What is read has the bytes that were read. -/
theorem rdRu_ok {lim : Int} {e : Nat} : ∀ (l : Tl) (rs : List Ru), okL 1 l = true → rdRu lim e l = some rs → l = rT rs
  | .nil, rs, _, h => by
    simp only [rdRu, Option.some.injEq] at h
    subst h; rfl
  | .cons t v k r, rs, hok, h => by
    unfold rdRu at h
    split at h
    · rename_i c
      subst c
      cases v with
      | nil => cases h
      | cons op v =>
        simp only at h
        split at h
        · cases h
        · rename_i o m k' rest h1
          split at h
          · rename_i c2
            split at h
            · cases h
            · rename_i l h3
              simp only [Option.some.injEq] at h
              subst h
              have e1 : tagV 128 = true := by decide
              have e2 : tagC 128 = false := by decide
              unfold okL at hok
              rw [e1, e2] at hok
              simp only [cond_false, Bool.true_and, Bool.and_eq_true] at hok
              have hk : k = .nil := by
                have := hok.1.2
                cases k <;> simp [Tl.isNil] at this
                rfl
              have := rd_ok lim e v o m k' rest h1
              have hr : rest = [] := List.length_eq_zero_iff.1 c2
              subst hr
              rw [List.append_nil] at this
              rw [rdRu_ok r l hok.2 h3, hk, this]
              show _ = Tl.cons 128 (byteI (op.toNat : Int) :: eC o m k') .nil (rT l)
              rw [byteI_u8]
          · cases h
    · cases h
theorem rdRu_wf {lim : Int} {e : Nat} : ∀ (l : Tl) (rs : List Ru), rdRu lim e l = some rs → rs.length = l.len ∧ ∀ r ∈ rs, r.k.wf ∧ K63 r.k ∧ r.k.nodes ≤ l.wt ∧ I64 r.o ∧ I64 r.m ∧ I64 r.ops
  | .nil, rs, h => by
    simp only [rdRu, Option.some.injEq] at h
    subst h; exact ⟨rfl, by simp⟩
  | .cons t v k r, rs, h => by
    unfold rdRu at h
    split at h
    · cases v with
      | nil => cases h
      | cons op v =>
        simp only at h
        split at h
        · cases h
        · rename_i o m k' rest h1
          split at h
          · split at h
            · cases h
            · rename_i l h3
              simp only [Option.some.injEq] at h
              subst h
              obtain ⟨h4, h5⟩ := rdRu_wf r l h3
              obtain ⟨⟨a1, a2, a3, a4, _⟩, a6⟩ := rd_wf lim e v o m k' rest h1
              have := u8_lt op
              refine ⟨by simp [Tl.len, h4], fun x hx => ?_⟩
              rcases List.mem_cons.1 hx with rfl | hx
              · exact ⟨a4, a3, by simp only [Tl.wt, List.length_cons]; omega, a1, a2, ⟨by show (-9223372036854775808 : Int) ≤ (op.toNat : Int); omega, by show (op.toNat : Int) ≤ 9223372036854775807; omega⟩⟩
              · obtain ⟨b1, b2, b3, b4⟩ := h5 x hx
                exact ⟨b1, b2, by simp only [Tl.wt]; omega, b4⟩
          · cases h
    · cases h
theorem rdRu_mono {lim lim' : Int} {e e' : Nat} (hl : lim ≤ lim') (he : e ≤ e') : ∀ (l : Tl) (rs : List Ru), rdRu lim e l = some rs → rdRu lim' e' l = some rs
  | .nil, rs, h => h
  | .cons t v k r, rs, h => by
    unfold rdRu at h ⊢
    split at h
    · rename_i c
      rw [if_pos c]
      cases v with
      | nil => cases h
      | cons op v =>
        simp only at h ⊢
        split at h
        · cases h
        · rename_i o m k' rest h1
          rw [rd_mono hl e e' v _ he h1]
          simp only
          split at h
          · rename_i c2
            rw [if_pos c2]
            split at h
            · cases h
            · rename_i l h3
              rw [rdRu_mono hl he r l h3]
              exact h
          · cases h
    · cases h
/-- What valid rules are encoded to is read. -/
theorem rdRu_put : ∀ (l : List Ru), (∀ r ∈ l, 1 ≤ r.ops ∧ r.ops ≤ 255 ∧ vC r.o r.m r.k = true ∧ r.k.nodes ≤ 15 ∧ r.k.dep ≤ 7) → rdRu 7 8 (rT l) = some l
  | [], _ => rfl
  | r :: l, h => by
    obtain ⟨h1, h2, h3, h4, h5⟩ := h r (by simp)
    have ih := rdRu_put l fun r hr => h r (by simp [hr])
    have hp := rd_putC (d := 7) [] h3 (by omega) h5
    rw [List.append_nil] at hp
    have hb : ((byteI r.ops).toNat : Int) = r.ops := by rw [byteI_toNat]; omega
    unfold rT rdRu
    rw [if_pos rfl]
    simp only [hp, ih, List.length_nil, if_true, hb]
theorem aDecode_loop (hN : 1000 < N) (K1 : List V → Option (List V × Int)) : ∀ (l : Tl) (pre : List V) (t : Nat) (acc : List Ru), l.len < t → pre.length + l.len ≤ 100000 → acc.length + l.len ≤ 100000 →
      S_aDecode_6 N (pre ++ l.enc) ((pre ++ l.enc).length : Int) t (rE acc) (pre.length : Int) (fun l2 n3 l4 => some (l2, n3)) K1 = match rdRu 7 8 l with
        | none => some ([], 4)
        | some rs => K1 (rE (acc ++ rs))
  | l, pre, 0, acc, ht, _, _ => by omega
  | .nil, pre, t + 1, acc, ht, _, _ => by
    unfold S_aDecode_6 F_aDecode_6
    simp only [Tl.enc, br_t, br_f, br_dec, br_not, br_and, br_or, bnd1_mk, bnd2_mk, bnd3_mk, bnd4_mk, bnd5_mk, at_zero, at_succ, at_mid, unInt_mk, unBool_mk, unStr_mk, unBytes_mk, unSl_mk, unAgg_mk, unCons_mk, unNil_mk, endI, if_false, rdRu]
    rw [List.append_nil]
  | .cons tg v k r, pre, t + 1, acc, ht, hl, ha => by
    simp only [Tl.len] at ht hl ha
    obtain ⟨h1, h2, h3, h4⟩ := stepI pre (.agg [.int .i64 tg, .bytes v, .sl 67 k.enc]) r.enc (by rw [Tl.enc_len]; omega)
    have ih := fun acc ha => aDecode_loop hN K1 r (pre ++ [.agg [.int .i64 tg, .bytes v, .sl 67 k.enc]]) t acc (by omega) (by simp; omega) ha
    rw [← mid, ← h3] at ih
    have hde := fun b => adecode_eq N hN 8 N b (by omega) (by omega)
    have hde' : ∀ b, s_adecode N N b 1 = some (dcP (rd 7 8 b)) := hde
    unfold S_aDecode_6 F_aDecode_6 rdRu
    simp only [Tl.enc, br_t, br_f, br_dec, br_not, br_and, br_or, bnd1_mk, bnd2_mk, bnd3_mk, bnd4_mk, bnd5_mk, at_zero, at_succ, at_mid, unInt_mk, unBool_mk, unStr_mk, unBytes_mk, unSl_mk, unAgg_mk, unCons_mk, unNil_mk, h1, h2, if_true, Int.toNat_natCast, hde']
    by_cases c1 : tg = 128
    · rw [if_pos c1, if_pos c1]
      cases v with
      | nil => simp
      | cons op v =>
        have e1 : ¬ (((op :: v).length : Int) = 0) := by simp only [List.length_cons]; omega
        have e2 : (1 : Int) ≤ ((op :: v).length : Int) := by simp only [List.length_cons]; omega
        have e3 : (0 : Int) < ((op :: v).length : Int) := by simp only [List.length_cons]; omega
        simp only [e1, e2, e3, if_false, if_true, List.drop_succ_cons, List.drop_zero, at_zero, w64_u8]
        cases h : rd 7 8 v with
        | none => rfl
        | some x =>
          obtain ⟨⟨o, m, k'⟩, rest⟩ := x
          simp only [dcP, bnd5_mk, br_t]
          by_cases c2 : rest.length = 0
          · have hc : ((rE acc).length + [V.agg [V.int IntKind.i64 (op.toNat : Int), V.int IntKind.i64 o, V.int IntKind.i64 m, V.sl 24 k'.enc]].length) * 48 ≤ 140737488355328 := by rw [rE_len]; simp; omega
            have e : rE acc ++ [V.agg [V.int IntKind.i64 (op.toNat : Int), V.int IntKind.i64 o, V.int IntKind.i64 m, V.sl 24 k'.enc]] = rE (acc ++ [⟨(op.toNat : Int), o, m, k'⟩]) := by rw [rE_append]; rfl
            rw [if_neg (by omega), if_pos hc, if_pos c2, e, ih _ (by simp; omega)]
            cases rdRu 7 8 r with
            | none => rfl
            | some rs => simp
          · rw [if_pos (by omega), if_neg c2]
    · rw [if_neg c1, if_neg c1]
theorem qDecode_loop (hN : 1000 < N) (b0 : List UInt8) (K1 : List V → Option (List V × Int)) : ∀ (l : Tl) (pre : List V) (t : Nat) (acc : List Ru), l.len < t → pre.length + l.len ≤ 100000 → acc.length + l.len ≤ 100000 →
      S_qDecode_6 N b0 (pre ++ l.enc) t (rE acc) (pre.length : Int) (fun l2 n3 l4 => some (l2, n3)) K1 = match rdRu 255 16 l with
        | none => some ([], 4)
        | some rs => K1 (rE (acc ++ rs))
  | l, pre, 0, acc, ht, _, _ => by omega
  | .nil, pre, t + 1, acc, ht, _, _ => by
    unfold S_qDecode_6 F_qDecode_6
    simp only [Tl.enc, br_t, br_f, br_dec, br_not, br_and, br_or, bnd1_mk, bnd2_mk, bnd3_mk, bnd4_mk, bnd5_mk, at_zero, at_succ, at_mid, unInt_mk, unBool_mk, unStr_mk, unBytes_mk, unSl_mk, unAgg_mk, unCons_mk, unNil_mk, endI, if_false, rdRu]
    rw [List.append_nil]
  | .cons tg v k r, pre, t + 1, acc, ht, hl, ha => by
    simp only [Tl.len] at ht hl ha
    obtain ⟨h1, h2, h3, h4⟩ := stepI pre (.agg [.int .i64 tg, .bytes v, .sl 67 k.enc]) r.enc (by rw [Tl.enc_len]; omega)
    have ih := fun acc ha => qDecode_loop hN b0 K1 r (pre ++ [.agg [.int .i64 tg, .bytes v, .sl 67 k.enc]]) t acc (by omega) (by simp; omega) ha
    rw [← mid, ← h3] at ih
    unfold S_qDecode_6 F_qDecode_6 rdRu
    simp only [Tl.enc, br_t, br_f, br_dec, br_not, br_and, br_or, bnd1_mk, bnd2_mk, bnd3_mk, bnd4_mk, bnd5_mk, at_zero, at_succ, at_mid, unInt_mk, unBool_mk, unStr_mk, unBytes_mk, unSl_mk, unAgg_mk, unCons_mk, unNil_mk, h1, h2, if_true, Int.toNat_natCast]
    by_cases c1 : tg = 128
    · rw [if_pos c1, if_pos c1]
      cases v with
      | nil => simp
      | cons op v =>
        have hq := qread_eq N hN 16 N v (by omega) (by omega)
        have hq' : QR (s_qread N N v 16) (rd 255 16 v) := hq
        cases v with
        | nil => simp [rd]
        | cons z v =>
        have e1 : ¬ (((op :: z :: v).length : Int) < 2) := by simp only [List.length_cons]; omega
        have e2 : (1 : Int) ≤ ((op :: z :: v).length : Int) := by simp only [List.length_cons]; omega
        have e3 : (0 : Int) < ((op :: z :: v).length : Int) := by simp only [List.length_cons]; omega
        simp only [e1, e2, e3, if_false, if_true, List.drop_succ_cons, List.drop_zero, at_zero, w64_u8]
        cases h : rd 255 16 (z :: v) with
        | none =>
          rw [h] at hq'
          obtain ⟨o, m, w, hq'⟩ := hq'
          rw [hq']; rfl
        | some x =>
          obtain ⟨⟨o, m, k'⟩, rest⟩ := x
          rw [h] at hq'
          have hq2 : s_qread N N (z :: v) 16 = some (o, m, k'.enc, rest, true) := hq'
          simp only [hq2, bnd5_mk, br_t]
          by_cases c2 : rest.length = 0
          · have hc : ((rE acc).length + [V.agg [V.int IntKind.i64 (op.toNat : Int), V.int IntKind.i64 o, V.int IntKind.i64 m, V.sl 24 k'.enc]].length) * 48 ≤ 140737488355328 := by rw [rE_len]; simp; omega
            have e : rE acc ++ [V.agg [V.int IntKind.i64 (op.toNat : Int), V.int IntKind.i64 o, V.int IntKind.i64 m, V.sl 24 k'.enc]] = rE (acc ++ [⟨(op.toNat : Int), o, m, k'⟩]) := by rw [rE_append]; rfl
            rw [if_neg (by omega), if_pos hc, if_pos c2, e, ih _ (by simp; omega)]
            cases rdRu 255 16 r with
            | none => rfl
            | some rs => simp
          · rw [if_pos (by omega), if_neg c2]
    · rw [if_neg c1, if_neg c1]
/-! Decode -/
def decT (b : List UInt8) : Except Int Tl := if 4096 < b.length then .error 3 else dec (b.length + 1) 1 b
theorem decR_decT (b : List UInt8) : decR b = decP [] (decT b) := by
  unfold decR decT
  split <;> rfl
theorem decT_ok {b : List UInt8} {l : Tl} (h : decT b = .ok l) : okL 1 l = true ∧ encL l = b ∧ l.wt ≤ b.length ∧ l.wf ∧ b.length ≤ 4096 := by
  unfold decT at h
  split at h
  · cases h
  · obtain ⟨h1, h2, h3, h4⟩ := enc_dec _ _ _ _ h
    exact ⟨h1, h2, h3, h4, by omega⟩
theorem decT_err {b : List UInt8} {e : Int} (h : decT b = .error e) : e ≠ 0 := by
  unfold decT at h
  split at h
  · injection h with h; omega
  · have := dec_err _ _ _ _ h; omega
theorem decT_put {l : Tl} (h : okL 1 l = true) (hl : (encL l).length ≤ 4096) : decT (encL l) = .ok l := by
  unfold decT
  rw [if_neg (by omega), dec_enc l _ 1 h (by omega) (Nat.lt_succ_self _)]
def decRu (b : List UInt8) : List Ru × Int :=
  match decT b with
  | .error e => ([], e)
  | .ok l => match rdRu 7 8 l with
    | none => ([], 4)
    | some rs => if chkR rs = 0 then (rs, 0) else ([], 4)
theorem goodR_rd {lim : Int} {e : Nat} {b : List UInt8} (hb : b.length ≤ 1000) (hN : 10000 < N) {l : Tl} (hd : decT b = .ok l) {rs : List Ru} (h : rdRu lim e l = some rs) : GoodR N rs := by
  obtain ⟨h1, h2, h3, h4, h5⟩ := decT_ok hd
  obtain ⟨h6, h7⟩ := rdRu_wf l rs h
  have := l.len_wt
  refine ⟨by omega, by omega, fun r hr => ?_⟩
  obtain ⟨a1, a2, a3, _⟩ := h7 r hr
  exact ⟨a1, a2, by omega, by omega⟩
theorem aDecode_eq (hN : 10000 < N) (b : List UInt8) (hb : b.length ≤ 1000) : s_aDecode N b = some (rE (decRu b).1, (decRu b).2) := by
  unfold s_aDecode decRu
  rw [Decode_eq N (by omega), decR_decT]
  cases hd : decT b with
  | error e =>
    have he := decT_err hd
    simp only [decP, bnd2_mk, br_not, br_dec]
    rw [if_neg he]; rfl
  | ok l =>
    obtain ⟨h1, h2, h3, h4, h5⟩ := decT_ok hd
    have := l.len_wt
    have hL : ∀ (K1 : List V → Option (List V × Int)), S_aDecode_6 N l.enc (l.enc.length : Int) N [] 0 (fun l2 n3 l4 => some (l2, n3)) K1 = match rdRu 7 8 l with
        | none => some ([], 4)
        | some rs => K1 (rE ([] ++ rs)) := fun K1 => aDecode_loop N (by omega) K1 l [] N [] (by omega) (by simp; omega) (by simp; omega)
    simp only [decP, List.nil_append, bnd2_mk, br_not, br_dec, if_true, hL]
    cases hr : rdRu 7 8 l with
    | none => rfl
    | some rs =>
      simp only [aCheckRules_eq N rs (goodR_rd N hb hN hd hr), bnd1_mk]
      by_cases c : chkR rs = 0
      · simp only [c, if_true]
      · simp only [c, if_false]; rfl
/-- The reference decodes what the program decodes. -/
theorem qDecode_eq (hN : 10000 < N) (b : List UInt8) (hb : b.length ≤ 1000) : s_qDecode N b = some (rE (decRu b).1, (decRu b).2) := by
  unfold s_qDecode decRu
  rw [rDecode_eq N (by omega), decR_decT]
  cases hd : decT b with
  | error e =>
    have he := decT_err hd
    simp only [decP, bnd2_mk, br_not, br_dec]
    rw [if_neg he]; rfl
  | ok l =>
    obtain ⟨h1, h2, h3, h4, h5⟩ := decT_ok hd
    have := l.len_wt
    have hL : ∀ (K1 : List V → Option (List V × Int)), S_qDecode_6 N b l.enc N [] 0 (fun l2 n3 l4 => some (l2, n3)) K1 = match rdRu 255 16 l with
        | none => some ([], 4)
        | some rs => K1 (rE ([] ++ rs)) := fun K1 => qDecode_loop N (by omega) b K1 l [] N [] (by omega) (by simp; omega) (by simp; omega)
    simp only [decP, List.nil_append, bnd2_mk, br_not, br_dec, if_true, hL]
    cases hr : rdRu 255 16 l with
    | none =>
      cases hr7 : rdRu 7 8 l with
      | none => rfl
      | some rs => rw [rdRu_mono (by omega) (by omega) l rs hr7] at hr; cases hr
    | some rs =>
      have hT := rdRu_ok l rs h1 hr
      have g := goodR_rd N hb hN hd hr
      simp only [qEncode_eq N rs g]
      unfold encRu
      by_cases c : chkR rs = 0
      · rw [if_pos c]
        obtain ⟨_, hv⟩ := chkR_zero c
        have h7 := rdRu_put rs hv
        rw [← hT] at h7
        have hlen : (encL (rT rs)).length ≤ 9223372036854775807 := by rw [← hT, h2]; omega
        simp only [bnd2_mk, if_true, hlen, (by omega : b.length ≤ 9223372036854775807)]
        rw [← hT, h2, if_pos rfl, h7]
        simp only [c, if_true]
      · rw [if_neg c]
        simp only [bnd2_mk, c, if_false]
        cases hr7 : rdRu 7 8 l with
        | none => rfl
        | some rs' =>
          have := rdRu_mono (lim' := 255) (e' := 16) (by omega) (by omega) l rs' hr7
          rw [hr] at this
          injection this with this
          subst this
          simp only [c, if_false]; rfl
theorem decRu_put {l : List Ru} (h : chkR l = 0) : decRu (encL (rT l)) = (l, 0) := by
  obtain ⟨h8, hv⟩ := chkR_zero h
  obtain ⟨_, h2, _, _⟩ := rT_wt l fun r hr => (hv r hr).2.2.2.1
  unfold decRu
  rw [decT_put (rT_ok l) (by omega)]
  simp only [rdRu_put l hv, h, if_true]
theorem decRu_ok {b : List UInt8} (h : (decRu b).2 = 0) : chkR (decRu b).1 = 0 ∧ encL (rT (decRu b).1) = b := by
  unfold decRu at *
  cases hd : decT b with
  | error e => rw [hd] at h; exact absurd h (decT_err hd)
  | ok l =>
    rw [hd] at h
    simp only at h ⊢
    obtain ⟨h1, h2, _⟩ := decT_ok hd
    cases hr : rdRu 7 8 l with
    | none => rw [hr] at h; simp at h
    | some rs =>
      rw [hr] at h
      simp only at h ⊢
      by_cases c : chkR rs = 0
      · rw [if_pos c]
        exact ⟨c, by rw [← rdRu_ok l rs h1 hr]; exact h2⟩
      · rw [if_neg c] at h; simp at h
end
end Go.Proofs.YtahemenhcoedgaaDoor.En

/- Which rules are the same: the program and the reference. -/
namespace Go.Proofs.YtahemenhcoedgaaDoor.En
open Go
set_option linter.unusedVariables false
theorem at_midE {α R : Type} {pre : List α} {n : Nat} (h : pre.length = n) (x : α) (suf : List α) (K : α → Option R) : at? (pre ++ x :: suf) n K = K x := by
  subst h; exact at_mid pre x suf K
section
variable (N : Nat)
def eqC (o m : Int) (k : Cl) (o' m' : Int) (k' : Cl) : Bool := decide (o = o' ∧ m = m' ∧ k = k')
theorem EqualFuncC_loop {R : Type} (f : Int → Int → List V → Int → Int → List V → Option Bool) (n : Nat) (hf : ∀ (o m : Int) (k : Cl) (o' m' : Int) (k' : Cl), k.nodes < n → k.wf → K63 k → k'.wf → K63 k' → f o m k.enc o' m' k'.enc = some (eqC o m k o' m' k')) (K0 : Bool → Option R) (K1 : Option R) :
    ∀ (l l' : Cl) (pre pre' : List V) (t : Nat), pre'.length = pre.length → l.len = l'.len → l.len < t → l.nodes ≤ n → l.wf → l'.wf → pre.length + l.len ≤ 9223372036854775807 →
      S_EqualFuncC_4 N f (pre' ++ l'.enc) (pre ++ l.enc) ((pre ++ l.enc).length : Int) t (pre.length : Int) K0 K1 = if l = l' then K1 else K0 false
  | l, l', pre, pre', 0, _, _, ht, _, _, _, _ => by omega
  | .nil, .nil, pre, pre', t + 1, _, _, ht, _, _, _, _ => by
    unfold S_EqualFuncC_4 F_EqualFuncC_4
    simp only [Cl.enc, br_t, br_f, br_dec, br_not, br_and, br_or, bnd1_mk, bnd2_mk, bnd3_mk, bnd4_mk, bnd5_mk, at_zero, at_succ, at_mid, unInt_mk, unBool_mk, unStr_mk, unBytes_mk, unSl_mk, unAgg_mk, unCons_mk, unNil_mk, endI, if_false, if_true]
  | .nil, .cons o m k r, pre, pre', t + 1, _, he, _, _, _, _, _ => by simp [Cl.len] at he
  | .cons o m k r, .nil, pre, pre', t + 1, _, he, _, _, _, _, _ => by simp [Cl.len] at he
  | .cons o m k r, .cons o' m' k' r', pre, pre', t + 1, hp, he, ht, hn, hw, hw', hl => by
    simp only [Cl.len, Cl.nodes] at ht hn hl he
    obtain ⟨_, _, hk1, hk2, hr⟩ := hw
    obtain ⟨_, _, hk1', hk2', hr'⟩ := hw'
    obtain ⟨h1, h2, h3, h4⟩ := stepC pre (ce o m k) r hl
    obtain ⟨h1', h2', h3', h4'⟩ := stepC pre' (ce o' m' k') r' (by omega)
    have ih := EqualFuncC_loop f n hf K0 K1 r r' (pre ++ [ce o m k]) (pre' ++ [ce o' m' k']) t (by simp [hp]) (by omega) (by omega) (by omega) hr hr' (by simp; omega)
    rw [← mid, ← mid, ← h3] at ih
    rw [hp] at h1'
    unfold S_EqualFuncC_4 F_EqualFuncC_4
    simp only [enc_cons, br_t, br_f, br_dec, br_not, br_and, br_or, bnd1_mk, bnd2_mk, bnd3_mk, bnd4_mk, bnd5_mk, at_zero, at_succ, at_mid, unInt_mk, unBool_mk, unStr_mk, unBytes_mk, unSl_mk, unAgg_mk, unCons_mk, unNil_mk, at_midE hp, h1, h1', h2, if_true, Int.toNat_natCast, hf o m k o' m' k' (by omega) hk2 hk1 hk2' hk1']
    rw [ih]
    unfold eqC
    by_cases c : o = o' ∧ m = m' ∧ k = k'
    · obtain ⟨rfl, rfl, rfl⟩ := c
      simp only [and_self, decide_true, br_t, Cl.cons.injEq, true_and]
    · rw [decide_eq_false c, br_f, if_neg]
      intro e
      injection e with e1 e2 e3 e4
      exact c ⟨e1, e2, e3⟩
theorem asame_eq : ∀ (M : Nat) (o m : Int) (k : Cl) (o' m' : Int) (k' : Cl), k.nodes < M → k.nodes < N → k.wf → K63 k → k'.wf → K63 k' → s_asame N M o m k.enc o' m' k'.enc = some (eqC o m k o' m' k')
  | 0, o, m, k, o', m', k', h, _, _, _, _, _ => by omega
  | M + 1, o, m, k, o', m', k', h, hN, hw, hl, hw', hl' => by
    have hln := Cl.len_le k
    have hf := fun (o m : Int) (k1 : Cl) (o' m' : Int) (k1' : Cl) (a1 : k1.nodes < k.nodes) (a2 : k1.wf) (a3 : K63 k1) (a4 : k1'.wf) (a5 : K63 k1') => asame_eq M o m k1 o' m' k1' (by omega) (by omega) a2 a3 a4 a5
    unfold s_asame B_asame s_nodeOf
    simp only [bnd3_mk, Cl.enc_len, Bool.and_true, br_and, br_dec]
    unfold eqC
    by_cases c1 : o = o'
    case neg => rw [if_neg c1, decide_eq_false (fun c => c1 c.1)]
    by_cases c2 : m = m'
    case neg => rw [if_pos c1, if_neg c2, decide_eq_false (fun c => c2 c.2.1)]
    rw [if_pos c1, if_pos c2]
    by_cases c3 : k.len = k'.len
    case neg => rw [if_neg (by omega), decide_eq_false (fun c => c3 (by rw [c.2.2]))]
    have hL : S_EqualFuncC_4 N (s_asame N M) k'.enc k.enc (k.enc.length : Int) N 0 (fun b => some b) (some true) = if k = k' then some true else some false :=
      EqualFuncC_loop N (s_asame N M) k.nodes hf (fun b => some b) (some true) k k' [] [] N rfl c3 (by omega) (Nat.le_refl _) hw hw' (by simpa using hl)
    unfold s_EqualFuncC
    rw [hL, br_not, br_dec, Cl.enc_len, Cl.enc_len, if_pos (by omega), if_pos (by omega)]
    by_cases c4 : k = k'
    · rw [if_pos c4, decide_eq_true ⟨c1, c2, c4⟩]; rfl
    · rw [if_neg c4, decide_eq_false (fun c => c4 c.2.2)]; rfl
theorem qSameCond_loop {R : Type} (f : Int → Int → List V → Int → Int → List V → Option Bool) (n : Nat) (hf : ∀ (o m : Int) (k : Cl) (o' m' : Int) (k' : Cl), k.nodes < n → k.wf → K63 k → k'.wf → K63 k' → f o m k.enc o' m' k'.enc = some (eqC o m k o' m' k')) (x y z w : Int) (K0 : Bool → Option R) (K1 : Option R) :
    ∀ (l l' : Cl) (pre pre' : List V) (t : Nat), pre'.length = pre.length → l.len = l'.len → l.len < t → l.nodes ≤ n → l.wf → l'.wf → pre.length + l.len ≤ 9223372036854775807 →
      S_qSameCond_4 N f x y (pre ++ l.enc) z w (pre' ++ l'.enc) t (pre.length : Int) K0 K1 = if l = l' then K1 else K0 false
  | l, l', pre, pre', 0, _, _, ht, _, _, _, _ => by omega
  | .nil, .nil, pre, pre', t + 1, _, _, ht, _, _, _, _ => by
    unfold S_qSameCond_4 F_qSameCond_4
    simp only [Cl.enc, br_t, br_f, br_dec, br_not, br_and, br_or, bnd1_mk, bnd2_mk, bnd3_mk, bnd4_mk, bnd5_mk, at_zero, at_succ, at_mid, unInt_mk, unBool_mk, unStr_mk, unBytes_mk, unSl_mk, unAgg_mk, unCons_mk, unNil_mk, endI, if_false, if_true]
  | .nil, .cons o m k r, pre, pre', t + 1, _, he, _, _, _, _, _ => by simp [Cl.len] at he
  | .cons o m k r, .nil, pre, pre', t + 1, _, he, _, _, _, _, _ => by simp [Cl.len] at he
  | .cons o m k r, .cons o' m' k' r', pre, pre', t + 1, hp, he, ht, hn, hw, hw', hl => by
    simp only [Cl.len, Cl.nodes] at ht hn hl he
    obtain ⟨_, _, hk1, hk2, hr⟩ := hw
    obtain ⟨_, _, hk1', hk2', hr'⟩ := hw'
    obtain ⟨h1, h2, h3, h4⟩ := stepC pre (ce o m k) r hl
    obtain ⟨h1', h2', h3', h4'⟩ := stepC pre' (ce o' m' k') r' (by omega)
    have ih := qSameCond_loop f n hf x y z w K0 K1 r r' (pre ++ [ce o m k]) (pre' ++ [ce o' m' k']) t (by simp [hp]) (by omega) (by omega) (by omega) hr hr' (by simp; omega)
    rw [← mid, ← mid, ← h3] at ih
    rw [hp] at h1'
    unfold S_qSameCond_4 F_qSameCond_4
    simp only [enc_cons, br_t, br_f, br_dec, br_not, br_and, br_or, bnd1_mk, bnd2_mk, bnd3_mk, bnd4_mk, bnd5_mk, at_zero, at_succ, at_mid, unInt_mk, unBool_mk, unStr_mk, unBytes_mk, unSl_mk, unAgg_mk, unCons_mk, unNil_mk, at_midE hp, h1, h1', h2, if_true, Int.toNat_natCast, hf o m k o' m' k' (by omega) hk2 hk1 hk2' hk1']
    rw [ih]
    unfold eqC
    by_cases c : o = o' ∧ m = m' ∧ k = k'
    · obtain ⟨rfl, rfl, rfl⟩ := c
      simp only [and_self, decide_true, br_t, Cl.cons.injEq, true_and]
    · rw [decide_eq_false c, br_f, if_neg]
      intro e
      injection e with e1 e2 e3 e4
      exact c ⟨e1, e2, e3⟩
theorem qSameCond_eq : ∀ (M : Nat) (o m : Int) (k : Cl) (o' m' : Int) (k' : Cl), k.nodes < M → k.nodes < N → k.wf → K63 k → k'.wf → K63 k' → s_qSameCond N M o m k.enc o' m' k'.enc = some (eqC o m k o' m' k')
  | 0, o, m, k, o', m', k', h, _, _, _, _, _ => by omega
  | M + 1, o, m, k, o', m', k', h, hN, hw, hl, hw', hl' => by
    have hln := Cl.len_le k
    have hf := fun (o m : Int) (k1 : Cl) (o' m' : Int) (k1' : Cl) (a1 : k1.nodes < k.nodes) (a2 : k1.wf) (a3 : K63 k1) (a4 : k1'.wf) (a5 : K63 k1') => qSameCond_eq M o m k1 o' m' k1' (by omega) (by omega) a2 a3 a4 a5
    unfold s_qSameCond B_qSameCond
    simp only [Cl.enc_len, br_not, br_dec]
    unfold eqC
    by_cases c1 : o = o'
    case neg => rw [if_neg c1, decide_eq_false (fun c => c1 c.1)]
    by_cases c2 : m = m'
    case neg => rw [if_pos c1, if_neg c2, decide_eq_false (fun c => c2 c.2.1)]
    rw [if_pos c1, if_pos c2]
    by_cases c3 : k.len = k'.len
    case neg => rw [if_neg (by omega), decide_eq_false (fun c => c3 (by rw [c.2.2]))]
    have hL : S_qSameCond_4 N (s_qSameCond N M) o m k.enc o' m' k'.enc N 0 (fun b => some b) (some true) = if k = k' then some true else some false :=
      qSameCond_loop N (s_qSameCond N M) k.nodes hf o m o' m' (fun b => some b) (some true) k k' [] [] N rfl c3 (by omega) (Nat.le_refl _) hw hw' (by simpa using hl)
    rw [hL, if_pos (by omega)]
    by_cases c4 : k = k'
    · rw [if_pos c4, decide_eq_true ⟨c1, c2, c4⟩]
    · rw [if_neg c4, decide_eq_false (fun c => c4 c.2.2)]
/-! Rules -/
theorem EqualFuncR_loop {R : Type} (K0 : Bool → Option R) (K1 : Option R) :
    ∀ (l l' : List Ru) (pre pre' : List V) (t : Nat), pre'.length = pre.length → l.length = l'.length → l.length < t → (∀ r ∈ l, InC N r.k) → (∀ r ∈ l', InC N r.k) → pre.length + l.length ≤ 9223372036854775807 →
      S_EqualFuncR_4 N (pre' ++ rE l') (pre ++ rE l) ((pre ++ rE l).length : Int) t (pre.length : Int) K0 K1 = if l = l' then K1 else K0 false
  | l, l', pre, pre', 0, _, _, ht, _, _, _ => by omega
  | [], [], pre, pre', t + 1, _, _, ht, _, _, _ => by
    unfold S_EqualFuncR_4 F_EqualFuncR_4
    simp only [rE, br_t, br_f, br_dec, br_not, br_and, br_or, bnd1_mk, bnd2_mk, bnd3_mk, bnd4_mk, bnd5_mk, at_zero, at_succ, at_mid, unInt_mk, unBool_mk, unStr_mk, unBytes_mk, unSl_mk, unAgg_mk, unCons_mk, unNil_mk, endI, if_false, if_true]
  | [], _ :: _, pre, pre', t + 1, _, he, _, _, _, _ => by simp at he
  | _ :: _, [], pre, pre', t + 1, _, he, _, _, _, _ => by simp at he
  | r :: l, r' :: l', pre, pre', t + 1, hp, he, ht, hg, hg', hl => by
    simp only [List.length_cons] at ht hl he
    obtain ⟨h1, h2, h3, h4⟩ := stepR pre (.agg [.int .i64 r.ops, .int .i64 r.o, .int .i64 r.m, .sl 24 r.k.enc]) l hl
    obtain ⟨h1', h2', h3', h4'⟩ := stepR pre' (.agg [.int .i64 r'.ops, .int .i64 r'.o, .int .i64 r'.m, .sl 24 r'.k.enc]) l' (by omega)
    have ih := EqualFuncR_loop K0 K1 l l' (pre ++ [.agg [.int .i64 r.ops, .int .i64 r.o, .int .i64 r.m, .sl 24 r.k.enc]]) (pre' ++ [.agg [.int .i64 r'.ops, .int .i64 r'.o, .int .i64 r'.m, .sl 24 r'.k.enc]]) t (by simp [hp]) (by omega) (by omega) (fun r hr => hg r (by simp [hr])) (fun r hr => hg' r (by simp [hr])) (by simp; omega)
    rw [← mid, ← mid, ← h3] at ih
    rw [hp] at h1'
    have g := hg r (by simp)
    have g' := hg' r' (by simp)
    unfold S_EqualFuncR_4 F_EqualFuncR_4
    simp only [rE, br_t, br_f, br_dec, br_not, br_and, br_or, bnd1_mk, bnd2_mk, bnd3_mk, bnd4_mk, bnd5_mk, at_zero, at_succ, at_mid, unInt_mk, unBool_mk, unStr_mk, unBytes_mk, unSl_mk, unAgg_mk, unCons_mk, unNil_mk, at_midE hp, h1, h1', h2, if_true, Int.toNat_natCast, s_aSame1, asame_eq N N r.o r.m r.k r'.o r'.m r'.k g.fuel g.fuel g.wf g.len g'.wf g'.len]
    rw [ih]
    obtain ⟨a, b, c, d⟩ := r
    obtain ⟨a', b', c', d'⟩ := r'
    unfold eqC
    by_cases c0 : a = a'
    case neg =>
      rw [if_neg c0, bnd1_mk, br_f, if_neg]
      intro e; injection e with e1 _; injection e1 with e2; exact c0 e2
    rw [if_pos c0, bnd1_mk]
    simp only [br_dec]
    by_cases c : b = b' ∧ c = c' ∧ d = d'
    · obtain ⟨rfl, rfl, rfl⟩ := c
      subst c0
      simp only [and_self, if_true, List.cons.injEq, true_and]
    · rw [if_neg c, if_neg]
      intro e; injection e with e1 _; injection e1 with e2 e3 e4 e5; exact c ⟨e3, e4, e5⟩
theorem aSame_eq (l l' : List Ru) (hN : l.length < N) (hl : l.length ≤ 9223372036854775807) (hg : ∀ r ∈ l, InC N r.k) (hg' : ∀ r ∈ l', InC N r.k) : s_aSame N (rE l) (rE l') = some (decide (l = l')) := by
  unfold s_aSame s_EqualFuncR
  rw [br_not, br_dec, rE_len, rE_len]
  by_cases c : l.length = l'.length
  · have hL : S_EqualFuncR_4 N (rE l') (rE l) ((rE l).length : Int) N 0 (fun b => some b) (some true) = if l = l' then some true else some false :=
      EqualFuncR_loop N (fun b => some b) (some true) l l' [] [] N rfl c hN hg hg' (by simpa using hl)
    rw [rE_len] at hL
    rw [if_pos (by omega), hL]
    by_cases c2 : l = l' <;> simp [c2, bnd1_mk]
  · rw [if_neg (by omega), decide_eq_false (fun e => c (by rw [e]))]; rfl
theorem qSame_loop {R : Type} (K0 : Bool → Option R) (K1 : Option R) :
    ∀ (l l' : List Ru) (pre pre' : List V) (t : Nat), pre'.length = pre.length → l.length = l'.length → l.length < t → (∀ r ∈ l, InC N r.k) → (∀ r ∈ l', InC N r.k) → pre.length + l.length ≤ 9223372036854775807 →
      S_qSame_4 N (pre ++ rE l) (pre' ++ rE l') t (pre.length : Int) K0 K1 = if l = l' then K1 else K0 false
  | l, l', pre, pre', 0, _, _, ht, _, _, _ => by omega
  | [], [], pre, pre', t + 1, _, _, ht, _, _, _ => by
    unfold S_qSame_4 F_qSame_4
    simp only [rE, br_t, br_f, br_dec, br_not, br_and, br_or, bnd1_mk, bnd2_mk, bnd3_mk, bnd4_mk, bnd5_mk, at_zero, at_succ, at_mid, unInt_mk, unBool_mk, unStr_mk, unBytes_mk, unSl_mk, unAgg_mk, unCons_mk, unNil_mk, endI, if_false, if_true]
  | [], _ :: _, pre, pre', t + 1, _, he, _, _, _, _ => by simp at he
  | _ :: _, [], pre, pre', t + 1, _, he, _, _, _, _ => by simp at he
  | r :: l, r' :: l', pre, pre', t + 1, hp, he, ht, hg, hg', hl => by
    simp only [List.length_cons] at ht hl he
    obtain ⟨h1, h2, h3, h4⟩ := stepR pre (.agg [.int .i64 r.ops, .int .i64 r.o, .int .i64 r.m, .sl 24 r.k.enc]) l hl
    obtain ⟨h1', h2', h3', h4'⟩ := stepR pre' (.agg [.int .i64 r'.ops, .int .i64 r'.o, .int .i64 r'.m, .sl 24 r'.k.enc]) l' (by omega)
    have ih := qSame_loop K0 K1 l l' (pre ++ [.agg [.int .i64 r.ops, .int .i64 r.o, .int .i64 r.m, .sl 24 r.k.enc]]) (pre' ++ [.agg [.int .i64 r'.ops, .int .i64 r'.o, .int .i64 r'.m, .sl 24 r'.k.enc]]) t (by simp [hp]) (by omega) (by omega) (fun r hr => hg r (by simp [hr])) (fun r hr => hg' r (by simp [hr])) (by simp; omega)
    rw [← mid, ← mid, ← h3] at ih
    rw [hp] at h1'
    have g := hg r (by simp)
    have g' := hg' r' (by simp)
    unfold S_qSame_4 F_qSame_4
    simp only [rE, br_t, br_f, br_dec, br_not, br_and, br_or, bnd1_mk, bnd2_mk, bnd3_mk, bnd4_mk, bnd5_mk, at_zero, at_succ, at_mid, unInt_mk, unBool_mk, unStr_mk, unBytes_mk, unSl_mk, unAgg_mk, unCons_mk, unNil_mk, at_midE hp, h1, h1', h2, if_true, Int.toNat_natCast, qSameCond_eq N N r.o r.m r.k r'.o r'.m r'.k g.fuel g.fuel g.wf g.len g'.wf g'.len]
    rw [ih]
    obtain ⟨a, b, c, d⟩ := r
    obtain ⟨a', b', c', d'⟩ := r'
    unfold eqC
    by_cases c0 : a = a'
    case neg =>
      rw [if_neg c0, if_neg]
      intro e; injection e with e1 _; injection e1 with e2; exact c0 e2
    rw [if_pos c0]
    simp only [br_dec]
    by_cases c : b = b' ∧ c = c' ∧ d = d'
    · obtain ⟨rfl, rfl, rfl⟩ := c
      subst c0
      simp only [and_self, if_true, List.cons.injEq, true_and]
    · rw [if_neg c, if_neg]
      intro e; injection e with e1 _; injection e1 with e2 e3 e4 e5; exact c ⟨e3, e4, e5⟩
theorem qSame_eq (l l' : List Ru) (hN : l.length < N) (hl : l.length ≤ 9223372036854775807) (hg : ∀ r ∈ l, InC N r.k) (hg' : ∀ r ∈ l', InC N r.k) : s_qSame N (rE l) (rE l') = some (decide (l = l')) := by
  unfold s_qSame
  rw [br_not, br_dec, rE_len, rE_len]
  by_cases c : l.length = l'.length
  · have hL : S_qSame_4 N (rE l) (rE l') N 0 (fun b => some b) (some true) = if l = l' then some true else some false :=
      qSame_loop N (fun b => some b) (some true) l l' [] [] N rfl c hN hg hg' (by simpa using hl)
    rw [if_pos (by omega), hL]
    by_cases c2 : l = l' <;> simp [c2]
  · rw [if_neg (by omega), decide_eq_false (fun e => c (by rw [e]))]
end
end Go.Proofs.YtahemenhcoedgaaDoor.En

/- The texts of conditions differ. Plain. -/
namespace Go.Proofs.YtahemenhcoedgaaDoor.En
open Go
set_option linter.unusedVariables false
/-- The digits of a number from 0 to 99. -/
def numB (n : Int) : List UInt8 := if 10 ≤ n then [UInt8.ofNat (48 + (n / 10).toNat), UInt8.ofNat (48 + (n % 10).toNat)] else [UInt8.ofNat (48 + n.toNat)]
def headB (o : Int) : List UInt8 :=
  if o = 0 then [110, 101, 118, 101, 114] else if o = 1 then [97, 108, 119, 97, 121, 115] else if o = 2 then [112, 105, 110] else if o = 3 then [107, 101, 121]
  else if o = 4 then [115, 116, 97, 116, 101] else if o = 5 then [108, 101, 118, 101, 108] else if o = 6 then [97, 110, 100] else if o = 7 then [111, 114] else []
/-- The texts of a list, with commas. -/
def tL : Cl → Bool → List UInt8
  | .nil, _ => []
  | .cons o m k r, first => (bif first then [] else [44, 32]) ++ ((headB o ++ (if 6 ≤ o then 40 :: (tL k true ++ [41]) else if 2 ≤ o then 32 :: numB m else [])) ++ tL r false)
def tC (o m : Int) (k : Cl) : List UInt8 := headB o ++ (if 6 ≤ o then 40 :: (tL k true ++ [41]) else if 2 ≤ o then 32 :: numB m else [])
theorem tL_cons (o m : Int) (k r : Cl) (first : Bool) : tL (.cons o m k r) first = (bif first then [] else [44, 32]) ++ (tC o m k ++ tL r false) := by
  conv => lhs; unfold tL
  rfl
/-- The number of a valid condition. -/
theorem vC_num {o m : Int} {k : Cl} (h : vC o m k = true) : 0 ≤ m ∧ m < 100 := by
  rcases vC_leaf h with h | h | h | h | h | h | h
  · omega
  · omega
  · omega
  · omega
  · omega
  · have := level_range h.2.1 h.2.2.1; omega
  · omega
end Go.Proofs.YtahemenhcoedgaaDoor.En

/- The texts of conditions: the program and the reference. -/
namespace Go.Proofs.YtahemenhcoedgaaDoor.En
open Go
set_option linter.unusedVariables false
def tS : Cl → List (List UInt8)
  | .nil => []
  | .cons o m k r => tC o m k :: tS r
theorem tS_tail : ∀ l : Cl, Lib.joinTail [44, 32] (tS l) = tL l false
  | .nil => rfl
  | .cons o m k r => by
    rw [tL_cons, ← tS_tail r]
    simp [tS, Lib.joinTail]
theorem tS_join : ∀ l : Cl, Lib.join (tS l) [44, 32] = tL l true
  | .nil => rfl
  | .cons o m k r => by
    show Lib.join (tC o m k :: tS r) [44, 32] = _
    rw [Lib.join_cons, tS_tail, tL_cons]; rfl
theorem tS_len : ∀ l : Cl, (tS l).length = l.len
  | .nil => rfl
  | .cons o m k r => by simp [tS, Cl.len, tS_len r]
theorem headB_len (o : Int) : (headB o).length ≤ 6 := by
  unfold headB
  (repeat' split) <;> simp
theorem numB_len (n : Int) : (numB n).length ≤ 2 := by unfold numB; split <;> simp
theorem tL_len : ∀ (l : Cl) (first : Bool), (tL l first).length ≤ 20 * l.nodes
  | .nil, _ => Nat.zero_le _
  | .cons o m k r, first => by
    have h1 := tL_len k true
    have h2 := tL_len r false
    have h3 := headB_len o
    have h4 := numB_len m
    rw [tL_cons]
    unfold tC
    simp only [List.length_append, Cl.nodes]
    have h5 : (bif first then ([] : List UInt8) else [44, 32]).length ≤ 2 := by cases first <;> simp
    split
    · simp only [List.length_cons, List.length_append, List.length_nil]; omega
    split
    · simp only [List.length_cons]; omega
    · simp only [List.length_nil]; omega
theorem flatS_str : ∀ ls : List (List UInt8), flatS (ls.map V.str) = some ls
  | [] => rfl
  | l :: ls => by simp [flatS, flatS_str ls]
section
variable (N : Nat)
theorem Itoa0 : ∀ n : Fin 100, s_Itoa 0 (n.val : Int) = some (numB (n.val : Int)) := by decide +kernel
theorem Itoa_eq {n : Int} (h : 0 ≤ n ∧ n < 100) : s_Itoa N n = some (numB n) := by
  obtain ⟨k, rfl⟩ := Int.eq_ofNat_of_zero_le h.1
  exact Itoa0 ⟨k, by omega⟩
theorem Join_eq (l : Cl) (h : l.nodes ≤ 1000) : s_Join N ((tS l).map V.str) [44, 32] = some (tL l true) := by
  have h1 := tL_len l true
  have h2 := tS_len l
  have h3 := Cl.len_le l
  unfold s_Join
  rw [flatS_str]
  show br (decide ((Lib.join (tS l) [44, 32]).length ≤ 1000000) && decide ((tS l).length ≤ 1000000)) _ _ = _
  rw [tS_join, decide_eq_true (by omega), decide_eq_true (by omega)]; rfl
theorem atext_loop {R : Type} (f : Int → Int → List V → Option (List UInt8)) (n : Nat) (hf : ∀ (o m : Int) (k : Cl), vC o m k = true → k.nodes < n → k.wf → K63 k → f o m k.enc = some (tC o m k)) (K : List V → Option R) (a4 a5 : Int) (a6 : List V) (a7 : List UInt8) (b8 b9 : Bool) (a10 a11 : Int) :
    ∀ (l : Cl) (pre : List V) (t : Nat) (acc : List V), vL l = true → l.len < t → l.nodes ≤ n → l.wf → pre.length + l.len ≤ 9223372036854775807 → acc.length + l.len ≤ 1000000 →
      S_atext_8 N f (pre ++ l.enc) ((pre ++ l.enc).length : Int) a4 a5 a6 a7 b8 b9 a10 a11 t acc (pre.length : Int) K = K (acc ++ (tS l).map V.str)
  | l, pre, 0, acc, _, ht, _, _, _, _ => by omega
  | .nil, pre, t + 1, acc, _, ht, _, _, _, _ => by
    unfold S_atext_8 F_atext_8
    simp only [Cl.enc, br_t, br_f, br_dec, br_not, br_and, br_or, bnd1_mk, bnd2_mk, bnd3_mk, bnd4_mk, bnd5_mk, at_zero, at_succ, at_mid, unInt_mk, unBool_mk, unStr_mk, unBytes_mk, unSl_mk, unAgg_mk, unCons_mk, unNil_mk, endI, if_false, tS, List.map_nil]
    rw [List.append_nil]
  | .cons o m k r, pre, t + 1, acc, hv, ht, hn, hw, hl, hb => by
    simp only [Cl.len, Cl.nodes] at ht hn hl hb
    rw [vL_cons, Bool.and_eq_true] at hv
    obtain ⟨_, _, hk1, hk2, hr⟩ := hw
    obtain ⟨h1, h2, h3, h4⟩ := stepC pre (ce o m k) r hl
    have ih := atext_loop f n hf K a4 a5 a6 a7 b8 b9 a10 a11 r (pre ++ [ce o m k]) t (acc ++ [V.str (tC o m k)]) hv.2 (by omega) (by omega) hr (by simp; omega) (by simp; omega)
    rw [← mid, ← h3] at ih
    have hc : (acc.length + [V.str (tC o m k)].length) * 16 ≤ 140737488355328 := by simp; omega
    unfold S_atext_8 F_atext_8
    simp only [enc_cons, br_t, br_f, br_dec, br_not, br_and, br_or, bnd1_mk, bnd2_mk, bnd3_mk, bnd4_mk, bnd5_mk, at_zero, at_succ, at_mid, unInt_mk, unBool_mk, unStr_mk, unBytes_mk, unSl_mk, unAgg_mk, unCons_mk, unNil_mk, h1, h2, if_true, Int.toNat_natCast, hf o m k hv.1 (by omega) hk2 hk1, hc]
    rw [ih]
    simp [tS]
theorem atext_eq : ∀ (M : Nat) (o m : Int) (k : Cl), vC o m k = true → k.nodes < M → k.nodes < N → k.nodes ≤ 1000 → k.wf → K63 k → s_atext N M o m k.enc = some (tC o m k)
  | 0, o, m, k, _, h, _, _, _, _ => by omega
  | M + 1, o, m, k, hv, h, hN, hs, hw, hl => by
    have hln := Cl.len_le k
    have hf := fun (o m : Int) (k' : Cl) (a0 : vC o m k' = true) (a1 : k'.nodes < k.nodes) (a2 : k'.wf) (a3 : K63 k') => atext_eq M o m k' a0 (by omega) (by omega) (by omega) a2 a3
    have hL : ∀ (K : List V → Option (List UInt8)) (x : Int) (a7 : List UInt8) (b8 b9 : Bool) (a10 a11 : Int), vL k = true → S_atext_8 N (s_atext N M) k.enc (k.enc.length : Int) x m k.enc a7 b8 b9 a10 a11 N [] 0 K = K ((tS k).map V.str) := fun K x a7 b8 b9 a10 a11 hvk =>
      atext_loop N (s_atext N M) k.nodes hf K x m k.enc a7 b8 b9 a10 a11 k [] N [] hvk (by omega) (Nat.le_refl _) hw (by simpa using hl) (by simp; omega)
    have hnum := vC_num hv
    have hnl := numB_len m
    have htl := tL_len k true
    unfold s_atext B_atext tC headB
    simp only [s_forms, bnd1_mk, br_dec, Itoa_eq N hnum]
    rcases vC_leaf hv with ⟨rfl, _, rfl⟩ | ⟨rfl, _, rfl⟩ | ⟨rfl, b1, b2, rfl⟩ | ⟨rfl, b1, b2, rfl⟩ | ⟨rfl, _, _, rfl⟩ | ⟨rfl, b1, b2, rfl⟩ | ⟨rfl | rfl, h1, h2, h3⟩
    · simp
    · simp
    · rw [if_neg (by omega), if_neg (by omega), if_pos rfl, if_pos (by omega)]; rfl
    · rw [if_neg (by omega), if_neg (by omega), if_neg (by omega), if_pos rfl, if_pos (by omega)]; rfl
    · rw [if_neg (by omega), if_neg (by omega), if_neg (by omega), if_neg (by omega), if_pos rfl, if_pos (by omega)]; rfl
    · rw [if_neg (by omega), if_neg (by omega), if_neg (by omega), if_neg (by omega), if_neg (by omega), if_pos rfl, if_pos (by omega)]; rfl
    · rw [if_neg (by omega), if_neg (by omega), if_neg (by omega), if_neg (by omega), if_neg (by omega), if_neg (by omega), if_pos rfl, hL _ _ _ _ _ _ _ h3, Join_eq N k (by omega), bnd1_mk, if_pos (by omega), if_pos (by
        show (97 :: 110 :: 100 :: 40 :: ([] ++ tL k true)).length + 1 ≤ _
        simp only [List.length_cons, List.nil_append]; omega)]; rfl
    · rw [if_neg (by omega), if_neg (by omega), if_neg (by omega), if_neg (by omega), if_neg (by omega), if_neg (by omega), if_neg (by omega), if_pos rfl, hL _ _ _ _ _ _ _ h3, Join_eq N k (by omega), bnd1_mk, if_pos (by omega), if_pos (by
        show (111 :: 114 :: 40 :: ([] ++ tL k true)).length + 1 ≤ _
        simp only [List.length_cons, List.nil_append]; omega)]; rfl
def textC (o m : Int) (k : Cl) : List UInt8 := if chk o m k = 0 then tC o m k else []
theorem aText_eq (o m : Int) (k : Cl) (g : GoodC N k) : s_aText N o m k.enc = some (textC o m k) := by
  unfold s_aText textC
  rw [aCheck_eq N o m k g, bnd1_mk, br_not, br_dec]
  by_cases hc : chk o m k = 0
  · rw [if_pos hc, if_pos hc, atext_eq N N o m k (chk_zero hc).1 g.fuel g.fuel g.nodes g.wf g.len]; rfl
  · rw [if_neg hc, if_neg hc]
end
end Go.Proofs.YtahemenhcoedgaaDoor.En

/- The statements of chapter 14 in plain Lean, but those that count atoms. -/
namespace Go.Proofs.YtahemenhcoedgaaDoor.En
open Go
set_option linter.unusedVariables false
def exK : Cl := .cons 2 1 .nil (.cons 7 0 (.cons 3 2 .nil (.cons 4 3 .nil .nil)) .nil)
section
variable (N : Nat)
theorem works_eq (hN : 200000 < N) : s_works N = some true := by
  have wk : exK.wf := by simp [exK, Cl.wf, Cl.len]
  have hn : exK.nodes = 4 := rfl
  have gk : GoodC N exK := ⟨wk, by show (2 : Nat) ≤ _; omega, by omega, by omega⟩
  have g0 : GoodC N .nil := ⟨trivial, Nat.zero_le _, Nat.zero_le _, by show 0 < N; omega⟩
  have e1 : s_aEncode N (rE [⟨3, 6, 0, exK⟩]) = some ([128, 11, 3, 6, 2, 2, 1, 7, 2, 3, 2, 4, 3], 0) := by
    rw [aEncode_eq N [⟨3, 6, 0, exK⟩] ⟨by simp, by omega, by intro r hr; simp at hr; subst hr; exact gk⟩]
    exact congrArg some (by decide +kernel)
  have e2 : s_aHolds N 6 0 exK.enc 2 4 0 0 = some true := by
    have := aHolds_eq N ⟨2, 4, 0, 0⟩ 6 0 exK gk
    rw [show holdsP ⟨2, 4, 0, 0⟩ 6 0 exK = true by decide +kernel] at this; exact this
  have e3 : s_aHolds N 6 0 exK.enc 2 0 4 0 = some true := by
    have := aHolds_eq N ⟨2, 0, 4, 0⟩ 6 0 exK gk
    rw [show holdsP ⟨2, 0, 4, 0⟩ 6 0 exK = true by decide +kernel] at this; exact this
  have e4 : s_aHolds N 6 0 exK.enc 1 0 0 0 = some false := by
    have := aHolds_eq N ⟨1, 0, 0, 0⟩ 6 0 exK gk
    rw [show holdsP ⟨1, 0, 0, 0⟩ 6 0 exK = false by decide +kernel] at this; exact this
  have e5 : s_aText N 6 0 exK.enc = some [97, 110, 100, 40, 112, 105, 110, 32, 49, 44, 32, 111, 114, 40, 107, 101, 121, 32, 50, 44, 32, 115, 116, 97, 116, 101, 32, 51, 41, 41] := by
    rw [aText_eq N 6 0 exK gk]
    exact congrArg some (by decide +kernel)
  have e6 : s_Implies N 4 3 [] 4 2 [] = some true := by
    have := Implies_eq N hN 4 3 .nil 4 2 .nil g0 g0
    rw [show impP 4 3 .nil 4 2 .nil = true by decide +kernel] at this; exact this
  have e7 : s_Implies N 2 1 [] 3 2 [] = some false := by
    have := Implies_eq N hN 2 1 .nil 3 2 .nil g0 g0
    rw [show impP 2 1 .nil 3 2 .nil = false by decide +kernel] at this; exact this
  unfold s_works
  show bnd2 (s_aEncode N (rE [⟨3, 6, 0, exK⟩])) _ = _
  rw [e1, bnd2_mk]
  show bnd1 (s_aHolds N 6 0 exK.enc 2 4 0 0) _ = _
  rw [e2, bnd1_mk, br_t]
  show bnd1 (s_aHolds N 6 0 exK.enc 2 0 4 0) _ = _
  rw [e3, bnd1_mk, br_t]
  show bnd1 (s_aHolds N 6 0 exK.enc 1 0 0 0) _ = _
  rw [e4, bnd1_mk, br_not, br_f, br_dec, if_pos rfl, br_dec, if_pos (by simp), br_dec, if_pos rfl]
  show bnd1 (s_aText N 6 0 exK.enc) _ = _
  rw [e5, bnd1_mk, br_dec, if_pos rfl, e6, bnd1_mk, br_t, e7, bnd1_mk]; rfl
/-- A condition that came in. -/
structure ArgC (o m : Int) (k : Cl) : Prop where
  o : I64 o
  m : I64 m
  wf : k.wf
  len : K63 k
theorem ArgC.inC {o m : Int} {k : Cl} (g : ArgC o m k) {N : Nat} (h : k.nodes < N) : InC N k := ⟨g.wf, g.len, h⟩
theorem ArgC.good {o m : Int} {k : Cl} (g : ArgC o m k) {N : Nat} (hN : 200000 < N) (h : k.nodes ≤ 199) : GoodC N k := ⟨g.wf, g.len, by omega, by omega⟩
/-- Rules that came in. -/
structure ArgR (l : List Ru) : Prop where
  all : ∀ r ∈ l, ArgC r.o r.m r.k ∧ I64 r.ops
  len : l.length ≤ 9223372036854775807
def sumR : List Ru → Nat
  | [] => 0
  | r :: l => r.k.nodes + 1 + sumR l
theorem sumR_mem : ∀ {l : List Ru} {r : Ru}, r ∈ l → r.k.nodes + 1 ≤ sumR l
  | a :: l, r, h => by
    unfold sumR
    rcases List.mem_cons.1 h with rfl | h
    · omega
    · have := sumR_mem h; omega
theorem sumR_len : ∀ l : List Ru, l.length ≤ sumR l
  | [] => Nat.le_refl _
  | r :: l => by have := sumR_len l; simp only [List.length_cons, sumR]; omega
theorem fewRules_arg {l : List Ru} (g : ArgR l) (h : sumR l < N) : s_lfewRules N (rE l) = some (fewR l) := by
  have := sumR_len l
  refine lfewRules_eq N l (by omega) (fun r hr => ?_) g.len
  have := sumR_mem hr
  obtain ⟨ga, gb⟩ := g.all r hr
  exact ⟨ga.inC (by omega), by omega, ga.o, ga.m⟩
theorem good_few {l : List Ru} (g : ArgR l) (hN : 200000 < N) (h : fewR l = true) : GoodR N l := by
  unfold fewR at h
  simp only [Bool.and_eq_true, decide_eq_true_eq, List.all_eq_true] at h
  refine ⟨by omega, by omega, fun r hr => ?_⟩
  exact (g.all r hr).1.good hN (h.2 r hr)
theorem GoodR.inC {N : Nat} {l : List Ru} (g : GoodR N l) : ∀ r ∈ l, InC N r.k := fun r hr => ⟨(g.good r hr).wf, (g.good r hr).len, (g.good r hr).fuel⟩
theorem goodR_dec {N : Nat} {b : List UInt8} (hb : b.length ≤ 1000) (hN : 10000 < N) : GoodR N (decRu b).1 := by
  have gnil : GoodR N [] := ⟨by simp, by omega, by simp⟩
  unfold decRu
  cases hd : decT b with
  | error e => exact gnil
  | ok l =>
    simp only
    cases hr : rdRu 7 8 l with
    | none => exact gnil
    | some rs =>
      simp only
      split
      · exact goodR_rd N hb hN hd hr
      · exact gnil
theorem encRu_len (l : List Ru) : (encRu l).1.length ≤ 320 := by
  unfold encRu
  split
  · rename_i h
    obtain ⟨h8, hv⟩ := chkR_zero h
    obtain ⟨_, h2, _, _⟩ := rT_wt l fun r hr => (hv r hr).2.2.2.1
    simp only; omega
  · simp
/-! The statements -/
theorem wEncodes_eq (hN : 200000 < N) {l : List Ru} (g : ArgR l) (h : sumR l < N) : s_wEncodes N (rE l) = some true := by
  unfold s_wEncodes
  rw [fewRules_arg N g h, bnd1_mk, works_eq N hN, br_not]
  cases hf : fewR l with
  | false => rfl
  | true =>
    have gg := good_few N g hN hf
    have hl := encRu_len l
    rw [br_t, aEncode_eq N l gg, qEncode_eq N l gg]
    show br (decide ((encRu l).2 = (encRu l).2)) (br (decide ((encRu l).1.length ≤ 9223372036854775807)) (br (decide ((encRu l).1.length ≤ 9223372036854775807)) (br (decide ((encRu l).1 = (encRu l).1)) _ _) _) _) _ = _
    rw [br_dec, if_pos rfl, br_dec, if_pos (by omega), br_dec, if_pos (by omega), br_dec, if_pos rfl]; rfl
theorem wDecodes_eq (hN : 200000 < N) (b : List UInt8) : s_wDecodes N b = some true := by
  unfold s_wDecodes
  rw [works_eq N hN, br_dec]
  by_cases c : 1000 < (b.length : Int)
  · rw [if_pos c]; rfl
  · have gg := goodR_dec (N := N) (b := b) (by omega) (by omega)
    rw [if_neg c, aDecode_eq N (by omega) b (by omega), qDecode_eq N (by omega) b (by omega), bnd2_mk, bnd2_mk, br_dec, if_pos rfl, qSame_eq N _ _ (by have := gg.len; omega) (by have := gg.len; omega) gg.inC gg.inC, decide_eq_true rfl]; rfl
theorem wCompares_eq (hN : 200000 < N) {a b : List Ru} (ga : ArgR a) (gb : ArgR b) (ha : sumR a < N) (hb : sumR b < N) : s_wCompares N (rE a) (rE b) = some true := by
  unfold s_wCompares
  rw [fewRules_arg N ga ha, fewRules_arg N gb hb, bnd1_mk, bnd1_mk, works_eq N hN, br_not, br_not]
  cases hf : fewR a with
  | false => rfl
  | true =>
    cases hf' : fewR b with
    | false => rfl
    | true =>
      have gg := good_few N ga hN hf
      have gg' := good_few N gb hN hf'
      have hl := gg.len
      rw [br_t, br_t, aSame_eq N a b (by omega) (by omega) gg.inC gg'.inC, qSame_eq N a b (by omega) (by omega) gg.inC gg'.inC, aSame_eq N a a (by omega) (by omega) gg.inC gg.inC, bnd1_mk, bnd1_mk, beq_self_eq_true, decide_eq_true rfl]; rfl
theorem wBack_eq (hN : 200000 < N) {l : List Ru} (g : ArgR l) (h : sumR l < N) (b : List UInt8) : s_wBack N (rE l) b = some true := by
  unfold s_wBack
  rw [fewRules_arg N g h, bnd1_mk, works_eq N hN, br_not]
  cases hf : fewR l with
  | false => rfl
  | true =>
  rw [br_t, br_dec]
  by_cases c : 1000 < (b.length : Int)
  · rw [if_pos c]; rfl
  have gg := good_few N g hN hf
  have gd := goodR_dec (N := N) (b := b) (by omega) (by omega)
  have second : bnd2 (s_aDecode N b) (fun l15 n16 =>
            br (decide (n16 = 0))
              (bnd2 (s_aEncode N l15) fun l17 n18 =>
                br (!decide (n18 = 0)) (some false)
                  (br (decide (l17.length ≤ 9223372036854775807))
                    (br (decide (b.length ≤ 9223372036854775807)) (br (!decide (l17 = b)) (some false) (bnd1 (s_aCheckRules N l15) fun n19 => br (!decide (n19 = 0)) (some false) (bnd1 (some true) fun b20 => some b20))) none) none))
              (bnd1 (some true) fun b21 => some b21)) = some true := by
    rw [aDecode_eq N (by omega) b (by omega), bnd2_mk, br_dec]
    by_cases c2 : (decRu b).2 = 0
    · obtain ⟨h1, h2⟩ := decRu_ok c2
      have he : encRu (decRu b).1 = (b, 0) := by unfold encRu; rw [if_pos h1, h2]
      rw [if_pos c2, aEncode_eq N _ gd, he, bnd2_mk, br_not, br_dec, if_pos rfl, br_dec, if_pos (by omega), br_dec, if_pos (by omega), br_not, br_dec, if_pos rfl, aCheckRules_eq N _ gd, h1, bnd1_mk, br_not, br_dec, if_pos rfl]; rfl
    · rw [if_neg c2]; rfl
  rw [if_neg c, aEncode_eq N l gg]
  by_cases c3 : chkR l = 0
  · have he : encRu l = (encL (rT l), 0) := by unfold encRu; rw [if_pos c3]
    have hp := decRu_put c3
    have hl := encRu_len l
    rw [he] at hl
    rw [he, bnd2_mk, br_dec, if_pos rfl, aDecode_eq N (by omega) _ (by simp only at hl; omega), hp, bnd2_mk, br_not, br_dec, if_pos rfl, qSame_eq N l l (by have := gg.len; omega) g.len gg.inC gg.inC, bnd1_mk, decide_eq_true rfl, br_not, br_t]
    exact second
  · have he : encRu l = ([], chkR l) := by unfold encRu; rw [if_neg c3]
    rw [he, bnd2_mk, br_dec, if_neg c3]
    exact second
end
end Go.Proofs.YtahemenhcoedgaaDoor.En

/- The engine, part 2s: rows: arguments that came in, what a law's function leaves. -/
namespace Go.Proofs.YtahemenhcoedgaaDoor.En
open Go Go.RowKit Go.WideShapes
set_option linter.unusedVariables false
theorem own : ownKnob Tryd.prog.godebug = none := by kernel_rfl
theorem laidOut : laidOutB Tryd.prog = true := by kernel_rfl
section
variable {P : Program} {T : TypeId → Option Ty} {f : FuncId} {w : World}
def noEnv : Env := { d := 0, dom := fun _ _ => False }
theorem walk_of {ds : List D} (hp : PureRet P T f ds [.v (.bool true) .no]) {us : List Value} (hr : RepDs noEnv (immG T) w [] ds us) :
    Calls P f us.toArray w fun e w' => e = .returned (.bool true) ∧ Below w.heap.size w w' := by
  refine (hp noEnv (immG T) w us rfl hr).mono ?_
  rintro e w' ⟨us', g', rfl, h1, h2⟩
  obtain ⟨l, hr'⟩ := h1 noEnv
  match us', l with
  | [u], _ =>
  have := hr' 0 _ rfl
  simp only [List.getD_cons_zero] at this
  cases this with
  | v x a v h ha =>
  cases h
  exact ⟨rfl, ⟨h2.grows.os, h2.grows.tape, h2.grows.output, h2.grows.size, h2.grows.old⟩⟩
theorem reps_nil : RepDs noEnv (immG T) w [] [] [] := ⟨rfl, fun k y h => by simp at h⟩
theorem reps_cons {d : D} {u : Value} {ds : List D} {us : List Value} (h : RepD noEnv (immG T) w [] d u) (hs : RepDs noEnv (immG T) w [] ds us) : RepDs noEnv (immG T) w [] (d :: ds) (u :: us) :=
  ⟨by simp [hs.1], fun k y hk => by
    rcases k with _ | k
    · simp at hk; subst hk; exact h
    · simpa using hs.2 k y (by simpa using hk)⟩
theorem rep_v {x : V} {u : Value} (h : RepV (immG T) w x u) : RepD noEnv (immG T) w [] (.v x .no) u := .v _ _ _ h trivial
variable {H : Type} {enc : TypeId × Value → H} {base : Nat} {spare : Nat → Bool} {held : Bool} {r : Reach} {b0 : Nat} {t : TypeId} {v : Value} {d : DataW H} {ps : List MemPlace} {l : List TypeId}
theorem row_of (hT : TypesOK P T) {desc : TypeDesc} (ht : P.underlying t = some desc) {ty : Ty} (h : T t = some ty) : ty.desc = desc := by
  have := (hT t ty h).desc
  rw [ht] at this
  injection this with this
  exact this.symm
theorem cells_self {x : V} (h : x = mkEl false (V.cells x)) : V.cells x = [x] := by
  cases x with
  | agg cs =>
    exfalso
    simp only [V.cells, mkEl] at h
    cases cs with
    | nil => simp at h
    | cons c r =>
      have h' : V.agg (c :: r) = c := h
      have : _root_.SizeOf.sizeOf (V.agg (c :: r)) = _root_.SizeOf.sizeOf c := by rw [h']
      simp at this
      omega
  | _ => rfl
theorem fits_self (hT : TypesOK P T) {desc : TypeDesc} (ht : P.underlying t = some desc) (hnr : ∀ ty : Ty, ty.desc = desc → ty.row = false) {n : Nat} {x : V} (h1 : Fits T n t (V.cells x)) (h3 : ∀ ty, T t = some ty → x = mkEl ty.row (V.cells x)) : Fits T n t [x] := by
  cases hTt : T t with
  | none => cases n <;> simp [Fits, hTt] at h1
  | some ty =>
    have := h3 ty hTt
    rw [hnr ty (row_of hT ht hTt)] at this
    rw [← cells_self this]; exact h1
theorem arg_slice (hT : TypesOK P T) (hl : closedT T l = true) (hm : t ∈ l) {e : TypeId} (ht : P.underlying t = some (.slice e)) (hv : Value.okWide P w r b0 t v) (hd : DataW.Trod enc P w base spare held t v d ps) :
    ∃ n x, Fits T n t [x] ∧ RepV (immG T) w x v := by
  obtain ⟨A, n, c, rfl⟩ := okWide_slice ht hv
  obtain ⟨n, x, h1, h2, h3⟩ := arg_rep hT hl hm (fun ty hty => ⟨fun hr => (by rw [Ty.row, row_of hT ht hty] at hr; cases hr), fun _ => rfl⟩) hd
  exact ⟨n, x, fits_self hT ht (fun ty e => by rw [Ty.row, e]) h1 h3, h2⟩
/-- What fits a type of one cell. -/
theorem fits_int {k : IntKind} {ty : Ty} (h : T t = some ty) (hd : ty.desc = .int k) {n : Nat} {xs : List V} (hf : Fits T n t xs) : ∃ i, xs = [.int k i] ∧ k.min ≤ i ∧ i ≤ k.max := by
  cases n with
  | zero => cases hf
  | succ n => unfold Fits at hf; rw [h] at hf; simp only [hd] at hf; exact hf
theorem fits_bytes {e e' : TypeId} {ty : Ty} (h : T t = some ty) (hd : ty.desc = .slice e) (hc : ty.cks = [.bytes e']) {n : Nat} {xs : List V} (hf : Fits T n t xs) : ∃ s, xs = [.bytes s] ∧ s.length ≤ maxLen := by
  cases n with
  | zero => cases hf
  | succ n => unfold Fits at hf; rw [h] at hf; simp only [hd, hc] at hf; exact hf
theorem fits_slice {e e' : TypeId} {ty te : Ty} (h : T t = some ty) (hd : ty.desc = .slice e) (hc : ty.cks = [.slc e']) (he : T e = some te) {n : Nat} {xs : List V} (hf : Fits T n t xs) :
    ∃ m ys, n = m + 1 ∧ xs = [.sl e ys] ∧ ys.length ≤ maxLen ∧ ∀ y ∈ ys, ∃ cs, y = mkEl te.row cs ∧ Fits T m e cs := by
  cases n with
  | zero => cases hf
  | succ n =>
    unfold Fits at hf; rw [h] at hf; simp only [hd, hc] at hf
    obtain ⟨rfl, ys, h1, h2, h3⟩ := hf
    refine ⟨n, ys, rfl, h1, h2, fun y hy => ?_⟩
    obtain ⟨te', cs, h4, h5, h6⟩ := h3 y hy
    rw [he] at h4
    injection h4 with h4
    subst h4
    exact ⟨cs, h5, h6⟩
theorem fits_struct {fs : Array Field} {ty : Ty} (h : T t = some ty) (hd : ty.desc = .struct fs) {n : Nat} {xs : List V} (hf : Fits T n t xs) : ∃ m, n = m + 1 ∧ FitsFs (Fits T m) fs.toList xs := by
  cases n with
  | zero => cases hf
  | succ n => unfold Fits at hf; rw [h] at hf; simp only [hd] at hf; exact ⟨n, rfl, hf⟩
end
end Go.Proofs.YtahemenhcoedgaaDoor.En

/- What the arguments of chapter 14 read as. -/
namespace Go.Proofs.YtahemenhcoedgaaDoor.En
open Go Go.RowKit
set_option linter.unusedVariables false
theorem T_int : T 3 = some ty3 := by kernel_rfl
theorem T_bytes : T 39 = some ty39 := by kernel_rfl
theorem T_cond : T 24 = some ty24 := by kernel_rfl
theorem T_conds : T 22 = some ty22 := by kernel_rfl
theorem T_rule : T 53 = some ty53 := by kernel_rfl
theorem T_rules : T 37 = some ty37 := by kernel_rfl
theorem max63 {n : Nat} (h : n ≤ maxLen) : n ≤ 9223372036854775807 := by unfold maxLen at h; omega
theorem cl_of : ∀ (n : Nat) (ys : List V), (∀ y ∈ ys, ∃ cs, y = mkEl true cs ∧ Fits T n 24 cs) → ys.length ≤ maxLen → ∃ l : Cl, ys = l.enc ∧ l.wf ∧ K63 l := by
  intro n
  induction n using Nat.strongRecOn with
  | ind n IH =>
    intro ys
    induction ys with
    | nil => intro _ _; exact ⟨.nil, rfl, trivial, Nat.zero_le _⟩
    | cons y ys ih =>
      intro hy hl
      obtain ⟨r, h1, h2, _⟩ := ih (fun z hz => hy z (List.mem_cons_of_mem _ hz)) (by simp at hl; omega)
      obtain ⟨cs, rfl, hc⟩ := hy y (by simp)
      obtain ⟨m, rfl, a, r1, rfl, ha, b, r2, rfl, hb, c, r3, rfl, hcc, rfl⟩ := fits_struct T_cond rfl hc
      obtain ⟨t, rfl, t1, t2⟩ := fits_int T_int rfl ha
      obtain ⟨v, rfl, v1, v2⟩ := fits_int T_int rfl hb
      obtain ⟨m', ks, rfl, rfl, k1, k2⟩ := fits_slice T_conds rfl rfl T_cond hcc
      obtain ⟨k, rfl, k3, k4⟩ := IH m' (by omega) ks k2 k1
      refine ⟨.cons t v k r, by rw [h1]; rfl, ⟨⟨t1, t2⟩, ⟨v1, v2⟩, k4, k3, h2⟩, ?_⟩
      show r.len + 1 ≤ _
      rw [h1] at hl
      simp only [List.length_cons, Cl.enc_len] at hl
      exact max63 hl
theorem cond_arg {n : Nat} {cs : List V} (h : Fits T n 24 cs) : ∃ (o m : Int) (k : Cl), cs = [.int .i64 o, .int .i64 m, .sl 24 k.enc] ∧ ArgC o m k := by
  obtain ⟨m, rfl, a, r1, rfl, ha, b, r2, rfl, hb, c, r3, rfl, hcc, rfl⟩ := fits_struct T_cond rfl h
  obtain ⟨t, rfl, t1, t2⟩ := fits_int T_int rfl ha
  obtain ⟨v, rfl, v1, v2⟩ := fits_int T_int rfl hb
  obtain ⟨m', ks, rfl, rfl, k1, k2⟩ := fits_slice T_conds rfl rfl T_cond hcc
  obtain ⟨k, rfl, k3, k4⟩ := cl_of m' ks k2 k1
  exact ⟨t, v, k, rfl, ⟨t1, t2⟩, ⟨v1, v2⟩, k3, k4⟩
theorem rules_of (n : Nat) : ∀ (ys : List V), (∀ y ∈ ys, ∃ cs, y = mkEl true cs ∧ Fits T n 53 cs) → ∃ l : List Ru, ys = rE l ∧ ∀ r ∈ l, ArgC r.o r.m r.k ∧ I64 r.ops
  | [], _ => ⟨[], rfl, by simp⟩
  | y :: ys, h => by
    obtain ⟨l, h1, h2⟩ := rules_of n ys fun z hz => h z (List.mem_cons_of_mem _ hz)
    obtain ⟨cs, rfl, hc⟩ := h y (by simp)
    obtain ⟨m, rfl, a, r1, rfl, ha, b, r2, rfl, hb, rfl⟩ := fits_struct T_rule rfl hc
    obtain ⟨i, rfl, i1, i2⟩ := fits_int T_int rfl ha
    obtain ⟨o, m', k, rfl, g⟩ := cond_arg hb
    refine ⟨⟨i, o, m', k⟩ :: l, by rw [h1]; rfl, fun r hr => ?_⟩
    rcases List.mem_cons.1 hr with rfl | hr
    · exact ⟨g, i1, i2⟩
    · exact h2 r hr
theorem rules_arg {n : Nat} {x : V} (h : Fits T n 37 [x]) : ∃ l : List Ru, x = .sl 53 (rE l) ∧ ArgR l := by
  obtain ⟨m, ys, rfl, e, h1, h2⟩ := fits_slice T_rules rfl rfl T_rule h
  obtain ⟨l, rfl, h3⟩ := rules_of m ys h2
  injection e with e _
  rw [rE_len] at h1
  exact ⟨l, e, h3, max63 h1⟩
theorem bytes_arg {n : Nat} {x : V} (h : Fits T n 39 [x]) : ∃ b : List UInt8, x = .bytes b ∧ b.length ≤ 9223372036854775807 := by
  obtain ⟨b, e, h1⟩ := fits_bytes T_bytes rfl rfl h
  injection e with e _
  exact ⟨b, e, max63 h1⟩
/-- The types that the arguments lead to. -/
def argTys : List TypeId := [22, 24, 53, 37, 31, 3, 39, 5]
theorem argTys_ok : closedT T argTys = true := by kernel_rfl
end Go.Proofs.YtahemenhcoedgaaDoor.En

/- The world behind the door's own run: shared by all rows of chapter 14. -/
namespace Go.Proofs.YtahemenhcoedgaaDoor.En
open Go Go.Joins Go.ChangeShapes Go.WideShapes Go.ChangeAt Go.RowKit Go.Deep
theorem door_met (os : Os) (args : Array Value) : laidMetH Tryd.prog Rows.accessChecksRow.laid ((World.doorLaid Tryd.prog 400 os).forCall (fun _ _ => 0) ⟨#[], args, []⟩).memory :=
  laidMetH_of_parts3 (fuel := 8) (laidMet_of_run' 8 (by kernel_rfl) (by kernel_rfl)) (by kernel_rfl) (by kernel_rfl)
theorem door_shaped (os : Os) (args : Array Value) : ((World.doorLaid Tryd.prog 400 os).forCall (fun _ _ => 0) ⟨#[], args, []⟩).Shaped Tryd.prog :=
  World.shaped_of_RefB (by kernel_rfl) (by kernel_rfl)
end Go.Proofs.YtahemenhcoedgaaDoor.En
