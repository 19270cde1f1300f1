/- Several texts in one. -/
import Derived.Test.YtdiieghcakhkdaaG4
import Derived.Test.YtdiieghcakhkdaaRows
import Derived.ProofKit
import Derived.OpenShut
import Derived.ShutString
import Derived.ChangeOld
import Derived.Below
import Derived.Lib.SmallJoins

set_option linter.unusedSimpArgs false
set_option linter.unusedVariables false
set_option linter.unusedSectionVars false
/- The statements of chapter 02, in plain Lean. -/
namespace Go.Proofs.Ytdiieghcakhkdaa.En
open Go
set_option linter.unusedVariables false
set_option maxRecDepth 100000 in
theorem works_eq (N : Nat) (hN : 10000 < N) : s_works N = some true := by
  have e1 : s_Encode N [V.agg [V.int IntKind.i64 132, V.bytes [UInt8.ofNat (Int.toNat 160), UInt8.ofNat (Int.toNat 1)], V.sl 40 []]] = some ([132, 2, 160, 1], 0) :=
    (Encode_eq N (.cons 132 [160, 1] .nil .nil) (by simp [Tl.nodes]; omega) (by simp [Tl.wf, Tl.len]) (by simp [Tl.len]) (by simp [Tl.wt])).trans (by decide +kernel)
  have e2 : s_Encode N [V.agg [V.int IntKind.i64 111, V.bytes [], V.sl 40 [V.agg [V.int IntKind.i64 132, V.bytes [UInt8.ofNat (Int.toNat 160), UInt8.ofNat (Int.toNat 1)], V.sl 40 []]]]] = some ([111, 4, 132, 2, 160, 1], 0) :=
    (Encode_eq N (.cons 111 [] (.cons 132 [160, 1] .nil .nil) .nil) (by simp [Tl.nodes]; omega) (by simp [Tl.wf, Tl.len]) (by simp [Tl.len]) (by simp [Tl.wt])).trans (by decide +kernel)
  have e3 : s_Text N [V.agg [V.int IntKind.i64 111, V.bytes [], V.sl 40 [V.agg [V.int IntKind.i64 132, V.bytes [UInt8.ofNat (Int.toNat 160), UInt8.ofNat (Int.toNat 1)], V.sl 40 []]]]] = some [54, 102, 10, 32, 32, 56, 52, 32, 97, 48, 48, 49, 10] :=
    (Text_eq N (.cons 111 [] (.cons 132 [160, 1] .nil .nil) .nil) hN (by simp [Tl.nodes]; omega) (by simp [Tl.wf, Tl.len]) (by simp [Tl.wt])).trans (by decide +kernel)
  have d1 : (decR [UInt8.ofNat (Int.toNat 132), UInt8.ofNat (Int.toNat 129), UInt8.ofNat (Int.toNat 2), UInt8.ofNat (Int.toNat 160), UInt8.ofNat (Int.toNat 1)]).2 = 4 := by decide +kernel
  have d2 : (decR [UInt8.ofNat (Int.toNat 132), UInt8.ofNat (Int.toNat 3), UInt8.ofNat (Int.toNat 160), UInt8.ofNat (Int.toNat 1)]).2 = 5 := by decide +kernel
  have d3 : (decR [UInt8.ofNat (Int.toNat 0)]).2 = 4 := by decide +kernel
  unfold s_works
  rw [e1, e2, Decode_eq N (by omega), Decode_eq N (by omega), Decode_eq N (by omega)]
  generalize decR [UInt8.ofNat (Int.toNat 132), UInt8.ofNat (Int.toNat 129), UInt8.ofNat (Int.toNat 2), UInt8.ofNat (Int.toNat 160), UInt8.ofNat (Int.toNat 1)] = q1 at d1
  generalize decR [UInt8.ofNat (Int.toNat 132), UInt8.ofNat (Int.toNat 3), UInt8.ofNat (Int.toNat 160), UInt8.ofNat (Int.toNat 1)] = q2 at d2
  generalize decR [UInt8.ofNat (Int.toNat 0)] = q3 at d3
  obtain ⟨a1, b1⟩ := q1
  obtain ⟨a2, b2⟩ := q2
  obtain ⟨a3, b3⟩ := q3
  simp only at d1 d2 d3
  subst d1 d2 d3
  rw [e3]
  rfl
/-- A list that came in. -/
structure GoodL (l : Tl) : Prop where
  wf : l.wf
  len : L63 l
theorem findT_ok : ∀ (ps : List Int) (l : Tl) (x : Option (Int × List UInt8 × Tl)), l.wf → l.wt ≤ 6000 → (∀ p ∈ ps, I64 p) → (∀ t v k, x = some (t, v, k) → I64 t ∧ v.length ≤ 6000 ∧ k.wf ∧ k.wt ≤ 6000) → ∀ t v k, findT l ps x = some (t, v, k) → I64 t ∧ v.length ≤ 6000 ∧ k.wf ∧ k.wt ≤ 6000
  | [], l, x, _, _, _, hx, t, v, k, h => hx t v k h
  | p :: ps, l, x, hw, hwt, hp, hx, t, v, k, h => by
    unfold findT at h
    split at h
    · cases h
    · rename_i v' k' ha
      obtain ⟨w1, w2, w3, w4, w5, w6⟩ := at1_wf ha hw
      refine findT_ok ps k' (some (p, v', k')) w3 (by omega) (fun q hq => hp q (List.mem_cons_of_mem _ hq)) (fun t v k e => ?_) t v k h
      injection e with e
      injection e with e1 e2
      injection e2 with e2 e3
      subst e1 e2 e3
      exact ⟨hp _ (by simp), by omega, w3, by omega⟩
section
variable (N : Nat) (hN : 10000 < N)
include hN
theorem lTags_eq (t : Int) (h : I64 t) : s_lTags N t = some true := by
  unfold s_lTags
  rw [Valid_eq N t h, rValid_eq N t h, Constructed_eq N t h, rConstructed_eq N t h, works_eq N hN]
  simp only [bnd1_mk, beq_self_eq_true, br_t]
theorem lEncodes_eq (l : Tl) (g : GoodL l) (h : l.nodes < N) : s_lEncodes N l.enc = some true := by
  unfold s_lEncodes
  rw [few_eq N l h g.wf g.len, works_eq N hN]
  simp only [bnd1_mk, br_not, br_dec]
  split
  · rename_i hw
    rw [Encode_eq N l h g.wf g.len (by omega), rEncode_eq N l h g.wf g.len (by omega), Size_eq N l h g.wf g.len (by omega)]
    have hle : (encR l).1.length ≤ 4096 := by
      unfold encR
      split
      · split
        · assumption
        · simp
      · simp
    generalize encR l = q at hle
    obtain ⟨b, e⟩ := q
    simp only [bnd2_mk, if_true, bnd1_mk] at hle ⊢
    rw [if_pos (by omega), if_pos (by omega)]
  · rfl
theorem lDecodes_eq (b : List UInt8) : s_lDecodes N b = some true := by
  unfold s_lDecodes
  rw [works_eq N hN, Decode_eq N (by omega), rDecode_eq N (by omega), br_dec]
  split
  · rfl
  · rename_i hb
    obtain ⟨l, h1, h2, h3, h4, h5⟩ := decR_list b
    generalize decR b = q at h1 h4 h5
    obtain ⟨a, e⟩ := q
    simp only at h1
    subst h1
    have := l.len_wt
    have := l.nodes_le
    simp only [bnd2_mk, br_dec, if_true]
    rw [rSame_eq N N l l (by omega) (by omega) h2 h2 (by show l.len ≤ _; omega) (by show l.len ≤ _; omega)]
    simp [bnd1, br]
theorem lFinds_eq (l : Tl) (ps : List Int) (hps : ∀ p ∈ ps, I64 p) (g : GoodL l) (h : l.nodes + 1 < N) : s_lFinds N l.enc (pathV ps) = some true := by
  unfold s_lFinds
  rw [few_eq N l (by omega) g.wf g.len, works_eq N hN]
  simp only [bnd1_mk, br_not, br_dec]
  split
  · rename_i hw
    have hpl : (pathV ps).length = ps.length := by simp [pathV]
    rw [hpl]
    split
    · rfl
    · rename_i hp
      rw [Find_eq N l ps (by omega) (by omega) g.wf g.len hw (by omega), rFind_eq N l ps h (by omega) g.wf g.len (by omega)]
      have key : ∃ t v k b, findR l ps = (t, v, Tl.enc k, b) ∧ I64 t ∧ v.length ≤ 6000 ∧ k.wf ∧ k.wt ≤ 6000 := by
        unfold findR
        cases hf : findT l ps none with
        | none => exact ⟨0, [], .nil, false, rfl, ⟨by omega, by omega⟩, by simp, trivial, by simp [Tl.wt]⟩
        | some y =>
          obtain ⟨t, v, k⟩ := y
          obtain ⟨q1, q2, q3, q4⟩ := findT_ok ps l none g.wf hw hps (fun _ _ _ h => by cases h) t v k hf
          exact ⟨t, v, k, true, rfl, q1, q2, q3, q4⟩
      obtain ⟨t, v, k, b, e, ht, hv, hk, hkw⟩ := key
      rw [e]
      simp only [bnd4_mk, beq_self_eq_true, br_t]
      have := k.len_wt
      have := k.nodes_le
      have hs := rSame_eq N N (.cons t v k .nil) (.cons t v k .nil) (by simp only [Tl.nodes]; omega) (by simp only [Tl.nodes]; omega) ⟨ht, by omega, by omega, hk, trivial⟩ ⟨ht, by omega, by omega, hk, trivial⟩ (by simp [Tl.len]) (by simp [Tl.len])
      have hs' : s_rSame N N [V.agg [V.int IntKind.i64 t, V.bytes v, V.sl 40 k.enc]] [V.agg [V.int IntKind.i64 t, V.bytes v, V.sl 40 k.enc]] = some true := by simpa [Tl.enc] using hs
      rw [hs']; rfl
  · rfl
theorem lCompares_eq (a b : Tl) (ga : GoodL a) (gb : GoodL b) (ha : a.nodes < N) (hb : b.nodes < N) : s_lCompares N a.enc b.enc = some true := by
  unfold s_lCompares
  rw [few_eq N a ha ga.wf ga.len, few_eq N b hb gb.wf gb.len, works_eq N hN, Same_eq N N a b ha ha ga.wf gb.wf ga.len gb.len, rSame_eq N N a b ha ha ga.wf gb.wf ga.len gb.len, Same_eq N N b a hb hb gb.wf ga.wf gb.len ga.len, Same_eq N N a a ha ha ga.wf ga.wf ga.len ga.len]
  have e : decide (b = a) = decide (a = b) := by rw [Bool.eq_iff_iff]; simp [eq_comm]
  rw [e]
  simp only [bnd1_mk, br_not, br_dec, beq_self_eq_true, br_t]
  simp [br]
omit hN in
theorem Left_wt (l : Tl) (g : GoodL l) (h : l.nodes < N) : ∃ n, s_Left N N l.enc 1500 = some n ∧ (¬ n < 0 → l.wt ≤ 1500) := by
  refine ⟨_, Left_eq N N l 1500 h h g.wf g.len (by omega) (by omega), fun hn => ?_⟩
  obtain ⟨_, h2⟩ := lf_wt l 1500 (by omega)
  by_cases hc : l.wt ≤ 1500
  · exact hc
  · rw [h2 (by omega)] at hn; omega
theorem lShows_eq (l : Tl) (g : GoodL l) (h : l.nodes < N) : s_lShows N l.enc = some true := by
  unfold s_lShows
  obtain ⟨n, h1, h2⟩ := Left_wt N l g h
  rw [h1, works_eq N hN]
  simp only [bnd1_mk, br_dec]
  split
  · rfl
  · rename_i hn
    have hw := h2 hn
    rw [Text_eq N l hN h g.wf (by omega), rText_eq N l hN h g.wf (by omega)]
    simp [bnd1]
theorem lJoins_eq (a b : Tl) (ga : GoodL a) (gb : GoodL b) (ha : a.nodes < N) (hb : b.nodes < N) (hab : a.nodes + b.nodes < N) : s_lJoins N a.enc b.enc = some true := by
  unfold s_lJoins
  rw [few_eq N a ha ga.wf ga.len, few_eq N b hb gb.wf gb.len, works_eq N hN]
  simp only [bnd1_mk, br_not, br_dec]
  by_cases hwa : a.wt ≤ 6000
  · rw [if_pos hwa]
    by_cases hwb : b.wt ≤ 6000
    · rw [if_pos hwb]
      rw [Encode_eq N a ha ga.wf ga.len (by omega), Encode_eq N b hb gb.wf gb.len (by omega)]
      have oa := @encR_ok a
      have ob := @encR_ok b
      generalize hqa : encR a = qa at oa
      generalize hqb : encR b = qb at ob
      obtain ⟨xa, ea⟩ := qa
      obtain ⟨xb, eb⟩ := qb
      simp only [bnd2_mk]
      by_cases h1 : ea = 0
      · rw [if_pos h1]
        by_cases h2 : eb = 0
        · rw [if_pos h2]
          obtain ⟨a1, a2, a3⟩ := oa h1
          obtain ⟨b1, b2, b3⟩ := ob h2
          simp only at a3 b3
          subst a3 b3
          have := a.len_wt
          have := b.len_wt
          have g1 : (0 + a.enc.length) * 56 ≤ 140737488355328 := by rw [Tl.enc_len]; omega
          have g2 : (([] ++ a.enc).length + b.enc.length) * 56 ≤ 140737488355328 := by simp [Tl.enc_len]; omega
          have eab : [] ++ a.enc ++ b.enc = (a.append b).enc := by rw [List.nil_append, Tl.enc_append]
          rw [if_pos g1, if_pos g2, eab, Encode_eq N (a.append b) (by rw [Tl.nodes_append]; exact hab) (Tl.wf_append a b ga.wf gb.wf) (by show Tl.len _ ≤ _; rw [Tl.len_append]; omega) (by rw [Tl.wt_append]; omega)]
          have hw : IntKind.i64.wrap (((encL a).length : Int) + ((encL b).length : Int)) = (encL a).length + (encL b).length := w64 (by omega) (by omega)
          rw [hw]
          unfold encR
          rw [okL_append, a1, b1, encL_append, List.length_append]
          simp only [Bool.and_self, if_true]
          by_cases h3 : (encL a).length + (encL b).length ≤ 4096
          · rw [if_pos h3]
            simp only [bnd2_mk]
            rw [if_neg (by omega), if_pos trivial, List.length_append, if_pos (by omega), if_pos (by omega), if_pos (by omega), if_pos (by omega), if_pos trivial]
          · rw [if_neg h3]
            simp only [bnd2_mk]
            rw [if_pos (by omega), if_pos trivial]; rfl
        · rw [if_neg h2]
      · rw [if_neg h1]
    · rw [if_neg hwb]
  · rw [if_neg hwa]
theorem lBack_eq (l : Tl) (b : List UInt8) (g : GoodL l) (h : l.nodes < N) : s_lBack N l.enc b = some true := by
  have second : (bnd2 (s_Decode N b) fun l8 n9 =>
      br (decide (n9 = 0))
        (bnd2 (s_Encode N l8) fun l10 n11 =>
          br (!decide (n11 = 0)) (some false)
            (br (decide (l10.length ≤ 9223372036854775807)) (br (decide (b.length ≤ 9223372036854775807)) (br (!decide (l10 = b)) (some false) (bnd1 (s_works N) fun b12 => some b12)) none) none))
        (bnd1 (s_works N) fun b13 => some b13)) = some true := by
    rw [Decode_eq N (by omega), works_eq N hN]
    obtain ⟨m, h1, h2, h3, h4, h5⟩ := decR_list b
    generalize decR b = q at h1 h4 h5
    obtain ⟨a, e⟩ := q
    simp only at h1 h4
    subst h1
    simp only [bnd2_mk, bnd1_mk, br_dec, br_not]
    split
    · rename_i he
      obtain ⟨k1, k2, k3⟩ := h4 he
      have := m.len_wt
      have := m.nodes_le
      rw [Encode_eq N m (by omega) h2 (by show m.len ≤ _; omega) (by omega)]
      unfold encR
      rw [if_pos k1, if_pos (by rw [k2]; exact k3), k2]
      simp only [bnd2_mk, if_true]
      rw [if_pos (by omega), if_pos (by omega)]
    · rfl
  unfold s_lBack
  rw [few_eq N l h g.wf g.len]
  simp only [bnd1_mk, br_not, br_dec] at second ⊢
  rw [second]
  split
  · rename_i hwl
    split
    · rw [works_eq N hN]; rfl
    · rw [Encode_eq N l h g.wf g.len (by omega)]
      have ol := @encR_ok l
      generalize hql : encR l = ql at ol
      obtain ⟨x, e⟩ := ql
      simp only [bnd2_mk]
      split
      · rename_i he
        obtain ⟨a1, a2, a3⟩ := ol he
        simp only at a3
        subst a3
        rw [Decode_eq N (by omega)]
        unfold decR
        rw [if_neg (by omega), dec_enc l _ 1 a1 (by omega) (Nat.lt_succ_self _)]
        simp only [decP, List.nil_append, bnd2_mk, if_true]
        rw [rSame_eq N N l l h h g.wf g.wf g.len g.len]
        simp only [bnd1_mk, decide_true, br_t]
        rw [if_neg (by omega)]
      · rfl
  · rw [works_eq N hN]; rfl
end
end Go.Proofs.Ytdiieghcakhkdaa.En

/- Two lists with the same text are the same; the statement TlvTexts in plain Lean. -/
namespace Go.Proofs.Ytdiieghcakhkdaa.En
open Go
set_option linter.unusedVariables false
theorem hexD_inj0 : ∀ (i : Nat), i < 16 → ∀ (j : Nat), j < 16 → hexD i = hexD j → i = j := by decide
theorem hexD_inj (i j : Nat) (h : i < 16) (h' : j < 16) (e : hexD i = hexD j) : i = j := hexD_inj0 i h j h' e
theorem hexD_ne : ∀ (i : Nat), i < 16 → hexD i ≠ 10 ∧ hexD i ≠ 32 := by decide
/-- A text that does not go on with a hexadecimal digit. -/
def Stop : List UInt8 → Prop
  | [] => True
  | u :: _ => u = 10 ∨ u = 32
theorem hex_split : ∀ (a b x y : List UInt8), Stop x → Stop y → hexB a ++ x = hexB b ++ y → a = b ∧ x = y
  | [], [], x, y, _, _, h => ⟨rfl, h⟩
  | [], u :: b, x, y, hx, _, h => by
    rw [hexB_cons] at h
    have hu := u.toNat_lt
    have h1 := hexD_ne (u.toNat / 16) (by omega)
    cases x with
    | nil => simp [hexB] at h
    | cons z x =>
      simp only [hexB, List.flatMap_nil, List.nil_append, List.cons_append, List.cons.injEq] at h
      simp only [Stop] at hx
      rw [h.1] at hx
      rcases hx with hx | hx
      · exact absurd hx h1.1
      · exact absurd hx h1.2
  | u :: a, [], x, y, _, hy, h => by
    rw [hexB_cons] at h
    have hu := u.toNat_lt
    have h1 := hexD_ne (u.toNat / 16) (by omega)
    cases y with
    | nil => simp [hexB] at h
    | cons z y =>
      simp only [hexB, List.flatMap_nil, List.nil_append, List.cons_append, List.cons.injEq] at h
      simp only [Stop] at hy
      rw [← h.1] at hy
      rcases hy with hy | hy
      · exact absurd hy h1.1
      · exact absurd hy h1.2
  | u :: a, v :: b, x, y, hx, hy, h => by
    rw [hexB_cons, hexB_cons] at h
    have hu := u.toNat_lt
    have hv := v.toNat_lt
    simp only [List.cons_append, List.cons.injEq] at h
    obtain ⟨h1, h2, h3⟩ := h
    have e1 := hexD_inj _ _ (by omega) (by omega) h1
    have e2 := hexD_inj _ _ (by omega) (by omega) h2
    obtain ⟨e3, e4⟩ := hex_split a b x y hx hy h3
    have e : u = v := by apply UInt8.toNat_inj.1; omega
    exact ⟨by rw [e, e3], e4⟩
theorem tagB_inj {t t' : Int} (h : tagV t = true) (h' : tagV t' = true) (e : tagB t = tagB t') : t = t' := by
  have h1 := rdTag_put h []
  have h2 := rdTag_put h' []
  rw [e, h2] at h1
  injection h1 with h1
  injection h1 with h1 _
  exact h1.symm
/-- A text that does not go on with a line of this indentation. -/
def Ends (ind : List UInt8) (x : List UInt8) : Prop := ∀ (i : Nat), i < 16 → ∀ r, x ≠ ind ++ hexD i :: r
theorem tagB_cons (t : Int) : ∃ u r, tagB t = u :: r := by unfold tagB; split <;> exact ⟨_, _, rfl⟩
/-- The text of a list that is not empty begins with the indentation and a digit. -/
theorem txt_head (ind : List UInt8) (t : Int) (v : List UInt8) (k r : Tl) (x : List UInt8) : ∃ i r', i < 16 ∧ txt ind (.cons t v k r) ++ x = ind ++ hexD i :: r' := by
  obtain ⟨u, s, hu⟩ := tagB_cons t
  have := u.toNat_lt
  rw [txt, hu, hexB_cons]
  simp only [List.append_assoc, List.cons_append]
  exact ⟨u.toNat / 16, _, by omega, rfl⟩
/-- Behind the objects of a list nothing looks like a line of a deeper one. -/
theorem ends_deeper {ind x : List UInt8} (hx : x = [] ∨ (∃ i r, i < 16 ∧ x = ind ++ hexD i :: r) ∨ (∀ z r, x = ind ++ z :: r → z ≠ 32)) : Ends (ind ++ [32, 32]) x := by
  intro i hi r e
  rcases hx with h | ⟨j, s, hj, h⟩ | h
  · rw [h] at e; simp at e
  · rw [h] at e
    simp only [List.append_assoc, List.append_cancel_left_eq, List.cons_append, List.nil_append, List.cons.injEq] at e
    exact (hexD_ne j hj).2 e.1
  · have := h 32 (32 :: hexD i :: r) (by rw [e]; simp)
    exact this rfl
/-- What follows a list of this indentation: nothing of it, nor anything deeper. -/
structure Tail (ind x : List UInt8) : Prop where
  here : Ends ind x
  deep : ∀ z r, x = ind ++ z :: r → z ≠ 32
theorem Tail.nil (ind : List UInt8) : Tail ind [] := ⟨fun i _ r e => by simp at e, fun z r e => by simp at e⟩
theorem Tail.kids (ind : List UInt8) {d : Int} (r : Tl) {x : List UInt8} (h : Tail ind x) : Tail (ind ++ [32, 32]) (txt ind r ++ x) := by
  cases r with
  | nil =>
    refine ⟨ends_deeper (.inr (.inr h.deep)), fun z s e => ?_⟩
    exfalso
    have := h.deep 32 (32 :: z :: s) (by rw [show x = txt ind .nil ++ x from rfl, e]; simp)
    exact this rfl
  | cons t v k r =>
    obtain ⟨i, s, hi, e⟩ := txt_head ind t v k r x
    refine ⟨ends_deeper (.inr (.inl ⟨i, s, hi, e⟩)), fun z s' e' => ?_⟩
    exfalso
    rw [e] at e'
    simp only [List.append_assoc, List.append_cancel_left_eq, List.cons_append, List.nil_append, List.cons.injEq] at e'
    exact (hexD_ne i hi).2 e'.1
theorem body_stop (v : List UInt8) (x : List UInt8) : Stop ((if (v.length : Int) = 0 then [] else 32 :: hexB v : List UInt8) ++ (10 :: x)) := by
  split
  · exact Or.inl rfl
  · exact Or.inr rfl
theorem txt_inj : ∀ (a b : Tl) (d : Int) (ind x y : List UInt8), okL d a = true → okL d b = true → Tail ind x → Tail ind y → txt ind a ++ x = txt ind b ++ y → a = b ∧ x = y
  | .nil, .nil, d, ind, x, y, _, _, _, _, h => ⟨rfl, h⟩
  | .nil, .cons t v k r, d, ind, x, y, _, _, hx, _, h => by
    obtain ⟨i, s, hi, e⟩ := txt_head ind t v k r y
    rw [e] at h
    exact absurd h (hx.here i hi s)
  | .cons t v k r, .nil, d, ind, x, y, _, _, _, hy, h => by
    obtain ⟨i, s, hi, e⟩ := txt_head ind t v k r x
    rw [e] at h
    exact absurd h.symm (hy.here i hi s)
  | .cons t v k r, .cons t' v' k' r', d, ind, x, y, ha, hb, hx, hy, h => by
    obtain ⟨a1, a2, a3, a4⟩ := kids_ok ha
    obtain ⟨b1, b2, b3, b4⟩ := kids_ok hb
    simp only [txt, List.append_assoc, List.append_cancel_left_eq, List.cons_append, List.nil_append] at h
    obtain ⟨e1, h⟩ := hex_split _ _ _ _ (body_stop v _) (body_stop v' _) h
    have et := tagB_inj a4 b4 e1
    have ev : v = v' ∧ txt (ind ++ [32, 32]) k ++ (txt ind r ++ x) = txt (ind ++ [32, 32]) k' ++ (txt ind r' ++ y) := by
      by_cases c : (v.length : Int) = 0
      · by_cases c' : (v'.length : Int) = 0
        · rw [if_pos c, if_pos c'] at h
          simp only [List.nil_append, List.cons.injEq, true_and] at h
          exact ⟨by rw [List.length_eq_zero_iff.1 (by omega : v.length = 0), List.length_eq_zero_iff.1 (by omega : v'.length = 0)], h⟩
        · rw [if_pos c, if_neg c'] at h
          simp at h
      · by_cases c' : (v'.length : Int) = 0
        · rw [if_neg c, if_pos c'] at h
          simp at h
        · rw [if_neg c, if_neg c'] at h
          simp only [List.cons_append, List.cons.injEq, true_and] at h
          obtain ⟨q1, q2⟩ := hex_split _ _ _ _ (show Stop (10 :: _) from Or.inl rfl) (show Stop (10 :: _) from Or.inl rfl) h
          simp only [List.cons.injEq, true_and] at q2
          exact ⟨q1, q2⟩
    obtain ⟨k1, k2⟩ := txt_inj k k' (d + 1) (ind ++ [32, 32]) _ _ a1 b1 (hx.kids ind (d := d) r) (hy.kids ind (d := d) r') ev.2
    obtain ⟨r1, r2⟩ := txt_inj r r' d ind x y a2 b2 hx hy k2
    exact ⟨by rw [et, ev.1, k1, r1], r2⟩
theorem lTexts_eq (N : Nat) (hN : 10000 < N) (a b : Tl) (ga : GoodL a) (gb : GoodL b) (ha : a.nodes < N) (hb : b.nodes < N) : s_lTexts N a.enc b.enc = some true := by
  unfold s_lTexts
  obtain ⟨na, a1, a2⟩ := Left_wt N a ga ha
  obtain ⟨nb, b1, b2⟩ := Left_wt N b gb hb
  rw [a1, b1, works_eq N hN]
  simp only [bnd1_mk, br_dec, br_not]
  by_cases c1 : na < 0
  · rw [if_pos c1]
  · rw [if_neg c1]
    by_cases c2 : nb < 0
    · rw [if_pos c2]
    · rw [if_neg c2]
      have wa := a2 c1
      have wb := b2 c2
      rw [Encode_eq N a ha ga.wf ga.len (by omega), Encode_eq N b hb gb.wf gb.len (by omega), Text_eq N a hN ha ga.wf (by omega), Text_eq N b hN hb gb.wf (by omega), rSame_eq N N a b ha ha ga.wf gb.wf ga.len gb.len]
      unfold textR
      have oa := @encR_ok a
      have ob := @encR_ok b
      generalize encR a = qa at oa
      generalize encR b = qb at ob
      obtain ⟨xa, ea⟩ := qa
      obtain ⟨xb, eb⟩ := qb
      simp only [bnd2_mk, bnd1_mk]
      by_cases h1 : ea = 0
      · by_cases h2 : eb = 0
        · obtain ⟨p1, _, _⟩ := oa h1
          obtain ⟨q1, _, _⟩ := ob h2
          have e : decide (txt [] a = txt [] b) = decide (a = b) := by
            rw [Bool.eq_iff_iff]
            simp only [decide_eq_true_eq]
            refine ⟨fun h => ?_, fun h => by rw [h]⟩
            exact (txt_inj a b 1 [] [] [] p1 q1 (Tail.nil _) (Tail.nil _) (by simpa using h)).1
          simp [h1, h2, e, br]
        · simp [h1, h2, br]
      · by_cases h2 : eb = 0
        · simp [h1, h2, br]
        · simp [h1, h2, br]
end Go.Proofs.Ytdiieghcakhkdaa.En

/- The engine, part 2s: rows: arguments that came in, what a law's function leaves. -/
namespace Go.Proofs.Ytdiieghcakhkdaa.En
open Go Go.RowKit Go.WideShapes
set_option linter.unusedVariables false
theorem own : ownKnob Try.prog.godebug = none := by kernel_rfl
theorem laidOut : laidOutB Try.prog = true := by kernel_rfl
section
variable {P : Program} {T : TypeId → Option Ty} {f : FuncId} {w : World}
def noEnv : Env := { d := 0, dom := fun _ _ => False }
theorem walk_of {ds : List D} (hp : PureRet P T f ds [.v (.bool true) .no]) {us : List Value} (hr : RepDs noEnv (immG T) w [] ds us) :
    Calls P f us.toArray w fun e w' => e = .returned (.bool true) ∧ Below w.heap.size w w' := by
  refine (hp noEnv (immG T) w us rfl hr).mono ?_
  rintro e w' ⟨us', g', rfl, h1, h2⟩
  obtain ⟨l, hr'⟩ := h1 noEnv
  match us', l with
  | [u], _ =>
  have := hr' 0 _ rfl
  simp only [List.getD_cons_zero] at this
  cases this with
  | v x a v h ha =>
  cases h
  exact ⟨rfl, ⟨h2.grows.os, h2.grows.tape, h2.grows.output, h2.grows.size, h2.grows.old⟩⟩
theorem reps_nil : RepDs noEnv (immG T) w [] [] [] := ⟨rfl, fun k y h => by simp at h⟩
theorem reps_cons {d : D} {u : Value} {ds : List D} {us : List Value} (h : RepD noEnv (immG T) w [] d u) (hs : RepDs noEnv (immG T) w [] ds us) : RepDs noEnv (immG T) w [] (d :: ds) (u :: us) :=
  ⟨by simp [hs.1], fun k y hk => by
    rcases k with _ | k
    · simp at hk; subst hk; exact h
    · simpa using hs.2 k y (by simpa using hk)⟩
theorem rep_v {x : V} {u : Value} (h : RepV (immG T) w x u) : RepD noEnv (immG T) w [] (.v x .no) u := .v _ _ _ h trivial
theorem rep_agg {cs : List V} {u : Value} (h : RepV (immG T) w (.agg cs) u) : RepD noEnv (immG T) w [] (.agg (cs.map vD)) u := by
  cases h with
  | agg cs us hn hr =>
    refine .agg _ us (by simpa using hn) fun k y hk => ?_
    rw [List.getElem?_map, Option.map_eq_some_iff] at hk
    obtain ⟨z, hz, rfl⟩ := hk
    exact .v _ _ _ (hr k z hz) trivial
variable {H : Type} {enc : TypeId × Value → H} {base : Nat} {spare : Nat → Bool} {held : Bool} {r : Reach} {b0 : Nat} {t : TypeId} {v : Value} {d : DataW H} {ps : List MemPlace} {l : List TypeId}
theorem row_of (hT : TypesOK P T) {desc : TypeDesc} (ht : P.underlying t = some desc) {ty : Ty} (h : T t = some ty) : ty.desc = desc := by
  have := (hT t ty h).desc
  rw [ht] at this
  injection this with this
  exact this.symm
theorem cells_self {x : V} (h : x = mkEl false (V.cells x)) : V.cells x = [x] := by
  cases x with
  | agg cs =>
    exfalso
    simp only [V.cells, mkEl] at h
    cases cs with
    | nil => simp at h
    | cons c r =>
      have h' : V.agg (c :: r) = c := h
      have : _root_.SizeOf.sizeOf (V.agg (c :: r)) = _root_.SizeOf.sizeOf c := by rw [h']
      simp at this
      omega
  | _ => rfl
theorem fits_self (hT : TypesOK P T) {desc : TypeDesc} (ht : P.underlying t = some desc) (hnr : ∀ ty : Ty, ty.desc = desc → ty.row = false) {n : Nat} {x : V} (h1 : Fits T n t (V.cells x)) (h3 : ∀ ty, T t = some ty → x = mkEl ty.row (V.cells x)) : Fits T n t [x] := by
  cases hTt : T t with
  | none => cases n <;> simp [Fits, hTt] at h1
  | some ty =>
    have := h3 ty hTt
    rw [hnr ty (row_of hT ht hTt)] at this
    rw [← cells_self this]; exact h1
theorem arg_slice (hT : TypesOK P T) (hl : closedT T l = true) (hm : t ∈ l) {e : TypeId} (ht : P.underlying t = some (.slice e)) (hv : Value.okWide P w r b0 t v) (hd : DataW.Trod enc P w base spare held t v d ps) :
    ∃ n x, Fits T n t [x] ∧ RepV (immG T) w x v := by
  obtain ⟨A, n, c, rfl⟩ := okWide_slice ht hv
  obtain ⟨n, x, h1, h2, h3⟩ := arg_rep hT hl hm (fun ty hty => ⟨fun hr => (by rw [Ty.row, row_of hT ht hty] at hr; cases hr), fun _ => rfl⟩) hd
  exact ⟨n, x, fits_self hT ht (fun ty e => by rw [Ty.row, e]) h1 h3, h2⟩
theorem arg_int (hT : TypesOK P T) (hl : closedT T l = true) (hm : t ∈ l) {k : IntKind} (ht : P.underlying t = some (.int k)) (hv : Value.okWide P w r b0 t v) (hd : DataW.Trod enc P w base spare held t v d ps) :
    ∃ n x, Fits T n t [x] ∧ RepV (immG T) w x v := by
  obtain ⟨i, rfl⟩ := okWide_int ht hv
  obtain ⟨n, x, h1, h2, h3⟩ := arg_rep hT hl hm (fun ty hty => ⟨fun hr => (by rw [Ty.row, row_of hT ht hty] at hr; cases hr), fun _ => rfl⟩) hd
  exact ⟨n, x, fits_self hT ht (fun ty e => by rw [Ty.row, e]) h1 h3, h2⟩
theorem arg_bool (hT : TypesOK P T) (hl : closedT T l = true) (hm : t ∈ l) (ht : P.underlying t = some .bool) (hv : Value.okWide P w r b0 t v) (hd : DataW.Trod enc P w base spare held t v d ps) :
    ∃ n x, Fits T n t [x] ∧ RepV (immG T) w x v := by
  obtain ⟨i, rfl⟩ := okWide_bool ht hv
  obtain ⟨n, x, h1, h2, h3⟩ := arg_rep hT hl hm (fun ty hty => ⟨fun hr => (by rw [Ty.row, row_of hT ht hty] at hr; cases hr), fun _ => rfl⟩) hd
  exact ⟨n, x, fits_self hT ht (fun ty e => by rw [Ty.row, e]) h1 h3, h2⟩
theorem arg_string (hT : TypesOK P T) (hl : closedT T l = true) (hm : t ∈ l) (ht : P.underlying t = some .string) (hv : Value.okWide P w r b0 t v) (hd : DataW.Trod enc P w base spare held t v d ps) :
    ∃ n x, Fits T n t [x] ∧ RepV (immG T) w x v := by
  obtain ⟨s, rfl⟩ := okWide_string ht hv
  obtain ⟨n, x, h1, h2, h3⟩ := arg_rep hT hl hm (fun ty hty => ⟨fun hr => (by rw [Ty.row, row_of hT ht hty] at hr; cases hr), fun _ => rfl⟩) hd
  exact ⟨n, x, fits_self hT ht (fun ty e => by rw [Ty.row, e]) h1 h3, h2⟩
theorem arg_struct (hT : TypesOK P T) (hl : closedT T l = true) (hm : t ∈ l) {fs : Array Field} (ht : P.underlying t = some (.struct fs)) (hv : Value.okWide P w r b0 t v) (hd : DataW.Trod enc P w base spare held t v d ps) :
    ∃ n cs, Fits T n t cs ∧ RepV (immG T) w (.agg cs) v := by
  obtain ⟨cs, rfl, _⟩ := okWide_struct ht hv
  obtain ⟨n, x, h1, h2, h3⟩ := arg_rep hT hl hm (fun ty hty => ⟨fun _ => ⟨cs, rfl⟩, fun hr => (by rw [Ty.row, row_of hT ht hty] at hr; cases hr)⟩) hd
  cases h2 with
  | agg ys us a b => exact ⟨n, ys, h1, .agg ys _ a b⟩
/-- What fits a type of one cell. -/
theorem fits_int {k : IntKind} {ty : Ty} (h : T t = some ty) (hd : ty.desc = .int k) {n : Nat} {xs : List V} (hf : Fits T n t xs) : ∃ i, xs = [.int k i] ∧ k.min ≤ i ∧ i ≤ k.max := by
  cases n with
  | zero => cases hf
  | succ n => unfold Fits at hf; rw [h] at hf; simp only [hd] at hf; exact hf
theorem fits_bool {ty : Ty} (h : T t = some ty) (hd : ty.desc = .bool) {n : Nat} {xs : List V} (hf : Fits T n t xs) : ∃ b, xs = [.bool b] := by
  cases n with
  | zero => cases hf
  | succ n => unfold Fits at hf; rw [h] at hf; simp only [hd] at hf; exact hf
theorem fits_str {ty : Ty} (h : T t = some ty) (hd : ty.desc = .string) {n : Nat} {xs : List V} (hf : Fits T n t xs) : ∃ s, xs = [.str s] ∧ s.length ≤ maxLen := by
  cases n with
  | zero => cases hf
  | succ n => unfold Fits at hf; rw [h] at hf; simp only [hd] at hf; exact hf
theorem fits_bytes {e e' : TypeId} {ty : Ty} (h : T t = some ty) (hd : ty.desc = .slice e) (hc : ty.cks = [.bytes e']) {n : Nat} {xs : List V} (hf : Fits T n t xs) : ∃ s, xs = [.bytes s] ∧ s.length ≤ maxLen := by
  cases n with
  | zero => cases hf
  | succ n => unfold Fits at hf; rw [h] at hf; simp only [hd, hc] at hf; exact hf
theorem fits_slice {e e' : TypeId} {ty te : Ty} (h : T t = some ty) (hd : ty.desc = .slice e) (hc : ty.cks = [.slc e']) (he : T e = some te) {n : Nat} {xs : List V} (hf : Fits T n t xs) :
    ∃ m ys, n = m + 1 ∧ xs = [.sl e ys] ∧ ys.length ≤ maxLen ∧ ∀ y ∈ ys, ∃ cs, y = mkEl te.row cs ∧ Fits T m e cs := by
  cases n with
  | zero => cases hf
  | succ n =>
    unfold Fits at hf; rw [h] at hf; simp only [hd, hc] at hf
    obtain ⟨rfl, ys, h1, h2, h3⟩ := hf
    refine ⟨n, ys, rfl, h1, h2, fun y hy => ?_⟩
    obtain ⟨te', cs, h4, h5, h6⟩ := h3 y hy
    rw [he] at h4
    injection h4 with h4
    subst h4
    exact ⟨cs, h5, h6⟩
theorem fits_struct {fs : Array Field} {ty : Ty} (h : T t = some ty) (hd : ty.desc = .struct fs) {n : Nat} {xs : List V} (hf : Fits T n t xs) : ∃ m, n = m + 1 ∧ FitsFs (Fits T m) fs.toList xs := by
  cases n with
  | zero => cases hf
  | succ n => unfold Fits at hf; rw [h] at hf; simp only [hd] at hf; exact ⟨n, rfl, hf⟩
end
end Go.Proofs.Ytdiieghcakhkdaa.En

/- What the arguments of chapter 02 read as. -/
namespace Go.Proofs.Ytdiieghcakhkdaa.En
open Go Go.RowKit
set_option linter.unusedVariables false
theorem T_int : T 3 = some ty3 := by kernel_rfl
theorem T_bytes : T 24 = some ty24 := by kernel_rfl
theorem T_tlv : T 40 = some ty40 := by kernel_rfl
theorem T_list : T 25 = some ty25 := by kernel_rfl
theorem max63 {n : Nat} (h : n ≤ maxLen) : n ≤ 9223372036854775807 := by unfold maxLen at h; omega
theorem tl_of : ∀ (n : Nat) (ys : List V), (∀ y ∈ ys, ∃ cs, y = mkEl true cs ∧ Fits T n 40 cs) → ys.length ≤ maxLen → ∃ l : Tl, ys = l.enc ∧ GoodL l := by
  intro n
  induction n using Nat.strongRecOn with
  | ind n IH =>
    intro ys
    induction ys with
    | nil => intro _ _; exact ⟨.nil, rfl, trivial, Nat.zero_le _⟩
    | cons y ys ih =>
      intro hy hl
      obtain ⟨r, h1, h2⟩ := ih (fun z hz => hy z (List.mem_cons_of_mem _ hz)) (by simp at hl; omega)
      obtain ⟨cs, rfl, hc⟩ := hy y (by simp)
      obtain ⟨m, rfl, a, r1, rfl, ha, b, r2, rfl, hb, c, r3, rfl, hcc, rfl⟩ := fits_struct T_tlv rfl hc
      obtain ⟨t, rfl, t1, t2⟩ := fits_int T_int rfl ha
      obtain ⟨v, rfl, v1⟩ := fits_bytes T_bytes rfl rfl hb
      obtain ⟨m', ks, rfl, rfl, k1, k2⟩ := fits_slice T_list rfl rfl T_tlv hcc
      obtain ⟨k, rfl, k3⟩ := IH m' (by omega) ks k2 k1
      refine ⟨.cons t v k r, by rw [h1]; rfl, ⟨⟨t1, t2⟩, max63 v1, k3.len, k3.wf, h2.wf⟩, ?_⟩
      show r.len + 1 ≤ _
      rw [h1] at hl
      simp only [List.length_cons, Tl.enc_len] at hl
      exact max63 hl
theorem list_arg {n : Nat} {x : V} (h : Fits T n 25 [x]) : ∃ l : Tl, x = .sl 40 l.enc ∧ GoodL l := by
  obtain ⟨m, ys, rfl, e, h1, h2⟩ := fits_slice T_list rfl rfl T_tlv h
  obtain ⟨l, rfl, h3⟩ := tl_of m ys h2 h1
  injection e with e _
  exact ⟨l, e, h3⟩
theorem int_arg {n : Nat} {x : V} (h : Fits T n 3 [x]) : ∃ i : Int, x = .int .i64 i ∧ I64 i := by
  obtain ⟨i, e, h1, h2⟩ := fits_int T_int rfl h
  injection e with e _
  exact ⟨i, e, h1, h2⟩
theorem bytes_arg {n : Nat} {x : V} (h : Fits T n 24 [x]) : ∃ b : List UInt8, x = .bytes b ∧ b.length ≤ 9223372036854775807 := by
  obtain ⟨b, e, h1⟩ := fits_bytes T_bytes rfl rfl h
  injection e with e _
  exact ⟨b, e, max63 h1⟩
theorem T_ints : T 38 = some ty38 := by kernel_rfl
theorem ints_of (n : Nat) : ∀ (ys : List V), (∀ y ∈ ys, ∃ cs, y = mkEl false cs ∧ Fits T n 3 cs) → ∃ ps : List Int, ys = pathV ps ∧ ∀ p ∈ ps, I64 p
  | [], _ => ⟨[], rfl, by simp⟩
  | y :: ys, h => by
    obtain ⟨ps, h1, h2⟩ := ints_of n ys fun z hz => h z (List.mem_cons_of_mem _ hz)
    obtain ⟨cs, rfl, hc⟩ := h y (by simp)
    obtain ⟨i, rfl, i1, i2⟩ := fits_int T_int rfl hc
    refine ⟨i :: ps, by rw [h1]; rfl, fun p hp => ?_⟩
    rcases List.mem_cons.1 hp with rfl | hp
    · exact ⟨i1, i2⟩
    · exact h2 p hp
theorem ints_arg {n : Nat} {x : V} (h : Fits T n 38 [x]) : ∃ ps : List Int, x = .sl 3 (pathV ps) ∧ ∀ p ∈ ps, I64 p := by
  obtain ⟨m, ys, rfl, e, h1, h2⟩ := fits_slice T_ints rfl rfl T_int h
  obtain ⟨ps, rfl, h3⟩ := ints_of m ys h2
  injection e with e _
  exact ⟨ps, e, h3⟩
/-- The types that the arguments lead to. -/
def argTys : List TypeId := [25, 40, 3, 24, 5, 38]
theorem argTys_ok : closedT T argTys = true := by kernel_rfl
end Go.Proofs.Ytdiieghcakhkdaa.En
