/- smartcard/block.parse: the walk, by kind (printed by wip/gen/parse.py). -/
import Derived.Test.YtpfihchdbdhbjaaO
import Derived.Test.YtpfihchdbdhbjaaW
namespace Go.Proofs.Ytpfihchdbdhbjaa
open Go.RowKit
set_option linter.unusedVariables false
attribute [local go_sem] m_PI m_PR m_PS m_CI m_CR m_CS
/-- Whether a control byte is one, and the block that it tells. -/
def okC (c : Nat) : Bool := if c < 128 then decide (c % 32 = 0) else if c < 192 then decide (c < 160 ∧ c % 16 < 3) else decide (c % 32 < 4)
def blkC (c : Nat) : List Value :=
  if c < 128 then [.int .i64 0, .int .i64 0, .int .i64 (c / 64 : Nat), .bool (decide (c / 32 % 2 = 1)), .int .i64 0, .bool false, .slice none 0 0]
  else if c < 192 then [.int .i64 0, .int .i64 1, .int .i64 (c / 16 % 2 : Nat), .bool false, .int .i64 (c % 4 : Nat), .bool false, .slice none 0 0]
  else [.int .i64 0, .int .i64 2, .int .i64 0, .bool false, .int .i64 (c % 4 : Nat), .bool (decide (c / 32 % 2 = 1)), .slice none 0 0]

set_option maxHeartbeats 2000000 in
theorem bparse_I_ok (c : Nat) (hc : c < 128) (hok : c % 32 = 0) (w : World) :
    Calls Try.prog 34 #[.int .i64 (c : Int)] w
      fun e w' => e = .returned (.tuple #[.agg (blkC c).toArray, .bool (okC c)]) ∧ Below w.heap.size w w' := by
  have ho : okC c = true := by unfold okC; rw [if_pos hc]; simp; omega
  have hbl : blkC c = [.int .i64 0, .int .i64 0, .int .i64 (c / 64 : Nat), .bool (decide (c / 32 % 2 = 1)), .int .i64 0, .bool false, .slice none 0 0] := by unfold blkC; rw [if_pos hc]
  rw [ho, hbl]
  clear ho hbl
  have h1 := byte_and192 c (by omega)
  have h192 : (bits .and .i64 (c : Int) 192 == 192) = false := by rw [h1, beq_eq_false_iff_ne]; omega
  have h128 : (bits .and .i64 (c : Int) 192 == 128) = false := by rw [h1, beq_eq_false_iff_ne]; omega
  clear h1
  have hq : ctlI ((c / 64 : Nat) : Int) (decide (c / 32 % 2 = 1)) = (64 * (c / 64) + (if c / 32 % 2 = 1 then 32 else 0) : Nat) := by unfold ctlI; split <;> simp_all
  have h01 : ((c / 64 : Nat) : Int) = 0 ∨ ((c / 64 : Nat) : Int) = 1 := by omega
  have heq : (ctlI ((c / 64 : Nat) : Int) (decide (c / 32 % 2 = 1)) == (c : Int)) = true := by
    rw [hq, beq_iff_eq]; split <;> omega
  have hP : ∀ W, Calls Try.prog 74 #[.agg #[], .int .i64 (c : Int)] W fun e w' => e = .returned (.agg #[.int .i64 0, .int .i64 0, .int .i64 (c / 64 : Nat), .bool (decide (c / 32 % 2 = 1)), .int .i64 0, .bool false, .slice none 0 0]) ∧ Below W.heap.size W w' := fun W => parse_I c hc W
  clear hq hok hc
  generalize hs : ((c / 64 : Nat) : Int) = s at *
  generalize hm : decide (c / 32 % 2 = 1) = m at *
  have HK := Lib.hid h01
  clear h01 hs hm
  have HP := Lib.hid hP
  clear hP
  go_enter Try.func34, Try.ntmps34
  go_wp2_with fail
  refine (HP.out _).mono ?_
  rintro e w1 ⟨rfl, hb⟩
  obtain ⟨hc1, hf1⟩ := bcell hb
  have hz : w.heap.size < w1.heap.size := by have := hb.size; simp at this; omega
  have hne : w.heap.size ≠ w1.heap.size := by omega
  go_wp2_with fail
  have hw1 : Below w.heap.size w w1 := ((Below.refl _ _).alloc (Nat.le_refl _) _).trans (hb.mono (by simp))
  have hth : (w1.alloc (.cells #[.int .i64 0, .int .i64 0, .int .i64 s, .bool m, .int .i64 0, .bool false, .slice none 0 0] 24)).drew.there w.heap.size 0 7 := by
    refine there_of_cells (cs := #[.int .i64 0, .int .i64 0, .int .i64 0, .bool false, .int .i64 0, .bool false, .slice none 0 0]) (t := 24) ?_ rfl
    show (w1.alloc _).heap[w.heap.size]? = _
    rw [Below.heap_alloc _ _ _ hz, hb.block _ (by simp)]
    exact heap_alloc_new w _
  refine wp_region_list' (T := TR w.heap.size 7 [.int .i64 0, .int .i64 0, .int .i64 s, .bool m, .int .i64 0, .bool false, .slice none 0 0]) [St.is (.agg #[.int .i64 0, .int .i64 0, .int .i64 s, .bool m, .int .i64 0, .bool false, .slice none 0 0]), St.is (.iface 44 (.agg #[])), St.is (.agg #[.int .i64 0, .int .i64 0, .int .i64 s, .bool m, .int .i64 0, .bool false, .slice none 0 0]), St.is (.int .i64 (ctlI s m)), St.is (.int .i64 (c : Int)), St.is (.bool true), St.is (.bool true), St.is (.iface 44 (.agg #[])), St.is (.int .i64 0), St.is (.bool true), St.is (.bool true), St.is undef, St.is undef, St.is undef, St.is undef, St.is undef, St.is (Go.Value.bool true), St.is (Go.Value.bool true), St.pred (fun v' w' => w'.rangeAt w.heap.size 0 [.int .i64 0, .int .i64 0, .int .i64 s, .bool m, .int .i64 0, .bool false, .slice none 0 0]) (fun _ _ _ h q => h.fin q), St.is (Go.Value.bool true)] (by kernel_rfl) (by kernel_rfl) (TR.refl _ _ _) (TR.trans _ _ _) ⟨?s0, ?s1, ?s2, ?s3, ?s4, ?s5, ?s6, ?s7, ?s8, ?s9, ?s10, ?s11, ?s12, ?s13, ?s14, ?s15, ?s16, ?s17, ?s18, ?s19, trivial⟩ ?hfin
  case s0 =>
    intro a w' K hT hf hw hK
    refine step_free rfl ?_
    have h5 : a.tmps[5]?.getD undef = .pointer (some ⟨w1.heap.size, 0, none⟩) := hf 5 (by kernel_rfl)
    clear hf hw
    have hcell : ∀ j, w'.cell? ⟨w1.heap.size, j, none⟩ = (w1.alloc (.cells #[.int .i64 0, .int .i64 0, .int .i64 s, .bool m, .int .i64 0, .bool false, .slice none 0 0] 24)).cell? ⟨w1.heap.size, j, none⟩ := fun j => hT.cell (by simp) (Ne.symm hne)
    go_simp
    exact hK _ _ (TR.refl _ _ _ _) rfl
  case s1 =>
    intro a w' K hT hf hw hK
    refine step_free rfl ?_
    have h4 : a.tmps[4]?.getD undef = .iface 44 (.agg #[]) := hf 4 (by kernel_rfl)
    clear hf hw
    go_simp
    exact hK _ _ (TR.refl _ _ _ _) rfl
  case s2 =>
    intro a w' K hT hf hw hK
    refine step_free rfl ?_
    have h5 : a.tmps[5]?.getD undef = .pointer (some ⟨w1.heap.size, 0, none⟩) := hf 5 (by kernel_rfl)
    clear hf hw
    have hcell : ∀ j, w'.cell? ⟨w1.heap.size, j, none⟩ = (w1.alloc (.cells #[.int .i64 0, .int .i64 0, .int .i64 s, .bool m, .int .i64 0, .bool false, .slice none 0 0] 24)).cell? ⟨w1.heap.size, j, none⟩ := fun j => hT.cell (by simp) (Ne.symm hne)
    go_simp
    exact hK _ _ (TR.refl _ _ _ _) rfl
  case s3 =>
    intro a w' K hT hf hw hK
    refine step_free rfl ?_
    have h22 : a.tmps[22]?.getD undef = .iface 44 (.agg #[]) := hw.1
    have h23 : a.tmps[23]?.getD undef = .agg #[.int .i64 0, .int .i64 0, .int .i64 s, .bool m, .int .i64 0, .bool false, .slice none 0 0] := hw.2.1
    clear hf hw
    have hR : w.heap.size < w'.heap.size := by have := hT.grown.size; simp at this; omega
    go_simp
    refine (control_I _ _ _ _ _ _ _ _ HK.out).mono ?_
    rintro e w2 ⟨rfl, hb2⟩
    exact hK _ _ (TR.of_below hR hb2) rfl
  case s4 =>
    intro a w' K hT hf hw hK
    refine step_free rfl ?_
    have h0 : a.tmps[0]?.getD undef = .int .i64 (c : Int) := hf 0 (by kernel_rfl)
    clear hf hw
    go_simp
    exact hK _ _ (TR.refl _ _ _ _) rfl
  case s5 =>
    intro a w' K hT hf hw hK
    refine step_free rfl ?_
    have h24 : a.tmps[24]?.getD undef = .int .i64 (ctlI s m) := hw.1
    have h25 : a.tmps[25]?.getD undef = .int .i64 (c : Int) := hw.2.1
    clear hf hw
    go_simp
    exact hK _ _ (TR.refl _ _ _ _) rfl
  case s6 =>
    intro a w' K hT hf hw hK
    refine step_free rfl ?_
    have h26 : a.tmps[26]?.getD undef = .bool true := hw.1
    clear hf hw
    go_simp
    exact hK _ _ (TR.refl _ _ _ _) rfl
  case s7 =>
    intro a w' K hT hf hw hK
    have hg : a.tmps[27]?.getD undef = .bool true := hw.1
    refine step_yes rfl rfl hg ?_
    clear hg
    have h4 : a.tmps[4]?.getD undef = .iface 44 (.agg #[]) := hf 4 (by kernel_rfl)
    clear hf hw
    go_simp
    exact hK _ _ (TR.refl _ _ _ _) rfl
  case s8 =>
    intro a w' K hT hf hw hK
    have hg : a.tmps[27]?.getD undef = .bool true := hw.2.1
    refine step_yes rfl rfl hg ?_
    clear hg
    have h28 : a.tmps[28]?.getD undef = .iface 44 (.agg #[]) := hw.1
    clear hf hw
    go_simp
    refine (codes_I _).mono ?_
    rintro e w2 ⟨rfl, rfl⟩
    exact hK _ _ (TR.refl _ _ _ _) rfl
  case s9 =>
    intro a w' K hT hf hw hK
    have hg : a.tmps[27]?.getD undef = .bool true := hw.2.1
    refine step_yes rfl rfl hg ?_
    clear hg
    have h29 : a.tmps[29]?.getD undef = .int .i64 0 := hw.1
    clear hf hw
    go_simp
    exact hK _ _ (TR.refl _ _ _ _) rfl
  case s10 =>
    intro a w' K hT hf hw hK
    have hg : a.tmps[27]?.getD undef = .bool true := hw.2.2.1
    refine step_yes rfl rfl hg ?_
    clear hg
    have h30 : a.tmps[30]?.getD undef = .bool true := hw.1
    clear hf hw
    go_simp
    exact hK _ _ (TR.refl _ _ _ _) rfl
  case s11 =>
    intro a w' K hT hf hw hK
    have hg : a.tmps[31]?.getD undef = .bool true := hw.1
    refine step_no rfl rfl (.inl hg) ?_
    exact hK _ _ (TR.refl _ _ _ _) rfl
  case s12 =>
    intro a w' K hT hf hw hK
    have hg : a.tmps[31]?.getD undef = .bool true := hw.2.1
    refine step_no rfl rfl (.inl hg) ?_
    exact hK _ _ (TR.refl _ _ _ _) rfl
  case s13 =>
    intro a w' K hT hf hw hK
    have hg : a.tmps[31]?.getD undef = .bool true := hw.1
    refine step_no rfl rfl (.inl hg) ?_
    exact hK _ _ (TR.refl _ _ _ _) rfl
  case s14 =>
    intro a w' K hT hf hw hK
    have hg : a.tmps[31]?.getD undef = .bool true := hw.2.1
    refine step_no rfl rfl (.inl hg) ?_
    exact hK _ _ (TR.refl _ _ _ _) rfl
  case s15 =>
    intro a w' K hT hf hw hK
    have hg : a.tmps[31]?.getD undef = .bool true := hw.2.2.1
    refine step_no rfl rfl (.inl hg) ?_
    exact hK _ _ (TR.refl _ _ _ _) rfl
  case s16 =>
    intro a w' K hT hf hw hK
    have hg : a.tmps[27]?.getD undef = .bool true := hw.2.2.1
    refine step_yes rfl rfl hg ?_
    clear hg
    have h31 : a.tmps[31]?.getD undef = .bool true := hw.1
    have h36 : a.tmps[36]?.getD undef = undef := hw.2.1
    clear hf hw
    go_simp
    exact hK _ _ (TR.refl _ _ _ _) rfl
  case s17 =>
    intro a w' K hT hf hw hK
    refine step_free rfl ?_
    have h27 : a.tmps[27]?.getD undef = .bool true := hw.1
    have h37 : a.tmps[37]?.getD undef = Go.Value.bool true := hw.2.1
    clear hf hw
    go_simp
    exact hK _ _ (TR.refl _ _ _ _) rfl
  case s18 =>
    intro a w' K hT hf hw hK
    refine step_free rfl ?_
    have h2 : a.tmps[2]?.getD undef = .pointer (some ⟨w.heap.size, 0, none⟩) := hf 2 (by kernel_rfl)
    have h21 : a.tmps[21]?.getD undef = .agg #[.int .i64 0, .int .i64 0, .int .i64 s, .bool m, .int .i64 0, .bool false, .slice none 0 0] := hw.1
    exact wp_store_mid 24 _ _ rfl w.heap.size 0 #[.int .i64 0, .int .i64 0, .int .i64 s, .bool m, .int .i64 0, .bool false, .slice none 0 0] (eval_tmp a 2 h2) (eval_tmp a 21 h21) (hT.there hth) (by kernel_rfl) (by simp [Value.oneCell']) (hK _ _ (TR.store (hT.there hth) rfl).1 (TR.store (hT.there hth) rfl).2)
  case s19 =>
    intro a w' K hT hf hw hK
    refine step_free rfl ?_
    have h38 : a.tmps[38]?.getD undef = Go.Value.bool true := hw.1
    clear hf hw
    go_simp
    exact hK _ _ (TR.refl _ _ _ _) rfl
  case hfin =>
    rintro vs w' hT ⟨f0, f1, f2, f3, f4, f5, f6, f7, f8, f9, f10, f11, f12, f13, f14, f15, f16, f17, f18, f19, -⟩
    have e0 : vs 0 = .agg #[.int .i64 0, .int .i64 0, .int .i64 s, .bool m, .int .i64 0, .bool false, .slice none 0 0] := f0
    have e1 : vs 1 = .iface 44 (.agg #[]) := f1
    have e2 : vs 2 = .agg #[.int .i64 0, .int .i64 0, .int .i64 s, .bool m, .int .i64 0, .bool false, .slice none 0 0] := f2
    have e3 : vs 3 = .int .i64 (ctlI s m) := f3
    have e4 : vs 4 = .int .i64 (c : Int) := f4
    have e5 : vs 5 = .bool true := f5
    have e6 : vs 6 = .bool true := f6
    have e7 : vs 7 = .iface 44 (.agg #[]) := f7
    have e8 : vs 8 = .int .i64 0 := f8
    have e9 : vs 9 = .bool true := f9
    have e10 : vs 10 = .bool true := f10
    have e11 : vs 11 = undef := f11
    have e12 : vs 12 = undef := f12
    have e13 : vs 13 = undef := f13
    have e14 : vs 14 = undef := f14
    have e15 : vs 15 = undef := f15
    have e16 : vs 16 = Go.Value.bool true := f16
    have e17 : vs 17 = Go.Value.bool true := f17
    have e19 : vs 19 = Go.Value.bool true := f19
    simp only [putsAt, Act.put, e0, e1, e2, e3, e4, e5, e6, e7, e8, e9, e10, e11, e12, e13, e14, e15, e16, e17, e19]
    simp only [List.setIfInBounds_toArray, List.set_cons_succ, List.set_cons_zero]
    clear e0 e1 e2 e3 e4 e5 e6 e7 e8 e9 e10 e11 e12 e13 e14 e15 e16 e17 e19 f0 f1 f2 f3 f4 f5 f6 f7 f8 f9 f10 f11 f12 f13 f14 f15 f16 f17 f19
    have hr : w'.rangeAt w.heap.size 0 [.int .i64 0, .int .i64 0, .int .i64 s, .bool m, .int .i64 0, .bool false, .slice none 0 0] := f18
    clear f18
    go_wp2_with fail
    refine bodyPost_ret (results_cell_tmp rfl _ _ w.heap.size 0 [.int .i64 0, .int .i64 0, .int .i64 s, .bool m, .int .i64 0, .bool false, .slice none 0 0] _ rfl hr Try.underlying24 rfl (by kernel_rfl)) rfl ⟨rfl, ?_⟩
    exact hT.below (hw1.alloc hw1.size _).drew (Nat.le_refl _) rfl

set_option maxHeartbeats 2000000 in
theorem bparse_I_no (c : Nat) (hc : c < 128) (hok : ¬ c % 32 = 0) (w : World) :
    Calls Try.prog 34 #[.int .i64 (c : Int)] w
      fun e w' => e = .returned (.tuple #[.agg (blkC c).toArray, .bool (okC c)]) ∧ Below w.heap.size w w' := by
  have ho : okC c = false := by unfold okC; rw [if_pos hc]; simp; omega
  have hbl : blkC c = [.int .i64 0, .int .i64 0, .int .i64 (c / 64 : Nat), .bool (decide (c / 32 % 2 = 1)), .int .i64 0, .bool false, .slice none 0 0] := by unfold blkC; rw [if_pos hc]
  rw [ho, hbl]
  clear ho hbl
  have h1 := byte_and192 c (by omega)
  have h192 : (bits .and .i64 (c : Int) 192 == 192) = false := by rw [h1, beq_eq_false_iff_ne]; omega
  have h128 : (bits .and .i64 (c : Int) 192 == 128) = false := by rw [h1, beq_eq_false_iff_ne]; omega
  clear h1
  have hq : ctlI ((c / 64 : Nat) : Int) (decide (c / 32 % 2 = 1)) = (64 * (c / 64) + (if c / 32 % 2 = 1 then 32 else 0) : Nat) := by unfold ctlI; split <;> simp_all
  have h01 : ((c / 64 : Nat) : Int) = 0 ∨ ((c / 64 : Nat) : Int) = 1 := by omega
  have heq : (ctlI ((c / 64 : Nat) : Int) (decide (c / 32 % 2 = 1)) == (c : Int)) = false := by
    rw [hq, beq_eq_false_iff_ne]; split <;> omega
  have hP : ∀ W, Calls Try.prog 74 #[.agg #[], .int .i64 (c : Int)] W fun e w' => e = .returned (.agg #[.int .i64 0, .int .i64 0, .int .i64 (c / 64 : Nat), .bool (decide (c / 32 % 2 = 1)), .int .i64 0, .bool false, .slice none 0 0]) ∧ Below W.heap.size W w' := fun W => parse_I c hc W
  clear hq hok hc
  generalize hs : ((c / 64 : Nat) : Int) = s at *
  generalize hm : decide (c / 32 % 2 = 1) = m at *
  have HK := Lib.hid h01
  clear h01 hs hm
  have HP := Lib.hid hP
  clear hP
  go_enter Try.func34, Try.ntmps34
  go_wp2_with fail
  refine (HP.out _).mono ?_
  rintro e w1 ⟨rfl, hb⟩
  obtain ⟨hc1, hf1⟩ := bcell hb
  have hz : w.heap.size < w1.heap.size := by have := hb.size; simp at this; omega
  have hne : w.heap.size ≠ w1.heap.size := by omega
  go_wp2_with fail
  have hw1 : Below w.heap.size w w1 := ((Below.refl _ _).alloc (Nat.le_refl _) _).trans (hb.mono (by simp))
  have hth : (w1.alloc (.cells #[.int .i64 0, .int .i64 0, .int .i64 s, .bool m, .int .i64 0, .bool false, .slice none 0 0] 24)).drew.there w.heap.size 0 7 := by
    refine there_of_cells (cs := #[.int .i64 0, .int .i64 0, .int .i64 0, .bool false, .int .i64 0, .bool false, .slice none 0 0]) (t := 24) ?_ rfl
    show (w1.alloc _).heap[w.heap.size]? = _
    rw [Below.heap_alloc _ _ _ hz, hb.block _ (by simp)]
    exact heap_alloc_new w _
  refine wp_region_list' (T := TR w.heap.size 7 [.int .i64 0, .int .i64 0, .int .i64 s, .bool m, .int .i64 0, .bool false, .slice none 0 0]) [St.is (.agg #[.int .i64 0, .int .i64 0, .int .i64 s, .bool m, .int .i64 0, .bool false, .slice none 0 0]), St.is (.iface 44 (.agg #[])), St.is (.agg #[.int .i64 0, .int .i64 0, .int .i64 s, .bool m, .int .i64 0, .bool false, .slice none 0 0]), St.is (.int .i64 (ctlI s m)), St.is (.int .i64 (c : Int)), St.is (.bool false), St.is (.bool false), St.is undef, St.is undef, St.is undef, St.is undef, St.is undef, St.is undef, St.is undef, St.is undef, St.is undef, St.is undef, St.is (Go.Value.bool false), St.pred (fun v' w' => w'.rangeAt w.heap.size 0 [.int .i64 0, .int .i64 0, .int .i64 s, .bool m, .int .i64 0, .bool false, .slice none 0 0]) (fun _ _ _ h q => h.fin q), St.is (Go.Value.bool false)] (by kernel_rfl) (by kernel_rfl) (TR.refl _ _ _) (TR.trans _ _ _) ⟨?s0, ?s1, ?s2, ?s3, ?s4, ?s5, ?s6, ?s7, ?s8, ?s9, ?s10, ?s11, ?s12, ?s13, ?s14, ?s15, ?s16, ?s17, ?s18, ?s19, trivial⟩ ?hfin
  case s0 =>
    intro a w' K hT hf hw hK
    refine step_free rfl ?_
    have h5 : a.tmps[5]?.getD undef = .pointer (some ⟨w1.heap.size, 0, none⟩) := hf 5 (by kernel_rfl)
    clear hf hw
    have hcell : ∀ j, w'.cell? ⟨w1.heap.size, j, none⟩ = (w1.alloc (.cells #[.int .i64 0, .int .i64 0, .int .i64 s, .bool m, .int .i64 0, .bool false, .slice none 0 0] 24)).cell? ⟨w1.heap.size, j, none⟩ := fun j => hT.cell (by simp) (Ne.symm hne)
    go_simp
    exact hK _ _ (TR.refl _ _ _ _) rfl
  case s1 =>
    intro a w' K hT hf hw hK
    refine step_free rfl ?_
    have h4 : a.tmps[4]?.getD undef = .iface 44 (.agg #[]) := hf 4 (by kernel_rfl)
    clear hf hw
    go_simp
    exact hK _ _ (TR.refl _ _ _ _) rfl
  case s2 =>
    intro a w' K hT hf hw hK
    refine step_free rfl ?_
    have h5 : a.tmps[5]?.getD undef = .pointer (some ⟨w1.heap.size, 0, none⟩) := hf 5 (by kernel_rfl)
    clear hf hw
    have hcell : ∀ j, w'.cell? ⟨w1.heap.size, j, none⟩ = (w1.alloc (.cells #[.int .i64 0, .int .i64 0, .int .i64 s, .bool m, .int .i64 0, .bool false, .slice none 0 0] 24)).cell? ⟨w1.heap.size, j, none⟩ := fun j => hT.cell (by simp) (Ne.symm hne)
    go_simp
    exact hK _ _ (TR.refl _ _ _ _) rfl
  case s3 =>
    intro a w' K hT hf hw hK
    refine step_free rfl ?_
    have h22 : a.tmps[22]?.getD undef = .iface 44 (.agg #[]) := hw.1
    have h23 : a.tmps[23]?.getD undef = .agg #[.int .i64 0, .int .i64 0, .int .i64 s, .bool m, .int .i64 0, .bool false, .slice none 0 0] := hw.2.1
    clear hf hw
    have hR : w.heap.size < w'.heap.size := by have := hT.grown.size; simp at this; omega
    go_simp
    refine (control_I _ _ _ _ _ _ _ _ HK.out).mono ?_
    rintro e w2 ⟨rfl, hb2⟩
    exact hK _ _ (TR.of_below hR hb2) rfl
  case s4 =>
    intro a w' K hT hf hw hK
    refine step_free rfl ?_
    have h0 : a.tmps[0]?.getD undef = .int .i64 (c : Int) := hf 0 (by kernel_rfl)
    clear hf hw
    go_simp
    exact hK _ _ (TR.refl _ _ _ _) rfl
  case s5 =>
    intro a w' K hT hf hw hK
    refine step_free rfl ?_
    have h24 : a.tmps[24]?.getD undef = .int .i64 (ctlI s m) := hw.1
    have h25 : a.tmps[25]?.getD undef = .int .i64 (c : Int) := hw.2.1
    clear hf hw
    go_simp
    exact hK _ _ (TR.refl _ _ _ _) rfl
  case s6 =>
    intro a w' K hT hf hw hK
    refine step_free rfl ?_
    have h26 : a.tmps[26]?.getD undef = .bool false := hw.1
    clear hf hw
    go_simp
    exact hK _ _ (TR.refl _ _ _ _) rfl
  case s7 =>
    intro a w' K hT hf hw hK
    have hg : a.tmps[27]?.getD undef = .bool false := hw.1
    refine step_no rfl rfl (.inl hg) ?_
    exact hK _ _ (TR.refl _ _ _ _) rfl
  case s8 =>
    intro a w' K hT hf hw hK
    have hg : a.tmps[27]?.getD undef = .bool false := hw.2.1
    refine step_no rfl rfl (.inl hg) ?_
    exact hK _ _ (TR.refl _ _ _ _) rfl
  case s9 =>
    intro a w' K hT hf hw hK
    have hg : a.tmps[27]?.getD undef = .bool false := hw.2.1
    refine step_no rfl rfl (.inl hg) ?_
    exact hK _ _ (TR.refl _ _ _ _) rfl
  case s10 =>
    intro a w' K hT hf hw hK
    have hg : a.tmps[27]?.getD undef = .bool false := hw.2.2.1
    refine step_no rfl rfl (.inl hg) ?_
    exact hK _ _ (TR.refl _ _ _ _) rfl
  case s11 =>
    intro a w' K hT hf hw hK
    have hg : a.tmps[31]?.getD undef = undef := hw.1
    refine step_no rfl rfl (.inr hg) ?_
    exact hK _ _ (TR.refl _ _ _ _) rfl
  case s12 =>
    intro a w' K hT hf hw hK
    have hg : a.tmps[31]?.getD undef = undef := hw.2.1
    refine step_no rfl rfl (.inr hg) ?_
    exact hK _ _ (TR.refl _ _ _ _) rfl
  case s13 =>
    intro a w' K hT hf hw hK
    have hg : a.tmps[31]?.getD undef = undef := hw.1
    refine step_no rfl rfl (.inr hg) ?_
    exact hK _ _ (TR.refl _ _ _ _) rfl
  case s14 =>
    intro a w' K hT hf hw hK
    have hg : a.tmps[31]?.getD undef = undef := hw.2.1
    refine step_no rfl rfl (.inr hg) ?_
    exact hK _ _ (TR.refl _ _ _ _) rfl
  case s15 =>
    intro a w' K hT hf hw hK
    have hg : a.tmps[31]?.getD undef = undef := hw.2.2.1
    refine step_no rfl rfl (.inr hg) ?_
    exact hK _ _ (TR.refl _ _ _ _) rfl
  case s16 =>
    intro a w' K hT hf hw hK
    have hg : a.tmps[27]?.getD undef = .bool false := hw.2.2.1
    refine step_no rfl rfl (.inl hg) ?_
    exact hK _ _ (TR.refl _ _ _ _) rfl
  case s17 =>
    intro a w' K hT hf hw hK
    refine step_free rfl ?_
    have h27 : a.tmps[27]?.getD undef = .bool false := hw.1
    have h37 : a.tmps[37]?.getD undef = undef := hw.2.1
    clear hf hw
    go_simp
    exact hK _ _ (TR.refl _ _ _ _) rfl
  case s18 =>
    intro a w' K hT hf hw hK
    refine step_free rfl ?_
    have h2 : a.tmps[2]?.getD undef = .pointer (some ⟨w.heap.size, 0, none⟩) := hf 2 (by kernel_rfl)
    have h21 : a.tmps[21]?.getD undef = .agg #[.int .i64 0, .int .i64 0, .int .i64 s, .bool m, .int .i64 0, .bool false, .slice none 0 0] := hw.1
    exact wp_store_mid 24 _ _ rfl w.heap.size 0 #[.int .i64 0, .int .i64 0, .int .i64 s, .bool m, .int .i64 0, .bool false, .slice none 0 0] (eval_tmp a 2 h2) (eval_tmp a 21 h21) (hT.there hth) (by kernel_rfl) (by simp [Value.oneCell']) (hK _ _ (TR.store (hT.there hth) rfl).1 (TR.store (hT.there hth) rfl).2)
  case s19 =>
    intro a w' K hT hf hw hK
    refine step_free rfl ?_
    have h38 : a.tmps[38]?.getD undef = Go.Value.bool false := hw.1
    clear hf hw
    go_simp
    exact hK _ _ (TR.refl _ _ _ _) rfl
  case hfin =>
    rintro vs w' hT ⟨f0, f1, f2, f3, f4, f5, f6, f7, f8, f9, f10, f11, f12, f13, f14, f15, f16, f17, f18, f19, -⟩
    have e0 : vs 0 = .agg #[.int .i64 0, .int .i64 0, .int .i64 s, .bool m, .int .i64 0, .bool false, .slice none 0 0] := f0
    have e1 : vs 1 = .iface 44 (.agg #[]) := f1
    have e2 : vs 2 = .agg #[.int .i64 0, .int .i64 0, .int .i64 s, .bool m, .int .i64 0, .bool false, .slice none 0 0] := f2
    have e3 : vs 3 = .int .i64 (ctlI s m) := f3
    have e4 : vs 4 = .int .i64 (c : Int) := f4
    have e5 : vs 5 = .bool false := f5
    have e6 : vs 6 = .bool false := f6
    have e7 : vs 7 = undef := f7
    have e8 : vs 8 = undef := f8
    have e9 : vs 9 = undef := f9
    have e10 : vs 10 = undef := f10
    have e11 : vs 11 = undef := f11
    have e12 : vs 12 = undef := f12
    have e13 : vs 13 = undef := f13
    have e14 : vs 14 = undef := f14
    have e15 : vs 15 = undef := f15
    have e16 : vs 16 = undef := f16
    have e17 : vs 17 = Go.Value.bool false := f17
    have e19 : vs 19 = Go.Value.bool false := f19
    simp only [putsAt, Act.put, e0, e1, e2, e3, e4, e5, e6, e7, e8, e9, e10, e11, e12, e13, e14, e15, e16, e17, e19]
    simp only [List.setIfInBounds_toArray, List.set_cons_succ, List.set_cons_zero]
    clear e0 e1 e2 e3 e4 e5 e6 e7 e8 e9 e10 e11 e12 e13 e14 e15 e16 e17 e19 f0 f1 f2 f3 f4 f5 f6 f7 f8 f9 f10 f11 f12 f13 f14 f15 f16 f17 f19
    have hr : w'.rangeAt w.heap.size 0 [.int .i64 0, .int .i64 0, .int .i64 s, .bool m, .int .i64 0, .bool false, .slice none 0 0] := f18
    clear f18
    go_wp2_with fail
    refine bodyPost_ret (results_cell_tmp rfl _ _ w.heap.size 0 [.int .i64 0, .int .i64 0, .int .i64 s, .bool m, .int .i64 0, .bool false, .slice none 0 0] _ rfl hr Try.underlying24 rfl (by kernel_rfl)) rfl ⟨rfl, ?_⟩
    exact hT.below (hw1.alloc hw1.size _).drew (Nat.le_refl _) rfl

set_option maxHeartbeats 2000000 in
theorem bparse_R_ok (c : Nat) (h0 : 128 ≤ c) (hc : c < 192) (hok : c < 160 ∧ c % 16 < 3) (w : World) :
    Calls Try.prog 34 #[.int .i64 (c : Int)] w
      fun e w' => e = .returned (.tuple #[.agg (blkC c).toArray, .bool (okC c)]) ∧ Below w.heap.size w w' := by
  have ho : okC c = true := by unfold okC; rw [if_neg (by omega), if_pos hc]; simp; omega
  have hbl : blkC c = [.int .i64 0, .int .i64 1, .int .i64 (c / 16 % 2 : Nat), .bool false, .int .i64 (c % 4 : Nat), .bool false, .slice none 0 0] := by unfold blkC; rw [if_neg (by omega), if_pos hc]
  rw [ho, hbl]
  clear ho hbl
  have h1 := byte_and192 c (by omega)
  rw [show c / 64 * 64 = 128 by omega] at h1
  have hq : ctlR ((c / 16 % 2 : Nat) : Int) ((c % 4 : Nat) : Int) = (128 + 16 * (c / 16 % 2) + c % 4 : Nat) := by unfold ctlR; omega
  have h01 : ((c / 16 % 2 : Nat) : Int) = 0 ∨ ((c / 16 % 2 : Nat) : Int) = 1 := by omega
  have h4 : ((c % 4 : Nat) : Int) = 0 ∨ ((c % 4 : Nat) : Int) = 1 ∨ ((c % 4 : Nat) : Int) = 2 ∨ ((c % 4 : Nat) : Int) = 3 := by omega
  have heq : (ctlR ((c / 16 % 2 : Nat) : Int) ((c % 4 : Nat) : Int) == (c : Int)) = true := by
    rw [hq, beq_iff_eq]; omega
  have hlt : ((c % 4 : Nat) : Int) < 3 := by omega
  have hP : ∀ W, Calls Try.prog 96 #[.agg #[], .int .i64 (c : Int)] W fun e w' => e = .returned (.agg #[.int .i64 0, .int .i64 1, .int .i64 (c / 16 % 2 : Nat), .bool false, .int .i64 (c % 4 : Nat), .bool false, .slice none 0 0]) ∧ Below W.heap.size W w' := fun W => parse_R c (by omega) W
  clear hq hok h0 hc
  generalize hs : ((c / 16 % 2 : Nat) : Int) = s at *
  generalize hk : ((c % 4 : Nat) : Int) = k at *
  have HK := Lib.hid (And.intro h01 h4)
  clear h01 h4 hs hk
  have HP := Lib.hid hP
  clear hP
  go_enter Try.func34, Try.ntmps34
  go_wp2_with fail
  refine (HP.out _).mono ?_
  rintro e w1 ⟨rfl, hb⟩
  obtain ⟨hc1, hf1⟩ := bcell hb
  have hz : w.heap.size < w1.heap.size := by have := hb.size; simp at this; omega
  have hne : w.heap.size ≠ w1.heap.size := by omega
  go_wp2_with fail
  have hw1 : Below w.heap.size w w1 := ((Below.refl _ _).alloc (Nat.le_refl _) _).trans (hb.mono (by simp))
  have hth : (w1.alloc (.cells #[.int .i64 0, .int .i64 1, .int .i64 s, .bool false, .int .i64 k, .bool false, .slice none 0 0] 24)).drew.there w.heap.size 0 7 := by
    refine there_of_cells (cs := #[.int .i64 0, .int .i64 0, .int .i64 0, .bool false, .int .i64 0, .bool false, .slice none 0 0]) (t := 24) ?_ rfl
    show (w1.alloc _).heap[w.heap.size]? = _
    rw [Below.heap_alloc _ _ _ hz, hb.block _ (by simp)]
    exact heap_alloc_new w _
  refine wp_region_list' (T := TR w.heap.size 7 [.int .i64 0, .int .i64 1, .int .i64 s, .bool false, .int .i64 k, .bool false, .slice none 0 0]) [St.is (.agg #[.int .i64 0, .int .i64 1, .int .i64 s, .bool false, .int .i64 k, .bool false, .slice none 0 0]), St.is (.iface 63 (.agg #[])), St.is (.agg #[.int .i64 0, .int .i64 1, .int .i64 s, .bool false, .int .i64 k, .bool false, .slice none 0 0]), St.is (.int .i64 (ctlR s k)), St.is (.int .i64 (c : Int)), St.is (.bool true), St.is (.bool true), St.is (.iface 63 (.agg #[])), St.is (.int .i64 3), St.is (.bool false), St.is (.bool false), St.is (.pointer (some ⟨w1.heap.size, 4, none⟩)), St.is (.int .i64 k), St.is (.iface 63 (.agg #[])), St.is (.int .i64 3), St.is (.bool true), St.is (.bool true), St.is (.bool true), St.pred (fun v' w' => w'.rangeAt w.heap.size 0 [.int .i64 0, .int .i64 1, .int .i64 s, .bool false, .int .i64 k, .bool false, .slice none 0 0]) (fun _ _ _ h q => h.fin q), St.is (.bool true)] (by kernel_rfl) (by kernel_rfl) (TR.refl _ _ _) (TR.trans _ _ _) ⟨?s0, ?s1, ?s2, ?s3, ?s4, ?s5, ?s6, ?s7, ?s8, ?s9, ?s10, ?s11, ?s12, ?s13, ?s14, ?s15, ?s16, ?s17, ?s18, ?s19, trivial⟩ ?hfin
  case s0 =>
    intro a w' K hT hf hw hK
    refine step_free rfl ?_
    have h5 : a.tmps[5]?.getD undef = .pointer (some ⟨w1.heap.size, 0, none⟩) := hf 5 (by kernel_rfl)
    clear hf hw
    have hcell : ∀ j, w'.cell? ⟨w1.heap.size, j, none⟩ = (w1.alloc (.cells #[.int .i64 0, .int .i64 1, .int .i64 s, .bool false, .int .i64 k, .bool false, .slice none 0 0] 24)).cell? ⟨w1.heap.size, j, none⟩ := fun j => hT.cell (by simp) (Ne.symm hne)
    go_simp
    exact hK _ _ (TR.refl _ _ _ _) rfl
  case s1 =>
    intro a w' K hT hf hw hK
    refine step_free rfl ?_
    have h4 : a.tmps[4]?.getD undef = .iface 63 (.agg #[]) := hf 4 (by kernel_rfl)
    clear hf hw
    go_simp
    exact hK _ _ (TR.refl _ _ _ _) rfl
  case s2 =>
    intro a w' K hT hf hw hK
    refine step_free rfl ?_
    have h5 : a.tmps[5]?.getD undef = .pointer (some ⟨w1.heap.size, 0, none⟩) := hf 5 (by kernel_rfl)
    clear hf hw
    have hcell : ∀ j, w'.cell? ⟨w1.heap.size, j, none⟩ = (w1.alloc (.cells #[.int .i64 0, .int .i64 1, .int .i64 s, .bool false, .int .i64 k, .bool false, .slice none 0 0] 24)).cell? ⟨w1.heap.size, j, none⟩ := fun j => hT.cell (by simp) (Ne.symm hne)
    go_simp
    exact hK _ _ (TR.refl _ _ _ _) rfl
  case s3 =>
    intro a w' K hT hf hw hK
    refine step_free rfl ?_
    have h22 : a.tmps[22]?.getD undef = .iface 63 (.agg #[]) := hw.1
    have h23 : a.tmps[23]?.getD undef = .agg #[.int .i64 0, .int .i64 1, .int .i64 s, .bool false, .int .i64 k, .bool false, .slice none 0 0] := hw.2.1
    clear hf hw
    have hR : w.heap.size < w'.heap.size := by have := hT.grown.size; simp at this; omega
    go_simp
    refine (control_R _ _ _ _ _ _ _ _ HK.out.1 HK.out.2).mono ?_
    rintro e w2 ⟨rfl, hb2⟩
    exact hK _ _ (TR.of_below hR hb2) rfl
  case s4 =>
    intro a w' K hT hf hw hK
    refine step_free rfl ?_
    have h0 : a.tmps[0]?.getD undef = .int .i64 (c : Int) := hf 0 (by kernel_rfl)
    clear hf hw
    go_simp
    exact hK _ _ (TR.refl _ _ _ _) rfl
  case s5 =>
    intro a w' K hT hf hw hK
    refine step_free rfl ?_
    have h24 : a.tmps[24]?.getD undef = .int .i64 (ctlR s k) := hw.1
    have h25 : a.tmps[25]?.getD undef = .int .i64 (c : Int) := hw.2.1
    clear hf hw
    go_simp
    exact hK _ _ (TR.refl _ _ _ _) rfl
  case s6 =>
    intro a w' K hT hf hw hK
    refine step_free rfl ?_
    have h26 : a.tmps[26]?.getD undef = .bool true := hw.1
    clear hf hw
    go_simp
    exact hK _ _ (TR.refl _ _ _ _) rfl
  case s7 =>
    intro a w' K hT hf hw hK
    have hg : a.tmps[27]?.getD undef = .bool true := hw.1
    refine step_yes rfl rfl hg ?_
    clear hg
    have h4 : a.tmps[4]?.getD undef = .iface 63 (.agg #[]) := hf 4 (by kernel_rfl)
    clear hf hw
    go_simp
    exact hK _ _ (TR.refl _ _ _ _) rfl
  case s8 =>
    intro a w' K hT hf hw hK
    have hg : a.tmps[27]?.getD undef = .bool true := hw.2.1
    refine step_yes rfl rfl hg ?_
    clear hg
    have h28 : a.tmps[28]?.getD undef = .iface 63 (.agg #[]) := hw.1
    clear hf hw
    go_simp
    refine (codes_R _).mono ?_
    rintro e w2 ⟨rfl, rfl⟩
    exact hK _ _ (TR.refl _ _ _ _) rfl
  case s9 =>
    intro a w' K hT hf hw hK
    have hg : a.tmps[27]?.getD undef = .bool true := hw.2.1
    refine step_yes rfl rfl hg ?_
    clear hg
    have h29 : a.tmps[29]?.getD undef = .int .i64 3 := hw.1
    clear hf hw
    go_simp
    exact hK _ _ (TR.refl _ _ _ _) rfl
  case s10 =>
    intro a w' K hT hf hw hK
    have hg : a.tmps[27]?.getD undef = .bool true := hw.2.2.1
    refine step_yes rfl rfl hg ?_
    clear hg
    have h30 : a.tmps[30]?.getD undef = .bool false := hw.1
    clear hf hw
    go_simp
    exact hK _ _ (TR.refl _ _ _ _) rfl
  case s11 =>
    intro a w' K hT hf hw hK
    have hg : a.tmps[31]?.getD undef = .bool false := hw.1
    refine step_yes rfl rfl hg ?_
    clear hg
    have h5 : a.tmps[5]?.getD undef = .pointer (some ⟨w1.heap.size, 0, none⟩) := hf 5 (by kernel_rfl)
    clear hf hw
    go_simp
    exact hK _ _ (TR.refl _ _ _ _) rfl
  case s12 =>
    intro a w' K hT hf hw hK
    have hg : a.tmps[31]?.getD undef = .bool false := hw.2.1
    refine step_yes rfl rfl hg ?_
    clear hg
    have h32 : a.tmps[32]?.getD undef = .pointer (some ⟨w1.heap.size, 4, none⟩) := hw.1
    clear hf hw
    have hcell : ∀ j, w'.cell? ⟨w1.heap.size, j, none⟩ = (w1.alloc (.cells #[.int .i64 0, .int .i64 1, .int .i64 s, .bool false, .int .i64 k, .bool false, .slice none 0 0] 24)).cell? ⟨w1.heap.size, j, none⟩ := fun j => hT.cell (by simp) (Ne.symm hne)
    go_simp
    exact hK _ _ (TR.refl _ _ _ _) rfl
  case s13 =>
    intro a w' K hT hf hw hK
    have hg : a.tmps[31]?.getD undef = .bool false := hw.1
    refine step_yes rfl rfl hg ?_
    clear hg
    have h4 : a.tmps[4]?.getD undef = .iface 63 (.agg #[]) := hf 4 (by kernel_rfl)
    clear hf hw
    go_simp
    exact hK _ _ (TR.refl _ _ _ _) rfl
  case s14 =>
    intro a w' K hT hf hw hK
    have hg : a.tmps[31]?.getD undef = .bool false := hw.2.1
    refine step_yes rfl rfl hg ?_
    clear hg
    have h34 : a.tmps[34]?.getD undef = .iface 63 (.agg #[]) := hw.1
    clear hf hw
    go_simp
    refine (codes_R _).mono ?_
    rintro e w2 ⟨rfl, rfl⟩
    exact hK _ _ (TR.refl _ _ _ _) rfl
  case s15 =>
    intro a w' K hT hf hw hK
    have hg : a.tmps[31]?.getD undef = .bool false := hw.2.2.1
    refine step_yes rfl rfl hg ?_
    clear hg
    have h33 : a.tmps[33]?.getD undef = .int .i64 k := hw.1
    have h35 : a.tmps[35]?.getD undef = .int .i64 3 := hw.2.1
    clear hf hw
    go_simp
    exact hK _ _ (TR.refl _ _ _ _) rfl
  case s16 =>
    intro a w' K hT hf hw hK
    have hg : a.tmps[27]?.getD undef = .bool true := hw.2.2.1
    refine step_yes rfl rfl hg ?_
    clear hg
    have h31 : a.tmps[31]?.getD undef = .bool false := hw.1
    have h36 : a.tmps[36]?.getD undef = .bool true := hw.2.1
    clear hf hw
    go_simp
    exact hK _ _ (TR.refl _ _ _ _) rfl
  case s17 =>
    intro a w' K hT hf hw hK
    refine step_free rfl ?_
    have h27 : a.tmps[27]?.getD undef = .bool true := hw.1
    have h37 : a.tmps[37]?.getD undef = .bool true := hw.2.1
    clear hf hw
    go_simp
    exact hK _ _ (TR.refl _ _ _ _) rfl
  case s18 =>
    intro a w' K hT hf hw hK
    refine step_free rfl ?_
    have h2 : a.tmps[2]?.getD undef = .pointer (some ⟨w.heap.size, 0, none⟩) := hf 2 (by kernel_rfl)
    have h21 : a.tmps[21]?.getD undef = .agg #[.int .i64 0, .int .i64 1, .int .i64 s, .bool false, .int .i64 k, .bool false, .slice none 0 0] := hw.1
    exact wp_store_mid 24 _ _ rfl w.heap.size 0 #[.int .i64 0, .int .i64 1, .int .i64 s, .bool false, .int .i64 k, .bool false, .slice none 0 0] (eval_tmp a 2 h2) (eval_tmp a 21 h21) (hT.there hth) (by kernel_rfl) (by simp [Value.oneCell']) (hK _ _ (TR.store (hT.there hth) rfl).1 (TR.store (hT.there hth) rfl).2)
  case s19 =>
    intro a w' K hT hf hw hK
    refine step_free rfl ?_
    have h38 : a.tmps[38]?.getD undef = .bool true := hw.1
    clear hf hw
    go_simp
    exact hK _ _ (TR.refl _ _ _ _) rfl
  case hfin =>
    rintro vs w' hT ⟨f0, f1, f2, f3, f4, f5, f6, f7, f8, f9, f10, f11, f12, f13, f14, f15, f16, f17, f18, f19, -⟩
    have e0 : vs 0 = .agg #[.int .i64 0, .int .i64 1, .int .i64 s, .bool false, .int .i64 k, .bool false, .slice none 0 0] := f0
    have e1 : vs 1 = .iface 63 (.agg #[]) := f1
    have e2 : vs 2 = .agg #[.int .i64 0, .int .i64 1, .int .i64 s, .bool false, .int .i64 k, .bool false, .slice none 0 0] := f2
    have e3 : vs 3 = .int .i64 (ctlR s k) := f3
    have e4 : vs 4 = .int .i64 (c : Int) := f4
    have e5 : vs 5 = .bool true := f5
    have e6 : vs 6 = .bool true := f6
    have e7 : vs 7 = .iface 63 (.agg #[]) := f7
    have e8 : vs 8 = .int .i64 3 := f8
    have e9 : vs 9 = .bool false := f9
    have e10 : vs 10 = .bool false := f10
    have e11 : vs 11 = .pointer (some ⟨w1.heap.size, 4, none⟩) := f11
    have e12 : vs 12 = .int .i64 k := f12
    have e13 : vs 13 = .iface 63 (.agg #[]) := f13
    have e14 : vs 14 = .int .i64 3 := f14
    have e15 : vs 15 = .bool true := f15
    have e16 : vs 16 = .bool true := f16
    have e17 : vs 17 = .bool true := f17
    have e19 : vs 19 = .bool true := f19
    simp only [putsAt, Act.put, e0, e1, e2, e3, e4, e5, e6, e7, e8, e9, e10, e11, e12, e13, e14, e15, e16, e17, e19]
    simp only [List.setIfInBounds_toArray, List.set_cons_succ, List.set_cons_zero]
    clear e0 e1 e2 e3 e4 e5 e6 e7 e8 e9 e10 e11 e12 e13 e14 e15 e16 e17 e19 f0 f1 f2 f3 f4 f5 f6 f7 f8 f9 f10 f11 f12 f13 f14 f15 f16 f17 f19
    have hr : w'.rangeAt w.heap.size 0 [.int .i64 0, .int .i64 1, .int .i64 s, .bool false, .int .i64 k, .bool false, .slice none 0 0] := f18
    clear f18
    go_wp2_with fail
    refine bodyPost_ret (results_cell_tmp rfl _ _ w.heap.size 0 [.int .i64 0, .int .i64 1, .int .i64 s, .bool false, .int .i64 k, .bool false, .slice none 0 0] _ rfl hr Try.underlying24 rfl (by kernel_rfl)) rfl ⟨rfl, ?_⟩
    exact hT.below (hw1.alloc hw1.size _).drew (Nat.le_refl _) rfl

set_option maxHeartbeats 2000000 in
theorem bparse_R_no (c : Nat) (h0 : 128 ≤ c) (hc : c < 192) (hok : ¬ (c < 160 ∧ c % 16 < 4)) (w : World) :
    Calls Try.prog 34 #[.int .i64 (c : Int)] w
      fun e w' => e = .returned (.tuple #[.agg (blkC c).toArray, .bool (okC c)]) ∧ Below w.heap.size w w' := by
  have ho : okC c = false := by unfold okC; rw [if_neg (by omega), if_pos hc]; simp; omega
  have hbl : blkC c = [.int .i64 0, .int .i64 1, .int .i64 (c / 16 % 2 : Nat), .bool false, .int .i64 (c % 4 : Nat), .bool false, .slice none 0 0] := by unfold blkC; rw [if_neg (by omega), if_pos hc]
  rw [ho, hbl]
  clear ho hbl
  have h1 := byte_and192 c (by omega)
  rw [show c / 64 * 64 = 128 by omega] at h1
  have hq : ctlR ((c / 16 % 2 : Nat) : Int) ((c % 4 : Nat) : Int) = (128 + 16 * (c / 16 % 2) + c % 4 : Nat) := by unfold ctlR; omega
  have h01 : ((c / 16 % 2 : Nat) : Int) = 0 ∨ ((c / 16 % 2 : Nat) : Int) = 1 := by omega
  have h4 : ((c % 4 : Nat) : Int) = 0 ∨ ((c % 4 : Nat) : Int) = 1 ∨ ((c % 4 : Nat) : Int) = 2 ∨ ((c % 4 : Nat) : Int) = 3 := by omega
  have heq : (ctlR ((c / 16 % 2 : Nat) : Int) ((c % 4 : Nat) : Int) == (c : Int)) = false := by
    rw [hq, beq_eq_false_iff_ne]; omega
  have hP : ∀ W, Calls Try.prog 96 #[.agg #[], .int .i64 (c : Int)] W fun e w' => e = .returned (.agg #[.int .i64 0, .int .i64 1, .int .i64 (c / 16 % 2 : Nat), .bool false, .int .i64 (c % 4 : Nat), .bool false, .slice none 0 0]) ∧ Below W.heap.size W w' := fun W => parse_R c (by omega) W
  clear hq hok h0 hc
  generalize hs : ((c / 16 % 2 : Nat) : Int) = s at *
  generalize hk : ((c % 4 : Nat) : Int) = k at *
  have HK := Lib.hid (And.intro h01 h4)
  clear h01 h4 hs hk
  have HP := Lib.hid hP
  clear hP
  go_enter Try.func34, Try.ntmps34
  go_wp2_with fail
  refine (HP.out _).mono ?_
  rintro e w1 ⟨rfl, hb⟩
  obtain ⟨hc1, hf1⟩ := bcell hb
  have hz : w.heap.size < w1.heap.size := by have := hb.size; simp at this; omega
  have hne : w.heap.size ≠ w1.heap.size := by omega
  go_wp2_with fail
  have hw1 : Below w.heap.size w w1 := ((Below.refl _ _).alloc (Nat.le_refl _) _).trans (hb.mono (by simp))
  have hth : (w1.alloc (.cells #[.int .i64 0, .int .i64 1, .int .i64 s, .bool false, .int .i64 k, .bool false, .slice none 0 0] 24)).drew.there w.heap.size 0 7 := by
    refine there_of_cells (cs := #[.int .i64 0, .int .i64 0, .int .i64 0, .bool false, .int .i64 0, .bool false, .slice none 0 0]) (t := 24) ?_ rfl
    show (w1.alloc _).heap[w.heap.size]? = _
    rw [Below.heap_alloc _ _ _ hz, hb.block _ (by simp)]
    exact heap_alloc_new w _
  refine wp_region_list' (T := TR w.heap.size 7 [.int .i64 0, .int .i64 1, .int .i64 s, .bool false, .int .i64 k, .bool false, .slice none 0 0]) [St.is (.agg #[.int .i64 0, .int .i64 1, .int .i64 s, .bool false, .int .i64 k, .bool false, .slice none 0 0]), St.is (.iface 63 (.agg #[])), St.is (.agg #[.int .i64 0, .int .i64 1, .int .i64 s, .bool false, .int .i64 k, .bool false, .slice none 0 0]), St.is (.int .i64 (ctlR s k)), St.is (.int .i64 (c : Int)), St.is (.bool false), St.is (.bool false), St.is undef, St.is undef, St.is undef, St.is undef, St.is undef, St.is undef, St.is undef, St.is undef, St.is undef, St.is undef, St.is (Go.Value.bool false), St.pred (fun v' w' => w'.rangeAt w.heap.size 0 [.int .i64 0, .int .i64 1, .int .i64 s, .bool false, .int .i64 k, .bool false, .slice none 0 0]) (fun _ _ _ h q => h.fin q), St.is (Go.Value.bool false)] (by kernel_rfl) (by kernel_rfl) (TR.refl _ _ _) (TR.trans _ _ _) ⟨?s0, ?s1, ?s2, ?s3, ?s4, ?s5, ?s6, ?s7, ?s8, ?s9, ?s10, ?s11, ?s12, ?s13, ?s14, ?s15, ?s16, ?s17, ?s18, ?s19, trivial⟩ ?hfin
  case s0 =>
    intro a w' K hT hf hw hK
    refine step_free rfl ?_
    have h5 : a.tmps[5]?.getD undef = .pointer (some ⟨w1.heap.size, 0, none⟩) := hf 5 (by kernel_rfl)
    clear hf hw
    have hcell : ∀ j, w'.cell? ⟨w1.heap.size, j, none⟩ = (w1.alloc (.cells #[.int .i64 0, .int .i64 1, .int .i64 s, .bool false, .int .i64 k, .bool false, .slice none 0 0] 24)).cell? ⟨w1.heap.size, j, none⟩ := fun j => hT.cell (by simp) (Ne.symm hne)
    go_simp
    exact hK _ _ (TR.refl _ _ _ _) rfl
  case s1 =>
    intro a w' K hT hf hw hK
    refine step_free rfl ?_
    have h4 : a.tmps[4]?.getD undef = .iface 63 (.agg #[]) := hf 4 (by kernel_rfl)
    clear hf hw
    go_simp
    exact hK _ _ (TR.refl _ _ _ _) rfl
  case s2 =>
    intro a w' K hT hf hw hK
    refine step_free rfl ?_
    have h5 : a.tmps[5]?.getD undef = .pointer (some ⟨w1.heap.size, 0, none⟩) := hf 5 (by kernel_rfl)
    clear hf hw
    have hcell : ∀ j, w'.cell? ⟨w1.heap.size, j, none⟩ = (w1.alloc (.cells #[.int .i64 0, .int .i64 1, .int .i64 s, .bool false, .int .i64 k, .bool false, .slice none 0 0] 24)).cell? ⟨w1.heap.size, j, none⟩ := fun j => hT.cell (by simp) (Ne.symm hne)
    go_simp
    exact hK _ _ (TR.refl _ _ _ _) rfl
  case s3 =>
    intro a w' K hT hf hw hK
    refine step_free rfl ?_
    have h22 : a.tmps[22]?.getD undef = .iface 63 (.agg #[]) := hw.1
    have h23 : a.tmps[23]?.getD undef = .agg #[.int .i64 0, .int .i64 1, .int .i64 s, .bool false, .int .i64 k, .bool false, .slice none 0 0] := hw.2.1
    clear hf hw
    have hR : w.heap.size < w'.heap.size := by have := hT.grown.size; simp at this; omega
    go_simp
    refine (control_R _ _ _ _ _ _ _ _ HK.out.1 HK.out.2).mono ?_
    rintro e w2 ⟨rfl, hb2⟩
    exact hK _ _ (TR.of_below hR hb2) rfl
  case s4 =>
    intro a w' K hT hf hw hK
    refine step_free rfl ?_
    have h0 : a.tmps[0]?.getD undef = .int .i64 (c : Int) := hf 0 (by kernel_rfl)
    clear hf hw
    go_simp
    exact hK _ _ (TR.refl _ _ _ _) rfl
  case s5 =>
    intro a w' K hT hf hw hK
    refine step_free rfl ?_
    have h24 : a.tmps[24]?.getD undef = .int .i64 (ctlR s k) := hw.1
    have h25 : a.tmps[25]?.getD undef = .int .i64 (c : Int) := hw.2.1
    clear hf hw
    go_simp
    exact hK _ _ (TR.refl _ _ _ _) rfl
  case s6 =>
    intro a w' K hT hf hw hK
    refine step_free rfl ?_
    have h26 : a.tmps[26]?.getD undef = .bool false := hw.1
    clear hf hw
    go_simp
    exact hK _ _ (TR.refl _ _ _ _) rfl
  case s7 =>
    intro a w' K hT hf hw hK
    have hg : a.tmps[27]?.getD undef = .bool false := hw.1
    refine step_no rfl rfl (.inl hg) ?_
    exact hK _ _ (TR.refl _ _ _ _) rfl
  case s8 =>
    intro a w' K hT hf hw hK
    have hg : a.tmps[27]?.getD undef = .bool false := hw.2.1
    refine step_no rfl rfl (.inl hg) ?_
    exact hK _ _ (TR.refl _ _ _ _) rfl
  case s9 =>
    intro a w' K hT hf hw hK
    have hg : a.tmps[27]?.getD undef = .bool false := hw.2.1
    refine step_no rfl rfl (.inl hg) ?_
    exact hK _ _ (TR.refl _ _ _ _) rfl
  case s10 =>
    intro a w' K hT hf hw hK
    have hg : a.tmps[27]?.getD undef = .bool false := hw.2.2.1
    refine step_no rfl rfl (.inl hg) ?_
    exact hK _ _ (TR.refl _ _ _ _) rfl
  case s11 =>
    intro a w' K hT hf hw hK
    have hg : a.tmps[31]?.getD undef = undef := hw.1
    refine step_no rfl rfl (.inr hg) ?_
    exact hK _ _ (TR.refl _ _ _ _) rfl
  case s12 =>
    intro a w' K hT hf hw hK
    have hg : a.tmps[31]?.getD undef = undef := hw.2.1
    refine step_no rfl rfl (.inr hg) ?_
    exact hK _ _ (TR.refl _ _ _ _) rfl
  case s13 =>
    intro a w' K hT hf hw hK
    have hg : a.tmps[31]?.getD undef = undef := hw.1
    refine step_no rfl rfl (.inr hg) ?_
    exact hK _ _ (TR.refl _ _ _ _) rfl
  case s14 =>
    intro a w' K hT hf hw hK
    have hg : a.tmps[31]?.getD undef = undef := hw.2.1
    refine step_no rfl rfl (.inr hg) ?_
    exact hK _ _ (TR.refl _ _ _ _) rfl
  case s15 =>
    intro a w' K hT hf hw hK
    have hg : a.tmps[31]?.getD undef = undef := hw.2.2.1
    refine step_no rfl rfl (.inr hg) ?_
    exact hK _ _ (TR.refl _ _ _ _) rfl
  case s16 =>
    intro a w' K hT hf hw hK
    have hg : a.tmps[27]?.getD undef = .bool false := hw.2.2.1
    refine step_no rfl rfl (.inl hg) ?_
    exact hK _ _ (TR.refl _ _ _ _) rfl
  case s17 =>
    intro a w' K hT hf hw hK
    refine step_free rfl ?_
    have h27 : a.tmps[27]?.getD undef = .bool false := hw.1
    have h37 : a.tmps[37]?.getD undef = undef := hw.2.1
    clear hf hw
    go_simp
    exact hK _ _ (TR.refl _ _ _ _) rfl
  case s18 =>
    intro a w' K hT hf hw hK
    refine step_free rfl ?_
    have h2 : a.tmps[2]?.getD undef = .pointer (some ⟨w.heap.size, 0, none⟩) := hf 2 (by kernel_rfl)
    have h21 : a.tmps[21]?.getD undef = .agg #[.int .i64 0, .int .i64 1, .int .i64 s, .bool false, .int .i64 k, .bool false, .slice none 0 0] := hw.1
    exact wp_store_mid 24 _ _ rfl w.heap.size 0 #[.int .i64 0, .int .i64 1, .int .i64 s, .bool false, .int .i64 k, .bool false, .slice none 0 0] (eval_tmp a 2 h2) (eval_tmp a 21 h21) (hT.there hth) (by kernel_rfl) (by simp [Value.oneCell']) (hK _ _ (TR.store (hT.there hth) rfl).1 (TR.store (hT.there hth) rfl).2)
  case s19 =>
    intro a w' K hT hf hw hK
    refine step_free rfl ?_
    have h38 : a.tmps[38]?.getD undef = Go.Value.bool false := hw.1
    clear hf hw
    go_simp
    exact hK _ _ (TR.refl _ _ _ _) rfl
  case hfin =>
    rintro vs w' hT ⟨f0, f1, f2, f3, f4, f5, f6, f7, f8, f9, f10, f11, f12, f13, f14, f15, f16, f17, f18, f19, -⟩
    have e0 : vs 0 = .agg #[.int .i64 0, .int .i64 1, .int .i64 s, .bool false, .int .i64 k, .bool false, .slice none 0 0] := f0
    have e1 : vs 1 = .iface 63 (.agg #[]) := f1
    have e2 : vs 2 = .agg #[.int .i64 0, .int .i64 1, .int .i64 s, .bool false, .int .i64 k, .bool false, .slice none 0 0] := f2
    have e3 : vs 3 = .int .i64 (ctlR s k) := f3
    have e4 : vs 4 = .int .i64 (c : Int) := f4
    have e5 : vs 5 = .bool false := f5
    have e6 : vs 6 = .bool false := f6
    have e7 : vs 7 = undef := f7
    have e8 : vs 8 = undef := f8
    have e9 : vs 9 = undef := f9
    have e10 : vs 10 = undef := f10
    have e11 : vs 11 = undef := f11
    have e12 : vs 12 = undef := f12
    have e13 : vs 13 = undef := f13
    have e14 : vs 14 = undef := f14
    have e15 : vs 15 = undef := f15
    have e16 : vs 16 = undef := f16
    have e17 : vs 17 = Go.Value.bool false := f17
    have e19 : vs 19 = Go.Value.bool false := f19
    simp only [putsAt, Act.put, e0, e1, e2, e3, e4, e5, e6, e7, e8, e9, e10, e11, e12, e13, e14, e15, e16, e17, e19]
    simp only [List.setIfInBounds_toArray, List.set_cons_succ, List.set_cons_zero]
    clear e0 e1 e2 e3 e4 e5 e6 e7 e8 e9 e10 e11 e12 e13 e14 e15 e16 e17 e19 f0 f1 f2 f3 f4 f5 f6 f7 f8 f9 f10 f11 f12 f13 f14 f15 f16 f17 f19
    have hr : w'.rangeAt w.heap.size 0 [.int .i64 0, .int .i64 1, .int .i64 s, .bool false, .int .i64 k, .bool false, .slice none 0 0] := f18
    clear f18
    go_wp2_with fail
    refine bodyPost_ret (results_cell_tmp rfl _ _ w.heap.size 0 [.int .i64 0, .int .i64 1, .int .i64 s, .bool false, .int .i64 k, .bool false, .slice none 0 0] _ rfl hr Try.underlying24 rfl (by kernel_rfl)) rfl ⟨rfl, ?_⟩
    exact hT.below (hw1.alloc hw1.size _).drew (Nat.le_refl _) rfl

set_option maxHeartbeats 2000000 in
theorem bparse_R_co (c : Nat) (h0 : 128 ≤ c) (hc : c < 192) (hok : c < 160 ∧ c % 16 = 3) (w : World) :
    Calls Try.prog 34 #[.int .i64 (c : Int)] w
      fun e w' => e = .returned (.tuple #[.agg (blkC c).toArray, .bool (okC c)]) ∧ Below w.heap.size w w' := by
  have ho : okC c = false := by unfold okC; rw [if_neg (by omega), if_pos hc]; simp; omega
  have hbl : blkC c = [.int .i64 0, .int .i64 1, .int .i64 (c / 16 % 2 : Nat), .bool false, .int .i64 (c % 4 : Nat), .bool false, .slice none 0 0] := by unfold blkC; rw [if_neg (by omega), if_pos hc]
  rw [ho, hbl]
  clear ho hbl
  have h1 := byte_and192 c (by omega)
  rw [show c / 64 * 64 = 128 by omega] at h1
  have hq : ctlR ((c / 16 % 2 : Nat) : Int) ((c % 4 : Nat) : Int) = (128 + 16 * (c / 16 % 2) + c % 4 : Nat) := by unfold ctlR; omega
  have h01 : ((c / 16 % 2 : Nat) : Int) = 0 ∨ ((c / 16 % 2 : Nat) : Int) = 1 := by omega
  have h4 : ((c % 4 : Nat) : Int) = 0 ∨ ((c % 4 : Nat) : Int) = 1 ∨ ((c % 4 : Nat) : Int) = 2 ∨ ((c % 4 : Nat) : Int) = 3 := by omega
  have heq : (ctlR ((c / 16 % 2 : Nat) : Int) ((c % 4 : Nat) : Int) == (c : Int)) = true := by
    rw [hq, beq_iff_eq]; omega
  have hlt : decide (((c % 4 : Nat) : Int) < 3) = false := by simp; omega
  have hP : ∀ W, Calls Try.prog 96 #[.agg #[], .int .i64 (c : Int)] W fun e w' => e = .returned (.agg #[.int .i64 0, .int .i64 1, .int .i64 (c / 16 % 2 : Nat), .bool false, .int .i64 (c % 4 : Nat), .bool false, .slice none 0 0]) ∧ Below W.heap.size W w' := fun W => parse_R c (by omega) W
  clear hq hok h0 hc
  generalize hs : ((c / 16 % 2 : Nat) : Int) = s at *
  generalize hk : ((c % 4 : Nat) : Int) = k at *
  have HK := Lib.hid (And.intro h01 h4)
  clear h01 h4 hs hk
  have HP := Lib.hid hP
  clear hP
  go_enter Try.func34, Try.ntmps34
  go_wp2_with fail
  refine (HP.out _).mono ?_
  rintro e w1 ⟨rfl, hb⟩
  obtain ⟨hc1, hf1⟩ := bcell hb
  have hz : w.heap.size < w1.heap.size := by have := hb.size; simp at this; omega
  have hne : w.heap.size ≠ w1.heap.size := by omega
  go_wp2_with fail
  have hw1 : Below w.heap.size w w1 := ((Below.refl _ _).alloc (Nat.le_refl _) _).trans (hb.mono (by simp))
  have hth : (w1.alloc (.cells #[.int .i64 0, .int .i64 1, .int .i64 s, .bool false, .int .i64 k, .bool false, .slice none 0 0] 24)).drew.there w.heap.size 0 7 := by
    refine there_of_cells (cs := #[.int .i64 0, .int .i64 0, .int .i64 0, .bool false, .int .i64 0, .bool false, .slice none 0 0]) (t := 24) ?_ rfl
    show (w1.alloc _).heap[w.heap.size]? = _
    rw [Below.heap_alloc _ _ _ hz, hb.block _ (by simp)]
    exact heap_alloc_new w _
  refine wp_region_list' (T := TR w.heap.size 7 [.int .i64 0, .int .i64 1, .int .i64 s, .bool false, .int .i64 k, .bool false, .slice none 0 0]) [St.is (.agg #[.int .i64 0, .int .i64 1, .int .i64 s, .bool false, .int .i64 k, .bool false, .slice none 0 0]), St.is (.iface 63 (.agg #[])), St.is (.agg #[.int .i64 0, .int .i64 1, .int .i64 s, .bool false, .int .i64 k, .bool false, .slice none 0 0]), St.is (.int .i64 (ctlR s k)), St.is (.int .i64 (c : Int)), St.is (.bool true), St.is (.bool true), St.is (.iface 63 (.agg #[])), St.is (.int .i64 3), St.is (.bool false), St.is (.bool false), St.is (.pointer (some ⟨w1.heap.size, 4, none⟩)), St.is (.int .i64 k), St.is (.iface 63 (.agg #[])), St.is (.int .i64 3), St.is (.bool false), St.is (.bool false), St.is (.bool false), St.pred (fun v' w' => w'.rangeAt w.heap.size 0 [.int .i64 0, .int .i64 1, .int .i64 s, .bool false, .int .i64 k, .bool false, .slice none 0 0]) (fun _ _ _ h q => h.fin q), St.is (.bool false)] (by kernel_rfl) (by kernel_rfl) (TR.refl _ _ _) (TR.trans _ _ _) ⟨?s0, ?s1, ?s2, ?s3, ?s4, ?s5, ?s6, ?s7, ?s8, ?s9, ?s10, ?s11, ?s12, ?s13, ?s14, ?s15, ?s16, ?s17, ?s18, ?s19, trivial⟩ ?hfin
  case s0 =>
    intro a w' K hT hf hw hK
    refine step_free rfl ?_
    have h5 : a.tmps[5]?.getD undef = .pointer (some ⟨w1.heap.size, 0, none⟩) := hf 5 (by kernel_rfl)
    clear hf hw
    have hcell : ∀ j, w'.cell? ⟨w1.heap.size, j, none⟩ = (w1.alloc (.cells #[.int .i64 0, .int .i64 1, .int .i64 s, .bool false, .int .i64 k, .bool false, .slice none 0 0] 24)).cell? ⟨w1.heap.size, j, none⟩ := fun j => hT.cell (by simp) (Ne.symm hne)
    go_simp
    exact hK _ _ (TR.refl _ _ _ _) rfl
  case s1 =>
    intro a w' K hT hf hw hK
    refine step_free rfl ?_
    have h4 : a.tmps[4]?.getD undef = .iface 63 (.agg #[]) := hf 4 (by kernel_rfl)
    clear hf hw
    go_simp
    exact hK _ _ (TR.refl _ _ _ _) rfl
  case s2 =>
    intro a w' K hT hf hw hK
    refine step_free rfl ?_
    have h5 : a.tmps[5]?.getD undef = .pointer (some ⟨w1.heap.size, 0, none⟩) := hf 5 (by kernel_rfl)
    clear hf hw
    have hcell : ∀ j, w'.cell? ⟨w1.heap.size, j, none⟩ = (w1.alloc (.cells #[.int .i64 0, .int .i64 1, .int .i64 s, .bool false, .int .i64 k, .bool false, .slice none 0 0] 24)).cell? ⟨w1.heap.size, j, none⟩ := fun j => hT.cell (by simp) (Ne.symm hne)
    go_simp
    exact hK _ _ (TR.refl _ _ _ _) rfl
  case s3 =>
    intro a w' K hT hf hw hK
    refine step_free rfl ?_
    have h22 : a.tmps[22]?.getD undef = .iface 63 (.agg #[]) := hw.1
    have h23 : a.tmps[23]?.getD undef = .agg #[.int .i64 0, .int .i64 1, .int .i64 s, .bool false, .int .i64 k, .bool false, .slice none 0 0] := hw.2.1
    clear hf hw
    have hR : w.heap.size < w'.heap.size := by have := hT.grown.size; simp at this; omega
    go_simp
    refine (control_R _ _ _ _ _ _ _ _ HK.out.1 HK.out.2).mono ?_
    rintro e w2 ⟨rfl, hb2⟩
    exact hK _ _ (TR.of_below hR hb2) rfl
  case s4 =>
    intro a w' K hT hf hw hK
    refine step_free rfl ?_
    have h0 : a.tmps[0]?.getD undef = .int .i64 (c : Int) := hf 0 (by kernel_rfl)
    clear hf hw
    go_simp
    exact hK _ _ (TR.refl _ _ _ _) rfl
  case s5 =>
    intro a w' K hT hf hw hK
    refine step_free rfl ?_
    have h24 : a.tmps[24]?.getD undef = .int .i64 (ctlR s k) := hw.1
    have h25 : a.tmps[25]?.getD undef = .int .i64 (c : Int) := hw.2.1
    clear hf hw
    go_simp
    exact hK _ _ (TR.refl _ _ _ _) rfl
  case s6 =>
    intro a w' K hT hf hw hK
    refine step_free rfl ?_
    have h26 : a.tmps[26]?.getD undef = .bool true := hw.1
    clear hf hw
    go_simp
    exact hK _ _ (TR.refl _ _ _ _) rfl
  case s7 =>
    intro a w' K hT hf hw hK
    have hg : a.tmps[27]?.getD undef = .bool true := hw.1
    refine step_yes rfl rfl hg ?_
    clear hg
    have h4 : a.tmps[4]?.getD undef = .iface 63 (.agg #[]) := hf 4 (by kernel_rfl)
    clear hf hw
    go_simp
    exact hK _ _ (TR.refl _ _ _ _) rfl
  case s8 =>
    intro a w' K hT hf hw hK
    have hg : a.tmps[27]?.getD undef = .bool true := hw.2.1
    refine step_yes rfl rfl hg ?_
    clear hg
    have h28 : a.tmps[28]?.getD undef = .iface 63 (.agg #[]) := hw.1
    clear hf hw
    go_simp
    refine (codes_R _).mono ?_
    rintro e w2 ⟨rfl, rfl⟩
    exact hK _ _ (TR.refl _ _ _ _) rfl
  case s9 =>
    intro a w' K hT hf hw hK
    have hg : a.tmps[27]?.getD undef = .bool true := hw.2.1
    refine step_yes rfl rfl hg ?_
    clear hg
    have h29 : a.tmps[29]?.getD undef = .int .i64 3 := hw.1
    clear hf hw
    go_simp
    exact hK _ _ (TR.refl _ _ _ _) rfl
  case s10 =>
    intro a w' K hT hf hw hK
    have hg : a.tmps[27]?.getD undef = .bool true := hw.2.2.1
    refine step_yes rfl rfl hg ?_
    clear hg
    have h30 : a.tmps[30]?.getD undef = .bool false := hw.1
    clear hf hw
    go_simp
    exact hK _ _ (TR.refl _ _ _ _) rfl
  case s11 =>
    intro a w' K hT hf hw hK
    have hg : a.tmps[31]?.getD undef = .bool false := hw.1
    refine step_yes rfl rfl hg ?_
    clear hg
    have h5 : a.tmps[5]?.getD undef = .pointer (some ⟨w1.heap.size, 0, none⟩) := hf 5 (by kernel_rfl)
    clear hf hw
    go_simp
    exact hK _ _ (TR.refl _ _ _ _) rfl
  case s12 =>
    intro a w' K hT hf hw hK
    have hg : a.tmps[31]?.getD undef = .bool false := hw.2.1
    refine step_yes rfl rfl hg ?_
    clear hg
    have h32 : a.tmps[32]?.getD undef = .pointer (some ⟨w1.heap.size, 4, none⟩) := hw.1
    clear hf hw
    have hcell : ∀ j, w'.cell? ⟨w1.heap.size, j, none⟩ = (w1.alloc (.cells #[.int .i64 0, .int .i64 1, .int .i64 s, .bool false, .int .i64 k, .bool false, .slice none 0 0] 24)).cell? ⟨w1.heap.size, j, none⟩ := fun j => hT.cell (by simp) (Ne.symm hne)
    go_simp
    exact hK _ _ (TR.refl _ _ _ _) rfl
  case s13 =>
    intro a w' K hT hf hw hK
    have hg : a.tmps[31]?.getD undef = .bool false := hw.1
    refine step_yes rfl rfl hg ?_
    clear hg
    have h4 : a.tmps[4]?.getD undef = .iface 63 (.agg #[]) := hf 4 (by kernel_rfl)
    clear hf hw
    go_simp
    exact hK _ _ (TR.refl _ _ _ _) rfl
  case s14 =>
    intro a w' K hT hf hw hK
    have hg : a.tmps[31]?.getD undef = .bool false := hw.2.1
    refine step_yes rfl rfl hg ?_
    clear hg
    have h34 : a.tmps[34]?.getD undef = .iface 63 (.agg #[]) := hw.1
    clear hf hw
    go_simp
    refine (codes_R _).mono ?_
    rintro e w2 ⟨rfl, rfl⟩
    exact hK _ _ (TR.refl _ _ _ _) rfl
  case s15 =>
    intro a w' K hT hf hw hK
    have hg : a.tmps[31]?.getD undef = .bool false := hw.2.2.1
    refine step_yes rfl rfl hg ?_
    clear hg
    have h33 : a.tmps[33]?.getD undef = .int .i64 k := hw.1
    have h35 : a.tmps[35]?.getD undef = .int .i64 3 := hw.2.1
    clear hf hw
    go_simp
    exact hK _ _ (TR.refl _ _ _ _) rfl
  case s16 =>
    intro a w' K hT hf hw hK
    have hg : a.tmps[27]?.getD undef = .bool true := hw.2.2.1
    refine step_yes rfl rfl hg ?_
    clear hg
    have h31 : a.tmps[31]?.getD undef = .bool false := hw.1
    have h36 : a.tmps[36]?.getD undef = .bool false := hw.2.1
    clear hf hw
    go_simp
    exact hK _ _ (TR.refl _ _ _ _) rfl
  case s17 =>
    intro a w' K hT hf hw hK
    refine step_free rfl ?_
    have h27 : a.tmps[27]?.getD undef = .bool true := hw.1
    have h37 : a.tmps[37]?.getD undef = .bool false := hw.2.1
    clear hf hw
    go_simp
    exact hK _ _ (TR.refl _ _ _ _) rfl
  case s18 =>
    intro a w' K hT hf hw hK
    refine step_free rfl ?_
    have h2 : a.tmps[2]?.getD undef = .pointer (some ⟨w.heap.size, 0, none⟩) := hf 2 (by kernel_rfl)
    have h21 : a.tmps[21]?.getD undef = .agg #[.int .i64 0, .int .i64 1, .int .i64 s, .bool false, .int .i64 k, .bool false, .slice none 0 0] := hw.1
    exact wp_store_mid 24 _ _ rfl w.heap.size 0 #[.int .i64 0, .int .i64 1, .int .i64 s, .bool false, .int .i64 k, .bool false, .slice none 0 0] (eval_tmp a 2 h2) (eval_tmp a 21 h21) (hT.there hth) (by kernel_rfl) (by simp [Value.oneCell']) (hK _ _ (TR.store (hT.there hth) rfl).1 (TR.store (hT.there hth) rfl).2)
  case s19 =>
    intro a w' K hT hf hw hK
    refine step_free rfl ?_
    have h38 : a.tmps[38]?.getD undef = .bool false := hw.1
    clear hf hw
    go_simp
    exact hK _ _ (TR.refl _ _ _ _) rfl
  case hfin =>
    rintro vs w' hT ⟨f0, f1, f2, f3, f4, f5, f6, f7, f8, f9, f10, f11, f12, f13, f14, f15, f16, f17, f18, f19, -⟩
    have e0 : vs 0 = .agg #[.int .i64 0, .int .i64 1, .int .i64 s, .bool false, .int .i64 k, .bool false, .slice none 0 0] := f0
    have e1 : vs 1 = .iface 63 (.agg #[]) := f1
    have e2 : vs 2 = .agg #[.int .i64 0, .int .i64 1, .int .i64 s, .bool false, .int .i64 k, .bool false, .slice none 0 0] := f2
    have e3 : vs 3 = .int .i64 (ctlR s k) := f3
    have e4 : vs 4 = .int .i64 (c : Int) := f4
    have e5 : vs 5 = .bool true := f5
    have e6 : vs 6 = .bool true := f6
    have e7 : vs 7 = .iface 63 (.agg #[]) := f7
    have e8 : vs 8 = .int .i64 3 := f8
    have e9 : vs 9 = .bool false := f9
    have e10 : vs 10 = .bool false := f10
    have e11 : vs 11 = .pointer (some ⟨w1.heap.size, 4, none⟩) := f11
    have e12 : vs 12 = .int .i64 k := f12
    have e13 : vs 13 = .iface 63 (.agg #[]) := f13
    have e14 : vs 14 = .int .i64 3 := f14
    have e15 : vs 15 = .bool false := f15
    have e16 : vs 16 = .bool false := f16
    have e17 : vs 17 = .bool false := f17
    have e19 : vs 19 = .bool false := f19
    simp only [putsAt, Act.put, e0, e1, e2, e3, e4, e5, e6, e7, e8, e9, e10, e11, e12, e13, e14, e15, e16, e17, e19]
    simp only [List.setIfInBounds_toArray, List.set_cons_succ, List.set_cons_zero]
    clear e0 e1 e2 e3 e4 e5 e6 e7 e8 e9 e10 e11 e12 e13 e14 e15 e16 e17 e19 f0 f1 f2 f3 f4 f5 f6 f7 f8 f9 f10 f11 f12 f13 f14 f15 f16 f17 f19
    have hr : w'.rangeAt w.heap.size 0 [.int .i64 0, .int .i64 1, .int .i64 s, .bool false, .int .i64 k, .bool false, .slice none 0 0] := f18
    clear f18
    go_wp2_with fail
    refine bodyPost_ret (results_cell_tmp rfl _ _ w.heap.size 0 [.int .i64 0, .int .i64 1, .int .i64 s, .bool false, .int .i64 k, .bool false, .slice none 0 0] _ rfl hr Try.underlying24 rfl (by kernel_rfl)) rfl ⟨rfl, ?_⟩
    exact hT.below (hw1.alloc hw1.size _).drew (Nat.le_refl _) rfl

set_option maxHeartbeats 2000000 in
theorem bparse_S_ok (c : Nat) (h0 : 192 ≤ c) (hc : c < 256) (hok : c % 32 < 4) (w : World) :
    Calls Try.prog 34 #[.int .i64 (c : Int)] w
      fun e w' => e = .returned (.tuple #[.agg (blkC c).toArray, .bool (okC c)]) ∧ Below w.heap.size w w' := by
  have ho : okC c = true := by unfold okC; rw [if_neg (by omega), if_neg (by omega)]; simp; omega
  have hbl : blkC c = [.int .i64 0, .int .i64 2, .int .i64 0, .bool false, .int .i64 (c % 4 : Nat), .bool (decide (c / 32 % 2 = 1)), .slice none 0 0] := by unfold blkC; rw [if_neg (by omega), if_neg (by omega)]
  rw [ho, hbl]
  clear ho hbl
  have h1 := byte_and192 c hc
  rw [show c / 64 * 64 = 192 by omega] at h1
  have hq : ctlS ((c % 4 : Nat) : Int) (decide (c / 32 % 2 = 1)) = (192 + (if c / 32 % 2 = 1 then 32 else 0) + c % 4 : Nat) := by unfold ctlS; split <;> simp_all <;> omega
  have h4 : ((c % 4 : Nat) : Int) = 0 ∨ ((c % 4 : Nat) : Int) = 1 ∨ ((c % 4 : Nat) : Int) = 2 ∨ ((c % 4 : Nat) : Int) = 3 := by omega
  have heq : (ctlS ((c % 4 : Nat) : Int) (decide (c / 32 % 2 = 1)) == (c : Int)) = true := by
    rw [hq, beq_iff_eq]; split <;> omega
  have hlt : ((c % 4 : Nat) : Int) < 4 := by omega
  have hP : ∀ W, Calls Try.prog 93 #[.agg #[], .int .i64 (c : Int)] W fun e w' => e = .returned (.agg #[.int .i64 0, .int .i64 2, .int .i64 0, .bool false, .int .i64 (c % 4 : Nat), .bool (decide (c / 32 % 2 = 1)), .slice none 0 0]) ∧ Below W.heap.size W w' := fun W => parse_S c hc W
  clear hq hok h0 hc
  generalize hk : ((c % 4 : Nat) : Int) = k at *
  generalize hm : decide (c / 32 % 2 = 1) = m at *
  have HK := Lib.hid h4
  clear h4 hk hm
  have HP := Lib.hid hP
  clear hP
  go_enter Try.func34, Try.ntmps34
  go_wp2_with fail
  refine (HP.out _).mono ?_
  rintro e w1 ⟨rfl, hb⟩
  obtain ⟨hc1, hf1⟩ := bcell hb
  have hz : w.heap.size < w1.heap.size := by have := hb.size; simp at this; omega
  have hne : w.heap.size ≠ w1.heap.size := by omega
  go_wp2_with fail
  have hw1 : Below w.heap.size w w1 := ((Below.refl _ _).alloc (Nat.le_refl _) _).trans (hb.mono (by simp))
  have hth : (w1.alloc (.cells #[.int .i64 0, .int .i64 2, .int .i64 0, .bool false, .int .i64 k, .bool m, .slice none 0 0] 24)).drew.there w.heap.size 0 7 := by
    refine there_of_cells (cs := #[.int .i64 0, .int .i64 0, .int .i64 0, .bool false, .int .i64 0, .bool false, .slice none 0 0]) (t := 24) ?_ rfl
    show (w1.alloc _).heap[w.heap.size]? = _
    rw [Below.heap_alloc _ _ _ hz, hb.block _ (by simp)]
    exact heap_alloc_new w _
  refine wp_region_list' (T := TR w.heap.size 7 [.int .i64 0, .int .i64 2, .int .i64 0, .bool false, .int .i64 k, .bool m, .slice none 0 0]) [St.is (.agg #[.int .i64 0, .int .i64 2, .int .i64 0, .bool false, .int .i64 k, .bool m, .slice none 0 0]), St.is (.iface 46 (.agg #[])), St.is (.agg #[.int .i64 0, .int .i64 2, .int .i64 0, .bool false, .int .i64 k, .bool m, .slice none 0 0]), St.is (.int .i64 (ctlS k m)), St.is (.int .i64 (c : Int)), St.is (.bool true), St.is (.bool true), St.is (.iface 46 (.agg #[])), St.is (.int .i64 4), St.is (.bool false), St.is (.bool false), St.is (.pointer (some ⟨w1.heap.size, 4, none⟩)), St.is (.int .i64 k), St.is (.iface 46 (.agg #[])), St.is (.int .i64 4), St.is (.bool true), St.is (.bool true), St.is (.bool true), St.pred (fun v' w' => w'.rangeAt w.heap.size 0 [.int .i64 0, .int .i64 2, .int .i64 0, .bool false, .int .i64 k, .bool m, .slice none 0 0]) (fun _ _ _ h q => h.fin q), St.is (.bool true)] (by kernel_rfl) (by kernel_rfl) (TR.refl _ _ _) (TR.trans _ _ _) ⟨?s0, ?s1, ?s2, ?s3, ?s4, ?s5, ?s6, ?s7, ?s8, ?s9, ?s10, ?s11, ?s12, ?s13, ?s14, ?s15, ?s16, ?s17, ?s18, ?s19, trivial⟩ ?hfin
  case s0 =>
    intro a w' K hT hf hw hK
    refine step_free rfl ?_
    have h5 : a.tmps[5]?.getD undef = .pointer (some ⟨w1.heap.size, 0, none⟩) := hf 5 (by kernel_rfl)
    clear hf hw
    have hcell : ∀ j, w'.cell? ⟨w1.heap.size, j, none⟩ = (w1.alloc (.cells #[.int .i64 0, .int .i64 2, .int .i64 0, .bool false, .int .i64 k, .bool m, .slice none 0 0] 24)).cell? ⟨w1.heap.size, j, none⟩ := fun j => hT.cell (by simp) (Ne.symm hne)
    go_simp
    exact hK _ _ (TR.refl _ _ _ _) rfl
  case s1 =>
    intro a w' K hT hf hw hK
    refine step_free rfl ?_
    have h4 : a.tmps[4]?.getD undef = .iface 46 (.agg #[]) := hf 4 (by kernel_rfl)
    clear hf hw
    go_simp
    exact hK _ _ (TR.refl _ _ _ _) rfl
  case s2 =>
    intro a w' K hT hf hw hK
    refine step_free rfl ?_
    have h5 : a.tmps[5]?.getD undef = .pointer (some ⟨w1.heap.size, 0, none⟩) := hf 5 (by kernel_rfl)
    clear hf hw
    have hcell : ∀ j, w'.cell? ⟨w1.heap.size, j, none⟩ = (w1.alloc (.cells #[.int .i64 0, .int .i64 2, .int .i64 0, .bool false, .int .i64 k, .bool m, .slice none 0 0] 24)).cell? ⟨w1.heap.size, j, none⟩ := fun j => hT.cell (by simp) (Ne.symm hne)
    go_simp
    exact hK _ _ (TR.refl _ _ _ _) rfl
  case s3 =>
    intro a w' K hT hf hw hK
    refine step_free rfl ?_
    have h22 : a.tmps[22]?.getD undef = .iface 46 (.agg #[]) := hw.1
    have h23 : a.tmps[23]?.getD undef = .agg #[.int .i64 0, .int .i64 2, .int .i64 0, .bool false, .int .i64 k, .bool m, .slice none 0 0] := hw.2.1
    clear hf hw
    have hR : w.heap.size < w'.heap.size := by have := hT.grown.size; simp at this; omega
    go_simp
    refine (control_S _ _ _ _ _ _ _ _ HK.out).mono ?_
    rintro e w2 ⟨rfl, hb2⟩
    exact hK _ _ (TR.of_below hR hb2) rfl
  case s4 =>
    intro a w' K hT hf hw hK
    refine step_free rfl ?_
    have h0 : a.tmps[0]?.getD undef = .int .i64 (c : Int) := hf 0 (by kernel_rfl)
    clear hf hw
    go_simp
    exact hK _ _ (TR.refl _ _ _ _) rfl
  case s5 =>
    intro a w' K hT hf hw hK
    refine step_free rfl ?_
    have h24 : a.tmps[24]?.getD undef = .int .i64 (ctlS k m) := hw.1
    have h25 : a.tmps[25]?.getD undef = .int .i64 (c : Int) := hw.2.1
    clear hf hw
    go_simp
    exact hK _ _ (TR.refl _ _ _ _) rfl
  case s6 =>
    intro a w' K hT hf hw hK
    refine step_free rfl ?_
    have h26 : a.tmps[26]?.getD undef = .bool true := hw.1
    clear hf hw
    go_simp
    exact hK _ _ (TR.refl _ _ _ _) rfl
  case s7 =>
    intro a w' K hT hf hw hK
    have hg : a.tmps[27]?.getD undef = .bool true := hw.1
    refine step_yes rfl rfl hg ?_
    clear hg
    have h4 : a.tmps[4]?.getD undef = .iface 46 (.agg #[]) := hf 4 (by kernel_rfl)
    clear hf hw
    go_simp
    exact hK _ _ (TR.refl _ _ _ _) rfl
  case s8 =>
    intro a w' K hT hf hw hK
    have hg : a.tmps[27]?.getD undef = .bool true := hw.2.1
    refine step_yes rfl rfl hg ?_
    clear hg
    have h28 : a.tmps[28]?.getD undef = .iface 46 (.agg #[]) := hw.1
    clear hf hw
    go_simp
    refine (codes_S _).mono ?_
    rintro e w2 ⟨rfl, rfl⟩
    exact hK _ _ (TR.refl _ _ _ _) rfl
  case s9 =>
    intro a w' K hT hf hw hK
    have hg : a.tmps[27]?.getD undef = .bool true := hw.2.1
    refine step_yes rfl rfl hg ?_
    clear hg
    have h29 : a.tmps[29]?.getD undef = .int .i64 4 := hw.1
    clear hf hw
    go_simp
    exact hK _ _ (TR.refl _ _ _ _) rfl
  case s10 =>
    intro a w' K hT hf hw hK
    have hg : a.tmps[27]?.getD undef = .bool true := hw.2.2.1
    refine step_yes rfl rfl hg ?_
    clear hg
    have h30 : a.tmps[30]?.getD undef = .bool false := hw.1
    clear hf hw
    go_simp
    exact hK _ _ (TR.refl _ _ _ _) rfl
  case s11 =>
    intro a w' K hT hf hw hK
    have hg : a.tmps[31]?.getD undef = .bool false := hw.1
    refine step_yes rfl rfl hg ?_
    clear hg
    have h5 : a.tmps[5]?.getD undef = .pointer (some ⟨w1.heap.size, 0, none⟩) := hf 5 (by kernel_rfl)
    clear hf hw
    go_simp
    exact hK _ _ (TR.refl _ _ _ _) rfl
  case s12 =>
    intro a w' K hT hf hw hK
    have hg : a.tmps[31]?.getD undef = .bool false := hw.2.1
    refine step_yes rfl rfl hg ?_
    clear hg
    have h32 : a.tmps[32]?.getD undef = .pointer (some ⟨w1.heap.size, 4, none⟩) := hw.1
    clear hf hw
    have hcell : ∀ j, w'.cell? ⟨w1.heap.size, j, none⟩ = (w1.alloc (.cells #[.int .i64 0, .int .i64 2, .int .i64 0, .bool false, .int .i64 k, .bool m, .slice none 0 0] 24)).cell? ⟨w1.heap.size, j, none⟩ := fun j => hT.cell (by simp) (Ne.symm hne)
    go_simp
    exact hK _ _ (TR.refl _ _ _ _) rfl
  case s13 =>
    intro a w' K hT hf hw hK
    have hg : a.tmps[31]?.getD undef = .bool false := hw.1
    refine step_yes rfl rfl hg ?_
    clear hg
    have h4 : a.tmps[4]?.getD undef = .iface 46 (.agg #[]) := hf 4 (by kernel_rfl)
    clear hf hw
    go_simp
    exact hK _ _ (TR.refl _ _ _ _) rfl
  case s14 =>
    intro a w' K hT hf hw hK
    have hg : a.tmps[31]?.getD undef = .bool false := hw.2.1
    refine step_yes rfl rfl hg ?_
    clear hg
    have h34 : a.tmps[34]?.getD undef = .iface 46 (.agg #[]) := hw.1
    clear hf hw
    go_simp
    refine (codes_S _).mono ?_
    rintro e w2 ⟨rfl, rfl⟩
    exact hK _ _ (TR.refl _ _ _ _) rfl
  case s15 =>
    intro a w' K hT hf hw hK
    have hg : a.tmps[31]?.getD undef = .bool false := hw.2.2.1
    refine step_yes rfl rfl hg ?_
    clear hg
    have h33 : a.tmps[33]?.getD undef = .int .i64 k := hw.1
    have h35 : a.tmps[35]?.getD undef = .int .i64 4 := hw.2.1
    clear hf hw
    go_simp
    exact hK _ _ (TR.refl _ _ _ _) rfl
  case s16 =>
    intro a w' K hT hf hw hK
    have hg : a.tmps[27]?.getD undef = .bool true := hw.2.2.1
    refine step_yes rfl rfl hg ?_
    clear hg
    have h31 : a.tmps[31]?.getD undef = .bool false := hw.1
    have h36 : a.tmps[36]?.getD undef = .bool true := hw.2.1
    clear hf hw
    go_simp
    exact hK _ _ (TR.refl _ _ _ _) rfl
  case s17 =>
    intro a w' K hT hf hw hK
    refine step_free rfl ?_
    have h27 : a.tmps[27]?.getD undef = .bool true := hw.1
    have h37 : a.tmps[37]?.getD undef = .bool true := hw.2.1
    clear hf hw
    go_simp
    exact hK _ _ (TR.refl _ _ _ _) rfl
  case s18 =>
    intro a w' K hT hf hw hK
    refine step_free rfl ?_
    have h2 : a.tmps[2]?.getD undef = .pointer (some ⟨w.heap.size, 0, none⟩) := hf 2 (by kernel_rfl)
    have h21 : a.tmps[21]?.getD undef = .agg #[.int .i64 0, .int .i64 2, .int .i64 0, .bool false, .int .i64 k, .bool m, .slice none 0 0] := hw.1
    exact wp_store_mid 24 _ _ rfl w.heap.size 0 #[.int .i64 0, .int .i64 2, .int .i64 0, .bool false, .int .i64 k, .bool m, .slice none 0 0] (eval_tmp a 2 h2) (eval_tmp a 21 h21) (hT.there hth) (by kernel_rfl) (by simp [Value.oneCell']) (hK _ _ (TR.store (hT.there hth) rfl).1 (TR.store (hT.there hth) rfl).2)
  case s19 =>
    intro a w' K hT hf hw hK
    refine step_free rfl ?_
    have h38 : a.tmps[38]?.getD undef = .bool true := hw.1
    clear hf hw
    go_simp
    exact hK _ _ (TR.refl _ _ _ _) rfl
  case hfin =>
    rintro vs w' hT ⟨f0, f1, f2, f3, f4, f5, f6, f7, f8, f9, f10, f11, f12, f13, f14, f15, f16, f17, f18, f19, -⟩
    have e0 : vs 0 = .agg #[.int .i64 0, .int .i64 2, .int .i64 0, .bool false, .int .i64 k, .bool m, .slice none 0 0] := f0
    have e1 : vs 1 = .iface 46 (.agg #[]) := f1
    have e2 : vs 2 = .agg #[.int .i64 0, .int .i64 2, .int .i64 0, .bool false, .int .i64 k, .bool m, .slice none 0 0] := f2
    have e3 : vs 3 = .int .i64 (ctlS k m) := f3
    have e4 : vs 4 = .int .i64 (c : Int) := f4
    have e5 : vs 5 = .bool true := f5
    have e6 : vs 6 = .bool true := f6
    have e7 : vs 7 = .iface 46 (.agg #[]) := f7
    have e8 : vs 8 = .int .i64 4 := f8
    have e9 : vs 9 = .bool false := f9
    have e10 : vs 10 = .bool false := f10
    have e11 : vs 11 = .pointer (some ⟨w1.heap.size, 4, none⟩) := f11
    have e12 : vs 12 = .int .i64 k := f12
    have e13 : vs 13 = .iface 46 (.agg #[]) := f13
    have e14 : vs 14 = .int .i64 4 := f14
    have e15 : vs 15 = .bool true := f15
    have e16 : vs 16 = .bool true := f16
    have e17 : vs 17 = .bool true := f17
    have e19 : vs 19 = .bool true := f19
    simp only [putsAt, Act.put, e0, e1, e2, e3, e4, e5, e6, e7, e8, e9, e10, e11, e12, e13, e14, e15, e16, e17, e19]
    simp only [List.setIfInBounds_toArray, List.set_cons_succ, List.set_cons_zero]
    clear e0 e1 e2 e3 e4 e5 e6 e7 e8 e9 e10 e11 e12 e13 e14 e15 e16 e17 e19 f0 f1 f2 f3 f4 f5 f6 f7 f8 f9 f10 f11 f12 f13 f14 f15 f16 f17 f19
    have hr : w'.rangeAt w.heap.size 0 [.int .i64 0, .int .i64 2, .int .i64 0, .bool false, .int .i64 k, .bool m, .slice none 0 0] := f18
    clear f18
    go_wp2_with fail
    refine bodyPost_ret (results_cell_tmp rfl _ _ w.heap.size 0 [.int .i64 0, .int .i64 2, .int .i64 0, .bool false, .int .i64 k, .bool m, .slice none 0 0] _ rfl hr Try.underlying24 rfl (by kernel_rfl)) rfl ⟨rfl, ?_⟩
    exact hT.below (hw1.alloc hw1.size _).drew (Nat.le_refl _) rfl

set_option maxHeartbeats 2000000 in
theorem bparse_S_no (c : Nat) (h0 : 192 ≤ c) (hc : c < 256) (hok : ¬ c % 32 < 4) (w : World) :
    Calls Try.prog 34 #[.int .i64 (c : Int)] w
      fun e w' => e = .returned (.tuple #[.agg (blkC c).toArray, .bool (okC c)]) ∧ Below w.heap.size w w' := by
  have ho : okC c = false := by unfold okC; rw [if_neg (by omega), if_neg (by omega)]; simp; omega
  have hbl : blkC c = [.int .i64 0, .int .i64 2, .int .i64 0, .bool false, .int .i64 (c % 4 : Nat), .bool (decide (c / 32 % 2 = 1)), .slice none 0 0] := by unfold blkC; rw [if_neg (by omega), if_neg (by omega)]
  rw [ho, hbl]
  clear ho hbl
  have h1 := byte_and192 c hc
  rw [show c / 64 * 64 = 192 by omega] at h1
  have hq : ctlS ((c % 4 : Nat) : Int) (decide (c / 32 % 2 = 1)) = (192 + (if c / 32 % 2 = 1 then 32 else 0) + c % 4 : Nat) := by unfold ctlS; split <;> simp_all <;> omega
  have h4 : ((c % 4 : Nat) : Int) = 0 ∨ ((c % 4 : Nat) : Int) = 1 ∨ ((c % 4 : Nat) : Int) = 2 ∨ ((c % 4 : Nat) : Int) = 3 := by omega
  have heq : (ctlS ((c % 4 : Nat) : Int) (decide (c / 32 % 2 = 1)) == (c : Int)) = false := by
    rw [hq, beq_eq_false_iff_ne]; split <;> omega
  have hP : ∀ W, Calls Try.prog 93 #[.agg #[], .int .i64 (c : Int)] W fun e w' => e = .returned (.agg #[.int .i64 0, .int .i64 2, .int .i64 0, .bool false, .int .i64 (c % 4 : Nat), .bool (decide (c / 32 % 2 = 1)), .slice none 0 0]) ∧ Below W.heap.size W w' := fun W => parse_S c hc W
  clear hq hok h0 hc
  generalize hk : ((c % 4 : Nat) : Int) = k at *
  generalize hm : decide (c / 32 % 2 = 1) = m at *
  have HK := Lib.hid h4
  clear h4 hk hm
  have HP := Lib.hid hP
  clear hP
  go_enter Try.func34, Try.ntmps34
  go_wp2_with fail
  refine (HP.out _).mono ?_
  rintro e w1 ⟨rfl, hb⟩
  obtain ⟨hc1, hf1⟩ := bcell hb
  have hz : w.heap.size < w1.heap.size := by have := hb.size; simp at this; omega
  have hne : w.heap.size ≠ w1.heap.size := by omega
  go_wp2_with fail
  have hw1 : Below w.heap.size w w1 := ((Below.refl _ _).alloc (Nat.le_refl _) _).trans (hb.mono (by simp))
  have hth : (w1.alloc (.cells #[.int .i64 0, .int .i64 2, .int .i64 0, .bool false, .int .i64 k, .bool m, .slice none 0 0] 24)).drew.there w.heap.size 0 7 := by
    refine there_of_cells (cs := #[.int .i64 0, .int .i64 0, .int .i64 0, .bool false, .int .i64 0, .bool false, .slice none 0 0]) (t := 24) ?_ rfl
    show (w1.alloc _).heap[w.heap.size]? = _
    rw [Below.heap_alloc _ _ _ hz, hb.block _ (by simp)]
    exact heap_alloc_new w _
  refine wp_region_list' (T := TR w.heap.size 7 [.int .i64 0, .int .i64 2, .int .i64 0, .bool false, .int .i64 k, .bool m, .slice none 0 0]) [St.is (.agg #[.int .i64 0, .int .i64 2, .int .i64 0, .bool false, .int .i64 k, .bool m, .slice none 0 0]), St.is (.iface 46 (.agg #[])), St.is (.agg #[.int .i64 0, .int .i64 2, .int .i64 0, .bool false, .int .i64 k, .bool m, .slice none 0 0]), St.is (.int .i64 (ctlS k m)), St.is (.int .i64 (c : Int)), St.is (.bool false), St.is (.bool false), St.is undef, St.is undef, St.is undef, St.is undef, St.is undef, St.is undef, St.is undef, St.is undef, St.is undef, St.is undef, St.is (Go.Value.bool false), St.pred (fun v' w' => w'.rangeAt w.heap.size 0 [.int .i64 0, .int .i64 2, .int .i64 0, .bool false, .int .i64 k, .bool m, .slice none 0 0]) (fun _ _ _ h q => h.fin q), St.is (Go.Value.bool false)] (by kernel_rfl) (by kernel_rfl) (TR.refl _ _ _) (TR.trans _ _ _) ⟨?s0, ?s1, ?s2, ?s3, ?s4, ?s5, ?s6, ?s7, ?s8, ?s9, ?s10, ?s11, ?s12, ?s13, ?s14, ?s15, ?s16, ?s17, ?s18, ?s19, trivial⟩ ?hfin
  case s0 =>
    intro a w' K hT hf hw hK
    refine step_free rfl ?_
    have h5 : a.tmps[5]?.getD undef = .pointer (some ⟨w1.heap.size, 0, none⟩) := hf 5 (by kernel_rfl)
    clear hf hw
    have hcell : ∀ j, w'.cell? ⟨w1.heap.size, j, none⟩ = (w1.alloc (.cells #[.int .i64 0, .int .i64 2, .int .i64 0, .bool false, .int .i64 k, .bool m, .slice none 0 0] 24)).cell? ⟨w1.heap.size, j, none⟩ := fun j => hT.cell (by simp) (Ne.symm hne)
    go_simp
    exact hK _ _ (TR.refl _ _ _ _) rfl
  case s1 =>
    intro a w' K hT hf hw hK
    refine step_free rfl ?_
    have h4 : a.tmps[4]?.getD undef = .iface 46 (.agg #[]) := hf 4 (by kernel_rfl)
    clear hf hw
    go_simp
    exact hK _ _ (TR.refl _ _ _ _) rfl
  case s2 =>
    intro a w' K hT hf hw hK
    refine step_free rfl ?_
    have h5 : a.tmps[5]?.getD undef = .pointer (some ⟨w1.heap.size, 0, none⟩) := hf 5 (by kernel_rfl)
    clear hf hw
    have hcell : ∀ j, w'.cell? ⟨w1.heap.size, j, none⟩ = (w1.alloc (.cells #[.int .i64 0, .int .i64 2, .int .i64 0, .bool false, .int .i64 k, .bool m, .slice none 0 0] 24)).cell? ⟨w1.heap.size, j, none⟩ := fun j => hT.cell (by simp) (Ne.symm hne)
    go_simp
    exact hK _ _ (TR.refl _ _ _ _) rfl
  case s3 =>
    intro a w' K hT hf hw hK
    refine step_free rfl ?_
    have h22 : a.tmps[22]?.getD undef = .iface 46 (.agg #[]) := hw.1
    have h23 : a.tmps[23]?.getD undef = .agg #[.int .i64 0, .int .i64 2, .int .i64 0, .bool false, .int .i64 k, .bool m, .slice none 0 0] := hw.2.1
    clear hf hw
    have hR : w.heap.size < w'.heap.size := by have := hT.grown.size; simp at this; omega
    go_simp
    refine (control_S _ _ _ _ _ _ _ _ HK.out).mono ?_
    rintro e w2 ⟨rfl, hb2⟩
    exact hK _ _ (TR.of_below hR hb2) rfl
  case s4 =>
    intro a w' K hT hf hw hK
    refine step_free rfl ?_
    have h0 : a.tmps[0]?.getD undef = .int .i64 (c : Int) := hf 0 (by kernel_rfl)
    clear hf hw
    go_simp
    exact hK _ _ (TR.refl _ _ _ _) rfl
  case s5 =>
    intro a w' K hT hf hw hK
    refine step_free rfl ?_
    have h24 : a.tmps[24]?.getD undef = .int .i64 (ctlS k m) := hw.1
    have h25 : a.tmps[25]?.getD undef = .int .i64 (c : Int) := hw.2.1
    clear hf hw
    go_simp
    exact hK _ _ (TR.refl _ _ _ _) rfl
  case s6 =>
    intro a w' K hT hf hw hK
    refine step_free rfl ?_
    have h26 : a.tmps[26]?.getD undef = .bool false := hw.1
    clear hf hw
    go_simp
    exact hK _ _ (TR.refl _ _ _ _) rfl
  case s7 =>
    intro a w' K hT hf hw hK
    have hg : a.tmps[27]?.getD undef = .bool false := hw.1
    refine step_no rfl rfl (.inl hg) ?_
    exact hK _ _ (TR.refl _ _ _ _) rfl
  case s8 =>
    intro a w' K hT hf hw hK
    have hg : a.tmps[27]?.getD undef = .bool false := hw.2.1
    refine step_no rfl rfl (.inl hg) ?_
    exact hK _ _ (TR.refl _ _ _ _) rfl
  case s9 =>
    intro a w' K hT hf hw hK
    have hg : a.tmps[27]?.getD undef = .bool false := hw.2.1
    refine step_no rfl rfl (.inl hg) ?_
    exact hK _ _ (TR.refl _ _ _ _) rfl
  case s10 =>
    intro a w' K hT hf hw hK
    have hg : a.tmps[27]?.getD undef = .bool false := hw.2.2.1
    refine step_no rfl rfl (.inl hg) ?_
    exact hK _ _ (TR.refl _ _ _ _) rfl
  case s11 =>
    intro a w' K hT hf hw hK
    have hg : a.tmps[31]?.getD undef = undef := hw.1
    refine step_no rfl rfl (.inr hg) ?_
    exact hK _ _ (TR.refl _ _ _ _) rfl
  case s12 =>
    intro a w' K hT hf hw hK
    have hg : a.tmps[31]?.getD undef = undef := hw.2.1
    refine step_no rfl rfl (.inr hg) ?_
    exact hK _ _ (TR.refl _ _ _ _) rfl
  case s13 =>
    intro a w' K hT hf hw hK
    have hg : a.tmps[31]?.getD undef = undef := hw.1
    refine step_no rfl rfl (.inr hg) ?_
    exact hK _ _ (TR.refl _ _ _ _) rfl
  case s14 =>
    intro a w' K hT hf hw hK
    have hg : a.tmps[31]?.getD undef = undef := hw.2.1
    refine step_no rfl rfl (.inr hg) ?_
    exact hK _ _ (TR.refl _ _ _ _) rfl
  case s15 =>
    intro a w' K hT hf hw hK
    have hg : a.tmps[31]?.getD undef = undef := hw.2.2.1
    refine step_no rfl rfl (.inr hg) ?_
    exact hK _ _ (TR.refl _ _ _ _) rfl
  case s16 =>
    intro a w' K hT hf hw hK
    have hg : a.tmps[27]?.getD undef = .bool false := hw.2.2.1
    refine step_no rfl rfl (.inl hg) ?_
    exact hK _ _ (TR.refl _ _ _ _) rfl
  case s17 =>
    intro a w' K hT hf hw hK
    refine step_free rfl ?_
    have h27 : a.tmps[27]?.getD undef = .bool false := hw.1
    have h37 : a.tmps[37]?.getD undef = undef := hw.2.1
    clear hf hw
    go_simp
    exact hK _ _ (TR.refl _ _ _ _) rfl
  case s18 =>
    intro a w' K hT hf hw hK
    refine step_free rfl ?_
    have h2 : a.tmps[2]?.getD undef = .pointer (some ⟨w.heap.size, 0, none⟩) := hf 2 (by kernel_rfl)
    have h21 : a.tmps[21]?.getD undef = .agg #[.int .i64 0, .int .i64 2, .int .i64 0, .bool false, .int .i64 k, .bool m, .slice none 0 0] := hw.1
    exact wp_store_mid 24 _ _ rfl w.heap.size 0 #[.int .i64 0, .int .i64 2, .int .i64 0, .bool false, .int .i64 k, .bool m, .slice none 0 0] (eval_tmp a 2 h2) (eval_tmp a 21 h21) (hT.there hth) (by kernel_rfl) (by simp [Value.oneCell']) (hK _ _ (TR.store (hT.there hth) rfl).1 (TR.store (hT.there hth) rfl).2)
  case s19 =>
    intro a w' K hT hf hw hK
    refine step_free rfl ?_
    have h38 : a.tmps[38]?.getD undef = Go.Value.bool false := hw.1
    clear hf hw
    go_simp
    exact hK _ _ (TR.refl _ _ _ _) rfl
  case hfin =>
    rintro vs w' hT ⟨f0, f1, f2, f3, f4, f5, f6, f7, f8, f9, f10, f11, f12, f13, f14, f15, f16, f17, f18, f19, -⟩
    have e0 : vs 0 = .agg #[.int .i64 0, .int .i64 2, .int .i64 0, .bool false, .int .i64 k, .bool m, .slice none 0 0] := f0
    have e1 : vs 1 = .iface 46 (.agg #[]) := f1
    have e2 : vs 2 = .agg #[.int .i64 0, .int .i64 2, .int .i64 0, .bool false, .int .i64 k, .bool m, .slice none 0 0] := f2
    have e3 : vs 3 = .int .i64 (ctlS k m) := f3
    have e4 : vs 4 = .int .i64 (c : Int) := f4
    have e5 : vs 5 = .bool false := f5
    have e6 : vs 6 = .bool false := f6
    have e7 : vs 7 = undef := f7
    have e8 : vs 8 = undef := f8
    have e9 : vs 9 = undef := f9
    have e10 : vs 10 = undef := f10
    have e11 : vs 11 = undef := f11
    have e12 : vs 12 = undef := f12
    have e13 : vs 13 = undef := f13
    have e14 : vs 14 = undef := f14
    have e15 : vs 15 = undef := f15
    have e16 : vs 16 = undef := f16
    have e17 : vs 17 = Go.Value.bool false := f17
    have e19 : vs 19 = Go.Value.bool false := f19
    simp only [putsAt, Act.put, e0, e1, e2, e3, e4, e5, e6, e7, e8, e9, e10, e11, e12, e13, e14, e15, e16, e17, e19]
    simp only [List.setIfInBounds_toArray, List.set_cons_succ, List.set_cons_zero]
    clear e0 e1 e2 e3 e4 e5 e6 e7 e8 e9 e10 e11 e12 e13 e14 e15 e16 e17 e19 f0 f1 f2 f3 f4 f5 f6 f7 f8 f9 f10 f11 f12 f13 f14 f15 f16 f17 f19
    have hr : w'.rangeAt w.heap.size 0 [.int .i64 0, .int .i64 2, .int .i64 0, .bool false, .int .i64 k, .bool m, .slice none 0 0] := f18
    clear f18
    go_wp2_with fail
    refine bodyPost_ret (results_cell_tmp rfl _ _ w.heap.size 0 [.int .i64 0, .int .i64 2, .int .i64 0, .bool false, .int .i64 k, .bool m, .slice none 0 0] _ rfl hr Try.underlying24 rfl (by kernel_rfl)) rfl ⟨rfl, ?_⟩
    exact hT.below (hw1.alloc hw1.size _).drew (Nat.le_refl _) rfl

/-- block.parse of any byte. -/
theorem bparse_any (c : Nat) (hc : c < 256) (w : World) :
    Calls Try.prog 34 #[.int .i64 (c : Int)] w
      fun e w' => e = .returned (.tuple #[.agg (blkC c).toArray, .bool (okC c)]) ∧ Below w.heap.size w w' := by
  by_cases h1 : c < 128
  · by_cases h2 : c % 32 = 0
    · exact bparse_I_ok c h1 h2 w
    · exact bparse_I_no c h1 h2 w
  · by_cases h3 : c < 192
    · by_cases h4 : c < 160 ∧ c % 16 < 4
      · by_cases h5 : c % 16 < 3
        · exact bparse_R_ok c (by omega) h3 ⟨h4.1, h5⟩ w
        · exact bparse_R_co c (by omega) h3 (by omega) w
      · exact bparse_R_no c (by omega) h3 h4 w
    · by_cases h5 : c % 32 < 4
      · exact bparse_S_ok c (by omega) hc h5 w
      · exact bparse_S_no c (by omega) hc h5 w
end Go.Proofs.Ytpfihchdbdhbjaa
