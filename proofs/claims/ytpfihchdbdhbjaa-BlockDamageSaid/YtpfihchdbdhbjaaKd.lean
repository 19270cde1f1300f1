/- smartcardref06.kind: the walk. -/
import Derived.Test.YtpfihchdbdhbjaaD
namespace Go.Proofs.Ytpfihchdbdhbjaa
open Go.RowKit
set_option linter.unusedVariables false
def codeR (c : Nat) : Int := if c < 128 then 0 else if c < 192 then (c % 16 : Nat) else (c % 32 : Nat)
def blkR (c : Nat) : List Value := [.int .i64 0, .int .i64 (kindC c), .int .i64 (seqC c), .bool (moreC c), .int .i64 (codeR c), .bool (ansC c), .slice none 0 0]
theorem codeR_ok : ∀ c : Nat, c < 256 → okC c = true → codeR c = codeC c := by decide +kernel
theorem okC_1 : ∀ c : Nat, c < 128 → okC c = decide (c % 32 = 0) := by decide +kernel
theorem okC_2 : ∀ c : Nat, c < 192 → 128 ≤ c → okC c = (decide (c < 160) && decide (c % 16 ≤ 2)) := by decide +kernel
theorem okC_3 : ∀ c : Nat, c < 256 → 192 ≤ c → okC c = decide (c % 32 ≤ 3) := by decide +kernel
theorem range_new (w : World) (vs : List Value) (e : TypeId) : (w.alloc (.cells vs.toArray e)).rangeAt w.heap.size 0 vs := fun j v hv => by
  rw [Nat.zero_add, cell_new]
  exact hv
theorem rkind_any (c : Nat) (hc : c < 256) (w : World) :
    Calls Try.prog 37 #[.int .i64 (c : Int)] w fun e w' => e = .returned (.tuple #[.agg (blkR c).toArray, .bool (okC c)]) ∧ Below w.heap.size w w' := by
  have HR := Lib.hid (fun vs => range_new w vs 24)
  have e0 : (0 : Int) ≤ c := by omega
  by_cases h1 : c < 128
  · have e1 : (c : Int) < 128 := by omega
    have hb : blkR c = [.int .i64 0, .int .i64 0, .int .i64 ((c : Int) / 64), .bool ((c : Int) / 32 % 2 == 1), .int .i64 0, .bool false, .slice none 0 0] := by
      have d1 : decide (c / 32 % 2 = 1) = ((c : Int) / 32 % 2 == 1) := by rw [Bool.eq_iff_iff]; simp; omega
      have h2 : c < 192 := by omega
      simp [blkR, kindC, seqC, moreC, codeR, ansC, h1, h2, d1]
    have ho : okC c = ((c : Int) % 32 == 0) := by rw [okC_1 c h1, Bool.eq_iff_iff]; simp; omega
    rw [hb, ho]
    clear hb ho
    go_enter Try.func37, Try.ntmps37
    go_wp2_with fail
    exact bodyPost_ret (results_cell_tmp rfl _ _ w.heap.size 0 _ _ rfl (HR.out _) Try.underlying24 rfl (by kernel_rfl)) rfl ⟨rfl, (Below.refl _ _).alloc (Nat.le_refl _) _⟩
  have e1 : ¬ (c : Int) < 128 := by omega
  by_cases h2 : c < 192
  · have e2 : (c : Int) < 192 := by omega
    have hb : blkR c = [.int .i64 0, .int .i64 1, .int .i64 ((c : Int) / 16 % 2), .bool false, .int .i64 ((c : Int) % 16), .bool false, .slice none 0 0] := by
      simp [blkR, kindC, seqC, moreC, codeR, ansC, h1, h2]
    by_cases h3 : c < 160
    · have e3 : (c : Int) < 160 := by omega
      have ho : okC c = decide ((c : Int) % 16 ≤ 2) := by rw [okC_2 c h2 (by omega), Bool.eq_iff_iff]; simp [h3]; omega
      rw [hb, ho]
      clear hb ho
      go_enter Try.func37, Try.ntmps37
      go_wp2_with fail
      exact bodyPost_ret (results_cell_tmp rfl _ _ w.heap.size 0 _ _ rfl (HR.out _) Try.underlying24 rfl (by kernel_rfl)) rfl ⟨rfl, (Below.refl _ _).alloc (Nat.le_refl _) _⟩
    · have e3 : ¬ (c : Int) < 160 := by omega
      have ho : okC c = false := by rw [okC_2 c h2 (by omega)]; simp [h3]
      rw [hb, ho]
      clear hb ho
      go_enter Try.func37, Try.ntmps37
      go_wp2_with fail
      exact bodyPost_ret (results_cell_tmp rfl _ _ w.heap.size 0 _ _ rfl (HR.out _) Try.underlying24 rfl (by kernel_rfl)) rfl ⟨rfl, (Below.refl _ _).alloc (Nat.le_refl _) _⟩
  · have e2 : ¬ (c : Int) < 192 := by omega
    have hb : blkR c = [.int .i64 0, .int .i64 2, .int .i64 0, .bool false, .int .i64 ((c : Int) % 32), .bool (decide (224 ≤ (c : Int))), .slice none 0 0] := by
      have d1 : decide (c / 32 % 2 = 1) = decide (224 ≤ (c : Int)) := by rw [Bool.eq_iff_iff]; simp; omega
      simp [blkR, kindC, seqC, moreC, codeR, ansC, h1, h2, d1]
    have ho : okC c = decide ((c : Int) % 32 ≤ 3) := by rw [okC_3 c hc (by omega), Bool.eq_iff_iff]; simp; omega
    rw [hb, ho]
    clear hb ho
    go_enter Try.func37, Try.ntmps37
    go_wp2_with fail
    exact bodyPost_ret (results_cell_tmp rfl _ _ w.heap.size 0 _ _ rfl (HR.out _) Try.underlying24 rfl (by kernel_rfl)) rfl ⟨rfl, (Below.refl _ _).alloc (Nat.le_refl _) _⟩
end Go.Proofs.Ytpfihchdbdhbjaa
