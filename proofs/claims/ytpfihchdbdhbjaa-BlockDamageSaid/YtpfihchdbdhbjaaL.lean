/- smartcard/block: the methods control and parse of the kinds; smartcardref06.control: the walks. -/
import Derived.Test.YtpfihchdbdhbjaaG
namespace Go.Proofs.Ytpfihchdbdhbjaa
open Go.RowKit
set_option linter.unusedVariables false

/-- The control byte. -/
def ctlI (seq : Int) (more : Bool) : Int := 64 * seq + (if more then 32 else 0)
def ctlR (seq code : Int) : Int := 128 + 16 * seq + code
def ctlS (code : Int) (answer : Bool) : Int := 192 + (if answer then 32 else 0) + code

theorem flag_t (n : Int) (w : World) :
    Calls Try.prog 76 #[.bool true, .int .i64 n] w fun e w' => e = .returned (.int .i64 n) ∧ w' = w := by
  go_enter Try.func76, Try.ntmps76
  go_wp2
  go_ret
  exact ⟨rfl, rfl⟩
theorem flag_f (n : Int) (w : World) :
    Calls Try.prog 76 #[.bool false, .int .i64 n] w fun e w' => e = .returned (.int .i64 0) ∧ w' = w := by
  go_enter Try.func76, Try.ntmps76
  go_wp2
  go_ret
  exact ⟨rfl, rfl⟩

set_option maxHeartbeats 1000000 in
theorem control_R (nad kind seq : Int) (more : Bool) (code : Int) (answer : Bool) (v : Value) (w : World) (hs : seq = 0 ∨ seq = 1) (hc : code = 0 ∨ code = 1 ∨ code = 2 ∨ code = 3) :
    Calls Try.prog 95 #[.agg #[], .agg #[.int .i64 nad, .int .i64 kind, .int .i64 seq, .bool more, .int .i64 code, .bool answer, v]] w
      fun e w' => e = .returned (.int .i64 (ctlR seq code)) ∧ Below w.heap.size w w' := by
  rcases hs with rfl | rfl
  all_goals
    rcases hc with rfl | rfl | rfl | rfl
  all_goals
    go_enter Try.func95, Try.ntmps95
    go_wp2
    go_ret
    exact ⟨ret_i64 (by decide +kernel), (((Below.refl _ _).alloc (Nat.le_refl _) _).alloc (by simp) _)⟩

set_option maxHeartbeats 1000000 in
theorem control_I (nad kind seq : Int) (more : Bool) (code : Int) (answer : Bool) (v : Value) (w : World) (hs : seq = 0 ∨ seq = 1) :
    Calls Try.prog 73 #[.agg #[], .agg #[.int .i64 nad, .int .i64 kind, .int .i64 seq, .bool more, .int .i64 code, .bool answer, v]] w
      fun e w' => e = .returned (.int .i64 (ctlI seq more)) ∧ Below w.heap.size w w' := by
  cases more
  · rcases hs with rfl | rfl
    all_goals
      go_enter Try.func73, Try.ntmps73
      go_wp2_with fail
      go_quiet ((go_at_call 76; exact Calls.quiet_of_same (flag_f _ _)))
      go_wp2_with fail
      go_ret
      exact ⟨ret_i64 (by decide +kernel), Below.drewN' (((Below.refl _ _).alloc (Nat.le_refl _) _).alloc (by simp) _) _⟩
  · rcases hs with rfl | rfl
    all_goals
      go_enter Try.func73, Try.ntmps73
      go_wp2_with fail
      go_quiet ((go_at_call 76; exact Calls.quiet_of_same (flag_t _ _)))
      go_wp2_with fail
      go_ret
      exact ⟨ret_i64 (by decide +kernel), Below.drewN' (((Below.refl _ _).alloc (Nat.le_refl _) _).alloc (by simp) _) _⟩

set_option maxHeartbeats 1000000 in
theorem control_S (nad kind seq : Int) (more : Bool) (code : Int) (answer : Bool) (v : Value) (w : World) (hc : code = 0 ∨ code = 1 ∨ code = 2 ∨ code = 3) :
    Calls Try.prog 92 #[.agg #[], .agg #[.int .i64 nad, .int .i64 kind, .int .i64 seq, .bool more, .int .i64 code, .bool answer, v]] w
      fun e w' => e = .returned (.int .i64 (ctlS code answer)) ∧ Below w.heap.size w w' := by
  cases answer
  · rcases hc with rfl | rfl | rfl | rfl
    all_goals
      go_enter Try.func92, Try.ntmps92
      go_wp2_with fail
      go_quiet ((go_at_call 76; exact Calls.quiet_of_same (flag_f _ _)))
      go_wp2_with fail
      go_ret
      exact ⟨ret_i64 (by decide +kernel), Below.drewN' (((Below.refl _ _).alloc (Nat.le_refl _) _).alloc (by simp) _) _⟩
  · rcases hc with rfl | rfl | rfl | rfl
    all_goals
      go_enter Try.func92, Try.ntmps92
      go_wp2_with fail
      go_quiet ((go_at_call 76; exact Calls.quiet_of_same (flag_t _ _)))
      go_wp2_with fail
      go_ret
      exact ⟨ret_i64 (by decide +kernel), Below.drewN' (((Below.refl _ _).alloc (Nat.le_refl _) _).alloc (by simp) _) _⟩

set_option maxHeartbeats 1000000 in
theorem rcontrol_I (nad seq : Int) (more : Bool) (code : Int) (answer : Bool) (v : Value) (w : World) (hs : seq = 0 ∨ seq = 1) :
    Calls Try.prog 30 #[.agg #[.int .i64 nad, .int .i64 0, .int .i64 seq, .bool more, .int .i64 code, .bool answer, v]] w
      fun e w' => e = .returned (.int .i64 (ctlI seq more)) ∧ Below w.heap.size w w' := by
  cases more
  all_goals
    rcases hs with rfl | rfl
  all_goals
    go_enter Try.func30, Try.ntmps30
    go_wp2_with fail
    go_ret
    exact ⟨ret_i64 (by decide +kernel), (Below.refl _ _).alloc (Nat.le_refl _) _⟩
set_option maxHeartbeats 1000000 in
theorem rcontrol_R (nad seq : Int) (more : Bool) (code : Int) (answer : Bool) (v : Value) (w : World) (hs : seq = 0 ∨ seq = 1) (hc : code = 0 ∨ code = 1 ∨ code = 2 ∨ code = 3) :
    Calls Try.prog 30 #[.agg #[.int .i64 nad, .int .i64 1, .int .i64 seq, .bool more, .int .i64 code, .bool answer, v]] w
      fun e w' => e = .returned (.int .i64 (ctlR seq code)) ∧ Below w.heap.size w w' := by
  rcases hs with rfl | rfl
  all_goals
    rcases hc with rfl | rfl | rfl | rfl
  all_goals
    go_enter Try.func30, Try.ntmps30
    go_wp2_with fail
    go_ret
    exact ⟨ret_i64 (by decide +kernel), (Below.refl _ _).alloc (Nat.le_refl _) _⟩
set_option maxHeartbeats 1000000 in
theorem rcontrol_S (nad seq : Int) (more : Bool) (code : Int) (answer : Bool) (v : Value) (w : World) (hc : code = 0 ∨ code = 1 ∨ code = 2 ∨ code = 3) :
    Calls Try.prog 30 #[.agg #[.int .i64 nad, .int .i64 2, .int .i64 seq, .bool more, .int .i64 code, .bool answer, v]] w
      fun e w' => e = .returned (.int .i64 (ctlS code answer)) ∧ Below w.heap.size w w' := by
  cases answer
  all_goals
    rcases hc with rfl | rfl | rfl | rfl
  all_goals
    go_enter Try.func30, Try.ntmps30
    go_wp2_with fail
    go_ret
    exact ⟨ret_i64 (by decide +kernel), (Below.refl _ _).alloc (Nat.le_refl _) _⟩
end Go.Proofs.Ytpfihchdbdhbjaa
