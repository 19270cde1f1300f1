/- smartcard/block.Same and smartcardref06.Same: the walks (printed by wip/gen/same.py). -/
import Derived.Test.YtpfihchdbdhbjaaR
import Derived.Test.YtpfihchdbdhbjaaE
namespace Go.Proofs.Ytpfihchdbdhbjaa
open Go.RowKit
set_option linter.unusedVariables false
def sameBl (nad kind seq : Int) (more : Bool) (code : Int) (answer : Bool) (inf : List UInt8) (nad' kind' seq' : Int) (more' : Bool) (code' : Int) (answer' : Bool) (inf' : List UInt8) : Bool :=
  decide (nad = nad' ∧ kind = kind' ∧ seq = seq' ∧ more = more' ∧ code = code' ∧ answer = answer' ∧ inf = inf')
section
variable (nad kind seq : Int) (more : Bool) (code : Int) (answer : Bool) (A : Option Addr) (n c : Nat) (inf : List UInt8) (nad' kind' seq' : Int) (more' : Bool) (code' : Int) (answer' : Bool) (A' : Option Addr) (n' c' : Nat) (inf' : List UInt8) (w : World)
set_option maxHeartbeats 800000 in
theorem bsame_any (h : IsB w A n c inf) (h' : IsB w A' n' c' inf') : Calls Try.prog 19 #[.agg #[.int .i64 nad, .int .i64 kind, .int .i64 seq, .bool more, .int .i64 code, .bool answer, .slice A n c], .agg #[.int .i64 nad', .int .i64 kind', .int .i64 seq', .bool more', .int .i64 code', .bool answer', .slice A' n' c']] w
    fun e w' => e = .returned (.bool (sameBl nad kind seq more code answer inf nad' kind' seq' more' code' answer' inf')) ∧ Below w.heap.size w w' := by
  have H := Lib.hid (And.intro h h')
  have HB : Hid (Below w.heap.size w ((w.alloc (.cells #[.int .i64 nad, .int .i64 kind, .int .i64 seq, .bool more, .int .i64 code, .bool answer, .slice A n c] 24)).alloc (.cells #[.int .i64 nad', .int .i64 kind', .int .i64 seq', .bool more', .int .i64 code', .bool answer', .slice A' n' c'] 24))) := ((Below.refl _ _).alloc (Nat.le_refl _) _).alloc (by simp) _
  clear h h'
  by_cases e0 : nad = nad'
  case neg =>
    have hs : sameBl nad kind seq more code answer inf nad' kind' seq' more' code' answer' inf' = false := by unfold sameBl; exact decide_eq_false (by simp [e0])
    have ef : (nad == nad') = false := by simpa using e0
    rw [hs]
    clear hs e0
    go_enter Try.func19, Try.ntmps19
    go_wp2_with fail
    go_ret
    exact ⟨rfl, HB.out⟩
  subst e0
  by_cases e1 : kind = kind'
  case neg =>
    have hs : sameBl nad kind seq more code answer inf nad kind' seq' more' code' answer' inf' = false := by unfold sameBl; exact decide_eq_false (by simp [e1])
    have ef : (kind == kind') = false := by simpa using e1
    rw [hs]
    clear hs e1
    go_enter Try.func19, Try.ntmps19
    go_wp2_with fail
    go_ret
    exact ⟨rfl, HB.out⟩
  subst e1
  by_cases e2 : seq = seq'
  case neg =>
    have hs : sameBl nad kind seq more code answer inf nad kind seq' more' code' answer' inf' = false := by unfold sameBl; exact decide_eq_false (by simp [e2])
    have ef : (seq == seq') = false := by simpa using e2
    rw [hs]
    clear hs e2
    go_enter Try.func19, Try.ntmps19
    go_wp2_with fail
    go_ret
    exact ⟨rfl, HB.out⟩
  subst e2
  by_cases e3 : more = more'
  case neg =>
    have hs : sameBl nad kind seq more code answer inf nad kind seq more' code' answer' inf' = false := by unfold sameBl; exact decide_eq_false (by simp [e3])
    have ef : (more == more') = false := by simpa using e3
    rw [hs]
    clear hs e3
    go_enter Try.func19, Try.ntmps19
    go_wp2_with fail
    go_ret
    exact ⟨rfl, HB.out⟩
  subst e3
  by_cases e4 : code = code'
  case neg =>
    have hs : sameBl nad kind seq more code answer inf nad kind seq more code' answer' inf' = false := by unfold sameBl; exact decide_eq_false (by simp [e4])
    have ef : (code == code') = false := by simpa using e4
    rw [hs]
    clear hs e4
    go_enter Try.func19, Try.ntmps19
    go_wp2_with fail
    go_ret
    exact ⟨rfl, HB.out⟩
  subst e4
  by_cases e5 : answer = answer'
  case neg =>
    have hs : sameBl nad kind seq more code answer inf nad kind seq more code answer' inf' = false := by unfold sameBl; exact decide_eq_false (by simp [e5])
    have ef : (answer == answer') = false := by simpa using e5
    rw [hs]
    clear hs e5
    go_enter Try.func19, Try.ntmps19
    go_wp2_with fail
    go_ret
    exact ⟨rfl, HB.out⟩
  subst e5
  have hs : sameBl nad kind seq more code answer inf nad kind seq more code answer inf' = decide (inf = inf') := by unfold sameBl; simp
  rw [hs]
  clear hs
  go_enter Try.func19, Try.ntmps19
  go_wp2_with fail
  refine (equal_any A n c inf A' n' c' inf' _ (Rd.alloc (Rd.alloc H.out.1 _) _) (Rd.alloc (Rd.alloc H.out.2 _) _)).mono ?_
  rintro e w3 ⟨rfl, rfl⟩
  go_wp2_with fail
  go_ret
  exact ⟨rfl, HB.out⟩
set_option maxHeartbeats 800000 in
theorem rsame_any (h : IsB w A n c inf) (h' : IsB w A' n' c' inf') : Calls Try.prog 18 #[.agg #[.int .i64 nad, .int .i64 kind, .int .i64 seq, .bool more, .int .i64 code, .bool answer, .slice A n c], .agg #[.int .i64 nad', .int .i64 kind', .int .i64 seq', .bool more', .int .i64 code', .bool answer', .slice A' n' c']] w
    fun e w' => e = .returned (.bool (sameBl nad kind seq more code answer inf nad' kind' seq' more' code' answer' inf')) ∧ Below w.heap.size w w' := by
  have H := Lib.hid (And.intro h h')
  have HB : Hid (Below w.heap.size w ((w.alloc (.cells #[.int .i64 nad, .int .i64 kind, .int .i64 seq, .bool more, .int .i64 code, .bool answer, .slice A n c] 24)).alloc (.cells #[.int .i64 nad', .int .i64 kind', .int .i64 seq', .bool more', .int .i64 code', .bool answer', .slice A' n' c'] 24))) := ((Below.refl _ _).alloc (Nat.le_refl _) _).alloc (by simp) _
  clear h h'
  by_cases e0 : nad = nad'
  case neg =>
    have hs : sameBl nad kind seq more code answer inf nad' kind' seq' more' code' answer' inf' = false := by unfold sameBl; exact decide_eq_false (by simp [e0])
    have ef : (nad == nad') = false := by simpa using e0
    rw [hs]
    clear hs e0
    go_enter Try.func18, Try.ntmps18
    go_wp2_with fail
    go_ret
    exact ⟨rfl, HB.out⟩
  subst e0
  by_cases e1 : kind = kind'
  case neg =>
    have hs : sameBl nad kind seq more code answer inf nad kind' seq' more' code' answer' inf' = false := by unfold sameBl; exact decide_eq_false (by simp [e1])
    have ef : (kind == kind') = false := by simpa using e1
    rw [hs]
    clear hs e1
    go_enter Try.func18, Try.ntmps18
    go_wp2_with fail
    go_ret
    exact ⟨rfl, HB.out⟩
  subst e1
  by_cases e2 : seq = seq'
  case neg =>
    have hs : sameBl nad kind seq more code answer inf nad kind seq' more' code' answer' inf' = false := by unfold sameBl; exact decide_eq_false (by simp [e2])
    have ef : (seq == seq') = false := by simpa using e2
    rw [hs]
    clear hs e2
    go_enter Try.func18, Try.ntmps18
    go_wp2_with fail
    go_ret
    exact ⟨rfl, HB.out⟩
  subst e2
  by_cases e3 : more = more'
  case neg =>
    have hs : sameBl nad kind seq more code answer inf nad kind seq more' code' answer' inf' = false := by unfold sameBl; exact decide_eq_false (by simp [e3])
    have ef : (more == more') = false := by simpa using e3
    rw [hs]
    clear hs e3
    go_enter Try.func18, Try.ntmps18
    go_wp2_with fail
    go_ret
    exact ⟨rfl, HB.out⟩
  subst e3
  by_cases e4 : code = code'
  case neg =>
    have hs : sameBl nad kind seq more code answer inf nad kind seq more code' answer' inf' = false := by unfold sameBl; exact decide_eq_false (by simp [e4])
    have ef : (code == code') = false := by simpa using e4
    rw [hs]
    clear hs e4
    go_enter Try.func18, Try.ntmps18
    go_wp2_with fail
    go_ret
    exact ⟨rfl, HB.out⟩
  subst e4
  by_cases e5 : answer = answer'
  case neg =>
    have hs : sameBl nad kind seq more code answer inf nad kind seq more code answer' inf' = false := by unfold sameBl; exact decide_eq_false (by simp [e5])
    have ef : (answer == answer') = false := by simpa using e5
    rw [hs]
    clear hs e5
    go_enter Try.func18, Try.ntmps18
    go_wp2_with fail
    go_ret
    exact ⟨rfl, HB.out⟩
  subst e5
  have hs : sameBl nad kind seq more code answer inf nad kind seq more code answer inf' = decide (inf = inf') := by unfold sameBl; simp
  rw [hs]
  clear hs
  go_enter Try.func18, Try.ntmps18
  go_wp2_with fail
  refine (same_any A n c inf A' n' c' inf' _ (Rd.alloc (Rd.alloc H.out.1 _) _) (Rd.alloc (Rd.alloc H.out.2 _) _)).mono ?_
  rintro e w3 ⟨rfl, hb⟩
  go_wp2_with fail
  go_ret
  exact ⟨rfl, HB.out.trans (hb.mono (by simp; omega))⟩
end
end Go.Proofs.Ytpfihchdbdhbjaa
