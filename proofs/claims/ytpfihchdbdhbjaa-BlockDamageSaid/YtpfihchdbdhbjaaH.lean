/- smartcard/block.Check: the walk, path by path (printed by wip/gen/check.py). -/
import Derived.Test.YtpfihchdbdhbjaaK
namespace Go.Proofs.Ytpfihchdbdhbjaa
open Go.RowKit
set_option linter.unusedVariables false
attribute [local go_sem] ta_II ta_IR ta_IS ta_RI ta_RR ta_RS ta_SI ta_SR ta_SS ta_NI ta_NR ta_NS
theorem dec_false {p : Prop} [Decidable p] (h : ¬ p) : Hid (¬ p) := h

set_option maxHeartbeats 1000000 in
theorem check_N (nad seq kind : Int) (more : Bool) (code : Int) (answer : Bool) (A : Option Addr) (n c : Nat) (inf : List UInt8) (w : World) (hk : kind < 0 ∨ 2 < kind) :
    Calls Try.prog 10 #[.agg #[.int .i64 nad, .int .i64 kind, .int .i64 seq, .bool more, .int .i64 code, .bool answer, .slice A n c]] w
      fun e w' => e = .returned (.int .i64 (checkE nad kind seq more code answer inf)) ∧ Below w.heap.size w w' := by
  have HV : Hid (checkE nad kind seq more code answer inf = 1) := by show _ = _; unfold checkE; rw [if_pos hk]
  have h1 : (kind == 0) = false := by simp; omega
  have h2 : (kind == 1) = false := by simp; omega
  have h3 : (kind == 2) = false := by simp; omega
  clear hk
  go_enter Try.func10, Try.ntmps10
  go_wp2_with (first | (go_at_call 22; go_in) | fail)
  go_ret
  exact ⟨ret_i64 HV.out.symm, (((Below.refl _ _).alloc (Nat.le_refl _) _).alloc (by simp) _).alloc (by simp; omega) _⟩

set_option maxHeartbeats 1000000 in
theorem check_I_0 (nad seq : Int) (more : Bool) (code : Int) (answer : Bool) (A : Option Addr) (n c : Nat) (inf : List UInt8) (w : World) (h : IsB w A n c inf)
    (h_nadlo : nad < 0) :
    Calls Try.prog 10 #[.agg #[.int .i64 nad, .int .i64 0, .int .i64 seq, .bool more, .int .i64 code, .bool answer, .slice A n c]] w
      fun e w' => e = .returned (.int .i64 (checkE nad 0 seq more code answer inf)) ∧ Below w.heap.size w w' := by
  have HV : Hid (checkE nad 0 seq more code answer inf = 2) := by
    show _ = _
    unfold checkE
    simp_all <;> (try omega)
  go_enter Try.func10, Try.ntmps10
  go_wp2_with (first | (go_at_call 22; go_in) | fail)
  go_ret
  exact ⟨ret_i64 HV.out.symm, (((Below.refl _ _).alloc (Nat.le_refl _) _).alloc (by simp) _).alloc (by simp; omega) _⟩

set_option maxHeartbeats 1000000 in
theorem check_I_1 (nad seq : Int) (more : Bool) (code : Int) (answer : Bool) (A : Option Addr) (n c : Nat) (inf : List UInt8) (w : World) (h : IsB w A n c inf)
    (h_nadlo : ¬ (nad < 0)) (h_nadhi : 254 < nad) :
    Calls Try.prog 10 #[.agg #[.int .i64 nad, .int .i64 0, .int .i64 seq, .bool more, .int .i64 code, .bool answer, .slice A n c]] w
      fun e w' => e = .returned (.int .i64 (checkE nad 0 seq more code answer inf)) ∧ Below w.heap.size w w' := by
  have HV : Hid (checkE nad 0 seq more code answer inf = 2) := by
    show _ = _
    unfold checkE
    simp_all <;> (try omega)
  go_enter Try.func10, Try.ntmps10
  go_wp2_with (first | (go_at_call 22; go_in) | fail)
  go_ret
  exact ⟨ret_i64 HV.out.symm, (((Below.refl _ _).alloc (Nat.le_refl _) _).alloc (by simp) _).alloc (by simp; omega) _⟩

set_option maxHeartbeats 1000000 in
theorem check_I_2 (nad seq : Int) (more : Bool) (code : Int) (answer : Bool) (A : Option Addr) (n c : Nat) (inf : List UInt8) (w : World) (h : IsB w A n c inf)
    (h_nadlo : ¬ (nad < 0)) (h_nadhi : ¬ (254 < nad)) (h_seqlo : seq < 0) :
    Calls Try.prog 10 #[.agg #[.int .i64 nad, .int .i64 0, .int .i64 seq, .bool more, .int .i64 code, .bool answer, .slice A n c]] w
      fun e w' => e = .returned (.int .i64 (checkE nad 0 seq more code answer inf)) ∧ Below w.heap.size w w' := by
  have HV : Hid (checkE nad 0 seq more code answer inf = 2) := by
    show _ = _
    unfold checkE
    simp_all <;> (try omega)
  go_enter Try.func10, Try.ntmps10
  go_wp2_with (first | (go_at_call 22; go_in) | fail)
  go_ret
  exact ⟨ret_i64 HV.out.symm, (((Below.refl _ _).alloc (Nat.le_refl _) _).alloc (by simp) _).alloc (by simp; omega) _⟩

set_option maxHeartbeats 1000000 in
theorem check_I_3 (nad seq : Int) (more : Bool) (code : Int) (answer : Bool) (A : Option Addr) (n c : Nat) (inf : List UInt8) (w : World) (h : IsB w A n c inf)
    (h_nadlo : ¬ (nad < 0)) (h_nadhi : ¬ (254 < nad)) (h_seqlo : ¬ (seq < 0)) (h_seqhi : 1 < seq) :
    Calls Try.prog 10 #[.agg #[.int .i64 nad, .int .i64 0, .int .i64 seq, .bool more, .int .i64 code, .bool answer, .slice A n c]] w
      fun e w' => e = .returned (.int .i64 (checkE nad 0 seq more code answer inf)) ∧ Below w.heap.size w w' := by
  have HV : Hid (checkE nad 0 seq more code answer inf = 2) := by
    show _ = _
    unfold checkE
    simp_all <;> (try omega)
  go_enter Try.func10, Try.ntmps10
  go_wp2_with (first | (go_at_call 22; go_in) | fail)
  go_ret
  exact ⟨ret_i64 HV.out.symm, (((Below.refl _ _).alloc (Nat.le_refl _) _).alloc (by simp) _).alloc (by simp; omega) _⟩

set_option maxHeartbeats 1000000 in
theorem check_I_4 (nad seq : Int) (more : Bool) (code : Int) (answer : Bool) (A : Option Addr) (n c : Nat) (inf : List UInt8) (w : World) (h : IsB w A n c inf)
    (h_nadlo : ¬ (nad < 0)) (h_nadhi : ¬ (254 < nad)) (h_seqlo : ¬ (seq < 0)) (h_seqhi : ¬ (1 < seq)) (h_code0 : ¬ (code = 0)) :
    Calls Try.prog 10 #[.agg #[.int .i64 nad, .int .i64 0, .int .i64 seq, .bool more, .int .i64 code, .bool answer, .slice A n c]] w
      fun e w' => e = .returned (.int .i64 (checkE nad 0 seq more code answer inf)) ∧ Below w.heap.size w w' := by
  have HV : Hid (checkE nad 0 seq more code answer inf = 4) := by
    show _ = _
    unfold checkE
    simp_all <;> (try omega)
  have b_code0 : (code != 0) = true := by simp; omega
  go_enter Try.func10, Try.ntmps10
  go_wp2_with (first | (go_at_call 22; go_in) | fail)
  go_quiet (fail)
  go_wp2_with fail
  go_ret
  exact ⟨ret_i64 HV.out.symm, Below.drewN' ((((Below.refl _ _).alloc (Nat.le_refl _) _).alloc (by simp) _).alloc (by simp; omega) _) _⟩

set_option maxHeartbeats 1000000 in
theorem check_I_5 (nad seq : Int) (more : Bool) (code : Int) (answer : Bool) (A : Option Addr) (n c : Nat) (inf : List UInt8) (w : World) (h : IsB w A n c inf)
    (h_nadlo : ¬ (nad < 0)) (h_nadhi : ¬ (254 < nad)) (h_seqlo : ¬ (seq < 0)) (h_seqhi : ¬ (1 < seq)) (h_code0 : code = 0) (h_answer : answer = true) :
    Calls Try.prog 10 #[.agg #[.int .i64 nad, .int .i64 0, .int .i64 seq, .bool more, .int .i64 code, .bool answer, .slice A n c]] w
      fun e w' => e = .returned (.int .i64 (checkE nad 0 seq more code answer inf)) ∧ Below w.heap.size w w' := by
  have HV : Hid (checkE nad 0 seq more code answer inf = 4) := by
    show _ = _
    unfold checkE
    simp_all <;> (try omega)
  subst h_code0
  subst h_answer
  go_enter Try.func10, Try.ntmps10
  go_wp2_with (first | (go_at_call 22; go_in) | fail)
  go_quiet (fail)
  go_wp2_with fail
  go_ret
  exact ⟨ret_i64 HV.out.symm, Below.drewN' ((((Below.refl _ _).alloc (Nat.le_refl _) _).alloc (by simp) _).alloc (by simp; omega) _) _⟩

set_option maxHeartbeats 1000000 in
theorem check_I_6 (nad seq : Int) (more : Bool) (code : Int) (answer : Bool) (A : Option Addr) (n c : Nat) (inf : List UInt8) (w : World) (h : IsB w A n c inf)
    (h_nadlo : ¬ (nad < 0)) (h_nadhi : ¬ (254 < nad)) (h_seqlo : ¬ (seq < 0)) (h_seqhi : ¬ (1 < seq)) (h_code0 : code = 0) (h_answer : ¬ (answer = true)) :
    Calls Try.prog 10 #[.agg #[.int .i64 nad, .int .i64 0, .int .i64 seq, .bool more, .int .i64 code, .bool answer, .slice A n c]] w
      fun e w' => e = .returned (.int .i64 (checkE nad 0 seq more code answer inf)) ∧ Below w.heap.size w w' := by
  have HV : Hid (checkE nad 0 seq more code answer inf = infE 0 code inf) := by
    show _ = _
    unfold checkE
    simp_all <;> (try omega)
  subst h_code0
  obtain rfl : answer = false := by simpa using h_answer
  go_enter Try.func10, Try.ntmps10
  go_wp2_with (first | (go_at_call 22; go_in) | fail)
  go_quiet (fail)
  go_wp2_with fail
  refine (inf_I _ _ _ _ _ _ _ _ _ inf _ (Rd.drewN (((h.alloc _).alloc _).alloc _) _)).mono ?_
  rintro e w1 ⟨rfl, hb⟩
  go_wp2_with fail
  go_ret
  exact ⟨ret_i64 HV.out.symm, (Below.drewN' ((((Below.refl _ _).alloc (Nat.le_refl _) _).alloc (by simp) _).alloc (by simp; omega) _) _).trans (hb.mono (by simp; omega))⟩

set_option maxHeartbeats 1000000 in
theorem check_R_0 (nad seq : Int) (more : Bool) (code : Int) (answer : Bool) (A : Option Addr) (n c : Nat) (inf : List UInt8) (w : World) (h : IsB w A n c inf)
    (h_nadlo : nad < 0) :
    Calls Try.prog 10 #[.agg #[.int .i64 nad, .int .i64 1, .int .i64 seq, .bool more, .int .i64 code, .bool answer, .slice A n c]] w
      fun e w' => e = .returned (.int .i64 (checkE nad 1 seq more code answer inf)) ∧ Below w.heap.size w w' := by
  have HV : Hid (checkE nad 1 seq more code answer inf = 2) := by
    show _ = _
    unfold checkE
    simp_all <;> (try omega)
  go_enter Try.func10, Try.ntmps10
  go_wp2_with (first | (go_at_call 22; go_in) | fail)
  go_ret
  exact ⟨ret_i64 HV.out.symm, (((Below.refl _ _).alloc (Nat.le_refl _) _).alloc (by simp) _).alloc (by simp; omega) _⟩

set_option maxHeartbeats 1000000 in
theorem check_R_1 (nad seq : Int) (more : Bool) (code : Int) (answer : Bool) (A : Option Addr) (n c : Nat) (inf : List UInt8) (w : World) (h : IsB w A n c inf)
    (h_nadlo : ¬ (nad < 0)) (h_nadhi : 254 < nad) :
    Calls Try.prog 10 #[.agg #[.int .i64 nad, .int .i64 1, .int .i64 seq, .bool more, .int .i64 code, .bool answer, .slice A n c]] w
      fun e w' => e = .returned (.int .i64 (checkE nad 1 seq more code answer inf)) ∧ Below w.heap.size w w' := by
  have HV : Hid (checkE nad 1 seq more code answer inf = 2) := by
    show _ = _
    unfold checkE
    simp_all <;> (try omega)
  go_enter Try.func10, Try.ntmps10
  go_wp2_with (first | (go_at_call 22; go_in) | fail)
  go_ret
  exact ⟨ret_i64 HV.out.symm, (((Below.refl _ _).alloc (Nat.le_refl _) _).alloc (by simp) _).alloc (by simp; omega) _⟩

set_option maxHeartbeats 1000000 in
theorem check_R_2 (nad seq : Int) (more : Bool) (code : Int) (answer : Bool) (A : Option Addr) (n c : Nat) (inf : List UInt8) (w : World) (h : IsB w A n c inf)
    (h_nadlo : ¬ (nad < 0)) (h_nadhi : ¬ (254 < nad)) (h_seqlo : seq < 0) :
    Calls Try.prog 10 #[.agg #[.int .i64 nad, .int .i64 1, .int .i64 seq, .bool more, .int .i64 code, .bool answer, .slice A n c]] w
      fun e w' => e = .returned (.int .i64 (checkE nad 1 seq more code answer inf)) ∧ Below w.heap.size w w' := by
  have HV : Hid (checkE nad 1 seq more code answer inf = 2) := by
    show _ = _
    unfold checkE
    simp_all <;> (try omega)
  go_enter Try.func10, Try.ntmps10
  go_wp2_with (first | (go_at_call 22; go_in) | fail)
  go_ret
  exact ⟨ret_i64 HV.out.symm, (((Below.refl _ _).alloc (Nat.le_refl _) _).alloc (by simp) _).alloc (by simp; omega) _⟩

set_option maxHeartbeats 1000000 in
theorem check_R_3 (nad seq : Int) (more : Bool) (code : Int) (answer : Bool) (A : Option Addr) (n c : Nat) (inf : List UInt8) (w : World) (h : IsB w A n c inf)
    (h_nadlo : ¬ (nad < 0)) (h_nadhi : ¬ (254 < nad)) (h_seqlo : ¬ (seq < 0)) (h_seqhi : 1 < seq) :
    Calls Try.prog 10 #[.agg #[.int .i64 nad, .int .i64 1, .int .i64 seq, .bool more, .int .i64 code, .bool answer, .slice A n c]] w
      fun e w' => e = .returned (.int .i64 (checkE nad 1 seq more code answer inf)) ∧ Below w.heap.size w w' := by
  have HV : Hid (checkE nad 1 seq more code answer inf = 2) := by
    show _ = _
    unfold checkE
    simp_all <;> (try omega)
  go_enter Try.func10, Try.ntmps10
  go_wp2_with (first | (go_at_call 22; go_in) | fail)
  go_ret
  exact ⟨ret_i64 HV.out.symm, (((Below.refl _ _).alloc (Nat.le_refl _) _).alloc (by simp) _).alloc (by simp; omega) _⟩

set_option maxHeartbeats 1000000 in
theorem check_R_4 (nad seq : Int) (more : Bool) (code : Int) (answer : Bool) (A : Option Addr) (n c : Nat) (inf : List UInt8) (w : World) (h : IsB w A n c inf)
    (h_nadlo : ¬ (nad < 0)) (h_nadhi : ¬ (254 < nad)) (h_seqlo : ¬ (seq < 0)) (h_seqhi : ¬ (1 < seq)) (h_codelo : code < 0) :
    Calls Try.prog 10 #[.agg #[.int .i64 nad, .int .i64 1, .int .i64 seq, .bool more, .int .i64 code, .bool answer, .slice A n c]] w
      fun e w' => e = .returned (.int .i64 (checkE nad 1 seq more code answer inf)) ∧ Below w.heap.size w w' := by
  have HV : Hid (checkE nad 1 seq more code answer inf = 2) := by
    show _ = _
    unfold checkE
    simp_all <;> (try omega)
  go_enter Try.func10, Try.ntmps10
  go_wp2_with (first | (go_at_call 22; go_in) | fail)
  go_quiet (fail)
  go_wp2_with fail
  go_ret
  exact ⟨ret_i64 HV.out.symm, Below.drewN' ((((Below.refl _ _).alloc (Nat.le_refl _) _).alloc (by simp) _).alloc (by simp; omega) _) _⟩

set_option maxHeartbeats 1000000 in
theorem check_R_5 (nad seq : Int) (more : Bool) (code : Int) (answer : Bool) (A : Option Addr) (n c : Nat) (inf : List UInt8) (w : World) (h : IsB w A n c inf)
    (h_nadlo : ¬ (nad < 0)) (h_nadhi : ¬ (254 < nad)) (h_seqlo : ¬ (seq < 0)) (h_seqhi : ¬ (1 < seq)) (h_codelo : ¬ (code < 0)) (h_codehi : 3 ≤ code) :
    Calls Try.prog 10 #[.agg #[.int .i64 nad, .int .i64 1, .int .i64 seq, .bool more, .int .i64 code, .bool answer, .slice A n c]] w
      fun e w' => e = .returned (.int .i64 (checkE nad 1 seq more code answer inf)) ∧ Below w.heap.size w w' := by
  have HV : Hid (checkE nad 1 seq more code answer inf = 2) := by
    show _ = _
    unfold checkE
    simp_all <;> (try omega)
  go_enter Try.func10, Try.ntmps10
  go_wp2_with (first | (go_at_call 22; go_in) | fail)
  go_quiet ((go_at_call 23; exact Calls.quiet_of_same (codes_R _)))
  go_wp2_with fail
  go_ret
  exact ⟨ret_i64 HV.out.symm, Below.drewN' ((((Below.refl _ _).alloc (Nat.le_refl _) _).alloc (by simp) _).alloc (by simp; omega) _) _⟩

set_option maxHeartbeats 1000000 in
theorem check_R_6 (nad seq : Int) (more : Bool) (code : Int) (answer : Bool) (A : Option Addr) (n c : Nat) (inf : List UInt8) (w : World) (h : IsB w A n c inf)
    (h_nadlo : ¬ (nad < 0)) (h_nadhi : ¬ (254 < nad)) (h_seqlo : ¬ (seq < 0)) (h_seqhi : ¬ (1 < seq)) (h_codelo : ¬ (code < 0)) (h_codehi : ¬ (3 ≤ code)) (h_more : more = true) :
    Calls Try.prog 10 #[.agg #[.int .i64 nad, .int .i64 1, .int .i64 seq, .bool more, .int .i64 code, .bool answer, .slice A n c]] w
      fun e w' => e = .returned (.int .i64 (checkE nad 1 seq more code answer inf)) ∧ Below w.heap.size w w' := by
  have HV : Hid (checkE nad 1 seq more code answer inf = 4) := by
    show _ = _
    unfold checkE
    simp_all <;> (try omega)
  subst h_more
  go_enter Try.func10, Try.ntmps10
  go_wp2_with (first | (go_at_call 22; go_in) | fail)
  go_quiet ((go_at_call 23; exact Calls.quiet_of_same (codes_R _)))
  go_wp2_with fail
  go_ret
  exact ⟨ret_i64 HV.out.symm, Below.drewN' ((((Below.refl _ _).alloc (Nat.le_refl _) _).alloc (by simp) _).alloc (by simp; omega) _) _⟩

set_option maxHeartbeats 1000000 in
theorem check_R_7 (nad seq : Int) (more : Bool) (code : Int) (answer : Bool) (A : Option Addr) (n c : Nat) (inf : List UInt8) (w : World) (h : IsB w A n c inf)
    (h_nadlo : ¬ (nad < 0)) (h_nadhi : ¬ (254 < nad)) (h_seqlo : ¬ (seq < 0)) (h_seqhi : ¬ (1 < seq)) (h_codelo : ¬ (code < 0)) (h_codehi : ¬ (3 ≤ code)) (h_more : ¬ (more = true)) (h_answer : answer = true) :
    Calls Try.prog 10 #[.agg #[.int .i64 nad, .int .i64 1, .int .i64 seq, .bool more, .int .i64 code, .bool answer, .slice A n c]] w
      fun e w' => e = .returned (.int .i64 (checkE nad 1 seq more code answer inf)) ∧ Below w.heap.size w w' := by
  have HV : Hid (checkE nad 1 seq more code answer inf = 4) := by
    show _ = _
    unfold checkE
    simp_all <;> (try omega)
  obtain rfl : more = false := by simpa using h_more
  subst h_answer
  go_enter Try.func10, Try.ntmps10
  go_wp2_with (first | (go_at_call 22; go_in) | fail)
  go_quiet ((go_at_call 23; exact Calls.quiet_of_same (codes_R _)))
  go_wp2_with fail
  go_ret
  exact ⟨ret_i64 HV.out.symm, Below.drewN' ((((Below.refl _ _).alloc (Nat.le_refl _) _).alloc (by simp) _).alloc (by simp; omega) _) _⟩

set_option maxHeartbeats 1000000 in
theorem check_R_8 (nad seq : Int) (more : Bool) (code : Int) (answer : Bool) (A : Option Addr) (n c : Nat) (inf : List UInt8) (w : World) (h : IsB w A n c inf)
    (h_nadlo : ¬ (nad < 0)) (h_nadhi : ¬ (254 < nad)) (h_seqlo : ¬ (seq < 0)) (h_seqhi : ¬ (1 < seq)) (h_codelo : ¬ (code < 0)) (h_codehi : ¬ (3 ≤ code)) (h_more : ¬ (more = true)) (h_answer : ¬ (answer = true)) :
    Calls Try.prog 10 #[.agg #[.int .i64 nad, .int .i64 1, .int .i64 seq, .bool more, .int .i64 code, .bool answer, .slice A n c]] w
      fun e w' => e = .returned (.int .i64 (checkE nad 1 seq more code answer inf)) ∧ Below w.heap.size w w' := by
  have HV : Hid (checkE nad 1 seq more code answer inf = infE 1 code inf) := by
    show _ = _
    unfold checkE
    simp_all <;> (try omega)
  obtain rfl : more = false := by simpa using h_more
  obtain rfl : answer = false := by simpa using h_answer
  go_enter Try.func10, Try.ntmps10
  go_wp2_with (first | (go_at_call 22; go_in) | fail)
  go_quiet ((go_at_call 23; exact Calls.quiet_of_same (codes_R _)))
  go_wp2_with fail
  refine (inf_R _ _ _ _ _ _ _ _ _ inf _ (Rd.drewN (((h.alloc _).alloc _).alloc _) _)).mono ?_
  rintro e w1 ⟨rfl, hb⟩
  go_wp2_with fail
  go_ret
  exact ⟨ret_i64 HV.out.symm, (Below.drewN' ((((Below.refl _ _).alloc (Nat.le_refl _) _).alloc (by simp) _).alloc (by simp; omega) _) _).trans (hb.mono (by simp; omega))⟩

set_option maxHeartbeats 1000000 in
theorem check_S_0 (nad seq : Int) (more : Bool) (code : Int) (answer : Bool) (A : Option Addr) (n c : Nat) (inf : List UInt8) (w : World) (h : IsB w A n c inf)
    (h_nadlo : nad < 0) :
    Calls Try.prog 10 #[.agg #[.int .i64 nad, .int .i64 2, .int .i64 seq, .bool more, .int .i64 code, .bool answer, .slice A n c]] w
      fun e w' => e = .returned (.int .i64 (checkE nad 2 seq more code answer inf)) ∧ Below w.heap.size w w' := by
  have HV : Hid (checkE nad 2 seq more code answer inf = 2) := by
    show _ = _
    unfold checkE
    simp_all <;> (try omega)
  go_enter Try.func10, Try.ntmps10
  go_wp2_with (first | (go_at_call 22; go_in) | fail)
  go_ret
  exact ⟨ret_i64 HV.out.symm, (((Below.refl _ _).alloc (Nat.le_refl _) _).alloc (by simp) _).alloc (by simp; omega) _⟩

set_option maxHeartbeats 1000000 in
theorem check_S_1 (nad seq : Int) (more : Bool) (code : Int) (answer : Bool) (A : Option Addr) (n c : Nat) (inf : List UInt8) (w : World) (h : IsB w A n c inf)
    (h_nadlo : ¬ (nad < 0)) (h_nadhi : 254 < nad) :
    Calls Try.prog 10 #[.agg #[.int .i64 nad, .int .i64 2, .int .i64 seq, .bool more, .int .i64 code, .bool answer, .slice A n c]] w
      fun e w' => e = .returned (.int .i64 (checkE nad 2 seq more code answer inf)) ∧ Below w.heap.size w w' := by
  have HV : Hid (checkE nad 2 seq more code answer inf = 2) := by
    show _ = _
    unfold checkE
    simp_all <;> (try omega)
  go_enter Try.func10, Try.ntmps10
  go_wp2_with (first | (go_at_call 22; go_in) | fail)
  go_ret
  exact ⟨ret_i64 HV.out.symm, (((Below.refl _ _).alloc (Nat.le_refl _) _).alloc (by simp) _).alloc (by simp; omega) _⟩

set_option maxHeartbeats 1000000 in
theorem check_S_2 (nad seq : Int) (more : Bool) (code : Int) (answer : Bool) (A : Option Addr) (n c : Nat) (inf : List UInt8) (w : World) (h : IsB w A n c inf)
    (h_nadlo : ¬ (nad < 0)) (h_nadhi : ¬ (254 < nad)) (h_codelo : code < 0) :
    Calls Try.prog 10 #[.agg #[.int .i64 nad, .int .i64 2, .int .i64 seq, .bool more, .int .i64 code, .bool answer, .slice A n c]] w
      fun e w' => e = .returned (.int .i64 (checkE nad 2 seq more code answer inf)) ∧ Below w.heap.size w w' := by
  have HV : Hid (checkE nad 2 seq more code answer inf = 2) := by
    show _ = _
    unfold checkE
    simp_all <;> (try omega)
  go_enter Try.func10, Try.ntmps10
  go_wp2_with (first | (go_at_call 22; go_in) | fail)
  go_quiet (fail)
  go_wp2_with fail
  go_ret
  exact ⟨ret_i64 HV.out.symm, Below.drewN' ((((Below.refl _ _).alloc (Nat.le_refl _) _).alloc (by simp) _).alloc (by simp; omega) _) _⟩

set_option maxHeartbeats 1000000 in
theorem check_S_3 (nad seq : Int) (more : Bool) (code : Int) (answer : Bool) (A : Option Addr) (n c : Nat) (inf : List UInt8) (w : World) (h : IsB w A n c inf)
    (h_nadlo : ¬ (nad < 0)) (h_nadhi : ¬ (254 < nad)) (h_codelo : ¬ (code < 0)) (h_codehi : 4 ≤ code) :
    Calls Try.prog 10 #[.agg #[.int .i64 nad, .int .i64 2, .int .i64 seq, .bool more, .int .i64 code, .bool answer, .slice A n c]] w
      fun e w' => e = .returned (.int .i64 (checkE nad 2 seq more code answer inf)) ∧ Below w.heap.size w w' := by
  have HV : Hid (checkE nad 2 seq more code answer inf = 2) := by
    show _ = _
    unfold checkE
    simp_all <;> (try omega)
  go_enter Try.func10, Try.ntmps10
  go_wp2_with (first | (go_at_call 22; go_in) | fail)
  go_quiet ((go_at_call 23; exact Calls.quiet_of_same (codes_S _)))
  go_wp2_with fail
  go_ret
  exact ⟨ret_i64 HV.out.symm, Below.drewN' ((((Below.refl _ _).alloc (Nat.le_refl _) _).alloc (by simp) _).alloc (by simp; omega) _) _⟩

set_option maxHeartbeats 1000000 in
theorem check_S_4 (nad seq : Int) (more : Bool) (code : Int) (answer : Bool) (A : Option Addr) (n c : Nat) (inf : List UInt8) (w : World) (h : IsB w A n c inf)
    (h_nadlo : ¬ (nad < 0)) (h_nadhi : ¬ (254 < nad)) (h_codelo : ¬ (code < 0)) (h_codehi : ¬ (4 ≤ code)) (h_seq0 : ¬ (seq = 0)) :
    Calls Try.prog 10 #[.agg #[.int .i64 nad, .int .i64 2, .int .i64 seq, .bool more, .int .i64 code, .bool answer, .slice A n c]] w
      fun e w' => e = .returned (.int .i64 (checkE nad 2 seq more code answer inf)) ∧ Below w.heap.size w w' := by
  have HV : Hid (checkE nad 2 seq more code answer inf = 4) := by
    show _ = _
    unfold checkE
    simp_all <;> (try omega)
  have b_seq0 : (seq != 0) = true := by simp; omega
  go_enter Try.func10, Try.ntmps10
  go_wp2_with (first | (go_at_call 22; go_in) | fail)
  go_quiet ((go_at_call 23; exact Calls.quiet_of_same (codes_S _)))
  go_wp2_with fail
  go_ret
  exact ⟨ret_i64 HV.out.symm, Below.drewN' ((((Below.refl _ _).alloc (Nat.le_refl _) _).alloc (by simp) _).alloc (by simp; omega) _) _⟩

set_option maxHeartbeats 1000000 in
theorem check_S_5 (nad seq : Int) (more : Bool) (code : Int) (answer : Bool) (A : Option Addr) (n c : Nat) (inf : List UInt8) (w : World) (h : IsB w A n c inf)
    (h_nadlo : ¬ (nad < 0)) (h_nadhi : ¬ (254 < nad)) (h_codelo : ¬ (code < 0)) (h_codehi : ¬ (4 ≤ code)) (h_seq0 : seq = 0) (h_more : more = true) :
    Calls Try.prog 10 #[.agg #[.int .i64 nad, .int .i64 2, .int .i64 seq, .bool more, .int .i64 code, .bool answer, .slice A n c]] w
      fun e w' => e = .returned (.int .i64 (checkE nad 2 seq more code answer inf)) ∧ Below w.heap.size w w' := by
  have HV : Hid (checkE nad 2 seq more code answer inf = 4) := by
    show _ = _
    unfold checkE
    simp_all <;> (try omega)
  subst h_seq0
  subst h_more
  go_enter Try.func10, Try.ntmps10
  go_wp2_with (first | (go_at_call 22; go_in) | fail)
  go_quiet ((go_at_call 23; exact Calls.quiet_of_same (codes_S _)))
  go_wp2_with fail
  go_ret
  exact ⟨ret_i64 HV.out.symm, Below.drewN' ((((Below.refl _ _).alloc (Nat.le_refl _) _).alloc (by simp) _).alloc (by simp; omega) _) _⟩

set_option maxHeartbeats 1000000 in
theorem check_S_6 (nad seq : Int) (more : Bool) (code : Int) (answer : Bool) (A : Option Addr) (n c : Nat) (inf : List UInt8) (w : World) (h : IsB w A n c inf)
    (h_nadlo : ¬ (nad < 0)) (h_nadhi : ¬ (254 < nad)) (h_codelo : ¬ (code < 0)) (h_codehi : ¬ (4 ≤ code)) (h_seq0 : seq = 0) (h_more : ¬ (more = true)) :
    Calls Try.prog 10 #[.agg #[.int .i64 nad, .int .i64 2, .int .i64 seq, .bool more, .int .i64 code, .bool answer, .slice A n c]] w
      fun e w' => e = .returned (.int .i64 (checkE nad 2 seq more code answer inf)) ∧ Below w.heap.size w w' := by
  have HV : Hid (checkE nad 2 seq more code answer inf = infE 2 code inf) := by
    show _ = _
    unfold checkE
    simp_all <;> (try omega)
  have hlo : 0 ≤ code := by omega
  have hhi : code ≤ 3 := by omega
  subst h_seq0
  obtain rfl : more = false := by simpa using h_more
  go_enter Try.func10, Try.ntmps10
  go_wp2_with (first | (go_at_call 22; go_in) | fail)
  go_quiet ((go_at_call 23; exact Calls.quiet_of_same (codes_S _)))
  go_wp2_with fail
  refine (inf_S _ _ _ _ _ _ _ _ _ inf _ (Rd.drewN (((h.alloc _).alloc _).alloc _) _) hlo hhi).mono ?_
  rintro e w1 ⟨rfl, hb⟩
  go_wp2_with fail
  go_ret
  exact ⟨ret_i64 HV.out.symm, (Below.drewN' ((((Below.refl _ _).alloc (Nat.le_refl _) _).alloc (by simp) _).alloc (by simp; omega) _) _).trans (hb.mono (by simp; omega))⟩

/-- block.Check, whatever the block. -/
theorem check_any (nad kind seq : Int) (more : Bool) (code : Int) (answer : Bool) (A : Option Addr) (n c : Nat) (inf : List UInt8) (w : World) (h : IsB w A n c inf) :
    Calls Try.prog 10 #[.agg #[.int .i64 nad, .int .i64 kind, .int .i64 seq, .bool more, .int .i64 code, .bool answer, .slice A n c]] w
      fun e w' => e = .returned (.int .i64 (checkE nad kind seq more code answer inf)) ∧ Below w.heap.size w w' := by
  by_cases hk : kind < 0 ∨ 2 < kind
  · exact check_N nad seq kind more code answer A n c inf w hk
  have h012 : kind = 0 ∨ kind = 1 ∨ kind = 2 := by omega
  clear hk
  rcases h012 with rfl | rfl | rfl
  · by_cases h_nadlo : nad < 0
    · exact check_I_0 nad seq more code answer A n c inf w h h_nadlo
    by_cases h_nadhi : 254 < nad
    · exact check_I_1 nad seq more code answer A n c inf w h h_nadlo h_nadhi
    by_cases h_seqlo : seq < 0
    · exact check_I_2 nad seq more code answer A n c inf w h h_nadlo h_nadhi h_seqlo
    by_cases h_seqhi : 1 < seq
    · exact check_I_3 nad seq more code answer A n c inf w h h_nadlo h_nadhi h_seqlo h_seqhi
    by_cases h_code0 : code = 0
    rotate_left
    · exact check_I_4 nad seq more code answer A n c inf w h h_nadlo h_nadhi h_seqlo h_seqhi h_code0
    by_cases h_answer : answer = true
    · exact check_I_5 nad seq more code answer A n c inf w h h_nadlo h_nadhi h_seqlo h_seqhi h_code0 h_answer
    exact check_I_6 nad seq more code answer A n c inf w h h_nadlo h_nadhi h_seqlo h_seqhi h_code0 h_answer
  · by_cases h_nadlo : nad < 0
    · exact check_R_0 nad seq more code answer A n c inf w h h_nadlo
    by_cases h_nadhi : 254 < nad
    · exact check_R_1 nad seq more code answer A n c inf w h h_nadlo h_nadhi
    by_cases h_seqlo : seq < 0
    · exact check_R_2 nad seq more code answer A n c inf w h h_nadlo h_nadhi h_seqlo
    by_cases h_seqhi : 1 < seq
    · exact check_R_3 nad seq more code answer A n c inf w h h_nadlo h_nadhi h_seqlo h_seqhi
    by_cases h_codelo : code < 0
    · exact check_R_4 nad seq more code answer A n c inf w h h_nadlo h_nadhi h_seqlo h_seqhi h_codelo
    by_cases h_codehi : 3 ≤ code
    · exact check_R_5 nad seq more code answer A n c inf w h h_nadlo h_nadhi h_seqlo h_seqhi h_codelo h_codehi
    by_cases h_more : more = true
    · exact check_R_6 nad seq more code answer A n c inf w h h_nadlo h_nadhi h_seqlo h_seqhi h_codelo h_codehi h_more
    by_cases h_answer : answer = true
    · exact check_R_7 nad seq more code answer A n c inf w h h_nadlo h_nadhi h_seqlo h_seqhi h_codelo h_codehi h_more h_answer
    exact check_R_8 nad seq more code answer A n c inf w h h_nadlo h_nadhi h_seqlo h_seqhi h_codelo h_codehi h_more h_answer
  · by_cases h_nadlo : nad < 0
    · exact check_S_0 nad seq more code answer A n c inf w h h_nadlo
    by_cases h_nadhi : 254 < nad
    · exact check_S_1 nad seq more code answer A n c inf w h h_nadlo h_nadhi
    by_cases h_codelo : code < 0
    · exact check_S_2 nad seq more code answer A n c inf w h h_nadlo h_nadhi h_codelo
    by_cases h_codehi : 4 ≤ code
    · exact check_S_3 nad seq more code answer A n c inf w h h_nadlo h_nadhi h_codelo h_codehi
    by_cases h_seq0 : seq = 0
    rotate_left
    · exact check_S_4 nad seq more code answer A n c inf w h h_nadlo h_nadhi h_codelo h_codehi h_seq0
    by_cases h_more : more = true
    · exact check_S_5 nad seq more code answer A n c inf w h h_nadlo h_nadhi h_codelo h_codehi h_seq0 h_more
    exact check_S_6 nad seq more code answer A n c inf w h h_nadlo h_nadhi h_codelo h_codehi h_seq0 h_more
end Go.Proofs.Ytpfihchdbdhbjaa
