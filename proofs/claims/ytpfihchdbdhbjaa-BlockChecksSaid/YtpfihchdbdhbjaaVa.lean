/- smartcardlaw06.BlockChecks: the walk (printed by wip/gen/lawchecks.py). -/
import Derived.Test.YtpfihchdbdhbjaaU
import Derived.Test.YtpfihchdbdhbjaaW
namespace Go.Proofs.Ytpfihchdbdhbjaa
open Go.RowKit
set_option linter.unusedVariables false

set_option maxRecDepth 8000 in
set_option maxHeartbeats 800000 in
theorem walk_checks (nad kind seq : Int) (more : Bool) (code : Int) (answer : Bool) (A : Option Addr) (n c : Nat) (inf : List UInt8) (w : World) (h : IsB w A n c inf) :
    Calls Try.prog 3 #[.agg #[.int .i64 nad, .int .i64 kind, .int .i64 seq, .bool more, .int .i64 code, .bool answer, .slice A n c]] w fun e w' => e = .returned (.bool true) ∧ Below w.heap.size w w' := by
  have hcell : ∀ j v, [.int .i64 nad, .int .i64 kind, .int .i64 seq, .bool more, .int .i64 code, .bool answer, .slice A n c][j]? = some v → (w.alloc (.cells #[.int .i64 nad, .int .i64 kind, .int .i64 seq, .bool more, .int .i64 code, .bool answer, .slice A n c] 24)).cell? ⟨w.heap.size, j, none⟩ = some v := fun j v hv => (cell_new w _ _ j).trans hv
  have HI := Lib.hid (Rd.alloc h (.cells #[.int .i64 nad, .int .i64 kind, .int .i64 seq, .bool more, .int .i64 code, .bool answer, .slice A n c] 24))
  have HCL := Lib.hid hcell
  generalize hE : checkE nad kind seq more code answer inf = er
  have HE := Lib.hid hE
  clear h hcell hE
  go_enter Try.func3, Try.ntmps3
  go_wp2_with fail
  refine wp_region_list' (T := Below (w.alloc (.cells #[.int .i64 nad, .int .i64 kind, .int .i64 seq, .bool more, .int .i64 code, .bool answer, .slice A n c] 24)).heap.size) [St.is (.agg #[.int .i64 nad, .int .i64 kind, .int .i64 seq, .bool more, .int .i64 code, .bool answer, .slice A n c]), St.is (.int .i64 er), St.is (.agg #[.int .i64 nad, .int .i64 kind, .int .i64 seq, .bool more, .int .i64 code, .bool answer, .slice A n c]), St.is (.int .i64 er), St.is (.bool true), St.is (.bool true), St.is (.bool true), St.is (.bool true), St.is (.bool true)] (by kernel_rfl) (by kernel_rfl) (Below.refl _) ((fun _ _ _ h k => Below.trans h k)) ⟨?s0, ?s1, ?s2, ?s3, ?s4, ?s5, ?s6, ?s7, ?s8, trivial⟩ ?hfin
  case s0 =>
    intro a w' K hT hf hw hK
    refine step_free ?_ ?_
    · rfl
    have h1 : a.tmps[1]?.getD undef = .pointer (some ⟨w.heap.size, 0, none⟩) := hf 1 (by kernel_rfl)
    clear hf hw
    have hbx := hT
    have hc0 := (hT.cell (p := ⟨w.heap.size, 0, none⟩) (by simp)).trans (HCL.out 0 _ rfl)
    have hc1 := (hT.cell (p := ⟨w.heap.size, 1, none⟩) (by simp)).trans (HCL.out 1 _ rfl)
    have hc2 := (hT.cell (p := ⟨w.heap.size, 2, none⟩) (by simp)).trans (HCL.out 2 _ rfl)
    have hc3 := (hT.cell (p := ⟨w.heap.size, 3, none⟩) (by simp)).trans (HCL.out 3 _ rfl)
    have hc4 := (hT.cell (p := ⟨w.heap.size, 4, none⟩) (by simp)).trans (HCL.out 4 _ rfl)
    have hc5 := (hT.cell (p := ⟨w.heap.size, 5, none⟩) (by simp)).trans (HCL.out 5 _ rfl)
    have hc6 := (hT.cell (p := ⟨w.heap.size, 6, none⟩) (by simp)).trans (HCL.out 6 _ rfl)
    clear hbx
    go_simp
    exact hK _ _ (Below.refl _ _) rfl
  case s1 =>
    intro a w' K hT hf hw hK
    refine step_free ?_ ?_
    · rfl
    have h3 : a.tmps[3]?.getD undef = .agg #[.int .i64 nad, .int .i64 kind, .int .i64 seq, .bool more, .int .i64 code, .bool answer, .slice A n c] := hw.1
    clear hf hw
    go_simp
    refine (check_any nad kind seq more code answer A n c inf _ (Rd.below (Rd.drew HI.out) hT)).mono ?_
    rintro e w2 ⟨rfl, hb⟩
    rw [HE.out]
    exact hK _ _ (hb.mono hT.size) rfl
  case s2 =>
    intro a w' K hT hf hw hK
    refine step_free ?_ ?_
    · rfl
    have h1 : a.tmps[1]?.getD undef = .pointer (some ⟨w.heap.size, 0, none⟩) := hf 1 (by kernel_rfl)
    clear hf hw
    have hbx := hT
    have hc0 := (hT.cell (p := ⟨w.heap.size, 0, none⟩) (by simp)).trans (HCL.out 0 _ rfl)
    have hc1 := (hT.cell (p := ⟨w.heap.size, 1, none⟩) (by simp)).trans (HCL.out 1 _ rfl)
    have hc2 := (hT.cell (p := ⟨w.heap.size, 2, none⟩) (by simp)).trans (HCL.out 2 _ rfl)
    have hc3 := (hT.cell (p := ⟨w.heap.size, 3, none⟩) (by simp)).trans (HCL.out 3 _ rfl)
    have hc4 := (hT.cell (p := ⟨w.heap.size, 4, none⟩) (by simp)).trans (HCL.out 4 _ rfl)
    have hc5 := (hT.cell (p := ⟨w.heap.size, 5, none⟩) (by simp)).trans (HCL.out 5 _ rfl)
    have hc6 := (hT.cell (p := ⟨w.heap.size, 6, none⟩) (by simp)).trans (HCL.out 6 _ rfl)
    clear hbx
    go_simp
    exact hK _ _ (Below.refl _ _) rfl
  case s3 =>
    intro a w' K hT hf hw hK
    refine step_free ?_ ?_
    · rfl
    have h5 : a.tmps[5]?.getD undef = .agg #[.int .i64 nad, .int .i64 kind, .int .i64 seq, .bool more, .int .i64 code, .bool answer, .slice A n c] := hw.1
    clear hf hw
    go_simp
    refine (rcheck_any nad kind seq more code answer A n c inf _ (Rd.below (Rd.drew HI.out) hT)).mono ?_
    rintro e w2 ⟨rfl, hb⟩
    rw [HE.out]
    exact hK _ _ (hb.mono hT.size) rfl
  case s4 =>
    intro a w' K hT hf hw hK
    refine step_free ?_ ?_
    · rfl
    have h4 : a.tmps[4]?.getD undef = .int .i64 er := hw.1
    have h6 : a.tmps[6]?.getD undef = .int .i64 er := hw.2.1
    clear hf hw
    have hee : (er == er) = true := by simp
    go_simp
    exact hK _ _ (Below.refl _ _) rfl
  case s5 =>
    intro a w' K hT hf hw hK
    refine step_free ?_ ?_
    · rfl
    have h7 : a.tmps[7]?.getD undef = .bool true := hw.1
    clear hf hw
    go_simp
    exact hK _ _ (Below.refl _ _) rfl
  case s6 =>
    intro a w' K hT hf hw hK
    have hg : a.tmps[8]?.getD undef = .bool true := hw.1
    refine step_yes rfl rfl hg ?_
    clear hg
    clear hf hw
    go_simp
    refine (awake_any _).mono ?_
    rintro e w2 ⟨rfl, hb⟩
    exact hK _ _ (hb.mono hT.size) rfl
  case s7 =>
    intro a w' K hT hf hw hK
    refine step_free ?_ ?_
    · rfl
    have h8 : a.tmps[8]?.getD undef = .bool true := hw.1
    have h9 : a.tmps[9]?.getD undef = .bool true := hw.2.1
    clear hf hw
    go_simp
    exact hK _ _ (Below.refl _ _) rfl
  case s8 =>
    intro a w' K hT hf hw hK
    refine step_free ?_ ?_
    · rfl
    have h10 : a.tmps[10]?.getD undef = .bool true := hw.1
    clear hf hw
    go_simp
    exact hK _ _ (Below.refl _ _) rfl
  case hfin =>
    rintro vs w' hT ⟨f0, f1, f2, f3, f4, f5, f6, f7, f8, -⟩
    have e0 : vs 0 = .agg #[.int .i64 nad, .int .i64 kind, .int .i64 seq, .bool more, .int .i64 code, .bool answer, .slice A n c] := f0
    have e1 : vs 1 = .int .i64 er := f1
    have e2 : vs 2 = .agg #[.int .i64 nad, .int .i64 kind, .int .i64 seq, .bool more, .int .i64 code, .bool answer, .slice A n c] := f2
    have e3 : vs 3 = .int .i64 er := f3
    have e4 : vs 4 = .bool true := f4
    have e5 : vs 5 = .bool true := f5
    have e6 : vs 6 = .bool true := f6
    have e7 : vs 7 = .bool true := f7
    have e8 : vs 8 = .bool true := f8
    simp only [putsAt, Act.put, e0, e1, e2, e3, e4, e5, e6, e7, e8]
    simp only [List.setIfInBounds_toArray, List.set_cons_succ, List.set_cons_zero]
    clear e0 e1 e2 e3 e4 e5 e6 e7 e8 f0 f1 f2 f3 f4 f5 f6 f7 f8
    go_wp2_with fail
    go_ret
    exact ⟨rfl, Below.trans ((Below.refl w.heap.size w).alloc (Nat.le_refl _) _).drew (hT.mono (by simp))⟩
end Go.Proofs.Ytpfihchdbdhbjaa
