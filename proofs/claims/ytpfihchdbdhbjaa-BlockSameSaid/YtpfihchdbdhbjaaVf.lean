/- smartcardlaw06.BlockSame: the walk (printed by wip/gen/lawsame.py). -/
import Derived.Test.YtpfihchdbdhbjaaU
import Derived.Test.YtpfihchdbdhbjaaW
import Derived.Test.YtpfihchdbdhbjaaI
namespace Go.Proofs.Ytpfihchdbdhbjaa
open Go.RowKit
set_option linter.unusedVariables false
section
variable (nad kind seq : Int) (more : Bool) (code : Int) (answer : Bool) (A : Option Addr) (n c : Nat) (inf : List UInt8) (nad' kind' seq' : Int) (more' : Bool) (code' : Int) (answer' : Bool) (A' : Option Addr) (n' c' : Nat) (inf' : List UInt8) (w : World)
theorem sameBl_comm : sameBl nad' kind' seq' more' code' answer' inf' nad kind seq more code answer inf = sameBl nad kind seq more code answer inf nad' kind' seq' more' code' answer' inf' := by
  unfold sameBl
  exact decide_eq_decide.2 ⟨fun h => ⟨h.1.symm, h.2.1.symm, h.2.2.1.symm, h.2.2.2.1.symm, h.2.2.2.2.1.symm, h.2.2.2.2.2.1.symm, h.2.2.2.2.2.2.symm⟩, fun h => ⟨h.1.symm, h.2.1.symm, h.2.2.1.symm, h.2.2.2.1.symm, h.2.2.2.2.1.symm, h.2.2.2.2.2.1.symm, h.2.2.2.2.2.2.symm⟩⟩
theorem sameBl_self : sameBl nad kind seq more code answer inf nad kind seq more code answer inf = true := by
  unfold sameBl; simp
set_option maxRecDepth 8000 in
set_option maxHeartbeats 2000000 in
theorem walk_same (h : IsB w A n c inf) (h' : IsB w A' n' c' inf') :
    Calls Try.prog 8 #[.agg #[.int .i64 nad, .int .i64 kind, .int .i64 seq, .bool more, .int .i64 code, .bool answer, .slice A n c], .agg #[.int .i64 nad', .int .i64 kind', .int .i64 seq', .bool more', .int .i64 code', .bool answer', .slice A' n' c']] w fun e w' => e = .returned (.bool true) ∧ Below w.heap.size w w' := by
  have hc1 : ∀ j v, [.int .i64 nad, .int .i64 kind, .int .i64 seq, .bool more, .int .i64 code, .bool answer, .slice A n c][j]? = some v → ((w.alloc (.cells #[.int .i64 nad, .int .i64 kind, .int .i64 seq, .bool more, .int .i64 code, .bool answer, .slice A n c] 24)).alloc (.cells #[.int .i64 nad', .int .i64 kind', .int .i64 seq', .bool more', .int .i64 code', .bool answer', .slice A' n' c'] 24)).cell? ⟨w.heap.size, j, none⟩ = some v := fun j v hv => (World.cell?_alloc_lt _ _ _ (by simp)).trans ((cell_new w _ _ j).trans hv)
  have hc2 : ∀ j v, [.int .i64 nad', .int .i64 kind', .int .i64 seq', .bool more', .int .i64 code', .bool answer', .slice A' n' c'][j]? = some v → ((w.alloc (.cells #[.int .i64 nad, .int .i64 kind, .int .i64 seq, .bool more, .int .i64 code, .bool answer, .slice A n c] 24)).alloc (.cells #[.int .i64 nad', .int .i64 kind', .int .i64 seq', .bool more', .int .i64 code', .bool answer', .slice A' n' c'] 24)).cell? ⟨w.heap.size + 1, j, none⟩ = some v := fun j v hv => by
    have := (cell_new (w.alloc (.cells #[.int .i64 nad, .int .i64 kind, .int .i64 seq, .bool more, .int .i64 code, .bool answer, .slice A n c] 24)) [.int .i64 nad', .int .i64 kind', .int .i64 seq', .bool more', .int .i64 code', .bool answer', .slice A' n' c'] 24 j).trans hv
    rwa [show (w.alloc (.cells #[.int .i64 nad, .int .i64 kind, .int .i64 seq, .bool more, .int .i64 code, .bool answer, .slice A n c] 24)).heap.size = w.heap.size + 1 by simp] at this
  have HC := Lib.hid (And.intro hc1 hc2)
  have HI := Lib.hid (And.intro (Rd.alloc (Rd.alloc h (.cells #[.int .i64 nad, .int .i64 kind, .int .i64 seq, .bool more, .int .i64 code, .bool answer, .slice A n c] 24)) (.cells #[.int .i64 nad', .int .i64 kind', .int .i64 seq', .bool more', .int .i64 code', .bool answer', .slice A' n' c'] 24)) (Rd.alloc (Rd.alloc h' (.cells #[.int .i64 nad, .int .i64 kind, .int .i64 seq, .bool more, .int .i64 code, .bool answer, .slice A n c] 24)) (.cells #[.int .i64 nad', .int .i64 kind', .int .i64 seq', .bool more', .int .i64 code', .bool answer', .slice A' n' c'] 24)))
  have HB : Hid (Below w.heap.size w ((w.alloc (.cells #[.int .i64 nad, .int .i64 kind, .int .i64 seq, .bool more, .int .i64 code, .bool answer, .slice A n c] 24)).alloc (.cells #[.int .i64 nad', .int .i64 kind', .int .i64 seq', .bool more', .int .i64 code', .bool answer', .slice A' n' c'] 24))) := ((Below.refl _ _).alloc (Nat.le_refl _) _).alloc (by simp) _
  have HR := Lib.hid (sameBl_comm nad kind seq more code answer inf nad' kind' seq' more' code' answer' inf')
  generalize hs : sameBl nad kind seq more code answer inf nad' kind' seq' more' code' answer' inf' = s at HR
  have HS := Lib.hid hs
  clear h h' hc1 hc2 hs
  go_enter Try.func8, Try.ntmps8
  go_wp2_with fail
  refine wp_region_list' (T := Below ((w.alloc (.cells #[.int .i64 nad, .int .i64 kind, .int .i64 seq, .bool more, .int .i64 code, .bool answer, .slice A n c] 24)).alloc (.cells #[.int .i64 nad', .int .i64 kind', .int .i64 seq', .bool more', .int .i64 code', .bool answer', .slice A' n' c'] 24)).heap.size) [St.is (.agg #[.int .i64 nad, .int .i64 kind, .int .i64 seq, .bool more, .int .i64 code, .bool answer, .slice A n c]), St.is (.agg #[.int .i64 nad', .int .i64 kind', .int .i64 seq', .bool more', .int .i64 code', .bool answer', .slice A' n' c']), St.is (.bool s), St.is (.agg #[.int .i64 nad, .int .i64 kind, .int .i64 seq, .bool more, .int .i64 code, .bool answer, .slice A n c]), St.is (.agg #[.int .i64 nad', .int .i64 kind', .int .i64 seq', .bool more', .int .i64 code', .bool answer', .slice A' n' c']), St.is (.bool s), St.is (.bool true), St.is (.bool true), St.is (.agg #[.int .i64 nad', .int .i64 kind', .int .i64 seq', .bool more', .int .i64 code', .bool answer', .slice A' n' c']), St.is (.agg #[.int .i64 nad, .int .i64 kind, .int .i64 seq, .bool more, .int .i64 code, .bool answer, .slice A n c]), St.is (.bool s), St.is (.agg #[.int .i64 nad, .int .i64 kind, .int .i64 seq, .bool more, .int .i64 code, .bool answer, .slice A n c]), St.is (.agg #[.int .i64 nad', .int .i64 kind', .int .i64 seq', .bool more', .int .i64 code', .bool answer', .slice A' n' c']), St.is (.bool s), St.is (.bool true), St.is (.bool true), St.is (.bool true), St.is (.agg #[.int .i64 nad, .int .i64 kind, .int .i64 seq, .bool more, .int .i64 code, .bool answer, .slice A n c]), St.is (.agg #[.int .i64 nad, .int .i64 kind, .int .i64 seq, .bool more, .int .i64 code, .bool answer, .slice A n c]), St.is (.bool true), St.is (.bool true), St.is (.bool true), St.is (.bool true), St.is (.bool true), St.is (.bool true)] (by kernel_rfl) (by kernel_rfl) (Below.refl _) ((fun _ _ _ h k => Below.trans h k)) ⟨?s0, ?s1, ?s2, ?s3, ?s4, ?s5, ?s6, ?s7, ?s8, ?s9, ?s10, ?s11, ?s12, ?s13, ?s14, ?s15, ?s16, ?s17, ?s18, ?s19, ?s20, ?s21, ?s22, ?s23, ?s24, trivial⟩ ?hfin
  case s0 =>
    intro a w' K hT hf hw hK
    refine step_free ?_ ?_
    · rfl
    have h2 : a.tmps[2]?.getD undef = .pointer (some ⟨w.heap.size, 0, none⟩) := hf 2 (by kernel_rfl)
    clear hf hw
    have hc0 := (hT.cell (p := ⟨w.heap.size, 0, none⟩) (by simp; omega)).trans (HC.out.1 0 _ rfl)
    have hc1 := (hT.cell (p := ⟨w.heap.size, 1, none⟩) (by simp; omega)).trans (HC.out.1 1 _ rfl)
    have hc2 := (hT.cell (p := ⟨w.heap.size, 2, none⟩) (by simp; omega)).trans (HC.out.1 2 _ rfl)
    have hc3 := (hT.cell (p := ⟨w.heap.size, 3, none⟩) (by simp; omega)).trans (HC.out.1 3 _ rfl)
    have hc4 := (hT.cell (p := ⟨w.heap.size, 4, none⟩) (by simp; omega)).trans (HC.out.1 4 _ rfl)
    have hc5 := (hT.cell (p := ⟨w.heap.size, 5, none⟩) (by simp; omega)).trans (HC.out.1 5 _ rfl)
    have hc6 := (hT.cell (p := ⟨w.heap.size, 6, none⟩) (by simp; omega)).trans (HC.out.1 6 _ rfl)
    go_simp
    exact hK _ _ (Below.refl _ _) rfl
  case s1 =>
    intro a w' K hT hf hw hK
    refine step_free ?_ ?_
    · rfl
    have h3 : a.tmps[3]?.getD undef = .pointer (some ⟨w.heap.size + 1, 0, none⟩) := hf 3 (by kernel_rfl)
    clear hf hw
    have hc0 := (hT.cell (p := ⟨w.heap.size + 1, 0, none⟩) (by simp)).trans (HC.out.2 0 _ rfl)
    have hc1 := (hT.cell (p := ⟨w.heap.size + 1, 1, none⟩) (by simp)).trans (HC.out.2 1 _ rfl)
    have hc2 := (hT.cell (p := ⟨w.heap.size + 1, 2, none⟩) (by simp)).trans (HC.out.2 2 _ rfl)
    have hc3 := (hT.cell (p := ⟨w.heap.size + 1, 3, none⟩) (by simp)).trans (HC.out.2 3 _ rfl)
    have hc4 := (hT.cell (p := ⟨w.heap.size + 1, 4, none⟩) (by simp)).trans (HC.out.2 4 _ rfl)
    have hc5 := (hT.cell (p := ⟨w.heap.size + 1, 5, none⟩) (by simp)).trans (HC.out.2 5 _ rfl)
    have hc6 := (hT.cell (p := ⟨w.heap.size + 1, 6, none⟩) (by simp)).trans (HC.out.2 6 _ rfl)
    go_simp
    exact hK _ _ (Below.refl _ _) rfl
  case s2 =>
    intro a w' K hT hf hw hK
    refine step_free ?_ ?_
    · rfl
    have h5 : a.tmps[5]?.getD undef = .agg #[.int .i64 nad, .int .i64 kind, .int .i64 seq, .bool more, .int .i64 code, .bool answer, .slice A n c] := hw.1
    have h6 : a.tmps[6]?.getD undef = .agg #[.int .i64 nad', .int .i64 kind', .int .i64 seq', .bool more', .int .i64 code', .bool answer', .slice A' n' c'] := hw.2.1
    clear hf hw
    go_simp
    refine (bsame_any nad kind seq more code answer A n c inf nad' kind' seq' more' code' answer' A' n' c' inf' _ (Rd.below (Rd.drew HI.out.1) hT) (Rd.below (Rd.drew HI.out.2) hT)).mono ?_
    rintro e w2 ⟨rfl, hb⟩
    rw [HS.out]
    exact hK _ _ (hb.mono hT.size) rfl
  case s3 =>
    intro a w' K hT hf hw hK
    refine step_free ?_ ?_
    · rfl
    have h2 : a.tmps[2]?.getD undef = .pointer (some ⟨w.heap.size, 0, none⟩) := hf 2 (by kernel_rfl)
    clear hf hw
    have hc0 := (hT.cell (p := ⟨w.heap.size, 0, none⟩) (by simp; omega)).trans (HC.out.1 0 _ rfl)
    have hc1 := (hT.cell (p := ⟨w.heap.size, 1, none⟩) (by simp; omega)).trans (HC.out.1 1 _ rfl)
    have hc2 := (hT.cell (p := ⟨w.heap.size, 2, none⟩) (by simp; omega)).trans (HC.out.1 2 _ rfl)
    have hc3 := (hT.cell (p := ⟨w.heap.size, 3, none⟩) (by simp; omega)).trans (HC.out.1 3 _ rfl)
    have hc4 := (hT.cell (p := ⟨w.heap.size, 4, none⟩) (by simp; omega)).trans (HC.out.1 4 _ rfl)
    have hc5 := (hT.cell (p := ⟨w.heap.size, 5, none⟩) (by simp; omega)).trans (HC.out.1 5 _ rfl)
    have hc6 := (hT.cell (p := ⟨w.heap.size, 6, none⟩) (by simp; omega)).trans (HC.out.1 6 _ rfl)
    go_simp
    exact hK _ _ (Below.refl _ _) rfl
  case s4 =>
    intro a w' K hT hf hw hK
    refine step_free ?_ ?_
    · rfl
    have h3 : a.tmps[3]?.getD undef = .pointer (some ⟨w.heap.size + 1, 0, none⟩) := hf 3 (by kernel_rfl)
    clear hf hw
    have hc0 := (hT.cell (p := ⟨w.heap.size + 1, 0, none⟩) (by simp)).trans (HC.out.2 0 _ rfl)
    have hc1 := (hT.cell (p := ⟨w.heap.size + 1, 1, none⟩) (by simp)).trans (HC.out.2 1 _ rfl)
    have hc2 := (hT.cell (p := ⟨w.heap.size + 1, 2, none⟩) (by simp)).trans (HC.out.2 2 _ rfl)
    have hc3 := (hT.cell (p := ⟨w.heap.size + 1, 3, none⟩) (by simp)).trans (HC.out.2 3 _ rfl)
    have hc4 := (hT.cell (p := ⟨w.heap.size + 1, 4, none⟩) (by simp)).trans (HC.out.2 4 _ rfl)
    have hc5 := (hT.cell (p := ⟨w.heap.size + 1, 5, none⟩) (by simp)).trans (HC.out.2 5 _ rfl)
    have hc6 := (hT.cell (p := ⟨w.heap.size + 1, 6, none⟩) (by simp)).trans (HC.out.2 6 _ rfl)
    go_simp
    exact hK _ _ (Below.refl _ _) rfl
  case s5 =>
    intro a w' K hT hf hw hK
    refine step_free ?_ ?_
    · rfl
    have h8 : a.tmps[8]?.getD undef = .agg #[.int .i64 nad, .int .i64 kind, .int .i64 seq, .bool more, .int .i64 code, .bool answer, .slice A n c] := hw.1
    have h9 : a.tmps[9]?.getD undef = .agg #[.int .i64 nad', .int .i64 kind', .int .i64 seq', .bool more', .int .i64 code', .bool answer', .slice A' n' c'] := hw.2.1
    clear hf hw
    go_simp
    refine (rsame_any nad kind seq more code answer A n c inf nad' kind' seq' more' code' answer' A' n' c' inf' _ (Rd.below (Rd.drew HI.out.1) hT) (Rd.below (Rd.drew HI.out.2) hT)).mono ?_
    rintro e w2 ⟨rfl, hb⟩
    rw [HS.out]
    exact hK _ _ (hb.mono hT.size) rfl
  case s6 =>
    intro a w' K hT hf hw hK
    refine step_free ?_ ?_
    · rfl
    have h7 : a.tmps[7]?.getD undef = .bool s := hw.1
    have h10 : a.tmps[10]?.getD undef = .bool s := hw.2.1
    clear hf hw
    have hee : (s == s) = true := by simp
    go_simp
    exact hK _ _ (Below.refl _ _) rfl
  case s7 =>
    intro a w' K hT hf hw hK
    refine step_free ?_ ?_
    · rfl
    have h11 : a.tmps[11]?.getD undef = .bool true := hw.1
    clear hf hw
    go_simp
    exact hK _ _ (Below.refl _ _) rfl
  case s8 =>
    intro a w' K hT hf hw hK
    have hg : a.tmps[12]?.getD undef = .bool true := hw.1
    refine step_yes rfl rfl hg ?_
    clear hg
    have h3 : a.tmps[3]?.getD undef = .pointer (some ⟨w.heap.size + 1, 0, none⟩) := hf 3 (by kernel_rfl)
    clear hf hw
    have hc0 := (hT.cell (p := ⟨w.heap.size + 1, 0, none⟩) (by simp)).trans (HC.out.2 0 _ rfl)
    have hc1 := (hT.cell (p := ⟨w.heap.size + 1, 1, none⟩) (by simp)).trans (HC.out.2 1 _ rfl)
    have hc2 := (hT.cell (p := ⟨w.heap.size + 1, 2, none⟩) (by simp)).trans (HC.out.2 2 _ rfl)
    have hc3 := (hT.cell (p := ⟨w.heap.size + 1, 3, none⟩) (by simp)).trans (HC.out.2 3 _ rfl)
    have hc4 := (hT.cell (p := ⟨w.heap.size + 1, 4, none⟩) (by simp)).trans (HC.out.2 4 _ rfl)
    have hc5 := (hT.cell (p := ⟨w.heap.size + 1, 5, none⟩) (by simp)).trans (HC.out.2 5 _ rfl)
    have hc6 := (hT.cell (p := ⟨w.heap.size + 1, 6, none⟩) (by simp)).trans (HC.out.2 6 _ rfl)
    go_simp
    exact hK _ _ (Below.refl _ _) rfl
  case s9 =>
    intro a w' K hT hf hw hK
    have hg : a.tmps[12]?.getD undef = .bool true := hw.1
    refine step_yes rfl rfl hg ?_
    clear hg
    have h2 : a.tmps[2]?.getD undef = .pointer (some ⟨w.heap.size, 0, none⟩) := hf 2 (by kernel_rfl)
    clear hf hw
    have hc0 := (hT.cell (p := ⟨w.heap.size, 0, none⟩) (by simp; omega)).trans (HC.out.1 0 _ rfl)
    have hc1 := (hT.cell (p := ⟨w.heap.size, 1, none⟩) (by simp; omega)).trans (HC.out.1 1 _ rfl)
    have hc2 := (hT.cell (p := ⟨w.heap.size, 2, none⟩) (by simp; omega)).trans (HC.out.1 2 _ rfl)
    have hc3 := (hT.cell (p := ⟨w.heap.size, 3, none⟩) (by simp; omega)).trans (HC.out.1 3 _ rfl)
    have hc4 := (hT.cell (p := ⟨w.heap.size, 4, none⟩) (by simp; omega)).trans (HC.out.1 4 _ rfl)
    have hc5 := (hT.cell (p := ⟨w.heap.size, 5, none⟩) (by simp; omega)).trans (HC.out.1 5 _ rfl)
    have hc6 := (hT.cell (p := ⟨w.heap.size, 6, none⟩) (by simp; omega)).trans (HC.out.1 6 _ rfl)
    go_simp
    exact hK _ _ (Below.refl _ _) rfl
  case s10 =>
    intro a w' K hT hf hw hK
    have hg : a.tmps[12]?.getD undef = .bool true := hw.2.2.1
    refine step_yes rfl rfl hg ?_
    clear hg
    have h13 : a.tmps[13]?.getD undef = .agg #[.int .i64 nad', .int .i64 kind', .int .i64 seq', .bool more', .int .i64 code', .bool answer', .slice A' n' c'] := hw.1
    have h14 : a.tmps[14]?.getD undef = .agg #[.int .i64 nad, .int .i64 kind, .int .i64 seq, .bool more, .int .i64 code, .bool answer, .slice A n c] := hw.2.1
    clear hf hw
    go_simp
    refine (bsame_any nad' kind' seq' more' code' answer' A' n' c' inf' nad kind seq more code answer A n c inf _ (Rd.below (Rd.drew HI.out.2) hT) (Rd.below (Rd.drew HI.out.1) hT)).mono ?_
    rintro e w2 ⟨rfl, hb⟩
    rw [HR.out]
    exact hK _ _ (hb.mono hT.size) rfl
  case s11 =>
    intro a w' K hT hf hw hK
    have hg : a.tmps[12]?.getD undef = .bool true := hw.1
    refine step_yes rfl rfl hg ?_
    clear hg
    have h2 : a.tmps[2]?.getD undef = .pointer (some ⟨w.heap.size, 0, none⟩) := hf 2 (by kernel_rfl)
    clear hf hw
    have hc0 := (hT.cell (p := ⟨w.heap.size, 0, none⟩) (by simp; omega)).trans (HC.out.1 0 _ rfl)
    have hc1 := (hT.cell (p := ⟨w.heap.size, 1, none⟩) (by simp; omega)).trans (HC.out.1 1 _ rfl)
    have hc2 := (hT.cell (p := ⟨w.heap.size, 2, none⟩) (by simp; omega)).trans (HC.out.1 2 _ rfl)
    have hc3 := (hT.cell (p := ⟨w.heap.size, 3, none⟩) (by simp; omega)).trans (HC.out.1 3 _ rfl)
    have hc4 := (hT.cell (p := ⟨w.heap.size, 4, none⟩) (by simp; omega)).trans (HC.out.1 4 _ rfl)
    have hc5 := (hT.cell (p := ⟨w.heap.size, 5, none⟩) (by simp; omega)).trans (HC.out.1 5 _ rfl)
    have hc6 := (hT.cell (p := ⟨w.heap.size, 6, none⟩) (by simp; omega)).trans (HC.out.1 6 _ rfl)
    go_simp
    exact hK _ _ (Below.refl _ _) rfl
  case s12 =>
    intro a w' K hT hf hw hK
    have hg : a.tmps[12]?.getD undef = .bool true := hw.1
    refine step_yes rfl rfl hg ?_
    clear hg
    have h3 : a.tmps[3]?.getD undef = .pointer (some ⟨w.heap.size + 1, 0, none⟩) := hf 3 (by kernel_rfl)
    clear hf hw
    have hc0 := (hT.cell (p := ⟨w.heap.size + 1, 0, none⟩) (by simp)).trans (HC.out.2 0 _ rfl)
    have hc1 := (hT.cell (p := ⟨w.heap.size + 1, 1, none⟩) (by simp)).trans (HC.out.2 1 _ rfl)
    have hc2 := (hT.cell (p := ⟨w.heap.size + 1, 2, none⟩) (by simp)).trans (HC.out.2 2 _ rfl)
    have hc3 := (hT.cell (p := ⟨w.heap.size + 1, 3, none⟩) (by simp)).trans (HC.out.2 3 _ rfl)
    have hc4 := (hT.cell (p := ⟨w.heap.size + 1, 4, none⟩) (by simp)).trans (HC.out.2 4 _ rfl)
    have hc5 := (hT.cell (p := ⟨w.heap.size + 1, 5, none⟩) (by simp)).trans (HC.out.2 5 _ rfl)
    have hc6 := (hT.cell (p := ⟨w.heap.size + 1, 6, none⟩) (by simp)).trans (HC.out.2 6 _ rfl)
    go_simp
    exact hK _ _ (Below.refl _ _) rfl
  case s13 =>
    intro a w' K hT hf hw hK
    have hg : a.tmps[12]?.getD undef = .bool true := hw.2.2.2.1
    refine step_yes rfl rfl hg ?_
    clear hg
    have h16 : a.tmps[16]?.getD undef = .agg #[.int .i64 nad, .int .i64 kind, .int .i64 seq, .bool more, .int .i64 code, .bool answer, .slice A n c] := hw.1
    have h17 : a.tmps[17]?.getD undef = .agg #[.int .i64 nad', .int .i64 kind', .int .i64 seq', .bool more', .int .i64 code', .bool answer', .slice A' n' c'] := hw.2.1
    clear hf hw
    go_simp
    refine (bsame_any nad kind seq more code answer A n c inf nad' kind' seq' more' code' answer' A' n' c' inf' _ (Rd.below (Rd.drew HI.out.1) hT) (Rd.below (Rd.drew HI.out.2) hT)).mono ?_
    rintro e w2 ⟨rfl, hb⟩
    rw [HS.out]
    exact hK _ _ (hb.mono hT.size) rfl
  case s14 =>
    intro a w' K hT hf hw hK
    have hg : a.tmps[12]?.getD undef = .bool true := hw.2.2.1
    refine step_yes rfl rfl hg ?_
    clear hg
    have h15 : a.tmps[15]?.getD undef = .bool s := hw.1
    have h18 : a.tmps[18]?.getD undef = .bool s := hw.2.1
    clear hf hw
    have hee : (s == s) = true := by simp
    go_simp
    exact hK _ _ (Below.refl _ _) rfl
  case s15 =>
    intro a w' K hT hf hw hK
    refine step_free ?_ ?_
    · rfl
    have h12 : a.tmps[12]?.getD undef = .bool true := hw.1
    have h19 : a.tmps[19]?.getD undef = .bool true := hw.2.1
    clear hf hw
    go_simp
    exact hK _ _ (Below.refl _ _) rfl
  case s16 =>
    intro a w' K hT hf hw hK
    refine step_free ?_ ?_
    · rfl
    have h20 : a.tmps[20]?.getD undef = .bool true := hw.1
    clear hf hw
    go_simp
    exact hK _ _ (Below.refl _ _) rfl
  case s17 =>
    intro a w' K hT hf hw hK
    have hg : a.tmps[21]?.getD undef = .bool true := hw.1
    refine step_yes rfl rfl hg ?_
    clear hg
    have h2 : a.tmps[2]?.getD undef = .pointer (some ⟨w.heap.size, 0, none⟩) := hf 2 (by kernel_rfl)
    clear hf hw
    have hc0 := (hT.cell (p := ⟨w.heap.size, 0, none⟩) (by simp; omega)).trans (HC.out.1 0 _ rfl)
    have hc1 := (hT.cell (p := ⟨w.heap.size, 1, none⟩) (by simp; omega)).trans (HC.out.1 1 _ rfl)
    have hc2 := (hT.cell (p := ⟨w.heap.size, 2, none⟩) (by simp; omega)).trans (HC.out.1 2 _ rfl)
    have hc3 := (hT.cell (p := ⟨w.heap.size, 3, none⟩) (by simp; omega)).trans (HC.out.1 3 _ rfl)
    have hc4 := (hT.cell (p := ⟨w.heap.size, 4, none⟩) (by simp; omega)).trans (HC.out.1 4 _ rfl)
    have hc5 := (hT.cell (p := ⟨w.heap.size, 5, none⟩) (by simp; omega)).trans (HC.out.1 5 _ rfl)
    have hc6 := (hT.cell (p := ⟨w.heap.size, 6, none⟩) (by simp; omega)).trans (HC.out.1 6 _ rfl)
    go_simp
    exact hK _ _ (Below.refl _ _) rfl
  case s18 =>
    intro a w' K hT hf hw hK
    have hg : a.tmps[21]?.getD undef = .bool true := hw.1
    refine step_yes rfl rfl hg ?_
    clear hg
    have h2 : a.tmps[2]?.getD undef = .pointer (some ⟨w.heap.size, 0, none⟩) := hf 2 (by kernel_rfl)
    clear hf hw
    have hc0 := (hT.cell (p := ⟨w.heap.size, 0, none⟩) (by simp; omega)).trans (HC.out.1 0 _ rfl)
    have hc1 := (hT.cell (p := ⟨w.heap.size, 1, none⟩) (by simp; omega)).trans (HC.out.1 1 _ rfl)
    have hc2 := (hT.cell (p := ⟨w.heap.size, 2, none⟩) (by simp; omega)).trans (HC.out.1 2 _ rfl)
    have hc3 := (hT.cell (p := ⟨w.heap.size, 3, none⟩) (by simp; omega)).trans (HC.out.1 3 _ rfl)
    have hc4 := (hT.cell (p := ⟨w.heap.size, 4, none⟩) (by simp; omega)).trans (HC.out.1 4 _ rfl)
    have hc5 := (hT.cell (p := ⟨w.heap.size, 5, none⟩) (by simp; omega)).trans (HC.out.1 5 _ rfl)
    have hc6 := (hT.cell (p := ⟨w.heap.size, 6, none⟩) (by simp; omega)).trans (HC.out.1 6 _ rfl)
    go_simp
    exact hK _ _ (Below.refl _ _) rfl
  case s19 =>
    intro a w' K hT hf hw hK
    have hg : a.tmps[21]?.getD undef = .bool true := hw.2.2.1
    refine step_yes rfl rfl hg ?_
    clear hg
    have h22 : a.tmps[22]?.getD undef = .agg #[.int .i64 nad, .int .i64 kind, .int .i64 seq, .bool more, .int .i64 code, .bool answer, .slice A n c] := hw.1
    have h23 : a.tmps[23]?.getD undef = .agg #[.int .i64 nad, .int .i64 kind, .int .i64 seq, .bool more, .int .i64 code, .bool answer, .slice A n c] := hw.2.1
    clear hf hw
    go_simp
    refine (bsame_any nad kind seq more code answer A n c inf nad kind seq more code answer A n c inf _ (Rd.below (Rd.drew HI.out.1) hT) (Rd.below (Rd.drew HI.out.1) hT)).mono ?_
    rintro e w2 ⟨rfl, hb⟩
    rw [sameBl_self]
    exact hK _ _ (hb.mono hT.size) rfl
  case s20 =>
    intro a w' K hT hf hw hK
    refine step_free ?_ ?_
    · rfl
    have h21 : a.tmps[21]?.getD undef = .bool true := hw.1
    have h24 : a.tmps[24]?.getD undef = .bool true := hw.2.1
    clear hf hw
    go_simp
    exact hK _ _ (Below.refl _ _) rfl
  case s21 =>
    intro a w' K hT hf hw hK
    refine step_free ?_ ?_
    · rfl
    have h25 : a.tmps[25]?.getD undef = .bool true := hw.1
    clear hf hw
    go_simp
    exact hK _ _ (Below.refl _ _) rfl
  case s22 =>
    intro a w' K hT hf hw hK
    have hg : a.tmps[26]?.getD undef = .bool true := hw.1
    refine step_yes rfl rfl hg ?_
    clear hg
    clear hf hw
    go_simp
    refine (awake_any _).mono ?_
    rintro e w2 ⟨rfl, hb⟩
    exact hK _ _ (hb.mono hT.size) rfl
  case s23 =>
    intro a w' K hT hf hw hK
    refine step_free ?_ ?_
    · rfl
    have h26 : a.tmps[26]?.getD undef = .bool true := hw.1
    have h27 : a.tmps[27]?.getD undef = .bool true := hw.2.1
    clear hf hw
    go_simp
    exact hK _ _ (Below.refl _ _) rfl
  case s24 =>
    intro a w' K hT hf hw hK
    refine step_free ?_ ?_
    · rfl
    have h28 : a.tmps[28]?.getD undef = .bool true := hw.1
    clear hf hw
    go_simp
    exact hK _ _ (Below.refl _ _) rfl
  case hfin =>
    rintro vs w' hT ⟨f0, f1, f2, f3, f4, f5, f6, f7, f8, f9, f10, f11, f12, f13, f14, f15, f16, f17, f18, f19, f20, f21, f22, f23, f24, -⟩
    have e0 : vs 0 = .agg #[.int .i64 nad, .int .i64 kind, .int .i64 seq, .bool more, .int .i64 code, .bool answer, .slice A n c] := f0
    have e1 : vs 1 = .agg #[.int .i64 nad', .int .i64 kind', .int .i64 seq', .bool more', .int .i64 code', .bool answer', .slice A' n' c'] := f1
    have e2 : vs 2 = .bool s := f2
    have e3 : vs 3 = .agg #[.int .i64 nad, .int .i64 kind, .int .i64 seq, .bool more, .int .i64 code, .bool answer, .slice A n c] := f3
    have e4 : vs 4 = .agg #[.int .i64 nad', .int .i64 kind', .int .i64 seq', .bool more', .int .i64 code', .bool answer', .slice A' n' c'] := f4
    have e5 : vs 5 = .bool s := f5
    have e6 : vs 6 = .bool true := f6
    have e7 : vs 7 = .bool true := f7
    have e8 : vs 8 = .agg #[.int .i64 nad', .int .i64 kind', .int .i64 seq', .bool more', .int .i64 code', .bool answer', .slice A' n' c'] := f8
    have e9 : vs 9 = .agg #[.int .i64 nad, .int .i64 kind, .int .i64 seq, .bool more, .int .i64 code, .bool answer, .slice A n c] := f9
    have e10 : vs 10 = .bool s := f10
    have e11 : vs 11 = .agg #[.int .i64 nad, .int .i64 kind, .int .i64 seq, .bool more, .int .i64 code, .bool answer, .slice A n c] := f11
    have e12 : vs 12 = .agg #[.int .i64 nad', .int .i64 kind', .int .i64 seq', .bool more', .int .i64 code', .bool answer', .slice A' n' c'] := f12
    have e13 : vs 13 = .bool s := f13
    have e14 : vs 14 = .bool true := f14
    have e15 : vs 15 = .bool true := f15
    have e16 : vs 16 = .bool true := f16
    have e17 : vs 17 = .agg #[.int .i64 nad, .int .i64 kind, .int .i64 seq, .bool more, .int .i64 code, .bool answer, .slice A n c] := f17
    have e18 : vs 18 = .agg #[.int .i64 nad, .int .i64 kind, .int .i64 seq, .bool more, .int .i64 code, .bool answer, .slice A n c] := f18
    have e19 : vs 19 = .bool true := f19
    have e20 : vs 20 = .bool true := f20
    have e21 : vs 21 = .bool true := f21
    have e22 : vs 22 = .bool true := f22
    have e23 : vs 23 = .bool true := f23
    have e24 : vs 24 = .bool true := f24
    simp only [putsAt, Act.put, e0, e1, e2, e3, e4, e5, e6, e7, e8, e9, e10, e11, e12, e13, e14, e15, e16, e17, e18, e19, e20, e21, e22, e23, e24]
    simp only [List.setIfInBounds_toArray, List.set_cons_succ, List.set_cons_zero]
    clear e0 e1 e2 e3 e4 e5 e6 e7 e8 e9 e10 e11 e12 e13 e14 e15 e16 e17 e18 e19 e20 e21 e22 e23 e24 f0 f1 f2 f3 f4 f5 f6 f7 f8 f9 f10 f11 f12 f13 f14 f15 f16 f17 f18 f19 f20 f21 f22 f23 f24
    go_wp2_with fail
    go_ret
    exact ⟨rfl, Below.trans HB.out.drew (hT.mono (by simp; omega))⟩
end
end Go.Proofs.Ytpfihchdbdhbjaa
