/- smartcardlaw06.BlockEncodes: the walk (printed by wip/gen/lawencodes.py). -/
import Derived.Test.YtpfihchdbdhbjaaNr
import Derived.Test.YtpfihchdbdhbjaaU
namespace Go.Proofs.Ytpfihchdbdhbjaa
open Go.RowKit
set_option linter.unusedVariables false
set_option maxRecDepth 8000 in
set_option maxHeartbeats 1000000 in
theorem walk_encodes (nad kind seq : Int) (more : Bool) (code : Int) (answer : Bool) (A : Option Addr) (n c : Nat) (inf : List UInt8) (k : Int) (w : World) (h : IsB w A n c inf) (hk : -9223372036854775808 ≤ k ∧ k ≤ 9223372036854775807) :
    Calls Try.prog 4 #[.agg #[.int .i64 nad, .int .i64 kind, .int .i64 seq, .bool more, .int .i64 code, .bool answer, .slice A n c], .int .i64 k] w fun e w' => e = .returned (.bool true) ∧ Below w.heap.size w w' := by
  have hl := IsB.len h
  have h63 := h.len63
  clear hk
  by_cases hn : 300 < n
  · have hn' : (300 : Int) < (n : Int) := by omega
    go_enter Try.func4, Try.ntmps4
    go_wp2_with fail
    go_ret
    exact ⟨rfl, (Below.refl _ _).alloc (Nat.le_refl _) _⟩
  have hn' : ¬ (300 : Int) < (n : Int) := by omega
  have HX := Lib.hid (Rd.alloc h (.cells #[.int .i64 nad, .int .i64 kind, .int .i64 seq, .bool more, .int .i64 code, .bool answer, .slice A n c] 24))
  have hD := fun W hW => enc_any nad kind seq more code answer A n c inf k W hW
  have hR := fun W hW => renc_any nad kind seq more code answer A n c inf k W hW
  unfold EncPost at hD hR
  generalize encE k nad kind seq more code answer inf = er at hD hR
  generalize encL k nad kind seq more code answer inf = l at hD hR
  have HD := Lib.hid (And.intro hD hR)
  have her : (er == er) = true := by simp
  clear hl hD hR h
  go_enter Try.func4, Try.ntmps4
  go_wp2_with fail
  refine (HD.out.1 _ HX.out).mono ?_
  rintro e w1 ⟨A1, n1, c1, rfl, hi, hb⟩
  have hcl : ∀ j v, [.int .i64 nad, .int .i64 kind, .int .i64 seq, .bool more, .int .i64 code, .bool answer, .slice A n c][j]? = some v → w1.cell? ⟨w.heap.size, j, none⟩ = some v := fun j v hv => (hb.cell (p := ⟨w.heap.size, j, none⟩) (by simp)).trans ((cell_new w _ _ j).trans hv)
  have hp0 := hcl 0 _ rfl
  have hp1 := hcl 1 _ rfl
  have hp2 := hcl 2 _ rfl
  have hp3 := hcl 3 _ rfl
  have hp4 := hcl 4 _ rfl
  have hp5 := hcl 5 _ rfl
  have hp6 := hcl 6 _ rfl
  have H1 := Lib.hid (And.intro hi.rd (And.intro (Rd.below HX.out hb) (((Below.refl w.heap.size w).alloc (Nat.le_refl _) (.cells #[.int .i64 nad, .int .i64 kind, .int .i64 seq, .bool more, .int .i64 code, .bool answer, .slice A n c] 24)).trans (hb.mono (by simp)))))
  clear hi hb hcl
  go_wp2_with fail
  refine (HD.out.2 _ H1.out.2.1).mono ?_
  rintro e w2 ⟨A2, n2, c2, rfl, hi, hb⟩
  have H2 := Lib.hid (And.intro (Rd.below H1.out.1 hb) (And.intro hi.rd (H1.out.2.2.trans (hb.mono H1.out.2.2.size))))
  clear hi hb
  go_wp2_with fail
  refine (same_any _ _ _ _ _ _ _ _ _ H2.out.1 H2.out.2.1).mono ?_
  rintro e w3 ⟨rfl, hb⟩
  rw [show decide (l = l) = true by simp]
  have H3 := Lib.hid (H2.out.2.2.trans (hb.mono H2.out.2.2.size))
  clear hb
  go_wp2_with fail
  refine (awake_any _).mono ?_
  rintro e w4 ⟨rfl, hb⟩
  have H4 := Lib.hid (H3.out.trans (hb.mono H3.out.size))
  clear hb
  go_wp2_with fail
  go_ret
  exact ⟨rfl, H4.out⟩
end Go.Proofs.Ytpfihchdbdhbjaa
