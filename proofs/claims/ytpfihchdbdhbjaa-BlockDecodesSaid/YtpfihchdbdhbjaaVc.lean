/- smartcardlaw06.BlockDecodes: the walk. -/
import Derived.Test.YtpfihchdbdhbjaaDq
import Derived.Test.YtpfihchdbdhbjaaU
import Derived.Test.YtpfihchdbdhbjaaI
namespace Go.Proofs.Ytpfihchdbdhbjaa
open Go.RowKit
set_option linter.unusedVariables false
theorem sameBl_self' (nad kind seq : Int) (more : Bool) (code : Int) (answer : Bool) (inf : List UInt8) : sameBl nad kind seq more code answer inf nad kind seq more code answer inf = true := by
  unfold sameBl; simp
set_option maxRecDepth 8000 in
set_option maxHeartbeats 1000000 in
theorem walk_decodes (A : Option Addr) (n c : Nat) (xs : List UInt8) (k : Int) (w : World) (h : IsB w A n c xs) (hk : -9223372036854775808 ≤ k ∧ k ≤ 9223372036854775807) :
    Calls Try.prog 5 #[.slice A n c, .int .i64 k] w fun e w' => e = .returned (.bool true) ∧ Below w.heap.size w w' := by
  have hl := IsB.len h
  have h63 := h.len63
  by_cases hn : 300 < n
  · have hn' : (300 : Int) < (n : Int) := by omega
    clear hk
    go_enter Try.func5, Try.ntmps5
    go_wp2_with fail
    go_ret
    exact ⟨rfl, Below.refl _ _⟩
  have hn' : ¬ (300 : Int) < (n : Int) := by omega
  have hx : xs.length ≤ 900000 := by omega
  have HL := Lib.hid hx
  have HX := Lib.hid h
  have hD := fun W hW => dec_any A n c k xs W hW hx
  have hR := fun W hW => rdec_any A n c k xs W hW hx
  unfold DecPost at hD hR
  generalize dNad k xs = nad at hD hR
  generalize dKind k xs = kd at hD hR
  generalize dSeq k xs = sq at hD hR
  generalize dMore k xs = mo at hD hR
  generalize dCode k xs = co at hD hR
  generalize dAns k xs = an at hD hR
  generalize decE k xs = er at hD hR
  generalize dInf k xs = inf at hD hR
  have HD := Lib.hid (And.intro hD hR)
  have her : (er == er) = true := by simp
  clear hk hx hl hD hR h
  go_enter Try.func5, Try.ntmps5
  go_wp2_with fail
  refine (HD.out.1 _ HX.out).mono ?_
  rintro e w1 ⟨A1, n1, c1, rfl, hi, hb⟩
  have H1 := Lib.hid (And.intro (Rd.alloc hi (.cells #[.int .i64 nad, .int .i64 kd, .int .i64 sq, .bool mo, .int .i64 co, .bool an, .slice A1 n1 c1] 24)) (And.intro (Rd.alloc (Rd.below HX.out hb) (.cells #[.int .i64 nad, .int .i64 kd, .int .i64 sq, .bool mo, .int .i64 co, .bool an, .slice A1 n1 c1] 24)) (hb.alloc hb.size (.cells #[.int .i64 nad, .int .i64 kd, .int .i64 sq, .bool mo, .int .i64 co, .bool an, .slice A1 n1 c1] 24))))
  clear hi hb
  go_wp2_with fail
  refine (HD.out.2 _ H1.out.2.1).mono ?_
  rintro e w2 ⟨A2, n2, c2, rfl, hi, hb⟩
  have hz : w1.heap.size < w2.heap.size := by have := hb.size; simp at this; omega
  have hcl : ∀ j v, [.int .i64 nad, .int .i64 kd, .int .i64 sq, .bool mo, .int .i64 co, .bool an, .slice A1 n1 c1][j]? = some v → (w2.alloc (.cells #[.int .i64 nad, .int .i64 kd, .int .i64 sq, .bool mo, .int .i64 co, .bool an, .slice A2 n2 c2] 24)).cell? ⟨w1.heap.size, j, none⟩ = some v := fun j v hv => (World.cell?_alloc_lt _ _ _ (by simpa using hz)).trans ((hb.cell (p := ⟨w1.heap.size, j, none⟩) (by simp)).trans ((cell_new w1 _ _ j).trans hv))
  have hp0 := hcl 0 _ rfl
  have hp1 := hcl 1 _ rfl
  have hp2 := hcl 2 _ rfl
  have hp3 := hcl 3 _ rfl
  have hp4 := hcl 4 _ rfl
  have hp5 := hcl 5 _ rfl
  have hp6 := hcl 6 _ rfl
  have hB2 : Below w.heap.size w w2 := H1.out.2.2.trans (hb.mono H1.out.2.2.size)
  have H2 := Lib.hid (And.intro (Rd.alloc (Rd.below H1.out.1 hb) (.cells #[.int .i64 nad, .int .i64 kd, .int .i64 sq, .bool mo, .int .i64 co, .bool an, .slice A2 n2 c2] 24)) (And.intro (Rd.alloc hi (.cells #[.int .i64 nad, .int .i64 kd, .int .i64 sq, .bool mo, .int .i64 co, .bool an, .slice A2 n2 c2] 24)) (hB2.alloc hB2.size (.cells #[.int .i64 nad, .int .i64 kd, .int .i64 sq, .bool mo, .int .i64 co, .bool an, .slice A2 n2 c2] 24))))
  clear hcl hi hb hB2
  go_wp2_with fail
  refine (rsame_any nad kd sq mo co an A1 n1 c1 inf nad kd sq mo co an A2 n2 c2 inf _ H2.out.1 H2.out.2.1).mono ?_
  rintro e w3 ⟨rfl, hb⟩
  rw [sameBl_self']
  have H3 := Lib.hid (H2.out.2.2.trans (hb.mono H2.out.2.2.size))
  clear hb
  go_wp2_with fail
  refine (awake_any _).mono ?_
  rintro e w4 ⟨rfl, hb⟩
  have H4 := Lib.hid (H3.out.trans (hb.mono H3.out.size))
  clear hb
  go_wp2_with fail
  go_ret
  exact ⟨rfl, H4.out⟩
end Go.Proofs.Ytpfihchdbdhbjaa
