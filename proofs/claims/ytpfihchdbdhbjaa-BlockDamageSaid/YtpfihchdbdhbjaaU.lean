/- smartcard/smartcardlaw06.awake: the walk. -/
import Derived.Test.YtpfihchdbdhbjaaD
namespace Go.Proofs.Ytpfihchdbdhbjaa
open Go.RowKit
set_option linter.unusedVariables false

theorem isB_lit {w : World} {e : TypeId} (xs : List UInt8) (vs : List Value) (hv : xs.map u8 = vs) (hm : xs.length ≤ 1000) : IsB (w.alloc (.cells vs.toArray e)) (some ⟨w.heap.size, 0, none⟩) xs.length xs.length xs := by
  subst hv
  have h := (own_lit (w := w) (B := w.heap.size) (e := e) (xs.map u8) (Nat.le_refl _) (by simpa using hm)).rd
  simpa using h

theorem aw1 : encB 0 0 0 1 false 0 false [160, 176] = [0, 64, 2, 160, 176, 82] := by decide +kernel
set_option maxHeartbeats 800000 in
theorem awake_any (w : World) :
    Calls Try.prog 12 #[] w fun e w' => e = .returned (.bool true) ∧ Below w.heap.size w w' := by
  go_enter Try.func12, Try.ntmps12
  go_wp2_with fail
  have hi : IsB (w.alloc (.cells #[.int .u8 160, .int .u8 176] 5)) (some ⟨w.heap.size, 0, none⟩) 2 2 [160, 176] := isB_lit [160, 176] _ rfl (by decide)
  refine (encode_I 0 1 false _ 2 2 [160, 176] 0 (.inl rfl) _ hi (by decide +kernel) (by decide) (by decide) (.inr rfl) (by decide)).mono ?_
  rintro e w1 ⟨A1, n1, c1, rfl, ho, hb⟩
  rw [aw1] at ho
  have hB1 : Below w.heap.size w w1 := ((Below.refl _ _).alloc (Nat.le_refl _) _).trans (hb.mono (by simp))
  have H1 := Lib.hid (And.intro ho.rd hB1)
  clear ho hb hi hB1
  go_wp2_with fail
  have hj : IsB (w1.alloc (.cells #[.int .u8 0, .int .u8 130, .int .u8 0, .int .u8 130] 5)) (some ⟨w1.heap.size, 0, none⟩) (0 + 3 + 1) 4 [0, 130, 0, 130] := isB_lit [0, 130, 0, 130] _ rfl (by decide)
  refine (decode_ok _ 0 1 4 0 (.inl rfl) rfl [0, 130, 0, 130] 0 130 0 [] _ hj (by decide) (by decide +kernel) rfl (by decide +kernel) rfl (by decide +kernel)).mono ?_
  rintro e w2 ⟨A2, n2, c2, rfl, hi2, hb⟩
  rw [show kindC (130 : UInt8).toNat = 1 by decide +kernel, show seqC (130 : UInt8).toNat = 0 by decide +kernel, show moreC (130 : UInt8).toNat = false by decide +kernel, show codeC (130 : UInt8).toNat = 2 by decide +kernel, show ansC (130 : UInt8).toNat = false by decide +kernel, show (((0 : UInt8).toNat : Nat) : Int) = 0 by decide +kernel]
  have hb' : Below w1.heap.size w1 w2 := ((Below.refl _ _).alloc (Nat.le_refl _) _).trans (hb.mono (by simp))
  have H2 := Lib.hid (And.intro (Rd.below H1.out.1 hb') (H1.out.2.trans (hb'.mono H1.out.2.size)))
  clear hi2 hb hb' hj
  go_wp2_with fail
  have hk : IsB ((w2.alloc (.cells #[.int .i64 0, .int .i64 1, .int .i64 0, .bool false, .int .i64 2, .bool false, .slice A2 n2 c2] 24)).alloc (.cells #[.int .u8 0, .int .u8 64, .int .u8 2, .int .u8 160, .int .u8 176, .int .u8 82] 5)) (some ⟨w2.heap.size + 1, 0, none⟩) 6 6 [0, 64, 2, 160, 176, 82] := by
    have := isB_lit (w := w2.alloc (.cells #[.int .i64 0, .int .i64 1, .int .i64 0, .bool false, .int .i64 2, .bool false, .slice A2 n2 c2] 24)) (e := 5) [0, 64, 2, 160, 176, 82] _ rfl (by decide)
    rwa [show (w2.alloc (.cells #[.int .i64 0, .int .i64 1, .int .i64 0, .bool false, .int .i64 2, .bool false, .slice A2 n2 c2] 24)).heap.size = w2.heap.size + 1 by simp] at this
  refine (same_any _ _ _ _ _ _ _ _ _ ((Rd.alloc (Rd.alloc H2.out.1 _) _)) hk).mono ?_
  rintro e w3 ⟨rfl, hb⟩
  have hb3 : Below (w2.heap.size + 1) (w2.alloc (.cells #[.int .i64 0, .int .i64 1, .int .i64 0, .bool false, .int .i64 2, .bool false, .slice A2 n2 c2] 24)) w3 := ((Below.refl _ _).alloc (by simp) _).trans (hb.mono (by simp))
  have hx : ∀ j v, [Value.int .i64 0, .int .i64 1, .int .i64 0, .bool false, .int .i64 2, .bool false, .slice A2 n2 c2][j]? = some v → w3.cell? ⟨w2.heap.size, j, none⟩ = some v := fun j v hv =>
    (hb3.cell (p := ⟨w2.heap.size, j, none⟩) (by simp)).trans ((cell_new w2 _ _ j).trans hv)
  have hx1 := hx 1 _ rfl
  have hx4 := hx 4 _ rfl
  have hB3 : Below w.heap.size w w3 := (H2.out.2.alloc H2.out.2.size _).trans (hb3.mono (by have := H2.out.2.size; omega))
  rw [show decide ([0, 64, 2, 160, 176, 82] = ([0, 64, 2, 160, 176, 82] : List UInt8)) = true by decide +kernel]
  have HB3 := Lib.hid hB3
  clear hx hb3 hb hk hB3
  go_wp2_with fail
  go_ret
  exact ⟨rfl, HB3.out⟩
end Go.Proofs.Ytpfihchdbdhbjaa
