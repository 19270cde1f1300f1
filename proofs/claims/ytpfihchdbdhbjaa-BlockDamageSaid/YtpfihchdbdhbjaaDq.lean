/- block.Decode and smartcardref06.Decode: one statement for each (printed by wip/gen/decq.py). -/
import Derived.Test.YtpfihchdbdhbjaaDr
namespace Go.Proofs.Ytpfihchdbdhbjaa
open Go.RowKit
set_option linter.unusedVariables false
def bodyB (k : Int) (xs : List UInt8) : List UInt8 := xs.take (xs.length - sizeN k)
/-- The error of the bytes. -/
def decE (k : Int) (xs : List UInt8) : Int :=
  if ¬ (k = 0 ∨ k = 1) then 1 else if xs.length < 3 + sizeN k then 5 else if sumB k (bodyB k xs) = xs.drop (xs.length - sizeN k) then bodyE (bodyB k xs) else 6
def b0N (k : Int) (xs : List UInt8) : Nat := ((bodyB k xs).getD 0 0).toNat
def b1N (k : Int) (xs : List UInt8) : Nat := ((bodyB k xs).getD 1 0).toNat
/-- The fields of the block that the bytes are decoded to. -/
def dNad (k : Int) (xs : List UInt8) : Int := if decE k xs = 0 then (b0N k xs : Int) else 0
def dKind (k : Int) (xs : List UInt8) : Int := if decE k xs = 0 then kindC (b1N k xs) else 0
def dSeq (k : Int) (xs : List UInt8) : Int := if decE k xs = 0 then seqC (b1N k xs) else 0
def dMore (k : Int) (xs : List UInt8) : Bool := if decE k xs = 0 then moreC (b1N k xs) else false
def dCode (k : Int) (xs : List UInt8) : Int := if decE k xs = 0 then codeC (b1N k xs) else 0
def dAns (k : Int) (xs : List UInt8) : Bool := if decE k xs = 0 then ansC (b1N k xs) else false
def dInf (k : Int) (xs : List UInt8) : List UInt8 := if decE k xs = 0 then (bodyB k xs).drop 3 else []
/-- What Decode answers. -/
def DecPost (k : Int) (xs : List UInt8) (w : World) (e : Ending) (w' : World) : Prop :=
  ∃ A n c, e = .returned (.tuple #[.agg #[.int .i64 (dNad k xs), .int .i64 (dKind k xs), .int .i64 (dSeq k xs), .bool (dMore k xs), .int .i64 (dCode k xs), .bool (dAns k xs), .slice A n c], .int .i64 (decE k xs)]) ∧ IsB w' A n c (dInf k xs) ∧ Below w.heap.size w w'
theorem decPost_bad {k : Int} {xs : List UInt8} {w : World} {er : Int} (h : decE k xs = er) (hne : er ≠ 0) : ∀ e w', (e = .returned (.tuple #[.agg zeroL.toArray, .int .i64 er]) ∧ Below w.heap.size w w') → DecPost k xs w e w' := by
  rintro e w' ⟨rfl, hb⟩
  have h0 : ¬ decE k xs = 0 := by rw [h]; exact hne
  unfold DecPost dNad dKind dSeq dMore dCode dAns dInf
  simp only [if_neg h0]
  exact ⟨none, 0, 0, by rw [h]; rfl, Rd.nil, hb⟩
theorem three {l : List UInt8} (h : 3 ≤ l.length) : ∃ a b c r, l = a :: b :: c :: r := by
  match l, h with
  | a :: b :: c :: r, _ => exact ⟨a, b, c, r, rfl⟩
theorem bodyE_eq (b0 b1 b2 : UInt8) (inf : List UInt8) : bodyE (b0 :: b1 :: b2 :: inf) = if okC b1.toNat = true ∧ b2.toNat = inf.length then checkE b0.toNat (kindC b1.toNat) (seqC b1.toNat) (moreC b1.toNat) (codeC b1.toNat) (ansC b1.toNat) inf else 4 := by
  unfold bodyE
  simp

theorem dec_any (A : Option Addr) (n c : Nat) (k : Int) (xs : List UInt8) (w : World) (h : IsB w A n c xs) (hx : xs.length ≤ 900000) :
    Calls Try.prog 16 #[.slice A n c, .int .i64 k] w (DecPost k xs w) := by
  by_cases hk : k = 0 ∨ k = 1
  case neg => exact (decode_kind A n c k hk w).mono (decPost_bad (by unfold decE; rw [if_pos hk]) (by decide))
  have hl := IsB.len h
  have e1 : decE k xs = if xs.length < 3 + sizeN k then 5 else if sumB k (bodyB k xs) = xs.drop (xs.length - sizeN k) then bodyE (bodyB k xs) else 6 := by unfold decE; rw [if_neg (not_not_intro hk)]
  by_cases hs : n < 3 + sizeN k
  · exact (decode_short A n c k hk hs w).mono (decPost_bad (by rw [e1, if_pos (by omega)]) (by decide))
  rw [if_neg (by omega)] at e1
  obtain ⟨q, rfl⟩ : ∃ q, n = q + 3 + sizeN k := ⟨n - 3 - sizeN k, by omega⟩
  have hm : xs.length - sizeN k = q + 3 := by omega
  have hbd : bodyB k xs = xs.take (q + 3) := by unfold bodyB; rw [hm]
  rw [hm, hbd] at e1
  by_cases hsum : sumB k (xs.take (q + 3)) = xs.drop (q + 3)
  case neg =>
    rw [if_neg hsum] at e1
    exact (decode_sum A (q + 3) (sizeN k) c k hk rfl xs (by omega) w h hsum).mono (decPost_bad e1 (by decide))
  rw [if_pos hsum] at e1
  obtain ⟨b0, b1, b2, inf, hbody⟩ := three (l := xs.take (q + 3)) (by rw [List.length_take]; omega)
  rw [hbody, bodyE_eq] at e1
  by_cases hok : okC b1.toNat = true
  case neg =>
    rw [if_neg (fun z => hok z.1)] at e1
    exact (decode_form1 A q (sizeN k) c k hk rfl xs b0 b1 b2 inf w h hx hsum hbody (by simpa using hok)).mono (decPost_bad e1 (by decide))
  by_cases hb2 : b2.toNat = inf.length
  case neg =>
    rw [if_neg (fun z => hb2 z.2)] at e1
    exact (decode_form2 A q (sizeN k) c k hk rfl xs b0 b1 b2 inf w h hx hsum hbody hok hb2).mono (decPost_bad e1 (by decide))
  rw [if_pos ⟨hok, hb2⟩] at e1
  by_cases her : checkE b0.toNat (kindC b1.toNat) (seqC b1.toNat) (moreC b1.toNat) (codeC b1.toNat) (ansC b1.toNat) inf = 0
  case neg => exact (decode_bad A q (sizeN k) c k hk rfl xs b0 b1 b2 inf w h hx hsum hbody hok hb2 _ rfl (by simpa using her)).mono (decPost_bad e1 her)
  refine (decode_ok A q (sizeN k) c k hk rfl xs b0 b1 b2 inf w h hx hsum hbody hok hb2 her).mono ?_
  rintro e w' ⟨A6, n6, c6, rfl, hi, hb⟩
  rw [her] at e1
  have f0 : b0N k xs = b0.toNat := by unfold b0N; rw [hbd, hbody]; rfl
  have f1 : b1N k xs = b1.toNat := by unfold b1N; rw [hbd, hbody]; rfl
  unfold DecPost dNad dKind dSeq dMore dCode dAns dInf
  simp only [f0, f1, e1]
  exact ⟨A6, n6, c6, rfl, by rw [hbd, hbody]; exact hi, hb⟩

theorem rdec_any (A : Option Addr) (n c : Nat) (k : Int) (xs : List UInt8) (w : World) (h : IsB w A n c xs) (hx : xs.length ≤ 900000) :
    Calls Try.prog 17 #[.slice A n c, .int .i64 k] w (DecPost k xs w) := by
  by_cases hk : k = 0 ∨ k = 1
  case neg => exact (rdecode_kind A n c k hk w).mono (decPost_bad (by unfold decE; rw [if_pos hk]) (by decide))
  have hl := IsB.len h
  have e1 : decE k xs = if xs.length < 3 + sizeN k then 5 else if sumB k (bodyB k xs) = xs.drop (xs.length - sizeN k) then bodyE (bodyB k xs) else 6 := by unfold decE; rw [if_neg (not_not_intro hk)]
  by_cases hs : n < 3 + sizeN k
  · exact (rdecode_short A n c k hk hs w).mono (decPost_bad (by rw [e1, if_pos (by omega)]) (by decide))
  rw [if_neg (by omega)] at e1
  obtain ⟨q, rfl⟩ : ∃ q, n = q + 3 + sizeN k := ⟨n - 3 - sizeN k, by omega⟩
  have hm : xs.length - sizeN k = q + 3 := by omega
  have hbd : bodyB k xs = xs.take (q + 3) := by unfold bodyB; rw [hm]
  rw [hm, hbd] at e1
  by_cases hsum : sumB k (xs.take (q + 3)) = xs.drop (q + 3)
  case neg =>
    rw [if_neg hsum] at e1
    exact (rdecode_sum A (q + 3) (sizeN k) c k hk rfl xs hx (by omega) w h hsum).mono (decPost_bad e1 (by decide))
  rw [if_pos hsum] at e1
  obtain ⟨b0, b1, b2, inf, hbody⟩ := three (l := xs.take (q + 3)) (by rw [List.length_take]; omega)
  rw [hbody, bodyE_eq] at e1
  by_cases hok : okC b1.toNat = true
  case neg =>
    rw [if_neg (fun z => hok z.1)] at e1
    exact (rdecode_form1 A q (sizeN k) c k hk rfl xs b0 b1 b2 inf w h hx hsum hbody (by simpa using hok)).mono (decPost_bad e1 (by decide))
  by_cases hb2 : b2.toNat = inf.length
  case neg =>
    rw [if_neg (fun z => hb2 z.2)] at e1
    exact (rdecode_form2 A q (sizeN k) c k hk rfl xs b0 b1 b2 inf w h hx hsum hbody hok hb2).mono (decPost_bad e1 (by decide))
  rw [if_pos ⟨hok, hb2⟩] at e1
  by_cases her : checkE b0.toNat (kindC b1.toNat) (seqC b1.toNat) (moreC b1.toNat) (codeC b1.toNat) (ansC b1.toNat) inf = 0
  case neg => exact (rdecode_bad A q (sizeN k) c k hk rfl xs b0 b1 b2 inf w h hx hsum hbody hok hb2 _ rfl (by simpa using her)).mono (decPost_bad e1 her)
  refine (rdecode_ok A q (sizeN k) c k hk rfl xs b0 b1 b2 inf w h hx hsum hbody hok hb2 her).mono ?_
  rintro e w' ⟨A6, n6, c6, rfl, hi, hb⟩
  rw [her] at e1
  have f0 : b0N k xs = b0.toNat := by unfold b0N; rw [hbd, hbody]; rfl
  have f1 : b1N k xs = b1.toNat := by unfold b1N; rw [hbd, hbody]; rfl
  unfold DecPost dNad dKind dSeq dMore dCode dAns dInf
  simp only [f0, f1, e1]
  exact ⟨A6, n6, c6, rfl, by rw [hbd, hbody]; exact hi, hb⟩
end Go.Proofs.Ytpfihchdbdhbjaa
