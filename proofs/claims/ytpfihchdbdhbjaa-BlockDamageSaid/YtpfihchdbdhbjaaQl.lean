/- The laws of encoding and decoding a block, in plain words: decoding gives back what was encoded, and encoding what was decoded. -/
import Derived.Test.YtpfihchdbdhbjaaNr
import Derived.Test.YtpfihchdbdhbjaaDq
namespace Go.Proofs.Ytpfihchdbdhbjaa
set_option linter.unusedVariables false
theorem ctl_back : ∀ c : Nat, c < 256 → okC c = true → ctlN (kindC c) (seqC c) (moreC c) (codeC c) (ansC c) = c := by decide +kernel
theorem b_toNat (a : Nat) (h : a < 256) : (UInt8.ofNat a).toNat = a := by rw [UInt8.toNat_ofNat']; exact Nat.mod_eq_of_lt h
/-- What the control byte of a block that is in order tells. -/
theorem ctl_forth {nad kind seq : Int} {more : Bool} {code : Int} {answer : Bool} {inf : List UInt8} (h : checkE nad kind seq more code answer inf = 0) :
    okC (ctlN kind seq more code answer).toNat = true ∧ kindC (ctlN kind seq more code answer).toNat = kind ∧ seqC (ctlN kind seq more code answer).toNat = seq ∧ moreC (ctlN kind seq more code answer).toNat = more ∧
    codeC (ctlN kind seq more code answer).toNat = code ∧ ansC (ctlN kind seq more code answer).toNat = answer := by
  obtain ⟨-, -, ⟨rfl, hs, rfl, rfl⟩ | ⟨rfl, hs, hc, rfl, rfl⟩ | ⟨rfl, rfl, hc, rfl⟩⟩ := ok_facts h
  · rcases hs with rfl | rfl <;> cases more <;> decide +kernel
  · rcases hs with rfl | rfl <;> rcases hc with rfl | rfl | rfl | rfl <;> first | decide +kernel | exact absurd h (by unfold checkE; simp)
  · rcases hc with rfl | rfl | rfl | rfl <;> cases answer <;> decide +kernel
theorem decE_of {k : Int} (hk : k = 0 ∨ k = 1) (b0 b1 b2 : UInt8) (inf : List UInt8) : decE k (b0 :: b1 :: b2 :: inf ++ sumB k (b0 :: b1 :: b2 :: inf)) = bodyE (b0 :: b1 :: b2 :: inf) ∧ bodyB k (b0 :: b1 :: b2 :: inf ++ sumB k (b0 :: b1 :: b2 :: inf)) = b0 :: b1 :: b2 :: inf := by
  have hl := sumB_length k (b0 :: b1 :: b2 :: inf)
  have hm : (b0 :: b1 :: b2 :: inf ++ sumB k (b0 :: b1 :: b2 :: inf)).length - sizeN k = (b0 :: b1 :: b2 :: inf).length := by rw [List.length_append, hl]; omega
  have hb : bodyB k (b0 :: b1 :: b2 :: inf ++ sumB k (b0 :: b1 :: b2 :: inf)) = b0 :: b1 :: b2 :: inf := by
    unfold bodyB; rw [hm, List.take_left]
  refine ⟨?_, hb⟩
  unfold decE
  rw [if_neg (not_not_intro hk), hb, if_neg (by rw [List.length_append, hl]; simp), hm, List.drop_left, if_pos rfl]
section
variable {nad kind seq : Int} {more : Bool} {code : Int} {answer : Bool} {inf : List UInt8} {k : Int}
theorem encB_eq : encB k nad kind seq more code answer inf = UInt8.ofNat nad.toNat :: UInt8.ofNat (ctlN kind seq more code answer).toNat :: UInt8.ofNat inf.length :: inf ++ sumB k (UInt8.ofNat nad.toNat :: UInt8.ofNat (ctlN kind seq more code answer).toNat :: UInt8.ofNat inf.length :: inf) := rfl
/-- Decoding what was encoded. -/
theorem dec_enc (hk : k = 0 ∨ k = 1) (h : checkE nad kind seq more code answer inf = 0) :
    decE k (encB k nad kind seq more code answer inf) = 0 ∧ dNad k (encB k nad kind seq more code answer inf) = nad ∧ dKind k (encB k nad kind seq more code answer inf) = kind ∧ dSeq k (encB k nad kind seq more code answer inf) = seq ∧
    dMore k (encB k nad kind seq more code answer inf) = more ∧ dCode k (encB k nad kind seq more code answer inf) = code ∧ dAns k (encB k nad kind seq more code answer inf) = answer ∧ dInf k (encB k nad kind seq more code answer inf) = inf := by
  obtain ⟨hn, hi, _⟩ := ok_facts h
  obtain ⟨c1, c2, c3, c4, c5, c6⟩ := ctl_forth h
  have hct := ctl_ok h
  obtain ⟨e1, e2⟩ := decE_of hk (UInt8.ofNat nad.toNat) (UInt8.ofNat (ctlN kind seq more code answer).toNat) (UInt8.ofNat inf.length) inf
  have t0 := b_toNat nad.toNat (by omega)
  have t1 := b_toNat (ctlN kind seq more code answer).toNat (by omega)
  have t2 := b_toNat inf.length (by omega)
  rw [bodyE_eq, t0, t1, t2, c1, c2, c3, c4, c5, c6, if_pos ⟨rfl, rfl⟩, show ((nad.toNat : Nat) : Int) = nad by omega, h, ← encB_eq] at e1
  rw [← encB_eq] at e2
  have f0 : b0N k (encB k nad kind seq more code answer inf) = nad.toNat := by unfold b0N; rw [e2]; exact t0
  have f1 : b1N k (encB k nad kind seq more code answer inf) = (ctlN kind seq more code answer).toNat := by unfold b1N; rw [e2]; exact t1
  unfold dNad dKind dSeq dMore dCode dAns dInf
  simp only [if_pos e1, f0, f1, e2, c2, c3, c4, c5, c6]
  exact ⟨e1, by omega, trivial, trivial, trivial, trivial, trivial, rfl⟩
/-- Encoding what was decoded. -/
theorem enc_dec {xs : List UInt8} (h : decE k xs = 0) : encE k (dNad k xs) (dKind k xs) (dSeq k xs) (dMore k xs) (dCode k xs) (dAns k xs) (dInf k xs) = 0 ∧ encL k (dNad k xs) (dKind k xs) (dSeq k xs) (dMore k xs) (dCode k xs) (dAns k xs) (dInf k xs) = xs := by
  have h' := h
  unfold decE at h'
  by_cases hk : k = 0 ∨ k = 1
  case neg => rw [if_pos hk] at h'; exact absurd h' (by decide)
  rw [if_neg (not_not_intro hk)] at h'
  by_cases hs : xs.length < 3 + sizeN k
  · rw [if_pos hs] at h'; exact absurd h' (by decide)
  rw [if_neg hs] at h'
  by_cases hsum : sumB k (bodyB k xs) = xs.drop (xs.length - sizeN k)
  case neg => rw [if_neg hsum] at h'; exact absurd h' (by decide)
  rw [if_pos hsum] at h'
  obtain ⟨b0, b1, b2, inf, hbody⟩ := three (l := bodyB k xs) (by unfold bodyB; rw [List.length_take]; omega)
  have hxs : xs = bodyB k xs ++ sumB k (bodyB k xs) := by rw [hsum]; unfold bodyB; rw [List.take_append_drop]
  have f0 : b0N k xs = b0.toNat := by unfold b0N; rw [hbody]; rfl
  have f1 : b1N k xs = b1.toNat := by unfold b1N; rw [hbody]; rfl
  rw [hbody, bodyE_eq] at h'
  by_cases hok : okC b1.toNat = true ∧ b2.toNat = inf.length
  case neg => rw [if_neg hok] at h'; exact absurd h' (by decide)
  rw [if_pos hok] at h'
  have hb1 := UInt8.toNat_lt b1
  have hct := ctl_back b1.toNat (by omega) hok.1
  have e0 : dNad k xs = b0.toNat := by unfold dNad; rw [if_pos h, f0]
  have e1 : dKind k xs = kindC b1.toNat := by unfold dKind; rw [if_pos h, f1]
  have e2 : dSeq k xs = seqC b1.toNat := by unfold dSeq; rw [if_pos h, f1]
  have e3 : dMore k xs = moreC b1.toNat := by unfold dMore; rw [if_pos h, f1]
  have e4 : dCode k xs = codeC b1.toNat := by unfold dCode; rw [if_pos h, f1]
  have e5 : dAns k xs = ansC b1.toNat := by unfold dAns; rw [if_pos h, f1]
  have e6 : dInf k xs = inf := by unfold dInf; rw [if_pos h, hbody]; rfl
  rw [e0, e1, e2, e3, e4, e5, e6]
  have hE : encE k b0.toNat (kindC b1.toNat) (seqC b1.toNat) (moreC b1.toNat) (codeC b1.toNat) (ansC b1.toNat) inf = 0 := by unfold encE; rw [if_pos hk]; exact h'
  refine ⟨hE, ?_⟩
  unfold encL
  rw [if_pos hE, encB_eq, hct, ← hok.2]
  rw [show ((b0.toNat : Nat) : Int).toNat = b0.toNat by omega, show ((b1.toNat : Nat) : Int).toNat = b1.toNat by omega]
  simp only [UInt8.ofNat_toNat]
  rw [hbody] at hxs
  exact hxs.symm
end
end Go.Proofs.Ytpfihchdbdhbjaa
