/- smartcard/block.Encode: the walk (printed by wip/gen/encode.py). -/
import Derived.Test.YtpfihchdbdhbjaaP
namespace Go.Proofs.Ytpfihchdbdhbjaa
open Go.RowKit
set_option linter.unusedVariables false
attribute [local go_sem] m_PI m_PR m_PS m_CI m_CR m_CS
/-- The control byte of a block. -/
def ctlN (kind seq : Int) (more : Bool) (code : Int) (answer : Bool) : Int := if kind = 0 then ctlI seq more else if kind = 1 then ctlR seq code else ctlS code answer
/-- The three bytes ahead of the information field. -/
def headB (nad kind seq : Int) (more : Bool) (code : Int) (answer : Bool) (n : Nat) : List UInt8 := [UInt8.ofNat nad.toNat, UInt8.ofNat (ctlN kind seq more code answer).toNat, UInt8.ofNat n]
def encB (k nad kind seq : Int) (more : Bool) (code : Int) (answer : Bool) (inf : List UInt8) : List UInt8 :=
  headB nad kind seq more code answer inf.length ++ inf ++ sumB k (headB nad kind seq more code answer inf.length ++ inf)
theorem u8_ofNat (a : Nat) (h : a < 256) : u8 (UInt8.ofNat a) = .int .u8 (a : Int) := by
  unfold u8; rw [UInt8.toNat_ofNat']; rw [Nat.mod_eq_of_lt (by omega)]
theorem u8_ofInt (a : Int) (h0 : 0 ≤ a) (h : a < 256) : u8 (UInt8.ofNat a.toNat) = .int .u8 (a % 256) := by
  rw [u8_ofNat _ (by omega)]; congr 1; omega
theorem u8_ofNat' (a : Nat) (h : a < 256) : u8 (UInt8.ofNat a) = .int .u8 ((a : Int) % 256) := by
  rw [u8_ofNat a h]; congr 1; omega

theorem flat2 {α : Type} (a b : List α) : [a, b].flatten = a ++ b := by simp
theorem kindOf_0 (w : World) : Calls Try.prog 22 #[.int .i64 0] w fun e w' => e = .returned (.iface 44 (.agg #[])) ∧ w = w' := by
  go_enter Try.func22, Try.ntmps22
  go_wp2
  go_ret
  exact ⟨rfl, rfl⟩
theorem kindOf_1 (w : World) : Calls Try.prog 22 #[.int .i64 1] w fun e w' => e = .returned (.iface 63 (.agg #[])) ∧ w = w' := by
  go_enter Try.func22, Try.ntmps22
  go_wp2
  go_ret
  exact ⟨rfl, rfl⟩
theorem kindOf_2 (w : World) : Calls Try.prog 22 #[.int .i64 2] w fun e w' => e = .returned (.iface 46 (.agg #[])) ∧ w = w' := by
  go_enter Try.func22, Try.ntmps22
  go_wp2
  go_ret
  exact ⟨rfl, rfl⟩

set_option maxHeartbeats 400000 in
theorem encode_kind (nad kind seq : Int) (more : Bool) (code : Int) (answer : Bool) (v : Value) (k : Int) (hk : ¬ (k = 0 ∨ k = 1)) (w : World) :
    Calls Try.prog 13 #[.agg #[.int .i64 nad, .int .i64 kind, .int .i64 seq, .bool more, .int .i64 code, .bool answer, v], .int .i64 k] w
      fun e w' => e = .returned (.tuple #[.slice none 0 0, .int .i64 1]) ∧ Below w.heap.size w w' := by
  have hs : sizeI k = 0 := by unfold sizeI; rw [if_neg (by omega), if_neg (by omega)]
  go_enter Try.func13, Try.ntmps13
  go_wp2_with fail
  refine (size_any k _).mono ?_
  rintro e w1 ⟨rfl, rfl⟩
  rw [hs]
  go_wp2_with fail
  go_ret2
  exact ⟨rfl, (Below.refl _ _).alloc (Nat.le_refl _) _⟩

set_option maxHeartbeats 400000 in
theorem encode_bad (nad kind seq : Int) (more : Bool) (code : Int) (answer : Bool) (A : Option Addr) (n c : Nat) (inf : List UInt8) (k : Int) (hk : k = 0 ∨ k = 1) (w : World) (h : IsB w A n c inf)
    (hbad : checkE nad kind seq more code answer inf ≠ 0) :
    Calls Try.prog 13 #[.agg #[.int .i64 nad, .int .i64 kind, .int .i64 seq, .bool more, .int .i64 code, .bool answer, .slice A n c], .int .i64 k] w
      fun e w' => e = .returned (.tuple #[.slice none 0 0, .int .i64 (checkE nad kind seq more code answer inf)]) ∧ Below w.heap.size w w' := by
  have hp := sizeN_pos k hk
  have hC : ∀ W, IsB W A n c inf → Calls Try.prog 10 #[.agg #[.int .i64 nad, .int .i64 kind, .int .i64 seq, .bool more, .int .i64 code, .bool answer, .slice A n c]] W
      fun e w' => e = .returned (.int .i64 (checkE nad kind seq more code answer inf)) ∧ Below W.heap.size W w' := fun W hW => check_any nad kind seq more code answer A n c inf W hW
  generalize checkE nad kind seq more code answer inf = er at *
  have HC := Lib.hid hC
  have hne : (er != 0) = true := by simpa using hbad
  clear hC hbad
  go_enter Try.func13, Try.ntmps13
  go_wp2_with fail
  refine (size_any k _).mono ?_
  rintro e w1 ⟨rfl, rfl⟩
  rw [sizeI_eq]
  generalize sizeN k = s at *
  have h0 : ((s : Int) == 0) = false := by simp; omega
  go_wp2_with fail
  refine (HC.out _ (h.alloc _)).mono ?_
  rintro e w1 ⟨rfl, hb⟩
  go_wp2_with fail
  go_ret2
  exact ⟨rfl, ((Below.refl _ _).alloc (Nat.le_refl _) _).trans (hb.mono (by simp))⟩

set_option maxRecDepth 8000 in
set_option maxHeartbeats 2000000 in
theorem encode_I (nad seq : Int) (more : Bool) (A : Option Addr) (n c : Nat) (inf : List UInt8) (k : Int) (hk : k = 0 ∨ k = 1) (w : World) (h : IsB w A n c inf)
    (hok : checkE nad 0 seq more 0 false inf = 0) (hn0 : 0 ≤ nad) (hn1 : nad ≤ 254) (hv : (seq = 0 ∨ seq = 1)) (hlen : n ≤ 254) :
    Calls Try.prog 13 #[.agg #[.int .i64 nad, .int .i64 0, .int .i64 seq, .bool more, .int .i64 0, .bool false, .slice A n c], .int .i64 k] w
      fun e w' => ∃ A' n' c', e = .returned (.tuple #[.slice A' n' c', .int .i64 0]) ∧ Own w' w.heap.size 5 A' n' c' ((encB k nad 0 seq more 0 false inf).map u8) ∧ Below w.heap.size w w' := by
  have hp := sizeN_pos k hk
  have hl := IsB.len h
  have hctl : 0 ≤ ctlI seq more ∧ ctlI seq more < 256 := by unfold ctlI; rcases hv with rfl | rfl <;> cases more <;> simp
  have HV : Hid (((seq = 0 ∨ seq = 1)) ∧ u8 (UInt8.ofNat nad.toNat) = .int .u8 (nad % 256) ∧ u8 (UInt8.ofNat (ctlI seq more).toNat) = .int .u8 ((ctlI seq more) % 256) ∧ u8 (UInt8.ofNat n) = .int .u8 ((n : Int) % 256)) := ⟨hv, u8_ofInt _ hn0 (by omega), u8_ofInt _ hctl.1 hctl.2, u8_ofNat' _ (by omega)⟩
  have HV0 : Hid (IsB w A n c inf ∧ inf.length ≤ 254 ∧ (k = 0 ∨ k = 1)) := ⟨h, by omega, hk⟩
  have HL : Hid (encB k nad 0 seq more 0 false inf = [UInt8.ofNat nad.toNat, UInt8.ofNat (ctlI seq more).toNat, UInt8.ofNat n] ++ inf ++ sumB k ([UInt8.ofNat nad.toNat, UInt8.ofNat (ctlI seq more).toNat, UInt8.ofNat n] ++ inf)) := by
    show _ = _
    unfold encB headB
    rw [hl]
    rfl
  have hC : ∀ W, IsB W A n c inf → Calls Try.prog 10 #[.agg #[.int .i64 nad, .int .i64 0, .int .i64 seq, .bool more, .int .i64 0, .bool false, .slice A n c]] W fun e w' => e = .returned (.int .i64 0) ∧ Below W.heap.size W w' := fun W hW => by
    have := check_any nad 0 seq more 0 false A n c inf W hW
    rwa [hok] at this
  have HC := Lib.hid hC
  have hc0 := hctl.1
  have hc1 := hctl.2
  clear hC hok hl hctl hv
  go_enter Try.func13, Try.ntmps13
  go_wp2_with fail
  refine (size_any k _).mono ?_
  rintro e w1 ⟨rfl, rfl⟩
  rw [sizeI_eq]
  generalize sizeN k = s at *
  have h0 : ((s : Int) == 0) = false := by simp; omega
  go_wp2_with fail
  refine (HC.out _ (h.alloc _)).mono ?_
  rintro e w1 ⟨rfl, hb⟩
  have hbw : Below w.heap.size w w1 := ((Below.refl _ _).alloc (Nat.le_refl _) _).trans (hb.mono (by simp))
  go_wp2_with fail
  refine wp_region_list' (T := TB) [St.is (.pointer (some ⟨w.heap.size, 0, none⟩)), St.is (.int .i64 nad), St.is (.int .u8 (nad % 256)), St.is (.pointer (some ⟨w.heap.size, 1, none⟩)), St.is (.int .i64 0), St.is (.iface 44 (.agg #[])), St.is (.agg #[.int .i64 nad, .int .i64 0, .int .i64 seq, .bool more, .int .i64 0, .bool false, .slice A n c]), St.is (.int .i64 (ctlI seq more)), St.is (.int .u8 ((ctlI seq more) % 256)), St.is (.pointer (some ⟨w.heap.size, 6, none⟩)), St.is (.slice A n c), St.is (.int .i64 (n : Int)), St.is (.int .u8 ((n : Int) % 256)), St.pred (fun v' w' => ∃ g, v' = .slice (some ⟨g, 0, none⟩) 3 3 ∧ IsB w' (some ⟨g, 0, none⟩) 3 3 [UInt8.ofNat nad.toNat, UInt8.ofNat (ctlI seq more).toNat, UInt8.ofNat n]) (fun _ _ _ h q => q.imp fun _ q => ⟨q.1, Rd.below q.2 h⟩), St.pred (fun v' w' => ∃ g, v' = .slice (some ⟨g, 0, none⟩) 3 3 ∧ IsB w' (some ⟨g, 0, none⟩) 3 3 [UInt8.ofNat nad.toNat, UInt8.ofNat (ctlI seq more).toNat, UInt8.ofNat n]) (fun _ _ _ h q => q.imp fun _ q => ⟨q.1, Rd.below q.2 h⟩)] (by kernel_rfl) (by kernel_rfl) (TB.refl) (TB.trans) ⟨?s0, ?s1, ?s2, ?s3, ?s4, ?s5, ?s6, ?s7, ?s8, ?s9, ?s10, ?s11, ?s12, ?s13, ?s14, trivial⟩ ?hfin
  case s0 =>
    intro a w' K hT hf hw hK
    refine step_free ?_ ?_
    · rfl
    have h2 : a.tmps[2]?.getD undef = .pointer (some ⟨w.heap.size, 0, none⟩) := hf 2 (by kernel_rfl)
    clear hf hw
    go_simp
    exact hK _ _ (TB.refl _) rfl
  case s1 =>
    intro a w' K hT hf hw hK
    refine step_free ?_ ?_
    · rfl
    have h16 : a.tmps[16]?.getD undef = .pointer (some ⟨w.heap.size, 0, none⟩) := hw.1
    clear hf hw
    have hcell : ∀ j, w'.cell? ⟨w.heap.size, j, none⟩ = (w.alloc (.cells #[.int .i64 nad, .int .i64 0, .int .i64 seq, .bool more, .int .i64 0, .bool false, .slice A n c] 24)).cell? ⟨w.heap.size, j, none⟩ := fun j => (hT.cell (by have := hb.size; simp at this ⊢; omega)).trans (hb.cell (p := ⟨w.heap.size, j, none⟩) (by simp))
    go_simp
    exact hK _ _ (TB.refl _) rfl
  case s2 =>
    intro a w' K hT hf hw hK
    refine step_free ?_ ?_
    · rfl
    have h17 : a.tmps[17]?.getD undef = .int .i64 nad := hw.1
    clear hf hw
    go_simp
    exact hK _ _ (TB.refl _) rfl
  case s3 =>
    intro a w' K hT hf hw hK
    refine step_free ?_ ?_
    · rfl
    have h2 : a.tmps[2]?.getD undef = .pointer (some ⟨w.heap.size, 0, none⟩) := hf 2 (by kernel_rfl)
    clear hf hw
    go_simp
    exact hK _ _ (TB.refl _) rfl
  case s4 =>
    intro a w' K hT hf hw hK
    refine step_free ?_ ?_
    · rfl
    have h19 : a.tmps[19]?.getD undef = .pointer (some ⟨w.heap.size, 1, none⟩) := hw.1
    clear hf hw
    have hcell : ∀ j, w'.cell? ⟨w.heap.size, j, none⟩ = (w.alloc (.cells #[.int .i64 nad, .int .i64 0, .int .i64 seq, .bool more, .int .i64 0, .bool false, .slice A n c] 24)).cell? ⟨w.heap.size, j, none⟩ := fun j => (hT.cell (by have := hb.size; simp at this ⊢; omega)).trans (hb.cell (p := ⟨w.heap.size, j, none⟩) (by simp))
    go_simp
    exact hK _ _ (TB.refl _) rfl
  case s5 =>
    intro a w' K hT hf hw hK
    refine step_free ?_ ?_
    · rfl
    have h20 : a.tmps[20]?.getD undef = .int .i64 0 := hw.1
    clear hf hw
    go_simp
    refine (kindOf_0 _).mono ?_
    rintro e w2 ⟨rfl, rfl⟩
    exact hK _ _ (TB.refl _) rfl
  case s6 =>
    intro a w' K hT hf hw hK
    refine step_free ?_ ?_
    · rfl
    have h2 : a.tmps[2]?.getD undef = .pointer (some ⟨w.heap.size, 0, none⟩) := hf 2 (by kernel_rfl)
    clear hf hw
    have hcell : ∀ j, w'.cell? ⟨w.heap.size, j, none⟩ = (w.alloc (.cells #[.int .i64 nad, .int .i64 0, .int .i64 seq, .bool more, .int .i64 0, .bool false, .slice A n c] 24)).cell? ⟨w.heap.size, j, none⟩ := fun j => (hT.cell (by have := hb.size; simp at this ⊢; omega)).trans (hb.cell (p := ⟨w.heap.size, j, none⟩) (by simp))
    go_simp
    exact hK _ _ (TB.refl _) rfl
  case s7 =>
    intro a w' K hT hf hw hK
    refine step_free ?_ ?_
    · rfl
    have h21 : a.tmps[21]?.getD undef = .iface 44 (.agg #[]) := hw.1
    have h22 : a.tmps[22]?.getD undef = .agg #[.int .i64 nad, .int .i64 0, .int .i64 seq, .bool more, .int .i64 0, .bool false, .slice A n c] := hw.2.1
    clear hf hw
    go_simp
    refine (control_I _ _ _ _ _ _ _ _ HV.out.1).mono ?_
    rintro e w2 ⟨rfl, hb2⟩
    exact hK _ _ hb2 rfl
  case s8 =>
    intro a w' K hT hf hw hK
    refine step_free ?_ ?_
    · rfl
    have h23 : a.tmps[23]?.getD undef = .int .i64 (ctlI seq more) := hw.1
    clear hf hw
    go_simp
    exact hK _ _ (TB.refl _) rfl
  case s9 =>
    intro a w' K hT hf hw hK
    refine step_free ?_ ?_
    · rfl
    have h2 : a.tmps[2]?.getD undef = .pointer (some ⟨w.heap.size, 0, none⟩) := hf 2 (by kernel_rfl)
    clear hf hw
    go_simp
    exact hK _ _ (TB.refl _) rfl
  case s10 =>
    intro a w' K hT hf hw hK
    refine step_free ?_ ?_
    · rfl
    have h25 : a.tmps[25]?.getD undef = .pointer (some ⟨w.heap.size, 6, none⟩) := hw.1
    clear hf hw
    have hcell : ∀ j, w'.cell? ⟨w.heap.size, j, none⟩ = (w.alloc (.cells #[.int .i64 nad, .int .i64 0, .int .i64 seq, .bool more, .int .i64 0, .bool false, .slice A n c] 24)).cell? ⟨w.heap.size, j, none⟩ := fun j => (hT.cell (by have := hb.size; simp at this ⊢; omega)).trans (hb.cell (p := ⟨w.heap.size, j, none⟩) (by simp))
    go_simp
    exact hK _ _ (TB.refl _) rfl
  case s11 =>
    intro a w' K hT hf hw hK
    refine step_free ?_ ?_
    · rfl
    have h26 : a.tmps[26]?.getD undef = .slice A n c := hw.1
    clear hf hw
    go_simp
    exact hK _ _ (TB.refl _) rfl
  case s12 =>
    intro a w' K hT hf hw hK
    refine step_free ?_ ?_
    · rfl
    have h27 : a.tmps[27]?.getD undef = .int .i64 (n : Int) := hw.1
    clear hf hw
    go_simp
    exact hK _ _ (TB.refl _) rfl
  case s13 =>
    intro a w' K hT hf hw hK
    refine step_free ?_ ?_
    · rfl
    have h18 : a.tmps[18]?.getD undef = .int .u8 (nad % 256) := hw.1
    have h24 : a.tmps[24]?.getD undef = .int .u8 ((ctlI seq more) % 256) := hw.2.1
    have h28 : a.tmps[28]?.getD undef = .int .u8 ((n : Int) % 256) := hw.2.2.1
    clear hf hw
    go_simp
    refine hK _ _ (TB.alloc _ _) ⟨w'.heap.size, rfl, ?_⟩
    have ho := own_lit (w := w') (B := 0) (e := 5) [u8 (UInt8.ofNat nad.toNat), u8 (UInt8.ofNat (ctlI seq more).toNat), u8 (UInt8.ofNat n)] (Nat.zero_le _) (by simp)
    have hr := ho.rd
    rw [HV.out.2.1, HV.out.2.2.1, HV.out.2.2.2] at hr
    show Rd _ _ _ _ [u8 (UInt8.ofNat nad.toNat), u8 (UInt8.ofNat (ctlI seq more).toNat), u8 (UInt8.ofNat n)]
    rw [HV.out.2.1, HV.out.2.2.1, HV.out.2.2.2]
    exact hr
  case s14 =>
    intro a w' K hT hf hw hK
    refine step_free ?_ ?_
    · rfl
    have h29 := hw.1
    clear hf hw
    obtain ⟨g, h29, hg⟩ := h29
    have h29 : a.tmps[29]?.getD undef = .slice (some ⟨g, 0, none⟩) 3 3 := h29
    have HG := Lib.hid hg
    go_simp
    refine hK _ _ (TB.refl _) ?_
    exact ⟨g, rfl, hg⟩
  case hfin =>
    rintro vs w' hT ⟨f0, f1, f2, f3, f4, f5, f6, f7, f8, f9, f10, f11, f12, f13, f14, -⟩
    have e0 : vs 0 = .pointer (some ⟨w.heap.size, 0, none⟩) := f0
    have e1 : vs 1 = .int .i64 nad := f1
    have e2 : vs 2 = .int .u8 (nad % 256) := f2
    have e3 : vs 3 = .pointer (some ⟨w.heap.size, 1, none⟩) := f3
    have e4 : vs 4 = .int .i64 0 := f4
    have e5 : vs 5 = .iface 44 (.agg #[]) := f5
    have e6 : vs 6 = .agg #[.int .i64 nad, .int .i64 0, .int .i64 seq, .bool more, .int .i64 0, .bool false, .slice A n c] := f6
    have e7 : vs 7 = .int .i64 (ctlI seq more) := f7
    have e8 : vs 8 = .int .u8 ((ctlI seq more) % 256) := f8
    have e9 : vs 9 = .pointer (some ⟨w.heap.size, 6, none⟩) := f9
    have e10 : vs 10 = .slice A n c := f10
    have e11 : vs 11 = .int .i64 (n : Int) := f11
    have e12 : vs 12 = .int .u8 ((n : Int) % 256) := f12
    simp only [putsAt, Act.put, e0, e1, e2, e3, e4, e5, e6, e7, e8, e9, e10, e11, e12]
    simp only [List.setIfInBounds_toArray, List.set_cons_succ, List.set_cons_zero]
    clear e0 e1 e2 e3 e4 e5 e6 e7 e8 e9 e10 e11 e12 f0 f1 f2 f3 f4 f5 f6 f7 f8 f9 f10 f11 f12
    obtain ⟨g1, e13, -⟩ := f13
    obtain ⟨g, e14, hg⟩ := f14
    rw [e13, e14]
    clear e13 e14
    have hbT : Below w.heap.size w w' := hbw.drew.trans (Below.mono hT hbw.size)
    have HJ := Lib.hid (IsBB.lit2 (e := 22) hg (Rd.below HV0.out.1 hbT))
    have hcell : ∀ j, w'.cell? ⟨w.heap.size, j, none⟩ = (w.alloc (.cells #[.int .i64 nad, .int .i64 0, .int .i64 seq, .bool more, .int .i64 0, .bool false, .slice A n c] 24)).cell? ⟨w.heap.size, j, none⟩ := fun j => (TB.cell hT (by have := hb.size; simp at this ⊢; omega)).trans (hb.cell (p := ⟨w.heap.size, j, none⟩) (by simp))
    have HB := Lib.hid hbT
    clear hg hbT
    go_wp2_with fail
    refine (join_any _ _ _ [[UInt8.ofNat nad.toNat, UInt8.ofNat (ctlI seq more).toNat, UInt8.ofNat n], inf] _ HJ.out (by simp; have := HV0.out.2; omega)).mono ?_
    rintro e w2 ⟨A2, n2, c2, rfl, ho2, hb2⟩
    have hb3 : Below w.heap.size w w2 := (HB.out.alloc HB.out.size _).trans (hb2.mono (by have := HB.out.size; simp; omega))
    have HO := Lib.hid (And.intro ho2 hb3)
    clear ho2 hb2 hb3
    go_wp2_with fail
    refine (append_ok k HV0.out.2.2 A2 n2 c2 ([UInt8.ofNat nad.toNat, UInt8.ofNat (ctlI seq more).toNat, UInt8.ofNat n] ++ inf) _ (by have := HO.out.1.rd; rw [flat2] at this; exact this) (by simp; have := HV0.out.2.1; omega)).mono ?_
    rintro e w3 ⟨A3, n3, c3, rfl, ho3, hb4⟩
    have HO3 := Lib.hid (And.intro ho3 hb4)
    clear ho3 hb4
    go_wp2_with fail
    go_ret2
    refine ⟨A3, n3, c3, rfl, ?_, HO.out.2.trans (HO3.out.2.mono HO.out.2.size)⟩
    have h1 := HO3.out.1.base (B' := w.heap.size) HO.out.2.size
    rw [HL.out]
    exact h1

set_option maxRecDepth 8000 in
set_option maxHeartbeats 2000000 in
theorem encode_R (nad seq code : Int)  (A : Option Addr) (n c : Nat) (inf : List UInt8) (k : Int) (hk : k = 0 ∨ k = 1) (w : World) (h : IsB w A n c inf)
    (hok : checkE nad 1 seq false code false inf = 0) (hn0 : 0 ≤ nad) (hn1 : nad ≤ 254) (hv : (seq = 0 ∨ seq = 1) ∧ (code = 0 ∨ code = 1 ∨ code = 2 ∨ code = 3)) (hlen : n ≤ 254) :
    Calls Try.prog 13 #[.agg #[.int .i64 nad, .int .i64 1, .int .i64 seq, .bool false, .int .i64 code, .bool false, .slice A n c], .int .i64 k] w
      fun e w' => ∃ A' n' c', e = .returned (.tuple #[.slice A' n' c', .int .i64 0]) ∧ Own w' w.heap.size 5 A' n' c' ((encB k nad 1 seq false code false inf).map u8) ∧ Below w.heap.size w w' := by
  have hp := sizeN_pos k hk
  have hl := IsB.len h
  have hctl : 0 ≤ ctlR seq code ∧ ctlR seq code < 256 := by unfold ctlR; rcases hv with ⟨rfl | rfl, rfl | rfl | rfl | rfl⟩ <;> simp
  have HV : Hid (((seq = 0 ∨ seq = 1) ∧ (code = 0 ∨ code = 1 ∨ code = 2 ∨ code = 3)) ∧ u8 (UInt8.ofNat nad.toNat) = .int .u8 (nad % 256) ∧ u8 (UInt8.ofNat (ctlR seq code).toNat) = .int .u8 ((ctlR seq code) % 256) ∧ u8 (UInt8.ofNat n) = .int .u8 ((n : Int) % 256)) := ⟨hv, u8_ofInt _ hn0 (by omega), u8_ofInt _ hctl.1 hctl.2, u8_ofNat' _ (by omega)⟩
  have HV0 : Hid (IsB w A n c inf ∧ inf.length ≤ 254 ∧ (k = 0 ∨ k = 1)) := ⟨h, by omega, hk⟩
  have HL : Hid (encB k nad 1 seq false code false inf = [UInt8.ofNat nad.toNat, UInt8.ofNat (ctlR seq code).toNat, UInt8.ofNat n] ++ inf ++ sumB k ([UInt8.ofNat nad.toNat, UInt8.ofNat (ctlR seq code).toNat, UInt8.ofNat n] ++ inf)) := by
    show _ = _
    unfold encB headB
    rw [hl]
    rfl
  have hC : ∀ W, IsB W A n c inf → Calls Try.prog 10 #[.agg #[.int .i64 nad, .int .i64 1, .int .i64 seq, .bool false, .int .i64 code, .bool false, .slice A n c]] W fun e w' => e = .returned (.int .i64 0) ∧ Below W.heap.size W w' := fun W hW => by
    have := check_any nad 1 seq false code false A n c inf W hW
    rwa [hok] at this
  have HC := Lib.hid hC
  have hc0 := hctl.1
  have hc1 := hctl.2
  clear hC hok hl hctl hv
  go_enter Try.func13, Try.ntmps13
  go_wp2_with fail
  refine (size_any k _).mono ?_
  rintro e w1 ⟨rfl, rfl⟩
  rw [sizeI_eq]
  generalize sizeN k = s at *
  have h0 : ((s : Int) == 0) = false := by simp; omega
  go_wp2_with fail
  refine (HC.out _ (h.alloc _)).mono ?_
  rintro e w1 ⟨rfl, hb⟩
  have hbw : Below w.heap.size w w1 := ((Below.refl _ _).alloc (Nat.le_refl _) _).trans (hb.mono (by simp))
  go_wp2_with fail
  refine wp_region_list' (T := TB) [St.is (.pointer (some ⟨w.heap.size, 0, none⟩)), St.is (.int .i64 nad), St.is (.int .u8 (nad % 256)), St.is (.pointer (some ⟨w.heap.size, 1, none⟩)), St.is (.int .i64 1), St.is (.iface 63 (.agg #[])), St.is (.agg #[.int .i64 nad, .int .i64 1, .int .i64 seq, .bool false, .int .i64 code, .bool false, .slice A n c]), St.is (.int .i64 (ctlR seq code)), St.is (.int .u8 ((ctlR seq code) % 256)), St.is (.pointer (some ⟨w.heap.size, 6, none⟩)), St.is (.slice A n c), St.is (.int .i64 (n : Int)), St.is (.int .u8 ((n : Int) % 256)), St.pred (fun v' w' => ∃ g, v' = .slice (some ⟨g, 0, none⟩) 3 3 ∧ IsB w' (some ⟨g, 0, none⟩) 3 3 [UInt8.ofNat nad.toNat, UInt8.ofNat (ctlR seq code).toNat, UInt8.ofNat n]) (fun _ _ _ h q => q.imp fun _ q => ⟨q.1, Rd.below q.2 h⟩), St.pred (fun v' w' => ∃ g, v' = .slice (some ⟨g, 0, none⟩) 3 3 ∧ IsB w' (some ⟨g, 0, none⟩) 3 3 [UInt8.ofNat nad.toNat, UInt8.ofNat (ctlR seq code).toNat, UInt8.ofNat n]) (fun _ _ _ h q => q.imp fun _ q => ⟨q.1, Rd.below q.2 h⟩)] (by kernel_rfl) (by kernel_rfl) (TB.refl) (TB.trans) ⟨?s0, ?s1, ?s2, ?s3, ?s4, ?s5, ?s6, ?s7, ?s8, ?s9, ?s10, ?s11, ?s12, ?s13, ?s14, trivial⟩ ?hfin
  case s0 =>
    intro a w' K hT hf hw hK
    refine step_free ?_ ?_
    · rfl
    have h2 : a.tmps[2]?.getD undef = .pointer (some ⟨w.heap.size, 0, none⟩) := hf 2 (by kernel_rfl)
    clear hf hw
    go_simp
    exact hK _ _ (TB.refl _) rfl
  case s1 =>
    intro a w' K hT hf hw hK
    refine step_free ?_ ?_
    · rfl
    have h16 : a.tmps[16]?.getD undef = .pointer (some ⟨w.heap.size, 0, none⟩) := hw.1
    clear hf hw
    have hcell : ∀ j, w'.cell? ⟨w.heap.size, j, none⟩ = (w.alloc (.cells #[.int .i64 nad, .int .i64 1, .int .i64 seq, .bool false, .int .i64 code, .bool false, .slice A n c] 24)).cell? ⟨w.heap.size, j, none⟩ := fun j => (hT.cell (by have := hb.size; simp at this ⊢; omega)).trans (hb.cell (p := ⟨w.heap.size, j, none⟩) (by simp))
    go_simp
    exact hK _ _ (TB.refl _) rfl
  case s2 =>
    intro a w' K hT hf hw hK
    refine step_free ?_ ?_
    · rfl
    have h17 : a.tmps[17]?.getD undef = .int .i64 nad := hw.1
    clear hf hw
    go_simp
    exact hK _ _ (TB.refl _) rfl
  case s3 =>
    intro a w' K hT hf hw hK
    refine step_free ?_ ?_
    · rfl
    have h2 : a.tmps[2]?.getD undef = .pointer (some ⟨w.heap.size, 0, none⟩) := hf 2 (by kernel_rfl)
    clear hf hw
    go_simp
    exact hK _ _ (TB.refl _) rfl
  case s4 =>
    intro a w' K hT hf hw hK
    refine step_free ?_ ?_
    · rfl
    have h19 : a.tmps[19]?.getD undef = .pointer (some ⟨w.heap.size, 1, none⟩) := hw.1
    clear hf hw
    have hcell : ∀ j, w'.cell? ⟨w.heap.size, j, none⟩ = (w.alloc (.cells #[.int .i64 nad, .int .i64 1, .int .i64 seq, .bool false, .int .i64 code, .bool false, .slice A n c] 24)).cell? ⟨w.heap.size, j, none⟩ := fun j => (hT.cell (by have := hb.size; simp at this ⊢; omega)).trans (hb.cell (p := ⟨w.heap.size, j, none⟩) (by simp))
    go_simp
    exact hK _ _ (TB.refl _) rfl
  case s5 =>
    intro a w' K hT hf hw hK
    refine step_free ?_ ?_
    · rfl
    have h20 : a.tmps[20]?.getD undef = .int .i64 1 := hw.1
    clear hf hw
    go_simp
    refine (kindOf_1 _).mono ?_
    rintro e w2 ⟨rfl, rfl⟩
    exact hK _ _ (TB.refl _) rfl
  case s6 =>
    intro a w' K hT hf hw hK
    refine step_free ?_ ?_
    · rfl
    have h2 : a.tmps[2]?.getD undef = .pointer (some ⟨w.heap.size, 0, none⟩) := hf 2 (by kernel_rfl)
    clear hf hw
    have hcell : ∀ j, w'.cell? ⟨w.heap.size, j, none⟩ = (w.alloc (.cells #[.int .i64 nad, .int .i64 1, .int .i64 seq, .bool false, .int .i64 code, .bool false, .slice A n c] 24)).cell? ⟨w.heap.size, j, none⟩ := fun j => (hT.cell (by have := hb.size; simp at this ⊢; omega)).trans (hb.cell (p := ⟨w.heap.size, j, none⟩) (by simp))
    go_simp
    exact hK _ _ (TB.refl _) rfl
  case s7 =>
    intro a w' K hT hf hw hK
    refine step_free ?_ ?_
    · rfl
    have h21 : a.tmps[21]?.getD undef = .iface 63 (.agg #[]) := hw.1
    have h22 : a.tmps[22]?.getD undef = .agg #[.int .i64 nad, .int .i64 1, .int .i64 seq, .bool false, .int .i64 code, .bool false, .slice A n c] := hw.2.1
    clear hf hw
    go_simp
    refine (control_R _ _ _ _ _ _ _ _ HV.out.1.1 HV.out.1.2).mono ?_
    rintro e w2 ⟨rfl, hb2⟩
    exact hK _ _ hb2 rfl
  case s8 =>
    intro a w' K hT hf hw hK
    refine step_free ?_ ?_
    · rfl
    have h23 : a.tmps[23]?.getD undef = .int .i64 (ctlR seq code) := hw.1
    clear hf hw
    go_simp
    exact hK _ _ (TB.refl _) rfl
  case s9 =>
    intro a w' K hT hf hw hK
    refine step_free ?_ ?_
    · rfl
    have h2 : a.tmps[2]?.getD undef = .pointer (some ⟨w.heap.size, 0, none⟩) := hf 2 (by kernel_rfl)
    clear hf hw
    go_simp
    exact hK _ _ (TB.refl _) rfl
  case s10 =>
    intro a w' K hT hf hw hK
    refine step_free ?_ ?_
    · rfl
    have h25 : a.tmps[25]?.getD undef = .pointer (some ⟨w.heap.size, 6, none⟩) := hw.1
    clear hf hw
    have hcell : ∀ j, w'.cell? ⟨w.heap.size, j, none⟩ = (w.alloc (.cells #[.int .i64 nad, .int .i64 1, .int .i64 seq, .bool false, .int .i64 code, .bool false, .slice A n c] 24)).cell? ⟨w.heap.size, j, none⟩ := fun j => (hT.cell (by have := hb.size; simp at this ⊢; omega)).trans (hb.cell (p := ⟨w.heap.size, j, none⟩) (by simp))
    go_simp
    exact hK _ _ (TB.refl _) rfl
  case s11 =>
    intro a w' K hT hf hw hK
    refine step_free ?_ ?_
    · rfl
    have h26 : a.tmps[26]?.getD undef = .slice A n c := hw.1
    clear hf hw
    go_simp
    exact hK _ _ (TB.refl _) rfl
  case s12 =>
    intro a w' K hT hf hw hK
    refine step_free ?_ ?_
    · rfl
    have h27 : a.tmps[27]?.getD undef = .int .i64 (n : Int) := hw.1
    clear hf hw
    go_simp
    exact hK _ _ (TB.refl _) rfl
  case s13 =>
    intro a w' K hT hf hw hK
    refine step_free ?_ ?_
    · rfl
    have h18 : a.tmps[18]?.getD undef = .int .u8 (nad % 256) := hw.1
    have h24 : a.tmps[24]?.getD undef = .int .u8 ((ctlR seq code) % 256) := hw.2.1
    have h28 : a.tmps[28]?.getD undef = .int .u8 ((n : Int) % 256) := hw.2.2.1
    clear hf hw
    go_simp
    refine hK _ _ (TB.alloc _ _) ⟨w'.heap.size, rfl, ?_⟩
    have ho := own_lit (w := w') (B := 0) (e := 5) [u8 (UInt8.ofNat nad.toNat), u8 (UInt8.ofNat (ctlR seq code).toNat), u8 (UInt8.ofNat n)] (Nat.zero_le _) (by simp)
    have hr := ho.rd
    rw [HV.out.2.1, HV.out.2.2.1, HV.out.2.2.2] at hr
    show Rd _ _ _ _ [u8 (UInt8.ofNat nad.toNat), u8 (UInt8.ofNat (ctlR seq code).toNat), u8 (UInt8.ofNat n)]
    rw [HV.out.2.1, HV.out.2.2.1, HV.out.2.2.2]
    exact hr
  case s14 =>
    intro a w' K hT hf hw hK
    refine step_free ?_ ?_
    · rfl
    have h29 := hw.1
    clear hf hw
    obtain ⟨g, h29, hg⟩ := h29
    have h29 : a.tmps[29]?.getD undef = .slice (some ⟨g, 0, none⟩) 3 3 := h29
    have HG := Lib.hid hg
    go_simp
    refine hK _ _ (TB.refl _) ?_
    exact ⟨g, rfl, hg⟩
  case hfin =>
    rintro vs w' hT ⟨f0, f1, f2, f3, f4, f5, f6, f7, f8, f9, f10, f11, f12, f13, f14, -⟩
    have e0 : vs 0 = .pointer (some ⟨w.heap.size, 0, none⟩) := f0
    have e1 : vs 1 = .int .i64 nad := f1
    have e2 : vs 2 = .int .u8 (nad % 256) := f2
    have e3 : vs 3 = .pointer (some ⟨w.heap.size, 1, none⟩) := f3
    have e4 : vs 4 = .int .i64 1 := f4
    have e5 : vs 5 = .iface 63 (.agg #[]) := f5
    have e6 : vs 6 = .agg #[.int .i64 nad, .int .i64 1, .int .i64 seq, .bool false, .int .i64 code, .bool false, .slice A n c] := f6
    have e7 : vs 7 = .int .i64 (ctlR seq code) := f7
    have e8 : vs 8 = .int .u8 ((ctlR seq code) % 256) := f8
    have e9 : vs 9 = .pointer (some ⟨w.heap.size, 6, none⟩) := f9
    have e10 : vs 10 = .slice A n c := f10
    have e11 : vs 11 = .int .i64 (n : Int) := f11
    have e12 : vs 12 = .int .u8 ((n : Int) % 256) := f12
    simp only [putsAt, Act.put, e0, e1, e2, e3, e4, e5, e6, e7, e8, e9, e10, e11, e12]
    simp only [List.setIfInBounds_toArray, List.set_cons_succ, List.set_cons_zero]
    clear e0 e1 e2 e3 e4 e5 e6 e7 e8 e9 e10 e11 e12 f0 f1 f2 f3 f4 f5 f6 f7 f8 f9 f10 f11 f12
    obtain ⟨g1, e13, -⟩ := f13
    obtain ⟨g, e14, hg⟩ := f14
    rw [e13, e14]
    clear e13 e14
    have hbT : Below w.heap.size w w' := hbw.drew.trans (Below.mono hT hbw.size)
    have HJ := Lib.hid (IsBB.lit2 (e := 22) hg (Rd.below HV0.out.1 hbT))
    have hcell : ∀ j, w'.cell? ⟨w.heap.size, j, none⟩ = (w.alloc (.cells #[.int .i64 nad, .int .i64 1, .int .i64 seq, .bool false, .int .i64 code, .bool false, .slice A n c] 24)).cell? ⟨w.heap.size, j, none⟩ := fun j => (TB.cell hT (by have := hb.size; simp at this ⊢; omega)).trans (hb.cell (p := ⟨w.heap.size, j, none⟩) (by simp))
    have HB := Lib.hid hbT
    clear hg hbT
    go_wp2_with fail
    refine (join_any _ _ _ [[UInt8.ofNat nad.toNat, UInt8.ofNat (ctlR seq code).toNat, UInt8.ofNat n], inf] _ HJ.out (by simp; have := HV0.out.2; omega)).mono ?_
    rintro e w2 ⟨A2, n2, c2, rfl, ho2, hb2⟩
    have hb3 : Below w.heap.size w w2 := (HB.out.alloc HB.out.size _).trans (hb2.mono (by have := HB.out.size; simp; omega))
    have HO := Lib.hid (And.intro ho2 hb3)
    clear ho2 hb2 hb3
    go_wp2_with fail
    refine (append_ok k HV0.out.2.2 A2 n2 c2 ([UInt8.ofNat nad.toNat, UInt8.ofNat (ctlR seq code).toNat, UInt8.ofNat n] ++ inf) _ (by have := HO.out.1.rd; rw [flat2] at this; exact this) (by simp; have := HV0.out.2.1; omega)).mono ?_
    rintro e w3 ⟨A3, n3, c3, rfl, ho3, hb4⟩
    have HO3 := Lib.hid (And.intro ho3 hb4)
    clear ho3 hb4
    go_wp2_with fail
    go_ret2
    refine ⟨A3, n3, c3, rfl, ?_, HO.out.2.trans (HO3.out.2.mono HO.out.2.size)⟩
    have h1 := HO3.out.1.base (B' := w.heap.size) HO.out.2.size
    rw [HL.out]
    exact h1

set_option maxRecDepth 8000 in
set_option maxHeartbeats 2000000 in
theorem encode_S (nad code : Int) (answer : Bool) (A : Option Addr) (n c : Nat) (inf : List UInt8) (k : Int) (hk : k = 0 ∨ k = 1) (w : World) (h : IsB w A n c inf)
    (hok : checkE nad 2 0 false code answer inf = 0) (hn0 : 0 ≤ nad) (hn1 : nad ≤ 254) (hv : (code = 0 ∨ code = 1 ∨ code = 2 ∨ code = 3)) (hlen : n ≤ 254) :
    Calls Try.prog 13 #[.agg #[.int .i64 nad, .int .i64 2, .int .i64 0, .bool false, .int .i64 code, .bool answer, .slice A n c], .int .i64 k] w
      fun e w' => ∃ A' n' c', e = .returned (.tuple #[.slice A' n' c', .int .i64 0]) ∧ Own w' w.heap.size 5 A' n' c' ((encB k nad 2 0 false code answer inf).map u8) ∧ Below w.heap.size w w' := by
  have hp := sizeN_pos k hk
  have hl := IsB.len h
  have hctl : 0 ≤ ctlS code answer ∧ ctlS code answer < 256 := by unfold ctlS; rcases hv with rfl | rfl | rfl | rfl <;> cases answer <;> simp
  have HV : Hid (((code = 0 ∨ code = 1 ∨ code = 2 ∨ code = 3)) ∧ u8 (UInt8.ofNat nad.toNat) = .int .u8 (nad % 256) ∧ u8 (UInt8.ofNat (ctlS code answer).toNat) = .int .u8 ((ctlS code answer) % 256) ∧ u8 (UInt8.ofNat n) = .int .u8 ((n : Int) % 256)) := ⟨hv, u8_ofInt _ hn0 (by omega), u8_ofInt _ hctl.1 hctl.2, u8_ofNat' _ (by omega)⟩
  have HV0 : Hid (IsB w A n c inf ∧ inf.length ≤ 254 ∧ (k = 0 ∨ k = 1)) := ⟨h, by omega, hk⟩
  have HL : Hid (encB k nad 2 0 false code answer inf = [UInt8.ofNat nad.toNat, UInt8.ofNat (ctlS code answer).toNat, UInt8.ofNat n] ++ inf ++ sumB k ([UInt8.ofNat nad.toNat, UInt8.ofNat (ctlS code answer).toNat, UInt8.ofNat n] ++ inf)) := by
    show _ = _
    unfold encB headB
    rw [hl]
    rfl
  have hC : ∀ W, IsB W A n c inf → Calls Try.prog 10 #[.agg #[.int .i64 nad, .int .i64 2, .int .i64 0, .bool false, .int .i64 code, .bool answer, .slice A n c]] W fun e w' => e = .returned (.int .i64 0) ∧ Below W.heap.size W w' := fun W hW => by
    have := check_any nad 2 0 false code answer A n c inf W hW
    rwa [hok] at this
  have HC := Lib.hid hC
  have hc0 := hctl.1
  have hc1 := hctl.2
  clear hC hok hl hctl hv
  go_enter Try.func13, Try.ntmps13
  go_wp2_with fail
  refine (size_any k _).mono ?_
  rintro e w1 ⟨rfl, rfl⟩
  rw [sizeI_eq]
  generalize sizeN k = s at *
  have h0 : ((s : Int) == 0) = false := by simp; omega
  go_wp2_with fail
  refine (HC.out _ (h.alloc _)).mono ?_
  rintro e w1 ⟨rfl, hb⟩
  have hbw : Below w.heap.size w w1 := ((Below.refl _ _).alloc (Nat.le_refl _) _).trans (hb.mono (by simp))
  go_wp2_with fail
  refine wp_region_list' (T := TB) [St.is (.pointer (some ⟨w.heap.size, 0, none⟩)), St.is (.int .i64 nad), St.is (.int .u8 (nad % 256)), St.is (.pointer (some ⟨w.heap.size, 1, none⟩)), St.is (.int .i64 2), St.is (.iface 46 (.agg #[])), St.is (.agg #[.int .i64 nad, .int .i64 2, .int .i64 0, .bool false, .int .i64 code, .bool answer, .slice A n c]), St.is (.int .i64 (ctlS code answer)), St.is (.int .u8 ((ctlS code answer) % 256)), St.is (.pointer (some ⟨w.heap.size, 6, none⟩)), St.is (.slice A n c), St.is (.int .i64 (n : Int)), St.is (.int .u8 ((n : Int) % 256)), St.pred (fun v' w' => ∃ g, v' = .slice (some ⟨g, 0, none⟩) 3 3 ∧ IsB w' (some ⟨g, 0, none⟩) 3 3 [UInt8.ofNat nad.toNat, UInt8.ofNat (ctlS code answer).toNat, UInt8.ofNat n]) (fun _ _ _ h q => q.imp fun _ q => ⟨q.1, Rd.below q.2 h⟩), St.pred (fun v' w' => ∃ g, v' = .slice (some ⟨g, 0, none⟩) 3 3 ∧ IsB w' (some ⟨g, 0, none⟩) 3 3 [UInt8.ofNat nad.toNat, UInt8.ofNat (ctlS code answer).toNat, UInt8.ofNat n]) (fun _ _ _ h q => q.imp fun _ q => ⟨q.1, Rd.below q.2 h⟩)] (by kernel_rfl) (by kernel_rfl) (TB.refl) (TB.trans) ⟨?s0, ?s1, ?s2, ?s3, ?s4, ?s5, ?s6, ?s7, ?s8, ?s9, ?s10, ?s11, ?s12, ?s13, ?s14, trivial⟩ ?hfin
  case s0 =>
    intro a w' K hT hf hw hK
    refine step_free ?_ ?_
    · rfl
    have h2 : a.tmps[2]?.getD undef = .pointer (some ⟨w.heap.size, 0, none⟩) := hf 2 (by kernel_rfl)
    clear hf hw
    go_simp
    exact hK _ _ (TB.refl _) rfl
  case s1 =>
    intro a w' K hT hf hw hK
    refine step_free ?_ ?_
    · rfl
    have h16 : a.tmps[16]?.getD undef = .pointer (some ⟨w.heap.size, 0, none⟩) := hw.1
    clear hf hw
    have hcell : ∀ j, w'.cell? ⟨w.heap.size, j, none⟩ = (w.alloc (.cells #[.int .i64 nad, .int .i64 2, .int .i64 0, .bool false, .int .i64 code, .bool answer, .slice A n c] 24)).cell? ⟨w.heap.size, j, none⟩ := fun j => (hT.cell (by have := hb.size; simp at this ⊢; omega)).trans (hb.cell (p := ⟨w.heap.size, j, none⟩) (by simp))
    go_simp
    exact hK _ _ (TB.refl _) rfl
  case s2 =>
    intro a w' K hT hf hw hK
    refine step_free ?_ ?_
    · rfl
    have h17 : a.tmps[17]?.getD undef = .int .i64 nad := hw.1
    clear hf hw
    go_simp
    exact hK _ _ (TB.refl _) rfl
  case s3 =>
    intro a w' K hT hf hw hK
    refine step_free ?_ ?_
    · rfl
    have h2 : a.tmps[2]?.getD undef = .pointer (some ⟨w.heap.size, 0, none⟩) := hf 2 (by kernel_rfl)
    clear hf hw
    go_simp
    exact hK _ _ (TB.refl _) rfl
  case s4 =>
    intro a w' K hT hf hw hK
    refine step_free ?_ ?_
    · rfl
    have h19 : a.tmps[19]?.getD undef = .pointer (some ⟨w.heap.size, 1, none⟩) := hw.1
    clear hf hw
    have hcell : ∀ j, w'.cell? ⟨w.heap.size, j, none⟩ = (w.alloc (.cells #[.int .i64 nad, .int .i64 2, .int .i64 0, .bool false, .int .i64 code, .bool answer, .slice A n c] 24)).cell? ⟨w.heap.size, j, none⟩ := fun j => (hT.cell (by have := hb.size; simp at this ⊢; omega)).trans (hb.cell (p := ⟨w.heap.size, j, none⟩) (by simp))
    go_simp
    exact hK _ _ (TB.refl _) rfl
  case s5 =>
    intro a w' K hT hf hw hK
    refine step_free ?_ ?_
    · rfl
    have h20 : a.tmps[20]?.getD undef = .int .i64 2 := hw.1
    clear hf hw
    go_simp
    refine (kindOf_2 _).mono ?_
    rintro e w2 ⟨rfl, rfl⟩
    exact hK _ _ (TB.refl _) rfl
  case s6 =>
    intro a w' K hT hf hw hK
    refine step_free ?_ ?_
    · rfl
    have h2 : a.tmps[2]?.getD undef = .pointer (some ⟨w.heap.size, 0, none⟩) := hf 2 (by kernel_rfl)
    clear hf hw
    have hcell : ∀ j, w'.cell? ⟨w.heap.size, j, none⟩ = (w.alloc (.cells #[.int .i64 nad, .int .i64 2, .int .i64 0, .bool false, .int .i64 code, .bool answer, .slice A n c] 24)).cell? ⟨w.heap.size, j, none⟩ := fun j => (hT.cell (by have := hb.size; simp at this ⊢; omega)).trans (hb.cell (p := ⟨w.heap.size, j, none⟩) (by simp))
    go_simp
    exact hK _ _ (TB.refl _) rfl
  case s7 =>
    intro a w' K hT hf hw hK
    refine step_free ?_ ?_
    · rfl
    have h21 : a.tmps[21]?.getD undef = .iface 46 (.agg #[]) := hw.1
    have h22 : a.tmps[22]?.getD undef = .agg #[.int .i64 nad, .int .i64 2, .int .i64 0, .bool false, .int .i64 code, .bool answer, .slice A n c] := hw.2.1
    clear hf hw
    go_simp
    refine (control_S _ _ _ _ _ _ _ _ HV.out.1).mono ?_
    rintro e w2 ⟨rfl, hb2⟩
    exact hK _ _ hb2 rfl
  case s8 =>
    intro a w' K hT hf hw hK
    refine step_free ?_ ?_
    · rfl
    have h23 : a.tmps[23]?.getD undef = .int .i64 (ctlS code answer) := hw.1
    clear hf hw
    go_simp
    exact hK _ _ (TB.refl _) rfl
  case s9 =>
    intro a w' K hT hf hw hK
    refine step_free ?_ ?_
    · rfl
    have h2 : a.tmps[2]?.getD undef = .pointer (some ⟨w.heap.size, 0, none⟩) := hf 2 (by kernel_rfl)
    clear hf hw
    go_simp
    exact hK _ _ (TB.refl _) rfl
  case s10 =>
    intro a w' K hT hf hw hK
    refine step_free ?_ ?_
    · rfl
    have h25 : a.tmps[25]?.getD undef = .pointer (some ⟨w.heap.size, 6, none⟩) := hw.1
    clear hf hw
    have hcell : ∀ j, w'.cell? ⟨w.heap.size, j, none⟩ = (w.alloc (.cells #[.int .i64 nad, .int .i64 2, .int .i64 0, .bool false, .int .i64 code, .bool answer, .slice A n c] 24)).cell? ⟨w.heap.size, j, none⟩ := fun j => (hT.cell (by have := hb.size; simp at this ⊢; omega)).trans (hb.cell (p := ⟨w.heap.size, j, none⟩) (by simp))
    go_simp
    exact hK _ _ (TB.refl _) rfl
  case s11 =>
    intro a w' K hT hf hw hK
    refine step_free ?_ ?_
    · rfl
    have h26 : a.tmps[26]?.getD undef = .slice A n c := hw.1
    clear hf hw
    go_simp
    exact hK _ _ (TB.refl _) rfl
  case s12 =>
    intro a w' K hT hf hw hK
    refine step_free ?_ ?_
    · rfl
    have h27 : a.tmps[27]?.getD undef = .int .i64 (n : Int) := hw.1
    clear hf hw
    go_simp
    exact hK _ _ (TB.refl _) rfl
  case s13 =>
    intro a w' K hT hf hw hK
    refine step_free ?_ ?_
    · rfl
    have h18 : a.tmps[18]?.getD undef = .int .u8 (nad % 256) := hw.1
    have h24 : a.tmps[24]?.getD undef = .int .u8 ((ctlS code answer) % 256) := hw.2.1
    have h28 : a.tmps[28]?.getD undef = .int .u8 ((n : Int) % 256) := hw.2.2.1
    clear hf hw
    go_simp
    refine hK _ _ (TB.alloc _ _) ⟨w'.heap.size, rfl, ?_⟩
    have ho := own_lit (w := w') (B := 0) (e := 5) [u8 (UInt8.ofNat nad.toNat), u8 (UInt8.ofNat (ctlS code answer).toNat), u8 (UInt8.ofNat n)] (Nat.zero_le _) (by simp)
    have hr := ho.rd
    rw [HV.out.2.1, HV.out.2.2.1, HV.out.2.2.2] at hr
    show Rd _ _ _ _ [u8 (UInt8.ofNat nad.toNat), u8 (UInt8.ofNat (ctlS code answer).toNat), u8 (UInt8.ofNat n)]
    rw [HV.out.2.1, HV.out.2.2.1, HV.out.2.2.2]
    exact hr
  case s14 =>
    intro a w' K hT hf hw hK
    refine step_free ?_ ?_
    · rfl
    have h29 := hw.1
    clear hf hw
    obtain ⟨g, h29, hg⟩ := h29
    have h29 : a.tmps[29]?.getD undef = .slice (some ⟨g, 0, none⟩) 3 3 := h29
    have HG := Lib.hid hg
    go_simp
    refine hK _ _ (TB.refl _) ?_
    exact ⟨g, rfl, hg⟩
  case hfin =>
    rintro vs w' hT ⟨f0, f1, f2, f3, f4, f5, f6, f7, f8, f9, f10, f11, f12, f13, f14, -⟩
    have e0 : vs 0 = .pointer (some ⟨w.heap.size, 0, none⟩) := f0
    have e1 : vs 1 = .int .i64 nad := f1
    have e2 : vs 2 = .int .u8 (nad % 256) := f2
    have e3 : vs 3 = .pointer (some ⟨w.heap.size, 1, none⟩) := f3
    have e4 : vs 4 = .int .i64 2 := f4
    have e5 : vs 5 = .iface 46 (.agg #[]) := f5
    have e6 : vs 6 = .agg #[.int .i64 nad, .int .i64 2, .int .i64 0, .bool false, .int .i64 code, .bool answer, .slice A n c] := f6
    have e7 : vs 7 = .int .i64 (ctlS code answer) := f7
    have e8 : vs 8 = .int .u8 ((ctlS code answer) % 256) := f8
    have e9 : vs 9 = .pointer (some ⟨w.heap.size, 6, none⟩) := f9
    have e10 : vs 10 = .slice A n c := f10
    have e11 : vs 11 = .int .i64 (n : Int) := f11
    have e12 : vs 12 = .int .u8 ((n : Int) % 256) := f12
    simp only [putsAt, Act.put, e0, e1, e2, e3, e4, e5, e6, e7, e8, e9, e10, e11, e12]
    simp only [List.setIfInBounds_toArray, List.set_cons_succ, List.set_cons_zero]
    clear e0 e1 e2 e3 e4 e5 e6 e7 e8 e9 e10 e11 e12 f0 f1 f2 f3 f4 f5 f6 f7 f8 f9 f10 f11 f12
    obtain ⟨g1, e13, -⟩ := f13
    obtain ⟨g, e14, hg⟩ := f14
    rw [e13, e14]
    clear e13 e14
    have hbT : Below w.heap.size w w' := hbw.drew.trans (Below.mono hT hbw.size)
    have HJ := Lib.hid (IsBB.lit2 (e := 22) hg (Rd.below HV0.out.1 hbT))
    have hcell : ∀ j, w'.cell? ⟨w.heap.size, j, none⟩ = (w.alloc (.cells #[.int .i64 nad, .int .i64 2, .int .i64 0, .bool false, .int .i64 code, .bool answer, .slice A n c] 24)).cell? ⟨w.heap.size, j, none⟩ := fun j => (TB.cell hT (by have := hb.size; simp at this ⊢; omega)).trans (hb.cell (p := ⟨w.heap.size, j, none⟩) (by simp))
    have HB := Lib.hid hbT
    clear hg hbT
    go_wp2_with fail
    refine (join_any _ _ _ [[UInt8.ofNat nad.toNat, UInt8.ofNat (ctlS code answer).toNat, UInt8.ofNat n], inf] _ HJ.out (by simp; have := HV0.out.2; omega)).mono ?_
    rintro e w2 ⟨A2, n2, c2, rfl, ho2, hb2⟩
    have hb3 : Below w.heap.size w w2 := (HB.out.alloc HB.out.size _).trans (hb2.mono (by have := HB.out.size; simp; omega))
    have HO := Lib.hid (And.intro ho2 hb3)
    clear ho2 hb2 hb3
    go_wp2_with fail
    refine (append_ok k HV0.out.2.2 A2 n2 c2 ([UInt8.ofNat nad.toNat, UInt8.ofNat (ctlS code answer).toNat, UInt8.ofNat n] ++ inf) _ (by have := HO.out.1.rd; rw [flat2] at this; exact this) (by simp; have := HV0.out.2.1; omega)).mono ?_
    rintro e w3 ⟨A3, n3, c3, rfl, ho3, hb4⟩
    have HO3 := Lib.hid (And.intro ho3 hb4)
    clear ho3 hb4
    go_wp2_with fail
    go_ret2
    refine ⟨A3, n3, c3, rfl, ?_, HO.out.2.trans (HO3.out.2.mono HO.out.2.size)⟩
    have h1 := HO3.out.1.base (B' := w.heap.size) HO.out.2.size
    rw [HL.out]
    exact h1
end Go.Proofs.Ytpfihchdbdhbjaa
