/- smartcardref06.Encode: the walk; and one statement for each Encode (printed by wip/gen/rencode.py). -/
import Derived.Test.YtpfihchdbdhbjaaN
import Derived.Test.YtpfihchdbdhbjaaG
namespace Go.Proofs.Ytpfihchdbdhbjaa
open Go.RowKit
set_option linter.unusedVariables false
section
variable {nad kind seq : Int} {more : Bool} {code : Int} {answer : Bool} {inf : List UInt8}
/-- What a block that is in order has. -/
theorem ok_facts (h : checkE nad kind seq more code answer inf = 0) : (0 ≤ nad ∧ nad ≤ 254) ∧ inf.length ≤ 254 ∧
    ((kind = 0 ∧ (seq = 0 ∨ seq = 1) ∧ code = 0 ∧ answer = false) ∨ (kind = 1 ∧ (seq = 0 ∨ seq = 1) ∧ (code = 0 ∨ code = 1 ∨ code = 2 ∨ code = 3) ∧ more = false ∧ answer = false) ∨ (kind = 2 ∧ seq = 0 ∧ (code = 0 ∨ code = 1 ∨ code = 2 ∨ code = 3) ∧ more = false)) := by
  unfold checkE at h
  by_cases h1 : kind < 0 ∨ 2 < kind
  · rw [if_pos h1] at h; exact absurd h (by decide)
  rw [if_neg h1] at h
  by_cases h2 : nad < 0 ∨ 254 < nad
  · rw [if_pos h2] at h; exact absurd h (by decide)
  rw [if_neg h2] at h
  by_cases h3 : kind ≠ 2 ∧ (seq < 0 ∨ 1 < seq)
  · rw [if_pos h3] at h; exact absurd h (by decide)
  rw [if_neg h3] at h
  by_cases h4 : kind ≠ 0 ∧ (code < 0 ∨ (if kind = 1 then 3 else 4) ≤ code)
  · rw [if_pos h4] at h; exact absurd h (by decide)
  rw [if_neg h4] at h
  by_cases h5 : (kind = 2 ∧ seq ≠ 0) ∨ (kind = 0 ∧ code ≠ 0) ∨ (kind ≠ 0 ∧ more = true) ∨ (kind ≠ 2 ∧ answer = true)
  · rw [if_pos h5] at h; exact absurd h (by decide)
  rw [if_neg h5] at h
  unfold infE at h
  refine ⟨by omega, ?_, ?_⟩
  · by_cases k0 : kind = 0
    · rw [if_pos k0] at h
      by_cases hl : 254 < inf.length
      · rw [if_pos hl] at h; exact absurd h (by decide)
      · omega
    · rw [if_neg k0] at h
      split at h
      · split at h
        · omega
        · exact absurd h (by decide)
      · split at h
        · omega
        · exact absurd h (by decide)
  · have hm : kind ≠ 0 → more = false := fun k => by
      cases more
      · rfl
      · exact absurd (.inr (.inr (.inl ⟨k, rfl⟩))) h5
    have ha : kind ≠ 2 → answer = false := fun k => by
      cases answer
      · rfl
      · exact absurd (.inr (.inr (.inr ⟨k, rfl⟩))) h5
    have hk : kind = 0 ∨ kind = 1 ∨ kind = 2 := by omega
    rcases hk with rfl | rfl | rfl
    · exact .inl ⟨rfl, by omega, by omega, ha (by decide)⟩
    · simp at h4
      exact .inr (.inl ⟨rfl, by omega, by omega, hm (by decide), ha (by decide)⟩)
    · simp at h4
      exact .inr (.inr ⟨rfl, by omega, by omega, hm (by decide)⟩)
theorem ctl_ok (h : checkE nad kind seq more code answer inf = 0) : 0 ≤ ctlN kind seq more code answer ∧ ctlN kind seq more code answer < 256 := by
  obtain ⟨-, -, ⟨rfl, hs, rfl, rfl⟩ | ⟨rfl, hs, hc, rfl, rfl⟩ | ⟨rfl, rfl, hc, rfl⟩⟩ := ok_facts h
  · unfold ctlN ctlI; rcases hs with rfl | rfl <;> cases more <;> simp
  · unfold ctlN ctlR; rcases hs with rfl | rfl <;> rcases hc with rfl | rfl | rfl | rfl <;> simp
  · unfold ctlN ctlS; rcases hc with rfl | rfl | rfl | rfl <;> cases answer <;> simp
theorem rcontrol_ok (v : Value) (h : checkE nad kind seq more code answer inf = 0) (w : World) : Calls Try.prog 30 #[.agg #[.int .i64 nad, .int .i64 kind, .int .i64 seq, .bool more, .int .i64 code, .bool answer, v]] w
      fun e w' => e = .returned (.int .i64 (ctlN kind seq more code answer)) ∧ Below w.heap.size w w' := by
  obtain ⟨-, -, ⟨rfl, hs, rfl, rfl⟩ | ⟨rfl, hs, hc, rfl, rfl⟩ | ⟨rfl, rfl, hc, rfl⟩⟩ := ok_facts h
  · exact rcontrol_I nad seq more 0 false v w hs
  · exact rcontrol_R nad seq false code false v w hs hc
  · exact rcontrol_S nad 0 false code answer v w hc
end
/-- The bytes that Encode answers. -/
def encE (k nad kind seq : Int) (more : Bool) (code : Int) (answer : Bool) (inf : List UInt8) : Int := if k = 0 ∨ k = 1 then checkE nad kind seq more code answer inf else 1
def encL (k nad kind seq : Int) (more : Bool) (code : Int) (answer : Bool) (inf : List UInt8) : List UInt8 := if encE k nad kind seq more code answer inf = 0 then encB k nad kind seq more code answer inf else []
/-- What Encode answers. -/
def EncPost (k nad kind seq : Int) (more : Bool) (code : Int) (answer : Bool) (inf : List UInt8) (w : World) (e : Ending) (w' : World) : Prop :=
  ∃ A n c, e = .returned (.tuple #[.slice A n c, .int .i64 (encE k nad kind seq more code answer inf)]) ∧ Own w' w.heap.size 5 A n c ((encL k nad kind seq more code answer inf).map u8) ∧ Below w.heap.size w w'
section
variable (nad kind seq : Int) (more : Bool) (code : Int) (answer : Bool) (A : Option Addr) (n c : Nat) (inf : List UInt8) (k : Int) (w : World)
theorem encPost_bad {er : Int} (h : encE k nad kind seq more code answer inf = er) (hne : er ≠ 0) : ∀ e w', (e = .returned (.tuple #[.slice none 0 0, .int .i64 er]) ∧ Below w.heap.size w w') → EncPost k nad kind seq more code answer inf w e w' := by
  rintro e w' ⟨rfl, hb⟩
  unfold EncPost encL
  rw [h, if_neg hne]
  exact ⟨none, 0, 0, rfl, Own.nil _ _, hb⟩
theorem encPost_ok (h : encE k nad kind seq more code answer inf = 0) : ∀ e w', (∃ A' n' c', e = .returned (.tuple #[.slice A' n' c', .int .i64 0]) ∧ Own w' w.heap.size 5 A' n' c' ((encB k nad kind seq more code answer inf).map u8) ∧ Below w.heap.size w w') → EncPost k nad kind seq more code answer inf w e w' := by
  rintro e w' ⟨A', n', c', rfl, ho, hb⟩
  unfold EncPost encL
  rw [h, if_pos rfl]
  exact ⟨A', n', c', rfl, ho, hb⟩
theorem enc_any (h : IsB w A n c inf) : Calls Try.prog 13 #[.agg #[.int .i64 nad, .int .i64 kind, .int .i64 seq, .bool more, .int .i64 code, .bool answer, .slice A n c], .int .i64 k] w (EncPost k nad kind seq more code answer inf w) := by
  have hl := IsB.len h
  by_cases hk : k = 0 ∨ k = 1
  case neg => exact (encode_kind nad kind seq more code answer _ k hk w).mono (encPost_bad nad kind seq more code answer inf k w (by unfold encE; rw [if_neg hk]) (by decide))
  have hE : encE k nad kind seq more code answer inf = checkE nad kind seq more code answer inf := by unfold encE; rw [if_pos hk]
  by_cases hc : checkE nad kind seq more code answer inf = 0
  case neg => exact (encode_bad nad kind seq more code answer A n c inf k hk w h hc).mono (encPost_bad nad kind seq more code answer inf k w hE hc)
  rw [hc] at hE
  refine Calls.mono ?_ (encPost_ok nad kind seq more code answer inf k w hE)
  clear hE
  obtain ⟨hn, hi, ⟨rfl, hs, rfl, rfl⟩ | ⟨rfl, hs, hc', rfl, rfl⟩ | ⟨rfl, rfl, hc', rfl⟩⟩ := ok_facts hc
  · exact encode_I nad seq more A n c inf k hk w h hc hn.1 hn.2 hs (by omega)
  · exact encode_R nad seq code A n c inf k hk w h hc hn.1 hn.2 ⟨hs, hc'⟩ (by omega)
  · exact encode_S nad code answer A n c inf k hk w h hc hn.1 hn.2 hc' (by omega)

set_option maxHeartbeats 400000 in
theorem rencode_kind (v : Value) (hk : ¬ (k = 0 ∨ k = 1)) :
    Calls Try.prog 14 #[.agg #[.int .i64 nad, .int .i64 kind, .int .i64 seq, .bool more, .int .i64 code, .bool answer, v], .int .i64 k] w
      fun e w' => e = .returned (.tuple #[.slice none 0 0, .int .i64 1]) ∧ Below w.heap.size w w' := by
  have hs : sizeN k = 0 := by unfold sizeN; rw [if_neg (by omega), if_neg (by omega)]
  go_enter Try.func14, Try.ntmps14
  go_wp2_with fail
  refine (rsize_any k _).mono ?_
  rintro e w1 ⟨rfl, rfl⟩
  rw [hs]
  go_wp2_with fail
  go_ret2
  exact ⟨rfl, (Below.refl _ _).alloc (Nat.le_refl _) _⟩

set_option maxHeartbeats 400000 in
theorem rencode_bad (hk : k = 0 ∨ k = 1) (h : IsB w A n c inf) (hbad : checkE nad kind seq more code answer inf ≠ 0) :
    Calls Try.prog 14 #[.agg #[.int .i64 nad, .int .i64 kind, .int .i64 seq, .bool more, .int .i64 code, .bool answer, .slice A n c], .int .i64 k] w
      fun e w' => e = .returned (.tuple #[.slice none 0 0, .int .i64 (checkE nad kind seq more code answer inf)]) ∧ Below w.heap.size w w' := by
  have hp := sizeN_pos k hk
  have hC : ∀ W, IsB W A n c inf → Calls Try.prog 11 #[.agg #[.int .i64 nad, .int .i64 kind, .int .i64 seq, .bool more, .int .i64 code, .bool answer, .slice A n c]] W
      fun e w' => e = .returned (.int .i64 (checkE nad kind seq more code answer inf)) ∧ Below W.heap.size W w' := fun W hW => rcheck_any nad kind seq more code answer A n c inf W hW
  generalize checkE nad kind seq more code answer inf = er at *
  have HC := Lib.hid hC
  have hne : (er != 0) = true := by simpa using hbad
  clear hC hbad
  go_enter Try.func14, Try.ntmps14
  go_wp2_with fail
  refine (rsize_any k _).mono ?_
  rintro e w1 ⟨rfl, rfl⟩
  generalize sizeN k = s at *
  have h0 : ((s : Int) == 0) = false := by simp; omega
  go_wp2_with fail
  refine (HC.out _ (h.alloc _)).mono ?_
  rintro e w1 ⟨rfl, hb⟩
  go_wp2_with fail
  go_ret2
  exact ⟨rfl, ((Below.refl _ _).alloc (Nat.le_refl _) _).trans (hb.mono (by simp))⟩

set_option maxRecDepth 8000 in
set_option maxHeartbeats 2000000 in
theorem rencode_ok (hk : k = 0 ∨ k = 1) (h : IsB w A n c inf) (hok : checkE nad kind seq more code answer inf = 0) :
    Calls Try.prog 14 #[.agg #[.int .i64 nad, .int .i64 kind, .int .i64 seq, .bool more, .int .i64 code, .bool answer, .slice A n c], .int .i64 k] w
      fun e w' => ∃ A' n' c', e = .returned (.tuple #[.slice A' n' c', .int .i64 0]) ∧ Own w' w.heap.size 5 A' n' c' ((encB k nad kind seq more code answer inf).map u8) ∧ Below w.heap.size w w' := by
  have hp := sizeN_pos k hk
  have hl := IsB.len h
  have hf := ok_facts hok
  have hctl := ctl_ok hok
  have hlen : n ≤ 254 := by have := hf.2.1; omega
  have HV : Hid (u8 (UInt8.ofNat nad.toNat) = .int .u8 (nad % 256) ∧ u8 (UInt8.ofNat (ctlN kind seq more code answer).toNat) = .int .u8 ((ctlN kind seq more code answer) % 256) ∧ u8 (UInt8.ofNat n) = .int .u8 ((n : Int) % 256)) := ⟨u8_ofInt _ hf.1.1 (by have := hf.1.2; omega), u8_ofInt _ hctl.1 hctl.2, u8_ofNat' _ (by omega)⟩
  have HV0 : Hid (IsB w A n c inf ∧ inf.length ≤ 254 ∧ (k = 0 ∨ k = 1)) := ⟨h, by omega, hk⟩
  have HL : Hid (encB k nad kind seq more code answer inf = [UInt8.ofNat nad.toNat, UInt8.ofNat (ctlN kind seq more code answer).toNat, UInt8.ofNat n] ++ inf ++ sumB k ([UInt8.ofNat nad.toNat, UInt8.ofNat (ctlN kind seq more code answer).toNat, UInt8.ofNat n] ++ inf)) := by
    show _ = _
    unfold encB headB
    rw [hl]
  have hC : ∀ W, IsB W A n c inf → Calls Try.prog 11 #[.agg #[.int .i64 nad, .int .i64 kind, .int .i64 seq, .bool more, .int .i64 code, .bool answer, .slice A n c]] W fun e w' => e = .returned (.int .i64 0) ∧ Below W.heap.size W w' := fun W hW => by
    have := rcheck_any nad kind seq more code answer A n c inf W hW
    rwa [hok] at this
  have HC := Lib.hid (And.intro hC (fun W => rcontrol_ok (.slice A n c) hok W))
  generalize ctlN kind seq more code answer = ctl at *
  have hc0 := hctl.1
  have hc1 := hctl.2
  obtain ⟨i0, hi0, hz0, hz1, hz2⟩ := info_parts info8
  have HI := Lib.hid (And.intro hi0 (And.intro hz0 (And.intro hz1 hz2)))
  clear hC hok hl hctl hf hi0 hz0 hz1 hz2
  go_enter Try.func14, Try.ntmps14
  go_wp2_with fail
  refine (rsize_any k _).mono ?_
  rintro e w1 ⟨rfl, rfl⟩
  generalize sizeN k = s at *
  have h0 : ((s : Int) == 0) = false := by simp; omega
  go_wp2_with fail
  refine (HC.out.1 _ (h.alloc _)).mono ?_
  rintro e w1 ⟨rfl, hb⟩
  have hbw : Below w.heap.size w w1 := ((Below.refl _ _).alloc (Nat.le_refl _) _).trans (hb.mono (by simp))
  go_wp2_with fail
  refine wp_region_list' (T := TB) [St.is (.pointer (some ⟨w.heap.size, 0, none⟩)), St.is (.int .i64 nad), St.is (.int .u8 (nad % 256)), St.is (.agg #[.int .i64 nad, .int .i64 kind, .int .i64 seq, .bool more, .int .i64 code, .bool answer, .slice A n c]), St.is (.int .i64 ctl), St.is (.int .u8 (ctl % 256)), St.is (.pointer (some ⟨w.heap.size, 6, none⟩)), St.is (.slice A n c), St.is (.int .i64 (n : Int)), St.is (.int .u8 ((n : Int) % 256)), St.pred (fun v' w' => ∃ g, v' = .slice (some ⟨g, 0, none⟩) 3 3 ∧ Own w' w.heap.size 5 (some ⟨g, 0, none⟩) 3 3 ([UInt8.ofNat nad.toNat, UInt8.ofNat ctl.toNat, UInt8.ofNat n].map u8)) (fun _ _ _ h q => q.imp fun _ q => ⟨q.1, Own.below q.2 h⟩), St.pred (fun v' w' => ∃ g, v' = .slice (some ⟨g, 0, none⟩) 3 3 ∧ Own w' w.heap.size 5 (some ⟨g, 0, none⟩) 3 3 ([UInt8.ofNat nad.toNat, UInt8.ofNat ctl.toNat, UInt8.ofNat n].map u8)) (fun _ _ _ h q => q.imp fun _ q => ⟨q.1, Own.below q.2 h⟩)] (by kernel_rfl) (by kernel_rfl) (TB.refl) (TB.trans) ⟨?s0, ?s1, ?s2, ?s3, ?s4, ?s5, ?s6, ?s7, ?s8, ?s9, ?s10, ?s11, trivial⟩ ?hfin
  case s0 =>
    intro a w' K hT hf hw hK
    refine step_free ?_ ?_
    · rfl
    have h2 : a.tmps[2]?.getD undef = .pointer (some ⟨w.heap.size, 0, none⟩) := hf 2 (by kernel_rfl)
    clear hf hw
    go_simp
    exact hK _ _ (TB.refl _) rfl
  case s1 =>
    intro a w' K hT hf hw hK
    refine step_free ?_ ?_
    · rfl
    have h16 : a.tmps[16]?.getD undef = .pointer (some ⟨w.heap.size, 0, none⟩) := hw.1
    clear hf hw
    have hcell : ∀ j, w'.cell? ⟨w.heap.size, j, none⟩ = (w.alloc (.cells #[.int .i64 nad, .int .i64 kind, .int .i64 seq, .bool more, .int .i64 code, .bool answer, .slice A n c] 24)).cell? ⟨w.heap.size, j, none⟩ := fun j => (hT.cell (by have := hb.size; simp at this ⊢; omega)).trans (hb.cell (p := ⟨w.heap.size, j, none⟩) (by simp))
    go_simp
    exact hK _ _ (TB.refl _) rfl
  case s2 =>
    intro a w' K hT hf hw hK
    refine step_free ?_ ?_
    · rfl
    have h17 : a.tmps[17]?.getD undef = .int .i64 nad := hw.1
    clear hf hw
    go_simp
    exact hK _ _ (TB.refl _) rfl
  case s3 =>
    intro a w' K hT hf hw hK
    refine step_free ?_ ?_
    · rfl
    have h2 : a.tmps[2]?.getD undef = .pointer (some ⟨w.heap.size, 0, none⟩) := hf 2 (by kernel_rfl)
    clear hf hw
    have hcell : ∀ j, w'.cell? ⟨w.heap.size, j, none⟩ = (w.alloc (.cells #[.int .i64 nad, .int .i64 kind, .int .i64 seq, .bool more, .int .i64 code, .bool answer, .slice A n c] 24)).cell? ⟨w.heap.size, j, none⟩ := fun j => (hT.cell (by have := hb.size; simp at this ⊢; omega)).trans (hb.cell (p := ⟨w.heap.size, j, none⟩) (by simp))
    go_simp
    exact hK _ _ (TB.refl _) rfl
  case s4 =>
    intro a w' K hT hf hw hK
    refine step_free ?_ ?_
    · rfl
    have h19 : a.tmps[19]?.getD undef = .agg #[.int .i64 nad, .int .i64 kind, .int .i64 seq, .bool more, .int .i64 code, .bool answer, .slice A n c] := hw.1
    clear hf hw
    go_simp
    refine (HC.out.2 _).mono ?_
    rintro e w2 ⟨rfl, hb2⟩
    exact hK _ _ hb2 rfl
  case s5 =>
    intro a w' K hT hf hw hK
    refine step_free ?_ ?_
    · rfl
    have h20 : a.tmps[20]?.getD undef = .int .i64 ctl := hw.1
    clear hf hw
    go_simp
    exact hK _ _ (TB.refl _) rfl
  case s6 =>
    intro a w' K hT hf hw hK
    refine step_free ?_ ?_
    · rfl
    have h2 : a.tmps[2]?.getD undef = .pointer (some ⟨w.heap.size, 0, none⟩) := hf 2 (by kernel_rfl)
    clear hf hw
    go_simp
    exact hK _ _ (TB.refl _) rfl
  case s7 =>
    intro a w' K hT hf hw hK
    refine step_free ?_ ?_
    · rfl
    have h22 : a.tmps[22]?.getD undef = .pointer (some ⟨w.heap.size, 6, none⟩) := hw.1
    clear hf hw
    have hcell : ∀ j, w'.cell? ⟨w.heap.size, j, none⟩ = (w.alloc (.cells #[.int .i64 nad, .int .i64 kind, .int .i64 seq, .bool more, .int .i64 code, .bool answer, .slice A n c] 24)).cell? ⟨w.heap.size, j, none⟩ := fun j => (hT.cell (by have := hb.size; simp at this ⊢; omega)).trans (hb.cell (p := ⟨w.heap.size, j, none⟩) (by simp))
    go_simp
    exact hK _ _ (TB.refl _) rfl
  case s8 =>
    intro a w' K hT hf hw hK
    refine step_free ?_ ?_
    · rfl
    have h23 : a.tmps[23]?.getD undef = .slice A n c := hw.1
    clear hf hw
    go_simp
    exact hK _ _ (TB.refl _) rfl
  case s9 =>
    intro a w' K hT hf hw hK
    refine step_free ?_ ?_
    · rfl
    have h24 : a.tmps[24]?.getD undef = .int .i64 (n : Int) := hw.1
    clear hf hw
    go_simp
    exact hK _ _ (TB.refl _) rfl
  case s10 =>
    intro a w' K hT hf hw hK
    refine step_free ?_ ?_
    · rfl
    have h18 : a.tmps[18]?.getD undef = .int .u8 (nad % 256) := hw.1
    have h21 : a.tmps[21]?.getD undef = .int .u8 (ctl % 256) := hw.2.1
    have h25 : a.tmps[25]?.getD undef = .int .u8 ((n : Int) % 256) := hw.2.2.1
    clear hf hw
    go_simp
    refine hK _ _ (TB.alloc _ _) ⟨w'.heap.size, rfl, ?_⟩
    have hsz : w.heap.size ≤ w'.heap.size := by have := hbw.size; have := Below.size hT; simp at this; omega
    have ho := own_lit (w := w') (B := w.heap.size) (e := 5) [u8 (UInt8.ofNat nad.toNat), u8 (UInt8.ofNat ctl.toNat), u8 (UInt8.ofNat n)] hsz (by simp)
    rw [HV.out.1, HV.out.2.1, HV.out.2.2] at ho
    show Own _ _ _ _ _ _ [u8 (UInt8.ofNat nad.toNat), u8 (UInt8.ofNat ctl.toNat), u8 (UInt8.ofNat n)]
    rw [HV.out.1, HV.out.2.1, HV.out.2.2]
    exact ho
  case s11 =>
    intro a w' K hT hf hw hK
    refine step_free ?_ ?_
    · rfl
    have h26 := hw.1
    clear hf hw
    obtain ⟨g, h26, hg⟩ := h26
    have h26 : a.tmps[26]?.getD undef = .slice (some ⟨g, 0, none⟩) 3 3 := h26
    have HG := Lib.hid hg
    go_simp
    refine hK _ _ (TB.refl _) ?_
    exact ⟨g, rfl, hg⟩
  case hfin =>
    rintro vs w' hT ⟨f0, f1, f2, f3, f4, f5, f6, f7, f8, f9, f10, f11, -⟩
    have e0 : vs 0 = .pointer (some ⟨w.heap.size, 0, none⟩) := f0
    have e1 : vs 1 = .int .i64 nad := f1
    have e2 : vs 2 = .int .u8 (nad % 256) := f2
    have e3 : vs 3 = .agg #[.int .i64 nad, .int .i64 kind, .int .i64 seq, .bool more, .int .i64 code, .bool answer, .slice A n c] := f3
    have e4 : vs 4 = .int .i64 ctl := f4
    have e5 : vs 5 = .int .u8 (ctl % 256) := f5
    have e6 : vs 6 = .pointer (some ⟨w.heap.size, 6, none⟩) := f6
    have e7 : vs 7 = .slice A n c := f7
    have e8 : vs 8 = .int .i64 (n : Int) := f8
    have e9 : vs 9 = .int .u8 ((n : Int) % 256) := f9
    simp only [putsAt, Act.put, e0, e1, e2, e3, e4, e5, e6, e7, e8, e9]
    simp only [List.setIfInBounds_toArray, List.set_cons_succ, List.set_cons_zero]
    clear e0 e1 e2 e3 e4 e5 e6 e7 e8 e9 f0 f1 f2 f3 f4 f5 f6 f7 f8 f9
    obtain ⟨g1, e10, -⟩ := f10
    obtain ⟨g, e11, hg⟩ := f11
    rw [e10, e11]
    clear e10 e11
    have hbT : Below w.heap.size w w' := hbw.drew.trans (Below.mono hT hbw.size)
    have hcell : ∀ j, w'.cell? ⟨w.heap.size, j, none⟩ = (w.alloc (.cells #[.int .i64 nad, .int .i64 kind, .int .i64 seq, .bool more, .int .i64 code, .bool answer, .slice A n c] 24)).cell? ⟨w.heap.size, j, none⟩ := fun j => (TB.cell hT (by have := hb.size; simp at this ⊢; omega)).trans (hb.cell (p := ⟨w.heap.size, j, none⟩) (by simp))
    have HB := Lib.hid (And.intro hbT (And.intro hg (Rd.below HV0.out.1 hbT)))
    clear hg hbT
    go_wp2_with (at_builtin; refine wpList_append_rd _ rfl (.tmp 27) (.tmp 29) 22 rfl w.heap.size 5 i0 _ 1 Try.underlying22 HI.out.1 HI.out.2.1 HI.out.2.2.1 HI.out.2.2.2 rfl (some ⟨g, 0, none⟩) 3 3 _ rfl HB.out.2.1 A n c _ rfl HB.out.2.2 (u8_one _) ?_ (by omega) HB.out.1.size ?_)
    case _ => omega
    intro A4 c4 w4 hown4 hg4 _
    have hbw4 := HB.out.1.grown hg4 HB.out.1.size HB.out.2.1.block
    have HB4 := Lib.hid (And.intro hown4 hbw4)
    clear hown4 hg4 hbw4
    go_wp2_with fail
    refine (rappend_ok k HV0.out.2.2 A4 (3 + n) c4 ([UInt8.ofNat nad.toNat, UInt8.ofNat ctl.toNat, UInt8.ofNat n] ++ inf) _ HB4.out.1.rd (by simp; have := HV0.out.2.1; omega)).mono ?_
    rintro e w5 ⟨A5, n5, c5, rfl, ho5, hb5⟩
    have HO := Lib.hid (And.intro ho5 hb5)
    clear ho5 hb5
    go_wp2_with fail
    go_ret2
    refine ⟨A5, n5, c5, rfl, ?_, HB4.out.2.trans (HO.out.2.mono HB4.out.2.size)⟩
    have h1 := HO.out.1.base (B' := w.heap.size) HB4.out.2.size
    rw [HL.out]
    exact h1

theorem renc_any (h : IsB w A n c inf) : Calls Try.prog 14 #[.agg #[.int .i64 nad, .int .i64 kind, .int .i64 seq, .bool more, .int .i64 code, .bool answer, .slice A n c], .int .i64 k] w (EncPost k nad kind seq more code answer inf w) := by
  by_cases hk : k = 0 ∨ k = 1
  case neg => exact (rencode_kind nad kind seq more code answer k w _ hk).mono (encPost_bad nad kind seq more code answer inf k w (by unfold encE; rw [if_neg hk]) (by decide))
  have hE : encE k nad kind seq more code answer inf = checkE nad kind seq more code answer inf := by unfold encE; rw [if_pos hk]
  by_cases hc : checkE nad kind seq more code answer inf = 0
  case neg => exact (rencode_bad nad kind seq more code answer A n c inf k w hk h hc).mono (encPost_bad nad kind seq more code answer inf k w hE hc)
  rw [hc] at hE
  exact (rencode_ok nad kind seq more code answer A n c inf k w hk h hc).mono (encPost_ok nad kind seq more code answer inf k w hE)
end
end Go.Proofs.Ytpfihchdbdhbjaa
