/- smartcardlaw06.BlockRoundTrip: the walk (printed by wip/gen/lawround.py). -/
import Derived.Test.YtpfihchdbdhbjaaQl
import Derived.Test.YtpfihchdbdhbjaaU
import Derived.Test.YtpfihchdbdhbjaaI
namespace Go.Proofs.Ytpfihchdbdhbjaa
open Go.RowKit
set_option linter.unusedVariables false
theorem sameBl_self2 (nad kind seq : Int) (more : Bool) (code : Int) (answer : Bool) (inf : List UInt8) : sameBl nad kind seq more code answer inf nad kind seq more code answer inf = true := by
  unfold sameBl; simp
theorem encB_short {nad kind seq : Int} {more : Bool} {code : Int} {answer : Bool} {inf : List UInt8} {k : Int} (hk : k = 0 ∨ k = 1) (h : checkE nad kind seq more code answer inf = 0) : (encB k nad kind seq more code answer inf).length ≤ 900000 := by
  have hi := (ok_facts h).2.1
  have := sizeN_pos k hk
  rw [encB_eq, List.length_append, sumB_length]
  simp
  omega
section
variable (nad kind seq : Int) (more : Bool) (code : Int) (answer : Bool) (A : Option Addr) (n c : Nat) (inf : List UInt8) (A0 : Option Addr) (n0 c0 : Nat) (xs : List UInt8) (w : World)

set_option maxRecDepth 8000 in
set_option maxHeartbeats 1000000 in
theorem walk_round_false_big (hn : 300 < n ∨ 300 < n0) (h : n ≤ 9223372036854775807 ∧ n0 ≤ 9223372036854775807) :
    Calls Try.prog 6 #[.agg #[.int .i64 nad, .int .i64 kind, .int .i64 seq, .bool more, .int .i64 code, .bool answer, .slice A n c], .slice A0 n0 c0, .bool false] w fun e w' => e = .returned (.bool true) ∧ Below w.heap.size w w' := by
  by_cases h1 : 300 < n
  · have h1' : (300 : Int) < (n : Int) := by omega
    go_enter Try.func6, Try.ntmps6
    go_wp2_with fail
    go_ret
    exact ⟨rfl, (Below.refl _ _).alloc (Nat.le_refl _) _⟩
  · have h1' : ¬ (300 : Int) < (n : Int) := by omega
    have h2' : (300 : Int) < (n0 : Int) := by omega
    go_enter Try.func6, Try.ntmps6
    go_wp2_with fail
    go_ret
    exact ⟨rfl, (Below.refl _ _).alloc (Nat.le_refl _) _⟩

set_option maxRecDepth 8000 in
set_option maxHeartbeats 2000000 in
theorem walk_round_false_ok_ok (h : IsB w A n c inf) (h0 : IsB w A0 n0 c0 xs) (hn : n ≤ 300) (hn0 : n0 ≤ 300) (hE : checkE nad kind seq more code answer inf = 0) (hD : decE 0 xs = 0) :
    Calls Try.prog 6 #[.agg #[.int .i64 nad, .int .i64 kind, .int .i64 seq, .bool more, .int .i64 code, .bool answer, .slice A n c], .slice A0 n0 c0, .bool false] w fun e w' => e = .returned (.bool true) ∧ Below w.heap.size w w' := by
  have hl0 := IsB.len h0
  have g1 : ¬ (300 : Int) < (n : Int) := by omega
  have g2 : ¬ (300 : Int) < (n0 : Int) := by omega
  have HX := Lib.hid (And.intro (Rd.alloc h (.cells #[.int .i64 nad, .int .i64 kind, .int .i64 seq, .bool more, .int .i64 code, .bool answer, .slice A n c] 24)) (Rd.alloc h0 (.cells #[.int .i64 nad, .int .i64 kind, .int .i64 seq, .bool more, .int .i64 code, .bool answer, .slice A n c] 24)))
  have hEn := fun W hW => enc_any nad kind seq more code answer A n c inf 0 W hW
  have hDe := fun W hW => dec_any A0 n0 c0 0 xs W hW (by omega)
  unfold EncPost at hEn
  unfold DecPost at hDe
  have hek : encE 0 nad kind seq more code answer inf = 0 := by unfold encE; rw [if_pos (.inl rfl)]; exact hE
  have hel : encL 0 nad kind seq more code answer inf = encB 0 nad kind seq more code answer inf := by unfold encL; rw [if_pos hek]
  obtain ⟨y0, y1, y2, y3, y4, y5, y6, y7⟩ := dec_enc (k := 0) (.inl rfl) hE
  have hls := encB_short (k := 0) (.inl rfl) hE
  rw [hek, hel] at hEn
  have hBack := fun A n c W hW => dec_any A n c 0 (encB 0 nad kind seq more code answer inf) W hW hls
  unfold DecPost at hBack
  rw [y0, y1, y2, y3, y4, y5, y6, y7] at hBack
  clear hek hel y0 y1 y2 y3 y4 y5 y6 y7 hls
  generalize encB 0 nad kind seq more code answer inf = l at *
  have HBk := Lib.hid hBack
  clear hBack
  obtain ⟨z0, z1⟩ := enc_dec hD
  have hRe := fun A n c W hW => enc_any (dNad 0 xs) (dKind 0 xs) (dSeq 0 xs) (dMore 0 xs) (dCode 0 xs) (dAns 0 xs) A n c (dInf 0 xs) 0 W hW
  unfold EncPost at hRe
  rw [z0, z1] at hRe
  rw [hD] at hDe
  clear z0 z1
  generalize dNad 0 xs = nad2 at hDe hRe
  generalize dKind 0 xs = kind2 at hDe hRe
  generalize dSeq 0 xs = seq2 at hDe hRe
  generalize dMore 0 xs = more2 at hDe hRe
  generalize dCode 0 xs = code2 at hDe hRe
  generalize dAns 0 xs = ans2 at hDe hRe
  generalize dInf 0 xs = inf2 at hDe hRe
  have HF := Lib.hid (And.intro hEn (And.intro hDe hRe))
  clear hEn hDe hRe hE hD hl0 h h0
  go_enter Try.func6, Try.ntmps6
  go_wp2_with fail
  refine (HF.out.1 _ HX.out.1).mono ?_
  rintro e w1 ⟨A1, n1, c1, rfl, hi, hb⟩
  have hcl : ∀ j v, [.int .i64 nad, .int .i64 kind, .int .i64 seq, .bool more, .int .i64 code, .bool answer, .slice A n c][j]? = some v → w1.cell? ⟨w.heap.size, j, none⟩ = some v := fun j v hv => (hb.cell (p := ⟨w.heap.size, j, none⟩) (by simp)).trans ((cell_new w _ _ j).trans hv)
  have hp0 := hcl 0 _ rfl
  have hp1 := hcl 1 _ rfl
  have hp2 := hcl 2 _ rfl
  have hp3 := hcl 3 _ rfl
  have hp4 := hcl 4 _ rfl
  have hp5 := hcl 5 _ rfl
  have hp6 := hcl 6 _ rfl
  have hz1 : w.heap.size < w1.heap.size := by have := hb.size; simp at this; omega
  have HC1 := Lib.hid hcl
  have H1 := Lib.hid (And.intro hi.rd (And.intro (Rd.below HX.out.2 hb) (And.intro (Rd.below HX.out.1 hb) (((Below.refl w.heap.size w).alloc (Nat.le_refl _) (.cells #[.int .i64 nad, .int .i64 kind, .int .i64 seq, .bool more, .int .i64 code, .bool answer, .slice A n c] 24)).trans (hb.mono (by simp))))))
  clear hi hb hcl
  go_wp2_with fail
  refine (HBk.out _ _ _ _ H1.out.1).mono ?_
  rintro e w2 ⟨A2, n2, c2, rfl, hi, hb⟩
  have hz2 : w1.heap.size ≤ w2.heap.size := hb.size
  have hcl : ∀ j v, [.int .i64 nad, .int .i64 kind, .int .i64 seq, .bool more, .int .i64 code, .bool answer, .slice A n c][j]? = some v → (w2.alloc (.cells #[.int .i64 nad, .int .i64 kind, .int .i64 seq, .bool more, .int .i64 code, .bool answer, .slice A2 n2 c2] 24)).cell? ⟨w.heap.size, j, none⟩ = some v := fun j v hv => (World.cell?_alloc_lt _ _ _ (by show w.heap.size < _; omega)).trans ((hb.cell (p := ⟨w.heap.size, j, none⟩) hz1).trans (HC1.out j v hv))
  have hq0 := hcl 0 _ rfl
  have hq1 := hcl 1 _ rfl
  have hq2 := hcl 2 _ rfl
  have hq3 := hcl 3 _ rfl
  have hq4 := hcl 4 _ rfl
  have hq5 := hcl 5 _ rfl
  have hq6 := hcl 6 _ rfl
  have H2 := Lib.hid (And.intro (Rd.alloc hi (.cells #[.int .i64 nad, .int .i64 kind, .int .i64 seq, .bool more, .int .i64 code, .bool answer, .slice A2 n2 c2] 24)) (And.intro (Rd.alloc (Rd.below H1.out.2.1 hb) (.cells #[.int .i64 nad, .int .i64 kind, .int .i64 seq, .bool more, .int .i64 code, .bool answer, .slice A2 n2 c2] 24)) (And.intro (Rd.alloc (Rd.below H1.out.2.2.1 hb) (.cells #[.int .i64 nad, .int .i64 kind, .int .i64 seq, .bool more, .int .i64 code, .bool answer, .slice A2 n2 c2] 24)) ((H1.out.2.2.2.trans (hb.mono H1.out.2.2.2.size)).alloc (by omega) (.cells #[.int .i64 nad, .int .i64 kind, .int .i64 seq, .bool more, .int .i64 code, .bool answer, .slice A2 n2 c2] 24)))))
  clear hi hb hcl
  go_wp2_with fail
  refine (rsame_any nad kind seq more code answer A2 n2 c2 inf nad kind seq more code answer A n c inf _ H2.out.1 H2.out.2.2.1).mono ?_
  rintro e w3 ⟨rfl, hb⟩
  rw [sameBl_self2]
  have hz3 : w2.heap.size < w3.heap.size := by have := hb.size; simp at this; omega
  have H3 := Lib.hid (And.intro (Rd.below H2.out.2.1 hb) (H2.out.2.2.2.trans (hb.mono H2.out.2.2.2.size)))
  clear hb
  go_wp2_with fail
  refine (HF.out.2.1 _ H3.out.1).mono ?_
  rintro e w5 ⟨A5, n5, c5, rfl, hi, hb⟩
  have H5 := Lib.hid (And.intro (Rd.alloc hi (.cells #[.int .i64 nad2, .int .i64 kind2, .int .i64 seq2, .bool more2, .int .i64 code2, .bool ans2, .slice A5 n5 c5] 24)) (And.intro (Rd.alloc (Rd.below H3.out.1 hb) (.cells #[.int .i64 nad2, .int .i64 kind2, .int .i64 seq2, .bool more2, .int .i64 code2, .bool ans2, .slice A5 n5 c5] 24)) ((H3.out.2.trans (hb.mono H3.out.2.size)).alloc (by have := hb.size; have := H3.out.2.size; omega) (.cells #[.int .i64 nad2, .int .i64 kind2, .int .i64 seq2, .bool more2, .int .i64 code2, .bool ans2, .slice A5 n5 c5] 24))))
  clear hi hb
  go_wp2_with fail
  refine (HF.out.2.2 _ _ _ _ H5.out.1).mono ?_
  rintro e w6 ⟨A6, n6, c6, rfl, hi, hb⟩
  have H6 := Lib.hid (And.intro hi.rd (And.intro (Rd.below H5.out.2.1 hb) (H5.out.2.2.trans (hb.mono H5.out.2.2.size))))
  clear hi hb
  go_wp2_with fail
  refine (same_any _ _ _ _ _ _ _ _ _ H6.out.1 H6.out.2.1).mono ?_
  rintro e w7 ⟨rfl, hb⟩
  rw [show decide (xs = xs) = true by simp]
  have H7 := Lib.hid (H6.out.2.2.trans (hb.mono H6.out.2.2.size))
  clear hb
  go_wp2_with fail
  refine (awake_any _).mono ?_
  rintro e w8 ⟨rfl, hb⟩
  have H8 := Lib.hid (H7.out.trans (hb.mono H7.out.size))
  clear hb
  go_wp2_with fail
  go_ret
  exact ⟨rfl, H8.out⟩

set_option maxRecDepth 8000 in
set_option maxHeartbeats 2000000 in
theorem walk_round_false_ok_no (h : IsB w A n c inf) (h0 : IsB w A0 n0 c0 xs) (hn : n ≤ 300) (hn0 : n0 ≤ 300) (hE : checkE nad kind seq more code answer inf = 0) (hD : decE 0 xs ≠ 0) :
    Calls Try.prog 6 #[.agg #[.int .i64 nad, .int .i64 kind, .int .i64 seq, .bool more, .int .i64 code, .bool answer, .slice A n c], .slice A0 n0 c0, .bool false] w fun e w' => e = .returned (.bool true) ∧ Below w.heap.size w w' := by
  have hl0 := IsB.len h0
  have g1 : ¬ (300 : Int) < (n : Int) := by omega
  have g2 : ¬ (300 : Int) < (n0 : Int) := by omega
  have HX := Lib.hid (And.intro (Rd.alloc h (.cells #[.int .i64 nad, .int .i64 kind, .int .i64 seq, .bool more, .int .i64 code, .bool answer, .slice A n c] 24)) (Rd.alloc h0 (.cells #[.int .i64 nad, .int .i64 kind, .int .i64 seq, .bool more, .int .i64 code, .bool answer, .slice A n c] 24)))
  have hEn := fun W hW => enc_any nad kind seq more code answer A n c inf 0 W hW
  have hDe := fun W hW => dec_any A0 n0 c0 0 xs W hW (by omega)
  unfold EncPost at hEn
  unfold DecPost at hDe
  have hek : encE 0 nad kind seq more code answer inf = 0 := by unfold encE; rw [if_pos (.inl rfl)]; exact hE
  have hel : encL 0 nad kind seq more code answer inf = encB 0 nad kind seq more code answer inf := by unfold encL; rw [if_pos hek]
  obtain ⟨y0, y1, y2, y3, y4, y5, y6, y7⟩ := dec_enc (k := 0) (.inl rfl) hE
  have hls := encB_short (k := 0) (.inl rfl) hE
  rw [hek, hel] at hEn
  have hBack := fun A n c W hW => dec_any A n c 0 (encB 0 nad kind seq more code answer inf) W hW hls
  unfold DecPost at hBack
  rw [y0, y1, y2, y3, y4, y5, y6, y7] at hBack
  clear hek hel y0 y1 y2 y3 y4 y5 y6 y7 hls
  generalize encB 0 nad kind seq more code answer inf = l at *
  have HBk := Lib.hid hBack
  clear hBack
  have hRe : True := trivial
  generalize decE 0 xs = ed at *
  have hedf : (ed == 0) = false := by simpa using hD
  generalize dNad 0 xs = nad2 at hDe hRe
  generalize dKind 0 xs = kind2 at hDe hRe
  generalize dSeq 0 xs = seq2 at hDe hRe
  generalize dMore 0 xs = more2 at hDe hRe
  generalize dCode 0 xs = code2 at hDe hRe
  generalize dAns 0 xs = ans2 at hDe hRe
  generalize dInf 0 xs = inf2 at hDe hRe
  have HF := Lib.hid (And.intro hEn (And.intro hDe hRe))
  clear hEn hDe hRe hE hD hl0 h h0
  go_enter Try.func6, Try.ntmps6
  go_wp2_with fail
  refine (HF.out.1 _ HX.out.1).mono ?_
  rintro e w1 ⟨A1, n1, c1, rfl, hi, hb⟩
  have hcl : ∀ j v, [.int .i64 nad, .int .i64 kind, .int .i64 seq, .bool more, .int .i64 code, .bool answer, .slice A n c][j]? = some v → w1.cell? ⟨w.heap.size, j, none⟩ = some v := fun j v hv => (hb.cell (p := ⟨w.heap.size, j, none⟩) (by simp)).trans ((cell_new w _ _ j).trans hv)
  have hp0 := hcl 0 _ rfl
  have hp1 := hcl 1 _ rfl
  have hp2 := hcl 2 _ rfl
  have hp3 := hcl 3 _ rfl
  have hp4 := hcl 4 _ rfl
  have hp5 := hcl 5 _ rfl
  have hp6 := hcl 6 _ rfl
  have hz1 : w.heap.size < w1.heap.size := by have := hb.size; simp at this; omega
  have HC1 := Lib.hid hcl
  have H1 := Lib.hid (And.intro hi.rd (And.intro (Rd.below HX.out.2 hb) (And.intro (Rd.below HX.out.1 hb) (((Below.refl w.heap.size w).alloc (Nat.le_refl _) (.cells #[.int .i64 nad, .int .i64 kind, .int .i64 seq, .bool more, .int .i64 code, .bool answer, .slice A n c] 24)).trans (hb.mono (by simp))))))
  clear hi hb hcl
  go_wp2_with fail
  refine (HBk.out _ _ _ _ H1.out.1).mono ?_
  rintro e w2 ⟨A2, n2, c2, rfl, hi, hb⟩
  have hz2 : w1.heap.size ≤ w2.heap.size := hb.size
  have hcl : ∀ j v, [.int .i64 nad, .int .i64 kind, .int .i64 seq, .bool more, .int .i64 code, .bool answer, .slice A n c][j]? = some v → (w2.alloc (.cells #[.int .i64 nad, .int .i64 kind, .int .i64 seq, .bool more, .int .i64 code, .bool answer, .slice A2 n2 c2] 24)).cell? ⟨w.heap.size, j, none⟩ = some v := fun j v hv => (World.cell?_alloc_lt _ _ _ (by show w.heap.size < _; omega)).trans ((hb.cell (p := ⟨w.heap.size, j, none⟩) hz1).trans (HC1.out j v hv))
  have hq0 := hcl 0 _ rfl
  have hq1 := hcl 1 _ rfl
  have hq2 := hcl 2 _ rfl
  have hq3 := hcl 3 _ rfl
  have hq4 := hcl 4 _ rfl
  have hq5 := hcl 5 _ rfl
  have hq6 := hcl 6 _ rfl
  have H2 := Lib.hid (And.intro (Rd.alloc hi (.cells #[.int .i64 nad, .int .i64 kind, .int .i64 seq, .bool more, .int .i64 code, .bool answer, .slice A2 n2 c2] 24)) (And.intro (Rd.alloc (Rd.below H1.out.2.1 hb) (.cells #[.int .i64 nad, .int .i64 kind, .int .i64 seq, .bool more, .int .i64 code, .bool answer, .slice A2 n2 c2] 24)) (And.intro (Rd.alloc (Rd.below H1.out.2.2.1 hb) (.cells #[.int .i64 nad, .int .i64 kind, .int .i64 seq, .bool more, .int .i64 code, .bool answer, .slice A2 n2 c2] 24)) ((H1.out.2.2.2.trans (hb.mono H1.out.2.2.2.size)).alloc (by omega) (.cells #[.int .i64 nad, .int .i64 kind, .int .i64 seq, .bool more, .int .i64 code, .bool answer, .slice A2 n2 c2] 24)))))
  clear hi hb hcl
  go_wp2_with fail
  refine (rsame_any nad kind seq more code answer A2 n2 c2 inf nad kind seq more code answer A n c inf _ H2.out.1 H2.out.2.2.1).mono ?_
  rintro e w3 ⟨rfl, hb⟩
  rw [sameBl_self2]
  have hz3 : w2.heap.size < w3.heap.size := by have := hb.size; simp at this; omega
  have H3 := Lib.hid (And.intro (Rd.below H2.out.2.1 hb) (H2.out.2.2.2.trans (hb.mono H2.out.2.2.2.size)))
  clear hb
  go_wp2_with fail
  refine (HF.out.2.1 _ H3.out.1).mono ?_
  rintro e w5 ⟨A5, n5, c5, rfl, hi, hb⟩
  have H5 := Lib.hid (And.intro (Rd.alloc hi (.cells #[.int .i64 nad2, .int .i64 kind2, .int .i64 seq2, .bool more2, .int .i64 code2, .bool ans2, .slice A5 n5 c5] 24)) (And.intro (Rd.alloc (Rd.below H3.out.1 hb) (.cells #[.int .i64 nad2, .int .i64 kind2, .int .i64 seq2, .bool more2, .int .i64 code2, .bool ans2, .slice A5 n5 c5] 24)) ((H3.out.2.trans (hb.mono H3.out.2.size)).alloc (by have := hb.size; have := H3.out.2.size; omega) (.cells #[.int .i64 nad2, .int .i64 kind2, .int .i64 seq2, .bool more2, .int .i64 code2, .bool ans2, .slice A5 n5 c5] 24))))
  clear hi hb
  go_wp2_with fail
  refine (awake_any _).mono ?_
  rintro e w8 ⟨rfl, hb⟩
  have H8 := Lib.hid (H5.out.2.2.trans (hb.mono H5.out.2.2.size))
  clear hb
  go_wp2_with fail
  go_ret
  exact ⟨rfl, H8.out⟩

set_option maxRecDepth 8000 in
set_option maxHeartbeats 2000000 in
theorem walk_round_false_no_ok (h : IsB w A n c inf) (h0 : IsB w A0 n0 c0 xs) (hn : n ≤ 300) (hn0 : n0 ≤ 300) (hE : checkE nad kind seq more code answer inf ≠ 0) (hD : decE 0 xs = 0) :
    Calls Try.prog 6 #[.agg #[.int .i64 nad, .int .i64 kind, .int .i64 seq, .bool more, .int .i64 code, .bool answer, .slice A n c], .slice A0 n0 c0, .bool false] w fun e w' => e = .returned (.bool true) ∧ Below w.heap.size w w' := by
  have hl0 := IsB.len h0
  have g1 : ¬ (300 : Int) < (n : Int) := by omega
  have g2 : ¬ (300 : Int) < (n0 : Int) := by omega
  have HX := Lib.hid (And.intro (Rd.alloc h (.cells #[.int .i64 nad, .int .i64 kind, .int .i64 seq, .bool more, .int .i64 code, .bool answer, .slice A n c] 24)) (Rd.alloc h0 (.cells #[.int .i64 nad, .int .i64 kind, .int .i64 seq, .bool more, .int .i64 code, .bool answer, .slice A n c] 24)))
  have hEn := fun W hW => enc_any nad kind seq more code answer A n c inf 0 W hW
  have hDe := fun W hW => dec_any A0 n0 c0 0 xs W hW (by omega)
  unfold EncPost at hEn
  unfold DecPost at hDe
  have hek : encE 0 nad kind seq more code answer inf ≠ 0 := by unfold encE; rw [if_pos (.inl rfl)]; exact hE
  generalize encE 0 nad kind seq more code answer inf = er at *
  generalize encL 0 nad kind seq more code answer inf = l at *
  have herf : (er == 0) = false := by simpa using hek
  obtain ⟨z0, z1⟩ := enc_dec hD
  have hRe := fun A n c W hW => enc_any (dNad 0 xs) (dKind 0 xs) (dSeq 0 xs) (dMore 0 xs) (dCode 0 xs) (dAns 0 xs) A n c (dInf 0 xs) 0 W hW
  unfold EncPost at hRe
  rw [z0, z1] at hRe
  rw [hD] at hDe
  clear z0 z1
  generalize dNad 0 xs = nad2 at hDe hRe
  generalize dKind 0 xs = kind2 at hDe hRe
  generalize dSeq 0 xs = seq2 at hDe hRe
  generalize dMore 0 xs = more2 at hDe hRe
  generalize dCode 0 xs = code2 at hDe hRe
  generalize dAns 0 xs = ans2 at hDe hRe
  generalize dInf 0 xs = inf2 at hDe hRe
  have HF := Lib.hid (And.intro hEn (And.intro hDe hRe))
  clear hEn hDe hRe hE hD hl0 h h0 hek
  go_enter Try.func6, Try.ntmps6
  go_wp2_with fail
  refine (HF.out.1 _ HX.out.1).mono ?_
  rintro e w1 ⟨A1, n1, c1, rfl, hi, hb⟩
  have hcl : ∀ j v, [.int .i64 nad, .int .i64 kind, .int .i64 seq, .bool more, .int .i64 code, .bool answer, .slice A n c][j]? = some v → w1.cell? ⟨w.heap.size, j, none⟩ = some v := fun j v hv => (hb.cell (p := ⟨w.heap.size, j, none⟩) (by simp)).trans ((cell_new w _ _ j).trans hv)
  have hz1 : w.heap.size < w1.heap.size := by have := hb.size; simp at this; omega
  have HC1 := Lib.hid hcl
  have H1 := Lib.hid (And.intro hi.rd (And.intro (Rd.below HX.out.2 hb) (And.intro (Rd.below HX.out.1 hb) (((Below.refl w.heap.size w).alloc (Nat.le_refl _) (.cells #[.int .i64 nad, .int .i64 kind, .int .i64 seq, .bool more, .int .i64 code, .bool answer, .slice A n c] 24)).trans (hb.mono (by simp))))))
  clear hi hb hcl
  go_wp2_with fail
  refine (HF.out.2.1 _ H1.out.2.1).mono ?_
  rintro e w5 ⟨A5, n5, c5, rfl, hi, hb⟩
  have H5 := Lib.hid (And.intro (Rd.alloc hi (.cells #[.int .i64 nad2, .int .i64 kind2, .int .i64 seq2, .bool more2, .int .i64 code2, .bool ans2, .slice A5 n5 c5] 24)) (And.intro (Rd.alloc (Rd.below H1.out.2.1 hb) (.cells #[.int .i64 nad2, .int .i64 kind2, .int .i64 seq2, .bool more2, .int .i64 code2, .bool ans2, .slice A5 n5 c5] 24)) ((H1.out.2.2.2.trans (hb.mono H1.out.2.2.2.size)).alloc (by have := hb.size; have := H1.out.2.2.2.size; omega) (.cells #[.int .i64 nad2, .int .i64 kind2, .int .i64 seq2, .bool more2, .int .i64 code2, .bool ans2, .slice A5 n5 c5] 24))))
  clear hi hb
  go_wp2_with fail
  refine (HF.out.2.2 _ _ _ _ H5.out.1).mono ?_
  rintro e w6 ⟨A6, n6, c6, rfl, hi, hb⟩
  have H6 := Lib.hid (And.intro hi.rd (And.intro (Rd.below H5.out.2.1 hb) (H5.out.2.2.trans (hb.mono H5.out.2.2.size))))
  clear hi hb
  go_wp2_with fail
  refine (same_any _ _ _ _ _ _ _ _ _ H6.out.1 H6.out.2.1).mono ?_
  rintro e w7 ⟨rfl, hb⟩
  rw [show decide (xs = xs) = true by simp]
  have H7 := Lib.hid (H6.out.2.2.trans (hb.mono H6.out.2.2.size))
  clear hb
  go_wp2_with fail
  refine (awake_any _).mono ?_
  rintro e w8 ⟨rfl, hb⟩
  have H8 := Lib.hid (H7.out.trans (hb.mono H7.out.size))
  clear hb
  go_wp2_with fail
  go_ret
  exact ⟨rfl, H8.out⟩

set_option maxRecDepth 8000 in
set_option maxHeartbeats 2000000 in
theorem walk_round_false_no_no (h : IsB w A n c inf) (h0 : IsB w A0 n0 c0 xs) (hn : n ≤ 300) (hn0 : n0 ≤ 300) (hE : checkE nad kind seq more code answer inf ≠ 0) (hD : decE 0 xs ≠ 0) :
    Calls Try.prog 6 #[.agg #[.int .i64 nad, .int .i64 kind, .int .i64 seq, .bool more, .int .i64 code, .bool answer, .slice A n c], .slice A0 n0 c0, .bool false] w fun e w' => e = .returned (.bool true) ∧ Below w.heap.size w w' := by
  have hl0 := IsB.len h0
  have g1 : ¬ (300 : Int) < (n : Int) := by omega
  have g2 : ¬ (300 : Int) < (n0 : Int) := by omega
  have HX := Lib.hid (And.intro (Rd.alloc h (.cells #[.int .i64 nad, .int .i64 kind, .int .i64 seq, .bool more, .int .i64 code, .bool answer, .slice A n c] 24)) (Rd.alloc h0 (.cells #[.int .i64 nad, .int .i64 kind, .int .i64 seq, .bool more, .int .i64 code, .bool answer, .slice A n c] 24)))
  have hEn := fun W hW => enc_any nad kind seq more code answer A n c inf 0 W hW
  have hDe := fun W hW => dec_any A0 n0 c0 0 xs W hW (by omega)
  unfold EncPost at hEn
  unfold DecPost at hDe
  have hek : encE 0 nad kind seq more code answer inf ≠ 0 := by unfold encE; rw [if_pos (.inl rfl)]; exact hE
  generalize encE 0 nad kind seq more code answer inf = er at *
  generalize encL 0 nad kind seq more code answer inf = l at *
  have herf : (er == 0) = false := by simpa using hek
  have hRe : True := trivial
  generalize decE 0 xs = ed at *
  have hedf : (ed == 0) = false := by simpa using hD
  generalize dNad 0 xs = nad2 at hDe hRe
  generalize dKind 0 xs = kind2 at hDe hRe
  generalize dSeq 0 xs = seq2 at hDe hRe
  generalize dMore 0 xs = more2 at hDe hRe
  generalize dCode 0 xs = code2 at hDe hRe
  generalize dAns 0 xs = ans2 at hDe hRe
  generalize dInf 0 xs = inf2 at hDe hRe
  have HF := Lib.hid (And.intro hEn (And.intro hDe hRe))
  clear hEn hDe hRe hE hD hl0 h h0 hek
  go_enter Try.func6, Try.ntmps6
  go_wp2_with fail
  refine (HF.out.1 _ HX.out.1).mono ?_
  rintro e w1 ⟨A1, n1, c1, rfl, hi, hb⟩
  have hcl : ∀ j v, [.int .i64 nad, .int .i64 kind, .int .i64 seq, .bool more, .int .i64 code, .bool answer, .slice A n c][j]? = some v → w1.cell? ⟨w.heap.size, j, none⟩ = some v := fun j v hv => (hb.cell (p := ⟨w.heap.size, j, none⟩) (by simp)).trans ((cell_new w _ _ j).trans hv)
  have hz1 : w.heap.size < w1.heap.size := by have := hb.size; simp at this; omega
  have HC1 := Lib.hid hcl
  have H1 := Lib.hid (And.intro hi.rd (And.intro (Rd.below HX.out.2 hb) (And.intro (Rd.below HX.out.1 hb) (((Below.refl w.heap.size w).alloc (Nat.le_refl _) (.cells #[.int .i64 nad, .int .i64 kind, .int .i64 seq, .bool more, .int .i64 code, .bool answer, .slice A n c] 24)).trans (hb.mono (by simp))))))
  clear hi hb hcl
  go_wp2_with fail
  refine (HF.out.2.1 _ H1.out.2.1).mono ?_
  rintro e w5 ⟨A5, n5, c5, rfl, hi, hb⟩
  have H5 := Lib.hid (And.intro (Rd.alloc hi (.cells #[.int .i64 nad2, .int .i64 kind2, .int .i64 seq2, .bool more2, .int .i64 code2, .bool ans2, .slice A5 n5 c5] 24)) (And.intro (Rd.alloc (Rd.below H1.out.2.1 hb) (.cells #[.int .i64 nad2, .int .i64 kind2, .int .i64 seq2, .bool more2, .int .i64 code2, .bool ans2, .slice A5 n5 c5] 24)) ((H1.out.2.2.2.trans (hb.mono H1.out.2.2.2.size)).alloc (by have := hb.size; have := H1.out.2.2.2.size; omega) (.cells #[.int .i64 nad2, .int .i64 kind2, .int .i64 seq2, .bool more2, .int .i64 code2, .bool ans2, .slice A5 n5 c5] 24))))
  clear hi hb
  go_wp2_with fail
  refine (awake_any _).mono ?_
  rintro e w8 ⟨rfl, hb⟩
  have H8 := Lib.hid (H5.out.2.2.trans (hb.mono H5.out.2.2.size))
  clear hb
  go_wp2_with fail
  go_ret
  exact ⟨rfl, H8.out⟩

set_option maxRecDepth 8000 in
set_option maxHeartbeats 1000000 in
theorem walk_round_true_big (hn : 300 < n ∨ 300 < n0) (h : n ≤ 9223372036854775807 ∧ n0 ≤ 9223372036854775807) :
    Calls Try.prog 6 #[.agg #[.int .i64 nad, .int .i64 kind, .int .i64 seq, .bool more, .int .i64 code, .bool answer, .slice A n c], .slice A0 n0 c0, .bool true] w fun e w' => e = .returned (.bool true) ∧ Below w.heap.size w w' := by
  by_cases h1 : 300 < n
  · have h1' : (300 : Int) < (n : Int) := by omega
    go_enter Try.func6, Try.ntmps6
    go_wp2_with fail
    go_ret
    exact ⟨rfl, (Below.refl _ _).alloc (Nat.le_refl _) _⟩
  · have h1' : ¬ (300 : Int) < (n : Int) := by omega
    have h2' : (300 : Int) < (n0 : Int) := by omega
    go_enter Try.func6, Try.ntmps6
    go_wp2_with fail
    go_ret
    exact ⟨rfl, (Below.refl _ _).alloc (Nat.le_refl _) _⟩

set_option maxRecDepth 8000 in
set_option maxHeartbeats 2000000 in
theorem walk_round_true_ok_ok (h : IsB w A n c inf) (h0 : IsB w A0 n0 c0 xs) (hn : n ≤ 300) (hn0 : n0 ≤ 300) (hE : checkE nad kind seq more code answer inf = 0) (hD : decE 1 xs = 0) :
    Calls Try.prog 6 #[.agg #[.int .i64 nad, .int .i64 kind, .int .i64 seq, .bool more, .int .i64 code, .bool answer, .slice A n c], .slice A0 n0 c0, .bool true] w fun e w' => e = .returned (.bool true) ∧ Below w.heap.size w w' := by
  have hl0 := IsB.len h0
  have g1 : ¬ (300 : Int) < (n : Int) := by omega
  have g2 : ¬ (300 : Int) < (n0 : Int) := by omega
  have HX := Lib.hid (And.intro (Rd.alloc h (.cells #[.int .i64 nad, .int .i64 kind, .int .i64 seq, .bool more, .int .i64 code, .bool answer, .slice A n c] 24)) (Rd.alloc h0 (.cells #[.int .i64 nad, .int .i64 kind, .int .i64 seq, .bool more, .int .i64 code, .bool answer, .slice A n c] 24)))
  have hEn := fun W hW => enc_any nad kind seq more code answer A n c inf 1 W hW
  have hDe := fun W hW => dec_any A0 n0 c0 1 xs W hW (by omega)
  unfold EncPost at hEn
  unfold DecPost at hDe
  have hek : encE 1 nad kind seq more code answer inf = 0 := by unfold encE; rw [if_pos (.inr rfl)]; exact hE
  have hel : encL 1 nad kind seq more code answer inf = encB 1 nad kind seq more code answer inf := by unfold encL; rw [if_pos hek]
  obtain ⟨y0, y1, y2, y3, y4, y5, y6, y7⟩ := dec_enc (k := 1) (.inr rfl) hE
  have hls := encB_short (k := 1) (.inr rfl) hE
  rw [hek, hel] at hEn
  have hBack := fun A n c W hW => dec_any A n c 1 (encB 1 nad kind seq more code answer inf) W hW hls
  unfold DecPost at hBack
  rw [y0, y1, y2, y3, y4, y5, y6, y7] at hBack
  clear hek hel y0 y1 y2 y3 y4 y5 y6 y7 hls
  generalize encB 1 nad kind seq more code answer inf = l at *
  have HBk := Lib.hid hBack
  clear hBack
  obtain ⟨z0, z1⟩ := enc_dec hD
  have hRe := fun A n c W hW => enc_any (dNad 1 xs) (dKind 1 xs) (dSeq 1 xs) (dMore 1 xs) (dCode 1 xs) (dAns 1 xs) A n c (dInf 1 xs) 1 W hW
  unfold EncPost at hRe
  rw [z0, z1] at hRe
  rw [hD] at hDe
  clear z0 z1
  generalize dNad 1 xs = nad2 at hDe hRe
  generalize dKind 1 xs = kind2 at hDe hRe
  generalize dSeq 1 xs = seq2 at hDe hRe
  generalize dMore 1 xs = more2 at hDe hRe
  generalize dCode 1 xs = code2 at hDe hRe
  generalize dAns 1 xs = ans2 at hDe hRe
  generalize dInf 1 xs = inf2 at hDe hRe
  have HF := Lib.hid (And.intro hEn (And.intro hDe hRe))
  clear hEn hDe hRe hE hD hl0 h h0
  go_enter Try.func6, Try.ntmps6
  go_wp2_with fail
  refine (HF.out.1 _ HX.out.1).mono ?_
  rintro e w1 ⟨A1, n1, c1, rfl, hi, hb⟩
  have hcl : ∀ j v, [.int .i64 nad, .int .i64 kind, .int .i64 seq, .bool more, .int .i64 code, .bool answer, .slice A n c][j]? = some v → w1.cell? ⟨w.heap.size, j, none⟩ = some v := fun j v hv => (hb.cell (p := ⟨w.heap.size, j, none⟩) (by simp)).trans ((cell_new w _ _ j).trans hv)
  have hp0 := hcl 0 _ rfl
  have hp1 := hcl 1 _ rfl
  have hp2 := hcl 2 _ rfl
  have hp3 := hcl 3 _ rfl
  have hp4 := hcl 4 _ rfl
  have hp5 := hcl 5 _ rfl
  have hp6 := hcl 6 _ rfl
  have hz1 : w.heap.size < w1.heap.size := by have := hb.size; simp at this; omega
  have HC1 := Lib.hid hcl
  have H1 := Lib.hid (And.intro hi.rd (And.intro (Rd.below HX.out.2 hb) (And.intro (Rd.below HX.out.1 hb) (((Below.refl w.heap.size w).alloc (Nat.le_refl _) (.cells #[.int .i64 nad, .int .i64 kind, .int .i64 seq, .bool more, .int .i64 code, .bool answer, .slice A n c] 24)).trans (hb.mono (by simp))))))
  clear hi hb hcl
  go_wp2_with fail
  refine (HBk.out _ _ _ _ H1.out.1).mono ?_
  rintro e w2 ⟨A2, n2, c2, rfl, hi, hb⟩
  have hz2 : w1.heap.size ≤ w2.heap.size := hb.size
  have hcl : ∀ j v, [.int .i64 nad, .int .i64 kind, .int .i64 seq, .bool more, .int .i64 code, .bool answer, .slice A n c][j]? = some v → (w2.alloc (.cells #[.int .i64 nad, .int .i64 kind, .int .i64 seq, .bool more, .int .i64 code, .bool answer, .slice A2 n2 c2] 24)).cell? ⟨w.heap.size, j, none⟩ = some v := fun j v hv => (World.cell?_alloc_lt _ _ _ (by show w.heap.size < _; omega)).trans ((hb.cell (p := ⟨w.heap.size, j, none⟩) hz1).trans (HC1.out j v hv))
  have hq0 := hcl 0 _ rfl
  have hq1 := hcl 1 _ rfl
  have hq2 := hcl 2 _ rfl
  have hq3 := hcl 3 _ rfl
  have hq4 := hcl 4 _ rfl
  have hq5 := hcl 5 _ rfl
  have hq6 := hcl 6 _ rfl
  have H2 := Lib.hid (And.intro (Rd.alloc hi (.cells #[.int .i64 nad, .int .i64 kind, .int .i64 seq, .bool more, .int .i64 code, .bool answer, .slice A2 n2 c2] 24)) (And.intro (Rd.alloc (Rd.below H1.out.2.1 hb) (.cells #[.int .i64 nad, .int .i64 kind, .int .i64 seq, .bool more, .int .i64 code, .bool answer, .slice A2 n2 c2] 24)) (And.intro (Rd.alloc (Rd.below H1.out.2.2.1 hb) (.cells #[.int .i64 nad, .int .i64 kind, .int .i64 seq, .bool more, .int .i64 code, .bool answer, .slice A2 n2 c2] 24)) ((H1.out.2.2.2.trans (hb.mono H1.out.2.2.2.size)).alloc (by omega) (.cells #[.int .i64 nad, .int .i64 kind, .int .i64 seq, .bool more, .int .i64 code, .bool answer, .slice A2 n2 c2] 24)))))
  clear hi hb hcl
  go_wp2_with fail
  refine (rsame_any nad kind seq more code answer A2 n2 c2 inf nad kind seq more code answer A n c inf _ H2.out.1 H2.out.2.2.1).mono ?_
  rintro e w3 ⟨rfl, hb⟩
  rw [sameBl_self2]
  have hz3 : w2.heap.size < w3.heap.size := by have := hb.size; simp at this; omega
  have H3 := Lib.hid (And.intro (Rd.below H2.out.2.1 hb) (H2.out.2.2.2.trans (hb.mono H2.out.2.2.2.size)))
  clear hb
  go_wp2_with fail
  refine (HF.out.2.1 _ H3.out.1).mono ?_
  rintro e w5 ⟨A5, n5, c5, rfl, hi, hb⟩
  have H5 := Lib.hid (And.intro (Rd.alloc hi (.cells #[.int .i64 nad2, .int .i64 kind2, .int .i64 seq2, .bool more2, .int .i64 code2, .bool ans2, .slice A5 n5 c5] 24)) (And.intro (Rd.alloc (Rd.below H3.out.1 hb) (.cells #[.int .i64 nad2, .int .i64 kind2, .int .i64 seq2, .bool more2, .int .i64 code2, .bool ans2, .slice A5 n5 c5] 24)) ((H3.out.2.trans (hb.mono H3.out.2.size)).alloc (by have := hb.size; have := H3.out.2.size; omega) (.cells #[.int .i64 nad2, .int .i64 kind2, .int .i64 seq2, .bool more2, .int .i64 code2, .bool ans2, .slice A5 n5 c5] 24))))
  clear hi hb
  go_wp2_with fail
  refine (HF.out.2.2 _ _ _ _ H5.out.1).mono ?_
  rintro e w6 ⟨A6, n6, c6, rfl, hi, hb⟩
  have H6 := Lib.hid (And.intro hi.rd (And.intro (Rd.below H5.out.2.1 hb) (H5.out.2.2.trans (hb.mono H5.out.2.2.size))))
  clear hi hb
  go_wp2_with fail
  refine (same_any _ _ _ _ _ _ _ _ _ H6.out.1 H6.out.2.1).mono ?_
  rintro e w7 ⟨rfl, hb⟩
  rw [show decide (xs = xs) = true by simp]
  have H7 := Lib.hid (H6.out.2.2.trans (hb.mono H6.out.2.2.size))
  clear hb
  go_wp2_with fail
  refine (awake_any _).mono ?_
  rintro e w8 ⟨rfl, hb⟩
  have H8 := Lib.hid (H7.out.trans (hb.mono H7.out.size))
  clear hb
  go_wp2_with fail
  go_ret
  exact ⟨rfl, H8.out⟩

set_option maxRecDepth 8000 in
set_option maxHeartbeats 2000000 in
theorem walk_round_true_ok_no (h : IsB w A n c inf) (h0 : IsB w A0 n0 c0 xs) (hn : n ≤ 300) (hn0 : n0 ≤ 300) (hE : checkE nad kind seq more code answer inf = 0) (hD : decE 1 xs ≠ 0) :
    Calls Try.prog 6 #[.agg #[.int .i64 nad, .int .i64 kind, .int .i64 seq, .bool more, .int .i64 code, .bool answer, .slice A n c], .slice A0 n0 c0, .bool true] w fun e w' => e = .returned (.bool true) ∧ Below w.heap.size w w' := by
  have hl0 := IsB.len h0
  have g1 : ¬ (300 : Int) < (n : Int) := by omega
  have g2 : ¬ (300 : Int) < (n0 : Int) := by omega
  have HX := Lib.hid (And.intro (Rd.alloc h (.cells #[.int .i64 nad, .int .i64 kind, .int .i64 seq, .bool more, .int .i64 code, .bool answer, .slice A n c] 24)) (Rd.alloc h0 (.cells #[.int .i64 nad, .int .i64 kind, .int .i64 seq, .bool more, .int .i64 code, .bool answer, .slice A n c] 24)))
  have hEn := fun W hW => enc_any nad kind seq more code answer A n c inf 1 W hW
  have hDe := fun W hW => dec_any A0 n0 c0 1 xs W hW (by omega)
  unfold EncPost at hEn
  unfold DecPost at hDe
  have hek : encE 1 nad kind seq more code answer inf = 0 := by unfold encE; rw [if_pos (.inr rfl)]; exact hE
  have hel : encL 1 nad kind seq more code answer inf = encB 1 nad kind seq more code answer inf := by unfold encL; rw [if_pos hek]
  obtain ⟨y0, y1, y2, y3, y4, y5, y6, y7⟩ := dec_enc (k := 1) (.inr rfl) hE
  have hls := encB_short (k := 1) (.inr rfl) hE
  rw [hek, hel] at hEn
  have hBack := fun A n c W hW => dec_any A n c 1 (encB 1 nad kind seq more code answer inf) W hW hls
  unfold DecPost at hBack
  rw [y0, y1, y2, y3, y4, y5, y6, y7] at hBack
  clear hek hel y0 y1 y2 y3 y4 y5 y6 y7 hls
  generalize encB 1 nad kind seq more code answer inf = l at *
  have HBk := Lib.hid hBack
  clear hBack
  have hRe : True := trivial
  generalize decE 1 xs = ed at *
  have hedf : (ed == 0) = false := by simpa using hD
  generalize dNad 1 xs = nad2 at hDe hRe
  generalize dKind 1 xs = kind2 at hDe hRe
  generalize dSeq 1 xs = seq2 at hDe hRe
  generalize dMore 1 xs = more2 at hDe hRe
  generalize dCode 1 xs = code2 at hDe hRe
  generalize dAns 1 xs = ans2 at hDe hRe
  generalize dInf 1 xs = inf2 at hDe hRe
  have HF := Lib.hid (And.intro hEn (And.intro hDe hRe))
  clear hEn hDe hRe hE hD hl0 h h0
  go_enter Try.func6, Try.ntmps6
  go_wp2_with fail
  refine (HF.out.1 _ HX.out.1).mono ?_
  rintro e w1 ⟨A1, n1, c1, rfl, hi, hb⟩
  have hcl : ∀ j v, [.int .i64 nad, .int .i64 kind, .int .i64 seq, .bool more, .int .i64 code, .bool answer, .slice A n c][j]? = some v → w1.cell? ⟨w.heap.size, j, none⟩ = some v := fun j v hv => (hb.cell (p := ⟨w.heap.size, j, none⟩) (by simp)).trans ((cell_new w _ _ j).trans hv)
  have hp0 := hcl 0 _ rfl
  have hp1 := hcl 1 _ rfl
  have hp2 := hcl 2 _ rfl
  have hp3 := hcl 3 _ rfl
  have hp4 := hcl 4 _ rfl
  have hp5 := hcl 5 _ rfl
  have hp6 := hcl 6 _ rfl
  have hz1 : w.heap.size < w1.heap.size := by have := hb.size; simp at this; omega
  have HC1 := Lib.hid hcl
  have H1 := Lib.hid (And.intro hi.rd (And.intro (Rd.below HX.out.2 hb) (And.intro (Rd.below HX.out.1 hb) (((Below.refl w.heap.size w).alloc (Nat.le_refl _) (.cells #[.int .i64 nad, .int .i64 kind, .int .i64 seq, .bool more, .int .i64 code, .bool answer, .slice A n c] 24)).trans (hb.mono (by simp))))))
  clear hi hb hcl
  go_wp2_with fail
  refine (HBk.out _ _ _ _ H1.out.1).mono ?_
  rintro e w2 ⟨A2, n2, c2, rfl, hi, hb⟩
  have hz2 : w1.heap.size ≤ w2.heap.size := hb.size
  have hcl : ∀ j v, [.int .i64 nad, .int .i64 kind, .int .i64 seq, .bool more, .int .i64 code, .bool answer, .slice A n c][j]? = some v → (w2.alloc (.cells #[.int .i64 nad, .int .i64 kind, .int .i64 seq, .bool more, .int .i64 code, .bool answer, .slice A2 n2 c2] 24)).cell? ⟨w.heap.size, j, none⟩ = some v := fun j v hv => (World.cell?_alloc_lt _ _ _ (by show w.heap.size < _; omega)).trans ((hb.cell (p := ⟨w.heap.size, j, none⟩) hz1).trans (HC1.out j v hv))
  have hq0 := hcl 0 _ rfl
  have hq1 := hcl 1 _ rfl
  have hq2 := hcl 2 _ rfl
  have hq3 := hcl 3 _ rfl
  have hq4 := hcl 4 _ rfl
  have hq5 := hcl 5 _ rfl
  have hq6 := hcl 6 _ rfl
  have H2 := Lib.hid (And.intro (Rd.alloc hi (.cells #[.int .i64 nad, .int .i64 kind, .int .i64 seq, .bool more, .int .i64 code, .bool answer, .slice A2 n2 c2] 24)) (And.intro (Rd.alloc (Rd.below H1.out.2.1 hb) (.cells #[.int .i64 nad, .int .i64 kind, .int .i64 seq, .bool more, .int .i64 code, .bool answer, .slice A2 n2 c2] 24)) (And.intro (Rd.alloc (Rd.below H1.out.2.2.1 hb) (.cells #[.int .i64 nad, .int .i64 kind, .int .i64 seq, .bool more, .int .i64 code, .bool answer, .slice A2 n2 c2] 24)) ((H1.out.2.2.2.trans (hb.mono H1.out.2.2.2.size)).alloc (by omega) (.cells #[.int .i64 nad, .int .i64 kind, .int .i64 seq, .bool more, .int .i64 code, .bool answer, .slice A2 n2 c2] 24)))))
  clear hi hb hcl
  go_wp2_with fail
  refine (rsame_any nad kind seq more code answer A2 n2 c2 inf nad kind seq more code answer A n c inf _ H2.out.1 H2.out.2.2.1).mono ?_
  rintro e w3 ⟨rfl, hb⟩
  rw [sameBl_self2]
  have hz3 : w2.heap.size < w3.heap.size := by have := hb.size; simp at this; omega
  have H3 := Lib.hid (And.intro (Rd.below H2.out.2.1 hb) (H2.out.2.2.2.trans (hb.mono H2.out.2.2.2.size)))
  clear hb
  go_wp2_with fail
  refine (HF.out.2.1 _ H3.out.1).mono ?_
  rintro e w5 ⟨A5, n5, c5, rfl, hi, hb⟩
  have H5 := Lib.hid (And.intro (Rd.alloc hi (.cells #[.int .i64 nad2, .int .i64 kind2, .int .i64 seq2, .bool more2, .int .i64 code2, .bool ans2, .slice A5 n5 c5] 24)) (And.intro (Rd.alloc (Rd.below H3.out.1 hb) (.cells #[.int .i64 nad2, .int .i64 kind2, .int .i64 seq2, .bool more2, .int .i64 code2, .bool ans2, .slice A5 n5 c5] 24)) ((H3.out.2.trans (hb.mono H3.out.2.size)).alloc (by have := hb.size; have := H3.out.2.size; omega) (.cells #[.int .i64 nad2, .int .i64 kind2, .int .i64 seq2, .bool more2, .int .i64 code2, .bool ans2, .slice A5 n5 c5] 24))))
  clear hi hb
  go_wp2_with fail
  refine (awake_any _).mono ?_
  rintro e w8 ⟨rfl, hb⟩
  have H8 := Lib.hid (H5.out.2.2.trans (hb.mono H5.out.2.2.size))
  clear hb
  go_wp2_with fail
  go_ret
  exact ⟨rfl, H8.out⟩

set_option maxRecDepth 8000 in
set_option maxHeartbeats 2000000 in
theorem walk_round_true_no_ok (h : IsB w A n c inf) (h0 : IsB w A0 n0 c0 xs) (hn : n ≤ 300) (hn0 : n0 ≤ 300) (hE : checkE nad kind seq more code answer inf ≠ 0) (hD : decE 1 xs = 0) :
    Calls Try.prog 6 #[.agg #[.int .i64 nad, .int .i64 kind, .int .i64 seq, .bool more, .int .i64 code, .bool answer, .slice A n c], .slice A0 n0 c0, .bool true] w fun e w' => e = .returned (.bool true) ∧ Below w.heap.size w w' := by
  have hl0 := IsB.len h0
  have g1 : ¬ (300 : Int) < (n : Int) := by omega
  have g2 : ¬ (300 : Int) < (n0 : Int) := by omega
  have HX := Lib.hid (And.intro (Rd.alloc h (.cells #[.int .i64 nad, .int .i64 kind, .int .i64 seq, .bool more, .int .i64 code, .bool answer, .slice A n c] 24)) (Rd.alloc h0 (.cells #[.int .i64 nad, .int .i64 kind, .int .i64 seq, .bool more, .int .i64 code, .bool answer, .slice A n c] 24)))
  have hEn := fun W hW => enc_any nad kind seq more code answer A n c inf 1 W hW
  have hDe := fun W hW => dec_any A0 n0 c0 1 xs W hW (by omega)
  unfold EncPost at hEn
  unfold DecPost at hDe
  have hek : encE 1 nad kind seq more code answer inf ≠ 0 := by unfold encE; rw [if_pos (.inr rfl)]; exact hE
  generalize encE 1 nad kind seq more code answer inf = er at *
  generalize encL 1 nad kind seq more code answer inf = l at *
  have herf : (er == 0) = false := by simpa using hek
  obtain ⟨z0, z1⟩ := enc_dec hD
  have hRe := fun A n c W hW => enc_any (dNad 1 xs) (dKind 1 xs) (dSeq 1 xs) (dMore 1 xs) (dCode 1 xs) (dAns 1 xs) A n c (dInf 1 xs) 1 W hW
  unfold EncPost at hRe
  rw [z0, z1] at hRe
  rw [hD] at hDe
  clear z0 z1
  generalize dNad 1 xs = nad2 at hDe hRe
  generalize dKind 1 xs = kind2 at hDe hRe
  generalize dSeq 1 xs = seq2 at hDe hRe
  generalize dMore 1 xs = more2 at hDe hRe
  generalize dCode 1 xs = code2 at hDe hRe
  generalize dAns 1 xs = ans2 at hDe hRe
  generalize dInf 1 xs = inf2 at hDe hRe
  have HF := Lib.hid (And.intro hEn (And.intro hDe hRe))
  clear hEn hDe hRe hE hD hl0 h h0 hek
  go_enter Try.func6, Try.ntmps6
  go_wp2_with fail
  refine (HF.out.1 _ HX.out.1).mono ?_
  rintro e w1 ⟨A1, n1, c1, rfl, hi, hb⟩
  have hcl : ∀ j v, [.int .i64 nad, .int .i64 kind, .int .i64 seq, .bool more, .int .i64 code, .bool answer, .slice A n c][j]? = some v → w1.cell? ⟨w.heap.size, j, none⟩ = some v := fun j v hv => (hb.cell (p := ⟨w.heap.size, j, none⟩) (by simp)).trans ((cell_new w _ _ j).trans hv)
  have hz1 : w.heap.size < w1.heap.size := by have := hb.size; simp at this; omega
  have HC1 := Lib.hid hcl
  have H1 := Lib.hid (And.intro hi.rd (And.intro (Rd.below HX.out.2 hb) (And.intro (Rd.below HX.out.1 hb) (((Below.refl w.heap.size w).alloc (Nat.le_refl _) (.cells #[.int .i64 nad, .int .i64 kind, .int .i64 seq, .bool more, .int .i64 code, .bool answer, .slice A n c] 24)).trans (hb.mono (by simp))))))
  clear hi hb hcl
  go_wp2_with fail
  refine (HF.out.2.1 _ H1.out.2.1).mono ?_
  rintro e w5 ⟨A5, n5, c5, rfl, hi, hb⟩
  have H5 := Lib.hid (And.intro (Rd.alloc hi (.cells #[.int .i64 nad2, .int .i64 kind2, .int .i64 seq2, .bool more2, .int .i64 code2, .bool ans2, .slice A5 n5 c5] 24)) (And.intro (Rd.alloc (Rd.below H1.out.2.1 hb) (.cells #[.int .i64 nad2, .int .i64 kind2, .int .i64 seq2, .bool more2, .int .i64 code2, .bool ans2, .slice A5 n5 c5] 24)) ((H1.out.2.2.2.trans (hb.mono H1.out.2.2.2.size)).alloc (by have := hb.size; have := H1.out.2.2.2.size; omega) (.cells #[.int .i64 nad2, .int .i64 kind2, .int .i64 seq2, .bool more2, .int .i64 code2, .bool ans2, .slice A5 n5 c5] 24))))
  clear hi hb
  go_wp2_with fail
  refine (HF.out.2.2 _ _ _ _ H5.out.1).mono ?_
  rintro e w6 ⟨A6, n6, c6, rfl, hi, hb⟩
  have H6 := Lib.hid (And.intro hi.rd (And.intro (Rd.below H5.out.2.1 hb) (H5.out.2.2.trans (hb.mono H5.out.2.2.size))))
  clear hi hb
  go_wp2_with fail
  refine (same_any _ _ _ _ _ _ _ _ _ H6.out.1 H6.out.2.1).mono ?_
  rintro e w7 ⟨rfl, hb⟩
  rw [show decide (xs = xs) = true by simp]
  have H7 := Lib.hid (H6.out.2.2.trans (hb.mono H6.out.2.2.size))
  clear hb
  go_wp2_with fail
  refine (awake_any _).mono ?_
  rintro e w8 ⟨rfl, hb⟩
  have H8 := Lib.hid (H7.out.trans (hb.mono H7.out.size))
  clear hb
  go_wp2_with fail
  go_ret
  exact ⟨rfl, H8.out⟩

set_option maxRecDepth 8000 in
set_option maxHeartbeats 2000000 in
theorem walk_round_true_no_no (h : IsB w A n c inf) (h0 : IsB w A0 n0 c0 xs) (hn : n ≤ 300) (hn0 : n0 ≤ 300) (hE : checkE nad kind seq more code answer inf ≠ 0) (hD : decE 1 xs ≠ 0) :
    Calls Try.prog 6 #[.agg #[.int .i64 nad, .int .i64 kind, .int .i64 seq, .bool more, .int .i64 code, .bool answer, .slice A n c], .slice A0 n0 c0, .bool true] w fun e w' => e = .returned (.bool true) ∧ Below w.heap.size w w' := by
  have hl0 := IsB.len h0
  have g1 : ¬ (300 : Int) < (n : Int) := by omega
  have g2 : ¬ (300 : Int) < (n0 : Int) := by omega
  have HX := Lib.hid (And.intro (Rd.alloc h (.cells #[.int .i64 nad, .int .i64 kind, .int .i64 seq, .bool more, .int .i64 code, .bool answer, .slice A n c] 24)) (Rd.alloc h0 (.cells #[.int .i64 nad, .int .i64 kind, .int .i64 seq, .bool more, .int .i64 code, .bool answer, .slice A n c] 24)))
  have hEn := fun W hW => enc_any nad kind seq more code answer A n c inf 1 W hW
  have hDe := fun W hW => dec_any A0 n0 c0 1 xs W hW (by omega)
  unfold EncPost at hEn
  unfold DecPost at hDe
  have hek : encE 1 nad kind seq more code answer inf ≠ 0 := by unfold encE; rw [if_pos (.inr rfl)]; exact hE
  generalize encE 1 nad kind seq more code answer inf = er at *
  generalize encL 1 nad kind seq more code answer inf = l at *
  have herf : (er == 0) = false := by simpa using hek
  have hRe : True := trivial
  generalize decE 1 xs = ed at *
  have hedf : (ed == 0) = false := by simpa using hD
  generalize dNad 1 xs = nad2 at hDe hRe
  generalize dKind 1 xs = kind2 at hDe hRe
  generalize dSeq 1 xs = seq2 at hDe hRe
  generalize dMore 1 xs = more2 at hDe hRe
  generalize dCode 1 xs = code2 at hDe hRe
  generalize dAns 1 xs = ans2 at hDe hRe
  generalize dInf 1 xs = inf2 at hDe hRe
  have HF := Lib.hid (And.intro hEn (And.intro hDe hRe))
  clear hEn hDe hRe hE hD hl0 h h0 hek
  go_enter Try.func6, Try.ntmps6
  go_wp2_with fail
  refine (HF.out.1 _ HX.out.1).mono ?_
  rintro e w1 ⟨A1, n1, c1, rfl, hi, hb⟩
  have hcl : ∀ j v, [.int .i64 nad, .int .i64 kind, .int .i64 seq, .bool more, .int .i64 code, .bool answer, .slice A n c][j]? = some v → w1.cell? ⟨w.heap.size, j, none⟩ = some v := fun j v hv => (hb.cell (p := ⟨w.heap.size, j, none⟩) (by simp)).trans ((cell_new w _ _ j).trans hv)
  have hz1 : w.heap.size < w1.heap.size := by have := hb.size; simp at this; omega
  have HC1 := Lib.hid hcl
  have H1 := Lib.hid (And.intro hi.rd (And.intro (Rd.below HX.out.2 hb) (And.intro (Rd.below HX.out.1 hb) (((Below.refl w.heap.size w).alloc (Nat.le_refl _) (.cells #[.int .i64 nad, .int .i64 kind, .int .i64 seq, .bool more, .int .i64 code, .bool answer, .slice A n c] 24)).trans (hb.mono (by simp))))))
  clear hi hb hcl
  go_wp2_with fail
  refine (HF.out.2.1 _ H1.out.2.1).mono ?_
  rintro e w5 ⟨A5, n5, c5, rfl, hi, hb⟩
  have H5 := Lib.hid (And.intro (Rd.alloc hi (.cells #[.int .i64 nad2, .int .i64 kind2, .int .i64 seq2, .bool more2, .int .i64 code2, .bool ans2, .slice A5 n5 c5] 24)) (And.intro (Rd.alloc (Rd.below H1.out.2.1 hb) (.cells #[.int .i64 nad2, .int .i64 kind2, .int .i64 seq2, .bool more2, .int .i64 code2, .bool ans2, .slice A5 n5 c5] 24)) ((H1.out.2.2.2.trans (hb.mono H1.out.2.2.2.size)).alloc (by have := hb.size; have := H1.out.2.2.2.size; omega) (.cells #[.int .i64 nad2, .int .i64 kind2, .int .i64 seq2, .bool more2, .int .i64 code2, .bool ans2, .slice A5 n5 c5] 24))))
  clear hi hb
  go_wp2_with fail
  refine (awake_any _).mono ?_
  rintro e w8 ⟨rfl, hb⟩
  have H8 := Lib.hid (H5.out.2.2.trans (hb.mono H5.out.2.2.size))
  clear hb
  go_wp2_with fail
  go_ret
  exact ⟨rfl, H8.out⟩

theorem walk_round (b : Bool) (h : IsB w A n c inf) (h0 : IsB w A0 n0 c0 xs) :
    Calls Try.prog 6 #[.agg #[.int .i64 nad, .int .i64 kind, .int .i64 seq, .bool more, .int .i64 code, .bool answer, .slice A n c], .slice A0 n0 c0, .bool b] w fun e w' => e = .returned (.bool true) ∧ Below w.heap.size w w' := by
  by_cases hn : 300 < n ∨ 300 < n0
  · cases b
    · exact walk_round_false_big nad kind seq more code answer A n c A0 n0 c0 w hn ⟨h.len63.1, h0.len63.1⟩
    · exact walk_round_true_big nad kind seq more code answer A n c A0 n0 c0 w hn ⟨h.len63.1, h0.len63.1⟩
  have h1 : n ≤ 300 := by omega
  have h2 : n0 ≤ 300 := by omega
  by_cases hE : checkE nad kind seq more code answer inf = 0
  · cases b
    · by_cases hD : decE 0 xs = 0
      · exact walk_round_false_ok_ok nad kind seq more code answer A n c inf A0 n0 c0 xs w h h0 h1 h2 hE hD
      · exact walk_round_false_ok_no nad kind seq more code answer A n c inf A0 n0 c0 xs w h h0 h1 h2 hE hD
    · by_cases hD : decE 1 xs = 0
      · exact walk_round_true_ok_ok nad kind seq more code answer A n c inf A0 n0 c0 xs w h h0 h1 h2 hE hD
      · exact walk_round_true_ok_no nad kind seq more code answer A n c inf A0 n0 c0 xs w h h0 h1 h2 hE hD
  · cases b
    · by_cases hD : decE 0 xs = 0
      · exact walk_round_false_no_ok nad kind seq more code answer A n c inf A0 n0 c0 xs w h h0 h1 h2 hE hD
      · exact walk_round_false_no_no nad kind seq more code answer A n c inf A0 n0 c0 xs w h h0 h1 h2 hE hD
    · by_cases hD : decE 1 xs = 0
      · exact walk_round_true_no_ok nad kind seq more code answer A n c inf A0 n0 c0 xs w h h0 h1 h2 hE hD
      · exact walk_round_true_no_no nad kind seq more code answer A n c inf A0 n0 c0 xs w h h0 h1 h2 hE hD
end
theorem walk_roundtrip (nad kind seq : Int) (more : Bool) (code : Int) (answer : Bool) (A : Option Addr) (n c : Nat) (inf : List UInt8) (A0 : Option Addr) (n0 c0 : Nat) (xs : List UInt8) (b : Bool) (w : World) (h : IsB w A n c inf) (h0 : IsB w A0 n0 c0 xs) :
    Calls Try.prog 6 #[.agg #[.int .i64 nad, .int .i64 kind, .int .i64 seq, .bool more, .int .i64 code, .bool answer, .slice A n c], .slice A0 n0 c0, .bool b] w fun e w' => e = .returned (.bool true) ∧ Below w.heap.size w w' :=
  walk_round nad kind seq more code answer A n c inf A0 n0 c0 xs w b h h0
end Go.Proofs.Ytpfihchdbdhbjaa
