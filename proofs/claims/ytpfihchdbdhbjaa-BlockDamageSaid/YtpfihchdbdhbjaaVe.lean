/- smartcardlaw06.BlockDamage: the walk. -/
import Derived.Test.YtpfihchdbdhbjaaQm
import Derived.Test.YtpfihchdbdhbjaaU
import Derived.Test.YtpfihchdbdhbjaaI
import Derived.Test.YtpfihchdbdhbjaaW
import Derived.RegionTactic
namespace Go.Proofs.Ytpfihchdbdhbjaa
open Go.RowKit
set_option linter.unusedVariables false
theorem Rd.set {w : World} {g o n c : Nat} {vs : List Value} {k : Nat} {v : Value} (h : Rd w (some ⟨g, o, none⟩) n c vs) (hk : k < n) : Rd (w.setCell ⟨g, o + k, none⟩ v) (some ⟨g, o, none⟩) n c (vs.set k v) := by
  refine ⟨by rw [List.length_set, h.len], h.cap, h.max, fun j u hj => ?_⟩
  rw [List.getElem?_set] at hj
  by_cases hjk : k = j
  · subst hjk
    rw [if_pos rfl] at hj
    split at hj
    · injection hj with hj
      subst hj
      obtain ⟨b, off, hA, hc⟩ := h.at_ k vs[k] (List.getElem?_eq_getElem (by assumption))
      injection hA with hA
      injection hA with e1 e2
      subst e1 e2
      exact ⟨g, o, rfl, World.cell?_setCell_same _ _ _ hc⟩
    · cases hj
  · rw [if_neg hjk] at hj
    obtain ⟨b, off, hA, hc⟩ := h.at_ j u hj
    injection hA with hA
    injection hA with e1 e2
    subst e1 e2
    exact ⟨g, o, rfl, by rw [World.cell?_setCell_other _ _ _ _ (by simp <;> omega)]; exact hc⟩
section
variable (nad kind seq : Int) (more : Bool) (code : Int) (answer : Bool) (A : Option Addr) (n c : Nat) (inf : List UInt8) (at0 : Int) (w : World)
set_option maxRecDepth 8000 in
set_option maxHeartbeats 2000000 in
theorem walk_damage_false (h : IsB w A n c inf) (hn : n ≤ 300) (ha : 0 ≤ at0) (ha2 : at0 ≤ 9223372036854775807) (hE : checkE nad kind seq more code answer inf = 0) :
    Calls Try.prog 7 #[.agg #[.int .i64 nad, .int .i64 kind, .int .i64 seq, .bool more, .int .i64 code, .bool answer, .slice A n c], .int .i64 at0, .bool false] w fun e w' => e = .returned (.bool true) ∧ Below w.heap.size w w' := by
  have g1 : ¬ (300 : Int) < (n : Int) := by omega
  have g2 : ¬ at0 < 0 := by omega
  have HX := Lib.hid (Rd.alloc h (.cells #[.int .i64 nad, .int .i64 kind, .int .i64 seq, .bool more, .int .i64 code, .bool answer, .slice A n c] 24))
  have hEn := fun W hW => enc_any nad kind seq more code answer A n c inf 0 W hW
  unfold EncPost at hEn
  have hek : encE 0 nad kind seq more code answer inf = 0 := by unfold encE; rw [if_pos (.inl rfl)]; exact hE
  have hel : encL 0 nad kind seq more code answer inf = encB 0 nad kind seq more code answer inf := by unfold encL; rw [if_pos hek]
  have hlen : 3 ≤ (encB 0 nad kind seq more code answer inf).length ∧ (encB 0 nad kind seq more code answer inf).length ≤ 300 := by
    have hi := (ok_facts hE).2.1
    rw [encB_eq, List.length_append, sumB_length]; simp [sizeN]; omega
  have hdm : ∀ (i : Nat) (b : UInt8) (hi : i < (encB 0 nad kind seq more code answer inf).length), b ≠ (encB 0 nad kind seq more code answer inf)[i] → decE 0 ((encB 0 nad kind seq more code answer inf).set i b) = 6 :=
    fun i b hi hb => damage (.inl rfl) (UInt8.ofNat nad.toNat :: UInt8.ofNat (ctlN kind seq more code answer).toNat :: UInt8.ofNat inf.length :: inf) (by simp) i b hi hb
  rw [hek, hel] at hEn
  clear hek hel hE
  generalize encB 0 nad kind seq more code answer inf = l at *
  have HE := Lib.hid (And.intro hEn (And.intro hdm hlen))
  clear hEn hdm hlen h
  obtain ⟨i0, hi0, hz0, hz1, hz2⟩ := info_parts info8
  have HI := Lib.hid (And.intro hi0 (And.intro hz0 (And.intro hz1 hz2)))
  clear hi0 hz0 hz1 hz2
  go_enter Try.func7, Try.ntmps7
  go_wp2_with fail
  refine (HE.out.1 _ HX.out).mono ?_
  rintro e w1 ⟨A1, n1, c1, rfl, hi, hb⟩
  have hn1 : 3 ≤ n1 ∧ n1 ≤ 300 := by have := IsB.len hi.rd; have := HE.out.2.2; omega
  have hn1a := hn1.1
  have hn1b := hn1.2
  obtain ⟨m, hm⟩ : ∃ m : Nat, at0 % (8 * (n1 : Int)) = (m : Int) := ⟨(at0 % (8 * (n1 : Int))).toNat, by have := Int.emod_nonneg at0 (b := 8 * (n1 : Int)) (by omega); omega⟩
  have hm8 : m < 8 * n1 := by have := Int.emod_lt_of_pos at0 (b := 8 * (n1 : Int)) (by omega); omega
  have H1 := Lib.hid (And.intro hi.rd (((Below.refl w.heap.size w).alloc (Nat.le_refl _) (.cells #[.int .i64 nad, .int .i64 kind, .int .i64 seq, .bool more, .int .i64 code, .bool answer, .slice A n c] 24)).trans (hb.mono (by simp))))
  clear hi hb
  have hz : ((n1 : Int) == 0) = false := by simp; omega
  have HO := Lib.hid (own_lit (w := w1) (B := w.heap.size) (e := 5) [] H1.out.2.size (by simp))
  have HR := Lib.hid (Rd.alloc H1.out.1 (.cells #[] 5))
  have hzw : w.heap.size ≤ (w1.alloc (.cells #[] 5)).heap.size := by have := H1.out.2.size; simp; omega
  go_wp2_with (at_builtin; refine wpList_append_rd _ rfl (.tmp 39) (.tmp 40) 22 rfl w.heap.size 5 i0 _ 1 Try.underlying22 HI.out.1 HI.out.2.1 HI.out.2.2.1 HI.out.2.2.2 rfl (some ⟨w1.heap.size, 0, none⟩) 0 0 [] rfl HO.out A1 n1 c1 _ rfl HR.out (u8_one _) ?_ (by omega) hzw ?_)
  case _ => omega
  intro A2 c2 w2 hown hg _
  have hbw2 := (H1.out.2.alloc H1.out.2.size (.cells #[] 5)).grown hg hzw HO.out.block
  have hown2 : Own w2 w.heap.size 5 A2 n1 c2 (l.map u8) := by simpa using hown
  clear hown hg
  rcases hown2.2 with ⟨hv, hn0⟩ | ⟨g, cap, cur, hv, hgB, hg, hnc, hcm, hcs, htk⟩
  · exact absurd hn0 (by omega)
  injection hv with hv1 hv2 hv3
  subst hv1 hv3
  have hr2 := hown2.rd
  have hfz : w2.frozen? ⟨g, m / 8, none⟩ = false := frozen_of_row w2 g (m / 8) cur _ hg
  have hi : m / 8 < l.length := by have := IsB.len hr2; omega
  have hcc : w2.cell? ⟨g, m / 8, none⟩ = some (.int .u8 (l[m / 8].toNat : Int)) := by
    obtain ⟨b, off, hA, hcell⟩ := IsB.cells hr2 (by omega)
    injection hA with hA
    injection hA with e1 e2
    subst e1 e2
    have := hcell (m / 8) l[m / 8] (List.getElem?_eq_getElem hi)
    rwa [Nat.zero_add] at this
  have H2 := Lib.hid (And.intro hr2 (And.intro hbw2 hgB))
  generalize hx : l[m / 8] = x at hcc
  have hx8 : (x.toNat : Int) < 256 := by have := UInt8.toNat_lt x; omega
  clear hown2 hr2 hbw2 hg hcs htk
  have hm1 : (m : Int) / 8 < (n1 : Int) := by omega
  have hm2 : 0 ≤ (m : Int) / 8 := by omega
  have hm3 : ((m : Int) / 8).toNat = m / 8 := by omega
  go_wp2_with fail
  go_region
  have hxor : bits .xor .u8 (x.toNat : Int) (2 ^ (m % 8) % 256) = ((x ^^^ UInt8.ofNat (2 ^ (m % 8))).toNat : Int) := by
    have h1 := u8_xor_byte x (UInt8.ofNat (2 ^ (m % 8)))
    rw [UInt8.toNat_ofNat'] at h1
    rw [← h1]
    congr 1
  rw [hxor]
  have hset := Rd.set (w := w2) (k := m / 8) (v := u8 (x ^^^ UInt8.ofNat (2 ^ (m % 8)))) H2.out.1 (by omega)
  rw [← List.map_set] at hset
  have hne : x ^^^ UInt8.ofNat (2 ^ (m % 8)) ≠ l[m / 8] := by rw [hx]; exact flip_ne x (m % 8) (by omega)
  have h6 := HE.out.2.1 (m / 8) _ hi hne
  have hsl : (l.set (m / 8) (x ^^^ UInt8.ofNat (2 ^ (m % 8)))).length ≤ 900000 := by rw [List.length_set]; have := HE.out.2.2; omega
  rw [Nat.zero_add] at hset
  have hDe := fun W hW => dec_any (some ⟨g, 0, none⟩) n1 c2 0 _ W hW hsl
  unfold DecPost dNad dKind dSeq dMore dCode dAns dInf at hDe
  rw [h6] at hDe
  simp only [show ¬ (6 : Int) = 0 by decide, if_false] at hDe
  have H3 := Lib.hid (And.intro hset.drew (And.intro (H2.out.2.1.setCell (p := ⟨g, m / 8, none⟩) H2.out.2.2 (u8 (x ^^^ UInt8.ofNat (2 ^ (m % 8))))).drew hDe))
  clear hset hDe h6 hsl hne hxor
  change Exit.then _ _ Exit.normal _ ((w2.setCell ⟨g, m / 8, none⟩ (u8 (x ^^^ UInt8.ofNat (2 ^ (m % 8))))).drew)
  generalize (w2.setCell ⟨g, m / 8, none⟩ (u8 (x ^^^ UInt8.ofNat (2 ^ (m % 8))))).drew = w3 at *
  go_wp2_with fail
  refine (H3.out.2.2 _ H3.out.1).mono ?_
  rintro e w4 ⟨A4, n4, c4, rfl, hi4, hb⟩
  have hz4 : w3.heap.size ≤ w4.heap.size := hb.size
  have HB4 := Lib.hid (And.intro (Rd.alloc hi4 (.cells #[.int .i64 0, .int .i64 0, .int .i64 0, .bool false, .int .i64 0, .bool false, .slice A4 n4 c4] 24)) ((H3.out.2.1.trans (hb.mono H3.out.2.1.size)).alloc (by have := H3.out.2.1.size; omega) (.cells #[.int .i64 0, .int .i64 0, .int .i64 0, .bool false, .int .i64 0, .bool false, .slice A4 n4 c4] 24)))
  clear hi4 hb
  go_wp2_with fail
  refine (rsame_any 0 0 0 false 0 false A4 n4 c4 [] 0 0 0 false 0 false none 0 0 [] _ HB4.out.1 Rd.nil).mono ?_
  rintro e w5 ⟨rfl, hb⟩
  have H5 := Lib.hid (HB4.out.2.trans (hb.mono HB4.out.2.size))
  clear hb
  rw [show sameBl 0 0 0 false 0 false [] 0 0 0 false 0 false [] = true by unfold sameBl; simp]
  go_wp2_with fail
  refine (awake_any _).mono ?_
  rintro e w6 ⟨rfl, hb⟩
  have H6 := Lib.hid (H5.out.trans (hb.mono H5.out.size))
  clear hb
  go_wp2_with fail
  go_ret
  exact ⟨rfl, H6.out⟩

set_option maxRecDepth 8000 in
set_option maxHeartbeats 1000000 in
theorem walk_damage_false_big (hn : 300 < n ∨ at0 < 0) (h : n ≤ 9223372036854775807) :
    Calls Try.prog 7 #[.agg #[.int .i64 nad, .int .i64 kind, .int .i64 seq, .bool more, .int .i64 code, .bool answer, .slice A n c], .int .i64 at0, .bool false] w fun e w' => e = .returned (.bool true) ∧ Below w.heap.size w w' := by
  by_cases h1 : 300 < n
  · have h1' : (300 : Int) < (n : Int) := by omega
    go_enter Try.func7, Try.ntmps7
    go_wp2_with fail
    go_ret
    exact ⟨rfl, (Below.refl _ _).alloc (Nat.le_refl _) _⟩
  · have h1' : ¬ (300 : Int) < (n : Int) := by omega
    have h2' : at0 < 0 := by omega
    go_enter Try.func7, Try.ntmps7
    go_wp2_with fail
    go_ret
    exact ⟨rfl, (Below.refl _ _).alloc (Nat.le_refl _) _⟩

set_option maxRecDepth 8000 in
set_option maxHeartbeats 1000000 in
theorem walk_damage_false_no (h : IsB w A n c inf) (hn : n ≤ 300) (ha : 0 ≤ at0) (hE : checkE nad kind seq more code answer inf ≠ 0) :
    Calls Try.prog 7 #[.agg #[.int .i64 nad, .int .i64 kind, .int .i64 seq, .bool more, .int .i64 code, .bool answer, .slice A n c], .int .i64 at0, .bool false] w fun e w' => e = .returned (.bool true) ∧ Below w.heap.size w w' := by
  have g1 : ¬ (300 : Int) < (n : Int) := by omega
  have g2 : ¬ at0 < 0 := by omega
  have HX := Lib.hid (Rd.alloc h (.cells #[.int .i64 nad, .int .i64 kind, .int .i64 seq, .bool more, .int .i64 code, .bool answer, .slice A n c] 24))
  have hEn := fun W hW => enc_any nad kind seq more code answer A n c inf 0 W hW
  unfold EncPost at hEn
  have hek : encE 0 nad kind seq more code answer inf ≠ 0 := by unfold encE; rw [if_pos (.inl rfl)]; exact hE
  generalize encE 0 nad kind seq more code answer inf = er at *
  have her : (er != 0) = true := by simpa using hek
  have HE := Lib.hid hEn
  clear hEn hek hE h
  go_enter Try.func7, Try.ntmps7
  go_wp2_with fail
  refine (HE.out _ HX.out).mono ?_
  rintro e w1 ⟨A1, n1, c1, rfl, hi, hb⟩
  have H1 := Lib.hid (((Below.refl w.heap.size w).alloc (Nat.le_refl _) (.cells #[.int .i64 nad, .int .i64 kind, .int .i64 seq, .bool more, .int .i64 code, .bool answer, .slice A n c] 24)).trans (hb.mono (by simp)))
  clear hi hb
  go_wp2_with fail
  refine (awake_any _).mono ?_
  rintro e w6 ⟨rfl, hb⟩
  have H6 := Lib.hid (H1.out.trans (hb.mono H1.out.size))
  clear hb
  go_wp2_with fail
  go_ret
  exact ⟨rfl, H6.out⟩
set_option maxRecDepth 8000 in
set_option maxHeartbeats 2000000 in
theorem walk_damage_true (h : IsB w A n c inf) (hn : n ≤ 300) (ha : 0 ≤ at0) (ha2 : at0 ≤ 9223372036854775807) (hE : checkE nad kind seq more code answer inf = 0) :
    Calls Try.prog 7 #[.agg #[.int .i64 nad, .int .i64 kind, .int .i64 seq, .bool more, .int .i64 code, .bool answer, .slice A n c], .int .i64 at0, .bool true] w fun e w' => e = .returned (.bool true) ∧ Below w.heap.size w w' := by
  have g1 : ¬ (300 : Int) < (n : Int) := by omega
  have g2 : ¬ at0 < 0 := by omega
  have HX := Lib.hid (Rd.alloc h (.cells #[.int .i64 nad, .int .i64 kind, .int .i64 seq, .bool more, .int .i64 code, .bool answer, .slice A n c] 24))
  have hEn := fun W hW => enc_any nad kind seq more code answer A n c inf 1 W hW
  unfold EncPost at hEn
  have hek : encE 1 nad kind seq more code answer inf = 0 := by unfold encE; rw [if_pos (.inr rfl)]; exact hE
  have hel : encL 1 nad kind seq more code answer inf = encB 1 nad kind seq more code answer inf := by unfold encL; rw [if_pos hek]
  have hlen : 3 ≤ (encB 1 nad kind seq more code answer inf).length ∧ (encB 1 nad kind seq more code answer inf).length ≤ 300 := by
    have hi := (ok_facts hE).2.1
    rw [encB_eq, List.length_append, sumB_length]; simp [sizeN]; omega
  have hdm : ∀ (i : Nat) (b : UInt8) (hi : i < (encB 1 nad kind seq more code answer inf).length), b ≠ (encB 1 nad kind seq more code answer inf)[i] → decE 1 ((encB 1 nad kind seq more code answer inf).set i b) = 6 :=
    fun i b hi hb => damage (.inr rfl) (UInt8.ofNat nad.toNat :: UInt8.ofNat (ctlN kind seq more code answer).toNat :: UInt8.ofNat inf.length :: inf) (by simp) i b hi hb
  rw [hek, hel] at hEn
  clear hek hel hE
  generalize encB 1 nad kind seq more code answer inf = l at *
  have HE := Lib.hid (And.intro hEn (And.intro hdm hlen))
  clear hEn hdm hlen h
  obtain ⟨i0, hi0, hz0, hz1, hz2⟩ := info_parts info8
  have HI := Lib.hid (And.intro hi0 (And.intro hz0 (And.intro hz1 hz2)))
  clear hi0 hz0 hz1 hz2
  go_enter Try.func7, Try.ntmps7
  go_wp2_with fail
  refine (HE.out.1 _ HX.out).mono ?_
  rintro e w1 ⟨A1, n1, c1, rfl, hi, hb⟩
  have hn1 : 3 ≤ n1 ∧ n1 ≤ 300 := by have := IsB.len hi.rd; have := HE.out.2.2; omega
  have hn1a := hn1.1
  have hn1b := hn1.2
  obtain ⟨m, hm⟩ : ∃ m : Nat, at0 % (8 * (n1 : Int)) = (m : Int) := ⟨(at0 % (8 * (n1 : Int))).toNat, by have := Int.emod_nonneg at0 (b := 8 * (n1 : Int)) (by omega); omega⟩
  have hm8 : m < 8 * n1 := by have := Int.emod_lt_of_pos at0 (b := 8 * (n1 : Int)) (by omega); omega
  have H1 := Lib.hid (And.intro hi.rd (((Below.refl w.heap.size w).alloc (Nat.le_refl _) (.cells #[.int .i64 nad, .int .i64 kind, .int .i64 seq, .bool more, .int .i64 code, .bool answer, .slice A n c] 24)).trans (hb.mono (by simp))))
  clear hi hb
  have hz : ((n1 : Int) == 0) = false := by simp; omega
  have HO := Lib.hid (own_lit (w := w1) (B := w.heap.size) (e := 5) [] H1.out.2.size (by simp))
  have HR := Lib.hid (Rd.alloc H1.out.1 (.cells #[] 5))
  have hzw : w.heap.size ≤ (w1.alloc (.cells #[] 5)).heap.size := by have := H1.out.2.size; simp; omega
  go_wp2_with (at_builtin; refine wpList_append_rd _ rfl (.tmp 39) (.tmp 40) 22 rfl w.heap.size 5 i0 _ 1 Try.underlying22 HI.out.1 HI.out.2.1 HI.out.2.2.1 HI.out.2.2.2 rfl (some ⟨w1.heap.size, 0, none⟩) 0 0 [] rfl HO.out A1 n1 c1 _ rfl HR.out (u8_one _) ?_ (by omega) hzw ?_)
  case _ => omega
  intro A2 c2 w2 hown hg _
  have hbw2 := (H1.out.2.alloc H1.out.2.size (.cells #[] 5)).grown hg hzw HO.out.block
  have hown2 : Own w2 w.heap.size 5 A2 n1 c2 (l.map u8) := by simpa using hown
  clear hown hg
  rcases hown2.2 with ⟨hv, hn0⟩ | ⟨g, cap, cur, hv, hgB, hg, hnc, hcm, hcs, htk⟩
  · exact absurd hn0 (by omega)
  injection hv with hv1 hv2 hv3
  subst hv1 hv3
  have hr2 := hown2.rd
  have hfz : w2.frozen? ⟨g, m / 8, none⟩ = false := frozen_of_row w2 g (m / 8) cur _ hg
  have hi : m / 8 < l.length := by have := IsB.len hr2; omega
  have hcc : w2.cell? ⟨g, m / 8, none⟩ = some (.int .u8 (l[m / 8].toNat : Int)) := by
    obtain ⟨b, off, hA, hcell⟩ := IsB.cells hr2 (by omega)
    injection hA with hA
    injection hA with e1 e2
    subst e1 e2
    have := hcell (m / 8) l[m / 8] (List.getElem?_eq_getElem hi)
    rwa [Nat.zero_add] at this
  have H2 := Lib.hid (And.intro hr2 (And.intro hbw2 hgB))
  generalize hx : l[m / 8] = x at hcc
  have hx8 : (x.toNat : Int) < 256 := by have := UInt8.toNat_lt x; omega
  clear hown2 hr2 hbw2 hg hcs htk
  have hm1 : (m : Int) / 8 < (n1 : Int) := by omega
  have hm2 : 0 ≤ (m : Int) / 8 := by omega
  have hm3 : ((m : Int) / 8).toNat = m / 8 := by omega
  go_wp2_with fail
  go_region
  have hxor : bits .xor .u8 (x.toNat : Int) (2 ^ (m % 8) % 256) = ((x ^^^ UInt8.ofNat (2 ^ (m % 8))).toNat : Int) := by
    have h1 := u8_xor_byte x (UInt8.ofNat (2 ^ (m % 8)))
    rw [UInt8.toNat_ofNat'] at h1
    rw [← h1]
    congr 1
  rw [hxor]
  have hset := Rd.set (w := w2) (k := m / 8) (v := u8 (x ^^^ UInt8.ofNat (2 ^ (m % 8)))) H2.out.1 (by omega)
  rw [← List.map_set] at hset
  have hne : x ^^^ UInt8.ofNat (2 ^ (m % 8)) ≠ l[m / 8] := by rw [hx]; exact flip_ne x (m % 8) (by omega)
  have h6 := HE.out.2.1 (m / 8) _ hi hne
  have hsl : (l.set (m / 8) (x ^^^ UInt8.ofNat (2 ^ (m % 8)))).length ≤ 900000 := by rw [List.length_set]; have := HE.out.2.2; omega
  rw [Nat.zero_add] at hset
  have hDe := fun W hW => dec_any (some ⟨g, 0, none⟩) n1 c2 1 _ W hW hsl
  unfold DecPost dNad dKind dSeq dMore dCode dAns dInf at hDe
  rw [h6] at hDe
  simp only [show ¬ (6 : Int) = 0 by decide, if_false] at hDe
  have H3 := Lib.hid (And.intro hset.drew (And.intro (H2.out.2.1.setCell (p := ⟨g, m / 8, none⟩) H2.out.2.2 (u8 (x ^^^ UInt8.ofNat (2 ^ (m % 8))))).drew hDe))
  clear hset hDe h6 hsl hne hxor
  change Exit.then _ _ Exit.normal _ ((w2.setCell ⟨g, m / 8, none⟩ (u8 (x ^^^ UInt8.ofNat (2 ^ (m % 8))))).drew)
  generalize (w2.setCell ⟨g, m / 8, none⟩ (u8 (x ^^^ UInt8.ofNat (2 ^ (m % 8))))).drew = w3 at *
  go_wp2_with fail
  refine (H3.out.2.2 _ H3.out.1).mono ?_
  rintro e w4 ⟨A4, n4, c4, rfl, hi4, hb⟩
  have hz4 : w3.heap.size ≤ w4.heap.size := hb.size
  have HB4 := Lib.hid (And.intro (Rd.alloc hi4 (.cells #[.int .i64 0, .int .i64 0, .int .i64 0, .bool false, .int .i64 0, .bool false, .slice A4 n4 c4] 24)) ((H3.out.2.1.trans (hb.mono H3.out.2.1.size)).alloc (by have := H3.out.2.1.size; omega) (.cells #[.int .i64 0, .int .i64 0, .int .i64 0, .bool false, .int .i64 0, .bool false, .slice A4 n4 c4] 24)))
  clear hi4 hb
  go_wp2_with fail
  refine (rsame_any 0 0 0 false 0 false A4 n4 c4 [] 0 0 0 false 0 false none 0 0 [] _ HB4.out.1 Rd.nil).mono ?_
  rintro e w5 ⟨rfl, hb⟩
  have H5 := Lib.hid (HB4.out.2.trans (hb.mono HB4.out.2.size))
  clear hb
  rw [show sameBl 0 0 0 false 0 false [] 0 0 0 false 0 false [] = true by unfold sameBl; simp]
  go_wp2_with fail
  refine (awake_any _).mono ?_
  rintro e w6 ⟨rfl, hb⟩
  have H6 := Lib.hid (H5.out.trans (hb.mono H5.out.size))
  clear hb
  go_wp2_with fail
  go_ret
  exact ⟨rfl, H6.out⟩

set_option maxRecDepth 8000 in
set_option maxHeartbeats 1000000 in
theorem walk_damage_true_big (hn : 300 < n ∨ at0 < 0) (h : n ≤ 9223372036854775807) :
    Calls Try.prog 7 #[.agg #[.int .i64 nad, .int .i64 kind, .int .i64 seq, .bool more, .int .i64 code, .bool answer, .slice A n c], .int .i64 at0, .bool true] w fun e w' => e = .returned (.bool true) ∧ Below w.heap.size w w' := by
  by_cases h1 : 300 < n
  · have h1' : (300 : Int) < (n : Int) := by omega
    go_enter Try.func7, Try.ntmps7
    go_wp2_with fail
    go_ret
    exact ⟨rfl, (Below.refl _ _).alloc (Nat.le_refl _) _⟩
  · have h1' : ¬ (300 : Int) < (n : Int) := by omega
    have h2' : at0 < 0 := by omega
    go_enter Try.func7, Try.ntmps7
    go_wp2_with fail
    go_ret
    exact ⟨rfl, (Below.refl _ _).alloc (Nat.le_refl _) _⟩

set_option maxRecDepth 8000 in
set_option maxHeartbeats 1000000 in
theorem walk_damage_true_no (h : IsB w A n c inf) (hn : n ≤ 300) (ha : 0 ≤ at0) (hE : checkE nad kind seq more code answer inf ≠ 0) :
    Calls Try.prog 7 #[.agg #[.int .i64 nad, .int .i64 kind, .int .i64 seq, .bool more, .int .i64 code, .bool answer, .slice A n c], .int .i64 at0, .bool true] w fun e w' => e = .returned (.bool true) ∧ Below w.heap.size w w' := by
  have g1 : ¬ (300 : Int) < (n : Int) := by omega
  have g2 : ¬ at0 < 0 := by omega
  have HX := Lib.hid (Rd.alloc h (.cells #[.int .i64 nad, .int .i64 kind, .int .i64 seq, .bool more, .int .i64 code, .bool answer, .slice A n c] 24))
  have hEn := fun W hW => enc_any nad kind seq more code answer A n c inf 1 W hW
  unfold EncPost at hEn
  have hek : encE 1 nad kind seq more code answer inf ≠ 0 := by unfold encE; rw [if_pos (.inr rfl)]; exact hE
  generalize encE 1 nad kind seq more code answer inf = er at *
  have her : (er != 0) = true := by simpa using hek
  have HE := Lib.hid hEn
  clear hEn hek hE h
  go_enter Try.func7, Try.ntmps7
  go_wp2_with fail
  refine (HE.out _ HX.out).mono ?_
  rintro e w1 ⟨A1, n1, c1, rfl, hi, hb⟩
  have H1 := Lib.hid (((Below.refl w.heap.size w).alloc (Nat.le_refl _) (.cells #[.int .i64 nad, .int .i64 kind, .int .i64 seq, .bool more, .int .i64 code, .bool answer, .slice A n c] 24)).trans (hb.mono (by simp)))
  clear hi hb
  go_wp2_with fail
  refine (awake_any _).mono ?_
  rintro e w6 ⟨rfl, hb⟩
  have H6 := Lib.hid (H1.out.trans (hb.mono H1.out.size))
  clear hb
  go_wp2_with fail
  go_ret
  exact ⟨rfl, H6.out⟩
end
theorem walk_damage (nad kind seq : Int) (more : Bool) (code : Int) (answer : Bool) (A : Option Addr) (n c : Nat) (inf : List UInt8) (at0 : Int) (b : Bool) (w : World) (h : IsB w A n c inf) (ha : -9223372036854775808 ≤ at0 ∧ at0 ≤ 9223372036854775807) :
    Calls Try.prog 7 #[.agg #[.int .i64 nad, .int .i64 kind, .int .i64 seq, .bool more, .int .i64 code, .bool answer, .slice A n c], .int .i64 at0, .bool b] w fun e w' => e = .returned (.bool true) ∧ Below w.heap.size w w' := by
  by_cases hn : 300 < n ∨ at0 < 0
  · cases b
    · exact walk_damage_false_big nad kind seq more code answer A n c at0 w hn h.len63.1
    · exact walk_damage_true_big nad kind seq more code answer A n c at0 w hn h.len63.1
  by_cases hE : checkE nad kind seq more code answer inf = 0
  · cases b
    · exact walk_damage_false nad kind seq more code answer A n c inf at0 w h (by omega) (by omega) ha.2 hE
    · exact walk_damage_true nad kind seq more code answer A n c inf at0 w h (by omega) (by omega) ha.2 hE
  · cases b
    · exact walk_damage_false_no nad kind seq more code answer A n c inf at0 w h (by omega) (by omega) hE
    · exact walk_damage_true_no nad kind seq more code answer A n c inf at0 w h (by omega) (by omega) hE
end Go.Proofs.Ytpfihchdbdhbjaa
