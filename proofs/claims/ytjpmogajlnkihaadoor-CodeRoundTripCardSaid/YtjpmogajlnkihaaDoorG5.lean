/- Several texts in one. -/
import Derived.Test.YtjpmogajlnkihaaDoorG4
import Derived.Test.YtjpmogajlnkihaaDoorG2
import Derived.ProofKit
import Derived.OpenShut
import Derived.ChangeOld
import Derived.Below
import Derived.Test.YtjpmogajlnkihaaDoorRows
import Derived.ShutString
import Derived.Lib.SmallJoins
import Derived.Test.YtjpmogajlnkihaaDoorCards
import Derived.Test.YtjpmogajlnkihaaDoorTie
import Derived.Test.YtjpmogajlnkihaaDoorG3
import Derived.Lib.LaidTab
import Derived.LaidMore
import Derived.Handed
import Derived.WideShapes
import Derived.Lay

set_option linter.unusedSimpArgs false
set_option linter.unusedVariables false
set_option linter.unusedSectionVars false
/- Instructions as plain data: forms, limits, which are valid; their bytes, numbers in decimal. No program in sight. -/
namespace Go.Proofs.YtjpmogajlnkihaaDoor.En
open Go
set_option linter.unusedVariables false
/-- An instruction. -/
structure In where
  op : Int
  a : Int
  b : Int
  c : Int
  deriving DecidableEq
def ftab : List (Int × Int × Int) := [(0,0,0), (1,0,0), (0,0,0), (2,0,0), (2,0,0), (2,3,0), (0,0,0), (0,0,0), (0,0,0), (0,0,0), (0,0,0), (0,0,0), (0,0,0), (0,0,0), (0,0,0), (0,0,0), (0,0,0), (0,0,0), (0,0,0), (0,0,0), (0,0,0),
  (4,0,0), (4,0,0), (4,0,0), (4,0,0), (4,0,0), (4,0,0), (4,0,0), (4,0,0), (4,0,0), (4,0,0), (4,0,0), (4,0,0), (5,6,0), (7,0,0), (0,0,0), (0,0,0), (0,0,0), (0,0,0), (0,0,0), (0,0,0), (0,0,0), (5,6,8), (5,6,8), (9,0,0), (9,0,0), (10,11,0), (5,6,12), (5,6,12), (0,0,0), (0,0,0), (5,6,0), (5,6,0), (13,0,0)]
def fm (op : Int) : Int × Int × Int := ftab.getD op.toNat (0, 0, 0)
def fA (op : Int) : Int := (fm op).1
def fB (op : Int) : Int := (fm op).2.1
def fC (op : Int) : Int := (fm op).2.2
def lim (f p : Int) : Int × Int :=
  if f = 1 then (-2147483648, 2147483647) else if f = 2 then (0, 15) else if f = 3 then (-128, 127) else if f = 4 then (0, 255) else if f = 5 then (0, 4) else if f = 10 then (0, 4)
  else if f = 6 then (if p = 255 then (0, 1) else (0, 31)) else if f = 7 then (2, 4) else if f = 8 then (0, 15) else if f = 9 then (0, 255) else if f = 11 then (0, 63) else if f = 12 then (0, 15) else if f = 13 then (0, 14) else (0, 0)
def oe (f n p : Int) : Int := if f = 0 then (if n = 0 then 0 else 4) else if (n < (lim f p).1 ∨ (lim f p).2 < n) ∧ ¬ (f = 5 ∧ n = 255) then 2 else 0
def chk (i : In) : Int :=
  if i.op < 0 then 4 else if 54 ≤ i.op then 4 else if oe (fA i.op) i.a i.a = 0 then (if oe (fB i.op) i.b i.a = 0 then oe (fC i.op) i.c i.a else oe (fB i.op) i.b i.a) else oe (fA i.op) i.a i.a
/-- The forms that an instruction has. -/
def Fm (x y z : Int) : Prop := (y = 0 ∧ z = 0 ∧ 0 ≤ x ∧ x ≤ 13 ∧ x ≠ 5 ∧ x ≠ 6 ∧ x ≠ 10 ∧ x ≠ 11) ∨ (x = 2 ∧ y = 3 ∧ z = 0) ∨ (x = 5 ∧ y = 6 ∧ (z = 0 ∨ z = 8 ∨ z = 12)) ∨ (x = 10 ∧ y = 11 ∧ z = 0)
instance (x y z : Int) : Decidable (Fm x y z) := by unfold Fm; infer_instance
theorem fm_tab : ∀ k : Fin 54, Fm (fA (k.val : Int)) (fB (k.val : Int)) (fC (k.val : Int)) := by decide +kernel
theorem fm_of {op : Int} (h0 : 0 ≤ op) (h1 : op < 54) : Fm (fA op) (fB op) (fC op) := by
  have := fm_tab ⟨op.toNat, by omega⟩
  have e : ((op.toNat : Nat) : Int) = op := by omega
  simpa only [e] using this
/-- For all numbers of instructions, out of a check of 54. -/
theorem each54 {P : Int → Prop} (h : ∀ k : Fin 54, P (k.val : Int)) {op : Int} (h0 : 0 ≤ op) (h1 : op < 54) : P op := by
  have := h ⟨op.toNat, by omega⟩
  have e : ((op.toNat : Nat) : Int) = op := by omega
  simpa only [e] using this
theorem chk_range {i : In} (h : chk i = 0) : 0 ≤ i.op ∧ i.op < 54 := by
  unfold chk at h
  split at h
  · cases h
  · split at h
    · cases h
    · omega
theorem chk_parts {i : In} (h : chk i = 0) : oe (fA i.op) i.a i.a = 0 ∧ oe (fB i.op) i.b i.a = 0 ∧ oe (fC i.op) i.c i.a = 0 := by
  unfold chk at h
  split at h
  · cases h
  · split at h
    · cases h
    · split at h
      · rename_i h1
        split at h
        · rename_i h2; exact ⟨h1, h2, h⟩
        · rename_i h2; exact absurd h h2
      · rename_i h1; exact absurd h h1
theorem lim_one (p : Int) : lim 1 p = (-2147483648, 2147483647) := by
  unfold lim; rw [if_pos rfl]
set_option maxHeartbeats 4000000 in
theorem lim_mem {f : Int} (h1 : f ≠ 1) (p : Int) : lim f p ∈ [(0, 15), (-128, 127), (0, 255), (0, 4), (0, 1), (0, 31), (2, 4), (0, 63), (0, 14), ((0 : Int), (0 : Int))] := by
  unfold lim
  rw [if_neg h1]
  repeat' split
  all_goals decide
theorem lim_small {f : Int} (h1 : f ≠ 1) (p : Int) : -128 ≤ (lim f p).1 ∧ (lim f p).2 ≤ 255 := by
  have h : ∀ q ∈ [(0, 15), (-128, 127), (0, 255), (0, 4), (0, 1), (0, 31), (2, 4), (0, 63), (0, 14), ((0 : Int), (0 : Int))], -128 ≤ q.1 ∧ q.2 ≤ 255 := by decide
  exact h _ (lim_mem h1 p)
theorem lim_range (f p : Int) : -2147483648 ≤ (lim f p).1 ∧ (lim f p).2 ≤ 2147483647 := by
  by_cases h1 : f = 1
  · subst h1
    rw [lim_one]
    simp only
    omega
  · have := lim_small h1 p
    omega
/-- A valid operand fits 32 bits. -/
theorem oe_range {f n p : Int} (h : oe f n p = 0) : -2147483648 ≤ n ∧ n ≤ 2147483647 := by
  have := lim_range f p
  unfold oe at h
  split at h
  · split at h
    · omega
    · cases h
  · split at h
    · cases h
    · omega
theorem oe_none {n p : Int} (h : oe 0 n p = 0) : n = 0 := by
  unfold oe at h
  rw [if_pos rfl] at h
  split at h
  · assumption
  · cases h
/-- A valid operand of one byte. -/
theorem oe_byte {f n p : Int} (h : oe f n p = 0) (h0 : f ≠ 0) (h1 : f ≠ 1) (h3 : f ≠ 3) : 0 ≤ n ∧ n ≤ 255 := by
  have hl : 0 ≤ (lim f p).1 ∧ (lim f p).2 ≤ 255 := by
    unfold lim
    rw [if_neg h1]
    by_cases h2 : f = 2
    · rw [if_pos h2]; exact ⟨by decide, by decide⟩
    rw [if_neg h2, if_neg h3]
    repeat' split
    all_goals exact ⟨by decide, by decide⟩
  unfold oe at h
  rw [if_neg h0] at h
  split at h
  · cases h
  · omega
theorem oe_step {n p : Int} (h : oe 3 n p = 0) : -128 ≤ n ∧ n ≤ 127 := by
  unfold oe at h
  rw [if_neg (by decide)] at h
  have e : lim 3 p = (-128, 127) := rfl
  rw [e] at h
  split at h
  · cases h
  · omega
theorem oe_kind {n p : Int} (h : oe 7 n p = 0) : 2 ≤ n ∧ n ≤ 4 := by
  unfold oe at h
  rw [if_neg (by decide)] at h
  have e : lim 7 p = (2, 4) := rfl
  rw [e] at h
  split at h
  · cases h
  · omega
/-! Bytes -/
def byteI (n : Int) : UInt8 := UInt8.ofNat (n % 256).toNat
theorem byteI_toNat (n : Int) : ((byteI n).toNat : Int) = n % 256 := by
  unfold byteI
  rw [UInt8.toNat_ofNat', Nat.mod_eq_of_lt (by omega)]; omega
theorem byteI_u8 (u : UInt8) : byteI (u.toNat : Int) = u := by
  apply UInt8.toNat_inj.1
  have := byteI_toNat (u.toNat : Int)
  have := u.toNat_lt
  omega
theorem byteI_eq {n : Int} {u : UInt8} (h : n % 256 = u.toNat) : byteI n = u := by
  apply UInt8.toNat_inj.1
  have := byteI_toNat n
  omega
def encO (f n : Int) : List UInt8 := if f = 0 then [] else if f = 1 then [byteI (n / 16777216), byteI (n / 65536), byteI (n / 256), byteI n] else [byteI n]
def encI (i : In) : List UInt8 := byteI i.op :: (encO (fA i.op) i.a ++ (encO (fB i.op) i.b ++ encO (fC i.op) i.c))
def wid (f : Int) : Nat := if f = 0 then 0 else if f = 1 then 4 else 1
theorem encO_len (f n : Int) : (encO f n).length = wid f := by
  unfold encO wid
  repeat' split
  all_goals rfl
/-- Two's complement. -/
def s32 (n : Int) : Int := if n < 2147483648 then n else n - 4294967296
def s8 (n : Int) : Int := if n < 128 then n else n - 256
def valB (f : Int) (l : List UInt8) : Int :=
  if f = 0 then 0 else if f = 1 then (match l with | w :: x :: y :: z :: _ => s32 (16777216 * w.toNat + 65536 * x.toNat + 256 * y.toNat + z.toNat) | _ => 0)
  else match l with | b :: _ => (if f = 3 then s8 b.toNat else b.toNat) | [] => 0
theorem s32_enc {n : Int} (h1 : -2147483648 ≤ n) (h2 : n ≤ 2147483647) : s32 (16777216 * (n / 16777216 % 256) + 65536 * (n / 65536 % 256) + 256 * (n / 256 % 256) + n % 256) = n := by
  unfold s32
  split <;> omega
theorem enc_s32 (w x y z : UInt8) : encO 1 (s32 (16777216 * w.toNat + 65536 * x.toNat + 256 * y.toNat + z.toNat)) = [w, x, y, z] := by
  have h1 := w.toNat_lt
  have h2 := x.toNat_lt
  have h3 := y.toNat_lt
  have h4 := z.toNat_lt
  show [_, _, _, _] = _
  rw [byteI_eq (u := w), byteI_eq (u := x), byteI_eq (u := y), byteI_eq (u := z)]
  all_goals unfold s32; split <;> omega
/-- A valid operand, read back. -/
theorem val_enc {f n p : Int} (h : oe f n p = 0) (r : List UInt8) : valB f (encO f n ++ r) = n := by
  unfold valB encO
  by_cases h0 : f = 0
  · subst h0; rw [if_pos rfl]; exact (oe_none h).symm
  rw [if_neg h0, if_neg h0]
  by_cases h1 : f = 1
  · subst h1
    rw [if_pos rfl, if_pos rfl]
    have := oe_range h
    simp only [List.cons_append, byteI_toNat]
    exact s32_enc this.1 this.2
  rw [if_neg h1, if_neg h1]
  simp only [List.cons_append, List.nil_append, byteI_toNat]
  by_cases h3 : f = 3
  · subst h3
    rw [if_pos rfl]
    have := oe_step h
    unfold s8
    split <;> omega
  · rw [if_neg h3]
    have := oe_byte h h0 h1 h3
    omega
/-- Bytes that were read, written again. -/
theorem enc_val (f : Int) (l : List UInt8) (h : wid f ≤ l.length) : encO f (valB f l) = l.take (wid f) := by
  unfold valB wid at *
  by_cases h0 : f = 0
  · subst h0; rfl
  rw [if_neg h0] at h ⊢
  rw [if_neg h0]
  by_cases h1 : f = 1
  · subst h1
    rw [if_pos rfl] at h ⊢
    rw [if_pos rfl]
    match l, h with
    | w :: x :: y :: z :: r, _ => exact enc_s32 w x y z
  rw [if_neg h1] at h ⊢
  rw [if_neg h1]
  match l, h with
  | b :: r, _ =>
    unfold encO
    rw [if_neg h0, if_neg h1]
    have := b.toNat_lt
    show [byteI (if f = 3 then s8 b.toNat else b.toNat)] = [b]
    rw [byteI_eq (u := b)]
    by_cases h3 : f = 3
    · rw [if_pos h3]; unfold s8
      split <;> omega
    · rw [if_neg h3]; omega
/-- One instruction read: what it is, what is left, the error. -/
def decI : List UInt8 → In × List UInt8 × Int
  | [] => (⟨0, 0, 0, 0⟩, [], 0)
  | b :: r =>
    if 54 ≤ b.toNat then (⟨0, 0, 0, 0⟩, [], 4)
    else if r.length < wid (fA b.toNat) + wid (fB b.toNat) + wid (fC b.toNat) then (⟨0, 0, 0, 0⟩, [], 5)
    else
      match (⟨b.toNat, valB (fA b.toNat) r, valB (fB b.toNat) (r.drop (wid (fA b.toNat))), valB (fC b.toNat) (r.drop (wid (fA b.toNat) + wid (fB b.toNat)))⟩ : In) with
      | i => (i, r.drop (wid (fA b.toNat) + wid (fB b.toNat) + wid (fC b.toNat)), chk i)
theorem dec_enc {i : In} (h : chk i = 0) (r : List UInt8) : decI (encI i ++ r) = (i, r, 0) := by
  obtain ⟨h0, h1⟩ := chk_range h
  obtain ⟨ha, hb, hc⟩ := chk_parts h
  have e : ((byteI i.op).toNat : Int) = i.op := by rw [byteI_toNat]; omega
  have e' : ¬ 54 ≤ (byteI i.op).toNat := by omega
  unfold decI encI
  simp only [List.cons_append, List.append_assoc, e]
  rw [if_neg e', if_neg (by simp [encO_len]; omega)]
  have d1 : (encO (fA i.op) i.a ++ (encO (fB i.op) i.b ++ (encO (fC i.op) i.c ++ r))).drop (wid (fA i.op)) = encO (fB i.op) i.b ++ (encO (fC i.op) i.c ++ r) := by
    rw [← encO_len (fA i.op) i.a]; exact List.drop_left
  have d2 : (encO (fA i.op) i.a ++ (encO (fB i.op) i.b ++ (encO (fC i.op) i.c ++ r))).drop (wid (fA i.op) + wid (fB i.op)) = encO (fC i.op) i.c ++ r := by
    rw [← List.drop_drop, d1, ← encO_len (fB i.op) i.b]; exact List.drop_left
  have d3 : (encO (fA i.op) i.a ++ (encO (fB i.op) i.b ++ (encO (fC i.op) i.c ++ r))).drop (wid (fA i.op) + wid (fB i.op) + wid (fC i.op)) = r := by
    rw [← List.drop_drop, d2, ← encO_len (fC i.op) i.c]; exact List.drop_left
  rw [d1, d2, d3, val_enc ha, val_enc hb, val_enc hc]
  show (i, r, chk i) = _
  rw [h]
theorem enc_dec {b : UInt8} {r : List UInt8} {i : In} {t : List UInt8} (h : decI (b :: r) = (i, t, 0)) : b :: r = encI i ++ t ∧ chk i = 0 ∧ t.length ≤ r.length := by
  unfold decI at h
  simp only at h
  split at h
  · rename_i h1; injection h with _ h; injection h with _ h; cases h
  rename_i h1
  split at h
  · injection h with _ h; injection h with _ h; cases h
  rename_i h2
  injection h with hi h
  injection h with ht hc
  subst hi ht
  refine ⟨?_, hc, by simp⟩
  unfold encI
  simp only [byteI_u8]
  rw [enc_val _ _ (by omega), enc_val _ _ (by simp; omega), enc_val _ _ (by simp; omega)]
  rw [List.cons_append]
  congr 1
  rw [List.append_assoc, List.append_assoc, ← List.drop_drop (i := wid (fC _)), List.take_append_drop, ← List.drop_drop, List.take_append_drop, List.take_append_drop]
/-! Lists of instructions -/
def firstE : List In → Int
  | [] => 0
  | i :: l => if chk i = 0 then firstE l else chk i
def encAll : List In → List UInt8
  | [] => []
  | i :: l => encI i ++ encAll l
theorem encAll_app : ∀ a b, encAll (a ++ b) = encAll a ++ encAll b
  | [], b => rfl
  | i :: a, b => by simp [encAll, encAll_app a b]
theorem firstE_app : ∀ a b, firstE (a ++ b) = if firstE a = 0 then firstE b else firstE a
  | [], b => by simp [firstE]
  | i :: a, b => by
    simp only [List.cons_append, firstE]
    by_cases h : chk i = 0
    · simp only [h, if_true]; exact firstE_app a b
    · simp only [h, if_false]
theorem firstE_cons {i : In} {l : List In} (h : firstE (i :: l) = 0) : chk i = 0 ∧ firstE l = 0 := by
  unfold firstE at h
  split at h
  · rename_i c; exact ⟨c, h⟩
  · rename_i c; exact absurd h c
def encL (l : List In) : List UInt8 × Int := if 256 < l.length then ([], 3) else if firstE l = 0 then (encAll l, 0) else ([], firstE l)
def decL : Nat → List In → List UInt8 → List In × Int
  | 0, _, _ => ([], 0)
  | _ + 1, acc, [] => (acc, 0)
  | t + 1, acc, b :: r => if acc.length = 256 then ([], 3) else if (decI (b :: r)).2.2 = 0 then decL t (acc ++ [(decI (b :: r)).1]) (decI (b :: r)).2.1 else ([], (decI (b :: r)).2.2)
theorem decL_enc : ∀ (l acc : List In) (t : Nat), l.length < t → acc.length + l.length ≤ 256 → firstE l = 0 → decL t acc (encAll l) = (acc ++ l, 0)
  | [], acc, t + 1, _, _, _ => by simp [encAll, decL]
  | i :: l, acc, t + 1, ht, hl, h => by
    obtain ⟨h1, h2⟩ := firstE_cons h
    simp only [List.length_cons] at ht hl
    have hd := dec_enc h1 (encAll l)
    have ih := decL_enc l (acc ++ [i]) t (by omega) (by simp; omega) h2
    have : encAll (i :: l) = byteI i.op :: (encO (fA i.op) i.a ++ (encO (fB i.op) i.b ++ encO (fC i.op) i.c) ++ encAll l) := rfl
    have hd' : decI (byteI i.op :: (encO (fA i.op) i.a ++ (encO (fB i.op) i.b ++ encO (fC i.op) i.c) ++ encAll l)) = (i, encAll l, 0) := hd
    rw [this]
    unfold decL
    rw [hd', if_neg (by omega), if_pos rfl]
    simpa using ih
theorem encL_dec : ∀ (t : Nat) (acc : List In) (b : List UInt8) (l : List In), b.length < t → acc.length ≤ 256 → firstE acc = 0 → decL t acc b = (l, 0) → firstE l = 0 ∧ l.length ≤ 256 ∧ encAll l = encAll acc ++ b
  | t + 1, acc, [], l, _, ha, hf, h => by
    injection h with h _
    subst h
    exact ⟨hf, ha, by simp⟩
  | t + 1, acc, b :: r, l, ht, ha, hf, h => by
    unfold decL at h
    split at h
    · injection h with _ h; cases h
    rename_i h1
    split at h
    · rename_i h2
      rcases hd : decI (b :: r) with ⟨i, s, e⟩
      rw [hd] at h h2
      simp only at h h2
      subst h2
      obtain ⟨e1, e2, e3⟩ := enc_dec hd
      simp only [List.length_cons] at ht
      have ih := encL_dec t (acc ++ [i]) s l (by omega) (by simp; omega) (by rw [firstE_app, if_pos hf]; simp [firstE, e2]) h
      refine ⟨ih.1, ih.2.1, ?_⟩
      rw [ih.2.2, encAll_app, e1]
      simp [encAll]
    · rename_i h2
      injection h with _ h; exact absurd h h2
end Go.Proofs.YtjpmogajlnkihaaDoor.En

/- Numbers in decimal, there and back. No program in sight. -/
namespace Go.Proofs.YtjpmogajlnkihaaDoor.En
open Go
set_option linter.unusedVariables false
theorem scan_one (d : UInt8) (m : Int) : scanN [d] m = if d.toNat < 48 ∨ 57 < d.toNat then none else some (if m ≤ 2147483648 then 10 * m + ((d.toNat : Int) - 48) else m) := by
  have e1 : (Nat.blt d.toNat 48 || Nat.blt 57 d.toNat) = decide (d.toNat < 48 ∨ 57 < d.toNat) := by
    rw [Bool.eq_iff_iff]; simp
  unfold scanN
  rw [e1]
  by_cases h : d.toNat < 48 ∨ 57 < d.toNat
  · rw [decide_eq_true h, if_pos h]; rfl
  · rw [decide_eq_false h, if_neg h]
    by_cases c : m ≤ 2147483648
    · rw [decide_eq_true c, if_pos c]; rfl
    · rw [decide_eq_false c, if_neg c]; rfl
theorem scan_snoc (d : UInt8) : ∀ (l : List UInt8) (n : Int), scanN (l ++ [d]) n = (scanN l n).bind fun m => scanN [d] m
  | [], n => rfl
  | b :: l, n => by
    rw [List.cons_append]
    conv => lhs; unfold scanN
    conv => rhs; arg 1; unfold scanN
    cases Nat.blt b.toNat 48 || Nat.blt 57 b.toNat with
    | true => rfl
    | false => exact scan_snoc d l _
theorem digit_nat {k : Nat} (h : k < 10) : (UInt8.ofNat (48 + k)).toNat = 48 + k := by
  rw [UInt8.toNat_ofNat']; omega
theorem digF_one {f u : Nat} (h : u < 10) : digF (f + 1) u = [UInt8.ofNat (48 + u)] := by
  unfold digF
  have : Nat.blt u 10 = true := by simpa using h
  rw [this, cond_true]
theorem digF_more {f u : Nat} (h : ¬ u < 10) : digF (f + 1) u = digF f (u / 10) ++ [UInt8.ofNat (48 + u % 10)] := by
  conv => lhs; unfold digF
  have : Nat.blt u 10 = false := by
    cases h0 : Nat.blt u 10 with
    | false => rfl
    | true => exact absurd (by simpa using h0) h
  rw [this, cond_false]
theorem pow_pos {f : Nat} {u : Nat} (h : u < 10 ^ f) (h0 : 0 < u) : 0 < f := by
  rcases Nat.eq_zero_or_pos f with rfl | h1
  · simp at h; omega
  · exact h1
theorem scan_digF : ∀ (f u : Nat), 0 < f → u < 10 ^ f → u ≤ 21474836480 → scanN (digF f u) 0 = some (u : Int)
  | f + 1, u, _, h, hu => by
    by_cases c : u < 10
    · rw [digF_one c, scan_one, digit_nat c, if_neg (by omega), if_pos (by decide)]
      congr 1; omega
    · rw [digF_more c, scan_snoc]
      have hf : u / 10 < 10 ^ f := by rw [Nat.pow_succ] at h; omega
      rw [scan_digF f (u / 10) (pow_pos hf (by omega)) hf (by omega)]
      show scanN _ _ = _
      rw [scan_one, digit_nat (by omega), if_neg (by omega), if_pos (by omega)]
      congr 1; omega
theorem digF_head : ∀ (f u : Nat), 0 < f → u < 10 ^ f → ∃ b r, digF f u = b :: r ∧ 48 ≤ b.toNat ∧ b.toNat ≤ 57 ∧ (b.toNat = 48 → u = 0 ∧ r = [])
  | f + 1, u, _, h => by
    by_cases c : u < 10
    · refine ⟨_, [], digF_one c, ?_⟩
      rw [digit_nat c]
      exact ⟨by omega, by omega, fun e => ⟨by omega, rfl⟩⟩
    · have hf : u / 10 < 10 ^ f := by rw [Nat.pow_succ] at h; omega
      obtain ⟨b, r, e, h1, h2, h3⟩ := digF_head f (u / 10) (pow_pos hf (by omega)) hf
      refine ⟨b, r ++ [UInt8.ofNat (48 + u % 10)], by rw [digF_more c, e]; rfl, h1, h2, fun e => ?_⟩
      have := (h3 e).1; omega
theorem digF_dig : ∀ (f u : Nat), ∀ b ∈ digF f u, 48 ≤ b.toNat ∧ b.toNat ≤ 57
  | 0, u, b, hb => by cases hb
  | f + 1, u, b, hb => by
    by_cases c : u < 10
    · rw [digF_one c] at hb
      simp only [List.mem_singleton] at hb
      subst hb; rw [digit_nat c]; omega
    · rw [digF_more c] at hb
      rcases List.mem_append.1 hb with hb | hb
      · exact digF_dig f _ b hb
      · simp only [List.mem_singleton] at hb
        subst hb; rw [digit_nat (by omega)]; omega
theorem itoa_neg {n : Int} (h : n < 0) : itoaF n = 45 :: digF 20 n.natAbs := by unfold itoaF; rw [decide_eq_true h, cond_true]
theorem itoa_pos {n : Int} (h : ¬ n < 0) : itoaF n = digF 20 n.toNat := by unfold itoaF; rw [decide_eq_false h, cond_false]
theorem num_neg' (c : UInt8) (r : List UInt8) (h : c.toNat ≠ 48) : numF (45 :: c :: r) = finN true (scanN (c :: r) 0) := by
  have : (c == (48 : UInt8)) = false := by rw [beq_nat]; exact decide_eq_false h
  show (bif c == (48 : UInt8) then _ else _) = _
  rw [this]; rfl
theorem num_neg0 (c : UInt8) (r : List UInt8) (h : c.toNat = 48) : numF (45 :: c :: r) = (0, false, false) := by
  have : (c == (48 : UInt8)) = true := by rw [beq_nat]; exact decide_eq_true h
  show (bif c == (48 : UInt8) then _ else _) = _
  rw [this]; rfl
theorem num_pos' (b : UInt8) (r : List UInt8) (h : b.toNat ≠ 45) (h1 : b.toNat = 48 → r = []) : numF (b :: r) = finN false (scanN (b :: r) 0) := by
  have e1 : (b == (45 : UInt8)) = false := by rw [beq_nat]; exact decide_eq_false h
  have e2 : (b == (48 : UInt8) && Nat.blt 0 r.length) = false := by
    rw [beq_nat]
    by_cases c : b.toNat = 48
    · rw [h1 c]; exact Bool.and_false _
    · rw [show decide (b.toNat = (48 : UInt8).toNat) = false from decide_eq_false c]; rfl
  show (bif b == (45 : UInt8) then _ else _) = _
  rw [e1, cond_false, e2, cond_false]
theorem num_pos0 (b : UInt8) (r : List UInt8) (h : b.toNat ≠ 45) (h1 : b.toNat = 48) (h2 : r ≠ []) : numF (b :: r) = (0, false, false) := by
  have e1 : (b == (45 : UInt8)) = false := by rw [beq_nat]; exact decide_eq_false h
  have e2 : (b == (48 : UInt8) && Nat.blt 0 r.length) = true := by
    rw [beq_nat, show decide (b.toNat = (48 : UInt8).toNat) = true from decide_eq_true h1]
    cases r with
    | nil => exact absurd rfl h2
    | cons _ _ => rfl
  show (bif b == (45 : UInt8) then _ else _) = _
  rw [e1, cond_false, e2, cond_true]
/-- A number of 32 bits, printed and read. -/
theorem num_itoa {n : Int} (h1 : -2147483648 ≤ n) (h2 : n ≤ 2147483647) : numF (itoaF n) = (n, true, true) := by
  by_cases c : n < 0
  · rw [itoa_neg c]
    obtain ⟨b, r, e, d1, d2, d3⟩ := digF_head 20 n.natAbs (by decide) (by omega)
    have hs := scan_digF 20 n.natAbs (by decide) (by omega) (by omega)
    rw [e] at hs ⊢
    rw [num_neg' b r (fun e => by have := (d3 e).1; omega), hs]
    have e : -((n.natAbs : Nat) : Int) = n := by omega
    show (-((n.natAbs : Nat) : Int), true, decide (-2147483648 ≤ -((n.natAbs : Nat) : Int)) && decide (-((n.natAbs : Nat) : Int) ≤ 2147483647)) = _
    rw [e, decide_eq_true h1, decide_eq_true h2]; rfl
  · rw [itoa_pos c]
    obtain ⟨b, r, e, d1, d2, d3⟩ := digF_head 20 n.toNat (by decide) (by omega)
    have hs := scan_digF 20 n.toNat (by decide) (by omega) (by omega)
    rw [e] at hs ⊢
    rw [num_pos' b r (by omega) (fun e => (d3 e).2), hs]
    have e : ((n.toNat : Nat) : Int) = n := by omega
    show (((n.toNat : Nat) : Int), true, decide (-2147483648 ≤ ((n.toNat : Nat) : Int)) && decide (((n.toNat : Nat) : Int) ≤ 2147483647)) = _
    rw [e, decide_eq_true h1, decide_eq_true h2]; rfl
theorem ofNat_digit {d : UInt8} {k : Nat} (h : d.toNat = 48 + k) : UInt8.ofNat (48 + k) = d := by rw [← h]; exact UInt8.ofNat_toNat
/-- Digits that were read, printed again. -/
theorem scan_back : ∀ (k : Nat) (l : List UInt8) (f : Nat) (n : Int), l.length = k + 1 → (l.head? ≠ some 48 ∨ k = 0) → scanN l 0 = some n → n ≤ 2147483648 → n.toNat < 10 ^ f → 0 < f →
    0 ≤ n ∧ (l.head? ≠ some 48 → 1 ≤ n) ∧ digF f n.toNat = l
  | 0, l, f, n, hl, hh, hs, hn, hp, hf => by
    match l, hl with
    | [d], _ =>
    rw [scan_one] at hs
    split at hs
    · cases hs
    rename_i hd
    rw [if_pos (by decide)] at hs
    injection hs with hs
    obtain ⟨g, rfl⟩ : ∃ g, f = g + 1 := ⟨f - 1, by omega⟩
    refine ⟨by omega, fun h => ?_, ?_⟩
    · have : d.toNat ≠ 48 := fun e => h (by rw [List.head?_cons]; congr 1; exact UInt8.toNat_inj.1 e)
      omega
    · rw [digF_one (by omega), ofNat_digit (d := d) (by omega)]
  | k + 1, l, f, n, hl, hh, hs, hn, hp, hf => by
    rcases List.eq_nil_or_concat l with rfl | ⟨xs, d, rfl⟩
    · simp at hl
    have hx : xs.length = k + 1 := by simpa using hl
    have hhd : (xs.concat d).head? = xs.head? := by
      match xs, hx with
      | x :: _, _ => rfl
    rw [hhd] at hh ⊢
    have h48 : xs.head? ≠ some 48 := by
      rcases hh with h | h
      · exact h
      · omega
    rw [List.concat_eq_append] at hs ⊢
    rw [scan_snoc] at hs
    cases hm : scanN xs 0 with
    | none => rw [hm] at hs; cases hs
    | some m =>
      rw [hm] at hs
      have hs : scanN [d] m = some n := hs
      rw [scan_one] at hs
      split at hs
      · cases hs
      rename_i hd
      injection hs with hs
      by_cases c : m ≤ 2147483648
      case neg => rw [if_neg c] at hs; omega
      rw [if_pos c] at hs
      have hm0 := (scan_range xs 0 m (by omega) hm).1
      have hmp : 1 ≤ m := by
        have := (scan_back k xs 20 m hx (Or.inl h48) hm c (by omega) (by decide)).2.1 h48
        exact this
      obtain ⟨g, rfl⟩ : ∃ g, f = g + 1 := ⟨f - 1, by omega⟩
      have hmg : m.toNat < 10 ^ g := by rw [Nat.pow_succ] at hp; omega
      obtain ⟨_, _, e⟩ := scan_back k xs g m hx (Or.inl h48) hm c hmg (pow_pos hmg (by omega))
      refine ⟨by omega, fun _ => by omega, ?_⟩
      rw [digF_more (by omega), show n.toNat / 10 = m.toNat by omega, e, ofNat_digit (d := d) (by omega)]
/-- A number of the right form that fits, read and printed again. -/
theorem itoa_num {s : List UInt8} {n : Int} (h : numF s = (n, true, true)) : itoaF n = s ∧ -2147483648 ≤ n ∧ n ≤ 2147483647 := by
  have fin : ∀ {neg : Bool} {o : Option Int} {n : Int}, finN neg o = (n, true, true) → ∃ m, o = some m ∧ n = (bif neg then -m else m) ∧ -2147483648 ≤ n ∧ n ≤ 2147483647 := by
    intro neg o n h
    cases o with
    | none => cases h
    | some m =>
      injection h with h1 h
      injection h with _ h
      rw [Bool.and_eq_true, decide_eq_true_eq, decide_eq_true_eq] at h
      exact ⟨m, rfl, h1.symm, by rw [← h1]; exact h.1, by rw [← h1]; exact h.2⟩
  match s with
  | [] => cases h
  | b :: r =>
    by_cases c : b.toNat = 45
    · obtain rfl : b = 45 := UInt8.toNat_inj.1 c
      match r with
      | [] => cases h
      | d :: r =>
        by_cases c' : d.toNat = 48
        · rw [num_neg0 d r c'] at h; cases h
        rw [num_neg' d r c'] at h
        obtain ⟨m, hs, hn, h1, h2⟩ := fin h
        rw [cond_true] at hn
        have hd : (d :: r).head? ≠ some 48 := by
          rw [List.head?_cons]; intro e; injection e with e; subst e; exact c' rfl
        obtain ⟨p0, p1, p2⟩ := scan_back r.length (d :: r) 20 m rfl (Or.inl hd) hs (by omega) (by omega) (by decide)
        have p1 := p1 hd
        refine ⟨?_, h1, h2⟩
        rw [itoa_neg (by omega), show n.natAbs = m.toNat by omega, p2]
    · by_cases c' : b.toNat = 48 ∧ r ≠ []
      · rw [num_pos0 b r c c'.1 c'.2] at h; cases h
      have hr : b.toNat = 48 → r = [] := fun e => by
        cases r with
        | nil => rfl
        | cons _ _ => exact absurd ⟨e, by simp⟩ c'
      rw [num_pos' b r c hr] at h
      obtain ⟨m, hs, hn, h1, h2⟩ := fin h
      rw [cond_false] at hn
      have hd : (b :: r).head? ≠ some 48 ∨ r.length = 0 := by
        by_cases e : b.toNat = 48
        · right; rw [hr e]; rfl
        · left; rw [List.head?_cons]; intro e'; injection e' with e'; subst e'; exact e rfl
      obtain ⟨p0, p1, p2⟩ := scan_back r.length (b :: r) 20 m rfl hd hs (by omega) (by omega) (by decide)
      refine ⟨?_, h1, h2⟩
      rw [itoa_pos (by omega), show n.toNat = m.toNat by omega, p2]
end Go.Proofs.YtjpmogajlnkihaaDoor.En

/- Instructions as lines of text, there and back. No program in sight. -/
namespace Go.Proofs.YtjpmogajlnkihaaDoor.En
open Go
set_option linter.unusedVariables false
def sysW : List UInt8 := [115, 121, 115, 116, 101, 109]
def kindsL : List (List UInt8) := [[98, 121, 116, 101, 115], [105, 110, 116, 115], [114, 101, 102, 115]]
def wordT (f n : Int) : List UInt8 := if f = 5 ∧ n = 255 then sysW else if f = 7 then kindsL.getD (n - 2).toNat [] else itoaF n
def sepB (f : Int) : UInt8 := if f = 6 ∨ f = 11 then 46 else 32
def partT (f n : Int) : List UInt8 := if f = 0 then [] else sepB f :: wordT f n
def nameT (op : Int) : List UInt8 := namesL.getD op.toNat []
def lineT (i : In) : List UInt8 := nameT i.op ++ (partT (fA i.op) i.a ++ (partT (fB i.op) i.b ++ partT (fC i.op) i.c))
def textAll : List In → List UInt8
  | [] => []
  | i :: l => lineT i ++ 10 :: textAll l
def textL (l : List In) : List UInt8 := if (encL l).2 = 0 then textAll l else []
def idxN (w : List UInt8) : List (List UInt8) → Option Nat
  | [] => none
  | x :: l => if x = w then some 0 else (idxN w l).map (· + 1)
def valW (f : Int) (s : List UInt8) : Int × Bool × Bool :=
  if f = 7 then (if s = [98, 121, 116, 101, 115] then (2, true, true) else if s = [105, 110, 116, 115] then (3, true, true) else if s = [114, 101, 102, 115] then (4, true, true) else (1, false, true))
  else if f = 5 ∧ s = sysW then (255, true, true) else if f = 5 ∧ (numF s).1 = 255 then (0, false, false) else numF s
def wordsW (x y z : Int) (ws : List (List UInt8)) : Option (List (List UInt8)) :=
  if x = 0 then (match ws with | [] => some [] | _ :: _ => none)
  else if y = 6 ∨ y = 11 then
    (match ws with
    | w :: r => match cut1 46 w with
      | (a, b, true) => if z = 0 then (match r with | [] => some [a, b] | _ :: _ => none) else (match r with | [c] => some [a, b, c] | _ => none)
      | (_, _, false) => none
    | [] => none)
  else if y = 0 then (match ws with | [w] => some [w] | _ => none)
  else (match ws with | [w, v] => some [w, v] | _ => none)
def valsW : List Int → List (List UInt8) → Option (List Int × Bool)
  | _, [] => some ([], true)
  | f :: fs, w :: ws => if (valW f w).2.1 = true then (match valsW fs ws with | some p => some ((valW f w).1 :: p.1, (valW f w).2.2 && p.2) | none => none) else none
  | [], _ :: _ => none
def zI : In := ⟨0, 0, 0, 0⟩
def lineV (k : Int) (ws : List (List UInt8)) : In × Int :=
  match valsW [fA k, fB k, fC k] ws with
  | none => (zI, 30)
  | some (l, fits) => if fits = true then (⟨k, l.getD 0 0, l.getD 1 0, l.getD 2 0⟩, chk ⟨k, l.getD 0 0, l.getD 1 0, l.getD 2 0⟩) else (zI, 2)
def lineK (k : Int) (r : List (List UInt8)) : In × Int :=
  match wordsW (fA k) (fB k) (fC k) r with
  | none => (zI, 30)
  | some ws => lineV k ws
def lineP (s : List UInt8) : In × Int :=
  match split1 32 s with
  | [] => (zI, 30)
  | w :: r => match idxN w namesL with
    | none => (zI, 30)
    | some k => lineK k r
def parseL : Nat → List In → List UInt8 → List In × Int
  | 0, _, _ => ([], 0)
  | _ + 1, acc, [] => (acc, 0)
  | t + 1, acc, b :: r => if acc.length = 256 then ([], 3) else
    if (cut1 10 (b :: r)).2.2 = true then (if (lineP (cut1 10 (b :: r)).1).2 = 0 then parseL t (acc ++ [(lineP (cut1 10 (b :: r)).1).1]) (cut1 10 (b :: r)).2.1 else ([], (lineP (cut1 10 (b :: r)).1).2)) else ([], 30)
/-! Cutting -/
theorem cut1_hit (c : UInt8) (r : List UInt8) : ∀ w : List UInt8, c ∉ w → cut1 c (w ++ c :: r) = (w, r, true)
  | [], _ => by
    show (bif c == c then _ else _) = _
    rw [beq_self_eq_true, cond_true]
  | b :: w, h => by
    have hb : (b == c) = false := by
      rw [beq_eq_false_iff_ne]; intro e; subst e; exact h (by simp)
    have ih := cut1_hit c r w (fun m => h (by simp [m]))
    show (bif b == c then _ else _) = _
    rw [hb, cond_false]
    rw [show (w.append (c :: r)) = w ++ c :: r from rfl, ih]
theorem cut1_back (c : UInt8) : ∀ (s a b : List UInt8), cut1 c s = (a, b, true) → s = a ++ c :: b
  | [], a, b, h => by cases h
  | x :: s, a, b, h => by
    unfold cut1 at h
    cases hx : x == c with
    | true =>
      rw [hx, cond_true] at h
      injection h with h1 h
      injection h with h2 _
      rw [beq_iff_eq] at hx
      subst h1 h2 hx; rfl
    | false =>
      rw [hx, cond_false] at h
      rcases hc : cut1 c s with ⟨p, q, z⟩
      rw [hc] at h
      injection h with h1 h
      injection h with h2 h3
      subst h1 h2 h3
      rw [cut1_back c s p q hc]; rfl
theorem split1_hit (c : UInt8) (r : List UInt8) : ∀ w : List UInt8, c ∉ w → split1 c (w ++ c :: r) = w :: split1 c r
  | [], _ => by
    show (bif c == c then _ else _) = _
    rw [beq_self_eq_true, cond_true]
  | b :: w, h => by
    have hb : (b == c) = false := by
      rw [beq_eq_false_iff_ne]; intro e; subst e; exact h (by simp)
    have ih := split1_hit c r w (fun m => h (by simp [m]))
    show (bif b == c then _ else _) = _
    rw [hb, cond_false]
    rw [show (w.append (c :: r)) = w ++ c :: r from rfl, ih]
theorem split1_last (c : UInt8) : ∀ w : List UInt8, c ∉ w → split1 c w = [w]
  | [], _ => rfl
  | b :: w, h => by
    have hb : (b == c) = false := by
      rw [beq_eq_false_iff_ne]; intro e; subst e; exact h (by simp)
    show (bif b == c then _ else _) = _
    rw [hb, cond_false, split1_last c w (fun m => h (by simp [m]))]
def joinC (c : UInt8) : List (List UInt8) → List UInt8
  | [] => []
  | [w] => w
  | w :: v :: r => w ++ c :: joinC c (v :: r)
theorem split1_ne (c : UInt8) (s : List UInt8) : split1 c s ≠ [] := by
  cases s with
  | nil => simp [split1]
  | cons b l =>
    unfold split1
    cases b == c with
    | true => simp
    | false =>
      rw [cond_false]
      split <;> simp
theorem join_split (c : UInt8) : ∀ s : List UInt8, joinC c (split1 c s) = s
  | [] => rfl
  | b :: l => by
    have ih := join_split c l
    unfold split1
    cases hx : b == c with
    | true =>
      rw [cond_true]
      rw [beq_iff_eq] at hx
      subst hx
      cases hs : split1 b l with
      | nil => exact absurd hs (split1_ne b l)
      | cons x r => rw [hs] at ih; simp [joinC, ih]
    | false =>
      rw [cond_false]
      cases hs : split1 c l with
      | nil => exact absurd hs (split1_ne c l)
      | cons x r =>
        rw [hs] at ih
        cases r with
        | nil => simp only [joinC] at ih ⊢; rw [ih]
        | cons y r => simp only [joinC] at ih ⊢; rw [← ih]; rfl
/-! Words -/
def Clean (w : List UInt8) : Prop := (32 : UInt8) ∉ w ∧ (46 : UInt8) ∉ w ∧ (10 : UInt8) ∉ w
instance (w : List UInt8) : Decidable (Clean w) := by unfold Clean; infer_instance
theorem clean_names : ∀ k : Fin 54, Clean (nameT (k.val : Int)) := by decide +kernel
theorem clean_itoa (n : Int) : Clean (itoaF n) := by
  have hd : ∀ b ∈ itoaF n, b.toNat = 45 ∨ (48 ≤ b.toNat ∧ b.toNat ≤ 57) := by
    intro b hb
    by_cases c : n < 0
    · rw [itoa_neg c] at hb
      rcases List.mem_cons.1 hb with rfl | hb
      · exact Or.inl rfl
      · exact Or.inr (digF_dig _ _ b hb)
    · rw [itoa_pos c] at hb
      exact Or.inr (digF_dig _ _ b hb)
  refine ⟨fun h => ?_, fun h => ?_, fun h => ?_⟩
  all_goals
    have := hd _ h
    revert this
    decide
theorem clean_word {f n p : Int} (h : oe f n p = 0) : Clean (wordT f n) := by
  unfold wordT
  split
  · decide
  · split
    · rename_i h7; subst h7
      have := oe_kind h
      rcases (by omega : n = 2 ∨ n = 3 ∨ n = 4) with rfl | rfl | rfl <;> decide
    · exact clean_itoa n
theorem sys_num : numF sysW = (0, false, false) := by decide +kernel
/-- A valid operand, as a word, read. -/
theorem val_word {f n p : Int} (h : oe f n p = 0) (h0 : f ≠ 0) : valW f (wordT f n) = (n, true, true) := by
  have hr := oe_range h
  have hn := num_itoa hr.1 hr.2
  unfold wordT
  by_cases c5 : f = 5 ∧ n = 255
  · obtain ⟨rfl, rfl⟩ := c5
    rw [if_pos ⟨rfl, rfl⟩]
    decide +kernel
  rw [if_neg c5]
  by_cases c7 : f = 7
  · subst c7
    have := oe_kind h
    rw [if_pos rfl]
    rcases (by omega : n = 2 ∨ n = 3 ∨ n = 4) with rfl | rfl | rfl <;> decide +kernel
  rw [if_neg c7]
  unfold valW
  rw [if_neg c7, if_neg, if_neg, hn]
  · rw [hn]; exact c5
  · rintro ⟨_, e⟩
    rw [e, sys_num] at hn
    cases hn
theorem word_val {f n : Int} {w : List UInt8} (h : valW f w = (n, true, true)) : wordT f n = w := by
  unfold valW at h
  by_cases c7 : f = 7
  · subst c7
    rw [if_pos rfl] at h
    split at h
    · rename_i e; subst e; injection h with h _; subst h; rfl
    split at h
    · rename_i e; subst e; injection h with h _; subst h; rfl
    split at h
    · rename_i e; subst e; injection h with h _; subst h; rfl
    · cases h
  rw [if_neg c7] at h
  unfold wordT
  split at h
  · rename_i e; injection h with h _; subst h
    rw [if_pos ⟨e.1, rfl⟩, e.2]
  split at h
  · cases h
  · rename_i e
    rw [h] at e
    rw [if_neg e, if_neg c7, (itoa_num h).1]
theorem idx_hit : ∀ k : Fin 54, idxN (nameT (k.val : Int)) namesL = some k.val := by decide +kernel
theorem idx_back (w : List UInt8) : ∀ (l : List (List UInt8)) (k : Nat), idxN w l = some k → k < l.length ∧ l.getD k [] = w
  | [], k, h => by cases h
  | x :: l, k, h => by
    unfold idxN at h
    split at h
    · rename_i e; injection h with h; subst h; exact ⟨by simp, e⟩
    · cases hi : idxN w l with
      | none => rw [hi] at h; cases h
      | some j =>
        rw [hi] at h
        injection h with h
        subst h
        obtain ⟨h1, h2⟩ := idx_back w l j hi
        exact ⟨by simp; omega, by simpa using h2⟩
theorem name_idx {op : Int} (h0 : 0 ≤ op) (h1 : op < 54) : idxN (nameT op) namesL = some op.toNat := by
  have := idx_hit ⟨op.toNat, by omega⟩
  have e : ((op.toNat : Nat) : Int) = op := by omega
  simpa only [e] using this
theorem name_clean {op : Int} (h0 : 0 ≤ op) (h1 : op < 54) : Clean (nameT op) := each54 (P := fun op => Clean (nameT op)) clean_names h0 h1
theorem words_j {x y : Int} (z : Int) {w : List UInt8} (r : List (List UInt8)) {a b : List UInt8} (hx : x ≠ 0) (hy : y = 6 ∨ y = 11) (hc : cut1 46 w = (a, b, true)) :
    wordsW x y z (w :: r) = if z = 0 then (match r with | [] => some [a, b] | _ :: _ => none) else (match r with | [c] => some [a, b, c] | _ => none) := by
  unfold wordsW
  rw [if_neg hx, if_pos hy]
  simp only [hc]
/-! Lines -/
theorem partT0 (n : Int) : partT 0 n = [] := rfl
theorem line_there {i : In} (h : chk i = 0) : lineP (lineT i) = (i, 0) ∧ (10 : UInt8) ∉ lineT i := by
  obtain ⟨h0, h1⟩ := chk_range h
  obtain ⟨ha, hb, hc⟩ := chk_parts h
  have hn := name_clean h0 h1
  have hi := name_idx h0 h1
  have hk : ((i.op.toNat : Nat) : Int) = i.op := by omega
  have hf := fm_of h0 h1
  unfold lineP lineT
  generalize hx : fA i.op = x at *
  generalize hy : fB i.op = y at *
  generalize hz : fC i.op = z at *
  have fin : ∀ ws l, wordsW x y z ws = some l → ∀ a : List Int, valsW [x, y, z] l = some (a, true) → a.getD 0 0 = i.a → a.getD 1 0 = i.b → a.getD 2 0 = i.c → lineK i.op ws = (i, 0) := by
    intro ws l e1 a e2 e3 e4 e5
    unfold lineK lineV
    rw [hx, hy, hz, e1]
    simp only [e2, if_true, e3, e4, e5]
    show (i, chk i) = _
    rw [h]
  rcases hf with ⟨rfl, rfl, _, _, n5, n6, n10, n11⟩ | ⟨rfl, rfl, rfl⟩ | ⟨rfl, rfl, hz'⟩ | ⟨rfl, rfl, rfl⟩
  · have eb := oe_none hb
    have ec := oe_none hc
    rw [partT0, partT0]
    by_cases x0 : x = 0
    · subst x0
      have ea := oe_none ha
      rw [partT0]
      simp only [List.append_nil]
      refine ⟨?_, hn.2.2⟩
      rw [split1_last 32 _ hn.1]
      simp only [hi, hk]
      exact fin [] [] rfl [] rfl ea.symm eb.symm ec.symm
    · have hw := clean_word ha
      have e : partT x i.a = 32 :: wordT x i.a := by
        unfold partT sepB
        rw [if_neg x0, if_neg (by omega)]
      rw [e]
      simp only [List.append_nil]
      refine ⟨?_, ?_⟩
      · rw [split1_hit 32 _ _ hn.1, split1_last 32 _ hw.1]
        simp only [hi, hk]
        refine fin [wordT x i.a] [wordT x i.a] ?_ [i.a] ?_ rfl eb.symm ec.symm
        · unfold wordsW
          rw [if_neg x0, if_neg (by omega), if_pos rfl]
        · unfold valsW
          rw [val_word ha x0]; rfl
      · simp only [List.mem_append, List.mem_cons, not_or]
        exact ⟨hn.2.2, by decide, hw.2.2⟩
  · have ec := oe_none hc
    have hw := clean_word ha
    have hv := clean_word hb
    rw [partT0, show partT 2 i.a = 32 :: wordT 2 i.a from rfl, show partT 3 i.b = 32 :: wordT 3 i.b from rfl]
    simp only [List.append_nil, List.cons_append]
    refine ⟨?_, ?_⟩
    · rw [split1_hit 32 _ _ hn.1, split1_hit 32 _ _ hw.1, split1_last 32 _ hv.1]
      simp only [hi, hk]
      refine fin [wordT 2 i.a, wordT 3 i.b] [wordT 2 i.a, wordT 3 i.b] rfl [i.a, i.b] ?_ rfl rfl ec.symm
      simp only [valsW, val_word ha (by decide), val_word hb (by decide)]; rfl
    · simp only [List.mem_append, List.mem_cons, not_or]
      exact ⟨hn.2.2, by decide, hw.2.2, by decide, hv.2.2⟩
  · have hw := clean_word ha
    have hv := clean_word hb
    have hu := clean_word hc
    have hwv : (32 : UInt8) ∉ wordT 5 i.a ++ 46 :: wordT 6 i.b := by
      simp only [List.mem_append, List.mem_cons, not_or]
      exact ⟨hw.1, by decide, hv.1⟩
    rw [show partT 5 i.a = 32 :: wordT 5 i.a from rfl, show partT 6 i.b = 46 :: wordT 6 i.b from rfl]
    by_cases z0 : z = 0
    · subst z0
      have ec := oe_none hc
      rw [partT0]
      simp only [List.append_nil, List.cons_append]
      refine ⟨?_, ?_⟩
      · rw [split1_hit 32 _ _ hn.1, split1_last 32 _ hwv]
        simp only [hi, hk]
        refine fin [wordT 5 i.a ++ 46 :: wordT 6 i.b] [wordT 5 i.a, wordT 6 i.b] ?_ [i.a, i.b] ?_ rfl rfl ec.symm
        · rw [words_j _ _ (by decide) (by decide) (cut1_hit 46 _ _ hw.2.1), if_pos rfl]
        · simp only [valsW, val_word ha (by decide), val_word hb (by decide)]; rfl
      · simp only [List.mem_append, List.mem_cons, not_or]
        exact ⟨hn.2.2, by decide, hw.2.2, by decide, hv.2.2⟩
    · have e : partT z i.c = 32 :: wordT z i.c := by
        unfold partT sepB
        rw [if_neg z0, if_neg (by omega)]
      rw [e]
      simp only [List.cons_append]
      have e' : wordT 5 i.a ++ 46 :: (wordT 6 i.b ++ 32 :: wordT z i.c) = (wordT 5 i.a ++ 46 :: wordT 6 i.b) ++ 32 :: wordT z i.c := by simp
      rw [e']
      refine ⟨?_, ?_⟩
      · rw [split1_hit 32 _ _ hn.1, split1_hit 32 _ _ hwv, split1_last 32 _ hu.1]
        simp only [hi, hk]
        refine fin [wordT 5 i.a ++ 46 :: wordT 6 i.b, wordT z i.c] [wordT 5 i.a, wordT 6 i.b, wordT z i.c] ?_ [i.a, i.b, i.c] ?_ rfl rfl rfl
        · rw [words_j _ _ (by decide) (by decide) (cut1_hit 46 _ _ hw.2.1), if_neg z0]
        · simp only [valsW, val_word ha (by decide), val_word hb (by decide), val_word hc z0]; rfl
      · simp only [List.mem_append, List.mem_cons, not_or]
        exact ⟨hn.2.2, by decide, ⟨hw.2.2, by decide, hv.2.2⟩, by decide, hu.2.2⟩
  · have ec := oe_none hc
    have hw := clean_word ha
    have hv := clean_word hb
    have hwv : (32 : UInt8) ∉ wordT 10 i.a ++ 46 :: wordT 11 i.b := by
      simp only [List.mem_append, List.mem_cons, not_or]
      exact ⟨hw.1, by decide, hv.1⟩
    rw [partT0, show partT 10 i.a = 32 :: wordT 10 i.a from rfl, show partT 11 i.b = 46 :: wordT 11 i.b from rfl]
    simp only [List.append_nil, List.cons_append]
    refine ⟨?_, ?_⟩
    · rw [split1_hit 32 _ _ hn.1, split1_last 32 _ hwv]
      simp only [hi, hk]
      refine fin [wordT 10 i.a ++ 46 :: wordT 11 i.b] [wordT 10 i.a, wordT 11 i.b] ?_ [i.a, i.b] ?_ rfl rfl ec.symm
      · rw [words_j _ _ (by decide) (by decide) (cut1_hit 46 _ _ hw.2.1), if_pos rfl]
      · simp only [valsW, val_word ha (by decide), val_word hb (by decide)]; rfl
    · simp only [List.mem_append, List.mem_cons, not_or]
      exact ⟨hn.2.2, by decide, hw.2.2, by decide, hv.2.2⟩
theorem vals_cons {f : Int} {fs : List Int} {w : List UInt8} {ws : List (List UInt8)} {l : List Int} (h : valsW (f :: fs) (w :: ws) = some (l, true)) : ∃ n l', l = n :: l' ∧ valW f w = (n, true, true) ∧ valsW fs ws = some (l', true) := by
  unfold valsW at h
  rcases hv : valW f w with ⟨n, a, b⟩
  rw [hv] at h
  split at h
  · rename_i e
    simp only at e
    subst e
    cases hp : valsW fs ws with
    | none => rw [hp] at h; cases h
    | some p =>
      rw [hp] at h
      injection h with h
      injection h with h1 h2
      rw [Bool.and_eq_true] at h2
      obtain ⟨h2, h3⟩ := h2
      simp only at h2
      subst h2
      exact ⟨n, p.1, h1.symm, rfl, by rw [← h3]⟩
  · cases h
theorem line_back {s : List UInt8} {i : In} (h : lineP s = (i, 0)) : lineT i = s ∧ chk i = 0 := by
  unfold lineP at h
  have hj := join_split 32 s
  split at h
  · injection h with _ h; cases h
  rename_i w r hs
  rw [hs] at hj
  split at h
  · injection h with _ h; cases h
  rename_i k hk
  obtain ⟨k1, k2⟩ := idx_back w namesL k hk
  have k1 : k < 54 := k1
  have hf := fm_of (op := (k : Int)) (by omega) (by omega)
  have hN : nameT (k : Int) = w := k2
  unfold lineK at h
  split at h
  · injection h with _ h; cases h
  rename_i ws hw
  unfold lineV at h
  split at h
  · injection h with _ h; cases h
  rename_i l fits hv
  split at h
  case isFalse => injection h with _ h; cases h
  rename_i ht
  subst ht
  injection h with h1 h2
  subst h1
  refine ⟨?_, h2⟩
  unfold lineT
  simp only [hN]
  rw [← hj]
  generalize hx : fA (k : Int) = x at *
  generalize hy : fB (k : Int) = y at *
  generalize hz : fC (k : Int) = z at *
  rcases hf with ⟨rfl, rfl, _, _, n5, n6, n10, n11⟩ | ⟨rfl, rfl, rfl⟩ | ⟨rfl, rfl, hz'⟩ | ⟨rfl, rfl, rfl⟩
  · rw [partT0, partT0]
    by_cases x0 : x = 0
    · subst x0
      unfold wordsW at hw
      rw [if_pos rfl] at hw
      split at hw
      · simp [partT0, joinC]
      · cases hw
    · unfold wordsW at hw
      rw [if_neg x0, if_neg (by omega), if_pos rfl] at hw
      split at hw
      · rename_i v
        injection hw with hw
        subst hw
        obtain ⟨n, l', rfl, e1, _⟩ := vals_cons hv
        have e : partT x n = 32 :: wordT x n := by
          unfold partT sepB
          rw [if_neg x0, if_neg (by omega)]
        show w ++ (partT x n ++ _) = _
        rw [e, word_val e1]
        simp [joinC]
      · cases hw
  · unfold wordsW at hw
    rw [if_neg (by decide), if_neg (by decide), if_neg (by decide)] at hw
    split at hw
    · rename_i v u
      injection hw with hw
      subst hw
      obtain ⟨n, l', rfl, e1, hv⟩ := vals_cons hv
      obtain ⟨m, l', rfl, e2, hv⟩ := vals_cons hv
      show w ++ (32 :: wordT 2 n ++ (32 :: wordT 3 m ++ [])) = _
      rw [word_val e1, word_val e2]
      simp [joinC]
    · cases hw
  · unfold wordsW at hw
    rw [if_neg (by decide), if_pos (by decide)] at hw
    split at hw
    case h_2 => cases hw
    rename_i v r'
    split at hw
    case h_2 => cases hw
    rename_i a b hc
    have hv' := cut1_back 46 v a b hc
    subst hv'
    split at hw
    · rename_i z0
      subst z0
      split at hw
      · injection hw with hw
        subst hw
        obtain ⟨n, l', rfl, e1, hv⟩ := vals_cons hv
        obtain ⟨m, l', rfl, e2, hv⟩ := vals_cons hv
        show w ++ (32 :: wordT 5 n ++ (46 :: wordT 6 m ++ [])) = _
        rw [word_val e1, word_val e2]
        simp [joinC]
      · cases hw
    · rename_i z0
      split at hw
      · rename_i c
        injection hw with hw
        subst hw
        obtain ⟨n, l', rfl, e1, hv⟩ := vals_cons hv
        obtain ⟨m, l', rfl, e2, hv⟩ := vals_cons hv
        obtain ⟨o, l', rfl, e3, hv⟩ := vals_cons hv
        have e : partT z o = 32 :: wordT z o := by
          unfold partT sepB
          rw [if_neg z0, if_neg (by omega)]
        show w ++ (32 :: wordT 5 n ++ (46 :: wordT 6 m ++ partT z o)) = _
        rw [e, word_val e1, word_val e2, word_val e3]
        simp [joinC]
      · cases hw
  · unfold wordsW at hw
    rw [if_neg (by decide), if_pos (by decide)] at hw
    split at hw
    case h_2 => cases hw
    rename_i v r'
    split at hw
    case h_2 => cases hw
    rename_i a b hc
    have hv' := cut1_back 46 v a b hc
    subst hv'
    rw [if_pos rfl] at hw
    split at hw
    · injection hw with hw
      subst hw
      obtain ⟨n, l', rfl, e1, hv⟩ := vals_cons hv
      obtain ⟨m, l', rfl, e2, hv⟩ := vals_cons hv
      show w ++ (32 :: wordT 10 n ++ (46 :: wordT 11 m ++ [])) = _
      rw [word_val e1, word_val e2]
      simp [joinC]
    · cases hw
/-! Texts -/
theorem parse_text : ∀ (l acc : List In) (t : Nat), l.length < t → acc.length + l.length ≤ 256 → firstE l = 0 → parseL t acc (textAll l) = (acc ++ l, 0)
  | [], acc, t + 1, _, _, _ => by simp [textAll, parseL]
  | i :: l, acc, t + 1, ht, hl, h => by
    obtain ⟨h1, h2⟩ := firstE_cons h
    simp only [List.length_cons] at ht hl
    obtain ⟨p1, p2⟩ := line_there h1
    have ih := parse_text l (acc ++ [i]) t (by omega) (by simp; omega) h2
    have hc := cut1_hit 10 (textAll l) (lineT i) p2
    have e : textAll (i :: l) = lineT i ++ 10 :: textAll l := rfl
    rw [← e] at hc
    cases hb : textAll (i :: l) with
    | nil =>
      rw [hb] at hc
      have := congrArg (fun q => q.2.2) hc
      cases this
    | cons b r =>
      rw [hb] at hc
      unfold parseL
      rw [hc, if_neg (by omega), if_pos rfl, p1, if_pos rfl]
      simpa using ih
theorem textAll_app : ∀ a b, textAll (a ++ b) = textAll a ++ textAll b
  | [], b => rfl
  | i :: a, b => by simp [textAll, textAll_app a b]
theorem text_parse : ∀ (t : Nat) (acc : List In) (s : List UInt8) (l : List In), s.length < t → acc.length ≤ 256 → firstE acc = 0 → parseL t acc s = (l, 0) → firstE l = 0 ∧ l.length ≤ 256 ∧ textAll l = textAll acc ++ s
  | t + 1, acc, [], l, _, ha, hf, h => by
    injection h with h _
    subst h
    exact ⟨hf, ha, by simp⟩
  | t + 1, acc, b :: r, l, ht, ha, hf, h => by
    unfold parseL at h
    split at h
    · injection h with _ h; cases h
    rename_i h1
    split at h
    case isFalse => injection h with _ h; cases h
    rename_i h2
    split at h
    · rename_i h3
      rcases hd : cut1 10 (b :: r) with ⟨x, y, e⟩
      rw [hd] at h h2 h3
      simp only at h h2 h3
      subst h2
      have hb := cut1_back 10 _ x y hd
      rcases hp : lineP x with ⟨i, e⟩
      rw [hp] at h h3
      simp only at h h3
      subst h3
      obtain ⟨e1, e2⟩ := line_back hp
      have hy : y.length < t := by
        have := congrArg List.length hb
        simp at this ht; omega
      have ih := text_parse t (acc ++ [i]) y l hy (by simp; omega) (by rw [firstE_app, if_pos hf]; simp [firstE, e2]) h
      refine ⟨ih.1, ih.2.1, ?_⟩
      rw [ih.2.2, textAll_app, hb]
      simp [textAll, e1]
    · rename_i h3
      injection h with _ h; exact absurd h h3
end Go.Proofs.YtjpmogajlnkihaaDoor.En

/- Words for the plain laws: branches, numbers, bits, places in a list. No program in sight. -/
namespace Go.Proofs.YtjpmogajlnkihaaDoor.En
open Go
set_option linter.unusedVariables false
section
variable {R α β γ δ : Type}
theorem br_t (x y : Option R) : br true x y = x := id rfl
theorem br_f (x y : Option R) : br false x y = y := id rfl
theorem br_dec (p : Prop) [Decidable p] (x y : Option R) : br (decide p) x y = if p then x else y := by
  by_cases h : p <;> simp [br, h]
theorem br_not (c : Bool) (x y : Option R) : br (!c) x y = br c y x := by cases c <;> rfl
theorem br_and (a b : Bool) (x y : Option R) : br (a && b) x y = br a (br b x y) y := by cases a <;> rfl
theorem br_or (a b : Bool) (x y : Option R) : br (a || b) x y = br a x (br b x y) := by cases a <;> rfl
theorem bnd1_mk (a : α) (K : α → Option R) : bnd1 (some a) K = K a := id rfl
theorem bnd2_mk (a : α) (b : β) (K : α → β → Option R) : bnd2 (some (a, b)) K = K a b := id rfl
theorem bnd3_mk (a : α) (b : β) (c : γ) (K : α → β → γ → Option R) : bnd3 (some (a, b, c)) K = K a b c := id rfl
theorem bnd4_mk (a : α) (b : β) (c : γ) (d : δ) (K : α → β → γ → δ → Option R) : bnd4 (some (a, b, c, d)) K = K a b c d := id rfl
theorem bnd10_mk {a1 a2 a3 a4 a5 a6 a7 a8 a9 a10 : Type} (a : a1) (b : a2) (c : a3) (d : a4) (e : a5) (f : a6) (g : a7) (h : a8) (i : a9) (j : a10) (K : a1 → a2 → a3 → a4 → a5 → a6 → a7 → a8 → a9 → a10 → Option R) : bnd10 (some (a, b, c, d, e, f, g, h, i, j)) K = K a b c d e f g h i j := id rfl
theorem bnd5_mk {ε : Type} (a : α) (b : β) (c : γ) (d : δ) (e : ε) (K : α → β → γ → δ → ε → Option R) : bnd5 (some (a, b, c, d, e)) K = K a b c d e := id rfl
theorem at_of {xs : List α} {i : Nat} {x : α} (h : xs[i]? = some x) (K : α → Option R) : at? xs i K = K x := by simp [at?, h]
theorem at_zero (x : α) (r : List α) (K : α → Option R) : at? (x :: r) 0 K = K x := id rfl
theorem at_succ (x : α) (r : List α) (i : Nat) (K : α → Option R) : at? (x :: r) (i + 1) K = at? r i K := by simp [at?]
theorem at_mid (pre : List α) (x : α) (suf : List α) (K : α → Option R) : at? (pre ++ x :: suf) pre.length K = K x := at_of (by simp) K
theorem unInt_mk (k : IntKind) (n : Int) (K : Int → Option R) : V.unInt k (.int k n) K = K n := by simp [V.unInt]
theorem unBool_mk (b : Bool) (K : Bool → Option R) : V.unBool (.bool b) K = K b := id rfl
theorem unStr_mk (s : List UInt8) (K : List UInt8 → Option R) : V.unStr (.str s) K = K s := id rfl
theorem unBytes_mk (s : List UInt8) (K : List UInt8 → Option R) : V.unBytes (.bytes s) K = K s := id rfl
theorem unSl_mk (e : TypeId) (s : List V) (K : List V → Option R) : V.unSl e (.sl e s) K = K s := by simp [V.unSl]
theorem unAgg_mk (s : List V) (K : List V → Option R) : V.unAgg (.agg s) K = K s := id rfl
theorem unCons_mk (x : V) (r : List V) (K : V → List V → Option R) : unCons (x :: r) K = K x r := id rfl
theorem unNil_mk (K : Option R) : unNil [] K = K := id rfl
end
/-! Numbers -/
theorem w64 {n : Int} (h1 : -9223372036854775808 ≤ n) (h2 : n ≤ 9223372036854775807) : IntKind.i64.wrap n = n := by
  rw [IntKind.wrap_i64]; omega
theorem w64_u8 (u : UInt8) : IntKind.i64.wrap (u.toNat : Int) = u.toNat := by
  have := u.toNat_lt; exact w64 (by omega) (by omega)
theorem wu8 (n : Int) : IntKind.u8.wrap n = n % 256 := IntKind.wrap_u8 n
theorem fdiv_pos (a b : Int) (h : 0 < b) : a.fdiv b = a / b := by rw [Int.fdiv_eq_ediv_of_nonneg _ (by omega)]
theorem shr8 (a : Int) : shrI .i64 a 8 = a / 256 := by
  show a.fdiv (2 ^ (min (8 : Int).toNat 64)) = _
  exact fdiv_pos a 256 (by omega)
theorem ofNat_toNat (u : UInt8) : UInt8.ofNat u.toNat = u := UInt8.ofNat_toNat
end Go.Proofs.YtjpmogajlnkihaaDoor.En

/- Functions of the program in plain Lean, joined to the program by evaluation; printed by a program. -/
namespace Go.Proofs.YtjpmogajlnkihaaDoor.En
open Go Go.Proofs
set_option maxRecDepth 100000
set_option linter.unusedVariables false
noncomputable def e_number {R : Type} (s : List UInt8 → Option (Int × Bool × Bool)) (ds : List D) (K : List D → Option R) : Option R :=
  match ds with
  | [.v (.str x0) .no] => bnd3 (s x0) fun r0 r1 r2 => K [.agg [.v (.int .i64 r0) .no, .v (.bool r1) .no, .v (.bool r2) .no]]
  | _ => none
theorem go_number : Goes Tryd.prog 80 := goes_of Tryd.func80 (by kernel_rfl) (c := bodyOf Tryd.f80) (by kernel_rfl)
theorem eo_number (s : List UInt8 → Option (Int × Bool × Bool)) (hs : ∀ (x0 : List UInt8) (r0 : Int) (r1 : Bool) (r2 : Bool), s x0 = some (r0, r1, r2) → PureRet Tryd.prog T 80 [.v (.str x0) .no] [.agg [.v (.int .i64 r0) .no, .v (.bool r1) .no, .v (.bool r2) .no]]) : EntOK Tryd.prog T ⟨80, e_number s⟩ := by
  refine ⟨go_number, fun R ds K r h => ?_, fun R ds K => ?_⟩
  · simp only [e_number] at h
    split at h
    · obtain ⟨r0, r1, r2, h1, h2⟩ := bnd3_some h
      exact ⟨_, h2, hs _ _ _ _ h1⟩
    · cases h
  · simp only [e_number]
    split
    · rw [bnd3_b]; rfl
    · rfl
noncomputable def e_value {R : Type} (s : Int → List UInt8 → Option (Int × Bool × Bool)) (ds : List D) (K : List D → Option R) : Option R :=
  match ds with
  | [.v (.int .i64 x0) .no, .v (.str x1) .no] => bnd3 (s x0 x1) fun r0 r1 r2 => K [.agg [.v (.int .i64 r0) .no, .v (.bool r1) .no, .v (.bool r2) .no]]
  | _ => none
noncomputable def r_value (rs : List D) (_ : Mem) : Option (Int × Bool × Bool) :=
  match rs with
  | [.agg [.v (.int .i64 r0) _, .v (.bool r1) _, .v (.bool r2) _]] => some (r0, r1, r2)
  | _ => none
noncomputable def s_value (N : Nat) (x0 : Int) (x1 : List UInt8) : Option (Int × Bool × Bool) := br (decide (x0 = 7)) (bnd1 (s_kinds N) fun l0 => bnd1 (s_IndexS N l0 x1) fun n1 => some (IntKind.i64.wrap (n1 + 2), decide (0 ≤ n1), true)) (br (decide (x0 = 5)) (br (decide (x1 = ([115, 121, 115, 116, 101, 109] : List UInt8))) (some (255, true, true)) (bnd3 (s_number N x1) fun n2 b3 b4 => br (decide (x0 = 5)) (br (decide (n2 = 255)) (some (0, false, false)) (some (n2, b3, b4))) (some (n2, b3, b4)))) (bnd3 (s_number N x1) fun n5 b6 b7 => br (decide (x0 = 5)) (br (decide (n5 = 255)) (some (0, false, false)) (some (n5, b6, b7))) (some (n5, b6, b7))))
noncomputable def cx_value (N : Nat) : Cx := { T := T, isPure := tabP [⟨57, e_kinds (s_kinds N)⟩, ⟨63, e_IndexS (s_IndexS N)⟩, ⟨80, e_number (s_number N)⟩], pureK := fun g ds K => tabK [⟨57, e_kinds (s_kinds N)⟩, ⟨63, e_IndexS (s_IndexS N)⟩, ⟨80, e_number (s_number N)⟩] g ds K, memK := fun g dst ds m K => tabMK [] g dst ds m K, meth := tabM [], keep := fun _ => [], keepX := fun _ => [], loopT := fun _ _ _ _ => none, jumps := 9 }
theorem s_value_ok (N : Nat) (x0 : Int) (x1 : List UInt8) : bodyK (cx_value N) Tryd.f65 [.v (.int .i64 x0) .no, .v (.str x1) .no] [] r_value = s_value N x0 x1 := by
  kernel_rfl
theorem go_value : Goes Tryd.prog 65 := goes_of Tryd.func65 (by kernel_rfl) (c := bodyOf Tryd.f65) (by kernel_rfl)
theorem eo_value (s : Int → List UInt8 → Option (Int × Bool × Bool)) (hs : ∀ (x0 : Int) (x1 : List UInt8) (r0 : Int) (r1 : Bool) (r2 : Bool), s x0 x1 = some (r0, r1, r2) → PureRet Tryd.prog T 65 [.v (.int .i64 x0) .no, .v (.str x1) .no] [.agg [.v (.int .i64 r0) .no, .v (.bool r1) .no, .v (.bool r2) .no]]) : EntOK Tryd.prog T ⟨65, e_value s⟩ := by
  refine ⟨go_value, fun R ds K r h => ?_, fun R ds K => ?_⟩
  · simp only [e_value] at h
    split at h
    · obtain ⟨r0, r1, r2, h1, h2⟩ := bnd3_some h
      exact ⟨_, h2, hs _ _ _ _ _ h1⟩
    · cases h
  · simp only [e_value]
    split
    · rw [bnd3_b]; rfl
    · rfl
theorem co_value (N : Nat) : CxOK Tryd.prog (cx_value N) :=
  cxOK_of2 (es := [⟨57, e_kinds (s_kinds N)⟩, ⟨63, e_IndexS (s_IndexS N)⟩, ⟨80, e_number (s_number N)⟩]) (me := []) (ms := []) T_ok ⟨eo_kinds _ (p_kinds N), eo_IndexS _ (p_IndexS N), eo_number _ (p_number N), trivial⟩ trivial trivial rfl (fun _ _ _ _ => rfl) (fun _ _ _ _ _ _ => rfl) rfl
theorem lo_value (N : Nat) : LoopsOK (cx_value N) Tryd.f65.ntmps (bodyOf Tryd.f65) :=
  loopsOK_of (k := 0) (by kernel_rfl) trivial
theorem p_value (N : Nat) (x0 : Int) (x1 : List UInt8) (r0 : Int) (r1 : Bool) (r2 : Bool) (h : s_value N x0 x1 = some (r0, r1, r2)) : PureRet Tryd.prog T 65 [.v (.int .i64 x0) .no, .v (.str x1) .no] [.agg [.v (.int .i64 r0) .no, .v (.bool r1) .no, .v (.bool r2) .no]] :=
  pure_of (cx := cx_value N) (by kernel_rfl) (co_value N) Tryd.func65 (by kernel_rfl) (by kernel_rfl) (lo_value N) rfl rfl rfl (rf := r_value) ((s_value_ok N x0 x1).trans h) (fun rs' m h => by
    unfold r_value at h
    split at h
    · cases h; exact ⟨rfl, rfl⟩
    · cases h)
noncomputable def e_line {R : Type} (s : List UInt8 → Option (Int × Int × Int × Int × Int)) (ds : List D) (K : List D → Option R) : Option R :=
  match ds with
  | [.v (.str x0) .no] => bnd5 (s x0) fun r0 r1 r2 r3 r4 => K [.agg [.v (.int .i64 r0) .no, .v (.int .i64 r1) .no, .v (.int .i64 r2) .no, .v (.int .i64 r3) .no], .v (.int .i64 r4) .no]
  | _ => none
noncomputable def r_line (rs : List D) (_ : Mem) : Option (Int × Int × Int × Int × Int) :=
  match rs with
  | [.agg [.v (.int .i64 r0) _, .v (.int .i64 r1) _, .v (.int .i64 r2) _, .v (.int .i64 r3) _], .v (.int .i64 r4) _] => some (r0, r1, r2, r3, r4)
  | _ => none
noncomputable def F_line_12 {R : Type} (N : Nat) (n0 : Int) (vs2 : List V) (n3 : Int) (n5 : Int) (n6 : Int) (n7 : Int) (n8 : Int) (n9 : Int) (n10 : Int) (n11 : Int) (Lq : Bool → Int → Int → Int → Int → Option R) (K0 : Int → Bool → Int → Int → Int → Int → Int → Int → Int → Option R) (K1 : Bool → Int → Int → Int → Option R) (b1 : Bool) (n4 : Int) (n12 : Int) (n13 : Int) (n14 : Int) : Option R := br (decide (n4 < n3)) (br (decide (0 ≤ n4) && decide (n4 < (↑vs2.length : Int))) (at? vs2 n4.toNat fun x0 => x0.unStr fun l1 => br (decide (n4 = 0)) (bnd3 (s_value N n9 l1) fun n2 b3 b4 => br (!b3) (K0 30 b1 0 0 0 0 n12 n13 n14) (br b1 (br (decide (n4 = 0)) (Lq b4 (IntKind.i64.wrap (n4 + 1)) n2 n13 n14) (br (decide (n4 = 1)) (Lq b4 (IntKind.i64.wrap (n4 + 1)) n12 n2 n14) (br (decide (n4 = 2)) (Lq b4 (IntKind.i64.wrap (n4 + 1)) n12 n13 n2) none))) (br (decide (n4 = 0)) (Lq false (IntKind.i64.wrap (n4 + 1)) n2 n13 n14) (br (decide (n4 = 1)) (Lq false (IntKind.i64.wrap (n4 + 1)) n12 n2 n14) (br (decide (n4 = 2)) (Lq false (IntKind.i64.wrap (n4 + 1)) n12 n13 n2) none))))) (br (decide (n4 = 1)) (bnd3 (s_value N n10 l1) fun n5 b6 b7 => br (!b6) (K0 30 b1 0 0 0 0 n12 n13 n14) (br b1 (br (decide (n4 = 0)) (Lq b7 (IntKind.i64.wrap (n4 + 1)) n5 n13 n14) (br (decide (n4 = 1)) (Lq b7 (IntKind.i64.wrap (n4 + 1)) n12 n5 n14) (br (decide (n4 = 2)) (Lq b7 (IntKind.i64.wrap (n4 + 1)) n12 n13 n5) none))) (br (decide (n4 = 0)) (Lq false (IntKind.i64.wrap (n4 + 1)) n5 n13 n14) (br (decide (n4 = 1)) (Lq false (IntKind.i64.wrap (n4 + 1)) n12 n5 n14) (br (decide (n4 = 2)) (Lq false (IntKind.i64.wrap (n4 + 1)) n12 n13 n5) none))))) (br (decide (n4 = 2)) (bnd3 (s_value N n11 l1) fun n8 b9 b10 => br (!b9) (K0 30 b1 0 0 0 0 n12 n13 n14) (br b1 (br (decide (n4 = 0)) (Lq b10 (IntKind.i64.wrap (n4 + 1)) n8 n13 n14) (br (decide (n4 = 1)) (Lq b10 (IntKind.i64.wrap (n4 + 1)) n12 n8 n14) (br (decide (n4 = 2)) (Lq b10 (IntKind.i64.wrap (n4 + 1)) n12 n13 n8) none))) (br (decide (n4 = 0)) (Lq false (IntKind.i64.wrap (n4 + 1)) n8 n13 n14) (br (decide (n4 = 1)) (Lq false (IntKind.i64.wrap (n4 + 1)) n12 n8 n14) (br (decide (n4 = 2)) (Lq false (IntKind.i64.wrap (n4 + 1)) n12 n13 n8) none))))) none))) none) (K1 b1 n12 n13 n14)
noncomputable def S_line_12 {R : Type} (N : Nat) (n0 : Int) (vs2 : List V) (n3 : Int) (n5 : Int) (n6 : Int) (n7 : Int) (n8 : Int) (n9 : Int) (n10 : Int) (n11 : Int) : Nat → Bool → Int → Int → Int → Int → (Int → Bool → Int → Int → Int → Int → Int → Int → Int → Option R) → (Bool → Int → Int → Int → Option R) → Option R | 0, _, _, _, _, _, _, _ => none | t + 1, b1, n4, n12, n13, n14, K0, K1 => F_line_12 N n0 vs2 n3 n5 n6 n7 n8 n9 n10 n11 (fun b1 n4 n12 n13 n14 => S_line_12 N n0 vs2 n3 n5 n6 n7 n8 n9 n10 n11 t b1 n4 n12 n13 n14 K0 K1) K0 K1 b1 n4 n12 n13 n14
noncomputable def l_line_12 {R : Type} (N : Nat) (ds : List D) (m : Mem) (K : Ex → List D → Mem → Option R) : Option R :=
  match ds, m with
  | [(.ptr 0 2 0), (.v (.int .i64 n0) .no), (.ptr 0 6 0), (.ptr 0 9 0), (.v (.bool b1) .no), .any, (.v (.sl 9 vs2) .no), (.v (.int .i64 n3) .no), (.v (.int .i64 n4) .no)], [[(2, ⟨23, [(.v (.int .i64 n5) .no), (.v (.int .i64 n6) .no), (.v (.int .i64 n7) .no), (.v (.int .i64 n8) .no)]⟩), (6, ⟨59, [(.v (.int .i64 n9) .no), (.v (.int .i64 n10) .no), (.v (.int .i64 n11) .no)]⟩), (9, ⟨57, [(.v (.int .i64 n12) .no), (.v (.int .i64 n13) .no), (.v (.int .i64 n14) .no)]⟩)]] => S_line_12 N n0 vs2 n3 n5 n6 n7 n8 n9 n10 n11 N b1 n4 n12 n13 n14 (fun a0 a2 a3 a4 a5 a6 a10 a11 a12 => K .ret [(.ptr 0 2 0), (.v (.int .i64 a0) .no), (.v (.int .i64 n0) .no), (.ptr 0 6 0), (.ptr 0 9 0), (.v (.bool a2) .no), .any] [[(2, ⟨23, [(.v (.int .i64 a3) .no), (.v (.int .i64 a4) .no), (.v (.int .i64 a5) .no), (.v (.int .i64 a6) .no)]⟩), (6, ⟨59, [(.v (.int .i64 n9) .no), (.v (.int .i64 n10) .no), (.v (.int .i64 n11) .no)]⟩), (9, ⟨57, [(.v (.int .i64 a10) .no), (.v (.int .i64 a11) .no), (.v (.int .i64 a12) .no)]⟩)]]) (fun a1 a9 a10 a11 => K (.exit 0) [(.ptr 0 2 0), .any, (.v (.int .i64 n0) .no), (.ptr 0 6 0), (.ptr 0 9 0), (.v (.bool a1) .no), .any] [[(2, ⟨23, [(.v (.int .i64 n5) .no), (.v (.int .i64 n6) .no), (.v (.int .i64 n7) .no), (.v (.int .i64 n8) .no)]⟩), (6, ⟨59, [(.v (.int .i64 n9) .no), (.v (.int .i64 n10) .no), (.v (.int .i64 n11) .no)]⟩), (9, ⟨57, [(.v (.int .i64 a9) .no), (.v (.int .i64 a10) .no), (.v (.int .i64 a11) .no)]⟩)]])
  | _, _ => none
noncomputable def s_line (N : Nat) (x0 : List UInt8) : Option (Int × Int × Int × Int × Int) := bnd1 (s_Split N x0 ([32] : List UInt8)) fun l0 => bnd1 (s_names N) fun l1 => br (decide (0 < (↑l0.length : Int))) (at? l0 0 fun x2 => x2.unStr fun l3 => bnd1 (s_IndexS N l1 l3) fun n4 => br (decide (n4 < 0)) (some (0, 0, 0, 0, 30)) (bnd3 (s_formOf N n4) fun n5 n6 n7 => br (decide (1 ≤ (↑l0.length : Int))) (bnd2 (s_words N n5 n6 n7 (List.drop 1 l0)) fun l8 b9 => br (!b9) (some (0, 0, 0, 0, 30)) (S_line_12 N n4 l8 (↑l8.length : Int) 0 0 0 0 n5 n6 n7 N true 0 0 0 0 (fun n10 b11 n12 n13 n14 n15 n16 n17 n18 => some (n12, n13, n14, n15, n10)) fun b19 n20 n21 n22 => br (!b19) (some (0, 0, 0, 0, 2)) (bnd1 (s_cCheck N n4 n20 n21 n22) fun n23 => some (n4, n20, n21, n22, n23)))) none)) none
noncomputable def cx_line (N : Nat) : Cx := { T := T, isPure := tabP [⟨62, e_Split (s_Split N)⟩, ⟨39, e_names (s_names N)⟩, ⟨63, e_IndexS (s_IndexS N)⟩, ⟨33, e_formOf (s_formOf N)⟩, ⟨64, e_words (s_words N)⟩, ⟨65, e_value (s_value N)⟩, ⟨12, e_cCheck (s_cCheck N)⟩], pureK := fun g ds K => tabK [⟨62, e_Split (s_Split N)⟩, ⟨39, e_names (s_names N)⟩, ⟨63, e_IndexS (s_IndexS N)⟩, ⟨33, e_formOf (s_formOf N)⟩, ⟨64, e_words (s_words N)⟩, ⟨65, e_value (s_value N)⟩, ⟨12, e_cCheck (s_cCheck N)⟩] g ds K, memK := fun g dst ds m K => tabMK [] g dst ds m K, meth := tabM [], keep := fun r => match r with | 12 => [2, 5, 6, 9, 10, 14, 37, 38, 39] | _ => [], keepX := fun r => match r with | 12 => [2, 3, 5, 6, 9, 10, 14] | _ => [], loopT := fun r ds m K => match r with | 12 => l_line_12 N ds m K | _ => none, jumps := 9, dyn := true }
theorem F_line_12_ok {R : Type} (N : Nat) (n0 : Int) (vs2 : List V) (n3 : Int) (n5 : Int) (n6 : Int) (n7 : Int) (n8 : Int) (n9 : Int) (n10 : Int) (n11 : Int) (b1 : Bool) (n4 : Int) (n12 : Int) (n13 : Int) (n14 : Int) (L : List D → Mem → Option R) (K : Ex → List D → Mem → Option R) :
    roundK (fun st K => codeK (cx_line N) (loopN Tryd.f46 0) st K) 77 [2, 5, 6, 9, 10, 14, 37, 38, 39] [2, 3, 5, 6, 9, 10, 14] L [(.ptr 0 2 0), (.v (.int .i64 n0) .no), (.ptr 0 6 0), (.ptr 0 9 0), (.v (.bool b1) .no), .any, (.v (.sl 9 vs2) .no), (.v (.int .i64 n3) .no), (.v (.int .i64 n4) .no)] [[(2, ⟨23, [(.v (.int .i64 n5) .no), (.v (.int .i64 n6) .no), (.v (.int .i64 n7) .no), (.v (.int .i64 n8) .no)]⟩), (6, ⟨59, [(.v (.int .i64 n9) .no), (.v (.int .i64 n10) .no), (.v (.int .i64 n11) .no)]⟩), (9, ⟨57, [(.v (.int .i64 n12) .no), (.v (.int .i64 n13) .no), (.v (.int .i64 n14) .no)]⟩)]] K = F_line_12 N n0 vs2 n3 n5 n6 n7 n8 n9 n10 n11 (fun b1 n4 n12 n13 n14 => L [(.ptr 0 2 0), (.v (.int .i64 n0) .no), (.ptr 0 6 0), (.ptr 0 9 0), (.v (.bool b1) .no), .any, (.v (.sl 9 vs2) .no), (.v (.int .i64 n3) .no), (.v (.int .i64 n4) .no)] [[(2, ⟨23, [(.v (.int .i64 n5) .no), (.v (.int .i64 n6) .no), (.v (.int .i64 n7) .no), (.v (.int .i64 n8) .no)]⟩), (6, ⟨59, [(.v (.int .i64 n9) .no), (.v (.int .i64 n10) .no), (.v (.int .i64 n11) .no)]⟩), (9, ⟨57, [(.v (.int .i64 n12) .no), (.v (.int .i64 n13) .no), (.v (.int .i64 n14) .no)]⟩)]]) (fun a0 a2 a3 a4 a5 a6 a10 a11 a12 => K .ret [(.ptr 0 2 0), (.v (.int .i64 a0) .no), (.v (.int .i64 n0) .no), (.ptr 0 6 0), (.ptr 0 9 0), (.v (.bool a2) .no), .any] [[(2, ⟨23, [(.v (.int .i64 a3) .no), (.v (.int .i64 a4) .no), (.v (.int .i64 a5) .no), (.v (.int .i64 a6) .no)]⟩), (6, ⟨59, [(.v (.int .i64 n9) .no), (.v (.int .i64 n10) .no), (.v (.int .i64 n11) .no)]⟩), (9, ⟨57, [(.v (.int .i64 a10) .no), (.v (.int .i64 a11) .no), (.v (.int .i64 a12) .no)]⟩)]]) (fun a1 a9 a10 a11 => K (.exit 0) [(.ptr 0 2 0), .any, (.v (.int .i64 n0) .no), (.ptr 0 6 0), (.ptr 0 9 0), (.v (.bool a1) .no), .any] [[(2, ⟨23, [(.v (.int .i64 n5) .no), (.v (.int .i64 n6) .no), (.v (.int .i64 n7) .no), (.v (.int .i64 n8) .no)]⟩), (6, ⟨59, [(.v (.int .i64 n9) .no), (.v (.int .i64 n10) .no), (.v (.int .i64 n11) .no)]⟩), (9, ⟨57, [(.v (.int .i64 a9) .no), (.v (.int .i64 a10) .no), (.v (.int .i64 a11) .no)]⟩)]]) b1 n4 n12 n13 n14 := by
  kernel_rfl
theorem S_line_12_ok {R : Type} (N : Nat) (n0 : Int) (vs2 : List V) (n3 : Int) (n5 : Int) (n6 : Int) (n7 : Int) (n8 : Int) (n9 : Int) (n10 : Int) (n11 : Int) (K : Ex → List D → Mem → Option R) : ∀ (t : Nat) (b1 : Bool) (n4 : Int) (n12 : Int) (n13 : Int) (n14 : Int),
    loopK (fun st K => codeK (cx_line N) (loopN Tryd.f46 0) st K) 77 [2, 5, 6, 9, 10, 14, 37, 38, 39] [2, 3, 5, 6, 9, 10, 14] t [(.ptr 0 2 0), (.v (.int .i64 n0) .no), (.ptr 0 6 0), (.ptr 0 9 0), (.v (.bool b1) .no), .any, (.v (.sl 9 vs2) .no), (.v (.int .i64 n3) .no), (.v (.int .i64 n4) .no)] [[(2, ⟨23, [(.v (.int .i64 n5) .no), (.v (.int .i64 n6) .no), (.v (.int .i64 n7) .no), (.v (.int .i64 n8) .no)]⟩), (6, ⟨59, [(.v (.int .i64 n9) .no), (.v (.int .i64 n10) .no), (.v (.int .i64 n11) .no)]⟩), (9, ⟨57, [(.v (.int .i64 n12) .no), (.v (.int .i64 n13) .no), (.v (.int .i64 n14) .no)]⟩)]] K = S_line_12 N n0 vs2 n3 n5 n6 n7 n8 n9 n10 n11 t b1 n4 n12 n13 n14 (fun a0 a2 a3 a4 a5 a6 a10 a11 a12 => K .ret [(.ptr 0 2 0), (.v (.int .i64 a0) .no), (.v (.int .i64 n0) .no), (.ptr 0 6 0), (.ptr 0 9 0), (.v (.bool a2) .no), .any] [[(2, ⟨23, [(.v (.int .i64 a3) .no), (.v (.int .i64 a4) .no), (.v (.int .i64 a5) .no), (.v (.int .i64 a6) .no)]⟩), (6, ⟨59, [(.v (.int .i64 n9) .no), (.v (.int .i64 n10) .no), (.v (.int .i64 n11) .no)]⟩), (9, ⟨57, [(.v (.int .i64 a10) .no), (.v (.int .i64 a11) .no), (.v (.int .i64 a12) .no)]⟩)]]) (fun a1 a9 a10 a11 => K (.exit 0) [(.ptr 0 2 0), .any, (.v (.int .i64 n0) .no), (.ptr 0 6 0), (.ptr 0 9 0), (.v (.bool a1) .no), .any] [[(2, ⟨23, [(.v (.int .i64 n5) .no), (.v (.int .i64 n6) .no), (.v (.int .i64 n7) .no), (.v (.int .i64 n8) .no)]⟩), (6, ⟨59, [(.v (.int .i64 n9) .no), (.v (.int .i64 n10) .no), (.v (.int .i64 n11) .no)]⟩), (9, ⟨57, [(.v (.int .i64 a9) .no), (.v (.int .i64 a10) .no), (.v (.int .i64 a11) .no)]⟩)]])
  | 0, b1, n4, n12, n13, n14 => rfl
  | t + 1, b1, n4, n12, n13, n14 => (F_line_12_ok N n0 vs2 n3 n5 n6 n7 n8 n9 n10 n11 b1 n4 n12 n13 n14 _ K).trans (congrArg (fun L => F_line_12 N n0 vs2 n3 n5 n6 n7 n8 n9 n10 n11 L (fun a0 a2 a3 a4 a5 a6 a10 a11 a12 => K .ret [(.ptr 0 2 0), (.v (.int .i64 a0) .no), (.v (.int .i64 n0) .no), (.ptr 0 6 0), (.ptr 0 9 0), (.v (.bool a2) .no), .any] [[(2, ⟨23, [(.v (.int .i64 a3) .no), (.v (.int .i64 a4) .no), (.v (.int .i64 a5) .no), (.v (.int .i64 a6) .no)]⟩), (6, ⟨59, [(.v (.int .i64 n9) .no), (.v (.int .i64 n10) .no), (.v (.int .i64 n11) .no)]⟩), (9, ⟨57, [(.v (.int .i64 a10) .no), (.v (.int .i64 a11) .no), (.v (.int .i64 a12) .no)]⟩)]]) (fun a1 a9 a10 a11 => K (.exit 0) [(.ptr 0 2 0), .any, (.v (.int .i64 n0) .no), (.ptr 0 6 0), (.ptr 0 9 0), (.v (.bool a1) .no), .any] [[(2, ⟨23, [(.v (.int .i64 n5) .no), (.v (.int .i64 n6) .no), (.v (.int .i64 n7) .no), (.v (.int .i64 n8) .no)]⟩), (6, ⟨59, [(.v (.int .i64 n9) .no), (.v (.int .i64 n10) .no), (.v (.int .i64 n11) .no)]⟩), (9, ⟨57, [(.v (.int .i64 a9) .no), (.v (.int .i64 a10) .no), (.v (.int .i64 a11) .no)]⟩)]]) b1 n4 n12 n13 n14) (funext fun b1 => funext fun n4 => funext fun n12 => funext fun n13 => funext fun n14 => S_line_12_ok N n0 vs2 n3 n5 n6 n7 n8 n9 n10 n11 K t b1 n4 n12 n13 n14))
theorem s_line_ok (N : Nat) (x0 : List UInt8) : bodyK (cx_line N) Tryd.f46 [.v (.str x0) .no] [] r_line = s_line N x0 := by
  kernel_rfl
theorem go_line : Goes Tryd.prog 46 := goes_of Tryd.func46 (by kernel_rfl) (c := bodyOf Tryd.f46) (by kernel_rfl)
theorem eo_line (s : List UInt8 → Option (Int × Int × Int × Int × Int)) (hs : ∀ (x0 : List UInt8) (r0 : Int) (r1 : Int) (r2 : Int) (r3 : Int) (r4 : Int), s x0 = some (r0, r1, r2, r3, r4) → PureRet Tryd.prog T 46 [.v (.str x0) .no] [.agg [.v (.int .i64 r0) .no, .v (.int .i64 r1) .no, .v (.int .i64 r2) .no, .v (.int .i64 r3) .no], .v (.int .i64 r4) .no]) : EntOK Tryd.prog T ⟨46, e_line s⟩ := by
  refine ⟨go_line, fun R ds K r h => ?_, fun R ds K => ?_⟩
  · simp only [e_line] at h
    split at h
    · obtain ⟨r0, r1, r2, r3, r4, h1, h2⟩ := bnd5_some h
      exact ⟨_, h2, hs _ _ _ _ _ _ h1⟩
    · cases h
  · simp only [e_line]
    split
    · rw [bnd5_b]; rfl
    · rfl
theorem co_line (N : Nat) : CxOK Tryd.prog (cx_line N) :=
  cxOK_of2 (es := [⟨62, e_Split (s_Split N)⟩, ⟨39, e_names (s_names N)⟩, ⟨63, e_IndexS (s_IndexS N)⟩, ⟨33, e_formOf (s_formOf N)⟩, ⟨64, e_words (s_words N)⟩, ⟨65, e_value (s_value N)⟩, ⟨12, e_cCheck (s_cCheck N)⟩]) (me := []) (ms := []) T_ok ⟨eo_Split _ (p_Split N), eo_names _ (p_names N), eo_IndexS _ (p_IndexS N), eo_formOf _ (p_formOf N), eo_words _ (p_words N), eo_value _ (p_value N), eo_cCheck _ (p_cCheck N), trivial⟩ trivial trivial rfl (fun _ _ _ _ => rfl) (fun _ _ _ _ _ _ => rfl) rfl
theorem lk_line_12 (N : Nat) : LoopOK (cx_line N) 77 (loopN Tryd.f46 0) := by
  refine loopOK_of (rid := 12) (by kernel_rfl) rfl rfl fun R ds m K r h => ?_
  have h : l_line_12 N ds m K = some r := h
  unfold l_line_12 at h
  split at h
  · exact ⟨N, Eq.trans (S_line_12_ok ..) h⟩
  · cases h
theorem lo_line (N : Nat) : LoopsOK (cx_line N) Tryd.f46.ntmps (bodyOf Tryd.f46) :=
  loopsOK_of (k := 1) (by kernel_rfl) ⟨trivial, lk_line_12 N⟩
theorem p_line (N : Nat) (x0 : List UInt8) (r0 : Int) (r1 : Int) (r2 : Int) (r3 : Int) (r4 : Int) (h : s_line N x0 = some (r0, r1, r2, r3, r4)) : PureRet Tryd.prog T 46 [.v (.str x0) .no] [.agg [.v (.int .i64 r0) .no, .v (.int .i64 r1) .no, .v (.int .i64 r2) .no, .v (.int .i64 r3) .no], .v (.int .i64 r4) .no] :=
  pure_of (cx := cx_line N) (by kernel_rfl) (co_line N) Tryd.func46 (by kernel_rfl) (by kernel_rfl) (lo_line N) rfl rfl rfl (rf := r_line) ((s_line_ok N x0).trans h) (fun rs' m h => by
    unfold r_line at h
    split at h
    · cases h; exact ⟨rfl, rfl⟩
    · cases h)
noncomputable def e_cParse {R : Type} (s : List UInt8 → Option (List V × Int)) (ds : List D) (K : List D → Option R) : Option R :=
  match ds with
  | [.v (.str x0) .no] => bnd2 (s x0) fun r0 r1 => K [.v (.sl 23 r0) .no, .v (.int .i64 r1) .no]
  | _ => none
noncomputable def r_cParse (rs : List D) (_ : Mem) : Option (List V × Int) :=
  match rs with
  | [.v (.sl 23 r0) _, .v (.int .i64 r1) _] => some (r0, r1)
  | _ => none
noncomputable def F_cParse_2 {R : Type} (N : Nat)  (Lq : List UInt8 → List V → Option R) (K0 : List V → Int → List V → Option R) (K1 : List V → Option R) (l0 : List UInt8) (vs1 : List V) : Option R := br (!decide (l0 = [])) (br (decide ((↑vs1.length : Int) = 256)) (K0 [] 3 vs1) (bnd3 (s_Cut N l0 ([10] : List UInt8)) fun l0 l1 b2 => br (!b2) (K0 [] 30 vs1) (bnd5 (s_line N l0) fun n3 n4 n5 n6 n7 => br (!decide (n7 = 0)) (K0 [] n7 vs1) (br (decide ((vs1.length + [V.agg [V.int IntKind.i64 n3, V.int IntKind.i64 n4, V.int IntKind.i64 n5, V.int IntKind.i64 n6]].length) * 32 ≤ 140737488355328)) (Lq l1 (vs1 ++ [V.agg [V.int IntKind.i64 n3, V.int IntKind.i64 n4, V.int IntKind.i64 n5, V.int IntKind.i64 n6]])) none)))) (K1 vs1)
noncomputable def S_cParse_2 {R : Type} (N : Nat)  : Nat → List UInt8 → List V → (List V → Int → List V → Option R) → (List V → Option R) → Option R | 0, _, _, _, _ => none | t + 1, l0, vs1, K0, K1 => F_cParse_2 N  (fun l0 vs1 => S_cParse_2 N  t l0 vs1 K0 K1) K0 K1 l0 vs1
noncomputable def l_cParse_2 {R : Type} (N : Nat) (ds : List D) (m : Mem) (K : Ex → List D → Mem → Option R) : Option R :=
  match ds, m with
  | [(.v (.str l0) .no), (.v (.sl 23 vs1) (.own (.slot 4) 23))], [[]] => S_cParse_2 N  N l0 vs1 (fun a0 a1 a2 => K .ret [(.v (.sl 23 a0) (.own (.slot 2) 23)), (.v (.int .i64 a1) .no), (.v (.sl 23 a2) (.own (.slot 4) 23))] [[]]) (fun a0 => K (.exit 0) [.any, .any, (.v (.sl 23 a0) (.own (.slot 4) 23))] [[]])
  | _, _ => none
noncomputable def s_cParse (N : Nat) (x0 : List UInt8) : Option (List V × Int) := S_cParse_2 N N x0 [] (fun l0 n1 l2 => some (l0, n1)) fun l3 => some (l3, 0)
noncomputable def cx_cParse (N : Nat) : Cx := { T := T, isPure := tabP [⟨45, e_Cut (s_Cut N)⟩, ⟨46, e_line (s_line N)⟩], pureK := fun g ds K => tabK [⟨45, e_Cut (s_Cut N)⟩, ⟨46, e_line (s_line N)⟩] g ds K, memK := fun g dst ds m K => tabMK [] g dst ds m K, meth := tabM [], keep := fun r => match r with | 2 => [0, 4] | _ => [], keepX := fun r => match r with | 2 => [2, 3, 4] | _ => [], loopT := fun r ds m K => match r with | 2 => l_cParse_2 N ds m K | _ => none, jumps := 9 }
theorem F_cParse_2_ok {R : Type} (N : Nat)  (l0 : List UInt8) (vs1 : List V) (L : List D → Mem → Option R) (K : Ex → List D → Mem → Option R) :
    roundK (fun st K => codeK (cx_cParse N) (loopN Tryd.f20 0) st K) 37 [0, 4] [2, 3, 4] L [(.v (.str l0) .no), (.v (.sl 23 vs1) (.own (.slot 4) 23))] [[]] K = F_cParse_2 N  (fun l0 vs1 => L [(.v (.str l0) .no), (.v (.sl 23 vs1) (.own (.slot 4) 23))] [[]]) (fun a0 a1 a2 => K .ret [(.v (.sl 23 a0) (.own (.slot 2) 23)), (.v (.int .i64 a1) .no), (.v (.sl 23 a2) (.own (.slot 4) 23))] [[]]) (fun a0 => K (.exit 0) [.any, .any, (.v (.sl 23 a0) (.own (.slot 4) 23))] [[]]) l0 vs1 := by
  kernel_rfl
theorem S_cParse_2_ok {R : Type} (N : Nat)  (K : Ex → List D → Mem → Option R) : ∀ (t : Nat) (l0 : List UInt8) (vs1 : List V),
    loopK (fun st K => codeK (cx_cParse N) (loopN Tryd.f20 0) st K) 37 [0, 4] [2, 3, 4] t [(.v (.str l0) .no), (.v (.sl 23 vs1) (.own (.slot 4) 23))] [[]] K = S_cParse_2 N  t l0 vs1 (fun a0 a1 a2 => K .ret [(.v (.sl 23 a0) (.own (.slot 2) 23)), (.v (.int .i64 a1) .no), (.v (.sl 23 a2) (.own (.slot 4) 23))] [[]]) (fun a0 => K (.exit 0) [.any, .any, (.v (.sl 23 a0) (.own (.slot 4) 23))] [[]])
  | 0, l0, vs1 => rfl
  | t + 1, l0, vs1 => (F_cParse_2_ok N  l0 vs1 _ K).trans (congrArg (fun L => F_cParse_2 N  L (fun a0 a1 a2 => K .ret [(.v (.sl 23 a0) (.own (.slot 2) 23)), (.v (.int .i64 a1) .no), (.v (.sl 23 a2) (.own (.slot 4) 23))] [[]]) (fun a0 => K (.exit 0) [.any, .any, (.v (.sl 23 a0) (.own (.slot 4) 23))] [[]]) l0 vs1) (funext fun l0 => funext fun vs1 => S_cParse_2_ok N  K t l0 vs1))
theorem s_cParse_ok (N : Nat) (x0 : List UInt8) : bodyK (cx_cParse N) Tryd.f20 [.v (.str x0) .no] [] r_cParse = s_cParse N x0 := by
  kernel_rfl
theorem go_cParse : Goes Tryd.prog 20 := goes_of Tryd.func20 (by kernel_rfl) (c := bodyOf Tryd.f20) (by kernel_rfl)
theorem eo_cParse (s : List UInt8 → Option (List V × Int)) (hs : ∀ (x0 : List UInt8) (r0 : List V) (r1 : Int), s x0 = some (r0, r1) → PureRet Tryd.prog T 20 [.v (.str x0) .no] [.v (.sl 23 r0) .no, .v (.int .i64 r1) .no]) : EntOK Tryd.prog T ⟨20, e_cParse s⟩ := by
  refine ⟨go_cParse, fun R ds K r h => ?_, fun R ds K => ?_⟩
  · simp only [e_cParse] at h
    split at h
    · obtain ⟨r0, r1, h1, h2⟩ := bnd2_some h
      exact ⟨_, h2, hs _ _ _ h1⟩
    · cases h
  · simp only [e_cParse]
    split
    · rw [bnd2_b]; rfl
    · rfl
theorem co_cParse (N : Nat) : CxOK Tryd.prog (cx_cParse N) :=
  cxOK_of2 (es := [⟨45, e_Cut (s_Cut N)⟩, ⟨46, e_line (s_line N)⟩]) (me := []) (ms := []) T_ok ⟨eo_Cut _ (p_Cut N), eo_line _ (p_line N), trivial⟩ trivial trivial rfl (fun _ _ _ _ => rfl) (fun _ _ _ _ _ _ => rfl) rfl
theorem lk_cParse_2 (N : Nat) : LoopOK (cx_cParse N) 37 (loopN Tryd.f20 0) := by
  refine loopOK_of (rid := 2) (by kernel_rfl) rfl rfl fun R ds m K r h => ?_
  have h : l_cParse_2 N ds m K = some r := h
  unfold l_cParse_2 at h
  split at h
  · exact ⟨N, Eq.trans (S_cParse_2_ok ..) h⟩
  · cases h
theorem lo_cParse (N : Nat) : LoopsOK (cx_cParse N) Tryd.f20.ntmps (bodyOf Tryd.f20) :=
  loopsOK_of (k := 1) (by kernel_rfl) ⟨trivial, lk_cParse_2 N⟩
theorem p_cParse (N : Nat) (x0 : List UInt8) (r0 : List V) (r1 : Int) (h : s_cParse N x0 = some (r0, r1)) : PureRet Tryd.prog T 20 [.v (.str x0) .no] [.v (.sl 23 r0) .no, .v (.int .i64 r1) .no] :=
  pure_of (cx := cx_cParse N) (by kernel_rfl) (co_cParse N) Tryd.func20 (by kernel_rfl) (by kernel_rfl) (lo_cParse N) rfl rfl rfl (rf := r_cParse) ((s_cParse_ok N x0).trans h) (fun rs' m h => by
    unfold r_cParse at h
    split at h
    · cases h; exact ⟨rfl, rfl⟩
    · cases h)
noncomputable def e_rName {R : Type} (s : Int → Option (List UInt8)) (ds : List D) (K : List D → Option R) : Option R :=
  match ds with
  | [.v (.int .i64 x0) .no] => bnd1 (s x0) fun r0 => K [.v (.str r0) .no]
  | _ => none
theorem go_rName : Goes Tryd.prog 59 := goes_of Tryd.func59 (by kernel_rfl) (c := bodyOf Tryd.f59) (by kernel_rfl)
theorem eo_rName (s : Int → Option (List UInt8)) (hs : ∀ (x0 : Int) (r0 : List UInt8), s x0 = some r0 → PureRet Tryd.prog T 59 [.v (.int .i64 x0) .no] [.v (.str r0) .no]) : EntOK Tryd.prog T ⟨59, e_rName s⟩ := by
  refine ⟨go_rName, fun R ds K r h => ?_, fun R ds K => ?_⟩
  · simp only [e_rName] at h
    split at h
    · obtain ⟨r0, h1, h2⟩ := bnd1_some h
      exact ⟨_, h2, hs _ _ h1⟩
    · cases h
  · simp only [e_rName]
    split
    · rw [bnd1_b]; rfl
    · rfl
noncomputable def e_rline {R : Type} (s : Int → Int → Int → Int → Option (List UInt8)) (ds : List D) (K : List D → Option R) : Option R :=
  match ds with
  | [.agg [.v (.int .i64 x0) .no, .v (.int .i64 x1) .no, .v (.int .i64 x2) .no, .v (.int .i64 x3) .no]] => bnd1 (s x0 x1 x2 x3) fun r0 => K [.v (.str r0) .no]
  | _ => none
noncomputable def r_rline (rs : List D) (_ : Mem) : Option (List UInt8) :=
  match rs with
  | [.v (.str r0) _] => some (r0)
  | _ => none
noncomputable def s_rline (N : Nat) (x0 : Int) (x1 : Int) (x2 : Int) (x3 : Int) : Option (List UInt8) := bnd3 (s_rForms N x0) fun n0 n1 n2 => bnd1 (s_rName N x0) fun l3 => br (!decide (n0 = 0)) (br (decide (l3.length + 1 ≤ 9223372036854775807)) (bnd1 (s_rword N n0 x1) fun l4 => br (decide ((l3 ++ ([32] : List UInt8)).length + l4.length ≤ 9223372036854775807)) (br (!decide (n1 = 0)) (br (decide (n0 = 5)) (br (decide ((l3 ++ ([32] : List UInt8) ++ l4).length + 1 ≤ 9223372036854775807)) (bnd1 (s_rword N n1 x2) fun l5 => br (decide ((l3 ++ ([32] : List UInt8) ++ l4 ++ ([46] : List UInt8)).length + l5.length ≤ 9223372036854775807)) (br (!decide (n2 = 0)) (br (decide ((l3 ++ ([32] : List UInt8) ++ l4 ++ ([46] : List UInt8) ++ l5).length + 1 ≤ 9223372036854775807)) (bnd1 (s_rword N n2 x3) fun l6 => br (decide ((l3 ++ ([32] : List UInt8) ++ l4 ++ ([46] : List UInt8) ++ l5 ++ ([32] : List UInt8)).length + l6.length ≤ 9223372036854775807)) (some (l3 ++ ([32] : List UInt8) ++ l4 ++ ([46] : List UInt8) ++ l5 ++ ([32] : List UInt8) ++ l6)) none) none) (some (l3 ++ ([32] : List UInt8) ++ l4 ++ ([46] : List UInt8) ++ l5))) none) none) (br (decide (n0 = 10)) (br (decide ((l3 ++ ([32] : List UInt8) ++ l4).length + 1 ≤ 9223372036854775807)) (bnd1 (s_rword N n1 x2) fun l7 => br (decide ((l3 ++ ([32] : List UInt8) ++ l4 ++ ([46] : List UInt8)).length + l7.length ≤ 9223372036854775807)) (br (!decide (n2 = 0)) (br (decide ((l3 ++ ([32] : List UInt8) ++ l4 ++ ([46] : List UInt8) ++ l7).length + 1 ≤ 9223372036854775807)) (bnd1 (s_rword N n2 x3) fun l8 => br (decide ((l3 ++ ([32] : List UInt8) ++ l4 ++ ([46] : List UInt8) ++ l7 ++ ([32] : List UInt8)).length + l8.length ≤ 9223372036854775807)) (some (l3 ++ ([32] : List UInt8) ++ l4 ++ ([46] : List UInt8) ++ l7 ++ ([32] : List UInt8) ++ l8)) none) none) (some (l3 ++ ([32] : List UInt8) ++ l4 ++ ([46] : List UInt8) ++ l7))) none) none) (br (decide ((l3 ++ ([32] : List UInt8) ++ l4).length + 1 ≤ 9223372036854775807)) (bnd1 (s_rword N n1 x2) fun l9 => br (decide ((l3 ++ ([32] : List UInt8) ++ l4 ++ ([32] : List UInt8)).length + l9.length ≤ 9223372036854775807)) (br (!decide (n2 = 0)) (br (decide ((l3 ++ ([32] : List UInt8) ++ l4 ++ ([32] : List UInt8) ++ l9).length + 1 ≤ 9223372036854775807)) (bnd1 (s_rword N n2 x3) fun l10 => br (decide ((l3 ++ ([32] : List UInt8) ++ l4 ++ ([32] : List UInt8) ++ l9 ++ ([32] : List UInt8)).length + l10.length ≤ 9223372036854775807)) (some (l3 ++ ([32] : List UInt8) ++ l4 ++ ([32] : List UInt8) ++ l9 ++ ([32] : List UInt8) ++ l10)) none) none) (some (l3 ++ ([32] : List UInt8) ++ l4 ++ ([32] : List UInt8) ++ l9))) none) none))) (br (!decide (n2 = 0)) (br (decide ((l3 ++ ([32] : List UInt8) ++ l4).length + 1 ≤ 9223372036854775807)) (bnd1 (s_rword N n2 x3) fun l11 => br (decide ((l3 ++ ([32] : List UInt8) ++ l4 ++ ([32] : List UInt8)).length + l11.length ≤ 9223372036854775807)) (some (l3 ++ ([32] : List UInt8) ++ l4 ++ ([32] : List UInt8) ++ l11)) none) none) (some (l3 ++ ([32] : List UInt8) ++ l4)))) none) none) (br (!decide (n1 = 0)) (br (decide (n0 = 5)) (br (decide (l3.length + 1 ≤ 9223372036854775807)) (bnd1 (s_rword N n1 x2) fun l12 => br (decide ((l3 ++ ([46] : List UInt8)).length + l12.length ≤ 9223372036854775807)) (br (!decide (n2 = 0)) (br (decide ((l3 ++ ([46] : List UInt8) ++ l12).length + 1 ≤ 9223372036854775807)) (bnd1 (s_rword N n2 x3) fun l13 => br (decide ((l3 ++ ([46] : List UInt8) ++ l12 ++ ([32] : List UInt8)).length + l13.length ≤ 9223372036854775807)) (some (l3 ++ ([46] : List UInt8) ++ l12 ++ ([32] : List UInt8) ++ l13)) none) none) (some (l3 ++ ([46] : List UInt8) ++ l12))) none) none) (br (decide (n0 = 10)) (br (decide (l3.length + 1 ≤ 9223372036854775807)) (bnd1 (s_rword N n1 x2) fun l14 => br (decide ((l3 ++ ([46] : List UInt8)).length + l14.length ≤ 9223372036854775807)) (br (!decide (n2 = 0)) (br (decide ((l3 ++ ([46] : List UInt8) ++ l14).length + 1 ≤ 9223372036854775807)) (bnd1 (s_rword N n2 x3) fun l15 => br (decide ((l3 ++ ([46] : List UInt8) ++ l14 ++ ([32] : List UInt8)).length + l15.length ≤ 9223372036854775807)) (some (l3 ++ ([46] : List UInt8) ++ l14 ++ ([32] : List UInt8) ++ l15)) none) none) (some (l3 ++ ([46] : List UInt8) ++ l14))) none) none) (br (decide (l3.length + 1 ≤ 9223372036854775807)) (bnd1 (s_rword N n1 x2) fun l16 => br (decide ((l3 ++ ([32] : List UInt8)).length + l16.length ≤ 9223372036854775807)) (br (!decide (n2 = 0)) (br (decide ((l3 ++ ([32] : List UInt8) ++ l16).length + 1 ≤ 9223372036854775807)) (bnd1 (s_rword N n2 x3) fun l17 => br (decide ((l3 ++ ([32] : List UInt8) ++ l16 ++ ([32] : List UInt8)).length + l17.length ≤ 9223372036854775807)) (some (l3 ++ ([32] : List UInt8) ++ l16 ++ ([32] : List UInt8) ++ l17)) none) none) (some (l3 ++ ([32] : List UInt8) ++ l16))) none) none))) (br (!decide (n2 = 0)) (br (decide (l3.length + 1 ≤ 9223372036854775807)) (bnd1 (s_rword N n2 x3) fun l18 => br (decide ((l3 ++ ([32] : List UInt8)).length + l18.length ≤ 9223372036854775807)) (some (l3 ++ ([32] : List UInt8) ++ l18)) none) none) (some l3)))
noncomputable def cx_rline (N : Nat) : Cx := { T := T, isPure := tabP [⟨35, e_rForms (s_rForms N)⟩, ⟨59, e_rName (s_rName N)⟩, ⟨60, e_rword (s_rword N)⟩], pureK := fun g ds K => tabK [⟨35, e_rForms (s_rForms N)⟩, ⟨59, e_rName (s_rName N)⟩, ⟨60, e_rword (s_rword N)⟩] g ds K, memK := fun g dst ds m K => tabMK [] g dst ds m K, meth := tabM [], keep := fun _ => [], keepX := fun _ => [], loopT := fun _ _ _ _ => none, jumps := 9 }
theorem s_rline_ok (N : Nat) (x0 : Int) (x1 : Int) (x2 : Int) (x3 : Int) : bodyK (cx_rline N) Tryd.f44 [.agg [.v (.int .i64 x0) .no, .v (.int .i64 x1) .no, .v (.int .i64 x2) .no, .v (.int .i64 x3) .no]] [] r_rline = s_rline N x0 x1 x2 x3 := by
  kernel_rfl
theorem go_rline : Goes Tryd.prog 44 := goes_of Tryd.func44 (by kernel_rfl) (c := bodyOf Tryd.f44) (by kernel_rfl)
theorem eo_rline (s : Int → Int → Int → Int → Option (List UInt8)) (hs : ∀ (x0 : Int) (x1 : Int) (x2 : Int) (x3 : Int) (r0 : List UInt8), s x0 x1 x2 x3 = some r0 → PureRet Tryd.prog T 44 [.agg [.v (.int .i64 x0) .no, .v (.int .i64 x1) .no, .v (.int .i64 x2) .no, .v (.int .i64 x3) .no]] [.v (.str r0) .no]) : EntOK Tryd.prog T ⟨44, e_rline s⟩ := by
  refine ⟨go_rline, fun R ds K r h => ?_, fun R ds K => ?_⟩
  · simp only [e_rline] at h
    split at h
    · obtain ⟨r0, h1, h2⟩ := bnd1_some h
      exact ⟨_, h2, hs _ _ _ _ _ h1⟩
    · cases h
  · simp only [e_rline]
    split
    · rw [bnd1_b]; rfl
    · rfl
theorem co_rline (N : Nat) : CxOK Tryd.prog (cx_rline N) :=
  cxOK_of2 (es := [⟨35, e_rForms (s_rForms N)⟩, ⟨59, e_rName (s_rName N)⟩, ⟨60, e_rword (s_rword N)⟩]) (me := []) (ms := []) T_ok ⟨eo_rForms _ (p_rForms N), eo_rName _ (p_rName N), eo_rword _ (p_rword N), trivial⟩ trivial trivial rfl (fun _ _ _ _ => rfl) (fun _ _ _ _ _ _ => rfl) rfl
theorem lo_rline (N : Nat) : LoopsOK (cx_rline N) Tryd.f44.ntmps (bodyOf Tryd.f44) :=
  loopsOK_of (k := 0) (by kernel_rfl) trivial
theorem p_rline (N : Nat) (x0 : Int) (x1 : Int) (x2 : Int) (x3 : Int) (r0 : List UInt8) (h : s_rline N x0 x1 x2 x3 = some r0) : PureRet Tryd.prog T 44 [.agg [.v (.int .i64 x0) .no, .v (.int .i64 x1) .no, .v (.int .i64 x2) .no, .v (.int .i64 x3) .no]] [.v (.str r0) .no] :=
  pure_of (cx := cx_rline N) (by kernel_rfl) (co_rline N) Tryd.func44 (by kernel_rfl) (by kernel_rfl) (lo_rline N) rfl rfl rfl (rf := r_rline) ((s_rline_ok N x0 x1 x2 x3).trans h) (fun rs' m h => by
    unfold r_rline at h
    split at h
    · cases h; exact ⟨rfl, rfl⟩
    · cases h)
noncomputable def e_rText {R : Type} (s : List V → Option (List UInt8)) (ds : List D) (K : List D → Option R) : Option R :=
  match ds with
  | [.v (.sl 23 x0) .no] => bnd1 (s x0) fun r0 => K [.v (.str r0) .no]
  | _ => none
noncomputable def r_rText (rs : List D) (_ : Mem) : Option (List UInt8) :=
  match rs with
  | [.v (.str r0) _] => some (r0)
  | _ => none
noncomputable def F_rText_6 {R : Type} (N : Nat) (vs0 : List V) (Lq : List UInt8 → Int → Option R) (K0 : List UInt8 → Option R) (l1 : List UInt8) (n2 : Int) : Option R := br (decide (n2 < (↑vs0.length : Int))) (br (decide (0 ≤ n2) && decide (n2 < (↑vs0.length : Int))) (at? vs0 n2.toNat fun x0 => x0.unAgg fun l1_1 => unCons l1_1 fun x2 l3 => V.unInt IntKind.i64 x2 fun n4 => unCons l3 fun x5 l6 => V.unInt IntKind.i64 x5 fun n7 => unCons l6 fun x8 l9 => V.unInt IntKind.i64 x8 fun n10 => unCons l9 fun x11 l12 => V.unInt IntKind.i64 x11 fun n13 => unNil l12 (bnd1 (s_rline N n4 n7 n10 n13) fun l14 => br (decide (l1.length + l14.length ≤ 9223372036854775807)) (br (decide ((l1 ++ l14).length + 1 ≤ 9223372036854775807)) (Lq (l1 ++ l14 ++ ([10] : List UInt8)) (IntKind.i64.wrap (n2 + 1))) none) none)) none) (K0 l1)
noncomputable def S_rText_6 {R : Type} (N : Nat) (vs0 : List V) : Nat → List UInt8 → Int → (List UInt8 → Option R) → Option R | 0, _, _, _ => none | t + 1, l1, n2, K0 => F_rText_6 N vs0 (fun l1 n2 => S_rText_6 N vs0 t l1 n2 K0) K0 l1 n2
noncomputable def l_rText_6 {R : Type} (N : Nat) (ds : List D) (m : Mem) (K : Ex → List D → Mem → Option R) : Option R :=
  match ds, m with
  | [(.v (.sl 23 vs0) .no), (.v (.str l1) .no), (.v (.int .i64 n2) .no)], [[]] => S_rText_6 N vs0 N l1 n2 (fun a0 => K (.exit 0) [(.v (.str a0) .no)] [[]])
  | _, _ => none
noncomputable def s_rText (N : Nat) (x0 : List V) : Option (List UInt8) := bnd2 (s_rEncode N x0) fun l0 n1 => br (!decide (n1 = 0)) (some []) (S_rText_6 N x0 N [] 0 fun l2 => some l2)
noncomputable def cx_rText (N : Nat) : Cx := { T := T, isPure := tabP [⟨16, e_rEncode (s_rEncode N)⟩, ⟨44, e_rline (s_rline N)⟩], pureK := fun g ds K => tabK [⟨16, e_rEncode (s_rEncode N)⟩, ⟨44, e_rline (s_rline N)⟩] g ds K, memK := fun g dst ds m K => tabMK [] g dst ds m K, meth := tabM [], keep := fun r => match r with | 6 => [0, 5, 6] | _ => [], keepX := fun r => match r with | 6 => [5] | _ => [], loopT := fun r ds m K => match r with | 6 => l_rText_6 N ds m K | _ => none, jumps := 9 }
theorem F_rText_6_ok {R : Type} (N : Nat) (vs0 : List V) (l1 : List UInt8) (n2 : Int) (L : List D → Mem → Option R) (K : Ex → List D → Mem → Option R) :
    roundK (fun st K => codeK (cx_rText N) (loopN Tryd.f19 0) st K) 29 [0, 5, 6] [5] L [(.v (.sl 23 vs0) .no), (.v (.str l1) .no), (.v (.int .i64 n2) .no)] [[]] K = F_rText_6 N vs0 (fun l1 n2 => L [(.v (.sl 23 vs0) .no), (.v (.str l1) .no), (.v (.int .i64 n2) .no)] [[]]) (fun a0 => K (.exit 0) [(.v (.str a0) .no)] [[]]) l1 n2 := by
  kernel_rfl
theorem S_rText_6_ok {R : Type} (N : Nat) (vs0 : List V) (K : Ex → List D → Mem → Option R) : ∀ (t : Nat) (l1 : List UInt8) (n2 : Int),
    loopK (fun st K => codeK (cx_rText N) (loopN Tryd.f19 0) st K) 29 [0, 5, 6] [5] t [(.v (.sl 23 vs0) .no), (.v (.str l1) .no), (.v (.int .i64 n2) .no)] [[]] K = S_rText_6 N vs0 t l1 n2 (fun a0 => K (.exit 0) [(.v (.str a0) .no)] [[]])
  | 0, l1, n2 => rfl
  | t + 1, l1, n2 => (F_rText_6_ok N vs0 l1 n2 _ K).trans (congrArg (fun L => F_rText_6 N vs0 L (fun a0 => K (.exit 0) [(.v (.str a0) .no)] [[]]) l1 n2) (funext fun l1 => funext fun n2 => S_rText_6_ok N vs0 K t l1 n2))
theorem s_rText_ok (N : Nat) (x0 : List V) : bodyK (cx_rText N) Tryd.f19 [.v (.sl 23 x0) .no] [] r_rText = s_rText N x0 := by
  kernel_rfl
theorem go_rText : Goes Tryd.prog 19 := goes_of Tryd.func19 (by kernel_rfl) (c := bodyOf Tryd.f19) (by kernel_rfl)
theorem eo_rText (s : List V → Option (List UInt8)) (hs : ∀ (x0 : List V) (r0 : List UInt8), s x0 = some r0 → PureRet Tryd.prog T 19 [.v (.sl 23 x0) .no] [.v (.str r0) .no]) : EntOK Tryd.prog T ⟨19, e_rText s⟩ := by
  refine ⟨go_rText, fun R ds K r h => ?_, fun R ds K => ?_⟩
  · simp only [e_rText] at h
    split at h
    · obtain ⟨r0, h1, h2⟩ := bnd1_some h
      exact ⟨_, h2, hs _ _ h1⟩
    · cases h
  · simp only [e_rText]
    split
    · rw [bnd1_b]; rfl
    · rfl
theorem co_rText (N : Nat) : CxOK Tryd.prog (cx_rText N) :=
  cxOK_of2 (es := [⟨16, e_rEncode (s_rEncode N)⟩, ⟨44, e_rline (s_rline N)⟩]) (me := []) (ms := []) T_ok ⟨eo_rEncode _ (p_rEncode N), eo_rline _ (p_rline N), trivial⟩ trivial trivial rfl (fun _ _ _ _ => rfl) (fun _ _ _ _ _ _ => rfl) rfl
theorem lk_rText_6 (N : Nat) : LoopOK (cx_rText N) 29 (loopN Tryd.f19 0) := by
  refine loopOK_of (rid := 6) (by kernel_rfl) rfl rfl fun R ds m K r h => ?_
  have h : l_rText_6 N ds m K = some r := h
  unfold l_rText_6 at h
  split at h
  · exact ⟨N, Eq.trans (S_rText_6_ok ..) h⟩
  · cases h
theorem lo_rText (N : Nat) : LoopsOK (cx_rText N) Tryd.f19.ntmps (bodyOf Tryd.f19) :=
  loopsOK_of (k := 1) (by kernel_rfl) ⟨trivial, lk_rText_6 N⟩
theorem p_rText (N : Nat) (x0 : List V) (r0 : List UInt8) (h : s_rText N x0 = some r0) : PureRet Tryd.prog T 19 [.v (.sl 23 x0) .no] [.v (.str r0) .no] :=
  pure_of (cx := cx_rText N) (by kernel_rfl) (co_rText N) Tryd.func19 (by kernel_rfl) (by kernel_rfl) (lo_rText N) rfl rfl rfl (rf := r_rText) ((s_rText_ok N x0).trans h) (fun rs' m h => by
    unfold r_rText at h
    split at h
    · cases h; exact ⟨rfl, rfl⟩
    · cases h)
end Go.Proofs.YtjpmogajlnkihaaDoor.En

/- The printed functions, together. -/

/- Which instructions are valid: the program and the reference. -/
namespace Go.Proofs.YtjpmogajlnkihaaDoor.En
open Go
set_option linter.unusedVariables false
section
variable (N : Nat) {R : Type}
theorem formOf_tab : ∀ k : Fin 54, s_formOf 0 (k.val : Int) = some (fA (k.val : Int), fB (k.val : Int), fC (k.val : Int)) := by decide +kernel
theorem rForms_tab : ∀ k : Fin 54, s_rForms 0 (k.val : Int) = some (fA (k.val : Int), fB (k.val : Int), fC (k.val : Int)) := by decide +kernel
theorem formOf_eq {op : Int} (h0 : 0 ≤ op) (h1 : op < 54) : s_formOf N op = some (fA op, fB op, fC op) :=
  each54 (P := fun op => s_formOf 0 op = some (fA op, fB op, fC op)) formOf_tab h0 h1
theorem rForms_eq {op : Int} (h0 : 0 ≤ op) (h1 : op < 54) : s_rForms N op = some (fA op, fB op, fC op) :=
  each54 (P := fun op => s_rForms 0 op = some (fA op, fB op, fC op)) rForms_tab h0 h1
theorem limits_eq (f p : Int) : s_limits N f p = some (lim f p) := by
  unfold s_limits lim
  simp only [br_dec, apply_ite some]
theorem rlimits_eq {f : Int} (p : Int) (h5 : f ≠ 5) : s_rlimits N f p = some (lim f p) := by
  by_cases c6 : f = 6
  · subst c6
    by_cases hp : p = 255
    · subst hp; rfl
    · have e : lim 6 p = (0, 31) := by
        show (if p = 255 then ((0 : Int), (1 : Int)) else (0, 31)) = _
        rw [if_neg hp]
      rw [e]
      show br (decide (p = 255)) (some (0, 1)) (some (0, 31)) = _
      rw [br_dec, if_neg hp]
  unfold s_rlimits lim
  simp only [br_dec, apply_ite some, h5, c6, if_false]
theorem oe_two {f n p : Int} (h0 : f ≠ 0) (a : n < (lim f p).1 ∨ (lim f p).2 < n) (c : ¬ (f = 5 ∧ n = 255)) : oe f n p = 2 := by
  unfold oe; rw [if_neg h0, if_pos ⟨a, c⟩]
theorem oe_zero {f n p : Int} (h0 : f ≠ 0) (h : ¬ ((n < (lim f p).1 ∨ (lim f p).2 < n) ∧ ¬ (f = 5 ∧ n = 255))) : oe f n p = 0 := by
  unfold oe; rw [if_neg h0, if_neg h]
theorem oe_five {n p : Int} : oe 5 n p = if (n < 0 ∨ 4 < n) ∧ n ≠ 255 then 2 else 0 := by
  have e : lim 5 p = (0, 4) := rfl
  unfold oe
  rw [if_neg (by decide), e]
  simp
theorem roperand_eq (f n p : Int) : s_roperand N f n p = some (oe f n p) := by
  unfold s_roperand
  simp only [br_dec, br_not]
  by_cases c0 : f = 0
  · subst c0
    unfold oe
    rw [if_pos rfl, if_pos rfl, apply_ite some]
  rw [if_neg c0]
  by_cases c5 : f = 5
  · subst c5
    rw [if_pos rfl, oe_five]
    by_cases c : n = 255
    · subst c; rfl
    by_cases a : 0 ≤ n
    · by_cases b : n ≤ 4
      · rw [if_pos a, if_pos b, if_neg (by omega)]
      · rw [if_pos a, if_neg b, if_neg c, if_pos (by omega)]
    · rw [if_neg a, if_neg c, if_pos (by omega)]
  rw [if_neg c5, rlimits_eq N p c5]
  show (if n < (lim f p).1 then some 2 else if (lim f p).2 < n then some 2 else some 0) = _
  by_cases a : n < (lim f p).1
  · rw [if_pos a, oe_two c0 (Or.inl a) fun h => c5 h.1]
  rw [if_neg a]
  by_cases b : (lim f p).2 < n
  · rw [if_pos b, oe_two c0 (Or.inr b) fun h => c5 h.1]
  · rw [if_neg b, oe_zero c0 fun h => h.1.elim a b]
theorem oe_pack {f : Int} (n p q : Int) (h : f ≠ 6) : oe f n p = oe f n q := by
  unfold oe lim
  simp only [h, if_false]
theorem fA_six {op : Int} (h0 : 0 ≤ op) (h1 : op < 54) : fA op ≠ 6 :=
  each54 (P := fun op => fA op ≠ 6) (by decide +kernel) h0 h1
theorem rCheck_eq (i : In) : s_rCheck N i.op i.a i.b i.c = some (chk i) := by
  unfold s_rCheck chk
  simp only [br_dec]
  by_cases h0 : i.op < 0
  · rw [if_pos h0, if_pos h0]
  rw [if_neg h0, if_neg h0]
  by_cases h1 : 54 ≤ i.op
  · rw [if_pos h1, if_pos h1]
  rw [if_neg h1, if_neg h1, rForms_eq N (by omega) (by omega), bnd3_mk]
  simp only [roperand_eq, bnd1_mk]
  rw [oe_pack i.a 0 i.a (fA_six (by omega) (by omega))]
  by_cases a : oe (fA i.op) i.a i.a = 0
  · rw [if_pos a, if_pos a]
    by_cases b : oe (fB i.op) i.b i.a = 0
    · rw [if_pos b, if_pos b]
    · rw [if_neg b, if_neg b]
  · rw [if_neg a, if_neg a, if_neg a]
noncomputable def stO (f n p : Int) (K0 : Int → Option R) (L : Option R) : Option R :=
  br (decide (f = 0)) (br (!decide (n = 0)) (K0 4) L) (bnd2 (s_limits N f p) fun lo hi =>
    br (decide (n < lo)) (br (decide (f = 5)) (br (!decide (n = 255)) (K0 2) L) (K0 2)) (br (decide (hi < n)) (br (decide (f = 5)) (br (!decide (n = 255)) (K0 2) L) (K0 2)) L))
theorem stO_eq (f n p : Int) (K0 : Int → Option R) (L : Option R) : stO N f n p K0 L = if oe f n p = 0 then L else K0 (oe f n p) := by
  unfold stO
  rw [limits_eq]
  simp only [br_dec, br_not]
  by_cases c0 : f = 0
  · subst c0
    rw [if_pos rfl]
    unfold oe
    rw [if_pos rfl]
    by_cases c : n = 0
    · rw [if_pos c, if_pos c, if_pos rfl]
    · rw [if_neg c, if_neg c, if_neg (by decide)]
  rw [if_neg c0]
  show (if n < (lim f p).1 then (if f = 5 then (if n = 255 then L else K0 2) else K0 2) else if (lim f p).2 < n then (if f = 5 then (if n = 255 then L else K0 2) else K0 2) else L) = _
  by_cases a : n < (lim f p).1 ∨ (lim f p).2 < n
  · have e : (if n < (lim f p).1 then (if f = 5 then (if n = 255 then L else K0 2) else K0 2) else if (lim f p).2 < n then (if f = 5 then (if n = 255 then L else K0 2) else K0 2) else L) = (if f = 5 then (if n = 255 then L else K0 2) else K0 2) := by
      by_cases a1 : n < (lim f p).1
      · rw [if_pos a1]
      · rw [if_neg a1, if_pos (a.resolve_left a1)]
    rw [e]
    by_cases c : f = 5 ∧ n = 255
    · rw [if_pos c.1, if_pos c.2, oe_zero c0 (fun h => h.2 c), if_pos rfl]
    · rw [oe_two c0 a c, if_neg (show ¬ (2 : Int) = 0 by decide)]
      by_cases c1 : f = 5
      · rw [if_pos c1, if_neg (fun h => c ⟨c1, h⟩)]
      · rw [if_neg c1]
  · rw [if_neg (fun h => a (Or.inl h)), if_neg (fun h => a (Or.inr h)), oe_zero c0 (fun h => a h.1), if_pos rfl]
theorem cCheck_eq (hN : 10 < N) (i : In) : s_cCheck N i.op i.a i.b i.c = some (chk i) := by
  obtain ⟨t, ht⟩ : ∃ t, N = t + 4 := ⟨N - 4, by omega⟩
  unfold s_cCheck chk
  simp only [br_dec]
  by_cases h0 : i.op < 0
  · rw [if_pos h0, if_pos h0]
  rw [if_neg h0, if_neg h0]
  by_cases h1 : 54 ≤ i.op
  · rw [if_pos h1, if_pos h1]
  rw [if_neg h1, if_neg h1, formOf_eq N (by omega) (by omega)]
  show S_cCheck_5 N (fA i.op) (fB i.op) (fC i.op) i.op i.a i.b i.c i.a i.b i.c N 0 (fun n6 => some n6) (some 0) = _
  have e3 : ∀ u, S_cCheck_5 N (fA i.op) (fB i.op) (fC i.op) i.op i.a i.b i.c i.a i.b i.c (u + 1) 3 (fun n6 => some n6) (some 0) = some 0 := fun u => id rfl
  have e2 : ∀ u, S_cCheck_5 N (fA i.op) (fB i.op) (fC i.op) i.op i.a i.b i.c i.a i.b i.c (u + 1) 2 (fun n6 => some n6) (some 0) = stO N (fC i.op) i.c i.a (fun n6 => some n6) (S_cCheck_5 N (fA i.op) (fB i.op) (fC i.op) i.op i.a i.b i.c i.a i.b i.c u 3 (fun n6 => some n6) (some 0)) := fun u => id rfl
  have e1 : ∀ u, S_cCheck_5 N (fA i.op) (fB i.op) (fC i.op) i.op i.a i.b i.c i.a i.b i.c (u + 1) 1 (fun n6 => some n6) (some 0) = stO N (fB i.op) i.b i.a (fun n6 => some n6) (S_cCheck_5 N (fA i.op) (fB i.op) (fC i.op) i.op i.a i.b i.c i.a i.b i.c u 2 (fun n6 => some n6) (some 0)) := fun u => id rfl
  have e0 : ∀ u, S_cCheck_5 N (fA i.op) (fB i.op) (fC i.op) i.op i.a i.b i.c i.a i.b i.c (u + 1) 0 (fun n6 => some n6) (some 0) = stO N (fA i.op) i.a i.a (fun n6 => some n6) (S_cCheck_5 N (fA i.op) (fB i.op) (fC i.op) i.op i.a i.b i.c i.a i.b i.c u 1 (fun n6 => some n6) (some 0)) := fun u => id rfl
  have key : ∀ u, S_cCheck_5 N (fA i.op) (fB i.op) (fC i.op) i.op i.a i.b i.c i.a i.b i.c (u + 4) 0 (fun n6 => some n6) (some 0) = some (if oe (fA i.op) i.a i.a = 0 then (if oe (fB i.op) i.b i.a = 0 then oe (fC i.op) i.c i.a else oe (fB i.op) i.b i.a) else oe (fA i.op) i.a i.a) := by
    intro u
    rw [e0, e1, e2, e3, stO_eq, stO_eq, stO_eq]
    by_cases a : oe (fA i.op) i.a i.a = 0
    · rw [if_pos a, if_pos a]
      by_cases b : oe (fB i.op) i.b i.a = 0
      · rw [if_pos b, if_pos b]
        by_cases c : oe (fC i.op) i.c i.a = 0
        · rw [if_pos c, c]
        · rw [if_neg c]
      · rw [if_neg b, if_neg b]
    · rw [if_neg a, if_neg a]
  have := key t
  rw [← ht] at this
  exact this
end
end Go.Proofs.YtjpmogajlnkihaaDoor.En

/- Instructions encoded: the program and the reference. -/
namespace Go.Proofs.YtjpmogajlnkihaaDoor.En
open Go
set_option linter.unusedVariables false
def iV (i : In) : V := .agg [.int .i64 i.op, .int .i64 i.a, .int .i64 i.b, .int .i64 i.c]
def iE : List In → List V
  | [] => []
  | i :: l => iV i :: iE l
theorem iE_len : ∀ l : List In, (iE l).length = l.length
  | [] => rfl
  | r :: l => by simp [iE, iE_len l]
theorem iE_append : ∀ a b : List In, iE (a ++ b) = iE a ++ iE b
  | [], b => rfl
  | r :: a, b => by simp [iE, iE_append a b]
theorem midV (pre : List V) (x : V) (suf : List V) : pre ++ x :: suf = (pre ++ [x]) ++ suf := by simp
theorem stepV (pre : List V) (x : V) (suf : List V) (h : pre.length + (suf.length + 1) ≤ 9223372036854775807) :
    (pre.length : Int) < ((pre ++ x :: suf).length : Int) ∧ (0 : Int) ≤ pre.length ∧ IntKind.i64.wrap ((pre.length : Int) + 1) = ((pre ++ [x]).length : Int) := by
  refine ⟨by simp; omega, by omega, ?_⟩
  rw [w64 (by omega) (by omega)]; simp
theorem endV (pre : List V) : ¬ ((pre.length : Int) < ((pre ++ ([] : List V)).length : Int)) := by simp
theorem shr16 (a : Int) : shrI .i64 a 16 = a / 65536 := by
  show a.fdiv (2 ^ (min (16 : Int).toNat 64)) = _
  exact fdiv_pos a 65536 (by omega)
theorem shr24 (a : Int) : shrI .i64 a 24 = a / 16777216 := by
  show a.fdiv (2 ^ (min (24 : Int).toNat 64)) = _
  exact fdiv_pos a 16777216 (by omega)
theorem shr8u (a : Int) : shrI .u32 a 8 = a / 256 := by
  show a.fdiv (2 ^ (min (8 : Int).toNat 32)) = _
  exact fdiv_pos a 256 (by omega)
theorem shr16u (a : Int) : shrI .u32 a 16 = a / 65536 := by
  show a.fdiv (2 ^ (min (16 : Int).toNat 32)) = _
  exact fdiv_pos a 65536 (by omega)
theorem shr24u (a : Int) : shrI .u32 a 24 = a / 16777216 := by
  show a.fdiv (2 ^ (min (24 : Int).toNat 32)) = _
  exact fdiv_pos a 16777216 (by omega)
theorem wu32 (n : Int) : IntKind.u32.wrap n = n % 4294967296 := IntKind.wrap_u32 n
theorem byteI_def (n : Int) : UInt8.ofNat (n % 256).toNat = byteI n := id rfl
theorem byteI_cong {a b : Int} (h : a % 256 = b % 256) : byteI a = byteI b := by unfold byteI; rw [h]
section
variable (N : Nat) {R : Type}
noncomputable def stE (f n : Int) (l0 : List UInt8) (L : List UInt8 → Option R) : Option R :=
  br (decide (f = 0)) (L l0) (br (decide (f = 1))
    (br (decide ((l0.length + [UInt8.ofNat (IntKind.u8.wrap (shrI IntKind.i64 n 24)).toNat, UInt8.ofNat (IntKind.u8.wrap (shrI IntKind.i64 n 16)).toNat, UInt8.ofNat (IntKind.u8.wrap (shrI IntKind.i64 n 8)).toNat, UInt8.ofNat (IntKind.u8.wrap n).toNat].length) * 1 ≤ 140737488355328))
      (L (l0 ++ [UInt8.ofNat (IntKind.u8.wrap (shrI IntKind.i64 n 24)).toNat, UInt8.ofNat (IntKind.u8.wrap (shrI IntKind.i64 n 16)).toNat, UInt8.ofNat (IntKind.u8.wrap (shrI IntKind.i64 n 8)).toNat, UInt8.ofNat (IntKind.u8.wrap n).toNat])) none)
    (br (decide ((l0.length + [UInt8.ofNat (IntKind.u8.wrap n).toNat].length) * 1 ≤ 140737488355328)) (L (l0 ++ [UInt8.ofNat (IntKind.u8.wrap n).toNat])) none))
theorem stE_eq (f n : Int) (l0 : List UInt8) (L : List UInt8 → Option R) (h : l0.length ≤ 1000000) : stE f n l0 L = L (l0 ++ encO f n) := by
  unfold stE encO
  simp only [br_dec, wu8, shr8, shr16, shr24, byteI_def]
  by_cases c0 : f = 0
  · rw [if_pos c0, if_pos c0, List.append_nil]
  rw [if_neg c0, if_neg c0]
  by_cases c1 : f = 1
  · rw [if_pos c1, if_pos c1, if_pos (by simp; omega)]
  · rw [if_neg c1, if_neg c1, if_pos (by simp; omega)]
theorem encO_le (f n : Int) : (encO f n).length ≤ 4 := by
  rw [encO_len]; unfold wid
  split
  · omega
  · split <;> omega
theorem cEnc_in (hN : 10 < N) (vs1 : List V) (n2 n3 f g h m1 m2 m3 m4 a b c : Int) (l0 : List UInt8) (K0 : List UInt8 → Option R) (hl : l0.length ≤ 900000) :
    S_cEncode_13 N vs1 n2 n3 f g h m1 m2 m3 m4 a b c N l0 0 K0 = K0 (l0 ++ (encO f a ++ (encO g b ++ encO h c))) := by
  obtain ⟨t, ht⟩ : ∃ t, N = t + 4 := ⟨N - 4, by omega⟩
  have e3 : ∀ u l, S_cEncode_13 N vs1 n2 n3 f g h m1 m2 m3 m4 a b c (u + 1) l 3 K0 = K0 l := fun u l => id rfl
  have e2 : ∀ u l, S_cEncode_13 N vs1 n2 n3 f g h m1 m2 m3 m4 a b c (u + 1) l 2 K0 = stE h c l fun l => S_cEncode_13 N vs1 n2 n3 f g h m1 m2 m3 m4 a b c u l 3 K0 := fun u l => id rfl
  have e1 : ∀ u l, S_cEncode_13 N vs1 n2 n3 f g h m1 m2 m3 m4 a b c (u + 1) l 1 K0 = stE g b l fun l => S_cEncode_13 N vs1 n2 n3 f g h m1 m2 m3 m4 a b c u l 2 K0 := fun u l => id rfl
  have e0 : ∀ u l, S_cEncode_13 N vs1 n2 n3 f g h m1 m2 m3 m4 a b c (u + 1) l 0 K0 = stE f a l fun l => S_cEncode_13 N vs1 n2 n3 f g h m1 m2 m3 m4 a b c u l 1 K0 := fun u l => id rfl
  have hf := encO_le f a
  have hg := encO_le g b
  have key : ∀ u, S_cEncode_13 N vs1 n2 n3 f g h m1 m2 m3 m4 a b c (u + 4) l0 0 K0 = K0 (l0 ++ (encO f a ++ (encO g b ++ encO h c))) := by
    intro u
    rw [e0, stE_eq _ _ _ _ (by omega), e1, stE_eq _ _ _ _ (by simp; omega), e2, stE_eq _ _ _ _ (by simp; omega), e3]
    simp only [List.append_assoc]
  have := key t
  rw [← ht] at this
  exact this
theorem encI_le (i : In) : (encI i).length ≤ 13 := by
  have h1 := encO_le (fA i.op) i.a
  have h2 := encO_le (fB i.op) i.b
  have h3 := encO_le (fC i.op) i.c
  unfold encI; simp; omega
theorem encAll_le : ∀ l : List In, (encAll l).length ≤ 13 * l.length
  | [] => by simp [encAll]
  | i :: l => by
    have := encI_le i
    have := encAll_le l
    simp [encAll]; omega
theorem cEnc_loop (hN : 10 < N) : ∀ (l : List In) (pre : List V) (t : Nat) (out : List UInt8), l.length < t → pre.length + l.length ≤ 60000 → out.length + 13 * l.length ≤ 800000 →
    S_cEncode_5 N (pre ++ iE l) ((pre ++ iE l).length : Int) t out (pre.length : Int) (fun l0 n1 l2 => some (l0, n1)) (fun l3 => some (l3, 0)) = some (if firstE l = 0 then (out ++ encAll l, (0 : Int)) else ([], firstE l))
  | l, pre, 0, out, ht, _, _ => by omega
  | [], pre, t + 1, out, ht, _, _ => by
    unfold S_cEncode_5 F_cEncode_5
    simp only [iE, br_t, br_f, br_dec, br_not, br_and, br_or, bnd1_mk, bnd2_mk, bnd3_mk, bnd4_mk, bnd5_mk, bnd10_mk, at_zero, at_succ, at_mid, unInt_mk, unBool_mk, unStr_mk, unBytes_mk, unSl_mk, unAgg_mk, unCons_mk, unNil_mk, endV, if_false, firstE, if_true, encAll, List.append_nil]
    simp
  | i :: l, pre, t + 1, out, ht, hl, ho => by
    simp only [List.length_cons] at ht hl ho
    obtain ⟨h1, h2, h3⟩ := stepV pre (iV i) (iE l) (by rw [iE_len]; omega)
    have hb := encI_le i
    have ih := cEnc_loop hN l (pre ++ [iV i]) t (out ++ encI i) (by omega) (by simp; omega) (by simp; omega)
    rw [← midV, ← h3] at ih
    unfold S_cEncode_5 F_cEncode_5
    simp only [iE, br_t, br_f, br_dec, br_not, br_and, br_or, bnd1_mk, bnd2_mk, bnd3_mk, bnd4_mk, bnd5_mk, bnd10_mk, at_zero, at_succ, at_mid, unInt_mk, unBool_mk, unStr_mk, unBytes_mk, unSl_mk, unAgg_mk, unCons_mk, unNil_mk, h1, h2, if_true, Int.toNat_natCast]
    show V.unAgg (iV i) _ = _
    unfold iV
    simp only [br_t, br_f, br_dec, br_not, br_and, br_or, bnd1_mk, bnd2_mk, bnd3_mk, bnd4_mk, bnd5_mk, bnd10_mk, at_zero, at_succ, at_mid, unInt_mk, unBool_mk, unStr_mk, unBytes_mk, unSl_mk, unAgg_mk, unCons_mk, unNil_mk, cCheck_eq N hN i]
    by_cases c : chk i = 0
    · obtain ⟨r0, r1⟩ := chk_range c
      rw [if_pos c, if_pos (by simp; omega), formOf_eq N r0 r1]
      unfold s_operands
      simp only [bnd3_mk]
      rw [cEnc_in N hN _ _ _ _ _ _ _ _ _ _ _ _ _ _ _ (by simp; omega)]
      have e : out ++ [UInt8.ofNat (IntKind.u8.wrap i.op).toNat] ++ (encO (fA i.op) i.a ++ (encO (fB i.op) i.b ++ encO (fC i.op) i.c)) = out ++ encI i := by
        rw [wu8, byteI_def]; unfold encI; simp
      rw [e]
      unfold iV at ih
      rw [ih]
      simp only [firstE, c, if_true, encAll, List.append_assoc]
    · rw [if_neg c]
      simp only [firstE, c, if_false]
theorem cEncode_eq (hN : 10 < N) (l : List In) (hl : l.length < N) (h2 : l.length ≤ 50000) : s_cEncode N (iE l) = some (encL l) := by
  unfold s_cEncode encL
  rw [br_dec, iE_len]
  by_cases c : 256 < l.length
  · rw [if_pos (by omega), if_pos c]
  rw [if_neg (by omega), if_neg c]
  have := cEnc_loop N hN l [] N [] hl (by simpa using by omega) (by simpa using by omega)
  rw [List.nil_append, iE_len] at this
  rw [show ((([] : List V).length : Nat) : Int) = 0 by rfl] at this
  rw [this]
  simp
/-! The reference -/
theorem rnum_eq (f n : Int) (K : List UInt8 → Option R) : (bnd1 (s_rwidth N f) fun w => bnd1 (s_rnumber N n w) K) = K (encO f n) := by
  unfold s_rwidth s_rnumber encO
  simp only [br_dec, wu8, wu32, shr8u, shr16u, shr24u, byteI_def]
  by_cases c0 : f = 0
  · simp only [c0, if_true, bnd1_mk]
  by_cases c1 : f = 1
  · subst c1
    have e1 : byteI (n % 4294967296 / 16777216) = byteI (n / 16777216) := byteI_cong (by omega)
    have e2 : byteI (n % 4294967296 / 65536) = byteI (n / 65536) := byteI_cong (by omega)
    have e3 : byteI (n % 4294967296 / 256) = byteI (n / 256) := byteI_cong (by omega)
    have e4 : byteI (n % 4294967296) = byteI n := byteI_cong (by omega)
    rw [e1, e2, e3, e4]
    rfl
  · simp only [c0, c1, if_false, bnd1_mk]
    rfl
theorem rone_eq {i : In} (h : chk i = 0) : s_rone N i.op i.a i.b i.c = some (encI i) := by
  obtain ⟨r0, r1⟩ := chk_range h
  unfold s_rone
  rw [rForms_eq N r0 r1, bnd3_mk, rnum_eq]
  have h1 := encO_le (fA i.op) i.a
  have h2 := encO_le (fB i.op) i.b
  have h3 := encO_le (fC i.op) i.c
  rw [br_dec, if_pos (by simp; omega), rnum_eq, br_dec, if_pos (by simp; omega), rnum_eq, br_dec, if_pos (by simp; omega)]
  rw [wu8, byteI_def]
  unfold encI
  congr 2
  show (encO (fA i.op) i.a ++ encO (fB i.op) i.b) ++ encO (fC i.op) i.c = _
  rw [List.append_assoc]
theorem rEnc_chk {K0 : List UInt8 → Int → Option R} {K1 : Option R} : ∀ (l : List In) (pre : List V) (t : Nat), l.length < t → pre.length + l.length ≤ 60000 →
    S_rEncode_4 N (pre ++ iE l) t (pre.length : Int) K0 K1 = if firstE l = 0 then K1 else K0 [] (firstE l)
  | l, pre, 0, ht, _ => by omega
  | [], pre, t + 1, ht, _ => by
    unfold S_rEncode_4 F_rEncode_4
    simp only [iE, br_t, br_f, br_dec, br_not, br_and, br_or, bnd1_mk, bnd2_mk, bnd3_mk, bnd4_mk, bnd5_mk, bnd10_mk, at_zero, at_succ, at_mid, unInt_mk, unBool_mk, unStr_mk, unBytes_mk, unSl_mk, unAgg_mk, unCons_mk, unNil_mk, endV, if_false, firstE, if_true]
  | i :: l, pre, t + 1, ht, hl => by
    simp only [List.length_cons] at ht hl
    obtain ⟨h1, h2, h3⟩ := stepV pre (iV i) (iE l) (by rw [iE_len]; omega)
    have ih := rEnc_chk (K0 := K0) (K1 := K1) l (pre ++ [iV i]) t (by omega) (by simp; omega)
    rw [← midV, ← h3] at ih
    unfold S_rEncode_4 F_rEncode_4
    simp only [iE, br_t, br_f, br_dec, br_not, br_and, br_or, bnd1_mk, bnd2_mk, bnd3_mk, bnd4_mk, bnd5_mk, bnd10_mk, at_zero, at_succ, at_mid, unInt_mk, unBool_mk, unStr_mk, unBytes_mk, unSl_mk, unAgg_mk, unCons_mk, unNil_mk, h1, h2, if_true, Int.toNat_natCast]
    show V.unAgg (iV i) _ = _
    unfold iV
    simp only [br_t, br_f, br_dec, br_not, br_and, br_or, bnd1_mk, bnd2_mk, bnd3_mk, bnd4_mk, bnd5_mk, bnd10_mk, at_zero, at_succ, at_mid, unInt_mk, unBool_mk, unStr_mk, unBytes_mk, unSl_mk, unAgg_mk, unCons_mk, unNil_mk, rCheck_eq N i]
    unfold iV at ih
    by_cases c : chk i = 0
    · rw [if_pos c, ih]
      simp only [firstE, c, if_true]
    · rw [if_neg c]
      simp only [firstE, c, if_false]
theorem rEnc_out {K0 : List UInt8 → Option R} : ∀ (l : List In) (pre : List V) (t : Nat) (out : List UInt8), l.length < t → pre.length + l.length ≤ 60000 → out.length + 13 * l.length ≤ 800000 → firstE l = 0 →
    S_rEncode_11 N (pre ++ iE l) t out (pre.length : Int) K0 = K0 (out ++ encAll l)
  | l, pre, 0, out, ht, _, _, _ => by omega
  | [], pre, t + 1, out, ht, _, _, _ => by
    unfold S_rEncode_11 F_rEncode_11
    simp only [iE, br_t, br_f, br_dec, br_not, br_and, br_or, bnd1_mk, bnd2_mk, bnd3_mk, bnd4_mk, bnd5_mk, bnd10_mk, at_zero, at_succ, at_mid, unInt_mk, unBool_mk, unStr_mk, unBytes_mk, unSl_mk, unAgg_mk, unCons_mk, unNil_mk, endV, if_false, encAll, List.append_nil]
    simp
  | i :: l, pre, t + 1, out, ht, hl, ho, hf => by
    simp only [List.length_cons] at ht hl ho
    obtain ⟨f1, f2⟩ := firstE_cons hf
    obtain ⟨h1, h2, h3⟩ := stepV pre (iV i) (iE l) (by rw [iE_len]; omega)
    have hb := encI_le i
    have ih := rEnc_out (K0 := K0) l (pre ++ [iV i]) t (out ++ encI i) (by omega) (by simp; omega) (by simp; omega) f2
    rw [← midV, ← h3] at ih
    unfold S_rEncode_11 F_rEncode_11
    simp only [iE, br_t, br_f, br_dec, br_not, br_and, br_or, bnd1_mk, bnd2_mk, bnd3_mk, bnd4_mk, bnd5_mk, bnd10_mk, at_zero, at_succ, at_mid, unInt_mk, unBool_mk, unStr_mk, unBytes_mk, unSl_mk, unAgg_mk, unCons_mk, unNil_mk, h1, h2, if_true, Int.toNat_natCast]
    show V.unAgg (iV i) _ = _
    unfold iV
    simp only [br_t, br_f, br_dec, br_not, br_and, br_or, bnd1_mk, bnd2_mk, bnd3_mk, bnd4_mk, bnd5_mk, bnd10_mk, at_zero, at_succ, at_mid, unInt_mk, unBool_mk, unStr_mk, unBytes_mk, unSl_mk, unAgg_mk, unCons_mk, unNil_mk, rone_eq N f1]
    unfold iV at ih
    rw [if_pos (by omega), ih]
    simp only [encAll, List.append_assoc]
theorem rEncode_eq (l : List In) (hl : l.length < N) (h2 : l.length ≤ 50000) : s_rEncode N (iE l) = some (encL l) := by
  unfold s_rEncode encL
  rw [br_dec, iE_len]
  by_cases c : 256 < l.length
  · rw [if_pos (by omega), if_pos c]
  rw [if_neg (by omega), if_neg c]
  have h1 := rEnc_chk N (K0 := fun l0 n1 => some (l0, n1)) (K1 := S_rEncode_11 N (iE l) N [] 0 fun l2 => some (l2, 0)) l [] N hl (by simpa using by omega)
  rw [List.nil_append, show ((([] : List V).length : Nat) : Int) = 0 by rfl] at h1
  rw [h1]
  by_cases f : firstE l = 0
  · rw [if_pos f, if_pos f]
    have h3 := rEnc_out N (K0 := fun l2 => some (l2, (0 : Int))) l [] N [] hl (by simpa using by omega) (by simpa using by omega) f
    rw [List.nil_append, show ((([] : List V).length : Nat) : Int) = 0 by rfl] at h3
    rw [h3]; simp
  · rw [if_neg f, if_neg f]
end
end Go.Proofs.YtjpmogajlnkihaaDoor.En

/- Instructions decoded: the program and the reference. -/
namespace Go.Proofs.YtjpmogajlnkihaaDoor.En
open Go
set_option linter.unusedVariables false
theorem ofInt_toNat32 (a : Int) : (BitVec.ofInt IntKind.u32.bits a).toNat = (a % 4294967296).toNat := by
  rw [BitVec.toNat_ofInt]; rfl
/-- a, a multiple of 2^k, or b, less than 2^k. -/
theorem or_add (k q y : Nat) (hy : y < 2 ^ k) (h : q * 2 ^ k + y < 4294967296) : bitsI .or .u32 ((q * 2 ^ k : Nat) : Int) (y : Int) = ((q * 2 ^ k + y : Nat) : Int) := by
  show IntKind.u32.wrap ((BitVec.ofInt IntKind.u32.bits ((q * 2 ^ k : Nat) : Int) ||| BitVec.ofInt IntKind.u32.bits (y : Int)).toNat : Int) = _
  have e1 : (BitVec.ofInt IntKind.u32.bits ((q * 2 ^ k : Nat) : Int)).toNat = q <<< k := by
    rw [ofInt_toNat32, Nat.shiftLeft_eq]; omega
  have e2 : (BitVec.ofInt IntKind.u32.bits (y : Int)).toNat = y := by rw [ofInt_toNat32]; omega
  rw [BitVec.toNat_or, e1, e2, ← Nat.shiftLeft_add_eq_or_of_lt hy, Nat.shiftLeft_eq, wu32]
  omega
theorem shl_u32 (a : Nat) (k : Int) (m : Nat) (hk : 2 ^ (min k.toNat 32) = m) (h : a * m < 4294967296) : shlI .u32 (IntKind.u32.wrap (a : Int)) k = ((a * m : Nat) : Int) := by
  subst hk
  show IntKind.u32.wrap (IntKind.u32.wrap (a : Int) * 2 ^ (min k.toNat 32)) = _
  have hp : 0 < 2 ^ (min k.toNat 32) := Nat.pos_of_ne_zero (by simp)
  have ha : a < 4294967296 := by
    have := Nat.le_mul_of_pos_right a hp
    omega
  rw [wu32 (a : Int), Int.emod_eq_of_lt (by omega) (by omega)]
  have e : ((a : Int) * 2 ^ (min k.toNat 32)) = ((a * 2 ^ (min k.toNat 32) : Nat) : Int) := by push_cast; rfl
  rw [e, wu32]
  omega
def four (w x y z : UInt8) : Int :=
  IntKind.i64.wrap (IntKind.i32.wrap (bitsI BinOp.or IntKind.u32 (bitsI BinOp.or IntKind.u32 (bitsI BinOp.or IntKind.u32 (shlI IntKind.u32 (IntKind.u32.wrap (w.toNat : Int)) 24) (shlI IntKind.u32 (IntKind.u32.wrap (x.toNat : Int)) 16))
    (shlI IntKind.u32 (IntKind.u32.wrap (y.toNat : Int)) 8)) (IntKind.u32.wrap (z.toNat : Int))))
theorem four_eq (w x y z : UInt8) : four w x y z = s32 (16777216 * w.toNat + 65536 * x.toNat + 256 * y.toNat + z.toNat) := by
  have h1 := w.toNat_lt
  have h2 := x.toNat_lt
  have h3 := y.toNat_lt
  have h4 := z.toNat_lt
  unfold four
  rw [shl_u32 w.toNat 24 16777216 (by decide) (by omega), shl_u32 x.toNat 16 65536 (by decide) (by omega), shl_u32 y.toNat 8 256 (by decide) (by omega)]
  have o1 := or_add 24 w.toNat (x.toNat * 65536) (by omega) (by omega)
  rw [show w.toNat * 16777216 = w.toNat * 2 ^ 24 by rfl, o1]
  have o2 := or_add 16 (w.toNat * 256 + x.toNat) (y.toNat * 256) (by omega) (by omega)
  rw [show w.toNat * 2 ^ 24 + x.toNat * 65536 = (w.toNat * 256 + x.toNat) * 2 ^ 16 by omega, o2]
  have e : IntKind.u32.wrap (z.toNat : Int) = (z.toNat : Int) := by rw [wu32]; omega
  rw [e]
  have o3 := or_add 8 (w.toNat * 65536 + x.toNat * 256 + y.toNat) z.toNat (by omega) (by omega)
  rw [show (w.toNat * 256 + x.toNat) * 2 ^ 16 + y.toNat * 256 = (w.toNat * 65536 + x.toNat * 256 + y.toNat) * 2 ^ 8 by omega, o3]
  rw [IntKind.wrap_i32]
  unfold s32
  split
  · rw [w64 (by omega) (by omega)]; omega
  · rw [w64 (by omega) (by omega)]; omega
theorem wi8 (n : Int) : IntKind.i8.wrap n = (n + 128) % 256 - 128 := by
  have : IntKind.i8.bits = 8 := rfl
  simp only [IntKind.wrap, IntKind.signed, this]
  simp
  split <;> omega
theorem s8_eq (u : UInt8) : IntKind.i64.wrap (IntKind.i8.wrap (u.toNat : Int)) = s8 u.toNat := by
  have h := u.toNat_lt
  rw [wi8]
  unfold s8
  split
  · rw [w64 (by omega) (by omega)]; omega
  · rw [w64 (by omega) (by omega)]; omega
section
variable (N : Nat) {R : Type}
theorem wid_le (f : Int) : wid f ≤ 4 := by
  unfold wid
  split
  · omega
  · split <;> omega
theorem operand_eq {f : Int} (hf : f ≠ 0) (l : List UInt8) : s_operand N f l = some (if l.length < wid f then (0, 0) else (valB f l, (wid f : Int))) := by
  unfold s_operand
  simp only [br_dec]
  by_cases c1 : f = 1
  · subst c1
    rw [if_pos rfl, if_pos rfl]
    match l with
    | [] => rfl
    | [_] => rfl
    | [_, _] => rfl
    | [_, _, _] => rfl
    | w :: x :: y :: z :: r =>
      rw [if_pos (by simp <;> omega), if_pos (by simp <;> omega), at_zero, if_pos (by simp <;> omega), at_succ, at_zero, if_pos (by simp <;> omega), at_succ, at_succ, at_zero, if_pos (by simp <;> omega), at_succ, at_succ, at_succ, at_zero]
      have e : ¬ ((w :: x :: y :: z :: r).length < wid 1) := by show ¬ (_ < 4); simp
      have hv : valB 1 (w :: x :: y :: z :: r) = s32 (16777216 * w.toNat + 65536 * x.toNat + 256 * y.toNat + z.toNat) := by unfold valB; rw [if_neg (by decide), if_pos rfl]
      rw [if_neg e, hv, ← four_eq]; rfl
  · rw [if_neg c1, if_neg c1]
    have hw : wid f = 1 := by unfold wid; rw [if_neg hf, if_neg c1]
    rw [hw]
    match l with
    | [] => rfl
    | b :: r =>
      have hv : valB f (b :: r) = if f = 3 then s8 b.toNat else b.toNat := by unfold valB; rw [if_neg hf, if_neg c1]
      have e1 : ¬ ((b :: r).length < 1) := by simp
      have e2 : ¬ (((b :: r).length : Int) = 0) := by simp <;> omega
      rw [if_neg e1, if_neg e2, hv]
      by_cases c3 : f = 3
      · rw [if_pos c3, if_pos c3, if_pos (by simp <;> omega), at_zero, s8_eq]; rfl
      · rw [if_neg c3, if_neg c3, if_pos (by simp <;> omega), at_zero, w64_u8]; rfl
noncomputable def stI (f : Int) (l : List UInt8) (F : Option R) (L : List UInt8 → Int → Option R) : Option R :=
  br (decide (f = 0)) (L l 0) (bnd2 (s_operand N f l) fun x n => br (decide (n = 0)) F (br (decide (0 ≤ n) && decide (n ≤ (l.length : Int))) (L (l.drop n.toNat) x) none))
theorem stI_eq (f : Int) (l : List UInt8) (F : Option R) (L : List UInt8 → Int → Option R) : stI N f l F L = if l.length < wid f then F else L (l.drop (wid f)) (valB f l) := by
  unfold stI
  rw [br_dec]
  by_cases c0 : f = 0
  · subst c0
    rw [if_pos rfl]
    show _ = if l.length < 0 then F else L (l.drop 0) 0
    rw [if_neg (by omega), List.drop_zero]
  rw [if_neg c0, operand_eq N c0]
  by_cases c : l.length < wid f
  · rw [if_pos c, if_pos c]; rfl
  · rw [if_neg c, if_neg c]
    have : 0 < wid f := by unfold wid; rw [if_neg c0]; split <;> omega
    simp only [br_t, br_f, br_dec, br_not, br_and, br_or, bnd1_mk, bnd2_mk, bnd3_mk, bnd4_mk, bnd5_mk, bnd10_mk, at_zero, at_succ, at_mid, unInt_mk, unBool_mk, unStr_mk, unBytes_mk, unSl_mk, unAgg_mk, unCons_mk, unNil_mk]
    rw [if_neg (by omega), if_pos (by omega), if_pos (by omega), Int.toNat_natCast]
def decT (p : In × List UInt8 × Int) : Int × Int × Int × Int × List UInt8 × Int := (p.1.op, p.1.a, p.1.b, p.1.c, p.2.1, p.2.2)
theorem instruction_eq (hN : 10 < N) (b : UInt8) (r : List UInt8) : s_instruction N (b :: r) = some (decT (decI (b :: r))) := by
  obtain ⟨t, ht⟩ : ∃ t, N = t + 4 := ⟨N - 4, by omega⟩
  unfold s_instruction
  rw [br_dec, if_pos (by simp <;> omega), at_zero, w64_u8, br_dec]
  by_cases c : 54 ≤ b.toNat
  · rw [if_pos (by omega)]
    unfold decI
    simp only
    rw [if_pos c]; rfl
  rw [if_neg (by omega), br_dec, if_pos (by simp <;> omega), formOf_eq N (by omega) (by omega), bnd3_mk]
  unfold decI
  simp only
  rw [if_neg c]
  generalize hx : fA (b.toNat : Int) = x
  generalize hy : fB (b.toNat : Int) = y
  generalize hz : fC (b.toNat : Int) = z
  show S_instruction_7 N b.toNat x y z 0 0 0 0 N r 0 0 0 0 _ _ = _
  generalize hK0 : (fun l4 l5 n6 n7 n8 n9 n10 n11 n12 n13 => some (n7, n8, n9, n10, l5, n6) : List UInt8 → List UInt8 → Int → Int → Int → Int → Int → Int → Int → Int → Option (Int × Int × Int × Int × List UInt8 × Int)) = K0
  generalize hK1 : (fun l14 n15 n16 n17 => bnd1 (s_cCheck N (b.toNat : Int) n15 n16 n17) fun n18 => some ((b.toNat : Int), n15, n16, n17, l14, n18) : List UInt8 → Int → Int → Int → Option (Int × Int × Int × Int × List UInt8 × Int)) = K1
  have e3 : ∀ u l p q s, S_instruction_7 N b.toNat x y z 0 0 0 0 (u + 1) l 3 p q s K0 K1 = K1 l p q s := fun u l p q s => id rfl
  have e2 : ∀ u l p q, S_instruction_7 N b.toNat x y z 0 0 0 0 (u + 1) l 2 p q 0 K0 K1 = stI N z l (K0 l [] 5 0 0 0 0 p q 0) fun l v => S_instruction_7 N b.toNat x y z 0 0 0 0 u l 3 p q v K0 K1 := fun u l p q => id rfl
  have e1 : ∀ u l p, S_instruction_7 N b.toNat x y z 0 0 0 0 (u + 1) l 1 p 0 0 K0 K1 = stI N y l (K0 l [] 5 0 0 0 0 p 0 0) fun l v => S_instruction_7 N b.toNat x y z 0 0 0 0 u l 2 p v 0 K0 K1 := fun u l p => id rfl
  have e0 : ∀ u l, S_instruction_7 N b.toNat x y z 0 0 0 0 (u + 1) l 0 0 0 0 K0 K1 = stI N x l (K0 l [] 5 0 0 0 0 0 0 0) fun l v => S_instruction_7 N b.toNat x y z 0 0 0 0 u l 1 v 0 0 K0 K1 := fun u l => id rfl
  have key : ∀ u, S_instruction_7 N b.toNat x y z 0 0 0 0 (u + 4) r 0 0 0 0 K0 K1 = some (decT (if r.length < wid x + wid y + wid z then (⟨0, 0, 0, 0⟩, [], 5) else
      ((⟨b.toNat, valB x r, valB y (r.drop (wid x)), valB z (r.drop (wid x + wid y))⟩ : In), r.drop (wid x + wid y + wid z), chk ⟨b.toNat, valB x r, valB y (r.drop (wid x)), valB z (r.drop (wid x + wid y))⟩))) := by
    intro u
    rw [e0, stI_eq]
    by_cases c1 : r.length < wid x
    · rw [if_pos c1, if_pos (by omega), ← hK0]; rfl
    rw [if_neg c1, e1, stI_eq, List.length_drop]
    by_cases c2 : r.length - wid x < wid y
    · rw [if_pos c2, if_pos (by omega), ← hK0]; rfl
    rw [if_neg c2, e2, stI_eq, List.length_drop, List.length_drop]
    by_cases c3 : r.length - wid x - wid y < wid z
    · rw [if_pos c3, if_pos (by omega), ← hK0]; rfl
    rw [if_neg c3, if_neg (by omega), e3, ← hK1]
    simp only [List.drop_drop]
    rw [show s_cCheck N (b.toNat : Int) (valB x r) (valB y (r.drop (wid x))) (valB z (r.drop (wid x + wid y))) = _ from cCheck_eq N hN ⟨b.toNat, valB x r, valB y (r.drop (wid x)), valB z (r.drop (wid x + wid y))⟩]
    rfl
  have := key t
  rw [← ht] at this
  exact this
theorem decI_len (b : UInt8) (r : List UInt8) : (decI (b :: r)).2.1.length ≤ r.length := by
  unfold decI
  simp only
  split
  · simp
  · split <;> simp
def decV (p : List In × Int) : List V × Int := (iE p.1, p.2)
theorem iV_def (i : In) : V.agg [V.int IntKind.i64 i.op, V.int IntKind.i64 i.a, V.int IntKind.i64 i.b, V.int IntKind.i64 i.c] = iV i := id rfl
theorem iE_snoc (l : List In) (i : In) : iE l ++ [iV i] = iE (l ++ [i]) := by rw [iE_append]; rfl
theorem cDec_loop (hN : 10 < N) : ∀ (t : Nat) (acc : List In) (b : List UInt8), b.length < t → acc.length ≤ 256 →
    S_cDecode_2 N t b (iE acc) (fun l0 n1 l2 => some (l0, n1)) (fun l3 => some (l3, (0 : Int))) = some (decV (decL t acc b))
  | 0, acc, b, ht, _ => by omega
  | t + 1, acc, [], ht, ha => by
    unfold S_cDecode_2 F_cDecode_2 decL
    rw [br_dec, if_neg (by simp)]; rfl
  | t + 1, acc, b :: r, ht, ha => by
    simp only [List.length_cons] at ht
    unfold S_cDecode_2 F_cDecode_2 decL
    rw [br_dec, if_pos (by simp <;> omega), br_dec, iE_len]
    by_cases c : acc.length = 256
    · rw [if_pos (by omega), if_pos c]; rfl
    rw [if_neg (by omega), if_neg c, instruction_eq N hN]
    have hl := decI_len b r
    rcases hd : decI (b :: r) with ⟨i, s, e⟩
    rw [hd] at hl
    unfold decT
    simp only [bnd6_mk, br_not, br_dec]
    by_cases c2 : e = 0
    · rw [if_pos c2, if_pos c2, if_pos (by simp <;> omega), iV_def, iE_snoc]
      exact cDec_loop hN t (acc ++ [i]) s (by simp only at hl; omega) (by simp <;> omega)
    · rw [if_neg c2, if_neg c2]; rfl
theorem cDecode_eq (hN : 10 < N) (b : List UInt8) (h : b.length < N) : s_cDecode N b = some (decV (decL N [] b)) := cDec_loop N hN N [] b h (by simp)
/-! The reference -/
theorem rwidth_eq (f : Int) : s_rwidth N f = some (wid f : Int) := by
  unfold s_rwidth wid
  simp only [br_dec]
  by_cases c0 : f = 0
  · rw [if_pos c0, if_pos c0]; rfl
  rw [if_neg c0, if_neg c0]
  by_cases c1 : f = 1
  · rw [if_pos c1, if_pos c1]; rfl
  · rw [if_neg c1, if_neg c1]; rfl
theorem rvalue_eq (f : Int) (l : List UInt8) (h : wid f ≤ l.length) : s_rvalue N f l = some (valB f l) := by
  unfold s_rvalue
  simp only [br_dec]
  by_cases c0 : f = 0
  · subst c0; rw [if_pos rfl]; rfl
  rw [if_neg c0]
  by_cases c1 : f = 1
  · subst c1
    have h : 4 ≤ l.length := h
    rw [if_pos rfl]
    match l, h with
    | w :: x :: y :: z :: r, _ =>
      rw [if_pos (by simp <;> omega), at_zero, if_pos (by simp <;> omega), at_succ, at_zero, if_pos (by simp <;> omega), at_succ, at_succ, at_zero, if_pos (by simp <;> omega), at_succ, at_succ, at_succ, at_zero]
      have hv : valB 1 (w :: x :: y :: z :: r) = s32 (16777216 * w.toNat + 65536 * x.toNat + 256 * y.toNat + z.toNat) := by unfold valB; rw [if_neg (by decide), if_pos rfl]
      rw [hv, ← four_eq]; rfl
  · have hw : wid f = 1 := by unfold wid; rw [if_neg c0, if_neg c1]
    rw [hw] at h
    rw [if_neg c1]
    match l, h with
    | b :: r, _ =>
      have hv : valB f (b :: r) = if f = 3 then s8 b.toNat else b.toNat := by unfold valB; rw [if_neg c0, if_neg c1]
      rw [hv]
      by_cases c3 : f = 3
      · rw [if_pos c3, if_pos c3, if_pos (by simp <;> omega), at_zero, s8_eq]
      · rw [if_neg c3, if_neg c3, if_pos (by simp <;> omega), at_zero, w64_u8]
theorem drop_at (pre : List UInt8) (b : UInt8) (r : List UInt8) (k : Nat) : (pre ++ b :: r).drop (pre.length + 1 + k) = r.drop k := by
  rw [show pre.length + 1 + k = (pre ++ [b]).length + k by simp, show pre ++ b :: r = (pre ++ [b]) ++ r by simp, List.drop_append]
  simp
theorem rDec_loop : ∀ (t : Nat) (acc : List In) (pre b : List UInt8), b.length < t → acc.length ≤ 256 → pre.length + b.length ≤ 1000000 →
    S_rDecode_3 N (pre ++ b) t (iE acc) (pre.length : Int) (fun l0 n1 l2 => some (l0, n1)) (fun l3 => some (l3, (0 : Int))) = some (decV (decL t acc b))
  | 0, acc, pre, b, ht, _, _ => by omega
  | t + 1, acc, pre, [], ht, ha, hp => by
    unfold S_rDecode_3 F_rDecode_3 decL
    rw [br_dec, if_neg (by simp)]; rfl
  | t + 1, acc, pre, b :: r, ht, ha, hp => by
    simp only [List.length_cons] at ht hp
    unfold S_rDecode_3 F_rDecode_3 decL
    rw [br_dec, if_pos (by simp <;> omega), br_dec, iE_len]
    by_cases c : acc.length = 256
    · rw [if_pos (by omega), if_pos c]; rfl
    rw [if_neg (by omega), if_neg c, br_and, br_dec, if_pos (by omega), br_dec, if_pos (by simp <;> omega), Int.toNat_natCast, at_mid, w64_u8, br_dec]
    by_cases c54 : 54 ≤ b.toNat
    · rw [if_pos (by omega)]
      have hd : decI (b :: r) = (⟨0, 0, 0, 0⟩, [], 4) := by unfold decI; simp only; rw [if_pos c54]
      rw [hd]; rfl
    rw [if_neg (by omega), rForms_eq N (by omega) (by omega), bnd3_mk]
    have hd : decI (b :: r) = if r.length < wid (fA b.toNat) + wid (fB b.toNat) + wid (fC b.toNat) then (⟨0, 0, 0, 0⟩, [], 5) else
      ((⟨b.toNat, valB (fA b.toNat) r, valB (fB b.toNat) (r.drop (wid (fA b.toNat))), valB (fC b.toNat) (r.drop (wid (fA b.toNat) + wid (fB b.toNat)))⟩ : In), r.drop (wid (fA b.toNat) + wid (fB b.toNat) + wid (fC b.toNat)),
        chk ⟨b.toNat, valB (fA b.toNat) r, valB (fB b.toNat) (r.drop (wid (fA b.toNat))), valB (fC b.toNat) (r.drop (wid (fA b.toNat) + wid (fB b.toNat)))⟩) := by
      conv => lhs; unfold decI
      simp only
      rw [if_neg c54]
    rw [hd]
    have w1 := wid_le (fA b.toNat)
    have w2 := wid_le (fB b.toNat)
    have w3 := wid_le (fC b.toNat)
    generalize hx : fA (b.toNat : Int) = x at *
    generalize hy : fB (b.toNat : Int) = y at *
    generalize hz : fC (b.toNat : Int) = z at *
    simp only [rwidth_eq, bnd1_mk]
    have s1 : IntKind.i64.wrap (((pre ++ b :: r).length : Int) - (pre.length : Int)) = (r.length : Int) + 1 := by
      rw [w64] <;> simp <;> omega
    have s2 : IntKind.i64.wrap (IntKind.i64.wrap (IntKind.i64.wrap (1 + (wid x : Int)) + (wid y : Int)) + (wid z : Int)) = ((1 + wid x + wid y + wid z : Nat) : Int) := by
      rw [w64 (n := 1 + (wid x : Int)) (by omega) (by omega), w64 (n := 1 + (wid x : Int) + (wid y : Int)) (by omega) (by omega), w64 (by omega) (by omega)]; push_cast; omega
    have s3 : IntKind.i64.wrap ((pre.length : Int) + 1) = ((pre.length + 1 + 0 : Nat) : Int) := by rw [w64 (by omega) (by omega)]; push_cast; omega
    have s4 : IntKind.i64.wrap (((pre.length + 1 + 0 : Nat) : Int) + (wid x : Int)) = ((pre.length + 1 + wid x : Nat) : Int) := by rw [w64 (by omega) (by omega)]; push_cast; omega
    have s5 : IntKind.i64.wrap (((pre.length + 1 + wid x : Nat) : Int) + (wid y : Int)) = ((pre.length + 1 + (wid x + wid y) : Nat) : Int) := by rw [w64 (by omega) (by omega)]; push_cast; omega
    rw [s1, s2, s3, s4, s5, br_dec]
    by_cases c5 : r.length < wid x + wid y + wid z
    · rw [if_pos (by omega), if_pos c5]; rfl
    rw [if_neg (by omega), if_neg c5]
    have hlen : ((pre ++ b :: r).length : Int) = (pre.length : Int) + (r.length : Int) + 1 := by simp; omega
    simp only [br_and, br_dec, hlen, Int.toNat_natCast, drop_at]
    rw [if_pos (by omega), if_pos (by omega), rvalue_eq N x _ (by simp <;> omega), bnd1_mk, if_pos (by omega), if_pos (by omega), rvalue_eq N y _ (by simp <;> omega), bnd1_mk, if_pos (by omega), if_pos (by omega), rvalue_eq N z _ (by simp <;> omega), bnd1_mk, List.drop_zero]
    rw [show s_rCheck N (b.toNat : Int) (valB x r) (valB y (r.drop (wid x))) (valB z (r.drop (wid x + wid y))) = _ from rCheck_eq N ⟨b.toNat, valB x r, valB y (r.drop (wid x)), valB z (r.drop (wid x + wid y))⟩, bnd1_mk, br_not, br_dec]
    by_cases c6 : chk ⟨b.toNat, valB x r, valB y (r.drop (wid x)), valB z (r.drop (wid x + wid y))⟩ = 0
    · rw [if_pos c6, if_pos c6, if_pos (by simp <;> omega)]
      have e : iE acc ++ [V.agg [V.int IntKind.i64 (b.toNat : Int), V.int IntKind.i64 (valB x r), V.int IntKind.i64 (valB y (r.drop (wid x))), V.int IntKind.i64 (valB z (r.drop (wid x + wid y)))]] = iE (acc ++ [⟨b.toNat, valB x r, valB y (r.drop (wid x)), valB z (r.drop (wid x + wid y))⟩]) := iE_snoc acc ⟨b.toNat, valB x r, valB y (r.drop (wid x)), valB z (r.drop (wid x + wid y))⟩
      have e2 : IntKind.i64.wrap ((pre.length : Int) + ((1 + wid x + wid y + wid z : Nat) : Int)) = ((pre ++ b :: r.take (wid x + wid y + wid z)).length : Int) := by
        rw [w64 (by omega) (by omega)]; simp <;> omega
      have e3 : pre ++ b :: r = (pre ++ b :: r.take (wid x + wid y + wid z)) ++ r.drop (wid x + wid y + wid z) := by simp
      rw [e, e2]
      rw [e3]
      exact rDec_loop t (acc ++ [⟨b.toNat, valB x r, valB y (r.drop (wid x)), valB z (r.drop (wid x + wid y))⟩]) (pre ++ b :: r.take (wid x + wid y + wid z)) (r.drop (wid x + wid y + wid z)) (by simp <;> omega) (by simp <;> omega) (by simp <;> omega)
    · rw [if_neg c6, if_neg c6]; rfl
theorem rDecode_eq (b : List UInt8) (h : b.length < N) (h2 : b.length ≤ 900000) : s_rDecode N b = some (decV (decL N [] b)) := by
  have := rDec_loop N N [] [] b h (by simp) (by simpa using by omega)
  exact this
end
end Go.Proofs.YtjpmogajlnkihaaDoor.En

/- Instructions as text: the program and the reference. -/
namespace Go.Proofs.YtjpmogajlnkihaaDoor.En
open Go
set_option linter.unusedVariables false
theorem dig_u8 {k : Nat} (h : k < 10) : UInt8.ofNat (IntKind.u8.wrap (IntKind.i64.wrap (48 + (k : Int)))).toNat = UInt8.ofNat (48 + k) := by
  rw [w64 (by omega) (by omega), wu8]
  congr 1
  omega
theorem digF_fuel {j k u : Nat} (hj : 0 < j) (hk : 0 < k) (h1 : u < 10 ^ j) (h2 : u < 10 ^ k) : digF j u = digF k u := by
  rw [digF_eq j u hj h1, digF_eq k u hk h2]
theorem digF_more' {u : Nat} (h : ¬ u < 10) (h2 : u ≤ 2147483648) : digF 20 u = digF 20 (u / 10) ++ [UInt8.ofNat (48 + u % 10)] := by
  rw [digF_more h, digF_fuel (j := 19) (k := 20) (by decide) (by decide) (by omega) (by omega)]
theorem wordT_len (f n : Int) : (wordT f n).length ≤ 21 := by
  unfold wordT
  split
  · decide
  · split
    · have h : ∀ k, (kindsL.getD k []).length ≤ 21 := by
        intro k
        match k with
        | 0 => decide
        | 1 => decide
        | 2 => decide
        | k + 3 => simp [kindsL]
      exact h _
    · exact itoaF_len n
theorem nameT_len (op : Int) : (nameT op).length ≤ 20 := namesL_len _
theorem partT_len (f n : Int) : (partT f n).length ≤ 22 := by
  have := wordT_len f n
  unfold partT
  split <;> simp <;> omega
theorem lineT_len (i : In) : (lineT i).length ≤ 86 := by
  have := nameT_len i.op
  have := partT_len (fA i.op) i.a
  have := partT_len (fB i.op) i.b
  have := partT_len (fC i.op) i.c
  unfold lineT; simp; omega
section
variable (N : Nat) {R : Type}
theorem rDig_pos : ∀ (k u : Nat), u < 10 ^ k → u ≤ 2147483648 → 0 < k → s_rDigits N k (u : Int) = some (digF 20 u)
  | k + 1, u, h, hu, _ => by
    unfold s_rDigits B_rDigits
    rw [br_dec, if_neg (by omega), br_dec]
    have e1 : (u : Int).tmod 10 = ((u % 10 : Nat) : Int) := by rw [Int.tmod_eq_emod_of_nonneg (by omega)]; omega
    have e2 : IntKind.i64.wrap ((u : Int).tdiv 10) = ((u / 10 : Nat) : Int) := by rw [Int.tdiv_eq_ediv_of_nonneg (by omega), w64 (by omega) (by omega)]; omega
    rw [e1, e2, dig_u8 (by omega)]
    by_cases c : u < 10
    · rw [if_pos (by omega), digF_one c, show u % 10 = u by omega]
    · have h1 : u / 10 < 10 ^ k := by rw [Nat.pow_succ] at h; omega
      rw [if_neg (by omega), rDig_pos k (u / 10) h1 (by omega) (pow_pos h1 (by omega)), bnd1_mk, br_dec, digF_more' c hu]
      have := digF_len 20 (u / 10)
      rw [if_pos (by simp <;> omega)]
theorem rDig_neg : ∀ (k u : Nat), u < 10 ^ k → u ≤ 2147483648 → 0 < u → s_rDigits N k (-(u : Int)) = some (45 :: digF 20 u)
  | 0, u, h, _, h0 => by simp at h; omega
  | k + 1, u, h, hu, h0 => by
    unfold s_rDigits B_rDigits
    rw [br_dec, if_pos (by omega), br_dec]
    have e1 : IntKind.i64.wrap (0 - (-(u : Int)).tmod 10) = ((u % 10 : Nat) : Int) := by
      rw [Int.neg_tmod, Int.tmod_eq_emod_of_nonneg (by omega), w64 (by omega) (by omega)]; omega
    have e2 : IntKind.i64.wrap ((-(u : Int)).tdiv 10) = -((u / 10 : Nat) : Int) := by
      rw [Int.neg_tdiv, Int.tdiv_eq_ediv_of_nonneg (by omega), w64 (by omega) (by omega)]; omega
    rw [e1, e2, dig_u8 (by omega)]
    by_cases c : u < 10
    · rw [if_pos (by omega), digF_one c, show u % 10 = u by omega]
    · have h1 : u / 10 < 10 ^ k := by rw [Nat.pow_succ] at h; omega
      rw [if_neg (by omega), rDig_neg k (u / 10) h1 (by omega) (by omega), bnd1_mk, br_dec, digF_more' c hu]
      have := digF_len 20 (u / 10)
      rw [if_pos (by simp <;> omega)]
      rfl
theorem big_pow (hN : 10 < N) {u : Nat} (h : u ≤ 2147483648) : u < 10 ^ N := by
  have : 10 ^ 11 ≤ 10 ^ N := Nat.pow_le_pow_right (by omega) hN
  omega
theorem rDigits_eq (hN : 10 < N) {n : Int} (h1 : -2147483648 ≤ n) (h2 : n ≤ 2147483647) : s_rDigits N N n = some (itoaF n) := by
  by_cases c : n < 0
  · rw [itoa_neg c]
    have := rDig_neg N N n.natAbs (big_pow N hN (by omega)) (by omega) (by omega)
    rw [show -((n.natAbs : Nat) : Int) = n by omega] at this
    exact this
  · rw [itoa_pos c]
    have := rDig_pos N N n.toNat (big_pow N hN (by omega)) (by omega) (by omega)
    rw [show ((n.toNat : Nat) : Int) = n by omega] at this
    exact this
theorem kind_words (n : Int) (h : n = 2 ∨ n = 3 ∨ n = 4) : s_word N 7 n = some (wordT 7 n) ∧ s_rword N 7 n = some (wordT 7 n) := by
  rcases h with rfl | rfl | rfl <;> exact ⟨rfl, rfl⟩
theorem word_eq {f n p : Int} (h : oe f n p = 0) : s_word N f n = some (wordT f n) := by
  by_cases c7 : f = 7
  · subst c7
    have := oe_kind h
    exact (kind_words N n (by omega)).1
  unfold s_word wordT s_Itoa
  simp only [br_dec, bnd1_mk, c7, if_false]
  by_cases c5 : f = 5
  · by_cases cn : n = 255
    · rw [if_pos c5, if_pos cn, if_pos ⟨c5, cn⟩]; rfl
    · rw [if_pos c5, if_neg cn, if_neg (fun q => cn q.2)]
  · rw [if_neg c5, if_neg (fun q => c5 q.1)]
theorem rword_eq (hN : 10 < N) {f n p : Int} (h : oe f n p = 0) : s_rword N f n = some (wordT f n) := by
  by_cases c7 : f = 7
  · subst c7
    have := oe_kind h
    exact (kind_words N n (by omega)).2
  have hr := oe_range h
  unfold s_rword wordT
  rw [rDigits_eq N hN hr.1 hr.2]
  simp only [br_dec, bnd1_mk, c7, if_false]
  by_cases c5 : f = 5
  · by_cases cn : n = 255
    · rw [if_pos c5, if_pos cn, if_pos ⟨c5, cn⟩]; rfl
    · rw [if_pos c5, if_neg cn, if_neg (fun q => cn q.2)]
  · rw [if_neg c5, if_neg (fun q => c5 q.1)]
theorem write_eq (x y : List UInt8) (h : y.length + x.length ≤ 1000000) : s_WriteString N x y = some ((x.length : Int), y ++ x) := by
  unfold s_WriteString C_WriteString s_copyCheck
  rw [bnd1_mk, br_dec, if_pos (by omega)]
noncomputable def stT (f n : Int) (l : List UInt8) (L : List UInt8 → Option R) : Option R :=
  br (decide (f = 0)) (L l) (bnd1 (s_joined N f) fun b => br b
    (bnd1 (s_word N f n) fun l1 => br (decide (1 + l1.length ≤ 9223372036854775807)) (bnd2 (s_WriteString N (46 :: [].append l1) l) fun _ l3 => L l3) none)
    (bnd1 (s_word N f n) fun l1 => br (decide (1 + l1.length ≤ 9223372036854775807)) (bnd2 (s_WriteString N (32 :: [].append l1) l) fun _ l3 => L l3) none))
theorem stT_eq {f n p : Int} (h : oe f n p = 0) (l : List UInt8) (L : List UInt8 → Option R) (hl : l.length ≤ 900000) : stT N f n l L = L (l ++ partT f n) := by
  unfold stT partT
  rw [br_dec]
  by_cases c0 : f = 0
  · rw [if_pos c0, if_pos c0, List.append_nil]
  rw [if_neg c0, if_neg c0, word_eq N h]
  have hw := wordT_len f n
  have hj : s_joined N f = some (decide (f = 6 ∨ f = 11)) := by
    unfold s_joined
    rw [br_dec]
    by_cases c6 : f = 6
    · rw [if_pos c6, decide_eq_true (Or.inl c6)]
    · rw [if_neg c6]; congr 1; rw [decide_eq_decide]; omega
  rw [hj, bnd1_mk]
  unfold sepB
  by_cases c : f = 6 ∨ f = 11
  · rw [decide_eq_true c, br_t, bnd1_mk, br_dec, if_pos (by omega), if_pos c]
    show (bnd2 (s_WriteString N (46 :: wordT f n) l) fun _ l3 => L l3) = _
    rw [write_eq N _ _ (by simp <;> omega), bnd2_mk]
  · rw [decide_eq_false c, br_f, bnd1_mk, br_dec, if_pos (by omega), if_neg c]
    show (bnd2 (s_WriteString N (32 :: wordT f n) l) fun _ l3 => L l3) = _
    rw [write_eq N _ _ (by simp <;> omega), bnd2_mk]
theorem cText_in (hN : 10 < N) (vs0 vs1 : List V) (n2 n3 f g h m1 m2 m3 m4 a b c p : Int) (l0 : List UInt8) (K0 : List UInt8 → Option R) (hl : l0.length ≤ 800000) (ha : oe f a p = 0) (hb : oe g b p = 0) (hc : oe h c p = 0) :
    S_cText_12 N vs0 vs1 n2 n3 f g h m1 m2 m3 m4 a b c N 0 l0 K0 = K0 (l0 ++ (partT f a ++ (partT g b ++ partT h c))) := by
  obtain ⟨t, ht⟩ : ∃ t, N = t + 4 := ⟨N - 4, by omega⟩
  have e3 : ∀ u l, S_cText_12 N vs0 vs1 n2 n3 f g h m1 m2 m3 m4 a b c (u + 1) 3 l K0 = K0 l := fun u l => id rfl
  have e2 : ∀ u l, S_cText_12 N vs0 vs1 n2 n3 f g h m1 m2 m3 m4 a b c (u + 1) 2 l K0 = stT N h c l fun l => S_cText_12 N vs0 vs1 n2 n3 f g h m1 m2 m3 m4 a b c u 3 l K0 := fun u l => id rfl
  have e1 : ∀ u l, S_cText_12 N vs0 vs1 n2 n3 f g h m1 m2 m3 m4 a b c (u + 1) 1 l K0 = stT N g b l fun l => S_cText_12 N vs0 vs1 n2 n3 f g h m1 m2 m3 m4 a b c u 2 l K0 := fun u l => id rfl
  have e0 : ∀ u l, S_cText_12 N vs0 vs1 n2 n3 f g h m1 m2 m3 m4 a b c (u + 1) 0 l K0 = stT N f a l fun l => S_cText_12 N vs0 vs1 n2 n3 f g h m1 m2 m3 m4 a b c u 1 l K0 := fun u l => id rfl
  have hf := partT_len f a
  have hg := partT_len g b
  have key : ∀ u, S_cText_12 N vs0 vs1 n2 n3 f g h m1 m2 m3 m4 a b c (u + 4) 0 l0 K0 = K0 (l0 ++ (partT f a ++ (partT g b ++ partT h c))) := by
    intro u
    rw [e0, stT_eq N ha _ _ (by omega), e1, stT_eq N hb _ _ (by simp <;> omega), e2, stT_eq N hc _ _ (by simp <;> omega), e3]
    simp only [List.append_assoc]
  have := key t
  rw [← ht] at this
  exact this
theorem names_eq : s_names N = some (namesL.map V.str) := by
  unfold s_names s_Fields
  rw [namesL_eq]
  kernel_rfl
theorem names_at {op : Int} (h0 : 0 ≤ op) (h1 : op < 54) (K : V → Option R) : at? (namesL.map V.str) op.toNat K = K (.str (nameT op)) := by
  have hk : op.toNat < namesL.length := by show op.toNat < 54; omega
  refine at_of ?_ K
  rw [List.getElem?_map, List.getElem?_eq_getElem hk]
  simp [nameT, List.getD, hk]
theorem cText_loop (hN : 10 < N) : ∀ (l : List In) (pre : List V) (t : Nat) (out : List UInt8), l.length < t → pre.length + l.length ≤ 60000 → out.length + 100 * l.length ≤ 700000 → firstE l = 0 →
    S_cText_7 N (namesL.map V.str) (pre ++ iE l) ((pre ++ iE l).length : Int) t (pre.length : Int) out (fun l3 => some l3) = some (out ++ textAll l)
  | l, pre, 0, out, ht, _, _, _ => by omega
  | [], pre, t + 1, out, ht, _, _, _ => by
    unfold S_cText_7 F_cText_7
    rw [br_dec, if_neg (by simp [iE])]
    simp [textAll]
  | i :: l, pre, t + 1, out, ht, hl, ho, hf => by
    simp only [List.length_cons] at ht hl ho
    obtain ⟨f1, f2⟩ := firstE_cons hf
    obtain ⟨r0, r1⟩ := chk_range f1
    obtain ⟨ha, hb, hc⟩ := chk_parts f1
    obtain ⟨h1, h2, h3⟩ := stepV pre (iV i) (iE l) (by rw [iE_len]; omega)
    have hll := lineT_len i
    have hnl := nameT_len i.op
    have ih := cText_loop hN l (pre ++ [iV i]) t (out ++ (lineT i ++ [10])) (by omega) (by simp <;> omega) (by simp <;> omega) f2
    rw [← midV, ← h3] at ih
    unfold S_cText_7 F_cText_7
    simp only [iE, br_t, br_f, br_dec, br_not, br_and, br_or, bnd1_mk, bnd2_mk, bnd3_mk, bnd4_mk, bnd5_mk, bnd10_mk, at_zero, at_succ, at_mid, unInt_mk, unBool_mk, unStr_mk, unBytes_mk, unSl_mk, unAgg_mk, unCons_mk, unNil_mk, h1, h2, if_true, Int.toNat_natCast]
    show V.unAgg (iV i) _ = _
    unfold iV
    simp only [br_t, br_f, br_dec, br_not, br_and, br_or, bnd1_mk, bnd2_mk, bnd3_mk, bnd4_mk, bnd5_mk, bnd10_mk, at_zero, at_succ, at_mid, unInt_mk, unBool_mk, unStr_mk, unBytes_mk, unSl_mk, unAgg_mk, unCons_mk, unNil_mk]
    rw [if_pos r0, if_pos (by simp [namesL]; omega), names_at r0 r1, unStr_mk, write_eq N _ _ (by omega), bnd2_mk, formOf_eq N r0 r1]
    unfold s_operands
    simp only [bnd3_mk]
    rw [cText_in N hN _ _ _ _ _ _ _ _ _ _ _ _ _ _ _ _ _ (by simp <;> omega) ha hb hc]
    have e : out ++ nameT i.op ++ (partT (fA i.op) i.a ++ (partT (fB i.op) i.b ++ partT (fC i.op) i.c)) = out ++ lineT i := by unfold lineT; simp
    rw [e, write_eq N _ _ (by simp <;> omega), bnd2_mk, List.append_assoc]
    unfold iV at ih
    rw [ih]
    simp [textAll]
theorem cText_eq (hN : 10 < N) (l : List In) (hl : l.length < N) (h2 : l.length ≤ 50000) : s_cText N (iE l) = some (textL l) := by
  unfold s_cText textL
  rw [cEncode_eq N hN l hl h2]
  rcases he : encL l with ⟨x, e⟩
  simp only [bnd2_mk, br_not, br_dec]
  by_cases c : e = 0
  · rw [if_pos c, if_pos c, names_eq, bnd1_mk]
    have hf : l.length ≤ 256 ∧ firstE l = 0 := by
      unfold encL at he
      split at he
      · injection he with _ he; omega
      · split at he
        · exact ⟨by omega, by assumption⟩
        · rename_i h; injection he with _ he; omega
    have := cText_loop N hN l [] N [] hl (by simpa using by omega) (by simpa using by omega) hf.2
    rw [List.nil_append, List.nil_append, iE_len] at this
    rw [show ((([] : List V).length : Nat) : Int) = 0 by rfl] at this
    rw [iE_len]
    exact this
  · rw [if_neg c, if_neg c]
/-! The reference -/
theorem rName_eq {op : Int} (h0 : 0 ≤ op) (h1 : op < 54) : s_rName N op = some (nameT op) := by
  unfold s_rName nameT
  rw [decide_eq_false (by omega : ¬ op < 0), decide_eq_false (by omega : ¬ 54 ≤ op)]; rfl
theorem rline_eq (hN : 10 < N) {i : In} (h : chk i = 0) : s_rline N i.op i.a i.b i.c = some (lineT i) := by
  obtain ⟨r0, r1⟩ := chk_range h
  obtain ⟨ha, hb, hc⟩ := chk_parts h
  have hf := fm_of r0 r1
  unfold s_rline lineT
  rw [rForms_eq N r0 r1, bnd3_mk, rName_eq N r0 r1, bnd1_mk]
  have hn := nameT_len i.op
  generalize nameT i.op = w at *
  generalize hx : fA i.op = x at *
  generalize hy : fB i.op = y at *
  generalize hz : fC i.op = z at *
  have wa := wordT_len x i.a
  have wb := wordT_len y i.b
  have wc := wordT_len z i.c
  simp only [br_not, br_dec, rword_eq N hN ha, rword_eq N hN hb, rword_eq N hN hc, bnd1_mk]
  rcases hf with ⟨rfl, rfl, _, _, n5, n6, n10, n11⟩ | ⟨rfl, rfl, rfl⟩ | ⟨rfl, rfl, hz'⟩ | ⟨rfl, rfl, rfl⟩
  · rw [partT0, partT0]
    by_cases x0 : x = 0
    · subst x0
      simp [partT0]
    · have e : partT x i.a = 32 :: wordT x i.a := by
        unfold partT sepB
        rw [if_neg x0, if_neg (by omega)]
      rw [if_neg x0, if_pos (by omega), if_pos (by simp <;> omega), if_pos rfl, if_pos rfl, e]
      simp
  · rw [if_neg (by decide), if_pos (by omega), if_pos (by simp <;> omega), if_neg (by decide), if_neg (by decide), if_neg (by decide), if_pos (by simp <;> omega), if_pos (by simp <;> omega), if_pos rfl, partT0]
    rw [show partT 2 i.a = 32 :: wordT 2 i.a from rfl, show partT 3 i.b = 32 :: wordT 3 i.b from rfl]
    simp
  · rw [if_neg (by decide), if_pos (by omega), if_pos (by simp <;> omega), if_neg (by decide), if_pos rfl, if_pos (by simp <;> omega), if_pos (by simp <;> omega)]
    rw [show partT 5 i.a = 32 :: wordT 5 i.a from rfl, show partT 6 i.b = 46 :: wordT 6 i.b from rfl]
    by_cases z0 : z = 0
    · subst z0
      rw [if_pos rfl, partT0]
      simp
    · have e : partT z i.c = 32 :: wordT z i.c := by
        unfold partT sepB
        rw [if_neg z0, if_neg (by omega)]
      rw [if_neg z0, if_pos (by simp <;> omega), if_pos (by simp <;> omega), e]
      simp
  · rw [if_neg (by decide), if_pos (by omega), if_pos (by simp <;> omega), if_neg (by decide), if_neg (by decide), if_pos rfl, if_pos (by simp <;> omega), if_pos (by simp <;> omega), if_pos rfl, partT0]
    rw [show partT 10 i.a = 32 :: wordT 10 i.a from rfl, show partT 11 i.b = 46 :: wordT 11 i.b from rfl]
    simp
theorem rText_loop (hN : 10 < N) : ∀ (l : List In) (pre : List V) (t : Nat) (out : List UInt8), l.length < t → pre.length + l.length ≤ 60000 → out.length + 100 * l.length ≤ 700000 → firstE l = 0 →
    S_rText_6 N (pre ++ iE l) t out (pre.length : Int) (fun l3 => some l3) = some (out ++ textAll l)
  | l, pre, 0, out, ht, _, _, _ => by omega
  | [], pre, t + 1, out, ht, _, _, _ => by
    unfold S_rText_6 F_rText_6
    rw [br_dec, if_neg (by simp [iE])]
    simp [textAll]
  | i :: l, pre, t + 1, out, ht, hl, ho, hf => by
    simp only [List.length_cons] at ht hl ho
    obtain ⟨f1, f2⟩ := firstE_cons hf
    obtain ⟨h1, h2, h3⟩ := stepV pre (iV i) (iE l) (by rw [iE_len]; omega)
    have hll := lineT_len i
    have ih := rText_loop hN l (pre ++ [iV i]) t (out ++ lineT i ++ [10]) (by omega) (by simp <;> omega) (by simp <;> omega) f2
    rw [← midV, ← h3] at ih
    unfold S_rText_6 F_rText_6
    simp only [iE, br_t, br_f, br_dec, br_not, br_and, br_or, bnd1_mk, bnd2_mk, bnd3_mk, bnd4_mk, bnd5_mk, bnd10_mk, at_zero, at_succ, at_mid, unInt_mk, unBool_mk, unStr_mk, unBytes_mk, unSl_mk, unAgg_mk, unCons_mk, unNil_mk, h1, h2, if_true, Int.toNat_natCast]
    show V.unAgg (iV i) _ = _
    unfold iV
    simp only [br_t, br_f, br_dec, br_not, br_and, br_or, bnd1_mk, bnd2_mk, bnd3_mk, bnd4_mk, bnd5_mk, bnd10_mk, at_zero, at_succ, at_mid, unInt_mk, unBool_mk, unStr_mk, unBytes_mk, unSl_mk, unAgg_mk, unCons_mk, unNil_mk]
    rw [rline_eq N hN f1, bnd1_mk, if_pos (by omega), if_pos (by simp <;> omega)]
    unfold iV at ih
    rw [ih]
    simp [textAll]
theorem rText_eq (hN : 10 < N) (l : List In) (hl : l.length < N) (h2 : l.length ≤ 50000) : s_rText N (iE l) = some (textL l) := by
  unfold s_rText textL
  rw [rEncode_eq N l hl h2]
  rcases he : encL l with ⟨x, e⟩
  simp only [bnd2_mk, br_not, br_dec]
  by_cases c : e = 0
  · rw [if_pos c, if_pos c]
    have hf : l.length ≤ 256 ∧ firstE l = 0 := by
      unfold encL at he
      split at he
      · injection he with _ he; omega
      · split at he
        · exact ⟨by omega, by assumption⟩
        · rename_i h; injection he with _ he; omega
    exact rText_loop N hN l [] N [] hl (by simpa using by omega) (by simpa using by omega) hf.2
  · rw [if_neg c, if_neg c]
end
end Go.Proofs.YtjpmogajlnkihaaDoor.En

/- Texts read as instructions: the program. -/
namespace Go.Proofs.YtjpmogajlnkihaaDoor.En
open Go
set_option linter.unusedVariables false
def sL (l : List (List UInt8)) : List V := l.map V.str
theorem sL_cons (w : List UInt8) (l : List (List UInt8)) : sL (w :: l) = V.str w :: sL l := id rfl
theorem sL_len (l : List (List UInt8)) : (sL l).length = l.length := by simp [sL]
def idxI (w : List UInt8) (l : List (List UInt8)) : Int := match idxN w l with | some k => (k : Int) | none => -1
section
variable (N : Nat) {R : Type}
theorem index_loop (w : List UInt8) (K0 : Int → Option R) (K1 : Option R) : ∀ (l : List (List UInt8)) (pre : List V) (t : Nat), l.length < t → pre.length + l.length ≤ 1000000 →
    S_IndexS_2 N (pre ++ sL l) w ((pre ++ sL l).length : Int) t (pre.length : Int) K0 K1 = match idxN w l with | some k => K0 ((pre.length + k : Nat) : Int) | none => K1
  | l, pre, 0, ht, _ => by omega
  | [], pre, t + 1, ht, _ => by
    unfold S_IndexS_2 F_IndexS_2
    rw [br_dec, if_neg (by simp [sL])]; rfl
  | x :: l, pre, t + 1, ht, hl => by
    simp only [List.length_cons] at ht hl
    obtain ⟨h1, h2, h3⟩ := stepV pre (.str x) (sL l) (by rw [sL_len]; omega)
    have ih := index_loop w K0 K1 l (pre ++ [.str x]) t (by omega) (by simp <;> omega)
    rw [← midV, ← h3] at ih
    unfold S_IndexS_2 F_IndexS_2 idxN
    simp only [sL_cons, br_t, br_f, br_dec, br_not, br_and, br_or, bnd1_mk, bnd2_mk, bnd3_mk, bnd4_mk, bnd5_mk, bnd10_mk, at_zero, at_succ, at_mid, unInt_mk, unBool_mk, unStr_mk, unBytes_mk, unSl_mk, unAgg_mk, unCons_mk, unNil_mk, h1, h2, if_true, Int.toNat_natCast]
    by_cases c : x = w
    · subst c
      rw [if_pos rfl, if_pos rfl]; rfl
    · rw [if_neg (fun e => c e.symm), if_neg c, ih]
      cases idxN w l with
      | none => rfl
      | some k => simp only [Option.map_some]; congr 2; simp; omega
theorem index_eq (l : List (List UInt8)) (w : List UInt8) (h : l.length < N) (h2 : l.length ≤ 900000) : s_IndexS N (sL l) w = some (idxI w l) := by
  have := index_loop N w (fun n0 => some n0) (some (-1)) l [] N h (by simpa using by omega)
  rw [List.nil_append, show ((([] : List V).length : Nat) : Int) = 0 by rfl] at this
  unfold s_IndexS
  rw [this]
  unfold idxI
  cases idxN w l with
  | none => rfl
  | some k => simp
theorem kinds_sL : s_kinds N = some (sL kindsL) := id rfl
theorem idx_kinds (s : List UInt8) : idxI s kindsL = if s = [98, 121, 116, 101, 115] then 0 else if s = [105, 110, 116, 115] then 1 else if s = [114, 101, 102, 115] then 2 else -1 := by
  by_cases e1 : s = [98, 121, 116, 101, 115]
  · subst e1; rfl
  by_cases e2 : s = [105, 110, 116, 115]
  · subst e2; rfl
  by_cases e3 : s = [114, 101, 102, 115]
  · subst e3; rfl
  rw [if_neg e1, if_neg e2, if_neg e3]
  have h : idxN s kindsL = none := by
    unfold kindsL idxN
    rw [if_neg (fun e => e1 e.symm)]
    unfold idxN
    rw [if_neg (fun e => e2 e.symm)]
    unfold idxN
    rw [if_neg (fun e => e3 e.symm)]
    rfl
  unfold idxI
  rw [h]
theorem value_eq (hN : 10 < N) (f : Int) (s : List UInt8) (h : s.length ≤ 1000000) : s_value N f s = some (valW f s) := by
  unfold s_value valW
  rw [br_dec]
  by_cases c7 : f = 7
  · rw [if_pos c7, if_pos c7, kinds_sL, bnd1_mk, index_eq N kindsL s (by show 3 < N; omega) (by decide), bnd1_mk]
    rw [idx_kinds]
    by_cases e1 : s = [98, 121, 116, 101, 115]
    · rw [if_pos e1, if_pos e1]; rfl
    rw [if_neg e1, if_neg e1]
    by_cases e2 : s = [105, 110, 116, 115]
    · rw [if_pos e2, if_pos e2]; rfl
    rw [if_neg e2, if_neg e2]
    by_cases e3 : s = [114, 101, 102, 115]
    · rw [if_pos e3, if_pos e3]; rfl
    rw [if_neg e3, if_neg e3]
    rfl
  rw [if_neg c7, if_neg c7]
  have hn : s_number N s = some (numF s) := by
    unfold s_number
    rw [show Nat.ble s.length 1000000 = true by simpa using h]; rfl
  rw [hn]
  rcases hq : numF s with ⟨n, a, b⟩
  simp only [bnd3_mk, br_dec]
  show (if f = 5 then (if s = sysW then some (255, true, true) else _) else _) = _
  by_cases c5 : f = 5
  · by_cases cs : s = sysW
    · rw [if_pos c5, if_pos cs, if_pos ⟨c5, cs⟩]
    · rw [if_pos c5, if_neg cs, if_pos c5, if_neg (show ¬ (f = 5 ∧ s = sysW) from fun q => cs q.2)]
      by_cases cn : n = 255
      · rw [if_pos cn, if_pos ⟨c5, cn⟩]
      · rw [if_neg cn, if_neg (fun q => cn q.2)]
  · rw [if_neg c5, if_neg c5, if_neg (fun q => c5 q.1), if_neg (fun q => c5 q.1)]
theorem cut_eq (c : UInt8) (s : List UInt8) (h : s.length ≤ 1000000) : s_Cut N s [c] = some (cut1 c s) := by
  unfold s_Cut
  simp only
  rw [show Nat.ble s.length 1000000 = true by simpa using h]; rfl
theorem splitS_eq (c : UInt8) (s : List UInt8) (h : s.length ≤ 1000000) : s_Split N s [c] = some (sL (split1 c s)) := by
  unfold s_Split
  simp only
  rw [show Nat.ble s.length 1000000 = true by simpa using h]; rfl
/-- What is left when a word is taken. -/
noncomputable def stP (vs0 vs1 : List V) (P : List V → List V → Option R) : Option R :=
  br (decide (0 < (vs0.length : Int))) (at? vs0 0 fun x => x.unStr fun l => br (decide ((vs1.length + [V.str l].length) * 16 ≤ 140737488355328)) (br (decide (1 ≤ (vs0.length : Int))) (P (List.drop 1 vs0) (vs1 ++ [V.str l])) none) none) none
noncomputable def stJ (vs0 vs1 : List V) (F : Option R) (J : List V → List V → Option R) : Option R :=
  br (decide (0 < (vs0.length : Int))) (at? vs0 0 fun x => x.unStr fun l => bnd3 (s_Cut N l ([46] : List UInt8)) fun a c d => br (!d) F
    (br (decide ((vs1.length + [V.str a, V.str c].length) * 16 ≤ 140737488355328)) (br (decide (1 ≤ (vs0.length : Int))) (J (List.drop 1 vs0) (vs1 ++ [V.str a, V.str c])) none) none)) none
noncomputable def stW (f g : Int) (vs0 vs1 : List V) (F E : Option R) (J P : List V → List V → Option R) : Option R :=
  br (!decide (f = 0)) (br (decide ((vs0.length : Int) = 0)) F (bnd1 (s_joined N g) fun b => br b (stJ N vs0 vs1 F J) (stP vs0 vs1 P))) E
noncomputable def stL (f : Int) (vs0 vs1 : List V) (F E : Option R) (P : List V → List V → Option R) : Option R :=
  br (!decide (f = 0)) (br (decide ((vs0.length : Int) = 0)) F (stP vs0 vs1 P)) E
theorem stP_cons (w : List UInt8) (ws : List (List UInt8)) (vs1 : List V) (P : List V → List V → Option R) (h : vs1.length ≤ 1000000) (h2 : ws.length ≤ 1000000) : stP (sL (w :: ws)) vs1 P = P (sL ws) (vs1 ++ [V.str w]) := by
  unfold stP
  rw [sL_cons]
  simp only [br_t, br_f, br_dec, br_not, br_and, br_or, bnd1_mk, bnd2_mk, bnd3_mk, bnd4_mk, bnd5_mk, bnd10_mk, at_zero, at_succ, at_mid, unInt_mk, unBool_mk, unStr_mk, unBytes_mk, unSl_mk, unAgg_mk, unCons_mk, unNil_mk]
  have e1 : (0 : Int) < ((V.str w :: sL ws).length : Int) := by simp <;> omega
  have e2 : (1 : Int) ≤ ((V.str w :: sL ws).length : Int) := by simp <;> omega
  rw [if_pos e1, if_pos (by simp <;> omega), if_pos e2]
  rfl
theorem stJ_cons (w : List UInt8) (ws : List (List UInt8)) (vs1 : List V) (F : Option R) (J : List V → List V → Option R) (h : vs1.length ≤ 1000000) (hw : w.length ≤ 1000000) :
    stJ N (sL (w :: ws)) vs1 F J = match cut1 46 w with | (a, b, true) => J (sL ws) (vs1 ++ [V.str a, V.str b]) | (_, _, false) => F := by
  unfold stJ
  rw [sL_cons]
  have e1 : (0 : Int) < ((V.str w :: sL ws).length : Int) := by simp <;> omega
  have e2 : (1 : Int) ≤ ((V.str w :: sL ws).length : Int) := by simp <;> omega
  rw [br_dec, if_pos e1, at_zero, unStr_mk, cut_eq N 46 w hw]
  rcases cut1 46 w with ⟨a, b, d⟩
  cases d with
  | false => rfl
  | true =>
    simp only [bnd3_mk, br_not, br_t, br_dec]
    rw [if_pos (by simp <;> omega), if_pos e2]
    rfl
theorem joined_eq (f : Int) : s_joined N f = some (decide (f = 6 ∨ f = 11)) := by
  unfold s_joined
  rw [br_dec]
  by_cases c6 : f = 6
  · rw [if_pos c6, decide_eq_true (Or.inl c6)]
  · rw [if_neg c6]; congr 1; rw [decide_eq_decide]; omega
theorem words_jn {x y : Int} (z : Int) {w : List UInt8} (r : List (List UInt8)) {a b : List UInt8} (hx : x ≠ 0) (hy : y = 6 ∨ y = 11) (hc : cut1 46 w = (a, b, false)) : wordsW x y z (w :: r) = none := by
  unfold wordsW
  rw [if_neg hx, if_pos hy]
  simp only [hc]
/-- The words that a line's operands are, out of the words of the line. -/
def wordsR (o : Option (List (List UInt8))) (r : Option (List V × Bool)) : Prop := match o with | some l => r = some (sL l, true) | none => ∃ vs, r = some (vs, false)
theorem words_eq (hN : 10 < N) {x y z : Int} (hf : Fm x y z) (ws : List (List UInt8)) (hl : ws.length ≤ 1000000) (hb : ∀ w ∈ ws, w.length ≤ 1000000) : wordsR (wordsW x y z ws) (s_words N x y z (sL ws)) := by
  obtain ⟨t, ht⟩ : ∃ t, N = t + 4 := ⟨N - 4, by omega⟩
  have e3 : ∀ u vs0 vs1 (K0 : List V → List V → Bool → List V → Option (List V × Bool)) (K1 : List V → List V → Option (List V × Bool)), S_words_3 N x y z (u + 1) vs0 vs1 3 K0 K1 = K1 vs0 vs1 := fun u vs0 vs1 K0 K1 => id rfl
  have e2 : ∀ u vs0 vs1 (K0 : List V → List V → Bool → List V → Option (List V × Bool)) (K1 : List V → List V → Option (List V × Bool)), S_words_3 N x y z (u + 1) vs0 vs1 2 K0 K1 = stL z vs0 vs1 (K0 vs0 [] false vs1) (K1 vs0 vs1) fun a b => S_words_3 N x y z u a b 3 K0 K1 := fun u vs0 vs1 K0 K1 => id rfl
  have e1 : ∀ u vs0 vs1 (K0 : List V → List V → Bool → List V → Option (List V × Bool)) (K1 : List V → List V → Option (List V × Bool)), S_words_3 N x y z (u + 1) vs0 vs1 1 K0 K1 = stW N y z vs0 vs1 (K0 vs0 [] false vs1) (K1 vs0 vs1) (fun a b => S_words_3 N x y z u a b 3 K0 K1) fun a b => S_words_3 N x y z u a b 2 K0 K1 := fun u vs0 vs1 K0 K1 => id rfl
  have e0 : ∀ u vs0 vs1 (K0 : List V → List V → Bool → List V → Option (List V × Bool)) (K1 : List V → List V → Option (List V × Bool)), S_words_3 N x y z (u + 1) vs0 vs1 0 K0 K1 = stW N x y vs0 vs1 (K0 vs0 [] false vs1) (K1 vs0 vs1) (fun a b => S_words_3 N x y z u a b 2 K0 K1) fun a b => S_words_3 N x y z u a b 1 K0 K1 := fun u vs0 vs1 K0 K1 => id rfl
  have key : ∀ u, wordsR (wordsW x y z ws) (S_words_3 N x y z (u + 4) (sL ws) [] 0 (fun l0 l1 b2 l3 => some (l1, b2)) fun l4 l5 => some (l5, decide ((l4.length : Int) = 0))) := by
    intro u
    rw [e0]
    unfold stW
    rw [br_not, br_dec]
    by_cases x0 : x = 0
    · rw [if_pos x0]
      unfold wordsW
      rw [if_pos x0]
      cases ws with
      | nil => exact rfl
      | cons w ws => exact ⟨_, rfl⟩
    rw [if_neg x0]
    cases ws with
    | nil =>
      have : ∃ vs, br (decide (((sL []).length : Int) = 0)) (some (([] : List V), false)) (bnd1 (s_joined N y) fun b => br b (stJ N (sL []) [] (some (([] : List V), false)) fun a b => S_words_3 N x y z (u + 2 + 1) a b 2 (fun l0 l1 b2 l3 => some (l1, b2)) fun l4 l5 => some (l5, decide ((l4.length : Int) = 0))) (stP (sL []) [] fun a b => S_words_3 N x y z (u + 2 + 1) a b 1 (fun l0 l1 b2 l3 => some (l1, b2)) fun l4 l5 => some (l5, decide ((l4.length : Int) = 0)))) = some (vs, false) := ⟨[], rfl⟩
      have hw : wordsW x y z [] = none := by
        unfold wordsW
        rw [if_neg x0]
        split
        · rfl
        · split <;> rfl
      rw [hw]
      exact this
    | cons w ws =>
      have hb1 := hb w (by simp)
      simp only [List.length_cons] at hl
      have en : ¬ (((sL (w :: ws)).length : Int) = 0) := by rw [sL_len]; simp <;> omega
      rw [br_dec, if_neg en, joined_eq, bnd1_mk, br_dec]
      by_cases cj : y = 6 ∨ y = 11
      · rw [if_pos cj, stJ_cons N w ws [] _ _ (by simp) hb1]
        rcases hc : cut1 46 w with ⟨a, b, d⟩
        cases d with
        | false =>
          rw [words_jn z ws x0 cj hc]
          exact ⟨_, rfl⟩
        | true =>
          rw [words_j z ws x0 cj hc]
          simp only
          rw [e2]
          unfold stL
          rw [br_not, br_dec]
          by_cases z0 : z = 0
          · rw [if_pos z0, if_pos z0]
            cases ws with
            | nil => exact rfl
            | cons v ws => exact ⟨_, rfl⟩
          · rw [if_neg z0, if_neg z0]
            cases ws with
            | nil => exact ⟨_, rfl⟩
            | cons v ws =>
              have en : ¬ (((sL (v :: ws)).length : Int) = 0) := by rw [sL_len]; simp <;> omega
              simp only [List.length_cons] at hl
              rw [br_dec, if_neg en, stP_cons v ws _ _ (by simp) (by omega), e3]
              cases ws with
              | nil => exact rfl
              | cons v ws => exact ⟨_, rfl⟩
      · rw [if_neg cj, stP_cons w ws [] _ (by simp) (by omega), e1]
        unfold wordsW
        rw [if_neg x0, if_neg cj]
        unfold stW
        rw [br_not, br_dec]
        by_cases y0 : y = 0
        · rw [if_pos y0, if_pos y0]
          cases ws with
          | nil => exact rfl
          | cons v ws => exact ⟨_, rfl⟩
        · have hz : z = 0 := by
            rcases hf with ⟨h, _⟩ | ⟨_, _, h⟩ | ⟨_, h, _⟩ | ⟨_, h, _⟩
            · exact absurd h y0
            · exact h
            · exact absurd (Or.inl h) cj
            · exact absurd (Or.inr h) cj
          rw [if_neg y0, if_neg y0]
          cases ws with
          | nil => exact ⟨_, rfl⟩
          | cons v ws =>
            have en : ¬ (((sL (v :: ws)).length : Int) = 0) := by rw [sL_len]; simp <;> omega
            simp only [List.length_cons] at hl
            rw [br_dec, if_neg en, joined_eq, bnd1_mk, br_dec, if_neg (by omega), stP_cons v ws _ _ (by simp) (by omega), e2]
            unfold stL
            rw [br_not, br_dec, if_pos hz]
            cases ws with
            | nil => exact rfl
            | cons v ws => exact ⟨_, rfl⟩
  have := key t
  rw [← ht] at this
  exact this
theorem words_len {x y z : Int} {ws l : List (List UInt8)} (h : wordsW x y z ws = some l) (hb : ∀ w ∈ ws, w.length ≤ 1000000) : l.length ≤ 3 ∧ ∀ w ∈ l, w.length ≤ 1000000 := by
  unfold wordsW at h
  split at h
  · split at h
    · injection h with h; subst h; simp
    · cases h
  · split at h
    · split at h
      · rename_i w r
        have hb1 := hb w (by simp)
        have hc := cut1_len 46 w
        split at h
        · rename_i a b e
          rw [e] at hc
          simp only at hc
          split at h
          · split at h
            · injection h with h; subst h
              refine ⟨by simp, fun v hv => ?_⟩
              simp at hv
              rcases hv with rfl | rfl <;> omega
            · cases h
          · split at h
            · rename_i c
              injection h with h; subst h
              refine ⟨by simp, fun v hv => ?_⟩
              simp at hv
              rcases hv with rfl | rfl | rfl
              · omega
              · omega
              · exact hb _ (by simp)
            · cases h
        · cases h
      · cases h
    · split at h
      · split at h
        · injection h with h; subst h
          exact ⟨by simp, hb⟩
        · cases h
      · split at h
        · injection h with h; subst h
          exact ⟨by simp, hb⟩
        · cases h
noncomputable def stV (f : Int) (w : List UInt8) (b : Bool) (F : Option R) (L : Bool → Int → Option R) : Option R :=
  bnd3 (s_value N f w) fun n b3 b4 => br (!b3) F (br b (L b4 n) (L false n))
theorem stV_eq (hN : 10 < N) (f : Int) (w : List UInt8) (b : Bool) (F : Option R) (L : Bool → Int → Option R) (h : w.length ≤ 1000000) : stV N f w b F L = if (valW f w).2.1 = true then L (b && (valW f w).2.2) (valW f w).1 else F := by
  unfold stV
  rw [value_eq N hN f w h]
  rcases valW f w with ⟨n, c, d⟩
  cases c <;> cases b <;> rfl
def linT (p : In × Int) : Int × Int × Int × Int × Int := (p.1.op, p.1.a, p.1.b, p.1.c, p.2)
theorem lineV_eq (hN : 10 < N) (k : Int) (l : List (List UInt8)) (h3 : l.length ≤ 3) (hb : ∀ w ∈ l, w.length ≤ 1000000) :
    S_line_12 N k (sL l) ((sL l).length : Int) 0 0 0 0 (fA k) (fB k) (fC k) N true 0 0 0 0 (fun n10 b11 n12 n13 n14 n15 n16 n17 n18 => some (n12, n13, n14, n15, n10)) (fun b19 n20 n21 n22 =>
      br (!b19) (some (0, 0, 0, 0, 2)) (bnd1 (s_cCheck N k n20 n21 n22) fun n23 => some (k, n20, n21, n22, n23))) = some (linT (lineV k l)) := by
  obtain ⟨t, ht⟩ : ∃ t, N = t + 4 := ⟨N - 4, by omega⟩
  generalize hx : fA k = x
  generalize hy : fB k = y
  generalize hz : fC k = z
  generalize hK0 : (fun n10 b11 n12 n13 n14 n15 n16 n17 n18 => some (n12, n13, n14, n15, n10) : Int → Bool → Int → Int → Int → Int → Int → Int → Int → Option (Int × Int × Int × Int × Int)) = K0
  generalize hK1 : (fun b19 n20 n21 n22 => br (!b19) (some (0, 0, 0, 0, 2)) (bnd1 (s_cCheck N k n20 n21 n22) fun n23 => some (k, n20, n21, n22, n23)) : Bool → Int → Int → Int → Option (Int × Int × Int × Int × Int)) = K1
  have k0 : ∀ b p q s, K0 30 b 0 0 0 0 p q s = some (linT (zI, 30)) := by intro b p q s; rw [← hK0]; rfl
  have k1 : ∀ b p q s, K1 b p q s = some (linT (if b = true then (⟨k, p, q, s⟩, chk ⟨k, p, q, s⟩) else (zI, 2))) := by
    intro b p q s
    rw [← hK1]
    simp only
    cases b with
    | false => rfl
    | true =>
      rw [show s_cCheck N k p q s = _ from cCheck_eq N hN ⟨k, p, q, s⟩]
      rfl
  unfold lineV
  rw [hx, hy, hz]
  have key : ∀ u, S_line_12 N k (sL l) ((sL l).length : Int) 0 0 0 0 x y z (u + 4) true 0 0 0 0 K0 K1 = some (linT (match valsW [x, y, z] l with
      | none => (zI, 30)
      | some (l, fits) => if fits = true then (⟨k, l.getD 0 0, l.getD 1 0, l.getD 2 0⟩, chk ⟨k, l.getD 0 0, l.getD 1 0, l.getD 2 0⟩) else (zI, 2))) := by
    intro u
    match l, h3 with
    | [], _ =>
      show K1 true 0 0 0 = _
      rw [k1]; rfl
    | [a], _ =>
      have e0 : S_line_12 N k (sL [a]) ((sL [a]).length : Int) 0 0 0 0 x y z (u + 4) true 0 0 0 0 K0 K1 = stV N x a true (K0 30 true 0 0 0 0 0 0 0) fun b n => K1 b n 0 0 := id rfl
      rw [e0, stV_eq N hN _ _ _ _ _ (hb a (by simp)), k0]
      simp only [valsW, k1]
      rcases valW x a with ⟨n, c, d⟩
      cases c <;> cases d <;> rfl
    | [a, b], _ =>
      have e0 : S_line_12 N k (sL [a, b]) ((sL [a, b]).length : Int) 0 0 0 0 x y z (u + 4) true 0 0 0 0 K0 K1 = stV N x a true (K0 30 true 0 0 0 0 0 0 0) fun f n => stV N y b f (K0 30 f 0 0 0 0 n 0 0) fun f m => K1 f n m 0 := id rfl
      rw [e0, stV_eq N hN _ _ _ _ _ (hb a (by simp))]
      simp only [stV_eq N hN _ _ _ _ _ (hb b (by simp)), k0, valsW, k1]
      rcases valW x a with ⟨n, c, d⟩
      rcases valW y b with ⟨n', c', d'⟩
      cases c <;> cases d <;> cases c' <;> cases d' <;> rfl
    | [a, b, e], _ =>
      have e0 : S_line_12 N k (sL [a, b, e]) ((sL [a, b, e]).length : Int) 0 0 0 0 x y z (u + 4) true 0 0 0 0 K0 K1 = stV N x a true (K0 30 true 0 0 0 0 0 0 0) fun f n => stV N y b f (K0 30 f 0 0 0 0 n 0 0) fun f m => stV N z e f (K0 30 f 0 0 0 0 n m 0) fun f o => K1 f n m o := id rfl
      rw [e0, stV_eq N hN _ _ _ _ _ (hb a (by simp))]
      simp only [stV_eq N hN _ _ _ _ _ (hb b (by simp)), stV_eq N hN _ _ _ _ _ (hb e (by simp)), k0, valsW, k1]
      rcases valW x a with ⟨n, c, d⟩
      rcases valW y b with ⟨n', c', d'⟩
      rcases valW z e with ⟨n2, c2, d2⟩
      cases c <;> cases d <;> cases c' <;> cases d' <;> cases c2 <;> cases d2 <;> rfl
  have := key t
  rw [← ht] at this
  exact this
theorem line_eq (hN : 60 < N) (s : List UInt8) (h : s.length ≤ 900000) : s_line N s = some (linT (lineP s)) := by
  unfold s_line lineP
  rw [splitS_eq N 32 s (by omega), bnd1_mk, names_eq, bnd1_mk]
  obtain ⟨q1, q2⟩ := split1_len 32 s
  cases hs : split1 32 s with
  | nil => exact absurd hs (split1_ne 32 s)
  | cons w r =>
    rw [hs] at q1 q2
    simp only [List.length_cons] at q1
    have hb : ∀ v ∈ r, v.length ≤ 1000000 := fun v hv => by have := q2 v (by simp [hv]); omega
    simp only
    have e1 : (0 : Int) < ((sL (w :: r)).length : Int) := by rw [sL_len]; simp <;> omega
    have e2 : (1 : Int) ≤ ((sL (w :: r)).length : Int) := by rw [sL_len]; simp <;> omega
    rw [br_dec, if_pos e1, sL_cons, at_zero, unStr_mk, ← sL_cons]
    rw [show (namesL.map V.str) = sL namesL from rfl, index_eq N namesL w (by show 54 < N; omega) (by decide), bnd1_mk, br_dec]
    unfold idxI
    cases hi : idxN w namesL with
    | none => rfl
    | some k =>
      have k1 : k < 54 := (idx_back w namesL k hi).1
      simp only
      rw [if_neg (by omega), formOf_eq N (by omega) (by omega), bnd3_mk, br_dec, if_pos e2]
      have hw := words_eq N (by omega) (fm_of (op := (k : Int)) (by omega) (by omega)) r (by omega) hb
      have hd : List.drop 1 (sL (w :: r)) = sL r := rfl
      rw [hd]
      unfold lineK
      cases hk : wordsW (fA (k : Int)) (fB (k : Int)) (fC (k : Int)) r with
      | none =>
        rw [hk] at hw
        obtain ⟨vs, hw⟩ := hw
        rw [hw]; rfl
      | some l =>
        rw [hk] at hw
        have hw : s_words N (fA (k : Int)) (fB (k : Int)) (fC (k : Int)) (sL r) = some (sL l, true) := hw
        obtain ⟨l3, lb⟩ := words_len hk hb
        rw [hw, bnd2_mk, br_not, br_t]
        exact lineV_eq N (by omega) (k : Int) l l3 lb
theorem cParse_loop (hN : 60 < N) : ∀ (t : Nat) (acc : List In) (s : List UInt8), s.length < t → s.length ≤ 900000 → acc.length ≤ 256 →
    S_cParse_2 N t s (iE acc) (fun l0 n1 l2 => some (l0, n1)) (fun l3 => some (l3, (0 : Int))) = some (decV (parseL t acc s))
  | 0, acc, s, ht, _, _ => by omega
  | t + 1, acc, [], ht, _, ha => by
    unfold S_cParse_2 F_cParse_2 parseL
    rw [br_not, br_dec, if_pos rfl]; rfl
  | t + 1, acc, b :: r, ht, hl, ha => by
    unfold S_cParse_2 F_cParse_2 parseL
    rw [br_not, br_dec, if_neg (by simp), br_dec, iE_len]
    by_cases c : acc.length = 256
    · rw [if_pos (by omega), if_pos c]; rfl
    rw [if_neg (by omega), if_neg c, cut_eq N 10 (b :: r) (by omega)]
    have hc1 := cut1_len 10 (b :: r)
    rcases hc : cut1 10 (b :: r) with ⟨x, y, e⟩
    rw [hc] at hc1
    simp only at hc1
    cases e with
    | false => rfl
    | true =>
      have hy : y.length < t := by
        have := congrArg List.length (cut1_back 10 _ x y hc)
        simp at this ht; omega
      simp only [bnd3_mk, br_not, br_t, if_true]
      rw [line_eq N hN x (by omega)]
      rcases hp : lineP x with ⟨i, e⟩
      unfold linT
      simp only [bnd5_mk, br_not, br_dec]
      by_cases c2 : e = 0
      · rw [if_pos c2, if_pos c2, if_pos (by simp <;> omega), iV_def, iE_snoc]
        exact cParse_loop hN t (acc ++ [i]) y hy (by omega) (by simp <;> omega)
      · rw [if_neg c2, if_neg c2]; rfl
theorem cParse_eq (hN : 60 < N) (s : List UInt8) (h : s.length < N) (h2 : s.length ≤ 900000) : s_cParse N s = some (decV (parseL N [] s)) := cParse_loop N hN N [] s h h2 (by simp)
end
end Go.Proofs.YtjpmogajlnkihaaDoor.En

/- The chapter's first example, as an item of the engine (written by hand after the printer's form: the printer takes too long at it). -/
namespace Go.Proofs.YtjpmogajlnkihaaDoor.En
open Go Go.Proofs
set_option maxRecDepth 100000
set_option linter.unusedVariables false
noncomputable def e_awake {R : Type} (s : Option (Bool)) (ds : List D) (K : List D → Option R) : Option R :=
  match ds with
  | [] => bnd1 (s) fun r0 => K [.v (.bool r0) .no]
  | _ => none
noncomputable def r_awake (rs : List D) (_ : Mem) : Option (Bool) :=
  match rs with
  | [.v (.bool r0) _] => some (r0)
  | _ => none
def awL : List V := [V.agg [.int .i64 3, .int .i64 0, .int .i64 0, .int .i64 0], V.agg [.int .i64 1, .int .i64 1, .int .i64 0, .int .i64 0], V.agg [.int .i64 9, .int .i64 0, .int .i64 0, .int .i64 0], V.agg [.int .i64 49, .int .i64 0, .int .i64 0, .int .i64 0]]
def awT : List UInt8 := [108, 111, 97, 100, 32, 48, 10, 112, 117, 115, 104, 32, 49, 10, 97, 100, 100, 10, 114, 101, 116, 117, 114, 110, 10]
noncomputable def s_awake (N : Nat)  : Option (Bool) := bnd2 (s_cEncode N awL) fun l0 n1 => bnd2 (s_cParse N awT) fun l2 n3 => br (decide (n1 = 0)) (bnd1 (s_Same1 N l0 ([3, 0, 1, 0, 0, 0, 1, 9, 49] : List UInt8)) fun b4 => br b4 (br (decide (n3 = 0)) (bnd1 (s_rSame N l2 awL) fun b5 => br b5 (bnd1 (s_cText N awL) fun l6 => some (decide (l6 = awT))) (some false)) (some false)) (some false)) (some false)
noncomputable def cx_awake (N : Nat) : Cx := { T := T, isPure := tabP [⟨15, e_cEncode (s_cEncode N)⟩, ⟨20, e_cParse (s_cParse N)⟩, ⟨17, e_Same1 (s_Same1 N)⟩, ⟨22, e_rSame (s_rSame N)⟩, ⟨18, e_cText (s_cText N)⟩], pureK := fun g ds K => tabK [⟨15, e_cEncode (s_cEncode N)⟩, ⟨20, e_cParse (s_cParse N)⟩, ⟨17, e_Same1 (s_Same1 N)⟩, ⟨22, e_rSame (s_rSame N)⟩, ⟨18, e_cText (s_cText N)⟩] g ds K, memK := fun g dst ds m K => tabMK [] g dst ds m K, meth := tabM [], keep := fun _ => [], keepX := fun _ => [], loopT := fun _ _ _ _ => none, jumps := 9 }
theorem s_awake_ok (N : Nat)  : bodyK (cx_awake N) Tryd.f14 [] [] r_awake = s_awake N  := by
  kernel_rfl
theorem go_awake : Goes Tryd.prog 14 := goes_of Tryd.func14 (by kernel_rfl) (c := bodyOf Tryd.f14) (by kernel_rfl)
theorem eo_awake (s : Option (Bool)) (hs : ∀  (r0 : Bool), s  = some r0 → PureRet Tryd.prog T 14 [] [.v (.bool r0) .no]) : EntOK Tryd.prog T ⟨14, e_awake s⟩ := by
  refine ⟨go_awake, fun R ds K r h => ?_, fun R ds K => ?_⟩
  · simp only [e_awake] at h
    split at h
    · obtain ⟨r0, h1, h2⟩ := bnd1_some h
      exact ⟨_, h2, hs _ h1⟩
    · cases h
  · simp only [e_awake]
    split
    · rw [bnd1_b]; rfl
    · rfl
theorem co_awake (N : Nat) : CxOK Tryd.prog (cx_awake N) :=
  cxOK_of2 (es := [⟨15, e_cEncode (s_cEncode N)⟩, ⟨20, e_cParse (s_cParse N)⟩, ⟨17, e_Same1 (s_Same1 N)⟩, ⟨22, e_rSame (s_rSame N)⟩, ⟨18, e_cText (s_cText N)⟩]) (me := []) (ms := []) T_ok ⟨eo_cEncode _ (p_cEncode N), eo_cParse _ (p_cParse N), eo_Same1 _ (p_Same1 N), eo_rSame _ (p_rSame N), eo_cText _ (p_cText N), trivial⟩ trivial trivial rfl (fun _ _ _ _ => rfl) (fun _ _ _ _ _ _ => rfl) rfl
theorem lo_awake (N : Nat) : LoopsOK (cx_awake N) Tryd.f14.ntmps (bodyOf Tryd.f14) :=
  loopsOK_of (k := 0) (by kernel_rfl) trivial
theorem p_awake (N : Nat)  (r0 : Bool) (h : s_awake N  = some r0) : PureRet Tryd.prog T 14 [] [.v (.bool r0) .no] :=
  pure_of (cx := cx_awake N) (by kernel_rfl) (co_awake N) Tryd.func14 (by kernel_rfl) (by kernel_rfl) (lo_awake N) rfl rfl rfl (rf := r_awake) ((s_awake_ok N ).trans h) (fun rs' m h => by
    unfold r_awake at h
    split at h
    · cases h; exact ⟨rfl, rfl⟩
    · cases h)
end Go.Proofs.YtjpmogajlnkihaaDoor.En

/- Functions of the program in plain Lean, joined to the program by evaluation; printed by a program. -/
namespace Go.Proofs.YtjpmogajlnkihaaDoor.En
open Go Go.Proofs
set_option maxRecDepth 100000
set_option linter.unusedVariables false
noncomputable def r_wChecks (rs : List D) (_ : Mem) : Option (Bool) :=
  match rs with
  | [.v (.bool r0) _] => some (r0)
  | _ => none
noncomputable def s_wChecks (N : Nat) (x0 : Int) (x1 : Int) (x2 : Int) (x3 : Int) : Option (Bool) := bnd1 (s_cCheck N x0 x1 x2 x3) fun n0 => bnd1 (s_rCheck N x0 x1 x2 x3) fun n1 => br (decide (n0 = n1)) (bnd1 (s_awake N) fun b2 => some b2) (some false)
noncomputable def cx_wChecks (N : Nat) : Cx := { T := T, isPure := tabP [⟨12, e_cCheck (s_cCheck N)⟩, ⟨13, e_rCheck (s_rCheck N)⟩, ⟨14, e_awake (s_awake N)⟩], pureK := fun g ds K => tabK [⟨12, e_cCheck (s_cCheck N)⟩, ⟨13, e_rCheck (s_rCheck N)⟩, ⟨14, e_awake (s_awake N)⟩] g ds K, memK := fun g dst ds m K => tabMK [] g dst ds m K, meth := tabM [], keep := fun _ => [], keepX := fun _ => [], loopT := fun _ _ _ _ => none, jumps := 9 }
theorem s_wChecks_ok (N : Nat) (x0 : Int) (x1 : Int) (x2 : Int) (x3 : Int) : bodyK (cx_wChecks N) Tryd.f3 [.agg [.v (.int .i64 x0) .no, .v (.int .i64 x1) .no, .v (.int .i64 x2) .no, .v (.int .i64 x3) .no]] [] r_wChecks = s_wChecks N x0 x1 x2 x3 := by
  kernel_rfl
theorem co_wChecks (N : Nat) : CxOK Tryd.prog (cx_wChecks N) :=
  cxOK_of2 (es := [⟨12, e_cCheck (s_cCheck N)⟩, ⟨13, e_rCheck (s_rCheck N)⟩, ⟨14, e_awake (s_awake N)⟩]) (me := []) (ms := []) T_ok ⟨eo_cCheck _ (p_cCheck N), eo_rCheck _ (p_rCheck N), eo_awake _ (p_awake N), trivial⟩ trivial trivial rfl (fun _ _ _ _ => rfl) (fun _ _ _ _ _ _ => rfl) rfl
theorem lo_wChecks (N : Nat) : LoopsOK (cx_wChecks N) Tryd.f3.ntmps (bodyOf Tryd.f3) :=
  loopsOK_of (k := 0) (by kernel_rfl) trivial
theorem p_wChecks (N : Nat) (x0 : Int) (x1 : Int) (x2 : Int) (x3 : Int) (r0 : Bool) (h : s_wChecks N x0 x1 x2 x3 = some r0) : PureRet Tryd.prog T 3 [.agg [.v (.int .i64 x0) .no, .v (.int .i64 x1) .no, .v (.int .i64 x2) .no, .v (.int .i64 x3) .no]] [.v (.bool r0) .no] :=
  pure_of (cx := cx_wChecks N) (by kernel_rfl) (co_wChecks N) Tryd.func3 (by kernel_rfl) (by kernel_rfl) (lo_wChecks N) rfl rfl rfl (rf := r_wChecks) ((s_wChecks_ok N x0 x1 x2 x3).trans h) (fun rs' m h => by
    unfold r_wChecks at h
    split at h
    · cases h; exact ⟨rfl, rfl⟩
    · cases h)
noncomputable def r_wEncodes (rs : List D) (_ : Mem) : Option (Bool) :=
  match rs with
  | [.v (.bool r0) _] => some (r0)
  | _ => none
noncomputable def s_wEncodes (N : Nat) (x0 : List V) : Option (Bool) := br (decide (300 < (↑x0.length : Int))) (some true) (bnd2 (s_cEncode N x0) fun l0 n1 => bnd2 (s_rEncode N x0) fun l2 n3 => br (decide (n1 = n3)) (bnd1 (s_Same1 N l0 l2) fun b4 => br b4 (bnd1 (s_awake N) fun b5 => some b5) (some false)) (some false))
noncomputable def cx_wEncodes (N : Nat) : Cx := { T := T, isPure := tabP [⟨15, e_cEncode (s_cEncode N)⟩, ⟨16, e_rEncode (s_rEncode N)⟩, ⟨17, e_Same1 (s_Same1 N)⟩, ⟨14, e_awake (s_awake N)⟩], pureK := fun g ds K => tabK [⟨15, e_cEncode (s_cEncode N)⟩, ⟨16, e_rEncode (s_rEncode N)⟩, ⟨17, e_Same1 (s_Same1 N)⟩, ⟨14, e_awake (s_awake N)⟩] g ds K, memK := fun g dst ds m K => tabMK [] g dst ds m K, meth := tabM [], keep := fun _ => [], keepX := fun _ => [], loopT := fun _ _ _ _ => none, jumps := 9 }
theorem s_wEncodes_ok (N : Nat) (x0 : List V) : bodyK (cx_wEncodes N) Tryd.f4 [.v (.sl 23 x0) .no] [] r_wEncodes = s_wEncodes N x0 := by
  kernel_rfl
theorem co_wEncodes (N : Nat) : CxOK Tryd.prog (cx_wEncodes N) :=
  cxOK_of2 (es := [⟨15, e_cEncode (s_cEncode N)⟩, ⟨16, e_rEncode (s_rEncode N)⟩, ⟨17, e_Same1 (s_Same1 N)⟩, ⟨14, e_awake (s_awake N)⟩]) (me := []) (ms := []) T_ok ⟨eo_cEncode _ (p_cEncode N), eo_rEncode _ (p_rEncode N), eo_Same1 _ (p_Same1 N), eo_awake _ (p_awake N), trivial⟩ trivial trivial rfl (fun _ _ _ _ => rfl) (fun _ _ _ _ _ _ => rfl) rfl
theorem lo_wEncodes (N : Nat) : LoopsOK (cx_wEncodes N) Tryd.f4.ntmps (bodyOf Tryd.f4) :=
  loopsOK_of (k := 0) (by kernel_rfl) trivial
theorem p_wEncodes (N : Nat) (x0 : List V) (r0 : Bool) (h : s_wEncodes N x0 = some r0) : PureRet Tryd.prog T 4 [.v (.sl 23 x0) .no] [.v (.bool r0) .no] :=
  pure_of (cx := cx_wEncodes N) (by kernel_rfl) (co_wEncodes N) Tryd.func4 (by kernel_rfl) (by kernel_rfl) (lo_wEncodes N) rfl rfl rfl (rf := r_wEncodes) ((s_wEncodes_ok N x0).trans h) (fun rs' m h => by
    unfold r_wEncodes at h
    split at h
    · cases h; exact ⟨rfl, rfl⟩
    · cases h)
noncomputable def r_wDecodes (rs : List D) (_ : Mem) : Option (Bool) :=
  match rs with
  | [.v (.bool r0) _] => some (r0)
  | _ => none
noncomputable def s_wDecodes (N : Nat) (x0 : List UInt8) : Option (Bool) := br (decide (1500 < (↑x0.length : Int))) (some true) (bnd2 (s_cDecode N x0) fun l0 n1 => bnd2 (s_rDecode N x0) fun l2 n3 => br (decide (n1 = n3)) (bnd1 (s_rSame N l0 l2) fun b4 => br b4 (bnd1 (s_awake N) fun b5 => some b5) (some false)) (some false))
noncomputable def cx_wDecodes (N : Nat) : Cx := { T := T, isPure := tabP [⟨27, e_cDecode (s_cDecode N)⟩, ⟨28, e_rDecode (s_rDecode N)⟩, ⟨22, e_rSame (s_rSame N)⟩, ⟨14, e_awake (s_awake N)⟩], pureK := fun g ds K => tabK [⟨27, e_cDecode (s_cDecode N)⟩, ⟨28, e_rDecode (s_rDecode N)⟩, ⟨22, e_rSame (s_rSame N)⟩, ⟨14, e_awake (s_awake N)⟩] g ds K, memK := fun g dst ds m K => tabMK [] g dst ds m K, meth := tabM [], keep := fun _ => [], keepX := fun _ => [], loopT := fun _ _ _ _ => none, jumps := 9 }
theorem s_wDecodes_ok (N : Nat) (x0 : List UInt8) : bodyK (cx_wDecodes N) Tryd.f9 [.v (.bytes x0) .no] [] r_wDecodes = s_wDecodes N x0 := by
  kernel_rfl
theorem co_wDecodes (N : Nat) : CxOK Tryd.prog (cx_wDecodes N) :=
  cxOK_of2 (es := [⟨27, e_cDecode (s_cDecode N)⟩, ⟨28, e_rDecode (s_rDecode N)⟩, ⟨22, e_rSame (s_rSame N)⟩, ⟨14, e_awake (s_awake N)⟩]) (me := []) (ms := []) T_ok ⟨eo_cDecode _ (p_cDecode N), eo_rDecode _ (p_rDecode N), eo_rSame _ (p_rSame N), eo_awake _ (p_awake N), trivial⟩ trivial trivial rfl (fun _ _ _ _ => rfl) (fun _ _ _ _ _ _ => rfl) rfl
theorem lo_wDecodes (N : Nat) : LoopsOK (cx_wDecodes N) Tryd.f9.ntmps (bodyOf Tryd.f9) :=
  loopsOK_of (k := 0) (by kernel_rfl) trivial
theorem p_wDecodes (N : Nat) (x0 : List UInt8) (r0 : Bool) (h : s_wDecodes N x0 = some r0) : PureRet Tryd.prog T 9 [.v (.bytes x0) .no] [.v (.bool r0) .no] :=
  pure_of (cx := cx_wDecodes N) (by kernel_rfl) (co_wDecodes N) Tryd.func9 (by kernel_rfl) (by kernel_rfl) (lo_wDecodes N) rfl rfl rfl (rf := r_wDecodes) ((s_wDecodes_ok N x0).trans h) (fun rs' m h => by
    unfold r_wDecodes at h
    split at h
    · cases h; exact ⟨rfl, rfl⟩
    · cases h)
noncomputable def r_wTexts (rs : List D) (_ : Mem) : Option (Bool) :=
  match rs with
  | [.v (.bool r0) _] => some (r0)
  | _ => none
noncomputable def s_wTexts (N : Nat) (x0 : List V) : Option (Bool) := br (decide (300 < (↑x0.length : Int))) (some true) (bnd1 (s_cText N x0) fun l0 => bnd1 (s_rText N x0) fun l1 => br (decide (l0 = l1)) (bnd1 (s_awake N) fun b2 => some b2) (some false))
noncomputable def cx_wTexts (N : Nat) : Cx := { T := T, isPure := tabP [⟨18, e_cText (s_cText N)⟩, ⟨19, e_rText (s_rText N)⟩, ⟨14, e_awake (s_awake N)⟩], pureK := fun g ds K => tabK [⟨18, e_cText (s_cText N)⟩, ⟨19, e_rText (s_rText N)⟩, ⟨14, e_awake (s_awake N)⟩] g ds K, memK := fun g dst ds m K => tabMK [] g dst ds m K, meth := tabM [], keep := fun _ => [], keepX := fun _ => [], loopT := fun _ _ _ _ => none, jumps := 9 }
theorem s_wTexts_ok (N : Nat) (x0 : List V) : bodyK (cx_wTexts N) Tryd.f5 [.v (.sl 23 x0) .no] [] r_wTexts = s_wTexts N x0 := by
  kernel_rfl
theorem co_wTexts (N : Nat) : CxOK Tryd.prog (cx_wTexts N) :=
  cxOK_of2 (es := [⟨18, e_cText (s_cText N)⟩, ⟨19, e_rText (s_rText N)⟩, ⟨14, e_awake (s_awake N)⟩]) (me := []) (ms := []) T_ok ⟨eo_cText _ (p_cText N), eo_rText _ (p_rText N), eo_awake _ (p_awake N), trivial⟩ trivial trivial rfl (fun _ _ _ _ => rfl) (fun _ _ _ _ _ _ => rfl) rfl
theorem lo_wTexts (N : Nat) : LoopsOK (cx_wTexts N) Tryd.f5.ntmps (bodyOf Tryd.f5) :=
  loopsOK_of (k := 0) (by kernel_rfl) trivial
theorem p_wTexts (N : Nat) (x0 : List V) (r0 : Bool) (h : s_wTexts N x0 = some r0) : PureRet Tryd.prog T 5 [.v (.sl 23 x0) .no] [.v (.bool r0) .no] :=
  pure_of (cx := cx_wTexts N) (by kernel_rfl) (co_wTexts N) Tryd.func5 (by kernel_rfl) (by kernel_rfl) (lo_wTexts N) rfl rfl rfl (rf := r_wTexts) ((s_wTexts_ok N x0).trans h) (fun rs' m h => by
    unfold r_wTexts at h
    split at h
    · cases h; exact ⟨rfl, rfl⟩
    · cases h)
noncomputable def r_wNatives (rs : List D) (_ : Mem) : Option (Bool) :=
  match rs with
  | [.v (.bool r0) _] => some (r0)
  | _ => none
noncomputable def s_wNatives (N : Nat) (x0 : Int) : Option (Bool) := bnd5 (s_cNative N x0) fun l0 n1 n2 n3 b4 => bnd5 (s_rNative N x0) fun l5 n6 n7 n8 b9 => br (b4 == b9) (br (decide (n1 = n6) && (decide (n2 = n7) && (decide (n3 = n8) && true) && true)) (bnd1 (s_rSameTypes N l0 l5) fun b10 => br b10 (bnd1 (s_awake N) fun b11 => some b11) (some false)) (some false)) (some false)
noncomputable def cx_wNatives (N : Nat) : Cx := { T := T, isPure := tabP [⟨24, e_cNative (s_cNative N)⟩, ⟨25, e_rNative (s_rNative N)⟩, ⟨26, e_rSameTypes (s_rSameTypes N)⟩, ⟨14, e_awake (s_awake N)⟩], pureK := fun g ds K => tabK [⟨24, e_cNative (s_cNative N)⟩, ⟨25, e_rNative (s_rNative N)⟩, ⟨26, e_rSameTypes (s_rSameTypes N)⟩, ⟨14, e_awake (s_awake N)⟩] g ds K, memK := fun g dst ds m K => tabMK [] g dst ds m K, meth := tabM [], keep := fun _ => [], keepX := fun _ => [], loopT := fun _ _ _ _ => none, jumps := 9 }
theorem s_wNatives_ok (N : Nat) (x0 : Int) : bodyK (cx_wNatives N) Tryd.f8 [.v (.int .i64 x0) .no] [] r_wNatives = s_wNatives N x0 := by
  kernel_rfl
theorem co_wNatives (N : Nat) : CxOK Tryd.prog (cx_wNatives N) :=
  cxOK_of2 (es := [⟨24, e_cNative (s_cNative N)⟩, ⟨25, e_rNative (s_rNative N)⟩, ⟨26, e_rSameTypes (s_rSameTypes N)⟩, ⟨14, e_awake (s_awake N)⟩]) (me := []) (ms := []) T_ok ⟨eo_cNative _ (p_cNative N), eo_rNative _ (p_rNative N), eo_rSameTypes _ (p_rSameTypes N), eo_awake _ (p_awake N), trivial⟩ trivial trivial rfl (fun _ _ _ _ => rfl) (fun _ _ _ _ _ _ => rfl) rfl
theorem lo_wNatives (N : Nat) : LoopsOK (cx_wNatives N) Tryd.f8.ntmps (bodyOf Tryd.f8) :=
  loopsOK_of (k := 0) (by kernel_rfl) trivial
theorem p_wNatives (N : Nat) (x0 : Int) (r0 : Bool) (h : s_wNatives N x0 = some r0) : PureRet Tryd.prog T 8 [.v (.int .i64 x0) .no] [.v (.bool r0) .no] :=
  pure_of (cx := cx_wNatives N) (by kernel_rfl) (co_wNatives N) Tryd.func8 (by kernel_rfl) (by kernel_rfl) (lo_wNatives N) rfl rfl rfl (rf := r_wNatives) ((s_wNatives_ok N x0).trans h) (fun rs' m h => by
    unfold r_wNatives at h
    split at h
    · cases h; exact ⟨rfl, rfl⟩
    · cases h)
end Go.Proofs.YtjpmogajlnkihaaDoor.En

/- The printed functions, together. -/

/- Functions of the program in plain Lean, joined to the program by evaluation; printed by a program. -/
namespace Go.Proofs.YtjpmogajlnkihaaDoor.En
open Go Go.Proofs
set_option maxRecDepth 100000
set_option linter.unusedVariables false
noncomputable def r_wRoundTrip (rs : List D) (_ : Mem) : Option (Bool) :=
  match rs with
  | [.v (.bool r0) _] => some (r0)
  | _ => none
noncomputable def s_wRoundTrip (N : Nat) (x0 : List V) (x1 : List UInt8) (x2 : List UInt8) : Option (Bool) := br (decide (300 < (↑x0.length : Int))) (some true) (br (decide (1500 < (↑x1.length : Int))) (some true) (br (decide (3000 < (↑x2.length : Int))) (some true) (bnd2 (s_cEncode N x0) fun l0 n1 => br (decide (n1 = 0)) (bnd2 (s_cDecode N l0) fun l2 n3 => bnd1 (s_cText N x0) fun l4 => bnd2 (s_cParse N l4) fun l5 n6 => br (!decide (n3 = 0)) (some false) (br (!decide (n6 = 0)) (some false) (bnd1 (s_rSame N l2 x0) fun b7 => br (!b7) (some false) (bnd1 (s_rSame N l5 x0) fun b8 => br (!b8) (some false) (bnd2 (s_cDecode N x1) fun l9 n10 => br (decide (n10 = 0)) (bnd2 (s_cEncode N l9) fun l11 n12 => br (!decide (n12 = 0)) (some false) (bnd1 (s_Same1 N l11 x1) fun b13 => br (!b13) (some false) (bnd2 (s_cParse N x2) fun l14 n15 => br (decide (n15 = 0)) (bnd1 (s_cText N l14) fun l16 => br (!decide (l16 = x2)) (some false) (bnd1 (s_awake N) fun b17 => some b17)) (bnd1 (s_awake N) fun b18 => some b18)))) (bnd2 (s_cParse N x2) fun l19 n20 => br (decide (n20 = 0)) (bnd1 (s_cText N l19) fun l21 => br (!decide (l21 = x2)) (some false) (bnd1 (s_awake N) fun b22 => some b22)) (bnd1 (s_awake N) fun b23 => some b23))))))) (bnd2 (s_cDecode N x1) fun l24 n25 => br (decide (n25 = 0)) (bnd2 (s_cEncode N l24) fun l26 n27 => br (!decide (n27 = 0)) (some false) (bnd1 (s_Same1 N l26 x1) fun b28 => br (!b28) (some false) (bnd2 (s_cParse N x2) fun l29 n30 => br (decide (n30 = 0)) (bnd1 (s_cText N l29) fun l31 => br (!decide (l31 = x2)) (some false) (bnd1 (s_awake N) fun b32 => some b32)) (bnd1 (s_awake N) fun b33 => some b33)))) (bnd2 (s_cParse N x2) fun l34 n35 => br (decide (n35 = 0)) (bnd1 (s_cText N l34) fun l36 => br (!decide (l36 = x2)) (some false) (bnd1 (s_awake N) fun b37 => some b37)) (bnd1 (s_awake N) fun b38 => some b38))))))
noncomputable def cx_wRoundTrip (N : Nat) : Cx := { T := T, isPure := tabP [⟨15, e_cEncode (s_cEncode N)⟩, ⟨27, e_cDecode (s_cDecode N)⟩, ⟨18, e_cText (s_cText N)⟩, ⟨20, e_cParse (s_cParse N)⟩, ⟨22, e_rSame (s_rSame N)⟩, ⟨17, e_Same1 (s_Same1 N)⟩, ⟨14, e_awake (s_awake N)⟩], pureK := fun g ds K => tabK [⟨15, e_cEncode (s_cEncode N)⟩, ⟨27, e_cDecode (s_cDecode N)⟩, ⟨18, e_cText (s_cText N)⟩, ⟨20, e_cParse (s_cParse N)⟩, ⟨22, e_rSame (s_rSame N)⟩, ⟨17, e_Same1 (s_Same1 N)⟩, ⟨14, e_awake (s_awake N)⟩] g ds K, memK := fun g dst ds m K => tabMK [] g dst ds m K, meth := tabM [], keep := fun _ => [], keepX := fun _ => [], loopT := fun _ _ _ _ => none, jumps := 9 }
theorem s_wRoundTrip_ok (N : Nat) (x0 : List V) (x1 : List UInt8) (x2 : List UInt8) : bodyK (cx_wRoundTrip N) Tryd.f10 [.v (.sl 23 x0) .no, .v (.bytes x1) .no, .v (.str x2) .no] [] r_wRoundTrip = s_wRoundTrip N x0 x1 x2 := by
  kernel_rfl
theorem co_wRoundTrip (N : Nat) : CxOK Tryd.prog (cx_wRoundTrip N) :=
  cxOK_of2 (es := [⟨15, e_cEncode (s_cEncode N)⟩, ⟨27, e_cDecode (s_cDecode N)⟩, ⟨18, e_cText (s_cText N)⟩, ⟨20, e_cParse (s_cParse N)⟩, ⟨22, e_rSame (s_rSame N)⟩, ⟨17, e_Same1 (s_Same1 N)⟩, ⟨14, e_awake (s_awake N)⟩]) (me := []) (ms := []) T_ok ⟨eo_cEncode _ (p_cEncode N), eo_cDecode _ (p_cDecode N), eo_cText _ (p_cText N), eo_cParse _ (p_cParse N), eo_rSame _ (p_rSame N), eo_Same1 _ (p_Same1 N), eo_awake _ (p_awake N), trivial⟩ trivial trivial rfl (fun _ _ _ _ => rfl) (fun _ _ _ _ _ _ => rfl) rfl
theorem lo_wRoundTrip (N : Nat) : LoopsOK (cx_wRoundTrip N) Tryd.f10.ntmps (bodyOf Tryd.f10) :=
  loopsOK_of (k := 0) (by kernel_rfl) trivial
theorem p_wRoundTrip (N : Nat) (x0 : List V) (x1 : List UInt8) (x2 : List UInt8) (r0 : Bool) (h : s_wRoundTrip N x0 x1 x2 = some r0) : PureRet Tryd.prog T 10 [.v (.sl 23 x0) .no, .v (.bytes x1) .no, .v (.str x2) .no] [.v (.bool r0) .no] :=
  pure_of (cx := cx_wRoundTrip N) (by kernel_rfl) (co_wRoundTrip N) Tryd.func10 (by kernel_rfl) (by kernel_rfl) (lo_wRoundTrip N) rfl rfl rfl (rf := r_wRoundTrip) ((s_wRoundTrip_ok N x0 x1 x2).trans h) (fun rs' m h => by
    unfold r_wRoundTrip at h
    split at h
    · cases h; exact ⟨rfl, rfl⟩
    · cases h)
end Go.Proofs.YtjpmogajlnkihaaDoor.En

/- The printed functions, together. -/

/- The laws of chapter 27: Checks, Encodes, Decodes, Texts, Natives, RoundTrip; no program in sight. -/
namespace Go.Proofs.YtjpmogajlnkihaaDoor.En
open Go
set_option linter.unusedVariables false
theorem midG {α : Type} (pre : List α) (x : α) (suf : List α) : pre ++ x :: suf = (pre ++ [x]) ++ suf := by simp
theorem textAll_len : ∀ l : List In, (textAll l).length ≤ 87 * l.length
  | [] => by simp [textAll]
  | i :: l => by
    have := lineT_len i
    have := textAll_len l
    simp [textAll]; omega
section
variable (N : Nat) {R : Type}
theorem cmp_loop : ∀ (a b pre : List UInt8) (t : Nat), a.length < t → pre.length + a.length ≤ 9223372036854775807 → pre.length + b.length ≤ 9223372036854775807 →
    ∃ z, S_Compare_2 N (pre ++ a) (pre ++ b) t (pre.length : Int) (fun n0 => some n0) (br (decide (((pre ++ a).length : Int) < ((pre ++ b).length : Int))) (some (-1)) (br (decide (((pre ++ b).length : Int) < ((pre ++ a).length : Int))) (some 1) (some 0))) = some z ∧ (z = 0 ↔ a = b)
  | a, b, pre, 0, ht, _, _ => by omega
  | [], [], pre, t + 1, ht, _, _ => by
    unfold S_Compare_2 F_Compare_2
    exact ⟨0, by simp [br], by simp⟩
  | [], y :: b, pre, t + 1, ht, _, _ => by
    unfold S_Compare_2 F_Compare_2
    refine ⟨-1, ?_, by simp⟩
    simp only [br_dec, List.append_nil]
    rw [if_neg (by omega), if_pos (by simp <;> omega)]
  | x :: a, [], pre, t + 1, ht, _, _ => by
    unfold S_Compare_2 F_Compare_2
    refine ⟨1, ?_, by simp⟩
    simp only [br_dec, List.append_nil]
    rw [if_pos (by simp <;> omega), if_neg (by omega), if_neg (by simp <;> omega), if_pos (by simp <;> omega)]
  | x :: a, y :: b, pre, t + 1, ht, h1, h2 => by
    simp only [List.length_cons] at ht h1 h2
    obtain ⟨z, ih1, ih2⟩ := cmp_loop a b (pre ++ [x]) t (by omega) (by simp <;> omega) (by simp <;> omega)
    have e1 : (pre.length : Int) < ((pre ++ x :: a).length : Int) := by simp; omega
    have e2 : (pre.length : Int) < ((pre ++ y :: b).length : Int) := by simp; omega
    have e3 : (0 : Int) ≤ pre.length := by omega
    have e4 : IntKind.i64.wrap ((pre.length : Int) + 1) = ((pre ++ [x]).length : Int) := by rw [w64 (by omega) (by omega)]; simp
    unfold S_Compare_2 F_Compare_2
    simp only [br_t, br_f, br_dec, br_not, br_and, br_or, bnd1_mk, bnd2_mk, bnd3_mk, bnd4_mk, bnd5_mk, bnd10_mk, at_zero, at_succ, at_mid, unInt_mk, unBool_mk, unStr_mk, unBytes_mk, unSl_mk, unAgg_mk, unCons_mk, unNil_mk, e1, e2, e3, if_true, Int.toNat_natCast]
    by_cases c1 : (x.toNat : Int) < (y.toNat : Int)
    · rw [if_pos c1]
      exact ⟨-1, rfl, ⟨fun h => (by cases h), fun h => by injection h with h _; subst h; omega⟩⟩
    rw [if_neg c1]
    by_cases c2 : (y.toNat : Int) < (x.toNat : Int)
    · rw [if_pos c2]
      exact ⟨1, rfl, ⟨fun h => (by cases h), fun h => by injection h with h _; subst h; omega⟩⟩
    rw [if_neg c2]
    obtain rfl : x = y := UInt8.toNat_inj.1 (by omega)
    refine ⟨z, ?_, by rw [ih2]; simp⟩
    rw [e4]
    rw [← midG, ← midG] at ih1
    simpa only [br_dec] using ih1
theorem Same1_eq (a b : List UInt8) (h : a.length < N) (h1 : a.length ≤ 9223372036854775807) (h2 : b.length ≤ 9223372036854775807) : s_Same1 N a b = some (decide (a = b)) := by
  obtain ⟨z, h3, h4⟩ := cmp_loop N a b [] N h (by simpa using h1) (by simpa using h2)
  have h3' : s_Compare N a b = some z := h3
  unfold s_Same1
  rw [h3', bnd1_mk]
  exact congrArg some (decide_eq_decide.2 h4)
/-- A list of instructions is the same as itself. -/
theorem rSame_loop (K0 : Bool → Option R) (K1 : Option R) : ∀ (l : List In) (pre : List V) (t : Nat), l.length < t → pre.length + l.length ≤ 1000000 → S_rSame_4 N (pre ++ iE l) (pre ++ iE l) t (pre.length : Int) K0 K1 = K1
  | l, pre, 0, ht, _ => by omega
  | [], pre, t + 1, ht, _ => by
    unfold S_rSame_4 F_rSame_4
    simp only [iE, br_t, br_f, br_dec, br_not, br_and, br_or, bnd1_mk, bnd2_mk, bnd3_mk, bnd4_mk, bnd5_mk, bnd10_mk, at_zero, at_succ, at_mid, unInt_mk, unBool_mk, unStr_mk, unBytes_mk, unSl_mk, unAgg_mk, unCons_mk, unNil_mk, endV, if_false]
  | i :: l, pre, t + 1, ht, hl => by
    simp only [List.length_cons] at ht hl
    obtain ⟨h1, h2, h3⟩ := stepV pre (iV i) (iE l) (by rw [iE_len]; omega)
    have ih := rSame_loop K0 K1 l (pre ++ [iV i]) t (by omega) (by simp <;> omega)
    rw [← midV, ← h3] at ih
    unfold S_rSame_4 F_rSame_4
    simp only [iE, br_t, br_f, br_dec, br_not, br_and, br_or, bnd1_mk, bnd2_mk, bnd3_mk, bnd4_mk, bnd5_mk, bnd10_mk, at_zero, at_succ, at_mid, unInt_mk, unBool_mk, unStr_mk, unBytes_mk, unSl_mk, unAgg_mk, unCons_mk, unNil_mk, h1, h2, if_true, Int.toNat_natCast]
    show V.unAgg (iV i) _ = _
    unfold iV
    simp only [br_t, br_f, br_dec, br_not, br_and, br_or, bnd1_mk, bnd2_mk, bnd3_mk, bnd4_mk, bnd5_mk, bnd10_mk, at_zero, at_succ, at_mid, unInt_mk, unBool_mk, unStr_mk, unBytes_mk, unSl_mk, unAgg_mk, unCons_mk, unNil_mk, if_true]
    unfold iV at ih
    exact ih
theorem rSame_eq (l : List In) (h : l.length < N) (h2 : l.length ≤ 900000) : s_rSame N (iE l) (iE l) = some true := by
  unfold s_rSame
  rw [br_not, br_dec, if_pos rfl]
  have := rSame_loop N (fun b0 => some b0) (some true) l [] N h (by simpa using by omega)
  rw [List.nil_append] at this
  exact this
theorem encL_ok {l : List In} {x : List UInt8} (h : encL l = (x, 0)) : l.length ≤ 256 ∧ firstE l = 0 ∧ x = encAll l := by
  unfold encL at h
  split at h
  · injection h with _ h; cases h
  · split at h
    · injection h with h _; exact ⟨by omega, by assumption, h.symm⟩
    · rename_i c; injection h with _ h; exact absurd h c
theorem encL_of {l : List In} (h1 : l.length ≤ 256) (h2 : firstE l = 0) : encL l = (encAll l, 0) := by
  unfold encL
  rw [if_neg (by omega), if_pos h2]
theorem encL_err {l : List In} {x : List UInt8} {e : Int} (h : encL l = (x, e)) (he : e ≠ 0) : x = [] := by
  unfold encL at h
  split at h
  · injection h with h _; exact h.symm
  · split at h
    · injection h with _ h; exact absurd h.symm he
    · injection h with h _; exact h.symm
theorem encL_len {l : List In} {x : List UInt8} {e : Int} (h : encL l = (x, e)) : x.length ≤ 3328 := by
  by_cases c : e = 0
  · subst c
    obtain ⟨h1, h2, rfl⟩ := encL_ok h
    have := encAll_le l
    omega
  · rw [encL_err h c]; simp
theorem decL_len : ∀ (t : Nat) (acc : List In) (b : List UInt8), acc.length ≤ 256 → (decL t acc b).1.length ≤ 256
  | 0, acc, b, h => by simp [decL]
  | t + 1, acc, [], h => h
  | t + 1, acc, b :: r, h => by
    unfold decL
    split
    · simp
    · split
      · exact decL_len t _ _ (by simp <;> omega)
      · simp
theorem parseL_len : ∀ (t : Nat) (acc : List In) (b : List UInt8), acc.length ≤ 256 → (parseL t acc b).1.length ≤ 256
  | 0, acc, b, h => by simp [parseL]
  | t + 1, acc, [], h => h
  | t + 1, acc, b :: r, h => by
    unfold parseL
    split
    · simp
    · split
      · split
        · exact parseL_len t _ _ (by simp <;> omega)
        · simp
      · simp
/-! The chapter's first example -/
def awI : List In := [⟨3, 0, 0, 0⟩, ⟨1, 1, 0, 0⟩, ⟨9, 0, 0, 0⟩, ⟨49, 0, 0, 0⟩]
theorem awL_iE : awL = iE awI := id rfl
theorem awI_ok : firstE awI = 0 := by decide +kernel
theorem awI_enc : encAll awI = [3, 0, 1, 0, 0, 0, 1, 9, 49] := by decide +kernel
theorem awI_txt : textAll awI = awT := by decide +kernel
theorem awake_eq (hN : 200000 < N) : s_awake N = some true := by
  have he : encL awI = ([3, 0, 1, 0, 0, 0, 1, 9, 49], 0) := by rw [encL_of (by decide) awI_ok, awI_enc]
  have ht : textL awI = awT := by unfold textL; rw [he]; exact awI_txt
  have hp : parseL N [] awT = (awI, 0) := by rw [← awI_txt]; exact parse_text awI [] N (by show 4 < N; omega) (by decide) awI_ok
  unfold s_awake
  rw [awL_iE, cEncode_eq N (by omega) awI (by show 4 < N; omega) (by decide), he, bnd2_mk, cParse_eq N (by omega) awT (by show 25 < N; omega) (by decide), hp]
  unfold decV
  rw [bnd2_mk, br_dec, if_pos rfl, Same1_eq N _ _ (by show 9 < N; omega) (by decide) (by decide), bnd1_mk, decide_eq_true rfl, br_t, br_dec, if_pos rfl, rSame_eq N awI (by show 4 < N; omega) (by decide), bnd1_mk, br_t,
    cText_eq N (by omega) awI (by show 4 < N; omega) (by decide), ht, bnd1_mk, decide_eq_true rfl]
/-! The laws -/
theorem law_checks (hN : 200000 < N) (i : In) : s_wChecks N i.op i.a i.b i.c = some true := by
  unfold s_wChecks
  rw [cCheck_eq N (by omega), bnd1_mk, rCheck_eq N, bnd1_mk, br_dec, if_pos rfl, awake_eq N hN]; rfl
theorem law_encodes (hN : 200000 < N) (l : List In) : s_wEncodes N (iE l) = some true := by
  unfold s_wEncodes
  rw [br_dec, iE_len]
  by_cases c : 300 < l.length
  · rw [if_pos (by omega)]
  rw [if_neg (by omega), cEncode_eq N (by omega) l (by omega) (by omega), rEncode_eq N l (by omega) (by omega)]
  rcases he : encL l with ⟨x, e⟩
  have := encL_len he
  rw [bnd2_mk, bnd2_mk, br_dec, if_pos rfl, Same1_eq N x x (by omega) (by omega) (by omega), bnd1_mk, decide_eq_true rfl, br_t, awake_eq N hN]; rfl
theorem law_decodes (hN : 200000 < N) (b : List UInt8) : s_wDecodes N b = some true := by
  unfold s_wDecodes
  rw [br_dec]
  by_cases c : 1500 < b.length
  · rw [if_pos (by omega)]
  rw [if_neg (by omega), cDecode_eq N (by omega) b (by omega), rDecode_eq N b (by omega) (by omega)]
  have := decL_len N [] b (by simp)
  unfold decV
  rw [bnd2_mk, bnd2_mk, br_dec, if_pos rfl, rSame_eq N _ (by omega) (by omega), bnd1_mk, br_t, awake_eq N hN]; rfl
theorem law_texts (hN : 200000 < N) (l : List In) : s_wTexts N (iE l) = some true := by
  unfold s_wTexts
  rw [br_dec, iE_len]
  by_cases c : 300 < l.length
  · rw [if_pos (by omega)]
  rw [if_neg (by omega), cText_eq N (by omega) l (by omega) (by omega), rText_eq N (by omega) l (by omega) (by omega), bnd1_mk, bnd1_mk, br_dec, if_pos rfl, awake_eq N hN]; rfl
theorem native_eq (n : Int) : s_cNative N n = s_rNative N n := id rfl
def tV (t : Int × Int × Int) : V := .agg [.int .i64 t.1, .int .i64 t.2.1, .int .i64 t.2.2]
theorem types_loop (K0 : Bool → Option R) (K1 : Option R) : ∀ (l : List (Int × Int × Int)) (pre : List V) (t : Nat), l.length < t → pre.length + l.length ≤ 1000000 → S_rSameTypes_4 N (pre ++ l.map tV) (pre ++ l.map tV) t (pre.length : Int) K0 K1 = K1
  | l, pre, 0, ht, _ => by omega
  | [], pre, t + 1, ht, _ => by
    unfold S_rSameTypes_4 F_rSameTypes_4
    simp only [List.map_nil, br_t, br_f, br_dec, br_not, br_and, br_or, bnd1_mk, bnd2_mk, bnd3_mk, bnd4_mk, bnd5_mk, bnd10_mk, at_zero, at_succ, at_mid, unInt_mk, unBool_mk, unStr_mk, unBytes_mk, unSl_mk, unAgg_mk, unCons_mk, unNil_mk, endV, if_false]
  | i :: l, pre, t + 1, ht, hl => by
    simp only [List.length_cons] at ht hl
    obtain ⟨h1, h2, h3⟩ := stepV pre (tV i) (l.map tV) (by rw [List.length_map]; omega)
    have ih := types_loop K0 K1 l (pre ++ [tV i]) t (by omega) (by simp <;> omega)
    rw [← midV, ← h3] at ih
    unfold S_rSameTypes_4 F_rSameTypes_4
    simp only [List.map_cons, br_t, br_f, br_dec, br_not, br_and, br_or, bnd1_mk, bnd2_mk, bnd3_mk, bnd4_mk, bnd5_mk, bnd10_mk, at_zero, at_succ, at_mid, unInt_mk, unBool_mk, unStr_mk, unBytes_mk, unSl_mk, unAgg_mk, unCons_mk, unNil_mk, h1, h2, if_true, Int.toNat_natCast]
    show V.unAgg (tV i) _ = _
    unfold tV
    simp only [br_t, br_f, br_dec, br_not, br_and, br_or, bnd1_mk, bnd2_mk, bnd3_mk, bnd4_mk, bnd5_mk, bnd10_mk, at_zero, at_succ, at_mid, unInt_mk, unBool_mk, unStr_mk, unBytes_mk, unSl_mk, unAgg_mk, unCons_mk, unNil_mk, if_true]
    unfold tV at ih
    exact ih
theorem types_eq (hN : 200000 < N) (l : List (Int × Int × Int)) (h : l.length ≤ 1000) : s_rSameTypes N (l.map tV) (l.map tV) = some true := by
  unfold s_rSameTypes
  rw [br_not, br_dec, if_pos rfl]
  have := types_loop N (fun b0 => some b0) (some true) l [] N (by omega) (by simpa using by omega)
  rw [List.nil_append] at this
  exact this
theorem native_of (n : Int) : ∃ (l : List (Int × Int × Int)) (a b c : Int) (d : Bool), s_cNative N n = some (l.map tV, a, b, c, d) ∧ l.length ≤ 3 := by
  unfold s_cNative
  rw [br_dec]; split
  · exact ⟨[], _, _, _, _, rfl, by decide⟩
  rw [br_dec]; split
  · exact ⟨[], _, _, _, _, rfl, by decide⟩
  rw [br_dec]; split
  · exact ⟨[], _, _, _, _, rfl, by decide⟩
  rw [br_dec]; split
  · exact ⟨[], _, _, _, _, rfl, by decide⟩
  rw [br_dec]; split
  · exact ⟨[], _, _, _, _, rfl, by decide⟩
  rw [br_dec]; split
  · exact ⟨[], _, _, _, _, rfl, by decide⟩
  rw [br_dec]; split
  · exact ⟨[], _, _, _, _, rfl, by decide⟩
  rw [br_dec]; split
  · exact ⟨[], _, _, _, _, rfl, by decide⟩
  rw [br_dec]; split
  · exact ⟨[], _, _, _, _, rfl, by decide⟩
  rw [br_dec]; split
  · exact ⟨[], _, _, _, _, rfl, by decide⟩
  rw [br_dec]; split
  · exact ⟨[(1, 0, 0), (1, 0, 0)], _, _, _, _, rfl, by decide⟩
  rw [br_dec]; split
  · exact ⟨[(1, 0, 0), (1, 0, 0)], _, _, _, _, rfl, by decide⟩
  rw [br_dec]; split
  · exact ⟨[(1, 0, 0), (1, 0, 0)], _, _, _, _, rfl, by decide⟩
  rw [br_dec]; split
  · exact ⟨[(2, 0, 0), (1, 0, 0)], _, _, _, _, rfl, by decide⟩
  rw [br_dec]; split
  · exact ⟨[(1, 0, 0), (1, 0, 0), (1, 0, 0)], _, _, _, _, rfl, by decide⟩
  · exact ⟨[], _, _, _, _, rfl, by decide⟩
theorem law_natives (hN : 200000 < N) (n : Int) : s_wNatives N n = some true := by
  obtain ⟨l, a, b, c, d, h1, h2⟩ := native_of N n
  unfold s_wNatives
  rw [← native_eq, h1]
  have e : (d == d) = true := by cases d <;> rfl
  simp only [bnd5_mk, e, br_t, decide_true, Bool.and_true, types_eq N hN l (by omega), bnd1_mk, awake_eq N hN]
theorem law_round (hN : 200000 < N) (l : List In) (b s : List UInt8) : s_wRoundTrip N (iE l) b s = some true := by
  unfold s_wRoundTrip
  rw [br_dec, iE_len]
  by_cases c1 : 300 < l.length
  · rw [if_pos (by omega)]
  rw [if_neg (by omega), br_dec]
  by_cases c2 : 1500 < b.length
  · rw [if_pos (by omega)]
  rw [if_neg (by omega), br_dec]
  by_cases c3 : 3000 < s.length
  · rw [if_pos (by omega)]
  rw [if_neg (by omega)]
  -- the text that came in
  have tail3 : (bnd2 (s_cParse N s) fun l14 n15 => br (decide (n15 = 0)) (bnd1 (s_cText N l14) fun l16 => br (!decide (l16 = s)) (some false) (bnd1 (s_awake N) fun b17 => some b17)) (bnd1 (s_awake N) fun b18 => some b18)) = some true := by
    rw [cParse_eq N (by omega) s (by omega) (by omega)]
    have hl := parseL_len N [] s (by simp)
    rcases hp : parseL N [] s with ⟨z, e⟩
    rw [hp] at hl
    unfold decV
    simp only at hl
    rw [bnd2_mk, br_dec]
    by_cases c : e = 0
    · subst c
      rw [if_pos rfl]
      obtain ⟨q1, q2, q3⟩ := text_parse N [] s z (by omega) (by simp) rfl hp
      have ht : textL z = s := by unfold textL; rw [encL_of q2 q1]; exact q3
      show (bnd1 (s_cText N (iE z)) _) = _
      rw [cText_eq N (by omega) z (by omega) (by omega), ht, bnd1_mk, br_not, br_dec, if_pos rfl, awake_eq N hN]; rfl
    · rw [if_neg c, awake_eq N hN]; rfl
  have tail2 : (bnd2 (s_cDecode N b) fun l9 n10 => br (decide (n10 = 0)) (bnd2 (s_cEncode N l9) fun l11 n12 => br (!decide (n12 = 0)) (some false) (bnd1 (s_Same1 N l11 b) fun b13 => br (!b13) (some false)
      (bnd2 (s_cParse N s) fun l14 n15 => br (decide (n15 = 0)) (bnd1 (s_cText N l14) fun l16 => br (!decide (l16 = s)) (some false) (bnd1 (s_awake N) fun b17 => some b17)) (bnd1 (s_awake N) fun b18 => some b18))))
      (bnd2 (s_cParse N s) fun l14 n15 => br (decide (n15 = 0)) (bnd1 (s_cText N l14) fun l16 => br (!decide (l16 = s)) (some false) (bnd1 (s_awake N) fun b17 => some b17)) (bnd1 (s_awake N) fun b18 => some b18))) = some true := by
    simp only [tail3]
    rw [cDecode_eq N (by omega) b (by omega)]
    have hl := decL_len N [] b (by simp)
    rcases hp : decL N [] b with ⟨y, e⟩
    rw [hp] at hl
    unfold decV
    simp only at hl
    rw [bnd2_mk, br_dec]
    by_cases c : e = 0
    · subst c
      rw [if_pos rfl]
      obtain ⟨q1, q2, q3⟩ := encL_dec N [] b y (by omega) (by simp) rfl hp
      have q3 : encAll y = b := q3
      show (bnd2 (s_cEncode N (iE y)) _) = _
      rw [cEncode_eq N (by omega) y (by omega) (by omega), encL_of q2 q1, q3, bnd2_mk, br_not, br_dec, if_pos rfl, Same1_eq N b b (by omega) (by omega) (by omega), bnd1_mk, decide_eq_true rfl]; rfl
    · rw [if_neg c]
  rw [cEncode_eq N (by omega) l (by omega) (by omega)]
  rcases he : encL l with ⟨x, e⟩
  have hx := encL_len he
  rw [bnd2_mk, br_dec]
  by_cases c : e = 0
  · subst c
    obtain ⟨q1, q2, rfl⟩ := encL_ok he
    have hd : decL N [] (encAll l) = (l, 0) := decL_enc l [] N (by omega) (by simpa using q1) q2
    have ht : textL l = textAll l := by unfold textL; rw [he]; rfl
    have hp : parseL N [] (textAll l) = (l, 0) := parse_text l [] N (by omega) (by simpa using q1) q2
    have htl := textAll_len l
    rw [if_pos rfl, cDecode_eq N (by omega) _ (by omega), hd]
    unfold decV
    rw [bnd2_mk, cText_eq N (by omega) l (by omega) (by omega), ht, bnd1_mk, cParse_eq N (by omega) _ (by omega) (by omega), hp]
    unfold decV
    rw [bnd2_mk, br_not, br_dec, if_pos rfl, br_not, br_dec, if_pos rfl, rSame_eq N l (by omega) (by omega), bnd1_mk, br_not, br_t, bnd1_mk, br_not, br_t]
    exact tail2
  · rw [if_neg c]
    exact tail2
end
end Go.Proofs.YtjpmogajlnkihaaDoor.En

/- The engine, part 2r: what an argument that came in reads as. No program in sight. -/
namespace Go.Proofs.YtjpmogajlnkihaaDoor.En
open Go Go.RowKit
set_option linter.unusedVariables false
/-- A world of arguments: nothing is written. -/
def immG (T : TypeId → Option Ty) : G := { Γ := fun _ => .imm, J := fun _ _ => 0, sz := sizes T }
theorem stable_imm (T : TypeId → Option Ty) (b o : Nat) : Stable (immG T) b o := trivial
/-- An element, given its cells. -/
def mkEl (row : Bool) (cs : List V) : V := match row with | true => .agg cs | false => cs.headD .nilI
/-- Cells that have the shape of a type. -/
def FitsFs (F : TypeId → List V → Prop) : List Field → List V → Prop
  | [], xs => xs = []
  | f :: fs, xs => ∃ a r, xs = a ++ r ∧ F f.type a ∧ FitsFs F fs r
def Fits (T : TypeId → Option Ty) : Nat → TypeId → List V → Prop
  | 0, _, _ => False
  | n + 1, t, xs => match T t with
    | none => False
    | some ty => match ty.desc with
      | .bool => ∃ b, xs = [.bool b]
      | .int k => ∃ i, xs = [.int k i] ∧ k.min ≤ i ∧ i ≤ k.max
      | .string => ∃ s, xs = [.str s] ∧ s.length ≤ maxLen
      | .slice e => match ty.cks with
        | [.bytes _] => ∃ s, xs = [.bytes s] ∧ s.length ≤ maxLen
        | [.slc e'] => e' = e ∧ ∃ ys, xs = [.sl e ys] ∧ ys.length ≤ maxLen ∧ ∀ y ∈ ys, ∃ te cs, T e = some te ∧ y = mkEl te.row cs ∧ Fits T n e cs
        | _ => False
      | .struct fs => FitsFs (Fits T n) fs.toList xs
      | _ => False
/-- A type that is read. -/
def readable (T : TypeId → Option Ty) (t : TypeId) : Bool :=
  match T t with
  | none => false
  | some ty => match ty.desc with
    | .bool => true
    | .int _ => true
    | .string => true
    | .slice e => (match T e with
      | none => false
      | some te => (match ty.cks with
        | [.bytes _] => (match te.desc with | .int .u8 => Nat.beq te.size 1 | _ => false)
        | [.slc e'] => Nat.beq e' e && Nat.ble 1 te.size && (match te.row with | true => true | false => Nat.beq te.size 1)
        | _ => false))
    | .struct fs => contigT T ty.size 0 fs.toList && fs.toList.all (fun f => match T f.type with | some _ => true | none => false)
    | _ => false
/-- The types that a type leads to. -/
def closedT (T : TypeId → Option Ty) (l : List TypeId) : Bool :=
  l.all fun t => readable T t && (match T t with
    | none => false
    | some ty => match ty.desc with
      | .slice e => l.any (Nat.beq e)
      | .struct fs => fs.toList.all fun f => l.any (Nat.beq f.type)
      | _ => true)
section
variable {H : Type} {enc : TypeId × Value → H} {P : Program} {T : TypeId → Option Ty} {w : World} {base : Nat} {spare : Nat → Bool} {held : Bool}
structure RepC (T : TypeId → Option Ty) (w : World) (xs : List V) (cs : List Value) : Prop where
  len : xs.length = cs.length
  one : ∀ x ∈ xs, x.one = true
  rep : ∀ (k : Nat) y, xs[k]? = some y → RepV (immG T) w y (cs.getD k undef)
theorem RepC.single {x : V} {v : Value} (h1 : x.one = true) (h : RepV (immG T) w x v) : RepC T w [x] [v] :=
  ⟨rfl, fun y hy => by simp at hy; subst hy; exact h1, fun k y hk => by
    rcases k with _ | k
    · simp at hk; subst hk; simpa using h
    · simp at hk⟩
theorem RepC.append {xs ys : List V} {cs ds : List Value} (h : RepC T w xs cs) (k : RepC T w ys ds) : RepC T w (xs ++ ys) (cs ++ ds) := by
  refine ⟨by simp [h.len, k.len], fun x hx => ?_, fun i y hy => ?_⟩
  · rcases List.mem_append.1 hx with hx | hx
    · exact h.one x hx
    · exact k.one x hx
  · rcases Nat.lt_or_ge i xs.length with hl | hl
    · rw [List.getElem?_append_left hl] at hy
      have := h.rep i y hy
      rw [List.getD_eq_getElem?_getD, List.getElem?_append_left (by rw [← h.len]; exact hl), ← List.getD_eq_getElem?_getD]
      exact this
    · rw [List.getElem?_append_right hl] at hy
      have := k.rep _ y hy
      rw [List.getD_eq_getElem?_getD, List.getElem?_append_right (by rw [← h.len]; exact hl), ← h.len, ← List.getD_eq_getElem?_getD]
      exact this
theorem cellsOf_eq (hT : TypesOK P T) {t : TypeId} {ty : Ty} (h : T t = some ty) : P.cellsOf t = ty.size := by
  obtain ⟨i, h1, _, h2, _⟩ := (hT t ty h).info
  simp [Program.cellsOf, h1, h2]
theorem sizes_eq {t : TypeId} {ty : Ty} (h : T t = some ty) : sizes T t = ty.size := by unfold sizes; rw [h]
theorem add_none (b off i : Nat) : (⟨b, off, none⟩ : Addr).add i = ⟨b, off + i, none⟩ := by
  unfold Addr.add
  by_cases h0 : i = 0
  · subst h0; rfl
  · rw [if_neg h0]
theorem spot_row {a : Addr} {n k : Nat} {cs : List Value} (h : w.cells? base (a.add (0 * n)) k = some cs) (hk : 0 < k) : a.spot = none := by
  obtain ⟨_, hl, h5⟩ := World.cells?_some h
  have h6 := h5 0 hk
  rw [List.getElem?_eq_getElem (by omega)] at h6
  have := World.cell?_spot h6
  simpa [Addr.add] using this
theorem mkEl_cells {row : Bool} {cs : List V} (ho : ∀ x ∈ cs, x.one = true) (h : row = false → cs.length = 1) : (mkEl row cs).cells = cs := by
  cases row with
  | true => rfl
  | false =>
    have := h rfl
    match cs, this with
    | [x], _ =>
      have := ho x (by simp)
      show V.cells x = [x]
      cases x <;> first | rfl | cases this
theorem okEl_mk {row : Bool} {cs : List V} {n : Nat} (hl : cs.length = n) (ho : ∀ x ∈ cs, x.one = true) (h : row = false → cs.length = 1) : okEl n (mkEl row cs) = true := by
  unfold okEl
  rw [mkEl_cells ho h]
  simp only [Bool.and_eq_true, beq_iff_eq, List.all_eq_true]
  exact ⟨hl, ho⟩
theorem flatT_get {α : Type} {n : Nat} : ∀ (l : List (List α)) (i j : Nat) (c : List α), (∀ c ∈ l, c.length = n) → l[i]? = some c → j < n → l.flatten[i * n + j]? = c[j]?
  | [], i, j, c, _, h, _ => by simp at h
  | d :: l, 0, j, c, hl, h, hj => by
    simp at h; subst h
    have := hl d (by simp)
    rw [List.flatten_cons, Nat.zero_mul, Nat.zero_add, List.getElem?_append_left (by omega)]
  | d :: l, i + 1, j, c, hl, h, hj => by
    have hd := hl d (by simp)
    rw [List.flatten_cons, Nat.succ_mul, List.getElem?_append_right (by omega)]
    rw [show i * n + n + j - d.length = i * n + j by omega]
    exact flatT_get l i j c (fun c hc => hl c (by simp [hc])) (by simpa using h) hj
theorem flatT_len {α : Type} {n : Nat} : ∀ (l : List (List α)), (∀ c ∈ l, c.length = n) → l.flatten.length = l.length * n
  | [], _ => by simp
  | d :: l, h => by
    rw [List.flatten_cons, List.length_append, h d (by simp), flatT_len l fun c hc => h c (by simp [hc]), List.length_cons, Nat.succ_mul]; omega
theorem choose_list {α : Type} {p : Nat → α → Prop} : ∀ (n : Nat), (∀ i, i < n → ∃ a, p i a) → ∃ l : List α, l.length = n ∧ ∀ (i : Nat) a, l[i]? = some a → p i a
  | 0, _ => ⟨[], rfl, fun i a h => by simp at h⟩
  | n + 1, h => by
    obtain ⟨l, h1, h2⟩ := choose_list n fun i hi => h i (by omega)
    obtain ⟨a, ha⟩ := h n (by omega)
    refine ⟨l ++ [a], by simp [h1], fun i b hb => ?_⟩
    rcases Nat.lt_or_ge i l.length with hl | hl
    · rw [List.getElem?_append_left hl] at hb; exact h2 i b hb
    · rw [List.getElem?_append_right hl] at hb
      have : i = n := by
        have := (List.getElem?_eq_some_iff.1 hb).1
        simp at this; omega
      subst this
      rw [h1] at hb
      simp at hb
      subst hb; exact ha
theorem trod_rep (hT : TypesOK P T) {l : List TypeId} (hl : closedT T l = true) : ∀ (fuel : Nat) (t : TypeId) (cs : List Value) (x : DataW H × List MemPlace), t ∈ l → DataW.trod enc P w base spare held fuel t cs = some x →
    ∃ xs, RepC T w xs cs ∧ Fits T fuel t xs ∧ ∀ ty, T t = some ty → cs.length = ty.size
  | 0, t, cs, x, _, h => by simp [DataW.trod] at h
  | n + 1, t, cs, x, hm, h => by
    have hcl := List.all_eq_true.1 hl t hm
    simp only [Bool.and_eq_true] at hcl
    obtain ⟨hre, hlead⟩ := hcl
    unfold Fits
    unfold readable at hre
    cases hTt : T t with
    | none => rw [hTt] at hre; simp at hre
    | some ty =>
    rw [hTt] at hre hlead
    simp only at hre hlead ⊢
    have hd := (hT t ty hTt).desc
    have h1c : ty.row = false → ty.size = 1 := (hT t ty hTt).one
    cases hdesc : ty.desc <;> rw [hdesc] at hre hlead hd <;> simp only [Bool.false_eq_true] at hre hlead ⊢
    · obtain ⟨b, rfl, _⟩ := DataW.trod_bool hd h
      exact ⟨[.bool b], .single rfl (.bool b), ⟨b, rfl⟩, fun ty' e => by cases e; rw [h1c (by simp [Ty.row, hdesc])]; rfl⟩
    · rename_i k
      obtain ⟨i, rfl, _, hwf⟩ := DataW.trod_int hd h
      have hb : k.min ≤ i ∧ i ≤ k.max := by simpa [Lit.wf] using hwf
      exact ⟨[.int k i], .single rfl (.int k i hb), ⟨i, rfl, hb⟩, fun ty' e => by cases e; rw [h1c (by simp [Ty.row, hdesc])]; rfl⟩
    · obtain ⟨s, rfl, _, hs⟩ := DataW.trod_string hd h
      have e : s = ⟨s.data.toList.toArray⟩ := by cases s; simp
      have hsl : s.data.toList.length = s.size := by cases s; rfl
      refine ⟨[.str s.data.toList], .single rfl ?_, ⟨_, rfl, by rw [hsl]; exact hs⟩, fun ty' e => by cases e; rw [h1c (by simp [Ty.row, hdesc])]; rfl⟩
      have := RepV.str (g := immG T) (w := w) s.data.toList (by rw [hsl]; unfold maxLen at hs; omega)
      rwa [← e] at this
    · rename_i e
      cases hTe : T e with
      | none => rw [hTe] at hre; simp at hre
      | some te =>
      rw [hTe] at hre
      simp only at hre
      have hsz := cellsOf_eq hT hTe
      have hmem : e ∈ l := by
        obtain ⟨z, hz, hb⟩ := List.any_eq_true.1 hlead
        have := Nat.eq_of_beq_eq_true hb
        subst this; exact hz
      have hsize : ∀ ty', some ty = some ty' → ∀ v : Value, [v].length = ty'.size := fun ty' e v => by cases e; rw [h1c (by simp [Ty.row, hdesc])]; rfl
      split at hre
      · rename_i e0 hcks
        split at hre
        · rename_i hte
          have hte1 := Nat.eq_of_beq_eq_true hre
          rw [hte1] at hsz
          have hde := (hT e te hTe).desc
          rw [hte] at hde
          rcases DataW.trod_slice hd h with ⟨rfl, _⟩ | ⟨a, len, cap, elems, rest, m, e1, rfl, _, hb, hlc, hcm, hel, hget, _, _⟩
          · exact ⟨[.bytes []], .single rfl (.bytes [] none 0 0 rfl (Nat.le_refl _) (by simp) (fun k x hx => by simp at hx)), ⟨[], rfl, by simp⟩, fun ty' e => hsize ty' e _⟩
          · have key : ∀ i, i < len → ∃ b : UInt8, ∃ bb off, a = ⟨bb, off, none⟩ ∧ w.cell? ⟨bb, off + i, none⟩ = some (.int .u8 (b.toNat : Int)) := by
              intro i hi
              have h2 := hget i hi
              rw [List.getElem?_eq_getElem (by rw [hel]; exact hi), Option.bind_eq_some_iff] at h2
              obtain ⟨cs, h3, h4⟩ := h2
              obtain ⟨z, rfl, _, hwf⟩ := DataW.trod_int hde h4
              rw [hsz, Nat.mul_one] at h3
              obtain ⟨_, _, h5⟩ := World.cells?_some h3
              have h6 := h5 0 (by omega)
              simp at h6
              have hzr : 0 ≤ z ∧ z ≤ 255 := by simpa [Lit.wf, IntKind.min, IntKind.max, IntKind.signed, IntKind.bits] using hwf
              have hspn : a.spot = none := by
                have h2 := hget 0 (by omega)
                rw [List.getElem?_eq_getElem (by omega), Option.bind_eq_some_iff] at h2
                obtain ⟨cs, h3, _⟩ := h2
                exact spot_row h3 (by omega)
              obtain ⟨bb, off, sp⟩ := a
              simp only at hspn
              subst hspn
              refine ⟨UInt8.ofNat z.toNat, bb, off, rfl, ?_⟩
              rw [add_none] at h6
              have hz2 : (off + i + 0) = off + i := rfl
              rw [show ((UInt8.ofNat z.toNat).toNat : Int) = z by rw [UInt8.toNat_ofNat', Nat.mod_eq_of_lt (by omega)]; omega]
              simpa [Addr.add] using h6
            obtain ⟨bs, b1, b2⟩ := choose_list len key
            refine ⟨[.bytes bs], .single rfl (.bytes bs (some a) len cap b1 hlc hcm fun k x hx => ?_), ⟨bs, rfl, by omega⟩, fun ty' e => hsize ty' e _⟩
            obtain ⟨bb, off, c1, c2⟩ := b2 k x hx
            exact ⟨bb, off, by rw [c1], stable_imm T _ _, c2⟩
        · cases hre
      · rename_i e0 hcks
        simp only [Bool.and_eq_true] at hre
        obtain ⟨⟨he0, hte1⟩, hrow⟩ := hre
        have he0 := Nat.eq_of_beq_eq_true he0
        have hte1 := Nat.le_of_ble_eq_true hte1
        have hrow1 : te.row = false → te.size = 1 := (hT e te hTe).one
        have hszs : (immG T).sz e = te.size := sizes_eq hTe
        rcases DataW.trod_slice hd h with ⟨rfl, _⟩ | ⟨a, len, cap, elems, rest, m, e1, rfl, _, hb, hlc, hcm, hel, hget, _, _⟩
        · exact ⟨[.sl e []], .single rfl (.sl e [] none 0 0 (fun _ => undef) rfl (Nat.le_refl _) (by simp) (by simp) (fun k y hy => by simp at hy) (fun k y hy => by simp at hy)), ⟨he0, [], rfl, by simp, by simp⟩, fun ty' e => hsize ty' e _⟩
        · obtain rfl : n = m := by omega
          have key : ∀ i, i < len → ∃ p : List V × List Value, RepC T w p.1 p.2 ∧ Fits T n e p.1 ∧ p.2.length = te.size ∧ ∃ bb off, a = ⟨bb, off, none⟩ ∧ ∀ j, j < te.size → w.cell? ⟨bb, off + (i * te.size + j), none⟩ = some (p.2.getD j undef) := by
            intro i hi
            have h2 := hget i hi
            rw [List.getElem?_eq_getElem (by rw [hel]; exact hi), Option.bind_eq_some_iff] at h2
            obtain ⟨cs, h3, h4⟩ := h2
            obtain ⟨xs, c1, c2, c3⟩ := trod_rep hT hl n e cs _ hmem h4
            have c3 := c3 te hTe
            rw [hsz] at h3
            obtain ⟨_, _, h5⟩ := World.cells?_some h3
            have hspn : a.spot = none := by
              have h2 := hget 0 (by omega)
              rw [List.getElem?_eq_getElem (by omega), Option.bind_eq_some_iff] at h2
              obtain ⟨cs, h3, _⟩ := h2
              exact spot_row h3 (by omega)
            obtain ⟨bb, off, sp⟩ := a
            simp only at hspn
            subst hspn
            refine ⟨(xs, cs), c1, c2, c3, bb, off, rfl, fun j hj => ?_⟩
            have h7 := h5 j hj
            rw [add_none, add_none, Nat.add_assoc] at h7
            rw [h7, List.getD_eq_getElem?_getD]
            show cs[j]? = some (cs[j]?.getD undef)
            rw [List.getElem?_eq_getElem (by omega)]; rfl
          obtain ⟨ps, b1, b2⟩ := choose_list len key
          have hxl : ∀ p ∈ ps, p.1.length = te.size ∧ ∀ x ∈ p.1, x.one = true := by
            intro p hp
            obtain ⟨i, hi⟩ := List.getElem?_of_mem hp
            obtain ⟨c1, _, c3, _⟩ := b2 i p hi
            exact ⟨by rw [c1.len, c3], c1.one⟩
          have hcells : ∀ p ∈ ps, (mkEl te.row p.1).cells = p.1 := fun p hp => mkEl_cells (hxl p hp).2 fun hr => by rw [(hxl p hp).1, hrow1 hr]
          have hflat : (ps.map fun p => mkEl te.row p.1).flatMap V.cells = (ps.map (·.1)).flatten := by
            rw [List.flatMap_def, List.map_map]
            congr 1
            exact List.map_congr_left fun p hp => hcells p hp
          have hall : ∀ c ∈ ps.map (·.1), c.length = te.size := fun c hc => by
            obtain ⟨p, hp, rfl⟩ := List.mem_map.1 hc
            exact (hxl p hp).1
          have hlook : ∀ (k : Nat) (y : V), ((ps.map fun p => mkEl te.row p.1).flatMap V.cells)[k]? = some y → ∃ i j p, k = i * te.size + j ∧ j < te.size ∧ ps[i]? = some p ∧ p.1[j]? = some y := by
            intro k y hk
            rw [hflat] at hk
            have hk1 := (List.getElem?_eq_some_iff.1 hk).1
            rw [flatT_len _ hall, List.length_map, b1] at hk1
            have hpos : 0 < te.size := by omega
            have hi : k / te.size < len := (Nat.div_lt_iff_lt_mul hpos).2 hk1
            have hj : k % te.size < te.size := Nat.mod_lt _ hpos
            have hkk : k = k / te.size * te.size + k % te.size := by rw [Nat.mul_comm]; exact (Nat.div_add_mod k te.size).symm
            have hp : ps[k / te.size]? = some (ps[k / te.size]'(by omega)) := List.getElem?_eq_getElem (by omega)
            refine ⟨k / te.size, k % te.size, _, hkk, hj, hp, ?_⟩
            rw [hkk] at hk
            rw [flatT_get _ _ _ _ hall (by rw [List.getElem?_map, hp]; rfl) hj] at hk
            exact hk
          refine ⟨[.sl e (ps.map fun p => mkEl te.row p.1)], .single rfl (.sl e _ (some a) len cap (fun k => ((ps.map (·.2)).flatten).getD k undef) (by simp [b1]) hlc hcm (fun x hx => ?_) (fun k y hk => ?_) (fun k y hk => ?_)), ⟨he0, _, rfl, by simp [b1]; omega, fun y hy => ?_⟩, fun ty' e => hsize ty' e _⟩
          · obtain ⟨p, hp, rfl⟩ := List.mem_map.1 hx
            rw [hszs]
            exact okEl_mk (hxl p hp).1 (hxl p hp).2 fun hr => by rw [(hxl p hp).1, hrow1 hr]
          · obtain ⟨i, j, p, rfl, hj, hp, hy⟩ := hlook k y hk
            obtain ⟨_, _, c3, bb, off, c4, c5⟩ := b2 i p hp
            refine ⟨bb, off, by rw [c4], stable_imm T _ _, ?_⟩
            rw [c5 j hj]
            have : (ps.map (·.2)).flatten[i * te.size + j]? = p.2[j]? := flatT_get _ _ _ _ (fun c hc => by
              obtain ⟨q, hq, rfl⟩ := List.mem_map.1 hc
              obtain ⟨i', hi'⟩ := List.getElem?_of_mem hq
              exact (b2 i' q hi').2.2.1) (by rw [List.getElem?_map, hp]; rfl) hj
            rw [List.getD_eq_getElem?_getD, List.getD_eq_getElem?_getD, this]
          · obtain ⟨i, j, p, rfl, hj, hp, hy⟩ := hlook k y hk
            obtain ⟨c1, _, c3, _⟩ := b2 i p hp
            have : (ps.map (·.2)).flatten[i * te.size + j]? = p.2[j]? := flatT_get _ _ _ _ (fun c hc => by
              obtain ⟨q, hq, rfl⟩ := List.mem_map.1 hc
              obtain ⟨i', hi'⟩ := List.getElem?_of_mem hq
              exact (b2 i' q hi').2.2.1) (by rw [List.getElem?_map, hp]; rfl) hj
            have := c1.rep j y hy
            rw [List.getD_eq_getElem?_getD] at this ⊢
            rwa [‹(ps.map (·.2)).flatten[i * te.size + j]? = p.2[j]?›]
          · obtain ⟨p, hp, rfl⟩ := List.mem_map.1 hy
            obtain ⟨i, hi⟩ := List.getElem?_of_mem hp
            exact ⟨te, p.1, rfl, rfl, (b2 i p hi).2.1⟩
      · cases hre
    · rename_i fs
      simp only [Bool.and_eq_true] at hre
      obtain ⟨hco, hfa⟩ := hre
      obtain ⟨ys, m, e1, _, hlen, _, hg⟩ := DataW.trod_struct hd h
      obtain rfl : n = m := by omega
      rw [cellsOf_eq hT hTt] at hlen
      have main : ∀ (l' : List Field) (i off : Nat), fs.toList.drop i = l' → contigT T ty.size off l' = true → off ≤ ty.size → ∃ xs, RepC T w xs (cs.drop off) ∧ FitsFs (Fits T n) l' xs := by
        intro l'
        induction l' with
        | nil =>
          intro i off hdr hc ho
          have := Nat.eq_of_beq_eq_true hc
          refine ⟨[], ⟨by simp; omega, by simp, by simp⟩, rfl⟩
        | cons f l' ih =>
          intro i off hdr hc ho
          simp only [contigT, Bool.and_eq_true] at hc
          obtain ⟨hc1, hc2⟩ := hc
          have hc1 := Nat.eq_of_beq_eq_true hc1
          have hfi : fs.toList[i]? = some f := by
            have : (fs.toList.drop i)[0]? = some f := by rw [hdr]; rfl
            simpa using this
          have hfm : f ∈ fs.toList := List.mem_of_getElem? hfi
          have h1 := List.all_eq_true.1 hfa f hfm
          have hfl : f.type ∈ l := by
            have := List.all_eq_true.1 hlead f hfm
            obtain ⟨z, hz, hb⟩ := List.any_eq_true.1 this
            have := Nat.eq_of_beq_eq_true hb
            rw [this]; exact hz
          cases hTf : T f.type with
          | none => rw [hTf] at h1; simp at h1
          | some tf =>
          have h2 := hg i f (by simpa using hfi)
          rw [cellsOf_eq hT hTf, hc1] at h2
          have hle : off + tf.size ≤ ty.size := by
            have : ∀ (l' : List Field) (off : Nat), contigT T ty.size off l' = true → off ≤ ty.size := by
              intro l'
              induction l' with
              | nil => intro off hc; have := Nat.eq_of_beq_eq_true hc; omega
              | cons f l' ih => intro off hc; simp only [contigT, Bool.and_eq_true] at hc; have := ih _ hc.2; omega
            have := this l' _ hc2
            rw [sizes_eq hTf] at this
            exact this
          have hys : i < ys.length := by
            cases hyi : ys[i]? with
            | none =>
              have hfi2 : i < fs.size := by
                have := (List.getElem?_eq_some_iff.1 hfi).1
                simpa using this
              have : ys.length = fs.size := by assumption
              rw [this]; exact hfi2
            | some y => exact (List.getElem?_eq_some_iff.1 hyi).1
          rw [List.getElem?_eq_getElem hys] at h2
          obtain ⟨xs, c1, c2, _⟩ := trod_rep hT hl n f.type _ _ hfl h2
          obtain ⟨rs, d1, d2⟩ := ih (i + 1) (off + sizes T f.type) (by rw [List.drop_add_one_eq_tail_drop, hdr]; rfl) hc2 (by rw [sizes_eq hTf]; exact hle)
          refine ⟨xs ++ rs, ?_, xs, rs, rfl, c2, d2⟩
          have := c1.append d1
          rw [sizes_eq hTf, ← List.drop_drop, List.take_append_drop] at this
          exact this
      obtain ⟨xs, c1, c2⟩ := main fs.toList 0 0 rfl hco (Nat.zero_le _)
      exact ⟨xs, by simpa using c1, c2, fun ty' e => by cases e; exact hlen⟩
/-- An argument. -/
theorem arg_rep (hT : TypesOK P T) {l : List TypeId} (hl : closedT T l = true) {t : TypeId} (ht : t ∈ l) {v : Value} {d : DataW H} {ps : List MemPlace} (hrow : ∀ ty, T t = some ty → (ty.row = true → ∃ cs, v = .agg cs) ∧ (ty.row = false → v.cells = #[v]))
    (hd : DataW.Trod enc P w base spare held t v d ps) : ∃ n x, Fits T n t (V.cells x) ∧ RepV (immG T) w x v ∧ ∀ ty, T t = some ty → x = mkEl ty.row (V.cells x) := by
  obtain ⟨fuel, hf⟩ := hd
  obtain ⟨xs, h1, h2, h3⟩ := trod_rep hT hl fuel t _ _ ht hf
  cases hTt : T t with
  | none => cases fuel <;> simp [Fits, hTt] at h2
  | some ty =>
  have h3 := h3 ty hTt
  obtain ⟨r1, r2⟩ := hrow ty hTt
  cases hr : ty.row with
  | true =>
    obtain ⟨cs, rfl⟩ := r1 hr
    refine ⟨fuel, .agg xs, h2, .agg xs cs (by rw [h1.len]; rfl) fun k y hk => ?_, fun ty' e => by cases e; rw [hr]; rfl⟩
    have := h1.rep k y hk
    simpa [Value.cells, List.getD_eq_getElem?_getD, Array.getD_eq_getD_getElem?] using this
  | false =>
    have hv := r2 hr
    rw [hv] at h1 h3
    have hl1 := h1.len
    simp at hl1
    match xs, hl1 with
    | [x], _ =>
      have ho := h1.one x (by simp)
      have hc : V.cells x = [x] := by cases x <;> first | rfl | cases ho
      exact ⟨fuel, x, by rw [hc]; exact h2, by simpa using h1.rep 0 x rfl, fun ty' e => by cases e; rw [hr, hc]; rfl⟩
end
end Go.Proofs.YtjpmogajlnkihaaDoor.En

/- The engine, part 2s: rows: arguments that came in, what a law's function leaves. -/
namespace Go.Proofs.YtjpmogajlnkihaaDoor.En
open Go Go.RowKit Go.WideShapes
set_option linter.unusedVariables false
theorem own : ownKnob Tryd.prog.godebug = none := by kernel_rfl
theorem laidOut : laidOutB Tryd.prog = true := by kernel_rfl
section
variable {P : Program} {T : TypeId → Option Ty} {f : FuncId} {w : World}
def noEnv : Env := { d := 0, dom := fun _ _ => False }
/-- What a row knows of the package variables. -/
def Globs (w : World) : Prop := ∀ b ∈ globD, ∃ x, w.heap[b]? = some x ∧ GlobV b x
theorem imm_sk (h : Globs w) : SzOK T (immG T) w := ⟨rfl, fun b hb => ⟨rfl, h b hb⟩⟩
theorem walk_of {ds : List D} (hp : PureRet P T f ds [.v (.bool true) .no]) {us : List Value} (hr : RepDs noEnv (immG T) w [] ds us) (hgl : Globs w := by intro _ h; cases h) :
    Calls P f us.toArray w fun e w' => e = .returned (.bool true) ∧ Below w.heap.size w w' := by
  refine (hp noEnv (immG T) w us (imm_sk hgl) hr).mono ?_
  rintro e w' ⟨us', g', rfl, h1, h2⟩
  obtain ⟨l, hr'⟩ := h1 noEnv
  match us', l with
  | [u], _ =>
  have := hr' 0 _ rfl
  simp only [List.getD_cons_zero] at this
  cases this with
  | v x a v h ha =>
  cases h
  exact ⟨rfl, ⟨h2.grows.os, h2.grows.tape, h2.grows.output, h2.grows.size, h2.grows.old⟩⟩
theorem reps_nil : RepDs noEnv (immG T) w [] [] [] := ⟨rfl, fun k y h => by simp at h⟩
theorem reps_cons {d : D} {u : Value} {ds : List D} {us : List Value} (h : RepD noEnv (immG T) w [] d u) (hs : RepDs noEnv (immG T) w [] ds us) : RepDs noEnv (immG T) w [] (d :: ds) (u :: us) :=
  ⟨by simp [hs.1], fun k y hk => by
    rcases k with _ | k
    · simp at hk; subst hk; exact h
    · simpa using hs.2 k y (by simpa using hk)⟩
theorem rep_v {x : V} {u : Value} (h : RepV (immG T) w x u) : RepD noEnv (immG T) w [] (.v x .no) u := .v _ _ _ h trivial
theorem rep_agg {cs : List V} {u : Value} (h : RepV (immG T) w (.agg cs) u) : RepD noEnv (immG T) w [] (.agg (cs.map vD)) u := by
  cases h with
  | agg cs us hn hr =>
    refine .agg _ us (by simpa using hn) fun k y hk => ?_
    rw [List.getElem?_map, Option.map_eq_some_iff] at hk
    obtain ⟨z, hz, rfl⟩ := hk
    exact .v _ _ _ (hr k z hz) trivial
variable {H : Type} {enc : TypeId × Value → H} {base : Nat} {spare : Nat → Bool} {held : Bool} {r : Reach} {b0 : Nat} {t : TypeId} {v : Value} {d : DataW H} {ps : List MemPlace} {l : List TypeId}
theorem row_of (hT : TypesOK P T) {desc : TypeDesc} (ht : P.underlying t = some desc) {ty : Ty} (h : T t = some ty) : ty.desc = desc := by
  have := (hT t ty h).desc
  rw [ht] at this
  injection this with this
  exact this.symm
theorem cells_self {x : V} (h : x = mkEl false (V.cells x)) : V.cells x = [x] := by
  cases x with
  | agg cs =>
    exfalso
    simp only [V.cells, mkEl] at h
    cases cs with
    | nil => simp at h
    | cons c r =>
      have h' : V.agg (c :: r) = c := h
      have : _root_.SizeOf.sizeOf (V.agg (c :: r)) = _root_.SizeOf.sizeOf c := by rw [h']
      simp at this
      omega
  | _ => rfl
theorem fits_self (hT : TypesOK P T) {desc : TypeDesc} (ht : P.underlying t = some desc) (hnr : ∀ ty : Ty, ty.desc = desc → ty.row = false) {n : Nat} {x : V} (h1 : Fits T n t (V.cells x)) (h3 : ∀ ty, T t = some ty → x = mkEl ty.row (V.cells x)) : Fits T n t [x] := by
  cases hTt : T t with
  | none => cases n <;> simp [Fits, hTt] at h1
  | some ty =>
    have := h3 ty hTt
    rw [hnr ty (row_of hT ht hTt)] at this
    rw [← cells_self this]; exact h1
theorem arg_slice (hT : TypesOK P T) (hl : closedT T l = true) (hm : t ∈ l) {e : TypeId} (ht : P.underlying t = some (.slice e)) (hv : Value.okWide P w r b0 t v) (hd : DataW.Trod enc P w base spare held t v d ps) :
    ∃ n x, Fits T n t [x] ∧ RepV (immG T) w x v := by
  obtain ⟨A, n, c, rfl⟩ := okWide_slice ht hv
  obtain ⟨n, x, h1, h2, h3⟩ := arg_rep hT hl hm (fun ty hty => ⟨fun hr => (by rw [Ty.row, row_of hT ht hty] at hr; cases hr), fun _ => rfl⟩) hd
  exact ⟨n, x, fits_self hT ht (fun ty e => by rw [Ty.row, e]) h1 h3, h2⟩
theorem arg_int (hT : TypesOK P T) (hl : closedT T l = true) (hm : t ∈ l) {k : IntKind} (ht : P.underlying t = some (.int k)) (hv : Value.okWide P w r b0 t v) (hd : DataW.Trod enc P w base spare held t v d ps) :
    ∃ n x, Fits T n t [x] ∧ RepV (immG T) w x v := by
  obtain ⟨i, rfl⟩ := okWide_int ht hv
  obtain ⟨n, x, h1, h2, h3⟩ := arg_rep hT hl hm (fun ty hty => ⟨fun hr => (by rw [Ty.row, row_of hT ht hty] at hr; cases hr), fun _ => rfl⟩) hd
  exact ⟨n, x, fits_self hT ht (fun ty e => by rw [Ty.row, e]) h1 h3, h2⟩
theorem arg_string (hT : TypesOK P T) (hl : closedT T l = true) (hm : t ∈ l) (ht : P.underlying t = some .string) (hv : Value.okWide P w r b0 t v) (hd : DataW.Trod enc P w base spare held t v d ps) :
    ∃ n x, Fits T n t [x] ∧ RepV (immG T) w x v := by
  obtain ⟨s, rfl⟩ := okWide_string ht hv
  obtain ⟨n, x, h1, h2, h3⟩ := arg_rep hT hl hm (fun ty hty => ⟨fun hr => (by rw [Ty.row, row_of hT ht hty] at hr; cases hr), fun _ => rfl⟩) hd
  exact ⟨n, x, fits_self hT ht (fun ty e => by rw [Ty.row, e]) h1 h3, h2⟩
theorem arg_struct (hT : TypesOK P T) (hl : closedT T l = true) (hm : t ∈ l) {fs : Array Field} (ht : P.underlying t = some (.struct fs)) (hv : Value.okWide P w r b0 t v) (hd : DataW.Trod enc P w base spare held t v d ps) :
    ∃ n cs, Fits T n t cs ∧ RepV (immG T) w (.agg cs) v := by
  obtain ⟨cs, rfl, _⟩ := okWide_struct ht hv
  obtain ⟨n, x, h1, h2, h3⟩ := arg_rep hT hl hm (fun ty hty => ⟨fun _ => ⟨cs, rfl⟩, fun hr => (by rw [Ty.row, row_of hT ht hty] at hr; cases hr)⟩) hd
  cases h2 with
  | agg ys us a b => exact ⟨n, ys, h1, .agg ys _ a b⟩
/-- What fits a type of one cell. -/
theorem fits_int {k : IntKind} {ty : Ty} (h : T t = some ty) (hd : ty.desc = .int k) {n : Nat} {xs : List V} (hf : Fits T n t xs) : ∃ i, xs = [.int k i] ∧ k.min ≤ i ∧ i ≤ k.max := by
  cases n with
  | zero => cases hf
  | succ n => unfold Fits at hf; rw [h] at hf; simp only [hd] at hf; exact hf
theorem fits_str {ty : Ty} (h : T t = some ty) (hd : ty.desc = .string) {n : Nat} {xs : List V} (hf : Fits T n t xs) : ∃ s, xs = [.str s] ∧ s.length ≤ maxLen := by
  cases n with
  | zero => cases hf
  | succ n => unfold Fits at hf; rw [h] at hf; simp only [hd] at hf; exact hf
theorem fits_bytes {e e' : TypeId} {ty : Ty} (h : T t = some ty) (hd : ty.desc = .slice e) (hc : ty.cks = [.bytes e']) {n : Nat} {xs : List V} (hf : Fits T n t xs) : ∃ s, xs = [.bytes s] ∧ s.length ≤ maxLen := by
  cases n with
  | zero => cases hf
  | succ n => unfold Fits at hf; rw [h] at hf; simp only [hd, hc] at hf; exact hf
theorem fits_slice {e e' : TypeId} {ty te : Ty} (h : T t = some ty) (hd : ty.desc = .slice e) (hc : ty.cks = [.slc e']) (he : T e = some te) {n : Nat} {xs : List V} (hf : Fits T n t xs) :
    ∃ m ys, n = m + 1 ∧ xs = [.sl e ys] ∧ ys.length ≤ maxLen ∧ ∀ y ∈ ys, ∃ cs, y = mkEl te.row cs ∧ Fits T m e cs := by
  cases n with
  | zero => cases hf
  | succ n =>
    unfold Fits at hf; rw [h] at hf; simp only [hd, hc] at hf
    obtain ⟨rfl, ys, h1, h2, h3⟩ := hf
    refine ⟨n, ys, rfl, h1, h2, fun y hy => ?_⟩
    obtain ⟨te', cs, h4, h5, h6⟩ := h3 y hy
    rw [he] at h4
    injection h4 with h4
    subst h4
    exact ⟨cs, h5, h6⟩
theorem fits_struct {fs : Array Field} {ty : Ty} (h : T t = some ty) (hd : ty.desc = .struct fs) {n : Nat} {xs : List V} (hf : Fits T n t xs) : ∃ m, n = m + 1 ∧ FitsFs (Fits T m) fs.toList xs := by
  cases n with
  | zero => cases hf
  | succ n => unfold Fits at hf; rw [h] at hf; simp only [hd] at hf; exact ⟨n, rfl, hf⟩
end
end Go.Proofs.YtjpmogajlnkihaaDoor.En

/- Chapter 27's rows: what the arguments read as, the package variables, the wrap, the world behind the door's own run. -/
namespace Go.Proofs.YtjpmogajlnkihaaDoor.En
open Go Go.Joins Go.ChangeShapes Go.WideShapes Go.ChangeAt Go.RowKit Go.Deep
set_option linter.unusedVariables false
theorem T_int : T 3 = some ty3 := by kernel_rfl
theorem T_bytes : T 29 = some ty29 := by kernel_rfl
theorem T_str : T 9 = some ty9 := by kernel_rfl
theorem T_ins : T 23 = some ty23 := by kernel_rfl
theorem T_is : T 28 = some ty28 := by kernel_rfl
theorem max63 {n : Nat} (h : n ≤ maxLen) : n ≤ 9223372036854775807 := by unfold maxLen at h; omega
theorem ins_arg {n : Nat} {cs : List V} (h : Fits T n 23 cs) : ∃ i : In, cs = [.int .i64 i.op, .int .i64 i.a, .int .i64 i.b, .int .i64 i.c] := by
  obtain ⟨m, rfl, a, r1, rfl, ha, b, r2, rfl, hb, c, r3, rfl, hc, d, r4, rfl, hd, rfl⟩ := fits_struct T_ins rfl h
  obtain ⟨p, rfl, _⟩ := fits_int T_int rfl ha
  obtain ⟨q, rfl, _⟩ := fits_int T_int rfl hb
  obtain ⟨s, rfl, _⟩ := fits_int T_int rfl hc
  obtain ⟨v, rfl, _⟩ := fits_int T_int rfl hd
  exact ⟨⟨p, q, s, v⟩, rfl⟩
theorem is_of (n : Nat) : ∀ (ys : List V), (∀ y ∈ ys, ∃ cs, y = mkEl true cs ∧ Fits T n 23 cs) → ∃ l : List In, ys = iE l
  | [], _ => ⟨[], rfl⟩
  | y :: ys, h => by
    obtain ⟨l, h1⟩ := is_of n ys fun z hz => h z (List.mem_cons_of_mem _ hz)
    obtain ⟨cs, rfl, hc⟩ := h y (by simp)
    obtain ⟨i, rfl⟩ := ins_arg hc
    exact ⟨i :: l, by rw [h1]; rfl⟩
theorem is_arg {n : Nat} {x : V} (h : Fits T n 28 [x]) : ∃ l : List In, x = .sl 23 (iE l) := by
  obtain ⟨m, ys, rfl, e, h1, h2⟩ := fits_slice T_is rfl rfl T_ins h
  obtain ⟨l, rfl⟩ := is_of m ys h2
  injection e with e _
  exact ⟨l, e⟩
theorem int_arg {n : Nat} {x : V} (h : Fits T n 3 [x]) : ∃ i : Int, x = .int .i64 i ∧ -9223372036854775808 ≤ i ∧ i ≤ 9223372036854775807 := by
  obtain ⟨i, e, h1, h2⟩ := fits_int T_int rfl h
  injection e with e _
  exact ⟨i, e, h1, h2⟩
theorem bytes_arg {n : Nat} {x : V} (h : Fits T n 29 [x]) : ∃ b : List UInt8, x = .bytes b ∧ b.length ≤ 9223372036854775807 := by
  obtain ⟨b, e, h1⟩ := fits_bytes T_bytes rfl rfl h
  injection e with e _
  exact ⟨b, e, max63 h1⟩
theorem str_arg {n : Nat} {x : V} (h : Fits T n 9 [x]) : ∃ b : List UInt8, x = .str b ∧ b.length ≤ 9223372036854775807 := by
  obtain ⟨b, e, h1⟩ := fits_str T_str rfl h
  injection e with e _
  exact ⟨b, e, max63 h1⟩
def argTys : List TypeId := [28, 23, 3, 29, 5, 9]
theorem argTys_ok : closedT T argTys = true := by kernel_rfl
/-! The package variables -/
theorem laid_at {P : Program} {w : World} {n : String} {d : DataW Unit} : ∀ {l : List (String × DataW Unit)} {ps : List MemPlace}, DataW.LaidVars P w l ps → (n, d) ∈ l →
    ∃ g t cs fuel p, P.globalNamed n = some g ∧ (P.globals[g]?).map (·.type) = some t ∧ w.var? P n = some cs ∧ DataW.trod (fun _ => ()) P w 0 (fun _ => true) false fuel t cs.toList = some (d, p)
  | [], ps, _, hm => by cases hm
  | (m, e) :: l, ps, h, hm => by
    obtain ⟨g, t, cs, fuel, p, q, h1, h2, h3, h4, h5, _⟩ := h
    rcases List.mem_cons.1 hm with hm | hm
    · injection hm with a b
      subst a b
      exact ⟨g, t, cs, fuel, p, h1, h2, h3, h4⟩
    · exact laid_at h5 hm
theorem tab_of {P : Program} {w : World} {name : String} {k : IntKind} {zs : List Int} {l : List (String × DataW Unit)} {g : Nat} {t e : TypeId} {n : Nat}
    (hg : P.globalNamed name = some g) (hty : (P.globals[g]?).map (·.type) = some t) (ht : P.underlying t = some (.array n e)) (he : P.underlying e = some (.int k)) (hce : P.cellsOf e = 1) (hct : P.cellsOf t = n)
    (h : laidMet P l w) (hm : (name, Lib.tabData k zs) ∈ l) : ∃ y f, w.heap[g]? = some (.cells (tabVs k zs) y f) := by
  obtain ⟨ps, hl, _⟩ := h
  obtain ⟨g', t', cs, fuel, p, h1, h2, h3, h4⟩ := laid_at hl hm
  obtain rfl := Option.some.inj (hg.symm.trans h1)
  obtain rfl := Option.some.inj (hty.symm.trans h2)
  have hc := Lib.cells_of_tab ht he hce hct h4
  unfold World.var? at h3
  rw [hg, Option.bind_some] at h3
  split at h3
  · rename_i cs' y f hh
    injection h3 with h3
    subst h3
    refine ⟨y, f, ?_⟩
    rw [hh]
    have : cs' = tabVs k zs := by
      unfold tabVs
      rw [← hc]
    rw [this]
  · cases h3
theorem space_data : Rows.laid_strings_asciiSpace (H := Unit) = Lib.tabData .u8 Lib.asciiSpaceTab := by kernel_rfl
theorem pow_data : Rows.laid_internal_strconv_uint64pow10 (H := Unit) = Lib.tabData .u64 Lib.pow10Tab := by kernel_rfl
theorem globs_of {w : World} (h : laidMetH Tryd.prog Rows.codeChecksRow.laid w) (hs : w.ShapedOpen Tryd.prog) : Globs w := by
  have h : laidMet Tryd.prog Rows.codeChecksRow.laid w := h
  have ms : ("strings.asciiSpace", Lib.tabData (H := Unit) .u8 Lib.asciiSpaceTab) ∈ Rows.codeChecksRow.laid := by
    rw [← space_data]
    simp [Rows.codeChecksRow]
  have mp : ("internal/strconv.uint64pow10", Lib.tabData (H := Unit) .u64 Lib.pow10Tab) ∈ Rows.codeChecksRow.laid := by
    rw [← pow_data]
    simp [Rows.codeChecksRow]
  obtain ⟨y1, f1, s1⟩ := tab_of (g := 0) (t := (Tryd.prog.globals[0]?).map (·.type) |>.getD 0) (e := 5) (n := 256) (by kernel_rfl) (by kernel_rfl) (by kernel_rfl) (by kernel_rfl) (by kernel_rfl) (by kernel_rfl) h ms
  obtain ⟨y2, f2, s2⟩ := tab_of (g := 3) (t := (Tryd.prog.globals[3]?).map (·.type) |>.getD 0) (e := (match Tryd.prog.underlying ((Tryd.prog.globals[3]?).map (·.type) |>.getD 0) with | some (.array _ e) => e | _ => 0)) (n := 20) (by kernel_rfl) (by kernel_rfl) (by kernel_rfl) (by kernel_rfl) (by kernel_rfl) (by kernel_rfl) h mp
  obtain ⟨m, hm⟩ := cell_of_shapedOpen_int (P := Tryd.prog) (g := 2) (t := 3) (zero := #[.int .i64 0]) hs (of_decide_eq_true (by kernel_rfl)) (by kernel_rfl) rfl (by kernel_rfl) (by kernel_rfl) Tryd.underlying3
  have hm : w.cell? ⟨2, 0, none⟩ = some (.int .i64 m) := hm
  intro b hb
  have hb : b = 0 ∨ b = 2 ∨ b = 3 := by simpa [globD] using hb
  rcases hb with rfl | rfl | rfl
  · exact ⟨_, s1, _, _, _, rfl, fun _ => rfl, fun e => absurd e (by decide), fun e => absurd e (by decide)⟩
  · unfold World.cell? at hm
    simp only at hm
    split at hm
    · rename_i vs t f hh
      exact ⟨_, hh, vs, t, f, rfl, fun e => absurd e (by decide), fun _ => ⟨m, by simpa using hm⟩, fun e => absurd e (by decide)⟩
    · cases hm
  · exact ⟨_, s2, _, _, _, rfl, fun e => absurd e (by decide), fun e => absurd e (by decide), fun _ => rfl⟩
/-! The wrap: with the listed variables and the world's shape -/
theorem handed_both {H : Type} {enc : TypeId × Value → H} {a : Assume} {C : Checked} {os : Os} {f : FuncId} {fn : Func} {s : ChangeSpec} {conds : List PathCond} {apart fresh handsOn again : Bool} {l : List (String × DataW Unit)}
    (own : ownKnob C.prog.godebug = none) (started : os.Started) (noInit : C.prog.inits.idxOf? f = none) (hfn : C.prog.funcs[f]? = some fn)
    (witness : ∃ (w : World) (tape : Tape) (i : Input), w.os = os ∧ (w.forCall tape i).Shaped C.prog ∧ i.vars = [] ∧ Input.okWide C.prog (w.forCall tape i) .any w.heap.size f i ∧
      ((s.pre enc C.prog fn conds apart (w.forCall tape i).memory i.args ∧ laidMetH C.prog l (w.forCall tape i).memory) ∧ sizedMet enc C.prog fn (OpenSpec.ofChange s) apart (w.forCall tape i).memory i.args) ∧ a.holds C.prog (lone (Frame.enter C.prog f i.args .normal) [] (w.forCall tape i)))
    (contract : ∀ (W : World) (base : Nat) (args : Array Value) (ds gs : List (DataW H)) (before : List MemPlace),
      (∀ (j : Nat) t v, fn.params[j]? = some t → args[j]? = some v → Value.okWide C.prog W .any base t v) →
      DataW.Whole enc C.prog fn.params.toList s.vars apart W args.toList ds gs before → laidMetH C.prog l W → W.ShapedOpen C.prog →
      Calls C.prog f args W fun e W' => ∃ v, e = .returned v ∧ s.post enc C.prog fn apart fresh handsOn again W args v W') :
    ReturnsInHanded a C os f .any (fun w args => (s.pre enc C.prog fn conds apart w args ∧ laidMetH C.prog l w) ∧ sizedMet enc C.prog fn (OpenSpec.ofChange s) apart w args) (s.post enc C.prog fn apart fresh handsOn again) := by
  refine returnsInHanded_of_calls own started noInit witness fun w tape i _ hsh _ hok hpre _ => ?_
  obtain ⟨_, _, _, fn', hfn', _, _, _, _, hval⟩ := hok
  obtain rfl : fn' = fn := Option.some.inj (hfn'.symm.trans hfn)
  obtain ⟨⟨⟨ds, gs, before, hw, _⟩, hl⟩, _⟩ := hpre
  refine (contract (w.forCall tape i) w.heap.size i.args ds gs before hval (DataW.Whole.of_heap (by rfl) hw) (hl.of_heap (by rfl)) hsh).mono fun e W' ⟨v, he, hp⟩ => ?_
  subst he
  exact ChangeSpec.post_blind hp
/-! The door's own world -/
theorem door_met (os : Os) (args : Array Value) : laidMetH Tryd.prog Rows.codeChecksRow.laid ((World.laidAll Tryd.prog os Rows.codeChecksRow.laid).forCall (fun _ _ => 0) ⟨#[], args, []⟩).memory := by
  rw [MakeChecks.laidMetH_plain _ _ _ (by kernel_rfl)]
  exact laidMet_laidAll _ (by kernel_rfl) (by kernel_rfl)
theorem door_shaped (os : Os) (args : Array Value) : ((World.laidAll Tryd.prog os Rows.codeChecksRow.laid).forCall (fun _ _ => 0) ⟨#[], args, []⟩).Shaped Tryd.prog :=
  World.shaped_of_ZipB (by kernel_rfl) (by kernel_rfl)
end Go.Proofs.YtjpmogajlnkihaaDoor.En
