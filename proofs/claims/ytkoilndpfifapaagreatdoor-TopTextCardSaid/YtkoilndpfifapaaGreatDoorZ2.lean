/- Texts. -/
import Derived.Test.YtkoilndpfifapaaGreatDoorZ1
import Derived.BigFrame
import Derived.ScopeJumps
import Derived.Orders
import Derived.KernelRfl
import Derived.Test.YtkoilndpfifapaaGreatDoorProg

set_option linter.unusedSimpArgs false
set_option linter.unusedVariables false
set_option linter.unusedSectionVars false
open Array renaming length_toList → Hl, getD_eq_getD_getElem? → Ge, toList_eq_nil_iff → Jp, ext' → LA, getElem?_setIfInBounds_ne → HZ, getElem?_append_left → GD, getElem?_eq_getElem → GG, mem_toList_iff → Lc, getElem?_eq_some_iff → Hz, replicate → HM, getElem?_replicate → Ks
open Bool renaming cond_eq_ite → GF, and_eq_true → FT, false_eq_true → GW, or_eq_false_iff → GI, not_eq_true' → Ha, false_or → Lo, and_eq_false_iff → KV, not_eq_false' → Jj, or_eq_true → Ih
open Go renaming Program → Gu, TypeId → FP, World → Gc, Operand → GK, Value → FX, FuncId → Gv, run_underlying → Gp, Calls → IF, step_scope → JF, wp_cond_false → MU, getD_set_ne → Mj, mem_ready → Nd, ResultVar → Lg
open Go.Call renaming operands → HK
open Go.Instr renaming findNow → Lu, sameNow → Lv, lookup → LN, sureAddr → Io, makeFunc → JZ, loadAt → Ju
open Go.MapKept renaming run_getObj_map → KK, run_checkKey → Lb, IsKey → Kp, run_findKey → Li
open Go.Op renaming operands → GB
open Go.Region renaming wanted → Kr, binds → Ik, ready → KM
open Go.Result renaming andThen → Jx, andThen_ok → Gg
open Go.Sem renaming run_bind → Gq, run_pure → Hj
open Iff renaming rfl → Kk
open List renaming map_cons → Hp, all_cons → Kq, getElem?_eq_some_iff → FN, getElem?_eq_getElem → FQ, all_eq_true → Hg, mem_of_getElem? → Gb, getD_eq_getElem?_getD → FV, getElem?_set_ne → IY, mem_append → Hc, map_nil → JR, getElem?_set → Kj, getElem?_append_left → Gh, getElem?_append_right → Gk, length_map → Gi, getElem?_map → Gn, length → Mh, mem_cons_of_mem → GQ, getElem?_cons_succ → Hv, mem_cons → GH, cons_append → Gw, replicate → GX, map_inj_left → Jy
open Nat renaming beq → FZ, eq_of_beq_eq_true → FM, zero_add → GL, zero_le → Hq, le_refl → FW, le_of_ble_eq_true → Gm, zero_lt_one → KQ, ble_eq_true_of_le → Ia, add_sub_add_right → JD, lt_or_ge → Hi, eq_zero_or_pos → GJ, ble → GY, beq_refl → KD, strongRecOn → KR, lt_succ_self → KA, blt → GS, testBit → NW, testBit_or → Ja, lt_or_gt_of_ne → LC, add_comm → IQ, le_of_eq → Jz
open Ne renaming symm → Jd
open Option renaming map_eq_some_iff → Gl, bind_some → GV, bind_none → Hm, getD_some → Kz, map_some → JJ
namespace Go.Proofs.YtkoilndpfifapaaGreatDoor
noncomputable section
namespace En
open Go
section
variable {R : Type} {P : Gu} {T : FP -> Option Ty} {E : Env} {g : G} {w w' : Gc} {dead : List Pos}
def RepS (E : Env) (g : G) (w : Gc) (dead : List Pos) (slots : List D) (a : Act) : Prop := ∀ (s : Nat) x, slots[s]? = some x -> RepD E g w dead x (a.tmps.getD s undef)
theorem RepS.ev {slots : List D} {a : Act} (hs : RepS E g w dead slots a) (h : FP) (z : GK) : RepD E g w dead (G5 T slots h z) (a.eval z) := d0T hs h z
theorem a3X {h0 : FP} {slots : List D} {a : Act} (hs : RepS E g w dead slots a) : ∀ (ps : List (Nat × GK)) (K : List (Nat × D) -> Option R) (r : R), a1I h0 T slots ps K = some r ->
 ∃ ds, RepP E g w dead ds (ps.map fun p => (p.1, a.eval p.2)) /\ K ds = some r
 | [], K, r, h => ⟨[], trivial, h⟩
 | (i, x) :: ps, K, r, h => by
   unfold a1I at h
   rw [J3] at h
   obtain ⟨ds, h1, h2⟩ := a3X hs ps _ r h
   exact ⟨(i, G5 T slots h0 x) :: ds, ⟨rfl, hs.ev h0 x, h1⟩, h2⟩
theorem a9K {slots : List D} {a : Act} (hs : RepS E g w dead slots a) (x : Option GK) (K : Option D -> Option R) (r : R) (h : evO T slots x K = some r) : ∃ d, RepO E g w dead d (x.map a.eval) /\ K d = some r := by
 unfold evO at h
 split at h
 . exact ⟨none, trivial, h⟩
 . rename_i x
   rw [J3] at h
   exact ⟨some (G5 T slots 0 x), hs.ev 0 x, h⟩
theorem b1k {slots : List D} {a : Act} (hs : RepS E g w dead slots a) : ∀ (xs : List GK) (K : List D -> Option R) (r : R), a6Q T slots xs K = some r ->
 ∃ ds, ds.length = xs.length /\ (∀ (k : Nat) y, ds[k]? = some y -> RepD E g w dead y ((xs.map a.eval).getD k undef)) /\ K ds = some r
 | [], K, r, h => ⟨[], rfl, fun k y h => by simp at h, h⟩
 | x :: xs, K, r, h => by
   unfold a6Q at h
   simp only [J3, forceD_eq] at h
   obtain ⟨ds, h1, h2, h3⟩ := b1k hs xs _ r h
   refine ⟨(G5 T slots 0 x).plain :: ds, by simp [h1], fun k y hk => ?_, h3⟩
   rcases k with _ | k
   . simp at hk; subst hk; simpa using (hs.ev 0 x).plain_
   . simpa using h2 k y (by simpa using hk)
theorem d8g {d : D} {v : FX} (h : RepD E g w dead d v) {x : V} (hx : toV d = some x) : RepV g w x v := by
 cases d with
 | v y a =>
   have : y = x := by cases y <;> simp only [toV, Option.some.injEq, reduceCtorEq] at hx <;> exact hx
   subst this
   exact F6 h
 | agg ds =>
   simp only [toV, Gl] at hx
   obtain ⟨ys, hys, rfl⟩ := hx
   obtain ⟨h1, h2⟩ := b3C _ _ hys
   cases h with
   | agg ds us hn hr =>
     refine .agg _ us (by rw [h1]; exact hn) fun k y hk => ?_
     obtain ⟨_, a, h3⟩ := h2 k y hk
     exact F6 (hr k _ h3)
 | _ => simp [toV] at hx
theorem Res.value {m : Mem} {o : Oper} {a : Act} (hh : Here T E g w m) {d : D} {v : FX} (hr : (execOp a.eval o).run P w = .ok (.value v) w) (hx : RepD E g w dead d v) : Res P T E g w m dead o a d m dead := Res.pure hh hr hx
theorem b7y {f : Gv} : ∀ {fs : List Gv} {j i : Nat}, d8R f j fs = some i -> ∃ m, i = j + m /\ fs[m]? = some f
 | [], j, i, h => by cases h
 | g :: r, j, i, h => by
   unfold d8R at h
   cases hb : FZ f g with
   | true =>
     rw [hb, cond_true] at h
     injection h with h
     exact ⟨0, h.symm, by simp [FM hb]⟩
   | false =>
     rw [hb, cond_false] at h
     obtain ⟨m, h1, h2⟩ := b7y h
     exact ⟨m + 1, by omega, by simpa using h2⟩
theorem c6O {k : Nat} {old x : D} {v : FX} (hx : RepD E g w dead x v) : RepD E g w dead (fnC k old x) v := by
 unfold fnC
 split
 . split
   . cases hx; exact .fn _ _ _ _ _ (.inl ⟨rfl, rfl⟩)
   . rename_i i gs k1 s1
     split
     . rename_i f
       split
       . rename_i j hj
         rw [GF]
         split
         . rename_i hi
           have hi : i = 1 := by simpa using hi
           subst hi
           obtain ⟨m, h1, h2⟩ := b7y hj
           cases hx with
           | fn _ _ _ _ _ h =>
             rcases h with ⟨h0, _⟩ | ⟨a, f', h3, h4, h5, h6⟩
             . cases h0
             . have : a = 0 := by omega
               subst this
               simp at h3
               subst h3
               exact .fn _ _ _ _ _ (.inr ⟨j, f, by rw [h1, GL]; exact h2, rfl, h5, h6⟩)
         . exact hx
       . exact hx
     . exact hx
   . exact hx
 . split
   . split
     . split
       . cases hx with | v x a v h ha => exact .v _ _ _ h trivial
       . exact hx
     . exact hx
   . exact hx
 . exact hx
theorem b1d (k : Nat) : ∀ (os ds : List D), (c0B k os ds).length = ds.length
 | [], ds => by cases ds <;> rfl
 | _ :: _, [] => rfl
 | o :: os, d :: ds => by simp [c0B, b1d k os ds]
theorem c3K (k : Nat) : ∀ (os ds : List D) (us : Nat -> FX), (∀ (i : Nat) y, ds[i]? = some y -> RepD E g w dead y (us i)) -> ∀ (i : Nat) y, (c0B k os ds)[i]? = some y -> RepD E g w dead y (us i)
 | [], ds, us, h, i, y, hy => h i y (by cases ds <;> exact hy)
 | _ :: _, [], us, h, i, y, hy => by simp [c0B] at hy
 | o :: os, d :: ds, us, h, 0, y, hy => by simp [c0B] at hy; subst hy; exact c6O (h 0 d rfl)
 | o :: os, d :: ds, us, h, i + 1, y, hy => c3K k os ds (fun j => us (j + 1)) (fun j z hz => h (j + 1) z (by simpa using hz)) i y (by simpa [c0B] using hy)
theorem c5u {m : Mem} {a x : D} {v : FX} (hx : RepD E g w dead x v) : RepD E g w dead (b2F m a x) v := by
 unfold b2F
 split
 . split
   . rw [GF]
     split
     . split
       . cases hx with
         | agg ds us hn hr => exact .agg _ us (by rw [b1d]; exact hn) (c3K _ _ _ _ hr)
       . exact c6O hx
     . exact hx
   . exact hx
 . exact hx
theorem b6Q {n : Int} : ∀ {es : List MapEntry} {ks : List Int}, es.map (fun e => (e.key, e.val)) = ks.map (fun k => (Value.int .i64 k, Value.bool true)) -> ∀ i, (∃ j, Lu (.int .i64) (.int .i64 n) es i = some (some (j, .bool true)) /\ c9G n ks = true) ∨ (Lu (.int .i64) (.int .i64 n) es i = some none /\ c9G n ks = false)
 | [], [], _, i => .inr ⟨rfl, rfl⟩
 | [], _ :: _, h, i => by simp at h
 | _ :: _, [], h, i => by simp at h
 | e :: es, k :: ks, h, i => by
   simp only [Hp, List.cons.injEq, Prod.mk.injEq] at h
   obtain ⟨⟨h1, h2⟩, h3⟩ := h
   unfold Lu c9G
   rw [h1, h2]
   by_cases he : n = k
   . subst he
     exact .inl ⟨i, by simp [Lv], by simp⟩
   . have e1 : (n == k) = false := by simpa using he
     rcases b6Q (n := n) h3 (i + 1) with ⟨j, h4, h5⟩ | ⟨h4, h5⟩
     . exact .inl ⟨j, by simp [Lv, e1, h4], by simp [h5]⟩
     . exact .inr ⟨by simp [Lv, e1, h4], by simp [he, h5]⟩
theorem b5T (hT : D7 P T) (t : FP) (x i : D) (vx vi : FX) (hx : RepD E g w dead x vx) (hi : RepD E g w dead i vi) (d : D) (h : a6h T t x i some = some d) :
 ∃ v, (LN t vx vi false).run P w = .ok v w /\ RepD E g w dead d v := by
 unfold a6h at h
 split at h
 . rename_i ty ks a n a' hty
   split at h
   . rename_i kt et C9
     split at h
     . rename_i tk te htk hte
       split at h
       . rename_i hk hv
         rcases j8 h with ⟨_, h⟩ | ⟨N7, h⟩
         . cases h
         . injection h with h; subst h
           obtain ⟨rfl, _⟩ := hi.int_inv
           cases hx with
           | v _ _ _ hxx _ =>
             cases hxx with
             | mset _ b es clock hb hw hm =>
               have hd := (hT _ _ hty).desc
               rw [C9] at hd
               have hkd := (hT _ _ htk).desc
               rw [hk] at hkd
               obtain ⟨ii, hi1, hi2, _⟩ := (hT _ _ hte).info
               have hz : te.zero = .bool false := by simp [Ty.zero, N7, hv, zeroV]
               have hzv : (zeroValue et).run P w = .ok (.bool false) w := by simp [zeroValue, typeInfo, hi1, hi2, hz]
               refine ⟨.bool (c9G n ks), ?_, RepD.bool_ _⟩
               rcases b6Q (n := n) hm 0 with ⟨j, h4, h5⟩ | ⟨h4, h5⟩
               . simp [LN, Gp hd, KK hw, Lb hkd (show Kp (.int .i64) (.int .i64 n) from by simp [Kp]), Li hkd h4, h5, Jx]
               . simp [LN, Gp hd, KK hw, Lb hkd (show Kp (.int .i64) (.int .i64 n) from by simp [Kp]), Li hkd h4, h5, hzv, Jx]
       . cases h
     . cases h
   . cases h
 . cases h
theorem c9q (hT : D7 P T) {m : Mem} (hh : Here T E g w m) {slots : List D} {a : Act} (hs : RepS E g w dead slots a) (o : Oper) {K : D -> Mem -> List Pos -> Option R} {r : R}
 (h : opK T (o.dst.getD 0) o.type slots o.op m dead K = some r) : ∃ d m' dead', Res P T E g w m dead o a d m' dead' /\ K d m' dead' = some r := by
 generalize hop : o.op = op at h
 cases op <;> simp only [opK, J3, reduceCtorEq] at h
 case move x => exact ⟨_, _, _, .pure hh (by simp [execOp, hop]) (hs.ev _ _), h⟩
 case assign x => exact ⟨_, _, _, .pure hh (by simp [execOp, hop]) (hs.ev _ _), h⟩
 case pick c x y =>
  have hc := hs.ev (T := T) 0 c
  generalize hd : G5 T slots 0 c = dc at h hc
  cases dc <;> simp only [reduceCtorEq] at h
  rename_i x0 a0
  cases x0 <;> simp only [V.unBool, reduceCtorEq] at h
  rename_i t
  have hb := hc.bool_inv
  cases t
  . exact ⟨_, _, _, .pure hh (by simp [execOp, hop, hb, asBool]) (hs.ev _ _), h⟩
  . exact ⟨_, _, _, .pure hh (by simp [execOp, hop, hb, asBool]) (hs.ev _ _), h⟩
 case alloc t =>
  split at h
  case h_2 => cases h
  rename_i ty hty
  have hok := hT _ _ hty
  obtain ⟨i, hi, hz, hsi, hby⟩ := hok.info
  unfold T2 at h
  split at h
  case h_2 => cases h
  rename_i fr out
  split at h
  case h_2 => cases h
  rename_i hfr
  have hzr := a9a (E := E) (g := g) (w := w) (dead := dead) hok
  obtain ⟨cs, dead', g1, h1, ho⟩ := a0O (E := E) 0 (o.dst.getD 0) (Hq _) ty.zeroDs ty.zero.cells.toList 0 g dead _ r (by rw [Hl]; exact hzr.1) (fun j y hj => by simpa using hzr.2 j y hj) hh.mem h
  rw [I7] at h1
  obtain ⟨g', E', k1, k2, k3, k4, k5⟩ := a4d hh (o.dst.getD 0) hfr t ty.zero.cells ho
  exact ⟨_, _, _, ⟨_, _, g', E', .inl (by simp [execOp, hop, Instr.alloc, zeroValue, typeInfo, hi, hz, newVar, newRow]), k1, k2, k3, k4⟩, h1⟩
 case box t x =>
  split at h
  case h_2 => cases h
  rename_i ty hty
  unfold T2 at h
  split at h
  case h_2 => cases h
  rename_i fr out
  split at h
  case h_2 => cases h
  rename_i hfr
  have hx := hs.ev (T := T) t x
  -- every cell is one cell
  have T9 : ∀ (ds : List D) (k : Nat) (dead : List Pos) (K : List D -> List Pos -> Option R) (r : R), N9 k ds dead K = some r -> ds.all D.one = true := by
   intro ds
   induction ds with
   | nil => intro _ _ _ _ _; rfl
   | cons d ds ih =>
     intro k dead K r h
     unfold N9 at h
     rcases j8 h with ⟨h1, h⟩ | ⟨_, h⟩
     . have hrest : ds.all D.one = true := by
        split at h
        . simp only [U6] at h; exact ih _ _ _ _ h
        . split at h
          . simp only [forceD_eq] at h; exact ih _ _ _ _ h
          . cases h
       rw [Kq, h1, hrest]; rfl
     . cases h
  have hcr := b0e hx (T9 _ _ _ _ _ h)
  obtain ⟨cs, dead', g1, h1, ho⟩ := a0O (E := E) 0 (o.dst.getD 0) (Hq _) _ (a.eval x).cells.toList 0 g dead _ r (by rw [Hl]; exact hcr.1) (fun j y hj => by simpa using hcr.2 j y hj) hh.mem h
  rw [I7] at h1
  obtain ⟨g', E', k1, k2, k3, k4, k5⟩ := a4d hh (o.dst.getD 0) hfr t (a.eval x).cells ho
  exact ⟨_, _, _, ⟨_, _, g', E', .inl (by simp [execOp, hop, Instr.box, newVar, newRow]), k1, k2, k3, k4⟩, h1⟩
 case build t parts =>
  obtain ⟨ds, h1, h2⟩ := a3X hs _ _ _ h
  rw [← c3d] at h2
  obtain ⟨d, h3, h4⟩ := bind_some h2
  obtain ⟨v, h5, h6⟩ := b9w (P := P) hT t ds (parts.map fun p => (p.1, a.eval p.2)) (by simpa using h1) d h3
  exact ⟨_, _, _, .pure hh (by simp [execOp, hop, h5]) h6, h4⟩
 case buildSlice t len parts =>
  obtain ⟨ds, h1, h2⟩ := a3X hs _ _ _ h
  obtain ⟨v, w', p, d, h5, h6, h7, h8⟩ := a8K (P := P) hT hh (o.dst.getD 0) t len ds (parts.map fun p => (p.1, a.eval p.2)) (by simpa using h1) h2
  exact ⟨_, _, _, Res.grow hh h6 (FW _) p (by simp [execOp, hop, h5]) h7, h8⟩
 case load t x =>
  rw [← b9W] at h
  obtain ⟨d, h3, h4⟩ := bind_some h
  obtain ⟨v, h5, h6⟩ := b0P (P := P) hT t _ _ (c2A hh.sk x (hs.ev 0 x)) hh.mem d h3
  exact ⟨_, _, _, .pure hh (by simp [execOp, hop, h5]) h6, h4⟩
 case store t x y =>
  have hx := hs.ev (T := T) 0 x
  have hy := c5u (m := m) (a := G5 T slots 0 x) (hs.ev (T := T) t y)
  simp only [forceD_eq] at h
  generalize b2F m (G5 T slots 0 x) (G5 T slots t y) = dy at h hy
  unfold b8W at h
  split at h
  case h_2 => cases h
  rename_i ty hty
  have hok := hT _ _ hty
  obtain ⟨i, hi, hz, hsi, hby⟩ := hok.info
  split at h
  case h_2 => cases h
  rename_i k s off heq
  rw [heq] at hx
  split at h
  case h_2 => cases h
  rename_i b hb
  rcases j8 h with ⟨hc, h⟩ | ⟨_, h⟩
  case inr => cases h
  simp only [FT] at hc
  have hc1 := FM hc.1
  have hc2 := Gm hc.2
  have T9 : ∀ (ds : List D) (k : Nat) (dead : List Pos) (K : List D -> List Pos -> Option R) (r : R), N9 k ds dead K = some r -> ds.all D.one = true := by
   intro ds
   induction ds with
   | nil => intro _ _ _ _ _; rfl
   | cons d ds ih =>
     intro k dead K r h
     unfold N9 at h
     rcases j8 h with ⟨h1, h⟩ | ⟨_, h⟩
     . have hrest : ds.all D.one = true := by
        split at h
        . simp only [U6] at h; exact ih _ _ _ _ h
        . split at h
          . simp only [forceD_eq] at h; exact ih _ _ _ _ h
          . cases h
       rw [Kq, h1, hrest]; rfl
     . cases h
  have b1u := T9 _ _ _ _ _ h
  have hcr := b0e hy b1u
  generalize hev : a.eval x = vx at hx
  cases hx with
  | ptr k s off g1 g2 =>
    obtain ⟨cs, dead', g1', h1, ho⟩ := a0O (E := E) k s g1 _ (a.eval y).cells.toList off g dead _ r (by rw [Hl]; exact hcr.1) (fun j z hj => by simpa using hcr.2 j z hj) hh.mem h
    simp only [a9b, I7] at h1
    have hul : (a.eval y).cells.toList.length = ty.size := by rw [Hl, hcr.1, hc1]
    obtain ⟨w', g', E', k0, k1, k2, k3, k4⟩ := c1V (P := P) hh hb (a.eval y).cells.toList ho (by rw [hul]; exact hc2) (fun u hu => by
     obtain ⟨j, hj⟩ := List.mem_iff_getElem?.1 hu
     have hjl := (FN.1 hj).1
     rw [Hl, hcr.1] at hjl
     have hd := FQ hjl
     have h9 := hcr.2 j _ hd
     have : (a.eval y).cells.getD j undef = u := by
      rw [Ge, ← Array.getElem?_toList, hj]; rfl
     rw [this] at h9
     exact h9.one_ (Hg.1 b1u _ (Gb hd)))
    refine ⟨.any, _, _, ⟨undef, w', g', E', .inr ⟨?_, rfl⟩, k1, k2, .any _, k3⟩, h1⟩
    simp only [execOp, hop, Instr.storeAt, Gq, hev, Io, Hj, Gg, storeVar, hok.size (w := w)]
    rw [if_neg (by rw [← hc1, ← hcr.1]; simp)]
    simp [k0]
 case nilCheck x =>
  have hx := hs.ev (T := T) o.type x
  generalize hd : G5 T slots o.type x = dx at h hx
  cases dx <;> simp only [reduceCtorEq] at h
  all_goals
   refine ⟨_, _, _, .pure hh (v := a.eval x) ?_ hx, h⟩
   generalize hv : a.eval x = v at hx
   cases hx
   first
    | (simp [execOp, hop, hv]; done)
    | (rename_i f' _ us' _ _
       rcases a8o f' us' with e | ⟨_, e⟩ <;> rw [e] at hv ⊢ <;> simp [execOp, hop, hv])
 case binOp op xt x y yt =>
  rw [← d1y] at h
  obtain ⟨d, h3, h4⟩ := bind_some h
  obtain ⟨v, h5, h6⟩ := c5Y (P := P) hT op xt x y _ _ _ _ (hs.ev xt x) (hs.ev yt y) d h3
  exact ⟨_, _, _, .pure hh (by simp only [execOp, hop]; rw [Gq, h5]; rfl) h6, h4⟩
 case unOp op xt x =>
  rw [← e0X] at h
  obtain ⟨d, h3, h4⟩ := bind_some h
  obtain ⟨v, h5, h6⟩ := c9U (P := P) op xt _ _ (hs.ev xt x) d h3
  exact ⟨_, _, _, .pure hh (by simp [execOp, hop, h5]) h6, h4⟩
 case convert src t x =>
  rw [← c7p] at h
  obtain ⟨d, h3, h4⟩ := bind_some h
  obtain ⟨v, w', h5, h6, h7⟩ := c2H (P := P) hT src t _ _ (hs.ev src x) d h3
  exact ⟨_, _, _, Res.grow hh h6 (FW _) _ (by simp [execOp, hop, h5]) h7, h4⟩
 case makeInterface t x =>
  have hx := hs.ev (T := T) t x
  split at h
  case h_2 => cases h
  rename_i ty y hty hy
  have hv := d8g hx hy
  have hd := (hT _ _ hty).desc
  split at h
  . cases h
  . rename_i hni
    refine ⟨_, _, _, .pure hh (v := .iface t (a.eval x)) ?_ (.v (.iface t y) .no _ (.iface t y _ hv) trivial), h⟩
    simp only [execOp, hop, Instr.makeInterface, Gq, Gp hd, Gg]
    cases hdd : ty.desc <;> simp_all
 case makeFunc fn first caps =>
  cases fn <;> simp only [reduceCtorEq] at h
  rename_i f
  split at h
  case h_3 => cases h
  case h_2 z hf =>
   split at h
   case h_2 => cases h
   rename_i hcp
   have hcp' : caps = #[] := Jp.1 hcp
   have hf' : first = #[z] := by apply LA; rw [hf]
   subst hcp' hf'
   have hz := hs.ev (T := T) 0 z
   generalize hd : G5 T slots 0 z = dz at h hz
   cases dz <;> simp only [reduceCtorEq] at h
   case agg ds =>
    rw [forceD_eq] at h
    have hp := hz.plain_
    exact ⟨_, _, _, .pure hh (v := .func (.func f) #[a.eval z] #[]) (by simp [execOp, hop, JZ]) (by
     have := RepD.clos (E := E) (g := g) (w := w) (dead := dead) (f + 1000000) [(D.agg ds).plain] #[a.eval z] rfl (fun k y hk => by
      rcases k with _ | k
      . simp at hk; subst hk; exact hp
      . simp at hk)
     have e : a6W (f + 1000000) #[a.eval z] = .func (.func f) #[a.eval z] #[] := c2B f _ (KQ)
     rwa [e] at this), h⟩
   rename_i k s off
   rcases j8 h with ⟨h0, h⟩ | ⟨_, h⟩
   case inr => cases h
   have h0 := FM h0
   subst h0
   generalize hv : a.eval z = vz at hz
   cases hz with
   | ptr k s o g1 g2 =>
     exact ⟨_, _, _, .pure hh (v := .func (.func f) #[.pointer (some ⟨g.J (E.d - k) s, 0, Option.none⟩)] #[]) (by simp [execOp, hop, JZ, hv]) (.fn _ _ _ _ _ (.inr ⟨0, f, rfl, rfl, ⟨g1, g2⟩, rfl⟩)), h⟩
  rename_i hf
  have hf' : first = #[] := Jp.1 hf
  subst hf'
  rcases j8 h with ⟨_, h⟩ | ⟨hlt, h⟩
  . cases h
  have hlt : ¬ 1000000 <= f := fun e => by rw [Ia e] at hlt; cases hlt
  obtain ⟨ds, h1, h2, h3⟩ := b1k hs _ _ _ h
  exact ⟨_, _, _, .pure hh (v := .func (.func f) #[] (caps.map a.eval)) (by simp [execOp, hop, JZ]) (by
   have := RepD.clos (E := E) (g := g) (w := w) (dead := dead) f ds (caps.map a.eval) (by simpa using h1.symm) fun k y hk => by simpa using h2 k y hk
   rwa [b6F hlt] at this), h3⟩
 case makeSlice t l c =>
  obtain ⟨v, w', p, d, h5, h6, h7, h8⟩ := a9S (P := P) hT hh (o.dst.getD 0) t _ _ _ _ (hs.ev 0 l) (hs.ev 0 c) h
  exact ⟨_, _, _, Res.grow hh h6 (FW _) p (by simp [execOp, hop, h5]) h7, h8⟩
 case lookup t x i ok =>
  cases ok <;> simp only [reduceCtorEq] at h
  rw [← b6d] at h
  obtain ⟨d, h3, h4⟩ := bind_some h
  obtain ⟨v, h5, h6⟩ := b5T (P := P) hT t _ _ _ _ (hs.ev t x) (hs.ev 0 i) d h3
  exact ⟨_, _, _, .pure hh (by simp [execOp, hop, h5]) h6, h4⟩
 case slice t x lo hi mx =>
  obtain ⟨dlo, h1, h⟩ := a9K hs lo _ _ h
  obtain ⟨dhi, h2, h⟩ := a9K hs hi _ _ h
  obtain ⟨dmx, h3, h⟩ := a9K hs mx _ _ h
  rw [← c2o] at h
  obtain ⟨d, h4, h5⟩ := bind_some h
  obtain ⟨v, h6, h7⟩ := b8k (P := P) hh.sz hT t _ _ _ _ _ _ _ _ (hs.ev t x) h1 h2 h3 d h4
  exact ⟨_, _, _, .pure hh (by simp [execOp, hop, h6]) h7, h5⟩
 case fieldAddr t x f =>
  rw [← a9j] at h
  obtain ⟨d, h3, h4⟩ := bind_some h
  obtain ⟨v, h5, h6⟩ := b0d (P := P) hT t _ f _ (hs.ev 0 x) d h3
  exact ⟨_, _, _, .pure hh (by simp [execOp, hop, h5]) h6, h4⟩
 case field t x f =>
  rw [← c1g] at h
  obtain ⟨d, h3, h4⟩ := bind_some h
  obtain ⟨v, h5, h6⟩ := b8g (P := P) hT t _ f _ (hs.ev t x) d h3
  exact ⟨_, _, _, .pure hh (by simp [execOp, hop, h5]) h6, h4⟩
 case indexAddr t x i =>
  rw [← a8b] at h
  obtain ⟨d, h3, h4⟩ := bind_some h
  obtain ⟨v, h5, h6⟩ := a9n (P := P) hh.sz hT t _ _ _ _ (hs.ev t x) (hs.ev 0 i) d h3
  exact ⟨_, _, _, .pure hh (by simp [execOp, hop, h5]) h6, h4⟩
 case index t x i =>
  rw [← c1a] at h
  obtain ⟨d, h3, h4⟩ := bind_some h
  obtain ⟨v, h5, h6⟩ := c0b (P := P) hT t _ _ _ _ (hs.ev t x) (hs.ev 0 i) d h3
  exact ⟨_, _, _, .pure hh (by simp [execOp, hop, h5]) h6, h4⟩
 case extract x i =>
  have hx := hs.ev (T := T) 0 x
  generalize hd : G5 T slots 0 x = dx at h hx
  cases dx <;> simp only [reduceCtorEq] at h
  rename_i ds
  split at h
  case h_2 => cases h
  rename_i d hdi
  rw [forceD_eq] at h
  generalize hv : a.eval x = v at hx
  cases hx with
  | tup ds us hn hr =>
    have hi := (FN.1 hdi).1
    refine ⟨_, _, _, .pure hh (v := us.getD i undef) ?_ (hr i d hdi), h⟩
    have hu : us[i]? = some (us.getD i undef) := by simp [Ge, (by omega : i < us.size)]
    simp only [execOp, hop, hv, Instr.extract, Gq, hu]
    rfl
 case call c =>
  obtain ⟨callee, args, ats⟩ := c
  obtain ⟨args⟩ := args
  obtain ⟨ats⟩ := ats
  simp only at h
  split at h
  . rename_i x t
    rw [← d3C] at h
    obtain ⟨d, h3, h4⟩ := bind_some h
    obtain ⟨v, h5, h6⟩ := c5S (P := P) hT t o.type _ _ (hs.ev t x) d h3
    exact ⟨_, _, _, .pure hh (by simp [execOp, hop, resolve, invoke, builtin, h5]) h6, h4⟩
  . rename_i s x t t2
    obtain ⟨v, w', g', E', d, m', dead', h5, h6, h7, h8, h9, h10, h11⟩ := b5Q (P := P) hT hh (o.dst.getD 0) t t2 o.type _ _ _ _ (hs.ev t s) (hs.ev t2 x) h
    exact ⟨_, _, _, ⟨v, w', g', E', .inl (by simp [execOp, hop, resolve, invoke, builtin, h5]), h7, h8, h9, h10⟩, h11⟩
  . rename_i x y t u
    rw [← a6C] at h
    obtain ⟨d, h3, h4⟩ := bind_some h
    have hx := hs.ev (T := T) t x
    have hy := hs.ev (T := T) u y
    unfold a4a at h3
    split at h3
    case h_2 => cases h3
    rename_i k n a1 k' n' a2 heq
    injection heq with e1 heq
    injection heq with e2 _
    rw [e1] at hx
    rw [e2] at hy
    split at h3
    case isFalse => cases h3
    rename_i hk
    subst hk
    injection h3 with h3; subst h3
    obtain ⟨hx1, hx2⟩ := hx.int_inv
    obtain ⟨hy1, hy2⟩ := hy.int_inv
    refine ⟨_, _, _, .pure hh (v := .int k (max n n')) ?_ (RepD.int_ (by show k.min <= max n n' /\ max n n' <= k.max; omega)), h4⟩
    simp [execOp, hop, resolve, invoke, builtin, hx1, hy1, run_max_int2]
    split <;> omega
  . rename_i x y t u
    rw [← a6C] at h
    obtain ⟨d, h3, h4⟩ := bind_some h
    have hx := hs.ev (T := T) t x
    have hy := hs.ev (T := T) u y
    unfold a4a at h3
    split at h3
    case h_2 => cases h3
    rename_i k n a1 k' n' a2 heq
    injection heq with e1 heq
    injection heq with e2 _
    rw [e1] at hx
    rw [e2] at hy
    split at h3
    case isFalse => cases h3
    rename_i hk
    subst hk
    injection h3 with h3; subst h3
    obtain ⟨hx1, hx2⟩ := hx.int_inv
    obtain ⟨hy1, hy2⟩ := hy.int_inv
    refine ⟨_, _, _, .pure hh (v := .int k (min n n')) ?_ (RepD.int_ (by show k.min <= min n n' /\ min n n' <= k.max; omega)), h4⟩
    simp [execOp, hop, resolve, invoke, builtin, hx1, hy1, run_min_int2]
    split <;> omega
  . cases h
end
end En
namespace En
open Go
section
variable {R : Type} {T : FP -> Option Ty}
theorem d7M (slots : List D) (dst : Option Nat) (d : D) (K : List D -> Option R) : b8d slots dst d K = K (match dst with | some s => slots.set s (a8Z s d) | none => slots) := by
 unfold b8d
 cases dst with
 | none => rfl
 | some s => cases d <;> simp only [U6, a2c, a8Z]
def put (slots : List D) (dst : Option Nat) (d : D) : List D := match dst with | some s => slots.set s (a8Z s d) | none => slots
theorem V4 (slots : List D) (dst : Option Nat) (d : D) (K : List D -> Option R) : b8d slots dst d K = K (put slots dst d) := d7M slots dst d K
def b8n (x : Nat) (z : GK) : Prop := z ≠ .tmp x
theorem C4 (slots : List D) (x : Nat) (v : D) (h : FP) (z : GK) (hz : b8n x z) : G5 T (slots.set x v) h z = G5 T slots h z := by
 cases z with
 | tmp t =>
   have : x ≠ t := fun e => hz (by rw [e])
   simp [G5, FV, IY this]
 | _ => rfl
theorem a7g {h0 : FP} (slots : List D) (x : Nat) (v : D) : ∀ (ps : List (Nat × GK)) (K : List (Nat × D) -> Option R), (∀ p ∈ ps, b8n x p.2) -> a1I h0 T (slots.set x v) ps K = a1I h0 T slots ps K
 | [], K, _ => rfl
 | (i, z) :: ps, K, h => by
   simp only [a1I, J3]
   rw [C4 slots x v h0 z (h (i, z) (by simp)), a7g slots x v ps _ (fun p hp => h p (by simp [hp]))]
theorem b9Y (slots : List D) (x : Nat) (v : D) (z : Option GK) (K : Option D -> Option R) (h : ∀ y, z = some y -> b8n x y) : evO T (slots.set x v) z K = evO T slots z K := by
 cases z with
 | none => rfl
 | some z => simp only [evO, J3]; rw [C4 slots x v 0 z (h z rfl)]
theorem b7a (slots : List D) (x : Nat) (v : D) : ∀ (zs : List GK) (K : List D -> Option R), (∀ z ∈ zs, b8n x z) -> a6Q T (slots.set x v) zs K = a6Q T slots zs K
 | [], K, _ => rfl
 | z :: zs, K, h => by
   simp only [a6Q, J3, forceD_eq]
   rw [C4 slots x v 0 z (h z (by simp)), b7a slots x v zs _ (fun p hp => h p (by simp [hp]))]
theorem a3o (slots : List D) (x : Nat) (v : D) : ∀ (zs : List GK) (ts : List FP) (K : List D -> Option R), (∀ z ∈ zs, b8n x z) -> a0H T (slots.set x v) ts zs K = a0H T slots ts zs K
 | [], ts, K, _ => by cases ts <;> rfl
 | z :: zs, [], K, h => by
   simp only [a0H, J3, forceD_eq]
   rw [C4 slots x v 0 z (h z (by simp)), a3o slots x v zs [] _ (fun p hp => h p (by simp [hp]))]
 | z :: zs, t :: ts, K, h => by
   simp only [a0H, J3, forceD_eq]
   rw [C4 slots x v t z (h z (by simp)), a3o slots x v zs ts _ (fun p hp => h p (by simp [hp]))]
theorem c8f (dst : Nat) (oty : FP) (slots : List D) (x : Nat) (v : D) (op : Op) (m : Mem) (dead : List Pos) (K : D -> Mem -> List Pos -> Option R) (h : ∀ z ∈ op.operands.toList, b8n x z) :
 opK T dst oty (slots.set x v) op m dead K = opK T dst oty slots op m dead K := by
 cases op <;> simp only [opK, J3]
 case pick c a b =>
  rw [C4 _ _ _ _ _ (h c (by simp [GB])), C4 _ _ _ _ _ (h a (by simp [GB])), C4 _ _ _ _ _ (h b (by simp [GB]))]
 case build t ps => exact a7g _ _ _ _ _ (fun p hp => h p.2 (by simp [GB]; exact ⟨p.1, by simpa using hp⟩))
 case buildSlice t l ps => exact a7g _ _ _ _ _ (fun p hp => h p.2 (by simp [GB]; exact ⟨p.1, by simpa using hp⟩))
 case makeFunc fn first caps =>
  cases fn <;> simp only
  split
  . congr 1
    exact b7a _ _ _ caps.toList _ (fun z hz => h z (by simp [GB]; exact .inr (by simpa using hz)))
  . rename_i y hf
    split
    . rw [C4 _ _ _ _ _ (h y (by
       simp only [GB, Array.toList_append, Hc]
       exact .inl (by rw [hf]; simp)))]
    . rfl
  . rfl
 case lookup t y i ok =>
  cases ok <;> simp only
  rw [C4 _ _ _ _ _ (h y (by simp [GB])), C4 _ _ _ _ _ (h i (by simp [GB]))]
 case store t y z =>
  simp only [forceD_eq]
  rw [C4 _ _ _ _ _ (h y (by simp [GB])), C4 _ _ _ _ _ (h z (by simp [GB]))]
 case slice t y lo hi mx =>
  rw [C4 _ _ _ _ _ (h y (by simp [GB])), b9Y _ _ _ _ _ (fun z hz => h z (by simp [GB, hz]))]
  congr 1
  funext d1
  rw [b9Y _ _ _ _ _ (fun z hz => h z (by simp [GB, hz]))]
  congr 1
  funext d2
  rw [b9Y _ _ _ _ _ (fun z hz => h z (by simp [GB, hz]))]
 case call c =>
  obtain ⟨cal, ⟨args⟩, ⟨ats⟩⟩ := c
  simp only
  split
  . rw [C4 _ _ _ _ _ (h _ (by simp [GB, HK]))]
  . rw [C4 _ _ _ _ _ (h _ (by simp [GB, HK])), C4 _ _ _ _ _ (h _ (by simp [GB, HK]))]
  . rw [C4 _ _ _ _ _ (h _ (by simp [GB, HK])), C4 _ _ _ _ _ (h _ (by simp [GB, HK]))]
  . rw [C4 _ _ _ _ _ (h _ (by simp [GB, HK])), C4 _ _ _ _ _ (h _ (by simp [GB, HK]))]
  . rfl
 all_goals
  repeat rw [C4 _ _ _ _ _ (h _ (by simp [GB]))]
theorem runK_set (cx : Cx) (o : Oper) (slots : List D) (x : Nat) (v : D) (m : Mem) (dead : List Pos) (K : Bool -> D -> Mem -> List Pos -> Option R) (h : ∀ z ∈ o.op.operands.toList, b8n x z) :
 runK cx o (slots.set x v) m dead K = runK cx o slots m dead K := by
 unfold runK
 cases hop : o.op <;> simp only
 case call c =>
  rw [hop] at h
  obtain ⟨cal, ⟨args⟩, ⟨ats⟩⟩ := c
  cases cal with
  | builtin b => simp only; exact c8f _ _ _ _ _ _ _ _ _ h
  | value f =>
    simp only [J3]
    rw [C4 _ _ _ _ _ (h f (by simp [GB, HK]))]
    split
    . exact a3o _ _ _ _ _ _ (fun z hz => h z (by simp [GB, HK, hz]))
    . exact a3o _ _ _ _ _ _ (fun z hz => h z (by simp [GB, HK, hz]))
    . rfl
  | invoke f nm =>
    simp only [J3]
    rw [C4 _ _ _ _ _ (h f (by simp [GB, HK]))]
    split
    . split
      . split
        . exact a3o _ _ _ _ _ _ (fun z hz => h z (by simp [GB, HK, hz]))
        . rfl
      . rfl
    . rfl
 all_goals exact c8f _ _ _ _ _ _ _ _ _ (by rw [hop] at h; exact h)
theorem b3m {h0 : FP} {α : Type} (slots : List D) : ∀ (ps : List (Nat × GK)) (F : List (Nat × D) -> Option α) (K : α -> Option R), (a1I h0 T slots ps F).bind K = a1I h0 T slots ps fun l => (F l).bind K
 | [], _, _ => rfl
 | (i, x) :: ps, F, K => by simp only [a1I, J3]; exact b3m slots ps _ K
theorem d4G {α : Type} (slots : List D) (z : Option GK) (F : Option D -> Option α) (K : α -> Option R) : (evO T slots z F).bind K = evO T slots z fun l => (F l).bind K := by
 cases z <;> simp only [evO, J3]
theorem c8M {α : Type} (slots : List D) : ∀ (ps : List GK) (F : List D -> Option α) (K : α -> Option R), (a6Q T slots ps F).bind K = a6Q T slots ps fun l => (F l).bind K
 | [], _, _ => rfl
 | x :: ps, F, K => by simp only [a6Q, J3, forceD_eq]; exact c8M slots ps _ K
theorem b7W {α : Type} (slots : List D) : ∀ (zs : List GK) (ts : List FP) (F : List D -> Option α) (K : α -> Option R), (a0H T slots ts zs F).bind K = a0H T slots ts zs fun l => (F l).bind K
 | [], ts, _, _ => by cases ts <;> rfl
 | x :: ps, [], F, K => by simp only [a0H, J3, forceD_eq]; exact b7W slots ps [] _ K
 | x :: ps, t :: ts, F, K => by simp only [a0H, J3, forceD_eq]; exact b7W slots ps ts _ K
theorem b5P (dst : Nat) (t : FP) (len : Nat) (ps : List (Nat × D)) (K : D -> Option R) : (U0 T dst t len ps some).bind K = U0 T dst t len ps K := by
 unfold U0
 split
 . split
   . split
     . rw [H4]
       congr 1
       split
       . split
         . split
           . rw [H4]; rfl
           . rfl
         . split <;> rfl
         . rfl
       . rfl
     . rfl
   . rfl
 . rfl
theorem b9D (dst : Nat) (t : FP) (l c : D) (K : D -> Option R) : (a0f T dst t l c some).bind K = a0f T dst t l c K := by
 unfold a0f
 split
 . split
   . split
     . rw [H4, T1]
       congr 2
       split
       . split <;> rfl
       . split <;> rfl
       . rfl
     . rfl
   . rfl
 . rfl
def isVal (cx : Cx) (op : Op) : Bool := match E8 cx op with | .n => true | .r => true | .s => true | _ => false
def isN (cx : Cx) (op : Op) : Bool := match E8 cx op with | .n => true | _ => false
end
section
variable {R : Type} {T : FP -> Option Ty}
structure PureB (cx : Cx) : Prop where
 p : ∀ (R : Type) (g : Gv) (ds : List D) (K : List D -> Option R), cx.pureK g ds K = (cx.pureK g ds some).bind K
 s : ∀ (R : Type) (g : Gv) (ds : List D) (m : Mem) (K : List D -> Option R), cx.stillK g ds m K = (cx.stillK g ds m some).bind K
def d0L (T : FP -> Option Ty) (dst : Nat) (oty : FP) (slots : List D) (op : Op) (m : Mem) : Option D := opK T dst oty slots op m [] fun d _ _ => some d
theorem b2a (cx : Cx) (dst : Nat) (oty : FP) (slots : List D) (op : Op) (hv : isVal cx op = true) (m : Mem) (dead : List Pos) (K : D -> Mem -> List Pos -> Option R) :
 opK T dst oty slots op m dead K = (d0L T dst oty slots op m).bind fun d => K d m dead := by
 unfold d0L
 cases op <;> simp only [isVal, E8, reduceCtorEq, GW] at hv <;> simp only [opK, J3, GV, Hm]
 case pick c a b =>
  split
  . rename_i x0 a0 heq
    cases x0 <;> simp only [V.unBool, Hm]
    rename_i t
    cases t <;> rfl
  . rfl
 case build t ps =>
  rw [b3m]
  congr 1
  funext l
  rw [← c3d t l fun d => K d m dead]
 case buildSlice t l ps =>
  rw [b3m]
  congr 1
  funext l
  rw [← b5P _ t _ l fun d => K d m dead]
 case load t a => rw [← b9W t _ m fun d => K d m dead]
 case nilCheck x => split <;> rfl
 case binOp => rw [← d1y _ _ _ _ _ fun d => K d m dead]
 case unOp => rw [← e0X _ _ fun d => K d m dead]
 case convert => rw [← c7p _ _ _ fun d => K d m dead]
 case makeInterface t x =>
  split
  . split <;> rfl
  . rfl
 case makeFunc fn first caps =>
  cases fn <;> simp only [Hm]
  split
  . rw [H4, c8M]; rfl
  . split
    . split
      . rw [H4]; rfl
      . simp only [forceD_eq]; rfl
      . rfl
    . rfl
  . rfl
 case lookup t x i ok =>
  cases ok <;> simp only [Hm]
  rw [← b6d _ _ _ fun d => K d m dead]
 case makeSlice => rw [← b9D _ _ _ _ fun d => K d m dead]
 case slice t x lo hi mx =>
  rw [d4G]; congr 1; funext a
  rw [d4G]; congr 1; funext b
  rw [d4G]; congr 1; funext c
  rw [← c2o _ _ _ _ _ fun d => K d m dead]
 case fieldAddr => rw [← a9j _ _ _ fun d => K d m dead]
 case field => rw [← c1g _ _ _ fun d => K d m dead]
 case indexAddr => rw [← a8b _ _ _ fun d => K d m dead]
 case index => rw [← c1a _ _ _ fun d => K d m dead]
 case extract x i =>
  split
  . split
    . simp only [forceD_eq]; rfl
    . rfl
  . rfl
 case call c =>
  obtain ⟨cal, ⟨args⟩, ⟨ats⟩⟩ := c
  simp only
  split
  . rw [← d3C _ _ fun d => K d m dead]
  . simp at hv
  . rw [← a6C _ _ fun d => K d m dead]
  . rw [← a6C _ _ fun d => K d m dead]
  . rfl
theorem c1z (cx : Cx) (dst : Nat) (oty : FP) (slots : List D) (op : Op) (hv : isN cx op = true) (m m' : Mem) : d0L T dst oty slots op m = d0L T dst oty slots op m' := by
 unfold d0L
 cases op <;> simp only [isN, E8, reduceCtorEq, GW] at hv <;> simp only [opK]
 case makeFunc fn first caps => cases fn <;> rfl
 case call c =>
  obtain ⟨cal, ⟨args⟩, ⟨ats⟩⟩ := c
  simp only
  split
  . rfl
  . simp at hv
  . rfl
  . rfl
  . rfl
def b5I (cx : Cx) (o : Oper) (slots : List D) (m : Mem) : Option D := runK cx o slots m [] fun _ d _ _ => some d
theorem b2z (cx : Cx) (hB : PureB cx) (o : Oper) (slots : List D) (hv : isVal cx o.op = true) (m : Mem) (dead : List Pos) (K : Bool -> D -> Mem -> List Pos -> Option R) :
 runK cx o slots m dead K = (b5I cx o slots m).bind fun d => K false d m dead := by
 unfold b5I runK
 cases hop : o.op <;> simp only
 case call c =>
  rw [hop] at hv
  obtain ⟨cal, ⟨args⟩, ⟨ats⟩⟩ := c
  cases cal with
  | builtin b =>
    simp only
    rw [b2a cx _ _ _ _ hv m dead (K false)]
    rfl
  | value f =>
    cases f <;> simp only [isVal, E8, reduceCtorEq, GW] at hv
    rename_i f
    simp only [evK]
    rw [b7W]
    congr 1
    funext xs
    simp only [forceL_eq, JR, b6g, a4X]
    cases hp : cx.isPure f with
    | true =>
      simp only
      rw [hB.p _ f _ fun rs => K false (c0P rs) m dead, hB.p _ f _ fun rs => some (c0P rs)]
      cases cx.pureK f (xs ++ []) some <;> rfl
    | false =>
      rw [hp] at hv
      cases hs : cx.isStill f with
      | true =>
        simp only [cond_true]
        rw [hB.s _ f _ m fun rs => K false (c0P rs) m dead, hB.s _ f _ m fun rs => some (c0P rs)]
        cases cx.stillK f (xs ++ []) m some <;> rfl
      | false => rw [hs] at hv; simp at hv
  | invoke f nm => simp [isVal, E8] at hv
 all_goals
  rw [hop] at hv
  rw [b2a cx _ _ _ _ hv m dead (K false)]
  rfl
theorem d1x (cx : Cx) (o : Oper) (slots : List D) (x : Nat) (v : D) (m : Mem) (h : ∀ z ∈ o.op.operands.toList, b8n x z) : b5I cx o (slots.set x v) m = b5I cx o slots m :=
 runK_set cx o slots x v m [] _ h
theorem d3k (cx : Cx) (o : Oper) (slots : List D) (hv : isN cx o.op = true) (m m' : Mem) : b5I cx o slots m = b5I cx o slots m' := by
 unfold b5I runK
 cases hop : o.op <;> simp only
 case call c =>
  rw [hop] at hv
  obtain ⟨cal, ⟨args⟩, ⟨ats⟩⟩ := c
  cases cal with
  | builtin b => exact c1z cx _ _ _ _ hv m m'
  | value f =>
    cases f <;> simp only [isN, E8, reduceCtorEq, GW] at hv
    rename_i f
    simp only [evK]
    congr 1
    funext xs
    simp only [forceL_eq, JR, b6g, a4X]
    cases hp : cx.isPure f with
    | true => rfl
    | false => rw [hp] at hv; cases hs : cx.isStill f <;> rw [hs] at hv <;> simp at hv
  | invoke f nm => simp [isN, E8] at hv
 all_goals
  rw [hop] at hv
  exact c1z cx _ _ _ _ hv m m'
def W7 (ops : Array Oper) (o : Oper) (slots : List D) : Option Bool :=
 match o.guard with
 | none => some true
 | some (j, want) => (match a4w ops j with | some s => (match slots.getD s .any with | .v (.bool b) _ => some (b == want) | .tup _ => some false | _ => none) | none => none)
theorem a6K {slots : List D} {s : Nat} {d : D} (h : slots.getD s .any = d) (hd : d ≠ .any) : slots.set s d = slots := by
 apply List.ext_getElem?
 intro k
 rw [Kj]
 split
 . rename_i e
   subst e
   rw [FV] at h
   cases hk : slots[s]? with
   | none => rw [hk] at h; exact absurd h.symm hd
   | some x =>
     rw [hk] at h
     simp at h
     subst h
     have := (FN.1 hk).1
     simp [this]
 . rfl
def a1L (cx : Cx) (b : Bool) (o : Oper) (st : St) (K : St -> Option R) : Option R := match b with | true => a6N cx o st K | false => b6O o st K
theorem L3 (cx : Cx) (ops : Array Oper) (o : Oper) (st : St) (K : St -> Option R) :
 C6 cx ops o st K = match W7 ops o st.slots with | some b => a1L cx b o st K | none => none := by
 unfold C6 W7
 obtain ⟨slots, mem, dead⟩ := st
 cases hg : o.guard with
 | none => rfl
 | some p =>
   obtain ⟨j, want⟩ := p
   simp only
   cases hd : a4w ops j with
   | none => rfl
   | some s =>
     simp only [N8, a2c]
     generalize hx : slots.getD s .any = dx
     cases dx with
     | v x a =>
       cases x with
       | bool b =>
         simp only [V.unBool]
         have c8X : slots.set s (.v (.bool b) a) = slots := a6K hx (by simp)
         cases b <;> cases want <;> simp only [br, cond_true, cond_false, c8X] <;> rfl
       | _ => rfl
     | _ => rfl
end
end En
namespace En
open Go
section
variable {R : Type} {cx : Cx} {ops : Array Oper}
def S1 (cx : Cx) (op : Op) : Bool := match E8 cx op with | .c => false | _ => true
theorem c3g {op : Op} (h : isVal cx op = true) : S1 cx op = true := by
 unfold isVal at h; unfold S1; cases hc : E8 cx op <;> simp [hc] at h ⊢
theorem d0k (o : Oper) (hc : S1 cx o.op = true) (slots : List D) (m : Mem) (dead : List Pos) (K : Bool -> D -> Mem -> List Pos -> Option R) :
 runK cx o slots m dead K = runK cx o slots m dead fun _ => K false := by
 unfold runK
 cases hop : o.op <;> simp only
 case call c =>
  rw [hop] at hc
  obtain ⟨cal, ⟨args⟩, ⟨ats⟩⟩ := c
  cases cal with
  | builtin b => rfl
  | value f =>
    cases f <;> simp only [S1, E8, GW] at hc
    rename_i f
    cases hp : cx.isPure f with
    | true => simp only [evK, forceL_eq, JR, b6g, a4X, hp]
    | false =>
      rw [hp] at hc
      cases hs : cx.isStill f with
      | true => simp only [evK, forceL_eq, JR, b6g, a4X, hp, hs, cond_true]
      | false => rw [hs] at hc; simp at hc
  | invoke f nm => simp [S1, E8] at hc
theorem b6P {slots : List D} {x : Nat} {v : D} {o : Oper} (h : ∀ j w s, o.guard = some (j, w) -> a4w ops j = some s -> s ≠ x) : W7 ops o (slots.set x v) = W7 ops o slots := by
 unfold W7
 cases hg : o.guard with
 | none => rfl
 | some p =>
   obtain ⟨j, w⟩ := p
   simp only
   cases hd : a4w ops j with
   | none => rfl
   | some s =>
     have := h j w s hg hd
     simp only [FV, IY (Jd this)]
structure Away (ops : Array Oper) (x : Nat) (o : Oper) : Prop where
 reads : ∀ z ∈ o.op.operands.toList, b8n x z
 guard : ∀ j w s, o.guard = some (j, w) -> a4w ops j = some s -> s ≠ x
 dst : o.dst ≠ some x
theorem a8A (slots : List D) (dst : Option Nat) (d : D) (x : Nat) (v : D) (h : dst ≠ some x) : put (slots.set x v) dst d = (put slots dst d).set x v := by
 cases dst with
 | none => rfl
 | some s =>
   simp only [put]
   exact List.set_comm _ _ (fun e => h (by rw [e]))
theorem S4 (o : Oper) (hc : S1 cx o.op = true) (slots : List D) (m : Mem) (dead : List Pos) (K : St -> Option R) :
 a6N cx o ⟨slots, m, dead⟩ K = runK cx o slots m dead fun _ d m' dead' => K ⟨put slots o.dst d, m', dead'⟩ := by
 simp only [a6N]
 rw [d0k o hc]
 simp only [cond_false, V4]
theorem Q2 (o : Oper) (slots : List D) (m : Mem) (dead : List Pos) (K : St -> Option R) : b6O o ⟨slots, m, dead⟩ K = K ⟨put slots o.dst (.tup []), m, dead⟩ := by
 simp only [b6O, V4]
theorem d2w {x : Nat} {o : Oper} (ha : Away ops x o) (hc : S1 cx o.op = true) (slots : List D) (v : D) (m : Mem) (dead : List Pos) (K : St -> Option R) :
 C6 cx ops o ⟨slots.set x v, m, dead⟩ K = C6 cx ops o ⟨slots, m, dead⟩ fun s => K ⟨s.slots.set x v, s.mem, s.dead⟩ := by
 rw [L3, L3, b6P ha.guard]
 cases W7 ops o slots with
 | none => rfl
 | some b =>
   cases b
   . simp only [a1L, Q2, a8A _ _ _ _ _ ha.dst]
   . simp only [a1L, S4 o hc, runK_set cx o slots x v m dead _ ha.reads, a8A _ _ _ _ _ ha.dst]
theorem b3K {o : Oper} (hc : S1 cx o.op = true) (slots : List D) (m : Mem) (dead : List Pos) {K K' : St -> Option R} (h : ∀ d m' dd, K ⟨put slots o.dst d, m', dd⟩ = K' ⟨put slots o.dst d, m', dd⟩) :
 C6 cx ops o ⟨slots, m, dead⟩ K = C6 cx ops o ⟨slots, m, dead⟩ K' := by
 rw [L3, L3]
 cases W7 ops o slots with
 | none => rfl
 | some b =>
   cases b
   . simp only [a1L, Q2, h]
   . simp only [a1L, S4 o hc, h]
def W5 (cx : Cx) (ops : Array Oper) (o : Oper) (slots : List D) (m : Mem) : Option D :=
 match W7 ops o slots with
 | none => none
 | some true => b5I cx o slots m
 | some false => some (.tup [])
theorem G4 (hB : PureB cx) {o : Oper} (hv : isVal cx o.op = true) (slots : List D) (m : Mem) (dead : List Pos) (K : St -> Option R) :
 C6 cx ops o ⟨slots, m, dead⟩ K = (W5 cx ops o slots m).bind fun d => K ⟨put slots o.dst d, m, dead⟩ := by
 rw [L3]
 unfold W5
 cases W7 ops o slots with
 | none => rfl
 | some b =>
   cases b
   . simp only [a1L, Q2]; rfl
   . simp only [a1L, S4 o (c3g hv)]
     rw [b2z cx hB o slots hv]
theorem d6I {x : Nat} {o : Oper} (ha : Away ops x o) (slots : List D) (v : D) (m : Mem) : W5 cx ops o (slots.set x v) m = W5 cx ops o slots m := by
 unfold W5
 rw [b6P ha.guard, d1x cx o slots x v m ha.reads]
theorem a7X {o : Oper} (hv : isN cx o.op = true) (slots : List D) (m m' : Mem) : W5 cx ops o slots m = W5 cx ops o slots m' := by
 unfold W5
 rw [d3k cx o slots hv m m']
theorem a7D {op : Op} (h : isN cx op = true) : isVal cx op = true := by
 unfold isN at h; unfold isVal; cases hc : E8 cx op <;> simp [hc] at h ⊢
theorem W0 {o i : Oper} (ha : ∀ x, o.dst = some x -> Away ops x i) (slots : List D) (d : D) (m : Mem) : W5 cx ops i (put slots o.dst d) m = W5 cx ops i slots m := by
 cases h : o.dst with
 | none => rfl
 | some x => exact d6I (ha x h) slots _ m
theorem a0x {o i : Oper} (ha : ∀ x, o.dst = some x -> Away ops x i) (hc : S1 cx i.op = true) (slots : List D) (d : D) (m : Mem) (dead : List Pos) (K : St -> Option R) :
 C6 cx ops i ⟨put slots o.dst d, m, dead⟩ K = C6 cx ops i ⟨slots, m, dead⟩ fun s => K ⟨put s.slots o.dst d, s.mem, s.dead⟩ := by
 cases h : o.dst with
 | none => rfl
 | some x => exact d2w (ha x h) hc slots _ m dead K
theorem d8y {o i : Oper} (h : ∀ x, o.dst = some x -> i.dst ≠ some x) (slots : List D) (d e : D) : put (put slots o.dst d) i.dst e = put (put slots i.dst e) o.dst d := by
 cases ho : o.dst with
 | none => rfl
 | some x =>
   show put (slots.set x (a8Z x d)) i.dst e = (put slots i.dst e).set x (a8Z x d)
   exact a8A _ _ _ _ _ (h x ho)
theorem d1z (hB : PureB cx) {x i : Oper} (hx : isVal cx x.op = true) (hi : S1 cx i.op = true) (hxi : ∀ s, x.dst = some s -> Away ops s i) (hix : ∀ s, i.dst = some s -> Away ops s x)
 (hn : isN cx x.op = true ∨ isVal cx i.op = true) (slots : List D) (m : Mem) (dead : List Pos) (K : St -> Option R) :
 C6 cx ops x ⟨slots, m, dead⟩ (fun s => C6 cx ops i s K) = C6 cx ops i ⟨slots, m, dead⟩ (fun s => C6 cx ops x s K) ∨ C6 cx ops x ⟨slots, m, dead⟩ (fun s => C6 cx ops i s K) = none := by
 rw [G4 hB hx]
 cases hd : W5 cx ops x slots m with
 | none => exact .inr rfl
 | some d =>
   refine .inl ?_
   simp only [GV]
   rw [a0x hxi hi]
   rcases hn with hn | hn
   . refine b3K hi _ _ _ fun e m' dd => ?_
     rw [G4 hB hx, W0 hix, a7X hn slots m' m, hd]
     rfl
   . rw [G4 hB hn, G4 hB hn]
     cases W5 cx ops i slots m with
     | none => rfl
     | some e =>
       simp only [GV]
       rw [G4 hB hx, W0 hix, hd]
       rfl
theorem c9M (hB : PureB cx) {x i : Oper} (hx : S1 cx x.op = true) (hi : isVal cx i.op = true) (hxi : ∀ s, x.dst = some s -> Away ops s i) (hix : ∀ s, i.dst = some s -> Away ops s x)
 (hn : isN cx i.op = true ∨ isVal cx x.op = true) (slots : List D) (m : Mem) (dead : List Pos) (K : St -> Option R) {e : D} (he : W5 cx ops i slots m = some e) :
 C6 cx ops x ⟨slots, m, dead⟩ (fun s => C6 cx ops i s K) = C6 cx ops i ⟨slots, m, dead⟩ (fun s => C6 cx ops x s K) := by
 rw [G4 hB hi, he]
 simp only [GV]
 rw [a0x hix hx]
 rcases hn with hn | hn
 . refine b3K hx _ _ _ fun d m' dd => ?_
   rw [G4 hB hi, W0 hxi, a7X hn slots m' m, he]
   rfl
 . rw [G4 hB hn, G4 hB hn]
   cases W5 cx ops x slots m with
   | none => rfl
   | some d =>
     simp only [GV]
     rw [G4 hB hi, W0 hxi, he]
     rfl
theorem a3O {R : Type} (k : Nat) : ∀ (ds : List D) (dead : List Pos) (K : List D -> List Pos -> Option R) (r : R), N9 k ds dead K = some r -> ∃ cs dd, K cs dd = some r
 | [], dead, K, r, h => ⟨_, _, h⟩
 | d :: ds, dead, K, r, h => by
   unfold N9 at h
   rcases j8 h with ⟨_, h⟩ | ⟨_, h⟩
   . split at h
     . simp only [U6] at h; obtain ⟨_, _, h⟩ := a3O k ds _ _ r h; exact ⟨_, _, h⟩
     . split at h
       . simp only [forceD_eq] at h; obtain ⟨_, _, h⟩ := a3O k ds _ _ r h; exact ⟨_, _, h⟩
       . cases h
   . cases h
end
end En
namespace En
open Go
section
variable {R : Type} {cx : Cx} {ops : Array Oper}
theorem a8u {α : Type} (k : Nat) : ∀ (ds : List D) (dead : List Pos) (F : List D -> List Pos -> Option α) (K : α -> Option R), (N9 k ds dead F).bind K = N9 k ds dead fun a b => (F a b).bind K
 | [], _, _, _ => rfl
 | d :: ds, dead, F, K => by
   unfold N9
   rw [H4]
   congr 1
   split
   . simp only [U6]; exact a8u k ds _ _ K
   . split
     . simp only [forceD_eq]; exact a8u k ds _ _ K
     . rfl
theorem b5X {α : Type} (s : Nat) (t : FP) (ds : List D) (m : Mem) (dead : List Pos) (F : Mem -> List Pos -> Option α) (K : α -> Option R) : (T2 s t ds m dead F).bind K = T2 s t ds m dead fun a b => (F a b).bind K := by
 unfold T2
 split
 . split
   . rw [a8u]; simp only [I7]
   . rfl
 . rfl
theorem b3B {α : Type} (a : Att) (e : FP) (m : Mem) (dead : List Pos) (F : Mem -> List Pos -> Option α) (K : α -> Option R) : (a1D a e m dead F).bind K = a1D a e m dead fun a b => (F a b).bind K := by
 unfold a1D
 split
 . rw [H4]; rfl
 . rw [H4]
   congr 1
   split
   . rfl
   . split
     . split
       . simp only [a2c, I7]
       . rfl
     . rfl
 . rfl
theorem c3w (cx : Cx) {T : FP -> Option Ty} (dst : Nat) (oty : FP) (slots : List D) (op : Op) (m : Mem) (dead : List Pos) (K : D -> Mem -> List Pos -> Option R) :
 (opK T dst oty slots op m dead fun d m dd => some (d, m, dd)).bind (fun p => K p.1 p.2.1 p.2.2) = opK T dst oty slots op m dead K := by
 cases hv : isVal cx op with
 | true =>
   rw [b2a cx dst oty slots op hv m dead K, b2a cx dst oty slots op hv m dead fun d m dd => some (d, m, dd)]
   cases d0L T dst oty slots op m <;> rfl
 | false =>
   cases op <;> simp only [opK, J3, Hm]
   case alloc t =>
    split
    . rw [b5X]; rfl
    . rfl
   case box t x =>
    split
    . rw [b5X]; rfl
    . rfl
   case store t x y =>
    simp only [forceD_eq]
    unfold b8W
    split
    . split
      . split
        . rw [H4, a8u]
          simp only [a9b, I7]
          rfl
        . rfl
      . rfl
    . rfl
   case call c =>
    obtain ⟨cal, ⟨args⟩, ⟨ats⟩⟩ := c
    simp only
    split
    . simp [isVal, E8] at hv
    . unfold a4b
      split
      . split
        . split
          . split
            . rfl
            . split
              . split
                . rw [H4, b3B]; simp only [T1]; rfl
                . rfl
              . split
                . rw [H4, b3B]; simp only [T1]; rfl
                . rfl
              . split
                . rw [H4, b3B]; simp only [T1]; rfl
                . rfl
              . rfl
          . rfl
        . rfl
      . rfl
    . simp [isVal, E8] at hv
    . simp [isVal, E8] at hv
    . rfl
   all_goals simp [isVal, E8] at hv
theorem d1B (hB : PureB cx) {o : Oper} (hc : S1 cx o.op = true) {slots : List D} {m : Mem} {dead : List Pos} {K : Bool -> D -> Mem -> List Pos -> Option R} {r : R} (h : runK cx o slots m dead K = some r) :
 ∃ d m' dd, K false d m' dd = some r /\ ∀ (R' : Type) (K' : Bool -> D -> Mem -> List Pos -> Option R'), runK cx o slots m dead K' = K' false d m' dd := by
 cases hv : isVal cx o.op with
 | true =>
   rw [b2z cx hB o slots hv] at h
   obtain ⟨d, h1, h⟩ := bind_some h
   refine ⟨d, m, dead, h, fun R' K' => ?_⟩
   rw [b2z cx hB o slots hv, h1]; rfl
 | false =>
   have key : ∀ (op : Op), o.op = op -> (∀ c, op = .call c -> ∃ b, c.callee = .builtin b) -> ∃ d m' dd, K false d m' dd = some r /\ ∀ (R' : Type) (K' : Bool -> D -> Mem -> List Pos -> Option R'), runK cx o slots m dead K' = K' false d m' dd := by
    intro op hop b0H
    have L7 : ∀ (R' : Type) (K' : Bool -> D -> Mem -> List Pos -> Option R'), runK cx o slots m dead K' = opK cx.T (o.dst.getD 0) o.type slots op m dead (K' false) := by
     intro R' K'
     unfold runK
     rw [hop]
     cases op <;> simp only
     rename_i c
     obtain ⟨b, hb⟩ := b0H c rfl
     rw [hb]
    rw [L7, ← c3w cx] at h
    obtain ⟨p, h1, h2⟩ := bind_some h
    refine ⟨p.1, p.2.1, p.2.2, h2, fun R' K' => ?_⟩
    rw [L7, ← c3w cx, h1]; rfl
   refine key o.op rfl fun c hcc => ?_
   rw [hcc] at hc hv
   obtain ⟨cal, args, ats⟩ := c
   cases cal with
   | builtin b => exact ⟨b, rfl⟩
   | value f =>
     exfalso
     cases f <;> simp only [S1, E8, GW] at hc
     rename_i f
     cases hp : cx.isPure f with
     | true => simp [isVal, E8, hp] at hv
     | false =>
       rw [hp] at hc
       cases hs : cx.isStill f with
       | true => simp [isVal, E8, hp, hs] at hv
       | false => rw [hs] at hc; simp at hc
   | invoke f nm => simp [S1, E8] at hc
theorem S7 (hB : PureB cx) {o : Oper} (hc : S1 cx o.op = true) {slots : List D} {m : Mem} {dead : List Pos} {K : St -> Option R} {r : R} (h : C6 cx ops o ⟨slots, m, dead⟩ K = some r) :
 ∃ d m' dd, K ⟨put slots o.dst d, m', dd⟩ = some r /\ ∀ (R' : Type) (K' : St -> Option R'), C6 cx ops o ⟨slots, m, dead⟩ K' = K' ⟨put slots o.dst d, m', dd⟩ := by
 rw [L3] at h
 cases hw : W7 ops o slots with
 | none => rw [hw] at h; cases h
 | some b =>
   rw [hw] at h
   cases b
   . simp only [a1L, Q2] at h
     exact ⟨_, _, _, h, fun R' K' => by rw [L3, hw]; simp only [a1L, Q2]⟩
   . simp only [a1L, S4 o hc] at h
     obtain ⟨d, m', dd, h1, h2⟩ := d1B hB hc h
     exact ⟨d, m', dd, h1, fun R' K' => by rw [L3, hw]; simp only [a1L, S4 o hc]; exact h2 R' _⟩
end
section
variable {P : Gu} {T : FP -> Option Ty} {E : Env} {g : G} {w w' : Gc} {dead : List Pos}
def RepDs (E : Env) (g : G) (w : Gc) (dead : List Pos) (ds : List D) (us : List FX) : Prop := us.length = ds.length /\ ∀ (k : Nat) y, ds[k]? = some y -> RepD E g w dead y (us.getD k undef)
def S0 (us : List FX) : FX := match us with | [u] => u | us => .tuple us.toArray
theorem b5s {rs : List D} {us : List FX} (h : RepDs E g w dead rs us) : RepD E g w dead (c0P rs) (S0 us) := by
 obtain ⟨hl, hr⟩ := h
 match rs, us, hl with
 | [], [], _ => exact .tup [] _ rfl fun k y h => by simp at h
 | [d], [u], _ => exact hr 0 d rfl
 | d :: d' :: rs, u :: u' :: us, hl =>
   refine .tup _ _ (by simpa using hl) fun k y hk => ?_
   simpa using hr k y hk
def a4z (P : Gu) (f : Gv) : Prop := ∀ (args : Array FX) (w : Gc), (callFunc f args).run P w = .ok (.enter f args) w
def Perm.still : Perm -> Bool
 | .imm => true
 | .low _ => true
 | _ => false
structure PureTr (g : G) (w : Gc) (g' : G) (w' : Gc) : Prop where
 grows : Grows w w'
 old : ∀ b, b < w.heap.size -> g'.Γ b = g.Γ b
 new : ∀ b, w.heap.size <= b -> (g'.Γ b).still = true
 J : g'.J = g.J
 sz : g'.sz = g.sz
def H8 (P : Gu) (T : FP -> Option Ty) (f : Gv) (ds rs : List D) : Prop :=
 ∀ (E : Env) (g : G) (w : Gc) (us : List FX), SzOK T g w -> RepDs E g w [] ds us ->
  IF P f us.toArray w fun e w' => ∃ us' g', e = .returned (S0 us') /\ (∀ E' : Env, RepDs E' g' w' [] rs us') /\ PureTr g w g' w'
def a0E (E : Env) (g : G) (w : Gc) (E' : Env) (g' : G) (w' : Gc) : Prop :=
 Later g w g' w' /\ E'.d = E.d /\ (∀ k s, E.dom k s -> E'.dom k s) /\ (∀ k s, k <= E.d -> E.dom k s -> g'.J (E.d - k) s = g.J (E.d - k) s) /\ (∀ s e v, D1 g w (.slot E.d s) e v -> D1 g' w' (.slot E.d s) e v)
def inner (E : Env) (m : Mem) : Env := { d := E.d + 1, dom := F4 ([] :: m) }
def a0B (P : Gu) (T : FP -> Option Ty) (f : Gv) (dst : Nat) (ds : List D) (m : Mem) (rs : List D) (m' : Mem) : Prop :=
 ∀ (E : Env) (g : G) (w : Gc) (us : List FX), Here T E g w m -> RepDs (inner E m) g w [] ds us ->
  IF P f us.toArray w fun e w' => ∃ us' g' E', e = .returned (S0 us') /\ a0E E g w E' g' w' /\ Here T E' g' w' m' /\ RepDs E' g' w' [] rs us' /\ Tr E.d g w g' w'
def b8e (P : Gu) (t : FP) (name : String) (f : Gv) : Prop := ∀ (v : FX) (w : Gc), (method (P.types.size + Made.depth) t v name).run P w = .ok (f, v) w
def b3a (P : Gu) (T : FP -> Option Ty) (f : Gv) (ds : List D) (m : Mem) (rs : List D) : Prop :=
 ∀ (E : Env) (g : G) (w : Gc) (us : List FX), Here T E g w m -> RepDs (inner E m) g w [] ds us -> IF P f us.toArray w fun e w' => ∃ us' g', e = .returned (S0 us') /\ (∀ E' : Env, RepDs E' g' w' [] rs us') /\ PureTr g w g' w'
structure CxOK (P : Gu) (cx : Cx) : Prop where
 T : D7 P cx.T
 pure : ∀ (R : Type) (g : Gv) (ds : List D) (K : List D -> Option R) (r : R), cx.isPure g = true -> cx.pureK g ds K = some r -> ∃ rs, K rs = some r /\ a4z P g /\ H8 P cx.T g ds rs
 mem : ∀ (R : Type) (g : Gv) (dst : Nat) (ds : List D) (m : Mem) (K : List D -> Mem -> Option R) (r : R), cx.isPure g = false -> cx.isStill g = false -> cx.memK g dst ds m K = some r -> ∃ rs m', K rs m' = some r /\ a4z P g /\ a0B P cx.T g dst ds m rs m'
 still : ∀ (R : Type) (g : Gv) (ds : List D) (m : Mem) (K : List D -> Option R) (r : R), cx.isStill g = true -> cx.stillK g ds m K = some r -> ∃ rs, K rs = some r /\ a4z P g /\ b3a P cx.T g ds m rs
 B : PureB cx
 meth : ∀ t name f, cx.meth t name = some f -> b8e P t name f
theorem PureTr.later {g' : G} (h : PureTr g w g' w') : Later g w g' w' :=
 ⟨h.sz, fun b o v h1 h2 => by
  have hx := a8T h2
  refine ⟨?_, by rw [cell_of_heap (h.grows.old b hx)]; exact h2⟩
  unfold s5 at h1 ⊢
  rw [h.old b hx]; exact h1, fun b x h1 h2 => by
  have hx := G7 h2
  exact ⟨by rw [h.old b hx]; exact h1, by rw [h.grows.old b hx]; exact h2⟩⟩
theorem PureTr.own {g' : G} (h : PureTr g w g' w') {q : APos} {e : FP} {v : FX} (ho : D1 g w q e v) : D1 g' w' q e v := by
 rcases ho with h0 | ⟨x, n, cap, cur, h1, h2, h3, h4⟩
 . exact .inl h0
 . have hx := G7 h3
   refine .inr ⟨x, n, cap, cur, h1, by rw [h.old x hx, h.sz]; exact h2, by rw [h.grows.old x hx]; exact h3, ?_⟩
   rw [h.sz]; exact h4
theorem PureTr.keeps {g' : G} (h : PureTr g w g' w') : Keeps E g w dead E g' w' dead :=
 ⟨h.later, rfl, fun _ _ h => h, fun _ _ _ _ => by rw [h.J], fun _ h => h, fun _ _ _ _ _ ho => h.own ho⟩
theorem PureTr.here {g' : G} (h : PureTr g w g' w') {m : Mem} (hh : Here T E g w m) : Here T E g' w' m := by
 refine ⟨fun k s b hb => ?_, hh.dom, hh.sk.later h.later, hh.len⟩
 have hr := hh.mem k s b hb
 obtain ⟨us, h1, h2, h3⟩ := hr.heap
 have hx := G7 h1
 refine ⟨hr.le, by rw [h.J, h.old _ hx]; exact hr.perm, us, by rw [h.J, h.grows.old _ hx]; exact h1, h2, fun i c hc => ?_⟩
 obtain ⟨a1, a2, a3, a4⟩ := h3 i c hc
 exact ⟨a1, a2, by rw [h.J]; exact a3, a4.keep h.keeps⟩
theorem PureTr.tr {g' : G} (h : PureTr g w g' w') (d : Nat) : Tr d g w g' w' :=
 ⟨h.grows.os, h.grows.tape, h.grows.output, h.grows.size, h.later, fun b hb _ => ⟨h.old b hb, h.grows.old b hb⟩, fun _ _ _ => by rw [h.J]⟩
theorem P9 (k : Nat) : ∀ (ds : List D) (i : Nat) y, (D.shifts k ds)[i]? = some y -> ∃ z, ds[i]? = some z /\ y = z.shift k
 | [], i, y, h => by simp [D.shifts] at h
 | d :: ds, 0, y, h => by simp [D.shifts] at h; exact ⟨d, by simp, h.symm⟩
 | d :: ds, i + 1, y, h => by
   simp [D.shifts] at h; obtain ⟨z, a, b⟩ := P9 k ds i y h; exact ⟨z, by simpa using a, b⟩
theorem K8 (k : Nat) : ∀ ds : List D, (D.shifts k ds).length = ds.length
 | [] => rfl
 | d :: ds => by simp [D.shifts, K8 k ds]
theorem a6G {m : Mem} {x : D} {v : FX} (h : RepD E g w dead x v) (hd : E.dom = F4 m) : RepD (inner E m) g w [] (c2q x) v := by
 unfold c2q
 induction h with
 | v x a v h ha => exact .v _ _ _ h trivial
 | ptr k s o h1 h2 =>
   have := RepD.ptr (E := inner E m) (g := g) (w := w) (dead := []) (k + 1) s o (by show k + 1 <= E.d + 1; omega) (by
    rw [hd] at h2
    obtain ⟨b, hb⟩ := h2
    exact ⟨b, hb⟩)
   have e : (inner E m).d - (k + 1) = E.d - k := by show E.d + 1 - (k + 1) = _; omega
   rw [e] at this
   exact this
 | nilp => exact .nilp
 | eptr cs o b off us h hr => exact .eptr cs o b off us h hr
 | clos f caps us hn hr ih =>
   refine .clos f _ us (by rw [K8, E9]; exact hn) fun k y hy => ?_
   obtain ⟨z, hz, rfl⟩ := P9 _ _ k y hy
   obtain ⟨z', hz', rfl⟩ := J8 _ k z hz
   exact ih k z' hz'
 | nilF => exact .nilF
 | fn n fs k s v h =>
   refine .fn n fs (k + 1) s v (h.imp fun ⟨h1, h2⟩ => ⟨⟨by show k + 1 <= E.d + 1; omega, ?_⟩, ?_⟩)
   . rw [hd] at h2
     obtain ⟨b, hb⟩ := h2
     exact ⟨b, hb⟩
   . show g.J (E.d + 1 - (k + 1)) s = _
     rw [JD]
 | bld => exact .bld
 | agg ds us hn hr ih =>
   refine .agg _ us (by rw [K8, E9]; exact hn) fun k y hy => ?_
   obtain ⟨z, hz, rfl⟩ := P9 _ _ k y hy
   obtain ⟨z', hz', rfl⟩ := J8 _ k z hz
   exact ih k z' hz'
 | tup ds us hn hr ih =>
   refine .tup _ us (by rw [K8, E9]; exact hn) fun k y hy => ?_
   obtain ⟨z, hz, rfl⟩ := P9 _ _ k y hy
   obtain ⟨z', hz', rfl⟩ := J8 _ k z hz
   exact ih k z' hz'
 | any v => exact .any v
theorem a0z {R : Type} {m : Mem} {slots : List D} {a : Act} (hd : E.dom = F4 m) (hs : RepS E g w dead slots a) : ∀ (zs : List GK) (ts : List FP) (K : List D -> Option R) (r : R), a0H T slots ts zs K = some r ->
 ∃ ds, RepDs (inner E m) g w [] ds (zs.map a.eval) /\ K ds = some r
 | [], ts, K, r, h => ⟨[], ⟨rfl, fun k y h => by simp at h⟩, by cases ts <;> exact h⟩
 | z :: zs, [], K, r, h => by
   simp only [a0H, J3, forceD_eq] at h
   obtain ⟨ds, ⟨h1, h2⟩, h3⟩ := a0z hd hs zs [] _ r h
   refine ⟨c2q (G5 T slots 0 z) :: ds, ⟨by simp [h1], fun k y hk => ?_⟩, h3⟩
   rcases k with _ | k
   . simp at hk; subst hk; simpa using a6G (hs.ev 0 z) hd
   . simpa using h2 k y (by simpa using hk)
 | z :: zs, t :: ts, K, r, h => by
   simp only [a0H, J3, forceD_eq] at h
   obtain ⟨ds, ⟨h1, h2⟩, h3⟩ := a0z hd hs zs ts _ r h
   refine ⟨c2q (G5 T slots t z) :: ds, ⟨by simp [h1], fun k y hk => ?_⟩, h3⟩
   rcases k with _ | k
   . simp at hk; subst hk; simpa using a6G (hs.ev t z) hd
   . simpa using h2 k y (by simpa using hk)
theorem RepDs.append {ds ds' : List D} {us us' : List FX} (h : RepDs E g w dead ds us) (h' : RepDs E g w dead ds' us') : RepDs E g w dead (ds ++ ds') (us ++ us') := by
 refine ⟨by simp [h.1, h'.1], fun k y hk => ?_⟩
 rcases Hi k ds.length with hl | hl
 . rw [Gh hl] at hk
   have := h.2 k y hk
   rw [FV, Gh (by rw [h.1]; exact hl), ← FV]
   exact this
 . rw [Gk hl] at hk
   have := h'.2 _ y hk
   rw [FV, Gk (by rw [h.1]; exact hl), h.1, ← FV]
   exact this
structure Sim (T : FP -> Option Ty) (E : Env) (g : G) (w : Gc) (st : St) (a : Act) : Prop where
 here : Here T E g w st.mem
 slots : RepS E g w st.dead st.slots a
 size : a.tmps.size = st.slots.length
 defers : a.defers = []
theorem RepS.put_ {slots : List D} {a : Act} (hs : RepS E g w dead slots a) (hsz : a.tmps.size = slots.length) (dst : Option Nat) {d : D} {v : FX} (hd : RepD E g w dead d v) : RepS E g w dead (put slots dst d) (a.put dst v) := by
 cases dst with
 | none => exact hs
 | some s =>
   intro k x hk
   simp only [put, Act.put] at hk ⊢
   rw [Kj] at hk
   split at hk
   . rename_i e
     subst e
     split at hk
     . rename_i hlt
       injection hk with hk; subst hk
       have : (a.tmps.setIfInBounds s v).getD s undef = v := by simp [Ge, (by omega : s < a.tmps.size)]
       rw [this]
       cases d with
       | v x at_ =>
         cases at_ with
         | nil e =>
           cases hd with | v x a v h ha => exact .v _ _ _ h (.inr ⟨trivial, .inl ha⟩)
         | no => exact hd
         | own p e => exact hd
       | _ => exact hd
     . cases hk
   . rename_i e
     have := hs k x hk
     have e2 : (a.tmps.setIfInBounds s v).getD k undef = a.tmps.getD k undef := by
      simp only [Ge]
      rw [HZ e]
     rw [e2]; exact this
theorem a1x (slots : List D) (dst : Option Nat) (d : D) : (put slots dst d).length = slots.length := by cases dst <;> simp [put]
theorem M1 (a : Act) (dst : Option Nat) (v : FX) : (a.put dst v).tmps.size = a.tmps.size := by cases dst <;> simp [Act.put]
theorem S6 (a : Act) (dst : Option Nat) (v : FX) : (a.put dst v).defers = a.defers := by cases dst <;> rfl
def a6D (P : Gu) (T : FP -> Option Ty) (E : Env) (g : G) (w : Gc) (a : Act) (o : Oper) (st' : St) : Prop :=
 ∀ (Ok : FX -> Gc -> Prop), (∀ v w' g' E', Sim T E' g' w' st' (a.put o.dst v) -> E'.d = E.d -> Tr E.d g w g' w' -> Ok v w') ->
  (∃ v w', Ok v w') /\ ∀ (next : Act -> Gc -> Prop) (Q : Exit -> Act -> Gc -> Prop), (∀ v w', Ok v w' -> next (a.put o.dst v) w') -> o.wp P a w next Q
theorem b3D {m' : Mem} {dead' : List Pos} {slots : List D} {m : Mem} {a : Act} {o : Oper} {d : D} (hs : Sim T E g w ⟨slots, m, dead⟩ a) (h : Res P T E g w m dead o a d m' dead') : a6D P T E g w a o ⟨put slots o.dst d, m', dead'⟩ := by
 intro Ok hOk
 obtain ⟨v, w', g', E', h1, h2, h3, h4, h5⟩ := h
 have hok := hOk v w' g' E' ⟨h3, RepS.put_ (fun s x hx => (hs.slots s x hx).keep h2) hs.size o.dst h4, by rw [M1, hs.size, a1x], by rw [S6]; exact hs.defers⟩ h2.d h5
 exact ⟨⟨v, w', hok⟩, fun next Q hn => c4C h1 (hn v w' hok)⟩
theorem b6U {o : Oper} {a : Act} {c : Call} (hop : o.op = .call c) {f : GK} (hf : c.callee = .value f) {g0 : Gv} {caps : Array FX} (hv : a.eval f = .func (.func g0) #[] caps) (hg : a4z P g0) :
 (execOp a.eval o).run P w = .ok (.enter g0 (c.args.map a.eval ++ caps)) w := by
 simp only [execOp, hop, resolve, hf, hv, Deferred.ofValue, Gq, Hj, Gg, invoke]
 have := hg (#[] ++ c.args.map a.eval ++ caps) w
 simpa using this
theorem b2f {o : Oper} {a : Act} {c : Call} (hop : o.op = .call c) {f : GK} (hf : c.callee = .value f) {g0 : Gv} {us : Array FX} (hv : a.eval f = .func (.func g0) us #[]) (hg : a4z P g0) :
 (execOp a.eval o).run P w = .ok (.enter g0 (us ++ c.args.map a.eval)) w := by
 simp only [execOp, hop, resolve, hf, hv, Deferred.ofValue, Gq, Hj, Gg, invoke]
 have := hg (us ++ c.args.map a.eval ++ #[]) w
 simpa using this
theorem c2h {o : Oper} {a : Act} {c : Call} (hop : o.op = .call c) {f : GK} {nm : String} (hf : c.callee = .invoke f nm) {t : FP} {u : FX} (hv : a.eval f = .iface t u) {g0 : Gv} (hm : b8e P t nm g0) (hg : a4z P g0) :
 (execOp a.eval o).run P w = .ok (.enter g0 (#[u] ++ c.args.map a.eval)) w := by
 have h1 := hm u w
 have h2 := hg (#[u] ++ c.args.map a.eval) w
 have hx : (#[a.eval f] ++ c.args.map a.eval).extract 1 (#[a.eval f] ++ c.args.map a.eval).size = c.args.map a.eval := by
  apply LA
  simp
  exact List.take_of_length_le (by simp)
 simp only [execOp, hop, resolve, hf, Gq, Hj, Gg, invoke]
 have h0 : (#[a.eval f] ++ c.args.map a.eval)[0]? = some (.iface t u) := by rw [GD (by simp), hv]; rfl
 have hp : (program : Sem Gu).run P w = .ok P w := rfl
 simp only [h0, hx, callMethod, Gq, hp, Gg, h1, h2]
end
end En
namespace En
open Go
section
variable {R : Type} {P : Gu} {T : FP -> Option Ty} {E : Env} {g : G} {w w' : Gc} {dead : List Pos}
def a1Y (d : D) : D :=
 match d with
 | .v x a => (match a with
   | .own p e => (match p with | .slot g => .v x (.own (.slot g) e) | _ => .v x .no)
   | a => .v x a)
 | d => cond d.noOwn d .any
theorem a2X : ∀ (slots : List D) (K : List D -> Option R), a8q slots K = K (slots.map a1Y)
 | [], K => rfl
 | d :: r, K => by
   unfold a8q
   cases d with
   | v x a =>
     cases a with
     | own p e => cases p <;> simp only [a2X r, a1Y, Hp]
     | no => simp only [a2X r, a1Y, Hp]
     | nil e => simp only [a2X r, a1Y, Hp]
   | _ => simp only [a2X r, a1Y, Hp]; (first | rfl | (split <;> rfl) | (cases D.noOwn _ <;> rfl))
theorem a4g {E' : Env} {g' : G} (hk : a0E E g w E' g' w') {x : D} {v : FX} (h : RepD E g w dead x v) : x.noOwn = true -> RepD E' g' w' dead x v := by
 obtain ⟨hl, hd, a1M, hJ, _⟩ := hk
 induction h with
 | v x a v h ha =>
   intro hn
   cases a with
   | own p e => simp [D.noOwn] at hn
   | no => exact .v _ _ _ (h.later hl) trivial
   | nil e => exact .v _ _ _ (h.later hl) ha
 | ptr k s o h1 h2 =>
   intro _
   have := hJ k s h1 h2
   rw [← this, ← hd]
   exact .ptr k s o (by rw [hd]; exact h1) (a1M k s h2)
 | nilp => intro _; exact .nilp
 | eptr cs o b off us h hr => intro _; exact .eptr cs o b off us (fun k y hy => hl.st _ _ _ (h k y hy).1 (h k y hy).2) (fun k y hy => (hr k y hy).later hl)
 | clos f caps us hn' hr ih => intro hn; exact .clos f caps us hn' fun i y hy => ih i y hy (M6 _ hn i y hy)
 | nilF => intro _; exact .nilF
 | fn n fs k s v h => intro _; exact .fn n fs k s v (h.imp fun ⟨h1, h2⟩ => ⟨⟨by rw [hd]; exact h1, a1M k s h2⟩, by rw [hd]; exact hJ k s h1 h2⟩)
 | bld => intro _; exact .bld
 | agg ds us hn' hr ih => intro hn; exact .agg ds us hn' fun i y hy => ih i y hy (M6 _ hn i y hy)
 | tup ds us hn' hr ih => intro hn; exact .tup ds us hn' fun i y hy => ih i y hy (M6 _ hn i y hy)
 | any v => intro _; exact .any v
theorem c9K {E' : Env} {g' : G} (hk : a0E E g w E' g' w') {x : D} {v : FX} (h : RepD E g w dead x v) : RepD E' g' w' dead (a1Y x) v := by
 cases x with
 | v y a =>
   cases a with
   | no => exact a4g hk h rfl
   | nil e => exact a4g hk h rfl
   | own p e =>
     cases h with
     | v y a v h ha =>
       cases p with
       | cell k s i => exact .v _ _ _ (h.later hk.1) trivial
       | slot s =>
         refine .v _ _ _ (h.later hk.1) ?_
         rcases ha with ha | ⟨_, ha⟩
         . exact .inl ha
         . refine .inr ⟨trivial, ?_⟩
           rw [hk.2.1]
           exact hk.2.2.2.2 s e v ha
 | _ =>
   simp only [a1Y, GF]
   split
   . rename_i hn; exact a4g hk h hn
   . exact .any _
theorem b3r {R : Type} {n : Int} {K : Gv -> Option R} {r : R} : ∀ {fs : List Gv} {j : Nat}, d2y n j fs K = some r -> ∃ (i : Nat) (f : Gv), fs[i]? = some f /\ n = ((j + i : Nat) : Int) + 1 /\ K f = some r
 | [], j, h => by cases h
 | f :: fs, j, h => by
   rcases j8 h with ⟨h1, h2⟩ | ⟨_, h2⟩
   . exact ⟨0, f, rfl, by simpa using h1, h2⟩
   . obtain ⟨i, f', a, b, c⟩ := b3r h2
     exact ⟨i + 1, f', by simpa using a, by rw [b]; omega, c⟩
theorem a9r {st' : St} {a : Act} {o : Oper} {f : Gv} {args : Array FX} (hx : (execOp a.eval o).run P w = .ok (.enter f args) w) {post : FX -> Gc -> Prop}
 (hc : IF P f args w fun e w' => ∃ v, e = .returned v /\ post v w')
 (hp : ∀ v w', post v w' -> ∃ g' E', Sim T E' g' w' st' (a.put o.dst v) /\ E'.d = E.d /\ Tr E.d g w g' w') : a6D P T E g w a o st' := by
 intro Ok hOk
 refine ⟨?_, fun next Q hn => ?_⟩
 . obtain ⟨e, w', fr, ⟨v, _, hpv⟩, _⟩ := hc []
   obtain ⟨g', E', h1, h2, h3⟩ := hp v w' hpv
   exact ⟨v, w', hOk v w' g' E' h1 h2 h3⟩
 . unfold Oper.wp
   rw [hx]
   refine hc.mono fun e w' ⟨v, he, hpv⟩ => ?_
   subst he
   obtain ⟨g', E', h1, h2, h3⟩ := hp v w' hpv
   exact hn v w' (hOk v w' g' E' h1 h2 h3)
theorem a1o {cx : Cx} (hcx : CxOK P cx) {slots : List D} {m : Mem} {a : Act} (hs : Sim cx.T E g w ⟨slots, m, dead⟩ a) {o : Oper} {f : Gv} {ds : List D} {us : List FX}
 (hx : (execOp a.eval o).run P w = .ok (.enter f us.toArray) w ∨ a4z P f -> (execOp a.eval o).run P w = .ok (.enter f us.toArray) w) (hr : RepDs (inner E m) g w [] ds us) {K : St -> Option R} {r : R}
 (h : a4X cx f (o.dst.getD 0) ds m dead (fun c d m' dead' => cond c (a8q slots fun slots => b8d slots o.dst d fun slots => K ⟨slots, m', dead'⟩) (b8d slots o.dst d fun slots => K ⟨slots, m', dead'⟩)) = some r) :
 ∃ st', K st' = some r /\ a6D P cx.T E g w a o st' := by
 unfold a4X at h
 cases hp : cx.isPure f with
 | true =>
   rw [hp] at h
   simp only [cond_false, V4] at h
   obtain ⟨rs, h1, hg, d7a⟩ := hcx.pure _ f ds _ r hp h
   refine ⟨_, h1, a9r (post := fun v w' => ∃ us' g', v = S0 us' /\ (∀ E' : Env, RepDs E' g' w' [] rs us') /\ PureTr g w g' w') (hx (.inr hg)) ((d7a (inner E m) g w us hs.here.sk hr).mono fun e w' ⟨us', g', he, h2, h3⟩ => ⟨_, he, us', g', rfl, h2, h3⟩) ?_⟩
   rintro v w' ⟨us', g', rfl, h2, h3⟩
   refine ⟨g', E, ⟨h3.here hs.here, RepS.put_ (fun s x hx => (hs.slots s x hx).keep h3.keeps) hs.size o.dst (b5s (h2 E)).weaken, by rw [M1, hs.size, a1x], by rw [S6]; exact hs.defers⟩, rfl, h3.tr _⟩
 | false =>
   rw [hp] at h
   cases hq : cx.isStill f with
   | true =>
     rw [hq] at h
     simp only [cond_true, cond_false, V4] at h
     obtain ⟨rs, h1, hg, d7a⟩ := hcx.still _ f ds m _ r hq h
     refine ⟨_, h1, a9r (post := fun v w' => ∃ us' g', v = S0 us' /\ (∀ E' : Env, RepDs E' g' w' [] rs us') /\ PureTr g w g' w') (hx (.inr hg)) ((d7a E g w us hs.here hr).mono fun e w' ⟨us', g', he, h2, h3⟩ => ⟨_, he, us', g', rfl, h2, h3⟩) ?_⟩
     rintro v w' ⟨us', g', rfl, h2, h3⟩
     exact ⟨g', E, ⟨h3.here hs.here, RepS.put_ (fun s x hx => (hs.slots s x hx).keep h3.keeps) hs.size o.dst (b5s (h2 E)).weaken, by rw [M1, hs.size, a1x], by rw [S6]; exact hs.defers⟩, rfl, h3.tr _⟩
   | false =>
   rw [hq] at h
   simp only [cond_true, cond_false, a2X, V4] at h
   obtain ⟨rs, m', h1, hg, d7a⟩ := hcx.mem _ f _ ds m _ r hp hq h
   refine ⟨_, h1, a9r (post := fun v w' => ∃ us' g' E', v = S0 us' /\ a0E E g w E' g' w' /\ Here cx.T E' g' w' m' /\ RepDs E' g' w' [] rs us' /\ Tr E.d g w g' w') (hx (.inr hg)) ((d7a E g w us hs.here hr).mono fun e w' ⟨us', g', E', he, h2, h3, h4, h5⟩ => ⟨_, he, us', g', E', rfl, h2, h3, h4, h5⟩) ?_⟩
   rintro v w' ⟨us', g', E', rfl, h2, h3, h4, h5⟩
   refine ⟨g', E', ⟨h3, RepS.put_ (fun s x hx => ?_) (by rw [Gi]; exact hs.size) o.dst (b5s h4).weaken, by rw [M1, hs.size, a1x, Gi], by rw [S6]; exact hs.defers⟩, h2.2.1, h5⟩
   rw [Gn, Gl] at hx
   obtain ⟨z, hz, rfl⟩ := hx
   exact c9K h2 (hs.slots s z hz)
theorem c4A {cx : Cx} (hcx : CxOK P cx) {slots : List D} {m : Mem} {a : Act} (hs : Sim cx.T E g w ⟨slots, m, dead⟩ a) {o : Oper} {K : St -> Option R} {r : R} (h : a6N cx o ⟨slots, m, dead⟩ K = some r) :
 ∃ st', K st' = some r /\ a6D P cx.T E g w a o st' := by
 simp only [a6N] at h
 have plain : ∀ (op : Op), o.op = op -> opK cx.T (o.dst.getD 0) o.type slots op m dead (fun d m' dead' => b8d slots o.dst d fun slots => K ⟨slots, m', dead'⟩) = some r -> ∃ st', K st' = some r /\ a6D P cx.T E g w a o st' := by
  intro op hop h
  subst hop
  obtain ⟨d, m', dead', h1, h2⟩ := c9q hcx.T hs.here hs.slots o h
  rw [V4] at h2
  exact ⟨_, h2, b3D hs h1⟩
 unfold runK at h
 cases hop : o.op <;> rw [hop] at h <;> simp only [cond_false] at h
 case call c =>
  cases b0H : c.callee with
  | builtin b => rw [b0H] at h; exact plain _ hop h
  | value f =>
    rw [b0H] at h
    simp only [J3] at h
    have hf := hs.slots.ev (T := cx.T) 0 f
    generalize hd : G5 cx.T slots 0 f = df at h hf
    cases df <;> simp only [reduceCtorEq] at h
    case fn n fs k s =>
     obtain ⟨ds, h1, h2⟩ := a0z hs.here.dom hs.slots _ _ _ _ h
     obtain ⟨i, g0, hi, hn, h2⟩ := b3r h2
     generalize hv : a.eval f = vf at hf
     cases hf with
     | fn _ _ _ _ _ hfv =>
       rcases hfv with ⟨h0, _⟩ | ⟨i', f', hi', hn', ⟨g1, g2⟩, e⟩
       . omega
       . have : i' = i := by omega
         subst this
         rw [hi] at hi'
         injection hi' with hi'
         subst hi'
         have hrec : RepDs (inner E m) g w [] [.ptr (k + 1) s 0] [.pointer (some ⟨g.J (E.d - k) s, 0, none⟩)] := by
          refine ⟨rfl, fun j z hk => ?_⟩
          have : j = 0 := by have := (FN.1 hk).1; simp at this; omega
          subst this
          simp at hk; subst hk
          exact a6G (.ptr (dead := dead) k s 0 g1 g2) hs.here.dom
         refine a1o hcx hs (ds := .ptr (k + 1) s 0 :: ds) (us := .pointer (some ⟨g.J (E.d - k) s, 0, none⟩) :: c.args.toList.map a.eval) (fun hg => ?_) (hrec.append h1) h2
         rcases hg with hg | hg
         . exact hg
         . rw [b2f hop b0H (by rw [hv, e]) hg]
           congr 2
           simp
    rename_i g0 caps
    simp only [forceL_eq] at h
    obtain ⟨ds, h1, h2⟩ := a0z hs.here.dom hs.slots _ _ _ _ h
    generalize hv : a.eval f = vf at hf
    cases hf with
    | clos _ _ us hn hr =>
      have hcaps : RepDs (inner E m) g w [] (caps.map c2q) us.toList := by
       refine ⟨by simpa using hn, fun k y hk => ?_⟩
       rw [Gn, Gl] at hk
       obtain ⟨z, hz, rfl⟩ := hk
       have := a6G (hr k z hz) hs.here.dom
       simpa using this
      unfold b6g at h2
      split at h2
      . rename_i hcp
        have hus : us = #[] := by
         have h5 := congrArg Mh hcp
         simp at h5
         subst h5
         exact Array.eq_empty_of_size_eq_zero hn
        subst hus
        have hcaps : RepDs (inner E m) g w [] [] [] := ⟨rfl, fun k y hk => by simp at hk⟩
        refine a1o hcx hs (us := c.args.toList.map a.eval ++ []) (fun hg => ?_) (h1.append hcaps) h2
        rcases hg with hg | hg
        . exact hg
        . rw [b6U hop b0H hv hg]
          congr 2
          apply LA
          simp
      . rename_i d0 ds0 hcp
        rw [← hcp] at h2
        have hsz : 0 < us.size := by
         have h5 := congrArg Mh hcp
         simp at h5
         omega
        rcases j8 h2 with ⟨hb, h2⟩ | ⟨hb, h2⟩
        . have hle := Gm hb
          have e : a6W g0 us = .func (.func (g0 - 1000000)) us #[] := by
           unfold a6W
           split
           . omega
           . rw [hb]; rfl
          rw [e] at hv
          refine a1o hcx hs (us := us.toList ++ c.args.toList.map a.eval) (fun hg => ?_) (hcaps.append h1) h2
          rcases hg with hg | hg
          . exact hg
          . rw [b2f hop b0H hv hg]
            congr 2
            simp
        . have hlt : ¬ 1000000 <= g0 := fun e => by rw [Ia e] at hb; cases hb
          rw [b6F hlt] at hv
          refine a1o hcx hs (us := c.args.toList.map a.eval ++ us.toList) (fun hg => ?_) (h1.append hcaps) h2
          rcases hg with hg | hg
          . exact hg
          . rw [b6U hop b0H hv hg]
            congr 2
            simp
  | invoke f nm =>
    rw [b0H] at h
    simp only [J3] at h
    have hf := hs.slots.ev (T := cx.T) 0 f
    generalize hd : G5 cx.T slots 0 f = df at h hf
    cases df <;> simp only [reduceCtorEq] at h
    rename_i x at_
    cases x <;> simp only [reduceCtorEq] at h
    rename_i t y
    split at h
    case h_2 => cases h
    rename_i g0 hm
    obtain ⟨ds, h1, h2⟩ := a0z hs.here.dom hs.slots _ _ _ _ h
    generalize hv : a.eval f = vf at hf
    cases hf with
    | v _ _ _ hvv _ =>
    cases hvv with
    | iface t y u hu =>
      have hrec : RepDs (inner E m) g w [] [c8e y] [u] := by
       refine ⟨rfl, fun k z hk => ?_⟩
       have : k = 0 := by have := (FN.1 hk).1; simp at this; omega
       subst this
       simp at hk; subst hk
       unfold c8e
       split
       . rename_i cs
         cases hu with
         | agg cs us hn hr =>
           refine .agg _ us (by simpa using hn) fun k z hk => ?_
           rw [Gn, Gl] at hk
           obtain ⟨z', hz', rfl⟩ := hk
           exact .v _ _ _ (hr k z' hz') trivial
       . exact .v _ _ _ hu trivial
      refine a1o hcx hs (ds := c8e y :: ds) (us := u :: c.args.toList.map a.eval) (fun hg => ?_) (hrec.append h1) h2
      rcases hg with hg | hg
      . exact hg
      . rw [c2h hop b0H hv (hcx.meth _ _ _ hm) hg]
        congr 2
        simp
 all_goals exact plain _ hop h
theorem b3Y {cx : Cx} (hcx : CxOK P cx) {ops : Array Oper} {slots : List D} {m : Mem} {a : Act} (hs : Sim cx.T E g w ⟨slots, m, dead⟩ a) {o : Oper} {K : St -> Option R} {r : R} (h : C6 cx ops o ⟨slots, m, dead⟩ K = some r) :
 (Kr o (yielded ops a.tmps) = true /\ ∃ st', K st' = some r /\ a6D P cx.T E g w a o st') ∨
 (Kr o (yielded ops a.tmps) = false /\ ∃ st', K st' = some r /\ Sim cx.T E g w st' (a.put o.dst undef)) := by
 rw [L3] at h
 have hw : ∀ b, W7 ops o slots = some b -> Kr o (yielded ops a.tmps) = b := by
  intro b hb
  unfold W7 at hb
  unfold Kr
  cases hg : o.guard with
  | none => rw [hg] at hb; simpa using hb
  | some p =>
    obtain ⟨j, want⟩ := p
    rw [hg] at hb
    simp only at hb ⊢
    cases hd : a4w ops j with
    | none => rw [hd] at hb; cases hb
    | some s =>
      rw [hd] at hb
      simp only at hb
      split at hb
      . rename_i b' a' hsl
        injection hb with hb; subst hb
        have hx : slots[s]? = some (.v (.bool b') a') := by
         rw [FV] at hsl
         cases hq : slots[s]? with
         | none => rw [hq] at hsl; cases hsl
         | some z => rw [hq] at hsl; simp at hsl; rw [hsl]
        have hv := (hs.slots s _ hx).bool_inv
        have hlt : s < a.tmps.size := by have := (FN.1 hx).1; have := hs.size; simp only at this; omega
        have hd' : (ops[j]?).bind (·.dst) = some s := by
         unfold a4w at hd
         cases ho : ops[j]? with
         | none => rw [ho] at hd; cases hd
         | some oo => rw [ho] at hd; simpa using hd
        have hy : yielded ops a.tmps j = some b' := by
         unfold yielded
         rw [hd']
         have : a.tmps[s]? = some (.bool b') := by
          rw [Ge, GG hlt] at hv
          rw [GG hlt]
          simpa using hv
         simp [this]
        rw [hy]
        cases b' <;> cases want <;> rfl
      . rename_i ds' hsl
        injection hb with hb; subst hb
        have hx : slots[s]? = some (.tup ds') := by
         rw [FV] at hsl
         cases hq : slots[s]? with
         | none => rw [hq] at hsl; cases hsl
         | some z => rw [hq] at hsl; simp at hsl; rw [hsl]
        have hv := hs.slots s _ hx
        have hlt : s < a.tmps.size := by have := (FN.1 hx).1; have := hs.size; simp only at this; omega
        have hd' : (ops[j]?).bind (·.dst) = some s := by
         unfold a4w at hd
         cases ho : ops[j]? with
         | none => rw [ho] at hd; cases hd
         | some oo => rw [ho] at hd; simpa using hd
        have hy : yielded ops a.tmps j = none := by
         unfold yielded
         rw [hd']
         rw [Ge, GG hlt] at hv
         rw [Kz] at hv
         generalize hq : a.tmps[s] = q at hv
         have h3 : a.tmps[s]? = some q := by rw [GG hlt, hq]
         cases hv
         simp [h3]
        rw [hy]
        cases want <;> rfl
      . cases hb
 cases hwv : W7 ops o slots with
 | none => rw [hwv] at h; cases h
 | some b =>
   rw [hwv] at h
   cases b with
   | true => exact .inl ⟨hw _ hwv, c4A hcx hs h⟩
   | false =>
     simp only [a1L, Q2] at h
     exact .inr ⟨hw _ hwv, _, h, ⟨hs.here, RepS.put_ hs.slots hs.size o.dst (.tup [] #[] rfl fun k y h => by simp at h), by rw [M1, hs.size, a1x], by rw [S6]; exact hs.defers⟩⟩
end
end En
namespace En
open Go
section
variable {R : Type} {P : Gu} {T : FP -> Option Ty} {E E' : Env} {g g' : G} {w w' : Gc} {dead : List Pos}
def G.ren (g : G) (d : Nat) (ρ : Nat -> Option Nat) : G :=
 { g with Γ := fun b => match g.Γ b with
  | .own (.slot d' s) n => if d' = d then (match ρ s with | some s' => .own (.slot d s') n | none => .low n) else .own (.slot d' s) n
  | p => p }
theorem c6F (g : G) (d : Nat) (ρ : Nat -> Option Nat) (b o : Nat) : s5 (g.ren d ρ) b o ↔ s5 g b o := by
 unfold s5 G.ren
 simp only
 cases h : g.Γ b with
 | own p n =>
   cases p with
   | slot d' s =>
     simp only
     by_cases hd : d' = d
     . rw [if_pos hd]; cases ρ s <;> exact Kk
     . rw [if_neg hd]
   | cell d' s i => exact Kk
 | _ => exact Kk
theorem a2C (g : G) (d : Nat) (ρ : Nat -> Option Nat) (w : Gc) : Later g w (g.ren d ρ) w := ⟨rfl, fun b o v h1 h2 => ⟨(c6F g d ρ b o).2 h1, h2⟩, fun b x h1 h2 => ⟨by simp only [G.ren, h1], h2⟩⟩
theorem d2s (g : G) (d : Nat) (ρ : Nat -> Option Nat) (w : Gc) (d' : Nat) : Tr d' g w (g.ren d ρ) w :=
 ⟨rfl, rfl, rfl, FW _, a2C g d ρ w, fun b _ hi => ⟨by unfold G.ren; simp only; rcases hi with hi | ⟨n, hi⟩ <;> rw [hi], rfl⟩, fun _ _ _ => rfl⟩
theorem c0S {d : Nat} {ρ : Nat -> Option Nat} {q s : Nat} {e : FP} {v : FX} (h : D1 g w (.slot d q) e v) (hρ : ρ q = some s) : D1 (g.ren d ρ) w (.slot d s) e v := by
 rcases h with h0 | ⟨b, n, cap, cur, h1, h2, h3, h4⟩
 . exact .inl h0
 . refine .inr ⟨b, n, cap, cur, h1, ?_, h3, h4⟩
   unfold G.ren
   simp only [h2, if_pos, hρ]
theorem c2O {d : Nat} {ρ : Nat -> Option Nat} {d' s i : Nat} {e : FP} {v : FX} (h : D1 g w (.cell d' s i) e v) : D1 (g.ren d ρ) w (.cell d' s i) e v := by
 rcases h with h0 | ⟨b, n, cap, cur, h1, h2, h3, h4⟩
 . exact .inl h0
 . refine .inr ⟨b, n, cap, cur, h1, ?_, h3, h4⟩
   unfold G.ren
   simp only [h2]
theorem c8R {d : Nat} {ρ : Nat -> Option Nat} {b d' s : Nat} (h : g.Γ b = .box d' s) : (g.ren d ρ).Γ b = .box d' s := by unfold G.ren; simp only [h]
theorem b2w (ok : Nat -> Nat -> Bool) (hl : Later g w g' w') (hd : E'.d = E.d) (a1M : ∀ k s, E.dom k s -> ok k s = true -> E'.dom k s) (hJ : ∀ k s, k <= E.d -> E.dom k s -> ok k s = true -> g'.J (E.d - k) s = g.J (E.d - k) s)
 (okD : D -> Bool) (h1 : ∀ k s o, okD (.ptr k s o) = true -> ok k s = true) (h5 : ∀ n fs k s, okD (.fn n fs k s) = true -> ok k s = true) (h2 : ∀ f caps, okD (.clos f caps) = true -> ∀ (i : Nat) y, caps[i]? = some y -> okD y = true) (h3 : ∀ ds, okD (.agg ds) = true -> ∀ (i : Nat) y, ds[i]? = some y -> okD y = true) (h4 : ∀ ds, okD (.tup ds) = true -> ∀ (i : Nat) y, ds[i]? = some y -> okD y = true)
 {x : D} {v : FX} (h : RepD E g w dead x v) : x.noOwn = true -> okD x = true -> RepD E' g' w' [] x v := by
 induction h with
 | v x a v h ha =>
   intro hn _
   cases a with
   | own p e => simp [D.noOwn] at hn
   | no => exact .v _ _ _ (h.later hl) trivial
   | nil e => exact .v _ _ _ (h.later hl) ha
 | ptr k s o a1 a2 =>
   intro _ ho
   have ho := h1 _ _ _ ho
   have := hJ k s a1 a2 ho
   rw [← this, ← hd]
   exact .ptr k s o (by rw [hd]; exact a1) (a1M k s a2 ho)
 | nilp => intro _ _; exact .nilp
 | eptr cs o b off us h hr => intro _ _; exact .eptr cs o b off us (fun k y hy => hl.st _ _ _ (h k y hy).1 (h k y hy).2) (fun k y hy => (hr k y hy).later hl)
 | clos f caps us hn' hr ih => intro hn ho; exact .clos f caps us hn' fun i y hy => ih i y hy (M6 _ hn i y hy) (h2 _ _ ho i y hy)
 | nilF => intro _ _; exact .nilF
 | fn n fs k s v h =>
   intro _ ho
   have ho := h5 _ _ _ _ ho
   exact .fn n fs k s v (h.imp fun ⟨a1, a2⟩ => ⟨⟨by rw [hd]; exact a1, a1M k s a2 ho⟩, by rw [hd]; exact hJ k s a1 a2 ho⟩)
 | bld => intro _ _; exact .bld
 | agg ds us hn' hr ih => intro hn ho; exact .agg ds us hn' fun i y hy => ih i y hy (M6 _ hn i y hy) (h3 _ ho i y hy)
 | tup ds us hn' hr ih => intro hn ho; exact .tup ds us hn' fun i y hy => ih i y hy (M6 _ hn i y hy) (h4 _ ho i y hy)
 | any v => intro _ _; exact .any v
theorem a1y (ks : List Nat) (k : Nat) : ∀ (ds : List D), hangsL ks k ds = false -> ∀ (i : Nat) y, ds[i]? = some y -> y.hangs ks k = false
 | [], _, i, y, h => by simp at h
 | d :: ds, h, 0, y, hy => by simp only [hangsL, GI] at h; simp at hy; subst hy; exact h.1
 | d :: ds, h, i + 1, y, hy => by simp only [hangsL, GI] at h; exact a1y ks k ds h.2 i y (by simpa using hy)
theorem a3v {k s i : Nat} {c : D} {u : FX} (hf : c.flat = true) (h : RepD E g w dead (G6 k s i c) u) (e5N : Pos.cell k s i ∉ dead) (ok : Nat -> Nat -> Bool) (hl : Later g w g' w') (hd : E'.d = E.d) (a1M : ∀ k s, E.dom k s -> ok k s = true -> E'.dom k s)
 (hJ : ∀ k s, k <= E.d -> E.dom k s -> ok k s = true -> g'.J (E.d - k) s = g.J (E.d - k) s) (hown : ∀ e v, D1 g w (.cell (E.d - k) s i) e v -> D1 g' w' (.cell (E.d - k) s i) e v)
 (okD : D -> Bool) (h1 : ∀ k s o, okD (.ptr k s o) = true -> ok k s = true) (h5 : ∀ n fs k s, okD (.fn n fs k s) = true -> ok k s = true) (h2 : ∀ f caps, okD (.clos f caps) = true -> ∀ (i : Nat) y, caps[i]? = some y -> okD y = true) (h3 : ∀ ds, okD (.agg ds) = true -> ∀ (i : Nat) y, ds[i]? = some y -> okD y = true) (h4 : ∀ ds, okD (.tup ds) = true -> ∀ (i : Nat) y, ds[i]? = some y -> okD y = true)
 (hok : okD (c.shift k) = true) (h0 : ∀ x a, okD (.v x a) = true) : RepD E' g' w' [] (G6 k s i c) u := by
 have gen : ∀ {x : D}, RepD E g w dead x u -> x.noOwn = true -> okD x = true -> RepD E' g' w' [] x u := fun hx hn ho => b2w ok hl hd a1M hJ okD h1 h5 h2 h3 h4 hx hn ho
 cases c with
 | v x a =>
   cases a with
   | own p e =>
     cases h with
     | v x a v h ha =>
       refine .v _ _ _ (h.later hl) ?_
       rcases ha with ha | ⟨ha1, ha2⟩
       . exact absurd ha e5N
       . exact .inr ⟨by show k <= E'.d; rw [hd]; exact ha1, by show D1 g' w' (.cell (E'.d - k) s i) e u; rw [hd]; exact hown e u ha2⟩
   | no => exact gen h rfl (h0 _ _)
   | nil e => exact gen h rfl (h0 _ _)
 | bld => exact .any _
 | _ => exact gen h (noOwn_shift k _ hf) hok
theorem d9K {d : Nat} {ρ : Nat -> Option Nat} {m : Mem} (hm : MemRep E g w m) : MemRep E (g.ren d ρ) w m := by
 intro k s b hb
 have hr := hm k s b hb
 obtain ⟨us, h1, h2, h3⟩ := hr.heap
 refine ⟨hr.le, c8R hr.perm, us, h1, h2, fun i c hc => ?_⟩
 obtain ⟨a1, a2, a3, a4⟩ := h3 i c hc
 exact ⟨a1, a2, a3, a3v a2 a4 (by simp) (fun _ _ => true) (a2C g d ρ w) rfl (fun _ _ h _ => h) (fun _ _ _ _ _ => rfl) (fun e v h => c2O h) (fun _ => true) (fun _ _ _ _ => rfl) (fun _ _ _ _ _ => rfl) (fun _ _ _ _ _ _ => rfl) (fun _ _ _ _ _ => rfl) (fun _ _ _ _ _ => rfl) rfl (fun _ _ => rfl)⟩
def P4 (ok : D -> Bool) (dead : List Pos) : List Pos -> List (Nat × D) -> List D
 | _, [] => []
 | seen, (s, d) :: r =>
   match d with
   | .v x a => (match a with
     | .own p e => (match p with
       | .slot g => cond (O0 (.slot g) dead || O0 (.slot g) seen) (.v x .no :: P4 ok dead seen r) (.v x (.own (.slot s) e) :: P4 ok dead (.slot g :: seen) r)
       | _ => .v x .no :: P4 ok dead seen r)
     | a => .v x a :: P4 ok dead seen r)
   | d => cond (ok d) (d :: P4 ok dead seen r) (.any :: P4 ok dead seen r)
def a3a (dead : List Pos) : List Pos -> List (Nat × D) -> Nat -> Option Nat
 | _, [], _ => none
 | seen, (s, d) :: r, q =>
   match d with
   | .v x a => (match a with
     | .own p e => (match p with
       | .slot g => cond (O0 (.slot g) dead || O0 (.slot g) seen) (a3a dead seen r q) (if q = g then some s else a3a dead (.slot g :: seen) r q)
       | _ => a3a dead seen r q)
     | a => a3a dead seen r q)
   | d => a3a dead seen r q
def N5 : Nat -> List D -> List (Nat × D)
 | _, [] => []
 | s, d :: r => (s, d) :: N5 (s + 1) r
theorem a1c (dead : List Pos) : ∀ (l : List D) (s : Nat) (seen : List Pos) (K : List D -> Option R), a3C dead s seen l K = K (P4 D.noOwn dead seen (N5 s l))
 | [], s, seen, K => rfl
 | d :: r, s, seen, K => by
   unfold a3C N5 P4
   cases d with
   | v x a =>
     cases a with
     | own p e =>
       cases p with
       | slot q => simp only [a1c dead r]; cases (O0 (.slot q) dead || O0 (.slot q) seen) <;> rfl
       | cell a b c => simp only [a1c dead r]
     | no => simp only [a1c dead r]
     | nil e => simp only [a1c dead r]
   | _ => simp only [a1c dead r]; (first | rfl | (cases D.noOwn _ <;> rfl))
def b0V (slots : List D) (ks : List Nat) : List (Nat × D) := ks.map fun s => (s, slots.getD s .any)
theorem c2K (all : List Nat) (slots : List D) (dead : List Pos) : ∀ (ks : List Nat) (seen : List Pos) (K : List D -> Option R), a8I all slots dead ks seen K = K (P4 (fun d => d.noOwn && !d.hangs all 0) dead seen (b0V slots ks))
 | [], seen, K => rfl
 | s :: r, seen, K => by
   unfold a8I b0V
   rw [Hp]
   unfold P4
   rw [N8]
   generalize slots.getD s .any = d
   have ih := c2K all slots dead r
   unfold b0V at ih
   cases d with
   | v x a =>
     cases a with
     | own p e =>
       cases p with
       | slot q => simp only [ih]; cases (O0 (.slot q) dead || O0 (.slot q) seen) <;> rfl
       | cell a b c => simp only [ih]
     | no => simp only [ih]
     | nil e => simp only [ih]
   | _ => simp only [ih]; (first | rfl | (cases (D.noOwn _ && !D.hangs all 0 _) <;> rfl))
inductive Hand (ok : D -> Bool) (dead : List Pos) (ρ : Nat -> Option Nat) (s : Nat) : D -> D -> Prop
 | keep (x : V) (a : Att) (h : ∀ p e, a ≠ .own p e) : Hand ok dead ρ s (.v x a) (.v x a)
 | drop (x : V) (a : Att) : Hand ok dead ρ s (.v x a) (.v x .no)
 | own (x : V) (q : Nat) (e : FP) (h : Pos.slot q ∉ dead) (hρ : ρ q = some s) : Hand ok dead ρ s (.v x (.own (.slot q) e)) (.v x (.own (.slot s) e))
 | same (d : D) (h : ok d = true) : Hand ok dead ρ s d d
 | lost (d : D) : Hand ok dead ρ s d .any
theorem a3K (ok : D -> Bool) (dead : List Pos) : ∀ (l : List (Nat × D)) (seen : List Pos), (P4 ok dead seen l).length = l.length /\
 ∀ (k : Nat) s d d', l[k]? = some (s, d) -> (P4 ok dead seen l)[k]? = some d' -> Hand ok dead (fun q => if O0 (.slot q) seen then none else a3a dead seen l q) s d d'
 | [], seen => ⟨rfl, fun k s d d' h => by simp at h⟩
 | (s0, d0) :: r, seen => by
   -- the rest, where no new name was seen
   have plain : ∀ (d1 : D), P4 ok dead seen ((s0, d0) :: r) = d1 :: P4 ok dead seen r -> (∀ q, a3a dead seen ((s0, d0) :: r) q = a3a dead seen r q) -> Hand ok dead (fun q => if O0 (.slot q) seen then none else a3a dead seen ((s0, d0) :: r) q) s0 d0 d1 ->
    (P4 ok dead seen ((s0, d0) :: r)).length = ((s0, d0) :: r).length /\ ∀ (k : Nat) s d d', ((s0, d0) :: r)[k]? = some (s, d) -> (P4 ok dead seen ((s0, d0) :: r))[k]? = some d' -> Hand ok dead (fun q => if O0 (.slot q) seen then none else a3a dead seen ((s0, d0) :: r) q) s d d' := by
    intro d1 h1 h2 h3
    obtain ⟨i1, i2⟩ := a3K ok dead r seen
    rw [h1]
    refine ⟨by simp [i1], fun k s d d' hk hk' => ?_⟩
    rcases k with _ | k
    . simp at hk hk'
      obtain ⟨rfl, rfl⟩ := hk
      subst hk'
      exact h3
    . have := i2 k s d d' (by simpa using hk) (by simpa using hk')
      have e : (fun q => if O0 (.slot q) seen then none else a3a dead seen ((s0, d0) :: r) q) = fun q => if O0 (.slot q) seen then none else a3a dead seen r q := by
       funext q; rw [h2]
      rw [e]; exact this
   cases d0 with
   | v x a =>
     cases a with
     | no => exact plain (.v x .no) rfl (fun _ => rfl) (.keep x .no (by simp))
     | nil e => exact plain (.v x (.nil e)) rfl (fun _ => rfl) (.keep x (.nil e) (by simp))
     | own p e =>
       cases p with
       | cell a b c => exact plain (.v x .no) rfl (fun _ => rfl) (.drop x _)
       | slot g =>
         cases hs : (O0 (.slot g) dead || O0 (.slot g) seen) with
         | true => exact plain (.v x .no) (by simp only [P4, hs, cond_true]) (fun q => by simp only [a3a, hs, cond_true]) (.drop x _)
         | false =>
           have hs' := hs
           simp only [GI] at hs'
           obtain ⟨i1, i2⟩ := a3K ok dead r (.slot g :: seen)
           have h1 : P4 ok dead seen ((s0, .v x (.own (.slot g) e)) :: r) = .v x (.own (.slot s0) e) :: P4 ok dead (.slot g :: seen) r := by simp only [P4, hs, cond_false]
           have h2 : ∀ q, a3a dead seen ((s0, .v x (.own (.slot g) e)) :: r) q = if q = g then some s0 else a3a dead (.slot g :: seen) r q := fun q => by simp only [a3a, hs, cond_false]
           rw [h1]
           refine ⟨by simp [i1], fun k s d d' hk hk' => ?_⟩
           rcases k with _ | k
           . simp at hk hk'
             obtain ⟨rfl, rfl⟩ := hk
             subst hk'
             refine .own x g e (fun hh => by rw [(a1r _ _).2 hh] at hs'; cases hs'.1) ?_
             simp [hs'.2, h2]
           . have := i2 k s d d' (by simpa using hk) (by simpa using hk')
             have hle : ∀ q s, (if O0 (.slot q) (.slot g :: seen) then none else a3a dead (.slot g :: seen) r q) = some s -> (if O0 (.slot q) seen then none else a3a dead seen ((s0, .v x (.own (.slot g) e)) :: r) q) = some s := by
              intro q s hq
              split at hq
              . cases hq
              . rename_i hn
                have hn' : ¬ (Pos.slot q ∈ Pos.slot g :: seen) := fun hh => hn ((a1r _ _).2 hh)
                have hqg : q ≠ g := fun e0 => hn' (by rw [e0]; simp)
                have hqs : ¬ O0 (.slot q) seen = true := fun hh => hn' (GQ _ ((a1r _ _).1 hh))
                rw [if_neg hqs, h2, if_neg hqg]
                exact hq
             cases this with
             | keep x a h => exact .keep x a h
             | drop x a => exact .drop x a
             | own x q e h hρ => exact .own x q e h (hle _ _ hρ)
             | same d h => exact .same d h
             | lost d => exact .lost d
   | _ =>
     refine (if hok : ok _ = true then plain _ (by simp only [P4, hok, cond_true]) (fun _ => rfl) (.same _ hok) else plain .any (by have hok' := Bool.eq_false_iff.2 hok; simp only [P4, hok', cond_false]) (fun _ => rfl) (.lost _))
theorem d4n {ok : D -> Bool} (hok : ∀ d, ok d = true -> d.noOwn = true) {ρ : Nat -> Option Nat} {s : Nat} {d d' : D} {v : FX} (hh : Hand ok dead ρ s d d') (h : RepD E g w dead d v) : RepD E (g.ren E.d ρ) w [] d' v := by
 have hl := a2C g E.d ρ w
 cases hh with
 | keep x a hn =>
   cases h with
   | v x a v h ha =>
     cases a with
     | own p e => exact absurd rfl (hn p e)
     | no => exact .v _ _ _ (h.later hl) trivial
     | nil e => exact .v _ _ _ (h.later hl) ha
 | drop x a => exact .v _ _ _ ((F6 h).later hl) trivial
 | own x q e hq hρ =>
   cases h with
   | v x a v h ha =>
     refine .v _ _ _ (h.later hl) ?_
     rcases ha with ha | ⟨_, ha⟩
     . exact absurd ha hq
     . exact .inr ⟨trivial, c0S ha hρ⟩
 | same d hn => exact b2w (fun _ _ => true) hl rfl (fun _ _ h _ => h) (fun _ _ _ _ _ => rfl) (fun _ => true) (fun _ _ _ _ => rfl) (fun _ _ _ _ _ => rfl) (fun _ _ _ _ _ _ => rfl) (fun _ _ _ _ _ => rfl) (fun _ _ _ _ _ => rfl) h (hok d hn) rfl
 | lost d => exact .any _
theorem a9i : ∀ (l : List D) (s k : Nat), (N5 s l)[k]? = (l[k]?).map fun d => (s + k, d)
 | [], s, k => by simp [N5]
 | d :: r, s, 0 => by simp [N5]
 | d :: r, s, k + 1 => by
   simp only [N5, Hv]
   rw [a9i r (s + 1) k]
   congr 1
   funext d
   rw [show s + 1 + k = s + (k + 1) by omega]
theorem T3 : ∀ (l : List D) (s : Nat), (N5 s l).length = l.length
 | [], _ => rfl
 | d :: r, s => by simp [N5, T3 r]
theorem c2n {st : St} {a : Act} (hs : Sim T E g w st a) {K : St -> Option R} {r : R} (h : b1L st K = some r) : ∃ st' g', K st' = some r /\ Sim T E g' w st' a /\ Tr E.d g w g' w /\ st'.slots.length = st.slots.length := by
 obtain ⟨slots, mem, dead⟩ := st
 unfold b1L at h
 cases dead with
 | nil => exact ⟨_, g, h, hs, Tr.refl _ _ _, rfl⟩
 | cons p q =>
   simp only [a1c] at h
   obtain ⟨h1, h2⟩ := a3K D.noOwn (p :: q) (N5 0 slots) []
   refine ⟨_, _, h, ⟨⟨d9K hs.here.mem, hs.here.dom, hs.here.sk.later (a2C _ _ _ _), hs.here.len⟩, fun k x hk => ?_, by rw [hs.size, h1, T3], hs.defers⟩, d2s g E.d (fun q' => if O0 (.slot q') [] then none else a3a (p :: q) [] (N5 0 slots) q') w E.d, by show (P4 D.noOwn (p :: q) [] (N5 0 slots)).length = _; rw [h1, T3]⟩
   have hkl := (FN.1 hk).1
   simp only at hkl
   rw [h1, T3] at hkl
   have hn : (N5 0 slots)[k]? = some (k, slots[k]) := by rw [a9i, FQ hkl]; simp
   exact d4n (fun _ h => h) (h2 k k slots[k] x hn hk) (hs.slots k _ (FQ hkl))
def J0 : Nat -> Nat -> List Nat -> List D -> List D
 | 0, _, _, _ => []
 | n + 1, s, k :: ks, d :: ds => cond (FZ s k) (d :: J0 n (s + 1) ks ds) (.any :: J0 n (s + 1) (k :: ks) (d :: ds))
 | n + 1, s, ks, ds => .any :: J0 n (s + 1) ks ds
theorem a1C : ∀ (n s : Nat) (ks : List Nat) (ds : List D) (K : List D -> Option R), a0k n s ks ds K = K (J0 n s ks ds)
 | 0, _, _, _, _ => rfl
 | n + 1, s, [], ds, K => by simp only [a0k, J0, a1C n]
 | n + 1, s, k :: ks, [], K => by simp only [a0k, J0, a1C n]
 | n + 1, s, k :: ks, d :: ds, K => by simp only [a0k, J0, a1C n]; cases FZ s k <;> rfl
theorem W8 : ∀ (n s : Nat) (ks : List Nat) (ds : List D), (J0 n s ks ds).length = n
 | 0, _, _, _ => rfl
 | n + 1, s, [], ds => by simp [J0, W8 n]
 | n + 1, s, k :: ks, [] => by simp [J0, W8 n]
 | n + 1, s, k :: ks, d :: ds => by
   unfold J0
   cases FZ s k <;> simp [W8 n]
theorem a0y : ∀ (n s : Nat) (ks : List Nat) (ds : List D) (j : Nat) (x : D), (J0 n s ks ds)[j]? = some x -> x = .any ∨ ∃ i : Nat, ks[i]? = some (s + j) /\ ds[i]? = some x
 | 0, s, ks, ds, j, x, h => by simp [J0] at h
 | n + 1, s, [], ds, j, x, h => by
   rcases j with _ | j
   . simp [J0] at h; exact .inl h.symm
   . have := a0y n (s + 1) [] ds j x (by simpa [J0] using h)
     rcases this with h | ⟨i, h1, h2⟩
     . exact .inl h
     . simp at h1
 | n + 1, s, k :: ks, [], j, x, h => by
   rcases j with _ | j
   . simp [J0] at h; exact .inl h.symm
   . have := a0y n (s + 1) (k :: ks) [] j x (by simpa [J0] using h)
     rcases this with h | ⟨i, h1, h2⟩
     . exact .inl h
     . simp at h2
 | n + 1, s, k :: ks, d :: ds, j, x, h => by
   unfold J0 at h
   cases hb : FZ s k with
   | true =>
     obtain rfl := FM hb
     rw [hb, cond_true] at h
     rcases j with _ | j
     . simp at h; exact .inr ⟨0, by simp, by simp [h]⟩
     . rcases a0y n (s + 1) ks ds j x (by simpa using h) with h | ⟨i, h1, h2⟩
       . exact .inl h
       . exact .inr ⟨i + 1, by rw [Hv, h1]; congr 1; omega, by simpa using h2⟩
   | false =>
     rw [hb, cond_false] at h
     rcases j with _ | j
     . simp at h; exact .inl h.symm
     . rcases a0y n (s + 1) (k :: ks) (d :: ds) j x (by simpa using h) with h | ⟨i, h1, h2⟩
       . exact .inl h
       . exact .inr ⟨i, by rw [h1]; congr 1; omega, h2⟩
theorem a9m (ks : List Nat) : ∀ (fr : Fr) (K : Fr -> Option R) (r : R), c0t ks fr K = some r -> ∃ fr', K fr' = some r /\ ∀ s, G2 s fr' = (if b2g s ks = true then G2 s fr else none) /\ ∀ b, G2 s fr' = some b -> hangsL ks 0 b.cells = false
 | [], K, r, h => ⟨[], h, fun s => ⟨by simp [G2], fun b hb => by simp [G2] at hb⟩⟩
 | (s, b) :: fr, K, r, h => by
   unfold c0t at h
   rcases j8 h with ⟨hc, h⟩ | ⟨hc, h⟩
   . simp only [FT, Ha] at hc
     obtain ⟨fr', h1, h2⟩ := a9m ks fr _ r h
     refine ⟨(s, b) :: fr', h1, fun t => ?_⟩
     rw [N0, N0]
     by_cases ht : t = s
     . subst ht
       simp only [if_true, hc.1]
       exact ⟨trivial, fun b' hb' => by injection hb' with hb'; subst hb'; exact hc.2⟩
     . simp only [ht, if_false]
       exact h2 t
   . rcases j8 h with ⟨hc2, h⟩ | ⟨hc2, h⟩
     . cases h
     . obtain ⟨fr', h1, h2⟩ := a9m ks fr _ r h
       refine ⟨fr', h1, fun t => ?_⟩
       rw [N0]
       by_cases ht : t = s
       . subst ht
         have := h2 t
         simp only [hc2, GW, if_false] at this ⊢
         exact this
       . simp only [ht, if_false]
         exact h2 t
mutual
theorem b1o (ks : List Nat) (k : Nat) : ∀ d : D, d.hangs ks 0 = false -> (d.shift k).hangs ks 0 = false
 | .v _ _, _ => rfl
 | .ptr k' s o, h => by
   simp only [D.shift, D.hangs] at h ⊢
   rcases GJ (k' + k) with h0 | h0
   . have : k' = 0 := by omega
     subst this
     rw [show 0 + k = 0 by omega]; exact h
   . rw [a7L (by omega)]; rfl
 | .nilp, _ => rfl
 | .eptr _ _, _ => rfl
 | .clos f caps, h => hangsL_shift ks k caps h
 | .nilF, _ => rfl
 | .fn n fs k' s, h => by
   simp only [D.shift, D.hangs] at h ⊢
   rcases GJ (k' + k) with h0 | h0
   . have : k' = 0 := by omega
     subst this
     rw [show 0 + k = 0 by omega]; exact h
   . rw [a7L (by omega)]; rfl
 | .bld, _ => rfl
 | .agg ds, h => hangsL_shift ks k ds h
 | .tup ds, h => hangsL_shift ks k ds h
 | .any, _ => rfl
theorem hangsL_shift (ks : List Nat) (k : Nat) : ∀ ds : List D, hangsL ks 0 ds = false -> hangsL ks 0 (D.shifts k ds) = false
 | [], _ => rfl
 | d :: ds, h => by
   simp only [hangsL, GI] at h
   simp only [D.shifts, hangsL, GI]
   exact ⟨b1o ks k d h.1, hangsL_shift ks k ds h.2⟩
end
mutual
theorem b7D (ks : List Nat) (k : Nat) : ∀ d : D, (d.shift (k + 1)).hangs ks 0 = false
 | .v _ _ => rfl
 | .ptr k' s o => by simp only [D.shift, D.hangs]; rw [a7L (by omega)]; rfl
 | .nilp => rfl
 | .eptr _ _ => rfl
 | .clos f caps => hangsL_out ks k caps
 | .nilF => rfl
 | .fn n fs k' s => by simp only [D.shift, D.hangs]; rw [a7L (by omega)]; rfl
 | .bld => rfl
 | .agg ds => hangsL_out ks k ds
 | .tup ds => hangsL_out ks k ds
 | .any => rfl
theorem hangsL_out (ks : List Nat) (k : Nat) : ∀ ds : List D, hangsL ks 0 (D.shifts (k + 1) ds) = false
 | [] => rfl
 | d :: ds => by
   simp only [D.shifts, hangsL, GI]
   exact ⟨b7D ks k d, hangsL_out ks k ds⟩
end
def a0F (ks : List Nat) : Fr -> Fr
 | [] => []
 | (s, b) :: r => cond (b2g (s + 100000) ks) ((s, ⟨b.ty, b.cells.map a4Q⟩) :: a0F ks r) ((s, b) :: a0F ks r)
theorem c3C (ks : List Nat) : ∀ (fr : Fr) (K : Fr -> Option R), c2u ks fr K = K (a0F ks fr)
 | [], K => rfl
 | (s, b) :: r, K => by
   unfold c2u a0F
   simp only [forceL_eq, c3C ks r]
   cases b2g (s + 100000) ks <;> rfl
theorem a7u (ks : List Nat) (t : Nat) : ∀ (fr : Fr), (G2 t (a0F ks fr) = none ↔ G2 t fr = none) /\ ∀ b', G2 t (a0F ks fr) = some b' -> ∃ b, G2 t fr = some b /\ b'.ty = b.ty /\ (b'.cells = b.cells ∨ b'.cells = b.cells.map a4Q)
 | [] => ⟨Kk, fun b' h => by cases h⟩
 | (s, b) :: r => by
   obtain ⟨i1, i2⟩ := a7u ks t r
   unfold a0F
   cases b2g (s + 100000) ks with
   | true =>
     simp only [cond_true, N0]
     by_cases h : t = s
     . simp only [h, if_true]
       exact ⟨by simp, fun b' hb => by injection hb with hb; subst hb; exact ⟨b, rfl, rfl, .inr rfl⟩⟩
     . simp only [h, if_false]; exact ⟨i1, i2⟩
   | false =>
     simp only [cond_false, N0]
     by_cases h : t = s
     . simp only [h, if_true]
       exact ⟨by simp, fun b' hb => by injection hb with hb; subst hb; exact ⟨b, rfl, rfl, .inl rfl⟩⟩
     . simp only [h, if_false]; exact ⟨i1, i2⟩
theorem Sim.weak {slots : List D} {fr : Fr} {out : Mem} {a : Act} (ks : List Nat) (hs : Sim T E g w ⟨slots, fr :: out, dead⟩ a) : Sim T E g w ⟨slots, a0F ks fr :: out, dead⟩ a := by
 refine ⟨⟨fun k s b' hb => ?_, ?_, hs.here.sk, hs.here.len⟩, hs.slots, hs.size, hs.defers⟩
 . rcases k with _ | k
   . obtain ⟨b, h1, h2, h3⟩ := (a7u ks s fr).2 b' hb
     have hr := hs.here.mem 0 s b h1
     rcases h3 with h3 | h3
     . have : b' = b := by cases b; cases b'; simp_all
       rw [this]; exact hr
     . obtain ⟨us, b1, b2, b3⟩ := hr.heap
       refine ⟨hr.le, hr.perm, us, by rw [h2]; exact b1, by rw [b2, h3]; simp, fun i c' hc => ?_⟩
       rw [h3, Gn, Gl] at hc
       obtain ⟨c, hc, rfl⟩ := hc
       obtain ⟨a1, a2, a3, a4⟩ := b3 i c hc
       cases c with
       | v x at_ =>
         cases at_ with
         | own p e =>
           refine ⟨a1, rfl, fun e => (by cases e), ?_⟩
           exact .v _ _ _ (F6 a4) trivial
         | no => exact ⟨a1, a2, a3, a4⟩
         | nil e => exact ⟨a1, a2, a3, a4⟩
       | _ => exact ⟨a1, a2, a3, a4⟩
   . exact hs.here.mem (k + 1) s b' hb
 . rw [hs.here.dom]
   funext k s
   rcases k with _ | k
   . have h1 := (a7u ks s fr).1
     have e1 : F4 (fr :: out) 0 s = ∃ b, G2 s fr = some b := rfl
     have e2 : F4 (a0F ks fr :: out) 0 s = ∃ b, G2 s (a0F ks fr) = some b := rfl
     rw [e1, e2]
     cases ha : G2 s fr with
     | none => rw [h1.2 ha]
     | some x =>
       cases hb : G2 s (a0F ks fr) with
       | none => rw [h1.1 hb] at ha; cases ha
       | some y => simp
   . rfl
theorem a6r (slots : List D) : ∀ (ks : List Nat) (dead : List Pos) (K : List Pos -> Option R), a9U slots ks dead K = K (a8x slots ks dead)
 | [], dead, K => rfl
 | k :: ks, dead, K => by
   unfold a9U a8x
   rw [N8]
   cases GY 200000 k with
   | false => exact a6r slots ks dead K
   | true =>
     simp only [cond_true]
     generalize slots.getD (k - 200000) .any = d
     cases d with
     | v x a => cases a <;> simp only [a6r slots ks]
     | _ => exact a6r slots ks dead K
theorem b7k (slots : List D) {p : Pos} : ∀ (ks : List Nat) (dead : List Pos), p ∈ dead -> p ∈ a8x slots ks dead
 | [], dead, h => h
 | k :: ks, dead, h => by
   have ih := b7k slots ks dead h
   unfold a8x
   cases GY 200000 k with
   | false => exact ih
   | true =>
     simp only [cond_true]
     split
     . exact GQ _ ih
     . exact ih
theorem a7y {slots : List D} {m : Mem} {a : Act} (hs : Sim T E g w ⟨slots, m, dead⟩ a) {ks : List Nat} {K : List D -> Mem -> Option R} {r : R} (h : b7e ks ⟨slots, m, dead⟩ K = some r) :
 ∃ ds m' g' E', K ds m' = some r /\ Sim T E' g' w ⟨J0 slots.length 0 ks ds, m', []⟩ a /\ E'.d = E.d /\ Tr E.d g w g' w := by
 unfold b7e at h
 cases m with
 | nil => cases h
 | cons fr out =>
   simp only [a6r, c2K] at h
   have hdd : ∀ p, p ∈ dead -> p ∈ a8x slots ks dead := fun p hp => b7k slots ks dead hp
   generalize a8x slots ks dead = dead' at h hdd
   obtain ⟨fr', h1, h2⟩ := a9m ks fr _ r h
   obtain ⟨h3, h4⟩ := a3K (fun d => d.noOwn && !d.hangs ks 0) dead' (b0V slots ks) []
   generalize hρ : (fun q => if O0 (.slot q) [] then none else a3a dead' [] (b0V slots ks) q) = ρ at h4
   generalize hds : P4 (fun d => d.noOwn && !d.hangs ks 0) dead' [] (b0V slots ks) = ds at h1 h3 h4
   let E' : Env := { d := E.d, dom := F4 (fr' :: out) }
   let okp : Nat -> Nat -> Bool := fun k s => !FZ k 0 || b2g s ks
   let okD : D -> Bool := fun d => !d.hangs ks 0
   have a1M : ∀ k s, E.dom k s -> okp k s = true -> E'.dom k s := by
    intro k s hd ho
    obtain ⟨b, hb⟩ := hs.here.keeps_dom hd
    rcases k with _ | k
    . refine ⟨b, ?_⟩
      simp only [okp, KD, Bool.not_true, Lo] at ho
      show G2 s fr' = some b
      rw [(h2 s).1, if_pos ho]; exact hb
    . exact ⟨b, hb⟩
   have o1 : ∀ k s o, okD (.ptr k s o) = true -> okp k s = true := by
    intro k s o ho
    simp only [okD, okp, D.hangs, Ha, KV, Jj] at ho ⊢
    rcases ho with ho | ho
    . rw [ho]; rfl
    . rw [ho]; simp
   have o5 : ∀ n fs k s, okD (.fn n fs k s) = true -> okp k s = true := by
    intro n fs k s ho
    simp only [okD, okp, D.hangs, Ha, KV, Jj] at ho ⊢
    rcases ho with ho | ho
    . rw [ho]; rfl
    . rw [ho]; simp
   have o2 : ∀ f caps, okD (.clos f caps) = true -> ∀ (i : Nat) y, caps[i]? = some y -> okD y = true := by
    intro f caps ho i y hy
    simp only [okD, Ha] at ho ⊢
    exact a1y ks 0 caps ho i y hy
   have o3 : ∀ ds, okD (.agg ds) = true -> ∀ (i : Nat) y, ds[i]? = some y -> okD y = true := by
    intro ds ho i y hy
    simp only [okD, Ha] at ho ⊢
    exact a1y ks 0 ds ho i y hy
   have o4 : ∀ ds, okD (.tup ds) = true -> ∀ (i : Nat) y, ds[i]? = some y -> okD y = true := by
    intro ds ho i y hy
    simp only [okD, Ha] at ho ⊢
    exact a1y ks 0 ds ho i y hy
   have hlat := a2C g E.d ρ w
   rw [c3C] at h1
   refine ⟨ds, a0F ks fr' :: out, g.ren E.d ρ, E', h1, Sim.weak ks ⟨⟨fun k s b hb => ?_, rfl, hs.here.sk.later hlat, hs.here.len⟩, fun j x hj => ?_, by rw [hs.size, W8], hs.defers⟩, rfl, d2s g E.d ρ w E.d⟩
   . -- the variables
     have hb0 : Mem.box? (fr :: out) k s = some b := by
      rcases k with _ | k
      . have := (h2 s).1
        have hb' : G2 s fr' = some b := hb
        rw [hb'] at this
        split at this
        . exact this.symm
        . cases this
      . exact hb
     have hr := hs.here.mem k s b hb0
     obtain ⟨us, b1, b2, b3⟩ := hr.heap
     refine ⟨hr.le, c8R hr.perm, us, b1, b2, fun i c hc => ?_⟩
     obtain ⟨a1, a2, a3, a4⟩ := b3 i c hc
     refine ⟨a1, a2, a3, a3v a2 a4 (by simp) okp hlat rfl a1M (fun _ _ _ _ _ => rfl) (fun e v h => c2O h) okD o1 o5 o2 o3 o4 ?_ (fun _ _ => rfl)⟩
     rcases k with _ | k
     . have := a1y ks 0 _ ((h2 s).2 b hb) i c hc
       simp only [okD, Ha]
       exact b1o ks 0 c this
     . simp only [okD, Ha]
       exact b7D ks k c
   . -- the slots
     simp only at hj
     rcases a0y _ _ _ _ j x hj with rfl | ⟨i, k1, k2⟩
     . exact .any _
     . rw [GL] at k1
       have hp : (b0V slots ks)[i]? = some (j, slots.getD j .any) := by simp [b0V, k1]
       have hh := h4 i j _ x hp k2
       have hd : RepD E g w dead (slots.getD j .any) (a.tmps.getD j undef) := by
        rw [FV]
        cases hq : slots[j]? with
        | none => exact .any _
        | some z => exact hs.slots j z hq
       generalize slots.getD j .any = d0 at hh hd
       generalize a.tmps.getD j undef = v0 at hd
       cases hh with
       | keep x a hn =>
         cases hd with
         | v x a v h ha =>
           cases a with
           | own p e => exact absurd rfl (hn p e)
           | no => exact .v _ _ _ (h.later hlat) trivial
           | nil e => exact .v _ _ _ (h.later hlat) ha
       | drop x a => exact .v _ _ _ ((F6 hd).later hlat) trivial
       | own x q e hq hρ =>
         cases hd with
         | v x a v h ha =>
           refine .v _ _ _ (h.later hlat) ?_
           rcases ha with ha | ⟨_, ha⟩
           . exact absurd (hdd _ ha) hq
           . exact .inr ⟨trivial, c0S ha hρ⟩
       | same d hn =>
         simp only [FT] at hn
         exact b2w (E := E) (E' := E') okp hlat rfl a1M (fun _ _ _ _ _ => rfl) okD o1 o5 o2 o3 o4 hd hn.1 hn.2
       | lost d => exact .any _
end
end En
namespace En
open Go
section
variable {R : Type} {P : Gu} {T : FP -> Option Ty} {E : Env} {g : G} {w : Gc}
def d3Y : Ex -> Exit
 | .normal => .normal
 | .exit id => .exit id
 | .goto l => .goto l
 | .ret => .ret
def Then (T : FP -> Option Ty) (E : Env) (g : G) (w : Gc) (n : Nat) (st' : St) (a' : Act) (w' : Gc) : Prop :=
 ∃ E' g', Sim T E' g' w' st' a' /\ E'.d = E.d /\ Tr E.d g w g' w' /\ a'.tmps.size = n
theorem a7t {l l' k q : Nat} (h : O3 l k q = true) (h' : O3 l' k q = true) : l = l' := by
 unfold O3 at h h'
 cases h1 : FZ l 1000000 <;> cases h2 : FZ l' 1000000 <;> rw [h1] at h <;> rw [h2] at h' <;> simp only [cond_true, cond_false, FT] at h h'
 . rw [← FM h.2, ← FM h'.2]
 . have := FM h.1
   have := Gm h'
   omega
 . have := FM h'.1
   have := Gm h
   omega
 . rw [FM h1, FM h2]
structure RootOK (cx : Cx) (ops : Array Oper) (op : Op) (slots : List D) : Prop where
 root : cx.dyn = true -> ∀ z, (∃ t, op = .load t z) ∨ (∃ t v, op = .store t z v) -> ∃ j, z = .tmp j /\ ∀ k q o, slots.getD j .any = .ptr k q o -> O3 (X1 ops 20 j) k q = true
 app : cx.dyn = true -> isApp op = true -> ∃ j y, b3j op = [.tmp j, y] /\ ∀ x k s i e, slots.getD j .any = .v x (.own (.cell k s i) e) -> O3 (c2Y ops j) k s = true
theorem c9A {ops : Array Oper} {slots : List D} {args : List GK} {K : Option R} {r : R} (h : d2t ops slots args K = some r) : (∃ j y, args = [.tmp j, y] /\ ∀ x k s i e, slots.getD j .any = .v x (.own (.cell k s i) e) -> O3 (c2Y ops j) k s = true) /\ K = some r := by
 unfold d2t at h
 split at h
 . rename_i x y
   split at h
   . rename_i j
     rw [N8] at h
     split at h
     . rename_i x a hd
       split at h
       . rename_i p e
         split at h
         . rename_i k s i
           rcases j8 h with ⟨hr, h⟩ | ⟨_, h⟩
           . refine ⟨⟨j, y, rfl, fun x' k' s' i' e' he => ?_⟩, h⟩
             rw [hd] at he
             injection he with _ he
             injection he with he _
             injection he with h1 h2 _
             subst h1 h2
             exact hr
           . cases h
         . rename_i hp
           refine ⟨⟨j, y, rfl, fun x' k s i e' he => ?_⟩, h⟩
           rw [hd] at he
           injection he with _ he
           injection he with he _
           exact absurd he (hp k s i)
       . rename_i ha
         refine ⟨⟨j, y, rfl, fun x' k s i e' he => ?_⟩, h⟩
         rw [hd] at he
         injection he with _ he
         exact absurd he (ha _ _)
     . rename_i hd
       exact ⟨⟨j, y, rfl, fun x' k s i e' he => absurd he (hd _ _)⟩, h⟩
   . cases h
 . cases h
theorem d7K {ops : Array Oper} {slots : List D} {args : List GK} {K : Option R} (h : ∃ j y, args = [.tmp j, y] /\ ∀ x k s i e, slots.getD j .any = .v x (.own (.cell k s i) e) -> O3 (c2Y ops j) k s = true) : d2t ops slots args K = K := by
 obtain ⟨j, y, rfl, h⟩ := h
 unfold d2t
 simp only [N8]
 split
 . rename_i x a hd
   split
   . rename_i p e
     split
     . rename_i k s i
       rw [h x k s i e hd, cond_true]
     . rfl
   . rfl
 . rfl
theorem c3r {op : Op} {z : GK} {t : FP} (h : op = .load t z) : isApp op = false := by subst h; rfl
theorem c9P {op : Op} {z v : GK} {t : FP} (h : op = .store t z v) : isApp op = false := by subst h; rfl
theorem b4N {ops : Array Oper} {slots : List D} {z : GK} {K : Option R} {r : R} (h : b6p ops slots z K = some r) : (∃ j, z = .tmp j /\ ∀ k q o, slots.getD j .any = .ptr k q o -> O3 (X1 ops 20 j) k q = true) /\ K = some r := by
 unfold b6p at h
 split at h
 . rename_i j
   rw [N8] at h
   split at h
   . rename_i k q o hd
     cases hb : O3 (X1 ops 20 j) k q with
     | false => rw [hb] at h; cases h
     | true =>
       rw [hb, cond_true] at h
       refine ⟨⟨j, rfl, fun k' q' o' he => ?_⟩, h⟩
       rw [hd] at he
       injection he with e1 e2
       subst e1; subst e2
       exact hb
   . rename_i hd
     exact ⟨⟨j, rfl, fun k q o he => absurd he (hd k q o)⟩, h⟩
 . cases h
theorem a1z {cx : Cx} {ops : Array Oper} {op : Op} {slots : List D} {K : Option R} {r : R} (h : b4b cx ops op slots K = some r) : RootOK cx ops op slots /\ K = some r := by
 unfold b4b at h
 split at h
 . rename_i hd
   exact ⟨⟨fun e => (by rw [hd] at e; cases e), fun e => (by rw [hd] at e; cases e)⟩, h⟩
 . cases ha : isApp op with
   | true =>
     rw [ha, cond_true] at h
     obtain ⟨h1, h2⟩ := c9A h
     refine ⟨⟨fun _ z hz => ?_, fun _ _ => h1⟩, h2⟩
     rcases hz with ⟨t, e⟩ | ⟨t, v, e⟩
     . rw [c3r e] at ha; cases ha
     . rw [c9P e] at ha; cases ha
   | false =>
   rw [ha, cond_false] at h
   split at h
   . obtain ⟨h1, h2⟩ := b4N h
     refine ⟨⟨fun _ z hz => ?_, fun _ e => (by cases e)⟩, h2⟩
     rcases hz with ⟨t, e⟩ | ⟨t, v, e⟩
     . injection e with _ e; subst e; exact h1
     . cases e
   . obtain ⟨h1, h2⟩ := b4N h
     refine ⟨⟨fun _ z hz => ?_, fun _ e => (by cases e)⟩, h2⟩
     rcases hz with ⟨t, e⟩ | ⟨t, v, e⟩
     . cases e
     . injection e with _ e; subst e; exact h1
   . rename_i h1 h2
     refine ⟨⟨fun _ z hz => ?_, fun _ e => (by rw [ha] at e; cases e)⟩, h⟩
     rcases hz with ⟨t, e⟩ | ⟨t, v, e⟩
     . exact absurd e (h1 t z)
     . exact absurd e (h2 t z v)
theorem c1s {ops : Array Oper} {slots : List D} {j : Nat} (h : ∀ k q o, slots.getD j .any = .ptr k q o -> O3 (X1 ops 20 j) k q = true) (K : Option R) : b6p ops slots (.tmp j) K = K := by
 unfold b6p
 simp only [N8]
 split
 . rename_i k q o hd
   rw [h k q o hd, cond_true]
 . rfl
theorem c2S {cx : Cx} {ops : Array Oper} {op : Op} {slots : List D} (h : RootOK cx ops op slots) (K : Option R) : b4b cx ops op slots K = K := by
 unfold b4b
 split
 . rfl
 . rename_i hd
   cases ha : isApp op with
   | true => rw [cond_true]; exact d7K (h.app hd ha)
   | false =>
   rw [cond_false]
   split
   . rename_i t z
     obtain ⟨j, rfl, hj⟩ := h.root hd z (.inl ⟨t, rfl⟩)
     exact c1s hj K
   . rename_i t z v
     obtain ⟨j, rfl, hj⟩ := h.root hd z (.inr ⟨t, v, rfl⟩)
     exact c1s hj K
   . rfl
theorem b0v {cx : Cx} (hcx : CxOK P cx) {ops : Array Oper} {Q : Exit -> Act -> Gc -> Prop} {n : Nat} : ∀ (l : List Oper) (st : St) (a : Act) (w : Gc) (E : Env) (g : G) (K : St -> Option R) (r : R), Sim cx.T E g w st a -> a.tmps.size = n -> a8V cx ops l st K = some r ->
 (∀ st' a' w', K st' = some r -> Then cx.T E g w n st' a' w' -> Q .normal a' w') -> wpList P ops Q l a w
 | [], st, a, w, E, g, K, r, hs, hn, h, hq => hq st a w h ⟨E, g, hs, rfl, Tr.refl _ _ _, hn⟩
 | o :: l, st, a, w, E, g, K, r, hs, hn, h, hq => by
   obtain ⟨slots, m, dead⟩ := st
   unfold wpList
   obtain ⟨_, h⟩ := a1z h
   rcases b3Y hcx hs h with ⟨hw, st', h1, h2⟩ | ⟨hw, st', h1, h2⟩
   . rw [if_pos hw]
     refine .inl ((h2 (fun v w' => ∃ E' g', Sim cx.T E' g' w' st' (a.put o.dst v) /\ E'.d = E.d /\ Tr E.d g w g' w') (fun v w' g' E' b1 b2 b3 => ⟨E', g', b1, b2, b3⟩)).2 _ Q ?_)
     rintro v w' ⟨E', g', b1, b2, b3⟩
     refine b0v hcx l st' _ w' E' g' K r b1 (by rw [M1]; exact hn) h1 fun st2 a2 w2 c1 ⟨E2, g2, c2, c3, c4, c5⟩ => hq st2 a2 w2 c1 ⟨E2, g2, c2, c3.trans b2, b3.trans (by rw [← b2]; exact c4), c5⟩
   . rw [hw]
     simp only [GW, if_false]
     exact b0v hcx l st' _ w E g K r h2 (by rw [M1]; exact hn) h1 hq
theorem a1B : ∀ (c : Code) (l : Nat), D3 l c = false -> findLabel c l = none
 | .seq a b, l, h => by
   simp only [D3, GI] at h
   unfold findLabel
   rw [a1B a l h.1]
   exact a1B b l h.2
 | .label l', l, h => by
   have hne : l' ≠ l := fun e => by subst e; simp [D3] at h
   simp [findLabel, hne]
 | .skip, l, h => rfl
 | .region _ _ _, l, h => rfl
 | .cond _ _ _, l, h => rfl
 | .block _ _, l, h => rfl
 | .loop _, l, h => rfl
 | .rangeFunc _ _ _ _, l, h => rfl
 | .exit _, l, h => rfl
 | .scope _, l, h => rfl
 | .goto _, l, h => rfl
 | .ret, l, h => rfl
 | .refuse _, l, h => rfl
theorem a8h {c : Code} {Q : Exit -> Act -> Gc -> Prop} {a : Act} {w : Gc} (J : Nat -> Nat -> Act -> Gc -> Prop)
 (first : c.wp P (fun e a w => match e with | .goto l => (∃ n, J n l a w) ∨ (findLabel c l = none /\ Q (.goto l) a w) | e => Q e a w) a w)
 (pass : ∀ n l a w, J n l a w -> ∃ rest, findLabel c l = some rest /\ rest.wp P (fun e a w => match e with | .goto l => (∃ n', n' < n /\ J n' l a w) ∨ (findLabel c l = none /\ Q (.goto l) a w) | e => Q e a w) a w) : (Code.scope c).wp P Q a w := by
 intro b k cs
 have key : ∀ n l a w, J n l a w -> ∃ rest, findLabel c l = some rest /\ ∃ e a' w', Q e a' w' /\ Arrives P (lone (b.at a (.code rest :: .inScope c :: k)) cs w) b k cs e a' w' := by
  intro n
  induction n using KR with
  | _ n ih =>
    intro l a w hJ
    obtain ⟨rest, hf, hw⟩ := pass n l a w hJ
    refine ⟨rest, hf, ?_⟩
    obtain ⟨e, a₁, w₁, hq, a7S⟩ := hw b (.inScope c :: k) cs
    cases e with
    | normal => exact ⟨.normal, a₁, w₁, hq, Steps.trans a7S (.one step_inScope)⟩
    | exit id => exact ⟨.exit id, a₁, w₁, hq, fun k' hk => a7S k' (by simp [exitTo, hk])⟩
    | goto l' =>
      rcases hq with ⟨n', hlt, hJ'⟩ | ⟨hn, hq⟩
      . obtain ⟨rest', hf', e₂, a₂, w₂, hq₂, harr₂⟩ := ih n' hlt l' a₁ w₁ hJ'
        exact ⟨e₂, a₂, w₂, hq₂, .of_steps (a7S _ (by simp [gotoIn, hf'])) harr₂⟩
      . exact ⟨.goto l', a₁, w₁, hq, fun k' hk => a7S k' (by simp [gotoIn, hn, hk])⟩
    | ret => exact ⟨_, a₁, w₁, hq, a7S⟩
    | panic ch => exact ⟨_, a₁, w₁, hq, a7S⟩
    | outgrown => exact ⟨_, a₁, w₁, hq, a7S⟩
 obtain ⟨e, a₁, w₁, hq, a7S⟩ := first b (.inScope c :: k) cs
 cases e with
 | normal => exact ⟨.normal, a₁, w₁, hq, .head JF (Steps.trans a7S (.one step_inScope))⟩
 | exit id => exact ⟨.exit id, a₁, w₁, hq, fun k' hk => .head JF (a7S k' (by simp [exitTo, hk]))⟩
 | goto l' =>
   rcases hq with ⟨n', hJ'⟩ | ⟨hn, hq⟩
   . obtain ⟨rest', hf', e₂, a₂, w₂, hq₂, harr₂⟩ := key n' l' a₁ w₁ hJ'
     exact ⟨e₂, a₂, w₂, hq₂, .of_steps (.head JF (a7S _ (by simp [gotoIn, hf']))) harr₂⟩
   . exact ⟨.goto l', a₁, w₁, hq, fun k' hk => .head JF (a7S k' (by simp [gotoIn, hn, hk]))⟩
 | ret => exact ⟨_, a₁, w₁, hq, .of_steps (.one JF) a7S⟩
 | panic ch => exact ⟨_, a₁, w₁, hq, .of_steps (.one JF) a7S⟩
 | outgrown => exact ⟨_, a₁, w₁, hq, .of_steps (b := b) (k := k) (cs := cs) (e := .outgrown) (.one JF) a7S⟩
def p9 (cx : Cx) (n : Nat) (b : Code) : Prop :=
 ∀ (R : Type) (ds : List D) (m : Mem) (K : Ex -> List D -> Mem -> Option R) (r : R), cx.loopT (X3 b) ds m K = some r -> ∃ t, O9 (fun st K => codeK cx b st K) n (cx.keep (X3 b)) (cx.keepX (X3 b)) t ds m K = some r
def B8 (cx : Cx) (n : Nat) (c : Code) : Prop := ∀ b ∈ F2 c, p9 cx n b
def c0V (P : Gu) (cx : Cx) (ops : Array Oper) : Prop :=
 ∀ (R : Type) (n id : Nat) (st : St) (a : Act) (w : Gc) (E : Env) (g : G) (K : St -> Option R) (r : R) (Q : Exit -> Act -> Gc -> Prop), Sim cx.T E g w st a -> a.tmps.size = n -> a8V cx ops ops.toList st K = some r ->
  (∀ st' a' w', K st' = some r -> Then cx.T E g w n st' a' w' -> Q .normal a' w') -> (Code.region id ops true).wp P Q a w
def D6 (P : Gu) (cx : Cx) (c : Code) : Prop := ∀ ops ∈ drawnOf c, c0V P cx ops
theorem least {p : Nat -> Prop} (h : ∃ n, p n) : ∃ n, p n /\ ∀ k, p k -> n <= k := by
 obtain ⟨n, hn⟩ := h
 induction n using KR with
 | _ n ih =>
   by_cases hx : ∃ k, k < n /\ p k
   . obtain ⟨k, hk, hp⟩ := hx; exact ih k hk hp
   . refine ⟨n, hn, fun k hk => ?_⟩
     rcases Hi k n with h | h
     . exact absurd ⟨k, h, hk⟩ hx
     . exact h
theorem c9m {c : Code} {Q : Exit -> Act -> Gc -> Prop} {a : Act} {w : Gc} (I : Nat -> Act -> Gc -> Prop) (h0 : ∃ n, I n a w)
 (round : ∀ n a w, I n a w -> c.wp P (Exit.then (fun a' w' => ∃ n', n' < n /\ I n' a' w') Q) a w) : (Code.loop c).wp P Q a w := by
 have hl : ∀ a w, ∃ m, (∃ n, I n a w) -> I m a w /\ ∀ k, I k a w -> m <= k := by
  intro a w
  by_cases h : ∃ n, I n a w
  . obtain ⟨m, h1, h2⟩ := least h
    exact ⟨m, fun _ => ⟨h1, h2⟩⟩
  . exact ⟨0, fun hh => absurd hh h⟩
 let μ : Act -> Gc -> Nat := fun a w => Classical.choose (hl a w)
 have hμ : ∀ a w, (∃ n, I n a w) -> I (μ a w) a w /\ ∀ k, I k a w -> μ a w <= k := fun a w => Classical.choose_spec (hl a w)
 refine wp_loop (fun a w => ∃ n, I n a w) μ h0 fun a w hI => ?_
 obtain ⟨h1, h2⟩ := hμ a w hI
 refine Code.wp_mono (fun e a' w' q => ?_) (round _ a w h1)
 cases e with
 | normal =>
   obtain ⟨n', hlt, hn'⟩ := q
   exact ⟨⟨n', hn'⟩, Nat.lt_of_le_of_lt ((hμ a' w' ⟨n', hn'⟩).2 n' hn') hlt⟩
 | exit id => exact q
 | goto l => exact q
 | ret => exact q
 | panic ch => exact q
 | outgrown => exact q
theorem Then.trans {E' : Env} {g' : G} {w' w'' : Gc} {n : Nat} {st : St} {a : Act} (h : Then T E' g' w' n st a w'') (hd : E'.d = E.d) (ht : Tr E.d g w g' w') : Then T E g w n st a w'' := by
 obtain ⟨E2, g2, a1, a2, a3, a4⟩ := h
 exact ⟨E2, g2, a1, a2.trans hd, ht.trans (by rw [← hd]; exact a3), a4⟩
def e1L (P : Gu) (cx : Cx) (c : Code) : Prop :=
 ∀ (R : Type) (n : Nat) (st : St) (a : Act) (w : Gc) (E : Env) (g : G) (K : Ex -> St -> Option R) (r : R) (Q : Exit -> Act -> Gc -> Prop), B8 cx n c -> Sim cx.T E g w st a -> a.tmps.size = n -> codeK cx c st K = some r ->
  (∀ e st' a' w', K e st' = some r -> Then cx.T E g w n st' a' w' -> Q (d3Y e) a' w') -> c.wp P Q a w
def e2A (P : Gu) (cx : Cx) (c : Code) : Prop :=
 ∀ (R : Type) (n l : Nat) (st : St) (a : Act) (w : Gc) (E : Env) (g : G) (K : Ex -> St -> Option R) (r : R) (Q : Exit -> Act -> Gc -> Prop), B8 cx n c -> D3 l c = true -> Sim cx.T E g w st a -> a.tmps.size = n -> fromK cx l c st K = some r ->
  (∀ e st' a' w', K e st' = some r -> Then cx.T E g w n st' a' w' -> Q (d3Y e) a' w') -> ∃ rest, findLabel c l = some rest /\ rest.wp P Q a w
theorem a8U {Q : Exit -> Act -> Gc -> Prop} {x : Code} {a : Act} {w : Gc} {next : Act -> Gc -> Prop} (h : x.wp P (fun e a w => match e with | .normal => next a w | e => Q e a w) a w) : x.wp P (Exit.then next Q) a w :=
 Code.wp_mono (fun e a w q => by cases e <;> exact q) h
theorem a8f {cx : Cx} (hcx : CxOK P cx) : ∀ (c : Code), D6 P cx c -> e1L P cx c /\ e2A P cx c := by
 intro c
 induction c with
 | skip => exact fun _ => ⟨fun R n st a w E g K r Q hl hs hn h hq => wp_skip (hq _ st a w h ⟨E, g, hs, rfl, Tr.refl _ _ _, hn⟩), fun R n l st a w E g K r Q hl hh => by simp [D3] at hh⟩
 | region id ops draw =>
   intro hro
   refine ⟨fun R n st a w E g K r Q hl hs hn h hq => ?_, fun R n l st a w E g K r Q hl hh => by simp [D3] at hh⟩
   simp only [codeK] at h
   have a9k : ∀ st' a' w', (b1L st' fun st' => K .normal st') = some r -> Then cx.T E g w n st' a' w' -> Q .normal a' w' := by
    rintro st' a' w' hk ⟨E', g', b1, b2, b3, b4⟩
    obtain ⟨st2, g2, c1, c2, c3, _⟩ := c2n b1 hk
    exact hq .normal st2 a' w' c1 ⟨E', g2, c2, b2, b3.trans (by rw [← b2]; exact c3), b4⟩
   cases draw with
   | false => exact wp_region_list (b0v hcx ops.toList st a w E g _ r hs hn h a9k)
   | true => exact hro ops (by simp [drawnOf]) R n id st a w E g _ r Q hs hn h a9k
 | seq x y ihx ihy =>
   intro hro
   have hrx : D6 P cx x := fun o ho => hro o (by simp [drawnOf, ho])
   have hry : D6 P cx y := fun o ho => hro o (by simp [drawnOf, ho])
   refine ⟨fun R n st a w E g K r Q hl hs hn h hq => ?_, fun R n l st a w E g K r Q hl hh hs hn h hq => ?_⟩
   . have hlx : B8 cx n x := fun b hb => hl b (by simp [F2, hb])
     have hly : B8 cx n y := fun b hb => hl b (by simp [F2, hb])
     simp only [codeK] at h
     refine wp_seq (a8U ((ihx hrx).1 R n st a w E g _ r _ hlx hs hn h fun e st' a' w' hk ht => ?_))
     cases e with
     | normal =>
       obtain ⟨E', g', b1, b2, b3, b4⟩ := ht
       exact (ihy hry).1 R n st' a' w' E' g' K r Q hly b1 b4 hk fun e st2 a2 w2 c1 c2 => hq e st2 a2 w2 c1 (c2.trans b2 b3)
     | exit i => exact hq _ st' a' w' hk ht
     | goto i => exact hq _ st' a' w' hk ht
     | ret => exact hq _ st' a' w' hk ht
   . have hlx : B8 cx n x := fun b hb => hl b (by simp [F2, hb])
     have hly : B8 cx n y := fun b hb => hl b (by simp [F2, hb])
     simp only [fromK] at h
     cases hlx' : D3 l x with
     | true =>
       rw [hlx', cond_true] at h
       obtain ⟨rest, h1, h2⟩ := (ihx hrx).2 R n l st a w E g _ r (fun e a w => match e with | .normal => y.wp P Q a w | e => Q e a w) hlx hlx' hs hn h fun e st' a' w' hk ht => by
        cases e with
        | normal =>
          obtain ⟨E', g', b1, b2, b3, b4⟩ := ht
          exact (ihy hry).1 R n st' a' w' E' g' K r Q hly b1 b4 hk fun e st2 a2 w2 c1 c2 => hq e st2 a2 w2 c1 (c2.trans b2 b3)
        | exit i => exact hq _ st' a' w' hk ht
        | goto i => exact hq _ st' a' w' hk ht
        | ret => exact hq _ st' a' w' hk ht
       exact ⟨.seq rest y, by simp [findLabel, h1], wp_seq (a8U h2)⟩
     | false =>
       rw [hlx', cond_false] at h
       have hly' : D3 l y = true := by simpa [D3, hlx'] using hh
       obtain ⟨rest, h1, h2⟩ := (ihy hry).2 R n l st a w E g K r Q hly hly' hs hn h hq
       exact ⟨rest, by simp [findLabel, a1B x l hlx', h1], h2⟩
 | cond c x y ihx ihy =>
   intro hro
   have hrx : D6 P cx x := fun o ho => hro o (by simp [drawnOf, ho])
   have hry : D6 P cx y := fun o ho => hro o (by simp [drawnOf, ho])
   refine ⟨fun R n st a w E g K r Q hl hs hn h hq => ?_, fun R n l st a w E g K r Q hl hh => by simp [D3] at hh⟩
   have hlx : B8 cx n x := fun b hb => hl b (by simp [F2, hb])
   have hly : B8 cx n y := fun b hb => hl b (by simp [F2, hb])
   obtain ⟨slots, mem, dead⟩ := st
   simp only [codeK] at h
   split at h
   . rename_i heq
     cases heq
     rename_i t
     simp only [N8, a2c] at h
     generalize hx : slots.getD t .any = dx at h
     cases dx <;> simp only [reduceCtorEq] at h
     rename_i v0 at_
     cases v0 <;> simp only [V.unBool, reduceCtorEq] at h
     rename_i b
     have c8X : slots.set t (.v (.bool b) at_) = slots := a6K hx (by simp)
     have hev : a.eval (.tmp t) = .bool b := by
      have := hs.slots.ev (T := cx.T) 0 (.tmp t)
      simp only [G5, hx] at this
      exact this.bool_inv
     cases b
     . simp only [br, cond_false, c8X] at h
       exact MU hev ((ihy hry).1 R n _ a w E g K r Q hly hs hn h hq)
     . simp only [br, cond_true, c8X] at h
       exact wp_cond_true hev ((ihx hrx).1 R n _ a w E g K r Q hlx hs hn h hq)
   . rename_i heq
     cases heq
     rename_i v
     cases v
     . exact MU rfl ((ihy hry).1 R n _ a w E g K r Q hly hs hn h hq)
     . exact wp_cond_true rfl ((ihx hrx).1 R n _ a w E g K r Q hlx hs hn h hq)
   . cases h
 | block id x ih =>
   intro hro
   have hrx : D6 P cx x := fun o ho => hro o (by simpa [drawnOf] using ho)
   refine ⟨fun R n st a w E g K r Q hl hs hn h hq => ?_, fun R n l st a w E g K r Q hl hh => by simp [D3] at hh⟩
   simp only [codeK] at h
   refine wp_block ((ih hrx).1 R n st a w E g _ r _ (fun b hb => hl b (by simpa [F2] using hb)) hs hn h fun e st' a' w' hk ht => ?_)
   cases e with
   | normal => exact hq .normal st' a' w' hk ht
   | exit i =>
     simp only [d3Y, Exit.inBlock]
     simp only at hk
     by_cases hi : i = id
     . subst hi
       simp only [KD, cond_true] at hk
       rw [if_pos rfl]; exact hq .normal st' a' w' hk ht
     . rw [a7L hi] at hk
       rw [if_neg hi]; exact hq (.exit i) st' a' w' hk ht
   | goto i => exact hq (.goto i) st' a' w' hk ht
   | ret => exact hq .ret st' a' w' hk ht
 | loop x ih =>
   intro hro
   have hrx : D6 P cx x := fun o ho => hro o (by simpa [drawnOf] using ho)
   refine ⟨fun R n st a w E g K r Q hl hs hn h hq => ?_, fun R n l st a w E g K r Q hl hh => by simp [D3] at hh⟩
   obtain ⟨slots, mem, dead⟩ := st
   simp only [codeK] at h
   have hsn : slots.length = n := by rw [← hn]; exact hs.size.symm
   rw [hsn] at h
   obtain ⟨ds, m', g', E', h1, h2, h3, h4⟩ := a7y hs h
   rw [hsn] at h2
   obtain ⟨t, h5⟩ := hl x (by simp [F2]) R ds m' _ r h1
   refine c9m (fun t a w' => ∃ ds m E' g', O9 (fun st K => codeK cx x st K) n (cx.keep (X3 x)) (cx.keepX (X3 x)) t ds m (fun e ds m => a0k n 0 (cx.keepX (X3 x)) ds fun slots => K e ⟨slots, m, []⟩) = some r /\ Sim cx.T E' g' w' ⟨J0 n 0 (cx.keep (X3 x)) ds, m, []⟩ a /\ E'.d = E.d /\ Tr E.d g w g' w' /\ a.tmps.size = n) ⟨t, ds, m', E', g', h5, h2, h3, h4, hn⟩ ?_
   rintro t a1 w1 ⟨ds1, m1, E1, g1, k1, k2, k3, k4, k5⟩
   cases t with
   | zero => cases k1
   | succ t =>
     simp only [O9, W3, a1C] at k1
     refine a8U ((ih hrx).1 R n _ a1 w1 E1 g1 _ r _ (fun b hb => hl b (by simp [F2, hb])) k2 k5 k1 fun e st' a' w' hk ht => ?_)
     obtain ⟨E2, g2, b1, b2, b3, b4⟩ := ht
     obtain ⟨slots', mem', dead'⟩ := st'
     have hsn' : slots'.length = n := by rw [← b4]; exact b1.size.symm
     have htr : Tr E.d g w g2 w' := k4.trans (by rw [← k3]; exact b3)
     -- an end of the loop
     have out : ∀ e', (b7e (cx.keepX (X3 x)) ⟨slots', mem', dead'⟩ fun ds m => K e' ⟨J0 n 0 (cx.keepX (X3 x)) ds, m, []⟩) = some r -> Q (d3Y e') a' w' := by
      intro e' hk
      obtain ⟨ds3, m3, g3, E3, c1, c2, c3, c4⟩ := a7y b1 hk
      rw [hsn'] at c2
      exact hq e' _ a' w' c1 ⟨E3, g3, c2, by rw [c3, b2, k3], htr.trans (by rw [← k3, ← b2]; exact c4), b4⟩
     cases e with
     | normal =>
       obtain ⟨ds3, m3, g3, E3, c1, c2, c3, c4⟩ := a7y b1 hk
       rw [hsn'] at c2
       exact ⟨t, KA t, ds3, m3, E3, g3, by simp only [a1C]; exact c1, c2, by rw [c3, b2, k3], htr.trans (by rw [← k3, ← b2]; exact c4), b4⟩
     | exit i => exact out _ hk
     | goto i => exact out _ hk
     | ret => exact out _ hk
 | rangeFunc f ps qs b _ _ => exact fun _ => ⟨fun R n st a w E g K r Q hl hs hn h hq => by simp [codeK] at h, fun R n l st a w E g K r Q hl hh => by simp [D3] at hh⟩
 | exit id => exact fun _ => ⟨fun R n st a w E g K r Q hl hs hn h hq => wp_exit (hq (.exit id) st a w h ⟨E, g, hs, rfl, Tr.refl _ _ _, hn⟩), fun R n l st a w E g K r Q hl hh => by simp [D3] at hh⟩
 | scope x ih =>
   intro hro
   have hrx : D6 P cx x := fun o ho => hro o (by simpa [drawnOf] using ho)
   refine ⟨fun R n st a w E g K r Q hl hs hn h hq => ?_, fun R n l st a w E g K r Q hl hh => by simp [D3] at hh⟩
   have hlx : B8 cx n x := fun b hb => hl b (by simpa [F2] using hb)
   simp only [codeK] at h
   refine a8h (fun t l a' w' => ∃ st' E' g', c7h (fun l st K => fromK cx l x st K) (fun l => D3 l x) t l st' K = some r /\ D3 l x = true /\ Sim cx.T E' g' w' st' a' /\ E'.d = E.d /\ Tr E.d g w g' w' /\ a'.tmps.size = n) ?_ ?_
   . refine (ih hrx).1 R n st a w E g _ r _ hlx hs hn h fun e st' a' w' hk ht => ?_
     cases e with
     | normal => exact hq _ st' a' w' hk ht
     | exit i => exact hq _ st' a' w' hk ht
     | ret => exact hq _ st' a' w' hk ht
     | goto l =>
       simp only at hk
       obtain ⟨E2, g2, b1, b2, b3, b4⟩ := ht
       cases hh : D3 l x with
       | true => rw [hh] at hk; exact .inl ⟨_, st', E2, g2, hk, hh, b1, b2, b3, b4⟩
       | false => rw [hh] at hk; exact .inr ⟨a1B x l hh, hq (.goto l) st' a' w' hk ⟨E2, g2, b1, b2, b3, b4⟩⟩
   . rintro t l a1 w1 ⟨st1, E1, g1, k1, k2, k3, k4, k5, k6⟩
     cases t with
     | zero => cases k1
     | succ t =>
       simp only [c7h] at k1
       refine (ih hrx).2 R n l st1 a1 w1 E1 g1 _ r _ hlx k2 k3 k6 k1 fun e st' a' w' hk ht => ?_
       have ht' := ht.trans k4 k5
       cases e with
       | normal => exact hq _ st' a' w' hk ht'
       | exit i => exact hq _ st' a' w' hk ht'
       | ret => exact hq _ st' a' w' hk ht'
       | goto l' =>
         simp only at hk
         obtain ⟨E2, g2, b1, b2, b3, b4⟩ := ht'
         cases hh : D3 l' x with
         | true => rw [hh] at hk; exact .inl ⟨t, KA t, st', E2, g2, hk, hh, b1, b2, b3, b4⟩
         | false => rw [hh] at hk; exact .inr ⟨a1B x l' hh, hq (.goto l') st' a' w' hk ⟨E2, g2, b1, b2, b3, b4⟩⟩
 | label l0 =>
   exact fun _ => ⟨fun R n st a w E g K r Q hl hs hn h hq => wp_label (hq .normal st a w h ⟨E, g, hs, rfl, Tr.refl _ _ _, hn⟩), fun R n l st a w E g K r Q hl hh hs hn h hq => ⟨.skip, by
    have := FM hh
    subst this
    simp [findLabel], wp_skip (hq .normal st a w h ⟨E, g, hs, rfl, Tr.refl _ _ _, hn⟩)⟩⟩
 | goto l => exact fun _ => ⟨fun R n st a w E g K r Q hl hs hn h hq => wp_goto (hq (.goto l) st a w h ⟨E, g, hs, rfl, Tr.refl _ _ _, hn⟩), fun R n l st a w E g K r Q hl hh => by simp [D3] at hh⟩
 | ret => exact fun _ => ⟨fun R n st a w E g K r Q hl hs hn h hq => wp_ret (hq .ret st a w h ⟨E, g, hs, rfl, Tr.refl _ _ _, hn⟩), fun R n l st a w E g K r Q hl hh => by simp [D3] at hh⟩
 | refuse why => exact fun _ => ⟨fun R n st a w E g K r Q hl hs hn h hq => by simp [codeK] at h, fun R n l st a w E g K r Q hl hh => by simp [D3] at hh⟩
end
end En
namespace En
open Go
def a2l (ops : Array Oper) (o : Oper) : List GK -> Nat
 | [] => (match o.guard with | some (j, _) => (match a4w ops j with | some s => 1 <<< s | none => 0) | none => 0)
 | x :: r => (match x with | .tmp t => (1 <<< t) ||| a2l ops o r | _ => a2l ops o r)
def d1U (o : Oper) : Nat := match o.dst with | some s => 1 <<< s | none => 0
def a5l : Cls -> Cls -> Bool
 | .c, _ => true
 | _, .c => true
 | .n, _ => false
 | _, .n => false
 | .r, .r => false
 | .r, .a => false
 | .a, .r => false
 | .s, .r => false
 | .r, .s => false
 | .s, .s => false
 | _, _ => true
def e4F (ops : Array Oper) (a b : Op) : Bool :=
 match a, b with
 | .load _ (.tmp i), .store _ (.tmp j) _ => !FZ (X1 ops 20 i) (X1 ops 20 j)
 | .store _ (.tmp j) _, .load _ (.tmp i) => !FZ (X1 ops 20 i) (X1 ops 20 j)
 | _, _ => false
def e0b (op : Op) : Bool := match op with | .load _ (.tmp _) => true | _ => false
def ldR (ops : Array Oper) (a : Op) : Nat := match a with | .load _ (.tmp i) => X1 ops 20 i | _ => 0
def e2y (op : Op) : Bool := match op with | .alloc _ => true | _ => false
def c4M (ops : Array Oper) (a b : Op) : Bool := (e2y a && e2y b) || e4F ops a b || ((e0b a && (isApp b && !FZ (ldR ops a) (c5r ops b))) || (isApp a && (e0b b && !FZ (ldR ops b) (c5r ops a))))
def c9f (o : Oper) : Bool := match o.op with | .move (.tmp _) => (match o.guard with | none => true | some _ => false) | _ => false
def noG (o : Oper) : Bool := match o.guard with | none => true | some _ => false
def c5o (ops : Array Oper) (cx : Cx) (a b : Oper) : Bool :=
 (!a5l (E8 cx a.op) (E8 cx b.op) || ((cx.dyn && c4M ops a.op b.op) || (c9f a && noG b))) && FZ (d1U a &&& (a2l ops b b.op.operands.toList ||| d1U b)) 0 && FZ (d1U b &&& a2l ops a a.op.operands.toList) 0
def a1j (acc : List Nat) : List Edge -> Nat
 | [] => 0
 | e :: r => cond (Ik .any e) ((1 <<< e.on) ||| (acc.getD e.on 0 ||| a1j acc r)) (a1j acc r)
def c8E (i : Nat) : List Edge -> Bool
 | [] => true
 | e :: r => (!Ik .any e || GS e.on i) && c8E i r
def d9N (ops : Array Oper) (cx : Cx) (o : Oper) (a : Nat) : Nat -> List Oper -> Bool
 | _, [] => true
 | j, p :: ps => (NW a j || c5o ops cx p o) && d9N ops cx o a (j + 1) ps
def d7X (ops : Array Oper) (cx : Cx) : List Oper -> List Oper -> List Nat -> Bool
 | [], _, _ => true
 | o :: r, prev, acc => c8E prev.length o.after.toList && d9N ops cx o (a1j acc o.after.toList) 0 prev && d7X ops cx r (prev ++ [o]) (acc ++ [a1j acc o.after.toList])
def a3R (cx : Cx) (ops : Array Oper) : Bool := d7X ops cx ops.toList [] []
theorem c0c {a b : Nat} (h : a &&& b = 0) (t : Nat) (ha : a.testBit t = true) : b.testBit t = false := by
 have := congrArg (fun n => NW n t) h
 simpa [ha] using this
theorem a9q (ops : Array Oper) (o : Oper) (t : Nat) : ∀ l : List GK, .tmp t ∈ l -> (a2l ops o l).testBit t = true
 | [], h => by cases h
 | x :: r, h => by
   rcases GH.1 h with h | h
   . subst h; simp [a2l, Ja]
   . have := a9q ops o t r h
     unfold a2l
     split <;> simp [Ja, this]
theorem a3W (ops : Array Oper) (o : Oper) {j : Nat} {w : Bool} {s : Nat} (hg : o.guard = some (j, w)) (hd : a4w ops j = some s) : ∀ l : List GK, (a2l ops o l).testBit s = true
 | [] => by simp [a2l, hg, hd]
 | x :: r => by
   have := a3W ops o hg hd r
   unfold a2l
   split <;> simp [Ja, this]
theorem a3f {o : Oper} {s : Nat} (h : o.dst = some s) : (d1U o).testBit s = true := by simp [d1U, h]
structure Apart (ops : Array Oper) (cx : Cx) (a b : Oper) : Prop where
 cls : a5l (E8 cx a.op) (E8 cx b.op) = false ∨ (cx.dyn = true /\ c4M ops a.op b.op = true) ∨ (c9f a = true /\ noG b = true)
 ab : ∀ s, a.dst = some s -> Away ops s b
 ba : ∀ s, b.dst = some s -> Away ops s a
theorem d5J {ops : Array Oper} {cx : Cx} {a b : Oper} (h : c5o ops cx a b = true) : Apart ops cx a b := by
 unfold c5o at h
 simp only [FT, Ih, Ha] at h
 obtain ⟨⟨h1, h2⟩, h3⟩ := h
 have h2 := FM h2
 have h3 := FM h3
 refine ⟨h1, fun s hs => ?_, fun s hs => ?_⟩
 . have := c0c h2 s (a3f hs)
   simp only [Ja, GI] at this
   refine ⟨fun z hz e => ?_, fun j w t hg hd e => ?_, fun e => ?_⟩
   . subst e; rw [a9q ops b s _ hz] at this; cases this.1
   . subst e; rw [a3W ops b hg hd] at this; cases this.1
   . rw [a3f e] at this; cases this.2
 . have := c0c h3 s (a3f hs)
   refine ⟨fun z hz e => ?_, fun j w t hg hd e => ?_, fun e => ?_⟩
   . subst e; rw [a9q ops a s _ hz] at this; cases this
   . subst e; rw [a3W ops a hg hd] at this; cases this
   . have h4 := c0c h2 s (a3f e)
     simp only [Ja, GI] at h4
     rw [a3f hs] at h4; cases h4.2
theorem b5v {i : Nat} : ∀ (l : List Edge), c8E i l = true -> ∀ e ∈ l, Ik .any e = true -> e.on < i
 | [], _, e, he => by cases he
 | x :: r, h, e, he => by
   simp only [c8E, FT, Ih, Ha] at h
   intro hb
   rcases GH.1 he with rfl | he
   . rcases h.1 with h1 | h1
     . rw [hb] at h1; cases h1
     . exact Nat.lt_of_lt_of_le (KA _) (Gm h1)
   . exact b5v r h.2 e he hb
theorem b0I (L : Nat -> Prop) (acc : List Nat) : ∀ (l : List Edge), (∀ e ∈ l, Ik .any e = true -> L e.on /\ ∀ j, (acc.getD e.on 0).testBit j = true -> L j) -> ∀ j, (a1j acc l).testBit j = true -> L j
 | [], _, j, h => by simp [a1j] at h
 | e :: r, hl, j, h => by
   unfold a1j at h
   have ih := b0I L acc r (fun e he => hl e (by simp [he])) j
   cases hb : Ik .any e with
   | false => rw [hb] at h; exact ih h
   | true =>
     rw [hb, cond_true] at h
     obtain ⟨h1, h2⟩ := hl e (by simp) hb
     simp only [Ja, Ih] at h
     rcases h with h | h | h
     . have : j = e.on := by
        rw [Nat.one_shiftLeft, Nat.testBit_two_pow] at h
        simpa using (of_decide_eq_true h).symm
       rw [this]; exact h1
     . exact h2 j h
     . exact ih h
theorem b6L {ops : Array Oper} {cx : Cx} {o : Oper} {a : Nat} : ∀ (l : List Oper) (k : Nat), d9N ops cx o a k l = true -> ∀ j p, l[j]? = some p -> a.testBit (k + j) = true ∨ Apart ops cx p o
 | [], k, _, j, p, hp => by simp at hp
 | x :: r, k, h, j, p, hp => by
   simp only [d9N, FT, Ih] at h
   rcases j with _ | j
   . simp at hp; subst hp
     rcases h.1 with h1 | h1
     . exact .inl h1
     . exact .inr (d5J h1)
   . have := b6L r (k + 1) h.2 j p (by simpa using hp)
     rwa [show k + 1 + j = k + (j + 1) by omega] at this
structure Ordered (ops : Array Oper) (cx : Cx) (l : List Oper) (acc : List Nat) : Prop where
 len : acc.length = l.length
 back : ∀ (i : Nat) o, l[i]? = some o -> ∀ e ∈ o.after, Ik .any e = true -> e.on < i
 ahead : ∀ (L : Nat -> Prop), (∀ (i : Nat) o, l[i]? = some o -> L i -> ∀ e ∈ o.after, Ik .any e = true -> L e.on) -> ∀ (i : Nat) o, l[i]? = some o -> (∀ e ∈ o.after, Ik .any e = true -> L e.on) -> ∀ j, (acc.getD i 0).testBit j = true -> L j
 pair : ∀ (i j : Nat) o p, l[i]? = some o -> l[j]? = some p -> j < i -> (acc.getD i 0).testBit j = true ∨ Apart ops cx p o
theorem b6D {ops : Array Oper} {cx : Cx} : ∀ (l prev : List Oper) (acc : List Nat), Ordered ops cx prev acc -> d7X ops cx l prev acc = true -> ∃ acc', Ordered ops cx (prev ++ l) acc'
 | [], prev, acc, ho, _ => ⟨acc, by simpa using ho⟩
 | o :: r, prev, acc, ho, h => by
   simp only [d7X, FT] at h
   obtain ⟨⟨h1, h2⟩, h3⟩ := h
   have key : Ordered ops cx (prev ++ [o]) (acc ++ [a1j acc o.after.toList]) := by
    have get : ∀ {i : Nat} {x : Oper}, (prev ++ [o])[i]? = some x -> prev[i]? = some x ∨ (i = prev.length /\ x = o) := by
     intro i x hx
     rcases Hi i prev.length with hl | hl
     . rw [Gh hl] at hx; exact .inl hx
     . rw [Gk hl] at hx
       have : i - prev.length = 0 := by
        rcases GJ (i - prev.length) with h0 | h0
        . exact h0
        . rw [List.getElem?_eq_none (by simp; omega)] at hx; cases hx
       rw [this] at hx; simp at hx
       exact .inr ⟨by omega, hx.symm⟩
    have hlt : ∀ {i : Nat} {x : Oper}, prev[i]? = some x -> i < prev.length := fun hx => (FN.1 hx).1
    have ga : ∀ {i : Nat}, i < prev.length -> (acc ++ [a1j acc o.after.toList]).getD i 0 = acc.getD i 0 := by
     intro i hi
     rw [FV, Gh (by rw [ho.len]; exact hi), ← FV]
    have gl : (acc ++ [a1j acc o.after.toList]).getD prev.length 0 = a1j acc o.after.toList := by
     rw [FV, Gk (by rw [ho.len]; exact FW _), ho.len]; simp
    have hb := b5v _ h1
    refine ⟨by simp [ho.len], fun i x hx => ?_, fun L hL i x hx hw j hj => ?_, fun i j x p hx hp hji => ?_⟩
    . rcases get hx with hx | ⟨rfl, rfl⟩
      . exact ho.back i x hx
      . exact fun e he hbd => hb e (by simpa using he) hbd
    . have hL' : ∀ (i : Nat) o, prev[i]? = some o -> L i -> ∀ e ∈ o.after, Ik .any e = true -> L e.on := fun i y hy => hL i y (by rw [Gh (hlt hy)]; exact hy)
      rcases get hx with hx | ⟨rfl, rfl⟩
      . rw [ga (hlt hx)] at hj
        exact ho.ahead L hL' i x hx hw j hj
      . rw [gl] at hj
        refine b0I L acc _ (fun e he hbd => ?_) j hj
        have he' : e ∈ x.after := by simpa using he
        have hlt' := hb e he hbd
        refine ⟨hw e he' hbd, ?_⟩
        have hy : prev[e.on]? = some prev[e.on] := FQ hlt'
        exact ho.ahead L hL' e.on _ hy (hL' e.on _ hy (hw e he' hbd))
    . rcases get hx with hx1 | ⟨rfl, rfl⟩
      . rw [ga (hlt hx1)]
        rcases get hp with hp | ⟨rfl, rfl⟩
        . exact ho.pair i j x p hx1 hp hji
        . have := hlt hx1; omega
      . rw [gl]
        rcases get hp with hp | ⟨rfl, rfl⟩
        . have := b6L prev 0 h2 j p hp
          rwa [GL] at this
        . omega
   obtain ⟨acc', ha⟩ := b6D r _ _ key h3
   exact ⟨acc', by simpa using ha⟩
theorem c5P {ops : Array Oper} {cx : Cx} (h : a3R cx ops = true) : ∃ acc, Ordered ops cx ops.toList acc := by
 have h0 : Ordered ops cx [] [] := ⟨rfl, fun i o ho => by simp at ho, fun L _ i o ho => by simp at ho, fun i j o p ho => by simp at ho⟩
 simpa using b6D ops.toList [] [] h0 h
section
variable {R : Type} {cx : Cx} {ops : Array Oper}
def Good (cx : Cx) (i : Oper) (slots : List D) (m : Mem) : Prop := ∀ t z, i.op = .load t z -> ∀ k s o, glob z (G5 cx.T slots 0 z) = .ptr k s o -> ∃ b, m.box? k s = some b
def Grown (m m' : Mem) : Prop := ∀ k s b, m.box? k s = some b -> m'.box? k s = some b
theorem Good.put {x i : Oper} {slots : List D} {m m' : Mem} (h : Good cx i slots m) (hx : ∀ s, x.dst = some s -> Away ops s i) (hm : Grown m m') (d : D) : Good cx i (put slots x.dst d) m' := by
 intro t z hz k s o he
 have : G5 cx.T (En.put slots x.dst d) 0 z = G5 cx.T slots 0 z := by
  cases hd : x.dst with
  | none => rfl
  | some y => exact C4 slots y _ 0 z ((hx y hd).reads z (by rw [hz]; simp [GB]))
 rw [this] at he
 obtain ⟨b, hb⟩ := h t z hz k s o he
 exact ⟨b, hm _ _ _ hb⟩
def isA (cx : Cx) (op : Op) : Bool := match E8 cx op with | .a => true | _ => false
theorem d0B {op : Op} (h : isA cx op = true) : ∃ t, op = .alloc t := by
 unfold isA E8 at h
 split at h <;> try cases h
 all_goals rename_i heq
 all_goals split at heq
 all_goals first | exact ⟨_, rfl⟩ | cases heq | (split at heq <;> first | cases heq | (split at heq <;> first | cases heq | (rw [GF] at heq; split at heq <;> cases heq)))
theorem c3B {T : FP -> Option Ty} {dst : Nat} {oty t : FP} {slots : List D} {m : Mem} {dead : List Pos} {d : D} {m' : Mem} {dd : List Pos}
 (h : opK T dst oty slots (.alloc t) m dead (fun d m dd => some (d, m, dd)) = some (d, m', dd)) : Grown m m' := by
 simp only [opK] at h
 split at h
 . unfold T2 at h
   split at h
   . rename_i fr out
     split at h
     . rename_i hn
       obtain ⟨cs, d2, h⟩ := a3O _ _ _ _ _ h
       rw [I7] at h
       injection h with h
       injection h with h0 h
       injection h with h1 h2
       subst h1
       intro k s b hb
       rw [I8, if_neg]
       . exact hb
       . rintro ⟨rfl, rfl, _⟩
         simp only [Mem.box?] at hb
         rw [hn] at hb; cases hb
     . cases h
   . cases h
 . cases h
theorem a7f (hB : PureB cx) {x : Oper} (hx : isVal cx x.op = true ∨ isA cx x.op = true) {slots : List D} {m : Mem} {dead : List Pos} {d : D} {m' : Mem} {dd : List Pos}
 (h : ∀ (R' : Type) (K' : St -> Option R'), C6 cx ops x ⟨slots, m, dead⟩ K' = K' ⟨put slots x.dst d, m', dd⟩) : Grown m m' := by
 have h1 := h St some
 rcases hx with hx | hx
 . rw [G4 hB hx] at h1
   obtain ⟨e, _, h2⟩ := bind_some h1
   injection h2 with h2; injection h2 with _ h2 _; subst h2
   exact fun _ _ _ hb => hb
 . obtain ⟨t, ht⟩ := d0B hx
   rw [L3] at h1
   cases hw : W7 ops x slots with
   | none => rw [hw] at h1; cases h1
   | some b =>
     rw [hw] at h1
     cases b
     . simp only [a1L, Q2] at h1
       injection h1 with h2; injection h2 with _ h2 _; subst h2
       exact fun _ _ _ hb => hb
     . simp only [a1L] at h1
       rw [S4 x (by simp [S1, ht, E8])] at h1
       have hr : ∀ (R' : Type) (K' : Bool -> D -> Mem -> List Pos -> Option R'), runK cx x slots m dead K' = opK cx.T (x.dst.getD 0) x.type slots (.alloc t) m dead (K' false) := by
        intro R' K'; unfold runK; rw [ht]
       rw [hr, ← c3w cx] at h1
       obtain ⟨p, h3, h4⟩ := bind_some h1
       injection h4 with h4; injection h4 with _ h4 _
       obtain ⟨p1, p2, p3⟩ := p
       simp only at h4; subst h4
       exact c3B h3
theorem c3E {T : FP -> Option Ty} {t : FP} {a : D} {m m' : Mem} (hm : Grown m m') (hg : ∀ k s o, a = .ptr k s o -> ∃ b, m.box? k s = some b) (K : D -> Option R) : a0J T t a m' K = a0J T t a m K := by
 unfold a0J
 split
 . split
   . rename_i k s o
     obtain ⟨b, hb⟩ := hg k s o rfl
     rw [hb, hm _ _ _ hb]
   . rfl
   . rfl
 . rfl
theorem c9o {T : FP -> Option Ty} {t : FP} {m : Mem} {k s o : Nat} {K : D -> Option R} {r : R} (h : a0J T t (.ptr k s o) m K = some r) : ∃ b, m.box? k s = some b := by
 unfold a0J at h
 split at h
 . simp only at h
   split at h
   . rename_i b hb; exact ⟨b, hb⟩
   . cases h
 . cases h
def c1o (cx : Cx) (op : Op) : Bool := match E8 cx op with | .n => true | .r => true | _ => false
theorem a1R {op : Op} (h : c1o cx op = true) : isVal cx op = true := by
 unfold c1o at h; unfold isVal; cases hc : E8 cx op <;> simp [hc] at h ⊢
theorem d1p {op : Op} (h : c1o cx op = true) : isN cx op = true ∨ ∃ t z, op = .load t z := by
 unfold c1o at h
 unfold isN
 cases hc : E8 cx op with
 | n => exact .inl rfl
 | r =>
   refine .inr ?_
   unfold E8 at hc
   split at hc <;> try cases hc
   . exact ⟨_, _, rfl⟩
   . split at hc <;> first | cases hc | (split at hc <;> first | cases hc | (rw [GF] at hc; split at hc <;> cases hc))
 | _ => rw [hc] at h; cases h
theorem a2N {o : Oper} {t : FP} {z : GK} (hz : o.op = .load t z) (slots : List D) (m : Mem) : b5I cx o slots m = a0J cx.T t (glob z (G5 cx.T slots 0 z)) m some := by
 unfold b5I runK
 rw [hz]
 simp only [opK, J3]
theorem b5e {i : Oper} (hi : c1o cx i.op = true) {slots : List D} {m m' : Mem} (hm : Grown m m') (hg : Good cx i slots m) : W5 cx ops i slots m' = W5 cx ops i slots m := by
 rcases d1p hi with h | ⟨t, z, hz⟩
 . exact a7X h _ _ _
 . unfold W5
   rw [a2N hz, a2N hz, c3E hm (hg t z hz)]
theorem c3n {i : Oper} {slots : List D} {m : Mem} {d : D} (hw : W7 ops i slots = some true) (h : W5 cx ops i slots m = some d) : Good cx i slots m := by
 intro t z hz k s o he
 unfold W5 at h
 rw [hw] at h
 simp only [a2N hz, he] at h
 exact c9o h
theorem b6c {a b : Op} (h : a5l (E8 cx a) (E8 cx b) = false) :
 S1 cx a = true /\ S1 cx b = true /\ (isN cx a = true ∨ isN cx b = true ∨ (isVal cx a = true /\ isVal cx b = true) ∨ (c1o cx a = true /\ isA cx b = true) ∨ (isA cx a = true /\ c1o cx b = true)) := by
 unfold S1 isN isVal c1o isA
 cases ha : E8 cx a <;> cases hb : E8 cx b <;> rw [ha, hb] at h <;> simp [a5l] at h ⊢
theorem e4b (hB : PureB cx) {x i : Oper} (ha : Apart ops cx x i) (e7d : a5l (E8 cx x.op) (E8 cx i.op) = false) {slots : List D} {m : Mem} {dead : List Pos} (hg : Good cx i slots m) {K : St -> Option R} {r : R}
 (h : C6 cx ops x ⟨slots, m, dead⟩ (fun s => C6 cx ops i s K) = some r) : C6 cx ops i ⟨slots, m, dead⟩ (fun s => C6 cx ops x s K) = some r := by
 obtain ⟨hcx, hci, hcl⟩ := b6c e7d
 have d1t : isN cx i.op = true -> C6 cx ops i ⟨slots, m, dead⟩ (fun s => C6 cx ops x s K) = some r := by
  intro hn
  obtain ⟨d, m', dd, h1, h2⟩ := S7 hB hcx h
  rw [G4 hB (a7D hn)] at h1
  obtain ⟨e, h3, h4⟩ := bind_some h1
  rw [W0 ha.ab, a7X hn _ _ m] at h3
  rw [← c9M hB hcx (a7D hn) ha.ab ha.ba (.inl hn) slots m dead K h3]
  exact h
 have e1t : isVal cx x.op = true -> isN cx x.op = true ∨ isVal cx i.op = true -> C6 cx ops i ⟨slots, m, dead⟩ (fun s => C6 cx ops x s K) = some r := by
  intro hv hn
  rcases d1z hB hv hci ha.ab ha.ba hn slots m dead K with h1 | h1
  . rw [← h1]; exact h
  . rw [h1] at h; cases h
 rcases hcl with hn | hn | ⟨h1, h2⟩ | ⟨h1, h2⟩ | ⟨h1, h2⟩
 . exact e1t (a7D hn) (.inl hn)
 . exact d1t hn
 . exact e1t h1 (.inr h2)
 . -- x reads, i makes a variable
   rw [G4 hB (a1R h1)] at h
   obtain ⟨d, h3, h4⟩ := bind_some h
   rw [a0x ha.ab hci] at h4
   obtain ⟨e, m', dd, h5, h6⟩ := S7 hB hci h4
   have hgr := a7f hB (.inr h2) h6
   rw [h6 R fun s => C6 cx ops x s K]
   rw [G4 hB (a1R h1), W0 ha.ba]
   have hx : W5 cx ops x slots m' = some d := by
    cases hw : W7 ops x slots with
    | none => unfold W5 at h3; rw [hw] at h3; cases h3
    | some b =>
      cases b with
      | false => unfold W5 at h3 ⊢; rw [hw] at h3 ⊢; exact h3
      | true => rw [b5e h1 hgr (c3n hw h3)]; exact h3
   rw [hx, GV]
   exact h5
 . -- x makes a variable, i reads
   obtain ⟨d, m', dd, h3, h4⟩ := S7 hB hcx h
   have hgr := a7f hB (.inr h1) h4
   rw [G4 hB (a1R h2), W0 ha.ab, b5e h2 hgr hg] at h3
   obtain ⟨e, h5, h6⟩ := bind_some h3
   rw [G4 hB (a1R h2), h5, GV, a0x ha.ba hcx, h4]
   exact h6
theorem e0U {op : Op} (h : e0b op = true) : ∃ t i, op = .load t (.tmp i) := by
 unfold e0b at h
 split at h
 . exact ⟨_, _, rfl⟩
 . cases h
theorem c5G {op : Op} (h : isApp op = true) : ∃ c, op = .call c /\ c.callee = .builtin .append := by
 unfold isApp at h
 split at h
 . rename_i c
   split at h
   . rename_i hc; exact ⟨c, rfl, hc⟩
   . cases h
 . cases h
theorem c0Q {op : Op} (cx : Cx) (h : isApp op = true) : E8 cx op = .w := by
 obtain ⟨c, rfl, hc⟩ := c5G h
 unfold E8
 simp only [hc]
theorem a9V {a b : Op} (h : c4M ops a b = true) : (∃ t i t' j v, a = .load t (.tmp i) /\ b = .store t' (.tmp j) v /\ X1 ops 20 i ≠ X1 ops 20 j) ∨ (∃ t i t' j v, a = .store t' (.tmp j) v /\ b = .load t (.tmp i) /\ X1 ops 20 i ≠ X1 ops 20 j) ∨
 (∃ t i, a = .load t (.tmp i) /\ isApp b = true /\ X1 ops 20 i ≠ c5r ops b) ∨ (∃ t i, b = .load t (.tmp i) /\ isApp a = true /\ X1 ops 20 i ≠ c5r ops a) ∨ (∃ t t', a = .alloc t /\ b = .alloc t') := by
 unfold c4M at h
 rw [Ih, Ih, FT, Ih, FT, FT, FT, FT] at h
 have ne : ∀ {x y : Nat}, (!FZ x y) = true -> x ≠ y := fun {x y} h e => by rw [e] at h; simp at h
 have al : ∀ {o : Op}, e2y o = true -> ∃ t, o = .alloc t := fun {o} h => by cases o <;> first | exact ⟨_, rfl⟩ | cases h
 rcases h with (⟨h1, h2⟩ | h) | ⟨h1, h2, h3⟩ | ⟨h2, h1, h3⟩
 . obtain ⟨t, rfl⟩ := al h1
   obtain ⟨t', rfl⟩ := al h2
   exact .inr (.inr (.inr (.inr ⟨t, t', rfl, rfl⟩)))
 . unfold e4F at h
   split at h
   . refine .inl ⟨_, _, _, _, _, rfl, rfl, fun e => ?_⟩
     rw [e] at h; simp at h
   . refine .inr (.inl ⟨_, _, _, _, _, rfl, rfl, fun e => ?_⟩)
     rw [e] at h; simp at h
   . cases h
 . obtain ⟨t, i, e⟩ := e0U h1
   subst e
   exact .inr (.inr (.inl ⟨t, i, rfl, h2, ne h3⟩))
 . obtain ⟨t, i, e⟩ := e0U h1
   subst e
   exact .inr (.inr (.inr (.inl ⟨t, i, rfl, h2, ne h3⟩)))
theorem d0Y {R : Type} {a : Att} {e : FP} {m : Mem} {dead : List Pos} {K : Mem -> List Pos -> Option R} {r : R} {F : Nat -> Nat -> Prop} (hno : ∀ k s p e', a = .own (.cell k s p) e' -> F k s) (h : a1D a e m dead K = some r) : ∃ m' dead', K m' dead' = some r /\ ∀ k s, ¬ F k s -> m'.box? k s = m.box? k s := by
 unfold a1D at h
 split at h
 . rename_i e'
   cases hb : FZ e' e with
   | false => rw [hb] at h; cases h
   | true => rw [hb] at h; exact ⟨_, _, h, fun _ _ _ => rfl⟩
 . rename_i p e'
   cases hb : (FZ e' e && !O0 p dead) with
   | false => rw [hb] at h; cases h
   | true =>
     rw [hb, cond_true] at h
     cases p with
     | slot g => exact ⟨_, _, h, fun _ _ _ => rfl⟩
     | cell k s i =>
       simp only at h
       split at h
       . split at h
         . rw [a2c, I7] at h
           refine ⟨_, _, h, fun k' s' hf => ?_⟩
           rw [I8, if_neg]
           rintro ⟨rfl, rfl, _⟩
           exact hf (hno _ _ _ _ rfl)
         . cases h
       . cases h
 . cases h
theorem c5p {T : FP -> Option Ty} {dst : Nat} {t t2 : FP} {s x : D} {m : Mem} {dead : List Pos} {p1 : D} {p2 : Mem} {p3 : List Pos} {F : Nat -> Nat -> Prop} (hno : ∀ y k s' i e, s = .v y (.own (.cell k s' i) e) -> F k s')
 (h : a4b T dst t t2 s x m dead (fun d m dd => some (d, m, dd)) = some (p1, p2, p3)) : ∀ k s, ¬ F k s -> p2.box? k s = m.box? k s := by
 have fin : ∀ {a : Att} {e : FP} {b : Bool} {d : D}, (∀ k s p e', a = .own (.cell k s p) e' -> F k s) -> a1D a e m dead (fun m' dead' => check b (some (d, m', dead'))) = some (p1, p2, p3) -> ∀ k s, ¬ F k s -> p2.box? k s = m.box? k s := by
  intro a e b d hn h
  obtain ⟨m1, dd, h, hm⟩ := d0Y hn h
  unfold check br at h
  cases b with
  | false => cases h
  | true =>
    rw [cond_true] at h
    injection h with h
    injection h with _ h
    injection h with h _
    rw [← h]
    exact hm
 unfold a4b at h
 split at h
 . split at h
   . split at h
     . split at h
       . cases h
       . split at h
         . rename_i xs a ys _ _ _
           split at h
           . cases hb : (FZ _ _ && FZ _ 1) with
             | false => rw [hb] at h; cases h
             | true => rw [hb, cond_true] at h; exact fin (fun k s p e' q => hno _ _ _ _ _ (by rw [q])) h
           . cases h
         . split at h
           . cases hb : (FZ _ _ && (FZ _ _ && FZ _ _)) with
             | false => rw [hb] at h; cases h
             | true => rw [hb, cond_true] at h; exact fin (fun k s p e' q => hno _ _ _ _ _ (by rw [q])) h
           . cases h
         . split at h
           . cases hb : FZ _ 1 with
             | false => rw [hb] at h; cases h
             | true => rw [hb, cond_true] at h; exact fin (fun k s p e' q => hno _ _ _ _ _ (by rw [q])) h
           . cases h
         . cases h
     . cases h
   . cases h
 . cases h
theorem b9G {i : Oper} (hi : isApp i.op = true) {slots : List D} {m : Mem} {dead : List Pos} (hr : ∃ j y, b3j i.op = [.tmp j, y] /\ ∀ x k s p e, slots.getD j .any = .v x (.own (.cell k s p) e) -> O3 (c2Y ops j) k s = true) {d : D} {m' : Mem} {dd : List Pos}
 (h : ∀ (R' : Type) (K' : St -> Option R'), C6 cx ops i ⟨slots, m, dead⟩ K' = K' ⟨put slots i.dst d, m', dd⟩) : ∀ k s, ¬ O3 (c5r ops i.op) k s = true -> m'.box? k s = m.box? k s := by
 have h1 := h St some
 rw [L3] at h1
 cases hw : W7 ops i slots with
 | none => rw [hw] at h1; cases h1
 | some b =>
   rw [hw] at h1
   cases b
   . simp only [a1L, Q2] at h1
     injection h1 with h2; injection h2 with _ h2 _; subst h2; exact fun _ _ _ => rfl
   . simp only [a1L] at h1
     rw [S4 i (by simp [S1, c0Q cx hi])] at h1
     obtain ⟨c, hc, b0H⟩ := c5G hi
     obtain ⟨j, y, Q8, hno⟩ := hr
     have hrk : ∀ (R' : Type) (K' : Bool -> D -> Mem -> List Pos -> Option R'), runK cx i slots m dead K' = opK cx.T (i.dst.getD 0) i.type slots (.call c) m dead (K' false) := by
      intro R' K'; unfold runK; rw [hc]; simp only [b0H]
     rw [hrk, ← c3w cx] at h1
     obtain ⟨p, h3, h4⟩ := bind_some h1
     injection h4 with h4; injection h4 with _ h4 _
     obtain ⟨p1, p2, p3⟩ := p
     simp only at h4; subst h4
     have ha : c.args.toList = [.tmp j, y] := by rw [hc] at Q8; exact Q8
     simp only [opK, b0H, ha, J3] at h3
     have he : ∀ u, G5 cx.T slots u (.tmp j) = slots.getD j .any := fun u => by simp only [G5]
     rcases hat : c.argTypes.toList with _ | ⟨t, _ | ⟨t2, _ | ⟨t3, rest⟩⟩⟩ <;> rw [hat] at h3
     . cases h3
     . cases h3
     . have h3 : a4b cx.T (i.dst.getD 0) t t2 (G5 cx.T slots t (.tmp j)) (G5 cx.T slots t2 y) m dead (fun d m dd => some (d, m, dd)) = some (p1, p2, p3) := h3
       rw [he] at h3
       have hl : c5r ops i.op = c2Y ops j := by unfold c5r; rw [Q8]
       rw [hl]
       exact c5p (F := fun k s => O3 (c2Y ops j) k s = true) hno h3
     . cases h3
theorem a9W {i : Oper} {t : FP} {j : Nat} {v : GK} (hi : i.op = .store t (.tmp j) v) {slots : List D} {m : Mem} {dead : List Pos} {root : Nat} (hr : ∀ k q o, slots.getD j .any = .ptr k q o -> O3 root k q = true) {d : D} {m' : Mem} {dd : List Pos}
 (h : ∀ (R' : Type) (K' : St -> Option R'), C6 cx ops i ⟨slots, m, dead⟩ K' = K' ⟨put slots i.dst d, m', dd⟩) : ∀ k s, ¬ O3 root k s = true -> m'.box? k s = m.box? k s := by
 have h1 := h St some
 rw [L3] at h1
 cases hw : W7 ops i slots with
 | none => rw [hw] at h1; cases h1
 | some b =>
   rw [hw] at h1
   cases b
   . simp only [a1L, Q2] at h1
     injection h1 with h2; injection h2 with _ h2 _; subst h2
     exact fun _ _ _ => rfl
   . simp only [a1L] at h1
     rw [S4 i (by simp [S1, hi, E8])] at h1
     have hrk : ∀ (R' : Type) (K' : Bool -> D -> Mem -> List Pos -> Option R'), runK cx i slots m dead K' = opK cx.T (i.dst.getD 0) i.type slots (.store t (.tmp j) v) m dead (K' false) := by
      intro R' K'; unfold runK; rw [hi]
     rw [hrk, ← c3w cx] at h1
     obtain ⟨p, h3, h4⟩ := bind_some h1
     injection h4 with h4; injection h4 with _ h4 _
     obtain ⟨p1, p2, p3⟩ := p
     simp only at h4; subst h4
     simp only [opK, J3] at h3
     have he : G5 cx.T slots 0 (.tmp j) = slots.getD j .any := by simp only [G5]
     rw [he] at h3
     simp only [forceD_eq] at h3
     generalize b2F m (slots.getD j .any) (G5 cx.T slots t v) = dv at h3
     unfold b8W at h3
     split at h3
     . split at h3
       . rename_i k s o hd
         have e5O := hr k s o hd
         split at h3
         . rename_i bx hbx
           cases hc : (FZ (cellsOf dv).length _ && GY _ bx.cells.length) with
           | false => rw [hc] at h3; cases h3
           | true =>
             rw [hc, cond_true] at h3
             obtain ⟨cs, d2, h3⟩ := a3O _ _ _ _ _ h3
             rw [a9b, I7] at h3
             injection h3 with h3
             injection h3 with _ h3
             injection h3 with h3 _
             subst h3
             intro k' s' hne
             rw [I8, if_neg (fun e => hne (by rw [e.1, e.2.1]; exact e5O))]
         . cases h3
       . cases h3
     . cases h3
theorem a8P {x : Oper} {t : FP} {i : Nat} (hx : x.op = .load t (.tmp i)) {slots : List D} {m m' : Mem} {rx root : Nat} (hr : ∀ k q o, slots.getD i .any = .ptr k q o -> O3 rx k q = true) (hne : rx ≠ root)
 (hm : ∀ k s, ¬ O3 root k s = true -> m'.box? k s = m.box? k s) : W5 cx ops x slots m' = W5 cx ops x slots m := by
 unfold W5
 have he : glob (.tmp i) (G5 cx.T slots 0 (.tmp i)) = slots.getD i .any := by simp only [G5, glob]
 rw [a2N hx, a2N hx, he]
 have : a0J cx.T t (slots.getD i .any) m' some = a0J cx.T t (slots.getD i .any) m some := by
  unfold a0J
  split
  . split
    . rename_i k s o hd
      rw [hm k s (fun e => hne (a7t (hr k s o hd) e))]
    . rfl
    . rfl
  . rfl
 rw [this]
theorem a6s (a : Nat) : FZ a a = true := KD a
theorem B1 {a b : Nat} (h : a ≠ b) : FZ a b = false := by
 cases e : FZ a b with
 | false => rfl
 | true => exact absurd (FM e) h
theorem M0 {a b : Nat} (h : a < b) : GS a b = true := Ia h
theorem F9 {a b : Nat} (h : ¬ a < b) : GS a b = false := by
 cases e : GS a b with
 | false => rfl
 | true => exact absurd (Gm e) h
theorem b4u {s1 s2 : Nat} (h : s1 ≠ s2) (b1 b2 : Bx) : ∀ fr : Fr, P2 s2 b2 (P2 s1 b1 fr) = P2 s1 b1 (P2 s2 b2 fr)
 | [] => by
   simp only [P2, B1 h, B1 (Jd h), cond_false]
   rcases LC h with hlt | hlt
   . rw [M0 hlt, F9 (by omega)]; rfl
   . rw [M0 hlt, F9 (by omega)]; rfl
 | (s', b') :: r => by
   have ih := b4u h b1 b2 r
   by_cases e1 : s1 = s'
   . subst e1
     by_cases l2 : s2 < s1
     . simp only [P2, a6s, B1 h, B1 (Jd h), M0 l2, F9 (show ¬ s1 < s2 by omega), cond_true, cond_false]
     . simp only [P2, a6s, B1 h, B1 (Jd h), F9 l2, F9 (show ¬ s2 < s1 by omega), cond_true, cond_false]
   . by_cases e2 : s2 = s'
     . subst e2
       by_cases l1 : s1 < s2
       . simp only [P2, a6s, B1 h, B1 (Jd h), M0 l1, F9 (show ¬ s2 < s1 by omega), cond_true, cond_false]
       . simp only [P2, a6s, B1 h, B1 (Jd h), F9 l1, cond_true, cond_false]
     . by_cases l1 : s1 < s' <;> by_cases l2 : s2 < s'
       . rcases LC h with hlt | hlt
         . simp only [P2, B1 h, B1 (Jd h), B1 e1, B1 e2, M0 l1, M0 l2, M0 hlt, F9 (show ¬ s2 < s1 by omega), cond_true, cond_false]
         . simp only [P2, B1 h, B1 (Jd h), B1 e1, B1 e2, M0 l1, M0 l2, M0 hlt, F9 (show ¬ s1 < s2 by omega), cond_true, cond_false]
       . simp only [P2, B1 h, B1 (Jd h), B1 e1, B1 e2, M0 l1, F9 l2, F9 (show ¬ s2 < s1 by omega), cond_true, cond_false]
       . simp only [P2, B1 h, B1 (Jd h), B1 e1, B1 e2, F9 l1, M0 l2, F9 (show ¬ s1 < s2 by omega), cond_true, cond_false]
       . simp only [P2, B1 h, B1 (Jd h), B1 e1, B1 e2, F9 l1, F9 l2, cond_false, ih]
def d6v (ck : CK) : D := match b6v ck with | .v x a => .v x (match a with | .nil e => .own (.slot 0) e | a => a) | d => d
theorem b0M (dead : List Pos) : ∀ (cks : List CK) (F : List D -> List Pos -> Option R), N9 0 (cks.map b6v) dead F = F (cks.map d6v) dead
 | [], F => rfl
 | ck :: cks, F => by
   rw [Hp, Hp]
   unfold N9
   cases ck <;> simp only [d6v, b6v, D.one, cond_true, D.low, d2k, b4c, U6, forceD_eq, b0M dead cks]
theorem d5T {x : Oper} {t : FP} (hx : x.op = .alloc t) {slots : List D} {m : Mem} {dead : List Pos} {d : D} {m1 : Mem} {d1 : List Pos}
 (h : ∀ (R' : Type) (K' : St -> Option R'), C6 cx ops x ⟨slots, m, dead⟩ K' = K' ⟨put slots x.dst d, m1, d1⟩) :
 d1 = dead /\ ((m1 = m /\ ∀ (m : Mem) (dead : List Pos) (R' : Type) (K' : St -> Option R'), C6 cx ops x ⟨slots, m, dead⟩ K' = K' ⟨put slots x.dst d, m, dead⟩) ∨
  ∃ (s : Nat) (b : Bx), 0 < m.length /\ m.box? 0 s = none /\ m1 = m.setBox 0 s b /\
   ∀ (m : Mem) (dead : List Pos), 0 < m.length -> m.box? 0 s = none -> ∀ (R' : Type) (K' : St -> Option R'), C6 cx ops x ⟨slots, m, dead⟩ K' = K' ⟨put slots x.dst d, m.setBox 0 s b, dead⟩) := by
 have hnc : S1 cx x.op = true := by rw [hx]; rfl
 have h1 := h St some
 rw [L3] at h1
 cases hw : W7 ops x slots with
 | none => rw [hw] at h1; cases h1
 | some w =>
   rw [hw] at h1
   cases w
   . simp only [a1L, Q2] at h1
     injection h1 with h2
     injection h2 with h3 h4 h5
     subst h4 h5
     refine ⟨rfl, .inl ⟨rfl, fun m dead R' K' => ?_⟩⟩
     rw [L3, hw]
     simp only [a1L, Q2]
     rw [h3]
   . simp only [a1L] at h1
     rw [S4 x hnc] at h1
     have L7 : ∀ (m : Mem) (dead : List Pos) (R' : Type) (K' : Bool -> D -> Mem -> List Pos -> Option R'), runK cx x slots m dead K' = match cx.T t with | some ty => T2 (x.dst.getD 0) t ty.zeroDs m dead fun m' d' => K' false (.ptr 0 (x.dst.getD 0) 0) m' d' | none => none := by
      intro m dead R' K'; unfold runK; rw [hx]; rfl
     rw [L7] at h1
     cases hT : cx.T t with
     | none => rw [hT] at h1; cases h1
     | some ty =>
       rw [hT] at h1
       have b5U : ∀ (m : Mem) (dead : List Pos) (R' : Type) (K' : Mem -> List Pos -> Option R'), 0 < m.length -> m.box? 0 (x.dst.getD 0) = none -> T2 (x.dst.getD 0) t ty.zeroDs m dead K' = K' (m.setBox 0 (x.dst.getD 0) ⟨t, ty.cks.map d6v⟩) dead := by
        intro m dead R' K' hl hn
        cases m with
        | nil => simp at hl
        | cons fr r =>
          have hn : G2 (x.dst.getD 0) fr = none := hn
          unfold T2
          simp only [hn]
          unfold Ty.zeroDs
          rw [b0M, I7]
       cases m with
       | nil => cases h1
       | cons fr r =>
         cases hn : G2 (x.dst.getD 0) fr with
         | some b => simp only [T2, hn] at h1; cases h1
         | none =>
           have hl : 0 < (fr :: r).length := by simp
           have hb : Mem.box? (fr :: r) 0 (x.dst.getD 0) = none := hn
           simp only at h1
           rw [b5U _ _ _ _ hl hb] at h1
           injection h1 with h2
           injection h2 with h3 h4 h5
           subst h4 h5
           refine ⟨rfl, .inr ⟨_, _, hl, hb, rfl, fun m dead hl hb R' K' => ?_⟩⟩
           rw [L3, hw]
           simp only [a1L]
           rw [S4 x hnc, L7, hT]
           simp only
           rw [b5U _ _ _ _ hl hb, h3]
theorem d9g {x i : Oper} {t t' : FP} (hx : x.op = .alloc t) (hi : i.op = .alloc t') {slots : List D} {m m1 m2 : Mem} {dead d1 d2 : List Pos} {d e : D}
 (h1 : ∀ (R' : Type) (K' : St -> Option R'), C6 cx ops x ⟨slots, m, dead⟩ K' = K' ⟨put slots x.dst d, m1, d1⟩)
 (h2 : ∀ (R' : Type) (K' : St -> Option R'), C6 cx ops i ⟨slots, m1, d1⟩ K' = K' ⟨put slots i.dst e, m2, d2⟩) :
 ∃ mi di, (∀ (R' : Type) (K' : St -> Option R'), C6 cx ops i ⟨slots, m, dead⟩ K' = K' ⟨put slots i.dst e, mi, di⟩) /\ (∀ (R' : Type) (K' : St -> Option R'), C6 cx ops x ⟨slots, mi, di⟩ K' = K' ⟨put slots x.dst d, m2, d2⟩) := by
 obtain ⟨rfl, a⟩ := d5T hx h1
 obtain ⟨rfl, b⟩ := d5T hi h2
 rcases a with ⟨rfl, a⟩ | ⟨s, bx, a1, a2, rfl, a⟩
 . rcases b with ⟨rfl, b⟩ | ⟨s', bx', b1, b2, rfl, b⟩
   . exact ⟨_, _, b _ _, a _ _⟩
   . exact ⟨_, _, b _ _ b1 b2, a _ _⟩
 . rcases b with ⟨rfl, b⟩ | ⟨s', bx', b1, b2, rfl, b⟩
   . exact ⟨_, _, b _ _, a _ _ a1 a2⟩
   . have hne : s ≠ s' := by
      rintro rfl
      rw [I8, if_pos ⟨rfl, rfl, a1⟩] at b2
      cases b2
     have hb : m.box? 0 s' = none := by
      rw [I8, if_neg (fun q => hne q.2.1.symm)] at b2
      exact b2
     have ha : (m.setBox 0 s' bx').box? 0 s = none := by
      rw [I8, if_neg (fun q => hne q.2.1)]
      exact a2
     refine ⟨_, _, b _ _ a1 hb, fun R' K' => ?_⟩
     rw [a _ _ (by rw [K7]; exact a1) ha]
     have e : (m.setBox 0 s' bx').setBox 0 s bx = (m.setBox 0 s bx).setBox 0 s' bx' := by
      cases m with
      | nil => rfl
      | cons fr r =>
        show P2 s bx (P2 s' bx' fr) :: r = P2 s' bx' (P2 s bx fr) :: r
        rw [b4u (Jd hne)]
     rw [e]
theorem e4g (hB : PureB cx) {x i : Oper} (ha : Apart ops cx x i) (hd : cx.dyn = true) (hf : c4M ops x.op i.op = true) {slots : List D} {m : Mem} {dead : List Pos} (hrx : RootOK cx ops x.op slots) (hri : RootOK cx ops i.op slots) {K : St -> Option R} {r : R}
 (h : C6 cx ops x ⟨slots, m, dead⟩ (fun s => C6 cx ops i s K) = some r) : C6 cx ops i ⟨slots, m, dead⟩ (fun s => C6 cx ops x s K) = some r := by
 have reads : ∀ {t : FP} {a : Nat}, x.op = .load t (.tmp a) -> S1 cx i.op = true -> (∀ (d : D) (m' : Mem) (dd : List Pos), (∀ (R' : Type) (K' : St -> Option R'), C6 cx ops i ⟨slots, m, dead⟩ K' = K' ⟨put slots i.dst d, m', dd⟩) -> W5 cx ops x slots m' = W5 cx ops x slots m) ->
  C6 cx ops i ⟨slots, m, dead⟩ (fun s => C6 cx ops x s K) = some r := by
  intro t a e1 hci hv
  have h1 : isVal cx x.op = true := by rw [e1]; rfl
  rw [G4 hB h1] at h
  obtain ⟨d, h3, h4⟩ := bind_some h
  rw [a0x ha.ab hci] at h4
  obtain ⟨e, m', dd, h5, h6⟩ := S7 hB hci h4
  rw [h6 R fun s => C6 cx ops x s K]
  rw [G4 hB h1, W0 ha.ba, hv e m' dd h6, h3, GV]
  exact h5
 have stores : ∀ {t : FP} {a : Nat}, i.op = .load t (.tmp a) -> S1 cx x.op = true -> (∀ (d : D) (m' : Mem) (dd : List Pos), (∀ (R' : Type) (K' : St -> Option R'), C6 cx ops x ⟨slots, m, dead⟩ K' = K' ⟨put slots x.dst d, m', dd⟩) -> W5 cx ops i slots m' = W5 cx ops i slots m) ->
  C6 cx ops i ⟨slots, m, dead⟩ (fun s => C6 cx ops x s K) = some r := by
  intro t a e2 hcx hv
  have h2 : isVal cx i.op = true := by rw [e2]; rfl
  obtain ⟨d, m', dd, h3, h4⟩ := S7 hB hcx h
  rw [G4 hB h2, W0 ha.ab, hv d m' dd h4] at h3
  obtain ⟨e, h5, h6⟩ := bind_some h3
  rw [G4 hB h2, h5, GV, a0x ha.ba hcx, h4]
  exact h6
 rcases a9V hf with ⟨t, a, t', b, v, e1, e2, hne⟩ | ⟨t, a, t', b, v, e1, e2, hne⟩ | ⟨t, a, e1, e2, hne⟩ | ⟨t, a, e1, e2, hne⟩ | ⟨t, t', e1, e2⟩
 . -- x reads, i stores
   obtain ⟨j1, q1, r1⟩ := hrx.root hd _ (.inl ⟨t, e1⟩)
   obtain ⟨j2, q2, r2⟩ := hri.root hd _ (.inr ⟨t', v, e2⟩)
   injection q1 with q1; subst q1
   injection q2 with q2; subst q2
   exact reads e1 (by rw [e2]; rfl) fun d m' dd h6 => a8P e1 r1 hne (a9W e2 r2 h6)
 . -- x stores, i reads
   obtain ⟨j1, q1, r1⟩ := hrx.root hd _ (.inr ⟨t', v, e1⟩)
   obtain ⟨j2, q2, r2⟩ := hri.root hd _ (.inl ⟨t, e2⟩)
   injection q1 with q1; subst q1
   injection q2 with q2; subst q2
   exact stores e2 (by rw [e1]; rfl) fun d m' dd h4 => a8P e2 r2 hne (a9W e1 r1 h4)
 . -- x reads, i appends
   obtain ⟨j1, q1, r1⟩ := hrx.root hd _ (.inl ⟨t, e1⟩)
   injection q1 with q1; subst q1
   exact reads e1 (by unfold S1; rw [c0Q cx e2]) fun d m' dd h6 => a8P e1 r1 hne (b9G e2 (hri.app hd e2) h6)
 . -- x appends, i reads
   obtain ⟨j1, q1, r1⟩ := hri.root hd _ (.inl ⟨t, e1⟩)
   injection q1 with q1; subst q1
   exact stores e1 (by unfold S1; rw [c0Q cx e2]) fun d m' dd h4 => a8P e1 r1 hne (b9G e2 (hrx.app hd e2) h4)
 . -- both make a variable
   have hcx : S1 cx x.op = true := by rw [e1]; rfl
   have hci : S1 cx i.op = true := by rw [e2]; rfl
   obtain ⟨d, m1, d1, h1, hx⟩ := S7 hB hcx h
   rw [a0x ha.ab hci] at h1
   obtain ⟨e, m2, d2, h2, hi⟩ := S7 hB hci h1
   obtain ⟨mi, di, h3, h4⟩ := d9g e1 e2 hx hi
   rw [h3, a0x ha.ba hcx, h4, ← d8y (fun y hy => (ha.ba y hy).dst)]
   exact h2
theorem a6q (cx : Cx) {x i : Oper} {slots : List D} {d : D} (hx : ∀ s, x.dst = some s -> Away ops s i) {j : Nat} (hj : .tmp j ∈ i.op.operands.toList) : (En.put slots x.dst d).getD j .any = slots.getD j .any := by
 have h1 : (G5 cx.T (En.put slots x.dst d) 0 (.tmp j)) = G5 cx.T slots 0 (.tmp j) := by
  cases hxd : x.dst with
  | none => rfl
  | some y => exact C4 slots y _ 0 _ ((hx y hxd).reads _ hj)
 simpa only [G5] using h1
theorem b1a {op : Op} {j : Nat} {y : GK} (h : isApp op = true) (ha : b3j op = [.tmp j, y]) : Operand.tmp j ∈ op.operands.toList := by
 obtain ⟨c, rfl, hc⟩ := c5G h
 have ha : c.args.toList = [.tmp j, y] := ha
 have hm : Operand.tmp j ∈ c.args := by rw [← Lc, ha]; simp
 show Operand.tmp j ∈ c.operands.toList
 unfold HK
 rw [hc, Lc]
 exact Array.mem_append.2 (.inr hm)
theorem RootOK.put {x i : Oper} {slots : List D} (h : RootOK cx ops i.op slots) (hx : ∀ s, x.dst = some s -> Away ops s i) (d : D) : RootOK cx ops i.op (put slots x.dst d) := by
 refine ⟨fun hd z hz => ?_, fun hd ha => ?_⟩
 . obtain ⟨j, rfl, hj⟩ := h.root hd z hz
   refine ⟨j, rfl, fun k q o he => hj k q o ?_⟩
   rw [← he]
   refine (a6q cx hx ?_).symm
   rcases hz with ⟨t, e⟩ | ⟨t, v, e⟩ <;> rw [e] <;> simp [GB]
 . obtain ⟨j, y, e, hj⟩ := h.app hd ha
   refine ⟨j, y, e, fun x' k s p e' he => hj x' k s p e' ?_⟩
   rw [← he]
   exact (a6q cx hx (b1a ha e)).symm
theorem RootOK.unput {x i : Oper} {slots : List D} {d : D} (h : RootOK cx ops i.op (En.put slots x.dst d)) (hx : ∀ s, x.dst = some s -> Away ops s i) : RootOK cx ops i.op slots := by
 refine ⟨fun hd z hz => ?_, fun hd ha => ?_⟩
 . obtain ⟨j, rfl, hj⟩ := h.root hd z hz
   refine ⟨j, rfl, fun k q o he => hj k q o ?_⟩
   rw [← he]
   refine a6q cx hx ?_
   rcases hz with ⟨t, e⟩ | ⟨t, v, e⟩ <;> rw [e] <;> simp [GB]
 . obtain ⟨j, y, e, hj⟩ := h.app hd ha
   refine ⟨j, y, e, fun x' k s p e' he => hj x' k s p e' ?_⟩
   rw [← he]
   exact a6q cx hx (b1a ha e)
theorem a7Q {x i : Oper} (ha : a5l (E8 cx x.op) (E8 cx i.op) = false ∨ (cx.dyn = true /\ c4M ops x.op i.op = true)) : S1 cx x.op = true /\ S1 cx i.op = true := by
 rcases ha with h | ⟨_, h⟩
 . obtain ⟨h1, h2, _⟩ := b6c h; exact ⟨h1, h2⟩
 . rcases a9V h with ⟨t, a, t', b, v, e1, e2, _⟩ | ⟨t, a, t', b, v, e1, e2, _⟩ | ⟨t, a, e1, e2, _⟩ | ⟨t, a, e1, e2, _⟩ | ⟨t, t', e1, e2⟩
   . rw [e1, e2]; exact ⟨rfl, rfl⟩
   . rw [e1, e2]; exact ⟨rfl, rfl⟩
   . rw [e1]; exact ⟨rfl, by unfold S1; rw [c0Q cx e2]⟩
   . rw [e1]; exact ⟨by unfold S1; rw [c0Q cx e2], rfl⟩
   . rw [e1, e2]; exact ⟨rfl, rfl⟩
theorem d4c {x : Oper} (h : c9f x = true) : ∃ t, x.op = .move (.tmp t) /\ x.guard = none := by
 unfold c9f at h
 split at h
 . rename_i t e
   refine ⟨t, e, ?_⟩
   split at h
   . assumption
   . cases h
 . cases h
theorem c2f {x i : Oper} (ha : Apart ops cx x i) : S1 cx x.op = true := by
 rcases ha.cls with h | h | ⟨h, _⟩
 . exact (a7Q (ops := ops) (.inl h)).1
 . exact (a7Q (.inr h)).1
 . obtain ⟨t, e, _⟩ := d4c h
   rw [e]; rfl
theorem b1C {x : Oper} {t : Nat} (e : x.op = .move (.tmp t)) (hg : x.guard = none) (slots : List D) (m : Mem) (dead : List Pos) (K : St -> Option R) :
 C6 cx ops x ⟨slots, m, dead⟩ K = K ⟨put slots x.dst (slots.getD t .any), m, dead⟩ := by
 unfold C6
 rw [hg]
 simp only [a6N, runK, e, opK, evK, N8, cond_false, V4]
theorem c2x {i : Oper} (hg : noG i = true) (slots : List D) (m : Mem) (dead : List Pos) (K : St -> Option R) :
 C6 cx ops i ⟨slots, m, dead⟩ K = runK cx i slots m dead fun c d m' dead' => K ⟨put (cond c (slots.map a1Y) slots) i.dst d, m', dead'⟩ := by
 have hg : i.guard = none := by
  unfold noG at hg
  split at hg
  . assumption
  . cases hg
 unfold C6
 rw [hg]
 simp only [a6N]
 congr 1
 funext c d m' dead'
 cases c
 . simp only [cond_false, V4]
 . simp only [cond_true, a2X, V4]
theorem c0D (s : Nat) (d : D) : a1Y (a8Z s d) = a8Z s (a1Y d) := by
 cases d with
 | v x a =>
   cases a with
   | no => rfl
   | nil e => rfl
   | own p e => cases p <;> rfl
 | _ => simp only [a8Z, a1Y]; (first | rfl | (split <;> rfl) | (cases D.noOwn _ <;> rfl))
theorem e4Q {x i : Oper} (ha : Apart ops cx x i) (hm : c9f x = true) (hi : noG i = true) (slots : List D) (m : Mem) (dead : List Pos) (K : St -> Option R) :
 C6 cx ops x ⟨slots, m, dead⟩ (fun s => C6 cx ops i s K) = C6 cx ops i ⟨slots, m, dead⟩ (fun s => C6 cx ops x s K) := by
 obtain ⟨t, e, hg⟩ := d4c hm
 rw [b1C e hg, c2x hi, c2x hi]
 have L7 : ∀ F : Bool -> D -> Mem -> List Pos -> Option R, runK cx i (put slots x.dst (slots.getD t .any)) m dead F = runK cx i slots m dead F := by
  intro F
  cases hx : x.dst with
  | none => rfl
  | some s => exact runK_set cx i slots s _ m dead F (ha.ab s hx).reads
 rw [L7]
 congr 1
 funext c d m' dead'
 rw [b1C e hg]
 congr 2
 have hnd : ∀ s, i.dst = some s -> s ≠ t := fun s hs h => by
  have := (ha.ba s hs).reads (.tmp t) (by rw [e]; simp [GB])
  subst h
  exact this rfl
 have Q7 : ∀ Y : List D, (put Y i.dst d).getD t .any = Y.getD t .any := by
  intro Y
  cases hd : i.dst with
  | none => rfl
  | some s =>
    simp only [put, FV]
    rw [IY (hnd s hd)]
 rw [Q7]
 have hdr : ∀ n : Nat, (slots.map a1Y).getD n .any = a1Y (slots.getD n .any) := by
  intro n
  simp only [FV, Gn]
  cases slots[n]? <;> rfl
 cases hx : x.dst with
 | none => rfl
 | some s =>
   have hs : i.dst ≠ some s := (ha.ab s hx).dst
   cases c
   . simp only [cond_false]
     exact a8A _ _ _ _ _ hs
   . simp only [cond_true, hdr]
     show put ((slots.set s (a8Z s (slots.getD t .any))).map a1Y) i.dst d = _
     rw [List.map_set, c0D]
     exact a8A _ _ _ _ _ hs
theorem b3o (hB : PureB cx) {i : Oper} {K : St -> Option R} {r : R} (B : List Oper) : ∀ (A : List Oper) (slots : List D) (m : Mem) (dead : List Pos), (∀ x ∈ A, Apart ops cx x i) -> a8V cx ops (A ++ i :: B) ⟨slots, m, dead⟩ K = some r -> RootOK cx ops i.op slots
 | [], slots, m, dead, _, h => (a1z h).1
 | x :: A, slots, m, dead, hA, h => by
   simp only [Gw, a8V] at h
   obtain ⟨_, h⟩ := a1z h
   have hax := hA x (by simp)
   obtain ⟨d, m', dd, h1, _⟩ := S7 hB (c2f hax) h
   exact (b3o hB B A _ _ _ (fun y hy => hA y (by simp [hy])) h1).unput hax.ab
theorem c5i (hB : PureB cx) {i : Oper} {K : St -> Option R} {r : R} (B : List Oper) : ∀ (A : List Oper) (slots : List D) (m : Mem) (dead : List Pos), (∀ x ∈ A, Apart ops cx x i) -> Good cx i slots m ->
 a8V cx ops (A ++ i :: B) ⟨slots, m, dead⟩ K = some r -> C6 cx ops i ⟨slots, m, dead⟩ (fun s => a8V cx ops (A ++ B) s K) = some r
 | [], slots, m, dead, _, _, h => (a1z h).2
 | x :: A, slots, m, dead, hA, hg, h => by
   have hri := b3o hB B (x :: A) slots m dead hA h
   simp only [Gw, a8V] at h ⊢
   obtain ⟨hrx, h⟩ := a1z h
   have hax := hA x (by simp)
   by_cases hmv : c9f x = true /\ noG i = true
   . obtain ⟨t, e, hgx⟩ := d4c hmv.1
     rw [b1C e hgx] at h
     have h3 := c5i hB B A _ _ _ (fun y hy => hA y (by simp [hy])) (by
      intro t3 z3 hz3 k s o he
      refine hg t3 _ hz3 k s o ?_
      rw [← he]
      cases hxd : x.dst with
      | none => rfl
      | some y => exact congrArg (glob _) (C4 slots y _ 0 _ ((hax.ab y hxd).reads _ (by rw [hz3]; simp [GB]))).symm) h
     have h4 : C6 cx ops x ⟨slots, m, dead⟩ (fun s => C6 cx ops i s fun s' => a8V cx ops (A ++ B) s' K) = some r := by
      rw [b1C e hgx]; exact h3
     rw [e4Q hax hmv.1 hmv.2] at h4
     rw [← h4]
     congr 1
     funext s
     obtain ⟨sl, mm, dd⟩ := s
     show b4b cx ops x.op sl _ = _
     rw [e, c2S (by
      refine ⟨fun hd z hz => ?_, fun hd ha => ?_⟩
      . rcases hz with ⟨t', e'⟩ | ⟨t', v, e'⟩ <;> cases e'
      . cases ha)]
   have hcl : a5l (E8 cx x.op) (E8 cx i.op) = false ∨ (cx.dyn = true /\ c4M ops x.op i.op = true) := by
    rcases hax.cls with h | h | h
    . exact .inl h
    . exact .inr h
    . exact absurd h hmv
   obtain ⟨hcx, hci⟩ := a7Q hcl
   obtain ⟨d, m', dd, h1, h2⟩ := S7 hB hcx h
   have c3P : Good cx i (put slots x.dst d) m' := by
    by_cases hl : ∃ t z, i.op = .load t z
    . obtain ⟨t, z, hz⟩ := hl
      rcases hcl with d7b | ⟨hdy, b5D⟩
      . refine hg.put hax.ab (a7f hB ?_ h2) d
        have : E8 cx i.op = .r := by rw [hz]; rfl
        rw [this] at d7b
        unfold isVal isA
        cases hc : E8 cx x.op <;> rw [hc] at d7b <;> simp [a5l] at d7b ⊢
      . rcases a9V b5D with ⟨t1, a, t', b, v, e1, e2, hne⟩ | ⟨t1, a, t', b, v, e1, e2, hne⟩ | ⟨t1, a, e1, e2, hne⟩ | ⟨t1, a, e1, e2, hne⟩ | ⟨t1, t2, e1, e2⟩
        . rw [hz] at e2; cases e2
        rotate_left
        . rw [c3r hz] at e2; cases e2
        . intro t3 z3 hz3 k s o he
          rw [hz3] at e1; injection e1 with _ e1; subst e1
          have hri2 := (hri.put hax.ab d)
          obtain ⟨j2, q2, r2⟩ := hri2.root hdy _ (.inl ⟨t3, hz3⟩)
          injection q2 with q2; subst q2
          have hr2 := r2 k s o (by simpa only [G5, glob] using he)
          rw [b9G e2 (hrx.app hdy e2) h2 _ _ (fun e => hne (a7t hr2 e))]
          refine hg t3 _ hz3 k s o ?_
          rw [← he]
          cases hxd : x.dst with
          | none => rfl
          | some y => exact congrArg (glob _) (C4 slots y _ 0 _ ((hax.ab y hxd).reads _ (by rw [hz3]; simp [GB]))).symm
        . rw [hz] at e2; cases e2
        . obtain ⟨j1, q1, r1⟩ := hrx.root hdy _ (.inr ⟨t', v, e1⟩)
          injection q1 with q1; subst q1
          intro t3 z3 hz3 k s o he
          rw [hz3] at e2; injection e2 with _ e2; subst e2
          have hri2 := (hri.put hax.ab d)
          obtain ⟨j2, q2, r2⟩ := hri2.root hdy _ (.inl ⟨t3, hz3⟩)
          injection q2 with q2; subst q2
          have hr2 := r2 k s o (by simpa only [G5, glob] using he)
          rw [a9W e1 r1 h2 _ _ (fun e => hne (a7t hr2 e))]
          refine hg t3 _ hz3 k s o ?_
          rw [← he]
          cases hxd : x.dst with
          | none => rfl
          | some y => exact congrArg (glob _) (C4 slots y _ 0 _ ((hax.ab y hxd).reads _ (by rw [hz3]; simp [GB]))).symm
    . intro t z hz
      exact absurd ⟨t, z, hz⟩ hl
   have h3 := c5i hB B A _ _ _ (fun y hy => hA y (by simp [hy])) c3P h1
   have h4 : C6 cx ops i ⟨slots, m, dead⟩ (fun s => C6 cx ops x s fun s' => a8V cx ops (A ++ B) s' K) = some r := by
    rcases hcl with d7b | ⟨hdy, b5D⟩
    . exact e4b hB hax d7b hg (by rw [h2]; exact h3)
    . exact e4g hB hax hdy b5D hrx hri (by rw [h2]; exact h3)
   obtain ⟨e, m2, d2, h5, h6⟩ := S7 hB hci h4
   rw [h6]
   show b4b cx ops x.op (put slots i.dst e) _ = some r
   rw [c2S (hrx.put hax.ba e)]
   exact h5
def todo (listed : Array Bool) : Nat -> List Oper -> List Oper
 | _, [] => []
 | k, o :: r => cond (listed.getD k false) (todo listed (k + 1) r) (o :: todo listed (k + 1) r)
theorem b4r {listed : Array Bool} : ∀ (l : List Oper) (k i : Nat) (o : Oper), l[i]? = some o -> listed.getD (k + i) true = false ->
 ∃ A B, todo listed k l = A ++ o :: B /\ todo (listed.setIfInBounds (k + i) true) k l = A ++ B /\ ∀ x ∈ A, ∃ j, j < i /\ l[j]? = some x /\ listed.getD (k + j) false = false
 | [], k, i, o, h, _ => by simp at h
 | x :: r, k, 0, o, h, hn => by
   simp at h; subst h
   have hlt : k < listed.size := by
    rcases Hi k listed.size with h' | h'
    . exact h'
    . simp [Ge, Array.getElem?_eq_none h'] at hn
   have hn' : listed.getD k false = false := by
    simp only [Nat.add_zero] at hn
    rw [Ge, GG hlt] at hn ⊢; exact hn
   refine ⟨[], todo listed (k + 1) r, ?_, ?_, fun x hx => by cases hx⟩
   . simp [todo, hn']
   . have h1 : (listed.setIfInBounds (k + 0) true).getD k false = true := by simp [Ge, hlt]
     have h2 : ∀ (l : List Oper) (k' : Nat), k < k' -> todo (listed.setIfInBounds (k + 0) true) k' l = todo listed k' l := by
      intro l
      induction l with
      | nil => intro k' _; rfl
      | cons y l ih =>
        intro k' hk
        unfold todo
        rw [Mj false (by omega), ih (k' + 1) (by omega)]
     have h3 : todo (listed.setIfInBounds (k + 0) true) k (x :: r) = cond ((listed.setIfInBounds (k + 0) true).getD k false) (todo (listed.setIfInBounds (k + 0) true) (k + 1) r) (x :: todo (listed.setIfInBounds (k + 0) true) (k + 1) r) := rfl
     rw [h3, h1, cond_true, h2 r (k + 1) (by omega)]
     rfl
 | x :: r, k, i + 1, o, h, hn => by
   obtain ⟨A, B, h1, h2, h3⟩ := b4r (listed := listed) r (k + 1) i o (by simpa using h) (by rw [show k + 1 + i = k + (i + 1) by omega]; exact hn)
   rw [show k + 1 + i = k + (i + 1) by omega] at h2
   have hs : (listed.setIfInBounds (k + (i + 1)) true).getD k false = listed.getD k false := Mj false (by omega)
   unfold todo
   rw [hs]
   cases hx : listed.getD k false with
   | true =>
     refine ⟨A, B, by rw [cond_true]; exact h1, by rw [cond_true]; exact h2, fun y hy => ?_⟩
     obtain ⟨j, a1, a2, a3⟩ := h3 y hy
     exact ⟨j + 1, by omega, by simpa using a2, by rw [show k + (j + 1) = k + 1 + j by omega]; exact a3⟩
   | false =>
     refine ⟨x :: A, B, by rw [cond_false, h1]; rfl, by rw [cond_false, h2]; rfl, fun y hy => ?_⟩
     rcases GH.1 hy with rfl | hy
     . exact ⟨0, by omega, by simp, hx⟩
     . obtain ⟨j, a1, a2, a3⟩ := h3 y hy
       exact ⟨j + 1, by omega, by simpa using a2, by rw [show k + (j + 1) = k + 1 + j by omega]; exact a3⟩
theorem c3m {listed : Array Bool} : ∀ (l : List Oper) (k : Nat), (∀ i, i < l.length -> listed.getD (k + i) false = true) -> todo listed k l = []
 | [], _, _ => rfl
 | x :: r, k, h => by
   unfold todo
   rw [show listed.getD k false = true from h 0 (by simp), cond_true]
   exact c3m r (k + 1) fun i hi => by rw [show k + 1 + i = k + (i + 1) by omega]; exact h (i + 1) (by simp; omega)
theorem b5W {listed : Array Bool} : ∀ (l : List Oper) (k : Nat), (∀ i, i < l.length -> listed.getD (k + i) false = false) -> todo listed k l = l
 | [], _, _ => rfl
 | x :: r, k, h => by
   unfold todo
   rw [show listed.getD k false = false from h 0 (by simp), cond_false, b5W r (k + 1) fun i hi => by rw [show k + 1 + i = k + (i + 1) by omega]; exact h (i + 1) (by simp; omega)]
def done (listed : Array Bool) : Nat := listed.toList.countP (· = true)
theorem c2G {listed : Array Bool} {i : Nat} (hi : i < listed.size) (h : listed.getD i true = false) : done (listed.setIfInBounds i true) = done listed + 1 := by
 have hf : listed[i] = false := by rw [Ge, GG hi] at h; simpa using h
 unfold done
 rw [Array.toList_setIfInBounds]
 have hl : listed.toList = listed.toList.take i ++ listed.toList[i]'(by simpa using hi) :: listed.toList.drop (i + 1) := by
  conv => lhs; rw [← List.take_append_drop i listed.toList, List.drop_eq_getElem_cons (by simpa using hi)]
 rw [List.set_eq_take_append_cons_drop, if_pos (by simpa using hi)]
 conv => rhs; rw [hl]
 simp [List.countP_append, hf]
 omega
theorem d8j (listed : Array Bool) : done listed <= listed.size := by
 unfold done; rw [← Hl]; exact List.countP_le_length
end
section
variable {R : Type} {P : Gu} {E : Env} {g : G} {w : Gc} {cx : Cx} {ops : Array Oper}
theorem Sim.good {i : Oper} {slots : List D} {m : Mem} {dead : List Pos} {a : Act} (hs : Sim cx.T E g w ⟨slots, m, dead⟩ a) : Good cx i slots m := by
 intro t z _ k s o he
 have h := c2A hs.here.sk z (hs.slots.ev (T := cx.T) 0 z)
 rw [he] at h
 generalize a.eval z = v at h
 cases h with
 | ptr k s o hk hd =>
   rw [hs.here.dom] at hd
   exact hd
theorem Sim.drew {st : St} {a : Act} (hs : Sim cx.T E g w st a) : ∃ g', Sim cx.T E g' w.drew st a /\ Tr E.d g w g' w.drew :=
 ⟨g.at_ w.heap.size .imm, ⟨a9C (Grows.drew w) (FW _) _ hs.here, fun s x hx => (hs.slots s x hx).keep (Y3 (Grows.drew w) (FW _) _), hs.size, hs.defers⟩, b7T (Grows.drew w) (FW _) _ _⟩
theorem d1j (hcx : CxOK P cx) {acc : List Nat} (ho : Ordered ops cx ops.toList acc) {n : Nat} {K : St -> Option R} {r : R} {Q : Exit -> Act -> Gc -> Prop} :
 ∀ (fuel : Nat) (listed : Array Bool) (st : St) (a : Act) (w : Gc) (E : Env) (g : G), fuel + done listed = ops.size -> listed.size = ops.size ->
  (∀ (i : Nat) o, ops.toList[i]? = some o -> listed.getD i false = true -> ∀ e ∈ o.after, Ik .any e = true -> listed.getD e.on false = true) ->
  Sim cx.T E g w st a -> a.tmps.size = n -> a8V cx ops (todo listed 0 ops.toList) st K = some r ->
  (∀ st' a' w', K st' = some r -> Then cx.T E g w n st' a' w' -> Q .normal a' w') -> wpAny P .any ops Q fuel listed a w := by
 have e5P : ∀ (listed : Array Bool), listed.size = ops.size -> KM .any ops listed = [] -> ∀ j, j < ops.size -> listed.getD j false = true := by
  intro listed hsz hr j
  induction j using KR with
  | _ j ih =>
    intro hj
    have hoj : ops[j]? = some ops[j] := GG hj
    have hjl : j < listed.size := by rw [hsz]; exact hj
    cases hl : listed.getD j false with
    | true => rfl
    | false =>
      have : j ∈ KM .any ops listed := Nd.2 ⟨by
       rw [Ge, GG hjl] at hl ⊢; exact hl, _, hoj, fun e he hb => by
       have hlt := ho.back j _ (by simp) e he hb
       exact ih e.on hlt (by omega)⟩
      rw [hr] at this; cases this
 have d1u : ∀ (listed : Array Bool) (st : St) (a : Act) (w : Gc) (E : Env) (g : G), (∀ j, j < ops.size -> listed.getD j false = true) -> Sim cx.T E g w st a -> a.tmps.size = n -> a8V cx ops (todo listed 0 ops.toList) st K = some r ->
  (∀ st' a' w', K st' = some r -> Then cx.T E g w n st' a' w' -> Q .normal a' w') -> Q .normal a w := by
  intro listed st a w E g b1u hs hn h hq
  rw [c3m ops.toList 0 (fun i hi => by rw [GL]; exact b1u i (by rw [← Hl]; exact hi))] at h
  exact hq st a w h ⟨E, g, hs, rfl, Tr.refl _ _ _, hn⟩
 intro fuel
 induction fuel with
 | zero =>
   intro listed st a w E g hm hsz hcl hs hn h hq
   have b1u : ∀ j, j < ops.size -> listed.getD j false = true := by
    intro j hj
    have hjl : j < listed.size := by rw [hsz]; exact hj
    cases hl : listed.getD j false with
    | true => rfl
    | false =>
      have h1 := c2G (listed := listed) hjl (by rw [Ge, GG hjl] at hl ⊢; exact hl)
      have h2 := d8j (listed.setIfInBounds j true)
      rw [Array.size_setIfInBounds, hsz] at h2
      omega
   refine ⟨?_, d1u listed st a w E g b1u hs hn h hq⟩
   rcases hr : KM .any ops listed with _ | ⟨j, l⟩
   . rfl
   . have hj : j ∈ KM .any ops listed := by rw [hr]; exact List.mem_cons_self
     obtain ⟨hun, o, hoj, _⟩ := Nd.1 hj
     have hjs : j < ops.size := (Hz.1 hoj).1
     have h1 := b1u j hjs
     have hjl : j < listed.size := by rw [hsz]; exact hjs
     rw [Ge, GG hjl] at hun h1
     simp only [Kz] at hun h1
     rw [hun] at h1; cases h1
 | succ fuel ih =>
   intro listed st a w E g hm hsz hcl hs hn h hq
   refine ⟨fun hr => d1u listed st a w E g (e5P listed hsz hr) hs hn h hq, fun i hi => ?_⟩
   obtain ⟨hun, o, hoi, hrd⟩ := Nd.1 hi
   have his : i < ops.size := (Hz.1 hoi).1
   have hol : ops.toList[i]? = some o := by simpa using hoi
   obtain ⟨A, B, h1, h2, h3⟩ := b4r (listed := listed) ops.toList 0 i o hol (by rw [GL]; exact hun)
   rw [GL] at h2
   rw [h1] at h
   obtain ⟨slots, m, dead⟩ := st
   have hap : ∀ x ∈ A, Apart ops cx x o := by
    intro x hx
    obtain ⟨j, b1, b2, b3⟩ := h3 x hx
    rw [GL] at b3
    rcases ho.pair i j o x hol b2 b1 with hb | hb
    . have := ho.ahead (fun k => listed.getD k false = true) (fun k y hy hk e he hbd => hcl k y hy hk e he hbd) i o hol (fun e he hbd => hrd e he hbd) j hb
      rw [b3] at this; cases this
    . exact hb
   have h4 := c5i hcx.B B A slots m dead hap hs.good h
   rw [← h2] at h4
   have e1u : ∀ (st' : St) (a' : Act) (w' : Gc) (E' : Env) (g' : G), a8V cx ops (todo (listed.setIfInBounds i true) 0 ops.toList) st' K = some r -> Sim cx.T E' g' w' st' a' -> E'.d = E.d -> Tr E.d g w g' w' -> a'.tmps.size = n -> wpAny P .any ops Q fuel (listed.setIfInBounds i true) a' w' := by
    intro st' a' w' E' g' c1 c2 c3 c4 c5
    refine ih _ st' a' w' E' g' (by rw [c2G (by rw [hsz]; exact his) hun]; omega) (by simpa using hsz) (fun k y hy hk e he hbd => ?_) c2 c5 c1 fun st2 a2 w2 d1 d2 => hq st2 a2 w2 d1 (d2.trans c3 c4)
    have c3Q : ∀ k, (listed.setIfInBounds i true).getD k false = true ↔ k = i ∨ listed.getD k false = true := by
     intro k
     by_cases hki : k = i
     . subst hki; simp [Ge, hsz, his]
     . rw [Mj false (Jd hki)]; simp [hki]
    rcases (c3Q k).1 hk with rfl | hk
    . rw [hol] at hy; injection hy with hy; subst hy
      exact (c3Q _).2 (.inr (hrd e he hbd))
    . exact (c3Q _).2 (.inr (hcl k y hy hk e he hbd))
   unfold Go.wpOp
   simp only [hoi]
   rcases b3Y hcx hs h4 with ⟨hw, st', c1, c2⟩ | ⟨hw, st', c1, c2⟩
   . rw [if_pos hw]
     refine .inl ((c2 (fun v w' => ∃ E' g', Sim cx.T E' g' w' st' (a.put o.dst v) /\ E'.d = E.d /\ Tr E.d g w g' w') (fun v w' g' E' b1 b2 b3 => ⟨E', g', b1, b2, b3⟩)).2 _ Q ?_)
     rintro v w' ⟨E', g', b1, b2, b3⟩
     exact e1u st' _ w' E' g' c1 b1 b2 b3 (by rw [M1]; exact hn)
   . rw [hw]
     simp only [GW, if_false]
     exact e1u st' _ w E g c1 c2 rfl (Tr.refl _ _ _) (by rw [M1]; exact hn)
theorem c9p (hm : P.follows .mixedOrders = true) (hcx : CxOK P cx) (h : a3R cx ops = true) : c0V P cx ops := by
 intro R n id st a w E g K r Q hs hn hk hq
 obtain ⟨acc, ho⟩ := c5P h
 obtain ⟨g1, h1, h2⟩ := hs.drew
 have hf : ∀ i, (HM ops.size false).getD i false = false := by
  intro i
  rw [Ge]
  rcases Hi i ops.size with hi | hi
  . rw [Ks, if_pos hi]; rfl
  . rw [Ks, if_neg (by omega)]; rfl
 refine wp_region_any hm (d1j hcx ho (n := n) (K := K) (r := r) ops.size _ st a w.drew E g1 ?_ (by simp) (fun i o _ hi => ?_) h1 hn ?_ fun st' a' w' c1 c2 => hq st' a' w' c1 (c2.trans rfl h2))
 . simp [done, List.countP_replicate]
 . rw [hf] at hi; cases hi
 . rw [b5W ops.toList 0 (fun i hi => hf _)]; exact hk
end
end En
namespace En
open Go
section
variable {R : Type} {P : Gu} {E : Env} {g : G} {w : Gc} {cx : Cx}
theorem e0Z {dead dead' : List Pos} {x : D} {v : FX} (h : RepD E g w dead x v) : RepD E g w dead' x.bare v := by
 induction h with
 | v x a v h ha => exact .v _ _ _ h trivial
 | ptr k s o h1 h2 => exact .ptr k s o h1 h2
 | nilp => exact .nilp
 | eptr cs o b off us h hr => exact .eptr cs o b off us h hr
 | clos f caps us hn' hr ih =>
   refine .clos f _ us (by rw [E9]; exact hn') fun k y hy => ?_
   obtain ⟨z, hz, rfl⟩ := J8 _ k y hy
   exact ih k z hz
 | nilF => exact .nilF
 | fn n fs k s v h => exact .fn n fs k s v h
 | bld => exact .bld
 | agg ds us hn' hr ih =>
   refine .agg _ us (by rw [E9]; exact hn') fun k y hy => ?_
   obtain ⟨z, hz, rfl⟩ := J8 _ k y hy
   exact ih k z hz
 | tup ds us hn' hr ih =>
   refine .tup _ us (by rw [E9]; exact hn') fun k y hy => ?_
   obtain ⟨z, hz, rfl⟩ := J8 _ k y hy
   exact ih k z hz
 | any v => exact .any v
theorem b6B : ∀ (n : Nat) (K : List D -> Option R), b9g n K = K (GX n .any)
 | 0, K => rfl
 | n + 1, K => by simp only [b9g, b6B n, List.replicate_succ]
theorem b1R : ∀ (ds : List D) (n : Nat) (K : List D -> Option R), c5L n ds K = K (ds ++ GX (n - ds.length) .any)
 | [], n, K => by simp only [c5L, b6B]; rfl
 | d :: ds, n, K => by
   simp only [c5L, b1R ds, Gw, List.length_cons]
   rw [show n - 1 - ds.length = n - (ds.length + 1) by omega]
def b2W (tmps : Array FX) : Lg -> Sem FX
 | .tmp t => pure (tmps.getD t undef)
 | .cell a t => do loadVar t (← asAddr (tmps.getD a undef))
theorem a3Z (fn : Func) (tmps : Array FX) : results fn tmps = (do
 let vs ← fn.results.mapM (b2W tmps)
 pure (if h : vs.size = 1 then vs[0] else .tuple vs)) := rfl
theorem c6P (us : List FX) : (if h : us.toArray.size = 1 then us.toArray[0] else .tuple us.toArray) = S0 us := by
 match us with
 | [] => rfl
 | [u] => rfl
 | u :: u' :: us => simp [S0]
theorem c4X {t : FP} {u v : FX} {w' : Gc} (h : (Ju t u).run P w = .ok v w') : (do loadVar t (← asAddr u)).run P w = .ok v w' := by
 unfold Ju at h
 rw [Gq] at h ⊢
 cases u with
 | pointer x =>
   cases x with
   | some a => exact h
   | none => simp [Io] at h
 | _ => simp [Io] at h
theorem c4c (hT : D7 P cx.T) {st : St} {a : Act} (hs : Sim cx.T E g w st a) (x : Lg) {K : D -> Option R} {r : R} (h : e0d cx x st K = some r) :
 ∃ d u, K d = some r /\ (b2W a.tmps x).run P w = .ok u w /\ RepD E g w [] d u := by
 cases x with
 | tmp t =>
   simp only [e0d, N8, forceD_eq] at h
   refine ⟨_, _, h, rfl, ?_⟩
   have := hs.slots.ev (T := cx.T) 0 (.tmp t)
   exact e0Z this
 | cell p ty =>
   simp only [e0d, N8] at h
   rw [← b9W] at h
   obtain ⟨d, h1, h2⟩ := bind_some h
   rw [forceD_eq] at h2
   have hp := hs.slots.ev (T := cx.T) 0 (.tmp p)
   obtain ⟨v, h3, h4⟩ := b0P (P := P) hT ty _ _ hp hs.here.mem d h1
   refine ⟨_, v, h2, ?_, e0Z h4⟩
   exact c4X h3
theorem b0W (hT : D7 P cx.T) {st : St} {a : Act} (hs : Sim cx.T E g w st a) : ∀ (l : List Lg) (K : List D -> Option R) (r : R), b4D cx l st K = some r ->
 ∃ rs us, K rs = some r /\ (l.mapM (b2W a.tmps)).run P w = .ok us w /\ RepDs E g w [] rs us
 | [], K, r, h => ⟨[], [], h, by simp, rfl, fun k y hk => by simp at hk⟩
 | x :: l, K, r, h => by
   simp only [b4D] at h
   obtain ⟨d, u, h1, h2, h3⟩ := c4c hT hs x h
   obtain ⟨rs, us, h4, h5, h6, h7⟩ := b0W hT hs l _ r h1
   refine ⟨d :: rs, u :: us, h4, ?_, by simp [h6], fun k y hk => ?_⟩
   . rw [List.mapM_cons]
     simp only [Gq, h2, Gg, h5, Hj]
   . rcases k with _ | k
     . simp at hk; subst hk; simpa using h3
     . simpa using h7 k y (by simpa using hk)
theorem c1L (hT : D7 P cx.T) {st : St} {a : Act} (hs : Sim cx.T E g w st a) (fn : Func) {K : List D -> Option R} {r : R} (h : b4D cx fn.results.toList st K = some r) :
 ∃ rs us, K rs = some r /\ (results fn a.tmps).run P w = .ok (S0 us) w /\ RepDs E g w [] rs us := by
 obtain ⟨rs, us, h1, h2, h3⟩ := b0W hT hs _ K r h
 refine ⟨rs, us, h1, ?_, h3⟩
 rw [a3Z, Array.mapM_eq_mapM_toList]
 simp only [Gq, map_eq_pure_bind, h2, Gg, Hj]
 exact congrArg (fun v => Result.ok v w) (c6P us)
theorem b3F (hcx : CxOK P cx) {f : Gv} {fn : Func} {c : Code} (hf : P.funcs[f]? = some fn) (hb : fn.body = some c) (hro : D6 P cx c) (hl : B8 cx fn.ntmps c)
 {ds : List D} {us : List FX} (Q8 : ds.length <= fn.ntmps) {m : Mem} (hh : Here cx.T E g w ([] :: m)) (hr : RepDs E g w [] ds us) {K : List D -> Mem -> Option R} {r : R} (h : M4 cx fn ds m K = some r)
 {post : Ending -> Gc -> Prop} (hq : ∀ rs us' m' E' g' w', K rs m' = some r -> Here cx.T E' g' w' m' -> RepDs E' g' w' [] rs us' -> E'.d = E.d -> Tr E.d g w g' w' -> post (.returned (S0 us')) w') :
 IF P f us.toArray w post := by
 refine calls_of_wp hf hb ?_
 unfold M4 at h
 rw [hb] at h
 simp only [b1R] at h
 have d7c : Sim cx.T E g w ⟨ds ++ GX (fn.ntmps - ds.length) .any, [] :: m, []⟩ { tmps := us.toArray ++ HM (fn.ntmps - us.toArray.size) undef, defers := [] } := by
  refine ⟨hh, fun s x hx => ?_, by simp [hr.1], rfl⟩
  rcases Hi s ds.length with hlt | hge
  . rw [Gh hlt] at hx
    have := hr.2 s x hx
    have e : (us.toArray ++ HM (fn.ntmps - us.toArray.size) undef).getD s undef = us.getD s undef := by
     rw [Ge, GD (by simp [hr.1]; exact hlt), FV]; simp
    rw [e]; exact this
  . rw [Gk hge, List.getElem?_replicate] at hx
    split at hx
    . injection hx with hx; subst hx; exact .any _
    . cases hx
 refine (a8f hcx c hro).1 _ fn.ntmps _ _ w E g _ r _ hl d7c (by simp [hr.1]; omega) h fun e st' a' w' hk ht => ?_
 obtain ⟨E', g', b1, b2, b3, b4⟩ := ht
 have fin : (b4D cx fn.results.toList st' fun rs => K rs st'.mem) = some r -> ∃ v, (results fn a'.tmps).run P w' = .ok v w' /\ post (.returned v) w' := by
  intro hk
  obtain ⟨rs, us', c1, c2, c3⟩ := c1L hcx.T b1 fn hk
  exact ⟨_, c2, hq rs us' st'.mem E' g' w' c1 b1.here c3 b2 b3⟩
 cases e with
 | normal => exact ⟨b1.defers, fin hk⟩
 | ret => exact ⟨b1.defers, fin hk⟩
 | exit i => cases hk
 | goto l => cases hk
def Perm.hid : Perm -> Perm
 | .imm => .imm
 | .low n => .low n
 | .own _ n => .low n
 | .box _ _ => .low 0
def G.hide (g : G) : G := { g with Γ := fun b => (g.Γ b).hid }
def G.settle (g : G) (n : Nat) (g' : G) : G := { g with Γ := fun b => if b < n then g.Γ b else (g'.Γ b).hid }
theorem a9B (p : Perm) : p.hid.still = true := by cases p <;> rfl
theorem W1 (p : Perm) : p.hid = .imm ∨ ∃ n, p.hid = .low n := by cases p <;> simp [Perm.hid]
theorem a5e (g : G) (b o : Nat) : s5 g.hide b o ↔ s5 g b o := by
 unfold s5 G.hide
 simp only
 cases g.Γ b <;> simp [Perm.hid]
theorem a2f {g g' : G} {n b o : Nat} (h : s5 g' b o) (hold : b < n -> g'.Γ b = g.hide.Γ b) : s5 (g.settle n g') b o := by
 unfold s5 G.settle
 simp only
 by_cases hb : b < n
 . rw [if_pos hb]
   have : s5 g.hide b o := by unfold s5 at h ⊢; rw [hold hb] at h; exact h
   exact (a5e g b o).1 this
 . rw [if_neg hb]
   have := (a5e g' b o).2 h
   exact this
mutual
def D.far : D -> Bool
 | .ptr _ _ _ => false
 | .fn _ _ _ _ => false
 | .clos _ caps => fars caps
 | .agg ds => fars ds
 | .tup ds => fars ds
 | _ => true
def fars : List D -> Bool
 | [] => true
 | d :: ds => d.far && fars ds
end
theorem a4T : ∀ (ds : List D), fars ds = true -> ∀ (i : Nat) y, ds[i]? = some y -> y.far = true
 | [], _, i, y, h => by simp at h
 | d :: ds, h, 0, y, hy => by simp only [fars, FT] at h; simp at hy; subst hy; exact h.1
 | d :: ds, h, i + 1, y, hy => by simp only [fars, FT] at h; exact a4T ds h.2 i y (by simpa using hy)
theorem RepD.far_ {E' : Env} {g' : G} {w' : Gc} {dead dead' : List Pos} (hl : Later g w g' w') {x : D} {v : FX} (h : RepD E g w dead x v) : x.far = true -> RepD E' g' w' dead' x.bare v := by
 induction h with
 | v x a v h ha => exact fun _ => .v _ _ _ (h.later hl) trivial
 | ptr k s o h1 h2 => intro hf; cases hf
 | nilp => exact fun _ => .nilp
 | eptr cs o b off us h hr => exact fun _ => .eptr cs o b off us (fun k y hy => hl.st _ _ _ (h k y hy).1 (h k y hy).2) (fun k y hy => (hr k y hy).later hl)
 | clos f caps us hn' hr ih =>
   intro hf
   refine .clos f _ us (by rw [E9]; exact hn') fun k y hy => ?_
   obtain ⟨z, hz, rfl⟩ := J8 _ k y hy
   exact ih k z hz (a4T _ hf k z hz)
 | nilF => exact fun _ => .nilF
 | fn n fs k s v h => intro hf; cases hf
 | bld => exact fun _ => .bld
 | agg ds us hn' hr ih =>
   intro hf
   refine .agg _ us (by rw [E9]; exact hn') fun k y hy => ?_
   obtain ⟨z, hz, rfl⟩ := J8 _ k y hy
   exact ih k z hz (a4T _ hf k z hz)
 | tup ds us hn' hr ih =>
   intro hf
   refine .tup _ us (by rw [E9]; exact hn') fun k y hy => ?_
   obtain ⟨z, hz, rfl⟩ := J8 _ k y hy
   exact ih k z hz (a4T _ hf k z hz)
 | any v => exact fun _ => .any v
theorem RepDs.far_ {E' : Env} {g' : G} {w' : Gc} {dead dead' : List Pos} (hl : Later g w g' w') {ds : List D} {us : List FX} (h : RepDs E g w dead ds us) (hf : fars ds = true) : RepDs E' g' w' dead' (bares ds) us :=
 ⟨by rw [h.1, E9], fun k y hk => by
  obtain ⟨z, hz, rfl⟩ := J8 _ k y hk
  exact (h.2 k z hz).far_ hl (a4T _ hf k z hz)⟩
theorem O1 (g : G) (w : Gc) : Later g w g.hide w := ⟨rfl, fun b o v h1 h2 => ⟨(a5e g b o).2 h1, h2⟩, fun b x h1 h2 => ⟨by simp only [G.hide, h1, Perm.hid], h2⟩⟩
theorem c4K (hcx : CxOK P cx) {f : Gv} {fn : Func} {c : Code} (hf : P.funcs[f]? = some fn) (hb : fn.body = some c) (hro : D6 P cx c) (hl : B8 cx fn.ntmps c)
 {ds : List D} (Q8 : ds.length <= fn.ntmps) (b5D : fars ds = true) (c3R : bares ds = ds) {rf : List D -> Mem -> Option R} {r : R} (h : M4 cx fn ds [] rf = some r)
 {rs : List D} (hrs : ∀ rs' m, rf rs' m = some r -> fars rs' = true /\ bares rs' = rs) : H8 P cx.T f ds rs := by
 intro E g w us hsz hus
 have hh : Here cx.T ⟨0, F4 [[]]⟩ g.hide w ([] :: []) := by
  refine ⟨fun k s b hb => ?_, rfl, hsz.later (O1 g w), rfl⟩
  exfalso
  rcases k with _ | k
  . simp [Mem.box?, G2] at hb
  . simp [Mem.box?] at hb
 have hr : RepDs ⟨0, F4 [[]]⟩ g.hide w [] ds us := by
  have := hus.far_ (E' := ⟨0, F4 [[]]⟩) (dead' := []) (O1 g w) b5D
  rwa [c3R] at this
 refine b3F hcx hf hb hro hl Q8 hh hr h fun rs' us' m' E' g' w' h1 h2 h3 h4 h5 => ?_
 obtain ⟨h6, h7⟩ := hrs rs' m' h1
 have hold : ∀ b, b < w.heap.size -> g'.Γ b = g.hide.Γ b /\ w'.heap[b]? = w.heap[b]? := fun b hb => h5.hid b hb (W1 _)
 have c3Q : Later g' w' (g.settle w.heap.size g') w' := by
  refine ⟨?_, fun b o v a1 a2 => ⟨a2f a1 fun hb => (hold b hb).1, a2⟩, fun b x a1 a2 => ⟨?_, a2⟩⟩
  rotate_left
  . unfold G.settle
    simp only
    split
    . rename_i hb
      rw [(hold b hb).1] at a1
      simp only [G.hide] at a1
      cases hp : g.Γ b <;> rw [hp] at a1 <;> first | rfl | cases a1
    . rw [a1]; rfl
  show g.sz = g'.sz
  rw [h5.later.sz]; rfl
 refine ⟨us', g.settle w.heap.size g', rfl, fun E2 => ?_, ⟨⟨h5.os, h5.tape, h5.output, h5.size, fun b hb => (hold b hb).2⟩, fun b hb => ?_, fun b hb => ?_, rfl, rfl⟩⟩
 . have := h3.far_ (E' := E2) (dead' := []) c3Q h6
   rwa [h7] at this
 . unfold G.settle; simp only; rw [if_pos hb]
 . unfold G.settle; simp only; rw [if_neg (by omega)]; exact a9B _
end
end En
namespace En
open Go
structure Ent where
 f : Gv
 k : {R : Type} -> List D -> (List D -> Option R) -> Option R
def a5b : List Ent -> Gv -> Bool
 | [], _ => false
 | e :: r, g => cond (FZ e.f g) true (a5b r g)
def a1K {R : Type} : List Ent -> Gv -> List D -> (List D -> Option R) -> Option R
 | [], _, _, _ => none
 | e :: r, g, ds, K => cond (FZ e.f g) (e.k ds K) (a1K r g ds K)
structure Met where
 t : FP
 n : String
 f : Gv
def a2E : List Met -> FP -> String -> Option Gv
 | [], _, _ => none
 | e :: r, t, n => cond (FZ e.t t) (cond (e.n == n) (some e.f) (a2E r t n)) (a2E r t n)
def s6 (fn : Func) : Code := fn.body.getD .skip
section
variable {P : Gu} {T : FP -> Option Ty} {cx : Cx}
structure EntOK (P : Gu) (T : FP -> Option Ty) (e : Ent) : Prop where
 goes : a4z P e.f
 ret : ∀ (R : Type) (ds : List D) (K : List D -> Option R) (r : R), e.k ds K = some r -> ∃ rs, K rs = some r /\ H8 P T e.f ds rs
 b : ∀ (R : Type) (ds : List D) (K : List D -> Option R), e.k ds K = (e.k ds some).bind K
def a5s (P : Gu) (T : FP -> Option Ty) : List Ent -> Prop
 | [] => True
 | e :: r => EntOK P T e /\ a5s P T r
def b9d (P : Gu) : List Met -> Prop
 | [] => True
 | e :: r => b8e P e.t e.n e.f /\ b9d P r
theorem c7V {R : Type} {g : Gv} {ds : List D} {K : List D -> Option R} {r : R} : ∀ (l : List Ent), a5s P T l -> a1K l g ds K = some r -> ∃ rs, K rs = some r /\ a4z P g /\ H8 P T g ds rs
 | [], _, h => by cases h
 | e :: l, ho, h => by
   unfold a1K at h
   cases hb : FZ e.f g with
   | true =>
     have he := FM hb
     rw [hb, cond_true] at h
     obtain ⟨rs, h1, h2⟩ := ho.1.ret R ds K r h
     subst he
     exact ⟨rs, h1, ho.1.goes, h2⟩
   | false => rw [hb, cond_false] at h; exact c7V l ho.2 h
theorem d2T {R : Type} {g : Gv} {ds : List D} {K : List D -> Option R} : ∀ (l : List Ent), a5s P T l -> a1K l g ds K = (a1K l g ds some).bind K
 | [], _ => rfl
 | e :: l, ho => by
   unfold a1K
   cases FZ e.f g with
   | true => exact ho.1.b R ds K
   | false => exact d2T l ho.2
theorem b8r {t : FP} {n : String} {f : Gv} : ∀ (l : List Met), b9d P l -> a2E l t n = some f -> b8e P t n f
 | [], _, h => by cases h
 | e :: l, ho, h => by
   unfold a2E at h
   cases hb : FZ e.t t with
   | true =>
     have he := FM hb
     rw [hb, cond_true] at h
     cases hn : e.n == n with
     | true =>
       rw [hn, cond_true] at h
       injection h with h
       have hn := eq_of_beq hn
       subst he hn h
       exact ho.1
     | false => rw [hn, cond_false] at h; exact b8r l ho.2 h
   | false => rw [hb, cond_false] at h; exact b8r l ho.2 h
theorem K6 {f : Gv} {fn : Func} {c : Code} (hf : P.funcs[f]? = some fn) (hn : (fn.name == "runtime.NumGoroutine") = false) (hb : fn.body = some c) : a4z P f := by
 intro args w
 have hp : (program : Sem Gu).run P w = .ok P w := rfl
 simp only [callFunc, Gq, hp, Gg, hf, hn, hb, Option.isNone_some, GW, if_false, Hj]
theorem e0m {t : FP} {ty : Ty} (h1 : P.underlying t = some ty.desc) (h2 : (P.info? t).map (fun i => (i.zero, i.size, i.bytes)) = some (some ty.zero, ty.size, ty.nbytes)) (h3 : (ty.row || FZ ty.size 1) = true) (h4 : eqOKB P t ty = true) : TyOK P t ty := by
 refine ⟨h1, ?_, fun h => ?_, h4⟩
 . cases hi : P.info? t with
   | none => rw [hi] at h2; cases h2
   | some i =>
     rw [hi] at h2
     injection h2 with h2
     injection h2 with a h2
     injection h2 with b c
     exact ⟨i, rfl, a, b, c⟩
 . rw [h, Lo] at h3
   exact FM h3
def AllTo (p : Nat -> Prop) : Nat -> Prop
 | 0 => True
 | n + 1 => AllTo p n /\ p n
theorem AllTo.get {p : Nat -> Prop} : ∀ (n : Nat), AllTo p n -> ∀ k, k < n -> p k
 | 0, _, k, h => by omega
 | n + 1, ⟨h1, h2⟩, k, h => by
   by_cases hk : k = n
   . subst hk; exact h2
   . exact AllTo.get n h1 k (by omega)
theorem j7 {n rid : Nat} {b : Code} {ks xs : List Nat} (hr : X3 b = rid) (hk : cx.keep rid = ks) (hx : cx.keepX rid = xs)
 (h : ∀ (R : Type) (ds : List D) (m : Mem) (K : Ex -> List D -> Mem -> Option R) (r : R), cx.loopT rid ds m K = some r -> ∃ t, O9 (fun st K => codeK cx b st K) n ks xs t ds m K = some r) : p9 cx n b := by
 intro R ds m K r hh
 rw [hr] at hh ⊢
 rw [hk, hx]
 exact h R ds m K r hh
theorem j6 {n k : Nat} {fn : Func} (hk : (F2 (s6 fn)).length = k) (h : AllTo (fun i => p9 cx n (s4 fn i)) k) : B8 cx n (s6 fn) := by
 intro b hb
 obtain ⟨i, hi⟩ := List.getElem?_of_mem hb
 have hlt : i < k := by rw [← hk]; exact (FN.1 hi).1
 have := AllTo.get k h i hlt
 unfold s4 at this
 rw [FV] at this
 have e : (F2 (fn.body.getD .skip))[i]? = some b := hi
 rw [e] at this
 exact this
theorem R0 (hm : P.follows .mixedOrders = true) (hcx : CxOK P cx) {c : Code} (h : (drawnOf c).all (a3R cx) = true) : D6 P cx c :=
 fun ops ho => c9p hm hcx (Hg.1 h ops ho)
theorem c8C (hm : P.follows .mixedOrders = true) (hcx : CxOK P cx) {f : Gv} {fn : Func} (hf : P.funcs[f]? = some fn) (hb : fn.body = some (s6 fn)) (hro : (drawnOf (s6 fn)).all (a3R cx) = true) (hl : B8 cx fn.ntmps (s6 fn))
 {ds : List D} (Q8 : GY ds.length fn.ntmps = true) (b5D : fars ds = true) (c3R : bares ds = ds) {α : Type} {rf : List D -> Mem -> Option α} {r : α} (h : M4 cx fn ds [] rf = some r)
 {rs : List D} (hrs : ∀ rs' m, rf rs' m = some r -> fars rs' = true /\ bares rs' = rs) : H8 P cx.T f ds rs :=
 c4K hcx hf hb (R0 hm hcx hro) hl (Gm Q8) b5D c3R h hrs
section
variable {R : Type}
theorem L2 {α : Type} {o : Option α} {K : α -> Option R} {r : R} (h : j3 o K = some r) : ∃ a, o = some a /\ K a = some r := by
 cases o with
 | none => cases h
 | some a => exact ⟨a, rfl, h⟩
theorem a6E {α β : Type} {o : Option (α × β)} {K : α -> β -> Option R} {r : R} (h : s7 o K = some r) : ∃ a b, o = some (a, b) /\ K a b = some r := by
 rcases o with _ | ⟨a, b⟩
 . cases h
 . exact ⟨a, b, rfl, h⟩
def e0r {R α β γ δ ε : Type} (o : Option (α × β × γ × δ × ε)) (K : α -> β -> γ -> δ -> ε -> Option R) : Option R := match o with | some (a, b, c, d, e) => K a b c d e | none => none
def e1p {R a1 a2 a3 a4 a5 a6 a7 a8 a9 a10 : Type} (o : Option (a1 × a2 × a3 × a4 × a5 × a6 × a7 × a8 × a9 × a10)) (K : a1 -> a2 -> a3 -> a4 -> a5 -> a6 -> a7 -> a8 -> a9 -> a10 -> Option R) : Option R := match o with | some (a, b, c, d, e, f, g, h, i, j) => K a b c d e f g h i j | none => none
theorem e2I {α α' β : Type} (o : Option (α × α')) (F : α -> α' -> Option β) (K : β -> Option R) : (s7 o F).bind K = s7 o fun a b => (F a b).bind K := by rcases o with _ | ⟨a, b⟩ <;> rfl
end
end
end En
namespace En
open Go
inductive Ren (Pr : Nat -> Nat -> Nat -> Nat -> Prop) : D -> D -> Prop
 | v (x : V) : Ren Pr (.v x .no) (.v x .no)
 | nilp : Ren Pr .nilp .nilp
 | nilF : Ren Pr .nilF .nilF
 | bld : Ren Pr .bld .bld
 | any : Ren Pr .any .any
 | eptr (cs : List V) (o : Nat) : Ren Pr (.eptr cs o) (.eptr cs o)
 | ptr {k s k₁ s₁ : Nat} (o : Nat) (h : Pr k s k₁ s₁) : Ren Pr (.ptr k s o) (.ptr k₁ s₁ o)
 | fn {k s k₁ s₁ : Nat} (n : Int) (fs : List Gv) (h : Pr k s k₁ s₁) : Ren Pr (.fn n fs k s) (.fn n fs k₁ s₁)
 | clos (f : Gv) (cs cs₁ : List D) (hl : cs₁.length = cs.length) (h : ∀ (i : Nat) y y₁, cs[i]? = some y -> cs₁[i]? = some y₁ -> Ren Pr y y₁) : Ren Pr (.clos f cs) (.clos f cs₁)
 | agg (cs cs₁ : List D) (hl : cs₁.length = cs.length) (h : ∀ (i : Nat) y y₁, cs[i]? = some y -> cs₁[i]? = some y₁ -> Ren Pr y y₁) : Ren Pr (.agg cs) (.agg cs₁)
theorem Ren.flip {Pr : Nat -> Nat -> Nat -> Nat -> Prop} {d d₁ : D} (h : Ren Pr d d₁) : Ren (fun a b c e => Pr c e a b) d₁ d := by
 induction h with
 | v x => exact .v x
 | nilp => exact .nilp
 | nilF => exact .nilF
 | bld => exact .bld
 | any => exact .any
 | eptr cs o => exact .eptr cs o
 | ptr o h => exact .ptr o h
 | fn n fs h => exact .fn n fs h
 | clos f cs cs₁ hl h ih => exact .clos f cs₁ cs hl.symm fun i y y₁ h1 h2 => ih i y₁ y h2 h1
 | agg cs cs₁ hl h ih => exact .agg cs₁ cs hl.symm fun i y y₁ h1 h2 => ih i y₁ y h2 h1
theorem Ren.shift {Pr : Nat -> Nat -> Nat -> Nat -> Prop} {d d₁ : D} (h : Ren Pr d d₁) (k k₁ : Nat) : Ren (fun a b c e => ∃ a' c', a = a' + k /\ c = c' + k₁ /\ Pr a' b c' e) (d.shift k) (d₁.shift k₁) := by
 induction h with
 | v x => exact .v x
 | nilp => exact .nilp
 | nilF => exact .nilF
 | bld => exact .bld
 | any => exact .any
 | eptr cs o => exact .eptr cs o
 | ptr o h => exact .ptr o ⟨_, _, rfl, rfl, h⟩
 | fn n fs h => exact .fn n fs ⟨_, _, rfl, rfl, h⟩
 | clos f cs cs₁ hl h ih =>
   refine .clos f _ _ (by rw [K8, K8, hl]) fun i y y₁ h1 h2 => ?_
   obtain ⟨z, hz, rfl⟩ := P9 _ _ i y h1
   obtain ⟨z₁, hz₁, rfl⟩ := P9 _ _ i y₁ h2
   exact ih i z z₁ hz hz₁
 | agg cs cs₁ hl h ih =>
   refine .agg _ _ (by rw [K8, K8, hl]) fun i y y₁ h1 h2 => ?_
   obtain ⟨z, hz, rfl⟩ := P9 _ _ i y h1
   obtain ⟨z₁, hz₁, rfl⟩ := P9 _ _ i y₁ h2
   exact ih i z z₁ hz hz₁
section
variable {E E' : Env} {g g' : G} {w w' : Gc} {dead dead' : List Pos}
theorem b9s {Pr : Nat -> Nat -> Nat -> Nat -> Prop} (hl : Later g w g' w') (hp : ∀ k s k₁ s₁, Pr k s k₁ s₁ -> k <= E.d -> E.dom k s -> k₁ <= E'.d /\ E'.dom k₁ s₁ /\ g'.J (E'.d - k₁) s₁ = g.J (E.d - k) s) {d d₁ : D} (h : Ren Pr d d₁) : ∀ {v : FX}, RepD E g w dead d v -> RepD E' g' w' dead' d₁ v := by
 induction h with
 | v x => intro v h; cases h with | v x a v h ha => exact .v _ _ _ (h.later hl) trivial
 | nilp => intro v h; cases h; exact .nilp
 | nilF => intro v h; cases h; exact .nilF
 | bld => intro v h; cases h; exact .bld
 | any => intro v h; exact .any _
 | eptr cs o => intro v h; cases h with | eptr cs o b off us h hr => exact .eptr cs o b off us (fun k y hy => hl.st _ _ _ (h k y hy).1 (h k y hy).2) (fun k y hy => (hr k y hy).later hl)
 | ptr o hq =>
   intro v h
   cases h with
   | ptr k s o a1 a2 =>
     obtain ⟨b1, b2, b3⟩ := hp _ _ _ _ hq a1 a2
     rw [← b3]
     exact .ptr _ _ o b1 b2
 | fn n fs hq =>
   intro v h
   cases h with
   | fn n fs k s v h =>
     refine .fn _ _ _ _ v (h.imp fun ⟨a1, a2⟩ => ?_)
     obtain ⟨b1, b2, b3⟩ := hp _ _ _ _ hq a1 a2
     exact ⟨⟨b1, b2⟩, b3⟩
 | clos f cs cs₁ hlen hq ih =>
   intro v h
   cases h with
   | clos f cs us hn hr =>
     refine .clos f cs₁ us (by rw [hn, hlen]) fun i y₁ hy₁ => ?_
     have hi : i < cs.length := by rw [← hlen]; exact (FN.1 hy₁).1
     exact ih i _ y₁ (FQ hi) hy₁ (hr i _ (FQ hi))
 | agg cs cs₁ hlen hq ih =>
   intro v h
   cases h with
   | agg cs us hn hr =>
     refine .agg cs₁ us (by rw [hn, hlen]) fun i y₁ hy₁ => ?_
     have hi : i < cs.length := by rw [← hlen]; exact (FN.1 hy₁).1
     exact ih i _ y₁ (FQ hi) hy₁ (hr i _ (FQ hi))
theorem RepDs.ren {Pr : Nat -> Nat -> Nat -> Nat -> Prop} (hl : Later g w g' w') (hp : ∀ k s k₁ s₁, Pr k s k₁ s₁ -> k <= E.d -> E.dom k s -> k₁ <= E'.d /\ E'.dom k₁ s₁ /\ g'.J (E'.d - k₁) s₁ = g.J (E.d - k) s) {ds ds₁ : List D} {us : List FX}
 (hlen : ds₁.length = ds.length) (h : ∀ (i : Nat) y y₁, ds[i]? = some y -> ds₁[i]? = some y₁ -> Ren Pr y y₁) (hr : RepDs E g w dead ds us) : RepDs E' g' w' dead' ds₁ us := by
 refine ⟨by rw [hr.1, hlen], fun i y₁ hy₁ => ?_⟩
 have hi : i < ds.length := by rw [← hlen]; exact (FN.1 hy₁).1
 exact b9s hl hp (h i _ y₁ (FQ hi) hy₁) (hr.2 i _ (FQ hi))
end
inductive CRen (Q : Nat -> Nat -> Nat -> Prop) : D -> D -> Prop
 | v (x : V) (a : Att) : CRen Q (.v x a) (.v x a)
 | bld : CRen Q .bld .bld
 | ren {c c₁ : D} (hb : c ≠ .bld) (hb₁ : c₁ ≠ .bld) (h1 : c.one = true) (h2 : c.flat = true) (h3 : c₁.one = true) (h4 : c₁.flat = true) (hv : ∀ x a, c ≠ .v x a) (h : Ren (fun k s k₁ s₁ => k₁ = 0 /\ Q k s s₁) c c₁) : CRen Q c c₁
structure BRen (Q : Nat -> Nat -> Nat -> Prop) (B B₁ : Bx) : Prop where
 ty : B₁.ty = B.ty
 len : B₁.cells.length = B.cells.length
 cell : ∀ (i : Nat) c c₁, B.cells[i]? = some c -> B₁.cells[i]? = some c₁ -> CRen Q c c₁
section
variable {ps : List (Nat × Nat)} {d0 : Nat}
def posOf (ps : List (Nat × Nat)) (d0 d s : Nat) : Option Nat := ps.findIdx? fun p => decide (d0 - p.1 = d) && decide (p.2 = s)
structure Places (ps : List (Nat × Nat)) (d0 : Nat) : Prop where
 le : ∀ (j : Nat) (p : Nat × Nat), ps[j]? = some p -> p.1 <= d0
 one : ∀ (i j : Nat) (p : Nat × Nat), ps[i]? = some p -> ps[j]? = some p -> i = j
theorem b4p {d s j : Nat} (h : posOf ps d0 d s = some j) : ∃ k, ps[j]? = some (k, s) /\ d = d0 - k := by
 unfold posOf at h
 obtain ⟨hj, h1, _⟩ := List.findIdx?_eq_some_iff_getElem.1 h
 simp only [FT, decide_eq_true_eq] at h1
 refine ⟨ps[j].1, ?_, h1.1.symm⟩
 rw [FQ hj, ← h1.2]
theorem a5r (hp : Places ps d0) {j k s : Nat} (h : ps[j]? = some (k, s)) : posOf ps d0 (d0 - k) s = some j := by
 cases hq : posOf ps d0 (d0 - k) s with
 | none =>
   unfold posOf at hq
   rw [List.findIdx?_eq_none_iff] at hq
   have := hq _ (Gb h)
   simp at this
 | some i =>
   obtain ⟨k', h1, h2⟩ := b4p hq
   have a1 := hp.le _ _ h
   have a2 := hp.le _ _ h1
   simp only at a1 a2
   have : k' = k := by omega
   subst this
   rw [hp.one i j _ h1 h]
theorem b3e (hp : Places ps d0) {k s : Nat} (hk : k <= d0) (h : ∀ j : Nat, ps[j]? ≠ some (k, s)) : posOf ps d0 (d0 - k) s = none := by
 cases hq : posOf ps d0 (d0 - k) s with
 | none => rfl
 | some i =>
   obtain ⟨k', h1, h2⟩ := b4p hq
   have a2 := hp.le _ _ h1
   simp only at a2
   have : k' = k := by omega
   subst this
   exact absurd h1 (h i)
def inP (ps : List (Nat × Nat)) (d0 : Nat) : APos -> Option APos
 | .cell d s i => (posOf ps d0 d s).map fun j => .cell 0 j i
 | .slot _ _ => none
def e1Z (ps : List (Nat × Nat)) (d0 : Nat) : APos -> Option APos
 | .cell d j i => (match d with | 0 => (ps[j]?).map fun p => .cell (d0 - p.1) p.2 i | _ + 1 => none)
 | .slot _ _ => none
def Perm.view (ps : List (Nat × Nat)) (d0 : Nat) : Perm -> Perm
 | .imm => .imm
 | .low n => .low n
 | .own p n => (match inP ps d0 p with | some q => .own q n | none => .low n)
 | .box d s => (match posOf ps d0 d s with | some j => .box 0 j | none => .low 0)
def Perm.back (ps : List (Nat × Nat)) (d0 : Nat) : Perm -> Perm
 | .imm => .imm
 | .low n => .low n
 | .own p n => (match e1Z ps d0 p with | some q => .own q n | none => .low n)
 | .box d j => (match d with | 0 => (match ps[j]? with | some p => .box (d0 - p.1) p.2 | none => .low 0) | _ + 1 => .low 0)
def G.view (g : G) (ps : List (Nat × Nat)) (d0 : Nat) : G :=
 { Γ := fun b => (g.Γ b).view ps d0, J := fun d s => match d with | 0 => (match ps[s]? with | some p => g.J (d0 - p.1) p.2 | none => 0) | d + 1 => g.J (d + 1) s, sz := g.sz }
def G.unview (g : G) (ps : List (Nat × Nat)) (d0 n : Nat) (g₂ : G) : G :=
 { Γ := fun b => bif decide (b < n) && ((g.Γ b).view ps d0).still then g.Γ b else (g₂.Γ b).back ps d0, J := g.J, sz := g.sz }
theorem a4N (g : G) (b o : Nat) : s5 (g.view ps d0) b o ↔ s5 g b o := by
 unfold s5 G.view
 simp only
 cases g.Γ b with
 | imm => exact Kk
 | low n => exact Kk
 | own p n => simp only [Perm.view]; cases inP ps d0 p <;> exact Kk
 | box d s => simp only [Perm.view]; cases posOf ps d0 d s <;> simp
theorem a4n {p : Perm} (h : p.still = true) : p = .imm ∨ ∃ n, p = .low n := by cases p <;> simp [Perm.still] at h ⊢
structure Held (g : G) (w : Gc) (ps : List (Nat × Nat)) (d0 : Nat) (g₂ : G) (w' : Gc) : Prop where
 Γ : ∀ b, b < w.heap.size -> ((g.Γ b).view ps d0).still = true -> g₂.Γ b = (g.Γ b).view ps d0
 heap : ∀ b, b < w.heap.size -> ((g.Γ b).view ps d0).still = true -> w'.heap[b]? = w.heap[b]?
theorem O2 {g g₂ : G} {n b : Nat} (h1 : b < n) (h2 : ((g.Γ b).view ps d0).still = true) : (g.unview ps d0 n g₂).Γ b = g.Γ b := by
 unfold G.unview; simp [h1, h2]
theorem U3 {g g₂ : G} {n b : Nat} (h : ¬ (b < n /\ ((g.Γ b).view ps d0).still = true)) : (g.unview ps d0 n g₂).Γ b = (g₂.Γ b).back ps d0 := by
 unfold G.unview
 simp only
 cases hc : (decide (b < n) && ((g.Γ b).view ps d0).still) with
 | true => simp at hc; exact absurd hc h
 | false => rfl
theorem a6S {g g₂ : G} {w w' : Gc} (hh : Held g w ps d0 g₂ w') {b o : Nat} (h : s5 g₂ b o) : s5 (g.unview ps d0 w.heap.size g₂) b o := by
 by_cases hc : b < w.heap.size /\ ((g.Γ b).view ps d0).still = true
 . have h1 := hh.Γ b hc.1 hc.2
   unfold s5
   rw [O2 hc.1 hc.2]
   have : s5 (g.view ps d0) b o := by
    unfold s5 at h ⊢
    rw [h1] at h
    exact h
   exact (a4N g b o).1 this
 . unfold s5 at h ⊢
   rw [U3 hc]
   cases hg : g₂.Γ b with
   | imm => trivial
   | low n => rw [hg] at h; exact h
   | own p n => rw [hg] at h; simp only [Perm.back]; cases e1Z ps d0 p <;> exact h
   | box d s => rw [hg] at h; exact h.elim
theorem b2K {g g₂ : G} {w w' : Gc} (hh : Held g w ps d0 g₂ w') {b : Nat} (h : g₂.Γ b = .imm) : (g.unview ps d0 w.heap.size g₂).Γ b = .imm := by
 by_cases hc : b < w.heap.size /\ ((g.Γ b).view ps d0).still = true
 . have h1 := hh.Γ b hc.1 hc.2
   rw [O2 hc.1 hc.2]
   rw [h1] at h
   cases hp : g.Γ b with
   | imm => rfl
   | low n => rw [hp] at h; cases h
   | own p n => rw [hp] at h; simp only [Perm.view] at h; split at h <;> cases h
   | box d s => rw [hp] at h; simp only [Perm.view] at h; split at h <;> cases h
 . rw [U3 hc, h]; rfl
theorem c3q (hp : Places ps d0) {g : G} {w : Gc} {j k s i : Nat} {e : FP} {v : FX} (hj : ps[j]? = some (k, s)) (h : D1 g w (.cell (d0 - k) s i) e v) : D1 (g.view ps d0) w (.cell 0 j i) e v := by
 rcases h with h0 | ⟨b, n, cap, cur, h1, h2, h3, h4⟩
 . exact .inl h0
 . refine .inr ⟨b, n, cap, cur, h1, ?_, h3, h4⟩
   show (g.Γ b).view ps d0 = _
   rw [h2]
   simp only [Perm.view, inP, a5r hp hj, JJ]
   rfl
theorem b5r {g g₂ : G} {w w' : Gc} (hsz : g₂.sz = g.sz) (hh : Held g w ps d0 g₂ w') {j k s i : Nat} {e : FP} {v : FX} (hj : ps[j]? = some (k, s)) (h : D1 g₂ w' (.cell 0 j i) e v) : D1 (g.unview ps d0 w.heap.size g₂) w' (.cell (d0 - k) s i) e v := by
 rcases h with h0 | ⟨b, n, cap, cur, h1, h2, h3, h4⟩
 . exact .inl h0
 . have hsz' : (g.unview ps d0 w.heap.size g₂).sz = g₂.sz := hsz.symm
   refine .inr ⟨b, n, cap, cur, h1, ?_, h3, by rw [hsz']; exact h4⟩
   rw [U3]
   . rw [h2, hsz']
     simp only [Perm.back, e1Z, hj, JJ]
   . rintro ⟨a1, a2⟩
     have := hh.Γ b a1 a2
     rw [h2] at this
     rw [← this] at a2
     cases a2
theorem a1U {g g₂ : G} {w w' : Gc} (hh : Held g w ps d0 g₂ w') {p : APos} (hp : inP ps d0 p = none) {e : FP} {v : FX} (h : D1 g w p e v) : D1 (g.unview ps d0 w.heap.size g₂) w' p e v := by
 rcases h with h0 | ⟨b, n, cap, cur, h1, h2, h3, h4⟩
 . exact .inl h0
 . have hb := G7 h3
   have hs : ((g.Γ b).view ps d0).still = true := by rw [h2]; simp only [Perm.view, hp]; rfl
   exact .inr ⟨b, n, cap, cur, h1, by rw [O2 hb hs]; exact h2, by rw [hh.heap b hb hs]; exact h3, h4⟩
end
end En
namespace En
open Go
def J4 : Nat -> List Bx -> Fr
 | _, [] => []
 | i, b :: r => (i, b) :: J4 (i + 1) r
theorem c3J (j : Nat) : ∀ (Bs : List Bx) (i : Nat), G2 j (J4 i Bs) = if i <= j then Bs[j - i]? else none
 | [], i => by simp [J4, G2]
 | b :: Bs, i => by
   rw [J4, N0, c3J j Bs (i + 1)]
   by_cases h : j = i
   . subst h; simp
   . rw [if_neg h]
     by_cases h2 : i + 1 <= j
     . rw [if_pos h2, if_pos (by omega)]
       rw [show j - i = (j - (i + 1)) + 1 by omega, Hv]
     . rw [if_neg h2, if_neg (by omega)]
theorem V0 (j : Nat) (Bs : List Bx) : G2 j (J4 0 Bs) = Bs[j]? := by rw [c3J]; simp
def I0 : List (Nat × Nat) -> List Bx -> Mem -> Mem
 | p :: ps, B :: Bs, m => I0 ps Bs (m.setBox p.1 p.2 B)
 | _, _, m => m
theorem a0l : ∀ (ps : List (Nat × Nat)) (Bs : List Bx) (m : Mem), (I0 ps Bs m).length = m.length
 | [], _, m => by simp [I0]
 | _ :: _, [], m => by simp [I0]
 | p :: ps, B :: Bs, m => by rw [I0, a0l ps Bs, K7]
theorem Q9 {k s : Nat} : ∀ (ps : List (Nat × Nat)) (Bs : List Bx) (m : Mem), (∀ j : Nat, ps[j]? ≠ some (k, s)) -> (I0 ps Bs m).box? k s = m.box? k s
 | [], _, m, _ => by simp [I0]
 | _ :: _, [], m, _ => by simp [I0]
 | p :: ps, B :: Bs, m, h => by
   rw [I0, Q9 ps Bs _ (fun j => by have := h (j + 1); simpa using this), I8, if_neg]
   rintro ⟨rfl, rfl, _⟩
   exact h 0 (by simp)
theorem a1t : ∀ (ps : List (Nat × Nat)) (Bs : List Bx) (m : Mem) (j k s : Nat) (B : Bx), (∀ (i j : Nat) (p : Nat × Nat), ps[i]? = some p -> ps[j]? = some p -> i = j) -> ps[j]? = some (k, s) -> Bs[j]? = some B -> k < m.length -> (I0 ps Bs m).box? k s = some B
 | [], _, m, j, k, s, B, _, h, _, _ => by simp at h
 | _ :: _, [], m, j, k, s, B, _, _, h, _ => by simp at h
 | p :: ps, B0 :: Bs, m, 0, k, s, B, ho, h, hB, hk => by
   simp at h hB
   subst h hB
   rw [I0, Q9 ps Bs _ (fun j hj => by have := ho 0 (j + 1) (k, s) (by simp) (by simpa using hj); omega), I8, if_pos ⟨rfl, rfl, hk⟩]
 | p :: ps, B0 :: Bs, m, j + 1, k, s, B, ho, h, hB, hk => by
   rw [I0]
   exact a1t ps Bs _ j k s B (fun a b q h1 h2 => by have := ho (a + 1) (b + 1) q (by simpa using h1) (by simpa using h2); omega) (by simpa using h) (by simpa using hB) (by rw [K7]; exact hk)
section
variable {R : Type} {P : Gu} {T : FP -> Option Ty} {E E' : Env} {g g' : G} {w w' : Gc} {cx : Cx}
theorem c3H {Q : Nat -> Nat -> Nat -> Prop} {c c₁ : D} (hc : CRen Q c c₁) {k s i k₁ s₁ : Nat} {u : FX} (hl : Later g w g' w') (hk₁ : k₁ <= E'.d) (hown : ∀ e, D1 g w (.cell (E.d - k) s i) e u -> D1 g' w' (.cell (E'.d - k₁) s₁ i) e u)
 (hp : ∀ a b j, Q a b j -> a + k <= E.d -> E.dom (a + k) b -> 0 + k₁ <= E'.d /\ E'.dom (0 + k₁) j /\ g'.J (E'.d - (0 + k₁)) j = g.J (E.d - (a + k)) b) (h : RepD E g w [] (G6 k s i c) u) : RepD E' g' w' [] (G6 k₁ s₁ i c₁) u := by
 cases hc with
 | v x a =>
   cases a with
   | no => cases h with | v x a v h ha => exact .v _ _ _ (h.later hl) trivial
   | nil e => cases h with | v x a v h ha => exact .v _ _ _ (h.later hl) ha
   | own p e =>
     cases h with
     | v x a v h ha =>
       rcases ha with ha | ⟨_, ha⟩
       . cases ha
       . exact .v _ _ _ (h.later hl) (.inr ⟨hk₁, hown e ha⟩)
 | bld => exact .any _
 | ren hb hb₁ h1 h2 h3 h4 hv hr =>
   have e1 : G6 k s i c = c.shift k := by
    cases c with
    | v x a => exact absurd rfl (hv x a)
    | bld => exact absurd rfl hb
    | _ => rfl
   have e2 : G6 k₁ s₁ i c₁ = c₁.shift k₁ := by
    cases c₁ with
    | v x a => cases hr; exact absurd rfl (hv _ _)
    | bld => exact absurd rfl hb₁
    | _ => rfl
   rw [e1] at h
   rw [e2]
   refine b9s hl ?_ (hr.shift k k₁) h
   rintro K b K₁ j ⟨a, c', rfl, rfl, rfl, hq⟩ h5 h6
   exact hp a b j hq h5 h6
theorem b5V {Q : Nat -> Nat -> Nat -> Prop} {c c₁ : D} (hc : CRen Q c c₁) {k s i k₁ s₁ : Nat} {u : FX} (hl : Later g w g' w') (hk₁ : k₁ <= E'.d) (hown : ∀ e, D1 g w (.cell (E.d - k) s i) e u -> D1 g' w' (.cell (E'.d - k₁) s₁ i) e u)
 (hp : ∀ a b j, Q a b j -> 0 + k <= E.d -> E.dom (0 + k) j -> a + k₁ <= E'.d /\ E'.dom (a + k₁) b /\ g'.J (E'.d - (a + k₁)) b = g.J (E.d - (0 + k)) j) (h : RepD E g w [] (G6 k s i c₁) u) : RepD E' g' w' [] (G6 k₁ s₁ i c) u := by
 cases hc with
 | v x a =>
   cases a with
   | no => cases h with | v x a v h ha => exact .v _ _ _ (h.later hl) trivial
   | nil e => cases h with | v x a v h ha => exact .v _ _ _ (h.later hl) ha
   | own p e =>
     cases h with
     | v x a v h ha =>
       rcases ha with ha | ⟨_, ha⟩
       . cases ha
       . exact .v _ _ _ (h.later hl) (.inr ⟨hk₁, hown e ha⟩)
 | bld => exact .any _
 | ren hb hb₁ h1 h2 h3 h4 hv hr =>
   have e1 : G6 k s i c₁ = c₁.shift k := by
    cases c₁ with
    | v x a => cases hr; exact absurd rfl (hv _ _)
    | bld => exact absurd rfl hb₁
    | _ => rfl
   have e2 : G6 k₁ s₁ i c = c.shift k₁ := by
    cases c with
    | v x a => exact absurd rfl (hv x a)
    | bld => exact absurd rfl hb
    | _ => rfl
   rw [e1] at h
   rw [e2]
   refine b9s hl ?_ (hr.flip.shift k k₁) h
   rintro K b K₁ j ⟨a, c', rfl, rfl, rfl, hq⟩ h5 h6
   exact hp c' j b hq h5 h6
theorem a4p {Q : Nat -> Nat -> Nat -> Prop} {c c₁ : D} (hc : CRen Q c c₁) : (c.one = true /\ c.flat = true -> c₁.one = true /\ c₁.flat = true) /\ (c₁.one = true /\ c₁.flat = true -> c.one = true /\ c.flat = true) /\ (c = .bld ↔ c₁ = .bld) := by
 cases hc with
 | v x a => exact ⟨id, id, Kk⟩
 | bld => exact ⟨id, id, Kk⟩
 | ren hb hb₁ h1 h2 h3 h4 hv hr => exact ⟨fun _ => ⟨h3, h4⟩, fun _ => ⟨h1, h2⟩, ⟨fun e => absurd e hb, fun e => absurd e hb₁⟩⟩
structure BRenX (Q : Nat -> Nat -> Nat -> Prop) (B B₁ : Bx) : Prop where
 ty : B₁.ty = B.ty
 len : B₁.cells.length = B.cells.length
 cell : ∀ (i : Nat) c c₁, B.cells[i]? = some c -> B₁.cells[i]? = some c₁ -> CRen Q c c₁ ∨ ∃ x a, c = .v x .no /\ c₁ = .v x a
theorem BRen.x {Q : Nat -> Nat -> Nat -> Prop} {B B₁ : Bx} (h : BRen Q B B₁) : BRenX Q B B₁ := ⟨h.ty, h.len, fun i c c₁ h1 h2 => .inl (h.cell i c c₁ h1 h2)⟩
theorem b2y (hcx : CxOK P cx) {f : Gv} {fn : Func} {c : Code} (hf : P.funcs[f]? = some fn) (hb : fn.body = some c) (hro : D6 P cx c) (hl : B8 cx fn.ntmps c)
 {ds ds₁ : List D} (Q8 : ds₁.length <= fn.ntmps) {m : Mem} {ps : List (Nat × Nat)} {Bs₁ : List Bx} (T9 : ∀ (i j : Nat) (p : Nat × Nat), ps[i]? = some p -> ps[j]? = some p -> i = j)
 (Q7 : ∀ (j : Nat) (p : Nat × Nat), ps[j]? = some p -> ∃ B B₁, m.box? p.1 p.2 = some B /\ Bs₁[j]? = some B₁ /\ BRen (fun k s i => ps[i]? = some (p.1 + k, s)) B B₁) (hlen₁ : Bs₁.length = ps.length)
 (hlen : ds₁.length = ds.length) (hds : ∀ (i : Nat) y y₁, ds[i]? = some y -> ds₁[i]? = some y₁ -> Ren (fun k s k₁ s₁ => ∃ k', k = k' + 1 /\ k₁ = 1 /\ ps[s₁]? = some (k', s)) y y₁)
 {rf : List D -> Mem -> Option R} {r : R} (h : M4 cx fn ds₁ [J4 0 Bs₁] rf = some r) {rs : List D} {Bs' : List Bx} (hlen' : Bs'.length = ps.length)
 (hrs : ∀ rs' m', rf rs' m' = some r -> fars rs' = true /\ bares rs' = rs /\ ∃ own Bs₂, m' = [own, J4 0 Bs₂] /\ ∀ (j : Nat) (p : Nat × Nat) B', ps[j]? = some p -> Bs'[j]? = some B' -> ∃ B₂, Bs₂[j]? = some B₂ /\ BRenX (fun k s i => ps[i]? = some (p.1 + k, s)) B' B₂)
 (dst : Nat) : a0B P cx.T f dst ds m rs (I0 ps Bs' m) := by
 intro E g w us hh hus
 have hp : Places ps E.d := ⟨fun j p hj => by
  obtain ⟨B, B₁, h1, _⟩ := Q7 j p hj
  exact (hh.mem _ _ _ h1).le, T9⟩
 have hB₁ : ∀ (j : Nat) (B₁ : Bx), Bs₁[j]? = some B₁ -> ∃ p, ps[j]? = some p := fun j B₁ hj => by
  have : j < ps.length := by rw [← hlen₁]; exact (FN.1 hj).1
  exact ⟨_, FQ this⟩
 have hlat : Later g w (g.view ps E.d) w := ⟨rfl, fun b o v h1 h2 => ⟨(a4N g b o).2 h1, h2⟩, fun b x h1 h2 => ⟨by show (g.Γ b).view ps E.d = _; rw [h1]; rfl, h2⟩⟩
 have hJ : ∀ (j k s : Nat), ps[j]? = some (k, s) -> (g.view ps E.d).J 0 j = g.J (E.d - k) s := fun j k s hj => by
  show (match ps[j]? with | some p => g.J (E.d - p.1) p.2 | none => 0) = _
  rw [hj]
 have hh1 : Here cx.T ⟨1, F4 ([] :: [J4 0 Bs₁])⟩ (g.view ps E.d) w ([] :: [J4 0 Bs₁]) := by
  refine ⟨fun k s b hbx => ?_, rfl, hh.sk.later hlat, rfl⟩
  rcases k with _ | _ | k
  . simp [Mem.box?, G2] at hbx
  . have hbx : Bs₁[s]? = some b := by rw [← V0]; exact hbx
    obtain ⟨⟨k', s'⟩, hj⟩ := hB₁ s b hbx
    obtain ⟨B, B₁, h1, h2, h3⟩ := Q7 s _ hj
    rw [hbx] at h2
    injection h2 with h2
    subst h2
    have hr := hh.mem _ _ _ h1
    obtain ⟨cs, a1, a2, a3⟩ := hr.heap
    refine ⟨FW _, ?_, cs, ?_, by rw [a2, h3.len], fun i c₁ hc₁ => ?_⟩
    . show (g.Γ ((g.view ps E.d).J 0 s)).view ps E.d = _
      rw [hJ s k' s' hj, hr.perm]
      simp only [Perm.view, a5r hp hj]
    . show w.heap[(g.view ps E.d).J 0 s]? = _
      rw [hJ s k' s' hj, h3.ty]; exact a1
    . have hi : i < B.cells.length := by rw [← h3.len]; exact (FN.1 hc₁).1
      have hcc := FQ hi
      have hcr := h3.cell i _ c₁ hcc hc₁
      obtain ⟨b1, b2, b3, b4⟩ := a3 i _ hcc
      obtain ⟨s1, _, s3⟩ := a4p hcr
      refine ⟨(s1 ⟨b1, b2⟩).1, (s1 ⟨b1, b2⟩).2, fun e => ?_, ?_⟩
      . show c2s ((g.view ps E.d).J 0 s) _
        rw [hJ s k' s' hj]; exact b3 (s3.2 e)
      . refine c3H hcr hlat (FW _) (fun e ho => c3q hp hj ho) ?_ b4
        intro a b j hq _ _
        obtain ⟨B2, B2', _, c2, _⟩ := Q7 j _ hq
        refine ⟨FW _, ⟨B2', ?_⟩, ?_⟩
        . show G2 j (J4 0 Bs₁) = _
          rw [V0]; exact c2
        . show (g.view ps E.d).J 0 j = _
          rw [hJ j _ _ hq, IQ]
  . simp [Mem.box?] at hbx
 have hr1 : RepDs ⟨1, F4 ([] :: [J4 0 Bs₁])⟩ (g.view ps E.d) w [] ds₁ us := by
  refine hus.ren hlat ?_ hlen hds
  rintro k s k₁ s₁ ⟨k', rfl, rfl, hq⟩ h5 h6
  obtain ⟨B2, B2', _, c2, _⟩ := Q7 s₁ _ hq
  refine ⟨FW _, ⟨B2', ?_⟩, ?_⟩
  . show G2 s₁ (J4 0 Bs₁) = _
    rw [V0]; exact c2
  . show (g.view ps E.d).J 0 s₁ = g.J (E.d + 1 - (k' + 1)) s
    rw [hJ _ _ _ hq, JD]
 refine b3F hcx hf hb hro hl Q8 hh1 hr1 h fun rs' us' m' E2 g2 w' q1 q2 q3 q4 q5 => ?_
 obtain ⟨r1, r2, own, Bs₂, rfl, r3⟩ := hrs rs' m' q1
 have held : Held g w ps E.d g2 w' := by
  refine ⟨fun b hb hs => (q5.hid b hb (a4n hs)).1, fun b hb hs => (q5.hid b hb (a4n hs)).2⟩
 have hJ2 : ∀ (j k s : Nat), ps[j]? = some (k, s) -> g2.J 0 j = g.J (E.d - k) s := fun j k s hj => by
  rw [q5.J 0 j (KQ), hJ j k s hj]
 have hsz2 : g2.sz = g.sz := q5.later.sz
 have a3B : Later g2 w' (g.unview ps E.d w.heap.size g2) w' := ⟨hsz2.symm, fun b o v h1 h2 => ⟨a6S held h1, h2⟩, fun b x h1 h2 => ⟨b2K held h1, h2⟩⟩
 have hlat' : Later g w (g.unview ps E.d w.heap.size g2) w' := (hlat.trans q5.later).trans a3B
 have c3S : ∀ (j : Nat) (p : Nat × Nat), ps[j]? = some p -> ∃ B₂, G2 j (J4 0 Bs₂) = some B₂ /\ ∃ B', Bs'[j]? = some B' /\ BRenX (fun k s i => ps[i]? = some (p.1 + k, s)) B' B₂ := fun j p hj => by
  have hj' : j < Bs'.length := by rw [hlen']; exact (FN.1 hj).1
  obtain ⟨B₂, h1, h2⟩ := r3 j p _ hj (FQ hj')
  exact ⟨B₂, by rw [V0]; exact h1, _, FQ hj', h2⟩
 have hdm : F4 (I0 ps Bs' m) = F4 m := by
  funext k s
  by_cases hx : ∃ j : Nat, ps[j]? = some (k, s)
  . obtain ⟨j, hj⟩ := hx
    obtain ⟨B₂, _, B', h1, _⟩ := c3S j _ hj
    obtain ⟨B, _, h2, _⟩ := Q7 j _ hj
    have h3 := a1t ps Bs' m j k s B' T9 hj h1 (a2h _ _ _ _ h2)
    exact propext ⟨fun _ => ⟨_, h2⟩, fun _ => ⟨_, h3⟩⟩
  . have := Q9 ps Bs' m (k := k) (s := s) (fun j hj => hx ⟨j, hj⟩)
    unfold F4; rw [this]
 refine ⟨us', g.unview ps E.d w.heap.size g2, E, rfl, ⟨hlat', rfl, fun _ _ h => h, fun _ _ _ _ => rfl, fun s e v ho => a1U held rfl ho⟩, ⟨fun k s b hbx => ?_, ?_, hh.sk.later hlat', by rw [a0l]; exact hh.len⟩, ?_, ?_⟩
 . by_cases hx : ∃ j : Nat, ps[j]? = some (k, s)
   . obtain ⟨j, hj⟩ := hx
     obtain ⟨B₂, hB₂, B', h1, h2⟩ := c3S j _ hj
     obtain ⟨B, _, h3, _⟩ := Q7 j _ hj
     rw [a1t ps Bs' m j k s B' T9 hj h1 (a2h _ _ _ _ h3)] at hbx
     injection hbx with hbx
     subst hbx
     have hr := hh.mem _ _ _ h3
     have hr2 := q2.mem 1 j B₂ hB₂
     have hd2 : E2.d = 1 := q4
     obtain ⟨cs, a1, a2, a3⟩ := hr2.heap
     rw [hd2, hJ2 j k s hj] at a1
     have hp2 := hr2.perm
     rw [hd2, hJ2 j k s hj] at hp2
     refine ⟨hr.le, ?_, cs, by rw [← h2.ty]; exact a1, by rw [a2, h2.len], fun i c hc => ?_⟩
     . show (g.unview ps E.d w.heap.size g2).Γ (g.J (E.d - k) s) = _
       rw [U3]
       . rw [hp2]
         show (match ps[j]? with | some p => Perm.box (E.d - p.1) p.2 | none => .low 0) = _
         rw [hj]
       . rintro ⟨_, hs⟩
         rw [hr.perm] at hs
         simp only [Perm.view, a5r hp hj] at hs
         cases hs
     . have hi : i < B₂.cells.length := by rw [h2.len]; exact (FN.1 hc).1
       have hcc := FQ hi
       have hcr := h2.cell i c _ hc hcc
       obtain ⟨b1, b2, b3, b4⟩ := a3 i _ hcc
       rcases hcr with hcr | ⟨x, a, e1, e2⟩
       rotate_left
       . rw [e2] at b1 b4
         subst e1
         refine ⟨b1, rfl, fun e => (by cases e), ?_⟩
         cases a with
         | no => exact .v _ _ _ ((F6 b4).later a3B) trivial
         | nil e => exact .v _ _ _ ((F6 b4).later a3B) trivial
         | own p e => exact .v _ _ _ ((F6 b4).later a3B) trivial
       obtain ⟨_, s2, s3⟩ := a4p hcr
       refine ⟨(s2 ⟨b1, b2⟩).1, (s2 ⟨b1, b2⟩).2, fun e => ?_, ?_⟩
       . have := b3 (s3.1 e)
         rw [hd2, hJ2 j k s hj] at this
         exact this
       . refine b5V hcr a3B hr.le (fun e ho => by rw [hd2] at ho; exact b5r hsz2 held hj ho) ?_ b4
         intro a b j' hq _ _
         obtain ⟨B3, B3', c1, _, _⟩ := Q7 j' _ hq
         have hle := hp.le _ _ hq
         simp only at hle
         refine ⟨by omega, ?_, ?_⟩
         . rw [hh.dom, IQ]; exact ⟨_, c1⟩
         . show g.J (E.d - (a + k)) b = g2.J (E2.d - (0 + 1)) j'
           rw [hd2, hJ2 j' _ _ hq, IQ]
   . rw [Q9 ps Bs' m (k := k) (s := s) (fun j hj => hx ⟨j, hj⟩)] at hbx
     have hr := hh.mem _ _ _ hbx
     obtain ⟨cs, a1, a2, a3⟩ := hr.heap
     have hn := b3e hp hr.le (fun j hj => hx ⟨j, hj⟩)
     have hlt := G7 a1
     have hs : ((g.Γ (g.J (E.d - k) s)).view ps E.d).still = true := by rw [hr.perm]; simp only [Perm.view, hn]; rfl
     refine ⟨hr.le, ?_, cs, ?_, a2, fun i c hc => ?_⟩
     . show (g.unview ps E.d w.heap.size g2).Γ (g.J (E.d - k) s) = _
       rw [O2 hlt hs]; exact hr.perm
     . show w'.heap[g.J (E.d - k) s]? = _
       rw [held.heap _ hlt hs]; exact a1
     . obtain ⟨b1, b2, b3, b4⟩ := a3 i c hc
       refine ⟨b1, b2, b3, ?_⟩
       exact a3v b2 b4 (by simp) (fun _ _ => true) hlat' rfl (fun _ _ h _ => h) (fun _ _ _ _ _ => rfl) (fun e v ho => a1U held (by simp only [inP, hn, Option.map_none]) ho) (fun _ => true) (fun _ _ _ _ => rfl) (fun _ _ _ _ _ => rfl) (fun _ _ _ _ _ _ => rfl) (fun _ _ _ _ _ => rfl) (fun _ _ _ _ _ => rfl) rfl (fun _ _ => rfl)
 . rw [hdm]; exact hh.dom
 . have := q3.far_ (E' := E) (dead' := []) a3B r1
   rwa [r2] at this
 . refine ⟨q5.os, q5.tape, q5.output, q5.size, hlat', fun b hb hi => ?_, fun _ _ _ => rfl⟩
   have hs : ((g.Γ b).view ps E.d).still = true := by
    rcases hi with hi | ⟨n, hi⟩ <;> rw [hi] <;> rfl
   exact ⟨O2 hb hs, held.heap b hb hs⟩
end
end En
namespace En
open Go
structure MEnt where
 f : Gv
 k : {R : Type} -> Nat -> List D -> Mem -> (List D -> Mem -> Option R) -> Option R
def W4 {R : Type} : List MEnt -> Gv -> Nat -> List D -> Mem -> (List D -> Mem -> Option R) -> Option R
 | [], _, _, _, _, _ => none
 | e :: r, g, dst, ds, m, K => cond (FZ e.f g) (e.k dst ds m K) (W4 r g dst ds m K)
def a1F (p : Nat × Nat) : List (Nat × Nat) -> Bool
 | [] => false
 | q :: r => cond (FZ p.1 q.1) (cond (FZ p.2 q.2) true (a1F p r)) (a1F p r)
def distinct : List (Nat × Nat) -> Bool
 | [] => true
 | p :: r => cond (a1F p r) false (distinct r)
def b1H {R : Type} : List (Nat × Nat) -> Mem -> (List Bx -> Option R) -> Option R
 | [], _, K => K []
 | p :: r, m, K => (match m.box? p.1 p.2 with | some B => b1H r m fun Bs => K (B :: Bs) | none => none)
def a0s {R : Type} (ps : List (Nat × Nat)) (m : Mem) (K : List Bx -> Option R) : Option R := cond (distinct ps) (b1H ps m K) none
def J5 {R : Type} : List (Nat × Nat) -> List Bx -> Mem -> (Mem -> Option R) -> Option R
 | p :: ps, B :: Bs, m, K => a1P m p.1 p.2 B fun m => J5 ps Bs m K
 | _, _, m, K => K m
def D.calm : D -> Bool
 | .v _ _ => true
 | .bld => true
 | .nilp => true
 | .nilF => true
 | .eptr _ _ => true
 | _ => false
def a8G : List Bx -> Bool
 | [] => true
 | B :: r => B.cells.all D.calm && a8G r
section
variable {R : Type} {P : Gu} {T : FP -> Option Ty} {cx : Cx}
theorem a5Z {p : Nat × Nat} : ∀ (l : List (Nat × Nat)), a1F p l = false -> ∀ j : Nat, l[j]? ≠ some p
 | [], _, j, h => by simp at h
 | q :: r, h, j, hj => by
   unfold a1F at h
   have hr : a1F p r = false := by
    cases h1 : FZ p.1 q.1 <;> cases h2 : FZ p.2 q.2 <;> rw [h1, h2] at h <;> simp at h <;> exact h
   rcases j with _ | j
   . simp at hj; subst hj
     simp at h
   . exact a5Z r hr j (by simpa using hj)
theorem b0U : ∀ (l : List (Nat × Nat)), distinct l = true -> ∀ (i j : Nat) (p : Nat × Nat), l[i]? = some p -> l[j]? = some p -> i = j
 | [], _, i, j, p, h, _ => by simp at h
 | q :: r, h, i, j, p, h1, h2 => by
   unfold distinct at h
   cases hq : a1F q r with
   | true => rw [hq] at h; cases h
   | false =>
     rw [hq, cond_false] at h
     rcases i with _ | i <;> rcases j with _ | j
     . rfl
     . simp at h1; subst h1; exact absurd (by simpa using h2) (a5Z r hq j)
     . simp at h2; subst h2; exact absurd (by simpa using h1) (a5Z r hq i)
     . have := b0U r h i j p (by simpa using h1) (by simpa using h2)
       omega
theorem a8D {m : Mem} : ∀ (ps : List (Nat × Nat)) (K : List Bx -> Option R) (r : R), b1H ps m K = some r -> ∃ Bs, (∀ (j : Nat) (p : Nat × Nat), ps[j]? = some p -> ∃ B, m.box? p.1 p.2 = some B /\ Bs[j]? = some B) /\ Bs.length = ps.length /\ K Bs = some r
 | [], K, r, h => ⟨[], fun j p hj => by simp at hj, rfl, h⟩
 | p :: ps, K, r, h => by
   unfold b1H at h
   split at h
   . rename_i B hB
     obtain ⟨Bs, h1, h2, h3⟩ := a8D ps _ r h
     refine ⟨B :: Bs, fun j q hj => ?_, by simp [h2], h3⟩
     rcases j with _ | j
     . simp at hj; subst hj; exact ⟨B, hB, rfl⟩
     . simpa using h1 j q (by simpa using hj)
   . cases h
theorem F8 {ps : List (Nat × Nat)} {m : Mem} {K : List Bx -> Option R} {r : R} (h : a0s ps m K = some r) :
 ∃ Bs, (∀ (i j : Nat) (p : Nat × Nat), ps[i]? = some p -> ps[j]? = some p -> i = j) /\ (∀ (j : Nat) (p : Nat × Nat), ps[j]? = some p -> ∃ B, m.box? p.1 p.2 = some B /\ Bs[j]? = some B) /\ Bs.length = ps.length /\ K Bs = some r := by
 unfold a0s at h
 rcases j8 h with ⟨h1, h⟩ | ⟨_, h⟩
 . obtain ⟨Bs, a, b, c⟩ := a8D ps K r h
   exact ⟨Bs, b0U ps h1, a, b, c⟩
 . cases h
theorem F5 : ∀ (ps : List (Nat × Nat)) (Bs : List Bx) (m : Mem) (K : Mem -> Option R), J5 ps Bs m K = K (I0 ps Bs m)
 | [], _, m, K => by simp [J5, I0]
 | _ :: _, [], m, K => by simp [J5, I0]
 | p :: ps, B :: Bs, m, K => by simp only [J5, I0, I7, F5 ps Bs]
def c6L (ps : List (Nat × Nat)) (y y₁ : D) : Prop := Ren (fun k s k₁ s₁ => ∃ k', k = k' + 1 /\ k₁ = 1 /\ ps[s₁]? = some (k', s)) y y₁
def ARens (ps : List (Nat × Nat)) : List D -> List D -> Prop
 | [], [] => True
 | y :: ys, y₁ :: ys₁ => c6L ps y y₁ /\ ARens ps ys ys₁
 | _, _ => False
theorem ARens.get {ps : List (Nat × Nat)} : ∀ {l l₁ : List D}, ARens ps l l₁ -> l₁.length = l.length /\ ∀ (i : Nat) y y₁, l[i]? = some y -> l₁[i]? = some y₁ -> c6L ps y y₁
 | [], [], _ => ⟨rfl, fun i y y₁ h => by simp at h⟩
 | y :: ys, y₁ :: ys₁, ⟨h1, h2⟩ => by
   obtain ⟨a, b⟩ := ARens.get h2
   refine ⟨by simp [a], fun i z z₁ hz hz₁ => ?_⟩
   rcases i with _ | i
   . simp at hz hz₁; subst hz hz₁; exact h1
   . exact b i z z₁ (by simpa using hz) (by simpa using hz₁)
theorem G0 {ps : List (Nat × Nat)} {k s j : Nat} (o : Nat) (h : ps[j]? = some (k, s)) : c6L ps (.ptr (k + 1) s o) (.ptr 1 j o) := .ptr o ⟨k, rfl, rfl, h⟩
theorem a0X {ps : List (Nat × Nat)} {f : Gv} {cs cs₁ : List D} (h : ARens ps cs cs₁) : c6L ps (.clos f cs) (.clos f cs₁) := .clos f cs cs₁ h.get.1 h.get.2
theorem a5K {ps : List (Nat × Nat)} {cs cs₁ : List D} (h : ARens ps cs cs₁) : c6L ps (.agg cs) (.agg cs₁) := .agg cs cs₁ h.get.1 h.get.2
theorem c8z {ps : List (Nat × Nat)} {n : Int} {fs : List Gv} {k s j : Nat} (h : ps[j]? = some (k, s)) : c6L ps (.fn n fs (k + 1) s) (.fn n fs 1 j) := .fn n fs ⟨k, rfl, rfl, h⟩
def c0r (n : Int) (fs : List Gv) (f : Gv) : Bool := decide (n = 1) && (match fs with | [g] => FZ g f | _ => false)
theorem c0p {n : Int} {fs : List Gv} {f : Gv} {k s k' s' : Nat} (h : (c0r n fs f && (FZ k k' && FZ s s')) = true) : n = 1 /\ fs = [f] /\ k = k' /\ s = s' := by
 simp only [c0r, FT, decide_eq_true_eq] at h
 obtain ⟨⟨h1, h2⟩, h3, h4⟩ := h
 refine ⟨h1, ?_, FM h3, FM h4⟩
 split at h2
 . rw [FM h2]
 . cases h2
theorem M8 {ps : List (Nat × Nat)} (x : V) : c6L ps (.v x .no) (.v x .no) := .v x
def V8 (P : Gu) (T : FP -> Option Ty) (f : Gv) (ds₁ : List D) (Bs : List Bx) (rs : List D) (Bs' : List Bx) : Prop :=
 ∀ (ps : List (Nat × Nat)) (ds : List D) (m : Mem) (dst : Nat), (∀ (i j : Nat) (p : Nat × Nat), ps[i]? = some p -> ps[j]? = some p -> i = j) ->
  (∀ (j : Nat) (p : Nat × Nat), ps[j]? = some p -> ∃ B, m.box? p.1 p.2 = some B /\ Bs[j]? = some B) -> Bs.length = ps.length -> ARens ps ds ds₁ -> a0B P T f dst ds m rs (I0 ps Bs' m)
theorem c0v {Q : Nat -> Nat -> Nat -> Prop} {c : D} (h : c.calm = true) : CRen Q c c := by
 cases c with
 | v x a => exact .v x a
 | bld => exact .bld
 | nilp => exact .ren (by simp) (by simp) rfl rfl rfl rfl (by simp) .nilp
 | nilF => exact .ren (by simp) (by simp) rfl rfl rfl rfl (by simp) .nilF
 | eptr cs o => exact .ren (by simp) (by simp) rfl rfl rfl rfl (by simp) (.eptr cs o)
 | _ => cases h
theorem a2u : ∀ (Bs : List Bx), a8G Bs = true -> ∀ (j : Nat) B, Bs[j]? = some B -> ∀ {Q : Nat -> Nat -> Nat -> Prop}, BRen Q B B
 | [], _, j, B, h => by simp at h
 | B :: Bs, h, j, B', hj => by
   simp only [a8G, FT] at h
   rcases j with _ | j
   . simp at hj; subst hj
     refine ⟨rfl, rfl, fun i c c₁ h1 h2 => ?_⟩
     rw [h1] at h2
     injection h2 with h2
     subst h2
     exact c0v (Hg.1 h.1 c (Gb h1))
   . exact a2u Bs h.2 j B' (by simpa using hj)
theorem b1G (hm : P.follows .mixedOrders = true) (hcx : CxOK P cx) {f : Gv} {fn : Func} (hf : P.funcs[f]? = some fn) (hb : fn.body = some (s6 fn)) (hro : (drawnOf (s6 fn)).all (a3R cx) = true) (hl : B8 cx fn.ntmps (s6 fn))
 {ds₁ : List D} (Q8 : GY ds₁.length fn.ntmps = true) {Bs Bs' : List Bx} (hc : a8G Bs = true) (hc' : a8G Bs' = true) (hlen : Bs'.length = Bs.length) {α : Type} {rf : List D -> Mem -> Option α} {r : α} (h : M4 cx fn ds₁ [J4 0 Bs] rf = some r)
 {rs : List D} (hrs : ∀ rs' m', rf rs' m' = some r -> fars rs' = true /\ bares rs' = rs /\ ∃ own, m' = [own, J4 0 Bs']) : V8 P cx.T f ds₁ Bs rs Bs' := by
 intro ps ds m dst T9 Q7 hlB har
 obtain ⟨a1, a2⟩ := har.get
 refine b2y hcx hf hb (R0 hm hcx hro) hl (Gm Q8) T9 (Bs₁ := Bs) (fun j p hj => ?_) hlB a1 a2 h (by rw [hlen, hlB]) (fun rs' m' hr => ?_) dst
 . obtain ⟨B, h1, h2⟩ := Q7 j p hj
   exact ⟨B, B, h1, h2, a2u Bs hc j B h2⟩
 . obtain ⟨b1, b2, own, b3⟩ := hrs rs' m' hr
   exact ⟨b1, b2, own, Bs', b3, fun j p B' hj hB => ⟨B', hB, (a2u Bs' hc' j B' hB).x⟩⟩
structure MEntOK (P : Gu) (T : FP -> Option Ty) (e : MEnt) : Prop where
 goes : a4z P e.f
 ret : ∀ (R : Type) (dst : Nat) (ds : List D) (m : Mem) (K : List D -> Mem -> Option R) (r : R), e.k dst ds m K = some r -> ∃ rs m', K rs m' = some r /\ a0B P T e.f dst ds m rs m'
def a4l (P : Gu) (T : FP -> Option Ty) : List MEnt -> Prop
 | [] => True
 | e :: r => MEntOK P T e /\ a4l P T r
theorem c2z {g : Gv} {dst : Nat} {ds : List D} {m : Mem} {K : List D -> Mem -> Option R} {r : R} : ∀ (l : List MEnt), a4l P T l -> W4 l g dst ds m K = some r -> ∃ rs m', K rs m' = some r /\ a4z P g /\ a0B P T g dst ds m rs m'
 | [], _, h => by cases h
 | e :: l, ho, h => by
   unfold W4 at h
   cases hb : FZ e.f g with
   | true =>
     have he := FM hb
     rw [hb, cond_true] at h
     obtain ⟨rs, m', h1, h2⟩ := ho.1.ret R dst ds m K r h
     subst he
     exact ⟨rs, m', h1, ho.1.goes, h2⟩
   | false => rw [hb, cond_false] at h; exact c2z l ho.2 h
structure SEnt where
 f : Gv
 k : {R : Type} -> List D -> Mem -> (List D -> Option R) -> Option R
def b2j {R : Type} : List SEnt -> Gv -> List D -> Mem -> (List D -> Option R) -> Option R
 | [], _, _, _, _ => none
 | e :: r, g, ds, m, K => cond (FZ e.f g) (e.k ds m K) (b2j r g ds m K)
structure SEntOK (P : Gu) (T : FP -> Option Ty) (e : SEnt) : Prop where
 goes : a4z P e.f
 ret : ∀ (R : Type) (ds : List D) (m : Mem) (K : List D -> Option R) (r : R), e.k ds m K = some r -> ∃ rs, K rs = some r /\ b3a P T e.f ds m rs
 b : ∀ (R : Type) (ds : List D) (m : Mem) (K : List D -> Option R), e.k ds m K = (e.k ds m some).bind K
def b1O (P : Gu) (T : FP -> Option Ty) : List SEnt -> Prop
 | [] => True
 | e :: r => SEntOK P T e /\ b1O P T r
theorem c1M {g : Gv} {ds : List D} {m : Mem} {K : List D -> Option R} {r : R} : ∀ (l : List SEnt), b1O P T l -> b2j l g ds m K = some r -> ∃ rs, K rs = some r /\ a4z P g /\ b3a P T g ds m rs
 | [], _, h => by cases h
 | e :: l, ho, h => by
   unfold b2j at h
   cases hb : FZ e.f g with
   | true =>
     have he := FM hb
     rw [hb, cond_true] at h
     obtain ⟨rs, h1, h2⟩ := ho.1.ret R ds m K r h
     subst he
     exact ⟨rs, h1, ho.1.goes, h2⟩
   | false => rw [hb, cond_false] at h; exact c1M l ho.2 h
theorem c7l {g : Gv} {ds : List D} {m : Mem} {K : List D -> Option R} : ∀ (l : List SEnt), b1O P T l -> b2j l g ds m K = (b2j l g ds m some).bind K
 | [], _ => rfl
 | e :: l, ho => by
   unfold b2j
   cases FZ e.f g with
   | true => exact ho.1.b R ds m K
   | false => exact c7l l ho.2
theorem d3U {es : List Ent} {me : List MEnt} {ms : List Met} {ss : List SEnt} (hT : D7 P cx.T) (hes : a5s P cx.T es) (hme : a4l P cx.T me) (hms : b9d P ms) (hss : b1O P cx.T ss) (h1 : cx.isPure = a5b es) (h2 : ∀ (R : Type) (g : Gv) (ds : List D) (K : List D -> Option R), cx.pureK g ds K = a1K es g ds K)
 (h3 : ∀ (R : Type) (g : Gv) (dst : Nat) (ds : List D) (m : Mem) (K : List D -> Mem -> Option R), cx.memK g dst ds m K = W4 me g dst ds m K) (h4 : cx.meth = a2E ms) (h5 : ∀ (R : Type) (g : Gv) (ds : List D) (m : Mem) (K : List D -> Option R), cx.stillK g ds m K = b2j ss g ds m K) : CxOK P cx := by
 refine ⟨hT, fun R g ds K r _ h => ?_, fun R g dst ds m K r _ _ h => ?_, fun R g ds m K r _ h => ?_, ⟨fun R g ds K => ?_, fun R g ds m K => ?_⟩, fun t n f h => ?_⟩
 . rw [h2] at h; exact c7V es hes h
 . rw [h3] at h; exact c2z me hme h
 . rw [h5] at h; exact c1M ss hss h
 . rw [h2, h2]; exact d2T es hes
 . rw [h5, h5]; exact c7l ss hss
 . rw [h4] at h; exact b8r ms hms h
theorem M3 {es : List Ent} {me : List MEnt} {ms : List Met} (hT : D7 P cx.T) (hes : a5s P cx.T es) (hme : a4l P cx.T me) (hms : b9d P ms) (h1 : cx.isPure = a5b es) (h2 : ∀ (R : Type) (g : Gv) (ds : List D) (K : List D -> Option R), cx.pureK g ds K = a1K es g ds K)
 (h3 : ∀ (R : Type) (g : Gv) (dst : Nat) (ds : List D) (m : Mem) (K : List D -> Mem -> Option R), cx.memK g dst ds m K = W4 me g dst ds m K) (h4 : cx.meth = a2E ms) (h5 : ∀ (R : Type) (g : Gv) (ds : List D) (m : Mem) (K : List D -> Option R), cx.stillK g ds m K = none := by intros; rfl) : CxOK P cx :=
 d3U (ss := []) hT hes hme hms trivial h1 h2 h3 h4 h5
end
end En
namespace En
open Go
set_option maxRecDepth 100000
abbrev fd (s : String) (t o b : Nat) : Field := ⟨s, t, o, false, "", "", b⟩
abbrev cI : CK := .int .i64
def ty1 : Ty := { desc := .func #[] #[] false, cks := [.func], nbytes := 8 }
def ty2 : Ty := { desc := .int .i64, cks := [cI], nbytes := 8 }
def ty3 : Ty := { desc := .int .i64, cks := [cI], nbytes := 8 }
def ty4 : Ty := { desc := .bool, cks := [.bool], nbytes := 1 }
def ty5 : Ty := { desc := .int .u8, cks := [(.int .u8)], nbytes := 1 }
def ty9 : Ty := { desc := .string, cks := [.str], nbytes := 16 }
def e6p : Ty := { desc := .pointer 287, cks := [.ptr], nbytes := 8 }
def e6Z : Ty := { desc := .interface #[], cks := [.iface], nbytes := 16 }
def e6U : Ty := { desc := .int .i32, cks := [(.int .i32)], nbytes := 4 }
def e5l : Ty := { desc := .slice 5, cks := [(.bytes 5)], nbytes := 24 }
def e4s : Ty := { desc := .slice 58, cks := [(.slc 58)], nbytes := 24 }
def e4L : Ty := { desc := .slice 64, cks := [(.slc 64)], nbytes := 24 }
def e5z : Ty := { desc := .slice 47, cks := [(.slc 47)], nbytes := 24 }
def e5y : Ty := { desc := .slice 44, cks := [(.slc 44)], nbytes := 24 }
def e3r : Ty := { desc := .slice 67, cks := [(.slc 67)], nbytes := 24 }
def e4y : Ty := { desc := .struct #[fd "AID" 22 0 0, fd "Major" 3 1 24, fd "Minor" 3 2 32, fd "Imports" 23 3 40, fd "Classes" 24 4 64, fd "Methods" 25 5 88, fd "Statics" 26 6 112, fd "Applets" 27 7 136], cks := [(.bytes 5), cI, cI, (.slc 58), (.slc 64), (.slc 47), (.slc 44), (.slc 67)], nbytes := 160 }
def e6K : Ty := { desc := .int .i64, cks := [cI], nbytes := 8 }
def e5I : Ty := { desc := .slice 54, cks := [(.slc 54)], nbytes := 24 }
def e4U : Ty := { desc := .struct #[fd "Package" 3 0 0, fd "Class" 3 1 8], cks := [cI, cI], nbytes := 16, eqb := true }
def e5j : Ty := { desc := .struct #[fd "Kind" 3 0 0, fd "Class" 42 1 8], cks := [cI, cI, cI], nbytes := 24, eqb := true }
def e5B : Ty := { desc := .slice 107, cks := [(.slc 107)], nbytes := 24 }
def e5v : Ty := { desc := .struct #[fd "Static" 4 0 0, fd "Abstract" 4 1 1, fd "Class" 3 2 8, fd "Params" 26 3 16, fd "Result" 44 4 40, fd "Locals" 3 7 64, fd "Stack" 3 8 72, fd "Code" 37 9 80, fd "Handlers" 45 10 104], cks := [.bool, .bool, cI, (.slc 44), cI, cI, cI, cI, cI, (.slc 54), (.slc 107)], nbytes := 128 }
def e3w : Ty := { desc := .struct #[fd "Op" 3 0 0, fd "A" 3 1 8, fd "B" 3 2 16, fd "C" 3 3 24], cks := [cI, cI, cI, cI], nbytes := 32, eqb := true }
def e5C : Ty := { desc := .struct #[fd "AID" 22 0 0, fd "Major" 3 1 24, fd "Minor" 3 2 32], cks := [(.bytes 5), cI, cI], nbytes := 40 }
def e3M : Ty := { desc := .slice 42, cks := [(.slc 42)], nbytes := 24 }
def e3o : Ty := { desc := .slice 3, cks := [(.slc 3)], nbytes := 24 }
def e4n : Ty := { desc := .slice 105, cks := [(.slc 105)], nbytes := 24 }
def e3n : Ty := { desc := .struct #[fd "Super" 42 0 0, fd "Interface" 4 2 16, fd "Extends" 60 3 24, fd "Fields" 26 4 48, fd "Virtuals" 61 5 72, fd "Impls" 62 6 96], cks := [cI, cI, .bool, (.slc 42), (.slc 44), (.slc 3), (.slc 105)], nbytes := 120 }
def e4D : Ty := { desc := .struct #[fd "AID" 22 0 0, fd "Class" 3 1 24, fd "Install" 3 2 32], cks := [(.bytes 5), cI, cI], nbytes := 40 }
def e6A : Ty := { desc := .pointer 75, cks := [.ptr], nbytes := 8 }
def e6F : Ty := { desc := .struct #[⟨ "addr", 73, 0, false, "", "strings", 0⟩, ⟨ "buf", 22, 1, false, "", "strings", 8⟩], cks := [.bld, (.bytes 5)], nbytes := 32 }
def e6M : Ty := { desc := .slice 9, cks := [(.slc 9)], nbytes := 24 }
def e6Y : Ty := { desc := .interface #[("Error", 88)], cks := [.iface], nbytes := 16 }
def e6N : Ty := { desc := .array 3 3, cks := [cI, cI, cI], nbytes := 24 }
def e6f : Ty := { desc := .array 3 3, cks := [cI, cI, cI], nbytes := 24 }
def e6t : Ty := { desc := .func #[3] #[4] false, cks := [.func], nbytes := 8 }
def e6P : Ty := { desc := .struct #[⟨ "p", 29, 0, false, "", "smartcard/loadfile", 0⟩], cks := [(.bytes 5), cI, cI, (.slc 58), (.slc 64), (.slc 47), (.slc 44), (.slc 67)], nbytes := 160 }
def e6T : Ty := { desc := .struct #[⟨ "b", 22, 0, false, "", "smartcard/loadfile", 0⟩], cks := [(.bytes 5)], nbytes := 24 }
def e6m : Ty := { desc := .struct #[⟨ "buffer", 94, 0, true, "", "smartcard/loadfile", 0⟩], cks := [(.bytes 5)], nbytes := 24 }
def e6C : Ty := { desc := .int .i64, cks := [cI], nbytes := 8 }
def e4K : Ty := { desc := .pointer 101, cks := [.ptr], nbytes := 8 }
def e4v : Ty := { desc := .struct #[⟨ "b", 22, 0, false, "", "smartcard/loadfile", 0⟩], cks := [(.bytes 5)], nbytes := 24 }
def e1g : Ty := { desc := .struct #[fd "Interface" 42 0 0, fd "Methods" 61 2 16], cks := [cI, cI, (.slc 3)], nbytes := 40 }
def e1c : Ty := { desc := .struct #[fd "From" 3 0 0, fd "To" 3 1 8, fd "Target" 3 2 16, fd "Word" 3 3 24], cks := [cI, cI, cI, cI], nbytes := 32, eqb := true }
def e4I : Ty := { desc := .struct #[⟨ "n", 3, 0, false, "", "smartcard/code", 0⟩, ⟨ "form", 4, 1, false, "", "smartcard/code", 8⟩, ⟨ "fits", 4, 2, false, "", "smartcard/code", 9⟩], cks := [cI, .bool, .bool], nbytes := 16, eqb := true }
def e4W : Ty := { desc := .int .u64, cks := [(.int .u64)], nbytes := 8 }
def e3k : Ty := { desc := .pointer 5, cks := [.ptr], nbytes := 8 }
def e4u : Ty := { desc := .slice 22, cks := [(.slc 22)], nbytes := 24 }
def e3z : Ty := { desc := .pointer 96, cks := [.ptr], nbytes := 8 }
def e5E : Ty := { desc := .func #[58] #[] false, cks := [.func], nbytes := 8 }
def e5p : Ty := { desc := .func #[64] #[] false, cks := [.func], nbytes := 8 }
def e4p : Ty := { desc := .func #[47] #[] false, cks := [.func], nbytes := 8 }
def e5h : Ty := { desc := .func #[44] #[] false, cks := [.func], nbytes := 8 }
def e5i : Ty := { desc := .func #[67] #[] false, cks := [.func], nbytes := 8 }
def e4V : Ty := { desc := .func #[] #[3] false, cks := [.func], nbytes := 8 }
def e5w : Ty := { desc := .func #[] #[58] false, cks := [.func], nbytes := 8 }
def e4P : Ty := { desc := .func #[] #[64] false, cks := [.func], nbytes := 8 }
def e4d : Ty := { desc := .func #[] #[47] false, cks := [.func], nbytes := 8 }
def e3G : Ty := { desc := .func #[] #[44] false, cks := [.func], nbytes := 8 }
def e4i : Ty := { desc := .func #[] #[67] false, cks := [.func], nbytes := 8 }
def e3R : Ty := { desc := .func #[21] #[4] false, cks := [.func], nbytes := 8 }
def e4Z : Ty := { desc := .func #[58] #[4] false, cks := [.func], nbytes := 8 }
def e4a : Ty := { desc := .func #[3, 58] #[30] false, cks := [.func], nbytes := 8 }
def e5a : Ty := { desc := .func #[3, 64] #[30] false, cks := [.func], nbytes := 8 }
def e5x : Ty := { desc := .func #[3, 47] #[30] false, cks := [.func], nbytes := 8 }
def e5b : Ty := { desc := .func #[67] #[4] false, cks := [.func], nbytes := 8 }
def e3H : Ty := { desc := .func #[3, 67] #[30] false, cks := [.func], nbytes := 8 }
def e4m : Ty := { desc := .pointer 94, cks := [.ptr], nbytes := 8 }
def e5g : Ty := { desc := .func #[5] #[] false, cks := [.func], nbytes := 8 }
def e3B : Ty := { desc := .func #[42] #[] false, cks := [.func], nbytes := 8 }
def e5r : Ty := { desc := .func #[3] #[] false, cks := [.func], nbytes := 8 }
def e3K : Ty := { desc := .func #[105] #[] false, cks := [.func], nbytes := 8 }
def e4S : Ty := { desc := .func #[107] #[] false, cks := [.func], nbytes := 8 }
def e3F : Ty := { desc := .func #[] #[42] false, cks := [.func], nbytes := 8 }
def e3v : Ty := { desc := .func #[] #[105] false, cks := [.func], nbytes := 8 }
def e3X : Ty := { desc := .func #[] #[107] false, cks := [.func], nbytes := 8 }
def e4M : Ty := { desc := .int .u32, cks := [(.int .u32)], nbytes := 4 }
def e3y : Ty := { desc := .func #[3, 42] #[30] false, cks := [.func], nbytes := 8 }
def e3x : Ty := { desc := .func #[3, 3] #[30] false, cks := [.func], nbytes := 8 }
def e3p : Ty := { desc := .func #[105] #[4] false, cks := [.func], nbytes := 8 }
def e3s : Ty := { desc := .func #[3, 105] #[30] false, cks := [.func], nbytes := 8 }
def e3W : Ty := { desc := .func #[44] #[4] false, cks := [.func], nbytes := 8 }
def e5A : Ty := { desc := .func #[3, 54] #[30] false, cks := [.func], nbytes := 8 }
def e5s : Ty := { desc := .func #[3, 107] #[30] false, cks := [.func], nbytes := 8 }
def e5F : Ty := { desc := .array 4 3, cks := [cI, cI, cI, cI], nbytes := 32 }
def e4r : Ty := { desc := .array 16 205, cks := [(.int .u32), (.int .u32), (.int .u32), (.int .u32), (.int .u32), (.int .u32), (.int .u32), (.int .u32), (.int .u32), (.int .u32), (.int .u32), (.int .u32), (.int .u32), (.int .u32), (.int .u32), (.int .u32)], nbytes := 64 }
def e5q : Ty := { desc := .array 2 205, cks := [(.int .u32), (.int .u32)], nbytes := 8 }
def e3q : Ty := { desc := .int .i8, cks := [(.int .i8)], nbytes := 1 }
def e3I : Ty := { desc := .array 0 16, cks := [], nbytes := 0 }
def e5f : Ty := { desc := .struct #[⟨ "_", 285, 0, false, "", "runtime", 0⟩], cks := [], nbytes := 0 }
inductive Tt
 | e
 | n (k : Nat) (y : Ty) (l r : Tt)
def Tt.get : Tt -> Nat -> Option Ty
 | .e, _ => none
 | .n k y l r, t => match FZ t k with | true => some y | false => (match GS t k with | true => l.get t | false => r.get t)
def Tt.all : Tt -> List (Nat × Ty)
 | .e => []
 | .n k y l r => (k, y) :: (l.all ++ r.all)
theorem Tt.mem {t : Nat} {y : Ty} : ∀ (r : Tt), r.get t = some y -> (t, y) ∈ r.all
 | .e, h => by cases h
 | .n k z l r, h => by
   simp only [Tt.get] at h
   simp only [Tt.all, GH, Hc]
   split at h
   . rename_i e
     injection h with h
     exact .inl (by rw [FM e, h])
   . split at h
     . exact .inr (.inl (Tt.mem l h))
     . exact .inr (.inr (Tt.mem r h))
def T0 : Tt := .n 116 e4W (.n 54 e3w (.n 24 e4L (.n 9 ty9 (.n 3 ty3 (.n 2 ty2 (.n 1 ty1 .e .e) .e) (.n 5 ty5 (.n 4 ty4 .e .e) .e)) (.n 21 e6U (.n 20 e6Z (.n 16 e6p .e .e) .e) (.n 23 e4s (.n 22 e5l .e .e) .e))) (.n 37 e5I (.n 27 e3r (.n 26 e5y (.n 25 e5z .e .e) .e) (.n 30 e6K (.n 29 e4y .e .e) .e)) (.n 45 e5B (.n 44 e5j (.n 42 e4U .e .e) .e) (.n 47 e5v .e .e)))) (.n 84 e6f (.n 67 e4D (.n 61 e3o (.n 60 e3M (.n 58 e5C .e .e) .e) (.n 64 e3n (.n 62 e4n .e .e) .e)) (.n 76 e6M (.n 75 e6F (.n 73 e6A .e .e) .e) (.n 82 e6N (.n 79 e6Y .e .e) .e))) (.n 100 e4K (.n 94 e6T (.n 90 e6P (.n 86 e6t .e .e) .e) (.n 98 e6C (.n 96 e6m .e .e) .e)) (.n 107 e1c (.n 105 e1g (.n 101 e4v .e .e) .e) (.n 113 e4I .e .e))))) (.n 180 e5g (.n 148 e4d (.n 136 e4p (.n 128 e3z (.n 121 e4u (.n 119 e3k .e .e) .e) (.n 134 e5p (.n 132 e5E .e .e) .e)) (.n 141 e4V (.n 140 e5i (.n 138 e5h .e .e) .e) (.n 146 e4P (.n 144 e5w .e .e) .e))) (.n 169 e5a (.n 160 e3R (.n 152 e4i (.n 150 e3G .e .e) .e) (.n 167 e4a (.n 166 e4Z .e .e) .e)) (.n 177 e3H (.n 175 e5b (.n 171 e5x .e .e) .e) (.n 178 e4m .e .e)))) (.n 222 e3p (.n 195 e3v (.n 187 e3K (.n 185 e5r (.n 182 e3B .e .e) .e) (.n 191 e3F (.n 189 e4S .e .e) .e)) (.n 215 e3y (.n 205 e4M (.n 198 e3X .e .e) .e) (.n 218 e3x .e .e))) (.n 258 e4r (.n 228 e5A (.n 225 e3W (.n 224 e3s .e .e) .e) (.n 235 e5F (.n 230 e5s .e .e) .e)) (.n 285 e3I (.n 276 e3q (.n 261 e5q .e .e) .e) (.n 287 e5f .e .e)))))
def T (t : FP) : Option Ty := T0.get t
theorem a7s : D7 Tryz.prog T := by
 have e1 : T0.all.map (fun p => Tryz.prog.underlying p.1) = T0.all.map fun p => some p.2.desc := by kernel_rfl
 have e2 : T0.all.map (fun p => (Tryz.prog.info? p.1).map (fun i => (i.zero, i.size, i.bytes))) = T0.all.map fun p => some (some p.2.zero, p.2.size, p.2.nbytes) := by kernel_rfl
 have e3 : T0.all.map (fun p => (p.2.row || FZ p.2.size 1)) = T0.all.map fun _ => true := by kernel_rfl
 have e4 : T0.all.map (fun p => eqOKB Tryz.prog p.1 p.2) = T0.all.map fun _ => true := by kernel_rfl
 intro t ty h
 have hm := Tt.mem T0 h
 exact e0m (Jy.1 e1 _ hm) (Jy.1 e2 _ hm) (Jy.1 e3 _ hm) (Jy.1 e4 _ hm)
abbrev cxO (es : List Ent) (ms : List MEnt) : Cx := { T := T, isPure := a5b es, pureK := fun g ds K => a1K es g ds K, memK := fun g dst ds m K => W4 ms g dst ds m K, meth := a2E [], keep := fun _ => [], keepX := fun _ => [], loopT := fun _ _ _ _ => none, jumps := 9 }
theorem a9l {es : List Ent} {ms : List MEnt} (a : a5s Tryz.prog T es) (b : a4l Tryz.prog T ms) : CxOK Tryz.prog (cxO es ms) := M3 (es := es) (me := ms) (ms := []) a7s a b trivial rfl (fun _ _ _ _ => rfl) (fun _ _ _ _ _ _ => rfl) rfl
end En
namespace En
open Go
section
variable {P : Gu} {T : FP -> Option Ty} {E : Env} {g : G} {w : Gc}
theorem d4M {m : Mem} (hh : Here T E g w m) {k s : Nat} {b : Bx} {us : Array FX} (hb : m.box? k s = some b) (h0 : b.cells[0]? = some .bld) (hB : w.heap[g.J (E.d - k) s]? = some (.cells us b.ty (0, 0))) {w' : Gc}
 (hw : w' = w.setCell ⟨g.J (E.d - k) s, 0, none⟩ (.pointer (some ⟨g.J (E.d - k) s, 0, none⟩))) : Later g w g w' /\ (∀ p e v, D1 g w p e v -> D1 g w' p e v) /\ Here T E g w' m /\ ∀ d, Tr d g w g w' := by
 rw [setCell_eq_setRow w _ 0 us b.ty (0, 0) _ hB] at hw
 have hr := hh.mem k s b hb
 have X4 := hr.perm
 obtain ⟨us', b1, b2, b3⟩ := hr.heap
 rw [hB] at b1
 injection b1 with b1
 injection b1 with b1 _ _
 subst b1
 generalize hX : g.J (E.d - k) s = B at *
 generalize hcs : us.setIfInBounds 0 (.pointer (some ⟨B, 0, none⟩)) = cs at *
 subst hw
 have hlat : Later g w g (w.setRow B cs) := by
  have := a6F (g := g) (cs := cs) hB (.box (E.d - k) s) (fun e => by rw [X4] at e; cases e) (fun o hs => by unfold s5 at hs; rw [X4] at hs; exact hs.elim)
  rwa [b1Q X4] at this
 have hown : ∀ (p : APos) e v, D1 g w p e v -> D1 g (w.setRow B cs) p e v := fun p e v h => by
  have := b1U (cs := cs) (.box (E.d - k) s) (fun n hn => by rw [X4] at hn; cases hn) h
  rwa [b1Q X4] at this
 have hk : ∀ dd, Keeps E g w dd E g (w.setRow B cs) dd := fun dd => ⟨hlat, rfl, fun _ _ h => h, fun _ _ _ _ => rfl, fun _ h => h, fun p e v _ _ h => hown _ e v h⟩
 refine ⟨hlat, hown, ⟨fun k' s' b' hb' => ?_, hh.dom, hh.sk.later hlat, hh.len⟩, fun d => ⟨rfl, rfl, rfl, Jz (setRow_size w B cs).symm, hlat, fun x hx hi => ⟨rfl, ?_⟩, fun _ _ _ => rfl⟩⟩
 . have hr' := hh.mem k' s' b' hb'
   obtain ⟨vs, c1, c2, c3⟩ := hr'.heap
   by_cases hJ : g.J (E.d - k') s' = B
   . have h7 := hr'.perm
     rw [hJ, X4] at h7
     injection h7 with h7 h8
     have hle := hr.le
     have hle' := hr'.le
     have : k' = k := by omega
     subst this h8
     rw [hb] at hb'
     injection hb' with hb'
     subst hb'
     refine ⟨hr.le, by rw [hX]; exact X4, cs, by rw [hX]; exact setRow_heap w B _ cs _ _ hB, by rw [← hcs]; simpa using b2, fun i c hc => ?_⟩
     obtain ⟨a1, a2, a3, a4⟩ := b3 i c hc
     rcases i with _ | i
     . rw [h0] at hc
       injection hc with hc
       subst hc
       have h9 : 0 < us.size := by rw [b2]; exact (FN.1 h0).1
       refine ⟨a1, a2, fun _ => .inr ?_, .any _⟩
       rw [← hcs, hX]
       simp [Ge, h9]
     . have e1 : cs.getD (i + 1) undef = us.getD (i + 1) undef := by
        rw [← hcs]
        simp only [Ge]
        rw [HZ (by omega)]
       rw [e1]
       refine ⟨a1, a2, by rw [hX]; exact a3, a4.keep (hk [])⟩
   . refine ⟨hr'.le, hr'.perm, vs, by rw [setRow_other w B _ cs hJ]; exact c1, c2, fun i c hc => ?_⟩
     obtain ⟨a1, a2, a3, a4⟩ := c3 i c hc
     exact ⟨a1, a2, a3, a4.keep (hk [])⟩
 . have hne : x ≠ B := fun e => by
    subst e
    rw [X4] at hi
    rcases hi with hi | ⟨n, hi⟩ <;> cases hi
   exact setRow_other w B x cs hne
structure Calm (x : Nat) (w w' : Gc) : Prop where
 os : w'.os = w.os
 tape : w'.tape = w.tape
 output : w'.output = w.output
 size : w'.heap.size = w.heap.size
 other : ∀ b, b ≠ x -> w'.heap[b]? = w.heap[b]?
 cell : ∀ o, w'.cell? ⟨x, o, none⟩ = w.cell? ⟨x, o, none⟩
theorem b8w {x : Nat} {w' : Gc} (hc : Calm x w w') {q : APos} {n : Nat} (hq : g.Γ x = .own q n) : Later g w (g.at_ x (.low n)) w' :=
 ⟨rfl, fun b o v h1 h2 => by
  by_cases hb : b = x
  . subst hb
    refine ⟨?_, by rw [hc.cell]; exact h2⟩
    unfold s5 at h1 ⊢
    rw [hq] at h1
    rw [G.at_eq]
    exact h1
  . exact ⟨(a1a hb).2 h1, by rw [cell_of_heap (hc.other b hb)]; exact h2⟩, fun b o h1 h2 => by
  have hb : b ≠ x := fun e => by subst e; rw [hq] at h1; cases h1
  exact ⟨by rw [G.at_ne _ _ _ hb]; exact h1, by rw [hc.other b hb]; exact h2⟩⟩
theorem b2L {x : Nat} {w' : Gc} (hc : Calm x w w') {q p : APos} {n : Nat} (hq : g.Γ x = .own q n) (hp : p ≠ q) {e : FP} {v : FX} (h : D1 g w p e v) : D1 (g.at_ x (.low n)) w' p e v := by
 rcases h with h0 | ⟨b, n', cap, cur, h1, h2, h3, h4⟩
 . exact .inl h0
 . have hb : b ≠ x := fun e0 => by
    subst e0
    rw [hq] at h2
    injection h2 with h2 _
    exact hp h2.symm
   exact .inr ⟨b, n', cap, cur, h1, by rw [G.at_ne _ _ _ hb]; exact h2, by rw [hc.other b hb]; exact h3, h4⟩
theorem d0i {m : Mem} (hh : Here T E g w m) {k s : Nat} {b : Bx} (hb : m.box? k s = some b) : Here T E g w (m.setBox k s ⟨b.ty, b.cells.map a4Q⟩) := by
 refine ⟨fun k' s' b' hb' => ?_, ?_, hh.sk, by rw [K7]; exact hh.len⟩
 . rw [I8] at hb'
   split at hb'
   . rename_i hx
     obtain ⟨rfl, rfl, _⟩ := hx
     injection hb' with hb'
     subst hb'
     have hr := hh.mem k' s' b hb
     obtain ⟨us, b1, b2, b3⟩ := hr.heap
     refine ⟨hr.le, hr.perm, us, b1, by rw [b2]; simp, fun i c' hc => ?_⟩
     simp only [Gn, Gl] at hc
     obtain ⟨c, hc, rfl⟩ := hc
     obtain ⟨a1, a2, a3, a4⟩ := b3 i c hc
     cases c with
     | v x at_ =>
       cases at_ with
       | own p e => exact ⟨a1, rfl, fun e => (by cases e), .v _ _ _ (F6 a4) trivial⟩
       | no => exact ⟨a1, a2, a3, a4⟩
       | nil e => exact ⟨a1, a2, a3, a4⟩
     | _ => exact ⟨a1, a2, a3, a4⟩
   . exact hh.mem k' s' b' hb'
 . rw [hh.dom]
   funext k' s'
   unfold F4
   rw [I8]
   split
   . rename_i hx
     obtain ⟨rfl, rfl, _⟩ := hx
     rw [hb]; simp
   . rfl
theorem c2d {m : Mem} {x : Nat} {w' : Gc} (hc : Calm x w w') {k s i n : Nat} (hq : g.Γ x = .own (.cell (E.d - k) s i) n) (hk : k <= E.d) (hh : Here T E g w m) (hno : ∀ b, m.box? k s = some b -> ∀ (i : Nat) c, b.cells[i]? = some c -> c.noOwn = true) :
 Here T E (g.at_ x (.low n)) w' m /\ a0E E g w E (g.at_ x (.low n)) w' /\ ∀ d, Tr d g w (g.at_ x (.low n)) w' := by
 have hlat := b8w hc hq
 have hks : a0E E g w E (g.at_ x (.low n)) w' := ⟨hlat, rfl, fun _ _ h => h, fun _ _ _ _ => rfl, fun s' e v ho => b2L hc hq (by simp) ho⟩
 refine ⟨⟨fun k' s' b hb => ?_, hh.dom, hh.sk.later hlat, hh.len⟩, hks, fun d => ⟨hc.os, hc.tape, hc.output, Jz hc.size.symm, hlat, fun b _ hi => ?_, fun _ _ _ => rfl⟩⟩
 . have hr := hh.mem k' s' b hb
   obtain ⟨us, b1, b2, b3⟩ := hr.heap
   have hne : g.J (E.d - k') s' ≠ x := fun e => by
    have := hr.perm
    rw [e, hq] at this
    cases this
   refine ⟨hr.le, ?_, us, ?_, b2, fun i' c hc' => ?_⟩
   . show (g.at_ x (.low n)).Γ (g.J (E.d - k') s') = _
     rw [G.at_ne _ _ _ hne]; exact hr.perm
   . show w'.heap[g.J (E.d - k') s']? = _
     rw [hc.other _ hne]; exact b1
   . obtain ⟨a1, a2, a3, a4⟩ := b3 i' c hc'
     refine ⟨a1, a2, a3, ?_⟩
     by_cases c0n : k' = k /\ s' = s
     . obtain ⟨rfl, rfl⟩ := c0n
       have hn := hno b hb i' c hc'
       refine a4g hks a4 ?_
       cases c with
       | v y at_ =>
         cases at_ with
         | own p e => simp [D.noOwn] at hn
         | no => rfl
         | nil e => rfl
       | bld => rfl
       | _ => exact noOwn_shift k' _ hn
     . refine a3v a2 a4 (by simp) (fun _ _ => true) hlat rfl (fun _ _ h _ => h) (fun _ _ _ _ _ => rfl) (fun e v ho => b2L hc hq (fun e0 => ?_) ho) (fun _ => true) (fun _ _ _ _ => rfl) (fun _ _ _ _ _ => rfl) (fun _ _ _ _ _ _ => rfl) (fun _ _ _ _ _ => rfl) (fun _ _ _ _ _ => rfl) rfl (fun _ _ => rfl)
       injection e0 with e1 e2 _
       have := hr.le
       exact c0n ⟨by omega, e2⟩
 . have hne : b ≠ x := fun e => by
    subst e
    rw [hq] at hi
    rcases hi with hi | ⟨n', hi⟩ <;> cases hi
   exact ⟨G.at_ne _ _ _ hne, hc.other b hne⟩
end
end En
end
end Go.Proofs.YtkoilndpfifapaaGreatDoor
