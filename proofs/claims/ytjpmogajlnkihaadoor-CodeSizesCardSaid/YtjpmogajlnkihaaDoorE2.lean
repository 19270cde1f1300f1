/- Several texts in one. -/
import Derived.Test.YtjpmogajlnkihaaDoorE1
import Derived.BigFrame
import Derived.ScopeJumps
import Derived.Orders
import Derived.KernelRfl

set_option linter.unusedSimpArgs false
set_option linter.unusedVariables false
set_option linter.unusedSectionVars false
/- The engine, part s: every operation but a call of a function. -/
namespace Go.Proofs.YtjpmogajlnkihaaDoor.En
open Go
set_option linter.unusedVariables false
section
variable {R : Type} {P : Program} {T : TypeId → Option Ty} {E : Env} {g : G} {w w' : World} {dead : List Pos}

/-- A frame's slots over its temporaries. -/
def RepS (E : Env) (g : G) (w : World) (dead : List Pos) (slots : List D) (a : Act) : Prop := ∀ (s : Nat) x, slots[s]? = some x → RepD E g w dead x (a.tmps.getD s undef)
theorem RepS.ev {slots : List D} {a : Act} (hs : RepS E g w dead slots a) (h : TypeId) (z : Operand) : RepD E g w dead (evalD T slots h z) (a.eval z) := evalD_rep hs h z
theorem partsK_sound {slots : List D} {a : Act} (hs : RepS E g w dead slots a) : ∀ (ps : List (Nat × Operand)) (K : List (Nat × D) → Option R) (r : R), partsK T slots ps K = some r →
    ∃ ds, RepP E g w dead ds (ps.map fun p => (p.1, a.eval p.2)) ∧ K ds = some r
  | [], K, r, h => ⟨[], trivial, h⟩
  | (i, x) :: ps, K, r, h => by
    unfold partsK at h
    rw [evK_eq] at h
    obtain ⟨ds, h1, h2⟩ := partsK_sound hs ps _ r h
    exact ⟨(i, evalD T slots 0 x) :: ds, ⟨rfl, hs.ev 0 x, h1⟩, h2⟩
theorem evO_sound {slots : List D} {a : Act} (hs : RepS E g w dead slots a) (x : Option Operand) (K : Option D → Option R) (r : R) (h : evO T slots x K = some r) : ∃ d, RepO E g w dead d (x.map a.eval) ∧ K d = some r := by
  unfold evO at h
  split at h
  · exact ⟨none, trivial, h⟩
  · rename_i x
    rw [evK_eq] at h
    exact ⟨some (evalD T slots 0 x), hs.ev 0 x, h⟩
theorem capsK_sound {slots : List D} {a : Act} (hs : RepS E g w dead slots a) : ∀ (xs : List Operand) (K : List D → Option R) (r : R), capsK T slots xs K = some r →
    ∃ ds, ds.length = xs.length ∧ (∀ (k : Nat) y, ds[k]? = some y → RepD E g w dead y ((xs.map a.eval).getD k undef)) ∧ K ds = some r
  | [], K, r, h => ⟨[], rfl, fun k y h => by simp at h, h⟩
  | x :: xs, K, r, h => by
    unfold capsK at h
    simp only [evK_eq, forceD_eq] at h
    obtain ⟨ds, h1, h2, h3⟩ := capsK_sound hs xs _ r h
    refine ⟨(evalD T slots 0 x).plain :: ds, by simp [h1], fun k y hk => ?_, h3⟩
    rcases k with _ | k
    · simp at hk; subst hk; simpa using (hs.ev 0 x).plain_
    · simpa using h2 k y (by simpa using hk)
theorem toV_rep {d : D} {v : Value} (h : RepD E g w dead d v) {x : V} (hx : toV d = some x) : RepV g w x v := by
  cases d with
  | v y a =>
    have : y = x := by cases y <;> simp only [toV, Option.some.injEq, reduceCtorEq] at hx <;> exact hx
    subst this
    exact repV_of h
  | agg ds =>
    simp only [toV, Option.map_eq_some_iff] at hx
    obtain ⟨ys, hys, rfl⟩ := hx
    obtain ⟨h1, h2⟩ := toVs_get _ _ hys
    cases h with
    | agg ds us hn hr =>
      refine .agg _ us (by rw [h1]; exact hn) fun k y hk => ?_
      obtain ⟨_, a, h3⟩ := h2 k y hk
      exact repV_of (hr k _ h3)
  | _ => simp [toV] at hx
theorem Res.value {m : Mem} {o : Oper} {a : Act} (hh : Here T E g w m) {d : D} {v : Value} (hr : (execOp a.eval o).run P w = .ok (.value v) w) (hx : RepD E g w dead d v) : Res P T E g w m dead o a d m dead := Res.pure hh hr hx
/-- Every operation that calls no function. -/
theorem opK_sound (hT : TypesOK P T) {m : Mem} (hh : Here T E g w m) {slots : List D} {a : Act} (hs : RepS E g w dead slots a) (o : Oper) {K : D → Mem → List Pos → Option R} {r : R}
    (h : opK T (o.dst.getD 0) o.type slots o.op m dead K = some r) : ∃ d m' dead', Res P T E g w m dead o a d m' dead' ∧ K d m' dead' = some r := by
  generalize hop : o.op = op at h
  cases op <;> simp only [opK, evK_eq, reduceCtorEq] at h
  case move x => exact ⟨_, _, _, .pure hh (by simp [execOp, hop]) (hs.ev _ _), h⟩
  case assign x => exact ⟨_, _, _, .pure hh (by simp [execOp, hop]) (hs.ev _ _), h⟩
  case pick c x y =>
    have hc := hs.ev (T := T) 0 c
    generalize hd : evalD T slots 0 c = dc at h hc
    cases dc <;> simp only [reduceCtorEq] at h
    rename_i x0 a0
    cases x0 <;> simp only [V.unBool, reduceCtorEq] at h
    rename_i t
    have hb := hc.bool_inv
    cases t
    · exact ⟨_, _, _, .pure hh (by simp [execOp, hop, hb, asBool]) (hs.ev _ _), h⟩
    · exact ⟨_, _, _, .pure hh (by simp [execOp, hop, hb, asBool]) (hs.ev _ _), h⟩
  case alloc t =>
    split at h
    case h_2 => cases h
    rename_i ty hty
    have hok := hT _ _ hty
    obtain ⟨i, hi, hz, hsi, hby⟩ := hok.info
    unfold newBoxK at h
    split at h
    case h_2 => cases h
    rename_i fr out
    split at h
    case h_2 => cases h
    rename_i hfr
    have hzr := zero_rep (E := E) (g := g) (w := w) (dead := dead) hok
    obtain ⟨cs, dead', g1, h1, ho⟩ := cellsK_sound (E := E) 0 (o.dst.getD 0) (Nat.zero_le _) ty.zeroDs ty.zero.cells.toList 0 g dead _ r (by rw [Array.length_toList]; exact hzr.1) (fun j y hj => by simpa using hzr.2 j y hj) hh.mem h
    rw [memPutK_eq] at h1
    obtain ⟨g', E', k1, k2, k3, k4, k5⟩ := newBox_sound hh (o.dst.getD 0) hfr t ty.zero.cells ho
    exact ⟨_, _, _, ⟨_, _, g', E', .inl (by simp [execOp, hop, Instr.alloc, zeroValue, typeInfo, hi, hz, newVar, newRow]), k1, k2, k3, k4⟩, h1⟩
  case box t x =>
    split at h
    case h_2 => cases h
    rename_i ty hty
    unfold newBoxK at h
    split at h
    case h_2 => cases h
    rename_i fr out
    split at h
    case h_2 => cases h
    rename_i hfr
    have hx := hs.ev (T := T) t x
    -- every cell is one cell
    have hone : ∀ (ds : List D) (k : Nat) (dead : List Pos) (K : List D → List Pos → Option R) (r : R), cellsK k ds dead K = some r → ds.all D.one = true := by
      intro ds
      induction ds with
      | nil => intro _ _ _ _ _; rfl
      | cons d ds ih =>
        intro k dead K r h
        unfold cellsK at h
        rcases cond_some h with ⟨h1, h⟩ | ⟨_, h⟩
        · have hrest : ds.all D.one = true := by
            split at h
            · simp only [forceA_eq] at h; exact ih _ _ _ _ h
            · split at h
              · simp only [forceD_eq] at h; exact ih _ _ _ _ h
              · cases h
          rw [List.all_cons, h1, hrest]; rfl
        · cases h
    have hcr := cells_rep hx (hone _ _ _ _ _ h)
    obtain ⟨cs, dead', g1, h1, ho⟩ := cellsK_sound (E := E) 0 (o.dst.getD 0) (Nat.zero_le _) _ (a.eval x).cells.toList 0 g dead _ r (by rw [Array.length_toList]; exact hcr.1) (fun j y hj => by simpa using hcr.2 j y hj) hh.mem h
    rw [memPutK_eq] at h1
    obtain ⟨g', E', k1, k2, k3, k4, k5⟩ := newBox_sound hh (o.dst.getD 0) hfr t (a.eval x).cells ho
    exact ⟨_, _, _, ⟨_, _, g', E', .inl (by simp [execOp, hop, Instr.box, newVar, newRow]), k1, k2, k3, k4⟩, h1⟩
  case build t parts =>
    obtain ⟨ds, h1, h2⟩ := partsK_sound hs _ _ _ h
    rw [← buildK_b] at h2
    obtain ⟨d, h3, h4⟩ := bind_some h2
    obtain ⟨v, h5, h6⟩ := buildK_sound (P := P) hT t ds (parts.map fun p => (p.1, a.eval p.2)) (by simpa using h1) d h3
    exact ⟨_, _, _, .pure hh (by simp [execOp, hop, h5]) h6, h4⟩
  case buildSlice t len parts =>
    obtain ⟨ds, h1, h2⟩ := partsK_sound hs _ _ _ h
    obtain ⟨v, w', p, d, h5, h6, h7, h8⟩ := buildSliceK_sound (P := P) hT hh (o.dst.getD 0) t len ds (parts.map fun p => (p.1, a.eval p.2)) (by simpa using h1) h2
    exact ⟨_, _, _, Res.grow hh h6 (Nat.le_refl _) p (by simp [execOp, hop, h5]) h7, h8⟩
  case load t x =>
    rw [← loadK_b] at h
    obtain ⟨d, h3, h4⟩ := bind_some h
    obtain ⟨v, h5, h6⟩ := loadK_sound (P := P) hT t _ _ (hs.ev 0 x) hh.mem d h3
    exact ⟨_, _, _, .pure hh (by simp [execOp, hop, h5]) h6, h4⟩
  case store t x y =>
    have hx := hs.ev (T := T) 0 x
    have hy := hs.ev (T := T) t y
    unfold storeK at h
    split at h
    case h_2 => cases h
    rename_i ty hty
    have hok := hT _ _ hty
    obtain ⟨i, hi, hz, hsi, hby⟩ := hok.info
    split at h
    case h_2 => cases h
    rename_i k s off heq
    rw [heq] at hx
    split at h
    case h_2 => cases h
    rename_i b hb
    rcases cond_some h with ⟨hc, h⟩ | ⟨_, h⟩
    case inr => cases h
    simp only [Bool.and_eq_true] at hc
    have hc1 := Nat.eq_of_beq_eq_true hc.1
    have hc2 := Nat.le_of_ble_eq_true hc.2
    have hone : ∀ (ds : List D) (k : Nat) (dead : List Pos) (K : List D → List Pos → Option R) (r : R), cellsK k ds dead K = some r → ds.all D.one = true := by
      intro ds
      induction ds with
      | nil => intro _ _ _ _ _; rfl
      | cons d ds ih =>
        intro k dead K r h
        unfold cellsK at h
        rcases cond_some h with ⟨h1, h⟩ | ⟨_, h⟩
        · have hrest : ds.all D.one = true := by
            split at h
            · simp only [forceA_eq] at h; exact ih _ _ _ _ h
            · split at h
              · simp only [forceD_eq] at h; exact ih _ _ _ _ h
              · cases h
          rw [List.all_cons, h1, hrest]; rfl
        · cases h
    have hall := hone _ _ _ _ _ h
    have hcr := cells_rep hy hall
    generalize hev : a.eval x = vx at hx
    cases hx with
    | ptr k s off g1 g2 =>
      obtain ⟨cs, dead', g1', h1, ho⟩ := cellsK_sound (E := E) k s g1 _ (a.eval y).cells.toList off g dead _ r (by rw [Array.length_toList]; exact hcr.1) (fun j z hj => by simpa using hcr.2 j z hj) hh.mem h
      simp only [setRK_eq, memPutK_eq] at h1
      have hul : (a.eval y).cells.toList.length = ty.size := by rw [Array.length_toList, hcr.1, hc1]
      obtain ⟨w', g', E', k0, k1, k2, k3, k4⟩ := store_sound (P := P) hh hb (a.eval y).cells.toList ho (by rw [hul]; exact hc2) (fun u hu => by
        obtain ⟨j, hj⟩ := List.mem_iff_getElem?.1 hu
        have hjl := (List.getElem?_eq_some_iff.1 hj).1
        rw [Array.length_toList, hcr.1] at hjl
        have hd := List.getElem?_eq_getElem hjl
        have h9 := hcr.2 j _ hd
        have : (a.eval y).cells.getD j undef = u := by
          rw [Array.getD_eq_getD_getElem?, ← Array.getElem?_toList, hj]; rfl
        rw [this] at h9
        exact h9.one_ (List.all_eq_true.1 hall _ (List.mem_of_getElem? hd)))
      refine ⟨.any, _, _, ⟨undef, w', g', E', .inr ⟨?_, rfl⟩, k1, k2, .any _, k3⟩, h1⟩
      simp only [execOp, hop, Instr.storeAt, Sem.run_bind, hev, Instr.sureAddr, Sem.run_pure, Result.andThen_ok, storeVar, hok.size (w := w)]
      rw [if_neg (by rw [← hc1, ← hcr.1]; simp)]
      simp [k0]
  case nilCheck x =>
    have hx := hs.ev (T := T) o.type x
    generalize hd : evalD T slots o.type x = dx at h hx
    cases dx <;> simp only [reduceCtorEq] at h
    all_goals
      refine ⟨_, _, _, .pure hh (v := a.eval x) ?_ hx, h⟩
      generalize hv : a.eval x = v at hx
      cases hx
      simp [execOp, hop, hv]
  case binOp op xt x y yt =>
    rw [← binK_b] at h
    obtain ⟨d, h3, h4⟩ := bind_some h
    obtain ⟨v, h5, h6⟩ := binK_sound (P := P) hT op xt x y _ _ _ _ (hs.ev xt x) (hs.ev yt y) d h3
    exact ⟨_, _, _, .pure hh (by simp only [execOp, hop]; rw [Sem.run_bind, h5]; rfl) h6, h4⟩
  case unOp op xt x =>
    rw [← unK_b] at h
    obtain ⟨d, h3, h4⟩ := bind_some h
    obtain ⟨v, h5, h6⟩ := unK_sound (P := P) op xt _ _ (hs.ev xt x) d h3
    exact ⟨_, _, _, .pure hh (by simp [execOp, hop, h5]) h6, h4⟩
  case convert src t x =>
    rw [← convK_b] at h
    obtain ⟨d, h3, h4⟩ := bind_some h
    obtain ⟨v, w', h5, h6, h7⟩ := convK_sound (P := P) hT src t _ _ (hs.ev src x) d h3
    exact ⟨_, _, _, Res.grow hh h6 (Nat.le_refl _) _ (by simp [execOp, hop, h5]) h7, h4⟩
  case makeInterface t x =>
    have hx := hs.ev (T := T) t x
    split at h
    case h_2 => cases h
    rename_i ty y hty hy
    have hv := toV_rep hx hy
    have hd := (hT _ _ hty).desc
    split at h
    · cases h
    · rename_i hni
      refine ⟨_, _, _, .pure hh (v := .iface t (a.eval x)) ?_ (.v (.iface t y) .no _ (.iface t y _ hv) trivial), h⟩
      simp only [execOp, hop, Instr.makeInterface, Sem.run_bind, run_underlying hd, Result.andThen_ok]
      cases hdd : ty.desc <;> simp_all
  case makeFunc fn first caps =>
    cases fn <;> simp only [reduceCtorEq] at h
    rename_i f
    split at h
    case h_2 => cases h
    rename_i hf
    have hf' : first = #[] := Array.toList_eq_nil_iff.1 hf
    subst hf'
    obtain ⟨ds, h1, h2, h3⟩ := capsK_sound hs _ _ _ h
    exact ⟨_, _, _, .pure hh (v := .func (.func f) #[] (caps.map a.eval)) (by simp [execOp, hop, Instr.makeFunc]) (.clos f ds _ (by simpa using h1.symm) fun k y hk => by simpa using h2 k y hk), h3⟩
  case makeSlice t l c =>
    obtain ⟨v, w', p, d, h5, h6, h7, h8⟩ := makeSliceK_sound (P := P) hT hh (o.dst.getD 0) t _ _ _ _ (hs.ev 0 l) (hs.ev 0 c) h
    exact ⟨_, _, _, Res.grow hh h6 (Nat.le_refl _) p (by simp [execOp, hop, h5]) h7, h8⟩
  case slice t x lo hi mx =>
    obtain ⟨dlo, h1, h⟩ := evO_sound hs lo _ _ h
    obtain ⟨dhi, h2, h⟩ := evO_sound hs hi _ _ h
    obtain ⟨dmx, h3, h⟩ := evO_sound hs mx _ _ h
    rw [← sliceK_b] at h
    obtain ⟨d, h4, h5⟩ := bind_some h
    obtain ⟨v, h6, h7⟩ := sliceK_sound (P := P) hh.sz hT t _ _ _ _ _ _ _ _ (hs.ev t x) h1 h2 h3 d h4
    exact ⟨_, _, _, .pure hh (by simp [execOp, hop, h6]) h7, h5⟩
  case fieldAddr t x f =>
    rw [← fieldAddrK_b] at h
    obtain ⟨d, h3, h4⟩ := bind_some h
    obtain ⟨v, h5, h6⟩ := fieldAddrK_sound (P := P) hT t _ f _ (hs.ev 0 x) d h3
    exact ⟨_, _, _, .pure hh (by simp [execOp, hop, h5]) h6, h4⟩
  case field t x f =>
    rw [← fieldK_b] at h
    obtain ⟨d, h3, h4⟩ := bind_some h
    obtain ⟨v, h5, h6⟩ := fieldK_sound (P := P) hT t _ f _ (hs.ev t x) d h3
    exact ⟨_, _, _, .pure hh (by simp [execOp, hop, h5]) h6, h4⟩
  case indexAddr t x i =>
    rw [← indexAddrK_b] at h
    obtain ⟨d, h3, h4⟩ := bind_some h
    obtain ⟨v, h5, h6⟩ := indexAddrK_sound (P := P) hh.sz hT t _ _ _ _ (hs.ev t x) (hs.ev 0 i) d h3
    exact ⟨_, _, _, .pure hh (by simp [execOp, hop, h5]) h6, h4⟩
  case index t x i =>
    rw [← indexK_b] at h
    obtain ⟨d, h3, h4⟩ := bind_some h
    obtain ⟨v, h5, h6⟩ := indexK_sound (P := P) hT t _ _ _ _ (hs.ev t x) (hs.ev 0 i) d h3
    exact ⟨_, _, _, .pure hh (by simp [execOp, hop, h5]) h6, h4⟩
  case extract x i =>
    have hx := hs.ev (T := T) 0 x
    generalize hd : evalD T slots 0 x = dx at h hx
    cases dx <;> simp only [reduceCtorEq] at h
    rename_i ds
    split at h
    case h_2 => cases h
    rename_i d hdi
    rw [forceD_eq] at h
    generalize hv : a.eval x = v at hx
    cases hx with
    | tup ds us hn hr =>
      have hi := (List.getElem?_eq_some_iff.1 hdi).1
      refine ⟨_, _, _, .pure hh (v := us.getD i undef) ?_ (hr i d hdi).plain_, h⟩
      have hu : us[i]? = some (us.getD i undef) := by simp [Array.getD_eq_getD_getElem?, (by omega : i < us.size)]
      simp only [execOp, hop, hv, Instr.extract, Sem.run_bind, hu]
      rfl
  case call c =>
    obtain ⟨callee, args, ats⟩ := c
    obtain ⟨args⟩ := args
    obtain ⟨ats⟩ := ats
    simp only at h
    split at h
    · rename_i x t
      rw [← lenK_b] at h
      obtain ⟨d, h3, h4⟩ := bind_some h
      obtain ⟨v, h5, h6⟩ := lenK_sound (P := P) hT t o.type _ _ (hs.ev t x) d h3
      exact ⟨_, _, _, .pure hh (by simp [execOp, hop, resolve, invoke, builtin, h5]) h6, h4⟩
    · rename_i s x t t2
      obtain ⟨v, w', g', E', d, m', dead', h5, h6, h7, h8, h9, h10, h11⟩ := appendK_sound (P := P) hT hh (o.dst.getD 0) t t2 o.type _ _ _ _ (hs.ev t s) (hs.ev t2 x) h
      exact ⟨_, _, _, ⟨v, w', g', E', .inl (by simp [execOp, hop, resolve, invoke, builtin, h5]), h7, h8, h9, h10⟩, h11⟩
    · rename_i x y t u
      rw [← minmaxK_b] at h
      obtain ⟨d, h3, h4⟩ := bind_some h
      have hx := hs.ev (T := T) t x
      have hy := hs.ev (T := T) u y
      unfold minmaxK at h3
      split at h3
      case h_2 => cases h3
      rename_i k n a1 k' n' a2 heq
      injection heq with e1 heq
      injection heq with e2 _
      rw [e1] at hx
      rw [e2] at hy
      split at h3
      case isFalse => cases h3
      rename_i hk
      subst hk
      injection h3 with h3; subst h3
      obtain ⟨hx1, hx2⟩ := hx.int_inv
      obtain ⟨hy1, hy2⟩ := hy.int_inv
      refine ⟨_, _, _, .pure hh (v := .int k (max n n')) ?_ (RepD.int_ (by show k.min ≤ max n n' ∧ max n n' ≤ k.max; omega)), h4⟩
      simp [execOp, hop, resolve, invoke, builtin, hx1, hy1, run_max_int2]
      split <;> omega
    · rename_i x y t u
      rw [← minmaxK_b] at h
      obtain ⟨d, h3, h4⟩ := bind_some h
      have hx := hs.ev (T := T) t x
      have hy := hs.ev (T := T) u y
      unfold minmaxK at h3
      split at h3
      case h_2 => cases h3
      rename_i k n a1 k' n' a2 heq
      injection heq with e1 heq
      injection heq with e2 _
      rw [e1] at hx
      rw [e2] at hy
      split at h3
      case isFalse => cases h3
      rename_i hk
      subst hk
      injection h3 with h3; subst h3
      obtain ⟨hx1, hx2⟩ := hx.int_inv
      obtain ⟨hy1, hy2⟩ := hy.int_inv
      refine ⟨_, _, _, .pure hh (v := .int k (min n n')) ?_ (RepD.int_ (by show k.min ≤ min n n' ∧ min n n' ≤ k.max; omega)), h4⟩
      simp [execOp, hop, resolve, invoke, builtin, hx1, hy1, run_min_int2]
      split <;> omega
    · cases h
end
end Go.Proofs.YtjpmogajlnkihaaDoor.En

/- The engine, part t: what an operation reads and writes; operations that may change places. No world in sight. -/
namespace Go.Proofs.YtjpmogajlnkihaaDoor.En
open Go
set_option linter.unusedVariables false

section
variable {R : Type} {T : TypeId → Option Ty}
theorem putK_eq (slots : List D) (dst : Option Nat) (d : D) (K : List D → Option R) : putK slots dst d K = K (match dst with | some s => slots.set s (slotD s d) | none => slots) := by
  unfold putK
  cases dst with
  | none => rfl
  | some s => cases d <;> simp only [forceA_eq, setK_eq, slotD]
def put (slots : List D) (dst : Option Nat) (d : D) : List D := match dst with | some s => slots.set s (slotD s d) | none => slots
theorem putK_put (slots : List D) (dst : Option Nat) (d : D) (K : List D → Option R) : putK slots dst d K = K (put slots dst d) := putK_eq slots dst d K
/-- No operand is the temporary x. -/
def Free (x : Nat) (z : Operand) : Prop := z ≠ .tmp x
theorem evalD_set (slots : List D) (x : Nat) (v : D) (h : TypeId) (z : Operand) (hz : Free x z) : evalD T (slots.set x v) h z = evalD T slots h z := by
  cases z with
  | tmp t =>
    have : x ≠ t := fun e => hz (by rw [e])
    simp [evalD, List.getD_eq_getElem?_getD, List.getElem?_set_ne this]
  | _ => rfl
theorem partsK_set (slots : List D) (x : Nat) (v : D) : ∀ (ps : List (Nat × Operand)) (K : List (Nat × D) → Option R), (∀ p ∈ ps, Free x p.2) → partsK T (slots.set x v) ps K = partsK T slots ps K
  | [], K, _ => rfl
  | (i, z) :: ps, K, h => by
    simp only [partsK, evK_eq]
    rw [evalD_set slots x v 0 z (h (i, z) (by simp)), partsK_set slots x v ps _ (fun p hp => h p (by simp [hp]))]
theorem evO_set (slots : List D) (x : Nat) (v : D) (z : Option Operand) (K : Option D → Option R) (h : ∀ y, z = some y → Free x y) : evO T (slots.set x v) z K = evO T slots z K := by
  cases z with
  | none => rfl
  | some z => simp only [evO, evK_eq]; rw [evalD_set slots x v 0 z (h z rfl)]
theorem capsK_set (slots : List D) (x : Nat) (v : D) : ∀ (zs : List Operand) (K : List D → Option R), (∀ z ∈ zs, Free x z) → capsK T (slots.set x v) zs K = capsK T slots zs K
  | [], K, _ => rfl
  | z :: zs, K, h => by
    simp only [capsK, evK_eq, forceD_eq]
    rw [evalD_set slots x v 0 z (h z (by simp)), capsK_set slots x v zs _ (fun p hp => h p (by simp [hp]))]
theorem argsK_set (slots : List D) (x : Nat) (v : D) : ∀ (zs : List Operand) (ts : List TypeId) (K : List D → Option R), (∀ z ∈ zs, Free x z) → argsK T (slots.set x v) ts zs K = argsK T slots ts zs K
  | [], ts, K, _ => by cases ts <;> rfl
  | z :: zs, [], K, h => by
    simp only [argsK, evK_eq, forceD_eq]
    rw [evalD_set slots x v 0 z (h z (by simp)), argsK_set slots x v zs [] _ (fun p hp => h p (by simp [hp]))]
  | z :: zs, t :: ts, K, h => by
    simp only [argsK, evK_eq, forceD_eq]
    rw [evalD_set slots x v t z (h z (by simp)), argsK_set slots x v zs ts _ (fun p hp => h p (by simp [hp]))]
theorem opK_set (dst : Nat) (oty : TypeId) (slots : List D) (x : Nat) (v : D) (op : Op) (m : Mem) (dead : List Pos) (K : D → Mem → List Pos → Option R) (h : ∀ z ∈ op.operands.toList, Free x z) :
    opK T dst oty (slots.set x v) op m dead K = opK T dst oty slots op m dead K := by
  cases op <;> simp only [opK, evK_eq]
  case pick c a b =>
    rw [evalD_set _ _ _ _ _ (h c (by simp [Op.operands])), evalD_set _ _ _ _ _ (h a (by simp [Op.operands])), evalD_set _ _ _ _ _ (h b (by simp [Op.operands]))]
  case build t ps => exact partsK_set _ _ _ _ _ (fun p hp => h p.2 (by simp [Op.operands]; exact ⟨p.1, by simpa using hp⟩))
  case buildSlice t l ps => exact partsK_set _ _ _ _ _ (fun p hp => h p.2 (by simp [Op.operands]; exact ⟨p.1, by simpa using hp⟩))
  case makeFunc fn first caps =>
    cases fn <;> simp only
    split
    · exact capsK_set _ _ _ _ _ (fun z hz => h z (by simp [Op.operands]; exact .inr (by simpa using hz)))
    · rfl
  case slice t y lo hi mx =>
    rw [evalD_set _ _ _ _ _ (h y (by simp [Op.operands])), evO_set _ _ _ _ _ (fun z hz => h z (by simp [Op.operands, hz]))]
    congr 1
    funext d1
    rw [evO_set _ _ _ _ _ (fun z hz => h z (by simp [Op.operands, hz]))]
    congr 1
    funext d2
    rw [evO_set _ _ _ _ _ (fun z hz => h z (by simp [Op.operands, hz]))]
  case call c =>
    obtain ⟨cal, ⟨args⟩, ⟨ats⟩⟩ := c
    simp only
    split
    · rw [evalD_set _ _ _ _ _ (h _ (by simp [Op.operands, Call.operands]))]
    · rw [evalD_set _ _ _ _ _ (h _ (by simp [Op.operands, Call.operands])), evalD_set _ _ _ _ _ (h _ (by simp [Op.operands, Call.operands]))]
    · rw [evalD_set _ _ _ _ _ (h _ (by simp [Op.operands, Call.operands])), evalD_set _ _ _ _ _ (h _ (by simp [Op.operands, Call.operands]))]
    · rw [evalD_set _ _ _ _ _ (h _ (by simp [Op.operands, Call.operands])), evalD_set _ _ _ _ _ (h _ (by simp [Op.operands, Call.operands]))]
    · rfl
  all_goals
    repeat rw [evalD_set _ _ _ _ _ (h _ (by simp [Op.operands]))]
theorem runK_set (cx : Cx) (o : Oper) (slots : List D) (x : Nat) (v : D) (m : Mem) (dead : List Pos) (K : Bool → D → Mem → List Pos → Option R) (h : ∀ z ∈ o.op.operands.toList, Free x z) :
    runK cx o (slots.set x v) m dead K = runK cx o slots m dead K := by
  unfold runK
  cases hop : o.op <;> simp only
  case call c =>
    rw [hop] at h
    obtain ⟨cal, ⟨args⟩, ⟨ats⟩⟩ := c
    cases cal with
    | builtin b => simp only; exact opK_set _ _ _ _ _ _ _ _ _ h
    | value f =>
      simp only [evK_eq]
      rw [evalD_set _ _ _ _ _ (h f (by simp [Op.operands, Call.operands]))]
      split
      · exact argsK_set _ _ _ _ _ _ (fun z hz => h z (by simp [Op.operands, Call.operands, hz]))
      · rfl
    | invoke f nm =>
      simp only [evK_eq]
      rw [evalD_set _ _ _ _ _ (h f (by simp [Op.operands, Call.operands]))]
      split
      · split
        · split
          · exact argsK_set _ _ _ _ _ _ (fun z hz => h z (by simp [Op.operands, Call.operands, hz]))
          · rfl
        · rfl
      · rfl
  all_goals exact opK_set _ _ _ _ _ _ _ _ _ (by rw [hop] at h; exact h)

/-! Values that need no memory, or only read it -/
theorem partsK_b {α : Type} (slots : List D) : ∀ (ps : List (Nat × Operand)) (F : List (Nat × D) → Option α) (K : α → Option R), (partsK T slots ps F).bind K = partsK T slots ps fun l => (F l).bind K
  | [], _, _ => rfl
  | (i, x) :: ps, F, K => by simp only [partsK, evK_eq]; exact partsK_b slots ps _ K
theorem evO_b {α : Type} (slots : List D) (z : Option Operand) (F : Option D → Option α) (K : α → Option R) : (evO T slots z F).bind K = evO T slots z fun l => (F l).bind K := by
  cases z <;> simp only [evO, evK_eq]
theorem capsK_b {α : Type} (slots : List D) : ∀ (ps : List Operand) (F : List D → Option α) (K : α → Option R), (capsK T slots ps F).bind K = capsK T slots ps fun l => (F l).bind K
  | [], _, _ => rfl
  | x :: ps, F, K => by simp only [capsK, evK_eq, forceD_eq]; exact capsK_b slots ps _ K
theorem argsK_b {α : Type} (slots : List D) : ∀ (zs : List Operand) (ts : List TypeId) (F : List D → Option α) (K : α → Option R), (argsK T slots ts zs F).bind K = argsK T slots ts zs fun l => (F l).bind K
  | [], ts, _, _ => by cases ts <;> rfl
  | x :: ps, [], F, K => by simp only [argsK, evK_eq, forceD_eq]; exact argsK_b slots ps [] _ K
  | x :: ps, t :: ts, F, K => by simp only [argsK, evK_eq, forceD_eq]; exact argsK_b slots ps ts _ K
theorem buildSliceK_b (dst : Nat) (t : TypeId) (len : Nat) (ps : List (Nat × D)) (K : D → Option R) : (buildSliceK T dst t len ps some).bind K = buildSliceK T dst t len ps K := by
  unfold buildSliceK
  split
  · split
    · split
      · rw [cond_b]
        congr 1
        split
        · split
          · split
            · rw [cond_b]; rfl
            · rfl
          · split <;> rfl
          · rfl
        · rfl
      · rfl
    · rfl
  · rfl
theorem makeSliceK_b (dst : Nat) (t : TypeId) (l c : D) (K : D → Option R) : (makeSliceK T dst t l c some).bind K = makeSliceK T dst t l c K := by
  unfold makeSliceK
  split
  · split
    · split
      · rw [cond_b, check_b]
        congr 2
        split
        · split <;> rfl
        · split <;> rfl
        · rfl
      · rfl
    · rfl
  · rfl
/-- Operations that only read: class n, r. -/
def isVal (cx : Cx) (op : Op) : Bool := match clsOf cx op with | .n => true | .r => true | _ => false
def isN (cx : Cx) (op : Op) : Bool := match clsOf cx op with | .n => true | _ => false
end

section
variable {R : Type} {T : TypeId → Option Ty}
/-- Calls of pure functions give their results to whatever comes behind. -/
def PureB (cx : Cx) : Prop := ∀ (R : Type) (g : FuncId) (ds : List D) (K : List D → Option R), cx.pureK g ds K = (cx.pureK g ds some).bind K
def valO (T : TypeId → Option Ty) (dst : Nat) (oty : TypeId) (slots : List D) (op : Op) (m : Mem) : Option D := opK T dst oty slots op m [] fun d _ _ => some d
theorem opK_val (cx : Cx) (dst : Nat) (oty : TypeId) (slots : List D) (op : Op) (hv : isVal cx op = true) (m : Mem) (dead : List Pos) (K : D → Mem → List Pos → Option R) :
    opK T dst oty slots op m dead K = (valO T dst oty slots op m).bind fun d => K d m dead := by
  unfold valO
  cases op <;> simp only [isVal, clsOf, reduceCtorEq, Bool.false_eq_true] at hv <;> simp only [opK, evK_eq, Option.bind_some, Option.bind_none]
  case pick c a b =>
    split
    · rename_i x0 a0 heq
      cases x0 <;> simp only [V.unBool, Option.bind_none]
      rename_i t
      cases t <;> rfl
    · rfl
  case build t ps =>
    rw [partsK_b]
    congr 1
    funext l
    rw [← buildK_b t l fun d => K d m dead]
  case buildSlice t l ps =>
    rw [partsK_b]
    congr 1
    funext l
    rw [← buildSliceK_b _ t _ l fun d => K d m dead]
  case load t a => rw [← loadK_b t _ m fun d => K d m dead]
  case nilCheck x => split <;> rfl
  case binOp => rw [← binK_b _ _ _ _ _ fun d => K d m dead]
  case unOp => rw [← unK_b _ _ fun d => K d m dead]
  case convert => rw [← convK_b _ _ _ fun d => K d m dead]
  case makeInterface t x =>
    split
    · split <;> rfl
    · rfl
  case makeFunc fn first caps =>
    cases fn <;> simp only [Option.bind_none]
    split
    · rw [capsK_b]; rfl
    · rfl
  case makeSlice => rw [← makeSliceK_b _ _ _ _ fun d => K d m dead]
  case slice t x lo hi mx =>
    rw [evO_b]; congr 1; funext a
    rw [evO_b]; congr 1; funext b
    rw [evO_b]; congr 1; funext c
    rw [← sliceK_b _ _ _ _ _ fun d => K d m dead]
  case fieldAddr => rw [← fieldAddrK_b _ _ _ fun d => K d m dead]
  case field => rw [← fieldK_b _ _ _ fun d => K d m dead]
  case indexAddr => rw [← indexAddrK_b _ _ _ fun d => K d m dead]
  case index => rw [← indexK_b _ _ _ fun d => K d m dead]
  case extract x i =>
    split
    · split
      · simp only [forceD_eq]; rfl
      · rfl
    · rfl
  case call c =>
    obtain ⟨cal, ⟨args⟩, ⟨ats⟩⟩ := c
    simp only
    split
    · rw [← lenK_b _ _ fun d => K d m dead]
    · simp at hv
    · rw [← minmaxK_b _ _ fun d => K d m dead]
    · rw [← minmaxK_b _ _ fun d => K d m dead]
    · rfl
theorem valO_mem (cx : Cx) (dst : Nat) (oty : TypeId) (slots : List D) (op : Op) (hv : isN cx op = true) (m m' : Mem) : valO T dst oty slots op m = valO T dst oty slots op m' := by
  unfold valO
  cases op <;> simp only [isN, clsOf, reduceCtorEq, Bool.false_eq_true] at hv <;> simp only [opK]
  case makeFunc fn first caps => cases fn <;> rfl
  case call c =>
    obtain ⟨cal, ⟨args⟩, ⟨ats⟩⟩ := c
    simp only
    split
    · rfl
    · simp at hv
    · rfl
    · rfl
    · rfl
/-- The value of an operation that only reads, calls of pure functions among them. -/
def valR (cx : Cx) (o : Oper) (slots : List D) (m : Mem) : Option D := runK cx o slots m [] fun _ d _ _ => some d
theorem runK_val (cx : Cx) (hB : PureB cx) (o : Oper) (slots : List D) (hv : isVal cx o.op = true) (m : Mem) (dead : List Pos) (K : Bool → D → Mem → List Pos → Option R) :
    runK cx o slots m dead K = (valR cx o slots m).bind fun d => K false d m dead := by
  unfold valR runK
  cases hop : o.op <;> simp only
  case call c =>
    rw [hop] at hv
    obtain ⟨cal, ⟨args⟩, ⟨ats⟩⟩ := c
    cases cal with
    | builtin b =>
      simp only
      rw [opK_val cx _ _ _ _ hv m dead (K false)]
      rfl
    | value f =>
      cases f <;> simp only [isVal, clsOf, reduceCtorEq, Bool.false_eq_true] at hv
      rename_i f
      simp only [evK]
      rw [argsK_b]
      congr 1
      funext xs
      simp only [forceL_eq, callK]
      cases hp : cx.isPure f with
      | true =>
        simp only
        rw [hB _ f _ fun rs => K false (resD rs) m dead, hB _ f _ fun rs => some (resD rs)]
        cases cx.pureK f (xs ++ List.map argD []) some <;> rfl
      | false => rw [hp] at hv; simp at hv
    | invoke f nm => simp [isVal, clsOf] at hv
  all_goals
    rw [hop] at hv
    rw [opK_val cx _ _ _ _ hv m dead (K false)]
    rfl
theorem valR_set (cx : Cx) (o : Oper) (slots : List D) (x : Nat) (v : D) (m : Mem) (h : ∀ z ∈ o.op.operands.toList, Free x z) : valR cx o (slots.set x v) m = valR cx o slots m :=
  runK_set cx o slots x v m [] _ h
theorem valR_mem (cx : Cx) (o : Oper) (slots : List D) (hv : isN cx o.op = true) (m m' : Mem) : valR cx o slots m = valR cx o slots m' := by
  unfold valR runK
  cases hop : o.op <;> simp only
  case call c =>
    rw [hop] at hv
    obtain ⟨cal, ⟨args⟩, ⟨ats⟩⟩ := c
    cases cal with
    | builtin b => exact valO_mem cx _ _ _ _ hv m m'
    | value f =>
      cases f <;> simp only [isN, clsOf, reduceCtorEq, Bool.false_eq_true] at hv
      rename_i f
      simp only [evK]
      congr 1
      funext xs
      simp only [forceL_eq, callK]
      cases hp : cx.isPure f with
      | true => rfl
      | false => rw [hp] at hv; simp at hv
    | invoke f nm => simp [isN, clsOf] at hv
  all_goals
    rw [hop] at hv
    exact valO_mem cx _ _ _ _ hv m m'

/-! Steps -/
/-- An operation that is wanted or not, its guard being known. -/
def wants (ops : Array Oper) (o : Oper) (slots : List D) : Option Bool :=
  match o.guard with
  | none => some true
  | some (j, want) => (match dstOf ops j with | some s => (match slots.getD s .any with | .v (.bool b) _ => some (b == want) | .tup _ => some false | _ => none) | none => none)
theorem getD_set_self {slots : List D} {s : Nat} {d : D} (h : slots.getD s .any = d) (hd : d ≠ .any) : slots.set s d = slots := by
  apply List.ext_getElem?
  intro k
  rw [List.getElem?_set]
  split
  · rename_i e
    subst e
    rw [List.getD_eq_getElem?_getD] at h
    cases hk : slots[s]? with
    | none => rw [hk] at h; exact absurd h.symm hd
    | some x =>
      rw [hk] at h
      simp at h
      subst h
      have := (List.getElem?_eq_some_iff.1 hk).1
      simp [this]
  · rfl
def actK (cx : Cx) (b : Bool) (o : Oper) (st : St) (K : St → Option R) : Option R := match b with | true => takeK cx o st K | false => skipK o st K
theorem stepK_eq (cx : Cx) (ops : Array Oper) (o : Oper) (st : St) (K : St → Option R) :
    stepK cx ops o st K = match wants ops o st.slots with | some b => actK cx b o st K | none => none := by
  unfold stepK wants
  obtain ⟨slots, mem, dead⟩ := st
  cases hg : o.guard with
  | none => rfl
  | some p =>
    obtain ⟨j, want⟩ := p
    simp only
    cases hd : dstOf ops j with
    | none => rfl
    | some s =>
      simp only [getK_eq, setK_eq]
      generalize hx : slots.getD s .any = dx
      cases dx with
      | v x a =>
        cases x with
        | bool b =>
          simp only [V.unBool]
          have hself : slots.set s (.v (.bool b) a) = slots := getD_set_self hx (by simp)
          cases b <;> cases want <;> simp only [br, cond_true, cond_false, hself] <;> rfl
        | _ => rfl
      | _ => rfl
end
end Go.Proofs.YtjpmogajlnkihaaDoor.En

/- The engine, part u: operations of a region may change places where nothing binds them. No world in sight. -/
namespace Go.Proofs.YtjpmogajlnkihaaDoor.En
open Go
set_option linter.unusedVariables false
section
variable {R : Type} {cx : Cx} {ops : Array Oper}

def notC (cx : Cx) (op : Op) : Bool := match clsOf cx op with | .c => false | _ => true
theorem notC_of_val {op : Op} (h : isVal cx op = true) : notC cx op = true := by
  unfold isVal at h; unfold notC; cases hc : clsOf cx op <;> simp [hc] at h ⊢
theorem runK_flag (o : Oper) (hc : notC cx o.op = true) (slots : List D) (m : Mem) (dead : List Pos) (K : Bool → D → Mem → List Pos → Option R) :
    runK cx o slots m dead K = runK cx o slots m dead fun _ => K false := by
  unfold runK
  cases hop : o.op <;> simp only
  case call c =>
    rw [hop] at hc
    obtain ⟨cal, ⟨args⟩, ⟨ats⟩⟩ := c
    cases cal with
    | builtin b => rfl
    | value f =>
      cases f <;> simp only [notC, clsOf, Bool.false_eq_true] at hc
      rename_i f
      cases hp : cx.isPure f with
      | true => simp only [evK, callK, hp]
      | false => rw [hp] at hc; simp at hc
    | invoke f nm => simp [notC, clsOf] at hc
theorem wants_set {slots : List D} {x : Nat} {v : D} {o : Oper} (h : ∀ j w s, o.guard = some (j, w) → dstOf ops j = some s → s ≠ x) : wants ops o (slots.set x v) = wants ops o slots := by
  unfold wants
  cases hg : o.guard with
  | none => rfl
  | some p =>
    obtain ⟨j, w⟩ := p
    simp only
    cases hd : dstOf ops j with
    | none => rfl
    | some s =>
      have := h j w s hg hd
      simp only [List.getD_eq_getElem?_getD, List.getElem?_set_ne (Ne.symm this)]
/-- Reads nothing of slot x, and does not write it. -/
structure Away (ops : Array Oper) (x : Nat) (o : Oper) : Prop where
  reads : ∀ z ∈ o.op.operands.toList, Free x z
  guard : ∀ j w s, o.guard = some (j, w) → dstOf ops j = some s → s ≠ x
  dst : o.dst ≠ some x
theorem put_set (slots : List D) (dst : Option Nat) (d : D) (x : Nat) (v : D) (h : dst ≠ some x) : put (slots.set x v) dst d = (put slots dst d).set x v := by
  cases dst with
  | none => rfl
  | some s =>
    simp only [put]
    exact List.set_comm _ _ (fun e => h (by rw [e]))
theorem takeK_eq (o : Oper) (hc : notC cx o.op = true) (slots : List D) (m : Mem) (dead : List Pos) (K : St → Option R) :
    takeK cx o ⟨slots, m, dead⟩ K = runK cx o slots m dead fun _ d m' dead' => K ⟨put slots o.dst d, m', dead'⟩ := by
  simp only [takeK]
  rw [runK_flag o hc]
  simp only [cond_false, putK_put]
theorem skipK_eq (o : Oper) (slots : List D) (m : Mem) (dead : List Pos) (K : St → Option R) : skipK o ⟨slots, m, dead⟩ K = K ⟨put slots o.dst (.tup []), m, dead⟩ := by
  simp only [skipK, putK_put]
theorem step_set {x : Nat} {o : Oper} (ha : Away ops x o) (hc : notC cx o.op = true) (slots : List D) (v : D) (m : Mem) (dead : List Pos) (K : St → Option R) :
    stepK cx ops o ⟨slots.set x v, m, dead⟩ K = stepK cx ops o ⟨slots, m, dead⟩ fun s => K ⟨s.slots.set x v, s.mem, s.dead⟩ := by
  rw [stepK_eq, stepK_eq, wants_set ha.guard]
  cases wants ops o slots with
  | none => rfl
  | some b =>
    cases b
    · simp only [actK, skipK_eq, put_set _ _ _ _ _ ha.dst]
    · simp only [actK, takeK_eq o hc, runK_set cx o slots x v m dead _ ha.reads, put_set _ _ _ _ _ ha.dst]
theorem step_congr {o : Oper} (hc : notC cx o.op = true) (slots : List D) (m : Mem) (dead : List Pos) {K K' : St → Option R} (h : ∀ d m' dd, K ⟨put slots o.dst d, m', dd⟩ = K' ⟨put slots o.dst d, m', dd⟩) :
    stepK cx ops o ⟨slots, m, dead⟩ K = stepK cx ops o ⟨slots, m, dead⟩ K' := by
  rw [stepK_eq, stepK_eq]
  cases wants ops o slots with
  | none => rfl
  | some b =>
    cases b
    · simp only [actK, skipK_eq, h]
    · simp only [actK, takeK_eq o hc, h]
/-- The value of an operation that only reads, its guard in sight. -/
def valS (cx : Cx) (ops : Array Oper) (o : Oper) (slots : List D) (m : Mem) : Option D :=
  match wants ops o slots with
  | none => none
  | some true => valR cx o slots m
  | some false => some (.tup [])
theorem step_val (hB : PureB cx) {o : Oper} (hv : isVal cx o.op = true) (slots : List D) (m : Mem) (dead : List Pos) (K : St → Option R) :
    stepK cx ops o ⟨slots, m, dead⟩ K = (valS cx ops o slots m).bind fun d => K ⟨put slots o.dst d, m, dead⟩ := by
  rw [stepK_eq]
  unfold valS
  cases wants ops o slots with
  | none => rfl
  | some b =>
    cases b
    · simp only [actK, skipK_eq]; rfl
    · simp only [actK, takeK_eq o (notC_of_val hv)]
      rw [runK_val cx hB o slots hv]
theorem valS_set {x : Nat} {o : Oper} (ha : Away ops x o) (slots : List D) (v : D) (m : Mem) : valS cx ops o (slots.set x v) m = valS cx ops o slots m := by
  unfold valS
  rw [wants_set ha.guard, valR_set cx o slots x v m ha.reads]
theorem valS_mem {o : Oper} (hv : isN cx o.op = true) (slots : List D) (m m' : Mem) : valS cx ops o slots m = valS cx ops o slots m' := by
  unfold valS
  rw [valR_mem cx o slots hv m m']
theorem isVal_of_N {op : Op} (h : isN cx op = true) : isVal cx op = true := by
  unfold isN at h; unfold isVal; cases hc : clsOf cx op <;> simp [hc] at h ⊢
theorem put_away {o i : Oper} (ha : ∀ x, o.dst = some x → Away ops x i) (slots : List D) (d : D) (m : Mem) : valS cx ops i (put slots o.dst d) m = valS cx ops i slots m := by
  cases h : o.dst with
  | none => rfl
  | some x => exact valS_set (ha x h) slots _ m
theorem step_put {o i : Oper} (ha : ∀ x, o.dst = some x → Away ops x i) (hc : notC cx i.op = true) (slots : List D) (d : D) (m : Mem) (dead : List Pos) (K : St → Option R) :
    stepK cx ops i ⟨put slots o.dst d, m, dead⟩ K = stepK cx ops i ⟨slots, m, dead⟩ fun s => K ⟨put s.slots o.dst d, s.mem, s.dead⟩ := by
  cases h : o.dst with
  | none => rfl
  | some x => exact step_set (ha x h) hc slots _ m dead K
/-- x, which only reads, and then i: or the other way round. -/
theorem swap_val (hB : PureB cx) {x i : Oper} (hx : isVal cx x.op = true) (hi : notC cx i.op = true) (hxi : ∀ s, x.dst = some s → Away ops s i) (hix : ∀ s, i.dst = some s → Away ops s x)
    (hn : isN cx x.op = true ∨ isVal cx i.op = true) (slots : List D) (m : Mem) (dead : List Pos) (K : St → Option R) :
    stepK cx ops x ⟨slots, m, dead⟩ (fun s => stepK cx ops i s K) = stepK cx ops i ⟨slots, m, dead⟩ (fun s => stepK cx ops x s K) ∨ stepK cx ops x ⟨slots, m, dead⟩ (fun s => stepK cx ops i s K) = none := by
  rw [step_val hB hx]
  cases hd : valS cx ops x slots m with
  | none => exact .inr rfl
  | some d =>
    refine .inl ?_
    simp only [Option.bind_some]
    rw [step_put hxi hi]
    rcases hn with hn | hn
    · refine step_congr hi _ _ _ fun e m' dd => ?_
      rw [step_val hB hx, put_away hix, valS_mem hn slots m' m, hd]
      rfl
    · rw [step_val hB hn, step_val hB hn]
      cases valS cx ops i slots m with
      | none => rfl
      | some e =>
        simp only [Option.bind_some]
        rw [step_val hB hx, put_away hix, hd]
        rfl
/-- The end of a step: what comes behind it holds somewhere. -/
theorem swap_val' (hB : PureB cx) {x i : Oper} (hx : notC cx x.op = true) (hi : isVal cx i.op = true) (hxi : ∀ s, x.dst = some s → Away ops s i) (hix : ∀ s, i.dst = some s → Away ops s x)
    (hn : isN cx i.op = true ∨ isVal cx x.op = true) (slots : List D) (m : Mem) (dead : List Pos) (K : St → Option R) {e : D} (he : valS cx ops i slots m = some e) :
    stepK cx ops x ⟨slots, m, dead⟩ (fun s => stepK cx ops i s K) = stepK cx ops i ⟨slots, m, dead⟩ (fun s => stepK cx ops x s K) := by
  rw [step_val hB hi, he]
  simp only [Option.bind_some]
  rw [step_put hix hx]
  rcases hn with hn | hn
  · refine step_congr hx _ _ _ fun d m' dd => ?_
    rw [step_val hB hi, put_away hxi, valS_mem hn slots m' m, he]
    rfl
  · rw [step_val hB hn, step_val hB hn]
    cases valS cx ops x slots m with
    | none => rfl
    | some d =>
      simp only [Option.bind_some]
      rw [step_val hB hi, put_away hxi, he]
      rfl
theorem cellsK_out {R : Type} (k : Nat) : ∀ (ds : List D) (dead : List Pos) (K : List D → List Pos → Option R) (r : R), cellsK k ds dead K = some r → ∃ cs dd, K cs dd = some r
  | [], dead, K, r, h => ⟨_, _, h⟩
  | d :: ds, dead, K, r, h => by
    unfold cellsK at h
    rcases cond_some h with ⟨_, h⟩ | ⟨_, h⟩
    · split at h
      · simp only [forceA_eq] at h; obtain ⟨_, _, h⟩ := cellsK_out k ds _ _ r h; exact ⟨_, _, h⟩
      · split at h
        · simp only [forceD_eq] at h; obtain ⟨_, _, h⟩ := cellsK_out k ds _ _ r h; exact ⟨_, _, h⟩
        · cases h
    · cases h
end
end Go.Proofs.YtjpmogajlnkihaaDoor.En

/- The engine, part v: contracts of functions; one operation, calls among them. -/
namespace Go.Proofs.YtjpmogajlnkihaaDoor.En
open Go
set_option linter.unusedVariables false

section
variable {R : Type} {cx : Cx} {ops : Array Oper}
theorem cellsK_b {α : Type} (k : Nat) : ∀ (ds : List D) (dead : List Pos) (F : List D → List Pos → Option α) (K : α → Option R), (cellsK k ds dead F).bind K = cellsK k ds dead fun a b => (F a b).bind K
  | [], _, _, _ => rfl
  | d :: ds, dead, F, K => by
    unfold cellsK
    rw [cond_b]
    congr 1
    split
    · simp only [forceA_eq]; exact cellsK_b k ds _ _ K
    · split
      · simp only [forceD_eq]; exact cellsK_b k ds _ _ K
      · rfl
theorem newBoxK_b {α : Type} (s : Nat) (t : TypeId) (ds : List D) (m : Mem) (dead : List Pos) (F : Mem → List Pos → Option α) (K : α → Option R) : (newBoxK s t ds m dead F).bind K = newBoxK s t ds m dead fun a b => (F a b).bind K := by
  unfold newBoxK
  split
  · split
    · rw [cellsK_b]; simp only [memPutK_eq]
    · rfl
  · rfl
theorem useUpK_b {α : Type} (a : Att) (e : TypeId) (m : Mem) (dead : List Pos) (F : Mem → List Pos → Option α) (K : α → Option R) : (useUpK a e m dead F).bind K = useUpK a e m dead fun a b => (F a b).bind K := by
  unfold useUpK
  split
  · rw [cond_b]; rfl
  · rw [cond_b]
    congr 1
    split
    · rfl
    · split
      · split
        · simp only [setK_eq, memPutK_eq]
        · rfl
      · rfl
  · rfl
theorem opK_b (cx : Cx) {T : TypeId → Option Ty} (dst : Nat) (oty : TypeId) (slots : List D) (op : Op) (m : Mem) (dead : List Pos) (K : D → Mem → List Pos → Option R) :
    (opK T dst oty slots op m dead fun d m dd => some (d, m, dd)).bind (fun p => K p.1 p.2.1 p.2.2) = opK T dst oty slots op m dead K := by
  cases hv : isVal cx op with
  | true =>
    rw [opK_val cx dst oty slots op hv m dead K, opK_val cx dst oty slots op hv m dead fun d m dd => some (d, m, dd)]
    cases valO T dst oty slots op m <;> rfl
  | false =>
    cases op <;> simp only [opK, evK_eq, Option.bind_none]
    case alloc t =>
      split
      · rw [newBoxK_b]; rfl
      · rfl
    case box t x =>
      split
      · rw [newBoxK_b]; rfl
      · rfl
    case store t x y =>
      unfold storeK
      split
      · split
        · split
          · rw [cond_b, cellsK_b]
            simp only [setRK_eq, memPutK_eq]
            rfl
          · rfl
        · rfl
      · rfl
    case call c =>
      obtain ⟨cal, ⟨args⟩, ⟨ats⟩⟩ := c
      simp only
      split
      · simp [isVal, clsOf] at hv
      · unfold appendK
        split
        · split
          · split
            · split
              · rfl
              · split
                · split
                  · rw [cond_b, useUpK_b]; simp only [check_b]; rfl
                  · rfl
                · split
                  · rw [cond_b, useUpK_b]; simp only [check_b]; rfl
                  · rfl
                · split
                  · rw [cond_b, useUpK_b]; simp only [check_b]; rfl
                  · rfl
                · rfl
            · rfl
          · rfl
        · rfl
      · simp [isVal, clsOf] at hv
      · simp [isVal, clsOf] at hv
      · rfl
    all_goals simp [isVal, clsOf] at hv
/-- An operation has one outcome. -/
theorem runK_fun (hB : PureB cx) {o : Oper} (hc : notC cx o.op = true) {slots : List D} {m : Mem} {dead : List Pos} {K : Bool → D → Mem → List Pos → Option R} {r : R} (h : runK cx o slots m dead K = some r) :
    ∃ d m' dd, K false d m' dd = some r ∧ ∀ (R' : Type) (K' : Bool → D → Mem → List Pos → Option R'), runK cx o slots m dead K' = K' false d m' dd := by
  cases hv : isVal cx o.op with
  | true =>
    rw [runK_val cx hB o slots hv] at h
    obtain ⟨d, h1, h⟩ := bind_some h
    refine ⟨d, m, dead, h, fun R' K' => ?_⟩
    rw [runK_val cx hB o slots hv, h1]; rfl
  | false =>
    have key : ∀ (op : Op), o.op = op → (∀ c, op = .call c → ∃ b, c.callee = .builtin b) → ∃ d m' dd, K false d m' dd = some r ∧ ∀ (R' : Type) (K' : Bool → D → Mem → List Pos → Option R'), runK cx o slots m dead K' = K' false d m' dd := by
      intro op hop hcal
      have hrun : ∀ (R' : Type) (K' : Bool → D → Mem → List Pos → Option R'), runK cx o slots m dead K' = opK cx.T (o.dst.getD 0) o.type slots op m dead (K' false) := by
        intro R' K'
        unfold runK
        rw [hop]
        cases op <;> simp only
        rename_i c
        obtain ⟨b, hb⟩ := hcal c rfl
        rw [hb]
      rw [hrun, ← opK_b cx] at h
      obtain ⟨p, h1, h2⟩ := bind_some h
      refine ⟨p.1, p.2.1, p.2.2, h2, fun R' K' => ?_⟩
      rw [hrun, ← opK_b cx, h1]; rfl
    refine key o.op rfl fun c hcc => ?_
    rw [hcc] at hc hv
    obtain ⟨cal, args, ats⟩ := c
    cases cal with
    | builtin b => exact ⟨b, rfl⟩
    | value f =>
      exfalso
      cases f <;> simp only [notC, clsOf, Bool.false_eq_true] at hc
      rename_i f
      cases hp : cx.isPure f with
      | true => simp [isVal, clsOf, hp] at hv
      | false => rw [hp] at hc; simp at hc
    | invoke f nm => simp [notC, clsOf] at hc
theorem step_fun (hB : PureB cx) {o : Oper} (hc : notC cx o.op = true) {slots : List D} {m : Mem} {dead : List Pos} {K : St → Option R} {r : R} (h : stepK cx ops o ⟨slots, m, dead⟩ K = some r) :
    ∃ d m' dd, K ⟨put slots o.dst d, m', dd⟩ = some r ∧ ∀ (R' : Type) (K' : St → Option R'), stepK cx ops o ⟨slots, m, dead⟩ K' = K' ⟨put slots o.dst d, m', dd⟩ := by
  rw [stepK_eq] at h
  cases hw : wants ops o slots with
  | none => rw [hw] at h; cases h
  | some b =>
    rw [hw] at h
    cases b
    · simp only [actK, skipK_eq] at h
      exact ⟨_, _, _, h, fun R' K' => by rw [stepK_eq, hw]; simp only [actK, skipK_eq]⟩
    · simp only [actK, takeK_eq o hc] at h
      obtain ⟨d, m', dd, h1, h2⟩ := runK_fun hB hc h
      exact ⟨d, m', dd, h1, fun R' K' => by rw [stepK_eq, hw]; simp only [actK, takeK_eq o hc]; exact h2 R' _⟩
end

section
variable {P : Program} {T : TypeId → Option Ty} {E : Env} {g : G} {w w' : World} {dead : List Pos}
/-- Several data over several values. -/
def RepDs (E : Env) (g : G) (w : World) (dead : List Pos) (ds : List D) (us : List Value) : Prop := us.length = ds.length ∧ ∀ (k : Nat) y, ds[k]? = some y → RepD E g w dead y (us.getD k undef)
def retV (us : List Value) : Value := match us with | [u] => u | us => .tuple us.toArray
theorem resD_rep {rs : List D} {us : List Value} (h : RepDs E g w dead rs us) : RepD E g w dead (resD rs) (retV us) := by
  obtain ⟨hl, hr⟩ := h
  match rs, us, hl with
  | [], [], _ => exact .tup [] _ rfl fun k y h => by simp at h
  | [d], [u], _ => exact hr 0 d rfl
  | d :: d' :: rs, u :: u' :: us, hl =>
    refine .tup _ _ (by simpa using hl) fun k y hk => ?_
    simpa using hr k y hk
/-- The function is one of the program's, with a body. -/
def Goes (P : Program) (f : FuncId) : Prop := ∀ (args : Array Value) (w : World), (callFunc f args).run P w = .ok (.enter f args) w
def Perm.still : Perm → Bool
  | .imm => true
  | .low _ => true
  | _ => false
/-- What a call leaves that has touched nothing of what was there. -/
structure PureTr (g : G) (w : World) (g' : G) (w' : World) : Prop where
  grows : Grows w w'
  old : ∀ b, b < w.heap.size → g'.Γ b = g.Γ b
  new : ∀ b, w.heap.size ≤ b → (g'.Γ b).still = true
  J : g'.J = g.J
  sz : g'.sz = g.sz
def PureRet (P : Program) (T : TypeId → Option Ty) (f : FuncId) (ds rs : List D) : Prop :=
  ∀ (E : Env) (g : G) (w : World) (us : List Value), SzOK T g w → RepDs E g w [] ds us →
    Calls P f us.toArray w fun e w' => ∃ us' g', e = .returned (retV us') ∧ (∀ E' : Env, RepDs E' g' w' [] rs us') ∧ PureTr g w g' w'
/-- Slots' owners are left alone. -/
def KeepsS (E : Env) (g : G) (w : World) (E' : Env) (g' : G) (w' : World) : Prop :=
  Later g w g' w' ∧ E'.d = E.d ∧ (∀ k s, E.dom k s → E'.dom k s) ∧ (∀ k s, k ≤ E.d → E.dom k s → g'.J (E.d - k) s = g.J (E.d - k) s) ∧ (∀ s e v, OwnAt g w (.slot E.d s) e v → OwnAt g' w' (.slot E.d s) e v)
/-- As a callee sees it. -/
def inner (E : Env) (m : Mem) : Env := { d := E.d + 1, dom := memDom ([] :: m) }
def MemRet (P : Program) (T : TypeId → Option Ty) (f : FuncId) (dst : Nat) (ds : List D) (m : Mem) (rs : List D) (m' : Mem) : Prop :=
  ∀ (E : Env) (g : G) (w : World) (us : List Value), Here T E g w m → RepDs (inner E m) g w [] ds us →
    Calls P f us.toArray w fun e w' => ∃ us' g' E', e = .returned (retV us') ∧ KeepsS E g w E' g' w' ∧ Here T E' g' w' m' ∧ RepDs E' g' w' [] rs us' ∧ Tr E.d g w g' w'
/-- A method's function. -/
def MethOK (P : Program) (t : TypeId) (name : String) (f : FuncId) : Prop := ∀ (v : Value) (w : World), (method (P.types.size + Made.depth) t v name).run P w = .ok (f, v) w
structure CxOK (P : Program) (cx : Cx) : Prop where
  T : TypesOK P cx.T
  pure : ∀ (R : Type) (g : FuncId) (ds : List D) (K : List D → Option R) (r : R), cx.isPure g = true → cx.pureK g ds K = some r → ∃ rs, K rs = some r ∧ Goes P g ∧ PureRet P cx.T g ds rs
  mem : ∀ (R : Type) (g : FuncId) (dst : Nat) (ds : List D) (m : Mem) (K : List D → Mem → Option R) (r : R), cx.isPure g = false → cx.memK g dst ds m K = some r → ∃ rs m', K rs m' = some r ∧ Goes P g ∧ MemRet P cx.T g dst ds m rs m'
  B : PureB cx
  meth : ∀ t name f, cx.meth t name = some f → MethOK P t name f
theorem PureTr.later {g' : G} (h : PureTr g w g' w') : Later g w g' w' :=
  ⟨h.sz, fun b o v h1 h2 => by
    have hx := cell_lt h2
    refine ⟨?_, by rw [cell_of_heap (h.grows.old b hx)]; exact h2⟩
    unfold Stable at h1 ⊢
    rw [h.old b hx]; exact h1, fun b x h1 h2 => by
    have hx := heap_lt h2
    exact ⟨by rw [h.old b hx]; exact h1, by rw [h.grows.old b hx]; exact h2⟩⟩
theorem PureTr.own {g' : G} (h : PureTr g w g' w') {q : APos} {e : TypeId} {v : Value} (ho : OwnAt g w q e v) : OwnAt g' w' q e v := by
  rcases ho with h0 | ⟨x, n, cap, cur, h1, h2, h3, h4⟩
  · exact .inl h0
  · have hx := heap_lt h3
    refine .inr ⟨x, n, cap, cur, h1, by rw [h.old x hx, h.sz]; exact h2, by rw [h.grows.old x hx]; exact h3, ?_⟩
    rw [h.sz]; exact h4
theorem PureTr.keeps {g' : G} (h : PureTr g w g' w') : Keeps E g w dead E g' w' dead :=
  ⟨h.later, rfl, fun _ _ h => h, fun _ _ _ _ => by rw [h.J], fun _ h => h, fun _ _ _ _ _ ho => h.own ho⟩
theorem PureTr.here {g' : G} (h : PureTr g w g' w') {m : Mem} (hh : Here T E g w m) : Here T E g' w' m := by
  refine ⟨fun k s b hb => ?_, hh.dom, hh.sk.later h.later, hh.len⟩
  have hr := hh.mem k s b hb
  obtain ⟨us, h1, h2, h3⟩ := hr.heap
  have hx := heap_lt h1
  refine ⟨hr.le, by rw [h.J, h.old _ hx]; exact hr.perm, us, by rw [h.J, h.grows.old _ hx]; exact h1, h2, fun i c hc => ?_⟩
  obtain ⟨a1, a2, a3, a4⟩ := h3 i c hc
  exact ⟨a1, a2, by rw [h.J]; exact a3, a4.keep h.keeps⟩
theorem PureTr.tr {g' : G} (h : PureTr g w g' w') (d : Nat) : Tr d g w g' w' :=
  ⟨h.grows.os, h.grows.tape, h.grows.output, h.grows.size, h.later, fun b hb _ => ⟨h.old b hb, h.grows.old b hb⟩, fun _ _ _ => by rw [h.J]⟩

/-! As a callee sees its arguments -/
theorem shifts_get (k : Nat) : ∀ (ds : List D) (i : Nat) y, (D.shifts k ds)[i]? = some y → ∃ z, ds[i]? = some z ∧ y = z.shift k
  | [], i, y, h => by simp [D.shifts] at h
  | d :: ds, 0, y, h => by simp [D.shifts] at h; exact ⟨d, by simp, h.symm⟩
  | d :: ds, i + 1, y, h => by
    simp [D.shifts] at h; obtain ⟨z, a, b⟩ := shifts_get k ds i y h; exact ⟨z, by simpa using a, b⟩
theorem shifts_length (k : Nat) : ∀ ds : List D, (D.shifts k ds).length = ds.length
  | [] => rfl
  | d :: ds => by simp [D.shifts, shifts_length k ds]
theorem inner_rep {m : Mem} {x : D} {v : Value} (h : RepD E g w dead x v) (hd : E.dom = memDom m) : RepD (inner E m) g w [] (argD x) v := by
  unfold argD
  induction h with
  | v x a v h ha => exact .v _ _ _ h trivial
  | ptr k s o h1 h2 =>
    have := RepD.ptr (E := inner E m) (g := g) (w := w) (dead := []) (k + 1) s o (by show k + 1 ≤ E.d + 1; omega) (by
      rw [hd] at h2
      obtain ⟨b, hb⟩ := h2
      exact ⟨b, hb⟩)
    have e : (inner E m).d - (k + 1) = E.d - k := by show E.d + 1 - (k + 1) = _; omega
    rw [e] at this
    exact this
  | nilp => exact .nilp
  | eptr cs o b off us h hr => exact .eptr cs o b off us h hr
  | clos f caps us hn hr ih =>
    refine .clos f _ us (by rw [shifts_length, bares_length]; exact hn) fun k y hy => ?_
    obtain ⟨z, hz, rfl⟩ := shifts_get _ _ k y hy
    obtain ⟨z', hz', rfl⟩ := bares_get _ k z hz
    exact ih k z' hz'
  | nilF => exact .nilF
  | bld => exact .bld
  | agg ds us hn hr ih =>
    refine .agg _ us (by rw [shifts_length, bares_length]; exact hn) fun k y hy => ?_
    obtain ⟨z, hz, rfl⟩ := shifts_get _ _ k y hy
    obtain ⟨z', hz', rfl⟩ := bares_get _ k z hz
    exact ih k z' hz'
  | tup ds us hn hr ih =>
    refine .tup _ us (by rw [shifts_length, bares_length]; exact hn) fun k y hy => ?_
    obtain ⟨z, hz, rfl⟩ := shifts_get _ _ k y hy
    obtain ⟨z', hz', rfl⟩ := bares_get _ k z hz
    exact ih k z' hz'
  | any v => exact .any v
theorem argsK_sound {R : Type} {m : Mem} {slots : List D} {a : Act} (hd : E.dom = memDom m) (hs : RepS E g w dead slots a) : ∀ (zs : List Operand) (ts : List TypeId) (K : List D → Option R) (r : R), argsK T slots ts zs K = some r →
    ∃ ds, RepDs (inner E m) g w [] ds (zs.map a.eval) ∧ K ds = some r
  | [], ts, K, r, h => ⟨[], ⟨rfl, fun k y h => by simp at h⟩, by cases ts <;> exact h⟩
  | z :: zs, [], K, r, h => by
    simp only [argsK, evK_eq, forceD_eq] at h
    obtain ⟨ds, ⟨h1, h2⟩, h3⟩ := argsK_sound hd hs zs [] _ r h
    refine ⟨argD (evalD T slots 0 z) :: ds, ⟨by simp [h1], fun k y hk => ?_⟩, h3⟩
    rcases k with _ | k
    · simp at hk; subst hk; simpa using inner_rep (hs.ev 0 z) hd
    · simpa using h2 k y (by simpa using hk)
  | z :: zs, t :: ts, K, r, h => by
    simp only [argsK, evK_eq, forceD_eq] at h
    obtain ⟨ds, ⟨h1, h2⟩, h3⟩ := argsK_sound hd hs zs ts _ r h
    refine ⟨argD (evalD T slots t z) :: ds, ⟨by simp [h1], fun k y hk => ?_⟩, h3⟩
    rcases k with _ | k
    · simp at hk; subst hk; simpa using inner_rep (hs.ev t z) hd
    · simpa using h2 k y (by simpa using hk)
theorem RepDs.append {ds ds' : List D} {us us' : List Value} (h : RepDs E g w dead ds us) (h' : RepDs E g w dead ds' us') : RepDs E g w dead (ds ++ ds') (us ++ us') := by
  refine ⟨by simp [h.1, h'.1], fun k y hk => ?_⟩
  rcases Nat.lt_or_ge k ds.length with hl | hl
  · rw [List.getElem?_append_left hl] at hk
    have := h.2 k y hk
    rw [List.getD_eq_getElem?_getD, List.getElem?_append_left (by rw [h.1]; exact hl), ← List.getD_eq_getElem?_getD]
    exact this
  · rw [List.getElem?_append_right hl] at hk
    have := h'.2 _ y hk
    rw [List.getD_eq_getElem?_getD, List.getElem?_append_right (by rw [h.1]; exact hl), h.1, ← List.getD_eq_getElem?_getD]
    exact this
/-- The frame's state over a world. -/
structure Sim (T : TypeId → Option Ty) (E : Env) (g : G) (w : World) (st : St) (a : Act) : Prop where
  here : Here T E g w st.mem
  slots : RepS E g w st.dead st.slots a
  size : a.tmps.size = st.slots.length
  defers : a.defers = []
theorem RepS.put_ {slots : List D} {a : Act} (hs : RepS E g w dead slots a) (hsz : a.tmps.size = slots.length) (dst : Option Nat) {d : D} {v : Value} (hd : RepD E g w dead d v) : RepS E g w dead (put slots dst d) (a.put dst v) := by
  cases dst with
  | none => exact hs
  | some s =>
    intro k x hk
    simp only [put, Act.put] at hk ⊢
    rw [List.getElem?_set] at hk
    split at hk
    · rename_i e
      subst e
      split at hk
      · rename_i hlt
        injection hk with hk; subst hk
        have : (a.tmps.setIfInBounds s v).getD s undef = v := by simp [Array.getD_eq_getD_getElem?, (by omega : s < a.tmps.size)]
        rw [this]
        cases d with
        | v x at_ =>
          cases at_ with
          | nil e =>
            cases hd with | v x a v h ha => exact .v _ _ _ h (.inr ⟨trivial, .inl ha⟩)
          | no => exact hd
          | own p e => exact hd
        | _ => exact hd
      · cases hk
    · rename_i e
      have := hs k x hk
      have e2 : (a.tmps.setIfInBounds s v).getD k undef = a.tmps.getD k undef := by
        simp only [Array.getD_eq_getD_getElem?]
        rw [Array.getElem?_setIfInBounds_ne e]
      rw [e2]; exact this
theorem put_length (slots : List D) (dst : Option Nat) (d : D) : (put slots dst d).length = slots.length := by cases dst <;> simp [put]
theorem actput_size (a : Act) (dst : Option Nat) (v : Value) : (a.put dst v).tmps.size = a.tmps.size := by cases dst <;> simp [Act.put]
theorem actput_defers (a : Act) (dst : Option Nat) (v : Value) : (a.put dst v).defers = a.defers := by cases dst <;> rfl
/-- What one operation does. -/
def StepOut (P : Program) (T : TypeId → Option Ty) (E : Env) (g : G) (w : World) (a : Act) (o : Oper) (st' : St) : Prop :=
  ∀ (Ok : Value → World → Prop), (∀ v w' g' E', Sim T E' g' w' st' (a.put o.dst v) → E'.d = E.d → Tr E.d g w g' w' → Ok v w') →
    (∃ v w', Ok v w') ∧ ∀ (next : Act → World → Prop) (Q : Exit → Act → World → Prop), (∀ v w', Ok v w' → next (a.put o.dst v) w') → o.wp P a w next Q
theorem stepOut_of_res {m' : Mem} {dead' : List Pos} {slots : List D} {m : Mem} {a : Act} {o : Oper} {d : D} (hs : Sim T E g w ⟨slots, m, dead⟩ a) (h : Res P T E g w m dead o a d m' dead') : StepOut P T E g w a o ⟨put slots o.dst d, m', dead'⟩ := by
  intro Ok hOk
  obtain ⟨v, w', g', E', h1, h2, h3, h4, h5⟩ := h
  have hok := hOk v w' g' E' ⟨h3, RepS.put_ (fun s x hx => (hs.slots s x hx).keep h2) hs.size o.dst h4, by rw [actput_size, hs.size, put_length], by rw [actput_defers]; exact hs.defers⟩ h2.d h5
  exact ⟨⟨v, w', hok⟩, fun next Q hn => wp_of_runs h1 (hn v w' hok)⟩
theorem exec_call {o : Oper} {a : Act} {c : Call} (hop : o.op = .call c) {f : Operand} (hf : c.callee = .value f) {g0 : FuncId} {caps : Array Value} (hv : a.eval f = .func (.func g0) #[] caps) (hg : Goes P g0) :
    (execOp a.eval o).run P w = .ok (.enter g0 (c.args.map a.eval ++ caps)) w := by
  simp only [execOp, hop, resolve, hf, hv, Deferred.ofValue, Sem.run_bind, Sem.run_pure, Result.andThen_ok, invoke]
  have := hg (#[] ++ c.args.map a.eval ++ caps) w
  simpa using this
theorem exec_invoke {o : Oper} {a : Act} {c : Call} (hop : o.op = .call c) {f : Operand} {nm : String} (hf : c.callee = .invoke f nm) {t : TypeId} {u : Value} (hv : a.eval f = .iface t u) {g0 : FuncId} (hm : MethOK P t nm g0) (hg : Goes P g0) :
    (execOp a.eval o).run P w = .ok (.enter g0 (#[u] ++ c.args.map a.eval)) w := by
  have h1 := hm u w
  have h2 := hg (#[u] ++ c.args.map a.eval) w
  have hx : (#[a.eval f] ++ c.args.map a.eval).extract 1 (#[a.eval f] ++ c.args.map a.eval).size = c.args.map a.eval := by
    apply Array.ext'
    simp
    exact List.take_of_length_le (by simp)
  simp only [execOp, hop, resolve, hf, Sem.run_bind, Sem.run_pure, Result.andThen_ok, invoke]
  have h0 : (#[a.eval f] ++ c.args.map a.eval)[0]? = some (.iface t u) := by rw [Array.getElem?_append_left (by simp), hv]; rfl
  have hp : (program : Sem Program).run P w = .ok P w := rfl
  simp only [h0, hx, callMethod, Sem.run_bind, hp, Result.andThen_ok, h1, h2]
end
end Go.Proofs.YtjpmogajlnkihaaDoor.En

/- The engine, part w: one operation is sound, whatever it is; regions in the order of the text. -/
namespace Go.Proofs.YtjpmogajlnkihaaDoor.En
open Go
set_option linter.unusedVariables false
section
variable {R : Type} {P : Program} {T : TypeId → Option Ty} {E : Env} {g : G} {w w' : World} {dead : List Pos}

def dropD (d : D) : D :=
  match d with
  | .v x a => (match a with
    | .own p e => (match p with | .slot g => .v x (.own (.slot g) e) | _ => .v x .no)
    | a => .v x a)
  | d => cond d.noOwn d .any
theorem dropK_eq : ∀ (slots : List D) (K : List D → Option R), dropK slots K = K (slots.map dropD)
  | [], K => rfl
  | d :: r, K => by
    unfold dropK
    cases d with
    | v x a =>
      cases a with
      | own p e => cases p <;> simp only [dropK_eq r, dropD, List.map_cons]
      | no => simp only [dropK_eq r, dropD, List.map_cons]
      | nil e => simp only [dropK_eq r, dropD, List.map_cons]
    | _ => simp only [dropK_eq r, dropD, List.map_cons]; (first | rfl | (split <;> rfl) | (cases D.noOwn _ <;> rfl))
theorem noOwn_keep {E' : Env} {g' : G} (hk : KeepsS E g w E' g' w') {x : D} {v : Value} (h : RepD E g w dead x v) : x.noOwn = true → RepD E' g' w' dead x v := by
  obtain ⟨hl, hd, hdom, hJ, _⟩ := hk
  induction h with
  | v x a v h ha =>
    intro hn
    cases a with
    | own p e => simp [D.noOwn] at hn
    | no => exact .v _ _ _ (h.later hl) trivial
    | nil e => exact .v _ _ _ (h.later hl) ha
  | ptr k s o h1 h2 =>
    intro _
    have := hJ k s h1 h2
    rw [← this, ← hd]
    exact .ptr k s o (by rw [hd]; exact h1) (hdom k s h2)
  | nilp => intro _; exact .nilp
  | eptr cs o b off us h hr => intro _; exact .eptr cs o b off us (fun k y hy => hl.st _ _ _ (h k y hy).1 (h k y hy).2) (fun k y hy => (hr k y hy).later hl)
  | clos f caps us hn' hr ih => intro hn; exact .clos f caps us hn' fun i y hy => ih i y hy (noOwns_get _ hn i y hy)
  | nilF => intro _; exact .nilF
  | bld => intro _; exact .bld
  | agg ds us hn' hr ih => intro hn; exact .agg ds us hn' fun i y hy => ih i y hy (noOwns_get _ hn i y hy)
  | tup ds us hn' hr ih => intro hn; exact .tup ds us hn' fun i y hy => ih i y hy (noOwns_get _ hn i y hy)
  | any v => intro _; exact .any v
theorem dropD_rep {E' : Env} {g' : G} (hk : KeepsS E g w E' g' w') {x : D} {v : Value} (h : RepD E g w dead x v) : RepD E' g' w' dead (dropD x) v := by
  cases x with
  | v y a =>
    cases a with
    | no => exact noOwn_keep hk h rfl
    | nil e => exact noOwn_keep hk h rfl
    | own p e =>
      cases h with
      | v y a v h ha =>
        cases p with
        | cell k s i => exact .v _ _ _ (h.later hk.1) trivial
        | slot s =>
          refine .v _ _ _ (h.later hk.1) ?_
          rcases ha with ha | ⟨_, ha⟩
          · exact .inl ha
          · refine .inr ⟨trivial, ?_⟩
            rw [hk.2.1]
            exact hk.2.2.2.2 s e v ha
  | _ =>
    simp only [dropD, Bool.cond_eq_ite]
    split
    · rename_i hn; exact noOwn_keep hk h hn
    · exact .any _
theorem enter_out {st' : St} {a : Act} {o : Oper} {f : FuncId} {args : Array Value} (hx : (execOp a.eval o).run P w = .ok (.enter f args) w) {post : Value → World → Prop}
    (hc : Calls P f args w fun e w' => ∃ v, e = .returned v ∧ post v w')
    (hp : ∀ v w', post v w' → ∃ g' E', Sim T E' g' w' st' (a.put o.dst v) ∧ E'.d = E.d ∧ Tr E.d g w g' w') : StepOut P T E g w a o st' := by
  intro Ok hOk
  refine ⟨?_, fun next Q hn => ?_⟩
  · obtain ⟨e, w', fr, ⟨v, _, hpv⟩, _⟩ := hc []
    obtain ⟨g', E', h1, h2, h3⟩ := hp v w' hpv
    exact ⟨v, w', hOk v w' g' E' h1 h2 h3⟩
  · unfold Oper.wp
    rw [hx]
    refine hc.mono fun e w' ⟨v, he, hpv⟩ => ?_
    subst he
    obtain ⟨g', E', h1, h2, h3⟩ := hp v w' hpv
    exact hn v w' (hOk v w' g' E' h1 h2 h3)
theorem call_sound {cx : Cx} (hcx : CxOK P cx) {slots : List D} {m : Mem} {a : Act} (hs : Sim cx.T E g w ⟨slots, m, dead⟩ a) {o : Oper} {f : FuncId} {ds : List D} {us : List Value}
    (hx : (execOp a.eval o).run P w = .ok (.enter f us.toArray) w ∨ Goes P f → (execOp a.eval o).run P w = .ok (.enter f us.toArray) w) (hr : RepDs (inner E m) g w [] ds us) {K : St → Option R} {r : R}
    (h : callK cx f (o.dst.getD 0) ds m dead (fun c d m' dead' => cond c (dropK slots fun slots => putK slots o.dst d fun slots => K ⟨slots, m', dead'⟩) (putK slots o.dst d fun slots => K ⟨slots, m', dead'⟩)) = some r) :
    ∃ st', K st' = some r ∧ StepOut P cx.T E g w a o st' := by
  unfold callK at h
  cases hp : cx.isPure f with
  | true =>
    rw [hp] at h
    simp only [cond_false, putK_put] at h
    obtain ⟨rs, h1, hg, hret⟩ := hcx.pure _ f ds _ r hp h
    refine ⟨_, h1, enter_out (post := fun v w' => ∃ us' g', v = retV us' ∧ (∀ E' : Env, RepDs E' g' w' [] rs us') ∧ PureTr g w g' w') (hx (.inr hg)) ((hret (inner E m) g w us hs.here.sk hr).mono fun e w' ⟨us', g', he, h2, h3⟩ => ⟨_, he, us', g', rfl, h2, h3⟩) ?_⟩
    rintro v w' ⟨us', g', rfl, h2, h3⟩
    refine ⟨g', E, ⟨h3.here hs.here, RepS.put_ (fun s x hx => (hs.slots s x hx).keep h3.keeps) hs.size o.dst (resD_rep (h2 E)).weaken, by rw [actput_size, hs.size, put_length], by rw [actput_defers]; exact hs.defers⟩, rfl, h3.tr _⟩
  | false =>
    rw [hp] at h
    simp only [cond_true, dropK_eq, putK_put] at h
    obtain ⟨rs, m', h1, hg, hret⟩ := hcx.mem _ f _ ds m _ r hp h
    refine ⟨_, h1, enter_out (post := fun v w' => ∃ us' g' E', v = retV us' ∧ KeepsS E g w E' g' w' ∧ Here cx.T E' g' w' m' ∧ RepDs E' g' w' [] rs us' ∧ Tr E.d g w g' w') (hx (.inr hg)) ((hret E g w us hs.here hr).mono fun e w' ⟨us', g', E', he, h2, h3, h4, h5⟩ => ⟨_, he, us', g', E', rfl, h2, h3, h4, h5⟩) ?_⟩
    rintro v w' ⟨us', g', E', rfl, h2, h3, h4, h5⟩
    refine ⟨g', E', ⟨h3, RepS.put_ (fun s x hx => ?_) (by rw [List.length_map]; exact hs.size) o.dst (resD_rep h4).weaken, by rw [actput_size, hs.size, put_length, List.length_map], by rw [actput_defers]; exact hs.defers⟩, h2.2.1, h5⟩
    rw [List.getElem?_map, Option.map_eq_some_iff] at hx
    obtain ⟨z, hz, rfl⟩ := hx
    exact dropD_rep h2 (hs.slots s z hz)
/-- One operation that is wanted. -/
theorem take_sound {cx : Cx} (hcx : CxOK P cx) {slots : List D} {m : Mem} {a : Act} (hs : Sim cx.T E g w ⟨slots, m, dead⟩ a) {o : Oper} {K : St → Option R} {r : R} (h : takeK cx o ⟨slots, m, dead⟩ K = some r) :
    ∃ st', K st' = some r ∧ StepOut P cx.T E g w a o st' := by
  simp only [takeK] at h
  have plain : ∀ (op : Op), o.op = op → opK cx.T (o.dst.getD 0) o.type slots op m dead (fun d m' dead' => putK slots o.dst d fun slots => K ⟨slots, m', dead'⟩) = some r → ∃ st', K st' = some r ∧ StepOut P cx.T E g w a o st' := by
    intro op hop h
    subst hop
    obtain ⟨d, m', dead', h1, h2⟩ := opK_sound hcx.T hs.here hs.slots o h
    rw [putK_put] at h2
    exact ⟨_, h2, stepOut_of_res hs h1⟩
  unfold runK at h
  cases hop : o.op <;> rw [hop] at h <;> simp only [cond_false] at h
  case call c =>
    cases hcal : c.callee with
    | builtin b => rw [hcal] at h; exact plain _ hop h
    | value f =>
      rw [hcal] at h
      simp only [evK_eq] at h
      have hf := hs.slots.ev (T := cx.T) 0 f
      generalize hd : evalD cx.T slots 0 f = df at h hf
      cases df <;> simp only [reduceCtorEq] at h
      rename_i g0 caps
      simp only [forceL_eq] at h
      obtain ⟨ds, h1, h2⟩ := argsK_sound hs.here.dom hs.slots _ _ _ _ h
      generalize hv : a.eval f = vf at hf
      cases hf with
      | clos _ _ us hn hr =>
        have hcaps : RepDs (inner E m) g w [] (caps.map argD) us.toList := by
          refine ⟨by simpa using hn, fun k y hk => ?_⟩
          rw [List.getElem?_map, Option.map_eq_some_iff] at hk
          obtain ⟨z, hz, rfl⟩ := hk
          have := inner_rep (hr k z hz) hs.here.dom
          simpa using this
        refine call_sound hcx hs (us := c.args.toList.map a.eval ++ us.toList) (fun hg => ?_) (h1.append hcaps) h2
        rcases hg with hg | hg
        · exact hg
        · rw [exec_call hop hcal hv hg]
          congr 2
          simp
    | invoke f nm =>
      rw [hcal] at h
      simp only [evK_eq] at h
      have hf := hs.slots.ev (T := cx.T) 0 f
      generalize hd : evalD cx.T slots 0 f = df at h hf
      cases df <;> simp only [reduceCtorEq] at h
      rename_i x at_
      cases x <;> simp only [reduceCtorEq] at h
      rename_i t y
      split at h
      case h_2 => cases h
      rename_i g0 hm
      obtain ⟨ds, h1, h2⟩ := argsK_sound hs.here.dom hs.slots _ _ _ _ h
      generalize hv : a.eval f = vf at hf
      cases hf with
      | v _ _ _ hvv _ =>
      cases hvv with
      | iface t y u hu =>
        have hrec : RepDs (inner E m) g w [] [recvD y] [u] := by
          refine ⟨rfl, fun k z hk => ?_⟩
          have : k = 0 := by have := (List.getElem?_eq_some_iff.1 hk).1; simp at this; omega
          subst this
          simp at hk; subst hk
          unfold recvD
          split
          · rename_i cs
            cases hu with
            | agg cs us hn hr =>
              refine .agg _ us (by simpa using hn) fun k z hk => ?_
              rw [List.getElem?_map, Option.map_eq_some_iff] at hk
              obtain ⟨z', hz', rfl⟩ := hk
              exact .v _ _ _ (hr k z' hz') trivial
          · exact .v _ _ _ hu trivial
        refine call_sound hcx hs (ds := recvD y :: ds) (us := u :: c.args.toList.map a.eval) (fun hg => ?_) (hrec.append h1) h2
        rcases hg with hg | hg
        · exact hg
        · rw [exec_invoke hop hcal hv (hcx.meth _ _ _ hm) hg]
          congr 2
          simp
  all_goals exact plain _ hop h
/-- One operation of a region. -/
theorem step_sound {cx : Cx} (hcx : CxOK P cx) {ops : Array Oper} {slots : List D} {m : Mem} {a : Act} (hs : Sim cx.T E g w ⟨slots, m, dead⟩ a) {o : Oper} {K : St → Option R} {r : R} (h : stepK cx ops o ⟨slots, m, dead⟩ K = some r) :
    (Region.wanted o (yielded ops a.tmps) = true ∧ ∃ st', K st' = some r ∧ StepOut P cx.T E g w a o st') ∨
    (Region.wanted o (yielded ops a.tmps) = false ∧ ∃ st', K st' = some r ∧ Sim cx.T E g w st' (a.put o.dst undef)) := by
  rw [stepK_eq] at h
  have hw : ∀ b, wants ops o slots = some b → Region.wanted o (yielded ops a.tmps) = b := by
    intro b hb
    unfold wants at hb
    unfold Region.wanted
    cases hg : o.guard with
    | none => rw [hg] at hb; simpa using hb
    | some p =>
      obtain ⟨j, want⟩ := p
      rw [hg] at hb
      simp only at hb ⊢
      cases hd : dstOf ops j with
      | none => rw [hd] at hb; cases hb
      | some s =>
        rw [hd] at hb
        simp only at hb
        split at hb
        · rename_i b' a' hsl
          injection hb with hb; subst hb
          have hx : slots[s]? = some (.v (.bool b') a') := by
            rw [List.getD_eq_getElem?_getD] at hsl
            cases hq : slots[s]? with
            | none => rw [hq] at hsl; cases hsl
            | some z => rw [hq] at hsl; simp at hsl; rw [hsl]
          have hv := (hs.slots s _ hx).bool_inv
          have hlt : s < a.tmps.size := by have := (List.getElem?_eq_some_iff.1 hx).1; have := hs.size; simp only at this; omega
          have hd' : (ops[j]?).bind (·.dst) = some s := by
            unfold dstOf at hd
            cases ho : ops[j]? with
            | none => rw [ho] at hd; cases hd
            | some oo => rw [ho] at hd; simpa using hd
          have hy : yielded ops a.tmps j = some b' := by
            unfold yielded
            rw [hd']
            have : a.tmps[s]? = some (.bool b') := by
              rw [Array.getD_eq_getD_getElem?, Array.getElem?_eq_getElem hlt] at hv
              rw [Array.getElem?_eq_getElem hlt]
              simpa using hv
            simp [this]
          rw [hy]
          cases b' <;> cases want <;> rfl
        · rename_i ds' hsl
          injection hb with hb; subst hb
          have hx : slots[s]? = some (.tup ds') := by
            rw [List.getD_eq_getElem?_getD] at hsl
            cases hq : slots[s]? with
            | none => rw [hq] at hsl; cases hsl
            | some z => rw [hq] at hsl; simp at hsl; rw [hsl]
          have hv := hs.slots s _ hx
          have hlt : s < a.tmps.size := by have := (List.getElem?_eq_some_iff.1 hx).1; have := hs.size; simp only at this; omega
          have hd' : (ops[j]?).bind (·.dst) = some s := by
            unfold dstOf at hd
            cases ho : ops[j]? with
            | none => rw [ho] at hd; cases hd
            | some oo => rw [ho] at hd; simpa using hd
          have hy : yielded ops a.tmps j = none := by
            unfold yielded
            rw [hd']
            rw [Array.getD_eq_getD_getElem?, Array.getElem?_eq_getElem hlt] at hv
            rw [Option.getD_some] at hv
            generalize hq : a.tmps[s] = q at hv
            have h3 : a.tmps[s]? = some q := by rw [Array.getElem?_eq_getElem hlt, hq]
            cases hv
            simp [h3]
          rw [hy]
          cases want <;> rfl
        · cases hb
  cases hwv : wants ops o slots with
  | none => rw [hwv] at h; cases h
  | some b =>
    rw [hwv] at h
    cases b with
    | true => exact .inl ⟨hw _ hwv, take_sound hcx hs h⟩
    | false =>
      simp only [actK, skipK_eq] at h
      exact .inr ⟨hw _ hwv, _, h, ⟨hs.here, RepS.put_ hs.slots hs.size o.dst (.tup [] #[] rfl fun k y h => by simp at h), by rw [actput_size, hs.size, put_length], by rw [actput_defers]; exact hs.defers⟩⟩
end
end Go.Proofs.YtjpmogajlnkihaaDoor.En

/- The engine, part x: owners known by their slots; what a loop's head keeps. -/
namespace Go.Proofs.YtjpmogajlnkihaaDoor.En
open Go
set_option linter.unusedVariables false
section
variable {R : Type} {P : Program} {T : TypeId → Option Ty} {E E' : Env} {g g' : G} {w w' : World} {dead : List Pos}

/-! Slots' owners under other names -/
def G.ren (g : G) (d : Nat) (ρ : Nat → Option Nat) : G :=
  { g with Γ := fun b => match g.Γ b with
    | .own (.slot d' s) n => if d' = d then (match ρ s with | some s' => .own (.slot d s') n | none => .low n) else .own (.slot d' s) n
    | p => p }
theorem ren_stable (g : G) (d : Nat) (ρ : Nat → Option Nat) (b o : Nat) : Stable (g.ren d ρ) b o ↔ Stable g b o := by
  unfold Stable G.ren
  simp only
  cases h : g.Γ b with
  | own p n =>
    cases p with
    | slot d' s =>
      simp only
      by_cases hd : d' = d
      · rw [if_pos hd]; cases ρ s <;> exact Iff.rfl
      · rw [if_neg hd]
    | cell d' s i => exact Iff.rfl
  | _ => exact Iff.rfl
theorem ren_later (g : G) (d : Nat) (ρ : Nat → Option Nat) (w : World) : Later g w (g.ren d ρ) w := ⟨rfl, fun b o v h1 h2 => ⟨(ren_stable g d ρ b o).2 h1, h2⟩, fun b x h1 h2 => ⟨by simp only [G.ren, h1], h2⟩⟩
theorem ren_tr (g : G) (d : Nat) (ρ : Nat → Option Nat) (w : World) (d' : Nat) : Tr d' g w (g.ren d ρ) w :=
  ⟨rfl, rfl, rfl, Nat.le_refl _, ren_later g d ρ w, fun b _ hi => ⟨by unfold G.ren; simp only; rcases hi with hi | ⟨n, hi⟩ <;> rw [hi], rfl⟩, fun _ _ _ => rfl⟩
theorem ren_slot {d : Nat} {ρ : Nat → Option Nat} {q s : Nat} {e : TypeId} {v : Value} (h : OwnAt g w (.slot d q) e v) (hρ : ρ q = some s) : OwnAt (g.ren d ρ) w (.slot d s) e v := by
  rcases h with h0 | ⟨b, n, cap, cur, h1, h2, h3, h4⟩
  · exact .inl h0
  · refine .inr ⟨b, n, cap, cur, h1, ?_, h3, h4⟩
    unfold G.ren
    simp only [h2, if_pos, hρ]
theorem ren_cell {d : Nat} {ρ : Nat → Option Nat} {d' s i : Nat} {e : TypeId} {v : Value} (h : OwnAt g w (.cell d' s i) e v) : OwnAt (g.ren d ρ) w (.cell d' s i) e v := by
  rcases h with h0 | ⟨b, n, cap, cur, h1, h2, h3, h4⟩
  · exact .inl h0
  · refine .inr ⟨b, n, cap, cur, h1, ?_, h3, h4⟩
    unfold G.ren
    simp only [h2]
theorem ren_box {d : Nat} {ρ : Nat → Option Nat} {b d' s : Nat} (h : g.Γ b = .box d' s) : (g.ren d ρ).Γ b = .box d' s := by unfold G.ren; simp only [h]

/-- Data without owners' marks, where pointers go on to lead somewhere. -/
theorem rep_move (ok : Nat → Nat → Bool) (hl : Later g w g' w') (hd : E'.d = E.d) (hdom : ∀ k s, E.dom k s → ok k s = true → E'.dom k s) (hJ : ∀ k s, k ≤ E.d → E.dom k s → ok k s = true → g'.J (E.d - k) s = g.J (E.d - k) s)
    (okD : D → Bool) (h1 : ∀ k s o, okD (.ptr k s o) = true → ok k s = true) (h2 : ∀ f caps, okD (.clos f caps) = true → ∀ (i : Nat) y, caps[i]? = some y → okD y = true) (h3 : ∀ ds, okD (.agg ds) = true → ∀ (i : Nat) y, ds[i]? = some y → okD y = true) (h4 : ∀ ds, okD (.tup ds) = true → ∀ (i : Nat) y, ds[i]? = some y → okD y = true)
    {x : D} {v : Value} (h : RepD E g w dead x v) : x.noOwn = true → okD x = true → RepD E' g' w' [] x v := by
  induction h with
  | v x a v h ha =>
    intro hn _
    cases a with
    | own p e => simp [D.noOwn] at hn
    | no => exact .v _ _ _ (h.later hl) trivial
    | nil e => exact .v _ _ _ (h.later hl) ha
  | ptr k s o a1 a2 =>
    intro _ ho
    have ho := h1 _ _ _ ho
    have := hJ k s a1 a2 ho
    rw [← this, ← hd]
    exact .ptr k s o (by rw [hd]; exact a1) (hdom k s a2 ho)
  | nilp => intro _ _; exact .nilp
  | eptr cs o b off us h hr => intro _ _; exact .eptr cs o b off us (fun k y hy => hl.st _ _ _ (h k y hy).1 (h k y hy).2) (fun k y hy => (hr k y hy).later hl)
  | clos f caps us hn' hr ih => intro hn ho; exact .clos f caps us hn' fun i y hy => ih i y hy (noOwns_get _ hn i y hy) (h2 _ _ ho i y hy)
  | nilF => intro _ _; exact .nilF
  | bld => intro _ _; exact .bld
  | agg ds us hn' hr ih => intro hn ho; exact .agg ds us hn' fun i y hy => ih i y hy (noOwns_get _ hn i y hy) (h3 _ ho i y hy)
  | tup ds us hn' hr ih => intro hn ho; exact .tup ds us hn' fun i y hy => ih i y hy (noOwns_get _ hn i y hy) (h4 _ ho i y hy)
  | any v => intro _ _; exact .any v
theorem hangsL_get (ks : List Nat) (k : Nat) : ∀ (ds : List D), hangsL ks k ds = false → ∀ (i : Nat) y, ds[i]? = some y → y.hangs ks k = false
  | [], _, i, y, h => by simp at h
  | d :: ds, h, 0, y, hy => by simp only [hangsL, Bool.or_eq_false_iff] at h; simp at hy; subst hy; exact h.1
  | d :: ds, h, i + 1, y, hy => by simp only [hangsL, Bool.or_eq_false_iff] at h; exact hangsL_get ks k ds h.2 i y (by simpa using hy)
/-- A cell's datum, its variable being kept. -/
theorem cell_move {k s i : Nat} {c : D} {u : Value} (hf : c.flat = true) (h : RepD E g w dead (loadCell k s i c) u) (hdead : Pos.cell k s i ∉ dead) (ok : Nat → Nat → Bool) (hl : Later g w g' w') (hd : E'.d = E.d) (hdom : ∀ k s, E.dom k s → ok k s = true → E'.dom k s)
    (hJ : ∀ k s, k ≤ E.d → E.dom k s → ok k s = true → g'.J (E.d - k) s = g.J (E.d - k) s) (hown : ∀ e v, OwnAt g w (.cell (E.d - k) s i) e v → OwnAt g' w' (.cell (E.d - k) s i) e v)
    (okD : D → Bool) (h1 : ∀ k s o, okD (.ptr k s o) = true → ok k s = true) (h2 : ∀ f caps, okD (.clos f caps) = true → ∀ (i : Nat) y, caps[i]? = some y → okD y = true) (h3 : ∀ ds, okD (.agg ds) = true → ∀ (i : Nat) y, ds[i]? = some y → okD y = true) (h4 : ∀ ds, okD (.tup ds) = true → ∀ (i : Nat) y, ds[i]? = some y → okD y = true)
    (hok : okD (c.shift k) = true) (h0 : ∀ x a, okD (.v x a) = true) : RepD E' g' w' [] (loadCell k s i c) u := by
  have gen : ∀ {x : D}, RepD E g w dead x u → x.noOwn = true → okD x = true → RepD E' g' w' [] x u := fun hx hn ho => rep_move ok hl hd hdom hJ okD h1 h2 h3 h4 hx hn ho
  cases c with
  | v x a =>
    cases a with
    | own p e =>
      cases h with
      | v x a v h ha =>
        refine .v _ _ _ (h.later hl) ?_
        rcases ha with ha | ⟨ha1, ha2⟩
        · exact absurd ha hdead
        · exact .inr ⟨by show k ≤ E'.d; rw [hd]; exact ha1, by show OwnAt g' w' (.cell (E'.d - k) s i) e u; rw [hd]; exact hown e u ha2⟩
    | no => exact gen h rfl (h0 _ _)
    | nil e => exact gen h rfl (h0 _ _)
  | bld => exact .any _
  | _ => exact gen h (noOwn_shift k _ hf) hok
/-- The boxes, whatever owners slots have. -/
theorem ren_mem {d : Nat} {ρ : Nat → Option Nat} {m : Mem} (hm : MemRep E g w m) : MemRep E (g.ren d ρ) w m := by
  intro k s b hb
  have hr := hm k s b hb
  obtain ⟨us, h1, h2, h3⟩ := hr.heap
  refine ⟨hr.le, ren_box hr.perm, us, h1, h2, fun i c hc => ?_⟩
  obtain ⟨a1, a2, a3, a4⟩ := h3 i c hc
  exact ⟨a1, a2, a3, cell_move a2 a4 (by simp) (fun _ _ => true) (ren_later g d ρ w) rfl (fun _ _ h _ => h) (fun _ _ _ _ _ => rfl) (fun e v h => ren_cell h) (fun _ => true) (fun _ _ _ _ => rfl) (fun _ _ _ _ _ _ => rfl) (fun _ _ _ _ _ => rfl) (fun _ _ _ _ _ => rfl) rfl (fun _ _ => rfl)⟩

/-! Handing on -/
/-- Data of slots, handed on one after the other. -/
def handL (ok : D → Bool) (dead : List Pos) : List Pos → List (Nat × D) → List D
  | _, [] => []
  | seen, (s, d) :: r =>
    match d with
    | .v x a => (match a with
      | .own p e => (match p with
        | .slot g => cond (hasP (.slot g) dead || hasP (.slot g) seen) (.v x .no :: handL ok dead seen r) (.v x (.own (.slot s) e) :: handL ok dead (.slot g :: seen) r)
        | _ => .v x .no :: handL ok dead seen r)
      | a => .v x a :: handL ok dead seen r)
    | d => cond (ok d) (d :: handL ok dead seen r) (.any :: handL ok dead seen r)
/-- The owners' names behind it. -/
def rhoL (dead : List Pos) : List Pos → List (Nat × D) → Nat → Option Nat
  | _, [], _ => none
  | seen, (s, d) :: r, q =>
    match d with
    | .v x a => (match a with
      | .own p e => (match p with
        | .slot g => cond (hasP (.slot g) dead || hasP (.slot g) seen) (rhoL dead seen r q) (if q = g then some s else rhoL dead (.slot g :: seen) r q)
        | _ => rhoL dead seen r q)
      | a => rhoL dead seen r q)
    | d => rhoL dead seen r q
def numbered : Nat → List D → List (Nat × D)
  | _, [] => []
  | s, d :: r => (s, d) :: numbered (s + 1) r
theorem canonK_eq (dead : List Pos) : ∀ (l : List D) (s : Nat) (seen : List Pos) (K : List D → Option R), canonK dead s seen l K = K (handL D.noOwn dead seen (numbered s l))
  | [], s, seen, K => rfl
  | d :: r, s, seen, K => by
    unfold canonK numbered handL
    cases d with
    | v x a =>
      cases a with
      | own p e =>
        cases p with
        | slot q => simp only [canonK_eq dead r]; cases (hasP (.slot q) dead || hasP (.slot q) seen) <;> rfl
        | cell a b c => simp only [canonK_eq dead r]
      | no => simp only [canonK_eq dead r]
      | nil e => simp only [canonK_eq dead r]
    | _ => simp only [canonK_eq dead r]; (first | rfl | (cases D.noOwn _ <;> rfl))
def picks (slots : List D) (ks : List Nat) : List (Nat × D) := ks.map fun s => (s, slots.getD s .any)
theorem pickL_eq (all : List Nat) (slots : List D) (dead : List Pos) : ∀ (ks : List Nat) (seen : List Pos) (K : List D → Option R), pickL all slots dead ks seen K = K (handL (fun d => d.noOwn && !d.hangs all 0) dead seen (picks slots ks))
  | [], seen, K => rfl
  | s :: r, seen, K => by
    unfold pickL picks
    rw [List.map_cons]
    unfold handL
    rw [getK_eq]
    generalize slots.getD s .any = d
    have ih := pickL_eq all slots dead r
    unfold picks at ih
    cases d with
    | v x a =>
      cases a with
      | own p e =>
        cases p with
        | slot q => simp only [ih]; cases (hasP (.slot q) dead || hasP (.slot q) seen) <;> rfl
        | cell a b c => simp only [ih]
      | no => simp only [ih]
      | nil e => simp only [ih]
    | _ => simp only [ih]; (first | rfl | (cases (D.noOwn _ && !D.hangs all 0 _) <;> rfl))
/-- How a datum is handed on to slot s, where the owners' names are ρ's. -/
inductive Hand (ok : D → Bool) (dead : List Pos) (ρ : Nat → Option Nat) (s : Nat) : D → D → Prop
  | keep (x : V) (a : Att) (h : ∀ p e, a ≠ .own p e) : Hand ok dead ρ s (.v x a) (.v x a)
  | drop (x : V) (a : Att) : Hand ok dead ρ s (.v x a) (.v x .no)
  | own (x : V) (q : Nat) (e : TypeId) (h : Pos.slot q ∉ dead) (hρ : ρ q = some s) : Hand ok dead ρ s (.v x (.own (.slot q) e)) (.v x (.own (.slot s) e))
  | same (d : D) (h : ok d = true) : Hand ok dead ρ s d d
  | lost (d : D) : Hand ok dead ρ s d .any
theorem handL_hand (ok : D → Bool) (dead : List Pos) : ∀ (l : List (Nat × D)) (seen : List Pos), (handL ok dead seen l).length = l.length ∧
    ∀ (k : Nat) s d d', l[k]? = some (s, d) → (handL ok dead seen l)[k]? = some d' → Hand ok dead (fun q => if hasP (.slot q) seen then none else rhoL dead seen l q) s d d'
  | [], seen => ⟨rfl, fun k s d d' h => by simp at h⟩
  | (s0, d0) :: r, seen => by
    -- the rest, where no new name was seen
    have plain : ∀ (d1 : D), handL ok dead seen ((s0, d0) :: r) = d1 :: handL ok dead seen r → (∀ q, rhoL dead seen ((s0, d0) :: r) q = rhoL dead seen r q) → Hand ok dead (fun q => if hasP (.slot q) seen then none else rhoL dead seen ((s0, d0) :: r) q) s0 d0 d1 →
        (handL ok dead seen ((s0, d0) :: r)).length = ((s0, d0) :: r).length ∧ ∀ (k : Nat) s d d', ((s0, d0) :: r)[k]? = some (s, d) → (handL ok dead seen ((s0, d0) :: r))[k]? = some d' → Hand ok dead (fun q => if hasP (.slot q) seen then none else rhoL dead seen ((s0, d0) :: r) q) s d d' := by
      intro d1 h1 h2 h3
      obtain ⟨i1, i2⟩ := handL_hand ok dead r seen
      rw [h1]
      refine ⟨by simp [i1], fun k s d d' hk hk' => ?_⟩
      rcases k with _ | k
      · simp at hk hk'
        obtain ⟨rfl, rfl⟩ := hk
        subst hk'
        exact h3
      · have := i2 k s d d' (by simpa using hk) (by simpa using hk')
        have e : (fun q => if hasP (.slot q) seen then none else rhoL dead seen ((s0, d0) :: r) q) = fun q => if hasP (.slot q) seen then none else rhoL dead seen r q := by
          funext q; rw [h2]
        rw [e]; exact this
    cases d0 with
    | v x a =>
      cases a with
      | no => exact plain (.v x .no) rfl (fun _ => rfl) (.keep x .no (by simp))
      | nil e => exact plain (.v x (.nil e)) rfl (fun _ => rfl) (.keep x (.nil e) (by simp))
      | own p e =>
        cases p with
        | cell a b c => exact plain (.v x .no) rfl (fun _ => rfl) (.drop x _)
        | slot g =>
          cases hs : (hasP (.slot g) dead || hasP (.slot g) seen) with
          | true => exact plain (.v x .no) (by simp only [handL, hs, cond_true]) (fun q => by simp only [rhoL, hs, cond_true]) (.drop x _)
          | false =>
            have hs' := hs
            simp only [Bool.or_eq_false_iff] at hs'
            obtain ⟨i1, i2⟩ := handL_hand ok dead r (.slot g :: seen)
            have h1 : handL ok dead seen ((s0, .v x (.own (.slot g) e)) :: r) = .v x (.own (.slot s0) e) :: handL ok dead (.slot g :: seen) r := by simp only [handL, hs, cond_false]
            have h2 : ∀ q, rhoL dead seen ((s0, .v x (.own (.slot g) e)) :: r) q = if q = g then some s0 else rhoL dead (.slot g :: seen) r q := fun q => by simp only [rhoL, hs, cond_false]
            rw [h1]
            refine ⟨by simp [i1], fun k s d d' hk hk' => ?_⟩
            rcases k with _ | k
            · simp at hk hk'
              obtain ⟨rfl, rfl⟩ := hk
              subst hk'
              refine .own x g e (fun hh => by rw [(hasP_iff _ _).2 hh] at hs'; cases hs'.1) ?_
              simp [hs'.2, h2]
            · have := i2 k s d d' (by simpa using hk) (by simpa using hk')
              have hle : ∀ q s, (if hasP (.slot q) (.slot g :: seen) then none else rhoL dead (.slot g :: seen) r q) = some s → (if hasP (.slot q) seen then none else rhoL dead seen ((s0, .v x (.own (.slot g) e)) :: r) q) = some s := by
                intro q s hq
                split at hq
                · cases hq
                · rename_i hn
                  have hn' : ¬ (Pos.slot q ∈ Pos.slot g :: seen) := fun hh => hn ((hasP_iff _ _).2 hh)
                  have hqg : q ≠ g := fun e0 => hn' (by rw [e0]; simp)
                  have hqs : ¬ hasP (.slot q) seen = true := fun hh => hn' (List.mem_cons_of_mem _ ((hasP_iff _ _).1 hh))
                  rw [if_neg hqs, h2, if_neg hqg]
                  exact hq
              cases this with
              | keep x a h => exact .keep x a h
              | drop x a => exact .drop x a
              | own x q e h hρ => exact .own x q e h (hle _ _ hρ)
              | same d h => exact .same d h
              | lost d => exact .lost d
    | _ =>
      refine (if hok : ok _ = true then plain _ (by simp only [handL, hok, cond_true]) (fun _ => rfl) (.same _ hok) else plain .any (by have hok' := Bool.eq_false_iff.2 hok; simp only [handL, hok', cond_false]) (fun _ => rfl) (.lost _))
theorem hand_rep {ok : D → Bool} (hok : ∀ d, ok d = true → d.noOwn = true) {ρ : Nat → Option Nat} {s : Nat} {d d' : D} {v : Value} (hh : Hand ok dead ρ s d d') (h : RepD E g w dead d v) : RepD E (g.ren E.d ρ) w [] d' v := by
  have hl := ren_later g E.d ρ w
  cases hh with
  | keep x a hn =>
    cases h with
    | v x a v h ha =>
      cases a with
      | own p e => exact absurd rfl (hn p e)
      | no => exact .v _ _ _ (h.later hl) trivial
      | nil e => exact .v _ _ _ (h.later hl) ha
  | drop x a => exact .v _ _ _ ((repV_of h).later hl) trivial
  | own x q e hq hρ =>
    cases h with
    | v x a v h ha =>
      refine .v _ _ _ (h.later hl) ?_
      rcases ha with ha | ⟨_, ha⟩
      · exact absurd ha hq
      · exact .inr ⟨trivial, ren_slot ha hρ⟩
  | same d hn => exact rep_move (fun _ _ => true) hl rfl (fun _ _ h _ => h) (fun _ _ _ _ _ => rfl) (fun _ => true) (fun _ _ _ _ => rfl) (fun _ _ _ _ _ _ => rfl) (fun _ _ _ _ _ => rfl) (fun _ _ _ _ _ => rfl) h (hok d hn) rfl
  | lost d => exact .any _
theorem numbered_get : ∀ (l : List D) (s k : Nat), (numbered s l)[k]? = (l[k]?).map fun d => (s + k, d)
  | [], s, k => by simp [numbered]
  | d :: r, s, 0 => by simp [numbered]
  | d :: r, s, k + 1 => by
    simp only [numbered, List.getElem?_cons_succ]
    rw [numbered_get r (s + 1) k]
    congr 1
    funext d
    rw [show s + 1 + k = s + (k + 1) by omega]
theorem numbered_length : ∀ (l : List D) (s : Nat), (numbered s l).length = l.length
  | [], _ => rfl
  | d :: r, s => by simp [numbered, numbered_length r]
/-- Behind a region. -/
theorem canon_sound {st : St} {a : Act} (hs : Sim T E g w st a) {K : St → Option R} {r : R} (h : canonSt st K = some r) : ∃ st' g', K st' = some r ∧ Sim T E g' w st' a ∧ Tr E.d g w g' w ∧ st'.slots.length = st.slots.length := by
  obtain ⟨slots, mem, dead⟩ := st
  unfold canonSt at h
  cases dead with
  | nil => exact ⟨_, g, h, hs, Tr.refl _ _ _, rfl⟩
  | cons p q =>
    simp only [canonK_eq] at h
    obtain ⟨h1, h2⟩ := handL_hand D.noOwn (p :: q) (numbered 0 slots) []
    refine ⟨_, _, h, ⟨⟨ren_mem hs.here.mem, hs.here.dom, hs.here.sk.later (ren_later _ _ _ _), hs.here.len⟩, fun k x hk => ?_, by rw [hs.size, h1, numbered_length], hs.defers⟩, ren_tr g E.d (fun q' => if hasP (.slot q') [] then none else rhoL (p :: q) [] (numbered 0 slots) q') w E.d, by show (handL D.noOwn (p :: q) [] (numbered 0 slots)).length = _; rw [h1, numbered_length]⟩
    have hkl := (List.getElem?_eq_some_iff.1 hk).1
    simp only at hkl
    rw [h1, numbered_length] at hkl
    have hn : (numbered 0 slots)[k]? = some (k, slots[k]) := by rw [numbered_get, List.getElem?_eq_getElem hkl]; simp
    exact hand_rep (fun _ h => h) (h2 k k slots[k] x hn hk) (hs.slots k _ (List.getElem?_eq_getElem hkl))

/-! What a loop's head keeps -/
def spreadL : Nat → Nat → List Nat → List D → List D
  | 0, _, _, _ => []
  | n + 1, s, k :: ks, d :: ds => cond (Nat.beq s k) (d :: spreadL n (s + 1) ks ds) (.any :: spreadL n (s + 1) (k :: ks) (d :: ds))
  | n + 1, s, ks, ds => .any :: spreadL n (s + 1) ks ds
theorem spreadK_eq : ∀ (n s : Nat) (ks : List Nat) (ds : List D) (K : List D → Option R), spreadK n s ks ds K = K (spreadL n s ks ds)
  | 0, _, _, _, _ => rfl
  | n + 1, s, [], ds, K => by simp only [spreadK, spreadL, spreadK_eq n]
  | n + 1, s, k :: ks, [], K => by simp only [spreadK, spreadL, spreadK_eq n]
  | n + 1, s, k :: ks, d :: ds, K => by simp only [spreadK, spreadL, spreadK_eq n]; cases Nat.beq s k <;> rfl
theorem spreadL_length : ∀ (n s : Nat) (ks : List Nat) (ds : List D), (spreadL n s ks ds).length = n
  | 0, _, _, _ => rfl
  | n + 1, s, [], ds => by simp [spreadL, spreadL_length n]
  | n + 1, s, k :: ks, [] => by simp [spreadL, spreadL_length n]
  | n + 1, s, k :: ks, d :: ds => by
    unfold spreadL
    cases Nat.beq s k <;> simp [spreadL_length n]
theorem spreadL_get : ∀ (n s : Nat) (ks : List Nat) (ds : List D) (j : Nat) (x : D), (spreadL n s ks ds)[j]? = some x → x = .any ∨ ∃ i : Nat, ks[i]? = some (s + j) ∧ ds[i]? = some x
  | 0, s, ks, ds, j, x, h => by simp [spreadL] at h
  | n + 1, s, [], ds, j, x, h => by
    rcases j with _ | j
    · simp [spreadL] at h; exact .inl h.symm
    · have := spreadL_get n (s + 1) [] ds j x (by simpa [spreadL] using h)
      rcases this with h | ⟨i, h1, h2⟩
      · exact .inl h
      · simp at h1
  | n + 1, s, k :: ks, [], j, x, h => by
    rcases j with _ | j
    · simp [spreadL] at h; exact .inl h.symm
    · have := spreadL_get n (s + 1) (k :: ks) [] j x (by simpa [spreadL] using h)
      rcases this with h | ⟨i, h1, h2⟩
      · exact .inl h
      · simp at h2
  | n + 1, s, k :: ks, d :: ds, j, x, h => by
    unfold spreadL at h
    cases hb : Nat.beq s k with
    | true =>
      obtain rfl := Nat.eq_of_beq_eq_true hb
      rw [hb, cond_true] at h
      rcases j with _ | j
      · simp at h; exact .inr ⟨0, by simp, by simp [h]⟩
      · rcases spreadL_get n (s + 1) ks ds j x (by simpa using h) with h | ⟨i, h1, h2⟩
        · exact .inl h
        · exact .inr ⟨i + 1, by rw [List.getElem?_cons_succ, h1]; congr 1; omega, by simpa using h2⟩
    | false =>
      rw [hb, cond_false] at h
      rcases j with _ | j
      · simp at h; exact .inl h.symm
      · rcases spreadL_get n (s + 1) (k :: ks) (d :: ds) j x (by simpa using h) with h | ⟨i, h1, h2⟩
        · exact .inl h
        · exact .inr ⟨i, by rw [h1]; congr 1; omega, h2⟩
theorem keepB_out (ks : List Nat) : ∀ (fr : Fr) (K : Fr → Option R) (r : R), keepB ks fr K = some r → ∃ fr', K fr' = some r ∧ ∀ s, frGet s fr' = (if hasN s ks = true then frGet s fr else none) ∧ ∀ b, frGet s fr' = some b → hangsL ks 0 b.cells = false
  | [], K, r, h => ⟨[], h, fun s => ⟨by simp [frGet], fun b hb => by simp [frGet] at hb⟩⟩
  | (s, b) :: fr, K, r, h => by
    unfold keepB at h
    rcases cond_some h with ⟨hc, h⟩ | ⟨hc, h⟩
    · simp only [Bool.and_eq_true, Bool.not_eq_true'] at hc
      obtain ⟨fr', h1, h2⟩ := keepB_out ks fr _ r h
      refine ⟨(s, b) :: fr', h1, fun t => ?_⟩
      rw [frGet_cons, frGet_cons]
      by_cases ht : t = s
      · subst ht
        simp only [if_true, hc.1]
        exact ⟨trivial, fun b' hb' => by injection hb' with hb'; subst hb'; exact hc.2⟩
      · simp only [ht, if_false]
        exact h2 t
    · rcases cond_some h with ⟨hc2, h⟩ | ⟨hc2, h⟩
      · cases h
      · obtain ⟨fr', h1, h2⟩ := keepB_out ks fr _ r h
        refine ⟨fr', h1, fun t => ?_⟩
        rw [frGet_cons]
        by_cases ht : t = s
        · subst ht
          have := h2 t
          simp only [hc2, Bool.false_eq_true, if_false] at this ⊢
          exact this
        · simp only [ht, if_false]
          exact h2 t
mutual
theorem hangs_shift (ks : List Nat) (k : Nat) : ∀ d : D, d.hangs ks 0 = false → (d.shift k).hangs ks 0 = false
  | .v _ _, _ => rfl
  | .ptr k' s o, h => by
    simp only [D.shift, D.hangs] at h ⊢
    rcases Nat.eq_zero_or_pos (k' + k) with h0 | h0
    · have : k' = 0 := by omega
      subst this
      rw [show 0 + k = 0 by omega]; exact h
    · rw [beq_ne (by omega)]; rfl
  | .nilp, _ => rfl
  | .eptr _ _, _ => rfl
  | .clos f caps, h => hangsL_shift ks k caps h
  | .nilF, _ => rfl
  | .bld, _ => rfl
  | .agg ds, h => hangsL_shift ks k ds h
  | .tup ds, h => hangsL_shift ks k ds h
  | .any, _ => rfl
theorem hangsL_shift (ks : List Nat) (k : Nat) : ∀ ds : List D, hangsL ks 0 ds = false → hangsL ks 0 (D.shifts k ds) = false
  | [], _ => rfl
  | d :: ds, h => by
    simp only [hangsL, Bool.or_eq_false_iff] at h
    simp only [D.shifts, hangsL, Bool.or_eq_false_iff]
    exact ⟨hangs_shift ks k d h.1, hangsL_shift ks k ds h.2⟩
end
mutual
theorem hangs_out (ks : List Nat) (k : Nat) : ∀ d : D, (d.shift (k + 1)).hangs ks 0 = false
  | .v _ _ => rfl
  | .ptr k' s o => by simp only [D.shift, D.hangs]; rw [beq_ne (by omega)]; rfl
  | .nilp => rfl
  | .eptr _ _ => rfl
  | .clos f caps => hangsL_out ks k caps
  | .nilF => rfl
  | .bld => rfl
  | .agg ds => hangsL_out ks k ds
  | .tup ds => hangsL_out ks k ds
  | .any => rfl
theorem hangsL_out (ks : List Nat) (k : Nat) : ∀ ds : List D, hangsL ks 0 (D.shifts (k + 1) ds) = false
  | [] => rfl
  | d :: ds => by
    simp only [D.shifts, hangsL, Bool.or_eq_false_iff]
    exact ⟨hangs_out ks k d, hangsL_out ks k ds⟩
end
def weakFr (ks : List Nat) : Fr → Fr
  | [] => []
  | (s, b) :: r => cond (hasN (s + 100000) ks) ((s, ⟨b.ty, b.cells.map weakD⟩) :: weakFr ks r) ((s, b) :: weakFr ks r)
theorem weakK_eq (ks : List Nat) : ∀ (fr : Fr) (K : Fr → Option R), weakK ks fr K = K (weakFr ks fr)
  | [], K => rfl
  | (s, b) :: r, K => by
    unfold weakK weakFr
    simp only [forceL_eq, weakK_eq ks r]
    cases hasN (s + 100000) ks <;> rfl
theorem weakFr_get (ks : List Nat) (t : Nat) : ∀ (fr : Fr), (frGet t (weakFr ks fr) = none ↔ frGet t fr = none) ∧ ∀ b', frGet t (weakFr ks fr) = some b' → ∃ b, frGet t fr = some b ∧ b'.ty = b.ty ∧ (b'.cells = b.cells ∨ b'.cells = b.cells.map weakD)
  | [] => ⟨Iff.rfl, fun b' h => by cases h⟩
  | (s, b) :: r => by
    obtain ⟨i1, i2⟩ := weakFr_get ks t r
    unfold weakFr
    cases hasN (s + 100000) ks with
    | true =>
      simp only [cond_true, frGet_cons]
      by_cases h : t = s
      · simp only [h, if_true]
        exact ⟨by simp, fun b' hb => by injection hb with hb; subst hb; exact ⟨b, rfl, rfl, .inr rfl⟩⟩
      · simp only [h, if_false]; exact ⟨i1, i2⟩
    | false =>
      simp only [cond_false, frGet_cons]
      by_cases h : t = s
      · simp only [h, if_true]
        exact ⟨by simp, fun b' hb => by injection hb with hb; subst hb; exact ⟨b, rfl, rfl, .inl rfl⟩⟩
      · simp only [h, if_false]; exact ⟨i1, i2⟩
theorem Sim.weak {slots : List D} {fr : Fr} {out : Mem} {a : Act} (ks : List Nat) (hs : Sim T E g w ⟨slots, fr :: out, dead⟩ a) : Sim T E g w ⟨slots, weakFr ks fr :: out, dead⟩ a := by
  refine ⟨⟨fun k s b' hb => ?_, ?_, hs.here.sk, hs.here.len⟩, hs.slots, hs.size, hs.defers⟩
  · rcases k with _ | k
    · obtain ⟨b, h1, h2, h3⟩ := (weakFr_get ks s fr).2 b' hb
      have hr := hs.here.mem 0 s b h1
      rcases h3 with h3 | h3
      · have : b' = b := by cases b; cases b'; simp_all
        rw [this]; exact hr
      · obtain ⟨us, b1, b2, b3⟩ := hr.heap
        refine ⟨hr.le, hr.perm, us, by rw [h2]; exact b1, by rw [b2, h3]; simp, fun i c' hc => ?_⟩
        rw [h3, List.getElem?_map, Option.map_eq_some_iff] at hc
        obtain ⟨c, hc, rfl⟩ := hc
        obtain ⟨a1, a2, a3, a4⟩ := b3 i c hc
        cases c with
        | v x at_ =>
          cases at_ with
          | own p e =>
            refine ⟨a1, rfl, fun e => (by cases e), ?_⟩
            exact .v _ _ _ (repV_of a4) trivial
          | no => exact ⟨a1, a2, a3, a4⟩
          | nil e => exact ⟨a1, a2, a3, a4⟩
        | _ => exact ⟨a1, a2, a3, a4⟩
    · exact hs.here.mem (k + 1) s b' hb
  · rw [hs.here.dom]
    funext k s
    rcases k with _ | k
    · have h1 := (weakFr_get ks s fr).1
      have e1 : memDom (fr :: out) 0 s = ∃ b, frGet s fr = some b := rfl
      have e2 : memDom (weakFr ks fr :: out) 0 s = ∃ b, frGet s (weakFr ks fr) = some b := rfl
      rw [e1, e2]
      cases ha : frGet s fr with
      | none => rw [h1.2 ha]
      | some x =>
        cases hb : frGet s (weakFr ks fr) with
        | none => rw [h1.1 hb] at ha; cases ha
        | some y => simp
    · rfl
theorem wdeadK_eq (slots : List D) : ∀ (ks : List Nat) (dead : List Pos) (K : List Pos → Option R), wdeadK slots ks dead K = K (wdead slots ks dead)
  | [], dead, K => rfl
  | k :: ks, dead, K => by
    unfold wdeadK wdead
    rw [getK_eq]
    cases Nat.ble 200000 k with
    | false => exact wdeadK_eq slots ks dead K
    | true =>
      simp only [cond_true]
      generalize slots.getD (k - 200000) .any = d
      cases d with
      | v x a => cases a <;> simp only [wdeadK_eq slots ks]
      | _ => exact wdeadK_eq slots ks dead K
theorem wdead_mem (slots : List D) {p : Pos} : ∀ (ks : List Nat) (dead : List Pos), p ∈ dead → p ∈ wdead slots ks dead
  | [], dead, h => h
  | k :: ks, dead, h => by
    have ih := wdead_mem slots ks dead h
    unfold wdead
    cases Nat.ble 200000 k with
    | false => exact ih
    | true =>
      simp only [cond_true]
      split
      · exact List.mem_cons_of_mem _ ih
      · exact ih
theorem keep_sound {slots : List D} {m : Mem} {a : Act} (hs : Sim T E g w ⟨slots, m, dead⟩ a) {ks : List Nat} {K : List D → Mem → Option R} {r : R} (h : keepK ks ⟨slots, m, dead⟩ K = some r) :
    ∃ ds m' g' E', K ds m' = some r ∧ Sim T E' g' w ⟨spreadL slots.length 0 ks ds, m', []⟩ a ∧ E'.d = E.d ∧ Tr E.d g w g' w := by
  unfold keepK at h
  cases m with
  | nil => cases h
  | cons fr out =>
    simp only [wdeadK_eq, pickL_eq] at h
    have hdd : ∀ p, p ∈ dead → p ∈ wdead slots ks dead := fun p hp => wdead_mem slots ks dead hp
    generalize wdead slots ks dead = dead' at h hdd
    obtain ⟨fr', h1, h2⟩ := keepB_out ks fr _ r h
    obtain ⟨h3, h4⟩ := handL_hand (fun d => d.noOwn && !d.hangs ks 0) dead' (picks slots ks) []
    generalize hρ : (fun q => if hasP (.slot q) [] then none else rhoL dead' [] (picks slots ks) q) = ρ at h4
    generalize hds : handL (fun d => d.noOwn && !d.hangs ks 0) dead' [] (picks slots ks) = ds at h1 h3 h4
    let E' : Env := { d := E.d, dom := memDom (fr' :: out) }
    let okp : Nat → Nat → Bool := fun k s => !Nat.beq k 0 || hasN s ks
    let okD : D → Bool := fun d => !d.hangs ks 0
    have hdom : ∀ k s, E.dom k s → okp k s = true → E'.dom k s := by
      intro k s hd ho
      obtain ⟨b, hb⟩ := hs.here.keeps_dom hd
      rcases k with _ | k
      · refine ⟨b, ?_⟩
        simp only [okp, Nat.beq_refl, Bool.not_true, Bool.false_or] at ho
        show frGet s fr' = some b
        rw [(h2 s).1, if_pos ho]; exact hb
      · exact ⟨b, hb⟩
    have o1 : ∀ k s o, okD (.ptr k s o) = true → okp k s = true := by
      intro k s o ho
      simp only [okD, okp, D.hangs, Bool.not_eq_true', Bool.and_eq_false_iff, Bool.not_eq_false'] at ho ⊢
      rcases ho with ho | ho
      · rw [ho]; rfl
      · rw [ho]; simp
    have o2 : ∀ f caps, okD (.clos f caps) = true → ∀ (i : Nat) y, caps[i]? = some y → okD y = true := by
      intro f caps ho i y hy
      simp only [okD, Bool.not_eq_true'] at ho ⊢
      exact hangsL_get ks 0 caps ho i y hy
    have o3 : ∀ ds, okD (.agg ds) = true → ∀ (i : Nat) y, ds[i]? = some y → okD y = true := by
      intro ds ho i y hy
      simp only [okD, Bool.not_eq_true'] at ho ⊢
      exact hangsL_get ks 0 ds ho i y hy
    have o4 : ∀ ds, okD (.tup ds) = true → ∀ (i : Nat) y, ds[i]? = some y → okD y = true := by
      intro ds ho i y hy
      simp only [okD, Bool.not_eq_true'] at ho ⊢
      exact hangsL_get ks 0 ds ho i y hy
    have hlat := ren_later g E.d ρ w
    rw [weakK_eq] at h1
    refine ⟨ds, weakFr ks fr' :: out, g.ren E.d ρ, E', h1, Sim.weak ks ⟨⟨fun k s b hb => ?_, rfl, hs.here.sk.later hlat, hs.here.len⟩, fun j x hj => ?_, by rw [hs.size, spreadL_length], hs.defers⟩, rfl, ren_tr g E.d ρ w E.d⟩
    · -- the variables
      have hb0 : Mem.box? (fr :: out) k s = some b := by
        rcases k with _ | k
        · have := (h2 s).1
          have hb' : frGet s fr' = some b := hb
          rw [hb'] at this
          split at this
          · exact this.symm
          · cases this
        · exact hb
      have hr := hs.here.mem k s b hb0
      obtain ⟨us, b1, b2, b3⟩ := hr.heap
      refine ⟨hr.le, ren_box hr.perm, us, b1, b2, fun i c hc => ?_⟩
      obtain ⟨a1, a2, a3, a4⟩ := b3 i c hc
      refine ⟨a1, a2, a3, cell_move a2 a4 (by simp) okp hlat rfl hdom (fun _ _ _ _ _ => rfl) (fun e v h => ren_cell h) okD o1 o2 o3 o4 ?_ (fun _ _ => rfl)⟩
      rcases k with _ | k
      · have := hangsL_get ks 0 _ ((h2 s).2 b hb) i c hc
        simp only [okD, Bool.not_eq_true']
        exact hangs_shift ks 0 c this
      · simp only [okD, Bool.not_eq_true']
        exact hangs_out ks k c
    · -- the slots
      simp only at hj
      rcases spreadL_get _ _ _ _ j x hj with rfl | ⟨i, k1, k2⟩
      · exact .any _
      · rw [Nat.zero_add] at k1
        have hp : (picks slots ks)[i]? = some (j, slots.getD j .any) := by simp [picks, k1]
        have hh := h4 i j _ x hp k2
        have hd : RepD E g w dead (slots.getD j .any) (a.tmps.getD j undef) := by
          rw [List.getD_eq_getElem?_getD]
          cases hq : slots[j]? with
          | none => exact .any _
          | some z => exact hs.slots j z hq
        generalize slots.getD j .any = d0 at hh hd
        generalize a.tmps.getD j undef = v0 at hd
        cases hh with
        | keep x a hn =>
          cases hd with
          | v x a v h ha =>
            cases a with
            | own p e => exact absurd rfl (hn p e)
            | no => exact .v _ _ _ (h.later hlat) trivial
            | nil e => exact .v _ _ _ (h.later hlat) ha
        | drop x a => exact .v _ _ _ ((repV_of hd).later hlat) trivial
        | own x q e hq hρ =>
          cases hd with
          | v x a v h ha =>
            refine .v _ _ _ (h.later hlat) ?_
            rcases ha with ha | ⟨_, ha⟩
            · exact absurd (hdd _ ha) hq
            · exact .inr ⟨trivial, ren_slot ha hρ⟩
        | same d hn =>
          simp only [Bool.and_eq_true] at hn
          exact rep_move (E := E) (E' := E') okp hlat rfl hdom (fun _ _ _ _ _ => rfl) okD o1 o2 o3 o4 hd hn.1 hn.2
        | lost d => exact .any _
end
end Go.Proofs.YtjpmogajlnkihaaDoor.En

/- The engine, part y: code. -/
namespace Go.Proofs.YtjpmogajlnkihaaDoor.En
open Go
set_option linter.unusedVariables false
section
variable {R : Type} {P : Program} {T : TypeId → Option Ty} {E : Env} {g : G} {w : World}

def exOf : Ex → Exit
  | .normal => .normal
  | .exit id => .exit id
  | .goto l => .goto l
  | .ret => .ret
/-- What may come behind a piece of a run that began at g, w with n temporaries. -/
def Then (T : TypeId → Option Ty) (E : Env) (g : G) (w : World) (n : Nat) (st' : St) (a' : Act) (w' : World) : Prop :=
  ∃ E' g', Sim T E' g' w' st' a' ∧ E'.d = E.d ∧ Tr E.d g w g' w' ∧ a'.tmps.size = n
/-- What the check says. -/
structure RootOK (cx : Cx) (ops : Array Oper) (op : Op) (slots : List D) : Prop where
  root : cx.dyn = true → ∀ z, (∃ t, op = .load t z) ∨ (∃ t v, op = .store t z v) → ∃ j, z = .tmp j ∧ ∀ k q o, slots.getD j .any = .ptr k q o → k = 0 ∧ q = rootN ops 20 j
  app : cx.dyn = true → isApp op = true → ∃ j y, argsOf op = [.tmp j, y] ∧ ∀ x k s i e, slots.getD j .any ≠ .v x (.own (.cell k s i) e)
theorem appZ_some {slots : List D} {args : List Operand} {K : Option R} {r : R} (h : appZ slots args K = some r) : (∃ j y, args = [.tmp j, y] ∧ ∀ x k s i e, slots.getD j .any ≠ .v x (.own (.cell k s i) e)) ∧ K = some r := by
  unfold appZ at h
  split at h
  · rename_i x y
    split at h
    · rename_i j
      rw [getK_eq] at h
      split at h
      · rename_i x a hd
        split at h
        · rename_i p e
          split at h
          · cases h
          · rename_i hp
            refine ⟨⟨j, y, rfl, fun x' k s i e' he => ?_⟩, h⟩
            rw [hd] at he
            injection he with _ he
            injection he with he _
            exact hp k s i he
        · rename_i ha
          refine ⟨⟨j, y, rfl, fun x' k s i e' he => ?_⟩, h⟩
          rw [hd] at he
          injection he with _ he
          exact ha _ _ he
      · rename_i hd
        exact ⟨⟨j, y, rfl, fun x' k s i e' he => hd _ _ he⟩, h⟩
    · cases h
  · cases h
theorem appZ_of {slots : List D} {args : List Operand} {K : Option R} (h : ∃ j y, args = [.tmp j, y] ∧ ∀ x k s i e, slots.getD j .any ≠ .v x (.own (.cell k s i) e)) : appZ slots args K = K := by
  obtain ⟨j, y, rfl, h⟩ := h
  unfold appZ
  simp only [getK_eq]
  split
  · rename_i x a hd
    split
    · rename_i p e
      split
      · rename_i k s i
        exact absurd hd (h x k s i e)
      · rfl
    · rfl
  · rfl
theorem app_load {op : Op} {z : Operand} {t : TypeId} (h : op = .load t z) : isApp op = false := by subst h; rfl
theorem app_store {op : Op} {z v : Operand} {t : TypeId} (h : op = .store t z v) : isApp op = false := by subst h; rfl
theorem rootZ_some {ops : Array Oper} {slots : List D} {z : Operand} {K : Option R} {r : R} (h : rootZ ops slots z K = some r) : (∃ j, z = .tmp j ∧ ∀ k q o, slots.getD j .any = .ptr k q o → k = 0 ∧ q = rootN ops 20 j) ∧ K = some r := by
  unfold rootZ at h
  split at h
  · rename_i j
    rw [getK_eq] at h
    split at h
    · rename_i k q o hd
      cases hb : Nat.beq k 0 && Nat.beq q (rootN ops 20 j) with
      | false => rw [hb] at h; cases h
      | true =>
        rw [hb, cond_true] at h
        rw [Bool.and_eq_true] at hb
        refine ⟨⟨j, rfl, fun k' q' o' he => ?_⟩, h⟩
        rw [hd] at he
        injection he with e1 e2
        subst e1; subst e2
        exact ⟨Nat.eq_of_beq_eq_true hb.1, Nat.eq_of_beq_eq_true hb.2⟩
    · rename_i hd
      exact ⟨⟨j, rfl, fun k q o he => absurd he (hd k q o)⟩, h⟩
  · cases h
theorem rootK_some {cx : Cx} {ops : Array Oper} {op : Op} {slots : List D} {K : Option R} {r : R} (h : rootK cx ops op slots K = some r) : RootOK cx ops op slots ∧ K = some r := by
  unfold rootK at h
  split at h
  · rename_i hd
    exact ⟨⟨fun e => (by rw [hd] at e; cases e), fun e => (by rw [hd] at e; cases e)⟩, h⟩
  · cases ha : isApp op with
    | true =>
      rw [ha, cond_true] at h
      obtain ⟨h1, h2⟩ := appZ_some h
      refine ⟨⟨fun _ z hz => ?_, fun _ _ => h1⟩, h2⟩
      rcases hz with ⟨t, e⟩ | ⟨t, v, e⟩
      · rw [app_load e] at ha; cases ha
      · rw [app_store e] at ha; cases ha
    | false =>
    rw [ha, cond_false] at h
    split at h
    · obtain ⟨h1, h2⟩ := rootZ_some h
      refine ⟨⟨fun _ z hz => ?_, fun _ e => (by cases e)⟩, h2⟩
      rcases hz with ⟨t, e⟩ | ⟨t, v, e⟩
      · injection e with _ e; subst e; exact h1
      · cases e
    · obtain ⟨h1, h2⟩ := rootZ_some h
      refine ⟨⟨fun _ z hz => ?_, fun _ e => (by cases e)⟩, h2⟩
      rcases hz with ⟨t, e⟩ | ⟨t, v, e⟩
      · cases e
      · injection e with _ e; subst e; exact h1
    · rename_i h1 h2
      refine ⟨⟨fun _ z hz => ?_, fun _ e => (by rw [ha] at e; cases e)⟩, h⟩
      rcases hz with ⟨t, e⟩ | ⟨t, v, e⟩
      · exact absurd e (h1 t z)
      · exact absurd e (h2 t z v)
theorem rootZ_of {ops : Array Oper} {slots : List D} {j : Nat} (h : ∀ k q o, slots.getD j .any = .ptr k q o → k = 0 ∧ q = rootN ops 20 j) (K : Option R) : rootZ ops slots (.tmp j) K = K := by
  unfold rootZ
  simp only [getK_eq]
  split
  · rename_i k q o hd
    obtain ⟨rfl, rfl⟩ := h k q o hd
    simp
  · rfl
theorem rootK_of {cx : Cx} {ops : Array Oper} {op : Op} {slots : List D} (h : RootOK cx ops op slots) (K : Option R) : rootK cx ops op slots K = K := by
  unfold rootK
  split
  · rfl
  · rename_i hd
    cases ha : isApp op with
    | true => rw [cond_true]; exact appZ_of (h.app hd ha)
    | false =>
    rw [cond_false]
    split
    · rename_i t z
      obtain ⟨j, rfl, hj⟩ := h.root hd z (.inl ⟨t, rfl⟩)
      exact rootZ_of hj K
    · rename_i t z v
      obtain ⟨j, rfl, hj⟩ := h.root hd z (.inr ⟨t, v, rfl⟩)
      exact rootZ_of hj K
    · rfl
theorem ops_sound {cx : Cx} (hcx : CxOK P cx) {ops : Array Oper} {Q : Exit → Act → World → Prop} {n : Nat} : ∀ (l : List Oper) (st : St) (a : Act) (w : World) (E : Env) (g : G) (K : St → Option R) (r : R), Sim cx.T E g w st a → a.tmps.size = n → opsK cx ops l st K = some r →
    (∀ st' a' w', K st' = some r → Then cx.T E g w n st' a' w' → Q .normal a' w') → wpList P ops Q l a w
  | [], st, a, w, E, g, K, r, hs, hn, h, hq => hq st a w h ⟨E, g, hs, rfl, Tr.refl _ _ _, hn⟩
  | o :: l, st, a, w, E, g, K, r, hs, hn, h, hq => by
    obtain ⟨slots, m, dead⟩ := st
    unfold wpList
    obtain ⟨_, h⟩ := rootK_some h
    rcases step_sound hcx hs h with ⟨hw, st', h1, h2⟩ | ⟨hw, st', h1, h2⟩
    · rw [if_pos hw]
      refine .inl ((h2 (fun v w' => ∃ E' g', Sim cx.T E' g' w' st' (a.put o.dst v) ∧ E'.d = E.d ∧ Tr E.d g w g' w') (fun v w' g' E' b1 b2 b3 => ⟨E', g', b1, b2, b3⟩)).2 _ Q ?_)
      rintro v w' ⟨E', g', b1, b2, b3⟩
      refine ops_sound hcx l st' _ w' E' g' K r b1 (by rw [actput_size]; exact hn) h1 fun st2 a2 w2 c1 ⟨E2, g2, c2, c3, c4, c5⟩ => hq st2 a2 w2 c1 ⟨E2, g2, c2, c3.trans b2, b3.trans (by rw [← b2]; exact c4), c5⟩
    · rw [hw]
      simp only [Bool.false_eq_true, if_false]
      exact ops_sound hcx l st' _ w E g K r h2 (by rw [actput_size]; exact hn) h1 hq

/-! Labels -/
theorem label_none : ∀ (c : Code) (l : Nat), hasLabel l c = false → findLabel c l = none
  | .seq a b, l, h => by
    simp only [hasLabel, Bool.or_eq_false_iff] at h
    unfold findLabel
    rw [label_none a l h.1]
    exact label_none b l h.2
  | .label l', l, h => by
    have hne : l' ≠ l := fun e => by subst e; simp [hasLabel] at h
    simp [findLabel, hne]
  | .skip, l, h => rfl
  | .region _ _ _, l, h => rfl
  | .cond _ _ _, l, h => rfl
  | .block _ _, l, h => rfl
  | .loop _, l, h => rfl
  | .rangeFunc _ _ _ _, l, h => rfl
  | .exit _, l, h => rfl
  | .scope _, l, h => rfl
  | .goto _, l, h => rfl
  | .ret, l, h => rfl
  | .refuse _, l, h => rfl
/-- A scope with jumps to any of its labels; each jump has less left than the one before. -/
theorem wp_scope_all {c : Code} {Q : Exit → Act → World → Prop} {a : Act} {w : World} (J : Nat → Nat → Act → World → Prop)
    (first : c.wp P (fun e a w => match e with | .goto l => (∃ n, J n l a w) ∨ (findLabel c l = none ∧ Q (.goto l) a w) | e => Q e a w) a w)
    (pass : ∀ n l a w, J n l a w → ∃ rest, findLabel c l = some rest ∧ rest.wp P (fun e a w => match e with | .goto l => (∃ n', n' < n ∧ J n' l a w) ∨ (findLabel c l = none ∧ Q (.goto l) a w) | e => Q e a w) a w) : (Code.scope c).wp P Q a w := by
  intro b k cs
  have key : ∀ n l a w, J n l a w → ∃ rest, findLabel c l = some rest ∧ ∃ e a' w', Q e a' w' ∧ Arrives P (lone (b.at a (.code rest :: .inScope c :: k)) cs w) b k cs e a' w' := by
    intro n
    induction n using Nat.strongRecOn with
    | _ n ih =>
      intro l a w hJ
      obtain ⟨rest, hf, hw⟩ := pass n l a w hJ
      refine ⟨rest, hf, ?_⟩
      obtain ⟨e, a₁, w₁, hq, harr⟩ := hw b (.inScope c :: k) cs
      cases e with
      | normal => exact ⟨.normal, a₁, w₁, hq, Steps.trans harr (.one step_inScope)⟩
      | exit id => exact ⟨.exit id, a₁, w₁, hq, fun k' hk => harr k' (by simp [exitTo, hk])⟩
      | goto l' =>
        rcases hq with ⟨n', hlt, hJ'⟩ | ⟨hn, hq⟩
        · obtain ⟨rest', hf', e₂, a₂, w₂, hq₂, harr₂⟩ := ih n' hlt l' a₁ w₁ hJ'
          exact ⟨e₂, a₂, w₂, hq₂, .of_steps (harr _ (by simp [gotoIn, hf'])) harr₂⟩
        · exact ⟨.goto l', a₁, w₁, hq, fun k' hk => harr k' (by simp [gotoIn, hn, hk])⟩
      | ret => exact ⟨_, a₁, w₁, hq, harr⟩
      | panic ch => exact ⟨_, a₁, w₁, hq, harr⟩
      | outgrown => exact ⟨_, a₁, w₁, hq, harr⟩
  obtain ⟨e, a₁, w₁, hq, harr⟩ := first b (.inScope c :: k) cs
  cases e with
  | normal => exact ⟨.normal, a₁, w₁, hq, .head step_scope (Steps.trans harr (.one step_inScope))⟩
  | exit id => exact ⟨.exit id, a₁, w₁, hq, fun k' hk => .head step_scope (harr k' (by simp [exitTo, hk]))⟩
  | goto l' =>
    rcases hq with ⟨n', hJ'⟩ | ⟨hn, hq⟩
    · obtain ⟨rest', hf', e₂, a₂, w₂, hq₂, harr₂⟩ := key n' l' a₁ w₁ hJ'
      exact ⟨e₂, a₂, w₂, hq₂, .of_steps (.head step_scope (harr _ (by simp [gotoIn, hf']))) harr₂⟩
    · exact ⟨.goto l', a₁, w₁, hq, fun k' hk => .head step_scope (harr k' (by simp [gotoIn, hn, hk]))⟩
  | ret => exact ⟨_, a₁, w₁, hq, .of_steps (.one step_scope) harr⟩
  | panic ch => exact ⟨_, a₁, w₁, hq, .of_steps (.one step_scope) harr⟩
  | outgrown => exact ⟨_, a₁, w₁, hq, .of_steps (b := b) (k := k) (cs := cs) (e := .outgrown) (.one step_scope) harr⟩

/-! Loops -/
def LoopOK (cx : Cx) (n : Nat) (b : Code) : Prop :=
  ∀ (R : Type) (ds : List D) (m : Mem) (K : Ex → List D → Mem → Option R) (r : R), cx.loopT (ridOf b) ds m K = some r → ∃ t, loopK (fun st K => codeK cx b st K) n (cx.keep (ridOf b)) (cx.keepX (ridOf b)) t ds m K = some r
def LoopsOK (cx : Cx) (n : Nat) (c : Code) : Prop := ∀ b ∈ loopsOf c, LoopOK cx n b
/-- A region that draws its order is sound if it is so in the order of the text. -/
def RegionOK (P : Program) (cx : Cx) (ops : Array Oper) : Prop :=
  ∀ (R : Type) (n : Nat) (id : Nat) (st : St) (a : Act) (w : World) (E : Env) (g : G) (K : St → Option R) (r : R) (Q : Exit → Act → World → Prop), Sim cx.T E g w st a → a.tmps.size = n → opsK cx ops ops.toList st K = some r →
    (∀ st' a' w', K st' = some r → Then cx.T E g w n st' a' w' → Q .normal a' w') → (Code.region id ops true).wp P Q a w
def RegionsOK (P : Program) (cx : Cx) (c : Code) : Prop := ∀ ops ∈ drawnOf c, RegionOK P cx ops
theorem least {p : Nat → Prop} (h : ∃ n, p n) : ∃ n, p n ∧ ∀ k, p k → n ≤ k := by
  obtain ⟨n, hn⟩ := h
  induction n using Nat.strongRecOn with
  | _ n ih =>
    by_cases hx : ∃ k, k < n ∧ p k
    · obtain ⟨k, hk, hp⟩ := hx; exact ih k hk hp
    · refine ⟨n, hn, fun k hk => ?_⟩
      rcases Nat.lt_or_ge k n with h | h
      · exact absurd ⟨k, h, hk⟩ hx
      · exact h
/-- A loop, each round having less left than the one before. -/
theorem wp_loop_n {c : Code} {Q : Exit → Act → World → Prop} {a : Act} {w : World} (I : Nat → Act → World → Prop) (h0 : ∃ n, I n a w)
    (round : ∀ n a w, I n a w → c.wp P (Exit.then (fun a' w' => ∃ n', n' < n ∧ I n' a' w') Q) a w) : (Code.loop c).wp P Q a w := by
  have hl : ∀ a w, ∃ m, (∃ n, I n a w) → I m a w ∧ ∀ k, I k a w → m ≤ k := by
    intro a w
    by_cases h : ∃ n, I n a w
    · obtain ⟨m, h1, h2⟩ := least h
      exact ⟨m, fun _ => ⟨h1, h2⟩⟩
    · exact ⟨0, fun hh => absurd hh h⟩
  let μ : Act → World → Nat := fun a w => Classical.choose (hl a w)
  have hμ : ∀ a w, (∃ n, I n a w) → I (μ a w) a w ∧ ∀ k, I k a w → μ a w ≤ k := fun a w => Classical.choose_spec (hl a w)
  refine wp_loop (fun a w => ∃ n, I n a w) μ h0 fun a w hI => ?_
  obtain ⟨h1, h2⟩ := hμ a w hI
  refine Code.wp_mono (fun e a' w' q => ?_) (round _ a w h1)
  cases e with
  | normal =>
    obtain ⟨n', hlt, hn'⟩ := q
    exact ⟨⟨n', hn'⟩, Nat.lt_of_le_of_lt ((hμ a' w' ⟨n', hn'⟩).2 n' hn') hlt⟩
  | exit id => exact q
  | goto l => exact q
  | ret => exact q
  | panic ch => exact q
  | outgrown => exact q
theorem Then.trans {E' : Env} {g' : G} {w' w'' : World} {n : Nat} {st : St} {a : Act} (h : Then T E' g' w' n st a w'') (hd : E'.d = E.d) (ht : Tr E.d g w g' w') : Then T E g w n st a w'' := by
  obtain ⟨E2, g2, a1, a2, a3, a4⟩ := h
  exact ⟨E2, g2, a1, a2.trans hd, ht.trans (by rw [← hd]; exact a3), a4⟩
/-- What is shown of each piece of code. -/
def CodeOK (P : Program) (cx : Cx) (c : Code) : Prop :=
  ∀ (R : Type) (n : Nat) (st : St) (a : Act) (w : World) (E : Env) (g : G) (K : Ex → St → Option R) (r : R) (Q : Exit → Act → World → Prop), LoopsOK cx n c → Sim cx.T E g w st a → a.tmps.size = n → codeK cx c st K = some r →
    (∀ e st' a' w', K e st' = some r → Then cx.T E g w n st' a' w' → Q (exOf e) a' w') → c.wp P Q a w
def FromOK (P : Program) (cx : Cx) (c : Code) : Prop :=
  ∀ (R : Type) (n : Nat) (l : Nat) (st : St) (a : Act) (w : World) (E : Env) (g : G) (K : Ex → St → Option R) (r : R) (Q : Exit → Act → World → Prop), LoopsOK cx n c → hasLabel l c = true → Sim cx.T E g w st a → a.tmps.size = n → fromK cx l c st K = some r →
    (∀ e st' a' w', K e st' = some r → Then cx.T E g w n st' a' w' → Q (exOf e) a' w') → ∃ rest, findLabel c l = some rest ∧ rest.wp P Q a w
theorem seq_then {Q : Exit → Act → World → Prop} {x : Code} {a : Act} {w : World} {next : Act → World → Prop} (h : x.wp P (fun e a w => match e with | .normal => next a w | e => Q e a w) a w) : x.wp P (Exit.then next Q) a w :=
  Code.wp_mono (fun e a w q => by cases e <;> exact q) h
theorem code_ok {cx : Cx} (hcx : CxOK P cx) : ∀ (c : Code), RegionsOK P cx c → CodeOK P cx c ∧ FromOK P cx c := by
  intro c
  induction c with
  | skip => exact fun _ => ⟨fun R n st a w E g K r Q hl hs hn h hq => wp_skip (hq _ st a w h ⟨E, g, hs, rfl, Tr.refl _ _ _, hn⟩), fun R n l st a w E g K r Q hl hh => by simp [hasLabel] at hh⟩
  | region id ops draw =>
    intro hro
    refine ⟨fun R n st a w E g K r Q hl hs hn h hq => ?_, fun R n l st a w E g K r Q hl hh => by simp [hasLabel] at hh⟩
    simp only [codeK] at h
    have hend : ∀ st' a' w', (canonSt st' fun st' => K .normal st') = some r → Then cx.T E g w n st' a' w' → Q .normal a' w' := by
      rintro st' a' w' hk ⟨E', g', b1, b2, b3, b4⟩
      obtain ⟨st2, g2, c1, c2, c3, _⟩ := canon_sound b1 hk
      exact hq .normal st2 a' w' c1 ⟨E', g2, c2, b2, b3.trans (by rw [← b2]; exact c3), b4⟩
    cases draw with
    | false => exact wp_region_list (ops_sound hcx ops.toList st a w E g _ r hs hn h hend)
    | true => exact hro ops (by simp [drawnOf]) R n id st a w E g _ r Q hs hn h hend
  | seq x y ihx ihy =>
    intro hro
    have hrx : RegionsOK P cx x := fun o ho => hro o (by simp [drawnOf, ho])
    have hry : RegionsOK P cx y := fun o ho => hro o (by simp [drawnOf, ho])
    refine ⟨fun R n st a w E g K r Q hl hs hn h hq => ?_, fun R n l st a w E g K r Q hl hh hs hn h hq => ?_⟩
    · have hlx : LoopsOK cx n x := fun b hb => hl b (by simp [loopsOf, hb])
      have hly : LoopsOK cx n y := fun b hb => hl b (by simp [loopsOf, hb])
      simp only [codeK] at h
      refine wp_seq (seq_then ((ihx hrx).1 R n st a w E g _ r _ hlx hs hn h fun e st' a' w' hk ht => ?_))
      cases e with
      | normal =>
        obtain ⟨E', g', b1, b2, b3, b4⟩ := ht
        exact (ihy hry).1 R n st' a' w' E' g' K r Q hly b1 b4 hk fun e st2 a2 w2 c1 c2 => hq e st2 a2 w2 c1 (c2.trans b2 b3)
      | exit i => exact hq _ st' a' w' hk ht
      | goto i => exact hq _ st' a' w' hk ht
      | ret => exact hq _ st' a' w' hk ht
    · have hlx : LoopsOK cx n x := fun b hb => hl b (by simp [loopsOf, hb])
      have hly : LoopsOK cx n y := fun b hb => hl b (by simp [loopsOf, hb])
      simp only [fromK] at h
      cases hlx' : hasLabel l x with
      | true =>
        rw [hlx', cond_true] at h
        obtain ⟨rest, h1, h2⟩ := (ihx hrx).2 R n l st a w E g _ r (fun e a w => match e with | .normal => y.wp P Q a w | e => Q e a w) hlx hlx' hs hn h fun e st' a' w' hk ht => by
          cases e with
          | normal =>
            obtain ⟨E', g', b1, b2, b3, b4⟩ := ht
            exact (ihy hry).1 R n st' a' w' E' g' K r Q hly b1 b4 hk fun e st2 a2 w2 c1 c2 => hq e st2 a2 w2 c1 (c2.trans b2 b3)
          | exit i => exact hq _ st' a' w' hk ht
          | goto i => exact hq _ st' a' w' hk ht
          | ret => exact hq _ st' a' w' hk ht
        exact ⟨.seq rest y, by simp [findLabel, h1], wp_seq (seq_then h2)⟩
      | false =>
        rw [hlx', cond_false] at h
        have hly' : hasLabel l y = true := by simpa [hasLabel, hlx'] using hh
        obtain ⟨rest, h1, h2⟩ := (ihy hry).2 R n l st a w E g K r Q hly hly' hs hn h hq
        exact ⟨rest, by simp [findLabel, label_none x l hlx', h1], h2⟩
  | cond c x y ihx ihy =>
    intro hro
    have hrx : RegionsOK P cx x := fun o ho => hro o (by simp [drawnOf, ho])
    have hry : RegionsOK P cx y := fun o ho => hro o (by simp [drawnOf, ho])
    refine ⟨fun R n st a w E g K r Q hl hs hn h hq => ?_, fun R n l st a w E g K r Q hl hh => by simp [hasLabel] at hh⟩
    have hlx : LoopsOK cx n x := fun b hb => hl b (by simp [loopsOf, hb])
    have hly : LoopsOK cx n y := fun b hb => hl b (by simp [loopsOf, hb])
    obtain ⟨slots, mem, dead⟩ := st
    simp only [codeK] at h
    split at h
    · rename_i heq
      cases heq
      rename_i t
      simp only [getK_eq, setK_eq] at h
      generalize hx : slots.getD t .any = dx at h
      cases dx <;> simp only [reduceCtorEq] at h
      rename_i v0 at_
      cases v0 <;> simp only [V.unBool, reduceCtorEq] at h
      rename_i b
      have hself : slots.set t (.v (.bool b) at_) = slots := getD_set_self hx (by simp)
      have hev : a.eval (.tmp t) = .bool b := by
        have := hs.slots.ev (T := cx.T) 0 (.tmp t)
        simp only [evalD, hx] at this
        exact this.bool_inv
      cases b
      · simp only [br, cond_false, hself] at h
        exact wp_cond_false hev ((ihy hry).1 R n _ a w E g K r Q hly hs hn h hq)
      · simp only [br, cond_true, hself] at h
        exact wp_cond_true hev ((ihx hrx).1 R n _ a w E g K r Q hlx hs hn h hq)
    · rename_i heq
      cases heq
      rename_i v
      cases v
      · exact wp_cond_false rfl ((ihy hry).1 R n _ a w E g K r Q hly hs hn h hq)
      · exact wp_cond_true rfl ((ihx hrx).1 R n _ a w E g K r Q hlx hs hn h hq)
    · cases h
  | block id x ih =>
    intro hro
    have hrx : RegionsOK P cx x := fun o ho => hro o (by simpa [drawnOf] using ho)
    refine ⟨fun R n st a w E g K r Q hl hs hn h hq => ?_, fun R n l st a w E g K r Q hl hh => by simp [hasLabel] at hh⟩
    simp only [codeK] at h
    refine wp_block ((ih hrx).1 R n st a w E g _ r _ (fun b hb => hl b (by simpa [loopsOf] using hb)) hs hn h fun e st' a' w' hk ht => ?_)
    cases e with
    | normal => exact hq .normal st' a' w' hk ht
    | exit i =>
      simp only [exOf, Exit.inBlock]
      simp only at hk
      by_cases hi : i = id
      · subst hi
        simp only [Nat.beq_refl, cond_true] at hk
        rw [if_pos rfl]; exact hq .normal st' a' w' hk ht
      · rw [beq_ne hi] at hk
        rw [if_neg hi]; exact hq (.exit i) st' a' w' hk ht
    | goto i => exact hq (.goto i) st' a' w' hk ht
    | ret => exact hq .ret st' a' w' hk ht
  | loop x ih =>
    intro hro
    have hrx : RegionsOK P cx x := fun o ho => hro o (by simpa [drawnOf] using ho)
    refine ⟨fun R n st a w E g K r Q hl hs hn h hq => ?_, fun R n l st a w E g K r Q hl hh => by simp [hasLabel] at hh⟩
    obtain ⟨slots, mem, dead⟩ := st
    simp only [codeK] at h
    have hsn : slots.length = n := by rw [← hn]; exact hs.size.symm
    rw [hsn] at h
    obtain ⟨ds, m', g', E', h1, h2, h3, h4⟩ := keep_sound hs h
    rw [hsn] at h2
    obtain ⟨t, h5⟩ := hl x (by simp [loopsOf]) R ds m' _ r h1
    refine wp_loop_n (fun t a w' => ∃ ds m E' g', loopK (fun st K => codeK cx x st K) n (cx.keep (ridOf x)) (cx.keepX (ridOf x)) t ds m (fun e ds m => spreadK n 0 (cx.keepX (ridOf x)) ds fun slots => K e ⟨slots, m, []⟩) = some r ∧ Sim cx.T E' g' w' ⟨spreadL n 0 (cx.keep (ridOf x)) ds, m, []⟩ a ∧ E'.d = E.d ∧ Tr E.d g w g' w' ∧ a.tmps.size = n) ⟨t, ds, m', E', g', h5, h2, h3, h4, hn⟩ ?_
    rintro t a1 w1 ⟨ds1, m1, E1, g1, k1, k2, k3, k4, k5⟩
    cases t with
    | zero => cases k1
    | succ t =>
      simp only [loopK, roundK, spreadK_eq] at k1
      refine seq_then ((ih hrx).1 R n _ a1 w1 E1 g1 _ r _ (fun b hb => hl b (by simp [loopsOf, hb])) k2 k5 k1 fun e st' a' w' hk ht => ?_)
      obtain ⟨E2, g2, b1, b2, b3, b4⟩ := ht
      obtain ⟨slots', mem', dead'⟩ := st'
      have hsn' : slots'.length = n := by rw [← b4]; exact b1.size.symm
      have htr : Tr E.d g w g2 w' := k4.trans (by rw [← k3]; exact b3)
      -- an end of the loop
      have out : ∀ e', (keepK (cx.keepX (ridOf x)) ⟨slots', mem', dead'⟩ fun ds m => K e' ⟨spreadL n 0 (cx.keepX (ridOf x)) ds, m, []⟩) = some r → Q (exOf e') a' w' := by
        intro e' hk
        obtain ⟨ds3, m3, g3, E3, c1, c2, c3, c4⟩ := keep_sound b1 hk
        rw [hsn'] at c2
        exact hq e' _ a' w' c1 ⟨E3, g3, c2, by rw [c3, b2, k3], htr.trans (by rw [← k3, ← b2]; exact c4), b4⟩
      cases e with
      | normal =>
        obtain ⟨ds3, m3, g3, E3, c1, c2, c3, c4⟩ := keep_sound b1 hk
        rw [hsn'] at c2
        exact ⟨t, Nat.lt_succ_self t, ds3, m3, E3, g3, by simp only [spreadK_eq]; exact c1, c2, by rw [c3, b2, k3], htr.trans (by rw [← k3, ← b2]; exact c4), b4⟩
      | exit i => exact out _ hk
      | goto i => exact out _ hk
      | ret => exact out _ hk
  | rangeFunc f ps qs b _ _ => exact fun _ => ⟨fun R n st a w E g K r Q hl hs hn h hq => by simp [codeK] at h, fun R n l st a w E g K r Q hl hh => by simp [hasLabel] at hh⟩
  | exit id => exact fun _ => ⟨fun R n st a w E g K r Q hl hs hn h hq => wp_exit (hq (.exit id) st a w h ⟨E, g, hs, rfl, Tr.refl _ _ _, hn⟩), fun R n l st a w E g K r Q hl hh => by simp [hasLabel] at hh⟩
  | scope x ih =>
    intro hro
    have hrx : RegionsOK P cx x := fun o ho => hro o (by simpa [drawnOf] using ho)
    refine ⟨fun R n st a w E g K r Q hl hs hn h hq => ?_, fun R n l st a w E g K r Q hl hh => by simp [hasLabel] at hh⟩
    have hlx : LoopsOK cx n x := fun b hb => hl b (by simpa [loopsOf] using hb)
    simp only [codeK] at h
    refine wp_scope_all (fun t l a' w' => ∃ st' E' g', jumpK (fun l st K => fromK cx l x st K) (fun l => hasLabel l x) t l st' K = some r ∧ hasLabel l x = true ∧ Sim cx.T E' g' w' st' a' ∧ E'.d = E.d ∧ Tr E.d g w g' w' ∧ a'.tmps.size = n) ?_ ?_
    · refine (ih hrx).1 R n st a w E g _ r _ hlx hs hn h fun e st' a' w' hk ht => ?_
      cases e with
      | normal => exact hq _ st' a' w' hk ht
      | exit i => exact hq _ st' a' w' hk ht
      | ret => exact hq _ st' a' w' hk ht
      | goto l =>
        simp only at hk
        obtain ⟨E2, g2, b1, b2, b3, b4⟩ := ht
        cases hh : hasLabel l x with
        | true => rw [hh] at hk; exact .inl ⟨_, st', E2, g2, hk, hh, b1, b2, b3, b4⟩
        | false => rw [hh] at hk; exact .inr ⟨label_none x l hh, hq (.goto l) st' a' w' hk ⟨E2, g2, b1, b2, b3, b4⟩⟩
    · rintro t l a1 w1 ⟨st1, E1, g1, k1, k2, k3, k4, k5, k6⟩
      cases t with
      | zero => cases k1
      | succ t =>
        simp only [jumpK] at k1
        refine (ih hrx).2 R n l st1 a1 w1 E1 g1 _ r _ hlx k2 k3 k6 k1 fun e st' a' w' hk ht => ?_
        have ht' := ht.trans k4 k5
        cases e with
        | normal => exact hq _ st' a' w' hk ht'
        | exit i => exact hq _ st' a' w' hk ht'
        | ret => exact hq _ st' a' w' hk ht'
        | goto l' =>
          simp only at hk
          obtain ⟨E2, g2, b1, b2, b3, b4⟩ := ht'
          cases hh : hasLabel l' x with
          | true => rw [hh] at hk; exact .inl ⟨t, Nat.lt_succ_self t, st', E2, g2, hk, hh, b1, b2, b3, b4⟩
          | false => rw [hh] at hk; exact .inr ⟨label_none x l' hh, hq (.goto l') st' a' w' hk ⟨E2, g2, b1, b2, b3, b4⟩⟩
  | label l0 =>
    exact fun _ => ⟨fun R n st a w E g K r Q hl hs hn h hq => wp_label (hq .normal st a w h ⟨E, g, hs, rfl, Tr.refl _ _ _, hn⟩), fun R n l st a w E g K r Q hl hh hs hn h hq => ⟨.skip, by
      have := Nat.eq_of_beq_eq_true hh
      subst this
      simp [findLabel], wp_skip (hq .normal st a w h ⟨E, g, hs, rfl, Tr.refl _ _ _, hn⟩)⟩⟩
  | goto l => exact fun _ => ⟨fun R n st a w E g K r Q hl hs hn h hq => wp_goto (hq (.goto l) st a w h ⟨E, g, hs, rfl, Tr.refl _ _ _, hn⟩), fun R n l st a w E g K r Q hl hh => by simp [hasLabel] at hh⟩
  | ret => exact fun _ => ⟨fun R n st a w E g K r Q hl hs hn h hq => wp_ret (hq .ret st a w h ⟨E, g, hs, rfl, Tr.refl _ _ _, hn⟩), fun R n l st a w E g K r Q hl hh => by simp [hasLabel] at hh⟩
  | refuse why => exact fun _ => ⟨fun R n st a w E g K r Q hl hs hn h hq => by simp [codeK] at h, fun R n l st a w E g K r Q hl hh => by simp [hasLabel] at hh⟩
end
end Go.Proofs.YtjpmogajlnkihaaDoor.En

/- The engine, part z: regions that draw their order. -/
namespace Go.Proofs.YtjpmogajlnkihaaDoor.En
open Go
set_option linter.unusedVariables false

/-! The check -/
def readsM (ops : Array Oper) (o : Oper) : List Operand → Nat
  | [] => (match o.guard with | some (j, _) => (match dstOf ops j with | some s => 1 <<< s | none => 0) | none => 0)
  | x :: r => (match x with | .tmp t => (1 <<< t) ||| readsM ops o r | _ => readsM ops o r)
def dstM (o : Oper) : Nat := match o.dst with | some s => 1 <<< s | none => 0
def clash2 : Cls → Cls → Bool
  | .c, _ => true
  | _, .c => true
  | .n, _ => false
  | _, .n => false
  | .r, .r => false
  | .r, .a => false
  | .a, .r => false
  | _, _ => true
/-- A load and a store that go to different variables of the text. -/
def farS (ops : Array Oper) (a b : Op) : Bool :=
  match a, b with
  | .load _ (.tmp i), .store _ (.tmp j) _ => !Nat.beq (rootN ops 20 i) (rootN ops 20 j)
  | .store _ (.tmp j) _, .load _ (.tmp i) => !Nat.beq (rootN ops 20 i) (rootN ops 20 j)
  | _, _ => false
def isLd (op : Op) : Bool := match op with | .load _ (.tmp _) => true | _ => false
/-- .. or a load and an append. -/
def farM (ops : Array Oper) (a b : Op) : Bool := farS ops a b || ((isLd a && isApp b) || (isApp a && isLd b))
def apartM (ops : Array Oper) (cx : Cx) (a b : Oper) : Bool :=
  (!clash2 (clsOf cx a.op) (clsOf cx b.op) || (cx.dyn && farM ops a.op b.op)) && Nat.beq (dstM a &&& (readsM ops b b.op.operands.toList ||| dstM b)) 0 && Nat.beq (dstM b &&& readsM ops a a.op.operands.toList) 0
def aheadE (acc : List Nat) : List Edge → Nat
  | [] => 0
  | e :: r => cond (Region.binds .any e) ((1 <<< e.on) ||| (acc.getD e.on 0 ||| aheadE acc r)) (aheadE acc r)
def backE (i : Nat) : List Edge → Bool
  | [] => true
  | e :: r => (!Region.binds .any e || Nat.blt e.on i) && backE i r
def chkP (ops : Array Oper) (cx : Cx) (o : Oper) (a : Nat) : Nat → List Oper → Bool
  | _, [] => true
  | j, p :: ps => (Nat.testBit a j || apartM ops cx p o) && chkP ops cx o a (j + 1) ps
/-- acc: what is ahead of each operation of prev. -/
def chkO (ops : Array Oper) (cx : Cx) : List Oper → List Oper → List Nat → Bool
  | [], _, _ => true
  | o :: r, prev, acc => backE prev.length o.after.toList && chkP ops cx o (aheadE acc o.after.toList) 0 prev && chkO ops cx r (prev ++ [o]) (acc ++ [aheadE acc o.after.toList])
def orderB (cx : Cx) (ops : Array Oper) : Bool := chkO ops cx ops.toList [] []

theorem bit_and {a b : Nat} (h : a &&& b = 0) (t : Nat) (ha : a.testBit t = true) : b.testBit t = false := by
  have := congrArg (fun n => Nat.testBit n t) h
  simpa [ha] using this
theorem readsM_op (ops : Array Oper) (o : Oper) (t : Nat) : ∀ l : List Operand, .tmp t ∈ l → (readsM ops o l).testBit t = true
  | [], h => by cases h
  | x :: r, h => by
    rcases List.mem_cons.1 h with h | h
    · subst h; simp [readsM, Nat.testBit_or]
    · have := readsM_op ops o t r h
      unfold readsM
      split <;> simp [Nat.testBit_or, this]
theorem readsM_guard (ops : Array Oper) (o : Oper) {j : Nat} {w : Bool} {s : Nat} (hg : o.guard = some (j, w)) (hd : dstOf ops j = some s) : ∀ l : List Operand, (readsM ops o l).testBit s = true
  | [] => by simp [readsM, hg, hd]
  | x :: r => by
    have := readsM_guard ops o hg hd r
    unfold readsM
    split <;> simp [Nat.testBit_or, this]
theorem dstM_some {o : Oper} {s : Nat} (h : o.dst = some s) : (dstM o).testBit s = true := by simp [dstM, h]
structure Apart (ops : Array Oper) (cx : Cx) (a b : Oper) : Prop where
  cls : clash2 (clsOf cx a.op) (clsOf cx b.op) = false ∨ (cx.dyn = true ∧ farM ops a.op b.op = true)
  ab : ∀ s, a.dst = some s → Away ops s b
  ba : ∀ s, b.dst = some s → Away ops s a
theorem apart_of {ops : Array Oper} {cx : Cx} {a b : Oper} (h : apartM ops cx a b = true) : Apart ops cx a b := by
  unfold apartM at h
  simp only [Bool.and_eq_true, Bool.or_eq_true, Bool.not_eq_true'] at h
  obtain ⟨⟨h1, h2⟩, h3⟩ := h
  have h2 := Nat.eq_of_beq_eq_true h2
  have h3 := Nat.eq_of_beq_eq_true h3
  refine ⟨h1, fun s hs => ?_, fun s hs => ?_⟩
  · have := bit_and h2 s (dstM_some hs)
    simp only [Nat.testBit_or, Bool.or_eq_false_iff] at this
    refine ⟨fun z hz e => ?_, fun j w t hg hd e => ?_, fun e => ?_⟩
    · subst e; rw [readsM_op ops b s _ hz] at this; cases this.1
    · subst e; rw [readsM_guard ops b hg hd] at this; cases this.1
    · rw [dstM_some e] at this; cases this.2
  · have := bit_and h3 s (dstM_some hs)
    refine ⟨fun z hz e => ?_, fun j w t hg hd e => ?_, fun e => ?_⟩
    · subst e; rw [readsM_op ops a s _ hz] at this; cases this
    · subst e; rw [readsM_guard ops a hg hd] at this; cases this
    · have h4 := bit_and h2 s (dstM_some e)
      simp only [Nat.testBit_or, Bool.or_eq_false_iff] at h4
      rw [dstM_some hs] at h4; cases h4.2
theorem backE_spec {i : Nat} : ∀ (l : List Edge), backE i l = true → ∀ e ∈ l, Region.binds .any e = true → e.on < i
  | [], _, e, he => by cases he
  | x :: r, h, e, he => by
    simp only [backE, Bool.and_eq_true, Bool.or_eq_true, Bool.not_eq_true'] at h
    intro hb
    rcases List.mem_cons.1 he with rfl | he
    · rcases h.1 with h1 | h1
      · rw [hb] at h1; cases h1
      · exact Nat.lt_of_lt_of_le (Nat.lt_succ_self _) (Nat.le_of_ble_eq_true h1)
    · exact backE_spec r h.2 e he hb
theorem aheadE_spec (L : Nat → Prop) (acc : List Nat) : ∀ (l : List Edge), (∀ e ∈ l, Region.binds .any e = true → L e.on ∧ ∀ j, (acc.getD e.on 0).testBit j = true → L j) → ∀ j, (aheadE acc l).testBit j = true → L j
  | [], _, j, h => by simp [aheadE] at h
  | e :: r, hl, j, h => by
    unfold aheadE at h
    have ih := aheadE_spec L acc r (fun e he => hl e (by simp [he])) j
    cases hb : Region.binds .any e with
    | false => rw [hb] at h; exact ih h
    | true =>
      rw [hb, cond_true] at h
      obtain ⟨h1, h2⟩ := hl e (by simp) hb
      simp only [Nat.testBit_or, Bool.or_eq_true] at h
      rcases h with h | h | h
      · have : j = e.on := by
          rw [Nat.one_shiftLeft, Nat.testBit_two_pow] at h
          simpa using (of_decide_eq_true h).symm
        rw [this]; exact h1
      · exact h2 j h
      · exact ih h
theorem chkP_spec {ops : Array Oper} {cx : Cx} {o : Oper} {a : Nat} : ∀ (l : List Oper) (k : Nat), chkP ops cx o a k l = true → ∀ j p, l[j]? = some p → a.testBit (k + j) = true ∨ Apart ops cx p o
  | [], k, _, j, p, hp => by simp at hp
  | x :: r, k, h, j, p, hp => by
    simp only [chkP, Bool.and_eq_true, Bool.or_eq_true] at h
    rcases j with _ | j
    · simp at hp; subst hp
      rcases h.1 with h1 | h1
      · exact .inl h1
      · exact .inr (apart_of h1)
    · have := chkP_spec r (k + 1) h.2 j p (by simpa using hp)
      rwa [show k + 1 + j = k + (j + 1) by omega] at this
/-- Edges go back; an operation may be done ahead of those of the text that it does not wait for, if all that it waits for are done. -/
structure Ordered (ops : Array Oper) (cx : Cx) (l : List Oper) (acc : List Nat) : Prop where
  len : acc.length = l.length
  back : ∀ (i : Nat) o, l[i]? = some o → ∀ e ∈ o.after, Region.binds .any e = true → e.on < i
  ahead : ∀ (L : Nat → Prop), (∀ (i : Nat) o, l[i]? = some o → L i → ∀ e ∈ o.after, Region.binds .any e = true → L e.on) → ∀ (i : Nat) o, l[i]? = some o → (∀ e ∈ o.after, Region.binds .any e = true → L e.on) → ∀ j, (acc.getD i 0).testBit j = true → L j
  pair : ∀ (i j : Nat) o p, l[i]? = some o → l[j]? = some p → j < i → (acc.getD i 0).testBit j = true ∨ Apart ops cx p o
theorem chkO_spec {ops : Array Oper} {cx : Cx} : ∀ (l prev : List Oper) (acc : List Nat), Ordered ops cx prev acc → chkO ops cx l prev acc = true → ∃ acc', Ordered ops cx (prev ++ l) acc'
  | [], prev, acc, ho, _ => ⟨acc, by simpa using ho⟩
  | o :: r, prev, acc, ho, h => by
    simp only [chkO, Bool.and_eq_true] at h
    obtain ⟨⟨h1, h2⟩, h3⟩ := h
    have key : Ordered ops cx (prev ++ [o]) (acc ++ [aheadE acc o.after.toList]) := by
      have get : ∀ {i : Nat} {x : Oper}, (prev ++ [o])[i]? = some x → prev[i]? = some x ∨ (i = prev.length ∧ x = o) := by
        intro i x hx
        rcases Nat.lt_or_ge i prev.length with hl | hl
        · rw [List.getElem?_append_left hl] at hx; exact .inl hx
        · rw [List.getElem?_append_right hl] at hx
          have : i - prev.length = 0 := by
            rcases Nat.eq_zero_or_pos (i - prev.length) with h0 | h0
            · exact h0
            · rw [List.getElem?_eq_none (by simp; omega)] at hx; cases hx
          rw [this] at hx; simp at hx
          exact .inr ⟨by omega, hx.symm⟩
      have hlt : ∀ {i : Nat} {x : Oper}, prev[i]? = some x → i < prev.length := fun hx => (List.getElem?_eq_some_iff.1 hx).1
      have ga : ∀ {i : Nat}, i < prev.length → (acc ++ [aheadE acc o.after.toList]).getD i 0 = acc.getD i 0 := by
        intro i hi
        rw [List.getD_eq_getElem?_getD, List.getElem?_append_left (by rw [ho.len]; exact hi), ← List.getD_eq_getElem?_getD]
      have gl : (acc ++ [aheadE acc o.after.toList]).getD prev.length 0 = aheadE acc o.after.toList := by
        rw [List.getD_eq_getElem?_getD, List.getElem?_append_right (by rw [ho.len]; exact Nat.le_refl _), ho.len]; simp
      have hb := backE_spec _ h1
      refine ⟨by simp [ho.len], fun i x hx => ?_, fun L hL i x hx hw j hj => ?_, fun i j x p hx hp hji => ?_⟩
      · rcases get hx with hx | ⟨rfl, rfl⟩
        · exact ho.back i x hx
        · exact fun e he hbd => hb e (by simpa using he) hbd
      · have hL' : ∀ (i : Nat) o, prev[i]? = some o → L i → ∀ e ∈ o.after, Region.binds .any e = true → L e.on := fun i y hy => hL i y (by rw [List.getElem?_append_left (hlt hy)]; exact hy)
        rcases get hx with hx | ⟨rfl, rfl⟩
        · rw [ga (hlt hx)] at hj
          exact ho.ahead L hL' i x hx hw j hj
        · rw [gl] at hj
          refine aheadE_spec L acc _ (fun e he hbd => ?_) j hj
          have he' : e ∈ x.after := by simpa using he
          have hlt' := hb e he hbd
          refine ⟨hw e he' hbd, ?_⟩
          have hy : prev[e.on]? = some prev[e.on] := List.getElem?_eq_getElem hlt'
          exact ho.ahead L hL' e.on _ hy (hL' e.on _ hy (hw e he' hbd))
      · rcases get hx with hx1 | ⟨rfl, rfl⟩
        · rw [ga (hlt hx1)]
          rcases get hp with hp | ⟨rfl, rfl⟩
          · exact ho.pair i j x p hx1 hp hji
          · have := hlt hx1; omega
        · rw [gl]
          rcases get hp with hp | ⟨rfl, rfl⟩
          · have := chkP_spec prev 0 h2 j p hp
            rwa [Nat.zero_add] at this
          · omega
    obtain ⟨acc', ha⟩ := chkO_spec r _ _ key h3
    exact ⟨acc', by simpa using ha⟩
theorem ordered_of {ops : Array Oper} {cx : Cx} (h : orderB cx ops = true) : ∃ acc, Ordered ops cx ops.toList acc := by
  have h0 : Ordered ops cx [] [] := ⟨rfl, fun i o ho => by simp at ho, fun L _ i o ho => by simp at ho, fun i j o p ho => by simp at ho⟩
  simpa using chkO_spec ops.toList [] [] h0 h

section
variable {R : Type} {cx : Cx} {ops : Array Oper}
/-- What is loaded is there. -/
def Good (cx : Cx) (i : Oper) (slots : List D) (m : Mem) : Prop := ∀ t z, i.op = .load t z → ∀ k s o, evalD cx.T slots 0 z = .ptr k s o → ∃ b, m.box? k s = some b
def Grown (m m' : Mem) : Prop := ∀ k s b, m.box? k s = some b → m'.box? k s = some b
theorem Good.put {x i : Oper} {slots : List D} {m m' : Mem} (h : Good cx i slots m) (hx : ∀ s, x.dst = some s → Away ops s i) (hm : Grown m m') (d : D) : Good cx i (put slots x.dst d) m' := by
  intro t z hz k s o he
  have : evalD cx.T (En.put slots x.dst d) 0 z = evalD cx.T slots 0 z := by
    cases hd : x.dst with
    | none => rfl
    | some y => exact evalD_set slots y _ 0 z ((hx y hd).reads z (by rw [hz]; simp [Op.operands]))
  rw [this] at he
  obtain ⟨b, hb⟩ := h t z hz k s o he
  exact ⟨b, hm _ _ _ hb⟩
def isA (cx : Cx) (op : Op) : Bool := match clsOf cx op with | .a => true | _ => false
theorem isA_alloc {op : Op} (h : isA cx op = true) : ∃ t, op = .alloc t := by
  unfold isA clsOf at h
  split at h <;> try cases h
  all_goals rename_i heq
  all_goals split at heq
  all_goals first | exact ⟨_, rfl⟩ | cases heq | (split at heq <;> first | cases heq | (split at heq <;> cases heq))
theorem alloc_grown {T : TypeId → Option Ty} {dst : Nat} {oty t : TypeId} {slots : List D} {m : Mem} {dead : List Pos} {d : D} {m' : Mem} {dd : List Pos}
    (h : opK T dst oty slots (.alloc t) m dead (fun d m dd => some (d, m, dd)) = some (d, m', dd)) : Grown m m' := by
  simp only [opK] at h
  split at h
  · unfold newBoxK at h
    split at h
    · rename_i fr out
      split at h
      · rename_i hn
        obtain ⟨cs, d2, h⟩ := cellsK_out _ _ _ _ _ h
        rw [memPutK_eq] at h
        injection h with h
        injection h with h0 h
        injection h with h1 h2
        subst h1
        intro k s b hb
        rw [box_set, if_neg]
        · exact hb
        · rintro ⟨rfl, rfl, _⟩
          simp only [Mem.box?] at hb
          rw [hn] at hb; cases hb
      · cases h
    · cases h
  · cases h
/-- A step that only reads, or makes a variable. -/
theorem step_grown (hB : PureB cx) {x : Oper} (hx : isVal cx x.op = true ∨ isA cx x.op = true) {slots : List D} {m : Mem} {dead : List Pos} {d : D} {m' : Mem} {dd : List Pos}
    (h : ∀ (R' : Type) (K' : St → Option R'), stepK cx ops x ⟨slots, m, dead⟩ K' = K' ⟨put slots x.dst d, m', dd⟩) : Grown m m' := by
  have h1 := h St some
  rcases hx with hx | hx
  · rw [step_val hB hx] at h1
    obtain ⟨e, _, h2⟩ := bind_some h1
    injection h2 with h2; injection h2 with _ h2 _; subst h2
    exact fun _ _ _ hb => hb
  · obtain ⟨t, ht⟩ := isA_alloc hx
    rw [stepK_eq] at h1
    cases hw : wants ops x slots with
    | none => rw [hw] at h1; cases h1
    | some b =>
      rw [hw] at h1
      cases b
      · simp only [actK, skipK_eq] at h1
        injection h1 with h2; injection h2 with _ h2 _; subst h2
        exact fun _ _ _ hb => hb
      · simp only [actK] at h1
        rw [takeK_eq x (by simp [notC, ht, clsOf])] at h1
        have hr : ∀ (R' : Type) (K' : Bool → D → Mem → List Pos → Option R'), runK cx x slots m dead K' = opK cx.T (x.dst.getD 0) x.type slots (.alloc t) m dead (K' false) := by
          intro R' K'; unfold runK; rw [ht]
        rw [hr, ← opK_b cx] at h1
        obtain ⟨p, h3, h4⟩ := bind_some h1
        injection h4 with h4; injection h4 with _ h4 _
        obtain ⟨p1, p2, p3⟩ := p
        simp only at h4; subst h4
        exact alloc_grown h3
theorem loadK_grown {T : TypeId → Option Ty} {t : TypeId} {a : D} {m m' : Mem} (hm : Grown m m') (hg : ∀ k s o, a = .ptr k s o → ∃ b, m.box? k s = some b) (K : D → Option R) : loadK T t a m' K = loadK T t a m K := by
  unfold loadK
  split
  · split
    · rename_i k s o
      obtain ⟨b, hb⟩ := hg k s o rfl
      rw [hb, hm _ _ _ hb]
    · rfl
    · rfl
  · rfl
theorem loadK_ptr {T : TypeId → Option Ty} {t : TypeId} {m : Mem} {k s o : Nat} {K : D → Option R} {r : R} (h : loadK T t (.ptr k s o) m K = some r) : ∃ b, m.box? k s = some b := by
  unfold loadK at h
  split at h
  · simp only at h
    split at h
    · rename_i b hb; exact ⟨b, hb⟩
    · cases h
  · cases h
theorem val_cases {op : Op} (h : isVal cx op = true) : isN cx op = true ∨ ∃ t z, op = .load t z := by
  unfold isVal at h
  unfold isN
  cases hc : clsOf cx op with
  | n => exact .inl rfl
  | r =>
    refine .inr ?_
    unfold clsOf at hc
    split at hc <;> try cases hc
    · exact ⟨_, _, rfl⟩
    · split at hc <;> first | cases hc | (split at hc <;> cases hc)
  | _ => rw [hc] at h; cases h
theorem valR_load {o : Oper} {t : TypeId} {z : Operand} (hz : o.op = .load t z) (slots : List D) (m : Mem) : valR cx o slots m = loadK cx.T t (evalD cx.T slots 0 z) m some := by
  unfold valR runK
  rw [hz]
  simp only [opK, evK_eq]
theorem valS_grown {i : Oper} (hi : isVal cx i.op = true) {slots : List D} {m m' : Mem} (hm : Grown m m') (hg : Good cx i slots m) : valS cx ops i slots m' = valS cx ops i slots m := by
  rcases val_cases hi with h | ⟨t, z, hz⟩
  · exact valS_mem h _ _ _
  · unfold valS
    rw [valR_load hz, valR_load hz, loadK_grown hm (hg t z hz)]
theorem good_of_val {i : Oper} {slots : List D} {m : Mem} {d : D} (hw : wants ops i slots = some true) (h : valS cx ops i slots m = some d) : Good cx i slots m := by
  intro t z hz k s o he
  unfold valS at h
  rw [hw] at h
  simp only [valR_load hz, he] at h
  exact loadK_ptr h
theorem cls_cases {a b : Op} (h : clash2 (clsOf cx a) (clsOf cx b) = false) :
    notC cx a = true ∧ notC cx b = true ∧ (isN cx a = true ∨ isN cx b = true ∨ (isVal cx a = true ∧ isVal cx b = true) ∨ (isVal cx a = true ∧ isA cx b = true) ∨ (isA cx a = true ∧ isVal cx b = true)) := by
  unfold notC isN isVal isA
  cases ha : clsOf cx a <;> cases hb : clsOf cx b <;> rw [ha, hb] at h <;> simp [clash2] at h ⊢
/-- An operation comes ahead of one that is apart from it. -/
theorem swap1 (hB : PureB cx) {x i : Oper} (ha : Apart ops cx x i) (hcls : clash2 (clsOf cx x.op) (clsOf cx i.op) = false) {slots : List D} {m : Mem} {dead : List Pos} (hg : Good cx i slots m) {K : St → Option R} {r : R}
    (h : stepK cx ops x ⟨slots, m, dead⟩ (fun s => stepK cx ops i s K) = some r) : stepK cx ops i ⟨slots, m, dead⟩ (fun s => stepK cx ops x s K) = some r := by
  obtain ⟨hcx, hci, hcl⟩ := cls_cases hcls
  have hval : isN cx i.op = true → stepK cx ops i ⟨slots, m, dead⟩ (fun s => stepK cx ops x s K) = some r := by
    intro hn
    obtain ⟨d, m', dd, h1, h2⟩ := step_fun hB hcx h
    rw [step_val hB (isVal_of_N hn)] at h1
    obtain ⟨e, h3, h4⟩ := bind_some h1
    rw [put_away ha.ab, valS_mem hn _ _ m] at h3
    rw [← swap_val' hB hcx (isVal_of_N hn) ha.ab ha.ba (.inl hn) slots m dead K h3]
    exact h
  have hval2 : isVal cx x.op = true → isN cx x.op = true ∨ isVal cx i.op = true → stepK cx ops i ⟨slots, m, dead⟩ (fun s => stepK cx ops x s K) = some r := by
    intro hv hn
    rcases swap_val hB hv hci ha.ab ha.ba hn slots m dead K with h1 | h1
    · rw [← h1]; exact h
    · rw [h1] at h; cases h
  rcases hcl with hn | hn | ⟨h1, h2⟩ | ⟨h1, h2⟩ | ⟨h1, h2⟩
  · exact hval2 (isVal_of_N hn) (.inl hn)
  · exact hval hn
  · exact hval2 h1 (.inr h2)
  · -- x reads, i makes a variable
    rw [step_val hB h1] at h
    obtain ⟨d, h3, h4⟩ := bind_some h
    rw [step_put ha.ab hci] at h4
    obtain ⟨e, m', dd, h5, h6⟩ := step_fun hB hci h4
    have hgr := step_grown hB (.inr h2) h6
    rw [h6 R fun s => stepK cx ops x s K]
    rw [step_val hB h1, put_away ha.ba]
    have hx : valS cx ops x slots m' = some d := by
      cases hw : wants ops x slots with
      | none => unfold valS at h3; rw [hw] at h3; cases h3
      | some b =>
        cases b with
        | false => unfold valS at h3 ⊢; rw [hw] at h3 ⊢; exact h3
        | true => rw [valS_grown h1 hgr (good_of_val hw h3)]; exact h3
    rw [hx, Option.bind_some]
    exact h5
  · -- x makes a variable, i reads
    obtain ⟨d, m', dd, h3, h4⟩ := step_fun hB hcx h
    have hgr := step_grown hB (.inr h1) h4
    rw [step_val hB h2, put_away ha.ab, valS_grown h2 hgr hg] at h3
    obtain ⟨e, h5, h6⟩ := bind_some h3
    rw [step_val hB h2, h5, Option.bind_some, step_put ha.ba hcx, h4]
    exact h6
theorem ld_of {op : Op} (h : isLd op = true) : ∃ t i, op = .load t (.tmp i) := by
  unfold isLd at h
  split at h
  · exact ⟨_, _, rfl⟩
  · cases h
theorem app_of {op : Op} (h : isApp op = true) : ∃ c, op = .call c ∧ c.callee = .builtin .append := by
  unfold isApp at h
  split at h
  · rename_i c
    split at h
    · rename_i hc; exact ⟨c, rfl, hc⟩
    · cases h
  · cases h
theorem app_w {op : Op} (cx : Cx) (h : isApp op = true) : clsOf cx op = .w := by
  obtain ⟨c, rfl, hc⟩ := app_of h
  unfold clsOf
  simp only [hc]
theorem far_cases {a b : Op} (h : farM ops a b = true) : (∃ t i t' j v, a = .load t (.tmp i) ∧ b = .store t' (.tmp j) v ∧ rootN ops 20 i ≠ rootN ops 20 j) ∨ (∃ t i t' j v, a = .store t' (.tmp j) v ∧ b = .load t (.tmp i) ∧ rootN ops 20 i ≠ rootN ops 20 j) ∨
    (∃ t i, a = .load t (.tmp i) ∧ isApp b = true) ∨ (∃ t i, b = .load t (.tmp i) ∧ isApp a = true) := by
  unfold farM at h
  rw [Bool.or_eq_true, Bool.or_eq_true, Bool.and_eq_true, Bool.and_eq_true] at h
  rcases h with h | ⟨h1, h2⟩ | ⟨h1, h2⟩
  · unfold farS at h
    split at h
    · refine .inl ⟨_, _, _, _, _, rfl, rfl, fun e => ?_⟩
      rw [e] at h; simp at h
    · refine .inr (.inl ⟨_, _, _, _, _, rfl, rfl, fun e => ?_⟩)
      rw [e] at h; simp at h
    · cases h
  · obtain ⟨t, i, e⟩ := ld_of h1
    exact .inr (.inr (.inl ⟨t, i, e, h2⟩))
  · obtain ⟨t, i, e⟩ := ld_of h2
    exact .inr (.inr (.inr ⟨t, i, e, h1⟩))
theorem useUp_mem {R : Type} {a : Att} {e : TypeId} {m : Mem} {dead : List Pos} {K : Mem → List Pos → Option R} {r : R} (hno : ∀ k s p e', a ≠ .own (.cell k s p) e') (h : useUpK a e m dead K = some r) : ∃ dead', K m dead' = some r := by
  unfold useUpK at h
  split at h
  · rename_i e'
    cases hb : Nat.beq e' e with
    | false => rw [hb] at h; cases h
    | true => rw [hb] at h; exact ⟨_, h⟩
  · rename_i p e'
    cases hb : (Nat.beq e' e && !hasP p dead) with
    | false => rw [hb] at h; cases h
    | true =>
      rw [hb, cond_true] at h
      cases p with
      | slot g => exact ⟨_, h⟩
      | cell k s i => exact absurd rfl (hno k s i e')
  · cases h
theorem append_mem {T : TypeId → Option Ty} {dst : Nat} {t t2 : TypeId} {s x : D} {m : Mem} {dead : List Pos} {p1 : D} {p2 : Mem} {p3 : List Pos} (hno : ∀ y k s' i e, s ≠ .v y (.own (.cell k s' i) e))
    (h : appendK T dst t t2 s x m dead (fun d m dd => some (d, m, dd)) = some (p1, p2, p3)) : p2 = m := by
  have fin : ∀ {a : Att} {e : TypeId} {b : Bool} {d : D}, (∀ k s p e', a ≠ .own (.cell k s p) e') → useUpK a e m dead (fun m' dead' => check b (some (d, m', dead'))) = some (p1, p2, p3) → p2 = m := by
    intro a e b d hn h
    obtain ⟨dd, h⟩ := useUp_mem hn h
    unfold check br at h
    cases b with
    | false => cases h
    | true =>
      rw [cond_true] at h
      injection h with h
      injection h with _ h
      injection h with h _
      exact h.symm
  unfold appendK at h
  split at h
  · split at h
    · split at h
      · split at h
        · cases h
        · split at h
          · rename_i xs a ys _ _ _
            split at h
            · cases hb : (Nat.beq _ _ && Nat.beq _ 1) with
              | false => rw [hb] at h; cases h
              | true => rw [hb, cond_true] at h; exact fin (fun k s p e' q => by subst q; exact hno _ _ _ _ _ rfl) h
            · cases h
          · split at h
            · cases hb : (Nat.beq _ _ && (Nat.beq _ _ && Nat.beq _ _)) with
              | false => rw [hb] at h; cases h
              | true => rw [hb, cond_true] at h; exact fin (fun k s p e' q => by subst q; exact hno _ _ _ _ _ rfl) h
            · cases h
          · split at h
            · cases hb : Nat.beq _ 1 with
              | false => rw [hb] at h; cases h
              | true => rw [hb, cond_true] at h; exact fin (fun k s p e' q => by subst q; exact hno _ _ _ _ _ rfl) h
            · cases h
          · cases h
      · cases h
    · cases h
  · cases h
/-- An append to a row that no cell owns leaves the variables alone. -/
theorem app_far {i : Oper} (hi : isApp i.op = true) {slots : List D} {m : Mem} {dead : List Pos} (hr : ∃ j y, argsOf i.op = [.tmp j, y] ∧ ∀ x k s p e, slots.getD j .any ≠ .v x (.own (.cell k s p) e)) {d : D} {m' : Mem} {dd : List Pos}
    (h : ∀ (R' : Type) (K' : St → Option R'), stepK cx ops i ⟨slots, m, dead⟩ K' = K' ⟨put slots i.dst d, m', dd⟩) : m' = m := by
  have h1 := h St some
  rw [stepK_eq] at h1
  cases hw : wants ops i slots with
  | none => rw [hw] at h1; cases h1
  | some b =>
    rw [hw] at h1
    cases b
    · simp only [actK, skipK_eq] at h1
      injection h1 with h2; injection h2 with _ h2 _; exact h2.symm
    · simp only [actK] at h1
      rw [takeK_eq i (by simp [notC, app_w cx hi])] at h1
      obtain ⟨c, hc, hcal⟩ := app_of hi
      obtain ⟨j, y, hargs, hno⟩ := hr
      have hrk : ∀ (R' : Type) (K' : Bool → D → Mem → List Pos → Option R'), runK cx i slots m dead K' = opK cx.T (i.dst.getD 0) i.type slots (.call c) m dead (K' false) := by
        intro R' K'; unfold runK; rw [hc]; simp only [hcal]
      rw [hrk, ← opK_b cx] at h1
      obtain ⟨p, h3, h4⟩ := bind_some h1
      injection h4 with h4; injection h4 with _ h4 _
      obtain ⟨p1, p2, p3⟩ := p
      simp only at h4; subst h4
      have ha : c.args.toList = [.tmp j, y] := by rw [hc] at hargs; exact hargs
      simp only [opK, hcal, ha, evK_eq] at h3
      have he : ∀ u, evalD cx.T slots u (.tmp j) = slots.getD j .any := fun u => by simp only [evalD]
      rcases hat : c.argTypes.toList with _ | ⟨t, _ | ⟨t2, _ | ⟨t3, rest⟩⟩⟩ <;> rw [hat] at h3
      · cases h3
      · cases h3
      · have h3 : appendK cx.T (i.dst.getD 0) t t2 (evalD cx.T slots t (.tmp j)) (evalD cx.T slots t2 y) m dead (fun d m dd => some (d, m, dd)) = some (p1, p2, p3) := h3
        rw [he] at h3
        exact append_mem hno h3
      · cases h3
/-- A store leaves the other variables alone. -/
theorem store_far {i : Oper} {t : TypeId} {j : Nat} {v : Operand} (hi : i.op = .store t (.tmp j) v) {slots : List D} {m : Mem} {dead : List Pos} {root : Nat} (hr : ∀ k q o, slots.getD j .any = .ptr k q o → k = 0 ∧ q = root) {d : D} {m' : Mem} {dd : List Pos}
    (h : ∀ (R' : Type) (K' : St → Option R'), stepK cx ops i ⟨slots, m, dead⟩ K' = K' ⟨put slots i.dst d, m', dd⟩) : ∀ k s, ¬ (k = 0 ∧ s = root) → m'.box? k s = m.box? k s := by
  have h1 := h St some
  rw [stepK_eq] at h1
  cases hw : wants ops i slots with
  | none => rw [hw] at h1; cases h1
  | some b =>
    rw [hw] at h1
    cases b
    · simp only [actK, skipK_eq] at h1
      injection h1 with h2; injection h2 with _ h2 _; subst h2
      exact fun _ _ _ => rfl
    · simp only [actK] at h1
      rw [takeK_eq i (by simp [notC, hi, clsOf])] at h1
      have hrk : ∀ (R' : Type) (K' : Bool → D → Mem → List Pos → Option R'), runK cx i slots m dead K' = opK cx.T (i.dst.getD 0) i.type slots (.store t (.tmp j) v) m dead (K' false) := by
        intro R' K'; unfold runK; rw [hi]
      rw [hrk, ← opK_b cx] at h1
      obtain ⟨p, h3, h4⟩ := bind_some h1
      injection h4 with h4; injection h4 with _ h4 _
      obtain ⟨p1, p2, p3⟩ := p
      simp only at h4; subst h4
      simp only [opK, evK_eq] at h3
      have he : evalD cx.T slots 0 (.tmp j) = slots.getD j .any := by simp only [evalD]
      rw [he] at h3
      unfold storeK at h3
      split at h3
      · split at h3
        · rename_i k s o hd
          obtain ⟨rfl, rfl⟩ := hr k s o hd
          split at h3
          · rename_i bx hbx
            cases hc : (Nat.beq (cellsOf (evalD cx.T slots t v)).length _ && Nat.ble _ bx.cells.length) with
            | false => rw [hc] at h3; cases h3
            | true =>
              rw [hc, cond_true] at h3
              obtain ⟨cs, d2, h3⟩ := cellsK_out _ _ _ _ _ h3
              rw [setRK_eq, memPutK_eq] at h3
              injection h3 with h3
              injection h3 with _ h3
              injection h3 with h3 _
              subst h3
              intro k' s' hne
              rw [box_set, if_neg (fun e => hne ⟨e.1, e.2.1⟩)]
          · cases h3
        · cases h3
      · cases h3
theorem load_far {x : Oper} {t : TypeId} {i : Nat} (hx : x.op = .load t (.tmp i)) {slots : List D} {m m' : Mem} {rx root : Nat} (hr : ∀ k q o, slots.getD i .any = .ptr k q o → k = 0 ∧ q = rx) (hne : rx ≠ root)
    (hm : ∀ k s, ¬ (k = 0 ∧ s = root) → m'.box? k s = m.box? k s) : valS cx ops x slots m' = valS cx ops x slots m := by
  unfold valS
  have he : evalD cx.T slots 0 (.tmp i) = slots.getD i .any := by simp only [evalD]
  rw [valR_load hx, valR_load hx, he]
  have : loadK cx.T t (slots.getD i .any) m' some = loadK cx.T t (slots.getD i .any) m some := by
    unfold loadK
    split
    · split
      · rename_i k s o hd
        obtain ⟨rfl, rfl⟩ := hr k s o hd
        rw [hm 0 s (fun e => hne e.2)]
      · rfl
      · rfl
    · rfl
  rw [this]
theorem swapF (hB : PureB cx) {x i : Oper} (ha : Apart ops cx x i) (hd : cx.dyn = true) (hf : farM ops x.op i.op = true) {slots : List D} {m : Mem} {dead : List Pos} (hrx : RootOK cx ops x.op slots) (hri : RootOK cx ops i.op slots) {K : St → Option R} {r : R}
    (h : stepK cx ops x ⟨slots, m, dead⟩ (fun s => stepK cx ops i s K) = some r) : stepK cx ops i ⟨slots, m, dead⟩ (fun s => stepK cx ops x s K) = some r := by
  have reads : ∀ {t : TypeId} {a : Nat}, x.op = .load t (.tmp a) → notC cx i.op = true → (∀ (d : D) (m' : Mem) (dd : List Pos), (∀ (R' : Type) (K' : St → Option R'), stepK cx ops i ⟨slots, m, dead⟩ K' = K' ⟨put slots i.dst d, m', dd⟩) → valS cx ops x slots m' = valS cx ops x slots m) →
      stepK cx ops i ⟨slots, m, dead⟩ (fun s => stepK cx ops x s K) = some r := by
    intro t a e1 hci hv
    have h1 : isVal cx x.op = true := by rw [e1]; rfl
    rw [step_val hB h1] at h
    obtain ⟨d, h3, h4⟩ := bind_some h
    rw [step_put ha.ab hci] at h4
    obtain ⟨e, m', dd, h5, h6⟩ := step_fun hB hci h4
    rw [h6 R fun s => stepK cx ops x s K]
    rw [step_val hB h1, put_away ha.ba, hv e m' dd h6, h3, Option.bind_some]
    exact h5
  have stores : ∀ {t : TypeId} {a : Nat}, i.op = .load t (.tmp a) → notC cx x.op = true → (∀ (d : D) (m' : Mem) (dd : List Pos), (∀ (R' : Type) (K' : St → Option R'), stepK cx ops x ⟨slots, m, dead⟩ K' = K' ⟨put slots x.dst d, m', dd⟩) → valS cx ops i slots m' = valS cx ops i slots m) →
      stepK cx ops i ⟨slots, m, dead⟩ (fun s => stepK cx ops x s K) = some r := by
    intro t a e2 hcx hv
    have h2 : isVal cx i.op = true := by rw [e2]; rfl
    obtain ⟨d, m', dd, h3, h4⟩ := step_fun hB hcx h
    rw [step_val hB h2, put_away ha.ab, hv d m' dd h4] at h3
    obtain ⟨e, h5, h6⟩ := bind_some h3
    rw [step_val hB h2, h5, Option.bind_some, step_put ha.ba hcx, h4]
    exact h6
  rcases far_cases hf with ⟨t, a, t', b, v, e1, e2, hne⟩ | ⟨t, a, t', b, v, e1, e2, hne⟩ | ⟨t, a, e1, e2⟩ | ⟨t, a, e1, e2⟩
  · -- x reads, i stores
    obtain ⟨j1, q1, r1⟩ := hrx.root hd _ (.inl ⟨t, e1⟩)
    obtain ⟨j2, q2, r2⟩ := hri.root hd _ (.inr ⟨t', v, e2⟩)
    injection q1 with q1; subst q1
    injection q2 with q2; subst q2
    exact reads e1 (by rw [e2]; rfl) fun d m' dd h6 => load_far e1 r1 hne (store_far e2 r2 h6)
  · -- x stores, i reads
    obtain ⟨j1, q1, r1⟩ := hrx.root hd _ (.inr ⟨t', v, e1⟩)
    obtain ⟨j2, q2, r2⟩ := hri.root hd _ (.inl ⟨t, e2⟩)
    injection q1 with q1; subst q1
    injection q2 with q2; subst q2
    exact stores e2 (by rw [e1]; rfl) fun d m' dd h4 => load_far e2 r2 hne (store_far e1 r1 h4)
  · -- x reads, i appends
    exact reads e1 (by unfold notC; rw [app_w cx e2]) fun d m' dd h6 => by rw [app_far e2 (hri.app hd e2) h6]
  · -- x appends, i reads
    exact stores e1 (by unfold notC; rw [app_w cx e2]) fun d m' dd h4 => by rw [app_far e2 (hrx.app hd e2) h4]
theorem root_same (cx : Cx) {x i : Oper} {slots : List D} {d : D} (hx : ∀ s, x.dst = some s → Away ops s i) {j : Nat} (hj : .tmp j ∈ i.op.operands.toList) : (En.put slots x.dst d).getD j .any = slots.getD j .any := by
  have h1 : (evalD cx.T (En.put slots x.dst d) 0 (.tmp j)) = evalD cx.T slots 0 (.tmp j) := by
    cases hxd : x.dst with
    | none => rfl
    | some y => exact evalD_set slots y _ 0 _ ((hx y hxd).reads _ hj)
  simpa only [evalD] using h1
theorem app_operand {op : Op} {j : Nat} {y : Operand} (h : isApp op = true) (ha : argsOf op = [.tmp j, y]) : Operand.tmp j ∈ op.operands.toList := by
  obtain ⟨c, rfl, hc⟩ := app_of h
  have ha : c.args.toList = [.tmp j, y] := ha
  have hm : Operand.tmp j ∈ c.args := by rw [← Array.mem_toList_iff, ha]; simp
  show Operand.tmp j ∈ c.operands.toList
  unfold Call.operands
  rw [hc, Array.mem_toList_iff]
  exact Array.mem_append.2 (.inr hm)
theorem RootOK.put {x i : Oper} {slots : List D} (h : RootOK cx ops i.op slots) (hx : ∀ s, x.dst = some s → Away ops s i) (d : D) : RootOK cx ops i.op (put slots x.dst d) := by
  refine ⟨fun hd z hz => ?_, fun hd ha => ?_⟩
  · obtain ⟨j, rfl, hj⟩ := h.root hd z hz
    refine ⟨j, rfl, fun k q o he => hj k q o ?_⟩
    rw [← he]
    refine (root_same cx hx ?_).symm
    rcases hz with ⟨t, e⟩ | ⟨t, v, e⟩ <;> rw [e] <;> simp [Op.operands]
  · obtain ⟨j, y, e, hj⟩ := h.app hd ha
    refine ⟨j, y, e, fun x' k s p e' he => hj x' k s p e' ?_⟩
    rw [← he]
    exact (root_same cx hx (app_operand ha e)).symm
theorem RootOK.unput {x i : Oper} {slots : List D} {d : D} (h : RootOK cx ops i.op (En.put slots x.dst d)) (hx : ∀ s, x.dst = some s → Away ops s i) : RootOK cx ops i.op slots := by
  refine ⟨fun hd z hz => ?_, fun hd ha => ?_⟩
  · obtain ⟨j, rfl, hj⟩ := h.root hd z hz
    refine ⟨j, rfl, fun k q o he => hj k q o ?_⟩
    rw [← he]
    refine root_same cx hx ?_
    rcases hz with ⟨t, e⟩ | ⟨t, v, e⟩ <;> rw [e] <;> simp [Op.operands]
  · obtain ⟨j, y, e, hj⟩ := h.app hd ha
    refine ⟨j, y, e, fun x' k s p e' he => hj x' k s p e' ?_⟩
    rw [← he]
    exact root_same cx hx (app_operand ha e)
theorem apart_notC {x i : Oper} (ha : Apart ops cx x i) : notC cx x.op = true ∧ notC cx i.op = true := by
  rcases ha.cls with h | ⟨_, h⟩
  · obtain ⟨h1, h2, _⟩ := cls_cases h; exact ⟨h1, h2⟩
  · rcases far_cases h with ⟨t, a, t', b, v, e1, e2, _⟩ | ⟨t, a, t', b, v, e1, e2, _⟩ | ⟨t, a, e1, e2⟩ | ⟨t, a, e1, e2⟩
    · rw [e1, e2]; exact ⟨rfl, rfl⟩
    · rw [e1, e2]; exact ⟨rfl, rfl⟩
    · rw [e1]; exact ⟨rfl, by unfold notC; rw [app_w cx e2]⟩
    · rw [e1]; exact ⟨by unfold notC; rw [app_w cx e2], rfl⟩
/-- What the run of the text says of an operation that comes later. -/
theorem root_ahead (hB : PureB cx) {i : Oper} {K : St → Option R} {r : R} (B : List Oper) : ∀ (A : List Oper) (slots : List D) (m : Mem) (dead : List Pos), (∀ x ∈ A, Apart ops cx x i) → opsK cx ops (A ++ i :: B) ⟨slots, m, dead⟩ K = some r → RootOK cx ops i.op slots
  | [], slots, m, dead, _, h => (rootK_some h).1
  | x :: A, slots, m, dead, hA, h => by
    simp only [List.cons_append, opsK] at h
    obtain ⟨_, h⟩ := rootK_some h
    have hax := hA x (by simp)
    obtain ⟨d, m', dd, h1, _⟩ := step_fun hB (apart_notC hax).1 h
    exact (root_ahead hB B A _ _ _ (fun y hy => hA y (by simp [hy])) h1).unput hax.ab
/-- An operation comes ahead of all that are apart from it. -/
theorem bubble (hB : PureB cx) {i : Oper} {K : St → Option R} {r : R} (B : List Oper) : ∀ (A : List Oper) (slots : List D) (m : Mem) (dead : List Pos), (∀ x ∈ A, Apart ops cx x i) → Good cx i slots m →
    opsK cx ops (A ++ i :: B) ⟨slots, m, dead⟩ K = some r → stepK cx ops i ⟨slots, m, dead⟩ (fun s => opsK cx ops (A ++ B) s K) = some r
  | [], slots, m, dead, _, _, h => (rootK_some h).2
  | x :: A, slots, m, dead, hA, hg, h => by
    have hri := root_ahead hB B (x :: A) slots m dead hA h
    simp only [List.cons_append, opsK] at h ⊢
    obtain ⟨hrx, h⟩ := rootK_some h
    have hax := hA x (by simp)
    obtain ⟨hcx, hci⟩ := apart_notC hax
    obtain ⟨d, m', dd, h1, h2⟩ := step_fun hB hcx h
    have hgood : Good cx i (put slots x.dst d) m' := by
      by_cases hl : ∃ t z, i.op = .load t z
      · obtain ⟨t, z, hz⟩ := hl
        rcases hax.cls with hcl2 | ⟨hdy, hfar⟩
        · refine hg.put hax.ab (step_grown hB ?_ h2) d
          have : clsOf cx i.op = .r := by rw [hz]; rfl
          rw [this] at hcl2
          unfold isVal isA
          cases hc : clsOf cx x.op <;> rw [hc] at hcl2 <;> simp [clash2] at hcl2 ⊢
        · rcases far_cases hfar with ⟨t1, a, t', b, v, e1, e2, hne⟩ | ⟨t1, a, t', b, v, e1, e2, hne⟩ | ⟨t1, a, e1, e2⟩ | ⟨t1, a, e1, e2⟩
          · rw [hz] at e2; cases e2
          rotate_left
          · rw [app_load hz] at e2; cases e2
          · intro t3 z3 hz3 k s o he
            rw [app_far e2 (hrx.app hdy e2) h2]
            refine hg t3 _ hz3 k s o ?_
            rw [← he]
            cases hxd : x.dst with
            | none => rfl
            | some y => exact (evalD_set slots y _ 0 _ ((hax.ab y hxd).reads _ (by rw [hz3]; simp [Op.operands]))).symm
          · obtain ⟨j1, q1, r1⟩ := hrx.root hdy _ (.inr ⟨t', v, e1⟩)
            injection q1 with q1; subst q1
            intro t3 z3 hz3 k s o he
            rw [hz3] at e2; injection e2 with _ e2; subst e2
            have hri2 := (hri.put hax.ab d)
            obtain ⟨j2, q2, r2⟩ := hri2.root hdy _ (.inl ⟨t3, hz3⟩)
            injection q2 with q2; subst q2
            obtain ⟨rfl, rfl⟩ := r2 k s o (by simpa only [evalD] using he)
            rw [store_far e1 r1 h2 _ _ (fun e => hne e.2)]
            refine hg t3 _ hz3 0 _ o ?_
            rw [← he]
            cases hxd : x.dst with
            | none => rfl
            | some y => exact (evalD_set slots y _ 0 _ ((hax.ab y hxd).reads _ (by rw [hz3]; simp [Op.operands]))).symm
      · intro t z hz
        exact absurd ⟨t, z, hz⟩ hl
    have h3 := bubble hB B A _ _ _ (fun y hy => hA y (by simp [hy])) hgood h1
    have h4 : stepK cx ops i ⟨slots, m, dead⟩ (fun s => stepK cx ops x s fun s' => opsK cx ops (A ++ B) s' K) = some r := by
      rcases hax.cls with hcl2 | ⟨hdy, hfar⟩
      · exact swap1 hB hax hcl2 hg (by rw [h2]; exact h3)
      · exact swapF hB hax hdy hfar hrx hri (by rw [h2]; exact h3)
    obtain ⟨e, m2, d2, h5, h6⟩ := step_fun hB hci h4
    rw [h6]
    show rootK cx ops x.op (put slots i.dst e) _ = some r
    rw [rootK_of (hrx.put hax.ba e)]
    exact h5
/-- What is still to do. -/
def todo (listed : Array Bool) : Nat → List Oper → List Oper
  | _, [] => []
  | k, o :: r => cond (listed.getD k false) (todo listed (k + 1) r) (o :: todo listed (k + 1) r)
theorem todo_split {listed : Array Bool} : ∀ (l : List Oper) (k i : Nat) (o : Oper), l[i]? = some o → listed.getD (k + i) true = false →
    ∃ A B, todo listed k l = A ++ o :: B ∧ todo (listed.setIfInBounds (k + i) true) k l = A ++ B ∧ ∀ x ∈ A, ∃ j, j < i ∧ l[j]? = some x ∧ listed.getD (k + j) false = false
  | [], k, i, o, h, _ => by simp at h
  | x :: r, k, 0, o, h, hn => by
    simp at h; subst h
    have hlt : k < listed.size := by
      rcases Nat.lt_or_ge k listed.size with h' | h'
      · exact h'
      · simp [Array.getD_eq_getD_getElem?, Array.getElem?_eq_none h'] at hn
    have hn' : listed.getD k false = false := by
      simp only [Nat.add_zero] at hn
      rw [Array.getD_eq_getD_getElem?, Array.getElem?_eq_getElem hlt] at hn ⊢; exact hn
    refine ⟨[], todo listed (k + 1) r, ?_, ?_, fun x hx => by cases hx⟩
    · simp [todo, hn']
    · have h1 : (listed.setIfInBounds (k + 0) true).getD k false = true := by simp [Array.getD_eq_getD_getElem?, hlt]
      have h2 : ∀ (l : List Oper) (k' : Nat), k < k' → todo (listed.setIfInBounds (k + 0) true) k' l = todo listed k' l := by
        intro l
        induction l with
        | nil => intro k' _; rfl
        | cons y l ih =>
          intro k' hk
          unfold todo
          rw [getD_set_ne false (by omega), ih (k' + 1) (by omega)]
      have h3 : todo (listed.setIfInBounds (k + 0) true) k (x :: r) = cond ((listed.setIfInBounds (k + 0) true).getD k false) (todo (listed.setIfInBounds (k + 0) true) (k + 1) r) (x :: todo (listed.setIfInBounds (k + 0) true) (k + 1) r) := rfl
      rw [h3, h1, cond_true, h2 r (k + 1) (by omega)]
      rfl
  | x :: r, k, i + 1, o, h, hn => by
    obtain ⟨A, B, h1, h2, h3⟩ := todo_split (listed := listed) r (k + 1) i o (by simpa using h) (by rw [show k + 1 + i = k + (i + 1) by omega]; exact hn)
    rw [show k + 1 + i = k + (i + 1) by omega] at h2
    have hs : (listed.setIfInBounds (k + (i + 1)) true).getD k false = listed.getD k false := getD_set_ne false (by omega)
    unfold todo
    rw [hs]
    cases hx : listed.getD k false with
    | true =>
      refine ⟨A, B, by rw [cond_true]; exact h1, by rw [cond_true]; exact h2, fun y hy => ?_⟩
      obtain ⟨j, a1, a2, a3⟩ := h3 y hy
      exact ⟨j + 1, by omega, by simpa using a2, by rw [show k + (j + 1) = k + 1 + j by omega]; exact a3⟩
    | false =>
      refine ⟨x :: A, B, by rw [cond_false, h1]; rfl, by rw [cond_false, h2]; rfl, fun y hy => ?_⟩
      rcases List.mem_cons.1 hy with rfl | hy
      · exact ⟨0, by omega, by simp, hx⟩
      · obtain ⟨j, a1, a2, a3⟩ := h3 y hy
        exact ⟨j + 1, by omega, by simpa using a2, by rw [show k + (j + 1) = k + 1 + j by omega]; exact a3⟩
theorem todo_all {listed : Array Bool} : ∀ (l : List Oper) (k : Nat), (∀ i, i < l.length → listed.getD (k + i) false = true) → todo listed k l = []
  | [], _, _ => rfl
  | x :: r, k, h => by
    unfold todo
    rw [show listed.getD k false = true from h 0 (by simp), cond_true]
    exact todo_all r (k + 1) fun i hi => by rw [show k + 1 + i = k + (i + 1) by omega]; exact h (i + 1) (by simp; omega)
theorem todo_none {listed : Array Bool} : ∀ (l : List Oper) (k : Nat), (∀ i, i < l.length → listed.getD (k + i) false = false) → todo listed k l = l
  | [], _, _ => rfl
  | x :: r, k, h => by
    unfold todo
    rw [show listed.getD k false = false from h 0 (by simp), cond_false, todo_none r (k + 1) fun i hi => by rw [show k + 1 + i = k + (i + 1) by omega]; exact h (i + 1) (by simp; omega)]
def done (listed : Array Bool) : Nat := listed.toList.countP (· = true)
theorem done_set {listed : Array Bool} {i : Nat} (hi : i < listed.size) (h : listed.getD i true = false) : done (listed.setIfInBounds i true) = done listed + 1 := by
  have hf : listed[i] = false := by rw [Array.getD_eq_getD_getElem?, Array.getElem?_eq_getElem hi] at h; simpa using h
  unfold done
  rw [Array.toList_setIfInBounds]
  have hl : listed.toList = listed.toList.take i ++ listed.toList[i]'(by simpa using hi) :: listed.toList.drop (i + 1) := by
    conv => lhs; rw [← List.take_append_drop i listed.toList, List.drop_eq_getElem_cons (by simpa using hi)]
  rw [List.set_eq_take_append_cons_drop, if_pos (by simpa using hi)]
  conv => rhs; rw [hl]
  simp [List.countP_append, hf]
  omega
theorem done_le (listed : Array Bool) : done listed ≤ listed.size := by
  unfold done; rw [← Array.length_toList]; exact List.countP_le_length
end

section
variable {R : Type} {P : Program} {E : Env} {g : G} {w : World} {cx : Cx} {ops : Array Oper}
theorem Sim.good {i : Oper} {slots : List D} {m : Mem} {dead : List Pos} {a : Act} (hs : Sim cx.T E g w ⟨slots, m, dead⟩ a) : Good cx i slots m := by
  intro t z _ k s o he
  have h := hs.slots.ev (T := cx.T) 0 z
  rw [he] at h
  generalize a.eval z = v at h
  cases h with
  | ptr k s o hk hd =>
    rw [hs.here.dom] at hd
    exact hd
theorem Sim.drew {st : St} {a : Act} (hs : Sim cx.T E g w st a) : ∃ g', Sim cx.T E g' w.drew st a ∧ Tr E.d g w g' w.drew :=
  ⟨g.at_ w.heap.size .imm, ⟨here_grow (Grows.drew w) (Nat.le_refl _) _ hs.here, fun s x hx => (hs.slots s x hx).keep (keeps_grow (Grows.drew w) (Nat.le_refl _) _), hs.size, hs.defers⟩, tr_grow (Grows.drew w) (Nat.le_refl _) _ _⟩
theorem any_sound (hcx : CxOK P cx) {acc : List Nat} (ho : Ordered ops cx ops.toList acc) {n : Nat} {K : St → Option R} {r : R} {Q : Exit → Act → World → Prop} :
    ∀ (fuel : Nat) (listed : Array Bool) (st : St) (a : Act) (w : World) (E : Env) (g : G), fuel + done listed = ops.size → listed.size = ops.size →
      (∀ (i : Nat) o, ops.toList[i]? = some o → listed.getD i false = true → ∀ e ∈ o.after, Region.binds .any e = true → listed.getD e.on false = true) →
      Sim cx.T E g w st a → a.tmps.size = n → opsK cx ops (todo listed 0 ops.toList) st K = some r →
      (∀ st' a' w', K st' = some r → Then cx.T E g w n st' a' w' → Q .normal a' w') → wpAny P .any ops Q fuel listed a w := by
  have hdone : ∀ (listed : Array Bool), listed.size = ops.size → Region.ready .any ops listed = [] → ∀ j, j < ops.size → listed.getD j false = true := by
    intro listed hsz hr j
    induction j using Nat.strongRecOn with
    | _ j ih =>
      intro hj
      have hoj : ops[j]? = some ops[j] := Array.getElem?_eq_getElem hj
      have hjl : j < listed.size := by rw [hsz]; exact hj
      cases hl : listed.getD j false with
      | true => rfl
      | false =>
        have : j ∈ Region.ready .any ops listed := mem_ready.2 ⟨by
          rw [Array.getD_eq_getD_getElem?, Array.getElem?_eq_getElem hjl] at hl ⊢; exact hl, _, hoj, fun e he hb => by
          have hlt := ho.back j _ (by simp) e he hb
          exact ih e.on hlt (by omega)⟩
        rw [hr] at this; cases this
  have hfin : ∀ (listed : Array Bool) (st : St) (a : Act) (w : World) (E : Env) (g : G), (∀ j, j < ops.size → listed.getD j false = true) → Sim cx.T E g w st a → a.tmps.size = n → opsK cx ops (todo listed 0 ops.toList) st K = some r →
      (∀ st' a' w', K st' = some r → Then cx.T E g w n st' a' w' → Q .normal a' w') → Q .normal a w := by
    intro listed st a w E g hall hs hn h hq
    rw [todo_all ops.toList 0 (fun i hi => by rw [Nat.zero_add]; exact hall i (by rw [← Array.length_toList]; exact hi))] at h
    exact hq st a w h ⟨E, g, hs, rfl, Tr.refl _ _ _, hn⟩
  intro fuel
  induction fuel with
  | zero =>
    intro listed st a w E g hm hsz hcl hs hn h hq
    have hall : ∀ j, j < ops.size → listed.getD j false = true := by
      intro j hj
      have hjl : j < listed.size := by rw [hsz]; exact hj
      cases hl : listed.getD j false with
      | true => rfl
      | false =>
        have h1 := done_set (listed := listed) hjl (by rw [Array.getD_eq_getD_getElem?, Array.getElem?_eq_getElem hjl] at hl ⊢; exact hl)
        have h2 := done_le (listed.setIfInBounds j true)
        rw [Array.size_setIfInBounds, hsz] at h2
        omega
    refine ⟨?_, hfin listed st a w E g hall hs hn h hq⟩
    rcases hr : Region.ready .any ops listed with _ | ⟨j, l⟩
    · rfl
    · have hj : j ∈ Region.ready .any ops listed := by rw [hr]; exact List.mem_cons_self
      obtain ⟨hun, o, hoj, _⟩ := mem_ready.1 hj
      have hjs : j < ops.size := (Array.getElem?_eq_some_iff.1 hoj).1
      have h1 := hall j hjs
      have hjl : j < listed.size := by rw [hsz]; exact hjs
      rw [Array.getD_eq_getD_getElem?, Array.getElem?_eq_getElem hjl] at hun h1
      simp only [Option.getD_some] at hun h1
      rw [hun] at h1; cases h1
  | succ fuel ih =>
    intro listed st a w E g hm hsz hcl hs hn h hq
    refine ⟨fun hr => hfin listed st a w E g (hdone listed hsz hr) hs hn h hq, fun i hi => ?_⟩
    obtain ⟨hun, o, hoi, hrd⟩ := mem_ready.1 hi
    have his : i < ops.size := (Array.getElem?_eq_some_iff.1 hoi).1
    have hol : ops.toList[i]? = some o := by simpa using hoi
    obtain ⟨A, B, h1, h2, h3⟩ := todo_split (listed := listed) ops.toList 0 i o hol (by rw [Nat.zero_add]; exact hun)
    rw [Nat.zero_add] at h2
    rw [h1] at h
    obtain ⟨slots, m, dead⟩ := st
    have hap : ∀ x ∈ A, Apart ops cx x o := by
      intro x hx
      obtain ⟨j, b1, b2, b3⟩ := h3 x hx
      rw [Nat.zero_add] at b3
      rcases ho.pair i j o x hol b2 b1 with hb | hb
      · have := ho.ahead (fun k => listed.getD k false = true) (fun k y hy hk e he hbd => hcl k y hy hk e he hbd) i o hol (fun e he hbd => hrd e he hbd) j hb
        rw [b3] at this; cases this
      · exact hb
    have h4 := bubble hcx.B B A slots m dead hap hs.good h
    rw [← h2] at h4
    have hnext : ∀ (st' : St) (a' : Act) (w' : World) (E' : Env) (g' : G), opsK cx ops (todo (listed.setIfInBounds i true) 0 ops.toList) st' K = some r → Sim cx.T E' g' w' st' a' → E'.d = E.d → Tr E.d g w g' w' → a'.tmps.size = n → wpAny P .any ops Q fuel (listed.setIfInBounds i true) a' w' := by
      intro st' a' w' E' g' c1 c2 c3 c4 c5
      refine ih _ st' a' w' E' g' (by rw [done_set (by rw [hsz]; exact his) hun]; omega) (by simpa using hsz) (fun k y hy hk e he hbd => ?_) c2 c5 c1 fun st2 a2 w2 d1 d2 => hq st2 a2 w2 d1 (d2.trans c3 c4)
      have hset : ∀ k, (listed.setIfInBounds i true).getD k false = true ↔ k = i ∨ listed.getD k false = true := by
        intro k
        by_cases hki : k = i
        · subst hki; simp [Array.getD_eq_getD_getElem?, hsz, his]
        · rw [getD_set_ne false (Ne.symm hki)]; simp [hki]
      rcases (hset k).1 hk with rfl | hk
      · rw [hol] at hy; injection hy with hy; subst hy
        exact (hset _).2 (.inr (hrd e he hbd))
      · exact (hset _).2 (.inr (hcl k y hy hk e he hbd))
    unfold Go.wpOp
    simp only [hoi]
    rcases step_sound hcx hs h4 with ⟨hw, st', c1, c2⟩ | ⟨hw, st', c1, c2⟩
    · rw [if_pos hw]
      refine .inl ((c2 (fun v w' => ∃ E' g', Sim cx.T E' g' w' st' (a.put o.dst v) ∧ E'.d = E.d ∧ Tr E.d g w g' w') (fun v w' g' E' b1 b2 b3 => ⟨E', g', b1, b2, b3⟩)).2 _ Q ?_)
      rintro v w' ⟨E', g', b1, b2, b3⟩
      exact hnext st' _ w' E' g' c1 b1 b2 b3 (by rw [actput_size]; exact hn)
    · rw [hw]
      simp only [Bool.false_eq_true, if_false]
      exact hnext st' _ w E g c1 c2 rfl (Tr.refl _ _ _) (by rw [actput_size]; exact hn)
/-- **A region that draws its order.** -/
theorem region_ok (hm : P.follows .mixedOrders = true) (hcx : CxOK P cx) (h : orderB cx ops = true) : RegionOK P cx ops := by
  intro R n id st a w E g K r Q hs hn hk hq
  obtain ⟨acc, ho⟩ := ordered_of h
  obtain ⟨g1, h1, h2⟩ := hs.drew
  have hf : ∀ i, (Array.replicate ops.size false).getD i false = false := by
    intro i
    rw [Array.getD_eq_getD_getElem?]
    rcases Nat.lt_or_ge i ops.size with hi | hi
    · rw [Array.getElem?_replicate, if_pos hi]; rfl
    · rw [Array.getElem?_replicate, if_neg (by omega)]; rfl
  refine wp_region_any hm (any_sound hcx ho (n := n) (K := K) (r := r) ops.size _ st a w.drew E g1 ?_ (by simp) (fun i o _ hi => ?_) h1 hn ?_ fun st' a' w' c1 c2 => hq st' a' w' c1 (c2.trans rfl h2))
  · simp [done, List.countP_replicate]
  · rw [hf] at hi; cases hi
  · rw [todo_none ops.toList 0 (fun i hi => hf _)]; exact hk
end
end Go.Proofs.YtjpmogajlnkihaaDoor.En

/- The engine, part 2a: bodies of functions; functions that touch nothing of what was there. -/
namespace Go.Proofs.YtjpmogajlnkihaaDoor.En
open Go
set_option linter.unusedVariables false
section
variable {R : Type} {P : Program} {E : Env} {g : G} {w : World} {cx : Cx}

theorem bare0 {dead dead' : List Pos} {x : D} {v : Value} (h : RepD E g w dead x v) : RepD E g w dead' x.bare v := by
  induction h with
  | v x a v h ha => exact .v _ _ _ h trivial
  | ptr k s o h1 h2 => exact .ptr k s o h1 h2
  | nilp => exact .nilp
  | eptr cs o b off us h hr => exact .eptr cs o b off us h hr
  | clos f caps us hn' hr ih =>
    refine .clos f _ us (by rw [bares_length]; exact hn') fun k y hy => ?_
    obtain ⟨z, hz, rfl⟩ := bares_get _ k y hy
    exact ih k z hz
  | nilF => exact .nilF
  | bld => exact .bld
  | agg ds us hn' hr ih =>
    refine .agg _ us (by rw [bares_length]; exact hn') fun k y hy => ?_
    obtain ⟨z, hz, rfl⟩ := bares_get _ k y hy
    exact ih k z hz
  | tup ds us hn' hr ih =>
    refine .tup _ us (by rw [bares_length]; exact hn') fun k y hy => ?_
    obtain ⟨z, hz, rfl⟩ := bares_get _ k y hy
    exact ih k z hz
  | any v => exact .any v
theorem blankK_eq : ∀ (n : Nat) (K : List D → Option R), blankK n K = K (List.replicate n .any)
  | 0, K => rfl
  | n + 1, K => by simp only [blankK, blankK_eq n, List.replicate_succ]
theorem padK_eq : ∀ (ds : List D) (n : Nat) (K : List D → Option R), padK n ds K = K (ds ++ List.replicate (n - ds.length) .any)
  | [], n, K => by simp only [padK, blankK_eq]; rfl
  | d :: ds, n, K => by
    simp only [padK, padK_eq ds, List.cons_append, List.length_cons]
    rw [show n - 1 - ds.length = n - (ds.length + 1) by omega]
/-- A result's value. -/
def resOf (tmps : Array Value) : ResultVar → Sem Value
  | .tmp t => pure (tmps.getD t undef)
  | .cell a t => do loadVar t (← asAddr (tmps.getD a undef))
theorem results_eq (fn : Func) (tmps : Array Value) : results fn tmps = (do
    let vs ← fn.results.mapM (resOf tmps)
    pure (if h : vs.size = 1 then vs[0] else .tuple vs)) := rfl
theorem retV_eq (us : List Value) : (if h : us.toArray.size = 1 then us.toArray[0] else .tuple us.toArray) = retV us := by
  match us with
  | [] => rfl
  | [u] => rfl
  | u :: u' :: us => simp [retV]
theorem loadAt_ptr {t : TypeId} {u v : Value} {w' : World} (h : (Instr.loadAt t u).run P w = .ok v w') : (do loadVar t (← asAddr u)).run P w = .ok v w' := by
  unfold Instr.loadAt at h
  rw [Sem.run_bind] at h ⊢
  cases u with
  | pointer x =>
    cases x with
    | some a => exact h
    | none => simp [Instr.sureAddr] at h
  | _ => simp [Instr.sureAddr] at h
theorem retK_sound (hT : TypesOK P cx.T) {st : St} {a : Act} (hs : Sim cx.T E g w st a) (x : ResultVar) {K : D → Option R} {r : R} (h : retK cx x st K = some r) :
    ∃ d u, K d = some r ∧ (resOf a.tmps x).run P w = .ok u w ∧ RepD E g w [] d u := by
  cases x with
  | tmp t =>
    simp only [retK, getK_eq, forceD_eq] at h
    refine ⟨_, _, h, rfl, ?_⟩
    have := hs.slots.ev (T := cx.T) 0 (.tmp t)
    exact bare0 this
  | cell p ty =>
    simp only [retK, getK_eq] at h
    rw [← loadK_b] at h
    obtain ⟨d, h1, h2⟩ := bind_some h
    rw [forceD_eq] at h2
    have hp := hs.slots.ev (T := cx.T) 0 (.tmp p)
    obtain ⟨v, h3, h4⟩ := loadK_sound (P := P) hT ty _ _ hp hs.here.mem d h1
    refine ⟨_, v, h2, ?_, bare0 h4⟩
    exact loadAt_ptr h3
theorem retsK_sound (hT : TypesOK P cx.T) {st : St} {a : Act} (hs : Sim cx.T E g w st a) : ∀ (l : List ResultVar) (K : List D → Option R) (r : R), retsK cx l st K = some r →
    ∃ rs us, K rs = some r ∧ (l.mapM (resOf a.tmps)).run P w = .ok us w ∧ RepDs E g w [] rs us
  | [], K, r, h => ⟨[], [], h, by simp, rfl, fun k y hk => by simp at hk⟩
  | x :: l, K, r, h => by
    simp only [retsK] at h
    obtain ⟨d, u, h1, h2, h3⟩ := retK_sound hT hs x h
    obtain ⟨rs, us, h4, h5, h6, h7⟩ := retsK_sound hT hs l _ r h1
    refine ⟨d :: rs, u :: us, h4, ?_, by simp [h6], fun k y hk => ?_⟩
    · rw [List.mapM_cons]
      simp only [Sem.run_bind, h2, Result.andThen_ok, h5, Sem.run_pure]
    · rcases k with _ | k
      · simp at hk; subst hk; simpa using h3
      · simpa using h7 k y (by simpa using hk)
theorem results_run (hT : TypesOK P cx.T) {st : St} {a : Act} (hs : Sim cx.T E g w st a) (fn : Func) {K : List D → Option R} {r : R} (h : retsK cx fn.results.toList st K = some r) :
    ∃ rs us, K rs = some r ∧ (results fn a.tmps).run P w = .ok (retV us) w ∧ RepDs E g w [] rs us := by
  obtain ⟨rs, us, h1, h2, h3⟩ := retsK_sound hT hs _ K r h
  refine ⟨rs, us, h1, ?_, h3⟩
  rw [results_eq, Array.mapM_eq_mapM_toList]
  simp only [Sem.run_bind, map_eq_pure_bind, h2, Result.andThen_ok, Sem.run_pure]
  exact congrArg (fun v => Result.ok v w) (retV_eq us)
/-- A function's body. -/
theorem body_sound (hcx : CxOK P cx) {f : FuncId} {fn : Func} {c : Code} (hf : P.funcs[f]? = some fn) (hb : fn.body = some c) (hro : RegionsOK P cx c) (hl : LoopsOK cx fn.ntmps c)
    {ds : List D} {us : List Value} (hargs : ds.length ≤ fn.ntmps) {m : Mem} (hh : Here cx.T E g w ([] :: m)) (hr : RepDs E g w [] ds us) {K : List D → Mem → Option R} {r : R} (h : bodyK cx fn ds m K = some r)
    {post : Ending → World → Prop} (hq : ∀ rs us' m' E' g' w', K rs m' = some r → Here cx.T E' g' w' m' → RepDs E' g' w' [] rs us' → E'.d = E.d → Tr E.d g w g' w' → post (.returned (retV us')) w') :
    Calls P f us.toArray w post := by
  refine calls_of_wp hf hb ?_
  unfold bodyK at h
  rw [hb] at h
  simp only [padK_eq] at h
  have hsim : Sim cx.T E g w ⟨ds ++ List.replicate (fn.ntmps - ds.length) .any, [] :: m, []⟩ { tmps := us.toArray ++ Array.replicate (fn.ntmps - us.toArray.size) undef, defers := [] } := by
    refine ⟨hh, fun s x hx => ?_, by simp [hr.1], rfl⟩
    rcases Nat.lt_or_ge s ds.length with hlt | hge
    · rw [List.getElem?_append_left hlt] at hx
      have := hr.2 s x hx
      have e : (us.toArray ++ Array.replicate (fn.ntmps - us.toArray.size) undef).getD s undef = us.getD s undef := by
        rw [Array.getD_eq_getD_getElem?, Array.getElem?_append_left (by simp [hr.1]; exact hlt), List.getD_eq_getElem?_getD]; simp
      rw [e]; exact this
    · rw [List.getElem?_append_right hge, List.getElem?_replicate] at hx
      split at hx
      · injection hx with hx; subst hx; exact .any _
      · cases hx
  refine (code_ok hcx c hro).1 _ fn.ntmps _ _ w E g _ r _ hl hsim (by simp [hr.1]; omega) h fun e st' a' w' hk ht => ?_
  obtain ⟨E', g', b1, b2, b3, b4⟩ := ht
  have fin : (retsK cx fn.results.toList st' fun rs => K rs st'.mem) = some r → ∃ v, (results fn a'.tmps).run P w' = .ok v w' ∧ post (.returned v) w' := by
    intro hk
    obtain ⟨rs, us', c1, c2, c3⟩ := results_run hcx.T b1 fn hk
    exact ⟨_, c2, hq rs us' st'.mem E' g' w' c1 b1.here c3 b2 b3⟩
  cases e with
  | normal => exact ⟨b1.defers, fin hk⟩
  | ret => exact ⟨b1.defers, fin hk⟩
  | exit i => cases hk
  | goto l => cases hk

/-! Functions that touch nothing of what was there -/
def Perm.hid : Perm → Perm
  | .imm => .imm
  | .low n => .low n
  | .own _ n => .low n
  | .box _ _ => .low 0
def G.hide (g : G) : G := { g with Γ := fun b => (g.Γ b).hid }
def G.settle (g : G) (n : Nat) (g' : G) : G := { g with Γ := fun b => if b < n then g.Γ b else (g'.Γ b).hid }
theorem hid_still (p : Perm) : p.hid.still = true := by cases p <;> rfl
theorem hid_perm (p : Perm) : p.hid = .imm ∨ ∃ n, p.hid = .low n := by cases p <;> simp [Perm.hid]
theorem stable_hide (g : G) (b o : Nat) : Stable g.hide b o ↔ Stable g b o := by
  unfold Stable G.hide
  simp only
  cases g.Γ b <;> simp [Perm.hid]
theorem stable_settle {g g' : G} {n b o : Nat} (h : Stable g' b o) (hold : b < n → g'.Γ b = g.hide.Γ b) : Stable (g.settle n g') b o := by
  unfold Stable G.settle
  simp only
  by_cases hb : b < n
  · rw [if_pos hb]
    have : Stable g.hide b o := by unfold Stable at h ⊢; rw [hold hb] at h; exact h
    exact (stable_hide g b o).1 this
  · rw [if_neg hb]
    have := (stable_hide g' b o).2 h
    exact this
/- Data that point to no variable. -/
mutual
def D.far : D → Bool
  | .ptr _ _ _ => false
  | .clos _ caps => fars caps
  | .agg ds => fars ds
  | .tup ds => fars ds
  | _ => true
def fars : List D → Bool
  | [] => true
  | d :: ds => d.far && fars ds
end
theorem fars_get : ∀ (ds : List D), fars ds = true → ∀ (i : Nat) y, ds[i]? = some y → y.far = true
  | [], _, i, y, h => by simp at h
  | d :: ds, h, 0, y, hy => by simp only [fars, Bool.and_eq_true] at h; simp at hy; subst hy; exact h.1
  | d :: ds, h, i + 1, y, hy => by simp only [fars, Bool.and_eq_true] at h; exact fars_get ds h.2 i y (by simpa using hy)
theorem RepD.far_ {E' : Env} {g' : G} {w' : World} {dead dead' : List Pos} (hl : Later g w g' w') {x : D} {v : Value} (h : RepD E g w dead x v) : x.far = true → RepD E' g' w' dead' x.bare v := by
  induction h with
  | v x a v h ha => exact fun _ => .v _ _ _ (h.later hl) trivial
  | ptr k s o h1 h2 => intro hf; cases hf
  | nilp => exact fun _ => .nilp
  | eptr cs o b off us h hr => exact fun _ => .eptr cs o b off us (fun k y hy => hl.st _ _ _ (h k y hy).1 (h k y hy).2) (fun k y hy => (hr k y hy).later hl)
  | clos f caps us hn' hr ih =>
    intro hf
    refine .clos f _ us (by rw [bares_length]; exact hn') fun k y hy => ?_
    obtain ⟨z, hz, rfl⟩ := bares_get _ k y hy
    exact ih k z hz (fars_get _ hf k z hz)
  | nilF => exact fun _ => .nilF
  | bld => exact fun _ => .bld
  | agg ds us hn' hr ih =>
    intro hf
    refine .agg _ us (by rw [bares_length]; exact hn') fun k y hy => ?_
    obtain ⟨z, hz, rfl⟩ := bares_get _ k y hy
    exact ih k z hz (fars_get _ hf k z hz)
  | tup ds us hn' hr ih =>
    intro hf
    refine .tup _ us (by rw [bares_length]; exact hn') fun k y hy => ?_
    obtain ⟨z, hz, rfl⟩ := bares_get _ k y hy
    exact ih k z hz (fars_get _ hf k z hz)
  | any v => exact fun _ => .any v
theorem RepDs.far_ {E' : Env} {g' : G} {w' : World} {dead dead' : List Pos} (hl : Later g w g' w') {ds : List D} {us : List Value} (h : RepDs E g w dead ds us) (hf : fars ds = true) : RepDs E' g' w' dead' (bares ds) us :=
  ⟨by rw [h.1, bares_length], fun k y hk => by
    obtain ⟨z, hz, rfl⟩ := bares_get _ k y hk
    exact (h.2 k z hz).far_ hl (fars_get _ hf k z hz)⟩
theorem hide_later (g : G) (w : World) : Later g w g.hide w := ⟨rfl, fun b o v h1 h2 => ⟨(stable_hide g b o).2 h1, h2⟩, fun b x h1 h2 => ⟨by simp only [G.hide, h1, Perm.hid], h2⟩⟩
/-- **A function that touches nothing of what was there.** -/
theorem pure_entry (hcx : CxOK P cx) {f : FuncId} {fn : Func} {c : Code} (hf : P.funcs[f]? = some fn) (hb : fn.body = some c) (hro : RegionsOK P cx c) (hl : LoopsOK cx fn.ntmps c)
    {ds : List D} (hargs : ds.length ≤ fn.ntmps) (hfar : fars ds = true) (hbare : bares ds = ds) {rf : List D → Mem → Option R} {r : R} (h : bodyK cx fn ds [] rf = some r)
    {rs : List D} (hrs : ∀ rs' m, rf rs' m = some r → fars rs' = true ∧ bares rs' = rs) : PureRet P cx.T f ds rs := by
  intro E g w us hsz hus
  have hh : Here cx.T ⟨0, memDom [[]]⟩ g.hide w ([] :: []) := by
    refine ⟨fun k s b hb => ?_, rfl, hsz.later (hide_later g w), rfl⟩
    exfalso
    rcases k with _ | k
    · simp [Mem.box?, frGet] at hb
    · simp [Mem.box?] at hb
  have hr : RepDs ⟨0, memDom [[]]⟩ g.hide w [] ds us := by
    have := hus.far_ (E' := ⟨0, memDom [[]]⟩) (dead' := []) (hide_later g w) hfar
    rwa [hbare] at this
  refine body_sound hcx hf hb hro hl hargs hh hr h fun rs' us' m' E' g' w' h1 h2 h3 h4 h5 => ?_
  obtain ⟨h6, h7⟩ := hrs rs' m' h1
  have hold : ∀ b, b < w.heap.size → g'.Γ b = g.hide.Γ b ∧ w'.heap[b]? = w.heap[b]? := fun b hb => h5.hid b hb (hid_perm _)
  have hset : Later g' w' (g.settle w.heap.size g') w' := by
    refine ⟨?_, fun b o v a1 a2 => ⟨stable_settle a1 fun hb => (hold b hb).1, a2⟩, fun b x a1 a2 => ⟨?_, a2⟩⟩
    rotate_left
    · unfold G.settle
      simp only
      split
      · rename_i hb
        rw [(hold b hb).1] at a1
        simp only [G.hide] at a1
        cases hp : g.Γ b <;> rw [hp] at a1 <;> first | rfl | cases a1
      · rw [a1]; rfl
    show g.sz = g'.sz
    rw [h5.later.sz]; rfl
  refine ⟨us', g.settle w.heap.size g', rfl, fun E2 => ?_, ⟨⟨h5.os, h5.tape, h5.output, h5.size, fun b hb => (hold b hb).2⟩, fun b hb => ?_, fun b hb => ?_, rfl, rfl⟩⟩
  · have := h3.far_ (E' := E2) (dead' := []) hset h6
    rwa [h7] at this
  · unfold G.settle; simp only; rw [if_pos hb]
  · unfold G.settle; simp only; rw [if_neg (by omega)]; exact hid_still _
end
end Go.Proofs.YtjpmogajlnkihaaDoor.En

/- The engine, part 2b: tables of functions, of types, of loops. -/
namespace Go.Proofs.YtjpmogajlnkihaaDoor.En
open Go
set_option linter.unusedVariables false

/-- A function that is known: what it gives. -/
structure Ent where
  f : FuncId
  k : {R : Type} → List D → (List D → Option R) → Option R
def tabP : List Ent → FuncId → Bool
  | [], _ => false
  | e :: r, g => cond (Nat.beq e.f g) true (tabP r g)
def tabK {R : Type} : List Ent → FuncId → List D → (List D → Option R) → Option R
  | [], _, _, _ => none
  | e :: r, g, ds, K => cond (Nat.beq e.f g) (e.k ds K) (tabK r g ds K)
/-- A method. -/
structure Met where
  t : TypeId
  n : String
  f : FuncId
def tabM : List Met → TypeId → String → Option FuncId
  | [], _, _ => none
  | e :: r, t, n => cond (Nat.beq e.t t) (cond (e.n == n) (some e.f) (tabM r t n)) (tabM r t n)
def bodyOf (fn : Func) : Code := fn.body.getD .skip

section
variable {P : Program} {T : TypeId → Option Ty} {cx : Cx}
structure EntOK (P : Program) (T : TypeId → Option Ty) (e : Ent) : Prop where
  goes : Goes P e.f
  ret : ∀ (R : Type) (ds : List D) (K : List D → Option R) (r : R), e.k ds K = some r → ∃ rs, K rs = some r ∧ PureRet P T e.f ds rs
  b : ∀ (R : Type) (ds : List D) (K : List D → Option R), e.k ds K = (e.k ds some).bind K
def EntsOK (P : Program) (T : TypeId → Option Ty) : List Ent → Prop
  | [] => True
  | e :: r => EntOK P T e ∧ EntsOK P T r
def MetsOK (P : Program) : List Met → Prop
  | [] => True
  | e :: r => MethOK P e.t e.n e.f ∧ MetsOK P r
theorem tabK_ok {R : Type} {g : FuncId} {ds : List D} {K : List D → Option R} {r : R} : ∀ (l : List Ent), EntsOK P T l → tabK l g ds K = some r → ∃ rs, K rs = some r ∧ Goes P g ∧ PureRet P T g ds rs
  | [], _, h => by cases h
  | e :: l, ho, h => by
    unfold tabK at h
    cases hb : Nat.beq e.f g with
    | true =>
      have he := Nat.eq_of_beq_eq_true hb
      rw [hb, cond_true] at h
      obtain ⟨rs, h1, h2⟩ := ho.1.ret R ds K r h
      subst he
      exact ⟨rs, h1, ho.1.goes, h2⟩
    | false => rw [hb, cond_false] at h; exact tabK_ok l ho.2 h
theorem tabK_b {R : Type} {g : FuncId} {ds : List D} {K : List D → Option R} : ∀ (l : List Ent), EntsOK P T l → tabK l g ds K = (tabK l g ds some).bind K
  | [], _ => rfl
  | e :: l, ho => by
    unfold tabK
    cases Nat.beq e.f g with
    | true => exact ho.1.b R ds K
    | false => exact tabK_b l ho.2
theorem tabM_ok {t : TypeId} {n : String} {f : FuncId} : ∀ (l : List Met), MetsOK P l → tabM l t n = some f → MethOK P t n f
  | [], _, h => by cases h
  | e :: l, ho, h => by
    unfold tabM at h
    cases hb : Nat.beq e.t t with
    | true =>
      have he := Nat.eq_of_beq_eq_true hb
      rw [hb, cond_true] at h
      cases hn : e.n == n with
      | true =>
        rw [hn, cond_true] at h
        injection h with h
        have hn := eq_of_beq hn
        subst he hn h
        exact ho.1
      | false => rw [hn, cond_false] at h; exact tabM_ok l ho.2 h
    | false => rw [hb, cond_false] at h; exact tabM_ok l ho.2 h
theorem goes_of {f : FuncId} {fn : Func} {c : Code} (hf : P.funcs[f]? = some fn) (hn : (fn.name == "runtime.NumGoroutine") = false) (hb : fn.body = some c) : Goes P f := by
  intro args w
  have hp : (program : Sem Program).run P w = .ok P w := rfl
  simp only [callFunc, Sem.run_bind, hp, Result.andThen_ok, hf, hn, hb, Option.isNone_some, Bool.false_eq_true, if_false, Sem.run_pure]

/-! Types -/
theorem tyOK_of {t : TypeId} {ty : Ty} (h1 : P.underlying t = some ty.desc) (h2 : (P.info? t).map (fun i => (i.zero, i.size, i.bytes)) = some (some ty.zero, ty.size, ty.nbytes)) (h3 : (ty.row || Nat.beq ty.size 1) = true) (h4 : eqOKB P t ty = true) : TyOK P t ty := by
  refine ⟨h1, ?_, fun h => ?_, h4⟩
  · cases hi : P.info? t with
    | none => rw [hi] at h2; cases h2
    | some i =>
      rw [hi] at h2
      injection h2 with h2
      injection h2 with a h2
      injection h2 with b c
      exact ⟨i, rfl, a, b, c⟩
  · rw [h, Bool.false_or] at h3
    exact Nat.eq_of_beq_eq_true h3
def AllTo (p : Nat → Prop) : Nat → Prop
  | 0 => True
  | n + 1 => AllTo p n ∧ p n
theorem AllTo.get {p : Nat → Prop} : ∀ (n : Nat), AllTo p n → ∀ k, k < n → p k
  | 0, _, k, h => by omega
  | n + 1, ⟨h1, h2⟩, k, h => by
    by_cases hk : k = n
    · subst hk; exact h2
    · exact AllTo.get n h1 k (by omega)
def TyAt (P : Program) (T : TypeId → Option Ty) (t : Nat) : Prop := ∀ ty, T t = some ty → TyOK P t ty
theorem tyAt_some {t : TypeId} {ty : Ty} (h : T t = some ty) (ho : TyOK P t ty) : TyAt P T t := fun ty' h' => by rw [h] at h'; injection h' with h'; subst h'; exact ho
theorem tyAt_none {t : TypeId} (h : T t = none) : TyAt P T t := fun ty' h' => by rw [h] at h'; cases h'
def upTo (n : Nat) (T : TypeId → Option Ty) (t : TypeId) : Option Ty := cond (Nat.blt t n) (T t) none
theorem typesOK_of {n : Nat} (h : AllTo (TyAt P T) n) : TypesOK P (upTo n T) := by
  intro t ty ht
  unfold upTo at ht
  cases hb : Nat.blt t n with
  | false => rw [hb] at ht; cases ht
  | true =>
    rw [hb, cond_true] at ht
    exact AllTo.get n h t (by have := Nat.le_of_ble_eq_true hb; omega) ty ht

/-! Loops, regions -/
theorem loopOK_of {n rid : Nat} {b : Code} {ks xs : List Nat} (hr : ridOf b = rid) (hk : cx.keep rid = ks) (hx : cx.keepX rid = xs)
    (h : ∀ (R : Type) (ds : List D) (m : Mem) (K : Ex → List D → Mem → Option R) (r : R), cx.loopT rid ds m K = some r → ∃ t, loopK (fun st K => codeK cx b st K) n ks xs t ds m K = some r) : LoopOK cx n b := by
  intro R ds m K r hh
  rw [hr] at hh ⊢
  rw [hk, hx]
  exact h R ds m K r hh
theorem loopsOK_of {n k : Nat} {fn : Func} (hk : (loopsOf (bodyOf fn)).length = k) (h : AllTo (fun i => LoopOK cx n (loopN fn i)) k) : LoopsOK cx n (bodyOf fn) := by
  intro b hb
  obtain ⟨i, hi⟩ := List.getElem?_of_mem hb
  have hlt : i < k := by rw [← hk]; exact (List.getElem?_eq_some_iff.1 hi).1
  have := AllTo.get k h i hlt
  unfold loopN at this
  rw [List.getD_eq_getElem?_getD] at this
  have e : (loopsOf (fn.body.getD .skip))[i]? = some b := hi
  rw [e] at this
  exact this
theorem regionsOK_of (hm : P.follows .mixedOrders = true) (hcx : CxOK P cx) {c : Code} (h : (drawnOf c).all (orderB cx) = true) : RegionsOK P cx c :=
  fun ops ho => region_ok hm hcx (List.all_eq_true.1 h ops ho)
/-- A function that touches nothing of what was there. -/
theorem pure_of (hm : P.follows .mixedOrders = true) (hcx : CxOK P cx) {f : FuncId} {fn : Func} (hf : P.funcs[f]? = some fn) (hb : fn.body = some (bodyOf fn)) (hro : (drawnOf (bodyOf fn)).all (orderB cx) = true) (hl : LoopsOK cx fn.ntmps (bodyOf fn))
    {ds : List D} (hargs : Nat.ble ds.length fn.ntmps = true) (hfar : fars ds = true) (hbare : bares ds = ds) {α : Type} {rf : List D → Mem → Option α} {r : α} (h : bodyK cx fn ds [] rf = some r)
    {rs : List D} (hrs : ∀ rs' m, rf rs' m = some r → fars rs' = true ∧ bares rs' = rs) : PureRet P cx.T f ds rs :=
  pure_entry hcx hf hb (regionsOK_of hm hcx hro) hl (Nat.le_of_ble_eq_true hargs) hfar hbare h hrs
section
variable {R : Type}
theorem bnd1_some {α : Type} {o : Option α} {K : α → Option R} {r : R} (h : bnd1 o K = some r) : ∃ a, o = some a ∧ K a = some r := by
  cases o with
  | none => cases h
  | some a => exact ⟨a, rfl, h⟩
theorem bnd2_some {α β : Type} {o : Option (α × β)} {K : α → β → Option R} {r : R} (h : bnd2 o K = some r) : ∃ a b, o = some (a, b) ∧ K a b = some r := by
  rcases o with _ | ⟨a, b⟩
  · cases h
  · exact ⟨a, b, rfl, h⟩
theorem bnd3_some {α β γ : Type} {o : Option (α × β × γ)} {K : α → β → γ → Option R} {r : R} (h : bnd3 o K = some r) : ∃ a b c, o = some (a, b, c) ∧ K a b c = some r := by
  rcases o with _ | ⟨a, b, c⟩
  · cases h
  · exact ⟨a, b, c, rfl, h⟩
/-- Five results. -/
def bnd5 {R α β γ δ ε : Type} (o : Option (α × β × γ × δ × ε)) (K : α → β → γ → δ → ε → Option R) : Option R := match o with | some (a, b, c, d, e) => K a b c d e | none => none
theorem bnd5_some {R α β γ δ ε : Type} {o : Option (α × β × γ × δ × ε)} {K : α → β → γ → δ → ε → Option R} {r : R} (h : bnd5 o K = some r) : ∃ a b c d e, o = some (a, b, c, d, e) ∧ K a b c d e = some r := by
  rcases o with _ | ⟨a, b, c, d, e⟩
  · cases h
  · exact ⟨a, b, c, d, e, rfl, h⟩
theorem bnd5_b {α α' α'' α3 α4 β R : Type} (o : Option (α × α' × α'' × α3 × α4)) (F : α → α' → α'' → α3 → α4 → Option β) (K : β → Option R) : (bnd5 o F).bind K = bnd5 o fun a b c d e => (F a b c d e).bind K := by rcases o with _ | ⟨a, b, c, d, e⟩ <;> rfl
/-- Ten results. -/
def bnd10 {R a1 a2 a3 a4 a5 a6 a7 a8 a9 a10 : Type} (o : Option (a1 × a2 × a3 × a4 × a5 × a6 × a7 × a8 × a9 × a10)) (K : a1 → a2 → a3 → a4 → a5 → a6 → a7 → a8 → a9 → a10 → Option R) : Option R := match o with | some (a, b, c, d, e, f, g, h, i, j) => K a b c d e f g h i j | none => none
theorem bnd1_b {α β : Type} (o : Option α) (F : α → Option β) (K : β → Option R) : (bnd1 o F).bind K = bnd1 o fun a => (F a).bind K := by cases o <;> rfl
theorem bnd2_b {α α' β : Type} (o : Option (α × α')) (F : α → α' → Option β) (K : β → Option R) : (bnd2 o F).bind K = bnd2 o fun a b => (F a b).bind K := by rcases o with _ | ⟨a, b⟩ <;> rfl
theorem bnd3_b {α α' α'' β : Type} (o : Option (α × α' × α'')) (F : α → α' → α'' → Option β) (K : β → Option R) : (bnd3 o F).bind K = bnd3 o fun a b c => (F a b c).bind K := by rcases o with _ | ⟨a, b, c⟩ <;> rfl
end
end
end Go.Proofs.YtjpmogajlnkihaaDoor.En

/- The engine, part 2c: a callee that is given variables sees them under names of its own. -/
namespace Go.Proofs.YtjpmogajlnkihaaDoor.En
open Go
set_option linter.unusedVariables false

/-! Pointers under other names -/
inductive Ren (Pr : Nat → Nat → Nat → Nat → Prop) : D → D → Prop
  | v (x : V) : Ren Pr (.v x .no) (.v x .no)
  | nilp : Ren Pr .nilp .nilp
  | nilF : Ren Pr .nilF .nilF
  | bld : Ren Pr .bld .bld
  | any : Ren Pr .any .any
  | eptr (cs : List V) (o : Nat) : Ren Pr (.eptr cs o) (.eptr cs o)
  | ptr {k s k₁ s₁ : Nat} (o : Nat) (h : Pr k s k₁ s₁) : Ren Pr (.ptr k s o) (.ptr k₁ s₁ o)
  | clos (f : FuncId) (cs cs₁ : List D) (hl : cs₁.length = cs.length) (h : ∀ (i : Nat) y y₁, cs[i]? = some y → cs₁[i]? = some y₁ → Ren Pr y y₁) : Ren Pr (.clos f cs) (.clos f cs₁)
  | agg (cs cs₁ : List D) (hl : cs₁.length = cs.length) (h : ∀ (i : Nat) y y₁, cs[i]? = some y → cs₁[i]? = some y₁ → Ren Pr y y₁) : Ren Pr (.agg cs) (.agg cs₁)
theorem Ren.flip {Pr : Nat → Nat → Nat → Nat → Prop} {d d₁ : D} (h : Ren Pr d d₁) : Ren (fun a b c e => Pr c e a b) d₁ d := by
  induction h with
  | v x => exact .v x
  | nilp => exact .nilp
  | nilF => exact .nilF
  | bld => exact .bld
  | any => exact .any
  | eptr cs o => exact .eptr cs o
  | ptr o h => exact .ptr o h
  | clos f cs cs₁ hl h ih => exact .clos f cs₁ cs hl.symm fun i y y₁ h1 h2 => ih i y₁ y h2 h1
  | agg cs cs₁ hl h ih => exact .agg cs₁ cs hl.symm fun i y y₁ h1 h2 => ih i y₁ y h2 h1
theorem Ren.shift {Pr : Nat → Nat → Nat → Nat → Prop} {d d₁ : D} (h : Ren Pr d d₁) (k k₁ : Nat) : Ren (fun a b c e => ∃ a' c', a = a' + k ∧ c = c' + k₁ ∧ Pr a' b c' e) (d.shift k) (d₁.shift k₁) := by
  induction h with
  | v x => exact .v x
  | nilp => exact .nilp
  | nilF => exact .nilF
  | bld => exact .bld
  | any => exact .any
  | eptr cs o => exact .eptr cs o
  | ptr o h => exact .ptr o ⟨_, _, rfl, rfl, h⟩
  | clos f cs cs₁ hl h ih =>
    refine .clos f _ _ (by rw [shifts_length, shifts_length, hl]) fun i y y₁ h1 h2 => ?_
    obtain ⟨z, hz, rfl⟩ := shifts_get _ _ i y h1
    obtain ⟨z₁, hz₁, rfl⟩ := shifts_get _ _ i y₁ h2
    exact ih i z z₁ hz hz₁
  | agg cs cs₁ hl h ih =>
    refine .agg _ _ (by rw [shifts_length, shifts_length, hl]) fun i y y₁ h1 h2 => ?_
    obtain ⟨z, hz, rfl⟩ := shifts_get _ _ i y h1
    obtain ⟨z₁, hz₁, rfl⟩ := shifts_get _ _ i y₁ h2
    exact ih i z z₁ hz hz₁
section
variable {E E' : Env} {g g' : G} {w w' : World} {dead dead' : List Pos}
theorem rep_ren {Pr : Nat → Nat → Nat → Nat → Prop} (hl : Later g w g' w') (hp : ∀ k s k₁ s₁, Pr k s k₁ s₁ → k ≤ E.d → E.dom k s → k₁ ≤ E'.d ∧ E'.dom k₁ s₁ ∧ g'.J (E'.d - k₁) s₁ = g.J (E.d - k) s) {d d₁ : D} (h : Ren Pr d d₁) : ∀ {v : Value}, RepD E g w dead d v → RepD E' g' w' dead' d₁ v := by
  induction h with
  | v x => intro v h; cases h with | v x a v h ha => exact .v _ _ _ (h.later hl) trivial
  | nilp => intro v h; cases h; exact .nilp
  | nilF => intro v h; cases h; exact .nilF
  | bld => intro v h; cases h; exact .bld
  | any => intro v h; exact .any _
  | eptr cs o => intro v h; cases h with | eptr cs o b off us h hr => exact .eptr cs o b off us (fun k y hy => hl.st _ _ _ (h k y hy).1 (h k y hy).2) (fun k y hy => (hr k y hy).later hl)
  | ptr o hq =>
    intro v h
    cases h with
    | ptr k s o a1 a2 =>
      obtain ⟨b1, b2, b3⟩ := hp _ _ _ _ hq a1 a2
      rw [← b3]
      exact .ptr _ _ o b1 b2
  | clos f cs cs₁ hlen hq ih =>
    intro v h
    cases h with
    | clos f cs us hn hr =>
      refine .clos f cs₁ us (by rw [hn, hlen]) fun i y₁ hy₁ => ?_
      have hi : i < cs.length := by rw [← hlen]; exact (List.getElem?_eq_some_iff.1 hy₁).1
      exact ih i _ y₁ (List.getElem?_eq_getElem hi) hy₁ (hr i _ (List.getElem?_eq_getElem hi))
  | agg cs cs₁ hlen hq ih =>
    intro v h
    cases h with
    | agg cs us hn hr =>
      refine .agg cs₁ us (by rw [hn, hlen]) fun i y₁ hy₁ => ?_
      have hi : i < cs.length := by rw [← hlen]; exact (List.getElem?_eq_some_iff.1 hy₁).1
      exact ih i _ y₁ (List.getElem?_eq_getElem hi) hy₁ (hr i _ (List.getElem?_eq_getElem hi))
theorem RepDs.ren {Pr : Nat → Nat → Nat → Nat → Prop} (hl : Later g w g' w') (hp : ∀ k s k₁ s₁, Pr k s k₁ s₁ → k ≤ E.d → E.dom k s → k₁ ≤ E'.d ∧ E'.dom k₁ s₁ ∧ g'.J (E'.d - k₁) s₁ = g.J (E.d - k) s) {ds ds₁ : List D} {us : List Value}
    (hlen : ds₁.length = ds.length) (h : ∀ (i : Nat) y y₁, ds[i]? = some y → ds₁[i]? = some y₁ → Ren Pr y y₁) (hr : RepDs E g w dead ds us) : RepDs E' g' w' dead' ds₁ us := by
  refine ⟨by rw [hr.1, hlen], fun i y₁ hy₁ => ?_⟩
  have hi : i < ds.length := by rw [← hlen]; exact (List.getElem?_eq_some_iff.1 hy₁).1
  exact rep_ren hl hp (h i _ y₁ (List.getElem?_eq_getElem hi) hy₁) (hr.2 i _ (List.getElem?_eq_getElem hi))
end
/-- A variable's cell: as the caller has it, and as the callee sees it. -/
inductive CRen (Q : Nat → Nat → Nat → Prop) : D → D → Prop
  | v (x : V) (a : Att) : CRen Q (.v x a) (.v x a)
  | bld : CRen Q .bld .bld
  | ren {c c₁ : D} (hb : c ≠ .bld) (hb₁ : c₁ ≠ .bld) (h1 : c.one = true) (h2 : c.flat = true) (h3 : c₁.one = true) (h4 : c₁.flat = true) (hv : ∀ x a, c ≠ .v x a) (h : Ren (fun k s k₁ s₁ => k₁ = 0 ∧ Q k s s₁) c c₁) : CRen Q c c₁
structure BRen (Q : Nat → Nat → Nat → Prop) (B B₁ : Bx) : Prop where
  ty : B₁.ty = B.ty
  len : B₁.cells.length = B.cells.length
  cell : ∀ (i : Nat) c c₁, B.cells[i]? = some c → B₁.cells[i]? = some c₁ → CRen Q c c₁

/-! Places -/
section
variable {ps : List (Nat × Nat)} {d0 : Nat}
def posOf (ps : List (Nat × Nat)) (d0 d s : Nat) : Option Nat := ps.findIdx? fun p => decide (d0 - p.1 = d) && decide (p.2 = s)
/-- Different variables. -/
structure Places (ps : List (Nat × Nat)) (d0 : Nat) : Prop where
  le : ∀ (j : Nat) (p : Nat × Nat), ps[j]? = some p → p.1 ≤ d0
  one : ∀ (i j : Nat) (p : Nat × Nat), ps[i]? = some p → ps[j]? = some p → i = j
theorem posOf_some {d s j : Nat} (h : posOf ps d0 d s = some j) : ∃ k, ps[j]? = some (k, s) ∧ d = d0 - k := by
  unfold posOf at h
  obtain ⟨hj, h1, _⟩ := List.findIdx?_eq_some_iff_getElem.1 h
  simp only [Bool.and_eq_true, decide_eq_true_eq] at h1
  refine ⟨ps[j].1, ?_, h1.1.symm⟩
  rw [List.getElem?_eq_getElem hj, ← h1.2]
theorem posOf_at (hp : Places ps d0) {j k s : Nat} (h : ps[j]? = some (k, s)) : posOf ps d0 (d0 - k) s = some j := by
  cases hq : posOf ps d0 (d0 - k) s with
  | none =>
    unfold posOf at hq
    rw [List.findIdx?_eq_none_iff] at hq
    have := hq _ (List.mem_of_getElem? h)
    simp at this
  | some i =>
    obtain ⟨k', h1, h2⟩ := posOf_some hq
    have a1 := hp.le _ _ h
    have a2 := hp.le _ _ h1
    simp only at a1 a2
    have : k' = k := by omega
    subst this
    rw [hp.one i j _ h1 h]
theorem posOf_none (hp : Places ps d0) {k s : Nat} (hk : k ≤ d0) (h : ∀ j : Nat, ps[j]? ≠ some (k, s)) : posOf ps d0 (d0 - k) s = none := by
  cases hq : posOf ps d0 (d0 - k) s with
  | none => rfl
  | some i =>
    obtain ⟨k', h1, h2⟩ := posOf_some hq
    have a2 := hp.le _ _ h1
    simp only at a2
    have : k' = k := by omega
    subst this
    exact absurd h1 (h i)
def inP (ps : List (Nat × Nat)) (d0 : Nat) : APos → Option APos
  | .cell d s i => (posOf ps d0 d s).map fun j => .cell 0 j i
  | .slot _ _ => none
def outP (ps : List (Nat × Nat)) (d0 : Nat) : APos → Option APos
  | .cell d j i => (match d with | 0 => (ps[j]?).map fun p => .cell (d0 - p.1) p.2 i | _ + 1 => none)
  | .slot _ _ => none
def Perm.view (ps : List (Nat × Nat)) (d0 : Nat) : Perm → Perm
  | .imm => .imm
  | .low n => .low n
  | .own p n => (match inP ps d0 p with | some q => .own q n | none => .low n)
  | .box d s => (match posOf ps d0 d s with | some j => .box 0 j | none => .low 0)
def Perm.back (ps : List (Nat × Nat)) (d0 : Nat) : Perm → Perm
  | .imm => .imm
  | .low n => .low n
  | .own p n => (match outP ps d0 p with | some q => .own q n | none => .low n)
  | .box d j => (match d with | 0 => (match ps[j]? with | some p => .box (d0 - p.1) p.2 | none => .low 0) | _ + 1 => .low 0)
def G.view (g : G) (ps : List (Nat × Nat)) (d0 : Nat) : G :=
  { Γ := fun b => (g.Γ b).view ps d0, J := fun d s => match d with | 0 => (match ps[s]? with | some p => g.J (d0 - p.1) p.2 | none => 0) | d + 1 => g.J (d + 1) s, sz := g.sz }
def G.unview (g : G) (ps : List (Nat × Nat)) (d0 n : Nat) (g₂ : G) : G :=
  { Γ := fun b => bif decide (b < n) && ((g.Γ b).view ps d0).still then g.Γ b else (g₂.Γ b).back ps d0, J := g.J, sz := g.sz }
theorem stable_view (g : G) (b o : Nat) : Stable (g.view ps d0) b o ↔ Stable g b o := by
  unfold Stable G.view
  simp only
  cases g.Γ b with
  | imm => exact Iff.rfl
  | low n => exact Iff.rfl
  | own p n => simp only [Perm.view]; cases inP ps d0 p <;> exact Iff.rfl
  | box d s => simp only [Perm.view]; cases posOf ps d0 d s <;> simp
theorem still_perm {p : Perm} (h : p.still = true) : p = .imm ∨ ∃ n, p = .low n := by cases p <;> simp [Perm.still] at h ⊢
structure Held (g : G) (w : World) (ps : List (Nat × Nat)) (d0 : Nat) (g₂ : G) (w' : World) : Prop where
  Γ : ∀ b, b < w.heap.size → ((g.Γ b).view ps d0).still = true → g₂.Γ b = (g.Γ b).view ps d0
  heap : ∀ b, b < w.heap.size → ((g.Γ b).view ps d0).still = true → w'.heap[b]? = w.heap[b]?
theorem unview_still {g g₂ : G} {n b : Nat} (h1 : b < n) (h2 : ((g.Γ b).view ps d0).still = true) : (g.unview ps d0 n g₂).Γ b = g.Γ b := by
  unfold G.unview; simp [h1, h2]
theorem unview_back {g g₂ : G} {n b : Nat} (h : ¬ (b < n ∧ ((g.Γ b).view ps d0).still = true)) : (g.unview ps d0 n g₂).Γ b = (g₂.Γ b).back ps d0 := by
  unfold G.unview
  simp only
  cases hc : (decide (b < n) && ((g.Γ b).view ps d0).still) with
  | true => simp at hc; exact absurd hc h
  | false => rfl
theorem stable_unview {g g₂ : G} {w w' : World} (hh : Held g w ps d0 g₂ w') {b o : Nat} (h : Stable g₂ b o) : Stable (g.unview ps d0 w.heap.size g₂) b o := by
  by_cases hc : b < w.heap.size ∧ ((g.Γ b).view ps d0).still = true
  · have h1 := hh.Γ b hc.1 hc.2
    unfold Stable
    rw [unview_still hc.1 hc.2]
    have : Stable (g.view ps d0) b o := by
      unfold Stable at h ⊢
      rw [h1] at h
      exact h
    exact (stable_view g b o).1 this
  · unfold Stable at h ⊢
    rw [unview_back hc]
    cases hg : g₂.Γ b with
    | imm => trivial
    | low n => rw [hg] at h; exact h
    | own p n => rw [hg] at h; simp only [Perm.back]; cases outP ps d0 p <;> exact h
    | box d s => rw [hg] at h; exact h.elim
theorem imm_unview {g g₂ : G} {w w' : World} (hh : Held g w ps d0 g₂ w') {b : Nat} (h : g₂.Γ b = .imm) : (g.unview ps d0 w.heap.size g₂).Γ b = .imm := by
  by_cases hc : b < w.heap.size ∧ ((g.Γ b).view ps d0).still = true
  · have h1 := hh.Γ b hc.1 hc.2
    rw [unview_still hc.1 hc.2]
    rw [h1] at h
    cases hp : g.Γ b with
    | imm => rfl
    | low n => rw [hp] at h; cases h
    | own p n => rw [hp] at h; simp only [Perm.view] at h; split at h <;> cases h
    | box d s => rw [hp] at h; simp only [Perm.view] at h; split at h <;> cases h
  · rw [unview_back hc, h]; rfl
theorem own_view (hp : Places ps d0) {g : G} {w : World} {j k s i : Nat} {e : TypeId} {v : Value} (hj : ps[j]? = some (k, s)) (h : OwnAt g w (.cell (d0 - k) s i) e v) : OwnAt (g.view ps d0) w (.cell 0 j i) e v := by
  rcases h with h0 | ⟨b, n, cap, cur, h1, h2, h3, h4⟩
  · exact .inl h0
  · refine .inr ⟨b, n, cap, cur, h1, ?_, h3, h4⟩
    show (g.Γ b).view ps d0 = _
    rw [h2]
    simp only [Perm.view, inP, posOf_at hp hj, Option.map_some]
    rfl
theorem own_unview {g g₂ : G} {w w' : World} (hsz : g₂.sz = g.sz) (hh : Held g w ps d0 g₂ w') {j k s i : Nat} {e : TypeId} {v : Value} (hj : ps[j]? = some (k, s)) (h : OwnAt g₂ w' (.cell 0 j i) e v) : OwnAt (g.unview ps d0 w.heap.size g₂) w' (.cell (d0 - k) s i) e v := by
  rcases h with h0 | ⟨b, n, cap, cur, h1, h2, h3, h4⟩
  · exact .inl h0
  · have hsz' : (g.unview ps d0 w.heap.size g₂).sz = g₂.sz := hsz.symm
    refine .inr ⟨b, n, cap, cur, h1, ?_, h3, by rw [hsz']; exact h4⟩
    rw [unview_back]
    · rw [h2, hsz']
      simp only [Perm.back, outP, hj, Option.map_some]
    · rintro ⟨a1, a2⟩
      have := hh.Γ b a1 a2
      rw [h2] at this
      rw [← this] at a2
      cases a2
theorem own_restore {g g₂ : G} {w w' : World} (hh : Held g w ps d0 g₂ w') {p : APos} (hp : inP ps d0 p = none) {e : TypeId} {v : Value} (h : OwnAt g w p e v) : OwnAt (g.unview ps d0 w.heap.size g₂) w' p e v := by
  rcases h with h0 | ⟨b, n, cap, cur, h1, h2, h3, h4⟩
  · exact .inl h0
  · have hb := heap_lt h3
    have hs : ((g.Γ b).view ps d0).still = true := by rw [h2]; simp only [Perm.view, hp]; rfl
    exact .inr ⟨b, n, cap, cur, h1, by rw [unview_still hb hs]; exact h2, by rw [hh.heap b hb hs]; exact h3, h4⟩
end
end Go.Proofs.YtjpmogajlnkihaaDoor.En

/- The engine, part 2d: functions that are given variables. -/
namespace Go.Proofs.YtjpmogajlnkihaaDoor.En
open Go
set_option linter.unusedVariables false
def frOf : Nat → List Bx → Fr
  | _, [] => []
  | i, b :: r => (i, b) :: frOf (i + 1) r
theorem frGet_of (j : Nat) : ∀ (Bs : List Bx) (i : Nat), frGet j (frOf i Bs) = if i ≤ j then Bs[j - i]? else none
  | [], i => by simp [frOf, frGet]
  | b :: Bs, i => by
    rw [frOf, frGet_cons, frGet_of j Bs (i + 1)]
    by_cases h : j = i
    · subst h; simp
    · rw [if_neg h]
      by_cases h2 : i + 1 ≤ j
      · rw [if_pos h2, if_pos (by omega)]
        rw [show j - i = (j - (i + 1)) + 1 by omega, List.getElem?_cons_succ]
      · rw [if_neg h2, if_neg (by omega)]
theorem frGet_of0 (j : Nat) (Bs : List Bx) : frGet j (frOf 0 Bs) = Bs[j]? := by rw [frGet_of]; simp
def setAll : List (Nat × Nat) → List Bx → Mem → Mem
  | p :: ps, B :: Bs, m => setAll ps Bs (m.setBox p.1 p.2 B)
  | _, _, m => m
theorem setAll_length : ∀ (ps : List (Nat × Nat)) (Bs : List Bx) (m : Mem), (setAll ps Bs m).length = m.length
  | [], _, m => by simp [setAll]
  | _ :: _, [], m => by simp [setAll]
  | p :: ps, B :: Bs, m => by rw [setAll, setAll_length ps Bs, setBox_length]
theorem setAll_other {k s : Nat} : ∀ (ps : List (Nat × Nat)) (Bs : List Bx) (m : Mem), (∀ j : Nat, ps[j]? ≠ some (k, s)) → (setAll ps Bs m).box? k s = m.box? k s
  | [], _, m, _ => by simp [setAll]
  | _ :: _, [], m, _ => by simp [setAll]
  | p :: ps, B :: Bs, m, h => by
    rw [setAll, setAll_other ps Bs _ (fun j => by have := h (j + 1); simpa using this), box_set, if_neg]
    rintro ⟨rfl, rfl, _⟩
    exact h 0 (by simp)
theorem setAll_get : ∀ (ps : List (Nat × Nat)) (Bs : List Bx) (m : Mem) (j k s : Nat) (B : Bx), (∀ (i j : Nat) (p : Nat × Nat), ps[i]? = some p → ps[j]? = some p → i = j) → ps[j]? = some (k, s) → Bs[j]? = some B → k < m.length → (setAll ps Bs m).box? k s = some B
  | [], _, m, j, k, s, B, _, h, _, _ => by simp at h
  | _ :: _, [], m, j, k, s, B, _, _, h, _ => by simp at h
  | p :: ps, B0 :: Bs, m, 0, k, s, B, ho, h, hB, hk => by
    simp at h hB
    subst h hB
    rw [setAll, setAll_other ps Bs _ (fun j hj => by have := ho 0 (j + 1) (k, s) (by simp) (by simpa using hj); omega), box_set, if_pos ⟨rfl, rfl, hk⟩]
  | p :: ps, B0 :: Bs, m, j + 1, k, s, B, ho, h, hB, hk => by
    rw [setAll]
    exact setAll_get ps Bs _ j k s B (fun a b q h1 h2 => by have := ho (a + 1) (b + 1) q (by simpa using h1) (by simpa using h2); omega) (by simpa using h) (by simpa using hB) (by rw [setBox_length]; exact hk)
section
variable {R : Type} {P : Program} {T : TypeId → Option Ty} {E E' : Env} {g g' : G} {w w' : World} {cx : Cx}
/-- A cell, whoever looks at it. -/
theorem cell_ren {Q : Nat → Nat → Nat → Prop} {c c₁ : D} (hc : CRen Q c c₁) {k s i k₁ s₁ : Nat} {u : Value} (hl : Later g w g' w') (hk₁ : k₁ ≤ E'.d) (hown : ∀ e, OwnAt g w (.cell (E.d - k) s i) e u → OwnAt g' w' (.cell (E'.d - k₁) s₁ i) e u)
    (hp : ∀ a b j, Q a b j → a + k ≤ E.d → E.dom (a + k) b → 0 + k₁ ≤ E'.d ∧ E'.dom (0 + k₁) j ∧ g'.J (E'.d - (0 + k₁)) j = g.J (E.d - (a + k)) b) (h : RepD E g w [] (loadCell k s i c) u) : RepD E' g' w' [] (loadCell k₁ s₁ i c₁) u := by
  cases hc with
  | v x a =>
    cases a with
    | no => cases h with | v x a v h ha => exact .v _ _ _ (h.later hl) trivial
    | nil e => cases h with | v x a v h ha => exact .v _ _ _ (h.later hl) ha
    | own p e =>
      cases h with
      | v x a v h ha =>
        rcases ha with ha | ⟨_, ha⟩
        · cases ha
        · exact .v _ _ _ (h.later hl) (.inr ⟨hk₁, hown e ha⟩)
  | bld => exact .any _
  | ren hb hb₁ h1 h2 h3 h4 hv hr =>
    have e1 : loadCell k s i c = c.shift k := by
      cases c with
      | v x a => exact absurd rfl (hv x a)
      | bld => exact absurd rfl hb
      | _ => rfl
    have e2 : loadCell k₁ s₁ i c₁ = c₁.shift k₁ := by
      cases c₁ with
      | v x a => cases hr; exact absurd rfl (hv _ _)
      | bld => exact absurd rfl hb₁
      | _ => rfl
    rw [e1] at h
    rw [e2]
    refine rep_ren hl ?_ (hr.shift k k₁) h
    rintro K b K₁ j ⟨a, c', rfl, rfl, rfl, hq⟩ h5 h6
    exact hp a b j hq h5 h6
theorem cell_ren' {Q : Nat → Nat → Nat → Prop} {c c₁ : D} (hc : CRen Q c c₁) {k s i k₁ s₁ : Nat} {u : Value} (hl : Later g w g' w') (hk₁ : k₁ ≤ E'.d) (hown : ∀ e, OwnAt g w (.cell (E.d - k) s i) e u → OwnAt g' w' (.cell (E'.d - k₁) s₁ i) e u)
    (hp : ∀ a b j, Q a b j → 0 + k ≤ E.d → E.dom (0 + k) j → a + k₁ ≤ E'.d ∧ E'.dom (a + k₁) b ∧ g'.J (E'.d - (a + k₁)) b = g.J (E.d - (0 + k)) j) (h : RepD E g w [] (loadCell k s i c₁) u) : RepD E' g' w' [] (loadCell k₁ s₁ i c) u := by
  cases hc with
  | v x a =>
    cases a with
    | no => cases h with | v x a v h ha => exact .v _ _ _ (h.later hl) trivial
    | nil e => cases h with | v x a v h ha => exact .v _ _ _ (h.later hl) ha
    | own p e =>
      cases h with
      | v x a v h ha =>
        rcases ha with ha | ⟨_, ha⟩
        · cases ha
        · exact .v _ _ _ (h.later hl) (.inr ⟨hk₁, hown e ha⟩)
  | bld => exact .any _
  | ren hb hb₁ h1 h2 h3 h4 hv hr =>
    have e1 : loadCell k s i c₁ = c₁.shift k := by
      cases c₁ with
      | v x a => cases hr; exact absurd rfl (hv _ _)
      | bld => exact absurd rfl hb₁
      | _ => rfl
    have e2 : loadCell k₁ s₁ i c = c.shift k₁ := by
      cases c with
      | v x a => exact absurd rfl (hv x a)
      | bld => exact absurd rfl hb
      | _ => rfl
    rw [e1] at h
    rw [e2]
    refine rep_ren hl ?_ (hr.flip.shift k k₁) h
    rintro K b K₁ j ⟨a, c', rfl, rfl, rfl, hq⟩ h5 h6
    exact hp c' j b hq h5 h6
theorem cren_shape {Q : Nat → Nat → Nat → Prop} {c c₁ : D} (hc : CRen Q c c₁) : (c.one = true ∧ c.flat = true → c₁.one = true ∧ c₁.flat = true) ∧ (c₁.one = true ∧ c₁.flat = true → c.one = true ∧ c.flat = true) ∧ (c = .bld ↔ c₁ = .bld) := by
  cases hc with
  | v x a => exact ⟨id, id, Iff.rfl⟩
  | bld => exact ⟨id, id, Iff.rfl⟩
  | ren hb hb₁ h1 h2 h3 h4 hv hr => exact ⟨fun _ => ⟨h3, h4⟩, fun _ => ⟨h1, h2⟩, ⟨fun e => absurd e hb, fun e => absurd e hb₁⟩⟩
/-- **A function that is given variables.** -/
theorem view_entry (hcx : CxOK P cx) {f : FuncId} {fn : Func} {c : Code} (hf : P.funcs[f]? = some fn) (hb : fn.body = some c) (hro : RegionsOK P cx c) (hl : LoopsOK cx fn.ntmps c)
    {ds ds₁ : List D} (hargs : ds₁.length ≤ fn.ntmps) {m : Mem} {ps : List (Nat × Nat)} {Bs₁ : List Bx} (hone : ∀ (i j : Nat) (p : Nat × Nat), ps[i]? = some p → ps[j]? = some p → i = j)
    (hget : ∀ (j : Nat) (p : Nat × Nat), ps[j]? = some p → ∃ B B₁, m.box? p.1 p.2 = some B ∧ Bs₁[j]? = some B₁ ∧ BRen (fun k s i => ps[i]? = some (p.1 + k, s)) B B₁) (hlen₁ : Bs₁.length = ps.length)
    (hlen : ds₁.length = ds.length) (hds : ∀ (i : Nat) y y₁, ds[i]? = some y → ds₁[i]? = some y₁ → Ren (fun k s k₁ s₁ => ∃ k', k = k' + 1 ∧ k₁ = 1 ∧ ps[s₁]? = some (k', s)) y y₁)
    {rf : List D → Mem → Option R} {r : R} (h : bodyK cx fn ds₁ [frOf 0 Bs₁] rf = some r) {rs : List D} {Bs' : List Bx} (hlen' : Bs'.length = ps.length)
    (hrs : ∀ rs' m', rf rs' m' = some r → fars rs' = true ∧ bares rs' = rs ∧ ∃ own Bs₂, m' = [own, frOf 0 Bs₂] ∧ ∀ (j : Nat) (p : Nat × Nat) B', ps[j]? = some p → Bs'[j]? = some B' → ∃ B₂, Bs₂[j]? = some B₂ ∧ BRen (fun k s i => ps[i]? = some (p.1 + k, s)) B' B₂)
    (dst : Nat) : MemRet P cx.T f dst ds m rs (setAll ps Bs' m) := by
  intro E g w us hh hus
  have hp : Places ps E.d := ⟨fun j p hj => by
    obtain ⟨B, B₁, h1, _⟩ := hget j p hj
    exact (hh.mem _ _ _ h1).le, hone⟩
  have hB₁ : ∀ (j : Nat) (B₁ : Bx), Bs₁[j]? = some B₁ → ∃ p, ps[j]? = some p := fun j B₁ hj => by
    have : j < ps.length := by rw [← hlen₁]; exact (List.getElem?_eq_some_iff.1 hj).1
    exact ⟨_, List.getElem?_eq_getElem this⟩
  have hlat : Later g w (g.view ps E.d) w := ⟨rfl, fun b o v h1 h2 => ⟨(stable_view g b o).2 h1, h2⟩, fun b x h1 h2 => ⟨by show (g.Γ b).view ps E.d = _; rw [h1]; rfl, h2⟩⟩
  have hJ : ∀ (j k s : Nat), ps[j]? = some (k, s) → (g.view ps E.d).J 0 j = g.J (E.d - k) s := fun j k s hj => by
    show (match ps[j]? with | some p => g.J (E.d - p.1) p.2 | none => 0) = _
    rw [hj]
  have hh1 : Here cx.T ⟨1, memDom ([] :: [frOf 0 Bs₁])⟩ (g.view ps E.d) w ([] :: [frOf 0 Bs₁]) := by
    refine ⟨fun k s b hbx => ?_, rfl, hh.sk.later hlat, rfl⟩
    rcases k with _ | _ | k
    · simp [Mem.box?, frGet] at hbx
    · have hbx : Bs₁[s]? = some b := by rw [← frGet_of0]; exact hbx
      obtain ⟨⟨k', s'⟩, hj⟩ := hB₁ s b hbx
      obtain ⟨B, B₁, h1, h2, h3⟩ := hget s _ hj
      rw [hbx] at h2
      injection h2 with h2
      subst h2
      have hr := hh.mem _ _ _ h1
      obtain ⟨cs, a1, a2, a3⟩ := hr.heap
      refine ⟨Nat.le_refl _, ?_, cs, ?_, by rw [a2, h3.len], fun i c₁ hc₁ => ?_⟩
      · show (g.Γ ((g.view ps E.d).J 0 s)).view ps E.d = _
        rw [hJ s k' s' hj, hr.perm]
        simp only [Perm.view, posOf_at hp hj]
      · show w.heap[(g.view ps E.d).J 0 s]? = _
        rw [hJ s k' s' hj, h3.ty]; exact a1
      · have hi : i < B.cells.length := by rw [← h3.len]; exact (List.getElem?_eq_some_iff.1 hc₁).1
        have hcc := List.getElem?_eq_getElem hi
        have hcr := h3.cell i _ c₁ hcc hc₁
        obtain ⟨b1, b2, b3, b4⟩ := a3 i _ hcc
        obtain ⟨s1, _, s3⟩ := cren_shape hcr
        refine ⟨(s1 ⟨b1, b2⟩).1, (s1 ⟨b1, b2⟩).2, fun e => ?_, ?_⟩
        · show BldAt ((g.view ps E.d).J 0 s) _
          rw [hJ s k' s' hj]; exact b3 (s3.2 e)
        · refine cell_ren hcr hlat (Nat.le_refl _) (fun e ho => own_view hp hj ho) ?_ b4
          intro a b j hq _ _
          obtain ⟨B2, B2', _, c2, _⟩ := hget j _ hq
          refine ⟨Nat.le_refl _, ⟨B2', ?_⟩, ?_⟩
          · show frGet j (frOf 0 Bs₁) = _
            rw [frGet_of0]; exact c2
          · show (g.view ps E.d).J 0 j = _
            rw [hJ j _ _ hq, Nat.add_comm]
    · simp [Mem.box?] at hbx
  have hr1 : RepDs ⟨1, memDom ([] :: [frOf 0 Bs₁])⟩ (g.view ps E.d) w [] ds₁ us := by
    refine hus.ren hlat ?_ hlen hds
    rintro k s k₁ s₁ ⟨k', rfl, rfl, hq⟩ h5 h6
    obtain ⟨B2, B2', _, c2, _⟩ := hget s₁ _ hq
    refine ⟨Nat.le_refl _, ⟨B2', ?_⟩, ?_⟩
    · show frGet s₁ (frOf 0 Bs₁) = _
      rw [frGet_of0]; exact c2
    · show (g.view ps E.d).J 0 s₁ = g.J (E.d + 1 - (k' + 1)) s
      rw [hJ _ _ _ hq, Nat.add_sub_add_right]
  refine body_sound hcx hf hb hro hl hargs hh1 hr1 h fun rs' us' m' E2 g2 w' q1 q2 q3 q4 q5 => ?_
  obtain ⟨r1, r2, own, Bs₂, rfl, r3⟩ := hrs rs' m' q1
  have held : Held g w ps E.d g2 w' := by
    refine ⟨fun b hb hs => (q5.hid b hb (still_perm hs)).1, fun b hb hs => (q5.hid b hb (still_perm hs)).2⟩
  have hJ2 : ∀ (j k s : Nat), ps[j]? = some (k, s) → g2.J 0 j = g.J (E.d - k) s := fun j k s hj => by
    rw [q5.J 0 j (Nat.zero_lt_one), hJ j k s hj]
  have hsz2 : g2.sz = g.sz := q5.later.sz
  have hlat2 : Later g2 w' (g.unview ps E.d w.heap.size g2) w' := ⟨hsz2.symm, fun b o v h1 h2 => ⟨stable_unview held h1, h2⟩, fun b x h1 h2 => ⟨imm_unview held h1, h2⟩⟩
  have hlat' : Later g w (g.unview ps E.d w.heap.size g2) w' := (hlat.trans q5.later).trans hlat2
  have hdom2 : ∀ (j : Nat) (p : Nat × Nat), ps[j]? = some p → ∃ B₂, frGet j (frOf 0 Bs₂) = some B₂ ∧ ∃ B', Bs'[j]? = some B' ∧ BRen (fun k s i => ps[i]? = some (p.1 + k, s)) B' B₂ := fun j p hj => by
    have hj' : j < Bs'.length := by rw [hlen']; exact (List.getElem?_eq_some_iff.1 hj).1
    obtain ⟨B₂, h1, h2⟩ := r3 j p _ hj (List.getElem?_eq_getElem hj')
    exact ⟨B₂, by rw [frGet_of0]; exact h1, _, List.getElem?_eq_getElem hj', h2⟩
  have hdm : memDom (setAll ps Bs' m) = memDom m := by
    funext k s
    by_cases hx : ∃ j : Nat, ps[j]? = some (k, s)
    · obtain ⟨j, hj⟩ := hx
      obtain ⟨B₂, _, B', h1, _⟩ := hdom2 j _ hj
      obtain ⟨B, _, h2, _⟩ := hget j _ hj
      have h3 := setAll_get ps Bs' m j k s B' hone hj h1 (box_lt _ _ _ _ h2)
      exact propext ⟨fun _ => ⟨_, h2⟩, fun _ => ⟨_, h3⟩⟩
    · have := setAll_other ps Bs' m (k := k) (s := s) (fun j hj => hx ⟨j, hj⟩)
      unfold memDom; rw [this]
  refine ⟨us', g.unview ps E.d w.heap.size g2, E, rfl, ⟨hlat', rfl, fun _ _ h => h, fun _ _ _ _ => rfl, fun s e v ho => own_restore held rfl ho⟩, ⟨fun k s b hbx => ?_, ?_, hh.sk.later hlat', by rw [setAll_length]; exact hh.len⟩, ?_, ?_⟩
  · by_cases hx : ∃ j : Nat, ps[j]? = some (k, s)
    · obtain ⟨j, hj⟩ := hx
      obtain ⟨B₂, hB₂, B', h1, h2⟩ := hdom2 j _ hj
      obtain ⟨B, _, h3, _⟩ := hget j _ hj
      rw [setAll_get ps Bs' m j k s B' hone hj h1 (box_lt _ _ _ _ h3)] at hbx
      injection hbx with hbx
      subst hbx
      have hr := hh.mem _ _ _ h3
      have hr2 := q2.mem 1 j B₂ hB₂
      have hd2 : E2.d = 1 := q4
      obtain ⟨cs, a1, a2, a3⟩ := hr2.heap
      rw [hd2, hJ2 j k s hj] at a1
      have hp2 := hr2.perm
      rw [hd2, hJ2 j k s hj] at hp2
      refine ⟨hr.le, ?_, cs, by rw [← h2.ty]; exact a1, by rw [a2, h2.len], fun i c hc => ?_⟩
      · show (g.unview ps E.d w.heap.size g2).Γ (g.J (E.d - k) s) = _
        rw [unview_back]
        · rw [hp2]
          show (match ps[j]? with | some p => Perm.box (E.d - p.1) p.2 | none => .low 0) = _
          rw [hj]
        · rintro ⟨_, hs⟩
          rw [hr.perm] at hs
          simp only [Perm.view, posOf_at hp hj] at hs
          cases hs
      · have hi : i < B₂.cells.length := by rw [h2.len]; exact (List.getElem?_eq_some_iff.1 hc).1
        have hcc := List.getElem?_eq_getElem hi
        have hcr := h2.cell i c _ hc hcc
        obtain ⟨b1, b2, b3, b4⟩ := a3 i _ hcc
        obtain ⟨_, s2, s3⟩ := cren_shape hcr
        refine ⟨(s2 ⟨b1, b2⟩).1, (s2 ⟨b1, b2⟩).2, fun e => ?_, ?_⟩
        · have := b3 (s3.1 e)
          rw [hd2, hJ2 j k s hj] at this
          exact this
        · refine cell_ren' hcr hlat2 hr.le (fun e ho => by rw [hd2] at ho; exact own_unview hsz2 held hj ho) ?_ b4
          intro a b j' hq _ _
          obtain ⟨B3, B3', c1, _, _⟩ := hget j' _ hq
          have hle := hp.le _ _ hq
          simp only at hle
          refine ⟨by omega, ?_, ?_⟩
          · rw [hh.dom, Nat.add_comm]; exact ⟨_, c1⟩
          · show g.J (E.d - (a + k)) b = g2.J (E2.d - (0 + 1)) j'
            rw [hd2, hJ2 j' _ _ hq, Nat.add_comm]
    · rw [setAll_other ps Bs' m (k := k) (s := s) (fun j hj => hx ⟨j, hj⟩)] at hbx
      have hr := hh.mem _ _ _ hbx
      obtain ⟨cs, a1, a2, a3⟩ := hr.heap
      have hn := posOf_none hp hr.le (fun j hj => hx ⟨j, hj⟩)
      have hlt := heap_lt a1
      have hs : ((g.Γ (g.J (E.d - k) s)).view ps E.d).still = true := by rw [hr.perm]; simp only [Perm.view, hn]; rfl
      refine ⟨hr.le, ?_, cs, ?_, a2, fun i c hc => ?_⟩
      · show (g.unview ps E.d w.heap.size g2).Γ (g.J (E.d - k) s) = _
        rw [unview_still hlt hs]; exact hr.perm
      · show w'.heap[g.J (E.d - k) s]? = _
        rw [held.heap _ hlt hs]; exact a1
      · obtain ⟨b1, b2, b3, b4⟩ := a3 i c hc
        refine ⟨b1, b2, b3, ?_⟩
        exact cell_move b2 b4 (by simp) (fun _ _ => true) hlat' rfl (fun _ _ h _ => h) (fun _ _ _ _ _ => rfl) (fun e v ho => own_restore held (by simp only [inP, hn, Option.map_none]) ho) (fun _ => true) (fun _ _ _ _ => rfl) (fun _ _ _ _ _ _ => rfl) (fun _ _ _ _ _ => rfl) (fun _ _ _ _ _ => rfl) rfl (fun _ _ => rfl)
  · rw [hdm]; exact hh.dom
  · have := q3.far_ (E' := E) (dead' := []) hlat2 r1
    rwa [r2] at this
  · refine ⟨q5.os, q5.tape, q5.output, q5.size, hlat', fun b hb hi => ?_, fun _ _ _ => rfl⟩
    have hs : ((g.Γ b).view ps E.d).still = true := by
      rcases hi with hi | ⟨n, hi⟩ <;> rw [hi] <;> rfl
    exact ⟨unview_still hb hs, held.heap b hb hs⟩
end
end Go.Proofs.YtjpmogajlnkihaaDoor.En

/- The engine, part 2e: tables of functions that are given variables. -/
namespace Go.Proofs.YtjpmogajlnkihaaDoor.En
open Go
set_option linter.unusedVariables false
structure MEnt where
  f : FuncId
  k : {R : Type} → Nat → List D → Mem → (List D → Mem → Option R) → Option R
def tabMK {R : Type} : List MEnt → FuncId → Nat → List D → Mem → (List D → Mem → Option R) → Option R
  | [], _, _, _, _, _ => none
  | e :: r, g, dst, ds, m, K => cond (Nat.beq e.f g) (e.k dst ds m K) (tabMK r g dst ds m K)
def hasPlace (p : Nat × Nat) : List (Nat × Nat) → Bool
  | [] => false
  | q :: r => cond (Nat.beq p.1 q.1) (cond (Nat.beq p.2 q.2) true (hasPlace p r)) (hasPlace p r)
def distinct : List (Nat × Nat) → Bool
  | [] => true
  | p :: r => cond (hasPlace p r) false (distinct r)
def getAllK {R : Type} : List (Nat × Nat) → Mem → (List Bx → Option R) → Option R
  | [], _, K => K []
  | p :: r, m, K => (match m.box? p.1 p.2 with | some B => getAllK r m fun Bs => K (B :: Bs) | none => none)
/-- The variables at the places ps, which are different ones. -/
def viewK {R : Type} (ps : List (Nat × Nat)) (m : Mem) (K : List Bx → Option R) : Option R := cond (distinct ps) (getAllK ps m K) none
def putAllK {R : Type} : List (Nat × Nat) → List Bx → Mem → (Mem → Option R) → Option R
  | p :: ps, B :: Bs, m, K => memPutK m p.1 p.2 B fun m => putAllK ps Bs m K
  | _, _, m, K => K m
/- Cells that hold no pointer to a variable. -/
def D.calm : D → Bool
  | .v _ _ => true
  | .bld => true
  | .nilp => true
  | .nilF => true
  | .eptr _ _ => true
  | _ => false
def calmB : List Bx → Bool
  | [] => true
  | B :: r => B.cells.all D.calm && calmB r
section
variable {R : Type} {P : Program} {T : TypeId → Option Ty} {cx : Cx}
theorem hasPlace_of {p : Nat × Nat} : ∀ (l : List (Nat × Nat)), hasPlace p l = false → ∀ j : Nat, l[j]? ≠ some p
  | [], _, j, h => by simp at h
  | q :: r, h, j, hj => by
    unfold hasPlace at h
    have hr : hasPlace p r = false := by
      cases h1 : Nat.beq p.1 q.1 <;> cases h2 : Nat.beq p.2 q.2 <;> rw [h1, h2] at h <;> simp at h <;> exact h
    rcases j with _ | j
    · simp at hj; subst hj
      simp at h
    · exact hasPlace_of r hr j (by simpa using hj)
theorem distinct_of : ∀ (l : List (Nat × Nat)), distinct l = true → ∀ (i j : Nat) (p : Nat × Nat), l[i]? = some p → l[j]? = some p → i = j
  | [], _, i, j, p, h, _ => by simp at h
  | q :: r, h, i, j, p, h1, h2 => by
    unfold distinct at h
    cases hq : hasPlace q r with
    | true => rw [hq] at h; cases h
    | false =>
      rw [hq, cond_false] at h
      rcases i with _ | i <;> rcases j with _ | j
      · rfl
      · simp at h1; subst h1; exact absurd (by simpa using h2) (hasPlace_of r hq j)
      · simp at h2; subst h2; exact absurd (by simpa using h1) (hasPlace_of r hq i)
      · have := distinct_of r h i j p (by simpa using h1) (by simpa using h2)
        omega
theorem getAllK_some {m : Mem} : ∀ (ps : List (Nat × Nat)) (K : List Bx → Option R) (r : R), getAllK ps m K = some r → ∃ Bs, (∀ (j : Nat) (p : Nat × Nat), ps[j]? = some p → ∃ B, m.box? p.1 p.2 = some B ∧ Bs[j]? = some B) ∧ Bs.length = ps.length ∧ K Bs = some r
  | [], K, r, h => ⟨[], fun j p hj => by simp at hj, rfl, h⟩
  | p :: ps, K, r, h => by
    unfold getAllK at h
    split at h
    · rename_i B hB
      obtain ⟨Bs, h1, h2, h3⟩ := getAllK_some ps _ r h
      refine ⟨B :: Bs, fun j q hj => ?_, by simp [h2], h3⟩
      rcases j with _ | j
      · simp at hj; subst hj; exact ⟨B, hB, rfl⟩
      · simpa using h1 j q (by simpa using hj)
    · cases h
theorem viewK_some {ps : List (Nat × Nat)} {m : Mem} {K : List Bx → Option R} {r : R} (h : viewK ps m K = some r) :
    ∃ Bs, (∀ (i j : Nat) (p : Nat × Nat), ps[i]? = some p → ps[j]? = some p → i = j) ∧ (∀ (j : Nat) (p : Nat × Nat), ps[j]? = some p → ∃ B, m.box? p.1 p.2 = some B ∧ Bs[j]? = some B) ∧ Bs.length = ps.length ∧ K Bs = some r := by
  unfold viewK at h
  rcases cond_some h with ⟨h1, h⟩ | ⟨_, h⟩
  · obtain ⟨Bs, a, b, c⟩ := getAllK_some ps K r h
    exact ⟨Bs, distinct_of ps h1, a, b, c⟩
  · cases h
theorem putAllK_eq : ∀ (ps : List (Nat × Nat)) (Bs : List Bx) (m : Mem) (K : Mem → Option R), putAllK ps Bs m K = K (setAll ps Bs m)
  | [], _, m, K => by simp [putAllK, setAll]
  | _ :: _, [], m, K => by simp [putAllK, setAll]
  | p :: ps, B :: Bs, m, K => by simp only [putAllK, setAll, memPutK_eq, putAllK_eq ps Bs]
/-- An argument as the caller has it, and as the callee sees it. -/
def ARen (ps : List (Nat × Nat)) (y y₁ : D) : Prop := Ren (fun k s k₁ s₁ => ∃ k', k = k' + 1 ∧ k₁ = 1 ∧ ps[s₁]? = some (k', s)) y y₁
def ARens (ps : List (Nat × Nat)) : List D → List D → Prop
  | [], [] => True
  | y :: ys, y₁ :: ys₁ => ARen ps y y₁ ∧ ARens ps ys ys₁
  | _, _ => False
theorem ARens.get {ps : List (Nat × Nat)} : ∀ {l l₁ : List D}, ARens ps l l₁ → l₁.length = l.length ∧ ∀ (i : Nat) y y₁, l[i]? = some y → l₁[i]? = some y₁ → ARen ps y y₁
  | [], [], _ => ⟨rfl, fun i y y₁ h => by simp at h⟩
  | y :: ys, y₁ :: ys₁, ⟨h1, h2⟩ => by
    obtain ⟨a, b⟩ := ARens.get h2
    refine ⟨by simp [a], fun i z z₁ hz hz₁ => ?_⟩
    rcases i with _ | i
    · simp at hz hz₁; subst hz hz₁; exact h1
    · exact b i z z₁ (by simpa using hz) (by simpa using hz₁)
theorem aren_ptr {ps : List (Nat × Nat)} {k s j : Nat} (o : Nat) (h : ps[j]? = some (k, s)) : ARen ps (.ptr (k + 1) s o) (.ptr 1 j o) := .ptr o ⟨k, rfl, rfl, h⟩
theorem aren_v {ps : List (Nat × Nat)} (x : V) : ARen ps (.v x .no) (.v x .no) := .v x
/-- What a function leaves that is given variables; their cells hold no pointers. -/
def ViewRet (P : Program) (T : TypeId → Option Ty) (f : FuncId) (ds₁ : List D) (Bs : List Bx) (rs : List D) (Bs' : List Bx) : Prop :=
  ∀ (ps : List (Nat × Nat)) (ds : List D) (m : Mem) (dst : Nat), (∀ (i j : Nat) (p : Nat × Nat), ps[i]? = some p → ps[j]? = some p → i = j) →
    (∀ (j : Nat) (p : Nat × Nat), ps[j]? = some p → ∃ B, m.box? p.1 p.2 = some B ∧ Bs[j]? = some B) → Bs.length = ps.length → ARens ps ds ds₁ → MemRet P T f dst ds m rs (setAll ps Bs' m)
theorem calm_ren {Q : Nat → Nat → Nat → Prop} {c : D} (h : c.calm = true) : CRen Q c c := by
  cases c with
  | v x a => exact .v x a
  | bld => exact .bld
  | nilp => exact .ren (by simp) (by simp) rfl rfl rfl rfl (by simp) .nilp
  | nilF => exact .ren (by simp) (by simp) rfl rfl rfl rfl (by simp) .nilF
  | eptr cs o => exact .ren (by simp) (by simp) rfl rfl rfl rfl (by simp) (.eptr cs o)
  | _ => cases h
theorem calmB_get : ∀ (Bs : List Bx), calmB Bs = true → ∀ (j : Nat) B, Bs[j]? = some B → ∀ {Q : Nat → Nat → Nat → Prop}, BRen Q B B
  | [], _, j, B, h => by simp at h
  | B :: Bs, h, j, B', hj => by
    simp only [calmB, Bool.and_eq_true] at h
    rcases j with _ | j
    · simp at hj; subst hj
      refine ⟨rfl, rfl, fun i c c₁ h1 h2 => ?_⟩
      rw [h1] at h2
      injection h2 with h2
      subst h2
      exact calm_ren (List.all_eq_true.1 h.1 c (List.mem_of_getElem? h1))
    · exact calmB_get Bs h.2 j B' (by simpa using hj)
theorem view_of (hm : P.follows .mixedOrders = true) (hcx : CxOK P cx) {f : FuncId} {fn : Func} (hf : P.funcs[f]? = some fn) (hb : fn.body = some (bodyOf fn)) (hro : (drawnOf (bodyOf fn)).all (orderB cx) = true) (hl : LoopsOK cx fn.ntmps (bodyOf fn))
    {ds₁ : List D} (hargs : Nat.ble ds₁.length fn.ntmps = true) {Bs Bs' : List Bx} (hc : calmB Bs = true) (hc' : calmB Bs' = true) (hlen : Bs'.length = Bs.length) {α : Type} {rf : List D → Mem → Option α} {r : α} (h : bodyK cx fn ds₁ [frOf 0 Bs] rf = some r)
    {rs : List D} (hrs : ∀ rs' m', rf rs' m' = some r → fars rs' = true ∧ bares rs' = rs ∧ ∃ own, m' = [own, frOf 0 Bs']) : ViewRet P cx.T f ds₁ Bs rs Bs' := by
  intro ps ds m dst hone hget hlB har
  obtain ⟨a1, a2⟩ := har.get
  refine view_entry hcx hf hb (regionsOK_of hm hcx hro) hl (Nat.le_of_ble_eq_true hargs) hone (Bs₁ := Bs) (fun j p hj => ?_) hlB a1 a2 h (by rw [hlen, hlB]) (fun rs' m' hr => ?_) dst
  · obtain ⟨B, h1, h2⟩ := hget j p hj
    exact ⟨B, B, h1, h2, calmB_get Bs hc j B h2⟩
  · obtain ⟨b1, b2, own, b3⟩ := hrs rs' m' hr
    exact ⟨b1, b2, own, Bs', b3, fun j p B' hj hB => ⟨B', hB, calmB_get Bs' hc' j B' hB⟩⟩
structure MEntOK (P : Program) (T : TypeId → Option Ty) (e : MEnt) : Prop where
  goes : Goes P e.f
  ret : ∀ (R : Type) (dst : Nat) (ds : List D) (m : Mem) (K : List D → Mem → Option R) (r : R), e.k dst ds m K = some r → ∃ rs m', K rs m' = some r ∧ MemRet P T e.f dst ds m rs m'
def MEntsOK (P : Program) (T : TypeId → Option Ty) : List MEnt → Prop
  | [] => True
  | e :: r => MEntOK P T e ∧ MEntsOK P T r
theorem tabMK_ok {g : FuncId} {dst : Nat} {ds : List D} {m : Mem} {K : List D → Mem → Option R} {r : R} : ∀ (l : List MEnt), MEntsOK P T l → tabMK l g dst ds m K = some r → ∃ rs m', K rs m' = some r ∧ Goes P g ∧ MemRet P T g dst ds m rs m'
  | [], _, h => by cases h
  | e :: l, ho, h => by
    unfold tabMK at h
    cases hb : Nat.beq e.f g with
    | true =>
      have he := Nat.eq_of_beq_eq_true hb
      rw [hb, cond_true] at h
      obtain ⟨rs, m', h1, h2⟩ := ho.1.ret R dst ds m K r h
      subst he
      exact ⟨rs, m', h1, ho.1.goes, h2⟩
    | false => rw [hb, cond_false] at h; exact tabMK_ok l ho.2 h
theorem cxOK_of2 {es : List Ent} {me : List MEnt} {ms : List Met} (hT : TypesOK P cx.T) (hes : EntsOK P cx.T es) (hme : MEntsOK P cx.T me) (hms : MetsOK P ms) (h1 : cx.isPure = tabP es) (h2 : ∀ (R : Type) (g : FuncId) (ds : List D) (K : List D → Option R), cx.pureK g ds K = tabK es g ds K)
    (h3 : ∀ (R : Type) (g : FuncId) (dst : Nat) (ds : List D) (m : Mem) (K : List D → Mem → Option R), cx.memK g dst ds m K = tabMK me g dst ds m K) (h4 : cx.meth = tabM ms) : CxOK P cx := by
  refine ⟨hT, fun R g ds K r _ h => ?_, fun R g dst ds m K r _ h => ?_, fun R g ds K => ?_, fun t n f h => ?_⟩
  · rw [h2] at h; exact tabK_ok es hes h
  · rw [h3] at h; exact tabMK_ok me hme h
  · rw [h2, h2]; exact tabK_b es hes
  · rw [h4] at h; exact tabM_ok ms hms h
end
end Go.Proofs.YtjpmogajlnkihaaDoor.En

/- The engine, part 2l: several entries of one function, told apart by the closure that it is given. -/
namespace Go.Proofs.YtjpmogajlnkihaaDoor.En
open Go
set_option linter.unusedVariables false
section
variable {P : Program} {T : TypeId → Option Ty}
end
end Go.Proofs.YtjpmogajlnkihaaDoor.En
