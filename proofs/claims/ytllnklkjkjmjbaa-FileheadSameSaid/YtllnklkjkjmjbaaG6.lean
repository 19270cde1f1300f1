/- Several texts in one. -/
import Derived.Test.YtllnklkjkjmjbaaG4
import Derived.Test.YtllnklkjkjmjbaaRows
import Derived.ProofKit
import Derived.OpenShut
import Derived.ShutString
import Derived.ChangeOld
import Derived.Below
import Derived.Lib.SmallJoins
import Derived.Test.YtllnklkjkjmjbaaG5

set_option linter.unusedSimpArgs false
set_option linter.unusedVariables false
set_option linter.unusedSectionVars false
/- The engine, part 2s: rows: arguments that came in, what a law's function leaves. -/
namespace Go.Proofs.Ytllnklkjkjmjbaa.En
open Go Go.RowKit Go.WideShapes
set_option linter.unusedVariables false
theorem own : ownKnob Try.prog.godebug = none := by kernel_rfl
theorem laidOut : laidOutB Try.prog = true := by kernel_rfl
section
variable {P : Program} {T : TypeId → Option Ty} {f : FuncId} {w : World}
def noEnv : Env := { d := 0, dom := fun _ _ => False }
theorem walk_of {ds : List D} (hp : PureRet P T f ds [.v (.bool true) .no]) {us : List Value} (hr : RepDs noEnv (immG T) w [] ds us) :
    Calls P f us.toArray w fun e w' => e = .returned (.bool true) ∧ Below w.heap.size w w' := by
  refine (hp noEnv (immG T) w us rfl hr).mono ?_
  rintro e w' ⟨us', g', rfl, h1, h2⟩
  obtain ⟨l, hr'⟩ := h1 noEnv
  match us', l with
  | [u], _ =>
  have := hr' 0 _ rfl
  simp only [List.getD_cons_zero] at this
  cases this with
  | v x a v h ha =>
  cases h
  exact ⟨rfl, ⟨h2.grows.os, h2.grows.tape, h2.grows.output, h2.grows.size, h2.grows.old⟩⟩
theorem reps_nil : RepDs noEnv (immG T) w [] [] [] := ⟨rfl, fun k y h => by simp at h⟩
theorem reps_cons {d : D} {u : Value} {ds : List D} {us : List Value} (h : RepD noEnv (immG T) w [] d u) (hs : RepDs noEnv (immG T) w [] ds us) : RepDs noEnv (immG T) w [] (d :: ds) (u :: us) :=
  ⟨by simp [hs.1], fun k y hk => by
    rcases k with _ | k
    · simp at hk; subst hk; exact h
    · simpa using hs.2 k y (by simpa using hk)⟩
theorem rep_v {x : V} {u : Value} (h : RepV (immG T) w x u) : RepD noEnv (immG T) w [] (.v x .no) u := .v _ _ _ h trivial
theorem rep_agg {cs : List V} {u : Value} (h : RepV (immG T) w (.agg cs) u) : RepD noEnv (immG T) w [] (.agg (cs.map vD)) u := by
  cases h with
  | agg cs us hn hr =>
    refine .agg _ us (by simpa using hn) fun k y hk => ?_
    rw [List.getElem?_map, Option.map_eq_some_iff] at hk
    obtain ⟨z, hz, rfl⟩ := hk
    exact .v _ _ _ (hr k z hz) trivial
variable {H : Type} {enc : TypeId × Value → H} {base : Nat} {spare : Nat → Bool} {held : Bool} {r : Reach} {b0 : Nat} {t : TypeId} {v : Value} {d : DataW H} {ps : List MemPlace} {l : List TypeId}
theorem row_of (hT : TypesOK P T) {desc : TypeDesc} (ht : P.underlying t = some desc) {ty : Ty} (h : T t = some ty) : ty.desc = desc := by
  have := (hT t ty h).desc
  rw [ht] at this
  injection this with this
  exact this.symm
theorem cells_self {x : V} (h : x = mkEl false (V.cells x)) : V.cells x = [x] := by
  cases x with
  | agg cs =>
    exfalso
    simp only [V.cells, mkEl] at h
    cases cs with
    | nil => simp at h
    | cons c r =>
      have h' : V.agg (c :: r) = c := h
      have : _root_.SizeOf.sizeOf (V.agg (c :: r)) = _root_.SizeOf.sizeOf c := by rw [h']
      simp at this
      omega
  | _ => rfl
theorem fits_self (hT : TypesOK P T) {desc : TypeDesc} (ht : P.underlying t = some desc) (hnr : ∀ ty : Ty, ty.desc = desc → ty.row = false) {n : Nat} {x : V} (h1 : Fits T n t (V.cells x)) (h3 : ∀ ty, T t = some ty → x = mkEl ty.row (V.cells x)) : Fits T n t [x] := by
  cases hTt : T t with
  | none => cases n <;> simp [Fits, hTt] at h1
  | some ty =>
    have := h3 ty hTt
    rw [hnr ty (row_of hT ht hTt)] at this
    rw [← cells_self this]; exact h1
theorem arg_int (hT : TypesOK P T) (hl : closedT T l = true) (hm : t ∈ l) {k : IntKind} (ht : P.underlying t = some (.int k)) (hv : Value.okWide P w r b0 t v) (hd : DataW.Trod enc P w base spare held t v d ps) :
    ∃ n x, Fits T n t [x] ∧ RepV (immG T) w x v := by
  obtain ⟨i, rfl⟩ := okWide_int ht hv
  obtain ⟨n, x, h1, h2, h3⟩ := arg_rep hT hl hm (fun ty hty => ⟨fun hr => (by rw [Ty.row, row_of hT ht hty] at hr; cases hr), fun _ => rfl⟩) hd
  exact ⟨n, x, fits_self hT ht (fun ty e => by rw [Ty.row, e]) h1 h3, h2⟩
theorem arg_struct (hT : TypesOK P T) (hl : closedT T l = true) (hm : t ∈ l) {fs : Array Field} (ht : P.underlying t = some (.struct fs)) (hv : Value.okWide P w r b0 t v) (hd : DataW.Trod enc P w base spare held t v d ps) :
    ∃ n cs, Fits T n t cs ∧ RepV (immG T) w (.agg cs) v := by
  obtain ⟨cs, rfl, _⟩ := okWide_struct ht hv
  obtain ⟨n, x, h1, h2, h3⟩ := arg_rep hT hl hm (fun ty hty => ⟨fun _ => ⟨cs, rfl⟩, fun hr => (by rw [Ty.row, row_of hT ht hty] at hr; cases hr)⟩) hd
  cases h2 with
  | agg ys us a b => exact ⟨n, ys, h1, .agg ys _ a b⟩
/-- What fits a type of one cell. -/
theorem fits_int {k : IntKind} {ty : Ty} (h : T t = some ty) (hd : ty.desc = .int k) {n : Nat} {xs : List V} (hf : Fits T n t xs) : ∃ i, xs = [.int k i] ∧ k.min ≤ i ∧ i ≤ k.max := by
  cases n with
  | zero => cases hf
  | succ n => unfold Fits at hf; rw [h] at hf; simp only [hd] at hf; exact hf
theorem fits_bytes {e e' : TypeId} {ty : Ty} (h : T t = some ty) (hd : ty.desc = .slice e) (hc : ty.cks = [.bytes e']) {n : Nat} {xs : List V} (hf : Fits T n t xs) : ∃ s, xs = [.bytes s] ∧ s.length ≤ maxLen := by
  cases n with
  | zero => cases hf
  | succ n => unfold Fits at hf; rw [h] at hf; simp only [hd, hc] at hf; exact hf
theorem fits_slice {e e' : TypeId} {ty te : Ty} (h : T t = some ty) (hd : ty.desc = .slice e) (hc : ty.cks = [.slc e']) (he : T e = some te) {n : Nat} {xs : List V} (hf : Fits T n t xs) :
    ∃ m ys, n = m + 1 ∧ xs = [.sl e ys] ∧ ys.length ≤ maxLen ∧ ∀ y ∈ ys, ∃ cs, y = mkEl te.row cs ∧ Fits T m e cs := by
  cases n with
  | zero => cases hf
  | succ n =>
    unfold Fits at hf; rw [h] at hf; simp only [hd, hc] at hf
    obtain ⟨rfl, ys, h1, h2, h3⟩ := hf
    refine ⟨n, ys, rfl, h1, h2, fun y hy => ?_⟩
    obtain ⟨te', cs, h4, h5, h6⟩ := h3 y hy
    rw [he] at h4
    injection h4 with h4
    subst h4
    exact ⟨cs, h5, h6⟩
theorem fits_struct {fs : Array Field} {ty : Ty} (h : T t = some ty) (hd : ty.desc = .struct fs) {n : Nat} {xs : List V} (hf : Fits T n t xs) : ∃ m, n = m + 1 ∧ FitsFs (Fits T m) fs.toList xs := by
  cases n with
  | zero => cases hf
  | succ n => unfold Fits at hf; rw [h] at hf; simp only [hd] at hf; exact ⟨n, rfl, hf⟩
end
end Go.Proofs.Ytllnklkjkjmjbaa.En

/- What the arguments of chapter 15 read as. -/
namespace Go.Proofs.Ytllnklkjkjmjbaa.En
open Go Go.RowKit
set_option linter.unusedVariables false
/-- A condition that came in. -/
structure ArgC (o m : Int) (k : Cl) : Prop where
  o : I64 o
  m : I64 m
  wf : k.wf
  len : K63 k
/-- Rules that came in. -/
structure ArgR (l : List Ru) : Prop where
  all : ∀ r ∈ l, ArgC r.o r.m r.k ∧ I64 r.ops
  len : l.length ≤ 9223372036854775807
def sumR : List Ru → Nat
  | [] => 0
  | r :: l => r.k.nodes + 1 + sumR l
theorem sumR_mem : ∀ {l : List Ru} {r : Ru}, r ∈ l → r.k.nodes + 1 ≤ sumR l
  | a :: l, r, h => by
    unfold sumR
    rcases List.mem_cons.1 h with rfl | h
    · omega
    · have := sumR_mem h; omega
theorem sumR_len : ∀ l : List Ru, l.length ≤ sumR l
  | [] => Nat.le_refl _
  | r :: l => by have := sumR_len l; simp only [List.length_cons, sumR]; omega
theorem T_int : T 3 = some ty3 := by kernel_rfl
theorem T_bytes : T 22 = some ty22 := by kernel_rfl
theorem T_cond : T 46 = some ty46 := by kernel_rfl
theorem T_conds : T 44 = some ty44 := by kernel_rfl
theorem T_rule : T 48 = some ty48 := by kernel_rfl
theorem T_rules : T 23 = some ty23 := by kernel_rfl
theorem T_file : T 25 = some ty25 := by kernel_rfl
theorem max63 {n : Nat} (h : n ≤ maxLen) : n ≤ 9223372036854775807 := by unfold maxLen at h; omega
theorem cl_of : ∀ (n : Nat) (ys : List V), (∀ y ∈ ys, ∃ cs, y = mkEl true cs ∧ Fits T n 46 cs) → ys.length ≤ maxLen → ∃ l : Cl, ys = l.enc ∧ l.wf ∧ K63 l := by
  intro n
  induction n using Nat.strongRecOn with
  | ind n IH =>
    intro ys
    induction ys with
    | nil => intro _ _; exact ⟨.nil, rfl, trivial, Nat.zero_le _⟩
    | cons y ys ih =>
      intro hy hl
      obtain ⟨r, h1, h2, _⟩ := ih (fun z hz => hy z (List.mem_cons_of_mem _ hz)) (by simp at hl; omega)
      obtain ⟨cs, rfl, hc⟩ := hy y (by simp)
      obtain ⟨m, rfl, a, r1, rfl, ha, b, r2, rfl, hb, c, r3, rfl, hcc, rfl⟩ := fits_struct T_cond rfl hc
      obtain ⟨t, rfl, t1, t2⟩ := fits_int T_int rfl ha
      obtain ⟨v, rfl, v1, v2⟩ := fits_int T_int rfl hb
      obtain ⟨m', ks, rfl, rfl, k1, k2⟩ := fits_slice T_conds rfl rfl T_cond hcc
      obtain ⟨k, rfl, k3, k4⟩ := IH m' (by omega) ks k2 k1
      refine ⟨.cons t v k r, by rw [h1]; rfl, ⟨⟨t1, t2⟩, ⟨v1, v2⟩, k4, k3, h2⟩, ?_⟩
      show r.len + 1 ≤ _
      rw [h1] at hl
      simp only [List.length_cons, Cl.enc_len] at hl
      exact max63 hl
theorem cond_arg {n : Nat} {cs : List V} (h : Fits T n 46 cs) : ∃ (o m : Int) (k : Cl), cs = [.int .i64 o, .int .i64 m, .sl 46 k.enc] ∧ ArgC o m k := by
  obtain ⟨m, rfl, a, r1, rfl, ha, b, r2, rfl, hb, c, r3, rfl, hcc, rfl⟩ := fits_struct T_cond rfl h
  obtain ⟨t, rfl, t1, t2⟩ := fits_int T_int rfl ha
  obtain ⟨v, rfl, v1, v2⟩ := fits_int T_int rfl hb
  obtain ⟨m', ks, rfl, rfl, k1, k2⟩ := fits_slice T_conds rfl rfl T_cond hcc
  obtain ⟨k, rfl, k3, k4⟩ := cl_of m' ks k2 k1
  exact ⟨t, v, k, rfl, ⟨t1, t2⟩, ⟨v1, v2⟩, k3, k4⟩
theorem rules_of (n : Nat) : ∀ (ys : List V), (∀ y ∈ ys, ∃ cs, y = mkEl true cs ∧ Fits T n 48 cs) → ∃ l : List Ru, ys = rE l ∧ ∀ r ∈ l, ArgC r.o r.m r.k ∧ I64 r.ops
  | [], _ => ⟨[], rfl, by simp⟩
  | y :: ys, h => by
    obtain ⟨l, h1, h2⟩ := rules_of n ys fun z hz => h z (List.mem_cons_of_mem _ hz)
    obtain ⟨cs, rfl, hc⟩ := h y (by simp)
    obtain ⟨m, rfl, a, r1, rfl, ha, b, r2, rfl, hb, rfl⟩ := fits_struct T_rule rfl hc
    obtain ⟨i, rfl, i1, i2⟩ := fits_int T_int rfl ha
    obtain ⟨o, m', k, rfl, g⟩ := cond_arg hb
    refine ⟨⟨i, o, m', k⟩ :: l, by rw [h1]; rfl, fun r hr => ?_⟩
    rcases List.mem_cons.1 hr with rfl | hr
    · exact ⟨g, i1, i2⟩
    · exact h2 r hr
theorem int_arg {n : Nat} {x : V} (h : Fits T n 3 [x]) : ∃ i : Int, x = .int .i64 i ∧ I64 i := by
  obtain ⟨i, e, h1, h2⟩ := fits_int T_int rfl h
  injection e with e _
  exact ⟨i, e, h1, h2⟩
/-- A header that came in. -/
structure ArgH (f : Fi) : Prop where
  rules : ArgR f.rules
  name : f.name.length ≤ 9223372036854775807
theorem ArgH.argF {f : Fi} (g : ArgH f) {N : Nat} (h : 200000 < N) (h' : sumR f.rules < N) : ArgF N f := by
  have := sumR_len f.rules
  refine ⟨h, fun r hr => ?_, by omega, g.rules.len, g.name⟩
  have := sumR_mem hr
  obtain ⟨ga, gb⟩ := g.rules.all r hr
  exact ⟨ga.wf, ga.len, by omega⟩
def Fi.cells (f : Fi) : List V := [.int .i64 f.id, .int .i64 f.kind, .bytes f.name, .int .i64 f.short, .int .i64 f.size, .int .i64 f.length, .int .i64 f.recs, .int .i64 f.state, .sl 48 (rE f.rules)]
theorem file_arg {n : Nat} {cs : List V} (h : Fits T n 25 cs) : ∃ f : Fi, cs = [.int .i64 f.id, .int .i64 f.kind, .bytes f.name, .int .i64 f.short, .int .i64 f.size, .int .i64 f.length, .int .i64 f.recs, .int .i64 f.state, .sl 48 (rE f.rules)] ∧ ArgH f := by
  obtain ⟨m, rfl, a1, r1, rfl, h1, a2, r2, rfl, h2, a3, r3, rfl, h3, a4, r4, rfl, h4, a5, r5, rfl, h5, a6, r6, rfl, h6, a7, r7, rfl, h7, a8, r8, rfl, h8, a9, r9, rfl, h9, rfl⟩ := fits_struct T_file rfl h
  obtain ⟨v1, rfl, _⟩ := fits_int T_int rfl h1
  obtain ⟨v2, rfl, _⟩ := fits_int T_int rfl h2
  obtain ⟨v3, rfl, b3⟩ := fits_bytes T_bytes rfl rfl h3
  obtain ⟨v4, rfl, _⟩ := fits_int T_int rfl h4
  obtain ⟨v5, rfl, _⟩ := fits_int T_int rfl h5
  obtain ⟨v6, rfl, _⟩ := fits_int T_int rfl h6
  obtain ⟨v7, rfl, _⟩ := fits_int T_int rfl h7
  obtain ⟨v8, rfl, _⟩ := fits_int T_int rfl h8
  obtain ⟨m', ys, rfl, rfl, k1, k2⟩ := fits_slice T_rules rfl rfl T_rule h9
  obtain ⟨l, rfl, k3⟩ := rules_of m' ys k2
  rw [rE_len] at k1
  exact ⟨⟨v1, v2, v3, v4, v5, v6, v7, v8, l⟩, rfl, ⟨k3, max63 k1⟩, max63 b3⟩
/-- The types that the arguments lead to. -/
def argTys : List TypeId := [44, 46, 48, 23, 25, 3, 22, 5]
theorem argTys_ok : closedT T argTys = true := by kernel_rfl
end Go.Proofs.Ytllnklkjkjmjbaa.En
