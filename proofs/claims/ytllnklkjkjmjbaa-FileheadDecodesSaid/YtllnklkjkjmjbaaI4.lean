/- Several texts in one. -/
import Derived.Test.YtllnklkjkjmjbaaI3

set_option linter.unusedSimpArgs false
set_option linter.unusedVariables false
set_option linter.unusedSectionVars false
/- Functions of the program in plain Lean, joined to the program by evaluation; printed by a program. -/
namespace Go.Proofs.Ytllnklkjkjmjbaa.En
open Go Go.Proofs
set_option maxRecDepth 100000
set_option linter.unusedVariables false
noncomputable def e_aEncode {R : Type} (s : List V → Option (List UInt8 × Int)) (ds : List D) (K : List D → Option R) : Option R :=
  match ds with
  | [.v (.sl 48 x0) .no] => bnd2 (s x0) fun r0 r1 => K [.v (.bytes r0) .no, .v (.int .i64 r1) .no]
  | _ => none
noncomputable def r_aEncode (rs : List D) (_ : Mem) : Option (List UInt8 × Int) :=
  match rs with
  | [.v (.bytes r0) _, .v (.int .i64 r1) _] => some (r0, r1)
  | _ => none
noncomputable def F_aEncode_6 {R : Type} (N : Nat) (vs1 : List V) (n2 : Int) (Lq : List V → Int → Option R) (K0 : List V → Option R) (vs0 : List V) (n3 : Int) : Option R := br (decide (n3 < n2)) (br (decide (0 ≤ n3) && decide (n3 < (↑vs1.length : Int))) (at? vs1 n3.toNat fun x0 => x0.unAgg fun l1 => unCons l1 fun x2 l3 => V.unInt IntKind.i64 x2 fun n4 => unCons l3 fun x5 l6 => V.unInt IntKind.i64 x5 fun n7 => unCons l6 fun x8 l9 => V.unInt IntKind.i64 x8 fun n10 => unCons l9 fun x11 l12 => V.unSl 46 x11 fun l13 => unNil l12 (bnd1 (s_aencode N N n7 n10 l13) fun l14 => br (decide (([UInt8.ofNat (IntKind.u8.wrap n4).toNat].length + l14.length) * 1 ≤ 140737488355328)) (br (decide ((vs0.length + [V.agg [V.int IntKind.i64 128, V.bytes (UInt8.ofNat (IntKind.u8.wrap n4).toNat :: [].append l14), V.sl 62 []]].length) * 56 ≤ 140737488355328)) (Lq (vs0 ++ [V.agg [V.int IntKind.i64 128, V.bytes (UInt8.ofNat (IntKind.u8.wrap n4).toNat :: [].append l14), V.sl 62 []]]) (IntKind.i64.wrap (n3 + 1))) none) none)) none) (K0 vs0)
noncomputable def S_aEncode_6 {R : Type} (N : Nat) (vs1 : List V) (n2 : Int) : Nat → List V → Int → (List V → Option R) → Option R | 0, _, _, _ => none | t + 1, vs0, n3, K0 => F_aEncode_6 N vs1 n2 (fun vs0 n3 => S_aEncode_6 N vs1 n2 t vs0 n3 K0) K0 vs0 n3
noncomputable def l_aEncode_6 {R : Type} (N : Nat) (ds : List D) (m : Mem) (K : Ex → List D → Mem → Option R) : Option R :=
  match ds, m with
  | [(.v (.sl 62 vs0) (.own (.slot 5) 62)), (.v (.sl 48 vs1) .no), (.v (.int .i64 n2) .no), (.v (.int .i64 n3) .no)], [[]] => S_aEncode_6 N vs1 n2 N vs0 n3 (fun a0 => K (.exit 0) [(.v (.sl 62 a0) (.own (.slot 5) 62))] [[]])
  | _, _ => none
noncomputable def s_aEncode (N : Nat) (x0 : List V) : Option (List UInt8 × Int) := bnd1 (s_aCheckRules N x0) fun n0 => br (!decide (n0 = 0)) (some ([], n0)) (S_aEncode_6 N x0 (↑x0.length : Int) N [] 0 fun l1 => bnd2 (s_Encode N l1) fun l2 n3 => some (l2, n3))
noncomputable def cx_aEncode (N : Nat) : Cx := { T := T, isPure := tabP [⟨30, e_aCheckRules (s_aCheckRules N)⟩, ⟨87, e_aencode (s_aencode N N)⟩, ⟨41, e_Encode (s_Encode N)⟩], pureK := fun g ds K => tabK [⟨30, e_aCheckRules (s_aCheckRules N)⟩, ⟨87, e_aencode (s_aencode N N)⟩, ⟨41, e_Encode (s_Encode N)⟩] g ds K, memK := fun g dst ds m K => tabMK [] g dst ds m K, meth := tabM [], keep := fun r => match r with | 6 => [5, 13, 14, 15] | _ => [], keepX := fun r => match r with | 6 => [5] | _ => [], loopT := fun r ds m K => match r with | 6 => l_aEncode_6 N ds m K | _ => none, jumps := 9 }
theorem F_aEncode_6_ok {R : Type} (N : Nat) (vs1 : List V) (n2 : Int) (vs0 : List V) (n3 : Int) (L : List D → Mem → Option R) (K : Ex → List D → Mem → Option R) :
    roundK (fun st K => codeK (cx_aEncode N) (loopN Try.f62 0) st K) 36 [5, 13, 14, 15] [5] L [(.v (.sl 62 vs0) (.own (.slot 5) 62)), (.v (.sl 48 vs1) .no), (.v (.int .i64 n2) .no), (.v (.int .i64 n3) .no)] [[]] K = F_aEncode_6 N vs1 n2 (fun vs0 n3 => L [(.v (.sl 62 vs0) (.own (.slot 5) 62)), (.v (.sl 48 vs1) .no), (.v (.int .i64 n2) .no), (.v (.int .i64 n3) .no)] [[]]) (fun a0 => K (.exit 0) [(.v (.sl 62 a0) (.own (.slot 5) 62))] [[]]) vs0 n3 := by
  kernel_rfl
theorem S_aEncode_6_ok {R : Type} (N : Nat) (vs1 : List V) (n2 : Int) (K : Ex → List D → Mem → Option R) : ∀ (t : Nat) (vs0 : List V) (n3 : Int),
    loopK (fun st K => codeK (cx_aEncode N) (loopN Try.f62 0) st K) 36 [5, 13, 14, 15] [5] t [(.v (.sl 62 vs0) (.own (.slot 5) 62)), (.v (.sl 48 vs1) .no), (.v (.int .i64 n2) .no), (.v (.int .i64 n3) .no)] [[]] K = S_aEncode_6 N vs1 n2 t vs0 n3 (fun a0 => K (.exit 0) [(.v (.sl 62 a0) (.own (.slot 5) 62))] [[]])
  | 0, vs0, n3 => rfl
  | t + 1, vs0, n3 => (F_aEncode_6_ok N vs1 n2 vs0 n3 _ K).trans (congrArg (fun L => F_aEncode_6 N vs1 n2 L (fun a0 => K (.exit 0) [(.v (.sl 62 a0) (.own (.slot 5) 62))] [[]]) vs0 n3) (funext fun vs0 => funext fun n3 => S_aEncode_6_ok N vs1 n2 K t vs0 n3))
theorem s_aEncode_ok (N : Nat) (x0 : List V) : bodyK (cx_aEncode N) Try.f62 [.v (.sl 48 x0) .no] [] r_aEncode = s_aEncode N x0 := by
  kernel_rfl
theorem go_aEncode : Goes Try.prog 62 := goes_of Try.func62 (by kernel_rfl) (c := bodyOf Try.f62) (by kernel_rfl)
theorem eo_aEncode (s : List V → Option (List UInt8 × Int)) (hs : ∀ (x0 : List V) (r0 : List UInt8) (r1 : Int), s x0 = some (r0, r1) → PureRet Try.prog T 62 [.v (.sl 48 x0) .no] [.v (.bytes r0) .no, .v (.int .i64 r1) .no]) : EntOK Try.prog T ⟨62, e_aEncode s⟩ := by
  refine ⟨go_aEncode, fun R ds K r h => ?_, fun R ds K => ?_⟩
  · simp only [e_aEncode] at h
    split at h
    · obtain ⟨r0, r1, h1, h2⟩ := bnd2_some h
      exact ⟨_, h2, hs _ _ _ h1⟩
    · cases h
  · simp only [e_aEncode]
    split
    · rw [bnd2_b]; rfl
    · rfl
theorem co_aEncode (N : Nat) : CxOK Try.prog (cx_aEncode N) :=
  cxOK_of2 (es := [⟨30, e_aCheckRules (s_aCheckRules N)⟩, ⟨87, e_aencode (s_aencode N N)⟩, ⟨41, e_Encode (s_Encode N)⟩]) (me := []) (ms := []) T_ok ⟨eo_aCheckRules _ (p_aCheckRules N), eo_aencode _ (p_aencode N N), eo_Encode _ (p_Encode N), trivial⟩ trivial trivial rfl (fun _ _ _ _ => rfl) (fun _ _ _ _ _ _ => rfl) rfl
theorem lk_aEncode_6 (N : Nat) : LoopOK (cx_aEncode N) 36 (loopN Try.f62 0) := by
  refine loopOK_of (rid := 6) (by kernel_rfl) rfl rfl fun R ds m K r h => ?_
  have h : l_aEncode_6 N ds m K = some r := h
  unfold l_aEncode_6 at h
  split at h
  · exact ⟨N, Eq.trans (S_aEncode_6_ok ..) h⟩
  · cases h
theorem lo_aEncode (N : Nat) : LoopsOK (cx_aEncode N) Try.f62.ntmps (bodyOf Try.f62) :=
  loopsOK_of (k := 1) (by kernel_rfl) ⟨trivial, lk_aEncode_6 N⟩
theorem p_aEncode (N : Nat) (x0 : List V) (r0 : List UInt8) (r1 : Int) (h : s_aEncode N x0 = some (r0, r1)) : PureRet Try.prog T 62 [.v (.sl 48 x0) .no] [.v (.bytes r0) .no, .v (.int .i64 r1) .no] :=
  pure_of (cx := cx_aEncode N) (by kernel_rfl) (co_aEncode N) Try.func62 (by kernel_rfl) (by kernel_rfl) (lo_aEncode N) rfl rfl rfl (rf := r_aEncode) ((s_aEncode_ok N x0).trans h) (fun rs' m h => by
    unfold r_aEncode at h
    split at h
    · cases h; exact ⟨rfl, rfl⟩
    · cases h)
noncomputable def e_adecode {R : Type} (s : List UInt8 → Int → Option (Int × Int × List V × List UInt8 × Bool)) (ds : List D) (K : List D → Option R) : Option R :=
  match ds with
  | [.v (.bytes x0) .no, .v (.int .i64 x1) .no] => bnd5 (s x0 x1) fun r0 r1 r2 r3 r4 => K [.agg [.v (.int .i64 r0) .no, .v (.int .i64 r1) .no, .v (.sl 46 r2) .no], .v (.bytes r3) .no, .v (.bool r4) .no]
  | _ => none
noncomputable def r_adecode (rs : List D) (_ : Mem) : Option (Int × Int × List V × List UInt8 × Bool) :=
  match rs with
  | [.agg [.v (.int .i64 r0) _, .v (.int .i64 r1) _, .v (.sl 46 r2) _], .v (.bytes r3) _, .v (.bool r4) _] => some (r0, r1, r2, r3, r4)
  | _ => none
noncomputable def F_adecode_16 {R : Type} (N : Nat) (f : List UInt8 → Int → Option (Int × Int × List V × List UInt8 × Bool)) (n1 : Int) (n2 : Int) (n4 : Int) (n5 : Int) (vs6 : List V) (n7 : Int) (n8 : Int) (l10 : List UInt8) (b11 : Bool) (b12 : Bool) (n13 : Int) (n14 : Int) (Lq : List UInt8 → Int → List V → Option R) (K0 : List UInt8 → List UInt8 → Bool → Int → Int → List V → List V → Option R) (K1 : List UInt8 → List V → Option R) (l0 : List UInt8) (n3 : Int) (vs9 : List V) : Option R := br (decide (n3 < n2)) (bnd5 (f l0 (IntKind.i64.wrap (n1 + 1))) fun n0 n1 l2 l3 b4 => br (!b4) (K0 l0 [] false 0 0 [] vs9) (br (decide ((vs9.length + [V.agg [V.int IntKind.i64 n0, V.int IntKind.i64 n1, V.sl 46 l2]].length) * 40 ≤ 140737488355328)) (Lq l3 (IntKind.i64.wrap (n3 + 1)) (vs9 ++ [V.agg [V.int IntKind.i64 n0, V.int IntKind.i64 n1, V.sl 46 l2]])) none)) (K1 l0 vs9)
noncomputable def S_adecode_16 {R : Type} (N : Nat) (f : List UInt8 → Int → Option (Int × Int × List V × List UInt8 × Bool)) (n1 : Int) (n2 : Int) (n4 : Int) (n5 : Int) (vs6 : List V) (n7 : Int) (n8 : Int) (l10 : List UInt8) (b11 : Bool) (b12 : Bool) (n13 : Int) (n14 : Int) : Nat → List UInt8 → Int → List V → (List UInt8 → List UInt8 → Bool → Int → Int → List V → List V → Option R) → (List UInt8 → List V → Option R) → Option R | 0, _, _, _, _, _ => none | t + 1, l0, n3, vs9, K0, K1 => F_adecode_16 N f n1 n2 n4 n5 vs6 n7 n8 l10 b11 b12 n13 n14 (fun l0 n3 vs9 => S_adecode_16 N f n1 n2 n4 n5 vs6 n7 n8 l10 b11 b12 n13 n14 t l0 n3 vs9 K0 K1) K0 K1 l0 n3 vs9
noncomputable def l_adecode_16 {R : Type} (N : Nat) (f : List UInt8 → Int → Option (Int × Int × List V × List UInt8 × Bool)) (ds : List D) (m : Mem) (K : Ex → List D → Mem → Option R) : Option R :=
  match ds, m with
  | [(.v (.bytes l0) .no), (.v (.int .i64 n1) .no), (.ptr 0 4 0), (.ptr 0 7 0), (.ptr 0 8 0), (.v (.int .i64 n2) .no), (.v (.int .i64 n3) .no)], [[(4, ⟨46, [(.v (.int .i64 n4) .no), (.v (.int .i64 n5) .no), (.v (.sl 46 vs6) (.own (.slot 0) 46))]⟩), (7, ⟨46, [(.v (.int .i64 n7) .no), (.v (.int .i64 n8) .no), (.v (.sl 46 vs9) (.own (.slot 0) 46))]⟩), (8, ⟨113, [(.v (.str l10) .no), (.v (.bool b11) .no), (.v (.bool b12) .no), (.v (.int .i64 n13) .no), (.v (.int .i64 n14) .no)]⟩)]] => S_adecode_16 N f n1 n2 n4 n5 vs6 n7 n8 l10 b11 b12 n13 n14 N l0 n3 vs9 (fun a0 a1 a2 a3 a4 a5 a8 => K .ret [(.v (.bytes a0) .no), (.ptr 0 4 0), (.v (.bytes a1) (.own (.slot 5) 5)), (.v (.bool a2) .no), (.ptr 0 7 0), (.ptr 0 8 0)] [[(4, ⟨46, [(.v (.int .i64 a3) .no), (.v (.int .i64 a4) .no), (.v (.sl 46 a5) (.own (.slot 0) 46))]⟩), (7, ⟨46, [(.v (.int .i64 n7) .no), (.v (.int .i64 n8) .no), (.v (.sl 46 a8) (.own (.slot 0) 46))]⟩), (8, ⟨113, [(.v (.str l10) .no), (.v (.bool b11) .no), (.v (.bool b12) .no), (.v (.int .i64 n13) .no), (.v (.int .i64 n14) .no)]⟩)]]) (fun a0 a6 => K (.exit 0) [(.v (.bytes a0) .no), (.ptr 0 4 0), .any, .any, (.ptr 0 7 0), (.ptr 0 8 0)] [[(4, ⟨46, [(.v (.int .i64 n4) .no), (.v (.int .i64 n5) .no), (.v (.sl 46 vs6) (.own (.slot 0) 46))]⟩), (7, ⟨46, [(.v (.int .i64 n7) .no), (.v (.int .i64 n8) .no), (.v (.sl 46 a6) (.own (.slot 0) 46))]⟩), (8, ⟨113, [(.v (.str l10) .no), (.v (.bool b11) .no), (.v (.bool b12) .no), (.v (.int .i64 n13) .no), (.v (.int .i64 n14) .no)]⟩)]])
  | _, _ => none
noncomputable def B_adecode (N : Nat) (f : List UInt8 → Int → Option (Int × Int × List V × List UInt8 × Bool)) (x0 : List UInt8) (x1 : Int) : Option (Int × Int × List V × List UInt8 × Bool) := br (decide ((↑x0.length : Int) = 0)) (some (0, 0, [], [], false)) (br (decide (0 < (↑x0.length : Int))) (at? x0 0 fun u0 => br (decide (7 < IntKind.i64.wrap (↑u0.toNat : Int))) (some (0, 0, [], [], false)) (br (decide (8 < x1)) (some (0, 0, [], [], false)) (br (decide (0 < (↑x0.length : Int))) (at? x0 0 fun u1 => bnd1 (s_forms N) fun x2 => br (decide (IntKind.i64.wrap (↑u1.toNat : Int) = 0)) (br (decide (1 ≤ (↑x0.length : Int))) (some (IntKind.i64.wrap (↑u1.toNat : Int), 0, [], List.drop 1 x0, true)) none) (br (decide (IntKind.i64.wrap (↑u1.toNat : Int) = 1)) (br (decide (1 ≤ (↑x0.length : Int))) (some (IntKind.i64.wrap (↑u1.toNat : Int), 0, [], List.drop 1 x0, true)) none) (br (decide (IntKind.i64.wrap (↑u1.toNat : Int) = 2)) (br (decide (1 ≤ (↑x0.length : Int))) (br (decide ((↑(List.drop 1 x0).length : Int) = 0)) (some (0, 0, [], [], false)) (br (decide (0 < (↑(List.drop 1 x0).length : Int))) (at? (List.drop 1 x0) 0 fun u3 => br (decide (1 ≤ (↑(List.drop 1 x0).length : Int))) (some (IntKind.i64.wrap (↑u1.toNat : Int), IntKind.i64.wrap (↑u3.toNat : Int), [], List.drop 1 (List.drop 1 x0), true)) none) none)) none) (br (decide (IntKind.i64.wrap (↑u1.toNat : Int) = 3)) (br (decide (1 ≤ (↑x0.length : Int))) (br (decide ((↑(List.drop 1 x0).length : Int) = 0)) (some (0, 0, [], [], false)) (br (decide (0 < (↑(List.drop 1 x0).length : Int))) (at? (List.drop 1 x0) 0 fun u4 => br (decide (1 ≤ (↑(List.drop 1 x0).length : Int))) (some (IntKind.i64.wrap (↑u1.toNat : Int), IntKind.i64.wrap (↑u4.toNat : Int), [], List.drop 1 (List.drop 1 x0), true)) none) none)) none) (br (decide (IntKind.i64.wrap (↑u1.toNat : Int) = 4)) (br (decide (1 ≤ (↑x0.length : Int))) (br (decide ((↑(List.drop 1 x0).length : Int) = 0)) (some (0, 0, [], [], false)) (br (decide (0 < (↑(List.drop 1 x0).length : Int))) (at? (List.drop 1 x0) 0 fun u5 => br (decide (1 ≤ (↑(List.drop 1 x0).length : Int))) (some (IntKind.i64.wrap (↑u1.toNat : Int), IntKind.i64.wrap (↑u5.toNat : Int), [], List.drop 1 (List.drop 1 x0), true)) none) none)) none) (br (decide (IntKind.i64.wrap (↑u1.toNat : Int) = 5)) (br (decide (1 ≤ (↑x0.length : Int))) (br (decide ((↑(List.drop 1 x0).length : Int) = 0)) (some (0, 0, [], [], false)) (br (decide (0 < (↑(List.drop 1 x0).length : Int))) (at? (List.drop 1 x0) 0 fun u6 => br (decide (1 ≤ (↑(List.drop 1 x0).length : Int))) (some (IntKind.i64.wrap (↑u1.toNat : Int), IntKind.i64.wrap (↑u6.toNat : Int), [], List.drop 1 (List.drop 1 x0), true)) none) none)) none) (br (decide (IntKind.i64.wrap (↑u1.toNat : Int) = 6)) (br (decide (1 ≤ (↑x0.length : Int))) (br (decide ((↑(List.drop 1 x0).length : Int) = 0)) (some (0, 0, [], [], false)) (br (decide (0 < (↑(List.drop 1 x0).length : Int))) (at? (List.drop 1 x0) 0 fun u7 => br (decide (1 ≤ (↑(List.drop 1 x0).length : Int))) (S_adecode_16 N f x1 (IntKind.i64.wrap (↑u7.toNat : Int)) 0 0 [] (IntKind.i64.wrap (↑u1.toNat : Int)) 0 ([97, 110, 100] : List UInt8) false true 0 0 N (List.drop 1 (List.drop 1 x0)) 0 [] (fun l8 l9 b10 n11 n12 l13 l14 => some (n11, n12, l13, l9, b10)) fun l15 l16 => some (IntKind.i64.wrap (↑u1.toNat : Int), 0, l16, l15, true)) none) none)) none) (br (decide (IntKind.i64.wrap (↑u1.toNat : Int) = 7)) (br (decide (1 ≤ (↑x0.length : Int))) (br (decide ((↑(List.drop 1 x0).length : Int) = 0)) (some (0, 0, [], [], false)) (br (decide (0 < (↑(List.drop 1 x0).length : Int))) (at? (List.drop 1 x0) 0 fun u17 => br (decide (1 ≤ (↑(List.drop 1 x0).length : Int))) (S_adecode_16 N f x1 (IntKind.i64.wrap (↑u17.toNat : Int)) 0 0 [] (IntKind.i64.wrap (↑u1.toNat : Int)) 0 ([111, 114] : List UInt8) false true 0 0 N (List.drop 1 (List.drop 1 x0)) 0 [] (fun l18 l19 b20 n21 n22 l23 l24 => some (n21, n22, l23, l19, b20)) fun l25 l26 => some (IntKind.i64.wrap (↑u1.toNat : Int), 0, l26, l25, true)) none) none)) none) none)))))))) none))) none)
noncomputable def s_adecode (N : Nat) : Nat → List UInt8 → Int → Option (Int × Int × List V × List UInt8 × Bool) | 0, _, _ => none | n + 1, x0, x1 => B_adecode N (s_adecode N n) x0 x1
noncomputable def cx_adecode (N : Nat) (f : List UInt8 → Int → Option (Int × Int × List V × List UInt8 × Bool)) : Cx := { T := T, isPure := tabP [⟨77, e_adecode f⟩, ⟨103, e_forms (s_forms N)⟩], pureK := fun g ds K => tabK [⟨77, e_adecode f⟩, ⟨103, e_forms (s_forms N)⟩] g ds K, memK := fun g dst ds m K => tabMK [] g dst ds m K, meth := tabM [], keep := fun r => match r with | 16 => [0, 1, 4, 7, 8, 65, 66] | _ => [], keepX := fun r => match r with | 16 => [0, 4, 5, 6, 7, 8] | _ => [], loopT := fun r ds m K => match r with | 16 => l_adecode_16 N f ds m K | _ => none, jumps := 9 }
theorem F_adecode_16_ok {R : Type} (N : Nat) (f : List UInt8 → Int → Option (Int × Int × List V × List UInt8 × Bool)) (n1 : Int) (n2 : Int) (n4 : Int) (n5 : Int) (vs6 : List V) (n7 : Int) (n8 : Int) (l10 : List UInt8) (b11 : Bool) (b12 : Bool) (n13 : Int) (n14 : Int) (l0 : List UInt8) (n3 : Int) (vs9 : List V) (L : List D → Mem → Option R) (K : Ex → List D → Mem → Option R) :
    roundK (fun st K => codeK (cx_adecode N f) (loopN Try.f77 0) st K) 89 [0, 1, 4, 7, 8, 65, 66] [0, 4, 5, 6, 7, 8] L [(.v (.bytes l0) .no), (.v (.int .i64 n1) .no), (.ptr 0 4 0), (.ptr 0 7 0), (.ptr 0 8 0), (.v (.int .i64 n2) .no), (.v (.int .i64 n3) .no)] [[(4, ⟨46, [(.v (.int .i64 n4) .no), (.v (.int .i64 n5) .no), (.v (.sl 46 vs6) (.own (.slot 0) 46))]⟩), (7, ⟨46, [(.v (.int .i64 n7) .no), (.v (.int .i64 n8) .no), (.v (.sl 46 vs9) (.own (.slot 0) 46))]⟩), (8, ⟨113, [(.v (.str l10) .no), (.v (.bool b11) .no), (.v (.bool b12) .no), (.v (.int .i64 n13) .no), (.v (.int .i64 n14) .no)]⟩)]] K = F_adecode_16 N f n1 n2 n4 n5 vs6 n7 n8 l10 b11 b12 n13 n14 (fun l0 n3 vs9 => L [(.v (.bytes l0) .no), (.v (.int .i64 n1) .no), (.ptr 0 4 0), (.ptr 0 7 0), (.ptr 0 8 0), (.v (.int .i64 n2) .no), (.v (.int .i64 n3) .no)] [[(4, ⟨46, [(.v (.int .i64 n4) .no), (.v (.int .i64 n5) .no), (.v (.sl 46 vs6) (.own (.slot 0) 46))]⟩), (7, ⟨46, [(.v (.int .i64 n7) .no), (.v (.int .i64 n8) .no), (.v (.sl 46 vs9) (.own (.slot 0) 46))]⟩), (8, ⟨113, [(.v (.str l10) .no), (.v (.bool b11) .no), (.v (.bool b12) .no), (.v (.int .i64 n13) .no), (.v (.int .i64 n14) .no)]⟩)]]) (fun a0 a1 a2 a3 a4 a5 a8 => K .ret [(.v (.bytes a0) .no), (.ptr 0 4 0), (.v (.bytes a1) (.own (.slot 5) 5)), (.v (.bool a2) .no), (.ptr 0 7 0), (.ptr 0 8 0)] [[(4, ⟨46, [(.v (.int .i64 a3) .no), (.v (.int .i64 a4) .no), (.v (.sl 46 a5) (.own (.slot 0) 46))]⟩), (7, ⟨46, [(.v (.int .i64 n7) .no), (.v (.int .i64 n8) .no), (.v (.sl 46 a8) (.own (.slot 0) 46))]⟩), (8, ⟨113, [(.v (.str l10) .no), (.v (.bool b11) .no), (.v (.bool b12) .no), (.v (.int .i64 n13) .no), (.v (.int .i64 n14) .no)]⟩)]]) (fun a0 a6 => K (.exit 0) [(.v (.bytes a0) .no), (.ptr 0 4 0), .any, .any, (.ptr 0 7 0), (.ptr 0 8 0)] [[(4, ⟨46, [(.v (.int .i64 n4) .no), (.v (.int .i64 n5) .no), (.v (.sl 46 vs6) (.own (.slot 0) 46))]⟩), (7, ⟨46, [(.v (.int .i64 n7) .no), (.v (.int .i64 n8) .no), (.v (.sl 46 a6) (.own (.slot 0) 46))]⟩), (8, ⟨113, [(.v (.str l10) .no), (.v (.bool b11) .no), (.v (.bool b12) .no), (.v (.int .i64 n13) .no), (.v (.int .i64 n14) .no)]⟩)]]) l0 n3 vs9 := by
  kernel_rfl
theorem S_adecode_16_ok {R : Type} (N : Nat) (f : List UInt8 → Int → Option (Int × Int × List V × List UInt8 × Bool)) (n1 : Int) (n2 : Int) (n4 : Int) (n5 : Int) (vs6 : List V) (n7 : Int) (n8 : Int) (l10 : List UInt8) (b11 : Bool) (b12 : Bool) (n13 : Int) (n14 : Int) (K : Ex → List D → Mem → Option R) : ∀ (t : Nat) (l0 : List UInt8) (n3 : Int) (vs9 : List V),
    loopK (fun st K => codeK (cx_adecode N f) (loopN Try.f77 0) st K) 89 [0, 1, 4, 7, 8, 65, 66] [0, 4, 5, 6, 7, 8] t [(.v (.bytes l0) .no), (.v (.int .i64 n1) .no), (.ptr 0 4 0), (.ptr 0 7 0), (.ptr 0 8 0), (.v (.int .i64 n2) .no), (.v (.int .i64 n3) .no)] [[(4, ⟨46, [(.v (.int .i64 n4) .no), (.v (.int .i64 n5) .no), (.v (.sl 46 vs6) (.own (.slot 0) 46))]⟩), (7, ⟨46, [(.v (.int .i64 n7) .no), (.v (.int .i64 n8) .no), (.v (.sl 46 vs9) (.own (.slot 0) 46))]⟩), (8, ⟨113, [(.v (.str l10) .no), (.v (.bool b11) .no), (.v (.bool b12) .no), (.v (.int .i64 n13) .no), (.v (.int .i64 n14) .no)]⟩)]] K = S_adecode_16 N f n1 n2 n4 n5 vs6 n7 n8 l10 b11 b12 n13 n14 t l0 n3 vs9 (fun a0 a1 a2 a3 a4 a5 a8 => K .ret [(.v (.bytes a0) .no), (.ptr 0 4 0), (.v (.bytes a1) (.own (.slot 5) 5)), (.v (.bool a2) .no), (.ptr 0 7 0), (.ptr 0 8 0)] [[(4, ⟨46, [(.v (.int .i64 a3) .no), (.v (.int .i64 a4) .no), (.v (.sl 46 a5) (.own (.slot 0) 46))]⟩), (7, ⟨46, [(.v (.int .i64 n7) .no), (.v (.int .i64 n8) .no), (.v (.sl 46 a8) (.own (.slot 0) 46))]⟩), (8, ⟨113, [(.v (.str l10) .no), (.v (.bool b11) .no), (.v (.bool b12) .no), (.v (.int .i64 n13) .no), (.v (.int .i64 n14) .no)]⟩)]]) (fun a0 a6 => K (.exit 0) [(.v (.bytes a0) .no), (.ptr 0 4 0), .any, .any, (.ptr 0 7 0), (.ptr 0 8 0)] [[(4, ⟨46, [(.v (.int .i64 n4) .no), (.v (.int .i64 n5) .no), (.v (.sl 46 vs6) (.own (.slot 0) 46))]⟩), (7, ⟨46, [(.v (.int .i64 n7) .no), (.v (.int .i64 n8) .no), (.v (.sl 46 a6) (.own (.slot 0) 46))]⟩), (8, ⟨113, [(.v (.str l10) .no), (.v (.bool b11) .no), (.v (.bool b12) .no), (.v (.int .i64 n13) .no), (.v (.int .i64 n14) .no)]⟩)]])
  | 0, l0, n3, vs9 => rfl
  | t + 1, l0, n3, vs9 => (F_adecode_16_ok N f n1 n2 n4 n5 vs6 n7 n8 l10 b11 b12 n13 n14 l0 n3 vs9 _ K).trans (congrArg (fun L => F_adecode_16 N f n1 n2 n4 n5 vs6 n7 n8 l10 b11 b12 n13 n14 L (fun a0 a1 a2 a3 a4 a5 a8 => K .ret [(.v (.bytes a0) .no), (.ptr 0 4 0), (.v (.bytes a1) (.own (.slot 5) 5)), (.v (.bool a2) .no), (.ptr 0 7 0), (.ptr 0 8 0)] [[(4, ⟨46, [(.v (.int .i64 a3) .no), (.v (.int .i64 a4) .no), (.v (.sl 46 a5) (.own (.slot 0) 46))]⟩), (7, ⟨46, [(.v (.int .i64 n7) .no), (.v (.int .i64 n8) .no), (.v (.sl 46 a8) (.own (.slot 0) 46))]⟩), (8, ⟨113, [(.v (.str l10) .no), (.v (.bool b11) .no), (.v (.bool b12) .no), (.v (.int .i64 n13) .no), (.v (.int .i64 n14) .no)]⟩)]]) (fun a0 a6 => K (.exit 0) [(.v (.bytes a0) .no), (.ptr 0 4 0), .any, .any, (.ptr 0 7 0), (.ptr 0 8 0)] [[(4, ⟨46, [(.v (.int .i64 n4) .no), (.v (.int .i64 n5) .no), (.v (.sl 46 vs6) (.own (.slot 0) 46))]⟩), (7, ⟨46, [(.v (.int .i64 n7) .no), (.v (.int .i64 n8) .no), (.v (.sl 46 a6) (.own (.slot 0) 46))]⟩), (8, ⟨113, [(.v (.str l10) .no), (.v (.bool b11) .no), (.v (.bool b12) .no), (.v (.int .i64 n13) .no), (.v (.int .i64 n14) .no)]⟩)]]) l0 n3 vs9) (funext fun l0 => funext fun n3 => funext fun vs9 => S_adecode_16_ok N f n1 n2 n4 n5 vs6 n7 n8 l10 b11 b12 n13 n14 K t l0 n3 vs9))
theorem B_adecode_ok (N : Nat) (f : List UInt8 → Int → Option (Int × Int × List V × List UInt8 × Bool)) (x0 : List UInt8) (x1 : Int) : bodyK (cx_adecode N f) Try.f77 [.v (.bytes x0) .no, .v (.int .i64 x1) .no] [] r_adecode = B_adecode N f x0 x1 := by
  kernel_rfl
theorem go_adecode : Goes Try.prog 77 := goes_of Try.func77 (by kernel_rfl) (c := bodyOf Try.f77) (by kernel_rfl)
theorem eo_adecode (s : List UInt8 → Int → Option (Int × Int × List V × List UInt8 × Bool)) (hs : ∀ (x0 : List UInt8) (x1 : Int) (r0 : Int) (r1 : Int) (r2 : List V) (r3 : List UInt8) (r4 : Bool), s x0 x1 = some (r0, r1, r2, r3, r4) → PureRet Try.prog T 77 [.v (.bytes x0) .no, .v (.int .i64 x1) .no] [.agg [.v (.int .i64 r0) .no, .v (.int .i64 r1) .no, .v (.sl 46 r2) .no], .v (.bytes r3) .no, .v (.bool r4) .no]) : EntOK Try.prog T ⟨77, e_adecode s⟩ := by
  refine ⟨go_adecode, fun R ds K r h => ?_, fun R ds K => ?_⟩
  · simp only [e_adecode] at h
    split at h
    · obtain ⟨r0, r1, r2, r3, r4, h1, h2⟩ := bnd5_some h
      exact ⟨_, h2, hs _ _ _ _ _ _ _ h1⟩
    · cases h
  · simp only [e_adecode]
    split
    · rw [bnd5_b]; rfl
    · rfl
theorem co_adecode (N : Nat) (f : List UInt8 → Int → Option (Int × Int × List V × List UInt8 × Bool)) (hf : ∀ (x0 : List UInt8) (x1 : Int) (r0 : Int) (r1 : Int) (r2 : List V) (r3 : List UInt8) (r4 : Bool), f x0 x1 = some (r0, r1, r2, r3, r4) → PureRet Try.prog T 77 [.v (.bytes x0) .no, .v (.int .i64 x1) .no] [.agg [.v (.int .i64 r0) .no, .v (.int .i64 r1) .no, .v (.sl 46 r2) .no], .v (.bytes r3) .no, .v (.bool r4) .no]) : CxOK Try.prog (cx_adecode N f) :=
  cxOK_of2 (es := [⟨77, e_adecode f⟩, ⟨103, e_forms (s_forms N)⟩]) (me := []) (ms := []) T_ok ⟨eo_adecode f hf, eo_forms _ (p_forms N), trivial⟩ trivial trivial rfl (fun _ _ _ _ => rfl) (fun _ _ _ _ _ _ => rfl) rfl
theorem lk_adecode_16 (N : Nat) (f : List UInt8 → Int → Option (Int × Int × List V × List UInt8 × Bool)) : LoopOK (cx_adecode N f) 89 (loopN Try.f77 0) := by
  refine loopOK_of (rid := 16) (by kernel_rfl) rfl rfl fun R ds m K r h => ?_
  have h : l_adecode_16 N f ds m K = some r := h
  unfold l_adecode_16 at h
  split at h
  · exact ⟨N, Eq.trans (S_adecode_16_ok ..) h⟩
  · cases h
theorem lo_adecode (N : Nat) (f : List UInt8 → Int → Option (Int × Int × List V × List UInt8 × Bool)) : LoopsOK (cx_adecode N f) Try.f77.ntmps (bodyOf Try.f77) :=
  loopsOK_of (k := 1) (by kernel_rfl) ⟨trivial, lk_adecode_16 N f⟩
theorem p_adecode (N : Nat) : ∀ (M : Nat) (x0 : List UInt8) (x1 : Int) (r0 : Int) (r1 : Int) (r2 : List V) (r3 : List UInt8) (r4 : Bool), s_adecode N M x0 x1 = some (r0, r1, r2, r3, r4) → PureRet Try.prog T 77 [.v (.bytes x0) .no, .v (.int .i64 x1) .no] [.agg [.v (.int .i64 r0) .no, .v (.int .i64 r1) .no, .v (.sl 46 r2) .no], .v (.bytes r3) .no, .v (.bool r4) .no]
  | 0, _, _, _, _, _, _, _, h => by cases h
  | M + 1, x0, x1, r0, r1, r2, r3, r4, h => pure_of (cx := cx_adecode N (s_adecode N M)) (by kernel_rfl) (co_adecode N (s_adecode N M) (p_adecode N M)) Try.func77 (by kernel_rfl) (by kernel_rfl) (lo_adecode N (s_adecode N M)) rfl rfl rfl (rf := r_adecode) ((B_adecode_ok N (s_adecode N M) x0 x1).trans h) (fun rs' m h => by
    unfold r_adecode at h
    split at h
    · cases h; exact ⟨rfl, rfl⟩
    · cases h)
noncomputable def e_aDecode {R : Type} (s : List UInt8 → Option (List V × Int)) (ds : List D) (K : List D → Option R) : Option R :=
  match ds with
  | [.v (.bytes x0) .no] => bnd2 (s x0) fun r0 r1 => K [.v (.sl 48 r0) .no, .v (.int .i64 r1) .no]
  | _ => none
noncomputable def r_aDecode (rs : List D) (_ : Mem) : Option (List V × Int) :=
  match rs with
  | [.v (.sl 48 r0) _, .v (.int .i64 r1) _] => some (r0, r1)
  | _ => none
noncomputable def F_aDecode_6 {R : Type} (N : Nat) (vs1 : List V) (n2 : Int) (Lq : List V → Int → Option R) (K0 : List V → Int → List V → Option R) (K1 : List V → Option R) (vs0 : List V) (n3 : Int) : Option R := br (decide (n3 < n2)) (br (decide (0 ≤ n3) && decide (n3 < (↑vs1.length : Int))) (at? vs1 n3.toNat fun x0 => x0.unAgg fun l1 => unCons l1 fun x2 l3 => V.unInt IntKind.i64 x2 fun n4 => unCons l3 fun x5 l6 => x5.unBytes fun l7 => unCons l6 fun x8 l9 => V.unSl 62 x8 fun l10 => unNil l9 (br (!decide (n4 = 128)) (K0 [] 4 vs0) (br (decide ((↑l7.length : Int) = 0)) (K0 [] 4 vs0) (br (decide (1 ≤ (↑l7.length : Int))) (bnd5 (s_adecode N N (List.drop 1 l7) 1) fun n11 n12 l13 l14 b15 => br (!b15) (K0 [] 4 vs0) (br (decide (0 < (↑l14.length : Int))) (K0 [] 4 vs0) (br (decide (0 < (↑l7.length : Int))) (at? l7 0 fun u16 => br (decide ((vs0.length + [V.agg [V.int IntKind.i64 (IntKind.i64.wrap (↑u16.toNat : Int)), V.int IntKind.i64 n11, V.int IntKind.i64 n12, V.sl 46 l13]].length) * 48 ≤ 140737488355328)) (Lq (vs0 ++ [V.agg [V.int IntKind.i64 (IntKind.i64.wrap (↑u16.toNat : Int)), V.int IntKind.i64 n11, V.int IntKind.i64 n12, V.sl 46 l13]]) (IntKind.i64.wrap (n3 + 1))) none) none))) none)))) none) (K1 vs0)
noncomputable def S_aDecode_6 {R : Type} (N : Nat) (vs1 : List V) (n2 : Int) : Nat → List V → Int → (List V → Int → List V → Option R) → (List V → Option R) → Option R | 0, _, _, _, _ => none | t + 1, vs0, n3, K0, K1 => F_aDecode_6 N vs1 n2 (fun vs0 n3 => S_aDecode_6 N vs1 n2 t vs0 n3 K0 K1) K0 K1 vs0 n3
noncomputable def l_aDecode_6 {R : Type} (N : Nat) (ds : List D) (m : Mem) (K : Ex → List D → Mem → Option R) : Option R :=
  match ds, m with
  | [(.v (.sl 48 vs0) (.own (.slot 6) 48)), (.v (.sl 62 vs1) .no), (.v (.int .i64 n2) .no), (.v (.int .i64 n3) .no)], [[]] => S_aDecode_6 N vs1 n2 N vs0 n3 (fun a0 a1 a2 => K .ret [(.v (.sl 48 a0) (.own (.slot 2) 48)), (.v (.int .i64 a1) .no), (.v (.sl 48 a2) (.own (.slot 6) 48))] [[]]) (fun a0 => K (.exit 0) [.any, .any, (.v (.sl 48 a0) (.own (.slot 6) 48))] [[]])
  | _, _ => none
noncomputable def s_aDecode (N : Nat) (x0 : List UInt8) : Option (List V × Int) := bnd2 (s_Decode N x0) fun l0 n1 => br (!decide (n1 = 0)) (some ([], n1)) (S_aDecode_6 N l0 (↑l0.length : Int) N [] 0 (fun l2 n3 l4 => some (l2, n3)) fun l5 => bnd1 (s_aCheckRules N l5) fun n6 => br (!decide (n6 = 0)) (some ([], 4)) (some (l5, 0)))
noncomputable def cx_aDecode (N : Nat) : Cx := { T := T, isPure := tabP [⟨48, e_Decode (s_Decode N)⟩, ⟨77, e_adecode (s_adecode N N)⟩, ⟨30, e_aCheckRules (s_aCheckRules N)⟩], pureK := fun g ds K => tabK [⟨48, e_Decode (s_Decode N)⟩, ⟨77, e_adecode (s_adecode N N)⟩, ⟨30, e_aCheckRules (s_aCheckRules N)⟩] g ds K, memK := fun g dst ds m K => tabMK [] g dst ds m K, meth := tabM [], keep := fun r => match r with | 6 => [6, 20, 21, 22] | _ => [], keepX := fun r => match r with | 6 => [2, 3, 6] | _ => [], loopT := fun r ds m K => match r with | 6 => l_aDecode_6 N ds m K | _ => none, jumps := 9 }
theorem F_aDecode_6_ok {R : Type} (N : Nat) (vs1 : List V) (n2 : Int) (vs0 : List V) (n3 : Int) (L : List D → Mem → Option R) (K : Ex → List D → Mem → Option R) :
    roundK (fun st K => codeK (cx_aDecode N) (loopN Try.f51 0) st K) 65 [6, 20, 21, 22] [2, 3, 6] L [(.v (.sl 48 vs0) (.own (.slot 6) 48)), (.v (.sl 62 vs1) .no), (.v (.int .i64 n2) .no), (.v (.int .i64 n3) .no)] [[]] K = F_aDecode_6 N vs1 n2 (fun vs0 n3 => L [(.v (.sl 48 vs0) (.own (.slot 6) 48)), (.v (.sl 62 vs1) .no), (.v (.int .i64 n2) .no), (.v (.int .i64 n3) .no)] [[]]) (fun a0 a1 a2 => K .ret [(.v (.sl 48 a0) (.own (.slot 2) 48)), (.v (.int .i64 a1) .no), (.v (.sl 48 a2) (.own (.slot 6) 48))] [[]]) (fun a0 => K (.exit 0) [.any, .any, (.v (.sl 48 a0) (.own (.slot 6) 48))] [[]]) vs0 n3 := by
  kernel_rfl
theorem S_aDecode_6_ok {R : Type} (N : Nat) (vs1 : List V) (n2 : Int) (K : Ex → List D → Mem → Option R) : ∀ (t : Nat) (vs0 : List V) (n3 : Int),
    loopK (fun st K => codeK (cx_aDecode N) (loopN Try.f51 0) st K) 65 [6, 20, 21, 22] [2, 3, 6] t [(.v (.sl 48 vs0) (.own (.slot 6) 48)), (.v (.sl 62 vs1) .no), (.v (.int .i64 n2) .no), (.v (.int .i64 n3) .no)] [[]] K = S_aDecode_6 N vs1 n2 t vs0 n3 (fun a0 a1 a2 => K .ret [(.v (.sl 48 a0) (.own (.slot 2) 48)), (.v (.int .i64 a1) .no), (.v (.sl 48 a2) (.own (.slot 6) 48))] [[]]) (fun a0 => K (.exit 0) [.any, .any, (.v (.sl 48 a0) (.own (.slot 6) 48))] [[]])
  | 0, vs0, n3 => rfl
  | t + 1, vs0, n3 => (F_aDecode_6_ok N vs1 n2 vs0 n3 _ K).trans (congrArg (fun L => F_aDecode_6 N vs1 n2 L (fun a0 a1 a2 => K .ret [(.v (.sl 48 a0) (.own (.slot 2) 48)), (.v (.int .i64 a1) .no), (.v (.sl 48 a2) (.own (.slot 6) 48))] [[]]) (fun a0 => K (.exit 0) [.any, .any, (.v (.sl 48 a0) (.own (.slot 6) 48))] [[]]) vs0 n3) (funext fun vs0 => funext fun n3 => S_aDecode_6_ok N vs1 n2 K t vs0 n3))
theorem s_aDecode_ok (N : Nat) (x0 : List UInt8) : bodyK (cx_aDecode N) Try.f51 [.v (.bytes x0) .no] [] r_aDecode = s_aDecode N x0 := by
  kernel_rfl
theorem go_aDecode : Goes Try.prog 51 := goes_of Try.func51 (by kernel_rfl) (c := bodyOf Try.f51) (by kernel_rfl)
theorem eo_aDecode (s : List UInt8 → Option (List V × Int)) (hs : ∀ (x0 : List UInt8) (r0 : List V) (r1 : Int), s x0 = some (r0, r1) → PureRet Try.prog T 51 [.v (.bytes x0) .no] [.v (.sl 48 r0) .no, .v (.int .i64 r1) .no]) : EntOK Try.prog T ⟨51, e_aDecode s⟩ := by
  refine ⟨go_aDecode, fun R ds K r h => ?_, fun R ds K => ?_⟩
  · simp only [e_aDecode] at h
    split at h
    · obtain ⟨r0, r1, h1, h2⟩ := bnd2_some h
      exact ⟨_, h2, hs _ _ _ h1⟩
    · cases h
  · simp only [e_aDecode]
    split
    · rw [bnd2_b]; rfl
    · rfl
theorem co_aDecode (N : Nat) : CxOK Try.prog (cx_aDecode N) :=
  cxOK_of2 (es := [⟨48, e_Decode (s_Decode N)⟩, ⟨77, e_adecode (s_adecode N N)⟩, ⟨30, e_aCheckRules (s_aCheckRules N)⟩]) (me := []) (ms := []) T_ok ⟨eo_Decode _ (p_Decode N), eo_adecode _ (p_adecode N N), eo_aCheckRules _ (p_aCheckRules N), trivial⟩ trivial trivial rfl (fun _ _ _ _ => rfl) (fun _ _ _ _ _ _ => rfl) rfl
theorem lk_aDecode_6 (N : Nat) : LoopOK (cx_aDecode N) 65 (loopN Try.f51 0) := by
  refine loopOK_of (rid := 6) (by kernel_rfl) rfl rfl fun R ds m K r h => ?_
  have h : l_aDecode_6 N ds m K = some r := h
  unfold l_aDecode_6 at h
  split at h
  · exact ⟨N, Eq.trans (S_aDecode_6_ok ..) h⟩
  · cases h
theorem lo_aDecode (N : Nat) : LoopsOK (cx_aDecode N) Try.f51.ntmps (bodyOf Try.f51) :=
  loopsOK_of (k := 1) (by kernel_rfl) ⟨trivial, lk_aDecode_6 N⟩
theorem p_aDecode (N : Nat) (x0 : List UInt8) (r0 : List V) (r1 : Int) (h : s_aDecode N x0 = some (r0, r1)) : PureRet Try.prog T 51 [.v (.bytes x0) .no] [.v (.sl 48 r0) .no, .v (.int .i64 r1) .no] :=
  pure_of (cx := cx_aDecode N) (by kernel_rfl) (co_aDecode N) Try.func51 (by kernel_rfl) (by kernel_rfl) (lo_aDecode N) rfl rfl rfl (rf := r_aDecode) ((s_aDecode_ok N x0).trans h) (fun rs' m h => by
    unfold r_aDecode at h
    split at h
    · cases h; exact ⟨rfl, rfl⟩
    · cases h)
noncomputable def e_qhas {R : Type} (s : Int → Int → Option (Bool)) (ds : List D) (K : List D → Option R) : Option R :=
  match ds with
  | [.v (.int .i64 x0) .no, .v (.int .i64 x1) .no] => bnd1 (s x0 x1) fun r0 => K [.v (.bool r0) .no]
  | _ => none
noncomputable def r_qhas (rs : List D) (_ : Mem) : Option (Bool) :=
  match rs with
  | [.v (.bool r0) _] => some (r0)
  | _ => none
noncomputable def s_qhas (N : Nat) (x0 : Int) (x1 : Int) : Option (Bool) := some (decide (bitsI BinOp.and IntKind.i64 x0 x1 = x1))
noncomputable def cx_qhas (N : Nat) : Cx := { T := T, isPure := tabP [], pureK := fun g ds K => tabK [] g ds K, memK := fun g dst ds m K => tabMK [] g dst ds m K, meth := tabM [], keep := fun _ => [], keepX := fun _ => [], loopT := fun _ _ _ _ => none, jumps := 9 }
theorem s_qhas_ok (N : Nat) (x0 : Int) (x1 : Int) : bodyK (cx_qhas N) Try.f109 [.v (.int .i64 x0) .no, .v (.int .i64 x1) .no] [] r_qhas = s_qhas N x0 x1 := by
  kernel_rfl
theorem go_qhas : Goes Try.prog 109 := goes_of Try.func109 (by kernel_rfl) (c := bodyOf Try.f109) (by kernel_rfl)
theorem eo_qhas (s : Int → Int → Option (Bool)) (hs : ∀ (x0 : Int) (x1 : Int) (r0 : Bool), s x0 x1 = some r0 → PureRet Try.prog T 109 [.v (.int .i64 x0) .no, .v (.int .i64 x1) .no] [.v (.bool r0) .no]) : EntOK Try.prog T ⟨109, e_qhas s⟩ := by
  refine ⟨go_qhas, fun R ds K r h => ?_, fun R ds K => ?_⟩
  · simp only [e_qhas] at h
    split at h
    · obtain ⟨r0, h1, h2⟩ := bnd1_some h
      exact ⟨_, h2, hs _ _ _ h1⟩
    · cases h
  · simp only [e_qhas]
    split
    · rw [bnd1_b]; rfl
    · rfl
theorem co_qhas (N : Nat) : CxOK Try.prog (cx_qhas N) :=
  cxOK_of2 (es := []) (me := []) (ms := []) T_ok trivial trivial trivial rfl (fun _ _ _ _ => rfl) (fun _ _ _ _ _ _ => rfl) rfl
theorem lo_qhas (N : Nat) : LoopsOK (cx_qhas N) Try.f109.ntmps (bodyOf Try.f109) :=
  loopsOK_of (k := 0) (by kernel_rfl) trivial
theorem p_qhas (N : Nat) (x0 : Int) (x1 : Int) (r0 : Bool) (h : s_qhas N x0 x1 = some r0) : PureRet Try.prog T 109 [.v (.int .i64 x0) .no, .v (.int .i64 x1) .no] [.v (.bool r0) .no] :=
  pure_of (cx := cx_qhas N) (by kernel_rfl) (co_qhas N) Try.func109 (by kernel_rfl) (by kernel_rfl) (lo_qhas N) rfl rfl rfl (rf := r_qhas) ((s_qhas_ok N x0 x1).trans h) (fun rs' m h => by
    unfold r_qhas at h
    split at h
    · cases h; exact ⟨rfl, rfl⟩
    · cases h)
noncomputable def e_qvalid {R : Type} (s : Int → Int → List V → Option (Bool)) (ds : List D) (K : List D → Option R) : Option R :=
  match ds with
  | [.agg [.v (.int .i64 x0) .no, .v (.int .i64 x1) .no, .v (.sl 46 x2) .no]] => bnd1 (s x0 x1 x2) fun r0 => K [.v (.bool r0) .no]
  | _ => none
noncomputable def r_qvalid (rs : List D) (_ : Mem) : Option (Bool) :=
  match rs with
  | [.v (.bool r0) _] => some (r0)
  | _ => none
noncomputable def F_qvalid_18 {R : Type} (N : Nat) (f : Int → Int → List V → Option (Bool)) (n1 : Int) (n2 : Int) (vs3 : List V) (Lq : Int → Option R) (K0 : Bool → Option R) (K1 : Option R) (n0 : Int) : Option R := br (decide (n0 < (↑vs3.length : Int))) (br (decide (0 ≤ n0) && decide (n0 < (↑vs3.length : Int))) (at? vs3 n0.toNat fun x0 => x0.unAgg fun l1 => unCons l1 fun x2 l3 => V.unInt IntKind.i64 x2 fun n4 => unCons l3 fun x5 l6 => V.unInt IntKind.i64 x5 fun n7 => unCons l6 fun x8 l9 => V.unSl 46 x8 fun l10 => unNil l9 (bnd1 (f n4 n7 l10) fun b11 => br (!b11) (K0 false) (Lq (IntKind.i64.wrap (n0 + 1))))) none) K1
noncomputable def S_qvalid_18 {R : Type} (N : Nat) (f : Int → Int → List V → Option (Bool)) (n1 : Int) (n2 : Int) (vs3 : List V) : Nat → Int → (Bool → Option R) → (Option R) → Option R | 0, _, _, _ => none | t + 1, n0, K0, K1 => F_qvalid_18 N f n1 n2 vs3 (fun n0 => S_qvalid_18 N f n1 n2 vs3 t n0 K0 K1) K0 K1 n0
noncomputable def l_qvalid_18 {R : Type} (N : Nat) (f : Int → Int → List V → Option (Bool)) (ds : List D) (m : Mem) (K : Ex → List D → Mem → Option R) : Option R :=
  match ds, m with
  | [(.ptr 0 1 0), (.v (.int .i64 n0) .no)], [[(1, ⟨46, [(.v (.int .i64 n1) .no), (.v (.int .i64 n2) .no), (.v (.sl 46 vs3) .no)]⟩)]] => S_qvalid_18 N f n1 n2 vs3 N n0 (fun a0 => K .ret [(.ptr 0 1 0), (.v (.bool a0) .no)] [[(1, ⟨46, [(.v (.int .i64 n1) .no), (.v (.int .i64 n2) .no), (.v (.sl 46 vs3) .no)]⟩)]]) (K (.exit 1) [(.ptr 0 1 0), .any] [[(1, ⟨46, [(.v (.int .i64 n1) .no), (.v (.int .i64 n2) .no), (.v (.sl 46 vs3) .no)]⟩)]])
  | _, _ => none
noncomputable def B_qvalid (N : Nat) (f : Int → Int → List V → Option (Bool)) (x0 : Int) (x1 : Int) (x2 : List V) : Option (Bool) := br (decide (x0 = 0)) (br (decide (x1 = 0)) (some (decide ((↑x2.length : Int) = 0))) (some false)) (br (decide (x0 = 1)) (br (decide (x1 = 0)) (some (decide ((↑x2.length : Int) = 0))) (some false)) (br (decide (x0 = 2)) (br (decide (1 ≤ x1)) (br (decide (x1 ≤ 8)) (some (decide ((↑x2.length : Int) = 0))) (some false)) (some false)) (br (decide (x0 = 3)) (br (decide (1 ≤ x1)) (br (decide (x1 ≤ 8)) (some (decide ((↑x2.length : Int) = 0))) (some false)) (some false)) (br (decide (x0 = 4)) (br (decide (1 ≤ x1)) (br (decide (x1 ≤ 5)) (some (decide ((↑x2.length : Int) = 0))) (some false)) (some false)) (br (decide (x0 = 5)) (br (decide (1 ≤ x1)) (bnd1 (s_qhas N 51 x1) fun b0 => br b0 (some (decide ((↑x2.length : Int) = 0))) (some false)) (some false)) (br (decide (x0 = 6)) (br (!decide (x1 = 0)) (some false) (br (decide ((↑x2.length : Int) = 0)) (some false) (S_qvalid_18 N f x0 x1 x2 N 0 (fun b1 => some b1) (some true)))) (br (decide (x0 = 7)) (br (!decide (x1 = 0)) (some false) (br (decide ((↑x2.length : Int) = 0)) (some false) (S_qvalid_18 N f x0 x1 x2 N 0 (fun b2 => some b2) (some true)))) (some false))))))))
noncomputable def s_qvalid (N : Nat) : Nat → Int → Int → List V → Option (Bool) | 0, _, _, _ => none | n + 1, x0, x1, x2 => B_qvalid N (s_qvalid N n) x0 x1 x2
noncomputable def cx_qvalid (N : Nat) (f : Int → Int → List V → Option (Bool)) : Cx := { T := T, isPure := tabP [⟨83, e_qvalid f⟩, ⟨109, e_qhas (s_qhas N)⟩], pureK := fun g ds K => tabK [⟨83, e_qvalid f⟩, ⟨109, e_qhas (s_qhas N)⟩] g ds K, memK := fun g dst ds m K => tabMK [] g dst ds m K, meth := tabM [], keep := fun r => match r with | 18 => [1, 3] | _ => [], keepX := fun r => match r with | 18 => [1, 2] | _ => [], loopT := fun r ds m K => match r with | 18 => l_qvalid_18 N f ds m K | _ => none, jumps := 9 }
theorem F_qvalid_18_ok {R : Type} (N : Nat) (f : Int → Int → List V → Option (Bool)) (n1 : Int) (n2 : Int) (vs3 : List V) (n0 : Int) (L : List D → Mem → Option R) (K : Ex → List D → Mem → Option R) :
    roundK (fun st K => codeK (cx_qvalid N f) (loopN Try.f83 0) st K) 108 [1, 3] [1, 2] L [(.ptr 0 1 0), (.v (.int .i64 n0) .no)] [[(1, ⟨46, [(.v (.int .i64 n1) .no), (.v (.int .i64 n2) .no), (.v (.sl 46 vs3) .no)]⟩)]] K = F_qvalid_18 N f n1 n2 vs3 (fun n0 => L [(.ptr 0 1 0), (.v (.int .i64 n0) .no)] [[(1, ⟨46, [(.v (.int .i64 n1) .no), (.v (.int .i64 n2) .no), (.v (.sl 46 vs3) .no)]⟩)]]) (fun a0 => K .ret [(.ptr 0 1 0), (.v (.bool a0) .no)] [[(1, ⟨46, [(.v (.int .i64 n1) .no), (.v (.int .i64 n2) .no), (.v (.sl 46 vs3) .no)]⟩)]]) (K (.exit 1) [(.ptr 0 1 0), .any] [[(1, ⟨46, [(.v (.int .i64 n1) .no), (.v (.int .i64 n2) .no), (.v (.sl 46 vs3) .no)]⟩)]]) n0 := by
  kernel_rfl
theorem S_qvalid_18_ok {R : Type} (N : Nat) (f : Int → Int → List V → Option (Bool)) (n1 : Int) (n2 : Int) (vs3 : List V) (K : Ex → List D → Mem → Option R) : ∀ (t : Nat) (n0 : Int),
    loopK (fun st K => codeK (cx_qvalid N f) (loopN Try.f83 0) st K) 108 [1, 3] [1, 2] t [(.ptr 0 1 0), (.v (.int .i64 n0) .no)] [[(1, ⟨46, [(.v (.int .i64 n1) .no), (.v (.int .i64 n2) .no), (.v (.sl 46 vs3) .no)]⟩)]] K = S_qvalid_18 N f n1 n2 vs3 t n0 (fun a0 => K .ret [(.ptr 0 1 0), (.v (.bool a0) .no)] [[(1, ⟨46, [(.v (.int .i64 n1) .no), (.v (.int .i64 n2) .no), (.v (.sl 46 vs3) .no)]⟩)]]) (K (.exit 1) [(.ptr 0 1 0), .any] [[(1, ⟨46, [(.v (.int .i64 n1) .no), (.v (.int .i64 n2) .no), (.v (.sl 46 vs3) .no)]⟩)]])
  | 0, n0 => rfl
  | t + 1, n0 => (F_qvalid_18_ok N f n1 n2 vs3 n0 _ K).trans (congrArg (fun L => F_qvalid_18 N f n1 n2 vs3 L (fun a0 => K .ret [(.ptr 0 1 0), (.v (.bool a0) .no)] [[(1, ⟨46, [(.v (.int .i64 n1) .no), (.v (.int .i64 n2) .no), (.v (.sl 46 vs3) .no)]⟩)]]) (K (.exit 1) [(.ptr 0 1 0), .any] [[(1, ⟨46, [(.v (.int .i64 n1) .no), (.v (.int .i64 n2) .no), (.v (.sl 46 vs3) .no)]⟩)]]) n0) (funext fun n0 => S_qvalid_18_ok N f n1 n2 vs3 K t n0))
theorem B_qvalid_ok (N : Nat) (f : Int → Int → List V → Option (Bool)) (x0 : Int) (x1 : Int) (x2 : List V) : bodyK (cx_qvalid N f) Try.f83 [.agg [.v (.int .i64 x0) .no, .v (.int .i64 x1) .no, .v (.sl 46 x2) .no]] [] r_qvalid = B_qvalid N f x0 x1 x2 := by
  kernel_rfl
theorem go_qvalid : Goes Try.prog 83 := goes_of Try.func83 (by kernel_rfl) (c := bodyOf Try.f83) (by kernel_rfl)
theorem eo_qvalid (s : Int → Int → List V → Option (Bool)) (hs : ∀ (x0 : Int) (x1 : Int) (x2 : List V) (r0 : Bool), s x0 x1 x2 = some r0 → PureRet Try.prog T 83 [.agg [.v (.int .i64 x0) .no, .v (.int .i64 x1) .no, .v (.sl 46 x2) .no]] [.v (.bool r0) .no]) : EntOK Try.prog T ⟨83, e_qvalid s⟩ := by
  refine ⟨go_qvalid, fun R ds K r h => ?_, fun R ds K => ?_⟩
  · simp only [e_qvalid] at h
    split at h
    · obtain ⟨r0, h1, h2⟩ := bnd1_some h
      exact ⟨_, h2, hs _ _ _ _ h1⟩
    · cases h
  · simp only [e_qvalid]
    split
    · rw [bnd1_b]; rfl
    · rfl
theorem co_qvalid (N : Nat) (f : Int → Int → List V → Option (Bool)) (hf : ∀ (x0 : Int) (x1 : Int) (x2 : List V) (r0 : Bool), f x0 x1 x2 = some r0 → PureRet Try.prog T 83 [.agg [.v (.int .i64 x0) .no, .v (.int .i64 x1) .no, .v (.sl 46 x2) .no]] [.v (.bool r0) .no]) : CxOK Try.prog (cx_qvalid N f) :=
  cxOK_of2 (es := [⟨83, e_qvalid f⟩, ⟨109, e_qhas (s_qhas N)⟩]) (me := []) (ms := []) T_ok ⟨eo_qvalid f hf, eo_qhas _ (p_qhas N), trivial⟩ trivial trivial rfl (fun _ _ _ _ => rfl) (fun _ _ _ _ _ _ => rfl) rfl
theorem lk_qvalid_18 (N : Nat) (f : Int → Int → List V → Option (Bool)) : LoopOK (cx_qvalid N f) 108 (loopN Try.f83 0) := by
  refine loopOK_of (rid := 18) (by kernel_rfl) rfl rfl fun R ds m K r h => ?_
  have h : l_qvalid_18 N f ds m K = some r := h
  unfold l_qvalid_18 at h
  split at h
  · exact ⟨N, Eq.trans (S_qvalid_18_ok ..) h⟩
  · cases h
theorem lo_qvalid (N : Nat) (f : Int → Int → List V → Option (Bool)) : LoopsOK (cx_qvalid N f) Try.f83.ntmps (bodyOf Try.f83) :=
  loopsOK_of (k := 1) (by kernel_rfl) ⟨trivial, lk_qvalid_18 N f⟩
theorem p_qvalid (N : Nat) : ∀ (M : Nat) (x0 : Int) (x1 : Int) (x2 : List V) (r0 : Bool), s_qvalid N M x0 x1 x2 = some r0 → PureRet Try.prog T 83 [.agg [.v (.int .i64 x0) .no, .v (.int .i64 x1) .no, .v (.sl 46 x2) .no]] [.v (.bool r0) .no]
  | 0, _, _, _, _, h => by cases h
  | M + 1, x0, x1, x2, r0, h => pure_of (cx := cx_qvalid N (s_qvalid N M)) (by kernel_rfl) (co_qvalid N (s_qvalid N M) (p_qvalid N M)) Try.func83 (by kernel_rfl) (by kernel_rfl) (lo_qvalid N (s_qvalid N M)) rfl rfl rfl (rf := r_qvalid) ((B_qvalid_ok N (s_qvalid N M) x0 x1 x2).trans h) (fun rs' m h => by
    unfold r_qvalid at h
    split at h
    · cases h; exact ⟨rfl, rfl⟩
    · cases h)
noncomputable def e_qnodes {R : Type} (s : Int → Int → List V → Option (Int)) (ds : List D) (K : List D → Option R) : Option R :=
  match ds with
  | [.agg [.v (.int .i64 x0) .no, .v (.int .i64 x1) .no, .v (.sl 46 x2) .no]] => bnd1 (s x0 x1 x2) fun r0 => K [.v (.int .i64 r0) .no]
  | _ => none
noncomputable def r_qnodes (rs : List D) (_ : Mem) : Option (Int) :=
  match rs with
  | [.v (.int .i64 r0) _] => some (r0)
  | _ => none
noncomputable def F_qnodes_3 {R : Type} (N : Nat) (f : Int → Int → List V → Option (Int)) (n2 : Int) (n3 : Int) (vs4 : List V) (Lq : Int → Int → Option R) (K0 : Int → Option R) (n0 : Int) (n1 : Int) : Option R := br (decide (n1 < (↑vs4.length : Int))) (br (decide (0 ≤ n1) && decide (n1 < (↑vs4.length : Int))) (at? vs4 n1.toNat fun x0 => x0.unAgg fun l1 => unCons l1 fun x2 l3 => V.unInt IntKind.i64 x2 fun n4 => unCons l3 fun x5 l6 => V.unInt IntKind.i64 x5 fun n7 => unCons l6 fun x8 l9 => V.unSl 46 x8 fun l10 => unNil l9 (bnd1 (f n4 n7 l10) fun n11 => Lq (IntKind.i64.wrap (n0 + n11)) (IntKind.i64.wrap (n1 + 1)))) none) (K0 n0)
noncomputable def S_qnodes_3 {R : Type} (N : Nat) (f : Int → Int → List V → Option (Int)) (n2 : Int) (n3 : Int) (vs4 : List V) : Nat → Int → Int → (Int → Option R) → Option R | 0, _, _, _ => none | t + 1, n0, n1, K0 => F_qnodes_3 N f n2 n3 vs4 (fun n0 n1 => S_qnodes_3 N f n2 n3 vs4 t n0 n1 K0) K0 n0 n1
noncomputable def l_qnodes_3 {R : Type} (N : Nat) (f : Int → Int → List V → Option (Int)) (ds : List D) (m : Mem) (K : Ex → List D → Mem → Option R) : Option R :=
  match ds, m with
  | [(.ptr 0 1 0), (.v (.int .i64 n0) .no), (.v (.int .i64 n1) .no)], [[(1, ⟨46, [(.v (.int .i64 n2) .no), (.v (.int .i64 n3) .no), (.v (.sl 46 vs4) .no)]⟩)]] => S_qnodes_3 N f n2 n3 vs4 N n0 n1 (fun a0 => K (.exit 0) [(.ptr 0 1 0), (.v (.int .i64 a0) .no)] [[(1, ⟨46, [(.v (.int .i64 n2) .no), (.v (.int .i64 n3) .no), (.v (.sl 46 vs4) .no)]⟩)]])
  | _, _ => none
noncomputable def B_qnodes (N : Nat) (f : Int → Int → List V → Option (Int)) (x0 : Int) (x1 : Int) (x2 : List V) : Option (Int) := S_qnodes_3 N f x0 x1 x2 N 1 0 fun n0 => some n0
noncomputable def s_qnodes (N : Nat) : Nat → Int → Int → List V → Option (Int) | 0, _, _, _ => none | n + 1, x0, x1, x2 => B_qnodes N (s_qnodes N n) x0 x1 x2
noncomputable def cx_qnodes (N : Nat) (f : Int → Int → List V → Option (Int)) : Cx := { T := T, isPure := tabP [⟨84, e_qnodes f⟩], pureK := fun g ds K => tabK [⟨84, e_qnodes f⟩] g ds K, memK := fun g dst ds m K => tabMK [] g dst ds m K, meth := tabM [], keep := fun r => match r with | 3 => [1, 3, 4] | _ => [], keepX := fun r => match r with | 3 => [1, 3] | _ => [], loopT := fun r ds m K => match r with | 3 => l_qnodes_3 N f ds m K | _ => none, jumps := 9 }
theorem F_qnodes_3_ok {R : Type} (N : Nat) (f : Int → Int → List V → Option (Int)) (n2 : Int) (n3 : Int) (vs4 : List V) (n0 : Int) (n1 : Int) (L : List D → Mem → Option R) (K : Ex → List D → Mem → Option R) :
    roundK (fun st K => codeK (cx_qnodes N f) (loopN Try.f84 0) st K) 21 [1, 3, 4] [1, 3] L [(.ptr 0 1 0), (.v (.int .i64 n0) .no), (.v (.int .i64 n1) .no)] [[(1, ⟨46, [(.v (.int .i64 n2) .no), (.v (.int .i64 n3) .no), (.v (.sl 46 vs4) .no)]⟩)]] K = F_qnodes_3 N f n2 n3 vs4 (fun n0 n1 => L [(.ptr 0 1 0), (.v (.int .i64 n0) .no), (.v (.int .i64 n1) .no)] [[(1, ⟨46, [(.v (.int .i64 n2) .no), (.v (.int .i64 n3) .no), (.v (.sl 46 vs4) .no)]⟩)]]) (fun a0 => K (.exit 0) [(.ptr 0 1 0), (.v (.int .i64 a0) .no)] [[(1, ⟨46, [(.v (.int .i64 n2) .no), (.v (.int .i64 n3) .no), (.v (.sl 46 vs4) .no)]⟩)]]) n0 n1 := by
  kernel_rfl
theorem S_qnodes_3_ok {R : Type} (N : Nat) (f : Int → Int → List V → Option (Int)) (n2 : Int) (n3 : Int) (vs4 : List V) (K : Ex → List D → Mem → Option R) : ∀ (t : Nat) (n0 : Int) (n1 : Int),
    loopK (fun st K => codeK (cx_qnodes N f) (loopN Try.f84 0) st K) 21 [1, 3, 4] [1, 3] t [(.ptr 0 1 0), (.v (.int .i64 n0) .no), (.v (.int .i64 n1) .no)] [[(1, ⟨46, [(.v (.int .i64 n2) .no), (.v (.int .i64 n3) .no), (.v (.sl 46 vs4) .no)]⟩)]] K = S_qnodes_3 N f n2 n3 vs4 t n0 n1 (fun a0 => K (.exit 0) [(.ptr 0 1 0), (.v (.int .i64 a0) .no)] [[(1, ⟨46, [(.v (.int .i64 n2) .no), (.v (.int .i64 n3) .no), (.v (.sl 46 vs4) .no)]⟩)]])
  | 0, n0, n1 => rfl
  | t + 1, n0, n1 => (F_qnodes_3_ok N f n2 n3 vs4 n0 n1 _ K).trans (congrArg (fun L => F_qnodes_3 N f n2 n3 vs4 L (fun a0 => K (.exit 0) [(.ptr 0 1 0), (.v (.int .i64 a0) .no)] [[(1, ⟨46, [(.v (.int .i64 n2) .no), (.v (.int .i64 n3) .no), (.v (.sl 46 vs4) .no)]⟩)]]) n0 n1) (funext fun n0 => funext fun n1 => S_qnodes_3_ok N f n2 n3 vs4 K t n0 n1))
theorem B_qnodes_ok (N : Nat) (f : Int → Int → List V → Option (Int)) (x0 : Int) (x1 : Int) (x2 : List V) : bodyK (cx_qnodes N f) Try.f84 [.agg [.v (.int .i64 x0) .no, .v (.int .i64 x1) .no, .v (.sl 46 x2) .no]] [] r_qnodes = B_qnodes N f x0 x1 x2 := by
  kernel_rfl
theorem go_qnodes : Goes Try.prog 84 := goes_of Try.func84 (by kernel_rfl) (c := bodyOf Try.f84) (by kernel_rfl)
theorem eo_qnodes (s : Int → Int → List V → Option (Int)) (hs : ∀ (x0 : Int) (x1 : Int) (x2 : List V) (r0 : Int), s x0 x1 x2 = some r0 → PureRet Try.prog T 84 [.agg [.v (.int .i64 x0) .no, .v (.int .i64 x1) .no, .v (.sl 46 x2) .no]] [.v (.int .i64 r0) .no]) : EntOK Try.prog T ⟨84, e_qnodes s⟩ := by
  refine ⟨go_qnodes, fun R ds K r h => ?_, fun R ds K => ?_⟩
  · simp only [e_qnodes] at h
    split at h
    · obtain ⟨r0, h1, h2⟩ := bnd1_some h
      exact ⟨_, h2, hs _ _ _ _ h1⟩
    · cases h
  · simp only [e_qnodes]
    split
    · rw [bnd1_b]; rfl
    · rfl
theorem co_qnodes (N : Nat) (f : Int → Int → List V → Option (Int)) (hf : ∀ (x0 : Int) (x1 : Int) (x2 : List V) (r0 : Int), f x0 x1 x2 = some r0 → PureRet Try.prog T 84 [.agg [.v (.int .i64 x0) .no, .v (.int .i64 x1) .no, .v (.sl 46 x2) .no]] [.v (.int .i64 r0) .no]) : CxOK Try.prog (cx_qnodes N f) :=
  cxOK_of2 (es := [⟨84, e_qnodes f⟩]) (me := []) (ms := []) T_ok ⟨eo_qnodes f hf, trivial⟩ trivial trivial rfl (fun _ _ _ _ => rfl) (fun _ _ _ _ _ _ => rfl) rfl
theorem lk_qnodes_3 (N : Nat) (f : Int → Int → List V → Option (Int)) : LoopOK (cx_qnodes N f) 21 (loopN Try.f84 0) := by
  refine loopOK_of (rid := 3) (by kernel_rfl) rfl rfl fun R ds m K r h => ?_
  have h : l_qnodes_3 N f ds m K = some r := h
  unfold l_qnodes_3 at h
  split at h
  · exact ⟨N, Eq.trans (S_qnodes_3_ok ..) h⟩
  · cases h
theorem lo_qnodes (N : Nat) (f : Int → Int → List V → Option (Int)) : LoopsOK (cx_qnodes N f) Try.f84.ntmps (bodyOf Try.f84) :=
  loopsOK_of (k := 1) (by kernel_rfl) ⟨trivial, lk_qnodes_3 N f⟩
theorem p_qnodes (N : Nat) : ∀ (M : Nat) (x0 : Int) (x1 : Int) (x2 : List V) (r0 : Int), s_qnodes N M x0 x1 x2 = some r0 → PureRet Try.prog T 84 [.agg [.v (.int .i64 x0) .no, .v (.int .i64 x1) .no, .v (.sl 46 x2) .no]] [.v (.int .i64 r0) .no]
  | 0, _, _, _, _, h => by cases h
  | M + 1, x0, x1, x2, r0, h => pure_of (cx := cx_qnodes N (s_qnodes N M)) (by kernel_rfl) (co_qnodes N (s_qnodes N M) (p_qnodes N M)) Try.func84 (by kernel_rfl) (by kernel_rfl) (lo_qnodes N (s_qnodes N M)) rfl rfl rfl (rf := r_qnodes) ((B_qnodes_ok N (s_qnodes N M) x0 x1 x2).trans h) (fun rs' m h => by
    unfold r_qnodes at h
    split at h
    · cases h; exact ⟨rfl, rfl⟩
    · cases h)
noncomputable def e_qdepth {R : Type} (s : Int → Int → List V → Option (Int)) (ds : List D) (K : List D → Option R) : Option R :=
  match ds with
  | [.agg [.v (.int .i64 x0) .no, .v (.int .i64 x1) .no, .v (.sl 46 x2) .no]] => bnd1 (s x0 x1 x2) fun r0 => K [.v (.int .i64 r0) .no]
  | _ => none
noncomputable def r_qdepth (rs : List D) (_ : Mem) : Option (Int) :=
  match rs with
  | [.v (.int .i64 r0) _] => some (r0)
  | _ => none
noncomputable def F_qdepth_3 {R : Type} (N : Nat) (f : Int → Int → List V → Option (Int)) (n2 : Int) (n3 : Int) (vs4 : List V) (Lq : Int → Int → Option R) (K0 : Int → Option R) (n0 : Int) (n1 : Int) : Option R := br (decide (n1 < (↑vs4.length : Int))) (br (decide (0 ≤ n1) && decide (n1 < (↑vs4.length : Int))) (at? vs4 n1.toNat fun x0 => x0.unAgg fun l1 => unCons l1 fun x2 l3 => V.unInt IntKind.i64 x2 fun n4 => unCons l3 fun x5 l6 => V.unInt IntKind.i64 x5 fun n7 => unCons l6 fun x8 l9 => V.unSl 46 x8 fun l10 => unNil l9 (bnd1 (f n4 n7 l10) fun n11 => br (decide (n0 < n11)) (Lq n11 (IntKind.i64.wrap (n1 + 1))) (Lq n0 (IntKind.i64.wrap (n1 + 1))))) none) (K0 n0)
noncomputable def S_qdepth_3 {R : Type} (N : Nat) (f : Int → Int → List V → Option (Int)) (n2 : Int) (n3 : Int) (vs4 : List V) : Nat → Int → Int → (Int → Option R) → Option R | 0, _, _, _ => none | t + 1, n0, n1, K0 => F_qdepth_3 N f n2 n3 vs4 (fun n0 n1 => S_qdepth_3 N f n2 n3 vs4 t n0 n1 K0) K0 n0 n1
noncomputable def l_qdepth_3 {R : Type} (N : Nat) (f : Int → Int → List V → Option (Int)) (ds : List D) (m : Mem) (K : Ex → List D → Mem → Option R) : Option R :=
  match ds, m with
  | [(.ptr 0 1 0), (.v (.int .i64 n0) .no), (.v (.int .i64 n1) .no)], [[(1, ⟨46, [(.v (.int .i64 n2) .no), (.v (.int .i64 n3) .no), (.v (.sl 46 vs4) .no)]⟩)]] => S_qdepth_3 N f n2 n3 vs4 N n0 n1 (fun a0 => K (.exit 0) [(.ptr 0 1 0), (.v (.int .i64 a0) .no)] [[(1, ⟨46, [(.v (.int .i64 n2) .no), (.v (.int .i64 n3) .no), (.v (.sl 46 vs4) .no)]⟩)]])
  | _, _ => none
noncomputable def B_qdepth (N : Nat) (f : Int → Int → List V → Option (Int)) (x0 : Int) (x1 : Int) (x2 : List V) : Option (Int) := S_qdepth_3 N f x0 x1 x2 N 0 0 fun n0 => some (IntKind.i64.wrap (n0 + 1))
noncomputable def s_qdepth (N : Nat) : Nat → Int → Int → List V → Option (Int) | 0, _, _, _ => none | n + 1, x0, x1, x2 => B_qdepth N (s_qdepth N n) x0 x1 x2
noncomputable def cx_qdepth (N : Nat) (f : Int → Int → List V → Option (Int)) : Cx := { T := T, isPure := tabP [⟨85, e_qdepth f⟩], pureK := fun g ds K => tabK [⟨85, e_qdepth f⟩] g ds K, memK := fun g dst ds m K => tabMK [] g dst ds m K, meth := tabM [], keep := fun r => match r with | 3 => [1, 3, 4] | _ => [], keepX := fun r => match r with | 3 => [1, 3] | _ => [], loopT := fun r ds m K => match r with | 3 => l_qdepth_3 N f ds m K | _ => none, jumps := 9 }
theorem F_qdepth_3_ok {R : Type} (N : Nat) (f : Int → Int → List V → Option (Int)) (n2 : Int) (n3 : Int) (vs4 : List V) (n0 : Int) (n1 : Int) (L : List D → Mem → Option R) (K : Ex → List D → Mem → Option R) :
    roundK (fun st K => codeK (cx_qdepth N f) (loopN Try.f85 0) st K) 25 [1, 3, 4] [1, 3] L [(.ptr 0 1 0), (.v (.int .i64 n0) .no), (.v (.int .i64 n1) .no)] [[(1, ⟨46, [(.v (.int .i64 n2) .no), (.v (.int .i64 n3) .no), (.v (.sl 46 vs4) .no)]⟩)]] K = F_qdepth_3 N f n2 n3 vs4 (fun n0 n1 => L [(.ptr 0 1 0), (.v (.int .i64 n0) .no), (.v (.int .i64 n1) .no)] [[(1, ⟨46, [(.v (.int .i64 n2) .no), (.v (.int .i64 n3) .no), (.v (.sl 46 vs4) .no)]⟩)]]) (fun a0 => K (.exit 0) [(.ptr 0 1 0), (.v (.int .i64 a0) .no)] [[(1, ⟨46, [(.v (.int .i64 n2) .no), (.v (.int .i64 n3) .no), (.v (.sl 46 vs4) .no)]⟩)]]) n0 n1 := by
  kernel_rfl
theorem S_qdepth_3_ok {R : Type} (N : Nat) (f : Int → Int → List V → Option (Int)) (n2 : Int) (n3 : Int) (vs4 : List V) (K : Ex → List D → Mem → Option R) : ∀ (t : Nat) (n0 : Int) (n1 : Int),
    loopK (fun st K => codeK (cx_qdepth N f) (loopN Try.f85 0) st K) 25 [1, 3, 4] [1, 3] t [(.ptr 0 1 0), (.v (.int .i64 n0) .no), (.v (.int .i64 n1) .no)] [[(1, ⟨46, [(.v (.int .i64 n2) .no), (.v (.int .i64 n3) .no), (.v (.sl 46 vs4) .no)]⟩)]] K = S_qdepth_3 N f n2 n3 vs4 t n0 n1 (fun a0 => K (.exit 0) [(.ptr 0 1 0), (.v (.int .i64 a0) .no)] [[(1, ⟨46, [(.v (.int .i64 n2) .no), (.v (.int .i64 n3) .no), (.v (.sl 46 vs4) .no)]⟩)]])
  | 0, n0, n1 => rfl
  | t + 1, n0, n1 => (F_qdepth_3_ok N f n2 n3 vs4 n0 n1 _ K).trans (congrArg (fun L => F_qdepth_3 N f n2 n3 vs4 L (fun a0 => K (.exit 0) [(.ptr 0 1 0), (.v (.int .i64 a0) .no)] [[(1, ⟨46, [(.v (.int .i64 n2) .no), (.v (.int .i64 n3) .no), (.v (.sl 46 vs4) .no)]⟩)]]) n0 n1) (funext fun n0 => funext fun n1 => S_qdepth_3_ok N f n2 n3 vs4 K t n0 n1))
theorem B_qdepth_ok (N : Nat) (f : Int → Int → List V → Option (Int)) (x0 : Int) (x1 : Int) (x2 : List V) : bodyK (cx_qdepth N f) Try.f85 [.agg [.v (.int .i64 x0) .no, .v (.int .i64 x1) .no, .v (.sl 46 x2) .no]] [] r_qdepth = B_qdepth N f x0 x1 x2 := by
  kernel_rfl
theorem go_qdepth : Goes Try.prog 85 := goes_of Try.func85 (by kernel_rfl) (c := bodyOf Try.f85) (by kernel_rfl)
theorem eo_qdepth (s : Int → Int → List V → Option (Int)) (hs : ∀ (x0 : Int) (x1 : Int) (x2 : List V) (r0 : Int), s x0 x1 x2 = some r0 → PureRet Try.prog T 85 [.agg [.v (.int .i64 x0) .no, .v (.int .i64 x1) .no, .v (.sl 46 x2) .no]] [.v (.int .i64 r0) .no]) : EntOK Try.prog T ⟨85, e_qdepth s⟩ := by
  refine ⟨go_qdepth, fun R ds K r h => ?_, fun R ds K => ?_⟩
  · simp only [e_qdepth] at h
    split at h
    · obtain ⟨r0, h1, h2⟩ := bnd1_some h
      exact ⟨_, h2, hs _ _ _ _ h1⟩
    · cases h
  · simp only [e_qdepth]
    split
    · rw [bnd1_b]; rfl
    · rfl
theorem co_qdepth (N : Nat) (f : Int → Int → List V → Option (Int)) (hf : ∀ (x0 : Int) (x1 : Int) (x2 : List V) (r0 : Int), f x0 x1 x2 = some r0 → PureRet Try.prog T 85 [.agg [.v (.int .i64 x0) .no, .v (.int .i64 x1) .no, .v (.sl 46 x2) .no]] [.v (.int .i64 r0) .no]) : CxOK Try.prog (cx_qdepth N f) :=
  cxOK_of2 (es := [⟨85, e_qdepth f⟩]) (me := []) (ms := []) T_ok ⟨eo_qdepth f hf, trivial⟩ trivial trivial rfl (fun _ _ _ _ => rfl) (fun _ _ _ _ _ _ => rfl) rfl
theorem lk_qdepth_3 (N : Nat) (f : Int → Int → List V → Option (Int)) : LoopOK (cx_qdepth N f) 25 (loopN Try.f85 0) := by
  refine loopOK_of (rid := 3) (by kernel_rfl) rfl rfl fun R ds m K r h => ?_
  have h : l_qdepth_3 N f ds m K = some r := h
  unfold l_qdepth_3 at h
  split at h
  · exact ⟨N, Eq.trans (S_qdepth_3_ok ..) h⟩
  · cases h
theorem lo_qdepth (N : Nat) (f : Int → Int → List V → Option (Int)) : LoopsOK (cx_qdepth N f) Try.f85.ntmps (bodyOf Try.f85) :=
  loopsOK_of (k := 1) (by kernel_rfl) ⟨trivial, lk_qdepth_3 N f⟩
theorem p_qdepth (N : Nat) : ∀ (M : Nat) (x0 : Int) (x1 : Int) (x2 : List V) (r0 : Int), s_qdepth N M x0 x1 x2 = some r0 → PureRet Try.prog T 85 [.agg [.v (.int .i64 x0) .no, .v (.int .i64 x1) .no, .v (.sl 46 x2) .no]] [.v (.int .i64 r0) .no]
  | 0, _, _, _, _, h => by cases h
  | M + 1, x0, x1, x2, r0, h => pure_of (cx := cx_qdepth N (s_qdepth N M)) (by kernel_rfl) (co_qdepth N (s_qdepth N M) (p_qdepth N M)) Try.func85 (by kernel_rfl) (by kernel_rfl) (lo_qdepth N (s_qdepth N M)) rfl rfl rfl (rf := r_qdepth) ((B_qdepth_ok N (s_qdepth N M) x0 x1 x2).trans h) (fun rs' m h => by
    unfold r_qdepth at h
    split at h
    · cases h; exact ⟨rfl, rfl⟩
    · cases h)
noncomputable def e_qCheck {R : Type} (s : Int → Int → List V → Option (Int)) (ds : List D) (K : List D → Option R) : Option R :=
  match ds with
  | [.agg [.v (.int .i64 x0) .no, .v (.int .i64 x1) .no, .v (.sl 46 x2) .no]] => bnd1 (s x0 x1 x2) fun r0 => K [.v (.int .i64 r0) .no]
  | _ => none
noncomputable def r_qCheck (rs : List D) (_ : Mem) : Option (Int) :=
  match rs with
  | [.v (.int .i64 r0) _] => some (r0)
  | _ => none
noncomputable def s_qCheck (N : Nat) (x0 : Int) (x1 : Int) (x2 : List V) : Option (Int) := bnd1 (s_qvalid N N x0 x1 x2) fun b0 => br (!b0) (some 1) (bnd1 (s_qnodes N N x0 x1 x2) fun n1 => br (decide (16 < n1)) (some 3) (bnd1 (s_qdepth N N x0 x1 x2) fun n2 => br (decide (8 < n2)) (some 3) (some 0)))
noncomputable def cx_qCheck (N : Nat) : Cx := { T := T, isPure := tabP [⟨83, e_qvalid (s_qvalid N N)⟩, ⟨84, e_qnodes (s_qnodes N N)⟩, ⟨85, e_qdepth (s_qdepth N N)⟩], pureK := fun g ds K => tabK [⟨83, e_qvalid (s_qvalid N N)⟩, ⟨84, e_qnodes (s_qnodes N N)⟩, ⟨85, e_qdepth (s_qdepth N N)⟩] g ds K, memK := fun g dst ds m K => tabMK [] g dst ds m K, meth := tabM [], keep := fun _ => [], keepX := fun _ => [], loopT := fun _ _ _ _ => none, jumps := 9 }
theorem s_qCheck_ok (N : Nat) (x0 : Int) (x1 : Int) (x2 : List V) : bodyK (cx_qCheck N) Try.f58 [.agg [.v (.int .i64 x0) .no, .v (.int .i64 x1) .no, .v (.sl 46 x2) .no]] [] r_qCheck = s_qCheck N x0 x1 x2 := by
  kernel_rfl
theorem go_qCheck : Goes Try.prog 58 := goes_of Try.func58 (by kernel_rfl) (c := bodyOf Try.f58) (by kernel_rfl)
theorem eo_qCheck (s : Int → Int → List V → Option (Int)) (hs : ∀ (x0 : Int) (x1 : Int) (x2 : List V) (r0 : Int), s x0 x1 x2 = some r0 → PureRet Try.prog T 58 [.agg [.v (.int .i64 x0) .no, .v (.int .i64 x1) .no, .v (.sl 46 x2) .no]] [.v (.int .i64 r0) .no]) : EntOK Try.prog T ⟨58, e_qCheck s⟩ := by
  refine ⟨go_qCheck, fun R ds K r h => ?_, fun R ds K => ?_⟩
  · simp only [e_qCheck] at h
    split at h
    · obtain ⟨r0, h1, h2⟩ := bnd1_some h
      exact ⟨_, h2, hs _ _ _ _ h1⟩
    · cases h
  · simp only [e_qCheck]
    split
    · rw [bnd1_b]; rfl
    · rfl
theorem co_qCheck (N : Nat) : CxOK Try.prog (cx_qCheck N) :=
  cxOK_of2 (es := [⟨83, e_qvalid (s_qvalid N N)⟩, ⟨84, e_qnodes (s_qnodes N N)⟩, ⟨85, e_qdepth (s_qdepth N N)⟩]) (me := []) (ms := []) T_ok ⟨eo_qvalid _ (p_qvalid N N), eo_qnodes _ (p_qnodes N N), eo_qdepth _ (p_qdepth N N), trivial⟩ trivial trivial rfl (fun _ _ _ _ => rfl) (fun _ _ _ _ _ _ => rfl) rfl
theorem lo_qCheck (N : Nat) : LoopsOK (cx_qCheck N) Try.f58.ntmps (bodyOf Try.f58) :=
  loopsOK_of (k := 0) (by kernel_rfl) trivial
theorem p_qCheck (N : Nat) (x0 : Int) (x1 : Int) (x2 : List V) (r0 : Int) (h : s_qCheck N x0 x1 x2 = some r0) : PureRet Try.prog T 58 [.agg [.v (.int .i64 x0) .no, .v (.int .i64 x1) .no, .v (.sl 46 x2) .no]] [.v (.int .i64 r0) .no] :=
  pure_of (cx := cx_qCheck N) (by kernel_rfl) (co_qCheck N) Try.func58 (by kernel_rfl) (by kernel_rfl) (lo_qCheck N) rfl rfl rfl (rf := r_qCheck) ((s_qCheck_ok N x0 x1 x2).trans h) (fun rs' m h => by
    unfold r_qCheck at h
    split at h
    · cases h; exact ⟨rfl, rfl⟩
    · cases h)
noncomputable def e_qCheckRules {R : Type} (s : List V → Option (Int)) (ds : List D) (K : List D → Option R) : Option R :=
  match ds with
  | [.v (.sl 48 x0) .no] => bnd1 (s x0) fun r0 => K [.v (.int .i64 r0) .no]
  | _ => none
noncomputable def r_qCheckRules (rs : List D) (_ : Mem) : Option (Int) :=
  match rs with
  | [.v (.int .i64 r0) _] => some (r0)
  | _ => none
noncomputable def F_qCheckRules_4 {R : Type} (N : Nat) (vs0 : List V) (Lq : Int → Option R) (K0 : Int → Option R) (K1 : Option R) (n1 : Int) : Option R := br (decide (n1 < (↑vs0.length : Int))) (br (decide (0 ≤ n1) && decide (n1 < (↑vs0.length : Int))) (at? vs0 n1.toNat fun x0 => x0.unAgg fun l1 => unCons l1 fun x2 l3 => V.unInt IntKind.i64 x2 fun n4 => unCons l3 fun x5 l6 => V.unInt IntKind.i64 x5 fun n7 => unCons l6 fun x8 l9 => V.unInt IntKind.i64 x8 fun n10 => unCons l9 fun x11 l12 => V.unSl 46 x11 fun l13 => unNil l12 (br (decide (n4 < 1)) (K0 1) (br (decide (0 ≤ n1) && decide (n1 < (↑vs0.length : Int))) (at? vs0 n1.toNat fun x14 => x14.unAgg fun l15 => unCons l15 fun x16 l17 => V.unInt IntKind.i64 x16 fun n18 => unCons l17 fun x19 l20 => V.unInt IntKind.i64 x19 fun n21 => unCons l20 fun x22 l23 => V.unInt IntKind.i64 x22 fun n24 => unCons l23 fun x25 l26 => V.unSl 46 x25 fun l27 => unNil l26 (br (decide (255 < n18)) (K0 1) (br (decide (0 ≤ n1) && decide (n1 < (↑vs0.length : Int))) (at? vs0 n1.toNat fun x28 => x28.unAgg fun l29 => unCons l29 fun x30 l31 => V.unInt IntKind.i64 x30 fun n32 => unCons l31 fun x33 l34 => V.unInt IntKind.i64 x33 fun n35 => unCons l34 fun x36 l37 => V.unInt IntKind.i64 x36 fun n38 => unCons l37 fun x39 l40 => V.unSl 46 x39 fun l41 => unNil l40 (bnd1 (s_qCheck N n35 n38 l41) fun n42 => br (!decide (n42 = 0)) (K0 n42) (Lq (IntKind.i64.wrap (n1 + 1))))) none))) none))) none) K1
noncomputable def S_qCheckRules_4 {R : Type} (N : Nat) (vs0 : List V) : Nat → Int → (Int → Option R) → (Option R) → Option R | 0, _, _, _ => none | t + 1, n1, K0, K1 => F_qCheckRules_4 N vs0 (fun n1 => S_qCheckRules_4 N vs0 t n1 K0 K1) K0 K1 n1
noncomputable def l_qCheckRules_4 {R : Type} (N : Nat) (ds : List D) (m : Mem) (K : Ex → List D → Mem → Option R) : Option R :=
  match ds, m with
  | [(.v (.sl 48 vs0) .no), (.v (.int .i64 n1) .no)], [[]] => S_qCheckRules_4 N vs0 N n1 (fun a0 => K .ret [(.v (.int .i64 a0) .no)] [[]]) (K (.exit 0) [.any] [[]])
  | _, _ => none
noncomputable def s_qCheckRules (N : Nat) (x0 : List V) : Option (Int) := br (decide (8 < (↑x0.length : Int))) (some 3) (S_qCheckRules_4 N x0 N 0 (fun n0 => some n0) (some 0))
noncomputable def cx_qCheckRules (N : Nat) : Cx := { T := T, isPure := tabP [⟨58, e_qCheck (s_qCheck N)⟩], pureK := fun g ds K => tabK [⟨58, e_qCheck (s_qCheck N)⟩] g ds K, memK := fun g dst ds m K => tabMK [] g dst ds m K, meth := tabM [], keep := fun r => match r with | 4 => [0, 3] | _ => [], keepX := fun r => match r with | 4 => [2] | _ => [], loopT := fun r ds m K => match r with | 4 => l_qCheckRules_4 N ds m K | _ => none, jumps := 9 }
theorem F_qCheckRules_4_ok {R : Type} (N : Nat) (vs0 : List V) (n1 : Int) (L : List D → Mem → Option R) (K : Ex → List D → Mem → Option R) :
    roundK (fun st K => codeK (cx_qCheckRules N) (loopN Try.f32 0) st K) 37 [0, 3] [2] L [(.v (.sl 48 vs0) .no), (.v (.int .i64 n1) .no)] [[]] K = F_qCheckRules_4 N vs0 (fun n1 => L [(.v (.sl 48 vs0) .no), (.v (.int .i64 n1) .no)] [[]]) (fun a0 => K .ret [(.v (.int .i64 a0) .no)] [[]]) (K (.exit 0) [.any] [[]]) n1 := by
  kernel_rfl
theorem S_qCheckRules_4_ok {R : Type} (N : Nat) (vs0 : List V) (K : Ex → List D → Mem → Option R) : ∀ (t : Nat) (n1 : Int),
    loopK (fun st K => codeK (cx_qCheckRules N) (loopN Try.f32 0) st K) 37 [0, 3] [2] t [(.v (.sl 48 vs0) .no), (.v (.int .i64 n1) .no)] [[]] K = S_qCheckRules_4 N vs0 t n1 (fun a0 => K .ret [(.v (.int .i64 a0) .no)] [[]]) (K (.exit 0) [.any] [[]])
  | 0, n1 => rfl
  | t + 1, n1 => (F_qCheckRules_4_ok N vs0 n1 _ K).trans (congrArg (fun L => F_qCheckRules_4 N vs0 L (fun a0 => K .ret [(.v (.int .i64 a0) .no)] [[]]) (K (.exit 0) [.any] [[]]) n1) (funext fun n1 => S_qCheckRules_4_ok N vs0 K t n1))
theorem s_qCheckRules_ok (N : Nat) (x0 : List V) : bodyK (cx_qCheckRules N) Try.f32 [.v (.sl 48 x0) .no] [] r_qCheckRules = s_qCheckRules N x0 := by
  kernel_rfl
theorem go_qCheckRules : Goes Try.prog 32 := goes_of Try.func32 (by kernel_rfl) (c := bodyOf Try.f32) (by kernel_rfl)
theorem eo_qCheckRules (s : List V → Option (Int)) (hs : ∀ (x0 : List V) (r0 : Int), s x0 = some r0 → PureRet Try.prog T 32 [.v (.sl 48 x0) .no] [.v (.int .i64 r0) .no]) : EntOK Try.prog T ⟨32, e_qCheckRules s⟩ := by
  refine ⟨go_qCheckRules, fun R ds K r h => ?_, fun R ds K => ?_⟩
  · simp only [e_qCheckRules] at h
    split at h
    · obtain ⟨r0, h1, h2⟩ := bnd1_some h
      exact ⟨_, h2, hs _ _ h1⟩
    · cases h
  · simp only [e_qCheckRules]
    split
    · rw [bnd1_b]; rfl
    · rfl
theorem co_qCheckRules (N : Nat) : CxOK Try.prog (cx_qCheckRules N) :=
  cxOK_of2 (es := [⟨58, e_qCheck (s_qCheck N)⟩]) (me := []) (ms := []) T_ok ⟨eo_qCheck _ (p_qCheck N), trivial⟩ trivial trivial rfl (fun _ _ _ _ => rfl) (fun _ _ _ _ _ _ => rfl) rfl
theorem lk_qCheckRules_4 (N : Nat) : LoopOK (cx_qCheckRules N) 37 (loopN Try.f32 0) := by
  refine loopOK_of (rid := 4) (by kernel_rfl) rfl rfl fun R ds m K r h => ?_
  have h : l_qCheckRules_4 N ds m K = some r := h
  unfold l_qCheckRules_4 at h
  split at h
  · exact ⟨N, Eq.trans (S_qCheckRules_4_ok ..) h⟩
  · cases h
theorem lo_qCheckRules (N : Nat) : LoopsOK (cx_qCheckRules N) Try.f32.ntmps (bodyOf Try.f32) :=
  loopsOK_of (k := 1) (by kernel_rfl) ⟨trivial, lk_qCheckRules_4 N⟩
theorem p_qCheckRules (N : Nat) (x0 : List V) (r0 : Int) (h : s_qCheckRules N x0 = some r0) : PureRet Try.prog T 32 [.v (.sl 48 x0) .no] [.v (.int .i64 r0) .no] :=
  pure_of (cx := cx_qCheckRules N) (by kernel_rfl) (co_qCheckRules N) Try.func32 (by kernel_rfl) (by kernel_rfl) (lo_qCheckRules N) rfl rfl rfl (rf := r_qCheckRules) ((s_qCheckRules_ok N x0).trans h) (fun rs' m h => by
    unfold r_qCheckRules at h
    split at h
    · cases h; exact ⟨rfl, rfl⟩
    · cases h)
noncomputable def e_qBytes {R : Type} (s : Int → Int → List V → Option (List UInt8)) (ds : List D) (K : List D → Option R) : Option R :=
  match ds with
  | [.agg [.v (.int .i64 x0) .no, .v (.int .i64 x1) .no, .v (.sl 46 x2) .no]] => bnd1 (s x0 x1 x2) fun r0 => K [.v (.bytes r0) .no]
  | _ => none
noncomputable def r_qBytes (rs : List D) (_ : Mem) : Option (List UInt8) :=
  match rs with
  | [.v (.bytes r0) _] => some (r0)
  | _ => none
noncomputable def F_qBytes_5 {R : Type} (N : Nat) (f : Int → Int → List V → Option (List UInt8)) (n2 : Int) (n3 : Int) (vs4 : List V) (Lq : List UInt8 → Int → Option R) (K0 : List UInt8 → Option R) (l0 : List UInt8) (n1 : Int) : Option R := br (decide (n1 < (↑vs4.length : Int))) (br (decide (0 ≤ n1) && decide (n1 < (↑vs4.length : Int))) (at? vs4 n1.toNat fun x0 => x0.unAgg fun l1 => unCons l1 fun x2 l3 => V.unInt IntKind.i64 x2 fun n4 => unCons l3 fun x5 l6 => V.unInt IntKind.i64 x5 fun n7 => unCons l6 fun x8 l9 => V.unSl 46 x8 fun l10 => unNil l9 (bnd1 (f n4 n7 l10) fun l11 => br (decide ((l0.length + l11.length) * 1 ≤ 140737488355328)) (Lq (l0 ++ l11) (IntKind.i64.wrap (n1 + 1))) none)) none) (K0 l0)
noncomputable def S_qBytes_5 {R : Type} (N : Nat) (f : Int → Int → List V → Option (List UInt8)) (n2 : Int) (n3 : Int) (vs4 : List V) : Nat → List UInt8 → Int → (List UInt8 → Option R) → Option R | 0, _, _, _ => none | t + 1, l0, n1, K0 => F_qBytes_5 N f n2 n3 vs4 (fun l0 n1 => S_qBytes_5 N f n2 n3 vs4 t l0 n1 K0) K0 l0 n1
noncomputable def l_qBytes_5 {R : Type} (N : Nat) (f : Int → Int → List V → Option (List UInt8)) (ds : List D) (m : Mem) (K : Ex → List D → Mem → Option R) : Option R :=
  match ds, m with
  | [(.ptr 0 1 0), (.v (.bytes l0) (.own (.slot 3) 5)), (.v (.int .i64 n1) .no)], [[(1, ⟨46, [(.v (.int .i64 n2) .no), (.v (.int .i64 n3) .no), (.v (.sl 46 vs4) .no)]⟩)]] => S_qBytes_5 N f n2 n3 vs4 N l0 n1 (fun a0 => K (.exit 0) [(.ptr 0 1 0), (.v (.bytes a0) (.own (.slot 3) 5))] [[(1, ⟨46, [(.v (.int .i64 n2) .no), (.v (.int .i64 n3) .no), (.v (.sl 46 vs4) .no)]⟩)]])
  | _, _ => none
noncomputable def B_qBytes (N : Nat) (f : Int → Int → List V → Option (List UInt8)) (x0 : Int) (x1 : Int) (x2 : List V) : Option (List UInt8) := br (decide (6 ≤ x0)) (S_qBytes_5 N f x0 x1 x2 N [UInt8.ofNat (IntKind.u8.wrap x0).toNat, UInt8.ofNat (IntKind.u8.wrap (↑x2.length : Int)).toNat] 0 fun l0 => some l0) (br (decide (2 ≤ x0)) (some [UInt8.ofNat (IntKind.u8.wrap x0).toNat, UInt8.ofNat (IntKind.u8.wrap x1).toNat]) (some [UInt8.ofNat (IntKind.u8.wrap x0).toNat]))
noncomputable def s_qBytes (N : Nat) : Nat → Int → Int → List V → Option (List UInt8) | 0, _, _, _ => none | n + 1, x0, x1, x2 => B_qBytes N (s_qBytes N n) x0 x1 x2
noncomputable def cx_qBytes (N : Nat) (f : Int → Int → List V → Option (List UInt8)) : Cx := { T := T, isPure := tabP [⟨98, e_qBytes f⟩], pureK := fun g ds K => tabK [⟨98, e_qBytes f⟩] g ds K, memK := fun g dst ds m K => tabMK [] g dst ds m K, meth := tabM [], keep := fun r => match r with | 5 => [1, 3, 4] | _ => [], keepX := fun r => match r with | 5 => [1, 3] | _ => [], loopT := fun r ds m K => match r with | 5 => l_qBytes_5 N f ds m K | _ => none, jumps := 9 }
theorem F_qBytes_5_ok {R : Type} (N : Nat) (f : Int → Int → List V → Option (List UInt8)) (n2 : Int) (n3 : Int) (vs4 : List V) (l0 : List UInt8) (n1 : Int) (L : List D → Mem → Option R) (K : Ex → List D → Mem → Option R) :
    roundK (fun st K => codeK (cx_qBytes N f) (loopN Try.f98 0) st K) 45 [1, 3, 4] [1, 3] L [(.ptr 0 1 0), (.v (.bytes l0) (.own (.slot 3) 5)), (.v (.int .i64 n1) .no)] [[(1, ⟨46, [(.v (.int .i64 n2) .no), (.v (.int .i64 n3) .no), (.v (.sl 46 vs4) .no)]⟩)]] K = F_qBytes_5 N f n2 n3 vs4 (fun l0 n1 => L [(.ptr 0 1 0), (.v (.bytes l0) (.own (.slot 3) 5)), (.v (.int .i64 n1) .no)] [[(1, ⟨46, [(.v (.int .i64 n2) .no), (.v (.int .i64 n3) .no), (.v (.sl 46 vs4) .no)]⟩)]]) (fun a0 => K (.exit 0) [(.ptr 0 1 0), (.v (.bytes a0) (.own (.slot 3) 5))] [[(1, ⟨46, [(.v (.int .i64 n2) .no), (.v (.int .i64 n3) .no), (.v (.sl 46 vs4) .no)]⟩)]]) l0 n1 := by
  kernel_rfl
theorem S_qBytes_5_ok {R : Type} (N : Nat) (f : Int → Int → List V → Option (List UInt8)) (n2 : Int) (n3 : Int) (vs4 : List V) (K : Ex → List D → Mem → Option R) : ∀ (t : Nat) (l0 : List UInt8) (n1 : Int),
    loopK (fun st K => codeK (cx_qBytes N f) (loopN Try.f98 0) st K) 45 [1, 3, 4] [1, 3] t [(.ptr 0 1 0), (.v (.bytes l0) (.own (.slot 3) 5)), (.v (.int .i64 n1) .no)] [[(1, ⟨46, [(.v (.int .i64 n2) .no), (.v (.int .i64 n3) .no), (.v (.sl 46 vs4) .no)]⟩)]] K = S_qBytes_5 N f n2 n3 vs4 t l0 n1 (fun a0 => K (.exit 0) [(.ptr 0 1 0), (.v (.bytes a0) (.own (.slot 3) 5))] [[(1, ⟨46, [(.v (.int .i64 n2) .no), (.v (.int .i64 n3) .no), (.v (.sl 46 vs4) .no)]⟩)]])
  | 0, l0, n1 => rfl
  | t + 1, l0, n1 => (F_qBytes_5_ok N f n2 n3 vs4 l0 n1 _ K).trans (congrArg (fun L => F_qBytes_5 N f n2 n3 vs4 L (fun a0 => K (.exit 0) [(.ptr 0 1 0), (.v (.bytes a0) (.own (.slot 3) 5))] [[(1, ⟨46, [(.v (.int .i64 n2) .no), (.v (.int .i64 n3) .no), (.v (.sl 46 vs4) .no)]⟩)]]) l0 n1) (funext fun l0 => funext fun n1 => S_qBytes_5_ok N f n2 n3 vs4 K t l0 n1))
theorem B_qBytes_ok (N : Nat) (f : Int → Int → List V → Option (List UInt8)) (x0 : Int) (x1 : Int) (x2 : List V) : bodyK (cx_qBytes N f) Try.f98 [.agg [.v (.int .i64 x0) .no, .v (.int .i64 x1) .no, .v (.sl 46 x2) .no]] [] r_qBytes = B_qBytes N f x0 x1 x2 := by
  kernel_rfl
theorem go_qBytes : Goes Try.prog 98 := goes_of Try.func98 (by kernel_rfl) (c := bodyOf Try.f98) (by kernel_rfl)
theorem eo_qBytes (s : Int → Int → List V → Option (List UInt8)) (hs : ∀ (x0 : Int) (x1 : Int) (x2 : List V) (r0 : List UInt8), s x0 x1 x2 = some r0 → PureRet Try.prog T 98 [.agg [.v (.int .i64 x0) .no, .v (.int .i64 x1) .no, .v (.sl 46 x2) .no]] [.v (.bytes r0) .no]) : EntOK Try.prog T ⟨98, e_qBytes s⟩ := by
  refine ⟨go_qBytes, fun R ds K r h => ?_, fun R ds K => ?_⟩
  · simp only [e_qBytes] at h
    split at h
    · obtain ⟨r0, h1, h2⟩ := bnd1_some h
      exact ⟨_, h2, hs _ _ _ _ h1⟩
    · cases h
  · simp only [e_qBytes]
    split
    · rw [bnd1_b]; rfl
    · rfl
theorem co_qBytes (N : Nat) (f : Int → Int → List V → Option (List UInt8)) (hf : ∀ (x0 : Int) (x1 : Int) (x2 : List V) (r0 : List UInt8), f x0 x1 x2 = some r0 → PureRet Try.prog T 98 [.agg [.v (.int .i64 x0) .no, .v (.int .i64 x1) .no, .v (.sl 46 x2) .no]] [.v (.bytes r0) .no]) : CxOK Try.prog (cx_qBytes N f) :=
  cxOK_of2 (es := [⟨98, e_qBytes f⟩]) (me := []) (ms := []) T_ok ⟨eo_qBytes f hf, trivial⟩ trivial trivial rfl (fun _ _ _ _ => rfl) (fun _ _ _ _ _ _ => rfl) rfl
theorem lk_qBytes_5 (N : Nat) (f : Int → Int → List V → Option (List UInt8)) : LoopOK (cx_qBytes N f) 45 (loopN Try.f98 0) := by
  refine loopOK_of (rid := 5) (by kernel_rfl) rfl rfl fun R ds m K r h => ?_
  have h : l_qBytes_5 N f ds m K = some r := h
  unfold l_qBytes_5 at h
  split at h
  · exact ⟨N, Eq.trans (S_qBytes_5_ok ..) h⟩
  · cases h
theorem lo_qBytes (N : Nat) (f : Int → Int → List V → Option (List UInt8)) : LoopsOK (cx_qBytes N f) Try.f98.ntmps (bodyOf Try.f98) :=
  loopsOK_of (k := 1) (by kernel_rfl) ⟨trivial, lk_qBytes_5 N f⟩
theorem p_qBytes (N : Nat) : ∀ (M : Nat) (x0 : Int) (x1 : Int) (x2 : List V) (r0 : List UInt8), s_qBytes N M x0 x1 x2 = some r0 → PureRet Try.prog T 98 [.agg [.v (.int .i64 x0) .no, .v (.int .i64 x1) .no, .v (.sl 46 x2) .no]] [.v (.bytes r0) .no]
  | 0, _, _, _, _, h => by cases h
  | M + 1, x0, x1, x2, r0, h => pure_of (cx := cx_qBytes N (s_qBytes N M)) (by kernel_rfl) (co_qBytes N (s_qBytes N M) (p_qBytes N M)) Try.func98 (by kernel_rfl) (by kernel_rfl) (lo_qBytes N (s_qBytes N M)) rfl rfl rfl (rf := r_qBytes) ((B_qBytes_ok N (s_qBytes N M) x0 x1 x2).trans h) (fun rs' m h => by
    unfold r_qBytes at h
    split at h
    · cases h; exact ⟨rfl, rfl⟩
    · cases h)
noncomputable def e_qEncode {R : Type} (s : List V → Option (List UInt8 × Int)) (ds : List D) (K : List D → Option R) : Option R :=
  match ds with
  | [.v (.sl 48 x0) .no] => bnd2 (s x0) fun r0 r1 => K [.v (.bytes r0) .no, .v (.int .i64 r1) .no]
  | _ => none
noncomputable def r_qEncode (rs : List D) (_ : Mem) : Option (List UInt8 × Int) :=
  match rs with
  | [.v (.bytes r0) _, .v (.int .i64 r1) _] => some (r0, r1)
  | _ => none
noncomputable def F_qEncode_6 {R : Type} (N : Nat) (vs0 : List V) (Lq : List V → Int → Option R) (K0 : List V → Option R) (vs1 : List V) (n2 : Int) : Option R := br (decide (n2 < (↑vs0.length : Int))) (br (decide (0 ≤ n2) && decide (n2 < (↑vs0.length : Int))) (at? vs0 n2.toNat fun x0 => x0.unAgg fun l1 => unCons l1 fun x2 l3 => V.unInt IntKind.i64 x2 fun n4 => unCons l3 fun x5 l6 => V.unInt IntKind.i64 x5 fun n7 => unCons l6 fun x8 l9 => V.unInt IntKind.i64 x8 fun n10 => unCons l9 fun x11 l12 => V.unSl 46 x11 fun l13 => unNil l12 (br (decide (0 ≤ n2) && decide (n2 < (↑vs0.length : Int))) (at? vs0 n2.toNat fun x14 => x14.unAgg fun l15 => unCons l15 fun x16 l17 => V.unInt IntKind.i64 x16 fun n18 => unCons l17 fun x19 l20 => V.unInt IntKind.i64 x19 fun n21 => unCons l20 fun x22 l23 => V.unInt IntKind.i64 x22 fun n24 => unCons l23 fun x25 l26 => V.unSl 46 x25 fun l27 => unNil l26 (bnd1 (s_qBytes N N n21 n24 l27) fun l28 => br (decide (([UInt8.ofNat (IntKind.u8.wrap n4).toNat].length + l28.length) * 1 ≤ 140737488355328)) (br (decide ((vs1.length + [V.agg [V.int IntKind.i64 128, V.bytes (UInt8.ofNat (IntKind.u8.wrap n4).toNat :: [].append l28), V.sl 62 []]].length) * 56 ≤ 140737488355328)) (Lq (vs1 ++ [V.agg [V.int IntKind.i64 128, V.bytes (UInt8.ofNat (IntKind.u8.wrap n4).toNat :: [].append l28), V.sl 62 []]]) (IntKind.i64.wrap (n2 + 1))) none) none)) none)) none) (K0 vs1)
noncomputable def S_qEncode_6 {R : Type} (N : Nat) (vs0 : List V) : Nat → List V → Int → (List V → Option R) → Option R | 0, _, _, _ => none | t + 1, vs1, n2, K0 => F_qEncode_6 N vs0 (fun vs1 n2 => S_qEncode_6 N vs0 t vs1 n2 K0) K0 vs1 n2
noncomputable def l_qEncode_6 {R : Type} (N : Nat) (ds : List D) (m : Mem) (K : Ex → List D → Mem → Option R) : Option R :=
  match ds, m with
  | [(.v (.sl 48 vs0) .no), (.v (.sl 62 vs1) (.own (.slot 5) 62)), (.v (.int .i64 n2) .no)], [[]] => S_qEncode_6 N vs0 N vs1 n2 (fun a0 => K (.exit 0) [(.v (.sl 62 a0) (.own (.slot 5) 62))] [[]])
  | _, _ => none
noncomputable def s_qEncode (N : Nat) (x0 : List V) : Option (List UInt8 × Int) := bnd1 (s_qCheckRules N x0) fun n0 => br (!decide (n0 = 0)) (some ([], n0)) (S_qEncode_6 N x0 N [] 0 fun l1 => bnd2 (s_rEncode N l1) fun l2 n3 => some (l2, n3))
noncomputable def cx_qEncode (N : Nat) : Cx := { T := T, isPure := tabP [⟨32, e_qCheckRules (s_qCheckRules N)⟩, ⟨98, e_qBytes (s_qBytes N N)⟩, ⟨42, e_rEncode (s_rEncode N)⟩], pureK := fun g ds K => tabK [⟨32, e_qCheckRules (s_qCheckRules N)⟩, ⟨98, e_qBytes (s_qBytes N N)⟩, ⟨42, e_rEncode (s_rEncode N)⟩] g ds K, memK := fun g dst ds m K => tabMK [] g dst ds m K, meth := tabM [], keep := fun r => match r with | 6 => [0, 5, 6] | _ => [], keepX := fun r => match r with | 6 => [5] | _ => [], loopT := fun r ds m K => match r with | 6 => l_qEncode_6 N ds m K | _ => none, jumps := 9 }
theorem F_qEncode_6_ok {R : Type} (N : Nat) (vs0 : List V) (vs1 : List V) (n2 : Int) (L : List D → Mem → Option R) (K : Ex → List D → Mem → Option R) :
    roundK (fun st K => codeK (cx_qEncode N) (loopN Try.f69 0) st K) 40 [0, 5, 6] [5] L [(.v (.sl 48 vs0) .no), (.v (.sl 62 vs1) (.own (.slot 5) 62)), (.v (.int .i64 n2) .no)] [[]] K = F_qEncode_6 N vs0 (fun vs1 n2 => L [(.v (.sl 48 vs0) .no), (.v (.sl 62 vs1) (.own (.slot 5) 62)), (.v (.int .i64 n2) .no)] [[]]) (fun a0 => K (.exit 0) [(.v (.sl 62 a0) (.own (.slot 5) 62))] [[]]) vs1 n2 := by
  kernel_rfl
theorem S_qEncode_6_ok {R : Type} (N : Nat) (vs0 : List V) (K : Ex → List D → Mem → Option R) : ∀ (t : Nat) (vs1 : List V) (n2 : Int),
    loopK (fun st K => codeK (cx_qEncode N) (loopN Try.f69 0) st K) 40 [0, 5, 6] [5] t [(.v (.sl 48 vs0) .no), (.v (.sl 62 vs1) (.own (.slot 5) 62)), (.v (.int .i64 n2) .no)] [[]] K = S_qEncode_6 N vs0 t vs1 n2 (fun a0 => K (.exit 0) [(.v (.sl 62 a0) (.own (.slot 5) 62))] [[]])
  | 0, vs1, n2 => rfl
  | t + 1, vs1, n2 => (F_qEncode_6_ok N vs0 vs1 n2 _ K).trans (congrArg (fun L => F_qEncode_6 N vs0 L (fun a0 => K (.exit 0) [(.v (.sl 62 a0) (.own (.slot 5) 62))] [[]]) vs1 n2) (funext fun vs1 => funext fun n2 => S_qEncode_6_ok N vs0 K t vs1 n2))
theorem s_qEncode_ok (N : Nat) (x0 : List V) : bodyK (cx_qEncode N) Try.f69 [.v (.sl 48 x0) .no] [] r_qEncode = s_qEncode N x0 := by
  kernel_rfl
theorem go_qEncode : Goes Try.prog 69 := goes_of Try.func69 (by kernel_rfl) (c := bodyOf Try.f69) (by kernel_rfl)
theorem eo_qEncode (s : List V → Option (List UInt8 × Int)) (hs : ∀ (x0 : List V) (r0 : List UInt8) (r1 : Int), s x0 = some (r0, r1) → PureRet Try.prog T 69 [.v (.sl 48 x0) .no] [.v (.bytes r0) .no, .v (.int .i64 r1) .no]) : EntOK Try.prog T ⟨69, e_qEncode s⟩ := by
  refine ⟨go_qEncode, fun R ds K r h => ?_, fun R ds K => ?_⟩
  · simp only [e_qEncode] at h
    split at h
    · obtain ⟨r0, r1, h1, h2⟩ := bnd2_some h
      exact ⟨_, h2, hs _ _ _ h1⟩
    · cases h
  · simp only [e_qEncode]
    split
    · rw [bnd2_b]; rfl
    · rfl
theorem co_qEncode (N : Nat) : CxOK Try.prog (cx_qEncode N) :=
  cxOK_of2 (es := [⟨32, e_qCheckRules (s_qCheckRules N)⟩, ⟨98, e_qBytes (s_qBytes N N)⟩, ⟨42, e_rEncode (s_rEncode N)⟩]) (me := []) (ms := []) T_ok ⟨eo_qCheckRules _ (p_qCheckRules N), eo_qBytes _ (p_qBytes N N), eo_rEncode _ (p_rEncode N), trivial⟩ trivial trivial rfl (fun _ _ _ _ => rfl) (fun _ _ _ _ _ _ => rfl) rfl
theorem lk_qEncode_6 (N : Nat) : LoopOK (cx_qEncode N) 40 (loopN Try.f69 0) := by
  refine loopOK_of (rid := 6) (by kernel_rfl) rfl rfl fun R ds m K r h => ?_
  have h : l_qEncode_6 N ds m K = some r := h
  unfold l_qEncode_6 at h
  split at h
  · exact ⟨N, Eq.trans (S_qEncode_6_ok ..) h⟩
  · cases h
theorem lo_qEncode (N : Nat) : LoopsOK (cx_qEncode N) Try.f69.ntmps (bodyOf Try.f69) :=
  loopsOK_of (k := 1) (by kernel_rfl) ⟨trivial, lk_qEncode_6 N⟩
theorem p_qEncode (N : Nat) (x0 : List V) (r0 : List UInt8) (r1 : Int) (h : s_qEncode N x0 = some (r0, r1)) : PureRet Try.prog T 69 [.v (.sl 48 x0) .no] [.v (.bytes r0) .no, .v (.int .i64 r1) .no] :=
  pure_of (cx := cx_qEncode N) (by kernel_rfl) (co_qEncode N) Try.func69 (by kernel_rfl) (by kernel_rfl) (lo_qEncode N) rfl rfl rfl (rf := r_qEncode) ((s_qEncode_ok N x0).trans h) (fun rs' m h => by
    unfold r_qEncode at h
    split at h
    · cases h; exact ⟨rfl, rfl⟩
    · cases h)
noncomputable def e_qread {R : Type} (s : List UInt8 → Int → Option (Int × Int × List V × List UInt8 × Bool)) (ds : List D) (K : List D → Option R) : Option R :=
  match ds with
  | [.v (.bytes x0) .no, .v (.int .i64 x1) .no] => bnd5 (s x0 x1) fun r0 r1 r2 r3 r4 => K [.agg [.v (.int .i64 r0) .no, .v (.int .i64 r1) .no, .v (.sl 46 r2) .no], .v (.bytes r3) .no, .v (.bool r4) .no]
  | _ => none
noncomputable def r_qread (rs : List D) (_ : Mem) : Option (Int × Int × List V × List UInt8 × Bool) :=
  match rs with
  | [.agg [.v (.int .i64 r0) _, .v (.int .i64 r1) _, .v (.sl 46 r2) _], .v (.bytes r3) _, .v (.bool r4) _] => some (r0, r1, r2, r3, r4)
  | _ => none
noncomputable def F_qread_16 {R : Type} (N : Nat) (f : List UInt8 → Int → Option (Int × Int × List V × List UInt8 × Bool)) (n1 : Int) (n2 : Int) (n4 : Int) (n5 : Int) (vs6 : List V) (n7 : Int) (n8 : Int) (Lq : List UInt8 → Int → List V → Option R) (K0 : List UInt8 → List UInt8 → Bool → List V → List V → Option R) (K1 : List UInt8 → List V → Option R) (l0 : List UInt8) (n3 : Int) (vs9 : List V) : Option R := br (decide (n3 < n2)) (bnd5 (f l0 (IntKind.i64.wrap (n1 - 1))) fun n0 n1 l2 l3 b4 => br (!b4) (K0 l0 [] false vs9 vs9) (br (decide ((vs9.length + [V.agg [V.int IntKind.i64 n0, V.int IntKind.i64 n1, V.sl 46 l2]].length) * 40 ≤ 140737488355328)) (Lq l3 (IntKind.i64.wrap (n3 + 1)) (vs9 ++ [V.agg [V.int IntKind.i64 n0, V.int IntKind.i64 n1, V.sl 46 l2]])) none)) (K1 l0 vs9)
noncomputable def S_qread_16 {R : Type} (N : Nat) (f : List UInt8 → Int → Option (Int × Int × List V × List UInt8 × Bool)) (n1 : Int) (n2 : Int) (n4 : Int) (n5 : Int) (vs6 : List V) (n7 : Int) (n8 : Int) : Nat → List UInt8 → Int → List V → (List UInt8 → List UInt8 → Bool → List V → List V → Option R) → (List UInt8 → List V → Option R) → Option R | 0, _, _, _, _, _ => none | t + 1, l0, n3, vs9, K0, K1 => F_qread_16 N f n1 n2 n4 n5 vs6 n7 n8 (fun l0 n3 vs9 => S_qread_16 N f n1 n2 n4 n5 vs6 n7 n8 t l0 n3 vs9 K0 K1) K0 K1 l0 n3 vs9
noncomputable def l_qread_16 {R : Type} (N : Nat) (f : List UInt8 → Int → Option (Int × Int × List V × List UInt8 × Bool)) (ds : List D) (m : Mem) (K : Ex → List D → Mem → Option R) : Option R :=
  match ds, m with
  | [(.v (.bytes l0) .no), (.v (.int .i64 n1) .no), (.ptr 0 4 0), (.ptr 0 7 0), (.v (.int .i64 n2) .no), (.v (.int .i64 n3) .no)], [[(4, ⟨46, [(.v (.int .i64 n4) .no), (.v (.int .i64 n5) .no), (.v (.sl 46 vs6) (.own (.slot 0) 46))]⟩), (7, ⟨46, [(.v (.int .i64 n7) .no), (.v (.int .i64 n8) .no), (.v (.sl 46 vs9) (.own (.slot 0) 46))]⟩)]] => S_qread_16 N f n1 n2 n4 n5 vs6 n7 n8 N l0 n3 vs9 (fun a0 a1 a2 a5 a8 => K .ret [(.v (.bytes a0) .no), (.ptr 0 4 0), (.v (.bytes a1) (.own (.slot 5) 5)), (.v (.bool a2) .no), (.ptr 0 7 0)] [[(4, ⟨46, [(.v (.int .i64 n7) .no), (.v (.int .i64 n8) .no), (.v (.sl 46 a5) .no)]⟩), (7, ⟨46, [(.v (.int .i64 n7) .no), (.v (.int .i64 n8) .no), (.v (.sl 46 a8) (.own (.slot 0) 46))]⟩)]]) (fun a0 a6 => K (.exit 0) [(.v (.bytes a0) .no), (.ptr 0 4 0), .any, .any, (.ptr 0 7 0)] [[(4, ⟨46, [(.v (.int .i64 n4) .no), (.v (.int .i64 n5) .no), (.v (.sl 46 vs6) (.own (.slot 0) 46))]⟩), (7, ⟨46, [(.v (.int .i64 n7) .no), (.v (.int .i64 n8) .no), (.v (.sl 46 a6) (.own (.slot 0) 46))]⟩)]])
  | _, _ => none
noncomputable def B_qread (N : Nat) (f : List UInt8 → Int → Option (Int × Int × List V × List UInt8 × Bool)) (x0 : List UInt8) (x1 : Int) : Option (Int × Int × List V × List UInt8 × Bool) := br (decide ((↑x0.length : Int) = 0)) (some (0, 0, [], [], false)) (br (decide (x1 < 1)) (some (0, 0, [], [], false)) (br (decide (0 < (↑x0.length : Int))) (at? x0 0 fun u0 => br (decide (1 ≤ (↑x0.length : Int))) (br (decide (IntKind.i64.wrap (↑u0.toNat : Int) < 2)) (some (IntKind.i64.wrap (↑u0.toNat : Int), 0, [], List.drop 1 x0, true)) (br (decide ((↑(List.drop 1 x0).length : Int) = 0)) (some (IntKind.i64.wrap (↑u0.toNat : Int), 0, [], [], false)) (br (decide (0 < (↑(List.drop 1 x0).length : Int))) (at? (List.drop 1 x0) 0 fun u1 => br (decide (1 ≤ (↑(List.drop 1 x0).length : Int))) (br (decide (IntKind.i64.wrap (↑u0.toNat : Int) < 6)) (some (IntKind.i64.wrap (↑u0.toNat : Int), IntKind.i64.wrap (↑u1.toNat : Int), [], List.drop 1 (List.drop 1 x0), true)) (S_qread_16 N f x1 (IntKind.i64.wrap (↑u1.toNat : Int)) 0 0 [] (IntKind.i64.wrap (↑u0.toNat : Int)) 0 N (List.drop 1 (List.drop 1 x0)) 0 [] (fun l2 l3 b4 l5 l6 => some (IntKind.i64.wrap (↑u0.toNat : Int), 0, l5, l3, b4)) fun l7 l8 => some (IntKind.i64.wrap (↑u0.toNat : Int), 0, l8, l7, true))) none) none))) none) none))
noncomputable def s_qread (N : Nat) : Nat → List UInt8 → Int → Option (Int × Int × List V × List UInt8 × Bool) | 0, _, _ => none | n + 1, x0, x1 => B_qread N (s_qread N n) x0 x1
noncomputable def cx_qread (N : Nat) (f : List UInt8 → Int → Option (Int × Int × List V × List UInt8 × Bool)) : Cx := { T := T, isPure := tabP [⟨106, e_qread f⟩], pureK := fun g ds K => tabK [⟨106, e_qread f⟩] g ds K, memK := fun g dst ds m K => tabMK [] g dst ds m K, meth := tabM [], keep := fun r => match r with | 16 => [0, 1, 4, 7, 8, 9] | _ => [], keepX := fun r => match r with | 16 => [0, 4, 5, 6, 7] | _ => [], loopT := fun r ds m K => match r with | 16 => l_qread_16 N f ds m K | _ => none, jumps := 9 }
theorem F_qread_16_ok {R : Type} (N : Nat) (f : List UInt8 → Int → Option (Int × Int × List V × List UInt8 × Bool)) (n1 : Int) (n2 : Int) (n4 : Int) (n5 : Int) (vs6 : List V) (n7 : Int) (n8 : Int) (l0 : List UInt8) (n3 : Int) (vs9 : List V) (L : List D → Mem → Option R) (K : Ex → List D → Mem → Option R) :
    roundK (fun st K => codeK (cx_qread N f) (loopN Try.f106 0) st K) 75 [0, 1, 4, 7, 8, 9] [0, 4, 5, 6, 7] L [(.v (.bytes l0) .no), (.v (.int .i64 n1) .no), (.ptr 0 4 0), (.ptr 0 7 0), (.v (.int .i64 n2) .no), (.v (.int .i64 n3) .no)] [[(4, ⟨46, [(.v (.int .i64 n4) .no), (.v (.int .i64 n5) .no), (.v (.sl 46 vs6) (.own (.slot 0) 46))]⟩), (7, ⟨46, [(.v (.int .i64 n7) .no), (.v (.int .i64 n8) .no), (.v (.sl 46 vs9) (.own (.slot 0) 46))]⟩)]] K = F_qread_16 N f n1 n2 n4 n5 vs6 n7 n8 (fun l0 n3 vs9 => L [(.v (.bytes l0) .no), (.v (.int .i64 n1) .no), (.ptr 0 4 0), (.ptr 0 7 0), (.v (.int .i64 n2) .no), (.v (.int .i64 n3) .no)] [[(4, ⟨46, [(.v (.int .i64 n4) .no), (.v (.int .i64 n5) .no), (.v (.sl 46 vs6) (.own (.slot 0) 46))]⟩), (7, ⟨46, [(.v (.int .i64 n7) .no), (.v (.int .i64 n8) .no), (.v (.sl 46 vs9) (.own (.slot 0) 46))]⟩)]]) (fun a0 a1 a2 a5 a8 => K .ret [(.v (.bytes a0) .no), (.ptr 0 4 0), (.v (.bytes a1) (.own (.slot 5) 5)), (.v (.bool a2) .no), (.ptr 0 7 0)] [[(4, ⟨46, [(.v (.int .i64 n7) .no), (.v (.int .i64 n8) .no), (.v (.sl 46 a5) .no)]⟩), (7, ⟨46, [(.v (.int .i64 n7) .no), (.v (.int .i64 n8) .no), (.v (.sl 46 a8) (.own (.slot 0) 46))]⟩)]]) (fun a0 a6 => K (.exit 0) [(.v (.bytes a0) .no), (.ptr 0 4 0), .any, .any, (.ptr 0 7 0)] [[(4, ⟨46, [(.v (.int .i64 n4) .no), (.v (.int .i64 n5) .no), (.v (.sl 46 vs6) (.own (.slot 0) 46))]⟩), (7, ⟨46, [(.v (.int .i64 n7) .no), (.v (.int .i64 n8) .no), (.v (.sl 46 a6) (.own (.slot 0) 46))]⟩)]]) l0 n3 vs9 := by
  kernel_rfl
theorem S_qread_16_ok {R : Type} (N : Nat) (f : List UInt8 → Int → Option (Int × Int × List V × List UInt8 × Bool)) (n1 : Int) (n2 : Int) (n4 : Int) (n5 : Int) (vs6 : List V) (n7 : Int) (n8 : Int) (K : Ex → List D → Mem → Option R) : ∀ (t : Nat) (l0 : List UInt8) (n3 : Int) (vs9 : List V),
    loopK (fun st K => codeK (cx_qread N f) (loopN Try.f106 0) st K) 75 [0, 1, 4, 7, 8, 9] [0, 4, 5, 6, 7] t [(.v (.bytes l0) .no), (.v (.int .i64 n1) .no), (.ptr 0 4 0), (.ptr 0 7 0), (.v (.int .i64 n2) .no), (.v (.int .i64 n3) .no)] [[(4, ⟨46, [(.v (.int .i64 n4) .no), (.v (.int .i64 n5) .no), (.v (.sl 46 vs6) (.own (.slot 0) 46))]⟩), (7, ⟨46, [(.v (.int .i64 n7) .no), (.v (.int .i64 n8) .no), (.v (.sl 46 vs9) (.own (.slot 0) 46))]⟩)]] K = S_qread_16 N f n1 n2 n4 n5 vs6 n7 n8 t l0 n3 vs9 (fun a0 a1 a2 a5 a8 => K .ret [(.v (.bytes a0) .no), (.ptr 0 4 0), (.v (.bytes a1) (.own (.slot 5) 5)), (.v (.bool a2) .no), (.ptr 0 7 0)] [[(4, ⟨46, [(.v (.int .i64 n7) .no), (.v (.int .i64 n8) .no), (.v (.sl 46 a5) .no)]⟩), (7, ⟨46, [(.v (.int .i64 n7) .no), (.v (.int .i64 n8) .no), (.v (.sl 46 a8) (.own (.slot 0) 46))]⟩)]]) (fun a0 a6 => K (.exit 0) [(.v (.bytes a0) .no), (.ptr 0 4 0), .any, .any, (.ptr 0 7 0)] [[(4, ⟨46, [(.v (.int .i64 n4) .no), (.v (.int .i64 n5) .no), (.v (.sl 46 vs6) (.own (.slot 0) 46))]⟩), (7, ⟨46, [(.v (.int .i64 n7) .no), (.v (.int .i64 n8) .no), (.v (.sl 46 a6) (.own (.slot 0) 46))]⟩)]])
  | 0, l0, n3, vs9 => rfl
  | t + 1, l0, n3, vs9 => (F_qread_16_ok N f n1 n2 n4 n5 vs6 n7 n8 l0 n3 vs9 _ K).trans (congrArg (fun L => F_qread_16 N f n1 n2 n4 n5 vs6 n7 n8 L (fun a0 a1 a2 a5 a8 => K .ret [(.v (.bytes a0) .no), (.ptr 0 4 0), (.v (.bytes a1) (.own (.slot 5) 5)), (.v (.bool a2) .no), (.ptr 0 7 0)] [[(4, ⟨46, [(.v (.int .i64 n7) .no), (.v (.int .i64 n8) .no), (.v (.sl 46 a5) .no)]⟩), (7, ⟨46, [(.v (.int .i64 n7) .no), (.v (.int .i64 n8) .no), (.v (.sl 46 a8) (.own (.slot 0) 46))]⟩)]]) (fun a0 a6 => K (.exit 0) [(.v (.bytes a0) .no), (.ptr 0 4 0), .any, .any, (.ptr 0 7 0)] [[(4, ⟨46, [(.v (.int .i64 n4) .no), (.v (.int .i64 n5) .no), (.v (.sl 46 vs6) (.own (.slot 0) 46))]⟩), (7, ⟨46, [(.v (.int .i64 n7) .no), (.v (.int .i64 n8) .no), (.v (.sl 46 a6) (.own (.slot 0) 46))]⟩)]]) l0 n3 vs9) (funext fun l0 => funext fun n3 => funext fun vs9 => S_qread_16_ok N f n1 n2 n4 n5 vs6 n7 n8 K t l0 n3 vs9))
theorem B_qread_ok (N : Nat) (f : List UInt8 → Int → Option (Int × Int × List V × List UInt8 × Bool)) (x0 : List UInt8) (x1 : Int) : bodyK (cx_qread N f) Try.f106 [.v (.bytes x0) .no, .v (.int .i64 x1) .no] [] r_qread = B_qread N f x0 x1 := by
  kernel_rfl
theorem go_qread : Goes Try.prog 106 := goes_of Try.func106 (by kernel_rfl) (c := bodyOf Try.f106) (by kernel_rfl)
theorem eo_qread (s : List UInt8 → Int → Option (Int × Int × List V × List UInt8 × Bool)) (hs : ∀ (x0 : List UInt8) (x1 : Int) (r0 : Int) (r1 : Int) (r2 : List V) (r3 : List UInt8) (r4 : Bool), s x0 x1 = some (r0, r1, r2, r3, r4) → PureRet Try.prog T 106 [.v (.bytes x0) .no, .v (.int .i64 x1) .no] [.agg [.v (.int .i64 r0) .no, .v (.int .i64 r1) .no, .v (.sl 46 r2) .no], .v (.bytes r3) .no, .v (.bool r4) .no]) : EntOK Try.prog T ⟨106, e_qread s⟩ := by
  refine ⟨go_qread, fun R ds K r h => ?_, fun R ds K => ?_⟩
  · simp only [e_qread] at h
    split at h
    · obtain ⟨r0, r1, r2, r3, r4, h1, h2⟩ := bnd5_some h
      exact ⟨_, h2, hs _ _ _ _ _ _ _ h1⟩
    · cases h
  · simp only [e_qread]
    split
    · rw [bnd5_b]; rfl
    · rfl
theorem co_qread (N : Nat) (f : List UInt8 → Int → Option (Int × Int × List V × List UInt8 × Bool)) (hf : ∀ (x0 : List UInt8) (x1 : Int) (r0 : Int) (r1 : Int) (r2 : List V) (r3 : List UInt8) (r4 : Bool), f x0 x1 = some (r0, r1, r2, r3, r4) → PureRet Try.prog T 106 [.v (.bytes x0) .no, .v (.int .i64 x1) .no] [.agg [.v (.int .i64 r0) .no, .v (.int .i64 r1) .no, .v (.sl 46 r2) .no], .v (.bytes r3) .no, .v (.bool r4) .no]) : CxOK Try.prog (cx_qread N f) :=
  cxOK_of2 (es := [⟨106, e_qread f⟩]) (me := []) (ms := []) T_ok ⟨eo_qread f hf, trivial⟩ trivial trivial rfl (fun _ _ _ _ => rfl) (fun _ _ _ _ _ _ => rfl) rfl
theorem lk_qread_16 (N : Nat) (f : List UInt8 → Int → Option (Int × Int × List V × List UInt8 × Bool)) : LoopOK (cx_qread N f) 75 (loopN Try.f106 0) := by
  refine loopOK_of (rid := 16) (by kernel_rfl) rfl rfl fun R ds m K r h => ?_
  have h : l_qread_16 N f ds m K = some r := h
  unfold l_qread_16 at h
  split at h
  · exact ⟨N, Eq.trans (S_qread_16_ok ..) h⟩
  · cases h
theorem lo_qread (N : Nat) (f : List UInt8 → Int → Option (Int × Int × List V × List UInt8 × Bool)) : LoopsOK (cx_qread N f) Try.f106.ntmps (bodyOf Try.f106) :=
  loopsOK_of (k := 1) (by kernel_rfl) ⟨trivial, lk_qread_16 N f⟩
theorem p_qread (N : Nat) : ∀ (M : Nat) (x0 : List UInt8) (x1 : Int) (r0 : Int) (r1 : Int) (r2 : List V) (r3 : List UInt8) (r4 : Bool), s_qread N M x0 x1 = some (r0, r1, r2, r3, r4) → PureRet Try.prog T 106 [.v (.bytes x0) .no, .v (.int .i64 x1) .no] [.agg [.v (.int .i64 r0) .no, .v (.int .i64 r1) .no, .v (.sl 46 r2) .no], .v (.bytes r3) .no, .v (.bool r4) .no]
  | 0, _, _, _, _, _, _, _, h => by cases h
  | M + 1, x0, x1, r0, r1, r2, r3, r4, h => pure_of (cx := cx_qread N (s_qread N M)) (by kernel_rfl) (co_qread N (s_qread N M) (p_qread N M)) Try.func106 (by kernel_rfl) (by kernel_rfl) (lo_qread N (s_qread N M)) rfl rfl rfl (rf := r_qread) ((B_qread_ok N (s_qread N M) x0 x1).trans h) (fun rs' m h => by
    unfold r_qread at h
    split at h
    · cases h; exact ⟨rfl, rfl⟩
    · cases h)
noncomputable def e_qDecode {R : Type} (s : List UInt8 → Option (List V × Int)) (ds : List D) (K : List D → Option R) : Option R :=
  match ds with
  | [.v (.bytes x0) .no] => bnd2 (s x0) fun r0 r1 => K [.v (.sl 48 r0) .no, .v (.int .i64 r1) .no]
  | _ => none
noncomputable def r_qDecode (rs : List D) (_ : Mem) : Option (List V × Int) :=
  match rs with
  | [.v (.sl 48 r0) _, .v (.int .i64 r1) _] => some (r0, r1)
  | _ => none
noncomputable def F_qDecode_6 {R : Type} (N : Nat) (l0 : List UInt8) (vs1 : List V) (Lq : List V → Int → Option R) (K0 : List V → Int → List V → Option R) (K1 : List V → Option R) (vs2 : List V) (n3 : Int) : Option R := br (decide (n3 < (↑vs1.length : Int))) (br (decide (0 ≤ n3) && decide (n3 < (↑vs1.length : Int))) (at? vs1 n3.toNat fun x0 => x0.unAgg fun l1 => unCons l1 fun x2 l3 => V.unInt IntKind.i64 x2 fun n4 => unCons l3 fun x5 l6 => x5.unBytes fun l7 => unCons l6 fun x8 l9 => V.unSl 62 x8 fun l10 => unNil l9 (br (!decide (n4 = 128)) (K0 [] 4 vs2) (br (decide (0 ≤ n3) && decide (n3 < (↑vs1.length : Int))) (at? vs1 n3.toNat fun x11 => x11.unAgg fun l12 => unCons l12 fun x13 l14 => V.unInt IntKind.i64 x13 fun n15 => unCons l14 fun x16 l17 => x16.unBytes fun l18 => unCons l17 fun x19 l20 => V.unSl 62 x19 fun l21 => unNil l20 (br (decide ((↑l18.length : Int) < 2)) (K0 [] 4 vs2) (br (decide (0 ≤ n3) && decide (n3 < (↑vs1.length : Int))) (at? vs1 n3.toNat fun x22 => x22.unAgg fun l23 => unCons l23 fun x24 l25 => V.unInt IntKind.i64 x24 fun n26 => unCons l25 fun x27 l28 => x27.unBytes fun l29 => unCons l28 fun x30 l31 => V.unSl 62 x30 fun l32 => unNil l31 (br (decide (1 ≤ (↑l29.length : Int))) (bnd5 (s_qread N N (List.drop 1 l29) 16) fun n33 n34 l35 l36 b37 => br (!b37) (K0 [] 4 vs2) (br (decide (0 < (↑l36.length : Int))) (K0 [] 4 vs2) (br (decide (0 ≤ n3) && decide (n3 < (↑vs1.length : Int))) (at? vs1 n3.toNat fun x38 => x38.unAgg fun l39 => unCons l39 fun x40 l41 => V.unInt IntKind.i64 x40 fun n42 => unCons l41 fun x43 l44 => x43.unBytes fun l45 => unCons l44 fun x46 l47 => V.unSl 62 x46 fun l48 => unNil l47 (br (decide (0 < (↑l45.length : Int))) (at? l45 0 fun u49 => br (decide ((vs2.length + [V.agg [V.int IntKind.i64 (IntKind.i64.wrap (↑u49.toNat : Int)), V.int IntKind.i64 n33, V.int IntKind.i64 n34, V.sl 46 l35]].length) * 48 ≤ 140737488355328)) (Lq (vs2 ++ [V.agg [V.int IntKind.i64 (IntKind.i64.wrap (↑u49.toNat : Int)), V.int IntKind.i64 n33, V.int IntKind.i64 n34, V.sl 46 l35]]) (IntKind.i64.wrap (n3 + 1))) none) none)) none))) none)) none))) none))) none) (K1 vs2)
noncomputable def S_qDecode_6 {R : Type} (N : Nat) (l0 : List UInt8) (vs1 : List V) : Nat → List V → Int → (List V → Int → List V → Option R) → (List V → Option R) → Option R | 0, _, _, _, _ => none | t + 1, vs2, n3, K0, K1 => F_qDecode_6 N l0 vs1 (fun vs2 n3 => S_qDecode_6 N l0 vs1 t vs2 n3 K0 K1) K0 K1 vs2 n3
noncomputable def l_qDecode_6 {R : Type} (N : Nat) (ds : List D) (m : Mem) (K : Ex → List D → Mem → Option R) : Option R :=
  match ds, m with
  | [(.v (.bytes l0) .no), (.v (.sl 62 vs1) .no), (.v (.sl 48 vs2) (.own (.slot 6) 48)), (.v (.int .i64 n3) .no)], [[]] => S_qDecode_6 N l0 vs1 N vs2 n3 (fun a1 a2 a3 => K .ret [(.v (.bytes l0) .no), (.v (.sl 48 a1) (.own (.slot 2) 48)), (.v (.int .i64 a2) .no), (.v (.sl 48 a3) (.own (.slot 6) 48))] [[]]) (fun a1 => K (.exit 0) [(.v (.bytes l0) .no), .any, .any, (.v (.sl 48 a1) (.own (.slot 6) 48))] [[]])
  | _, _ => none
noncomputable def s_qDecode (N : Nat) (x0 : List UInt8) : Option (List V × Int) := bnd2 (s_rDecode N x0) fun l0 n1 => br (!decide (n1 = 0)) (some ([], n1)) (S_qDecode_6 N x0 l0 N [] 0 (fun l2 n3 l4 => some (l2, n3)) fun l5 => bnd2 (s_qEncode N l5) fun l6 n7 => br (!decide (n7 = 0)) (some ([], 4)) (br (decide (l6.length ≤ 9223372036854775807)) (br (decide (x0.length ≤ 9223372036854775807)) (br (!decide (l6 = x0)) (some ([], 4)) (some (l5, 0))) none) none))
noncomputable def cx_qDecode (N : Nat) : Cx := { T := T, isPure := tabP [⟨52, e_rDecode (s_rDecode N)⟩, ⟨106, e_qread (s_qread N N)⟩, ⟨69, e_qEncode (s_qEncode N)⟩], pureK := fun g ds K => tabK [⟨52, e_rDecode (s_rDecode N)⟩, ⟨106, e_qread (s_qread N N)⟩, ⟨69, e_qEncode (s_qEncode N)⟩] g ds K, memK := fun g dst ds m K => tabMK [] g dst ds m K, meth := tabM [], keep := fun r => match r with | 6 => [0, 4, 6, 7] | _ => [], keepX := fun r => match r with | 6 => [0, 2, 3, 6] | _ => [], loopT := fun r ds m K => match r with | 6 => l_qDecode_6 N ds m K | _ => none, jumps := 9 }
theorem F_qDecode_6_ok {R : Type} (N : Nat) (l0 : List UInt8) (vs1 : List V) (vs2 : List V) (n3 : Int) (L : List D → Mem → Option R) (K : Ex → List D → Mem → Option R) :
    roundK (fun st K => codeK (cx_qDecode N) (loopN Try.f80 0) st K) 87 [0, 4, 6, 7] [0, 2, 3, 6] L [(.v (.bytes l0) .no), (.v (.sl 62 vs1) .no), (.v (.sl 48 vs2) (.own (.slot 6) 48)), (.v (.int .i64 n3) .no)] [[]] K = F_qDecode_6 N l0 vs1 (fun vs2 n3 => L [(.v (.bytes l0) .no), (.v (.sl 62 vs1) .no), (.v (.sl 48 vs2) (.own (.slot 6) 48)), (.v (.int .i64 n3) .no)] [[]]) (fun a1 a2 a3 => K .ret [(.v (.bytes l0) .no), (.v (.sl 48 a1) (.own (.slot 2) 48)), (.v (.int .i64 a2) .no), (.v (.sl 48 a3) (.own (.slot 6) 48))] [[]]) (fun a1 => K (.exit 0) [(.v (.bytes l0) .no), .any, .any, (.v (.sl 48 a1) (.own (.slot 6) 48))] [[]]) vs2 n3 := by
  kernel_rfl
theorem S_qDecode_6_ok {R : Type} (N : Nat) (l0 : List UInt8) (vs1 : List V) (K : Ex → List D → Mem → Option R) : ∀ (t : Nat) (vs2 : List V) (n3 : Int),
    loopK (fun st K => codeK (cx_qDecode N) (loopN Try.f80 0) st K) 87 [0, 4, 6, 7] [0, 2, 3, 6] t [(.v (.bytes l0) .no), (.v (.sl 62 vs1) .no), (.v (.sl 48 vs2) (.own (.slot 6) 48)), (.v (.int .i64 n3) .no)] [[]] K = S_qDecode_6 N l0 vs1 t vs2 n3 (fun a1 a2 a3 => K .ret [(.v (.bytes l0) .no), (.v (.sl 48 a1) (.own (.slot 2) 48)), (.v (.int .i64 a2) .no), (.v (.sl 48 a3) (.own (.slot 6) 48))] [[]]) (fun a1 => K (.exit 0) [(.v (.bytes l0) .no), .any, .any, (.v (.sl 48 a1) (.own (.slot 6) 48))] [[]])
  | 0, vs2, n3 => rfl
  | t + 1, vs2, n3 => (F_qDecode_6_ok N l0 vs1 vs2 n3 _ K).trans (congrArg (fun L => F_qDecode_6 N l0 vs1 L (fun a1 a2 a3 => K .ret [(.v (.bytes l0) .no), (.v (.sl 48 a1) (.own (.slot 2) 48)), (.v (.int .i64 a2) .no), (.v (.sl 48 a3) (.own (.slot 6) 48))] [[]]) (fun a1 => K (.exit 0) [(.v (.bytes l0) .no), .any, .any, (.v (.sl 48 a1) (.own (.slot 6) 48))] [[]]) vs2 n3) (funext fun vs2 => funext fun n3 => S_qDecode_6_ok N l0 vs1 K t vs2 n3))
theorem s_qDecode_ok (N : Nat) (x0 : List UInt8) : bodyK (cx_qDecode N) Try.f80 [.v (.bytes x0) .no] [] r_qDecode = s_qDecode N x0 := by
  kernel_rfl
theorem go_qDecode : Goes Try.prog 80 := goes_of Try.func80 (by kernel_rfl) (c := bodyOf Try.f80) (by kernel_rfl)
theorem eo_qDecode (s : List UInt8 → Option (List V × Int)) (hs : ∀ (x0 : List UInt8) (r0 : List V) (r1 : Int), s x0 = some (r0, r1) → PureRet Try.prog T 80 [.v (.bytes x0) .no] [.v (.sl 48 r0) .no, .v (.int .i64 r1) .no]) : EntOK Try.prog T ⟨80, e_qDecode s⟩ := by
  refine ⟨go_qDecode, fun R ds K r h => ?_, fun R ds K => ?_⟩
  · simp only [e_qDecode] at h
    split at h
    · obtain ⟨r0, r1, h1, h2⟩ := bnd2_some h
      exact ⟨_, h2, hs _ _ _ h1⟩
    · cases h
  · simp only [e_qDecode]
    split
    · rw [bnd2_b]; rfl
    · rfl
theorem co_qDecode (N : Nat) : CxOK Try.prog (cx_qDecode N) :=
  cxOK_of2 (es := [⟨52, e_rDecode (s_rDecode N)⟩, ⟨106, e_qread (s_qread N N)⟩, ⟨69, e_qEncode (s_qEncode N)⟩]) (me := []) (ms := []) T_ok ⟨eo_rDecode _ (p_rDecode N), eo_qread _ (p_qread N N), eo_qEncode _ (p_qEncode N), trivial⟩ trivial trivial rfl (fun _ _ _ _ => rfl) (fun _ _ _ _ _ _ => rfl) rfl
theorem lk_qDecode_6 (N : Nat) : LoopOK (cx_qDecode N) 87 (loopN Try.f80 0) := by
  refine loopOK_of (rid := 6) (by kernel_rfl) rfl rfl fun R ds m K r h => ?_
  have h : l_qDecode_6 N ds m K = some r := h
  unfold l_qDecode_6 at h
  split at h
  · exact ⟨N, Eq.trans (S_qDecode_6_ok ..) h⟩
  · cases h
theorem lo_qDecode (N : Nat) : LoopsOK (cx_qDecode N) Try.f80.ntmps (bodyOf Try.f80) :=
  loopsOK_of (k := 1) (by kernel_rfl) ⟨trivial, lk_qDecode_6 N⟩
theorem p_qDecode (N : Nat) (x0 : List UInt8) (r0 : List V) (r1 : Int) (h : s_qDecode N x0 = some (r0, r1)) : PureRet Try.prog T 80 [.v (.bytes x0) .no] [.v (.sl 48 r0) .no, .v (.int .i64 r1) .no] :=
  pure_of (cx := cx_qDecode N) (by kernel_rfl) (co_qDecode N) Try.func80 (by kernel_rfl) (by kernel_rfl) (lo_qDecode N) rfl rfl rfl (rf := r_qDecode) ((s_qDecode_ok N x0).trans h) (fun rs' m h => by
    unfold r_qDecode at h
    split at h
    · cases h; exact ⟨rfl, rfl⟩
    · cases h)
noncomputable def e_qSameCond {R : Type} (s : Int → Int → List V → Int → Int → List V → Option (Bool)) (ds : List D) (K : List D → Option R) : Option R :=
  match ds with
  | [.agg [.v (.int .i64 x0) .no, .v (.int .i64 x1) .no, .v (.sl 46 x2) .no], .agg [.v (.int .i64 x3) .no, .v (.int .i64 x4) .no, .v (.sl 46 x5) .no]] => bnd1 (s x0 x1 x2 x3 x4 x5) fun r0 => K [.v (.bool r0) .no]
  | _ => none
noncomputable def r_qSameCond (rs : List D) (_ : Mem) : Option (Bool) :=
  match rs with
  | [.v (.bool r0) _] => some (r0)
  | _ => none
noncomputable def F_qSameCond_4 {R : Type} (N : Nat) (f : Int → Int → List V → Int → Int → List V → Option (Bool)) (n1 : Int) (n2 : Int) (vs3 : List V) (n4 : Int) (n5 : Int) (vs6 : List V) (Lq : Int → Option R) (K0 : Bool → Option R) (K1 : Option R) (n0 : Int) : Option R := br (decide (n0 < (↑vs3.length : Int))) (br (decide (0 ≤ n0) && decide (n0 < (↑vs3.length : Int))) (at? vs3 n0.toNat fun x0 => x0.unAgg fun l1 => unCons l1 fun x2 l3 => V.unInt IntKind.i64 x2 fun n4 => unCons l3 fun x5 l6 => V.unInt IntKind.i64 x5 fun n7 => unCons l6 fun x8 l9 => V.unSl 46 x8 fun l10 => unNil l9 (br (decide (0 ≤ n0) && decide (n0 < (↑vs6.length : Int))) (at? vs6 n0.toNat fun x11 => x11.unAgg fun l12 => unCons l12 fun x13 l14 => V.unInt IntKind.i64 x13 fun n15 => unCons l14 fun x16 l17 => V.unInt IntKind.i64 x16 fun n18 => unCons l17 fun x19 l20 => V.unSl 46 x19 fun l21 => unNil l20 (bnd1 (f n4 n7 l10 n15 n18 l21) fun b22 => br (!b22) (K0 false) (Lq (IntKind.i64.wrap (n0 + 1))))) none)) none) K1
noncomputable def S_qSameCond_4 {R : Type} (N : Nat) (f : Int → Int → List V → Int → Int → List V → Option (Bool)) (n1 : Int) (n2 : Int) (vs3 : List V) (n4 : Int) (n5 : Int) (vs6 : List V) : Nat → Int → (Bool → Option R) → (Option R) → Option R | 0, _, _, _ => none | t + 1, n0, K0, K1 => F_qSameCond_4 N f n1 n2 vs3 n4 n5 vs6 (fun n0 => S_qSameCond_4 N f n1 n2 vs3 n4 n5 vs6 t n0 K0 K1) K0 K1 n0
noncomputable def l_qSameCond_4 {R : Type} (N : Nat) (f : Int → Int → List V → Int → Int → List V → Option (Bool)) (ds : List D) (m : Mem) (K : Ex → List D → Mem → Option R) : Option R :=
  match ds, m with
  | [(.ptr 0 2 0), (.ptr 0 3 0), (.v (.int .i64 n0) .no)], [[(2, ⟨46, [(.v (.int .i64 n1) .no), (.v (.int .i64 n2) .no), (.v (.sl 46 vs3) .no)]⟩), (3, ⟨46, [(.v (.int .i64 n4) .no), (.v (.int .i64 n5) .no), (.v (.sl 46 vs6) .no)]⟩)]] => S_qSameCond_4 N f n1 n2 vs3 n4 n5 vs6 N n0 (fun a0 => K .ret [(.ptr 0 2 0), (.ptr 0 3 0), (.v (.bool a0) .no)] [[(2, ⟨46, [(.v (.int .i64 n1) .no), (.v (.int .i64 n2) .no), (.v (.sl 46 vs3) .no)]⟩), (3, ⟨46, [(.v (.int .i64 n4) .no), (.v (.int .i64 n5) .no), (.v (.sl 46 vs6) .no)]⟩)]]) (K (.exit 0) [(.ptr 0 2 0), (.ptr 0 3 0), .any] [[(2, ⟨46, [(.v (.int .i64 n1) .no), (.v (.int .i64 n2) .no), (.v (.sl 46 vs3) .no)]⟩), (3, ⟨46, [(.v (.int .i64 n4) .no), (.v (.int .i64 n5) .no), (.v (.sl 46 vs6) .no)]⟩)]])
  | _, _ => none
noncomputable def B_qSameCond (N : Nat) (f : Int → Int → List V → Int → Int → List V → Option (Bool)) (x0 : Int) (x1 : Int) (x2 : List V) (x3 : Int) (x4 : Int) (x5 : List V) : Option (Bool) := br (!decide (x0 = x3)) (some false) (br (!decide (x1 = x4)) (some false) (br (!decide ((↑x2.length : Int) = (↑x5.length : Int))) (some false) (S_qSameCond_4 N f x0 x1 x2 x3 x4 x5 N 0 (fun b0 => some b0) (some true))))
noncomputable def s_qSameCond (N : Nat) : Nat → Int → Int → List V → Int → Int → List V → Option (Bool) | 0, _, _, _, _, _, _ => none | n + 1, x0, x1, x2, x3, x4, x5 => B_qSameCond N (s_qSameCond N n) x0 x1 x2 x3 x4 x5
noncomputable def cx_qSameCond (N : Nat) (f : Int → Int → List V → Int → Int → List V → Option (Bool)) : Cx := { T := T, isPure := tabP [⟨45, e_qSameCond f⟩], pureK := fun g ds K => tabK [⟨45, e_qSameCond f⟩] g ds K, memK := fun g dst ds m K => tabMK [] g dst ds m K, meth := tabM [], keep := fun r => match r with | 4 => [2, 3, 5] | _ => [], keepX := fun r => match r with | 4 => [2, 3, 4] | _ => [], loopT := fun r ds m K => match r with | 4 => l_qSameCond_4 N f ds m K | _ => none, jumps := 9 }
theorem F_qSameCond_4_ok {R : Type} (N : Nat) (f : Int → Int → List V → Int → Int → List V → Option (Bool)) (n1 : Int) (n2 : Int) (vs3 : List V) (n4 : Int) (n5 : Int) (vs6 : List V) (n0 : Int) (L : List D → Mem → Option R) (K : Ex → List D → Mem → Option R) :
    roundK (fun st K => codeK (cx_qSameCond N f) (loopN Try.f45 0) st K) 46 [2, 3, 5] [2, 3, 4] L [(.ptr 0 2 0), (.ptr 0 3 0), (.v (.int .i64 n0) .no)] [[(2, ⟨46, [(.v (.int .i64 n1) .no), (.v (.int .i64 n2) .no), (.v (.sl 46 vs3) .no)]⟩), (3, ⟨46, [(.v (.int .i64 n4) .no), (.v (.int .i64 n5) .no), (.v (.sl 46 vs6) .no)]⟩)]] K = F_qSameCond_4 N f n1 n2 vs3 n4 n5 vs6 (fun n0 => L [(.ptr 0 2 0), (.ptr 0 3 0), (.v (.int .i64 n0) .no)] [[(2, ⟨46, [(.v (.int .i64 n1) .no), (.v (.int .i64 n2) .no), (.v (.sl 46 vs3) .no)]⟩), (3, ⟨46, [(.v (.int .i64 n4) .no), (.v (.int .i64 n5) .no), (.v (.sl 46 vs6) .no)]⟩)]]) (fun a0 => K .ret [(.ptr 0 2 0), (.ptr 0 3 0), (.v (.bool a0) .no)] [[(2, ⟨46, [(.v (.int .i64 n1) .no), (.v (.int .i64 n2) .no), (.v (.sl 46 vs3) .no)]⟩), (3, ⟨46, [(.v (.int .i64 n4) .no), (.v (.int .i64 n5) .no), (.v (.sl 46 vs6) .no)]⟩)]]) (K (.exit 0) [(.ptr 0 2 0), (.ptr 0 3 0), .any] [[(2, ⟨46, [(.v (.int .i64 n1) .no), (.v (.int .i64 n2) .no), (.v (.sl 46 vs3) .no)]⟩), (3, ⟨46, [(.v (.int .i64 n4) .no), (.v (.int .i64 n5) .no), (.v (.sl 46 vs6) .no)]⟩)]]) n0 := by
  kernel_rfl
theorem S_qSameCond_4_ok {R : Type} (N : Nat) (f : Int → Int → List V → Int → Int → List V → Option (Bool)) (n1 : Int) (n2 : Int) (vs3 : List V) (n4 : Int) (n5 : Int) (vs6 : List V) (K : Ex → List D → Mem → Option R) : ∀ (t : Nat) (n0 : Int),
    loopK (fun st K => codeK (cx_qSameCond N f) (loopN Try.f45 0) st K) 46 [2, 3, 5] [2, 3, 4] t [(.ptr 0 2 0), (.ptr 0 3 0), (.v (.int .i64 n0) .no)] [[(2, ⟨46, [(.v (.int .i64 n1) .no), (.v (.int .i64 n2) .no), (.v (.sl 46 vs3) .no)]⟩), (3, ⟨46, [(.v (.int .i64 n4) .no), (.v (.int .i64 n5) .no), (.v (.sl 46 vs6) .no)]⟩)]] K = S_qSameCond_4 N f n1 n2 vs3 n4 n5 vs6 t n0 (fun a0 => K .ret [(.ptr 0 2 0), (.ptr 0 3 0), (.v (.bool a0) .no)] [[(2, ⟨46, [(.v (.int .i64 n1) .no), (.v (.int .i64 n2) .no), (.v (.sl 46 vs3) .no)]⟩), (3, ⟨46, [(.v (.int .i64 n4) .no), (.v (.int .i64 n5) .no), (.v (.sl 46 vs6) .no)]⟩)]]) (K (.exit 0) [(.ptr 0 2 0), (.ptr 0 3 0), .any] [[(2, ⟨46, [(.v (.int .i64 n1) .no), (.v (.int .i64 n2) .no), (.v (.sl 46 vs3) .no)]⟩), (3, ⟨46, [(.v (.int .i64 n4) .no), (.v (.int .i64 n5) .no), (.v (.sl 46 vs6) .no)]⟩)]])
  | 0, n0 => rfl
  | t + 1, n0 => (F_qSameCond_4_ok N f n1 n2 vs3 n4 n5 vs6 n0 _ K).trans (congrArg (fun L => F_qSameCond_4 N f n1 n2 vs3 n4 n5 vs6 L (fun a0 => K .ret [(.ptr 0 2 0), (.ptr 0 3 0), (.v (.bool a0) .no)] [[(2, ⟨46, [(.v (.int .i64 n1) .no), (.v (.int .i64 n2) .no), (.v (.sl 46 vs3) .no)]⟩), (3, ⟨46, [(.v (.int .i64 n4) .no), (.v (.int .i64 n5) .no), (.v (.sl 46 vs6) .no)]⟩)]]) (K (.exit 0) [(.ptr 0 2 0), (.ptr 0 3 0), .any] [[(2, ⟨46, [(.v (.int .i64 n1) .no), (.v (.int .i64 n2) .no), (.v (.sl 46 vs3) .no)]⟩), (3, ⟨46, [(.v (.int .i64 n4) .no), (.v (.int .i64 n5) .no), (.v (.sl 46 vs6) .no)]⟩)]]) n0) (funext fun n0 => S_qSameCond_4_ok N f n1 n2 vs3 n4 n5 vs6 K t n0))
theorem B_qSameCond_ok (N : Nat) (f : Int → Int → List V → Int → Int → List V → Option (Bool)) (x0 : Int) (x1 : Int) (x2 : List V) (x3 : Int) (x4 : Int) (x5 : List V) : bodyK (cx_qSameCond N f) Try.f45 [.agg [.v (.int .i64 x0) .no, .v (.int .i64 x1) .no, .v (.sl 46 x2) .no], .agg [.v (.int .i64 x3) .no, .v (.int .i64 x4) .no, .v (.sl 46 x5) .no]] [] r_qSameCond = B_qSameCond N f x0 x1 x2 x3 x4 x5 := by
  kernel_rfl
theorem go_qSameCond : Goes Try.prog 45 := goes_of Try.func45 (by kernel_rfl) (c := bodyOf Try.f45) (by kernel_rfl)
theorem eo_qSameCond (s : Int → Int → List V → Int → Int → List V → Option (Bool)) (hs : ∀ (x0 : Int) (x1 : Int) (x2 : List V) (x3 : Int) (x4 : Int) (x5 : List V) (r0 : Bool), s x0 x1 x2 x3 x4 x5 = some r0 → PureRet Try.prog T 45 [.agg [.v (.int .i64 x0) .no, .v (.int .i64 x1) .no, .v (.sl 46 x2) .no], .agg [.v (.int .i64 x3) .no, .v (.int .i64 x4) .no, .v (.sl 46 x5) .no]] [.v (.bool r0) .no]) : EntOK Try.prog T ⟨45, e_qSameCond s⟩ := by
  refine ⟨go_qSameCond, fun R ds K r h => ?_, fun R ds K => ?_⟩
  · simp only [e_qSameCond] at h
    split at h
    · obtain ⟨r0, h1, h2⟩ := bnd1_some h
      exact ⟨_, h2, hs _ _ _ _ _ _ _ h1⟩
    · cases h
  · simp only [e_qSameCond]
    split
    · rw [bnd1_b]; rfl
    · rfl
theorem co_qSameCond (N : Nat) (f : Int → Int → List V → Int → Int → List V → Option (Bool)) (hf : ∀ (x0 : Int) (x1 : Int) (x2 : List V) (x3 : Int) (x4 : Int) (x5 : List V) (r0 : Bool), f x0 x1 x2 x3 x4 x5 = some r0 → PureRet Try.prog T 45 [.agg [.v (.int .i64 x0) .no, .v (.int .i64 x1) .no, .v (.sl 46 x2) .no], .agg [.v (.int .i64 x3) .no, .v (.int .i64 x4) .no, .v (.sl 46 x5) .no]] [.v (.bool r0) .no]) : CxOK Try.prog (cx_qSameCond N f) :=
  cxOK_of2 (es := [⟨45, e_qSameCond f⟩]) (me := []) (ms := []) T_ok ⟨eo_qSameCond f hf, trivial⟩ trivial trivial rfl (fun _ _ _ _ => rfl) (fun _ _ _ _ _ _ => rfl) rfl
theorem lk_qSameCond_4 (N : Nat) (f : Int → Int → List V → Int → Int → List V → Option (Bool)) : LoopOK (cx_qSameCond N f) 46 (loopN Try.f45 0) := by
  refine loopOK_of (rid := 4) (by kernel_rfl) rfl rfl fun R ds m K r h => ?_
  have h : l_qSameCond_4 N f ds m K = some r := h
  unfold l_qSameCond_4 at h
  split at h
  · exact ⟨N, Eq.trans (S_qSameCond_4_ok ..) h⟩
  · cases h
theorem lo_qSameCond (N : Nat) (f : Int → Int → List V → Int → Int → List V → Option (Bool)) : LoopsOK (cx_qSameCond N f) Try.f45.ntmps (bodyOf Try.f45) :=
  loopsOK_of (k := 1) (by kernel_rfl) ⟨trivial, lk_qSameCond_4 N f⟩
theorem p_qSameCond (N : Nat) : ∀ (M : Nat) (x0 : Int) (x1 : Int) (x2 : List V) (x3 : Int) (x4 : Int) (x5 : List V) (r0 : Bool), s_qSameCond N M x0 x1 x2 x3 x4 x5 = some r0 → PureRet Try.prog T 45 [.agg [.v (.int .i64 x0) .no, .v (.int .i64 x1) .no, .v (.sl 46 x2) .no], .agg [.v (.int .i64 x3) .no, .v (.int .i64 x4) .no, .v (.sl 46 x5) .no]] [.v (.bool r0) .no]
  | 0, _, _, _, _, _, _, _, h => by cases h
  | M + 1, x0, x1, x2, x3, x4, x5, r0, h => pure_of (cx := cx_qSameCond N (s_qSameCond N M)) (by kernel_rfl) (co_qSameCond N (s_qSameCond N M) (p_qSameCond N M)) Try.func45 (by kernel_rfl) (by kernel_rfl) (lo_qSameCond N (s_qSameCond N M)) rfl rfl rfl (rf := r_qSameCond) ((B_qSameCond_ok N (s_qSameCond N M) x0 x1 x2 x3 x4 x5).trans h) (fun rs' m h => by
    unfold r_qSameCond at h
    split at h
    · cases h; exact ⟨rfl, rfl⟩
    · cases h)
noncomputable def e_qSame {R : Type} (s : List V → List V → Option (Bool)) (ds : List D) (K : List D → Option R) : Option R :=
  match ds with
  | [.v (.sl 48 x0) .no, .v (.sl 48 x1) .no] => bnd1 (s x0 x1) fun r0 => K [.v (.bool r0) .no]
  | _ => none
noncomputable def r_qSame (rs : List D) (_ : Mem) : Option (Bool) :=
  match rs with
  | [.v (.bool r0) _] => some (r0)
  | _ => none
noncomputable def F_qSame_4 {R : Type} (N : Nat) (vs0 : List V) (vs1 : List V) (Lq : Int → Option R) (K0 : Bool → Option R) (K1 : Option R) (n2 : Int) : Option R := br (decide (n2 < (↑vs0.length : Int))) (br (decide (0 ≤ n2) && decide (n2 < (↑vs0.length : Int))) (at? vs0 n2.toNat fun x0 => x0.unAgg fun l1 => unCons l1 fun x2 l3 => V.unInt IntKind.i64 x2 fun n4 => unCons l3 fun x5 l6 => V.unInt IntKind.i64 x5 fun n7 => unCons l6 fun x8 l9 => V.unInt IntKind.i64 x8 fun n10 => unCons l9 fun x11 l12 => V.unSl 46 x11 fun l13 => unNil l12 (br (decide (0 ≤ n2) && decide (n2 < (↑vs1.length : Int))) (at? vs1 n2.toNat fun x14 => x14.unAgg fun l15 => unCons l15 fun x16 l17 => V.unInt IntKind.i64 x16 fun n18 => unCons l17 fun x19 l20 => V.unInt IntKind.i64 x19 fun n21 => unCons l20 fun x22 l23 => V.unInt IntKind.i64 x22 fun n24 => unCons l23 fun x25 l26 => V.unSl 46 x25 fun l27 => unNil l26 (br (!decide (n4 = n18)) (K0 false) (br (decide (0 ≤ n2) && decide (n2 < (↑vs0.length : Int))) (at? vs0 n2.toNat fun x28 => x28.unAgg fun l29 => unCons l29 fun x30 l31 => V.unInt IntKind.i64 x30 fun n32 => unCons l31 fun x33 l34 => V.unInt IntKind.i64 x33 fun n35 => unCons l34 fun x36 l37 => V.unInt IntKind.i64 x36 fun n38 => unCons l37 fun x39 l40 => V.unSl 46 x39 fun l41 => unNil l40 (br (decide (0 ≤ n2) && decide (n2 < (↑vs1.length : Int))) (at? vs1 n2.toNat fun x42 => x42.unAgg fun l43 => unCons l43 fun x44 l45 => V.unInt IntKind.i64 x44 fun n46 => unCons l45 fun x47 l48 => V.unInt IntKind.i64 x47 fun n49 => unCons l48 fun x50 l51 => V.unInt IntKind.i64 x50 fun n52 => unCons l51 fun x53 l54 => V.unSl 46 x53 fun l55 => unNil l54 (bnd1 (s_qSameCond N N n35 n38 l41 n49 n52 l55) fun b56 => br (!b56) (K0 false) (Lq (IntKind.i64.wrap (n2 + 1))))) none)) none))) none)) none) K1
noncomputable def S_qSame_4 {R : Type} (N : Nat) (vs0 : List V) (vs1 : List V) : Nat → Int → (Bool → Option R) → (Option R) → Option R | 0, _, _, _ => none | t + 1, n2, K0, K1 => F_qSame_4 N vs0 vs1 (fun n2 => S_qSame_4 N vs0 vs1 t n2 K0 K1) K0 K1 n2
noncomputable def l_qSame_4 {R : Type} (N : Nat) (ds : List D) (m : Mem) (K : Ex → List D → Mem → Option R) : Option R :=
  match ds, m with
  | [(.v (.sl 48 vs0) .no), (.v (.sl 48 vs1) .no), (.v (.int .i64 n2) .no)], [[]] => S_qSame_4 N vs0 vs1 N n2 (fun a0 => K .ret [(.v (.bool a0) .no)] [[]]) (K (.exit 0) [.any] [[]])
  | _, _ => none
noncomputable def s_qSame (N : Nat) (x0 : List V) (x1 : List V) : Option (Bool) := br (!decide ((↑x0.length : Int) = (↑x1.length : Int))) (some false) (S_qSame_4 N x0 x1 N 0 (fun b0 => some b0) (some true))
noncomputable def cx_qSame (N : Nat) : Cx := { T := T, isPure := tabP [⟨45, e_qSameCond (s_qSameCond N N)⟩], pureK := fun g ds K => tabK [⟨45, e_qSameCond (s_qSameCond N N)⟩] g ds K, memK := fun g dst ds m K => tabMK [] g dst ds m K, meth := tabM [], keep := fun r => match r with | 4 => [0, 1, 5] | _ => [], keepX := fun r => match r with | 4 => [4] | _ => [], loopT := fun r ds m K => match r with | 4 => l_qSame_4 N ds m K | _ => none, jumps := 9 }
theorem F_qSame_4_ok {R : Type} (N : Nat) (vs0 : List V) (vs1 : List V) (n2 : Int) (L : List D → Mem → Option R) (K : Ex → List D → Mem → Option R) :
    roundK (fun st K => codeK (cx_qSame N) (loopN Try.f21 0) st K) 42 [0, 1, 5] [4] L [(.v (.sl 48 vs0) .no), (.v (.sl 48 vs1) .no), (.v (.int .i64 n2) .no)] [[]] K = F_qSame_4 N vs0 vs1 (fun n2 => L [(.v (.sl 48 vs0) .no), (.v (.sl 48 vs1) .no), (.v (.int .i64 n2) .no)] [[]]) (fun a0 => K .ret [(.v (.bool a0) .no)] [[]]) (K (.exit 0) [.any] [[]]) n2 := by
  kernel_rfl
theorem S_qSame_4_ok {R : Type} (N : Nat) (vs0 : List V) (vs1 : List V) (K : Ex → List D → Mem → Option R) : ∀ (t : Nat) (n2 : Int),
    loopK (fun st K => codeK (cx_qSame N) (loopN Try.f21 0) st K) 42 [0, 1, 5] [4] t [(.v (.sl 48 vs0) .no), (.v (.sl 48 vs1) .no), (.v (.int .i64 n2) .no)] [[]] K = S_qSame_4 N vs0 vs1 t n2 (fun a0 => K .ret [(.v (.bool a0) .no)] [[]]) (K (.exit 0) [.any] [[]])
  | 0, n2 => rfl
  | t + 1, n2 => (F_qSame_4_ok N vs0 vs1 n2 _ K).trans (congrArg (fun L => F_qSame_4 N vs0 vs1 L (fun a0 => K .ret [(.v (.bool a0) .no)] [[]]) (K (.exit 0) [.any] [[]]) n2) (funext fun n2 => S_qSame_4_ok N vs0 vs1 K t n2))
theorem s_qSame_ok (N : Nat) (x0 : List V) (x1 : List V) : bodyK (cx_qSame N) Try.f21 [.v (.sl 48 x0) .no, .v (.sl 48 x1) .no] [] r_qSame = s_qSame N x0 x1 := by
  kernel_rfl
theorem go_qSame : Goes Try.prog 21 := goes_of Try.func21 (by kernel_rfl) (c := bodyOf Try.f21) (by kernel_rfl)
theorem eo_qSame (s : List V → List V → Option (Bool)) (hs : ∀ (x0 : List V) (x1 : List V) (r0 : Bool), s x0 x1 = some r0 → PureRet Try.prog T 21 [.v (.sl 48 x0) .no, .v (.sl 48 x1) .no] [.v (.bool r0) .no]) : EntOK Try.prog T ⟨21, e_qSame s⟩ := by
  refine ⟨go_qSame, fun R ds K r h => ?_, fun R ds K => ?_⟩
  · simp only [e_qSame] at h
    split at h
    · obtain ⟨r0, h1, h2⟩ := bnd1_some h
      exact ⟨_, h2, hs _ _ _ h1⟩
    · cases h
  · simp only [e_qSame]
    split
    · rw [bnd1_b]; rfl
    · rfl
theorem co_qSame (N : Nat) : CxOK Try.prog (cx_qSame N) :=
  cxOK_of2 (es := [⟨45, e_qSameCond (s_qSameCond N N)⟩]) (me := []) (ms := []) T_ok ⟨eo_qSameCond _ (p_qSameCond N N), trivial⟩ trivial trivial rfl (fun _ _ _ _ => rfl) (fun _ _ _ _ _ _ => rfl) rfl
theorem lk_qSame_4 (N : Nat) : LoopOK (cx_qSame N) 42 (loopN Try.f21 0) := by
  refine loopOK_of (rid := 4) (by kernel_rfl) rfl rfl fun R ds m K r h => ?_
  have h : l_qSame_4 N ds m K = some r := h
  unfold l_qSame_4 at h
  split at h
  · exact ⟨N, Eq.trans (S_qSame_4_ok ..) h⟩
  · cases h
theorem lo_qSame (N : Nat) : LoopsOK (cx_qSame N) Try.f21.ntmps (bodyOf Try.f21) :=
  loopsOK_of (k := 1) (by kernel_rfl) ⟨trivial, lk_qSame_4 N⟩
theorem p_qSame (N : Nat) (x0 : List V) (x1 : List V) (r0 : Bool) (h : s_qSame N x0 x1 = some r0) : PureRet Try.prog T 21 [.v (.sl 48 x0) .no, .v (.sl 48 x1) .no] [.v (.bool r0) .no] :=
  pure_of (cx := cx_qSame N) (by kernel_rfl) (co_qSame N) Try.func21 (by kernel_rfl) (by kernel_rfl) (lo_qSame N) rfl rfl rfl (rf := r_qSame) ((s_qSame_ok N x0 x1).trans h) (fun rs' m h => by
    unfold r_qSame at h
    split at h
    · cases h; exact ⟨rfl, rfl⟩
    · cases h)
noncomputable def e_Put {R : Type} (s : Int → Int → Option (List UInt8 × Int)) (ds : List D) (K : List D → Option R) : Option R :=
  match ds with
  | [.v (.int .i64 x0) .no, .v (.int .i64 x1) .no] => bnd2 (s x0 x1) fun r0 r1 => K [.v (.bytes r0) .no, .v (.int .i64 r1) .no]
  | _ => none
theorem go_Put : Goes Try.prog 86 := goes_of Try.func86 (by kernel_rfl) (c := bodyOf Try.f86) (by kernel_rfl)
theorem eo_Put (s : Int → Int → Option (List UInt8 × Int)) (hs : ∀ (x0 : Int) (x1 : Int) (r0 : List UInt8) (r1 : Int), s x0 x1 = some (r0, r1) → PureRet Try.prog T 86 [.v (.int .i64 x0) .no, .v (.int .i64 x1) .no] [.v (.bytes r0) .no, .v (.int .i64 r1) .no]) : EntOK Try.prog T ⟨86, e_Put s⟩ := by
  refine ⟨go_Put, fun R ds K r h => ?_, fun R ds K => ?_⟩
  · simp only [e_Put] at h
    split at h
    · obtain ⟨r0, r1, h1, h2⟩ := bnd2_some h
      exact ⟨_, h2, hs _ _ _ _ h1⟩
    · cases h
  · simp only [e_Put]
    split
    · rw [bnd2_b]; rfl
    · rfl
noncomputable def e_Get {R : Type} (s : List UInt8 → Option (Int × Int)) (ds : List D) (K : List D → Option R) : Option R :=
  match ds with
  | [.v (.bytes x0) .no] => bnd2 (s x0) fun r0 r1 => K [.v (.int .i64 r0) .no, .v (.int .i64 r1) .no]
  | _ => none
noncomputable def r_Get (rs : List D) (_ : Mem) : Option (Int × Int) :=
  match rs with
  | [.v (.int .i64 r0) _, .v (.int .i64 r1) _] => some (r0, r1)
  | _ => none
noncomputable def F_Get_5 {R : Type} (N : Nat) (l1 : List UInt8) (n2 : Int) (Lq : Int → Int → Option R) (K0 : Int → Option R) (n0 : Int) (n3 : Int) : Option R := br (decide (n3 < n2)) (br (decide (0 ≤ n3) && decide (n3 < (↑l1.length : Int))) (at? l1 n3.toNat fun u0 => Lq (bitsI BinOp.or IntKind.i64 (shlI IntKind.i64 n0 8) (IntKind.i64.wrap (↑u0.toNat : Int))) (IntKind.i64.wrap (n3 + 1))) none) (K0 n0)
noncomputable def S_Get_5 {R : Type} (N : Nat) (l1 : List UInt8) (n2 : Int) : Nat → Int → Int → (Int → Option R) → Option R | 0, _, _, _ => none | t + 1, n0, n3, K0 => F_Get_5 N l1 n2 (fun n0 n3 => S_Get_5 N l1 n2 t n0 n3 K0) K0 n0 n3
noncomputable def l_Get_5 {R : Type} (N : Nat) (ds : List D) (m : Mem) (K : Ex → List D → Mem → Option R) : Option R :=
  match ds, m with
  | [(.v (.int .i64 n0) .no), (.v (.bytes l1) .no), (.v (.int .i64 n2) .no), (.v (.int .i64 n3) .no)], [[]] => S_Get_5 N l1 n2 N n0 n3 (fun a0 => K (.exit 0) [(.v (.int .i64 a0) .no)] [[]])
  | _, _ => none
noncomputable def s_Get (N : Nat) (x0 : List UInt8) : Option (Int × Int) := br (decide (8 < (↑x0.length : Int))) (some (0, 3)) (S_Get_5 N x0 (↑x0.length : Int) N 0 0 fun n0 => br (decide (n0 < 0)) (some (0, 2)) (some (n0, 0)))
noncomputable def cx_Get (N : Nat) : Cx := { T := T, isPure := tabP [], pureK := fun g ds K => tabK [] g ds K, memK := fun g dst ds m K => tabMK [] g dst ds m K, meth := tabM [], keep := fun r => match r with | 5 => [4, 10, 11, 12] | _ => [], keepX := fun r => match r with | 5 => [4] | _ => [], loopT := fun r ds m K => match r with | 5 => l_Get_5 N ds m K | _ => none, jumps := 9 }
theorem F_Get_5_ok {R : Type} (N : Nat) (l1 : List UInt8) (n2 : Int) (n0 : Int) (n3 : Int) (L : List D → Mem → Option R) (K : Ex → List D → Mem → Option R) :
    roundK (fun st K => codeK (cx_Get N) (loopN Try.f76 0) st K) 25 [4, 10, 11, 12] [4] L [(.v (.int .i64 n0) .no), (.v (.bytes l1) .no), (.v (.int .i64 n2) .no), (.v (.int .i64 n3) .no)] [[]] K = F_Get_5 N l1 n2 (fun n0 n3 => L [(.v (.int .i64 n0) .no), (.v (.bytes l1) .no), (.v (.int .i64 n2) .no), (.v (.int .i64 n3) .no)] [[]]) (fun a0 => K (.exit 0) [(.v (.int .i64 a0) .no)] [[]]) n0 n3 := by
  kernel_rfl
theorem S_Get_5_ok {R : Type} (N : Nat) (l1 : List UInt8) (n2 : Int) (K : Ex → List D → Mem → Option R) : ∀ (t : Nat) (n0 : Int) (n3 : Int),
    loopK (fun st K => codeK (cx_Get N) (loopN Try.f76 0) st K) 25 [4, 10, 11, 12] [4] t [(.v (.int .i64 n0) .no), (.v (.bytes l1) .no), (.v (.int .i64 n2) .no), (.v (.int .i64 n3) .no)] [[]] K = S_Get_5 N l1 n2 t n0 n3 (fun a0 => K (.exit 0) [(.v (.int .i64 a0) .no)] [[]])
  | 0, n0, n3 => rfl
  | t + 1, n0, n3 => (F_Get_5_ok N l1 n2 n0 n3 _ K).trans (congrArg (fun L => F_Get_5 N l1 n2 L (fun a0 => K (.exit 0) [(.v (.int .i64 a0) .no)] [[]]) n0 n3) (funext fun n0 => funext fun n3 => S_Get_5_ok N l1 n2 K t n0 n3))
theorem s_Get_ok (N : Nat) (x0 : List UInt8) : bodyK (cx_Get N) Try.f76 [.v (.bytes x0) .no] [] r_Get = s_Get N x0 := by
  kernel_rfl
theorem go_Get : Goes Try.prog 76 := goes_of Try.func76 (by kernel_rfl) (c := bodyOf Try.f76) (by kernel_rfl)
theorem eo_Get (s : List UInt8 → Option (Int × Int)) (hs : ∀ (x0 : List UInt8) (r0 : Int) (r1 : Int), s x0 = some (r0, r1) → PureRet Try.prog T 76 [.v (.bytes x0) .no] [.v (.int .i64 r0) .no, .v (.int .i64 r1) .no]) : EntOK Try.prog T ⟨76, e_Get s⟩ := by
  refine ⟨go_Get, fun R ds K r h => ?_, fun R ds K => ?_⟩
  · simp only [e_Get] at h
    split at h
    · obtain ⟨r0, r1, h1, h2⟩ := bnd2_some h
      exact ⟨_, h2, hs _ _ _ h1⟩
    · cases h
  · simp only [e_Get]
    split
    · rw [bnd2_b]; rfl
    · rfl
theorem co_Get (N : Nat) : CxOK Try.prog (cx_Get N) :=
  cxOK_of2 (es := []) (me := []) (ms := []) T_ok trivial trivial trivial rfl (fun _ _ _ _ => rfl) (fun _ _ _ _ _ _ => rfl) rfl
theorem lk_Get_5 (N : Nat) : LoopOK (cx_Get N) 25 (loopN Try.f76 0) := by
  refine loopOK_of (rid := 5) (by kernel_rfl) rfl rfl fun R ds m K r h => ?_
  have h : l_Get_5 N ds m K = some r := h
  unfold l_Get_5 at h
  split at h
  · exact ⟨N, Eq.trans (S_Get_5_ok ..) h⟩
  · cases h
theorem lo_Get (N : Nat) : LoopsOK (cx_Get N) Try.f76.ntmps (bodyOf Try.f76) :=
  loopsOK_of (k := 1) (by kernel_rfl) ⟨trivial, lk_Get_5 N⟩
theorem p_Get (N : Nat) (x0 : List UInt8) (r0 : Int) (r1 : Int) (h : s_Get N x0 = some (r0, r1)) : PureRet Try.prog T 76 [.v (.bytes x0) .no] [.v (.int .i64 r0) .no, .v (.int .i64 r1) .no] :=
  pure_of (cx := cx_Get N) (by kernel_rfl) (co_Get N) Try.func76 (by kernel_rfl) (by kernel_rfl) (lo_Get N) rfl rfl rfl (rf := r_Get) ((s_Get_ok N x0).trans h) (fun rs' m h => by
    unfold r_Get at h
    split at h
    · cases h; exact ⟨rfl, rfl⟩
    · cases h)
noncomputable def e_oCompare {R : Type} (s : List UInt8 → List UInt8 → Option (Int)) (ds : List D) (K : List D → Option R) : Option R :=
  match ds with
  | [.v (.bytes x0) .no, .v (.bytes x1) .no] => bnd1 (s x0 x1) fun r0 => K [.v (.int .i64 r0) .no]
  | _ => none
noncomputable def r_oCompare (rs : List D) (_ : Mem) : Option (Int) :=
  match rs with
  | [.v (.int .i64 r0) _] => some (r0)
  | _ => none
noncomputable def F_oCompare_2 {R : Type} (N : Nat) (l0 : List UInt8) (l1 : List UInt8) (Lq : Int → Option R) (K0 : Int → Option R) (K1 : Option R) (n2 : Int) : Option R := br (decide (n2 < (↑l0.length : Int))) (br (decide (n2 < (↑l1.length : Int))) (br (decide (0 ≤ n2) && decide (n2 < (↑l0.length : Int))) (at? l0 n2.toNat fun u0 => br (decide (0 ≤ n2) && decide (n2 < (↑l1.length : Int))) (at? l1 n2.toNat fun u1 => br (decide ((↑u0.toNat : Int) < (↑u1.toNat : Int))) (K0 (-1)) (br (decide (0 ≤ n2) && decide (n2 < (↑l0.length : Int))) (at? l0 n2.toNat fun u2 => br (decide (0 ≤ n2) && decide (n2 < (↑l1.length : Int))) (at? l1 n2.toNat fun u3 => br (decide ((↑u3.toNat : Int) < (↑u2.toNat : Int))) (K0 1) (Lq (IntKind.i64.wrap (n2 + 1)))) none) none)) none) none) K1) K1
noncomputable def S_oCompare_2 {R : Type} (N : Nat) (l0 : List UInt8) (l1 : List UInt8) : Nat → Int → (Int → Option R) → (Option R) → Option R | 0, _, _, _ => none | t + 1, n2, K0, K1 => F_oCompare_2 N l0 l1 (fun n2 => S_oCompare_2 N l0 l1 t n2 K0 K1) K0 K1 n2
noncomputable def l_oCompare_2 {R : Type} (N : Nat) (ds : List D) (m : Mem) (K : Ex → List D → Mem → Option R) : Option R :=
  match ds, m with
  | [(.v (.bytes l0) .no), (.v (.bytes l1) .no), (.v (.int .i64 n2) .no)], [[]] => S_oCompare_2 N l0 l1 N n2 (fun a2 => K .ret [(.v (.bytes l0) .no), (.v (.bytes l1) .no), (.v (.int .i64 a2) .no)] [[]]) (K (.exit 0) [(.v (.bytes l0) .no), (.v (.bytes l1) .no), .any] [[]])
  | _, _ => none
noncomputable def s_oCompare (N : Nat) (x0 : List UInt8) (x1 : List UInt8) : Option (Int) := S_oCompare_2 N x0 x1 N 0 (fun n0 => some n0) (br (decide ((↑x0.length : Int) < (↑x1.length : Int))) (some (-1)) (br (decide ((↑x1.length : Int) < (↑x0.length : Int))) (some 1) (some 0)))
noncomputable def cx_oCompare (N : Nat) : Cx := { T := T, isPure := tabP [], pureK := fun g ds K => tabK [] g ds K, memK := fun g dst ds m K => tabMK [] g dst ds m K, meth := tabM [], keep := fun r => match r with | 2 => [0, 1, 5] | _ => [], keepX := fun r => match r with | 2 => [0, 1, 4] | _ => [], loopT := fun r ds m K => match r with | 2 => l_oCompare_2 N ds m K | _ => none, jumps := 9 }
theorem F_oCompare_2_ok {R : Type} (N : Nat) (l0 : List UInt8) (l1 : List UInt8) (n2 : Int) (L : List D → Mem → Option R) (K : Ex → List D → Mem → Option R) :
    roundK (fun st K => codeK (cx_oCompare N) (loopN Try.f44 0) st K) 46 [0, 1, 5] [0, 1, 4] L [(.v (.bytes l0) .no), (.v (.bytes l1) .no), (.v (.int .i64 n2) .no)] [[]] K = F_oCompare_2 N l0 l1 (fun n2 => L [(.v (.bytes l0) .no), (.v (.bytes l1) .no), (.v (.int .i64 n2) .no)] [[]]) (fun a2 => K .ret [(.v (.bytes l0) .no), (.v (.bytes l1) .no), (.v (.int .i64 a2) .no)] [[]]) (K (.exit 0) [(.v (.bytes l0) .no), (.v (.bytes l1) .no), .any] [[]]) n2 := by
  kernel_rfl
theorem S_oCompare_2_ok {R : Type} (N : Nat) (l0 : List UInt8) (l1 : List UInt8) (K : Ex → List D → Mem → Option R) : ∀ (t : Nat) (n2 : Int),
    loopK (fun st K => codeK (cx_oCompare N) (loopN Try.f44 0) st K) 46 [0, 1, 5] [0, 1, 4] t [(.v (.bytes l0) .no), (.v (.bytes l1) .no), (.v (.int .i64 n2) .no)] [[]] K = S_oCompare_2 N l0 l1 t n2 (fun a2 => K .ret [(.v (.bytes l0) .no), (.v (.bytes l1) .no), (.v (.int .i64 a2) .no)] [[]]) (K (.exit 0) [(.v (.bytes l0) .no), (.v (.bytes l1) .no), .any] [[]])
  | 0, n2 => rfl
  | t + 1, n2 => (F_oCompare_2_ok N l0 l1 n2 _ K).trans (congrArg (fun L => F_oCompare_2 N l0 l1 L (fun a2 => K .ret [(.v (.bytes l0) .no), (.v (.bytes l1) .no), (.v (.int .i64 a2) .no)] [[]]) (K (.exit 0) [(.v (.bytes l0) .no), (.v (.bytes l1) .no), .any] [[]]) n2) (funext fun n2 => S_oCompare_2_ok N l0 l1 K t n2))
theorem s_oCompare_ok (N : Nat) (x0 : List UInt8) (x1 : List UInt8) : bodyK (cx_oCompare N) Try.f44 [.v (.bytes x0) .no, .v (.bytes x1) .no] [] r_oCompare = s_oCompare N x0 x1 := by
  kernel_rfl
theorem go_oCompare : Goes Try.prog 44 := goes_of Try.func44 (by kernel_rfl) (c := bodyOf Try.f44) (by kernel_rfl)
theorem eo_oCompare (s : List UInt8 → List UInt8 → Option (Int)) (hs : ∀ (x0 : List UInt8) (x1 : List UInt8) (r0 : Int), s x0 x1 = some r0 → PureRet Try.prog T 44 [.v (.bytes x0) .no, .v (.bytes x1) .no] [.v (.int .i64 r0) .no]) : EntOK Try.prog T ⟨44, e_oCompare s⟩ := by
  refine ⟨go_oCompare, fun R ds K r h => ?_, fun R ds K => ?_⟩
  · simp only [e_oCompare] at h
    split at h
    · obtain ⟨r0, h1, h2⟩ := bnd1_some h
      exact ⟨_, h2, hs _ _ _ h1⟩
    · cases h
  · simp only [e_oCompare]
    split
    · rw [bnd1_b]; rfl
    · rfl
theorem co_oCompare (N : Nat) : CxOK Try.prog (cx_oCompare N) :=
  cxOK_of2 (es := []) (me := []) (ms := []) T_ok trivial trivial trivial rfl (fun _ _ _ _ => rfl) (fun _ _ _ _ _ _ => rfl) rfl
theorem lk_oCompare_2 (N : Nat) : LoopOK (cx_oCompare N) 46 (loopN Try.f44 0) := by
  refine loopOK_of (rid := 2) (by kernel_rfl) rfl rfl fun R ds m K r h => ?_
  have h : l_oCompare_2 N ds m K = some r := h
  unfold l_oCompare_2 at h
  split at h
  · exact ⟨N, Eq.trans (S_oCompare_2_ok ..) h⟩
  · cases h
theorem lo_oCompare (N : Nat) : LoopsOK (cx_oCompare N) Try.f44.ntmps (bodyOf Try.f44) :=
  loopsOK_of (k := 1) (by kernel_rfl) ⟨trivial, lk_oCompare_2 N⟩
theorem p_oCompare (N : Nat) (x0 : List UInt8) (x1 : List UInt8) (r0 : Int) (h : s_oCompare N x0 x1 = some r0) : PureRet Try.prog T 44 [.v (.bytes x0) .no, .v (.bytes x1) .no] [.v (.int .i64 r0) .no] :=
  pure_of (cx := cx_oCompare N) (by kernel_rfl) (co_oCompare N) Try.func44 (by kernel_rfl) (by kernel_rfl) (lo_oCompare N) rfl rfl rfl (rf := r_oCompare) ((s_oCompare_ok N x0 x1).trans h) (fun rs' m h => by
    unfold r_oCompare at h
    split at h
    · cases h; exact ⟨rfl, rfl⟩
    · cases h)
noncomputable def e_oSame {R : Type} (s : List UInt8 → List UInt8 → Option (Bool)) (ds : List D) (K : List D → Option R) : Option R :=
  match ds with
  | [.v (.bytes x0) .no, .v (.bytes x1) .no] => bnd1 (s x0 x1) fun r0 => K [.v (.bool r0) .no]
  | _ => none
noncomputable def r_oSame (rs : List D) (_ : Mem) : Option (Bool) :=
  match rs with
  | [.v (.bool r0) _] => some (r0)
  | _ => none
noncomputable def s_oSame (N : Nat) (x0 : List UInt8) (x1 : List UInt8) : Option (Bool) := bnd1 (s_oCompare N x0 x1) fun n0 => some (decide (n0 = 0))
noncomputable def cx_oSame (N : Nat) : Cx := { T := T, isPure := tabP [⟨44, e_oCompare (s_oCompare N)⟩], pureK := fun g ds K => tabK [⟨44, e_oCompare (s_oCompare N)⟩] g ds K, memK := fun g dst ds m K => tabMK [] g dst ds m K, meth := tabM [], keep := fun _ => [], keepX := fun _ => [], loopT := fun _ _ _ _ => none, jumps := 9 }
theorem s_oSame_ok (N : Nat) (x0 : List UInt8) (x1 : List UInt8) : bodyK (cx_oSame N) Try.f16 [.v (.bytes x0) .no, .v (.bytes x1) .no] [] r_oSame = s_oSame N x0 x1 := by
  kernel_rfl
theorem go_oSame : Goes Try.prog 16 := goes_of Try.func16 (by kernel_rfl) (c := bodyOf Try.f16) (by kernel_rfl)
theorem eo_oSame (s : List UInt8 → List UInt8 → Option (Bool)) (hs : ∀ (x0 : List UInt8) (x1 : List UInt8) (r0 : Bool), s x0 x1 = some r0 → PureRet Try.prog T 16 [.v (.bytes x0) .no, .v (.bytes x1) .no] [.v (.bool r0) .no]) : EntOK Try.prog T ⟨16, e_oSame s⟩ := by
  refine ⟨go_oSame, fun R ds K r h => ?_, fun R ds K => ?_⟩
  · simp only [e_oSame] at h
    split at h
    · obtain ⟨r0, h1, h2⟩ := bnd1_some h
      exact ⟨_, h2, hs _ _ _ h1⟩
    · cases h
  · simp only [e_oSame]
    split
    · rw [bnd1_b]; rfl
    · rfl
theorem co_oSame (N : Nat) : CxOK Try.prog (cx_oSame N) :=
  cxOK_of2 (es := [⟨44, e_oCompare (s_oCompare N)⟩]) (me := []) (ms := []) T_ok ⟨eo_oCompare _ (p_oCompare N), trivial⟩ trivial trivial rfl (fun _ _ _ _ => rfl) (fun _ _ _ _ _ _ => rfl) rfl
theorem lo_oSame (N : Nat) : LoopsOK (cx_oSame N) Try.f16.ntmps (bodyOf Try.f16) :=
  loopsOK_of (k := 0) (by kernel_rfl) trivial
theorem p_oSame (N : Nat) (x0 : List UInt8) (x1 : List UInt8) (r0 : Bool) (h : s_oSame N x0 x1 = some r0) : PureRet Try.prog T 16 [.v (.bytes x0) .no, .v (.bytes x1) .no] [.v (.bool r0) .no] :=
  pure_of (cx := cx_oSame N) (by kernel_rfl) (co_oSame N) Try.func16 (by kernel_rfl) (by kernel_rfl) (lo_oSame N) rfl rfl rfl (rf := r_oSame) ((s_oSame_ok N x0 x1).trans h) (fun rs' m h => by
    unfold r_oSame at h
    split at h
    · cases h; exact ⟨rfl, rfl⟩
    · cases h)
noncomputable def e_frecords {R : Type} (s : Int → Option (Bool)) (ds : List D) (K : List D → Option R) : Option R :=
  match ds with
  | [.v (.int .i64 x0) .no] => bnd1 (s x0) fun r0 => K [.v (.bool r0) .no]
  | _ => none
noncomputable def r_frecords (rs : List D) (_ : Mem) : Option (Bool) :=
  match rs with
  | [.v (.bool r0) _] => some (r0)
  | _ => none
noncomputable def s_frecords (N : Nat) (x0 : Int) : Option (Bool) := br (decide (3 ≤ x0)) (some (decide (x0 ≤ 5))) (some false)
noncomputable def cx_frecords (N : Nat) : Cx := { T := T, isPure := tabP [], pureK := fun g ds K => tabK [] g ds K, memK := fun g dst ds m K => tabMK [] g dst ds m K, meth := tabM [], keep := fun _ => [], keepX := fun _ => [], loopT := fun _ _ _ _ => none, jumps := 9 }
theorem s_frecords_ok (N : Nat) (x0 : Int) : bodyK (cx_frecords N) Try.f28 [.v (.int .i64 x0) .no] [] r_frecords = s_frecords N x0 := by
  kernel_rfl
theorem go_frecords : Goes Try.prog 28 := goes_of Try.func28 (by kernel_rfl) (c := bodyOf Try.f28) (by kernel_rfl)
theorem eo_frecords (s : Int → Option (Bool)) (hs : ∀ (x0 : Int) (r0 : Bool), s x0 = some r0 → PureRet Try.prog T 28 [.v (.int .i64 x0) .no] [.v (.bool r0) .no]) : EntOK Try.prog T ⟨28, e_frecords s⟩ := by
  refine ⟨go_frecords, fun R ds K r h => ?_, fun R ds K => ?_⟩
  · simp only [e_frecords] at h
    split at h
    · obtain ⟨r0, h1, h2⟩ := bnd1_some h
      exact ⟨_, h2, hs _ _ h1⟩
    · cases h
  · simp only [e_frecords]
    split
    · rw [bnd1_b]; rfl
    · rfl
theorem co_frecords (N : Nat) : CxOK Try.prog (cx_frecords N) :=
  cxOK_of2 (es := []) (me := []) (ms := []) T_ok trivial trivial trivial rfl (fun _ _ _ _ => rfl) (fun _ _ _ _ _ _ => rfl) rfl
theorem lo_frecords (N : Nat) : LoopsOK (cx_frecords N) Try.f28.ntmps (bodyOf Try.f28) :=
  loopsOK_of (k := 0) (by kernel_rfl) trivial
theorem p_frecords (N : Nat) (x0 : Int) (r0 : Bool) (h : s_frecords N x0 = some r0) : PureRet Try.prog T 28 [.v (.int .i64 x0) .no] [.v (.bool r0) .no] :=
  pure_of (cx := cx_frecords N) (by kernel_rfl) (co_frecords N) Try.func28 (by kernel_rfl) (by kernel_rfl) (lo_frecords N) rfl rfl rfl (rf := r_frecords) ((s_frecords_ok N x0).trans h) (fun rs' m h => by
    unfold r_frecords at h
    split at h
    · cases h; exact ⟨rfl, rfl⟩
    · cases h)
noncomputable def e_fnumber {R : Type} (s : Int → Bool → Int → Option (Int)) (ds : List D) (K : List D → Option R) : Option R :=
  match ds with
  | [.v (.int .i64 x0) .no, .v (.bool x1) .no, .v (.int .i64 x2) .no] => bnd1 (s x0 x1 x2) fun r0 => K [.v (.int .i64 r0) .no]
  | _ => none
noncomputable def r_fnumber (rs : List D) (_ : Mem) : Option (Int) :=
  match rs with
  | [.v (.int .i64 r0) _] => some (r0)
  | _ => none
noncomputable def s_fnumber (N : Nat) (x0 : Int) (x1 : Bool) (x2 : Int) : Option (Int) := br (!x1) (br (!decide (x0 = 0)) (some 4) (br x1 (br (decide (x0 < 1)) (some 2) (br (decide (x2 < x0)) (some 2) (some 0))) (some 0))) (br x1 (br (decide (x0 < 1)) (some 2) (br (decide (x2 < x0)) (some 2) (some 0))) (some 0))
noncomputable def cx_fnumber (N : Nat) : Cx := { T := T, isPure := tabP [], pureK := fun g ds K => tabK [] g ds K, memK := fun g dst ds m K => tabMK [] g dst ds m K, meth := tabM [], keep := fun _ => [], keepX := fun _ => [], loopT := fun _ _ _ _ => none, jumps := 9 }
theorem s_fnumber_ok (N : Nat) (x0 : Int) (x1 : Bool) (x2 : Int) : bodyK (cx_fnumber N) Try.f27 [.v (.int .i64 x0) .no, .v (.bool x1) .no, .v (.int .i64 x2) .no] [] r_fnumber = s_fnumber N x0 x1 x2 := by
  kernel_rfl
theorem go_fnumber : Goes Try.prog 27 := goes_of Try.func27 (by kernel_rfl) (c := bodyOf Try.f27) (by kernel_rfl)
theorem eo_fnumber (s : Int → Bool → Int → Option (Int)) (hs : ∀ (x0 : Int) (x1 : Bool) (x2 : Int) (r0 : Int), s x0 x1 x2 = some r0 → PureRet Try.prog T 27 [.v (.int .i64 x0) .no, .v (.bool x1) .no, .v (.int .i64 x2) .no] [.v (.int .i64 r0) .no]) : EntOK Try.prog T ⟨27, e_fnumber s⟩ := by
  refine ⟨go_fnumber, fun R ds K r h => ?_, fun R ds K => ?_⟩
  · simp only [e_fnumber] at h
    split at h
    · obtain ⟨r0, h1, h2⟩ := bnd1_some h
      exact ⟨_, h2, hs _ _ _ _ h1⟩
    · cases h
  · simp only [e_fnumber]
    split
    · rw [bnd1_b]; rfl
    · rfl
theorem co_fnumber (N : Nat) : CxOK Try.prog (cx_fnumber N) :=
  cxOK_of2 (es := []) (me := []) (ms := []) T_ok trivial trivial trivial rfl (fun _ _ _ _ => rfl) (fun _ _ _ _ _ _ => rfl) rfl
theorem lo_fnumber (N : Nat) : LoopsOK (cx_fnumber N) Try.f27.ntmps (bodyOf Try.f27) :=
  loopsOK_of (k := 0) (by kernel_rfl) trivial
theorem p_fnumber (N : Nat) (x0 : Int) (x1 : Bool) (x2 : Int) (r0 : Int) (h : s_fnumber N x0 x1 x2 = some r0) : PureRet Try.prog T 27 [.v (.int .i64 x0) .no, .v (.bool x1) .no, .v (.int .i64 x2) .no] [.v (.int .i64 r0) .no] :=
  pure_of (cx := cx_fnumber N) (by kernel_rfl) (co_fnumber N) Try.func27 (by kernel_rfl) (by kernel_rfl) (lo_fnumber N) rfl rfl rfl (rf := r_fnumber) ((s_fnumber_ok N x0 x1 x2).trans h) (fun rs' m h => by
    unfold r_fnumber at h
    split at h
    · cases h; exact ⟨rfl, rfl⟩
    · cases h)
noncomputable def e_fisState {R : Type} (s : Int → Option (Bool)) (ds : List D) (K : List D → Option R) : Option R :=
  match ds with
  | [.v (.int .i64 x0) .no] => bnd1 (s x0) fun r0 => K [.v (.bool r0) .no]
  | _ => none
noncomputable def r_fisState (rs : List D) (_ : Mem) : Option (Bool) :=
  match rs with
  | [.v (.bool r0) _] => some (r0)
  | _ => none
noncomputable def s_fisState (N : Nat) (x0 : Int) : Option (Bool) := br (decide (1 ≤ x0)) (some (decide (x0 ≤ 3))) (some false)
noncomputable def cx_fisState (N : Nat) : Cx := { T := T, isPure := tabP [], pureK := fun g ds K => tabK [] g ds K, memK := fun g dst ds m K => tabMK [] g dst ds m K, meth := tabM [], keep := fun _ => [], keepX := fun _ => [], loopT := fun _ _ _ _ => none, jumps := 9 }
theorem s_fisState_ok (N : Nat) (x0 : Int) : bodyK (cx_fisState N) Try.f29 [.v (.int .i64 x0) .no] [] r_fisState = s_fisState N x0 := by
  kernel_rfl
theorem go_fisState : Goes Try.prog 29 := goes_of Try.func29 (by kernel_rfl) (c := bodyOf Try.f29) (by kernel_rfl)
theorem eo_fisState (s : Int → Option (Bool)) (hs : ∀ (x0 : Int) (r0 : Bool), s x0 = some r0 → PureRet Try.prog T 29 [.v (.int .i64 x0) .no] [.v (.bool r0) .no]) : EntOK Try.prog T ⟨29, e_fisState s⟩ := by
  refine ⟨go_fisState, fun R ds K r h => ?_, fun R ds K => ?_⟩
  · simp only [e_fisState] at h
    split at h
    · obtain ⟨r0, h1, h2⟩ := bnd1_some h
      exact ⟨_, h2, hs _ _ h1⟩
    · cases h
  · simp only [e_fisState]
    split
    · rw [bnd1_b]; rfl
    · rfl
theorem co_fisState (N : Nat) : CxOK Try.prog (cx_fisState N) :=
  cxOK_of2 (es := []) (me := []) (ms := []) T_ok trivial trivial trivial rfl (fun _ _ _ _ => rfl) (fun _ _ _ _ _ _ => rfl) rfl
theorem lo_fisState (N : Nat) : LoopsOK (cx_fisState N) Try.f29.ntmps (bodyOf Try.f29) :=
  loopsOK_of (k := 0) (by kernel_rfl) trivial
theorem p_fisState (N : Nat) (x0 : Int) (r0 : Bool) (h : s_fisState N x0 = some r0) : PureRet Try.prog T 29 [.v (.int .i64 x0) .no] [.v (.bool r0) .no] :=
  pure_of (cx := cx_fisState N) (by kernel_rfl) (co_fisState N) Try.func29 (by kernel_rfl) (by kernel_rfl) (lo_fisState N) rfl rfl rfl (rf := r_fisState) ((s_fisState_ok N x0).trans h) (fun rs' m h => by
    unfold r_fisState at h
    split at h
    · cases h; exact ⟨rfl, rfl⟩
    · cases h)
end Go.Proofs.Ytllnklkjkjmjbaa.En
