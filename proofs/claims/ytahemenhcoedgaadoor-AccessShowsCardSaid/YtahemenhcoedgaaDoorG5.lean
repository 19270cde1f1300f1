/- Several texts in one. -/
import Derived.Test.YtahemenhcoedgaaDoorG4
import Derived.Test.YtahemenhcoedgaaDoorG2
import Derived.ProofKit
import Derived.OpenShut
import Derived.ChangeOld
import Derived.Below

set_option linter.unusedSimpArgs false
set_option linter.unusedVariables false
set_option linter.unusedSectionVars false
/- Functions of the program in plain Lean, joined to the program by evaluation; printed by a program. -/
namespace Go.Proofs.YtahemenhcoedgaaDoor.En
open Go Go.Proofs
set_option maxRecDepth 100000
set_option linter.unusedVariables false
noncomputable def e_qnumber {R : Type} (s : Int → Option (List UInt8)) (ds : List D) (K : List D → Option R) : Option R :=
  match ds with
  | [.v (.int .i64 x0) .no] => bnd1 (s x0) fun r0 => K [.v (.str r0) .no]
  | _ => none
noncomputable def r_qnumber (rs : List D) (_ : Mem) : Option (List UInt8) :=
  match rs with
  | [.v (.str r0) _] => some (r0)
  | _ => none
noncomputable def s_qnumber (N : Nat) (x0 : Int) : Option (List UInt8) :=
  br (decide (10 ≤ x0))
  (br (decide (0 ≤ IntKind.i64.wrap (IntKind.i64.wrap (x0.tdiv 10) + 1)) && decide (IntKind.i64.wrap (IntKind.i64.wrap (x0.tdiv 10) + 1) ≤ 10))
    (br (decide (0 ≤ IntKind.i64.wrap (x0.tdiv 10)) && decide (IntKind.i64.wrap (x0.tdiv 10) ≤ (↑(IntKind.i64.wrap (IntKind.i64.wrap (x0.tdiv 10) + 1)).toNat : Int)))
      (br (decide (0 ≤ IntKind.i64.wrap (x0.tmod 10 + 1)) && decide (IntKind.i64.wrap (x0.tmod 10 + 1) ≤ 10))
        (br (decide (0 ≤ x0.tmod 10) && decide (x0.tmod 10 ≤ (↑(IntKind.i64.wrap (x0.tmod 10 + 1)).toNat : Int)))
          (br
            (decide
              ((List.drop (IntKind.i64.wrap (x0.tdiv 10)).toNat (List.take (IntKind.i64.wrap (IntKind.i64.wrap (x0.tdiv 10) + 1)).toNat ([48, 49, 50, 51, 52, 53, 54, 55, 56, 57] : List UInt8))).length +
                  (List.drop (x0.tmod 10).toNat (List.take (IntKind.i64.wrap (x0.tmod 10 + 1)).toNat ([48, 49, 50, 51, 52, 53, 54, 55, 56, 57] : List UInt8))).length ≤
                9223372036854775807))
            (some
              (List.drop (IntKind.i64.wrap (x0.tdiv 10)).toNat (List.take (IntKind.i64.wrap (IntKind.i64.wrap (x0.tdiv 10) + 1)).toNat ([48, 49, 50, 51, 52, 53, 54, 55, 56, 57] : List UInt8)) ++
                List.drop (x0.tmod 10).toNat (List.take (IntKind.i64.wrap (x0.tmod 10 + 1)).toNat ([48, 49, 50, 51, 52, 53, 54, 55, 56, 57] : List UInt8))))
            none)
          none)
        none)
      none)
    none)
  (br (decide (0 ≤ IntKind.i64.wrap (x0 + 1)) && decide (IntKind.i64.wrap (x0 + 1) ≤ 10))
    (br (decide (0 ≤ x0) && decide (x0 ≤ (↑(IntKind.i64.wrap (x0 + 1)).toNat : Int))) (some (List.drop x0.toNat (List.take (IntKind.i64.wrap (x0 + 1)).toNat ([48, 49, 50, 51, 52, 53, 54, 55, 56, 57] : List UInt8)))) none) none)
noncomputable def cx_qnumber (N : Nat) : Cx := { T := T, isPure := tabP [], pureK := fun g ds K => tabK [] g ds K, memK := fun g dst ds m K => tabMK [] g dst ds m K, meth := tabM [], keep := fun _ => [], keepX := fun _ => [], loopT := fun _ _ _ _ => none, jumps := 9 }
theorem s_qnumber_ok (N : Nat) (x0 : Int) : bodyK (cx_qnumber N) Tryd.f84 [.v (.int .i64 x0) .no] [] r_qnumber = s_qnumber N x0 := by
  kernel_rfl
theorem go_qnumber : Goes Tryd.prog 84 := goes_of Tryd.func84 (by kernel_rfl) (c := bodyOf Tryd.f84) (by kernel_rfl)
theorem eo_qnumber (s : Int → Option (List UInt8)) (hs : ∀ (x0 : Int) (r0 : List UInt8), s x0 = some r0 → PureRet Tryd.prog T 84 [.v (.int .i64 x0) .no] [.v (.str r0) .no]) : EntOK Tryd.prog T ⟨84, e_qnumber s⟩ := by
  refine ⟨go_qnumber, fun R ds K r h => ?_, fun R ds K => ?_⟩
  · simp only [e_qnumber] at h
    split at h
    · obtain ⟨r0, h1, h2⟩ := bnd1_some h
      exact ⟨_, h2, hs _ _ h1⟩
    · cases h
  · simp only [e_qnumber]
    split
    · rw [bnd1_b]; rfl
    · rfl
theorem co_qnumber (N : Nat) : CxOK Tryd.prog (cx_qnumber N) :=
  cxOK_of2 (es := []) (me := []) (ms := []) T_ok trivial trivial trivial rfl (fun _ _ _ _ => rfl) (fun _ _ _ _ _ _ => rfl) rfl
theorem lo_qnumber (N : Nat) : LoopsOK (cx_qnumber N) Tryd.f84.ntmps (bodyOf Tryd.f84) :=
  loopsOK_of (k := 0) (by kernel_rfl) trivial
theorem p_qnumber (N : Nat) (x0 : Int) (r0 : List UInt8) (h : s_qnumber N x0 = some r0) : PureRet Tryd.prog T 84 [.v (.int .i64 x0) .no] [.v (.str r0) .no] :=
  pure_of (cx := cx_qnumber N) (by kernel_rfl) (co_qnumber N) Tryd.func84 (by kernel_rfl) (by kernel_rfl) (lo_qnumber N) rfl rfl rfl (rf := r_qnumber) ((s_qnumber_ok N x0).trans h) (fun rs' m h => by
    unfold r_qnumber at h
    split at h
    · cases h; exact ⟨rfl, rfl⟩
    · cases h)
noncomputable def e_qtext {R : Type} (s : Int → Int → List V → Option (List UInt8)) (ds : List D) (K : List D → Option R) : Option R :=
  match ds with
  | [.agg [.v (.int .i64 x0) .no, .v (.int .i64 x1) .no, .v (.sl 24 x2) .no]] => bnd1 (s x0 x1 x2) fun r0 => K [.v (.str r0) .no]
  | _ => none
noncomputable def r_qtext (rs : List D) (_ : Mem) : Option (List UInt8) :=
  match rs with
  | [.v (.str r0) _] => some (r0)
  | _ => none
noncomputable def F_qtext_18 {R : Type} (N : Nat) (f : Int → Int → List V → Option (List UInt8)) (n2 : Int) (n3 : Int) (vs4 : List V) (Lq : List UInt8 → Int → Option R) (K0 : List UInt8 → Option R) (l0 : List UInt8) (n1 : Int) : Option R :=
  br (decide (n1 < (↑vs4.length : Int)))
  (br (decide (0 < n1))
    (br (decide (l0.length + 2 ≤ 9223372036854775807))
      (br (decide (0 ≤ n1) && decide (n1 < (↑vs4.length : Int)))
        (at? vs4 n1.toNat fun x0 =>
          x0.unAgg fun l1 =>
            unCons l1 fun x2 l3 =>
              V.unInt IntKind.i64 x2 fun n4 =>
                unCons l3 fun x5 l6 =>
                  V.unInt IntKind.i64 x5 fun n7 =>
                    unCons l6 fun x8 l9 =>
                      V.unSl 24 x8 fun l10 => unNil l9 (bnd1 (f n4 n7 l10) fun l11 => br (decide ((l0 ++ ([44, 32] : List UInt8)).length + l11.length ≤ 9223372036854775807)) (Lq (l0 ++ ([44, 32] : List UInt8) ++ l11) (IntKind.i64.wrap (n1 + 1))) none))
        none)
      none)
    (br (decide (0 ≤ n1) && decide (n1 < (↑vs4.length : Int)))
      (at? vs4 n1.toNat fun x12 =>
        x12.unAgg fun l13 =>
          unCons l13 fun x14 l15 =>
            V.unInt IntKind.i64 x14 fun n16 =>
              unCons l15 fun x17 l18 =>
                V.unInt IntKind.i64 x17 fun n19 =>
                  unCons l18 fun x20 l21 => V.unSl 24 x20 fun l22 => unNil l21 (bnd1 (f n16 n19 l22) fun l23 => br (decide (l0.length + l23.length ≤ 9223372036854775807)) (Lq (l0 ++ l23) (IntKind.i64.wrap (n1 + 1))) none))
      none))
  (K0 l0)
noncomputable def S_qtext_18 {R : Type} (N : Nat) (f : Int → Int → List V → Option (List UInt8)) (n2 : Int) (n3 : Int) (vs4 : List V) : Nat → List UInt8 → Int → (List UInt8 → Option R) → Option R
  | 0, _, _, _ => none
  | t + 1, l0, n1, K0 => F_qtext_18 N f n2 n3 vs4 (fun l0 n1 => S_qtext_18 N f n2 n3 vs4 t l0 n1 K0) K0 l0 n1
noncomputable def l_qtext_18 {R : Type} (N : Nat) (f : Int → Int → List V → Option (List UInt8)) (ds : List D) (m : Mem) (K : Ex → List D → Mem → Option R) : Option R :=
  match ds, m with
  | [(.ptr 0 1 0), (.v (.str l0) .no), (.v (.int .i64 n1) .no)], [[(1, ⟨24, [(.v (.int .i64 n2) .no), (.v (.int .i64 n3) .no), (.v (.sl 24 vs4) .no)]⟩)]] => S_qtext_18 N f n2 n3 vs4 N l0 n1 (fun a0 => K (.exit 1) [(.ptr 0 1 0), (.v (.str a0) .no)] [[(1, ⟨24, [(.v (.int .i64 n2) .no), (.v (.int .i64 n3) .no), (.v (.sl 24 vs4) .no)]⟩)]])
  | _, _ => none
noncomputable def B_qtext (N : Nat) (f : Int → Int → List V → Option (List UInt8)) (x0 : Int) (x1 : Int) (x2 : List V) : Option (List UInt8) :=
  br (decide (x0 = 0)) (some ([110, 101, 118, 101, 114] : List UInt8))
  (br (decide (x0 = 1)) (some ([97, 108, 119, 97, 121, 115] : List UInt8))
    (br (decide (x0 = 2)) (bnd1 (s_qnumber N x1) fun l0 => br (decide (4 + l0.length ≤ 9223372036854775807)) (some (112 :: 105 :: 110 :: 32 :: [].append l0)) none)
      (br (decide (x0 = 3)) (bnd1 (s_qnumber N x1) fun l1 => br (decide (4 + l1.length ≤ 9223372036854775807)) (some (107 :: 101 :: 121 :: 32 :: [].append l1)) none)
        (br (decide (x0 = 4)) (bnd1 (s_qnumber N x1) fun l2 => br (decide (6 + l2.length ≤ 9223372036854775807)) (some (115 :: 116 :: 97 :: 116 :: 101 :: 32 :: [].append l2)) none)
          (br (decide (x0 = 5)) (bnd1 (s_qnumber N x1) fun l3 => br (decide (6 + l3.length ≤ 9223372036854775807)) (some (108 :: 101 :: 118 :: 101 :: 108 :: 32 :: [].append l3)) none)
            (br (decide (x0 = 7)) (S_qtext_18 N f x0 x1 x2 N ([111, 114, 40] : List UInt8) 0 fun l4 => br (decide (l4.length + 1 ≤ 9223372036854775807)) (some (l4 ++ ([41] : List UInt8))) none)
              (S_qtext_18 N f x0 x1 x2 N ([97, 110, 100, 40] : List UInt8) 0 fun l5 => br (decide (l5.length + 1 ≤ 9223372036854775807)) (some (l5 ++ ([41] : List UInt8))) none)))))))
noncomputable def s_qtext (N : Nat) : Nat → Int → Int → List V → Option (List UInt8)
  | 0, _, _, _ => none
  | n + 1, x0, x1, x2 => B_qtext N (s_qtext N n) x0 x1 x2
noncomputable def cx_qtext (N : Nat) (f : Int → Int → List V → Option (List UInt8)) : Cx := { T := T, isPure := tabP [⟨56, e_qtext f⟩, ⟨84, e_qnumber (s_qnumber N)⟩], pureK := fun g ds K => tabK [⟨56, e_qtext f⟩, ⟨84, e_qnumber (s_qnumber N)⟩] g ds K, memK := fun g dst ds m K => tabMK [] g dst ds m K, meth := tabM [], keep := fun r => match r with | 18 => [1, 3, 4] | _ => [], keepX := fun r => match r with | 18 => [1, 3] | _ => [], loopT := fun r ds m K => match r with | 18 => l_qtext_18 N f ds m K | _ => none, jumps := 9 }
theorem F_qtext_18_ok {R : Type} (N : Nat) (f : Int → Int → List V → Option (List UInt8)) (n2 : Int) (n3 : Int) (vs4 : List V) (l0 : List UInt8) (n1 : Int) (L : List D → Mem → Option R) (K : Ex → List D → Mem → Option R) :
    roundK (fun st K => codeK (cx_qtext N f) (loopN Tryd.f56 0) st K) 59 [1, 3, 4] [1, 3] L [(.ptr 0 1 0), (.v (.str l0) .no), (.v (.int .i64 n1) .no)] [[(1, ⟨24, [(.v (.int .i64 n2) .no), (.v (.int .i64 n3) .no), (.v (.sl 24 vs4) .no)]⟩)]] K = F_qtext_18 N f n2 n3 vs4 (fun l0 n1 => L [(.ptr 0 1 0), (.v (.str l0) .no), (.v (.int .i64 n1) .no)] [[(1, ⟨24, [(.v (.int .i64 n2) .no), (.v (.int .i64 n3) .no), (.v (.sl 24 vs4) .no)]⟩)]]) (fun a0 => K (.exit 1) [(.ptr 0 1 0), (.v (.str a0) .no)] [[(1, ⟨24, [(.v (.int .i64 n2) .no), (.v (.int .i64 n3) .no), (.v (.sl 24 vs4) .no)]⟩)]]) l0 n1 := by
  kernel_rfl
theorem S_qtext_18_ok {R : Type} (N : Nat) (f : Int → Int → List V → Option (List UInt8)) (n2 : Int) (n3 : Int) (vs4 : List V) (K : Ex → List D → Mem → Option R) : ∀ (t : Nat) (l0 : List UInt8) (n1 : Int),
    loopK (fun st K => codeK (cx_qtext N f) (loopN Tryd.f56 0) st K) 59 [1, 3, 4] [1, 3] t [(.ptr 0 1 0), (.v (.str l0) .no), (.v (.int .i64 n1) .no)] [[(1, ⟨24, [(.v (.int .i64 n2) .no), (.v (.int .i64 n3) .no), (.v (.sl 24 vs4) .no)]⟩)]] K = S_qtext_18 N f n2 n3 vs4 t l0 n1 (fun a0 => K (.exit 1) [(.ptr 0 1 0), (.v (.str a0) .no)] [[(1, ⟨24, [(.v (.int .i64 n2) .no), (.v (.int .i64 n3) .no), (.v (.sl 24 vs4) .no)]⟩)]])
  | 0, l0, n1 => rfl
  | t + 1, l0, n1 => (F_qtext_18_ok N f n2 n3 vs4 l0 n1 _ K).trans (congrArg (fun L => F_qtext_18 N f n2 n3 vs4 L (fun a0 => K (.exit 1) [(.ptr 0 1 0), (.v (.str a0) .no)] [[(1, ⟨24, [(.v (.int .i64 n2) .no), (.v (.int .i64 n3) .no), (.v (.sl 24 vs4) .no)]⟩)]]) l0 n1) (funext fun l0 => funext fun n1 => S_qtext_18_ok N f n2 n3 vs4 K t l0 n1))
theorem B_qtext_ok (N : Nat) (f : Int → Int → List V → Option (List UInt8)) (x0 : Int) (x1 : Int) (x2 : List V) : bodyK (cx_qtext N f) Tryd.f56 [.agg [.v (.int .i64 x0) .no, .v (.int .i64 x1) .no, .v (.sl 24 x2) .no]] [] r_qtext = B_qtext N f x0 x1 x2 := by
  kernel_rfl
theorem go_qtext : Goes Tryd.prog 56 := goes_of Tryd.func56 (by kernel_rfl) (c := bodyOf Tryd.f56) (by kernel_rfl)
theorem eo_qtext (s : Int → Int → List V → Option (List UInt8)) (hs : ∀ (x0 : Int) (x1 : Int) (x2 : List V) (r0 : List UInt8), s x0 x1 x2 = some r0 → PureRet Tryd.prog T 56 [.agg [.v (.int .i64 x0) .no, .v (.int .i64 x1) .no, .v (.sl 24 x2) .no]] [.v (.str r0) .no]) : EntOK Tryd.prog T ⟨56, e_qtext s⟩ := by
  refine ⟨go_qtext, fun R ds K r h => ?_, fun R ds K => ?_⟩
  · simp only [e_qtext] at h
    split at h
    · obtain ⟨r0, h1, h2⟩ := bnd1_some h
      exact ⟨_, h2, hs _ _ _ _ h1⟩
    · cases h
  · simp only [e_qtext]
    split
    · rw [bnd1_b]; rfl
    · rfl
theorem co_qtext (N : Nat) (f : Int → Int → List V → Option (List UInt8)) (hf : ∀ (x0 : Int) (x1 : Int) (x2 : List V) (r0 : List UInt8), f x0 x1 x2 = some r0 → PureRet Tryd.prog T 56 [.agg [.v (.int .i64 x0) .no, .v (.int .i64 x1) .no, .v (.sl 24 x2) .no]] [.v (.str r0) .no]) : CxOK Tryd.prog (cx_qtext N f) :=
  cxOK_of2 (es := [⟨56, e_qtext f⟩, ⟨84, e_qnumber (s_qnumber N)⟩]) (me := []) (ms := []) T_ok ⟨eo_qtext f hf, eo_qnumber _ (p_qnumber N), trivial⟩ trivial trivial rfl (fun _ _ _ _ => rfl) (fun _ _ _ _ _ _ => rfl) rfl
theorem lk_qtext_18 (N : Nat) (f : Int → Int → List V → Option (List UInt8)) : LoopOK (cx_qtext N f) 59 (loopN Tryd.f56 0) := by
  refine loopOK_of (rid := 18) (by kernel_rfl) rfl rfl fun R ds m K r h => ?_
  have h : l_qtext_18 N f ds m K = some r := h
  unfold l_qtext_18 at h
  split at h
  · exact ⟨N, Eq.trans (S_qtext_18_ok ..) h⟩
  · cases h
theorem lo_qtext (N : Nat) (f : Int → Int → List V → Option (List UInt8)) : LoopsOK (cx_qtext N f) Tryd.f56.ntmps (bodyOf Tryd.f56) :=
  loopsOK_of (k := 1) (by kernel_rfl) ⟨trivial, lk_qtext_18 N f⟩
theorem p_qtext (N : Nat) : ∀ (M : Nat) (x0 : Int) (x1 : Int) (x2 : List V) (r0 : List UInt8), s_qtext N M x0 x1 x2 = some r0 → PureRet Tryd.prog T 56 [.agg [.v (.int .i64 x0) .no, .v (.int .i64 x1) .no, .v (.sl 24 x2) .no]] [.v (.str r0) .no]
  | 0, _, _, _, _, h => by cases h
  | M + 1, x0, x1, x2, r0, h => pure_of (cx := cx_qtext N (s_qtext N M)) (by kernel_rfl) (co_qtext N (s_qtext N M) (p_qtext N M)) Tryd.func56 (by kernel_rfl) (by kernel_rfl) (lo_qtext N (s_qtext N M)) rfl rfl rfl (rf := r_qtext) ((B_qtext_ok N (s_qtext N M) x0 x1 x2).trans h) (fun rs' m h => by
    unfold r_qtext at h
    split at h
    · cases h; exact ⟨rfl, rfl⟩
    · cases h)
noncomputable def e_qText {R : Type} (s : Int → Int → List V → Option (List UInt8)) (ds : List D) (K : List D → Option R) : Option R :=
  match ds with
  | [.agg [.v (.int .i64 x0) .no, .v (.int .i64 x1) .no, .v (.sl 24 x2) .no]] => bnd1 (s x0 x1 x2) fun r0 => K [.v (.str r0) .no]
  | _ => none
noncomputable def r_qText (rs : List D) (_ : Mem) : Option (List UInt8) :=
  match rs with
  | [.v (.str r0) _] => some (r0)
  | _ => none
noncomputable def s_qText (N : Nat) (x0 : Int) (x1 : Int) (x2 : List V) : Option (List UInt8) :=
  bnd1 (s_qCheck N x0 x1 x2) fun n0 => br (!decide (n0 = 0)) (some []) (bnd1 (s_qtext N N x0 x1 x2) fun l1 => some l1)
noncomputable def cx_qText (N : Nat) : Cx := { T := T, isPure := tabP [⟨18, e_qCheck (s_qCheck N)⟩, ⟨56, e_qtext (s_qtext N N)⟩], pureK := fun g ds K => tabK [⟨18, e_qCheck (s_qCheck N)⟩, ⟨56, e_qtext (s_qtext N N)⟩] g ds K, memK := fun g dst ds m K => tabMK [] g dst ds m K, meth := tabM [], keep := fun _ => [], keepX := fun _ => [], loopT := fun _ _ _ _ => none, jumps := 9 }
theorem s_qText_ok (N : Nat) (x0 : Int) (x1 : Int) (x2 : List V) : bodyK (cx_qText N) Tryd.f28 [.agg [.v (.int .i64 x0) .no, .v (.int .i64 x1) .no, .v (.sl 24 x2) .no]] [] r_qText = s_qText N x0 x1 x2 := by
  kernel_rfl
theorem go_qText : Goes Tryd.prog 28 := goes_of Tryd.func28 (by kernel_rfl) (c := bodyOf Tryd.f28) (by kernel_rfl)
theorem eo_qText (s : Int → Int → List V → Option (List UInt8)) (hs : ∀ (x0 : Int) (x1 : Int) (x2 : List V) (r0 : List UInt8), s x0 x1 x2 = some r0 → PureRet Tryd.prog T 28 [.agg [.v (.int .i64 x0) .no, .v (.int .i64 x1) .no, .v (.sl 24 x2) .no]] [.v (.str r0) .no]) : EntOK Tryd.prog T ⟨28, e_qText s⟩ := by
  refine ⟨go_qText, fun R ds K r h => ?_, fun R ds K => ?_⟩
  · simp only [e_qText] at h
    split at h
    · obtain ⟨r0, h1, h2⟩ := bnd1_some h
      exact ⟨_, h2, hs _ _ _ _ h1⟩
    · cases h
  · simp only [e_qText]
    split
    · rw [bnd1_b]; rfl
    · rfl
theorem co_qText (N : Nat) : CxOK Tryd.prog (cx_qText N) :=
  cxOK_of2 (es := [⟨18, e_qCheck (s_qCheck N)⟩, ⟨56, e_qtext (s_qtext N N)⟩]) (me := []) (ms := []) T_ok ⟨eo_qCheck _ (p_qCheck N), eo_qtext _ (p_qtext N N), trivial⟩ trivial trivial rfl (fun _ _ _ _ => rfl) (fun _ _ _ _ _ _ => rfl) rfl
theorem lo_qText (N : Nat) : LoopsOK (cx_qText N) Tryd.f28.ntmps (bodyOf Tryd.f28) :=
  loopsOK_of (k := 0) (by kernel_rfl) trivial
theorem p_qText (N : Nat) (x0 : Int) (x1 : Int) (x2 : List V) (r0 : List UInt8) (h : s_qText N x0 x1 x2 = some r0) : PureRet Tryd.prog T 28 [.agg [.v (.int .i64 x0) .no, .v (.int .i64 x1) .no, .v (.sl 24 x2) .no]] [.v (.str r0) .no] :=
  pure_of (cx := cx_qText N) (by kernel_rfl) (co_qText N) Tryd.func28 (by kernel_rfl) (by kernel_rfl) (lo_qText N) rfl rfl rfl (rf := r_qText) ((s_qText_ok N x0 x1 x2).trans h) (fun rs' m h => by
    unfold r_qText at h
    split at h
    · cases h; exact ⟨rfl, rfl⟩
    · cases h)
noncomputable def e_lleft {R : Type} (s : Int → Int → List V → Int → Option (Int)) (ds : List D) (K : List D → Option R) : Option R :=
  match ds with
  | [.agg [.v (.int .i64 x0) .no, .v (.int .i64 x1) .no, .v (.sl 24 x2) .no], .v (.int .i64 x3) .no] => bnd1 (s x0 x1 x2 x3) fun r0 => K [.v (.int .i64 r0) .no]
  | _ => none
noncomputable def r_lleft (rs : List D) (_ : Mem) : Option (Int) :=
  match rs with
  | [.v (.int .i64 r0) _] => some (r0)
  | _ => none
noncomputable def F_lleft_3 {R : Type} (N : Nat) (f : Int → Int → List V → Int → Option (Int)) (n2 : Int) (n3 : Int) (vs4 : List V) (Lq : Int → Int → Option R) (K0 : Int → Option R) (n0 : Int) (n1 : Int) : Option R :=
  br (decide (n1 < (↑vs4.length : Int)))
  (br (decide (0 ≤ n0))
    (br (decide (0 ≤ n1) && decide (n1 < (↑vs4.length : Int)))
      (at? vs4 n1.toNat fun x0 =>
        x0.unAgg fun l1 =>
          unCons l1 fun x2 l3 =>
            V.unInt IntKind.i64 x2 fun n4 => unCons l3 fun x5 l6 => V.unInt IntKind.i64 x5 fun n7 => unCons l6 fun x8 l9 => V.unSl 24 x8 fun l10 => unNil l9 (bnd1 (f n4 n7 l10 n0) fun n11 => Lq n11 (IntKind.i64.wrap (n1 + 1))))
      none)
    (K0 n0))
  (K0 n0)
noncomputable def S_lleft_3 {R : Type} (N : Nat) (f : Int → Int → List V → Int → Option (Int)) (n2 : Int) (n3 : Int) (vs4 : List V) : Nat → Int → Int → (Int → Option R) → Option R
  | 0, _, _, _ => none
  | t + 1, n0, n1, K0 => F_lleft_3 N f n2 n3 vs4 (fun n0 n1 => S_lleft_3 N f n2 n3 vs4 t n0 n1 K0) K0 n0 n1
noncomputable def l_lleft_3 {R : Type} (N : Nat) (f : Int → Int → List V → Int → Option (Int)) (ds : List D) (m : Mem) (K : Ex → List D → Mem → Option R) : Option R :=
  match ds, m with
  | [(.v (.int .i64 n0) .no), (.ptr 0 2 0), (.v (.int .i64 n1) .no)], [[(2, ⟨24, [(.v (.int .i64 n2) .no), (.v (.int .i64 n3) .no), (.v (.sl 24 vs4) .no)]⟩)]] => S_lleft_3 N f n2 n3 vs4 N n0 n1 (fun a0 => K (.exit 0) [(.v (.int .i64 a0) .no), (.ptr 0 2 0)] [[(2, ⟨24, [(.v (.int .i64 n2) .no), (.v (.int .i64 n3) .no), (.v (.sl 24 vs4) .no)]⟩)]])
  | _, _ => none
noncomputable def B_lleft (N : Nat) (f : Int → Int → List V → Int → Option (Int)) (x0 : Int) (x1 : Int) (x2 : List V) (x3 : Int) : Option (Int) :=
  S_lleft_3 N f x0 x1 x2 N (IntKind.i64.wrap (x3 - 1)) 0 fun n0 => some n0
noncomputable def s_lleft (N : Nat) : Nat → Int → Int → List V → Int → Option (Int)
  | 0, _, _, _, _ => none
  | n + 1, x0, x1, x2, x3 => B_lleft N (s_lleft N n) x0 x1 x2 x3
noncomputable def cx_lleft (N : Nat) (f : Int → Int → List V → Int → Option (Int)) : Cx := { T := T, isPure := tabP [⟨38, e_lleft f⟩], pureK := fun g ds K => tabK [⟨38, e_lleft f⟩] g ds K, memK := fun g dst ds m K => tabMK [] g dst ds m K, meth := tabM [], keep := fun r => match r with | 3 => [1, 2, 5] | _ => [], keepX := fun r => match r with | 3 => [1, 2] | _ => [], loopT := fun r ds m K => match r with | 3 => l_lleft_3 N f ds m K | _ => none, jumps := 9 }
theorem F_lleft_3_ok {R : Type} (N : Nat) (f : Int → Int → List V → Int → Option (Int)) (n2 : Int) (n3 : Int) (vs4 : List V) (n0 : Int) (n1 : Int) (L : List D → Mem → Option R) (K : Ex → List D → Mem → Option R) :
    roundK (fun st K => codeK (cx_lleft N f) (loopN Tryd.f38 0) st K) 27 [1, 2, 5] [1, 2] L [(.v (.int .i64 n0) .no), (.ptr 0 2 0), (.v (.int .i64 n1) .no)] [[(2, ⟨24, [(.v (.int .i64 n2) .no), (.v (.int .i64 n3) .no), (.v (.sl 24 vs4) .no)]⟩)]] K = F_lleft_3 N f n2 n3 vs4 (fun n0 n1 => L [(.v (.int .i64 n0) .no), (.ptr 0 2 0), (.v (.int .i64 n1) .no)] [[(2, ⟨24, [(.v (.int .i64 n2) .no), (.v (.int .i64 n3) .no), (.v (.sl 24 vs4) .no)]⟩)]]) (fun a0 => K (.exit 0) [(.v (.int .i64 a0) .no), (.ptr 0 2 0)] [[(2, ⟨24, [(.v (.int .i64 n2) .no), (.v (.int .i64 n3) .no), (.v (.sl 24 vs4) .no)]⟩)]]) n0 n1 := by
  kernel_rfl
theorem S_lleft_3_ok {R : Type} (N : Nat) (f : Int → Int → List V → Int → Option (Int)) (n2 : Int) (n3 : Int) (vs4 : List V) (K : Ex → List D → Mem → Option R) : ∀ (t : Nat) (n0 : Int) (n1 : Int),
    loopK (fun st K => codeK (cx_lleft N f) (loopN Tryd.f38 0) st K) 27 [1, 2, 5] [1, 2] t [(.v (.int .i64 n0) .no), (.ptr 0 2 0), (.v (.int .i64 n1) .no)] [[(2, ⟨24, [(.v (.int .i64 n2) .no), (.v (.int .i64 n3) .no), (.v (.sl 24 vs4) .no)]⟩)]] K = S_lleft_3 N f n2 n3 vs4 t n0 n1 (fun a0 => K (.exit 0) [(.v (.int .i64 a0) .no), (.ptr 0 2 0)] [[(2, ⟨24, [(.v (.int .i64 n2) .no), (.v (.int .i64 n3) .no), (.v (.sl 24 vs4) .no)]⟩)]])
  | 0, n0, n1 => rfl
  | t + 1, n0, n1 => (F_lleft_3_ok N f n2 n3 vs4 n0 n1 _ K).trans (congrArg (fun L => F_lleft_3 N f n2 n3 vs4 L (fun a0 => K (.exit 0) [(.v (.int .i64 a0) .no), (.ptr 0 2 0)] [[(2, ⟨24, [(.v (.int .i64 n2) .no), (.v (.int .i64 n3) .no), (.v (.sl 24 vs4) .no)]⟩)]]) n0 n1) (funext fun n0 => funext fun n1 => S_lleft_3_ok N f n2 n3 vs4 K t n0 n1))
theorem B_lleft_ok (N : Nat) (f : Int → Int → List V → Int → Option (Int)) (x0 : Int) (x1 : Int) (x2 : List V) (x3 : Int) : bodyK (cx_lleft N f) Tryd.f38 [.agg [.v (.int .i64 x0) .no, .v (.int .i64 x1) .no, .v (.sl 24 x2) .no], .v (.int .i64 x3) .no] [] r_lleft = B_lleft N f x0 x1 x2 x3 := by
  kernel_rfl
theorem go_lleft : Goes Tryd.prog 38 := goes_of Tryd.func38 (by kernel_rfl) (c := bodyOf Tryd.f38) (by kernel_rfl)
theorem eo_lleft (s : Int → Int → List V → Int → Option (Int)) (hs : ∀ (x0 : Int) (x1 : Int) (x2 : List V) (x3 : Int) (r0 : Int), s x0 x1 x2 x3 = some r0 → PureRet Tryd.prog T 38 [.agg [.v (.int .i64 x0) .no, .v (.int .i64 x1) .no, .v (.sl 24 x2) .no], .v (.int .i64 x3) .no] [.v (.int .i64 r0) .no]) : EntOK Tryd.prog T ⟨38, e_lleft s⟩ := by
  refine ⟨go_lleft, fun R ds K r h => ?_, fun R ds K => ?_⟩
  · simp only [e_lleft] at h
    split at h
    · obtain ⟨r0, h1, h2⟩ := bnd1_some h
      exact ⟨_, h2, hs _ _ _ _ _ h1⟩
    · cases h
  · simp only [e_lleft]
    split
    · rw [bnd1_b]; rfl
    · rfl
theorem co_lleft (N : Nat) (f : Int → Int → List V → Int → Option (Int)) (hf : ∀ (x0 : Int) (x1 : Int) (x2 : List V) (x3 : Int) (r0 : Int), f x0 x1 x2 x3 = some r0 → PureRet Tryd.prog T 38 [.agg [.v (.int .i64 x0) .no, .v (.int .i64 x1) .no, .v (.sl 24 x2) .no], .v (.int .i64 x3) .no] [.v (.int .i64 r0) .no]) : CxOK Tryd.prog (cx_lleft N f) :=
  cxOK_of2 (es := [⟨38, e_lleft f⟩]) (me := []) (ms := []) T_ok ⟨eo_lleft f hf, trivial⟩ trivial trivial rfl (fun _ _ _ _ => rfl) (fun _ _ _ _ _ _ => rfl) rfl
theorem lk_lleft_3 (N : Nat) (f : Int → Int → List V → Int → Option (Int)) : LoopOK (cx_lleft N f) 27 (loopN Tryd.f38 0) := by
  refine loopOK_of (rid := 3) (by kernel_rfl) rfl rfl fun R ds m K r h => ?_
  have h : l_lleft_3 N f ds m K = some r := h
  unfold l_lleft_3 at h
  split at h
  · exact ⟨N, Eq.trans (S_lleft_3_ok ..) h⟩
  · cases h
theorem lo_lleft (N : Nat) (f : Int → Int → List V → Int → Option (Int)) : LoopsOK (cx_lleft N f) Tryd.f38.ntmps (bodyOf Tryd.f38) :=
  loopsOK_of (k := 1) (by kernel_rfl) ⟨trivial, lk_lleft_3 N f⟩
theorem p_lleft (N : Nat) : ∀ (M : Nat) (x0 : Int) (x1 : Int) (x2 : List V) (x3 : Int) (r0 : Int), s_lleft N M x0 x1 x2 x3 = some r0 → PureRet Tryd.prog T 38 [.agg [.v (.int .i64 x0) .no, .v (.int .i64 x1) .no, .v (.sl 24 x2) .no], .v (.int .i64 x3) .no] [.v (.int .i64 r0) .no]
  | 0, _, _, _, _, _, h => by cases h
  | M + 1, x0, x1, x2, x3, r0, h => pure_of (cx := cx_lleft N (s_lleft N M)) (by kernel_rfl) (co_lleft N (s_lleft N M) (p_lleft N M)) Tryd.func38 (by kernel_rfl) (by kernel_rfl) (lo_lleft N (s_lleft N M)) rfl rfl rfl (rf := r_lleft) ((B_lleft_ok N (s_lleft N M) x0 x1 x2 x3).trans h) (fun rs' m h => by
    unfold r_lleft at h
    split at h
    · cases h; exact ⟨rfl, rfl⟩
    · cases h)
noncomputable def e_lfew {R : Type} (s : List V → Option (Bool)) (ds : List D) (K : List D → Option R) : Option R :=
  match ds with
  | [.v (.sl 24 x0) .no] => bnd1 (s x0) fun r0 => K [.v (.bool r0) .no]
  | _ => none
noncomputable def r_lfew (rs : List D) (_ : Mem) : Option (Bool) :=
  match rs with
  | [.v (.bool r0) _] => some (r0)
  | _ => none
noncomputable def F_lfew_2 {R : Type} (N : Nat) (vs0 : List V) (Lq : Int → Option R) (K0 : Bool → Option R) (K1 : Option R) (n1 : Int) : Option R :=
  br (decide (n1 < (↑vs0.length : Int)))
  (br (decide (0 ≤ n1) && decide (n1 < (↑vs0.length : Int)))
    (at? vs0 n1.toNat fun x0 =>
      x0.unAgg fun l1 =>
        unCons l1 fun x2 l3 =>
          V.unInt IntKind.i64 x2 fun n4 =>
            unCons l3 fun x5 l6 => V.unInt IntKind.i64 x5 fun n7 => unCons l6 fun x8 l9 => V.unSl 24 x8 fun l10 => unNil l9 (bnd1 (s_lleft N N n4 n7 l10 200) fun n11 => br (decide (n11 < 0)) (K0 false) (Lq (IntKind.i64.wrap (n1 + 1)))))
    none)
  K1
noncomputable def S_lfew_2 {R : Type} (N : Nat) (vs0 : List V) : Nat → Int → (Bool → Option R) → (Option R) → Option R
  | 0, _, _, _ => none
  | t + 1, n1, K0, K1 => F_lfew_2 N vs0 (fun n1 => S_lfew_2 N vs0 t n1 K0 K1) K0 K1 n1
noncomputable def l_lfew_2 {R : Type} (N : Nat) (ds : List D) (m : Mem) (K : Ex → List D → Mem → Option R) : Option R :=
  match ds, m with
  | [(.v (.sl 24 vs0) .no), (.v (.int .i64 n1) .no)], [[]] => S_lfew_2 N vs0 N n1 (fun a0 => K .ret [(.v (.bool a0) .no)] [[]]) (K (.exit 0) [.any] [[]])
  | _, _ => none
noncomputable def s_lfew (N : Nat) (x0 : List V) : Option (Bool) :=
  S_lfew_2 N x0 N 0 (fun b0 => some b0) (some true)
noncomputable def cx_lfew (N : Nat) : Cx := { T := T, isPure := tabP [⟨38, e_lleft (s_lleft N N)⟩], pureK := fun g ds K => tabK [⟨38, e_lleft (s_lleft N N)⟩] g ds K, memK := fun g dst ds m K => tabMK [] g dst ds m K, meth := tabM [], keep := fun r => match r with | 2 => [0, 3] | _ => [], keepX := fun r => match r with | 2 => [2] | _ => [], loopT := fun r ds m K => match r with | 2 => l_lfew_2 N ds m K | _ => none, jumps := 9 }
theorem F_lfew_2_ok {R : Type} (N : Nat) (vs0 : List V) (n1 : Int) (L : List D → Mem → Option R) (K : Ex → List D → Mem → Option R) :
    roundK (fun st K => codeK (cx_lfew N) (loopN Tryd.f15 0) st K) 16 [0, 3] [2] L [(.v (.sl 24 vs0) .no), (.v (.int .i64 n1) .no)] [[]] K = F_lfew_2 N vs0 (fun n1 => L [(.v (.sl 24 vs0) .no), (.v (.int .i64 n1) .no)] [[]]) (fun a0 => K .ret [(.v (.bool a0) .no)] [[]]) (K (.exit 0) [.any] [[]]) n1 := by
  kernel_rfl
theorem S_lfew_2_ok {R : Type} (N : Nat) (vs0 : List V) (K : Ex → List D → Mem → Option R) : ∀ (t : Nat) (n1 : Int),
    loopK (fun st K => codeK (cx_lfew N) (loopN Tryd.f15 0) st K) 16 [0, 3] [2] t [(.v (.sl 24 vs0) .no), (.v (.int .i64 n1) .no)] [[]] K = S_lfew_2 N vs0 t n1 (fun a0 => K .ret [(.v (.bool a0) .no)] [[]]) (K (.exit 0) [.any] [[]])
  | 0, n1 => rfl
  | t + 1, n1 => (F_lfew_2_ok N vs0 n1 _ K).trans (congrArg (fun L => F_lfew_2 N vs0 L (fun a0 => K .ret [(.v (.bool a0) .no)] [[]]) (K (.exit 0) [.any] [[]]) n1) (funext fun n1 => S_lfew_2_ok N vs0 K t n1))
theorem s_lfew_ok (N : Nat) (x0 : List V) : bodyK (cx_lfew N) Tryd.f15 [.v (.sl 24 x0) .no] [] r_lfew = s_lfew N x0 := by
  kernel_rfl
theorem go_lfew : Goes Tryd.prog 15 := goes_of Tryd.func15 (by kernel_rfl) (c := bodyOf Tryd.f15) (by kernel_rfl)
theorem eo_lfew (s : List V → Option (Bool)) (hs : ∀ (x0 : List V) (r0 : Bool), s x0 = some r0 → PureRet Tryd.prog T 15 [.v (.sl 24 x0) .no] [.v (.bool r0) .no]) : EntOK Tryd.prog T ⟨15, e_lfew s⟩ := by
  refine ⟨go_lfew, fun R ds K r h => ?_, fun R ds K => ?_⟩
  · simp only [e_lfew] at h
    split at h
    · obtain ⟨r0, h1, h2⟩ := bnd1_some h
      exact ⟨_, h2, hs _ _ h1⟩
    · cases h
  · simp only [e_lfew]
    split
    · rw [bnd1_b]; rfl
    · rfl
theorem co_lfew (N : Nat) : CxOK Tryd.prog (cx_lfew N) :=
  cxOK_of2 (es := [⟨38, e_lleft (s_lleft N N)⟩]) (me := []) (ms := []) T_ok ⟨eo_lleft _ (p_lleft N N), trivial⟩ trivial trivial rfl (fun _ _ _ _ => rfl) (fun _ _ _ _ _ _ => rfl) rfl
theorem lk_lfew_2 (N : Nat) : LoopOK (cx_lfew N) 16 (loopN Tryd.f15 0) := by
  refine loopOK_of (rid := 2) (by kernel_rfl) rfl rfl fun R ds m K r h => ?_
  have h : l_lfew_2 N ds m K = some r := h
  unfold l_lfew_2 at h
  split at h
  · exact ⟨N, Eq.trans (S_lfew_2_ok ..) h⟩
  · cases h
theorem lo_lfew (N : Nat) : LoopsOK (cx_lfew N) Tryd.f15.ntmps (bodyOf Tryd.f15) :=
  loopsOK_of (k := 1) (by kernel_rfl) ⟨trivial, lk_lfew_2 N⟩
theorem p_lfew (N : Nat) (x0 : List V) (r0 : Bool) (h : s_lfew N x0 = some r0) : PureRet Tryd.prog T 15 [.v (.sl 24 x0) .no] [.v (.bool r0) .no] :=
  pure_of (cx := cx_lfew N) (by kernel_rfl) (co_lfew N) Tryd.func15 (by kernel_rfl) (by kernel_rfl) (lo_lfew N) rfl rfl rfl (rf := r_lfew) ((s_lfew_ok N x0).trans h) (fun rs' m h => by
    unfold r_lfew at h
    split at h
    · cases h; exact ⟨rfl, rfl⟩
    · cases h)
noncomputable def e_lfewRules {R : Type} (s : List V → Option (Bool)) (ds : List D) (K : List D → Option R) : Option R :=
  match ds with
  | [.v (.sl 53 x0) .no] => bnd1 (s x0) fun r0 => K [.v (.bool r0) .no]
  | _ => none
noncomputable def r_lfewRules (rs : List D) (_ : Mem) : Option (Bool) :=
  match rs with
  | [.v (.bool r0) _] => some (r0)
  | _ => none
noncomputable def F_lfewRules_4 {R : Type} (N : Nat) (vs0 : List V) (Lq : Int → Option R) (K0 : Bool → Option R) (K1 : Option R) (n1 : Int) : Option R :=
  br (decide (n1 < (↑vs0.length : Int)))
  (br (decide (0 ≤ n1) && decide (n1 < (↑vs0.length : Int)))
    (at? vs0 n1.toNat fun x0 =>
      x0.unAgg fun l1 =>
        unCons l1 fun x2 l3 =>
          V.unInt IntKind.i64 x2 fun n4 =>
            unCons l3 fun x5 l6 =>
              V.unInt IntKind.i64 x5 fun n7 =>
                unCons l6 fun x8 l9 =>
                  V.unInt IntKind.i64 x8 fun n10 =>
                    unCons l9 fun x11 l12 => V.unSl 24 x11 fun l13 => unNil l12 (bnd1 (s_lfew N [V.agg [V.int IntKind.i64 n7, V.int IntKind.i64 n10, V.sl 24 l13]]) fun b14 => br (!b14) (K0 false) (Lq (IntKind.i64.wrap (n1 + 1)))))
    none)
  K1
noncomputable def S_lfewRules_4 {R : Type} (N : Nat) (vs0 : List V) : Nat → Int → (Bool → Option R) → (Option R) → Option R
  | 0, _, _, _ => none
  | t + 1, n1, K0, K1 => F_lfewRules_4 N vs0 (fun n1 => S_lfewRules_4 N vs0 t n1 K0 K1) K0 K1 n1
noncomputable def l_lfewRules_4 {R : Type} (N : Nat) (ds : List D) (m : Mem) (K : Ex → List D → Mem → Option R) : Option R :=
  match ds, m with
  | [(.v (.sl 53 vs0) .no), (.v (.int .i64 n1) .no)], [[]] => S_lfewRules_4 N vs0 N n1 (fun a0 => K .ret [(.v (.bool a0) .no)] [[]]) (K (.exit 0) [.any] [[]])
  | _, _ => none
noncomputable def s_lfewRules (N : Nat) (x0 : List V) : Option (Bool) :=
  br (decide (50 < (↑x0.length : Int))) (some false) (S_lfewRules_4 N x0 N 0 (fun b0 => some b0) (some true))
noncomputable def cx_lfewRules (N : Nat) : Cx := { T := T, isPure := tabP [⟨15, e_lfew (s_lfew N)⟩], pureK := fun g ds K => tabK [⟨15, e_lfew (s_lfew N)⟩] g ds K, memK := fun g dst ds m K => tabMK [] g dst ds m K, meth := tabM [], keep := fun r => match r with | 4 => [0, 3] | _ => [], keepX := fun r => match r with | 4 => [2] | _ => [], loopT := fun r ds m K => match r with | 4 => l_lfewRules_4 N ds m K | _ => none, jumps := 9 }
theorem F_lfewRules_4_ok {R : Type} (N : Nat) (vs0 : List V) (n1 : Int) (L : List D → Mem → Option R) (K : Ex → List D → Mem → Option R) :
    roundK (fun st K => codeK (cx_lfewRules N) (loopN Tryd.f24 0) st K) 21 [0, 3] [2] L [(.v (.sl 53 vs0) .no), (.v (.int .i64 n1) .no)] [[]] K = F_lfewRules_4 N vs0 (fun n1 => L [(.v (.sl 53 vs0) .no), (.v (.int .i64 n1) .no)] [[]]) (fun a0 => K .ret [(.v (.bool a0) .no)] [[]]) (K (.exit 0) [.any] [[]]) n1 := by
  kernel_rfl
theorem S_lfewRules_4_ok {R : Type} (N : Nat) (vs0 : List V) (K : Ex → List D → Mem → Option R) : ∀ (t : Nat) (n1 : Int),
    loopK (fun st K => codeK (cx_lfewRules N) (loopN Tryd.f24 0) st K) 21 [0, 3] [2] t [(.v (.sl 53 vs0) .no), (.v (.int .i64 n1) .no)] [[]] K = S_lfewRules_4 N vs0 t n1 (fun a0 => K .ret [(.v (.bool a0) .no)] [[]]) (K (.exit 0) [.any] [[]])
  | 0, n1 => rfl
  | t + 1, n1 => (F_lfewRules_4_ok N vs0 n1 _ K).trans (congrArg (fun L => F_lfewRules_4 N vs0 L (fun a0 => K .ret [(.v (.bool a0) .no)] [[]]) (K (.exit 0) [.any] [[]]) n1) (funext fun n1 => S_lfewRules_4_ok N vs0 K t n1))
theorem s_lfewRules_ok (N : Nat) (x0 : List V) : bodyK (cx_lfewRules N) Tryd.f24 [.v (.sl 53 x0) .no] [] r_lfewRules = s_lfewRules N x0 := by
  kernel_rfl
theorem go_lfewRules : Goes Tryd.prog 24 := goes_of Tryd.func24 (by kernel_rfl) (c := bodyOf Tryd.f24) (by kernel_rfl)
theorem eo_lfewRules (s : List V → Option (Bool)) (hs : ∀ (x0 : List V) (r0 : Bool), s x0 = some r0 → PureRet Tryd.prog T 24 [.v (.sl 53 x0) .no] [.v (.bool r0) .no]) : EntOK Tryd.prog T ⟨24, e_lfewRules s⟩ := by
  refine ⟨go_lfewRules, fun R ds K r h => ?_, fun R ds K => ?_⟩
  · simp only [e_lfewRules] at h
    split at h
    · obtain ⟨r0, h1, h2⟩ := bnd1_some h
      exact ⟨_, h2, hs _ _ h1⟩
    · cases h
  · simp only [e_lfewRules]
    split
    · rw [bnd1_b]; rfl
    · rfl
theorem co_lfewRules (N : Nat) : CxOK Tryd.prog (cx_lfewRules N) :=
  cxOK_of2 (es := [⟨15, e_lfew (s_lfew N)⟩]) (me := []) (ms := []) T_ok ⟨eo_lfew _ (p_lfew N), trivial⟩ trivial trivial rfl (fun _ _ _ _ => rfl) (fun _ _ _ _ _ _ => rfl) rfl
theorem lk_lfewRules_4 (N : Nat) : LoopOK (cx_lfewRules N) 21 (loopN Tryd.f24 0) := by
  refine loopOK_of (rid := 4) (by kernel_rfl) rfl rfl fun R ds m K r h => ?_
  have h : l_lfewRules_4 N ds m K = some r := h
  unfold l_lfewRules_4 at h
  split at h
  · exact ⟨N, Eq.trans (S_lfewRules_4_ok ..) h⟩
  · cases h
theorem lo_lfewRules (N : Nat) : LoopsOK (cx_lfewRules N) Tryd.f24.ntmps (bodyOf Tryd.f24) :=
  loopsOK_of (k := 1) (by kernel_rfl) ⟨trivial, lk_lfewRules_4 N⟩
theorem p_lfewRules (N : Nat) (x0 : List V) (r0 : Bool) (h : s_lfewRules N x0 = some r0) : PureRet Tryd.prog T 24 [.v (.sl 53 x0) .no] [.v (.bool r0) .no] :=
  pure_of (cx := cx_lfewRules N) (by kernel_rfl) (co_lfewRules N) Tryd.func24 (by kernel_rfl) (by kernel_rfl) (lo_lfewRules N) rfl rfl rfl (rf := r_lfewRules) ((s_lfewRules_ok N x0).trans h) (fun rs' m h => by
    unfold r_lfewRules at h
    split at h
    · cases h; exact ⟨rfl, rfl⟩
    · cases h)
noncomputable def e_small {R : Type} (s : Int → Option (List UInt8)) (ds : List D) (K : List D → Option R) : Option R :=
  match ds with
  | [.v (.int .i64 x0) .no] => bnd1 (s x0) fun r0 => K [.v (.str r0) .no]
  | _ => none
noncomputable def r_small (rs : List D) (_ : Mem) : Option (List UInt8) :=
  match rs with
  | [.v (.str r0) _] => some (r0)
  | _ => none
noncomputable def s_small (N : Nat) (x0 : Int) : Option (List UInt8) :=
  br (decide (x0 < 10))
  (br (decide (0 ≤ IntKind.i64.wrap (x0 + 1)) && decide (IntKind.i64.wrap (x0 + 1) ≤ 36))
    (br (decide (0 ≤ x0) && decide (x0 ≤ (↑(IntKind.i64.wrap (x0 + 1)).toNat : Int)))
      (some
        (List.drop x0.toNat
          (List.take (IntKind.i64.wrap (x0 + 1)).toNat ([48, 49, 50, 51, 52, 53, 54, 55, 56, 57, 97, 98, 99, 100, 101, 102, 103, 104, 105, 106, 107, 108, 109, 110, 111, 112, 113, 114, 115, 116, 117, 118, 119, 120, 121, 122] : List UInt8))))
      none)
    none)
  (br (decide (0 ≤ IntKind.i64.wrap (IntKind.i64.wrap (x0 * 2) + 2)) && decide (IntKind.i64.wrap (IntKind.i64.wrap (x0 * 2) + 2) ≤ 200))
    (br (decide (0 ≤ IntKind.i64.wrap (x0 * 2)) && decide (IntKind.i64.wrap (x0 * 2) ≤ (↑(IntKind.i64.wrap (IntKind.i64.wrap (x0 * 2) + 2)).toNat : Int)))
      (some
        (List.drop (IntKind.i64.wrap (x0 * 2)).toNat
          (List.take (IntKind.i64.wrap (IntKind.i64.wrap (x0 * 2) + 2)).toNat
            ([48, 48, 48, 49, 48, 50, 48, 51, 48, 52, 48, 53, 48, 54, 48, 55, 48, 56, 48, 57, 49, 48, 49, 49, 49, 50, 49, 51, 49, 52, 49, 53, 49, 54, 49, 55, 49, 56, 49, 57, 50, 48, 50, 49, 50, 50, 50, 51, 50, 52, 50, 53, 50, 54, 50, 55, 50,
              56, 50, 57, 51, 48, 51, 49, 51, 50, 51, 51, 51, 52, 51, 53, 51, 54, 51, 55, 51, 56, 51, 57, 52, 48, 52, 49, 52, 50, 52, 51, 52, 52, 52, 53, 52, 54, 52, 55, 52, 56, 52, 57, 53, 48, 53, 49, 53, 50, 53, 51, 53, 52, 53, 53, 53,
              54, 53, 55, 53, 56, 53, 57, 54, 48, 54, 49, 54, 50, 54, 51, 54, 52, 54, 53, 54, 54, 54, 55, 54, 56, 54, 57, 55, 48, 55, 49, 55, 50, 55, 51, 55, 52, 55, 53, 55, 54, 55, 55, 55, 56, 55, 57, 56, 48, 56, 49, 56, 50, 56, 51, 56,
              52, 56, 53, 56, 54, 56, 55, 56, 56, 56, 57, 57, 48, 57, 49, 57, 50, 57, 51, 57, 52, 57, 53, 57, 54, 57, 55, 57, 56, 57, 57] : List UInt8))))
      none)
    none)
noncomputable def cx_small (N : Nat) : Cx := { T := T, isPure := tabP [], pureK := fun g ds K => tabK [] g ds K, memK := fun g dst ds m K => tabMK [] g dst ds m K, meth := tabM [], keep := fun _ => [], keepX := fun _ => [], loopT := fun _ _ _ _ => none, jumps := 9 }
theorem s_small_ok (N : Nat) (x0 : Int) : bodyK (cx_small N) Tryd.f118 [.v (.int .i64 x0) .no] [] r_small = s_small N x0 := by
  kernel_rfl
theorem go_small : Goes Tryd.prog 118 := goes_of Tryd.func118 (by kernel_rfl) (c := bodyOf Tryd.f118) (by kernel_rfl)
theorem eo_small (s : Int → Option (List UInt8)) (hs : ∀ (x0 : Int) (r0 : List UInt8), s x0 = some r0 → PureRet Tryd.prog T 118 [.v (.int .i64 x0) .no] [.v (.str r0) .no]) : EntOK Tryd.prog T ⟨118, e_small s⟩ := by
  refine ⟨go_small, fun R ds K r h => ?_, fun R ds K => ?_⟩
  · simp only [e_small] at h
    split at h
    · obtain ⟨r0, h1, h2⟩ := bnd1_some h
      exact ⟨_, h2, hs _ _ h1⟩
    · cases h
  · simp only [e_small]
    split
    · rw [bnd1_b]; rfl
    · rfl
theorem co_small (N : Nat) : CxOK Tryd.prog (cx_small N) :=
  cxOK_of2 (es := []) (me := []) (ms := []) T_ok trivial trivial trivial rfl (fun _ _ _ _ => rfl) (fun _ _ _ _ _ _ => rfl) rfl
theorem lo_small (N : Nat) : LoopsOK (cx_small N) Tryd.f118.ntmps (bodyOf Tryd.f118) :=
  loopsOK_of (k := 0) (by kernel_rfl) trivial
theorem p_small (N : Nat) (x0 : Int) (r0 : List UInt8) (h : s_small N x0 = some r0) : PureRet Tryd.prog T 118 [.v (.int .i64 x0) .no] [.v (.str r0) .no] :=
  pure_of (cx := cx_small N) (by kernel_rfl) (co_small N) Tryd.func118 (by kernel_rfl) (by kernel_rfl) (lo_small N) rfl rfl rfl (rf := r_small) ((s_small_ok N x0).trans h) (fun rs' m h => by
    unfold r_small at h
    split at h
    · cases h; exact ⟨rfl, rfl⟩
    · cases h)
noncomputable def e_FormatInt {R : Type} (s : Int → Int → Option (List UInt8)) (ds : List D) (K : List D → Option R) : Option R :=
  match ds with
  | [.v (.int .i64 x0) .no, .v (.int .i64 x1) .no] => bnd1 (s x0 x1) fun r0 => K [.v (.str r0) .no]
  | _ => none
noncomputable def r_FormatInt (rs : List D) (_ : Mem) : Option (List UInt8) :=
  match rs with
  | [.v (.str r0) _] => some (r0)
  | _ => none
noncomputable def s_FormatInt (N : Nat) (x0 : Int) (x1 : Int) : Option (List UInt8) :=
  br (decide (x1 = 10)) (br (decide (0 ≤ x0)) (br (decide (x0 < 100)) (bnd1 (s_small N x0) fun l0 => some l0) (br (decide (x0 < 0)) none none)) (br (decide (x0 < 0)) none none)) none
noncomputable def cx_FormatInt (N : Nat) : Cx := { T := T, isPure := tabP [⟨118, e_small (s_small N)⟩], pureK := fun g ds K => tabK [⟨118, e_small (s_small N)⟩] g ds K, memK := fun g dst ds m K => tabMK [] g dst ds m K, meth := tabM [], keep := fun _ => [], keepX := fun _ => [], loopT := fun _ _ _ _ => none, jumps := 9 }
theorem s_FormatInt_ok (N : Nat) (x0 : Int) (x1 : Int) : bodyK (cx_FormatInt N) Tryd.f115 [.v (.int .i64 x0) .no, .v (.int .i64 x1) .no] [] r_FormatInt = s_FormatInt N x0 x1 := by
  kernel_rfl
theorem go_FormatInt : Goes Tryd.prog 115 := goes_of Tryd.func115 (by kernel_rfl) (c := bodyOf Tryd.f115) (by kernel_rfl)
theorem eo_FormatInt (s : Int → Int → Option (List UInt8)) (hs : ∀ (x0 : Int) (x1 : Int) (r0 : List UInt8), s x0 x1 = some r0 → PureRet Tryd.prog T 115 [.v (.int .i64 x0) .no, .v (.int .i64 x1) .no] [.v (.str r0) .no]) : EntOK Tryd.prog T ⟨115, e_FormatInt s⟩ := by
  refine ⟨go_FormatInt, fun R ds K r h => ?_, fun R ds K => ?_⟩
  · simp only [e_FormatInt] at h
    split at h
    · obtain ⟨r0, h1, h2⟩ := bnd1_some h
      exact ⟨_, h2, hs _ _ _ h1⟩
    · cases h
  · simp only [e_FormatInt]
    split
    · rw [bnd1_b]; rfl
    · rfl
theorem co_FormatInt (N : Nat) : CxOK Tryd.prog (cx_FormatInt N) :=
  cxOK_of2 (es := [⟨118, e_small (s_small N)⟩]) (me := []) (ms := []) T_ok ⟨eo_small _ (p_small N), trivial⟩ trivial trivial rfl (fun _ _ _ _ => rfl) (fun _ _ _ _ _ _ => rfl) rfl
theorem lo_FormatInt (N : Nat) : LoopsOK (cx_FormatInt N) Tryd.f115.ntmps (bodyOf Tryd.f115) :=
  loopsOK_of (k := 0) (by kernel_rfl) trivial
theorem p_FormatInt (N : Nat) (x0 : Int) (x1 : Int) (r0 : List UInt8) (h : s_FormatInt N x0 x1 = some r0) : PureRet Tryd.prog T 115 [.v (.int .i64 x0) .no, .v (.int .i64 x1) .no] [.v (.str r0) .no] :=
  pure_of (cx := cx_FormatInt N) (by kernel_rfl) (co_FormatInt N) Tryd.func115 (by kernel_rfl) (by kernel_rfl) (lo_FormatInt N) rfl rfl rfl (rf := r_FormatInt) ((s_FormatInt_ok N x0 x1).trans h) (fun rs' m h => by
    unfold r_FormatInt at h
    split at h
    · cases h; exact ⟨rfl, rfl⟩
    · cases h)
noncomputable def e_iItoa {R : Type} (s : Int → Option (List UInt8)) (ds : List D) (K : List D → Option R) : Option R :=
  match ds with
  | [.v (.int .i64 x0) .no] => bnd1 (s x0) fun r0 => K [.v (.str r0) .no]
  | _ => none
noncomputable def r_iItoa (rs : List D) (_ : Mem) : Option (List UInt8) :=
  match rs with
  | [.v (.str r0) _] => some (r0)
  | _ => none
noncomputable def s_iItoa (N : Nat) (x0 : Int) : Option (List UInt8) :=
  bnd1 (s_FormatInt N x0 10) fun l0 => some l0
noncomputable def cx_iItoa (N : Nat) : Cx := { T := T, isPure := tabP [⟨115, e_FormatInt (s_FormatInt N)⟩], pureK := fun g ds K => tabK [⟨115, e_FormatInt (s_FormatInt N)⟩] g ds K, memK := fun g dst ds m K => tabMK [] g dst ds m K, meth := tabM [], keep := fun _ => [], keepX := fun _ => [], loopT := fun _ _ _ _ => none, jumps := 9 }
theorem s_iItoa_ok (N : Nat) (x0 : Int) : bodyK (cx_iItoa N) Tryd.f102 [.v (.int .i64 x0) .no] [] r_iItoa = s_iItoa N x0 := by
  kernel_rfl
theorem go_iItoa : Goes Tryd.prog 102 := goes_of Tryd.func102 (by kernel_rfl) (c := bodyOf Tryd.f102) (by kernel_rfl)
theorem eo_iItoa (s : Int → Option (List UInt8)) (hs : ∀ (x0 : Int) (r0 : List UInt8), s x0 = some r0 → PureRet Tryd.prog T 102 [.v (.int .i64 x0) .no] [.v (.str r0) .no]) : EntOK Tryd.prog T ⟨102, e_iItoa s⟩ := by
  refine ⟨go_iItoa, fun R ds K r h => ?_, fun R ds K => ?_⟩
  · simp only [e_iItoa] at h
    split at h
    · obtain ⟨r0, h1, h2⟩ := bnd1_some h
      exact ⟨_, h2, hs _ _ h1⟩
    · cases h
  · simp only [e_iItoa]
    split
    · rw [bnd1_b]; rfl
    · rfl
theorem co_iItoa (N : Nat) : CxOK Tryd.prog (cx_iItoa N) :=
  cxOK_of2 (es := [⟨115, e_FormatInt (s_FormatInt N)⟩]) (me := []) (ms := []) T_ok ⟨eo_FormatInt _ (p_FormatInt N), trivial⟩ trivial trivial rfl (fun _ _ _ _ => rfl) (fun _ _ _ _ _ _ => rfl) rfl
theorem lo_iItoa (N : Nat) : LoopsOK (cx_iItoa N) Tryd.f102.ntmps (bodyOf Tryd.f102) :=
  loopsOK_of (k := 0) (by kernel_rfl) trivial
theorem p_iItoa (N : Nat) (x0 : Int) (r0 : List UInt8) (h : s_iItoa N x0 = some r0) : PureRet Tryd.prog T 102 [.v (.int .i64 x0) .no] [.v (.str r0) .no] :=
  pure_of (cx := cx_iItoa N) (by kernel_rfl) (co_iItoa N) Tryd.func102 (by kernel_rfl) (by kernel_rfl) (lo_iItoa N) rfl rfl rfl (rf := r_iItoa) ((s_iItoa_ok N x0).trans h) (fun rs' m h => by
    unfold r_iItoa at h
    split at h
    · cases h; exact ⟨rfl, rfl⟩
    · cases h)
noncomputable def e_Itoa {R : Type} (s : Int → Option (List UInt8)) (ds : List D) (K : List D → Option R) : Option R :=
  match ds with
  | [.v (.int .i64 x0) .no] => bnd1 (s x0) fun r0 => K [.v (.str r0) .no]
  | _ => none
noncomputable def r_Itoa (rs : List D) (_ : Mem) : Option (List UInt8) :=
  match rs with
  | [.v (.str r0) _] => some (r0)
  | _ => none
noncomputable def s_Itoa (N : Nat) (x0 : Int) : Option (List UInt8) :=
  bnd1 (s_iItoa N x0) fun l0 => some l0
noncomputable def cx_Itoa (N : Nat) : Cx := { T := T, isPure := tabP [⟨102, e_iItoa (s_iItoa N)⟩], pureK := fun g ds K => tabK [⟨102, e_iItoa (s_iItoa N)⟩] g ds K, memK := fun g dst ds m K => tabMK [] g dst ds m K, meth := tabM [], keep := fun _ => [], keepX := fun _ => [], loopT := fun _ _ _ _ => none, jumps := 9 }
theorem s_Itoa_ok (N : Nat) (x0 : Int) : bodyK (cx_Itoa N) Tryd.f82 [.v (.int .i64 x0) .no] [] r_Itoa = s_Itoa N x0 := by
  kernel_rfl
theorem go_Itoa : Goes Tryd.prog 82 := goes_of Tryd.func82 (by kernel_rfl) (c := bodyOf Tryd.f82) (by kernel_rfl)
theorem eo_Itoa (s : Int → Option (List UInt8)) (hs : ∀ (x0 : Int) (r0 : List UInt8), s x0 = some r0 → PureRet Tryd.prog T 82 [.v (.int .i64 x0) .no] [.v (.str r0) .no]) : EntOK Tryd.prog T ⟨82, e_Itoa s⟩ := by
  refine ⟨go_Itoa, fun R ds K r h => ?_, fun R ds K => ?_⟩
  · simp only [e_Itoa] at h
    split at h
    · obtain ⟨r0, h1, h2⟩ := bnd1_some h
      exact ⟨_, h2, hs _ _ h1⟩
    · cases h
  · simp only [e_Itoa]
    split
    · rw [bnd1_b]; rfl
    · rfl
theorem co_Itoa (N : Nat) : CxOK Tryd.prog (cx_Itoa N) :=
  cxOK_of2 (es := [⟨102, e_iItoa (s_iItoa N)⟩]) (me := []) (ms := []) T_ok ⟨eo_iItoa _ (p_iItoa N), trivial⟩ trivial trivial rfl (fun _ _ _ _ => rfl) (fun _ _ _ _ _ _ => rfl) rfl
theorem lo_Itoa (N : Nat) : LoopsOK (cx_Itoa N) Tryd.f82.ntmps (bodyOf Tryd.f82) :=
  loopsOK_of (k := 0) (by kernel_rfl) trivial
theorem p_Itoa (N : Nat) (x0 : Int) (r0 : List UInt8) (h : s_Itoa N x0 = some r0) : PureRet Tryd.prog T 82 [.v (.int .i64 x0) .no] [.v (.str r0) .no] :=
  pure_of (cx := cx_Itoa N) (by kernel_rfl) (co_Itoa N) Tryd.func82 (by kernel_rfl) (by kernel_rfl) (lo_Itoa N) rfl rfl rfl (rf := r_Itoa) ((s_Itoa_ok N x0).trans h) (fun rs' m h => by
    unfold r_Itoa at h
    split at h
    · cases h; exact ⟨rfl, rfl⟩
    · cases h)
noncomputable def e_Join {R : Type} (s : List V → List UInt8 → Option (List UInt8)) (ds : List D) (K : List D → Option R) : Option R :=
  match ds with
  | [.v (.sl 9 x0) .no, .v (.str x1) .no] => bnd1 (s x0 x1) fun r0 => K [.v (.str r0) .no]
  | _ => none
theorem go_Join : Goes Tryd.prog 83 := goes_of Tryd.func83 (by kernel_rfl) (c := bodyOf Tryd.f83) (by kernel_rfl)
theorem eo_Join (s : List V → List UInt8 → Option (List UInt8)) (hs : ∀ (x0 : List V) (x1 : List UInt8) (r0 : List UInt8), s x0 x1 = some r0 → PureRet Tryd.prog T 83 [.v (.sl 9 x0) .no, .v (.str x1) .no] [.v (.str r0) .no]) : EntOK Tryd.prog T ⟨83, e_Join s⟩ := by
  refine ⟨go_Join, fun R ds K r h => ?_, fun R ds K => ?_⟩
  · simp only [e_Join] at h
    split at h
    · obtain ⟨r0, h1, h2⟩ := bnd1_some h
      exact ⟨_, h2, hs _ _ _ h1⟩
    · cases h
  · simp only [e_Join]
    split
    · rw [bnd1_b]; rfl
    · rfl
noncomputable def e_atext {R : Type} (s : Int → Int → List V → Option (List UInt8)) (ds : List D) (K : List D → Option R) : Option R :=
  match ds with
  | [.agg [.v (.int .i64 x0) .no, .v (.int .i64 x1) .no, .v (.sl 24 x2) .no]] => bnd1 (s x0 x1 x2) fun r0 => K [.v (.str r0) .no]
  | _ => none
noncomputable def r_atext (rs : List D) (_ : Mem) : Option (List UInt8) :=
  match rs with
  | [.v (.str r0) _] => some (r0)
  | _ => none
noncomputable def F_atext_8 {R : Type} (N : Nat) (f : Int → Int → List V → Option (List UInt8)) (vs1 : List V) (n2 : Int) (n4 : Int) (n5 : Int) (vs6 : List V) (l7 : List UInt8) (b8 : Bool) (b9 : Bool) (n10 : Int) (n11 : Int) (Lq : List V → Int → Option R) (K0 : List V → Option R) (vs0 : List V) (n3 : Int) : Option R :=
  br (decide (n3 < n2))
  (br (decide (0 ≤ n3) && decide (n3 < (↑vs1.length : Int)))
    (at? vs1 n3.toNat fun x0 =>
      x0.unAgg fun l1 =>
        unCons l1 fun x2 l3 =>
          V.unInt IntKind.i64 x2 fun n4 =>
            unCons l3 fun x5 l6 =>
              V.unInt IntKind.i64 x5 fun n7 =>
                unCons l6 fun x8 l9 => V.unSl 24 x8 fun l10 => unNil l9 (bnd1 (f n4 n7 l10) fun l11 => br (decide ((vs0.length + [V.str l11].length) * 16 ≤ 140737488355328)) (Lq (vs0 ++ [V.str l11]) (IntKind.i64.wrap (n3 + 1))) none))
    none)
  (K0 vs0)
noncomputable def S_atext_8 {R : Type} (N : Nat) (f : Int → Int → List V → Option (List UInt8)) (vs1 : List V) (n2 : Int) (n4 : Int) (n5 : Int) (vs6 : List V) (l7 : List UInt8) (b8 : Bool) (b9 : Bool) (n10 : Int) (n11 : Int) : Nat → List V → Int → (List V → Option R) → Option R
  | 0, _, _, _ => none
  | t + 1, vs0, n3, K0 => F_atext_8 N f vs1 n2 n4 n5 vs6 l7 b8 b9 n10 n11 (fun vs0 n3 => S_atext_8 N f vs1 n2 n4 n5 vs6 l7 b8 b9 n10 n11 t vs0 n3 K0) K0 vs0 n3
noncomputable def l_atext_8 {R : Type} (N : Nat) (f : Int → Int → List V → Option (List UInt8)) (ds : List D) (m : Mem) (K : Ex → List D → Mem → Option R) : Option R :=
  match ds, m with
  | [(.ptr 0 1 0), (.ptr 0 3 0), (.v (.sl 9 vs0) (.own (.slot 4) 9)), (.v (.sl 24 vs1) .no), (.v (.int .i64 n2) .no), (.v (.int .i64 n3) .no)], [[(1, ⟨24, [(.v (.int .i64 n4) .no), (.v (.int .i64 n5) .no), (.v (.sl 24 vs6) .no)]⟩), (3, ⟨79, [(.v (.str l7) .no), (.v (.bool b8) .no), (.v (.bool b9) .no), (.v (.int .i64 n10) .no), (.v (.int .i64 n11) .no)]⟩)]] => S_atext_8 N f vs1 n2 n4 n5 vs6 l7 b8 b9 n10 n11 N vs0 n3 (fun a0 => K (.exit 1) [(.ptr 0 1 0), (.ptr 0 3 0), (.v (.sl 9 a0) (.own (.slot 4) 9))] [[(1, ⟨24, [(.v (.int .i64 n4) .no), (.v (.int .i64 n5) .no), (.v (.sl 24 vs6) .no)]⟩), (3, ⟨79, [(.v (.str l7) .no), (.v (.bool b8) .no), (.v (.bool b9) .no), (.v (.int .i64 n10) .no), (.v (.int .i64 n11) .no)]⟩)]])
  | _, _ => none
noncomputable def B_atext (N : Nat) (f : Int → Int → List V → Option (List UInt8)) (x0 : Int) (x1 : Int) (x2 : List V) : Option (List UInt8) :=
  bnd1 (s_forms N) fun x0_1 =>
  br (decide (x0 = 0)) (some ([110, 101, 118, 101, 114] : List UInt8))
    (br (decide (x0 = 1)) (some ([97, 108, 119, 97, 121, 115] : List UInt8))
      (br (decide (x0 = 2)) (bnd1 (s_Itoa N x1) fun l1 => br (decide (4 + l1.length ≤ 9223372036854775807)) (some (112 :: 105 :: 110 :: 32 :: [].append l1)) none)
        (br (decide (x0 = 3)) (bnd1 (s_Itoa N x1) fun l2 => br (decide (4 + l2.length ≤ 9223372036854775807)) (some (107 :: 101 :: 121 :: 32 :: [].append l2)) none)
          (br (decide (x0 = 4)) (bnd1 (s_Itoa N x1) fun l3 => br (decide (6 + l3.length ≤ 9223372036854775807)) (some (115 :: 116 :: 97 :: 116 :: 101 :: 32 :: [].append l3)) none)
            (br (decide (x0 = 5)) (bnd1 (s_Itoa N x1) fun l4 => br (decide (6 + l4.length ≤ 9223372036854775807)) (some (108 :: 101 :: 118 :: 101 :: 108 :: 32 :: [].append l4)) none)
              (br (decide (x0 = 6))
                (S_atext_8 N f x2 (↑x2.length : Int) x0 x1 x2 ([97, 110, 100] : List UInt8) false true 0 0 N [] 0 fun l5 =>
                  bnd1 (s_Join N l5 ([44, 32] : List UInt8)) fun l6 =>
                    br (decide (4 + l6.length ≤ 9223372036854775807)) (br (decide ((97 :: 110 :: 100 :: 40 :: [].append l6).length + 1 ≤ 9223372036854775807)) (some (97 :: 110 :: 100 :: 40 :: ([].append l6).append ([41] : List UInt8))) none) none)
                (br (decide (x0 = 7))
                  (S_atext_8 N f x2 (↑x2.length : Int) x0 x1 x2 ([111, 114] : List UInt8) false true 0 0 N [] 0 fun l7 =>
                    bnd1 (s_Join N l7 ([44, 32] : List UInt8)) fun l8 =>
                      br (decide (3 + l8.length ≤ 9223372036854775807)) (br (decide ((111 :: 114 :: 40 :: [].append l8).length + 1 ≤ 9223372036854775807)) (some (111 :: 114 :: 40 :: ([].append l8).append ([41] : List UInt8))) none) none)
                  none)))))))
noncomputable def s_atext (N : Nat) : Nat → Int → Int → List V → Option (List UInt8)
  | 0, _, _, _ => none
  | n + 1, x0, x1, x2 => B_atext N (s_atext N n) x0 x1 x2
noncomputable def cx_atext (N : Nat) (f : Int → Int → List V → Option (List UInt8)) : Cx := { T := T, isPure := tabP [⟨55, e_atext f⟩, ⟨67, e_forms (s_forms N)⟩, ⟨82, e_Itoa (s_Itoa N)⟩, ⟨83, e_Join (s_Join N)⟩], pureK := fun g ds K => tabK [⟨55, e_atext f⟩, ⟨67, e_forms (s_forms N)⟩, ⟨82, e_Itoa (s_Itoa N)⟩, ⟨83, e_Join (s_Join N)⟩] g ds K, memK := fun g dst ds m K => tabMK [] g dst ds m K, meth := tabM [], keep := fun r => match r with | 8 => [1, 3, 4, 28, 29, 30] | _ => [], keepX := fun r => match r with | 8 => [1, 3, 4] | _ => [], loopT := fun r ds m K => match r with | 8 => l_atext_8 N f ds m K | _ => none, jumps := 9 }
theorem F_atext_8_ok {R : Type} (N : Nat) (f : Int → Int → List V → Option (List UInt8)) (vs1 : List V) (n2 : Int) (n4 : Int) (n5 : Int) (vs6 : List V) (l7 : List UInt8) (b8 : Bool) (b9 : Bool) (n10 : Int) (n11 : Int) (vs0 : List V) (n3 : Int) (L : List D → Mem → Option R) (K : Ex → List D → Mem → Option R) :
    roundK (fun st K => codeK (cx_atext N f) (loopN Tryd.f55 0) st K) 47 [1, 3, 4, 28, 29, 30] [1, 3, 4] L [(.ptr 0 1 0), (.ptr 0 3 0), (.v (.sl 9 vs0) (.own (.slot 4) 9)), (.v (.sl 24 vs1) .no), (.v (.int .i64 n2) .no), (.v (.int .i64 n3) .no)] [[(1, ⟨24, [(.v (.int .i64 n4) .no), (.v (.int .i64 n5) .no), (.v (.sl 24 vs6) .no)]⟩), (3, ⟨79, [(.v (.str l7) .no), (.v (.bool b8) .no), (.v (.bool b9) .no), (.v (.int .i64 n10) .no), (.v (.int .i64 n11) .no)]⟩)]] K = F_atext_8 N f vs1 n2 n4 n5 vs6 l7 b8 b9 n10 n11 (fun vs0 n3 => L [(.ptr 0 1 0), (.ptr 0 3 0), (.v (.sl 9 vs0) (.own (.slot 4) 9)), (.v (.sl 24 vs1) .no), (.v (.int .i64 n2) .no), (.v (.int .i64 n3) .no)] [[(1, ⟨24, [(.v (.int .i64 n4) .no), (.v (.int .i64 n5) .no), (.v (.sl 24 vs6) .no)]⟩), (3, ⟨79, [(.v (.str l7) .no), (.v (.bool b8) .no), (.v (.bool b9) .no), (.v (.int .i64 n10) .no), (.v (.int .i64 n11) .no)]⟩)]]) (fun a0 => K (.exit 1) [(.ptr 0 1 0), (.ptr 0 3 0), (.v (.sl 9 a0) (.own (.slot 4) 9))] [[(1, ⟨24, [(.v (.int .i64 n4) .no), (.v (.int .i64 n5) .no), (.v (.sl 24 vs6) .no)]⟩), (3, ⟨79, [(.v (.str l7) .no), (.v (.bool b8) .no), (.v (.bool b9) .no), (.v (.int .i64 n10) .no), (.v (.int .i64 n11) .no)]⟩)]]) vs0 n3 := by
  kernel_rfl
theorem S_atext_8_ok {R : Type} (N : Nat) (f : Int → Int → List V → Option (List UInt8)) (vs1 : List V) (n2 : Int) (n4 : Int) (n5 : Int) (vs6 : List V) (l7 : List UInt8) (b8 : Bool) (b9 : Bool) (n10 : Int) (n11 : Int) (K : Ex → List D → Mem → Option R) : ∀ (t : Nat) (vs0 : List V) (n3 : Int),
    loopK (fun st K => codeK (cx_atext N f) (loopN Tryd.f55 0) st K) 47 [1, 3, 4, 28, 29, 30] [1, 3, 4] t [(.ptr 0 1 0), (.ptr 0 3 0), (.v (.sl 9 vs0) (.own (.slot 4) 9)), (.v (.sl 24 vs1) .no), (.v (.int .i64 n2) .no), (.v (.int .i64 n3) .no)] [[(1, ⟨24, [(.v (.int .i64 n4) .no), (.v (.int .i64 n5) .no), (.v (.sl 24 vs6) .no)]⟩), (3, ⟨79, [(.v (.str l7) .no), (.v (.bool b8) .no), (.v (.bool b9) .no), (.v (.int .i64 n10) .no), (.v (.int .i64 n11) .no)]⟩)]] K = S_atext_8 N f vs1 n2 n4 n5 vs6 l7 b8 b9 n10 n11 t vs0 n3 (fun a0 => K (.exit 1) [(.ptr 0 1 0), (.ptr 0 3 0), (.v (.sl 9 a0) (.own (.slot 4) 9))] [[(1, ⟨24, [(.v (.int .i64 n4) .no), (.v (.int .i64 n5) .no), (.v (.sl 24 vs6) .no)]⟩), (3, ⟨79, [(.v (.str l7) .no), (.v (.bool b8) .no), (.v (.bool b9) .no), (.v (.int .i64 n10) .no), (.v (.int .i64 n11) .no)]⟩)]])
  | 0, vs0, n3 => rfl
  | t + 1, vs0, n3 => (F_atext_8_ok N f vs1 n2 n4 n5 vs6 l7 b8 b9 n10 n11 vs0 n3 _ K).trans (congrArg (fun L => F_atext_8 N f vs1 n2 n4 n5 vs6 l7 b8 b9 n10 n11 L (fun a0 => K (.exit 1) [(.ptr 0 1 0), (.ptr 0 3 0), (.v (.sl 9 a0) (.own (.slot 4) 9))] [[(1, ⟨24, [(.v (.int .i64 n4) .no), (.v (.int .i64 n5) .no), (.v (.sl 24 vs6) .no)]⟩), (3, ⟨79, [(.v (.str l7) .no), (.v (.bool b8) .no), (.v (.bool b9) .no), (.v (.int .i64 n10) .no), (.v (.int .i64 n11) .no)]⟩)]]) vs0 n3) (funext fun vs0 => funext fun n3 => S_atext_8_ok N f vs1 n2 n4 n5 vs6 l7 b8 b9 n10 n11 K t vs0 n3))
theorem B_atext_ok (N : Nat) (f : Int → Int → List V → Option (List UInt8)) (x0 : Int) (x1 : Int) (x2 : List V) : bodyK (cx_atext N f) Tryd.f55 [.agg [.v (.int .i64 x0) .no, .v (.int .i64 x1) .no, .v (.sl 24 x2) .no]] [] r_atext = B_atext N f x0 x1 x2 := by
  kernel_rfl
theorem go_atext : Goes Tryd.prog 55 := goes_of Tryd.func55 (by kernel_rfl) (c := bodyOf Tryd.f55) (by kernel_rfl)
theorem eo_atext (s : Int → Int → List V → Option (List UInt8)) (hs : ∀ (x0 : Int) (x1 : Int) (x2 : List V) (r0 : List UInt8), s x0 x1 x2 = some r0 → PureRet Tryd.prog T 55 [.agg [.v (.int .i64 x0) .no, .v (.int .i64 x1) .no, .v (.sl 24 x2) .no]] [.v (.str r0) .no]) : EntOK Tryd.prog T ⟨55, e_atext s⟩ := by
  refine ⟨go_atext, fun R ds K r h => ?_, fun R ds K => ?_⟩
  · simp only [e_atext] at h
    split at h
    · obtain ⟨r0, h1, h2⟩ := bnd1_some h
      exact ⟨_, h2, hs _ _ _ _ h1⟩
    · cases h
  · simp only [e_atext]
    split
    · rw [bnd1_b]; rfl
    · rfl
theorem co_atext (N : Nat) (f : Int → Int → List V → Option (List UInt8)) (hf : ∀ (x0 : Int) (x1 : Int) (x2 : List V) (r0 : List UInt8), f x0 x1 x2 = some r0 → PureRet Tryd.prog T 55 [.agg [.v (.int .i64 x0) .no, .v (.int .i64 x1) .no, .v (.sl 24 x2) .no]] [.v (.str r0) .no]) : CxOK Tryd.prog (cx_atext N f) :=
  cxOK_of2 (es := [⟨55, e_atext f⟩, ⟨67, e_forms (s_forms N)⟩, ⟨82, e_Itoa (s_Itoa N)⟩, ⟨83, e_Join (s_Join N)⟩]) (me := []) (ms := []) T_ok ⟨eo_atext f hf, eo_forms _ (p_forms N), eo_Itoa _ (p_Itoa N), eo_Join _ (p_Join N), trivial⟩ trivial trivial rfl (fun _ _ _ _ => rfl) (fun _ _ _ _ _ _ => rfl) rfl
theorem lk_atext_8 (N : Nat) (f : Int → Int → List V → Option (List UInt8)) : LoopOK (cx_atext N f) 47 (loopN Tryd.f55 0) := by
  refine loopOK_of (rid := 8) (by kernel_rfl) rfl rfl fun R ds m K r h => ?_
  have h : l_atext_8 N f ds m K = some r := h
  unfold l_atext_8 at h
  split at h
  · exact ⟨N, Eq.trans (S_atext_8_ok ..) h⟩
  · cases h
theorem lo_atext (N : Nat) (f : Int → Int → List V → Option (List UInt8)) : LoopsOK (cx_atext N f) Tryd.f55.ntmps (bodyOf Tryd.f55) :=
  loopsOK_of (k := 1) (by kernel_rfl) ⟨trivial, lk_atext_8 N f⟩
theorem p_atext (N : Nat) : ∀ (M : Nat) (x0 : Int) (x1 : Int) (x2 : List V) (r0 : List UInt8), s_atext N M x0 x1 x2 = some r0 → PureRet Tryd.prog T 55 [.agg [.v (.int .i64 x0) .no, .v (.int .i64 x1) .no, .v (.sl 24 x2) .no]] [.v (.str r0) .no]
  | 0, _, _, _, _, h => by cases h
  | M + 1, x0, x1, x2, r0, h => pure_of (cx := cx_atext N (s_atext N M)) (by kernel_rfl) (co_atext N (s_atext N M) (p_atext N M)) Tryd.func55 (by kernel_rfl) (by kernel_rfl) (lo_atext N (s_atext N M)) rfl rfl rfl (rf := r_atext) ((B_atext_ok N (s_atext N M) x0 x1 x2).trans h) (fun rs' m h => by
    unfold r_atext at h
    split at h
    · cases h; exact ⟨rfl, rfl⟩
    · cases h)
noncomputable def e_aText {R : Type} (s : Int → Int → List V → Option (List UInt8)) (ds : List D) (K : List D → Option R) : Option R :=
  match ds with
  | [.agg [.v (.int .i64 x0) .no, .v (.int .i64 x1) .no, .v (.sl 24 x2) .no]] => bnd1 (s x0 x1 x2) fun r0 => K [.v (.str r0) .no]
  | _ => none
noncomputable def r_aText (rs : List D) (_ : Mem) : Option (List UInt8) :=
  match rs with
  | [.v (.str r0) _] => some (r0)
  | _ => none
noncomputable def s_aText (N : Nat) (x0 : Int) (x1 : Int) (x2 : List V) : Option (List UInt8) :=
  bnd1 (s_aCheck N x0 x1 x2) fun n0 => br (!decide (n0 = 0)) (some []) (bnd1 (s_atext N N x0 x1 x2) fun l1 => some l1)
noncomputable def cx_aText (N : Nat) : Cx := { T := T, isPure := tabP [⟨17, e_aCheck (s_aCheck N)⟩, ⟨55, e_atext (s_atext N N)⟩], pureK := fun g ds K => tabK [⟨17, e_aCheck (s_aCheck N)⟩, ⟨55, e_atext (s_atext N N)⟩] g ds K, memK := fun g dst ds m K => tabMK [] g dst ds m K, meth := tabM [], keep := fun _ => [], keepX := fun _ => [], loopT := fun _ _ _ _ => none, jumps := 9 }
theorem s_aText_ok (N : Nat) (x0 : Int) (x1 : Int) (x2 : List V) : bodyK (cx_aText N) Tryd.f27 [.agg [.v (.int .i64 x0) .no, .v (.int .i64 x1) .no, .v (.sl 24 x2) .no]] [] r_aText = s_aText N x0 x1 x2 := by
  kernel_rfl
theorem go_aText : Goes Tryd.prog 27 := goes_of Tryd.func27 (by kernel_rfl) (c := bodyOf Tryd.f27) (by kernel_rfl)
theorem eo_aText (s : Int → Int → List V → Option (List UInt8)) (hs : ∀ (x0 : Int) (x1 : Int) (x2 : List V) (r0 : List UInt8), s x0 x1 x2 = some r0 → PureRet Tryd.prog T 27 [.agg [.v (.int .i64 x0) .no, .v (.int .i64 x1) .no, .v (.sl 24 x2) .no]] [.v (.str r0) .no]) : EntOK Tryd.prog T ⟨27, e_aText s⟩ := by
  refine ⟨go_aText, fun R ds K r h => ?_, fun R ds K => ?_⟩
  · simp only [e_aText] at h
    split at h
    · obtain ⟨r0, h1, h2⟩ := bnd1_some h
      exact ⟨_, h2, hs _ _ _ _ h1⟩
    · cases h
  · simp only [e_aText]
    split
    · rw [bnd1_b]; rfl
    · rfl
theorem co_aText (N : Nat) : CxOK Tryd.prog (cx_aText N) :=
  cxOK_of2 (es := [⟨17, e_aCheck (s_aCheck N)⟩, ⟨55, e_atext (s_atext N N)⟩]) (me := []) (ms := []) T_ok ⟨eo_aCheck _ (p_aCheck N), eo_atext _ (p_atext N N), trivial⟩ trivial trivial rfl (fun _ _ _ _ => rfl) (fun _ _ _ _ _ _ => rfl) rfl
theorem lo_aText (N : Nat) : LoopsOK (cx_aText N) Tryd.f27.ntmps (bodyOf Tryd.f27) :=
  loopsOK_of (k := 0) (by kernel_rfl) trivial
theorem p_aText (N : Nat) (x0 : Int) (x1 : Int) (x2 : List V) (r0 : List UInt8) (h : s_aText N x0 x1 x2 = some r0) : PureRet Tryd.prog T 27 [.agg [.v (.int .i64 x0) .no, .v (.int .i64 x1) .no, .v (.sl 24 x2) .no]] [.v (.str r0) .no] :=
  pure_of (cx := cx_aText N) (by kernel_rfl) (co_aText N) Tryd.func27 (by kernel_rfl) (by kernel_rfl) (lo_aText N) rfl rfl rfl (rf := r_aText) ((s_aText_ok N x0 x1 x2).trans h) (fun rs' m h => by
    unfold r_aText at h
    split at h
    · cases h; exact ⟨rfl, rfl⟩
    · cases h)
noncomputable def e_works {R : Type} (s : Option (Bool)) (ds : List D) (K : List D → Option R) : Option R :=
  match ds with
  | [] => bnd1 (s) fun r0 => K [.v (.bool r0) .no]
  | _ => none
noncomputable def r_works (rs : List D) (_ : Mem) : Option (Bool) :=
  match rs with
  | [.v (.bool r0) _] => some (r0)
  | _ => none
noncomputable def s_works (N : Nat)  : Option (Bool) :=
  bnd2
  (s_aEncode N
    [V.agg
        [V.int IntKind.i64 3, V.int IntKind.i64 6, V.int IntKind.i64 0,
          V.sl 24
            [V.agg [V.int IntKind.i64 2, V.int IntKind.i64 1, V.sl 24 []],
              V.agg [V.int IntKind.i64 7, V.int IntKind.i64 0, V.sl 24 [V.agg [V.int IntKind.i64 3, V.int IntKind.i64 2, V.sl 24 []], V.agg [V.int IntKind.i64 4, V.int IntKind.i64 3, V.sl 24 []]]]]]])
  fun l0 n1 =>
  bnd1
    (s_aHolds N 6 0
      [V.agg [V.int IntKind.i64 2, V.int IntKind.i64 1, V.sl 24 []],
        V.agg [V.int IntKind.i64 7, V.int IntKind.i64 0, V.sl 24 [V.agg [V.int IntKind.i64 3, V.int IntKind.i64 2, V.sl 24 []], V.agg [V.int IntKind.i64 4, V.int IntKind.i64 3, V.sl 24 []]]]]
      2 4 0 0)
    fun b2 =>
    br b2
      (bnd1
        (s_aHolds N 6 0
          [V.agg [V.int IntKind.i64 2, V.int IntKind.i64 1, V.sl 24 []],
            V.agg [V.int IntKind.i64 7, V.int IntKind.i64 0, V.sl 24 [V.agg [V.int IntKind.i64 3, V.int IntKind.i64 2, V.sl 24 []], V.agg [V.int IntKind.i64 4, V.int IntKind.i64 3, V.sl 24 []]]]]
          2 0 4 0)
        fun b3 =>
        br b3
          (bnd1
            (s_aHolds N 6 0
              [V.agg [V.int IntKind.i64 2, V.int IntKind.i64 1, V.sl 24 []],
                V.agg [V.int IntKind.i64 7, V.int IntKind.i64 0, V.sl 24 [V.agg [V.int IntKind.i64 3, V.int IntKind.i64 2, V.sl 24 []], V.agg [V.int IntKind.i64 4, V.int IntKind.i64 3, V.sl 24 []]]]]
              1 0 0 0)
            fun b4 =>
            br (!b4)
              (br (decide (n1 = 0))
                (br (decide (l0.length ≤ 9223372036854775807))
                  (br (decide (l0 = ([128, 11, 3, 6, 2, 2, 1, 7, 2, 3, 2, 4, 3] : List UInt8)))
                    (bnd1
                      (s_aText N 6 0
                        [V.agg [V.int IntKind.i64 2, V.int IntKind.i64 1, V.sl 24 []],
                          V.agg [V.int IntKind.i64 7, V.int IntKind.i64 0, V.sl 24 [V.agg [V.int IntKind.i64 3, V.int IntKind.i64 2, V.sl 24 []], V.agg [V.int IntKind.i64 4, V.int IntKind.i64 3, V.sl 24 []]]]])
                      fun l5 =>
                      br (decide (l5 = ([97, 110, 100, 40, 112, 105, 110, 32, 49, 44, 32, 111, 114, 40, 107, 101, 121, 32, 50, 44, 32, 115, 116, 97, 116, 101, 32, 51, 41, 41] : List UInt8)))
                        (bnd1 (s_Implies N 4 3 [] 4 2 []) fun b6 => br b6 (bnd1 (s_Implies N 2 1 [] 3 2 []) fun b7 => some !b7) (some false)) (some false))
                    (some false))
                  none)
                (some false))
              (some false))
          (some false))
      (some false)
noncomputable def cx_works (N : Nat) : Cx := { T := T, isPure := tabP [⟨25, e_aEncode (s_aEncode N)⟩, ⟨19, e_aHolds (s_aHolds N)⟩, ⟨27, e_aText (s_aText N)⟩, ⟨22, e_Implies (s_Implies N)⟩], pureK := fun g ds K => tabK [⟨25, e_aEncode (s_aEncode N)⟩, ⟨19, e_aHolds (s_aHolds N)⟩, ⟨27, e_aText (s_aText N)⟩, ⟨22, e_Implies (s_Implies N)⟩] g ds K, memK := fun g dst ds m K => tabMK [] g dst ds m K, meth := tabM [], keep := fun _ => [], keepX := fun _ => [], loopT := fun _ _ _ _ => none, jumps := 9 }
theorem s_works_ok (N : Nat)  : bodyK (cx_works N) Tryd.f16 [] [] r_works = s_works N  := by
  kernel_rfl
theorem go_works : Goes Tryd.prog 16 := goes_of Tryd.func16 (by kernel_rfl) (c := bodyOf Tryd.f16) (by kernel_rfl)
theorem eo_works (s : Option (Bool)) (hs : ∀  (r0 : Bool), s  = some r0 → PureRet Tryd.prog T 16 [] [.v (.bool r0) .no]) : EntOK Tryd.prog T ⟨16, e_works s⟩ := by
  refine ⟨go_works, fun R ds K r h => ?_, fun R ds K => ?_⟩
  · simp only [e_works] at h
    split at h
    · obtain ⟨r0, h1, h2⟩ := bnd1_some h
      exact ⟨_, h2, hs _ h1⟩
    · cases h
  · simp only [e_works]
    split
    · rw [bnd1_b]; rfl
    · rfl
theorem co_works (N : Nat) : CxOK Tryd.prog (cx_works N) :=
  cxOK_of2 (es := [⟨25, e_aEncode (s_aEncode N)⟩, ⟨19, e_aHolds (s_aHolds N)⟩, ⟨27, e_aText (s_aText N)⟩, ⟨22, e_Implies (s_Implies N)⟩]) (me := []) (ms := []) T_ok ⟨eo_aEncode _ (p_aEncode N), eo_aHolds _ (p_aHolds N), eo_aText _ (p_aText N), eo_Implies _ (p_Implies N), trivial⟩ trivial trivial rfl (fun _ _ _ _ => rfl) (fun _ _ _ _ _ _ => rfl) rfl
theorem lo_works (N : Nat) : LoopsOK (cx_works N) Tryd.f16.ntmps (bodyOf Tryd.f16) :=
  loopsOK_of (k := 0) (by kernel_rfl) trivial
theorem p_works (N : Nat)  (r0 : Bool) (h : s_works N  = some r0) : PureRet Tryd.prog T 16 [] [.v (.bool r0) .no] :=
  pure_of (cx := cx_works N) (by kernel_rfl) (co_works N) Tryd.func16 (by kernel_rfl) (by kernel_rfl) (lo_works N) rfl rfl rfl (rf := r_works) ((s_works_ok N ).trans h) (fun rs' m h => by
    unfold r_works at h
    split at h
    · cases h; exact ⟨rfl, rfl⟩
    · cases h)
noncomputable def r_wChecks (rs : List D) (_ : Mem) : Option (Bool) :=
  match rs with
  | [.v (.bool r0) _] => some (r0)
  | _ => none
noncomputable def s_wChecks (N : Nat) (x0 : Int) (x1 : Int) (x2 : List V) : Option (Bool) :=
  bnd1 (s_lfew N [V.agg [V.int IntKind.i64 x0, V.int IntKind.i64 x1, V.sl 24 x2]]) fun b0 =>
  br (!b0) (bnd1 (s_works N) fun b1 => some b1) (bnd1 (s_aCheck N x0 x1 x2) fun n2 => bnd1 (s_qCheck N x0 x1 x2) fun n3 => br (decide (n2 = n3)) (bnd1 (s_works N) fun b4 => some b4) (some false))
noncomputable def cx_wChecks (N : Nat) : Cx := { T := T, isPure := tabP [⟨15, e_lfew (s_lfew N)⟩, ⟨16, e_works (s_works N)⟩, ⟨17, e_aCheck (s_aCheck N)⟩, ⟨18, e_qCheck (s_qCheck N)⟩], pureK := fun g ds K => tabK [⟨15, e_lfew (s_lfew N)⟩, ⟨16, e_works (s_works N)⟩, ⟨17, e_aCheck (s_aCheck N)⟩, ⟨18, e_qCheck (s_qCheck N)⟩] g ds K, memK := fun g dst ds m K => tabMK [] g dst ds m K, meth := tabM [], keep := fun _ => [], keepX := fun _ => [], loopT := fun _ _ _ _ => none, jumps := 9 }
theorem s_wChecks_ok (N : Nat) (x0 : Int) (x1 : Int) (x2 : List V) : bodyK (cx_wChecks N) Tryd.f3 [.agg [.v (.int .i64 x0) .no, .v (.int .i64 x1) .no, .v (.sl 24 x2) .no]] [] r_wChecks = s_wChecks N x0 x1 x2 := by
  kernel_rfl
theorem co_wChecks (N : Nat) : CxOK Tryd.prog (cx_wChecks N) :=
  cxOK_of2 (es := [⟨15, e_lfew (s_lfew N)⟩, ⟨16, e_works (s_works N)⟩, ⟨17, e_aCheck (s_aCheck N)⟩, ⟨18, e_qCheck (s_qCheck N)⟩]) (me := []) (ms := []) T_ok ⟨eo_lfew _ (p_lfew N), eo_works _ (p_works N), eo_aCheck _ (p_aCheck N), eo_qCheck _ (p_qCheck N), trivial⟩ trivial trivial rfl (fun _ _ _ _ => rfl) (fun _ _ _ _ _ _ => rfl) rfl
theorem lo_wChecks (N : Nat) : LoopsOK (cx_wChecks N) Tryd.f3.ntmps (bodyOf Tryd.f3) :=
  loopsOK_of (k := 0) (by kernel_rfl) trivial
theorem p_wChecks (N : Nat) (x0 : Int) (x1 : Int) (x2 : List V) (r0 : Bool) (h : s_wChecks N x0 x1 x2 = some r0) : PureRet Tryd.prog T 3 [.agg [.v (.int .i64 x0) .no, .v (.int .i64 x1) .no, .v (.sl 24 x2) .no]] [.v (.bool r0) .no] :=
  pure_of (cx := cx_wChecks N) (by kernel_rfl) (co_wChecks N) Tryd.func3 (by kernel_rfl) (by kernel_rfl) (lo_wChecks N) rfl rfl rfl (rf := r_wChecks) ((s_wChecks_ok N x0 x1 x2).trans h) (fun rs' m h => by
    unfold r_wChecks at h
    split at h
    · cases h; exact ⟨rfl, rfl⟩
    · cases h)
noncomputable def r_wHolds (rs : List D) (_ : Mem) : Option (Bool) :=
  match rs with
  | [.v (.bool r0) _] => some (r0)
  | _ => none
noncomputable def s_wHolds (N : Nat) (x0 : Int) (x1 : Int) (x2 : List V) (x3 : Int) (x4 : Int) (x5 : Int) (x6 : Int) : Option (Bool) :=
  bnd1 (s_lfew N [V.agg [V.int IntKind.i64 x0, V.int IntKind.i64 x1, V.sl 24 x2]]) fun b0 =>
  br (!b0) (bnd1 (s_works N) fun b1 => some b1) (bnd1 (s_aHolds N x0 x1 x2 x3 x4 x5 x6) fun b2 => bnd1 (s_qHolds N x0 x1 x2 x3 x4 x5 x6) fun b3 => br (b2 == b3) (bnd1 (s_works N) fun b4 => some b4) (some false))
noncomputable def cx_wHolds (N : Nat) : Cx := { T := T, isPure := tabP [⟨15, e_lfew (s_lfew N)⟩, ⟨16, e_works (s_works N)⟩, ⟨19, e_aHolds (s_aHolds N)⟩, ⟨20, e_qHolds (s_qHolds N)⟩], pureK := fun g ds K => tabK [⟨15, e_lfew (s_lfew N)⟩, ⟨16, e_works (s_works N)⟩, ⟨19, e_aHolds (s_aHolds N)⟩, ⟨20, e_qHolds (s_qHolds N)⟩] g ds K, memK := fun g dst ds m K => tabMK [] g dst ds m K, meth := tabM [], keep := fun _ => [], keepX := fun _ => [], loopT := fun _ _ _ _ => none, jumps := 9 }
theorem s_wHolds_ok (N : Nat) (x0 : Int) (x1 : Int) (x2 : List V) (x3 : Int) (x4 : Int) (x5 : Int) (x6 : Int) : bodyK (cx_wHolds N) Tryd.f4 [.agg [.v (.int .i64 x0) .no, .v (.int .i64 x1) .no, .v (.sl 24 x2) .no], .agg [.v (.int .i64 x3) .no, .v (.int .i64 x4) .no, .v (.int .i64 x5) .no, .v (.int .i64 x6) .no]] [] r_wHolds = s_wHolds N x0 x1 x2 x3 x4 x5 x6 := by
  kernel_rfl
theorem co_wHolds (N : Nat) : CxOK Tryd.prog (cx_wHolds N) :=
  cxOK_of2 (es := [⟨15, e_lfew (s_lfew N)⟩, ⟨16, e_works (s_works N)⟩, ⟨19, e_aHolds (s_aHolds N)⟩, ⟨20, e_qHolds (s_qHolds N)⟩]) (me := []) (ms := []) T_ok ⟨eo_lfew _ (p_lfew N), eo_works _ (p_works N), eo_aHolds _ (p_aHolds N), eo_qHolds _ (p_qHolds N), trivial⟩ trivial trivial rfl (fun _ _ _ _ => rfl) (fun _ _ _ _ _ _ => rfl) rfl
theorem lo_wHolds (N : Nat) : LoopsOK (cx_wHolds N) Tryd.f4.ntmps (bodyOf Tryd.f4) :=
  loopsOK_of (k := 0) (by kernel_rfl) trivial
theorem p_wHolds (N : Nat) (x0 : Int) (x1 : Int) (x2 : List V) (x3 : Int) (x4 : Int) (x5 : Int) (x6 : Int) (r0 : Bool) (h : s_wHolds N x0 x1 x2 x3 x4 x5 x6 = some r0) : PureRet Tryd.prog T 4 [.agg [.v (.int .i64 x0) .no, .v (.int .i64 x1) .no, .v (.sl 24 x2) .no], .agg [.v (.int .i64 x3) .no, .v (.int .i64 x4) .no, .v (.int .i64 x5) .no, .v (.int .i64 x6) .no]] [.v (.bool r0) .no] :=
  pure_of (cx := cx_wHolds N) (by kernel_rfl) (co_wHolds N) Tryd.func4 (by kernel_rfl) (by kernel_rfl) (lo_wHolds N) rfl rfl rfl (rf := r_wHolds) ((s_wHolds_ok N x0 x1 x2 x3 x4 x5 x6).trans h) (fun rs' m h => by
    unfold r_wHolds at h
    split at h
    · cases h; exact ⟨rfl, rfl⟩
    · cases h)
noncomputable def r_wAllows (rs : List D) (_ : Mem) : Option (Bool) :=
  match rs with
  | [.v (.bool r0) _] => some (r0)
  | _ => none
noncomputable def s_wAllows (N : Nat) (x0 : List V) (x1 : Int) (x2 : Int) (x3 : Int) (x4 : Int) (x5 : Int) : Option (Bool) :=
  bnd1 (s_lfewRules N x0) fun b0 =>
  br (!b0) (bnd1 (s_works N) fun b1 => some b1)
    (bnd1 (s_aCheckRules N x0) fun n2 =>
      bnd1 (s_qCheckRules N x0) fun n3 => br (decide (n2 = n3)) (bnd1 (s_Allowed N x0 x1 x2 x3 x4 x5) fun b4 => bnd1 (s_qAllowed N x0 x1 x2 x3 x4 x5) fun b5 => br (b4 == b5) (bnd1 (s_works N) fun b6 => some b6) (some false)) (some false))
noncomputable def cx_wAllows (N : Nat) : Cx := { T := T, isPure := tabP [⟨24, e_lfewRules (s_lfewRules N)⟩, ⟨16, e_works (s_works N)⟩, ⟨30, e_aCheckRules (s_aCheckRules N)⟩, ⟨31, e_qCheckRules (s_qCheckRules N)⟩, ⟨32, e_Allowed (s_Allowed N)⟩, ⟨33, e_qAllowed (s_qAllowed N)⟩], pureK := fun g ds K => tabK [⟨24, e_lfewRules (s_lfewRules N)⟩, ⟨16, e_works (s_works N)⟩, ⟨30, e_aCheckRules (s_aCheckRules N)⟩, ⟨31, e_qCheckRules (s_qCheckRules N)⟩, ⟨32, e_Allowed (s_Allowed N)⟩, ⟨33, e_qAllowed (s_qAllowed N)⟩] g ds K, memK := fun g dst ds m K => tabMK [] g dst ds m K, meth := tabM [], keep := fun _ => [], keepX := fun _ => [], loopT := fun _ _ _ _ => none, jumps := 9 }
theorem s_wAllows_ok (N : Nat) (x0 : List V) (x1 : Int) (x2 : Int) (x3 : Int) (x4 : Int) (x5 : Int) : bodyK (cx_wAllows N) Tryd.f10 [.v (.sl 53 x0) .no, .v (.int .i64 x1) .no, .agg [.v (.int .i64 x2) .no, .v (.int .i64 x3) .no, .v (.int .i64 x4) .no, .v (.int .i64 x5) .no]] [] r_wAllows = s_wAllows N x0 x1 x2 x3 x4 x5 := by
  kernel_rfl
theorem co_wAllows (N : Nat) : CxOK Tryd.prog (cx_wAllows N) :=
  cxOK_of2 (es := [⟨24, e_lfewRules (s_lfewRules N)⟩, ⟨16, e_works (s_works N)⟩, ⟨30, e_aCheckRules (s_aCheckRules N)⟩, ⟨31, e_qCheckRules (s_qCheckRules N)⟩, ⟨32, e_Allowed (s_Allowed N)⟩, ⟨33, e_qAllowed (s_qAllowed N)⟩]) (me := []) (ms := []) T_ok ⟨eo_lfewRules _ (p_lfewRules N), eo_works _ (p_works N), eo_aCheckRules _ (p_aCheckRules N), eo_qCheckRules _ (p_qCheckRules N), eo_Allowed _ (p_Allowed N), eo_qAllowed _ (p_qAllowed N), trivial⟩ trivial trivial rfl (fun _ _ _ _ => rfl) (fun _ _ _ _ _ _ => rfl) rfl
theorem lo_wAllows (N : Nat) : LoopsOK (cx_wAllows N) Tryd.f10.ntmps (bodyOf Tryd.f10) :=
  loopsOK_of (k := 0) (by kernel_rfl) trivial
theorem p_wAllows (N : Nat) (x0 : List V) (x1 : Int) (x2 : Int) (x3 : Int) (x4 : Int) (x5 : Int) (r0 : Bool) (h : s_wAllows N x0 x1 x2 x3 x4 x5 = some r0) : PureRet Tryd.prog T 10 [.v (.sl 53 x0) .no, .v (.int .i64 x1) .no, .agg [.v (.int .i64 x2) .no, .v (.int .i64 x3) .no, .v (.int .i64 x4) .no, .v (.int .i64 x5) .no]] [.v (.bool r0) .no] :=
  pure_of (cx := cx_wAllows N) (by kernel_rfl) (co_wAllows N) Tryd.func10 (by kernel_rfl) (by kernel_rfl) (lo_wAllows N) rfl rfl rfl (rf := r_wAllows) ((s_wAllows_ok N x0 x1 x2 x3 x4 x5).trans h) (fun rs' m h => by
    unfold r_wAllows at h
    split at h
    · cases h; exact ⟨rfl, rfl⟩
    · cases h)
noncomputable def r_wMore (rs : List D) (_ : Mem) : Option (Bool) :=
  match rs with
  | [.v (.bool r0) _] => some (r0)
  | _ => none
noncomputable def s_wMore (N : Nat) (x0 : List V) (x1 : Int) (x2 : Int) (x3 : Int) (x4 : Int) (x5 : Int) (x6 : Int) (x7 : Int) (x8 : Int) (x9 : Int) : Option (Bool) :=
  bnd1 (s_lfewRules N x0) fun b0 =>
  br (!b0) (bnd1 (s_works N) fun b1 => some b1)
    (br (decide (x4 < x8))
      (bnd1 (s_Allowed N x0 x1 x2 x3 x4 x5) fun b2 =>
        br (!b2) (bnd1 (s_works N) fun b3 => some b3)
          (bnd1 (s_Allowed N x0 x1 (bitsI BinOp.or IntKind.i64 x2 x6) (bitsI BinOp.or IntKind.i64 x3 x7) x8 (bitsI BinOp.or IntKind.i64 x5 x9)) fun b4 => br b4 (bnd1 (s_works N) fun b5 => some b5) (some false)))
      (bnd1 (s_Allowed N x0 x1 x2 x3 x4 x5) fun b6 =>
        br (!b6) (bnd1 (s_works N) fun b7 => some b7)
          (bnd1 (s_Allowed N x0 x1 (bitsI BinOp.or IntKind.i64 x2 x6) (bitsI BinOp.or IntKind.i64 x3 x7) x4 (bitsI BinOp.or IntKind.i64 x5 x9)) fun b8 => br b8 (bnd1 (s_works N) fun b9 => some b9) (some false))))
noncomputable def cx_wMore (N : Nat) : Cx := { T := T, isPure := tabP [⟨24, e_lfewRules (s_lfewRules N)⟩, ⟨16, e_works (s_works N)⟩, ⟨32, e_Allowed (s_Allowed N)⟩], pureK := fun g ds K => tabK [⟨24, e_lfewRules (s_lfewRules N)⟩, ⟨16, e_works (s_works N)⟩, ⟨32, e_Allowed (s_Allowed N)⟩] g ds K, memK := fun g dst ds m K => tabMK [] g dst ds m K, meth := tabM [], keep := fun _ => [], keepX := fun _ => [], loopT := fun _ _ _ _ => none, jumps := 9 }
theorem s_wMore_ok (N : Nat) (x0 : List V) (x1 : Int) (x2 : Int) (x3 : Int) (x4 : Int) (x5 : Int) (x6 : Int) (x7 : Int) (x8 : Int) (x9 : Int) : bodyK (cx_wMore N) Tryd.f11 [.v (.sl 53 x0) .no, .v (.int .i64 x1) .no, .agg [.v (.int .i64 x2) .no, .v (.int .i64 x3) .no, .v (.int .i64 x4) .no, .v (.int .i64 x5) .no], .agg [.v (.int .i64 x6) .no, .v (.int .i64 x7) .no, .v (.int .i64 x8) .no, .v (.int .i64 x9) .no]] [] r_wMore = s_wMore N x0 x1 x2 x3 x4 x5 x6 x7 x8 x9 := by
  kernel_rfl
theorem co_wMore (N : Nat) : CxOK Tryd.prog (cx_wMore N) :=
  cxOK_of2 (es := [⟨24, e_lfewRules (s_lfewRules N)⟩, ⟨16, e_works (s_works N)⟩, ⟨32, e_Allowed (s_Allowed N)⟩]) (me := []) (ms := []) T_ok ⟨eo_lfewRules _ (p_lfewRules N), eo_works _ (p_works N), eo_Allowed _ (p_Allowed N), trivial⟩ trivial trivial rfl (fun _ _ _ _ => rfl) (fun _ _ _ _ _ _ => rfl) rfl
theorem lo_wMore (N : Nat) : LoopsOK (cx_wMore N) Tryd.f11.ntmps (bodyOf Tryd.f11) :=
  loopsOK_of (k := 0) (by kernel_rfl) trivial
theorem p_wMore (N : Nat) (x0 : List V) (x1 : Int) (x2 : Int) (x3 : Int) (x4 : Int) (x5 : Int) (x6 : Int) (x7 : Int) (x8 : Int) (x9 : Int) (r0 : Bool) (h : s_wMore N x0 x1 x2 x3 x4 x5 x6 x7 x8 x9 = some r0) : PureRet Tryd.prog T 11 [.v (.sl 53 x0) .no, .v (.int .i64 x1) .no, .agg [.v (.int .i64 x2) .no, .v (.int .i64 x3) .no, .v (.int .i64 x4) .no, .v (.int .i64 x5) .no], .agg [.v (.int .i64 x6) .no, .v (.int .i64 x7) .no, .v (.int .i64 x8) .no, .v (.int .i64 x9) .no]] [.v (.bool r0) .no] :=
  pure_of (cx := cx_wMore N) (by kernel_rfl) (co_wMore N) Tryd.func11 (by kernel_rfl) (by kernel_rfl) (lo_wMore N) rfl rfl rfl (rf := r_wMore) ((s_wMore_ok N x0 x1 x2 x3 x4 x5 x6 x7 x8 x9).trans h) (fun rs' m h => by
    unfold r_wMore at h
    split at h
    · cases h; exact ⟨rfl, rfl⟩
    · cases h)
noncomputable def r_wShows (rs : List D) (_ : Mem) : Option (Bool) :=
  match rs with
  | [.v (.bool r0) _] => some (r0)
  | _ => none
noncomputable def s_wShows (N : Nat) (x0 : Int) (x1 : Int) (x2 : List V) (x3 : Int) (x4 : Int) (x5 : List V) : Option (Bool) :=
  bnd1 (s_lfew N [V.agg [V.int IntKind.i64 x0, V.int IntKind.i64 x1, V.sl 24 x2], V.agg [V.int IntKind.i64 x3, V.int IntKind.i64 x4, V.sl 24 x5]]) fun b0 =>
  br (!b0) (bnd1 (s_works N) fun b1 => some b1)
    (bnd1 (s_aText N x0 x1 x2) fun l2 =>
      bnd1 (s_aText N x3 x4 x5) fun l3 =>
        bnd1 (s_qText N x0 x1 x2) fun l4 =>
          br (!decide (l2 = l4)) (some false)
            (bnd1 (s_qText N x3 x4 x5) fun l5 =>
              br (!decide (l3 = l5)) (some false)
                (br (decide (l2 = [])) (bnd1 (s_works N) fun b6 => some b6)
                  (br (decide (l3 = [])) (bnd1 (s_works N) fun b7 => some b7) (bnd1 (s_qSameCond N N x0 x1 x2 x3 x4 x5) fun b8 => br (decide (l2 = l3) == b8) (bnd1 (s_works N) fun b9 => some b9) (some false))))))
noncomputable def cx_wShows (N : Nat) : Cx := { T := T, isPure := tabP [⟨15, e_lfew (s_lfew N)⟩, ⟨16, e_works (s_works N)⟩, ⟨27, e_aText (s_aText N)⟩, ⟨28, e_qText (s_qText N)⟩, ⟨29, e_qSameCond (s_qSameCond N N)⟩], pureK := fun g ds K => tabK [⟨15, e_lfew (s_lfew N)⟩, ⟨16, e_works (s_works N)⟩, ⟨27, e_aText (s_aText N)⟩, ⟨28, e_qText (s_qText N)⟩, ⟨29, e_qSameCond (s_qSameCond N N)⟩] g ds K, memK := fun g dst ds m K => tabMK [] g dst ds m K, meth := tabM [], keep := fun _ => [], keepX := fun _ => [], loopT := fun _ _ _ _ => none, jumps := 9 }
theorem s_wShows_ok (N : Nat) (x0 : Int) (x1 : Int) (x2 : List V) (x3 : Int) (x4 : Int) (x5 : List V) : bodyK (cx_wShows N) Tryd.f9 [.agg [.v (.int .i64 x0) .no, .v (.int .i64 x1) .no, .v (.sl 24 x2) .no], .agg [.v (.int .i64 x3) .no, .v (.int .i64 x4) .no, .v (.sl 24 x5) .no]] [] r_wShows = s_wShows N x0 x1 x2 x3 x4 x5 := by
  kernel_rfl
theorem co_wShows (N : Nat) : CxOK Tryd.prog (cx_wShows N) :=
  cxOK_of2 (es := [⟨15, e_lfew (s_lfew N)⟩, ⟨16, e_works (s_works N)⟩, ⟨27, e_aText (s_aText N)⟩, ⟨28, e_qText (s_qText N)⟩, ⟨29, e_qSameCond (s_qSameCond N N)⟩]) (me := []) (ms := []) T_ok ⟨eo_lfew _ (p_lfew N), eo_works _ (p_works N), eo_aText _ (p_aText N), eo_qText _ (p_qText N), eo_qSameCond _ (p_qSameCond N N), trivial⟩ trivial trivial rfl (fun _ _ _ _ => rfl) (fun _ _ _ _ _ _ => rfl) rfl
theorem lo_wShows (N : Nat) : LoopsOK (cx_wShows N) Tryd.f9.ntmps (bodyOf Tryd.f9) :=
  loopsOK_of (k := 0) (by kernel_rfl) trivial
theorem p_wShows (N : Nat) (x0 : Int) (x1 : Int) (x2 : List V) (x3 : Int) (x4 : Int) (x5 : List V) (r0 : Bool) (h : s_wShows N x0 x1 x2 x3 x4 x5 = some r0) : PureRet Tryd.prog T 9 [.agg [.v (.int .i64 x0) .no, .v (.int .i64 x1) .no, .v (.sl 24 x2) .no], .agg [.v (.int .i64 x3) .no, .v (.int .i64 x4) .no, .v (.sl 24 x5) .no]] [.v (.bool r0) .no] :=
  pure_of (cx := cx_wShows N) (by kernel_rfl) (co_wShows N) Tryd.func9 (by kernel_rfl) (by kernel_rfl) (lo_wShows N) rfl rfl rfl (rf := r_wShows) ((s_wShows_ok N x0 x1 x2 x3 x4 x5).trans h) (fun rs' m h => by
    unfold r_wShows at h
    split at h
    · cases h; exact ⟨rfl, rfl⟩
    · cases h)
end Go.Proofs.YtahemenhcoedgaaDoor.En

/- The printed functions, together. -/

/- Words for the plain laws: branches, numbers, bits, places in a list. No program in sight. -/
namespace Go.Proofs.YtahemenhcoedgaaDoor.En
open Go
set_option linter.unusedVariables false
section
variable {R α β γ δ : Type}
theorem br_t (x y : Option R) : br true x y = x := id rfl
theorem br_f (x y : Option R) : br false x y = y := id rfl
theorem br_dec (p : Prop) [Decidable p] (x y : Option R) : br (decide p) x y = if p then x else y := by
  by_cases h : p <;> simp [br, h]
theorem br_not (c : Bool) (x y : Option R) : br (!c) x y = br c y x := by cases c <;> rfl
theorem br_and (a b : Bool) (x y : Option R) : br (a && b) x y = br a (br b x y) y := by cases a <;> rfl
theorem br_or (a b : Bool) (x y : Option R) : br (a || b) x y = br a x (br b x y) := by cases a <;> rfl
theorem bnd1_mk (a : α) (K : α → Option R) : bnd1 (some a) K = K a := id rfl
theorem bnd2_mk (a : α) (b : β) (K : α → β → Option R) : bnd2 (some (a, b)) K = K a b := id rfl
theorem bnd3_mk (a : α) (b : β) (c : γ) (K : α → β → γ → Option R) : bnd3 (some (a, b, c)) K = K a b c := id rfl
theorem bnd4_mk (a : α) (b : β) (c : γ) (d : δ) (K : α → β → γ → δ → Option R) : bnd4 (some (a, b, c, d)) K = K a b c d := id rfl
theorem bnd5_mk {ε : Type} (a : α) (b : β) (c : γ) (d : δ) (e : ε) (K : α → β → γ → δ → ε → Option R) : bnd5 (some (a, b, c, d, e)) K = K a b c d e := id rfl
theorem at_of {xs : List α} {i : Nat} {x : α} (h : xs[i]? = some x) (K : α → Option R) : at? xs i K = K x := by simp [at?, h]
theorem at_zero (x : α) (r : List α) (K : α → Option R) : at? (x :: r) 0 K = K x := id rfl
theorem at_succ (x : α) (r : List α) (i : Nat) (K : α → Option R) : at? (x :: r) (i + 1) K = at? r i K := by simp [at?]
theorem at_mid (pre : List α) (x : α) (suf : List α) (K : α → Option R) : at? (pre ++ x :: suf) pre.length K = K x := at_of (by simp) K
theorem unInt_mk (k : IntKind) (n : Int) (K : Int → Option R) : V.unInt k (.int k n) K = K n := by simp [V.unInt]
theorem unBool_mk (b : Bool) (K : Bool → Option R) : V.unBool (.bool b) K = K b := id rfl
theorem unStr_mk (s : List UInt8) (K : List UInt8 → Option R) : V.unStr (.str s) K = K s := id rfl
theorem unBytes_mk (s : List UInt8) (K : List UInt8 → Option R) : V.unBytes (.bytes s) K = K s := id rfl
theorem unSl_mk (e : TypeId) (s : List V) (K : List V → Option R) : V.unSl e (.sl e s) K = K s := by simp [V.unSl]
theorem unAgg_mk (s : List V) (K : List V → Option R) : V.unAgg (.agg s) K = K s := id rfl
theorem unCons_mk (x : V) (r : List V) (K : V → List V → Option R) : unCons (x :: r) K = K x r := id rfl
theorem unNil_mk (K : Option R) : unNil [] K = K := id rfl
end
/-! Numbers -/
theorem w64 {n : Int} (h1 : -9223372036854775808 ≤ n) (h2 : n ≤ 9223372036854775807) : IntKind.i64.wrap n = n := by
  rw [IntKind.wrap_i64]; omega
theorem u8_lt (u : UInt8) : (u.toNat : Int) < 256 := by have := u.toNat_lt; omega
theorem wu8 (n : Int) : IntKind.u8.wrap n = n % 256 := IntKind.wrap_u8 n
theorem ofInt_toNat64 (a : Int) : (BitVec.ofInt 64 a).toNat = (a % 18446744073709551616).toNat := by
  rw [BitVec.toNat_ofInt]; rfl
theorem fdiv_pos (a b : Int) (h : 0 < b) : a.fdiv b = a / b := by rw [Int.fdiv_eq_ediv_of_nonneg _ (by omega)]
theorem shr8 (a : Int) : shrI .i64 a 8 = a / 256 := by
  show a.fdiv (2 ^ (min (8 : Int).toNat 64)) = _
  exact fdiv_pos a 256 (by omega)
/-- a & (2^k - 1) -/
theorem and_mask (a : Int) (k : Nat) (hk : k ≤ 62) : bitsI .and .i64 a ((2 ^ k - 1 : Nat) : Int) = a % (2 ^ k : Nat) := by
  have hp : (2 ^ k : Nat) ≤ 2 ^ 62 := Nat.pow_le_pow_right (by omega) hk
  have h0 : 0 < 2 ^ k := Nat.pos_of_ne_zero (by simp)
  have e1 : (BitVec.ofInt 64 ((2 ^ k - 1 : Nat) : Int)).toNat = 2 ^ k - 1 := by
    rw [ofInt_toNat64]; omega
  have e2 : (BitVec.ofInt 64 a &&& BitVec.ofInt 64 ((2 ^ k - 1 : Nat) : Int)).toNat = (a % 18446744073709551616).toNat % 2 ^ k := by
    rw [BitVec.toNat_and, e1, ofInt_toNat64, Nat.and_two_pow_sub_one_eq_mod]
  have hd : (2 ^ k : Nat) ∣ 18446744073709551616 := by
    have : (18446744073709551616 : Nat) = 2 ^ 64 := by decide
    rw [this]; exact Nat.pow_dvd_pow 2 (by omega)
  have e3 : ((((a % 18446744073709551616).toNat % 2 ^ k : Nat)) : Int) = a % (2 ^ k : Nat) := by
    rw [Int.natCast_emod]
    rw [Int.toNat_of_nonneg (Int.emod_nonneg _ (by omega))]
    have hd' : ((2 ^ k : Nat) : Int) ∣ ((18446744073709551616 : Nat) : Int) := Int.natCast_dvd_natCast.2 hd
    exact Int.emod_emod_of_dvd a hd'
  show IntKind.i64.wrap ((BitVec.ofInt 64 a &&& BitVec.ofInt 64 _).toNat : Int) = _
  rw [e2, e3]
  have := Int.emod_nonneg a (b := ((2 ^ k : Nat) : Int)) (by omega)
  have := Int.emod_lt_of_pos a (b := ((2 ^ k : Nat) : Int)) (by omega)
  exact w64 (by omega) (by omega)
theorem and31 (a : Int) : bitsI .and .i64 a 31 = a % 32 := and_mask a 5 (by omega)
theorem and255 (a : Int) : bitsI .and .i64 a 255 = a % 256 := and_mask a 8 (by omega)
theorem and_two_pow' (m k : Nat) : m &&& 2 ^ k = 2 ^ k * (m / 2 ^ k % 2) := by
  apply Nat.eq_of_testBit_eq
  intro i
  rw [Nat.testBit_and, Nat.testBit_two_pow, Nat.mul_comm, ← Nat.shiftLeft_eq, Nat.testBit_shiftLeft]
  have h2 : m / 2 ^ k % 2 = (m.testBit k).toNat := by
    rw [Nat.testBit_eq_decide_div_mod_eq]
    have : m / 2 ^ k % 2 < 2 := Nat.mod_lt _ (by omega)
    rcases (by omega : m / 2 ^ k % 2 = 0 ∨ m / 2 ^ k % 2 = 1) with h | h <;> simp [h]
  rw [h2]
  by_cases hk : k = i
  · subst hk; cases m.testBit k <;> simp
  · simp only [hk, decide_false, Bool.and_false]
    by_cases hl : k ≤ i
    · obtain ⟨j, rfl⟩ : ∃ j, i = k + (j + 1) := ⟨i - k - 1, by omega⟩
      rw [show k + (j + 1) - k = j + 1 by omega]
      cases m.testBit k <;> simp [Nat.testBit_succ]
    · simp [hl]
/-- a & 2^k -/
theorem and_bit (a : Int) (k : Nat) (hk : k ≤ 62) : bitsI .and .i64 a ((2 ^ k : Nat) : Int) = (2 ^ k : Nat) * (a / (2 ^ k : Nat) % 2) := by
  have hp : (2 ^ k : Nat) ≤ 2 ^ 62 := Nat.pow_le_pow_right (by omega) hk
  have h0 : 0 < 2 ^ k := Nat.pos_of_ne_zero (by simp)
  have e1 : (BitVec.ofInt 64 ((2 ^ k : Nat) : Int)).toNat = 2 ^ k := by rw [ofInt_toNat64]; omega
  generalize hm : (a % 18446744073709551616).toNat = m
  have e2 : (BitVec.ofInt 64 a &&& BitVec.ofInt 64 ((2 ^ k : Nat) : Int)).toNat = 2 ^ k * (m / 2 ^ k % 2) := by
    rw [BitVec.toNat_and, e1, ofInt_toNat64, hm, and_two_pow']
  have hd : (2 ^ (k + 1) : Nat) ∣ 18446744073709551616 := by
    have : (18446744073709551616 : Nat) = 2 ^ 64 := by decide
    rw [this]; exact Nat.pow_dvd_pow 2 (by omega)
  have e3 : ((m / 2 ^ k % 2 : Nat) : Int) = a / (2 ^ k : Nat) % 2 := by
    have hmi : (m : Int) = a % 18446744073709551616 := by rw [← hm, Int.toNat_of_nonneg (Int.emod_nonneg _ (by omega))]
    obtain ⟨q, hq⟩ := hd
    have hq' : (18446744073709551616 : Int) = ((2 ^ k : Nat) : Int) * (2 * (q : Int)) := by
      have : (18446744073709551616 : Nat) = 2 ^ k * (2 * q) := by rw [hq, Nat.pow_succ, Nat.mul_assoc]
      rw [show (18446744073709551616 : Int) = ((18446744073709551616 : Nat) : Int) by rfl, this]; push_cast; rfl
    rw [Int.natCast_emod, Int.natCast_ediv, hmi]
    have ha := Int.emod_add_mul_ediv a 18446744073709551616
    generalize a / 18446744073709551616 = z at ha
    have e : a = a % 18446744073709551616 + ((2 ^ k : Nat) : Int) * (2 * (q : Int) * z) := by
      rw [← Int.mul_assoc, ← hq']; omega
    conv => rhs; rw [e]
    rw [Int.add_mul_ediv_left _ _ (by omega)]
    rw [show (2 : Int) * (q : Int) * z = (q * z) * 2 by rw [Int.mul_assoc, Int.mul_comm]]
    exact (Int.add_mul_emod_self_right _ _ _).symm
  show IntKind.i64.wrap ((BitVec.ofInt 64 a &&& BitVec.ofInt 64 _).toNat : Int) = _
  rw [e2]
  have h2 : ((2 ^ k * (m / 2 ^ k % 2) : Nat) : Int) = (2 ^ k : Nat) * (a / (2 ^ k : Nat) % 2) := by rw [Int.natCast_mul, e3]
  rw [h2]
  have : a / ((2 ^ k : Nat) : Int) % 2 = 0 ∨ a / ((2 ^ k : Nat) : Int) % 2 = 1 := by omega
  rcases this with h | h <;> rw [h] <;> exact w64 (by omega) (by omega)
theorem and32 (a : Int) : bitsI .and .i64 a 32 = 32 * (a / 32 % 2) := and_bit a 5 (by omega)
end Go.Proofs.YtahemenhcoedgaaDoor.En

/- The engine, part 2r: what an argument that came in reads as. No program in sight. -/
namespace Go.Proofs.YtahemenhcoedgaaDoor.En
open Go Go.RowKit
set_option linter.unusedVariables false
/-- A world of arguments: nothing is written. -/
def immG (T : TypeId → Option Ty) : G := { Γ := fun _ => .imm, J := fun _ _ => 0, sz := sizes T }
theorem stable_imm (T : TypeId → Option Ty) (b o : Nat) : Stable (immG T) b o := trivial
/-- An element, given its cells. -/
def mkEl (row : Bool) (cs : List V) : V := match row with | true => .agg cs | false => cs.headD .nilI
/-- Cells that have the shape of a type. -/
def FitsFs (F : TypeId → List V → Prop) : List Field → List V → Prop
  | [], xs => xs = []
  | f :: fs, xs => ∃ a r, xs = a ++ r ∧ F f.type a ∧ FitsFs F fs r
def Fits (T : TypeId → Option Ty) : Nat → TypeId → List V → Prop
  | 0, _, _ => False
  | n + 1, t, xs => match T t with
    | none => False
    | some ty => match ty.desc with
      | .bool => ∃ b, xs = [.bool b]
      | .int k => ∃ i, xs = [.int k i] ∧ k.min ≤ i ∧ i ≤ k.max
      | .string => ∃ s, xs = [.str s] ∧ s.length ≤ maxLen
      | .slice e => match ty.cks with
        | [.bytes _] => ∃ s, xs = [.bytes s] ∧ s.length ≤ maxLen
        | [.slc e'] => e' = e ∧ ∃ ys, xs = [.sl e ys] ∧ ys.length ≤ maxLen ∧ ∀ y ∈ ys, ∃ te cs, T e = some te ∧ y = mkEl te.row cs ∧ Fits T n e cs
        | _ => False
      | .struct fs => FitsFs (Fits T n) fs.toList xs
      | _ => False
/-- A type that is read. -/
def readable (T : TypeId → Option Ty) (t : TypeId) : Bool :=
  match T t with
  | none => false
  | some ty => match ty.desc with
    | .bool => true
    | .int _ => true
    | .string => true
    | .slice e => (match T e with
      | none => false
      | some te => (match ty.cks with
        | [.bytes _] => (match te.desc with | .int .u8 => Nat.beq te.size 1 | _ => false)
        | [.slc e'] => Nat.beq e' e && Nat.ble 1 te.size && (match te.row with | true => true | false => Nat.beq te.size 1)
        | _ => false))
    | .struct fs => contigT T ty.size 0 fs.toList && fs.toList.all (fun f => match T f.type with | some _ => true | none => false)
    | _ => false
/-- The types that a type leads to. -/
def closedT (T : TypeId → Option Ty) (l : List TypeId) : Bool :=
  l.all fun t => readable T t && (match T t with
    | none => false
    | some ty => match ty.desc with
      | .slice e => l.any (Nat.beq e)
      | .struct fs => fs.toList.all fun f => l.any (Nat.beq f.type)
      | _ => true)
section
variable {H : Type} {enc : TypeId × Value → H} {P : Program} {T : TypeId → Option Ty} {w : World} {base : Nat} {spare : Nat → Bool} {held : Bool}
structure RepC (T : TypeId → Option Ty) (w : World) (xs : List V) (cs : List Value) : Prop where
  len : xs.length = cs.length
  one : ∀ x ∈ xs, x.one = true
  rep : ∀ (k : Nat) y, xs[k]? = some y → RepV (immG T) w y (cs.getD k undef)
theorem RepC.single {x : V} {v : Value} (h1 : x.one = true) (h : RepV (immG T) w x v) : RepC T w [x] [v] :=
  ⟨rfl, fun y hy => by simp at hy; subst hy; exact h1, fun k y hk => by
    rcases k with _ | k
    · simp at hk; subst hk; simpa using h
    · simp at hk⟩
theorem RepC.append {xs ys : List V} {cs ds : List Value} (h : RepC T w xs cs) (k : RepC T w ys ds) : RepC T w (xs ++ ys) (cs ++ ds) := by
  refine ⟨by simp [h.len, k.len], fun x hx => ?_, fun i y hy => ?_⟩
  · rcases List.mem_append.1 hx with hx | hx
    · exact h.one x hx
    · exact k.one x hx
  · rcases Nat.lt_or_ge i xs.length with hl | hl
    · rw [List.getElem?_append_left hl] at hy
      have := h.rep i y hy
      rw [List.getD_eq_getElem?_getD, List.getElem?_append_left (by rw [← h.len]; exact hl), ← List.getD_eq_getElem?_getD]
      exact this
    · rw [List.getElem?_append_right hl] at hy
      have := k.rep _ y hy
      rw [List.getD_eq_getElem?_getD, List.getElem?_append_right (by rw [← h.len]; exact hl), ← h.len, ← List.getD_eq_getElem?_getD]
      exact this
theorem cellsOf_eq (hT : TypesOK P T) {t : TypeId} {ty : Ty} (h : T t = some ty) : P.cellsOf t = ty.size := by
  obtain ⟨i, h1, _, h2, _⟩ := (hT t ty h).info
  simp [Program.cellsOf, h1, h2]
theorem sizes_eq {t : TypeId} {ty : Ty} (h : T t = some ty) : sizes T t = ty.size := by unfold sizes; rw [h]
theorem add_none (b off i : Nat) : (⟨b, off, none⟩ : Addr).add i = ⟨b, off + i, none⟩ := by
  unfold Addr.add
  by_cases h0 : i = 0
  · subst h0; rfl
  · rw [if_neg h0]
theorem spot_row {a : Addr} {n k : Nat} {cs : List Value} (h : w.cells? base (a.add (0 * n)) k = some cs) (hk : 0 < k) : a.spot = none := by
  obtain ⟨_, hl, h5⟩ := World.cells?_some h
  have h6 := h5 0 hk
  rw [List.getElem?_eq_getElem (by omega)] at h6
  have := World.cell?_spot h6
  simpa [Addr.add] using this
theorem mkEl_cells {row : Bool} {cs : List V} (ho : ∀ x ∈ cs, x.one = true) (h : row = false → cs.length = 1) : (mkEl row cs).cells = cs := by
  cases row with
  | true => rfl
  | false =>
    have := h rfl
    match cs, this with
    | [x], _ =>
      have := ho x (by simp)
      show V.cells x = [x]
      cases x <;> first | rfl | cases this
theorem okEl_mk {row : Bool} {cs : List V} {n : Nat} (hl : cs.length = n) (ho : ∀ x ∈ cs, x.one = true) (h : row = false → cs.length = 1) : okEl n (mkEl row cs) = true := by
  unfold okEl
  rw [mkEl_cells ho h]
  simp only [Bool.and_eq_true, beq_iff_eq, List.all_eq_true]
  exact ⟨hl, ho⟩
theorem flatT_get {α : Type} {n : Nat} : ∀ (l : List (List α)) (i j : Nat) (c : List α), (∀ c ∈ l, c.length = n) → l[i]? = some c → j < n → l.flatten[i * n + j]? = c[j]?
  | [], i, j, c, _, h, _ => by simp at h
  | d :: l, 0, j, c, hl, h, hj => by
    simp at h; subst h
    have := hl d (by simp)
    rw [List.flatten_cons, Nat.zero_mul, Nat.zero_add, List.getElem?_append_left (by omega)]
  | d :: l, i + 1, j, c, hl, h, hj => by
    have hd := hl d (by simp)
    rw [List.flatten_cons, Nat.succ_mul, List.getElem?_append_right (by omega)]
    rw [show i * n + n + j - d.length = i * n + j by omega]
    exact flatT_get l i j c (fun c hc => hl c (by simp [hc])) (by simpa using h) hj
theorem flatT_len {α : Type} {n : Nat} : ∀ (l : List (List α)), (∀ c ∈ l, c.length = n) → l.flatten.length = l.length * n
  | [], _ => by simp
  | d :: l, h => by
    rw [List.flatten_cons, List.length_append, h d (by simp), flatT_len l fun c hc => h c (by simp [hc]), List.length_cons, Nat.succ_mul]; omega
theorem choose_list {α : Type} {p : Nat → α → Prop} : ∀ (n : Nat), (∀ i, i < n → ∃ a, p i a) → ∃ l : List α, l.length = n ∧ ∀ (i : Nat) a, l[i]? = some a → p i a
  | 0, _ => ⟨[], rfl, fun i a h => by simp at h⟩
  | n + 1, h => by
    obtain ⟨l, h1, h2⟩ := choose_list n fun i hi => h i (by omega)
    obtain ⟨a, ha⟩ := h n (by omega)
    refine ⟨l ++ [a], by simp [h1], fun i b hb => ?_⟩
    rcases Nat.lt_or_ge i l.length with hl | hl
    · rw [List.getElem?_append_left hl] at hb; exact h2 i b hb
    · rw [List.getElem?_append_right hl] at hb
      have : i = n := by
        have := (List.getElem?_eq_some_iff.1 hb).1
        simp at this; omega
      subst this
      rw [h1] at hb
      simp at hb
      subst hb; exact ha
theorem trod_rep (hT : TypesOK P T) {l : List TypeId} (hl : closedT T l = true) : ∀ (fuel : Nat) (t : TypeId) (cs : List Value) (x : DataW H × List MemPlace), t ∈ l → DataW.trod enc P w base spare held fuel t cs = some x →
    ∃ xs, RepC T w xs cs ∧ Fits T fuel t xs ∧ ∀ ty, T t = some ty → cs.length = ty.size
  | 0, t, cs, x, _, h => by simp [DataW.trod] at h
  | n + 1, t, cs, x, hm, h => by
    have hcl := List.all_eq_true.1 hl t hm
    simp only [Bool.and_eq_true] at hcl
    obtain ⟨hre, hlead⟩ := hcl
    unfold Fits
    unfold readable at hre
    cases hTt : T t with
    | none => rw [hTt] at hre; simp at hre
    | some ty =>
    rw [hTt] at hre hlead
    simp only at hre hlead ⊢
    have hd := (hT t ty hTt).desc
    have h1c : ty.row = false → ty.size = 1 := (hT t ty hTt).one
    cases hdesc : ty.desc <;> rw [hdesc] at hre hlead hd <;> simp only [Bool.false_eq_true] at hre hlead ⊢
    · obtain ⟨b, rfl, _⟩ := DataW.trod_bool hd h
      exact ⟨[.bool b], .single rfl (.bool b), ⟨b, rfl⟩, fun ty' e => by cases e; rw [h1c (by simp [Ty.row, hdesc])]; rfl⟩
    · rename_i k
      obtain ⟨i, rfl, _, hwf⟩ := DataW.trod_int hd h
      have hb : k.min ≤ i ∧ i ≤ k.max := by simpa [Lit.wf] using hwf
      exact ⟨[.int k i], .single rfl (.int k i hb), ⟨i, rfl, hb⟩, fun ty' e => by cases e; rw [h1c (by simp [Ty.row, hdesc])]; rfl⟩
    · obtain ⟨s, rfl, _, hs⟩ := DataW.trod_string hd h
      have e : s = ⟨s.data.toList.toArray⟩ := by cases s; simp
      have hsl : s.data.toList.length = s.size := by cases s; rfl
      refine ⟨[.str s.data.toList], .single rfl ?_, ⟨_, rfl, by rw [hsl]; exact hs⟩, fun ty' e => by cases e; rw [h1c (by simp [Ty.row, hdesc])]; rfl⟩
      have := RepV.str (g := immG T) (w := w) s.data.toList (by rw [hsl]; unfold maxLen at hs; omega)
      rwa [← e] at this
    · rename_i e
      cases hTe : T e with
      | none => rw [hTe] at hre; simp at hre
      | some te =>
      rw [hTe] at hre
      simp only at hre
      have hsz := cellsOf_eq hT hTe
      have hmem : e ∈ l := by
        obtain ⟨z, hz, hb⟩ := List.any_eq_true.1 hlead
        have := Nat.eq_of_beq_eq_true hb
        subst this; exact hz
      have hsize : ∀ ty', some ty = some ty' → ∀ v : Value, [v].length = ty'.size := fun ty' e v => by cases e; rw [h1c (by simp [Ty.row, hdesc])]; rfl
      split at hre
      · rename_i e0 hcks
        split at hre
        · rename_i hte
          have hte1 := Nat.eq_of_beq_eq_true hre
          rw [hte1] at hsz
          have hde := (hT e te hTe).desc
          rw [hte] at hde
          rcases DataW.trod_slice hd h with ⟨rfl, _⟩ | ⟨a, len, cap, elems, rest, m, e1, rfl, _, hb, hlc, hcm, hel, hget, _, _⟩
          · exact ⟨[.bytes []], .single rfl (.bytes [] none 0 0 rfl (Nat.le_refl _) (by simp) (fun k x hx => by simp at hx)), ⟨[], rfl, by simp⟩, fun ty' e => hsize ty' e _⟩
          · have key : ∀ i, i < len → ∃ b : UInt8, ∃ bb off, a = ⟨bb, off, none⟩ ∧ w.cell? ⟨bb, off + i, none⟩ = some (.int .u8 (b.toNat : Int)) := by
              intro i hi
              have h2 := hget i hi
              rw [List.getElem?_eq_getElem (by rw [hel]; exact hi), Option.bind_eq_some_iff] at h2
              obtain ⟨cs, h3, h4⟩ := h2
              obtain ⟨z, rfl, _, hwf⟩ := DataW.trod_int hde h4
              rw [hsz, Nat.mul_one] at h3
              obtain ⟨_, _, h5⟩ := World.cells?_some h3
              have h6 := h5 0 (by omega)
              simp at h6
              have hzr : 0 ≤ z ∧ z ≤ 255 := by simpa [Lit.wf, IntKind.min, IntKind.max, IntKind.signed, IntKind.bits] using hwf
              have hspn : a.spot = none := by
                have h2 := hget 0 (by omega)
                rw [List.getElem?_eq_getElem (by omega), Option.bind_eq_some_iff] at h2
                obtain ⟨cs, h3, _⟩ := h2
                exact spot_row h3 (by omega)
              obtain ⟨bb, off, sp⟩ := a
              simp only at hspn
              subst hspn
              refine ⟨UInt8.ofNat z.toNat, bb, off, rfl, ?_⟩
              rw [add_none] at h6
              have hz2 : (off + i + 0) = off + i := rfl
              rw [show ((UInt8.ofNat z.toNat).toNat : Int) = z by rw [UInt8.toNat_ofNat', Nat.mod_eq_of_lt (by omega)]; omega]
              simpa [Addr.add] using h6
            obtain ⟨bs, b1, b2⟩ := choose_list len key
            refine ⟨[.bytes bs], .single rfl (.bytes bs (some a) len cap b1 hlc hcm fun k x hx => ?_), ⟨bs, rfl, by omega⟩, fun ty' e => hsize ty' e _⟩
            obtain ⟨bb, off, c1, c2⟩ := b2 k x hx
            exact ⟨bb, off, by rw [c1], stable_imm T _ _, c2⟩
        · cases hre
      · rename_i e0 hcks
        simp only [Bool.and_eq_true] at hre
        obtain ⟨⟨he0, hte1⟩, hrow⟩ := hre
        have he0 := Nat.eq_of_beq_eq_true he0
        have hte1 := Nat.le_of_ble_eq_true hte1
        have hrow1 : te.row = false → te.size = 1 := (hT e te hTe).one
        have hszs : (immG T).sz e = te.size := sizes_eq hTe
        rcases DataW.trod_slice hd h with ⟨rfl, _⟩ | ⟨a, len, cap, elems, rest, m, e1, rfl, _, hb, hlc, hcm, hel, hget, _, _⟩
        · exact ⟨[.sl e []], .single rfl (.sl e [] none 0 0 (fun _ => undef) rfl (Nat.le_refl _) (by simp) (by simp) (fun k y hy => by simp at hy) (fun k y hy => by simp at hy)), ⟨he0, [], rfl, by simp, by simp⟩, fun ty' e => hsize ty' e _⟩
        · obtain rfl : n = m := by omega
          have key : ∀ i, i < len → ∃ p : List V × List Value, RepC T w p.1 p.2 ∧ Fits T n e p.1 ∧ p.2.length = te.size ∧ ∃ bb off, a = ⟨bb, off, none⟩ ∧ ∀ j, j < te.size → w.cell? ⟨bb, off + (i * te.size + j), none⟩ = some (p.2.getD j undef) := by
            intro i hi
            have h2 := hget i hi
            rw [List.getElem?_eq_getElem (by rw [hel]; exact hi), Option.bind_eq_some_iff] at h2
            obtain ⟨cs, h3, h4⟩ := h2
            obtain ⟨xs, c1, c2, c3⟩ := trod_rep hT hl n e cs _ hmem h4
            have c3 := c3 te hTe
            rw [hsz] at h3
            obtain ⟨_, _, h5⟩ := World.cells?_some h3
            have hspn : a.spot = none := by
              have h2 := hget 0 (by omega)
              rw [List.getElem?_eq_getElem (by omega), Option.bind_eq_some_iff] at h2
              obtain ⟨cs, h3, _⟩ := h2
              exact spot_row h3 (by omega)
            obtain ⟨bb, off, sp⟩ := a
            simp only at hspn
            subst hspn
            refine ⟨(xs, cs), c1, c2, c3, bb, off, rfl, fun j hj => ?_⟩
            have h7 := h5 j hj
            rw [add_none, add_none, Nat.add_assoc] at h7
            rw [h7, List.getD_eq_getElem?_getD]
            show cs[j]? = some (cs[j]?.getD undef)
            rw [List.getElem?_eq_getElem (by omega)]; rfl
          obtain ⟨ps, b1, b2⟩ := choose_list len key
          have hxl : ∀ p ∈ ps, p.1.length = te.size ∧ ∀ x ∈ p.1, x.one = true := by
            intro p hp
            obtain ⟨i, hi⟩ := List.getElem?_of_mem hp
            obtain ⟨c1, _, c3, _⟩ := b2 i p hi
            exact ⟨by rw [c1.len, c3], c1.one⟩
          have hcells : ∀ p ∈ ps, (mkEl te.row p.1).cells = p.1 := fun p hp => mkEl_cells (hxl p hp).2 fun hr => by rw [(hxl p hp).1, hrow1 hr]
          have hflat : (ps.map fun p => mkEl te.row p.1).flatMap V.cells = (ps.map (·.1)).flatten := by
            rw [List.flatMap_def, List.map_map]
            congr 1
            exact List.map_congr_left fun p hp => hcells p hp
          have hall : ∀ c ∈ ps.map (·.1), c.length = te.size := fun c hc => by
            obtain ⟨p, hp, rfl⟩ := List.mem_map.1 hc
            exact (hxl p hp).1
          have hlook : ∀ (k : Nat) (y : V), ((ps.map fun p => mkEl te.row p.1).flatMap V.cells)[k]? = some y → ∃ i j p, k = i * te.size + j ∧ j < te.size ∧ ps[i]? = some p ∧ p.1[j]? = some y := by
            intro k y hk
            rw [hflat] at hk
            have hk1 := (List.getElem?_eq_some_iff.1 hk).1
            rw [flatT_len _ hall, List.length_map, b1] at hk1
            have hpos : 0 < te.size := by omega
            have hi : k / te.size < len := (Nat.div_lt_iff_lt_mul hpos).2 hk1
            have hj : k % te.size < te.size := Nat.mod_lt _ hpos
            have hkk : k = k / te.size * te.size + k % te.size := by rw [Nat.mul_comm]; exact (Nat.div_add_mod k te.size).symm
            have hp : ps[k / te.size]? = some (ps[k / te.size]'(by omega)) := List.getElem?_eq_getElem (by omega)
            refine ⟨k / te.size, k % te.size, _, hkk, hj, hp, ?_⟩
            rw [hkk] at hk
            rw [flatT_get _ _ _ _ hall (by rw [List.getElem?_map, hp]; rfl) hj] at hk
            exact hk
          refine ⟨[.sl e (ps.map fun p => mkEl te.row p.1)], .single rfl (.sl e _ (some a) len cap (fun k => ((ps.map (·.2)).flatten).getD k undef) (by simp [b1]) hlc hcm (fun x hx => ?_) (fun k y hk => ?_) (fun k y hk => ?_)), ⟨he0, _, rfl, by simp [b1]; omega, fun y hy => ?_⟩, fun ty' e => hsize ty' e _⟩
          · obtain ⟨p, hp, rfl⟩ := List.mem_map.1 hx
            rw [hszs]
            exact okEl_mk (hxl p hp).1 (hxl p hp).2 fun hr => by rw [(hxl p hp).1, hrow1 hr]
          · obtain ⟨i, j, p, rfl, hj, hp, hy⟩ := hlook k y hk
            obtain ⟨_, _, c3, bb, off, c4, c5⟩ := b2 i p hp
            refine ⟨bb, off, by rw [c4], stable_imm T _ _, ?_⟩
            rw [c5 j hj]
            have : (ps.map (·.2)).flatten[i * te.size + j]? = p.2[j]? := flatT_get _ _ _ _ (fun c hc => by
              obtain ⟨q, hq, rfl⟩ := List.mem_map.1 hc
              obtain ⟨i', hi'⟩ := List.getElem?_of_mem hq
              exact (b2 i' q hi').2.2.1) (by rw [List.getElem?_map, hp]; rfl) hj
            rw [List.getD_eq_getElem?_getD, List.getD_eq_getElem?_getD, this]
          · obtain ⟨i, j, p, rfl, hj, hp, hy⟩ := hlook k y hk
            obtain ⟨c1, _, c3, _⟩ := b2 i p hp
            have : (ps.map (·.2)).flatten[i * te.size + j]? = p.2[j]? := flatT_get _ _ _ _ (fun c hc => by
              obtain ⟨q, hq, rfl⟩ := List.mem_map.1 hc
              obtain ⟨i', hi'⟩ := List.getElem?_of_mem hq
              exact (b2 i' q hi').2.2.1) (by rw [List.getElem?_map, hp]; rfl) hj
            have := c1.rep j y hy
            rw [List.getD_eq_getElem?_getD] at this ⊢
            rwa [‹(ps.map (·.2)).flatten[i * te.size + j]? = p.2[j]?›]
          · obtain ⟨p, hp, rfl⟩ := List.mem_map.1 hy
            obtain ⟨i, hi⟩ := List.getElem?_of_mem hp
            exact ⟨te, p.1, rfl, rfl, (b2 i p hi).2.1⟩
      · cases hre
    · rename_i fs
      simp only [Bool.and_eq_true] at hre
      obtain ⟨hco, hfa⟩ := hre
      obtain ⟨ys, m, e1, _, hlen, _, hg⟩ := DataW.trod_struct hd h
      obtain rfl : n = m := by omega
      rw [cellsOf_eq hT hTt] at hlen
      have main : ∀ (l' : List Field) (i off : Nat), fs.toList.drop i = l' → contigT T ty.size off l' = true → off ≤ ty.size → ∃ xs, RepC T w xs (cs.drop off) ∧ FitsFs (Fits T n) l' xs := by
        intro l'
        induction l' with
        | nil =>
          intro i off hdr hc ho
          have := Nat.eq_of_beq_eq_true hc
          refine ⟨[], ⟨by simp; omega, by simp, by simp⟩, rfl⟩
        | cons f l' ih =>
          intro i off hdr hc ho
          simp only [contigT, Bool.and_eq_true] at hc
          obtain ⟨hc1, hc2⟩ := hc
          have hc1 := Nat.eq_of_beq_eq_true hc1
          have hfi : fs.toList[i]? = some f := by
            have : (fs.toList.drop i)[0]? = some f := by rw [hdr]; rfl
            simpa using this
          have hfm : f ∈ fs.toList := List.mem_of_getElem? hfi
          have h1 := List.all_eq_true.1 hfa f hfm
          have hfl : f.type ∈ l := by
            have := List.all_eq_true.1 hlead f hfm
            obtain ⟨z, hz, hb⟩ := List.any_eq_true.1 this
            have := Nat.eq_of_beq_eq_true hb
            rw [this]; exact hz
          cases hTf : T f.type with
          | none => rw [hTf] at h1; simp at h1
          | some tf =>
          have h2 := hg i f (by simpa using hfi)
          rw [cellsOf_eq hT hTf, hc1] at h2
          have hle : off + tf.size ≤ ty.size := by
            have : ∀ (l' : List Field) (off : Nat), contigT T ty.size off l' = true → off ≤ ty.size := by
              intro l'
              induction l' with
              | nil => intro off hc; have := Nat.eq_of_beq_eq_true hc; omega
              | cons f l' ih => intro off hc; simp only [contigT, Bool.and_eq_true] at hc; have := ih _ hc.2; omega
            have := this l' _ hc2
            rw [sizes_eq hTf] at this
            exact this
          have hys : i < ys.length := by
            cases hyi : ys[i]? with
            | none =>
              have hfi2 : i < fs.size := by
                have := (List.getElem?_eq_some_iff.1 hfi).1
                simpa using this
              have : ys.length = fs.size := by assumption
              rw [this]; exact hfi2
            | some y => exact (List.getElem?_eq_some_iff.1 hyi).1
          rw [List.getElem?_eq_getElem hys] at h2
          obtain ⟨xs, c1, c2, _⟩ := trod_rep hT hl n f.type _ _ hfl h2
          obtain ⟨rs, d1, d2⟩ := ih (i + 1) (off + sizes T f.type) (by rw [List.drop_add_one_eq_tail_drop, hdr]; rfl) hc2 (by rw [sizes_eq hTf]; exact hle)
          refine ⟨xs ++ rs, ?_, xs, rs, rfl, c2, d2⟩
          have := c1.append d1
          rw [sizes_eq hTf, ← List.drop_drop, List.take_append_drop] at this
          exact this
      obtain ⟨xs, c1, c2⟩ := main fs.toList 0 0 rfl hco (Nat.zero_le _)
      exact ⟨xs, by simpa using c1, c2, fun ty' e => by cases e; exact hlen⟩
/-- An argument. -/
theorem arg_rep (hT : TypesOK P T) {l : List TypeId} (hl : closedT T l = true) {t : TypeId} (ht : t ∈ l) {v : Value} {d : DataW H} {ps : List MemPlace} (hrow : ∀ ty, T t = some ty → (ty.row = true → ∃ cs, v = .agg cs) ∧ (ty.row = false → v.cells = #[v]))
    (hd : DataW.Trod enc P w base spare held t v d ps) : ∃ n x, Fits T n t (V.cells x) ∧ RepV (immG T) w x v ∧ ∀ ty, T t = some ty → x = mkEl ty.row (V.cells x) := by
  obtain ⟨fuel, hf⟩ := hd
  obtain ⟨xs, h1, h2, h3⟩ := trod_rep hT hl fuel t _ _ ht hf
  cases hTt : T t with
  | none => cases fuel <;> simp [Fits, hTt] at h2
  | some ty =>
  have h3 := h3 ty hTt
  obtain ⟨r1, r2⟩ := hrow ty hTt
  cases hr : ty.row with
  | true =>
    obtain ⟨cs, rfl⟩ := r1 hr
    refine ⟨fuel, .agg xs, h2, .agg xs cs (by rw [h1.len]; rfl) fun k y hk => ?_, fun ty' e => by cases e; rw [hr]; rfl⟩
    have := h1.rep k y hk
    simpa [Value.cells, List.getD_eq_getElem?_getD, Array.getD_eq_getD_getElem?] using this
  | false =>
    have hv := r2 hr
    rw [hv] at h1 h3
    have hl1 := h1.len
    simp at hl1
    match xs, hl1 with
    | [x], _ =>
      have ho := h1.one x (by simp)
      have hc : V.cells x = [x] := by cases x <;> first | rfl | cases ho
      exact ⟨fuel, x, by rw [hc]; exact h2, by simpa using h1.rep 0 x rfl, fun ty' e => by cases e; rw [hr, hc]; rfl⟩
end
end Go.Proofs.YtahemenhcoedgaaDoor.En

/- Conditions as plain data; the budget of the statements. -/
namespace Go.Proofs.YtahemenhcoedgaaDoor.En
open Go
set_option linter.unusedVariables false
/-- A list of conditions: the first one's operation, number and kids, and the rest of the list. -/
inductive Cl where
  | nil
  | cons (op n : Int) (kids : Cl) (rest : Cl)
  deriving DecidableEq
namespace Cl
def len : Cl → Nat
  | nil => 0
  | cons _ _ _ r => r.len + 1
def nodes : Cl → Nat
  | nil => 0
  | cons _ _ k r => k.nodes + r.nodes + 1
def enc : Cl → List V
  | nil => []
  | cons o n k r => .agg [.int .i64 o, .int .i64 n, .sl 24 k.enc] :: r.enc
def wf : Cl → Prop
  | nil => True
  | cons o n k r => (-9223372036854775808 ≤ o ∧ o ≤ 9223372036854775807) ∧ (-9223372036854775808 ≤ n ∧ n ≤ 9223372036854775807) ∧ k.len ≤ 9223372036854775807 ∧ k.wf ∧ r.wf
theorem enc_len : ∀ l : Cl, l.enc.length = l.len
  | nil => rfl
  | cons o n k r => by simp [enc, len, enc_len r]
theorem len_le : ∀ l : Cl, l.len ≤ l.nodes
  | nil => Nat.le_refl _
  | cons o n k r => by have := len_le r; simp only [len, nodes]; omega
end Cl
/-- The budget behind a list's nodes. -/
def lfl : Cl → Int → Int
  | .nil, b => b
  | .cons _ _ k r, b => if b < 0 then b else lfl r (lfl k (b - 1))
theorem lfl_le : ∀ (l : Cl) (b : Int), -1 ≤ b → -1 ≤ lfl l b ∧ lfl l b ≤ b
  | .nil, b, h => ⟨h, Int.le_refl _⟩
  | .cons _ _ k r, b, h => by
    unfold lfl
    split
    · omega
    · have h1 := lfl_le k (b - 1) (by omega)
      have h2 := lfl_le r _ h1.1
      omega
theorem lfl_neg (l : Cl) : lfl l (-1) = -1 := by have := lfl_le l (-1) (by omega); omega
theorem lfl_nodes : ∀ (l : Cl) (b : Int), 0 ≤ b → ((l.nodes : Int) ≤ b → lfl l b = b - l.nodes) ∧ (b < l.nodes → lfl l b = -1)
  | .nil, b, h => ⟨fun _ => by simp [lfl, Cl.nodes], fun h' => by simp [Cl.nodes] at h'; omega⟩
  | .cons _ _ k r, b, h => by
    unfold lfl
    simp only [Cl.nodes]
    rw [if_neg (by omega)]
    by_cases hb : b - 1 < 0
    · have e : b - 1 = -1 := by omega
      rw [e, lfl_neg, lfl_neg]; exact ⟨fun _ => by omega, fun _ => rfl⟩
    · obtain ⟨h1, h2⟩ := lfl_nodes k (b - 1) (by omega)
      by_cases hk : (k.nodes : Int) ≤ b - 1
      · rw [h1 hk]
        obtain ⟨h3, h4⟩ := lfl_nodes r (b - 1 - k.nodes) (by omega)
        exact ⟨fun _ => by rw [h3 (by omega)]; omega, fun _ => h4 (by omega)⟩
      · rw [h2 (by omega), lfl_neg]; exact ⟨fun _ => by omega, fun _ => rfl⟩
theorem left_loop {R : Type} (N : Nat) (f : Int → Int → List V → Int → Option Int) (n : Nat) (hf : ∀ (o m : Int) (k : Cl) (b : Int), k.nodes < n → k.wf → k.len ≤ 9223372036854775807 → 0 ≤ b → b ≤ 200 → f o m k.enc b = some (lfl k (b - 1))) (x y : Int) (K : Int → Option R) :
    ∀ (l : Cl) (pre : List V) (t : Nat) (b : Int), l.len < t → l.nodes ≤ n → l.wf → pre.length + l.len ≤ 9223372036854775807 → -1 ≤ b → b ≤ 200 →
      S_lleft_3 N f x y (pre ++ l.enc) t b (pre.length : Int) K = K (lfl l b)
  | .nil, pre, 0, b, ht, _, _, _, _, _ => by simp [Cl.len] at ht
  | .nil, pre, t + 1, b, ht, _, _, _, _, _ => by
    unfold S_lleft_3 F_lleft_3
    simp [Cl.enc, br, lfl]
  | .cons o m k r, pre, 0, b, ht, _, _, _, _, _ => by simp [Cl.len] at ht
  | .cons o m k r, pre, t + 1, b, ht, hn, hw, hl, hb1, hb2 => by
    simp only [Cl.len, Cl.nodes] at ht hn hl
    obtain ⟨_, _, hk1, hk2, hr⟩ := hw
    have ih := left_loop N f n hf x y K r (pre ++ [.agg [.int .i64 o, .int .i64 m, .sl 24 k.enc]]) t
    have e1 : pre ++ [V.agg [.int .i64 o, .int .i64 m, .sl 24 k.enc]] ++ r.enc = pre ++ .agg [.int .i64 o, .int .i64 m, .sl 24 k.enc] :: r.enc := by simp
    have e2 : ((pre ++ [V.agg [.int .i64 o, .int .i64 m, .sl 24 k.enc]]).length : Int) = (pre.length : Int) + 1 := by simp
    rw [e1, e2] at ih
    unfold S_lleft_3 F_lleft_3 lfl
    have h1 : (pre.length : Int) < ((pre ++ V.agg [.int .i64 o, .int .i64 m, .sl 24 k.enc] :: r.enc).length : Int) := by simp; omega
    have h2 : (0 : Int) ≤ pre.length := by omega
    have h3 : IntKind.i64.wrap ((pre.length : Int) + 1) = (pre.length : Int) + 1 := w64 (by omega) (by omega)
    simp only [Cl.enc, br_t, br_f, br_dec, br_not, br_and, br_or, bnd1_mk, bnd2_mk, bnd3_mk, bnd4_mk, bnd5_mk, at_zero, at_succ, at_mid, unInt_mk, unBool_mk, unStr_mk, unBytes_mk, unSl_mk, unAgg_mk, unCons_mk, unNil_mk, h1, h2, if_true, Int.toNat_natCast]
    by_cases c1 : b < 0
    · rw [if_pos c1, if_neg (by omega)]
    · rw [if_neg c1, if_pos (by omega)]
      rw [hf o m k b (by omega) hk2 hk1 (by omega) hb2, bnd1_mk, h3]
      have hle := lfl_le k (b - 1) (by omega)
      exact ih _ (by omega) (by omega) hr (by simp; omega) (by omega) (by omega)
/-- left of a condition. -/
theorem left_ok (N : Nat) : ∀ (n : Nat) (o m : Int) (k : Cl) (b : Int), n ≤ N → k.nodes < n → k.wf → k.len ≤ 9223372036854775807 → 0 ≤ b → b ≤ 200 → s_lleft N n o m k.enc b = some (lfl k (b - 1))
  | 0, o, m, k, b, _, h, _, _, _, _ => absurd h (Nat.not_lt_zero _)
  | n + 1, o, m, k, b, hN, h, hw, hl, h0, h1 => by
    unfold s_lleft B_lleft
    have hwr : IntKind.i64.wrap (b - 1) = b - 1 := w64 (by omega) (by omega)
    have hln := Cl.len_le k
    rw [hwr]
    exact left_loop N (s_lleft N n) n (fun o m k b a1 a2 a3 a4 a5 => left_ok N n o m k b (by omega) a1 a2 a3 a4 a5) o m _ k [] N (b - 1) (by omega) (by omega) hw (by simpa using hl) (by omega) (by omega)
end Go.Proofs.YtahemenhcoedgaaDoor.En

/- Which conditions are valid: the reference. -/
namespace Go.Proofs.YtahemenhcoedgaaDoor.En
open Go
set_option linter.unusedVariables false
/-- All of the list are valid. -/
def vL : Cl → Bool
  | .nil => true
  | .cons o m k r => (if o = 0 ∨ o = 1 then decide (m = 0) && decide (k.len = 0) else if o = 2 ∨ o = 3 then decide (1 ≤ m) && decide (m ≤ 8) && decide (k.len = 0)
      else if o = 4 then decide (1 ≤ m) && decide (m ≤ 5) && decide (k.len = 0) else if o = 5 then decide (1 ≤ m) && decide (bitsI BinOp.and IntKind.i64 51 m = m) && decide (k.len = 0)
      else if o = 6 ∨ o = 7 then decide (m = 0) && !decide (k.len = 0) && vL k else false) && vL r
def vC (o m : Int) (k : Cl) : Bool := vL (.cons o m k .nil)
theorem vL_cons (o m : Int) (k r : Cl) : vL (.cons o m k r) = (vC o m k && vL r) := by
  show _ = (vL (.cons o m k .nil) && vL r)
  simp only [vL, Bool.and_true]
theorem qvalid_loop {R : Type} (N : Nat) (f : Int → Int → List V → Option Bool) (n : Nat) (hf : ∀ (o m : Int) (k : Cl), k.nodes < n → k.wf → k.len ≤ 9223372036854775807 → f o m k.enc = some (vC o m k)) (x y : Int) (K0 : Bool → Option R) (K1 : Option R) :
    ∀ (l : Cl) (pre : List V) (t : Nat), l.len < t → l.nodes ≤ n → l.wf → pre.length + l.len ≤ 9223372036854775807 →
      S_qvalid_18 N f x y (pre ++ l.enc) t (pre.length : Int) K0 K1 = if vL l then K1 else K0 false
  | .nil, pre, 0, ht, _, _, _ => by simp [Cl.len] at ht
  | .nil, pre, t + 1, ht, _, _, _ => by
    unfold S_qvalid_18 F_qvalid_18
    simp [Cl.enc, br, vL]
  | .cons o m k r, pre, 0, ht, _, _, _ => by simp [Cl.len] at ht
  | .cons o m k r, pre, t + 1, ht, hn, hw, hl => by
    simp only [Cl.len, Cl.nodes] at ht hn hl
    obtain ⟨_, _, hk1, hk2, hr⟩ := hw
    have ih := qvalid_loop N f n hf x y K0 K1 r (pre ++ [.agg [.int .i64 o, .int .i64 m, .sl 24 k.enc]]) t
    have e1 : pre ++ [V.agg [.int .i64 o, .int .i64 m, .sl 24 k.enc]] ++ r.enc = pre ++ .agg [.int .i64 o, .int .i64 m, .sl 24 k.enc] :: r.enc := by simp
    have e2 : ((pre ++ [V.agg [.int .i64 o, .int .i64 m, .sl 24 k.enc]]).length : Int) = (pre.length : Int) + 1 := by simp
    rw [e1, e2] at ih
    unfold S_qvalid_18 F_qvalid_18
    have h1 : (pre.length : Int) < ((pre ++ V.agg [.int .i64 o, .int .i64 m, .sl 24 k.enc] :: r.enc).length : Int) := by simp; omega
    have h2 : (0 : Int) ≤ pre.length := by omega
    have h3 : IntKind.i64.wrap ((pre.length : Int) + 1) = (pre.length : Int) + 1 := w64 (by omega) (by omega)
    simp only [Cl.enc, br_t, br_f, br_dec, br_not, br_and, br_or, bnd1_mk, bnd2_mk, bnd3_mk, bnd4_mk, bnd5_mk, at_zero, at_succ, at_mid, unInt_mk, unBool_mk, unStr_mk, unBytes_mk, unSl_mk, unAgg_mk, unCons_mk, unNil_mk, h1, h2, if_true, Int.toNat_natCast]
    rw [hf o m k (by omega) hk2 hk1, bnd1_mk, h3, vL_cons, ih (by omega) (by omega) hr (by simp; omega)]
    cases vC o m k <;> simp [br]
/-- The reference's valid. -/
theorem qvalid_ok (N : Nat) : ∀ (n : Nat) (o m : Int) (k : Cl), n ≤ N → k.nodes < n → k.wf → k.len ≤ 9223372036854775807 → s_qvalid N n o m k.enc = some (vC o m k)
  | 0, o, m, k, _, h, _, _ => absurd h (Nat.not_lt_zero _)
  | n + 1, o, m, k, hN, h, hw, hl => by
    unfold s_qvalid B_qvalid
    have hln := Cl.len_le k
    have hL : S_qvalid_18 N (s_qvalid N n) o m k.enc N 0 (fun b => some b) (some true) = if vL k then some true else some false :=
      qvalid_loop N (s_qvalid N n) n (fun o m k a1 a2 a3 => qvalid_ok N n o m k (by omega) a1 a2 a3) o m _ _ k [] N (by omega) (by omega) hw (by simpa using hl)
    have hz : ((k.enc.length : Int) = 0) = (k.len = 0) := by rw [Cl.enc_len]; exact propext (by omega)
    simp only [hL, hz, s_qhas, bnd1_mk, br_dec, br_not, vC, vL, Bool.and_true]
    by_cases h0 : o = 0
    · subst h0; by_cases hm : m = 0 <;> simp [hm]
    by_cases h1 : o = 1
    · subst h1; by_cases hm : m = 0 <;> simp [hm]
    by_cases h2 : o = 2
    · subst h2; by_cases ha : 1 ≤ m <;> by_cases hb : m ≤ 8 <;> simp [ha, hb]
    by_cases h3 : o = 3
    · subst h3; by_cases ha : 1 ≤ m <;> by_cases hb : m ≤ 8 <;> simp [ha, hb]
    by_cases h4 : o = 4
    · subst h4; by_cases ha : 1 ≤ m <;> by_cases hb : m ≤ 5 <;> simp [ha, hb]
    by_cases h5 : o = 5
    · subst h5; by_cases ha : 1 ≤ m <;> by_cases hb : bitsI BinOp.and IntKind.i64 51 m = m <;> simp [ha, hb]
    by_cases h6 : o = 6
    · subst h6; by_cases hm : m = 0 <;> by_cases hk : k.len = 0 <;> cases hv : vL k <;> simp [hm, hk]
    by_cases h7 : o = 7
    · subst h7; by_cases hm : m = 0 <;> by_cases hk : k.len = 0 <;> cases hv : vL k <;> simp [hm, hk]
    simp [h0, h1, h2, h3, h4, h5, h6, h7]
end Go.Proofs.YtahemenhcoedgaaDoor.En

/- Words for security statuses: bits as vectors. No program in sight. -/
namespace Go.Proofs.YtahemenhcoedgaaDoor.En
open Go
set_option linter.unusedVariables false
def bv (a : Int) : BitVec 64 := BitVec.ofInt 64 a
theorem bv_toNat (a : Int) : (bv a).toNat = (a % 18446744073709551616).toNat := ofInt_toNat64 a
theorem bv_wrap (n : Int) : bv (IntKind.i64.wrap n) = bv n := by
  apply BitVec.eq_of_toNat_eq
  rw [bv_toNat, bv_toNat, IntKind.wrap_i64]; omega
theorem bv_nat (x : BitVec 64) : bv (x.toNat : Int) = x := by
  apply BitVec.eq_of_toNat_eq
  have := x.isLt
  rw [bv_toNat]; omega
theorem bv_inj {a b : Int} (ha : -9223372036854775808 ≤ a ∧ a ≤ 9223372036854775807) (hb : -9223372036854775808 ≤ b ∧ b ≤ 9223372036854775807) (h : bv a = bv b) : a = b := by
  have := congrArg BitVec.toNat h
  rw [bv_toNat, bv_toNat] at this; omega
theorem wrap_range (n : Int) : -9223372036854775808 ≤ IntKind.i64.wrap n ∧ IntKind.i64.wrap n ≤ 9223372036854775807 := by
  rw [IntKind.wrap_i64]; omega
theorem bv_and (a b : Int) : bv (bitsI .and .i64 a b) = bv a &&& bv b := by
  show bv (IntKind.i64.wrap ((bv a &&& bv b).toNat : Int)) = _
  rw [bv_wrap, bv_nat]
theorem bv_or (a b : Int) : bv (bitsI .or .i64 a b) = bv a ||| bv b := by
  show bv (IntKind.i64.wrap ((bv a ||| bv b).toNat : Int)) = _
  rw [bv_wrap, bv_nat]
theorem and_range (a b : Int) : -9223372036854775808 ≤ bitsI .and .i64 a b ∧ bitsI .and .i64 a b ≤ 9223372036854775807 := wrap_range _
/-- All bits of y are in x. -/
def hasB (x y : BitVec 64) : Bool := decide (x &&& y = y)
theorem has_iff (a b : Int) (hb : -9223372036854775808 ≤ b ∧ b ≤ 9223372036854775807) : decide (bitsI .and .i64 a b = b) = hasB (bv a) (bv b) := by
  unfold hasB
  rw [decide_eq_decide]
  constructor
  · intro h; rw [← bv_and, h]
  · intro h; exact bv_inj (and_range a b) hb (by rw [bv_and, h])
theorem hasB_iff (x y : BitVec 64) : hasB x y = true ↔ ∀ i, i < 64 → y.getLsbD i = true → x.getLsbD i = true := by
  unfold hasB
  rw [decide_eq_true_iff]
  constructor
  · intro h i hi hy
    rw [← h, BitVec.getLsbD_and] at hy
    simp at hy; exact hy.1
  · intro h
    apply BitVec.eq_of_getLsbD_eq
    intro i hi
    rw [BitVec.getLsbD_and]
    cases hy : y.getLsbD i with
    | false => simp
    | true => simp [h i hi hy]
theorem hasB_refl (x : BitVec 64) : hasB x x = true := by rw [hasB_iff]; intros; assumption
theorem hasB_trans {x y z : BitVec 64} (h : hasB x y = true) (k : hasB y z = true) : hasB x z = true := by
  rw [hasB_iff] at *
  exact fun i hi hz => h i hi (k i hi hz)
theorem hasB_or_left (x y : BitVec 64) : hasB (x ||| y) x = true := by rw [hasB_iff]; intro i _ h; rw [BitVec.getLsbD_or, h]; rfl
/-- A security status: PINs, keys, state, level. -/
structure Sec where
  p : Int
  k : Int
  s : Int
  l : Int
def Sec.enc (x : Sec) : V := .agg [.int .i64 x.p, .int .i64 x.k, .int .i64 x.s, .int .i64 x.l]
/-- x has at most the rights of y. -/
def Sec.le (x y : Sec) : Prop := hasB (bv y.p) (bv x.p) = true ∧ hasB (bv y.k) (bv x.k) = true ∧ (x.s ≤ 0 ∨ x.s ≤ y.s) ∧ hasB (bv y.l) (bv x.l) = true
theorem Sec.le_refl (x : Sec) : x.le x := ⟨hasB_refl _, hasB_refl _, .inr (Int.le_refl _), hasB_refl _⟩
theorem Sec.le_trans {x y z : Sec} (h : x.le y) (k : y.le z) : x.le z := by
  obtain ⟨a, b, c, d⟩ := h
  obtain ⟨a', b', c', d'⟩ := k
  exact ⟨hasB_trans a' a, hasB_trans b' b, by omega, hasB_trans d' d⟩
def Sec.join (x y : Sec) : Sec := ⟨bitsI .or .i64 x.p y.p, bitsI .or .i64 x.k y.k, max x.s y.s, bitsI .or .i64 x.l y.l⟩
/-- 2^n, n from 0 to 62. -/
def p2 (n : Nat) : Int := ((2 ^ n : Nat) : Int)
theorem p2_range {n : Nat} (h : n ≤ 62) : 0 < p2 n ∧ p2 n ≤ 4611686018427387904 := by
  have hp : (2 ^ n : Nat) ≤ 2 ^ 62 := Nat.pow_le_pow_right (by omega) h
  have h0 : 0 < 2 ^ n := Nat.pos_of_ne_zero (by simp)
  unfold p2; omega
theorem shl1 {n : Nat} (h : n ≤ 62) : shlI .i64 1 (n : Int) = p2 n := by
  have := p2_range h
  show IntKind.i64.wrap (1 * 2 ^ (min ((n : Int).toNat) 64)) = _
  rw [Int.toNat_natCast, Nat.min_eq_left (by omega), Int.one_mul]
  have e : (2 : Int) ^ n = p2 n := by unfold p2; push_cast; rfl
  rw [e, w64 (by omega) (by omega)]
theorem shr_n (a : Int) {n : Nat} (h : n ≤ 62) : shrI .i64 a (n : Int) = a / p2 n := by
  have := p2_range h
  show a.fdiv (2 ^ (min ((n : Int).toNat) 64)) = _
  rw [Int.toNat_natCast, Nat.min_eq_left (by omega)]
  have e : (2 : Int) ^ n = p2 n := by unfold p2; push_cast; rfl
  rw [e, fdiv_pos _ _ (by omega)]
theorem and1 (a : Int) : bitsI .and .i64 a 1 = a % 2 := and_mask a 1 (by omega)
/-- The program's test of a bit is the reference's. -/
theorem bit_test (a : Int) {n : Nat} (h : n ≤ 62) : decide (bitsI .and .i64 (shrI .i64 a (n : Int)) 1 = 1) = hasB (bv a) (bv (p2 n)) := by
  have h2 := p2_range h
  rw [← has_iff a (p2 n) (by omega), shr_n a h, and1, decide_eq_decide]
  have := and_bit a n h
  show _ ↔ bitsI .and .i64 a ((2 ^ n : Nat) : Int) = ((2 ^ n : Nat) : Int)
  rw [this]
  have e : ((2 ^ n : Nat) : Int) = p2 n := rfl
  rw [e]
  have h3 : a / p2 n % 2 = 0 ∨ a / p2 n % 2 = 1 := by omega
  rcases h3 with h3 | h3 <;> rw [h3] <;> simp <;> omega
/-- One condition without kids, given its operation and number. -/
def satB (x : Sec) (o m : Int) : Bool :=
  if o = 1 then true else if o = 2 then hasB (bv x.p) (bv (p2 m.toNat)) else if o = 3 then hasB (bv x.k) (bv (p2 m.toNat)) else if o = 4 then decide (m ≤ x.s) else if o = 5 then hasB (bv x.l) (bv m) else false
theorem satB_mono {x y : Sec} (h : x.le y) (o m : Int) (hm : o = 4 → 1 ≤ m) (hs : satB x o m = true) : satB y o m = true := by
  obtain ⟨a, b, c, d⟩ := h
  unfold satB at *
  split at hs
  · rename_i c1; rw [if_pos c1]
  rename_i c1; rw [if_neg c1]
  split at hs
  · rename_i c2; rw [if_pos c2]; exact hasB_trans a hs
  rename_i c2; rw [if_neg c2]
  split at hs
  · rename_i c3; rw [if_pos c3]; exact hasB_trans b hs
  rename_i c3; rw [if_neg c3]
  split at hs
  · rename_i c4; rw [if_pos c4]
    have := hm c4
    simp only [decide_eq_true_eq] at *
    omega
  rename_i c4; rw [if_neg c4]
  split at hs
  · rename_i c5; rw [if_pos c5]; exact hasB_trans d hs
  · cases hs
end Go.Proofs.YtahemenhcoedgaaDoor.En

/- Which conditions imply which: plain. -/
namespace Go.Proofs.YtahemenhcoedgaaDoor.En
open Go
set_option linter.unusedVariables false
/-- All of the list are satisfied; one of the list is satisfied. -/
def sq (x : Sec) : Cl → Bool → Bool
  | .nil, all => all
  | .cons o m k r, all => bif all then (if o = 6 then sq x k true else if o = 7 then sq x k false else satB x o m) && sq x r true else (if o = 6 then sq x k true else if o = 7 then sq x k false else satB x o m) || sq x r false
def satC (x : Sec) (o m : Int) (k : Cl) : Bool := if o = 6 then sq x k true else if o = 7 then sq x k false else satB x o m
theorem sq_cons (x : Sec) (o m : Int) (k r : Cl) (all : Bool) : sq x (.cons o m k r) all = bif all then satC x o m k && sq x r true else satC x o m k || sq x r false := by
  conv => lhs; unfold sq
  rfl
/-- What is known of a valid condition. -/
theorem vC_leaf {o m : Int} {k : Cl} (h : vC o m k = true) : (o = 0 ∧ m = 0 ∧ k = .nil) ∨ (o = 1 ∧ m = 0 ∧ k = .nil) ∨ (o = 2 ∧ 1 ≤ m ∧ m ≤ 8 ∧ k = .nil) ∨ (o = 3 ∧ 1 ≤ m ∧ m ≤ 8 ∧ k = .nil) ∨ (o = 4 ∧ 1 ≤ m ∧ m ≤ 5 ∧ k = .nil) ∨ (o = 5 ∧ 1 ≤ m ∧ bitsI BinOp.and IntKind.i64 51 m = m ∧ k = .nil) ∨ ((o = 6 ∨ o = 7) ∧ m = 0 ∧ k ≠ .nil ∧ vL k = true) := by
  have hnil : ∀ k : Cl, k.len = 0 → k = .nil := by intro k; cases k <;> simp [Cl.len]
  simp only [vC, vL, Bool.and_true] at h
  by_cases h0 : o = 0 ∨ o = 1
  · rw [if_pos h0] at h
    simp only [Bool.and_eq_true, decide_eq_true_eq] at h
    have := hnil k h.2
    rcases h0 with h0 | h0
    · exact .inl ⟨h0, h.1, this⟩
    · exact .inr (.inl ⟨h0, h.1, this⟩)
  rw [if_neg h0] at h
  by_cases h2 : o = 2 ∨ o = 3
  · rw [if_pos h2] at h
    simp only [Bool.and_eq_true, decide_eq_true_eq] at h
    have := hnil k h.2
    rcases h2 with h2 | h2
    · exact .inr (.inr (.inl ⟨h2, h.1.1, h.1.2, this⟩))
    · exact .inr (.inr (.inr (.inl ⟨h2, h.1.1, h.1.2, this⟩)))
  rw [if_neg h2] at h
  by_cases h4 : o = 4
  · rw [if_pos h4] at h
    simp only [Bool.and_eq_true, decide_eq_true_eq] at h
    exact .inr (.inr (.inr (.inr (.inl ⟨h4, h.1.1, h.1.2, hnil k h.2⟩))))
  rw [if_neg h4] at h
  by_cases h5 : o = 5
  · rw [if_pos h5] at h
    simp only [Bool.and_eq_true, decide_eq_true_eq] at h
    exact .inr (.inr (.inr (.inr (.inr (.inl ⟨h5, h.1.1, h.1.2, hnil k h.2⟩)))))
  rw [if_neg h5] at h
  by_cases h6 : o = 6 ∨ o = 7
  · rw [if_pos h6] at h
    simp only [Bool.and_eq_true, decide_eq_true_eq, Bool.not_eq_true', decide_eq_false_iff_not] at h
    exact .inr (.inr (.inr (.inr (.inr (.inr ⟨h6, h.1.1, fun e => h.1.2 (by rw [e]; rfl), h.2⟩)))))
  · rw [if_neg h6] at h; cases h
theorem vC_four {o m : Int} {k : Cl} (h : vC o m k = true) (h4 : o = 4) : 1 ≤ m := by
  rcases vC_leaf h with h | h | h | h | h | h | h <;> omega
/-- More rights never make a condition false. -/
theorem sq_mono {x y : Sec} (h : x.le y) : ∀ (l : Cl) (all : Bool), vL l = true → sq x l all = true → sq y l all = true
  | .nil, all, _, hs => hs
  | .cons o m k r, all, hv, hs => by
    rw [vL_cons, Bool.and_eq_true] at hv
    rw [sq_cons] at hs ⊢
    have hC : satC x o m k = true → satC y o m k = true := by
      unfold satC
      intro hc
      by_cases h6 : o = 6
      · rw [if_pos h6] at hc ⊢
        have : vL k = true := by rcases vC_leaf hv.1 with h | h | h | h | h | h | h <;> first | omega | exact h.2.2.2
        exact sq_mono h k true this hc
      rw [if_neg h6] at hc ⊢
      by_cases h7 : o = 7
      · rw [if_pos h7] at hc ⊢
        have : vL k = true := by rcases vC_leaf hv.1 with h | h | h | h | h | h | h <;> first | omega | exact h.2.2.2
        exact sq_mono h k false this hc
      rw [if_neg h7] at hc ⊢
      exact satB_mono h o m (vC_four hv.1) hc
    cases all with
    | true =>
      simp only [cond_true, Bool.and_eq_true] at hs ⊢
      exact ⟨hC hs.1, sq_mono h r true hv.2 hs.2⟩
    | false =>
      simp only [cond_false, Bool.or_eq_true] at hs ⊢
      rcases hs with hs | hs
      · exact .inl (hC hs)
      · exact .inr (sq_mono h r false hv.2 hs)
theorem satC_mono {x y : Sec} (h : x.le y) {o m : Int} {k : Cl} (hv : vC o m k = true) (hs : satC x o m k = true) : satC y o m k = true := by
  have := sq_mono h (.cons o m k .nil) true hv (by rw [sq_cons]; simp [hs, sq])
  rw [sq_cons] at this
  simpa [sq] using this
/-! The program's statuses -/
instance : DecidableEq Sec := fun x y => by
  cases x with | mk a b c d => cases y with | mk e f g h =>
  exact decidable_of_iff (a = e ∧ b = f ∧ c = g ∧ d = h) (by simp)
def addS (next : List Sec) (s : Sec) : List Sec := if s ∈ next then next else next ++ [s]
def prod1 (x : Sec) : List Sec → List Sec → List Sec
  | next, [] => next
  | next, y :: ys => prod1 x (addS next (x.join y)) ys
def prod (ys : List Sec) : List Sec → List Sec → List Sec
  | next, [] => next
  | next, x :: xs => prod ys (prod1 x next ys) xs
def zeroS : Sec := ⟨0, 0, 0, 0⟩
def baseS (o m : Int) : List Sec :=
  if o = 1 then [zeroS] else if o = 2 then [⟨p2 m.toNat, 0, 0, 0⟩] else if o = 3 then [⟨0, p2 m.toNat, 0, 0⟩] else if o = 4 then [⟨0, 0, m, 0⟩] else if o = 5 then [⟨0, 0, 0, m⟩] else []
def lq : Cl → Bool → List Sec → List Sec
  | .nil, _, out => out
  | .cons o m k r, all, out => lq r all (bif all then prod out [] (if o = 6 then lq k true [zeroS] else if o = 7 then lq k false [] else baseS o m) else out ++ (if o = 6 then lq k true [zeroS] else if o = 7 then lq k false [] else baseS o m))
def lC (o m : Int) (k : Cl) : List Sec := if o = 6 then lq k true [zeroS] else if o = 7 then lq k false [] else baseS o m
theorem lq_cons (o m : Int) (k r : Cl) (all : Bool) (out : List Sec) : lq (.cons o m k r) all out = lq r all (bif all then prod out [] (lC o m k) else out ++ lC o m k) := by
  conv => lhs; unfold lq
  rfl
theorem len_addS (next : List Sec) (s : Sec) : (addS next s).length ≤ next.length + 1 := by
  unfold addS; split <;> simp
theorem len_prod1 (x : Sec) : ∀ (ys next : List Sec), (prod1 x next ys).length ≤ next.length + ys.length
  | [], next => by simp [prod1]
  | y :: ys, next => by
    unfold prod1
    have := len_prod1 x ys (addS next (x.join y))
    have := len_addS next (x.join y)
    simp only [List.length_cons]; omega
theorem len_prod (ys : List Sec) : ∀ (xs next : List Sec), (prod ys next xs).length ≤ next.length + xs.length * ys.length
  | [], next => by simp [prod]
  | x :: xs, next => by
    unfold prod
    have := len_prod ys xs (prod1 x next ys)
    have := len_prod1 x ys next
    rw [List.length_cons, Nat.succ_mul]; omega
theorem two_add (a b : Nat) : 2 ^ a + 2 ^ b ≤ 2 ^ (a + b + 1) := by
  have h1 : 2 ^ a ≤ 2 ^ (a + b) := Nat.pow_le_pow_right (by omega) (by omega)
  have h2 : 2 ^ b ≤ 2 ^ (a + b) := Nat.pow_le_pow_right (by omega) (by omega)
  rw [Nat.pow_succ]; omega
theorem len_base (o m : Int) : (baseS o m).length ≤ 1 := by
  unfold baseS
  (repeat' split) <;> simp
theorem len_lq : ∀ (l : Cl) (out : List Sec), (lq l true out).length ≤ out.length * 2 ^ l.nodes ∧ (lq l false out).length ≤ out.length + 2 ^ l.nodes
  | .nil, out => by simp [lq, Cl.nodes]
  | .cons o m k r, out => by
    rw [lq_cons, lq_cons]
    have hk := len_lq k [zeroS]
    have hk2 := len_lq k []
    have hp : 1 ≤ 2 ^ k.nodes := Nat.one_le_two_pow
    have hpr : 1 ≤ 2 ^ r.nodes := Nat.one_le_two_pow
    have hl : (lC o m k).length ≤ 2 ^ k.nodes := by
      unfold lC
      split
      · simpa using hk.1
      split
      · simpa using hk2.2
      · exact Nat.le_trans (len_base o m) hp
    have h1 := (len_lq r (prod out [] (lC o m k))).1
    have h2 := (len_lq r (out ++ lC o m k)).2
    have h3 := len_prod out (lC o m k) []
    constructor
    · simp only [cond_true, Cl.nodes]
      refine Nat.le_trans h1 ?_
      have e : out.length * 2 ^ (k.nodes + r.nodes + 1) = (2 ^ k.nodes * out.length) * 2 ^ r.nodes * 2 := by
        rw [Nat.pow_succ, Nat.pow_add]; simp only [Nat.mul_comm, Nat.mul_left_comm, Nat.mul_assoc]
      rw [e]
      have h4 : (prod out [] (lC o m k)).length ≤ 2 ^ k.nodes * out.length := by
        refine Nat.le_trans h3 ?_
        simp only [List.length_nil, Nat.zero_add]
        exact Nat.mul_le_mul_right _ hl
      have h5 := Nat.mul_le_mul_right (2 ^ r.nodes) h4
      omega
    · simp only [cond_false, Cl.nodes]
      refine Nat.le_trans h2 ?_
      rw [List.length_append]
      have := two_add k.nodes r.nodes
      omega
end Go.Proofs.YtahemenhcoedgaaDoor.En

/- Which conditions imply which: the reference's trial of all statuses. Plain. -/
namespace Go.Proofs.YtahemenhcoedgaaDoor.En
open Go
set_option linter.unusedVariables false
abbrev At := Int × Int
theorem level_range {n : Int} (h1 : 1 ≤ n) (h : bitsI BinOp.and IntKind.i64 51 n = n) : n ≤ 51 := by
  have e : bitsI BinOp.and IntKind.i64 51 n = IntKind.i64.wrap ((bv 51 &&& bv n).toNat : Int) := rfl
  have h2 : (bv 51 &&& bv n).toNat ≤ 51 := by
    rw [BitVec.toNat_and]
    exact Nat.le_trans Nat.and_le_left (by decide)
  rw [e, w64 (by omega) (by omega)] at h
  omega
/-! The trial -/
/-- What is still to come is not there. -/
def fresh (s : Sec) (l : List At) : Prop := ∀ a ∈ l, (a.1 = 2 → bv s.p &&& bv (p2 a.2.toNat) = 0#64) ∧ (a.1 = 3 → bv s.k &&& bv (p2 a.2.toNat) = 0#64) ∧ (a.1 = 5 → bv s.l &&& bv a.2 = 0#64)
end Go.Proofs.YtahemenhcoedgaaDoor.En

/- Lists of data objects as plain data; the budget of the statements. -/
namespace Go.Proofs.YtahemenhcoedgaaDoor.En
open Go
set_option linter.unusedVariables false
/-- A list of data objects: the first one's tag, value and kids, and the rest of the list. -/
inductive Tl where
  | nil
  | cons (tag : Int) (value : List UInt8) (kids : Tl) (rest : Tl)
  deriving DecidableEq
namespace Tl
def len : Tl → Nat
  | nil => 0
  | cons _ _ _ r => r.len + 1
def nodes : Tl → Nat
  | nil => 0
  | cons _ _ k r => k.nodes + r.nodes + 1
def append : Tl → Tl → Tl
  | nil, u => u
  | cons t v k r, u => cons t v k (r.append u)
def enc : Tl → List V
  | nil => []
  | cons t v k r => .agg [.int .i64 t, .bytes v, .sl 67 k.enc] :: r.enc
/-- As it came in: tags are of type int, slices have lengths. -/
def wf : Tl → Prop
  | nil => True
  | cons t v k r => (-9223372036854775808 ≤ t ∧ t ≤ 9223372036854775807) ∧ v.length ≤ 9223372036854775807 ∧ k.len ≤ 9223372036854775807 ∧ k.wf ∧ r.wf
/-- Objects and bytes. -/
def wt : Tl → Nat
  | nil => 0
  | cons _ v k r => v.length + 1 + k.wt + r.wt
theorem enc_len : ∀ l : Tl, l.enc.length = l.len
  | nil => rfl
  | cons t v k r => by simp [enc, len, enc_len r]
theorem len_le : ∀ l : Tl, l.len ≤ l.nodes
  | nil => Nat.le_refl _
  | cons t v k r => by have := len_le r; simp only [len, nodes]; omega
theorem enc_append : ∀ a b : Tl, (a.append b).enc = a.enc ++ b.enc
  | nil, b => rfl
  | cons t v k r, b => by simp only [append, enc, enc_append r b, List.cons_append]
theorem len_append : ∀ a b : Tl, (a.append b).len = a.len + b.len
  | nil, b => by simp [append, len]
  | cons t v k r, b => by simp only [append, len, len_append r b]; omega
theorem append_nil : ∀ a : Tl, a.append nil = a
  | nil => rfl
  | cons t v k r => by simp only [append, append_nil r]
end Tl
end Go.Proofs.YtahemenhcoedgaaDoor.En

/- Tags and lengths of data objects: what the program and the reference compute. -/
namespace Go.Proofs.YtahemenhcoedgaaDoor.En
open Go
set_option linter.unusedVariables false
def I64 (t : Int) : Prop := -9223372036854775808 ≤ t ∧ t ≤ 9223372036854775807
def tagV (t : Int) : Bool := decide ((1 ≤ t ∧ t ≤ 255 ∧ t % 32 ≠ 31) ∨ (256 ≤ t ∧ t ≤ 65535 ∧ t / 256 % 32 = 31 ∧ 31 ≤ t % 256 ∧ t % 256 ≤ 127))
def tagC (t : Int) : Bool := tagV t && decide ((if 255 < t then t / 256 else t) / 32 % 2 = 1)
theorem Valid_eq (N : Nat) (t : Int) (h : I64 t) : s_Valid N t = some (tagV t) := by
  unfold s_Valid
  simp only [br_t, br_f, br_dec, br_not, br_and, br_or, bnd1_mk, bnd2_mk, bnd3_mk, bnd4_mk, bnd5_mk, at_zero, at_succ, at_mid, unInt_mk, unBool_mk, unStr_mk, unBytes_mk, unSl_mk, unAgg_mk, unCons_mk, unNil_mk, and31, and255, shr8]
  repeat' split
  all_goals (congr 1; rw [Bool.eq_iff_iff]; simp [tagV]; omega)
theorem Constructed_eq (N : Nat) (t : Int) (h : I64 t) : s_Constructed N t = some (tagC t) := by
  unfold s_Constructed tagC
  simp only [br_t, br_f, br_dec, br_not, br_and, br_or, bnd1_mk, bnd2_mk, bnd3_mk, bnd4_mk, bnd5_mk, at_zero, at_succ, at_mid, unInt_mk, unBool_mk, unStr_mk, unBytes_mk, unSl_mk, unAgg_mk, unCons_mk, unNil_mk, Valid_eq N t h, and32, shr8]
  cases tagV t with
  | false => simp [br]
  | true =>
    simp only [br_t, Bool.true_and]
    by_cases hc : 255 < t
    · rw [if_pos hc, if_pos hc]; congr 1; rw [Bool.eq_iff_iff]; simp; omega
    · rw [if_neg hc, if_neg hc]; congr 1; rw [Bool.eq_iff_iff]; simp; omega
/-! The bytes of tags and lengths -/
def byteI (n : Int) : UInt8 := UInt8.ofNat (n % 256).toNat
def tagB (t : Int) : List UInt8 := if 255 < t then [byteI (t / 256), byteI t] else [byteI t]
def lenB (n : Int) : List UInt8 := if n < 128 then [byteI n] else if n < 256 then [129, byteI n] else [130, byteI (n / 256), byteI n]
theorem tagBytes_eq (N : Nat) (t : Int) : s_tagBytes N t = some (tagB t) := by
  unfold s_tagBytes tagB byteI
  simp only [br_t, br_f, br_dec, br_not, br_and, br_or, bnd1_mk, bnd2_mk, bnd3_mk, bnd4_mk, bnd5_mk, at_zero, at_succ, at_mid, unInt_mk, unBool_mk, unStr_mk, unBytes_mk, unSl_mk, unAgg_mk, unCons_mk, unNil_mk, shr8, wu8]
  split <;> rfl
theorem lengthBytes_eq (N : Nat) (n : Int) : s_lengthBytes N n = some (lenB n) := by
  unfold s_lengthBytes lenB byteI
  simp only [br_t, br_f, br_dec, br_not, br_and, br_or, bnd1_mk, bnd2_mk, bnd3_mk, bnd4_mk, bnd5_mk, at_zero, at_succ, at_mid, unInt_mk, unBool_mk, unStr_mk, unBytes_mk, unSl_mk, unAgg_mk, unCons_mk, unNil_mk, shr8, wu8]
  repeat' split
  all_goals rfl
end Go.Proofs.YtahemenhcoedgaaDoor.En

/- The bytes of conditions: there and back. Plain. -/
namespace Go.Proofs.YtahemenhcoedgaaDoor.En
open Go
set_option linter.unusedVariables false
/-- The bytes of a list of conditions. -/
def eL : Cl → List UInt8
  | .nil => []
  | .cons o m k r => (byteI o :: (if 6 ≤ o then byteI (k.len : Int) :: eL k else if 2 ≤ o then [byteI m] else [])) ++ eL r
def eC (o m : Int) (k : Cl) : List UInt8 := byteI o :: (if 6 ≤ o then byteI (k.len : Int) :: eL k else if 2 ≤ o then [byteI m] else [])
theorem eL_cons (o m : Int) (k r : Cl) : eL (.cons o m k r) = eC o m k ++ eL r := by
  conv => lhs; unfold eL
  rfl
/-- The depth. -/
def Cl.dep : Cl → Nat
  | .nil => 0
  | .cons _ _ k r => max (k.dep + 1) r.dep
theorem Cl.dep_le : ∀ l : Cl, l.dep ≤ l.nodes
  | .nil => Nat.le_refl _
  | .cons o m k r => by
    have := dep_le k
    have := dep_le r
    simp only [Cl.dep, Cl.nodes]; omega
theorem eL_len : ∀ l : Cl, (eL l).length ≤ 2 * l.nodes
  | .nil => Nat.le_refl _
  | .cons o m k r => by
    have h1 := eL_len k
    have h2 := eL_len r
    rw [eL_cons]
    unfold eC
    simp only [List.length_append, List.length_cons, Cl.nodes]
    split
    · simp only [List.length_cons]; omega
    split
    · simp; omega
    · simp; omega
/-! Reading -/
def rdL (f : List UInt8 → Option ((Int × Int × Cl) × List UInt8)) : Nat → List UInt8 → Option (Cl × List UInt8)
  | 0, b => some (.nil, b)
  | n + 1, b => match f b with
    | none => none
    | some ((o, m, k), rest) => match rdL f n rest with
      | none => none
      | some (r, rest') => some (.cons o m k r, rest')
def rd (lim : Int) : Nat → List UInt8 → Option ((Int × Int × Cl) × List UInt8)
  | 0, _ => none
  | _ + 1, [] => none
  | d + 1, op :: b =>
    if lim < (op.toNat : Int) then none
    else if (op.toNat : Int) < 2 then some (((op.toNat : Int), 0, .nil), b)
    else match b with
      | [] => none
      | n :: b =>
        if (op.toNat : Int) < 6 then some (((op.toNat : Int), (n.toNat : Int), .nil), b)
        else match rdL (rd lim d) n.toNat b with
          | none => none
          | some (k, rest) => some (((op.toNat : Int), 0, k), rest)
end Go.Proofs.YtahemenhcoedgaaDoor.En

/- Encoding data objects: what the program and the reference compute. -/
namespace Go.Proofs.YtahemenhcoedgaaDoor.En
open Go
set_option linter.unusedVariables false
def Tl.isNil : Tl → Bool
  | .nil => true
  | _ => false
def okL : Int → Tl → Bool
  | _, .nil => true
  | d, .cons t v k r => (decide (d ≤ 8) && (tagV t && (bif tagC t then v.isEmpty && okL (d + 1) k else k.isNil))) && okL d r
def encL : Tl → List UInt8
  | .nil => []
  | .cons t v k r => (tagB t ++ lenB ((bif tagC t then encL k else v).length : Int) ++ (bif tagC t then encL k else v)) ++ encL r
theorem encL_cons (t : Int) (v : List UInt8) (k r : Tl) : encL (.cons t v k r) = (tagB t ++ lenB ((bif tagC t then encL k else v).length : Int) ++ (bif tagC t then encL k else v)) ++ encL r := by
  conv => lhs; unfold encL
theorem isNil_len (k : Tl) : k.isNil = decide (k.len = 0) := by cases k <;> simp [Tl.isNil, Tl.len]
theorem tagB_len (t : Int) : 1 ≤ (tagB t).length ∧ (tagB t).length ≤ 2 := by unfold tagB; split <;> simp
theorem lenB_len (n : Int) : 1 ≤ (lenB n).length ∧ (lenB n).length ≤ 3 := by unfold lenB; (repeat' split) <;> simp
section
variable (N : Nat) (n : Nat) (d : Int)
abbrev L63 (k : Tl) : Prop := k.len ≤ 9223372036854775807
theorem mid (pre : List V) (x : V) (suf : List V) : pre ++ x :: suf = (pre ++ [x]) ++ suf := by simp
/-- What a step through a list knows. -/
theorem stepI (pre : List V) (x : V) (suf : List V) (h : pre.length + (suf.length + 1) ≤ 9223372036854775807) :
    (pre.length : Int) < ((pre ++ x :: suf).length : Int) ∧ (0 : Int) ≤ pre.length ∧ IntKind.i64.wrap ((pre.length : Int) + 1) = ((pre ++ [x]).length : Int) ∧ ((pre ++ x :: suf).length : Int) = (((pre ++ [x]) ++ suf).length : Int) := by
  refine ⟨by simp; omega, by omega, ?_, by simp⟩
  rw [w64 (by omega) (by omega)]; simp
theorem endI (pre : List V) : ¬ ((pre.length : Int) < ((pre ++ ([] : List V)).length : Int)) := by simp
theorem IndexFuncV_loop (f : List V → Int → Option Bool) (hd : -9223372036854775808 ≤ d ∧ d ≤ 1000) (hf : ∀ (k : Tl), d ≤ 8 → k.nodes < n → k.wf → L63 k → f k.enc (d + 1) = some (okL (d + 1) k)) :
    ∀ (l : Tl) (pre : List V) (t : Nat), l.len < t → l.nodes ≤ n → l.wf → pre.length + l.len ≤ 9223372036854775807 →
      ∃ i, S_IndexFuncV_2 N f (pre ++ l.enc) ((pre ++ l.enc).length : Int) d t (pre.length : Int) (fun n0 => some n0) (some (-1)) = some i ∧ decide (0 ≤ i) = !okL d l
  | l, pre, 0, ht, _, _, _ => by omega
  | .nil, pre, t + 1, ht, _, _, _ => by
    unfold S_IndexFuncV_2 F_IndexFuncV_2
    simp only [Tl.enc, br_t, br_f, br_dec, br_not, br_and, br_or, bnd1_mk, bnd2_mk, bnd3_mk, bnd4_mk, bnd5_mk, at_zero, at_succ, at_mid, unInt_mk, unBool_mk, unStr_mk, unBytes_mk, unSl_mk, unAgg_mk, unCons_mk, unNil_mk, endI, if_false]
    exact ⟨-1, rfl, by simp [okL]⟩
  | .cons tg v k r, pre, t + 1, ht, hn, hw, hl => by
    simp only [Tl.len, Tl.nodes] at ht hn hl
    obtain ⟨ht1, hv, hk1, hk2, hr⟩ := hw
    obtain ⟨h1, h2, h3, h4⟩ := stepI pre (.agg [.int .i64 tg, .bytes v, .sl 67 k.enc]) r.enc (by rw [Tl.enc_len]; exact hl)
    obtain ⟨i, ih1, ih2⟩ := IndexFuncV_loop f hd hf r (pre ++ [.agg [.int .i64 tg, .bytes v, .sl 67 k.enc]]) t (by omega) (by omega) hr (by simp; omega)
    rw [← mid, ← h3] at ih1
    unfold S_IndexFuncV_2 F_IndexFuncV_2 s_valid1 C_valid1 okL
    simp only [Tl.enc, br_t, br_f, br_dec, br_not, br_and, br_or, bnd1_mk, bnd2_mk, bnd3_mk, bnd4_mk, bnd5_mk, at_zero, at_succ, at_mid, unInt_mk, unBool_mk, unStr_mk, unBytes_mk, unSl_mk, unAgg_mk, unCons_mk, unNil_mk, h1, h2, if_true, Int.toNat_natCast, Valid_eq N tg ht1, Constructed_eq N tg ht1]
    by_cases c1 : 8 < d
    · rw [if_pos c1]
      exact ⟨_, by rw [bnd1_mk, br_t], by simp; omega⟩
    · rw [if_neg c1]
      cases tagV tg with
      | false => exact ⟨_, by rw [br_f, bnd1_mk, br_t], by simp⟩
      | true =>
        rw [br_t]
        cases tagC tg with
        | false =>
          rw [br_f, bnd1_mk, br_dec, Tl.enc_len]
          by_cases c2 : (0 : Int) < (k.len : Int)
          · rw [if_pos c2]; refine ⟨_, rfl, ?_⟩; simp [isNil_len]; omega
          · rw [if_neg c2]; refine ⟨i, ih1, ?_⟩
            rw [ih2]
            have : k.len = 0 := by omega
            simp [isNil_len, this, (by omega : d ≤ 8)]
        | true =>
          rw [br_t]
          by_cases c2 : (0 : Int) < (v.length : Int)
          · rw [if_pos c2]
            refine ⟨_, by rw [bnd1_mk, br_t], ?_⟩
            cases v with
            | nil => simp at c2
            | cons a b => simp
          · rw [if_neg c2]
            have hv0 : v = [] := List.length_eq_zero_iff.1 (by omega)
            subst hv0
            rw [w64 (n := d + 1) (by omega) (by omega), hf k (by omega) (by omega) hk2 hk1, bnd1_mk, bnd1_mk]
            cases okL (d + 1) k with
            | false => refine ⟨_, rfl, by simp⟩
            | true => refine ⟨i, ih1, ?_⟩; rw [ih2]; simp [(by omega : d ≤ 8)]
theorem valid_eq (N : Nat) : ∀ (M : Nat) (l : Tl) (d : Int), l.nodes < M → l.nodes < N → l.wf → L63 l → -9223372036854775808 ≤ d ∧ d ≤ 1000 → s_valid N M l.enc d = some (okL d l)
  | 0, l, d, h, _, _, _, _ => by omega
  | M + 1, l, d, h, hN, hw, hl, hd => by
    have := l.len_le
    obtain ⟨i, h1, h2⟩ := IndexFuncV_loop N l.nodes d (s_valid N M) hd (fun k hd8 hk hkw hkl => valid_eq N M k (d + 1) (by omega) (by omega) hkw hkl (by omega)) l [] N (by omega) (Nat.le_refl _) hw (by simpa using hl)
    simp only [List.nil_append, List.length_nil, Int.natCast_zero] at h1
    unfold s_valid B_valid s_ContainsFuncV C_ContainsFuncV s_IndexFuncV C_IndexFuncV
    have h1' : S_IndexFuncV_2 N (s_valid N M) l.enc (l.enc.length : Int) d N 0 (fun n0 => some n0) (some (-1)) = some i := h1
    rw [h1', bnd1_mk, bnd1_mk, h2, Bool.not_not]
/-! size -/
theorem size_loop (f : List V → Option Int)
    (hf : ∀ (k : Tl), k.nodes < n → k.wf → L63 k → k.wt ≤ 20000 → okL (d + 1) k = true → ∃ s, f k.enc = some s ∧ (((encL k).length : Int) ≤ 4096 → s = (encL k).length) ∧ (4096 < ((encL k).length : Int) → 4096 < s) ∧ 0 ≤ s ∧ s ≤ 5 * k.wt) :
    ∀ (l : Tl) (pre : List V) (t : Nat) (n0 : Int), l.len < t → l.nodes ≤ n → l.wf → pre.length + l.len ≤ 9223372036854775807 → l.wt ≤ 20000 → okL d l = true → 0 ≤ n0 → n0 ≤ 4096 →
      ∃ s, S_size_3 N f (pre ++ l.enc) ((pre ++ l.enc).length : Int) t n0 (pre.length : Int) (fun n0 => some n0) = some s ∧ (n0 + (encL l).length ≤ 4096 → s = n0 + (encL l).length) ∧ (4096 < n0 + (encL l).length → 4096 < s) ∧ n0 ≤ s ∧ s ≤ n0 + 5 * l.wt
  | l, pre, 0, n0, ht, _, _, _, _, _, _, _ => by omega
  | .nil, pre, t + 1, n0, ht, _, _, _, _, _, _, _ => by
    unfold S_size_3 F_size_3
    simp only [Tl.enc, br_t, br_f, br_dec, br_not, br_and, br_or, bnd1_mk, bnd2_mk, bnd3_mk, bnd4_mk, bnd5_mk, at_zero, at_succ, at_mid, unInt_mk, unBool_mk, unStr_mk, unBytes_mk, unSl_mk, unAgg_mk, unCons_mk, unNil_mk, endI, if_false]
    exact ⟨n0, rfl, fun _ => by simp [encL], fun h => by simp [encL] at h; omega, Int.le_refl _, by omega⟩
  | .cons tg v k r, pre, t + 1, n0, ht, hn, hw, hl, hwt, hok, hn0, hn1 => by
    simp only [Tl.len, Tl.nodes, Tl.wt] at ht hn hl hwt
    obtain ⟨ht1, hv, hk1, hk2, hr⟩ := hw
    obtain ⟨h1, h2, h3, h4⟩ := stepI pre (.agg [.int .i64 tg, .bytes v, .sl 67 k.enc]) r.enc (by rw [Tl.enc_len]; exact hl)
    unfold okL at hok
    simp only [Bool.and_eq_true] at hok
    obtain ⟨⟨hd8, htv, hb⟩, hokr⟩ := hok
    -- the kids
    have hkid : ∃ s, f k.enc = some s ∧ (((bif tagC tg then encL k else v).length : Int) ≤ 4096 → (v.length : Int) + s = (bif tagC tg then encL k else v).length) ∧ (4096 < ((bif tagC tg then encL k else v).length : Int) → 4096 < (v.length : Int) + s) ∧ 0 ≤ s ∧ s ≤ 5 * k.wt := by
      cases hc : tagC tg with
      | true =>
        rw [hc] at hb
        simp only [cond_true, Bool.and_eq_true] at hb
        have hv0 : v = [] := by cases v with | nil => rfl | cons a b => simp at hb
        subst hv0
        obtain ⟨s, s1, s2, s3, s4, s5⟩ := hf k (by omega) hk2 hk1 (by omega) hb.2
        exact ⟨s, s1, fun h => by rw [s2 h]; simp, fun h => by have := s3 h; simp; omega, s4, s5⟩
      | false =>
        rw [hc] at hb
        simp only [cond_false] at hb
        have hk0 : k = .nil := by cases k with | nil => rfl | cons a b c d => simp [Tl.isNil] at hb
        subst hk0
        obtain ⟨s, s1, s2, s3, s4, s5⟩ := hf .nil (by have : Tl.nil.nodes = 0 := rfl; omega) trivial (Nat.zero_le _) (Nat.zero_le _) rfl
        have hs0 : s = 0 := by have := s2 (by simp [encL]); simpa [encL] using this
        subst hs0
        exact ⟨0, s1, fun h => Int.add_zero _, fun h => by rw [Int.add_zero]; exact h, Int.le_refl _, by omega⟩
    obtain ⟨s, s1, s2, s3, s4, s5⟩ := hkid
    have hE : (encL (.cons tg v k r)).length = (tagB tg).length + (lenB ((bif tagC tg then encL k else v).length : Int)).length + (bif tagC tg then encL k else v).length + (encL r).length := by
      rw [encL_cons]; simp only [List.length_append]
    rw [hE]
    generalize hB : (bif tagC tg then encL k else v) = B at *
    have ht2 := tagB_len tg
    have hl2 := lenB_len ((v.length : Int) + s)
    have hl3 := lenB_len (B.length : Int)
    unfold S_size_3 F_size_3
    have w1 : IntKind.i64.wrap ((v.length : Int) + s) = v.length + s := w64 (by omega) (by omega)
    simp only [Tl.enc, br_t, br_f, br_dec, br_not, br_and, br_or, bnd1_mk, bnd2_mk, bnd3_mk, bnd4_mk, bnd5_mk, at_zero, at_succ, at_mid, unInt_mk, unBool_mk, unStr_mk, unBytes_mk, unSl_mk, unAgg_mk, unCons_mk, unNil_mk, h1, h2, if_true, Int.toNat_natCast, s1, tagBytes_eq, w1, lengthBytes_eq]
    have w2 : IntKind.i64.wrap (((tagB tg).length : Int) + ((lenB ((v.length : Int) + s)).length : Int)) = (tagB tg).length + (lenB ((v.length : Int) + s)).length := w64 (by omega) (by omega)
    rw [w2]
    have w3 : IntKind.i64.wrap (((tagB tg).length : Int) + ((lenB ((v.length : Int) + s)).length : Int) + ((v.length : Int) + s)) = (tagB tg).length + (lenB ((v.length : Int) + s)).length + (v.length + s) := w64 (by omega) (by omega)
    rw [w3]
    have w4 : IntKind.i64.wrap (n0 + (((tagB tg).length : Int) + ((lenB ((v.length : Int) + s)).length : Int) + ((v.length : Int) + s))) = n0 + ((tagB tg).length + (lenB ((v.length : Int) + s)).length + (v.length + s)) := w64 (by omega) (by omega)
    rw [w4]
    by_cases c1 : 4096 < n0 + (((tagB tg).length : Int) + ((lenB ((v.length : Int) + s)).length : Int) + ((v.length : Int) + s))
    · rw [if_pos c1]
      refine ⟨_, rfl, fun h => ?_, fun _ => c1, by omega, by simp only [Tl.wt]; omega⟩
      exfalso
      have e1 := s2 (by omega)
      rw [e1] at c1
      omega
    · rw [if_neg c1]
      have e1 : (v.length : Int) + s = B.length := by
        by_cases hb4 : (B.length : Int) ≤ 4096
        · exact s2 hb4
        · have := s3 (by omega); omega
      rw [e1] at c1 ⊢
      obtain ⟨q, q1, q2, q3, q4, q5⟩ := size_loop f hf r (pre ++ [.agg [.int .i64 tg, .bytes v, .sl 67 k.enc]]) t (n0 + (((tagB tg).length : Int) + ((lenB (B.length : Int)).length : Int) + (B.length : Int))) (by omega) (by omega) hr (by simp; omega) (by omega) hokr (by omega) (by omega)
      rw [← mid, ← h3] at q1
      refine ⟨q, q1, fun h => by rw [q2 (by omega)]; omega, fun h => q3 (by omega), by omega, by simp only [Tl.wt]; omega⟩
theorem size_eq (N : Nat) : ∀ (M : Nat) (l : Tl) (d : Int), l.nodes < M → l.nodes < N → l.wf → L63 l → l.wt ≤ 20000 → okL d l = true →
    ∃ s, s_size N M l.enc = some s ∧ (((encL l).length : Int) ≤ 4096 → s = (encL l).length) ∧ (4096 < ((encL l).length : Int) → 4096 < s) ∧ 0 ≤ s ∧ s ≤ 5 * l.wt
  | 0, l, d, h, _, _, _, _, _ => by omega
  | M + 1, l, d, h, hN, hw, hl, hwt, hok => by
    have := l.len_le
    obtain ⟨s, s1, s2, s3, s4, s5⟩ := size_loop N l.nodes d (s_size N M) (fun k hk hkw hkl hkwt hkok => size_eq N M k (d + 1) (by omega) (by omega) hkw hkl hkwt hkok) l [] N 0 (by omega) (Nat.le_refl _) hw (by simpa using hl) hwt hok (by omega) (by omega)
    unfold s_size B_size
    refine ⟨s, s1, fun h => by rw [s2 (by omega)]; omega, fun h => s3 (by omega), by omega, by omega⟩
/-! encode, all -/
theorem concat4 (a b c e : List UInt8) (h : a.length + b.length + c.length + e.length ≤ 1000000) : s_concat N [.bytes a, .bytes b, .bytes c, .bytes e] = some (a ++ (b ++ c ++ e)) := by
  unfold s_concat
  simp only [flatB, Option.bind_some, br_dec]
  rw [if_pos (by simp; omega)]
  simp
theorem encode_loop (f : List V → Option (List UInt8)) (hf : ∀ (k : Tl), k.nodes < n → k.wf → L63 k → (encL k).length ≤ 4096 → f k.enc = some (encL k)) :
    ∀ (l : Tl) (pre : List V) (t : Nat) (acc : List UInt8), l.len < t → l.nodes ≤ n → l.wf → pre.length + l.len ≤ 9223372036854775807 → acc.length + (encL l).length ≤ 4096 →
      S_encode_3 N f (pre ++ l.enc) ((pre ++ l.enc).length : Int) t acc (pre.length : Int) (fun l0 => some l0) = some (acc ++ encL l)
  | l, pre, 0, acc, ht, _, _, _, _ => by omega
  | .nil, pre, t + 1, acc, ht, _, _, _, _ => by
    unfold S_encode_3 F_encode_3
    simp only [Tl.enc, br_t, br_f, br_dec, br_not, br_and, br_or, bnd1_mk, bnd2_mk, bnd3_mk, bnd4_mk, bnd5_mk, at_zero, at_succ, at_mid, unInt_mk, unBool_mk, unStr_mk, unBytes_mk, unSl_mk, unAgg_mk, unCons_mk, unNil_mk, endI, if_false]
    simp [encL]
  | .cons tg v k r, pre, t + 1, acc, ht, hn, hw, hl, hE => by
    simp only [Tl.len, Tl.nodes] at ht hn hl
    obtain ⟨ht1, hv, hk1, hk2, hr⟩ := hw
    obtain ⟨h1, h2, h3, h4⟩ := stepI pre (.agg [.int .i64 tg, .bytes v, .sl 67 k.enc]) r.enc (by rw [Tl.enc_len]; exact hl)
    rw [encL_cons] at hE ⊢
    have ht2 := tagB_len tg
    unfold S_encode_3 F_encode_3
    simp only [Tl.enc, br_t, br_f, br_dec, br_not, br_and, br_or, bnd1_mk, bnd2_mk, bnd3_mk, bnd4_mk, bnd5_mk, at_zero, at_succ, at_mid, unInt_mk, unBool_mk, unStr_mk, unBytes_mk, unSl_mk, unAgg_mk, unCons_mk, unNil_mk, h1, h2, if_true, Int.toNat_natCast, Constructed_eq N tg ht1, tagBytes_eq, lengthBytes_eq]
    generalize hB : (bif tagC tg then encL k else v) = B at *
    simp only [List.length_append] at hE
    have ih := encode_loop f hf r (pre ++ [.agg [.int .i64 tg, .bytes v, .sl 67 k.enc]]) t (acc ++ (tagB tg ++ lenB (B.length : Int) ++ B)) (by omega) (by omega) hr (by simp; omega) (by simp; omega)
    rw [← mid, ← h3] at ih
    cases hc : tagC tg with
    | true =>
      rw [hc] at hB
      simp only [cond_true] at hB
      subst hB
      rw [br_t, hf k (by omega) hk2 hk1 (by omega), bnd1_mk, concat4 N _ _ _ _ (by omega), bnd1_mk, ih]; simp
    | false =>
      rw [hc] at hB
      simp only [cond_false] at hB
      subst hB
      rw [br_f, concat4 N _ _ _ _ (by omega), bnd1_mk, ih]; simp
theorem encode_eq (N : Nat) : ∀ (M : Nat) (l : Tl), l.nodes < M → l.nodes < N → l.wf → L63 l → (encL l).length ≤ 4096 → s_encode N M l.enc = some (encL l)
  | 0, l, h, _, _, _, _ => by omega
  | M + 1, l, h, hN, hw, hl, hE => by
    have := l.len_le
    exact encode_loop N l.nodes (s_encode N M) (fun k hk hkw hkl hkE => encode_eq N M k (by omega) (by omega) hkw hkl hkE) l [] N [] (by omega) (Nat.le_refl _) hw (by simpa using hl) (by simpa using hE)
/-- Encode -/
def encR (l : Tl) : List UInt8 × Int := if okL 1 l = true then (if (encL l).length ≤ 4096 then (encL l, 0) else ([], 3)) else ([], 1)
theorem Encode_eq (l : Tl) (h : l.nodes < N) (hw : l.wf) (hl : L63 l) (hwt : l.wt ≤ 20000) : s_Encode N l.enc = some (encR l) := by
  unfold s_Encode encR
  rw [valid_eq N N l 1 h h hw hl (by omega), bnd1_mk, br_not]
  cases hok : okL 1 l with
  | false => rfl
  | true =>
    obtain ⟨s, s1, s2, s3, s4, s5⟩ := size_eq N N l 1 h h hw hl hwt hok
    simp only [br_t, if_true, s1, bnd1_mk, br_dec]
    by_cases hE : (encL l).length ≤ 4096
    · rw [if_pos hE, s2 (by omega), if_neg (by omega), encode_eq N N l h h hw hl hE, bnd1_mk]
    · rw [if_neg hE, if_pos (s3 (by omega))]
end
end Go.Proofs.YtahemenhcoedgaaDoor.En

/- Conditions: which are valid, how long, how deep, satisfied: the program and the reference. -/
namespace Go.Proofs.YtahemenhcoedgaaDoor.En
open Go
set_option linter.unusedVariables false
abbrev ce (o m : Int) (k : Cl) : V := .agg [.int .i64 o, .int .i64 m, .sl 24 k.enc]
abbrev K63 (k : Cl) : Prop := k.len ≤ 9223372036854775807
theorem enc_cons (o m : Int) (k r : Cl) : (Cl.cons o m k r).enc = ce o m k :: r.enc := rfl
theorem stepC (pre : List V) (x : V) (r : Cl) (h : pre.length + (r.len + 1) ≤ 9223372036854775807) :
    (pre.length : Int) < ((pre ++ x :: r.enc).length : Int) ∧ (0 : Int) ≤ pre.length ∧ IntKind.i64.wrap ((pre.length : Int) + 1) = ((pre ++ [x]).length : Int) ∧ ((pre ++ x :: r.enc).length : Int) = (((pre ++ [x]) ++ r.enc).length : Int) :=
  stepI pre x r.enc (by rw [Cl.enc_len]; exact h)
section
variable (N : Nat)
theorem andNot_eq {m : Int} (h1 : 1 ≤ m) (h2 : m ≤ 51) : decide (bitsI BinOp.andNot IntKind.i64 m 51 = 0) = decide (bitsI BinOp.and IntKind.i64 51 m = m) := by
  have key : ∀ n : Fin 52, decide (bitsI BinOp.andNot IntKind.i64 (n.val : Int) 51 = 0) = decide (bitsI BinOp.and IntKind.i64 51 (n.val : Int) = (n.val : Int)) := by decide +kernel
  obtain ⟨k, rfl⟩ := Int.eq_ofNat_of_zero_le (by omega : 0 ≤ m)
  exact key ⟨k, by omega⟩
theorem IndexFuncA_loop (f : Int → Int → List V → Int → Option Bool) (n : Nat) (d : Int) (hf : ∀ (o m : Int) (k : Cl) (d : Int), k.nodes < n → k.wf → K63 k → f o m k.enc d = some (vC o m k)) :
    ∀ (l : Cl) (pre : List V) (t : Nat), l.len < t → l.nodes ≤ n → l.wf → pre.length + l.len ≤ 9223372036854775807 →
      ∃ i, S_IndexFuncA_2 N f (pre ++ l.enc) ((pre ++ l.enc).length : Int) d t (pre.length : Int) (fun n0 => some n0) (some (-1)) = some i ∧ decide (0 ≤ i) = !vL l
  | l, pre, 0, ht, _, _, _ => by omega
  | .nil, pre, t + 1, ht, _, _, _ => by
    unfold S_IndexFuncA_2 F_IndexFuncA_2
    simp only [Cl.enc, br_t, br_f, br_dec, br_not, br_and, br_or, bnd1_mk, bnd2_mk, bnd3_mk, bnd4_mk, bnd5_mk, at_zero, at_succ, at_mid, unInt_mk, unBool_mk, unStr_mk, unBytes_mk, unSl_mk, unAgg_mk, unCons_mk, unNil_mk, endI, if_false]
    exact ⟨-1, rfl, by simp [vL]⟩
  | .cons o m k r, pre, t + 1, ht, hn, hw, hl => by
    simp only [Cl.len, Cl.nodes] at ht hn hl
    obtain ⟨_, _, hk1, hk2, hr⟩ := hw
    obtain ⟨h1, h2, h3, h4⟩ := stepC pre (ce o m k) r hl
    obtain ⟨i, ih1, ih2⟩ := IndexFuncA_loop f n d hf r (pre ++ [ce o m k]) t (by omega) (by omega) hr (by simp; omega)
    rw [← mid, ← h3] at ih1
    unfold S_IndexFuncA_2 F_IndexFuncA_2 s_avalid1 C_avalid1
    rw [vL_cons]
    simp only [enc_cons, br_t, br_f, br_dec, br_not, br_and, br_or, bnd1_mk, bnd2_mk, bnd3_mk, bnd4_mk, bnd5_mk, at_zero, at_succ, at_mid, unInt_mk, unBool_mk, unStr_mk, unBytes_mk, unSl_mk, unAgg_mk, unCons_mk, unNil_mk, h1, h2, if_true, Int.toNat_natCast, hf o m k _ (by omega) hk2 hk1]
    cases vC o m k with
    | false => exact ⟨_, rfl, by simp⟩
    | true => exact ⟨i, ih1, by rw [ih2]; rfl⟩
theorem avalid_eq : ∀ (M : Nat) (o m : Int) (k : Cl) (d : Int), k.nodes < M → k.nodes < N → k.wf → K63 k → s_avalid N M o m k.enc d = some (vC o m k)
  | 0, o, m, k, d, h, _, _, _ => by omega
  | M + 1, o, m, k, d, h, hN, hw, hl => by
    have hln := Cl.len_le k
    obtain ⟨i, i1, i2⟩ := IndexFuncA_loop N (s_avalid N M) k.nodes d (fun o m k' d' a1 a2 a3 => avalid_eq M o m k' d' (by omega) (by omega) a2 a3) k [] N (by omega) (Nat.le_refl _) hw (by simpa using hl)
    have i1' : S_IndexFuncA_2 N (s_avalid N M) k.enc (k.enc.length : Int) d N 0 (fun n0 => some n0) (some (-1)) = some i := i1
    have hz : ((k.enc.length : Int) = 0) = (k.len = 0) := by rw [Cl.enc_len]; exact propext (by omega)
    have hp : ((0 : Int) < (k.enc.length : Int)) = (k.len ≠ 0) := by rw [Cl.enc_len]; exact propext (by omega)
    have hc : s_ContainsFuncA N (s_avalid N M) k.enc d = some (!vL k) := by
      unfold s_ContainsFuncA C_ContainsFuncA s_IndexFuncA C_IndexFuncA
      rw [i1', bnd1_mk]
      exact congrArg some i2
    have hv0 : k.len = 0 → vL k = true := by cases k <;> simp [Cl.len, vL]
    unfold s_avalid B_avalid
    simp only [hc, hz, hp, s_forms, bnd1_mk, br_dec, br_not, Bool.not_not, vC, vL, Bool.and_true]
    by_cases h0 : o < 0
    · rw [if_pos h0, if_neg (by omega), if_neg (by omega), if_neg (by omega), if_neg (by omega), if_neg (by omega)]
    rw [if_neg h0]
    by_cases h9 : 7 < o
    · rw [if_pos h9, if_neg (by omega), if_neg (by omega), if_neg (by omega), if_neg (by omega), if_neg (by omega)]
    rw [if_neg h9]
    rcases (by omega : o = 0 ∨ o = 1 ∨ o = 2 ∨ o = 3 ∨ o = 4 ∨ o = 5 ∨ o = 6 ∨ o = 7) with rfl | rfl | rfl | rfl | rfl | rfl | rfl | rfl
    · by_cases hm : m = 0 <;> by_cases hk : k.len = 0 <;> simp [hm, hk, hv0]
    · by_cases hm : m = 0 <;> by_cases hk : k.len = 0 <;> simp [hm, hk, hv0]
    · by_cases ha : m < 1 <;> by_cases hb : 8 < m <;> by_cases hk : k.len = 0 <;> simp [ha, hb, hk, hv0] <;> omega
    · by_cases ha : m < 1 <;> by_cases hb : 8 < m <;> by_cases hk : k.len = 0 <;> simp [ha, hb, hk, hv0] <;> omega
    · by_cases ha : m < 1 <;> by_cases hb : 5 < m <;> by_cases hk : k.len = 0 <;> simp [ha, hb, hk, hv0] <;> omega
    · by_cases ha : m < 1
      · simp [ha]; omega
      by_cases hb : 51 < m
      · have : ¬ bitsI BinOp.and IntKind.i64 51 m = m := fun e => by have := level_range (by omega) e; omega
        simp [ha, hb, this]
      have he := andNot_eq (m := m) (by omega) (by omega)
      rw [decide_eq_decide] at he
      by_cases hk : k.len = 0
      · by_cases hx : bitsI BinOp.and IntKind.i64 51 m = m
        · simp [ha, hb, hk, hv0, hx, he.2 hx]; omega
        · simp [ha, hb, hk, hv0, hx, he]
      · simp [ha, hb, hk]
    · by_cases hm : m = 0 <;> by_cases hk : k.len = 0 <;> simp [hm, hk]
    · by_cases hm : m = 0 <;> by_cases hk : k.len = 0 <;> simp [hm, hk]
/-! Nodes, depth -/
theorem measure_loop {R : Type} (f : Int → Int → List V → Option (Int × Int)) (n : Nat) (hf : ∀ (o m : Int) (k : Cl), k.nodes < n → k.wf → K63 k → f o m k.enc = some ((k.nodes : Int) + 1, (k.dep : Int) + 1)) (x y : Int) (z : List V) (K : Int → Int → Option R) :
    ∀ (l : Cl) (pre : List V) (t : Nat) (a b : Nat), l.len < t → l.nodes ≤ n → l.wf → pre.length + l.len ≤ 9223372036854775807 → a + l.nodes ≤ 10000 →
      S_measure_3 N f (pre ++ l.enc) ((pre ++ l.enc).length : Int) x y z t (a : Int) (b : Int) (pre.length : Int) K = K ((a + l.nodes : Nat) : Int) ((max b l.dep : Nat) : Int)
  | l, pre, 0, a, b, ht, _, _, _, _ => by omega
  | .nil, pre, t + 1, a, b, ht, _, _, _, _ => by
    unfold S_measure_3 F_measure_3
    simp only [Cl.enc, br_t, br_f, br_dec, br_not, br_and, br_or, bnd1_mk, bnd2_mk, bnd3_mk, bnd4_mk, bnd5_mk, at_zero, at_succ, at_mid, unInt_mk, unBool_mk, unStr_mk, unBytes_mk, unSl_mk, unAgg_mk, unCons_mk, unNil_mk, endI, if_false]
    simp [Cl.nodes, Cl.dep]
  | .cons o m k r, pre, t + 1, a, b, ht, hn, hw, hl, ha => by
    simp only [Cl.len, Cl.nodes] at ht hn hl ha
    obtain ⟨_, _, hk1, hk2, hr⟩ := hw
    obtain ⟨h1, h2, h3, h4⟩ := stepC pre (ce o m k) r hl
    have ih := measure_loop f n hf x y z K r (pre ++ [ce o m k]) t (a + (k.nodes + 1)) (max b (k.dep + 1)) (by omega) (by omega) hr (by simp; omega) (by omega)
    rw [← mid, ← h3] at ih
    unfold S_measure_3 F_measure_3
    simp only [enc_cons, br_t, br_f, br_dec, br_not, br_and, br_or, bnd1_mk, bnd2_mk, bnd3_mk, bnd4_mk, bnd5_mk, at_zero, at_succ, at_mid, unInt_mk, unBool_mk, unStr_mk, unBytes_mk, unSl_mk, unAgg_mk, unCons_mk, unNil_mk, h1, h2, if_true, Int.toNat_natCast, hf o m k (by omega) hk2 hk1]
    have e1 : IntKind.i64.wrap ((a : Int) + ((k.nodes : Int) + 1)) = ((a + (k.nodes + 1) : Nat) : Int) := by rw [w64 (by omega) (by omega)]; omega
    have e2 : max (b : Int) ((k.dep : Int) + 1) = ((max b (k.dep + 1) : Nat) : Int) := by omega
    rw [e1, e2, ih]
    simp only [Cl.nodes, Cl.dep]
    rw [show max (max b (k.dep + 1)) r.dep = max b (max (k.dep + 1) r.dep) by omega, show a + (k.nodes + 1) + r.nodes = a + (k.nodes + r.nodes + 1) by omega]
theorem measure_eq : ∀ (M : Nat) (o m : Int) (k : Cl), k.nodes < M → k.nodes < N → k.nodes ≤ 1000 → k.wf → K63 k → s_measure N M o m k.enc = some ((k.nodes : Int) + 1, (k.dep : Int) + 1)
  | 0, o, m, k, h, _, _, _, _ => by omega
  | M + 1, o, m, k, h, hN, hs, hw, hl => by
    have hln := Cl.len_le k
    have hd := Cl.dep_le k
    have hL := measure_loop N (s_measure N M) k.nodes (fun o m k' a1 a2 a3 => measure_eq M o m k' (by omega) (by omega) (by omega) a2 a3) o m k.enc (fun n0 n1 => some (n0, IntKind.i64.wrap (n1 + 1))) k [] N 1 0 (by omega) (Nat.le_refl _) hw (by simpa using hl) (by omega)
    unfold s_measure B_measure
    refine hL.trans ?_
    rw [w64 (by omega) (by omega)]
    congr 2 <;> omega
theorem qnodes_loop {R : Type} (f : Int → Int → List V → Option Int) (n : Nat) (hf : ∀ (o m : Int) (k : Cl), k.nodes < n → k.wf → K63 k → f o m k.enc = some ((k.nodes : Int) + 1)) (x y : Int) (K : Int → Option R) :
    ∀ (l : Cl) (pre : List V) (t : Nat) (a : Nat), l.len < t → l.nodes ≤ n → l.wf → pre.length + l.len ≤ 9223372036854775807 → a + l.nodes ≤ 10000 →
      S_qnodes_3 N f x y (pre ++ l.enc) t (a : Int) (pre.length : Int) K = K ((a + l.nodes : Nat) : Int)
  | l, pre, 0, a, ht, _, _, _, _ => by omega
  | .nil, pre, t + 1, a, ht, _, _, _, _ => by
    unfold S_qnodes_3 F_qnodes_3
    simp only [Cl.enc, br_t, br_f, br_dec, br_not, br_and, br_or, bnd1_mk, bnd2_mk, bnd3_mk, bnd4_mk, bnd5_mk, at_zero, at_succ, at_mid, unInt_mk, unBool_mk, unStr_mk, unBytes_mk, unSl_mk, unAgg_mk, unCons_mk, unNil_mk, endI, if_false]
    simp [Cl.nodes]
  | .cons o m k r, pre, t + 1, a, ht, hn, hw, hl, ha => by
    simp only [Cl.len, Cl.nodes] at ht hn hl ha
    obtain ⟨_, _, hk1, hk2, hr⟩ := hw
    obtain ⟨h1, h2, h3, h4⟩ := stepC pre (ce o m k) r hl
    have ih := qnodes_loop f n hf x y K r (pre ++ [ce o m k]) t (a + (k.nodes + 1)) (by omega) (by omega) hr (by simp; omega) (by omega)
    rw [← mid, ← h3] at ih
    unfold S_qnodes_3 F_qnodes_3
    simp only [enc_cons, br_t, br_f, br_dec, br_not, br_and, br_or, bnd1_mk, bnd2_mk, bnd3_mk, bnd4_mk, bnd5_mk, at_zero, at_succ, at_mid, unInt_mk, unBool_mk, unStr_mk, unBytes_mk, unSl_mk, unAgg_mk, unCons_mk, unNil_mk, h1, h2, if_true, Int.toNat_natCast, hf o m k (by omega) hk2 hk1]
    have e1 : IntKind.i64.wrap ((a : Int) + ((k.nodes : Int) + 1)) = ((a + (k.nodes + 1) : Nat) : Int) := by rw [w64 (by omega) (by omega)]; omega
    rw [e1, ih]
    simp only [Cl.nodes]
    rw [show a + (k.nodes + 1) + r.nodes = a + (k.nodes + r.nodes + 1) by omega]
theorem qnodes_eq : ∀ (M : Nat) (o m : Int) (k : Cl), k.nodes < M → k.nodes < N → k.nodes ≤ 1000 → k.wf → K63 k → s_qnodes N M o m k.enc = some ((k.nodes : Int) + 1)
  | 0, o, m, k, h, _, _, _, _ => by omega
  | M + 1, o, m, k, h, hN, hs, hw, hl => by
    have hln := Cl.len_le k
    have hL := qnodes_loop N (s_qnodes N M) k.nodes (fun o m k' a1 a2 a3 => qnodes_eq M o m k' (by omega) (by omega) (by omega) a2 a3) o m (fun n0 => some n0) k [] N 1 (by omega) (Nat.le_refl _) hw (by simpa using hl) (by omega)
    unfold s_qnodes B_qnodes
    refine hL.trans ?_
    congr 1 <;> omega
theorem qdepth_loop {R : Type} (f : Int → Int → List V → Option Int) (n : Nat) (hf : ∀ (o m : Int) (k : Cl), k.nodes < n → k.wf → K63 k → f o m k.enc = some ((k.dep : Int) + 1)) (x y : Int) (K : Int → Option R) :
    ∀ (l : Cl) (pre : List V) (t : Nat) (b : Nat), l.len < t → l.nodes ≤ n → l.wf → pre.length + l.len ≤ 9223372036854775807 →
      S_qdepth_3 N f x y (pre ++ l.enc) t (b : Int) (pre.length : Int) K = K ((max b l.dep : Nat) : Int)
  | l, pre, 0, b, ht, _, _, _ => by omega
  | .nil, pre, t + 1, b, ht, _, _, _ => by
    unfold S_qdepth_3 F_qdepth_3
    simp only [Cl.enc, br_t, br_f, br_dec, br_not, br_and, br_or, bnd1_mk, bnd2_mk, bnd3_mk, bnd4_mk, bnd5_mk, at_zero, at_succ, at_mid, unInt_mk, unBool_mk, unStr_mk, unBytes_mk, unSl_mk, unAgg_mk, unCons_mk, unNil_mk, endI, if_false]
    simp [Cl.dep]
  | .cons o m k r, pre, t + 1, b, ht, hn, hw, hl => by
    simp only [Cl.len, Cl.nodes] at ht hn hl
    obtain ⟨_, _, hk1, hk2, hr⟩ := hw
    obtain ⟨h1, h2, h3, h4⟩ := stepC pre (ce o m k) r hl
    have ih := fun b => qdepth_loop f n hf x y K r (pre ++ [ce o m k]) t b (by omega) (by omega) hr (by simp; omega)
    rw [← mid, ← h3] at ih
    unfold S_qdepth_3 F_qdepth_3
    simp only [enc_cons, br_t, br_f, br_dec, br_not, br_and, br_or, bnd1_mk, bnd2_mk, bnd3_mk, bnd4_mk, bnd5_mk, at_zero, at_succ, at_mid, unInt_mk, unBool_mk, unStr_mk, unBytes_mk, unSl_mk, unAgg_mk, unCons_mk, unNil_mk, h1, h2, if_true, Int.toNat_natCast, hf o m k (by omega) hk2 hk1, Cl.dep]
    by_cases c : (b : Int) < (k.dep : Int) + 1
    · have := ih (k.dep + 1)
      rw [if_pos c, show ((k.dep : Int) + 1) = ((k.dep + 1 : Nat) : Int) by omega, this]
      exact congrArg (fun z : Nat => K (z : Int)) (by omega)
    · rw [if_neg c, ih b]
      exact congrArg (fun z : Nat => K (z : Int)) (by omega)
theorem qdepth_eq : ∀ (M : Nat) (o m : Int) (k : Cl), k.nodes < M → k.nodes < N → k.nodes ≤ 1000 → k.wf → K63 k → s_qdepth N M o m k.enc = some ((k.dep : Int) + 1)
  | 0, o, m, k, h, _, _, _, _ => by omega
  | M + 1, o, m, k, h, hN, hs, hw, hl => by
    have hln := Cl.len_le k
    have hd := Cl.dep_le k
    have hL := qdepth_loop N (s_qdepth N M) k.nodes (fun o m k' a1 a2 a3 => qdepth_eq M o m k' (by omega) (by omega) (by omega) a2 a3) o m (fun n0 => some (IntKind.i64.wrap (n0 + 1))) k [] N 0 (by omega) (Nat.le_refl _) hw (by simpa using hl)
    unfold s_qdepth B_qdepth
    refine hL.trans ?_
    rw [w64 (by omega) (by omega)]
    congr 1 <;> omega
/-- A condition that came in, small. -/
structure GoodC (N : Nat) (k : Cl) : Prop where
  wf : k.wf
  len : K63 k
  nodes : k.nodes ≤ 1000
  fuel : k.nodes < N
def chk (o m : Int) (k : Cl) : Int := if vC o m k = true then (if 16 < k.nodes + 1 ∨ 8 < k.dep + 1 then 3 else 0) else 1
theorem aCheck_eq (o m : Int) (k : Cl) (g : GoodC N k) : s_aCheck N o m k.enc = some (chk o m k) := by
  unfold s_aCheck chk
  rw [avalid_eq N N o m k 1 g.fuel g.fuel g.wf g.len, bnd1_mk, br_not]
  cases vC o m k with
  | false => rfl
  | true =>
    simp only [measure_eq N N o m k g.fuel g.fuel g.nodes g.wf g.len, br_t, bnd2_mk, br_dec, if_true]
    by_cases h1 : 16 < k.nodes + 1
    · rw [if_pos (by omega), if_pos (.inl h1)]
    · rw [if_neg (by omega)]
      by_cases h2 : 8 < k.dep + 1
      · rw [if_pos (by omega), if_pos (.inr h2)]
      · rw [if_neg (by omega), if_neg (by omega)]
theorem qCheck_eq (o m : Int) (k : Cl) (g : GoodC N k) : s_qCheck N o m k.enc = some (chk o m k) := by
  unfold s_qCheck chk
  rw [qvalid_ok N N o m k (Nat.le_refl _) g.fuel g.wf g.len, bnd1_mk, br_not]
  cases vC o m k with
  | false => rfl
  | true =>
    simp only [qnodes_eq N N o m k g.fuel g.fuel g.nodes g.wf g.len, qdepth_eq N N o m k g.fuel g.fuel g.nodes g.wf g.len, br_t, bnd1_mk, br_dec, if_true]
    by_cases h1 : 16 < k.nodes + 1
    · rw [if_pos (by omega), if_pos (.inl h1)]
    · rw [if_neg (by omega)]
      by_cases h2 : 8 < k.dep + 1
      · rw [if_pos (by omega), if_pos (.inr h2)]
      · rw [if_neg (by omega), if_neg (by omega)]
theorem chk_zero {o m : Int} {k : Cl} (h : chk o m k = 0) : vC o m k = true ∧ k.nodes ≤ 15 ∧ k.dep ≤ 7 := by
  unfold chk at h
  split at h
  · rename_i hv
    split at h
    · omega
    · exact ⟨hv, by omega, by omega⟩
  · omega
/-! Satisfied -/
theorem IndexFuncN_loop (x : Sec) (f : Int → Int → List V → Int → Int → Int → Int → Option Bool) (n : Nat) (hf : ∀ (o m : Int) (k : Cl), vC o m k = true → k.nodes < n → k.wf → K63 k → f o m k.enc x.p x.k x.s x.l = some (satC x o m k)) :
    ∀ (l : Cl) (pre : List V) (t : Nat), vL l = true → l.len < t → l.nodes ≤ n → l.wf → pre.length + l.len ≤ 9223372036854775807 →
      ∃ i, S_IndexFuncN_2 N f (pre ++ l.enc) ((pre ++ l.enc).length : Int) x.p x.k x.s x.l t (pre.length : Int) (fun n0 => some n0) (some (-1)) = some i ∧ decide (0 ≤ i) = !sq x l true
  | l, pre, 0, _, ht, _, _, _ => by omega
  | .nil, pre, t + 1, _, ht, _, _, _ => by
    unfold S_IndexFuncN_2 F_IndexFuncN_2
    simp only [Cl.enc, br_t, br_f, br_dec, br_not, br_and, br_or, bnd1_mk, bnd2_mk, bnd3_mk, bnd4_mk, bnd5_mk, at_zero, at_succ, at_mid, unInt_mk, unBool_mk, unStr_mk, unBytes_mk, unSl_mk, unAgg_mk, unCons_mk, unNil_mk, endI, if_false]
    exact ⟨-1, rfl, by simp [sq]⟩
  | .cons o m k r, pre, t + 1, hv, ht, hn, hw, hl => by
    simp only [Cl.len, Cl.nodes] at ht hn hl
    rw [vL_cons, Bool.and_eq_true] at hv
    obtain ⟨_, _, hk1, hk2, hr⟩ := hw
    obtain ⟨h1, h2, h3, h4⟩ := stepC pre (ce o m k) r hl
    obtain ⟨i, ih1, ih2⟩ := IndexFuncN_loop x f n hf r (pre ++ [ce o m k]) t hv.2 (by omega) (by omega) hr (by simp; omega)
    rw [← mid, ← h3] at ih1
    unfold S_IndexFuncN_2 F_IndexFuncN_2 s_satno C_satno
    rw [sq_cons]
    simp only [enc_cons, br_t, br_f, br_dec, br_not, br_and, br_or, bnd1_mk, bnd2_mk, bnd3_mk, bnd4_mk, bnd5_mk, at_zero, at_succ, at_mid, unInt_mk, unBool_mk, unStr_mk, unBytes_mk, unSl_mk, unAgg_mk, unCons_mk, unNil_mk, h1, h2, if_true, Int.toNat_natCast, hf o m k hv.1 (by omega) hk2 hk1]
    cases satC x o m k with
    | false => exact ⟨_, rfl, by simp⟩
    | true => exact ⟨i, ih1, by rw [ih2]; rfl⟩
theorem IndexFuncY_loop (x : Sec) (f : Int → Int → List V → Int → Int → Int → Int → Option Bool) (n : Nat) (hf : ∀ (o m : Int) (k : Cl), vC o m k = true → k.nodes < n → k.wf → K63 k → f o m k.enc x.p x.k x.s x.l = some (satC x o m k)) :
    ∀ (l : Cl) (pre : List V) (t : Nat), vL l = true → l.len < t → l.nodes ≤ n → l.wf → pre.length + l.len ≤ 9223372036854775807 →
      ∃ i, S_IndexFuncY_2 N f (pre ++ l.enc) ((pre ++ l.enc).length : Int) x.p x.k x.s x.l t (pre.length : Int) (fun n0 => some n0) (some (-1)) = some i ∧ decide (0 ≤ i) = sq x l false
  | l, pre, 0, _, ht, _, _, _ => by omega
  | .nil, pre, t + 1, _, ht, _, _, _ => by
    unfold S_IndexFuncY_2 F_IndexFuncY_2
    simp only [Cl.enc, br_t, br_f, br_dec, br_not, br_and, br_or, bnd1_mk, bnd2_mk, bnd3_mk, bnd4_mk, bnd5_mk, at_zero, at_succ, at_mid, unInt_mk, unBool_mk, unStr_mk, unBytes_mk, unSl_mk, unAgg_mk, unCons_mk, unNil_mk, endI, if_false]
    exact ⟨-1, rfl, by simp [sq]⟩
  | .cons o m k r, pre, t + 1, hv, ht, hn, hw, hl => by
    simp only [Cl.len, Cl.nodes] at ht hn hl
    rw [vL_cons, Bool.and_eq_true] at hv
    obtain ⟨_, _, hk1, hk2, hr⟩ := hw
    obtain ⟨h1, h2, h3, h4⟩ := stepC pre (ce o m k) r hl
    obtain ⟨i, ih1, ih2⟩ := IndexFuncY_loop x f n hf r (pre ++ [ce o m k]) t hv.2 (by omega) (by omega) hr (by simp; omega)
    rw [← mid, ← h3] at ih1
    unfold S_IndexFuncY_2 F_IndexFuncY_2 s_satyes C_satyes
    rw [sq_cons]
    simp only [enc_cons, br_t, br_f, br_dec, br_not, br_and, br_or, bnd1_mk, bnd2_mk, bnd3_mk, bnd4_mk, bnd5_mk, at_zero, at_succ, at_mid, unInt_mk, unBool_mk, unStr_mk, unBytes_mk, unSl_mk, unAgg_mk, unCons_mk, unNil_mk, h1, h2, if_true, Int.toNat_natCast, hf o m k hv.1 (by omega) hk2 hk1]
    cases satC x o m k with
    | true => exact ⟨_, rfl, by simp⟩
    | false => exact ⟨i, ih1, by rw [ih2]; rfl⟩
theorem asat_eq (x : Sec) : ∀ (M : Nat) (o m : Int) (k : Cl), vC o m k = true → k.nodes < M → k.nodes < N → k.wf → K63 k → s_asat N M o m k.enc x.p x.k x.s x.l = some (satC x o m k)
  | 0, o, m, k, _, h, _, _, _ => by omega
  | M + 1, o, m, k, hv, h, hN, hw, hl => by
    have hln := Cl.len_le k
    have hf := fun (o m : Int) (k' : Cl) (a0 : vC o m k' = true) (a1 : k'.nodes < k.nodes) (a2 : k'.wf) (a3 : K63 k') => asat_eq x M o m k' a0 (by omega) (by omega) a2 a3
    unfold s_asat B_asat satC
    simp only [br_dec]
    have hbit : ∀ (a : Int), 1 ≤ m → m ≤ 8 → decide (bitsI BinOp.and IntKind.i64 (shrI IntKind.i64 a m) 1 = 1) = hasB (bv a) (bv (p2 m.toNat)) := by
      intro a b1 b2
      have := bit_test a (n := m.toNat) (by omega)
      rwa [Int.toNat_of_nonneg (by omega)] at this
    rcases vC_leaf hv with ⟨rfl, _⟩ | ⟨rfl, _⟩ | ⟨rfl, b1, b2, _⟩ | ⟨rfl, b1, b2, _⟩ | ⟨rfl, _⟩ | ⟨rfl, b1, b2, _⟩ | ⟨rfl | rfl, h1, h2, h3⟩
    · simp [satB]
    · simp [satB]
    · simp [satB, hbit _ b1 b2]; omega
    · simp [satB, hbit _ b1 b2]; omega
    · simp [satB]
    · have := level_range b1 b2
      have e := has_iff x.l m (by omega)
      simp [satB, e]
    · obtain ⟨i, i1, i2⟩ := IndexFuncN_loop N x (s_asat N M) k.nodes hf k [] N h3 (by omega) (Nat.le_refl _) hw (by simpa using hl)
      have i1' : S_IndexFuncN_2 N (s_asat N M) k.enc (k.enc.length : Int) x.p x.k x.s x.l N 0 (fun n0 => some n0) (some (-1)) = some i := i1
      unfold s_ContainsFuncN C_ContainsFuncN s_IndexFuncN C_IndexFuncN
      rw [if_pos rfl, i1', if_pos rfl, bnd1_mk]
      show some (!decide (0 ≤ i)) = _
      rw [i2, Bool.not_not]
    · obtain ⟨i, i1, i2⟩ := IndexFuncY_loop N x (s_asat N M) k.nodes hf k [] N h3 (by omega) (Nat.le_refl _) hw (by simpa using hl)
      have i1' : S_IndexFuncY_2 N (s_asat N M) k.enc (k.enc.length : Int) x.p x.k x.s x.l N 0 (fun n0 => some n0) (some (-1)) = some i := i1
      unfold s_ContainsFuncY C_ContainsFuncY s_IndexFuncY C_IndexFuncY
      rw [if_neg (by omega), if_pos rfl, i1', if_neg (by omega), if_pos rfl, bnd1_mk]
      show some (decide (0 ≤ i)) = _
      rw [i2]
theorem qsat_loopN (x : Sec) (f : Int → Int → List V → Int → Int → Int → Int → Option Bool) (n : Nat) (hf : ∀ (o m : Int) (k : Cl), vC o m k = true → k.nodes < n → k.wf → K63 k → f o m k.enc x.p x.k x.s x.l = some (satC x o m k)) (y z : Int) :
    ∀ (l : Cl) (pre : List V) (t : Nat), vL l = true → l.len < t → l.nodes ≤ n → l.wf → pre.length + l.len ≤ 9223372036854775807 →
      S_qsatisfied_14 N f y z (pre ++ l.enc) x.p x.k x.s x.l t (pre.length : Int) (fun b => some b) (some true) = some (sq x l true)
  | l, pre, 0, _, ht, _, _, _ => by omega
  | .nil, pre, t + 1, _, ht, _, _, _ => by
    unfold S_qsatisfied_14 F_qsatisfied_14
    simp only [Cl.enc, br_t, br_f, br_dec, br_not, br_and, br_or, bnd1_mk, bnd2_mk, bnd3_mk, bnd4_mk, bnd5_mk, at_zero, at_succ, at_mid, unInt_mk, unBool_mk, unStr_mk, unBytes_mk, unSl_mk, unAgg_mk, unCons_mk, unNil_mk, endI, if_false, sq]
  | .cons o m k r, pre, t + 1, hv, ht, hn, hw, hl => by
    simp only [Cl.len, Cl.nodes] at ht hn hl
    rw [vL_cons, Bool.and_eq_true] at hv
    obtain ⟨_, _, hk1, hk2, hr⟩ := hw
    obtain ⟨h1, h2, h3, h4⟩ := stepC pre (ce o m k) r hl
    have ih := qsat_loopN x f n hf y z r (pre ++ [ce o m k]) t hv.2 (by omega) (by omega) hr (by simp; omega)
    rw [← mid, ← h3] at ih
    unfold S_qsatisfied_14 F_qsatisfied_14
    rw [sq_cons]
    simp only [enc_cons, br_t, br_f, br_dec, br_not, br_and, br_or, bnd1_mk, bnd2_mk, bnd3_mk, bnd4_mk, bnd5_mk, at_zero, at_succ, at_mid, unInt_mk, unBool_mk, unStr_mk, unBytes_mk, unSl_mk, unAgg_mk, unCons_mk, unNil_mk, h1, h2, if_true, Int.toNat_natCast, hf o m k hv.1 (by omega) hk2 hk1]
    cases satC x o m k with
    | false => rfl
    | true => rw [br_t, ih]; rfl
theorem qsat_loopY (x : Sec) (f : Int → Int → List V → Int → Int → Int → Int → Option Bool) (n : Nat) (hf : ∀ (o m : Int) (k : Cl), vC o m k = true → k.nodes < n → k.wf → K63 k → f o m k.enc x.p x.k x.s x.l = some (satC x o m k)) (y z : Int) :
    ∀ (l : Cl) (pre : List V) (t : Nat), vL l = true → l.len < t → l.nodes ≤ n → l.wf → pre.length + l.len ≤ 9223372036854775807 →
      S_qsatisfied_21 N f y z (pre ++ l.enc) x.p x.k x.s x.l t (pre.length : Int) (fun b => some b) (some false) = some (sq x l false)
  | l, pre, 0, _, ht, _, _, _ => by omega
  | .nil, pre, t + 1, _, ht, _, _, _ => by
    unfold S_qsatisfied_21 F_qsatisfied_21
    simp only [Cl.enc, br_t, br_f, br_dec, br_not, br_and, br_or, bnd1_mk, bnd2_mk, bnd3_mk, bnd4_mk, bnd5_mk, at_zero, at_succ, at_mid, unInt_mk, unBool_mk, unStr_mk, unBytes_mk, unSl_mk, unAgg_mk, unCons_mk, unNil_mk, endI, if_false, sq]
  | .cons o m k r, pre, t + 1, hv, ht, hn, hw, hl => by
    simp only [Cl.len, Cl.nodes] at ht hn hl
    rw [vL_cons, Bool.and_eq_true] at hv
    obtain ⟨_, _, hk1, hk2, hr⟩ := hw
    obtain ⟨h1, h2, h3, h4⟩ := stepC pre (ce o m k) r hl
    have ih := qsat_loopY x f n hf y z r (pre ++ [ce o m k]) t hv.2 (by omega) (by omega) hr (by simp; omega)
    rw [← mid, ← h3] at ih
    unfold S_qsatisfied_21 F_qsatisfied_21
    rw [sq_cons]
    simp only [enc_cons, br_t, br_f, br_dec, br_not, br_and, br_or, bnd1_mk, bnd2_mk, bnd3_mk, bnd4_mk, bnd5_mk, at_zero, at_succ, at_mid, unInt_mk, unBool_mk, unStr_mk, unBytes_mk, unSl_mk, unAgg_mk, unCons_mk, unNil_mk, h1, h2, if_true, Int.toNat_natCast, hf o m k hv.1 (by omega) hk2 hk1]
    cases satC x o m k with
    | true => rfl
    | false => rw [br_f, ih]; rfl
theorem wu64 {n : Int} (h1 : 0 ≤ n) (h2 : n ≤ 9223372036854775807) : IntKind.u64.wrap n = n := by
  rw [IntKind.wrap_u64]; omega
theorem qsat_eq (x : Sec) : ∀ (M : Nat) (o m : Int) (k : Cl), vC o m k = true → k.nodes < M → k.nodes < N → k.wf → K63 k → s_qsatisfied N M o m k.enc x.p x.k x.s x.l = some (satC x o m k)
  | 0, o, m, k, _, h, _, _, _ => by omega
  | M + 1, o, m, k, hv, h, hN, hw, hl => by
    have hln := Cl.len_le k
    have hf := fun (o m : Int) (k' : Cl) (a0 : vC o m k' = true) (a1 : k'.nodes < k.nodes) (a2 : k'.wf) (a3 : K63 k') => qsat_eq x M o m k' a0 (by omega) (by omega) a2 a3
    unfold s_qsatisfied B_qsatisfied satC
    simp only [br_dec, s_qhas, bnd1_mk]
    have hbit : ∀ (a : Int), 1 ≤ m → m ≤ 8 → decide (bitsI BinOp.and IntKind.i64 a (shlI IntKind.i64 1 (IntKind.u64.wrap m)) = shlI IntKind.i64 1 (IntKind.u64.wrap m)) = hasB (bv a) (bv (p2 m.toNat)) := by
      intro a b1 b2
      have e := shl1 (n := m.toNat) (by omega)
      have r := p2_range (n := m.toNat) (by omega)
      rw [Int.toNat_of_nonneg (by omega)] at e
      rw [wu64 (by omega) (by omega), e]
      exact has_iff a _ (by omega)
    rcases vC_leaf hv with ⟨rfl, _⟩ | ⟨rfl, _⟩ | ⟨rfl, b1, b2, _⟩ | ⟨rfl, b1, b2, _⟩ | ⟨rfl, _⟩ | ⟨rfl, b1, b2, _⟩ | ⟨rfl | rfl, h1, h2, h3⟩
    · simp [satB]
    · simp [satB]
    · simp only [hbit _ b1 b2]
      rw [wu64 (by omega) (by omega)]
      simp [satB]; omega
    · simp only [hbit _ b1 b2]
      rw [wu64 (by omega) (by omega)]
      simp [satB]; omega
    · simp [satB]
    · have := level_range b1 b2
      have e := has_iff x.l m (by omega)
      simp [satB, e]
    · have hL := qsat_loopN N x (s_qsatisfied N M) k.nodes hf 6 m k [] N h3 (by omega) (Nat.le_refl _) hw (by simpa using hl)
      simp
      exact hL
    · have hL := qsat_loopY N x (s_qsatisfied N M) k.nodes hf 7 m k [] N h3 (by omega) (Nat.le_refl _) hw (by simpa using hl)
      simp
      exact hL
def holdsP (x : Sec) (o m : Int) (k : Cl) : Bool := decide (chk o m k = 0) && satC x o m k
theorem aHolds_eq (x : Sec) (o m : Int) (k : Cl) (g : GoodC N k) : s_aHolds N o m k.enc x.p x.k x.s x.l = some (holdsP x o m k) := by
  unfold s_aHolds holdsP
  rw [aCheck_eq N o m k g, bnd1_mk, br_dec]
  by_cases hc : chk o m k = 0
  · rw [if_pos hc, asat_eq N x N o m k (chk_zero hc).1 g.fuel g.fuel g.wf g.len]
    simp [hc, bnd1_mk]
  · rw [if_neg hc]; simp [hc]
theorem qHolds_eq (x : Sec) (o m : Int) (k : Cl) (g : GoodC N k) : s_qHolds N o m k.enc x.p x.k x.s x.l = some (holdsP x o m k) := by
  unfold s_qHolds holdsP
  rw [qCheck_eq N o m k g, bnd1_mk, br_dec]
  by_cases hc : chk o m k = 0
  · rw [if_pos hc, qsat_eq N x N o m k (chk_zero hc).1 g.fuel g.fuel g.wf g.len]
    simp [hc, bnd1_mk]
  · rw [if_neg hc]; simp [hc]
end
end Go.Proofs.YtahemenhcoedgaaDoor.En

/- Rules: which are small, which are valid, what they permit: the program and the reference. -/
namespace Go.Proofs.YtahemenhcoedgaaDoor.En
open Go
set_option linter.unusedVariables false
/-- All of the list are small. -/
def fewL : Cl → Bool
  | .nil => true
  | .cons o m k r => decide (k.nodes ≤ 199) && fewL r
/-- A rule. -/
structure Ru where
  ops : Int
  o : Int
  m : Int
  k : Cl
  deriving DecidableEq
def Ru.enc (r : Ru) : V := .agg [.int .i64 r.ops, .int .i64 r.o, .int .i64 r.m, .sl 24 r.k.enc]
def rE : List Ru → List V
  | [] => []
  | r :: l => .agg [.int .i64 r.ops, .int .i64 r.o, .int .i64 r.m, .sl 24 r.k.enc] :: rE l
theorem rE_len : ∀ l : List Ru, (rE l).length = l.length
  | [] => rfl
  | r :: l => by simp [rE, rE_len l]
theorem stepR (pre : List V) (x : V) (r : List Ru) (h : pre.length + (r.length + 1) ≤ 9223372036854775807) :
    (pre.length : Int) < ((pre ++ x :: rE r).length : Int) ∧ (0 : Int) ≤ pre.length ∧ IntKind.i64.wrap ((pre.length : Int) + 1) = ((pre ++ [x]).length : Int) ∧ ((pre ++ x :: rE r).length : Int) = (((pre ++ [x]) ++ rE r).length : Int) :=
  stepI pre x (rE r) (by rw [rE_len]; exact h)
def fewR (l : List Ru) : Bool := decide (l.length ≤ 50) && l.all fun r => decide (r.k.nodes ≤ 199)
def chkRL : List Ru → Int
  | [] => 0
  | r :: l => if r.ops < 1 ∨ 255 < r.ops then 1 else if chk r.o r.m r.k = 0 then chkRL l else chk r.o r.m r.k
def chkR (l : List Ru) : Int := if 8 < l.length then 3 else chkRL l
section
variable (N : Nat)
/-- A rule's condition that came in. -/
structure InC (N : Nat) (k : Cl) : Prop where
  wf : k.wf
  len : K63 k
  fuel : k.nodes < N
theorem InC.good {k : Cl} (h : InC N k) (hn : k.nodes ≤ 1000) : GoodC N k := ⟨h.wf, h.len, hn, h.fuel⟩
theorem lfew_loop {R : Type} (K0 : Bool → Option R) (K1 : Option R) : ∀ (l : Cl) (pre : List V) (t : Nat), l.len < t → l.nodes < N → l.wf → pre.length + l.len ≤ 9223372036854775807 →
      S_lfew_2 N (pre ++ l.enc) t (pre.length : Int) K0 K1 = if fewL l = true then K1 else K0 false
  | l, pre, 0, ht, _, _, _ => by omega
  | .nil, pre, t + 1, ht, _, _, _ => by
    unfold S_lfew_2 F_lfew_2
    simp only [Cl.enc, br_t, br_f, br_dec, br_not, br_and, br_or, bnd1_mk, bnd2_mk, bnd3_mk, bnd4_mk, bnd5_mk, at_zero, at_succ, at_mid, unInt_mk, unBool_mk, unStr_mk, unBytes_mk, unSl_mk, unAgg_mk, unCons_mk, unNil_mk, endI, if_false, fewL, if_true]
  | .cons o m k r, pre, t + 1, ht, hn, hw, hl => by
    simp only [Cl.len, Cl.nodes] at ht hn hl
    obtain ⟨_, _, hk1, hk2, hr⟩ := hw
    obtain ⟨h1, h2, h3, h4⟩ := stepC pre (ce o m k) r hl
    have ih := lfew_loop K0 K1 r (pre ++ [ce o m k]) t (by omega) (by omega) hr (by simp; omega)
    rw [← mid, ← h3] at ih
    unfold S_lfew_2 F_lfew_2
    simp only [enc_cons, br_t, br_f, br_dec, br_not, br_and, br_or, bnd1_mk, bnd2_mk, bnd3_mk, bnd4_mk, bnd5_mk, at_zero, at_succ, at_mid, unInt_mk, unBool_mk, unStr_mk, unBytes_mk, unSl_mk, unAgg_mk, unCons_mk, unNil_mk, h1, h2, if_true, Int.toNat_natCast, left_ok N N o m k 200 (Nat.le_refl _) (by omega) hk2 hk1 (by omega) (by omega), ih]
    obtain ⟨n1, n2⟩ := lfl_nodes k 199 (by omega)
    by_cases c : (k.nodes : Int) ≤ 199
    · rw [show (200 : Int) - 1 = 199 by omega, n1 c, if_neg (by omega)]
      have ef : fewL (.cons o m k r) = fewL r := by
        conv => lhs; unfold fewL
        rw [decide_eq_true (by omega : k.nodes ≤ 199)]; rfl
      rw [ef]
    · rw [show (200 : Int) - 1 = 199 by omega, n2 (by omega), if_pos (by omega)]
      have ef : fewL (.cons o m k r) = false := by unfold fewL; rw [decide_eq_false (by omega : ¬ k.nodes ≤ 199)]; rfl
      rw [if_neg (by rw [ef]; decide)]
theorem lfew_eq (l : Cl) (h : l.nodes < N) (hw : l.wf) (hl : K63 l) : s_lfew N l.enc = some (fewL l) := by
  have hln := Cl.len_le l
  have hL := lfew_loop N (fun b => some b) (some true) l [] N (by omega) h hw (by simpa using hl)
  unfold s_lfew
  refine hL.trans ?_
  cases fewL l <;> rfl
theorem lfewRules_loop {R : Type} (K0 : Bool → Option R) (K1 : Option R) : ∀ (l : List Ru) (pre : List V) (t : Nat), l.length < t → (∀ r ∈ l, InC N r.k ∧ r.k.nodes + 1 < N ∧ I64 r.o ∧ I64 r.m) → pre.length + l.length ≤ 9223372036854775807 →
      S_lfewRules_4 N (pre ++ rE l) t (pre.length : Int) K0 K1 = if (l.all fun r => decide (r.k.nodes ≤ 199)) = true then K1 else K0 false
  | l, pre, 0, ht, _, _ => by omega
  | [], pre, t + 1, ht, _, _ => by
    unfold S_lfewRules_4 F_lfewRules_4
    simp only [rE, br_t, br_f, br_dec, br_not, br_and, br_or, bnd1_mk, bnd2_mk, bnd3_mk, bnd4_mk, bnd5_mk, at_zero, at_succ, at_mid, unInt_mk, unBool_mk, unStr_mk, unBytes_mk, unSl_mk, unAgg_mk, unCons_mk, unNil_mk, endI, if_false, List.all_nil, if_true]
  | r :: l, pre, t + 1, ht, hg, hl => by
    simp only [List.length_cons] at ht hl
    obtain ⟨h1, h2, h3, h4⟩ := stepR pre (.agg [.int .i64 r.ops, .int .i64 r.o, .int .i64 r.m, .sl 24 r.k.enc]) l hl
    have ih := lfewRules_loop K0 K1 l (pre ++ [.agg [.int .i64 r.ops, .int .i64 r.o, .int .i64 r.m, .sl 24 r.k.enc]]) t (by omega) (fun r hr => hg r (by simp [hr])) (by simp; omega)
    rw [← mid, ← h3] at ih
    obtain ⟨g, gn, go, gm⟩ := hg r (by simp)
    have hf : s_lfew N [V.agg [V.int IntKind.i64 r.o, V.int IntKind.i64 r.m, V.sl 24 r.k.enc]] = some (fewL (.cons r.o r.m r.k .nil)) :=
      lfew_eq N (.cons r.o r.m r.k .nil) (by simp only [Cl.nodes]; omega) ⟨go, gm, g.len, g.wf, trivial⟩ (by simp [Cl.len])
    unfold S_lfewRules_4 F_lfewRules_4
    simp only [rE, br_t, br_f, br_dec, br_not, br_and, br_or, bnd1_mk, bnd2_mk, bnd3_mk, bnd4_mk, bnd5_mk, at_zero, at_succ, at_mid, unInt_mk, unBool_mk, unStr_mk, unBytes_mk, unSl_mk, unAgg_mk, unCons_mk, unNil_mk, h1, h2, if_true, Int.toNat_natCast, hf, fewL, Bool.and_true, ih, List.all_cons]
    by_cases c : r.k.nodes ≤ 199 <;> simp [c]
theorem lfewRules_eq (l : List Ru) (h : l.length < N) (hg : ∀ r ∈ l, InC N r.k ∧ r.k.nodes + 1 < N ∧ I64 r.o ∧ I64 r.m) (hl : l.length ≤ 9223372036854775807) : s_lfewRules N (rE l) = some (fewR l) := by
  have hL := lfewRules_loop N (fun b => some b) (some true) l [] N h hg (by simpa using hl)
  have hL' : S_lfewRules_4 N (rE l) N 0 (fun b => some b) (some true) = if (l.all fun r => decide (r.k.nodes ≤ 199)) = true then some true else some false := hL
  unfold s_lfewRules fewR
  rw [rE_len, br_dec, hL']
  by_cases c : l.length ≤ 50
  · rw [if_neg (by omega)]
    cases hc : (l.all fun r => decide (r.k.nodes ≤ 199)) <;> simp [c]
  · rw [if_pos (by omega)]; simp [c]
theorem aCheckRules_loop {R : Type} (K0 : Int → Option R) (K1 : Option R) : ∀ (l : List Ru) (pre : List V) (t : Nat), l.length < t → (∀ r ∈ l, GoodC N r.k) → pre.length + l.length ≤ 9223372036854775807 →
      S_aCheckRules_4 N (pre ++ rE l) ((pre ++ rE l).length : Int) t (pre.length : Int) K0 K1 = if chkRL l = 0 then K1 else K0 (chkRL l)
  | l, pre, 0, ht, _, _ => by omega
  | [], pre, t + 1, ht, _, _ => by
    unfold S_aCheckRules_4 F_aCheckRules_4
    simp only [rE, br_t, br_f, br_dec, br_not, br_and, br_or, bnd1_mk, bnd2_mk, bnd3_mk, bnd4_mk, bnd5_mk, at_zero, at_succ, at_mid, unInt_mk, unBool_mk, unStr_mk, unBytes_mk, unSl_mk, unAgg_mk, unCons_mk, unNil_mk, endI, if_false, chkRL, if_true]
  | r :: l, pre, t + 1, ht, hg, hl => by
    simp only [List.length_cons] at ht hl
    obtain ⟨h1, h2, h3, h4⟩ := stepR pre (.agg [.int .i64 r.ops, .int .i64 r.o, .int .i64 r.m, .sl 24 r.k.enc]) l hl
    have ih := aCheckRules_loop K0 K1 l (pre ++ [.agg [.int .i64 r.ops, .int .i64 r.o, .int .i64 r.m, .sl 24 r.k.enc]]) t (by omega) (fun r hr => hg r (by simp [hr])) (by simp; omega)
    rw [← mid, ← h3] at ih
    unfold S_aCheckRules_4 F_aCheckRules_4
    simp only [rE, br_t, br_f, br_dec, br_not, br_and, br_or, bnd1_mk, bnd2_mk, bnd3_mk, bnd4_mk, bnd5_mk, at_zero, at_succ, at_mid, unInt_mk, unBool_mk, unStr_mk, unBytes_mk, unSl_mk, unAgg_mk, unCons_mk, unNil_mk, h1, h2, if_true, Int.toNat_natCast, aCheck_eq N r.o r.m r.k (hg r (by simp)), ih]
    have ec : chkRL (r :: l) = if r.ops < 1 ∨ 255 < r.ops then 1 else if chk r.o r.m r.k = 0 then chkRL l else chk r.o r.m r.k := rfl
    by_cases c1 : r.ops < 1
    · have e : chkRL (r :: l) = 1 := by rw [ec, if_pos (.inl c1)]
      rw [if_pos c1, e, if_neg (by omega)]
    rw [if_neg c1]
    by_cases c2 : 255 < r.ops
    · have e : chkRL (r :: l) = 1 := by rw [ec, if_pos (.inr c2)]
      rw [if_pos c2, e, if_neg (by omega)]
    rw [if_neg c2]
    by_cases c3 : chk r.o r.m r.k = 0
    · have e : chkRL (r :: l) = chkRL l := by rw [ec, if_neg (by omega), if_pos c3]
      rw [if_pos c3, e]
    · have e : chkRL (r :: l) = chk r.o r.m r.k := by rw [ec, if_neg (by omega), if_neg c3]
      rw [if_neg c3, e, if_neg c3]
theorem qCheckRules_loop {R : Type} (K0 : Int → Option R) (K1 : Option R) : ∀ (l : List Ru) (pre : List V) (t : Nat), l.length < t → (∀ r ∈ l, GoodC N r.k) → pre.length + l.length ≤ 9223372036854775807 →
      S_qCheckRules_4 N (pre ++ rE l) t (pre.length : Int) K0 K1 = if chkRL l = 0 then K1 else K0 (chkRL l)
  | l, pre, 0, ht, _, _ => by omega
  | [], pre, t + 1, ht, _, _ => by
    unfold S_qCheckRules_4 F_qCheckRules_4
    simp only [rE, br_t, br_f, br_dec, br_not, br_and, br_or, bnd1_mk, bnd2_mk, bnd3_mk, bnd4_mk, bnd5_mk, at_zero, at_succ, at_mid, unInt_mk, unBool_mk, unStr_mk, unBytes_mk, unSl_mk, unAgg_mk, unCons_mk, unNil_mk, endI, if_false, chkRL, if_true]
  | r :: l, pre, t + 1, ht, hg, hl => by
    simp only [List.length_cons] at ht hl
    obtain ⟨h1, h2, h3, h4⟩ := stepR pre (.agg [.int .i64 r.ops, .int .i64 r.o, .int .i64 r.m, .sl 24 r.k.enc]) l hl
    have ih := qCheckRules_loop K0 K1 l (pre ++ [.agg [.int .i64 r.ops, .int .i64 r.o, .int .i64 r.m, .sl 24 r.k.enc]]) t (by omega) (fun r hr => hg r (by simp [hr])) (by simp; omega)
    rw [← mid, ← h3] at ih
    unfold S_qCheckRules_4 F_qCheckRules_4
    simp only [rE, br_t, br_f, br_dec, br_not, br_and, br_or, bnd1_mk, bnd2_mk, bnd3_mk, bnd4_mk, bnd5_mk, at_zero, at_succ, at_mid, unInt_mk, unBool_mk, unStr_mk, unBytes_mk, unSl_mk, unAgg_mk, unCons_mk, unNil_mk, h1, h2, if_true, Int.toNat_natCast, qCheck_eq N r.o r.m r.k (hg r (by simp)), ih]
    have ec : chkRL (r :: l) = if r.ops < 1 ∨ 255 < r.ops then 1 else if chk r.o r.m r.k = 0 then chkRL l else chk r.o r.m r.k := rfl
    by_cases c1 : r.ops < 1
    · have e : chkRL (r :: l) = 1 := by rw [ec, if_pos (.inl c1)]
      rw [if_pos c1, e, if_neg (by omega)]
    rw [if_neg c1]
    by_cases c2 : 255 < r.ops
    · have e : chkRL (r :: l) = 1 := by rw [ec, if_pos (.inr c2)]
      rw [if_pos c2, e, if_neg (by omega)]
    rw [if_neg c2]
    by_cases c3 : chk r.o r.m r.k = 0
    · have e : chkRL (r :: l) = chkRL l := by rw [ec, if_neg (by omega), if_pos c3]
      rw [if_pos c3, e]
    · have e : chkRL (r :: l) = chk r.o r.m r.k := by rw [ec, if_neg (by omega), if_neg c3]
      rw [if_neg c3, e, if_neg c3]
/-- Rules that came in, few and small; or rules that were read. -/
structure GoodR (N : Nat) (l : List Ru) : Prop where
  len : l.length ≤ 1000
  fuel : 1000 < N
  good : ∀ r ∈ l, GoodC N r.k
theorem aCheckRules_eq (l : List Ru) (g : GoodR N l) : s_aCheckRules N (rE l) = some (chkR l) := by
  have h1 := g.len
  have h2 := g.fuel
  have hL : S_aCheckRules_4 N (rE l) ((rE l).length : Int) N 0 (fun n0 => some n0) (some 0) = if chkRL l = 0 then some 0 else some (chkRL l) :=
    aCheckRules_loop N (fun n0 => some n0) (some 0) l [] N (by omega) g.good (by simp; omega)
  unfold s_aCheckRules chkR
  rw [hL, rE_len, br_dec]
  by_cases c : 8 < l.length
  · rw [if_pos (by omega), if_pos c]
  · rw [if_neg (by omega), if_neg c]
    by_cases c2 : chkRL l = 0
    · rw [if_pos c2, c2]
    · rw [if_neg c2]
theorem qCheckRules_eq (l : List Ru) (g : GoodR N l) : s_qCheckRules N (rE l) = some (chkR l) := by
  have h1 := g.len
  have h2 := g.fuel
  have hL : S_qCheckRules_4 N (rE l) N 0 (fun n0 => some n0) (some 0) = if chkRL l = 0 then some 0 else some (chkRL l) :=
    qCheckRules_loop N (fun n0 => some n0) (some 0) l [] N (by omega) g.good (by simp; omega)
  unfold s_qCheckRules chkR
  rw [hL, rE_len, br_dec]
  by_cases c : 8 < l.length
  · rw [if_pos (by omega), if_pos c]
  · rw [if_neg (by omega), if_neg c]
    by_cases c2 : chkRL l = 0
    · rw [if_pos c2, c2]
    · rw [if_neg c2]
theorem chkRL_zero : ∀ {l : List Ru}, chkRL l = 0 → ∀ r ∈ l, 1 ≤ r.ops ∧ r.ops ≤ 255 ∧ chk r.o r.m r.k = 0
  | [], _, r, hr => by simp at hr
  | a :: l, h, r, hr => by
    unfold chkRL at h
    split at h
    · omega
    · split at h
      · rename_i c1 c2
        rcases List.mem_cons.1 hr with rfl | hr
        · exact ⟨by omega, by omega, c2⟩
        · exact chkRL_zero h r hr
      · rename_i c1 c2; exact absurd h c2
theorem chkR_zero {l : List Ru} (h : chkR l = 0) : l.length ≤ 8 ∧ ∀ r ∈ l, 1 ≤ r.ops ∧ r.ops ≤ 255 ∧ vC r.o r.m r.k = true ∧ r.k.nodes ≤ 15 ∧ r.k.dep ≤ 7 := by
  unfold chkR at h
  split at h
  · omega
  · rename_i c
    refine ⟨by omega, fun r hr => ?_⟩
    obtain ⟨h1, h2, h3⟩ := chkRL_zero h r hr
    obtain ⟨h4, h5, h6⟩ := chk_zero h3
    exact ⟨h1, h2, h4, h5, h6⟩
/-! What is permitted -/
def single (op : Int) : Bool := decide (op = 1) || decide (op = 2) || decide (op = 4) || decide (op = 8) || decide (op = 16) || decide (op = 32) || decide (op = 64) || decide (op = 128)
def permL (x : Sec) (op : Int) : List Ru → Bool
  | [] => false
  | r :: l => decide (bitsI BinOp.and IntKind.i64 r.ops op = op) && satC x r.o r.m r.k || permL x op l
theorem permL_cons (x : Sec) (op : Int) (r : Ru) (l : List Ru) : permL x op (r :: l) = (decide (bitsI BinOp.and IntKind.i64 r.ops op = op) && satC x r.o r.m r.k || permL x op l) := by
  conv => lhs; unfold permL
def perm (x : Sec) (op : Int) (l : List Ru) : Bool := decide (chkR l = 0) && (single op && permL x op l)
theorem single_eq {op : Int} (h1 : 1 ≤ op) (h2 : op ≤ 128) : decide (bitsI BinOp.and IntKind.i64 op (IntKind.i64.wrap (op - 1)) = 0) = single op := by
  have key : ∀ n : Fin 129, 1 ≤ n.val → decide (bitsI BinOp.and IntKind.i64 (n.val : Int) (IntKind.i64.wrap ((n.val : Int) - 1)) = 0) = single (n.val : Int) := by decide +kernel
  obtain ⟨k, rfl⟩ := Int.eq_ofNat_of_zero_le (by omega : 0 ≤ op)
  exact key ⟨k, by omega⟩ (by show 1 ≤ k; omega)
theorem single_cases {op : Int} (h : single op = true) : ∃ i : Nat, i ≤ 7 ∧ op = ((2 ^ i : Nat) : Int) := by
  simp only [single, Bool.or_eq_true, decide_eq_true_eq] at h
  rcases h with ((((((h | h) | h) | h) | h) | h) | h) | h
  · exact ⟨0, by omega, h⟩
  · exact ⟨1, by omega, h⟩
  · exact ⟨2, by omega, h⟩
  · exact ⟨3, by omega, h⟩
  · exact ⟨4, by omega, h⟩
  · exact ⟨5, by omega, h⟩
  · exact ⟨6, by omega, h⟩
  · exact ⟨7, by omega, h⟩
theorem and_single {op : Int} (h : single op = true) (a : Int) : decide (bitsI BinOp.and IntKind.i64 a op = 0) = !decide (bitsI BinOp.and IntKind.i64 a op = op) := by
  obtain ⟨i, hi, rfl⟩ := single_cases h
  have h0 : 0 < ((2 ^ i : Nat) : Int) := by have := Nat.pos_of_ne_zero (n := 2 ^ i) (by simp); omega
  rw [and_bit a i (by omega)]
  have h3 : a / ((2 ^ i : Nat) : Int) % 2 = 0 ∨ a / ((2 ^ i : Nat) : Int) % 2 = 1 := by omega
  generalize ((2 ^ i : Nat) : Int) = z at h0 h3
  rcases h3 with h3 | h3 <;> rw [h3] <;> simp <;> omega
theorem qhas_ok (a b : Int) : s_qhas N a b = some (decide (bitsI BinOp.and IntKind.i64 a b = b)) := id rfl
theorem bnd1_id {R α : Type} (a : α) (K : α → Option R) : bnd1 (some a) K = K a := id rfl
theorem br_lt {R : Type} (a b : Int) (x y : Option R) : br (decide (a < b)) x y = if a < b then x else y := br_dec _ x y
theorem br_le {R : Type} (a b : Int) (x y : Option R) : br (decide (a ≤ b)) x y = if a ≤ b then x else y := br_dec _ x y
theorem and_single' {op : Int} (h : single op = true) (a : Int) : bitsI BinOp.and IntKind.i64 a op = 0 ↔ ¬ bitsI BinOp.and IntKind.i64 a op = op := by
  have := and_single h a
  rw [← Bool.not_inj_iff, Bool.not_not] at this
  constructor
  · intro h0 h1
    rw [decide_eq_true h0, decide_eq_true h1] at this; cases this
  · intro h1
    rw [decide_eq_false h1] at this
    by_cases h0 : bitsI BinOp.and IntKind.i64 a op = 0
    · exact h0
    · rw [decide_eq_false h0] at this; cases this
theorem IndexFuncR_loop (x : Sec) (op : Int) (hs : single op = true) : ∀ (l : List Ru) (pre : List V) (t : Nat), l.length < t → (∀ r ∈ l, GoodC N r.k ∧ vC r.o r.m r.k = true) → pre.length + l.length ≤ 9223372036854775807 →
      ∃ i, S_IndexFuncR_2 N (pre ++ rE l) ((pre ++ rE l).length : Int) op x.p x.k x.s x.l t (pre.length : Int) (fun n0 => some n0) (some (-1)) = some i ∧ decide (0 ≤ i) = permL x op l
  | l, pre, 0, ht, _, _ => by omega
  | [], pre, t + 1, ht, _, _ => by
    unfold S_IndexFuncR_2 F_IndexFuncR_2
    simp only [rE, br_t, br_f, br_dec, br_not, br_and, br_or, bnd1_mk, bnd2_mk, bnd3_mk, bnd4_mk, bnd5_mk, at_zero, at_succ, at_mid, unInt_mk, unBool_mk, unStr_mk, unBytes_mk, unSl_mk, unAgg_mk, unCons_mk, unNil_mk, endI, if_false]
    exact ⟨-1, rfl, rfl⟩
  | r :: l, pre, t + 1, ht, hg, hl => by
    simp only [List.length_cons] at ht hl
    obtain ⟨h1, h2, h3, h4⟩ := stepR pre (.agg [.int .i64 r.ops, .int .i64 r.o, .int .i64 r.m, .sl 24 r.k.enc]) l hl
    obtain ⟨i, ih1, ih2⟩ := IndexFuncR_loop x op hs l (pre ++ [.agg [.int .i64 r.ops, .int .i64 r.o, .int .i64 r.m, .sl 24 r.k.enc]]) t (by omega) (fun r hr => hg r (by simp [hr])) (by simp; omega)
    rw [← mid, ← h3] at ih1
    obtain ⟨g, gv⟩ := hg r (by simp)
    unfold S_IndexFuncR_2 F_IndexFuncR_2 s_Allowed1 C_Allowed1
    rw [permL_cons]
    simp only [rE, br_lt, br_le, br_and, decide_true, br_t, at_mid, unInt_mk, unSl_mk, unAgg_mk, unCons_mk, unNil_mk, h1, h2, if_true, Int.toNat_natCast, asat_eq N x N r.o r.m r.k gv g.fuel g.fuel g.wf g.len]
    by_cases c1 : bitsI BinOp.and IntKind.i64 r.ops op = op
    · have c0 : decide (bitsI BinOp.and IntKind.i64 r.ops op = 0) = false := decide_eq_false fun e => (and_single' hs _).1 e c1
      rw [c0, decide_eq_true c1, Bool.true_and, Bool.not_false, br_t, bnd1_mk, bnd1_mk]
      cases satC x r.o r.m r.k with
      | true => exact ⟨_, rfl, by simp⟩
      | false => exact ⟨i, ih1, by rw [ih2]; rfl⟩
    · have c0 : decide (bitsI BinOp.and IntKind.i64 r.ops op = 0) = true := decide_eq_true ((and_single' hs _).2 c1)
      rw [c0, decide_eq_false c1, Bool.false_and, Bool.false_or, Bool.not_true, br_f, bnd1_mk, br_f]
      exact ⟨i, ih1, ih2⟩
theorem Allowed_eq (x : Sec) (op : Int) (l : List Ru) (g : GoodR N l) : s_Allowed N (rE l) op x.p x.k x.s x.l = some (perm x op l) := by
  have g1 := g.len
  have g2 := g.fuel
  unfold s_Allowed perm
  rw [aCheckRules_eq N l g, bnd1_mk, br_not, br_dec]
  by_cases c : chkR l = 0
  · rw [if_pos c]
    obtain ⟨_, hv⟩ := chkR_zero c
    simp only [c, decide_true, Bool.true_and, br_dec, br_not]
    have hout : op < 1 ∨ 128 < op → single op = false := by
      intro h
      simp only [single, Bool.or_eq_false_iff, decide_eq_false_iff_not]
      omega
    by_cases c1 : op < 1
    · rw [if_pos c1, hout (.inl c1)]; rfl
    rw [if_neg c1]
    by_cases c2 : 128 < op
    · rw [if_pos c2, hout (.inr c2)]; rfl
    rw [if_neg c2]
    have e := single_eq (op := op) (by omega) (by omega)
    cases hs : single op with
    | false =>
      rw [hs] at e
      rw [if_neg (by simpa using e)]; rfl
    | true =>
      rw [hs] at e
      rw [if_pos (by simpa using e)]
      obtain ⟨i, i1, i2⟩ := IndexFuncR_loop N x op hs l [] N (by omega) (fun r hr => ⟨g.good r hr, (hv r hr).2.2.1⟩) (by simp; omega)
      have i1' : S_IndexFuncR_2 N (rE l) ((rE l).length : Int) op x.p x.k x.s x.l N 0 (fun n0 => some n0) (some (-1)) = some i := i1
      unfold s_ContainsFuncR C_ContainsFuncR s_IndexFuncR C_IndexFuncR
      rw [i1', bnd1_mk]
      show some (decide (0 ≤ i)) = _
      rw [i2]; rfl
  · rw [if_neg c]; simp [c]
theorem qAllowed_bits {R : Type} (vs : List V) (op a b c d : Int) (K : Bool → Option R) (t : Nat) : S_qAllowed_3 N vs op a b c d (t + 9) false 1 K = K (single op) := by
  have w2 : IntKind.i64.wrap (2 * 1) = 2 := by decide
  have w4 : IntKind.i64.wrap (2 * 2) = 4 := by decide
  have w8 : IntKind.i64.wrap (2 * 4) = 8 := by decide
  have w16 : IntKind.i64.wrap (2 * 8) = 16 := by decide
  have w32 : IntKind.i64.wrap (2 * 16) = 32 := by decide
  have w64' : IntKind.i64.wrap (2 * 32) = 64 := by decide
  have w128 : IntKind.i64.wrap (2 * 64) = 128 := by decide
  have w256 : IntKind.i64.wrap (2 * 128) = 256 := by decide
  have go : ∀ (t : Nat) (s : Bool) (n : Int), n ≤ 128 → S_qAllowed_3 N vs op a b c d (t + 1) s n K = S_qAllowed_3 N vs op a b c d t (s || decide (op = n)) (IntKind.i64.wrap (2 * n)) K := by
    intro t s n hn
    conv => lhs; unfold S_qAllowed_3 F_qAllowed_3
    rw [br_dec, if_pos hn]
    cases s <;> simp [br]
  have fin : ∀ (t : Nat) (s : Bool), S_qAllowed_3 N vs op a b c d (t + 1) s 256 K = K s := by
    intro t s
    conv => lhs; unfold S_qAllowed_3 F_qAllowed_3
    rw [br_dec, if_neg (by omega)]
  rw [go _ _ _ (by omega), w2, go _ _ _ (by omega), w4, go _ _ _ (by omega), w8, go _ _ _ (by omega), w16, go _ _ _ (by omega), w32, go _ _ _ (by omega), w64', go _ _ _ (by omega), w128, go _ _ _ (by omega), w256, fin]
  simp only [single, Bool.false_or]
theorem qAllowed_loop (x : Sec) (op : Int) : ∀ (l : List Ru) (pre : List V) (t : Nat), l.length < t → (∀ r ∈ l, GoodC N r.k ∧ vC r.o r.m r.k = true) → pre.length + l.length ≤ 9223372036854775807 →
      S_qAllowed_9 N (pre ++ rE l) op x.p x.k x.s x.l t (pre.length : Int) (fun b => some b) (some false) = some (permL x op l)
  | l, pre, 0, ht, _, _ => by omega
  | [], pre, t + 1, ht, _, _ => by
    unfold S_qAllowed_9 F_qAllowed_9
    simp only [rE, br_t, br_f, br_dec, br_not, br_and, br_or, bnd1_mk, bnd2_mk, bnd3_mk, bnd4_mk, bnd5_mk, at_zero, at_succ, at_mid, unInt_mk, unBool_mk, unStr_mk, unBytes_mk, unSl_mk, unAgg_mk, unCons_mk, unNil_mk, endI, if_false]
    rfl
  | r :: l, pre, t + 1, ht, hg, hl => by
    simp only [List.length_cons] at ht hl
    obtain ⟨h1, h2, h3, h4⟩ := stepR pre (.agg [.int .i64 r.ops, .int .i64 r.o, .int .i64 r.m, .sl 24 r.k.enc]) l hl
    have ih := qAllowed_loop x op l (pre ++ [.agg [.int .i64 r.ops, .int .i64 r.o, .int .i64 r.m, .sl 24 r.k.enc]]) t (by omega) (fun r hr => hg r (by simp [hr])) (by simp; omega)
    rw [← mid, ← h3] at ih
    obtain ⟨g, gv⟩ := hg r (by simp)
    unfold S_qAllowed_9 F_qAllowed_9
    rw [permL_cons]
    simp only [rE, br_lt, br_le, br_and, decide_true, br_t, at_mid, unInt_mk, unSl_mk, unAgg_mk, unCons_mk, unNil_mk, qhas_ok, bnd1_id, h1, h2, if_true, Int.toNat_natCast, qsat_eq N x N r.o r.m r.k gv g.fuel g.fuel g.wf g.len, ih]
    by_cases c1 : bitsI BinOp.and IntKind.i64 r.ops op = op
    · rw [decide_eq_true c1, Bool.true_and, br_t]
      cases satC x r.o r.m r.k with
      | true => rw [br_t, Bool.true_or]
      | false => rw [br_f, Bool.false_or]
    · rw [decide_eq_false c1, Bool.false_and, Bool.false_or, br_f]
theorem qAllowed_eq (x : Sec) (op : Int) (l : List Ru) (g : GoodR N l) : s_qAllowed N (rE l) op x.p x.k x.s x.l = some (perm x op l) := by
  have g1 := g.len
  have g2 := g.fuel
  unfold s_qAllowed perm
  obtain ⟨t, ht⟩ : ∃ t, N = t + 9 := ⟨N - 9, by omega⟩
  have hb := fun (K : Bool → Option Bool) => qAllowed_bits N (rE l) op x.p x.k x.s x.l K t
  rw [← ht] at hb
  rw [hb, qCheckRules_eq N l g]
  cases hs : single op with
  | false => simp [br]
  | true =>
    simp only [Bool.not_true, br_f, bnd1_mk, br_not, br_dec, Bool.true_and]
    by_cases c : chkR l = 0
    · rw [if_pos c]
      obtain ⟨_, hv⟩ := chkR_zero c
      have hL := qAllowed_loop N x op l [] N (by omega) (fun r hr => ⟨g.good r hr, (hv r hr).2.2.1⟩) (by simp; omega)
      simp only [c, decide_true, Bool.true_and]
      exact hL
    · rw [if_neg c]; simp [c]
/-- More rights. -/
theorem perm_mono {x y : Sec} (h : x.le y) (op : Int) (l : List Ru) (hp : perm x op l = true) : perm y op l = true := by
  unfold perm at *
  simp only [Bool.and_eq_true, decide_eq_true_eq] at *
  obtain ⟨h1, h2, h3⟩ := hp
  refine ⟨h1, h2, ?_⟩
  have hv := fun r hr => ((chkR_zero h1).2 r hr).2.2.1
  clear h1
  induction l with
  | nil => exact h3
  | cons r l ih =>
    rw [permL_cons, Bool.or_eq_true, Bool.and_eq_true] at h3 ⊢
    rcases h3 with h3 | h3
    · exact .inl ⟨h3.1, satC_mono h (hv r (by simp)) h3.2⟩
    · exact .inr (ih h3 fun r hr => hv r (by simp [hr]))
end
end Go.Proofs.YtahemenhcoedgaaDoor.En

/- Which conditions imply which: the program. -/
namespace Go.Proofs.YtahemenhcoedgaaDoor.En
open Go
set_option linter.unusedVariables false
def sE : List Sec → List V
  | [] => []
  | x :: l => .agg [.int .i64 x.p, .int .i64 x.k, .int .i64 x.s, .int .i64 x.l] :: sE l
abbrev se (x : Sec) : V := .agg [.int .i64 x.p, .int .i64 x.k, .int .i64 x.s, .int .i64 x.l]
theorem sE_cons (x : Sec) (l : List Sec) : sE (x :: l) = se x :: sE l := rfl
theorem sE_len : ∀ l : List Sec, (sE l).length = l.length
  | [] => rfl
  | r :: l => by simp [sE, sE_len l]
theorem sE_append : ∀ a b : List Sec, sE (a ++ b) = sE a ++ sE b
  | [], b => rfl
  | r :: a, b => by simp [sE, sE_append a b]
theorem stepS (pre : List V) (x : V) (r : List Sec) (h : pre.length + (r.length + 1) ≤ 9223372036854775807) :
    (pre.length : Int) < ((pre ++ x :: sE r).length : Int) ∧ (0 : Int) ≤ pre.length ∧ IntKind.i64.wrap ((pre.length : Int) + 1) = ((pre ++ [x]).length : Int) ∧ ((pre ++ x :: sE r).length : Int) = (((pre ++ [x]) ++ sE r).length : Int) :=
  stepI pre x (sE r) (by rw [sE_len]; exact h)
section
variable (N : Nat)
theorem IndexS_loop (s : Sec) : ∀ (l : List Sec) (pre : List V) (t : Nat), l.length < t → pre.length + l.length ≤ 9223372036854775807 →
      ∃ i, S_IndexS_2 N (pre ++ sE l) ((pre ++ sE l).length : Int) s.p s.k s.s s.l t (pre.length : Int) (fun n0 => some n0) (some (-1)) = some i ∧ decide (0 ≤ i) = decide (s ∈ l)
  | l, pre, 0, ht, _ => by omega
  | [], pre, t + 1, ht, _ => by
    unfold S_IndexS_2 F_IndexS_2
    simp only [sE, br_t, br_f, br_dec, br_not, br_and, br_or, bnd1_mk, bnd2_mk, bnd3_mk, bnd4_mk, bnd5_mk, at_zero, at_succ, at_mid, unInt_mk, unBool_mk, unStr_mk, unBytes_mk, unSl_mk, unAgg_mk, unCons_mk, unNil_mk, endI, if_false]
    exact ⟨-1, rfl, by simp⟩
  | x :: l, pre, t + 1, ht, hl => by
    simp only [List.length_cons] at ht hl
    obtain ⟨h1, h2, h3, h4⟩ := stepS pre (se x) l hl
    obtain ⟨i, ih1, ih2⟩ := IndexS_loop s l (pre ++ [se x]) t (by omega) (by simp; omega)
    rw [← mid, ← h3] at ih1
    unfold S_IndexS_2 F_IndexS_2
    have e : (decide (s.p = x.p) && (decide (s.k = x.k) && (decide (s.s = x.s) && (decide (s.l = x.l) && true)))) = decide (s = x) := by
      obtain ⟨a, b, c, d⟩ := s
      obtain ⟨a', b', c', d'⟩ := x
      rw [Bool.eq_iff_iff]; simp
    simp only [sE_cons, br_lt, br_le, decide_true, br_t, at_mid, unInt_mk, unAgg_mk, unCons_mk, unNil_mk, br_and, h1, h2, if_true, Int.toNat_natCast]
    have e2 : br (decide (s.p = x.p)) (br (decide (s.k = x.k)) (br (decide (s.s = x.s)) (br (decide (s.l = x.l)) (some (pre.length : Int)) (S_IndexS_2 N (pre ++ se x :: sE l) ((pre ++ se x :: sE l).length : Int) s.p s.k s.s s.l t (IntKind.i64.wrap ((pre.length : Int) + 1)) (fun n0 => some n0) (some (-1)))) (S_IndexS_2 N (pre ++ se x :: sE l) ((pre ++ se x :: sE l).length : Int) s.p s.k s.s s.l t (IntKind.i64.wrap ((pre.length : Int) + 1)) (fun n0 => some n0) (some (-1)))) (S_IndexS_2 N (pre ++ se x :: sE l) ((pre ++ se x :: sE l).length : Int) s.p s.k s.s s.l t (IntKind.i64.wrap ((pre.length : Int) + 1)) (fun n0 => some n0) (some (-1)))) (S_IndexS_2 N (pre ++ se x :: sE l) ((pre ++ se x :: sE l).length : Int) s.p s.k s.s s.l t (IntKind.i64.wrap ((pre.length : Int) + 1)) (fun n0 => some n0) (some (-1))) = if s = x then some (pre.length : Int) else S_IndexS_2 N (pre ++ se x :: sE l) ((pre ++ se x :: sE l).length : Int) s.p s.k s.s s.l t (IntKind.i64.wrap ((pre.length : Int) + 1)) (fun n0 => some n0) (some (-1)) := by
      generalize S_IndexS_2 N (pre ++ se x :: sE l) ((pre ++ se x :: sE l).length : Int) s.p s.k s.s s.l t (IntKind.i64.wrap ((pre.length : Int) + 1)) (fun n0 => some n0) (some (-1)) = z
      by_cases c : s = x
      · rw [if_pos c, c]; simp [br]
      · rw [if_neg c]
        have : (decide (s.p = x.p) && (decide (s.k = x.k) && (decide (s.s = x.s) && (decide (s.l = x.l) && true)))) = false := by rw [e]; simpa using c
        revert this
        cases decide (s.p = x.p) <;> cases decide (s.k = x.k) <;> cases decide (s.s = x.s) <;> cases decide (s.l = x.l) <;> simp [br]
    rw [e2]
    by_cases c : s = x
    · rw [if_pos c]; exact ⟨_, rfl, by simp [c]⟩
    · rw [if_neg c]; exact ⟨i, ih1, by rw [ih2]; simp [c]⟩
theorem ContainsS_eq (s : Sec) (l : List Sec) (h : l.length < N) (hl : l.length ≤ 9223372036854775807) : s_ContainsS N (sE l) s.p s.k s.s s.l = some (decide (s ∈ l)) := by
  obtain ⟨i, i1, i2⟩ := IndexS_loop N s l [] N h (by simpa using hl)
  have i1' : S_IndexS_2 N (sE l) ((sE l).length : Int) s.p s.k s.s s.l N 0 (fun n0 => some n0) (some (-1)) = some i := i1
  unfold s_ContainsS s_IndexS
  rw [i1', bnd1_mk, i2]
theorem join_eq (x y : Sec) : s_join N x.p x.k x.s x.l y.p y.k y.s y.l = some ((x.join y).p, (x.join y).k, (x.join y).s, (x.join y).l) := rfl
theorem least30_loop {R : Type} (hN : 200000 < N) (f : Int → Int → List V → Option (List V)) (x : Sec) (K : List V → Option R) (a1 a2 a5 a13 a16 : List V) (b3 b4 b6 b7 b11 b12 b14 b15 : Int) : ∀ (ys : List Sec) (pre : List V) (t : Nat) (next : List Sec), ys.length < t → pre.length + ys.length ≤ 9223372036854775807 → next.length + ys.length ≤ 100000 →
      S_least_30 N f a1 a2 b3 b4 a5 b6 b7 (pre ++ sE ys) ((pre ++ sE ys).length : Int) b11 b12 a13 b14 b15 a16 x.p x.k x.s x.l t (sE next) (pre.length : Int) K = K (sE (prod1 x next ys))
  | ys, pre, 0, next, ht, _, _ => by omega
  | [], pre, t + 1, next, ht, _, _ => by
    unfold S_least_30 F_least_30
    simp only [sE, br_t, br_f, br_dec, br_not, br_and, br_or, bnd1_mk, bnd2_mk, bnd3_mk, bnd4_mk, bnd5_mk, at_zero, at_succ, at_mid, unInt_mk, unBool_mk, unStr_mk, unBytes_mk, unSl_mk, unAgg_mk, unCons_mk, unNil_mk, endI, if_false, prod1]
  | y :: ys, pre, t + 1, next, ht, hl, hn => by
    simp only [List.length_cons] at ht hl hn
    obtain ⟨h1, h2, h3, h4⟩ := stepS pre (se y) ys hl
    have ih := fun next hn => least30_loop hN f x K a1 a2 a5 a13 a16 b3 b4 b6 b7 b11 b12 b14 b15 ys (pre ++ [se y]) t next (by omega) (by simp; omega) hn
    rw [← mid, ← h3] at ih
    unfold S_least_30 F_least_30
    simp only [sE_cons, br_t, br_f, br_dec, br_not, br_and, br_or, bnd1_mk, bnd2_mk, bnd3_mk, bnd4_mk, bnd5_mk, at_zero, at_succ, at_mid, unInt_mk, unBool_mk, unStr_mk, unBytes_mk, unSl_mk, unAgg_mk, unCons_mk, unNil_mk, h1, h2, if_true, Int.toNat_natCast, join_eq, ContainsS_eq N (x.join y) next (by omega) (by omega), prod1, addS]
    by_cases c : x.join y ∈ next
    · rw [if_pos c, ih next (by omega), if_pos c]
    · have hlen : ((sE next).length + [V.agg [V.int IntKind.i64 (x.join y).p, V.int IntKind.i64 (x.join y).k, V.int IntKind.i64 (x.join y).s, V.int IntKind.i64 (x.join y).l]].length) * 32 ≤ 140737488355328 := by
        rw [sE_len]; simp; omega
      have e : sE next ++ [V.agg [V.int IntKind.i64 (x.join y).p, V.int IntKind.i64 (x.join y).k, V.int IntKind.i64 (x.join y).s, V.int IntKind.i64 (x.join y).l]] = sE (next ++ [x.join y]) := by rw [sE_append]; rfl
      rw [if_neg c, if_pos hlen, e, ih (next ++ [x.join y]) (by simp; omega), if_neg c]
theorem least27_loop {R : Type} (hN : 200000 < N) (f : Int → Int → List V → Option (List V)) (ys : List Sec) (K : List V → Option R) (a2 a10 a13 : List V) (b3 b4 b8 b9 b11 b12 : Int) : ∀ (xs : List Sec) (pre : List V) (t : Nat) (next : List Sec), xs.length < t → pre.length + xs.length ≤ 9223372036854775807 → next.length + xs.length * ys.length ≤ 100000 → ys.length ≤ 100000 →
      S_least_27 N f (sE ys) a2 b3 b4 (pre ++ sE xs) ((pre ++ sE xs).length : Int) b8 b9 a10 b11 b12 a13 t (sE next) (pre.length : Int) K = K (sE (prod ys next xs))
  | xs, pre, 0, next, ht, _, _, _ => by omega
  | [], pre, t + 1, next, ht, _, _, _ => by
    unfold S_least_27 F_least_27
    simp only [sE, br_t, br_f, br_dec, br_not, br_and, br_or, bnd1_mk, bnd2_mk, bnd3_mk, bnd4_mk, bnd5_mk, at_zero, at_succ, at_mid, unInt_mk, unBool_mk, unStr_mk, unBytes_mk, unSl_mk, unAgg_mk, unCons_mk, unNil_mk, endI, if_false, prod]
  | x :: xs, pre, t + 1, next, ht, hl, hn, hy => by
    simp only [List.length_cons, Nat.succ_mul] at ht hl hn
    obtain ⟨h1, h2, h3, h4⟩ := stepS pre (se x) xs hl
    have hp := len_prod1 x ys next
    have ih := least27_loop hN f ys K a2 a10 a13 b3 b4 b8 b9 b11 b12 xs (pre ++ [se x]) t (prod1 x next ys) (by omega) (by simp; omega) (by omega) hy
    rw [← mid, ← h3] at ih
    unfold S_least_27 F_least_27
    have h30 := fun (K : List V → Option R) (b6 b7 b11 b12 b14 b15 : Int) (a5 a13 a16 : List V) => least30_loop N hN f x K (sE ys) a2 a5 a13 a16 b3 b4 b6 b7 b11 b12 b14 b15 ys [] N next (by omega) (by simp; omega) (by omega)
    simp only [List.nil_append, List.length_nil, Int.natCast_zero] at h30
    have h30' : ∀ (K : List V → Option R) (b6 b7 b11 b12 b14 b15 : Int) (a5 a13 a16 : List V), S_least_30 N f (sE ys) a2 b3 b4 a5 b6 b7 (sE ys) ((sE ys).length : Int) b11 b12 a13 b14 b15 a16 x.p x.k x.s x.l N (sE next) 0 K = K (sE (prod1 x next ys)) := h30
    simp only [sE_cons, br_t, br_f, br_dec, br_not, br_and, br_or, bnd1_mk, bnd2_mk, bnd3_mk, bnd4_mk, bnd5_mk, at_zero, at_succ, at_mid, unInt_mk, unBool_mk, unStr_mk, unBytes_mk, unSl_mk, unAgg_mk, unCons_mk, unNil_mk, h1, h2, if_true, Int.toNat_natCast, h30', prod]
    exact ih
theorem least23_loop {R : Type} (hN : 200000 < N) (f : Int → Int → List V → Option (List V)) (n : Nat) (hf : ∀ (o m : Int) (k : Cl), vC o m k = true → k.nodes < n → k.wf → K63 k → f o m k.enc = some (sE (lC o m k))) (K : List V → Option R) (a6 : List V) (b4 b5 : Int) : ∀ (l : Cl) (pre : List V) (t : Nat) (out : List Sec), vL l = true → l.len < t → l.nodes ≤ n → l.wf → pre.length + l.len ≤ 9223372036854775807 → out.length * 2 ^ l.nodes ≤ 100000 → out.length ≤ 100000 → l.nodes ≤ 16 →
      S_least_23 N f (pre ++ l.enc) ((pre ++ l.enc).length : Int) b4 b5 a6 t (sE out) (pre.length : Int) K = K (sE (lq l true out))
  | l, pre, 0, out, _, ht, _, _, _, _, _, _ => by omega
  | .nil, pre, t + 1, out, _, ht, _, _, _, _, _, _ => by
    unfold S_least_23 F_least_23
    simp only [Cl.enc, br_t, br_f, br_dec, br_not, br_and, br_or, bnd1_mk, bnd2_mk, bnd3_mk, bnd4_mk, bnd5_mk, at_zero, at_succ, at_mid, unInt_mk, unBool_mk, unStr_mk, unBytes_mk, unSl_mk, unAgg_mk, unCons_mk, unNil_mk, endI, if_false, lq]
  | .cons o m k r, pre, t + 1, out, hv, ht, hn, hw, hl, hb, ho, h16 => by
    simp only [Cl.len, Cl.nodes] at ht hn hl hb h16
    rw [vL_cons, Bool.and_eq_true] at hv
    obtain ⟨_, _, hk1, hk2, hr⟩ := hw
    obtain ⟨h1, h2, h3, h4⟩ := stepC pre (ce o m k) r hl
    have hp2 : 2 ^ k.nodes ≤ 2 ^ 15 := Nat.pow_le_pow_right (by omega) (by omega)
    have hlc : (lC o m k).length ≤ 2 ^ k.nodes := by
      have hk := len_lq k [zeroS]
      have hk2 := len_lq k []
      have hp : 1 ≤ 2 ^ k.nodes := Nat.one_le_two_pow
      unfold lC
      split
      · simpa using hk.1
      split
      · simpa using hk2.2
      · exact Nat.le_trans (len_base o m) hp
    have hpr := len_prod out (lC o m k) []
    have hmul : (lC o m k).length * out.length ≤ 2 ^ k.nodes * out.length := Nat.mul_le_mul_right _ hlc
    have e : out.length * 2 ^ (k.nodes + r.nodes + 1) = (2 ^ k.nodes * out.length) * 2 ^ r.nodes * 2 := by
      rw [Nat.pow_succ, Nat.pow_add]; simp only [Nat.mul_comm, Nat.mul_left_comm, Nat.mul_assoc]
    rw [e] at hb
    have hone : 1 ≤ 2 ^ r.nodes := Nat.one_le_two_pow
    have hb1 : 2 ^ k.nodes * out.length ≤ (2 ^ k.nodes * out.length) * 2 ^ r.nodes := Nat.le_mul_of_pos_right _ hone
    have hb2 : (prod out [] (lC o m k)).length * 2 ^ r.nodes ≤ (2 ^ k.nodes * out.length) * 2 ^ r.nodes := Nat.mul_le_mul_right _ (by simp at hpr; omega)
    have ih := least23_loop hN f n hf K a6 b4 b5 r (pre ++ [ce o m k]) t (prod out [] (lC o m k)) hv.2 (by omega) (by omega) hr (by simp; omega) (by omega) (by simp at hpr; omega) (by omega)
    rw [← mid, ← h3] at ih
    have h27 := fun (K : List V → Option R) (a2 a10 a13 : List V) (b3 b4 b8 b9 b11 b12 : Int) => least27_loop N hN f out K a2 a10 a13 b3 b4 b8 b9 b11 b12 (lC o m k) [] N [] (by omega) (by simp; omega) (by simp; omega) ho
    have h27' : ∀ (K : List V → Option R) (a2 a10 a13 : List V) (b3 b4 b8 b9 b11 b12 : Int), S_least_27 N f (sE out) a2 b3 b4 (sE (lC o m k)) ((sE (lC o m k)).length : Int) b8 b9 a10 b11 b12 a13 N [] 0 K = K (sE (prod out [] (lC o m k))) := h27
    unfold S_least_23 F_least_23
    rw [lq_cons]
    simp only [enc_cons, br_t, br_f, br_dec, br_not, br_and, br_or, bnd1_mk, bnd2_mk, bnd3_mk, bnd4_mk, bnd5_mk, at_zero, at_succ, at_mid, unInt_mk, unBool_mk, unStr_mk, unBytes_mk, unSl_mk, unAgg_mk, unCons_mk, unNil_mk, h1, h2, if_true, Int.toNat_natCast, hf o m k hv.1 (by omega) hk2 hk1, h27', cond_true]
    exact ih
theorem least15_loop {R : Type} (hN : 200000 < N) (f : Int → Int → List V → Option (List V)) (n : Nat) (hf : ∀ (o m : Int) (k : Cl), vC o m k = true → k.nodes < n → k.wf → K63 k → f o m k.enc = some (sE (lC o m k))) (K : List V → Option R) (a6 : List V) (b4 b5 : Int) : ∀ (l : Cl) (pre : List V) (t : Nat) (out : List Sec), vL l = true → l.len < t → l.nodes ≤ n → l.wf → pre.length + l.len ≤ 9223372036854775807 → out.length + 2 ^ l.nodes ≤ 100000 →
      S_least_15 N f (pre ++ l.enc) ((pre ++ l.enc).length : Int) b4 b5 a6 t (sE out) (pre.length : Int) K = K (sE (lq l false out))
  | l, pre, 0, out, _, ht, _, _, _, _ => by omega
  | .nil, pre, t + 1, out, _, ht, _, _, _, _ => by
    unfold S_least_15 F_least_15
    simp only [Cl.enc, br_t, br_f, br_dec, br_not, br_and, br_or, bnd1_mk, bnd2_mk, bnd3_mk, bnd4_mk, bnd5_mk, at_zero, at_succ, at_mid, unInt_mk, unBool_mk, unStr_mk, unBytes_mk, unSl_mk, unAgg_mk, unCons_mk, unNil_mk, endI, if_false, lq]
  | .cons o m k r, pre, t + 1, out, hv, ht, hn, hw, hl, hb => by
    simp only [Cl.len, Cl.nodes] at ht hn hl hb
    rw [vL_cons, Bool.and_eq_true] at hv
    obtain ⟨_, _, hk1, hk2, hr⟩ := hw
    obtain ⟨h1, h2, h3, h4⟩ := stepC pre (ce o m k) r hl
    have hlc : (lC o m k).length ≤ 2 ^ k.nodes := by
      have hk := len_lq k [zeroS]
      have hk2 := len_lq k []
      have hp : 1 ≤ 2 ^ k.nodes := Nat.one_le_two_pow
      unfold lC
      split
      · simpa using hk.1
      split
      · simpa using hk2.2
      · exact Nat.le_trans (len_base o m) hp
    have h2a := two_add k.nodes r.nodes
    have hone : 1 ≤ 2 ^ r.nodes := Nat.one_le_two_pow
    have ih := least15_loop hN f n hf K a6 b4 b5 r (pre ++ [ce o m k]) t (out ++ lC o m k) hv.2 (by omega) (by omega) hr (by simp; omega) (by rw [List.length_append]; omega)
    rw [← mid, ← h3] at ih
    unfold S_least_15 F_least_15
    rw [lq_cons]
    have hlen : ((sE out).length + (sE (lC o m k)).length) * 32 ≤ 140737488355328 := by rw [sE_len, sE_len]; omega
    simp only [enc_cons, br_t, br_f, br_dec, br_not, br_and, br_or, bnd1_mk, bnd2_mk, bnd3_mk, bnd4_mk, bnd5_mk, at_zero, at_succ, at_mid, unInt_mk, unBool_mk, unStr_mk, unBytes_mk, unSl_mk, unAgg_mk, unCons_mk, unNil_mk, h1, h2, if_true, Int.toNat_natCast, hf o m k hv.1 (by omega) hk2 hk1, cond_false, hlen]
    rw [← sE_append]
    exact ih
theorem least_eq (hN : 200000 < N) : ∀ (M : Nat) (o m : Int) (k : Cl), vC o m k = true → k.nodes < M → k.nodes ≤ 15 → k.wf → K63 k → s_least N M o m k.enc = some (sE (lC o m k))
  | 0, o, m, k, _, h, _, _, _ => by omega
  | M + 1, o, m, k, hv, h, h15, hw, hl => by
    have hln := Cl.len_le k
    have hf := fun (o m : Int) (k' : Cl) (a0 : vC o m k' = true) (a1 : k'.nodes < k.nodes) (a2 : k'.wf) (a3 : K63 k') => least_eq hN M o m k' a0 (by omega) (by omega) a2 a3
    have hp2 : 2 ^ k.nodes ≤ 2 ^ 15 := Nat.pow_le_pow_right (by omega) (by omega)
    unfold s_least B_least lC
    simp only [br_dec]
    rcases vC_leaf hv with ⟨rfl, _⟩ | ⟨rfl, _⟩ | ⟨rfl, b1, b2, _⟩ | ⟨rfl, b1, b2, _⟩ | ⟨rfl, _⟩ | ⟨rfl, b1, b2, _⟩ | ⟨rfl | rfl, h1, h2, h3⟩
    · simp [baseS, sE]
    · simp [baseS, sE, zeroS]
    · have e := shl1 (n := m.toNat) (by omega)
      rw [Int.toNat_of_nonneg (by omega)] at e
      simp [baseS, sE, e]; omega
    · have e := shl1 (n := m.toNat) (by omega)
      rw [Int.toNat_of_nonneg (by omega)] at e
      simp [baseS, sE, e]; omega
    · simp [baseS, sE]
    · simp [baseS, sE]
    · have hL := least23_loop N hN (s_least N M) k.nodes hf (fun l1 => some l1) k.enc 6 m k [] N [zeroS] h3 (by omega) (Nat.le_refl _) hw (by simpa using hl) (by simp; omega) (by simp) (by omega)
      simp only [if_true, (by decide : ¬ (6 : Int) = 1), (by decide : ¬ (6 : Int) = 2), (by decide : ¬ (6 : Int) = 3), (by decide : ¬ (6 : Int) = 4), (by decide : ¬ (6 : Int) = 5), (by decide : ¬ (6 : Int) = 7), if_false]
      exact hL
    · have hL := least15_loop N hN (s_least N M) k.nodes hf (fun l1 => some l1) k.enc 7 m k [] N [] h3 (by omega) (Nat.le_refl _) hw (by simpa using hl) (by simp; omega)
      simp only [if_true, (by decide : ¬ (7 : Int) = 1), (by decide : ¬ (7 : Int) = 2), (by decide : ¬ (7 : Int) = 3), (by decide : ¬ (7 : Int) = 4), (by decide : ¬ (7 : Int) = 5), (by decide : ¬ (7 : Int) = 6), if_false]
      exact hL
theorem IndexFuncP_loop (o m : Int) (k : Cl) (hv : vC o m k = true) (g : GoodC N k) : ∀ (l : List Sec) (pre : List V) (t : Nat), l.length < t → pre.length + l.length ≤ 9223372036854775807 →
      ∃ i, S_IndexFuncP_2 N (pre ++ sE l) ((pre ++ sE l).length : Int) o m k.enc t (pre.length : Int) (fun n0 => some n0) (some (-1)) = some i ∧ decide (0 ≤ i) = !l.all fun x => satC x o m k
  | l, pre, 0, ht, _ => by omega
  | [], pre, t + 1, ht, _ => by
    unfold S_IndexFuncP_2 F_IndexFuncP_2
    simp only [sE, br_t, br_f, br_dec, br_not, br_and, br_or, bnd1_mk, bnd2_mk, bnd3_mk, bnd4_mk, bnd5_mk, at_zero, at_succ, at_mid, unInt_mk, unBool_mk, unStr_mk, unBytes_mk, unSl_mk, unAgg_mk, unCons_mk, unNil_mk, endI, if_false]
    exact ⟨-1, rfl, by simp⟩
  | x :: l, pre, t + 1, ht, hl => by
    simp only [List.length_cons] at ht hl
    obtain ⟨h1, h2, h3, h4⟩ := stepS pre (se x) l hl
    obtain ⟨i, ih1, ih2⟩ := IndexFuncP_loop o m k hv g l (pre ++ [se x]) t (by omega) (by simp; omega)
    rw [← mid, ← h3] at ih1
    unfold S_IndexFuncP_2 F_IndexFuncP_2 s_Implies1 C_Implies1
    rw [List.all_cons]
    simp only [sE_cons, br_t, br_f, br_dec, br_not, br_and, br_or, bnd1_mk, bnd2_mk, bnd3_mk, bnd4_mk, bnd5_mk, at_zero, at_succ, at_mid, unInt_mk, unBool_mk, unStr_mk, unBytes_mk, unSl_mk, unAgg_mk, unCons_mk, unNil_mk, h1, h2, if_true, Int.toNat_natCast, asat_eq N x N o m k hv g.fuel g.fuel g.wf g.len]
    cases satC x o m k with
    | false => exact ⟨_, rfl, by simp⟩
    | true => exact ⟨i, ih1, by rw [ih2]; rfl⟩
/-- What the program's Implies returns. -/
def impP (o m : Int) (k : Cl) (o' m' : Int) (k' : Cl) : Bool := decide (chk o m k = 0) && (decide (chk o' m' k' = 0) && (lC o m k).all fun x => satC x o' m' k')
theorem Implies_eq (hN : 200000 < N) (o m : Int) (k : Cl) (o' m' : Int) (k' : Cl) (g : GoodC N k) (g' : GoodC N k') : s_Implies N o m k.enc o' m' k'.enc = some (impP o m k o' m' k') := by
  unfold s_Implies impP
  rw [aCheck_eq N o m k g, bnd1_mk, br_not, br_dec]
  by_cases c : chk o m k = 0
  · rw [if_pos c, aCheck_eq N o' m' k' g', bnd1_mk, br_not, br_dec]
    by_cases c' : chk o' m' k' = 0
    · obtain ⟨v, n15, _⟩ := chk_zero c
      obtain ⟨v', _, _⟩ := chk_zero c'
      have hlc : (lC o m k).length ≤ 2 ^ k.nodes := by
        have hk := len_lq k [zeroS]
        have hk2 := len_lq k []
        have hp : 1 ≤ 2 ^ k.nodes := Nat.one_le_two_pow
        unfold lC
        split
        · simpa using hk.1
        split
        · simpa using hk2.2
        · exact Nat.le_trans (len_base o m) hp
      have hp2 : 2 ^ k.nodes ≤ 2 ^ 15 := Nat.pow_le_pow_right (by omega) (by omega)
      obtain ⟨i, i1, i2⟩ := IndexFuncP_loop N o' m' k' v' g' (lC o m k) [] N (by omega) (by simp; omega)
      have i1' : S_IndexFuncP_2 N (sE (lC o m k)) ((sE (lC o m k)).length : Int) o' m' k'.enc N 0 (fun n0 => some n0) (some (-1)) = some i := i1
      rw [if_pos c', least_eq N hN N o m k v g.fuel n15 g.wf g.len, bnd1_mk]
      unfold s_ContainsFuncP C_ContainsFuncP s_IndexFuncP C_IndexFuncP
      rw [i1', bnd1_mk]
      show some (!decide (0 ≤ i)) = _
      rw [i2, Bool.not_not]
      simp [c, c']
    · rw [if_neg c']; simp [c']
  · rw [if_neg c]; simp [c]
end
end Go.Proofs.YtahemenhcoedgaaDoor.En

/- Decoding data objects: what the program and the reference compute; there and back. -/
namespace Go.Proofs.YtahemenhcoedgaaDoor.En
open Go
set_option linter.unusedVariables false
theorem w256 (u w : UInt8) : IntKind.i64.wrap (IntKind.i64.wrap (256 * (u.toNat : Int)) + (w.toNat : Int)) = 256 * (u.toNat : Int) + w.toNat := by
  have := u8_lt u; have := u8_lt w
  rw [w64 (n := 256 * (u.toNat : Int)) (by omega) (by omega), w64 (by omega) (by omega)]
end Go.Proofs.YtahemenhcoedgaaDoor.En

/- Decoding lists of data objects. -/
namespace Go.Proofs.YtahemenhcoedgaaDoor.En
open Go
set_option linter.unusedVariables false
end Go.Proofs.YtahemenhcoedgaaDoor.En

/- Decode, of the program and of the reference. -/
namespace Go.Proofs.YtahemenhcoedgaaDoor.En
open Go
set_option linter.unusedVariables false
end Go.Proofs.YtahemenhcoedgaaDoor.En

/- Encoding rules: the program and the reference. -/
namespace Go.Proofs.YtahemenhcoedgaaDoor.En
open Go
set_option linter.unusedVariables false
theorem bI (n : Int) : UInt8.ofNat (IntKind.u8.wrap n).toNat = byteI n := by rw [wu8]; rfl
theorem nilApp {α : Type} (l : List α) : List.append [] l = l := id rfl
section
variable (N : Nat)
theorem aencode_loop {R : Type} (f : Int → Int → List V → Option (List UInt8)) (n : Nat) (hf : ∀ (o m : Int) (k : Cl), vC o m k = true → k.nodes < n → k.wf → K63 k → f o m k.enc = some (eC o m k)) (K : List UInt8 → Option R) (a4 a5 : Int) (a6 : List V) (a7 : List UInt8) (b8 b9 : Bool) (a10 a11 : Int) :
    ∀ (l : Cl) (pre : List V) (t : Nat) (acc : List UInt8), vL l = true → l.len < t → l.nodes ≤ n → l.wf → pre.length + l.len ≤ 9223372036854775807 → acc.length + 2 * l.nodes ≤ 1000000 →
      S_aencode_8 N f (pre ++ l.enc) ((pre ++ l.enc).length : Int) a4 a5 a6 a7 b8 b9 a10 a11 t acc (pre.length : Int) K = K (acc ++ eL l)
  | l, pre, 0, acc, _, ht, _, _, _, _ => by omega
  | .nil, pre, t + 1, acc, _, ht, _, _, _, _ => by
    unfold S_aencode_8 F_aencode_8
    simp only [Cl.enc, br_t, br_f, br_dec, br_not, br_and, br_or, bnd1_mk, bnd2_mk, bnd3_mk, bnd4_mk, bnd5_mk, at_zero, at_succ, at_mid, unInt_mk, unBool_mk, unStr_mk, unBytes_mk, unSl_mk, unAgg_mk, unCons_mk, unNil_mk, endI, if_false, eL]
    rw [List.append_nil]
  | .cons o m k r, pre, t + 1, acc, hv, ht, hn, hw, hl, hb => by
    simp only [Cl.len, Cl.nodes] at ht hn hl hb
    rw [vL_cons, Bool.and_eq_true] at hv
    obtain ⟨_, _, hk1, hk2, hr⟩ := hw
    obtain ⟨h1, h2, h3, h4⟩ := stepC pre (ce o m k) r hl
    have hlen : (eC o m k).length ≤ 2 * k.nodes + 2 := by
      have := eL_len (.cons o m k .nil)
      rw [eL_cons] at this
      simp only [eL, List.append_nil, Cl.nodes] at this
      omega
    have ih := aencode_loop f n hf K a4 a5 a6 a7 b8 b9 a10 a11 r (pre ++ [ce o m k]) t (acc ++ eC o m k) hv.2 (by omega) (by omega) hr (by simp; omega) (by rw [List.length_append]; omega)
    rw [← mid, ← h3] at ih
    have hc : (acc.length + (eC o m k).length) * 1 ≤ 140737488355328 := by omega
    unfold S_aencode_8 F_aencode_8
    simp only [enc_cons, br_t, br_f, br_dec, br_not, br_and, br_or, bnd1_mk, bnd2_mk, bnd3_mk, bnd4_mk, bnd5_mk, at_zero, at_succ, at_mid, unInt_mk, unBool_mk, unStr_mk, unBytes_mk, unSl_mk, unAgg_mk, unCons_mk, unNil_mk, h1, h2, if_true, Int.toNat_natCast, hf o m k hv.1 (by omega) hk2 hk1, hc]
    rw [ih, eL_cons, List.append_assoc]
theorem aencode_eq : ∀ (M : Nat) (o m : Int) (k : Cl), vC o m k = true → k.nodes < M → k.nodes < N → k.nodes ≤ 1000 → k.wf → K63 k → s_aencode N M o m k.enc = some (eC o m k)
  | 0, o, m, k, _, h, _, _, _, _ => by omega
  | M + 1, o, m, k, hv, h, hN, hs, hw, hl => by
    have hln := Cl.len_le k
    have hf := fun (o m : Int) (k' : Cl) (a0 : vC o m k' = true) (a1 : k'.nodes < k.nodes) (a2 : k'.wf) (a3 : K63 k') => aencode_eq M o m k' a0 (by omega) (by omega) (by omega) a2 a3
    have hL := fun (a7 : List UInt8) (b8 b9 : Bool) (a10 a11 : Int) (acc : List UInt8) (ha : acc.length ≤ 2) (hvk : vL k = true) => aencode_loop N (s_aencode N M) k.nodes hf (fun l1 => some l1) o m k.enc a7 b8 b9 a10 a11 k [] N acc hvk (by omega) (Nat.le_refl _) hw (by simpa using hl) (by omega)
    have hL' : ∀ (a7 : List UInt8) (b8 b9 : Bool) (a10 a11 : Int) (acc : List UInt8), acc.length ≤ 2 → vL k = true → S_aencode_8 N (s_aencode N M) k.enc (k.enc.length : Int) o m k.enc a7 b8 b9 a10 a11 N acc 0 (fun l1 => some l1) = some (acc ++ eL k) := hL
    unfold s_aencode B_aencode eC
    simp only [s_forms, bnd1_mk, br_dec, bI, Cl.enc_len] at hL' ⊢
    rcases vC_leaf hv with ⟨rfl, _, rfl⟩ | ⟨rfl, _, rfl⟩ | ⟨rfl, b1, b2, rfl⟩ | ⟨rfl, b1, b2, rfl⟩ | ⟨rfl, _, _, rfl⟩ | ⟨rfl, b1, b2, rfl⟩ | ⟨rfl | rfl, h1, h2, h3⟩
    · rw [if_pos rfl, hL' _ _ _ _ _ _ (by simp) rfl]; rfl
    · rw [if_neg (by omega), if_pos rfl, hL' _ _ _ _ _ _ (by simp) rfl]; rfl
    · rw [if_neg (by omega), if_neg (by omega), if_pos rfl, hL' _ _ _ _ _ _ (by simp) rfl, if_neg (by omega), if_pos (by omega)]; rfl
    · rw [if_neg (by omega), if_neg (by omega), if_neg (by omega), if_pos rfl, hL' _ _ _ _ _ _ (by simp) rfl, if_neg (by omega), if_pos (by omega)]; rfl
    · rw [if_neg (by omega), if_neg (by omega), if_neg (by omega), if_neg (by omega), if_pos rfl, hL' _ _ _ _ _ _ (by simp) rfl, if_neg (by omega), if_pos (by omega)]; rfl
    · rw [if_neg (by omega), if_neg (by omega), if_neg (by omega), if_neg (by omega), if_neg (by omega), if_pos rfl, hL' _ _ _ _ _ _ (by simp) rfl, if_neg (by omega), if_pos (by omega)]; rfl
    · rw [if_neg (by omega), if_neg (by omega), if_neg (by omega), if_neg (by omega), if_neg (by omega), if_neg (by omega), if_pos rfl, hL' _ _ _ _ _ _ (by simp) h3, if_pos (by omega)]; rfl
    · rw [if_neg (by omega), if_neg (by omega), if_neg (by omega), if_neg (by omega), if_neg (by omega), if_neg (by omega), if_neg (by omega), if_pos rfl, hL' _ _ _ _ _ _ (by simp) h3, if_pos (by omega)]; rfl
/-- Rules as data objects. -/
def rT : List Ru → Tl
  | [] => .nil
  | r :: l => .cons 128 (byteI r.ops :: eC r.o r.m r.k) .nil (rT l)
theorem rT_ok : ∀ l : List Ru, okL 1 (rT l) = true
  | [] => rfl
  | r :: l => by
    have e1 : tagV 128 = true := by decide
    have e2 : tagC 128 = false := by decide
    unfold rT okL
    rw [e1, e2, rT_ok l]; rfl
theorem rT_len : ∀ l : List Ru, (rT l).len = l.length
  | [] => rfl
  | r :: l => by simp [rT, Tl.len, rT_len l]
theorem rT_wt : ∀ l : List Ru, (∀ r ∈ l, r.k.nodes ≤ 15) → (rT l).wt ≤ 40 * l.length ∧ (encL (rT l)).length ≤ 40 * l.length ∧ (rT l).nodes ≤ l.length ∧ (rT l).wf
  | [], _ => ⟨Nat.le_refl _, Nat.le_refl _, Nat.le_refl _, trivial⟩
  | r :: l, h => by
    obtain ⟨h1, h2, h3, h4⟩ := rT_wt l fun r hr => h r (by simp [hr])
    have hr := h r (by simp)
    have hlen : (eC r.o r.m r.k).length ≤ 2 * r.k.nodes + 2 := by
      have := eL_len (.cons r.o r.m r.k .nil)
      rw [eL_cons] at this
      simp only [eL, List.append_nil, Cl.nodes] at this
      omega
    have e2 : tagC 128 = false := by decide
    have ht := tagB_len 128
    have hlb := lenB_len (((byteI r.ops :: eC r.o r.m r.k).length : Nat) : Int)
    refine ⟨?_, ?_, ?_, ?_⟩
    · unfold rT; simp only [Tl.wt, List.length_cons]; omega
    · unfold rT; rw [encL_cons, e2]; simp only [cond_false, List.length_append, List.length_cons] at hlb ⊢; omega
    · unfold rT; simp only [Tl.nodes, List.length_cons]; omega
    · unfold rT; exact ⟨⟨by omega, by omega⟩, by simp only [List.length_cons]; omega, by simp [Tl.len], trivial, h4⟩
theorem rT_cons (a : Tl) (r : Ru) (l : List Ru) : (a.append (.cons 128 (byteI r.ops :: eC r.o r.m r.k) .nil .nil)).append (rT l) = a.append (rT (r :: l)) := by
  induction a with
  | nil => rfl
  | cons t v k r' _ ih => simp only [Tl.append]; rw [ih]
theorem aEncode_loop {R : Type} (K : List V → Option R) : ∀ (l : List Ru) (pre : List V) (t : Nat) (acc : Tl), l.length < t → (∀ r ∈ l, GoodC N r.k ∧ vC r.o r.m r.k = true) → pre.length + l.length ≤ 9223372036854775807 → acc.len + l.length ≤ 1000 →
      S_aEncode_6 N (pre ++ rE l) ((pre ++ rE l).length : Int) t acc.enc (pre.length : Int) K = K (acc.append (rT l)).enc
  | l, pre, 0, acc, ht, _, _, _ => by omega
  | [], pre, t + 1, acc, ht, _, _, _ => by
    unfold S_aEncode_6 F_aEncode_6
    simp only [rE, br_t, br_f, br_dec, br_not, br_and, br_or, bnd1_mk, bnd2_mk, bnd3_mk, bnd4_mk, bnd5_mk, at_zero, at_succ, at_mid, unInt_mk, unBool_mk, unStr_mk, unBytes_mk, unSl_mk, unAgg_mk, unCons_mk, unNil_mk, endI, if_false, rT, Tl.append_nil]
  | r :: l, pre, t + 1, acc, ht, hg, hl, hb => by
    simp only [List.length_cons] at ht hl hb
    obtain ⟨h1, h2, h3, h4⟩ := stepR pre (.agg [.int .i64 r.ops, .int .i64 r.o, .int .i64 r.m, .sl 24 r.k.enc]) l hl
    obtain ⟨g, gv⟩ := hg r (by simp)
    have hlen : (eC r.o r.m r.k).length ≤ 2 * r.k.nodes + 2 := by
      have := eL_len (.cons r.o r.m r.k .nil)
      rw [eL_cons] at this
      simp only [eL, List.append_nil, Cl.nodes] at this
      omega
    have gn := g.nodes
    have ih := aEncode_loop K l (pre ++ [.agg [.int .i64 r.ops, .int .i64 r.o, .int .i64 r.m, .sl 24 r.k.enc]]) t (acc.append (.cons 128 (byteI r.ops :: eC r.o r.m r.k) .nil .nil)) (by omega) (fun r hr => hg r (by simp [hr])) (by simp; omega) (by rw [Tl.len_append]; simp only [Tl.len]; omega)
    rw [← mid, ← h3, rT_cons, Tl.enc_append] at ih
    have c1 : ([byteI r.ops].length + (eC r.o r.m r.k).length) * 1 ≤ 140737488355328 := by simp; omega
    have c2 : (acc.enc.length + [V.agg [V.int IntKind.i64 128, V.bytes (byteI r.ops :: eC r.o r.m r.k), V.sl 67 []]].length) * 56 ≤ 140737488355328 := by rw [Tl.enc_len]; simp; omega
    unfold S_aEncode_6 F_aEncode_6
    simp only [rE, br_t, br_f, br_dec, br_not, br_and, br_or, bnd1_mk, bnd2_mk, bnd3_mk, bnd4_mk, bnd5_mk, at_zero, at_succ, at_mid, unInt_mk, unBool_mk, unStr_mk, unBytes_mk, unSl_mk, unAgg_mk, unCons_mk, unNil_mk, h1, h2, if_true, Int.toNat_natCast, aencode_eq N N r.o r.m r.k gv g.fuel g.fuel g.nodes g.wf g.len, bI, nilApp, c1, c2]
    exact ih
/-- What Encode returns. -/
def encRu (l : List Ru) : List UInt8 × Int := if chkR l = 0 then (encL (rT l), 0) else ([], chkR l)
theorem encR_rT {l : List Ru} (h : chkR l = 0) : encR (rT l) = (encL (rT l), 0) := by
  obtain ⟨h8, hv⟩ := chkR_zero h
  obtain ⟨_, h2, _, _⟩ := rT_wt l fun r hr => by have := (hv r hr).2.2.2.1; omega
  unfold encR
  rw [if_pos (rT_ok l), if_pos (by omega)]
theorem aEncode_eq (l : List Ru) (g : GoodR N l) : s_aEncode N (rE l) = some (encRu l) := by
  have g1 := g.len
  have g2 := g.fuel
  unfold s_aEncode encRu
  rw [aCheckRules_eq N l g, bnd1_mk, br_not, br_dec]
  by_cases c : chkR l = 0
  · obtain ⟨h8, hv⟩ := chkR_zero c
    obtain ⟨h1, h2, h3, h4⟩ := rT_wt l fun r hr => by have := (hv r hr).2.2.2.1; omega
    have hl1 := rT_len l
    have hL : ∀ (K : List V → Option (List UInt8 × Int)), S_aEncode_6 N (rE l) ((rE l).length : Int) N [] 0 K = K (Tl.append .nil (rT l)).enc := fun K =>
      aEncode_loop N K l [] N .nil (by omega) (fun r hr => ⟨g.good r hr, (hv r hr).2.2.1⟩) (by simp; omega) (by simp [Tl.len]; omega)
    rw [if_pos c, if_pos c, hL]
    show bnd2 (s_Encode N (rT l).enc) _ = _
    rw [Encode_eq N (rT l) (by omega) h4 (by show (rT l).len ≤ _; omega) (by omega), encR_rT c]; rfl
  · rw [if_neg c, if_neg c]
end
end Go.Proofs.YtahemenhcoedgaaDoor.En

/- Decoding rules: the program and the reference. -/
namespace Go.Proofs.YtahemenhcoedgaaDoor.En
open Go
set_option linter.unusedVariables false
section
variable (N : Nat)
/-! Rules -/
/-! Decode -/
end
end Go.Proofs.YtahemenhcoedgaaDoor.En

/- Which rules are the same: the program and the reference. -/
namespace Go.Proofs.YtahemenhcoedgaaDoor.En
open Go
set_option linter.unusedVariables false
theorem at_midE {α R : Type} {pre : List α} {n : Nat} (h : pre.length = n) (x : α) (suf : List α) (K : α → Option R) : at? (pre ++ x :: suf) n K = K x := by
  subst h; exact at_mid pre x suf K
section
variable (N : Nat)
def eqC (o m : Int) (k : Cl) (o' m' : Int) (k' : Cl) : Bool := decide (o = o' ∧ m = m' ∧ k = k')
theorem qSameCond_loop {R : Type} (f : Int → Int → List V → Int → Int → List V → Option Bool) (n : Nat) (hf : ∀ (o m : Int) (k : Cl) (o' m' : Int) (k' : Cl), k.nodes < n → k.wf → K63 k → k'.wf → K63 k' → f o m k.enc o' m' k'.enc = some (eqC o m k o' m' k')) (x y z w : Int) (K0 : Bool → Option R) (K1 : Option R) :
    ∀ (l l' : Cl) (pre pre' : List V) (t : Nat), pre'.length = pre.length → l.len = l'.len → l.len < t → l.nodes ≤ n → l.wf → l'.wf → pre.length + l.len ≤ 9223372036854775807 →
      S_qSameCond_4 N f x y (pre ++ l.enc) z w (pre' ++ l'.enc) t (pre.length : Int) K0 K1 = if l = l' then K1 else K0 false
  | l, l', pre, pre', 0, _, _, ht, _, _, _, _ => by omega
  | .nil, .nil, pre, pre', t + 1, _, _, ht, _, _, _, _ => by
    unfold S_qSameCond_4 F_qSameCond_4
    simp only [Cl.enc, br_t, br_f, br_dec, br_not, br_and, br_or, bnd1_mk, bnd2_mk, bnd3_mk, bnd4_mk, bnd5_mk, at_zero, at_succ, at_mid, unInt_mk, unBool_mk, unStr_mk, unBytes_mk, unSl_mk, unAgg_mk, unCons_mk, unNil_mk, endI, if_false, if_true]
  | .nil, .cons o m k r, pre, pre', t + 1, _, he, _, _, _, _, _ => by simp [Cl.len] at he
  | .cons o m k r, .nil, pre, pre', t + 1, _, he, _, _, _, _, _ => by simp [Cl.len] at he
  | .cons o m k r, .cons o' m' k' r', pre, pre', t + 1, hp, he, ht, hn, hw, hw', hl => by
    simp only [Cl.len, Cl.nodes] at ht hn hl he
    obtain ⟨_, _, hk1, hk2, hr⟩ := hw
    obtain ⟨_, _, hk1', hk2', hr'⟩ := hw'
    obtain ⟨h1, h2, h3, h4⟩ := stepC pre (ce o m k) r hl
    obtain ⟨h1', h2', h3', h4'⟩ := stepC pre' (ce o' m' k') r' (by omega)
    have ih := qSameCond_loop f n hf x y z w K0 K1 r r' (pre ++ [ce o m k]) (pre' ++ [ce o' m' k']) t (by simp [hp]) (by omega) (by omega) (by omega) hr hr' (by simp; omega)
    rw [← mid, ← mid, ← h3] at ih
    rw [hp] at h1'
    unfold S_qSameCond_4 F_qSameCond_4
    simp only [enc_cons, br_t, br_f, br_dec, br_not, br_and, br_or, bnd1_mk, bnd2_mk, bnd3_mk, bnd4_mk, bnd5_mk, at_zero, at_succ, at_mid, unInt_mk, unBool_mk, unStr_mk, unBytes_mk, unSl_mk, unAgg_mk, unCons_mk, unNil_mk, at_midE hp, h1, h1', h2, if_true, Int.toNat_natCast, hf o m k o' m' k' (by omega) hk2 hk1 hk2' hk1']
    rw [ih]
    unfold eqC
    by_cases c : o = o' ∧ m = m' ∧ k = k'
    · obtain ⟨rfl, rfl, rfl⟩ := c
      simp only [and_self, decide_true, br_t, Cl.cons.injEq, true_and]
    · rw [decide_eq_false c, br_f, if_neg]
      intro e
      injection e with e1 e2 e3 e4
      exact c ⟨e1, e2, e3⟩
theorem qSameCond_eq : ∀ (M : Nat) (o m : Int) (k : Cl) (o' m' : Int) (k' : Cl), k.nodes < M → k.nodes < N → k.wf → K63 k → k'.wf → K63 k' → s_qSameCond N M o m k.enc o' m' k'.enc = some (eqC o m k o' m' k')
  | 0, o, m, k, o', m', k', h, _, _, _, _, _ => by omega
  | M + 1, o, m, k, o', m', k', h, hN, hw, hl, hw', hl' => by
    have hln := Cl.len_le k
    have hf := fun (o m : Int) (k1 : Cl) (o' m' : Int) (k1' : Cl) (a1 : k1.nodes < k.nodes) (a2 : k1.wf) (a3 : K63 k1) (a4 : k1'.wf) (a5 : K63 k1') => qSameCond_eq M o m k1 o' m' k1' (by omega) (by omega) a2 a3 a4 a5
    unfold s_qSameCond B_qSameCond
    simp only [Cl.enc_len, br_not, br_dec]
    unfold eqC
    by_cases c1 : o = o'
    case neg => rw [if_neg c1, decide_eq_false (fun c => c1 c.1)]
    by_cases c2 : m = m'
    case neg => rw [if_pos c1, if_neg c2, decide_eq_false (fun c => c2 c.2.1)]
    rw [if_pos c1, if_pos c2]
    by_cases c3 : k.len = k'.len
    case neg => rw [if_neg (by omega), decide_eq_false (fun c => c3 (by rw [c.2.2]))]
    have hL : S_qSameCond_4 N (s_qSameCond N M) o m k.enc o' m' k'.enc N 0 (fun b => some b) (some true) = if k = k' then some true else some false :=
      qSameCond_loop N (s_qSameCond N M) k.nodes hf o m o' m' (fun b => some b) (some true) k k' [] [] N rfl c3 (by omega) (Nat.le_refl _) hw hw' (by simpa using hl)
    rw [hL, if_pos (by omega)]
    by_cases c4 : k = k'
    · rw [if_pos c4, decide_eq_true ⟨c1, c2, c4⟩]
    · rw [if_neg c4, decide_eq_false (fun c => c4 c.2.2)]
/-! Rules -/
end
end Go.Proofs.YtahemenhcoedgaaDoor.En

/- The texts of conditions differ. Plain. -/
namespace Go.Proofs.YtahemenhcoedgaaDoor.En
open Go
set_option linter.unusedVariables false
/-- The digits of a number from 0 to 99. -/
def numB (n : Int) : List UInt8 := if 10 ≤ n then [UInt8.ofNat (48 + (n / 10).toNat), UInt8.ofNat (48 + (n % 10).toNat)] else [UInt8.ofNat (48 + n.toNat)]
def headB (o : Int) : List UInt8 :=
  if o = 0 then [110, 101, 118, 101, 114] else if o = 1 then [97, 108, 119, 97, 121, 115] else if o = 2 then [112, 105, 110] else if o = 3 then [107, 101, 121]
  else if o = 4 then [115, 116, 97, 116, 101] else if o = 5 then [108, 101, 118, 101, 108] else if o = 6 then [97, 110, 100] else if o = 7 then [111, 114] else []
/-- The texts of a list, with commas. -/
def tL : Cl → Bool → List UInt8
  | .nil, _ => []
  | .cons o m k r, first => (bif first then [] else [44, 32]) ++ ((headB o ++ (if 6 ≤ o then 40 :: (tL k true ++ [41]) else if 2 ≤ o then 32 :: numB m else [])) ++ tL r false)
def tC (o m : Int) (k : Cl) : List UInt8 := headB o ++ (if 6 ≤ o then 40 :: (tL k true ++ [41]) else if 2 ≤ o then 32 :: numB m else [])
theorem tL_cons (o m : Int) (k r : Cl) (first : Bool) : tL (.cons o m k r) first = (bif first then [] else [44, 32]) ++ (tC o m k ++ tL r false) := by
  conv => lhs; unfold tL
  rfl
/-- Not a digit in front. -/
def NoDig (x : List UInt8) : Prop := ∀ c r, x = c :: r → c.toNat < 48 ∨ 57 < c.toNat
/-- The end of a list. -/
def Fin0 (x : List UInt8) : Prop := x = [] ∨ ∃ r, x = 41 :: r
theorem dig_toNat {n : Nat} (h : n < 10) : (UInt8.ofNat (48 + n)).toNat = 48 + n := by
  rw [UInt8.toNat_ofNat', Nat.mod_eq_of_lt (by omega)]
theorem numB_inj {n m : Int} (hn : 0 ≤ n ∧ n < 100) (hm : 0 ≤ m ∧ m < 100) {x y : List UInt8} (hx : NoDig x) (hy : NoDig y) (h : numB n ++ x = numB m ++ y) : n = m ∧ x = y := by
  unfold numB at h
  by_cases c1 : 10 ≤ n
  · rw [if_pos c1] at h
    by_cases c2 : 10 ≤ m
    · rw [if_pos c2] at h
      simp only [List.cons_append, List.nil_append, List.cons.injEq] at h
      obtain ⟨h1, h2, h3⟩ := h
      have h1 := congrArg UInt8.toNat h1
      have h2 := congrArg UInt8.toNat h2
      rw [dig_toNat (by omega), dig_toNat (by omega)] at h1 h2
      exact ⟨by omega, h3⟩
    · rw [if_neg c2] at h
      simp only [List.cons_append, List.nil_append, List.cons.injEq] at h
      obtain ⟨h1, h2⟩ := h
      have := hy _ _ h2.symm
      rw [dig_toNat (by omega)] at this
      omega
  · rw [if_neg c1] at h
    by_cases c2 : 10 ≤ m
    · rw [if_pos c2] at h
      simp only [List.cons_append, List.nil_append, List.cons.injEq] at h
      obtain ⟨h1, h2⟩ := h
      have := hx _ _ h2
      rw [dig_toNat (by omega)] at this
      omega
    · rw [if_neg c2] at h
      simp only [List.cons_append, List.nil_append, List.cons.injEq] at h
      obtain ⟨h1, h2⟩ := h
      have h1 := congrArg UInt8.toNat h1
      rw [dig_toNat (by omega), dig_toNat (by omega)] at h1
      exact ⟨by omega, h2⟩
theorem nodig_fin {x : List UInt8} (h : Fin0 x) : NoDig x := by
  intro c r e
  rcases h with rfl | ⟨r', rfl⟩
  · cases e
  · injection e with e1 e2
    subst e1; left; decide
theorem nodig_rest (l : Cl) {x : List UInt8} (h : Fin0 x) : NoDig (tL l false ++ x) := by
  cases l with
  | nil => exact nodig_fin h
  | cons o m k r =>
    rw [tL_cons]
    intro c r' e
    simp only [cond_false, List.cons_append, List.nil_append, List.cons.injEq] at e
    obtain ⟨e1, _⟩ := e
    subst e1; left; decide
/-- The first letter. -/
theorem tC_first {o m : Int} {k : Cl} (h : vC o m k = true) : ∃ c r, tC o m k = c :: r ∧ 97 ≤ c.toNat := by
  unfold tC headB
  rcases vC_leaf h with ⟨rfl, _⟩ | ⟨rfl, _⟩ | ⟨rfl, _⟩ | ⟨rfl, _⟩ | ⟨rfl, _⟩ | ⟨rfl, _⟩ | ⟨rfl | rfl, _⟩ <;> exact ⟨_, _, rfl, by decide⟩
/-- The number of a valid condition. -/
theorem vC_num {o m : Int} {k : Cl} (h : vC o m k = true) : 0 ≤ m ∧ m < 100 := by
  rcases vC_leaf h with h | h | h | h | h | h | h
  · omega
  · omega
  · omega
  · omega
  · omega
  · have := level_range h.2.1 h.2.2.1; omega
  · omega
theorem tC_inj {o m : Int} {k : Cl} {o' m' : Int} {k' : Cl} (hv : vC o m k = true) (hv' : vC o' m' k' = true)
    (hk : ∀ x y, vL k = true → vL k' = true → Fin0 x → Fin0 y → tL k true ++ x = tL k' true ++ y → k = k' ∧ x = y) {x y : List UInt8} (hx : NoDig x) (hy : NoDig y)
    (h : tC o m k ++ x = tC o' m' k' ++ y) : o = o' ∧ m = m' ∧ k = k' ∧ x = y := by
  have hm := vC_num hv
  have hm' := vC_num hv'
  unfold tC headB at h
  have num : numB m ++ x = numB m' ++ y → m = m' ∧ x = y := numB_inj hm hm' hx hy
  rcases vC_leaf hv with ⟨rfl, rfl, rfl⟩ | ⟨rfl, rfl, rfl⟩ | ⟨rfl, _, _, rfl⟩ | ⟨rfl, _, _, rfl⟩ | ⟨rfl, _, _, rfl⟩ | ⟨rfl, _, _, rfl⟩ | ⟨rfl | rfl, rfl, _, h3⟩ <;>
  rcases vC_leaf hv' with ⟨rfl, rfl, rfl⟩ | ⟨rfl, rfl, rfl⟩ | ⟨rfl, _, _, rfl⟩ | ⟨rfl, _, _, rfl⟩ | ⟨rfl, _, _, rfl⟩ | ⟨rfl, _, _, rfl⟩ | ⟨rfl | rfl, rfl, _, h3'⟩ <;>
  first
  | (exfalso; simp at h; done)
  | (simp at h; exact ⟨rfl, rfl, rfl, h⟩)
  | (simp at h; obtain ⟨h1, h2⟩ := num h; exact ⟨rfl, h1, rfl, h2⟩)
  | (simp at h
     have h' : tL k true ++ (41 :: x) = tL k' true ++ (41 :: y) := by simpa using h
     obtain ⟨h1, h2⟩ := hk _ _ h3 h3' (.inr ⟨_, rfl⟩) (.inr ⟨_, rfl⟩) h'
     injection h2 with _ h2
     exact ⟨rfl, rfl, h1, h2⟩)
theorem tL_inj : ∀ (a b : Cl) (first : Bool) (x y : List UInt8), vL a = true → vL b = true → Fin0 x → Fin0 y → tL a first ++ x = tL b first ++ y → a = b ∧ x = y
  | .nil, .nil, first, x, y, _, _, _, _, h => ⟨rfl, h⟩
  | .nil, .cons o m k r, first, x, y, _, hv, hx, _, h => by
    exfalso
    rw [vL_cons, Bool.and_eq_true] at hv
    obtain ⟨c, r', e, hc⟩ := tC_first hv.1
    rw [tL_cons, e] at h
    simp only [tL, List.nil_append] at h
    rcases hx with rfl | ⟨z, rfl⟩
    · cases first <;> simp at h
    · cases first with
      | true =>
        simp only [cond_true, List.nil_append, List.cons_append, List.cons.injEq] at h
        have := congrArg UInt8.toNat h.1
        have e41 : (41 : UInt8).toNat = 41 := rfl
        omega
      | false => simp at h
  | .cons o m k r, .nil, first, x, y, hv, _, _, hy, h => by
    exfalso
    rw [vL_cons, Bool.and_eq_true] at hv
    obtain ⟨c, r', e, hc⟩ := tC_first hv.1
    rw [tL_cons, e] at h
    simp only [tL, List.nil_append] at h
    rcases hy with rfl | ⟨z, rfl⟩
    · cases first <;> simp at h
    · cases first with
      | true =>
        simp only [cond_true, List.nil_append, List.cons_append, List.cons.injEq] at h
        have := congrArg UInt8.toNat h.1
        have e41 : (41 : UInt8).toNat = 41 := rfl
        omega
      | false => simp at h
  | .cons o m k r, .cons o' m' k' r', first, x, y, hv, hv', hx, hy, h => by
    rw [vL_cons, Bool.and_eq_true] at hv hv'
    rw [tL_cons, tL_cons] at h
    have h' : tC o m k ++ (tL r false ++ x) = tC o' m' k' ++ (tL r' false ++ y) := by
      cases first <;> simpa using h
    obtain ⟨h1, h2, h3, h4⟩ := tC_inj hv.1 hv'.1 (fun x y => tL_inj k k' true x y) (nodig_rest r hx) (nodig_rest r' hy) h'
    obtain ⟨h5, h6⟩ := tL_inj r r' false x y hv.2 hv'.2 hx hy h4
    exact ⟨by rw [h1, h2, h3, h5], h6⟩
theorem text_inj {o m : Int} {k : Cl} {o' m' : Int} {k' : Cl} (hv : vC o m k = true) (hv' : vC o' m' k' = true) (h : tC o m k = tC o' m' k') : o = o' ∧ m = m' ∧ k = k' := by
  obtain ⟨a, b, c, _⟩ := tC_inj hv hv' (fun x y => tL_inj k k' true x y) (x := []) (y := []) (nodig_fin (.inl rfl)) (nodig_fin (.inl rfl)) (by rw [h])
  exact ⟨a, b, c⟩
end Go.Proofs.YtahemenhcoedgaaDoor.En

/- The texts of conditions: the program and the reference. -/
namespace Go.Proofs.YtahemenhcoedgaaDoor.En
open Go
set_option linter.unusedVariables false
def tS : Cl → List (List UInt8)
  | .nil => []
  | .cons o m k r => tC o m k :: tS r
theorem tS_tail : ∀ l : Cl, Lib.joinTail [44, 32] (tS l) = tL l false
  | .nil => rfl
  | .cons o m k r => by
    rw [tL_cons, ← tS_tail r]
    simp [tS, Lib.joinTail]
theorem tS_join : ∀ l : Cl, Lib.join (tS l) [44, 32] = tL l true
  | .nil => rfl
  | .cons o m k r => by
    show Lib.join (tC o m k :: tS r) [44, 32] = _
    rw [Lib.join_cons, tS_tail, tL_cons]; rfl
theorem tS_len : ∀ l : Cl, (tS l).length = l.len
  | .nil => rfl
  | .cons o m k r => by simp [tS, Cl.len, tS_len r]
theorem headB_len (o : Int) : (headB o).length ≤ 6 := by
  unfold headB
  (repeat' split) <;> simp
theorem numB_len (n : Int) : (numB n).length ≤ 2 := by unfold numB; split <;> simp
theorem tL_len : ∀ (l : Cl) (first : Bool), (tL l first).length ≤ 20 * l.nodes
  | .nil, _ => Nat.zero_le _
  | .cons o m k r, first => by
    have h1 := tL_len k true
    have h2 := tL_len r false
    have h3 := headB_len o
    have h4 := numB_len m
    rw [tL_cons]
    unfold tC
    simp only [List.length_append, Cl.nodes]
    have h5 : (bif first then ([] : List UInt8) else [44, 32]).length ≤ 2 := by cases first <;> simp
    split
    · simp only [List.length_cons, List.length_append, List.length_nil]; omega
    split
    · simp only [List.length_cons]; omega
    · simp only [List.length_nil]; omega
theorem tC_len (o m : Int) (k : Cl) : (tC o m k).length ≤ 20 * (k.nodes + 1) := by
  have := tL_len (.cons o m k .nil) true
  rw [tL_cons] at this
  simpa [tL, Cl.nodes] using this
theorem flatS_str : ∀ ls : List (List UInt8), flatS (ls.map V.str) = some ls
  | [] => rfl
  | l :: ls => by simp [flatS, flatS_str ls]
section
variable (N : Nat)
theorem Itoa0 : ∀ n : Fin 100, s_Itoa 0 (n.val : Int) = some (numB (n.val : Int)) := by decide +kernel
theorem Itoa_eq {n : Int} (h : 0 ≤ n ∧ n < 100) : s_Itoa N n = some (numB n) := by
  obtain ⟨k, rfl⟩ := Int.eq_ofNat_of_zero_le h.1
  exact Itoa0 ⟨k, by omega⟩
theorem number0 : ∀ n : Fin 100, s_qnumber 0 (n.val : Int) = some (numB (n.val : Int)) := by decide +kernel
theorem qnumber_eq {n : Int} (h : 0 ≤ n ∧ n < 100) : s_qnumber N n = some (numB n) := by
  obtain ⟨k, rfl⟩ := Int.eq_ofNat_of_zero_le h.1
  exact number0 ⟨k, by omega⟩
theorem Join_eq (l : Cl) (h : l.nodes ≤ 1000) : s_Join N ((tS l).map V.str) [44, 32] = some (tL l true) := by
  have h1 := tL_len l true
  have h2 := tS_len l
  have h3 := Cl.len_le l
  unfold s_Join
  rw [flatS_str]
  show br (decide ((Lib.join (tS l) [44, 32]).length ≤ 1000000) && decide ((tS l).length ≤ 1000000)) _ _ = _
  rw [tS_join, decide_eq_true (by omega), decide_eq_true (by omega)]; rfl
theorem atext_loop {R : Type} (f : Int → Int → List V → Option (List UInt8)) (n : Nat) (hf : ∀ (o m : Int) (k : Cl), vC o m k = true → k.nodes < n → k.wf → K63 k → f o m k.enc = some (tC o m k)) (K : List V → Option R) (a4 a5 : Int) (a6 : List V) (a7 : List UInt8) (b8 b9 : Bool) (a10 a11 : Int) :
    ∀ (l : Cl) (pre : List V) (t : Nat) (acc : List V), vL l = true → l.len < t → l.nodes ≤ n → l.wf → pre.length + l.len ≤ 9223372036854775807 → acc.length + l.len ≤ 1000000 →
      S_atext_8 N f (pre ++ l.enc) ((pre ++ l.enc).length : Int) a4 a5 a6 a7 b8 b9 a10 a11 t acc (pre.length : Int) K = K (acc ++ (tS l).map V.str)
  | l, pre, 0, acc, _, ht, _, _, _, _ => by omega
  | .nil, pre, t + 1, acc, _, ht, _, _, _, _ => by
    unfold S_atext_8 F_atext_8
    simp only [Cl.enc, br_t, br_f, br_dec, br_not, br_and, br_or, bnd1_mk, bnd2_mk, bnd3_mk, bnd4_mk, bnd5_mk, at_zero, at_succ, at_mid, unInt_mk, unBool_mk, unStr_mk, unBytes_mk, unSl_mk, unAgg_mk, unCons_mk, unNil_mk, endI, if_false, tS, List.map_nil]
    rw [List.append_nil]
  | .cons o m k r, pre, t + 1, acc, hv, ht, hn, hw, hl, hb => by
    simp only [Cl.len, Cl.nodes] at ht hn hl hb
    rw [vL_cons, Bool.and_eq_true] at hv
    obtain ⟨_, _, hk1, hk2, hr⟩ := hw
    obtain ⟨h1, h2, h3, h4⟩ := stepC pre (ce o m k) r hl
    have ih := atext_loop f n hf K a4 a5 a6 a7 b8 b9 a10 a11 r (pre ++ [ce o m k]) t (acc ++ [V.str (tC o m k)]) hv.2 (by omega) (by omega) hr (by simp; omega) (by simp; omega)
    rw [← mid, ← h3] at ih
    have hc : (acc.length + [V.str (tC o m k)].length) * 16 ≤ 140737488355328 := by simp; omega
    unfold S_atext_8 F_atext_8
    simp only [enc_cons, br_t, br_f, br_dec, br_not, br_and, br_or, bnd1_mk, bnd2_mk, bnd3_mk, bnd4_mk, bnd5_mk, at_zero, at_succ, at_mid, unInt_mk, unBool_mk, unStr_mk, unBytes_mk, unSl_mk, unAgg_mk, unCons_mk, unNil_mk, h1, h2, if_true, Int.toNat_natCast, hf o m k hv.1 (by omega) hk2 hk1, hc]
    rw [ih]
    simp [tS]
theorem atext_eq : ∀ (M : Nat) (o m : Int) (k : Cl), vC o m k = true → k.nodes < M → k.nodes < N → k.nodes ≤ 1000 → k.wf → K63 k → s_atext N M o m k.enc = some (tC o m k)
  | 0, o, m, k, _, h, _, _, _, _ => by omega
  | M + 1, o, m, k, hv, h, hN, hs, hw, hl => by
    have hln := Cl.len_le k
    have hf := fun (o m : Int) (k' : Cl) (a0 : vC o m k' = true) (a1 : k'.nodes < k.nodes) (a2 : k'.wf) (a3 : K63 k') => atext_eq M o m k' a0 (by omega) (by omega) (by omega) a2 a3
    have hL : ∀ (K : List V → Option (List UInt8)) (x : Int) (a7 : List UInt8) (b8 b9 : Bool) (a10 a11 : Int), vL k = true → S_atext_8 N (s_atext N M) k.enc (k.enc.length : Int) x m k.enc a7 b8 b9 a10 a11 N [] 0 K = K ((tS k).map V.str) := fun K x a7 b8 b9 a10 a11 hvk =>
      atext_loop N (s_atext N M) k.nodes hf K x m k.enc a7 b8 b9 a10 a11 k [] N [] hvk (by omega) (Nat.le_refl _) hw (by simpa using hl) (by simp; omega)
    have hnum := vC_num hv
    have hnl := numB_len m
    have htl := tL_len k true
    unfold s_atext B_atext tC headB
    simp only [s_forms, bnd1_mk, br_dec, Itoa_eq N hnum]
    rcases vC_leaf hv with ⟨rfl, _, rfl⟩ | ⟨rfl, _, rfl⟩ | ⟨rfl, b1, b2, rfl⟩ | ⟨rfl, b1, b2, rfl⟩ | ⟨rfl, _, _, rfl⟩ | ⟨rfl, b1, b2, rfl⟩ | ⟨rfl | rfl, h1, h2, h3⟩
    · simp
    · simp
    · rw [if_neg (by omega), if_neg (by omega), if_pos rfl, if_pos (by omega)]; rfl
    · rw [if_neg (by omega), if_neg (by omega), if_neg (by omega), if_pos rfl, if_pos (by omega)]; rfl
    · rw [if_neg (by omega), if_neg (by omega), if_neg (by omega), if_neg (by omega), if_pos rfl, if_pos (by omega)]; rfl
    · rw [if_neg (by omega), if_neg (by omega), if_neg (by omega), if_neg (by omega), if_neg (by omega), if_pos rfl, if_pos (by omega)]; rfl
    · rw [if_neg (by omega), if_neg (by omega), if_neg (by omega), if_neg (by omega), if_neg (by omega), if_neg (by omega), if_pos rfl, hL _ _ _ _ _ _ _ h3, Join_eq N k (by omega), bnd1_mk, if_pos (by omega), if_pos (by
        show (97 :: 110 :: 100 :: 40 :: ([] ++ tL k true)).length + 1 ≤ _
        simp only [List.length_cons, List.nil_append]; omega)]; rfl
    · rw [if_neg (by omega), if_neg (by omega), if_neg (by omega), if_neg (by omega), if_neg (by omega), if_neg (by omega), if_neg (by omega), if_pos rfl, hL _ _ _ _ _ _ _ h3, Join_eq N k (by omega), bnd1_mk, if_pos (by omega), if_pos (by
        show (111 :: 114 :: 40 :: ([] ++ tL k true)).length + 1 ≤ _
        simp only [List.length_cons, List.nil_append]; omega)]; rfl
theorem qtext_loop {R : Type} (f : Int → Int → List V → Option (List UInt8)) (n : Nat) (hf : ∀ (o m : Int) (k : Cl), vC o m k = true → k.nodes < n → k.wf → K63 k → f o m k.enc = some (tC o m k)) (K : List UInt8 → Option R) (x y : Int) :
    ∀ (l : Cl) (pre : List V) (t : Nat) (acc : List UInt8), vL l = true → l.len < t → l.nodes ≤ n → l.wf → pre.length + l.len ≤ 9223372036854775807 → acc.length + 22 * l.nodes ≤ 1000000 →
      S_qtext_18 N f x y (pre ++ l.enc) t acc (pre.length : Int) K = K (acc ++ tL l (decide (pre.length = 0)))
  | l, pre, 0, acc, _, ht, _, _, _, _ => by omega
  | .nil, pre, t + 1, acc, _, ht, _, _, _, _ => by
    unfold S_qtext_18 F_qtext_18
    simp only [Cl.enc, br_t, br_f, br_dec, br_not, br_and, br_or, bnd1_mk, bnd2_mk, bnd3_mk, bnd4_mk, bnd5_mk, at_zero, at_succ, at_mid, unInt_mk, unBool_mk, unStr_mk, unBytes_mk, unSl_mk, unAgg_mk, unCons_mk, unNil_mk, endI, if_false, tL]
    rw [List.append_nil]
  | .cons o m k r, pre, t + 1, acc, hv, ht, hn, hw, hl, hb => by
    simp only [Cl.len, Cl.nodes] at ht hn hl hb
    rw [vL_cons, Bool.and_eq_true] at hv
    obtain ⟨_, _, hk1, hk2, hr⟩ := hw
    obtain ⟨h1, h2, h3, h4⟩ := stepC pre (ce o m k) r hl
    have hlen := tC_len o m k
    have ih := fun acc ha => qtext_loop f n hf K x y r (pre ++ [ce o m k]) t acc hv.2 (by omega) (by omega) hr (by simp; omega) ha
    rw [← mid, ← h3] at ih
    have e0 : decide ((pre ++ [ce o m k]).length = 0) = false := decide_eq_false (by simp)
    rw [e0] at ih
    unfold S_qtext_18 F_qtext_18
    simp only [enc_cons, br_t, br_f, br_dec, br_not, br_and, br_or, bnd1_mk, bnd2_mk, bnd3_mk, bnd4_mk, bnd5_mk, at_zero, at_succ, at_mid, unInt_mk, unBool_mk, unStr_mk, unBytes_mk, unSl_mk, unAgg_mk, unCons_mk, unNil_mk, h1, h2, if_true, Int.toNat_natCast, hf o m k hv.1 (by omega) hk2 hk1]
    by_cases c : pre.length = 0
    · rw [if_neg (by omega), if_pos (by omega), ih _ (by rw [List.length_append]; omega), tL_cons, decide_eq_true c]
      simp
    · rw [if_pos (by omega), if_pos (by omega), if_pos (by simp only [List.length_append, List.length_cons, List.length_nil]; omega), ih _ (by simp only [List.length_append, List.length_cons, List.length_nil]; omega), tL_cons, decide_eq_false c]
      simp
theorem qtext_eq : ∀ (M : Nat) (o m : Int) (k : Cl), vC o m k = true → k.nodes < M → k.nodes < N → k.nodes ≤ 1000 → k.wf → K63 k → s_qtext N M o m k.enc = some (tC o m k)
  | 0, o, m, k, _, h, _, _, _, _ => by omega
  | M + 1, o, m, k, hv, h, hN, hs, hw, hl => by
    have hln := Cl.len_le k
    have hf := fun (o m : Int) (k' : Cl) (a0 : vC o m k' = true) (a1 : k'.nodes < k.nodes) (a2 : k'.wf) (a3 : K63 k') => qtext_eq M o m k' a0 (by omega) (by omega) (by omega) a2 a3
    have hL : ∀ (K : List UInt8 → Option (List UInt8)) (x : Int) (acc : List UInt8), vL k = true → acc.length ≤ 10 → S_qtext_18 N (s_qtext N M) x m k.enc N acc 0 K = K (acc ++ tL k true) := fun K x acc hvk ha =>
      qtext_loop N (s_qtext N M) k.nodes hf K x m k [] N acc hvk (by omega) (Nat.le_refl _) hw (by simpa using hl) (by omega)
    have hnum := vC_num hv
    have hnl := numB_len m
    have htl := tL_len k true
    unfold s_qtext B_qtext tC headB
    simp only [bnd1_mk, br_dec, qnumber_eq N hnum]
    rcases vC_leaf hv with ⟨rfl, _, rfl⟩ | ⟨rfl, _, rfl⟩ | ⟨rfl, b1, b2, rfl⟩ | ⟨rfl, b1, b2, rfl⟩ | ⟨rfl, _, _, rfl⟩ | ⟨rfl, b1, b2, rfl⟩ | ⟨rfl | rfl, h1, h2, h3⟩
    · simp
    · simp
    · rw [if_neg (by omega), if_neg (by omega), if_pos rfl, if_pos (by omega)]; rfl
    · rw [if_neg (by omega), if_neg (by omega), if_neg (by omega), if_pos rfl, if_pos (by omega)]; rfl
    · rw [if_neg (by omega), if_neg (by omega), if_neg (by omega), if_neg (by omega), if_pos rfl, if_pos (by omega)]; rfl
    · rw [if_neg (by omega), if_neg (by omega), if_neg (by omega), if_neg (by omega), if_neg (by omega), if_pos rfl, if_pos (by omega)]; rfl
    · rw [if_neg (by omega), if_neg (by omega), if_neg (by omega), if_neg (by omega), if_neg (by omega), if_neg (by omega), if_neg (by omega), hL _ _ _ h3 (by simp), if_pos (by simp only [List.length_append, List.length_cons, List.length_nil]; omega)]
      simp
    · rw [if_neg (by omega), if_neg (by omega), if_neg (by omega), if_neg (by omega), if_neg (by omega), if_neg (by omega), if_pos rfl, hL _ _ _ h3 (by simp), if_pos (by simp only [List.length_append, List.length_cons, List.length_nil]; omega)]
      simp
def textC (o m : Int) (k : Cl) : List UInt8 := if chk o m k = 0 then tC o m k else []
theorem aText_eq (o m : Int) (k : Cl) (g : GoodC N k) : s_aText N o m k.enc = some (textC o m k) := by
  unfold s_aText textC
  rw [aCheck_eq N o m k g, bnd1_mk, br_not, br_dec]
  by_cases hc : chk o m k = 0
  · rw [if_pos hc, if_pos hc, atext_eq N N o m k (chk_zero hc).1 g.fuel g.fuel g.nodes g.wf g.len]; rfl
  · rw [if_neg hc, if_neg hc]
theorem qText_eq (o m : Int) (k : Cl) (g : GoodC N k) : s_qText N o m k.enc = some (textC o m k) := by
  unfold s_qText textC
  rw [qCheck_eq N o m k g, bnd1_mk, br_not, br_dec]
  by_cases hc : chk o m k = 0
  · rw [if_pos hc, if_pos hc, qtext_eq N N o m k (chk_zero hc).1 g.fuel g.fuel g.nodes g.wf g.len]; rfl
  · rw [if_neg hc, if_neg hc]
end
end Go.Proofs.YtahemenhcoedgaaDoor.En

/- The statements of chapter 14 in plain Lean, but those that count atoms. -/
namespace Go.Proofs.YtahemenhcoedgaaDoor.En
open Go
set_option linter.unusedVariables false
def exK : Cl := .cons 2 1 .nil (.cons 7 0 (.cons 3 2 .nil (.cons 4 3 .nil .nil)) .nil)
section
variable (N : Nat)
theorem works_eq (hN : 200000 < N) : s_works N = some true := by
  have wk : exK.wf := by simp [exK, Cl.wf, Cl.len]
  have hn : exK.nodes = 4 := rfl
  have gk : GoodC N exK := ⟨wk, by show (2 : Nat) ≤ _; omega, by omega, by omega⟩
  have g0 : GoodC N .nil := ⟨trivial, Nat.zero_le _, Nat.zero_le _, by show 0 < N; omega⟩
  have e1 : s_aEncode N (rE [⟨3, 6, 0, exK⟩]) = some ([128, 11, 3, 6, 2, 2, 1, 7, 2, 3, 2, 4, 3], 0) := by
    rw [aEncode_eq N [⟨3, 6, 0, exK⟩] ⟨by simp, by omega, by intro r hr; simp at hr; subst hr; exact gk⟩]
    exact congrArg some (by decide +kernel)
  have e2 : s_aHolds N 6 0 exK.enc 2 4 0 0 = some true := by
    have := aHolds_eq N ⟨2, 4, 0, 0⟩ 6 0 exK gk
    rw [show holdsP ⟨2, 4, 0, 0⟩ 6 0 exK = true by decide +kernel] at this; exact this
  have e3 : s_aHolds N 6 0 exK.enc 2 0 4 0 = some true := by
    have := aHolds_eq N ⟨2, 0, 4, 0⟩ 6 0 exK gk
    rw [show holdsP ⟨2, 0, 4, 0⟩ 6 0 exK = true by decide +kernel] at this; exact this
  have e4 : s_aHolds N 6 0 exK.enc 1 0 0 0 = some false := by
    have := aHolds_eq N ⟨1, 0, 0, 0⟩ 6 0 exK gk
    rw [show holdsP ⟨1, 0, 0, 0⟩ 6 0 exK = false by decide +kernel] at this; exact this
  have e5 : s_aText N 6 0 exK.enc = some [97, 110, 100, 40, 112, 105, 110, 32, 49, 44, 32, 111, 114, 40, 107, 101, 121, 32, 50, 44, 32, 115, 116, 97, 116, 101, 32, 51, 41, 41] := by
    rw [aText_eq N 6 0 exK gk]
    exact congrArg some (by decide +kernel)
  have e6 : s_Implies N 4 3 [] 4 2 [] = some true := by
    have := Implies_eq N hN 4 3 .nil 4 2 .nil g0 g0
    rw [show impP 4 3 .nil 4 2 .nil = true by decide +kernel] at this; exact this
  have e7 : s_Implies N 2 1 [] 3 2 [] = some false := by
    have := Implies_eq N hN 2 1 .nil 3 2 .nil g0 g0
    rw [show impP 2 1 .nil 3 2 .nil = false by decide +kernel] at this; exact this
  unfold s_works
  show bnd2 (s_aEncode N (rE [⟨3, 6, 0, exK⟩])) _ = _
  rw [e1, bnd2_mk]
  show bnd1 (s_aHolds N 6 0 exK.enc 2 4 0 0) _ = _
  rw [e2, bnd1_mk, br_t]
  show bnd1 (s_aHolds N 6 0 exK.enc 2 0 4 0) _ = _
  rw [e3, bnd1_mk, br_t]
  show bnd1 (s_aHolds N 6 0 exK.enc 1 0 0 0) _ = _
  rw [e4, bnd1_mk, br_not, br_f, br_dec, if_pos rfl, br_dec, if_pos (by simp), br_dec, if_pos rfl]
  show bnd1 (s_aText N 6 0 exK.enc) _ = _
  rw [e5, bnd1_mk, br_dec, if_pos rfl, e6, bnd1_mk, br_t, e7, bnd1_mk]; rfl
/-- A condition that came in. -/
structure ArgC (o m : Int) (k : Cl) : Prop where
  o : I64 o
  m : I64 m
  wf : k.wf
  len : K63 k
theorem ArgC.inC {o m : Int} {k : Cl} (g : ArgC o m k) {N : Nat} (h : k.nodes < N) : InC N k := ⟨g.wf, g.len, h⟩
theorem ArgC.good {o m : Int} {k : Cl} (g : ArgC o m k) {N : Nat} (hN : 200000 < N) (h : k.nodes ≤ 199) : GoodC N k := ⟨g.wf, g.len, by omega, by omega⟩
theorem few1 {o m : Int} {k : Cl} (g : ArgC o m k) (h : k.nodes + 1 < N) : s_lfew N [V.agg [V.int IntKind.i64 o, V.int IntKind.i64 m, V.sl 24 k.enc]] = some (decide (k.nodes ≤ 199)) := by
  have := lfew_eq N (.cons o m k .nil) (by simp only [Cl.nodes]; omega) ⟨g.o, g.m, g.len, g.wf, trivial⟩ (by simp [Cl.len])
  rw [show fewL (.cons o m k .nil) = decide (k.nodes ≤ 199) by simp [fewL]] at this
  exact this
theorem few2 {o m : Int} {k : Cl} {o' m' : Int} {k' : Cl} (g : ArgC o m k) (g' : ArgC o' m' k') (h : k.nodes + k'.nodes + 2 < N) :
    s_lfew N [V.agg [V.int IntKind.i64 o, V.int IntKind.i64 m, V.sl 24 k.enc], V.agg [V.int IntKind.i64 o', V.int IntKind.i64 m', V.sl 24 k'.enc]] = some (decide (k.nodes ≤ 199) && decide (k'.nodes ≤ 199)) := by
  have := lfew_eq N (.cons o m k (.cons o' m' k' .nil)) (by simp only [Cl.nodes]; omega) ⟨g.o, g.m, g.len, g.wf, g'.o, g'.m, g'.len, g'.wf, trivial⟩ (by simp [Cl.len])
  rw [show fewL (.cons o m k (.cons o' m' k' .nil)) = (decide (k.nodes ≤ 199) && decide (k'.nodes ≤ 199)) by simp [fewL]] at this
  exact this
/-- Rules that came in. -/
structure ArgR (l : List Ru) : Prop where
  all : ∀ r ∈ l, ArgC r.o r.m r.k ∧ I64 r.ops
  len : l.length ≤ 9223372036854775807
def sumR : List Ru → Nat
  | [] => 0
  | r :: l => r.k.nodes + 1 + sumR l
theorem sumR_mem : ∀ {l : List Ru} {r : Ru}, r ∈ l → r.k.nodes + 1 ≤ sumR l
  | a :: l, r, h => by
    unfold sumR
    rcases List.mem_cons.1 h with rfl | h
    · omega
    · have := sumR_mem h; omega
theorem sumR_len : ∀ l : List Ru, l.length ≤ sumR l
  | [] => Nat.le_refl _
  | r :: l => by have := sumR_len l; simp only [List.length_cons, sumR]; omega
theorem fewRules_arg {l : List Ru} (g : ArgR l) (h : sumR l < N) : s_lfewRules N (rE l) = some (fewR l) := by
  have := sumR_len l
  refine lfewRules_eq N l (by omega) (fun r hr => ?_) g.len
  have := sumR_mem hr
  obtain ⟨ga, gb⟩ := g.all r hr
  exact ⟨ga.inC (by omega), by omega, ga.o, ga.m⟩
theorem good_few {l : List Ru} (g : ArgR l) (hN : 200000 < N) (h : fewR l = true) : GoodR N l := by
  unfold fewR at h
  simp only [Bool.and_eq_true, decide_eq_true_eq, List.all_eq_true] at h
  refine ⟨by omega, by omega, fun r hr => ?_⟩
  exact (g.all r hr).1.good hN (h.2 r hr)
theorem GoodR.inC {N : Nat} {l : List Ru} (g : GoodR N l) : ∀ r ∈ l, InC N r.k := fun r hr => ⟨(g.good r hr).wf, (g.good r hr).len, (g.good r hr).fuel⟩
/-! The statements -/
theorem wChecks_eq (hN : 200000 < N) {o m : Int} {k : Cl} (g : ArgC o m k) (h : k.nodes + 1 < N) : s_wChecks N o m k.enc = some true := by
  unfold s_wChecks
  rw [few1 N g h, bnd1_mk, works_eq N hN, br_not, br_dec]
  by_cases c : k.nodes ≤ 199
  · rw [if_pos c, aCheck_eq N o m k (g.good hN c), qCheck_eq N o m k (g.good hN c), bnd1_mk, bnd1_mk, br_dec, if_pos rfl]; rfl
  · rw [if_neg c]; rfl
theorem wHolds_eq (hN : 200000 < N) {o m : Int} {k : Cl} (g : ArgC o m k) (h : k.nodes + 1 < N) (p q s l : Int) : s_wHolds N o m k.enc p q s l = some true := by
  unfold s_wHolds
  rw [few1 N g h, bnd1_mk, works_eq N hN, br_not, br_dec]
  by_cases c : k.nodes ≤ 199
  · have h1 := aHolds_eq N ⟨p, q, s, l⟩ o m k (g.good hN c)
    have h2 := qHolds_eq N ⟨p, q, s, l⟩ o m k (g.good hN c)
    rw [if_pos c, h1, h2, bnd1_mk, bnd1_mk, beq_self_eq_true]; rfl
  · rw [if_neg c]; rfl
theorem wAllows_eq (hN : 200000 < N) {l : List Ru} (g : ArgR l) (h : sumR l < N) (op p q s v : Int) : s_wAllows N (rE l) op p q s v = some true := by
  unfold s_wAllows
  rw [fewRules_arg N g h, bnd1_mk, works_eq N hN, br_not]
  cases hf : fewR l with
  | false => rfl
  | true =>
    have gg := good_few N g hN hf
    have h1 := Allowed_eq N ⟨p, q, s, v⟩ op l gg
    have h2 := qAllowed_eq N ⟨p, q, s, v⟩ op l gg
    rw [br_t, aCheckRules_eq N l gg, qCheckRules_eq N l gg, bnd1_mk, bnd1_mk, br_dec, if_pos rfl, h1, h2, bnd1_mk, bnd1_mk, beq_self_eq_true]; rfl
theorem wMore_eq (hN : 200000 < N) {l : List Ru} (g : ArgR l) (h : sumR l < N) (op p q s v p' q' s' v' : Int) : s_wMore N (rE l) op p q s v p' q' s' v' = some true := by
  unfold s_wMore
  rw [fewRules_arg N g h, bnd1_mk, works_eq N hN, br_not]
  cases hf : fewR l with
  | false => rfl
  | true =>
    have gg := good_few N g hN hf
    have h1 := Allowed_eq N ⟨p, q, s, v⟩ op l gg
    have key : ∀ t : Int, s ≤ t → bnd1 (s_Allowed N (rE l) op p q s v) (fun b2 => br (!b2) (bnd1 (some true) fun b3 => some b3)
        (bnd1 (s_Allowed N (rE l) op (bitsI BinOp.or IntKind.i64 p p') (bitsI BinOp.or IntKind.i64 q q') t (bitsI BinOp.or IntKind.i64 v v')) fun b4 => br b4 (bnd1 (some true) fun b5 => some b5) (some false))) = some true := by
      intro t ht
      have h2 := Allowed_eq N ⟨bitsI BinOp.or IntKind.i64 p p', bitsI BinOp.or IntKind.i64 q q', t, bitsI BinOp.or IntKind.i64 v v'⟩ op l gg
      rw [h1, bnd1_mk, br_not]
      cases hp : perm ⟨p, q, s, v⟩ op l with
      | false => rfl
      | true =>
        have hle : Sec.le ⟨p, q, s, v⟩ ⟨bitsI BinOp.or IntKind.i64 p p', bitsI BinOp.or IntKind.i64 q q', t, bitsI BinOp.or IntKind.i64 v v'⟩ := by
          refine ⟨?_, ?_, .inr ht, ?_⟩
          · show hasB (bv (bitsI .or .i64 p p')) _ = true
            rw [bv_or]; exact hasB_or_left _ _
          · show hasB (bv (bitsI .or .i64 q q')) _ = true
            rw [bv_or]; exact hasB_or_left _ _
          · show hasB (bv (bitsI .or .i64 v v')) _ = true
            rw [bv_or]; exact hasB_or_left _ _
        have h3 := perm_mono hle op l hp
        rw [br_t, h2, h3]; rfl
    rw [br_t, br_dec]
    by_cases c : s < s'
    · rw [if_pos c]; exact key s' (by omega)
    · rw [if_neg c]; exact key s (Int.le_refl _)
theorem wShows_eq (hN : 200000 < N) {o m : Int} {k : Cl} {o' m' : Int} {k' : Cl} (g : ArgC o m k) (g' : ArgC o' m' k') (h : k.nodes + k'.nodes + 2 < N) : s_wShows N o m k.enc o' m' k'.enc = some true := by
  unfold s_wShows
  rw [few2 N g g' h, bnd1_mk, works_eq N hN, br_not]
  by_cases c : k.nodes ≤ 199
  case neg => rw [decide_eq_false c]; rfl
  by_cases c' : k'.nodes ≤ 199
  case neg => rw [decide_eq_false c', Bool.and_false]; rfl
  have gg := g.good hN c
  have gg' := g'.good hN c'
  rw [decide_eq_true c, decide_eq_true c', Bool.and_self, br_t, aText_eq N o m k gg, aText_eq N o' m' k' gg', qText_eq N o m k gg, qText_eq N o' m' k' gg', bnd1_mk, bnd1_mk, bnd1_mk, bnd1_mk, br_not, br_dec, if_pos rfl, br_not, br_dec, if_pos rfl, br_dec]
  by_cases h1 : textC o m k = []
  · rw [if_pos h1]; rfl
  rw [if_neg h1, br_dec]
  by_cases h2 : textC o' m' k' = []
  · rw [if_pos h2]; rfl
  rw [if_neg h2, qSameCond_eq N N o m k o' m' k' gg.fuel gg.fuel gg.wf gg.len gg'.wf gg'.len, bnd1_mk]
  have k1 : chk o m k = 0 := by
    unfold textC at h1
    by_cases e : chk o m k = 0
    · exact e
    · rw [if_neg e] at h1; exact absurd rfl h1
  have k2 : chk o' m' k' = 0 := by
    unfold textC at h2
    by_cases e : chk o' m' k' = 0
    · exact e
    · rw [if_neg e] at h2; exact absurd rfl h2
  have e : decide (textC o m k = textC o' m' k') = eqC o m k o' m' k' := by
    unfold eqC textC
    rw [if_pos k1, if_pos k2, decide_eq_decide]
    exact ⟨fun e => text_inj (chk_zero k1).1 (chk_zero k2).1 e, fun ⟨e1, e2, e3⟩ => by rw [e1, e2, e3]⟩
  rw [e, beq_self_eq_true]; rfl
end
end Go.Proofs.YtahemenhcoedgaaDoor.En
