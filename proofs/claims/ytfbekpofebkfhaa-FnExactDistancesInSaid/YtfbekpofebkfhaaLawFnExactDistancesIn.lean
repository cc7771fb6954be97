/- The law FnExactDistancesIn: the call returns true for every argument that reads as data, and every argument reads afterwards as before. Conditions: none beyond the given row's own. -/
import Derived.Test.YtfbekpofebkfhaaRows
import Derived.Test.YtfbekpofebkfhaaPFnExactDistancesInx0
import Derived.Test.YtfbekpofebkfhaaPFnExactDistancesInx10
import Derived.Test.YtfbekpofebkfhaaPureFnExactDistancesIn
import Derived.Test.YtfbekpofebkfhaaOpens
import Derived.WalkKit
import Derived.ProofKit
import Derived.OpenShut
import Derived.ShutString
import Derived.ChangeOld
import Derived.Below
import Derived.SizedLaws
import Derived.Lib.SmallJoins
import Derived.Deep.Strs
import Derived.Test.YtfbekpofebkfhaaWSized
namespace Go.Proofs.Ytfbekpofebkfhaa.fnExactDistancesIn
open Go.ChangeShapes Go.WideShapes Go.ChangeAt Go.RowKit Go.Joins Go.Deep Go.Proofs.YtfbekpofebkfhaaW.PrintWords
open Go.ChangeMaps (open_string shut_string)
set_option linter.unusedVariables false
theorem own : ownKnob Try.prog.godebug = none := by kernel_rfl
theorem laidOut : laidOutB Try.prog = true := by kernel_rfl
set_option maxRecDepth 100000 in
theorem lifted (os : Os) (started : os.Started) (H : Type) (enc : TypeId × Value → H) :
    ReturnsInHanded {} Try.checked os 8 .any (Rows.fnExactDistancesInSpec.pre6 enc Try.prog Try.f8 Rows.fnExactDistancesInRow.domain false) (Rows.fnExactDistancesInSpec.post enc Try.prog Try.f8 false true false false) := by
  refine returnsInHanded_of_change_sized (C := Try.checked) own started (by kernel_rfl) Try.func8
    (ChangeSpec.witness6 (enc := enc) (C := Try.checked) false ⟨#[], #[.agg #[.int .i64 0, .slice none 0 0], .slice none 0 0], []⟩ 8 (by kernel_rfl) (by kernel_rfl) (by kernel_rfl) (by kernel_rfl)) ?_
  intro W base args ds gs before hval0 hW hcnd hsz0 _
  have hval : ∀ (j : Nat) t v, Try.f8.params[j]? = some t → args[j]? = some v → Value.okWide Try.prog W .any base t v := hval0
  have hW' := hW
  obtain ⟨p, q, hA0, hV, rfl, hfz, hnd⟩ := hW
  have hA : DataW.TrodAll enc Try.prog W 0 (fun _ => true) true Try.f8.params.toList args.toList ds p := hA0
  rw [Try.params8] at hA hval
  obtain ⟨v0, vs0, d0, ds0, p0, q0, hargs, rfl, rfl, h0, r0⟩ := trodAll_cons hA
  obtain ⟨v1, vs1, d1, ds1, p1, q1, rfl, rfl, rfl, h1, r1⟩ := trodAll_cons r0
  obtain ⟨rfl, rfl, rfl⟩ := trodAll_nil r1
  obtain rfl : args = #[v0, v1] := by cases args; simp_all
  obtain ⟨rfl, rfl⟩ := trodVars_none hV
  have k0 := h0
  have lt0 : ∀ x ∈ p0, x.block < W.heap.size := by obtain ⟨m, hm⟩ := k0; exact DataW.trod_lt m _ _ _ hm
  obtain ⟨c0_0, c0_1, y0_0, y0_1, m0, rfl, _, _, g0_0, g0_1⟩ := open_agg2 Try.underlying44 (by kernel_rfl) (by kernel_rfl) (hval 0 44 v0 rfl rfl) h0
  obtain ⟨a0_0, e0_0, _, w0_0⟩ := DataW.trod_int Try.underlying3 g0_0
  obtain rfl : c0_0 = _ := List.head_eq_of_cons_eq e0_0
  obtain ⟨A0_1, cap0_1, l0_1, rfl, hc0_1, hm0_1, hr0_1, hq0_1⟩ := Opens.open_C (Kd.int .i64) (fun x : Int => (Lit.int .i64 x).wf = true) Try.underlying42 (by kernel_rfl) (Opens.el_int Try.underlying3) g0_1
  have k1 := h1
  have lt1 : ∀ x ∈ p1, x.block < W.heap.size := by obtain ⟨m, hm⟩ := k1; exact DataW.trod_lt m _ _ _ hm
  obtain ⟨aa1, len1, cc1, rfl⟩ := okWide_slice Try.underlying42 (hval 1 42 v1 rfl rfl)
  obtain ⟨fuel1, hf1⟩ := h1
  obtain ⟨A1, cap1, l1, ev1, hc1, hm1, hr1, hq1⟩ := Opens.open_C (Kd.int .i64) (fun x : Int => (Lit.int .i64 x).wf = true) Try.underlying42 (by kernel_rfl) (Opens.el_int Try.underlying3) hf1
  injection ev1 with ea1 el1 ec1
  subst ea1; subst el1; subst ec1
  clear hA0 hval0 hsz0
  obtain ⟨k, hk⟩ := Pure.FnExactDistancesIn a0_0 l0_1 l1 w0_0 hm0_1 hq0_1 hm1 hq1
  refine (PFnExactDistancesIn.laws_FnExactDistancesIn.calls k a0_0 _ _ l0_1 _ _ l1 true W hr0_1 hc0_1 hr1 hc1 hk).mono fun e W' ⟨he, hd⟩ => ?_
  have bel : Below W.heap.size W W' := hd
  subst he
  exact ⟨_, rfl, _, _, _, [], _, [], hW', trodAll_mk1 (shut_bool Try.underlying4 _), (trodAll_cons_mk (Below.trod laidOut (by kernel_rfl) (of_decide_eq_true (by kernel_rfl)) k0 bel lt0) (trodAll_cons_mk (Below.trod laidOut (by kernel_rfl) (of_decide_eq_true (by kernel_rfl)) k1 bel lt1) trodAll_mk0)), rfl, bel.frame _, fun h => by cases h⟩
theorem over : Rows.fnExactDistancesInRow.holds Try.pinned (OpenSpec.ofChange Rows.fnExactDistancesInSpec) :=
  OpenClaim.holds_of_wide 8 Try.f8 rfl rfl rfl rfl rfl rfl rfl ⟨rfl, rfl, rfl, rfl, rfl⟩ rfl rfl rfl rfl rfl (by kernel_rfl) Try.func8 (by kernel_rfl)
    (of_decide_eq_true (by kernel_rfl)) (by unfold Func.isWrapper; first | (rw [if_pos (by decide +kernel)]; kernel_rfl) | (rw [if_neg (by decide +kernel)]; exact ⟨rfl, rfl⟩))
    (fun os started H enc _ => lifted os started H enc)
theorem proved : Rows.FnExactDistancesInSaid := over
#print axioms proved
end Go.Proofs.Ytfbekpofebkfhaa.fnExactDistancesIn
namespace Go.Proofs.Ytfbekpofebkfhaa
/-- The row, under a short name, for the claim. -/
theorem fnExactDistancesIn_holds : Rows.FnExactDistancesInSaid := fnExactDistancesIn.proved
end Go.Proofs.Ytfbekpofebkfhaa
