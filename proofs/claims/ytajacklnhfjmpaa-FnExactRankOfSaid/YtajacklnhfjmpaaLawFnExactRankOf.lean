/- The law FnExactRankOf: the call returns true for every argument that reads as data, and every argument reads afterwards as before. Conditions: none beyond the given row's own. -/
import Derived.Test.YtajacklnhfjmpaaRows
import Derived.Test.YtajacklnhfjmpaaPFnExactRankOfx0
import Derived.Test.YtajacklnhfjmpaaPFnExactRankOfx6
import Derived.Test.YtajacklnhfjmpaaPureFnExactRankOf
import Derived.Test.YtajacklnhfjmpaaOpens
import Derived.WalkKit
import Derived.ProofKit
import Derived.OpenShut
import Derived.ShutString
import Derived.ChangeOld
import Derived.Below
import Derived.SizedLaws
import Derived.Lib.SmallJoins
import Derived.Deep.Strs
import Derived.Test.YtajacklnhfjmpaaWSized
namespace Go.Proofs.Ytajacklnhfjmpaa.fnExactRankOf
open Go.ChangeShapes Go.WideShapes Go.ChangeAt Go.RowKit Go.Joins Go.Deep Go.Proofs.YtajacklnhfjmpaaW.PrintWords
open Go.ChangeMaps (open_string shut_string)
set_option linter.unusedVariables false
theorem own : ownKnob Try.prog.godebug = none := by kernel_rfl
theorem laidOut : laidOutB Try.prog = true := by kernel_rfl
set_option maxRecDepth 100000 in
theorem el_T151 {H : Type} {enc : TypeId × Value → H} {w : World} {base : Nat} {spare : Nat → Bool} {held : Bool} : ∀ n cs y, DataW.trod enc Try.prog w base spare held n 151 cs = some y → ∃ x, PFnExactRankOf.k151.K w x cs ∧ ((Lit.int .i64 x.f0).wf = true ∧ (Lit.int .i64 x.f1).wf = true ∧ (Lit.int .i64 x.f2).wf = true) := by
  intro n cs y h
  obtain ⟨y0, y1, y2, m, _, hl, g0, g1, g2⟩ := trod_struct3 Try.underlying151 h
  have hl : cs.length = 3 := hl.trans (by kernel_rfl)
  obtain ⟨c0, c1, c2, rfl⟩ := Opens.list3 hl
  replace g0 : DataW.trod enc Try.prog w base spare held m 3 [c0] = some y0 := g0
  obtain ⟨b0, e0, _, w0⟩ := DataW.trod_int Try.underlying3 g0
  obtain rfl : c0 = _ := List.head_eq_of_cons_eq e0
  replace g1 : DataW.trod enc Try.prog w base spare held m 3 [c1] = some y1 := g1
  obtain ⟨b1, e1, _, w1⟩ := DataW.trod_int Try.underlying3 g1
  obtain rfl : c1 = _ := List.head_eq_of_cons_eq e1
  replace g2 : DataW.trod enc Try.prog w base spare held m 3 [c2] = some y2 := g2
  obtain ⟨b2, e2, _, w2⟩ := DataW.trod_int Try.underlying3 g2
  obtain rfl : c2 = _ := List.head_eq_of_cons_eq e2
  exact ⟨⟨b0, b1, b2⟩, PFnExactRankOf.k151_mk w ⟨b0, b1, b2⟩, w0, w1, w2⟩
set_option maxRecDepth 100000 in
theorem lifted (os : Os) (started : os.Started) (H : Type) (enc : TypeId × Value → H) :
    ReturnsInHanded {} Try.checked os 9 .any (Rows.fnExactRankOfSpec.pre6 enc Try.prog Try.f9 Rows.fnExactRankOfRow.domain false) (Rows.fnExactRankOfSpec.post enc Try.prog Try.f9 false true false false) := by
  refine returnsInHanded_of_change_sized (C := Try.checked) own started (by kernel_rfl) Try.func9
    (ChangeSpec.witness6 (enc := enc) (C := Try.checked) false ⟨#[], #[.agg #[.int .i64 0, .int .i64 0, .slice none 0 0]], []⟩ 8 (by kernel_rfl) (by kernel_rfl) (by kernel_rfl) (by kernel_rfl)) ?_
  intro W base args ds gs before hval0 hW hcnd hsz0 _
  have hval : ∀ (j : Nat) t v, Try.f9.params[j]? = some t → args[j]? = some v → Value.okWide Try.prog W .any base t v := hval0
  have hW' := hW
  obtain ⟨p, q, hA0, hV, rfl, hfz, hnd⟩ := hW
  have hA : DataW.TrodAll enc Try.prog W 0 (fun _ => true) true Try.f9.params.toList args.toList ds p := hA0
  rw [Try.params9] at hA hval
  obtain ⟨v0, vs0, d0, ds0, p0, q0, hargs, rfl, rfl, h0, r0⟩ := trodAll_cons hA
  obtain ⟨rfl, rfl, rfl⟩ := trodAll_nil r0
  obtain rfl : args = #[v0] := by cases args; simp_all
  obtain ⟨rfl, rfl⟩ := trodVars_none hV
  have k0 := h0
  have lt0 : ∀ x ∈ p0, x.block < W.heap.size := by obtain ⟨m, hm⟩ := k0; exact DataW.trod_lt m _ _ _ hm
  obtain ⟨c0_0, c0_1, c0_2, y0_0, y0_1, y0_2, m0, rfl, _, _, g0_0, g0_1, g0_2⟩ := open_agg3 Try.underlying60 (by kernel_rfl) (by kernel_rfl) (hval 0 60 v0 rfl rfl) h0
  obtain ⟨a0_0, e0_0, _, w0_0⟩ := DataW.trod_int Try.underlying3 g0_0
  obtain rfl : c0_0 = _ := List.head_eq_of_cons_eq e0_0
  obtain ⟨a0_1, e0_1, _, w0_1⟩ := DataW.trod_int Try.underlying3 g0_1
  obtain rfl : c0_1 = _ := List.head_eq_of_cons_eq e0_1
  obtain ⟨A0_2, cap0_2, l0_2, rfl, hc0_2, hm0_2, hr0_2, hq0_2⟩ := Opens.open_C PFnExactRankOf.k151 (fun x : PFnExactRankOf.S151 => (Lit.int .i64 x.f0).wf = true ∧ (Lit.int .i64 x.f1).wf = true ∧ (Lit.int .i64 x.f2).wf = true) Try.underlying58 (by kernel_rfl) el_T151 g0_2
  clear hA0 hval0 hsz0
  obtain ⟨k, hk⟩ := Pure.FnExactRankOf a0_0 a0_1 l0_2 w0_0 w0_1 hm0_2 hq0_2
  refine (PFnExactRankOf.laws_FnExactRankOf.calls k a0_0 a0_1 _ _ l0_2 true W hr0_2 hc0_2 hk).mono fun e W' ⟨he, hd⟩ => ?_
  have bel : Below W.heap.size W W' := hd
  subst he
  exact ⟨_, rfl, _, _, _, [], _, [], hW', trodAll_mk1 (shut_bool Try.underlying4 _), (trodAll_cons_mk (Below.trod laidOut (by kernel_rfl) (of_decide_eq_true (by kernel_rfl)) k0 bel lt0) trodAll_mk0), rfl, bel.frame _, fun h => by cases h⟩
theorem over : Rows.fnExactRankOfRow.holds Try.pinned (OpenSpec.ofChange Rows.fnExactRankOfSpec) :=
  OpenClaim.holds_of_wide 9 Try.f9 rfl rfl rfl rfl rfl rfl rfl ⟨rfl, rfl, rfl, rfl, rfl⟩ rfl rfl rfl rfl rfl (by kernel_rfl) Try.func9 (by kernel_rfl)
    (of_decide_eq_true (by kernel_rfl)) (by unfold Func.isWrapper; first | (rw [if_pos (by decide +kernel)]; kernel_rfl) | (rw [if_neg (by decide +kernel)]; exact ⟨rfl, rfl⟩))
    (fun os started H enc _ => lifted os started H enc)
theorem proved : Rows.FnExactRankOfSaid := over
#print axioms proved
end Go.Proofs.Ytajacklnhfjmpaa.fnExactRankOf
namespace Go.Proofs.Ytajacklnhfjmpaa
/-- The row, under a short name, for the claim. -/
theorem fnExactRankOf_holds : Rows.FnExactRankOfSaid := fnExactRankOf.proved
end Go.Proofs.Ytajacklnhfjmpaa
