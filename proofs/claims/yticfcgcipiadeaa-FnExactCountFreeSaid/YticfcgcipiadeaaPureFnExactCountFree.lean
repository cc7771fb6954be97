/- The plain statement of the law FnExactCountFree: what the printed functions come to is true at every input of the kinds stated. No conditions beyond those of the printed statement. -/
import Derived.Test.YticfcgcipiadeaaPFnExactCountFreex1
import Derived.Test.YticfcgcipiadeaaBase
import Derived.Laws.StructEq
namespace Go.Proofs.Yticfcgcipiadeaa.Pure
open Go.RowKit Go.Proofs.Yticfcgcipiadeaa.PFnExactCountFree Go.Proofs.YticfcgcipiadeaaW.PrintWords Go.Proofs.YticfcgcipiadeaaW.PrintLast Go.Proofs.Yticfcgcipiadeaa.Base
set_option linter.unusedVariables false
set_option linter.unusedSimpArgs false

-- chunks:
theorem FnExactCountFree : laws_FnExactCountFree.Pure := by
  intro g n hg hn
  by_cases h1 : (g = 1 ∨ g = 2) ∧ 0 ≤ n ∧ n ≤ 16
  · obtain ⟨h2, h3, h4⟩ := h1
    obtain ⟨m, rfl⟩ : ∃ m : Nat, n = m := ⟨n.toNat, by omega⟩
    have hm : m < 17 := by omega
    refine ⟨20, ?_⟩
    rcases h2 with rfl | rfl
    · exact (show ∀ m : Fin 17, laws_FnExactCountFree.f 20 1 (m.val : Int) = some true by decide +kernel) ⟨m, hm⟩
    · exact (show ∀ m : Fin 17, laws_FnExactCountFree.f 20 2 (m.val : Int) = some true by decide +kernel) ⟨m, hm⟩
  · refine ⟨20, ?_⟩
    have e1 : ∀ a b c : Int, spec_l01In.f a b c = some (decide (b ≤ a) && decide (a ≤ c)) := by
      intro a b c; unfold spec_l01In.f; by_cases h : b ≤ a <;> simp [h]
    have e2 : ∀ a b c : Int, impl_within.f a b c = some (decide (b ≤ a) && decide (a ≤ c)) := by
      intro a b c; unfold impl_within.f; by_cases h : b ≤ a <;> simp [h]
    by_cases h2 : 1 ≤ g ∧ g ≤ 2
    · have e3 : (decide (0 ≤ n) && decide (n ≤ 16)) = false := by rw [Bool.and_eq_false_iff]; simp; omega
      simp [laws_FnExactCountFree.f, spec_CountFree.f, impl_CountFree.f, e1, e2, h2.1, h2.2, e3, spec_CountFree.j0, impl_CountFree.j0]
    · have e3 : (decide (1 ≤ g) && decide (g ≤ 2)) = false := by rw [Bool.and_eq_false_iff]; simp; omega
      simp [laws_FnExactCountFree.f, spec_CountFree.f, impl_CountFree.f, e1, e2, e3, spec_CountFree.j0, impl_CountFree.j0]

end Go.Proofs.Yticfcgcipiadeaa.Pure
