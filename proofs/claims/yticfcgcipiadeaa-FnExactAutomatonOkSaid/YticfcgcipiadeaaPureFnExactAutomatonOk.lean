/- The plain statement of the law FnExactAutomatonOk: what the printed functions come to is true at every input of the kinds stated. No conditions beyond those of the printed statement. -/
import Derived.Test.YticfcgcipiadeaaPFnExactAutomatonOkx0
import Derived.Test.YticfcgcipiadeaaPFnExactAutomatonOkx3
import Derived.Laws.StructEq
import Derived.Laws.StructEq
import Derived.Test.YticfcgcipiadeaaBase
import Derived.Test.YticfcgcipiadeaaPlain
import Derived.Laws.StructEq
namespace Go.Proofs.Yticfcgcipiadeaa.Pure
open Go.RowKit Go.Proofs.Yticfcgcipiadeaa.PFnExactAutomatonOk Go.Proofs.YticfcgcipiadeaaW.PrintWords Go.Proofs.YticfcgcipiadeaaW.PrintLast Go.Proofs.Yticfcgcipiadeaa.Base
set_option linter.unusedVariables false
set_option linter.unusedSimpArgs false

/-! ### reading a row -/
theorem rd_nat (l : List Int) (i : Nat) (h : i < l.length) : rd l (i : Int) = l[i] := by
  simp [rd, List.getD_eq_getElem?_getD, h]
theorem drop_ints (l : List Int) (i : Nat) (h : i < l.length) : l.drop i = rd l (i : Int) :: l.drop (i + 1) := by
  rw [List.drop_eq_getElem_cons h, rd_nat l i h]
theorem set_take {α : Type} (x y : List α) (i : Nat) (d : α) (hi : i < x.length) (hl : y.length = x.length) (h : y.take i = x.take i) : (y.set i (x.getD i d)).take (i + 1) = x.take (i + 1) := by
  rw [List.take_succ_eq_append_getElem (by simp; omega), List.take_succ_eq_append_getElem hi, List.take_set_of_le (Nat.le_refl i), h]
  simp [List.getD_eq_getElem?_getD, hi]
theorem wsucc {i : Nat} {n : Nat} (h : i < n) (hn : n ≤ 140737488351232) : wrap64 ((i : Int) + 1) = ((i + 1 : Nat) : Int) := by rw [w64 (by omega) (by omega)]; simp

theorem allWithin_eq (l : List Int) (a b : Int) : impl_allWithin.f l a b = some (l.all fun x => decide (a ≤ x) && decide (x ≤ b)) := by
  unfold impl_allWithin.f
  rw [List.not_any_eq_all_not]
  simp

theorem spec_l01In_eq (a b c : Int) : spec_l01In.f a b c = some (decide (b ≤ a) && decide (a ≤ c)) := by
  unfold spec_l01In.f
  by_cases h : b ≤ a <;> simp [h]

theorem impl_within_eq (a b c : Int) : impl_within.f a b c = some (decide (b ≤ a) && decide (a ≤ c)) := by
  unfold impl_within.f
  by_cases h : b ≤ a <;> simp [h]

def autOk (n : Int) (x : List Int) (y : List Bool) : Bool :=
  decide (1 ≤ n) && decide (n ≤ 4) && (decide (1 ≤ y.length) && decide (y.length ≤ 80)) && decide ((x.length : Int) = n * y.length) && x.all fun z => decide (-1 ≤ z) && decide (z ≤ (y.length : Int) - 1)
theorem autOk_iff {n : Int} {x : List Int} {y : List Bool} : autOk n x y = true ↔ (1 ≤ n ∧ n ≤ 4) ∧ (1 ≤ y.length ∧ y.length ≤ 80) ∧ (x.length : Int) = n * y.length ∧ ∀ z ∈ x, -1 ≤ z ∧ z ≤ (y.length : Int) - 1 := by
  simp [autOk, and_assoc]
theorem impl_AutomatonOk_eq (n : Int) (x : List Int) (y : List Bool) (hy : y.length ≤ 1048576) : impl_AutomatonOk.f n x y = some (autOk n x y) := by
  unfold impl_AutomatonOk.f autOk
  simp only [impl_within_eq, allWithin_eq, Option.bind_some]
  by_cases h1 : 1 ≤ n ∧ n ≤ 4
  · by_cases h2 : 1 ≤ y.length ∧ y.length ≤ 80
    · have e1 : wrap64 (n * (y.length : Int)) = n * (y.length : Int) := by
        have : n = 1 ∨ n = 2 ∨ n = 3 ∨ n = 4 := by omega
        rcases this with rfl | rfl | rfl | rfl <;> rw [w64 (by omega) (by omega)]
      rw [e1, w64 (by omega) (by omega)]
      have e2 : (decide ((1 : Int) ≤ (y.length : Int)) && decide ((y.length : Int) ≤ 80)) = true := dec_and_true (by omega)
      rw [e2]
      by_cases h3 : (x.length : Int) = n * (y.length : Int)
      · simp [h1.1, h1.2, h2.1, h2.2, h3]
      · simp [h1.1, h1.2, h2.1, h2.2, h3]
    · have e2 : (decide ((1 : Int) ≤ (y.length : Int)) && decide ((y.length : Int) ≤ 80)) = false := dec_and_false (by omega)
      have e3 : (decide (1 ≤ y.length) && decide (y.length ≤ 80)) = false := dec_and_false (by omega)
      rw [e2, e3]
      simp [h1.1, h1.2]
  · have e2 : (decide (1 ≤ n) && decide (n ≤ 4)) = false := dec_and_false (by omega)
    rw [e2]
    simp
theorem spec_AutomatonOk_l0 (m : Int) (hm : 1 ≤ m ∧ m ≤ 80) (x : List Int) (hx : x.length ≤ 1048576) : ∀ (d i : Nat), i + d = x.length → Ev (fun k => spec_AutomatonOk.l0 k m x (x.length : Int) (i : Int)) ((x.drop i).all fun z => decide (-1 ≤ z) && decide (z ≤ m - 1)) := by
  intro d
  induction d with
  | zero =>
    intro i hi
    rw [List.drop_of_length_le (by omega)]
    exact Ev.step (f := fun _ => some true) (fun n => by simp only [spec_AutomatonOk.l0]; rw [if_neg (by omega)]) (Ev.now _)
  | succ d ih =>
    intro i hi
    rw [drop_ints x i (by omega), List.all_cons]
    have e : spec_l01In.f (rd x i) (-1) (wrap64 (m - 1)) = some (decide (-1 ≤ rd x i) && decide (rd x i ≤ m - 1)) := by
      rw [spec_l01In_eq, w64 (by omega) (by omega)]
    generalize (decide (-1 ≤ rd x i) && decide (rd x i ≤ m - 1)) = b at e ⊢
    cases b with
    | false =>
      rw [Bool.false_and]
      exact Ev.step (f := fun _ => some false) (fun n => by simp only [spec_AutomatonOk.l0]; rw [if_pos (by omega), if_pos (by omega), if_pos (by omega), e]; simp) (Ev.now _)
    | true =>
      rw [Bool.true_and]
      exact Ev.step (f := fun k => spec_AutomatonOk.l0 k m x (x.length : Int) ((i + 1 : Nat) : Int)) (fun n => by simp only [spec_AutomatonOk.l0]; rw [if_pos (by omega), if_pos (by omega), if_pos (by omega), e, wsucc (n := x.length) (by omega) (by omega)]; simp) (ih (i + 1) (by omega))
theorem spec_AutomatonOk_ev (n : Int) (x : List Int) (y : List Bool) (hx : x.length ≤ 1048576) (hy : y.length ≤ 1048576) : Ev (fun k => spec_AutomatonOk.f k n x y) (autOk n x y) := by
  unfold spec_AutomatonOk.f autOk
  simp only [spec_l01In_eq, Option.bind_some]
  by_cases h1 : 1 ≤ n ∧ n ≤ 4
  · have e0 : (decide (1 ≤ n) && decide (n ≤ 4)) = true := by simp [h1.1, h1.2]
    rw [e0]
    by_cases h2 : 1 ≤ y.length ∧ y.length ≤ 80
    · have e1 : wrap64 ((y.length : Int) * n) = n * (y.length : Int) := by
        have : n = 1 ∨ n = 2 ∨ n = 3 ∨ n = 4 := by omega
        rcases this with rfl | rfl | rfl | rfl <;> rw [w64 (by omega) (by omega)] <;> omega
      have e2 : (decide ((1 : Int) ≤ (y.length : Int)) && decide ((y.length : Int) ≤ 80)) = true := dec_and_true (by omega)
      have e3 : (decide (1 ≤ y.length) && decide (y.length ≤ 80)) = true := dec_and_true (by omega)
      rw [e2, e3, e1]
      by_cases h3 : (x.length : Int) = n * (y.length : Int)
      · have e4 : ((x.length : Int) != n * (y.length : Int)) = false := by simp [h3]
        rw [e4, decide_eq_true h3]
        simp only [if_true, Bool.true_and]
        exact Ev.step (f := fun k => spec_AutomatonOk.l0 k (y.length : Int) x (x.length : Int) 0) (fun k => by simp [spec_AutomatonOk.j0]) (spec_AutomatonOk_l0 (y.length : Int) (by omega) x hx x.length 0 (by omega))
      · have e4 : ((x.length : Int) != n * (y.length : Int)) = true := by simp [h3]
        rw [e4, decide_eq_false h3]
        simp only [if_true, Bool.and_false, Bool.false_and]
        exact Ev.step (f := fun k => some false) (fun k => by simp [spec_AutomatonOk.j0]) (Ev.now _)
    · have e2 : (decide ((1 : Int) ≤ (y.length : Int)) && decide ((y.length : Int) ≤ 80)) = false := dec_and_false (by omega)
      have e3 : (decide (1 ≤ y.length) && decide (y.length ≤ 80)) = false := dec_and_false (by omega)
      rw [e2, e3]
      simp only [if_true, Bool.and_false, Bool.false_and, if_neg (show ¬ (false = true) by decide)]
      exact Ev.step (f := fun k => some false) (fun k => by simp [spec_AutomatonOk.j0]) (Ev.now _)
  · have e2 : (decide (1 ≤ n) && decide (n ≤ 4)) = false := dec_and_false (by omega)
    rw [e2]
    simp only [Bool.false_and, if_neg (show ¬ (false = true) by decide)]
    exact Ev.step (f := fun k => some false) (fun k => by simp [spec_AutomatonOk.j0]) (Ev.now _)

theorem eqBoolS_l0 (x : List Bool) (hx : x.length ≤ 35184372088832) : ∀ (d i : Nat), i + d = x.length → Ev (fun k => laws_eqBoolS.l0 k x x (i : Int)) true := by
  intro d
  induction d with
  | zero =>
    intro i hi
    exact Ev.step (f := fun _ => some true) (fun n => by simp only [laws_eqBoolS.l0]; rw [if_neg (by omega)]) (Ev.now _)
  | succ d ih =>
    intro i hi
    refine Ev.step (f := fun k => laws_eqBoolS.l0 k x x ((i + 1 : Nat) : Int)) (fun n => ?_) (ih (i + 1) (by omega))
    simp only [laws_eqBoolS.l0, bne_self_eq_false]
    rw [if_pos (by omega), if_pos (by omega), if_pos (by omega), if_neg (by decide), wsucc (n := x.length) (by omega) (by omega)]
theorem eqBoolS_ev (x : List Bool) (hx : x.length ≤ 35184372088832) : Ev (fun k => laws_eqBoolS.f k x x) true := by
  unfold laws_eqBoolS.f
  refine ev_pos rfl ?_
  exact eqBoolS_l0 x hx x.length 0 (by omega)

theorem eqIntS_l0 (x : List Int) (hx : x.length ≤ 35184372088832) : ∀ (d i : Nat), i + d = x.length → Ev (fun k => laws_eqIntS.l0 k x x (i : Int)) true := by
  intro d
  induction d with
  | zero =>
    intro i hi
    exact Ev.step (f := fun _ => some true) (fun n => by simp only [laws_eqIntS.l0]; rw [if_neg (by omega)]) (Ev.now _)
  | succ d ih =>
    intro i hi
    refine Ev.step (f := fun k => laws_eqIntS.l0 k x x ((i + 1 : Nat) : Int)) (fun n => ?_) (ih (i + 1) (by omega))
    simp only [laws_eqIntS.l0]
    rw [if_pos (by omega), if_pos (by omega), if_pos (by omega), if_pos (by first | rfl | trivial), wsucc (n := x.length) (by omega) (by omega)]
theorem eqIntS_ev (x : List Int) (hx : x.length ≤ 35184372088832) : Ev (fun k => laws_eqIntS.f k x x) true := by
  unfold laws_eqIntS.f
  refine ev_pos rfl ?_
  exact eqIntS_l0 x hx x.length 0 (by omega)

theorem toIntS_l0 (x : List Int) (hx : x.length ≤ 35184372088832) : ∀ (d i : Nat) (y : List Int), i + d = x.length → y.length = x.length → y.take i = x.take i → Ev (fun k => laws_toIntS.l0 k x y (i : Int)) x := by
  intro d
  induction d with
  | zero =>
    intro i y hi hl ht
    have : y = x := by
      rw [List.take_of_length_le (by omega), List.take_of_length_le (by omega)] at ht
      exact ht
    rw [this]
    exact Ev.step (f := fun _ => some x) (fun n => by simp only [laws_toIntS.l0]; rw [if_neg (by omega)]) (Ev.now _)
  | succ d ih =>
    intro i y hi hl ht
    refine Ev.step (f := fun k => laws_toIntS.l0 k x (y.set i (rd x i)) ((i + 1 : Nat) : Int)) (fun n => ?_) (ih (i + 1) _ (by omega) (by simp; omega) (set_take x y i 0 (by omega) hl ht))
    simp only [laws_toIntS.l0]
    rw [if_pos (by omega), if_pos (by omega), if_pos (by omega), wsucc (n := x.length) (by omega) (by omega), Int.toNat_natCast]
theorem toIntS_ev (x : List Int) (hx : x.length ≤ 35184372088832) : Ev (fun k => laws_toIntS.f k x) x := by
  unfold laws_toIntS.f
  refine ev_pos (by omega) (ev_pos (by omega) ?_)
  exact toIntS_l0 x hx x.length 0 _ (by omega) (by simp) (by simp)

theorem toBoolS_l0 (x : List Bool) (hx : x.length ≤ 35184372088832) : ∀ (d i : Nat) (y : List Bool), i + d = x.length → y.length = x.length → y.take i = x.take i → Ev (fun k => laws_toBoolS.l0 k x y (i : Int)) x := by
  intro d
  induction d with
  | zero =>
    intro i y hi hl ht
    have : y = x := by
      rw [List.take_of_length_le (by omega), List.take_of_length_le (by omega)] at ht
      exact ht
    rw [this]
    exact Ev.step (f := fun _ => some x) (fun n => by simp only [laws_toBoolS.l0]; rw [if_neg (by omega)]) (Ev.now _)
  | succ d ih =>
    intro i y hi hl ht
    refine Ev.step (f := fun k => laws_toBoolS.l0 k x (y.set i (rdOf false x i)) ((i + 1 : Nat) : Int)) (fun n => ?_) (ih (i + 1) _ (by omega) (by simp; omega) (set_take x y i false (by omega) hl ht))
    simp only [laws_toBoolS.l0]
    rw [if_pos (by omega), if_pos (by omega), if_pos (by omega), wsucc (n := x.length) (by omega) (by omega), Int.toNat_natCast]
theorem toBoolS_ev (x : List Bool) (hx : x.length ≤ 35184372088832) : Ev (fun k => laws_toBoolS.f k x) x := by
  unfold laws_toBoolS.f
  refine ev_pos (by omega) (ev_pos (by omega) ?_)
  exact toBoolS_l0 x hx x.length 0 _ (by omega) (by simp) (by simp)

theorem szAutomaton_cases (n : Int) (x : List Int) (y : List Bool) (left : Int) (hl : 0 ≤ left ∧ left ≤ 1048576) (hx : x.length ≤ 9223372036854775807) (hy : y.length ≤ 9223372036854775807) :
    ∃ r, laws_szAutomaton.f n x y left = some r ∧ (r < 0 ∨ (x.length + y.length ≤ left ∧ r = left - x.length - y.length)) := by
  unfold laws_szAutomaton.f laws_szIntS.f laws_szBoolS.f
  rw [w64 (by omega) (by omega)]
  by_cases h1 : left - (x.length : Int) < 0
  · exact ⟨-1, by simp [h1], .inl (by omega)⟩
  · simp only [if_neg h1, Option.bind_some]
    rw [w64 (by omega) (by omega)]
    by_cases h2 : left - (x.length : Int) - (y.length : Int) < 0
    · exact ⟨-1, by simp [h1, h2], .inl (by omega)⟩
    · exact ⟨left - (x.length : Int) - (y.length : Int), by simp [h1, h2], .inr ⟨by omega, rfl⟩⟩
theorem toAutomaton_ev (n : Int) (x : List Int) (y : List Bool) (hx : x.length ≤ 1048576) (hy : y.length ≤ 1048576) : Ev (fun k => laws_toAutomaton.f k n x y) (n, x, y) := by
  unfold laws_toAutomaton.f
  exact Ev.bind (toIntS_ev x (by omega)) (Ev.bind (toBoolS_ev y (by omega)) (Ev.now _))
theorem eqAutomaton_ev (n : Int) (x : List Int) (y : List Bool) (hx : x.length ≤ 1048576) (hy : y.length ≤ 1048576) : Ev (fun k => laws_eqAutomaton.f k n x y n x y) true := by
  unfold laws_eqAutomaton.f
  refine ev_pos rfl (Ev.bind (eqIntS_ev x (by omega)) (ev_pos rfl (Ev.bind (eqBoolS_ev y (by omega)) (ev_pos rfl (Ev.now _)))))

theorem FnExactAutomatonOk : ∀ (a0_0 : Int) (l0_1 : List Int) (l0_2 : List Bool), (Lit.int .i64 a0_0).wf = true → l0_1.length ≤ 9223372036854775807 → (∀ x ∈ l0_1, (fun x : Int => (Lit.int .i64 x).wf = true) x) → l0_2.length ≤ 9223372036854775807 → (∀ x ∈ l0_2, (fun _ : Bool => True) x) → ∃ k, PFnExactAutomatonOk.laws_FnExactAutomatonOk.f k a0_0 l0_1 l0_2 = some true := by
  intro n x y hn hx _ hy _
  have : Ev (fun k => laws_FnExactAutomatonOk.f k n x y) true := by
    unfold laws_FnExactAutomatonOk.f
    obtain ⟨r, h1, h2⟩ := szAutomaton_cases n x y 1048576 (by omega) hx hy
    rw [h1]
    simp only [Option.bind_some]
    rcases h2 with h2 | ⟨h2, _⟩
    · exact ev_pos h2 (Ev.now _)
    · by_cases hr : r < 0
      · exact ev_pos hr (Ev.now _)
      · refine ev_neg hr (Ev.bind (toAutomaton_ev n x y (by omega) (by omega)) (Ev.bind (spec_AutomatonOk_ev n x y (by omega) (by omega)) (Ev.bind (toAutomaton_ev n x y (by omega) (by omega)) ?_)))
        simp only [impl_AutomatonOk_eq n x y (by omega), Option.bind_some, bne_self_eq_false]
        refine ev_neg (by decide) (Ev.bind (toAutomaton_ev n x y (by omega) (by omega)) (Ev.bind (eqAutomaton_ev n x y (by omega) (by omega)) (ev_pos rfl (Ev.now _))))
  exact this.rounds

end Go.Proofs.Yticfcgcipiadeaa.Pure
