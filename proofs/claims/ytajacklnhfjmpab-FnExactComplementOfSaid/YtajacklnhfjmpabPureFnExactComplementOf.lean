/- The plain statement of the law FnExactComplementOf: what the printed functions come to is true at every input of the kinds stated. No conditions beyond those of the printed statement. -/
import Derived.Test.YtajacklnhfjmpabPFnExactComplementOfx0
import Derived.Test.YtajacklnhfjmpabPFnExactComplementOfx7
import Derived.Laws.StructEq
import Derived.Test.YtajacklnhfjmpabBase
import Derived.Test.YtajacklnhfjmpabPlain
import Derived.Laws.StructEq
namespace Go.Proofs.Ytajacklnhfjmpab.Pure
open Go.RowKit Go.Proofs.Ytajacklnhfjmpab.PFnExactComplementOf Go.Proofs.YtajacklnhfjmpabW.PrintWords Go.Proofs.YtajacklnhfjmpabW.PrintLast Go.Proofs.Ytajacklnhfjmpab.Base
set_option linter.unusedVariables false
set_option linter.unusedSimpArgs false

/-! ### reading a row -/
theorem rd_nat (l : List Int) (i : Nat) (h : i < l.length) : rd l (i : Int) = l[i] := by
  simp [rd, List.getD_eq_getElem?_getD, h]
theorem drop_ints (l : List Int) (i : Nat) (h : i < l.length) : l.drop i = rd l (i : Int) :: l.drop (i + 1) := by
  rw [List.drop_eq_getElem_cons h, rd_nat l i h]
theorem set_take {α : Type} (x y : List α) (i : Nat) (d : α) (hi : i < x.length) (hl : y.length = x.length) (h : y.take i = x.take i) : (y.set i (x.getD i d)).take (i + 1) = x.take (i + 1) := by
  rw [List.take_succ_eq_append_getElem (by simp; omega), List.take_succ_eq_append_getElem hi, List.take_set_of_le (Nat.le_refl i), h]
  simp [List.getD_eq_getElem?_getD, hi]
theorem wsucc {i : Nat} {n : Nat} (h : i < n) (hn : n ≤ 140737488351232) : wrap64 ((i : Int) + 1) = ((i + 1 : Nat) : Int) := by rw [w64 (by omega) (by omega)]; simp

theorem allWithin_eq (l : List Int) (a b : Int) : impl_allWithin.f l a b = some (l.all fun x => decide (a ≤ x) && decide (x ≤ b)) := by
  unfold impl_allWithin.f
  rw [List.not_any_eq_all_not]
  simp

theorem spec_l01In_eq (a b c : Int) : spec_l01In.f a b c = some (decide (b ≤ a) && decide (a ≤ c)) := by
  unfold spec_l01In.f
  by_cases h : b ≤ a <;> simp [h]

theorem impl_within_eq (a b c : Int) : impl_within.f a b c = some (decide (b ≤ a) && decide (a ≤ c)) := by
  unfold impl_within.f
  by_cases h : b ≤ a <;> simp [h]

def autOk (n : Int) (x : List Int) (y : List Bool) : Bool :=
  decide (1 ≤ n) && decide (n ≤ 4) && (decide (1 ≤ y.length) && decide (y.length ≤ 80)) && decide ((x.length : Int) = n * y.length) && x.all fun z => decide (-1 ≤ z) && decide (z ≤ (y.length : Int) - 1)
theorem autOk_iff {n : Int} {x : List Int} {y : List Bool} : autOk n x y = true ↔ (1 ≤ n ∧ n ≤ 4) ∧ (1 ≤ y.length ∧ y.length ≤ 80) ∧ (x.length : Int) = n * y.length ∧ ∀ z ∈ x, -1 ≤ z ∧ z ≤ (y.length : Int) - 1 := by
  simp [autOk, and_assoc]
theorem impl_AutomatonOk_eq (n : Int) (x : List Int) (y : List Bool) (hy : y.length ≤ 1048576) : impl_AutomatonOk.f n x y = some (autOk n x y) := by
  unfold impl_AutomatonOk.f autOk
  simp only [impl_within_eq, allWithin_eq, bsome]
  by_cases h1 : 1 ≤ n ∧ n ≤ 4
  · by_cases h2 : 1 ≤ y.length ∧ y.length ≤ 80
    · have e1 : wrap64 (n * (y.length : Int)) = n * (y.length : Int) := by
        have : n = 1 ∨ n = 2 ∨ n = 3 ∨ n = 4 := by omega
        rcases this with rfl | rfl | rfl | rfl <;> rw [w64 (by omega) (by omega)]
      rw [e1, w64 (by omega) (by omega)]
      have e2 : (decide ((1 : Int) ≤ (y.length : Int)) && decide ((y.length : Int) ≤ 80)) = true := dec_and_true (by omega)
      rw [e2]
      by_cases h3 : (x.length : Int) = n * (y.length : Int)
      · simp [h1.1, h1.2, h2.1, h2.2, h3]
      · simp [h1.1, h1.2, h2.1, h2.2, h3]
    · have e2 : (decide ((1 : Int) ≤ (y.length : Int)) && decide ((y.length : Int) ≤ 80)) = false := dec_and_false (by omega)
      have e3 : (decide (1 ≤ y.length) && decide (y.length ≤ 80)) = false := dec_and_false (by omega)
      rw [e2, e3]
      simp [h1.1, h1.2]
  · have e2 : (decide (1 ≤ n) && decide (n ≤ 4)) = false := dec_and_false (by omega)
    rw [e2]
    simp
theorem spec_AutomatonOk_l0 (m : Int) (hm : 1 ≤ m ∧ m ≤ 80) (x : List Int) (hx : x.length ≤ 1048576) : ∀ (d i : Nat), i + d = x.length → Ev (fun k => spec_AutomatonOk.l0 k m x (x.length : Int) (i : Int)) ((x.drop i).all fun z => decide (-1 ≤ z) && decide (z ≤ m - 1)) := by
  intro d
  induction d with
  | zero =>
    intro i hi
    rw [List.drop_of_length_le (by omega)]
    exact Ev.step (f := fun _ => some true) (fun n => by simp only [spec_AutomatonOk.l0]; rw [if_neg (by omega)]) (Ev.now _)
  | succ d ih =>
    intro i hi
    rw [drop_ints x i (by omega), List.all_cons]
    have e : spec_l01In.f (rd x i) (-1) (wrap64 (m - 1)) = some (decide (-1 ≤ rd x i) && decide (rd x i ≤ m - 1)) := by
      rw [spec_l01In_eq, w64 (by omega) (by omega)]
    generalize (decide (-1 ≤ rd x i) && decide (rd x i ≤ m - 1)) = b at e ⊢
    cases b with
    | false =>
      rw [Bool.false_and]
      exact Ev.step (f := fun _ => some false) (fun n => by simp only [spec_AutomatonOk.l0]; rw [if_pos (by omega), if_pos (by omega), if_pos (by omega), e]; simp) (Ev.now _)
    | true =>
      rw [Bool.true_and]
      exact Ev.step (f := fun k => spec_AutomatonOk.l0 k m x (x.length : Int) ((i + 1 : Nat) : Int)) (fun n => by simp only [spec_AutomatonOk.l0]; rw [if_pos (by omega), if_pos (by omega), if_pos (by omega), e, wsucc (n := x.length) (by omega) (by omega)]; simp) (ih (i + 1) (by omega))
theorem spec_AutomatonOk_ev (n : Int) (x : List Int) (y : List Bool) (hx : x.length ≤ 1048576) (hy : y.length ≤ 1048576) : Ev (fun k => spec_AutomatonOk.f k n x y) (autOk n x y) := by
  unfold spec_AutomatonOk.f autOk
  simp only [spec_l01In_eq, bsome]
  by_cases h1 : 1 ≤ n ∧ n ≤ 4
  · have e0 : (decide (1 ≤ n) && decide (n ≤ 4)) = true := by simp [h1.1, h1.2]
    rw [e0]
    by_cases h2 : 1 ≤ y.length ∧ y.length ≤ 80
    · have e1 : wrap64 ((y.length : Int) * n) = n * (y.length : Int) := by
        have : n = 1 ∨ n = 2 ∨ n = 3 ∨ n = 4 := by omega
        rcases this with rfl | rfl | rfl | rfl <;> rw [w64 (by omega) (by omega)] <;> omega
      have e2 : (decide ((1 : Int) ≤ (y.length : Int)) && decide ((y.length : Int) ≤ 80)) = true := dec_and_true (by omega)
      have e3 : (decide (1 ≤ y.length) && decide (y.length ≤ 80)) = true := dec_and_true (by omega)
      rw [e2, e3, e1]
      by_cases h3 : (x.length : Int) = n * (y.length : Int)
      · have e4 : ((x.length : Int) != n * (y.length : Int)) = false := by simp [h3]
        rw [e4, decide_eq_true h3]
        simp only [if_true, Bool.true_and]
        exact Ev.step (f := fun k => spec_AutomatonOk.l0 k (y.length : Int) x (x.length : Int) 0) (fun k => by simp [spec_AutomatonOk.j0]) (spec_AutomatonOk_l0 (y.length : Int) (by omega) x hx x.length 0 (by omega))
      · have e4 : ((x.length : Int) != n * (y.length : Int)) = true := by simp [h3]
        rw [e4, decide_eq_false h3]
        simp only [if_true, Bool.and_false, Bool.false_and]
        exact Ev.step (f := fun k => some false) (fun k => by simp [spec_AutomatonOk.j0]) (Ev.now _)
    · have e2 : (decide ((1 : Int) ≤ (y.length : Int)) && decide ((y.length : Int) ≤ 80)) = false := dec_and_false (by omega)
      have e3 : (decide (1 ≤ y.length) && decide (y.length ≤ 80)) = false := dec_and_false (by omega)
      rw [e2, e3]
      simp only [if_true, Bool.and_false, Bool.false_and, if_neg (show ¬ (false = true) by decide)]
      exact Ev.step (f := fun k => some false) (fun k => by simp [spec_AutomatonOk.j0]) (Ev.now _)
  · have e2 : (decide (1 ≤ n) && decide (n ≤ 4)) = false := dec_and_false (by omega)
    rw [e2]
    simp only [Bool.false_and, if_neg (show ¬ (false = true) by decide)]
    exact Ev.step (f := fun k => some false) (fun k => by simp [spec_AutomatonOk.j0]) (Ev.now _)

theorem eqBoolS_l0 (x : List Bool) (hx : x.length ≤ 35184372088832) : ∀ (d i : Nat), i + d = x.length → Ev (fun k => laws_eqBoolS.l0 k x x (i : Int)) true := by
  intro d
  induction d with
  | zero =>
    intro i hi
    exact Ev.step (f := fun _ => some true) (fun n => by simp only [laws_eqBoolS.l0]; rw [if_neg (by omega)]) (Ev.now _)
  | succ d ih =>
    intro i hi
    refine Ev.step (f := fun k => laws_eqBoolS.l0 k x x ((i + 1 : Nat) : Int)) (fun n => ?_) (ih (i + 1) (by omega))
    simp only [laws_eqBoolS.l0, bne_self_eq_false]
    rw [if_pos (by omega), if_pos (by omega), if_pos (by omega), if_neg (by decide), wsucc (n := x.length) (by omega) (by omega)]
theorem eqBoolS_ev (x : List Bool) (hx : x.length ≤ 35184372088832) : Ev (fun k => laws_eqBoolS.f k x x) true := by
  unfold laws_eqBoolS.f
  refine ev_pos rfl ?_
  exact eqBoolS_l0 x hx x.length 0 (by omega)

theorem eqIntS_l0 (x : List Int) (hx : x.length ≤ 35184372088832) : ∀ (d i : Nat), i + d = x.length → Ev (fun k => laws_eqIntS.l0 k x x (i : Int)) true := by
  intro d
  induction d with
  | zero =>
    intro i hi
    exact Ev.step (f := fun _ => some true) (fun n => by simp only [laws_eqIntS.l0]; rw [if_neg (by omega)]) (Ev.now _)
  | succ d ih =>
    intro i hi
    refine Ev.step (f := fun k => laws_eqIntS.l0 k x x ((i + 1 : Nat) : Int)) (fun n => ?_) (ih (i + 1) (by omega))
    simp only [laws_eqIntS.l0]
    rw [if_pos (by omega), if_pos (by omega), if_pos (by omega), if_pos (by first | rfl | trivial), wsucc (n := x.length) (by omega) (by omega)]
theorem eqIntS_ev (x : List Int) (hx : x.length ≤ 35184372088832) : Ev (fun k => laws_eqIntS.f k x x) true := by
  unfold laws_eqIntS.f
  refine ev_pos rfl ?_
  exact eqIntS_l0 x hx x.length 0 (by omega)

theorem toIntS_l0 (x : List Int) (hx : x.length ≤ 35184372088832) : ∀ (d i : Nat) (y : List Int), i + d = x.length → y.length = x.length → y.take i = x.take i → Ev (fun k => laws_toIntS.l0 k x y (i : Int)) x := by
  intro d
  induction d with
  | zero =>
    intro i y hi hl ht
    have : y = x := by
      rw [List.take_of_length_le (by omega), List.take_of_length_le (by omega)] at ht
      exact ht
    rw [this]
    exact Ev.step (f := fun _ => some x) (fun n => by simp only [laws_toIntS.l0]; rw [if_neg (by omega)]) (Ev.now _)
  | succ d ih =>
    intro i y hi hl ht
    refine Ev.step (f := fun k => laws_toIntS.l0 k x (y.set i (rd x i)) ((i + 1 : Nat) : Int)) (fun n => ?_) (ih (i + 1) _ (by omega) (by simp; omega) (set_take x y i 0 (by omega) hl ht))
    simp only [laws_toIntS.l0]
    rw [if_pos (by omega), if_pos (by omega), if_pos (by omega), wsucc (n := x.length) (by omega) (by omega), Int.toNat_natCast]
theorem toIntS_ev (x : List Int) (hx : x.length ≤ 35184372088832) : Ev (fun k => laws_toIntS.f k x) x := by
  unfold laws_toIntS.f
  refine ev_pos (by omega) (ev_pos (by omega) ?_)
  exact toIntS_l0 x hx x.length 0 _ (by omega) (by simp) (by simp)

theorem toBoolS_l0 (x : List Bool) (hx : x.length ≤ 35184372088832) : ∀ (d i : Nat) (y : List Bool), i + d = x.length → y.length = x.length → y.take i = x.take i → Ev (fun k => laws_toBoolS.l0 k x y (i : Int)) x := by
  intro d
  induction d with
  | zero =>
    intro i y hi hl ht
    have : y = x := by
      rw [List.take_of_length_le (by omega), List.take_of_length_le (by omega)] at ht
      exact ht
    rw [this]
    exact Ev.step (f := fun _ => some x) (fun n => by simp only [laws_toBoolS.l0]; rw [if_neg (by omega)]) (Ev.now _)
  | succ d ih =>
    intro i y hi hl ht
    refine Ev.step (f := fun k => laws_toBoolS.l0 k x (y.set i (rdOf false x i)) ((i + 1 : Nat) : Int)) (fun n => ?_) (ih (i + 1) _ (by omega) (by simp; omega) (set_take x y i false (by omega) hl ht))
    simp only [laws_toBoolS.l0]
    rw [if_pos (by omega), if_pos (by omega), if_pos (by omega), wsucc (n := x.length) (by omega) (by omega), Int.toNat_natCast]
theorem toBoolS_ev (x : List Bool) (hx : x.length ≤ 35184372088832) : Ev (fun k => laws_toBoolS.f k x) x := by
  unfold laws_toBoolS.f
  refine ev_pos (by omega) (ev_pos (by omega) ?_)
  exact toBoolS_l0 x hx x.length 0 _ (by omega) (by simp) (by simp)

theorem szAutomaton_cases (n : Int) (x : List Int) (y : List Bool) (left : Int) (hl : 0 ≤ left ∧ left ≤ 1048576) (hx : x.length ≤ 9223372036854775807) (hy : y.length ≤ 9223372036854775807) :
    ∃ r, laws_szAutomaton.f n x y left = some r ∧ (r < 0 ∨ (x.length + y.length ≤ left ∧ r = left - x.length - y.length)) := by
  unfold laws_szAutomaton.f laws_szIntS.f laws_szBoolS.f
  rw [w64 (by omega) (by omega)]
  by_cases h1 : left - (x.length : Int) < 0
  · exact ⟨-1, by simp [h1], .inl (by omega)⟩
  · simp only [if_neg h1, bsome]
    rw [w64 (by omega) (by omega)]
    by_cases h2 : left - (x.length : Int) - (y.length : Int) < 0
    · exact ⟨-1, by simp [h1, h2], .inl (by omega)⟩
    · exact ⟨left - (x.length : Int) - (y.length : Int), by simp [h1, h2], .inr ⟨by omega, rfl⟩⟩
theorem toAutomaton_ev (n : Int) (x : List Int) (y : List Bool) (hx : x.length ≤ 1048576) (hy : y.length ≤ 1048576) : Ev (fun k => laws_toAutomaton.f k n x y) (n, x, y) := by
  unfold laws_toAutomaton.f
  exact Ev.bind (toIntS_ev x (by omega)) (Ev.bind (toBoolS_ev y (by omega)) (Ev.now _))
theorem eqAutomaton_ev (n : Int) (x : List Int) (y : List Bool) (hx : x.length ≤ 1048576) (hy : y.length ≤ 1048576) : Ev (fun k => laws_eqAutomaton.f k n x y n x y) true := by
  unfold laws_eqAutomaton.f
  refine ev_pos rfl (Ev.bind (eqIntS_ev x (by omega)) (ev_pos rfl (Ev.bind (eqBoolS_ev y (by omega)) (ev_pos rfl (Ev.now _)))))

theorem markIntS_l0 : ∀ (d i : Nat) (y : List Int) (a : Int), i + d = y.length → y.length ≤ 1048576 → 0 ≤ a ∧ a ≤ 4194304 - d → ∃ z : List Int, z.length = y.length ∧ (∀ j, j < i → z[j]? = y[j]?) ∧ (∀ j, i ≤ j → j < z.length → z[j]? = some (a + ((j : Int) - i))) ∧ Ev (fun k => laws_markIntS.l0 k y a (i : Int)) (a + d, z) := by
  intro d
  induction d with
  | zero =>
    intro i y a hi hl ha
    refine ⟨y, rfl, fun _ _ => rfl, fun j h1 h2 => by omega, ?_⟩
    refine Ev.step (f := fun _ => some (a + ((0 : Nat) : Int), y)) (fun k => ?_) (Ev.now _)
    simp only [laws_markIntS.l0]
    rw [if_neg (by omega)]
    simp
  | succ d ih =>
    intro i y a hi hl ha
    obtain ⟨z, hz, h1, h2, h3⟩ := ih (i + 1) (y.set i a) (a + 1) (by simp; omega) (by simp; omega) (by omega)
    rw [List.length_set] at hz
    refine ⟨z, hz, fun j hj => ?_, fun j hj hj2 => ?_, ?_⟩
    · rw [h1 j (by omega), List.getElem?_set_ne (by omega)]
    · by_cases e : j = i
      · subst e
        rw [h1 j (by omega), List.getElem?_set_self (by omega)]
        congr 1
        omega
      · rw [h2 j (by omega) hj2]
        congr 1
        omega
    · have e : a + ((d + 1 : Nat) : Int) = a + 1 + (d : Int) := by omega
      rw [e]
      refine Ev.step (fun k => ?_) h3
      simp only [laws_markIntS.l0]
      rw [if_pos (by omega), if_pos (by omega), w64 (x := a + 1) (by omega) (by omega), wsucc (n := y.length) (by omega) (by omega), Int.toNat_natCast]
theorem heldIntS_l0 (z : List Int) (a : Int) (ha : 0 ≤ a ∧ a ≤ 4194304) (hz : z.length ≤ 1048576) (h : ∀ j, j < z.length → z[j]? = some (a + (j : Int))) : ∀ (d i : Nat), i + d = z.length → Ev (fun k => laws_heldIntS.l0 k z (a + (i : Int)) (i : Int)) (a + (z.length : Int)) := by
  intro d
  induction d with
  | zero =>
    intro i hi
    refine Ev.step (f := fun _ => some (a + (z.length : Int))) (fun k => ?_) (Ev.now _)
    simp only [laws_heldIntS.l0]
    rw [if_neg (by omega)]
    congr 2
    omega
  | succ d ih =>
    intro i hi
    have e : rd z (i : Int) = a + i := by
      have h1 := h i (by omega)
      rw [rd_nat z i (by omega)]
      rw [List.getElem?_eq_getElem (by omega)] at h1
      exact Option.some.inj h1
    have e2 : wrap64 (a + (i : Int) + 1) = a + ((i + 1 : Nat) : Int) := by rw [w64 (by omega) (by omega)]; omega
    refine Ev.step (fun k => ?_) (ih (i + 1) (by omega))
    simp only [laws_heldIntS.l0]
    rw [if_pos (by omega), if_pos (by omega), if_pos e, e2, wsucc (n := z.length) (by omega) (by omega)]
theorem markIntS_ev (x : List Int) (hx : x.length ≤ 1048576) (a : Int) (ha : 0 ≤ a ∧ a ≤ 2097152) : ∃ z : List Int, Ev (fun k => laws_markIntS.f k x a) (a + (x.length : Int), z) ∧ Ev (fun k => laws_heldIntS.f k z a) (a + (x.length : Int)) := by
  obtain ⟨z, hz, _, h2, h3⟩ := markIntS_l0 x.length 0 x a (by omega) hx (by omega)
  refine ⟨z, h3, ?_⟩
  unfold laws_heldIntS.f
  have := heldIntS_l0 z a (by omega) (by omega) (fun j hj => by rw [h2 j (by omega) hj]; simp) z.length 0 (by omega)
  rw [hz] at this
  simpa using this

theorem markBoolS_l0 : ∀ (d i : Nat) (y : List Bool) (a : Int), i + d = y.length → y.length ≤ 1048576 → 0 ≤ a ∧ a ≤ 4194304 - d → ∃ z : List Bool, z.length = y.length ∧ (∀ j, j < i → z[j]? = y[j]?) ∧ (∀ j, i ≤ j → j < z.length → z[j]? = some (Int.tmod (a + ((j : Int) - i)) 3 == 0)) ∧ Ev (fun k => laws_markBoolS.l0 k y a (i : Int)) (a + d, z) := by
  intro d
  induction d with
  | zero =>
    intro i y a hi hl ha
    refine ⟨y, rfl, fun _ _ => rfl, fun j h1 h2 => by omega, ?_⟩
    refine Ev.step (f := fun _ => some (a + ((0 : Nat) : Int), y)) (fun k => ?_) (Ev.now _)
    simp only [laws_markBoolS.l0]
    rw [if_neg (by omega)]
    simp
  | succ d ih =>
    intro i y a hi hl ha
    obtain ⟨z, hz, h1, h2, h3⟩ := ih (i + 1) (y.set i (Int.tmod a 3 == 0)) (a + 1) (by simp; omega) (by simp; omega) (by omega)
    rw [List.length_set] at hz
    refine ⟨z, hz, fun j hj => ?_, fun j hj hj2 => ?_, ?_⟩
    · rw [h1 j (by omega), List.getElem?_set_ne (by omega)]
    · by_cases e : j = i
      · subst e
        rw [h1 j (by omega), List.getElem?_set_self (by omega)]
        have e3 : a + ((j : Int) - j) = a := by omega
        rw [e3]
      · rw [h2 j (by omega) hj2]
        have e3 : a + 1 + ((j : Int) - ((i + 1 : Nat) : Int)) = a + ((j : Int) - i) := by omega
        rw [e3]
    · have e : a + ((d + 1 : Nat) : Int) = a + 1 + (d : Int) := by omega
      rw [e]
      refine Ev.step (fun k => ?_) h3
      simp only [laws_markBoolS.l0]
      rw [if_pos (by omega), if_pos (by omega), w64 (x := a + 1) (by omega) (by omega), wsucc (n := y.length) (by omega) (by omega), Int.toNat_natCast]
theorem heldBoolS_l0 (z : List Bool) (a : Int) (ha : 0 ≤ a ∧ a ≤ 4194304) (hz : z.length ≤ 1048576) (h : ∀ j, j < z.length → z[j]? = some (Int.tmod (a + (j : Int)) 3 == 0)) : ∀ (d i : Nat), i + d = z.length → Ev (fun k => laws_heldBoolS.l0 k z (a + (i : Int)) (i : Int)) (a + (z.length : Int)) := by
  intro d
  induction d with
  | zero =>
    intro i hi
    refine Ev.step (f := fun _ => some (a + (z.length : Int))) (fun k => ?_) (Ev.now _)
    simp only [laws_heldBoolS.l0]
    rw [if_neg (by omega)]
    congr 2
    omega
  | succ d ih =>
    intro i hi
    have e : rdOf false z (i : Int) = (Int.tmod (a + (i : Int)) 3 == 0) := by
      have h1 := h i (by omega)
      simp only [rdOf, List.getD_eq_getElem?_getD, Int.toNat_natCast]
      rw [h1]
      rfl
    have e2 : wrap64 (a + (i : Int) + 1) = a + ((i + 1 : Nat) : Int) := by rw [w64 (by omega) (by omega)]; omega
    refine Ev.step (fun k => ?_) (ih (i + 1) (by omega))
    simp only [laws_heldBoolS.l0, e, bne_self_eq_false]
    rw [if_pos (by omega), if_pos (by omega), if_neg (by decide), e2, wsucc (n := z.length) (by omega) (by omega)]
theorem markBoolS_ev (x : List Bool) (hx : x.length ≤ 1048576) (a : Int) (ha : 0 ≤ a ∧ a ≤ 2097152) : ∃ z : List Bool, Ev (fun k => laws_markBoolS.f k x a) (a + (x.length : Int), z) ∧ Ev (fun k => laws_heldBoolS.f k z a) (a + (x.length : Int)) := by
  obtain ⟨z, hz, _, h2, h3⟩ := markBoolS_l0 x.length 0 x a (by omega) hx (by omega)
  refine ⟨z, h3, ?_⟩
  unfold laws_heldBoolS.f
  have := heldBoolS_l0 z a (by omega) (by omega) (fun j hj => by rw [h2 j (by omega) hj]; simp) z.length 0 (by omega)
  rw [hz] at this
  simpa using this

theorem markAutomaton_ev (n : Int) (x : List Int) (y : List Bool) (hx : x.length ≤ 1048576) (hy : y.length ≤ 1048576) : ∃ (m : Int) (x' : List Int) (y' : List Bool), 0 ≤ m ∧ Ev (fun k => laws_markAutomaton.f k n x y 1) (m, x', y') ∧ Ev (fun k => laws_heldAutomaton.f k n x' y' 1) m := by
  obtain ⟨x', h1, h2⟩ := markIntS_ev x hx 1 (by omega)
  obtain ⟨y', h3, h4⟩ := markBoolS_ev y hy (1 + (x.length : Int)) (by omega)
  refine ⟨1 + (x.length : Int) + y.length, x', y', by omega, ?_, ?_⟩
  · unfold laws_markAutomaton.f
    exact Ev.bind h1 (Ev.bind h3 (Ev.now _))
  · unfold laws_heldAutomaton.f
    exact Ev.bind h2 (ev_neg (by omega) (Ev.bind h4 (ev_neg (by omega) (Ev.now _))))

theorem both_l2 (g : Int) (y : List Int) (b : List Bool) (hb : b.length ≤ 1048576) : ∀ (d i : Nat) (acc : List Bool), i + d = b.length → acc.length = i → ∃ f : List Bool, f.length = b.length + 1 ∧
    Ev (fun k => spec_l27Complement.l2 k b (b.length : Int) (i : Int) g y acc) (g, y, f) ∧ Ev (fun k => impl_ComplementOf.l2 k b (b.length : Int) (i : Int) g y acc) (g, y, f, true) := by
  intro d
  induction d with
  | zero =>
    intro i acc hi ha
    refine ⟨acc ++ [true], by simp; omega, Ev.step (f := fun _ => some (g, y, acc ++ [true])) (fun k => ?_) (Ev.now _), Ev.step (f := fun _ => some (g, y, acc ++ [true], true)) (fun k => ?_) (Ev.now _)⟩
    · simp only [spec_l27Complement.l2]
      rw [if_neg (by omega), if_pos (by omega)]
    · simp only [impl_ComplementOf.l2]
      rw [if_neg (by omega), if_pos (by omega)]
  | succ d ih =>
    intro i acc hi ha
    obtain ⟨f, h0, h1, h2⟩ := ih (i + 1) (acc ++ [!(rdOf false b (i : Int))]) (by omega) (by simp; omega)
    refine ⟨f, h0, Ev.step (fun k => ?_) h1, Ev.step (fun k => ?_) h2⟩
    · simp only [spec_l27Complement.l2]
      rw [if_pos (by omega), if_pos (by omega), if_pos (by omega), if_pos (by omega), wsucc (n := b.length) (by omega) (by omega)]
    · simp only [impl_ComplementOf.l2]
      rw [if_pos (by omega), if_pos (by omega), if_pos (by omega), if_pos (by omega), wsucc (n := b.length) (by omega) (by omega)]
theorem both_l1 (g : Nat) (hg : g ≤ 4) (n : Int) (x : List Int) (b : List Bool) (hb : b.length ≤ 1048576) : ∀ (d i : Nat) (acc : List Int), i + d = g → acc.length ≤ 1048580 - d → ∃ (z : List Int) (f : List Bool), z.length = acc.length + d ∧ f.length = b.length + 1 ∧
    Ev (fun k => spec_l27Complement.l1 k n (i : Int) (g : Int) x b (g : Int) acc) ((g : Int), z, f) ∧ Ev (fun k => impl_ComplementOf.l1 k n (g : Int) (i : Int) (g : Int) x b (g : Int) acc) ((g : Int), z, f, true) := by
  intro d
  induction d with
  | zero =>
    intro i acc hi ha
    obtain ⟨f, h0, h1, h2⟩ := both_l2 (g : Int) acc b hb b.length 0 [] (by omega) rfl
    refine ⟨acc, f, by omega, h0, Ev.step (fun k => ?_) h1, Ev.step (fun k => ?_) h2⟩
    · simp only [spec_l27Complement.l1]
      rw [if_neg (by omega)]
      rfl
    · simp only [impl_ComplementOf.l1]
      rw [if_neg (by omega)]
      rfl
  | succ d ih =>
    intro i acc hi ha
    obtain ⟨z, f, h0, h3, h1, h2⟩ := ih (i + 1) (acc ++ [n]) (by omega) (by simp; omega)
    rw [List.length_append, List.length_singleton] at h0
    refine ⟨z, f, by omega, h3, Ev.step (fun k => ?_) h1, Ev.step (fun k => ?_) h2⟩
    · simp only [spec_l27Complement.l1]
      rw [if_pos (by omega), if_pos (by omega), wsucc (n := g) (by omega) (by omega)]
    · simp only [impl_ComplementOf.l1]
      rw [if_pos (by omega), if_pos (by omega), wsucc (n := g) (by omega) (by omega)]
theorem both_l0 (g : Nat) (hg : g ≤ 4) (n : Int) (x : List Int) (hx : x.length ≤ 1000000) (b : List Bool) (hb : b.length ≤ 1048576) : ∀ (d i : Nat) (acc : List Int), i + d = x.length → acc.length = i → ∃ (z : List Int) (f : List Bool), z.length = x.length + g ∧ f.length = b.length + 1 ∧
    Ev (fun k => spec_l27Complement.l0 k n x (x.length : Int) (i : Int) (g : Int) x b (g : Int) acc) ((g : Int), z, f) ∧ Ev (fun k => impl_ComplementOf.l0 k n x (x.length : Int) (i : Int) (g : Int) x b (g : Int) acc) ((g : Int), z, f, true) := by
  intro d
  induction d with
  | zero =>
    intro i acc hi ha
    obtain ⟨z, f, h0, h3, h1, h2⟩ := both_l1 g hg n x b hb g 0 acc (by omega) (by omega)
    refine ⟨z, f, by omega, h3, Ev.step (fun k => ?_) h1, Ev.step (fun k => ?_) h2⟩
    · simp only [spec_l27Complement.l0]
      rw [if_neg (by omega)]
      rfl
    · simp only [impl_ComplementOf.l0]
      rw [if_neg (by omega)]
      rfl
  | succ d ih =>
    intro i acc hi ha
    by_cases hq : rd x (i : Int) < 0
    · obtain ⟨z, f, h0, h3, h1, h2⟩ := ih (i + 1) (acc ++ [n]) (by omega) (by simp; omega)
      refine ⟨z, f, h0, h3, Ev.step (fun k => ?_) h1, Ev.step (fun k => ?_) h2⟩
      · simp only [spec_l27Complement.l0]
        rw [if_pos (by omega), if_pos (by omega), if_pos (by omega), if_pos hq, if_pos (by omega), wsucc (n := x.length) (by omega) (by omega)]
      · simp only [impl_ComplementOf.l0]
        rw [if_pos (by omega), if_pos (by omega), if_pos (by omega), if_pos hq, if_pos (by omega), wsucc (n := x.length) (by omega) (by omega)]
    · obtain ⟨z, f, h0, h3, h1, h2⟩ := ih (i + 1) (acc ++ [rd x (i : Int)]) (by omega) (by simp; omega)
      refine ⟨z, f, h0, h3, Ev.step (fun k => ?_) h1, Ev.step (fun k => ?_) h2⟩
      · simp only [spec_l27Complement.l0]
        rw [if_pos (by omega), if_pos (by omega), if_pos (by omega), if_neg hq, if_pos (by omega), wsucc (n := x.length) (by omega) (by omega)]
      · simp only [impl_ComplementOf.l0]
        rw [if_pos (by omega), if_pos (by omega), if_pos (by omega), if_neg hq, if_pos (by omega), wsucc (n := x.length) (by omega) (by omega)]
theorem both (n : Int) (x : List Int) (y : List Bool) (hx : x.length ≤ 1048576) (hy : y.length ≤ 1048576) : ∃ (g : Int) (z : List Int) (f : List Bool) (o : Bool), z.length ≤ 1048576 ∧ f.length ≤ 1048576 ∧
    Ev (fun k => spec_ComplementOf.f k n x y) (g, z, f, o) ∧ Ev (fun k => impl_ComplementOf.f k n x y) (g, z, f, o) := by
  unfold spec_ComplementOf.f impl_ComplementOf.f
  have s := spec_AutomatonOk_ev n x y hx hy
  rw [impl_AutomatonOk_eq n x y hy]
  simp only [bsome]
  have bad : Ev (fun k => impl_ComplementOf.j0 k (y.length : Int) true n x y) (0, [], [], false) := Ev.step (f := fun _ => some (0, [], [], false)) (fun k => by simp [impl_ComplementOf.j0]) (Ev.now _)
  cases h : autOk n x y with
  | false =>
    rw [h] at s
    exact ⟨0, [], [], false, by simp, by simp, Ev.bind s (Ev.now _), ev_neg (by decide) bad⟩
  | true =>
    rw [h] at s
    by_cases e : (y.length : Int) = 80
    · refine ⟨0, [], [], false, by simp, by simp, Ev.bind s (ev_pos rfl (ev_pos e (Ev.now _))), ev_pos rfl ?_⟩
      have e2 : ((y.length : Int) == 80) = true := by simp [e]
      rw [e2]
      exact bad
    · obtain ⟨hn, hy2, hx2, _⟩ := autOk_iff.1 h
      obtain ⟨g, rfl⟩ : ∃ g : Nat, n = g := ⟨n.toNat, by omega⟩
      have hx3 : x.length ≤ 1000000 := by
        have : (g : Int) = 1 ∨ (g : Int) = 2 ∨ (g : Int) = 3 ∨ (g : Int) = 4 := by omega
        rcases this with q | q | q | q <;> rw [q] at hx2 <;> omega
      obtain ⟨z, f, h0, h3, h1, h2⟩ := both_l0 g (by omega) (y.length : Int) x hx3 y hy x.length 0 [] (by omega) rfl
      refine ⟨g, z, f, true, by omega, by omega, Ev.bind s (ev_pos rfl (ev_neg e (Ev.bind (a := ((g : Int), z, f)) ?_ (Ev.now _)))), ev_pos rfl ?_⟩
      · unfold spec_l27Complement.f
        exact h1
      · have e2 : ((y.length : Int) == 80) = false := by simp [e]
        rw [e2]
        exact Ev.step (fun k => by simp only [impl_ComplementOf.j0]; rw [if_neg (by decide)]; rfl) h2
theorem FnExactComplementOf : ∀ (a0_0 : Int) (l0_1 : List Int) (l0_2 : List Bool), (Lit.int .i64 a0_0).wf = true → l0_1.length ≤ 9223372036854775807 → (∀ x ∈ l0_1, (fun x : Int => (Lit.int .i64 x).wf = true) x) → l0_2.length ≤ 9223372036854775807 → (∀ x ∈ l0_2, (fun _ : Bool => True) x) → ∃ k, PFnExactComplementOf.laws_FnExactComplementOf.f k a0_0 l0_1 l0_2 = some true := by
  intro n x y _ hx _ hy _
  have : Ev (fun k => laws_FnExactComplementOf.f k n x y) true := by
    unfold laws_FnExactComplementOf.f
    obtain ⟨r, h1, h2⟩ := szAutomaton_cases n x y 1048576 (by omega) hx (by omega)
    rw [h1]
    simp only [bsome]
    by_cases hr : r < 0
    · exact ev_pos hr (Ev.now _)
    · have hx' : x.length ≤ 1048576 := by omega
      have hy' : y.length ≤ 1048576 := by omega
      obtain ⟨g, z, f, o, hz, hf, s, i⟩ := both n x y hx' hy'
      have t := toAutomaton_ev n x y hx' hy'
      have e0 := eqAutomaton_ev n x y hx' hy'
      have e1 := eqAutomaton_ev g z f hz hf
      obtain ⟨m1, x1, y1, p1, k1, _⟩ := markAutomaton_ev n x y hx' hy'
      obtain ⟨m2, x2, y2, p2, k2, k3⟩ := markAutomaton_ev g z f hz hf
      refine ev_neg hr (Ev.bind t (Ev.bind s (Ev.bind t (Ev.bind i (Ev.bind e1 (ev_pos rfl ?_))))))
      refine Ev.step (fun k => by simp only [laws_FnExactComplementOf.j0, bne_self_eq_false]; rw [if_neg (by decide)]) ?_
      refine Ev.bind t (Ev.bind e0 (ev_pos rfl (Ev.bind k1 (ev_neg (by omega) (Ev.bind e1 (ev_pos rfl ?_))))))
      refine Ev.step (fun k => by simp only [laws_FnExactComplementOf.j1]; rw [if_neg (by decide)]) ?_
      refine Ev.bind k2 (Ev.bind k3 (ev_neg (by omega) (ev_pos rfl (Ev.bind t (Ev.bind i (Ev.bind e1 (ev_pos rfl ?_)))))))
      refine Ev.step (fun k => by simp only [laws_FnExactComplementOf.j2, bne_self_eq_false]; rw [if_neg (by decide)]) ?_
      exact Ev.bind k3 (ev_neg (by omega) (ev_pos rfl (Ev.now _)))
  exact this.rounds

end Go.Proofs.Ytajacklnhfjmpab.Pure
