/- The plain statement of the law FnExactIsSymmetric: what the printed functions come to is true at every input of the kinds stated. No conditions beyond those of the printed statement. -/
import Derived.Test.YtajacklnhfjmpaaPFnExactIsSymmetricx0
import Derived.Test.YtajacklnhfjmpaaPFnExactIsSymmetricx7
import Derived.Laws.StructEq
import Derived.Test.YtajacklnhfjmpaaBase
import Derived.Test.YtajacklnhfjmpaaPlain
import Derived.Laws.StructEq
namespace Go.Proofs.Ytajacklnhfjmpaa.Pure
open Go.RowKit Go.Proofs.Ytajacklnhfjmpaa.PFnExactIsSymmetric Go.Proofs.YtajacklnhfjmpaaW.PrintWords Go.Proofs.YtajacklnhfjmpaaW.PrintLast Go.Proofs.Ytajacklnhfjmpaa.Base
set_option linter.unusedVariables false
set_option linter.unusedSimpArgs false

/-! ### reading a row -/
theorem rd_nat (l : List Int) (i : Nat) (h : i < l.length) : rd l (i : Int) = l[i] := by
  simp [rd, List.getD_eq_getElem?_getD, h]
theorem drop_ints (l : List Int) (i : Nat) (h : i < l.length) : l.drop i = rd l (i : Int) :: l.drop (i + 1) := by
  rw [List.drop_eq_getElem_cons h, rd_nat l i h]
theorem set_take {α : Type} (x y : List α) (i : Nat) (d : α) (hi : i < x.length) (hl : y.length = x.length) (h : y.take i = x.take i) : (y.set i (x.getD i d)).take (i + 1) = x.take (i + 1) := by
  rw [List.take_succ_eq_append_getElem (by simp; omega), List.take_succ_eq_append_getElem hi, List.take_set_of_le (Nat.le_refl i), h]
  simp [List.getD_eq_getElem?_getD, hi]
theorem wsucc {i : Nat} {n : Nat} (h : i < n) (hn : n ≤ 140737488351232) : wrap64 ((i : Int) + 1) = ((i + 1 : Nat) : Int) := by rw [w64 (by omega) (by omega)]; simp

theorem allWithin_eq (l : List Int) (a b : Int) : impl_allWithin.f l a b = some (l.all fun x => decide (a ≤ x) && decide (x ≤ b)) := by
  unfold impl_allWithin.f
  rw [List.not_any_eq_all_not]
  simp

theorem eqIntS_l0 (x : List Int) (hx : x.length ≤ 35184372088832) : ∀ (d i : Nat), i + d = x.length → Ev (fun k => laws_eqIntS.l0 k x x (i : Int)) true := by
  intro d
  induction d with
  | zero =>
    intro i hi
    exact Ev.step (f := fun _ => some true) (fun n => by simp only [laws_eqIntS.l0]; rw [if_neg (by omega)]) (Ev.now _)
  | succ d ih =>
    intro i hi
    refine Ev.step (f := fun k => laws_eqIntS.l0 k x x ((i + 1 : Nat) : Int)) (fun n => ?_) (ih (i + 1) (by omega))
    simp only [laws_eqIntS.l0]
    rw [if_pos (by omega), if_pos (by omega), if_pos (by omega), if_pos (by first | rfl | trivial), wsucc (n := x.length) (by omega) (by omega)]
theorem eqIntS_ev (x : List Int) (hx : x.length ≤ 35184372088832) : Ev (fun k => laws_eqIntS.f k x x) true := by
  unfold laws_eqIntS.f
  refine ev_pos rfl ?_
  exact eqIntS_l0 x hx x.length 0 (by omega)

theorem spec_l01In_eq (a b c : Int) : spec_l01In.f a b c = some (decide (b ≤ a) && decide (a ≤ c)) := by
  unfold spec_l01In.f
  by_cases h : b ≤ a <;> simp [h]

theorem impl_within_eq (a b c : Int) : impl_within.f a b c = some (decide (b ≤ a) && decide (a ≤ c)) := by
  unfold impl_within.f
  by_cases h : b ≤ a <;> simp [h]

section
variable {m : Nat} {p : List Int}
theorem spec_TableOk_l3 (hm : 1 ≤ m ∧ m ≤ 40) (hl : (p.length : Int) = (m : Int) * m) (hp : ∀ x ∈ p, 0 ≤ x ∧ x ≤ (m : Int) - 1) (a b : Nat) (ha : a < m) (hb : b < m) (r : Bool)
    (h : Ev (fun k => spec_TableOk.l2 k (m : Int) (a : Int) ((b + 1 : Nat) : Int) (m : Int) p) r) : ∀ (d c : Nat), c + d = m → Ev (fun k => spec_TableOk.l3 k (m : Int) (a : Int) (b : Int) (c : Int) (m : Int) p) (allFrom (fun c => assocB m p a b c) c d && r) := by
  intro d
  induction d with
  | zero =>
    intro c hc
    rw [allFrom, Bool.true_and]
    exact Ev.step (f := fun k => spec_TableOk.l2 k (m : Int) (a : Int) ((b + 1 : Nat) : Int) (m : Int) p) (fun k => by simp only [spec_TableOk.l3]; rw [if_neg (by omega), wsucc (n := m) (by omega) (by omega)]) h
  | succ d ih =>
    intro c hc
    have hn : (1 : Int) ≤ m ∧ (m : Int) ≤ 40 := by omega
    have Ir1 := T_idx (a := (a : Int)) (b := (b : Int)) hn hl (by omega) (by omega)
    have t1 := T_range (a := (a : Int)) (b := (b : Int)) hn hl hp (by omega) (by omega)
    have Ir2 := T_idx (b := (c : Int)) hn hl t1 (by omega)
    have Ir3 := T_idx (a := (b : Int)) (b := (c : Int)) hn hl (by omega) (by omega)
    have t3 := T_range (a := (b : Int)) (b := (c : Int)) hn hl hp (by omega) (by omega)
    have Ir4 := T_idx (a := (a : Int)) hn hl (by omega) t3
    rw [allFrom]
    cases hA : assocB m p a b c with
    | false =>
      rw [Bool.false_and, Bool.false_and]
      have hne : ¬ T m p (T m p a b) c = T m p a (T m p b c) := by simpa [assocB] using hA
      refine Ev.step (f := fun _ => some false) (fun k => ?_) (Ev.now _)
      simp only [spec_TableOk.l3, Ir1.r, Ir2.r, Ir3.r, Ir4.r]
      rw [if_pos (by omega), if_pos Ir1.g, if_pos Ir1.g', if_pos Ir2.g, if_pos Ir2.g', if_pos Ir3.g, if_pos Ir3.g', if_pos Ir4.g, if_pos Ir4.g', if_neg hne]
    | true =>
      rw [Bool.true_and]
      have heq : T m p (T m p a b) c = T m p a (T m p b c) := by simpa [assocB] using hA
      refine Ev.step (f := fun k => spec_TableOk.l3 k (m : Int) (a : Int) (b : Int) ((c + 1 : Nat) : Int) (m : Int) p) (fun k => ?_) (ih (c + 1) (by omega))
      simp only [spec_TableOk.l3, Ir1.r, Ir2.r, Ir3.r, Ir4.r]
      rw [if_pos (by omega), if_pos Ir1.g, if_pos Ir1.g', if_pos Ir2.g, if_pos Ir2.g', if_pos Ir3.g, if_pos Ir3.g', if_pos Ir4.g, if_pos Ir4.g', if_pos heq, wsucc (n := m) (by omega) (by omega)]
theorem spec_TableOk_l2 (hm : 1 ≤ m ∧ m ≤ 40) (hl : (p.length : Int) = (m : Int) * m) (hp : ∀ x ∈ p, 0 ≤ x ∧ x ≤ (m : Int) - 1) (a : Nat) (ha : a < m) (r : Bool)
    (h : Ev (fun k => spec_TableOk.l1 k (m : Int) ((a + 1 : Nat) : Int) (m : Int) p) r) : ∀ (d b : Nat), b + d = m → Ev (fun k => spec_TableOk.l2 k (m : Int) (a : Int) (b : Int) (m : Int) p) (allFrom (fun b => allFrom (fun c => assocB m p a b c) 0 m) b d && r) := by
  intro d
  induction d with
  | zero =>
    intro b hb
    rw [allFrom, Bool.true_and]
    exact Ev.step (f := fun k => spec_TableOk.l1 k (m : Int) ((a + 1 : Nat) : Int) (m : Int) p) (fun k => by simp only [spec_TableOk.l2]; rw [if_neg (by omega), wsucc (n := m) (by omega) (by omega)]) h
  | succ d ih =>
    intro b hb
    rw [allFrom, Bool.and_assoc]
    refine Ev.step (f := fun k => spec_TableOk.l3 k (m : Int) (a : Int) (b : Int) 0 (m : Int) p) (fun k => by simp only [spec_TableOk.l2]; rw [if_pos (by omega)]) ?_
    exact spec_TableOk_l3 hm hl hp a b ha (by omega) _ (ih (b + 1) (by omega)) m 0 (by omega)
theorem spec_TableOk_l1 (hm : 1 ≤ m ∧ m ≤ 40) (hl : (p.length : Int) = (m : Int) * m) (hp : ∀ x ∈ p, 0 ≤ x ∧ x ≤ (m : Int) - 1) : ∀ (d a : Nat), a + d = m → Ev (fun k => spec_TableOk.l1 k (m : Int) (a : Int) (m : Int) p) (allFrom (fun a => unitB m p a && allFrom (fun b => allFrom (fun c => assocB m p a b c) 0 m) 0 m) a d) := by
  intro d
  induction d with
  | zero =>
    intro a ha
    rw [allFrom]
    exact Ev.step (f := fun k => some true) (fun k => by simp only [spec_TableOk.l1]; rw [if_neg (by omega)]) (Ev.now _)
  | succ d ih =>
    intro a ha
    have hn : (1 : Int) ≤ m ∧ (m : Int) ≤ 40 := by omega
    have I1 := T_idx (a := 0) (b := (a : Int)) hn hl (by omega) (by omega)
    have I2 := T_idx (a := (a : Int)) (b := 0) hn hl (by omega) (by omega)
    have e1 : wrap64 (wrap64 (0 * (m : Int)) + (a : Int)) = (a : Int) := by rw [I1.e2]; omega
    have e2 : wrap64 (wrap64 ((a : Int) * (m : Int)) + 0) = wrap64 ((a : Int) * m) := by rw [I2.e2, I2.e1]; omega
    have r1 := I1.r
    have g1 := Aside0.mk I1.g
    have g1' := Aside0.mk I1.g'
    have r2 := I2.r
    have g2 := Aside0.mk I2.g
    have g2' := Aside0.mk I2.g'
    rw [e1] at r1 g1 g1'
    rw [e2] at r2 g2 g2'
    clear e1 e2
    rw [allFrom, Bool.and_assoc]
    have hstep : Ev (fun k => spec_TableOk.j3 k (m : Int) (a : Int) (!(unitB m p a)) (m : Int) p) (unitB m p a && (allFrom (fun b => allFrom (fun c => assocB m p a b c) 0 m) 0 m && allFrom (fun a => unitB m p a && allFrom (fun b => allFrom (fun c => assocB m p a b c) 0 m) 0 m) (a + 1) d)) := by
      cases unitB m p a with
      | false => exact Ev.step (f := fun _ => some false) (fun k => by simp [spec_TableOk.j3]) (Ev.now _)
      | true =>
        rw [Bool.true_and]
        exact Ev.step (f := fun k => spec_TableOk.l2 k (m : Int) (a : Int) 0 (m : Int) p) (fun k => by simp [spec_TableOk.j3]) (spec_TableOk_l2 hm hl hp a (by omega) _ (ih (a + 1) (by omega)) m 0 (by omega))
    refine Ev.step (fun k => ?_) hstep
    simp only [spec_TableOk.l1, r1, r2]
    rw [if_pos (by omega), if_pos g1.out, if_pos g1'.out]
    by_cases h1 : T m p 0 a = (a : Int)
    · rw [if_pos h1, if_pos g2.out, if_pos g2'.out]
      congr 1
      simp [unitB, h1, bne, int_beq]
    · rw [if_neg h1]
      congr 1
      simp [unitB, h1]
theorem spec_TableOk_l0 (hm : 1 ≤ m ∧ m ≤ 40) (hl : (p.length : Int) = (m : Int) * m) (r : Bool) (h : (∀ x ∈ p, 0 ≤ x ∧ x ≤ (m : Int) - 1) → Ev (fun k => spec_TableOk.l1 k (m : Int) 0 (m : Int) p) r) :
    ∀ (d i : Nat), i + d = p.length → (∀ j, j < i → ∀ x, p[j]? = some x → 0 ≤ x ∧ x ≤ (m : Int) - 1) → Ev (fun k => spec_TableOk.l0 k (m : Int) p (p.length : Int) (i : Int) (m : Int) p) (((p.drop i).all fun x => decide (0 ≤ x) && decide (x ≤ (m : Int) - 1)) && r) := by
  have hlen : p.length ≤ 1600 := by
    have : (m : Int) * m ≤ 40 * 40 := Int.mul_le_mul (by omega) (by omega) (by omega) (by omega)
    omega
  intro d
  induction d with
  | zero =>
    intro i hi hb
    rw [List.drop_of_length_le (by omega), List.all_nil, Bool.true_and]
    refine Ev.step (f := fun k => spec_TableOk.l1 k (m : Int) 0 (m : Int) p) (fun k => by simp only [spec_TableOk.l0]; rw [if_neg (by omega)]) (h ?_)
    intro x hx
    obtain ⟨j, hj⟩ := List.getElem?_of_mem hx
    exact hb j (by have := (List.getElem?_eq_some_iff.1 hj).1; omega) x hj
  | succ d ih =>
    intro i hi hb
    rw [drop_ints p i (by omega), List.all_cons]
    have e : spec_l01In.f (rd p i) 0 (wrap64 ((m : Int) - 1)) = some (decide (0 ≤ rd p i) && decide (rd p i ≤ (m : Int) - 1)) := by
      rw [spec_l01In_eq, w64 (by omega) (by omega)]
    cases hq : (decide (0 ≤ rd p i) && decide (rd p i ≤ (m : Int) - 1)) with
    | false =>
      rw [hq] at e
      rw [Bool.false_and, Bool.false_and]
      exact Ev.step (f := fun _ => some false) (fun k => by simp only [spec_TableOk.l0]; rw [if_pos (by omega), if_pos (by omega), if_pos (by omega), e]; simp) (Ev.now _)
    | true =>
      rw [hq] at e
      rw [Bool.true_and]
      refine Ev.step (f := fun k => spec_TableOk.l0 k (m : Int) p (p.length : Int) ((i + 1 : Nat) : Int) (m : Int) p) (fun k => by simp only [spec_TableOk.l0]; rw [if_pos (by omega), if_pos (by omega), if_pos (by omega), e, wsucc (n := p.length) (by omega) (by omega)]; simp) (ih (i + 1) (by omega) ?_)
      intro j hj x hx
      by_cases e2 : j = i
      · subst e2
        have hx2 : rd p j = x := by rw [rd_nat p j (by omega)]; rw [List.getElem?_eq_getElem (by omega)] at hx; injection hx
        rw [hx2] at hq
        simpa using hq
      · exact hb j (by omega) x hx
end
theorem spec_TableOk_ev (n : Int) (p : List Int) (hp : p.length ≤ 1048576) : Ev (fun k => spec_TableOk.f k n p) (tableOk n p) := by
  unfold spec_TableOk.f tableOk
  simp only [spec_l01In_eq, bsome]
  by_cases h1 : 1 ≤ n ∧ n ≤ 40
  · rw [dec_and_true h1]
    obtain ⟨m, rfl⟩ : ∃ m : Nat, n = m := ⟨n.toNat, by omega⟩
    have hb := mul_bounds h1 (a := (m : Int) - 1) (b := 0) (by omega) (by omega)
    have hb2 : ((m : Int) - 1) * m = (m : Int) * m - m := by rw [Int.sub_mul, Int.one_mul]
    rw [w64 (x := (m : Int) * m) (by omega) (by omega), Int.toNat_natCast]
    simp only [if_true, Bool.true_and]
    by_cases h2 : (p.length : Int) = (m : Int) * m
    · have e4 : ((p.length : Int) != (m : Int) * m) = false := by simp [h2]
      rw [e4, decide_eq_true h2, Bool.true_and]
      refine Ev.step (f := fun k => spec_TableOk.l0 k (m : Int) p (p.length : Int) 0 (m : Int) p) (fun k => by simp [spec_TableOk.j0]) ?_
      exact spec_TableOk_l0 (by omega) h2 _ (fun hp => spec_TableOk_l1 (by omega) h2 hp m 0 (by omega)) p.length 0 (by omega) (by omega)
    · have e4 : ((p.length : Int) != (m : Int) * m) = true := by simp [h2]
      rw [e4, decide_eq_false h2, Bool.false_and]
      exact Ev.step (f := fun k => some false) (fun k => by simp [spec_TableOk.j0]) (Ev.now _)
  · rw [dec_and_false h1, Bool.false_and]
    simp only [if_neg (show ¬ (false = true) by decide)]
    exact Ev.step (f := fun k => some false) (fun k => by simp [spec_TableOk.j0]) (Ev.now _)

theorem impl_times_eq {n a b : Int} {p : List Int} (hn : 1 ≤ n ∧ n ≤ 40) (hl : (p.length : Int) = n * n) (ha : 0 ≤ a ∧ a < n) (hb : 0 ≤ b ∧ b < n) : impl_Table_times.f n p a b = some (T n p a b) := by
  have I := T_idx hn hl ha hb
  unfold impl_Table_times.f
  rw [if_pos I.g, if_pos I.g', I.r]
section
variable {m : Nat} {p : List Int}
theorem impl_TableOk_l2 (hm : 1 ≤ m ∧ m ≤ 40) (hl : (p.length : Int) = (m : Int) * m) (hp : ∀ x ∈ p, 0 ≤ x ∧ x ≤ (m : Int) - 1) (a b : Nat) (ha : a < m) (hb : b < m) (r : Bool)
    (h : Ev (fun k => impl_TableOk.l1 k (a : Int) (m : Int) (a : Int) (m : Int) ((b + 1 : Nat) : Int) (m : Int) p) r) : ∀ (d c : Nat), c + d = m → Ev (fun k => impl_TableOk.l2 k (a : Int) (b : Int) (m : Int) (a : Int) (m : Int) (b : Int) (m : Int) (c : Int) (m : Int) p) (allFrom (fun c => assocB m p a b c) c d && r) := by
  intro d
  induction d with
  | zero =>
    intro c hc
    rw [allFrom, Bool.true_and]
    exact Ev.step (fun k => by simp only [impl_TableOk.l2]; rw [if_neg (by omega), wsucc (n := m) (by omega) (by omega)]) h
  | succ d ih =>
    intro c hc
    have hn : (1 : Int) ≤ m ∧ (m : Int) ≤ 40 := by omega
    have t1 := T_range (a := (a : Int)) (b := (b : Int)) hn hl hp (by omega) (by omega)
    have t3 := T_range (a := (b : Int)) (b := (c : Int)) hn hl hp (by omega) (by omega)
    have r1 := impl_times_eq (a := (a : Int)) (b := (b : Int)) hn hl (by omega) (by omega)
    have r2 := impl_times_eq (b := (c : Int)) hn hl t1 (by omega)
    have r3 := impl_times_eq (a := (b : Int)) (b := (c : Int)) hn hl (by omega) (by omega)
    have r4 := impl_times_eq (a := (a : Int)) hn hl (by omega) t3
    rw [allFrom]
    cases hA : assocB m p a b c with
    | false =>
      rw [Bool.false_and, Bool.false_and]
      have hne : ¬ T m p (T m p a b) c = T m p a (T m p b c) := by simpa [assocB] using hA
      refine Ev.step (f := fun _ => some false) (fun k => ?_) (Ev.now _)
      simp only [impl_TableOk.l2, r1, r2, r3, r4, bsome]
      rw [if_pos (by omega), if_neg hne]
    | true =>
      rw [Bool.true_and]
      have heq : T m p (T m p a b) c = T m p a (T m p b c) := by simpa [assocB] using hA
      refine Ev.step (fun k => ?_) (ih (c + 1) (by omega))
      simp only [impl_TableOk.l2, r1, r2, r3, r4, bsome]
      rw [if_pos (by omega), if_pos heq, wsucc (n := m) (by omega) (by omega)]
theorem impl_TableOk_l1 (hm : 1 ≤ m ∧ m ≤ 40) (hl : (p.length : Int) = (m : Int) * m) (hp : ∀ x ∈ p, 0 ≤ x ∧ x ≤ (m : Int) - 1) (a : Nat) (ha : a < m) (r : Bool)
    (h : Ev (fun k => impl_TableOk.l0 k (m : Int) ((a + 1 : Nat) : Int) (m : Int) p) r) : ∀ (d b : Nat), b + d = m → Ev (fun k => impl_TableOk.l1 k (a : Int) (m : Int) (a : Int) (m : Int) (b : Int) (m : Int) p) (allFrom (fun b => allFrom (fun c => assocB m p a b c) 0 m) b d && r) := by
  intro d
  induction d with
  | zero =>
    intro b hb
    rw [allFrom, Bool.true_and]
    exact Ev.step (fun k => by simp only [impl_TableOk.l1]; rw [if_neg (by omega), wsucc (n := m) (by omega) (by omega)]) h
  | succ d ih =>
    intro b hb
    rw [allFrom, Bool.and_assoc]
    refine Ev.step (fun k => by simp only [impl_TableOk.l1]; rw [if_pos (by omega)]) ?_
    exact impl_TableOk_l2 hm hl hp a b ha (by omega) _ (ih (b + 1) (by omega)) m 0 (by omega)
theorem impl_TableOk_l0 (hm : 1 ≤ m ∧ m ≤ 40) (hl : (p.length : Int) = (m : Int) * m) (hp : ∀ x ∈ p, 0 ≤ x ∧ x ≤ (m : Int) - 1) : ∀ (d a : Nat), a + d = m → Ev (fun k => impl_TableOk.l0 k (m : Int) (a : Int) (m : Int) p) (allFrom (fun a => unitB m p a && allFrom (fun b => allFrom (fun c => assocB m p a b c) 0 m) 0 m) a d) := by
  intro d
  induction d with
  | zero =>
    intro a ha
    rw [allFrom]
    exact Ev.step (f := fun k => some true) (fun k => by simp only [impl_TableOk.l0]; rw [if_neg (by omega)]) (Ev.now _)
  | succ d ih =>
    intro a ha
    have hn : (1 : Int) ≤ m ∧ (m : Int) ≤ 40 := by omega
    have r1 := impl_times_eq (a := 0) (b := (a : Int)) hn hl (by omega) (by omega)
    have r2 := impl_times_eq (a := (a : Int)) (b := 0) hn hl (by omega) (by omega)
    rw [allFrom, Bool.and_assoc]
    have hstep : Ev (fun k => impl_TableOk.j2 k (a : Int) (m : Int) (a : Int) (!(unitB m p a)) (m : Int) p) (unitB m p a && (allFrom (fun b => allFrom (fun c => assocB m p a b c) 0 m) 0 m && allFrom (fun a => unitB m p a && allFrom (fun b => allFrom (fun c => assocB m p a b c) 0 m) 0 m) (a + 1) d)) := by
      cases unitB m p a with
      | false => exact Ev.step (f := fun _ => some false) (fun k => by simp [impl_TableOk.j2]) (Ev.now _)
      | true =>
        rw [Bool.true_and]
        exact Ev.step (f := fun k => impl_TableOk.l1 k (a : Int) (m : Int) (a : Int) (m : Int) 0 (m : Int) p) (fun k => by simp [impl_TableOk.j2]) (impl_TableOk_l1 hm hl hp a (by omega) _ (ih (a + 1) (by omega)) m 0 (by omega))
    refine Ev.step (fun k => ?_) hstep
    simp only [impl_TableOk.l0, r1, r2, bsome]
    rw [if_pos (by omega)]
    by_cases h1 : T m p 0 a = (a : Int)
    · rw [if_pos h1]
      congr 1
      simp [unitB, h1, bne, int_beq]
    · rw [if_neg h1]
      congr 1
      simp [unitB, h1]
end
theorem impl_TableOk_ev (n : Int) (p : List Int) (hp : p.length ≤ 1048576) : Ev (fun k => impl_TableOk.f k n p) (tableOk n p) := by
  unfold impl_TableOk.f tableOk
  simp only [impl_within_eq, allWithin_eq, bsome]
  by_cases h1 : 1 ≤ n ∧ n ≤ 40
  · rw [dec_and_true h1]
    obtain ⟨m, rfl⟩ : ∃ m : Nat, n = m := ⟨n.toNat, by omega⟩
    have hb := mul_bounds h1 (a := (m : Int) - 1) (b := 0) (by omega) (by omega)
    have hb2 : ((m : Int) - 1) * m = (m : Int) * m - m := by rw [Int.sub_mul, Int.one_mul]
    rw [w64 (x := (m : Int) * m) (by omega) (by omega), w64 (x := (m : Int) - 1) (by omega) (by omega), Int.toNat_natCast]
    simp only [if_true, Bool.true_and]
    by_cases h2 : (p.length : Int) = (m : Int) * m
    · rw [decide_eq_true h2, Bool.true_and]
      refine ev_pos h2 ?_
      cases hq : (p.all fun x => decide (0 ≤ x) && decide (x ≤ (m : Int) - 1)) with
      | false =>
        rw [Bool.false_and]
        exact Ev.step (f := fun k => some false) (fun k => by simp [impl_TableOk.j0]) (Ev.now _)
      | true =>
        rw [Bool.true_and]
        refine Ev.step (f := fun k => impl_TableOk.l0 k (m : Int) 0 (m : Int) p) (fun k => by simp [impl_TableOk.j0]) ?_
        refine impl_TableOk_l0 (by omega) h2 ?_ m 0 (by omega)
        intro x hx
        have := List.all_eq_true.1 hq x hx
        simpa using this
    · rw [decide_eq_false h2, Bool.false_and]
      refine ev_neg h2 ?_
      exact Ev.step (f := fun k => some false) (fun k => by simp [impl_TableOk.j0]) (Ev.now _)
  · rw [dec_and_false h1, Bool.false_and]
    simp only [if_neg (show ¬ (false = true) by decide)]
    exact Ev.step (f := fun k => some false) (fun k => by simp [impl_TableOk.j0]) (Ev.now _)

/-! ### images in a table -/
def imagesOk (n : Int) (p l : List Int) : Bool := tableOk n p && ((decide (1 ≤ (l.length : Int)) && decide ((l.length : Int) ≤ 4)) && l.all fun x => decide (0 ≤ x) && decide (x ≤ n - 1))
theorem imagesOk_true {n : Int} {p l : List Int} (h : imagesOk n p l = true) : tableOk n p = true ∧ (1 ≤ l.length ∧ l.length ≤ 4) ∧ ∀ x ∈ l, 0 ≤ x ∧ x ≤ n - 1 := by
  simp only [imagesOk, Bool.and_eq_true, decide_eq_true_eq, List.all_eq_true] at h
  exact ⟨h.1, ⟨by omega, by omega⟩, h.2.2⟩
theorem spec_ImagesOk_l0 {n : Int} (hn : 1 ≤ n ∧ n ≤ 40) (p l : List Int) (hl : l.length ≤ 4) : ∀ (d i : Nat), i + d = l.length → Ev (fun k => spec_ImagesOk.l0 k l (l.length : Int) (i : Int) n p) ((l.drop i).all fun x => decide (0 ≤ x) && decide (x ≤ n - 1)) := by
  intro d
  induction d with
  | zero =>
    intro i hi
    rw [List.drop_of_length_le (by omega), List.all_nil]
    exact Ev.step (f := fun _ => some true) (fun k => by simp only [spec_ImagesOk.l0]; rw [if_neg (by omega)]) (Ev.now _)
  | succ d ih =>
    intro i hi
    rw [drop_ints l i (by omega), List.all_cons]
    have e : spec_l01In.f (rd l i) 0 (wrap64 (n - 1)) = some (decide (0 ≤ rd l i) && decide (rd l i ≤ n - 1)) := by
      rw [spec_l01In_eq, w64 (by omega) (by omega)]
    cases hq : (decide (0 ≤ rd l i) && decide (rd l i ≤ n - 1)) with
    | false =>
      rw [hq] at e
      rw [Bool.false_and]
      exact Ev.step (f := fun _ => some false) (fun k => by simp only [spec_ImagesOk.l0]; rw [if_pos (by omega), if_pos (by omega), if_pos (by omega), e]; simp) (Ev.now _)
    | true =>
      rw [hq] at e
      rw [Bool.true_and]
      exact Ev.step (fun k => by simp only [spec_ImagesOk.l0]; rw [if_pos (by omega), if_pos (by omega), if_pos (by omega), e, wsucc (n := l.length) (by omega) (by omega)]; simp) (ih (i + 1) (by omega))
theorem spec_ImagesOk_ev (n : Int) (p l : List Int) (hp : p.length ≤ 1048576) : Ev (fun k => spec_ImagesOk.f k n p l) (imagesOk n p l) := by
  unfold spec_ImagesOk.f imagesOk
  have s := spec_TableOk_ev n p hp
  have bad : Ev (fun k => spec_ImagesOk.j0 k l true n p) false := Ev.step (f := fun _ => some false) (fun k => by simp [spec_ImagesOk.j0]) (Ev.now _)
  cases ht : tableOk n p with
  | false => rw [ht] at s; exact Ev.bind s (ev_neg (by decide) bad)
  | true =>
    rw [ht] at s
    obtain ⟨hn, _, _⟩ := tableOk_true ht
    refine Ev.bind s (ev_pos rfl ?_)
    simp only [spec_l01In_eq, bsome]
    cases hc : (decide (1 ≤ (l.length : Int)) && decide ((l.length : Int) ≤ 4)) with
    | false => exact bad
    | true =>
      simp only [Bool.and_eq_true, decide_eq_true_eq] at hc
      exact Ev.step (f := fun k => spec_ImagesOk.l0 k l (l.length : Int) 0 n p) (fun k => by simp [spec_ImagesOk.j0]) (spec_ImagesOk_l0 hn p l (by omega) l.length 0 (by omega))
theorem impl_ImagesOk_ev (n : Int) (p l : List Int) (hp : p.length ≤ 1048576) : Ev (fun k => impl_ImagesOk.f k n p l) (imagesOk n p l) := by
  unfold impl_ImagesOk.f imagesOk
  have s := impl_TableOk_ev n p hp
  cases ht : tableOk n p with
  | false => rw [ht] at s; exact Ev.bind s (ev_neg (by decide) (Ev.now _))
  | true =>
    rw [ht] at s
    obtain ⟨hn, _, _⟩ := tableOk_true ht
    refine Ev.bind s (ev_pos rfl ?_)
    simp only [impl_within_eq, allWithin_eq, bsome]
    rw [w64 (x := n - 1) (by omega) (by omega)]
    cases hc : (decide (1 ≤ (l.length : Int)) && decide ((l.length : Int) ≤ 4)) with
    | false => exact ev_neg (by decide) (Ev.now _)
    | true => exact ev_pos rfl (Ev.now _)

theorem toIntS_l0 (x : List Int) (hx : x.length ≤ 35184372088832) : ∀ (d i : Nat) (y : List Int), i + d = x.length → y.length = x.length → y.take i = x.take i → Ev (fun k => laws_toIntS.l0 k x y (i : Int)) x := by
  intro d
  induction d with
  | zero =>
    intro i y hi hl ht
    have : y = x := by
      rw [List.take_of_length_le (by omega), List.take_of_length_le (by omega)] at ht
      exact ht
    rw [this]
    exact Ev.step (f := fun _ => some x) (fun n => by simp only [laws_toIntS.l0]; rw [if_neg (by omega)]) (Ev.now _)
  | succ d ih =>
    intro i y hi hl ht
    refine Ev.step (f := fun k => laws_toIntS.l0 k x (y.set i (rd x i)) ((i + 1 : Nat) : Int)) (fun n => ?_) (ih (i + 1) _ (by omega) (by simp; omega) (set_take x y i 0 (by omega) hl ht))
    simp only [laws_toIntS.l0]
    rw [if_pos (by omega), if_pos (by omega), if_pos (by omega), wsucc (n := x.length) (by omega) (by omega), Int.toNat_natCast]
theorem toIntS_ev (x : List Int) (hx : x.length ≤ 35184372088832) : Ev (fun k => laws_toIntS.f k x) x := by
  unfold laws_toIntS.f
  refine ev_pos (by omega) (ev_pos (by omega) ?_)
  exact toIntS_l0 x hx x.length 0 _ (by omega) (by simp) (by simp)

theorem szTable_cases (n : Int) (x : List Int) (left : Int) (hl : 0 ≤ left ∧ left ≤ 1048576) (hx : x.length ≤ 9223372036854775807) :
    ∃ r, laws_szTable.f n x left = some r ∧ (r < 0 ∨ (x.length ≤ left ∧ r = left - x.length)) := by
  unfold laws_szTable.f laws_szIntS.f
  rw [w64 (by omega) (by omega)]
  by_cases h1 : left - (x.length : Int) < 0
  · exact ⟨-1, by simp [h1], .inl (by omega)⟩
  · exact ⟨left - (x.length : Int), by simp [h1], .inr ⟨by omega, rfl⟩⟩
theorem toTable_ev (n : Int) (x : List Int) (hx : x.length ≤ 1048576) : Ev (fun k => laws_toTable.f k n x) (n, x) := by
  unfold laws_toTable.f
  exact Ev.bind (toIntS_ev x (by omega)) (Ev.now _)
theorem eqTable_ev (n : Int) (x : List Int) (hx : x.length ≤ 1048576) : Ev (fun k => laws_eqTable.f k n x n x) true := by
  unfold laws_eqTable.f
  exact ev_pos rfl (Ev.bind (eqIntS_ev x (by omega)) (ev_pos rfl (Ev.now _)))

theorem spec_times_eq {n a b : Int} {p : List Int} (hn : 1 ≤ n ∧ n ≤ 40) (hl : (p.length : Int) = n * n) (ha : 0 ≤ a ∧ a < n) (hb : 0 ≤ b ∧ b < n) : spec_l08Times.f n p a b = some (T n p a b) := by
  have I := T_idx hn hl ha hb
  unfold spec_l08Times.f
  rw [if_pos I.g, if_pos I.g', I.r]

theorem all_same (l : List Int) (f g : Int → Bool) (h : ∀ a ∈ l, f a = g a) : l.all f = l.all g := by
  induction l with
  | nil => rfl
  | cons a t ih => rw [List.all_cons, List.all_cons, h a (by simp), ih (fun b hb => h b (by simp [hb]))]
theorem any_same (l : List Int) (f g : Int → Bool) (h : ∀ a ∈ l, f a = g a) : l.any f = l.any g := by
  induction l with
  | nil => rfl
  | cons a t ih => rw [List.any_cons, List.any_cons, h a (by simp), ih (fun b hb => h b (by simp [hb]))]
def symB (n : Int) (p : List Int) (a b : Int) : Bool := decide (T n p a b = 0) && decide (T n p b a = 0)
section
variable {n : Int} {p l : List Int}
theorem spec_l1 (hn : 1 ≤ n ∧ n ≤ 40) (hl : (p.length : Int) = n * n) (hll : l.length ≤ 4) (hlr : ∀ x ∈ l, 0 ≤ x ∧ x ≤ n - 1) (y : Int) (hy : 0 ≤ y ∧ y < n) (v : Nat) (hv : v < l.length) (r : Bool)
    (h : Ev (fun k => spec_IsSymmetric.l0 k l l (l.length : Int) ((v + 1 : Nat) : Int) n p) r) : ∀ (d i : Nat) (f : Bool), i + d = l.length → Ev (fun k => spec_IsSymmetric.l1 k l y f l (l.length : Int) (v : Int) l (l.length : Int) (i : Int) n p) ((f || (l.drop i).any (symB n p y)) && r) := by
  intro d
  induction d with
  | zero =>
    intro i f hi
    rw [List.drop_of_length_le (by omega), List.any_nil, Bool.or_false]
    cases f with
    | true =>
      rw [Bool.true_and]
      exact Ev.step (fun k => by simp only [spec_IsSymmetric.l1]; rw [if_neg (by omega), if_pos (by first | rfl | trivial), wsucc (n := l.length) (by omega) (by omega)]) h
    | false =>
      rw [Bool.false_and]
      exact Ev.step (f := fun _ => some false) (fun k => by simp only [spec_IsSymmetric.l1]; rw [if_neg (by omega), if_neg (by decide)]) (Ev.now _)
  | succ d ih =>
    intro i f hi
    rw [drop_ints l i (by omega), List.any_cons]
    cases f with
    | true =>
      have := ih (i + 1) true (by omega)
      rw [Bool.true_or] at this ⊢
      exact Ev.step (fun k => by simp only [spec_IsSymmetric.l1]; rw [if_pos (by omega), if_pos (by omega), if_pos (by omega), if_pos (by first | rfl | trivial), wsucc (n := l.length) (by omega) (by omega)]) this
    | false =>
      have hx := hlr _ (rd_mem (l := l) (i := (i : Int)) (by omega) (by omega))
      have s1 := spec_times_eq (a := y) (b := rd l (i : Int)) hn hl (by omega) (by omega)
      have s2 := spec_times_eq (a := rd l (i : Int)) (b := y) hn hl (by omega) (by omega)
      rw [Bool.false_or, symB]
      have := ih (i + 1) (decide (T n p y (rd l (i : Int)) = 0) && decide (T n p (rd l (i : Int)) y = 0)) (by omega)
      refine Ev.step (fun k => ?_) this
      simp only [spec_IsSymmetric.l1, s1, s2, bsome]
      rw [if_pos (by omega), if_pos (by omega), if_pos (by omega), if_neg (by decide), wsucc (n := l.length) (by omega) (by omega)]
      by_cases h1 : T n p y (rd l (i : Int)) = 0
      · rw [if_pos h1, decide_eq_true h1, Bool.true_and, int_beq]
      · rw [if_neg h1, decide_eq_false h1, Bool.false_and]
theorem spec_l0 (hn : 1 ≤ n ∧ n ≤ 40) (hl : (p.length : Int) = n * n) (hll : l.length ≤ 4) (hlr : ∀ x ∈ l, 0 ≤ x ∧ x ≤ n - 1) : ∀ (d v : Nat), v + d = l.length → Ev (fun k => spec_IsSymmetric.l0 k l l (l.length : Int) (v : Int) n p) ((l.drop v).all fun a => l.any (symB n p a)) := by
  intro d
  induction d with
  | zero =>
    intro v hv
    rw [List.drop_of_length_le (by omega), List.all_nil]
    exact Ev.step (f := fun _ => some true) (fun k => by simp only [spec_IsSymmetric.l0]; rw [if_neg (by omega)]) (Ev.now _)
  | succ d ih =>
    intro v hv
    rw [drop_ints l v (by omega), List.all_cons]
    have hx := hlr _ (rd_mem (l := l) (i := (v : Int)) (by omega) (by omega))
    have := spec_l1 hn hl hll hlr (rd l (v : Int)) (by omega) v (by omega) _ (ih (v + 1) (by omega)) l.length 0 false (by omega)
    rw [Bool.false_or, List.drop_zero] at this
    exact Ev.step (fun k => by simp only [spec_IsSymmetric.l0]; rw [if_pos (by omega), if_pos (by omega), if_pos (by omega)]; rfl) this
end
theorem both (n : Int) (p l : List Int) (hp : p.length ≤ 1048576) : ∃ r : Bool, Ev (fun k => spec_IsSymmetric.f k n p l) r ∧ Ev (fun k => impl_IsSymmetric.f k n p l) r := by
  unfold spec_IsSymmetric.f impl_IsSymmetric.f
  have s := spec_ImagesOk_ev n p l hp
  have i := impl_ImagesOk_ev n p l hp
  cases h : imagesOk n p l with
  | false =>
    rw [h] at s i
    exact ⟨false, Ev.bind s (ev_neg (by decide) (Ev.now _)), Ev.bind i (ev_neg (by decide) (Ev.now _))⟩
  | true =>
    rw [h] at s i
    obtain ⟨ht, hll, hlr⟩ := imagesOk_true h
    obtain ⟨hn, hpl, _⟩ := tableOk_true ht
    have tm : ∀ a ∈ l, ∀ b ∈ l, impl_Table_times.f n p a b = some (T n p a b) := fun a ha b hb => impl_times_eq hn hpl ⟨(hlr a ha).1, by have := (hlr a ha).2; omega⟩ ⟨(hlr b hb).1, by have := (hlr b hb).2; omega⟩
    have hd : (l.all fun a => l.all fun b => (impl_Table_times.f n p a b).isSome) = true := by
      refine List.all_eq_true.2 fun a ha => List.all_eq_true.2 fun b hb => ?_
      rw [tm a ha b hb]
      rfl
    have he : (l.all fun a => l.any (impl_IsSymmetric.sym n p a)) = (l.all fun a => l.any (symB n p a)) := by
      refine all_same l _ _ fun a ha => any_same l _ _ fun b hb => ?_
      unfold impl_IsSymmetric.sym symB
      rw [tm a ha b hb, tm b hb a ha]
      simp [int_beq]
    refine ⟨l.all fun a => l.any (symB n p a), Ev.bind s (ev_pos rfl ?_), Ev.bind i (ev_pos rfl (ev_pos hd ?_))⟩
    · exact spec_l0 hn hpl (by omega) hlr l.length 0 (by omega)
    · rw [he]
      exact Ev.now _
theorem FnExactIsSymmetric : ∀ (a0_0 : Int) (l0_1 : List Int) (l1 : List Int), (Lit.int .i64 a0_0).wf = true → l0_1.length ≤ 9223372036854775807 → (∀ x ∈ l0_1, (fun x : Int => (Lit.int .i64 x).wf = true) x) → l1.length ≤ 9223372036854775807 → (∀ x ∈ l1, (fun x : Int => (Lit.int .i64 x).wf = true) x) → ∃ k, PFnExactIsSymmetric.laws_FnExactIsSymmetric.f k a0_0 l0_1 l1 = some true := by
  intro n p l _ hpl _ hl _
  have : Ev (fun k => laws_FnExactIsSymmetric.f k n p l) true := by
    unfold laws_FnExactIsSymmetric.f
    by_cases hbig : (l.length : Int) > 1048576
    · exact ev_pos hbig (Ev.now _)
    refine ev_neg hbig ?_
    obtain ⟨r, h1, h2⟩ := szTable_cases n p 1048576 (by omega) hpl
    rw [h1]
    simp only [bsome]
    by_cases hr : r < 0
    · exact ev_pos hr (Ev.now _)
    · have hp' : p.length ≤ 1048576 := by omega
      have hl' : l.length ≤ 1048576 := by omega
      obtain ⟨q, sp, im⟩ := both n p l hp'
      have tp := toTable_ev n p hp'
      have tl := toIntS_ev l (by omega)
      refine ev_neg hr (Ev.bind tp (Ev.bind tl (Ev.bind sp (Ev.bind tp (Ev.bind tl (Ev.bind im ?_))))))
      rw [bne_self_eq_false]
      refine ev_neg (by decide) ?_
      exact Ev.bind tp (Ev.bind (eqTable_ev n p hp') (ev_pos rfl (Ev.bind tl (Ev.bind (eqIntS_ev l (by omega)) (ev_pos rfl (Ev.now _))))))
  exact this.rounds

end Go.Proofs.Ytajacklnhfjmpaa.Pure
