/- The plain statement of the law FnExactCountAccepted: what the printed functions come to is true at every input of the kinds stated. No conditions beyond those of the printed statement. -/
import Derived.Test.YtajacklnhfjmpaaPFnExactCountAcceptedx0
import Derived.Test.YtajacklnhfjmpaaPFnExactCountAcceptedx6
import Derived.Laws.StructEq
import Derived.Laws.StructEq
import Derived.Test.YtajacklnhfjmpaaBase
import Derived.Test.YtajacklnhfjmpaaPlain
import Derived.Laws.StructEq
namespace Go.Proofs.Ytajacklnhfjmpaa.Pure
open Go.RowKit Go.Proofs.Ytajacklnhfjmpaa.PFnExactCountAccepted Go.Proofs.YtajacklnhfjmpaaW.PrintWords Go.Proofs.YtajacklnhfjmpaaW.PrintLast Go.Proofs.Ytajacklnhfjmpaa.Base
set_option linter.unusedVariables false
set_option linter.unusedSimpArgs false

/-! ### reading a row -/
theorem rd_nat (l : List Int) (i : Nat) (h : i < l.length) : rd l (i : Int) = l[i] := by
  simp [rd, List.getD_eq_getElem?_getD, h]
theorem drop_ints (l : List Int) (i : Nat) (h : i < l.length) : l.drop i = rd l (i : Int) :: l.drop (i + 1) := by
  rw [List.drop_eq_getElem_cons h, rd_nat l i h]
theorem set_take {α : Type} (x y : List α) (i : Nat) (d : α) (hi : i < x.length) (hl : y.length = x.length) (h : y.take i = x.take i) : (y.set i (x.getD i d)).take (i + 1) = x.take (i + 1) := by
  rw [List.take_succ_eq_append_getElem (by simp; omega), List.take_succ_eq_append_getElem hi, List.take_set_of_le (Nat.le_refl i), h]
  simp [List.getD_eq_getElem?_getD, hi]
theorem wsucc {i : Nat} {n : Nat} (h : i < n) (hn : n ≤ 140737488351232) : wrap64 ((i : Int) + 1) = ((i + 1 : Nat) : Int) := by rw [w64 (by omega) (by omega)]; simp

theorem allWithin_eq (l : List Int) (a b : Int) : impl_allWithin.f l a b = some (l.all fun x => decide (a ≤ x) && decide (x ≤ b)) := by
  unfold impl_allWithin.f
  rw [List.not_any_eq_all_not]
  simp

theorem spec_l01In_eq (a b c : Int) : spec_l01In.f a b c = some (decide (b ≤ a) && decide (a ≤ c)) := by
  unfold spec_l01In.f
  by_cases h : b ≤ a <;> simp [h]

theorem impl_within_eq (a b c : Int) : impl_within.f a b c = some (decide (b ≤ a) && decide (a ≤ c)) := by
  unfold impl_within.f
  by_cases h : b ≤ a <;> simp [h]

def autOk (n : Int) (x : List Int) (y : List Bool) : Bool :=
  decide (1 ≤ n) && decide (n ≤ 4) && (decide (1 ≤ y.length) && decide (y.length ≤ 80)) && decide ((x.length : Int) = n * y.length) && x.all fun z => decide (-1 ≤ z) && decide (z ≤ (y.length : Int) - 1)
theorem autOk_iff {n : Int} {x : List Int} {y : List Bool} : autOk n x y = true ↔ (1 ≤ n ∧ n ≤ 4) ∧ (1 ≤ y.length ∧ y.length ≤ 80) ∧ (x.length : Int) = n * y.length ∧ ∀ z ∈ x, -1 ≤ z ∧ z ≤ (y.length : Int) - 1 := by
  simp [autOk, and_assoc]
theorem impl_AutomatonOk_eq (n : Int) (x : List Int) (y : List Bool) (hy : y.length ≤ 1048576) : impl_AutomatonOk.f n x y = some (autOk n x y) := by
  unfold impl_AutomatonOk.f autOk
  simp only [impl_within_eq, allWithin_eq, bsome]
  by_cases h1 : 1 ≤ n ∧ n ≤ 4
  · by_cases h2 : 1 ≤ y.length ∧ y.length ≤ 80
    · have e1 : wrap64 (n * (y.length : Int)) = n * (y.length : Int) := by
        have : n = 1 ∨ n = 2 ∨ n = 3 ∨ n = 4 := by omega
        rcases this with rfl | rfl | rfl | rfl <;> rw [w64 (by omega) (by omega)]
      rw [e1, w64 (by omega) (by omega)]
      have e2 : (decide ((1 : Int) ≤ (y.length : Int)) && decide ((y.length : Int) ≤ 80)) = true := dec_and_true (by omega)
      rw [e2]
      by_cases h3 : (x.length : Int) = n * (y.length : Int)
      · simp [h1.1, h1.2, h2.1, h2.2, h3]
      · simp [h1.1, h1.2, h2.1, h2.2, h3]
    · have e2 : (decide ((1 : Int) ≤ (y.length : Int)) && decide ((y.length : Int) ≤ 80)) = false := dec_and_false (by omega)
      have e3 : (decide (1 ≤ y.length) && decide (y.length ≤ 80)) = false := dec_and_false (by omega)
      rw [e2, e3]
      simp [h1.1, h1.2]
  · have e2 : (decide (1 ≤ n) && decide (n ≤ 4)) = false := dec_and_false (by omega)
    rw [e2]
    simp
theorem spec_AutomatonOk_l0 (m : Int) (hm : 1 ≤ m ∧ m ≤ 80) (x : List Int) (hx : x.length ≤ 1048576) : ∀ (d i : Nat), i + d = x.length → Ev (fun k => spec_AutomatonOk.l0 k m x (x.length : Int) (i : Int)) ((x.drop i).all fun z => decide (-1 ≤ z) && decide (z ≤ m - 1)) := by
  intro d
  induction d with
  | zero =>
    intro i hi
    rw [List.drop_of_length_le (by omega)]
    exact Ev.step (f := fun _ => some true) (fun n => by simp only [spec_AutomatonOk.l0]; rw [if_neg (by omega)]) (Ev.now _)
  | succ d ih =>
    intro i hi
    rw [drop_ints x i (by omega), List.all_cons]
    have e : spec_l01In.f (rd x i) (-1) (wrap64 (m - 1)) = some (decide (-1 ≤ rd x i) && decide (rd x i ≤ m - 1)) := by
      rw [spec_l01In_eq, w64 (by omega) (by omega)]
    generalize (decide (-1 ≤ rd x i) && decide (rd x i ≤ m - 1)) = b at e ⊢
    cases b with
    | false =>
      rw [Bool.false_and]
      exact Ev.step (f := fun _ => some false) (fun n => by simp only [spec_AutomatonOk.l0]; rw [if_pos (by omega), if_pos (by omega), if_pos (by omega), e]; simp) (Ev.now _)
    | true =>
      rw [Bool.true_and]
      exact Ev.step (f := fun k => spec_AutomatonOk.l0 k m x (x.length : Int) ((i + 1 : Nat) : Int)) (fun n => by simp only [spec_AutomatonOk.l0]; rw [if_pos (by omega), if_pos (by omega), if_pos (by omega), e, wsucc (n := x.length) (by omega) (by omega)]; simp) (ih (i + 1) (by omega))
theorem spec_AutomatonOk_ev (n : Int) (x : List Int) (y : List Bool) (hx : x.length ≤ 1048576) (hy : y.length ≤ 1048576) : Ev (fun k => spec_AutomatonOk.f k n x y) (autOk n x y) := by
  unfold spec_AutomatonOk.f autOk
  simp only [spec_l01In_eq, bsome]
  by_cases h1 : 1 ≤ n ∧ n ≤ 4
  · have e0 : (decide (1 ≤ n) && decide (n ≤ 4)) = true := by simp [h1.1, h1.2]
    rw [e0]
    by_cases h2 : 1 ≤ y.length ∧ y.length ≤ 80
    · have e1 : wrap64 ((y.length : Int) * n) = n * (y.length : Int) := by
        have : n = 1 ∨ n = 2 ∨ n = 3 ∨ n = 4 := by omega
        rcases this with rfl | rfl | rfl | rfl <;> rw [w64 (by omega) (by omega)] <;> omega
      have e2 : (decide ((1 : Int) ≤ (y.length : Int)) && decide ((y.length : Int) ≤ 80)) = true := dec_and_true (by omega)
      have e3 : (decide (1 ≤ y.length) && decide (y.length ≤ 80)) = true := dec_and_true (by omega)
      rw [e2, e3, e1]
      by_cases h3 : (x.length : Int) = n * (y.length : Int)
      · have e4 : ((x.length : Int) != n * (y.length : Int)) = false := by simp [h3]
        rw [e4, decide_eq_true h3]
        simp only [if_true, Bool.true_and]
        exact Ev.step (f := fun k => spec_AutomatonOk.l0 k (y.length : Int) x (x.length : Int) 0) (fun k => by simp [spec_AutomatonOk.j0]) (spec_AutomatonOk_l0 (y.length : Int) (by omega) x hx x.length 0 (by omega))
      · have e4 : ((x.length : Int) != n * (y.length : Int)) = true := by simp [h3]
        rw [e4, decide_eq_false h3]
        simp only [if_true, Bool.and_false, Bool.false_and]
        exact Ev.step (f := fun k => some false) (fun k => by simp [spec_AutomatonOk.j0]) (Ev.now _)
    · have e2 : (decide ((1 : Int) ≤ (y.length : Int)) && decide ((y.length : Int) ≤ 80)) = false := dec_and_false (by omega)
      have e3 : (decide (1 ≤ y.length) && decide (y.length ≤ 80)) = false := dec_and_false (by omega)
      rw [e2, e3]
      simp only [if_true, Bool.and_false, Bool.false_and, if_neg (show ¬ (false = true) by decide)]
      exact Ev.step (f := fun k => some false) (fun k => by simp [spec_AutomatonOk.j0]) (Ev.now _)
  · have e2 : (decide (1 ≤ n) && decide (n ≤ 4)) = false := dec_and_false (by omega)
    rw [e2]
    simp only [Bool.false_and, if_neg (show ¬ (false = true) by decide)]
    exact Ev.step (f := fun k => some false) (fun k => by simp [spec_AutomatonOk.j0]) (Ev.now _)

theorem eqBoolS_l0 (x : List Bool) (hx : x.length ≤ 35184372088832) : ∀ (d i : Nat), i + d = x.length → Ev (fun k => laws_eqBoolS.l0 k x x (i : Int)) true := by
  intro d
  induction d with
  | zero =>
    intro i hi
    exact Ev.step (f := fun _ => some true) (fun n => by simp only [laws_eqBoolS.l0]; rw [if_neg (by omega)]) (Ev.now _)
  | succ d ih =>
    intro i hi
    refine Ev.step (f := fun k => laws_eqBoolS.l0 k x x ((i + 1 : Nat) : Int)) (fun n => ?_) (ih (i + 1) (by omega))
    simp only [laws_eqBoolS.l0, bne_self_eq_false]
    rw [if_pos (by omega), if_pos (by omega), if_pos (by omega), if_neg (by decide), wsucc (n := x.length) (by omega) (by omega)]
theorem eqBoolS_ev (x : List Bool) (hx : x.length ≤ 35184372088832) : Ev (fun k => laws_eqBoolS.f k x x) true := by
  unfold laws_eqBoolS.f
  refine ev_pos rfl ?_
  exact eqBoolS_l0 x hx x.length 0 (by omega)

theorem eqIntS_l0 (x : List Int) (hx : x.length ≤ 35184372088832) : ∀ (d i : Nat), i + d = x.length → Ev (fun k => laws_eqIntS.l0 k x x (i : Int)) true := by
  intro d
  induction d with
  | zero =>
    intro i hi
    exact Ev.step (f := fun _ => some true) (fun n => by simp only [laws_eqIntS.l0]; rw [if_neg (by omega)]) (Ev.now _)
  | succ d ih =>
    intro i hi
    refine Ev.step (f := fun k => laws_eqIntS.l0 k x x ((i + 1 : Nat) : Int)) (fun n => ?_) (ih (i + 1) (by omega))
    simp only [laws_eqIntS.l0]
    rw [if_pos (by omega), if_pos (by omega), if_pos (by omega), if_pos (by first | rfl | trivial), wsucc (n := x.length) (by omega) (by omega)]
theorem eqIntS_ev (x : List Int) (hx : x.length ≤ 35184372088832) : Ev (fun k => laws_eqIntS.f k x x) true := by
  unfold laws_eqIntS.f
  refine ev_pos rfl ?_
  exact eqIntS_l0 x hx x.length 0 (by omega)

theorem toIntS_l0 (x : List Int) (hx : x.length ≤ 35184372088832) : ∀ (d i : Nat) (y : List Int), i + d = x.length → y.length = x.length → y.take i = x.take i → Ev (fun k => laws_toIntS.l0 k x y (i : Int)) x := by
  intro d
  induction d with
  | zero =>
    intro i y hi hl ht
    have : y = x := by
      rw [List.take_of_length_le (by omega), List.take_of_length_le (by omega)] at ht
      exact ht
    rw [this]
    exact Ev.step (f := fun _ => some x) (fun n => by simp only [laws_toIntS.l0]; rw [if_neg (by omega)]) (Ev.now _)
  | succ d ih =>
    intro i y hi hl ht
    refine Ev.step (f := fun k => laws_toIntS.l0 k x (y.set i (rd x i)) ((i + 1 : Nat) : Int)) (fun n => ?_) (ih (i + 1) _ (by omega) (by simp; omega) (set_take x y i 0 (by omega) hl ht))
    simp only [laws_toIntS.l0]
    rw [if_pos (by omega), if_pos (by omega), if_pos (by omega), wsucc (n := x.length) (by omega) (by omega), Int.toNat_natCast]
theorem toIntS_ev (x : List Int) (hx : x.length ≤ 35184372088832) : Ev (fun k => laws_toIntS.f k x) x := by
  unfold laws_toIntS.f
  refine ev_pos (by omega) (ev_pos (by omega) ?_)
  exact toIntS_l0 x hx x.length 0 _ (by omega) (by simp) (by simp)

theorem toBoolS_l0 (x : List Bool) (hx : x.length ≤ 35184372088832) : ∀ (d i : Nat) (y : List Bool), i + d = x.length → y.length = x.length → y.take i = x.take i → Ev (fun k => laws_toBoolS.l0 k x y (i : Int)) x := by
  intro d
  induction d with
  | zero =>
    intro i y hi hl ht
    have : y = x := by
      rw [List.take_of_length_le (by omega), List.take_of_length_le (by omega)] at ht
      exact ht
    rw [this]
    exact Ev.step (f := fun _ => some x) (fun n => by simp only [laws_toBoolS.l0]; rw [if_neg (by omega)]) (Ev.now _)
  | succ d ih =>
    intro i y hi hl ht
    refine Ev.step (f := fun k => laws_toBoolS.l0 k x (y.set i (rdOf false x i)) ((i + 1 : Nat) : Int)) (fun n => ?_) (ih (i + 1) _ (by omega) (by simp; omega) (set_take x y i false (by omega) hl ht))
    simp only [laws_toBoolS.l0]
    rw [if_pos (by omega), if_pos (by omega), if_pos (by omega), wsucc (n := x.length) (by omega) (by omega), Int.toNat_natCast]
theorem toBoolS_ev (x : List Bool) (hx : x.length ≤ 35184372088832) : Ev (fun k => laws_toBoolS.f k x) x := by
  unfold laws_toBoolS.f
  refine ev_pos (by omega) (ev_pos (by omega) ?_)
  exact toBoolS_l0 x hx x.length 0 _ (by omega) (by simp) (by simp)

theorem szAutomaton_cases (n : Int) (x : List Int) (y : List Bool) (left : Int) (hl : 0 ≤ left ∧ left ≤ 1048576) (hx : x.length ≤ 9223372036854775807) (hy : y.length ≤ 9223372036854775807) :
    ∃ r, laws_szAutomaton.f n x y left = some r ∧ (r < 0 ∨ (x.length + y.length ≤ left ∧ r = left - x.length - y.length)) := by
  unfold laws_szAutomaton.f laws_szIntS.f laws_szBoolS.f
  rw [w64 (by omega) (by omega)]
  by_cases h1 : left - (x.length : Int) < 0
  · exact ⟨-1, by simp [h1], .inl (by omega)⟩
  · simp only [if_neg h1, bsome]
    rw [w64 (by omega) (by omega)]
    by_cases h2 : left - (x.length : Int) - (y.length : Int) < 0
    · exact ⟨-1, by simp [h1, h2], .inl (by omega)⟩
    · exact ⟨left - (x.length : Int) - (y.length : Int), by simp [h1, h2], .inr ⟨by omega, rfl⟩⟩
theorem toAutomaton_ev (n : Int) (x : List Int) (y : List Bool) (hx : x.length ≤ 1048576) (hy : y.length ≤ 1048576) : Ev (fun k => laws_toAutomaton.f k n x y) (n, x, y) := by
  unfold laws_toAutomaton.f
  exact Ev.bind (toIntS_ev x (by omega)) (Ev.bind (toBoolS_ev y (by omega)) (Ev.now _))
theorem eqAutomaton_ev (n : Int) (x : List Int) (y : List Bool) (hx : x.length ≤ 1048576) (hy : y.length ≤ 1048576) : Ev (fun k => laws_eqAutomaton.f k n x y n x y) true := by
  unfold laws_eqAutomaton.f
  refine ev_pos rfl (Ev.bind (eqIntS_ev x (by omega)) (ev_pos rfl (Ev.bind (eqBoolS_ev y (by omega)) (ev_pos rfl (Ev.now _)))))

theorem impl_next_eq {n m s c : Int} {x : List Int} {y : List Bool} (hn : 1 ≤ n ∧ n ≤ 4) (hm : 1 ≤ m ∧ m ≤ 80) (hl : (x.length : Int) = n * m) (hs : 0 ≤ s ∧ s < m) (hc : 0 ≤ c ∧ c < n) : impl_Automaton_next.f n x y s c = some (N n x s c) := by
  have I := A_idx hn hm hl hs hc
  unfold impl_Automaton_next.f
  rw [if_pos I.g, if_pos I.g', I.r]

/-- One way more to a state, if there is one. -/
def upd (next : List Int) (t c : Int) : List Int := if t < 0 then next else next.set t.toNat (wrap64 (rd next t + c))
/-- All arcs from number i on, d of them. -/
def sweep (n : Int) (x cnt : List Int) (next : List Int) (i : Nat) : Nat → List Int
  | 0 => next
  | d + 1 => sweep n x cnt (upd next (rd x i) (rd cnt (Int.tdiv i n))) (i + 1) d
theorem upd_length (next : List Int) (t c : Int) : (upd next t c).length = next.length := by unfold upd; split <;> simp
theorem sweep_length (n : Int) (x cnt : List Int) : ∀ (d i : Nat) (next : List Int), (sweep n x cnt next i d).length = next.length
  | 0, _, _ => rfl
  | d + 1, i, next => by rw [sweep, sweep_length n x cnt d (i + 1), upd_length]
theorem sweep_add (n : Int) (x cnt : List Int) : ∀ (d e i : Nat) (next : List Int), sweep n x cnt next i (d + e) = sweep n x cnt (sweep n x cnt next i d) (i + d) e
  | 0, e, i, next => by simp [sweep]
  | d + 1, e, i, next => by
    rw [show d + 1 + e = (d + e) + 1 by omega, sweep, sweep, sweep_add n x cnt d e (i + 1), show i + 1 + d = i + (d + 1) by omega]
/-- The ways that end in a state with Final. -/
def total (cnt : List Int) (y : List Bool) (i : Nat) : Nat → Int → Int
  | 0, s => s
  | d + 1, s => total cnt y (i + 1) d (if rdOf false y (i : Int) = true then wrap64 (s + rd cnt i) else s)
/-- The counts after d rounds more. -/
def counts (n : Int) (x : List Int) (m : Nat) : Nat → List Int → List Int
  | 0, cnt => cnt
  | d + 1, cnt => counts n x m d (sweep n x cnt (List.replicate m 0) 0 x.length)
theorem counts_length (n : Int) (x : List Int) (m : Nat) : ∀ (d : Nat) (cnt : List Int), cnt.length = m → (counts n x m d cnt).length = m
  | 0, _, h => h
  | d + 1, cnt, h => counts_length n x m d _ (by rw [sweep_length]; simp)
section
variable {n : Int} {x : List Int} {y : List Bool}
theorem x_le (hn : 1 ≤ n ∧ n ≤ 4) (hm : 1 ≤ y.length ∧ y.length ≤ 80) (hl : (x.length : Int) = n * y.length) : x.length ≤ 320 := by
  have : n * (y.length : Int) ≤ 4 * 80 := Int.mul_le_mul hn.2 (by omega) (by omega) (by omega)
  omega
theorem spec_l2 (cnt : List Int) (hc : cnt.length = y.length) (hm : y.length ≤ 80) : ∀ (d i : Nat) (s : Int), i + d = y.length → Ev (fun k => spec_CountAccepted.l2 k cnt s y (y.length : Int) (i : Int)) (total cnt y i d s) := by
  intro d
  induction d with
  | zero => intro i s hi; exact Ev.step (f := fun _ => some s) (fun k => by simp only [spec_CountAccepted.l2]; rw [if_neg (by omega)]) (Ev.now _)
  | succ d ih =>
    intro i s hi
    rw [total]
    by_cases hy : rdOf false y (i : Int) = true
    · rw [if_pos hy]
      refine Ev.step (fun k => ?_) (ih (i + 1) _ (by omega))
      simp only [spec_CountAccepted.l2]
      rw [if_pos (by omega), if_pos (by omega), if_pos (by omega), if_pos hy, if_pos (by omega), wsucc (n := y.length) (by omega) (by omega)]
    · rw [if_neg hy]
      refine Ev.step (fun k => ?_) (ih (i + 1) _ (by omega))
      simp only [spec_CountAccepted.l2]
      rw [if_pos (by omega), if_pos (by omega), if_pos (by omega), if_neg hy, wsucc (n := y.length) (by omega) (by omega)]
theorem impl_l3 (cnt : List Int) (hc : cnt.length = y.length) (hm : y.length ≤ 80) : ∀ (d i : Nat) (s : Int), i + d = y.length → Ev (fun k => impl_CountAccepted.l3 k s cnt (cnt.length : Int) (i : Int) n x y) (total cnt y i d s) := by
  intro d
  induction d with
  | zero => intro i s hi; exact Ev.step (f := fun _ => some s) (fun k => by simp only [impl_CountAccepted.l3]; rw [if_neg (by omega)]) (Ev.now _)
  | succ d ih =>
    intro i s hi
    rw [total]
    by_cases hy : rdOf false y (i : Int) = true
    · rw [if_pos hy]
      refine Ev.step (fun k => ?_) (ih (i + 1) _ (by omega))
      simp only [impl_CountAccepted.l3]
      rw [if_pos (by omega), if_pos (by omega), if_pos (by omega), if_pos (by omega), if_pos hy, wsucc (n := y.length) (by omega) (by omega)]
    · rw [if_neg hy]
      refine Ev.step (fun k => ?_) (ih (i + 1) _ (by omega))
      simp only [impl_CountAccepted.l3]
      rw [if_pos (by omega), if_pos (by omega), if_pos (by omega), if_pos (by omega), if_neg hy, wsucc (n := y.length) (by omega) (by omega)]
theorem tdiv_range (hn : 1 ≤ n ∧ n ≤ 4) (hm : 1 ≤ y.length ∧ y.length ≤ 80) (hl : (x.length : Int) = n * y.length) (i : Nat) (hi : i < x.length) : 0 ≤ Int.tdiv i n ∧ Int.tdiv i n < (y.length : Int) := by
  rw [Int.tdiv_eq_ediv_of_nonneg (by omega)]
  constructor
  · exact Int.ediv_nonneg (by omega) (by omega)
  · exact Int.ediv_lt_of_lt_mul (by omega) (by rw [Int.mul_comm]; omega)
theorem spec_l1 (hn : 1 ≤ n ∧ n ≤ 4) (hm : 1 ≤ y.length ∧ y.length ≤ 80) (hl : (x.length : Int) = n * y.length) (hx : ∀ z ∈ x, -1 ≤ z ∧ z ≤ (y.length : Int) - 1) (e j : Int) (cnt : List Int) (hc : cnt.length = y.length) (r : Int) :
    ∀ (d i : Nat) (next : List Int), i + d = x.length → next.length = y.length → Ev (fun k => spec_CountAccepted.l0 k e (sweep n x cnt next i d) (wrap64 (j + 1)) n x y) r →
      Ev (fun k => spec_CountAccepted.l1 k e cnt j next x (x.length : Int) (i : Int) n x y) r := by
  have hx320 := x_le hn hm hl
  intro d
  induction d with
  | zero => intro i next hi hlen h; rw [sweep] at h; exact Ev.step (fun k => by simp only [spec_CountAccepted.l1]; rw [if_neg (by omega)]) h
  | succ d ih =>
    intro i next hi hlen h
    rw [sweep] at h
    have hz := hx _ (rd_mem (l := x) (i := (i : Int)) (by omega) (by omega))
    have ht := tdiv_range hn hm hl i (by omega)
    have et : wrap64 (Int.tdiv (i : Int) n) = Int.tdiv i n := w64 (by omega) (by omega)
    by_cases hneg : rd x i < 0
    · rw [upd, if_pos hneg] at h
      refine Ev.step (fun k => ?_) (ih (i + 1) next (by omega) hlen h)
      simp only [spec_CountAccepted.l1]
      rw [if_pos (by omega), if_pos (by omega), if_pos (by omega), if_neg (by omega), wsucc (n := x.length) (by omega) (by omega)]
    · rw [upd, if_neg hneg] at h
      refine Ev.step (fun k => ?_) (ih (i + 1) _ (by omega) (by simp; omega) h)
      simp only [spec_CountAccepted.l1, et]
      rw [if_pos (by omega), if_pos (by omega), if_pos (by omega), if_pos (by omega), if_pos (by omega), if_pos (by omega), if_neg (by omega), if_pos (by omega), if_pos (by omega), wsucc (n := x.length) (by omega) (by omega)]
theorem spec_l0 (hn : 1 ≤ n ∧ n ≤ 4) (hm : 1 ≤ y.length ∧ y.length ≤ 80) (hl : (x.length : Int) = n * y.length) (hx : ∀ z ∈ x, -1 ≤ z ∧ z ≤ (y.length : Int) - 1) (e : Int) (he : e ≤ 16) :
    ∀ (d j : Nat) (cnt : List Int), (j : Int) + d = e → cnt.length = y.length → Ev (fun k => spec_CountAccepted.l0 k e cnt (j : Int) n x y) (total (counts n x y.length d cnt) y 0 y.length 0) := by
  intro d
  induction d with
  | zero =>
    intro j cnt hj hc
    refine Ev.step (f := fun k => spec_CountAccepted.l2 k cnt 0 y (y.length : Int) 0) (fun k => by simp only [spec_CountAccepted.l0]; rw [if_neg (by omega)]) ?_
    exact spec_l2 cnt hc hm.2 y.length 0 0 (by omega)
  | succ d ih =>
    intro j cnt hj hc
    have h := ih (j + 1) (sweep n x cnt (List.replicate y.length 0) 0 x.length) (by omega) (by rw [sweep_length]; simp)
    refine Ev.step (f := fun k => spec_CountAccepted.l1 k e cnt (j : Int) (List.replicate y.length 0) x (x.length : Int) 0 n x y) (fun k => ?_) ?_
    · simp only [spec_CountAccepted.l0, Int.toNat_natCast, hc]
      rw [if_pos (by omega), if_pos (by omega), if_pos (by omega)]
    · refine spec_l1 hn hm hl hx e j cnt hc _ x.length 0 _ (by omega) (by simp) ?_
      rw [w64 (by omega) (by omega), counts] 
      simpa using h
theorem sweep_row (hn : 1 ≤ n ∧ n ≤ 4) (s : Nat) (c : Nat) (hc : (c : Int) < n) : Int.tdiv ((s * n.toNat + c : Nat) : Int) n = s := by
  obtain ⟨q, rfl⟩ : ∃ q : Nat, n = q := ⟨n.toNat, by omega⟩
  rw [Int.toNat_natCast, Int.tdiv_eq_ediv_of_nonneg (by omega)]
  have : (s * q + c) / q = s := by
    rw [Nat.add_comm, Nat.add_mul_div_right c s (by omega), Nat.div_eq_of_lt (by omega)]; omega
  rw [← Int.natCast_ediv, this]
theorem impl_l2 (hn : 1 ≤ n ∧ n ≤ 4) (hm : 1 ≤ y.length ∧ y.length ≤ 80) (hl : (x.length : Int) = n * y.length) (hx : ∀ z ∈ x, -1 ≤ z ∧ z ≤ (y.length : Int) - 1) (e j : Int) (cnt : List Int) (hc : cnt.length = y.length) (r : Int) (s : Nat) (hs : s < y.length) :
    ∀ (d c : Nat) (next : List Int), (c : Int) + d = n → next.length = y.length → Ev (fun k => impl_CountAccepted.l1 k (sweep n x cnt next (s * n.toNat + c) d) e j cnt (cnt.length : Int) ((s + 1 : Nat) : Int) n x y) r →
      Ev (fun k => impl_CountAccepted.l2 k next (s : Int) (rd cnt s) e j cnt (cnt.length : Int) (s : Int) n (c : Int) n x y) r := by
  intro d
  induction d with
  | zero =>
    intro c next hcd hlen h
    refine Ev.step (fun k => ?_) h
    simp only [impl_CountAccepted.l2, sweep]
    rw [if_neg (by omega), wsucc (n := y.length) (by omega) (by omega)]
  | succ d ih =>
    intro c next hcd hlen h
    have I := impl_next_eq (x := x) (y := y) hn (m := y.length) (by omega) hl (s := (s : Int)) (c := (c : Int)) (by omega) (by omega)
    have ht := N_range (x := x) hn (m := y.length) (by omega) hl hx (s := (s : Int)) (c := (c : Int)) (by omega) (by omega)
    have hrow := sweep_row hn s c (by omega)
    have hrd : rd x ((s * n.toNat + c : Nat) : Int) = N n x s c := by
      unfold N
      congr 1
      rw [Int.natCast_add, Int.natCast_mul, Int.toNat_of_nonneg (by omega)]
    rw [sweep, hrow, hrd] at h
    by_cases hneg : N n x s c < 0
    · rw [upd, if_pos hneg] at h
      refine Ev.step (fun k => ?_) (ih (c + 1) next (by omega) hlen h)
      simp only [impl_CountAccepted.l2, I, bsome]
      rw [if_pos (by omega), if_neg (by omega), w64 (by omega) (by omega)]
      simp
    · rw [upd, if_neg hneg] at h
      refine Ev.step (fun k => ?_) (ih (c + 1) _ (by omega) (by simp; omega) h)
      simp only [impl_CountAccepted.l2, I, bsome]
      rw [if_pos (by omega), if_pos (by omega), if_pos (by omega), if_pos (by omega), w64 (x := (c : Int) + 1) (by omega) (by omega)]
      simp
theorem impl_l1 (hn : 1 ≤ n ∧ n ≤ 4) (hm : 1 ≤ y.length ∧ y.length ≤ 80) (hl : (x.length : Int) = n * y.length) (hx : ∀ z ∈ x, -1 ≤ z ∧ z ≤ (y.length : Int) - 1) (e j : Int) (cnt : List Int) (hc : cnt.length = y.length) (r : Int) :
    ∀ (d s : Nat) (next : List Int), s + d = y.length → next.length = y.length → Ev (fun k => impl_CountAccepted.l0 k (sweep n x cnt next (s * n.toNat) (d * n.toNat)) e (wrap64 (j + 1)) n x y) r →
      Ev (fun k => impl_CountAccepted.l1 k next e j cnt (cnt.length : Int) (s : Int) n x y) r := by
  intro d
  induction d with
  | zero =>
    intro s next hsd hlen h
    refine Ev.step (fun k => ?_) h
    simp only [impl_CountAccepted.l1, Nat.zero_mul, sweep]
    rw [if_neg (by omega)]
  | succ d ih =>
    intro s next hsd hlen h
    rw [show (d + 1) * n.toNat = n.toNat + d * n.toNat by rw [Nat.add_mul, Nat.one_mul, Nat.add_comm], sweep_add, show s * n.toNat + n.toNat = (s + 1) * n.toNat by rw [Nat.add_mul, Nat.one_mul]] at h
    have h2 := ih (s + 1) _ (by omega) (by rw [sweep_length]; exact hlen) h
    refine Ev.step (f := fun k => impl_CountAccepted.l2 k next (s : Int) (rd cnt s) e j cnt (cnt.length : Int) (s : Int) n 0 n x y) (fun k => ?_) ?_
    · simp only [impl_CountAccepted.l1]
      rw [if_pos (by omega), if_pos (by omega), if_pos (by omega)]
    · exact impl_l2 hn hm hl hx e j cnt hc r s (by omega) n.toNat 0 next (by omega) hlen (by simpa using h2)
theorem impl_l0 (hn : 1 ≤ n ∧ n ≤ 4) (hm : 1 ≤ y.length ∧ y.length ≤ 80) (hl : (x.length : Int) = n * y.length) (hx : ∀ z ∈ x, -1 ≤ z ∧ z ≤ (y.length : Int) - 1) (e : Int) (he : e ≤ 16) :
    ∀ (d j : Nat) (cnt : List Int), (j : Int) + d = e → cnt.length = y.length → Ev (fun k => impl_CountAccepted.l0 k cnt e (j : Int) n x y) (total (counts n x y.length d cnt) y 0 y.length 0) := by
  have hxl : y.length * n.toNat = x.length := by
    have : ((y.length * n.toNat : Nat) : Int) = (x.length : Int) := by rw [Int.natCast_mul, Int.toNat_of_nonneg (by omega), hl, Int.mul_comm]
    omega
  intro d
  induction d with
  | zero =>
    intro j cnt hj hc
    refine Ev.step (f := fun k => impl_CountAccepted.l3 k 0 cnt (cnt.length : Int) 0 n x y) (fun k => by simp only [impl_CountAccepted.l0]; rw [if_neg (by omega)]) ?_
    exact impl_l3 cnt hc hm.2 y.length 0 0 (by omega)
  | succ d ih =>
    intro j cnt hj hc
    have h := ih (j + 1) (sweep n x cnt (List.replicate y.length 0) 0 x.length) (by omega) (by rw [sweep_length]; simp)
    refine Ev.step (f := fun k => impl_CountAccepted.l1 k (List.replicate y.length 0) e (j : Int) cnt (cnt.length : Int) 0 n x y) (fun k => ?_) ?_
    · simp only [impl_CountAccepted.l0, Int.toNat_natCast, hc]
      rw [if_pos (by omega), if_pos (by omega), if_pos (by omega)]
    · refine impl_l1 hn hm hl hx e j cnt hc _ y.length 0 _ (by omega) (by simp) ?_
      rw [w64 (by omega) (by omega), hxl, counts]
      simpa using h
end
theorem both (n : Int) (x : List Int) (y : List Bool) (e : Int) (hx : x.length ≤ 1048576) (hy : y.length ≤ 1048576) : ∃ r, Ev (fun k => spec_CountAccepted.f k n x y e) r ∧ Ev (fun k => impl_CountAccepted.f k n x y e) r := by
  unfold spec_CountAccepted.f impl_CountAccepted.f
  have s0 := spec_AutomatonOk_ev n x y hx hy
  have i0 := impl_AutomatonOk_eq n x y hy
  have sbad : ∀ b, b = true → Ev (fun k => spec_CountAccepted.j0 k e b n x y) (-1) := fun b hb => Ev.step (f := fun _ => some (-1)) (fun k => by subst hb; simp [spec_CountAccepted.j0]) (Ev.now _)
  have ibad : ∀ b, b = true → Ev (fun k => impl_CountAccepted.j0 k e b n x y) (-1) := fun b hb => Ev.step (f := fun _ => some (-1)) (fun k => by subst hb; simp [impl_CountAccepted.j0]) (Ev.now _)
  cases ha : autOk n x y with
  | false =>
    rw [ha] at s0 i0
    exact ⟨-1, Ev.bind s0 (sbad _ rfl), by simp only [i0, bsome]; exact ibad _ rfl⟩
  | true =>
    rw [ha] at s0 i0
    obtain ⟨hn, hm, hl, hx'⟩ := autOk_iff.1 ha
    by_cases he : 0 ≤ e ∧ e ≤ 16
    · have hset : ((List.replicate y.length (0 : Int)).set 0 1).length = y.length := by simp
      refine ⟨total (counts n x y.length e.toNat ((List.replicate y.length (0 : Int)).set 0 1)) y 0 y.length 0, Ev.bind s0 ?_, ?_⟩
      · simp only [if_true, spec_l01In_eq, bsome, dec_and_true he]
        refine Ev.step (f := fun k => spec_CountAccepted.l0 k e ((List.replicate y.length (0 : Int)).set 0 1) 0 n x y) (fun k => ?_) (spec_l0 hn hm hl hx' e he.2 e.toNat 0 _ (by omega) hset)
        simp only [spec_CountAccepted.j0, bsome, Int.toNat_natCast]
        rw [if_neg (by decide), if_pos (by omega), if_pos (by omega), if_pos (by simp; omega)]
        rfl
      · simp only [i0, bsome, if_true, impl_within_eq, dec_and_true he]
        refine Ev.step (f := fun k => impl_CountAccepted.l0 k ((List.replicate y.length (0 : Int)).set 0 1) e 0 n x y) (fun k => ?_) (impl_l0 hn hm hl hx' e he.2 e.toNat 0 _ (by omega) hset)
        simp only [impl_CountAccepted.j0, bsome, Int.toNat_natCast]
        rw [if_neg (by decide), if_pos (by omega), if_pos (by omega), if_pos (by simp; omega)]
        rfl
    · refine ⟨-1, Ev.bind s0 ?_, ?_⟩
      · simp only [if_true, spec_l01In_eq, bsome, dec_and_false he]
        exact sbad _ rfl
      · simp only [i0, bsome, if_true, impl_within_eq, dec_and_false he]
        exact ibad _ rfl
theorem FnExactCountAccepted : ∀ (a0_0 : Int) (l0_1 : List Int) (l0_2 : List Bool) (a1 : Int), (Lit.int .i64 a0_0).wf = true → l0_1.length ≤ 9223372036854775807 → (∀ x ∈ l0_1, (fun x : Int => (Lit.int .i64 x).wf = true) x) → l0_2.length ≤ 9223372036854775807 → (∀ x ∈ l0_2, (fun _ : Bool => True) x) → (Lit.int .i64 a1).wf = true → ∃ k, PFnExactCountAccepted.laws_FnExactCountAccepted.f k a0_0 l0_1 l0_2 a1 = some true := by
  intro n x y e hn hx _ hy _ he
  have : Ev (fun k => laws_FnExactCountAccepted.f k n x y e) true := by
    unfold laws_FnExactCountAccepted.f
    obtain ⟨r, h1, h2⟩ := szAutomaton_cases n x y 1048576 (by omega) hx hy
    rw [h1]
    simp only [bsome]
    by_cases hr : r < 0
    · exact ev_pos hr (Ev.now _)
    · have hx' : x.length ≤ 1048576 := by omega
      have hy' : y.length ≤ 1048576 := by omega
      obtain ⟨q, s, t⟩ := both n x y e hx' hy'
      refine ev_neg hr (Ev.bind (toAutomaton_ev n x y hx' hy') (Ev.bind s (Ev.bind (toAutomaton_ev n x y hx' hy') (Ev.bind t ?_))))
      refine ev_pos rfl (Ev.bind (toAutomaton_ev n x y hx' hy') (Ev.bind (eqAutomaton_ev n x y hx' hy') (ev_pos rfl (Ev.now _))))
  exact this.rounds

end Go.Proofs.Ytajacklnhfjmpaa.Pure
