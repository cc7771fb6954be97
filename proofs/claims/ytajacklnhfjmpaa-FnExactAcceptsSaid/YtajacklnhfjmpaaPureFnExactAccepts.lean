/- The plain statement of the law FnExactAccepts: what the printed functions come to is true at every input of the kinds stated. No conditions beyond those of the printed statement. -/
import Derived.Test.YtajacklnhfjmpaaPFnExactAcceptsx0
import Derived.Test.YtajacklnhfjmpaaPFnExactAcceptsx4
import Derived.Laws.StructEq
import Derived.Laws.StructEq
import Derived.Test.YtajacklnhfjmpaaBase
import Derived.Test.YtajacklnhfjmpaaPlain
import Derived.Laws.StructEq
namespace Go.Proofs.Ytajacklnhfjmpaa.Pure
open Go.RowKit Go.Proofs.Ytajacklnhfjmpaa.PFnExactAccepts Go.Proofs.YtajacklnhfjmpaaW.PrintWords Go.Proofs.YtajacklnhfjmpaaW.PrintLast Go.Proofs.Ytajacklnhfjmpaa.Base
set_option linter.unusedVariables false
set_option linter.unusedSimpArgs false

/-! ### reading a row -/
theorem rd_nat (l : List Int) (i : Nat) (h : i < l.length) : rd l (i : Int) = l[i] := by
  simp [rd, List.getD_eq_getElem?_getD, h]
theorem drop_ints (l : List Int) (i : Nat) (h : i < l.length) : l.drop i = rd l (i : Int) :: l.drop (i + 1) := by
  rw [List.drop_eq_getElem_cons h, rd_nat l i h]
theorem set_take {α : Type} (x y : List α) (i : Nat) (d : α) (hi : i < x.length) (hl : y.length = x.length) (h : y.take i = x.take i) : (y.set i (x.getD i d)).take (i + 1) = x.take (i + 1) := by
  rw [List.take_succ_eq_append_getElem (by simp; omega), List.take_succ_eq_append_getElem hi, List.take_set_of_le (Nat.le_refl i), h]
  simp [List.getD_eq_getElem?_getD, hi]
theorem wsucc {i : Nat} {n : Nat} (h : i < n) (hn : n ≤ 140737488351232) : wrap64 ((i : Int) + 1) = ((i + 1 : Nat) : Int) := by rw [w64 (by omega) (by omega)]; simp

theorem allWithin_eq (l : List Int) (a b : Int) : impl_allWithin.f l a b = some (l.all fun x => decide (a ≤ x) && decide (x ≤ b)) := by
  unfold impl_allWithin.f
  rw [List.not_any_eq_all_not]
  simp

theorem spec_l01In_eq (a b c : Int) : spec_l01In.f a b c = some (decide (b ≤ a) && decide (a ≤ c)) := by
  unfold spec_l01In.f
  by_cases h : b ≤ a <;> simp [h]

theorem impl_within_eq (a b c : Int) : impl_within.f a b c = some (decide (b ≤ a) && decide (a ≤ c)) := by
  unfold impl_within.f
  by_cases h : b ≤ a <;> simp [h]

def autOk (n : Int) (x : List Int) (y : List Bool) : Bool :=
  decide (1 ≤ n) && decide (n ≤ 4) && (decide (1 ≤ y.length) && decide (y.length ≤ 80)) && decide ((x.length : Int) = n * y.length) && x.all fun z => decide (-1 ≤ z) && decide (z ≤ (y.length : Int) - 1)
theorem autOk_iff {n : Int} {x : List Int} {y : List Bool} : autOk n x y = true ↔ (1 ≤ n ∧ n ≤ 4) ∧ (1 ≤ y.length ∧ y.length ≤ 80) ∧ (x.length : Int) = n * y.length ∧ ∀ z ∈ x, -1 ≤ z ∧ z ≤ (y.length : Int) - 1 := by
  simp [autOk, and_assoc]
theorem impl_AutomatonOk_eq (n : Int) (x : List Int) (y : List Bool) (hy : y.length ≤ 1048576) : impl_AutomatonOk.f n x y = some (autOk n x y) := by
  unfold impl_AutomatonOk.f autOk
  simp only [impl_within_eq, allWithin_eq, bsome]
  by_cases h1 : 1 ≤ n ∧ n ≤ 4
  · by_cases h2 : 1 ≤ y.length ∧ y.length ≤ 80
    · have e1 : wrap64 (n * (y.length : Int)) = n * (y.length : Int) := by
        have : n = 1 ∨ n = 2 ∨ n = 3 ∨ n = 4 := by omega
        rcases this with rfl | rfl | rfl | rfl <;> rw [w64 (by omega) (by omega)]
      rw [e1, w64 (by omega) (by omega)]
      have e2 : (decide ((1 : Int) ≤ (y.length : Int)) && decide ((y.length : Int) ≤ 80)) = true := dec_and_true (by omega)
      rw [e2]
      by_cases h3 : (x.length : Int) = n * (y.length : Int)
      · simp [h1.1, h1.2, h2.1, h2.2, h3]
      · simp [h1.1, h1.2, h2.1, h2.2, h3]
    · have e2 : (decide ((1 : Int) ≤ (y.length : Int)) && decide ((y.length : Int) ≤ 80)) = false := dec_and_false (by omega)
      have e3 : (decide (1 ≤ y.length) && decide (y.length ≤ 80)) = false := dec_and_false (by omega)
      rw [e2, e3]
      simp [h1.1, h1.2]
  · have e2 : (decide (1 ≤ n) && decide (n ≤ 4)) = false := dec_and_false (by omega)
    rw [e2]
    simp
theorem spec_AutomatonOk_l0 (m : Int) (hm : 1 ≤ m ∧ m ≤ 80) (x : List Int) (hx : x.length ≤ 1048576) : ∀ (d i : Nat), i + d = x.length → Ev (fun k => spec_AutomatonOk.l0 k m x (x.length : Int) (i : Int)) ((x.drop i).all fun z => decide (-1 ≤ z) && decide (z ≤ m - 1)) := by
  intro d
  induction d with
  | zero =>
    intro i hi
    rw [List.drop_of_length_le (by omega)]
    exact Ev.step (f := fun _ => some true) (fun n => by simp only [spec_AutomatonOk.l0]; rw [if_neg (by omega)]) (Ev.now _)
  | succ d ih =>
    intro i hi
    rw [drop_ints x i (by omega), List.all_cons]
    have e : spec_l01In.f (rd x i) (-1) (wrap64 (m - 1)) = some (decide (-1 ≤ rd x i) && decide (rd x i ≤ m - 1)) := by
      rw [spec_l01In_eq, w64 (by omega) (by omega)]
    generalize (decide (-1 ≤ rd x i) && decide (rd x i ≤ m - 1)) = b at e ⊢
    cases b with
    | false =>
      rw [Bool.false_and]
      exact Ev.step (f := fun _ => some false) (fun n => by simp only [spec_AutomatonOk.l0]; rw [if_pos (by omega), if_pos (by omega), if_pos (by omega), e]; simp) (Ev.now _)
    | true =>
      rw [Bool.true_and]
      exact Ev.step (f := fun k => spec_AutomatonOk.l0 k m x (x.length : Int) ((i + 1 : Nat) : Int)) (fun n => by simp only [spec_AutomatonOk.l0]; rw [if_pos (by omega), if_pos (by omega), if_pos (by omega), e, wsucc (n := x.length) (by omega) (by omega)]; simp) (ih (i + 1) (by omega))
theorem spec_AutomatonOk_ev (n : Int) (x : List Int) (y : List Bool) (hx : x.length ≤ 1048576) (hy : y.length ≤ 1048576) : Ev (fun k => spec_AutomatonOk.f k n x y) (autOk n x y) := by
  unfold spec_AutomatonOk.f autOk
  simp only [spec_l01In_eq, bsome]
  by_cases h1 : 1 ≤ n ∧ n ≤ 4
  · have e0 : (decide (1 ≤ n) && decide (n ≤ 4)) = true := by simp [h1.1, h1.2]
    rw [e0]
    by_cases h2 : 1 ≤ y.length ∧ y.length ≤ 80
    · have e1 : wrap64 ((y.length : Int) * n) = n * (y.length : Int) := by
        have : n = 1 ∨ n = 2 ∨ n = 3 ∨ n = 4 := by omega
        rcases this with rfl | rfl | rfl | rfl <;> rw [w64 (by omega) (by omega)] <;> omega
      have e2 : (decide ((1 : Int) ≤ (y.length : Int)) && decide ((y.length : Int) ≤ 80)) = true := dec_and_true (by omega)
      have e3 : (decide (1 ≤ y.length) && decide (y.length ≤ 80)) = true := dec_and_true (by omega)
      rw [e2, e3, e1]
      by_cases h3 : (x.length : Int) = n * (y.length : Int)
      · have e4 : ((x.length : Int) != n * (y.length : Int)) = false := by simp [h3]
        rw [e4, decide_eq_true h3]
        simp only [if_true, Bool.true_and]
        exact Ev.step (f := fun k => spec_AutomatonOk.l0 k (y.length : Int) x (x.length : Int) 0) (fun k => by simp [spec_AutomatonOk.j0]) (spec_AutomatonOk_l0 (y.length : Int) (by omega) x hx x.length 0 (by omega))
      · have e4 : ((x.length : Int) != n * (y.length : Int)) = true := by simp [h3]
        rw [e4, decide_eq_false h3]
        simp only [if_true, Bool.and_false, Bool.false_and]
        exact Ev.step (f := fun k => some false) (fun k => by simp [spec_AutomatonOk.j0]) (Ev.now _)
    · have e2 : (decide ((1 : Int) ≤ (y.length : Int)) && decide ((y.length : Int) ≤ 80)) = false := dec_and_false (by omega)
      have e3 : (decide (1 ≤ y.length) && decide (y.length ≤ 80)) = false := dec_and_false (by omega)
      rw [e2, e3]
      simp only [if_true, Bool.and_false, Bool.false_and, if_neg (show ¬ (false = true) by decide)]
      exact Ev.step (f := fun k => some false) (fun k => by simp [spec_AutomatonOk.j0]) (Ev.now _)
  · have e2 : (decide (1 ≤ n) && decide (n ≤ 4)) = false := dec_and_false (by omega)
    rw [e2]
    simp only [Bool.false_and, if_neg (show ¬ (false = true) by decide)]
    exact Ev.step (f := fun k => some false) (fun k => by simp [spec_AutomatonOk.j0]) (Ev.now _)

theorem eqBoolS_l0 (x : List Bool) (hx : x.length ≤ 35184372088832) : ∀ (d i : Nat), i + d = x.length → Ev (fun k => laws_eqBoolS.l0 k x x (i : Int)) true := by
  intro d
  induction d with
  | zero =>
    intro i hi
    exact Ev.step (f := fun _ => some true) (fun n => by simp only [laws_eqBoolS.l0]; rw [if_neg (by omega)]) (Ev.now _)
  | succ d ih =>
    intro i hi
    refine Ev.step (f := fun k => laws_eqBoolS.l0 k x x ((i + 1 : Nat) : Int)) (fun n => ?_) (ih (i + 1) (by omega))
    simp only [laws_eqBoolS.l0, bne_self_eq_false]
    rw [if_pos (by omega), if_pos (by omega), if_pos (by omega), if_neg (by decide), wsucc (n := x.length) (by omega) (by omega)]
theorem eqBoolS_ev (x : List Bool) (hx : x.length ≤ 35184372088832) : Ev (fun k => laws_eqBoolS.f k x x) true := by
  unfold laws_eqBoolS.f
  refine ev_pos rfl ?_
  exact eqBoolS_l0 x hx x.length 0 (by omega)

theorem eqIntS_l0 (x : List Int) (hx : x.length ≤ 35184372088832) : ∀ (d i : Nat), i + d = x.length → Ev (fun k => laws_eqIntS.l0 k x x (i : Int)) true := by
  intro d
  induction d with
  | zero =>
    intro i hi
    exact Ev.step (f := fun _ => some true) (fun n => by simp only [laws_eqIntS.l0]; rw [if_neg (by omega)]) (Ev.now _)
  | succ d ih =>
    intro i hi
    refine Ev.step (f := fun k => laws_eqIntS.l0 k x x ((i + 1 : Nat) : Int)) (fun n => ?_) (ih (i + 1) (by omega))
    simp only [laws_eqIntS.l0]
    rw [if_pos (by omega), if_pos (by omega), if_pos (by omega), if_pos (by first | rfl | trivial), wsucc (n := x.length) (by omega) (by omega)]
theorem eqIntS_ev (x : List Int) (hx : x.length ≤ 35184372088832) : Ev (fun k => laws_eqIntS.f k x x) true := by
  unfold laws_eqIntS.f
  refine ev_pos rfl ?_
  exact eqIntS_l0 x hx x.length 0 (by omega)

/-! ### words -/
def letter (k x : Int) : Bool := decide (97 ≤ x) && decide (x < 97 + k)
def wordOk (k : Int) (w : ByteArray) : Bool := decide (1 ≤ k) && decide (k ≤ 4) && decide (w.size ≤ 16) && (bytesOf w).all (letter k)
theorem wordOk_iff {k : Int} {w : ByteArray} : wordOk k w = true ↔ 1 ≤ k ∧ k ≤ 4 ∧ w.size ≤ 16 ∧ ∀ x ∈ bytesOf w, 97 ≤ x ∧ x < 97 + k := by
  simp [wordOk, letter, and_assoc]
theorem letter_true {k x : Int} (h : 97 ≤ x) (h' : x < 97 + k) : letter k x = true := by simp [letter, h, h']
theorem letter_false {k x : Int} (h : x < 97 ∨ 97 + k ≤ x) : letter k x = false := by
  unfold letter
  rcases h with h | h
  · simp [show ¬ 97 ≤ x by omega]
  · simp [show ¬ x < 97 + k by omega]

theorem impl_hasLetters_l0 (k : Int) (hk : 1 ≤ k ∧ k ≤ 4) (w : ByteArray) (hs : w.size ≤ 16) : ∀ (d i : Nat), i + d = w.size → Ev (fun n => impl_hasLetters.l0 n k w (w.size : Int) (i : Int)) (((bytesOf w).drop i).all (letter k)) := by
  intro d
  induction d with
  | zero =>
    intro i hi
    rw [List.drop_of_length_le (by rw [bytesOf_length]; omega)]
    exact Ev.step (f := fun _ => some true) (fun n => by simp only [impl_hasLetters.l0]; rw [if_neg (by omega)]) (Ev.now _)
  | succ d ih =>
    intro i hi
    have hlt : i < w.size := by omega
    rw [drop_bytes w i hlt, List.all_cons]
    have hr := bt_range w i
    have e : impl_within.f (wrap64 (bt w i)) 97 (wrap64 (wrap64 (97 + k) - 1)) = some (letter k (bt w i)) := by
      rw [impl_within_eq, w64 (by omega) (by omega), w64 (x := 97 + k) (by omega) (by omega), w64 (by omega) (by omega)]
      unfold letter
      congr 2
      simp; omega
    cases hl : letter k (bt w i) with
    | false =>
      rw [hl] at e
      exact Ev.step (f := fun _ => some false) (fun n => by simp only [impl_hasLetters.l0]; rw [if_pos (by omega), if_pos (by omega), if_pos (by omega), e]; simp) (Ev.now _)
    | true =>
      rw [hl] at e
      rw [Bool.true_and]
      exact Ev.step (f := fun n => impl_hasLetters.l0 n k w (w.size : Int) ((i + 1 : Nat) : Int)) (fun n => by simp only [impl_hasLetters.l0]; rw [if_pos (by omega), if_pos (by omega), if_pos (by omega), e, w64 (by omega) (by omega)]; simp) (ih (i + 1) (by omega))
theorem impl_WordOk_ev (k : Int) (w : ByteArray) : Ev (fun n => impl_WordOk.f n k w) (wordOk k w) := by
  unfold impl_WordOk.f
  simp only [impl_within_eq, bsome]
  by_cases hk : 1 ≤ k ∧ k ≤ 4
  · have e1 : (decide (1 ≤ k) && decide (k ≤ 4)) = true := by simp [hk.1, hk.2]
    simp only [e1, if_true]
    by_cases hs : w.size ≤ 16
    · have := impl_hasLetters_l0 k hk w hs w.size 0 (by omega)
      simp only [if_pos (show (w.size : Int) ≤ 16 by omega)]
      refine Ev.bind (f := fun _ b => some b) (a := wordOk k w) ?_ (Ev.now _)
      unfold impl_hasLetters.f
      simpa [wordOk, e1, hk.1, hk.2, hs] using this
    · simp only [if_neg (show ¬ (w.size : Int) ≤ 16 by omega)]
      have : wordOk k w = false := by simp [wordOk, hs]
      rw [this]; exact Ev.now _
  · have e1 : (decide (1 ≤ k) && decide (k ≤ 4)) = false := dec_and_false (by omega)
    simp only [e1, if_neg (show ¬ (false = true) by decide)]
    have : wordOk k w = false := by simp [wordOk, e1]
    rw [this]; exact Ev.now _

theorem toIntS_l0 (x : List Int) (hx : x.length ≤ 35184372088832) : ∀ (d i : Nat) (y : List Int), i + d = x.length → y.length = x.length → y.take i = x.take i → Ev (fun k => laws_toIntS.l0 k x y (i : Int)) x := by
  intro d
  induction d with
  | zero =>
    intro i y hi hl ht
    have : y = x := by
      rw [List.take_of_length_le (by omega), List.take_of_length_le (by omega)] at ht
      exact ht
    rw [this]
    exact Ev.step (f := fun _ => some x) (fun n => by simp only [laws_toIntS.l0]; rw [if_neg (by omega)]) (Ev.now _)
  | succ d ih =>
    intro i y hi hl ht
    refine Ev.step (f := fun k => laws_toIntS.l0 k x (y.set i (rd x i)) ((i + 1 : Nat) : Int)) (fun n => ?_) (ih (i + 1) _ (by omega) (by simp; omega) (set_take x y i 0 (by omega) hl ht))
    simp only [laws_toIntS.l0]
    rw [if_pos (by omega), if_pos (by omega), if_pos (by omega), wsucc (n := x.length) (by omega) (by omega), Int.toNat_natCast]
theorem toIntS_ev (x : List Int) (hx : x.length ≤ 35184372088832) : Ev (fun k => laws_toIntS.f k x) x := by
  unfold laws_toIntS.f
  refine ev_pos (by omega) (ev_pos (by omega) ?_)
  exact toIntS_l0 x hx x.length 0 _ (by omega) (by simp) (by simp)

theorem toBoolS_l0 (x : List Bool) (hx : x.length ≤ 35184372088832) : ∀ (d i : Nat) (y : List Bool), i + d = x.length → y.length = x.length → y.take i = x.take i → Ev (fun k => laws_toBoolS.l0 k x y (i : Int)) x := by
  intro d
  induction d with
  | zero =>
    intro i y hi hl ht
    have : y = x := by
      rw [List.take_of_length_le (by omega), List.take_of_length_le (by omega)] at ht
      exact ht
    rw [this]
    exact Ev.step (f := fun _ => some x) (fun n => by simp only [laws_toBoolS.l0]; rw [if_neg (by omega)]) (Ev.now _)
  | succ d ih =>
    intro i y hi hl ht
    refine Ev.step (f := fun k => laws_toBoolS.l0 k x (y.set i (rdOf false x i)) ((i + 1 : Nat) : Int)) (fun n => ?_) (ih (i + 1) _ (by omega) (by simp; omega) (set_take x y i false (by omega) hl ht))
    simp only [laws_toBoolS.l0]
    rw [if_pos (by omega), if_pos (by omega), if_pos (by omega), wsucc (n := x.length) (by omega) (by omega), Int.toNat_natCast]
theorem toBoolS_ev (x : List Bool) (hx : x.length ≤ 35184372088832) : Ev (fun k => laws_toBoolS.f k x) x := by
  unfold laws_toBoolS.f
  refine ev_pos (by omega) (ev_pos (by omega) ?_)
  exact toBoolS_l0 x hx x.length 0 _ (by omega) (by simp) (by simp)

theorem szAutomaton_cases (n : Int) (x : List Int) (y : List Bool) (left : Int) (hl : 0 ≤ left ∧ left ≤ 1048576) (hx : x.length ≤ 9223372036854775807) (hy : y.length ≤ 9223372036854775807) :
    ∃ r, laws_szAutomaton.f n x y left = some r ∧ (r < 0 ∨ (x.length + y.length ≤ left ∧ r = left - x.length - y.length)) := by
  unfold laws_szAutomaton.f laws_szIntS.f laws_szBoolS.f
  rw [w64 (by omega) (by omega)]
  by_cases h1 : left - (x.length : Int) < 0
  · exact ⟨-1, by simp [h1], .inl (by omega)⟩
  · simp only [if_neg h1, bsome]
    rw [w64 (by omega) (by omega)]
    by_cases h2 : left - (x.length : Int) - (y.length : Int) < 0
    · exact ⟨-1, by simp [h1, h2], .inl (by omega)⟩
    · exact ⟨left - (x.length : Int) - (y.length : Int), by simp [h1, h2], .inr ⟨by omega, rfl⟩⟩
theorem toAutomaton_ev (n : Int) (x : List Int) (y : List Bool) (hx : x.length ≤ 1048576) (hy : y.length ≤ 1048576) : Ev (fun k => laws_toAutomaton.f k n x y) (n, x, y) := by
  unfold laws_toAutomaton.f
  exact Ev.bind (toIntS_ev x (by omega)) (Ev.bind (toBoolS_ev y (by omega)) (Ev.now _))
theorem eqAutomaton_ev (n : Int) (x : List Int) (y : List Bool) (hx : x.length ≤ 1048576) (hy : y.length ≤ 1048576) : Ev (fun k => laws_eqAutomaton.f k n x y n x y) true := by
  unfold laws_eqAutomaton.f
  refine ev_pos rfl (Ev.bind (eqIntS_ev x (by omega)) (ev_pos rfl (Ev.bind (eqBoolS_ev y (by omega)) (ev_pos rfl (Ev.now _)))))

theorem impl_next_eq {n m s c : Int} {x : List Int} {y : List Bool} (hn : 1 ≤ n ∧ n ≤ 4) (hm : 1 ≤ m ∧ m ≤ 80) (hl : (x.length : Int) = n * m) (hs : 0 ≤ s ∧ s < m) (hc : 0 ≤ c ∧ c < n) : impl_Automaton_next.f n x y s c = some (N n x s c) := by
  have I := A_idx hn hm hl hs hc
  unfold impl_Automaton_next.f
  rw [if_pos I.g, if_pos I.g', I.r]

theorem spec_WordOk_l0 (k : Int) (hk : 1 ≤ k ∧ k ≤ 4) (w : ByteArray) (hs : w.size ≤ 16) : ∀ (d i : Nat), i + d = w.size → Ev (fun n => spec_WordOk.l0 n k w (i : Int)) (((bytesOf w).drop i).all (letter k)) := by
  intro d
  induction d with
  | zero =>
    intro i hi
    rw [List.drop_of_length_le (by rw [bytesOf_length]; omega)]
    exact Ev.step (f := fun _ => some true) (fun n => by simp only [spec_WordOk.l0]; rw [if_neg (by omega)]) (Ev.now _)
  | succ d ih =>
    intro i hi
    have hlt : i < w.size := by omega
    rw [drop_bytes w i hlt, List.all_cons]
    have hr := bt_range w i
    by_cases h1 : bt w i < 97
    · rw [letter_false (.inl h1), Bool.false_and]
      exact Ev.step (f := fun _ => some false) (fun n => by simp only [spec_WordOk.l0]; rw [if_pos (by omega), if_pos (by omega), if_pos h1]) (Ev.now _)
    · by_cases h2 : 97 + k ≤ bt w i
      · rw [letter_false (.inr h2), Bool.false_and]
        exact Ev.step (f := fun _ => some false) (fun n => by simp only [spec_WordOk.l0]; rw [if_pos (by omega), if_pos (by omega), if_neg h1, if_pos (by omega)]) (Ev.now _)
      · rw [letter_true (by omega) (by omega), Bool.true_and]
        exact Ev.step (f := fun n => spec_WordOk.l0 n k w ((i + 1 : Nat) : Int)) (fun n => by simp only [spec_WordOk.l0]; rw [if_pos (by omega), if_pos (by omega), if_neg h1, if_neg (by omega), w64 (by omega) (by omega)]; simp) (ih (i + 1) (by omega))
theorem spec_WordOk_ev (k : Int) (w : ByteArray) : Ev (fun n => spec_WordOk.f n k w) (wordOk k w) := by
  unfold spec_WordOk.f
  simp only [spec_l01In_eq, bsome]
  by_cases hk : 1 ≤ k ∧ k ≤ 4
  · have e1 : (decide (1 ≤ k) && decide (k ≤ 4)) = true := by simp [hk.1, hk.2]
    simp only [e1, if_true]
    by_cases hs : w.size ≤ 16
    · have hs' : decide ((w.size : Int) > 16) = false := by simp; omega
      have := spec_WordOk_l0 k hk w hs w.size 0 (by omega)
      rw [hs']
      refine Ev.step (f := fun n => spec_WordOk.l0 n k w 0) (fun n => by simp [spec_WordOk.j0]) ?_
      simpa [wordOk, e1, hk.1, hk.2, hs] using this
    · have hs' : decide ((w.size : Int) > 16) = true := by simp; omega
      rw [hs']
      refine Ev.step (f := fun n => some false) (fun n => by simp [spec_WordOk.j0]) ?_
      have : wordOk k w = false := by simp [wordOk, hs]
      rw [this]; exact Ev.now _
  · have e1 : (decide (1 ≤ k) && decide (k ≤ 4)) = false := dec_and_false (by omega)
    simp only [e1, if_neg (show ¬ (false = true) by decide)]
    refine Ev.step (f := fun n => some false) (fun n => by simp [spec_WordOk.j0]) ?_
    have : wordOk k w = false := by simp [wordOk, e1]
    rw [this]; exact Ev.now _

/-- From state s on, is the rest of the word taken? -/
def acc (n : Int) (x : List Int) (y : List Bool) : List Int → Int → Bool
  | [], s => rdOf false y s
  | b :: l, s => if N n x s (b - 97) < 0 then false else acc n x y l (N n x s (b - 97))
section
variable {n : Int} {x : List Int} {y : List Bool} {w : ByteArray}
theorem spec_acc (hn : 1 ≤ n ∧ n ≤ 4) (hm : 1 ≤ y.length ∧ y.length ≤ 80) (hl : (x.length : Int) = n * y.length) (hx : ∀ z ∈ x, -1 ≤ z ∧ z ≤ (y.length : Int) - 1) (hs : w.size ≤ 16) (hw : ∀ b ∈ bytesOf w, 97 ≤ b ∧ b < 97 + n) :
    ∀ (d i : Nat) (s : Int), i + d = w.size → 0 ≤ s ∧ s < y.length → Ev (fun k => spec_Accepts.l0 k w s (i : Int) n x y) (acc n x y ((bytesOf w).drop i) s) := by
  intro d
  induction d with
  | zero =>
    intro i s hi hs2
    rw [List.drop_of_length_le (by rw [bytesOf_length]; omega)]
    exact Ev.step (f := fun _ => some (rdOf false y s)) (fun k => by simp only [spec_Accepts.l0]; rw [if_neg (by omega), if_pos (by omega), if_pos (by omega), if_pos (by omega)]) (Ev.now _)
  | succ d ih =>
    intro i s hi hs2
    have hlt : i < w.size := by omega
    have hb := hw _ (bt_mem hlt)
    have hc : (bt w i - 97) % 256 = bt w i - 97 := by omega
    have I := A_idx (x := x) hn (m := y.length) (by omega) hl hs2 (c := bt w i - 97) (by omega)
    have ht := N_range (x := x) hn (m := y.length) (by omega) hl hx hs2 (c := bt w i - 97) (by omega)
    rw [drop_bytes w i hlt, acc]
    have hneg : ∀ j : Nat, j ≤ w.size → ∀ t : Int, t < 0 → Ev (fun k => spec_Accepts.l0 k w t (j : Int) n x y) false := by
      intro j hj t htn
      refine Ev.step (f := fun _ => some false) (fun k => ?_) (Ev.now _)
      simp only [spec_Accepts.l0]
      by_cases hjl : (j : Int) < (w.size : Int)
      · rw [if_pos hjl, if_neg (by omega)]
      · rw [if_neg hjl, if_neg (by omega)]
    by_cases hneg2 : N n x s (bt w i - 97) < 0
    · rw [if_pos hneg2]
      refine Ev.step (fun k => ?_) (hneg (i + 1) (by omega) (N n x s (bt w i - 97)) hneg2)
      simp only [spec_Accepts.l0, hc, I.r]
      rw [if_pos (by omega), if_pos (by omega), if_pos (by omega), if_pos I.g, if_pos I.g', w64 (by omega) (by omega)]
      simp
    · rw [if_neg hneg2]
      refine Ev.step (fun k => ?_) (ih (i + 1) (N n x s (bt w i - 97)) (by omega) (by omega))
      simp only [spec_Accepts.l0, hc, I.r]
      rw [if_pos (by omega), if_pos (by omega), if_pos (by omega), if_pos I.g, if_pos I.g', w64 (by omega) (by omega)]
      simp
theorem impl_acc (hn : 1 ≤ n ∧ n ≤ 4) (hm : 1 ≤ y.length ∧ y.length ≤ 80) (hl : (x.length : Int) = n * y.length) (hx : ∀ z ∈ x, -1 ≤ z ∧ z ≤ (y.length : Int) - 1) (hs : w.size ≤ 16) (hw : ∀ b ∈ bytesOf w, 97 ≤ b ∧ b < 97 + n) :
    ∀ (d i : Nat) (s : Int), i + d = w.size → 0 ≤ s ∧ s < y.length → Ev (fun k => impl_Accepts.l0 k w s (w.size : Int) (i : Int) n x y) (acc n x y ((bytesOf w).drop i) s) := by
  intro d
  induction d with
  | zero =>
    intro i s hi hs2
    rw [List.drop_of_length_le (by rw [bytesOf_length]; omega)]
    exact Ev.step (f := fun _ => some (rdOf false y s)) (fun k => by simp only [impl_Accepts.l0]; rw [if_neg (by omega), if_pos (by omega), if_pos (by omega)]) (Ev.now _)
  | succ d ih =>
    intro i s hi hs2
    have hlt : i < w.size := by omega
    have hb := hw _ (bt_mem hlt)
    have hc : (bt w i - 97) % 256 = bt w i - 97 := by omega
    have I := impl_next_eq (x := x) (y := y) hn (m := y.length) (by omega) hl hs2 (c := bt w i - 97) (by omega)
    have ht := N_range (x := x) hn (m := y.length) (by omega) hl hx hs2 (c := bt w i - 97) (by omega)
    rw [drop_bytes w i hlt, acc]
    by_cases hneg2 : N n x s (bt w i - 97) < 0
    · rw [if_pos hneg2]
      refine Ev.step (f := fun _ => some false) (fun k => ?_) (Ev.now _)
      simp only [impl_Accepts.l0, hc, I, bsome]
      rw [if_pos (by omega), if_pos (by omega), if_pos (by omega), if_pos hneg2]
    · rw [if_neg hneg2]
      refine Ev.step (fun k => ?_) (ih (i + 1) (N n x s (bt w i - 97)) (by omega) (by omega))
      simp only [impl_Accepts.l0, hc, I, bsome]
      rw [if_pos (by omega), if_pos (by omega), if_pos (by omega), if_neg hneg2, w64 (by omega) (by omega)]
      simp
end
theorem both (n : Int) (x : List Int) (y : List Bool) (w : ByteArray) (hx : x.length ≤ 1048576) (hy : y.length ≤ 1048576) : ∃ r, Ev (fun k => spec_Accepts.f k n x y w) r ∧ Ev (fun k => impl_Accepts.f k n x y w) r := by
  unfold spec_Accepts.f impl_Accepts.f
  have s0 := spec_AutomatonOk_ev n x y hx hy
  have i0 := impl_AutomatonOk_eq n x y hy
  have sbad : ∀ b, b = true → Ev (fun k => spec_Accepts.j0 k w b n x y) false := fun b hb => Ev.step (f := fun _ => some false) (fun k => by subst hb; simp [spec_Accepts.j0]) (Ev.now _)
  have ibad : ∀ b, b = true → Ev (fun k => impl_Accepts.j0 k w b n x y) false := fun b hb => Ev.step (f := fun _ => some false) (fun k => by subst hb; simp [impl_Accepts.j0]) (Ev.now _)
  cases ha : autOk n x y with
  | false =>
    rw [ha] at s0 i0
    exact ⟨false, Ev.bind s0 (sbad _ rfl), by simp only [i0, bsome]; exact ibad _ rfl⟩
  | true =>
    rw [ha] at s0 i0
    obtain ⟨hn, hm, hl, hx'⟩ := autOk_iff.1 ha
    have s1 := spec_WordOk_ev n w
    have i1 := impl_WordOk_ev n w
    cases hw : wordOk n w with
    | false =>
      rw [hw] at s1 i1
      refine ⟨false, Ev.bind s0 ?_, ?_⟩
      · simp only [if_true]
        exact Ev.bind (f := fun k b => spec_Accepts.j0 k w (!b) n x y) s1 (sbad _ rfl)
      · simp only [i0, bsome, if_true]
        exact Ev.bind (f := fun k b => impl_Accepts.j0 k w (!b) n x y) i1 (ibad _ rfl)
    | true =>
      rw [hw] at s1 i1
      obtain ⟨_, _, hs, hwl⟩ := wordOk_iff.1 hw
      refine ⟨acc n x y (bytesOf w) 0, Ev.bind s0 ?_, ?_⟩
      · simp only [if_true]
        refine Ev.bind (f := fun k b => spec_Accepts.j0 k w (!b) n x y) s1 ?_
        exact Ev.step (f := fun k => spec_Accepts.l0 k w 0 0 n x y) (fun k => by simp [spec_Accepts.j0]) (spec_acc hn hm hl hx' hs hwl w.size 0 0 (by omega) (by omega))
      · simp only [i0, bsome, if_true]
        refine Ev.bind (f := fun k b => impl_Accepts.j0 k w (!b) n x y) i1 ?_
        exact Ev.step (f := fun k => impl_Accepts.l0 k w 0 (w.size : Int) 0 n x y) (fun k => by simp [impl_Accepts.j0]) (impl_acc hn hm hl hx' hs hwl w.size 0 0 (by omega) (by omega))
theorem FnExactAccepts : ∀ (a0_0 : Int) (l0_1 : List Int) (l0_2 : List Bool) (a1 : ByteArray), (Lit.int .i64 a0_0).wf = true → l0_1.length ≤ 9223372036854775807 → (∀ x ∈ l0_1, (fun x : Int => (Lit.int .i64 x).wf = true) x) → l0_2.length ≤ 9223372036854775807 → (∀ x ∈ l0_2, (fun _ : Bool => True) x) → a1.size ≤ 9223372036854775807 → ∃ k, PFnExactAccepts.laws_FnExactAccepts.f k a0_0 l0_1 l0_2 a1 = some true := by
  intro n x y w hn hx _ hy _ hw
  have : Ev (fun k => laws_FnExactAccepts.f k n x y w) true := by
    unfold laws_FnExactAccepts.f
    by_cases hbig : (w.size : Int) > 1048576
    · exact ev_pos hbig (Ev.now _)
    refine ev_neg hbig ?_
    obtain ⟨r, h1, h2⟩ := szAutomaton_cases n x y 1048576 (by omega) hx hy
    rw [h1]
    simp only [bsome]
    by_cases hr : r < 0
    · exact ev_pos hr (Ev.now _)
    · have hx' : x.length ≤ 1048576 := by omega
      have hy' : y.length ≤ 1048576 := by omega
      obtain ⟨q, s, t⟩ := both n x y w hx' hy'
      refine ev_neg hr (Ev.bind (toAutomaton_ev n x y hx' hy') (Ev.bind s (Ev.bind (toAutomaton_ev n x y hx' hy') (Ev.bind t ?_))))
      simp only [bne_self_eq_false]
      refine ev_neg (by decide) (Ev.bind (toAutomaton_ev n x y hx' hy') (Ev.bind (eqAutomaton_ev n x y hx' hy') (ev_pos rfl (Ev.now _))))
  exact this.rounds

end Go.Proofs.Ytajacklnhfjmpaa.Pure
