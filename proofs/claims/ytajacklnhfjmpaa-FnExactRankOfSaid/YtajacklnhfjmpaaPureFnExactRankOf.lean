/- The plain statement of the law FnExactRankOf: what the printed functions come to is true at every input of the kinds stated. No conditions beyond those of the printed statement. -/
import Derived.Test.YtajacklnhfjmpaaPFnExactRankOfx0
import Derived.Test.YtajacklnhfjmpaaPFnExactRankOfx6
import Derived.Test.YtajacklnhfjmpaaBase
import Derived.Test.YtajacklnhfjmpaaPlain
import Derived.Laws.StructEq
namespace Go.Proofs.Ytajacklnhfjmpaa.Pure
open Go.RowKit Go.Proofs.Ytajacklnhfjmpaa.PFnExactRankOf Go.Proofs.YtajacklnhfjmpaaW.PrintWords Go.Proofs.YtajacklnhfjmpaaW.PrintLast Go.Proofs.Ytajacklnhfjmpaa.Base
set_option linter.unusedVariables false
set_option linter.unusedSimpArgs false

theorem impl_within_eq (a b c : Int) : impl_within.f a b c = some (decide (b ≤ a) && decide (a ≤ c)) := by
  unfold impl_within.f
  by_cases h : b ≤ a <;> simp [h]

theorem spec_l01In_eq (a b c : Int) : spec_l01In.f a b c = some (decide (b ≤ a) && decide (a ≤ c)) := by
  unfold spec_l01In.f
  by_cases h : b ≤ a <;> simp [h]

/-! ### reading a row -/
theorem rd_nat (l : List Int) (i : Nat) (h : i < l.length) : rd l (i : Int) = l[i] := by
  simp [rd, List.getD_eq_getElem?_getD, h]
theorem drop_ints (l : List Int) (i : Nat) (h : i < l.length) : l.drop i = rd l (i : Int) :: l.drop (i + 1) := by
  rw [List.drop_eq_getElem_cons h, rd_nat l i h]
theorem set_take {α : Type} (x y : List α) (i : Nat) (d : α) (hi : i < x.length) (hl : y.length = x.length) (h : y.take i = x.take i) : (y.set i (x.getD i d)).take (i + 1) = x.take (i + 1) := by
  rw [List.take_succ_eq_append_getElem (by simp; omega), List.take_succ_eq_append_getElem hi, List.take_set_of_le (Nat.le_refl i), h]
  simp [List.getD_eq_getElem?_getD, hi]
theorem wsucc {i : Nat} {n : Nat} (h : i < n) (hn : n ≤ 140737488351232) : wrap64 ((i : Int) + 1) = ((i + 1 : Nat) : Int) := by rw [w64 (by omega) (by omega)]; simp

/-! ### arcs -/
abbrev Arc := S76
abbrev ra (l : List Arc) (i : Int) : Arc := rd_T76 l i
theorem ra_take (l : List Arc) (i j : Nat) (h : j < i) : ra (l.take i) j = ra l j := by
  simp only [ra, rd_T76, List.getD_eq_getElem?_getD, Int.toNat_natCast, List.getElem?_take, if_pos h]
def lessA (a b : Arc) : Bool := if a.f0 = b.f0 then (if a.f2 = b.f2 then decide (a.f1 < b.f1) else decide (a.f2 < b.f2)) else decide (a.f0 < b.f0)
theorem lessA_iff (a b : Arc) : lessA a b = true ↔ a.f0 < b.f0 ∨ a.f0 = b.f0 ∧ (a.f2 < b.f2 ∨ a.f2 = b.f2 ∧ a.f1 < b.f1) := by
  unfold lessA
  split
  · split <;> simp <;> omega
  · simp; omega
theorem lessA_trans {a b c : Arc} (h : lessA a b = true) (h' : lessA b c = true) : lessA a c = true := by
  rw [lessA_iff] at *; omega
def cmpI (a b : Int) : Int := if a < b then -1 else if a > b then 1 else 0
def or3 (x y z : Int) : Int := if x = 0 then (if y = 0 then z else y) else x
theorem compare_eq (a b : Int) : cmp_Compare_int.f a b = some (cmpI a b) := by
  unfold cmp_Compare_int.f cmp_isNaN_int.f cmpI
  simp only [bne_self_eq_false, bsome]
  rw [if_neg (by decide), if_neg (by decide)]
  split
  · rfl
  · split <;> rfl
theorem or_ev (x y z : Int) : Ev (fun k => cmp_Or_int.f k [x, y, z]) (or3 x y z) := by
  unfold cmp_Or_int.f or3
  have e3 : Ev (fun k => cmp_Or_int.l0 k 0 [x, y, z] 3 3) 0 := Ev.step (f := fun _ => some 0) (fun k => by simp only [cmp_Or_int.l0]; rw [if_neg (by omega)]) (Ev.now _)
  have w1 : wrap64 (0 + 1) = 1 := w64 (by omega) (by omega)
  have w2 : wrap64 (1 + 1) = 2 := w64 (by omega) (by omega)
  have w3 : wrap64 (2 + 1) = 3 := w64 (by omega) (by omega)
  have r0 : rd [x, y, z] 0 = x := rfl
  have r1 : rd [x, y, z] 1 = y := rfl
  have r2 : rd [x, y, z] 2 = z := rfl
  have hl : (([x, y, z] : List Int).length : Int) = 3 := rfl
  have e2 : Ev (fun k => cmp_Or_int.l0 k 0 [x, y, z] 3 2) z := by
    by_cases h : z = 0
    · rw [h] at e3 ⊢
      exact Ev.step (fun k => by simp only [cmp_Or_int.l0, w3]; rw [h] at r2; rw [if_pos (by omega), if_pos (by omega), if_pos (by simp), if_pos r2]) e3
    · exact Ev.step (f := fun _ => some z) (fun k => by simp only [cmp_Or_int.l0, r2]; rw [if_pos (by omega), if_pos (by omega), if_pos (by simp), if_neg h]) (Ev.now _)
  have e1 : Ev (fun k => cmp_Or_int.l0 k 0 [x, y, z] 3 1) (if y = 0 then z else y) := by
    by_cases h : y = 0
    · rw [if_pos h]
      exact Ev.step (fun k => by simp only [cmp_Or_int.l0, w2, r1]; rw [if_pos (by omega), if_pos (by omega), if_pos (by simp), if_pos h]) e2
    · rw [if_neg h]
      exact Ev.step (f := fun _ => some y) (fun k => by simp only [cmp_Or_int.l0, r1]; rw [if_pos (by omega), if_pos (by omega), if_pos (by simp), if_neg h]) (Ev.now _)
  rw [hl]
  by_cases h : x = 0
  · rw [if_pos h]
    exact Ev.step (fun k => by simp only [cmp_Or_int.l0, w1, r0]; rw [if_pos (by omega), if_pos (by omega), if_pos (by simp), if_pos h]) e1
  · rw [if_neg h]
    exact Ev.step (f := fun _ => some x) (fun k => by simp only [cmp_Or_int.l0, r0]; rw [if_pos (by omega), if_pos (by omega), if_pos (by simp), if_neg h]) (Ev.now _)
def cmpA (a b : Arc) : Int := or3 (cmpI a.f0 b.f0) (cmpI a.f2 b.f2) (cmpI a.f1 b.f1)
theorem cmpA_ev (a b : Arc) : Ev (fun k => impl_compareArcs.f k a.f0 a.f1 a.f2 b.f0 b.f1 b.f2) (cmpA a b) := by
  unfold impl_compareArcs.f
  simp only [compare_eq, bsome]
  exact Ev.bind (f := fun _ x => some x) (or_ev _ _ _) (Ev.now _)
theorem cmpA_ge (a b : Arc) : cmpA a b ≥ 0 ↔ lessA a b = false := by
  have h := lessA_iff a b
  have h2 : lessA a b = false ↔ ¬ lessA a b = true := by simp
  rw [h2, h]
  unfold cmpA or3 cmpI
  repeat' split
  all_goals omega
theorem spec_less_eq (a b : Arc) : spec_l25Less.f a.f0 a.f1 a.f2 b.f0 b.f1 b.f2 = some (lessA a b) := by
  unfold spec_l25Less.f lessA
  split
  · split <;> rfl
  · rfl
def okA (g v : Int) (a : Arc) : Bool := (decide (0 ≤ a.f0) && decide (a.f0 ≤ v - 1)) && ((decide (0 ≤ a.f1) && decide (a.f1 ≤ v - 1)) && (decide (0 ≤ a.f2) && decide (a.f2 ≤ g - 1)))
def badA (a b : Arc) : Bool := decide (a.f2 = b.f2 ∧ (a.f0 = b.f0 ∨ a.f1 = b.f1))
def meetA (a b : Arc) : Bool := decide (a.f2 = b.f2 ∧ ((a.f0 = b.f0 ∧ a.f1 ≠ b.f1) ∨ (a.f1 = b.f1 ∧ a.f0 ≠ b.f0)))
def ordA (l : List Arc) (i : Nat) : Bool := if 0 < i then lessA (ra l ((i - 1 : Nat) : Int)) (ra l i) else true
def headOk (g v : Int) (l : List Arc) (i : Nat) : Bool := okA g v (ra l i) && ordA l i
def foldedOk (g v : Int) (l : List Arc) : Bool :=
  (decide (1 ≤ g) && decide (g ≤ 2)) && ((decide (1 ≤ v) && decide (v ≤ 96)) && allFrom (fun i => headOk g v l i && allFrom (fun j => !badA (ra l i) (ra l j)) 0 i) 0 l.length)
theorem sorted_of (l : List Arc) (m : Nat) (h : ∀ i, i < m → ordA l i = true) : ∀ (d j : Nat), j + d + 1 < m + 0 → lessA (ra l j) (ra l ((j + d + 1 : Nat) : Int)) = true
  | 0, j, hj => by
    have := h (j + 1) (by omega)
    unfold ordA at this
    rw [if_pos (by omega)] at this
    simpa using this
  | d + 1, j, hj => by
    have h1 := sorted_of l m h d j (by omega)
    have h2 := h (j + d + 1 + 1) (by omega)
    unfold ordA at h2
    rw [if_pos (by omega)] at h2
    rw [show j + d + 1 + 1 - 1 = j + d + 1 by omega] at h2
    rw [show j + (d + 1) + 1 = j + d + 1 + 1 by omega]
    exact lessA_trans h1 h2
theorem bad_meet (l : List Arc) (h : ∀ i, i < l.length → ordA l i = true) (i j : Nat) (hi : i < l.length) (hj : j < i) : badA (ra l i) (ra l j) = meetA (ra l i) (ra l j) := by
  have hs := sorted_of l l.length h (i - j - 1) j (by omega)
  rw [show j + (i - j - 1) + 1 = i by omega, lessA_iff] at hs
  unfold badA meetA
  rw [decide_eq_decide]
  omega
/-- The two ways to ask it come to the same. -/
theorem two_ways (g v : Int) (l : List Arc) : allFrom (fun i => headOk g v l i && allFrom (fun j => !badA (ra l i) (ra l j)) 0 i) 0 l.length = (allFrom (fun i => headOk g v l i) 0 l.length && allFrom (fun i => allFrom (fun j => !meetA (ra l i) (ra l j)) 0 i) 0 l.length) := by
  rw [Bool.eq_iff_iff, Bool.and_eq_true]
  simp only [allFrom_iff, Bool.and_eq_true, Nat.zero_add]
  constructor
  · intro h
    have ho : ∀ i, i < l.length → ordA l i = true := fun i hi => by
      have := (h i (by omega) hi).1
      unfold headOk at this
      simp at this
      exact this.2
    exact ⟨fun i h1 h2 => (h i h1 h2).1, fun i h1 h2 j h3 h4 => by rw [← bad_meet l ho i j h2 h4]; exact (h i h1 h2).2 j h3 h4⟩
  · rintro ⟨h1, h2⟩ i h3 h4
    have ho : ∀ i, i < l.length → ordA l i = true := fun i hi => by
      have := h1 i (by omega) hi
      unfold headOk at this
      simp at this
      exact this.2
    exact ⟨h1 i h3 h4, fun j h5 h6 => by rw [bad_meet l ho i j h4 h6]; exact h2 i h3 h4 j h5 h6⟩
section
variable {l : List Arc}
theorem impl_meet_l1 (hl : l.length ≤ 1048576) (i : Nat) (hi : i < l.length)
    (h : ∃ r : Int × Int × Bool, Ev (fun k => impl_meetingArcs.l0 k l l (l.length : Int) ((i + 1 : Nat) : Int)) r ∧ r.2.2 = !allFrom (fun i => allFrom (fun j => !meetA (ra l i) (ra l j)) 0 i) (i + 1) (l.length - (i + 1))) :
    ∀ (d j : Nat), j + d = i → ∃ r : Int × Int × Bool, Ev (fun k => impl_meetingArcs.l1 k l l (l.length : Int) (i : Int) (l.take i) ((l.take i).length : Int) (j : Int) (ra l i).f0 (ra l i).f1 (ra l i).f2) r ∧
      r.2.2 = !(allFrom (fun j => !meetA (ra l i) (ra l j)) j d && allFrom (fun i => allFrom (fun j => !meetA (ra l i) (ra l j)) 0 i) (i + 1) (l.length - (i + 1))) := by
  have hlen : (l.take i).length = i := by rw [List.length_take]; omega
  intro d
  induction d with
  | zero =>
    intro j hj
    obtain ⟨r, h1, h2⟩ := h
    refine ⟨r, Ev.step (fun k => ?_) h1, by rw [h2, allFrom, Bool.true_and]⟩
    simp only [impl_meetingArcs.l1, hlen]
    rw [if_neg (by omega), wsucc (n := l.length) hi (by omega)]
  | succ d ih =>
    intro j hj
    obtain ⟨r, h1, h2⟩ := ih (j + 1) (by omega)
    have et : rd_T76 (l.take i) (j : Int) = ra l j := ra_take l i j (by omega)
    have ew := wsucc (i := j) (n := l.length) (by omega) (by omega)
    rw [allFrom]
    rw [hlen] at h1
    cases hm : meetA (ra l i) (ra l j) with
    | false =>
      refine ⟨r, ?_, by rw [h2]; simp⟩
      have hm2 : ¬ ((ra l i).f2 = (ra l j).f2 ∧ (((ra l i).f0 = (ra l j).f0 ∧ (ra l i).f1 ≠ (ra l j).f1) ∨ ((ra l i).f1 = (ra l j).f1 ∧ (ra l i).f0 ≠ (ra l j).f0))) := by simpa [meetA] using hm
      by_cases c2 : (ra l i).f2 = (ra l j).f2
      · by_cases c0 : (ra l i).f0 = (ra l j).f0
        · have c1 : (ra l i).f1 = (ra l j).f1 := Classical.byContradiction fun hne => hm2 ⟨c2, .inl ⟨c0, hne⟩⟩
          refine Ev.step (f := fun k => impl_meetingArcs.j2 k l l (l.length : Int) (i : Int) (l.take i) (i : Int) (j : Int) false (ra l i).f0 (ra l i).f1 (ra l i).f2 (ra l j).f0 (ra l j).f1 (ra l j).f2) (fun k => ?_) (Ev.step (fun k => ?_) h1)
          · simp only [impl_meetingArcs.l1, hlen, et]
            rw [if_pos (by omega), if_pos (by omega), if_pos (by omega), if_pos c2, if_pos c0, c1, bne_self_eq_false]
          · simp only [impl_meetingArcs.j2]
            rw [if_neg (by decide), if_pos c1, if_pos c0, ew]
        · have c1 : ¬ (ra l i).f1 = (ra l j).f1 := fun he => hm2 ⟨c2, .inr ⟨he, c0⟩⟩
          refine Ev.step (f := fun k => impl_meetingArcs.j2 k l l (l.length : Int) (i : Int) (l.take i) (i : Int) (j : Int) false (ra l i).f0 (ra l i).f1 (ra l i).f2 (ra l j).f0 (ra l j).f1 (ra l j).f2) (fun k => ?_) (Ev.step (fun k => ?_) h1)
          · simp only [impl_meetingArcs.l1, hlen, et]
            rw [if_pos (by omega), if_pos (by omega), if_pos (by omega), if_pos c2, if_neg c0]
          · simp only [impl_meetingArcs.j2]
            rw [if_neg (by decide), if_neg c1, ew]
      · refine Ev.step (fun k => ?_) h1
        simp only [impl_meetingArcs.l1, hlen, et]
        rw [if_pos (by omega), if_pos (by omega), if_pos (by omega), if_neg c2, ew]
    | true =>
      have hm2 : (ra l i).f2 = (ra l j).f2 ∧ (((ra l i).f0 = (ra l j).f0 ∧ (ra l i).f1 ≠ (ra l j).f1) ∨ ((ra l i).f1 = (ra l j).f1 ∧ (ra l i).f0 ≠ (ra l j).f0)) := by simpa [meetA] using hm
      obtain ⟨c2, hm2⟩ := hm2
      by_cases c0 : (ra l i).f0 = (ra l j).f0
      · have c1 : ¬ (ra l i).f1 = (ra l j).f1 := by
          rcases hm2 with h | h
          · exact h.2
          · exact absurd c0 h.2
        refine ⟨((ra l i).f1, (ra l j).f1, true), ?_, by simp⟩
        refine Ev.step (f := fun k => impl_meetingArcs.j2 k l l (l.length : Int) (i : Int) (l.take i) (i : Int) (j : Int) true (ra l i).f0 (ra l i).f1 (ra l i).f2 (ra l j).f0 (ra l j).f1 (ra l j).f2) (fun k => ?_) (Ev.step (f := fun _ => some _) (fun k => ?_) (Ev.now _))
        · simp only [impl_meetingArcs.l1, hlen, et]
          rw [if_pos (by omega), if_pos (by omega), if_pos (by omega), if_pos c2, if_pos c0, show ((ra l i).f1 != (ra l j).f1) = true from bne_iff_ne.2 c1]
        · simp [impl_meetingArcs.j2]
      · have c1 : (ra l i).f1 = (ra l j).f1 := by
          rcases hm2 with h | h
          · exact absurd h.1 c0
          · exact h.1
        refine ⟨((ra l i).f0, (ra l j).f0, true), ?_, by simp⟩
        refine Ev.step (f := fun k => impl_meetingArcs.j2 k l l (l.length : Int) (i : Int) (l.take i) (i : Int) (j : Int) false (ra l i).f0 (ra l i).f1 (ra l i).f2 (ra l j).f0 (ra l j).f1 (ra l j).f2) (fun k => ?_) (Ev.step (f := fun _ => some _) (fun k => ?_) (Ev.now _))
        · simp only [impl_meetingArcs.l1, hlen, et]
          rw [if_pos (by omega), if_pos (by omega), if_pos (by omega), if_pos c2, if_neg c0]
        · simp only [impl_meetingArcs.j2]
          rw [if_neg (by decide), if_pos c1, if_neg c0]
theorem impl_meet_l0 (hl : l.length ≤ 1048576) : ∀ (d i : Nat), i + d = l.length → ∃ r : Int × Int × Bool, Ev (fun k => impl_meetingArcs.l0 k l l (l.length : Int) (i : Int)) r ∧ r.2.2 = !allFrom (fun i => allFrom (fun j => !meetA (ra l i) (ra l j)) 0 i) i d := by
  intro d
  induction d with
  | zero =>
    intro i hi
    exact ⟨(0, 0, false), Ev.step (f := fun _ => some (0, 0, false)) (fun k => by simp only [impl_meetingArcs.l0]; rw [if_neg (by omega)]) (Ev.now _), by simp [allFrom]⟩
  | succ d ih =>
    intro i hi
    have ed : d = l.length - (i + 1) := by omega
    have h := ih (i + 1) (by omega)
    rw [ed] at h
    obtain ⟨r, h1, h2⟩ := impl_meet_l1 hl i (by omega) h i 0 (by omega)
    refine ⟨r, Ev.step (f := fun k => impl_meetingArcs.l1 k l l (l.length : Int) (i : Int) (l.take i) ((l.take i).length : Int) 0 (ra l i).f0 (ra l i).f1 (ra l i).f2) (fun k => ?_) h1, by rw [h2, allFrom, ed]⟩
    simp only [impl_meetingArcs.l0, Int.toNat_natCast, bsome]
    rw [if_pos (by omega), if_pos (by omega), if_pos (by omega), if_pos (by omega)]
theorem impl_FoldedOk_l0 (g v : Int) (hg : 1 ≤ g ∧ g ≤ 2) (hv : 1 ≤ v ∧ v ≤ 96) (hl : l.length ≤ 1048576) : ∀ (d i : Nat), i + d = l.length → Ev (fun k => impl_FoldedOk.l0 k l (l.length : Int) (i : Int) g v l) (allFrom (fun i => headOk g v l i) i d && allFrom (fun i => allFrom (fun j => !meetA (ra l i) (ra l j)) 0 i) 0 l.length) := by
  intro d
  induction d with
  | zero =>
    intro i hi
    obtain ⟨r, h1, h2⟩ := impl_meet_l0 hl l.length 0 (by omega)
    rw [allFrom, Bool.true_and]
    have h3 : (!r.2.2) = allFrom (fun i => allFrom (fun j => !meetA (ra l i) (ra l j)) 0 i) 0 l.length := by rw [h2, Bool.not_not]
    rw [← h3]
    refine Ev.step (f := fun k => (impl_meetingArcs.f k l).bind fun x => some (!x.2.2)) (fun k => by simp only [impl_FoldedOk.l0]; rw [if_neg (by omega)]) ?_
    have h4 : Ev (fun k => impl_meetingArcs.f k l) r := h1
    exact Ev.bind (f := fun _ (x : Int × Int × Bool) => some (!x.2.2)) h4 (Ev.now _)
  | succ d ih =>
    intro i hi
    have h := ih (i + 1) (by omega)
    have ew := wsucc (i := i) (n := l.length) (by omega) (by omega)
    have e0 : impl_Folded_has.f g v l (ra l i).f0 = some (decide (0 ≤ (ra l i).f0) && decide ((ra l i).f0 ≤ v - 1)) := by
      unfold impl_Folded_has.f; rw [impl_within_eq, w64 (by omega) (by omega)]; rfl
    have e1 : impl_Folded_has.f g v l (ra l i).f1 = some (decide (0 ≤ (ra l i).f1) && decide ((ra l i).f1 ≤ v - 1)) := by
      unfold impl_Folded_has.f; rw [impl_within_eq, w64 (by omega) (by omega)]; rfl
    have e2 : impl_within.f (ra l i).f2 0 (wrap64 (g - 1)) = some (decide (0 ≤ (ra l i).f2) && decide ((ra l i).f2 ≤ g - 1)) := by
      rw [impl_within_eq, w64 (by omega) (by omega)]
    rw [allFrom, headOk]
    unfold okA
    generalize (decide (0 ≤ (ra l i).f0) && decide ((ra l i).f0 ≤ v - 1)) = b0 at *
    generalize (decide (0 ≤ (ra l i).f1) && decide ((ra l i).f1 ≤ v - 1)) = b1 at *
    generalize (decide (0 ≤ (ra l i).f2) && decide ((ra l i).f2 ≤ g - 1)) = b2 at *
    cases b0 with
    | false =>
      simp only [Bool.false_and]
      refine Ev.step (f := fun _ => some false) (fun k => ?_) (Ev.now _)
      simp only [impl_FoldedOk.l0, e0, bsome, if_true]
      rw [if_pos (by omega), if_pos (by omega), if_pos (by omega), if_neg (by decide)]
    | true =>
      cases b1 with
      | false =>
        simp only [Bool.false_and, Bool.and_false]
        refine Ev.step (f := fun _ => some false) (fun k => ?_) (Ev.now _)
        simp only [impl_FoldedOk.l0, e0, e1, bsome, if_true]
        rw [if_pos (by omega), if_pos (by omega), if_pos (by omega), if_neg (by decide)]
      | true =>
        cases b2 with
        | false =>
          simp only [Bool.false_and, Bool.and_false]
          refine Ev.step (f := fun _ => some false) (fun k => ?_) (Ev.now _)
          simp only [impl_FoldedOk.l0, e0, e1, e2, bsome, if_true]
          rw [if_pos (by omega), if_pos (by omega), if_pos (by omega), if_neg (by decide)]
        | true =>
          simp only [Bool.true_and]
          unfold ordA
          by_cases hpos : 0 < i
          · rw [if_pos hpos]
            have ep : wrap64 ((i : Int) - 1) = ((i - 1 : Nat) : Int) := by rw [w64 (by omega) (by omega)]; omega
            have hc := cmpA_ev (ra l ((i - 1 : Nat) : Int)) (ra l i)
            have hge := cmpA_ge (ra l ((i - 1 : Nat) : Int)) (ra l i)
            generalize cmpA (ra l ((i - 1 : Nat) : Int)) (ra l i) = c at *
            refine Ev.step (f := fun k => (impl_compareArcs.f k (ra l ((i - 1 : Nat) : Int)).f0 (ra l ((i - 1 : Nat) : Int)).f1 (ra l ((i - 1 : Nat) : Int)).f2 (ra l i).f0 (ra l i).f1 (ra l i).f2).bind fun t => if t ≥ 0 then some false else impl_FoldedOk.l0 k l (l.length : Int) ((i + 1 : Nat) : Int) g v l) (fun k => ?_) (Ev.bind hc ?_)
            · simp only [impl_FoldedOk.l0, e0, e1, e2, bsome, if_true, ep, ew]
              rw [if_pos (by omega), if_pos (by omega), if_pos (by omega), if_pos (by omega), if_pos (by omega), if_pos (by omega)]
            · cases hle : lessA (ra l ((i - 1 : Nat) : Int)) (ra l i) with
              | false =>
                rw [Bool.false_and, Bool.false_and]
                exact ev_pos (hge.2 hle) (Ev.now _)
              | true =>
                rw [Bool.true_and]
                refine ev_neg (fun hh => ?_) h
                rw [hge.1 hh] at hle
                cases hle
          · rw [if_neg hpos, Bool.true_and]
            refine Ev.step (fun k => ?_) h
            simp only [impl_FoldedOk.l0, e0, e1, e2, bsome, if_true, ew]
            rw [if_pos (by omega), if_pos (by omega), if_pos (by omega), if_neg (by omega)]
theorem spec_FoldedOk_l1 (g v : Int) (hl : l.length ≤ 1048576) (i : Nat) (hi : i < l.length) (r : Bool) (h : Ev (fun k => spec_FoldedOk.l0 k l (l.length : Int) ((i + 1 : Nat) : Int) g v l) r) :
    ∀ (d j : Nat), j + d = i → Ev (fun k => spec_FoldedOk.l1 k l (l.length : Int) (i : Int) (l.take i) ((l.take i).length : Int) (j : Int) g v l (ra l i).f0 (ra l i).f1 (ra l i).f2) (allFrom (fun j => !badA (ra l i) (ra l j)) j d && r) := by
  have hlen : (l.take i).length = i := by rw [List.length_take]; omega
  intro d
  induction d with
  | zero =>
    intro j hj
    rw [allFrom, Bool.true_and]
    refine Ev.step (fun k => ?_) h
    simp only [spec_FoldedOk.l1, hlen]
    rw [if_neg (by omega), wsucc (n := l.length) hi (by omega)]
  | succ d ih =>
    intro j hj
    have h1 := ih (j + 1) (by omega)
    have et : rd_T76 (l.take i) (j : Int) = ra l j := ra_take l i j (by omega)
    have ew := wsucc (i := j) (n := l.length) (by omega) (by omega)
    rw [allFrom]
    rw [hlen] at h1
    cases hm : badA (ra l i) (ra l j) with
    | false =>
      have hm2 : ¬ ((ra l i).f2 = (ra l j).f2 ∧ ((ra l i).f0 = (ra l j).f0 ∨ (ra l i).f1 = (ra l j).f1)) := by simpa [badA] using hm
      rw [Bool.not_false, Bool.true_and]
      refine Ev.step (fun k => ?_) h1
      simp only [spec_FoldedOk.l1, hlen, et]
      by_cases c2 : (ra l i).f2 = (ra l j).f2
      · rw [if_pos (by omega), if_pos (by omega), if_pos (by omega), if_pos c2, if_neg (fun c => hm2 ⟨c2, .inl c⟩), if_neg (fun c => hm2 ⟨c2, .inr c⟩), ew]
      · rw [if_pos (by omega), if_pos (by omega), if_pos (by omega), if_neg c2, ew]
    | true =>
      have hm2 : (ra l i).f2 = (ra l j).f2 ∧ ((ra l i).f0 = (ra l j).f0 ∨ (ra l i).f1 = (ra l j).f1) := by simpa [badA] using hm
      rw [Bool.not_true, Bool.false_and, Bool.false_and]
      refine Ev.step (f := fun _ => some false) (fun k => ?_) (Ev.now _)
      simp only [spec_FoldedOk.l1, hlen, et]
      by_cases c0 : (ra l i).f0 = (ra l j).f0
      · rw [if_pos (by omega), if_pos (by omega), if_pos (by omega), if_pos hm2.1, if_pos c0]
      · have c1 : (ra l i).f1 = (ra l j).f1 := hm2.2.resolve_left c0
        rw [if_pos (by omega), if_pos (by omega), if_pos (by omega), if_pos hm2.1, if_neg c0, if_pos c1]
theorem spec_FoldedOk_l0 (g v : Int) (hg : 1 ≤ g ∧ g ≤ 2) (hv : 1 ≤ v ∧ v ≤ 96) (hl : l.length ≤ 1048576) : ∀ (d i : Nat), i + d = l.length → Ev (fun k => spec_FoldedOk.l0 k l (l.length : Int) (i : Int) g v l) (allFrom (fun i => headOk g v l i && allFrom (fun j => !badA (ra l i) (ra l j)) 0 i) i d) := by
  intro d
  induction d with
  | zero =>
    intro i hi
    rw [allFrom]
    exact Ev.step (f := fun _ => some true) (fun k => by simp only [spec_FoldedOk.l0]; rw [if_neg (by omega)]) (Ev.now _)
  | succ d ih =>
    intro i hi
    have h := spec_FoldedOk_l1 g v hl i (by omega) _ (ih (i + 1) (by omega)) i 0 (by omega)
    have e0 : spec_l01In.f (ra l i).f0 0 (wrap64 (v - 1)) = some (decide (0 ≤ (ra l i).f0) && decide ((ra l i).f0 ≤ v - 1)) := by
      rw [spec_l01In_eq, w64 (by omega) (by omega)]
    have e1 : spec_l01In.f (ra l i).f1 0 (wrap64 (v - 1)) = some (decide (0 ≤ (ra l i).f1) && decide ((ra l i).f1 ≤ v - 1)) := by
      rw [spec_l01In_eq, w64 (by omega) (by omega)]
    have e2 : spec_l01In.f (ra l i).f2 0 (wrap64 (g - 1)) = some (decide (0 ≤ (ra l i).f2) && decide ((ra l i).f2 ≤ g - 1)) := by
      rw [spec_l01In_eq, w64 (by omega) (by omega)]
    have bad : Ev (fun k => spec_FoldedOk.j2 k (i : Int) l (l.length : Int) (i : Int) true g v l (ra l i).f0 (ra l i).f1 (ra l i).f2) false := Ev.step (f := fun _ => some false) (fun k => by simp [spec_FoldedOk.j2]) (Ev.now _)
    have good : Ev (fun k => spec_FoldedOk.j2 k (i : Int) l (l.length : Int) (i : Int) false g v l (ra l i).f0 (ra l i).f1 (ra l i).f2) (allFrom (fun j => !badA (ra l i) (ra l j)) 0 i && allFrom (fun i => headOk g v l i && allFrom (fun j => !badA (ra l i) (ra l j)) 0 i) (i + 1) d) := by
      refine Ev.step (f := fun k => spec_FoldedOk.l1 k l (l.length : Int) (i : Int) (l.take i) ((l.take i).length : Int) 0 g v l (ra l i).f0 (ra l i).f1 (ra l i).f2) (fun k => ?_) h
      simp only [spec_FoldedOk.j2, Int.toNat_natCast, bsome]
      rw [if_neg (by decide), if_pos (by omega), if_pos (by omega)]
    rw [allFrom, headOk, Bool.and_assoc, Bool.and_assoc]
    unfold okA
    generalize (decide (0 ≤ (ra l i).f0) && decide ((ra l i).f0 ≤ v - 1)) = b0 at *
    generalize (decide (0 ≤ (ra l i).f1) && decide ((ra l i).f1 ≤ v - 1)) = b1 at *
    generalize (decide (0 ≤ (ra l i).f2) && decide ((ra l i).f2 ≤ g - 1)) = b2 at *
    cases b0 with
    | false =>
      simp only [Bool.false_and]
      refine Ev.step (fun k => ?_) bad
      simp only [spec_FoldedOk.l0, e0, bsome, if_true]
      rw [if_pos (by omega), if_pos (by omega), if_pos (by omega), if_neg (by decide)]
    | true =>
      cases b1 with
      | false =>
        simp only [Bool.false_and, Bool.and_false]
        refine Ev.step (fun k => ?_) bad
        simp only [spec_FoldedOk.l0, e0, e1, bsome, if_true]
        rw [if_pos (by omega), if_pos (by omega), if_pos (by omega), if_neg (by decide)]
      | true =>
        cases b2 with
        | false =>
          simp only [Bool.false_and, Bool.and_false]
          refine Ev.step (fun k => ?_) bad
          simp only [spec_FoldedOk.l0, e0, e1, e2, bsome, if_true]
          rw [if_pos (by omega), if_pos (by omega), if_pos (by omega), if_neg (by decide)]
        | true =>
          simp only [Bool.true_and]
          unfold ordA
          by_cases hpos : 0 < i
          · rw [if_pos hpos]
            have ep : wrap64 ((i : Int) - 1) = ((i - 1 : Nat) : Int) := by rw [w64 (by omega) (by omega)]; omega
            have hc := spec_less_eq (ra l ((i - 1 : Nat) : Int)) (ra l i)
            generalize lessA (ra l ((i - 1 : Nat) : Int)) (ra l i) = c at *
            cases c with
            | false =>
              rw [Bool.false_and]
              refine Ev.step (fun k => ?_) bad
              simp only [spec_FoldedOk.l0, e0, e1, e2, bsome, if_true, ep, hc]
              rw [if_pos (by omega), if_pos (by omega), if_pos (by omega), if_pos (by omega), if_pos (by omega), if_pos (by omega)]
              rfl
            | true =>
              rw [Bool.true_and]
              refine Ev.step (fun k => ?_) good
              simp only [spec_FoldedOk.l0, e0, e1, e2, bsome, if_true, ep, hc]
              rw [if_pos (by omega), if_pos (by omega), if_pos (by omega), if_pos (by omega), if_pos (by omega), if_pos (by omega)]
              rfl
          · rw [if_neg hpos, Bool.true_and]
            refine Ev.step (fun k => ?_) good
            simp only [spec_FoldedOk.l0, e0, e1, e2, bsome, if_true]
            rw [if_pos (by omega), if_pos (by omega), if_pos (by omega), if_neg (by omega)]
end
theorem impl_FoldedOk_ev (g v : Int) (l : List Arc) (hl : l.length ≤ 1048576) : Ev (fun k => impl_FoldedOk.f k g v l) (foldedOk g v l) := by
  unfold impl_FoldedOk.f foldedOk
  have bad : Ev (fun k => impl_FoldedOk.j0 k true g v l) false := Ev.step (f := fun _ => some false) (fun k => by simp [impl_FoldedOk.j0]) (Ev.now _)
  simp only [impl_within_eq, bsome]
  by_cases h1 : 1 ≤ g ∧ g ≤ 2
  · by_cases h2 : 1 ≤ v ∧ v ≤ 96
    · rw [dec_and_true h1, dec_and_true h2, two_ways]
      simp only [if_true, Bool.true_and]
      refine Ev.step (f := fun k => impl_FoldedOk.l0 k l (l.length : Int) 0 g v l) (fun k => by simp only [impl_FoldedOk.j0]; rw [if_neg (by decide)]) ?_
      exact impl_FoldedOk_l0 g v h1 h2 hl l.length 0 (by omega)
    · rw [dec_and_true h1, dec_and_false h2]
      simp only [if_true, Bool.true_and, Bool.false_and]
      exact bad
  · rw [dec_and_false h1, Bool.false_and]
    exact ev_neg (by decide) bad
theorem spec_FoldedOk_ev (g v : Int) (l : List Arc) (hl : l.length ≤ 1048576) : Ev (fun k => spec_FoldedOk.f k g v l) (foldedOk g v l) := by
  unfold spec_FoldedOk.f foldedOk
  have bad : Ev (fun k => spec_FoldedOk.j0 k true g v l) false := Ev.step (f := fun _ => some false) (fun k => by simp [spec_FoldedOk.j0]) (Ev.now _)
  simp only [spec_l01In_eq, bsome]
  by_cases h1 : 1 ≤ g ∧ g ≤ 2
  · by_cases h2 : 1 ≤ v ∧ v ≤ 96
    · rw [dec_and_true h1, dec_and_true h2]
      simp only [if_true, Bool.true_and]
      refine Ev.step (f := fun k => spec_FoldedOk.l0 k l (l.length : Int) 0 g v l) (fun k => by simp only [spec_FoldedOk.j0]; rw [if_neg (by decide)]) ?_
      exact spec_FoldedOk_l0 g v h1 h2 hl l.length 0 (by omega)
    · rw [dec_and_true h1, dec_and_false h2]
      simp only [if_true, Bool.true_and, Bool.false_and]
      exact bad
  · rw [dec_and_false h1, Bool.false_and]
    exact ev_neg (by decide) bad

/-- An arc of the law's own type as one of the program's. -/
def arcTo (a : S151) : S76 := ⟨a.f0, a.f1, a.f2⟩
theorem szFolded_cases (n v : Int) (x : List S151) (left : Int) (hl : 0 ≤ left ∧ left ≤ 1048576) (hx : x.length ≤ 9223372036854775807) :
    ∃ r, laws_szFolded.f n v x left = some r ∧ (r < 0 ∨ (x.length ≤ left ∧ r = left - x.length)) := by
  unfold laws_szFolded.f laws_szArcS.f
  rw [w64 (by omega) (by omega)]
  by_cases h1 : left - (x.length : Int) < 0
  · exact ⟨-1, by simp [h1], .inl (by omega)⟩
  · exact ⟨left - (x.length : Int), by simp [h1], .inr ⟨by omega, rfl⟩⟩
theorem toArcS_l0 (x : List S151) (hx : x.length ≤ 1048576) : ∀ (d i : Nat) (y : List S76), i + d = x.length → y.length = x.length → y.take i = (x.map arcTo).take i → Ev (fun k => laws_toArcS.l0 k x y (i : Int)) (x.map arcTo) := by
  intro d
  induction d with
  | zero =>
    intro i y hi hl ht
    have : y = x.map arcTo := by
      rw [List.take_of_length_le (by omega), List.take_of_length_le (by simp; omega)] at ht
      exact ht
    rw [this]
    exact Ev.step (f := fun _ => some (x.map arcTo)) (fun n => by simp only [laws_toArcS.l0]; rw [if_neg (by omega)]) (Ev.now _)
  | succ d ih =>
    intro i y hi hl ht
    have he : (x.map arcTo).getD i (arcTo (rd_T151 x i)) = arcTo (rd_T151 x i) := by
      simp [rd_T151, List.getD_eq_getElem?_getD, show i < x.length by omega]
    have h2 := set_take (x.map arcTo) y i (arcTo (rd_T151 x i)) (by simp; omega) (by simp; omega) ht
    rw [he] at h2
    refine Ev.step (f := fun k => laws_toArcS.l0 k x (y.set i (arcTo (rd_T151 x i))) ((i + 1 : Nat) : Int)) (fun n => ?_) (ih (i + 1) _ (by omega) (by simp; omega) h2)
    simp only [laws_toArcS.l0, laws_toArc.f, bsome, Int.toNat_natCast]
    rw [if_pos (by omega), if_pos (by omega), if_pos (by omega), wsucc (n := x.length) (by omega) (by omega)]
    rfl
theorem toFolded_ev (n v : Int) (x : List S151) (hx : x.length ≤ 1048576) : Ev (fun k => laws_toFolded.f k n v x) (n, v, x.map arcTo) := by
  unfold laws_toFolded.f laws_toArcS.f
  refine Ev.bind (a := x.map arcTo) (ev_pos (by omega) (ev_pos (by omega) ?_)) (Ev.now _)
  exact toArcS_l0 x hx x.length 0 _ (by omega) (by simp) (by simp)
theorem eqArcS_l0 (x : List S76) (hx : x.length ≤ 1048576) : ∀ (d i : Nat), i + d = x.length → Ev (fun k => laws_eqArcS.l0 k x x (i : Int)) true := by
  intro d
  induction d with
  | zero =>
    intro i hi
    exact Ev.step (f := fun _ => some true) (fun n => by simp only [laws_eqArcS.l0]; rw [if_neg (by omega)]) (Ev.now _)
  | succ d ih =>
    intro i hi
    refine Ev.step (f := fun k => laws_eqArcS.l0 k x x ((i + 1 : Nat) : Int)) (fun n => ?_) (ih (i + 1) (by omega))
    have e : laws_eqArc.f (rd_T76 x i).f0 (rd_T76 x i).f1 (rd_T76 x i).f2 (rd_T76 x i).f0 (rd_T76 x i).f1 (rd_T76 x i).f2 = some true := by simp [laws_eqArc.f]
    simp only [laws_eqArcS.l0, e, bsome, if_true]
    rw [if_pos (by omega), if_pos (by omega), if_pos (by omega), wsucc (n := x.length) (by omega) (by omega)]
theorem eqFolded_ev (n v : Int) (x : List S76) (hx : x.length ≤ 1048576) : Ev (fun k => laws_eqFolded.f k n v x n v x) true := by
  unfold laws_eqFolded.f laws_eqArcS.f
  exact ev_pos rfl (ev_pos rfl (Ev.bind (a := true) (ev_pos rfl (eqArcS_l0 x hx x.length 0 (by omega))) (ev_pos rfl (Ev.now _))))

theorem both (g v : Int) (l : List S76) (hl : l.length ≤ 1048576) : ∃ r, Ev (fun k => spec_RankOf.f k g v l) r ∧ Ev (fun k => impl_RankOf.f k g v l) r := by
  unfold spec_RankOf.f impl_RankOf.f
  have s := spec_FoldedOk_ev g v l hl
  have i := impl_FoldedOk_ev g v l hl
  cases h : foldedOk g v l with
  | false => rw [h] at s i; exact ⟨-1, Ev.bind s (Ev.now _), Ev.bind i (Ev.now _)⟩
  | true => rw [h] at s i; exact ⟨_, Ev.bind s (ev_pos rfl (Ev.now _)), Ev.bind i (ev_pos rfl (Ev.now _))⟩
theorem FnExactRankOf : ∀ (a0_0 : Int) (a0_1 : Int) (l0_2 : List PFnExactRankOf.S151), (Lit.int .i64 a0_0).wf = true → (Lit.int .i64 a0_1).wf = true → l0_2.length ≤ 9223372036854775807 → (∀ x ∈ l0_2, (fun x : PFnExactRankOf.S151 => (Lit.int .i64 x.f0).wf = true ∧ (Lit.int .i64 x.f1).wf = true ∧ (Lit.int .i64 x.f2).wf = true) x) → ∃ k, PFnExactRankOf.laws_FnExactRankOf.f k a0_0 a0_1 l0_2 = some true := by
  intro g v l _ _ hl _
  have : Ev (fun k => laws_FnExactRankOf.f k g v l) true := by
    unfold laws_FnExactRankOf.f
    obtain ⟨r, h1, h2⟩ := szFolded_cases g v l 1048576 (by omega) hl
    rw [h1]
    simp only [bsome]
    by_cases hr : r < 0
    · exact ev_pos hr (Ev.now _)
    · have hl' : l.length ≤ 1048576 := by omega
      have hm : (l.map arcTo).length ≤ 1048576 := by simpa using hl'
      obtain ⟨q, s, t⟩ := both g v _ hm
      refine ev_neg hr (Ev.bind (toFolded_ev g v l hl') (Ev.bind s (Ev.bind (toFolded_ev g v l hl') (Ev.bind t ?_))))
      exact ev_pos rfl (Ev.bind (toFolded_ev g v l hl') (Ev.bind (eqFolded_ev g v _ hm) (ev_pos rfl (Ev.now _))))
  exact this.rounds

end Go.Proofs.Ytajacklnhfjmpaa.Pure
