/- The plain statement of the law FnExactLoopWord: what the printed functions come to is true at every input of the kinds stated. No conditions beyond those of the printed statement. -/
import Derived.Test.YtfbekpofebkfhaaPFnExactLoopWordx0
import Derived.Test.YtfbekpofebkfhaaPFnExactLoopWordx5
import Derived.Test.YtfbekpofebkfhaaWalkB
import Derived.Laws.StructEq
import Derived.Test.YtfbekpofebkfhaaWalkB
import Derived.Laws.StructEq
import Derived.Test.YtfbekpofebkfhaaWalkB
import Derived.Laws.StructEq
import Derived.Test.YtfbekpofebkfhaaWalkB
import Derived.Laws.StructEq
import Derived.Test.YtfbekpofebkfhaaBase
import Derived.Test.YtfbekpofebkfhaaPlain
import Derived.Test.YtfbekpofebkfhaaWalkB
import Derived.Laws.StructEq
namespace Go.Proofs.Ytfbekpofebkfhaa.Pure
open Go.RowKit Go.Proofs.Ytfbekpofebkfhaa.PFnExactLoopWord Go.Proofs.YtfbekpofebkfhaaW.PrintWords Go.Proofs.YtfbekpofebkfhaaW.PrintLast Go.Proofs.Ytfbekpofebkfhaa.Base
set_option linter.unusedVariables false
set_option linter.unusedSimpArgs false

/-- The order of words: by their lengths, then bytewise. -/
def isLessB (a b : ByteArray) : Bool := if (a.size : Int) = (b.size : Int) then Op.bytesLess a.toList b.toList else decide ((a.size : Int) < (b.size : Int))
theorem spec_isLess_eq (a b : ByteArray) : spec_IsLess.f a b = some (isLessB a b) := by
  unfold spec_IsLess.f isLessB
  split <;> rfl
theorem cmp_int_eq (a b : Int) : cmp_Compare_int.f a b = some (if a < b then -1 else if a > b then 1 else 0) := by
  have h : ∀ x, cmp_isNaN_int.f x = some false := fun x => by unfold cmp_isNaN_int.f; simp
  unfold cmp_Compare_int.f
  simp only [h, bsome]
  rw [if_neg (by decide), if_neg (by decide)]
  split
  · rfl
  · split <;> rfl
theorem cmp_str_eq (a b : ByteArray) : cmp_Compare_string.f a b = some (if Op.bytesLess a.toList b.toList = true then -1 else if a.toList = b.toList then 0 else 1) := by
  unfold cmp_Compare_string.f
  split
  · rfl
  · split <;> rfl
theorem cmp_or_ev (x y : Int) : Ev (fun k => cmp_Or_int.f k [x, y]) (if x = 0 then y else x) := by
  unfold cmp_Or_int.f
  have w1 : wrap64 (0 + 1) = 1 := by rw [w64 (by decide) (by decide)]; rfl
  have w2 : wrap64 (1 + 1) = 2 := by rw [w64 (by decide) (by decide)]; rfl
  by_cases hx : x = 0
  · rw [if_pos hx]
    refine Ev.step (f := fun k => cmp_Or_int.l0 k 0 [x, y] 2 1) (fun k => ?_) ?_
    · simp [cmp_Or_int.l0, rd, hx, show wrap64 1 = 1 from w64 (by decide) (by decide)]
    by_cases hy : y = 0
    · refine Ev.step (f := fun k => cmp_Or_int.l0 k 0 [x, y] 2 2) (fun k => ?_) (Ev.step (f := fun _ => some 0) (fun k => ?_) (by rw [hy]; exact Ev.now _))
      · simp only [cmp_Or_int.l0, w2]
        rw [if_pos (by decide), if_pos (by decide), if_pos (by simp), if_pos (by simpa [rd] using hy)]
      · simp only [cmp_Or_int.l0]
        rw [if_neg (by decide)]
    · refine Ev.step (f := fun _ => some y) (fun k => ?_) (Ev.now _)
      simp only [cmp_Or_int.l0]
      rw [if_pos (by decide), if_pos (by decide), if_pos (by simp), if_neg (by simpa [rd] using hy)]
      rfl
  · rw [if_neg hx]
    refine Ev.step (f := fun _ => some x) (fun k => ?_) (Ev.now _)
    simp [cmp_Or_int.l0, rd, hx]
theorem compareWords_ev (a b : ByteArray) : ∃ c, Ev (fun k => impl_compareWords.f k a b) c ∧ (c < 0 ↔ isLessB a b = true) := by
  refine ⟨_, by unfold impl_compareWords.f; simp only [cmp_int_eq, cmp_str_eq, bsome]; exact Ev.bind (cmp_or_ev _ _) (Ev.now _), ?_⟩
  unfold isLessB
  by_cases h1 : (a.size : Int) < (b.size : Int)
  · rw [if_pos h1, if_neg (by decide), if_neg (by omega)]
    simp [h1]
  · rw [if_neg h1]
    by_cases h2 : (a.size : Int) > (b.size : Int)
    · rw [if_pos h2, if_neg (by decide), if_neg (by omega)]
      simp; omega
    · have h4 : (a.size : Int) = (b.size : Int) := by omega
      rw [if_neg h2, if_pos h4]
      by_cases h3 : Op.bytesLess a.toList b.toList = true
      · simp [h3]
      · by_cases h5 : a.toList = b.toList
        · have h3' : Op.bytesLess b.toList b.toList = false := by rw [h5] at h3; simpa using h3
          simp [h5, h3']
        · simp [h3, h5]

/-! ### reading a row -/
theorem rd_nat (l : List Int) (i : Nat) (h : i < l.length) : rd l (i : Int) = l[i] := by
  simp [rd, List.getD_eq_getElem?_getD, h]
theorem drop_ints (l : List Int) (i : Nat) (h : i < l.length) : l.drop i = rd l (i : Int) :: l.drop (i + 1) := by
  rw [List.drop_eq_getElem_cons h, rd_nat l i h]
theorem set_take {α : Type} (x y : List α) (i : Nat) (d : α) (hi : i < x.length) (hl : y.length = x.length) (h : y.take i = x.take i) : (y.set i (x.getD i d)).take (i + 1) = x.take (i + 1) := by
  rw [List.take_succ_eq_append_getElem (by simp; omega), List.take_succ_eq_append_getElem hi, List.take_set_of_le (Nat.le_refl i), h]
  simp [List.getD_eq_getElem?_getD, hi]
theorem wsucc {i : Nat} {n : Nat} (h : i < n) (hn : n ≤ 140737488351232) : wrap64 ((i : Int) + 1) = ((i + 1 : Nat) : Int) := by rw [w64 (by omega) (by omega)]; simp

theorem rdOf_mem {l : List ByteArray} {i : Nat} (h : i < l.length) : rdOf ByteArray.empty l i ∈ l := by
  simp only [rdOf, Int.toNat_natCast, List.getD_eq_getElem?_getD, List.getElem?_eq_getElem h, Option.getD_some]
  exact List.getElem_mem h
theorem szStringS_l0 (x : List ByteArray) (hx : x.length ≤ 1048576) (hs : ∀ s ∈ x, s.size ≤ 9223372036854775807) : ∀ (d i : Nat) (v : Int), i + d = x.length → 0 ≤ v ∧ v ≤ 1048576 → ∃ r, Ev (fun k => laws_szStringS.l0 k x v (i : Int)) r ∧ r ≤ 1048576 := by
  intro d
  induction d with
  | zero => intro i v hi hv; exact ⟨v, Ev.step (f := fun _ => some v) (fun n => by simp only [laws_szStringS.l0]; rw [if_neg (by omega)]) (Ev.now _), by omega⟩
  | succ d ih =>
    intro i v hi hv
    have hsz := hs _ (rdOf_mem (l := x) (i := i) (by omega))
    have e : wrap64 (v - ((rdOf ByteArray.empty x (i : Int)).size : Int)) = v - ((rdOf ByteArray.empty x (i : Int)).size : Int) := w64 (by omega) (by omega)
    by_cases hneg : v - ((rdOf ByteArray.empty x (i : Int)).size : Int) < 0
    · refine ⟨-1, Ev.step (f := fun _ => some (-1)) (fun n => ?_) (Ev.now _), by omega⟩
      simp only [laws_szStringS.l0, e]
      rw [if_pos (by omega), if_pos (by omega), if_pos hneg]
    · obtain ⟨r, h1, h2⟩ := ih (i + 1) (v - ((rdOf ByteArray.empty x (i : Int)).size : Int)) (by omega) (by omega)
      refine ⟨r, Ev.step (fun n => ?_) h1, h2⟩
      simp only [laws_szStringS.l0, e]
      rw [if_pos (by omega), if_pos (by omega), if_neg hneg, wsucc (n := x.length) (by omega) (by omega)]
theorem szStringS_cases (x : List ByteArray) (left : Int) (hl : 0 ≤ left ∧ left ≤ 1048576) (hx : x.length ≤ 9223372036854775807) (hs : ∀ s ∈ x, s.size ≤ 9223372036854775807) :
    ∃ r, Ev (fun k => laws_szStringS.f k x left) r ∧ (r < 0 ∨ x.length ≤ 1048576 ∧ r ≤ 1048576) := by
  unfold laws_szStringS.f
  rw [w64 (by omega) (by omega)]
  by_cases h1 : left - (x.length : Int) < 0
  · exact ⟨-1, ev_pos h1 (Ev.now _), .inl (by omega)⟩
  · obtain ⟨r, h2, h3⟩ := szStringS_l0 x (by omega) hs x.length 0 (left - x.length) (by omega) (by omega)
    exact ⟨r, ev_neg h1 h2, .inr ⟨by omega, h3⟩⟩
theorem toStringS_l0 (x : List ByteArray) (hx : x.length ≤ 1048576) : ∀ (d i : Nat) (y : List ByteArray), i + d = x.length → y.length = x.length → y.take i = x.take i → Ev (fun k => laws_toStringS.l0 k x y (i : Int)) x := by
  intro d
  induction d with
  | zero =>
    intro i y hi hl ht
    have : y = x := by
      rw [List.take_of_length_le (by omega), List.take_of_length_le (by omega)] at ht
      exact ht
    rw [this]
    exact Ev.step (f := fun _ => some x) (fun n => by simp only [laws_toStringS.l0]; rw [if_neg (by omega)]) (Ev.now _)
  | succ d ih =>
    intro i y hi hl ht
    refine Ev.step (f := fun k => laws_toStringS.l0 k x (y.set i (rdOf ByteArray.empty x i)) ((i + 1 : Nat) : Int)) (fun n => ?_) (ih (i + 1) _ (by omega) (by simp; omega) (set_take x y i ByteArray.empty (by omega) hl ht))
    simp only [laws_toStringS.l0]
    rw [if_pos (by omega), if_pos (by omega), if_pos (by omega), wsucc (n := x.length) (by omega) (by omega), Int.toNat_natCast]
theorem toStringS_ev (x : List ByteArray) (hx : x.length ≤ 1048576) : Ev (fun k => laws_toStringS.f k x) x := by
  unfold laws_toStringS.f
  refine ev_pos (by omega) (ev_pos (by omega) ?_)
  exact toStringS_l0 x hx x.length 0 _ (by omega) (by simp) (by simp)
theorem eqStringS_l0 (x : List ByteArray) (hx : x.length ≤ 1048576) : ∀ (d i : Nat), i + d = x.length → Ev (fun k => laws_eqStringS.l0 k x x (i : Int)) true := by
  intro d
  induction d with
  | zero =>
    intro i hi
    exact Ev.step (f := fun _ => some true) (fun n => by simp only [laws_eqStringS.l0]; rw [if_neg (by omega)]) (Ev.now _)
  | succ d ih =>
    intro i hi
    refine Ev.step (f := fun k => laws_eqStringS.l0 k x x ((i + 1 : Nat) : Int)) (fun n => ?_) (ih (i + 1) (by omega))
    simp only [laws_eqStringS.l0, if_true]
    rw [if_pos (by omega), if_pos (by omega), if_pos (by omega), wsucc (n := x.length) (by omega) (by omega)]
theorem eqStringS_ev (x : List ByteArray) (hx : x.length ≤ 1048576) : Ev (fun k => laws_eqStringS.f k x x) true := by
  unfold laws_eqStringS.f
  refine ev_pos rfl ?_
  exact eqStringS_l0 x hx x.length 0 (by omega)

theorem toList_inj {a b : ByteArray} : a.toList = b.toList ↔ a = b := by
  constructor
  · intro h
    rw [Lib.toList_data, Lib.toList_data] at h
    obtain ⟨⟨a⟩⟩ := a
    obtain ⟨⟨b⟩⟩ := b
    simp only at h
    rw [h]
  · intro h; rw [h]
/-- The first place of a word in a list, or -1. -/
def findS (x : ByteArray) (l : List ByteArray) : Int := idxP (fun y => decide (y = x)) l
theorem findS_bounds (x : ByteArray) (l : List ByteArray) : -1 ≤ findS x l ∧ findS x l < (l.length : Int) ∨ findS x l = -1 := by
  unfold findS
  induction l with
  | nil => right; rfl
  | cons y l ih =>
    simp only [idxP, List.length_cons]
    split
    · left; omega
    · split
      · right; rfl
      · left; omega
theorem findS_lt (x : ByteArray) (l : List ByteArray) : findS x l < (l.length : Int) ∨ findS x l < 0 := by have := findS_bounds x l; omega
theorem findS_hit {x : ByteArray} {l : List ByteArray} {i : Nat} (h : i < l.length) (e : rdOf ByteArray.empty l (i : Int) = x) : idxP (fun y => decide (y = x)) (l.drop i) = 0 := by
  have hd : l.drop i = rdOf ByteArray.empty l i :: l.drop (i + 1) := by
    rw [List.drop_eq_getElem_cons h]
    simp [rdOf, List.getD_eq_getElem?_getD, h]
  rw [hd, e]
  simp [idxP]
theorem findS_miss {x : ByteArray} {l : List ByteArray} {i : Nat} (h : i < l.length) (e : ¬ rdOf ByteArray.empty l (i : Int) = x) : idxP (fun y => decide (y = x)) (l.drop i) = if idxP (fun y => decide (y = x)) (l.drop (i + 1)) < 0 then -1 else idxP (fun y => decide (y = x)) (l.drop (i + 1)) + 1 := by
  have hd : l.drop i = rdOf ByteArray.empty l i :: l.drop (i + 1) := by
    rw [List.drop_eq_getElem_cons h]
    simp [rdOf, List.getD_eq_getElem?_getD, h]
  rw [hd]
  simp only [idxP]
  rw [if_neg (by simpa using e)]
theorem spec_find_l0 (x : ByteArray) (l : List ByteArray) (hl : l.length ≤ 1048576) : ∀ (d i : Nat), i + d = l.length → Ev (fun k => spec_l08Find.l0 k x l (l.length : Int) (i : Int)) (if idxP (fun y => decide (y = x)) (l.drop i) < 0 then -1 else idxP (fun y => decide (y = x)) (l.drop i) + i) := by
  intro d
  induction d with
  | zero =>
    intro i hi
    rw [List.drop_of_length_le (by omega), show idxP (fun y => decide (y = x)) ([] : List ByteArray) = -1 from rfl, if_pos (by decide)]
    exact Ev.step (f := fun _ => some (-1)) (fun k => by simp only [spec_l08Find.l0]; rw [if_neg (by omega)]) (Ev.now _)
  | succ d ih =>
    intro i hi
    have ih' := ih (i + 1) (by omega)
    by_cases h : rdOf ByteArray.empty l (i : Int) = x
    · rw [findS_hit (by omega) h, if_neg (by decide), Int.zero_add]
      refine Ev.step (f := fun _ => some (i : Int)) (fun k => ?_) (Ev.now _)
      simp only [spec_l08Find.l0]
      rw [if_pos (by omega), if_pos (by omega), if_pos (by omega), if_pos (toList_inj.2 h)]
    · rw [findS_miss (by omega) h]
      refine Ev.step (f := fun k => spec_l08Find.l0 k x l (l.length : Int) ((i + 1 : Nat) : Int)) (fun k => ?_) ?_
      · simp only [spec_l08Find.l0]
        rw [if_pos (by omega), if_pos (by omega), if_pos (by omega), if_neg (fun e => h (toList_inj.1 e)), wsucc (n := l.length) (by omega) (by omega)]
      · by_cases hn : idxP (fun y => decide (y = x)) (l.drop (i + 1)) < 0
        · rw [if_pos hn] at ih' ⊢
          rw [if_pos (by decide)]
          exact ih'
        · rw [if_neg hn] at ih' ⊢
          rw [if_neg (by omega)]
          have e : idxP (fun y => decide (y = x)) (l.drop (i + 1)) + ((i + 1 : Nat) : Int) = idxP (fun y => decide (y = x)) (l.drop (i + 1)) + 1 + (i : Int) := by omega
          rw [← e]
          exact ih'
theorem spec_find_ev (x : ByteArray) (l : List ByteArray) (hl : l.length ≤ 1048576) : Ev (fun k => spec_l08Find.f k l x) (findS x l) := by
  unfold spec_l08Find.f findS
  have := spec_find_l0 x l hl l.length 0 (by omega)
  rw [List.drop_zero] at this
  have h := idxP_ge (fun y => decide (y = x)) l
  by_cases hn : idxP (fun y => decide (y = x)) l < 0
  · rw [if_pos hn] at this
    rw [show idxP (fun y => decide (y = x)) l = -1 by omega]
    exact this
  · rw [if_neg hn] at this
    simpa using this

/-! ### words -/
def letter (k x : Int) : Bool := decide (97 ≤ x) && decide (x < 97 + k)
def wordOk (k : Int) (w : ByteArray) : Bool := decide (1 ≤ k) && decide (k ≤ 4) && decide (w.size ≤ 16) && (bytesOf w).all (letter k)
theorem wordOk_iff {k : Int} {w : ByteArray} : wordOk k w = true ↔ 1 ≤ k ∧ k ≤ 4 ∧ w.size ≤ 16 ∧ ∀ x ∈ bytesOf w, 97 ≤ x ∧ x < 97 + k := by
  simp [wordOk, letter, and_assoc]
theorem letter_true {k x : Int} (h : 97 ≤ x) (h' : x < 97 + k) : letter k x = true := by simp [letter, h, h']
theorem letter_false {k x : Int} (h : x < 97 ∨ 97 + k ≤ x) : letter k x = false := by
  unfold letter
  rcases h with h | h
  · simp [show ¬ 97 ≤ x by omega]
  · simp [show ¬ x < 97 + k by omega]

theorem impl_within_eq (a b c : Int) : impl_within.f a b c = some (decide (b ≤ a) && decide (a ≤ c)) := by
  unfold impl_within.f
  by_cases h : b ≤ a <;> simp [h]

theorem impl_hasLetters_l0 (k : Int) (hk : 1 ≤ k ∧ k ≤ 4) (w : ByteArray) (hs : w.size ≤ 16) : ∀ (d i : Nat), i + d = w.size → Ev (fun n => impl_hasLetters.l0 n k w (w.size : Int) (i : Int)) (((bytesOf w).drop i).all (letter k)) := by
  intro d
  induction d with
  | zero =>
    intro i hi
    rw [List.drop_of_length_le (by rw [bytesOf_length]; omega)]
    exact Ev.step (f := fun _ => some true) (fun n => by simp only [impl_hasLetters.l0]; rw [if_neg (by omega)]) (Ev.now _)
  | succ d ih =>
    intro i hi
    have hlt : i < w.size := by omega
    rw [drop_bytes w i hlt, List.all_cons]
    have hr := bt_range w i
    have e : impl_within.f (wrap64 (bt w i)) 97 (wrap64 (wrap64 (97 + k) - 1)) = some (letter k (bt w i)) := by
      rw [impl_within_eq, w64 (by omega) (by omega), w64 (x := 97 + k) (by omega) (by omega), w64 (by omega) (by omega)]
      unfold letter
      congr 2
      simp; omega
    cases hl : letter k (bt w i) with
    | false =>
      rw [hl] at e
      exact Ev.step (f := fun _ => some false) (fun n => by simp only [impl_hasLetters.l0]; rw [if_pos (by omega), if_pos (by omega), if_pos (by omega), e]; simp) (Ev.now _)
    | true =>
      rw [hl] at e
      rw [Bool.true_and]
      exact Ev.step (f := fun n => impl_hasLetters.l0 n k w (w.size : Int) ((i + 1 : Nat) : Int)) (fun n => by simp only [impl_hasLetters.l0]; rw [if_pos (by omega), if_pos (by omega), if_pos (by omega), e, w64 (by omega) (by omega)]; simp) (ih (i + 1) (by omega))
theorem impl_WordOk_ev (k : Int) (w : ByteArray) : Ev (fun n => impl_WordOk.f n k w) (wordOk k w) := by
  unfold impl_WordOk.f
  simp only [impl_within_eq, bsome]
  by_cases hk : 1 ≤ k ∧ k ≤ 4
  · have e1 : (decide (1 ≤ k) && decide (k ≤ 4)) = true := by simp [hk.1, hk.2]
    simp only [e1, if_true]
    by_cases hs : w.size ≤ 16
    · have := impl_hasLetters_l0 k hk w hs w.size 0 (by omega)
      simp only [if_pos (show (w.size : Int) ≤ 16 by omega)]
      refine Ev.bind (f := fun _ b => some b) (a := wordOk k w) ?_ (Ev.now _)
      unfold impl_hasLetters.f
      simpa [wordOk, e1, hk.1, hk.2, hs] using this
    · simp only [if_neg (show ¬ (w.size : Int) ≤ 16 by omega)]
      have : wordOk k w = false := by simp [wordOk, hs]
      rw [this]; exact Ev.now _
  · have e1 : (decide (1 ≤ k) && decide (k ≤ 4)) = false := dec_and_false (by omega)
    simp only [e1, if_neg (show ¬ (false = true) by decide)]
    have : wordOk k w = false := by simp [wordOk, e1]
    rw [this]; exact Ev.now _

theorem impl_find_l0 (x : ByteArray) (l : List ByteArray) (hl : l.length ≤ 1048576) : ∀ (d i : Nat), i + d = l.length → Ev (fun k => slices_Index_string_string.l0 k l x (l.length : Int) (i : Int)) (if idxP (fun y => decide (y = x)) (l.drop i) < 0 then -1 else idxP (fun y => decide (y = x)) (l.drop i) + i) := by
  intro d
  induction d with
  | zero =>
    intro i hi
    rw [List.drop_of_length_le (by omega), show idxP (fun y => decide (y = x)) ([] : List ByteArray) = -1 from rfl, if_pos (by decide)]
    exact Ev.step (f := fun _ => some (-1)) (fun k => by simp only [slices_Index_string_string.l0]; rw [if_neg (by omega)]) (Ev.now _)
  | succ d ih =>
    intro i hi
    have ih' := ih (i + 1) (by omega)
    by_cases h : rdOf ByteArray.empty l (i : Int) = x
    · rw [findS_hit (by omega) h, if_neg (by decide), Int.zero_add]
      refine Ev.step (f := fun _ => some (i : Int)) (fun k => ?_) (Ev.now _)
      simp only [slices_Index_string_string.l0]
      rw [if_pos (by omega), if_pos (by omega), if_pos (by omega), if_pos (toList_inj.2 h.symm)]
    · rw [findS_miss (by omega) h]
      refine Ev.step (f := fun k => slices_Index_string_string.l0 k l x (l.length : Int) ((i + 1 : Nat) : Int)) (fun k => ?_) ?_
      · simp only [slices_Index_string_string.l0]
        rw [if_pos (by omega), if_pos (by omega), if_pos (by omega), if_neg (fun e => h (toList_inj.1 e).symm), wsucc (n := l.length) (by omega) (by omega)]
      · by_cases hn : idxP (fun y => decide (y = x)) (l.drop (i + 1)) < 0
        · rw [if_pos hn] at ih' ⊢
          rw [if_pos (by decide)]
          exact ih'
        · rw [if_neg hn] at ih' ⊢
          rw [if_neg (by omega)]
          have e : idxP (fun y => decide (y = x)) (l.drop (i + 1)) + ((i + 1 : Nat) : Int) = idxP (fun y => decide (y = x)) (l.drop (i + 1)) + 1 + (i : Int) := by omega
          rw [← e]
          exact ih'
theorem impl_find_ev (x : ByteArray) (l : List ByteArray) (hl : l.length ≤ 1048576) : Ev (fun k => slices_Index_string_string.f k l x) (findS x l) := by
  unfold slices_Index_string_string.f findS
  have := impl_find_l0 x l hl l.length 0 (by omega)
  rw [List.drop_zero] at this
  have h := idxP_ge (fun y => decide (y = x)) l
  by_cases hn : idxP (fun y => decide (y = x)) l < 0
  · rw [if_pos hn] at this
    rw [show idxP (fun y => decide (y = x)) l = -1 by omega]
    exact this
  · rw [if_neg hn] at this
    simpa using this

theorem szTag_cases (n : Int) (x : List ByteArray) (left : Int) (hl : 0 ≤ left ∧ left ≤ 1048576) (hx : x.length ≤ 9223372036854775807) (hs : ∀ s ∈ x, s.size ≤ 9223372036854775807) :
    ∃ r, Ev (fun k => laws_szTag.f k n x left) r ∧ (r < 0 ∨ x.length ≤ 1048576) := by
  unfold laws_szTag.f
  obtain ⟨r, h1, h2⟩ := szStringS_cases x left hl hx hs
  by_cases hr : r < 0
  · exact ⟨-1, Ev.bind h1 (ev_pos hr (Ev.now _)), .inl (by omega)⟩
  · exact ⟨r, Ev.bind h1 (ev_neg hr (Ev.now _)), .inr (by omega)⟩
theorem toTag_ev (n : Int) (x : List ByteArray) (hx : x.length ≤ 1048576) : Ev (fun k => laws_toTag.f k n x) (n, x) := by
  unfold laws_toTag.f
  exact Ev.bind (toStringS_ev x hx) (Ev.now _)
theorem eqTag_ev (n : Int) (x : List ByteArray) (hx : x.length ≤ 1048576) : Ev (fun k => laws_eqTag.f k n x n x) true := by
  unfold laws_eqTag.f
  exact ev_pos rfl (Ev.bind (eqStringS_ev x hx) (ev_pos rfl (Ev.now _)))

theorem spec_l01In_eq (a b c : Int) : spec_l01In.f a b c = some (decide (b ≤ a) && decide (a ≤ c)) := by
  unfold spec_l01In.f
  by_cases h : b ≤ a <;> simp [h]

theorem spec_WordOk_l0 (k : Int) (hk : 1 ≤ k ∧ k ≤ 4) (w : ByteArray) (hs : w.size ≤ 16) : ∀ (d i : Nat), i + d = w.size → Ev (fun n => spec_WordOk.l0 n k w (i : Int)) (((bytesOf w).drop i).all (letter k)) := by
  intro d
  induction d with
  | zero =>
    intro i hi
    rw [List.drop_of_length_le (by rw [bytesOf_length]; omega)]
    exact Ev.step (f := fun _ => some true) (fun n => by simp only [spec_WordOk.l0]; rw [if_neg (by omega)]) (Ev.now _)
  | succ d ih =>
    intro i hi
    have hlt : i < w.size := by omega
    rw [drop_bytes w i hlt, List.all_cons]
    have hr := bt_range w i
    by_cases h1 : bt w i < 97
    · rw [letter_false (.inl h1), Bool.false_and]
      exact Ev.step (f := fun _ => some false) (fun n => by simp only [spec_WordOk.l0]; rw [if_pos (by omega), if_pos (by omega), if_pos h1]) (Ev.now _)
    · by_cases h2 : 97 + k ≤ bt w i
      · rw [letter_false (.inr h2), Bool.false_and]
        exact Ev.step (f := fun _ => some false) (fun n => by simp only [spec_WordOk.l0]; rw [if_pos (by omega), if_pos (by omega), if_neg h1, if_pos (by omega)]) (Ev.now _)
      · rw [letter_true (by omega) (by omega), Bool.true_and]
        exact Ev.step (f := fun n => spec_WordOk.l0 n k w ((i + 1 : Nat) : Int)) (fun n => by simp only [spec_WordOk.l0]; rw [if_pos (by omega), if_pos (by omega), if_neg h1, if_neg (by omega), w64 (by omega) (by omega)]; simp) (ih (i + 1) (by omega))
theorem spec_WordOk_ev (k : Int) (w : ByteArray) : Ev (fun n => spec_WordOk.f n k w) (wordOk k w) := by
  unfold spec_WordOk.f
  simp only [spec_l01In_eq, bsome]
  by_cases hk : 1 ≤ k ∧ k ≤ 4
  · have e1 : (decide (1 ≤ k) && decide (k ≤ 4)) = true := by simp [hk.1, hk.2]
    simp only [e1, if_true]
    by_cases hs : w.size ≤ 16
    · have hs' : decide ((w.size : Int) > 16) = false := by simp; omega
      have := spec_WordOk_l0 k hk w hs w.size 0 (by omega)
      rw [hs']
      refine Ev.step (f := fun n => spec_WordOk.l0 n k w 0) (fun n => by simp [spec_WordOk.j0]) ?_
      simpa [wordOk, e1, hk.1, hk.2, hs] using this
    · have hs' : decide ((w.size : Int) > 16) = true := by simp; omega
      rw [hs']
      refine Ev.step (f := fun n => some false) (fun n => by simp [spec_WordOk.j0]) ?_
      have : wordOk k w = false := by simp [wordOk, hs]
      rw [this]; exact Ev.now _
  · have e1 : (decide (1 ≤ k) && decide (k ≤ 4)) = false := dec_and_false (by omega)
    simp only [e1, if_neg (show ¬ (false = true) by decide)]
    refine Ev.step (f := fun n => some false) (fun n => by simp [spec_WordOk.j0]) ?_
    have : wordOk k w = false := by simp [wordOk, e1]
    rw [this]; exact Ev.now _

def partOk (m : Int) (x : ByteArray) : Bool := decide (x.size ≤ 8) && wordOk m x
def tagOk (n : Int) (l : List ByteArray) : Bool := (decide (1 ≤ n) && decide (n ≤ 4)) && ((decide ((1 : Int) ≤ l.length) && decide ((l.length : Int) ≤ 4)) && l.all (partOk l.length))
theorem clo_ev (m : Int) (x : ByteArray) : Ev (fun k => impl_TagOk.clo k m x) (!partOk m x) := by
  unfold impl_TagOk.clo partOk
  by_cases h : x.size ≤ 8
  · rw [decide_eq_true h, Bool.true_and]
    exact ev_neg (by omega) (Ev.bind (f := fun _ t => some (!t)) (impl_WordOk_ev m x) (Ev.now _))
  · rw [decide_eq_false h, Bool.false_and]
    exact ev_pos (by omega) (Ev.now _)
theorem clos_ev (m : Int) : ∀ l : List ByteArray, Ev (fun k => listO (impl_TagOk.clo k m) l) (l.map fun x => !partOk m x)
  | [] => Ev.now _
  | x :: l => by
    simp only [listO, List.map_cons]
    exact Ev.bind (clo_ev m x) (Ev.bind (f := fun _ bs => some ((!partOk m x) :: bs)) (clos_ev m l) (Ev.now _))
theorem impl_TagOk_ev (n : Int) (l : List ByteArray) : Ev (fun k => impl_TagOk.f k n l) (tagOk n l) := by
  unfold impl_TagOk.f tagOk
  simp only [impl_within_eq, bsome]
  cases (decide (1 ≤ n) && decide (n ≤ 4)) with
  | false => exact Ev.now _
  | true =>
    cases (decide ((1 : Int) ≤ l.length) && decide ((l.length : Int) ≤ 4)) with
    | false => exact Ev.now _
    | true =>
      simp only [if_true, Bool.true_and]
      have e : (!((l.map fun x => !partOk l.length x).any id)) = l.all (partOk l.length) := by
        rw [List.any_map, List.not_any_eq_all_not]
        congr 1
        funext x
        simp
      rw [← e]
      exact Ev.bind (f := fun _ bs => some (!(bs.any id))) (clos_ev l.length l) (Ev.now _)
theorem spec_TagOk_l0 (n : Int) (l : List ByteArray) (hl : l.length ≤ 4) : ∀ (d i : Nat), i + d = l.length → Ev (fun k => spec_TagOk.l0 k l (l.length : Int) (i : Int) n l) ((l.drop i).all (partOk l.length)) := by
  intro d
  induction d with
  | zero =>
    intro i hi
    rw [List.drop_of_length_le (by omega)]
    exact Ev.step (f := fun _ => some true) (fun k => by simp only [spec_TagOk.l0]; rw [if_neg (by omega)]) (Ev.now _)
  | succ d ih =>
    intro i hi
    have hd : l.drop i = rdOf ByteArray.empty l i :: l.drop (i + 1) := by
      rw [List.drop_eq_getElem_cons (by omega)]
      simp [rdOf, List.getD_eq_getElem?_getD, show i < l.length by omega]
    rw [hd, List.all_cons]
    generalize hx : rdOf ByteArray.empty l (i : Int) = x
    have hw := spec_WordOk_ev l.length x
    unfold partOk at *
    refine Ev.step (f := fun k => (spec_WordOk.f k (l.length : Int) x).bind fun t => if t = true then (if (x.size : Int) > 8 then some false else spec_TagOk.l0 k l (l.length : Int) ((i + 1 : Nat) : Int) n l) else some false) (fun k => ?_) (Ev.bind hw ?_)
    · simp only [spec_TagOk.l0, hx]
      rw [if_pos (by omega), if_pos (by omega), if_pos (by omega), wsucc (n := l.length) (by omega) (by omega)]
    · cases wordOk l.length x with
      | false =>
        rw [Bool.and_false, Bool.false_and]
        exact ev_neg (by decide) (Ev.now _)
      | true =>
        refine ev_pos rfl ?_
        by_cases h : x.size ≤ 8
        · rw [decide_eq_true h, Bool.true_and, Bool.true_and]
          exact ev_neg (by omega) (ih (i + 1) (by omega))
        · rw [decide_eq_false h, Bool.false_and, Bool.false_and]
          exact ev_pos (by omega) (Ev.now _)
theorem spec_TagOk_ev (n : Int) (l : List ByteArray) : Ev (fun k => spec_TagOk.f k n l) (tagOk n l) := by
  unfold spec_TagOk.f tagOk
  simp only [spec_l01In_eq, bsome]
  have bad : Ev (fun k => spec_TagOk.j0 k true n l) false := Ev.step (f := fun _ => some false) (fun k => by simp [spec_TagOk.j0]) (Ev.now _)
  by_cases h1 : 1 ≤ n ∧ n ≤ 4
  · rw [dec_and_true h1]
    by_cases h2 : (1 : Int) ≤ l.length ∧ (l.length : Int) ≤ 4
    · rw [dec_and_true h2]
      simp only [if_true, Bool.true_and]
      exact Ev.step (f := fun k => spec_TagOk.l0 k l (l.length : Int) 0 n l) (fun k => by simp [spec_TagOk.j0]) (spec_TagOk_l0 n l (by omega) l.length 0 (by omega))
    · rw [dec_and_false h2]
      simp only [if_true, Bool.true_and, Bool.false_and]
      exact bad
  · rw [dec_and_false h1, Bool.false_and]
    exact ev_neg (by decide) bad
theorem spec_takes_ev (n : Int) (l : List ByteArray) (w : ByteArray) : Ev (fun k => spec_l17Ok.f k n l w) (tagOk n l && wordOk l.length w) := by
  unfold spec_l17Ok.f
  refine Ev.bind (spec_TagOk_ev n l) ?_
  cases tagOk n l with
  | false => exact Ev.now _
  | true =>
    simp only [if_true, Bool.true_and]
    exact Ev.bind (f := fun _ t => some t) (spec_WordOk_ev l.length w) (Ev.now _)
theorem impl_takes_ev (n : Int) (l : List ByteArray) (w : ByteArray) : Ev (fun k => impl_Tag_takes.f k n l w) (tagOk n l && wordOk l.length w) := by
  unfold impl_Tag_takes.f
  refine Ev.bind (impl_TagOk_ev n l) ?_
  cases tagOk n l with
  | false => exact Ev.now _
  | true =>
    simp only [if_true, Bool.true_and]
    exact Ev.bind (f := fun _ t => some t) (impl_WordOk_ev l.length w) (Ev.now _)
theorem tagOk_iff {n : Int} {l : List ByteArray} : tagOk n l = true ↔ (1 ≤ n ∧ n ≤ 4) ∧ (1 ≤ l.length ∧ l.length ≤ 4) ∧ ∀ x ∈ l, x.size ≤ 8 ∧ wordOk l.length x = true := by
  simp only [tagOk, partOk, Bool.and_eq_true, decide_eq_true_eq, List.all_eq_true]
  constructor
  · rintro ⟨h1, h2, h3⟩; exact ⟨h1, by omega, h3⟩
  · rintro ⟨h1, h2, h3⟩; exact ⟨h1, by omega, h3⟩
/-- The part of the first letter. -/
theorem first_part {n : Int} {l : List ByteArray} {w : ByteArray} (ht : tagOk n l = true) (hw : wordOk l.length w = true) (hpos : 0 < w.size) :
    ∃ j : Nat, (bt w 0 - 97) % 256 = (j : Int) ∧ j < l.length ∧ (rdOf ByteArray.empty l (j : Int)).size ≤ 8 ∧ wordOk l.length (rdOf ByteArray.empty l (j : Int)) = true := by
  obtain ⟨_, h2, h3⟩ := tagOk_iff.1 ht
  obtain ⟨_, _, hs, hl⟩ := wordOk_iff.1 hw
  have hb := hl _ (bt_mem (w := w) (i := 0) hpos)
  have hb' : 97 ≤ bt w 0 ∧ bt w 0 < 97 + (l.length : Int) := hb
  refine ⟨(bt w 0 - 97).toNat, by omega, by omega, ?_⟩
  have := h3 _ (rdOf_mem (l := l) (i := (bt w 0 - 97).toNat) (by omega))
  exact this

/-! ### runs of tag systems -/
def tagCat (n : Int) (l : List ByteArray) (w : ByteArray) : ByteArray := (w.extract n.toNat w.size) ++ rdOf ByteArray.empty l ((bt w 0 - 97) % 256)
/-- The next word, and 0 where there is none, 2 where it is too long, 3 where it is there. -/
def tagNext (n : Int) (l : List ByteArray) (w : ByteArray) : ByteArray × Int := if (w.size : Int) < n then (⟨#[]⟩, 0) else if ((tagCat n l w).size : Int) > 16 then (⟨#[]⟩, 2) else (tagCat n l w, 3)
structure TV (n : Int) (l : List ByteArray) (w : ByteArray) : Prop where
  ok : tagOk n l = true
  w : wordOk l.length w = true
theorem TV.n {n : Int} {l : List ByteArray} {w : ByteArray} (h : TV n l w) : 1 ≤ n ∧ n ≤ 4 := (tagOk_iff.1 h.ok).1
theorem TV.sz {n : Int} {l : List ByteArray} {w : ByteArray} (h : TV n l w) : w.size ≤ 16 := (wordOk_iff.1 h.w).2.2.1
/-- What is told of the word that follows, where one does. -/
theorem TV.cat {n : Int} {l : List ByteArray} {w : ByteArray} (h : TV n l w) (hge : ¬ (w.size : Int) < n) : ∃ j : Nat, (bt w 0 - 97) % 256 = (j : Int) ∧ j < l.length ∧ (rdOf ByteArray.empty l (j : Int)).size ≤ 8 ∧ wordOk l.length (rdOf ByteArray.empty l (j : Int)) = true ∧ (tagCat n l w).size = w.size - n.toNat + (rdOf ByteArray.empty l (j : Int)).size := by
  have hn := h.n
  obtain ⟨j, ej, hj, hps, hpw⟩ := first_part h.ok h.w (by omega)
  refine ⟨j, ej, hj, hps, hpw, ?_⟩
  unfold tagCat
  rw [ej, ByteArray.size_append, ByteArray.size_extract]
  omega
theorem TV.next {n : Int} {l : List ByteArray} {w : ByteArray} (h : TV n l w) (hc : (tagNext n l w).2 = 3) : TV n l (tagNext n l w).1 := by
  unfold tagNext at hc ⊢
  by_cases h1 : (w.size : Int) < n
  · rw [if_pos h1] at hc; exact absurd hc (by decide)
  · rw [if_neg h1] at hc ⊢
    by_cases h2 : ((tagCat n l w).size : Int) > 16
    · rw [if_pos h2] at hc; exact absurd hc (by decide)
    · rw [if_neg h2]
      refine ⟨h.ok, ?_⟩
      obtain ⟨j, ej, hj, hps, hpw, hs⟩ := h.cat h1
      obtain ⟨a1, a2, _, a4⟩ := wordOk_iff.1 h.w
      obtain ⟨_, _, _, b4⟩ := wordOk_iff.1 hpw
      refine wordOk_iff.2 ⟨a1, a2, by simp only; omega, fun x hx => ?_⟩
      simp only [tagCat, ej, bytesOf_append, bytesOf_extract, List.mem_append] at hx
      rcases hx with hx | hx
      · exact a4 x (List.mem_of_mem_drop (List.mem_of_mem_take hx))
      · exact b4 x hx
theorem tagNext_code (n : Int) (l : List ByteArray) (w : ByteArray) : (tagNext n l w).2 = 0 ∨ (tagNext n l w).2 = 2 ∨ (tagNext n l w).2 = 3 := by
  unfold tagNext
  split
  · exact .inl rfl
  · split
    · exact .inr (.inl rfl)
    · exact .inr (.inr rfl)
theorem tagNext_zero {n : Int} {l : List ByteArray} {w : ByteArray} : (tagNext n l w).2 = 0 ↔ (w.size : Int) < n := by
  unfold tagNext
  by_cases h1 : (w.size : Int) < n
  · simp [h1]
  · rw [if_neg h1]
    by_cases h2 : ((tagCat n l w).size : Int) > 16 <;> simp [h1, h2]
theorem impl_next_eq {n : Int} {l : List ByteArray} {w : ByteArray} (h : TV n l w) : impl_Tag_next.f n l w = some (tagNext n l w) := by
  have hn := h.n
  have hs := h.sz
  unfold impl_Tag_next.f tagNext
  by_cases h1 : (w.size : Int) < n
  · rw [if_pos h1, if_pos h1]
  · obtain ⟨j, ej, hj, hps, _, hcs⟩ := h.cat h1
    have hx : (w.extract n.toNat w.size).size = w.size - n.toNat := by rw [ByteArray.size_extract]; omega
    unfold tagCat at hcs ⊢
    rw [ej] at hcs ⊢
    rw [if_neg h1, if_neg h1, if_pos (by omega), if_pos (by omega), if_pos (by omega), if_pos (by omega), if_pos (by omega), if_pos (by omega)]
    split <;> rfl
/-- The words of a run of at most d steps behind a word, and its code. -/
def tagGo (n : Int) (l : List ByteArray) : Nat → ByteArray → List ByteArray × Int
  | 0, w => if (tagNext n l w).2 = 0 then ([], 0) else ([], 3)
  | d + 1, w => if (tagNext n l w).2 = 3 then ((tagNext n l w).1 :: (tagGo n l d (tagNext n l w).1).1, (tagGo n l d (tagNext n l w).1).2) else ([], (tagNext n l w).2)
theorem tagGo_len (n : Int) (l : List ByteArray) : ∀ (d : Nat) (w : ByteArray), (tagGo n l d w).1.length ≤ d
  | 0, w => by unfold tagGo; split <;> simp
  | d + 1, w => by
    unfold tagGo
    split
    · have := tagGo_len n l d (tagNext n l w).1
      simp only [List.length_cons]; omega
    · simp
theorem tagGo_code (n : Int) (l : List ByteArray) : ∀ (d : Nat) (w : ByteArray), (tagGo n l d w).2 = 0 ∨ (tagGo n l d w).2 = 2 ∨ (tagGo n l d w).2 = 3
  | 0, w => by unfold tagGo; split <;> simp
  | d + 1, w => by
    unfold tagGo
    split
    · exact tagGo_code n l d _
    · exact tagNext_code n l w

theorem spec_step_ev {n : Int} {l : List ByteArray} {w : ByteArray} (h : TV n l w) : Ev (fun k => spec_TagStep.f k n l w) (if (tagNext n l w).2 = 3 then ((tagNext n l w).1, true) else (⟨#[]⟩, false)) := by
  have hn := h.n
  have hs := h.sz
  unfold spec_TagStep.f tagNext
  have s := spec_takes_ev n l w
  rw [h.ok, h.w] at s
  refine Ev.bind s (ev_pos rfl ?_)
  by_cases h1 : (w.size : Int) < n
  · rw [if_pos h1, decide_eq_true h1]
    exact Ev.step (f := fun _ => some (⟨#[]⟩, false)) (fun k => by simp [spec_TagStep.j0]) (Ev.now _)
  · obtain ⟨j, ej, hj, hps, _, hcs⟩ := h.cat h1
    have hx : (w.extract n.toNat w.size).size = w.size - n.toNat := by rw [ByteArray.size_extract]; omega
    unfold tagCat at hcs ⊢
    rw [ej] at hcs ⊢
    rw [if_neg h1, decide_eq_false h1]
    generalize hp : rdOf ByteArray.empty l (j : Int) = p at hps hcs
    have e1 : wrap64 (wrap64 ((w.size : Int) - n) + (p.size : Int)) = (w.size : Int) - n + p.size := by rw [w64 (x := (w.size : Int) - n) (by omega) (by omega), w64 (by omega) (by omega)]
    by_cases hbig : (((w.extract n.toNat w.size) ++ p).size : Int) > 16
    · rw [if_pos hbig]
      refine Ev.step (f := fun _ => some (⟨#[]⟩, false)) (fun k => ?_) (Ev.now _)
      simp only [spec_TagStep.j0, ej, hp, e1]
      rw [if_neg (by decide), if_pos (by omega), if_pos (by omega), if_pos (by omega), if_pos (by omega)]
    · rw [if_neg hbig]
      refine Ev.step (f := fun _ => some ((w.extract n.toNat w.size) ++ p, true)) (fun k => ?_) (Ev.now _)
      simp only [spec_TagStep.j0, ej, hp, e1]
      rw [if_neg (by decide), if_pos (by omega), if_pos (by omega), if_pos (by omega), if_neg (by omega), if_pos (by omega), if_pos (by omega), if_pos (by omega)]

theorem spec_words_l0 (n : Int) (l : List ByteArray) (most : Nat) (hm : most ≤ 500) : ∀ (d : Nat) (w : ByteArray) (acc : List ByteArray), TV n l w → acc.length + d = most + 1 → 1 ≤ acc.length → Ev (fun k => spec_l17Words.l0 k w (most : Int) acc n l) (acc ++ (tagGo n l d w).1, (tagGo n l d w).2) := by
  intro d
  induction d with
  | zero =>
    intro w acc h ha h1
    unfold tagGo
    have e : wrap64 ((acc.length : Int) - 1) = (most : Int) := by rw [w64 (by omega) (by omega)]; omega
    by_cases h0 : (w.size : Int) < n
    · rw [if_pos (tagNext_zero.2 h0), List.append_nil]
      exact Ev.step (f := fun _ => some (acc, 0)) (fun k => by simp only [spec_l17Words.l0]; rw [if_pos h0]) (Ev.now _)
    · rw [if_neg (fun h => h0 (tagNext_zero.1 h)), List.append_nil]
      exact Ev.step (f := fun _ => some (acc, 3)) (fun k => by simp only [spec_l17Words.l0]; rw [if_neg h0, if_pos e]) (Ev.now _)
  | succ d ih =>
    intro w acc h ha h1
    have e : ¬ wrap64 ((acc.length : Int) - 1) = (most : Int) := by rw [w64 (by omega) (by omega)]; omega
    unfold tagGo
    by_cases h0 : (w.size : Int) < n
    · have z : (tagNext n l w).2 = 0 := tagNext_zero.2 h0
      rw [if_neg (by omega), z, List.append_nil]
      exact Ev.step (f := fun _ => some (acc, 0)) (fun k => by simp only [spec_l17Words.l0]; rw [if_pos h0]) (Ev.now _)
    · have st := spec_step_ev h
      by_cases h3 : (tagNext n l w).2 = 3
      · rw [if_pos h3] at st ⊢
        have := ih (tagNext n l w).1 (acc ++ [(tagNext n l w).1]) (h.next h3) (by simp; omega) (by simp)
        rw [List.append_assoc, List.singleton_append] at this
        refine Ev.step (fun k => by simp only [spec_l17Words.l0]; rw [if_neg h0, if_neg e]) (Ev.bind st ?_)
        exact ev_pos rfl (ev_pos (show acc.length < 8796093022208 by omega) this)
      · have hz : ¬ (tagNext n l w).2 = 0 := fun h => h0 (tagNext_zero.1 h)
        have h2 : (tagNext n l w).2 = 2 := by have := tagNext_code n l w; omega
        rw [if_neg h3] at st ⊢
        rw [h2, List.append_nil]
        refine Ev.step (fun k => by simp only [spec_l17Words.l0]; rw [if_neg h0, if_neg e]) (Ev.bind st ?_)
        exact ev_neg (by simp) (Ev.now _)
/-- The words of a run and its code, 4 where it is none. -/
def tagWords (n : Int) (l : List ByteArray) (w : ByteArray) (most : Int) : List ByteArray × Int := if (tagOk n l && wordOk l.length w) = true ∧ 0 ≤ most ∧ most ≤ 500 then (w :: (tagGo n l most.toNat w).1, (tagGo n l most.toNat w).2) else ([], 4)
theorem spec_words_ev (n : Int) (l : List ByteArray) (w : ByteArray) (most : Int) : Ev (fun k => spec_l17Words.f k n l w most) (tagWords n l w most) := by
  unfold spec_l17Words.f tagWords
  have s := spec_takes_ev n l w
  have bad : Ev (fun k => spec_l17Words.j0 k w most true n l) (([] : List ByteArray), 4) := Ev.step (f := fun _ => some (([] : List ByteArray), 4)) (fun k => by simp [spec_l17Words.j0]) (Ev.now _)
  cases ht : (tagOk n l && wordOk l.length w) with
  | false =>
    rw [ht] at s
    rw [if_neg (by simp)]
    exact Ev.bind s (ev_neg (by decide) bad)
  | true =>
    rw [ht] at s
    simp only [spec_l01In_eq, bsome]
    refine Ev.bind s (ev_pos rfl ?_)
    by_cases hm : 0 ≤ most ∧ most ≤ 500
    · rw [dec_and_true hm, if_pos ⟨by first | rfl | trivial, hm⟩]
      have ht' := Bool.and_eq_true_iff.1 ht
      have := spec_words_l0 n l most.toNat (by omega) most.toNat w [w] ⟨ht'.1, ht'.2⟩ (by simp; omega) (by simp)
      rw [Int.toNat_of_nonneg hm.1] at this
      exact Ev.step (fun k => by simp only [spec_l17Words.j0, Bool.not_true]; rw [if_neg (by decide)]) this
    · rw [dec_and_false hm, if_neg (fun h => hm h.2)]
      exact bad

/-- The words that come back, behind those of a run. -/
def tagCyc (n : Int) (l : List ByteArray) : Nat → ByteArray → List ByteArray → List ByteArray
  | 0, _, _ => []
  | d + 1, w, acc => if (tagNext n l w).2 = 3 then (if 0 ≤ findS (tagNext n l w).1 acc then acc.drop (findS (tagNext n l w).1 acc).toNat else tagCyc n l d (tagNext n l w).1 (acc ++ [(tagNext n l w).1])) else []
theorem spec_loop_l0 (n : Int) (l : List ByteArray) (L : List ByteArray) (hL : L.length ≤ 1048576) : ∀ (d : Nat) (w : ByteArray) (acc : List ByteArray), TV n l w → L = acc ++ (tagGo n l d w).1 → Ev (fun k => spec_l17Loop.l0 L k (acc.length : Int)) (tagCyc n l d w acc) := by
  have nil : ∀ acc : List ByteArray, L = acc → Ev (fun k => spec_l17Loop.l0 L k (acc.length : Int)) [] := fun acc e =>
    Ev.step (f := fun _ => some []) (fun k => by simp only [spec_l17Loop.l0]; rw [if_neg (by rw [e]; omega)]) (Ev.now _)
  intro d
  induction d with
  | zero =>
    intro w acc h e
    have e0 : (tagGo n l 0 w).1 = [] := by unfold tagGo; split <;> rfl
    rw [e0, List.append_nil] at e
    exact nil acc e
  | succ d ih =>
    intro w acc h e
    unfold tagCyc
    unfold tagGo at e
    by_cases h3 : (tagNext n l w).2 = 3
    · rw [if_pos h3] at e ⊢
      have ih' := ih (tagNext n l w).1 (acc ++ [(tagNext n l w).1]) (h.next h3) (by rw [e]; simp)
      generalize tagGo n l d (tagNext n l w).1 = go at e
      generalize (tagNext n l w).1 = x at e ih' ⊢
      simp only at e
      have hlen : acc.length < L.length := by rw [e]; simp
      have e1 : L.take acc.length = acc := by rw [e]; simp
      have e2 : rdOf ByteArray.empty L (acc.length : Int) = x := by
        rw [e]
        simp [rdOf]
      have hf := spec_find_ev x acc (by omega)
      have hb := findS_lt x acc
      refine Ev.step (f := fun k => (spec_l08Find.f k acc x).bind fun j => (if 0 ≤ j then (if j ≤ (acc.length : Int) then some (acc.drop j.toNat) else none) else spec_l17Loop.l0 L k ((acc.length + 1 : Nat) : Int))) (fun k => ?_) (Ev.bind hf ?_)
      · simp only [spec_l17Loop.l0, Int.toNat_natCast, e1, e2]
        rw [if_pos (by omega), if_pos (by omega), wsucc (n := L.length) (by omega) (by omega)]
      · by_cases hj : 0 ≤ findS x acc
        · rw [if_pos hj]
          exact ev_pos hj (ev_pos (by omega) (Ev.now _))
        · rw [if_neg hj]
          refine ev_neg hj ?_
          simpa using ih'
    · rw [if_neg h3, List.append_nil] at e
      rw [if_neg h3]
      exact nil acc e
theorem impl_cycle_l0 (n : Int) (l : List ByteArray) : ∀ (d : Nat) (w : ByteArray) (acc : List ByteArray), TV n l w → d ≤ 500 → acc.length + d = 501 → Ev (fun k => impl_Tag_cycle.l0 k w acc ((500 - d : Nat) : Int) n l) (tagCyc n l d w acc) := by
  intro d
  induction d with
  | zero =>
    intro w acc h hd ha
    exact Ev.step (f := fun _ => some []) (fun k => by simp only [impl_Tag_cycle.l0]; rw [if_neg (by omega)]) (Ev.now _)
  | succ d ih =>
    intro w acc h hd ha
    unfold tagCyc
    by_cases h3 : (tagNext n l w).2 = 3
    · rw [if_pos h3]
      have ih' := ih (tagNext n l w).1 (acc ++ [(tagNext n l w).1]) (h.next h3) (by omega) (by simp; omega)
      have hf := impl_find_ev (tagNext n l w).1 acc (by omega)
      have hb := findS_lt (tagNext n l w).1 acc
      by_cases hj : 0 ≤ findS (tagNext n l w).1 acc
      · rw [if_pos hj]
        refine Ev.step (fun k => by simp only [impl_Tag_cycle.l0, impl_next_eq h, bsome]; rw [if_pos (by omega), if_pos h3]) (Ev.bind hf ?_)
        exact ev_pos hj (ev_pos hj (ev_pos (by omega) (Ev.now _)))
      · rw [if_neg hj]
        refine Ev.step (fun k => by simp only [impl_Tag_cycle.l0, impl_next_eq h, bsome]; rw [if_pos (by omega), if_pos h3]) (Ev.bind hf ?_)
        refine ev_neg hj (ev_pos (by omega) ?_)
        have e : wrap64 (((500 - (d + 1) : Nat) : Int) + 1) = ((500 - d : Nat) : Int) := by rw [w64 (by omega) (by omega)]; omega
        rw [e]
        exact ih'
    · rw [if_neg h3]
      refine Ev.step (f := fun _ => some []) (fun k => ?_) (Ev.now _)
      simp only [impl_Tag_cycle.l0, impl_next_eq h, bsome]
      rw [if_pos (by omega), if_neg h3]
def tagLoop (n : Int) (l : List ByteArray) (w : ByteArray) : List ByteArray := if (tagOk n l && wordOk l.length w) = true then tagCyc n l 500 w [w] else []
theorem spec_loop_ev (n : Int) (l : List ByteArray) (w : ByteArray) : Ev (fun k => spec_l17Loop.f k n l w) (tagLoop n l w) := by
  unfold spec_l17Loop.f tagLoop
  have h := spec_words_ev n l w 500
  unfold tagWords at h
  cases ht : (tagOk n l && wordOk l.length w) with
  | false =>
    rw [ht, if_neg (by simp)] at h
    rw [if_neg (by decide)]
    exact Ev.bind h (Ev.step (f := fun _ => some []) (fun k => by simp only [spec_l17Loop.l0]; rw [if_neg (by simp)]) (Ev.now _))
  | true =>
    rw [ht, if_pos ⟨rfl, by decide, by decide⟩] at h
    rw [if_pos rfl]
    have ht' := Bool.and_eq_true_iff.1 ht
    have hl := tagGo_len n l 500 w
    refine Ev.bind h ?_
    have := spec_loop_l0 n l (w :: (tagGo n l 500 w).1) (by simp only [List.length_cons]; omega) 500 w [w] ⟨ht'.1, ht'.2⟩ rfl
    have hf := spec_find_ev w [] (by simp)
    refine Ev.step (f := fun k => (spec_l08Find.f k [] w).bind fun j => (if 0 ≤ j then (if j ≤ 0 then some (([] : List ByteArray).drop j.toNat) else none) else spec_l17Loop.l0 (w :: (tagGo n l 500 w).1) k 1)) (fun k => ?_) (Ev.bind hf (ev_neg (by have : findS w [] = -1 := rfl; omega) this))
    have e1 : wrap64 (0 + 1) = 1 := by rw [w64 (by decide) (by decide)]; rfl
    have e2 : Int.toNat 500 = 500 := rfl
    have e3 : Int.toNat 0 = 0 := rfl
    have e4 : rdOf ByteArray.empty (w :: (tagGo n l 500 w).1) 0 = w := rfl
    simp only [spec_l17Loop.l0, e1, e2, e3, e4, List.take_zero]
    rw [if_pos (by simp only [List.length_cons]; omega), if_pos (by decide)]
theorem impl_cycle_ev (n : Int) (l : List ByteArray) (w : ByteArray) : Ev (fun k => impl_Tag_cycle.f k n l w) (tagLoop n l w) := by
  unfold impl_Tag_cycle.f tagLoop
  have i := impl_takes_ev n l w
  cases ht : (tagOk n l && wordOk l.length w) with
  | false =>
    rw [ht] at i
    rw [if_neg (by decide)]
    exact Ev.bind i (ev_neg (by decide) (Ev.now _))
  | true =>
    rw [ht] at i
    have ht' := Bool.and_eq_true_iff.1 ht
    rw [if_pos rfl]
    exact Ev.bind i (ev_pos rfl (impl_cycle_l0 n l 500 w [w] ⟨ht'.1, ht'.2⟩ (by omega) (by simp)))

def minW : ByteArray → List ByteArray → ByteArray
  | m, [] => m
  | m, x :: xs => minW (if isLessB x m = true then x else m) xs
theorem impl_min_ev : ∀ (xs : List ByteArray) (m : ByteArray), Ev (fun k => slices_MinFunc_string.f (impl_compareWords.f k) m xs) (minW m xs)
  | [], m => by unfold minW; exact Ev.now _
  | x :: xs, m => by
    obtain ⟨c, h1, h2⟩ := compareWords_ev x m
    unfold minW
    simp only [slices_MinFunc_string.f]
    refine Ev.bind h1 ?_
    by_cases h : isLessB x m = true
    · rw [if_pos h]
      exact ev_pos (h2.2 h) (impl_min_ev xs x)
    · rw [if_neg h]
      exact ev_neg (fun e => h (h2.1 e)) (impl_min_ev xs m)
theorem spec_min_l0 (l : List ByteArray) (hl : l.length ≤ 1048576) : ∀ (d i : Nat) (m : ByteArray), i + d = l.length → Ev (fun k => spec_LoopWord.l0 k m l (l.length : Int) (i : Int)) (minW m (l.drop i), true) := by
  intro d
  induction d with
  | zero =>
    intro i m hi
    rw [List.drop_of_length_le (by omega)]
    exact Ev.step (f := fun _ => some (m, true)) (fun k => by simp only [spec_LoopWord.l0]; rw [if_neg (by omega)]) (Ev.now _)
  | succ d ih =>
    intro i m hi
    have hd : l.drop i = rdOf ByteArray.empty l i :: l.drop (i + 1) := by
      rw [List.drop_eq_getElem_cons (by omega)]
      simp [rdOf, List.getD_eq_getElem?_getD, show i < l.length by omega]
    rw [hd]
    unfold minW
    refine Ev.step (fun k => ?_) (ih (i + 1) (if isLessB (rdOf ByteArray.empty l (i : Int)) m = true then rdOf ByteArray.empty l (i : Int) else m) (by omega))
    simp only [spec_LoopWord.l0, spec_isLess_eq, bsome]
    rw [if_pos (by omega), if_pos (by omega), if_pos (by omega), wsucc (n := l.length) (by omega) (by omega)]
    by_cases h : isLessB (rdOf ByteArray.empty l (i : Int)) m = true
    · rw [if_pos h, if_pos h]
    · rw [if_neg h, if_neg h]
theorem tagCyc_len (n : Int) (l : List ByteArray) : ∀ (d : Nat) (w : ByteArray) (acc : List ByteArray), (tagCyc n l d w acc).length ≤ acc.length + d := by
  intro d
  induction d with
  | zero => intro w acc; simp [tagCyc]
  | succ d ih =>
    intro w acc
    unfold tagCyc
    split
    · split
      · simp only [List.length_drop]; omega
      · have := ih (tagNext n l w).1 (acc ++ [(tagNext n l w).1])
        simp only [List.length_append, List.length_singleton] at this
        omega
    · simp
theorem both (n : Int) (l : List ByteArray) (w : ByteArray) : ∃ r, Ev (fun k => spec_LoopWord.f k n l w) r ∧ Ev (fun k => impl_LoopWord.f k n l w) r := by
  unfold spec_LoopWord.f impl_LoopWord.f
  have s := spec_loop_ev n l w
  have i := impl_cycle_ev n l w
  have hlen : (tagLoop n l w).length ≤ 501 := by
    unfold tagLoop
    split
    · have := tagCyc_len n l 500 w [w]
      simp only [List.length_singleton] at this
      omega
    · simp
  generalize tagLoop n l w = c at s i hlen
  cases c with
  | nil => exact ⟨(⟨#[]⟩, false), Ev.bind s (ev_pos rfl (Ev.now _)), Ev.bind i (Ev.now _)⟩
  | cons x xs =>
    refine ⟨(minW x xs, true), Ev.bind s ?_, Ev.bind i (Ev.bind (impl_min_ev xs x) (Ev.now _))⟩
    refine ev_neg (by simp only [List.length_cons]; omega) (ev_pos (by simp only [List.length_cons]; omega) ?_)
    have := spec_min_l0 (x :: xs) (by omega) (x :: xs).length 0 x (by omega)
    rw [List.drop_zero] at this
    unfold minW at this
    have e : (if isLessB x x = true then x else x) = x := by split <;> rfl
    rw [e] at this
    exact this
theorem FnExactLoopWord : ∀ (a0_0 : Int) (l0_1 : List ByteArray) (a1 : ByteArray), (Lit.int .i64 a0_0).wf = true → l0_1.length ≤ 9223372036854775807 → (∀ x ∈ l0_1, (fun x : ByteArray => x.size ≤ 9223372036854775807) x) → a1.size ≤ 9223372036854775807 → ∃ k, PFnExactLoopWord.laws_FnExactLoopWord.f k a0_0 l0_1 a1 = some true := by
  intro n l w _ hl hs hw
  have : Ev (fun k => laws_FnExactLoopWord.f k n l w) true := by
    unfold laws_FnExactLoopWord.f
    by_cases hbig : (w.size : Int) > 1048576
    · exact ev_pos hbig (Ev.now _)
    obtain ⟨r, h1, h2⟩ := szTag_cases n l 1048576 (by omega) hl hs
    refine ev_neg hbig (Ev.bind h1 ?_)
    by_cases hr : r < 0
    · exact ev_pos hr (Ev.now _)
    · have hl' : l.length ≤ 1048576 := h2.resolve_left hr
      obtain ⟨q, sp, im⟩ := both n l w
      refine ev_neg hr (Ev.bind (toTag_ev n l hl') (Ev.bind sp (Ev.bind (toTag_ev n l hl') (Ev.bind im ?_))))
      refine ev_pos rfl ?_
      rw [bne_self_eq_false]
      refine Ev.step (fun k => by simp only [laws_FnExactLoopWord.j0]; rw [if_neg (by decide)]) ?_
      exact Ev.bind (toTag_ev n l hl') (Ev.bind (eqTag_ev n l hl') (ev_pos rfl (Ev.now _)))
  exact this.rounds

end Go.Proofs.Ytfbekpofebkfhaa.Pure
