/- The plain statement of the law FnExactTagWords: what the printed functions come to is true at every input of the kinds stated. No conditions beyond those of the printed statement. -/
import Derived.Test.YtfbekpofebkfhaaPFnExactTagWordsx0
import Derived.Test.YtfbekpofebkfhaaPFnExactTagWordsx5
import Derived.Test.YtfbekpofebkfhaaBase
import Derived.Test.YtfbekpofebkfhaaPlain
import Derived.Test.YtfbekpofebkfhaaWalkB
import Derived.Laws.StructEq
namespace Go.Proofs.Ytfbekpofebkfhaa.Pure
open Go.RowKit Go.Proofs.Ytfbekpofebkfhaa.PFnExactTagWords Go.Proofs.YtfbekpofebkfhaaW.PrintWords Go.Proofs.YtfbekpofebkfhaaW.PrintLast Go.Proofs.Ytfbekpofebkfhaa.Base
set_option linter.unusedVariables false
set_option linter.unusedSimpArgs false

/-! ### words -/
def letter (k x : Int) : Bool := decide (97 ≤ x) && decide (x < 97 + k)
def wordOk (k : Int) (w : ByteArray) : Bool := decide (1 ≤ k) && decide (k ≤ 4) && decide (w.size ≤ 16) && (bytesOf w).all (letter k)
theorem wordOk_iff {k : Int} {w : ByteArray} : wordOk k w = true ↔ 1 ≤ k ∧ k ≤ 4 ∧ w.size ≤ 16 ∧ ∀ x ∈ bytesOf w, 97 ≤ x ∧ x < 97 + k := by
  simp [wordOk, letter, and_assoc]
theorem letter_true {k x : Int} (h : 97 ≤ x) (h' : x < 97 + k) : letter k x = true := by simp [letter, h, h']
theorem letter_false {k x : Int} (h : x < 97 ∨ 97 + k ≤ x) : letter k x = false := by
  unfold letter
  rcases h with h | h
  · simp [show ¬ 97 ≤ x by omega]
  · simp [show ¬ x < 97 + k by omega]

theorem impl_within_eq (a b c : Int) : impl_within.f a b c = some (decide (b ≤ a) && decide (a ≤ c)) := by
  unfold impl_within.f
  by_cases h : b ≤ a <;> simp [h]

theorem impl_hasLetters_l0 (k : Int) (hk : 1 ≤ k ∧ k ≤ 4) (w : ByteArray) (hs : w.size ≤ 16) : ∀ (d i : Nat), i + d = w.size → Ev (fun n => impl_hasLetters.l0 n k w (w.size : Int) (i : Int)) (((bytesOf w).drop i).all (letter k)) := by
  intro d
  induction d with
  | zero =>
    intro i hi
    rw [List.drop_of_length_le (by rw [bytesOf_length]; omega)]
    exact Ev.step (f := fun _ => some true) (fun n => by simp only [impl_hasLetters.l0]; rw [if_neg (by omega)]) (Ev.now _)
  | succ d ih =>
    intro i hi
    have hlt : i < w.size := by omega
    rw [drop_bytes w i hlt, List.all_cons]
    have hr := bt_range w i
    have e : impl_within.f (wrap64 (bt w i)) 97 (wrap64 (wrap64 (97 + k) - 1)) = some (letter k (bt w i)) := by
      rw [impl_within_eq, w64 (by omega) (by omega), w64 (x := 97 + k) (by omega) (by omega), w64 (by omega) (by omega)]
      unfold letter
      congr 2
      simp; omega
    cases hl : letter k (bt w i) with
    | false =>
      rw [hl] at e
      exact Ev.step (f := fun _ => some false) (fun n => by simp only [impl_hasLetters.l0]; rw [if_pos (by omega), if_pos (by omega), if_pos (by omega), e]; simp) (Ev.now _)
    | true =>
      rw [hl] at e
      rw [Bool.true_and]
      exact Ev.step (f := fun n => impl_hasLetters.l0 n k w (w.size : Int) ((i + 1 : Nat) : Int)) (fun n => by simp only [impl_hasLetters.l0]; rw [if_pos (by omega), if_pos (by omega), if_pos (by omega), e, w64 (by omega) (by omega)]; simp) (ih (i + 1) (by omega))
theorem impl_WordOk_ev (k : Int) (w : ByteArray) : Ev (fun n => impl_WordOk.f n k w) (wordOk k w) := by
  unfold impl_WordOk.f
  simp only [impl_within_eq, bsome]
  by_cases hk : 1 ≤ k ∧ k ≤ 4
  · have e1 : (decide (1 ≤ k) && decide (k ≤ 4)) = true := by simp [hk.1, hk.2]
    simp only [e1, if_true]
    by_cases hs : w.size ≤ 16
    · have := impl_hasLetters_l0 k hk w hs w.size 0 (by omega)
      simp only [if_pos (show (w.size : Int) ≤ 16 by omega)]
      refine Ev.bind (f := fun _ b => some b) (a := wordOk k w) ?_ (Ev.now _)
      unfold impl_hasLetters.f
      simpa [wordOk, e1, hk.1, hk.2, hs] using this
    · simp only [if_neg (show ¬ (w.size : Int) ≤ 16 by omega)]
      have : wordOk k w = false := by simp [wordOk, hs]
      rw [this]; exact Ev.now _
  · have e1 : (decide (1 ≤ k) && decide (k ≤ 4)) = false := dec_and_false (by omega)
    simp only [e1, if_neg (show ¬ (false = true) by decide)]
    have : wordOk k w = false := by simp [wordOk, e1]
    rw [this]; exact Ev.now _

/-! ### reading a row -/
theorem rd_nat (l : List Int) (i : Nat) (h : i < l.length) : rd l (i : Int) = l[i] := by
  simp [rd, List.getD_eq_getElem?_getD, h]
theorem drop_ints (l : List Int) (i : Nat) (h : i < l.length) : l.drop i = rd l (i : Int) :: l.drop (i + 1) := by
  rw [List.drop_eq_getElem_cons h, rd_nat l i h]
theorem set_take {α : Type} (x y : List α) (i : Nat) (d : α) (hi : i < x.length) (hl : y.length = x.length) (h : y.take i = x.take i) : (y.set i (x.getD i d)).take (i + 1) = x.take (i + 1) := by
  rw [List.take_succ_eq_append_getElem (by simp; omega), List.take_succ_eq_append_getElem hi, List.take_set_of_le (Nat.le_refl i), h]
  simp [List.getD_eq_getElem?_getD, hi]
theorem wsucc {i : Nat} {n : Nat} (h : i < n) (hn : n ≤ 140737488351232) : wrap64 ((i : Int) + 1) = ((i + 1 : Nat) : Int) := by rw [w64 (by omega) (by omega)]; simp

theorem rdOf_mem {l : List ByteArray} {i : Nat} (h : i < l.length) : rdOf ByteArray.empty l i ∈ l := by
  simp only [rdOf, Int.toNat_natCast, List.getD_eq_getElem?_getD, List.getElem?_eq_getElem h, Option.getD_some]
  exact List.getElem_mem h
theorem szStringS_l0 (x : List ByteArray) (hx : x.length ≤ 1048576) (hs : ∀ s ∈ x, s.size ≤ 9223372036854775807) : ∀ (d i : Nat) (v : Int), i + d = x.length → 0 ≤ v ∧ v ≤ 1048576 → ∃ r, Ev (fun k => laws_szStringS.l0 k x v (i : Int)) r ∧ r ≤ 1048576 := by
  intro d
  induction d with
  | zero => intro i v hi hv; exact ⟨v, Ev.step (f := fun _ => some v) (fun n => by simp only [laws_szStringS.l0]; rw [if_neg (by omega)]) (Ev.now _), by omega⟩
  | succ d ih =>
    intro i v hi hv
    have hsz := hs _ (rdOf_mem (l := x) (i := i) (by omega))
    have e : wrap64 (v - ((rdOf ByteArray.empty x (i : Int)).size : Int)) = v - ((rdOf ByteArray.empty x (i : Int)).size : Int) := w64 (by omega) (by omega)
    by_cases hneg : v - ((rdOf ByteArray.empty x (i : Int)).size : Int) < 0
    · refine ⟨-1, Ev.step (f := fun _ => some (-1)) (fun n => ?_) (Ev.now _), by omega⟩
      simp only [laws_szStringS.l0, e]
      rw [if_pos (by omega), if_pos (by omega), if_pos hneg]
    · obtain ⟨r, h1, h2⟩ := ih (i + 1) (v - ((rdOf ByteArray.empty x (i : Int)).size : Int)) (by omega) (by omega)
      refine ⟨r, Ev.step (fun n => ?_) h1, h2⟩
      simp only [laws_szStringS.l0, e]
      rw [if_pos (by omega), if_pos (by omega), if_neg hneg, wsucc (n := x.length) (by omega) (by omega)]
theorem szStringS_cases (x : List ByteArray) (left : Int) (hl : 0 ≤ left ∧ left ≤ 1048576) (hx : x.length ≤ 9223372036854775807) (hs : ∀ s ∈ x, s.size ≤ 9223372036854775807) :
    ∃ r, Ev (fun k => laws_szStringS.f k x left) r ∧ (r < 0 ∨ x.length ≤ 1048576 ∧ r ≤ 1048576) := by
  unfold laws_szStringS.f
  rw [w64 (by omega) (by omega)]
  by_cases h1 : left - (x.length : Int) < 0
  · exact ⟨-1, ev_pos h1 (Ev.now _), .inl (by omega)⟩
  · obtain ⟨r, h2, h3⟩ := szStringS_l0 x (by omega) hs x.length 0 (left - x.length) (by omega) (by omega)
    exact ⟨r, ev_neg h1 h2, .inr ⟨by omega, h3⟩⟩
theorem toStringS_l0 (x : List ByteArray) (hx : x.length ≤ 1048576) : ∀ (d i : Nat) (y : List ByteArray), i + d = x.length → y.length = x.length → y.take i = x.take i → Ev (fun k => laws_toStringS.l0 k x y (i : Int)) x := by
  intro d
  induction d with
  | zero =>
    intro i y hi hl ht
    have : y = x := by
      rw [List.take_of_length_le (by omega), List.take_of_length_le (by omega)] at ht
      exact ht
    rw [this]
    exact Ev.step (f := fun _ => some x) (fun n => by simp only [laws_toStringS.l0]; rw [if_neg (by omega)]) (Ev.now _)
  | succ d ih =>
    intro i y hi hl ht
    refine Ev.step (f := fun k => laws_toStringS.l0 k x (y.set i (rdOf ByteArray.empty x i)) ((i + 1 : Nat) : Int)) (fun n => ?_) (ih (i + 1) _ (by omega) (by simp; omega) (set_take x y i ByteArray.empty (by omega) hl ht))
    simp only [laws_toStringS.l0]
    rw [if_pos (by omega), if_pos (by omega), if_pos (by omega), wsucc (n := x.length) (by omega) (by omega), Int.toNat_natCast]
theorem toStringS_ev (x : List ByteArray) (hx : x.length ≤ 1048576) : Ev (fun k => laws_toStringS.f k x) x := by
  unfold laws_toStringS.f
  refine ev_pos (by omega) (ev_pos (by omega) ?_)
  exact toStringS_l0 x hx x.length 0 _ (by omega) (by simp) (by simp)
theorem eqStringS_l0 (x : List ByteArray) (hx : x.length ≤ 1048576) : ∀ (d i : Nat), i + d = x.length → Ev (fun k => laws_eqStringS.l0 k x x (i : Int)) true := by
  intro d
  induction d with
  | zero =>
    intro i hi
    exact Ev.step (f := fun _ => some true) (fun n => by simp only [laws_eqStringS.l0]; rw [if_neg (by omega)]) (Ev.now _)
  | succ d ih =>
    intro i hi
    refine Ev.step (f := fun k => laws_eqStringS.l0 k x x ((i + 1 : Nat) : Int)) (fun n => ?_) (ih (i + 1) (by omega))
    simp only [laws_eqStringS.l0, if_true]
    rw [if_pos (by omega), if_pos (by omega), if_pos (by omega), wsucc (n := x.length) (by omega) (by omega)]
theorem eqStringS_ev (x : List ByteArray) (hx : x.length ≤ 1048576) : Ev (fun k => laws_eqStringS.f k x x) true := by
  unfold laws_eqStringS.f
  refine ev_pos rfl ?_
  exact eqStringS_l0 x hx x.length 0 (by omega)

theorem markText_l0 : ∀ (m : Nat) (x : Int) (acc : ByteArray), 0 ≤ x ∧ x ≤ (m : Int) → x ≤ 8388608 → (acc.size : Int) + x ≤ 16777216 → ∃ r, Ev (fun k => laws_markText.l0 k x acc) r := by
  intro m
  induction m with
  | zero =>
    intro x acc hx _ ha
    refine ⟨(⟨#[109]⟩ : ByteArray) ++ acc, Ev.step (f := fun _ => some ((⟨#[109]⟩ : ByteArray) ++ acc)) (fun k => ?_) (Ev.now _)⟩
    simp only [laws_markText.l0]
    rw [if_neg (by omega), if_pos (by omega)]
  | succ m ih =>
    intro x acc hx hb ha
    by_cases h0 : x > 0
    · have e : Int.tdiv x 10 = x / 10 := Int.tdiv_eq_ediv_of_nonneg hx.1
      have e2 : wrap64 (Int.tdiv x 10) = x / 10 := by rw [e]; exact w64 (by omega) (by omega)
      obtain ⟨y, hy⟩ : ∃ y : List Int, y = [(wrap64 (48 + (Int.tmod x 10))) % 256] := ⟨_, rfl⟩
      have hl : (strOfNums y).size = 1 := by rw [hy]; rfl
      obtain ⟨r, h⟩ := ih (x / 10) (strOfNums y ++ acc) (by omega) (by omega) (by rw [ByteArray.size_append, hl]; omega)
      refine ⟨r, Ev.step (fun k => ?_) h⟩
      simp only [laws_markText.l0, bsome, e2, ← hy]
      rw [if_pos h0, if_pos (by omega)]
    · refine ⟨(⟨#[109]⟩ : ByteArray) ++ acc, Ev.step (f := fun _ => some ((⟨#[109]⟩ : ByteArray) ++ acc)) (fun k => ?_) (Ev.now _)⟩
      simp only [laws_markText.l0]
      rw [if_neg h0, if_pos (by omega)]
theorem markText_ev (x : Int) (hx : x ≤ 8388608) : ∃ r, Ev (fun k => laws_markText.f k x) r := by
  unfold laws_markText.f
  by_cases h0 : x ≤ 0
  · exact ⟨_, ev_pos h0 (Ev.now _)⟩
  · obtain ⟨r, h⟩ := markText_l0 x.toNat x ⟨#[]⟩ (by omega) hx (by have : (⟨#[]⟩ : ByteArray).size = 0 := rfl; omega)
    exact ⟨r, ev_neg h0 h⟩
theorem markStringS_l0 : ∀ (d i : Nat) (y : List ByteArray) (a : Int), i + d = y.length → y.length ≤ 1048576 → 0 ≤ a ∧ a ≤ 4194304 - d → ∃ z : List ByteArray, z.length = y.length ∧ (∀ j, j < i → z[j]? = y[j]?) ∧ (∀ j, i ≤ j → j < z.length → ∃ t, z[j]? = some t ∧ Ev (fun k => laws_markText.f k (a + ((j : Int) - i))) t) ∧ Ev (fun k => laws_markStringS.l0 k y a (i : Int)) (a + d, z) := by
  intro d
  induction d with
  | zero =>
    intro i y a hi hl ha
    refine ⟨y, rfl, fun _ _ => rfl, fun j h1 h2 => by omega, ?_⟩
    refine Ev.step (f := fun _ => some (a + ((0 : Nat) : Int), y)) (fun k => ?_) (Ev.now _)
    simp only [laws_markStringS.l0]
    rw [if_neg (by omega)]
    simp
  | succ d ih =>
    intro i y a hi hl ha
    obtain ⟨t, ht⟩ := markText_ev a (by omega)
    obtain ⟨z, hz, h1, h2, h3⟩ := ih (i + 1) (y.set i t) (a + 1) (by simp; omega) (by simp; omega) (by omega)
    rw [List.length_set] at hz
    refine ⟨z, hz, fun j hj => ?_, fun j hj hj2 => ?_, ?_⟩
    · rw [h1 j (by omega), List.getElem?_set_ne (by omega)]
    · by_cases e : j = i
      · subst e
        refine ⟨t, by rw [h1 j (by omega), List.getElem?_set_self (by omega)], ?_⟩
        rw [show a + ((j : Int) - j) = a by omega]
        exact ht
      · obtain ⟨t', e1, e2⟩ := h2 j (by omega) hj2
        refine ⟨t', e1, ?_⟩
        rw [show a + ((j : Int) - i) = a + 1 + ((j : Int) - ((i + 1 : Nat) : Int)) by omega]
        exact e2
    · have e : a + ((d + 1 : Nat) : Int) = a + 1 + (d : Int) := by omega
      rw [e]
      refine Ev.step (f := fun k => (laws_markText.f k a).bind fun t159 => laws_markStringS.l0 k (y.set i t159) (a + 1) ((i + 1 : Nat) : Int)) (fun k => ?_) (Ev.bind ht h3)
      simp only [laws_markStringS.l0]
      rw [if_pos (by omega), w64 (x := a + 1) (by omega) (by omega), wsucc (n := y.length) (by omega) (by omega), Int.toNat_natCast]
      simp only [if_pos (show (0 : Int) ≤ (i : Int) by omega)]
theorem heldStringS_l0 (z : List ByteArray) (a : Int) (ha : 0 ≤ a ∧ a ≤ 4194304) (hz : z.length ≤ 1048576) (h : ∀ j, j < z.length → ∃ t, z[j]? = some t ∧ Ev (fun k => laws_markText.f k (a + (j : Int))) t) : ∀ (d i : Nat), i + d = z.length → Ev (fun k => laws_heldStringS.l0 k z (a + (i : Int)) (i : Int)) (a + (z.length : Int)) := by
  intro d
  induction d with
  | zero =>
    intro i hi
    refine Ev.step (f := fun _ => some (a + (z.length : Int))) (fun k => ?_) (Ev.now _)
    simp only [laws_heldStringS.l0]
    rw [if_neg (by omega)]
    congr 2
    omega
  | succ d ih =>
    intro i hi
    obtain ⟨t, h1, h2⟩ := h i (by omega)
    have e : rdOf ByteArray.empty z (i : Int) = t := by
      simp [rdOf, List.getD_eq_getElem?_getD, h1]
    have e2 : wrap64 (a + (i : Int) + 1) = a + ((i + 1 : Nat) : Int) := by rw [w64 (by omega) (by omega)]; omega
    refine Ev.step (f := fun k => (laws_markText.f k (a + (i : Int))).bind fun t165 => if t.toList = t165.toList then laws_heldStringS.l0 k z (a + ((i + 1 : Nat) : Int)) ((i + 1 : Nat) : Int) else some (-1)) (fun k => ?_) (Ev.bind h2 (ev_pos rfl (ih (i + 1) (by omega))))
    simp only [laws_heldStringS.l0]
    rw [if_pos (by omega), if_pos (by omega), e, e2, wsucc (n := z.length) (by omega) (by omega)]
theorem markStringS_ev (x : List ByteArray) (hx : x.length ≤ 1048576) (a : Int) (ha : 0 ≤ a ∧ a ≤ 2097152) : ∃ z : List ByteArray, Ev (fun k => laws_markStringS.f k x a) (a + (x.length : Int), z) ∧ Ev (fun k => laws_heldStringS.f k z a) (a + (x.length : Int)) := by
  obtain ⟨z, hz, _, h2, h3⟩ := markStringS_l0 x.length 0 x a (by omega) hx (by omega)
  refine ⟨z, h3, ?_⟩
  unfold laws_heldStringS.f
  have := heldStringS_l0 z a (by omega) (by omega) (fun j hj => by have := h2 j (by omega) hj; simpa using this) z.length 0 (by omega)
  rw [hz] at this
  simpa using this

theorem szTag_cases (n : Int) (x : List ByteArray) (left : Int) (hl : 0 ≤ left ∧ left ≤ 1048576) (hx : x.length ≤ 9223372036854775807) (hs : ∀ s ∈ x, s.size ≤ 9223372036854775807) :
    ∃ r, Ev (fun k => laws_szTag.f k n x left) r ∧ (r < 0 ∨ x.length ≤ 1048576) := by
  unfold laws_szTag.f
  obtain ⟨r, h1, h2⟩ := szStringS_cases x left hl hx hs
  by_cases hr : r < 0
  · exact ⟨-1, Ev.bind h1 (ev_pos hr (Ev.now _)), .inl (by omega)⟩
  · exact ⟨r, Ev.bind h1 (ev_neg hr (Ev.now _)), .inr (by omega)⟩
theorem toTag_ev (n : Int) (x : List ByteArray) (hx : x.length ≤ 1048576) : Ev (fun k => laws_toTag.f k n x) (n, x) := by
  unfold laws_toTag.f
  exact Ev.bind (toStringS_ev x hx) (Ev.now _)
theorem eqTag_ev (n : Int) (x : List ByteArray) (hx : x.length ≤ 1048576) : Ev (fun k => laws_eqTag.f k n x n x) true := by
  unfold laws_eqTag.f
  exact ev_pos rfl (Ev.bind (eqStringS_ev x hx) (ev_pos rfl (Ev.now _)))

theorem spec_l01In_eq (a b c : Int) : spec_l01In.f a b c = some (decide (b ≤ a) && decide (a ≤ c)) := by
  unfold spec_l01In.f
  by_cases h : b ≤ a <;> simp [h]

theorem spec_WordOk_l0 (k : Int) (hk : 1 ≤ k ∧ k ≤ 4) (w : ByteArray) (hs : w.size ≤ 16) : ∀ (d i : Nat), i + d = w.size → Ev (fun n => spec_WordOk.l0 n k w (i : Int)) (((bytesOf w).drop i).all (letter k)) := by
  intro d
  induction d with
  | zero =>
    intro i hi
    rw [List.drop_of_length_le (by rw [bytesOf_length]; omega)]
    exact Ev.step (f := fun _ => some true) (fun n => by simp only [spec_WordOk.l0]; rw [if_neg (by omega)]) (Ev.now _)
  | succ d ih =>
    intro i hi
    have hlt : i < w.size := by omega
    rw [drop_bytes w i hlt, List.all_cons]
    have hr := bt_range w i
    by_cases h1 : bt w i < 97
    · rw [letter_false (.inl h1), Bool.false_and]
      exact Ev.step (f := fun _ => some false) (fun n => by simp only [spec_WordOk.l0]; rw [if_pos (by omega), if_pos (by omega), if_pos h1]) (Ev.now _)
    · by_cases h2 : 97 + k ≤ bt w i
      · rw [letter_false (.inr h2), Bool.false_and]
        exact Ev.step (f := fun _ => some false) (fun n => by simp only [spec_WordOk.l0]; rw [if_pos (by omega), if_pos (by omega), if_neg h1, if_pos (by omega)]) (Ev.now _)
      · rw [letter_true (by omega) (by omega), Bool.true_and]
        exact Ev.step (f := fun n => spec_WordOk.l0 n k w ((i + 1 : Nat) : Int)) (fun n => by simp only [spec_WordOk.l0]; rw [if_pos (by omega), if_pos (by omega), if_neg h1, if_neg (by omega), w64 (by omega) (by omega)]; simp) (ih (i + 1) (by omega))
theorem spec_WordOk_ev (k : Int) (w : ByteArray) : Ev (fun n => spec_WordOk.f n k w) (wordOk k w) := by
  unfold spec_WordOk.f
  simp only [spec_l01In_eq, bsome]
  by_cases hk : 1 ≤ k ∧ k ≤ 4
  · have e1 : (decide (1 ≤ k) && decide (k ≤ 4)) = true := by simp [hk.1, hk.2]
    simp only [e1, if_true]
    by_cases hs : w.size ≤ 16
    · have hs' : decide ((w.size : Int) > 16) = false := by simp; omega
      have := spec_WordOk_l0 k hk w hs w.size 0 (by omega)
      rw [hs']
      refine Ev.step (f := fun n => spec_WordOk.l0 n k w 0) (fun n => by simp [spec_WordOk.j0]) ?_
      simpa [wordOk, e1, hk.1, hk.2, hs] using this
    · have hs' : decide ((w.size : Int) > 16) = true := by simp; omega
      rw [hs']
      refine Ev.step (f := fun n => some false) (fun n => by simp [spec_WordOk.j0]) ?_
      have : wordOk k w = false := by simp [wordOk, hs]
      rw [this]; exact Ev.now _
  · have e1 : (decide (1 ≤ k) && decide (k ≤ 4)) = false := dec_and_false (by omega)
    simp only [e1, if_neg (show ¬ (false = true) by decide)]
    refine Ev.step (f := fun n => some false) (fun n => by simp [spec_WordOk.j0]) ?_
    have : wordOk k w = false := by simp [wordOk, e1]
    rw [this]; exact Ev.now _

def partOk (m : Int) (x : ByteArray) : Bool := decide (x.size ≤ 8) && wordOk m x
def tagOk (n : Int) (l : List ByteArray) : Bool := (decide (1 ≤ n) && decide (n ≤ 4)) && ((decide ((1 : Int) ≤ l.length) && decide ((l.length : Int) ≤ 4)) && l.all (partOk l.length))
theorem clo_ev (m : Int) (x : ByteArray) : Ev (fun k => impl_TagOk.clo k m x) (!partOk m x) := by
  unfold impl_TagOk.clo partOk
  by_cases h : x.size ≤ 8
  · rw [decide_eq_true h, Bool.true_and]
    exact ev_neg (by omega) (Ev.bind (f := fun _ t => some (!t)) (impl_WordOk_ev m x) (Ev.now _))
  · rw [decide_eq_false h, Bool.false_and]
    exact ev_pos (by omega) (Ev.now _)
theorem clos_ev (m : Int) : ∀ l : List ByteArray, Ev (fun k => listO (impl_TagOk.clo k m) l) (l.map fun x => !partOk m x)
  | [] => Ev.now _
  | x :: l => by
    simp only [listO, List.map_cons]
    exact Ev.bind (clo_ev m x) (Ev.bind (f := fun _ bs => some ((!partOk m x) :: bs)) (clos_ev m l) (Ev.now _))
theorem impl_TagOk_ev (n : Int) (l : List ByteArray) : Ev (fun k => impl_TagOk.f k n l) (tagOk n l) := by
  unfold impl_TagOk.f tagOk
  simp only [impl_within_eq, bsome]
  cases (decide (1 ≤ n) && decide (n ≤ 4)) with
  | false => exact Ev.now _
  | true =>
    cases (decide ((1 : Int) ≤ l.length) && decide ((l.length : Int) ≤ 4)) with
    | false => exact Ev.now _
    | true =>
      simp only [if_true, Bool.true_and]
      have e : (!((l.map fun x => !partOk l.length x).any id)) = l.all (partOk l.length) := by
        rw [List.any_map, List.not_any_eq_all_not]
        congr 1
        funext x
        simp
      rw [← e]
      exact Ev.bind (f := fun _ bs => some (!(bs.any id))) (clos_ev l.length l) (Ev.now _)
theorem spec_TagOk_l0 (n : Int) (l : List ByteArray) (hl : l.length ≤ 4) : ∀ (d i : Nat), i + d = l.length → Ev (fun k => spec_TagOk.l0 k l (l.length : Int) (i : Int) n l) ((l.drop i).all (partOk l.length)) := by
  intro d
  induction d with
  | zero =>
    intro i hi
    rw [List.drop_of_length_le (by omega)]
    exact Ev.step (f := fun _ => some true) (fun k => by simp only [spec_TagOk.l0]; rw [if_neg (by omega)]) (Ev.now _)
  | succ d ih =>
    intro i hi
    have hd : l.drop i = rdOf ByteArray.empty l i :: l.drop (i + 1) := by
      rw [List.drop_eq_getElem_cons (by omega)]
      simp [rdOf, List.getD_eq_getElem?_getD, show i < l.length by omega]
    rw [hd, List.all_cons]
    generalize hx : rdOf ByteArray.empty l (i : Int) = x
    have hw := spec_WordOk_ev l.length x
    unfold partOk at *
    refine Ev.step (f := fun k => (spec_WordOk.f k (l.length : Int) x).bind fun t => if t = true then (if (x.size : Int) > 8 then some false else spec_TagOk.l0 k l (l.length : Int) ((i + 1 : Nat) : Int) n l) else some false) (fun k => ?_) (Ev.bind hw ?_)
    · simp only [spec_TagOk.l0, hx]
      rw [if_pos (by omega), if_pos (by omega), if_pos (by omega), wsucc (n := l.length) (by omega) (by omega)]
    · cases wordOk l.length x with
      | false =>
        rw [Bool.and_false, Bool.false_and]
        exact ev_neg (by decide) (Ev.now _)
      | true =>
        refine ev_pos rfl ?_
        by_cases h : x.size ≤ 8
        · rw [decide_eq_true h, Bool.true_and, Bool.true_and]
          exact ev_neg (by omega) (ih (i + 1) (by omega))
        · rw [decide_eq_false h, Bool.false_and, Bool.false_and]
          exact ev_pos (by omega) (Ev.now _)
theorem spec_TagOk_ev (n : Int) (l : List ByteArray) : Ev (fun k => spec_TagOk.f k n l) (tagOk n l) := by
  unfold spec_TagOk.f tagOk
  simp only [spec_l01In_eq, bsome]
  have bad : Ev (fun k => spec_TagOk.j0 k true n l) false := Ev.step (f := fun _ => some false) (fun k => by simp [spec_TagOk.j0]) (Ev.now _)
  by_cases h1 : 1 ≤ n ∧ n ≤ 4
  · rw [dec_and_true h1]
    by_cases h2 : (1 : Int) ≤ l.length ∧ (l.length : Int) ≤ 4
    · rw [dec_and_true h2]
      simp only [if_true, Bool.true_and]
      exact Ev.step (f := fun k => spec_TagOk.l0 k l (l.length : Int) 0 n l) (fun k => by simp [spec_TagOk.j0]) (spec_TagOk_l0 n l (by omega) l.length 0 (by omega))
    · rw [dec_and_false h2]
      simp only [if_true, Bool.true_and, Bool.false_and]
      exact bad
  · rw [dec_and_false h1, Bool.false_and]
    exact ev_neg (by decide) bad
theorem spec_takes_ev (n : Int) (l : List ByteArray) (w : ByteArray) : Ev (fun k => spec_l17Ok.f k n l w) (tagOk n l && wordOk l.length w) := by
  unfold spec_l17Ok.f
  refine Ev.bind (spec_TagOk_ev n l) ?_
  cases tagOk n l with
  | false => exact Ev.now _
  | true =>
    simp only [if_true, Bool.true_and]
    exact Ev.bind (f := fun _ t => some t) (spec_WordOk_ev l.length w) (Ev.now _)
theorem impl_takes_ev (n : Int) (l : List ByteArray) (w : ByteArray) : Ev (fun k => impl_Tag_takes.f k n l w) (tagOk n l && wordOk l.length w) := by
  unfold impl_Tag_takes.f
  refine Ev.bind (impl_TagOk_ev n l) ?_
  cases tagOk n l with
  | false => exact Ev.now _
  | true =>
    simp only [if_true, Bool.true_and]
    exact Ev.bind (f := fun _ t => some t) (impl_WordOk_ev l.length w) (Ev.now _)
theorem tagOk_iff {n : Int} {l : List ByteArray} : tagOk n l = true ↔ (1 ≤ n ∧ n ≤ 4) ∧ (1 ≤ l.length ∧ l.length ≤ 4) ∧ ∀ x ∈ l, x.size ≤ 8 ∧ wordOk l.length x = true := by
  simp only [tagOk, partOk, Bool.and_eq_true, decide_eq_true_eq, List.all_eq_true]
  constructor
  · rintro ⟨h1, h2, h3⟩; exact ⟨h1, by omega, h3⟩
  · rintro ⟨h1, h2, h3⟩; exact ⟨h1, by omega, h3⟩
/-- The part of the first letter. -/
theorem first_part {n : Int} {l : List ByteArray} {w : ByteArray} (ht : tagOk n l = true) (hw : wordOk l.length w = true) (hpos : 0 < w.size) :
    ∃ j : Nat, (bt w 0 - 97) % 256 = (j : Int) ∧ j < l.length ∧ (rdOf ByteArray.empty l (j : Int)).size ≤ 8 ∧ wordOk l.length (rdOf ByteArray.empty l (j : Int)) = true := by
  obtain ⟨_, h2, h3⟩ := tagOk_iff.1 ht
  obtain ⟨_, _, hs, hl⟩ := wordOk_iff.1 hw
  have hb := hl _ (bt_mem (w := w) (i := 0) hpos)
  have hb' : 97 ≤ bt w 0 ∧ bt w 0 < 97 + (l.length : Int) := hb
  refine ⟨(bt w 0 - 97).toNat, by omega, by omega, ?_⟩
  have := h3 _ (rdOf_mem (l := l) (i := (bt w 0 - 97).toNat) (by omega))
  exact this

/-! ### runs of tag systems -/
def tagCat (n : Int) (l : List ByteArray) (w : ByteArray) : ByteArray := (w.extract n.toNat w.size) ++ rdOf ByteArray.empty l ((bt w 0 - 97) % 256)
/-- The next word, and 0 where there is none, 2 where it is too long, 3 where it is there. -/
def tagNext (n : Int) (l : List ByteArray) (w : ByteArray) : ByteArray × Int := if (w.size : Int) < n then (⟨#[]⟩, 0) else if ((tagCat n l w).size : Int) > 16 then (⟨#[]⟩, 2) else (tagCat n l w, 3)
structure TV (n : Int) (l : List ByteArray) (w : ByteArray) : Prop where
  ok : tagOk n l = true
  w : wordOk l.length w = true
theorem TV.n {n : Int} {l : List ByteArray} {w : ByteArray} (h : TV n l w) : 1 ≤ n ∧ n ≤ 4 := (tagOk_iff.1 h.ok).1
theorem TV.sz {n : Int} {l : List ByteArray} {w : ByteArray} (h : TV n l w) : w.size ≤ 16 := (wordOk_iff.1 h.w).2.2.1
/-- What is told of the word that follows, where one does. -/
theorem TV.cat {n : Int} {l : List ByteArray} {w : ByteArray} (h : TV n l w) (hge : ¬ (w.size : Int) < n) : ∃ j : Nat, (bt w 0 - 97) % 256 = (j : Int) ∧ j < l.length ∧ (rdOf ByteArray.empty l (j : Int)).size ≤ 8 ∧ wordOk l.length (rdOf ByteArray.empty l (j : Int)) = true ∧ (tagCat n l w).size = w.size - n.toNat + (rdOf ByteArray.empty l (j : Int)).size := by
  have hn := h.n
  obtain ⟨j, ej, hj, hps, hpw⟩ := first_part h.ok h.w (by omega)
  refine ⟨j, ej, hj, hps, hpw, ?_⟩
  unfold tagCat
  rw [ej, ByteArray.size_append, ByteArray.size_extract]
  omega
theorem TV.next {n : Int} {l : List ByteArray} {w : ByteArray} (h : TV n l w) (hc : (tagNext n l w).2 = 3) : TV n l (tagNext n l w).1 := by
  unfold tagNext at hc ⊢
  by_cases h1 : (w.size : Int) < n
  · rw [if_pos h1] at hc; exact absurd hc (by decide)
  · rw [if_neg h1] at hc ⊢
    by_cases h2 : ((tagCat n l w).size : Int) > 16
    · rw [if_pos h2] at hc; exact absurd hc (by decide)
    · rw [if_neg h2]
      refine ⟨h.ok, ?_⟩
      obtain ⟨j, ej, hj, hps, hpw, hs⟩ := h.cat h1
      obtain ⟨a1, a2, _, a4⟩ := wordOk_iff.1 h.w
      obtain ⟨_, _, _, b4⟩ := wordOk_iff.1 hpw
      refine wordOk_iff.2 ⟨a1, a2, by simp only; omega, fun x hx => ?_⟩
      simp only [tagCat, ej, bytesOf_append, bytesOf_extract, List.mem_append] at hx
      rcases hx with hx | hx
      · exact a4 x (List.mem_of_mem_drop (List.mem_of_mem_take hx))
      · exact b4 x hx
theorem tagNext_code (n : Int) (l : List ByteArray) (w : ByteArray) : (tagNext n l w).2 = 0 ∨ (tagNext n l w).2 = 2 ∨ (tagNext n l w).2 = 3 := by
  unfold tagNext
  split
  · exact .inl rfl
  · split
    · exact .inr (.inl rfl)
    · exact .inr (.inr rfl)
theorem tagNext_zero {n : Int} {l : List ByteArray} {w : ByteArray} : (tagNext n l w).2 = 0 ↔ (w.size : Int) < n := by
  unfold tagNext
  by_cases h1 : (w.size : Int) < n
  · simp [h1]
  · rw [if_neg h1]
    by_cases h2 : ((tagCat n l w).size : Int) > 16 <;> simp [h1, h2]
theorem impl_next_eq {n : Int} {l : List ByteArray} {w : ByteArray} (h : TV n l w) : impl_Tag_next.f n l w = some (tagNext n l w) := by
  have hn := h.n
  have hs := h.sz
  unfold impl_Tag_next.f tagNext
  by_cases h1 : (w.size : Int) < n
  · rw [if_pos h1, if_pos h1]
  · obtain ⟨j, ej, hj, hps, _, hcs⟩ := h.cat h1
    have hx : (w.extract n.toNat w.size).size = w.size - n.toNat := by rw [ByteArray.size_extract]; omega
    unfold tagCat at hcs ⊢
    rw [ej] at hcs ⊢
    rw [if_neg h1, if_neg h1, if_pos (by omega), if_pos (by omega), if_pos (by omega), if_pos (by omega), if_pos (by omega), if_pos (by omega)]
    split <;> rfl
/-- The words of a run of at most d steps behind a word, and its code. -/
def tagGo (n : Int) (l : List ByteArray) : Nat → ByteArray → List ByteArray × Int
  | 0, w => if (tagNext n l w).2 = 0 then ([], 0) else ([], 3)
  | d + 1, w => if (tagNext n l w).2 = 3 then ((tagNext n l w).1 :: (tagGo n l d (tagNext n l w).1).1, (tagGo n l d (tagNext n l w).1).2) else ([], (tagNext n l w).2)
theorem tagGo_len (n : Int) (l : List ByteArray) : ∀ (d : Nat) (w : ByteArray), (tagGo n l d w).1.length ≤ d
  | 0, w => by unfold tagGo; split <;> simp
  | d + 1, w => by
    unfold tagGo
    split
    · have := tagGo_len n l d (tagNext n l w).1
      simp only [List.length_cons]; omega
    · simp
theorem tagGo_code (n : Int) (l : List ByteArray) : ∀ (d : Nat) (w : ByteArray), (tagGo n l d w).2 = 0 ∨ (tagGo n l d w).2 = 2 ∨ (tagGo n l d w).2 = 3
  | 0, w => by unfold tagGo; split <;> simp
  | d + 1, w => by
    unfold tagGo
    split
    · exact tagGo_code n l d _
    · exact tagNext_code n l w

theorem run_ev (n : Int) (l : List ByteArray) (most : Nat) (hm : most ≤ 500) : ∀ (d : Nat) (w : ByteArray) (s : Nat), TV n l w → s + d = most → Ev (fun k => impl_runSteps.f n l (most : Int) k w (s : Int)) ((tagGo n l d w).1.getLastD w, ((s + (tagGo n l d w).1.length : Nat) : Int), (tagGo n l d w).2) := by
  intro d
  induction d with
  | zero =>
    intro w s h hs
    have hn := impl_next_eq h
    unfold tagGo
    by_cases h0 : (tagNext n l w).2 = 0
    · rw [if_pos h0]
      refine Ev.step (f := fun _ => some (w, (s : Int), 0)) (fun k => ?_) (Ev.now _)
      simp only [impl_runSteps.f, hn, bsome, h0]
      rw [if_neg (by simp), if_neg (by decide)]
    · rw [if_neg h0]
      refine Ev.step (f := fun _ => some (w, (s : Int), 3)) (fun k => ?_) (Ev.now _)
      simp only [impl_runSteps.f, hn, bsome]
      rw [if_pos ⟨h0, by omega⟩]
  | succ d ih =>
    intro w s h hs
    have hn := impl_next_eq h
    unfold tagGo
    by_cases h3 : (tagNext n l w).2 = 3
    · rw [if_pos h3]
      have := ih (tagNext n l w).1 (s + 1) (h.next h3) (by omega)
      have e : (s + 1 + (tagGo n l d (tagNext n l w).1).1.length : Nat) = s + ((tagGo n l d (tagNext n l w).1).1.length + 1) := by omega
      rw [e] at this
      simp only [List.length_cons]
      rw [show ((tagNext n l w).1 :: (tagGo n l d (tagNext n l w).1).1).getLastD w = (tagGo n l d (tagNext n l w).1).1.getLastD (tagNext n l w).1 by rw [List.getLastD_cons]]
      refine Ev.step (fun k => ?_) this
      simp only [impl_runSteps.f, hn, bsome]
      rw [if_neg (fun h => by omega), if_pos h3, wsucc (n := 500) (by omega) (by omega)]
    · rw [if_neg h3]
      refine Ev.step (f := fun _ => some (w, (s : Int), (tagNext n l w).2)) (fun k => ?_) (Ev.now _)
      simp only [impl_runSteps.f, hn, bsome]
      rw [if_neg (fun h => by omega), if_neg h3]

theorem spec_step_ev {n : Int} {l : List ByteArray} {w : ByteArray} (h : TV n l w) : Ev (fun k => spec_TagStep.f k n l w) (if (tagNext n l w).2 = 3 then ((tagNext n l w).1, true) else (⟨#[]⟩, false)) := by
  have hn := h.n
  have hs := h.sz
  unfold spec_TagStep.f tagNext
  have s := spec_takes_ev n l w
  rw [h.ok, h.w] at s
  refine Ev.bind s (ev_pos rfl ?_)
  by_cases h1 : (w.size : Int) < n
  · rw [if_pos h1, decide_eq_true h1]
    exact Ev.step (f := fun _ => some (⟨#[]⟩, false)) (fun k => by simp [spec_TagStep.j0]) (Ev.now _)
  · obtain ⟨j, ej, hj, hps, _, hcs⟩ := h.cat h1
    have hx : (w.extract n.toNat w.size).size = w.size - n.toNat := by rw [ByteArray.size_extract]; omega
    unfold tagCat at hcs ⊢
    rw [ej] at hcs ⊢
    rw [if_neg h1, decide_eq_false h1]
    generalize hp : rdOf ByteArray.empty l (j : Int) = p at hps hcs
    have e1 : wrap64 (wrap64 ((w.size : Int) - n) + (p.size : Int)) = (w.size : Int) - n + p.size := by rw [w64 (x := (w.size : Int) - n) (by omega) (by omega), w64 (by omega) (by omega)]
    by_cases hbig : (((w.extract n.toNat w.size) ++ p).size : Int) > 16
    · rw [if_pos hbig]
      refine Ev.step (f := fun _ => some (⟨#[]⟩, false)) (fun k => ?_) (Ev.now _)
      simp only [spec_TagStep.j0, ej, hp, e1]
      rw [if_neg (by decide), if_pos (by omega), if_pos (by omega), if_pos (by omega), if_pos (by omega)]
    · rw [if_neg hbig]
      refine Ev.step (f := fun _ => some ((w.extract n.toNat w.size) ++ p, true)) (fun k => ?_) (Ev.now _)
      simp only [spec_TagStep.j0, ej, hp, e1]
      rw [if_neg (by decide), if_pos (by omega), if_pos (by omega), if_pos (by omega), if_neg (by omega), if_pos (by omega), if_pos (by omega), if_pos (by omega)]

theorem spec_words_l0 (n : Int) (l : List ByteArray) (most : Nat) (hm : most ≤ 500) : ∀ (d : Nat) (w : ByteArray) (acc : List ByteArray), TV n l w → acc.length + d = most + 1 → 1 ≤ acc.length → Ev (fun k => spec_l17Words.l0 k w (most : Int) acc n l) (acc ++ (tagGo n l d w).1, (tagGo n l d w).2) := by
  intro d
  induction d with
  | zero =>
    intro w acc h ha h1
    unfold tagGo
    have e : wrap64 ((acc.length : Int) - 1) = (most : Int) := by rw [w64 (by omega) (by omega)]; omega
    by_cases h0 : (w.size : Int) < n
    · rw [if_pos (tagNext_zero.2 h0), List.append_nil]
      exact Ev.step (f := fun _ => some (acc, 0)) (fun k => by simp only [spec_l17Words.l0]; rw [if_pos h0]) (Ev.now _)
    · rw [if_neg (fun h => h0 (tagNext_zero.1 h)), List.append_nil]
      exact Ev.step (f := fun _ => some (acc, 3)) (fun k => by simp only [spec_l17Words.l0]; rw [if_neg h0, if_pos e]) (Ev.now _)
  | succ d ih =>
    intro w acc h ha h1
    have e : ¬ wrap64 ((acc.length : Int) - 1) = (most : Int) := by rw [w64 (by omega) (by omega)]; omega
    unfold tagGo
    by_cases h0 : (w.size : Int) < n
    · have z : (tagNext n l w).2 = 0 := tagNext_zero.2 h0
      rw [if_neg (by omega), z, List.append_nil]
      exact Ev.step (f := fun _ => some (acc, 0)) (fun k => by simp only [spec_l17Words.l0]; rw [if_pos h0]) (Ev.now _)
    · have st := spec_step_ev h
      by_cases h3 : (tagNext n l w).2 = 3
      · rw [if_pos h3] at st ⊢
        have := ih (tagNext n l w).1 (acc ++ [(tagNext n l w).1]) (h.next h3) (by simp; omega) (by simp)
        rw [List.append_assoc, List.singleton_append] at this
        refine Ev.step (fun k => by simp only [spec_l17Words.l0]; rw [if_neg h0, if_neg e]) (Ev.bind st ?_)
        exact ev_pos rfl (ev_pos (show acc.length < 8796093022208 by omega) this)
      · have hz : ¬ (tagNext n l w).2 = 0 := fun h => h0 (tagNext_zero.1 h)
        have h2 : (tagNext n l w).2 = 2 := by have := tagNext_code n l w; omega
        rw [if_neg h3] at st ⊢
        rw [h2, List.append_nil]
        refine Ev.step (fun k => by simp only [spec_l17Words.l0]; rw [if_neg h0, if_neg e]) (Ev.bind st ?_)
        exact ev_neg (by simp) (Ev.now _)
/-- The words of a run and its code, 4 where it is none. -/
def tagWords (n : Int) (l : List ByteArray) (w : ByteArray) (most : Int) : List ByteArray × Int := if (tagOk n l && wordOk l.length w) = true ∧ 0 ≤ most ∧ most ≤ 500 then (w :: (tagGo n l most.toNat w).1, (tagGo n l most.toNat w).2) else ([], 4)
theorem spec_words_ev (n : Int) (l : List ByteArray) (w : ByteArray) (most : Int) : Ev (fun k => spec_l17Words.f k n l w most) (tagWords n l w most) := by
  unfold spec_l17Words.f tagWords
  have s := spec_takes_ev n l w
  have bad : Ev (fun k => spec_l17Words.j0 k w most true n l) (([] : List ByteArray), 4) := Ev.step (f := fun _ => some (([] : List ByteArray), 4)) (fun k => by simp [spec_l17Words.j0]) (Ev.now _)
  cases ht : (tagOk n l && wordOk l.length w) with
  | false =>
    rw [ht] at s
    rw [if_neg (by simp)]
    exact Ev.bind s (ev_neg (by decide) bad)
  | true =>
    rw [ht] at s
    simp only [spec_l01In_eq, bsome]
    refine Ev.bind s (ev_pos rfl ?_)
    by_cases hm : 0 ≤ most ∧ most ≤ 500
    · rw [dec_and_true hm, if_pos ⟨by first | rfl | trivial, hm⟩]
      have ht' := Bool.and_eq_true_iff.1 ht
      have := spec_words_l0 n l most.toNat (by omega) most.toNat w [w] ⟨ht'.1, ht'.2⟩ (by simp; omega) (by simp)
      rw [Int.toNat_of_nonneg hm.1] at this
      exact Ev.step (fun k => by simp only [spec_l17Words.j0, Bool.not_true]; rw [if_neg (by decide)]) this
    · rw [dec_and_false hm, if_neg (fun h => hm h.2)]
      exact bad

theorem on_ev (n : Int) (l : List ByteArray) : ∀ (d : Nat) (w : ByteArray) (i : Nat) (acc : List ByteArray), TV n l w → i + d ≤ 500 → acc.length ≤ i + 1 → Ev (fun k => impl_wordsOn.f n l ((i + (tagGo n l d w).1.length : Nat) : Int) k w (i : Int) acc) (acc ++ (tagGo n l d w).1) := by
  intro d
  induction d with
  | zero =>
    intro w i acc h hi ha
    have e : (tagGo n l 0 w).1 = [] := by unfold tagGo; split <;> rfl
    rw [e, List.append_nil]
    refine Ev.step (f := fun _ => some acc) (fun k => ?_) (Ev.now _)
    simp only [impl_wordsOn.f]
    rw [if_neg (by simp)]
  | succ d ih =>
    intro w i acc h hi ha
    unfold tagGo
    by_cases h3 : (tagNext n l w).2 = 3
    · rw [if_pos h3]
      have := ih (tagNext n l w).1 (i + 1) (acc ++ [(tagNext n l w).1]) (h.next h3) (by omega) (by simp; omega)
      have e : (i + 1 + (tagGo n l d (tagNext n l w).1).1.length : Nat) = i + ((tagGo n l d (tagNext n l w).1).1.length + 1) := by omega
      rw [e, List.append_assoc, List.singleton_append] at this
      simp only [List.length_cons]
      refine Ev.step (fun k => ?_) this
      simp only [impl_wordsOn.f, impl_next_eq h, bsome]
      rw [if_pos (by omega), if_pos (by omega), wsucc (n := 500) (by omega) (by omega)]
    · rw [if_neg h3, List.append_nil]
      refine Ev.step (f := fun _ => some acc) (fun k => ?_) (Ev.now _)
      simp only [impl_wordsOn.f]
      rw [if_neg (by simp)]

theorem spec_wordsf_ev (n : Int) (l : List ByteArray) (w : ByteArray) (most : Int) : Ev (fun k => spec_TagWords.f k n l w most) (tagWords n l w most).1 := by
  unfold spec_TagWords.f
  exact Ev.bind (spec_words_ev n l w most) (Ev.now _)
theorem impl_wordsf_ev (n : Int) (l : List ByteArray) (w : ByteArray) (most : Int) : Ev (fun k => impl_TagWords.f k n l w most) (tagWords n l w most).1 := by
  unfold impl_TagWords.f tagWords
  have i := impl_takes_ev n l w
  cases ht : (tagOk n l && wordOk l.length w) with
  | false =>
    rw [ht] at i
    rw [if_neg (by simp)]
    exact Ev.bind i (ev_neg (by decide) (Ev.now _))
  | true =>
    rw [ht] at i
    simp only [impl_within_eq, bsome]
    refine Ev.bind i (ev_pos rfl ?_)
    by_cases hm : 0 ≤ most ∧ most ≤ 500
    · rw [dec_and_true hm, if_pos ⟨by first | rfl | trivial, hm⟩]
      have ht' := Bool.and_eq_true_iff.1 ht
      have h1 := run_ev n l most.toNat (by omega) most.toNat w 0 ⟨ht'.1, ht'.2⟩ (by omega)
      have h2 := on_ev n l most.toNat w 0 [w] ⟨ht'.1, ht'.2⟩ (by omega) (by simp)
      rw [Int.toNat_of_nonneg hm.1, Nat.zero_add] at h1
      rw [Nat.zero_add] at h2
      exact ev_pos rfl (Ev.bind h1 h2)
    · rw [dec_and_false hm, if_neg (fun h => hm h.2)]
      exact ev_neg (by decide) (Ev.now _)
theorem tagWords_len (n : Int) (l : List ByteArray) (w : ByteArray) (most : Int) : (tagWords n l w most).1.length ≤ 501 := by
  unfold tagWords
  split
  · rename_i h
    have := tagGo_len n l most.toNat w
    simp only [List.length_cons]
    omega
  · simp
theorem FnExactTagWords : ∀ (a0_0 : Int) (l0_1 : List ByteArray) (a1 : ByteArray) (a2 : Int), (Lit.int .i64 a0_0).wf = true → l0_1.length ≤ 9223372036854775807 → (∀ x ∈ l0_1, (fun x : ByteArray => x.size ≤ 9223372036854775807) x) → a1.size ≤ 9223372036854775807 → (Lit.int .i64 a2).wf = true → ∃ k, PFnExactTagWords.laws_FnExactTagWords.f k a0_0 l0_1 a1 a2 = some true := by
  intro n l w most _ hl hs hw _
  have : Ev (fun k => laws_FnExactTagWords.f k n l w most) true := by
    unfold laws_FnExactTagWords.f
    by_cases hbig : (w.size : Int) > 1048576
    · exact ev_pos hbig (Ev.now _)
    obtain ⟨r, h1, h2⟩ := szTag_cases n l 1048576 (by omega) hl hs
    refine ev_neg hbig (Ev.bind h1 ?_)
    by_cases hr : r < 0
    · exact ev_pos hr (Ev.now _)
    · have hl' : l.length ≤ 1048576 := h2.resolve_left hr
      have hq := tagWords_len n l w most
      have sp := spec_wordsf_ev n l w most
      have im := impl_wordsf_ev n l w most
      generalize (tagWords n l w most).1 = q at hq sp im
      have tg := toTag_ev n l hl'
      have eq := eqStringS_ev q (by omega)
      obtain ⟨z1, m1, _⟩ := markStringS_ev l hl' 1 (by omega)
      obtain ⟨z3, m3, m4⟩ := markStringS_ev q (by omega) 1 (by omega)
      refine ev_neg hr (Ev.bind tg (Ev.bind sp (Ev.bind tg (Ev.bind im (Ev.bind eq (ev_pos rfl ?_))))))
      refine Ev.bind tg (Ev.bind (eqTag_ev n l hl') (ev_pos rfl ?_))
      refine Ev.bind (a := (1 + (l.length : Int), z1)) ?_ (ev_neg (by simp only; omega) (Ev.bind eq ?_))
      · unfold laws_markTag.f
        exact Ev.bind m1 (Ev.now _)
      refine Ev.step (fun k => by simp only [laws_FnExactTagWords.j0]; rw [if_neg (by decide)]) ?_
      refine Ev.bind m3 (Ev.bind m4 (ev_neg (by omega) (ev_pos rfl ?_)))
      refine Ev.bind tg (Ev.bind im (Ev.bind eq (ev_pos rfl ?_)))
      exact Ev.bind m4 (ev_neg (by omega) (ev_pos rfl (Ev.now _)))
  exact this.rounds

end Go.Proofs.Ytfbekpofebkfhaa.Pure
