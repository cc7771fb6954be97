/- Small plain facts on bytes, whole numbers and rounds, used by the other texts of this claim. -/
import Derived.Test.YtfbekpofebkfhaaWMore
namespace Go.Proofs.Ytfbekpofebkfhaa.Base
open Go.RowKit Go.Proofs.YtfbekpofebkfhaaW.PrintWords Go.Proofs.YtfbekpofebkfhaaW.PrintLast

theorem w64 {x : Int} (h1 : -9223372036854775808 ≤ x) (h2 : x ≤ 9223372036854775807) : wrap64 x = x := by
  unfold wrap64; omega

/-! ### bytes -/
theorem bytesOf_append (a b : ByteArray) : bytesOf (a ++ b) = bytesOf a ++ bytesOf b := by
  simp [bytesOf, ByteArray.data_append]
theorem bytesOf_extract (a : ByteArray) (i j : Nat) : bytesOf (a.extract i j) = ((bytesOf a).drop i).take (j - i) := by
  simp [bytesOf, ByteArray.data_extract, Array.toList_extract, List.extract_eq_take_drop, List.map_take, List.map_drop]
theorem bytesOf_inj {a b : ByteArray} (h : bytesOf a = bytesOf b) : a = b := by
  obtain ⟨⟨a⟩⟩ := a
  obtain ⟨⟨b⟩⟩ := b
  simp only [bytesOf] at h
  have : a = b := by
    refine List.map_inj_right ?_ |>.1 h
    intro x y hxy
    exact UInt8.toNat_inj.1 (by omega)
  rw [this]
theorem bytesOf_range {a : ByteArray} {x : Int} (h : x ∈ bytesOf a) : 0 ≤ x ∧ x ≤ 255 := by
  simp only [bytesOf, List.mem_map] at h
  obtain ⟨b, _, rfl⟩ := h
  have := b.toNat_lt
  omega
theorem bytesOf_strOfNums {l : List Int} (h : ∀ x ∈ l, 0 ≤ x ∧ x ≤ 255) : bytesOf (strOfNums l) = l := by
  simp only [bytesOf, strOfNums, List.map_map]
  conv => rhs; rw [← List.map_id l]
  refine List.map_congr_left fun x hx => ?_
  have := h x hx
  simp only [Function.comp, id, UInt8.toNat_ofNat']
  omega
theorem strOfNums_bytesOf (a : ByteArray) : strOfNums (bytesOf a) = a :=
  bytesOf_inj (bytesOf_strOfNums fun _ h => bytesOf_range h)
theorem bytesOf_nil : bytesOf (⟨#[]⟩ : ByteArray) = [] := rfl
theorem strOfNums_nil : strOfNums [] = (⟨#[]⟩ : ByteArray) := rfl
theorem bytesOf_getElem (a : ByteArray) (i : Nat) (h : i < a.size) : (bytesOf a)[i]'(by rw [bytesOf_length]; exact h) = bt a i := by
  rw [← rd_bytesOf]
  simp [rd, List.getD_eq_getElem?_getD, bytesOf_length, h]
theorem rd_getElem (l : List Int) (i : Int) (h : i.toNat < l.length) : rd l i = l[i.toNat] := by
  simp [rd, List.getD_eq_getElem?_getD, h]
theorem drop_bytes (a : ByteArray) (i : Nat) (h : i < a.size) : (bytesOf a).drop i = bt a i :: (bytesOf a).drop (i + 1) := by
  rw [List.drop_eq_getElem_cons (by rw [bytesOf_length]; exact h), bytesOf_getElem a i h]

/-! ### rounds -/
theorem ev_const {α : Type} {o : Option α} {r : α} (h : o = some r) : Ev (fun _ => o) r := ⟨0, fun _ _ => h⟩

theorem ev_pos {α : Type} {c : Prop} [Decidable c] {f g : Nat → Option α} {r : α} (h : c) (k : Ev f r) : Ev (fun n => if c then f n else g n) r := by
  simp only [if_pos h]; exact k
theorem ev_neg {α : Type} {c : Prop} [Decidable c] {f g : Nat → Option α} {r : α} (h : ¬ c) (k : Ev g r) : Ev (fun n => if c then f n else g n) r := by
  simp only [if_neg h]; exact k

theorem dec_and_false {p q : Prop} [Decidable p] [Decidable q] (h : ¬ (p ∧ q)) : (decide p && decide q) = false := by
  rw [← Bool.decide_and]; exact decide_eq_false h
theorem dec_and_true {p q : Prop} [Decidable p] [Decidable q] (h : p ∧ q) : (decide p && decide q) = true := by
  rw [← Bool.decide_and]; exact decide_eq_true h

/-! ### the first index at which something holds -/
def idxP {α : Type} (p : α → Bool) : List α → Int
  | [] => -1
  | x :: xs => if p x then 0 else if idxP p xs < 0 then -1 else idxP p xs + 1
theorem idxP_ge {α : Type} (p : α → Bool) (l : List α) : -1 ≤ idxP p l := by
  induction l with
  | nil => simp [idxP]
  | cons x xs ih => simp only [idxP]; split <;> (try split) <;> omega
theorem idxP_neg {α : Type} (p : α → Bool) (l : List α) : idxP p l < 0 ↔ l.any p = false := by
  induction l with
  | nil => simp [idxP]
  | cons x xs ih =>
    simp only [idxP, List.any_cons]
    cases hp : p x with
    | true => simp
    | false =>
      simp only [Bool.false_or, ← ih]
      simp only [Bool.false_eq_true, if_false]
      split <;> omega
theorem idxP_miss {α : Type} (p : α → Bool) (l : List α) (h : ∀ (j : Nat) (x : α), l[j]? = some x → p x = false) : idxP p l = -1 := by
  have h1 := idxP_ge p l
  have h2 : idxP p l < 0 := by
    rw [idxP_neg, List.any_eq_false]
    intro x hx
    obtain ⟨j, hj⟩ := List.getElem?_of_mem hx
    simp [h j x hj]
  omega
theorem idxP_hit {α : Type} (p : α → Bool) : ∀ (l : List α) (k : Nat) (y : α), l[k]? = some y → p y = true → (∀ (j : Nat) (x : α), j < k → l[j]? = some x → p x = false) → idxP p l = k
  | [], k, y, h, _, _ => by simp at h
  | x :: xs, 0, y, h, hy, _ => by
    simp at h
    subst h
    simp [idxP, hy]
  | x :: xs, k + 1, y, h, hy, hj => by
    have h0 := hj 0 x (by omega) rfl
    have ih := idxP_hit p xs k y (by simpa using h) hy (fun j z hjk hz => hj (j + 1) z (by omega) (by simpa using hz))
    simp only [idxP, h0, ih]
    rw [if_neg (by simp), if_neg (by omega)]
    simp

end Go.Proofs.Ytfbekpofebkfhaa.Base
