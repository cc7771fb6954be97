/- Small plain facts that the pure statements use and the printed texts do not. -/
import Derived.Test.YtfbekpofebkfhaaBase
namespace Go.Proofs.Ytfbekpofebkfhaa.Base
open Go.RowKit Go.Proofs.YtfbekpofebkfhaaW.PrintWords Go.Proofs.YtfbekpofebkfhaaW.PrintLast

/-- As 'Option.bind_some'; a rule that simp writes out in its proof: the kernel then needs not unfold the functions beside it. -/
theorem bsome {α β : Type} (a : α) (f : α → Option β) : (some a).bind f = f a := by rw [Option.bind_some]
/-- p holds at the d numbers from i on. -/
def allFrom (p : Nat → Bool) (i : Nat) : Nat → Bool
  | 0 => true
  | d + 1 => p i && allFrom p (i + 1) d
theorem allFrom_iff (p : Nat → Bool) : ∀ (d i : Nat), allFrom p i d = true ↔ ∀ j, i ≤ j → j < i + d → p j = true
  | 0, i => by simp [allFrom]; intro j h1 h2; omega
  | d + 1, i => by
    simp only [allFrom, Bool.and_eq_true, allFrom_iff p d (i + 1)]
    constructor
    · rintro ⟨h1, h2⟩ j h3 h4
      by_cases e : j = i
      · rw [e]; exact h1
      · exact h2 j (by omega) (by omega)
    · intro h
      exact ⟨h i (by omega) (by omega), fun j h1 h2 => h j (by omega) (by omega)⟩
theorem allFrom_congr {p q : Nat → Bool} {d i : Nat} (h : ∀ j, i ≤ j → j < i + d → p j = q j) : allFrom p i d = allFrom q i d := by
  rw [Bool.eq_iff_iff, allFrom_iff, allFrom_iff]
  constructor
  · intro h1 j h2 h3; rw [← h j h2 h3]; exact h1 j h2 h3
  · intro h1 j h2 h3; rw [h j h2 h3]; exact h1 j h2 h3

theorem bt_mem {w : ByteArray} {i : Nat} (h : i < w.size) : bt w i ∈ bytesOf w := by
  rw [← bytesOf_getElem w i h]; exact List.getElem_mem _

/-! ### tables -/
def T (n : Int) (p : List Int) (a b : Int) : Int := rd p (a * n + b)
theorem mul_bounds {n a b : Int} (hn : 1 ≤ n ∧ n ≤ 40) (ha : 0 ≤ a ∧ a < n) (hb : 0 ≤ b ∧ b < n) : 0 ≤ a * n ∧ a * n ≤ 1600 ∧ a * n + b < n * n := by
  have h0 : 0 ≤ a * n := Int.mul_nonneg ha.1 (by omega)
  have h1 : a * n ≤ (n - 1) * n := Int.mul_le_mul_of_nonneg_right (by omega) (by omega)
  have h2 : (n - 1) * n = n * n - n := by rw [Int.sub_mul, Int.one_mul]
  have h3 : n * n ≤ 40 * 40 := Int.mul_le_mul hn.2 hn.2 (by omega) (by omega)
  omega
/-- What is told of an element's place, behind one name. -/
structure Idx (n : Int) (p : List Int) (a b : Int) : Prop where
  e1 : wrap64 (a * n) = a * n
  e2 : wrap64 (wrap64 (a * n) + b) = a * n + b
  r : rd p (wrap64 (wrap64 (a * n) + b)) = T n p a b
  g : 0 ≤ wrap64 (wrap64 (a * n) + b)
  g' : wrap64 (wrap64 (a * n) + b) < (p.length : Int)
theorem T_idx {n a b : Int} {p : List Int} (hn : 1 ≤ n ∧ n ≤ 40) (hl : (p.length : Int) = n * n) (ha : 0 ≤ a ∧ a < n) (hb : 0 ≤ b ∧ b < n) : Idx n p a b := by
  have h := mul_bounds hn ha hb
  have e1 : wrap64 (a * n) = a * n := w64 (by omega) (by omega)
  have e2 : wrap64 (wrap64 (a * n) + b) = a * n + b := by rw [e1]; exact w64 (by omega) (by omega)
  exact ⟨e1, e2, by rw [e2]; rfl, by rw [e2]; omega, by rw [e2]; omega⟩
theorem int_beq (a b : Int) : (a == b) = decide (a = b) := by by_cases h : a = b <;> simp [h]
theorem rd_mem {l : List Int} {i : Int} (h0 : 0 ≤ i) (h1 : i < l.length) : rd l i ∈ l := by
  have h : i.toNat < l.length := by omega
  simp only [rd, List.getD_eq_getElem?_getD, List.getElem?_eq_getElem h, Option.getD_some]
  exact List.getElem_mem h
theorem T_range {n a b : Int} {p : List Int} (hn : 1 ≤ n ∧ n ≤ 40) (hl : (p.length : Int) = n * n) (hp : ∀ x ∈ p, 0 ≤ x ∧ x ≤ n - 1) (ha : 0 ≤ a ∧ a < n) (hb : 0 ≤ b ∧ b < n) : 0 ≤ T n p a b ∧ T n p a b < n := by
  have h := mul_bounds hn ha hb
  have := hp _ (rd_mem (l := p) (i := a * n + b) (by omega) (by omega))
  unfold T
  omega
/-- The brackets of three elements. -/
def assocB (n : Int) (p : List Int) (a b c : Nat) : Bool := decide (T n p (T n p a b) c = T n p a (T n p b c))
def unitB (n : Int) (p : List Int) (a : Nat) : Bool := decide (T n p 0 a = (a : Int)) && decide (T n p a 0 = (a : Int))
def tableOk (n : Int) (p : List Int) : Bool :=
  (decide (1 ≤ n) && decide (n ≤ 40)) && (decide ((p.length : Int) = n * n) && ((p.all fun x => decide (0 ≤ x) && decide (x ≤ n - 1)) && allFrom (fun a => unitB n p a && allFrom (fun b => allFrom (fun c => assocB n p a b c) 0 n.toNat) 0 n.toNat) 0 n.toNat))
theorem tableOk_true {n : Int} {p : List Int} (h : tableOk n p = true) : (1 ≤ n ∧ n ≤ 40) ∧ (p.length : Int) = n * n ∧ (∀ x ∈ p, 0 ≤ x ∧ x ≤ n - 1) := by
  simp only [tableOk, Bool.and_eq_true, decide_eq_true_eq, List.all_eq_true] at h
  exact ⟨h.1, h.2.1, h.2.2.1⟩
theorem tableOk_unit {n : Int} {p : List Int} (h : tableOk n p = true) (a : Nat) (ha : (a : Int) < n) : T n p 0 a = a ∧ T n p a 0 = a := by
  simp only [tableOk, Bool.and_eq_true, allFrom_iff] at h
  have := (h.2.2.2 a (by omega) (by omega)).1
  simpa [unitB] using this
theorem tableOk_assoc {n : Int} {p : List Int} (h : tableOk n p = true) (a b c : Nat) (ha : (a : Int) < n) (hb : (b : Int) < n) (hc : (c : Int) < n) : T n p (T n p a b) c = T n p a (T n p b c) := by
  simp only [tableOk, Bool.and_eq_true, allFrom_iff] at h
  have := (h.2.2.2 a (by omega) (by omega)).2 b (by omega) (by omega) c (by omega) (by omega)
  simpa [assocB] using this

/-! ### automata -/
def N (n : Int) (x : List Int) (s c : Int) : Int := rd x (s * n + c)
structure AIdx (n : Int) (x : List Int) (s c : Int) : Prop where
  r : rd x (wrap64 (wrap64 (s * n) + c)) = N n x s c
  e : wrap64 (wrap64 (s * n) + c) = s * n + c
  g : 0 ≤ wrap64 (wrap64 (s * n) + c)
  g' : wrap64 (wrap64 (s * n) + c) < (x.length : Int)
theorem A_idx {n m s c : Int} {x : List Int} (hn : 1 ≤ n ∧ n ≤ 4) (hm : 1 ≤ m ∧ m ≤ 80) (hl : (x.length : Int) = n * m) (hs : 0 ≤ s ∧ s < m) (hc : 0 ≤ c ∧ c < n) : AIdx n x s c := by
  have h0 : 0 ≤ s * n := Int.mul_nonneg hs.1 (by omega)
  have h1 : s * n ≤ (m - 1) * n := Int.mul_le_mul_of_nonneg_right (by omega) (by omega)
  have h2 : (m - 1) * n = n * m - n := by rw [Int.sub_mul, Int.one_mul, Int.mul_comm]
  have h3 : n * m ≤ 4 * 80 := Int.mul_le_mul hn.2 hm.2 (by omega) (by omega)
  have e1 : wrap64 (s * n) = s * n := w64 (by omega) (by omega)
  have e2 : wrap64 (wrap64 (s * n) + c) = s * n + c := by rw [e1]; exact w64 (by omega) (by omega)
  exact ⟨by rw [e2]; rfl, e2, by rw [e2]; omega, by rw [e2]; omega⟩
theorem N_range {n m s c : Int} {x : List Int} (hn : 1 ≤ n ∧ n ≤ 4) (hm : 1 ≤ m ∧ m ≤ 80) (hl : (x.length : Int) = n * m) (hx : ∀ z ∈ x, -1 ≤ z ∧ z ≤ m - 1) (hs : 0 ≤ s ∧ s < m) (hc : 0 ≤ c ∧ c < n) : -1 ≤ N n x s c ∧ N n x s c < m := by
  have I := A_idx hn hm hl hs hc
  have := hx _ (rd_mem (l := x) I.g I.g')
  rw [I.r] at this
  omega

end Go.Proofs.Ytfbekpofebkfhaa.Base
