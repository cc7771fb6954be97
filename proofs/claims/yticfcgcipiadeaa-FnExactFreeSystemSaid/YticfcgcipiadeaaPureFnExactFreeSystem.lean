/- The plain statement of the law FnExactFreeSystem: what the printed functions come to is true at every input of the kinds stated. No conditions beyond those of the printed statement. -/
import Derived.Test.YticfcgcipiadeaaPFnExactFreeSystemx4
import Derived.Laws.StructEq
import Derived.Test.YticfcgcipiadeaaBase
import Derived.Test.YticfcgcipiadeaaPlain
import Derived.Laws.StructEq
namespace Go.Proofs.Yticfcgcipiadeaa.Pure
open Go.RowKit Go.Proofs.Yticfcgcipiadeaa.PFnExactFreeSystem Go.Proofs.YticfcgcipiadeaaW.PrintWords Go.Proofs.YticfcgcipiadeaaW.PrintLast Go.Proofs.Yticfcgcipiadeaa.Base
set_option linter.unusedVariables false
set_option linter.unusedSimpArgs false

theorem impl_within_eq (a b c : Int) : impl_within.f a b c = some (decide (b ≤ a) && decide (a ≤ c)) := by
  unfold impl_within.f
  by_cases h : b ≤ a <;> simp [h]

/-! ### words -/
def letter (k x : Int) : Bool := decide (97 ≤ x) && decide (x < 97 + k)
def wordOk (k : Int) (w : ByteArray) : Bool := decide (1 ≤ k) && decide (k ≤ 4) && decide (w.size ≤ 16) && (bytesOf w).all (letter k)
theorem wordOk_iff {k : Int} {w : ByteArray} : wordOk k w = true ↔ 1 ≤ k ∧ k ≤ 4 ∧ w.size ≤ 16 ∧ ∀ x ∈ bytesOf w, 97 ≤ x ∧ x < 97 + k := by
  simp [wordOk, letter, and_assoc]
theorem letter_true {k x : Int} (h : 97 ≤ x) (h' : x < 97 + k) : letter k x = true := by simp [letter, h, h']
theorem letter_false {k x : Int} (h : x < 97 ∨ 97 + k ≤ x) : letter k x = false := by
  unfold letter
  rcases h with h | h
  · simp [show ¬ 97 ≤ x by omega]
  · simp [show ¬ x < 97 + k by omega]

/-! ### free reduction, plainly -/
def isL (g c : Int) : Prop := 97 ≤ c ∧ c < 97 + 2 * g
def inv (g c : Int) : Int := if c < 97 + g then c + g else c - g
theorem inv_isL {g c : Int} (h : isL g c) : isL g (inv g c) := by unfold isL inv at *; split <;> omega
theorem inv_inv {g c : Int} (h : isL g c) : inv g (inv g c) = c := by unfold isL at h; unfold inv; split <;> split <;> omega
def step (g : Int) (acc : List Int) (c : Int) : List Int := if acc.getLast? = some (inv g c) then acc.dropLast else acc ++ [c]
def form (g : Int) (acc l : List Int) : List Int := l.foldl (step g) acc
theorem step_isL {g : Int} {acc : List Int} {c : Int} (h : ∀ x ∈ acc, isL g x) (hc : isL g c) : ∀ x ∈ step g acc c, isL g x := by
  intro x hx
  unfold step at hx
  split at hx
  · exact h x ((List.dropLast_sublist acc).subset hx)
  · rcases List.mem_append.1 hx with hx | hx
    · exact h x hx
    · rw [List.mem_singleton.1 hx]; exact hc
theorem step_len (g : Int) (acc : List Int) (c : Int) : (step g acc c).length ≤ acc.length + 1 := by
  unfold step
  split
  · simp; omega
  · simp
theorem form_isL {g : Int} : ∀ (l acc : List Int), (∀ x ∈ acc, isL g x) → (∀ x ∈ l, isL g x) → ∀ x ∈ form g acc l, isL g x
  | [], acc, h, _ => h
  | c :: l, acc, h, hl => form_isL l (step g acc c) (step_isL h (hl c List.mem_cons_self)) (fun x hx => hl x (List.mem_cons_of_mem _ hx))
theorem form_len (g : Int) : ∀ (l acc : List Int), (form g acc l).length ≤ acc.length + l.length
  | [], acc => by simp [form]
  | c :: l, acc => by
    have h1 := form_len g l (step g acc c)
    have h2 := step_len g acc c
    simp only [form, List.foldl_cons, List.length_cons] at h1 ⊢
    omega
theorem isL_range {g c : Int} (hg : g = 1 ∨ g = 2) (h : isL g c) : 0 ≤ c ∧ c ≤ 255 := by unfold isL at h; omega
theorem snoc_of_ne {l : List Int} (h : l ≠ []) : ∃ l' y, l = l' ++ [y] := ⟨l.dropLast, l.getLast h, (List.dropLast_concat_getLast h).symm⟩
def isFree (g : Int) (w : ByteArray) : Bool := decide (1 ≤ g) && decide (g ≤ 2) && wordOk (2 * g) w
theorem isFree_iff {g : Int} {w : ByteArray} : isFree g w = true ↔ (g = 1 ∨ g = 2) ∧ w.size ≤ 16 ∧ ∀ x ∈ bytesOf w, isL g x := by
  simp only [isFree, Bool.and_eq_true, decide_eq_true_eq, wordOk_iff, isL]
  constructor
  · rintro ⟨⟨h1, h2⟩, _, _, h3, h4⟩
    exact ⟨by omega, h3, h4⟩
  · rintro ⟨h1, h3, h4⟩
    exact ⟨⟨by omega, by omega⟩, by omega, by omega, h3, h4⟩
theorem mem_drop_isL {g : Int} {l : List Int} {i : Nat} (h : ∀ x ∈ l, isL g x) : ∀ x ∈ l.drop i, isL g x := fun x hx => h x (List.mem_of_mem_drop hx)

theorem nv_eq {g c : Int} (hg : g = 1 ∨ g = 2) (h : isL g c) : impl_inverted.nv g c = inv g c := by
  unfold isL at h
  have : c = 97 ∨ c = 98 ∨ c = 99 ∨ c = 100 := by omega
  rcases hg with rfl | rfl <;> rcases this with rfl | rfl | rfl | rfl <;> first | (exfalso; omega) | decide +kernel
theorem mirror_eq (w : ByteArray) (hs : w.size ≤ 140737488355328) : impl_MirrorWord.f w = some (strOfNums (bytesOf w).reverse) := by
  unfold impl_MirrorWord.f
  rw [if_pos hs]
theorem bytesOf_reverse (w : ByteArray) : bytesOf (strOfNums (bytesOf w).reverse) = (bytesOf w).reverse := bytesOf_strOfNums fun x hx => bytesOf_range (List.mem_reverse.1 hx)
theorem inverted_eq {g : Int} (hg : g = 1 ∨ g = 2) (w : ByteArray) (hs : w.size ≤ 140737488355328) (hw : ∀ x ∈ bytesOf w, isL g x) : impl_inverted.f g w = some (strOfNums ((bytesOf w).reverse.map (inv g))) := by
  unfold impl_inverted.f
  rw [if_neg (by rcases hg with rfl | rfl <;> rw [w64 (by omega) (by omega)] <;> omega), mirror_eq w hs, bsome, bytesOf_reverse]
  congr 2
  exact List.map_congr_left fun x hx => nv_eq hg (hw x (List.mem_reverse.1 hx))

theorem spec_l01In_eq (a b c : Int) : spec_l01In.f a b c = some (decide (b ≤ a) && decide (a ≤ c)) := by
  unfold spec_l01In.f
  by_cases h : b ≤ a <;> simp [h]

theorem FnExactFreeSystem : laws_FnExactFreeSystem.Pure := by
  intro g hg
  by_cases h : 1 ≤ g ∧ g ≤ 2
  · have : g = 1 ∨ g = 2 := by omega
    refine ⟨40, ?_⟩
    rcases this with rfl | rfl
    · decide +kernel
    · decide +kernel
  · refine ⟨10, ?_⟩
    have e : (decide (1 ≤ g) && decide (g ≤ 2)) = false := dec_and_false h
    have s : ∀ k, spec_FreeSystem.f k g = some (0, [], false) := fun k => by simp [spec_FreeSystem.f, spec_l01In_eq, e]
    have i : ∀ k, impl_FreeSystem.f k g = some (0, [], false) := fun k => by simp [impl_FreeSystem.f, impl_within_eq, e]
    have q : laws_eqSystem.f 9 0 [] 0 [] = some true := by decide +kernel
    have q10 : laws_eqSystem.f 10 0 [] 0 [] = some true := by decide +kernel
    have m : laws_markSystem.f 9 0 [] 1 = some (1, []) := by simp [laws_markSystem.f, laws_markRuleS.f, laws_markRuleS.l0]
    have hd : laws_heldSystem.f 9 0 [] 1 = some 1 := by decide +kernel
    have hd8 : laws_heldSystem.f 8 0 [] 1 = some 1 := by decide +kernel
    simp [laws_FnExactFreeSystem.f, s, i, q10, laws_FnExactFreeSystem.j0, q, m, hd, laws_FnExactFreeSystem.j1, hd8]

end Go.Proofs.Yticfcgcipiadeaa.Pure
