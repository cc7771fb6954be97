/- The plain statement of the law FnExactFreeInverse: what the printed functions come to is true at every input of the kinds stated. No conditions beyond those of the printed statement. -/
import Derived.Test.YticfcgcipiadeaaPFnExactFreeInversex2
import Derived.Laws.StructEq
import Derived.Test.YticfcgcipiadeaaBase
import Derived.Test.YticfcgcipiadeaaPlain
import Derived.Laws.StructEq
namespace Go.Proofs.Yticfcgcipiadeaa.Pure
open Go.RowKit Go.Proofs.Yticfcgcipiadeaa.PFnExactFreeInverse Go.Proofs.YticfcgcipiadeaaW.PrintWords Go.Proofs.YticfcgcipiadeaaW.PrintLast Go.Proofs.Yticfcgcipiadeaa.Base
set_option linter.unusedVariables false
set_option linter.unusedSimpArgs false

/-! ### words -/
def letter (k x : Int) : Bool := decide (97 ≤ x) && decide (x < 97 + k)
def wordOk (k : Int) (w : ByteArray) : Bool := decide (1 ≤ k) && decide (k ≤ 4) && decide (w.size ≤ 16) && (bytesOf w).all (letter k)
theorem wordOk_iff {k : Int} {w : ByteArray} : wordOk k w = true ↔ 1 ≤ k ∧ k ≤ 4 ∧ w.size ≤ 16 ∧ ∀ x ∈ bytesOf w, 97 ≤ x ∧ x < 97 + k := by
  simp [wordOk, letter, and_assoc]
theorem letter_true {k x : Int} (h : 97 ≤ x) (h' : x < 97 + k) : letter k x = true := by simp [letter, h, h']
theorem letter_false {k x : Int} (h : x < 97 ∨ 97 + k ≤ x) : letter k x = false := by
  unfold letter
  rcases h with h | h
  · simp [show ¬ 97 ≤ x by omega]
  · simp [show ¬ x < 97 + k by omega]

theorem impl_within_eq (a b c : Int) : impl_within.f a b c = some (decide (b ≤ a) && decide (a ≤ c)) := by
  unfold impl_within.f
  by_cases h : b ≤ a <;> simp [h]

theorem impl_hasLetters_l0 (k : Int) (hk : 1 ≤ k ∧ k ≤ 4) (w : ByteArray) (hs : w.size ≤ 16) : ∀ (d i : Nat), i + d = w.size → Ev (fun n => impl_hasLetters.l0 n k w (w.size : Int) (i : Int)) (((bytesOf w).drop i).all (letter k)) := by
  intro d
  induction d with
  | zero =>
    intro i hi
    rw [List.drop_of_length_le (by rw [bytesOf_length]; omega)]
    exact Ev.step (f := fun _ => some true) (fun n => by simp only [impl_hasLetters.l0]; rw [if_neg (by omega)]) (Ev.now _)
  | succ d ih =>
    intro i hi
    have hlt : i < w.size := by omega
    rw [drop_bytes w i hlt, List.all_cons]
    have hr := bt_range w i
    have e : impl_within.f (wrap64 (bt w i)) 97 (wrap64 (wrap64 (97 + k) - 1)) = some (letter k (bt w i)) := by
      rw [impl_within_eq, w64 (by omega) (by omega), w64 (x := 97 + k) (by omega) (by omega), w64 (by omega) (by omega)]
      unfold letter
      congr 2
      simp; omega
    cases hl : letter k (bt w i) with
    | false =>
      rw [hl] at e
      exact Ev.step (f := fun _ => some false) (fun n => by simp only [impl_hasLetters.l0]; rw [if_pos (by omega), if_pos (by omega), if_pos (by omega), e]; simp) (Ev.now _)
    | true =>
      rw [hl] at e
      rw [Bool.true_and]
      exact Ev.step (f := fun n => impl_hasLetters.l0 n k w (w.size : Int) ((i + 1 : Nat) : Int)) (fun n => by simp only [impl_hasLetters.l0]; rw [if_pos (by omega), if_pos (by omega), if_pos (by omega), e, w64 (by omega) (by omega)]; simp) (ih (i + 1) (by omega))
theorem impl_WordOk_ev (k : Int) (w : ByteArray) : Ev (fun n => impl_WordOk.f n k w) (wordOk k w) := by
  unfold impl_WordOk.f
  simp only [impl_within_eq, bsome]
  by_cases hk : 1 ≤ k ∧ k ≤ 4
  · have e1 : (decide (1 ≤ k) && decide (k ≤ 4)) = true := by simp [hk.1, hk.2]
    simp only [e1, if_true]
    by_cases hs : w.size ≤ 16
    · have := impl_hasLetters_l0 k hk w hs w.size 0 (by omega)
      simp only [if_pos (show (w.size : Int) ≤ 16 by omega)]
      refine Ev.bind (f := fun _ b => some b) (a := wordOk k w) ?_ (Ev.now _)
      unfold impl_hasLetters.f
      simpa [wordOk, e1, hk.1, hk.2, hs] using this
    · simp only [if_neg (show ¬ (w.size : Int) ≤ 16 by omega)]
      have : wordOk k w = false := by simp [wordOk, hs]
      rw [this]; exact Ev.now _
  · have e1 : (decide (1 ≤ k) && decide (k ≤ 4)) = false := dec_and_false (by omega)
    simp only [e1, if_neg (show ¬ (false = true) by decide)]
    have : wordOk k w = false := by simp [wordOk, e1]
    rw [this]; exact Ev.now _

/-! ### free reduction, plainly -/
def isL (g c : Int) : Prop := 97 ≤ c ∧ c < 97 + 2 * g
def inv (g c : Int) : Int := if c < 97 + g then c + g else c - g
theorem inv_isL {g c : Int} (h : isL g c) : isL g (inv g c) := by unfold isL inv at *; split <;> omega
theorem inv_inv {g c : Int} (h : isL g c) : inv g (inv g c) = c := by unfold isL at h; unfold inv; split <;> split <;> omega
def step (g : Int) (acc : List Int) (c : Int) : List Int := if acc.getLast? = some (inv g c) then acc.dropLast else acc ++ [c]
def form (g : Int) (acc l : List Int) : List Int := l.foldl (step g) acc
theorem step_isL {g : Int} {acc : List Int} {c : Int} (h : ∀ x ∈ acc, isL g x) (hc : isL g c) : ∀ x ∈ step g acc c, isL g x := by
  intro x hx
  unfold step at hx
  split at hx
  · exact h x ((List.dropLast_sublist acc).subset hx)
  · rcases List.mem_append.1 hx with hx | hx
    · exact h x hx
    · rw [List.mem_singleton.1 hx]; exact hc
theorem step_len (g : Int) (acc : List Int) (c : Int) : (step g acc c).length ≤ acc.length + 1 := by
  unfold step
  split
  · simp; omega
  · simp
theorem form_isL {g : Int} : ∀ (l acc : List Int), (∀ x ∈ acc, isL g x) → (∀ x ∈ l, isL g x) → ∀ x ∈ form g acc l, isL g x
  | [], acc, h, _ => h
  | c :: l, acc, h, hl => form_isL l (step g acc c) (step_isL h (hl c List.mem_cons_self)) (fun x hx => hl x (List.mem_cons_of_mem _ hx))
theorem form_len (g : Int) : ∀ (l acc : List Int), (form g acc l).length ≤ acc.length + l.length
  | [], acc => by simp [form]
  | c :: l, acc => by
    have h1 := form_len g l (step g acc c)
    have h2 := step_len g acc c
    simp only [form, List.foldl_cons, List.length_cons] at h1 ⊢
    omega
theorem isL_range {g c : Int} (hg : g = 1 ∨ g = 2) (h : isL g c) : 0 ≤ c ∧ c ≤ 255 := by unfold isL at h; omega
theorem snoc_of_ne {l : List Int} (h : l ≠ []) : ∃ l' y, l = l' ++ [y] := ⟨l.dropLast, l.getLast h, (List.dropLast_concat_getLast h).symm⟩
def isFree (g : Int) (w : ByteArray) : Bool := decide (1 ≤ g) && decide (g ≤ 2) && wordOk (2 * g) w
theorem isFree_iff {g : Int} {w : ByteArray} : isFree g w = true ↔ (g = 1 ∨ g = 2) ∧ w.size ≤ 16 ∧ ∀ x ∈ bytesOf w, isL g x := by
  simp only [isFree, Bool.and_eq_true, decide_eq_true_eq, wordOk_iff, isL]
  constructor
  · rintro ⟨⟨h1, h2⟩, _, _, h3, h4⟩
    exact ⟨by omega, h3, h4⟩
  · rintro ⟨h1, h3, h4⟩
    exact ⟨⟨by omega, by omega⟩, by omega, by omega, h3, h4⟩
theorem mem_drop_isL {g : Int} {l : List Int} {i : Nat} (h : ∀ x ∈ l, isL g x) : ∀ x ∈ l.drop i, isL g x := fun x hx => h x (List.mem_of_mem_drop hx)

theorem impl_isFree_ev (g : Int) (w : ByteArray) : Ev (fun n => impl_isFree.f n g w) (isFree g w) := by
  unfold impl_isFree.f
  simp only [impl_within_eq, bsome]
  by_cases hg : 1 ≤ g ∧ g ≤ 2
  · have e1 : (decide (1 ≤ g) && decide (g ≤ 2)) = true := by simp [hg.1, hg.2]
    simp only [e1, if_true]
    rw [w64 (x := 2 * g) (by omega) (by omega)]
    have e2 : isFree g w = wordOk (2 * g) w := by simp [isFree, e1]
    rw [e2]
    exact Ev.bind (f := fun _ b => some b) (impl_WordOk_ev (2 * g) w) (Ev.now _)
  · have e1 : (decide (1 ≤ g) && decide (g ≤ 2)) = false := dec_and_false (by omega)
    simp only [e1, if_neg (show ¬ (false = true) by decide)]
    have : isFree g w = false := by simp [isFree, e1]
    rw [this]; exact Ev.now _

theorem nv_eq {g c : Int} (hg : g = 1 ∨ g = 2) (h : isL g c) : impl_inverted.nv g c = inv g c := by
  unfold isL at h
  have : c = 97 ∨ c = 98 ∨ c = 99 ∨ c = 100 := by omega
  rcases hg with rfl | rfl <;> rcases this with rfl | rfl | rfl | rfl <;> first | (exfalso; omega) | decide +kernel
theorem mirror_eq (w : ByteArray) (hs : w.size ≤ 140737488355328) : impl_MirrorWord.f w = some (strOfNums (bytesOf w).reverse) := by
  unfold impl_MirrorWord.f
  rw [if_pos hs]
theorem bytesOf_reverse (w : ByteArray) : bytesOf (strOfNums (bytesOf w).reverse) = (bytesOf w).reverse := bytesOf_strOfNums fun x hx => bytesOf_range (List.mem_reverse.1 hx)
theorem inverted_eq {g : Int} (hg : g = 1 ∨ g = 2) (w : ByteArray) (hs : w.size ≤ 140737488355328) (hw : ∀ x ∈ bytesOf w, isL g x) : impl_inverted.f g w = some (strOfNums ((bytesOf w).reverse.map (inv g))) := by
  unfold impl_inverted.f
  rw [if_neg (by rcases hg with rfl | rfl <;> rw [w64 (by omega) (by omega)] <;> omega), mirror_eq w hs, bsome, bytesOf_reverse]
  congr 2
  exact List.map_congr_left fun x hx => nv_eq hg (hw x (List.mem_reverse.1 hx))

theorem spec_l01In_eq (a b c : Int) : spec_l01In.f a b c = some (decide (b ≤ a) && decide (a ≤ c)) := by
  unfold spec_l01In.f
  by_cases h : b ≤ a <;> simp [h]

theorem spec_WordOk_l0 (k : Int) (hk : 1 ≤ k ∧ k ≤ 4) (w : ByteArray) (hs : w.size ≤ 16) : ∀ (d i : Nat), i + d = w.size → Ev (fun n => spec_WordOk.l0 n k w (i : Int)) (((bytesOf w).drop i).all (letter k)) := by
  intro d
  induction d with
  | zero =>
    intro i hi
    rw [List.drop_of_length_le (by rw [bytesOf_length]; omega)]
    exact Ev.step (f := fun _ => some true) (fun n => by simp only [spec_WordOk.l0]; rw [if_neg (by omega)]) (Ev.now _)
  | succ d ih =>
    intro i hi
    have hlt : i < w.size := by omega
    rw [drop_bytes w i hlt, List.all_cons]
    have hr := bt_range w i
    by_cases h1 : bt w i < 97
    · rw [letter_false (.inl h1), Bool.false_and]
      exact Ev.step (f := fun _ => some false) (fun n => by simp only [spec_WordOk.l0]; rw [if_pos (by omega), if_pos (by omega), if_pos h1]) (Ev.now _)
    · by_cases h2 : 97 + k ≤ bt w i
      · rw [letter_false (.inr h2), Bool.false_and]
        exact Ev.step (f := fun _ => some false) (fun n => by simp only [spec_WordOk.l0]; rw [if_pos (by omega), if_pos (by omega), if_neg h1, if_pos (by omega)]) (Ev.now _)
      · rw [letter_true (by omega) (by omega), Bool.true_and]
        exact Ev.step (f := fun n => spec_WordOk.l0 n k w ((i + 1 : Nat) : Int)) (fun n => by simp only [spec_WordOk.l0]; rw [if_pos (by omega), if_pos (by omega), if_neg h1, if_neg (by omega), w64 (by omega) (by omega)]; simp) (ih (i + 1) (by omega))
theorem spec_WordOk_ev (k : Int) (w : ByteArray) : Ev (fun n => spec_WordOk.f n k w) (wordOk k w) := by
  unfold spec_WordOk.f
  simp only [spec_l01In_eq, bsome]
  by_cases hk : 1 ≤ k ∧ k ≤ 4
  · have e1 : (decide (1 ≤ k) && decide (k ≤ 4)) = true := by simp [hk.1, hk.2]
    simp only [e1, if_true]
    by_cases hs : w.size ≤ 16
    · have hs' : decide ((w.size : Int) > 16) = false := by simp; omega
      have := spec_WordOk_l0 k hk w hs w.size 0 (by omega)
      rw [hs']
      refine Ev.step (f := fun n => spec_WordOk.l0 n k w 0) (fun n => by simp [spec_WordOk.j0]) ?_
      simpa [wordOk, e1, hk.1, hk.2, hs] using this
    · have hs' : decide ((w.size : Int) > 16) = true := by simp; omega
      rw [hs']
      refine Ev.step (f := fun n => some false) (fun n => by simp [spec_WordOk.j0]) ?_
      have : wordOk k w = false := by simp [wordOk, hs]
      rw [this]; exact Ev.now _
  · have e1 : (decide (1 ≤ k) && decide (k ≤ 4)) = false := dec_and_false (by omega)
    simp only [e1, if_neg (show ¬ (false = true) by decide)]
    refine Ev.step (f := fun n => some false) (fun n => by simp [spec_WordOk.j0]) ?_
    have : wordOk k w = false := by simp [wordOk, e1]
    rw [this]; exact Ev.now _

theorem spec_l24Inverse_eq {g c : Int} (hg : g = 1 ∨ g = 2) (h : isL g c) : spec_l24Inverse.f g c = some (inv g c) := by
  unfold isL at h
  have : c = 97 ∨ c = 98 ∨ c = 99 ∨ c = 100 := by omega
  rcases hg with rfl | rfl <;> rcases this with rfl | rfl | rfl | rfl <;> first | (exfalso; omega) | decide +kernel

theorem spec_l24Ok_ev (g : Int) (w : ByteArray) : Ev (fun n => spec_l24Ok.f n g w) (isFree g w) := by
  unfold spec_l24Ok.f
  simp only [spec_l01In_eq, bsome]
  by_cases hg : 1 ≤ g ∧ g ≤ 2
  · have e1 : (decide (1 ≤ g) && decide (g ≤ 2)) = true := by simp [hg.1, hg.2]
    simp only [e1, if_true]
    rw [w64 (x := 2 * g) (by omega) (by omega)]
    have e2 : isFree g w = wordOk (2 * g) w := by simp [isFree, e1]
    rw [e2]
    exact Ev.bind (f := fun _ b => some b) (spec_WordOk_ev (2 * g) w) (Ev.now _)
  · have e1 : (decide (1 ≤ g) && decide (g ≤ 2)) = false := dec_and_false (by omega)
    simp only [e1, if_neg (show ¬ (false = true) by decide)]
    have : isFree g w = false := by simp [isFree, e1]
    rw [this]; exact Ev.now _

theorem spec_inv_l0 (g : Int) (hg : g = 1 ∨ g = 2) (w : ByteArray) (hs : w.size ≤ 100) (hw : ∀ x ∈ bytesOf w, isL g x) : ∀ (d : Nat) (s : ByteArray), d ≤ w.size → s.size ≤ w.size - d → (∀ x ∈ bytesOf s, isL g x) →
    Ev (fun n => spec_FreeInverse.l0 n g w s ((d : Int) - 1)) (strOfNums (bytesOf s ++ ((bytesOf w).take d).reverse.map (inv g)), true) := by
  intro d
  induction d with
  | zero =>
    intro s _ _ _
    refine Ev.step (f := fun _ => some (s, true)) (fun n => by simp only [spec_FreeInverse.l0]; rw [if_neg (by omega)]) ?_
    simp only [List.take_zero, List.reverse_nil, List.map_nil, List.append_nil, strOfNums_bytesOf]
    exact Ev.now _
  | succ d ih =>
    intro s hd hs2 hsl
    have hlt : d < w.size := by omega
    have hc : isL g (bt w d) := hw _ (bt_mem hlt)
    have e := spec_l24Inverse_eq hg hc
    have hic := inv_isL hc
    have e1 : bytesOf (strOfNums [inv g (bt w d)]) = [inv g (bt w d)] := bytesOf_strOfNums fun x hx => by rw [List.mem_singleton.1 hx]; exact isL_range hg hic
    have e2 : (strOfNums [inv g (bt w d)]).size = 1 := by rw [← bytesOf_length, e1]; rfl
    have e3 : bytesOf (s ++ strOfNums [inv g (bt w d)]) = bytesOf s ++ [inv g (bt w d)] := by rw [bytesOf_append, e1]
    have hi := ih (s ++ strOfNums [inv g (bt w d)]) (by omega) (by rw [← bytesOf_length, e3, List.length_append, bytesOf_length]; simp; omega) (by
      rw [e3]
      intro x hx
      rcases List.mem_append.1 hx with hx | hx
      · exact hsl x hx
      · rw [List.mem_singleton.1 hx]; exact hic)
    have e4 : (bytesOf w).take (d + 1) = (bytesOf w).take d ++ [bt w d] := by
      rw [List.take_succ_eq_append_getElem (by rw [bytesOf_length]; exact hlt), bytesOf_getElem w d hlt]
    rw [e3] at hi
    rw [e4]
    simp only [List.reverse_append, List.reverse_cons, List.reverse_nil, List.nil_append, List.cons_append, List.map_cons]
    simp only [List.append_assoc, List.cons_append, List.nil_append] at hi
    have e5 : ((d + 1 : Nat) : Int) - 1 = (d : Int) := by omega
    rw [e5]
    refine Ev.step (fun n => ?_) hi
    simp only [spec_FreeInverse.l0, e, bsome, e2]
    rw [if_pos (by omega), if_pos (by omega), if_pos (by omega), if_pos (by omega), w64 (by omega) (by omega)]
theorem both (g : Int) (w : ByteArray) : ∃ r, Ev (fun n => spec_FreeInverse.f n g w) r ∧ Ev (fun n => impl_FreeInverse.f n g w) r := by
  unfold spec_FreeInverse.f impl_FreeInverse.f
  have s0 := spec_l24Ok_ev g w
  have i0 := impl_isFree_ev g w
  cases hf : isFree g w with
  | false =>
    rw [hf] at s0 i0
    exact ⟨(⟨#[]⟩, false), Ev.bind s0 (Ev.now _), Ev.bind i0 (Ev.now _)⟩
  | true =>
    rw [hf] at s0 i0
    obtain ⟨hg, hs, hw⟩ := isFree_iff.1 hf
    refine ⟨(strOfNums ((bytesOf w).reverse.map (inv g)), true), Ev.bind s0 (ev_pos rfl ?_), Ev.bind i0 (ev_pos rfl ?_)⟩
    · have := spec_inv_l0 g hg w (by omega) hw w.size ⟨#[]⟩ (Nat.le_refl _) (Nat.zero_le _) (by intro x hx; simp [bytesOf_nil] at hx)
      rw [List.take_of_length_le (by rw [bytesOf_length]; omega), bytesOf_nil, List.nil_append] at this
      rw [w64 (by omega) (by omega)]
      exact this
    · simp only [inverted_eq hg w (by omega) hw, bsome]
      exact Ev.now _
theorem FnExactFreeInverse : laws_FnExactFreeInverse.Pure := by
  intro g w hg hs
  have : Ev (fun n => laws_FnExactFreeInverse.f n g w) true := by
    unfold laws_FnExactFreeInverse.f
    by_cases hbig : (w.size : Int) > 1048576
    · exact ev_pos hbig (Ev.now _)
    · obtain ⟨r, h1, h2⟩ := both g w
      refine ev_neg hbig (Ev.bind h1 (Ev.bind h2 (ev_pos rfl ?_)))
      simp only [bne_self_eq_false]
      exact Ev.now _
  exact this.rounds

end Go.Proofs.Yticfcgcipiadeaa.Pure
