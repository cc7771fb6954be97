/- The plain statement of the law FnExactFreeTimes: what the printed functions come to is true at every input of the kinds stated. No conditions beyond those of the printed statement. -/
import Derived.Test.YticfcgcipiadeaaPFnExactFreeTimesx2
import Derived.Laws.StructEq
import Derived.Laws.StructEq
import Derived.Test.YticfcgcipiadeaaBase
import Derived.Laws.StructEq
namespace Go.Proofs.Yticfcgcipiadeaa.Pure
open Go.RowKit Go.Proofs.Yticfcgcipiadeaa.PFnExactFreeTimes Go.Proofs.YticfcgcipiadeaaW.PrintWords Go.Proofs.YticfcgcipiadeaaW.PrintLast Go.Proofs.Yticfcgcipiadeaa.Base
set_option linter.unusedVariables false
set_option linter.unusedSimpArgs false

/-! ### words -/
def letter (k x : Int) : Bool := decide (97 ≤ x) && decide (x < 97 + k)
def wordOk (k : Int) (w : ByteArray) : Bool := decide (1 ≤ k) && decide (k ≤ 4) && decide (w.size ≤ 16) && (bytesOf w).all (letter k)
theorem wordOk_iff {k : Int} {w : ByteArray} : wordOk k w = true ↔ 1 ≤ k ∧ k ≤ 4 ∧ w.size ≤ 16 ∧ ∀ x ∈ bytesOf w, 97 ≤ x ∧ x < 97 + k := by
  simp [wordOk, letter, and_assoc]
theorem letter_true {k x : Int} (h : 97 ≤ x) (h' : x < 97 + k) : letter k x = true := by simp [letter, h, h']
theorem letter_false {k x : Int} (h : x < 97 ∨ 97 + k ≤ x) : letter k x = false := by
  unfold letter
  rcases h with h | h
  · simp [show ¬ 97 ≤ x by omega]
  · simp [show ¬ x < 97 + k by omega]

theorem spec_l01In_eq (a b c : Int) : spec_l01In.f a b c = some (decide (b ≤ a) && decide (a ≤ c)) := by
  unfold spec_l01In.f
  by_cases h : b ≤ a <;> simp [h]
theorem spec_WordOk_l0 (k : Int) (hk : 1 ≤ k ∧ k ≤ 4) (w : ByteArray) (hs : w.size ≤ 16) : ∀ (d i : Nat), i + d = w.size → Ev (fun n => spec_WordOk.l0 n k w (i : Int)) (((bytesOf w).drop i).all (letter k)) := by
  intro d
  induction d with
  | zero =>
    intro i hi
    rw [List.drop_of_length_le (by rw [bytesOf_length]; omega)]
    exact Ev.step (f := fun _ => some true) (fun n => by simp only [spec_WordOk.l0]; rw [if_neg (by omega)]) (Ev.now _)
  | succ d ih =>
    intro i hi
    have hlt : i < w.size := by omega
    rw [drop_bytes w i hlt, List.all_cons]
    have hr := bt_range w i
    by_cases h1 : bt w i < 97
    · rw [letter_false (.inl h1), Bool.false_and]
      exact Ev.step (f := fun _ => some false) (fun n => by simp only [spec_WordOk.l0]; rw [if_pos (by omega), if_pos (by omega), if_pos h1]) (Ev.now _)
    · by_cases h2 : 97 + k ≤ bt w i
      · rw [letter_false (.inr h2), Bool.false_and]
        exact Ev.step (f := fun _ => some false) (fun n => by simp only [spec_WordOk.l0]; rw [if_pos (by omega), if_pos (by omega), if_neg h1, if_pos (by omega)]) (Ev.now _)
      · rw [letter_true (by omega) (by omega), Bool.true_and]
        exact Ev.step (f := fun n => spec_WordOk.l0 n k w ((i + 1 : Nat) : Int)) (fun n => by simp only [spec_WordOk.l0]; rw [if_pos (by omega), if_pos (by omega), if_neg h1, if_neg (by omega), w64 (by omega) (by omega)]; simp) (ih (i + 1) (by omega))
theorem spec_WordOk_ev (k : Int) (w : ByteArray) : Ev (fun n => spec_WordOk.f n k w) (wordOk k w) := by
  unfold spec_WordOk.f
  simp only [spec_l01In_eq, Option.bind_some]
  by_cases hk : 1 ≤ k ∧ k ≤ 4
  · have e1 : (decide (1 ≤ k) && decide (k ≤ 4)) = true := by simp [hk.1, hk.2]
    simp only [e1, if_true]
    by_cases hs : w.size ≤ 16
    · have hs' : decide ((w.size : Int) > 16) = false := by simp; omega
      have := spec_WordOk_l0 k hk w hs w.size 0 (by omega)
      rw [hs']
      refine Ev.step (f := fun n => spec_WordOk.l0 n k w 0) (fun n => by simp [spec_WordOk.j0]) ?_
      simpa [wordOk, e1, hk.1, hk.2, hs] using this
    · have hs' : decide ((w.size : Int) > 16) = true := by simp; omega
      rw [hs']
      refine Ev.step (f := fun n => some false) (fun n => by simp [spec_WordOk.j0]) ?_
      have : wordOk k w = false := by simp [wordOk, hs]
      rw [this]; exact Ev.now _
  · have e1 : (decide (1 ≤ k) && decide (k ≤ 4)) = false := by
      rw [Bool.and_eq_false_iff]; simp; omega
    simp only [e1, if_neg (show ¬ (false = true) by decide)]
    refine Ev.step (f := fun n => some false) (fun n => by simp [spec_WordOk.j0]) ?_
    have : wordOk k w = false := by simp [wordOk, e1]
    rw [this]; exact Ev.now _

theorem impl_within_eq (a b c : Int) : impl_within.f a b c = some (decide (b ≤ a) && decide (a ≤ c)) := by
  unfold impl_within.f
  by_cases h : b ≤ a <;> simp [h]
theorem impl_hasLetters_l0 (k : Int) (hk : 1 ≤ k ∧ k ≤ 4) (w : ByteArray) (hs : w.size ≤ 16) : ∀ (d i : Nat), i + d = w.size → Ev (fun n => impl_hasLetters.l0 n k w (w.size : Int) (i : Int)) (((bytesOf w).drop i).all (letter k)) := by
  intro d
  induction d with
  | zero =>
    intro i hi
    rw [List.drop_of_length_le (by rw [bytesOf_length]; omega)]
    exact Ev.step (f := fun _ => some true) (fun n => by simp only [impl_hasLetters.l0]; rw [if_neg (by omega)]) (Ev.now _)
  | succ d ih =>
    intro i hi
    have hlt : i < w.size := by omega
    rw [drop_bytes w i hlt, List.all_cons]
    have hr := bt_range w i
    have e : impl_within.f (wrap64 (bt w i)) 97 (wrap64 (wrap64 (97 + k) - 1)) = some (letter k (bt w i)) := by
      rw [impl_within_eq, w64 (by omega) (by omega), w64 (x := 97 + k) (by omega) (by omega), w64 (by omega) (by omega)]
      unfold letter
      congr 2
      simp; omega
    cases hl : letter k (bt w i) with
    | false =>
      rw [hl] at e
      exact Ev.step (f := fun _ => some false) (fun n => by simp only [impl_hasLetters.l0]; rw [if_pos (by omega), if_pos (by omega), if_pos (by omega), e]; simp) (Ev.now _)
    | true =>
      rw [hl] at e
      rw [Bool.true_and]
      exact Ev.step (f := fun n => impl_hasLetters.l0 n k w (w.size : Int) ((i + 1 : Nat) : Int)) (fun n => by simp only [impl_hasLetters.l0]; rw [if_pos (by omega), if_pos (by omega), if_pos (by omega), e, w64 (by omega) (by omega)]; simp) (ih (i + 1) (by omega))
theorem impl_WordOk_ev (k : Int) (w : ByteArray) : Ev (fun n => impl_WordOk.f n k w) (wordOk k w) := by
  unfold impl_WordOk.f
  simp only [impl_within_eq, Option.bind_some]
  by_cases hk : 1 ≤ k ∧ k ≤ 4
  · have e1 : (decide (1 ≤ k) && decide (k ≤ 4)) = true := by simp [hk.1, hk.2]
    simp only [e1, if_true]
    by_cases hs : w.size ≤ 16
    · have := impl_hasLetters_l0 k hk w hs w.size 0 (by omega)
      simp only [if_pos (show (w.size : Int) ≤ 16 by omega)]
      refine Ev.bind (f := fun _ b => some b) (a := wordOk k w) ?_ (Ev.now _)
      unfold impl_hasLetters.f
      simpa [wordOk, e1, hk.1, hk.2, hs] using this
    · simp only [if_neg (show ¬ (w.size : Int) ≤ 16 by omega)]
      have : wordOk k w = false := by simp [wordOk, hs]
      rw [this]; exact Ev.now _
  · have e1 : (decide (1 ≤ k) && decide (k ≤ 4)) = false := by
      rw [Bool.and_eq_false_iff]; simp; omega
    simp only [e1, if_neg (show ¬ (false = true) by decide)]
    have : wordOk k w = false := by simp [wordOk, e1]
    rw [this]; exact Ev.now _

/-! ### free reduction, plainly -/
def isL (g c : Int) : Prop := 97 ≤ c ∧ c < 97 + 2 * g
def inv (g c : Int) : Int := if c < 97 + g then c + g else c - g
theorem inv_isL {g c : Int} (h : isL g c) : isL g (inv g c) := by unfold isL inv at *; split <;> omega
theorem inv_inv {g c : Int} (h : isL g c) : inv g (inv g c) = c := by unfold isL at h; unfold inv; split <;> split <;> omega
def step (g : Int) (acc : List Int) (c : Int) : List Int := if acc.getLast? = some (inv g c) then acc.dropLast else acc ++ [c]
def form (g : Int) (acc l : List Int) : List Int := l.foldl (step g) acc
theorem step_isL {g : Int} {acc : List Int} {c : Int} (h : ∀ x ∈ acc, isL g x) (hc : isL g c) : ∀ x ∈ step g acc c, isL g x := by
  intro x hx
  unfold step at hx
  split at hx
  · exact h x ((List.dropLast_sublist acc).subset hx)
  · rcases List.mem_append.1 hx with hx | hx
    · exact h x hx
    · rw [List.mem_singleton.1 hx]; exact hc
theorem step_len (g : Int) (acc : List Int) (c : Int) : (step g acc c).length ≤ acc.length + 1 := by
  unfold step
  split
  · simp; omega
  · simp
theorem form_isL {g : Int} : ∀ (l acc : List Int), (∀ x ∈ acc, isL g x) → (∀ x ∈ l, isL g x) → ∀ x ∈ form g acc l, isL g x
  | [], acc, h, _ => h
  | c :: l, acc, h, hl => form_isL l (step g acc c) (step_isL h (hl c List.mem_cons_self)) (fun x hx => hl x (List.mem_cons_of_mem _ hx))
theorem form_len (g : Int) : ∀ (l acc : List Int), (form g acc l).length ≤ acc.length + l.length
  | [], acc => by simp [form]
  | c :: l, acc => by
    have h1 := form_len g l (step g acc c)
    have h2 := step_len g acc c
    simp only [form, List.foldl_cons, List.length_cons] at h1 ⊢
    omega
theorem isL_range {g c : Int} (hg : g = 1 ∨ g = 2) (h : isL g c) : 0 ≤ c ∧ c ≤ 255 := by unfold isL at h; omega
theorem snoc_of_ne {l : List Int} (h : l ≠ []) : ∃ l' y, l = l' ++ [y] := ⟨l.dropLast, l.getLast h, (List.dropLast_concat_getLast h).symm⟩
def isFree (g : Int) (w : ByteArray) : Bool := decide (1 ≤ g) && decide (g ≤ 2) && wordOk (2 * g) w
theorem isFree_iff {g : Int} {w : ByteArray} : isFree g w = true ↔ (g = 1 ∨ g = 2) ∧ w.size ≤ 16 ∧ ∀ x ∈ bytesOf w, isL g x := by
  simp only [isFree, Bool.and_eq_true, decide_eq_true_eq, wordOk_iff, isL]
  constructor
  · rintro ⟨⟨h1, h2⟩, _, _, h3, h4⟩
    exact ⟨by omega, h3, h4⟩
  · rintro ⟨h1, h3, h4⟩
    exact ⟨⟨by omega, by omega⟩, by omega, by omega, h3, h4⟩
theorem mem_drop_isL {g : Int} {l : List Int} {i : Nat} (h : ∀ x ∈ l, isL g x) : ∀ x ∈ l.drop i, isL g x := fun x hx => h x (List.mem_of_mem_drop hx)

theorem spec_l24Ok_ev (g : Int) (w : ByteArray) : Ev (fun n => spec_l24Ok.f n g w) (isFree g w) := by
  unfold spec_l24Ok.f
  simp only [spec_l01In_eq, Option.bind_some]
  by_cases hg : 1 ≤ g ∧ g ≤ 2
  · have e1 : (decide (1 ≤ g) && decide (g ≤ 2)) = true := by simp [hg.1, hg.2]
    simp only [e1, if_true]
    rw [w64 (x := 2 * g) (by omega) (by omega)]
    have e2 : isFree g w = wordOk (2 * g) w := by simp [isFree, e1]
    rw [e2]
    exact Ev.bind (f := fun _ b => some b) (spec_WordOk_ev (2 * g) w) (Ev.now _)
  · have e1 : (decide (1 ≤ g) && decide (g ≤ 2)) = false := by
      rw [Bool.and_eq_false_iff]; simp; omega
    simp only [e1, if_neg (show ¬ (false = true) by decide)]
    have : isFree g w = false := by simp [isFree, e1]
    rw [this]; exact Ev.now _
theorem spec_l24Inverse_eq {g c : Int} (hg : g = 1 ∨ g = 2) (h : isL g c) : spec_l24Inverse.f g c = some (inv g c) := by
  unfold isL at h
  have : c = 97 ∨ c = 98 ∨ c = 99 ∨ c = 100 := by omega
  rcases hg with rfl | rfl <;> rcases this with rfl | rfl | rfl | rfl <;> first | (exfalso; omega) | decide +kernel
theorem toList_nil_iff (s : ByteArray) : s.toList = ([] : List UInt8) ↔ bytesOf s = [] := by
  have h := beq_toListBytes s ⟨#[]⟩
  have h0 : (⟨#[]⟩ : ByteArray).toList = [] := by decide +kernel
  rw [h0] at h
  constructor
  · intro he
    rw [he] at h
    have h2 : (s == (⟨#[]⟩ : ByteArray)) = true := h.trans (by decide)
    have h3 : (s.data == (#[] : Array UInt8)) = true := h2
    have h4 : s.data = #[] := by simpa using h3
    unfold bytesOf
    rw [h4]; rfl
  · intro he
    have : s = ⟨#[]⟩ := bytesOf_inj (by rw [he]; rfl)
    rw [this, h0]
theorem spec_l24Form_l0 (g : Int) (hg : g = 1 ∨ g = 2) (w : ByteArray) (hs : w.size ≤ 100) (hw : ∀ x ∈ bytesOf w, isL g x) : ∀ (d i : Nat) (s : ByteArray), i + d = w.size → s.size ≤ i → (∀ x ∈ bytesOf s, isL g x) →
    Ev (fun n => spec_l24Form.l0 n g w s (i : Int)) (strOfNums (form g (bytesOf s) ((bytesOf w).drop i))) := by
  intro d
  induction d with
  | zero =>
    intro i s hi _ _
    rw [List.drop_of_length_le (by rw [bytesOf_length]; omega)]
    refine Ev.step (f := fun _ => some s) (fun n => by simp only [spec_l24Form.l0]; rw [if_neg (by omega)]) ?_
    rw [show strOfNums (form g (bytesOf s) []) = s from strOfNums_bytesOf s]
    exact Ev.now _
  | succ d ih =>
    intro i s hi hsi hsl
    have hlt : i < w.size := by omega
    have hc : isL g (bt w i) := hw _ (by rw [← bytesOf_getElem w i hlt]; exact List.getElem_mem _)
    have hdrop := drop_bytes w i hlt
    have hext : bytesOf (w.extract i (i + 1)) = [bt w i] := by
      rw [bytesOf_extract, hdrop, show i + 1 - i = 1 by omega]
      rfl
    have hext1 : (w.extract i (i + 1)).size = 1 := by rw [← bytesOf_length, hext]; rfl
    have hinv := spec_l24Inverse_eq hg hc
    have hgrow : bytesOf (s ++ w.extract i (i + 1)) = bytesOf s ++ [bt w i] := by rw [bytesOf_append, hext]
    have hgs : (s ++ w.extract i (i + 1)).size = s.size + 1 := by rw [← bytesOf_length, hgrow, List.length_append, bytesOf_length]; rfl
    have hwi : wrap64 ((i : Int) + 1) = ((i + 1 : Nat) : Int) := by rw [w64 (by omega) (by omega)]; simp
    have hpush : Ev (fun n => spec_l24Form.l0 n g w (s ++ w.extract i (i + 1)) ((i + 1 : Nat) : Int)) (strOfNums (form g (bytesOf s ++ [bt w i]) ((bytesOf w).drop (i + 1)))) := by
      have := ih (i + 1) (s ++ w.extract i (i + 1)) (by omega) (by omega) (by
        rw [hgrow]
        intro x hx
        rcases List.mem_append.1 hx with hx | hx
        · exact hsl x hx
        · rw [List.mem_singleton.1 hx]; exact hc)
      rwa [hgrow] at this
    rw [hdrop]
    show Ev _ (strOfNums (form g (step g (bytesOf s) (bt w i)) ((bytesOf w).drop (i + 1))))
    have hsz : s.size = (bytesOf s).length := (bytesOf_length s).symm
    by_cases hnil : bytesOf s = []
    · have e0 : s.toList = [] := (toList_nil_iff s).2 hnil
      have es : step g (bytesOf s) (bt w i) = bytesOf s ++ [bt w i] := by rw [hnil]; simp [step]
      rw [es]
      refine Ev.step (f := fun n => spec_l24Form.l0 n g w (s ++ w.extract i (i + 1)) ((i + 1 : Nat) : Int)) (fun n => ?_) hpush
      simp only [spec_l24Form.l0, hwi, Int.toNat_natCast, hext1]
      rw [if_pos (by omega), if_pos e0, if_pos (by omega), if_pos (by omega), if_pos (by omega), if_pos (by omega)]
    · have e0 : ¬ s.toList = [] := fun h => hnil ((toList_nil_iff s).1 h)
      obtain ⟨l', y, hl'⟩ := snoc_of_ne hnil
      have hlen : s.size = l'.length + 1 := by rw [hsz, hl']; simp
      have hlast : bt s ((s.size : Int) - 1) = y := by
        rw [show ((s.size : Int) - 1) = ((l'.length : Nat) : Int) by omega, ← rd_bytesOf, hl']
        simp [rd]
      have hgl : (bytesOf s).getLast? = some y := by rw [hl']; simp
      have hws : wrap64 ((s.size : Int) - 1) = ((l'.length : Nat) : Int) := by rw [w64 (by omega) (by omega)]; omega
      have hlast' : bt s ((l'.length : Nat) : Int) = y := by rw [← hlast]; congr 1; omega
      by_cases hy : y = inv g (bt w i)
      · have es : step g (bytesOf s) (bt w i) = l' := by
          unfold step
          rw [if_pos (by rw [hgl, hy]), hl']
          simp
        have hcut : bytesOf (s.extract 0 l'.length) = l' := by
          rw [bytesOf_extract, hl']
          simp
        have := ih (i + 1) (s.extract 0 l'.length) (by omega) (by rw [← bytesOf_length, hcut]; omega) (by
          rw [hcut]
          intro x hx
          exact hsl x (by rw [hl']; simp [hx]))
        rw [hcut] at this
        rw [es]
        refine Ev.step (f := fun n => spec_l24Form.l0 n g w (s.extract 0 l'.length) ((i + 1 : Nat) : Int)) (fun n => ?_) this
        simp only [spec_l24Form.l0, hwi, hws, Int.toNat_natCast, hext1]
        rw [if_pos (by omega), if_neg e0, if_pos (by omega), if_pos (by omega), if_pos (by omega), hinv]
        simp only [Option.bind_some]
        rw [if_pos (by rw [hlast', hy]), if_pos (by omega)]
      · have es : step g (bytesOf s) (bt w i) = bytesOf s ++ [bt w i] := by
          unfold step
          rw [if_neg (by rw [hgl]; intro h; injection h with h; exact hy h)]
        rw [es]
        refine Ev.step (f := fun n => spec_l24Form.l0 n g w (s ++ w.extract i (i + 1)) ((i + 1 : Nat) : Int)) (fun n => ?_) hpush
        simp only [spec_l24Form.l0, hwi, hws, Int.toNat_natCast, hext1]
        rw [if_pos (by omega), if_neg e0, if_pos (by omega), if_pos (by omega), if_pos (by omega), hinv]
        simp only [Option.bind_some]
        rw [if_neg (by rw [hlast']; exact hy), if_pos (by omega), if_pos (by omega), if_pos (by omega)]
theorem spec_l24Form_ev (g : Int) (hg : g = 1 ∨ g = 2) (w : ByteArray) (hs : w.size ≤ 100) (hw : ∀ x ∈ bytesOf w, isL g x) : Ev (fun n => spec_l24Form.f n g w) (strOfNums (form g [] (bytesOf w))) := by
  have := spec_l24Form_l0 g hg w hs hw w.size 0 ⟨#[]⟩ (by omega) (by decide) (by intro x hx; simp [bytesOf_nil] at hx)
  rw [bytesOf_nil] at this
  simpa [spec_l24Form.f] using this

theorem impl_isFree_ev (g : Int) (w : ByteArray) : Ev (fun n => impl_isFree.f n g w) (isFree g w) := by
  unfold impl_isFree.f
  simp only [impl_within_eq, Option.bind_some]
  by_cases hg : 1 ≤ g ∧ g ≤ 2
  · have e1 : (decide (1 ≤ g) && decide (g ≤ 2)) = true := by simp [hg.1, hg.2]
    simp only [e1, if_true]
    rw [w64 (x := 2 * g) (by omega) (by omega)]
    have e2 : isFree g w = wordOk (2 * g) w := by simp [isFree, e1]
    rw [e2]
    exact Ev.bind (f := fun _ b => some b) (impl_WordOk_ev (2 * g) w) (Ev.now _)
  · have e1 : (decide (1 ≤ g) && decide (g ≤ 2)) = false := by
      rw [Bool.and_eq_false_iff]; simp; omega
    simp only [e1, if_neg (show ¬ (false = true) by decide)]
    have : isFree g w = false := by simp [isFree, e1]
    rw [this]; exact Ev.now _
theorem impl_areInverse_eq {g c d : Int} (hg : g = 1 ∨ g = 2) (hc : isL g c) (hd : isL g d) : impl_areInverse.f g c d = some (decide (c = inv g d)) := by
  unfold isL at hc hd
  have : c = 97 ∨ c = 98 ∨ c = 99 ∨ c = 100 := by omega
  have : d = 97 ∨ d = 98 ∨ d = 99 ∨ d = 100 := by omega
  rcases hg with rfl | rfl <;> rcases ‹c = 97 ∨ _› with rfl | rfl | rfl | rfl <;> rcases ‹d = 97 ∨ _› with rfl | rfl | rfl | rfl <;> first | (exfalso; omega) | decide +kernel
theorem impl_freed_l0 (g : Int) (hg : g = 1 ∨ g = 2) (w : ByteArray) (hs : w.size ≤ 100) (hw : ∀ x ∈ bytesOf w, isL g x) : ∀ (d i : Nat) (s : List Int), i + d = w.size → s.length ≤ i → (∀ x ∈ s, isL g x) →
    Ev (fun n => impl_freed.l0 n g w s (w.size : Int) (i : Int)) (strOfNums (form g s ((bytesOf w).drop i))) := by
  intro d
  induction d with
  | zero =>
    intro i s hi _ _
    rw [List.drop_of_length_le (by rw [bytesOf_length]; omega)]
    exact Ev.step (f := fun _ => some (strOfNums s)) (fun n => by simp only [impl_freed.l0]; rw [if_neg (by omega)]) (Ev.now _)
  | succ d ih =>
    intro i s hi hsi hsl
    have hlt : i < w.size := by omega
    have hc : isL g (bt w i) := hw _ (by rw [← bytesOf_getElem w i hlt]; exact List.getElem_mem _)
    have hdrop := drop_bytes w i hlt
    have hwi : wrap64 ((i : Int) + 1) = ((i + 1 : Nat) : Int) := by rw [w64 (by omega) (by omega)]; simp
    have hpush : Ev (fun n => impl_freed.l0 n g w (s ++ [bt w i]) (w.size : Int) ((i + 1 : Nat) : Int)) (strOfNums (form g (s ++ [bt w i]) ((bytesOf w).drop (i + 1)))) :=
      ih (i + 1) (s ++ [bt w i]) (by omega) (by simp; omega) (by
        intro x hx
        rcases List.mem_append.1 hx with hx | hx
        · exact hsl x hx
        · rw [List.mem_singleton.1 hx]; exact hc)
    rw [hdrop]
    show Ev _ (strOfNums (form g (step g s (bt w i)) ((bytesOf w).drop (i + 1))))
    by_cases hnil : s = []
    · subst hnil
      have es : step g [] (bt w i) = [] ++ [bt w i] := by simp [step]
      rw [es]
      refine Ev.step (f := fun n => impl_freed.l0 n g w ([] ++ [bt w i]) (w.size : Int) ((i + 1 : Nat) : Int)) (fun n => ?_) hpush
      simp only [impl_freed.l0, hwi]
      rw [if_pos (by omega), if_neg (by simp), if_pos (by omega), if_pos (by omega), if_pos (by simp)]
    · obtain ⟨l', y, rfl⟩ := snoc_of_ne hnil
      have hlen : (l' ++ [y]).length = l'.length + 1 := by simp
      have hws : wrap64 (((l' ++ [y]).length : Int) - 1) = ((l'.length : Nat) : Int) := by rw [w64 (by omega) (by omega)]; omega
      have hgl : (l' ++ [y]).getLast? = some y := by simp
      have hrd : rd (l' ++ [y]) ((l'.length : Nat) : Int) = y := by simp [rd]
      have hy' : isL g y := hsl y (by simp)
      have hinv := impl_areInverse_eq hg hy' hc
      by_cases hy : y = inv g (bt w i)
      · have es : step g (l' ++ [y]) (bt w i) = l' := by
          unfold step
          rw [if_pos (by rw [hgl, hy])]
          simp
        rw [es]
        rw [decide_eq_true hy] at hinv
        have := ih (i + 1) l' (by omega) (by omega) (fun x hx => hsl x (by simp [hx]))
        refine Ev.step (f := fun n => impl_freed.l0 n g w l' (w.size : Int) ((i + 1 : Nat) : Int)) (fun n => ?_) this
        simp only [impl_freed.l0, hwi, hws, hrd]
        rw [if_pos (by omega), if_pos (by omega), if_pos (by omega), if_pos (by omega), if_pos (by omega), if_pos (by omega), hinv]
        simp only [Option.bind_some, if_true]
        rw [if_pos (by omega)]
        simp
      · have es : step g (l' ++ [y]) (bt w i) = (l' ++ [y]) ++ [bt w i] := by
          unfold step
          rw [if_neg (by rw [hgl]; intro h; injection h with h; exact hy h)]
        rw [es]
        rw [decide_eq_false hy] at hinv
        refine Ev.step (f := fun n => impl_freed.l0 n g w ((l' ++ [y]) ++ [bt w i]) (w.size : Int) ((i + 1 : Nat) : Int)) (fun n => ?_) hpush
        simp only [impl_freed.l0, hwi, hws, hrd]
        rw [if_pos (by omega), if_pos (by omega), if_pos (by omega), if_pos (by omega), if_pos (by omega), if_pos (by omega), hinv]
        simp only [Option.bind_some, if_neg (show ¬ (false = true) by decide)]
        rw [if_pos (by omega)]
theorem impl_freed_ev (g : Int) (hg : g = 1 ∨ g = 2) (w : ByteArray) (hs : w.size ≤ 100) (hw : ∀ x ∈ bytesOf w, isL g x) : Ev (fun n => impl_freed.f n g w) (strOfNums (form g [] (bytesOf w))) := by
  have := impl_freed_l0 g hg w hs hw w.size 0 [] (by omega) (by simp) (by intro x hx; simp at hx)
  simpa [impl_freed.f] using this

/-! ### the free product of reduced words -/
/-- No letter stands before its inverse. -/
def Red (g : Int) : List Int → Prop
  | [] => True
  | [_] => True
  | a :: b :: l => a ≠ inv g b ∧ Red g (b :: l)
theorem red_snoc {g : Int} : ∀ (l : List Int) (y c : Int), Red g (l ++ [y]) → y ≠ inv g c → Red g (l ++ [y] ++ [c])
  | [], y, c, _, h => ⟨h, trivial⟩
  | [a], y, c, h1, h => ⟨h1.1, h, trivial⟩
  | a :: b :: l, y, c, h1, h => ⟨h1.1, red_snoc (b :: l) y c h1.2 h⟩
theorem red_dropLast {g : Int} : ∀ (l : List Int) (y : Int), Red g (l ++ [y]) → Red g l
  | [], _, _ => trivial
  | [_], _, _ => trivial
  | a :: b :: l, y, h => ⟨h.1, red_dropLast (b :: l) y h.2⟩
theorem red_last2 {g : Int} : ∀ (l : List Int) (z y : Int), Red g (l ++ [z] ++ [y]) → z ≠ inv g y
  | [], _, _, h => h.1
  | [_], _, _, h => h.2.1
  | _ :: b :: l, z, y, h => red_last2 (b :: l) z y h.2
theorem step_red {g : Int} {acc : List Int} {c : Int} (h : Red g acc) : Red g (step g acc c) := by
  by_cases hnil : acc = []
  · subst hnil; simp [step, Red]
  · obtain ⟨l, y, rfl⟩ := snoc_of_ne hnil
    unfold step
    split
    · rw [List.dropLast_concat]; exact red_dropLast l y h
    · rename_i hne
      exact red_snoc l y c h (fun e => hne (by rw [e]; simp))
theorem form_red {g : Int} : ∀ (l acc : List Int), Red g acc → Red g (form g acc l)
  | [], _, h => h
  | c :: l, acc, h => form_red l (step g acc c) (step_red h)
theorem form_append (g : Int) (acc u v : List Int) : form g acc (u ++ v) = form g (form g acc u) v := by simp [form]
/-- Two inverse letters, read one behind the other, change nothing in a reduced word. -/
theorem step_step {g : Int} {acc : List Int} {c : Int} (h : Red g acc) (hl : ∀ x ∈ acc, isL g x) (hc : isL g c) : step g (step g acc c) (inv g c) = acc := by
  by_cases hnil : acc = []
  · subst hnil
    simp [step, inv_inv hc]
  · obtain ⟨l, y, rfl⟩ := snoc_of_ne hnil
    have hy : isL g y := hl y (by simp)
    by_cases e : y = inv g c
    · have e1 : step g (l ++ [y]) c = l := by
        unfold step
        rw [if_pos (by simp [e])]
        simp
      rw [e1]
      have e2 : inv g (inv g c) = c := inv_inv hc
      unfold step
      rw [e2]
      by_cases hn : l = []
      · subst hn; simp [e]
      · obtain ⟨l', z, rfl⟩ := snoc_of_ne hn
        have hz : z ≠ inv g y := red_last2 l' z y h
        rw [if_neg (by
          rw [List.getLast?_append]
          simp
          intro hzc
          exact hz (by rw [hzc, e, inv_inv hc])), e]
    · have e1 : step g (l ++ [y]) c = l ++ [y] ++ [c] := by
        unfold step
        rw [if_neg (by simp; exact e)]
      rw [e1]
      unfold step
      rw [if_pos (by simp [inv_inv hc])]
      simp
theorem form_form {g : Int} (acc : List Int) (hr : Red g acc) (hl : ∀ x ∈ acc, isL g x) (v : List Int) (hv : ∀ x ∈ v, isL g x) : form g acc v = form g acc (form g [] v) := by
  have key : ∀ (n : Nat) (v : List Int), v.length = n → (∀ x ∈ v, isL g x) → form g acc v = form g acc (form g [] v) := by
    intro n
    induction n with
    | zero =>
      intro v hn _
      obtain rfl := List.eq_nil_of_length_eq_zero hn
      rfl
    | succ n ih =>
      intro v hn hv
      obtain ⟨v', c, rfl⟩ := snoc_of_ne (l := v) (by intro h; rw [h] at hn; simp at hn)
      have hv' : ∀ x ∈ v', isL g x := fun x hx => hv x (by simp [hx])
      have hc : isL g c := hv c (by simp)
      have e1 : form g acc (v' ++ [c]) = step g (form g acc v') c := by rw [form_append]; rfl
      have e2 : form g [] (v' ++ [c]) = step g (form g [] v') c := by rw [form_append]; rfl
      have hi := ih v' (by simp at hn; omega) hv'
      rw [e1, e2, hi]
      have hrr : ∀ x ∈ form g [] v', isL g x := form_isL v' [] (by simp) hv'
      generalize form g [] v' = r at hrr ⊢
      by_cases hlast : r.getLast? = some (inv g c)
      · have hne : r ≠ [] := by rintro rfl; simp at hlast
        obtain ⟨r', z, rfl⟩ := snoc_of_ne hne
        have hz : z = inv g c := by simpa using hlast
        subst hz
        have e3 : step g (r' ++ [inv g c]) c = r' := by
          unfold step
          rw [if_pos hlast]; simp
        rw [e3, form_append]
        have h1 : Red g (form g acc r') := form_red r' acc hr
        have h2 : ∀ x ∈ form g acc r', isL g x := form_isL r' acc hl (fun x hx => hrr x (by simp [hx]))
        have h3 := step_step h1 h2 (inv_isL hc)
        rw [inv_inv hc] at h3
        exact h3
      · have e3 : step g r c = r ++ [c] := by
          unfold step
          rw [if_neg hlast]
        rw [e3, form_append]; rfl
  exact key v.length v rfl hv
theorem red_left {g : Int} : ∀ (l m : List Int), Red g (l ++ m) → Red g l
  | [], _, _ => trivial
  | [_], _, _ => trivial
  | _ :: b :: l, m, h => ⟨h.1, red_left (b :: l) m h.2⟩
theorem form_self {g : Int} : ∀ (l acc : List Int), Red g (acc ++ l) → form g acc l = acc ++ l
  | [], acc, _ => by simp [form]
  | c :: l, acc, h => by
    have h2 : Red g (acc ++ [c]) := red_left (acc ++ [c]) l (by simpa using h)
    have e : step g acc c = acc ++ [c] := by
      unfold step
      rw [if_neg]
      intro hl
      have hne : acc ≠ [] := by rintro rfl; simp at hl
      obtain ⟨l', y, rfl⟩ := snoc_of_ne hne
      have hy : y = inv g c := by simpa using hl
      exact red_last2 l' y c h2 hy
    show form g (step g acc c) l = _
    rw [e, form_self l (acc ++ [c]) (by simpa using h)]
    simp
theorem form_form_nil {g : Int} (v : List Int) : form g [] (form g [] v) = form g [] v := by
  have := form_self (g := g) (form g [] v) [] (by simpa using form_red v [] trivial)
  simpa using this
theorem form_times {g : Int} (u v : List Int) (hu : ∀ x ∈ u, isL g x) (hv : ∀ x ∈ v, isL g x) : form g [] (form g [] u ++ form g [] v) = form g [] (u ++ v) := by
  rw [form_append, form_append, form_form_nil, ← form_form (form g [] u) (form_red u [] trivial) (form_isL u [] (by simp) hu) v hv]

theorem both (g : Int) (u v : ByteArray) : ∃ r, Ev (fun n => spec_FreeTimes.f n g u v) r ∧ Ev (fun n => impl_FreeTimes.f n g u v) r := by
  unfold spec_FreeTimes.f impl_FreeTimes.f
  have su := spec_l24Ok_ev g u
  have sv := spec_l24Ok_ev g v
  have iu := impl_isFree_ev g u
  have iv := impl_isFree_ev g v
  cases hfu : isFree g u with
  | false =>
    rw [hfu] at su iu
    refine ⟨(⟨#[]⟩, false), Ev.bind (a := false) su ?_, Ev.bind (a := false) iu (Ev.now _)⟩
    exact Ev.step (f := fun _ => some (⟨#[]⟩, false)) (fun n => by simp [spec_FreeTimes.j0]) (Ev.now _)
  | true =>
    rw [hfu] at su iu
    cases hfv : isFree g v with
    | false =>
      rw [hfv] at sv iv
      refine ⟨(⟨#[]⟩, false), Ev.bind (a := true) su ?_, Ev.bind (a := true) iu ?_⟩
      · simp only [if_true]
        refine Ev.bind (f := fun n b => spec_FreeTimes.j0 n g u v (!b)) (a := false) sv ?_
        exact Ev.step (f := fun _ => some (⟨#[]⟩, false)) (fun n => by simp [spec_FreeTimes.j0]) (Ev.now _)
      · simp only [if_true]
        exact Ev.bind (a := false) iv (Ev.now _)
    | true =>
      rw [hfv] at sv iv
      obtain ⟨hg, hsu, hwu⟩ := isFree_iff.1 hfu
      obtain ⟨_, hsv, hwv⟩ := isFree_iff.1 hfv
      have fu := form_isL (bytesOf u) [] (by simp) hwu
      have fv := form_isL (bytesOf v) [] (by simp) hwv
      have lu : bytesOf (strOfNums (form g [] (bytesOf u))) = form g [] (bytesOf u) := bytesOf_strOfNums fun x hx => isL_range hg (fu x hx)
      have lv : bytesOf (strOfNums (form g [] (bytesOf v))) = form g [] (bytesOf v) := bytesOf_strOfNums fun x hx => isL_range hg (fv x hx)
      have ku := form_len g (bytesOf u) []
      have kv := form_len g (bytesOf v) []
      have zu : (strOfNums (form g [] (bytesOf u))).size = (form g [] (bytesOf u)).length := by rw [← bytesOf_length, lu]
      have zv : (strOfNums (form g [] (bytesOf v))).size = (form g [] (bytesOf v)).length := by rw [← bytesOf_length, lv]
      rw [bytesOf_length] at ku kv
      simp only [List.length_nil, Nat.zero_add] at ku kv
      have eform := form_times (bytesOf u) (bytesOf v) hwu hwv
      have s1 := spec_l24Form_ev g hg u (by omega) hwu
      have s2 := spec_l24Form_ev g hg v (by omega) hwv
      have i1 := impl_freed_ev g hg u (by omega) hwu
      have i2 := impl_freed_ev g hg v (by omega) hwv
      generalize ha : strOfNums (form g [] (bytesOf u)) = a at *
      generalize hb : strOfNums (form g [] (bytesOf v)) = b at *
      have hab : (a ++ b).size = a.size + b.size := by rw [← bytesOf_length, bytesOf_append, List.length_append, bytesOf_length, bytesOf_length]
      have huv : (u ++ v).size = u.size + v.size := by rw [← bytesOf_length, bytesOf_append, List.length_append, bytesOf_length, bytesOf_length]
      by_cases hbig : a.size + b.size > 16
      · refine ⟨(⟨#[]⟩, false), Ev.bind (a := true) su ?_, Ev.bind (a := true) iu ?_⟩
        · simp only [if_true]
          refine Ev.bind (f := fun n b => spec_FreeTimes.j0 n g u v (!b)) (a := true) sv ?_
          refine Ev.step (f := fun n => _) (fun n => by simp only [spec_FreeTimes.j0]; rw [if_neg (by simp)]) ?_
          refine Ev.bind s1 (Ev.bind s2 ?_)
          exact ev_pos (by omega) (ev_pos (by omega) (Ev.now _))
        · simp only [if_true]
          refine Ev.bind (a := true) iv ?_
          simp only [if_true]
          refine Ev.bind i1 (Ev.bind i2 ?_)
          rw [w64 (by omega) (by omega)]
          exact ev_pos (by omega) (Ev.now _)
      · refine ⟨(strOfNums (form g [] (bytesOf u ++ bytesOf v)), true), Ev.bind (a := true) su ?_, Ev.bind (a := true) iu ?_⟩
        · simp only [if_true]
          refine Ev.bind (f := fun n b => spec_FreeTimes.j0 n g u v (!b)) (a := true) sv ?_
          refine Ev.step (f := fun n => _) (fun n => by simp only [spec_FreeTimes.j0]; rw [if_neg (by simp)]) ?_
          refine Ev.bind s1 (Ev.bind s2 ?_)
          refine ev_pos (by omega) (ev_neg (by omega) ?_)
          have s3 := spec_l24Form_ev g hg (a ++ b) (by omega) (by
            rw [bytesOf_append, lu, lv]
            intro x hx
            rcases List.mem_append.1 hx with hx | hx
            · exact fu x hx
            · exact fv x hx)
          rw [bytesOf_append, lu, lv, eform] at s3
          exact Ev.bind (f := fun _ x => some (x, true)) s3 (Ev.now _)
        · simp only [if_true]
          refine Ev.bind (a := true) iv ?_
          simp only [if_true]
          refine Ev.bind i1 (Ev.bind i2 ?_)
          rw [w64 (by omega) (by omega)]
          refine ev_neg (by omega) (ev_pos (by omega) ?_)
          have i3 := impl_freed_ev g hg (u ++ v) (by omega) (by
            rw [bytesOf_append]
            intro x hx
            rcases List.mem_append.1 hx with hx | hx
            · exact hwu x hx
            · exact hwv x hx)
          rw [bytesOf_append] at i3
          exact Ev.bind (f := fun _ x => some (x, true)) i3 (Ev.now _)
theorem FnExactFreeTimes : laws_FnExactFreeTimes.Pure := by
  intro g u v hg hs hs2
  have : Ev (fun n => laws_FnExactFreeTimes.f n g u v) true := by
    unfold laws_FnExactFreeTimes.f
    by_cases hbig : (u.size : Int) > 1048576
    · simp only [if_pos hbig]; exact Ev.now _
    simp only [if_neg hbig]
    by_cases hbig2 : (v.size : Int) > 1048576
    · simp only [if_pos hbig2]; exact Ev.now _
    simp only [if_neg hbig2]
    obtain ⟨r, h1, h2⟩ := both g u v
    refine Ev.bind h1 (Ev.bind h2 ?_)
    simp only [if_true, bne_self_eq_false]
    exact Ev.now _
  exact this.rounds

end Go.Proofs.Yticfcgcipiadeaa.Pure
