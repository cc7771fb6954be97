/- The plain statement of the law FnExactCoreOf: what the printed functions come to is true at every input of the kinds stated. No conditions beyond those of the printed statement. -/
import Derived.Test.YticfcgcipiadeaaPFnExactCoreOfx2
import Derived.Laws.StructEq
import Derived.Test.YticfcgcipiadeaaBase
import Derived.Laws.StructEq
namespace Go.Proofs.Yticfcgcipiadeaa.Pure
open Go.RowKit Go.Proofs.Yticfcgcipiadeaa.PFnExactCoreOf Go.Proofs.YticfcgcipiadeaaW.PrintWords Go.Proofs.YticfcgcipiadeaaW.PrintLast Go.Proofs.Yticfcgcipiadeaa.Base
set_option linter.unusedVariables false
set_option linter.unusedSimpArgs false

/-! ### words -/
def letter (k x : Int) : Bool := decide (97 ≤ x) && decide (x < 97 + k)
def wordOk (k : Int) (w : ByteArray) : Bool := decide (1 ≤ k) && decide (k ≤ 4) && decide (w.size ≤ 16) && (bytesOf w).all (letter k)
theorem wordOk_iff {k : Int} {w : ByteArray} : wordOk k w = true ↔ 1 ≤ k ∧ k ≤ 4 ∧ w.size ≤ 16 ∧ ∀ x ∈ bytesOf w, 97 ≤ x ∧ x < 97 + k := by
  simp [wordOk, letter, and_assoc]
theorem letter_true {k x : Int} (h : 97 ≤ x) (h' : x < 97 + k) : letter k x = true := by simp [letter, h, h']
theorem letter_false {k x : Int} (h : x < 97 ∨ 97 + k ≤ x) : letter k x = false := by
  unfold letter
  rcases h with h | h
  · simp [show ¬ 97 ≤ x by omega]
  · simp [show ¬ x < 97 + k by omega]

theorem spec_l01In_eq (a b c : Int) : spec_l01In.f a b c = some (decide (b ≤ a) && decide (a ≤ c)) := by
  unfold spec_l01In.f
  by_cases h : b ≤ a <;> simp [h]
theorem spec_WordOk_l0 (k : Int) (hk : 1 ≤ k ∧ k ≤ 4) (w : ByteArray) (hs : w.size ≤ 16) : ∀ (d i : Nat), i + d = w.size → Ev (fun n => spec_WordOk.l0 n k w (i : Int)) (((bytesOf w).drop i).all (letter k)) := by
  intro d
  induction d with
  | zero =>
    intro i hi
    rw [List.drop_of_length_le (by rw [bytesOf_length]; omega)]
    exact Ev.step (f := fun _ => some true) (fun n => by simp only [spec_WordOk.l0]; rw [if_neg (by omega)]) (Ev.now _)
  | succ d ih =>
    intro i hi
    have hlt : i < w.size := by omega
    rw [drop_bytes w i hlt, List.all_cons]
    have hr := bt_range w i
    by_cases h1 : bt w i < 97
    · rw [letter_false (.inl h1), Bool.false_and]
      exact Ev.step (f := fun _ => some false) (fun n => by simp only [spec_WordOk.l0]; rw [if_pos (by omega), if_pos (by omega), if_pos h1]) (Ev.now _)
    · by_cases h2 : 97 + k ≤ bt w i
      · rw [letter_false (.inr h2), Bool.false_and]
        exact Ev.step (f := fun _ => some false) (fun n => by simp only [spec_WordOk.l0]; rw [if_pos (by omega), if_pos (by omega), if_neg h1, if_pos (by omega)]) (Ev.now _)
      · rw [letter_true (by omega) (by omega), Bool.true_and]
        exact Ev.step (f := fun n => spec_WordOk.l0 n k w ((i + 1 : Nat) : Int)) (fun n => by simp only [spec_WordOk.l0]; rw [if_pos (by omega), if_pos (by omega), if_neg h1, if_neg (by omega), w64 (by omega) (by omega)]; simp) (ih (i + 1) (by omega))
theorem spec_WordOk_ev (k : Int) (w : ByteArray) : Ev (fun n => spec_WordOk.f n k w) (wordOk k w) := by
  unfold spec_WordOk.f
  simp only [spec_l01In_eq, Option.bind_some]
  by_cases hk : 1 ≤ k ∧ k ≤ 4
  · have e1 : (decide (1 ≤ k) && decide (k ≤ 4)) = true := by simp [hk.1, hk.2]
    simp only [e1, if_true]
    by_cases hs : w.size ≤ 16
    · have hs' : decide ((w.size : Int) > 16) = false := by simp; omega
      have := spec_WordOk_l0 k hk w hs w.size 0 (by omega)
      rw [hs']
      refine Ev.step (f := fun n => spec_WordOk.l0 n k w 0) (fun n => by simp [spec_WordOk.j0]) ?_
      simpa [wordOk, e1, hk.1, hk.2, hs] using this
    · have hs' : decide ((w.size : Int) > 16) = true := by simp; omega
      rw [hs']
      refine Ev.step (f := fun n => some false) (fun n => by simp [spec_WordOk.j0]) ?_
      have : wordOk k w = false := by simp [wordOk, hs]
      rw [this]; exact Ev.now _
  · have e1 : (decide (1 ≤ k) && decide (k ≤ 4)) = false := by
      rw [Bool.and_eq_false_iff]; simp; omega
    simp only [e1, if_neg (show ¬ (false = true) by decide)]
    refine Ev.step (f := fun n => some false) (fun n => by simp [spec_WordOk.j0]) ?_
    have : wordOk k w = false := by simp [wordOk, e1]
    rw [this]; exact Ev.now _

theorem impl_within_eq (a b c : Int) : impl_within.f a b c = some (decide (b ≤ a) && decide (a ≤ c)) := by
  unfold impl_within.f
  by_cases h : b ≤ a <;> simp [h]
theorem impl_hasLetters_l0 (k : Int) (hk : 1 ≤ k ∧ k ≤ 4) (w : ByteArray) (hs : w.size ≤ 16) : ∀ (d i : Nat), i + d = w.size → Ev (fun n => impl_hasLetters.l0 n k w (w.size : Int) (i : Int)) (((bytesOf w).drop i).all (letter k)) := by
  intro d
  induction d with
  | zero =>
    intro i hi
    rw [List.drop_of_length_le (by rw [bytesOf_length]; omega)]
    exact Ev.step (f := fun _ => some true) (fun n => by simp only [impl_hasLetters.l0]; rw [if_neg (by omega)]) (Ev.now _)
  | succ d ih =>
    intro i hi
    have hlt : i < w.size := by omega
    rw [drop_bytes w i hlt, List.all_cons]
    have hr := bt_range w i
    have e : impl_within.f (wrap64 (bt w i)) 97 (wrap64 (wrap64 (97 + k) - 1)) = some (letter k (bt w i)) := by
      rw [impl_within_eq, w64 (by omega) (by omega), w64 (x := 97 + k) (by omega) (by omega), w64 (by omega) (by omega)]
      unfold letter
      congr 2
      simp; omega
    cases hl : letter k (bt w i) with
    | false =>
      rw [hl] at e
      exact Ev.step (f := fun _ => some false) (fun n => by simp only [impl_hasLetters.l0]; rw [if_pos (by omega), if_pos (by omega), if_pos (by omega), e]; simp) (Ev.now _)
    | true =>
      rw [hl] at e
      rw [Bool.true_and]
      exact Ev.step (f := fun n => impl_hasLetters.l0 n k w (w.size : Int) ((i + 1 : Nat) : Int)) (fun n => by simp only [impl_hasLetters.l0]; rw [if_pos (by omega), if_pos (by omega), if_pos (by omega), e, w64 (by omega) (by omega)]; simp) (ih (i + 1) (by omega))
theorem impl_WordOk_ev (k : Int) (w : ByteArray) : Ev (fun n => impl_WordOk.f n k w) (wordOk k w) := by
  unfold impl_WordOk.f
  simp only [impl_within_eq, Option.bind_some]
  by_cases hk : 1 ≤ k ∧ k ≤ 4
  · have e1 : (decide (1 ≤ k) && decide (k ≤ 4)) = true := by simp [hk.1, hk.2]
    simp only [e1, if_true]
    by_cases hs : w.size ≤ 16
    · have := impl_hasLetters_l0 k hk w hs w.size 0 (by omega)
      simp only [if_pos (show (w.size : Int) ≤ 16 by omega)]
      refine Ev.bind (f := fun _ b => some b) (a := wordOk k w) ?_ (Ev.now _)
      unfold impl_hasLetters.f
      simpa [wordOk, e1, hk.1, hk.2, hs] using this
    · simp only [if_neg (show ¬ (w.size : Int) ≤ 16 by omega)]
      have : wordOk k w = false := by simp [wordOk, hs]
      rw [this]; exact Ev.now _
  · have e1 : (decide (1 ≤ k) && decide (k ≤ 4)) = false := by
      rw [Bool.and_eq_false_iff]; simp; omega
    simp only [e1, if_neg (show ¬ (false = true) by decide)]
    have : wordOk k w = false := by simp [wordOk, e1]
    rw [this]; exact Ev.now _

/-! ### free reduction, plainly -/
def isL (g c : Int) : Prop := 97 ≤ c ∧ c < 97 + 2 * g
def inv (g c : Int) : Int := if c < 97 + g then c + g else c - g
theorem inv_isL {g c : Int} (h : isL g c) : isL g (inv g c) := by unfold isL inv at *; split <;> omega
theorem inv_inv {g c : Int} (h : isL g c) : inv g (inv g c) = c := by unfold isL at h; unfold inv; split <;> split <;> omega
def step (g : Int) (acc : List Int) (c : Int) : List Int := if acc.getLast? = some (inv g c) then acc.dropLast else acc ++ [c]
def form (g : Int) (acc l : List Int) : List Int := l.foldl (step g) acc
theorem step_isL {g : Int} {acc : List Int} {c : Int} (h : ∀ x ∈ acc, isL g x) (hc : isL g c) : ∀ x ∈ step g acc c, isL g x := by
  intro x hx
  unfold step at hx
  split at hx
  · exact h x ((List.dropLast_sublist acc).subset hx)
  · rcases List.mem_append.1 hx with hx | hx
    · exact h x hx
    · rw [List.mem_singleton.1 hx]; exact hc
theorem step_len (g : Int) (acc : List Int) (c : Int) : (step g acc c).length ≤ acc.length + 1 := by
  unfold step
  split
  · simp; omega
  · simp
theorem form_isL {g : Int} : ∀ (l acc : List Int), (∀ x ∈ acc, isL g x) → (∀ x ∈ l, isL g x) → ∀ x ∈ form g acc l, isL g x
  | [], acc, h, _ => h
  | c :: l, acc, h, hl => form_isL l (step g acc c) (step_isL h (hl c List.mem_cons_self)) (fun x hx => hl x (List.mem_cons_of_mem _ hx))
theorem form_len (g : Int) : ∀ (l acc : List Int), (form g acc l).length ≤ acc.length + l.length
  | [], acc => by simp [form]
  | c :: l, acc => by
    have h1 := form_len g l (step g acc c)
    have h2 := step_len g acc c
    simp only [form, List.foldl_cons, List.length_cons] at h1 ⊢
    omega
theorem isL_range {g c : Int} (hg : g = 1 ∨ g = 2) (h : isL g c) : 0 ≤ c ∧ c ≤ 255 := by unfold isL at h; omega
theorem snoc_of_ne {l : List Int} (h : l ≠ []) : ∃ l' y, l = l' ++ [y] := ⟨l.dropLast, l.getLast h, (List.dropLast_concat_getLast h).symm⟩
def isFree (g : Int) (w : ByteArray) : Bool := decide (1 ≤ g) && decide (g ≤ 2) && wordOk (2 * g) w
theorem isFree_iff {g : Int} {w : ByteArray} : isFree g w = true ↔ (g = 1 ∨ g = 2) ∧ w.size ≤ 16 ∧ ∀ x ∈ bytesOf w, isL g x := by
  simp only [isFree, Bool.and_eq_true, decide_eq_true_eq, wordOk_iff, isL]
  constructor
  · rintro ⟨⟨h1, h2⟩, _, _, h3, h4⟩
    exact ⟨by omega, h3, h4⟩
  · rintro ⟨h1, h3, h4⟩
    exact ⟨⟨by omega, by omega⟩, by omega, by omega, h3, h4⟩
theorem mem_drop_isL {g : Int} {l : List Int} {i : Nat} (h : ∀ x ∈ l, isL g x) : ∀ x ∈ l.drop i, isL g x := fun x hx => h x (List.mem_of_mem_drop hx)

theorem spec_l24Ok_ev (g : Int) (w : ByteArray) : Ev (fun n => spec_l24Ok.f n g w) (isFree g w) := by
  unfold spec_l24Ok.f
  simp only [spec_l01In_eq, Option.bind_some]
  by_cases hg : 1 ≤ g ∧ g ≤ 2
  · have e1 : (decide (1 ≤ g) && decide (g ≤ 2)) = true := by simp [hg.1, hg.2]
    simp only [e1, if_true]
    rw [w64 (x := 2 * g) (by omega) (by omega)]
    have e2 : isFree g w = wordOk (2 * g) w := by simp [isFree, e1]
    rw [e2]
    exact Ev.bind (f := fun _ b => some b) (spec_WordOk_ev (2 * g) w) (Ev.now _)
  · have e1 : (decide (1 ≤ g) && decide (g ≤ 2)) = false := by
      rw [Bool.and_eq_false_iff]; simp; omega
    simp only [e1, if_neg (show ¬ (false = true) by decide)]
    have : isFree g w = false := by simp [isFree, e1]
    rw [this]; exact Ev.now _
theorem spec_l24Inverse_eq {g c : Int} (hg : g = 1 ∨ g = 2) (h : isL g c) : spec_l24Inverse.f g c = some (inv g c) := by
  unfold isL at h
  have : c = 97 ∨ c = 98 ∨ c = 99 ∨ c = 100 := by omega
  rcases hg with rfl | rfl <;> rcases this with rfl | rfl | rfl | rfl <;> first | (exfalso; omega) | decide +kernel
theorem toList_nil_iff (s : ByteArray) : s.toList = ([] : List UInt8) ↔ bytesOf s = [] := by
  have h := beq_toListBytes s ⟨#[]⟩
  have h0 : (⟨#[]⟩ : ByteArray).toList = [] := by decide +kernel
  rw [h0] at h
  constructor
  · intro he
    rw [he] at h
    have h2 : (s == (⟨#[]⟩ : ByteArray)) = true := h.trans (by decide)
    have h3 : (s.data == (#[] : Array UInt8)) = true := h2
    have h4 : s.data = #[] := by simpa using h3
    unfold bytesOf
    rw [h4]; rfl
  · intro he
    have : s = ⟨#[]⟩ := bytesOf_inj (by rw [he]; rfl)
    rw [this, h0]
theorem spec_l24Form_l0 (g : Int) (hg : g = 1 ∨ g = 2) (w : ByteArray) (hs : w.size ≤ 100) (hw : ∀ x ∈ bytesOf w, isL g x) : ∀ (d i : Nat) (s : ByteArray), i + d = w.size → s.size ≤ i → (∀ x ∈ bytesOf s, isL g x) →
    Ev (fun n => spec_l24Form.l0 n g w s (i : Int)) (strOfNums (form g (bytesOf s) ((bytesOf w).drop i))) := by
  intro d
  induction d with
  | zero =>
    intro i s hi _ _
    rw [List.drop_of_length_le (by rw [bytesOf_length]; omega)]
    refine Ev.step (f := fun _ => some s) (fun n => by simp only [spec_l24Form.l0]; rw [if_neg (by omega)]) ?_
    rw [show strOfNums (form g (bytesOf s) []) = s from strOfNums_bytesOf s]
    exact Ev.now _
  | succ d ih =>
    intro i s hi hsi hsl
    have hlt : i < w.size := by omega
    have hc : isL g (bt w i) := hw _ (by rw [← bytesOf_getElem w i hlt]; exact List.getElem_mem _)
    have hdrop := drop_bytes w i hlt
    have hext : bytesOf (w.extract i (i + 1)) = [bt w i] := by
      rw [bytesOf_extract, hdrop, show i + 1 - i = 1 by omega]
      rfl
    have hext1 : (w.extract i (i + 1)).size = 1 := by rw [← bytesOf_length, hext]; rfl
    have hinv := spec_l24Inverse_eq hg hc
    have hgrow : bytesOf (s ++ w.extract i (i + 1)) = bytesOf s ++ [bt w i] := by rw [bytesOf_append, hext]
    have hgs : (s ++ w.extract i (i + 1)).size = s.size + 1 := by rw [← bytesOf_length, hgrow, List.length_append, bytesOf_length]; rfl
    have hwi : wrap64 ((i : Int) + 1) = ((i + 1 : Nat) : Int) := by rw [w64 (by omega) (by omega)]; simp
    have hpush : Ev (fun n => spec_l24Form.l0 n g w (s ++ w.extract i (i + 1)) ((i + 1 : Nat) : Int)) (strOfNums (form g (bytesOf s ++ [bt w i]) ((bytesOf w).drop (i + 1)))) := by
      have := ih (i + 1) (s ++ w.extract i (i + 1)) (by omega) (by omega) (by
        rw [hgrow]
        intro x hx
        rcases List.mem_append.1 hx with hx | hx
        · exact hsl x hx
        · rw [List.mem_singleton.1 hx]; exact hc)
      rwa [hgrow] at this
    rw [hdrop]
    show Ev _ (strOfNums (form g (step g (bytesOf s) (bt w i)) ((bytesOf w).drop (i + 1))))
    have hsz : s.size = (bytesOf s).length := (bytesOf_length s).symm
    by_cases hnil : bytesOf s = []
    · have e0 : s.toList = [] := (toList_nil_iff s).2 hnil
      have es : step g (bytesOf s) (bt w i) = bytesOf s ++ [bt w i] := by rw [hnil]; simp [step]
      rw [es]
      refine Ev.step (f := fun n => spec_l24Form.l0 n g w (s ++ w.extract i (i + 1)) ((i + 1 : Nat) : Int)) (fun n => ?_) hpush
      simp only [spec_l24Form.l0, hwi, Int.toNat_natCast, hext1]
      rw [if_pos (by omega), if_pos e0, if_pos (by omega), if_pos (by omega), if_pos (by omega), if_pos (by omega)]
    · have e0 : ¬ s.toList = [] := fun h => hnil ((toList_nil_iff s).1 h)
      obtain ⟨l', y, hl'⟩ := snoc_of_ne hnil
      have hlen : s.size = l'.length + 1 := by rw [hsz, hl']; simp
      have hlast : bt s ((s.size : Int) - 1) = y := by
        rw [show ((s.size : Int) - 1) = ((l'.length : Nat) : Int) by omega, ← rd_bytesOf, hl']
        simp [rd]
      have hgl : (bytesOf s).getLast? = some y := by rw [hl']; simp
      have hws : wrap64 ((s.size : Int) - 1) = ((l'.length : Nat) : Int) := by rw [w64 (by omega) (by omega)]; omega
      have hlast' : bt s ((l'.length : Nat) : Int) = y := by rw [← hlast]; congr 1; omega
      by_cases hy : y = inv g (bt w i)
      · have es : step g (bytesOf s) (bt w i) = l' := by
          unfold step
          rw [if_pos (by rw [hgl, hy]), hl']
          simp
        have hcut : bytesOf (s.extract 0 l'.length) = l' := by
          rw [bytesOf_extract, hl']
          simp
        have := ih (i + 1) (s.extract 0 l'.length) (by omega) (by rw [← bytesOf_length, hcut]; omega) (by
          rw [hcut]
          intro x hx
          exact hsl x (by rw [hl']; simp [hx]))
        rw [hcut] at this
        rw [es]
        refine Ev.step (f := fun n => spec_l24Form.l0 n g w (s.extract 0 l'.length) ((i + 1 : Nat) : Int)) (fun n => ?_) this
        simp only [spec_l24Form.l0, hwi, hws, Int.toNat_natCast, hext1]
        rw [if_pos (by omega), if_neg e0, if_pos (by omega), if_pos (by omega), if_pos (by omega), hinv]
        simp only [Option.bind_some]
        rw [if_pos (by rw [hlast', hy]), if_pos (by omega)]
      · have es : step g (bytesOf s) (bt w i) = bytesOf s ++ [bt w i] := by
          unfold step
          rw [if_neg (by rw [hgl]; intro h; injection h with h; exact hy h)]
        rw [es]
        refine Ev.step (f := fun n => spec_l24Form.l0 n g w (s ++ w.extract i (i + 1)) ((i + 1 : Nat) : Int)) (fun n => ?_) hpush
        simp only [spec_l24Form.l0, hwi, hws, Int.toNat_natCast, hext1]
        rw [if_pos (by omega), if_neg e0, if_pos (by omega), if_pos (by omega), if_pos (by omega), hinv]
        simp only [Option.bind_some]
        rw [if_neg (by rw [hlast']; exact hy), if_pos (by omega), if_pos (by omega), if_pos (by omega)]
theorem spec_l24Form_ev (g : Int) (hg : g = 1 ∨ g = 2) (w : ByteArray) (hs : w.size ≤ 100) (hw : ∀ x ∈ bytesOf w, isL g x) : Ev (fun n => spec_l24Form.f n g w) (strOfNums (form g [] (bytesOf w))) := by
  have := spec_l24Form_l0 g hg w hs hw w.size 0 ⟨#[]⟩ (by omega) (by decide) (by intro x hx; simp [bytesOf_nil] at hx)
  rw [bytesOf_nil] at this
  simpa [spec_l24Form.f] using this

theorem impl_isFree_ev (g : Int) (w : ByteArray) : Ev (fun n => impl_isFree.f n g w) (isFree g w) := by
  unfold impl_isFree.f
  simp only [impl_within_eq, Option.bind_some]
  by_cases hg : 1 ≤ g ∧ g ≤ 2
  · have e1 : (decide (1 ≤ g) && decide (g ≤ 2)) = true := by simp [hg.1, hg.2]
    simp only [e1, if_true]
    rw [w64 (x := 2 * g) (by omega) (by omega)]
    have e2 : isFree g w = wordOk (2 * g) w := by simp [isFree, e1]
    rw [e2]
    exact Ev.bind (f := fun _ b => some b) (impl_WordOk_ev (2 * g) w) (Ev.now _)
  · have e1 : (decide (1 ≤ g) && decide (g ≤ 2)) = false := by
      rw [Bool.and_eq_false_iff]; simp; omega
    simp only [e1, if_neg (show ¬ (false = true) by decide)]
    have : isFree g w = false := by simp [isFree, e1]
    rw [this]; exact Ev.now _
theorem impl_areInverse_eq {g c d : Int} (hg : g = 1 ∨ g = 2) (hc : isL g c) (hd : isL g d) : impl_areInverse.f g c d = some (decide (c = inv g d)) := by
  unfold isL at hc hd
  have : c = 97 ∨ c = 98 ∨ c = 99 ∨ c = 100 := by omega
  have : d = 97 ∨ d = 98 ∨ d = 99 ∨ d = 100 := by omega
  rcases hg with rfl | rfl <;> rcases ‹c = 97 ∨ _› with rfl | rfl | rfl | rfl <;> rcases ‹d = 97 ∨ _› with rfl | rfl | rfl | rfl <;> first | (exfalso; omega) | decide +kernel
theorem impl_freed_l0 (g : Int) (hg : g = 1 ∨ g = 2) (w : ByteArray) (hs : w.size ≤ 100) (hw : ∀ x ∈ bytesOf w, isL g x) : ∀ (d i : Nat) (s : List Int), i + d = w.size → s.length ≤ i → (∀ x ∈ s, isL g x) →
    Ev (fun n => impl_freed.l0 n g w s (w.size : Int) (i : Int)) (strOfNums (form g s ((bytesOf w).drop i))) := by
  intro d
  induction d with
  | zero =>
    intro i s hi _ _
    rw [List.drop_of_length_le (by rw [bytesOf_length]; omega)]
    exact Ev.step (f := fun _ => some (strOfNums s)) (fun n => by simp only [impl_freed.l0]; rw [if_neg (by omega)]) (Ev.now _)
  | succ d ih =>
    intro i s hi hsi hsl
    have hlt : i < w.size := by omega
    have hc : isL g (bt w i) := hw _ (by rw [← bytesOf_getElem w i hlt]; exact List.getElem_mem _)
    have hdrop := drop_bytes w i hlt
    have hwi : wrap64 ((i : Int) + 1) = ((i + 1 : Nat) : Int) := by rw [w64 (by omega) (by omega)]; simp
    have hpush : Ev (fun n => impl_freed.l0 n g w (s ++ [bt w i]) (w.size : Int) ((i + 1 : Nat) : Int)) (strOfNums (form g (s ++ [bt w i]) ((bytesOf w).drop (i + 1)))) :=
      ih (i + 1) (s ++ [bt w i]) (by omega) (by simp; omega) (by
        intro x hx
        rcases List.mem_append.1 hx with hx | hx
        · exact hsl x hx
        · rw [List.mem_singleton.1 hx]; exact hc)
    rw [hdrop]
    show Ev _ (strOfNums (form g (step g s (bt w i)) ((bytesOf w).drop (i + 1))))
    by_cases hnil : s = []
    · subst hnil
      have es : step g [] (bt w i) = [] ++ [bt w i] := by simp [step]
      rw [es]
      refine Ev.step (f := fun n => impl_freed.l0 n g w ([] ++ [bt w i]) (w.size : Int) ((i + 1 : Nat) : Int)) (fun n => ?_) hpush
      simp only [impl_freed.l0, hwi]
      rw [if_pos (by omega), if_neg (by simp), if_pos (by omega), if_pos (by omega), if_pos (by simp)]
    · obtain ⟨l', y, rfl⟩ := snoc_of_ne hnil
      have hlen : (l' ++ [y]).length = l'.length + 1 := by simp
      have hws : wrap64 (((l' ++ [y]).length : Int) - 1) = ((l'.length : Nat) : Int) := by rw [w64 (by omega) (by omega)]; omega
      have hgl : (l' ++ [y]).getLast? = some y := by simp
      have hrd : rd (l' ++ [y]) ((l'.length : Nat) : Int) = y := by simp [rd]
      have hy' : isL g y := hsl y (by simp)
      have hinv := impl_areInverse_eq hg hy' hc
      by_cases hy : y = inv g (bt w i)
      · have es : step g (l' ++ [y]) (bt w i) = l' := by
          unfold step
          rw [if_pos (by rw [hgl, hy])]
          simp
        rw [es]
        rw [decide_eq_true hy] at hinv
        have := ih (i + 1) l' (by omega) (by omega) (fun x hx => hsl x (by simp [hx]))
        refine Ev.step (f := fun n => impl_freed.l0 n g w l' (w.size : Int) ((i + 1 : Nat) : Int)) (fun n => ?_) this
        simp only [impl_freed.l0, hwi, hws, hrd]
        rw [if_pos (by omega), if_pos (by omega), if_pos (by omega), if_pos (by omega), if_pos (by omega), if_pos (by omega), hinv]
        simp only [Option.bind_some, if_true]
        rw [if_pos (by omega)]
        simp
      · have es : step g (l' ++ [y]) (bt w i) = (l' ++ [y]) ++ [bt w i] := by
          unfold step
          rw [if_neg (by rw [hgl]; intro h; injection h with h; exact hy h)]
        rw [es]
        rw [decide_eq_false hy] at hinv
        refine Ev.step (f := fun n => impl_freed.l0 n g w ((l' ++ [y]) ++ [bt w i]) (w.size : Int) ((i + 1 : Nat) : Int)) (fun n => ?_) hpush
        simp only [impl_freed.l0, hwi, hws, hrd]
        rw [if_pos (by omega), if_pos (by omega), if_pos (by omega), if_pos (by omega), if_pos (by omega), if_pos (by omega), hinv]
        simp only [Option.bind_some, if_neg (show ¬ (false = true) by decide)]
        rw [if_pos (by omega)]
theorem impl_freed_ev (g : Int) (hg : g = 1 ∨ g = 2) (w : ByteArray) (hs : w.size ≤ 100) (hw : ∀ x ∈ bytesOf w, isL g x) : Ev (fun n => impl_freed.f n g w) (strOfNums (form g [] (bytesOf w))) := by
  have := impl_freed_l0 g hg w hs hw w.size 0 [] (by omega) (by simp) (by intro x hx; simp at hx)
  simpa [impl_freed.f] using this

/-- Both loops take the same letters off; n: how many have been taken. -/
theorem core_loops (g : Int) (hg : g = 1 ∨ g = 2) (a : ByteArray) (hs : a.size ≤ 100) (ha : ∀ x ∈ bytesOf a, isL g x) : ∀ (d n : Nat), 2 * n + d = a.size →
    ∃ r, Ev (fun k => spec_CoreOf.l0 k g a (n : Int)) r ∧ Ev (fun k => impl_CoreOf.l0 k g (a.extract n (a.size - n)) (a.extract 0 n)) r := by
  intro d
  induction d using Nat.strongRecOn with
  | _ d ih =>
    intro n hn
    have hL : ∀ j : Nat, j < a.size → isL g (bt a j) := fun j hj => ha _ (by rw [← bytesOf_getElem a j hj]; exact List.getElem_mem _)
    have hsz : (a.extract n (a.size - n)).size = d := by rw [ByteArray.size_extract]; omega
    have e1 : wrap64 (2 * (n : Int)) = 2 * (n : Int) := w64 (by omega) (by omega)
    have e2 : wrap64 ((a.size : Int) - 2 * (n : Int)) = (d : Int) := by rw [w64 (by omega) (by omega)]; omega
    have e5 : wrap64 ((a.size : Int) - (n : Int)) = ((a.size - n : Nat) : Int) := by rw [w64 (by omega) (by omega)]; omega
    have done : (∀ k, spec_CoreOf.l0 (k + 1) g a (n : Int) = some (a.extract n (a.size - n), a.extract 0 n, true)) → (∀ k, impl_CoreOf.l0 (k + 1) g (a.extract n (a.size - n)) (a.extract 0 n) = some (a.extract n (a.size - n), a.extract 0 n, true)) →
        ∃ r, Ev (fun k => spec_CoreOf.l0 k g a (n : Int)) r ∧ Ev (fun k => impl_CoreOf.l0 k g (a.extract n (a.size - n)) (a.extract 0 n)) r :=
      fun h1 h2 => ⟨_, Ev.step (f := fun _ => some _) h1 (Ev.now _), Ev.step (f := fun _ => some _) h2 (Ev.now _)⟩
    by_cases h2 : 2 ≤ d
    · have e3 : wrap64 (wrap64 ((a.size : Int) - 1) - (n : Int)) = ((a.size - 1 - n : Nat) : Int) := by rw [w64 (x := (a.size : Int) - 1) (by omega) (by omega), w64 (by omega) (by omega)]; omega
      have e4 : wrap64 ((d : Int) - 1) = ((d - 1 : Nat) : Int) := by rw [w64 (by omega) (by omega)]; omega
      have hc := hL n (by omega)
      have hd := hL (a.size - 1 - n) (by omega)
      have sinv := spec_l24Inverse_eq hg hd
      have iinv := impl_areInverse_eq hg hc hd
      have b0 : bt (a.extract n (a.size - n)) 0 = bt a (n : Int) := by
        rw [← rd_bytesOf, bytesOf_extract, ← rd_bytesOf]
        simp [rd, List.getElem?_take, List.getElem?_drop, show 0 < a.size - n - n by omega]
      have b1 : bt (a.extract n (a.size - n)) ((d - 1 : Nat) : Int) = bt a ((a.size - 1 - n : Nat) : Int) := by
        rw [← rd_bytesOf, bytesOf_extract, ← rd_bytesOf]
        simp [rd, List.getElem?_take, List.getElem?_drop, show d - 1 < a.size - n - n by omega, show n + (d - 1) = a.size - 1 - n by omega]
      by_cases hinv : bt a (n : Int) = inv g (bt a ((a.size - 1 - n : Nat) : Int))
      · rw [decide_eq_true hinv] at iinv
        obtain ⟨r, r1, r2⟩ := ih (d - 2) (by omega) (n + 1) (by omega)
        have c1 : (a.extract n (a.size - n)).extract 1 (d - 1) = a.extract (n + 1) (a.size - (n + 1)) := by
          refine bytesOf_inj ?_
          simp only [bytesOf_extract]
          rw [List.drop_take, List.drop_drop, List.take_take]
          congr 1
          omega
        have c2 : a.extract 0 n ++ (a.extract n (a.size - n)).extract 0 1 = a.extract 0 (n + 1) := by
          refine bytesOf_inj ?_
          rw [bytesOf_append]
          simp only [bytesOf_extract, List.drop_zero, Nat.sub_zero]
          rw [List.take_take, show min 1 (a.size - n - n) = 1 by omega, List.take_add]
        have c3 : ((a.extract n (a.size - n)).extract 0 1).size = 1 := by rw [ByteArray.size_extract]; omega
        have c4 : (a.extract 0 n).size = n := by rw [ByteArray.size_extract]; omega
        refine ⟨r, Ev.step (f := fun k => spec_CoreOf.l0 k g a ((n + 1 : Nat) : Int)) (fun k => ?_) r1, Ev.step (f := fun k => impl_CoreOf.l0 k g (a.extract (n + 1) (a.size - (n + 1))) (a.extract 0 (n + 1))) (fun k => ?_) r2⟩
        · simp only [spec_CoreOf.l0, e1, e2, e3]
          rw [if_pos (by omega), if_pos (by omega), if_pos (by omega), if_pos (by omega), if_pos (by omega), sinv]
          simp only [Option.bind_some]
          rw [if_pos hinv, w64 (by omega) (by omega)]
          simp
        · simp only [impl_CoreOf.l0, hsz, e4]
          rw [if_pos (by omega), if_pos (by omega), if_pos (by omega), if_pos (by omega), b0, b1, iinv]
          simp only [Option.bind_some, if_true]
          rw [if_pos (by omega), if_pos (by omega), if_pos (by omega), if_pos (by omega), if_pos (by omega), Int.toNat_natCast, c1, c2]
      · rw [decide_eq_false hinv] at iinv
        refine done (fun k => ?_) (fun k => ?_)
        · simp only [spec_CoreOf.l0, e1, e2, e3, e5]
          rw [if_pos (by omega), if_pos (by omega), if_pos (by omega), if_pos (by omega), if_pos (by omega), sinv]
          simp only [Option.bind_some]
          rw [if_neg hinv, if_pos (by omega), if_pos (by omega), if_pos (by omega)]
          simp only [Int.toNat_natCast]
        · simp only [impl_CoreOf.l0, hsz, e4]
          rw [if_pos (by omega), if_pos (by omega), if_pos (by omega), if_pos (by omega), b0, b1, iinv]
          simp
    · refine done (fun k => ?_) (fun k => ?_)
      · simp only [spec_CoreOf.l0, e1, e2, e5]
        rw [if_neg (by omega), if_pos (by omega), if_pos (by omega), if_pos (by omega), if_pos (by omega)]
        simp only [Int.toNat_natCast]
      · simp only [impl_CoreOf.l0, hsz]
        rw [if_neg (by omega)]
theorem core_both (g : Int) (hg : g = 1 ∨ g = 2) (a : ByteArray) (hs : a.size ≤ 100) (ha : ∀ x ∈ bytesOf a, isL g x) : ∃ r, Ev (fun k => spec_CoreOf.l0 k g a 0) r ∧ Ev (fun k => impl_CoreOf.l0 k g a ⟨#[]⟩) r := by
  have := core_loops g hg a hs ha a.size 0 (by omega)
  have e1 : a.extract 0 (a.size - 0) = a := by
    refine bytesOf_inj ?_
    rw [bytesOf_extract]
    simp [← bytesOf_length]
  have e2 : a.extract 0 0 = ⟨#[]⟩ := by
    refine bytesOf_inj ?_
    rw [bytesOf_extract]
    simp [bytesOf_nil]
  rw [e1, e2] at this
  simpa using this

theorem both (g : Int) (w : ByteArray) : ∃ r, Ev (fun n => spec_CoreOf.f n g w) r ∧ Ev (fun n => impl_CoreOf.f n g w) r := by
  unfold spec_CoreOf.f impl_CoreOf.f
  have s0 := spec_l24Ok_ev g w
  have i0 := impl_isFree_ev g w
  cases hf : isFree g w with
  | false =>
    rw [hf] at s0 i0
    exact ⟨(⟨#[]⟩, ⟨#[]⟩, false), Ev.bind (a := false) s0 (Ev.now _), Ev.bind (a := false) i0 (Ev.now _)⟩
  | true =>
    rw [hf] at s0 i0
    obtain ⟨hg, hs, hw⟩ := isFree_iff.1 hf
    have fw := form_isL (bytesOf w) [] (by simp) hw
    have lw : bytesOf (strOfNums (form g [] (bytesOf w))) = form g [] (bytesOf w) := bytesOf_strOfNums fun x hx => isL_range hg (fw x hx)
    have kw := form_len g (bytesOf w) []
    rw [bytesOf_length] at kw
    simp only [List.length_nil, Nat.zero_add] at kw
    have s1 := spec_l24Form_ev g hg w (by omega) hw
    have i1 := impl_freed_ev g hg w (by omega) hw
    have zw : (strOfNums (form g [] (bytesOf w))).size = (form g [] (bytesOf w)).length := by rw [← bytesOf_length, lw]
    have ha : ∀ x ∈ bytesOf (strOfNums (form g [] (bytesOf w))), isL g x := by rw [lw]; exact fw
    generalize strOfNums (form g [] (bytesOf w)) = a at *
    obtain ⟨r, h1, h2⟩ := core_both g hg a (by omega) ha
    refine ⟨r, Ev.bind (a := true) s0 ?_, Ev.bind (a := true) i0 ?_⟩
    · simp only [if_true]
      exact Ev.bind (f := fun n x => spec_CoreOf.l0 n g x 0) s1 h1
    · simp only [if_true]
      exact Ev.bind (f := fun n x => impl_CoreOf.l0 n g x ⟨#[]⟩) i1 h2
theorem FnExactCoreOf : laws_FnExactCoreOf.Pure := by
  intro g w hg hs
  have : Ev (fun n => laws_FnExactCoreOf.f n g w) true := by
    unfold laws_FnExactCoreOf.f
    by_cases hbig : (w.size : Int) > 1048576
    · simp only [if_pos hbig]; exact Ev.now _
    · simp only [if_neg hbig]
      obtain ⟨r, h1, h2⟩ := both g w
      refine Ev.bind h1 (Ev.bind h2 ?_)
      simp only [if_true, bne_self_eq_false]
      exact Ev.now _
  exact this.rounds

end Go.Proofs.Yticfcgcipiadeaa.Pure
