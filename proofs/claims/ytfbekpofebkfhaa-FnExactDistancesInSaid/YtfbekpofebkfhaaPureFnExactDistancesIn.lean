/- The plain statement of the law FnExactDistancesIn: what the printed functions come to is true at every input of the kinds stated. No conditions beyond those of the printed statement. -/
import Derived.Test.YtfbekpofebkfhaaPFnExactDistancesInx0
import Derived.Test.YtfbekpofebkfhaaPFnExactDistancesInx10
import Derived.Laws.StructEq
import Derived.Test.YtfbekpofebkfhaaBase
import Derived.Test.YtfbekpofebkfhaaPlain
import Derived.Laws.StructEq
namespace Go.Proofs.Ytfbekpofebkfhaa.Pure
open Go.RowKit Go.Proofs.Ytfbekpofebkfhaa.PFnExactDistancesIn Go.Proofs.YtfbekpofebkfhaaW.PrintWords Go.Proofs.YtfbekpofebkfhaaW.PrintLast Go.Proofs.Ytfbekpofebkfhaa.Base
set_option linter.unusedVariables false
set_option linter.unusedSimpArgs false

/-! ### reading a row -/
theorem rd_nat (l : List Int) (i : Nat) (h : i < l.length) : rd l (i : Int) = l[i] := by
  simp [rd, List.getD_eq_getElem?_getD, h]
theorem drop_ints (l : List Int) (i : Nat) (h : i < l.length) : l.drop i = rd l (i : Int) :: l.drop (i + 1) := by
  rw [List.drop_eq_getElem_cons h, rd_nat l i h]
theorem set_take {α : Type} (x y : List α) (i : Nat) (d : α) (hi : i < x.length) (hl : y.length = x.length) (h : y.take i = x.take i) : (y.set i (x.getD i d)).take (i + 1) = x.take (i + 1) := by
  rw [List.take_succ_eq_append_getElem (by simp; omega), List.take_succ_eq_append_getElem hi, List.take_set_of_le (Nat.le_refl i), h]
  simp [List.getD_eq_getElem?_getD, hi]
theorem wsucc {i : Nat} {n : Nat} (h : i < n) (hn : n ≤ 140737488351232) : wrap64 ((i : Int) + 1) = ((i + 1 : Nat) : Int) := by rw [w64 (by omega) (by omega)]; simp

theorem allWithin_eq (l : List Int) (a b : Int) : impl_allWithin.f l a b = some (l.all fun x => decide (a ≤ x) && decide (x ≤ b)) := by
  unfold impl_allWithin.f
  rw [List.not_any_eq_all_not]
  simp

/-! ### the elements in the order in which they are reached, each with its word -/
/-- The word with one letter more. -/
def letS (x : Nat) : ByteArray := strOfNums [97 + (x : Int)]
theorem bytesOf_letS {x : Nat} (hx : x < 4) : bytesOf (letS x) = [97 + (x : Int)] := by
  unfold letS
  rw [bytesOf_strOfNums]
  intro y hy
  simp only [List.mem_singleton] at hy
  omega
theorem letS_size (x : Nat) : (letS x).size = 1 := rfl
/-- One element is read: what it leads to by the images from x on is put into the queue, if it is new. -/
def bfsIn (n : Int) (p : List Int) (a : Int) : Nat → List Int → List (Option ByteArray) × List Int → List (Option ByteArray) × List Int
  | _, [], s => s
  | x, b :: bs, s => bfsIn n p a (x + 1) bs (if (s.1.getD (T n p a b).toNat none).isNone then (s.1.set (T n p a b).toNat (some (((s.1.getD a.toNat none).getD ⟨#[]⟩) ++ letS x)), s.2 ++ [T n p a b]) else s)
/-- The whole search, of at most so many rounds. -/
def bfsOut (n : Int) (p l : List Int) : Nat → Nat → List (Option ByteArray) × List Int → List (Option ByteArray)
  | 0, _, s => s.1
  | d + 1, i, s => if i < s.2.length then bfsOut n p l d (i + 1) (bfsIn n p (rd s.2 i) 0 l s) else s.1
def nones : List (Option ByteArray) → Nat
  | [] => 0
  | none :: l => nones l + 1
  | some _ :: l => nones l
theorem nones_set : ∀ (l : List (Option ByteArray)) (j : Nat) (v : ByteArray), j < l.length → (l.getD j none).isNone = true → nones (l.set j (some v)) + 1 = nones l
  | none :: l, 0, v, _, _ => rfl
  | some _ :: l, 0, v, _, h => by simp at h
  | none :: l, j + 1, v, hj, h => by
    have := nones_set l j v (by simpa using hj) (by simpa using h)
    simp only [List.set_cons_succ, nones]; omega
  | some _ :: l, j + 1, v, hj, h => by
    have := nones_set l j v (by simpa using hj) (by simpa using h)
    simp only [List.set_cons_succ, nones]; omega
theorem nones_le : ∀ l : List (Option ByteArray), nones l ≤ l.length
  | [] => Nat.le_refl _
  | none :: l => by have := nones_le l; simp only [nones, List.length_cons]; omega
  | some _ :: l => by have := nones_le l; simp only [nones, List.length_cons]; omega
theorem nones_replicate (m : Nat) : nones (List.replicate m none) = m := by
  induction m with
  | zero => rfl
  | succ m ih => simp only [List.replicate_succ, nones, ih]
/-- What holds of the search's state: m elements; each one in the queue has its word; words are of the letters alone, and short. -/
structure BInv (m : Nat) (W : List (Option ByteArray)) (Q : List Int) : Prop where
  len : W.length = m
  q : ∀ a ∈ Q, 0 ≤ a ∧ a < (m : Int) ∧ (W.getD a.toNat none).isSome = true
  cnt : nones W + Q.length = m
  w : ∀ (j : Nat) (v : ByteArray), W.getD j none = some v → v.size < Q.length ∧ ∀ x ∈ bytesOf v, 97 ≤ x ∧ x < 101
theorem BInv.put {m : Nat} {W : List (Option ByteArray)} {Q : List Int} (h : BInv m W Q) {a y : Int} {x : Nat} (ha : a ∈ Q) (hx : x < 4) (hy : 0 ≤ y ∧ y < (m : Int)) (hn : (W.getD y.toNat none).isNone = true) :
    BInv m (W.set y.toNat (some (((W.getD a.toNat none).getD ⟨#[]⟩) ++ letS x))) (Q ++ [y]) := by
  have hl := h.len
  obtain ⟨ha0, ha1, ha2⟩ := h.q a ha
  obtain ⟨v, hv⟩ := Option.isSome_iff_exists.1 ha2
  have hyl : y.toNat < W.length := by omega
  have get : ∀ j, (W.set y.toNat (some (v ++ letS x))).getD j none = if y.toNat = j then some (v ++ letS x) else W.getD j none := by
    intro j
    simp only [List.getD_eq_getElem?_getD, List.getElem?_set]
    split
    · rename_i e
      subst e
      simp [hyl]
    · rfl
  rw [hv, Option.getD_some]
  refine ⟨by simp [hl], fun b hb => ?_, ?_, fun j u hu => ?_⟩
  · rw [get]
    rcases List.mem_append.1 hb with hb | hb
    · obtain ⟨h1, h2, h3⟩ := h.q b hb
      refine ⟨h1, h2, ?_⟩
      split
      · rfl
      · exact h3
    · simp only [List.mem_singleton] at hb
      subst hb
      exact ⟨hy.1, hy.2, by rw [if_pos rfl]; rfl⟩
  · have := nones_set W y.toNat (v ++ letS x) hyl hn
    have h1 := h.cnt
    simp only [List.length_append, List.length_singleton]
    omega
  · rw [get] at hu
    simp only [List.length_append, List.length_singleton]
    split at hu
    · obtain rfl := Option.some.inj hu
      obtain ⟨w1, w2⟩ := h.w _ _ hv
      refine ⟨by rw [ByteArray.size_append, letS_size]; omega, fun z hz => ?_⟩
      rw [bytesOf_append, bytesOf_letS hx, List.mem_append, List.mem_singleton] at hz
      rcases hz with hz | hz
      · exact w2 z hz
      · omega
    · obtain ⟨w1, w2⟩ := h.w _ _ hu
      exact ⟨by omega, w2⟩
theorem BInv.short {m : Nat} {W : List (Option ByteArray)} {Q : List Int} (h : BInv m W Q) : Q.length ≤ m := by have := h.cnt; omega
theorem BInv.start {m : Nat} (hm : 1 ≤ m) : BInv m ((List.replicate m none).set 0 (some ⟨#[]⟩)) [0] := by
  have get : ∀ j, ((List.replicate m (none : Option ByteArray)).set 0 (some ⟨#[]⟩)).getD j none = if 0 = j then some ⟨#[]⟩ else none := by
    intro j
    simp only [List.getD_eq_getElem?_getD, List.getElem?_set]
    split
    · simp only [List.length_replicate]; rw [if_pos (by omega)]; rfl
    · simp only [List.getElem?_replicate]
      split <;> rfl
  refine ⟨by simp, fun a ha => ?_, ?_, fun j u hu => ?_⟩
  · simp only [List.mem_singleton] at ha
    subst ha
    exact ⟨by omega, by omega, by rw [get]; rfl⟩
  · have h1 := nones_set (List.replicate m none) 0 ⟨#[]⟩ (by simp; omega) (by rw [List.getD_eq_getElem?_getD, List.getElem?_replicate]; split <;> rfl)
    rw [nones_replicate] at h1
    simp only [List.length_singleton]
    omega
  · rw [get] at hu
    split at hu
    · obtain rfl := Option.some.inj hu
      exact ⟨by show (0 : Nat) < 1; omega, fun z hz => by simp [bytesOf] at hz⟩
    · exact absurd hu (by simp)
theorem map_getD {α β : Type} (f : α → β) (d : β) (e : α) : ∀ (l : List α) (j : Nat), j < l.length → (l.map f).getD j d = f (l.getD j e)
  | [], _, h => by simp at h
  | _ :: _, 0, _ => rfl
  | _ :: l, j + 1, h => map_getD f d e l j (by simpa using h)
theorem rd_append {Q e : List Int} {i : Nat} (h : i < Q.length) : rd (Q ++ e) (i : Int) = rd Q (i : Int) := by
  simp [rd, List.getD_eq_getElem?_getD, List.getElem?_append_left h]
theorem bfsIn_inv {m : Nat} {p : List Int} (hm : 1 ≤ m ∧ m ≤ 40) (hpl : (p.length : Int) = (m : Int) * m) (hp : ∀ x ∈ p, 0 ≤ x ∧ x ≤ (m : Int) - 1) {a : Int} : ∀ (bs : List Int) (x : Nat) (W : List (Option ByteArray)) (Q : List Int), x + bs.length ≤ 4 → (∀ b ∈ bs, 0 ≤ b ∧ b ≤ (m : Int) - 1) → BInv m W Q → a ∈ Q →
    BInv m (bfsIn (m : Int) p a x bs (W, Q)).1 (bfsIn (m : Int) p a x bs (W, Q)).2 ∧ ∃ e, (bfsIn (m : Int) p a x bs (W, Q)).2 = Q ++ e
  | [], x, W, Q, _, _, h, _ => ⟨h, [], by simp [bfsIn]⟩
  | b :: bs, x, W, Q, hx, hb, h, ha => by
    simp only [List.length_cons] at hx
    obtain ⟨a0, a1, _⟩ := h.q a ha
    have hbb := hb b List.mem_cons_self
    have tr := T_range (n := (m : Int)) (a := a) (b := b) (by omega) hpl hp ⟨a0, a1⟩ (by omega)
    unfold bfsIn
    by_cases hn : (W.getD (T (m : Int) p a b).toNat none).isNone = true
    · simp only [hn, if_true]
      obtain ⟨i1, e, i2⟩ := bfsIn_inv hm hpl hp bs (x + 1) _ _ (by omega) (fun c hc => hb c (List.mem_cons_of_mem _ hc)) (h.put ha (show x < 4 by omega) tr hn) (List.mem_append_left _ ha)
      exact ⟨i1, [T (m : Int) p a b] ++ e, by rw [i2, List.append_assoc]⟩
    · simp only [hn]
      exact bfsIn_inv hm hpl hp bs (x + 1) W Q (by omega) (fun c hc => hb c (List.mem_cons_of_mem _ hc)) h ha
/-- The words of all elements. -/
def bfsW (m : Nat) (p l : List Int) : List (Option ByteArray) := bfsOut (m : Int) p l m 0 ((List.replicate m none).set 0 (some ⟨#[]⟩), [0])
theorem bfsOut_inv {m : Nat} {p l : List Int} (hm : 1 ≤ m ∧ m ≤ 40) (hpl : (p.length : Int) = (m : Int) * m) (hp : ∀ x ∈ p, 0 ≤ x ∧ x ≤ (m : Int) - 1) (hll : l.length ≤ 4) (hlr : ∀ x ∈ l, 0 ≤ x ∧ x ≤ (m : Int) - 1) : ∀ (N i : Nat) (W : List (Option ByteArray)) (Q : List Int), BInv m W Q → i ≤ Q.length → ∃ Q', BInv m (bfsOut (m : Int) p l N i (W, Q)) Q'
  | 0, _, _, Q, h, _ => ⟨Q, h⟩
  | N + 1, i, W, Q, h, hi => by
    unfold bfsOut
    by_cases hlt : i < Q.length
    · simp only [if_pos hlt]
      obtain ⟨i1, e, i2⟩ := bfsIn_inv hm hpl hp (a := rd Q (i : Int)) l 0 W Q (by omega) hlr h (rd_mem (by omega) (by omega))
      exact bfsOut_inv hm hpl hp hll hlr N (i + 1) _ _ i1 (by rw [i2]; simp; omega)
    · simp only [if_neg hlt]
      exact ⟨Q, h⟩
theorem bfsW_inv {m : Nat} {p l : List Int} (hm : 1 ≤ m ∧ m ≤ 40) (hpl : (p.length : Int) = (m : Int) * m) (hp : ∀ x ∈ p, 0 ≤ x ∧ x ≤ (m : Int) - 1) (hll : l.length ≤ 4) (hlr : ∀ x ∈ l, 0 ≤ x ∧ x ≤ (m : Int) - 1) : ∃ Q', BInv m (bfsW m p l) Q' :=
  bfsOut_inv hm hpl hp hll hlr m 0 _ _ (BInv.start hm.1) (by simp)
theorem bfsW_len {m : Nat} {p l : List Int} (hm : 1 ≤ m ∧ m ≤ 40) (hpl : (p.length : Int) = (m : Int) * m) (hp : ∀ x ∈ p, 0 ≤ x ∧ x ≤ (m : Int) - 1) (hll : l.length ≤ 4) (hlr : ∀ x ∈ l, 0 ≤ x ∧ x ≤ (m : Int) - 1) : (bfsW m p l).length = m := by
  obtain ⟨Q, h⟩ := bfsW_inv hm hpl hp hll hlr
  exact h.len

theorem impl_within_eq (a b c : Int) : impl_within.f a b c = some (decide (b ≤ a) && decide (a ≤ c)) := by
  unfold impl_within.f
  by_cases h : b ≤ a <;> simp [h]

theorem impl_times_eq {n a b : Int} {p : List Int} (hn : 1 ≤ n ∧ n ≤ 40) (hl : (p.length : Int) = n * n) (ha : 0 ≤ a ∧ a < n) (hb : 0 ≤ b ∧ b < n) : impl_Table_times.f n p a b = some (T n p a b) := by
  have I := T_idx hn hl ha hb
  unfold impl_Table_times.f
  rw [if_pos I.g, if_pos I.g', I.r]
section
variable {m : Nat} {p : List Int}
theorem impl_TableOk_l2 (hm : 1 ≤ m ∧ m ≤ 40) (hl : (p.length : Int) = (m : Int) * m) (hp : ∀ x ∈ p, 0 ≤ x ∧ x ≤ (m : Int) - 1) (a b : Nat) (ha : a < m) (hb : b < m) (r : Bool)
    (h : Ev (fun k => impl_TableOk.l1 k (a : Int) (m : Int) (a : Int) (m : Int) ((b + 1 : Nat) : Int) (m : Int) p) r) : ∀ (d c : Nat), c + d = m → Ev (fun k => impl_TableOk.l2 k (a : Int) (b : Int) (m : Int) (a : Int) (m : Int) (b : Int) (m : Int) (c : Int) (m : Int) p) (allFrom (fun c => assocB m p a b c) c d && r) := by
  intro d
  induction d with
  | zero =>
    intro c hc
    rw [allFrom, Bool.true_and]
    exact Ev.step (fun k => by simp only [impl_TableOk.l2]; rw [if_neg (by omega), wsucc (n := m) (by omega) (by omega)]) h
  | succ d ih =>
    intro c hc
    have hn : (1 : Int) ≤ m ∧ (m : Int) ≤ 40 := by omega
    have t1 := T_range (a := (a : Int)) (b := (b : Int)) hn hl hp (by omega) (by omega)
    have t3 := T_range (a := (b : Int)) (b := (c : Int)) hn hl hp (by omega) (by omega)
    have r1 := impl_times_eq (a := (a : Int)) (b := (b : Int)) hn hl (by omega) (by omega)
    have r2 := impl_times_eq (b := (c : Int)) hn hl t1 (by omega)
    have r3 := impl_times_eq (a := (b : Int)) (b := (c : Int)) hn hl (by omega) (by omega)
    have r4 := impl_times_eq (a := (a : Int)) hn hl (by omega) t3
    rw [allFrom]
    cases hA : assocB m p a b c with
    | false =>
      rw [Bool.false_and, Bool.false_and]
      have hne : ¬ T m p (T m p a b) c = T m p a (T m p b c) := by simpa [assocB] using hA
      refine Ev.step (f := fun _ => some false) (fun k => ?_) (Ev.now _)
      simp only [impl_TableOk.l2, r1, r2, r3, r4, bsome]
      rw [if_pos (by omega), if_neg hne]
    | true =>
      rw [Bool.true_and]
      have heq : T m p (T m p a b) c = T m p a (T m p b c) := by simpa [assocB] using hA
      refine Ev.step (fun k => ?_) (ih (c + 1) (by omega))
      simp only [impl_TableOk.l2, r1, r2, r3, r4, bsome]
      rw [if_pos (by omega), if_pos heq, wsucc (n := m) (by omega) (by omega)]
theorem impl_TableOk_l1 (hm : 1 ≤ m ∧ m ≤ 40) (hl : (p.length : Int) = (m : Int) * m) (hp : ∀ x ∈ p, 0 ≤ x ∧ x ≤ (m : Int) - 1) (a : Nat) (ha : a < m) (r : Bool)
    (h : Ev (fun k => impl_TableOk.l0 k (m : Int) ((a + 1 : Nat) : Int) (m : Int) p) r) : ∀ (d b : Nat), b + d = m → Ev (fun k => impl_TableOk.l1 k (a : Int) (m : Int) (a : Int) (m : Int) (b : Int) (m : Int) p) (allFrom (fun b => allFrom (fun c => assocB m p a b c) 0 m) b d && r) := by
  intro d
  induction d with
  | zero =>
    intro b hb
    rw [allFrom, Bool.true_and]
    exact Ev.step (fun k => by simp only [impl_TableOk.l1]; rw [if_neg (by omega), wsucc (n := m) (by omega) (by omega)]) h
  | succ d ih =>
    intro b hb
    rw [allFrom, Bool.and_assoc]
    refine Ev.step (fun k => by simp only [impl_TableOk.l1]; rw [if_pos (by omega)]) ?_
    exact impl_TableOk_l2 hm hl hp a b ha (by omega) _ (ih (b + 1) (by omega)) m 0 (by omega)
theorem impl_TableOk_l0 (hm : 1 ≤ m ∧ m ≤ 40) (hl : (p.length : Int) = (m : Int) * m) (hp : ∀ x ∈ p, 0 ≤ x ∧ x ≤ (m : Int) - 1) : ∀ (d a : Nat), a + d = m → Ev (fun k => impl_TableOk.l0 k (m : Int) (a : Int) (m : Int) p) (allFrom (fun a => unitB m p a && allFrom (fun b => allFrom (fun c => assocB m p a b c) 0 m) 0 m) a d) := by
  intro d
  induction d with
  | zero =>
    intro a ha
    rw [allFrom]
    exact Ev.step (f := fun k => some true) (fun k => by simp only [impl_TableOk.l0]; rw [if_neg (by omega)]) (Ev.now _)
  | succ d ih =>
    intro a ha
    have hn : (1 : Int) ≤ m ∧ (m : Int) ≤ 40 := by omega
    have r1 := impl_times_eq (a := 0) (b := (a : Int)) hn hl (by omega) (by omega)
    have r2 := impl_times_eq (a := (a : Int)) (b := 0) hn hl (by omega) (by omega)
    rw [allFrom, Bool.and_assoc]
    have hstep : Ev (fun k => impl_TableOk.j2 k (a : Int) (m : Int) (a : Int) (!(unitB m p a)) (m : Int) p) (unitB m p a && (allFrom (fun b => allFrom (fun c => assocB m p a b c) 0 m) 0 m && allFrom (fun a => unitB m p a && allFrom (fun b => allFrom (fun c => assocB m p a b c) 0 m) 0 m) (a + 1) d)) := by
      cases unitB m p a with
      | false => exact Ev.step (f := fun _ => some false) (fun k => by simp [impl_TableOk.j2]) (Ev.now _)
      | true =>
        rw [Bool.true_and]
        exact Ev.step (f := fun k => impl_TableOk.l1 k (a : Int) (m : Int) (a : Int) (m : Int) 0 (m : Int) p) (fun k => by simp [impl_TableOk.j2]) (impl_TableOk_l1 hm hl hp a (by omega) _ (ih (a + 1) (by omega)) m 0 (by omega))
    refine Ev.step (fun k => ?_) hstep
    simp only [impl_TableOk.l0, r1, r2, bsome]
    rw [if_pos (by omega)]
    by_cases h1 : T m p 0 a = (a : Int)
    · rw [if_pos h1]
      congr 1
      simp [unitB, h1, bne, int_beq]
    · rw [if_neg h1]
      congr 1
      simp [unitB, h1]
end
theorem impl_TableOk_ev (n : Int) (p : List Int) (hp : p.length ≤ 1048576) : Ev (fun k => impl_TableOk.f k n p) (tableOk n p) := by
  unfold impl_TableOk.f tableOk
  simp only [impl_within_eq, allWithin_eq, bsome]
  by_cases h1 : 1 ≤ n ∧ n ≤ 40
  · rw [dec_and_true h1]
    obtain ⟨m, rfl⟩ : ∃ m : Nat, n = m := ⟨n.toNat, by omega⟩
    have hb := mul_bounds h1 (a := (m : Int) - 1) (b := 0) (by omega) (by omega)
    have hb2 : ((m : Int) - 1) * m = (m : Int) * m - m := by rw [Int.sub_mul, Int.one_mul]
    rw [w64 (x := (m : Int) * m) (by omega) (by omega), w64 (x := (m : Int) - 1) (by omega) (by omega), Int.toNat_natCast]
    simp only [if_true, Bool.true_and]
    by_cases h2 : (p.length : Int) = (m : Int) * m
    · rw [decide_eq_true h2, Bool.true_and]
      refine ev_pos h2 ?_
      cases hq : (p.all fun x => decide (0 ≤ x) && decide (x ≤ (m : Int) - 1)) with
      | false =>
        rw [Bool.false_and]
        exact Ev.step (f := fun k => some false) (fun k => by simp [impl_TableOk.j0]) (Ev.now _)
      | true =>
        rw [Bool.true_and]
        refine Ev.step (f := fun k => impl_TableOk.l0 k (m : Int) 0 (m : Int) p) (fun k => by simp [impl_TableOk.j0]) ?_
        refine impl_TableOk_l0 (by omega) h2 ?_ m 0 (by omega)
        intro x hx
        have := List.all_eq_true.1 hq x hx
        simpa using this
    · rw [decide_eq_false h2, Bool.false_and]
      refine ev_neg h2 ?_
      exact Ev.step (f := fun k => some false) (fun k => by simp [impl_TableOk.j0]) (Ev.now _)
  · rw [dec_and_false h1, Bool.false_and]
    simp only [if_neg (show ¬ (false = true) by decide)]
    exact Ev.step (f := fun k => some false) (fun k => by simp [impl_TableOk.j0]) (Ev.now _)

def outS (W : List (Option ByteArray)) : List ByteArray := W.map fun o => o.getD ⟨#[45]⟩
theorem outS_len (W : List (Option ByteArray)) : (outS W).length = W.length := by simp [outS]
theorem outS_set (W : List (Option ByteArray)) (j : Nat) (v : ByteArray) : outS (W.set j (some v)) = (outS W).set j v := by simp [outS, List.map_set]
theorem outS_rd {m : Nat} {W : List (Option ByteArray)} {Q : List Int} (h : BInv m W Q) {y : Int} (hy : 0 ≤ y ∧ y < (m : Int)) : rdOf ByteArray.empty (outS W) y = (W.getD y.toNat none).getD ⟨#[45]⟩ :=
  map_getD (fun o : Option ByteArray => o.getD ⟨#[45]⟩) ByteArray.empty none W y.toNat (by have := h.len; omega)
theorem dash_iff {m : Nat} {W : List (Option ByteArray)} {Q : List Int} (h : BInv m W Q) {y : Int} (hy : 0 ≤ y ∧ y < (m : Int)) : (rdOf ByteArray.empty (outS W) y).toList = ([45] : List UInt8) ↔ (W.getD y.toNat none).isNone = true := by
  rw [outS_rd h hy]
  cases hv : W.getD y.toNat none with
  | none => simp only [Option.getD_none, Option.isNone_none, iff_true]; decide +kernel
  | some v =>
    simp only [Option.getD_some, Option.isNone_some, Bool.false_eq_true, iff_false]
    intro e
    have e1 : bytesOf v = [45] := by
      rw [Lib.toList_data] at e
      simp [bytesOf, e]
    have := (h.w _ _ hv).2 45 (by rw [e1]; simp)
    omega
theorem letterOf_eq {x : Nat} (hx : x < 4) : impl_letterOf.f (x : Int) = some (letS x) := by
  unfold impl_letterOf.f letS
  rw [w64 (by omega) (by omega), show (97 + (x : Int)) % 256 = 97 + (x : Int) by omega]
theorem mul_one_eq {m : Nat} (h : m ≤ 40) : bits_Mul.f 1 (m : Int) = some (0, (m : Int)) := by
  have : ∀ i : Fin 41, bits_Mul.f 1 ((i.val : Nat) : Int) = some (0, ((i.val : Nat) : Int)) := by decide +kernel
  exact this ⟨m, by omega⟩
section
variable {m : Nat} {p l : List Int}
theorem sh_l1 (hm : 1 ≤ m ∧ m ≤ 40) (hpl : (p.length : Int) = (m : Int) * m) (hp : ∀ x ∈ p, 0 ≤ x ∧ x ≤ (m : Int) - 1) (hll : l.length ≤ 4) (hlr : ∀ x ∈ l, 0 ≤ x ∧ x ≤ (m : Int) - 1) (t : Nat) (a : Int) :
    ∀ (d i : Nat) (W : List (Option ByteArray)) (Q : List Int), i + d = l.length → BInv m W Q → t < Q.length → rd Q (t : Int) = a →
      ∀ r, Ev (fun k => impl_Table_shortest.l0 k l (outS (bfsIn (m : Int) p a i (l.drop i) (W, Q)).1) ((bfsIn (m : Int) p a i (l.drop i) (W, Q)).2.drop (t + 1)) (m : Int) p) r → Ev (fun k => impl_Table_shortest.l1 k l (outS W) (Q.drop t) l (l.length : Int) (i : Int) (m : Int) p) r := by
  intro d
  induction d with
  | zero =>
    intro i W Q hi h ht ha r hr
    rw [List.drop_of_length_le (show l.length ≤ i by omega)] at hr
    refine Ev.step (fun k => ?_) hr
    simp only [impl_Table_shortest.l1, bfsIn]
    rw [if_neg (by omega), if_pos (by simp; omega), List.drop_drop]
    rfl
  | succ d ih =>
    intro i W Q hi h ht ha r hr
    have hl := h.len
    have hs := h.short
    have haQ : a ∈ Q := by rw [← ha]; exact rd_mem (by omega) (by omega)
    obtain ⟨a0, a1, a2⟩ := h.q a haQ
    have hb := hlr _ (rd_mem (l := l) (i := (i : Int)) (by omega) (by omega))
    have hd : l.drop i = rd l (i : Int) :: l.drop (i + 1) := drop_ints l i (by omega)
    rw [hd] at hr
    unfold bfsIn at hr
    have e0 : rd (Q.drop t) 0 = a := by rw [← ha]; simp [rd, List.getD_eq_getElem?_getD]
    have it := impl_times_eq (n := (m : Int)) (a := a) (b := rd l (i : Int)) (by omega) hpl ⟨a0, a1⟩ (by omega)
    have tr := T_range (n := (m : Int)) (a := a) (b := rd l (i : Int)) (by omega) hpl hp ⟨a0, a1⟩ (by omega)
    generalize T (m : Int) p a (rd l (i : Int)) = y at hr it tr
    have dsh := dash_iff h tr
    have lt := letterOf_eq (x := i) (by omega)
    by_cases hn : (W.getD y.toNat none).isNone = true
    · simp only [hn, if_true] at hr
      obtain ⟨v, hv⟩ := Option.isSome_iff_exists.1 a2
      have er := outS_rd h (y := a) ⟨a0, a1⟩
      have hput := h.put haQ (show i < 4 by omega) tr hn
      rw [hv, Option.getD_some] at er hput hr
      have hvs := (h.w _ _ hv).1
      have := ih (i + 1) _ _ (by omega) hput (by simp; omega) (by rw [rd_append ht]; exact ha) r hr
      rw [outS_set, List.drop_append_of_le_length (by omega)] at this
      refine Ev.step (fun k => ?_) this
      simp only [impl_Table_shortest.l1, e0, it, bsome, lt, er]
      rw [if_pos (by omega), if_pos (by omega), if_pos (by omega), if_pos (by simp; omega), if_pos (by omega), if_pos (by rw [outS_len]; omega), if_pos (dsh.2 hn), if_pos (by omega), if_pos (by rw [outS_len]; omega), if_pos (by rw [letS_size]; omega), if_pos (by simp; omega), wsucc (n := l.length) (by omega) (by omega)]
    · simp only [hn] at hr
      have := ih (i + 1) W Q (by omega) h ht ha r hr
      refine Ev.step (fun k => ?_) this
      simp only [impl_Table_shortest.l1, e0, it, bsome]
      rw [if_pos (by omega), if_pos (by omega), if_pos (by omega), if_pos (by simp; omega), if_pos (by omega), if_pos (by rw [outS_len]; omega), if_neg (fun e => hn (dsh.1 e)), wsucc (n := l.length) (by omega) (by omega)]
theorem sh_l0 (hm : 1 ≤ m ∧ m ≤ 40) (hpl : (p.length : Int) = (m : Int) * m) (hp : ∀ x ∈ p, 0 ≤ x ∧ x ≤ (m : Int) - 1) (hll : l.length ≤ 4) (hlr : ∀ x ∈ l, 0 ≤ x ∧ x ≤ (m : Int) - 1) :
    ∀ (N t : Nat) (W : List (Option ByteArray)) (Q : List Int), BInv m W Q → m ≤ t + N → Ev (fun k => impl_Table_shortest.l0 k l (outS W) (Q.drop t) (m : Int) p) (outS (bfsOut (m : Int) p l N t (W, Q))) := by
  intro N
  induction N with
  | zero =>
    intro t W Q h ht
    have := h.short
    refine Ev.step (f := fun _ => some (outS W)) (fun k => ?_) (Ev.now _)
    simp only [impl_Table_shortest.l0]
    rw [if_neg (by simp; omega)]
  | succ N ih =>
    intro t W Q h ht
    unfold bfsOut
    by_cases hlt : t < Q.length
    · simp only [if_pos hlt]
      obtain ⟨i1, e, i2⟩ := bfsIn_inv hm hpl hp (a := rd Q (t : Int)) l 0 W Q (by omega) hlr h (rd_mem (by omega) (by omega))
      have := sh_l1 hm hpl hp hll hlr t (rd Q (t : Int)) l.length 0 W Q (by omega) h hlt rfl _ (by rw [List.drop_zero]; exact ih (t + 1) _ _ i1 (by omega))
      refine Ev.step (fun k => ?_) this
      simp only [impl_Table_shortest.l0]
      rw [if_pos (by simp; omega)]
      rfl
    · simp only [if_neg hlt]
      refine Ev.step (f := fun _ => some (outS W)) (fun k => ?_) (Ev.now _)
      simp only [impl_Table_shortest.l0]
      rw [if_neg (by simp; omega)]
theorem shortest_ev (hm : 1 ≤ m ∧ m ≤ 40) (hpl : (p.length : Int) = (m : Int) * m) (hp : ∀ x ∈ p, 0 ≤ x ∧ x ≤ (m : Int) - 1) (hll : l.length ≤ 4) (hlr : ∀ x ∈ l, 0 ≤ x ∧ x ≤ (m : Int) - 1) : Ev (fun k => impl_Table_shortest.f k (m : Int) p l) (outS (bfsW m p l)) := by
  unfold impl_Table_shortest.f slices_Repeat_string_string.f
  simp only [mul_one_eq (show m ≤ 40 by omega), bsome]
  rw [if_pos (by refine ⟨?_, ?_, ?_, ?_⟩ <;> first | trivial | omega), Int.toNat_natCast]
  simp only [bsome]
  refine ev_pos (by simp; omega) ?_
  have := sh_l0 hm hpl hp hll hlr m 0 _ _ (BInv.start hm.1) (by omega)
  rw [outS_set, List.drop_zero] at this
  have e : outS (List.replicate m none) = List.replicate m ⟨#[45]⟩ := by simp [outS]
  rw [e] at this
  exact this
end

def farO (o : Option ByteArray) : Int := match o with
  | none => -1
  | some v => (v.size : Int)
def farS (W : List (Option ByteArray)) : List Int := W.map farO
theorem distances_l0 {m : Nat} {W : List (Option ByteArray)} {Q : List Int} (h : BInv m W Q) (hm : m ≤ 40) : ∀ (d i : Nat), i + d = m → Ev (fun k => impl_Table_distances.l0 k ((farS W).take i) (outS W) ((outS W).length : Int) (i : Int)) (farS W) := by
  have hl := h.len
  have hf : (farS W).length = m := by simp [farS, hl]
  intro d
  induction d with
  | zero =>
    intro i hi
    rw [List.take_of_length_le (by omega)]
    refine Ev.step (f := fun _ => some (farS W)) (fun k => ?_) (Ev.now _)
    simp only [impl_Table_distances.l0]
    rw [if_neg (by rw [outS_len]; omega)]
  | succ d ih =>
    intro i hi
    have e : (farS W).take (i + 1) = (farS W).take i ++ [farO (W.getD i none)] := by
      rw [List.take_succ_eq_append_getElem (by omega)]
      have := map_getD farO 0 none W i (by omega)
      simp only [List.getD_eq_getElem?_getD, List.getElem?_map] at this
      simp [farS, List.getD_eq_getElem?_getD, show i < W.length by omega]
    have dsh := dash_iff h (y := (i : Int)) (by omega)
    have er := outS_rd h (y := (i : Int)) (by omega)
    have ih' := ih (i + 1) (by omega)
    rw [e] at ih'
    rw [Int.toNat_natCast] at dsh er
    cases hv : W.getD i none with
    | none =>
      rw [hv] at dsh ih'
      refine Ev.step (fun k => ?_) ih'
      simp only [impl_Table_distances.l0]
      rw [if_pos (by rw [outS_len]; omega), if_pos (by omega), if_pos (by rw [outS_len]; omega), if_pos (dsh.2 rfl), if_pos (by simp; omega), wsucc (n := m) (by omega) (by omega)]
      rfl
    | some v =>
      rw [hv] at dsh ih' er
      refine Ev.step (fun k => ?_) ih'
      simp only [impl_Table_distances.l0, er]
      rw [er] at dsh
      rw [if_pos (by rw [outS_len]; omega), if_pos (by omega), if_pos (by rw [outS_len]; omega), if_neg (fun e => by have := dsh.1 e; simp at this), if_pos (by simp; omega), wsucc (n := m) (by omega) (by omega)]
      rfl
theorem distances_ev {m : Nat} {p l : List Int} (hm : 1 ≤ m ∧ m ≤ 40) (hpl : (p.length : Int) = (m : Int) * m) (hp : ∀ x ∈ p, 0 ≤ x ∧ x ≤ (m : Int) - 1) (hll : l.length ≤ 4) (hlr : ∀ x ∈ l, 0 ≤ x ∧ x ≤ (m : Int) - 1) : Ev (fun k => impl_Table_distances.f k (m : Int) p l) (farS (bfsW m p l)) := by
  unfold impl_Table_distances.f
  refine Ev.bind (shortest_ev hm hpl hp hll hlr) ?_
  obtain ⟨Q, h⟩ := bfsW_inv hm hpl hp hll hlr
  have := distances_l0 h (by omega) m 0 (by omega)
  rwa [List.take_zero] at this

theorem spec_times_eq {n a b : Int} {p : List Int} (hn : 1 ≤ n ∧ n ≤ 40) (hl : (p.length : Int) = n * n) (ha : 0 ≤ a ∧ a < n) (hb : 0 ≤ b ∧ b < n) : spec_l08Times.f n p a b = some (T n p a b) := by
  have I := T_idx hn hl ha hb
  unfold spec_l08Times.f
  rw [if_pos I.g, if_pos I.g', I.r]

theorem farS_len (W : List (Option ByteArray)) : (farS W).length = W.length := by simp [farS]
theorem farS_set (W : List (Option ByteArray)) (j : Nat) (v : ByteArray) : farS (W.set j (some v)) = (farS W).set j (v.size : Int) := by simp [farS, List.map_set, farO]
theorem farS_rd {m : Nat} {W : List (Option ByteArray)} {Q : List Int} (h : BInv m W Q) {y : Int} (hy : 0 ≤ y ∧ y < (m : Int)) : rd (farS W) y = farO (W.getD y.toNat none) :=
  map_getD farO 0 none W y.toNat (by have := h.len; omega)
section
variable {m : Nat} {p l : List Int}
theorem far_l2 (hm : 1 ≤ m ∧ m ≤ 40) (hpl : (p.length : Int) = (m : Int) * m) (hp : ∀ x ∈ p, 0 ≤ x ∧ x ≤ (m : Int) - 1) (hll : l.length ≤ 4) (hlr : ∀ x ∈ l, 0 ≤ x ∧ x ≤ (m : Int) - 1) (t : Nat) (a : Int) :
    ∀ (d i : Nat) (W : List (Option ByteArray)) (Q : List Int), i + d = l.length → BInv m W Q → t < Q.length → rd Q (t : Int) = a →
      ∀ r, Ev (fun k => spec_l26Far.l1 k l (farS (bfsIn (m : Int) p a i (l.drop i) (W, Q)).1) (bfsIn (m : Int) p a i (l.drop i) (W, Q)).2 ((t + 1 : Nat) : Int) (m : Int) p) r → Ev (fun k => spec_l26Far.l2 k l (farS W) Q (t : Int) l (l.length : Int) (i : Int) (m : Int) p) r := by
  intro d
  induction d with
  | zero =>
    intro i W Q hi h ht ha r hr
    have hs := h.short
    rw [List.drop_of_length_le (show l.length ≤ i by omega)] at hr
    refine Ev.step (fun k => ?_) hr
    simp only [spec_l26Far.l2, bfsIn]
    rw [if_neg (by omega), wsucc (n := m) (by omega) (by omega)]
  | succ d ih =>
    intro i W Q hi h ht ha r hr
    have hl := h.len
    have hs := h.short
    have haQ : a ∈ Q := by rw [← ha]; exact rd_mem (by omega) (by omega)
    obtain ⟨a0, a1, a2⟩ := h.q a haQ
    have hb := hlr _ (rd_mem (l := l) (i := (i : Int)) (by omega) (by omega))
    have hd : l.drop i = rd l (i : Int) :: l.drop (i + 1) := drop_ints l i (by omega)
    rw [hd] at hr
    unfold bfsIn at hr
    have it := spec_times_eq (n := (m : Int)) (a := a) (b := rd l (i : Int)) (by omega) hpl ⟨a0, a1⟩ (by omega)
    have tr := T_range (n := (m : Int)) (a := a) (b := rd l (i : Int)) (by omega) hpl hp ⟨a0, a1⟩ (by omega)
    generalize T (m : Int) p a (rd l (i : Int)) = y at hr it tr
    have ey := farS_rd h tr
    have ea := farS_rd h (y := a) ⟨a0, a1⟩
    by_cases hn : (W.getD y.toNat none).isNone = true
    · simp only [hn, if_true] at hr
      obtain ⟨v, hv⟩ := Option.isSome_iff_exists.1 a2
      have hput := h.put haQ (show i < 4 by omega) tr hn
      rw [Option.isNone_iff_eq_none.1 hn] at ey
      rw [hv] at ea
      rw [hv, Option.getD_some] at hput hr
      have hvs := (h.w _ _ hv).1
      have := ih (i + 1) _ _ (by omega) hput (by simp; omega) (by rw [rd_append ht]; exact ha) r hr
      rw [farS_set] at this
      simp only [farO] at ey ea
      have e2 : wrap64 ((v.size : Int) + 1) = ((v ++ letS i).size : Int) := by rw [w64 (by omega) (by omega), ByteArray.size_append, letS_size]; omega
      refine Ev.step (fun k => ?_) this
      simp only [spec_l26Far.l2, ha, it, bsome, ey, ea, e2]
      rw [if_pos (by omega), if_pos (by omega), if_pos (by omega), if_pos (by omega), if_pos (by omega), if_pos (by omega), if_pos (by rw [farS_len]; omega), if_pos (by decide), if_pos (by omega), if_pos (by rw [farS_len]; omega), if_pos (by omega), wsucc (n := l.length) (by omega) (by omega)]
    · simp only [hn] at hr
      have := ih (i + 1) W Q (by omega) h ht ha r hr
      have hnn : ¬ farO (W.getD y.toNat none) < 0 := by
        cases hv : W.getD y.toNat none with
        | none => rw [hv] at hn; simp at hn
        | some v => simp only [farO]; omega
      refine Ev.step (fun k => ?_) this
      simp only [spec_l26Far.l2, ha, it, bsome, ey]
      rw [if_pos (by omega), if_pos (by omega), if_pos (by omega), if_pos (by omega), if_pos (by omega), if_pos (by omega), if_pos (by rw [farS_len]; omega), if_neg hnn, wsucc (n := l.length) (by omega) (by omega)]
theorem far_l1 (hm : 1 ≤ m ∧ m ≤ 40) (hpl : (p.length : Int) = (m : Int) * m) (hp : ∀ x ∈ p, 0 ≤ x ∧ x ≤ (m : Int) - 1) (hll : l.length ≤ 4) (hlr : ∀ x ∈ l, 0 ≤ x ∧ x ≤ (m : Int) - 1) :
    ∀ (N t : Nat) (W : List (Option ByteArray)) (Q : List Int), BInv m W Q → m ≤ t + N → Ev (fun k => spec_l26Far.l1 k l (farS W) Q (t : Int) (m : Int) p) (farS (bfsOut (m : Int) p l N t (W, Q))) := by
  intro N
  induction N with
  | zero =>
    intro t W Q h ht
    have := h.short
    refine Ev.step (f := fun _ => some (farS W)) (fun k => ?_) (Ev.now _)
    simp only [spec_l26Far.l1]
    rw [if_neg (by omega)]
  | succ N ih =>
    intro t W Q h ht
    unfold bfsOut
    by_cases hlt : t < Q.length
    · simp only [if_pos hlt]
      obtain ⟨i1, e, i2⟩ := bfsIn_inv hm hpl hp (a := rd Q (t : Int)) l 0 W Q (by omega) hlr h (rd_mem (by omega) (by omega))
      have := far_l2 hm hpl hp hll hlr t (rd Q (t : Int)) l.length 0 W Q (by omega) h hlt rfl _ (by rw [List.drop_zero]; exact ih (t + 1) _ _ i1 (by omega))
      refine Ev.step (fun k => ?_) this
      simp only [spec_l26Far.l1]
      rw [if_pos (by omega)]
      rfl
    · simp only [if_neg hlt]
      refine Ev.step (f := fun _ => some (farS W)) (fun k => ?_) (Ev.now _)
      simp only [spec_l26Far.l1]
      rw [if_neg (by omega)]
theorem far_l0 (hm : 1 ≤ m ∧ m ≤ 40) (r : List Int) (hr : Ev (fun k => spec_l26Far.l1 k l ((List.replicate m (-1)).set 0 0) [0] 0 (m : Int) p) r) : ∀ (d i : Nat) (y : List Int), i + d = m → y.length = m → y.take i = List.replicate i (-1) → Ev (fun k => spec_l26Far.l0 k l y (m : Int) (i : Int) (m : Int) p) r := by
  intro d
  induction d with
  | zero =>
    intro i y hi hy ht
    have e : y = List.replicate m (-1) := by rw [List.take_of_length_le (by omega)] at ht; rw [ht]; congr 1
    refine Ev.step (fun k => ?_) hr
    simp only [spec_l26Far.l0]
    rw [if_neg (by omega), if_pos (by omega), e]
    rfl
  | succ d ih =>
    intro i y hi hy ht
    have := ih (i + 1) (y.set i (-1)) (by omega) (by simp; omega) (by
      rw [List.take_succ_eq_append_getElem (by simp; omega), List.take_set_of_le (by omega), ht]
      simp [List.replicate_succ'])
    refine Ev.step (fun k => ?_) this
    simp only [spec_l26Far.l0]
    rw [if_pos (by omega), if_pos (by omega), if_pos (by omega), wsucc (n := m) (by omega) (by omega), Int.toNat_natCast]
theorem far_ev (hm : 1 ≤ m ∧ m ≤ 40) (hpl : (p.length : Int) = (m : Int) * m) (hp : ∀ x ∈ p, 0 ≤ x ∧ x ≤ (m : Int) - 1) (hll : l.length ≤ 4) (hlr : ∀ x ∈ l, 0 ≤ x ∧ x ≤ (m : Int) - 1) : Ev (fun k => spec_l26Far.f k (m : Int) p l) (farS (bfsW m p l)) := by
  unfold spec_l26Far.f
  simp only [bsome, Int.toNat_natCast, List.length_replicate]
  refine ev_pos (by omega) (ev_pos (by omega) ?_)
  refine far_l0 hm _ ?_ m 0 _ (by omega) (by simp) (by simp)
  have := far_l1 hm hpl hp hll hlr m 0 _ _ (BInv.start hm.1) (by omega)
  rw [farS_set] at this
  have e : farS (List.replicate m none) = List.replicate m (-1) := by simp [farS, farO]
  rw [e] at this
  exact this
end

theorem spec_l01In_eq (a b c : Int) : spec_l01In.f a b c = some (decide (b ≤ a) && decide (a ≤ c)) := by
  unfold spec_l01In.f
  by_cases h : b ≤ a <;> simp [h]

section
variable {m : Nat} {p : List Int}
theorem spec_TableOk_l3 (hm : 1 ≤ m ∧ m ≤ 40) (hl : (p.length : Int) = (m : Int) * m) (hp : ∀ x ∈ p, 0 ≤ x ∧ x ≤ (m : Int) - 1) (a b : Nat) (ha : a < m) (hb : b < m) (r : Bool)
    (h : Ev (fun k => spec_TableOk.l2 k (m : Int) (a : Int) ((b + 1 : Nat) : Int) (m : Int) p) r) : ∀ (d c : Nat), c + d = m → Ev (fun k => spec_TableOk.l3 k (m : Int) (a : Int) (b : Int) (c : Int) (m : Int) p) (allFrom (fun c => assocB m p a b c) c d && r) := by
  intro d
  induction d with
  | zero =>
    intro c hc
    rw [allFrom, Bool.true_and]
    exact Ev.step (f := fun k => spec_TableOk.l2 k (m : Int) (a : Int) ((b + 1 : Nat) : Int) (m : Int) p) (fun k => by simp only [spec_TableOk.l3]; rw [if_neg (by omega), wsucc (n := m) (by omega) (by omega)]) h
  | succ d ih =>
    intro c hc
    have hn : (1 : Int) ≤ m ∧ (m : Int) ≤ 40 := by omega
    have Ir1 := T_idx (a := (a : Int)) (b := (b : Int)) hn hl (by omega) (by omega)
    have t1 := T_range (a := (a : Int)) (b := (b : Int)) hn hl hp (by omega) (by omega)
    have Ir2 := T_idx (b := (c : Int)) hn hl t1 (by omega)
    have Ir3 := T_idx (a := (b : Int)) (b := (c : Int)) hn hl (by omega) (by omega)
    have t3 := T_range (a := (b : Int)) (b := (c : Int)) hn hl hp (by omega) (by omega)
    have Ir4 := T_idx (a := (a : Int)) hn hl (by omega) t3
    rw [allFrom]
    cases hA : assocB m p a b c with
    | false =>
      rw [Bool.false_and, Bool.false_and]
      have hne : ¬ T m p (T m p a b) c = T m p a (T m p b c) := by simpa [assocB] using hA
      refine Ev.step (f := fun _ => some false) (fun k => ?_) (Ev.now _)
      simp only [spec_TableOk.l3, Ir1.r, Ir2.r, Ir3.r, Ir4.r]
      rw [if_pos (by omega), if_pos Ir1.g, if_pos Ir1.g', if_pos Ir2.g, if_pos Ir2.g', if_pos Ir3.g, if_pos Ir3.g', if_pos Ir4.g, if_pos Ir4.g', if_neg hne]
    | true =>
      rw [Bool.true_and]
      have heq : T m p (T m p a b) c = T m p a (T m p b c) := by simpa [assocB] using hA
      refine Ev.step (f := fun k => spec_TableOk.l3 k (m : Int) (a : Int) (b : Int) ((c + 1 : Nat) : Int) (m : Int) p) (fun k => ?_) (ih (c + 1) (by omega))
      simp only [spec_TableOk.l3, Ir1.r, Ir2.r, Ir3.r, Ir4.r]
      rw [if_pos (by omega), if_pos Ir1.g, if_pos Ir1.g', if_pos Ir2.g, if_pos Ir2.g', if_pos Ir3.g, if_pos Ir3.g', if_pos Ir4.g, if_pos Ir4.g', if_pos heq, wsucc (n := m) (by omega) (by omega)]
theorem spec_TableOk_l2 (hm : 1 ≤ m ∧ m ≤ 40) (hl : (p.length : Int) = (m : Int) * m) (hp : ∀ x ∈ p, 0 ≤ x ∧ x ≤ (m : Int) - 1) (a : Nat) (ha : a < m) (r : Bool)
    (h : Ev (fun k => spec_TableOk.l1 k (m : Int) ((a + 1 : Nat) : Int) (m : Int) p) r) : ∀ (d b : Nat), b + d = m → Ev (fun k => spec_TableOk.l2 k (m : Int) (a : Int) (b : Int) (m : Int) p) (allFrom (fun b => allFrom (fun c => assocB m p a b c) 0 m) b d && r) := by
  intro d
  induction d with
  | zero =>
    intro b hb
    rw [allFrom, Bool.true_and]
    exact Ev.step (f := fun k => spec_TableOk.l1 k (m : Int) ((a + 1 : Nat) : Int) (m : Int) p) (fun k => by simp only [spec_TableOk.l2]; rw [if_neg (by omega), wsucc (n := m) (by omega) (by omega)]) h
  | succ d ih =>
    intro b hb
    rw [allFrom, Bool.and_assoc]
    refine Ev.step (f := fun k => spec_TableOk.l3 k (m : Int) (a : Int) (b : Int) 0 (m : Int) p) (fun k => by simp only [spec_TableOk.l2]; rw [if_pos (by omega)]) ?_
    exact spec_TableOk_l3 hm hl hp a b ha (by omega) _ (ih (b + 1) (by omega)) m 0 (by omega)
theorem spec_TableOk_l1 (hm : 1 ≤ m ∧ m ≤ 40) (hl : (p.length : Int) = (m : Int) * m) (hp : ∀ x ∈ p, 0 ≤ x ∧ x ≤ (m : Int) - 1) : ∀ (d a : Nat), a + d = m → Ev (fun k => spec_TableOk.l1 k (m : Int) (a : Int) (m : Int) p) (allFrom (fun a => unitB m p a && allFrom (fun b => allFrom (fun c => assocB m p a b c) 0 m) 0 m) a d) := by
  intro d
  induction d with
  | zero =>
    intro a ha
    rw [allFrom]
    exact Ev.step (f := fun k => some true) (fun k => by simp only [spec_TableOk.l1]; rw [if_neg (by omega)]) (Ev.now _)
  | succ d ih =>
    intro a ha
    have hn : (1 : Int) ≤ m ∧ (m : Int) ≤ 40 := by omega
    have I1 := T_idx (a := 0) (b := (a : Int)) hn hl (by omega) (by omega)
    have I2 := T_idx (a := (a : Int)) (b := 0) hn hl (by omega) (by omega)
    have e1 : wrap64 (wrap64 (0 * (m : Int)) + (a : Int)) = (a : Int) := by rw [I1.e2]; omega
    have e2 : wrap64 (wrap64 ((a : Int) * (m : Int)) + 0) = wrap64 ((a : Int) * m) := by rw [I2.e2, I2.e1]; omega
    have r1 := I1.r
    have g1 := Aside0.mk I1.g
    have g1' := Aside0.mk I1.g'
    have r2 := I2.r
    have g2 := Aside0.mk I2.g
    have g2' := Aside0.mk I2.g'
    rw [e1] at r1 g1 g1'
    rw [e2] at r2 g2 g2'
    clear e1 e2
    rw [allFrom, Bool.and_assoc]
    have hstep : Ev (fun k => spec_TableOk.j3 k (m : Int) (a : Int) (!(unitB m p a)) (m : Int) p) (unitB m p a && (allFrom (fun b => allFrom (fun c => assocB m p a b c) 0 m) 0 m && allFrom (fun a => unitB m p a && allFrom (fun b => allFrom (fun c => assocB m p a b c) 0 m) 0 m) (a + 1) d)) := by
      cases unitB m p a with
      | false => exact Ev.step (f := fun _ => some false) (fun k => by simp [spec_TableOk.j3]) (Ev.now _)
      | true =>
        rw [Bool.true_and]
        exact Ev.step (f := fun k => spec_TableOk.l2 k (m : Int) (a : Int) 0 (m : Int) p) (fun k => by simp [spec_TableOk.j3]) (spec_TableOk_l2 hm hl hp a (by omega) _ (ih (a + 1) (by omega)) m 0 (by omega))
    refine Ev.step (fun k => ?_) hstep
    simp only [spec_TableOk.l1, r1, r2]
    rw [if_pos (by omega), if_pos g1.out, if_pos g1'.out]
    by_cases h1 : T m p 0 a = (a : Int)
    · rw [if_pos h1, if_pos g2.out, if_pos g2'.out]
      congr 1
      simp [unitB, h1, bne, int_beq]
    · rw [if_neg h1]
      congr 1
      simp [unitB, h1]
theorem spec_TableOk_l0 (hm : 1 ≤ m ∧ m ≤ 40) (hl : (p.length : Int) = (m : Int) * m) (r : Bool) (h : (∀ x ∈ p, 0 ≤ x ∧ x ≤ (m : Int) - 1) → Ev (fun k => spec_TableOk.l1 k (m : Int) 0 (m : Int) p) r) :
    ∀ (d i : Nat), i + d = p.length → (∀ j, j < i → ∀ x, p[j]? = some x → 0 ≤ x ∧ x ≤ (m : Int) - 1) → Ev (fun k => spec_TableOk.l0 k (m : Int) p (p.length : Int) (i : Int) (m : Int) p) (((p.drop i).all fun x => decide (0 ≤ x) && decide (x ≤ (m : Int) - 1)) && r) := by
  have hlen : p.length ≤ 1600 := by
    have : (m : Int) * m ≤ 40 * 40 := Int.mul_le_mul (by omega) (by omega) (by omega) (by omega)
    omega
  intro d
  induction d with
  | zero =>
    intro i hi hb
    rw [List.drop_of_length_le (by omega), List.all_nil, Bool.true_and]
    refine Ev.step (f := fun k => spec_TableOk.l1 k (m : Int) 0 (m : Int) p) (fun k => by simp only [spec_TableOk.l0]; rw [if_neg (by omega)]) (h ?_)
    intro x hx
    obtain ⟨j, hj⟩ := List.getElem?_of_mem hx
    exact hb j (by have := (List.getElem?_eq_some_iff.1 hj).1; omega) x hj
  | succ d ih =>
    intro i hi hb
    rw [drop_ints p i (by omega), List.all_cons]
    have e : spec_l01In.f (rd p i) 0 (wrap64 ((m : Int) - 1)) = some (decide (0 ≤ rd p i) && decide (rd p i ≤ (m : Int) - 1)) := by
      rw [spec_l01In_eq, w64 (by omega) (by omega)]
    cases hq : (decide (0 ≤ rd p i) && decide (rd p i ≤ (m : Int) - 1)) with
    | false =>
      rw [hq] at e
      rw [Bool.false_and, Bool.false_and]
      exact Ev.step (f := fun _ => some false) (fun k => by simp only [spec_TableOk.l0]; rw [if_pos (by omega), if_pos (by omega), if_pos (by omega), e]; simp) (Ev.now _)
    | true =>
      rw [hq] at e
      rw [Bool.true_and]
      refine Ev.step (f := fun k => spec_TableOk.l0 k (m : Int) p (p.length : Int) ((i + 1 : Nat) : Int) (m : Int) p) (fun k => by simp only [spec_TableOk.l0]; rw [if_pos (by omega), if_pos (by omega), if_pos (by omega), e, wsucc (n := p.length) (by omega) (by omega)]; simp) (ih (i + 1) (by omega) ?_)
      intro j hj x hx
      by_cases e2 : j = i
      · subst e2
        have hx2 : rd p j = x := by rw [rd_nat p j (by omega)]; rw [List.getElem?_eq_getElem (by omega)] at hx; injection hx
        rw [hx2] at hq
        simpa using hq
      · exact hb j (by omega) x hx
end
theorem spec_TableOk_ev (n : Int) (p : List Int) (hp : p.length ≤ 1048576) : Ev (fun k => spec_TableOk.f k n p) (tableOk n p) := by
  unfold spec_TableOk.f tableOk
  simp only [spec_l01In_eq, bsome]
  by_cases h1 : 1 ≤ n ∧ n ≤ 40
  · rw [dec_and_true h1]
    obtain ⟨m, rfl⟩ : ∃ m : Nat, n = m := ⟨n.toNat, by omega⟩
    have hb := mul_bounds h1 (a := (m : Int) - 1) (b := 0) (by omega) (by omega)
    have hb2 : ((m : Int) - 1) * m = (m : Int) * m - m := by rw [Int.sub_mul, Int.one_mul]
    rw [w64 (x := (m : Int) * m) (by omega) (by omega), Int.toNat_natCast]
    simp only [if_true, Bool.true_and]
    by_cases h2 : (p.length : Int) = (m : Int) * m
    · have e4 : ((p.length : Int) != (m : Int) * m) = false := by simp [h2]
      rw [e4, decide_eq_true h2, Bool.true_and]
      refine Ev.step (f := fun k => spec_TableOk.l0 k (m : Int) p (p.length : Int) 0 (m : Int) p) (fun k => by simp [spec_TableOk.j0]) ?_
      exact spec_TableOk_l0 (by omega) h2 _ (fun hp => spec_TableOk_l1 (by omega) h2 hp m 0 (by omega)) p.length 0 (by omega) (by omega)
    · have e4 : ((p.length : Int) != (m : Int) * m) = true := by simp [h2]
      rw [e4, decide_eq_false h2, Bool.false_and]
      exact Ev.step (f := fun k => some false) (fun k => by simp [spec_TableOk.j0]) (Ev.now _)
  · rw [dec_and_false h1, Bool.false_and]
    simp only [if_neg (show ¬ (false = true) by decide)]
    exact Ev.step (f := fun k => some false) (fun k => by simp [spec_TableOk.j0]) (Ev.now _)

/-! ### images in a table -/
def imagesOk (n : Int) (p l : List Int) : Bool := tableOk n p && ((decide (1 ≤ (l.length : Int)) && decide ((l.length : Int) ≤ 4)) && l.all fun x => decide (0 ≤ x) && decide (x ≤ n - 1))
theorem imagesOk_true {n : Int} {p l : List Int} (h : imagesOk n p l = true) : tableOk n p = true ∧ (1 ≤ l.length ∧ l.length ≤ 4) ∧ ∀ x ∈ l, 0 ≤ x ∧ x ≤ n - 1 := by
  simp only [imagesOk, Bool.and_eq_true, decide_eq_true_eq, List.all_eq_true] at h
  exact ⟨h.1, ⟨by omega, by omega⟩, h.2.2⟩
theorem spec_ImagesOk_l0 {n : Int} (hn : 1 ≤ n ∧ n ≤ 40) (p l : List Int) (hl : l.length ≤ 4) : ∀ (d i : Nat), i + d = l.length → Ev (fun k => spec_ImagesOk.l0 k l (l.length : Int) (i : Int) n p) ((l.drop i).all fun x => decide (0 ≤ x) && decide (x ≤ n - 1)) := by
  intro d
  induction d with
  | zero =>
    intro i hi
    rw [List.drop_of_length_le (by omega), List.all_nil]
    exact Ev.step (f := fun _ => some true) (fun k => by simp only [spec_ImagesOk.l0]; rw [if_neg (by omega)]) (Ev.now _)
  | succ d ih =>
    intro i hi
    rw [drop_ints l i (by omega), List.all_cons]
    have e : spec_l01In.f (rd l i) 0 (wrap64 (n - 1)) = some (decide (0 ≤ rd l i) && decide (rd l i ≤ n - 1)) := by
      rw [spec_l01In_eq, w64 (by omega) (by omega)]
    cases hq : (decide (0 ≤ rd l i) && decide (rd l i ≤ n - 1)) with
    | false =>
      rw [hq] at e
      rw [Bool.false_and]
      exact Ev.step (f := fun _ => some false) (fun k => by simp only [spec_ImagesOk.l0]; rw [if_pos (by omega), if_pos (by omega), if_pos (by omega), e]; simp) (Ev.now _)
    | true =>
      rw [hq] at e
      rw [Bool.true_and]
      exact Ev.step (fun k => by simp only [spec_ImagesOk.l0]; rw [if_pos (by omega), if_pos (by omega), if_pos (by omega), e, wsucc (n := l.length) (by omega) (by omega)]; simp) (ih (i + 1) (by omega))
theorem spec_ImagesOk_ev (n : Int) (p l : List Int) (hp : p.length ≤ 1048576) : Ev (fun k => spec_ImagesOk.f k n p l) (imagesOk n p l) := by
  unfold spec_ImagesOk.f imagesOk
  have s := spec_TableOk_ev n p hp
  have bad : Ev (fun k => spec_ImagesOk.j0 k l true n p) false := Ev.step (f := fun _ => some false) (fun k => by simp [spec_ImagesOk.j0]) (Ev.now _)
  cases ht : tableOk n p with
  | false => rw [ht] at s; exact Ev.bind s (ev_neg (by decide) bad)
  | true =>
    rw [ht] at s
    obtain ⟨hn, _, _⟩ := tableOk_true ht
    refine Ev.bind s (ev_pos rfl ?_)
    simp only [spec_l01In_eq, bsome]
    cases hc : (decide (1 ≤ (l.length : Int)) && decide ((l.length : Int) ≤ 4)) with
    | false => exact bad
    | true =>
      simp only [Bool.and_eq_true, decide_eq_true_eq] at hc
      exact Ev.step (f := fun k => spec_ImagesOk.l0 k l (l.length : Int) 0 n p) (fun k => by simp [spec_ImagesOk.j0]) (spec_ImagesOk_l0 hn p l (by omega) l.length 0 (by omega))
theorem impl_ImagesOk_ev (n : Int) (p l : List Int) (hp : p.length ≤ 1048576) : Ev (fun k => impl_ImagesOk.f k n p l) (imagesOk n p l) := by
  unfold impl_ImagesOk.f imagesOk
  have s := impl_TableOk_ev n p hp
  cases ht : tableOk n p with
  | false => rw [ht] at s; exact Ev.bind s (ev_neg (by decide) (Ev.now _))
  | true =>
    rw [ht] at s
    obtain ⟨hn, _, _⟩ := tableOk_true ht
    refine Ev.bind s (ev_pos rfl ?_)
    simp only [impl_within_eq, allWithin_eq, bsome]
    rw [w64 (x := n - 1) (by omega) (by omega)]
    cases hc : (decide (1 ≤ (l.length : Int)) && decide ((l.length : Int) ≤ 4)) with
    | false => exact ev_neg (by decide) (Ev.now _)
    | true => exact ev_pos rfl (Ev.now _)

def farR (n : Int) (p l : List Int) : List Int := if imagesOk n p l = true then farS (bfsW n.toNat p l) else []
theorem farR_len (n : Int) (p l : List Int) : (farR n p l).length ≤ 40 := by
  unfold farR
  split
  · rename_i h
    obtain ⟨ht, hll, hlr⟩ := imagesOk_true h
    obtain ⟨hn, hpl, hpr⟩ := tableOk_true ht
    obtain ⟨m, rfl⟩ : ∃ m : Nat, n = m := ⟨n.toNat, by omega⟩
    have h3 := bfsW_len (m := m) (p := p) (l := l) (by omega) hpl hpr (by omega) hlr
    rw [farS_len, Int.toNat_natCast]
    omega
  · simp
theorem spec_DistancesIn_ev (n : Int) (p l : List Int) (hp : p.length ≤ 1048576) : Ev (fun k => spec_DistancesIn.f k n p l) (farR n p l) := by
  unfold spec_DistancesIn.f farR
  have sp := spec_ImagesOk_ev n p l hp
  cases h : imagesOk n p l with
  | false =>
    rw [h] at sp
    exact Ev.bind sp (ev_neg (by decide) (Ev.now _))
  | true =>
    rw [h] at sp
    obtain ⟨ht, hll, hlr⟩ := imagesOk_true h
    obtain ⟨hn, hpl, hpr⟩ := tableOk_true ht
    obtain ⟨m, rfl⟩ : ∃ m : Nat, n = m := ⟨n.toNat, by omega⟩
    have h1 := far_ev (m := m) (p := p) (l := l) (by omega) hpl hpr (by omega) hlr
    rw [if_pos rfl, Int.toNat_natCast]
    exact Ev.bind sp (ev_pos rfl (Ev.bind h1 (Ev.now _)))

theorem eqIntS_l0 (x : List Int) (hx : x.length ≤ 35184372088832) : ∀ (d i : Nat), i + d = x.length → Ev (fun k => laws_eqIntS.l0 k x x (i : Int)) true := by
  intro d
  induction d with
  | zero =>
    intro i hi
    exact Ev.step (f := fun _ => some true) (fun n => by simp only [laws_eqIntS.l0]; rw [if_neg (by omega)]) (Ev.now _)
  | succ d ih =>
    intro i hi
    refine Ev.step (f := fun k => laws_eqIntS.l0 k x x ((i + 1 : Nat) : Int)) (fun n => ?_) (ih (i + 1) (by omega))
    simp only [laws_eqIntS.l0]
    rw [if_pos (by omega), if_pos (by omega), if_pos (by omega), if_pos (by first | rfl | trivial), wsucc (n := x.length) (by omega) (by omega)]
theorem eqIntS_ev (x : List Int) (hx : x.length ≤ 35184372088832) : Ev (fun k => laws_eqIntS.f k x x) true := by
  unfold laws_eqIntS.f
  refine ev_pos rfl ?_
  exact eqIntS_l0 x hx x.length 0 (by omega)

theorem markIntS_l0 : ∀ (d i : Nat) (y : List Int) (a : Int), i + d = y.length → y.length ≤ 1048576 → 0 ≤ a ∧ a ≤ 4194304 - d → ∃ z : List Int, z.length = y.length ∧ (∀ j, j < i → z[j]? = y[j]?) ∧ (∀ j, i ≤ j → j < z.length → z[j]? = some (a + ((j : Int) - i))) ∧ Ev (fun k => laws_markIntS.l0 k y a (i : Int)) (a + d, z) := by
  intro d
  induction d with
  | zero =>
    intro i y a hi hl ha
    refine ⟨y, rfl, fun _ _ => rfl, fun j h1 h2 => by omega, ?_⟩
    refine Ev.step (f := fun _ => some (a + ((0 : Nat) : Int), y)) (fun k => ?_) (Ev.now _)
    simp only [laws_markIntS.l0]
    rw [if_neg (by omega)]
    simp
  | succ d ih =>
    intro i y a hi hl ha
    obtain ⟨z, hz, h1, h2, h3⟩ := ih (i + 1) (y.set i a) (a + 1) (by simp; omega) (by simp; omega) (by omega)
    rw [List.length_set] at hz
    refine ⟨z, hz, fun j hj => ?_, fun j hj hj2 => ?_, ?_⟩
    · rw [h1 j (by omega), List.getElem?_set_ne (by omega)]
    · by_cases e : j = i
      · subst e
        rw [h1 j (by omega), List.getElem?_set_self (by omega)]
        congr 1
        omega
      · rw [h2 j (by omega) hj2]
        congr 1
        omega
    · have e : a + ((d + 1 : Nat) : Int) = a + 1 + (d : Int) := by omega
      rw [e]
      refine Ev.step (fun k => ?_) h3
      simp only [laws_markIntS.l0]
      rw [if_pos (by omega), if_pos (by omega), w64 (x := a + 1) (by omega) (by omega), wsucc (n := y.length) (by omega) (by omega), Int.toNat_natCast]
theorem heldIntS_l0 (z : List Int) (a : Int) (ha : 0 ≤ a ∧ a ≤ 4194304) (hz : z.length ≤ 1048576) (h : ∀ j, j < z.length → z[j]? = some (a + (j : Int))) : ∀ (d i : Nat), i + d = z.length → Ev (fun k => laws_heldIntS.l0 k z (a + (i : Int)) (i : Int)) (a + (z.length : Int)) := by
  intro d
  induction d with
  | zero =>
    intro i hi
    refine Ev.step (f := fun _ => some (a + (z.length : Int))) (fun k => ?_) (Ev.now _)
    simp only [laws_heldIntS.l0]
    rw [if_neg (by omega)]
    congr 2
    omega
  | succ d ih =>
    intro i hi
    have e : rd z (i : Int) = a + i := by
      have h1 := h i (by omega)
      rw [rd_nat z i (by omega)]
      rw [List.getElem?_eq_getElem (by omega)] at h1
      exact Option.some.inj h1
    have e2 : wrap64 (a + (i : Int) + 1) = a + ((i + 1 : Nat) : Int) := by rw [w64 (by omega) (by omega)]; omega
    refine Ev.step (fun k => ?_) (ih (i + 1) (by omega))
    simp only [laws_heldIntS.l0]
    rw [if_pos (by omega), if_pos (by omega), if_pos e, e2, wsucc (n := z.length) (by omega) (by omega)]
theorem markIntS_ev (x : List Int) (hx : x.length ≤ 1048576) (a : Int) (ha : 0 ≤ a ∧ a ≤ 2097152) : ∃ z : List Int, Ev (fun k => laws_markIntS.f k x a) (a + (x.length : Int), z) ∧ Ev (fun k => laws_heldIntS.f k z a) (a + (x.length : Int)) := by
  obtain ⟨z, hz, _, h2, h3⟩ := markIntS_l0 x.length 0 x a (by omega) hx (by omega)
  refine ⟨z, h3, ?_⟩
  unfold laws_heldIntS.f
  have := heldIntS_l0 z a (by omega) (by omega) (fun j hj => by rw [h2 j (by omega) hj]; simp) z.length 0 (by omega)
  rw [hz] at this
  simpa using this

theorem toIntS_l0 (x : List Int) (hx : x.length ≤ 35184372088832) : ∀ (d i : Nat) (y : List Int), i + d = x.length → y.length = x.length → y.take i = x.take i → Ev (fun k => laws_toIntS.l0 k x y (i : Int)) x := by
  intro d
  induction d with
  | zero =>
    intro i y hi hl ht
    have : y = x := by
      rw [List.take_of_length_le (by omega), List.take_of_length_le (by omega)] at ht
      exact ht
    rw [this]
    exact Ev.step (f := fun _ => some x) (fun n => by simp only [laws_toIntS.l0]; rw [if_neg (by omega)]) (Ev.now _)
  | succ d ih =>
    intro i y hi hl ht
    refine Ev.step (f := fun k => laws_toIntS.l0 k x (y.set i (rd x i)) ((i + 1 : Nat) : Int)) (fun n => ?_) (ih (i + 1) _ (by omega) (by simp; omega) (set_take x y i 0 (by omega) hl ht))
    simp only [laws_toIntS.l0]
    rw [if_pos (by omega), if_pos (by omega), if_pos (by omega), wsucc (n := x.length) (by omega) (by omega), Int.toNat_natCast]
theorem toIntS_ev (x : List Int) (hx : x.length ≤ 35184372088832) : Ev (fun k => laws_toIntS.f k x) x := by
  unfold laws_toIntS.f
  refine ev_pos (by omega) (ev_pos (by omega) ?_)
  exact toIntS_l0 x hx x.length 0 _ (by omega) (by simp) (by simp)

theorem szTable_cases (n : Int) (x : List Int) (left : Int) (hl : 0 ≤ left ∧ left ≤ 1048576) (hx : x.length ≤ 9223372036854775807) :
    ∃ r, laws_szTable.f n x left = some r ∧ (r < 0 ∨ (x.length ≤ left ∧ r = left - x.length)) := by
  unfold laws_szTable.f laws_szIntS.f
  rw [w64 (by omega) (by omega)]
  by_cases h1 : left - (x.length : Int) < 0
  · exact ⟨-1, by simp [h1], .inl (by omega)⟩
  · exact ⟨left - (x.length : Int), by simp [h1], .inr ⟨by omega, rfl⟩⟩
theorem toTable_ev (n : Int) (x : List Int) (hx : x.length ≤ 1048576) : Ev (fun k => laws_toTable.f k n x) (n, x) := by
  unfold laws_toTable.f
  exact Ev.bind (toIntS_ev x (by omega)) (Ev.now _)
theorem eqTable_ev (n : Int) (x : List Int) (hx : x.length ≤ 1048576) : Ev (fun k => laws_eqTable.f k n x n x) true := by
  unfold laws_eqTable.f
  exact ev_pos rfl (Ev.bind (eqIntS_ev x (by omega)) (ev_pos rfl (Ev.now _)))

theorem both (n : Int) (p l : List Int) (hp : p.length ≤ 1048576) : ∃ r : List Int, r.length ≤ 40 ∧ Ev (fun k => spec_DistancesIn.f k n p l) r ∧ Ev (fun k => impl_DistancesIn.f k n p l) r := by
  unfold spec_DistancesIn.f impl_DistancesIn.f
  have sp := spec_ImagesOk_ev n p l hp
  have im := impl_ImagesOk_ev n p l hp
  cases h : imagesOk n p l with
  | false =>
    rw [h] at sp im
    exact ⟨[], by simp, Ev.bind sp (ev_neg (by decide) (Ev.now _)), Ev.bind im (ev_neg (by decide) (Ev.now _))⟩
  | true =>
    rw [h] at sp im
    obtain ⟨ht, hll, hlr⟩ := imagesOk_true h
    obtain ⟨hn, hpl, hpr⟩ := tableOk_true ht
    obtain ⟨m, rfl⟩ : ∃ m : Nat, n = m := ⟨n.toNat, by omega⟩
    have h1 := far_ev (m := m) (p := p) (l := l) (by omega) hpl hpr (by omega) hlr
    have h2 := distances_ev (m := m) (p := p) (l := l) (by omega) hpl hpr (by omega) hlr
    have h3 := bfsW_len (m := m) (p := p) (l := l) (by omega) hpl hpr (by omega) hlr
    exact ⟨farS (bfsW m p l), by rw [farS_len]; omega, Ev.bind sp (ev_pos rfl (Ev.bind h1 (Ev.now _))), Ev.bind im (ev_pos rfl (Ev.bind h2 (Ev.now _)))⟩
theorem FnExactDistancesIn : ∀ (a0_0 : Int) (l0_1 : List Int) (l1 : List Int), (Lit.int .i64 a0_0).wf = true → l0_1.length ≤ 9223372036854775807 → (∀ x ∈ l0_1, (fun x : Int => (Lit.int .i64 x).wf = true) x) → l1.length ≤ 9223372036854775807 → (∀ x ∈ l1, (fun x : Int => (Lit.int .i64 x).wf = true) x) → ∃ k, PFnExactDistancesIn.laws_FnExactDistancesIn.f k a0_0 l0_1 l1 = some true := by
  intro n p l _ hpl _ hl _
  have : Ev (fun k => laws_FnExactDistancesIn.f k n p l) true := by
    unfold laws_FnExactDistancesIn.f
    by_cases hbig : (l.length : Int) > 1048576
    · exact ev_pos hbig (Ev.now _)
    refine ev_neg hbig ?_
    obtain ⟨r, h1, h2⟩ := szTable_cases n p 1048576 (by omega) hpl
    rw [h1]
    simp only [bsome]
    by_cases hr : r < 0
    · exact ev_pos hr (Ev.now _)
    · have hp' : p.length ≤ 1048576 := by omega
      have hl' : l.length ≤ 1048576 := by omega
      obtain ⟨q, hq, sp, im⟩ := both n p l hp'
      have tp := toTable_ev n p hp'
      have tl := toIntS_ev l (by omega)
      have eq := eqIntS_ev q (by omega)
      have el := eqIntS_ev l (by omega)
      obtain ⟨z1, m1, _⟩ := markIntS_ev p hp' 1 (by omega)
      obtain ⟨z2, m2, _⟩ := markIntS_ev l hl' (1 + (p.length : Int)) (by omega)
      obtain ⟨z3, m3, m4⟩ := markIntS_ev q (by omega) 1 (by omega)
      refine ev_neg hr (Ev.bind tp (Ev.bind tl (Ev.bind sp (Ev.bind tp (Ev.bind tl (Ev.bind im (Ev.bind eq (ev_pos rfl ?_))))))))
      refine Ev.bind tp (Ev.bind (eqTable_ev n p hp') (ev_pos rfl (Ev.bind tl (Ev.bind el (ev_pos rfl ?_)))))
      refine Ev.bind (a := (1 + (p.length : Int), z1)) ?_ (Ev.bind m2 (ev_neg (by omega) (Ev.bind eq ?_)))
      · unfold laws_markTable.f
        exact Ev.bind m1 (Ev.now _)
      refine Ev.step (fun k => by simp only [laws_FnExactDistancesIn.j0]; rw [if_neg (by decide)]) ?_
      refine Ev.bind m3 (Ev.bind m4 (ev_neg (by omega) (ev_pos rfl ?_)))
      refine Ev.bind tp (Ev.bind tl (Ev.bind im (Ev.bind eq (ev_pos rfl ?_))))
      exact Ev.bind m4 (ev_neg (by omega) (ev_pos rfl (Ev.now _)))
  exact this.rounds

end Go.Proofs.Ytfbekpofebkfhaa.Pure
