/- An argument that reads as data, opened into the print's kinds: a slice is a row of whatever its elements read as. -/
import Derived.Test.YtfbekpofebkfhaaBase
import Derived.Deep.Slices
import Derived.Lib.SmallJoins
namespace Go.Proofs.Ytfbekpofebkfhaa.Opens
open Go.RowKit Go.Proofs.YtfbekpofebkfhaaW.PrintWords Go.Deep

theorem list1 {α : Type} {cs : List α} (h : cs.length = 1) : ∃ a, cs = [a] := by
  match cs, h with
  | [a], _ => exact ⟨a, rfl⟩
theorem list2 {α : Type} {cs : List α} (h : cs.length = 2) : ∃ a b, cs = [a, b] := by
  match cs, h with
  | [a, b], _ => exact ⟨a, b, rfl⟩
theorem list3 {α : Type} {cs : List α} (h : cs.length = 3) : ∃ a b c, cs = [a, b, c] := by
  match cs, h with
  | [a, b, c], _ => exact ⟨a, b, c, rfl⟩

section
variable {H : Type} {enc : TypeId × Value → H} {P : Program} {w : World} {base : Nat} {spare : Nat → Bool} {held : Bool}

theorem open_C {α : Type} (d : Kd α) (Q : α → Prop) {t e : TypeId} {fuel : Nat} {v : Value} {x : DataW H × List MemPlace}
    (ht : P.underlying t = some (.slice e)) (hc : P.cellsOf e = d.sz)
    (hel : ∀ n cs y, DataW.trod enc P w base spare held n e cs = some y → ∃ a, d.K w a cs ∧ Q a)
    (h : DataW.trod enc P w base spare held fuel t [v] = some x) :
    ∃ (A : Option Addr) (cap : Nat) (xs : List α), v = .slice A xs.length cap ∧ xs.length ≤ cap ∧ xs.length ≤ 9223372036854775807 ∧ d.C w A xs.length xs ∧ ∀ x ∈ xs, Q x := by
  rcases open_slice ht h with ⟨hcs, _⟩ | ⟨a, len, cap, m, n, D, Pl, hcs, _, hl, hm, hmm, _, hx⟩
  · exact ⟨none, 0, [], by simpa using hcs, by simp, by simp, Kd.C_nil d w, by simp⟩
  · have hle : len ≤ m := by rw [hmm]; split <;> omega
    have key : ∀ i : Fin len, ∃ x : α, Q x ∧ ∃ cs : List Value, cs.length = d.sz ∧ d.K w x cs ∧ ∀ j u, cs[j]? = some u → w.cell? (a.add (i.1 * d.sz + j)) = some u := by
      intro i
      obtain ⟨cs, h1, h2⟩ := hx i.1 (by have := i.2; omega)
      obtain ⟨_, hlen, hcell⟩ := World.cells?_some h1
      obtain ⟨x, hk, hq⟩ := hel n cs _ h2
      refine ⟨x, hq, cs, by rw [hlen, hc], hk, fun j u hj => ?_⟩
      have hj' : j < cs.length := (List.getElem?_eq_some_iff.1 hj).1
      have := hcell j (by omega)
      rw [hj, Addr.add_add, hc] at this
      exact this
    obtain ⟨f, hf⟩ := Classical.axiomOfChoice key
    have hlf : (List.ofFn f).length = len := by simp
    refine ⟨some a, cap, List.ofFn f, by rw [hlf]; simpa using hcs, by rw [hlf]; exact hl, by rw [hlf]; simp only [maxLen] at hm; omega, ?_, ?_⟩
    · rw [hlf]
      refine ⟨hlf, by simp only [maxLen] at hm; omega, fun _ => ⟨a, rfl, fun j p hp => ?_⟩⟩
      have hj : j < len := by have := (List.getElem?_eq_some_iff.1 hp).1; omega
      have hp' : f ⟨j, hj⟩ = p := by
        rw [List.getElem?_eq_getElem (by omega)] at hp
        simpa using hp
      obtain ⟨_, cs, h1, h2, h3⟩ := hf ⟨j, hj⟩
      rw [hp'] at h2
      exact ⟨cs, h1, h2, h3⟩
    · intro x hx
      obtain ⟨i, rfl⟩ := (List.mem_ofFn ..).1 hx
      exact (hf i).1

theorem el_int {e : TypeId} {k : IntKind} (he : P.underlying e = some (.int k)) : ∀ n cs y, DataW.trod enc P w base spare held n e cs = some y → ∃ a, (Kd.int k).K w a cs ∧ (Lit.int k a).wf = true := by
  intro n cs y h
  obtain ⟨m, rfl, _, hw⟩ := DataW.trod_int he h
  exact ⟨m, rfl, hw⟩
theorem el_bool {e : TypeId} (he : P.underlying e = some .bool) : ∀ n cs y, DataW.trod enc P w base spare held n e cs = some y → ∃ a, Kd.bool.K w a cs ∧ True := by
  intro n cs y h
  obtain ⟨m, rfl, _⟩ := DataW.trod_bool he h
  exact ⟨m, rfl, trivial⟩
theorem el_str {e : TypeId} (he : P.underlying e = some .string) : ∀ n cs y, DataW.trod enc P w base spare held n e cs = some y → ∃ a, Kd.string.K w a cs ∧ a.size ≤ 9223372036854775807 := by
  intro n cs y h
  obtain ⟨m, rfl, _, hw⟩ := DataW.trod_string he h
  exact ⟨m, rfl, by simpa [maxLen] using hw⟩
end
end Go.Proofs.Ytfbekpofebkfhaa.Opens
