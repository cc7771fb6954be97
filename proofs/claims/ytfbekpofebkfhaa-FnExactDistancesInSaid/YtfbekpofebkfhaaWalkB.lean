/- Equations of numbers as the walk spells them; a partial function over a list. -/
import Derived.Test.YtfbekpofebkfhaaBase
namespace Go.Proofs.Ytfbekpofebkfhaa.Base
open Go.RowKit Go.Proofs.YtfbekpofebkfhaaW.PrintWords
theorem w64_u8 (x : Int) : wrap64 (IntKind.u8.wrap x) = x % 256 := by
  have h : IntKind.u8.wrap x = x % 256 := by simp [IntKind.wrap, IntKind.signed, IntKind.bits]
  rw [h]
  unfold wrap64
  omega
/-- What q tells of each element, if it tells something of all. -/
def listO {α β : Type} (q : α → Option β) : List α → Option (List β)
  | [] => some []
  | x :: xs => (q x).bind fun b => (listO q xs).bind fun bs => some (b :: bs)
theorem listO_mono {α β : Type} {q q' : α → Option β} (h : ∀ x, LeO (q x) (q' x)) : ∀ l : List α, LeO (listO q l) (listO q' l)
  | [] => LeO.refl _
  | x :: xs => LeO.bind (h x) fun _ => LeO.bind (listO_mono h xs) fun _ => LeO.refl _
theorem listO_some {α β : Type} {q : α → Option β} (d : β) : ∀ {l : List α} {bs : List β}, listO q l = some bs → bs = l.map (fun x => (q x).getD d) ∧ ∀ x ∈ l, q x = some ((q x).getD d)
  | [], bs, h => by
    simp only [listO, Option.some.injEq] at h
    subst h
    exact ⟨rfl, by simp⟩
  | x :: xs, bs, h => by
    obtain ⟨b, hb, h⟩ := Option.bind_eq_some_iff.mp h
    obtain ⟨cs, hc, h⟩ := Option.bind_eq_some_iff.mp h
    obtain ⟨ih1, ih2⟩ := listO_some d hc
    have hr := Option.some.inj h
    subst hr
    refine ⟨by simp [hb, ← ih1], fun y hy => ?_⟩
    rcases List.mem_cons.1 hy with rfl | hy
    · simp [hb]
    · exact ih2 y hy
theorem listO_all {α β : Type} {q : α → Option β} {f : α → β} : ∀ {l : List α}, (∀ x ∈ l, q x = some (f x)) → listO q l = some (l.map f)
  | [], _ => rfl
  | x :: xs, h => by
    simp only [listO, h x List.mem_cons_self, listO_all (fun y hy => h y (List.mem_cons_of_mem _ hy)), Option.bind_some, List.map_cons]
end Go.Proofs.Ytfbekpofebkfhaa.Base
