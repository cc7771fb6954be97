-- Written by this session's program oprint.py over the print of the kit: what the print does not take are texts of this session.
import Derived.Test.YtajacklnhfjmpaaPFnExactRankOfx0
namespace Go.Proofs.Ytajacklnhfjmpaa.PFnExactRankOf
open Go.RowKit Go.Proofs.YtajacklnhfjmpaaW.PrintWords Go.Proofs.YtajacklnhfjmpaaW.PrintLast Go.Proofs.YtajacklnhfjmpaaW.PrintMore
attribute [local go_sem] max2_int min2_int max_two min_two max_three min_three max_four min_four   -- for this text's walks alone
set_option linter.unusedVariables false
set_option linter.unusedSimpArgs false

/-! ### impl_meetingArcs: function 91 -/
mutual
def impl_meetingArcs.l0 : Nat → List (S76) → List (S76) → Int → Int → Option (Int × Int × Bool)
 | 0, _, _, _, _ => none
 | k + 1, x0, x9, x10, x11 => if x11 < x10 then (if 0 ≤ x11 then (if x11 < (x9.length : Int) then (if x11 ≤ (x0.length : Int) then ((some (x0.take (x11 : Int).toNat : List (S76))).bind fun y164 => (impl_meetingArcs.l1 k x0 x9 x10 x11 y164 (y164.length : Int) 0 ((rd_T76 x9 x11).f0) ((rd_T76 x9 x11).f1) ((rd_T76 x9 x11).f2))) else (none)) else (none)) else (none)) else (some (0, 0, false))
def impl_meetingArcs.l1 : Nat → List (S76) → List (S76) → Int → Int → List (S76) → Int → Int → Int → Int → Int → Option (Int × Int × Bool)
 | 0, _, _, _, _, _, _, _, _, _, _ => none
 | k + 1, x0, x9, x10, x11, x18, x19, x20, x164000, x164001, x164002 => if x20 < x19 then (if 0 ≤ x20 then (if x20 < (x18.length : Int) then (if x164002 = ((rd_T76 x18 x20).f2) then (if x164000 = ((rd_T76 x18 x20).f0) then (impl_meetingArcs.j2 k x0 x9 x10 x11 x18 x19 x20 (x164001 != ((rd_T76 x18 x20).f1)) x164000 x164001 x164002 ((rd_T76 x18 x20).f0) ((rd_T76 x18 x20).f1) ((rd_T76 x18 x20).f2)) else (impl_meetingArcs.j2 k x0 x9 x10 x11 x18 x19 x20 false x164000 x164001 x164002 ((rd_T76 x18 x20).f0) ((rd_T76 x18 x20).f1) ((rd_T76 x18 x20).f2))) else (impl_meetingArcs.l1 k x0 x9 x10 x11 x18 x19 (wrap64 (x20 + 1)) x164000 x164001 x164002)) else (none)) else (none)) else (impl_meetingArcs.l0 k x0 x9 x10 (wrap64 (x11 + 1)))
def impl_meetingArcs.j2 : Nat → List (S76) → List (S76) → Int → Int → List (S76) → Int → Int → Bool → Int → Int → Int → Int → Int → Int → Option (Int × Int × Bool)
 | 0, _, _, _, _, _, _, _, _, _, _, _, _, _, _ => none
 | k + 1, x0, x9, x10, x11, x18, x19, x20, x30, x164000, x164001, x164002, x170000, x170001, x170002 => if x30 = true then (some (x164001, x170001, true)) else (if x164001 = x170001 then (if x164000 = x170000 then (impl_meetingArcs.l1 k x0 x9 x10 x11 x18 x19 (wrap64 (x20 + 1)) x164000 x164001 x164002) else (some (x164000, x170000, true))) else (impl_meetingArcs.l1 k x0 x9 x10 x11 x18 x19 (wrap64 (x20 + 1)) x164000 x164001 x164002))
end
def impl_meetingArcs.f (k : Nat) (l0 : List (S76)) : Option (Int × Int × Bool) := impl_meetingArcs.l0 k l0 l0 (l0.length : Int) 0
theorem impl_meetingArcs.mono_l : ∀ k, (∀ y0 y1 y2 y3, LeO (impl_meetingArcs.l0 k y0 y1 y2 y3) (impl_meetingArcs.l0 (k + 1) y0 y1 y2 y3)) ∧ (∀ y0 y1 y2 y3 y4 y5 y6 y7 y8 y9, LeO (impl_meetingArcs.l1 k y0 y1 y2 y3 y4 y5 y6 y7 y8 y9) (impl_meetingArcs.l1 (k + 1) y0 y1 y2 y3 y4 y5 y6 y7 y8 y9)) ∧ (∀ y0 y1 y2 y3 y4 y5 y6 y7 y8 y9 y10 y11 y12 y13, LeO (impl_meetingArcs.j2 k y0 y1 y2 y3 y4 y5 y6 y7 y8 y9 y10 y11 y12 y13) (impl_meetingArcs.j2 (k + 1) y0 y1 y2 y3 y4 y5 y6 y7 y8 y9 y10 y11 y12 y13))
 | 0 => ⟨fun _ _ _ _ r h => by simp [impl_meetingArcs.l0] at h, fun _ _ _ _ _ _ _ _ _ _ r h => by simp [impl_meetingArcs.l1] at h, fun _ _ _ _ _ _ _ _ _ _ _ _ _ _ r h => by simp [impl_meetingArcs.j2] at h⟩
 | k + 1 => by
  obtain ⟨ih0, ih1, ih2⟩ := impl_meetingArcs.mono_l k
  refine ⟨?_, ?_, ?_⟩
  ·intro y0 y1 y2 y3
   unfold impl_meetingArcs.l0
   repeat' first
   | (with_reducible exact ih0 _ _ _ _)
   | (with_reducible exact ih1 _ _ _ _ _ _ _ _ _ _)
   | (with_reducible exact ih2 _ _ _ _ _ _ _ _ _ _ _ _ _ _)
   | (with_reducible exact LeO.refl _)
   | (with_reducible exact LeO.none _)
   | (with_reducible refine LeO.ite ?_ ?_)
   | (with_reducible refine LeO.bind ?_ (fun _ => ?_))
   | exact ih0 _ _ _ _
   | exact ih1 _ _ _ _ _ _ _ _ _ _
   | exact ih2 _ _ _ _ _ _ _ _ _ _ _ _ _ _
   | exact LeO.none _
   | refine LeO.ite ?_ ?_
   | refine LeO.bind ?_ (fun _ => ?_)
  ·intro y0 y1 y2 y3 y4 y5 y6 y7 y8 y9
   unfold impl_meetingArcs.l1
   repeat' first
   | (with_reducible exact ih0 _ _ _ _)
   | (with_reducible exact ih1 _ _ _ _ _ _ _ _ _ _)
   | (with_reducible exact ih2 _ _ _ _ _ _ _ _ _ _ _ _ _ _)
   | (with_reducible exact LeO.refl _)
   | (with_reducible exact LeO.none _)
   | (with_reducible refine LeO.ite ?_ ?_)
   | (with_reducible refine LeO.bind ?_ (fun _ => ?_))
   | exact ih0 _ _ _ _
   | exact ih1 _ _ _ _ _ _ _ _ _ _
   | exact ih2 _ _ _ _ _ _ _ _ _ _ _ _ _ _
   | exact LeO.none _
   | refine LeO.ite ?_ ?_
   | refine LeO.bind ?_ (fun _ => ?_)
  ·intro y0 y1 y2 y3 y4 y5 y6 y7 y8 y9 y10 y11 y12 y13
   unfold impl_meetingArcs.j2
   repeat' first
   | (with_reducible exact ih0 _ _ _ _)
   | (with_reducible exact ih1 _ _ _ _ _ _ _ _ _ _)
   | (with_reducible exact ih2 _ _ _ _ _ _ _ _ _ _ _ _ _ _)
   | (with_reducible exact LeO.refl _)
   | (with_reducible exact LeO.none _)
   | (with_reducible refine LeO.ite ?_ ?_)
   | (with_reducible refine LeO.bind ?_ (fun _ => ?_))
   | exact ih0 _ _ _ _
   | exact ih1 _ _ _ _ _ _ _ _ _ _
   | exact ih2 _ _ _ _ _ _ _ _ _ _ _ _ _ _
   | exact LeO.none _
   | refine LeO.ite ?_ ?_
   | refine LeO.bind ?_ (fun _ => ?_)
theorem impl_meetingArcs.mono : ∀ a0 k, LeO (impl_meetingArcs.f k a0) (impl_meetingArcs.f (k + 1) a0) := by
 intro a0 k
 obtain ⟨ih0, ih1, ih2⟩ := impl_meetingArcs.mono_l k
 unfold impl_meetingArcs.f
 repeat' first
   | (with_reducible exact ih0 _ _ _ _)
   | (with_reducible exact ih1 _ _ _ _ _ _ _ _ _ _)
   | (with_reducible exact ih2 _ _ _ _ _ _ _ _ _ _ _ _ _ _)
   | (with_reducible exact LeO.refl _)
   | (with_reducible exact LeO.none _)
   | (with_reducible refine LeO.ite ?_ ?_)
   | (with_reducible refine LeO.bind ?_ (fun _ => ?_))
   | exact ih0 _ _ _ _
   | exact ih1 _ _ _ _ _ _ _ _ _ _
   | exact ih2 _ _ _ _ _ _ _ _ _ _ _ _ _ _
   | exact LeO.none _
   | refine LeO.ite ?_ ?_
   | refine LeO.bind ?_ (fun _ => ?_)
set_option maxHeartbeats 8000000 in
set_option maxRecDepth 100000 in
theorem impl_meetingArcs.calls (k : Nat) (A0 : Option Addr) (c0 : Nat) (l0 : List (S76)) (r1 : Int) (r2 : Int) (r3 : Bool) (w : World) (hr0 : Kd.C k76 w A0 l0.length l0) (hc0 : l0.length ≤ c0) (h : impl_meetingArcs.f k l0 = some (r1, r2, r3)) :
  Calls Try.prog 91 #[.slice A0 l0.length c0] w fun e w' => e = .returned (.tuple #[.int .i64 r1, .int .i64 r2, .bool r3]) ∧ Below w.heap.size w w' := by
 have hu76 := Try.underlying76
 have HR0 := Aside0.mk hr0
 have HC0 := Aside0.mk hc0
 clear hr0 hc0
 have HB := Aside0.mk (Below.refl w.heap.size w)
 have H : (impl_meetingArcs.l0 k l0 l0 (l0.length : Int) 0) = some (r1, r2, r3) := h
 clear h
 have H' := Aside0.mk H
 clear H
 go_enter Try.func91, Try.ntmps91
 go_wp2
 repeat (go_quiet (fail); try go_wp2)
 go_loopg [11] k (fun kq v11 w' => ∃ (x11_1 : Int), v11 = .int .i64 x11_1 ∧ Aside0 (impl_meetingArcs.l0 kq l0 l0 (l0.length : Int) x11_1 = some (r1, r2, r3)) ∧ Aside0 (kq ≤ k) ∧ Aside0 (Below w.heap.size w w'))
 case atStart => exact ⟨(0), (by first | rfl | (simp; done) | (simp [*]; done)), H', ⟨Nat.le_refl _⟩, ⟨by repeat (first | (with_reducible first | exact HB.out | apply below_alloc | apply pw_below_drewN | apply below_drew1) | exact HB.out)⟩⟩
 case round =>
  clear H'
  obtain ⟨x11_1, rfl, HA, HK1, HB⟩ := hrel
  cases gk with
  | zero => exact absurd HA.out (by simp [impl_meetingArcs.l0])
  | succ k1 =>
   have H := HA.out
   clear HA
   simp only [impl_meetingArcs.l0] at H
   by_cases c2 : x11_1 < (l0.length : Int)
   ·rw [if_pos c2] at H
    have c2b0 : decide (x11_1 < (l0.length : Int)) = true := decide_eq_true c2
    clear c2
    by_cases c3 : 0 ≤ x11_1
    ·rw [if_pos c3] at H
     have c3b0 : decide (0 ≤ x11_1) = true := decide_eq_true c3
     clear c3
     by_cases c4 : x11_1 < (l0.length : Int)
     ·rw [if_pos c4] at H
      have c4b0 : decide (x11_1 < (l0.length : Int)) = true := decide_eq_true c4
      clear c4
      have c5b0 := eq_true (of_decide_eq_true (by first | (with_reducible assumption) | assumption) : 0 ≤ x11_1)
      by_cases c6 : x11_1 ≤ (l0.length : Int)
      ·rw [if_pos c6] at H
       have c6b0 := eq_true c6
       have c6b1 : decide (x11_1 ≤ (l0.length : Int)) = true := decide_eq_true c6
       clear c6
       obtain ⟨y164, hy164⟩ : ∃ y_ : List (S76), y_ = (l0.take (x11_1 : Int).toNat) := ⟨_, rfl⟩
       replace H : (impl_meetingArcs.l1 k1 l0 l0 (l0.length : Int) x11_1 y164 (y164.length : Int) 0 ((rd_T76 l0 x11_1).f0) ((rd_T76 l0 x11_1).f1) ((rd_T76 l0 x11_1).f2)) = some (r1, r2, r3) := by first | (rw [hy164]; with_reducible exact H) | (have H2_ := (Option.bind_some _ _).symm.trans H; rw [hy164]; with_reducible exact H2_) | (have H2_ := (Option.bind_some _ _).symm.trans H; with_reducible exact H2_) | with_reducible exact H | (rw [hy164]; exact H) | exact H
       have Ny164 := Aside0.mk hy164
       clear hy164
       have H' := Aside0.mk H
       clear H
       have p162 : 0 ≤ (x11_1 : Int) := of_decide_eq_true (by first | (with_reducible assumption) | assumption)
       have q162 : x11_1 < (l0.length : Int) := of_decide_eq_true (by first | (with_reducible assumption) | assumption)
       obtain ⟨ad162, e162, hx162_0, hx162_1, hx162_2⟩ := at_T76 HR0.out x11_1 p162 q162
       cases e162
       replace hx162_0 := (HB.out.cell (World.block_lt_of_cell? w _ hx162_0)).trans hx162_0
       replace hx162_1 := (HB.out.cell (World.block_lt_of_cell? w _ hx162_1)).trans hx162_1
       replace hx162_2 := (HB.out.cell (World.block_lt_of_cell? w _ hx162_2)).trans hx162_2
       replace p162 := eq_true p162
       replace q162 := eq_true q162
       go_wp2_with (first | ((with_reducible refine gate_dst (N := 6) rfl ?_); refine box_event ?hg (N := 6) ?hd (cs := #[.int .i64 0, .int .i64 0, .int .i64 0]) (t := 76) ?hr ?_; (case hd => rfl); (case hg => rfl); (case hr => first | (go_simp; done) | (go_simp; rfl)); intro gb163 hg w7 hbox hb; have n0_ := Aside0.mk (below_step (by repeat (first | (with_reducible first | exact HB.out | apply below_alloc | apply pw_below_drewN | apply below_drew1) | exact HB.out)) hb); have n1_ := Aside0.mk (hbox); have n2_ := Aside0.mk ((by rw [hg]; exact (below_size (by repeat (first | (with_reducible first | exact HB.out | apply below_alloc | apply pw_below_drewN | apply below_drew1) | exact HB.out))) : w.heap.size ≤ gb163)); have n3_ := Aside0.mk ((by rw [hg]; exact (below_size (by repeat (first | (with_reducible first | exact HB.out | apply below_alloc | apply pw_below_drewN | apply below_drew1) | exact HB.out))) : w.heap.size ≤ gb163)); clear HB; have HB := n0_; have BK163 := n1_; have GW163 := n2_; have GE163 := n3_; clear n0_ n1_ n2_ n3_; clear hb hbox hg; have hcz8_0 : w7.cell? ⟨gb163, 0, none⟩ = some (.int .i64 0) := (blk_cell BK163.out 0).trans rfl; have hcz8_1 : w7.cell? ⟨gb163, 1, none⟩ = some (.int .i64 0) := (blk_cell BK163.out 1).trans rfl; have hcz8_2 : w7.cell? ⟨gb163, 2, none⟩ = some (.int .i64 0) := (blk_cell BK163.out 2).trans rfl; have hfz8_0 := blk_frozen BK163.out 0; have hfz8_1 := blk_frozen BK163.out 1; have hfz8_2 := blk_frozen BK163.out 2) | ((with_reducible refine gate_store (t := 76) (p := 6) rfl ?_); (try (rw [drewN_self w7]; generalize hq_ : World.drewN w7 _ = w7; have n0_ := Aside0.mk (blk_at hq_ BK163.out); have n1_ := Aside0.mk (below_at hq_ HB.out); clear hq_ BK163 HB; have BK163 := n0_; have HB := n1_; clear n0_ n1_)); refine store_event (t := 76) (p := 6) (v := ?vo_w9) (w1 := (((w7.setCell ⟨gb163, 0, none⟩ (.int .i64 ((rd_T76 l0 x11_1).f0))).setCell ⟨gb163, 1, none⟩ (.int .i64 ((rd_T76 l0 x11_1).f1))).setCell ⟨gb163, 2, none⟩ (.int .i64 ((rd_T76 l0 x11_1).f2)))) ?hg ?ho ?hn ?hr ?_; (case ho => rfl); (case hg => rfl); (case hn => rfl); (case hr => first | (go_simp; done) | (go_simp; rfl)); intro w9 hw; have n0_ : Aside0 (w9.heap[gb163]? = some (.cells #[.int .i64 ((rd_T76 l0 x11_1).f0), .int .i64 ((rd_T76 l0 x11_1).f1), .int .i64 ((rd_T76 l0 x11_1).f2)] 76 (0, 0))) := ⟨(by rw [hw]; exact (by (with_reducible repeat (first | refine blk_drewN ?_ _ | refine blk_drew ?_ | refine blk_alloc ?_ _)); refine blk_put (cs := #[.int .i64 ((rd_T76 l0 x11_1).f0), .int .i64 ((rd_T76 l0 x11_1).f1), .int .i64 0]) ?_ 2 _ rfl; (with_reducible repeat (first | refine blk_drewN ?_ _ | refine blk_drew ?_ | refine blk_alloc ?_ _)); refine blk_put (cs := #[.int .i64 ((rd_T76 l0 x11_1).f0), .int .i64 0, .int .i64 0]) ?_ 1 _ rfl; (with_reducible repeat (first | refine blk_drewN ?_ _ | refine blk_drew ?_ | refine blk_alloc ?_ _)); refine blk_put (cs := #[.int .i64 0, .int .i64 0, .int .i64 0]) ?_ 0 _ rfl; (with_reducible repeat (first | refine blk_drewN ?_ _ | refine blk_drew ?_ | refine blk_alloc ?_ _)); exact BK163.out))⟩; have n1_ : Aside0 (Below w.heap.size w w9) := ⟨(by rw [hw]; exact (by repeat (first | (with_reducible first | exact HB.out | apply below_alloc | apply pw_below_drewN | apply below_drew1 | refine below_set ?_ GE163.out) | exact HB.out)))⟩; clear hw; clear BK163; clear HB; have BK163 := n0_; have HB := n1_; clear n0_ n1_; have q10 : (x11_1 : Int) ≤ ((l0.length : Int) : Int) := of_decide_eq_true (by first | (with_reducible assumption) | assumption); obtain ⟨i010, hi010, _, hsz10, _⟩ := info_parts info76; have hroom10 : l0.length ≤ c0 := HC0.out; have hC10 : Kd.C k76 _ (some ad162) l0.length l0 := HR0.out; have hcut10 := cut_to (P := Try.prog) 37 76 .i64 Try.underlying37 hi010 (some ad162) l0.length c0 x11_1 (of_decide_eq_true (by first | (with_reducible assumption) | assumption)) q10 hroom10; have hr10 := Kd.C_take (m := (x11_1 : Int).toNat) hC10 (by omega); have hy10 : y164.length = (x11_1 : Int).toNat := (by rw [Ny164.out, List.length_take]; omega); rw [← Ny164.out] at hr10; rw [← hy10] at hcut10; have HR167 := Aside0.mk hr10; have HC167 := Aside0.mk (show y164.length ≤ c0 from by omega); clear hr10 hC10 hroom10 hi010 hsz10; have KY10 := Aside0.mk hy10; clear hy10; replace q10 := eq_true q10))
       repeat (go_quiet (first | ((with_reducible refine gate_dst (N := 6) rfl ?_); refine box_event ?hg (N := 6) ?hd (cs := #[.int .i64 0, .int .i64 0, .int .i64 0]) (t := 76) ?hr ?_; (case hd => rfl); (case hg => rfl); (case hr => first | (go_simp; done) | (go_simp; rfl)); intro gb163 hg w7 hbox hb; have n0_ := Aside0.mk (below_step (by repeat (first | (with_reducible first | exact HB.out | apply below_alloc | apply pw_below_drewN | apply below_drew1) | exact HB.out)) hb); have n1_ := Aside0.mk (hbox); have n2_ := Aside0.mk ((by rw [hg]; exact (below_size (by repeat (first | (with_reducible first | exact HB.out | apply below_alloc | apply pw_below_drewN | apply below_drew1) | exact HB.out))) : w.heap.size ≤ gb163)); have n3_ := Aside0.mk ((by rw [hg]; exact (below_size (by repeat (first | (with_reducible first | exact HB.out | apply below_alloc | apply pw_below_drewN | apply below_drew1) | exact HB.out))) : w.heap.size ≤ gb163)); clear HB; have HB := n0_; have BK163 := n1_; have GW163 := n2_; have GE163 := n3_; clear n0_ n1_ n2_ n3_; clear hb hbox hg; have hcz8_0 : w7.cell? ⟨gb163, 0, none⟩ = some (.int .i64 0) := (blk_cell BK163.out 0).trans rfl; have hcz8_1 : w7.cell? ⟨gb163, 1, none⟩ = some (.int .i64 0) := (blk_cell BK163.out 1).trans rfl; have hcz8_2 : w7.cell? ⟨gb163, 2, none⟩ = some (.int .i64 0) := (blk_cell BK163.out 2).trans rfl; have hfz8_0 := blk_frozen BK163.out 0; have hfz8_1 := blk_frozen BK163.out 1; have hfz8_2 := blk_frozen BK163.out 2) | ((with_reducible refine gate_store (t := 76) (p := 6) rfl ?_); (try (rw [drewN_self w7]; generalize hq_ : World.drewN w7 _ = w7; have n0_ := Aside0.mk (blk_at hq_ BK163.out); have n1_ := Aside0.mk (below_at hq_ HB.out); clear hq_ BK163 HB; have BK163 := n0_; have HB := n1_; clear n0_ n1_)); refine store_event (t := 76) (p := 6) (v := ?vo_w9) (w1 := (((w7.setCell ⟨gb163, 0, none⟩ (.int .i64 ((rd_T76 l0 x11_1).f0))).setCell ⟨gb163, 1, none⟩ (.int .i64 ((rd_T76 l0 x11_1).f1))).setCell ⟨gb163, 2, none⟩ (.int .i64 ((rd_T76 l0 x11_1).f2)))) ?hg ?ho ?hn ?hr ?_; (case ho => rfl); (case hg => rfl); (case hn => rfl); (case hr => first | (go_simp; done) | (go_simp; rfl)); intro w9 hw; have n0_ : Aside0 (w9.heap[gb163]? = some (.cells #[.int .i64 ((rd_T76 l0 x11_1).f0), .int .i64 ((rd_T76 l0 x11_1).f1), .int .i64 ((rd_T76 l0 x11_1).f2)] 76 (0, 0))) := ⟨(by rw [hw]; exact (by (with_reducible repeat (first | refine blk_drewN ?_ _ | refine blk_drew ?_ | refine blk_alloc ?_ _)); refine blk_put (cs := #[.int .i64 ((rd_T76 l0 x11_1).f0), .int .i64 ((rd_T76 l0 x11_1).f1), .int .i64 0]) ?_ 2 _ rfl; (with_reducible repeat (first | refine blk_drewN ?_ _ | refine blk_drew ?_ | refine blk_alloc ?_ _)); refine blk_put (cs := #[.int .i64 ((rd_T76 l0 x11_1).f0), .int .i64 0, .int .i64 0]) ?_ 1 _ rfl; (with_reducible repeat (first | refine blk_drewN ?_ _ | refine blk_drew ?_ | refine blk_alloc ?_ _)); refine blk_put (cs := #[.int .i64 0, .int .i64 0, .int .i64 0]) ?_ 0 _ rfl; (with_reducible repeat (first | refine blk_drewN ?_ _ | refine blk_drew ?_ | refine blk_alloc ?_ _)); exact BK163.out))⟩; have n1_ : Aside0 (Below w.heap.size w w9) := ⟨(by rw [hw]; exact (by repeat (first | (with_reducible first | exact HB.out | apply below_alloc | apply pw_below_drewN | apply below_drew1 | refine below_set ?_ GE163.out) | exact HB.out)))⟩; clear hw; clear BK163; clear HB; have BK163 := n0_; have HB := n1_; clear n0_ n1_; have q10 : (x11_1 : Int) ≤ ((l0.length : Int) : Int) := of_decide_eq_true (by first | (with_reducible assumption) | assumption); obtain ⟨i010, hi010, _, hsz10, _⟩ := info_parts info76; have hroom10 : l0.length ≤ c0 := HC0.out; have hC10 : Kd.C k76 _ (some ad162) l0.length l0 := HR0.out; have hcut10 := cut_to (P := Try.prog) 37 76 .i64 Try.underlying37 hi010 (some ad162) l0.length c0 x11_1 (of_decide_eq_true (by first | (with_reducible assumption) | assumption)) q10 hroom10; have hr10 := Kd.C_take (m := (x11_1 : Int).toNat) hC10 (by omega); have hy10 : y164.length = (x11_1 : Int).toNat := (by rw [Ny164.out, List.length_take]; omega); rw [← Ny164.out] at hr10; rw [← hy10] at hcut10; have HR167 := Aside0.mk hr10; have HC167 := Aside0.mk (show y164.length ≤ c0 from by omega); clear hr10 hC10 hroom10 hi010 hsz10; have KY10 := Aside0.mk hy10; clear hy10; replace q10 := eq_true q10)); try go_wp2_with (first | ((with_reducible refine gate_dst (N := 6) rfl ?_); refine box_event ?hg (N := 6) ?hd (cs := #[.int .i64 0, .int .i64 0, .int .i64 0]) (t := 76) ?hr ?_; (case hd => rfl); (case hg => rfl); (case hr => first | (go_simp; done) | (go_simp; rfl)); intro gb163 hg w7 hbox hb; have n0_ := Aside0.mk (below_step (by repeat (first | (with_reducible first | exact HB.out | apply below_alloc | apply pw_below_drewN | apply below_drew1) | exact HB.out)) hb); have n1_ := Aside0.mk (hbox); have n2_ := Aside0.mk ((by rw [hg]; exact (below_size (by repeat (first | (with_reducible first | exact HB.out | apply below_alloc | apply pw_below_drewN | apply below_drew1) | exact HB.out))) : w.heap.size ≤ gb163)); have n3_ := Aside0.mk ((by rw [hg]; exact (below_size (by repeat (first | (with_reducible first | exact HB.out | apply below_alloc | apply pw_below_drewN | apply below_drew1) | exact HB.out))) : w.heap.size ≤ gb163)); clear HB; have HB := n0_; have BK163 := n1_; have GW163 := n2_; have GE163 := n3_; clear n0_ n1_ n2_ n3_; clear hb hbox hg; have hcz8_0 : w7.cell? ⟨gb163, 0, none⟩ = some (.int .i64 0) := (blk_cell BK163.out 0).trans rfl; have hcz8_1 : w7.cell? ⟨gb163, 1, none⟩ = some (.int .i64 0) := (blk_cell BK163.out 1).trans rfl; have hcz8_2 : w7.cell? ⟨gb163, 2, none⟩ = some (.int .i64 0) := (blk_cell BK163.out 2).trans rfl; have hfz8_0 := blk_frozen BK163.out 0; have hfz8_1 := blk_frozen BK163.out 1; have hfz8_2 := blk_frozen BK163.out 2) | ((with_reducible refine gate_store (t := 76) (p := 6) rfl ?_); (try (rw [drewN_self w7]; generalize hq_ : World.drewN w7 _ = w7; have n0_ := Aside0.mk (blk_at hq_ BK163.out); have n1_ := Aside0.mk (below_at hq_ HB.out); clear hq_ BK163 HB; have BK163 := n0_; have HB := n1_; clear n0_ n1_)); refine store_event (t := 76) (p := 6) (v := ?vo_w9) (w1 := (((w7.setCell ⟨gb163, 0, none⟩ (.int .i64 ((rd_T76 l0 x11_1).f0))).setCell ⟨gb163, 1, none⟩ (.int .i64 ((rd_T76 l0 x11_1).f1))).setCell ⟨gb163, 2, none⟩ (.int .i64 ((rd_T76 l0 x11_1).f2)))) ?hg ?ho ?hn ?hr ?_; (case ho => rfl); (case hg => rfl); (case hn => rfl); (case hr => first | (go_simp; done) | (go_simp; rfl)); intro w9 hw; have n0_ : Aside0 (w9.heap[gb163]? = some (.cells #[.int .i64 ((rd_T76 l0 x11_1).f0), .int .i64 ((rd_T76 l0 x11_1).f1), .int .i64 ((rd_T76 l0 x11_1).f2)] 76 (0, 0))) := ⟨(by rw [hw]; exact (by (with_reducible repeat (first | refine blk_drewN ?_ _ | refine blk_drew ?_ | refine blk_alloc ?_ _)); refine blk_put (cs := #[.int .i64 ((rd_T76 l0 x11_1).f0), .int .i64 ((rd_T76 l0 x11_1).f1), .int .i64 0]) ?_ 2 _ rfl; (with_reducible repeat (first | refine blk_drewN ?_ _ | refine blk_drew ?_ | refine blk_alloc ?_ _)); refine blk_put (cs := #[.int .i64 ((rd_T76 l0 x11_1).f0), .int .i64 0, .int .i64 0]) ?_ 1 _ rfl; (with_reducible repeat (first | refine blk_drewN ?_ _ | refine blk_drew ?_ | refine blk_alloc ?_ _)); refine blk_put (cs := #[.int .i64 0, .int .i64 0, .int .i64 0]) ?_ 0 _ rfl; (with_reducible repeat (first | refine blk_drewN ?_ _ | refine blk_drew ?_ | refine blk_alloc ?_ _)); exact BK163.out))⟩; have n1_ : Aside0 (Below w.heap.size w w9) := ⟨(by rw [hw]; exact (by repeat (first | (with_reducible first | exact HB.out | apply below_alloc | apply pw_below_drewN | apply below_drew1 | refine below_set ?_ GE163.out) | exact HB.out)))⟩; clear hw; clear BK163; clear HB; have BK163 := n0_; have HB := n1_; clear n0_ n1_; have q10 : (x11_1 : Int) ≤ ((l0.length : Int) : Int) := of_decide_eq_true (by first | (with_reducible assumption) | assumption); obtain ⟨i010, hi010, _, hsz10, _⟩ := info_parts info76; have hroom10 : l0.length ≤ c0 := HC0.out; have hC10 : Kd.C k76 _ (some ad162) l0.length l0 := HR0.out; have hcut10 := cut_to (P := Try.prog) 37 76 .i64 Try.underlying37 hi010 (some ad162) l0.length c0 x11_1 (of_decide_eq_true (by first | (with_reducible assumption) | assumption)) q10 hroom10; have hr10 := Kd.C_take (m := (x11_1 : Int).toNat) hC10 (by omega); have hy10 : y164.length = (x11_1 : Int).toNat := (by rw [Ny164.out, List.length_take]; omega); rw [← Ny164.out] at hr10; rw [← hy10] at hcut10; have HR167 := Aside0.mk hr10; have HC167 := Aside0.mk (show y164.length ≤ c0 from by omega); clear hr10 hC10 hroom10 hi010 hsz10; have KY10 := Aside0.mk hy10; clear hy10; replace q10 := eq_true q10)))
       go_loopg [20] k1 (fun kq v20 w' => ∃ (x20_2 : Int), v20 = .int .i64 x20_2 ∧ Aside0 (impl_meetingArcs.l1 kq l0 l0 (l0.length : Int) x11_1 y164 (y164.length : Int) x20_2 ((rd_T76 l0 x11_1).f0) ((rd_T76 l0 x11_1).f1) ((rd_T76 l0 x11_1).f2) = some (r1, r2, r3)) ∧ Aside0 (kq ≤ k1) ∧ Aside0 (w'.heap[gb163]? = some (.cells #[.int .i64 ((rd_T76 l0 x11_1).f0), .int .i64 ((rd_T76 l0 x11_1).f1), .int .i64 ((rd_T76 l0 x11_1).f2)] 76 (0, 0))) ∧ Aside0 (Below w.heap.size w w'))
       case atStart => exact ⟨(0), (by first | rfl | (simp; done) | (simp [*]; done)), H', ⟨Nat.le_refl _⟩, ⟨by (with_reducible repeat (first | refine blk_drewN ?_ _ | refine blk_drew ?_ | refine blk_alloc ?_ _)); exact BK163.out⟩, ⟨by repeat (first | (with_reducible first | exact HB.out | apply below_alloc | apply pw_below_drewN | apply below_drew1 | refine below_set ?_ GE163.out) | exact HB.out)⟩⟩
       case round =>
        clear H'
        try clear p1
        try clear q1
        try clear hx1
        try clear c2
        try clear c2b0
        try clear p2
        try clear c3
        try clear c3b0
        try clear c4
        try clear c4b0
        try clear c5
        try clear c5b0
        try clear c6
        try clear c6b0
        try clear c6b1
        try clear c9
        try clear q10
        try clear hcz8_0
        try clear hcz8_1
        try clear hcz8_2
        try clear hfz8_0
        try clear hfz8_1
        try clear hfz8_2
        try clear hx162_0
        try clear hx162_1
        try clear hx162_2
        try clear p162
        try clear q10
        try clear q162
        obtain ⟨x20_2, rfl, HA, HK2, BK163, HB⟩ := hrel
        cases gk with
        | zero => exact absurd HA.out (by simp [impl_meetingArcs.l1])
        | succ k2 =>
         have H := HA.out
         clear HA
         simp only [impl_meetingArcs.l1] at H
         by_cases c11 : x20_2 < (y164.length : Int)
         ·rw [if_pos c11] at H
          have c11b0 : decide (x20_2 < (y164.length : Int)) = true := decide_eq_true c11
          clear c11
          by_cases c12 : 0 ≤ x20_2
          ·rw [if_pos c12] at H
           have c12b0 : decide (0 ≤ x20_2) = true := decide_eq_true c12
           clear c12
           by_cases c13 : x20_2 < (y164.length : Int)
           ·rw [if_pos c13] at H
            have c13b0 : decide (x20_2 < (y164.length : Int)) = true := decide_eq_true c13
            clear c13
            by_cases c14 : ((rd_T76 l0 x11_1).f2) = ((rd_T76 y164 x20_2).f2)
            ·rw [if_pos c14] at H
             have c14b0 : (((rd_T76 l0 x11_1).f2) == ((rd_T76 y164 x20_2).f2)) = true := beq_iff_eq.mpr c14
             have c14b1 : (((rd_T76 l0 x11_1).f2) != ((rd_T76 y164 x20_2).f2)) = false := bne_eq_false_iff_eq.mpr c14
             clear c14
             have HC15 := Aside0.mk H
             clear H
             have p168 : 0 ≤ (x20_2 : Int) := of_decide_eq_true (by first | (with_reducible assumption) | assumption)
             have q168 : x20_2 < (y164.length : Int) := of_decide_eq_true (by first | (with_reducible assumption) | assumption)
             obtain ⟨ad168, e168, hx168_0, hx168_1, hx168_2⟩ := at_T76 HR167.out x20_2 p168 q168
             obtain rfl : ad162 = ad168 := (by injection e168)
             replace hx168_0 := (HB.out.cell (World.block_lt_of_cell? w _ hx168_0)).trans hx168_0
             replace hx168_1 := (HB.out.cell (World.block_lt_of_cell? w _ hx168_1)).trans hx168_1
             replace hx168_2 := (HB.out.cell (World.block_lt_of_cell? w _ hx168_2)).trans hx168_2
             replace p168 := eq_true p168
             replace q168 := eq_true q168
             go_upto_region 8 with (first | ((with_reducible refine gate_dst (N := 8) rfl ?_); refine box_event ?hg (N := 8) ?hd (cs := #[.int .i64 0, .int .i64 0, .int .i64 0]) (t := 76) ?hr ?_; (case hd => rfl); (case hg => rfl); (case hr => first | (go_simp; done) | (go_simp; rfl)); intro gb169 hg w16 hbox hb; have n0_ := Aside0.mk (blk_below (g := gb163) (o := .cells #[.int .i64 ((rd_T76 l0 x11_1).f0), .int .i64 ((rd_T76 l0 x11_1).f1), .int .i64 ((rd_T76 l0 x11_1).f2)] 76 (0, 0)) (by (with_reducible repeat (first | refine blk_drewN ?_ _ | refine blk_drew ?_ | refine blk_alloc ?_ _)); exact BK163.out) hb); have n1_ := Aside0.mk (below_step (by repeat (first | (with_reducible first | exact HB.out | apply below_alloc | apply pw_below_drewN | apply below_drew1 | refine below_set ?_ GE163.out) | exact HB.out)) hb); have n2_ := Aside0.mk (hbox); have n3_ := Aside0.mk ((by rw [hg]; exact (below_size (by repeat (first | (with_reducible first | exact HB.out | apply below_alloc | apply pw_below_drewN | apply below_drew1 | refine below_set ?_ GE163.out) | exact HB.out))) : w.heap.size ≤ gb169)); have n4_ := Aside0.mk ((by rw [hg]; exact (below_size (by repeat (first | (with_reducible first | exact HB.out | apply below_alloc | apply pw_below_drewN | apply below_drew1 | refine below_set ?_ GE163.out) | exact HB.out))) : w.heap.size ≤ gb169)); have n5_ := Aside0.mk ((by rw [hg]; exact Nat.ne_of_lt (blk_lt (g := gb163) (o := .cells #[.int .i64 ((rd_T76 l0 x11_1).f0), .int .i64 ((rd_T76 l0 x11_1).f1), .int .i64 ((rd_T76 l0 x11_1).f2)] 76 (0, 0)) (by (with_reducible repeat (first | refine blk_drewN ?_ _ | refine blk_drew ?_ | refine blk_alloc ?_ _)); exact BK163.out)) : gb163 ≠ gb169)); have n6_ := Aside0.mk ((by rw [hg]; exact Nat.ne_of_gt (blk_lt (g := gb163) (o := .cells #[.int .i64 ((rd_T76 l0 x11_1).f0), .int .i64 ((rd_T76 l0 x11_1).f1), .int .i64 ((rd_T76 l0 x11_1).f2)] 76 (0, 0)) (by (with_reducible repeat (first | refine blk_drewN ?_ _ | refine blk_drew ?_ | refine blk_alloc ?_ _)); exact BK163.out)) : gb169 ≠ gb163)); clear BK163; clear HB; have BK163 := n0_; have HB := n1_; have BK169 := n2_; have GW169 := n3_; have GE169 := n4_; have NB163_169 := n5_; have NB169_163 := n6_; clear n0_ n1_ n2_ n3_ n4_ n5_ n6_; clear hb hbox hg; have hnb17 := NB169_163.out; have hnc17 := NB163_169.out; have hcz18_0 : w16.cell? ⟨gb169, 0, none⟩ = some (.int .i64 0) := (blk_cell BK169.out 0).trans rfl; have hcz18_1 : w16.cell? ⟨gb169, 1, none⟩ = some (.int .i64 0) := (blk_cell BK169.out 1).trans rfl; have hcz18_2 : w16.cell? ⟨gb169, 2, none⟩ = some (.int .i64 0) := (blk_cell BK169.out 2).trans rfl; have hfz18_0 := blk_frozen BK169.out 0; have hfz18_1 := blk_frozen BK169.out 1; have hfz18_2 := blk_frozen BK169.out 2; have hcz19_0 : w16.cell? ⟨gb163, 0, none⟩ = some (.int .i64 ((rd_T76 l0 x11_1).f0)) := (blk_cell BK163.out 0).trans rfl; have hcz19_1 : w16.cell? ⟨gb163, 1, none⟩ = some (.int .i64 ((rd_T76 l0 x11_1).f1)) := (blk_cell BK163.out 1).trans rfl; have hcz19_2 : w16.cell? ⟨gb163, 2, none⟩ = some (.int .i64 ((rd_T76 l0 x11_1).f2)) := (blk_cell BK163.out 2).trans rfl; have hfz19_0 := blk_frozen BK163.out 0; have hfz19_1 := blk_frozen BK163.out 1; have hfz19_2 := blk_frozen BK163.out 2))
             repeat (go_quiet (first | ((with_reducible refine gate_dst (N := 8) rfl ?_); refine box_event ?hg (N := 8) ?hd (cs := #[.int .i64 0, .int .i64 0, .int .i64 0]) (t := 76) ?hr ?_; (case hd => rfl); (case hg => rfl); (case hr => first | (go_simp; done) | (go_simp; rfl)); intro gb169 hg w16 hbox hb; have n0_ := Aside0.mk (blk_below (g := gb163) (o := .cells #[.int .i64 ((rd_T76 l0 x11_1).f0), .int .i64 ((rd_T76 l0 x11_1).f1), .int .i64 ((rd_T76 l0 x11_1).f2)] 76 (0, 0)) (by (with_reducible repeat (first | refine blk_drewN ?_ _ | refine blk_drew ?_ | refine blk_alloc ?_ _)); exact BK163.out) hb); have n1_ := Aside0.mk (below_step (by repeat (first | (with_reducible first | exact HB.out | apply below_alloc | apply pw_below_drewN | apply below_drew1 | refine below_set ?_ GE163.out) | exact HB.out)) hb); have n2_ := Aside0.mk (hbox); have n3_ := Aside0.mk ((by rw [hg]; exact (below_size (by repeat (first | (with_reducible first | exact HB.out | apply below_alloc | apply pw_below_drewN | apply below_drew1 | refine below_set ?_ GE163.out) | exact HB.out))) : w.heap.size ≤ gb169)); have n4_ := Aside0.mk ((by rw [hg]; exact (below_size (by repeat (first | (with_reducible first | exact HB.out | apply below_alloc | apply pw_below_drewN | apply below_drew1 | refine below_set ?_ GE163.out) | exact HB.out))) : w.heap.size ≤ gb169)); have n5_ := Aside0.mk ((by rw [hg]; exact Nat.ne_of_lt (blk_lt (g := gb163) (o := .cells #[.int .i64 ((rd_T76 l0 x11_1).f0), .int .i64 ((rd_T76 l0 x11_1).f1), .int .i64 ((rd_T76 l0 x11_1).f2)] 76 (0, 0)) (by (with_reducible repeat (first | refine blk_drewN ?_ _ | refine blk_drew ?_ | refine blk_alloc ?_ _)); exact BK163.out)) : gb163 ≠ gb169)); have n6_ := Aside0.mk ((by rw [hg]; exact Nat.ne_of_gt (blk_lt (g := gb163) (o := .cells #[.int .i64 ((rd_T76 l0 x11_1).f0), .int .i64 ((rd_T76 l0 x11_1).f1), .int .i64 ((rd_T76 l0 x11_1).f2)] 76 (0, 0)) (by (with_reducible repeat (first | refine blk_drewN ?_ _ | refine blk_drew ?_ | refine blk_alloc ?_ _)); exact BK163.out)) : gb169 ≠ gb163)); clear BK163; clear HB; have BK163 := n0_; have HB := n1_; have BK169 := n2_; have GW169 := n3_; have GE169 := n4_; have NB163_169 := n5_; have NB169_163 := n6_; clear n0_ n1_ n2_ n3_ n4_ n5_ n6_; clear hb hbox hg; have hnb17 := NB169_163.out; have hnc17 := NB163_169.out; have hcz18_0 : w16.cell? ⟨gb169, 0, none⟩ = some (.int .i64 0) := (blk_cell BK169.out 0).trans rfl; have hcz18_1 : w16.cell? ⟨gb169, 1, none⟩ = some (.int .i64 0) := (blk_cell BK169.out 1).trans rfl; have hcz18_2 : w16.cell? ⟨gb169, 2, none⟩ = some (.int .i64 0) := (blk_cell BK169.out 2).trans rfl; have hfz18_0 := blk_frozen BK169.out 0; have hfz18_1 := blk_frozen BK169.out 1; have hfz18_2 := blk_frozen BK169.out 2; have hcz19_0 : w16.cell? ⟨gb163, 0, none⟩ = some (.int .i64 ((rd_T76 l0 x11_1).f0)) := (blk_cell BK163.out 0).trans rfl; have hcz19_1 : w16.cell? ⟨gb163, 1, none⟩ = some (.int .i64 ((rd_T76 l0 x11_1).f1)) := (blk_cell BK163.out 1).trans rfl; have hcz19_2 : w16.cell? ⟨gb163, 2, none⟩ = some (.int .i64 ((rd_T76 l0 x11_1).f2)) := (blk_cell BK163.out 2).trans rfl; have hfz19_0 := blk_frozen BK163.out 0; have hfz19_1 := blk_frozen BK163.out 1; have hfz19_2 := blk_frozen BK163.out 2)); go_upto_region 8 with (first | ((with_reducible refine gate_dst (N := 8) rfl ?_); refine box_event ?hg (N := 8) ?hd (cs := #[.int .i64 0, .int .i64 0, .int .i64 0]) (t := 76) ?hr ?_; (case hd => rfl); (case hg => rfl); (case hr => first | (go_simp; done) | (go_simp; rfl)); intro gb169 hg w16 hbox hb; have n0_ := Aside0.mk (blk_below (g := gb163) (o := .cells #[.int .i64 ((rd_T76 l0 x11_1).f0), .int .i64 ((rd_T76 l0 x11_1).f1), .int .i64 ((rd_T76 l0 x11_1).f2)] 76 (0, 0)) (by (with_reducible repeat (first | refine blk_drewN ?_ _ | refine blk_drew ?_ | refine blk_alloc ?_ _)); exact BK163.out) hb); have n1_ := Aside0.mk (below_step (by repeat (first | (with_reducible first | exact HB.out | apply below_alloc | apply pw_below_drewN | apply below_drew1 | refine below_set ?_ GE163.out) | exact HB.out)) hb); have n2_ := Aside0.mk (hbox); have n3_ := Aside0.mk ((by rw [hg]; exact (below_size (by repeat (first | (with_reducible first | exact HB.out | apply below_alloc | apply pw_below_drewN | apply below_drew1 | refine below_set ?_ GE163.out) | exact HB.out))) : w.heap.size ≤ gb169)); have n4_ := Aside0.mk ((by rw [hg]; exact (below_size (by repeat (first | (with_reducible first | exact HB.out | apply below_alloc | apply pw_below_drewN | apply below_drew1 | refine below_set ?_ GE163.out) | exact HB.out))) : w.heap.size ≤ gb169)); have n5_ := Aside0.mk ((by rw [hg]; exact Nat.ne_of_lt (blk_lt (g := gb163) (o := .cells #[.int .i64 ((rd_T76 l0 x11_1).f0), .int .i64 ((rd_T76 l0 x11_1).f1), .int .i64 ((rd_T76 l0 x11_1).f2)] 76 (0, 0)) (by (with_reducible repeat (first | refine blk_drewN ?_ _ | refine blk_drew ?_ | refine blk_alloc ?_ _)); exact BK163.out)) : gb163 ≠ gb169)); have n6_ := Aside0.mk ((by rw [hg]; exact Nat.ne_of_gt (blk_lt (g := gb163) (o := .cells #[.int .i64 ((rd_T76 l0 x11_1).f0), .int .i64 ((rd_T76 l0 x11_1).f1), .int .i64 ((rd_T76 l0 x11_1).f2)] 76 (0, 0)) (by (with_reducible repeat (first | refine blk_drewN ?_ _ | refine blk_drew ?_ | refine blk_alloc ?_ _)); exact BK163.out)) : gb169 ≠ gb163)); clear BK163; clear HB; have BK163 := n0_; have HB := n1_; have BK169 := n2_; have GW169 := n3_; have GE169 := n4_; have NB163_169 := n5_; have NB169_163 := n6_; clear n0_ n1_ n2_ n3_ n4_ n5_ n6_; clear hb hbox hg; have hnb17 := NB169_163.out; have hnc17 := NB163_169.out; have hcz18_0 : w16.cell? ⟨gb169, 0, none⟩ = some (.int .i64 0) := (blk_cell BK169.out 0).trans rfl; have hcz18_1 : w16.cell? ⟨gb169, 1, none⟩ = some (.int .i64 0) := (blk_cell BK169.out 1).trans rfl; have hcz18_2 : w16.cell? ⟨gb169, 2, none⟩ = some (.int .i64 0) := (blk_cell BK169.out 2).trans rfl; have hfz18_0 := blk_frozen BK169.out 0; have hfz18_1 := blk_frozen BK169.out 1; have hfz18_2 := blk_frozen BK169.out 2; have hcz19_0 : w16.cell? ⟨gb163, 0, none⟩ = some (.int .i64 ((rd_T76 l0 x11_1).f0)) := (blk_cell BK163.out 0).trans rfl; have hcz19_1 : w16.cell? ⟨gb163, 1, none⟩ = some (.int .i64 ((rd_T76 l0 x11_1).f1)) := (blk_cell BK163.out 1).trans rfl; have hcz19_2 : w16.cell? ⟨gb163, 2, none⟩ = some (.int .i64 ((rd_T76 l0 x11_1).f2)) := (blk_cell BK163.out 2).trans rfl; have hfz19_0 := blk_frozen BK163.out 0; have hfz19_1 := blk_frozen BK163.out 1; have hfz19_2 := blk_frozen BK163.out 2)))
             (try simp only [Act.put, List.setIfInBounds_toArray, List.set_cons_zero, List.set_cons_succ])
             go_cut [30] (fun v30 wc => ∃ (kq : Nat) (x30_14 : Bool), v30 = .bool x30_14 ∧ Aside0 (impl_meetingArcs.j2 kq l0 l0 (l0.length : Int) x11_1 y164 (y164.length : Int) x20_2 x30_14 ((rd_T76 l0 x11_1).f0) ((rd_T76 l0 x11_1).f1) ((rd_T76 l0 x11_1).f2) ((rd_T76 y164 x20_2).f0) ((rd_T76 y164 x20_2).f1) ((rd_T76 y164 x20_2).f2) = some (r1, r2, r3)) ∧ Aside0 (kq ≤ k2) ∧ Aside0 (wc.heap[gb163]? = some (.cells #[.int .i64 ((rd_T76 l0 x11_1).f0), .int .i64 ((rd_T76 l0 x11_1).f1), .int .i64 ((rd_T76 l0 x11_1).f2)] 76 (0, 0))) ∧ Aside0 (wc.heap[gb169]? = some (.cells #[.int .i64 ((rd_T76 y164 x20_2).f0), .int .i64 ((rd_T76 y164 x20_2).f1), .int .i64 ((rd_T76 y164 x20_2).f2)] 76 (0, 0))) ∧ Aside0 (Below w.heap.size w wc))
             case first =>
              have H := HC15.out
              clear HC15
              by_cases c20 : ((rd_T76 l0 x11_1).f0) = ((rd_T76 y164 x20_2).f0)
              ·rw [if_pos c20] at H
               have c20b0 : (((rd_T76 l0 x11_1).f0) == ((rd_T76 y164 x20_2).f0)) = true := beq_iff_eq.mpr c20
               have c20b1 : (((rd_T76 l0 x11_1).f0) != ((rd_T76 y164 x20_2).f0)) = false := bne_eq_false_iff_eq.mpr c20
               clear c20
               (first | rw [c20b0] | (simp only [i64_w, i32_w]; rw [c20b0]) | skip)
               have H' := Aside0.mk H
               clear H
               have hnb21 := NB163_169.out
               have hnc21 := NB169_163.out
               have hcz22_0 : w16.cell? ⟨gb163, 0, none⟩ = some (.int .i64 ((rd_T76 l0 x11_1).f0)) := (blk_cell BK163.out 0).trans rfl
               have hcz22_1 : w16.cell? ⟨gb163, 1, none⟩ = some (.int .i64 ((rd_T76 l0 x11_1).f1)) := (blk_cell BK163.out 1).trans rfl
               have hcz22_2 : w16.cell? ⟨gb163, 2, none⟩ = some (.int .i64 ((rd_T76 l0 x11_1).f2)) := (blk_cell BK163.out 2).trans rfl
               have hfz22_0 := blk_frozen BK163.out 0
               have hfz22_1 := blk_frozen BK163.out 1
               have hfz22_2 := blk_frozen BK163.out 2
               have hcz23_0 : w16.cell? ⟨gb169, 0, none⟩ = some (.int .i64 0) := (blk_cell BK169.out 0).trans rfl
               have hcz23_1 : w16.cell? ⟨gb169, 1, none⟩ = some (.int .i64 0) := (blk_cell BK169.out 1).trans rfl
               have hcz23_2 : w16.cell? ⟨gb169, 2, none⟩ = some (.int .i64 0) := (blk_cell BK169.out 2).trans rfl
               have hfz23_0 := blk_frozen BK169.out 0
               have hfz23_1 := blk_frozen BK169.out 1
               have hfz23_2 := blk_frozen BK169.out 2
               go_wp2
               repeat (go_quiet (fail); try go_wp2)
               go_meet
               case rel => exact ⟨_, ((((rd_T76 l0 x11_1).f1) != ((rd_T76 y164 x20_2).f1))), (by first | rfl | (simp; done) | (simp [*]; done)), H', ⟨by have := HK1.out; have := HK2.out; first | omega | exact Nat.le_refl _⟩, ⟨by (with_reducible repeat (first | refine blk_drewN ?_ _ | refine blk_drew ?_ | refine blk_alloc ?_ _)); refine blk_far ?_ NB163_169.out _; (with_reducible repeat (first | refine blk_drewN ?_ _ | refine blk_drew ?_ | refine blk_alloc ?_ _)); refine blk_far ?_ NB163_169.out _; (with_reducible repeat (first | refine blk_drewN ?_ _ | refine blk_drew ?_ | refine blk_alloc ?_ _)); refine blk_far ?_ NB163_169.out _; (with_reducible repeat (first | refine blk_drewN ?_ _ | refine blk_drew ?_ | refine blk_alloc ?_ _)); exact BK163.out⟩, ⟨by (with_reducible repeat (first | refine blk_drewN ?_ _ | refine blk_drew ?_ | refine blk_alloc ?_ _)); refine blk_put (cs := #[.int .i64 ((rd_T76 y164 x20_2).f0), .int .i64 ((rd_T76 y164 x20_2).f1), .int .i64 0]) ?_ 2 _ rfl; (with_reducible repeat (first | refine blk_drewN ?_ _ | refine blk_drew ?_ | refine blk_alloc ?_ _)); refine blk_put (cs := #[.int .i64 ((rd_T76 y164 x20_2).f0), .int .i64 0, .int .i64 0]) ?_ 1 _ rfl; (with_reducible repeat (first | refine blk_drewN ?_ _ | refine blk_drew ?_ | refine blk_alloc ?_ _)); refine blk_put (cs := #[.int .i64 0, .int .i64 0, .int .i64 0]) ?_ 0 _ rfl; (with_reducible repeat (first | refine blk_drewN ?_ _ | refine blk_drew ?_ | refine blk_alloc ?_ _)); exact BK169.out⟩, ⟨by repeat (first | (with_reducible first | exact HB.out | apply below_alloc | apply pw_below_drewN | apply below_drew1 | refine below_set ?_ GE163.out | refine below_set ?_ GE169.out) | exact HB.out)⟩⟩
              ·rw [if_neg c20] at H
               have c20b0 : (((rd_T76 l0 x11_1).f0) == ((rd_T76 y164 x20_2).f0)) = false := beq_eq_false_iff_ne.mpr c20
               have c20b1 : (((rd_T76 l0 x11_1).f0) != ((rd_T76 y164 x20_2).f0)) = true := bne_iff_ne.mpr c20
               (first | rw [c20b0] | (simp only [i64_w, i32_w]; rw [c20b0]) | skip)
               have H' := Aside0.mk H
               clear H
               have hnb24 := NB163_169.out
               have hnc24 := NB169_163.out
               have hcz25_0 : w16.cell? ⟨gb163, 0, none⟩ = some (.int .i64 ((rd_T76 l0 x11_1).f0)) := (blk_cell BK163.out 0).trans rfl
               have hcz25_1 : w16.cell? ⟨gb163, 1, none⟩ = some (.int .i64 ((rd_T76 l0 x11_1).f1)) := (blk_cell BK163.out 1).trans rfl
               have hcz25_2 : w16.cell? ⟨gb163, 2, none⟩ = some (.int .i64 ((rd_T76 l0 x11_1).f2)) := (blk_cell BK163.out 2).trans rfl
               have hfz25_0 := blk_frozen BK163.out 0
               have hfz25_1 := blk_frozen BK163.out 1
               have hfz25_2 := blk_frozen BK163.out 2
               have hcz26_0 : w16.cell? ⟨gb169, 0, none⟩ = some (.int .i64 0) := (blk_cell BK169.out 0).trans rfl
               have hcz26_1 : w16.cell? ⟨gb169, 1, none⟩ = some (.int .i64 0) := (blk_cell BK169.out 1).trans rfl
               have hcz26_2 : w16.cell? ⟨gb169, 2, none⟩ = some (.int .i64 0) := (blk_cell BK169.out 2).trans rfl
               have hfz26_0 := blk_frozen BK169.out 0
               have hfz26_1 := blk_frozen BK169.out 1
               have hfz26_2 := blk_frozen BK169.out 2
               go_wp2
               repeat (go_quiet (fail); try go_wp2)
               go_meet
               case rel => exact ⟨_, (false), (by first | rfl | (simp; done) | (simp [*]; done)), H', ⟨by have := HK1.out; have := HK2.out; first | omega | exact Nat.le_refl _⟩, ⟨by (with_reducible repeat (first | refine blk_drewN ?_ _ | refine blk_drew ?_ | refine blk_alloc ?_ _)); refine blk_far ?_ NB163_169.out _; (with_reducible repeat (first | refine blk_drewN ?_ _ | refine blk_drew ?_ | refine blk_alloc ?_ _)); refine blk_far ?_ NB163_169.out _; (with_reducible repeat (first | refine blk_drewN ?_ _ | refine blk_drew ?_ | refine blk_alloc ?_ _)); refine blk_far ?_ NB163_169.out _; (with_reducible repeat (first | refine blk_drewN ?_ _ | refine blk_drew ?_ | refine blk_alloc ?_ _)); exact BK163.out⟩, ⟨by (with_reducible repeat (first | refine blk_drewN ?_ _ | refine blk_drew ?_ | refine blk_alloc ?_ _)); refine blk_put (cs := #[.int .i64 ((rd_T76 y164 x20_2).f0), .int .i64 ((rd_T76 y164 x20_2).f1), .int .i64 0]) ?_ 2 _ rfl; (with_reducible repeat (first | refine blk_drewN ?_ _ | refine blk_drew ?_ | refine blk_alloc ?_ _)); refine blk_put (cs := #[.int .i64 ((rd_T76 y164 x20_2).f0), .int .i64 0, .int .i64 0]) ?_ 1 _ rfl; (with_reducible repeat (first | refine blk_drewN ?_ _ | refine blk_drew ?_ | refine blk_alloc ?_ _)); refine blk_put (cs := #[.int .i64 0, .int .i64 0, .int .i64 0]) ?_ 0 _ rfl; (with_reducible repeat (first | refine blk_drewN ?_ _ | refine blk_drew ?_ | refine blk_alloc ?_ _)); exact BK169.out⟩, ⟨by repeat (first | (with_reducible first | exact HB.out | apply below_alloc | apply pw_below_drewN | apply below_drew1 | refine below_set ?_ GE163.out | refine below_set ?_ GE169.out) | exact HB.out)⟩⟩
             case rest =>
              clear HC15
              try clear c1
              try clear p1
              try clear q1
              try clear hx1
              try clear c2
              try clear c2b0
              try clear p2
              try clear c3
              try clear c3b0
              try clear c4
              try clear c4b0
              try clear c5
              try clear c5b0
              try clear c6
              try clear c6b0
              try clear c6b1
              try clear c9
              try clear q10
              try clear c11
              try clear c11b0
              try clear c12
              try clear c12b0
              try clear c13
              try clear c13b0
              try clear c14
              try clear c14b0
              try clear c14b1
              try clear p16
              try clear q16
              try clear hx16
              try clear c17
              try clear c20
              try clear c20b0
              try clear c20b1
              try clear c21
              try clear c24
              try clear hcz18_0
              try clear hcz18_1
              try clear hcz18_2
              try clear hcz19_0
              try clear hcz19_1
              try clear hcz19_2
              try clear hcz22_0
              try clear hcz22_1
              try clear hcz22_2
              try clear hcz23_0
              try clear hcz23_1
              try clear hcz23_2
              try clear hcz25_0
              try clear hcz25_1
              try clear hcz25_2
              try clear hcz26_0
              try clear hcz26_1
              try clear hcz26_2
              try clear hcz8_0
              try clear hcz8_1
              try clear hcz8_2
              try clear hfz18_0
              try clear hfz18_1
              try clear hfz18_2
              try clear hfz19_0
              try clear hfz19_1
              try clear hfz19_2
              try clear hfz22_0
              try clear hfz22_1
              try clear hfz22_2
              try clear hfz23_0
              try clear hfz23_1
              try clear hfz23_2
              try clear hfz25_0
              try clear hfz25_1
              try clear hfz25_2
              try clear hfz26_0
              try clear hfz26_1
              try clear hfz26_2
              try clear hfz8_0
              try clear hfz8_1
              try clear hfz8_2
              try clear hx162_0
              try clear hx162_1
              try clear hx162_2
              try clear hx168_0
              try clear hx168_1
              try clear hx168_2
              try clear p1
              try clear p162
              try clear p168
              try clear p2
              try clear q1
              try clear q10
              try clear q162
              try clear q168
              obtain ⟨kq, x30_14, rfl, HA, HJ14, BK163, BK169, HB⟩ := hcut
              cases kq with
              | zero => exact absurd HA.out (by simp [impl_meetingArcs.j2])
              | succ kj14 =>
               have H := HA.out
               clear HA
               simp only [impl_meetingArcs.j2] at H
               by_cases c27 : x30_14 = true
               ·subst c27
                have H1 : (some (((rd_T76 l0 x11_1).f1), ((rd_T76 y164 x20_2).f1), true)) = some (r1, r2, r3) := by rw [if_pos rfl] at H; exact H
                clear H
                have H := H1
                clear H1
                simp only [Option.some.injEq, Prod.mk.injEq] at H
                obtain ⟨rfl, rfl, rfl⟩ := H
                have hnb28 := NB163_169.out
                have hnc28 := NB169_163.out
                have hcz29_0 : wc.cell? ⟨gb163, 0, none⟩ = some (.int .i64 ((rd_T76 l0 x11_1).f0)) := (blk_cell BK163.out 0).trans rfl
                have hcz29_1 : wc.cell? ⟨gb163, 1, none⟩ = some (.int .i64 ((rd_T76 l0 x11_1).f1)) := (blk_cell BK163.out 1).trans rfl
                have hcz29_2 : wc.cell? ⟨gb163, 2, none⟩ = some (.int .i64 ((rd_T76 l0 x11_1).f2)) := (blk_cell BK163.out 2).trans rfl
                have hfz29_0 := blk_frozen BK163.out 0
                have hfz29_1 := blk_frozen BK163.out 1
                have hfz29_2 := blk_frozen BK163.out 2
                have hcz30_0 : wc.cell? ⟨gb169, 0, none⟩ = some (.int .i64 ((rd_T76 y164 x20_2).f0)) := (blk_cell BK169.out 0).trans rfl
                have hcz30_1 : wc.cell? ⟨gb169, 1, none⟩ = some (.int .i64 ((rd_T76 y164 x20_2).f1)) := (blk_cell BK169.out 1).trans rfl
                have hcz30_2 : wc.cell? ⟨gb169, 2, none⟩ = some (.int .i64 ((rd_T76 y164 x20_2).f2)) := (blk_cell BK169.out 2).trans rfl
                have hfz30_0 := blk_frozen BK169.out 0
                have hfz30_1 := blk_frozen BK169.out 1
                have hfz30_2 := blk_frozen BK169.out 2
                go_wp2
                repeat (go_quiet (fail); try go_wp2)
                go_ret3
                exact ⟨by first | rfl | (simp [errW_none, errW_some] <;> rfl) | (simp [*, errW_none, errW_some] <;> rfl), by repeat (first | (with_reducible first | exact HB.out | apply below_alloc | apply pw_below_drewN | apply below_drew1 | refine below_set ?_ GE163.out | refine below_set ?_ GE169.out) | exact HB.out)⟩
               ·replace c27 := Bool.eq_false_iff.mpr c27
                subst c27
                have H1 : (if ((rd_T76 l0 x11_1).f1) = ((rd_T76 y164 x20_2).f1) then (if ((rd_T76 l0 x11_1).f0) = ((rd_T76 y164 x20_2).f0) then (impl_meetingArcs.l1 kj14 l0 l0 (l0.length : Int) x11_1 y164 (y164.length : Int) (wrap64 (x20_2 + 1)) ((rd_T76 l0 x11_1).f0) ((rd_T76 l0 x11_1).f1) ((rd_T76 l0 x11_1).f2)) else (some (((rd_T76 l0 x11_1).f0), ((rd_T76 y164 x20_2).f0), true))) else (impl_meetingArcs.l1 kj14 l0 l0 (l0.length : Int) x11_1 y164 (y164.length : Int) (wrap64 (x20_2 + 1)) ((rd_T76 l0 x11_1).f0) ((rd_T76 l0 x11_1).f1) ((rd_T76 l0 x11_1).f2))) = some (r1, r2, r3) := by rw [if_neg (show ¬ (false = true) by decide)] at H; exact H
                clear H
                have H := H1
                clear H1
                by_cases c31 : ((rd_T76 l0 x11_1).f1) = ((rd_T76 y164 x20_2).f1)
                ·rw [if_pos c31] at H
                 have c31b0 : (((rd_T76 l0 x11_1).f1) == ((rd_T76 y164 x20_2).f1)) = true := beq_iff_eq.mpr c31
                 have c31b1 : (((rd_T76 l0 x11_1).f1) != ((rd_T76 y164 x20_2).f1)) = false := bne_eq_false_iff_eq.mpr c31
                 clear c31
                 by_cases c32 : ((rd_T76 l0 x11_1).f0) = ((rd_T76 y164 x20_2).f0)
                 ·rw [if_pos c32] at H
                  have c32b0 : (((rd_T76 l0 x11_1).f0) == ((rd_T76 y164 x20_2).f0)) = true := beq_iff_eq.mpr c32
                  have c32b1 : (((rd_T76 l0 x11_1).f0) != ((rd_T76 y164 x20_2).f0)) = false := bne_eq_false_iff_eq.mpr c32
                  clear c32
                  have H' := Aside0.mk H
                  clear H
                  have hnb33 := NB163_169.out
                  have hnc33 := NB169_163.out
                  have hcz34_0 : wc.cell? ⟨gb163, 0, none⟩ = some (.int .i64 ((rd_T76 l0 x11_1).f0)) := (blk_cell BK163.out 0).trans rfl
                  have hcz34_1 : wc.cell? ⟨gb163, 1, none⟩ = some (.int .i64 ((rd_T76 l0 x11_1).f1)) := (blk_cell BK163.out 1).trans rfl
                  have hcz34_2 : wc.cell? ⟨gb163, 2, none⟩ = some (.int .i64 ((rd_T76 l0 x11_1).f2)) := (blk_cell BK163.out 2).trans rfl
                  have hfz34_0 := blk_frozen BK163.out 0
                  have hfz34_1 := blk_frozen BK163.out 1
                  have hfz34_2 := blk_frozen BK163.out 2
                  have hcz35_0 : wc.cell? ⟨gb169, 0, none⟩ = some (.int .i64 ((rd_T76 y164 x20_2).f0)) := (blk_cell BK169.out 0).trans rfl
                  have hcz35_1 : wc.cell? ⟨gb169, 1, none⟩ = some (.int .i64 ((rd_T76 y164 x20_2).f1)) := (blk_cell BK169.out 1).trans rfl
                  have hcz35_2 : wc.cell? ⟨gb169, 2, none⟩ = some (.int .i64 ((rd_T76 y164 x20_2).f2)) := (blk_cell BK169.out 2).trans rfl
                  have hfz35_0 := blk_frozen BK169.out 0
                  have hfz35_1 := blk_frozen BK169.out 1
                  have hfz35_2 := blk_frozen BK169.out 2
                  go_wp2
                  repeat (go_quiet (fail); try go_wp2)
                  go_roundg kj14
                  case measure => have := HK1.out; have := HK2.out; have := HJ14.out; omega
                  case rel => exact ⟨(wrap64 (x20_2 + 1)), (by first | rfl | (simp; done) | (simp [*]; done)), H', ⟨by have := HK1.out; have := HK2.out; have := HJ14.out; omega⟩, ⟨by (with_reducible repeat (first | refine blk_drewN ?_ _ | refine blk_drew ?_ | refine blk_alloc ?_ _)); exact BK163.out⟩, ⟨by repeat (first | (with_reducible first | exact HB.out | apply below_alloc | apply pw_below_drewN | apply below_drew1 | refine below_set ?_ GE163.out | refine below_set ?_ GE169.out) | exact HB.out)⟩⟩
                 ·rw [if_neg c32] at H
                  have c32b0 : (((rd_T76 l0 x11_1).f0) == ((rd_T76 y164 x20_2).f0)) = false := beq_eq_false_iff_ne.mpr c32
                  have c32b1 : (((rd_T76 l0 x11_1).f0) != ((rd_T76 y164 x20_2).f0)) = true := bne_iff_ne.mpr c32
                  simp only [Option.some.injEq, Prod.mk.injEq] at H
                  obtain ⟨rfl, rfl, rfl⟩ := H
                  have hnb36 := NB163_169.out
                  have hnc36 := NB169_163.out
                  have hcz37_0 : wc.cell? ⟨gb163, 0, none⟩ = some (.int .i64 ((rd_T76 l0 x11_1).f0)) := (blk_cell BK163.out 0).trans rfl
                  have hcz37_1 : wc.cell? ⟨gb163, 1, none⟩ = some (.int .i64 ((rd_T76 l0 x11_1).f1)) := (blk_cell BK163.out 1).trans rfl
                  have hcz37_2 : wc.cell? ⟨gb163, 2, none⟩ = some (.int .i64 ((rd_T76 l0 x11_1).f2)) := (blk_cell BK163.out 2).trans rfl
                  have hfz37_0 := blk_frozen BK163.out 0
                  have hfz37_1 := blk_frozen BK163.out 1
                  have hfz37_2 := blk_frozen BK163.out 2
                  have hcz38_0 : wc.cell? ⟨gb169, 0, none⟩ = some (.int .i64 ((rd_T76 y164 x20_2).f0)) := (blk_cell BK169.out 0).trans rfl
                  have hcz38_1 : wc.cell? ⟨gb169, 1, none⟩ = some (.int .i64 ((rd_T76 y164 x20_2).f1)) := (blk_cell BK169.out 1).trans rfl
                  have hcz38_2 : wc.cell? ⟨gb169, 2, none⟩ = some (.int .i64 ((rd_T76 y164 x20_2).f2)) := (blk_cell BK169.out 2).trans rfl
                  have hfz38_0 := blk_frozen BK169.out 0
                  have hfz38_1 := blk_frozen BK169.out 1
                  have hfz38_2 := blk_frozen BK169.out 2
                  go_wp2
                  repeat (go_quiet (fail); try go_wp2)
                  go_ret3
                  exact ⟨by first | rfl | (simp [errW_none, errW_some] <;> rfl) | (simp [*, errW_none, errW_some] <;> rfl), by repeat (first | (with_reducible first | exact HB.out | apply below_alloc | apply pw_below_drewN | apply below_drew1 | refine below_set ?_ GE163.out | refine below_set ?_ GE169.out) | exact HB.out)⟩
                ·rw [if_neg c31] at H
                 have c31b0 : (((rd_T76 l0 x11_1).f1) == ((rd_T76 y164 x20_2).f1)) = false := beq_eq_false_iff_ne.mpr c31
                 have c31b1 : (((rd_T76 l0 x11_1).f1) != ((rd_T76 y164 x20_2).f1)) = true := bne_iff_ne.mpr c31
                 have H' := Aside0.mk H
                 clear H
                 have hnb39 := NB163_169.out
                 have hnc39 := NB169_163.out
                 have hcz40_0 : wc.cell? ⟨gb163, 0, none⟩ = some (.int .i64 ((rd_T76 l0 x11_1).f0)) := (blk_cell BK163.out 0).trans rfl
                 have hcz40_1 : wc.cell? ⟨gb163, 1, none⟩ = some (.int .i64 ((rd_T76 l0 x11_1).f1)) := (blk_cell BK163.out 1).trans rfl
                 have hcz40_2 : wc.cell? ⟨gb163, 2, none⟩ = some (.int .i64 ((rd_T76 l0 x11_1).f2)) := (blk_cell BK163.out 2).trans rfl
                 have hfz40_0 := blk_frozen BK163.out 0
                 have hfz40_1 := blk_frozen BK163.out 1
                 have hfz40_2 := blk_frozen BK163.out 2
                 have hcz41_0 : wc.cell? ⟨gb169, 0, none⟩ = some (.int .i64 ((rd_T76 y164 x20_2).f0)) := (blk_cell BK169.out 0).trans rfl
                 have hcz41_1 : wc.cell? ⟨gb169, 1, none⟩ = some (.int .i64 ((rd_T76 y164 x20_2).f1)) := (blk_cell BK169.out 1).trans rfl
                 have hcz41_2 : wc.cell? ⟨gb169, 2, none⟩ = some (.int .i64 ((rd_T76 y164 x20_2).f2)) := (blk_cell BK169.out 2).trans rfl
                 have hfz41_0 := blk_frozen BK169.out 0
                 have hfz41_1 := blk_frozen BK169.out 1
                 have hfz41_2 := blk_frozen BK169.out 2
                 go_wp2
                 repeat (go_quiet (fail); try go_wp2)
                 go_roundg kj14
                 case measure => have := HK1.out; have := HK2.out; have := HJ14.out; omega
                 case rel => exact ⟨(wrap64 (x20_2 + 1)), (by first | rfl | (simp; done) | (simp [*]; done)), H', ⟨by have := HK1.out; have := HK2.out; have := HJ14.out; omega⟩, ⟨by (with_reducible repeat (first | refine blk_drewN ?_ _ | refine blk_drew ?_ | refine blk_alloc ?_ _)); exact BK163.out⟩, ⟨by repeat (first | (with_reducible first | exact HB.out | apply below_alloc | apply pw_below_drewN | apply below_drew1 | refine below_set ?_ GE163.out | refine below_set ?_ GE169.out) | exact HB.out)⟩⟩
            ·rw [if_neg c14] at H
             have c14b0 : (((rd_T76 l0 x11_1).f2) == ((rd_T76 y164 x20_2).f2)) = false := beq_eq_false_iff_ne.mpr c14
             have c14b1 : (((rd_T76 l0 x11_1).f2) != ((rd_T76 y164 x20_2).f2)) = true := bne_iff_ne.mpr c14
             have H' := Aside0.mk H
             clear H
             have p168 : 0 ≤ (x20_2 : Int) := of_decide_eq_true (by first | (with_reducible assumption) | assumption)
             have q168 : x20_2 < (y164.length : Int) := of_decide_eq_true (by first | (with_reducible assumption) | assumption)
             obtain ⟨ad168, e168, hx168_0, hx168_1, hx168_2⟩ := at_T76 HR167.out x20_2 p168 q168
             obtain rfl : ad162 = ad168 := (by injection e168)
             replace hx168_0 := (HB.out.cell (World.block_lt_of_cell? w _ hx168_0)).trans hx168_0
             replace hx168_1 := (HB.out.cell (World.block_lt_of_cell? w _ hx168_1)).trans hx168_1
             replace hx168_2 := (HB.out.cell (World.block_lt_of_cell? w _ hx168_2)).trans hx168_2
             replace p168 := eq_true p168
             replace q168 := eq_true q168
             go_wp2_with (first | ((with_reducible refine gate_dst (N := 8) rfl ?_); refine box_event ?hg (N := 8) ?hd (cs := #[.int .i64 0, .int .i64 0, .int .i64 0]) (t := 76) ?hr ?_; (case hd => rfl); (case hg => rfl); (case hr => first | (go_simp; done) | (go_simp; rfl)); intro gb169 hg w42 hbox hb; have n0_ := Aside0.mk (blk_below (g := gb163) (o := .cells #[.int .i64 ((rd_T76 l0 x11_1).f0), .int .i64 ((rd_T76 l0 x11_1).f1), .int .i64 ((rd_T76 l0 x11_1).f2)] 76 (0, 0)) (by (with_reducible repeat (first | refine blk_drewN ?_ _ | refine blk_drew ?_ | refine blk_alloc ?_ _)); exact BK163.out) hb); have n1_ := Aside0.mk (below_step (by repeat (first | (with_reducible first | exact HB.out | apply below_alloc | apply pw_below_drewN | apply below_drew1 | refine below_set ?_ GE163.out) | exact HB.out)) hb); have n2_ := Aside0.mk (hbox); have n3_ := Aside0.mk ((by rw [hg]; exact (below_size (by repeat (first | (with_reducible first | exact HB.out | apply below_alloc | apply pw_below_drewN | apply below_drew1 | refine below_set ?_ GE163.out) | exact HB.out))) : w.heap.size ≤ gb169)); have n4_ := Aside0.mk ((by rw [hg]; exact (below_size (by repeat (first | (with_reducible first | exact HB.out | apply below_alloc | apply pw_below_drewN | apply below_drew1 | refine below_set ?_ GE163.out) | exact HB.out))) : w.heap.size ≤ gb169)); have n5_ := Aside0.mk ((by rw [hg]; exact Nat.ne_of_lt (blk_lt (g := gb163) (o := .cells #[.int .i64 ((rd_T76 l0 x11_1).f0), .int .i64 ((rd_T76 l0 x11_1).f1), .int .i64 ((rd_T76 l0 x11_1).f2)] 76 (0, 0)) (by (with_reducible repeat (first | refine blk_drewN ?_ _ | refine blk_drew ?_ | refine blk_alloc ?_ _)); exact BK163.out)) : gb163 ≠ gb169)); have n6_ := Aside0.mk ((by rw [hg]; exact Nat.ne_of_gt (blk_lt (g := gb163) (o := .cells #[.int .i64 ((rd_T76 l0 x11_1).f0), .int .i64 ((rd_T76 l0 x11_1).f1), .int .i64 ((rd_T76 l0 x11_1).f2)] 76 (0, 0)) (by (with_reducible repeat (first | refine blk_drewN ?_ _ | refine blk_drew ?_ | refine blk_alloc ?_ _)); exact BK163.out)) : gb169 ≠ gb163)); clear BK163; clear HB; have BK163 := n0_; have HB := n1_; have BK169 := n2_; have GW169 := n3_; have GE169 := n4_; have NB163_169 := n5_; have NB169_163 := n6_; clear n0_ n1_ n2_ n3_ n4_ n5_ n6_; clear hb hbox hg; have hnb43 := NB169_163.out; have hnc43 := NB163_169.out; have hcz44_0 : w42.cell? ⟨gb169, 0, none⟩ = some (.int .i64 0) := (blk_cell BK169.out 0).trans rfl; have hcz44_1 : w42.cell? ⟨gb169, 1, none⟩ = some (.int .i64 0) := (blk_cell BK169.out 1).trans rfl; have hcz44_2 : w42.cell? ⟨gb169, 2, none⟩ = some (.int .i64 0) := (blk_cell BK169.out 2).trans rfl; have hfz44_0 := blk_frozen BK169.out 0; have hfz44_1 := blk_frozen BK169.out 1; have hfz44_2 := blk_frozen BK169.out 2; have hcz45_0 : w42.cell? ⟨gb163, 0, none⟩ = some (.int .i64 ((rd_T76 l0 x11_1).f0)) := (blk_cell BK163.out 0).trans rfl; have hcz45_1 : w42.cell? ⟨gb163, 1, none⟩ = some (.int .i64 ((rd_T76 l0 x11_1).f1)) := (blk_cell BK163.out 1).trans rfl; have hcz45_2 : w42.cell? ⟨gb163, 2, none⟩ = some (.int .i64 ((rd_T76 l0 x11_1).f2)) := (blk_cell BK163.out 2).trans rfl; have hfz45_0 := blk_frozen BK163.out 0; have hfz45_1 := blk_frozen BK163.out 1; have hfz45_2 := blk_frozen BK163.out 2))
             repeat (go_quiet (first | ((with_reducible refine gate_dst (N := 8) rfl ?_); refine box_event ?hg (N := 8) ?hd (cs := #[.int .i64 0, .int .i64 0, .int .i64 0]) (t := 76) ?hr ?_; (case hd => rfl); (case hg => rfl); (case hr => first | (go_simp; done) | (go_simp; rfl)); intro gb169 hg w42 hbox hb; have n0_ := Aside0.mk (blk_below (g := gb163) (o := .cells #[.int .i64 ((rd_T76 l0 x11_1).f0), .int .i64 ((rd_T76 l0 x11_1).f1), .int .i64 ((rd_T76 l0 x11_1).f2)] 76 (0, 0)) (by (with_reducible repeat (first | refine blk_drewN ?_ _ | refine blk_drew ?_ | refine blk_alloc ?_ _)); exact BK163.out) hb); have n1_ := Aside0.mk (below_step (by repeat (first | (with_reducible first | exact HB.out | apply below_alloc | apply pw_below_drewN | apply below_drew1 | refine below_set ?_ GE163.out) | exact HB.out)) hb); have n2_ := Aside0.mk (hbox); have n3_ := Aside0.mk ((by rw [hg]; exact (below_size (by repeat (first | (with_reducible first | exact HB.out | apply below_alloc | apply pw_below_drewN | apply below_drew1 | refine below_set ?_ GE163.out) | exact HB.out))) : w.heap.size ≤ gb169)); have n4_ := Aside0.mk ((by rw [hg]; exact (below_size (by repeat (first | (with_reducible first | exact HB.out | apply below_alloc | apply pw_below_drewN | apply below_drew1 | refine below_set ?_ GE163.out) | exact HB.out))) : w.heap.size ≤ gb169)); have n5_ := Aside0.mk ((by rw [hg]; exact Nat.ne_of_lt (blk_lt (g := gb163) (o := .cells #[.int .i64 ((rd_T76 l0 x11_1).f0), .int .i64 ((rd_T76 l0 x11_1).f1), .int .i64 ((rd_T76 l0 x11_1).f2)] 76 (0, 0)) (by (with_reducible repeat (first | refine blk_drewN ?_ _ | refine blk_drew ?_ | refine blk_alloc ?_ _)); exact BK163.out)) : gb163 ≠ gb169)); have n6_ := Aside0.mk ((by rw [hg]; exact Nat.ne_of_gt (blk_lt (g := gb163) (o := .cells #[.int .i64 ((rd_T76 l0 x11_1).f0), .int .i64 ((rd_T76 l0 x11_1).f1), .int .i64 ((rd_T76 l0 x11_1).f2)] 76 (0, 0)) (by (with_reducible repeat (first | refine blk_drewN ?_ _ | refine blk_drew ?_ | refine blk_alloc ?_ _)); exact BK163.out)) : gb169 ≠ gb163)); clear BK163; clear HB; have BK163 := n0_; have HB := n1_; have BK169 := n2_; have GW169 := n3_; have GE169 := n4_; have NB163_169 := n5_; have NB169_163 := n6_; clear n0_ n1_ n2_ n3_ n4_ n5_ n6_; clear hb hbox hg; have hnb43 := NB169_163.out; have hnc43 := NB163_169.out; have hcz44_0 : w42.cell? ⟨gb169, 0, none⟩ = some (.int .i64 0) := (blk_cell BK169.out 0).trans rfl; have hcz44_1 : w42.cell? ⟨gb169, 1, none⟩ = some (.int .i64 0) := (blk_cell BK169.out 1).trans rfl; have hcz44_2 : w42.cell? ⟨gb169, 2, none⟩ = some (.int .i64 0) := (blk_cell BK169.out 2).trans rfl; have hfz44_0 := blk_frozen BK169.out 0; have hfz44_1 := blk_frozen BK169.out 1; have hfz44_2 := blk_frozen BK169.out 2; have hcz45_0 : w42.cell? ⟨gb163, 0, none⟩ = some (.int .i64 ((rd_T76 l0 x11_1).f0)) := (blk_cell BK163.out 0).trans rfl; have hcz45_1 : w42.cell? ⟨gb163, 1, none⟩ = some (.int .i64 ((rd_T76 l0 x11_1).f1)) := (blk_cell BK163.out 1).trans rfl; have hcz45_2 : w42.cell? ⟨gb163, 2, none⟩ = some (.int .i64 ((rd_T76 l0 x11_1).f2)) := (blk_cell BK163.out 2).trans rfl; have hfz45_0 := blk_frozen BK163.out 0; have hfz45_1 := blk_frozen BK163.out 1; have hfz45_2 := blk_frozen BK163.out 2)); try go_wp2_with (first | ((with_reducible refine gate_dst (N := 8) rfl ?_); refine box_event ?hg (N := 8) ?hd (cs := #[.int .i64 0, .int .i64 0, .int .i64 0]) (t := 76) ?hr ?_; (case hd => rfl); (case hg => rfl); (case hr => first | (go_simp; done) | (go_simp; rfl)); intro gb169 hg w42 hbox hb; have n0_ := Aside0.mk (blk_below (g := gb163) (o := .cells #[.int .i64 ((rd_T76 l0 x11_1).f0), .int .i64 ((rd_T76 l0 x11_1).f1), .int .i64 ((rd_T76 l0 x11_1).f2)] 76 (0, 0)) (by (with_reducible repeat (first | refine blk_drewN ?_ _ | refine blk_drew ?_ | refine blk_alloc ?_ _)); exact BK163.out) hb); have n1_ := Aside0.mk (below_step (by repeat (first | (with_reducible first | exact HB.out | apply below_alloc | apply pw_below_drewN | apply below_drew1 | refine below_set ?_ GE163.out) | exact HB.out)) hb); have n2_ := Aside0.mk (hbox); have n3_ := Aside0.mk ((by rw [hg]; exact (below_size (by repeat (first | (with_reducible first | exact HB.out | apply below_alloc | apply pw_below_drewN | apply below_drew1 | refine below_set ?_ GE163.out) | exact HB.out))) : w.heap.size ≤ gb169)); have n4_ := Aside0.mk ((by rw [hg]; exact (below_size (by repeat (first | (with_reducible first | exact HB.out | apply below_alloc | apply pw_below_drewN | apply below_drew1 | refine below_set ?_ GE163.out) | exact HB.out))) : w.heap.size ≤ gb169)); have n5_ := Aside0.mk ((by rw [hg]; exact Nat.ne_of_lt (blk_lt (g := gb163) (o := .cells #[.int .i64 ((rd_T76 l0 x11_1).f0), .int .i64 ((rd_T76 l0 x11_1).f1), .int .i64 ((rd_T76 l0 x11_1).f2)] 76 (0, 0)) (by (with_reducible repeat (first | refine blk_drewN ?_ _ | refine blk_drew ?_ | refine blk_alloc ?_ _)); exact BK163.out)) : gb163 ≠ gb169)); have n6_ := Aside0.mk ((by rw [hg]; exact Nat.ne_of_gt (blk_lt (g := gb163) (o := .cells #[.int .i64 ((rd_T76 l0 x11_1).f0), .int .i64 ((rd_T76 l0 x11_1).f1), .int .i64 ((rd_T76 l0 x11_1).f2)] 76 (0, 0)) (by (with_reducible repeat (first | refine blk_drewN ?_ _ | refine blk_drew ?_ | refine blk_alloc ?_ _)); exact BK163.out)) : gb169 ≠ gb163)); clear BK163; clear HB; have BK163 := n0_; have HB := n1_; have BK169 := n2_; have GW169 := n3_; have GE169 := n4_; have NB163_169 := n5_; have NB169_163 := n6_; clear n0_ n1_ n2_ n3_ n4_ n5_ n6_; clear hb hbox hg; have hnb43 := NB169_163.out; have hnc43 := NB163_169.out; have hcz44_0 : w42.cell? ⟨gb169, 0, none⟩ = some (.int .i64 0) := (blk_cell BK169.out 0).trans rfl; have hcz44_1 : w42.cell? ⟨gb169, 1, none⟩ = some (.int .i64 0) := (blk_cell BK169.out 1).trans rfl; have hcz44_2 : w42.cell? ⟨gb169, 2, none⟩ = some (.int .i64 0) := (blk_cell BK169.out 2).trans rfl; have hfz44_0 := blk_frozen BK169.out 0; have hfz44_1 := blk_frozen BK169.out 1; have hfz44_2 := blk_frozen BK169.out 2; have hcz45_0 : w42.cell? ⟨gb163, 0, none⟩ = some (.int .i64 ((rd_T76 l0 x11_1).f0)) := (blk_cell BK163.out 0).trans rfl; have hcz45_1 : w42.cell? ⟨gb163, 1, none⟩ = some (.int .i64 ((rd_T76 l0 x11_1).f1)) := (blk_cell BK163.out 1).trans rfl; have hcz45_2 : w42.cell? ⟨gb163, 2, none⟩ = some (.int .i64 ((rd_T76 l0 x11_1).f2)) := (blk_cell BK163.out 2).trans rfl; have hfz45_0 := blk_frozen BK163.out 0; have hfz45_1 := blk_frozen BK163.out 1; have hfz45_2 := blk_frozen BK163.out 2)))
             go_roundg k2
             case measure => have := HK1.out; have := HK2.out; omega
             case rel => exact ⟨(wrap64 (x20_2 + 1)), (by first | rfl | (simp; done) | (simp [*]; done)), H', ⟨by have := HK1.out; have := HK2.out; omega⟩, ⟨by (with_reducible repeat (first | refine blk_drewN ?_ _ | refine blk_drew ?_ | refine blk_alloc ?_ _)); refine blk_far ?_ NB163_169.out _; (with_reducible repeat (first | refine blk_drewN ?_ _ | refine blk_drew ?_ | refine blk_alloc ?_ _)); refine blk_far ?_ NB163_169.out _; (with_reducible repeat (first | refine blk_drewN ?_ _ | refine blk_drew ?_ | refine blk_alloc ?_ _)); refine blk_far ?_ NB163_169.out _; (with_reducible repeat (first | refine blk_drewN ?_ _ | refine blk_drew ?_ | refine blk_alloc ?_ _)); exact BK163.out⟩, ⟨by repeat (first | (with_reducible first | exact HB.out | apply below_alloc | apply pw_below_drewN | apply below_drew1 | refine below_set ?_ GE163.out | refine below_set ?_ GE169.out) | exact HB.out)⟩⟩
           ·rw [if_neg c13] at H
            exact absurd H (by simp)
          ·rw [if_neg c12] at H
           exact absurd H (by simp)
         ·rw [if_neg c11] at H
          have c11b0 : decide (x20_2 < (y164.length : Int)) = false := decide_eq_false c11
          clear c11
          have H' := Aside0.mk H
          clear H
          go_wp2
          repeat (go_quiet (fail); try go_wp2)
          go_roundg k2
          case measure => have := HK1.out; have := HK2.out; omega
          case rel => exact ⟨(wrap64 (x11_1 + 1)), (by first | rfl | (simp; done) | (simp [*]; done)), H', ⟨by have := HK1.out; have := HK2.out; omega⟩, ⟨by repeat (first | (with_reducible first | exact HB.out | apply below_alloc | apply pw_below_drewN | apply below_drew1 | refine below_set ?_ GE163.out) | exact HB.out)⟩⟩
      ·rw [if_neg c6] at H
       exact absurd H (by simp)
     ·rw [if_neg c4] at H
      exact absurd H (by simp)
    ·rw [if_neg c3] at H
     exact absurd H (by simp)
   ·rw [if_neg c2] at H
    have c2b0 : decide (x11_1 < (l0.length : Int)) = false := decide_eq_false c2
    clear c2
    simp only [Option.some.injEq, Prod.mk.injEq] at H
    obtain ⟨rfl, rfl, rfl⟩ := H
    go_wp2
    repeat (go_quiet (fail); try go_wp2)
    go_ret3
    exact ⟨by first | rfl | (simp [errW_none, errW_some] <;> rfl) | (simp [*, errW_none, errW_some] <;> rfl), by repeat (first | (with_reducible first | exact HB.out | apply below_alloc | apply pw_below_drewN | apply below_drew1) | exact HB.out)⟩

end Go.Proofs.Ytajacklnhfjmpaa.PFnExactRankOf
