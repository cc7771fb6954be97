-- Written by this session's program oprint.py over the print of the kit: what the print does not take are texts of this session.
import Derived.Test.YtajacklnhfjmpabPFnExactComplementOfx0
import Derived.Test.YtajacklnhfjmpabPFnExactComplementOfx1
import Derived.Test.YtajacklnhfjmpabPFnExactComplementOfx2
import Derived.Test.YtajacklnhfjmpabPFnExactComplementOfx3
import Derived.Test.YtajacklnhfjmpabPFnExactComplementOfx4
import Derived.Test.YtajacklnhfjmpabPFnExactComplementOfx5
import Derived.Test.YtajacklnhfjmpabPFnExactComplementOfx6
namespace Go.Proofs.Ytajacklnhfjmpab.PFnExactComplementOf
open Go.RowKit Go.Proofs.YtajacklnhfjmpabW.PrintWords Go.Proofs.YtajacklnhfjmpabW.PrintLast Go.Proofs.YtajacklnhfjmpabW.PrintMore
attribute [local go_sem] max2_int min2_int max_two min_two max_three min_three max_four min_four   -- for this text's walks alone
set_option linter.unusedVariables false
set_option linter.unusedSimpArgs false

/-! ### laws_FnExactComplementOf: function 3 -/
mutual
def laws_FnExactComplementOf.j0 : Nat → Bool → Bool → Bool → Int → List Int → List Bool → Int → List Int → List Bool → Int → List Int → List Bool → Int → List Int → List Bool → Option (Bool)
 | 0, _, _, _, _, _, _, _, _, _, _, _, _, _, _, _ => none
 | k + 1, x5, x8, x40, x204000, x204001, x204002, x221000, x221001, x221002, x229000, x229001, x229002, x238000, x238001, x238002 => if x40 = true then (some false) else ((laws_toAutomaton.f k x204000 x204001 x204002).bind fun bt239 => ((laws_eqAutomaton.f k x229000 x229001 x229002 bt239.1 bt239.2.1 bt239.2.2).bind fun t246 => (if t246 = true then ((laws_markAutomaton.f k x229000 x229001 x229002 1).bind fun bt247 => (if bt247.1 < 0 then (laws_FnExactComplementOf.j1 k x5 true x204000 x204001 x204002 x221000 x221001 x221002 x238000 x238001 x238002) else ((laws_eqAutomaton.f k x238000 x238001 x238002 x221000 x221001 x221002).bind fun t250 => (if t250 = true then (laws_FnExactComplementOf.j1 k x5 (x8 != x5) x204000 x204001 x204002 x221000 x221001 x221002 x238000 x238001 x238002) else (laws_FnExactComplementOf.j1 k x5 true x204000 x204001 x204002 x221000 x221001 x221002 x238000 x238001 x238002))))) else (some false))))
def laws_FnExactComplementOf.j1 : Nat → Bool → Bool → Int → List Int → List Bool → Int → List Int → List Bool → Int → List Int → List Bool → Option (Bool)
 | 0, _, _, _, _, _, _, _, _, _, _, _ => none
 | k + 1, x5, x61, x204000, x204001, x204002, x221000, x221001, x221002, x238000, x238001, x238002 => if x61 = true then (some false) else ((laws_markAutomaton.f k x238000 x238001 x238002 1).bind fun bt251 => ((laws_heldAutomaton.f k x238000 bt251.2.1 bt251.2.2 1).bind fun t254 => (if t254 < 0 then (some false) else (if t254 = bt251.1 then ((laws_toAutomaton.f k x204000 x204001 x204002).bind fun bt255 => ((impl_ComplementOf.f k bt255.1 bt255.2.1 bt255.2.2).bind fun bt262 => ((laws_eqAutomaton.f k bt262.1 bt262.2.1 bt262.2.2.1 x221000 x221001 x221002).bind fun t271 => (if t271 = true then (laws_FnExactComplementOf.j2 k bt251.1 (bt262.2.2.2 != x5) x238000 bt251.2.1 bt251.2.2) else (laws_FnExactComplementOf.j2 k bt251.1 true x238000 bt251.2.1 bt251.2.2))))) else (some false)))))
def laws_FnExactComplementOf.j2 : Nat → Int → Bool → Int → List Int → List Bool → Option (Bool)
 | 0, _, _, _, _, _ => none
 | k + 1, x10, x87, x238000, x238001, x238002 => if x87 = true then (some false) else ((laws_heldAutomaton.f k x238000 x238001 x238002 1).bind fun t272 => (if t272 < 0 then (some false) else (if t272 = x10 then (some true) else (some false))))
end
def laws_FnExactComplementOf.f (k : Nat) (a0_0 : Int) (l0_1 : List Int) (l0_2 : List Bool) : Option (Bool) := (laws_szAutomaton.f a0_0 l0_1 l0_2 1048576).bind fun t204 => (if t204 < 0 then (some true) else ((laws_toAutomaton.f k a0_0 l0_1 l0_2).bind fun bt205 => ((spec_ComplementOf.f k bt205.1 bt205.2.1 bt205.2.2).bind fun bt212 => ((laws_toAutomaton.f k a0_0 l0_1 l0_2).bind fun bt221 => ((impl_ComplementOf.f k bt221.1 bt221.2.1 bt221.2.2).bind fun bt229 => ((laws_eqAutomaton.f k bt229.1 bt229.2.1 bt229.2.2.1 bt212.1 bt212.2.1 bt212.2.2.1).bind fun t238 => (if t238 = true then (laws_FnExactComplementOf.j0 k bt212.2.2.2 bt229.2.2.2 (bt229.2.2.2 != bt212.2.2.2) a0_0 l0_1 l0_2 bt212.1 bt212.2.1 bt212.2.2.1 bt221.1 bt221.2.1 bt221.2.2 bt229.1 bt229.2.1 bt229.2.2.1) else (laws_FnExactComplementOf.j0 k bt212.2.2.2 bt229.2.2.2 true a0_0 l0_1 l0_2 bt212.1 bt212.2.1 bt212.2.2.1 bt221.1 bt221.2.1 bt221.2.2 bt229.1 bt229.2.1 bt229.2.2.1))))))))
theorem laws_FnExactComplementOf.mono_l : ∀ k, (∀ y0 y1 y2 y3 y4 y5 y6 y7 y8 y9 y10 y11 y12 y13 y14, LeO (laws_FnExactComplementOf.j0 k y0 y1 y2 y3 y4 y5 y6 y7 y8 y9 y10 y11 y12 y13 y14) (laws_FnExactComplementOf.j0 (k + 1) y0 y1 y2 y3 y4 y5 y6 y7 y8 y9 y10 y11 y12 y13 y14)) ∧ (∀ y0 y1 y2 y3 y4 y5 y6 y7 y8 y9 y10, LeO (laws_FnExactComplementOf.j1 k y0 y1 y2 y3 y4 y5 y6 y7 y8 y9 y10) (laws_FnExactComplementOf.j1 (k + 1) y0 y1 y2 y3 y4 y5 y6 y7 y8 y9 y10)) ∧ (∀ y0 y1 y2 y3 y4, LeO (laws_FnExactComplementOf.j2 k y0 y1 y2 y3 y4) (laws_FnExactComplementOf.j2 (k + 1) y0 y1 y2 y3 y4))
 | 0 => ⟨fun _ _ _ _ _ _ _ _ _ _ _ _ _ _ _ r h => by simp [laws_FnExactComplementOf.j0] at h, fun _ _ _ _ _ _ _ _ _ _ _ r h => by simp [laws_FnExactComplementOf.j1] at h, fun _ _ _ _ _ r h => by simp [laws_FnExactComplementOf.j2] at h⟩
 | k + 1 => by
  obtain ⟨ih0, ih1, ih2⟩ := laws_FnExactComplementOf.mono_l k
  refine ⟨?_, ?_, ?_⟩
  ·intro y0 y1 y2 y3 y4 y5 y6 y7 y8 y9 y10 y11 y12 y13 y14
   unfold laws_FnExactComplementOf.j0
   repeat' first
   | (with_reducible exact ih0 _ _ _ _ _ _ _ _ _ _ _ _ _ _ _)
   | (with_reducible exact ih1 _ _ _ _ _ _ _ _ _ _ _)
   | (with_reducible exact ih2 _ _ _ _ _)
   | (with_reducible exact impl_ComplementOf.mono _ _ _ _)
   | (with_reducible exact laws_eqAutomaton.mono _ _ _ _ _ _ _)
   | (with_reducible exact laws_heldAutomaton.mono _ _ _ _ _)
   | (with_reducible exact laws_markAutomaton.mono _ _ _ _ _)
   | (with_reducible exact laws_toAutomaton.mono _ _ _ _)
   | (with_reducible exact spec_ComplementOf.mono _ _ _ _)
   | (with_reducible exact LeO.refl _)
   | (with_reducible exact LeO.none _)
   | (with_reducible refine LeO.ite ?_ ?_)
   | (with_reducible refine LeO.bind ?_ (fun _ => ?_))
   | exact ih0 _ _ _ _ _ _ _ _ _ _ _ _ _ _ _
   | exact ih1 _ _ _ _ _ _ _ _ _ _ _
   | exact ih2 _ _ _ _ _
   | exact impl_ComplementOf.mono _ _ _ _
   | exact laws_eqAutomaton.mono _ _ _ _ _ _ _
   | exact laws_heldAutomaton.mono _ _ _ _ _
   | exact laws_markAutomaton.mono _ _ _ _ _
   | exact laws_toAutomaton.mono _ _ _ _
   | exact spec_ComplementOf.mono _ _ _ _
   | exact LeO.none _
   | refine LeO.ite ?_ ?_
   | refine LeO.bind ?_ (fun _ => ?_)
  ·intro y0 y1 y2 y3 y4 y5 y6 y7 y8 y9 y10
   unfold laws_FnExactComplementOf.j1
   repeat' first
   | (with_reducible exact ih0 _ _ _ _ _ _ _ _ _ _ _ _ _ _ _)
   | (with_reducible exact ih1 _ _ _ _ _ _ _ _ _ _ _)
   | (with_reducible exact ih2 _ _ _ _ _)
   | (with_reducible exact impl_ComplementOf.mono _ _ _ _)
   | (with_reducible exact laws_eqAutomaton.mono _ _ _ _ _ _ _)
   | (with_reducible exact laws_heldAutomaton.mono _ _ _ _ _)
   | (with_reducible exact laws_markAutomaton.mono _ _ _ _ _)
   | (with_reducible exact laws_toAutomaton.mono _ _ _ _)
   | (with_reducible exact spec_ComplementOf.mono _ _ _ _)
   | (with_reducible exact LeO.refl _)
   | (with_reducible exact LeO.none _)
   | (with_reducible refine LeO.ite ?_ ?_)
   | (with_reducible refine LeO.bind ?_ (fun _ => ?_))
   | exact ih0 _ _ _ _ _ _ _ _ _ _ _ _ _ _ _
   | exact ih1 _ _ _ _ _ _ _ _ _ _ _
   | exact ih2 _ _ _ _ _
   | exact impl_ComplementOf.mono _ _ _ _
   | exact laws_eqAutomaton.mono _ _ _ _ _ _ _
   | exact laws_heldAutomaton.mono _ _ _ _ _
   | exact laws_markAutomaton.mono _ _ _ _ _
   | exact laws_toAutomaton.mono _ _ _ _
   | exact spec_ComplementOf.mono _ _ _ _
   | exact LeO.none _
   | refine LeO.ite ?_ ?_
   | refine LeO.bind ?_ (fun _ => ?_)
  ·intro y0 y1 y2 y3 y4
   unfold laws_FnExactComplementOf.j2
   repeat' first
   | (with_reducible exact ih0 _ _ _ _ _ _ _ _ _ _ _ _ _ _ _)
   | (with_reducible exact ih1 _ _ _ _ _ _ _ _ _ _ _)
   | (with_reducible exact ih2 _ _ _ _ _)
   | (with_reducible exact impl_ComplementOf.mono _ _ _ _)
   | (with_reducible exact laws_eqAutomaton.mono _ _ _ _ _ _ _)
   | (with_reducible exact laws_heldAutomaton.mono _ _ _ _ _)
   | (with_reducible exact laws_markAutomaton.mono _ _ _ _ _)
   | (with_reducible exact laws_toAutomaton.mono _ _ _ _)
   | (with_reducible exact spec_ComplementOf.mono _ _ _ _)
   | (with_reducible exact LeO.refl _)
   | (with_reducible exact LeO.none _)
   | (with_reducible refine LeO.ite ?_ ?_)
   | (with_reducible refine LeO.bind ?_ (fun _ => ?_))
   | exact ih0 _ _ _ _ _ _ _ _ _ _ _ _ _ _ _
   | exact ih1 _ _ _ _ _ _ _ _ _ _ _
   | exact ih2 _ _ _ _ _
   | exact impl_ComplementOf.mono _ _ _ _
   | exact laws_eqAutomaton.mono _ _ _ _ _ _ _
   | exact laws_heldAutomaton.mono _ _ _ _ _
   | exact laws_markAutomaton.mono _ _ _ _ _
   | exact laws_toAutomaton.mono _ _ _ _
   | exact spec_ComplementOf.mono _ _ _ _
   | exact LeO.none _
   | refine LeO.ite ?_ ?_
   | refine LeO.bind ?_ (fun _ => ?_)
theorem laws_FnExactComplementOf.mono : ∀ a0 a1 a2 k, LeO (laws_FnExactComplementOf.f k a0 a1 a2) (laws_FnExactComplementOf.f (k + 1) a0 a1 a2) := by
 intro a0 a1 a2 k
 obtain ⟨ih0, ih1, ih2⟩ := laws_FnExactComplementOf.mono_l k
 unfold laws_FnExactComplementOf.f
 repeat' first
   | (with_reducible exact ih0 _ _ _ _ _ _ _ _ _ _ _ _ _ _ _)
   | (with_reducible exact ih1 _ _ _ _ _ _ _ _ _ _ _)
   | (with_reducible exact ih2 _ _ _ _ _)
   | (with_reducible exact impl_ComplementOf.mono _ _ _ _)
   | (with_reducible exact laws_eqAutomaton.mono _ _ _ _ _ _ _)
   | (with_reducible exact laws_heldAutomaton.mono _ _ _ _ _)
   | (with_reducible exact laws_markAutomaton.mono _ _ _ _ _)
   | (with_reducible exact laws_toAutomaton.mono _ _ _ _)
   | (with_reducible exact spec_ComplementOf.mono _ _ _ _)
   | (with_reducible exact LeO.refl _)
   | (with_reducible exact LeO.none _)
   | (with_reducible refine LeO.ite ?_ ?_)
   | (with_reducible refine LeO.bind ?_ (fun _ => ?_))
   | exact ih0 _ _ _ _ _ _ _ _ _ _ _ _ _ _ _
   | exact ih1 _ _ _ _ _ _ _ _ _ _ _
   | exact ih2 _ _ _ _ _
   | exact impl_ComplementOf.mono _ _ _ _
   | exact laws_eqAutomaton.mono _ _ _ _ _ _ _
   | exact laws_heldAutomaton.mono _ _ _ _ _
   | exact laws_markAutomaton.mono _ _ _ _ _
   | exact laws_toAutomaton.mono _ _ _ _
   | exact spec_ComplementOf.mono _ _ _ _
   | exact LeO.none _
   | refine LeO.ite ?_ ?_
   | refine LeO.bind ?_ (fun _ => ?_)
set_option maxHeartbeats 8000000 in
set_option maxRecDepth 100000 in
theorem laws_FnExactComplementOf.calls (k : Nat) (a0_0 : Int) (A0_1 : Option Addr) (c0_1 : Nat) (l0_1 : List Int) (A0_2 : Option Addr) (c0_2 : Nat) (l0_2 : List Bool) (r : Bool) (w : World) (hr0_1 : Kd.C (Kd.int .i64) w A0_1 l0_1.length l0_1) (hc0_1 : l0_1.length ≤ c0_1) (hr0_2 : Kd.C Kd.bool w A0_2 l0_2.length l0_2) (hc0_2 : l0_2.length ≤ c0_2) (h : laws_FnExactComplementOf.f k a0_0 l0_1 l0_2 = some r) :
  Calls Try.prog 3 #[.agg #[.int .i64 a0_0, .slice A0_1 l0_1.length c0_1, .slice A0_2 l0_2.length c0_2]] w fun e w' => e = .returned (.bool r) ∧ Below w.heap.size w w' := by
 have hu25 := Try.underlying25
 have hu27 := Try.underlying27
 have HR0_1 := Aside0.mk hr0_1
 have HC0_1 := Aside0.mk hc0_1
 clear hr0_1 hc0_1
 have HR0_2 := Aside0.mk hr0_2
 have HC0_2 := Aside0.mk hc0_2
 clear hr0_2 hc0_2
 have HB := Aside0.mk (Below.refl w.heap.size w)
 have H : ((laws_szAutomaton.f a0_0 l0_1 l0_2 1048576).bind fun t204 => (if t204 < 0 then (some true) else ((laws_toAutomaton.f k a0_0 l0_1 l0_2).bind fun bt205 => ((spec_ComplementOf.f k bt205.1 bt205.2.1 bt205.2.2).bind fun bt212 => ((laws_toAutomaton.f k a0_0 l0_1 l0_2).bind fun bt221 => ((impl_ComplementOf.f k bt221.1 bt221.2.1 bt221.2.2).bind fun bt229 => ((laws_eqAutomaton.f k bt229.1 bt229.2.1 bt229.2.2.1 bt212.1 bt212.2.1 bt212.2.2.1).bind fun t238 => (if t238 = true then (laws_FnExactComplementOf.j0 k bt212.2.2.2 bt229.2.2.2 (bt229.2.2.2 != bt212.2.2.2) a0_0 l0_1 l0_2 bt212.1 bt212.2.1 bt212.2.2.1 bt221.1 bt221.2.1 bt221.2.2 bt229.1 bt229.2.1 bt229.2.2.1) else (laws_FnExactComplementOf.j0 k bt212.2.2.2 bt229.2.2.2 true a0_0 l0_1 l0_2 bt212.1 bt212.2.1 bt212.2.2.1 bt221.1 bt221.2.1 bt221.2.2 bt229.1 bt229.2.1 bt229.2.2.1))))))))) = some r := h
 clear h
 replace H := Option.bind_eq_some_iff.mp H
 obtain ⟨t204, A20, H⟩ := H
 replace H : (if t204 < 0 then (some true) else ((laws_toAutomaton.f k a0_0 l0_1 l0_2).bind fun bt205 => ((spec_ComplementOf.f k bt205.1 bt205.2.1 bt205.2.2).bind fun bt212 => ((laws_toAutomaton.f k a0_0 l0_1 l0_2).bind fun bt221 => ((impl_ComplementOf.f k bt221.1 bt221.2.1 bt221.2.2).bind fun bt229 => ((laws_eqAutomaton.f k bt229.1 bt229.2.1 bt229.2.2.1 bt212.1 bt212.2.1 bt212.2.2.1).bind fun t238 => (if t238 = true then (laws_FnExactComplementOf.j0 k bt212.2.2.2 bt229.2.2.2 (bt229.2.2.2 != bt212.2.2.2) a0_0 l0_1 l0_2 bt212.1 bt212.2.1 bt212.2.2.1 bt221.1 bt221.2.1 bt221.2.2 bt229.1 bt229.2.1 bt229.2.2.1) else (laws_FnExactComplementOf.j0 k bt212.2.2.2 bt229.2.2.2 true a0_0 l0_1 l0_2 bt212.1 bt212.2.1 bt212.2.2.1 bt221.1 bt221.2.1 bt221.2.2 bt229.1 bt229.2.1 bt229.2.2.1)))))))) = some r := H
 have A2 := Aside0.mk A20
 clear A20
 by_cases c3 : t204 < 0
 ·rw [if_pos c3] at H
  have c3b0 : decide (t204 < 0) = true := decide_eq_true c3
  clear c3
  obtain rfl := Option.some.inj H
  go_enter Try.func3, Try.ntmps3
  go_wp2_with (first | ((with_reducible refine gate_dst (N := 1) rfl ?_); refine box_event ?hg (N := 1) ?hd (cs := #[.int .i64 a0_0, .slice A0_1 l0_1.length c0_1, .slice A0_2 l0_2.length c0_2]) (t := 25) ?hr ?_; (case hd => rfl); (case hg => rfl); (case hr => first | (go_simp; done) | (go_simp; rfl)); intro gb203 hg w4 hbox hb; have n0_ := Aside0.mk (below_step (by repeat (first | (with_reducible first | exact HB.out | apply below_alloc | apply pw_below_drewN | apply below_drew1) | exact HB.out)) hb); have n1_ := Aside0.mk (hbox); have n2_ := Aside0.mk ((by rw [hg]; exact (below_size (by repeat (first | (with_reducible first | exact HB.out | apply below_alloc | apply pw_below_drewN | apply below_drew1) | exact HB.out))) : w.heap.size ≤ gb203)); have n3_ := Aside0.mk ((by rw [hg]; exact (below_size (by repeat (first | (with_reducible first | exact HB.out | apply below_alloc | apply pw_below_drewN | apply below_drew1) | exact HB.out))) : w.heap.size ≤ gb203)); clear HB; have HB := n0_; have BK203 := n1_; have GW203 := n2_; have GE203 := n3_; clear n0_ n1_ n2_ n3_; clear hb hbox hg; have hcz5_0 : w4.cell? ⟨gb203, 0, none⟩ = some (.int .i64 a0_0) := (blk_cell BK203.out 0).trans rfl; have hcz5_1 : w4.cell? ⟨gb203, 1, none⟩ = some (.slice A0_1 l0_1.length c0_1) := (blk_cell BK203.out 1).trans rfl; have hcz5_2 : w4.cell? ⟨gb203, 2, none⟩ = some (.slice A0_2 l0_2.length c0_2) := (blk_cell BK203.out 2).trans rfl; have hfz5_0 := blk_frozen BK203.out 0; have hfz5_1 := blk_frozen BK203.out 1; have hfz5_2 := blk_frozen BK203.out 2) | ((with_reducible refine gate_callee (f := 15) rfl ?_); refine goesL_ (some 16) rfl rfl Try.func15 (by kernel_rfl) rfl #[.agg #[.int .i64 a0_0, .slice A0_1 l0_1.length c0_1, .slice A0_2 l0_2.length c0_2], .int .i64 1048576] rfl (by (try simp only [List.map_toArray, List.map_cons, List.map_nil]); first | done | rfl | (simp only [Base.w64_u8]; rfl) | (simp only [List.length_drop, List.length_take]; rfl)) ?_; (with_reducible refine (laws_szAutomaton.calls a0_0 _ _ l0_1 _ _ l0_2 1048576 t204 _ ?side1 ?side2 ?side3 ?side4 A2.out).mono ?_); (case side1 => repeat (first | exact (Kd.C_below HR0_1.out HB.out) | (with_reducible refine Kd.C_alloc ?_ _) | (with_reducible refine Kd.C_drewN ?_ _) | (with_reducible refine Kd.C_drew ?_))); (case side2 => exact HC0_1.out); (case side3 => repeat (first | exact (Kd.C_below HR0_2.out HB.out) | (with_reducible refine Kd.C_alloc ?_ _) | (with_reducible refine Kd.C_drewN ?_ _) | (with_reducible refine Kd.C_drew ?_))); (case side4 => exact HC0_2.out); rintro e w6 ⟨rfl, hb⟩; refine ⟨_, rfl, ?_⟩; have n0_ := Aside0.mk (blk_below (g := gb203) (o := .cells #[.int .i64 a0_0, .slice A0_1 l0_1.length c0_1, .slice A0_2 l0_2.length c0_2] 25 (0, 0)) (by (with_reducible repeat (first | refine blk_drewN ?_ _ | refine blk_drew ?_ | refine blk_alloc ?_ _)); exact BK203.out) hb); have n1_ := Aside0.mk (below_step (by repeat (first | (with_reducible first | exact HB.out | apply below_alloc | apply pw_below_drewN | apply below_drew1 | refine below_set ?_ GE203.out) | exact HB.out)) hb); clear BK203; clear HB; have BK203 := n0_; have HB := n1_; clear n0_ n1_; (try clear hb); (try clear hb2); (try clear hk); (try clear hi)))
  go_ret
  exact ⟨by first | rfl | (simp [errW_none, errW_some] <;> rfl) | (simp [*, errW_none, errW_some] <;> rfl), by repeat (first | (with_reducible first | exact HB.out | apply below_alloc | apply pw_below_drewN | apply below_drew1 | refine below_set ?_ GE203.out) | exact HB.out)⟩
 ·rw [if_neg c3] at H
  have c3b0 : decide (t204 < 0) = false := decide_eq_false c3
  clear c3
  replace H := Option.bind_eq_some_iff.mp H
  obtain ⟨⟨t205, t206, t209⟩, A70, H⟩ := H
  replace H : ((spec_ComplementOf.f k t205 t206 t209).bind fun bt212 => ((laws_toAutomaton.f k a0_0 l0_1 l0_2).bind fun bt221 => ((impl_ComplementOf.f k bt221.1 bt221.2.1 bt221.2.2).bind fun bt229 => ((laws_eqAutomaton.f k bt229.1 bt229.2.1 bt229.2.2.1 bt212.1 bt212.2.1 bt212.2.2.1).bind fun t238 => (if t238 = true then (laws_FnExactComplementOf.j0 k bt212.2.2.2 bt229.2.2.2 (bt229.2.2.2 != bt212.2.2.2) a0_0 l0_1 l0_2 bt212.1 bt212.2.1 bt212.2.2.1 bt221.1 bt221.2.1 bt221.2.2 bt229.1 bt229.2.1 bt229.2.2.1) else (laws_FnExactComplementOf.j0 k bt212.2.2.2 bt229.2.2.2 true a0_0 l0_1 l0_2 bt212.1 bt212.2.1 bt212.2.2.1 bt221.1 bt221.2.1 bt221.2.2 bt229.1 bt229.2.1 bt229.2.2.1)))))) = some r := H
  have A7 := Aside0.mk A70
  clear A70
  replace H := Option.bind_eq_some_iff.mp H
  obtain ⟨⟨t212, t213, t216, t219⟩, A80, H⟩ := H
  replace H : ((laws_toAutomaton.f k a0_0 l0_1 l0_2).bind fun bt221 => ((impl_ComplementOf.f k bt221.1 bt221.2.1 bt221.2.2).bind fun bt229 => ((laws_eqAutomaton.f k bt229.1 bt229.2.1 bt229.2.2.1 t212 t213 t216).bind fun t238 => (if t238 = true then (laws_FnExactComplementOf.j0 k t219 bt229.2.2.2 (bt229.2.2.2 != t219) a0_0 l0_1 l0_2 t212 t213 t216 bt221.1 bt221.2.1 bt221.2.2 bt229.1 bt229.2.1 bt229.2.2.1) else (laws_FnExactComplementOf.j0 k t219 bt229.2.2.2 true a0_0 l0_1 l0_2 t212 t213 t216 bt221.1 bt221.2.1 bt221.2.2 bt229.1 bt229.2.1 bt229.2.2.1))))) = some r := H
  have A8 := Aside0.mk A80
  clear A80
  replace H := Option.bind_eq_some_iff.mp H
  obtain ⟨⟨t221, t222, t225⟩, A90, H⟩ := H
  replace H : ((impl_ComplementOf.f k t221 t222 t225).bind fun bt229 => ((laws_eqAutomaton.f k bt229.1 bt229.2.1 bt229.2.2.1 t212 t213 t216).bind fun t238 => (if t238 = true then (laws_FnExactComplementOf.j0 k t219 bt229.2.2.2 (bt229.2.2.2 != t219) a0_0 l0_1 l0_2 t212 t213 t216 t221 t222 t225 bt229.1 bt229.2.1 bt229.2.2.1) else (laws_FnExactComplementOf.j0 k t219 bt229.2.2.2 true a0_0 l0_1 l0_2 t212 t213 t216 t221 t222 t225 bt229.1 bt229.2.1 bt229.2.2.1)))) = some r := H
  have A9 := Aside0.mk A90
  clear A90
  replace H := Option.bind_eq_some_iff.mp H
  obtain ⟨⟨t229, t230, t233, t236⟩, A100, H⟩ := H
  replace H : ((laws_eqAutomaton.f k t229 t230 t233 t212 t213 t216).bind fun t238 => (if t238 = true then (laws_FnExactComplementOf.j0 k t219 t236 (t236 != t219) a0_0 l0_1 l0_2 t212 t213 t216 t221 t222 t225 t229 t230 t233) else (laws_FnExactComplementOf.j0 k t219 t236 true a0_0 l0_1 l0_2 t212 t213 t216 t221 t222 t225 t229 t230 t233))) = some r := H
  have A10 := Aside0.mk A100
  clear A100
  have HC11 := Aside0.mk H
  clear H
  go_enter Try.func3, Try.ntmps3
  go_upto_region 8 with (first | ((with_reducible refine gate_dst (N := 1) rfl ?_); refine box_event ?hg (N := 1) ?hd (cs := #[.int .i64 a0_0, .slice A0_1 l0_1.length c0_1, .slice A0_2 l0_2.length c0_2]) (t := 25) ?hr ?_; (case hd => rfl); (case hg => rfl); (case hr => first | (go_simp; done) | (go_simp; rfl)); intro gb203 hg w12 hbox hb; have n0_ := Aside0.mk (below_step (by repeat (first | (with_reducible first | exact HB.out | apply below_alloc | apply pw_below_drewN | apply below_drew1) | exact HB.out)) hb); have n1_ := Aside0.mk (hbox); have n2_ := Aside0.mk ((by rw [hg]; exact (below_size (by repeat (first | (with_reducible first | exact HB.out | apply below_alloc | apply pw_below_drewN | apply below_drew1) | exact HB.out))) : w.heap.size ≤ gb203)); have n3_ := Aside0.mk ((by rw [hg]; exact (below_size (by repeat (first | (with_reducible first | exact HB.out | apply below_alloc | apply pw_below_drewN | apply below_drew1) | exact HB.out))) : w.heap.size ≤ gb203)); clear HB; have HB := n0_; have BK203 := n1_; have GW203 := n2_; have GE203 := n3_; clear n0_ n1_ n2_ n3_; clear hb hbox hg; have hcz13_0 : w12.cell? ⟨gb203, 0, none⟩ = some (.int .i64 a0_0) := (blk_cell BK203.out 0).trans rfl; have hcz13_1 : w12.cell? ⟨gb203, 1, none⟩ = some (.slice A0_1 l0_1.length c0_1) := (blk_cell BK203.out 1).trans rfl; have hcz13_2 : w12.cell? ⟨gb203, 2, none⟩ = some (.slice A0_2 l0_2.length c0_2) := (blk_cell BK203.out 2).trans rfl; have hfz13_0 := blk_frozen BK203.out 0; have hfz13_1 := blk_frozen BK203.out 1; have hfz13_2 := blk_frozen BK203.out 2) | ((with_reducible refine gate_callee (f := 15) rfl ?_); refine goesL_ (some 16) rfl rfl Try.func15 (by kernel_rfl) rfl #[.agg #[.int .i64 a0_0, .slice A0_1 l0_1.length c0_1, .slice A0_2 l0_2.length c0_2], .int .i64 1048576] rfl (by (try simp only [List.map_toArray, List.map_cons, List.map_nil]); first | done | rfl | (simp only [Base.w64_u8]; rfl) | (simp only [List.length_drop, List.length_take]; rfl)) ?_; (with_reducible refine (laws_szAutomaton.calls a0_0 _ _ l0_1 _ _ l0_2 1048576 t204 _ ?side1 ?side2 ?side3 ?side4 A2.out).mono ?_); (case side1 => repeat (first | exact (Kd.C_below HR0_1.out HB.out) | (with_reducible refine Kd.C_alloc ?_ _) | (with_reducible refine Kd.C_drewN ?_ _) | (with_reducible refine Kd.C_drew ?_))); (case side2 => exact HC0_1.out); (case side3 => repeat (first | exact (Kd.C_below HR0_2.out HB.out) | (with_reducible refine Kd.C_alloc ?_ _) | (with_reducible refine Kd.C_drewN ?_ _) | (with_reducible refine Kd.C_drew ?_))); (case side4 => exact HC0_2.out); rintro e w14 ⟨rfl, hb⟩; refine ⟨_, rfl, ?_⟩; have n0_ := Aside0.mk (blk_below (g := gb203) (o := .cells #[.int .i64 a0_0, .slice A0_1 l0_1.length c0_1, .slice A0_2 l0_2.length c0_2] 25 (0, 0)) (by (with_reducible repeat (first | refine blk_drewN ?_ _ | refine blk_drew ?_ | refine blk_alloc ?_ _)); exact BK203.out) hb); have n1_ := Aside0.mk (below_step (by repeat (first | (with_reducible first | exact HB.out | apply below_alloc | apply pw_below_drewN | apply below_drew1 | refine below_set ?_ GE203.out) | exact HB.out)) hb); clear BK203; clear HB; have BK203 := n0_; have HB := n1_; clear n0_ n1_; (try clear hb); (try clear hb2); (try clear hk); (try clear hi); have hcz15_0 : w14.cell? ⟨gb203, 0, none⟩ = some (.int .i64 a0_0) := (blk_cell BK203.out 0).trans rfl; have hcz15_1 : w14.cell? ⟨gb203, 1, none⟩ = some (.slice A0_1 l0_1.length c0_1) := (blk_cell BK203.out 1).trans rfl; have hcz15_2 : w14.cell? ⟨gb203, 2, none⟩ = some (.slice A0_2 l0_2.length c0_2) := (blk_cell BK203.out 2).trans rfl; have hfz15_0 := blk_frozen BK203.out 0; have hfz15_1 := blk_frozen BK203.out 1; have hfz15_2 := blk_frozen BK203.out 2) | ((with_reducible refine gate_callee (f := 17) rfl ?_); refine goesL_ (some 21) rfl rfl Try.func17 (by kernel_rfl) rfl #[.agg #[.int .i64 a0_0, .slice A0_1 l0_1.length c0_1, .slice A0_2 l0_2.length c0_2]] rfl (by (try simp only [List.map_toArray, List.map_cons, List.map_nil]); first | done | rfl | (simp only [Base.w64_u8]; rfl) | (simp only [List.length_drop, List.length_take]; rfl)) ?_; (with_reducible refine (laws_toAutomaton.calls k a0_0 _ _ l0_1 _ _ l0_2 t205 t206 t209 _ ?side1 ?side2 ?side3 ?side4 A7.out).mono ?_); (case side1 => repeat (first | exact (Kd.C_below HR0_1.out HB.out) | (with_reducible refine Kd.C_alloc ?_ _) | (with_reducible refine Kd.C_drewN ?_ _) | (with_reducible refine Kd.C_drew ?_))); (case side2 => exact HC0_1.out); (case side3 => repeat (first | exact (Kd.C_below HR0_2.out HB.out) | (with_reducible refine Kd.C_alloc ?_ _) | (with_reducible refine Kd.C_drewN ?_ _) | (with_reducible refine Kd.C_drew ?_))); (case side4 => exact HC0_2.out); rintro e w16 ⟨v207, v210, rfl, ho0, ho1, hb⟩; refine ⟨_, rfl, ?_⟩; have n0_ := Aside0.mk (Kd.R_lower ho0 (below_size (by repeat (first | (with_reducible first | exact HB.out | apply below_alloc | apply pw_below_drewN | apply below_drew1 | refine below_set ?_ GE203.out) | exact HB.out)))); have n1_ := Aside0.mk (Kd.R_lower ho1 (below_size (by repeat (first | (with_reducible first | exact HB.out | apply below_alloc | apply pw_below_drewN | apply below_drew1 | refine below_set ?_ GE203.out) | exact HB.out)))); have n2_ := Aside0.mk (blk_below (g := gb203) (o := .cells #[.int .i64 a0_0, .slice A0_1 l0_1.length c0_1, .slice A0_2 l0_2.length c0_2] 25 (0, 0)) (by (with_reducible repeat (first | refine blk_drewN ?_ _ | refine blk_drew ?_ | refine blk_alloc ?_ _)); exact BK203.out) hb); have n3_ := Aside0.mk (below_step (by repeat (first | (with_reducible first | exact HB.out | apply below_alloc | apply pw_below_drewN | apply below_drew1 | refine below_set ?_ GE203.out) | exact HB.out)) hb); clear BK203; clear HB; have HO208 := n0_; have HO211 := n1_; have BK203 := n2_; have HB := n3_; clear n0_ n1_ n2_ n3_; (try clear hb); (try clear hb2); (try clear hk); (try clear hi); (try clear ho0); (try clear ho1); obtain ⟨Ao17, co17, eo17⟩ := Kd.R_slice HO208.out; subst eo17; obtain ⟨Ao18, co18, eo18⟩ := Kd.R_slice HO211.out; subst eo18) | ((with_reducible refine gate_callee (f := 16) rfl ?_); refine goesL_ (some 22) rfl rfl Try.func16 (by kernel_rfl) rfl #[.agg #[.int .i64 t205, .slice Ao17 t206.length co17, .slice Ao18 t209.length co18]] rfl (by (try simp only [List.map_toArray, List.map_cons, List.map_nil]); first | done | rfl | (simp only [Base.w64_u8]; rfl) | (simp only [List.length_drop, List.length_take]; rfl)) ?_; (with_reducible refine (spec_ComplementOf.calls k t205 _ _ t206 _ _ t209 t212 t213 t216 t219 _ ?side1 ?side2 ?side3 ?side4 A8.out).mono ?_); (case side1 => repeat (first | exact (Kd.R_reads' HO208.out).2.2 | (with_reducible refine Kd.C_alloc ?_ _) | (with_reducible refine Kd.C_drewN ?_ _) | (with_reducible refine Kd.C_drew ?_))); (case side2 => exact (Kd.R_reads' HO208.out).2.1); (case side3 => repeat (first | exact (Kd.R_reads' HO211.out).2.2 | (with_reducible refine Kd.C_alloc ?_ _) | (with_reducible refine Kd.C_drewN ?_ _) | (with_reducible refine Kd.C_drew ?_))); (case side4 => exact (Kd.R_reads' HO211.out).2.1); rintro e w19 ⟨v214, v217, rfl, ho0, ho1, hb⟩; refine ⟨_, rfl, ?_⟩; have n0_ := Aside0.mk (Kd.R_elder' (by (with_reducible repeat (first | apply Kd.R_alloc | apply Kd.R_drewN | apply Kd.R_drew)); exact HO208.out) (Kd.R_base ho0) hb); have n1_ := Aside0.mk (Kd.R_elder' (by (with_reducible repeat (first | apply Kd.R_alloc | apply Kd.R_drewN | apply Kd.R_drew)); exact HO211.out) (Kd.R_base ho1) hb); have n2_ := Aside0.mk (Kd.R_lower (Kd.R_new' ho0 (Kd.R_lt (by (with_reducible repeat (first | apply Kd.R_alloc | apply Kd.R_drewN | apply Kd.R_drew)); exact HO208.out))) (below_size (by repeat (first | (with_reducible first | exact HB.out | apply below_alloc | apply pw_below_drewN | apply below_drew1 | refine below_set ?_ GE203.out) | exact HB.out)))); have n3_ := Aside0.mk (Kd.R_lower (Kd.R_new' ho1 (Kd.R_lt (by (with_reducible repeat (first | apply Kd.R_alloc | apply Kd.R_drewN | apply Kd.R_drew)); exact HO211.out))) (below_size (by repeat (first | (with_reducible first | exact HB.out | apply below_alloc | apply pw_below_drewN | apply below_drew1 | refine below_set ?_ GE203.out) | exact HB.out)))); have n4_ := Aside0.mk (blk_below (g := gb203) (o := .cells #[.int .i64 a0_0, .slice A0_1 l0_1.length c0_1, .slice A0_2 l0_2.length c0_2] 25 (0, 0)) (by (with_reducible repeat (first | refine blk_drewN ?_ _ | refine blk_drew ?_ | refine blk_alloc ?_ _)); exact BK203.out) hb); have n5_ := Aside0.mk (below_step (by repeat (first | (with_reducible first | exact HB.out | apply below_alloc | apply pw_below_drewN | apply below_drew1 | refine below_set ?_ GE203.out) | exact HB.out)) hb); clear HO208; clear HO211; clear BK203; clear HB; have HO208 := n0_; have HO211 := n1_; have HO215 := n2_; have HO218 := n3_; have BK203 := n4_; have HB := n5_; clear n0_ n1_ n2_ n3_ n4_ n5_; (try clear hb); (try clear hb2); (try clear hk); (try clear hi); (try clear ho0); (try clear ho1)) | ((with_reducible refine gate_dst (N := 4) rfl ?_); refine box_event ?hg (N := 4) ?hd (cs := #[.int .i64 0, .slice none 0 0, .slice none 0 0]) (t := 27) ?hr ?_; (case hd => rfl); (case hg => rfl); (case hr => first | (go_simp; done) | (go_simp; rfl)); intro gb220 hg w20 hbox hb; have n0_ := Aside0.mk (Kd.R_below (by (with_reducible repeat (first | apply Kd.R_alloc | apply Kd.R_drewN | apply Kd.R_drew)); exact HO208.out) hb); have n1_ := Aside0.mk (Kd.R_below (by (with_reducible repeat (first | apply Kd.R_alloc | apply Kd.R_drewN | apply Kd.R_drew)); exact HO211.out) hb); have n2_ := Aside0.mk (Kd.R_below (by (with_reducible repeat (first | apply Kd.R_alloc | apply Kd.R_drewN | apply Kd.R_drew)); exact HO215.out) hb); have n3_ := Aside0.mk (Kd.R_below (by (with_reducible repeat (first | apply Kd.R_alloc | apply Kd.R_drewN | apply Kd.R_drew)); exact HO218.out) hb); have n4_ := Aside0.mk (blk_below (g := gb203) (o := .cells #[.int .i64 a0_0, .slice A0_1 l0_1.length c0_1, .slice A0_2 l0_2.length c0_2] 25 (0, 0)) (by (with_reducible repeat (first | refine blk_drewN ?_ _ | refine blk_drew ?_ | refine blk_alloc ?_ _)); exact BK203.out) hb); have n5_ := Aside0.mk (below_step (by repeat (first | (with_reducible first | exact HB.out | apply below_alloc | apply pw_below_drewN | apply below_drew1 | refine below_set ?_ GE203.out) | exact HB.out)) hb); have n6_ := Aside0.mk (hbox); have n7_ := Aside0.mk ((by rw [hg]; exact (below_size (by repeat (first | (with_reducible first | exact HB.out | apply below_alloc | apply pw_below_drewN | apply below_drew1 | refine below_set ?_ GE203.out) | exact HB.out))) : w.heap.size ≤ gb220)); have n8_ := Aside0.mk ((by rw [hg]; exact (below_size (by repeat (first | (with_reducible first | exact HB.out | apply below_alloc | apply pw_below_drewN | apply below_drew1 | refine below_set ?_ GE203.out) | exact HB.out))) : w.heap.size ≤ gb220)); have n9_ := Aside0.mk ((by rw [hg]; exact Nat.ne_of_lt (blk_lt (g := gb203) (o := .cells #[.int .i64 a0_0, .slice A0_1 l0_1.length c0_1, .slice A0_2 l0_2.length c0_2] 25 (0, 0)) (by (with_reducible repeat (first | refine blk_drewN ?_ _ | refine blk_drew ?_ | refine blk_alloc ?_ _)); exact BK203.out)) : gb203 ≠ gb220)); have n10_ := Aside0.mk ((by rw [hg]; exact Nat.ne_of_gt (blk_lt (g := gb203) (o := .cells #[.int .i64 a0_0, .slice A0_1 l0_1.length c0_1, .slice A0_2 l0_2.length c0_2] 25 (0, 0)) (by (with_reducible repeat (first | refine blk_drewN ?_ _ | refine blk_drew ?_ | refine blk_alloc ?_ _)); exact BK203.out)) : gb220 ≠ gb203)); clear HO208; clear HO211; clear HO215; clear HO218; clear BK203; clear HB; have HO208 := n0_; have HO211 := n1_; have HO215 := n2_; have HO218 := n3_; have BK203 := n4_; have HB := n5_; have BK220 := n6_; have GW220 := n7_; have GE220 := n8_; have NB203_220 := n9_; have NB220_203 := n10_; clear n0_ n1_ n2_ n3_ n4_ n5_ n6_ n7_ n8_ n9_ n10_; clear hb hbox hg; have hnb21 := NB220_203.out; have hnc21 := NB203_220.out; have hcz22_0 : w20.cell? ⟨gb220, 0, none⟩ = some (.int .i64 0) := (blk_cell BK220.out 0).trans rfl; have hcz22_1 : w20.cell? ⟨gb220, 1, none⟩ = some (.slice none 0 0) := (blk_cell BK220.out 1).trans rfl; have hcz22_2 : w20.cell? ⟨gb220, 2, none⟩ = some (.slice none 0 0) := (blk_cell BK220.out 2).trans rfl; have hfz22_0 := blk_frozen BK220.out 0; have hfz22_1 := blk_frozen BK220.out 1; have hfz22_2 := blk_frozen BK220.out 2; obtain ⟨Ao23, co23, eo23⟩ := Kd.R_slice HO215.out; subst eo23; obtain ⟨Ao24, co24, eo24⟩ := Kd.R_slice HO218.out; subst eo24; have hcz25_0 : w20.cell? ⟨gb203, 0, none⟩ = some (.int .i64 a0_0) := (blk_cell BK203.out 0).trans rfl; have hcz25_1 : w20.cell? ⟨gb203, 1, none⟩ = some (.slice A0_1 l0_1.length c0_1) := (blk_cell BK203.out 1).trans rfl; have hcz25_2 : w20.cell? ⟨gb203, 2, none⟩ = some (.slice A0_2 l0_2.length c0_2) := (blk_cell BK203.out 2).trans rfl; have hfz25_0 := blk_frozen BK203.out 0; have hfz25_1 := blk_frozen BK203.out 1; have hfz25_2 := blk_frozen BK203.out 2) | ((with_reducible refine gate_callee (f := 17) rfl ?_); refine goesL_ (some 26) rfl rfl Try.func17 (by kernel_rfl) rfl #[.agg #[.int .i64 a0_0, .slice A0_1 l0_1.length c0_1, .slice A0_2 l0_2.length c0_2]] rfl (by (try simp only [List.map_toArray, List.map_cons, List.map_nil]); first | done | rfl | (simp only [Base.w64_u8]; rfl) | (simp only [List.length_drop, List.length_take]; rfl)) ?_; (with_reducible refine (laws_toAutomaton.calls k a0_0 _ _ l0_1 _ _ l0_2 t221 t222 t225 _ ?side1 ?side2 ?side3 ?side4 A9.out).mono ?_); (case side1 => exact Kd.C_below HR0_1.out (by repeat (first | (with_reducible first | exact HB.out | apply below_alloc | apply pw_below_drewN | apply below_drew1 | refine below_set ?_ GE203.out | refine below_set ?_ GE220.out) | exact HB.out))); (case side2 => exact HC0_1.out); (case side3 => exact Kd.C_below HR0_2.out (by repeat (first | (with_reducible first | exact HB.out | apply below_alloc | apply pw_below_drewN | apply below_drew1 | refine below_set ?_ GE203.out | refine below_set ?_ GE220.out) | exact HB.out))); (case side4 => exact HC0_2.out); rintro e w26 ⟨v223, v226, rfl, ho0, ho1, hb⟩; refine ⟨_, rfl, ?_⟩; have n0_ := Aside0.mk (Kd.R_elder' (by (with_reducible repeat (first | apply Kd.R_alloc | apply Kd.R_drewN | apply Kd.R_drew)); exact (Kd.R_mono (Kd.R_far (p := ⟨gb220, 2, none⟩) (Kd.R_far (p := ⟨gb220, 1, none⟩) (Kd.R_far (p := ⟨gb220, 0, none⟩) (Kd.R_types HO208.out BK220.out (by decide)) (fun _ hk => hk.2) (.int .i64 t212)) (fun _ hk => hk.2) (.slice Ao23 t213.length co23)) (fun _ hk => hk.2) (.slice Ao24 t216.length co24)) (fun _ h_ => h_.1))) (Kd.R_base ho0) hb); have n1_ := Aside0.mk (Kd.R_elder' (by (with_reducible repeat (first | apply Kd.R_alloc | apply Kd.R_drewN | apply Kd.R_drew)); exact (Kd.R_mono (Kd.R_far (p := ⟨gb220, 2, none⟩) (Kd.R_far (p := ⟨gb220, 1, none⟩) (Kd.R_far (p := ⟨gb220, 0, none⟩) (Kd.R_types HO211.out BK220.out (by decide)) (fun _ hk => hk.2) (.int .i64 t212)) (fun _ hk => hk.2) (.slice Ao23 t213.length co23)) (fun _ hk => hk.2) (.slice Ao24 t216.length co24)) (fun _ h_ => h_.1))) (Kd.R_base ho1) hb); have n2_ := Aside0.mk (Kd.R_elder' (by (with_reducible repeat (first | apply Kd.R_alloc | apply Kd.R_drewN | apply Kd.R_drew)); exact (Kd.R_mono (Kd.R_far (p := ⟨gb220, 2, none⟩) (Kd.R_far (p := ⟨gb220, 1, none⟩) (Kd.R_far (p := ⟨gb220, 0, none⟩) (Kd.R_types HO215.out BK220.out (by decide)) (fun _ hk => hk.2) (.int .i64 t212)) (fun _ hk => hk.2) (.slice Ao23 t213.length co23)) (fun _ hk => hk.2) (.slice Ao24 t216.length co24)) (fun _ h_ => h_.1))) (Kd.R_base ho0) hb); have n3_ := Aside0.mk (Kd.R_elder' (by (with_reducible repeat (first | apply Kd.R_alloc | apply Kd.R_drewN | apply Kd.R_drew)); exact (Kd.R_mono (Kd.R_far (p := ⟨gb220, 2, none⟩) (Kd.R_far (p := ⟨gb220, 1, none⟩) (Kd.R_far (p := ⟨gb220, 0, none⟩) (Kd.R_types HO218.out BK220.out (by decide)) (fun _ hk => hk.2) (.int .i64 t212)) (fun _ hk => hk.2) (.slice Ao23 t213.length co23)) (fun _ hk => hk.2) (.slice Ao24 t216.length co24)) (fun _ h_ => h_.1))) (Kd.R_base ho1) hb); have n4_ := Aside0.mk (Kd.R_lower (Kd.R_new' (Kd.R_new' ho0 (Kd.R_lt (by (with_reducible repeat (first | apply Kd.R_alloc | apply Kd.R_drewN | apply Kd.R_drew)); exact (Kd.R_mono (Kd.R_far (p := ⟨gb220, 2, none⟩) (Kd.R_far (p := ⟨gb220, 1, none⟩) (Kd.R_far (p := ⟨gb220, 0, none⟩) (Kd.R_types HO208.out BK220.out (by decide)) (fun _ hk => hk.2) (.int .i64 t212)) (fun _ hk => hk.2) (.slice Ao23 t213.length co23)) (fun _ hk => hk.2) (.slice Ao24 t216.length co24)) (fun _ h_ => h_.1))))) (Kd.R_lt (by (with_reducible repeat (first | apply Kd.R_alloc | apply Kd.R_drewN | apply Kd.R_drew)); exact (Kd.R_mono (Kd.R_far (p := ⟨gb220, 2, none⟩) (Kd.R_far (p := ⟨gb220, 1, none⟩) (Kd.R_far (p := ⟨gb220, 0, none⟩) (Kd.R_types HO215.out BK220.out (by decide)) (fun _ hk => hk.2) (.int .i64 t212)) (fun _ hk => hk.2) (.slice Ao23 t213.length co23)) (fun _ hk => hk.2) (.slice Ao24 t216.length co24)) (fun _ h_ => h_.1))))) (below_size (by repeat (first | (with_reducible first | exact HB.out | apply below_alloc | apply pw_below_drewN | apply below_drew1 | refine below_set ?_ GE203.out | refine below_set ?_ GE220.out) | exact HB.out)))); have n5_ := Aside0.mk (Kd.R_lower (Kd.R_new' (Kd.R_new' ho1 (Kd.R_lt (by (with_reducible repeat (first | apply Kd.R_alloc | apply Kd.R_drewN | apply Kd.R_drew)); exact (Kd.R_mono (Kd.R_far (p := ⟨gb220, 2, none⟩) (Kd.R_far (p := ⟨gb220, 1, none⟩) (Kd.R_far (p := ⟨gb220, 0, none⟩) (Kd.R_types HO211.out BK220.out (by decide)) (fun _ hk => hk.2) (.int .i64 t212)) (fun _ hk => hk.2) (.slice Ao23 t213.length co23)) (fun _ hk => hk.2) (.slice Ao24 t216.length co24)) (fun _ h_ => h_.1))))) (Kd.R_lt (by (with_reducible repeat (first | apply Kd.R_alloc | apply Kd.R_drewN | apply Kd.R_drew)); exact (Kd.R_mono (Kd.R_far (p := ⟨gb220, 2, none⟩) (Kd.R_far (p := ⟨gb220, 1, none⟩) (Kd.R_far (p := ⟨gb220, 0, none⟩) (Kd.R_types HO218.out BK220.out (by decide)) (fun _ hk => hk.2) (.int .i64 t212)) (fun _ hk => hk.2) (.slice Ao23 t213.length co23)) (fun _ hk => hk.2) (.slice Ao24 t216.length co24)) (fun _ h_ => h_.1))))) (below_size (by repeat (first | (with_reducible first | exact HB.out | apply below_alloc | apply pw_below_drewN | apply below_drew1 | refine below_set ?_ GE203.out | refine below_set ?_ GE220.out) | exact HB.out)))); have n6_ := Aside0.mk (blk_below (g := gb203) (o := .cells #[.int .i64 a0_0, .slice A0_1 l0_1.length c0_1, .slice A0_2 l0_2.length c0_2] 25 (0, 0)) (by (with_reducible repeat (first | refine blk_drewN ?_ _ | refine blk_drew ?_ | refine blk_alloc ?_ _)); refine blk_far ?_ NB203_220.out _; (with_reducible repeat (first | refine blk_drewN ?_ _ | refine blk_drew ?_ | refine blk_alloc ?_ _)); refine blk_far ?_ NB203_220.out _; (with_reducible repeat (first | refine blk_drewN ?_ _ | refine blk_drew ?_ | refine blk_alloc ?_ _)); refine blk_far ?_ NB203_220.out _; (with_reducible repeat (first | refine blk_drewN ?_ _ | refine blk_drew ?_ | refine blk_alloc ?_ _)); exact BK203.out) hb); have n7_ := Aside0.mk (blk_below (g := gb220) (o := .cells #[.int .i64 t212, .slice Ao23 t213.length co23, .slice Ao24 t216.length co24] 27 (0, 0)) (by (with_reducible repeat (first | refine blk_drewN ?_ _ | refine blk_drew ?_ | refine blk_alloc ?_ _)); refine blk_put (cs := #[.int .i64 t212, .slice Ao23 t213.length co23, .slice none 0 0]) ?_ 2 _ rfl; (with_reducible repeat (first | refine blk_drewN ?_ _ | refine blk_drew ?_ | refine blk_alloc ?_ _)); refine blk_put (cs := #[.int .i64 t212, .slice none 0 0, .slice none 0 0]) ?_ 1 _ rfl; (with_reducible repeat (first | refine blk_drewN ?_ _ | refine blk_drew ?_ | refine blk_alloc ?_ _)); refine blk_put (cs := #[.int .i64 0, .slice none 0 0, .slice none 0 0]) ?_ 0 _ rfl; (with_reducible repeat (first | refine blk_drewN ?_ _ | refine blk_drew ?_ | refine blk_alloc ?_ _)); exact BK220.out) hb); have n8_ := Aside0.mk (below_step (by repeat (first | (with_reducible first | exact HB.out | apply below_alloc | apply pw_below_drewN | apply below_drew1 | refine below_set ?_ GE203.out | refine below_set ?_ GE220.out) | exact HB.out)) hb); clear HO208; clear HO211; clear HO215; clear HO218; clear BK203; clear BK220; clear HB; have HO208 := n0_; have HO211 := n1_; have HO215 := n2_; have HO218 := n3_; have HO224 := n4_; have HO227 := n5_; have BK203 := n6_; have BK220 := n7_; have HB := n8_; clear n0_ n1_ n2_ n3_ n4_ n5_ n6_ n7_ n8_; (try clear hb); (try clear hb2); (try clear hk); (try clear hi); (try clear ho0); (try clear ho1)) | ((with_reducible refine gate_dst (N := 6) rfl ?_); refine box_event ?hg (N := 6) ?hd (cs := #[.int .i64 0, .slice none 0 0, .slice none 0 0]) (t := 27) ?hr ?_; (case hd => rfl); (case hg => rfl); (case hr => first | (go_simp; done) | (go_simp; rfl)); intro gb228 hg w27 hbox hb; have n0_ := Aside0.mk (Kd.R_below (by (with_reducible repeat (first | apply Kd.R_alloc | apply Kd.R_drewN | apply Kd.R_drew)); exact HO208.out) hb); have n1_ := Aside0.mk (Kd.R_below (by (with_reducible repeat (first | apply Kd.R_alloc | apply Kd.R_drewN | apply Kd.R_drew)); exact HO211.out) hb); have n2_ := Aside0.mk (Kd.R_below (by (with_reducible repeat (first | apply Kd.R_alloc | apply Kd.R_drewN | apply Kd.R_drew)); exact HO215.out) hb); have n3_ := Aside0.mk (Kd.R_below (by (with_reducible repeat (first | apply Kd.R_alloc | apply Kd.R_drewN | apply Kd.R_drew)); exact HO218.out) hb); have n4_ := Aside0.mk (Kd.R_below (by (with_reducible repeat (first | apply Kd.R_alloc | apply Kd.R_drewN | apply Kd.R_drew)); exact HO224.out) hb); have n5_ := Aside0.mk (Kd.R_below (by (with_reducible repeat (first | apply Kd.R_alloc | apply Kd.R_drewN | apply Kd.R_drew)); exact HO227.out) hb); have n6_ := Aside0.mk (blk_below (g := gb203) (o := .cells #[.int .i64 a0_0, .slice A0_1 l0_1.length c0_1, .slice A0_2 l0_2.length c0_2] 25 (0, 0)) (by (with_reducible repeat (first | refine blk_drewN ?_ _ | refine blk_drew ?_ | refine blk_alloc ?_ _)); exact BK203.out) hb); have n7_ := Aside0.mk (blk_below (g := gb220) (o := .cells #[.int .i64 t212, .slice Ao23 t213.length co23, .slice Ao24 t216.length co24] 27 (0, 0)) (by (with_reducible repeat (first | refine blk_drewN ?_ _ | refine blk_drew ?_ | refine blk_alloc ?_ _)); exact BK220.out) hb); have n8_ := Aside0.mk (below_step (by repeat (first | (with_reducible first | exact HB.out | apply below_alloc | apply pw_below_drewN | apply below_drew1 | refine below_set ?_ GE203.out | refine below_set ?_ GE220.out) | exact HB.out)) hb); have n9_ := Aside0.mk (hbox); have n10_ := Aside0.mk ((by rw [hg]; exact (below_size (by repeat (first | (with_reducible first | exact HB.out | apply below_alloc | apply pw_below_drewN | apply below_drew1 | refine below_set ?_ GE203.out | refine below_set ?_ GE220.out) | exact HB.out))) : w.heap.size ≤ gb228)); have n11_ := Aside0.mk ((by rw [hg]; exact (below_size (by repeat (first | (with_reducible first | exact HB.out | apply below_alloc | apply pw_below_drewN | apply below_drew1 | refine below_set ?_ GE203.out | refine below_set ?_ GE220.out) | exact HB.out))) : w.heap.size ≤ gb228)); have n12_ := Aside0.mk ((by rw [hg]; exact Nat.ne_of_lt (blk_lt (g := gb203) (o := .cells #[.int .i64 a0_0, .slice A0_1 l0_1.length c0_1, .slice A0_2 l0_2.length c0_2] 25 (0, 0)) (by (with_reducible repeat (first | refine blk_drewN ?_ _ | refine blk_drew ?_ | refine blk_alloc ?_ _)); exact BK203.out)) : gb203 ≠ gb228)); have n13_ := Aside0.mk ((by rw [hg]; exact Nat.ne_of_gt (blk_lt (g := gb203) (o := .cells #[.int .i64 a0_0, .slice A0_1 l0_1.length c0_1, .slice A0_2 l0_2.length c0_2] 25 (0, 0)) (by (with_reducible repeat (first | refine blk_drewN ?_ _ | refine blk_drew ?_ | refine blk_alloc ?_ _)); exact BK203.out)) : gb228 ≠ gb203)); have n14_ := Aside0.mk ((by rw [hg]; exact Nat.ne_of_lt (blk_lt (g := gb220) (o := .cells #[.int .i64 t212, .slice Ao23 t213.length co23, .slice Ao24 t216.length co24] 27 (0, 0)) (by (with_reducible repeat (first | refine blk_drewN ?_ _ | refine blk_drew ?_ | refine blk_alloc ?_ _)); exact BK220.out)) : gb220 ≠ gb228)); have n15_ := Aside0.mk ((by rw [hg]; exact Nat.ne_of_gt (blk_lt (g := gb220) (o := .cells #[.int .i64 t212, .slice Ao23 t213.length co23, .slice Ao24 t216.length co24] 27 (0, 0)) (by (with_reducible repeat (first | refine blk_drewN ?_ _ | refine blk_drew ?_ | refine blk_alloc ?_ _)); exact BK220.out)) : gb228 ≠ gb220)); clear HO208; clear HO211; clear HO215; clear HO218; clear HO224; clear HO227; clear BK203; clear BK220; clear HB; have HO208 := n0_; have HO211 := n1_; have HO215 := n2_; have HO218 := n3_; have HO224 := n4_; have HO227 := n5_; have BK203 := n6_; have BK220 := n7_; have HB := n8_; have BK228 := n9_; have GW228 := n10_; have GE228 := n11_; have NB203_228 := n12_; have NB228_203 := n13_; have NB220_228 := n14_; have NB228_220 := n15_; clear n0_ n1_ n2_ n3_ n4_ n5_ n6_ n7_ n8_ n9_ n10_ n11_ n12_ n13_ n14_ n15_; clear hb hbox hg; have hnb28 := NB228_203.out; have hnc28 := NB203_228.out; have hnb29 := NB228_220.out; have hnc29 := NB220_228.out; have hcz30_0 : w27.cell? ⟨gb228, 0, none⟩ = some (.int .i64 0) := (blk_cell BK228.out 0).trans rfl; have hcz30_1 : w27.cell? ⟨gb228, 1, none⟩ = some (.slice none 0 0) := (blk_cell BK228.out 1).trans rfl; have hcz30_2 : w27.cell? ⟨gb228, 2, none⟩ = some (.slice none 0 0) := (blk_cell BK228.out 2).trans rfl; have hfz30_0 := blk_frozen BK228.out 0; have hfz30_1 := blk_frozen BK228.out 1; have hfz30_2 := blk_frozen BK228.out 2; obtain ⟨Ao31, co31, eo31⟩ := Kd.R_slice HO224.out; subst eo31; obtain ⟨Ao32, co32, eo32⟩ := Kd.R_slice HO227.out; subst eo32) | ((with_reducible refine gate_callee (f := 18) rfl ?_); refine goesL_ (some 29) rfl rfl Try.func18 (by kernel_rfl) rfl #[.agg #[.int .i64 t221, .slice Ao31 t222.length co31, .slice Ao32 t225.length co32]] rfl (by (try simp only [List.map_toArray, List.map_cons, List.map_nil]); first | done | rfl | (simp only [Base.w64_u8]; rfl) | (simp only [List.length_drop, List.length_take]; rfl)) ?_; (with_reducible refine (impl_ComplementOf.calls k t221 _ _ t222 _ _ t225 t229 t230 t233 t236 _ ?side1 ?side2 ?side3 ?side4 A10.out).mono ?_); (case side1 => refine (Kd.R_reads' (e := 3) (base := w.heap.size) (ok := fun k_ => ((True ∧ some k_ ≠ (.slice Ao17 t206.length co17 : Value).ownBlock) ∧ some k_ ≠ (.slice Ao23 t213.length co23 : Value).ownBlock)) (n := t222.length) (c := co31) ?_).2.2; exact (by (with_reducible repeat (first | apply Kd.R_alloc | apply Kd.R_drewN | apply Kd.R_drew)); exact (Kd.R_mono (Kd.R_far (p := ⟨gb228, 2, none⟩) (Kd.R_far (p := ⟨gb228, 1, none⟩) (Kd.R_far (p := ⟨gb228, 0, none⟩) (Kd.R_types HO224.out BK228.out (by decide)) (fun _ hk => hk.2) (.int .i64 t221)) (fun _ hk => hk.2) (.slice Ao31 t222.length co31)) (fun _ hk => hk.2) (.slice Ao32 t225.length co32)) (fun _ h_ => h_.1)))); (case side2 => exact (Kd.R_reads' HO224.out).2.1); (case side3 => refine (Kd.R_reads' (e := 4) (base := w.heap.size) (ok := fun k_ => ((True ∧ some k_ ≠ (.slice Ao18 t209.length co18 : Value).ownBlock) ∧ some k_ ≠ (.slice Ao24 t216.length co24 : Value).ownBlock)) (n := t225.length) (c := co32) ?_).2.2; exact (by (with_reducible repeat (first | apply Kd.R_alloc | apply Kd.R_drewN | apply Kd.R_drew)); exact (Kd.R_mono (Kd.R_far (p := ⟨gb228, 2, none⟩) (Kd.R_far (p := ⟨gb228, 1, none⟩) (Kd.R_far (p := ⟨gb228, 0, none⟩) (Kd.R_types HO227.out BK228.out (by decide)) (fun _ hk => hk.2) (.int .i64 t221)) (fun _ hk => hk.2) (.slice Ao31 t222.length co31)) (fun _ hk => hk.2) (.slice Ao32 t225.length co32)) (fun _ h_ => h_.1)))); (case side4 => exact (Kd.R_reads' HO227.out).2.1); rintro e w33 ⟨v231, v234, rfl, ho0, ho1, hb⟩; refine ⟨_, rfl, ?_⟩; have n0_ := Aside0.mk (Kd.R_elder' (by (with_reducible repeat (first | apply Kd.R_alloc | apply Kd.R_drewN | apply Kd.R_drew)); exact (Kd.R_mono (Kd.R_far (p := ⟨gb228, 2, none⟩) (Kd.R_far (p := ⟨gb228, 1, none⟩) (Kd.R_far (p := ⟨gb228, 0, none⟩) (Kd.R_types HO208.out BK228.out (by decide)) (fun _ hk => hk.2) (.int .i64 t221)) (fun _ hk => hk.2) (.slice Ao31 t222.length co31)) (fun _ hk => hk.2) (.slice Ao32 t225.length co32)) (fun _ h_ => h_.1))) (Kd.R_base ho0) hb); have n1_ := Aside0.mk (Kd.R_elder' (by (with_reducible repeat (first | apply Kd.R_alloc | apply Kd.R_drewN | apply Kd.R_drew)); exact (Kd.R_mono (Kd.R_far (p := ⟨gb228, 2, none⟩) (Kd.R_far (p := ⟨gb228, 1, none⟩) (Kd.R_far (p := ⟨gb228, 0, none⟩) (Kd.R_types HO211.out BK228.out (by decide)) (fun _ hk => hk.2) (.int .i64 t221)) (fun _ hk => hk.2) (.slice Ao31 t222.length co31)) (fun _ hk => hk.2) (.slice Ao32 t225.length co32)) (fun _ h_ => h_.1))) (Kd.R_base ho1) hb); have n2_ := Aside0.mk (Kd.R_elder' (by (with_reducible repeat (first | apply Kd.R_alloc | apply Kd.R_drewN | apply Kd.R_drew)); exact (Kd.R_mono (Kd.R_far (p := ⟨gb228, 2, none⟩) (Kd.R_far (p := ⟨gb228, 1, none⟩) (Kd.R_far (p := ⟨gb228, 0, none⟩) (Kd.R_types HO215.out BK228.out (by decide)) (fun _ hk => hk.2) (.int .i64 t221)) (fun _ hk => hk.2) (.slice Ao31 t222.length co31)) (fun _ hk => hk.2) (.slice Ao32 t225.length co32)) (fun _ h_ => h_.1))) (Kd.R_base ho0) hb); have n3_ := Aside0.mk (Kd.R_elder' (by (with_reducible repeat (first | apply Kd.R_alloc | apply Kd.R_drewN | apply Kd.R_drew)); exact (Kd.R_mono (Kd.R_far (p := ⟨gb228, 2, none⟩) (Kd.R_far (p := ⟨gb228, 1, none⟩) (Kd.R_far (p := ⟨gb228, 0, none⟩) (Kd.R_types HO218.out BK228.out (by decide)) (fun _ hk => hk.2) (.int .i64 t221)) (fun _ hk => hk.2) (.slice Ao31 t222.length co31)) (fun _ hk => hk.2) (.slice Ao32 t225.length co32)) (fun _ h_ => h_.1))) (Kd.R_base ho1) hb); have n4_ := Aside0.mk (Kd.R_elder' (by (with_reducible repeat (first | apply Kd.R_alloc | apply Kd.R_drewN | apply Kd.R_drew)); exact (Kd.R_mono (Kd.R_far (p := ⟨gb228, 2, none⟩) (Kd.R_far (p := ⟨gb228, 1, none⟩) (Kd.R_far (p := ⟨gb228, 0, none⟩) (Kd.R_types HO224.out BK228.out (by decide)) (fun _ hk => hk.2) (.int .i64 t221)) (fun _ hk => hk.2) (.slice Ao31 t222.length co31)) (fun _ hk => hk.2) (.slice Ao32 t225.length co32)) (fun _ h_ => h_.1))) (Kd.R_base ho0) hb); have n5_ := Aside0.mk (Kd.R_elder' (by (with_reducible repeat (first | apply Kd.R_alloc | apply Kd.R_drewN | apply Kd.R_drew)); exact (Kd.R_mono (Kd.R_far (p := ⟨gb228, 2, none⟩) (Kd.R_far (p := ⟨gb228, 1, none⟩) (Kd.R_far (p := ⟨gb228, 0, none⟩) (Kd.R_types HO227.out BK228.out (by decide)) (fun _ hk => hk.2) (.int .i64 t221)) (fun _ hk => hk.2) (.slice Ao31 t222.length co31)) (fun _ hk => hk.2) (.slice Ao32 t225.length co32)) (fun _ h_ => h_.1))) (Kd.R_base ho1) hb); have n6_ := Aside0.mk (Kd.R_lower (Kd.R_new' (Kd.R_new' (Kd.R_new' ho0 (Kd.R_lt (by (with_reducible repeat (first | apply Kd.R_alloc | apply Kd.R_drewN | apply Kd.R_drew)); exact (Kd.R_mono (Kd.R_far (p := ⟨gb228, 2, none⟩) (Kd.R_far (p := ⟨gb228, 1, none⟩) (Kd.R_far (p := ⟨gb228, 0, none⟩) (Kd.R_types HO208.out BK228.out (by decide)) (fun _ hk => hk.2) (.int .i64 t221)) (fun _ hk => hk.2) (.slice Ao31 t222.length co31)) (fun _ hk => hk.2) (.slice Ao32 t225.length co32)) (fun _ h_ => h_.1))))) (Kd.R_lt (by (with_reducible repeat (first | apply Kd.R_alloc | apply Kd.R_drewN | apply Kd.R_drew)); exact (Kd.R_mono (Kd.R_far (p := ⟨gb228, 2, none⟩) (Kd.R_far (p := ⟨gb228, 1, none⟩) (Kd.R_far (p := ⟨gb228, 0, none⟩) (Kd.R_types HO215.out BK228.out (by decide)) (fun _ hk => hk.2) (.int .i64 t221)) (fun _ hk => hk.2) (.slice Ao31 t222.length co31)) (fun _ hk => hk.2) (.slice Ao32 t225.length co32)) (fun _ h_ => h_.1))))) (Kd.R_lt (by (with_reducible repeat (first | apply Kd.R_alloc | apply Kd.R_drewN | apply Kd.R_drew)); exact (Kd.R_mono (Kd.R_far (p := ⟨gb228, 2, none⟩) (Kd.R_far (p := ⟨gb228, 1, none⟩) (Kd.R_far (p := ⟨gb228, 0, none⟩) (Kd.R_types HO224.out BK228.out (by decide)) (fun _ hk => hk.2) (.int .i64 t221)) (fun _ hk => hk.2) (.slice Ao31 t222.length co31)) (fun _ hk => hk.2) (.slice Ao32 t225.length co32)) (fun _ h_ => h_.1))))) (below_size (by repeat (first | (with_reducible first | exact HB.out | apply below_alloc | apply pw_below_drewN | apply below_drew1 | refine below_set ?_ GE203.out | refine below_set ?_ GE220.out | refine below_set ?_ GE228.out) | exact HB.out)))); have n7_ := Aside0.mk (Kd.R_lower (Kd.R_new' (Kd.R_new' (Kd.R_new' ho1 (Kd.R_lt (by (with_reducible repeat (first | apply Kd.R_alloc | apply Kd.R_drewN | apply Kd.R_drew)); exact (Kd.R_mono (Kd.R_far (p := ⟨gb228, 2, none⟩) (Kd.R_far (p := ⟨gb228, 1, none⟩) (Kd.R_far (p := ⟨gb228, 0, none⟩) (Kd.R_types HO211.out BK228.out (by decide)) (fun _ hk => hk.2) (.int .i64 t221)) (fun _ hk => hk.2) (.slice Ao31 t222.length co31)) (fun _ hk => hk.2) (.slice Ao32 t225.length co32)) (fun _ h_ => h_.1))))) (Kd.R_lt (by (with_reducible repeat (first | apply Kd.R_alloc | apply Kd.R_drewN | apply Kd.R_drew)); exact (Kd.R_mono (Kd.R_far (p := ⟨gb228, 2, none⟩) (Kd.R_far (p := ⟨gb228, 1, none⟩) (Kd.R_far (p := ⟨gb228, 0, none⟩) (Kd.R_types HO218.out BK228.out (by decide)) (fun _ hk => hk.2) (.int .i64 t221)) (fun _ hk => hk.2) (.slice Ao31 t222.length co31)) (fun _ hk => hk.2) (.slice Ao32 t225.length co32)) (fun _ h_ => h_.1))))) (Kd.R_lt (by (with_reducible repeat (first | apply Kd.R_alloc | apply Kd.R_drewN | apply Kd.R_drew)); exact (Kd.R_mono (Kd.R_far (p := ⟨gb228, 2, none⟩) (Kd.R_far (p := ⟨gb228, 1, none⟩) (Kd.R_far (p := ⟨gb228, 0, none⟩) (Kd.R_types HO227.out BK228.out (by decide)) (fun _ hk => hk.2) (.int .i64 t221)) (fun _ hk => hk.2) (.slice Ao31 t222.length co31)) (fun _ hk => hk.2) (.slice Ao32 t225.length co32)) (fun _ h_ => h_.1))))) (below_size (by repeat (first | (with_reducible first | exact HB.out | apply below_alloc | apply pw_below_drewN | apply below_drew1 | refine below_set ?_ GE203.out | refine below_set ?_ GE220.out | refine below_set ?_ GE228.out) | exact HB.out)))); have n8_ := Aside0.mk (blk_below (g := gb203) (o := .cells #[.int .i64 a0_0, .slice A0_1 l0_1.length c0_1, .slice A0_2 l0_2.length c0_2] 25 (0, 0)) (by (with_reducible repeat (first | refine blk_drewN ?_ _ | refine blk_drew ?_ | refine blk_alloc ?_ _)); refine blk_far ?_ NB203_228.out _; (with_reducible repeat (first | refine blk_drewN ?_ _ | refine blk_drew ?_ | refine blk_alloc ?_ _)); refine blk_far ?_ NB203_228.out _; (with_reducible repeat (first | refine blk_drewN ?_ _ | refine blk_drew ?_ | refine blk_alloc ?_ _)); refine blk_far ?_ NB203_228.out _; (with_reducible repeat (first | refine blk_drewN ?_ _ | refine blk_drew ?_ | refine blk_alloc ?_ _)); exact BK203.out) hb); have n9_ := Aside0.mk (blk_below (g := gb220) (o := .cells #[.int .i64 t212, .slice Ao23 t213.length co23, .slice Ao24 t216.length co24] 27 (0, 0)) (by (with_reducible repeat (first | refine blk_drewN ?_ _ | refine blk_drew ?_ | refine blk_alloc ?_ _)); refine blk_far ?_ NB220_228.out _; (with_reducible repeat (first | refine blk_drewN ?_ _ | refine blk_drew ?_ | refine blk_alloc ?_ _)); refine blk_far ?_ NB220_228.out _; (with_reducible repeat (first | refine blk_drewN ?_ _ | refine blk_drew ?_ | refine blk_alloc ?_ _)); refine blk_far ?_ NB220_228.out _; (with_reducible repeat (first | refine blk_drewN ?_ _ | refine blk_drew ?_ | refine blk_alloc ?_ _)); exact BK220.out) hb); have n10_ := Aside0.mk (blk_below (g := gb228) (o := .cells #[.int .i64 t221, .slice Ao31 t222.length co31, .slice Ao32 t225.length co32] 27 (0, 0)) (by (with_reducible repeat (first | refine blk_drewN ?_ _ | refine blk_drew ?_ | refine blk_alloc ?_ _)); refine blk_put (cs := #[.int .i64 t221, .slice Ao31 t222.length co31, .slice none 0 0]) ?_ 2 _ rfl; (with_reducible repeat (first | refine blk_drewN ?_ _ | refine blk_drew ?_ | refine blk_alloc ?_ _)); refine blk_put (cs := #[.int .i64 t221, .slice none 0 0, .slice none 0 0]) ?_ 1 _ rfl; (with_reducible repeat (first | refine blk_drewN ?_ _ | refine blk_drew ?_ | refine blk_alloc ?_ _)); refine blk_put (cs := #[.int .i64 0, .slice none 0 0, .slice none 0 0]) ?_ 0 _ rfl; (with_reducible repeat (first | refine blk_drewN ?_ _ | refine blk_drew ?_ | refine blk_alloc ?_ _)); exact BK228.out) hb); have n11_ := Aside0.mk (below_step (by repeat (first | (with_reducible first | exact HB.out | apply below_alloc | apply pw_below_drewN | apply below_drew1 | refine below_set ?_ GE203.out | refine below_set ?_ GE220.out | refine below_set ?_ GE228.out) | exact HB.out)) hb); clear HO208; clear HO211; clear HO215; clear HO218; clear HO224; clear HO227; clear BK203; clear BK220; clear BK228; clear HB; have HO208 := n0_; have HO211 := n1_; have HO215 := n2_; have HO218 := n3_; have HO224 := n4_; have HO227 := n5_; have HO232 := n6_; have HO235 := n7_; have BK203 := n8_; have BK220 := n9_; have BK228 := n10_; have HB := n11_; clear n0_ n1_ n2_ n3_ n4_ n5_ n6_ n7_ n8_ n9_ n10_ n11_; (try clear hb); (try clear hb2); (try clear hk); (try clear hi); (try clear ho0); (try clear ho1)) | ((with_reducible refine gate_dst (N := 7) rfl ?_); refine box_event ?hg (N := 7) ?hd (cs := #[.int .i64 0, .slice none 0 0, .slice none 0 0]) (t := 27) ?hr ?_; (case hd => rfl); (case hg => rfl); (case hr => first | (go_simp; done) | (go_simp; rfl)); intro gb237 hg w34 hbox hb; have n0_ := Aside0.mk (Kd.R_below (by (with_reducible repeat (first | apply Kd.R_alloc | apply Kd.R_drewN | apply Kd.R_drew)); exact HO208.out) hb); have n1_ := Aside0.mk (Kd.R_below (by (with_reducible repeat (first | apply Kd.R_alloc | apply Kd.R_drewN | apply Kd.R_drew)); exact HO211.out) hb); have n2_ := Aside0.mk (Kd.R_below (by (with_reducible repeat (first | apply Kd.R_alloc | apply Kd.R_drewN | apply Kd.R_drew)); exact HO215.out) hb); have n3_ := Aside0.mk (Kd.R_below (by (with_reducible repeat (first | apply Kd.R_alloc | apply Kd.R_drewN | apply Kd.R_drew)); exact HO218.out) hb); have n4_ := Aside0.mk (Kd.R_below (by (with_reducible repeat (first | apply Kd.R_alloc | apply Kd.R_drewN | apply Kd.R_drew)); exact HO224.out) hb); have n5_ := Aside0.mk (Kd.R_below (by (with_reducible repeat (first | apply Kd.R_alloc | apply Kd.R_drewN | apply Kd.R_drew)); exact HO227.out) hb); have n6_ := Aside0.mk (Kd.R_below (by (with_reducible repeat (first | apply Kd.R_alloc | apply Kd.R_drewN | apply Kd.R_drew)); exact HO232.out) hb); have n7_ := Aside0.mk (Kd.R_below (by (with_reducible repeat (first | apply Kd.R_alloc | apply Kd.R_drewN | apply Kd.R_drew)); exact HO235.out) hb); have n8_ := Aside0.mk (blk_below (g := gb203) (o := .cells #[.int .i64 a0_0, .slice A0_1 l0_1.length c0_1, .slice A0_2 l0_2.length c0_2] 25 (0, 0)) (by (with_reducible repeat (first | refine blk_drewN ?_ _ | refine blk_drew ?_ | refine blk_alloc ?_ _)); exact BK203.out) hb); have n9_ := Aside0.mk (blk_below (g := gb220) (o := .cells #[.int .i64 t212, .slice Ao23 t213.length co23, .slice Ao24 t216.length co24] 27 (0, 0)) (by (with_reducible repeat (first | refine blk_drewN ?_ _ | refine blk_drew ?_ | refine blk_alloc ?_ _)); exact BK220.out) hb); have n10_ := Aside0.mk (blk_below (g := gb228) (o := .cells #[.int .i64 t221, .slice Ao31 t222.length co31, .slice Ao32 t225.length co32] 27 (0, 0)) (by (with_reducible repeat (first | refine blk_drewN ?_ _ | refine blk_drew ?_ | refine blk_alloc ?_ _)); exact BK228.out) hb); have n11_ := Aside0.mk (below_step (by repeat (first | (with_reducible first | exact HB.out | apply below_alloc | apply pw_below_drewN | apply below_drew1 | refine below_set ?_ GE203.out | refine below_set ?_ GE220.out | refine below_set ?_ GE228.out) | exact HB.out)) hb); have n12_ := Aside0.mk (hbox); have n13_ := Aside0.mk ((by rw [hg]; exact (below_size (by repeat (first | (with_reducible first | exact HB.out | apply below_alloc | apply pw_below_drewN | apply below_drew1 | refine below_set ?_ GE203.out | refine below_set ?_ GE220.out | refine below_set ?_ GE228.out) | exact HB.out))) : w.heap.size ≤ gb237)); have n14_ := Aside0.mk ((by rw [hg]; exact (below_size (by repeat (first | (with_reducible first | exact HB.out | apply below_alloc | apply pw_below_drewN | apply below_drew1 | refine below_set ?_ GE203.out | refine below_set ?_ GE220.out | refine below_set ?_ GE228.out) | exact HB.out))) : w.heap.size ≤ gb237)); have n15_ := Aside0.mk ((by rw [hg]; exact Nat.ne_of_lt (blk_lt (g := gb203) (o := .cells #[.int .i64 a0_0, .slice A0_1 l0_1.length c0_1, .slice A0_2 l0_2.length c0_2] 25 (0, 0)) (by (with_reducible repeat (first | refine blk_drewN ?_ _ | refine blk_drew ?_ | refine blk_alloc ?_ _)); exact BK203.out)) : gb203 ≠ gb237)); have n16_ := Aside0.mk ((by rw [hg]; exact Nat.ne_of_gt (blk_lt (g := gb203) (o := .cells #[.int .i64 a0_0, .slice A0_1 l0_1.length c0_1, .slice A0_2 l0_2.length c0_2] 25 (0, 0)) (by (with_reducible repeat (first | refine blk_drewN ?_ _ | refine blk_drew ?_ | refine blk_alloc ?_ _)); exact BK203.out)) : gb237 ≠ gb203)); have n17_ := Aside0.mk ((by rw [hg]; exact Nat.ne_of_lt (blk_lt (g := gb220) (o := .cells #[.int .i64 t212, .slice Ao23 t213.length co23, .slice Ao24 t216.length co24] 27 (0, 0)) (by (with_reducible repeat (first | refine blk_drewN ?_ _ | refine blk_drew ?_ | refine blk_alloc ?_ _)); exact BK220.out)) : gb220 ≠ gb237)); have n18_ := Aside0.mk ((by rw [hg]; exact Nat.ne_of_gt (blk_lt (g := gb220) (o := .cells #[.int .i64 t212, .slice Ao23 t213.length co23, .slice Ao24 t216.length co24] 27 (0, 0)) (by (with_reducible repeat (first | refine blk_drewN ?_ _ | refine blk_drew ?_ | refine blk_alloc ?_ _)); exact BK220.out)) : gb237 ≠ gb220)); have n19_ := Aside0.mk ((by rw [hg]; exact Nat.ne_of_lt (blk_lt (g := gb228) (o := .cells #[.int .i64 t221, .slice Ao31 t222.length co31, .slice Ao32 t225.length co32] 27 (0, 0)) (by (with_reducible repeat (first | refine blk_drewN ?_ _ | refine blk_drew ?_ | refine blk_alloc ?_ _)); exact BK228.out)) : gb228 ≠ gb237)); have n20_ := Aside0.mk ((by rw [hg]; exact Nat.ne_of_gt (blk_lt (g := gb228) (o := .cells #[.int .i64 t221, .slice Ao31 t222.length co31, .slice Ao32 t225.length co32] 27 (0, 0)) (by (with_reducible repeat (first | refine blk_drewN ?_ _ | refine blk_drew ?_ | refine blk_alloc ?_ _)); exact BK228.out)) : gb237 ≠ gb228)); clear HO208; clear HO211; clear HO215; clear HO218; clear HO224; clear HO227; clear HO232; clear HO235; clear BK203; clear BK220; clear BK228; clear HB; have HO208 := n0_; have HO211 := n1_; have HO215 := n2_; have HO218 := n3_; have HO224 := n4_; have HO227 := n5_; have HO232 := n6_; have HO235 := n7_; have BK203 := n8_; have BK220 := n9_; have BK228 := n10_; have HB := n11_; have BK237 := n12_; have GW237 := n13_; have GE237 := n14_; have NB203_237 := n15_; have NB237_203 := n16_; have NB220_237 := n17_; have NB237_220 := n18_; have NB228_237 := n19_; have NB237_228 := n20_; clear n0_ n1_ n2_ n3_ n4_ n5_ n6_ n7_ n8_ n9_ n10_ n11_ n12_ n13_ n14_ n15_ n16_ n17_ n18_ n19_ n20_; clear hb hbox hg; have hnb35 := NB237_203.out; have hnc35 := NB203_237.out; have hnb36 := NB237_220.out; have hnc36 := NB220_237.out; have hnb37 := NB237_228.out; have hnc37 := NB228_237.out; have hcz38_0 : w34.cell? ⟨gb237, 0, none⟩ = some (.int .i64 0) := (blk_cell BK237.out 0).trans rfl; have hcz38_1 : w34.cell? ⟨gb237, 1, none⟩ = some (.slice none 0 0) := (blk_cell BK237.out 1).trans rfl; have hcz38_2 : w34.cell? ⟨gb237, 2, none⟩ = some (.slice none 0 0) := (blk_cell BK237.out 2).trans rfl; have hfz38_0 := blk_frozen BK237.out 0; have hfz38_1 := blk_frozen BK237.out 1; have hfz38_2 := blk_frozen BK237.out 2; obtain ⟨Ao39, co39, eo39⟩ := Kd.R_slice HO232.out; subst eo39; obtain ⟨Ao40, co40, eo40⟩ := Kd.R_slice HO235.out; subst eo40))
  (try simp only [Act.put, List.setIfInBounds_toArray, List.set_cons_zero, List.set_cons_succ])
  go_cut [40] (fun v40 wc => ∃ (kq : Nat) (x40_10 : Bool), v40 = .bool x40_10 ∧ Aside0 (laws_FnExactComplementOf.j0 kq t219 t236 x40_10 a0_0 l0_1 l0_2 t212 t213 t216 t221 t222 t225 t229 t230 t233 = some r) ∧ Aside0 (kq ≤ k) ∧ Aside0 (Kd.R (Kd.int .i64) 3 wc w.heap.size (fun k_ => some k_ ≠ ((.slice Ao31 t222.length co31) : Value).ownBlock ∧ some k_ ≠ ((.slice Ao39 t230.length co39) : Value).ownBlock) (.slice Ao23 t213.length co23) t213) ∧ Aside0 (Kd.R Kd.bool 4 wc w.heap.size (fun k_ => some k_ ≠ ((.slice Ao32 t225.length co32) : Value).ownBlock ∧ some k_ ≠ ((.slice Ao40 t233.length co40) : Value).ownBlock) (.slice Ao24 t216.length co24) t216) ∧ Aside0 (Kd.R (Kd.int .i64) 3 wc w.heap.size (fun k_ => some k_ ≠ ((.slice Ao23 t213.length co23) : Value).ownBlock ∧ some k_ ≠ ((.slice Ao39 t230.length co39) : Value).ownBlock) (.slice Ao31 t222.length co31) t222) ∧ Aside0 (Kd.R Kd.bool 4 wc w.heap.size (fun k_ => some k_ ≠ ((.slice Ao24 t216.length co24) : Value).ownBlock ∧ some k_ ≠ ((.slice Ao40 t233.length co40) : Value).ownBlock) (.slice Ao32 t225.length co32) t225) ∧ Aside0 (Kd.R (Kd.int .i64) 3 wc w.heap.size (fun k_ => some k_ ≠ ((.slice Ao23 t213.length co23) : Value).ownBlock ∧ some k_ ≠ ((.slice Ao31 t222.length co31) : Value).ownBlock) (.slice Ao39 t230.length co39) t230) ∧ Aside0 (Kd.R Kd.bool 4 wc w.heap.size (fun k_ => some k_ ≠ ((.slice Ao24 t216.length co24) : Value).ownBlock ∧ some k_ ≠ ((.slice Ao32 t225.length co32) : Value).ownBlock) (.slice Ao40 t233.length co40) t233) ∧ Aside0 (wc.heap[gb203]? = some (.cells #[.int .i64 a0_0, (.slice A0_1 l0_1.length c0_1), (.slice A0_2 l0_2.length c0_2)] 25 (0, 0))) ∧ Aside0 (wc.heap[gb220]? = some (.cells #[.int .i64 t212, (.slice Ao23 t213.length co23), (.slice Ao24 t216.length co24)] 27 (0, 0))) ∧ Aside0 (wc.heap[gb228]? = some (.cells #[.int .i64 t221, (.slice Ao31 t222.length co31), (.slice Ao32 t225.length co32)] 27 (0, 0))) ∧ Aside0 (wc.heap[gb237]? = some (.cells #[.int .i64 t229, (.slice Ao39 t230.length co39), (.slice Ao40 t233.length co40)] 27 (0, 0))) ∧ Aside0 (Below w.heap.size w wc))
  case first =>
   have H := HC11.out
   clear HC11
   replace H := Option.bind_eq_some_iff.mp H
   obtain ⟨t238, A410, H⟩ := H
   replace H : (if t238 = true then (laws_FnExactComplementOf.j0 k t219 t236 (t236 != t219) a0_0 l0_1 l0_2 t212 t213 t216 t221 t222 t225 t229 t230 t233) else (laws_FnExactComplementOf.j0 k t219 t236 true a0_0 l0_1 l0_2 t212 t213 t216 t221 t222 t225 t229 t230 t233)) = some r := H
   have A41 := Aside0.mk A410
   clear A410
   by_cases c42 : t238 = true
   ·subst c42
    have H1 : (laws_FnExactComplementOf.j0 k t219 t236 (t236 != t219) a0_0 l0_1 l0_2 t212 t213 t216 t221 t222 t225 t229 t230 t233) = some r := by rw [if_pos rfl] at H; exact H
    clear H
    have H := H1
    clear H1
    have H' := Aside0.mk H
    clear H
    have hnb43 := NB237_203.out
    have hnc43 := NB203_237.out
    have hnb44 := NB237_220.out
    have hnc44 := NB220_237.out
    have hnb45 := NB237_228.out
    have hnc45 := NB228_237.out
    have hcz46_0 : w34.cell? ⟨gb237, 0, none⟩ = some (.int .i64 0) := (blk_cell BK237.out 0).trans rfl
    have hcz46_1 : w34.cell? ⟨gb237, 1, none⟩ = some (.slice none 0 0) := (blk_cell BK237.out 1).trans rfl
    have hcz46_2 : w34.cell? ⟨gb237, 2, none⟩ = some (.slice none 0 0) := (blk_cell BK237.out 2).trans rfl
    have hfz46_0 := blk_frozen BK237.out 0
    have hfz46_1 := blk_frozen BK237.out 1
    have hfz46_2 := blk_frozen BK237.out 2
    have hnb47 := NB220_203.out
    have hnc47 := NB203_220.out
    have hnb48 := NB220_228.out
    have hnc48 := NB228_220.out
    have hcz49_0 : w34.cell? ⟨gb220, 0, none⟩ = some (.int .i64 t212) := (blk_cell BK220.out 0).trans rfl
    have hcz49_1 : w34.cell? ⟨gb220, 1, none⟩ = some (.slice Ao23 t213.length co23) := (blk_cell BK220.out 1).trans rfl
    have hcz49_2 : w34.cell? ⟨gb220, 2, none⟩ = some (.slice Ao24 t216.length co24) := (blk_cell BK220.out 2).trans rfl
    have hfz49_0 := blk_frozen BK220.out 0
    have hfz49_1 := blk_frozen BK220.out 1
    have hfz49_2 := blk_frozen BK220.out 2
    go_wp2_with (first | ((with_reducible refine gate_callee (f := 19) rfl ?_); refine goesL_ (some 34) rfl rfl Try.func19 (by kernel_rfl) rfl #[.agg #[.int .i64 t229, .slice Ao39 t230.length co39, .slice Ao40 t233.length co40], .agg #[.int .i64 t212, .slice Ao23 t213.length co23, .slice Ao24 t216.length co24]] rfl (by (try simp only [List.map_toArray, List.map_cons, List.map_nil]); first | done | rfl | (simp only [Base.w64_u8]; rfl) | (simp only [List.length_drop, List.length_take]; rfl)) ?_; (with_reducible refine (laws_eqAutomaton.calls k t229 _ _ t230 _ _ t233 t212 _ _ t213 _ _ t216 true _ ?side1 ?side2 ?side3 ?side4 ?side5 ?side6 ?side7 ?side8 A41.out).mono ?_); (case side1 => refine (Kd.R_reads' (e := 3) (base := w.heap.size) (ok := fun k_ => (((True ∧ some k_ ≠ (.slice Ao17 t206.length co17 : Value).ownBlock) ∧ some k_ ≠ (.slice Ao23 t213.length co23 : Value).ownBlock) ∧ some k_ ≠ (.slice Ao31 t222.length co31 : Value).ownBlock)) (n := t230.length) (c := co39) ?_).2.2; exact (by (with_reducible repeat (first | apply Kd.R_alloc | apply Kd.R_drewN | apply Kd.R_drew)); exact (Kd.R_mono (Kd.R_far (p := ⟨gb237, 2, none⟩) (Kd.R_far (p := ⟨gb237, 1, none⟩) (Kd.R_far (p := ⟨gb237, 0, none⟩) (Kd.R_types HO232.out BK237.out (by decide)) (fun _ hk => hk.2) (.int .i64 t229)) (fun _ hk => hk.2) (.slice Ao39 t230.length co39)) (fun _ hk => hk.2) (.slice Ao40 t233.length co40)) (fun _ h_ => h_.1)))); (case side2 => exact (Kd.R_reads' HO232.out).2.1); (case side3 => refine (Kd.R_reads' (e := 4) (base := w.heap.size) (ok := fun k_ => (((True ∧ some k_ ≠ (.slice Ao18 t209.length co18 : Value).ownBlock) ∧ some k_ ≠ (.slice Ao24 t216.length co24 : Value).ownBlock) ∧ some k_ ≠ (.slice Ao32 t225.length co32 : Value).ownBlock)) (n := t233.length) (c := co40) ?_).2.2; exact (by (with_reducible repeat (first | apply Kd.R_alloc | apply Kd.R_drewN | apply Kd.R_drew)); exact (Kd.R_mono (Kd.R_far (p := ⟨gb237, 2, none⟩) (Kd.R_far (p := ⟨gb237, 1, none⟩) (Kd.R_far (p := ⟨gb237, 0, none⟩) (Kd.R_types HO235.out BK237.out (by decide)) (fun _ hk => hk.2) (.int .i64 t229)) (fun _ hk => hk.2) (.slice Ao39 t230.length co39)) (fun _ hk => hk.2) (.slice Ao40 t233.length co40)) (fun _ h_ => h_.1)))); (case side4 => exact (Kd.R_reads' HO235.out).2.1); (case side5 => refine (Kd.R_reads' (e := 3) (base := w.heap.size) (ok := fun k_ => (((True ∧ some k_ ≠ (.slice Ao17 t206.length co17 : Value).ownBlock) ∧ some k_ ≠ (.slice Ao31 t222.length co31 : Value).ownBlock) ∧ some k_ ≠ (.slice Ao39 t230.length co39 : Value).ownBlock)) (n := t213.length) (c := co23) ?_).2.2; exact (by (with_reducible repeat (first | apply Kd.R_alloc | apply Kd.R_drewN | apply Kd.R_drew)); exact (Kd.R_mono (Kd.R_far (p := ⟨gb237, 2, none⟩) (Kd.R_far (p := ⟨gb237, 1, none⟩) (Kd.R_far (p := ⟨gb237, 0, none⟩) (Kd.R_types HO215.out BK237.out (by decide)) (fun _ hk => hk.2) (.int .i64 t229)) (fun _ hk => hk.2) (.slice Ao39 t230.length co39)) (fun _ hk => hk.2) (.slice Ao40 t233.length co40)) (fun _ h_ => h_.1)))); (case side6 => exact (Kd.R_reads' HO215.out).2.1); (case side7 => refine (Kd.R_reads' (e := 4) (base := w.heap.size) (ok := fun k_ => (((True ∧ some k_ ≠ (.slice Ao18 t209.length co18 : Value).ownBlock) ∧ some k_ ≠ (.slice Ao32 t225.length co32 : Value).ownBlock) ∧ some k_ ≠ (.slice Ao40 t233.length co40 : Value).ownBlock)) (n := t216.length) (c := co24) ?_).2.2; exact (by (with_reducible repeat (first | apply Kd.R_alloc | apply Kd.R_drewN | apply Kd.R_drew)); exact (Kd.R_mono (Kd.R_far (p := ⟨gb237, 2, none⟩) (Kd.R_far (p := ⟨gb237, 1, none⟩) (Kd.R_far (p := ⟨gb237, 0, none⟩) (Kd.R_types HO218.out BK237.out (by decide)) (fun _ hk => hk.2) (.int .i64 t229)) (fun _ hk => hk.2) (.slice Ao39 t230.length co39)) (fun _ hk => hk.2) (.slice Ao40 t233.length co40)) (fun _ h_ => h_.1)))); (case side8 => exact (Kd.R_reads' HO218.out).2.1); rintro e w50 ⟨rfl, hb⟩; refine ⟨_, rfl, ?_⟩; have n0_ := Aside0.mk (Kd.R_below (by (with_reducible repeat (first | apply Kd.R_alloc | apply Kd.R_drewN | apply Kd.R_drew)); exact (Kd.R_mono (Kd.R_far (p := ⟨gb237, 2, none⟩) (Kd.R_far (p := ⟨gb237, 1, none⟩) (Kd.R_far (p := ⟨gb237, 0, none⟩) (Kd.R_types HO208.out BK237.out (by decide)) (fun _ hk => hk.2) (.int .i64 t229)) (fun _ hk => hk.2) (.slice Ao39 t230.length co39)) (fun _ hk => hk.2) (.slice Ao40 t233.length co40)) (fun _ h_ => h_.1))) hb); have n1_ := Aside0.mk (Kd.R_below (by (with_reducible repeat (first | apply Kd.R_alloc | apply Kd.R_drewN | apply Kd.R_drew)); exact (Kd.R_mono (Kd.R_far (p := ⟨gb237, 2, none⟩) (Kd.R_far (p := ⟨gb237, 1, none⟩) (Kd.R_far (p := ⟨gb237, 0, none⟩) (Kd.R_types HO211.out BK237.out (by decide)) (fun _ hk => hk.2) (.int .i64 t229)) (fun _ hk => hk.2) (.slice Ao39 t230.length co39)) (fun _ hk => hk.2) (.slice Ao40 t233.length co40)) (fun _ h_ => h_.1))) hb); have n2_ := Aside0.mk (Kd.R_below (by (with_reducible repeat (first | apply Kd.R_alloc | apply Kd.R_drewN | apply Kd.R_drew)); exact (Kd.R_mono (Kd.R_far (p := ⟨gb237, 2, none⟩) (Kd.R_far (p := ⟨gb237, 1, none⟩) (Kd.R_far (p := ⟨gb237, 0, none⟩) (Kd.R_types HO215.out BK237.out (by decide)) (fun _ hk => hk.2) (.int .i64 t229)) (fun _ hk => hk.2) (.slice Ao39 t230.length co39)) (fun _ hk => hk.2) (.slice Ao40 t233.length co40)) (fun _ h_ => h_.1))) hb); have n3_ := Aside0.mk (Kd.R_below (by (with_reducible repeat (first | apply Kd.R_alloc | apply Kd.R_drewN | apply Kd.R_drew)); exact (Kd.R_mono (Kd.R_far (p := ⟨gb237, 2, none⟩) (Kd.R_far (p := ⟨gb237, 1, none⟩) (Kd.R_far (p := ⟨gb237, 0, none⟩) (Kd.R_types HO218.out BK237.out (by decide)) (fun _ hk => hk.2) (.int .i64 t229)) (fun _ hk => hk.2) (.slice Ao39 t230.length co39)) (fun _ hk => hk.2) (.slice Ao40 t233.length co40)) (fun _ h_ => h_.1))) hb); have n4_ := Aside0.mk (Kd.R_below (by (with_reducible repeat (first | apply Kd.R_alloc | apply Kd.R_drewN | apply Kd.R_drew)); exact (Kd.R_mono (Kd.R_far (p := ⟨gb237, 2, none⟩) (Kd.R_far (p := ⟨gb237, 1, none⟩) (Kd.R_far (p := ⟨gb237, 0, none⟩) (Kd.R_types HO224.out BK237.out (by decide)) (fun _ hk => hk.2) (.int .i64 t229)) (fun _ hk => hk.2) (.slice Ao39 t230.length co39)) (fun _ hk => hk.2) (.slice Ao40 t233.length co40)) (fun _ h_ => h_.1))) hb); have n5_ := Aside0.mk (Kd.R_below (by (with_reducible repeat (first | apply Kd.R_alloc | apply Kd.R_drewN | apply Kd.R_drew)); exact (Kd.R_mono (Kd.R_far (p := ⟨gb237, 2, none⟩) (Kd.R_far (p := ⟨gb237, 1, none⟩) (Kd.R_far (p := ⟨gb237, 0, none⟩) (Kd.R_types HO227.out BK237.out (by decide)) (fun _ hk => hk.2) (.int .i64 t229)) (fun _ hk => hk.2) (.slice Ao39 t230.length co39)) (fun _ hk => hk.2) (.slice Ao40 t233.length co40)) (fun _ h_ => h_.1))) hb); have n6_ := Aside0.mk (Kd.R_below (by (with_reducible repeat (first | apply Kd.R_alloc | apply Kd.R_drewN | apply Kd.R_drew)); exact (Kd.R_mono (Kd.R_far (p := ⟨gb237, 2, none⟩) (Kd.R_far (p := ⟨gb237, 1, none⟩) (Kd.R_far (p := ⟨gb237, 0, none⟩) (Kd.R_types HO232.out BK237.out (by decide)) (fun _ hk => hk.2) (.int .i64 t229)) (fun _ hk => hk.2) (.slice Ao39 t230.length co39)) (fun _ hk => hk.2) (.slice Ao40 t233.length co40)) (fun _ h_ => h_.1))) hb); have n7_ := Aside0.mk (Kd.R_below (by (with_reducible repeat (first | apply Kd.R_alloc | apply Kd.R_drewN | apply Kd.R_drew)); exact (Kd.R_mono (Kd.R_far (p := ⟨gb237, 2, none⟩) (Kd.R_far (p := ⟨gb237, 1, none⟩) (Kd.R_far (p := ⟨gb237, 0, none⟩) (Kd.R_types HO235.out BK237.out (by decide)) (fun _ hk => hk.2) (.int .i64 t229)) (fun _ hk => hk.2) (.slice Ao39 t230.length co39)) (fun _ hk => hk.2) (.slice Ao40 t233.length co40)) (fun _ h_ => h_.1))) hb); have n8_ := Aside0.mk (blk_below (g := gb203) (o := .cells #[.int .i64 a0_0, .slice A0_1 l0_1.length c0_1, .slice A0_2 l0_2.length c0_2] 25 (0, 0)) (by (with_reducible repeat (first | refine blk_drewN ?_ _ | refine blk_drew ?_ | refine blk_alloc ?_ _)); refine blk_far ?_ NB203_237.out _; (with_reducible repeat (first | refine blk_drewN ?_ _ | refine blk_drew ?_ | refine blk_alloc ?_ _)); refine blk_far ?_ NB203_237.out _; (with_reducible repeat (first | refine blk_drewN ?_ _ | refine blk_drew ?_ | refine blk_alloc ?_ _)); refine blk_far ?_ NB203_237.out _; (with_reducible repeat (first | refine blk_drewN ?_ _ | refine blk_drew ?_ | refine blk_alloc ?_ _)); exact BK203.out) hb); have n9_ := Aside0.mk (blk_below (g := gb220) (o := .cells #[.int .i64 t212, .slice Ao23 t213.length co23, .slice Ao24 t216.length co24] 27 (0, 0)) (by (with_reducible repeat (first | refine blk_drewN ?_ _ | refine blk_drew ?_ | refine blk_alloc ?_ _)); refine blk_far ?_ NB220_237.out _; (with_reducible repeat (first | refine blk_drewN ?_ _ | refine blk_drew ?_ | refine blk_alloc ?_ _)); refine blk_far ?_ NB220_237.out _; (with_reducible repeat (first | refine blk_drewN ?_ _ | refine blk_drew ?_ | refine blk_alloc ?_ _)); refine blk_far ?_ NB220_237.out _; (with_reducible repeat (first | refine blk_drewN ?_ _ | refine blk_drew ?_ | refine blk_alloc ?_ _)); exact BK220.out) hb); have n10_ := Aside0.mk (blk_below (g := gb228) (o := .cells #[.int .i64 t221, .slice Ao31 t222.length co31, .slice Ao32 t225.length co32] 27 (0, 0)) (by (with_reducible repeat (first | refine blk_drewN ?_ _ | refine blk_drew ?_ | refine blk_alloc ?_ _)); refine blk_far ?_ NB228_237.out _; (with_reducible repeat (first | refine blk_drewN ?_ _ | refine blk_drew ?_ | refine blk_alloc ?_ _)); refine blk_far ?_ NB228_237.out _; (with_reducible repeat (first | refine blk_drewN ?_ _ | refine blk_drew ?_ | refine blk_alloc ?_ _)); refine blk_far ?_ NB228_237.out _; (with_reducible repeat (first | refine blk_drewN ?_ _ | refine blk_drew ?_ | refine blk_alloc ?_ _)); exact BK228.out) hb); have n11_ := Aside0.mk (blk_below (g := gb237) (o := .cells #[.int .i64 t229, .slice Ao39 t230.length co39, .slice Ao40 t233.length co40] 27 (0, 0)) (by (with_reducible repeat (first | refine blk_drewN ?_ _ | refine blk_drew ?_ | refine blk_alloc ?_ _)); refine blk_put (cs := #[.int .i64 t229, .slice Ao39 t230.length co39, .slice none 0 0]) ?_ 2 _ rfl; (with_reducible repeat (first | refine blk_drewN ?_ _ | refine blk_drew ?_ | refine blk_alloc ?_ _)); refine blk_put (cs := #[.int .i64 t229, .slice none 0 0, .slice none 0 0]) ?_ 1 _ rfl; (with_reducible repeat (first | refine blk_drewN ?_ _ | refine blk_drew ?_ | refine blk_alloc ?_ _)); refine blk_put (cs := #[.int .i64 0, .slice none 0 0, .slice none 0 0]) ?_ 0 _ rfl; (with_reducible repeat (first | refine blk_drewN ?_ _ | refine blk_drew ?_ | refine blk_alloc ?_ _)); exact BK237.out) hb); have n12_ := Aside0.mk (below_step (by repeat (first | (with_reducible first | exact HB.out | apply below_alloc | apply pw_below_drewN | apply below_drew1 | refine below_set ?_ GE203.out | refine below_set ?_ GE220.out | refine below_set ?_ GE228.out | refine below_set ?_ GE237.out) | exact HB.out)) hb); clear HO208; clear HO211; clear HO215; clear HO218; clear HO224; clear HO227; clear HO232; clear HO235; clear BK203; clear BK220; clear BK228; clear BK237; clear HB; have HO208 := n0_; have HO211 := n1_; have HO215 := n2_; have HO218 := n3_; have HO224 := n4_; have HO227 := n5_; have HO232 := n6_; have HO235 := n7_; have BK203 := n8_; have BK220 := n9_; have BK228 := n10_; have BK237 := n11_; have HB := n12_; clear n0_ n1_ n2_ n3_ n4_ n5_ n6_ n7_ n8_ n9_ n10_ n11_ n12_; (try clear hb); (try clear hb2); (try clear hk); (try clear hi)))
    go_meet
    case rel => exact ⟨_, ((t236 != t219)), (by first | rfl | (simp; done) | (simp [*]; done)), H', ⟨by first | omega | exact Nat.le_refl _⟩, ⟨by (with_reducible repeat (first | apply Kd.R_alloc | apply Kd.R_drewN | apply Kd.R_drew)); exact Kd.R_mono HO215.out (fun _ hk => ⟨hk.1.2, hk.2⟩)⟩, ⟨by (with_reducible repeat (first | apply Kd.R_alloc | apply Kd.R_drewN | apply Kd.R_drew)); exact Kd.R_mono HO218.out (fun _ hk => ⟨hk.1.2, hk.2⟩)⟩, ⟨by (with_reducible repeat (first | apply Kd.R_alloc | apply Kd.R_drewN | apply Kd.R_drew)); exact Kd.R_mono HO224.out (fun _ hk => ⟨hk.1.2, hk.2⟩)⟩, ⟨by (with_reducible repeat (first | apply Kd.R_alloc | apply Kd.R_drewN | apply Kd.R_drew)); exact Kd.R_mono HO227.out (fun _ hk => ⟨hk.1.2, hk.2⟩)⟩, ⟨by (with_reducible repeat (first | apply Kd.R_alloc | apply Kd.R_drewN | apply Kd.R_drew)); exact Kd.R_mono HO232.out (fun _ hk => ⟨hk.1.2, hk.2⟩)⟩, ⟨by (with_reducible repeat (first | apply Kd.R_alloc | apply Kd.R_drewN | apply Kd.R_drew)); exact Kd.R_mono HO235.out (fun _ hk => ⟨hk.1.2, hk.2⟩)⟩, ⟨by (with_reducible repeat (first | refine blk_drewN ?_ _ | refine blk_drew ?_ | refine blk_alloc ?_ _)); exact BK203.out⟩, ⟨by (with_reducible repeat (first | refine blk_drewN ?_ _ | refine blk_drew ?_ | refine blk_alloc ?_ _)); exact BK220.out⟩, ⟨by (with_reducible repeat (first | refine blk_drewN ?_ _ | refine blk_drew ?_ | refine blk_alloc ?_ _)); exact BK228.out⟩, ⟨by (with_reducible repeat (first | refine blk_drewN ?_ _ | refine blk_drew ?_ | refine blk_alloc ?_ _)); exact BK237.out⟩, ⟨by repeat (first | (with_reducible first | exact HB.out | apply below_alloc | apply pw_below_drewN | apply below_drew1 | refine below_set ?_ GE203.out | refine below_set ?_ GE220.out | refine below_set ?_ GE228.out | refine below_set ?_ GE237.out) | exact HB.out)⟩⟩
   ·replace c42 := Bool.eq_false_iff.mpr c42
    subst c42
    have H1 : (laws_FnExactComplementOf.j0 k t219 t236 true a0_0 l0_1 l0_2 t212 t213 t216 t221 t222 t225 t229 t230 t233) = some r := by rw [if_neg (show ¬ (false = true) by decide)] at H; exact H
    clear H
    have H := H1
    clear H1
    have H' := Aside0.mk H
    clear H
    have hnb51 := NB237_203.out
    have hnc51 := NB203_237.out
    have hnb52 := NB237_220.out
    have hnc52 := NB220_237.out
    have hnb53 := NB237_228.out
    have hnc53 := NB228_237.out
    have hcz54_0 : w34.cell? ⟨gb237, 0, none⟩ = some (.int .i64 0) := (blk_cell BK237.out 0).trans rfl
    have hcz54_1 : w34.cell? ⟨gb237, 1, none⟩ = some (.slice none 0 0) := (blk_cell BK237.out 1).trans rfl
    have hcz54_2 : w34.cell? ⟨gb237, 2, none⟩ = some (.slice none 0 0) := (blk_cell BK237.out 2).trans rfl
    have hfz54_0 := blk_frozen BK237.out 0
    have hfz54_1 := blk_frozen BK237.out 1
    have hfz54_2 := blk_frozen BK237.out 2
    have hnb55 := NB220_203.out
    have hnc55 := NB203_220.out
    have hnb56 := NB220_228.out
    have hnc56 := NB228_220.out
    have hcz57_0 : w34.cell? ⟨gb220, 0, none⟩ = some (.int .i64 t212) := (blk_cell BK220.out 0).trans rfl
    have hcz57_1 : w34.cell? ⟨gb220, 1, none⟩ = some (.slice Ao23 t213.length co23) := (blk_cell BK220.out 1).trans rfl
    have hcz57_2 : w34.cell? ⟨gb220, 2, none⟩ = some (.slice Ao24 t216.length co24) := (blk_cell BK220.out 2).trans rfl
    have hfz57_0 := blk_frozen BK220.out 0
    have hfz57_1 := blk_frozen BK220.out 1
    have hfz57_2 := blk_frozen BK220.out 2
    go_wp2_with (first | ((with_reducible refine gate_callee (f := 19) rfl ?_); refine goesL_ (some 34) rfl rfl Try.func19 (by kernel_rfl) rfl #[.agg #[.int .i64 t229, .slice Ao39 t230.length co39, .slice Ao40 t233.length co40], .agg #[.int .i64 t212, .slice Ao23 t213.length co23, .slice Ao24 t216.length co24]] rfl (by (try simp only [List.map_toArray, List.map_cons, List.map_nil]); first | done | rfl | (simp only [Base.w64_u8]; rfl) | (simp only [List.length_drop, List.length_take]; rfl)) ?_; (with_reducible refine (laws_eqAutomaton.calls k t229 _ _ t230 _ _ t233 t212 _ _ t213 _ _ t216 false _ ?side1 ?side2 ?side3 ?side4 ?side5 ?side6 ?side7 ?side8 A41.out).mono ?_); (case side1 => refine (Kd.R_reads' (e := 3) (base := w.heap.size) (ok := fun k_ => (((True ∧ some k_ ≠ (.slice Ao17 t206.length co17 : Value).ownBlock) ∧ some k_ ≠ (.slice Ao23 t213.length co23 : Value).ownBlock) ∧ some k_ ≠ (.slice Ao31 t222.length co31 : Value).ownBlock)) (n := t230.length) (c := co39) ?_).2.2; exact (by (with_reducible repeat (first | apply Kd.R_alloc | apply Kd.R_drewN | apply Kd.R_drew)); exact (Kd.R_mono (Kd.R_far (p := ⟨gb237, 2, none⟩) (Kd.R_far (p := ⟨gb237, 1, none⟩) (Kd.R_far (p := ⟨gb237, 0, none⟩) (Kd.R_types HO232.out BK237.out (by decide)) (fun _ hk => hk.2) (.int .i64 t229)) (fun _ hk => hk.2) (.slice Ao39 t230.length co39)) (fun _ hk => hk.2) (.slice Ao40 t233.length co40)) (fun _ h_ => h_.1)))); (case side2 => exact (Kd.R_reads' HO232.out).2.1); (case side3 => refine (Kd.R_reads' (e := 4) (base := w.heap.size) (ok := fun k_ => (((True ∧ some k_ ≠ (.slice Ao18 t209.length co18 : Value).ownBlock) ∧ some k_ ≠ (.slice Ao24 t216.length co24 : Value).ownBlock) ∧ some k_ ≠ (.slice Ao32 t225.length co32 : Value).ownBlock)) (n := t233.length) (c := co40) ?_).2.2; exact (by (with_reducible repeat (first | apply Kd.R_alloc | apply Kd.R_drewN | apply Kd.R_drew)); exact (Kd.R_mono (Kd.R_far (p := ⟨gb237, 2, none⟩) (Kd.R_far (p := ⟨gb237, 1, none⟩) (Kd.R_far (p := ⟨gb237, 0, none⟩) (Kd.R_types HO235.out BK237.out (by decide)) (fun _ hk => hk.2) (.int .i64 t229)) (fun _ hk => hk.2) (.slice Ao39 t230.length co39)) (fun _ hk => hk.2) (.slice Ao40 t233.length co40)) (fun _ h_ => h_.1)))); (case side4 => exact (Kd.R_reads' HO235.out).2.1); (case side5 => refine (Kd.R_reads' (e := 3) (base := w.heap.size) (ok := fun k_ => (((True ∧ some k_ ≠ (.slice Ao17 t206.length co17 : Value).ownBlock) ∧ some k_ ≠ (.slice Ao31 t222.length co31 : Value).ownBlock) ∧ some k_ ≠ (.slice Ao39 t230.length co39 : Value).ownBlock)) (n := t213.length) (c := co23) ?_).2.2; exact (by (with_reducible repeat (first | apply Kd.R_alloc | apply Kd.R_drewN | apply Kd.R_drew)); exact (Kd.R_mono (Kd.R_far (p := ⟨gb237, 2, none⟩) (Kd.R_far (p := ⟨gb237, 1, none⟩) (Kd.R_far (p := ⟨gb237, 0, none⟩) (Kd.R_types HO215.out BK237.out (by decide)) (fun _ hk => hk.2) (.int .i64 t229)) (fun _ hk => hk.2) (.slice Ao39 t230.length co39)) (fun _ hk => hk.2) (.slice Ao40 t233.length co40)) (fun _ h_ => h_.1)))); (case side6 => exact (Kd.R_reads' HO215.out).2.1); (case side7 => refine (Kd.R_reads' (e := 4) (base := w.heap.size) (ok := fun k_ => (((True ∧ some k_ ≠ (.slice Ao18 t209.length co18 : Value).ownBlock) ∧ some k_ ≠ (.slice Ao32 t225.length co32 : Value).ownBlock) ∧ some k_ ≠ (.slice Ao40 t233.length co40 : Value).ownBlock)) (n := t216.length) (c := co24) ?_).2.2; exact (by (with_reducible repeat (first | apply Kd.R_alloc | apply Kd.R_drewN | apply Kd.R_drew)); exact (Kd.R_mono (Kd.R_far (p := ⟨gb237, 2, none⟩) (Kd.R_far (p := ⟨gb237, 1, none⟩) (Kd.R_far (p := ⟨gb237, 0, none⟩) (Kd.R_types HO218.out BK237.out (by decide)) (fun _ hk => hk.2) (.int .i64 t229)) (fun _ hk => hk.2) (.slice Ao39 t230.length co39)) (fun _ hk => hk.2) (.slice Ao40 t233.length co40)) (fun _ h_ => h_.1)))); (case side8 => exact (Kd.R_reads' HO218.out).2.1); rintro e w58 ⟨rfl, hb⟩; refine ⟨_, rfl, ?_⟩; have n0_ := Aside0.mk (Kd.R_below (by (with_reducible repeat (first | apply Kd.R_alloc | apply Kd.R_drewN | apply Kd.R_drew)); exact (Kd.R_mono (Kd.R_far (p := ⟨gb237, 2, none⟩) (Kd.R_far (p := ⟨gb237, 1, none⟩) (Kd.R_far (p := ⟨gb237, 0, none⟩) (Kd.R_types HO208.out BK237.out (by decide)) (fun _ hk => hk.2) (.int .i64 t229)) (fun _ hk => hk.2) (.slice Ao39 t230.length co39)) (fun _ hk => hk.2) (.slice Ao40 t233.length co40)) (fun _ h_ => h_.1))) hb); have n1_ := Aside0.mk (Kd.R_below (by (with_reducible repeat (first | apply Kd.R_alloc | apply Kd.R_drewN | apply Kd.R_drew)); exact (Kd.R_mono (Kd.R_far (p := ⟨gb237, 2, none⟩) (Kd.R_far (p := ⟨gb237, 1, none⟩) (Kd.R_far (p := ⟨gb237, 0, none⟩) (Kd.R_types HO211.out BK237.out (by decide)) (fun _ hk => hk.2) (.int .i64 t229)) (fun _ hk => hk.2) (.slice Ao39 t230.length co39)) (fun _ hk => hk.2) (.slice Ao40 t233.length co40)) (fun _ h_ => h_.1))) hb); have n2_ := Aside0.mk (Kd.R_below (by (with_reducible repeat (first | apply Kd.R_alloc | apply Kd.R_drewN | apply Kd.R_drew)); exact (Kd.R_mono (Kd.R_far (p := ⟨gb237, 2, none⟩) (Kd.R_far (p := ⟨gb237, 1, none⟩) (Kd.R_far (p := ⟨gb237, 0, none⟩) (Kd.R_types HO215.out BK237.out (by decide)) (fun _ hk => hk.2) (.int .i64 t229)) (fun _ hk => hk.2) (.slice Ao39 t230.length co39)) (fun _ hk => hk.2) (.slice Ao40 t233.length co40)) (fun _ h_ => h_.1))) hb); have n3_ := Aside0.mk (Kd.R_below (by (with_reducible repeat (first | apply Kd.R_alloc | apply Kd.R_drewN | apply Kd.R_drew)); exact (Kd.R_mono (Kd.R_far (p := ⟨gb237, 2, none⟩) (Kd.R_far (p := ⟨gb237, 1, none⟩) (Kd.R_far (p := ⟨gb237, 0, none⟩) (Kd.R_types HO218.out BK237.out (by decide)) (fun _ hk => hk.2) (.int .i64 t229)) (fun _ hk => hk.2) (.slice Ao39 t230.length co39)) (fun _ hk => hk.2) (.slice Ao40 t233.length co40)) (fun _ h_ => h_.1))) hb); have n4_ := Aside0.mk (Kd.R_below (by (with_reducible repeat (first | apply Kd.R_alloc | apply Kd.R_drewN | apply Kd.R_drew)); exact (Kd.R_mono (Kd.R_far (p := ⟨gb237, 2, none⟩) (Kd.R_far (p := ⟨gb237, 1, none⟩) (Kd.R_far (p := ⟨gb237, 0, none⟩) (Kd.R_types HO224.out BK237.out (by decide)) (fun _ hk => hk.2) (.int .i64 t229)) (fun _ hk => hk.2) (.slice Ao39 t230.length co39)) (fun _ hk => hk.2) (.slice Ao40 t233.length co40)) (fun _ h_ => h_.1))) hb); have n5_ := Aside0.mk (Kd.R_below (by (with_reducible repeat (first | apply Kd.R_alloc | apply Kd.R_drewN | apply Kd.R_drew)); exact (Kd.R_mono (Kd.R_far (p := ⟨gb237, 2, none⟩) (Kd.R_far (p := ⟨gb237, 1, none⟩) (Kd.R_far (p := ⟨gb237, 0, none⟩) (Kd.R_types HO227.out BK237.out (by decide)) (fun _ hk => hk.2) (.int .i64 t229)) (fun _ hk => hk.2) (.slice Ao39 t230.length co39)) (fun _ hk => hk.2) (.slice Ao40 t233.length co40)) (fun _ h_ => h_.1))) hb); have n6_ := Aside0.mk (Kd.R_below (by (with_reducible repeat (first | apply Kd.R_alloc | apply Kd.R_drewN | apply Kd.R_drew)); exact (Kd.R_mono (Kd.R_far (p := ⟨gb237, 2, none⟩) (Kd.R_far (p := ⟨gb237, 1, none⟩) (Kd.R_far (p := ⟨gb237, 0, none⟩) (Kd.R_types HO232.out BK237.out (by decide)) (fun _ hk => hk.2) (.int .i64 t229)) (fun _ hk => hk.2) (.slice Ao39 t230.length co39)) (fun _ hk => hk.2) (.slice Ao40 t233.length co40)) (fun _ h_ => h_.1))) hb); have n7_ := Aside0.mk (Kd.R_below (by (with_reducible repeat (first | apply Kd.R_alloc | apply Kd.R_drewN | apply Kd.R_drew)); exact (Kd.R_mono (Kd.R_far (p := ⟨gb237, 2, none⟩) (Kd.R_far (p := ⟨gb237, 1, none⟩) (Kd.R_far (p := ⟨gb237, 0, none⟩) (Kd.R_types HO235.out BK237.out (by decide)) (fun _ hk => hk.2) (.int .i64 t229)) (fun _ hk => hk.2) (.slice Ao39 t230.length co39)) (fun _ hk => hk.2) (.slice Ao40 t233.length co40)) (fun _ h_ => h_.1))) hb); have n8_ := Aside0.mk (blk_below (g := gb203) (o := .cells #[.int .i64 a0_0, .slice A0_1 l0_1.length c0_1, .slice A0_2 l0_2.length c0_2] 25 (0, 0)) (by (with_reducible repeat (first | refine blk_drewN ?_ _ | refine blk_drew ?_ | refine blk_alloc ?_ _)); refine blk_far ?_ NB203_237.out _; (with_reducible repeat (first | refine blk_drewN ?_ _ | refine blk_drew ?_ | refine blk_alloc ?_ _)); refine blk_far ?_ NB203_237.out _; (with_reducible repeat (first | refine blk_drewN ?_ _ | refine blk_drew ?_ | refine blk_alloc ?_ _)); refine blk_far ?_ NB203_237.out _; (with_reducible repeat (first | refine blk_drewN ?_ _ | refine blk_drew ?_ | refine blk_alloc ?_ _)); exact BK203.out) hb); have n9_ := Aside0.mk (blk_below (g := gb220) (o := .cells #[.int .i64 t212, .slice Ao23 t213.length co23, .slice Ao24 t216.length co24] 27 (0, 0)) (by (with_reducible repeat (first | refine blk_drewN ?_ _ | refine blk_drew ?_ | refine blk_alloc ?_ _)); refine blk_far ?_ NB220_237.out _; (with_reducible repeat (first | refine blk_drewN ?_ _ | refine blk_drew ?_ | refine blk_alloc ?_ _)); refine blk_far ?_ NB220_237.out _; (with_reducible repeat (first | refine blk_drewN ?_ _ | refine blk_drew ?_ | refine blk_alloc ?_ _)); refine blk_far ?_ NB220_237.out _; (with_reducible repeat (first | refine blk_drewN ?_ _ | refine blk_drew ?_ | refine blk_alloc ?_ _)); exact BK220.out) hb); have n10_ := Aside0.mk (blk_below (g := gb228) (o := .cells #[.int .i64 t221, .slice Ao31 t222.length co31, .slice Ao32 t225.length co32] 27 (0, 0)) (by (with_reducible repeat (first | refine blk_drewN ?_ _ | refine blk_drew ?_ | refine blk_alloc ?_ _)); refine blk_far ?_ NB228_237.out _; (with_reducible repeat (first | refine blk_drewN ?_ _ | refine blk_drew ?_ | refine blk_alloc ?_ _)); refine blk_far ?_ NB228_237.out _; (with_reducible repeat (first | refine blk_drewN ?_ _ | refine blk_drew ?_ | refine blk_alloc ?_ _)); refine blk_far ?_ NB228_237.out _; (with_reducible repeat (first | refine blk_drewN ?_ _ | refine blk_drew ?_ | refine blk_alloc ?_ _)); exact BK228.out) hb); have n11_ := Aside0.mk (blk_below (g := gb237) (o := .cells #[.int .i64 t229, .slice Ao39 t230.length co39, .slice Ao40 t233.length co40] 27 (0, 0)) (by (with_reducible repeat (first | refine blk_drewN ?_ _ | refine blk_drew ?_ | refine blk_alloc ?_ _)); refine blk_put (cs := #[.int .i64 t229, .slice Ao39 t230.length co39, .slice none 0 0]) ?_ 2 _ rfl; (with_reducible repeat (first | refine blk_drewN ?_ _ | refine blk_drew ?_ | refine blk_alloc ?_ _)); refine blk_put (cs := #[.int .i64 t229, .slice none 0 0, .slice none 0 0]) ?_ 1 _ rfl; (with_reducible repeat (first | refine blk_drewN ?_ _ | refine blk_drew ?_ | refine blk_alloc ?_ _)); refine blk_put (cs := #[.int .i64 0, .slice none 0 0, .slice none 0 0]) ?_ 0 _ rfl; (with_reducible repeat (first | refine blk_drewN ?_ _ | refine blk_drew ?_ | refine blk_alloc ?_ _)); exact BK237.out) hb); have n12_ := Aside0.mk (below_step (by repeat (first | (with_reducible first | exact HB.out | apply below_alloc | apply pw_below_drewN | apply below_drew1 | refine below_set ?_ GE203.out | refine below_set ?_ GE220.out | refine below_set ?_ GE228.out | refine below_set ?_ GE237.out) | exact HB.out)) hb); clear HO208; clear HO211; clear HO215; clear HO218; clear HO224; clear HO227; clear HO232; clear HO235; clear BK203; clear BK220; clear BK228; clear BK237; clear HB; have HO208 := n0_; have HO211 := n1_; have HO215 := n2_; have HO218 := n3_; have HO224 := n4_; have HO227 := n5_; have HO232 := n6_; have HO235 := n7_; have BK203 := n8_; have BK220 := n9_; have BK228 := n10_; have BK237 := n11_; have HB := n12_; clear n0_ n1_ n2_ n3_ n4_ n5_ n6_ n7_ n8_ n9_ n10_ n11_ n12_; (try clear hb); (try clear hb2); (try clear hk); (try clear hi)))
    go_meet
    case rel => exact ⟨_, (true), (by first | rfl | (simp; done) | (simp [*]; done)), H', ⟨by first | omega | exact Nat.le_refl _⟩, ⟨by (with_reducible repeat (first | apply Kd.R_alloc | apply Kd.R_drewN | apply Kd.R_drew)); exact Kd.R_mono HO215.out (fun _ hk => ⟨hk.1.2, hk.2⟩)⟩, ⟨by (with_reducible repeat (first | apply Kd.R_alloc | apply Kd.R_drewN | apply Kd.R_drew)); exact Kd.R_mono HO218.out (fun _ hk => ⟨hk.1.2, hk.2⟩)⟩, ⟨by (with_reducible repeat (first | apply Kd.R_alloc | apply Kd.R_drewN | apply Kd.R_drew)); exact Kd.R_mono HO224.out (fun _ hk => ⟨hk.1.2, hk.2⟩)⟩, ⟨by (with_reducible repeat (first | apply Kd.R_alloc | apply Kd.R_drewN | apply Kd.R_drew)); exact Kd.R_mono HO227.out (fun _ hk => ⟨hk.1.2, hk.2⟩)⟩, ⟨by (with_reducible repeat (first | apply Kd.R_alloc | apply Kd.R_drewN | apply Kd.R_drew)); exact Kd.R_mono HO232.out (fun _ hk => ⟨hk.1.2, hk.2⟩)⟩, ⟨by (with_reducible repeat (first | apply Kd.R_alloc | apply Kd.R_drewN | apply Kd.R_drew)); exact Kd.R_mono HO235.out (fun _ hk => ⟨hk.1.2, hk.2⟩)⟩, ⟨by (with_reducible repeat (first | refine blk_drewN ?_ _ | refine blk_drew ?_ | refine blk_alloc ?_ _)); exact BK203.out⟩, ⟨by (with_reducible repeat (first | refine blk_drewN ?_ _ | refine blk_drew ?_ | refine blk_alloc ?_ _)); exact BK220.out⟩, ⟨by (with_reducible repeat (first | refine blk_drewN ?_ _ | refine blk_drew ?_ | refine blk_alloc ?_ _)); exact BK228.out⟩, ⟨by (with_reducible repeat (first | refine blk_drewN ?_ _ | refine blk_drew ?_ | refine blk_alloc ?_ _)); exact BK237.out⟩, ⟨by repeat (first | (with_reducible first | exact HB.out | apply below_alloc | apply pw_below_drewN | apply below_drew1 | refine below_set ?_ GE203.out | refine below_set ?_ GE220.out | refine below_set ?_ GE228.out | refine below_set ?_ GE237.out) | exact HB.out)⟩⟩
  case rest =>
   clear HC11
   try clear c1
   try clear c2
   try clear p2
   try clear c3
   try clear c3b0
   try clear c4
   try clear c5
   try clear c15
   try clear c16
   try clear c17
   try clear c18
   try clear c19
   try clear c21
   try clear c28
   try clear c29
   try clear c35
   try clear c36
   try clear c37
   try clear c42
   try clear c43
   try clear c44
   try clear c45
   try clear c47
   try clear c48
   try clear c51
   try clear c52
   try clear c53
   try clear c55
   try clear c56
   try clear hcz13_0
   try clear hcz13_1
   try clear hcz13_2
   try clear hcz15_0
   try clear hcz15_1
   try clear hcz15_2
   try clear hcz22_0
   try clear hcz22_1
   try clear hcz22_2
   try clear hcz25_0
   try clear hcz25_1
   try clear hcz25_2
   try clear hcz30_0
   try clear hcz30_1
   try clear hcz30_2
   try clear hcz38_0
   try clear hcz38_1
   try clear hcz38_2
   try clear hcz46_0
   try clear hcz46_1
   try clear hcz46_2
   try clear hcz49_0
   try clear hcz49_1
   try clear hcz49_2
   try clear hcz54_0
   try clear hcz54_1
   try clear hcz54_2
   try clear hcz57_0
   try clear hcz57_1
   try clear hcz57_2
   try clear hcz5_0
   try clear hcz5_1
   try clear hcz5_2
   try clear hfz13_0
   try clear hfz13_1
   try clear hfz13_2
   try clear hfz15_0
   try clear hfz15_1
   try clear hfz15_2
   try clear hfz22_0
   try clear hfz22_1
   try clear hfz22_2
   try clear hfz25_0
   try clear hfz25_1
   try clear hfz25_2
   try clear hfz30_0
   try clear hfz30_1
   try clear hfz30_2
   try clear hfz38_0
   try clear hfz38_1
   try clear hfz38_2
   try clear hfz46_0
   try clear hfz46_1
   try clear hfz46_2
   try clear hfz49_0
   try clear hfz49_1
   try clear hfz49_2
   try clear hfz54_0
   try clear hfz54_1
   try clear hfz54_2
   try clear hfz57_0
   try clear hfz57_1
   try clear hfz57_2
   try clear hfz5_0
   try clear hfz5_1
   try clear hfz5_2
   obtain ⟨kq, x40_10, rfl, HA, HJ10, HO_221001, HO_221002, HO_229001, HO_229002, HO_238001, HO_238002, BK203, BK220, BK228, BK237, HB⟩ := hcut
   cases kq with
   | zero => exact absurd HA.out (by simp [laws_FnExactComplementOf.j0])
   | succ kj10 =>
    have H := HA.out
    clear HA
    simp only [laws_FnExactComplementOf.j0] at H
    by_cases c59 : x40_10 = true
    ·subst c59
     have H1 : (some false) = some r := by rw [if_pos rfl] at H; exact H
     clear H
     have H := H1
     clear H1
     obtain rfl := Option.some.inj H
     go_wp2
     go_ret
     exact ⟨by first | rfl | (simp [errW_none, errW_some] <;> rfl) | (simp [*, errW_none, errW_some] <;> rfl), by repeat (first | (with_reducible first | exact HB.out | apply below_alloc | apply pw_below_drewN | apply below_drew1 | refine below_set ?_ GE203.out | refine below_set ?_ GE220.out | refine below_set ?_ GE228.out | refine below_set ?_ GE237.out) | exact HB.out)⟩
    ·replace c59 := Bool.eq_false_iff.mpr c59
     subst c59
     have H1 : ((laws_toAutomaton.f kj10 a0_0 l0_1 l0_2).bind fun bt239 => ((laws_eqAutomaton.f kj10 t221 t222 t225 bt239.1 bt239.2.1 bt239.2.2).bind fun t246 => (if t246 = true then ((laws_markAutomaton.f kj10 t221 t222 t225 1).bind fun bt247 => (if bt247.1 < 0 then (laws_FnExactComplementOf.j1 kj10 t219 true a0_0 l0_1 l0_2 t212 t213 t216 t229 t230 t233) else ((laws_eqAutomaton.f kj10 t229 t230 t233 t212 t213 t216).bind fun t250 => (if t250 = true then (laws_FnExactComplementOf.j1 kj10 t219 (t236 != t219) a0_0 l0_1 l0_2 t212 t213 t216 t229 t230 t233) else (laws_FnExactComplementOf.j1 kj10 t219 true a0_0 l0_1 l0_2 t212 t213 t216 t229 t230 t233))))) else (some false)))) = some r := by rw [if_neg (show ¬ (false = true) by decide)] at H; exact H
     clear H
     have H := H1
     clear H1
     replace H := Option.bind_eq_some_iff.mp H
     obtain ⟨⟨t239, t240, t243⟩, A600, H⟩ := H
     replace H : ((laws_eqAutomaton.f kj10 t221 t222 t225 t239 t240 t243).bind fun t246 => (if t246 = true then ((laws_markAutomaton.f kj10 t221 t222 t225 1).bind fun bt247 => (if bt247.1 < 0 then (laws_FnExactComplementOf.j1 kj10 t219 true a0_0 l0_1 l0_2 t212 t213 t216 t229 t230 t233) else ((laws_eqAutomaton.f kj10 t229 t230 t233 t212 t213 t216).bind fun t250 => (if t250 = true then (laws_FnExactComplementOf.j1 kj10 t219 (t236 != t219) a0_0 l0_1 l0_2 t212 t213 t216 t229 t230 t233) else (laws_FnExactComplementOf.j1 kj10 t219 true a0_0 l0_1 l0_2 t212 t213 t216 t229 t230 t233))))) else (some false))) = some r := H
     have A60 := Aside0.mk A600
     clear A600
     replace H := Option.bind_eq_some_iff.mp H
     obtain ⟨t246, A610, H⟩ := H
     replace H : (if t246 = true then ((laws_markAutomaton.f kj10 t221 t222 t225 1).bind fun bt247 => (if bt247.1 < 0 then (laws_FnExactComplementOf.j1 kj10 t219 true a0_0 l0_1 l0_2 t212 t213 t216 t229 t230 t233) else ((laws_eqAutomaton.f kj10 t229 t230 t233 t212 t213 t216).bind fun t250 => (if t250 = true then (laws_FnExactComplementOf.j1 kj10 t219 (t236 != t219) a0_0 l0_1 l0_2 t212 t213 t216 t229 t230 t233) else (laws_FnExactComplementOf.j1 kj10 t219 true a0_0 l0_1 l0_2 t212 t213 t216 t229 t230 t233))))) else (some false)) = some r := H
     have A61 := Aside0.mk A610
     clear A610
     by_cases c62 : t246 = true
     ·subst c62
      have H1 : ((laws_markAutomaton.f kj10 t221 t222 t225 1).bind fun bt247 => (if bt247.1 < 0 then (laws_FnExactComplementOf.j1 kj10 t219 true a0_0 l0_1 l0_2 t212 t213 t216 t229 t230 t233) else ((laws_eqAutomaton.f kj10 t229 t230 t233 t212 t213 t216).bind fun t250 => (if t250 = true then (laws_FnExactComplementOf.j1 kj10 t219 (t236 != t219) a0_0 l0_1 l0_2 t212 t213 t216 t229 t230 t233) else (laws_FnExactComplementOf.j1 kj10 t219 true a0_0 l0_1 l0_2 t212 t213 t216 t229 t230 t233))))) = some r := by rw [if_pos rfl] at H; exact H
      clear H
      have H := H1
      clear H1
      replace H := Option.bind_eq_some_iff.mp H
      obtain ⟨⟨t247, t248, t249⟩, A630, H⟩ := H
      replace H : (if t247 < 0 then (laws_FnExactComplementOf.j1 kj10 t219 true a0_0 l0_1 l0_2 t212 t213 t216 t229 t230 t233) else ((laws_eqAutomaton.f kj10 t229 t230 t233 t212 t213 t216).bind fun t250 => (if t250 = true then (laws_FnExactComplementOf.j1 kj10 t219 (t236 != t219) a0_0 l0_1 l0_2 t212 t213 t216 t229 t230 t233) else (laws_FnExactComplementOf.j1 kj10 t219 true a0_0 l0_1 l0_2 t212 t213 t216 t229 t230 t233)))) = some r := H
      have A63 := Aside0.mk A630
      clear A630
      have HC64 := Aside0.mk H
      clear H
      try go_wp2
      have n0_ := Aside0.mk (Kd.R_drew HO_221001.out)
      have n1_ := Aside0.mk (Kd.R_drew HO_221002.out)
      have n2_ := Aside0.mk (Kd.R_drew HO_229001.out)
      have n3_ := Aside0.mk (Kd.R_drew HO_229002.out)
      have n4_ := Aside0.mk (Kd.R_drew HO_238001.out)
      have n5_ := Aside0.mk (Kd.R_drew HO_238002.out)
      have n6_ := Aside0.mk (blk_drew BK203.out)
      have n7_ := Aside0.mk (blk_drew BK220.out)
      have n8_ := Aside0.mk (blk_drew BK228.out)
      have n9_ := Aside0.mk (blk_drew BK237.out)
      have n10_ := Aside0.mk (below_drew1 HB.out)
      clear HO_221001
      clear HO_221002
      clear HO_229001
      clear HO_229002
      clear HO_238001
      clear HO_238002
      clear BK203
      clear BK220
      clear BK228
      clear BK237
      clear HB
      have HO_221001 := n0_
      have HO_221002 := n1_
      have HO_229001 := n2_
      have HO_229002 := n3_
      have HO_238001 := n4_
      have HO_238002 := n5_
      have BK203 := n6_
      have BK220 := n7_
      have BK228 := n8_
      have BK237 := n9_
      have HB := n10_
      clear n0_ n1_ n2_ n3_ n4_ n5_ n6_ n7_ n8_ n9_ n10_
      refine start_ (n := 5) (S := fun w' => w'.cell? ⟨gb228, 0, none⟩ = some (.int .i64 t221) ∧ w'.cell? ⟨gb228, 1, none⟩ = some (.slice Ao31 t222.length co31) ∧ w'.cell? ⟨gb228, 2, none⟩ = some (.slice Ao32 t225.length co32) ∧ w'.cell? ⟨gb203, 0, none⟩ = some (.int .i64 a0_0) ∧ w'.cell? ⟨gb203, 1, none⟩ = some (.slice A0_1 l0_1.length c0_1) ∧ w'.cell? ⟨gb203, 2, none⟩ = some (.slice A0_2 l0_2.length c0_2)) (ds := []) #[false, false, false, false, false] (by kernel_rfl) rfl rfl ⟨(blk_cell BK228.out 0).trans rfl, (blk_cell BK228.out 1).trans rfl, (blk_cell BK228.out 2).trans rfl, (blk_cell BK203.out 0).trans rfl, (blk_cell BK203.out 1).trans rfl, (blk_cell BK203.out 2).trans rfl⟩ (fun hHeld => ?_)
      generalize wc.drew = w65 at HO_221001 HO_221002 HO_229001 HO_229002 HO_238001 HO_238002 BK203 BK220 BK228 BK237 HB hHeld ⊢
      refine take_ (i := 0) (N := some 41) (v := ?_) (a' := ?_) #[true, false, false, false, false] rfl rfl (by kernel_rfl) (fun _ _ _ h => h) (Or.inl ⟨by rfl, ?_⟩) hHeld ?_ ?_
      rotate_left
      ·rintro w' ⟨s0, s1, s2, s3, s4, s5⟩
       go_simp
       with_reducible rfl
      rotate_left
      ·simp only [Act.put, List.setIfInBounds_toArray, List.set_cons_zero, List.set_cons_succ, i64_w, i32_w]
       rfl
      refine take_ (i := 1) (N := some 42) (v := ?_) (a' := ?_) #[true, true, false, false, false] rfl rfl (by kernel_rfl) (fun _ _ _ h => h) (Or.inl ⟨by rfl, ?_⟩) hHeld ?_ ?_
      rotate_left
      ·rintro w' ⟨s0, s1, s2, s3, s4, s5⟩
       go_simp
       with_reducible rfl
      rotate_left
      ·simp only [Act.put, List.setIfInBounds_toArray, List.set_cons_zero, List.set_cons_succ, i64_w, i32_w]
       rfl
      refine one_ (i := 2) (N := some 43) #[true, true, true, false, false] rfl rfl (by kernel_rfl) (by decide) (fun K hK => ?_)
      refine goes_ Try.func17 (by kernel_rfl) rfl #[.agg #[.int .i64 a0_0, .slice A0_1 l0_1.length c0_1, .slice A0_2 l0_2.length c0_2]] (by rfl) rfl rfl (by (try simp only [List.map_toArray, List.map_cons, List.map_nil]); first | done | rfl | (simp only [Base.w64_u8]; rfl) | (simp only [List.length_drop, List.length_take]; rfl)) ?_
      with_reducible refine (laws_toAutomaton.calls kj10 a0_0 _ _ l0_1 _ _ l0_2 t239 t240 t243 _ ?side1 ?side2 ?side3 ?side4 A60.out).mono ?_
      (case side1 => repeat (first | exact (Kd.C_below HR0_1.out HB.out) | (with_reducible refine Kd.C_alloc ?_ _) | (with_reducible refine Kd.C_drewN ?_ _) | (with_reducible refine Kd.C_drew ?_)))
      (case side2 => exact HC0_1.out)
      (case side3 => repeat (first | exact (Kd.C_below HR0_2.out HB.out) | (with_reducible refine Kd.C_alloc ?_ _) | (with_reducible refine Kd.C_drewN ?_ _) | (with_reducible refine Kd.C_drew ?_)))
      (case side4 => exact HC0_2.out)
      rintro e w66 ⟨v241, v244, rfl, ho0, ho1, hb⟩
      refine ⟨_, rfl, ?_⟩
      have n0_ := Aside0.mk (Kd.R_elder' (by (with_reducible repeat (first | apply Kd.R_alloc | apply Kd.R_drewN | apply Kd.R_drew)); exact HO_221001.out) (Kd.R_base ho0) hb)
      have n1_ := Aside0.mk (Kd.R_elder' (by (with_reducible repeat (first | apply Kd.R_alloc | apply Kd.R_drewN | apply Kd.R_drew)); exact HO_221002.out) (Kd.R_base ho1) hb)
      have n2_ := Aside0.mk (Kd.R_elder' (by (with_reducible repeat (first | apply Kd.R_alloc | apply Kd.R_drewN | apply Kd.R_drew)); exact HO_229001.out) (Kd.R_base ho0) hb)
      have n3_ := Aside0.mk (Kd.R_elder' (by (with_reducible repeat (first | apply Kd.R_alloc | apply Kd.R_drewN | apply Kd.R_drew)); exact HO_229002.out) (Kd.R_base ho1) hb)
      have n4_ := Aside0.mk (Kd.R_elder' (by (with_reducible repeat (first | apply Kd.R_alloc | apply Kd.R_drewN | apply Kd.R_drew)); exact HO_238001.out) (Kd.R_base ho0) hb)
      have n5_ := Aside0.mk (Kd.R_elder' (by (with_reducible repeat (first | apply Kd.R_alloc | apply Kd.R_drewN | apply Kd.R_drew)); exact HO_238002.out) (Kd.R_base ho1) hb)
      have n6_ := Aside0.mk (Kd.R_lower (Kd.R_new' (Kd.R_new' (Kd.R_new' ho0 (Kd.R_lt (by (with_reducible repeat (first | apply Kd.R_alloc | apply Kd.R_drewN | apply Kd.R_drew)); exact HO_221001.out))) (Kd.R_lt (by (with_reducible repeat (first | apply Kd.R_alloc | apply Kd.R_drewN | apply Kd.R_drew)); exact HO_229001.out))) (Kd.R_lt (by (with_reducible repeat (first | apply Kd.R_alloc | apply Kd.R_drewN | apply Kd.R_drew)); exact HO_238001.out))) (below_size (by repeat (first | (with_reducible first | exact HB.out | apply below_alloc | apply pw_below_drewN | apply below_drew1 | refine below_set ?_ GE203.out | refine below_set ?_ GE220.out | refine below_set ?_ GE228.out | refine below_set ?_ GE237.out) | exact HB.out))))
      have n7_ := Aside0.mk (Kd.R_lower (Kd.R_new' (Kd.R_new' (Kd.R_new' ho1 (Kd.R_lt (by (with_reducible repeat (first | apply Kd.R_alloc | apply Kd.R_drewN | apply Kd.R_drew)); exact HO_221002.out))) (Kd.R_lt (by (with_reducible repeat (first | apply Kd.R_alloc | apply Kd.R_drewN | apply Kd.R_drew)); exact HO_229002.out))) (Kd.R_lt (by (with_reducible repeat (first | apply Kd.R_alloc | apply Kd.R_drewN | apply Kd.R_drew)); exact HO_238002.out))) (below_size (by repeat (first | (with_reducible first | exact HB.out | apply below_alloc | apply pw_below_drewN | apply below_drew1 | refine below_set ?_ GE203.out | refine below_set ?_ GE220.out | refine below_set ?_ GE228.out | refine below_set ?_ GE237.out) | exact HB.out))))
      have n8_ := Aside0.mk (blk_below (g := gb203) (o := .cells #[.int .i64 a0_0, .slice A0_1 l0_1.length c0_1, .slice A0_2 l0_2.length c0_2] 25 (0, 0)) (by (with_reducible repeat (first | refine blk_drewN ?_ _ | refine blk_drew ?_ | refine blk_alloc ?_ _)); exact BK203.out) hb)
      have n9_ := Aside0.mk (blk_below (g := gb220) (o := .cells #[.int .i64 t212, .slice Ao23 t213.length co23, .slice Ao24 t216.length co24] 27 (0, 0)) (by (with_reducible repeat (first | refine blk_drewN ?_ _ | refine blk_drew ?_ | refine blk_alloc ?_ _)); exact BK220.out) hb)
      have n10_ := Aside0.mk (blk_below (g := gb228) (o := .cells #[.int .i64 t221, .slice Ao31 t222.length co31, .slice Ao32 t225.length co32] 27 (0, 0)) (by (with_reducible repeat (first | refine blk_drewN ?_ _ | refine blk_drew ?_ | refine blk_alloc ?_ _)); exact BK228.out) hb)
      have n11_ := Aside0.mk (blk_below (g := gb237) (o := .cells #[.int .i64 t229, .slice Ao39 t230.length co39, .slice Ao40 t233.length co40] 27 (0, 0)) (by (with_reducible repeat (first | refine blk_drewN ?_ _ | refine blk_drew ?_ | refine blk_alloc ?_ _)); exact BK237.out) hb)
      have n12_ := Aside0.mk (below_step (by repeat (first | (with_reducible first | exact HB.out | apply below_alloc | apply pw_below_drewN | apply below_drew1 | refine below_set ?_ GE203.out | refine below_set ?_ GE220.out | refine below_set ?_ GE228.out | refine below_set ?_ GE237.out) | exact HB.out)) hb)
      clear HO_221001
      clear HO_221002
      clear HO_229001
      clear HO_229002
      clear HO_238001
      clear HO_238002
      clear BK203
      clear BK220
      clear BK228
      clear BK237
      clear HB
      have HO_221001 := n0_
      have HO_221002 := n1_
      have HO_229001 := n2_
      have HO_229002 := n3_
      have HO_238001 := n4_
      have HO_238002 := n5_
      have HO242 := n6_
      have HO245 := n7_
      have BK203 := n8_
      have BK220 := n9_
      have BK228 := n10_
      have BK237 := n11_
      have HB := n12_
      clear n0_ n1_ n2_ n3_ n4_ n5_ n6_ n7_ n8_ n9_ n10_ n11_ n12_
      (try clear hb)
      (try clear hb2)
      (try clear hk)
      (try clear hi)
      (try clear ho0)
      (try clear ho1)
      obtain ⟨Ao67, co67, eo67⟩ := Kd.R_slice HO242.out
      (first | subst eo67 | (injection eo67 with f1_ f2_ f3_; have f4_ := f1_.symm; have f5_ := f3_.symm; clear f1_ f2_ f3_; subst f4_; subst f5_))
      obtain ⟨Ao68, co68, eo68⟩ := Kd.R_slice HO245.out
      (first | subst eo68 | (injection eo68 with f1_ f2_ f3_; have f4_ := f1_.symm; have f5_ := f3_.symm; clear f1_ f2_ f3_; subst f4_; subst f5_))
      refine hK.out _ _ ⟨(blk_cell BK228.out 0).trans rfl, (blk_cell BK228.out 1).trans rfl, (blk_cell BK228.out 2).trans rfl, (blk_cell BK203.out 0).trans rfl, (blk_cell BK203.out 1).trans rfl, (blk_cell BK203.out 2).trans rfl⟩ (fun hHeld => ?_)
      clear hK K
      refine norm_ (a' := ?_) ?_ ?_
      rotate_left
      ·show Act.put _ (some 43) _ = _
       simp only [Act.put, List.setIfInBounds_toArray, List.set_cons_zero, List.set_cons_succ, i64_w, i32_w]
       rfl
      refine one_ (i := 3) (N := some 44) #[true, true, true, true, false] rfl rfl (by kernel_rfl) (by decide) (fun K hK => ?_)
      refine goes_ Try.func19 (by kernel_rfl) rfl #[.agg #[.int .i64 t221, .slice Ao31 t222.length co31, .slice Ao32 t225.length co32], .agg #[.int .i64 t239, .slice Ao67 t240.length co67, .slice Ao68 t243.length co68]] (by rfl) rfl rfl (by (try simp only [List.map_toArray, List.map_cons, List.map_nil]); first | done | rfl | (simp only [Base.w64_u8]; rfl) | (simp only [List.length_drop, List.length_take]; rfl)) ?_
      with_reducible refine (laws_eqAutomaton.calls kj10 t221 _ _ t222 _ _ t225 t239 _ _ t240 _ _ t243 true _ ?side1 ?side2 ?side3 ?side4 ?side5 ?side6 ?side7 ?side8 A61.out).mono ?_
      (case side1 => repeat (first | exact (Kd.R_reads' HO_229001.out).2.2 | (with_reducible refine Kd.C_alloc ?_ _) | (with_reducible refine Kd.C_drewN ?_ _) | (with_reducible refine Kd.C_drew ?_)))
      (case side2 => exact (Kd.R_reads' HO_229001.out).2.1)
      (case side3 => repeat (first | exact (Kd.R_reads' HO_229002.out).2.2 | (with_reducible refine Kd.C_alloc ?_ _) | (with_reducible refine Kd.C_drewN ?_ _) | (with_reducible refine Kd.C_drew ?_)))
      (case side4 => exact (Kd.R_reads' HO_229002.out).2.1)
      (case side5 => repeat (first | exact (Kd.R_reads' HO242.out).2.2 | (with_reducible refine Kd.C_alloc ?_ _) | (with_reducible refine Kd.C_drewN ?_ _) | (with_reducible refine Kd.C_drew ?_)))
      (case side6 => exact (Kd.R_reads' HO242.out).2.1)
      (case side7 => repeat (first | exact (Kd.R_reads' HO245.out).2.2 | (with_reducible refine Kd.C_alloc ?_ _) | (with_reducible refine Kd.C_drewN ?_ _) | (with_reducible refine Kd.C_drew ?_)))
      (case side8 => exact (Kd.R_reads' HO245.out).2.1)
      rintro e w69 ⟨rfl, hb⟩
      refine ⟨_, rfl, ?_⟩
      have n0_ := Aside0.mk (Kd.R_below (by (with_reducible repeat (first | apply Kd.R_alloc | apply Kd.R_drewN | apply Kd.R_drew)); exact HO_221001.out) hb)
      have n1_ := Aside0.mk (Kd.R_below (by (with_reducible repeat (first | apply Kd.R_alloc | apply Kd.R_drewN | apply Kd.R_drew)); exact HO_221002.out) hb)
      have n2_ := Aside0.mk (Kd.R_below (by (with_reducible repeat (first | apply Kd.R_alloc | apply Kd.R_drewN | apply Kd.R_drew)); exact HO_229001.out) hb)
      have n3_ := Aside0.mk (Kd.R_below (by (with_reducible repeat (first | apply Kd.R_alloc | apply Kd.R_drewN | apply Kd.R_drew)); exact HO_229002.out) hb)
      have n4_ := Aside0.mk (Kd.R_below (by (with_reducible repeat (first | apply Kd.R_alloc | apply Kd.R_drewN | apply Kd.R_drew)); exact HO_238001.out) hb)
      have n5_ := Aside0.mk (Kd.R_below (by (with_reducible repeat (first | apply Kd.R_alloc | apply Kd.R_drewN | apply Kd.R_drew)); exact HO_238002.out) hb)
      have n6_ := Aside0.mk (Kd.R_below (by (with_reducible repeat (first | apply Kd.R_alloc | apply Kd.R_drewN | apply Kd.R_drew)); exact HO242.out) hb)
      have n7_ := Aside0.mk (Kd.R_below (by (with_reducible repeat (first | apply Kd.R_alloc | apply Kd.R_drewN | apply Kd.R_drew)); exact HO245.out) hb)
      have n8_ := Aside0.mk (blk_below (g := gb203) (o := .cells #[.int .i64 a0_0, .slice A0_1 l0_1.length c0_1, .slice A0_2 l0_2.length c0_2] 25 (0, 0)) (by (with_reducible repeat (first | refine blk_drewN ?_ _ | refine blk_drew ?_ | refine blk_alloc ?_ _)); exact BK203.out) hb)
      have n9_ := Aside0.mk (blk_below (g := gb220) (o := .cells #[.int .i64 t212, .slice Ao23 t213.length co23, .slice Ao24 t216.length co24] 27 (0, 0)) (by (with_reducible repeat (first | refine blk_drewN ?_ _ | refine blk_drew ?_ | refine blk_alloc ?_ _)); exact BK220.out) hb)
      have n10_ := Aside0.mk (blk_below (g := gb228) (o := .cells #[.int .i64 t221, .slice Ao31 t222.length co31, .slice Ao32 t225.length co32] 27 (0, 0)) (by (with_reducible repeat (first | refine blk_drewN ?_ _ | refine blk_drew ?_ | refine blk_alloc ?_ _)); exact BK228.out) hb)
      have n11_ := Aside0.mk (blk_below (g := gb237) (o := .cells #[.int .i64 t229, .slice Ao39 t230.length co39, .slice Ao40 t233.length co40] 27 (0, 0)) (by (with_reducible repeat (first | refine blk_drewN ?_ _ | refine blk_drew ?_ | refine blk_alloc ?_ _)); exact BK237.out) hb)
      have n12_ := Aside0.mk (below_step (by repeat (first | (with_reducible first | exact HB.out | apply below_alloc | apply pw_below_drewN | apply below_drew1 | refine below_set ?_ GE203.out | refine below_set ?_ GE220.out | refine below_set ?_ GE228.out | refine below_set ?_ GE237.out) | exact HB.out)) hb)
      clear HO_221001
      clear HO_221002
      clear HO_229001
      clear HO_229002
      clear HO_238001
      clear HO_238002
      clear HO242
      clear HO245
      clear BK203
      clear BK220
      clear BK228
      clear BK237
      clear HB
      have HO_221001 := n0_
      have HO_221002 := n1_
      have HO_229001 := n2_
      have HO_229002 := n3_
      have HO_238001 := n4_
      have HO_238002 := n5_
      have HO242 := n6_
      have HO245 := n7_
      have BK203 := n8_
      have BK220 := n9_
      have BK228 := n10_
      have BK237 := n11_
      have HB := n12_
      clear n0_ n1_ n2_ n3_ n4_ n5_ n6_ n7_ n8_ n9_ n10_ n11_ n12_
      (try clear hb)
      (try clear hb2)
      (try clear hk)
      (try clear hi)
      refine hK.out _ _ ⟨(blk_cell BK228.out 0).trans rfl, (blk_cell BK228.out 1).trans rfl, (blk_cell BK228.out 2).trans rfl, (blk_cell BK203.out 0).trans rfl, (blk_cell BK203.out 1).trans rfl, (blk_cell BK203.out 2).trans rfl⟩ (fun hHeld => ?_)
      clear hK K
      refine norm_ (a' := ?_) ?_ ?_
      rotate_left
      ·show Act.put _ (some 44) _ = _
       simp only [Act.put, List.setIfInBounds_toArray, List.set_cons_zero, List.set_cons_succ, i64_w, i32_w]
       rfl
      refine pure_ (i := 4) (N := some 45) (v := ?_) (a' := ?_) #[true, true, true, true, true] rfl rfl (by kernel_rfl) (fun _ _ _ h => h) (Or.inl ⟨by rfl, ?_⟩) ?_ ?_
      rotate_left
      ·intro w'
       go_simp
       with_reducible rfl
      rotate_left
      ·simp only [Act.put, List.setIfInBounds_toArray, List.set_cons_zero, List.set_cons_succ, i64_w, i32_w]
       rfl
      refine done_ (by kernel_rfl) ?_
      have hnb70 := NB228_203.out
      have hnc70 := NB203_228.out
      have hnb71 := NB228_220.out
      have hnc71 := NB220_228.out
      have hnb72 := NB228_237.out
      have hnc72 := NB237_228.out
      have hcz73_0 : w69.cell? ⟨gb228, 0, none⟩ = some (.int .i64 t221) := (blk_cell BK228.out 0).trans rfl
      have hcz73_1 : w69.cell? ⟨gb228, 1, none⟩ = some (.slice Ao31 t222.length co31) := (blk_cell BK228.out 1).trans rfl
      have hcz73_2 : w69.cell? ⟨gb228, 2, none⟩ = some (.slice Ao32 t225.length co32) := (blk_cell BK228.out 2).trans rfl
      have hfz73_0 := blk_frozen BK228.out 0
      have hfz73_1 := blk_frozen BK228.out 1
      have hfz73_2 := blk_frozen BK228.out 2
      go_upto_region 14 with (first | ((with_reducible refine gate_callee (f := 20) rfl ?_); refine goesL_ (some 48) rfl rfl Try.func20 (by kernel_rfl) rfl #[.agg #[.int .i64 t221, .slice Ao31 t222.length co31, .slice Ao32 t225.length co32], .int .i64 1] rfl (by (try simp only [List.map_toArray, List.map_cons, List.map_nil]); first | done | rfl | (simp only [Base.w64_u8]; rfl) | (simp only [List.length_drop, List.length_take]; rfl)) ?_; (with_reducible refine (laws_markAutomaton.calls kj10 t221 (fun k_ => some k_ = (.slice Ao31 t222.length co31 : Value).ownBlock) (.slice Ao31 t222.length co31) t222 (fun k_ => some k_ = (.slice Ao32 t225.length co32 : Value).ownBlock) (.slice Ao32 t225.length co32) t225 1 t247 t248 t249 w _ ?side1 ?side2 ?side3 A63.out).mono ?_); (case side1 => repeat (first | (with_reducible first | exact HB.out | apply below_alloc | apply pw_below_drewN | apply below_drew1 | refine below_set ?_ GE203.out | refine below_set ?_ GE220.out | refine below_set ?_ GE228.out | refine below_set ?_ GE237.out) | exact HB.out)); (case side2 => exact Kd.R_tight rfl HO_229001.out); (case side3 => exact Kd.R_tight rfl HO_229002.out); rintro e w74 ⟨rfl, hy0, hy1, hb, hkp⟩; refine ⟨_, rfl, ?_⟩; have n0_ := Aside0.mk (Kd.R_mono (ok' := fun k_ => some k_ ≠ (.slice Ao31 t222.length co31 : Value).ownBlock ∧ some k_ ≠ (.slice Ao39 t230.length co39 : Value).ownBlock ∧ some k_ ≠ (.slice Ao67 t240.length co67 : Value).ownBlock) (Kd.R_keptB ((Kd.R_apart' HO_221001.out (Kd.R_typed HO_229002.out) (by decide))) hkp (fun k_ hk_ hs_ => Or.elim hs_ (fun e_ => (hk_.1.1.1) e_) (fun e_ => (hk_.2) e_))) (fun k_ hk_ => ⟨hk_.1.1.1.1, hk_.1.1.1.2, hk_.1.1.2⟩)); have n1_ := Aside0.mk (Kd.R_mono (ok' := fun k_ => some k_ ≠ (.slice Ao32 t225.length co32 : Value).ownBlock ∧ some k_ ≠ (.slice Ao40 t233.length co40 : Value).ownBlock ∧ some k_ ≠ (.slice Ao68 t243.length co68 : Value).ownBlock) (Kd.R_keptB ((Kd.R_apart' HO_221002.out (Kd.R_typed HO_229001.out) (by decide))) hkp (fun k_ hk_ hs_ => Or.elim hs_ (fun e_ => (hk_.2) e_) (fun e_ => (hk_.1.1.1) e_))) (fun k_ hk_ => ⟨hk_.1.1.1.1, hk_.1.1.1.2, hk_.1.1.2⟩)); have n2_ := Aside0.mk (Kd.R_reok rfl hy0 (fun k_ e_ => HO_229001.out.1 k_ e_)); have n3_ := Aside0.mk (Kd.R_reok rfl hy1 (fun k_ e_ => HO_229002.out.1 k_ e_)); have n4_ := Aside0.mk (Kd.R_mono (ok' := fun k_ => some k_ ≠ (.slice Ao23 t213.length co23 : Value).ownBlock ∧ some k_ ≠ (.slice Ao31 t222.length co31 : Value).ownBlock ∧ some k_ ≠ (.slice Ao67 t240.length co67 : Value).ownBlock) (Kd.R_keptB ((Kd.R_apart' HO_238001.out (Kd.R_typed HO_229002.out) (by decide))) hkp (fun k_ hk_ hs_ => Or.elim hs_ (fun e_ => (hk_.1.1.2) e_) (fun e_ => (hk_.2) e_))) (fun k_ hk_ => ⟨hk_.1.1.1.1, hk_.1.1.1.2, hk_.1.1.2⟩)); have n5_ := Aside0.mk (Kd.R_mono (ok' := fun k_ => some k_ ≠ (.slice Ao24 t216.length co24 : Value).ownBlock ∧ some k_ ≠ (.slice Ao32 t225.length co32 : Value).ownBlock ∧ some k_ ≠ (.slice Ao68 t243.length co68 : Value).ownBlock) (Kd.R_keptB ((Kd.R_apart' HO_238002.out (Kd.R_typed HO_229001.out) (by decide))) hkp (fun k_ hk_ hs_ => Or.elim hs_ (fun e_ => (hk_.2) e_) (fun e_ => (hk_.1.1.2) e_))) (fun k_ hk_ => ⟨hk_.1.1.1.1, hk_.1.1.1.2, hk_.1.1.2⟩)); have n6_ := Aside0.mk (blk_kept (by (with_reducible repeat (first | refine blk_drewN ?_ _ | refine blk_drew ?_ | refine blk_alloc ?_ _)); exact BK203.out) hkp (fun hs_ => Or.elim hs_ (fun e_ => (fun e_ => (Kd.R_ne HO_229001.out BK203.out (by decide)) e_) e_) (fun e_ => (fun e_ => (Kd.R_ne HO_229002.out BK203.out (by decide)) e_) e_))); have n7_ := Aside0.mk (blk_kept (by (with_reducible repeat (first | refine blk_drewN ?_ _ | refine blk_drew ?_ | refine blk_alloc ?_ _)); exact BK220.out) hkp (fun hs_ => Or.elim hs_ (fun e_ => (fun e_ => (Kd.R_ne HO_229001.out BK220.out (by decide)) e_) e_) (fun e_ => (fun e_ => (Kd.R_ne HO_229002.out BK220.out (by decide)) e_) e_))); have n8_ := Aside0.mk (blk_kept (by (with_reducible repeat (first | refine blk_drewN ?_ _ | refine blk_drew ?_ | refine blk_alloc ?_ _)); exact BK228.out) hkp (fun hs_ => Or.elim hs_ (fun e_ => (fun e_ => (Kd.R_ne HO_229001.out BK228.out (by decide)) e_) e_) (fun e_ => (fun e_ => (Kd.R_ne HO_229002.out BK228.out (by decide)) e_) e_))); have n9_ := Aside0.mk (blk_kept (by (with_reducible repeat (first | refine blk_drewN ?_ _ | refine blk_drew ?_ | refine blk_alloc ?_ _)); exact BK237.out) hkp (fun hs_ => Or.elim hs_ (fun e_ => (fun e_ => (Kd.R_ne HO_229001.out BK237.out (by decide)) e_) e_) (fun e_ => (fun e_ => (Kd.R_ne HO_229002.out BK237.out (by decide)) e_) e_))); have n10_ := Aside0.mk (Kd.R_mono (ok' := fun k_ => some k_ ≠ (.slice Ao23 t213.length co23 : Value).ownBlock ∧ some k_ ≠ (.slice Ao31 t222.length co31 : Value).ownBlock ∧ some k_ ≠ (.slice Ao39 t230.length co39 : Value).ownBlock) (Kd.R_keptB ((Kd.R_apart' HO242.out (Kd.R_typed HO_229002.out) (by decide))) hkp (fun k_ hk_ hs_ => Or.elim hs_ (fun e_ => (hk_.1.1.2) e_) (fun e_ => (hk_.2) e_))) (fun k_ hk_ => ⟨hk_.1.1.1.1.2, hk_.1.1.1.2, hk_.1.1.2⟩)); have n11_ := Aside0.mk (Kd.R_mono (ok' := fun k_ => some k_ ≠ (.slice Ao24 t216.length co24 : Value).ownBlock ∧ some k_ ≠ (.slice Ao32 t225.length co32 : Value).ownBlock ∧ some k_ ≠ (.slice Ao40 t233.length co40 : Value).ownBlock) (Kd.R_keptB ((Kd.R_apart' HO245.out (Kd.R_typed HO_229001.out) (by decide))) hkp (fun k_ hk_ hs_ => Or.elim hs_ (fun e_ => (hk_.2) e_) (fun e_ => (hk_.1.1.2) e_))) (fun k_ hk_ => ⟨hk_.1.1.1.1.2, hk_.1.1.1.2, hk_.1.1.2⟩)); have n12_ := Aside0.mk (hb); clear HO_221001; clear HO_221002; clear HO_229001; clear HO_229002; clear HO_238001; clear HO_238002; clear BK203; clear BK220; clear BK228; clear BK237; clear HO242; clear HO245; clear HB; have HO_221001 := n0_; have HO_221002 := n1_; have HO_229001 := n2_; have HO_229002 := n3_; have HO_238001 := n4_; have HO_238002 := n5_; have BK203 := n6_; have BK220 := n7_; have BK228 := n8_; have BK237 := n9_; have HO242 := n10_; have HO245 := n11_; have HB := n12_; clear n0_ n1_ n2_ n3_ n4_ n5_ n6_ n7_ n8_ n9_ n10_ n11_ n12_; (try clear hb); (try clear hkp); (try clear hy0); (try clear hy1)))
      (try simp only [Act.put, List.setIfInBounds_toArray, List.set_cons_zero, List.set_cons_succ])
      go_cut [61] (fun v61 wc => ∃ (kq : Nat) (x61_63 : Bool), v61 = .bool x61_63 ∧ Aside0 (laws_FnExactComplementOf.j1 kq t219 x61_63 a0_0 l0_1 l0_2 t212 t213 t216 t229 t230 t233 = some r) ∧ Aside0 (kq ≤ kj10) ∧ Aside0 (Kd.R (Kd.int .i64) 3 wc w.heap.size (fun k_ => some k_ ≠ ((.slice Ao31 t222.length co31) : Value).ownBlock ∧ some k_ ≠ ((.slice Ao39 t230.length co39) : Value).ownBlock) (.slice Ao23 t213.length co23) t213) ∧ Aside0 (Kd.R Kd.bool 4 wc w.heap.size (fun k_ => some k_ ≠ ((.slice Ao32 t225.length co32) : Value).ownBlock ∧ some k_ ≠ ((.slice Ao40 t233.length co40) : Value).ownBlock) (.slice Ao24 t216.length co24) t216) ∧ Aside0 (Kd.R (Kd.int .i64) 3 wc w.heap.size (fun k_ => some k_ ≠ ((.slice Ao23 t213.length co23) : Value).ownBlock ∧ some k_ ≠ ((.slice Ao39 t230.length co39) : Value).ownBlock) (.slice Ao31 t222.length co31) t248) ∧ Aside0 (Kd.R Kd.bool 4 wc w.heap.size (fun k_ => some k_ ≠ ((.slice Ao24 t216.length co24) : Value).ownBlock ∧ some k_ ≠ ((.slice Ao40 t233.length co40) : Value).ownBlock) (.slice Ao32 t225.length co32) t249) ∧ Aside0 (Kd.R (Kd.int .i64) 3 wc w.heap.size (fun k_ => some k_ ≠ ((.slice Ao23 t213.length co23) : Value).ownBlock ∧ some k_ ≠ ((.slice Ao31 t222.length co31) : Value).ownBlock) (.slice Ao39 t230.length co39) t230) ∧ Aside0 (Kd.R Kd.bool 4 wc w.heap.size (fun k_ => some k_ ≠ ((.slice Ao24 t216.length co24) : Value).ownBlock ∧ some k_ ≠ ((.slice Ao32 t225.length co32) : Value).ownBlock) (.slice Ao40 t233.length co40) t233) ∧ Aside0 (wc.heap[gb203]? = some (.cells #[.int .i64 a0_0, (.slice A0_1 l0_1.length c0_1), (.slice A0_2 l0_2.length c0_2)] 25 (0, 0))) ∧ Aside0 (wc.heap[gb220]? = some (.cells #[.int .i64 t212, (.slice Ao23 t213.length co23), (.slice Ao24 t216.length co24)] 27 (0, 0))) ∧ Aside0 (wc.heap[gb228]? = some (.cells #[.int .i64 t221, (.slice Ao31 t222.length co31), (.slice Ao32 t225.length co32)] 27 (0, 0))) ∧ Aside0 (wc.heap[gb237]? = some (.cells #[.int .i64 t229, (.slice Ao39 t230.length co39), (.slice Ao40 t233.length co40)] 27 (0, 0))) ∧ Aside0 (Below w.heap.size w wc))
      case first =>
       have H := HC64.out
       clear HC64
       by_cases c75 : t247 < 0
       ·rw [if_pos c75] at H
        have c75b0 : decide (t247 < 0) = true := decide_eq_true c75
        clear c75
        (first | rw [c75b0] | (simp only [i64_w, i32_w]; rw [c75b0]) | skip)
        have H' := Aside0.mk H
        clear H
        go_wp2
        go_meet
        case rel => exact ⟨_, (true), (by first | rfl | (simp; done) | (simp [*]; done)), H', ⟨by have := HJ10.out; first | omega | exact Nat.le_refl _⟩, ⟨by (with_reducible repeat (first | apply Kd.R_alloc | apply Kd.R_drewN | apply Kd.R_drew)); exact Kd.R_mono HO_221001.out (fun _ hk => ⟨hk.1, hk.2.1⟩)⟩, ⟨by (with_reducible repeat (first | apply Kd.R_alloc | apply Kd.R_drewN | apply Kd.R_drew)); exact Kd.R_mono HO_221002.out (fun _ hk => ⟨hk.1, hk.2.1⟩)⟩, ⟨by (with_reducible repeat (first | apply Kd.R_alloc | apply Kd.R_drewN | apply Kd.R_drew)); exact Kd.R_mono HO_229001.out (fun _ hk => ⟨hk.1.1, hk.1.2⟩)⟩, ⟨by (with_reducible repeat (first | apply Kd.R_alloc | apply Kd.R_drewN | apply Kd.R_drew)); exact Kd.R_mono HO_229002.out (fun _ hk => ⟨hk.1.1, hk.1.2⟩)⟩, ⟨by (with_reducible repeat (first | apply Kd.R_alloc | apply Kd.R_drewN | apply Kd.R_drew)); exact Kd.R_mono HO_238001.out (fun _ hk => ⟨hk.1, hk.2.1⟩)⟩, ⟨by (with_reducible repeat (first | apply Kd.R_alloc | apply Kd.R_drewN | apply Kd.R_drew)); exact Kd.R_mono HO_238002.out (fun _ hk => ⟨hk.1, hk.2.1⟩)⟩, ⟨by (with_reducible repeat (first | refine blk_drewN ?_ _ | refine blk_drew ?_ | refine blk_alloc ?_ _)); exact BK203.out⟩, ⟨by (with_reducible repeat (first | refine blk_drewN ?_ _ | refine blk_drew ?_ | refine blk_alloc ?_ _)); exact BK220.out⟩, ⟨by (with_reducible repeat (first | refine blk_drewN ?_ _ | refine blk_drew ?_ | refine blk_alloc ?_ _)); exact BK228.out⟩, ⟨by (with_reducible repeat (first | refine blk_drewN ?_ _ | refine blk_drew ?_ | refine blk_alloc ?_ _)); exact BK237.out⟩, ⟨by repeat (first | (with_reducible first | exact HB.out | apply below_alloc | apply pw_below_drewN | apply below_drew1 | refine below_set ?_ GE203.out | refine below_set ?_ GE220.out | refine below_set ?_ GE228.out | refine below_set ?_ GE237.out) | exact HB.out)⟩⟩
       ·rw [if_neg c75] at H
        have c75b0 : decide (t247 < 0) = false := decide_eq_false c75
        clear c75
        (first | rw [c75b0] | (simp only [i64_w, i32_w]; rw [c75b0]) | skip)
        replace H := Option.bind_eq_some_iff.mp H
        obtain ⟨t250, A760, H⟩ := H
        replace H : (if t250 = true then (laws_FnExactComplementOf.j1 kj10 t219 (t236 != t219) a0_0 l0_1 l0_2 t212 t213 t216 t229 t230 t233) else (laws_FnExactComplementOf.j1 kj10 t219 true a0_0 l0_1 l0_2 t212 t213 t216 t229 t230 t233)) = some r := H
        have A76 := Aside0.mk A760
        clear A760
        by_cases c77 : t250 = true
        ·subst c77
         have H1 : (laws_FnExactComplementOf.j1 kj10 t219 (t236 != t219) a0_0 l0_1 l0_2 t212 t213 t216 t229 t230 t233) = some r := by rw [if_pos rfl] at H; exact H
         clear H
         have H := H1
         clear H1
         have H' := Aside0.mk H
         clear H
         have hnb78 := NB237_203.out
         have hnc78 := NB203_237.out
         have hnb79 := NB237_220.out
         have hnc79 := NB220_237.out
         have hnb80 := NB237_228.out
         have hnc80 := NB228_237.out
         have hcz81_0 : w74.cell? ⟨gb237, 0, none⟩ = some (.int .i64 t229) := (blk_cell BK237.out 0).trans rfl
         have hcz81_1 : w74.cell? ⟨gb237, 1, none⟩ = some (.slice Ao39 t230.length co39) := (blk_cell BK237.out 1).trans rfl
         have hcz81_2 : w74.cell? ⟨gb237, 2, none⟩ = some (.slice Ao40 t233.length co40) := (blk_cell BK237.out 2).trans rfl
         have hfz81_0 := blk_frozen BK237.out 0
         have hfz81_1 := blk_frozen BK237.out 1
         have hfz81_2 := blk_frozen BK237.out 2
         have hnb82 := NB220_203.out
         have hnc82 := NB203_220.out
         have hnb83 := NB220_228.out
         have hnc83 := NB228_220.out
         have hcz84_0 : w74.cell? ⟨gb220, 0, none⟩ = some (.int .i64 t212) := (blk_cell BK220.out 0).trans rfl
         have hcz84_1 : w74.cell? ⟨gb220, 1, none⟩ = some (.slice Ao23 t213.length co23) := (blk_cell BK220.out 1).trans rfl
         have hcz84_2 : w74.cell? ⟨gb220, 2, none⟩ = some (.slice Ao24 t216.length co24) := (blk_cell BK220.out 2).trans rfl
         have hfz84_0 := blk_frozen BK220.out 0
         have hfz84_1 := blk_frozen BK220.out 1
         have hfz84_2 := blk_frozen BK220.out 2
         go_wp2_with (first | (go_at_call 19; (with_reducible refine (laws_eqAutomaton.calls kj10 t229 _ _ t230 _ _ t233 t212 _ _ t213 _ _ t216 true _ ?side1 ?side2 ?side3 ?side4 ?side5 ?side6 ?side7 ?side8 A76.out).mono ?_); (case side1 => repeat (first | exact (Kd.R_reads' HO_238001.out).2.2 | (with_reducible refine Kd.C_alloc ?_ _) | (with_reducible refine Kd.C_drewN ?_ _) | (with_reducible refine Kd.C_drew ?_))); (case side2 => exact (Kd.R_reads' HO_238001.out).2.1); (case side3 => repeat (first | exact (Kd.R_reads' HO_238002.out).2.2 | (with_reducible refine Kd.C_alloc ?_ _) | (with_reducible refine Kd.C_drewN ?_ _) | (with_reducible refine Kd.C_drew ?_))); (case side4 => exact (Kd.R_reads' HO_238002.out).2.1); (case side5 => repeat (first | exact (Kd.R_reads' HO_221001.out).2.2 | (with_reducible refine Kd.C_alloc ?_ _) | (with_reducible refine Kd.C_drewN ?_ _) | (with_reducible refine Kd.C_drew ?_))); (case side6 => exact (Kd.R_reads' HO_221001.out).2.1); (case side7 => repeat (first | exact (Kd.R_reads' HO_221002.out).2.2 | (with_reducible refine Kd.C_alloc ?_ _) | (with_reducible refine Kd.C_drewN ?_ _) | (with_reducible refine Kd.C_drew ?_))); (case side8 => exact (Kd.R_reads' HO_221002.out).2.1); rintro e w85 ⟨rfl, hb⟩; have n0_ := Aside0.mk (Kd.R_below (by (with_reducible repeat (first | apply Kd.R_alloc | apply Kd.R_drewN | apply Kd.R_drew)); exact HO_221001.out) hb); have n1_ := Aside0.mk (Kd.R_below (by (with_reducible repeat (first | apply Kd.R_alloc | apply Kd.R_drewN | apply Kd.R_drew)); exact HO_221002.out) hb); have n2_ := Aside0.mk (Kd.R_below (by (with_reducible repeat (first | apply Kd.R_alloc | apply Kd.R_drewN | apply Kd.R_drew)); exact HO_229001.out) hb); have n3_ := Aside0.mk (Kd.R_below (by (with_reducible repeat (first | apply Kd.R_alloc | apply Kd.R_drewN | apply Kd.R_drew)); exact HO_229002.out) hb); have n4_ := Aside0.mk (Kd.R_below (by (with_reducible repeat (first | apply Kd.R_alloc | apply Kd.R_drewN | apply Kd.R_drew)); exact HO_238001.out) hb); have n5_ := Aside0.mk (Kd.R_below (by (with_reducible repeat (first | apply Kd.R_alloc | apply Kd.R_drewN | apply Kd.R_drew)); exact HO_238002.out) hb); have n6_ := Aside0.mk (Kd.R_below (by (with_reducible repeat (first | apply Kd.R_alloc | apply Kd.R_drewN | apply Kd.R_drew)); exact HO242.out) hb); have n7_ := Aside0.mk (Kd.R_below (by (with_reducible repeat (first | apply Kd.R_alloc | apply Kd.R_drewN | apply Kd.R_drew)); exact HO245.out) hb); have n8_ := Aside0.mk (blk_below (g := gb203) (o := .cells #[.int .i64 a0_0, .slice A0_1 l0_1.length c0_1, .slice A0_2 l0_2.length c0_2] 25 (0, 0)) (by (with_reducible repeat (first | refine blk_drewN ?_ _ | refine blk_drew ?_ | refine blk_alloc ?_ _)); exact BK203.out) hb); have n9_ := Aside0.mk (blk_below (g := gb220) (o := .cells #[.int .i64 t212, .slice Ao23 t213.length co23, .slice Ao24 t216.length co24] 27 (0, 0)) (by (with_reducible repeat (first | refine blk_drewN ?_ _ | refine blk_drew ?_ | refine blk_alloc ?_ _)); exact BK220.out) hb); have n10_ := Aside0.mk (blk_below (g := gb228) (o := .cells #[.int .i64 t221, .slice Ao31 t222.length co31, .slice Ao32 t225.length co32] 27 (0, 0)) (by (with_reducible repeat (first | refine blk_drewN ?_ _ | refine blk_drew ?_ | refine blk_alloc ?_ _)); exact BK228.out) hb); have n11_ := Aside0.mk (blk_below (g := gb237) (o := .cells #[.int .i64 t229, .slice Ao39 t230.length co39, .slice Ao40 t233.length co40] 27 (0, 0)) (by (with_reducible repeat (first | refine blk_drewN ?_ _ | refine blk_drew ?_ | refine blk_alloc ?_ _)); exact BK237.out) hb); have n12_ := Aside0.mk (below_step (by repeat (first | (with_reducible first | exact HB.out | apply below_alloc | apply pw_below_drewN | apply below_drew1 | refine below_set ?_ GE203.out | refine below_set ?_ GE220.out | refine below_set ?_ GE228.out | refine below_set ?_ GE237.out) | exact HB.out)) hb); clear HO_221001; clear HO_221002; clear HO_229001; clear HO_229002; clear HO_238001; clear HO_238002; clear HO242; clear HO245; clear BK203; clear BK220; clear BK228; clear BK237; clear HB; have HO_221001 := n0_; have HO_221002 := n1_; have HO_229001 := n2_; have HO_229002 := n3_; have HO_238001 := n4_; have HO_238002 := n5_; have HO242 := n6_; have HO245 := n7_; have BK203 := n8_; have BK220 := n9_; have BK228 := n10_; have BK237 := n11_; have HB := n12_; clear n0_ n1_ n2_ n3_ n4_ n5_ n6_ n7_ n8_ n9_ n10_ n11_ n12_; (try clear hb); (try clear hb2); (try clear hk); (try clear hi)))
         go_meet
         case rel => exact ⟨_, ((t236 != t219)), (by first | rfl | (simp; done) | (simp [*]; done)), H', ⟨by have := HJ10.out; first | omega | exact Nat.le_refl _⟩, ⟨by (with_reducible repeat (first | apply Kd.R_alloc | apply Kd.R_drewN | apply Kd.R_drew)); exact Kd.R_mono HO_221001.out (fun _ hk => ⟨hk.1, hk.2.1⟩)⟩, ⟨by (with_reducible repeat (first | apply Kd.R_alloc | apply Kd.R_drewN | apply Kd.R_drew)); exact Kd.R_mono HO_221002.out (fun _ hk => ⟨hk.1, hk.2.1⟩)⟩, ⟨by (with_reducible repeat (first | apply Kd.R_alloc | apply Kd.R_drewN | apply Kd.R_drew)); exact Kd.R_mono HO_229001.out (fun _ hk => ⟨hk.1.1, hk.1.2⟩)⟩, ⟨by (with_reducible repeat (first | apply Kd.R_alloc | apply Kd.R_drewN | apply Kd.R_drew)); exact Kd.R_mono HO_229002.out (fun _ hk => ⟨hk.1.1, hk.1.2⟩)⟩, ⟨by (with_reducible repeat (first | apply Kd.R_alloc | apply Kd.R_drewN | apply Kd.R_drew)); exact Kd.R_mono HO_238001.out (fun _ hk => ⟨hk.1, hk.2.1⟩)⟩, ⟨by (with_reducible repeat (first | apply Kd.R_alloc | apply Kd.R_drewN | apply Kd.R_drew)); exact Kd.R_mono HO_238002.out (fun _ hk => ⟨hk.1, hk.2.1⟩)⟩, ⟨by (with_reducible repeat (first | refine blk_drewN ?_ _ | refine blk_drew ?_ | refine blk_alloc ?_ _)); exact BK203.out⟩, ⟨by (with_reducible repeat (first | refine blk_drewN ?_ _ | refine blk_drew ?_ | refine blk_alloc ?_ _)); exact BK220.out⟩, ⟨by (with_reducible repeat (first | refine blk_drewN ?_ _ | refine blk_drew ?_ | refine blk_alloc ?_ _)); exact BK228.out⟩, ⟨by (with_reducible repeat (first | refine blk_drewN ?_ _ | refine blk_drew ?_ | refine blk_alloc ?_ _)); exact BK237.out⟩, ⟨by repeat (first | (with_reducible first | exact HB.out | apply below_alloc | apply pw_below_drewN | apply below_drew1 | refine below_set ?_ GE203.out | refine below_set ?_ GE220.out | refine below_set ?_ GE228.out | refine below_set ?_ GE237.out) | exact HB.out)⟩⟩
        ·replace c77 := Bool.eq_false_iff.mpr c77
         subst c77
         have H1 : (laws_FnExactComplementOf.j1 kj10 t219 true a0_0 l0_1 l0_2 t212 t213 t216 t229 t230 t233) = some r := by rw [if_neg (show ¬ (false = true) by decide)] at H; exact H
         clear H
         have H := H1
         clear H1
         have H' := Aside0.mk H
         clear H
         have hnb86 := NB237_203.out
         have hnc86 := NB203_237.out
         have hnb87 := NB237_220.out
         have hnc87 := NB220_237.out
         have hnb88 := NB237_228.out
         have hnc88 := NB228_237.out
         have hcz89_0 : w74.cell? ⟨gb237, 0, none⟩ = some (.int .i64 t229) := (blk_cell BK237.out 0).trans rfl
         have hcz89_1 : w74.cell? ⟨gb237, 1, none⟩ = some (.slice Ao39 t230.length co39) := (blk_cell BK237.out 1).trans rfl
         have hcz89_2 : w74.cell? ⟨gb237, 2, none⟩ = some (.slice Ao40 t233.length co40) := (blk_cell BK237.out 2).trans rfl
         have hfz89_0 := blk_frozen BK237.out 0
         have hfz89_1 := blk_frozen BK237.out 1
         have hfz89_2 := blk_frozen BK237.out 2
         have hnb90 := NB220_203.out
         have hnc90 := NB203_220.out
         have hnb91 := NB220_228.out
         have hnc91 := NB228_220.out
         have hcz92_0 : w74.cell? ⟨gb220, 0, none⟩ = some (.int .i64 t212) := (blk_cell BK220.out 0).trans rfl
         have hcz92_1 : w74.cell? ⟨gb220, 1, none⟩ = some (.slice Ao23 t213.length co23) := (blk_cell BK220.out 1).trans rfl
         have hcz92_2 : w74.cell? ⟨gb220, 2, none⟩ = some (.slice Ao24 t216.length co24) := (blk_cell BK220.out 2).trans rfl
         have hfz92_0 := blk_frozen BK220.out 0
         have hfz92_1 := blk_frozen BK220.out 1
         have hfz92_2 := blk_frozen BK220.out 2
         go_wp2_with (first | (go_at_call 19; (with_reducible refine (laws_eqAutomaton.calls kj10 t229 _ _ t230 _ _ t233 t212 _ _ t213 _ _ t216 false _ ?side1 ?side2 ?side3 ?side4 ?side5 ?side6 ?side7 ?side8 A76.out).mono ?_); (case side1 => repeat (first | exact (Kd.R_reads' HO_238001.out).2.2 | (with_reducible refine Kd.C_alloc ?_ _) | (with_reducible refine Kd.C_drewN ?_ _) | (with_reducible refine Kd.C_drew ?_))); (case side2 => exact (Kd.R_reads' HO_238001.out).2.1); (case side3 => repeat (first | exact (Kd.R_reads' HO_238002.out).2.2 | (with_reducible refine Kd.C_alloc ?_ _) | (with_reducible refine Kd.C_drewN ?_ _) | (with_reducible refine Kd.C_drew ?_))); (case side4 => exact (Kd.R_reads' HO_238002.out).2.1); (case side5 => repeat (first | exact (Kd.R_reads' HO_221001.out).2.2 | (with_reducible refine Kd.C_alloc ?_ _) | (with_reducible refine Kd.C_drewN ?_ _) | (with_reducible refine Kd.C_drew ?_))); (case side6 => exact (Kd.R_reads' HO_221001.out).2.1); (case side7 => repeat (first | exact (Kd.R_reads' HO_221002.out).2.2 | (with_reducible refine Kd.C_alloc ?_ _) | (with_reducible refine Kd.C_drewN ?_ _) | (with_reducible refine Kd.C_drew ?_))); (case side8 => exact (Kd.R_reads' HO_221002.out).2.1); rintro e w93 ⟨rfl, hb⟩; have n0_ := Aside0.mk (Kd.R_below (by (with_reducible repeat (first | apply Kd.R_alloc | apply Kd.R_drewN | apply Kd.R_drew)); exact HO_221001.out) hb); have n1_ := Aside0.mk (Kd.R_below (by (with_reducible repeat (first | apply Kd.R_alloc | apply Kd.R_drewN | apply Kd.R_drew)); exact HO_221002.out) hb); have n2_ := Aside0.mk (Kd.R_below (by (with_reducible repeat (first | apply Kd.R_alloc | apply Kd.R_drewN | apply Kd.R_drew)); exact HO_229001.out) hb); have n3_ := Aside0.mk (Kd.R_below (by (with_reducible repeat (first | apply Kd.R_alloc | apply Kd.R_drewN | apply Kd.R_drew)); exact HO_229002.out) hb); have n4_ := Aside0.mk (Kd.R_below (by (with_reducible repeat (first | apply Kd.R_alloc | apply Kd.R_drewN | apply Kd.R_drew)); exact HO_238001.out) hb); have n5_ := Aside0.mk (Kd.R_below (by (with_reducible repeat (first | apply Kd.R_alloc | apply Kd.R_drewN | apply Kd.R_drew)); exact HO_238002.out) hb); have n6_ := Aside0.mk (Kd.R_below (by (with_reducible repeat (first | apply Kd.R_alloc | apply Kd.R_drewN | apply Kd.R_drew)); exact HO242.out) hb); have n7_ := Aside0.mk (Kd.R_below (by (with_reducible repeat (first | apply Kd.R_alloc | apply Kd.R_drewN | apply Kd.R_drew)); exact HO245.out) hb); have n8_ := Aside0.mk (blk_below (g := gb203) (o := .cells #[.int .i64 a0_0, .slice A0_1 l0_1.length c0_1, .slice A0_2 l0_2.length c0_2] 25 (0, 0)) (by (with_reducible repeat (first | refine blk_drewN ?_ _ | refine blk_drew ?_ | refine blk_alloc ?_ _)); exact BK203.out) hb); have n9_ := Aside0.mk (blk_below (g := gb220) (o := .cells #[.int .i64 t212, .slice Ao23 t213.length co23, .slice Ao24 t216.length co24] 27 (0, 0)) (by (with_reducible repeat (first | refine blk_drewN ?_ _ | refine blk_drew ?_ | refine blk_alloc ?_ _)); exact BK220.out) hb); have n10_ := Aside0.mk (blk_below (g := gb228) (o := .cells #[.int .i64 t221, .slice Ao31 t222.length co31, .slice Ao32 t225.length co32] 27 (0, 0)) (by (with_reducible repeat (first | refine blk_drewN ?_ _ | refine blk_drew ?_ | refine blk_alloc ?_ _)); exact BK228.out) hb); have n11_ := Aside0.mk (blk_below (g := gb237) (o := .cells #[.int .i64 t229, .slice Ao39 t230.length co39, .slice Ao40 t233.length co40] 27 (0, 0)) (by (with_reducible repeat (first | refine blk_drewN ?_ _ | refine blk_drew ?_ | refine blk_alloc ?_ _)); exact BK237.out) hb); have n12_ := Aside0.mk (below_step (by repeat (first | (with_reducible first | exact HB.out | apply below_alloc | apply pw_below_drewN | apply below_drew1 | refine below_set ?_ GE203.out | refine below_set ?_ GE220.out | refine below_set ?_ GE228.out | refine below_set ?_ GE237.out) | exact HB.out)) hb); clear HO_221001; clear HO_221002; clear HO_229001; clear HO_229002; clear HO_238001; clear HO_238002; clear HO242; clear HO245; clear BK203; clear BK220; clear BK228; clear BK237; clear HB; have HO_221001 := n0_; have HO_221002 := n1_; have HO_229001 := n2_; have HO_229002 := n3_; have HO_238001 := n4_; have HO_238002 := n5_; have HO242 := n6_; have HO245 := n7_; have BK203 := n8_; have BK220 := n9_; have BK228 := n10_; have BK237 := n11_; have HB := n12_; clear n0_ n1_ n2_ n3_ n4_ n5_ n6_ n7_ n8_ n9_ n10_ n11_ n12_; (try clear hb); (try clear hb2); (try clear hk); (try clear hi)))
         go_meet
         case rel => exact ⟨_, (true), (by first | rfl | (simp; done) | (simp [*]; done)), H', ⟨by have := HJ10.out; first | omega | exact Nat.le_refl _⟩, ⟨by (with_reducible repeat (first | apply Kd.R_alloc | apply Kd.R_drewN | apply Kd.R_drew)); exact Kd.R_mono HO_221001.out (fun _ hk => ⟨hk.1, hk.2.1⟩)⟩, ⟨by (with_reducible repeat (first | apply Kd.R_alloc | apply Kd.R_drewN | apply Kd.R_drew)); exact Kd.R_mono HO_221002.out (fun _ hk => ⟨hk.1, hk.2.1⟩)⟩, ⟨by (with_reducible repeat (first | apply Kd.R_alloc | apply Kd.R_drewN | apply Kd.R_drew)); exact Kd.R_mono HO_229001.out (fun _ hk => ⟨hk.1.1, hk.1.2⟩)⟩, ⟨by (with_reducible repeat (first | apply Kd.R_alloc | apply Kd.R_drewN | apply Kd.R_drew)); exact Kd.R_mono HO_229002.out (fun _ hk => ⟨hk.1.1, hk.1.2⟩)⟩, ⟨by (with_reducible repeat (first | apply Kd.R_alloc | apply Kd.R_drewN | apply Kd.R_drew)); exact Kd.R_mono HO_238001.out (fun _ hk => ⟨hk.1, hk.2.1⟩)⟩, ⟨by (with_reducible repeat (first | apply Kd.R_alloc | apply Kd.R_drewN | apply Kd.R_drew)); exact Kd.R_mono HO_238002.out (fun _ hk => ⟨hk.1, hk.2.1⟩)⟩, ⟨by (with_reducible repeat (first | refine blk_drewN ?_ _ | refine blk_drew ?_ | refine blk_alloc ?_ _)); exact BK203.out⟩, ⟨by (with_reducible repeat (first | refine blk_drewN ?_ _ | refine blk_drew ?_ | refine blk_alloc ?_ _)); exact BK220.out⟩, ⟨by (with_reducible repeat (first | refine blk_drewN ?_ _ | refine blk_drew ?_ | refine blk_alloc ?_ _)); exact BK228.out⟩, ⟨by (with_reducible repeat (first | refine blk_drewN ?_ _ | refine blk_drew ?_ | refine blk_alloc ?_ _)); exact BK237.out⟩, ⟨by repeat (first | (with_reducible first | exact HB.out | apply below_alloc | apply pw_below_drewN | apply below_drew1 | refine below_set ?_ GE203.out | refine below_set ?_ GE220.out | refine below_set ?_ GE228.out | refine below_set ?_ GE237.out) | exact HB.out)⟩⟩
      case rest =>
       clear HC64
       try clear c1
       try clear c2
       try clear p2
       try clear c3
       try clear c3b0
       try clear c4
       try clear c5
       try clear c6
       try clear c7
       try clear c8
       try clear c9
       try clear c15
       try clear c16
       try clear c17
       try clear c18
       try clear c19
       try clear c20
       try clear c21
       try clear c28
       try clear c29
       try clear c35
       try clear c36
       try clear c37
       try clear c42
       try clear c43
       try clear c44
       try clear c45
       try clear c47
       try clear c48
       try clear c51
       try clear c52
       try clear c53
       try clear c55
       try clear c56
       try clear c59
       try clear c62
       try clear c70
       try clear c71
       try clear c72
       try clear c75
       try clear c75b0
       try clear c77
       try clear c78
       try clear c79
       try clear c80
       try clear c82
       try clear c83
       try clear c86
       try clear c87
       try clear c88
       try clear c90
       try clear c91
       try clear hcz13_0
       try clear hcz13_1
       try clear hcz13_2
       try clear hcz15_0
       try clear hcz15_1
       try clear hcz15_2
       try clear hcz22_0
       try clear hcz22_1
       try clear hcz22_2
       try clear hcz25_0
       try clear hcz25_1
       try clear hcz25_2
       try clear hcz30_0
       try clear hcz30_1
       try clear hcz30_2
       try clear hcz38_0
       try clear hcz38_1
       try clear hcz38_2
       try clear hcz46_0
       try clear hcz46_1
       try clear hcz46_2
       try clear hcz49_0
       try clear hcz49_1
       try clear hcz49_2
       try clear hcz54_0
       try clear hcz54_1
       try clear hcz54_2
       try clear hcz57_0
       try clear hcz57_1
       try clear hcz57_2
       try clear hcz5_0
       try clear hcz5_1
       try clear hcz5_2
       try clear hcz73_0
       try clear hcz73_1
       try clear hcz73_2
       try clear hcz81_0
       try clear hcz81_1
       try clear hcz81_2
       try clear hcz84_0
       try clear hcz84_1
       try clear hcz84_2
       try clear hcz89_0
       try clear hcz89_1
       try clear hcz89_2
       try clear hcz92_0
       try clear hcz92_1
       try clear hcz92_2
       try clear hfz13_0
       try clear hfz13_1
       try clear hfz13_2
       try clear hfz15_0
       try clear hfz15_1
       try clear hfz15_2
       try clear hfz22_0
       try clear hfz22_1
       try clear hfz22_2
       try clear hfz25_0
       try clear hfz25_1
       try clear hfz25_2
       try clear hfz30_0
       try clear hfz30_1
       try clear hfz30_2
       try clear hfz38_0
       try clear hfz38_1
       try clear hfz38_2
       try clear hfz46_0
       try clear hfz46_1
       try clear hfz46_2
       try clear hfz49_0
       try clear hfz49_1
       try clear hfz49_2
       try clear hfz54_0
       try clear hfz54_1
       try clear hfz54_2
       try clear hfz57_0
       try clear hfz57_1
       try clear hfz57_2
       try clear hfz5_0
       try clear hfz5_1
       try clear hfz5_2
       try clear hfz73_0
       try clear hfz73_1
       try clear hfz73_2
       try clear hfz81_0
       try clear hfz81_1
       try clear hfz81_2
       try clear hfz84_0
       try clear hfz84_1
       try clear hfz84_2
       try clear hfz89_0
       try clear hfz89_1
       try clear hfz89_2
       try clear hfz92_0
       try clear hfz92_1
       try clear hfz92_2
       try clear p2
       obtain ⟨kq, x61_63, rfl, HA, HJ63, HO_221001, HO_221002, HO_229001, HO_229002, HO_238001, HO_238002, BK203, BK220, BK228, BK237, HB⟩ := hcut
       have hl229001_63 := (Kd.R_reads' HO_229001.out).1
       rw [hl229001_63] at HO_229001
       (try simp only [hl229001_63])
       (try simp only [hl229001_63] at BK203)
       (try simp only [hl229001_63] at BK220)
       (try simp only [hl229001_63] at BK228)
       (try simp only [hl229001_63] at BK237)
       (try simp only [hl229001_63] at HO_221001)
       (try simp only [hl229001_63] at HO_221002)
       (try simp only [hl229001_63] at HO_229002)
       (try simp only [hl229001_63] at HO_238001)
       (try simp only [hl229001_63] at HO_238002)
       have hl229002_63 := (Kd.R_reads' HO_229002.out).1
       rw [hl229002_63] at HO_229002
       (try simp only [hl229002_63])
       (try simp only [hl229002_63] at BK203)
       (try simp only [hl229002_63] at BK220)
       (try simp only [hl229002_63] at BK228)
       (try simp only [hl229002_63] at BK237)
       (try simp only [hl229002_63] at HO_221001)
       (try simp only [hl229002_63] at HO_221002)
       (try simp only [hl229002_63] at HO_229001)
       (try simp only [hl229002_63] at HO_238001)
       (try simp only [hl229002_63] at HO_238002)
       cases kq with
       | zero => exact absurd HA.out (by simp [laws_FnExactComplementOf.j1])
       | succ kj63 =>
        have H := HA.out
        clear HA
        simp only [laws_FnExactComplementOf.j1] at H
        by_cases c94 : x61_63 = true
        ·subst c94
         have H1 : (some false) = some r := by rw [if_pos rfl] at H; exact H
         clear H
         have H := H1
         clear H1
         obtain rfl := Option.some.inj H
         go_wp2
         go_ret
         exact ⟨by first | rfl | (simp [errW_none, errW_some] <;> rfl) | (simp [*, errW_none, errW_some] <;> rfl), by repeat (first | (with_reducible first | exact HB.out | apply below_alloc | apply pw_below_drewN | apply below_drew1 | refine below_set ?_ GE203.out | refine below_set ?_ GE220.out | refine below_set ?_ GE228.out | refine below_set ?_ GE237.out) | exact HB.out)⟩
        ·replace c94 := Bool.eq_false_iff.mpr c94
         subst c94
         have H1 : ((laws_markAutomaton.f kj63 t229 t230 t233 1).bind fun bt251 => ((laws_heldAutomaton.f kj63 t229 bt251.2.1 bt251.2.2 1).bind fun t254 => (if t254 < 0 then (some false) else (if t254 = bt251.1 then ((laws_toAutomaton.f kj63 a0_0 l0_1 l0_2).bind fun bt255 => ((impl_ComplementOf.f kj63 bt255.1 bt255.2.1 bt255.2.2).bind fun bt262 => ((laws_eqAutomaton.f kj63 bt262.1 bt262.2.1 bt262.2.2.1 t212 t213 t216).bind fun t271 => (if t271 = true then (laws_FnExactComplementOf.j2 kj63 bt251.1 (bt262.2.2.2 != t219) t229 bt251.2.1 bt251.2.2) else (laws_FnExactComplementOf.j2 kj63 bt251.1 true t229 bt251.2.1 bt251.2.2))))) else (some false))))) = some r := by rw [if_neg (show ¬ (false = true) by decide)] at H; exact H
         clear H
         have H := H1
         clear H1
         replace H := Option.bind_eq_some_iff.mp H
         obtain ⟨⟨t251, t252, t253⟩, A950, H⟩ := H
         replace H : ((laws_heldAutomaton.f kj63 t229 t252 t253 1).bind fun t254 => (if t254 < 0 then (some false) else (if t254 = t251 then ((laws_toAutomaton.f kj63 a0_0 l0_1 l0_2).bind fun bt255 => ((impl_ComplementOf.f kj63 bt255.1 bt255.2.1 bt255.2.2).bind fun bt262 => ((laws_eqAutomaton.f kj63 bt262.1 bt262.2.1 bt262.2.2.1 t212 t213 t216).bind fun t271 => (if t271 = true then (laws_FnExactComplementOf.j2 kj63 t251 (bt262.2.2.2 != t219) t229 t252 t253) else (laws_FnExactComplementOf.j2 kj63 t251 true t229 t252 t253))))) else (some false)))) = some r := H
         have A95 := Aside0.mk A950
         clear A950
         replace H := Option.bind_eq_some_iff.mp H
         obtain ⟨t254, A960, H⟩ := H
         replace H : (if t254 < 0 then (some false) else (if t254 = t251 then ((laws_toAutomaton.f kj63 a0_0 l0_1 l0_2).bind fun bt255 => ((impl_ComplementOf.f kj63 bt255.1 bt255.2.1 bt255.2.2).bind fun bt262 => ((laws_eqAutomaton.f kj63 bt262.1 bt262.2.1 bt262.2.2.1 t212 t213 t216).bind fun t271 => (if t271 = true then (laws_FnExactComplementOf.j2 kj63 t251 (bt262.2.2.2 != t219) t229 t252 t253) else (laws_FnExactComplementOf.j2 kj63 t251 true t229 t252 t253))))) else (some false))) = some r := H
         have A96 := Aside0.mk A960
         clear A960
         by_cases c97 : t254 < 0
         ·rw [if_pos c97] at H
          have c97b0 : decide (t254 < 0) = true := decide_eq_true c97
          clear c97
          obtain rfl := Option.some.inj H
          have hnb98 := NB237_203.out
          have hnc98 := NB203_237.out
          have hnb99 := NB237_220.out
          have hnc99 := NB220_237.out
          have hnb100 := NB237_228.out
          have hnc100 := NB228_237.out
          have hcz101_0 : wc.cell? ⟨gb237, 0, none⟩ = some (.int .i64 t229) := (blk_cell BK237.out 0).trans rfl
          have hcz101_1 : wc.cell? ⟨gb237, 1, none⟩ = some (.slice Ao39 t230.length co39) := (blk_cell BK237.out 1).trans rfl
          have hcz101_2 : wc.cell? ⟨gb237, 2, none⟩ = some (.slice Ao40 t233.length co40) := (blk_cell BK237.out 2).trans rfl
          have hfz101_0 := blk_frozen BK237.out 0
          have hfz101_1 := blk_frozen BK237.out 1
          have hfz101_2 := blk_frozen BK237.out 2
          go_wp2_with (first | ((with_reducible refine gate_callee (f := 20) rfl ?_); refine goesL_ (some 64) rfl rfl Try.func20 (by kernel_rfl) rfl #[.agg #[.int .i64 t229, .slice Ao39 t230.length co39, .slice Ao40 t233.length co40], .int .i64 1] rfl (by (try simp only [List.map_toArray, List.map_cons, List.map_nil]); first | done | rfl | (simp only [Base.w64_u8]; rfl) | (simp only [List.length_drop, List.length_take]; rfl)) ?_; (with_reducible refine (laws_markAutomaton.calls kj63 t229 (fun k_ => some k_ = (.slice Ao39 t230.length co39 : Value).ownBlock) (.slice Ao39 t230.length co39) t230 (fun k_ => some k_ = (.slice Ao40 t233.length co40 : Value).ownBlock) (.slice Ao40 t233.length co40) t233 1 t251 t252 t253 w _ ?side1 ?side2 ?side3 A95.out).mono ?_); (case side1 => repeat (first | (with_reducible first | exact HB.out | apply below_alloc | apply pw_below_drewN | apply below_drew1 | refine below_set ?_ GE203.out | refine below_set ?_ GE220.out | refine below_set ?_ GE228.out | refine below_set ?_ GE237.out) | exact HB.out)); (case side2 => exact Kd.R_tight rfl HO_238001.out); (case side3 => exact Kd.R_tight rfl HO_238002.out); rintro e w102 ⟨rfl, hy0, hy1, hb, hkp⟩; refine ⟨_, rfl, ?_⟩; have n0_ := Aside0.mk (Kd.R_mono (ok' := fun k_ => some k_ ≠ (.slice Ao31 t248.length co31 : Value).ownBlock ∧ some k_ ≠ (.slice Ao39 t230.length co39 : Value).ownBlock) (Kd.R_keptB ((Kd.R_apart' HO_221001.out (Kd.R_typed HO_238002.out) (by decide))) hkp (fun k_ hk_ hs_ => Or.elim hs_ (fun e_ => (hk_.1.2) e_) (fun e_ => (hk_.2) e_))) (fun k_ hk_ => ⟨hk_.1.1.1, hk_.1.1.2⟩)); have n1_ := Aside0.mk (Kd.R_mono (ok' := fun k_ => some k_ ≠ (.slice Ao32 t249.length co32 : Value).ownBlock ∧ some k_ ≠ (.slice Ao40 t233.length co40 : Value).ownBlock) (Kd.R_keptB ((Kd.R_apart' HO_221002.out (Kd.R_typed HO_238001.out) (by decide))) hkp (fun k_ hk_ hs_ => Or.elim hs_ (fun e_ => (hk_.2) e_) (fun e_ => (hk_.1.2) e_))) (fun k_ hk_ => ⟨hk_.1.1.1, hk_.1.1.2⟩)); have n2_ := Aside0.mk (Kd.R_mono (ok' := fun k_ => some k_ ≠ (.slice Ao23 t213.length co23 : Value).ownBlock ∧ some k_ ≠ (.slice Ao39 t230.length co39 : Value).ownBlock) (Kd.R_keptB ((Kd.R_apart' HO_229001.out (Kd.R_typed HO_238002.out) (by decide))) hkp (fun k_ hk_ hs_ => Or.elim hs_ (fun e_ => (hk_.1.2) e_) (fun e_ => (hk_.2) e_))) (fun k_ hk_ => ⟨hk_.1.1.1, hk_.1.1.2⟩)); have n3_ := Aside0.mk (Kd.R_mono (ok' := fun k_ => some k_ ≠ (.slice Ao24 t216.length co24 : Value).ownBlock ∧ some k_ ≠ (.slice Ao40 t233.length co40 : Value).ownBlock) (Kd.R_keptB ((Kd.R_apart' HO_229002.out (Kd.R_typed HO_238001.out) (by decide))) hkp (fun k_ hk_ hs_ => Or.elim hs_ (fun e_ => (hk_.2) e_) (fun e_ => (hk_.1.2) e_))) (fun k_ hk_ => ⟨hk_.1.1.1, hk_.1.1.2⟩)); have n4_ := Aside0.mk (Kd.R_reok rfl hy0 (fun k_ e_ => HO_238001.out.1 k_ e_)); have n5_ := Aside0.mk (Kd.R_reok rfl hy1 (fun k_ e_ => HO_238002.out.1 k_ e_)); have n6_ := Aside0.mk (blk_kept (by (with_reducible repeat (first | refine blk_drewN ?_ _ | refine blk_drew ?_ | refine blk_alloc ?_ _)); exact BK203.out) hkp (fun hs_ => Or.elim hs_ (fun e_ => (fun e_ => (Kd.R_ne HO_238001.out BK203.out (by decide)) e_) e_) (fun e_ => (fun e_ => (Kd.R_ne HO_238002.out BK203.out (by decide)) e_) e_))); have n7_ := Aside0.mk (blk_kept (by (with_reducible repeat (first | refine blk_drewN ?_ _ | refine blk_drew ?_ | refine blk_alloc ?_ _)); exact BK220.out) hkp (fun hs_ => Or.elim hs_ (fun e_ => (fun e_ => (Kd.R_ne HO_238001.out BK220.out (by decide)) e_) e_) (fun e_ => (fun e_ => (Kd.R_ne HO_238002.out BK220.out (by decide)) e_) e_))); have n8_ := Aside0.mk (blk_kept (by (with_reducible repeat (first | refine blk_drewN ?_ _ | refine blk_drew ?_ | refine blk_alloc ?_ _)); exact BK228.out) hkp (fun hs_ => Or.elim hs_ (fun e_ => (fun e_ => (Kd.R_ne HO_238001.out BK228.out (by decide)) e_) e_) (fun e_ => (fun e_ => (Kd.R_ne HO_238002.out BK228.out (by decide)) e_) e_))); have n9_ := Aside0.mk (blk_kept (by (with_reducible repeat (first | refine blk_drewN ?_ _ | refine blk_drew ?_ | refine blk_alloc ?_ _)); exact BK237.out) hkp (fun hs_ => Or.elim hs_ (fun e_ => (fun e_ => (Kd.R_ne HO_238001.out BK237.out (by decide)) e_) e_) (fun e_ => (fun e_ => (Kd.R_ne HO_238002.out BK237.out (by decide)) e_) e_))); have n10_ := Aside0.mk (hb); clear HO_221001; clear HO_221002; clear HO_229001; clear HO_229002; clear HO_238001; clear HO_238002; clear BK203; clear BK220; clear BK228; clear BK237; clear HB; have HO_221001 := n0_; have HO_221002 := n1_; have HO_229001 := n2_; have HO_229002 := n3_; have HO_238001 := n4_; have HO_238002 := n5_; have BK203 := n6_; have BK220 := n7_; have BK228 := n8_; have BK237 := n9_; have HB := n10_; clear n0_ n1_ n2_ n3_ n4_ n5_ n6_ n7_ n8_ n9_ n10_; (try clear hb); (try clear hkp); (try clear hy0); (try clear hy1); have hcz103_0 : w102.cell? ⟨gb237, 0, none⟩ = some (.int .i64 t229) := (blk_cell BK237.out 0).trans rfl; have hcz103_1 : w102.cell? ⟨gb237, 1, none⟩ = some (.slice Ao39 t230.length co39) := (blk_cell BK237.out 1).trans rfl; have hcz103_2 : w102.cell? ⟨gb237, 2, none⟩ = some (.slice Ao40 t233.length co40) := (blk_cell BK237.out 2).trans rfl; have hfz103_0 := blk_frozen BK237.out 0; have hfz103_1 := blk_frozen BK237.out 1; have hfz103_2 := blk_frozen BK237.out 2) | ((with_reducible refine gate_callee (f := 21) rfl ?_); refine goesL_ (some 67) rfl rfl Try.func21 (by kernel_rfl) rfl #[.agg #[.int .i64 t229, .slice Ao39 t252.length co39, .slice Ao40 t253.length co40], .int .i64 1] rfl (by (try simp only [List.map_toArray, List.map_cons, List.map_nil]); first | done | (rw [show t252.length = t230.length from (Kd.R_reads' HO_238001.out).1.symm, show t253.length = t233.length from (Kd.R_reads' HO_238002.out).1.symm] <;> rfl) | rfl | (simp only [List.length_drop, List.length_take]; rfl)) ?_; (with_reducible refine (laws_heldAutomaton.calls kj63 t229 _ _ t252 _ _ t253 1 t254 _ ?side1 ?side2 ?side3 ?side4 A96.out).mono ?_); (case side1 => repeat (first | exact (Kd.R_reads' HO_238001.out).2.2 | (with_reducible refine Kd.C_alloc ?_ _) | (with_reducible refine Kd.C_drewN ?_ _) | (with_reducible refine Kd.C_drew ?_))); (case side2 => rw [show t252.length = t230.length from (Kd.R_reads' HO_238001.out).1.symm]; exact (Kd.R_reads' HO_238001.out).2.1); (case side3 => repeat (first | exact (Kd.R_reads' HO_238002.out).2.2 | (with_reducible refine Kd.C_alloc ?_ _) | (with_reducible refine Kd.C_drewN ?_ _) | (with_reducible refine Kd.C_drew ?_))); (case side4 => rw [show t253.length = t233.length from (Kd.R_reads' HO_238002.out).1.symm]; exact (Kd.R_reads' HO_238002.out).2.1); rintro e w104 ⟨rfl, hb⟩; refine ⟨_, rfl, ?_⟩; have n0_ := Aside0.mk (Kd.R_below (by (with_reducible repeat (first | apply Kd.R_alloc | apply Kd.R_drewN | apply Kd.R_drew)); exact HO_221001.out) hb); have n1_ := Aside0.mk (Kd.R_below (by (with_reducible repeat (first | apply Kd.R_alloc | apply Kd.R_drewN | apply Kd.R_drew)); exact HO_221002.out) hb); have n2_ := Aside0.mk (Kd.R_below (by (with_reducible repeat (first | apply Kd.R_alloc | apply Kd.R_drewN | apply Kd.R_drew)); exact HO_229001.out) hb); have n3_ := Aside0.mk (Kd.R_below (by (with_reducible repeat (first | apply Kd.R_alloc | apply Kd.R_drewN | apply Kd.R_drew)); exact HO_229002.out) hb); have n4_ := Aside0.mk (Kd.R_below (by (with_reducible repeat (first | apply Kd.R_alloc | apply Kd.R_drewN | apply Kd.R_drew)); exact HO_238001.out) hb); have n5_ := Aside0.mk (Kd.R_below (by (with_reducible repeat (first | apply Kd.R_alloc | apply Kd.R_drewN | apply Kd.R_drew)); exact HO_238002.out) hb); have n6_ := Aside0.mk (blk_below (g := gb203) (o := .cells #[.int .i64 a0_0, .slice A0_1 l0_1.length c0_1, .slice A0_2 l0_2.length c0_2] 25 (0, 0)) (by (with_reducible repeat (first | refine blk_drewN ?_ _ | refine blk_drew ?_ | refine blk_alloc ?_ _)); exact BK203.out) hb); have n7_ := Aside0.mk (blk_below (g := gb220) (o := .cells #[.int .i64 t212, .slice Ao23 t213.length co23, .slice Ao24 t216.length co24] 27 (0, 0)) (by (with_reducible repeat (first | refine blk_drewN ?_ _ | refine blk_drew ?_ | refine blk_alloc ?_ _)); exact BK220.out) hb); have n8_ := Aside0.mk (blk_below (g := gb228) (o := .cells #[.int .i64 t221, .slice Ao31 t248.length co31, .slice Ao32 t249.length co32] 27 (0, 0)) (by (with_reducible repeat (first | refine blk_drewN ?_ _ | refine blk_drew ?_ | refine blk_alloc ?_ _)); exact BK228.out) hb); have n9_ := Aside0.mk (blk_below (g := gb237) (o := .cells #[.int .i64 t229, .slice Ao39 t230.length co39, .slice Ao40 t233.length co40] 27 (0, 0)) (by (with_reducible repeat (first | refine blk_drewN ?_ _ | refine blk_drew ?_ | refine blk_alloc ?_ _)); exact BK237.out) hb); have n10_ := Aside0.mk (below_step (by repeat (first | (with_reducible first | exact HB.out | apply below_alloc | apply pw_below_drewN | apply below_drew1 | refine below_set ?_ GE203.out | refine below_set ?_ GE220.out | refine below_set ?_ GE228.out | refine below_set ?_ GE237.out) | exact HB.out)) hb); clear HO_221001; clear HO_221002; clear HO_229001; clear HO_229002; clear HO_238001; clear HO_238002; clear BK203; clear BK220; clear BK228; clear BK237; clear HB; have HO_221001 := n0_; have HO_221002 := n1_; have HO_229001 := n2_; have HO_229002 := n3_; have HO_238001 := n4_; have HO_238002 := n5_; have BK203 := n6_; have BK220 := n7_; have BK228 := n8_; have BK237 := n9_; have HB := n10_; clear n0_ n1_ n2_ n3_ n4_ n5_ n6_ n7_ n8_ n9_ n10_; (try clear hb); (try clear hb2); (try clear hk); (try clear hi)))
          go_ret
          exact ⟨by first | rfl | (simp [errW_none, errW_some] <;> rfl) | (simp [*, errW_none, errW_some] <;> rfl), by repeat (first | (with_reducible first | exact HB.out | apply below_alloc | apply pw_below_drewN | apply below_drew1 | refine below_set ?_ GE203.out | refine below_set ?_ GE220.out | refine below_set ?_ GE228.out | refine below_set ?_ GE237.out) | exact HB.out)⟩
         ·rw [if_neg c97] at H
          have c97b0 : decide (t254 < 0) = false := decide_eq_false c97
          clear c97
          by_cases c105 : t254 = t251
          ·rw [if_pos c105] at H
           have c105b0 : (t254 == t251) = true := beq_iff_eq.mpr c105
           have c105b1 : (t254 != t251) = false := bne_eq_false_iff_eq.mpr c105
           clear c105
           replace H := Option.bind_eq_some_iff.mp H
           obtain ⟨⟨t255, t256, t259⟩, A1060, H⟩ := H
           replace H : ((impl_ComplementOf.f kj63 t255 t256 t259).bind fun bt262 => ((laws_eqAutomaton.f kj63 bt262.1 bt262.2.1 bt262.2.2.1 t212 t213 t216).bind fun t271 => (if t271 = true then (laws_FnExactComplementOf.j2 kj63 t251 (bt262.2.2.2 != t219) t229 t252 t253) else (laws_FnExactComplementOf.j2 kj63 t251 true t229 t252 t253)))) = some r := H
           have A106 := Aside0.mk A1060
           clear A1060
           replace H := Option.bind_eq_some_iff.mp H
           obtain ⟨⟨t262, t263, t266, t269⟩, A1070, H⟩ := H
           replace H : ((laws_eqAutomaton.f kj63 t262 t263 t266 t212 t213 t216).bind fun t271 => (if t271 = true then (laws_FnExactComplementOf.j2 kj63 t251 (t269 != t219) t229 t252 t253) else (laws_FnExactComplementOf.j2 kj63 t251 true t229 t252 t253))) = some r := H
           have A107 := Aside0.mk A1070
           clear A1070
           have HC108 := Aside0.mk H
           clear H
           have hnb109 := NB237_203.out
           have hnc109 := NB203_237.out
           have hnb110 := NB237_220.out
           have hnc110 := NB220_237.out
           have hnb111 := NB237_228.out
           have hnc111 := NB228_237.out
           have hcz112_0 : wc.cell? ⟨gb237, 0, none⟩ = some (.int .i64 t229) := (blk_cell BK237.out 0).trans rfl
           have hcz112_1 : wc.cell? ⟨gb237, 1, none⟩ = some (.slice Ao39 t230.length co39) := (blk_cell BK237.out 1).trans rfl
           have hcz112_2 : wc.cell? ⟨gb237, 2, none⟩ = some (.slice Ao40 t233.length co40) := (blk_cell BK237.out 2).trans rfl
           have hfz112_0 := blk_frozen BK237.out 0
           have hfz112_1 := blk_frozen BK237.out 1
           have hfz112_2 := blk_frozen BK237.out 2
           go_upto_region 25 with (first | ((with_reducible refine gate_callee (f := 20) rfl ?_); refine goesL_ (some 64) rfl rfl Try.func20 (by kernel_rfl) rfl #[.agg #[.int .i64 t229, .slice Ao39 t230.length co39, .slice Ao40 t233.length co40], .int .i64 1] rfl (by (try simp only [List.map_toArray, List.map_cons, List.map_nil]); first | done | rfl | (simp only [Base.w64_u8]; rfl) | (simp only [List.length_drop, List.length_take]; rfl)) ?_; (with_reducible refine (laws_markAutomaton.calls kj63 t229 (fun k_ => some k_ = (.slice Ao39 t230.length co39 : Value).ownBlock) (.slice Ao39 t230.length co39) t230 (fun k_ => some k_ = (.slice Ao40 t233.length co40 : Value).ownBlock) (.slice Ao40 t233.length co40) t233 1 t251 t252 t253 w _ ?side1 ?side2 ?side3 A95.out).mono ?_); (case side1 => repeat (first | (with_reducible first | exact HB.out | apply below_alloc | apply pw_below_drewN | apply below_drew1 | refine below_set ?_ GE203.out | refine below_set ?_ GE220.out | refine below_set ?_ GE228.out | refine below_set ?_ GE237.out) | exact HB.out)); (case side2 => exact Kd.R_tight rfl HO_238001.out); (case side3 => exact Kd.R_tight rfl HO_238002.out); rintro e w113 ⟨rfl, hy0, hy1, hb, hkp⟩; refine ⟨_, rfl, ?_⟩; have n0_ := Aside0.mk (Kd.R_mono (ok' := fun k_ => some k_ ≠ (.slice Ao31 t248.length co31 : Value).ownBlock ∧ some k_ ≠ (.slice Ao39 t230.length co39 : Value).ownBlock) (Kd.R_keptB ((Kd.R_apart' HO_221001.out (Kd.R_typed HO_238002.out) (by decide))) hkp (fun k_ hk_ hs_ => Or.elim hs_ (fun e_ => (hk_.1.2) e_) (fun e_ => (hk_.2) e_))) (fun k_ hk_ => ⟨hk_.1.1.1, hk_.1.1.2⟩)); have n1_ := Aside0.mk (Kd.R_mono (ok' := fun k_ => some k_ ≠ (.slice Ao32 t249.length co32 : Value).ownBlock ∧ some k_ ≠ (.slice Ao40 t233.length co40 : Value).ownBlock) (Kd.R_keptB ((Kd.R_apart' HO_221002.out (Kd.R_typed HO_238001.out) (by decide))) hkp (fun k_ hk_ hs_ => Or.elim hs_ (fun e_ => (hk_.2) e_) (fun e_ => (hk_.1.2) e_))) (fun k_ hk_ => ⟨hk_.1.1.1, hk_.1.1.2⟩)); have n2_ := Aside0.mk (Kd.R_mono (ok' := fun k_ => some k_ ≠ (.slice Ao23 t213.length co23 : Value).ownBlock ∧ some k_ ≠ (.slice Ao39 t230.length co39 : Value).ownBlock) (Kd.R_keptB ((Kd.R_apart' HO_229001.out (Kd.R_typed HO_238002.out) (by decide))) hkp (fun k_ hk_ hs_ => Or.elim hs_ (fun e_ => (hk_.1.2) e_) (fun e_ => (hk_.2) e_))) (fun k_ hk_ => ⟨hk_.1.1.1, hk_.1.1.2⟩)); have n3_ := Aside0.mk (Kd.R_mono (ok' := fun k_ => some k_ ≠ (.slice Ao24 t216.length co24 : Value).ownBlock ∧ some k_ ≠ (.slice Ao40 t233.length co40 : Value).ownBlock) (Kd.R_keptB ((Kd.R_apart' HO_229002.out (Kd.R_typed HO_238001.out) (by decide))) hkp (fun k_ hk_ hs_ => Or.elim hs_ (fun e_ => (hk_.2) e_) (fun e_ => (hk_.1.2) e_))) (fun k_ hk_ => ⟨hk_.1.1.1, hk_.1.1.2⟩)); have n4_ := Aside0.mk (Kd.R_reok rfl hy0 (fun k_ e_ => HO_238001.out.1 k_ e_)); have n5_ := Aside0.mk (Kd.R_reok rfl hy1 (fun k_ e_ => HO_238002.out.1 k_ e_)); have n6_ := Aside0.mk (blk_kept (by (with_reducible repeat (first | refine blk_drewN ?_ _ | refine blk_drew ?_ | refine blk_alloc ?_ _)); exact BK203.out) hkp (fun hs_ => Or.elim hs_ (fun e_ => (fun e_ => (Kd.R_ne HO_238001.out BK203.out (by decide)) e_) e_) (fun e_ => (fun e_ => (Kd.R_ne HO_238002.out BK203.out (by decide)) e_) e_))); have n7_ := Aside0.mk (blk_kept (by (with_reducible repeat (first | refine blk_drewN ?_ _ | refine blk_drew ?_ | refine blk_alloc ?_ _)); exact BK220.out) hkp (fun hs_ => Or.elim hs_ (fun e_ => (fun e_ => (Kd.R_ne HO_238001.out BK220.out (by decide)) e_) e_) (fun e_ => (fun e_ => (Kd.R_ne HO_238002.out BK220.out (by decide)) e_) e_))); have n8_ := Aside0.mk (blk_kept (by (with_reducible repeat (first | refine blk_drewN ?_ _ | refine blk_drew ?_ | refine blk_alloc ?_ _)); exact BK228.out) hkp (fun hs_ => Or.elim hs_ (fun e_ => (fun e_ => (Kd.R_ne HO_238001.out BK228.out (by decide)) e_) e_) (fun e_ => (fun e_ => (Kd.R_ne HO_238002.out BK228.out (by decide)) e_) e_))); have n9_ := Aside0.mk (blk_kept (by (with_reducible repeat (first | refine blk_drewN ?_ _ | refine blk_drew ?_ | refine blk_alloc ?_ _)); exact BK237.out) hkp (fun hs_ => Or.elim hs_ (fun e_ => (fun e_ => (Kd.R_ne HO_238001.out BK237.out (by decide)) e_) e_) (fun e_ => (fun e_ => (Kd.R_ne HO_238002.out BK237.out (by decide)) e_) e_))); have n10_ := Aside0.mk (hb); clear HO_221001; clear HO_221002; clear HO_229001; clear HO_229002; clear HO_238001; clear HO_238002; clear BK203; clear BK220; clear BK228; clear BK237; clear HB; have HO_221001 := n0_; have HO_221002 := n1_; have HO_229001 := n2_; have HO_229002 := n3_; have HO_238001 := n4_; have HO_238002 := n5_; have BK203 := n6_; have BK220 := n7_; have BK228 := n8_; have BK237 := n9_; have HB := n10_; clear n0_ n1_ n2_ n3_ n4_ n5_ n6_ n7_ n8_ n9_ n10_; (try clear hb); (try clear hkp); (try clear hy0); (try clear hy1); have hcz114_0 : w113.cell? ⟨gb237, 0, none⟩ = some (.int .i64 t229) := (blk_cell BK237.out 0).trans rfl; have hcz114_1 : w113.cell? ⟨gb237, 1, none⟩ = some (.slice Ao39 t230.length co39) := (blk_cell BK237.out 1).trans rfl; have hcz114_2 : w113.cell? ⟨gb237, 2, none⟩ = some (.slice Ao40 t233.length co40) := (blk_cell BK237.out 2).trans rfl; have hfz114_0 := blk_frozen BK237.out 0; have hfz114_1 := blk_frozen BK237.out 1; have hfz114_2 := blk_frozen BK237.out 2) | ((with_reducible refine gate_callee (f := 21) rfl ?_); refine goesL_ (some 67) rfl rfl Try.func21 (by kernel_rfl) rfl #[.agg #[.int .i64 t229, .slice Ao39 t252.length co39, .slice Ao40 t253.length co40], .int .i64 1] rfl (by (try simp only [List.map_toArray, List.map_cons, List.map_nil]); first | done | (rw [show t252.length = t230.length from (Kd.R_reads' HO_238001.out).1.symm, show t253.length = t233.length from (Kd.R_reads' HO_238002.out).1.symm] <;> rfl) | rfl | (simp only [List.length_drop, List.length_take]; rfl)) ?_; (with_reducible refine (laws_heldAutomaton.calls kj63 t229 _ _ t252 _ _ t253 1 t254 _ ?side1 ?side2 ?side3 ?side4 A96.out).mono ?_); (case side1 => repeat (first | exact (Kd.R_reads' HO_238001.out).2.2 | (with_reducible refine Kd.C_alloc ?_ _) | (with_reducible refine Kd.C_drewN ?_ _) | (with_reducible refine Kd.C_drew ?_))); (case side2 => rw [show t252.length = t230.length from (Kd.R_reads' HO_238001.out).1.symm]; exact (Kd.R_reads' HO_238001.out).2.1); (case side3 => repeat (first | exact (Kd.R_reads' HO_238002.out).2.2 | (with_reducible refine Kd.C_alloc ?_ _) | (with_reducible refine Kd.C_drewN ?_ _) | (with_reducible refine Kd.C_drew ?_))); (case side4 => rw [show t253.length = t233.length from (Kd.R_reads' HO_238002.out).1.symm]; exact (Kd.R_reads' HO_238002.out).2.1); rintro e w115 ⟨rfl, hb⟩; refine ⟨_, rfl, ?_⟩; have n0_ := Aside0.mk (Kd.R_below (by (with_reducible repeat (first | apply Kd.R_alloc | apply Kd.R_drewN | apply Kd.R_drew)); exact HO_221001.out) hb); have n1_ := Aside0.mk (Kd.R_below (by (with_reducible repeat (first | apply Kd.R_alloc | apply Kd.R_drewN | apply Kd.R_drew)); exact HO_221002.out) hb); have n2_ := Aside0.mk (Kd.R_below (by (with_reducible repeat (first | apply Kd.R_alloc | apply Kd.R_drewN | apply Kd.R_drew)); exact HO_229001.out) hb); have n3_ := Aside0.mk (Kd.R_below (by (with_reducible repeat (first | apply Kd.R_alloc | apply Kd.R_drewN | apply Kd.R_drew)); exact HO_229002.out) hb); have n4_ := Aside0.mk (Kd.R_below (by (with_reducible repeat (first | apply Kd.R_alloc | apply Kd.R_drewN | apply Kd.R_drew)); exact HO_238001.out) hb); have n5_ := Aside0.mk (Kd.R_below (by (with_reducible repeat (first | apply Kd.R_alloc | apply Kd.R_drewN | apply Kd.R_drew)); exact HO_238002.out) hb); have n6_ := Aside0.mk (blk_below (g := gb203) (o := .cells #[.int .i64 a0_0, .slice A0_1 l0_1.length c0_1, .slice A0_2 l0_2.length c0_2] 25 (0, 0)) (by (with_reducible repeat (first | refine blk_drewN ?_ _ | refine blk_drew ?_ | refine blk_alloc ?_ _)); exact BK203.out) hb); have n7_ := Aside0.mk (blk_below (g := gb220) (o := .cells #[.int .i64 t212, .slice Ao23 t213.length co23, .slice Ao24 t216.length co24] 27 (0, 0)) (by (with_reducible repeat (first | refine blk_drewN ?_ _ | refine blk_drew ?_ | refine blk_alloc ?_ _)); exact BK220.out) hb); have n8_ := Aside0.mk (blk_below (g := gb228) (o := .cells #[.int .i64 t221, .slice Ao31 t248.length co31, .slice Ao32 t249.length co32] 27 (0, 0)) (by (with_reducible repeat (first | refine blk_drewN ?_ _ | refine blk_drew ?_ | refine blk_alloc ?_ _)); exact BK228.out) hb); have n9_ := Aside0.mk (blk_below (g := gb237) (o := .cells #[.int .i64 t229, .slice Ao39 t230.length co39, .slice Ao40 t233.length co40] 27 (0, 0)) (by (with_reducible repeat (first | refine blk_drewN ?_ _ | refine blk_drew ?_ | refine blk_alloc ?_ _)); exact BK237.out) hb); have n10_ := Aside0.mk (below_step (by repeat (first | (with_reducible first | exact HB.out | apply below_alloc | apply pw_below_drewN | apply below_drew1 | refine below_set ?_ GE203.out | refine below_set ?_ GE220.out | refine below_set ?_ GE228.out | refine below_set ?_ GE237.out) | exact HB.out)) hb); clear HO_221001; clear HO_221002; clear HO_229001; clear HO_229002; clear HO_238001; clear HO_238002; clear BK203; clear BK220; clear BK228; clear BK237; clear HB; have HO_221001 := n0_; have HO_221002 := n1_; have HO_229001 := n2_; have HO_229002 := n3_; have HO_238001 := n4_; have HO_238002 := n5_; have BK203 := n6_; have BK220 := n7_; have BK228 := n8_; have BK237 := n9_; have HB := n10_; clear n0_ n1_ n2_ n3_ n4_ n5_ n6_ n7_ n8_ n9_ n10_; (try clear hb); (try clear hb2); (try clear hk); (try clear hi); have hnb116 := NB203_220.out; have hnc116 := NB220_203.out; have hnb117 := NB203_228.out; have hnc117 := NB228_203.out; have hcz118_0 : w115.cell? ⟨gb203, 0, none⟩ = some (.int .i64 a0_0) := (blk_cell BK203.out 0).trans rfl; have hcz118_1 : w115.cell? ⟨gb203, 1, none⟩ = some (.slice A0_1 l0_1.length c0_1) := (blk_cell BK203.out 1).trans rfl; have hcz118_2 : w115.cell? ⟨gb203, 2, none⟩ = some (.slice A0_2 l0_2.length c0_2) := (blk_cell BK203.out 2).trans rfl; have hfz118_0 := blk_frozen BK203.out 0; have hfz118_1 := blk_frozen BK203.out 1; have hfz118_2 := blk_frozen BK203.out 2) | ((with_reducible refine gate_callee (f := 17) rfl ?_); refine goesL_ (some 75) rfl rfl Try.func17 (by kernel_rfl) rfl #[.agg #[.int .i64 a0_0, .slice A0_1 l0_1.length c0_1, .slice A0_2 l0_2.length c0_2]] rfl (by (try simp only [List.map_toArray, List.map_cons, List.map_nil]); first | done | rfl | (simp only [Base.w64_u8]; rfl) | (simp only [List.length_drop, List.length_take]; rfl)) ?_; (with_reducible refine (laws_toAutomaton.calls kj63 a0_0 _ _ l0_1 _ _ l0_2 t255 t256 t259 _ ?side1 ?side2 ?side3 ?side4 A106.out).mono ?_); (case side1 => repeat (first | exact (Kd.C_below HR0_1.out HB.out) | (with_reducible refine Kd.C_alloc ?_ _) | (with_reducible refine Kd.C_drewN ?_ _) | (with_reducible refine Kd.C_drew ?_))); (case side2 => exact HC0_1.out); (case side3 => repeat (first | exact (Kd.C_below HR0_2.out HB.out) | (with_reducible refine Kd.C_alloc ?_ _) | (with_reducible refine Kd.C_drewN ?_ _) | (with_reducible refine Kd.C_drew ?_))); (case side4 => exact HC0_2.out); rintro e w119 ⟨v257, v260, rfl, ho0, ho1, hb⟩; refine ⟨_, rfl, ?_⟩; have n0_ := Aside0.mk (Kd.R_elder' (by (with_reducible repeat (first | apply Kd.R_alloc | apply Kd.R_drewN | apply Kd.R_drew)); exact HO_221001.out) (Kd.R_base ho0) hb); have n1_ := Aside0.mk (Kd.R_elder' (by (with_reducible repeat (first | apply Kd.R_alloc | apply Kd.R_drewN | apply Kd.R_drew)); exact HO_221002.out) (Kd.R_base ho1) hb); have n2_ := Aside0.mk (Kd.R_elder' (by (with_reducible repeat (first | apply Kd.R_alloc | apply Kd.R_drewN | apply Kd.R_drew)); exact HO_229001.out) (Kd.R_base ho0) hb); have n3_ := Aside0.mk (Kd.R_elder' (by (with_reducible repeat (first | apply Kd.R_alloc | apply Kd.R_drewN | apply Kd.R_drew)); exact HO_229002.out) (Kd.R_base ho1) hb); have n4_ := Aside0.mk (Kd.R_elder' (by (with_reducible repeat (first | apply Kd.R_alloc | apply Kd.R_drewN | apply Kd.R_drew)); exact HO_238001.out) (Kd.R_base ho0) hb); have n5_ := Aside0.mk (Kd.R_elder' (by (with_reducible repeat (first | apply Kd.R_alloc | apply Kd.R_drewN | apply Kd.R_drew)); exact HO_238002.out) (Kd.R_base ho1) hb); have n6_ := Aside0.mk (Kd.R_lower (Kd.R_new' (Kd.R_new' (Kd.R_new' ho0 (Kd.R_lt (by (with_reducible repeat (first | apply Kd.R_alloc | apply Kd.R_drewN | apply Kd.R_drew)); exact HO_221001.out))) (Kd.R_lt (by (with_reducible repeat (first | apply Kd.R_alloc | apply Kd.R_drewN | apply Kd.R_drew)); exact HO_229001.out))) (Kd.R_lt (by (with_reducible repeat (first | apply Kd.R_alloc | apply Kd.R_drewN | apply Kd.R_drew)); exact HO_238001.out))) (below_size (by repeat (first | (with_reducible first | exact HB.out | apply below_alloc | apply pw_below_drewN | apply below_drew1 | refine below_set ?_ GE203.out | refine below_set ?_ GE220.out | refine below_set ?_ GE228.out | refine below_set ?_ GE237.out) | exact HB.out)))); have n7_ := Aside0.mk (Kd.R_lower (Kd.R_new' (Kd.R_new' (Kd.R_new' ho1 (Kd.R_lt (by (with_reducible repeat (first | apply Kd.R_alloc | apply Kd.R_drewN | apply Kd.R_drew)); exact HO_221002.out))) (Kd.R_lt (by (with_reducible repeat (first | apply Kd.R_alloc | apply Kd.R_drewN | apply Kd.R_drew)); exact HO_229002.out))) (Kd.R_lt (by (with_reducible repeat (first | apply Kd.R_alloc | apply Kd.R_drewN | apply Kd.R_drew)); exact HO_238002.out))) (below_size (by repeat (first | (with_reducible first | exact HB.out | apply below_alloc | apply pw_below_drewN | apply below_drew1 | refine below_set ?_ GE203.out | refine below_set ?_ GE220.out | refine below_set ?_ GE228.out | refine below_set ?_ GE237.out) | exact HB.out)))); have n8_ := Aside0.mk (blk_below (g := gb203) (o := .cells #[.int .i64 a0_0, .slice A0_1 l0_1.length c0_1, .slice A0_2 l0_2.length c0_2] 25 (0, 0)) (by (with_reducible repeat (first | refine blk_drewN ?_ _ | refine blk_drew ?_ | refine blk_alloc ?_ _)); exact BK203.out) hb); have n9_ := Aside0.mk (blk_below (g := gb220) (o := .cells #[.int .i64 t212, .slice Ao23 t213.length co23, .slice Ao24 t216.length co24] 27 (0, 0)) (by (with_reducible repeat (first | refine blk_drewN ?_ _ | refine blk_drew ?_ | refine blk_alloc ?_ _)); exact BK220.out) hb); have n10_ := Aside0.mk (blk_below (g := gb228) (o := .cells #[.int .i64 t221, .slice Ao31 t248.length co31, .slice Ao32 t249.length co32] 27 (0, 0)) (by (with_reducible repeat (first | refine blk_drewN ?_ _ | refine blk_drew ?_ | refine blk_alloc ?_ _)); exact BK228.out) hb); have n11_ := Aside0.mk (blk_below (g := gb237) (o := .cells #[.int .i64 t229, .slice Ao39 t230.length co39, .slice Ao40 t233.length co40] 27 (0, 0)) (by (with_reducible repeat (first | refine blk_drewN ?_ _ | refine blk_drew ?_ | refine blk_alloc ?_ _)); exact BK237.out) hb); have n12_ := Aside0.mk (below_step (by repeat (first | (with_reducible first | exact HB.out | apply below_alloc | apply pw_below_drewN | apply below_drew1 | refine below_set ?_ GE203.out | refine below_set ?_ GE220.out | refine below_set ?_ GE228.out | refine below_set ?_ GE237.out) | exact HB.out)) hb); clear HO_221001; clear HO_221002; clear HO_229001; clear HO_229002; clear HO_238001; clear HO_238002; clear BK203; clear BK220; clear BK228; clear BK237; clear HB; have HO_221001 := n0_; have HO_221002 := n1_; have HO_229001 := n2_; have HO_229002 := n3_; have HO_238001 := n4_; have HO_238002 := n5_; have HO258 := n6_; have HO261 := n7_; have BK203 := n8_; have BK220 := n9_; have BK228 := n10_; have BK237 := n11_; have HB := n12_; clear n0_ n1_ n2_ n3_ n4_ n5_ n6_ n7_ n8_ n9_ n10_ n11_ n12_; (try clear hb); (try clear hb2); (try clear hk); (try clear hi); (try clear ho0); (try clear ho1); obtain ⟨Ao120, co120, eo120⟩ := Kd.R_slice HO258.out; subst eo120; obtain ⟨Ao121, co121, eo121⟩ := Kd.R_slice HO261.out; subst eo121) | ((with_reducible refine gate_callee (f := 18) rfl ?_); refine goesL_ (some 76) rfl rfl Try.func18 (by kernel_rfl) rfl #[.agg #[.int .i64 t255, .slice Ao120 t256.length co120, .slice Ao121 t259.length co121]] rfl (by (try simp only [List.map_toArray, List.map_cons, List.map_nil]); first | done | rfl | (simp only [Base.w64_u8]; rfl) | (simp only [List.length_drop, List.length_take]; rfl)) ?_; (with_reducible refine (impl_ComplementOf.calls kj63 t255 _ _ t256 _ _ t259 t262 t263 t266 t269 _ ?side1 ?side2 ?side3 ?side4 A107.out).mono ?_); (case side1 => repeat (first | exact (Kd.R_reads' HO258.out).2.2 | (with_reducible refine Kd.C_alloc ?_ _) | (with_reducible refine Kd.C_drewN ?_ _) | (with_reducible refine Kd.C_drew ?_))); (case side2 => exact (Kd.R_reads' HO258.out).2.1); (case side3 => repeat (first | exact (Kd.R_reads' HO261.out).2.2 | (with_reducible refine Kd.C_alloc ?_ _) | (with_reducible refine Kd.C_drewN ?_ _) | (with_reducible refine Kd.C_drew ?_))); (case side4 => exact (Kd.R_reads' HO261.out).2.1); rintro e w122 ⟨v264, v267, rfl, ho0, ho1, hb⟩; refine ⟨_, rfl, ?_⟩; have n0_ := Aside0.mk (Kd.R_elder' (by (with_reducible repeat (first | apply Kd.R_alloc | apply Kd.R_drewN | apply Kd.R_drew)); exact HO_221001.out) (Kd.R_base ho0) hb); have n1_ := Aside0.mk (Kd.R_elder' (by (with_reducible repeat (first | apply Kd.R_alloc | apply Kd.R_drewN | apply Kd.R_drew)); exact HO_221002.out) (Kd.R_base ho1) hb); have n2_ := Aside0.mk (Kd.R_elder' (by (with_reducible repeat (first | apply Kd.R_alloc | apply Kd.R_drewN | apply Kd.R_drew)); exact HO_229001.out) (Kd.R_base ho0) hb); have n3_ := Aside0.mk (Kd.R_elder' (by (with_reducible repeat (first | apply Kd.R_alloc | apply Kd.R_drewN | apply Kd.R_drew)); exact HO_229002.out) (Kd.R_base ho1) hb); have n4_ := Aside0.mk (Kd.R_elder' (by (with_reducible repeat (first | apply Kd.R_alloc | apply Kd.R_drewN | apply Kd.R_drew)); exact HO_238001.out) (Kd.R_base ho0) hb); have n5_ := Aside0.mk (Kd.R_elder' (by (with_reducible repeat (first | apply Kd.R_alloc | apply Kd.R_drewN | apply Kd.R_drew)); exact HO_238002.out) (Kd.R_base ho1) hb); have n6_ := Aside0.mk (Kd.R_elder' (by (with_reducible repeat (first | apply Kd.R_alloc | apply Kd.R_drewN | apply Kd.R_drew)); exact HO258.out) (Kd.R_base ho0) hb); have n7_ := Aside0.mk (Kd.R_elder' (by (with_reducible repeat (first | apply Kd.R_alloc | apply Kd.R_drewN | apply Kd.R_drew)); exact HO261.out) (Kd.R_base ho1) hb); have n8_ := Aside0.mk (Kd.R_lower (Kd.R_new' (Kd.R_new' (Kd.R_new' (Kd.R_new' ho0 (Kd.R_lt (by (with_reducible repeat (first | apply Kd.R_alloc | apply Kd.R_drewN | apply Kd.R_drew)); exact HO_221001.out))) (Kd.R_lt (by (with_reducible repeat (first | apply Kd.R_alloc | apply Kd.R_drewN | apply Kd.R_drew)); exact HO_229001.out))) (Kd.R_lt (by (with_reducible repeat (first | apply Kd.R_alloc | apply Kd.R_drewN | apply Kd.R_drew)); exact HO_238001.out))) (Kd.R_lt (by (with_reducible repeat (first | apply Kd.R_alloc | apply Kd.R_drewN | apply Kd.R_drew)); exact HO258.out))) (below_size (by repeat (first | (with_reducible first | exact HB.out | apply below_alloc | apply pw_below_drewN | apply below_drew1 | refine below_set ?_ GE203.out | refine below_set ?_ GE220.out | refine below_set ?_ GE228.out | refine below_set ?_ GE237.out) | exact HB.out)))); have n9_ := Aside0.mk (Kd.R_lower (Kd.R_new' (Kd.R_new' (Kd.R_new' (Kd.R_new' ho1 (Kd.R_lt (by (with_reducible repeat (first | apply Kd.R_alloc | apply Kd.R_drewN | apply Kd.R_drew)); exact HO_221002.out))) (Kd.R_lt (by (with_reducible repeat (first | apply Kd.R_alloc | apply Kd.R_drewN | apply Kd.R_drew)); exact HO_229002.out))) (Kd.R_lt (by (with_reducible repeat (first | apply Kd.R_alloc | apply Kd.R_drewN | apply Kd.R_drew)); exact HO_238002.out))) (Kd.R_lt (by (with_reducible repeat (first | apply Kd.R_alloc | apply Kd.R_drewN | apply Kd.R_drew)); exact HO261.out))) (below_size (by repeat (first | (with_reducible first | exact HB.out | apply below_alloc | apply pw_below_drewN | apply below_drew1 | refine below_set ?_ GE203.out | refine below_set ?_ GE220.out | refine below_set ?_ GE228.out | refine below_set ?_ GE237.out) | exact HB.out)))); have n10_ := Aside0.mk (blk_below (g := gb203) (o := .cells #[.int .i64 a0_0, .slice A0_1 l0_1.length c0_1, .slice A0_2 l0_2.length c0_2] 25 (0, 0)) (by (with_reducible repeat (first | refine blk_drewN ?_ _ | refine blk_drew ?_ | refine blk_alloc ?_ _)); exact BK203.out) hb); have n11_ := Aside0.mk (blk_below (g := gb220) (o := .cells #[.int .i64 t212, .slice Ao23 t213.length co23, .slice Ao24 t216.length co24] 27 (0, 0)) (by (with_reducible repeat (first | refine blk_drewN ?_ _ | refine blk_drew ?_ | refine blk_alloc ?_ _)); exact BK220.out) hb); have n12_ := Aside0.mk (blk_below (g := gb228) (o := .cells #[.int .i64 t221, .slice Ao31 t248.length co31, .slice Ao32 t249.length co32] 27 (0, 0)) (by (with_reducible repeat (first | refine blk_drewN ?_ _ | refine blk_drew ?_ | refine blk_alloc ?_ _)); exact BK228.out) hb); have n13_ := Aside0.mk (blk_below (g := gb237) (o := .cells #[.int .i64 t229, .slice Ao39 t230.length co39, .slice Ao40 t233.length co40] 27 (0, 0)) (by (with_reducible repeat (first | refine blk_drewN ?_ _ | refine blk_drew ?_ | refine blk_alloc ?_ _)); exact BK237.out) hb); have n14_ := Aside0.mk (below_step (by repeat (first | (with_reducible first | exact HB.out | apply below_alloc | apply pw_below_drewN | apply below_drew1 | refine below_set ?_ GE203.out | refine below_set ?_ GE220.out | refine below_set ?_ GE228.out | refine below_set ?_ GE237.out) | exact HB.out)) hb); clear HO_221001; clear HO_221002; clear HO_229001; clear HO_229002; clear HO_238001; clear HO_238002; clear HO258; clear HO261; clear BK203; clear BK220; clear BK228; clear BK237; clear HB; have HO_221001 := n0_; have HO_221002 := n1_; have HO_229001 := n2_; have HO_229002 := n3_; have HO_238001 := n4_; have HO_238002 := n5_; have HO258 := n6_; have HO261 := n7_; have HO265 := n8_; have HO268 := n9_; have BK203 := n10_; have BK220 := n11_; have BK228 := n12_; have BK237 := n13_; have HB := n14_; clear n0_ n1_ n2_ n3_ n4_ n5_ n6_ n7_ n8_ n9_ n10_ n11_ n12_ n13_ n14_; (try clear hb); (try clear hb2); (try clear hk); (try clear hi); (try clear ho0); (try clear ho1)) | ((with_reducible refine gate_dst (N := 12) rfl ?_); refine box_event ?hg (N := 12) ?hd (cs := #[.int .i64 0, .slice none 0 0, .slice none 0 0]) (t := 27) ?hr ?_; (case hd => rfl); (case hg => rfl); (case hr => first | (go_simp; done) | (go_simp; rfl)); intro gb270 hg w123 hbox hb; have n0_ := Aside0.mk (Kd.R_below (by (with_reducible repeat (first | apply Kd.R_alloc | apply Kd.R_drewN | apply Kd.R_drew)); exact HO_221001.out) hb); have n1_ := Aside0.mk (Kd.R_below (by (with_reducible repeat (first | apply Kd.R_alloc | apply Kd.R_drewN | apply Kd.R_drew)); exact HO_221002.out) hb); have n2_ := Aside0.mk (Kd.R_below (by (with_reducible repeat (first | apply Kd.R_alloc | apply Kd.R_drewN | apply Kd.R_drew)); exact HO_229001.out) hb); have n3_ := Aside0.mk (Kd.R_below (by (with_reducible repeat (first | apply Kd.R_alloc | apply Kd.R_drewN | apply Kd.R_drew)); exact HO_229002.out) hb); have n4_ := Aside0.mk (Kd.R_below (by (with_reducible repeat (first | apply Kd.R_alloc | apply Kd.R_drewN | apply Kd.R_drew)); exact HO_238001.out) hb); have n5_ := Aside0.mk (Kd.R_below (by (with_reducible repeat (first | apply Kd.R_alloc | apply Kd.R_drewN | apply Kd.R_drew)); exact HO_238002.out) hb); have n6_ := Aside0.mk (Kd.R_below (by (with_reducible repeat (first | apply Kd.R_alloc | apply Kd.R_drewN | apply Kd.R_drew)); exact HO258.out) hb); have n7_ := Aside0.mk (Kd.R_below (by (with_reducible repeat (first | apply Kd.R_alloc | apply Kd.R_drewN | apply Kd.R_drew)); exact HO261.out) hb); have n8_ := Aside0.mk (Kd.R_below (by (with_reducible repeat (first | apply Kd.R_alloc | apply Kd.R_drewN | apply Kd.R_drew)); exact HO265.out) hb); have n9_ := Aside0.mk (Kd.R_below (by (with_reducible repeat (first | apply Kd.R_alloc | apply Kd.R_drewN | apply Kd.R_drew)); exact HO268.out) hb); have n10_ := Aside0.mk (blk_below (g := gb203) (o := .cells #[.int .i64 a0_0, .slice A0_1 l0_1.length c0_1, .slice A0_2 l0_2.length c0_2] 25 (0, 0)) (by (with_reducible repeat (first | refine blk_drewN ?_ _ | refine blk_drew ?_ | refine blk_alloc ?_ _)); exact BK203.out) hb); have n11_ := Aside0.mk (blk_below (g := gb220) (o := .cells #[.int .i64 t212, .slice Ao23 t213.length co23, .slice Ao24 t216.length co24] 27 (0, 0)) (by (with_reducible repeat (first | refine blk_drewN ?_ _ | refine blk_drew ?_ | refine blk_alloc ?_ _)); exact BK220.out) hb); have n12_ := Aside0.mk (blk_below (g := gb228) (o := .cells #[.int .i64 t221, .slice Ao31 t248.length co31, .slice Ao32 t249.length co32] 27 (0, 0)) (by (with_reducible repeat (first | refine blk_drewN ?_ _ | refine blk_drew ?_ | refine blk_alloc ?_ _)); exact BK228.out) hb); have n13_ := Aside0.mk (blk_below (g := gb237) (o := .cells #[.int .i64 t229, .slice Ao39 t230.length co39, .slice Ao40 t233.length co40] 27 (0, 0)) (by (with_reducible repeat (first | refine blk_drewN ?_ _ | refine blk_drew ?_ | refine blk_alloc ?_ _)); exact BK237.out) hb); have n14_ := Aside0.mk (below_step (by repeat (first | (with_reducible first | exact HB.out | apply below_alloc | apply pw_below_drewN | apply below_drew1 | refine below_set ?_ GE203.out | refine below_set ?_ GE220.out | refine below_set ?_ GE228.out | refine below_set ?_ GE237.out) | exact HB.out)) hb); have n15_ := Aside0.mk (hbox); have n16_ := Aside0.mk ((by rw [hg]; exact (below_size (by repeat (first | (with_reducible first | exact HB.out | apply below_alloc | apply pw_below_drewN | apply below_drew1 | refine below_set ?_ GE203.out | refine below_set ?_ GE220.out | refine below_set ?_ GE228.out | refine below_set ?_ GE237.out) | exact HB.out))) : w.heap.size ≤ gb270)); have n17_ := Aside0.mk ((by rw [hg]; exact (below_size (by repeat (first | (with_reducible first | exact HB.out | apply below_alloc | apply pw_below_drewN | apply below_drew1 | refine below_set ?_ GE203.out | refine below_set ?_ GE220.out | refine below_set ?_ GE228.out | refine below_set ?_ GE237.out) | exact HB.out))) : w.heap.size ≤ gb270)); have n18_ := Aside0.mk ((by rw [hg]; exact Nat.ne_of_lt (blk_lt (g := gb203) (o := .cells #[.int .i64 a0_0, .slice A0_1 l0_1.length c0_1, .slice A0_2 l0_2.length c0_2] 25 (0, 0)) (by (with_reducible repeat (first | refine blk_drewN ?_ _ | refine blk_drew ?_ | refine blk_alloc ?_ _)); exact BK203.out)) : gb203 ≠ gb270)); have n19_ := Aside0.mk ((by rw [hg]; exact Nat.ne_of_gt (blk_lt (g := gb203) (o := .cells #[.int .i64 a0_0, .slice A0_1 l0_1.length c0_1, .slice A0_2 l0_2.length c0_2] 25 (0, 0)) (by (with_reducible repeat (first | refine blk_drewN ?_ _ | refine blk_drew ?_ | refine blk_alloc ?_ _)); exact BK203.out)) : gb270 ≠ gb203)); have n20_ := Aside0.mk ((by rw [hg]; exact Nat.ne_of_lt (blk_lt (g := gb220) (o := .cells #[.int .i64 t212, .slice Ao23 t213.length co23, .slice Ao24 t216.length co24] 27 (0, 0)) (by (with_reducible repeat (first | refine blk_drewN ?_ _ | refine blk_drew ?_ | refine blk_alloc ?_ _)); exact BK220.out)) : gb220 ≠ gb270)); have n21_ := Aside0.mk ((by rw [hg]; exact Nat.ne_of_gt (blk_lt (g := gb220) (o := .cells #[.int .i64 t212, .slice Ao23 t213.length co23, .slice Ao24 t216.length co24] 27 (0, 0)) (by (with_reducible repeat (first | refine blk_drewN ?_ _ | refine blk_drew ?_ | refine blk_alloc ?_ _)); exact BK220.out)) : gb270 ≠ gb220)); have n22_ := Aside0.mk ((by rw [hg]; exact Nat.ne_of_lt (blk_lt (g := gb228) (o := .cells #[.int .i64 t221, .slice Ao31 t248.length co31, .slice Ao32 t249.length co32] 27 (0, 0)) (by (with_reducible repeat (first | refine blk_drewN ?_ _ | refine blk_drew ?_ | refine blk_alloc ?_ _)); exact BK228.out)) : gb228 ≠ gb270)); have n23_ := Aside0.mk ((by rw [hg]; exact Nat.ne_of_gt (blk_lt (g := gb228) (o := .cells #[.int .i64 t221, .slice Ao31 t248.length co31, .slice Ao32 t249.length co32] 27 (0, 0)) (by (with_reducible repeat (first | refine blk_drewN ?_ _ | refine blk_drew ?_ | refine blk_alloc ?_ _)); exact BK228.out)) : gb270 ≠ gb228)); have n24_ := Aside0.mk ((by rw [hg]; exact Nat.ne_of_lt (blk_lt (g := gb237) (o := .cells #[.int .i64 t229, .slice Ao39 t230.length co39, .slice Ao40 t233.length co40] 27 (0, 0)) (by (with_reducible repeat (first | refine blk_drewN ?_ _ | refine blk_drew ?_ | refine blk_alloc ?_ _)); exact BK237.out)) : gb237 ≠ gb270)); have n25_ := Aside0.mk ((by rw [hg]; exact Nat.ne_of_gt (blk_lt (g := gb237) (o := .cells #[.int .i64 t229, .slice Ao39 t230.length co39, .slice Ao40 t233.length co40] 27 (0, 0)) (by (with_reducible repeat (first | refine blk_drewN ?_ _ | refine blk_drew ?_ | refine blk_alloc ?_ _)); exact BK237.out)) : gb270 ≠ gb237)); clear HO_221001; clear HO_221002; clear HO_229001; clear HO_229002; clear HO_238001; clear HO_238002; clear HO258; clear HO261; clear HO265; clear HO268; clear BK203; clear BK220; clear BK228; clear BK237; clear HB; have HO_221001 := n0_; have HO_221002 := n1_; have HO_229001 := n2_; have HO_229002 := n3_; have HO_238001 := n4_; have HO_238002 := n5_; have HO258 := n6_; have HO261 := n7_; have HO265 := n8_; have HO268 := n9_; have BK203 := n10_; have BK220 := n11_; have BK228 := n12_; have BK237 := n13_; have HB := n14_; have BK270 := n15_; have GW270 := n16_; have GE270 := n17_; have NB203_270 := n18_; have NB270_203 := n19_; have NB220_270 := n20_; have NB270_220 := n21_; have NB228_270 := n22_; have NB270_228 := n23_; have NB237_270 := n24_; have NB270_237 := n25_; clear n0_ n1_ n2_ n3_ n4_ n5_ n6_ n7_ n8_ n9_ n10_ n11_ n12_ n13_ n14_ n15_ n16_ n17_ n18_ n19_ n20_ n21_ n22_ n23_ n24_ n25_; clear hb hbox hg; have hnb124 := NB270_203.out; have hnc124 := NB203_270.out; have hnb125 := NB270_220.out; have hnc125 := NB220_270.out; have hnb126 := NB270_228.out; have hnc126 := NB228_270.out; have hnb127 := NB270_237.out; have hnc127 := NB237_270.out; have hcz128_0 : w123.cell? ⟨gb270, 0, none⟩ = some (.int .i64 0) := (blk_cell BK270.out 0).trans rfl; have hcz128_1 : w123.cell? ⟨gb270, 1, none⟩ = some (.slice none 0 0) := (blk_cell BK270.out 1).trans rfl; have hcz128_2 : w123.cell? ⟨gb270, 2, none⟩ = some (.slice none 0 0) := (blk_cell BK270.out 2).trans rfl; have hfz128_0 := blk_frozen BK270.out 0; have hfz128_1 := blk_frozen BK270.out 1; have hfz128_2 := blk_frozen BK270.out 2; obtain ⟨Ao129, co129, eo129⟩ := Kd.R_slice HO265.out; subst eo129; obtain ⟨Ao130, co130, eo130⟩ := Kd.R_slice HO268.out; subst eo130))
           (try simp only [Act.put, List.setIfInBounds_toArray, List.set_cons_zero, List.set_cons_succ])
           go_cut [87] (fun v87 wc => ∃ (kq : Nat) (x87_107 : Bool), v87 = .bool x87_107 ∧ Aside0 (laws_FnExactComplementOf.j2 kq t251 x87_107 t229 t252 t253 = some r) ∧ Aside0 (kq ≤ kj63) ∧ Aside0 (Kd.R (Kd.int .i64) 3 wc w.heap.size (fun k_ => some k_ ≠ ((.slice Ao31 t248.length co31) : Value).ownBlock ∧ some k_ ≠ ((.slice Ao39 t230.length co39) : Value).ownBlock ∧ some k_ ≠ ((.slice Ao129 t263.length co129) : Value).ownBlock) (.slice Ao23 t213.length co23) t213) ∧ Aside0 (Kd.R Kd.bool 4 wc w.heap.size (fun k_ => some k_ ≠ ((.slice Ao32 t249.length co32) : Value).ownBlock ∧ some k_ ≠ ((.slice Ao40 t233.length co40) : Value).ownBlock ∧ some k_ ≠ ((.slice Ao130 t266.length co130) : Value).ownBlock) (.slice Ao24 t216.length co24) t216) ∧ Aside0 (Kd.R (Kd.int .i64) 3 wc w.heap.size (fun k_ => some k_ ≠ ((.slice Ao23 t213.length co23) : Value).ownBlock ∧ some k_ ≠ ((.slice Ao39 t230.length co39) : Value).ownBlock ∧ some k_ ≠ ((.slice Ao129 t263.length co129) : Value).ownBlock) (.slice Ao31 t248.length co31) t248) ∧ Aside0 (Kd.R Kd.bool 4 wc w.heap.size (fun k_ => some k_ ≠ ((.slice Ao24 t216.length co24) : Value).ownBlock ∧ some k_ ≠ ((.slice Ao40 t233.length co40) : Value).ownBlock ∧ some k_ ≠ ((.slice Ao130 t266.length co130) : Value).ownBlock) (.slice Ao32 t249.length co32) t249) ∧ Aside0 (Kd.R (Kd.int .i64) 3 wc w.heap.size (fun k_ => some k_ ≠ ((.slice Ao23 t213.length co23) : Value).ownBlock ∧ some k_ ≠ ((.slice Ao31 t248.length co31) : Value).ownBlock ∧ some k_ ≠ ((.slice Ao129 t263.length co129) : Value).ownBlock) (.slice Ao39 t230.length co39) t252) ∧ Aside0 (Kd.R Kd.bool 4 wc w.heap.size (fun k_ => some k_ ≠ ((.slice Ao24 t216.length co24) : Value).ownBlock ∧ some k_ ≠ ((.slice Ao32 t249.length co32) : Value).ownBlock ∧ some k_ ≠ ((.slice Ao130 t266.length co130) : Value).ownBlock) (.slice Ao40 t233.length co40) t253) ∧ Aside0 (Kd.R (Kd.int .i64) 3 wc w.heap.size (fun k_ => some k_ ≠ ((.slice Ao23 t213.length co23) : Value).ownBlock ∧ some k_ ≠ ((.slice Ao31 t248.length co31) : Value).ownBlock ∧ some k_ ≠ ((.slice Ao39 t230.length co39) : Value).ownBlock) (.slice Ao129 t263.length co129) t263) ∧ Aside0 (Kd.R Kd.bool 4 wc w.heap.size (fun k_ => some k_ ≠ ((.slice Ao24 t216.length co24) : Value).ownBlock ∧ some k_ ≠ ((.slice Ao32 t249.length co32) : Value).ownBlock ∧ some k_ ≠ ((.slice Ao40 t233.length co40) : Value).ownBlock) (.slice Ao130 t266.length co130) t266) ∧ Aside0 (wc.heap[gb203]? = some (.cells #[.int .i64 a0_0, (.slice A0_1 l0_1.length c0_1), (.slice A0_2 l0_2.length c0_2)] 25 (0, 0))) ∧ Aside0 (wc.heap[gb220]? = some (.cells #[.int .i64 t212, (.slice Ao23 t213.length co23), (.slice Ao24 t216.length co24)] 27 (0, 0))) ∧ Aside0 (wc.heap[gb228]? = some (.cells #[.int .i64 t221, (.slice Ao31 t248.length co31), (.slice Ao32 t249.length co32)] 27 (0, 0))) ∧ Aside0 (wc.heap[gb237]? = some (.cells #[.int .i64 t229, (.slice Ao39 t230.length co39), (.slice Ao40 t233.length co40)] 27 (0, 0))) ∧ Aside0 (wc.heap[gb270]? = some (.cells #[.int .i64 t262, (.slice Ao129 t263.length co129), (.slice Ao130 t266.length co130)] 27 (0, 0))) ∧ Aside0 (Below w.heap.size w wc))
           case first =>
            have H := HC108.out
            clear HC108
            replace H := Option.bind_eq_some_iff.mp H
            obtain ⟨t271, A1310, H⟩ := H
            replace H : (if t271 = true then (laws_FnExactComplementOf.j2 kj63 t251 (t269 != t219) t229 t252 t253) else (laws_FnExactComplementOf.j2 kj63 t251 true t229 t252 t253)) = some r := H
            have A131 := Aside0.mk A1310
            clear A1310
            by_cases c132 : t271 = true
            ·subst c132
             have H1 : (laws_FnExactComplementOf.j2 kj63 t251 (t269 != t219) t229 t252 t253) = some r := by rw [if_pos rfl] at H; exact H
             clear H
             have H := H1
             clear H1
             have H' := Aside0.mk H
             clear H
             have hnb133 := NB270_203.out
             have hnc133 := NB203_270.out
             have hnb134 := NB270_220.out
             have hnc134 := NB220_270.out
             have hnb135 := NB270_228.out
             have hnc135 := NB228_270.out
             have hnb136 := NB270_237.out
             have hnc136 := NB237_270.out
             have hcz137_0 : w123.cell? ⟨gb270, 0, none⟩ = some (.int .i64 0) := (blk_cell BK270.out 0).trans rfl
             have hcz137_1 : w123.cell? ⟨gb270, 1, none⟩ = some (.slice none 0 0) := (blk_cell BK270.out 1).trans rfl
             have hcz137_2 : w123.cell? ⟨gb270, 2, none⟩ = some (.slice none 0 0) := (blk_cell BK270.out 2).trans rfl
             have hfz137_0 := blk_frozen BK270.out 0
             have hfz137_1 := blk_frozen BK270.out 1
             have hfz137_2 := blk_frozen BK270.out 2
             have hnb138 := NB220_203.out
             have hnc138 := NB203_220.out
             have hnb139 := NB220_228.out
             have hnc139 := NB228_220.out
             have hnb140 := NB220_237.out
             have hnc140 := NB237_220.out
             have hcz141_0 : w123.cell? ⟨gb220, 0, none⟩ = some (.int .i64 t212) := (blk_cell BK220.out 0).trans rfl
             have hcz141_1 : w123.cell? ⟨gb220, 1, none⟩ = some (.slice Ao23 t213.length co23) := (blk_cell BK220.out 1).trans rfl
             have hcz141_2 : w123.cell? ⟨gb220, 2, none⟩ = some (.slice Ao24 t216.length co24) := (blk_cell BK220.out 2).trans rfl
             have hfz141_0 := blk_frozen BK220.out 0
             have hfz141_1 := blk_frozen BK220.out 1
             have hfz141_2 := blk_frozen BK220.out 2
             go_wp2_with (first | ((with_reducible refine gate_callee (f := 19) rfl ?_); refine goesL_ (some 81) rfl rfl Try.func19 (by kernel_rfl) rfl #[.agg #[.int .i64 t262, .slice Ao129 t263.length co129, .slice Ao130 t266.length co130], .agg #[.int .i64 t212, .slice Ao23 t213.length co23, .slice Ao24 t216.length co24]] rfl (by (try simp only [List.map_toArray, List.map_cons, List.map_nil]); first | done | rfl | (simp only [Base.w64_u8]; rfl) | (simp only [List.length_drop, List.length_take]; rfl)) ?_; (with_reducible refine (laws_eqAutomaton.calls kj63 t262 _ _ t263 _ _ t266 t212 _ _ t213 _ _ t216 true _ ?side1 ?side2 ?side3 ?side4 ?side5 ?side6 ?side7 ?side8 A131.out).mono ?_); (case side1 => refine (Kd.R_reads' (e := 3) (base := w.heap.size) (ok := fun k_ => ((((True ∧ some k_ ≠ (.slice Ao23 t213.length co23 : Value).ownBlock) ∧ some k_ ≠ (.slice Ao31 t248.length co31 : Value).ownBlock) ∧ some k_ ≠ (.slice Ao39 t230.length co39 : Value).ownBlock) ∧ some k_ ≠ (.slice Ao120 t256.length co120 : Value).ownBlock)) (n := t263.length) (c := co129) ?_).2.2; exact (by (with_reducible repeat (first | apply Kd.R_alloc | apply Kd.R_drewN | apply Kd.R_drew)); exact (Kd.R_mono (Kd.R_far (p := ⟨gb270, 2, none⟩) (Kd.R_far (p := ⟨gb270, 1, none⟩) (Kd.R_far (p := ⟨gb270, 0, none⟩) (Kd.R_types HO265.out BK270.out (by decide)) (fun _ hk => hk.2) (.int .i64 t262)) (fun _ hk => hk.2) (.slice Ao129 t263.length co129)) (fun _ hk => hk.2) (.slice Ao130 t266.length co130)) (fun _ h_ => h_.1)))); (case side2 => exact (Kd.R_reads' HO265.out).2.1); (case side3 => refine (Kd.R_reads' (e := 4) (base := w.heap.size) (ok := fun k_ => ((((True ∧ some k_ ≠ (.slice Ao24 t216.length co24 : Value).ownBlock) ∧ some k_ ≠ (.slice Ao32 t249.length co32 : Value).ownBlock) ∧ some k_ ≠ (.slice Ao40 t233.length co40 : Value).ownBlock) ∧ some k_ ≠ (.slice Ao121 t259.length co121 : Value).ownBlock)) (n := t266.length) (c := co130) ?_).2.2; exact (by (with_reducible repeat (first | apply Kd.R_alloc | apply Kd.R_drewN | apply Kd.R_drew)); exact (Kd.R_mono (Kd.R_far (p := ⟨gb270, 2, none⟩) (Kd.R_far (p := ⟨gb270, 1, none⟩) (Kd.R_far (p := ⟨gb270, 0, none⟩) (Kd.R_types HO268.out BK270.out (by decide)) (fun _ hk => hk.2) (.int .i64 t262)) (fun _ hk => hk.2) (.slice Ao129 t263.length co129)) (fun _ hk => hk.2) (.slice Ao130 t266.length co130)) (fun _ h_ => h_.1)))); (case side4 => exact (Kd.R_reads' HO268.out).2.1); (case side5 => refine (Kd.R_reads' (e := 3) (base := w.heap.size) (ok := fun k_ => (((some k_ ≠ (.slice Ao31 t248.length co31 : Value).ownBlock ∧ some k_ ≠ (.slice Ao39 t230.length co39 : Value).ownBlock) ∧ some k_ ≠ (.slice Ao120 t256.length co120 : Value).ownBlock) ∧ some k_ ≠ (.slice Ao129 t263.length co129 : Value).ownBlock)) (n := t213.length) (c := co23) ?_).2.2; exact (by (with_reducible repeat (first | apply Kd.R_alloc | apply Kd.R_drewN | apply Kd.R_drew)); exact (Kd.R_mono (Kd.R_far (p := ⟨gb270, 2, none⟩) (Kd.R_far (p := ⟨gb270, 1, none⟩) (Kd.R_far (p := ⟨gb270, 0, none⟩) (Kd.R_types HO_221001.out BK270.out (by decide)) (fun _ hk => hk.2) (.int .i64 t262)) (fun _ hk => hk.2) (.slice Ao129 t263.length co129)) (fun _ hk => hk.2) (.slice Ao130 t266.length co130)) (fun _ h_ => h_.1)))); (case side6 => exact (Kd.R_reads' HO_221001.out).2.1); (case side7 => refine (Kd.R_reads' (e := 4) (base := w.heap.size) (ok := fun k_ => (((some k_ ≠ (.slice Ao32 t249.length co32 : Value).ownBlock ∧ some k_ ≠ (.slice Ao40 t233.length co40 : Value).ownBlock) ∧ some k_ ≠ (.slice Ao121 t259.length co121 : Value).ownBlock) ∧ some k_ ≠ (.slice Ao130 t266.length co130 : Value).ownBlock)) (n := t216.length) (c := co24) ?_).2.2; exact (by (with_reducible repeat (first | apply Kd.R_alloc | apply Kd.R_drewN | apply Kd.R_drew)); exact (Kd.R_mono (Kd.R_far (p := ⟨gb270, 2, none⟩) (Kd.R_far (p := ⟨gb270, 1, none⟩) (Kd.R_far (p := ⟨gb270, 0, none⟩) (Kd.R_types HO_221002.out BK270.out (by decide)) (fun _ hk => hk.2) (.int .i64 t262)) (fun _ hk => hk.2) (.slice Ao129 t263.length co129)) (fun _ hk => hk.2) (.slice Ao130 t266.length co130)) (fun _ h_ => h_.1)))); (case side8 => exact (Kd.R_reads' HO_221002.out).2.1); rintro e w142 ⟨rfl, hb⟩; refine ⟨_, rfl, ?_⟩; have n0_ := Aside0.mk (Kd.R_below (by (with_reducible repeat (first | apply Kd.R_alloc | apply Kd.R_drewN | apply Kd.R_drew)); exact (Kd.R_mono (Kd.R_far (p := ⟨gb270, 2, none⟩) (Kd.R_far (p := ⟨gb270, 1, none⟩) (Kd.R_far (p := ⟨gb270, 0, none⟩) (Kd.R_types HO_221001.out BK270.out (by decide)) (fun _ hk => hk.2) (.int .i64 t262)) (fun _ hk => hk.2) (.slice Ao129 t263.length co129)) (fun _ hk => hk.2) (.slice Ao130 t266.length co130)) (fun _ h_ => h_.1))) hb); have n1_ := Aside0.mk (Kd.R_below (by (with_reducible repeat (first | apply Kd.R_alloc | apply Kd.R_drewN | apply Kd.R_drew)); exact (Kd.R_mono (Kd.R_far (p := ⟨gb270, 2, none⟩) (Kd.R_far (p := ⟨gb270, 1, none⟩) (Kd.R_far (p := ⟨gb270, 0, none⟩) (Kd.R_types HO_221002.out BK270.out (by decide)) (fun _ hk => hk.2) (.int .i64 t262)) (fun _ hk => hk.2) (.slice Ao129 t263.length co129)) (fun _ hk => hk.2) (.slice Ao130 t266.length co130)) (fun _ h_ => h_.1))) hb); have n2_ := Aside0.mk (Kd.R_below (by (with_reducible repeat (first | apply Kd.R_alloc | apply Kd.R_drewN | apply Kd.R_drew)); exact (Kd.R_mono (Kd.R_far (p := ⟨gb270, 2, none⟩) (Kd.R_far (p := ⟨gb270, 1, none⟩) (Kd.R_far (p := ⟨gb270, 0, none⟩) (Kd.R_types HO_229001.out BK270.out (by decide)) (fun _ hk => hk.2) (.int .i64 t262)) (fun _ hk => hk.2) (.slice Ao129 t263.length co129)) (fun _ hk => hk.2) (.slice Ao130 t266.length co130)) (fun _ h_ => h_.1))) hb); have n3_ := Aside0.mk (Kd.R_below (by (with_reducible repeat (first | apply Kd.R_alloc | apply Kd.R_drewN | apply Kd.R_drew)); exact (Kd.R_mono (Kd.R_far (p := ⟨gb270, 2, none⟩) (Kd.R_far (p := ⟨gb270, 1, none⟩) (Kd.R_far (p := ⟨gb270, 0, none⟩) (Kd.R_types HO_229002.out BK270.out (by decide)) (fun _ hk => hk.2) (.int .i64 t262)) (fun _ hk => hk.2) (.slice Ao129 t263.length co129)) (fun _ hk => hk.2) (.slice Ao130 t266.length co130)) (fun _ h_ => h_.1))) hb); have n4_ := Aside0.mk (Kd.R_below (by (with_reducible repeat (first | apply Kd.R_alloc | apply Kd.R_drewN | apply Kd.R_drew)); exact (Kd.R_mono (Kd.R_far (p := ⟨gb270, 2, none⟩) (Kd.R_far (p := ⟨gb270, 1, none⟩) (Kd.R_far (p := ⟨gb270, 0, none⟩) (Kd.R_types HO_238001.out BK270.out (by decide)) (fun _ hk => hk.2) (.int .i64 t262)) (fun _ hk => hk.2) (.slice Ao129 t263.length co129)) (fun _ hk => hk.2) (.slice Ao130 t266.length co130)) (fun _ h_ => h_.1))) hb); have n5_ := Aside0.mk (Kd.R_below (by (with_reducible repeat (first | apply Kd.R_alloc | apply Kd.R_drewN | apply Kd.R_drew)); exact (Kd.R_mono (Kd.R_far (p := ⟨gb270, 2, none⟩) (Kd.R_far (p := ⟨gb270, 1, none⟩) (Kd.R_far (p := ⟨gb270, 0, none⟩) (Kd.R_types HO_238002.out BK270.out (by decide)) (fun _ hk => hk.2) (.int .i64 t262)) (fun _ hk => hk.2) (.slice Ao129 t263.length co129)) (fun _ hk => hk.2) (.slice Ao130 t266.length co130)) (fun _ h_ => h_.1))) hb); have n6_ := Aside0.mk (Kd.R_below (by (with_reducible repeat (first | apply Kd.R_alloc | apply Kd.R_drewN | apply Kd.R_drew)); exact (Kd.R_mono (Kd.R_far (p := ⟨gb270, 2, none⟩) (Kd.R_far (p := ⟨gb270, 1, none⟩) (Kd.R_far (p := ⟨gb270, 0, none⟩) (Kd.R_types HO258.out BK270.out (by decide)) (fun _ hk => hk.2) (.int .i64 t262)) (fun _ hk => hk.2) (.slice Ao129 t263.length co129)) (fun _ hk => hk.2) (.slice Ao130 t266.length co130)) (fun _ h_ => h_.1))) hb); have n7_ := Aside0.mk (Kd.R_below (by (with_reducible repeat (first | apply Kd.R_alloc | apply Kd.R_drewN | apply Kd.R_drew)); exact (Kd.R_mono (Kd.R_far (p := ⟨gb270, 2, none⟩) (Kd.R_far (p := ⟨gb270, 1, none⟩) (Kd.R_far (p := ⟨gb270, 0, none⟩) (Kd.R_types HO261.out BK270.out (by decide)) (fun _ hk => hk.2) (.int .i64 t262)) (fun _ hk => hk.2) (.slice Ao129 t263.length co129)) (fun _ hk => hk.2) (.slice Ao130 t266.length co130)) (fun _ h_ => h_.1))) hb); have n8_ := Aside0.mk (Kd.R_below (by (with_reducible repeat (first | apply Kd.R_alloc | apply Kd.R_drewN | apply Kd.R_drew)); exact (Kd.R_mono (Kd.R_far (p := ⟨gb270, 2, none⟩) (Kd.R_far (p := ⟨gb270, 1, none⟩) (Kd.R_far (p := ⟨gb270, 0, none⟩) (Kd.R_types HO265.out BK270.out (by decide)) (fun _ hk => hk.2) (.int .i64 t262)) (fun _ hk => hk.2) (.slice Ao129 t263.length co129)) (fun _ hk => hk.2) (.slice Ao130 t266.length co130)) (fun _ h_ => h_.1))) hb); have n9_ := Aside0.mk (Kd.R_below (by (with_reducible repeat (first | apply Kd.R_alloc | apply Kd.R_drewN | apply Kd.R_drew)); exact (Kd.R_mono (Kd.R_far (p := ⟨gb270, 2, none⟩) (Kd.R_far (p := ⟨gb270, 1, none⟩) (Kd.R_far (p := ⟨gb270, 0, none⟩) (Kd.R_types HO268.out BK270.out (by decide)) (fun _ hk => hk.2) (.int .i64 t262)) (fun _ hk => hk.2) (.slice Ao129 t263.length co129)) (fun _ hk => hk.2) (.slice Ao130 t266.length co130)) (fun _ h_ => h_.1))) hb); have n10_ := Aside0.mk (blk_below (g := gb203) (o := .cells #[.int .i64 a0_0, .slice A0_1 l0_1.length c0_1, .slice A0_2 l0_2.length c0_2] 25 (0, 0)) (by (with_reducible repeat (first | refine blk_drewN ?_ _ | refine blk_drew ?_ | refine blk_alloc ?_ _)); refine blk_far ?_ NB203_270.out _; (with_reducible repeat (first | refine blk_drewN ?_ _ | refine blk_drew ?_ | refine blk_alloc ?_ _)); refine blk_far ?_ NB203_270.out _; (with_reducible repeat (first | refine blk_drewN ?_ _ | refine blk_drew ?_ | refine blk_alloc ?_ _)); refine blk_far ?_ NB203_270.out _; (with_reducible repeat (first | refine blk_drewN ?_ _ | refine blk_drew ?_ | refine blk_alloc ?_ _)); exact BK203.out) hb); have n11_ := Aside0.mk (blk_below (g := gb220) (o := .cells #[.int .i64 t212, .slice Ao23 t213.length co23, .slice Ao24 t216.length co24] 27 (0, 0)) (by (with_reducible repeat (first | refine blk_drewN ?_ _ | refine blk_drew ?_ | refine blk_alloc ?_ _)); refine blk_far ?_ NB220_270.out _; (with_reducible repeat (first | refine blk_drewN ?_ _ | refine blk_drew ?_ | refine blk_alloc ?_ _)); refine blk_far ?_ NB220_270.out _; (with_reducible repeat (first | refine blk_drewN ?_ _ | refine blk_drew ?_ | refine blk_alloc ?_ _)); refine blk_far ?_ NB220_270.out _; (with_reducible repeat (first | refine blk_drewN ?_ _ | refine blk_drew ?_ | refine blk_alloc ?_ _)); exact BK220.out) hb); have n12_ := Aside0.mk (blk_below (g := gb228) (o := .cells #[.int .i64 t221, .slice Ao31 t248.length co31, .slice Ao32 t249.length co32] 27 (0, 0)) (by (with_reducible repeat (first | refine blk_drewN ?_ _ | refine blk_drew ?_ | refine blk_alloc ?_ _)); refine blk_far ?_ NB228_270.out _; (with_reducible repeat (first | refine blk_drewN ?_ _ | refine blk_drew ?_ | refine blk_alloc ?_ _)); refine blk_far ?_ NB228_270.out _; (with_reducible repeat (first | refine blk_drewN ?_ _ | refine blk_drew ?_ | refine blk_alloc ?_ _)); refine blk_far ?_ NB228_270.out _; (with_reducible repeat (first | refine blk_drewN ?_ _ | refine blk_drew ?_ | refine blk_alloc ?_ _)); exact BK228.out) hb); have n13_ := Aside0.mk (blk_below (g := gb237) (o := .cells #[.int .i64 t229, .slice Ao39 t230.length co39, .slice Ao40 t233.length co40] 27 (0, 0)) (by (with_reducible repeat (first | refine blk_drewN ?_ _ | refine blk_drew ?_ | refine blk_alloc ?_ _)); refine blk_far ?_ NB237_270.out _; (with_reducible repeat (first | refine blk_drewN ?_ _ | refine blk_drew ?_ | refine blk_alloc ?_ _)); refine blk_far ?_ NB237_270.out _; (with_reducible repeat (first | refine blk_drewN ?_ _ | refine blk_drew ?_ | refine blk_alloc ?_ _)); refine blk_far ?_ NB237_270.out _; (with_reducible repeat (first | refine blk_drewN ?_ _ | refine blk_drew ?_ | refine blk_alloc ?_ _)); exact BK237.out) hb); have n14_ := Aside0.mk (blk_below (g := gb270) (o := .cells #[.int .i64 t262, .slice Ao129 t263.length co129, .slice Ao130 t266.length co130] 27 (0, 0)) (by (with_reducible repeat (first | refine blk_drewN ?_ _ | refine blk_drew ?_ | refine blk_alloc ?_ _)); refine blk_put (cs := #[.int .i64 t262, .slice Ao129 t263.length co129, .slice none 0 0]) ?_ 2 _ rfl; (with_reducible repeat (first | refine blk_drewN ?_ _ | refine blk_drew ?_ | refine blk_alloc ?_ _)); refine blk_put (cs := #[.int .i64 t262, .slice none 0 0, .slice none 0 0]) ?_ 1 _ rfl; (with_reducible repeat (first | refine blk_drewN ?_ _ | refine blk_drew ?_ | refine blk_alloc ?_ _)); refine blk_put (cs := #[.int .i64 0, .slice none 0 0, .slice none 0 0]) ?_ 0 _ rfl; (with_reducible repeat (first | refine blk_drewN ?_ _ | refine blk_drew ?_ | refine blk_alloc ?_ _)); exact BK270.out) hb); have n15_ := Aside0.mk (below_step (by repeat (first | (with_reducible first | exact HB.out | apply below_alloc | apply pw_below_drewN | apply below_drew1 | refine below_set ?_ GE203.out | refine below_set ?_ GE220.out | refine below_set ?_ GE228.out | refine below_set ?_ GE237.out | refine below_set ?_ GE270.out) | exact HB.out)) hb); clear HO_221001; clear HO_221002; clear HO_229001; clear HO_229002; clear HO_238001; clear HO_238002; clear HO258; clear HO261; clear HO265; clear HO268; clear BK203; clear BK220; clear BK228; clear BK237; clear BK270; clear HB; have HO_221001 := n0_; have HO_221002 := n1_; have HO_229001 := n2_; have HO_229002 := n3_; have HO_238001 := n4_; have HO_238002 := n5_; have HO258 := n6_; have HO261 := n7_; have HO265 := n8_; have HO268 := n9_; have BK203 := n10_; have BK220 := n11_; have BK228 := n12_; have BK237 := n13_; have BK270 := n14_; have HB := n15_; clear n0_ n1_ n2_ n3_ n4_ n5_ n6_ n7_ n8_ n9_ n10_ n11_ n12_ n13_ n14_ n15_; (try clear hb); (try clear hb2); (try clear hk); (try clear hi)))
             go_meet
             case rel => exact ⟨_, ((t269 != t219)), (by first | rfl | (simp; done) | (simp [*]; done)), H', ⟨by have := HJ10.out; have := HJ63.out; first | omega | exact Nat.le_refl _⟩, ⟨by (try simp only [hl229001_63]); (try simp only [hl229002_63]); (with_reducible repeat (first | apply Kd.R_alloc | apply Kd.R_drewN | apply Kd.R_drew)); exact Kd.R_mono HO_221001.out (fun _ hk => ⟨hk.1.1.1, ⟨hk.1.1.2, hk.2⟩⟩)⟩, ⟨by (try simp only [hl229001_63]); (try simp only [hl229002_63]); (with_reducible repeat (first | apply Kd.R_alloc | apply Kd.R_drewN | apply Kd.R_drew)); exact Kd.R_mono HO_221002.out (fun _ hk => ⟨hk.1.1.1, ⟨hk.1.1.2, hk.2⟩⟩)⟩, ⟨by (try simp only [hl229001_63]); (try simp only [hl229002_63]); (with_reducible repeat (first | apply Kd.R_alloc | apply Kd.R_drewN | apply Kd.R_drew)); exact Kd.R_mono HO_229001.out (fun _ hk => ⟨hk.1.1.1, ⟨hk.1.1.2, hk.2⟩⟩)⟩, ⟨by (try simp only [hl229001_63]); (try simp only [hl229002_63]); (with_reducible repeat (first | apply Kd.R_alloc | apply Kd.R_drewN | apply Kd.R_drew)); exact Kd.R_mono HO_229002.out (fun _ hk => ⟨hk.1.1.1, ⟨hk.1.1.2, hk.2⟩⟩)⟩, ⟨by (try simp only [hl229001_63]); (try simp only [hl229002_63]); (with_reducible repeat (first | apply Kd.R_alloc | apply Kd.R_drewN | apply Kd.R_drew)); exact Kd.R_mono HO_238001.out (fun _ hk => ⟨hk.1.1.1, ⟨hk.1.1.2, hk.2⟩⟩)⟩, ⟨by (try simp only [hl229001_63]); (try simp only [hl229002_63]); (with_reducible repeat (first | apply Kd.R_alloc | apply Kd.R_drewN | apply Kd.R_drew)); exact Kd.R_mono HO_238002.out (fun _ hk => ⟨hk.1.1.1, ⟨hk.1.1.2, hk.2⟩⟩)⟩, ⟨by (try simp only [hl229001_63]); (try simp only [hl229002_63]); (with_reducible repeat (first | apply Kd.R_alloc | apply Kd.R_drewN | apply Kd.R_drew)); exact Kd.R_mono HO265.out (fun _ hk => ⟨hk.1.1.1.2, ⟨hk.1.1.2, hk.1.2⟩⟩)⟩, ⟨by (try simp only [hl229001_63]); (try simp only [hl229002_63]); (with_reducible repeat (first | apply Kd.R_alloc | apply Kd.R_drewN | apply Kd.R_drew)); exact Kd.R_mono HO268.out (fun _ hk => ⟨hk.1.1.1.2, ⟨hk.1.1.2, hk.1.2⟩⟩)⟩, ⟨by (try simp only [hl229001_63]); (try simp only [hl229002_63]); (with_reducible repeat (first | refine blk_drewN ?_ _ | refine blk_drew ?_ | refine blk_alloc ?_ _)); exact BK203.out⟩, ⟨by (try simp only [hl229001_63]); (try simp only [hl229002_63]); (with_reducible repeat (first | refine blk_drewN ?_ _ | refine blk_drew ?_ | refine blk_alloc ?_ _)); exact BK220.out⟩, ⟨by (try simp only [hl229001_63]); (try simp only [hl229002_63]); (with_reducible repeat (first | refine blk_drewN ?_ _ | refine blk_drew ?_ | refine blk_alloc ?_ _)); exact BK228.out⟩, ⟨by (try simp only [hl229001_63]); (try simp only [hl229002_63]); (with_reducible repeat (first | refine blk_drewN ?_ _ | refine blk_drew ?_ | refine blk_alloc ?_ _)); exact BK237.out⟩, ⟨by (try simp only [hl229001_63]); (try simp only [hl229002_63]); (with_reducible repeat (first | refine blk_drewN ?_ _ | refine blk_drew ?_ | refine blk_alloc ?_ _)); exact BK270.out⟩, ⟨by repeat (first | (with_reducible first | exact HB.out | apply below_alloc | apply pw_below_drewN | apply below_drew1 | refine below_set ?_ GE203.out | refine below_set ?_ GE220.out | refine below_set ?_ GE228.out | refine below_set ?_ GE237.out | refine below_set ?_ GE270.out) | exact HB.out)⟩⟩
            ·replace c132 := Bool.eq_false_iff.mpr c132
             subst c132
             have H1 : (laws_FnExactComplementOf.j2 kj63 t251 true t229 t252 t253) = some r := by rw [if_neg (show ¬ (false = true) by decide)] at H; exact H
             clear H
             have H := H1
             clear H1
             have H' := Aside0.mk H
             clear H
             have hnb143 := NB270_203.out
             have hnc143 := NB203_270.out
             have hnb144 := NB270_220.out
             have hnc144 := NB220_270.out
             have hnb145 := NB270_228.out
             have hnc145 := NB228_270.out
             have hnb146 := NB270_237.out
             have hnc146 := NB237_270.out
             have hcz147_0 : w123.cell? ⟨gb270, 0, none⟩ = some (.int .i64 0) := (blk_cell BK270.out 0).trans rfl
             have hcz147_1 : w123.cell? ⟨gb270, 1, none⟩ = some (.slice none 0 0) := (blk_cell BK270.out 1).trans rfl
             have hcz147_2 : w123.cell? ⟨gb270, 2, none⟩ = some (.slice none 0 0) := (blk_cell BK270.out 2).trans rfl
             have hfz147_0 := blk_frozen BK270.out 0
             have hfz147_1 := blk_frozen BK270.out 1
             have hfz147_2 := blk_frozen BK270.out 2
             have hnb148 := NB220_203.out
             have hnc148 := NB203_220.out
             have hnb149 := NB220_228.out
             have hnc149 := NB228_220.out
             have hnb150 := NB220_237.out
             have hnc150 := NB237_220.out
             have hcz151_0 : w123.cell? ⟨gb220, 0, none⟩ = some (.int .i64 t212) := (blk_cell BK220.out 0).trans rfl
             have hcz151_1 : w123.cell? ⟨gb220, 1, none⟩ = some (.slice Ao23 t213.length co23) := (blk_cell BK220.out 1).trans rfl
             have hcz151_2 : w123.cell? ⟨gb220, 2, none⟩ = some (.slice Ao24 t216.length co24) := (blk_cell BK220.out 2).trans rfl
             have hfz151_0 := blk_frozen BK220.out 0
             have hfz151_1 := blk_frozen BK220.out 1
             have hfz151_2 := blk_frozen BK220.out 2
             go_wp2_with (first | ((with_reducible refine gate_callee (f := 19) rfl ?_); refine goesL_ (some 81) rfl rfl Try.func19 (by kernel_rfl) rfl #[.agg #[.int .i64 t262, .slice Ao129 t263.length co129, .slice Ao130 t266.length co130], .agg #[.int .i64 t212, .slice Ao23 t213.length co23, .slice Ao24 t216.length co24]] rfl (by (try simp only [List.map_toArray, List.map_cons, List.map_nil]); first | done | rfl | (simp only [Base.w64_u8]; rfl) | (simp only [List.length_drop, List.length_take]; rfl)) ?_; (with_reducible refine (laws_eqAutomaton.calls kj63 t262 _ _ t263 _ _ t266 t212 _ _ t213 _ _ t216 false _ ?side1 ?side2 ?side3 ?side4 ?side5 ?side6 ?side7 ?side8 A131.out).mono ?_); (case side1 => refine (Kd.R_reads' (e := 3) (base := w.heap.size) (ok := fun k_ => ((((True ∧ some k_ ≠ (.slice Ao23 t213.length co23 : Value).ownBlock) ∧ some k_ ≠ (.slice Ao31 t248.length co31 : Value).ownBlock) ∧ some k_ ≠ (.slice Ao39 t230.length co39 : Value).ownBlock) ∧ some k_ ≠ (.slice Ao120 t256.length co120 : Value).ownBlock)) (n := t263.length) (c := co129) ?_).2.2; exact (by (with_reducible repeat (first | apply Kd.R_alloc | apply Kd.R_drewN | apply Kd.R_drew)); exact (Kd.R_mono (Kd.R_far (p := ⟨gb270, 2, none⟩) (Kd.R_far (p := ⟨gb270, 1, none⟩) (Kd.R_far (p := ⟨gb270, 0, none⟩) (Kd.R_types HO265.out BK270.out (by decide)) (fun _ hk => hk.2) (.int .i64 t262)) (fun _ hk => hk.2) (.slice Ao129 t263.length co129)) (fun _ hk => hk.2) (.slice Ao130 t266.length co130)) (fun _ h_ => h_.1)))); (case side2 => exact (Kd.R_reads' HO265.out).2.1); (case side3 => refine (Kd.R_reads' (e := 4) (base := w.heap.size) (ok := fun k_ => ((((True ∧ some k_ ≠ (.slice Ao24 t216.length co24 : Value).ownBlock) ∧ some k_ ≠ (.slice Ao32 t249.length co32 : Value).ownBlock) ∧ some k_ ≠ (.slice Ao40 t233.length co40 : Value).ownBlock) ∧ some k_ ≠ (.slice Ao121 t259.length co121 : Value).ownBlock)) (n := t266.length) (c := co130) ?_).2.2; exact (by (with_reducible repeat (first | apply Kd.R_alloc | apply Kd.R_drewN | apply Kd.R_drew)); exact (Kd.R_mono (Kd.R_far (p := ⟨gb270, 2, none⟩) (Kd.R_far (p := ⟨gb270, 1, none⟩) (Kd.R_far (p := ⟨gb270, 0, none⟩) (Kd.R_types HO268.out BK270.out (by decide)) (fun _ hk => hk.2) (.int .i64 t262)) (fun _ hk => hk.2) (.slice Ao129 t263.length co129)) (fun _ hk => hk.2) (.slice Ao130 t266.length co130)) (fun _ h_ => h_.1)))); (case side4 => exact (Kd.R_reads' HO268.out).2.1); (case side5 => refine (Kd.R_reads' (e := 3) (base := w.heap.size) (ok := fun k_ => (((some k_ ≠ (.slice Ao31 t248.length co31 : Value).ownBlock ∧ some k_ ≠ (.slice Ao39 t230.length co39 : Value).ownBlock) ∧ some k_ ≠ (.slice Ao120 t256.length co120 : Value).ownBlock) ∧ some k_ ≠ (.slice Ao129 t263.length co129 : Value).ownBlock)) (n := t213.length) (c := co23) ?_).2.2; exact (by (with_reducible repeat (first | apply Kd.R_alloc | apply Kd.R_drewN | apply Kd.R_drew)); exact (Kd.R_mono (Kd.R_far (p := ⟨gb270, 2, none⟩) (Kd.R_far (p := ⟨gb270, 1, none⟩) (Kd.R_far (p := ⟨gb270, 0, none⟩) (Kd.R_types HO_221001.out BK270.out (by decide)) (fun _ hk => hk.2) (.int .i64 t262)) (fun _ hk => hk.2) (.slice Ao129 t263.length co129)) (fun _ hk => hk.2) (.slice Ao130 t266.length co130)) (fun _ h_ => h_.1)))); (case side6 => exact (Kd.R_reads' HO_221001.out).2.1); (case side7 => refine (Kd.R_reads' (e := 4) (base := w.heap.size) (ok := fun k_ => (((some k_ ≠ (.slice Ao32 t249.length co32 : Value).ownBlock ∧ some k_ ≠ (.slice Ao40 t233.length co40 : Value).ownBlock) ∧ some k_ ≠ (.slice Ao121 t259.length co121 : Value).ownBlock) ∧ some k_ ≠ (.slice Ao130 t266.length co130 : Value).ownBlock)) (n := t216.length) (c := co24) ?_).2.2; exact (by (with_reducible repeat (first | apply Kd.R_alloc | apply Kd.R_drewN | apply Kd.R_drew)); exact (Kd.R_mono (Kd.R_far (p := ⟨gb270, 2, none⟩) (Kd.R_far (p := ⟨gb270, 1, none⟩) (Kd.R_far (p := ⟨gb270, 0, none⟩) (Kd.R_types HO_221002.out BK270.out (by decide)) (fun _ hk => hk.2) (.int .i64 t262)) (fun _ hk => hk.2) (.slice Ao129 t263.length co129)) (fun _ hk => hk.2) (.slice Ao130 t266.length co130)) (fun _ h_ => h_.1)))); (case side8 => exact (Kd.R_reads' HO_221002.out).2.1); rintro e w152 ⟨rfl, hb⟩; refine ⟨_, rfl, ?_⟩; have n0_ := Aside0.mk (Kd.R_below (by (with_reducible repeat (first | apply Kd.R_alloc | apply Kd.R_drewN | apply Kd.R_drew)); exact (Kd.R_mono (Kd.R_far (p := ⟨gb270, 2, none⟩) (Kd.R_far (p := ⟨gb270, 1, none⟩) (Kd.R_far (p := ⟨gb270, 0, none⟩) (Kd.R_types HO_221001.out BK270.out (by decide)) (fun _ hk => hk.2) (.int .i64 t262)) (fun _ hk => hk.2) (.slice Ao129 t263.length co129)) (fun _ hk => hk.2) (.slice Ao130 t266.length co130)) (fun _ h_ => h_.1))) hb); have n1_ := Aside0.mk (Kd.R_below (by (with_reducible repeat (first | apply Kd.R_alloc | apply Kd.R_drewN | apply Kd.R_drew)); exact (Kd.R_mono (Kd.R_far (p := ⟨gb270, 2, none⟩) (Kd.R_far (p := ⟨gb270, 1, none⟩) (Kd.R_far (p := ⟨gb270, 0, none⟩) (Kd.R_types HO_221002.out BK270.out (by decide)) (fun _ hk => hk.2) (.int .i64 t262)) (fun _ hk => hk.2) (.slice Ao129 t263.length co129)) (fun _ hk => hk.2) (.slice Ao130 t266.length co130)) (fun _ h_ => h_.1))) hb); have n2_ := Aside0.mk (Kd.R_below (by (with_reducible repeat (first | apply Kd.R_alloc | apply Kd.R_drewN | apply Kd.R_drew)); exact (Kd.R_mono (Kd.R_far (p := ⟨gb270, 2, none⟩) (Kd.R_far (p := ⟨gb270, 1, none⟩) (Kd.R_far (p := ⟨gb270, 0, none⟩) (Kd.R_types HO_229001.out BK270.out (by decide)) (fun _ hk => hk.2) (.int .i64 t262)) (fun _ hk => hk.2) (.slice Ao129 t263.length co129)) (fun _ hk => hk.2) (.slice Ao130 t266.length co130)) (fun _ h_ => h_.1))) hb); have n3_ := Aside0.mk (Kd.R_below (by (with_reducible repeat (first | apply Kd.R_alloc | apply Kd.R_drewN | apply Kd.R_drew)); exact (Kd.R_mono (Kd.R_far (p := ⟨gb270, 2, none⟩) (Kd.R_far (p := ⟨gb270, 1, none⟩) (Kd.R_far (p := ⟨gb270, 0, none⟩) (Kd.R_types HO_229002.out BK270.out (by decide)) (fun _ hk => hk.2) (.int .i64 t262)) (fun _ hk => hk.2) (.slice Ao129 t263.length co129)) (fun _ hk => hk.2) (.slice Ao130 t266.length co130)) (fun _ h_ => h_.1))) hb); have n4_ := Aside0.mk (Kd.R_below (by (with_reducible repeat (first | apply Kd.R_alloc | apply Kd.R_drewN | apply Kd.R_drew)); exact (Kd.R_mono (Kd.R_far (p := ⟨gb270, 2, none⟩) (Kd.R_far (p := ⟨gb270, 1, none⟩) (Kd.R_far (p := ⟨gb270, 0, none⟩) (Kd.R_types HO_238001.out BK270.out (by decide)) (fun _ hk => hk.2) (.int .i64 t262)) (fun _ hk => hk.2) (.slice Ao129 t263.length co129)) (fun _ hk => hk.2) (.slice Ao130 t266.length co130)) (fun _ h_ => h_.1))) hb); have n5_ := Aside0.mk (Kd.R_below (by (with_reducible repeat (first | apply Kd.R_alloc | apply Kd.R_drewN | apply Kd.R_drew)); exact (Kd.R_mono (Kd.R_far (p := ⟨gb270, 2, none⟩) (Kd.R_far (p := ⟨gb270, 1, none⟩) (Kd.R_far (p := ⟨gb270, 0, none⟩) (Kd.R_types HO_238002.out BK270.out (by decide)) (fun _ hk => hk.2) (.int .i64 t262)) (fun _ hk => hk.2) (.slice Ao129 t263.length co129)) (fun _ hk => hk.2) (.slice Ao130 t266.length co130)) (fun _ h_ => h_.1))) hb); have n6_ := Aside0.mk (Kd.R_below (by (with_reducible repeat (first | apply Kd.R_alloc | apply Kd.R_drewN | apply Kd.R_drew)); exact (Kd.R_mono (Kd.R_far (p := ⟨gb270, 2, none⟩) (Kd.R_far (p := ⟨gb270, 1, none⟩) (Kd.R_far (p := ⟨gb270, 0, none⟩) (Kd.R_types HO258.out BK270.out (by decide)) (fun _ hk => hk.2) (.int .i64 t262)) (fun _ hk => hk.2) (.slice Ao129 t263.length co129)) (fun _ hk => hk.2) (.slice Ao130 t266.length co130)) (fun _ h_ => h_.1))) hb); have n7_ := Aside0.mk (Kd.R_below (by (with_reducible repeat (first | apply Kd.R_alloc | apply Kd.R_drewN | apply Kd.R_drew)); exact (Kd.R_mono (Kd.R_far (p := ⟨gb270, 2, none⟩) (Kd.R_far (p := ⟨gb270, 1, none⟩) (Kd.R_far (p := ⟨gb270, 0, none⟩) (Kd.R_types HO261.out BK270.out (by decide)) (fun _ hk => hk.2) (.int .i64 t262)) (fun _ hk => hk.2) (.slice Ao129 t263.length co129)) (fun _ hk => hk.2) (.slice Ao130 t266.length co130)) (fun _ h_ => h_.1))) hb); have n8_ := Aside0.mk (Kd.R_below (by (with_reducible repeat (first | apply Kd.R_alloc | apply Kd.R_drewN | apply Kd.R_drew)); exact (Kd.R_mono (Kd.R_far (p := ⟨gb270, 2, none⟩) (Kd.R_far (p := ⟨gb270, 1, none⟩) (Kd.R_far (p := ⟨gb270, 0, none⟩) (Kd.R_types HO265.out BK270.out (by decide)) (fun _ hk => hk.2) (.int .i64 t262)) (fun _ hk => hk.2) (.slice Ao129 t263.length co129)) (fun _ hk => hk.2) (.slice Ao130 t266.length co130)) (fun _ h_ => h_.1))) hb); have n9_ := Aside0.mk (Kd.R_below (by (with_reducible repeat (first | apply Kd.R_alloc | apply Kd.R_drewN | apply Kd.R_drew)); exact (Kd.R_mono (Kd.R_far (p := ⟨gb270, 2, none⟩) (Kd.R_far (p := ⟨gb270, 1, none⟩) (Kd.R_far (p := ⟨gb270, 0, none⟩) (Kd.R_types HO268.out BK270.out (by decide)) (fun _ hk => hk.2) (.int .i64 t262)) (fun _ hk => hk.2) (.slice Ao129 t263.length co129)) (fun _ hk => hk.2) (.slice Ao130 t266.length co130)) (fun _ h_ => h_.1))) hb); have n10_ := Aside0.mk (blk_below (g := gb203) (o := .cells #[.int .i64 a0_0, .slice A0_1 l0_1.length c0_1, .slice A0_2 l0_2.length c0_2] 25 (0, 0)) (by (with_reducible repeat (first | refine blk_drewN ?_ _ | refine blk_drew ?_ | refine blk_alloc ?_ _)); refine blk_far ?_ NB203_270.out _; (with_reducible repeat (first | refine blk_drewN ?_ _ | refine blk_drew ?_ | refine blk_alloc ?_ _)); refine blk_far ?_ NB203_270.out _; (with_reducible repeat (first | refine blk_drewN ?_ _ | refine blk_drew ?_ | refine blk_alloc ?_ _)); refine blk_far ?_ NB203_270.out _; (with_reducible repeat (first | refine blk_drewN ?_ _ | refine blk_drew ?_ | refine blk_alloc ?_ _)); exact BK203.out) hb); have n11_ := Aside0.mk (blk_below (g := gb220) (o := .cells #[.int .i64 t212, .slice Ao23 t213.length co23, .slice Ao24 t216.length co24] 27 (0, 0)) (by (with_reducible repeat (first | refine blk_drewN ?_ _ | refine blk_drew ?_ | refine blk_alloc ?_ _)); refine blk_far ?_ NB220_270.out _; (with_reducible repeat (first | refine blk_drewN ?_ _ | refine blk_drew ?_ | refine blk_alloc ?_ _)); refine blk_far ?_ NB220_270.out _; (with_reducible repeat (first | refine blk_drewN ?_ _ | refine blk_drew ?_ | refine blk_alloc ?_ _)); refine blk_far ?_ NB220_270.out _; (with_reducible repeat (first | refine blk_drewN ?_ _ | refine blk_drew ?_ | refine blk_alloc ?_ _)); exact BK220.out) hb); have n12_ := Aside0.mk (blk_below (g := gb228) (o := .cells #[.int .i64 t221, .slice Ao31 t248.length co31, .slice Ao32 t249.length co32] 27 (0, 0)) (by (with_reducible repeat (first | refine blk_drewN ?_ _ | refine blk_drew ?_ | refine blk_alloc ?_ _)); refine blk_far ?_ NB228_270.out _; (with_reducible repeat (first | refine blk_drewN ?_ _ | refine blk_drew ?_ | refine blk_alloc ?_ _)); refine blk_far ?_ NB228_270.out _; (with_reducible repeat (first | refine blk_drewN ?_ _ | refine blk_drew ?_ | refine blk_alloc ?_ _)); refine blk_far ?_ NB228_270.out _; (with_reducible repeat (first | refine blk_drewN ?_ _ | refine blk_drew ?_ | refine blk_alloc ?_ _)); exact BK228.out) hb); have n13_ := Aside0.mk (blk_below (g := gb237) (o := .cells #[.int .i64 t229, .slice Ao39 t230.length co39, .slice Ao40 t233.length co40] 27 (0, 0)) (by (with_reducible repeat (first | refine blk_drewN ?_ _ | refine blk_drew ?_ | refine blk_alloc ?_ _)); refine blk_far ?_ NB237_270.out _; (with_reducible repeat (first | refine blk_drewN ?_ _ | refine blk_drew ?_ | refine blk_alloc ?_ _)); refine blk_far ?_ NB237_270.out _; (with_reducible repeat (first | refine blk_drewN ?_ _ | refine blk_drew ?_ | refine blk_alloc ?_ _)); refine blk_far ?_ NB237_270.out _; (with_reducible repeat (first | refine blk_drewN ?_ _ | refine blk_drew ?_ | refine blk_alloc ?_ _)); exact BK237.out) hb); have n14_ := Aside0.mk (blk_below (g := gb270) (o := .cells #[.int .i64 t262, .slice Ao129 t263.length co129, .slice Ao130 t266.length co130] 27 (0, 0)) (by (with_reducible repeat (first | refine blk_drewN ?_ _ | refine blk_drew ?_ | refine blk_alloc ?_ _)); refine blk_put (cs := #[.int .i64 t262, .slice Ao129 t263.length co129, .slice none 0 0]) ?_ 2 _ rfl; (with_reducible repeat (first | refine blk_drewN ?_ _ | refine blk_drew ?_ | refine blk_alloc ?_ _)); refine blk_put (cs := #[.int .i64 t262, .slice none 0 0, .slice none 0 0]) ?_ 1 _ rfl; (with_reducible repeat (first | refine blk_drewN ?_ _ | refine blk_drew ?_ | refine blk_alloc ?_ _)); refine blk_put (cs := #[.int .i64 0, .slice none 0 0, .slice none 0 0]) ?_ 0 _ rfl; (with_reducible repeat (first | refine blk_drewN ?_ _ | refine blk_drew ?_ | refine blk_alloc ?_ _)); exact BK270.out) hb); have n15_ := Aside0.mk (below_step (by repeat (first | (with_reducible first | exact HB.out | apply below_alloc | apply pw_below_drewN | apply below_drew1 | refine below_set ?_ GE203.out | refine below_set ?_ GE220.out | refine below_set ?_ GE228.out | refine below_set ?_ GE237.out | refine below_set ?_ GE270.out) | exact HB.out)) hb); clear HO_221001; clear HO_221002; clear HO_229001; clear HO_229002; clear HO_238001; clear HO_238002; clear HO258; clear HO261; clear HO265; clear HO268; clear BK203; clear BK220; clear BK228; clear BK237; clear BK270; clear HB; have HO_221001 := n0_; have HO_221002 := n1_; have HO_229001 := n2_; have HO_229002 := n3_; have HO_238001 := n4_; have HO_238002 := n5_; have HO258 := n6_; have HO261 := n7_; have HO265 := n8_; have HO268 := n9_; have BK203 := n10_; have BK220 := n11_; have BK228 := n12_; have BK237 := n13_; have BK270 := n14_; have HB := n15_; clear n0_ n1_ n2_ n3_ n4_ n5_ n6_ n7_ n8_ n9_ n10_ n11_ n12_ n13_ n14_ n15_; (try clear hb); (try clear hb2); (try clear hk); (try clear hi)))
             go_meet
             case rel => exact ⟨_, (true), (by first | rfl | (simp; done) | (simp [*]; done)), H', ⟨by have := HJ10.out; have := HJ63.out; first | omega | exact Nat.le_refl _⟩, ⟨by (try simp only [hl229001_63]); (try simp only [hl229002_63]); (with_reducible repeat (first | apply Kd.R_alloc | apply Kd.R_drewN | apply Kd.R_drew)); exact Kd.R_mono HO_221001.out (fun _ hk => ⟨hk.1.1.1, ⟨hk.1.1.2, hk.2⟩⟩)⟩, ⟨by (try simp only [hl229001_63]); (try simp only [hl229002_63]); (with_reducible repeat (first | apply Kd.R_alloc | apply Kd.R_drewN | apply Kd.R_drew)); exact Kd.R_mono HO_221002.out (fun _ hk => ⟨hk.1.1.1, ⟨hk.1.1.2, hk.2⟩⟩)⟩, ⟨by (try simp only [hl229001_63]); (try simp only [hl229002_63]); (with_reducible repeat (first | apply Kd.R_alloc | apply Kd.R_drewN | apply Kd.R_drew)); exact Kd.R_mono HO_229001.out (fun _ hk => ⟨hk.1.1.1, ⟨hk.1.1.2, hk.2⟩⟩)⟩, ⟨by (try simp only [hl229001_63]); (try simp only [hl229002_63]); (with_reducible repeat (first | apply Kd.R_alloc | apply Kd.R_drewN | apply Kd.R_drew)); exact Kd.R_mono HO_229002.out (fun _ hk => ⟨hk.1.1.1, ⟨hk.1.1.2, hk.2⟩⟩)⟩, ⟨by (try simp only [hl229001_63]); (try simp only [hl229002_63]); (with_reducible repeat (first | apply Kd.R_alloc | apply Kd.R_drewN | apply Kd.R_drew)); exact Kd.R_mono HO_238001.out (fun _ hk => ⟨hk.1.1.1, ⟨hk.1.1.2, hk.2⟩⟩)⟩, ⟨by (try simp only [hl229001_63]); (try simp only [hl229002_63]); (with_reducible repeat (first | apply Kd.R_alloc | apply Kd.R_drewN | apply Kd.R_drew)); exact Kd.R_mono HO_238002.out (fun _ hk => ⟨hk.1.1.1, ⟨hk.1.1.2, hk.2⟩⟩)⟩, ⟨by (try simp only [hl229001_63]); (try simp only [hl229002_63]); (with_reducible repeat (first | apply Kd.R_alloc | apply Kd.R_drewN | apply Kd.R_drew)); exact Kd.R_mono HO265.out (fun _ hk => ⟨hk.1.1.1.2, ⟨hk.1.1.2, hk.1.2⟩⟩)⟩, ⟨by (try simp only [hl229001_63]); (try simp only [hl229002_63]); (with_reducible repeat (first | apply Kd.R_alloc | apply Kd.R_drewN | apply Kd.R_drew)); exact Kd.R_mono HO268.out (fun _ hk => ⟨hk.1.1.1.2, ⟨hk.1.1.2, hk.1.2⟩⟩)⟩, ⟨by (try simp only [hl229001_63]); (try simp only [hl229002_63]); (with_reducible repeat (first | refine blk_drewN ?_ _ | refine blk_drew ?_ | refine blk_alloc ?_ _)); exact BK203.out⟩, ⟨by (try simp only [hl229001_63]); (try simp only [hl229002_63]); (with_reducible repeat (first | refine blk_drewN ?_ _ | refine blk_drew ?_ | refine blk_alloc ?_ _)); exact BK220.out⟩, ⟨by (try simp only [hl229001_63]); (try simp only [hl229002_63]); (with_reducible repeat (first | refine blk_drewN ?_ _ | refine blk_drew ?_ | refine blk_alloc ?_ _)); exact BK228.out⟩, ⟨by (try simp only [hl229001_63]); (try simp only [hl229002_63]); (with_reducible repeat (first | refine blk_drewN ?_ _ | refine blk_drew ?_ | refine blk_alloc ?_ _)); exact BK237.out⟩, ⟨by (try simp only [hl229001_63]); (try simp only [hl229002_63]); (with_reducible repeat (first | refine blk_drewN ?_ _ | refine blk_drew ?_ | refine blk_alloc ?_ _)); exact BK270.out⟩, ⟨by repeat (first | (with_reducible first | exact HB.out | apply below_alloc | apply pw_below_drewN | apply below_drew1 | refine below_set ?_ GE203.out | refine below_set ?_ GE220.out | refine below_set ?_ GE228.out | refine below_set ?_ GE237.out | refine below_set ?_ GE270.out) | exact HB.out)⟩⟩
           case rest =>
            clear HC108
            try clear c1
            try clear c2
            try clear p2
            try clear c3
            try clear c3b0
            try clear c4
            try clear c5
            try clear c6
            try clear c7
            try clear c8
            try clear c9
            try clear c10
            try clear c11
            try clear c12
            try clear c13
            try clear c14
            try clear c15
            try clear c16
            try clear c17
            try clear c18
            try clear c19
            try clear c20
            try clear c21
            try clear c28
            try clear c29
            try clear c35
            try clear c36
            try clear c37
            try clear c42
            try clear c43
            try clear c44
            try clear c45
            try clear c47
            try clear c48
            try clear c51
            try clear c52
            try clear c53
            try clear c55
            try clear c56
            try clear c59
            try clear c62
            try clear c70
            try clear c71
            try clear c72
            try clear c75
            try clear c75b0
            try clear c77
            try clear c78
            try clear c79
            try clear c80
            try clear c82
            try clear c83
            try clear c86
            try clear c87
            try clear c88
            try clear c90
            try clear c91
            try clear c94
            try clear c97
            try clear c97b0
            try clear c98
            try clear c99
            try clear c100
            try clear c105
            try clear c105b0
            try clear c105b1
            try clear c109
            try clear c110
            try clear c111
            try clear c116
            try clear c117
            try clear c124
            try clear c125
            try clear c126
            try clear c127
            try clear c132
            try clear c133
            try clear c134
            try clear c135
            try clear c136
            try clear c138
            try clear c139
            try clear c140
            try clear c143
            try clear c144
            try clear c145
            try clear c146
            try clear c148
            try clear c149
            try clear c150
            try clear hcz101_0
            try clear hcz101_1
            try clear hcz101_2
            try clear hcz103_0
            try clear hcz103_1
            try clear hcz103_2
            try clear hcz112_0
            try clear hcz112_1
            try clear hcz112_2
            try clear hcz114_0
            try clear hcz114_1
            try clear hcz114_2
            try clear hcz118_0
            try clear hcz118_1
            try clear hcz118_2
            try clear hcz128_0
            try clear hcz128_1
            try clear hcz128_2
            try clear hcz137_0
            try clear hcz137_1
            try clear hcz137_2
            try clear hcz13_0
            try clear hcz13_1
            try clear hcz13_2
            try clear hcz141_0
            try clear hcz141_1
            try clear hcz141_2
            try clear hcz147_0
            try clear hcz147_1
            try clear hcz147_2
            try clear hcz151_0
            try clear hcz151_1
            try clear hcz151_2
            try clear hcz15_0
            try clear hcz15_1
            try clear hcz15_2
            try clear hcz22_0
            try clear hcz22_1
            try clear hcz22_2
            try clear hcz25_0
            try clear hcz25_1
            try clear hcz25_2
            try clear hcz30_0
            try clear hcz30_1
            try clear hcz30_2
            try clear hcz38_0
            try clear hcz38_1
            try clear hcz38_2
            try clear hcz46_0
            try clear hcz46_1
            try clear hcz46_2
            try clear hcz49_0
            try clear hcz49_1
            try clear hcz49_2
            try clear hcz54_0
            try clear hcz54_1
            try clear hcz54_2
            try clear hcz57_0
            try clear hcz57_1
            try clear hcz57_2
            try clear hcz5_0
            try clear hcz5_1
            try clear hcz5_2
            try clear hcz73_0
            try clear hcz73_1
            try clear hcz73_2
            try clear hcz81_0
            try clear hcz81_1
            try clear hcz81_2
            try clear hcz84_0
            try clear hcz84_1
            try clear hcz84_2
            try clear hcz89_0
            try clear hcz89_1
            try clear hcz89_2
            try clear hcz92_0
            try clear hcz92_1
            try clear hcz92_2
            try clear hfz101_0
            try clear hfz101_1
            try clear hfz101_2
            try clear hfz103_0
            try clear hfz103_1
            try clear hfz103_2
            try clear hfz112_0
            try clear hfz112_1
            try clear hfz112_2
            try clear hfz114_0
            try clear hfz114_1
            try clear hfz114_2
            try clear hfz118_0
            try clear hfz118_1
            try clear hfz118_2
            try clear hfz128_0
            try clear hfz128_1
            try clear hfz128_2
            try clear hfz137_0
            try clear hfz137_1
            try clear hfz137_2
            try clear hfz13_0
            try clear hfz13_1
            try clear hfz13_2
            try clear hfz141_0
            try clear hfz141_1
            try clear hfz141_2
            try clear hfz147_0
            try clear hfz147_1
            try clear hfz147_2
            try clear hfz151_0
            try clear hfz151_1
            try clear hfz151_2
            try clear hfz15_0
            try clear hfz15_1
            try clear hfz15_2
            try clear hfz22_0
            try clear hfz22_1
            try clear hfz22_2
            try clear hfz25_0
            try clear hfz25_1
            try clear hfz25_2
            try clear hfz30_0
            try clear hfz30_1
            try clear hfz30_2
            try clear hfz38_0
            try clear hfz38_1
            try clear hfz38_2
            try clear hfz46_0
            try clear hfz46_1
            try clear hfz46_2
            try clear hfz49_0
            try clear hfz49_1
            try clear hfz49_2
            try clear hfz54_0
            try clear hfz54_1
            try clear hfz54_2
            try clear hfz57_0
            try clear hfz57_1
            try clear hfz57_2
            try clear hfz5_0
            try clear hfz5_1
            try clear hfz5_2
            try clear hfz73_0
            try clear hfz73_1
            try clear hfz73_2
            try clear hfz81_0
            try clear hfz81_1
            try clear hfz81_2
            try clear hfz84_0
            try clear hfz84_1
            try clear hfz84_2
            try clear hfz89_0
            try clear hfz89_1
            try clear hfz89_2
            try clear hfz92_0
            try clear hfz92_1
            try clear hfz92_2
            try clear p2
            obtain ⟨kq, x87_107, rfl, HA, HJ107, HO_221001, HO_221002, HO_229001, HO_229002, HO_238001, HO_238002, HO_271001, HO_271002, BK203, BK220, BK228, BK237, BK270, HB⟩ := hcut
            have hl238001_107 := (Kd.R_reads' HO_238001.out).1
            rw [hl238001_107] at HO_238001
            (try simp only [hl238001_107])
            (try simp only [hl238001_107] at BK203)
            (try simp only [hl238001_107] at BK220)
            (try simp only [hl238001_107] at BK228)
            (try simp only [hl238001_107] at BK237)
            (try simp only [hl238001_107] at BK270)
            (try simp only [hl238001_107] at HO_221001)
            (try simp only [hl238001_107] at HO_221002)
            (try simp only [hl238001_107] at HO_229001)
            (try simp only [hl238001_107] at HO_229002)
            (try simp only [hl238001_107] at HO_238002)
            (try simp only [hl238001_107] at HO_271001)
            (try simp only [hl238001_107] at HO_271002)
            have hl238002_107 := (Kd.R_reads' HO_238002.out).1
            rw [hl238002_107] at HO_238002
            (try simp only [hl238002_107])
            (try simp only [hl238002_107] at BK203)
            (try simp only [hl238002_107] at BK220)
            (try simp only [hl238002_107] at BK228)
            (try simp only [hl238002_107] at BK237)
            (try simp only [hl238002_107] at BK270)
            (try simp only [hl238002_107] at HO_221001)
            (try simp only [hl238002_107] at HO_221002)
            (try simp only [hl238002_107] at HO_229001)
            (try simp only [hl238002_107] at HO_229002)
            (try simp only [hl238002_107] at HO_238001)
            (try simp only [hl238002_107] at HO_271001)
            (try simp only [hl238002_107] at HO_271002)
            cases kq with
            | zero => exact absurd HA.out (by simp [laws_FnExactComplementOf.j2])
            | succ kj107 =>
             have H := HA.out
             clear HA
             simp only [laws_FnExactComplementOf.j2] at H
             by_cases c153 : x87_107 = true
             ·subst c153
              have H1 : (some false) = some r := by rw [if_pos rfl] at H; exact H
              clear H
              have H := H1
              clear H1
              obtain rfl := Option.some.inj H
              go_wp2
              go_ret
              exact ⟨by first | rfl | (simp [errW_none, errW_some] <;> rfl) | (simp [*, errW_none, errW_some] <;> rfl), by repeat (first | (with_reducible first | exact HB.out | apply below_alloc | apply pw_below_drewN | apply below_drew1 | refine below_set ?_ GE203.out | refine below_set ?_ GE220.out | refine below_set ?_ GE228.out | refine below_set ?_ GE237.out | refine below_set ?_ GE270.out) | exact HB.out)⟩
             ·replace c153 := Bool.eq_false_iff.mpr c153
              subst c153
              have H1 : ((laws_heldAutomaton.f kj107 t229 t252 t253 1).bind fun t272 => (if t272 < 0 then (some false) else (if t272 = t251 then (some true) else (some false)))) = some r := by rw [if_neg (show ¬ (false = true) by decide)] at H; exact H
              clear H
              have H := H1
              clear H1
              replace H := Option.bind_eq_some_iff.mp H
              obtain ⟨t272, A1540, H⟩ := H
              replace H : (if t272 < 0 then (some false) else (if t272 = t251 then (some true) else (some false))) = some r := H
              have A154 := Aside0.mk A1540
              clear A1540
              by_cases c155 : t272 < 0
              ·rw [if_pos c155] at H
               have c155b0 : decide (t272 < 0) = true := decide_eq_true c155
               clear c155
               obtain rfl := Option.some.inj H
               have hnb156 := NB237_203.out
               have hnc156 := NB203_237.out
               have hnb157 := NB237_220.out
               have hnc157 := NB220_237.out
               have hnb158 := NB237_228.out
               have hnc158 := NB228_237.out
               have hnb159 := NB237_270.out
               have hnc159 := NB270_237.out
               have hcz160_0 : wc.cell? ⟨gb237, 0, none⟩ = some (.int .i64 t229) := (blk_cell BK237.out 0).trans rfl
               have hcz160_1 : wc.cell? ⟨gb237, 1, none⟩ = some (.slice Ao39 t252.length co39) := (blk_cell BK237.out 1).trans rfl
               have hcz160_2 : wc.cell? ⟨gb237, 2, none⟩ = some (.slice Ao40 t253.length co40) := (blk_cell BK237.out 2).trans rfl
               have hfz160_0 := blk_frozen BK237.out 0
               have hfz160_1 := blk_frozen BK237.out 1
               have hfz160_2 := blk_frozen BK237.out 2
               go_wp2_with (first | ((with_reducible refine gate_callee (f := 21) rfl ?_); refine goesL_ (some 90) rfl rfl Try.func21 (by kernel_rfl) rfl #[.agg #[.int .i64 t229, .slice Ao39 t252.length co39, .slice Ao40 t253.length co40], .int .i64 1] rfl (by (try simp only [List.map_toArray, List.map_cons, List.map_nil]); first | done | rfl | (simp only [Base.w64_u8]; rfl) | (simp only [List.length_drop, List.length_take]; rfl)) ?_; (with_reducible refine (laws_heldAutomaton.calls kj107 t229 _ _ t252 _ _ t253 1 t272 _ ?side1 ?side2 ?side3 ?side4 A154.out).mono ?_); (case side1 => repeat (first | exact (Kd.R_reads' HO_238001.out).2.2 | (with_reducible refine Kd.C_alloc ?_ _) | (with_reducible refine Kd.C_drewN ?_ _) | (with_reducible refine Kd.C_drew ?_))); (case side2 => exact (Kd.R_reads' HO_238001.out).2.1); (case side3 => repeat (first | exact (Kd.R_reads' HO_238002.out).2.2 | (with_reducible refine Kd.C_alloc ?_ _) | (with_reducible refine Kd.C_drewN ?_ _) | (with_reducible refine Kd.C_drew ?_))); (case side4 => exact (Kd.R_reads' HO_238002.out).2.1); rintro e w161 ⟨rfl, hb⟩; refine ⟨_, rfl, ?_⟩; have n0_ := Aside0.mk (Kd.R_below (by (with_reducible repeat (first | apply Kd.R_alloc | apply Kd.R_drewN | apply Kd.R_drew)); exact HO_221001.out) hb); have n1_ := Aside0.mk (Kd.R_below (by (with_reducible repeat (first | apply Kd.R_alloc | apply Kd.R_drewN | apply Kd.R_drew)); exact HO_221002.out) hb); have n2_ := Aside0.mk (Kd.R_below (by (with_reducible repeat (first | apply Kd.R_alloc | apply Kd.R_drewN | apply Kd.R_drew)); exact HO_229001.out) hb); have n3_ := Aside0.mk (Kd.R_below (by (with_reducible repeat (first | apply Kd.R_alloc | apply Kd.R_drewN | apply Kd.R_drew)); exact HO_229002.out) hb); have n4_ := Aside0.mk (Kd.R_below (by (with_reducible repeat (first | apply Kd.R_alloc | apply Kd.R_drewN | apply Kd.R_drew)); exact HO_238001.out) hb); have n5_ := Aside0.mk (Kd.R_below (by (with_reducible repeat (first | apply Kd.R_alloc | apply Kd.R_drewN | apply Kd.R_drew)); exact HO_238002.out) hb); have n6_ := Aside0.mk (Kd.R_below (by (with_reducible repeat (first | apply Kd.R_alloc | apply Kd.R_drewN | apply Kd.R_drew)); exact HO_271001.out) hb); have n7_ := Aside0.mk (Kd.R_below (by (with_reducible repeat (first | apply Kd.R_alloc | apply Kd.R_drewN | apply Kd.R_drew)); exact HO_271002.out) hb); have n8_ := Aside0.mk (blk_below (g := gb203) (o := .cells #[.int .i64 a0_0, .slice A0_1 l0_1.length c0_1, .slice A0_2 l0_2.length c0_2] 25 (0, 0)) (by (with_reducible repeat (first | refine blk_drewN ?_ _ | refine blk_drew ?_ | refine blk_alloc ?_ _)); exact BK203.out) hb); have n9_ := Aside0.mk (blk_below (g := gb220) (o := .cells #[.int .i64 t212, .slice Ao23 t213.length co23, .slice Ao24 t216.length co24] 27 (0, 0)) (by (with_reducible repeat (first | refine blk_drewN ?_ _ | refine blk_drew ?_ | refine blk_alloc ?_ _)); exact BK220.out) hb); have n10_ := Aside0.mk (blk_below (g := gb228) (o := .cells #[.int .i64 t221, .slice Ao31 t248.length co31, .slice Ao32 t249.length co32] 27 (0, 0)) (by (with_reducible repeat (first | refine blk_drewN ?_ _ | refine blk_drew ?_ | refine blk_alloc ?_ _)); exact BK228.out) hb); have n11_ := Aside0.mk (blk_below (g := gb237) (o := .cells #[.int .i64 t229, .slice Ao39 t252.length co39, .slice Ao40 t253.length co40] 27 (0, 0)) (by (with_reducible repeat (first | refine blk_drewN ?_ _ | refine blk_drew ?_ | refine blk_alloc ?_ _)); exact BK237.out) hb); have n12_ := Aside0.mk (blk_below (g := gb270) (o := .cells #[.int .i64 t262, .slice Ao129 t263.length co129, .slice Ao130 t266.length co130] 27 (0, 0)) (by (with_reducible repeat (first | refine blk_drewN ?_ _ | refine blk_drew ?_ | refine blk_alloc ?_ _)); exact BK270.out) hb); have n13_ := Aside0.mk (below_step (by repeat (first | (with_reducible first | exact HB.out | apply below_alloc | apply pw_below_drewN | apply below_drew1 | refine below_set ?_ GE203.out | refine below_set ?_ GE220.out | refine below_set ?_ GE228.out | refine below_set ?_ GE237.out | refine below_set ?_ GE270.out) | exact HB.out)) hb); clear HO_221001; clear HO_221002; clear HO_229001; clear HO_229002; clear HO_238001; clear HO_238002; clear HO_271001; clear HO_271002; clear BK203; clear BK220; clear BK228; clear BK237; clear BK270; clear HB; have HO_221001 := n0_; have HO_221002 := n1_; have HO_229001 := n2_; have HO_229002 := n3_; have HO_238001 := n4_; have HO_238002 := n5_; have HO_271001 := n6_; have HO_271002 := n7_; have BK203 := n8_; have BK220 := n9_; have BK228 := n10_; have BK237 := n11_; have BK270 := n12_; have HB := n13_; clear n0_ n1_ n2_ n3_ n4_ n5_ n6_ n7_ n8_ n9_ n10_ n11_ n12_ n13_; (try clear hb); (try clear hb2); (try clear hk); (try clear hi)))
               go_ret
               exact ⟨by first | rfl | (simp [errW_none, errW_some] <;> rfl) | (simp [*, errW_none, errW_some] <;> rfl), by repeat (first | (with_reducible first | exact HB.out | apply below_alloc | apply pw_below_drewN | apply below_drew1 | refine below_set ?_ GE203.out | refine below_set ?_ GE220.out | refine below_set ?_ GE228.out | refine below_set ?_ GE237.out | refine below_set ?_ GE270.out) | exact HB.out)⟩
              ·rw [if_neg c155] at H
               have c155b0 : decide (t272 < 0) = false := decide_eq_false c155
               clear c155
               by_cases c162 : t272 = t251
               ·rw [if_pos c162] at H
                have c162b0 : (t272 == t251) = true := beq_iff_eq.mpr c162
                have c162b1 : (t272 != t251) = false := bne_eq_false_iff_eq.mpr c162
                clear c162
                obtain rfl := Option.some.inj H
                have hnb163 := NB237_203.out
                have hnc163 := NB203_237.out
                have hnb164 := NB237_220.out
                have hnc164 := NB220_237.out
                have hnb165 := NB237_228.out
                have hnc165 := NB228_237.out
                have hnb166 := NB237_270.out
                have hnc166 := NB270_237.out
                have hcz167_0 : wc.cell? ⟨gb237, 0, none⟩ = some (.int .i64 t229) := (blk_cell BK237.out 0).trans rfl
                have hcz167_1 : wc.cell? ⟨gb237, 1, none⟩ = some (.slice Ao39 t252.length co39) := (blk_cell BK237.out 1).trans rfl
                have hcz167_2 : wc.cell? ⟨gb237, 2, none⟩ = some (.slice Ao40 t253.length co40) := (blk_cell BK237.out 2).trans rfl
                have hfz167_0 := blk_frozen BK237.out 0
                have hfz167_1 := blk_frozen BK237.out 1
                have hfz167_2 := blk_frozen BK237.out 2
                go_wp2_with (first | ((with_reducible refine gate_callee (f := 21) rfl ?_); refine goesL_ (some 90) rfl rfl Try.func21 (by kernel_rfl) rfl #[.agg #[.int .i64 t229, .slice Ao39 t252.length co39, .slice Ao40 t253.length co40], .int .i64 1] rfl (by (try simp only [List.map_toArray, List.map_cons, List.map_nil]); first | done | rfl | (simp only [Base.w64_u8]; rfl) | (simp only [List.length_drop, List.length_take]; rfl)) ?_; (with_reducible refine (laws_heldAutomaton.calls kj107 t229 _ _ t252 _ _ t253 1 t272 _ ?side1 ?side2 ?side3 ?side4 A154.out).mono ?_); (case side1 => repeat (first | exact (Kd.R_reads' HO_238001.out).2.2 | (with_reducible refine Kd.C_alloc ?_ _) | (with_reducible refine Kd.C_drewN ?_ _) | (with_reducible refine Kd.C_drew ?_))); (case side2 => exact (Kd.R_reads' HO_238001.out).2.1); (case side3 => repeat (first | exact (Kd.R_reads' HO_238002.out).2.2 | (with_reducible refine Kd.C_alloc ?_ _) | (with_reducible refine Kd.C_drewN ?_ _) | (with_reducible refine Kd.C_drew ?_))); (case side4 => exact (Kd.R_reads' HO_238002.out).2.1); rintro e w168 ⟨rfl, hb⟩; refine ⟨_, rfl, ?_⟩; have n0_ := Aside0.mk (Kd.R_below (by (with_reducible repeat (first | apply Kd.R_alloc | apply Kd.R_drewN | apply Kd.R_drew)); exact HO_221001.out) hb); have n1_ := Aside0.mk (Kd.R_below (by (with_reducible repeat (first | apply Kd.R_alloc | apply Kd.R_drewN | apply Kd.R_drew)); exact HO_221002.out) hb); have n2_ := Aside0.mk (Kd.R_below (by (with_reducible repeat (first | apply Kd.R_alloc | apply Kd.R_drewN | apply Kd.R_drew)); exact HO_229001.out) hb); have n3_ := Aside0.mk (Kd.R_below (by (with_reducible repeat (first | apply Kd.R_alloc | apply Kd.R_drewN | apply Kd.R_drew)); exact HO_229002.out) hb); have n4_ := Aside0.mk (Kd.R_below (by (with_reducible repeat (first | apply Kd.R_alloc | apply Kd.R_drewN | apply Kd.R_drew)); exact HO_238001.out) hb); have n5_ := Aside0.mk (Kd.R_below (by (with_reducible repeat (first | apply Kd.R_alloc | apply Kd.R_drewN | apply Kd.R_drew)); exact HO_238002.out) hb); have n6_ := Aside0.mk (Kd.R_below (by (with_reducible repeat (first | apply Kd.R_alloc | apply Kd.R_drewN | apply Kd.R_drew)); exact HO_271001.out) hb); have n7_ := Aside0.mk (Kd.R_below (by (with_reducible repeat (first | apply Kd.R_alloc | apply Kd.R_drewN | apply Kd.R_drew)); exact HO_271002.out) hb); have n8_ := Aside0.mk (blk_below (g := gb203) (o := .cells #[.int .i64 a0_0, .slice A0_1 l0_1.length c0_1, .slice A0_2 l0_2.length c0_2] 25 (0, 0)) (by (with_reducible repeat (first | refine blk_drewN ?_ _ | refine blk_drew ?_ | refine blk_alloc ?_ _)); exact BK203.out) hb); have n9_ := Aside0.mk (blk_below (g := gb220) (o := .cells #[.int .i64 t212, .slice Ao23 t213.length co23, .slice Ao24 t216.length co24] 27 (0, 0)) (by (with_reducible repeat (first | refine blk_drewN ?_ _ | refine blk_drew ?_ | refine blk_alloc ?_ _)); exact BK220.out) hb); have n10_ := Aside0.mk (blk_below (g := gb228) (o := .cells #[.int .i64 t221, .slice Ao31 t248.length co31, .slice Ao32 t249.length co32] 27 (0, 0)) (by (with_reducible repeat (first | refine blk_drewN ?_ _ | refine blk_drew ?_ | refine blk_alloc ?_ _)); exact BK228.out) hb); have n11_ := Aside0.mk (blk_below (g := gb237) (o := .cells #[.int .i64 t229, .slice Ao39 t252.length co39, .slice Ao40 t253.length co40] 27 (0, 0)) (by (with_reducible repeat (first | refine blk_drewN ?_ _ | refine blk_drew ?_ | refine blk_alloc ?_ _)); exact BK237.out) hb); have n12_ := Aside0.mk (blk_below (g := gb270) (o := .cells #[.int .i64 t262, .slice Ao129 t263.length co129, .slice Ao130 t266.length co130] 27 (0, 0)) (by (with_reducible repeat (first | refine blk_drewN ?_ _ | refine blk_drew ?_ | refine blk_alloc ?_ _)); exact BK270.out) hb); have n13_ := Aside0.mk (below_step (by repeat (first | (with_reducible first | exact HB.out | apply below_alloc | apply pw_below_drewN | apply below_drew1 | refine below_set ?_ GE203.out | refine below_set ?_ GE220.out | refine below_set ?_ GE228.out | refine below_set ?_ GE237.out | refine below_set ?_ GE270.out) | exact HB.out)) hb); clear HO_221001; clear HO_221002; clear HO_229001; clear HO_229002; clear HO_238001; clear HO_238002; clear HO_271001; clear HO_271002; clear BK203; clear BK220; clear BK228; clear BK237; clear BK270; clear HB; have HO_221001 := n0_; have HO_221002 := n1_; have HO_229001 := n2_; have HO_229002 := n3_; have HO_238001 := n4_; have HO_238002 := n5_; have HO_271001 := n6_; have HO_271002 := n7_; have BK203 := n8_; have BK220 := n9_; have BK228 := n10_; have BK237 := n11_; have BK270 := n12_; have HB := n13_; clear n0_ n1_ n2_ n3_ n4_ n5_ n6_ n7_ n8_ n9_ n10_ n11_ n12_ n13_; (try clear hb); (try clear hb2); (try clear hk); (try clear hi)))
                go_ret
                exact ⟨by first | rfl | (simp [errW_none, errW_some] <;> rfl) | (simp [*, errW_none, errW_some] <;> rfl), by repeat (first | (with_reducible first | exact HB.out | apply below_alloc | apply pw_below_drewN | apply below_drew1 | refine below_set ?_ GE203.out | refine below_set ?_ GE220.out | refine below_set ?_ GE228.out | refine below_set ?_ GE237.out | refine below_set ?_ GE270.out) | exact HB.out)⟩
               ·rw [if_neg c162] at H
                have c162b0 : (t272 == t251) = false := beq_eq_false_iff_ne.mpr c162
                have c162b1 : (t272 != t251) = true := bne_iff_ne.mpr c162
                obtain rfl := Option.some.inj H
                have hnb169 := NB237_203.out
                have hnc169 := NB203_237.out
                have hnb170 := NB237_220.out
                have hnc170 := NB220_237.out
                have hnb171 := NB237_228.out
                have hnc171 := NB228_237.out
                have hnb172 := NB237_270.out
                have hnc172 := NB270_237.out
                have hcz173_0 : wc.cell? ⟨gb237, 0, none⟩ = some (.int .i64 t229) := (blk_cell BK237.out 0).trans rfl
                have hcz173_1 : wc.cell? ⟨gb237, 1, none⟩ = some (.slice Ao39 t252.length co39) := (blk_cell BK237.out 1).trans rfl
                have hcz173_2 : wc.cell? ⟨gb237, 2, none⟩ = some (.slice Ao40 t253.length co40) := (blk_cell BK237.out 2).trans rfl
                have hfz173_0 := blk_frozen BK237.out 0
                have hfz173_1 := blk_frozen BK237.out 1
                have hfz173_2 := blk_frozen BK237.out 2
                go_wp2_with (first | ((with_reducible refine gate_callee (f := 21) rfl ?_); refine goesL_ (some 90) rfl rfl Try.func21 (by kernel_rfl) rfl #[.agg #[.int .i64 t229, .slice Ao39 t252.length co39, .slice Ao40 t253.length co40], .int .i64 1] rfl (by (try simp only [List.map_toArray, List.map_cons, List.map_nil]); first | done | rfl | (simp only [Base.w64_u8]; rfl) | (simp only [List.length_drop, List.length_take]; rfl)) ?_; (with_reducible refine (laws_heldAutomaton.calls kj107 t229 _ _ t252 _ _ t253 1 t272 _ ?side1 ?side2 ?side3 ?side4 A154.out).mono ?_); (case side1 => repeat (first | exact (Kd.R_reads' HO_238001.out).2.2 | (with_reducible refine Kd.C_alloc ?_ _) | (with_reducible refine Kd.C_drewN ?_ _) | (with_reducible refine Kd.C_drew ?_))); (case side2 => exact (Kd.R_reads' HO_238001.out).2.1); (case side3 => repeat (first | exact (Kd.R_reads' HO_238002.out).2.2 | (with_reducible refine Kd.C_alloc ?_ _) | (with_reducible refine Kd.C_drewN ?_ _) | (with_reducible refine Kd.C_drew ?_))); (case side4 => exact (Kd.R_reads' HO_238002.out).2.1); rintro e w174 ⟨rfl, hb⟩; refine ⟨_, rfl, ?_⟩; have n0_ := Aside0.mk (Kd.R_below (by (with_reducible repeat (first | apply Kd.R_alloc | apply Kd.R_drewN | apply Kd.R_drew)); exact HO_221001.out) hb); have n1_ := Aside0.mk (Kd.R_below (by (with_reducible repeat (first | apply Kd.R_alloc | apply Kd.R_drewN | apply Kd.R_drew)); exact HO_221002.out) hb); have n2_ := Aside0.mk (Kd.R_below (by (with_reducible repeat (first | apply Kd.R_alloc | apply Kd.R_drewN | apply Kd.R_drew)); exact HO_229001.out) hb); have n3_ := Aside0.mk (Kd.R_below (by (with_reducible repeat (first | apply Kd.R_alloc | apply Kd.R_drewN | apply Kd.R_drew)); exact HO_229002.out) hb); have n4_ := Aside0.mk (Kd.R_below (by (with_reducible repeat (first | apply Kd.R_alloc | apply Kd.R_drewN | apply Kd.R_drew)); exact HO_238001.out) hb); have n5_ := Aside0.mk (Kd.R_below (by (with_reducible repeat (first | apply Kd.R_alloc | apply Kd.R_drewN | apply Kd.R_drew)); exact HO_238002.out) hb); have n6_ := Aside0.mk (Kd.R_below (by (with_reducible repeat (first | apply Kd.R_alloc | apply Kd.R_drewN | apply Kd.R_drew)); exact HO_271001.out) hb); have n7_ := Aside0.mk (Kd.R_below (by (with_reducible repeat (first | apply Kd.R_alloc | apply Kd.R_drewN | apply Kd.R_drew)); exact HO_271002.out) hb); have n8_ := Aside0.mk (blk_below (g := gb203) (o := .cells #[.int .i64 a0_0, .slice A0_1 l0_1.length c0_1, .slice A0_2 l0_2.length c0_2] 25 (0, 0)) (by (with_reducible repeat (first | refine blk_drewN ?_ _ | refine blk_drew ?_ | refine blk_alloc ?_ _)); exact BK203.out) hb); have n9_ := Aside0.mk (blk_below (g := gb220) (o := .cells #[.int .i64 t212, .slice Ao23 t213.length co23, .slice Ao24 t216.length co24] 27 (0, 0)) (by (with_reducible repeat (first | refine blk_drewN ?_ _ | refine blk_drew ?_ | refine blk_alloc ?_ _)); exact BK220.out) hb); have n10_ := Aside0.mk (blk_below (g := gb228) (o := .cells #[.int .i64 t221, .slice Ao31 t248.length co31, .slice Ao32 t249.length co32] 27 (0, 0)) (by (with_reducible repeat (first | refine blk_drewN ?_ _ | refine blk_drew ?_ | refine blk_alloc ?_ _)); exact BK228.out) hb); have n11_ := Aside0.mk (blk_below (g := gb237) (o := .cells #[.int .i64 t229, .slice Ao39 t252.length co39, .slice Ao40 t253.length co40] 27 (0, 0)) (by (with_reducible repeat (first | refine blk_drewN ?_ _ | refine blk_drew ?_ | refine blk_alloc ?_ _)); exact BK237.out) hb); have n12_ := Aside0.mk (blk_below (g := gb270) (o := .cells #[.int .i64 t262, .slice Ao129 t263.length co129, .slice Ao130 t266.length co130] 27 (0, 0)) (by (with_reducible repeat (first | refine blk_drewN ?_ _ | refine blk_drew ?_ | refine blk_alloc ?_ _)); exact BK270.out) hb); have n13_ := Aside0.mk (below_step (by repeat (first | (with_reducible first | exact HB.out | apply below_alloc | apply pw_below_drewN | apply below_drew1 | refine below_set ?_ GE203.out | refine below_set ?_ GE220.out | refine below_set ?_ GE228.out | refine below_set ?_ GE237.out | refine below_set ?_ GE270.out) | exact HB.out)) hb); clear HO_221001; clear HO_221002; clear HO_229001; clear HO_229002; clear HO_238001; clear HO_238002; clear HO_271001; clear HO_271002; clear BK203; clear BK220; clear BK228; clear BK237; clear BK270; clear HB; have HO_221001 := n0_; have HO_221002 := n1_; have HO_229001 := n2_; have HO_229002 := n3_; have HO_238001 := n4_; have HO_238002 := n5_; have HO_271001 := n6_; have HO_271002 := n7_; have BK203 := n8_; have BK220 := n9_; have BK228 := n10_; have BK237 := n11_; have BK270 := n12_; have HB := n13_; clear n0_ n1_ n2_ n3_ n4_ n5_ n6_ n7_ n8_ n9_ n10_ n11_ n12_ n13_; (try clear hb); (try clear hb2); (try clear hk); (try clear hi)))
                go_ret
                exact ⟨by first | rfl | (simp [errW_none, errW_some] <;> rfl) | (simp [*, errW_none, errW_some] <;> rfl), by repeat (first | (with_reducible first | exact HB.out | apply below_alloc | apply pw_below_drewN | apply below_drew1 | refine below_set ?_ GE203.out | refine below_set ?_ GE220.out | refine below_set ?_ GE228.out | refine below_set ?_ GE237.out | refine below_set ?_ GE270.out) | exact HB.out)⟩
          ·rw [if_neg c105] at H
           have c105b0 : (t254 == t251) = false := beq_eq_false_iff_ne.mpr c105
           have c105b1 : (t254 != t251) = true := bne_iff_ne.mpr c105
           obtain rfl := Option.some.inj H
           have hnb175 := NB237_203.out
           have hnc175 := NB203_237.out
           have hnb176 := NB237_220.out
           have hnc176 := NB220_237.out
           have hnb177 := NB237_228.out
           have hnc177 := NB228_237.out
           have hcz178_0 : wc.cell? ⟨gb237, 0, none⟩ = some (.int .i64 t229) := (blk_cell BK237.out 0).trans rfl
           have hcz178_1 : wc.cell? ⟨gb237, 1, none⟩ = some (.slice Ao39 t230.length co39) := (blk_cell BK237.out 1).trans rfl
           have hcz178_2 : wc.cell? ⟨gb237, 2, none⟩ = some (.slice Ao40 t233.length co40) := (blk_cell BK237.out 2).trans rfl
           have hfz178_0 := blk_frozen BK237.out 0
           have hfz178_1 := blk_frozen BK237.out 1
           have hfz178_2 := blk_frozen BK237.out 2
           go_wp2_with (first | ((with_reducible refine gate_callee (f := 20) rfl ?_); refine goesL_ (some 64) rfl rfl Try.func20 (by kernel_rfl) rfl #[.agg #[.int .i64 t229, .slice Ao39 t230.length co39, .slice Ao40 t233.length co40], .int .i64 1] rfl (by (try simp only [List.map_toArray, List.map_cons, List.map_nil]); first | done | rfl | (simp only [Base.w64_u8]; rfl) | (simp only [List.length_drop, List.length_take]; rfl)) ?_; (with_reducible refine (laws_markAutomaton.calls kj63 t229 (fun k_ => some k_ = (.slice Ao39 t230.length co39 : Value).ownBlock) (.slice Ao39 t230.length co39) t230 (fun k_ => some k_ = (.slice Ao40 t233.length co40 : Value).ownBlock) (.slice Ao40 t233.length co40) t233 1 t251 t252 t253 w _ ?side1 ?side2 ?side3 A95.out).mono ?_); (case side1 => repeat (first | (with_reducible first | exact HB.out | apply below_alloc | apply pw_below_drewN | apply below_drew1 | refine below_set ?_ GE203.out | refine below_set ?_ GE220.out | refine below_set ?_ GE228.out | refine below_set ?_ GE237.out) | exact HB.out)); (case side2 => exact Kd.R_tight rfl HO_238001.out); (case side3 => exact Kd.R_tight rfl HO_238002.out); rintro e w179 ⟨rfl, hy0, hy1, hb, hkp⟩; refine ⟨_, rfl, ?_⟩; have n0_ := Aside0.mk (Kd.R_mono (ok' := fun k_ => some k_ ≠ (.slice Ao31 t248.length co31 : Value).ownBlock ∧ some k_ ≠ (.slice Ao39 t230.length co39 : Value).ownBlock) (Kd.R_keptB ((Kd.R_apart' HO_221001.out (Kd.R_typed HO_238002.out) (by decide))) hkp (fun k_ hk_ hs_ => Or.elim hs_ (fun e_ => (hk_.1.2) e_) (fun e_ => (hk_.2) e_))) (fun k_ hk_ => ⟨hk_.1.1.1, hk_.1.1.2⟩)); have n1_ := Aside0.mk (Kd.R_mono (ok' := fun k_ => some k_ ≠ (.slice Ao32 t249.length co32 : Value).ownBlock ∧ some k_ ≠ (.slice Ao40 t233.length co40 : Value).ownBlock) (Kd.R_keptB ((Kd.R_apart' HO_221002.out (Kd.R_typed HO_238001.out) (by decide))) hkp (fun k_ hk_ hs_ => Or.elim hs_ (fun e_ => (hk_.2) e_) (fun e_ => (hk_.1.2) e_))) (fun k_ hk_ => ⟨hk_.1.1.1, hk_.1.1.2⟩)); have n2_ := Aside0.mk (Kd.R_mono (ok' := fun k_ => some k_ ≠ (.slice Ao23 t213.length co23 : Value).ownBlock ∧ some k_ ≠ (.slice Ao39 t230.length co39 : Value).ownBlock) (Kd.R_keptB ((Kd.R_apart' HO_229001.out (Kd.R_typed HO_238002.out) (by decide))) hkp (fun k_ hk_ hs_ => Or.elim hs_ (fun e_ => (hk_.1.2) e_) (fun e_ => (hk_.2) e_))) (fun k_ hk_ => ⟨hk_.1.1.1, hk_.1.1.2⟩)); have n3_ := Aside0.mk (Kd.R_mono (ok' := fun k_ => some k_ ≠ (.slice Ao24 t216.length co24 : Value).ownBlock ∧ some k_ ≠ (.slice Ao40 t233.length co40 : Value).ownBlock) (Kd.R_keptB ((Kd.R_apart' HO_229002.out (Kd.R_typed HO_238001.out) (by decide))) hkp (fun k_ hk_ hs_ => Or.elim hs_ (fun e_ => (hk_.2) e_) (fun e_ => (hk_.1.2) e_))) (fun k_ hk_ => ⟨hk_.1.1.1, hk_.1.1.2⟩)); have n4_ := Aside0.mk (Kd.R_reok rfl hy0 (fun k_ e_ => HO_238001.out.1 k_ e_)); have n5_ := Aside0.mk (Kd.R_reok rfl hy1 (fun k_ e_ => HO_238002.out.1 k_ e_)); have n6_ := Aside0.mk (blk_kept (by (with_reducible repeat (first | refine blk_drewN ?_ _ | refine blk_drew ?_ | refine blk_alloc ?_ _)); exact BK203.out) hkp (fun hs_ => Or.elim hs_ (fun e_ => (fun e_ => (Kd.R_ne HO_238001.out BK203.out (by decide)) e_) e_) (fun e_ => (fun e_ => (Kd.R_ne HO_238002.out BK203.out (by decide)) e_) e_))); have n7_ := Aside0.mk (blk_kept (by (with_reducible repeat (first | refine blk_drewN ?_ _ | refine blk_drew ?_ | refine blk_alloc ?_ _)); exact BK220.out) hkp (fun hs_ => Or.elim hs_ (fun e_ => (fun e_ => (Kd.R_ne HO_238001.out BK220.out (by decide)) e_) e_) (fun e_ => (fun e_ => (Kd.R_ne HO_238002.out BK220.out (by decide)) e_) e_))); have n8_ := Aside0.mk (blk_kept (by (with_reducible repeat (first | refine blk_drewN ?_ _ | refine blk_drew ?_ | refine blk_alloc ?_ _)); exact BK228.out) hkp (fun hs_ => Or.elim hs_ (fun e_ => (fun e_ => (Kd.R_ne HO_238001.out BK228.out (by decide)) e_) e_) (fun e_ => (fun e_ => (Kd.R_ne HO_238002.out BK228.out (by decide)) e_) e_))); have n9_ := Aside0.mk (blk_kept (by (with_reducible repeat (first | refine blk_drewN ?_ _ | refine blk_drew ?_ | refine blk_alloc ?_ _)); exact BK237.out) hkp (fun hs_ => Or.elim hs_ (fun e_ => (fun e_ => (Kd.R_ne HO_238001.out BK237.out (by decide)) e_) e_) (fun e_ => (fun e_ => (Kd.R_ne HO_238002.out BK237.out (by decide)) e_) e_))); have n10_ := Aside0.mk (hb); clear HO_221001; clear HO_221002; clear HO_229001; clear HO_229002; clear HO_238001; clear HO_238002; clear BK203; clear BK220; clear BK228; clear BK237; clear HB; have HO_221001 := n0_; have HO_221002 := n1_; have HO_229001 := n2_; have HO_229002 := n3_; have HO_238001 := n4_; have HO_238002 := n5_; have BK203 := n6_; have BK220 := n7_; have BK228 := n8_; have BK237 := n9_; have HB := n10_; clear n0_ n1_ n2_ n3_ n4_ n5_ n6_ n7_ n8_ n9_ n10_; (try clear hb); (try clear hkp); (try clear hy0); (try clear hy1); have hcz180_0 : w179.cell? ⟨gb237, 0, none⟩ = some (.int .i64 t229) := (blk_cell BK237.out 0).trans rfl; have hcz180_1 : w179.cell? ⟨gb237, 1, none⟩ = some (.slice Ao39 t230.length co39) := (blk_cell BK237.out 1).trans rfl; have hcz180_2 : w179.cell? ⟨gb237, 2, none⟩ = some (.slice Ao40 t233.length co40) := (blk_cell BK237.out 2).trans rfl; have hfz180_0 := blk_frozen BK237.out 0; have hfz180_1 := blk_frozen BK237.out 1; have hfz180_2 := blk_frozen BK237.out 2) | ((with_reducible refine gate_callee (f := 21) rfl ?_); refine goesL_ (some 67) rfl rfl Try.func21 (by kernel_rfl) rfl #[.agg #[.int .i64 t229, .slice Ao39 t252.length co39, .slice Ao40 t253.length co40], .int .i64 1] rfl (by (try simp only [List.map_toArray, List.map_cons, List.map_nil]); first | done | (rw [show t252.length = t230.length from (Kd.R_reads' HO_238001.out).1.symm, show t253.length = t233.length from (Kd.R_reads' HO_238002.out).1.symm] <;> rfl) | rfl | (simp only [List.length_drop, List.length_take]; rfl)) ?_; (with_reducible refine (laws_heldAutomaton.calls kj63 t229 _ _ t252 _ _ t253 1 t254 _ ?side1 ?side2 ?side3 ?side4 A96.out).mono ?_); (case side1 => repeat (first | exact (Kd.R_reads' HO_238001.out).2.2 | (with_reducible refine Kd.C_alloc ?_ _) | (with_reducible refine Kd.C_drewN ?_ _) | (with_reducible refine Kd.C_drew ?_))); (case side2 => rw [show t252.length = t230.length from (Kd.R_reads' HO_238001.out).1.symm]; exact (Kd.R_reads' HO_238001.out).2.1); (case side3 => repeat (first | exact (Kd.R_reads' HO_238002.out).2.2 | (with_reducible refine Kd.C_alloc ?_ _) | (with_reducible refine Kd.C_drewN ?_ _) | (with_reducible refine Kd.C_drew ?_))); (case side4 => rw [show t253.length = t233.length from (Kd.R_reads' HO_238002.out).1.symm]; exact (Kd.R_reads' HO_238002.out).2.1); rintro e w181 ⟨rfl, hb⟩; refine ⟨_, rfl, ?_⟩; have n0_ := Aside0.mk (Kd.R_below (by (with_reducible repeat (first | apply Kd.R_alloc | apply Kd.R_drewN | apply Kd.R_drew)); exact HO_221001.out) hb); have n1_ := Aside0.mk (Kd.R_below (by (with_reducible repeat (first | apply Kd.R_alloc | apply Kd.R_drewN | apply Kd.R_drew)); exact HO_221002.out) hb); have n2_ := Aside0.mk (Kd.R_below (by (with_reducible repeat (first | apply Kd.R_alloc | apply Kd.R_drewN | apply Kd.R_drew)); exact HO_229001.out) hb); have n3_ := Aside0.mk (Kd.R_below (by (with_reducible repeat (first | apply Kd.R_alloc | apply Kd.R_drewN | apply Kd.R_drew)); exact HO_229002.out) hb); have n4_ := Aside0.mk (Kd.R_below (by (with_reducible repeat (first | apply Kd.R_alloc | apply Kd.R_drewN | apply Kd.R_drew)); exact HO_238001.out) hb); have n5_ := Aside0.mk (Kd.R_below (by (with_reducible repeat (first | apply Kd.R_alloc | apply Kd.R_drewN | apply Kd.R_drew)); exact HO_238002.out) hb); have n6_ := Aside0.mk (blk_below (g := gb203) (o := .cells #[.int .i64 a0_0, .slice A0_1 l0_1.length c0_1, .slice A0_2 l0_2.length c0_2] 25 (0, 0)) (by (with_reducible repeat (first | refine blk_drewN ?_ _ | refine blk_drew ?_ | refine blk_alloc ?_ _)); exact BK203.out) hb); have n7_ := Aside0.mk (blk_below (g := gb220) (o := .cells #[.int .i64 t212, .slice Ao23 t213.length co23, .slice Ao24 t216.length co24] 27 (0, 0)) (by (with_reducible repeat (first | refine blk_drewN ?_ _ | refine blk_drew ?_ | refine blk_alloc ?_ _)); exact BK220.out) hb); have n8_ := Aside0.mk (blk_below (g := gb228) (o := .cells #[.int .i64 t221, .slice Ao31 t248.length co31, .slice Ao32 t249.length co32] 27 (0, 0)) (by (with_reducible repeat (first | refine blk_drewN ?_ _ | refine blk_drew ?_ | refine blk_alloc ?_ _)); exact BK228.out) hb); have n9_ := Aside0.mk (blk_below (g := gb237) (o := .cells #[.int .i64 t229, .slice Ao39 t230.length co39, .slice Ao40 t233.length co40] 27 (0, 0)) (by (with_reducible repeat (first | refine blk_drewN ?_ _ | refine blk_drew ?_ | refine blk_alloc ?_ _)); exact BK237.out) hb); have n10_ := Aside0.mk (below_step (by repeat (first | (with_reducible first | exact HB.out | apply below_alloc | apply pw_below_drewN | apply below_drew1 | refine below_set ?_ GE203.out | refine below_set ?_ GE220.out | refine below_set ?_ GE228.out | refine below_set ?_ GE237.out) | exact HB.out)) hb); clear HO_221001; clear HO_221002; clear HO_229001; clear HO_229002; clear HO_238001; clear HO_238002; clear BK203; clear BK220; clear BK228; clear BK237; clear HB; have HO_221001 := n0_; have HO_221002 := n1_; have HO_229001 := n2_; have HO_229002 := n3_; have HO_238001 := n4_; have HO_238002 := n5_; have BK203 := n6_; have BK220 := n7_; have BK228 := n8_; have BK237 := n9_; have HB := n10_; clear n0_ n1_ n2_ n3_ n4_ n5_ n6_ n7_ n8_ n9_ n10_; (try clear hb); (try clear hb2); (try clear hk); (try clear hi)))
           go_ret
           exact ⟨by first | rfl | (simp [errW_none, errW_some] <;> rfl) | (simp [*, errW_none, errW_some] <;> rfl), by repeat (first | (with_reducible first | exact HB.out | apply below_alloc | apply pw_below_drewN | apply below_drew1 | refine below_set ?_ GE203.out | refine below_set ?_ GE220.out | refine below_set ?_ GE228.out | refine below_set ?_ GE237.out) | exact HB.out)⟩
     ·replace c62 := Bool.eq_false_iff.mpr c62
      subst c62
      have H1 : (some false) = some r := by rw [if_neg (show ¬ (false = true) by decide)] at H; exact H
      clear H
      have H := H1
      clear H1
      obtain rfl := Option.some.inj H
      try go_wp2
      have n0_ := Aside0.mk (Kd.R_drew HO_221001.out)
      have n1_ := Aside0.mk (Kd.R_drew HO_221002.out)
      have n2_ := Aside0.mk (Kd.R_drew HO_229001.out)
      have n3_ := Aside0.mk (Kd.R_drew HO_229002.out)
      have n4_ := Aside0.mk (Kd.R_drew HO_238001.out)
      have n5_ := Aside0.mk (Kd.R_drew HO_238002.out)
      have n6_ := Aside0.mk (blk_drew BK203.out)
      have n7_ := Aside0.mk (blk_drew BK220.out)
      have n8_ := Aside0.mk (blk_drew BK228.out)
      have n9_ := Aside0.mk (blk_drew BK237.out)
      have n10_ := Aside0.mk (below_drew1 HB.out)
      clear HO_221001
      clear HO_221002
      clear HO_229001
      clear HO_229002
      clear HO_238001
      clear HO_238002
      clear BK203
      clear BK220
      clear BK228
      clear BK237
      clear HB
      have HO_221001 := n0_
      have HO_221002 := n1_
      have HO_229001 := n2_
      have HO_229002 := n3_
      have HO_238001 := n4_
      have HO_238002 := n5_
      have BK203 := n6_
      have BK220 := n7_
      have BK228 := n8_
      have BK237 := n9_
      have HB := n10_
      clear n0_ n1_ n2_ n3_ n4_ n5_ n6_ n7_ n8_ n9_ n10_
      refine start_ (n := 5) (S := fun w' => w'.cell? ⟨gb228, 0, none⟩ = some (.int .i64 t221) ∧ w'.cell? ⟨gb228, 1, none⟩ = some (.slice Ao31 t222.length co31) ∧ w'.cell? ⟨gb228, 2, none⟩ = some (.slice Ao32 t225.length co32) ∧ w'.cell? ⟨gb203, 0, none⟩ = some (.int .i64 a0_0) ∧ w'.cell? ⟨gb203, 1, none⟩ = some (.slice A0_1 l0_1.length c0_1) ∧ w'.cell? ⟨gb203, 2, none⟩ = some (.slice A0_2 l0_2.length c0_2)) (ds := []) #[false, false, false, false, false] (by kernel_rfl) rfl rfl ⟨(blk_cell BK228.out 0).trans rfl, (blk_cell BK228.out 1).trans rfl, (blk_cell BK228.out 2).trans rfl, (blk_cell BK203.out 0).trans rfl, (blk_cell BK203.out 1).trans rfl, (blk_cell BK203.out 2).trans rfl⟩ (fun hHeld => ?_)
      generalize wc.drew = w182 at HO_221001 HO_221002 HO_229001 HO_229002 HO_238001 HO_238002 BK203 BK220 BK228 BK237 HB hHeld ⊢
      refine take_ (i := 0) (N := some 41) (v := ?_) (a' := ?_) #[true, false, false, false, false] rfl rfl (by kernel_rfl) (fun _ _ _ h => h) (Or.inl ⟨by rfl, ?_⟩) hHeld ?_ ?_
      rotate_left
      ·rintro w' ⟨s0, s1, s2, s3, s4, s5⟩
       go_simp
       with_reducible rfl
      rotate_left
      ·simp only [Act.put, List.setIfInBounds_toArray, List.set_cons_zero, List.set_cons_succ, i64_w, i32_w]
       rfl
      refine take_ (i := 1) (N := some 42) (v := ?_) (a' := ?_) #[true, true, false, false, false] rfl rfl (by kernel_rfl) (fun _ _ _ h => h) (Or.inl ⟨by rfl, ?_⟩) hHeld ?_ ?_
      rotate_left
      ·rintro w' ⟨s0, s1, s2, s3, s4, s5⟩
       go_simp
       with_reducible rfl
      rotate_left
      ·simp only [Act.put, List.setIfInBounds_toArray, List.set_cons_zero, List.set_cons_succ, i64_w, i32_w]
       rfl
      refine one_ (i := 2) (N := some 43) #[true, true, true, false, false] rfl rfl (by kernel_rfl) (by decide) (fun K hK => ?_)
      refine goes_ Try.func17 (by kernel_rfl) rfl #[.agg #[.int .i64 a0_0, .slice A0_1 l0_1.length c0_1, .slice A0_2 l0_2.length c0_2]] (by rfl) rfl rfl (by (try simp only [List.map_toArray, List.map_cons, List.map_nil]); first | done | rfl | (simp only [Base.w64_u8]; rfl) | (simp only [List.length_drop, List.length_take]; rfl)) ?_
      with_reducible refine (laws_toAutomaton.calls kj10 a0_0 _ _ l0_1 _ _ l0_2 t239 t240 t243 _ ?side1 ?side2 ?side3 ?side4 A60.out).mono ?_
      (case side1 => repeat (first | exact (Kd.C_below HR0_1.out HB.out) | (with_reducible refine Kd.C_alloc ?_ _) | (with_reducible refine Kd.C_drewN ?_ _) | (with_reducible refine Kd.C_drew ?_)))
      (case side2 => exact HC0_1.out)
      (case side3 => repeat (first | exact (Kd.C_below HR0_2.out HB.out) | (with_reducible refine Kd.C_alloc ?_ _) | (with_reducible refine Kd.C_drewN ?_ _) | (with_reducible refine Kd.C_drew ?_)))
      (case side4 => exact HC0_2.out)
      rintro e w183 ⟨v241, v244, rfl, ho0, ho1, hb⟩
      refine ⟨_, rfl, ?_⟩
      have n0_ := Aside0.mk (Kd.R_elder' (by (with_reducible repeat (first | apply Kd.R_alloc | apply Kd.R_drewN | apply Kd.R_drew)); exact HO_221001.out) (Kd.R_base ho0) hb)
      have n1_ := Aside0.mk (Kd.R_elder' (by (with_reducible repeat (first | apply Kd.R_alloc | apply Kd.R_drewN | apply Kd.R_drew)); exact HO_221002.out) (Kd.R_base ho1) hb)
      have n2_ := Aside0.mk (Kd.R_elder' (by (with_reducible repeat (first | apply Kd.R_alloc | apply Kd.R_drewN | apply Kd.R_drew)); exact HO_229001.out) (Kd.R_base ho0) hb)
      have n3_ := Aside0.mk (Kd.R_elder' (by (with_reducible repeat (first | apply Kd.R_alloc | apply Kd.R_drewN | apply Kd.R_drew)); exact HO_229002.out) (Kd.R_base ho1) hb)
      have n4_ := Aside0.mk (Kd.R_elder' (by (with_reducible repeat (first | apply Kd.R_alloc | apply Kd.R_drewN | apply Kd.R_drew)); exact HO_238001.out) (Kd.R_base ho0) hb)
      have n5_ := Aside0.mk (Kd.R_elder' (by (with_reducible repeat (first | apply Kd.R_alloc | apply Kd.R_drewN | apply Kd.R_drew)); exact HO_238002.out) (Kd.R_base ho1) hb)
      have n6_ := Aside0.mk (Kd.R_lower (Kd.R_new' (Kd.R_new' (Kd.R_new' ho0 (Kd.R_lt (by (with_reducible repeat (first | apply Kd.R_alloc | apply Kd.R_drewN | apply Kd.R_drew)); exact HO_221001.out))) (Kd.R_lt (by (with_reducible repeat (first | apply Kd.R_alloc | apply Kd.R_drewN | apply Kd.R_drew)); exact HO_229001.out))) (Kd.R_lt (by (with_reducible repeat (first | apply Kd.R_alloc | apply Kd.R_drewN | apply Kd.R_drew)); exact HO_238001.out))) (below_size (by repeat (first | (with_reducible first | exact HB.out | apply below_alloc | apply pw_below_drewN | apply below_drew1 | refine below_set ?_ GE203.out | refine below_set ?_ GE220.out | refine below_set ?_ GE228.out | refine below_set ?_ GE237.out) | exact HB.out))))
      have n7_ := Aside0.mk (Kd.R_lower (Kd.R_new' (Kd.R_new' (Kd.R_new' ho1 (Kd.R_lt (by (with_reducible repeat (first | apply Kd.R_alloc | apply Kd.R_drewN | apply Kd.R_drew)); exact HO_221002.out))) (Kd.R_lt (by (with_reducible repeat (first | apply Kd.R_alloc | apply Kd.R_drewN | apply Kd.R_drew)); exact HO_229002.out))) (Kd.R_lt (by (with_reducible repeat (first | apply Kd.R_alloc | apply Kd.R_drewN | apply Kd.R_drew)); exact HO_238002.out))) (below_size (by repeat (first | (with_reducible first | exact HB.out | apply below_alloc | apply pw_below_drewN | apply below_drew1 | refine below_set ?_ GE203.out | refine below_set ?_ GE220.out | refine below_set ?_ GE228.out | refine below_set ?_ GE237.out) | exact HB.out))))
      have n8_ := Aside0.mk (blk_below (g := gb203) (o := .cells #[.int .i64 a0_0, .slice A0_1 l0_1.length c0_1, .slice A0_2 l0_2.length c0_2] 25 (0, 0)) (by (with_reducible repeat (first | refine blk_drewN ?_ _ | refine blk_drew ?_ | refine blk_alloc ?_ _)); exact BK203.out) hb)
      have n9_ := Aside0.mk (blk_below (g := gb220) (o := .cells #[.int .i64 t212, .slice Ao23 t213.length co23, .slice Ao24 t216.length co24] 27 (0, 0)) (by (with_reducible repeat (first | refine blk_drewN ?_ _ | refine blk_drew ?_ | refine blk_alloc ?_ _)); exact BK220.out) hb)
      have n10_ := Aside0.mk (blk_below (g := gb228) (o := .cells #[.int .i64 t221, .slice Ao31 t222.length co31, .slice Ao32 t225.length co32] 27 (0, 0)) (by (with_reducible repeat (first | refine blk_drewN ?_ _ | refine blk_drew ?_ | refine blk_alloc ?_ _)); exact BK228.out) hb)
      have n11_ := Aside0.mk (blk_below (g := gb237) (o := .cells #[.int .i64 t229, .slice Ao39 t230.length co39, .slice Ao40 t233.length co40] 27 (0, 0)) (by (with_reducible repeat (first | refine blk_drewN ?_ _ | refine blk_drew ?_ | refine blk_alloc ?_ _)); exact BK237.out) hb)
      have n12_ := Aside0.mk (below_step (by repeat (first | (with_reducible first | exact HB.out | apply below_alloc | apply pw_below_drewN | apply below_drew1 | refine below_set ?_ GE203.out | refine below_set ?_ GE220.out | refine below_set ?_ GE228.out | refine below_set ?_ GE237.out) | exact HB.out)) hb)
      clear HO_221001
      clear HO_221002
      clear HO_229001
      clear HO_229002
      clear HO_238001
      clear HO_238002
      clear BK203
      clear BK220
      clear BK228
      clear BK237
      clear HB
      have HO_221001 := n0_
      have HO_221002 := n1_
      have HO_229001 := n2_
      have HO_229002 := n3_
      have HO_238001 := n4_
      have HO_238002 := n5_
      have HO242 := n6_
      have HO245 := n7_
      have BK203 := n8_
      have BK220 := n9_
      have BK228 := n10_
      have BK237 := n11_
      have HB := n12_
      clear n0_ n1_ n2_ n3_ n4_ n5_ n6_ n7_ n8_ n9_ n10_ n11_ n12_
      (try clear hb)
      (try clear hb2)
      (try clear hk)
      (try clear hi)
      (try clear ho0)
      (try clear ho1)
      obtain ⟨Ao184, co184, eo184⟩ := Kd.R_slice HO242.out
      (first | subst eo184 | (injection eo184 with f1_ f2_ f3_; have f4_ := f1_.symm; have f5_ := f3_.symm; clear f1_ f2_ f3_; subst f4_; subst f5_))
      obtain ⟨Ao185, co185, eo185⟩ := Kd.R_slice HO245.out
      (first | subst eo185 | (injection eo185 with f1_ f2_ f3_; have f4_ := f1_.symm; have f5_ := f3_.symm; clear f1_ f2_ f3_; subst f4_; subst f5_))
      refine hK.out _ _ ⟨(blk_cell BK228.out 0).trans rfl, (blk_cell BK228.out 1).trans rfl, (blk_cell BK228.out 2).trans rfl, (blk_cell BK203.out 0).trans rfl, (blk_cell BK203.out 1).trans rfl, (blk_cell BK203.out 2).trans rfl⟩ (fun hHeld => ?_)
      clear hK K
      refine norm_ (a' := ?_) ?_ ?_
      rotate_left
      ·show Act.put _ (some 43) _ = _
       simp only [Act.put, List.setIfInBounds_toArray, List.set_cons_zero, List.set_cons_succ, i64_w, i32_w]
       rfl
      refine one_ (i := 3) (N := some 44) #[true, true, true, true, false] rfl rfl (by kernel_rfl) (by decide) (fun K hK => ?_)
      refine goes_ Try.func19 (by kernel_rfl) rfl #[.agg #[.int .i64 t221, .slice Ao31 t222.length co31, .slice Ao32 t225.length co32], .agg #[.int .i64 t239, .slice Ao184 t240.length co184, .slice Ao185 t243.length co185]] (by rfl) rfl rfl (by (try simp only [List.map_toArray, List.map_cons, List.map_nil]); first | done | rfl | (simp only [Base.w64_u8]; rfl) | (simp only [List.length_drop, List.length_take]; rfl)) ?_
      with_reducible refine (laws_eqAutomaton.calls kj10 t221 _ _ t222 _ _ t225 t239 _ _ t240 _ _ t243 false _ ?side1 ?side2 ?side3 ?side4 ?side5 ?side6 ?side7 ?side8 A61.out).mono ?_
      (case side1 => repeat (first | exact (Kd.R_reads' HO_229001.out).2.2 | (with_reducible refine Kd.C_alloc ?_ _) | (with_reducible refine Kd.C_drewN ?_ _) | (with_reducible refine Kd.C_drew ?_)))
      (case side2 => exact (Kd.R_reads' HO_229001.out).2.1)
      (case side3 => repeat (first | exact (Kd.R_reads' HO_229002.out).2.2 | (with_reducible refine Kd.C_alloc ?_ _) | (with_reducible refine Kd.C_drewN ?_ _) | (with_reducible refine Kd.C_drew ?_)))
      (case side4 => exact (Kd.R_reads' HO_229002.out).2.1)
      (case side5 => repeat (first | exact (Kd.R_reads' HO242.out).2.2 | (with_reducible refine Kd.C_alloc ?_ _) | (with_reducible refine Kd.C_drewN ?_ _) | (with_reducible refine Kd.C_drew ?_)))
      (case side6 => exact (Kd.R_reads' HO242.out).2.1)
      (case side7 => repeat (first | exact (Kd.R_reads' HO245.out).2.2 | (with_reducible refine Kd.C_alloc ?_ _) | (with_reducible refine Kd.C_drewN ?_ _) | (with_reducible refine Kd.C_drew ?_)))
      (case side8 => exact (Kd.R_reads' HO245.out).2.1)
      rintro e w186 ⟨rfl, hb⟩
      refine ⟨_, rfl, ?_⟩
      have n0_ := Aside0.mk (Kd.R_below (by (with_reducible repeat (first | apply Kd.R_alloc | apply Kd.R_drewN | apply Kd.R_drew)); exact HO_221001.out) hb)
      have n1_ := Aside0.mk (Kd.R_below (by (with_reducible repeat (first | apply Kd.R_alloc | apply Kd.R_drewN | apply Kd.R_drew)); exact HO_221002.out) hb)
      have n2_ := Aside0.mk (Kd.R_below (by (with_reducible repeat (first | apply Kd.R_alloc | apply Kd.R_drewN | apply Kd.R_drew)); exact HO_229001.out) hb)
      have n3_ := Aside0.mk (Kd.R_below (by (with_reducible repeat (first | apply Kd.R_alloc | apply Kd.R_drewN | apply Kd.R_drew)); exact HO_229002.out) hb)
      have n4_ := Aside0.mk (Kd.R_below (by (with_reducible repeat (first | apply Kd.R_alloc | apply Kd.R_drewN | apply Kd.R_drew)); exact HO_238001.out) hb)
      have n5_ := Aside0.mk (Kd.R_below (by (with_reducible repeat (first | apply Kd.R_alloc | apply Kd.R_drewN | apply Kd.R_drew)); exact HO_238002.out) hb)
      have n6_ := Aside0.mk (Kd.R_below (by (with_reducible repeat (first | apply Kd.R_alloc | apply Kd.R_drewN | apply Kd.R_drew)); exact HO242.out) hb)
      have n7_ := Aside0.mk (Kd.R_below (by (with_reducible repeat (first | apply Kd.R_alloc | apply Kd.R_drewN | apply Kd.R_drew)); exact HO245.out) hb)
      have n8_ := Aside0.mk (blk_below (g := gb203) (o := .cells #[.int .i64 a0_0, .slice A0_1 l0_1.length c0_1, .slice A0_2 l0_2.length c0_2] 25 (0, 0)) (by (with_reducible repeat (first | refine blk_drewN ?_ _ | refine blk_drew ?_ | refine blk_alloc ?_ _)); exact BK203.out) hb)
      have n9_ := Aside0.mk (blk_below (g := gb220) (o := .cells #[.int .i64 t212, .slice Ao23 t213.length co23, .slice Ao24 t216.length co24] 27 (0, 0)) (by (with_reducible repeat (first | refine blk_drewN ?_ _ | refine blk_drew ?_ | refine blk_alloc ?_ _)); exact BK220.out) hb)
      have n10_ := Aside0.mk (blk_below (g := gb228) (o := .cells #[.int .i64 t221, .slice Ao31 t222.length co31, .slice Ao32 t225.length co32] 27 (0, 0)) (by (with_reducible repeat (first | refine blk_drewN ?_ _ | refine blk_drew ?_ | refine blk_alloc ?_ _)); exact BK228.out) hb)
      have n11_ := Aside0.mk (blk_below (g := gb237) (o := .cells #[.int .i64 t229, .slice Ao39 t230.length co39, .slice Ao40 t233.length co40] 27 (0, 0)) (by (with_reducible repeat (first | refine blk_drewN ?_ _ | refine blk_drew ?_ | refine blk_alloc ?_ _)); exact BK237.out) hb)
      have n12_ := Aside0.mk (below_step (by repeat (first | (with_reducible first | exact HB.out | apply below_alloc | apply pw_below_drewN | apply below_drew1 | refine below_set ?_ GE203.out | refine below_set ?_ GE220.out | refine below_set ?_ GE228.out | refine below_set ?_ GE237.out) | exact HB.out)) hb)
      clear HO_221001
      clear HO_221002
      clear HO_229001
      clear HO_229002
      clear HO_238001
      clear HO_238002
      clear HO242
      clear HO245
      clear BK203
      clear BK220
      clear BK228
      clear BK237
      clear HB
      have HO_221001 := n0_
      have HO_221002 := n1_
      have HO_229001 := n2_
      have HO_229002 := n3_
      have HO_238001 := n4_
      have HO_238002 := n5_
      have HO242 := n6_
      have HO245 := n7_
      have BK203 := n8_
      have BK220 := n9_
      have BK228 := n10_
      have BK237 := n11_
      have HB := n12_
      clear n0_ n1_ n2_ n3_ n4_ n5_ n6_ n7_ n8_ n9_ n10_ n11_ n12_
      (try clear hb)
      (try clear hb2)
      (try clear hk)
      (try clear hi)
      refine hK.out _ _ ⟨(blk_cell BK228.out 0).trans rfl, (blk_cell BK228.out 1).trans rfl, (blk_cell BK228.out 2).trans rfl, (blk_cell BK203.out 0).trans rfl, (blk_cell BK203.out 1).trans rfl, (blk_cell BK203.out 2).trans rfl⟩ (fun hHeld => ?_)
      clear hK K
      refine norm_ (a' := ?_) ?_ ?_
      rotate_left
      ·show Act.put _ (some 44) _ = _
       simp only [Act.put, List.setIfInBounds_toArray, List.set_cons_zero, List.set_cons_succ, i64_w, i32_w]
       rfl
      refine pure_ (i := 4) (N := some 45) (v := ?_) (a' := ?_) #[true, true, true, true, true] rfl rfl (by kernel_rfl) (fun _ _ _ h => h) (Or.inl ⟨by rfl, ?_⟩) ?_ ?_
      rotate_left
      ·intro w'
       go_simp
       with_reducible rfl
      rotate_left
      ·simp only [Act.put, List.setIfInBounds_toArray, List.set_cons_zero, List.set_cons_succ, i64_w, i32_w]
       rfl
      refine done_ (by kernel_rfl) ?_
      try go_wp2
      go_ret
      exact ⟨by first | rfl | (simp [errW_none, errW_some] <;> rfl) | (simp [*, errW_none, errW_some] <;> rfl), by repeat (first | (with_reducible first | exact HB.out | apply below_alloc | apply pw_below_drewN | apply below_drew1 | refine below_set ?_ GE203.out | refine below_set ?_ GE220.out | refine below_set ?_ GE228.out | refine below_set ?_ GE237.out) | exact HB.out)⟩

end Go.Proofs.Ytajacklnhfjmpab.PFnExactComplementOf
