/- The walk of the law FnRisersFitOfAll where it answers true: printed by a program of this session over the kit print, and made short. No further condition. -/
import Derived.Test.YtbmdgmmegchmnaaDoorZR10
namespace Go.Proofs.YtbmdgmmegchmnaaDoor.R
open Go.RowKit Go.Proofs.YtbmdgmmegchmnaaDoorW.PrintWords Go.Proofs.YtbmdgmmegchmnaaDoorW.PrintLast Go.Proofs.YtbmdgmmegchmnaaDoorW.PrintMore
attribute [local go_sem] max2_int min2_int max_two min_two max_three min_three max_four min_four
set_option linter.unusedVariables false
set_option linter.unusedSimpArgs false
attribute [local go_sem high] eqA32
set_option maxHeartbeats 0 in
set_option maxRecDepth 100000 in
theorem laws_FnRisersFitOfAll.truly (k : Nat) (a0_0 : Int) (a0_1 : Int) (a0_2 : Int) (a1 : Int) (a2 : Int) (a3 : Int) (a4 : Int) (a5 : Int) (a6 : Int) (a7 : Int) (a8 : Int) (a9 : ByteArray) (w : World) (h : laws_FnRisersFitOfAll.f k a0_0 a0_1 a0_2 a1 a2 a3 a4 a5 a6 a7 a8 a9 = some true) (LA : Laid w) :
 Calls Tryd.prog 9 #[.agg #[.int .i64 a0_0, .int .i64 a0_1, .int .i64 a0_2], .int .i64 a1, .int .i64 a2, .int .i64 a3, .int .i64 a4, .int .i64 a5, .int .i64 a6, .int .i64 a7, .int .i64 a8, .string a9] w fun e w' => e = .returned (.bool true) ∧ Below w.heap.size w w' := by
 have HLA := Aside0.mk LA
 clear LA
 have hu32 := Tryd.underlying32
 have HB := Aside0.mk (Below.refl w.heap.size w)
 have H : (if (a9.size : Int) > 1048576 then (some true) else ((impl_WholeLine.f k a0_0 a0_1 a0_2).bind fun bt307 => ((spec_WholeLine.f k a0_0 a0_1 a0_2).bind fun bt309 => ((impl_HeightOf.f a0_0 a0_1 a0_2).bind fun bt311 => ((spec_HeightOf.f a0_0 a0_1 a0_2).bind fun bt313 => ((impl_RunOf.f a0_0 a0_1 a0_2).bind fun bt315 => ((spec_RunOf.f a0_0 a0_1 a0_2).bind fun bt317 => ((impl_SlopeOf.f k a0_0 a0_1 a0_2).bind fun bt319 => ((spec_SlopeOf.f k a0_0 a0_1 a0_2).bind fun bt322 => ((impl_PaceSum.f a0_0 a0_1 a0_2).bind fun bt325 => ((spec_PaceSum.f a0_0 a0_1 a0_2).bind fun bt327 => ((impl_LineSquare.f a0_0 a0_1 a0_2).bind fun bt329 => ((spec_LineSquare.f a0_0 a0_1 a0_2).bind fun bt331 => ((impl_FlightText.f a0_0 a0_1 a0_2).bind fun bt333 => ((spec_FlightText.f k a0_0 a0_1 a0_2).bind fun bt335 => (if (bt307.2 != bt309.2) = true then (laws_FnRisersFitOfAll.j0 k a1 a2 a3 a4 a5 a6 a7 a8 a9 bt307.1 bt307.2 bt311.1 bt311.2 bt315.1 bt319.1 bt319.2.1 bt325.1 bt329.1 bt333.1 true a0_0 a0_1 a0_2) else (if bt307.1 = bt309.1 then (if (bt311.2 != bt313.2) = true then (laws_FnRisersFitOfAll.j0 k a1 a2 a3 a4 a5 a6 a7 a8 a9 bt307.1 bt307.2 bt311.1 bt311.2 bt315.1 bt319.1 bt319.2.1 bt325.1 bt329.1 bt333.1 true a0_0 a0_1 a0_2) else (if bt311.1 = bt313.1 then (if (bt315.2 != bt317.2) = true then (laws_FnRisersFitOfAll.j0 k a1 a2 a3 a4 a5 a6 a7 a8 a9 bt307.1 bt307.2 bt311.1 bt311.2 bt315.1 bt319.1 bt319.2.1 bt325.1 bt329.1 bt333.1 true a0_0 a0_1 a0_2) else (if bt315.1 = bt317.1 then (if (bt319.2.2 != bt322.2.2) = true then (laws_FnRisersFitOfAll.j0 k a1 a2 a3 a4 a5 a6 a7 a8 a9 bt307.1 bt307.2 bt311.1 bt311.2 bt315.1 bt319.1 bt319.2.1 bt325.1 bt329.1 bt333.1 true a0_0 a0_1 a0_2) else (if bt319.1 = bt322.1 then (if bt319.2.1 = bt322.2.1 then (if (bt325.2 != bt327.2) = true then (laws_FnRisersFitOfAll.j0 k a1 a2 a3 a4 a5 a6 a7 a8 a9 bt307.1 bt307.2 bt311.1 bt311.2 bt315.1 bt319.1 bt319.2.1 bt325.1 bt329.1 bt333.1 true a0_0 a0_1 a0_2) else (if bt325.1 = bt327.1 then (if (bt329.2 != bt331.2) = true then (laws_FnRisersFitOfAll.j0 k a1 a2 a3 a4 a5 a6 a7 a8 a9 bt307.1 bt307.2 bt311.1 bt311.2 bt315.1 bt319.1 bt319.2.1 bt325.1 bt329.1 bt333.1 true a0_0 a0_1 a0_2) else (if bt329.1 = bt331.1 then (if (bt333.2 != bt335.2) = true then (laws_FnRisersFitOfAll.j0 k a1 a2 a3 a4 a5 a6 a7 a8 a9 bt307.1 bt307.2 bt311.1 bt311.2 bt315.1 bt319.1 bt319.2.1 bt325.1 bt329.1 bt333.1 true a0_0 a0_1 a0_2) else (if bt333.1.toList = bt335.1.toList then ((impl_IsFlight.f a0_0 a0_1 a0_2).bind fun t337 => (if (bt311.2 != t337) = true then (laws_FnRisersFitOfAll.j0 k a1 a2 a3 a4 a5 a6 a7 a8 a9 bt307.1 bt307.2 bt311.1 bt311.2 bt315.1 bt319.1 bt319.2.1 bt325.1 bt329.1 bt333.1 true a0_0 a0_1 a0_2) else ((impl_IsFlight.f a0_0 a0_1 a0_2).bind fun t338 => ((spec_IsFlight.f a0_0 a0_1 a0_2).bind fun t339 => (if (t338 != t339) = true then (laws_FnRisersFitOfAll.j0 k a1 a2 a3 a4 a5 a6 a7 a8 a9 bt307.1 bt307.2 bt311.1 bt311.2 bt315.1 bt319.1 bt319.2.1 bt325.1 bt329.1 bt333.1 true a0_0 a0_1 a0_2) else (if (bt315.2 != bt311.2) = true then (laws_FnRisersFitOfAll.j0 k a1 a2 a3 a4 a5 a6 a7 a8 a9 bt307.1 bt307.2 bt311.1 bt311.2 bt315.1 bt319.1 bt319.2.1 bt325.1 bt329.1 bt333.1 true a0_0 a0_1 a0_2) else (if (bt319.2.2 != bt311.2) = true then (laws_FnRisersFitOfAll.j0 k a1 a2 a3 a4 a5 a6 a7 a8 a9 bt307.1 bt307.2 bt311.1 bt311.2 bt315.1 bt319.1 bt319.2.1 bt325.1 bt329.1 bt333.1 true a0_0 a0_1 a0_2) else (if (bt325.2 != bt311.2) = true then (laws_FnRisersFitOfAll.j0 k a1 a2 a3 a4 a5 a6 a7 a8 a9 bt307.1 bt307.2 bt311.1 bt311.2 bt315.1 bt319.1 bt319.2.1 bt325.1 bt329.1 bt333.1 true a0_0 a0_1 a0_2) else (if (bt329.2 != bt311.2) = true then (laws_FnRisersFitOfAll.j0 k a1 a2 a3 a4 a5 a6 a7 a8 a9 bt307.1 bt307.2 bt311.1 bt311.2 bt315.1 bt319.1 bt319.2.1 bt325.1 bt329.1 bt333.1 true a0_0 a0_1 a0_2) else (if (bt333.2 != bt311.2) = true then (laws_FnRisersFitOfAll.j0 k a1 a2 a3 a4 a5 a6 a7 a8 a9 bt307.1 bt307.2 bt311.1 bt311.2 bt315.1 bt319.1 bt319.2.1 bt325.1 bt329.1 bt333.1 true a0_0 a0_1 a0_2) else (if bt307.2 = true then (laws_FnRisersFitOfAll.j0 k a1 a2 a3 a4 a5 a6 a7 a8 a9 bt307.1 bt307.2 bt311.1 bt311.2 bt315.1 bt319.1 bt319.2.1 bt325.1 bt329.1 bt333.1 (!bt311.2) a0_0 a0_1 a0_2) else (laws_FnRisersFitOfAll.j0 k a1 a2 a3 a4 a5 a6 a7 a8 a9 bt307.1 bt307.2 bt311.1 bt311.2 bt315.1 bt319.1 bt319.2.1 bt325.1 bt329.1 bt333.1 false a0_0 a0_1 a0_2)))))))))))) else (laws_FnRisersFitOfAll.j0 k a1 a2 a3 a4 a5 a6 a7 a8 a9 bt307.1 bt307.2 bt311.1 bt311.2 bt315.1 bt319.1 bt319.2.1 bt325.1 bt329.1 bt333.1 true a0_0 a0_1 a0_2))) else (laws_FnRisersFitOfAll.j0 k a1 a2 a3 a4 a5 a6 a7 a8 a9 bt307.1 bt307.2 bt311.1 bt311.2 bt315.1 bt319.1 bt319.2.1 bt325.1 bt329.1 bt333.1 true a0_0 a0_1 a0_2))) else (laws_FnRisersFitOfAll.j0 k a1 a2 a3 a4 a5 a6 a7 a8 a9 bt307.1 bt307.2 bt311.1 bt311.2 bt315.1 bt319.1 bt319.2.1 bt325.1 bt329.1 bt333.1 true a0_0 a0_1 a0_2))) else (laws_FnRisersFitOfAll.j0 k a1 a2 a3 a4 a5 a6 a7 a8 a9 bt307.1 bt307.2 bt311.1 bt311.2 bt315.1 bt319.1 bt319.2.1 bt325.1 bt329.1 bt333.1 true a0_0 a0_1 a0_2)) else (laws_FnRisersFitOfAll.j0 k a1 a2 a3 a4 a5 a6 a7 a8 a9 bt307.1 bt307.2 bt311.1 bt311.2 bt315.1 bt319.1 bt319.2.1 bt325.1 bt329.1 bt333.1 true a0_0 a0_1 a0_2))) else (laws_FnRisersFitOfAll.j0 k a1 a2 a3 a4 a5 a6 a7 a8 a9 bt307.1 bt307.2 bt311.1 bt311.2 bt315.1 bt319.1 bt319.2.1 bt325.1 bt329.1 bt333.1 true a0_0 a0_1 a0_2))) else (laws_FnRisersFitOfAll.j0 k a1 a2 a3 a4 a5 a6 a7 a8 a9 bt307.1 bt307.2 bt311.1 bt311.2 bt315.1 bt319.1 bt319.2.1 bt325.1 bt329.1 bt333.1 true a0_0 a0_1 a0_2))) else (laws_FnRisersFitOfAll.j0 k a1 a2 a3 a4 a5 a6 a7 a8 a9 bt307.1 bt307.2 bt311.1 bt311.2 bt315.1 bt319.1 bt319.2.1 bt325.1 bt329.1 bt333.1 true a0_0 a0_1 a0_2)))))))))))))))))) = some true := h
 clear h
 by_cases c11 : (a9.size : Int) > 1048576
 ·rw [if_pos c11] at H
  have c11b0 : decide (1048576 < (a9.size : Int)) = true := decide_eq_true c11
  have c11b1 : decide (1048576 < a9.size) = true := decide_eq_true (by omega)
  clear c11
  clear H
  go_enter Tryd.func9, Tryd.ntmps9
  go_wp2_with (first | ((with_reducible refine gate_dst (N := 10) rfl ?_); refine box_event ?hg (N := 10) ?hd (cs := #[.int .i64 a0_0, .int .i64 a0_1, .int .i64 a0_2]) (t := 32) ?hr ?_; (case hd => rfl); (case hg => rfl); (case hr => first | (go_simp; done) | (go_simp; rfl)); intro gb306 hg w12 hbox hb; have n0_ := Aside0.mk (below_step (by repeat (first | (with_reducible first | exact HB.out | apply bA_ | apply bN_ | apply bD_) | exact HB.out)) hb); have n1_ := Aside0.mk (hbox); have n2_ := Aside0.mk ((by rw [hg]; exact (below_size (by repeat (first | (with_reducible first | exact HB.out | apply bA_ | apply bN_ | apply bD_) | exact HB.out))) : w.heap.size ≤ gb306)); have n3_ := Aside0.mk ((by rw [hg]; exact (below_size (by repeat (first | (with_reducible first | exact HB.out | apply bA_ | apply bN_ | apply bD_) | exact HB.out))) : w.heap.size ≤ gb306)); clear HB; have HB := n0_; have BK306 := n1_; have GW306 := n2_; have GE306 := n3_; clear n0_ n1_ n2_ n3_; clear hb hbox hg))
  go_ret
  exact ⟨by first | rfl | rw [H] | (have h_ := eq_of_beq H; simp [h_]) | (simp [errW_none, errW_some] <;> rfl) | (simp [*, errW_none, errW_some] <;> rfl), by repeat (first | (with_reducible first | exact HB.out | apply bA_ | apply bN_ | apply bD_ | refine bS_ ?_ GE306.out) | exact HB.out)⟩
 rw [if_neg c11] at H
 have c11b0 : decide (1048576 < (a9.size : Int)) = false := decide_eq_false c11
 have c11b1 : decide (1048576 < a9.size) = false := decide_eq_false (by omega)
 clear c11
 replace H := Option.bind_eq_some_iff.mp H
 obtain ⟨⟨t307, t308⟩, A130, H⟩ := H
 try dsimp only at H
 have A13 := Aside0.mk A130
 clear A130
 replace H := Option.bind_eq_some_iff.mp H
 obtain ⟨⟨t309, t310⟩, A140, H⟩ := H
 try dsimp only at H
 have A14 := Aside0.mk A140
 clear A140
 replace H := Option.bind_eq_some_iff.mp H
 obtain ⟨⟨t311, t312⟩, A150, H⟩ := H
 try dsimp only at H
 have A15 := Aside0.mk A150
 clear A150
 replace H := Option.bind_eq_some_iff.mp H
 obtain ⟨⟨t313, t314⟩, A160, H⟩ := H
 try dsimp only at H
 have A16 := Aside0.mk A160
 clear A160
 replace H := Option.bind_eq_some_iff.mp H
 obtain ⟨⟨t315, t316⟩, A170, H⟩ := H
 try dsimp only at H
 have A17 := Aside0.mk A170
 clear A170
 replace H := Option.bind_eq_some_iff.mp H
 obtain ⟨⟨t317, t318⟩, A180, H⟩ := H
 try dsimp only at H
 have A18 := Aside0.mk A180
 clear A180
 replace H := Option.bind_eq_some_iff.mp H
 obtain ⟨⟨t319, t320, t321⟩, A190, H⟩ := H
 try dsimp only at H
 have A19 := Aside0.mk A190
 clear A190
 replace H := Option.bind_eq_some_iff.mp H
 obtain ⟨⟨t322, t323, t324⟩, A200, H⟩ := H
 try dsimp only at H
 have A20 := Aside0.mk A200
 clear A200
 replace H := Option.bind_eq_some_iff.mp H
 obtain ⟨⟨t325, t326⟩, A210, H⟩ := H
 try dsimp only at H
 have A21 := Aside0.mk A210
 clear A210
 replace H := Option.bind_eq_some_iff.mp H
 obtain ⟨⟨t327, t328⟩, A220, H⟩ := H
 try dsimp only at H
 have A22 := Aside0.mk A220
 clear A220
 replace H := Option.bind_eq_some_iff.mp H
 obtain ⟨⟨t329, t330⟩, A230, H⟩ := H
 try dsimp only at H
 have A23 := Aside0.mk A230
 clear A230
 replace H := Option.bind_eq_some_iff.mp H
 obtain ⟨⟨t331, t332⟩, A240, H⟩ := H
 try dsimp only at H
 have A24 := Aside0.mk A240
 clear A240
 replace H := Option.bind_eq_some_iff.mp H
 obtain ⟨⟨t333, t334⟩, A250, H⟩ := H
 try dsimp only at H
 have A25 := Aside0.mk A250
 clear A250
 replace H := Option.bind_eq_some_iff.mp H
 obtain ⟨⟨t335, t336⟩, A260, H⟩ := H
 try dsimp only at H
 have A26 := Aside0.mk A260
 clear A260
 have HC27 := Aside0.mk H
 clear H
 go_enter Tryd.func9, Tryd.ntmps9
 go_upto_region 17 with (first | ((with_reducible refine gate_dst (N := 10) rfl ?_); refine box_event ?hg (N := 10) ?hd (cs := #[.int .i64 a0_0, .int .i64 a0_1, .int .i64 a0_2]) (t := 32) ?hr ?_; (case hd => rfl); (case hg => rfl); (case hr => first | (go_simp; done) | (go_simp; rfl)); intro gb306 hg w28 hbox hb; have n0_ := Aside0.mk (below_step (by repeat (first | (with_reducible first | exact HB.out | apply bA_ | apply bN_ | apply bD_) | exact HB.out)) hb); have n1_ := Aside0.mk (hbox); have n2_ := Aside0.mk ((by rw [hg]; exact (below_size (by repeat (first | (with_reducible first | exact HB.out | apply bA_ | apply bN_ | apply bD_) | exact HB.out))) : w.heap.size ≤ gb306)); have n3_ := Aside0.mk ((by rw [hg]; exact (below_size (by repeat (first | (with_reducible first | exact HB.out | apply bA_ | apply bN_ | apply bD_) | exact HB.out))) : w.heap.size ≤ gb306)); clear HB; have HB := n0_; have BK306 := n1_; have GW306 := n2_; have GE306 := n3_; clear n0_ n1_ n2_ n3_; clear hb hbox hg; have hcz29_0 : w28.cell? ⟨gb306, 0, none⟩ = some (.int .i64 a0_0) := (blk_cell BK306.out 0).trans rfl; have hcz29_1 : w28.cell? ⟨gb306, 1, none⟩ = some (.int .i64 a0_1) := (blk_cell BK306.out 1).trans rfl; have hcz29_2 : w28.cell? ⟨gb306, 2, none⟩ = some (.int .i64 a0_2) := (blk_cell BK306.out 2).trans rfl; have hfz29_0 := blk_frozen BK306.out 0; have hfz29_1 := blk_frozen BK306.out 1; have hfz29_2 := blk_frozen BK306.out 2) | ((with_reducible refine gate_callee (f := 33) rfl ?_); refine goesL_ (some 91) rfl rfl Tryd.func33 (by kernel_rfl) rfl #[.agg #[.int .i64 a0_0, .int .i64 a0_1, .int .i64 a0_2]] rfl (by (try simp only [List.map_toArray, List.map_cons, List.map_nil]); first | done | rfl | (simp only [List.length_drop, List.length_take]; rfl)) ?_; (with_reducible refine (impl_WholeLine.calls k a0_0 a0_1 a0_2 t307 t308 _ A13.out).mono ?_); rintro e w30 ⟨rfl, hb⟩; refine ⟨_, rfl, ?_⟩; have n0_ := Aside0.mk (blk_below (g := gb306) (o := .cells #[.int .i64 a0_0, .int .i64 a0_1, .int .i64 a0_2] 32 (0, 0)) (by (with_reducible repeat (first | refine kN_ ?_ _ | refine kD_ ?_ | refine kA_ ?_ _)); exact BK306.out) hb); have n1_ := Aside0.mk (below_step (by repeat (first | (with_reducible first | exact HB.out | apply bA_ | apply bN_ | apply bD_ | refine bS_ ?_ GE306.out) | exact HB.out)) hb); clear BK306; clear HB; have BK306 := n0_; have HB := n1_; clear n0_ n1_; (try clear hb); (try clear hb2); (try clear hk); (try clear hi); have hcz31_0 : w30.cell? ⟨gb306, 0, none⟩ = some (.int .i64 a0_0) := (blk_cell BK306.out 0).trans rfl; have hcz31_1 : w30.cell? ⟨gb306, 1, none⟩ = some (.int .i64 a0_1) := (blk_cell BK306.out 1).trans rfl; have hcz31_2 : w30.cell? ⟨gb306, 2, none⟩ = some (.int .i64 a0_2) := (blk_cell BK306.out 2).trans rfl; have hfz31_0 := blk_frozen BK306.out 0; have hfz31_1 := blk_frozen BK306.out 1; have hfz31_2 := blk_frozen BK306.out 2) | ((with_reducible refine gate_callee (f := 34) rfl ?_); refine goesL_ (some 96) rfl rfl Tryd.func34 (by kernel_rfl) rfl #[.agg #[.int .i64 a0_0, .int .i64 a0_1, .int .i64 a0_2]] rfl (by (try simp only [List.map_toArray, List.map_cons, List.map_nil]); first | done | rfl | (simp only [List.length_drop, List.length_take]; rfl)) ?_; (with_reducible refine (spec_WholeLine.calls k a0_0 a0_1 a0_2 t309 t310 _ A14.out).mono ?_); rintro e w32 ⟨rfl, hb⟩; refine ⟨_, rfl, ?_⟩; have n0_ := Aside0.mk (blk_below (g := gb306) (o := .cells #[.int .i64 a0_0, .int .i64 a0_1, .int .i64 a0_2] 32 (0, 0)) (by (with_reducible repeat (first | refine kN_ ?_ _ | refine kD_ ?_ | refine kA_ ?_ _)); exact BK306.out) hb); have n1_ := Aside0.mk (below_step (by repeat (first | (with_reducible first | exact HB.out | apply bA_ | apply bN_ | apply bD_ | refine bS_ ?_ GE306.out) | exact HB.out)) hb); clear BK306; clear HB; have BK306 := n0_; have HB := n1_; clear n0_ n1_; (try clear hb); (try clear hb2); (try clear hk); (try clear hi); have hcz33_0 : w32.cell? ⟨gb306, 0, none⟩ = some (.int .i64 a0_0) := (blk_cell BK306.out 0).trans rfl; have hcz33_1 : w32.cell? ⟨gb306, 1, none⟩ = some (.int .i64 a0_1) := (blk_cell BK306.out 1).trans rfl; have hcz33_2 : w32.cell? ⟨gb306, 2, none⟩ = some (.int .i64 a0_2) := (blk_cell BK306.out 2).trans rfl; have hfz33_0 := blk_frozen BK306.out 0; have hfz33_1 := blk_frozen BK306.out 1; have hfz33_2 := blk_frozen BK306.out 2) | ((with_reducible refine gate_callee (f := 35) rfl ?_); refine goesL_ (some 101) rfl rfl Tryd.func35 (by kernel_rfl) rfl #[.agg #[.int .i64 a0_0, .int .i64 a0_1, .int .i64 a0_2]] rfl (by (try simp only [List.map_toArray, List.map_cons, List.map_nil]); first | done | rfl | (simp only [List.length_drop, List.length_take]; rfl)) ?_; (with_reducible refine (impl_HeightOf.calls a0_0 a0_1 a0_2 t311 t312 _ A15.out).mono ?_); rintro e w34 ⟨rfl, hb⟩; refine ⟨_, rfl, ?_⟩; have n0_ := Aside0.mk (blk_below (g := gb306) (o := .cells #[.int .i64 a0_0, .int .i64 a0_1, .int .i64 a0_2] 32 (0, 0)) (by (with_reducible repeat (first | refine kN_ ?_ _ | refine kD_ ?_ | refine kA_ ?_ _)); exact BK306.out) hb); have n1_ := Aside0.mk (below_step (by repeat (first | (with_reducible first | exact HB.out | apply bA_ | apply bN_ | apply bD_ | refine bS_ ?_ GE306.out) | exact HB.out)) hb); clear BK306; clear HB; have BK306 := n0_; have HB := n1_; clear n0_ n1_; (try clear hb); (try clear hb2); (try clear hk); (try clear hi); have hcz35_0 : w34.cell? ⟨gb306, 0, none⟩ = some (.int .i64 a0_0) := (blk_cell BK306.out 0).trans rfl; have hcz35_1 : w34.cell? ⟨gb306, 1, none⟩ = some (.int .i64 a0_1) := (blk_cell BK306.out 1).trans rfl; have hcz35_2 : w34.cell? ⟨gb306, 2, none⟩ = some (.int .i64 a0_2) := (blk_cell BK306.out 2).trans rfl; have hfz35_0 := blk_frozen BK306.out 0; have hfz35_1 := blk_frozen BK306.out 1; have hfz35_2 := blk_frozen BK306.out 2) | ((with_reducible refine gate_callee (f := 36) rfl ?_); refine goesL_ (some 106) rfl rfl Tryd.func36 (by kernel_rfl) rfl #[.agg #[.int .i64 a0_0, .int .i64 a0_1, .int .i64 a0_2]] rfl (by (try simp only [List.map_toArray, List.map_cons, List.map_nil]); first | done | rfl | (simp only [List.length_drop, List.length_take]; rfl)) ?_; (with_reducible refine (spec_HeightOf.calls a0_0 a0_1 a0_2 t313 t314 _ A16.out).mono ?_); rintro e w36 ⟨rfl, hb⟩; refine ⟨_, rfl, ?_⟩; have n0_ := Aside0.mk (blk_below (g := gb306) (o := .cells #[.int .i64 a0_0, .int .i64 a0_1, .int .i64 a0_2] 32 (0, 0)) (by (with_reducible repeat (first | refine kN_ ?_ _ | refine kD_ ?_ | refine kA_ ?_ _)); exact BK306.out) hb); have n1_ := Aside0.mk (below_step (by repeat (first | (with_reducible first | exact HB.out | apply bA_ | apply bN_ | apply bD_ | refine bS_ ?_ GE306.out) | exact HB.out)) hb); clear BK306; clear HB; have BK306 := n0_; have HB := n1_; clear n0_ n1_; (try clear hb); (try clear hb2); (try clear hk); (try clear hi); have hcz37_0 : w36.cell? ⟨gb306, 0, none⟩ = some (.int .i64 a0_0) := (blk_cell BK306.out 0).trans rfl; have hcz37_1 : w36.cell? ⟨gb306, 1, none⟩ = some (.int .i64 a0_1) := (blk_cell BK306.out 1).trans rfl; have hcz37_2 : w36.cell? ⟨gb306, 2, none⟩ = some (.int .i64 a0_2) := (blk_cell BK306.out 2).trans rfl; have hfz37_0 := blk_frozen BK306.out 0; have hfz37_1 := blk_frozen BK306.out 1; have hfz37_2 := blk_frozen BK306.out 2) | ((with_reducible refine gate_callee (f := 37) rfl ?_); refine goesL_ (some 111) rfl rfl Tryd.func37 (by kernel_rfl) rfl #[.agg #[.int .i64 a0_0, .int .i64 a0_1, .int .i64 a0_2]] rfl (by (try simp only [List.map_toArray, List.map_cons, List.map_nil]); first | done | rfl | (simp only [List.length_drop, List.length_take]; rfl)) ?_; (with_reducible refine (impl_RunOf.calls a0_0 a0_1 a0_2 t315 t316 _ A17.out).mono ?_); rintro e w38 ⟨rfl, hb⟩; refine ⟨_, rfl, ?_⟩; have n0_ := Aside0.mk (blk_below (g := gb306) (o := .cells #[.int .i64 a0_0, .int .i64 a0_1, .int .i64 a0_2] 32 (0, 0)) (by (with_reducible repeat (first | refine kN_ ?_ _ | refine kD_ ?_ | refine kA_ ?_ _)); exact BK306.out) hb); have n1_ := Aside0.mk (below_step (by repeat (first | (with_reducible first | exact HB.out | apply bA_ | apply bN_ | apply bD_ | refine bS_ ?_ GE306.out) | exact HB.out)) hb); clear BK306; clear HB; have BK306 := n0_; have HB := n1_; clear n0_ n1_; (try clear hb); (try clear hb2); (try clear hk); (try clear hi); have hcz39_0 : w38.cell? ⟨gb306, 0, none⟩ = some (.int .i64 a0_0) := (blk_cell BK306.out 0).trans rfl; have hcz39_1 : w38.cell? ⟨gb306, 1, none⟩ = some (.int .i64 a0_1) := (blk_cell BK306.out 1).trans rfl; have hcz39_2 : w38.cell? ⟨gb306, 2, none⟩ = some (.int .i64 a0_2) := (blk_cell BK306.out 2).trans rfl; have hfz39_0 := blk_frozen BK306.out 0; have hfz39_1 := blk_frozen BK306.out 1; have hfz39_2 := blk_frozen BK306.out 2) | ((with_reducible refine gate_callee (f := 38) rfl ?_); refine goesL_ (some 116) rfl rfl Tryd.func38 (by kernel_rfl) rfl #[.agg #[.int .i64 a0_0, .int .i64 a0_1, .int .i64 a0_2]] rfl (by (try simp only [List.map_toArray, List.map_cons, List.map_nil]); first | done | rfl | (simp only [List.length_drop, List.length_take]; rfl)) ?_; (with_reducible refine (spec_RunOf.calls a0_0 a0_1 a0_2 t317 t318 _ A18.out).mono ?_); rintro e w40 ⟨rfl, hb⟩; refine ⟨_, rfl, ?_⟩; have n0_ := Aside0.mk (blk_below (g := gb306) (o := .cells #[.int .i64 a0_0, .int .i64 a0_1, .int .i64 a0_2] 32 (0, 0)) (by (with_reducible repeat (first | refine kN_ ?_ _ | refine kD_ ?_ | refine kA_ ?_ _)); exact BK306.out) hb); have n1_ := Aside0.mk (below_step (by repeat (first | (with_reducible first | exact HB.out | apply bA_ | apply bN_ | apply bD_ | refine bS_ ?_ GE306.out) | exact HB.out)) hb); clear BK306; clear HB; have BK306 := n0_; have HB := n1_; clear n0_ n1_; (try clear hb); (try clear hb2); (try clear hk); (try clear hi); have hcz41_0 : w40.cell? ⟨gb306, 0, none⟩ = some (.int .i64 a0_0) := (blk_cell BK306.out 0).trans rfl; have hcz41_1 : w40.cell? ⟨gb306, 1, none⟩ = some (.int .i64 a0_1) := (blk_cell BK306.out 1).trans rfl; have hcz41_2 : w40.cell? ⟨gb306, 2, none⟩ = some (.int .i64 a0_2) := (blk_cell BK306.out 2).trans rfl; have hfz41_0 := blk_frozen BK306.out 0; have hfz41_1 := blk_frozen BK306.out 1; have hfz41_2 := blk_frozen BK306.out 2) | ((with_reducible refine gate_callee (f := 39) rfl ?_); refine goesL_ (some 121) rfl rfl Tryd.func39 (by kernel_rfl) rfl #[.agg #[.int .i64 a0_0, .int .i64 a0_1, .int .i64 a0_2]] rfl (by (try simp only [List.map_toArray, List.map_cons, List.map_nil]); first | done | rfl | (simp only [List.length_drop, List.length_take]; rfl)) ?_; (with_reducible refine (impl_SlopeOf.calls k a0_0 a0_1 a0_2 t319 t320 t321 _ A19.out).mono ?_); rintro e w42 ⟨rfl, hb⟩; refine ⟨_, rfl, ?_⟩; have n0_ := Aside0.mk (blk_below (g := gb306) (o := .cells #[.int .i64 a0_0, .int .i64 a0_1, .int .i64 a0_2] 32 (0, 0)) (by (with_reducible repeat (first | refine kN_ ?_ _ | refine kD_ ?_ | refine kA_ ?_ _)); exact BK306.out) hb); have n1_ := Aside0.mk (below_step (by repeat (first | (with_reducible first | exact HB.out | apply bA_ | apply bN_ | apply bD_ | refine bS_ ?_ GE306.out) | exact HB.out)) hb); clear BK306; clear HB; have BK306 := n0_; have HB := n1_; clear n0_ n1_; (try clear hb); (try clear hb2); (try clear hk); (try clear hi); have hcz43_0 : w42.cell? ⟨gb306, 0, none⟩ = some (.int .i64 a0_0) := (blk_cell BK306.out 0).trans rfl; have hcz43_1 : w42.cell? ⟨gb306, 1, none⟩ = some (.int .i64 a0_1) := (blk_cell BK306.out 1).trans rfl; have hcz43_2 : w42.cell? ⟨gb306, 2, none⟩ = some (.int .i64 a0_2) := (blk_cell BK306.out 2).trans rfl; have hfz43_0 := blk_frozen BK306.out 0; have hfz43_1 := blk_frozen BK306.out 1; have hfz43_2 := blk_frozen BK306.out 2) | ((with_reducible refine gate_callee (f := 40) rfl ?_); refine goesL_ (some 127) rfl rfl Tryd.func40 (by kernel_rfl) rfl #[.agg #[.int .i64 a0_0, .int .i64 a0_1, .int .i64 a0_2]] rfl (by (try simp only [List.map_toArray, List.map_cons, List.map_nil]); first | done | rfl | (simp only [List.length_drop, List.length_take]; rfl)) ?_; (with_reducible refine (spec_SlopeOf.calls k a0_0 a0_1 a0_2 t322 t323 t324 _ A20.out).mono ?_); rintro e w44 ⟨rfl, hb⟩; refine ⟨_, rfl, ?_⟩; have n0_ := Aside0.mk (blk_below (g := gb306) (o := .cells #[.int .i64 a0_0, .int .i64 a0_1, .int .i64 a0_2] 32 (0, 0)) (by (with_reducible repeat (first | refine kN_ ?_ _ | refine kD_ ?_ | refine kA_ ?_ _)); exact BK306.out) hb); have n1_ := Aside0.mk (below_step (by repeat (first | (with_reducible first | exact HB.out | apply bA_ | apply bN_ | apply bD_ | refine bS_ ?_ GE306.out) | exact HB.out)) hb); clear BK306; clear HB; have BK306 := n0_; have HB := n1_; clear n0_ n1_; (try clear hb); (try clear hb2); (try clear hk); (try clear hi); have hcz45_0 : w44.cell? ⟨gb306, 0, none⟩ = some (.int .i64 a0_0) := (blk_cell BK306.out 0).trans rfl; have hcz45_1 : w44.cell? ⟨gb306, 1, none⟩ = some (.int .i64 a0_1) := (blk_cell BK306.out 1).trans rfl; have hcz45_2 : w44.cell? ⟨gb306, 2, none⟩ = some (.int .i64 a0_2) := (blk_cell BK306.out 2).trans rfl; have hfz45_0 := blk_frozen BK306.out 0; have hfz45_1 := blk_frozen BK306.out 1; have hfz45_2 := blk_frozen BK306.out 2) | ((with_reducible refine gate_callee (f := 41) rfl ?_); refine goesL_ (some 133) rfl rfl Tryd.func41 (by kernel_rfl) rfl #[.agg #[.int .i64 a0_0, .int .i64 a0_1, .int .i64 a0_2]] rfl (by (try simp only [List.map_toArray, List.map_cons, List.map_nil]); first | done | rfl | (simp only [List.length_drop, List.length_take]; rfl)) ?_; (with_reducible refine (impl_PaceSum.calls a0_0 a0_1 a0_2 t325 t326 _ A21.out).mono ?_); rintro e w46 ⟨rfl, hb⟩; refine ⟨_, rfl, ?_⟩; have n0_ := Aside0.mk (blk_below (g := gb306) (o := .cells #[.int .i64 a0_0, .int .i64 a0_1, .int .i64 a0_2] 32 (0, 0)) (by (with_reducible repeat (first | refine kN_ ?_ _ | refine kD_ ?_ | refine kA_ ?_ _)); exact BK306.out) hb); have n1_ := Aside0.mk (below_step (by repeat (first | (with_reducible first | exact HB.out | apply bA_ | apply bN_ | apply bD_ | refine bS_ ?_ GE306.out) | exact HB.out)) hb); clear BK306; clear HB; have BK306 := n0_; have HB := n1_; clear n0_ n1_; (try clear hb); (try clear hb2); (try clear hk); (try clear hi); have hcz47_0 : w46.cell? ⟨gb306, 0, none⟩ = some (.int .i64 a0_0) := (blk_cell BK306.out 0).trans rfl; have hcz47_1 : w46.cell? ⟨gb306, 1, none⟩ = some (.int .i64 a0_1) := (blk_cell BK306.out 1).trans rfl; have hcz47_2 : w46.cell? ⟨gb306, 2, none⟩ = some (.int .i64 a0_2) := (blk_cell BK306.out 2).trans rfl; have hfz47_0 := blk_frozen BK306.out 0; have hfz47_1 := blk_frozen BK306.out 1; have hfz47_2 := blk_frozen BK306.out 2) | ((with_reducible refine gate_callee (f := 42) rfl ?_); refine goesL_ (some 138) rfl rfl Tryd.func42 (by kernel_rfl) rfl #[.agg #[.int .i64 a0_0, .int .i64 a0_1, .int .i64 a0_2]] rfl (by (try simp only [List.map_toArray, List.map_cons, List.map_nil]); first | done | rfl | (simp only [List.length_drop, List.length_take]; rfl)) ?_; (with_reducible refine (spec_PaceSum.calls a0_0 a0_1 a0_2 t327 t328 _ A22.out).mono ?_); rintro e w48 ⟨rfl, hb⟩; refine ⟨_, rfl, ?_⟩; have n0_ := Aside0.mk (blk_below (g := gb306) (o := .cells #[.int .i64 a0_0, .int .i64 a0_1, .int .i64 a0_2] 32 (0, 0)) (by (with_reducible repeat (first | refine kN_ ?_ _ | refine kD_ ?_ | refine kA_ ?_ _)); exact BK306.out) hb); have n1_ := Aside0.mk (below_step (by repeat (first | (with_reducible first | exact HB.out | apply bA_ | apply bN_ | apply bD_ | refine bS_ ?_ GE306.out) | exact HB.out)) hb); clear BK306; clear HB; have BK306 := n0_; have HB := n1_; clear n0_ n1_; (try clear hb); (try clear hb2); (try clear hk); (try clear hi); have hcz49_0 : w48.cell? ⟨gb306, 0, none⟩ = some (.int .i64 a0_0) := (blk_cell BK306.out 0).trans rfl; have hcz49_1 : w48.cell? ⟨gb306, 1, none⟩ = some (.int .i64 a0_1) := (blk_cell BK306.out 1).trans rfl; have hcz49_2 : w48.cell? ⟨gb306, 2, none⟩ = some (.int .i64 a0_2) := (blk_cell BK306.out 2).trans rfl; have hfz49_0 := blk_frozen BK306.out 0; have hfz49_1 := blk_frozen BK306.out 1; have hfz49_2 := blk_frozen BK306.out 2) | ((with_reducible refine gate_callee (f := 43) rfl ?_); refine goesL_ (some 143) rfl rfl Tryd.func43 (by kernel_rfl) rfl #[.agg #[.int .i64 a0_0, .int .i64 a0_1, .int .i64 a0_2]] rfl (by (try simp only [List.map_toArray, List.map_cons, List.map_nil]); first | done | rfl | (simp only [List.length_drop, List.length_take]; rfl)) ?_; (with_reducible refine (impl_LineSquare.calls a0_0 a0_1 a0_2 t329 t330 _ A23.out).mono ?_); rintro e w50 ⟨rfl, hb⟩; refine ⟨_, rfl, ?_⟩; have n0_ := Aside0.mk (blk_below (g := gb306) (o := .cells #[.int .i64 a0_0, .int .i64 a0_1, .int .i64 a0_2] 32 (0, 0)) (by (with_reducible repeat (first | refine kN_ ?_ _ | refine kD_ ?_ | refine kA_ ?_ _)); exact BK306.out) hb); have n1_ := Aside0.mk (below_step (by repeat (first | (with_reducible first | exact HB.out | apply bA_ | apply bN_ | apply bD_ | refine bS_ ?_ GE306.out) | exact HB.out)) hb); clear BK306; clear HB; have BK306 := n0_; have HB := n1_; clear n0_ n1_; (try clear hb); (try clear hb2); (try clear hk); (try clear hi); have hcz51_0 : w50.cell? ⟨gb306, 0, none⟩ = some (.int .i64 a0_0) := (blk_cell BK306.out 0).trans rfl; have hcz51_1 : w50.cell? ⟨gb306, 1, none⟩ = some (.int .i64 a0_1) := (blk_cell BK306.out 1).trans rfl; have hcz51_2 : w50.cell? ⟨gb306, 2, none⟩ = some (.int .i64 a0_2) := (blk_cell BK306.out 2).trans rfl; have hfz51_0 := blk_frozen BK306.out 0; have hfz51_1 := blk_frozen BK306.out 1; have hfz51_2 := blk_frozen BK306.out 2) | ((with_reducible refine gate_callee (f := 44) rfl ?_); refine goesL_ (some 148) rfl rfl Tryd.func44 (by kernel_rfl) rfl #[.agg #[.int .i64 a0_0, .int .i64 a0_1, .int .i64 a0_2]] rfl (by (try simp only [List.map_toArray, List.map_cons, List.map_nil]); first | done | rfl | (simp only [List.length_drop, List.length_take]; rfl)) ?_; (with_reducible refine (spec_LineSquare.calls a0_0 a0_1 a0_2 t331 t332 _ A24.out).mono ?_); rintro e w52 ⟨rfl, hb⟩; refine ⟨_, rfl, ?_⟩; have n0_ := Aside0.mk (blk_below (g := gb306) (o := .cells #[.int .i64 a0_0, .int .i64 a0_1, .int .i64 a0_2] 32 (0, 0)) (by (with_reducible repeat (first | refine kN_ ?_ _ | refine kD_ ?_ | refine kA_ ?_ _)); exact BK306.out) hb); have n1_ := Aside0.mk (below_step (by repeat (first | (with_reducible first | exact HB.out | apply bA_ | apply bN_ | apply bD_ | refine bS_ ?_ GE306.out) | exact HB.out)) hb); clear BK306; clear HB; have BK306 := n0_; have HB := n1_; clear n0_ n1_; (try clear hb); (try clear hb2); (try clear hk); (try clear hi); have hcz53_0 : w52.cell? ⟨gb306, 0, none⟩ = some (.int .i64 a0_0) := (blk_cell BK306.out 0).trans rfl; have hcz53_1 : w52.cell? ⟨gb306, 1, none⟩ = some (.int .i64 a0_1) := (blk_cell BK306.out 1).trans rfl; have hcz53_2 : w52.cell? ⟨gb306, 2, none⟩ = some (.int .i64 a0_2) := (blk_cell BK306.out 2).trans rfl; have hfz53_0 := blk_frozen BK306.out 0; have hfz53_1 := blk_frozen BK306.out 1; have hfz53_2 := blk_frozen BK306.out 2) | ((with_reducible refine gate_callee (f := 17) rfl ?_); refine goesL_ (some 153) rfl rfl Tryd.func17 (by kernel_rfl) rfl #[.agg #[.int .i64 a0_0, .int .i64 a0_1, .int .i64 a0_2]] rfl (by (try simp only [List.map_toArray, List.map_cons, List.map_nil]); first | done | rfl | (simp only [List.length_drop, List.length_take]; rfl)) ?_; (with_reducible refine (impl_FlightText.calls a0_0 a0_1 a0_2 t333 t334 _ A25.out (Laid.below HLA.out (by repeat (first | (with_reducible first | exact HB.out | apply bA_ | apply bN_ | apply bD_ | refine bS_ ?_ GE306.out | refine bS_ ?_ GE344.out | refine bS_ ?_ GE378.out | refine bS_ ?_ GE383.out | refine bS_ ?_ GE400.out) | exact HB.out)))).mono ?_); rintro e w54 ⟨rfl, hb⟩; refine ⟨_, rfl, ?_⟩; have n0_ := Aside0.mk (blk_below (g := gb306) (o := .cells #[.int .i64 a0_0, .int .i64 a0_1, .int .i64 a0_2] 32 (0, 0)) (by (with_reducible repeat (first | refine kN_ ?_ _ | refine kD_ ?_ | refine kA_ ?_ _)); exact BK306.out) hb); have n1_ := Aside0.mk (below_step (by repeat (first | (with_reducible first | exact HB.out | apply bA_ | apply bN_ | apply bD_ | refine bS_ ?_ GE306.out) | exact HB.out)) hb); clear BK306; clear HB; have BK306 := n0_; have HB := n1_; clear n0_ n1_; (try clear hb); (try clear hb2); (try clear hk); (try clear hi); have hcz55_0 : w54.cell? ⟨gb306, 0, none⟩ = some (.int .i64 a0_0) := (blk_cell BK306.out 0).trans rfl; have hcz55_1 : w54.cell? ⟨gb306, 1, none⟩ = some (.int .i64 a0_1) := (blk_cell BK306.out 1).trans rfl; have hcz55_2 : w54.cell? ⟨gb306, 2, none⟩ = some (.int .i64 a0_2) := (blk_cell BK306.out 2).trans rfl; have hfz55_0 := blk_frozen BK306.out 0; have hfz55_1 := blk_frozen BK306.out 1; have hfz55_2 := blk_frozen BK306.out 2) | ((with_reducible refine gate_callee (f := 15) rfl ?_); refine goesL_ (some 158) rfl rfl Tryd.func15 (by kernel_rfl) rfl #[.agg #[.int .i64 a0_0, .int .i64 a0_1, .int .i64 a0_2]] rfl (by (try simp only [List.map_toArray, List.map_cons, List.map_nil]); first | done | rfl | (simp only [List.length_drop, List.length_take]; rfl)) ?_; (with_reducible refine (spec_FlightText.calls k a0_0 a0_1 a0_2 t335 t336 _ A26.out).mono ?_); rintro e w56 ⟨rfl, hb⟩; refine ⟨_, rfl, ?_⟩; have n0_ := Aside0.mk (blk_below (g := gb306) (o := .cells #[.int .i64 a0_0, .int .i64 a0_1, .int .i64 a0_2] 32 (0, 0)) (by (with_reducible repeat (first | refine kN_ ?_ _ | refine kD_ ?_ | refine kA_ ?_ _)); exact BK306.out) hb); have n1_ := Aside0.mk (below_step (by repeat (first | (with_reducible first | exact HB.out | apply bA_ | apply bN_ | apply bD_ | refine bS_ ?_ GE306.out) | exact HB.out)) hb); clear BK306; clear HB; have BK306 := n0_; have HB := n1_; clear n0_ n1_; (try clear hb); (try clear hb2); (try clear hk); (try clear hi)))
 (try simp only [Act.put, List.setIfInBounds_toArray, List.set_cons_zero, List.set_cons_succ])
 go_cut [278] from 278 to 278 (fun v278 wc => ∃ (kq : Nat) (x278_26 : Bool), v278 = .bool x278_26 ∧ Aside0 (laws_FnRisersFitOfAll.j0 kq a1 a2 a3 a4 a5 a6 a7 a8 a9 t307 t308 t311 t312 t315 t319 t320 t325 t329 t333 x278_26 a0_0 a0_1 a0_2 = some true) ∧ Aside0 (kq ≤ k) ∧ Aside0 (wc.heap[gb306]? = some (.cells #[.int .i64 a0_0, .int .i64 a0_1, .int .i64 a0_2] 32 (0, 0))) ∧ Aside0 (Below w.heap.size w wc))
 case first =>
  as_aux_lemma =>
   have H := HC27.out
   clear HC27
   by_cases c57 : (t308 != t310) = true
   ·rw [if_pos c57] at H
    exact absurd H laws_FnRisersFitOfAll.j0_no
   rw [if_neg c57] at H
   have c57b0 : (t308 != t310) = false := by simpa using c57
   (try (have c57b1 : decide (t308 = t310) = true := by simpa using c57))
   (try (have c57b2 : (t308 == t310) = true := by simpa using c57))
   clear c57
   by_cases c59 : t307 = t309
   ·rw [if_pos c59] at H
    have c59b0 : (t307 == t309) = true := beq_iff_eq.mpr c59
    have c59b1 : (t307 != t309) = false := bne_eq_false_iff_eq.mpr c59
    clear c59
    by_cases c60 : (t312 != t314) = true
    ·rw [if_pos c60] at H
     exact absurd H laws_FnRisersFitOfAll.j0_no
    rw [if_neg c60] at H
    have c60b0 : (t312 != t314) = false := by simpa using c60
    (try (have c60b1 : decide (t312 = t314) = true := by simpa using c60))
    (try (have c60b2 : (t312 == t314) = true := by simpa using c60))
    clear c60
    by_cases c62 : t311 = t313
    ·rw [if_pos c62] at H
     have c62b0 : (t311 == t313) = true := beq_iff_eq.mpr c62
     have c62b1 : (t311 != t313) = false := bne_eq_false_iff_eq.mpr c62
     clear c62
     by_cases c63 : (t316 != t318) = true
     ·rw [if_pos c63] at H
      exact absurd H laws_FnRisersFitOfAll.j0_no
     rw [if_neg c63] at H
     have c63b0 : (t316 != t318) = false := by simpa using c63
     (try (have c63b1 : decide (t316 = t318) = true := by simpa using c63))
     (try (have c63b2 : (t316 == t318) = true := by simpa using c63))
     clear c63
     by_cases c65 : t315 = t317
     ·rw [if_pos c65] at H
      have c65b0 : (t315 == t317) = true := beq_iff_eq.mpr c65
      have c65b1 : (t315 != t317) = false := bne_eq_false_iff_eq.mpr c65
      clear c65
      by_cases c66 : (t321 != t324) = true
      ·rw [if_pos c66] at H
       exact absurd H laws_FnRisersFitOfAll.j0_no
      rw [if_neg c66] at H
      have c66b0 : (t321 != t324) = false := by simpa using c66
      (try (have c66b1 : decide (t321 = t324) = true := by simpa using c66))
      (try (have c66b2 : (t321 == t324) = true := by simpa using c66))
      clear c66
      by_cases c68 : t319 = t322
      ·rw [if_pos c68] at H
       have c68b0 : (t319 == t322) = true := beq_iff_eq.mpr c68
       have c68b1 : (t319 != t322) = false := bne_eq_false_iff_eq.mpr c68
       clear c68
       by_cases c69 : t320 = t323
       ·rw [if_pos c69] at H
        have c69b0 : (t320 == t323) = true := beq_iff_eq.mpr c69
        have c69b1 : (t320 != t323) = false := bne_eq_false_iff_eq.mpr c69
        clear c69
        by_cases c70 : (t326 != t328) = true
        ·rw [if_pos c70] at H
         exact absurd H laws_FnRisersFitOfAll.j0_no
        rw [if_neg c70] at H
        have c70b0 : (t326 != t328) = false := by simpa using c70
        (try (have c70b1 : decide (t326 = t328) = true := by simpa using c70))
        (try (have c70b2 : (t326 == t328) = true := by simpa using c70))
        clear c70
        by_cases c72 : t325 = t327
        ·rw [if_pos c72] at H
         have c72b0 : (t325 == t327) = true := beq_iff_eq.mpr c72
         have c72b1 : (t325 != t327) = false := bne_eq_false_iff_eq.mpr c72
         clear c72
         by_cases c73 : (t330 != t332) = true
         ·rw [if_pos c73] at H
          exact absurd H laws_FnRisersFitOfAll.j0_no
         rw [if_neg c73] at H
         have c73b0 : (t330 != t332) = false := by simpa using c73
         (try (have c73b1 : decide (t330 = t332) = true := by simpa using c73))
         (try (have c73b2 : (t330 == t332) = true := by simpa using c73))
         clear c73
         by_cases c75 : t329 = t331
         ·rw [if_pos c75] at H
          have c75b0 : (t329 == t331) = true := beq_iff_eq.mpr c75
          have c75b1 : (t329 != t331) = false := bne_eq_false_iff_eq.mpr c75
          clear c75
          by_cases c76 : (t334 != t336) = true
          ·rw [if_pos c76] at H
           exact absurd H laws_FnRisersFitOfAll.j0_no
          rw [if_neg c76] at H
          have c76b0 : (t334 != t336) = false := by simpa using c76
          (try (have c76b1 : decide (t334 = t336) = true := by simpa using c76))
          (try (have c76b2 : (t334 == t336) = true := by simpa using c76))
          clear c76
          by_cases c78 : t333.toList = t335.toList
          ·rw [if_pos c78] at H
           have c78b0 : (t333.toList == t335.toList) = true := beq_iff_eq.mpr c78
           have c78b1 : (t333.toList != t335.toList) = false := bne_eq_false_iff_eq.mpr c78
           clear c78
           replace H := Option.bind_eq_some_iff.mp H
           obtain ⟨t337, A790, H⟩ := H
           try dsimp only at H
           have A79 := Aside0.mk A790
           clear A790
           by_cases c80 : (t312 != t337) = true
           ·rw [if_pos c80] at H
            exact absurd H laws_FnRisersFitOfAll.j0_no
           rw [if_neg c80] at H
           have c80b0 : (t312 != t337) = false := by simpa using c80
           (try (have c80b1 : decide (t312 = t337) = true := by simpa using c80))
           (try (have c80b2 : (t312 == t337) = true := by simpa using c80))
           clear c80
           replace H := Option.bind_eq_some_iff.mp H
           obtain ⟨t338, A830, H⟩ := H
           try dsimp only at H
           have A83 := Aside0.mk A830
           clear A830
           replace H := Option.bind_eq_some_iff.mp H
           obtain ⟨t339, A840, H⟩ := H
           try dsimp only at H
           have A84 := Aside0.mk A840
           clear A840
           by_cases c85 : (t338 != t339) = true
           ·rw [if_pos c85] at H
            exact absurd H laws_FnRisersFitOfAll.j0_no
           rw [if_neg c85] at H
           have c85b0 : (t338 != t339) = false := by simpa using c85
           (try (have c85b1 : decide (t338 = t339) = true := by simpa using c85))
           (try (have c85b2 : (t338 == t339) = true := by simpa using c85))
           clear c85
           by_cases c90 : (t316 != t312) = true
           ·rw [if_pos c90] at H
            exact absurd H laws_FnRisersFitOfAll.j0_no
           rw [if_neg c90] at H
           have c90b0 : (t316 != t312) = false := by simpa using c90
           (try (have c90b1 : decide (t316 = t312) = true := by simpa using c90))
           (try (have c90b2 : (t316 == t312) = true := by simpa using c90))
           clear c90
           by_cases c95 : (t321 != t312) = true
           ·rw [if_pos c95] at H
            exact absurd H laws_FnRisersFitOfAll.j0_no
           rw [if_neg c95] at H
           have c95b0 : (t321 != t312) = false := by simpa using c95
           (try (have c95b1 : decide (t321 = t312) = true := by simpa using c95))
           (try (have c95b2 : (t321 == t312) = true := by simpa using c95))
           clear c95
           by_cases c100 : (t326 != t312) = true
           ·rw [if_pos c100] at H
            exact absurd H laws_FnRisersFitOfAll.j0_no
           rw [if_neg c100] at H
           have c100b0 : (t326 != t312) = false := by simpa using c100
           (try (have c100b1 : decide (t326 = t312) = true := by simpa using c100))
           (try (have c100b2 : (t326 == t312) = true := by simpa using c100))
           clear c100
           by_cases c105 : (t330 != t312) = true
           ·rw [if_pos c105] at H
            exact absurd H laws_FnRisersFitOfAll.j0_no
           rw [if_neg c105] at H
           have c105b0 : (t330 != t312) = false := by simpa using c105
           (try (have c105b1 : decide (t330 = t312) = true := by simpa using c105))
           (try (have c105b2 : (t330 == t312) = true := by simpa using c105))
           clear c105
           by_cases c110 : (t334 != t312) = true
           ·rw [if_pos c110] at H
            exact absurd H laws_FnRisersFitOfAll.j0_no
           rw [if_neg c110] at H
           have c110b0 : (t334 != t312) = false := by simpa using c110
           (try (have c110b1 : decide (t334 = t312) = true := by simpa using c110))
           (try (have c110b2 : (t334 == t312) = true := by simpa using c110))
           clear c110
           by_cases c115 : t308 = true
           ·subst c115
            rw [if_pos rfl] at H
            have H' := Aside0.mk H
            clear H
            try go_wp2
            have n0_ := Aside0.mk (kD_ BK306.out)
            have n1_ := Aside0.mk (bD_ HB.out)
            clear BK306
            clear HB
            have BK306 := n0_
            have HB := n1_
            clear n0_ n1_
            as_aux_lemma =>
             refine start_ (n := 118) (S := fun w' => w'.cell? ⟨gb306, 0, none⟩ = some (.int .i64 a0_0) ∧ w'.cell? ⟨gb306, 1, none⟩ = some (.int .i64 a0_1) ∧ w'.cell? ⟨gb306, 2, none⟩ = some (.int .i64 a0_2)) (ds := []) (bs 118 0) (by kernel_rfl) rfl (by kernel_rfl) ⟨(blk_cell BK306.out 0).trans rfl, (blk_cell BK306.out 1).trans rfl, (blk_cell BK306.out 2).trans rfl⟩ (fun hHeld => ?_); refine with_tabW laws_FnRisersFitOfAll.tab17 laws_FnRisersFitOfAll.bits17 (fun HT_ HW_ => ?_)
             generalize w56.drew = w116 at BK306 HB hHeld ⊢
             refine sL_ 118 [(0, 161, 1), (1, 162, 3), (2, 163, 7), (3, 164, 15), (4, 165, 31), (5, 166, 63), (6, 167, 127), (7, 168, 255), (8, 169, 511), (9, 170, 1023), (10, 171, 2047), (11, 172, 4095), (12, 173, 8191), (13, 174, 16383), (14, 175, 32767), (15, 176, 65535), (16, 177, 131071), (17, 178, 262143), (18, 179, 524287), (19, 180, 1048575), (20, 181, 2097151), (21, 182, 4194303), (22, 183, 8388607), (23, 184, 16777215), (24, 185, 33554431), (25, 186, 67108863), (26, 187, 134217727), (27, 188, 268435455), (28, 189, 536870911), (29, 190, 1073741823), (30, 191, 2147483647), (31, 192, 4294967295), (32, 193, 8589934591), (33, 194, 17179869183), (34, 195, 34359738367), (35, 196, 68719476735), (36, 197, 137438953471), (37, 198, 274877906943), (38, 199, 549755813887), (39, 200, 1099511627775), (40, 201, 2199023255551), (41, 202, 4398046511103), (42, 203, 8796093022207), (43, 204, 17592186044415), (44, 205, 35184372088831), (45, 206, 70368744177663), (46, 207, 140737488355327), (47, 208, 281474976710655), (48, 209, 562949953421311), (49, 210, 1125899906842623), (50, 211, 2251799813685247), (51, 212, 4503599627370495), (52, 213, 9007199254740991), (53, 214, 18014398509481983), (54, 215, 36028797018963967), (55, 216, 72057594037927935), (56, 217, 144115188075855871), (57, 218, 288230376151711743), (58, 219, 576460752303423487), (59, 220, 1152921504606846975), (60, 221, 2305843009213693951), (61, 222, 4611686018427387903), (62, 223, 9223372036854775807), (63, 224, 18446744073709551615), (64, 225, 36893488147419103231), (65, 226, 73786976294838206463), (66, 227, 147573952589676412927), (67, 228, 295147905179352825855), (68, 229, 590295810358705651711), (69, 230, 1180591620717411303423), (70, 231, 2361183241434822606847), (71, 232, 4722366482869645213695), (72, 233, 9444732965739290427391), (73, 234, 18889465931478580854783), (74, 235, 37778931862957161709567), (75, 236, 75557863725914323419135), (76, 237, 151115727451828646838271), (77, 238, 302231454903657293676543), (78, 239, 604462909807314587353087), (79, 240, 1208925819614629174706175), (80, 241, 2417851639229258349412351), (82, 243, 7253554917687775048237055), (81, 242, 9671406556917033397649407), (83, 244, 19342813113834066795298815), (84, 245, 38685626227668133590597631), (85, 246, 77371252455336267181195263), (86, 247, 154742504910672534362390527), (87, 248, 309485009821345068724781055), (88, 249, 618970019642690137449562111), (89, 250, 1237940039285380274899124223), (90, 251, 2475880078570760549798248447), (91, 252, 4951760157141521099596496895), (92, 253, 9903520314283042199192993791), (93, 254, 19807040628566084398385987583), (94, 255, 39614081257132168796771975167), (95, 256, 79228162514264337593543950335), (96, 257, 158456325028528675187087900671), (97, 258, 316912650057057350374175801343), (98, 259, 633825300114114700748351602687), (99, 260, 1267650600228229401496703205375), (100, 261, 2535301200456458802993406410751), (101, 262, 5070602400912917605986812821503), (102, 263, 10141204801825835211973625643007), (103, 264, 20282409603651670423947251286015), (104, 265, 40564819207303340847894502572031), (105, 266, 81129638414606681695789005144063), (106, 267, 162259276829213363391578010288127), (107, 268, 324518553658426726783156020576255), (108, 269, 649037107316853453566312041152511), (109, 270, 1298074214633706907132624082305023), (110, 271, 2596148429267413814265248164610047), (111, 272, 5192296858534827628530496329220095), (112, 273, 10384593717069655257060992658440191), (113, 274, 20769187434139310514121985316880383), (114, 275, 41538374868278621028243970633760767), (115, 276, 83076749736557242056487941267521535), (116, 277, 166153499473114484112975882535043071), (117, 278, 332306998946228968225951765070086143)] ?_
             iterate 75 (refine pL_ (v := ?_) (a' := ?_) rfl (any_of HT_.out (by kernel_rfl)) (fun _ _ _ h => h) (Or.inl ⟨by rfl, ?_⟩) ?_ ?_; rotate_left; (· (intro w'; first | ((with_reducible apply ym_); (conv => lhs; whnf)) | ((with_reducible apply yb_); (conv => lhs; whnf); (conv => lhs; whnf); go_simp; (with_reducible rfl)) | ((with_reducible apply yp_); (conv => lhs; whnf); (conv => lhs; whnf); (conv => lhs; whnf); go_simp; (with_reducible rfl)) | (go_simp; with_reducible rfl))); rotate_left; (· (simp only [Act.put, List.setIfInBounds_toArray, List.set_cons_zero, List.set_cons_succ, i64_w, i32_w]; rfl)))
             refine tL_ (v := ?_) (a' := ?_) rfl (take_ofW HT_.out HW_.out (by kernel_rfl)) (fun _ _ _ h => h) (Or.inl ⟨by rfl, ?_⟩) hHeld ?_ ?_
             rotate_left
             ·rintro w' ⟨s0, s1, s2⟩
              go_simp
              with_reducible rfl
             rotate_left
             ·simp only [Act.put, List.setIfInBounds_toArray, List.set_cons_zero, List.set_cons_succ, i64_w, i32_w]; rfl
             refine oL_ rfl (one_of HT_.out (by kernel_rfl)) (by decide) (fun K hK => ?_)
             refine goes_ Tryd.func45 (by kernel_rfl) rfl #[.agg #[.int .i64 a0_0, .int .i64 a0_1, .int .i64 a0_2]] (by rfl) rfl rfl (by (try simp only [List.map_toArray, List.map_cons, List.map_nil]); first | done | rfl | (simp only [List.length_drop, List.length_take]; rfl)) ?_
             with_reducible refine (impl_IsFlight.calls a0_0 a0_1 a0_2 t337 _ A79.out).mono ?_
             rintro e w117 ⟨rfl, hb⟩
             refine ⟨_, rfl, ?_⟩
             have n0_ := Aside0.mk (blk_below (g := gb306) (o := .cells #[.int .i64 a0_0, .int .i64 a0_1, .int .i64 a0_2] 32 (0, 0)) (by (with_reducible repeat (first | refine kN_ ?_ _ | refine kD_ ?_ | refine kA_ ?_ _)); exact BK306.out) hb)
             have n1_ := Aside0.mk (below_step (by repeat (first | (with_reducible first | exact HB.out | apply bA_ | apply bN_ | apply bD_ | refine bS_ ?_ GE306.out) | exact HB.out)) hb)
             clear BK306
             clear HB
             have BK306 := n0_
             have HB := n1_
             clear n0_ n1_
             (try clear hb)
             (try clear hb2)
             (try clear hk)
             (try clear hi)
             refine hK.out _ _ ⟨(blk_cell BK306.out 0).trans rfl, (blk_cell BK306.out 1).trans rfl, (blk_cell BK306.out 2).trans rfl⟩ (fun hHeld => ?_)
             clear hK K
             refine nL_ (a' := ?_) ?_ ?_
             rotate_left
             ·show Act.put _ (some 237) _ = _
              simp only [Act.put, List.setIfInBounds_toArray, List.set_cons_zero, List.set_cons_succ, i64_w, i32_w]
              rfl
             iterate 3 (refine pL_ (v := ?_) (a' := ?_) rfl (any_of HT_.out (by kernel_rfl)) (fun _ _ _ h => h) (Or.inl ⟨by rfl, ?_⟩) ?_ ?_; rotate_left; (· (intro w'; first | ((with_reducible apply ym_); (conv => lhs; whnf)) | ((with_reducible apply yb_); (conv => lhs; whnf); (conv => lhs; whnf); go_simp; (with_reducible rfl)) | ((with_reducible apply yp_); (conv => lhs; whnf); (conv => lhs; whnf); (conv => lhs; whnf); go_simp; (with_reducible rfl)) | (go_simp; with_reducible rfl))); rotate_left; (· (simp only [Act.put, List.setIfInBounds_toArray, List.set_cons_zero, List.set_cons_succ, i64_w, i32_w]; rfl)))
             refine tL_ (v := ?_) (a' := ?_) rfl (take_ofW HT_.out HW_.out (by kernel_rfl)) (fun _ _ _ h => h) (Or.inl ⟨by rfl, ?_⟩) hHeld ?_ ?_
             rotate_left
             ·rintro w' ⟨s0, s1, s2⟩
              go_simp
              with_reducible rfl
             rotate_left
             ·simp only [Act.put, List.setIfInBounds_toArray, List.set_cons_zero, List.set_cons_succ, i64_w, i32_w]; rfl
             refine tL_ (v := ?_) (a' := ?_) rfl (take_ofW HT_.out HW_.out (by kernel_rfl)) (fun _ _ _ h => h) (Or.inl ⟨by rfl, ?_⟩) hHeld ?_ ?_
             rotate_left
             ·rintro w' ⟨s0, s1, s2⟩
              go_simp
              with_reducible rfl
             rotate_left
             ·simp only [Act.put, List.setIfInBounds_toArray, List.set_cons_zero, List.set_cons_succ, i64_w, i32_w]; rfl
             refine oL_ rfl (one_of HT_.out (by kernel_rfl)) (by decide) (fun K hK => ?_)
             refine goes_ Tryd.func45 (by kernel_rfl) rfl #[.agg #[.int .i64 a0_0, .int .i64 a0_1, .int .i64 a0_2]] (by rfl) rfl rfl (by (try simp only [List.map_toArray, List.map_cons, List.map_nil]); first | done | rfl | (simp only [List.length_drop, List.length_take]; rfl)) ?_
             with_reducible refine (impl_IsFlight.calls a0_0 a0_1 a0_2 t338 _ A83.out).mono ?_
             rintro e w118 ⟨rfl, hb⟩
             refine ⟨_, rfl, ?_⟩
             have n0_ := Aside0.mk (blk_below (g := gb306) (o := .cells #[.int .i64 a0_0, .int .i64 a0_1, .int .i64 a0_2] 32 (0, 0)) (by (with_reducible repeat (first | refine kN_ ?_ _ | refine kD_ ?_ | refine kA_ ?_ _)); exact BK306.out) hb)
             have n1_ := Aside0.mk (below_step (by repeat (first | (with_reducible first | exact HB.out | apply bA_ | apply bN_ | apply bD_ | refine bS_ ?_ GE306.out) | exact HB.out)) hb)
             clear BK306
             clear HB
             have BK306 := n0_
             have HB := n1_
             clear n0_ n1_
             (try clear hb)
             (try clear hb2)
             (try clear hk)
             (try clear hi)
             refine hK.out _ _ ⟨(blk_cell BK306.out 0).trans rfl, (blk_cell BK306.out 1).trans rfl, (blk_cell BK306.out 2).trans rfl⟩ (fun hHeld => ?_)
             clear hK K
             refine nL_ (a' := ?_) ?_ ?_
             rotate_left
             ·show Act.put _ (some 242) _ = _
              simp only [Act.put, List.setIfInBounds_toArray, List.set_cons_zero, List.set_cons_succ, i64_w, i32_w]
              rfl
             refine oL_ rfl (one_of HT_.out (by kernel_rfl)) (by decide) (fun K hK => ?_)
             refine goes_ Tryd.func46 (by kernel_rfl) rfl #[.agg #[.int .i64 a0_0, .int .i64 a0_1, .int .i64 a0_2]] (by rfl) rfl rfl (by (try simp only [List.map_toArray, List.map_cons, List.map_nil]); first | done | rfl | (simp only [List.length_drop, List.length_take]; rfl)) ?_
             with_reducible refine (spec_IsFlight.calls a0_0 a0_1 a0_2 t339 _ A84.out).mono ?_
             rintro e w119 ⟨rfl, hb⟩
             refine ⟨_, rfl, ?_⟩
             have n0_ := Aside0.mk (blk_below (g := gb306) (o := .cells #[.int .i64 a0_0, .int .i64 a0_1, .int .i64 a0_2] 32 (0, 0)) (by (with_reducible repeat (first | refine kN_ ?_ _ | refine kD_ ?_ | refine kA_ ?_ _)); exact BK306.out) hb)
             have n1_ := Aside0.mk (below_step (by repeat (first | (with_reducible first | exact HB.out | apply bA_ | apply bN_ | apply bD_ | refine bS_ ?_ GE306.out) | exact HB.out)) hb)
             clear BK306
             clear HB
             have BK306 := n0_
             have HB := n1_
             clear n0_ n1_
             (try clear hb)
             (try clear hb2)
             (try clear hk)
             (try clear hi)
             refine hK.out _ _ ⟨(blk_cell BK306.out 0).trans rfl, (blk_cell BK306.out 1).trans rfl, (blk_cell BK306.out 2).trans rfl⟩ (fun hHeld => ?_)
             clear hK K
             refine nL_ (a' := ?_) ?_ ?_
             rotate_left
             ·show Act.put _ (some 244) _ = _
              simp only [Act.put, List.setIfInBounds_toArray, List.set_cons_zero, List.set_cons_succ, i64_w, i32_w]
              rfl
             iterate 34 (refine pL_ (v := ?_) (a' := ?_) rfl (any_of HT_.out (by kernel_rfl)) (fun _ _ _ h => h) (Or.inl ⟨by rfl, ?_⟩) ?_ ?_; rotate_left; (· (intro w'; first | ((with_reducible apply ym_); (conv => lhs; whnf)) | ((with_reducible apply yb_); (conv => lhs; whnf); (conv => lhs; whnf); go_simp; (with_reducible rfl)) | ((with_reducible apply yp_); (conv => lhs; whnf); (conv => lhs; whnf); (conv => lhs; whnf); go_simp; (with_reducible rfl)) | (go_simp; with_reducible rfl))); rotate_left; (· (simp only [Act.put, List.setIfInBounds_toArray, List.set_cons_zero, List.set_cons_succ, i64_w, i32_w]; rfl)))
             refine dL_ (done_of HT_.out (by kernel_rfl)) ?_
             try go_wp2
             go_meet
             case rel => exact ⟨_, (!t312), (by first | rfl | (simp; done) | (simp [*]; done)), H', ⟨by first | omega | exact Nat.le_refl _⟩, ⟨by (with_reducible repeat (first | refine kN_ ?_ _ | refine kD_ ?_ | refine kA_ ?_ _)); exact BK306.out⟩, ⟨by repeat (first | (with_reducible first | exact HB.out | apply bA_ | apply bN_ | apply bD_ | refine bS_ ?_ GE306.out) | exact HB.out)⟩⟩
           replace c115 := Bool.eq_false_iff.mpr c115
           subst c115
           rw [if_neg (show ¬ (false = true) by decide)] at H
           have H' := Aside0.mk H
           clear H
           try go_wp2
           have n0_ := Aside0.mk (kD_ BK306.out)
           have n1_ := Aside0.mk (bD_ HB.out)
           clear BK306
           clear HB
           have BK306 := n0_
           have HB := n1_
           clear n0_ n1_
           as_aux_lemma =>
            refine start_ (n := 118) (S := fun w' => w'.cell? ⟨gb306, 0, none⟩ = some (.int .i64 a0_0) ∧ w'.cell? ⟨gb306, 1, none⟩ = some (.int .i64 a0_1) ∧ w'.cell? ⟨gb306, 2, none⟩ = some (.int .i64 a0_2)) (ds := []) (bs 118 0) (by kernel_rfl) rfl (by kernel_rfl) ⟨(blk_cell BK306.out 0).trans rfl, (blk_cell BK306.out 1).trans rfl, (blk_cell BK306.out 2).trans rfl⟩ (fun hHeld => ?_); refine with_tabW laws_FnRisersFitOfAll.tab17 laws_FnRisersFitOfAll.bits17 (fun HT_ HW_ => ?_)
            generalize w56.drew = w120 at BK306 HB hHeld ⊢
            refine sL_ 118 [(0, 161, 1), (1, 162, 3), (2, 163, 7), (3, 164, 15), (4, 165, 31), (5, 166, 63), (6, 167, 127), (7, 168, 255), (8, 169, 511), (9, 170, 1023), (10, 171, 2047), (11, 172, 4095), (12, 173, 8191), (13, 174, 16383), (14, 175, 32767), (15, 176, 65535), (16, 177, 131071), (17, 178, 262143), (18, 179, 524287), (19, 180, 1048575), (20, 181, 2097151), (21, 182, 4194303), (22, 183, 8388607), (23, 184, 16777215), (24, 185, 33554431), (25, 186, 67108863), (26, 187, 134217727), (27, 188, 268435455), (28, 189, 536870911), (29, 190, 1073741823), (30, 191, 2147483647), (31, 192, 4294967295), (32, 193, 8589934591), (33, 194, 17179869183), (34, 195, 34359738367), (35, 196, 68719476735), (36, 197, 137438953471), (37, 198, 274877906943), (38, 199, 549755813887), (39, 200, 1099511627775), (40, 201, 2199023255551), (41, 202, 4398046511103), (42, 203, 8796093022207), (43, 204, 17592186044415), (44, 205, 35184372088831), (45, 206, 70368744177663), (46, 207, 140737488355327), (47, 208, 281474976710655), (48, 209, 562949953421311), (49, 210, 1125899906842623), (50, 211, 2251799813685247), (51, 212, 4503599627370495), (52, 213, 9007199254740991), (53, 214, 18014398509481983), (54, 215, 36028797018963967), (55, 216, 72057594037927935), (56, 217, 144115188075855871), (57, 218, 288230376151711743), (58, 219, 576460752303423487), (59, 220, 1152921504606846975), (60, 221, 2305843009213693951), (61, 222, 4611686018427387903), (62, 223, 9223372036854775807), (63, 224, 18446744073709551615), (64, 225, 36893488147419103231), (65, 226, 73786976294838206463), (66, 227, 147573952589676412927), (67, 228, 295147905179352825855), (68, 229, 590295810358705651711), (69, 230, 1180591620717411303423), (70, 231, 2361183241434822606847), (71, 232, 4722366482869645213695), (72, 233, 9444732965739290427391), (73, 234, 18889465931478580854783), (74, 235, 37778931862957161709567), (75, 236, 75557863725914323419135), (76, 237, 151115727451828646838271), (77, 238, 302231454903657293676543), (78, 239, 604462909807314587353087), (79, 240, 1208925819614629174706175), (80, 241, 2417851639229258349412351), (82, 243, 7253554917687775048237055), (81, 242, 9671406556917033397649407), (83, 244, 19342813113834066795298815), (84, 245, 38685626227668133590597631), (85, 246, 77371252455336267181195263), (86, 247, 154742504910672534362390527), (87, 248, 309485009821345068724781055), (88, 249, 618970019642690137449562111), (89, 250, 1237940039285380274899124223), (90, 251, 2475880078570760549798248447), (91, 252, 4951760157141521099596496895), (92, 253, 9903520314283042199192993791), (93, 254, 19807040628566084398385987583), (94, 255, 39614081257132168796771975167), (95, 256, 79228162514264337593543950335), (96, 257, 158456325028528675187087900671), (97, 258, 316912650057057350374175801343), (98, 259, 633825300114114700748351602687), (99, 260, 1267650600228229401496703205375), (100, 261, 2535301200456458802993406410751), (101, 262, 5070602400912917605986812821503), (102, 263, 10141204801825835211973625643007), (103, 264, 20282409603651670423947251286015), (104, 265, 40564819207303340847894502572031), (105, 266, 81129638414606681695789005144063), (106, 267, 162259276829213363391578010288127), (107, 268, 324518553658426726783156020576255), (108, 269, 649037107316853453566312041152511), (109, 270, 1298074214633706907132624082305023), (110, 271, 2596148429267413814265248164610047), (111, 272, 5192296858534827628530496329220095), (112, 273, 10384593717069655257060992658440191), (113, 274, 20769187434139310514121985316880383), (114, 275, 41538374868278621028243970633760767), (115, 276, 83076749736557242056487941267521535), (116, 277, 166153499473114484112975882535043071), (117, 278, 332306998946228968225951765070086143)] ?_
            iterate 75 (refine pL_ (v := ?_) (a' := ?_) rfl (any_of HT_.out (by kernel_rfl)) (fun _ _ _ h => h) (Or.inl ⟨by rfl, ?_⟩) ?_ ?_; rotate_left; (· (intro w'; first | ((with_reducible apply ym_); (conv => lhs; whnf)) | ((with_reducible apply yb_); (conv => lhs; whnf); (conv => lhs; whnf); go_simp; (with_reducible rfl)) | ((with_reducible apply yp_); (conv => lhs; whnf); (conv => lhs; whnf); (conv => lhs; whnf); go_simp; (with_reducible rfl)) | (go_simp; with_reducible rfl))); rotate_left; (· (simp only [Act.put, List.setIfInBounds_toArray, List.set_cons_zero, List.set_cons_succ, i64_w, i32_w]; rfl)))
            refine tL_ (v := ?_) (a' := ?_) rfl (take_ofW HT_.out HW_.out (by kernel_rfl)) (fun _ _ _ h => h) (Or.inl ⟨by rfl, ?_⟩) hHeld ?_ ?_
            rotate_left
            ·rintro w' ⟨s0, s1, s2⟩
             go_simp
             with_reducible rfl
            rotate_left
            ·simp only [Act.put, List.setIfInBounds_toArray, List.set_cons_zero, List.set_cons_succ, i64_w, i32_w]; rfl
            refine oL_ rfl (one_of HT_.out (by kernel_rfl)) (by decide) (fun K hK => ?_)
            refine goes_ Tryd.func45 (by kernel_rfl) rfl #[.agg #[.int .i64 a0_0, .int .i64 a0_1, .int .i64 a0_2]] (by rfl) rfl rfl (by (try simp only [List.map_toArray, List.map_cons, List.map_nil]); first | done | rfl | (simp only [List.length_drop, List.length_take]; rfl)) ?_
            with_reducible refine (impl_IsFlight.calls a0_0 a0_1 a0_2 t337 _ A79.out).mono ?_
            rintro e w121 ⟨rfl, hb⟩
            refine ⟨_, rfl, ?_⟩
            have n0_ := Aside0.mk (blk_below (g := gb306) (o := .cells #[.int .i64 a0_0, .int .i64 a0_1, .int .i64 a0_2] 32 (0, 0)) (by (with_reducible repeat (first | refine kN_ ?_ _ | refine kD_ ?_ | refine kA_ ?_ _)); exact BK306.out) hb)
            have n1_ := Aside0.mk (below_step (by repeat (first | (with_reducible first | exact HB.out | apply bA_ | apply bN_ | apply bD_ | refine bS_ ?_ GE306.out) | exact HB.out)) hb)
            clear BK306
            clear HB
            have BK306 := n0_
            have HB := n1_
            clear n0_ n1_
            (try clear hb)
            (try clear hb2)
            (try clear hk)
            (try clear hi)
            refine hK.out _ _ ⟨(blk_cell BK306.out 0).trans rfl, (blk_cell BK306.out 1).trans rfl, (blk_cell BK306.out 2).trans rfl⟩ (fun hHeld => ?_)
            clear hK K
            refine nL_ (a' := ?_) ?_ ?_
            rotate_left
            ·show Act.put _ (some 237) _ = _
             simp only [Act.put, List.setIfInBounds_toArray, List.set_cons_zero, List.set_cons_succ, i64_w, i32_w]
             rfl
            iterate 3 (refine pL_ (v := ?_) (a' := ?_) rfl (any_of HT_.out (by kernel_rfl)) (fun _ _ _ h => h) (Or.inl ⟨by rfl, ?_⟩) ?_ ?_; rotate_left; (· (intro w'; first | ((with_reducible apply ym_); (conv => lhs; whnf)) | ((with_reducible apply yb_); (conv => lhs; whnf); (conv => lhs; whnf); go_simp; (with_reducible rfl)) | ((with_reducible apply yp_); (conv => lhs; whnf); (conv => lhs; whnf); (conv => lhs; whnf); go_simp; (with_reducible rfl)) | (go_simp; with_reducible rfl))); rotate_left; (· (simp only [Act.put, List.setIfInBounds_toArray, List.set_cons_zero, List.set_cons_succ, i64_w, i32_w]; rfl)))
            refine tL_ (v := ?_) (a' := ?_) rfl (take_ofW HT_.out HW_.out (by kernel_rfl)) (fun _ _ _ h => h) (Or.inl ⟨by rfl, ?_⟩) hHeld ?_ ?_
            rotate_left
            ·rintro w' ⟨s0, s1, s2⟩
             go_simp
             with_reducible rfl
            rotate_left
            ·simp only [Act.put, List.setIfInBounds_toArray, List.set_cons_zero, List.set_cons_succ, i64_w, i32_w]; rfl
            refine tL_ (v := ?_) (a' := ?_) rfl (take_ofW HT_.out HW_.out (by kernel_rfl)) (fun _ _ _ h => h) (Or.inl ⟨by rfl, ?_⟩) hHeld ?_ ?_
            rotate_left
            ·rintro w' ⟨s0, s1, s2⟩
             go_simp
             with_reducible rfl
            rotate_left
            ·simp only [Act.put, List.setIfInBounds_toArray, List.set_cons_zero, List.set_cons_succ, i64_w, i32_w]; rfl
            refine oL_ rfl (one_of HT_.out (by kernel_rfl)) (by decide) (fun K hK => ?_)
            refine goes_ Tryd.func45 (by kernel_rfl) rfl #[.agg #[.int .i64 a0_0, .int .i64 a0_1, .int .i64 a0_2]] (by rfl) rfl rfl (by (try simp only [List.map_toArray, List.map_cons, List.map_nil]); first | done | rfl | (simp only [List.length_drop, List.length_take]; rfl)) ?_
            with_reducible refine (impl_IsFlight.calls a0_0 a0_1 a0_2 t338 _ A83.out).mono ?_
            rintro e w122 ⟨rfl, hb⟩
            refine ⟨_, rfl, ?_⟩
            have n0_ := Aside0.mk (blk_below (g := gb306) (o := .cells #[.int .i64 a0_0, .int .i64 a0_1, .int .i64 a0_2] 32 (0, 0)) (by (with_reducible repeat (first | refine kN_ ?_ _ | refine kD_ ?_ | refine kA_ ?_ _)); exact BK306.out) hb)
            have n1_ := Aside0.mk (below_step (by repeat (first | (with_reducible first | exact HB.out | apply bA_ | apply bN_ | apply bD_ | refine bS_ ?_ GE306.out) | exact HB.out)) hb)
            clear BK306
            clear HB
            have BK306 := n0_
            have HB := n1_
            clear n0_ n1_
            (try clear hb)
            (try clear hb2)
            (try clear hk)
            (try clear hi)
            refine hK.out _ _ ⟨(blk_cell BK306.out 0).trans rfl, (blk_cell BK306.out 1).trans rfl, (blk_cell BK306.out 2).trans rfl⟩ (fun hHeld => ?_)
            clear hK K
            refine nL_ (a' := ?_) ?_ ?_
            rotate_left
            ·show Act.put _ (some 242) _ = _
             simp only [Act.put, List.setIfInBounds_toArray, List.set_cons_zero, List.set_cons_succ, i64_w, i32_w]
             rfl
            refine oL_ rfl (one_of HT_.out (by kernel_rfl)) (by decide) (fun K hK => ?_)
            refine goes_ Tryd.func46 (by kernel_rfl) rfl #[.agg #[.int .i64 a0_0, .int .i64 a0_1, .int .i64 a0_2]] (by rfl) rfl rfl (by (try simp only [List.map_toArray, List.map_cons, List.map_nil]); first | done | rfl | (simp only [List.length_drop, List.length_take]; rfl)) ?_
            with_reducible refine (spec_IsFlight.calls a0_0 a0_1 a0_2 t339 _ A84.out).mono ?_
            rintro e w123 ⟨rfl, hb⟩
            refine ⟨_, rfl, ?_⟩
            have n0_ := Aside0.mk (blk_below (g := gb306) (o := .cells #[.int .i64 a0_0, .int .i64 a0_1, .int .i64 a0_2] 32 (0, 0)) (by (with_reducible repeat (first | refine kN_ ?_ _ | refine kD_ ?_ | refine kA_ ?_ _)); exact BK306.out) hb)
            have n1_ := Aside0.mk (below_step (by repeat (first | (with_reducible first | exact HB.out | apply bA_ | apply bN_ | apply bD_ | refine bS_ ?_ GE306.out) | exact HB.out)) hb)
            clear BK306
            clear HB
            have BK306 := n0_
            have HB := n1_
            clear n0_ n1_
            (try clear hb)
            (try clear hb2)
            (try clear hk)
            (try clear hi)
            refine hK.out _ _ ⟨(blk_cell BK306.out 0).trans rfl, (blk_cell BK306.out 1).trans rfl, (blk_cell BK306.out 2).trans rfl⟩ (fun hHeld => ?_)
            clear hK K
            refine nL_ (a' := ?_) ?_ ?_
            rotate_left
            ·show Act.put _ (some 244) _ = _
             simp only [Act.put, List.setIfInBounds_toArray, List.set_cons_zero, List.set_cons_succ, i64_w, i32_w]
             rfl
            iterate 30 (refine pL_ (v := ?_) (a' := ?_) rfl (any_of HT_.out (by kernel_rfl)) (fun _ _ _ h => h) (Or.inl ⟨by rfl, ?_⟩) ?_ ?_; rotate_left; (· (intro w'; first | ((with_reducible apply ym_); (conv => lhs; whnf)) | ((with_reducible apply yb_); (conv => lhs; whnf); (conv => lhs; whnf); go_simp; (with_reducible rfl)) | ((with_reducible apply yp_); (conv => lhs; whnf); (conv => lhs; whnf); (conv => lhs; whnf); go_simp; (with_reducible rfl)) | (go_simp; with_reducible rfl))); rotate_left; (· (simp only [Act.put, List.setIfInBounds_toArray, List.set_cons_zero, List.set_cons_succ, i64_w, i32_w]; rfl)))
            refine pL_ (v := undef) (a' := ?_) rfl (any_of HT_.out (by kernel_rfl)) (fun _ _ _ h => h) (Or.inr ⟨by rfl, rfl⟩) ?_ ?_
            rotate_left
            ·simp only [Act.put, List.setIfInBounds_toArray, List.set_cons_zero, List.set_cons_succ, i64_w, i32_w]; rfl
            refine pL_ (v := undef) (a' := ?_) rfl (any_of HT_.out (by kernel_rfl)) (fun _ _ _ h => h) (Or.inr ⟨by rfl, rfl⟩) ?_ ?_
            rotate_left
            ·simp only [Act.put, List.setIfInBounds_toArray, List.set_cons_zero, List.set_cons_succ, i64_w, i32_w]; rfl
            iterate 2 (refine pL_ (v := ?_) (a' := ?_) rfl (any_of HT_.out (by kernel_rfl)) (fun _ _ _ h => h) (Or.inl ⟨by rfl, ?_⟩) ?_ ?_; rotate_left; (· (intro w'; first | ((with_reducible apply ym_); (conv => lhs; whnf)) | ((with_reducible apply yb_); (conv => lhs; whnf); (conv => lhs; whnf); go_simp; (with_reducible rfl)) | ((with_reducible apply yp_); (conv => lhs; whnf); (conv => lhs; whnf); (conv => lhs; whnf); go_simp; (with_reducible rfl)) | (go_simp; with_reducible rfl))); rotate_left; (· (simp only [Act.put, List.setIfInBounds_toArray, List.set_cons_zero, List.set_cons_succ, i64_w, i32_w]; rfl)))
            refine dL_ (done_of HT_.out (by kernel_rfl)) ?_
            try go_wp2
            go_meet
            case rel => exact ⟨_, (false), (by first | rfl | (simp; done) | (simp [*]; done)), H', ⟨by first | omega | exact Nat.le_refl _⟩, ⟨by (with_reducible repeat (first | refine kN_ ?_ _ | refine kD_ ?_ | refine kA_ ?_ _)); exact BK306.out⟩, ⟨by repeat (first | (with_reducible first | exact HB.out | apply bA_ | apply bN_ | apply bD_ | refine bS_ ?_ GE306.out) | exact HB.out)⟩⟩
          rw [if_neg c78] at H
          exact absurd H laws_FnRisersFitOfAll.j0_no
         rw [if_neg c75] at H
         exact absurd H laws_FnRisersFitOfAll.j0_no
        rw [if_neg c72] at H
        exact absurd H laws_FnRisersFitOfAll.j0_no
       rw [if_neg c69] at H
       exact absurd H laws_FnRisersFitOfAll.j0_no
      rw [if_neg c68] at H
      exact absurd H laws_FnRisersFitOfAll.j0_no
     rw [if_neg c65] at H
     exact absurd H laws_FnRisersFitOfAll.j0_no
    rw [if_neg c62] at H
    exact absurd H laws_FnRisersFitOfAll.j0_no
   rw [if_neg c59] at H
   exact absurd H laws_FnRisersFitOfAll.j0_no
 as_aux_lemma =>
  clear HC27
  try clear p2
  obtain ⟨kq, x278_26, rfl, HA, HJ26, BK306, HB⟩ := hcut
  rcases kq with _ | kj26
  ·exact absurd HA.out (by simp [laws_FnRisersFitOfAll.j0])
  have H := HA.out
  clear HA
  simp only [laws_FnRisersFitOfAll.j0] at H
  by_cases c132 : x278_26 = true
  ·subst c132
   rw [if_pos rfl] at H
   exact absurd (Option.some.inj H) (by decide)
  replace c132 := Bool.eq_false_iff.mpr c132
  subst c132
  rw [if_neg (show ¬ (false = true) by decide)] at H
  have HC133 := Aside0.mk H
  clear H
  go_upto_if 279 with (fail)
  go_cut [] from 279 to 279 (fun wc => ∃ (kq : Nat), Aside0 (laws_FnRisersFitOfAll.j2 kq a1 a2 a3 a4 a5 a6 a7 a8 a9 = some true) ∧ Aside0 (kq ≤ kj26) ∧ Aside0 (wc.heap[gb306]? = some (.cells #[.int .i64 a0_0, .int .i64 a0_1, .int .i64 a0_2] 32 (0, 0))) ∧ Aside0 (Below w.heap.size w wc))
  case first =>
   as_aux_lemma =>
    have H := HC133.out
    clear HC133
    by_cases c134 : t312 = true
    ·subst c134
     rw [if_pos rfl] at H
     replace H := Option.bind_eq_some_iff.mp H
     obtain ⟨⟨t340, t341, t342, t343⟩, A1350, H⟩ := H
     try dsimp only at H
     have A135 := Aside0.mk A1350
     clear A1350
     have HC136 := Aside0.mk H
     clear H
     go_upto_region 21 with (first | ((with_reducible refine gate_callee (f := 27) rfl ?_); refine goesL_ (some 282) rfl rfl Tryd.func27 (by kernel_rfl) rfl #[.string t333] rfl (by (try simp only [List.map_toArray, List.map_cons, List.map_nil]); first | done | rfl | (simp only [List.length_drop, List.length_take]; rfl)) ?_; (with_reducible refine (impl_ParseFlight.calls t333 t340 t341 t342 t343 _ A135.out (Laid.below HLA.out (by repeat (first | (with_reducible first | exact HB.out | apply bA_ | apply bN_ | apply bD_ | refine bS_ ?_ GE306.out | refine bS_ ?_ GE344.out | refine bS_ ?_ GE378.out | refine bS_ ?_ GE383.out | refine bS_ ?_ GE400.out) | exact HB.out)))).mono ?_); rintro e w137 ⟨rfl, hb⟩; refine ⟨_, rfl, ?_⟩; have n0_ := Aside0.mk (blk_below (g := gb306) (o := .cells #[.int .i64 a0_0, .int .i64 a0_1, .int .i64 a0_2] 32 (0, 0)) (by (with_reducible repeat (first | refine kN_ ?_ _ | refine kD_ ?_ | refine kA_ ?_ _)); exact BK306.out) hb); have n1_ := Aside0.mk (below_step (by repeat (first | (with_reducible first | exact HB.out | apply bA_ | apply bN_ | apply bD_ | refine bS_ ?_ GE306.out) | exact HB.out)) hb); clear BK306; clear HB; have BK306 := n0_; have HB := n1_; clear n0_ n1_; (try clear hb); (try clear hb2); (try clear hk); (try clear hi)) | ((with_reducible refine gate_dst (N := 51) rfl ?_); refine box_event ?hg (N := 51) ?hd (cs := #[.int .i64 0, .int .i64 0, .int .i64 0]) (t := 32) ?hr ?_; (case hd => rfl); (case hg => rfl); (case hr => first | (go_simp; done) | (go_simp; rfl)); intro gb344 hg w138 hbox hb; have n0_ := Aside0.mk (blk_below (g := gb306) (o := .cells #[.int .i64 a0_0, .int .i64 a0_1, .int .i64 a0_2] 32 (0, 0)) (by (with_reducible repeat (first | refine kN_ ?_ _ | refine kD_ ?_ | refine kA_ ?_ _)); exact BK306.out) hb); have n1_ := Aside0.mk (below_step (by repeat (first | (with_reducible first | exact HB.out | apply bA_ | apply bN_ | apply bD_ | refine bS_ ?_ GE306.out) | exact HB.out)) hb); have n2_ := Aside0.mk (hbox); have n3_ := Aside0.mk ((by rw [hg]; exact (below_size (by repeat (first | (with_reducible first | exact HB.out | apply bA_ | apply bN_ | apply bD_ | refine bS_ ?_ GE306.out) | exact HB.out))) : w.heap.size ≤ gb344)); have n4_ := Aside0.mk ((by rw [hg]; exact (below_size (by repeat (first | (with_reducible first | exact HB.out | apply bA_ | apply bN_ | apply bD_ | refine bS_ ?_ GE306.out) | exact HB.out))) : w.heap.size ≤ gb344)); have n5_ := Aside0.mk ((by rw [hg]; exact Nat.ne_of_lt (blk_lt (g := gb306) (o := .cells #[.int .i64 a0_0, .int .i64 a0_1, .int .i64 a0_2] 32 (0, 0)) (by (with_reducible repeat (first | refine kN_ ?_ _ | refine kD_ ?_ | refine kA_ ?_ _)); exact BK306.out)) : gb306 ≠ gb344)); have n6_ := Aside0.mk ((by rw [hg]; exact Nat.ne_of_gt (blk_lt (g := gb306) (o := .cells #[.int .i64 a0_0, .int .i64 a0_1, .int .i64 a0_2] 32 (0, 0)) (by (with_reducible repeat (first | refine kN_ ?_ _ | refine kD_ ?_ | refine kA_ ?_ _)); exact BK306.out)) : gb344 ≠ gb306)); clear BK306; clear HB; have BK306 := n0_; have HB := n1_; have BK344 := n2_; have GW344 := n3_; have GE344 := n4_; have NB306_344 := n5_; have NB344_306 := n6_; clear n0_ n1_ n2_ n3_ n4_ n5_ n6_; clear hb hbox hg; have hnb139 := NB344_306.out; have hnc139 := NB306_344.out; have hcz140_0 : w138.cell? ⟨gb344, 0, none⟩ = some (.int .i64 0) := (blk_cell BK344.out 0).trans rfl; have hcz140_1 : w138.cell? ⟨gb344, 1, none⟩ = some (.int .i64 0) := (blk_cell BK344.out 1).trans rfl; have hcz140_2 : w138.cell? ⟨gb344, 2, none⟩ = some (.int .i64 0) := (blk_cell BK344.out 2).trans rfl; have hfz140_0 := blk_frozen BK344.out 0; have hfz140_1 := blk_frozen BK344.out 1; have hfz140_2 := blk_frozen BK344.out 2))
     (try simp only [Act.put, List.setIfInBounds_toArray, List.set_cons_zero, List.set_cons_succ])
     go_cut [351] from 351 to 351 (fun v351 wc => ∃ (kq : Nat) (x351_135 : Bool), v351 = .bool x351_135 ∧ Aside0 (laws_FnRisersFitOfAll.j1 kq a1 a2 a3 a4 a5 a6 a7 a8 a9 t311 t315 t325 x351_135 a0_0 a0_1 a0_2 = some true) ∧ Aside0 (kq ≤ kj26) ∧ Aside0 (wc.heap[gb306]? = some (.cells #[.int .i64 a0_0, .int .i64 a0_1, .int .i64 a0_2] 32 (0, 0))) ∧ Aside0 (wc.heap[gb344]? = some (.cells #[.int .i64 t340, .int .i64 t341, .int .i64 t342] 32 (0, 0))) ∧ Aside0 (Below w.heap.size w wc))
     case first =>
      as_aux_lemma =>
       have H := HC136.out
       clear HC136
       by_cases c141 : t311 = (wrap64 (a0_0 * a0_1))
       ·rw [if_pos c141] at H
        have c141b0 : (t311 == (wrap64 (a0_0 * a0_1))) = true := beq_iff_eq.mpr c141
        have c141b1 : (t311 != (wrap64 (a0_0 * a0_1))) = false := bne_eq_false_iff_eq.mpr c141
        clear c141
        by_cases c142 : t315 = (wrap64 ((wrap64 (a0_0 - 1)) * a0_2))
        ·rw [if_pos c142] at H
         have c142b0 : (t315 == (wrap64 ((wrap64 (a0_0 - 1)) * a0_2))) = true := beq_iff_eq.mpr c142
         have c142b1 : (t315 != (wrap64 ((wrap64 (a0_0 - 1)) * a0_2))) = false := bne_eq_false_iff_eq.mpr c142
         clear c142
         replace H := Option.bind_eq_some_iff.mp H
         obtain ⟨t345, A1430, H⟩ := H
         try dsimp only at H
         have A143 := Aside0.mk A1430
         clear A1430
         by_cases c144 : t345 = true
         ·subst c144
          rw [if_pos rfl] at H
          by_cases c145 : t325 = (wrap64 ((wrap64 (2 * a0_1)) + a0_2))
          ·rw [if_pos c145] at H
           have c145b0 : (t325 == (wrap64 ((wrap64 (2 * a0_1)) + a0_2))) = true := beq_iff_eq.mpr c145
           have c145b1 : (t325 != (wrap64 ((wrap64 (2 * a0_1)) + a0_2))) = false := bne_eq_false_iff_eq.mpr c145
           clear c145
           by_cases c146 : t329 = (wrap64 ((wrap64 (t311 * t311)) + (wrap64 (t315 * t315))))
           ·rw [if_pos c146] at H
            have c146b0 : (t329 == (wrap64 ((wrap64 (t311 * t311)) + (wrap64 (t315 * t315))))) = true := beq_iff_eq.mpr c146
            have c146b1 : (t329 != (wrap64 ((wrap64 (t311 * t311)) + (wrap64 (t315 * t315))))) = false := bne_eq_false_iff_eq.mpr c146
            clear c146
            by_cases c147 : t308 = true
            ·subst c147
             rw [if_pos rfl] at H
             by_cases c148 : (wrap64 (t307 * t307)) = t329
             ·rw [if_pos c148] at H
              have c148b0 : ((wrap64 (t307 * t307)) == t329) = true := beq_iff_eq.mpr c148
              have c148b1 : ((wrap64 (t307 * t307)) != t329) = false := bne_eq_false_iff_eq.mpr c148
              clear c148
              by_cases c149 : t343 = true
              ·subst c149
               rw [if_pos rfl] at H
               have H' := Aside0.mk H
               clear H
               have hnb150 := NB306_344.out
               have hnc150 := NB344_306.out
               have hcz151_0 : w138.cell? ⟨gb306, 0, none⟩ = some (.int .i64 a0_0) := (blk_cell BK306.out 0).trans rfl
               have hcz151_1 : w138.cell? ⟨gb306, 1, none⟩ = some (.int .i64 a0_1) := (blk_cell BK306.out 1).trans rfl
               have hcz151_2 : w138.cell? ⟨gb306, 2, none⟩ = some (.int .i64 a0_2) := (blk_cell BK306.out 2).trans rfl
               have hfz151_0 := blk_frozen BK306.out 0
               have hfz151_1 := blk_frozen BK306.out 1
               have hfz151_2 := blk_frozen BK306.out 2
               go_wp2_with (first | (go_at_call 47; (with_reducible refine (laws_lIs.calls kj26 t319 t320 a0_1 a0_2 true _ A143.out).mono ?_); rintro e w' ⟨rfl, ⟨nd, rfl⟩⟩; have hcz152_0 : w138.cell? ⟨gb344, 0, none⟩ = some (.int .i64 0) := (blk_cell BK344.out 0).trans rfl; have hcz152_1 : w138.cell? ⟨gb344, 1, none⟩ = some (.int .i64 0) := (blk_cell BK344.out 1).trans rfl; have hcz152_2 : w138.cell? ⟨gb344, 2, none⟩ = some (.int .i64 0) := (blk_cell BK344.out 2).trans rfl; have hfz152_0 := blk_frozen BK344.out 0; have hfz152_1 := blk_frozen BK344.out 1; have hfz152_2 := blk_frozen BK344.out 2))
               go_meet
               case rel => exact ⟨_, ((!(t340 == a0_0) || (!(t341 == a0_1) || (!(t342 == a0_2))))), (by first | rfl | (simp; done) | (simp [*]; done)), H', ⟨by have := HJ26.out; first | omega | exact Nat.le_refl _⟩, ⟨by (with_reducible repeat (first | refine kN_ ?_ _ | refine kD_ ?_ | refine kA_ ?_ _)); refine blk_far ?_ NB306_344.out _; (with_reducible repeat (first | refine kN_ ?_ _ | refine kD_ ?_ | refine kA_ ?_ _)); refine blk_far ?_ NB306_344.out _; (with_reducible repeat (first | refine kN_ ?_ _ | refine kD_ ?_ | refine kA_ ?_ _)); refine blk_far ?_ NB306_344.out _; (with_reducible repeat (first | refine kN_ ?_ _ | refine kD_ ?_ | refine kA_ ?_ _)); exact BK306.out⟩, ⟨by (with_reducible repeat (first | refine kN_ ?_ _ | refine kD_ ?_ | refine kA_ ?_ _)); refine blk_put (cs := #[.int .i64 t340, .int .i64 t341, .int .i64 0]) ?_ 2 _ rfl; (with_reducible repeat (first | refine kN_ ?_ _ | refine kD_ ?_ | refine kA_ ?_ _)); refine blk_put (cs := #[.int .i64 t340, .int .i64 0, .int .i64 0]) ?_ 1 _ rfl; (with_reducible repeat (first | refine kN_ ?_ _ | refine kD_ ?_ | refine kA_ ?_ _)); refine blk_put (cs := #[.int .i64 0, .int .i64 0, .int .i64 0]) ?_ 0 _ rfl; (with_reducible repeat (first | refine kN_ ?_ _ | refine kD_ ?_ | refine kA_ ?_ _)); exact BK344.out⟩, ⟨by repeat (first | (with_reducible first | exact HB.out | apply bA_ | apply bN_ | apply bD_ | refine bS_ ?_ GE306.out | refine bS_ ?_ GE344.out) | exact HB.out)⟩⟩
              replace c149 := Bool.eq_false_iff.mpr c149
              subst c149
              rw [if_neg (show ¬ (false = true) by decide)] at H
              exact absurd H laws_FnRisersFitOfAll.j1_no
             rw [if_neg c148] at H
             exact absurd H laws_FnRisersFitOfAll.j1_no
            replace c147 := Bool.eq_false_iff.mpr c147
            subst c147
            rw [if_neg (show ¬ (false = true) by decide)] at H
            by_cases c157 : t343 = true
            ·subst c157
             rw [if_pos rfl] at H
             have H' := Aside0.mk H
             clear H
             have hnb158 := NB306_344.out
             have hnc158 := NB344_306.out
             have hcz159_0 : w138.cell? ⟨gb306, 0, none⟩ = some (.int .i64 a0_0) := (blk_cell BK306.out 0).trans rfl
             have hcz159_1 : w138.cell? ⟨gb306, 1, none⟩ = some (.int .i64 a0_1) := (blk_cell BK306.out 1).trans rfl
             have hcz159_2 : w138.cell? ⟨gb306, 2, none⟩ = some (.int .i64 a0_2) := (blk_cell BK306.out 2).trans rfl
             have hfz159_0 := blk_frozen BK306.out 0
             have hfz159_1 := blk_frozen BK306.out 1
             have hfz159_2 := blk_frozen BK306.out 2
             go_wp2_with (first | (go_at_call 47; (with_reducible refine (laws_lIs.calls kj26 t319 t320 a0_1 a0_2 true _ A143.out).mono ?_); rintro e w' ⟨rfl, ⟨nd, rfl⟩⟩; have hcz160_0 : w138.cell? ⟨gb344, 0, none⟩ = some (.int .i64 0) := (blk_cell BK344.out 0).trans rfl; have hcz160_1 : w138.cell? ⟨gb344, 1, none⟩ = some (.int .i64 0) := (blk_cell BK344.out 1).trans rfl; have hcz160_2 : w138.cell? ⟨gb344, 2, none⟩ = some (.int .i64 0) := (blk_cell BK344.out 2).trans rfl; have hfz160_0 := blk_frozen BK344.out 0; have hfz160_1 := blk_frozen BK344.out 1; have hfz160_2 := blk_frozen BK344.out 2))
             go_meet
             case rel => exact ⟨_, ((!(t340 == a0_0) || (!(t341 == a0_1) || (!(t342 == a0_2))))), (by first | rfl | (simp; done) | (simp [*]; done)), H', ⟨by have := HJ26.out; first | omega | exact Nat.le_refl _⟩, ⟨by (with_reducible repeat (first | refine kN_ ?_ _ | refine kD_ ?_ | refine kA_ ?_ _)); refine blk_far ?_ NB306_344.out _; (with_reducible repeat (first | refine kN_ ?_ _ | refine kD_ ?_ | refine kA_ ?_ _)); refine blk_far ?_ NB306_344.out _; (with_reducible repeat (first | refine kN_ ?_ _ | refine kD_ ?_ | refine kA_ ?_ _)); refine blk_far ?_ NB306_344.out _; (with_reducible repeat (first | refine kN_ ?_ _ | refine kD_ ?_ | refine kA_ ?_ _)); exact BK306.out⟩, ⟨by (with_reducible repeat (first | refine kN_ ?_ _ | refine kD_ ?_ | refine kA_ ?_ _)); refine blk_put (cs := #[.int .i64 t340, .int .i64 t341, .int .i64 0]) ?_ 2 _ rfl; (with_reducible repeat (first | refine kN_ ?_ _ | refine kD_ ?_ | refine kA_ ?_ _)); refine blk_put (cs := #[.int .i64 t340, .int .i64 0, .int .i64 0]) ?_ 1 _ rfl; (with_reducible repeat (first | refine kN_ ?_ _ | refine kD_ ?_ | refine kA_ ?_ _)); refine blk_put (cs := #[.int .i64 0, .int .i64 0, .int .i64 0]) ?_ 0 _ rfl; (with_reducible repeat (first | refine kN_ ?_ _ | refine kD_ ?_ | refine kA_ ?_ _)); exact BK344.out⟩, ⟨by repeat (first | (with_reducible first | exact HB.out | apply bA_ | apply bN_ | apply bD_ | refine bS_ ?_ GE306.out | refine bS_ ?_ GE344.out) | exact HB.out)⟩⟩
            replace c157 := Bool.eq_false_iff.mpr c157
            subst c157
            rw [if_neg (show ¬ (false = true) by decide)] at H
            exact absurd H laws_FnRisersFitOfAll.j1_no
           rw [if_neg c146] at H
           exact absurd H laws_FnRisersFitOfAll.j1_no
          rw [if_neg c145] at H
          exact absurd H laws_FnRisersFitOfAll.j1_no
         replace c144 := Bool.eq_false_iff.mpr c144
         subst c144
         rw [if_neg (show ¬ (false = true) by decide)] at H
         exact absurd H laws_FnRisersFitOfAll.j1_no
        rw [if_neg c142] at H
        exact absurd H laws_FnRisersFitOfAll.j1_no
       rw [if_neg c141] at H
       exact absurd H laws_FnRisersFitOfAll.j1_no
     as_aux_lemma =>
      clear HC136
      (try clear c1); (try clear c2); (try clear p2); (try clear p6); (try clear c13); (try clear c14); (try clear c15); (try clear c16); (try clear c17); (try clear c27); (try clear p64); (try clear c132); (try clear c134); (try clear c139); (try clear c141); (try clear c141b0); (try clear c141b1); (try clear c142); (try clear c142b0); (try clear c142b1); (try clear c144); (try clear c145); (try clear c145b0); (try clear c145b1); (try clear c146); (try clear c146b0); (try clear c146b1); (try clear c147); (try clear c148); (try clear c148b0); (try clear c148b1); (try clear c149); (try clear c150); (try clear c153); (try clear c155); (try clear c157); (try clear c158); (try clear c161); (try clear c163); (try clear c165); (try clear c167); (try clear c169); (try clear c171); (try clear hcz140_0); (try clear hcz140_1); (try clear hcz140_2); (try clear hcz151_0); (try clear hcz151_1); (try clear hcz151_2); (try clear hcz152_0); (try clear hcz152_1); (try clear hcz152_2); (try clear hcz154_0); (try clear hcz154_1); (try clear hcz154_2); (try clear hcz156_0); (try clear hcz156_1); (try clear hcz156_2); (try clear hcz159_0); (try clear hcz159_1); (try clear hcz159_2); (try clear hcz160_0); (try clear hcz160_1); (try clear hcz160_2); (try clear hcz162_0); (try clear hcz162_1); (try clear hcz162_2); (try clear hcz164_0); (try clear hcz164_1); (try clear hcz164_2); (try clear hcz166_0); (try clear hcz166_1); (try clear hcz166_2); (try clear hcz168_0); (try clear hcz168_1); (try clear hcz168_2); (try clear hcz170_0); (try clear hcz170_1); (try clear hcz170_2); (try clear hcz172_0); (try clear hcz172_1); (try clear hcz172_2); (try clear hfz140_0); (try clear hfz140_1); (try clear hfz140_2); (try clear hfz151_0); (try clear hfz151_1); (try clear hfz151_2); (try clear hfz152_0); (try clear hfz152_1); (try clear hfz152_2); (try clear hfz154_0); (try clear hfz154_1); (try clear hfz154_2); (try clear hfz156_0); (try clear hfz156_1); (try clear hfz156_2); (try clear hfz159_0); (try clear hfz159_1); (try clear hfz159_2); (try clear hfz160_0); (try clear hfz160_1); (try clear hfz160_2); (try clear hfz162_0); (try clear hfz162_1); (try clear hfz162_2); (try clear hfz164_0); (try clear hfz164_1); (try clear hfz164_2); (try clear hfz166_0); (try clear hfz166_1); (try clear hfz166_2); (try clear hfz168_0); (try clear hfz168_1); (try clear hfz168_2); (try clear hfz170_0); (try clear hfz170_1); (try clear hfz170_2); (try clear hfz172_0); (try clear hfz172_1); (try clear hfz172_2); try clear p2
      obtain ⟨kq, x351_135, rfl, HA, HJ135, BK306, BK344, HB⟩ := hcut
      rcases kq with _ | kj135
      ·exact absurd HA.out (by simp [laws_FnRisersFitOfAll.j1])
      have H := HA.out
      clear HA
      simp only [laws_FnRisersFitOfAll.j1] at H
      by_cases c173 : x351_135 = true
      ·subst c173
       rw [if_pos rfl] at H
       exact absurd (Option.some.inj H) (by decide)
      replace c173 := Bool.eq_false_iff.mpr c173
      subst c173
      rw [if_neg (show ¬ (false = true) by decide)] at H
      replace H := Option.bind_eq_some_iff.mp H
      obtain ⟨⟨t346, t347⟩, A1740, H⟩ := H
      try dsimp only at H
      have A174 := Aside0.mk A1740
      clear A1740
      replace H := Option.bind_eq_some_iff.mp H
      obtain ⟨⟨t348, t349⟩, A1750, H⟩ := H
      try dsimp only at H
      have A175 := Aside0.mk A1750
      clear A1750
      by_cases c176 : t325 ≤ 2000
      ·rw [if_pos c176] at H
       have c176b0 : decide (t325 ≤ 2000) = true := decide_eq_true c176
       clear c176
       by_cases c177 : t347 = true
       ·subst c177
        rw [if_pos rfl] at H
        by_cases c178 : t346 = a0_2
        ·rw [if_pos c178] at H
         have c178b0 : (t346 == a0_2) = true := beq_iff_eq.mpr c178
         have c178b1 : (t346 != a0_2) = false := bne_eq_false_iff_eq.mpr c178
         clear c178
         by_cases c179 : t349 = true
         ·subst c179
          rw [if_pos rfl] at H
          by_cases c180 : t348 = t311
          ·rw [if_pos c180] at H
           have c180b0 : (t348 == t311) = true := beq_iff_eq.mpr c180
           have c180b1 : (t348 != t311) = false := bne_eq_false_iff_eq.mpr c180
           clear c180
           have H' := Aside0.mk H
           clear H
           have hnb181 := NB306_344.out
           have hnc181 := NB344_306.out
           have hcz182_0 : wc.cell? ⟨gb306, 0, none⟩ = some (.int .i64 a0_0) := (blk_cell BK306.out 0).trans rfl
           have hcz182_1 : wc.cell? ⟨gb306, 1, none⟩ = some (.int .i64 a0_1) := (blk_cell BK306.out 1).trans rfl
           have hcz182_2 : wc.cell? ⟨gb306, 2, none⟩ = some (.int .i64 a0_2) := (blk_cell BK306.out 2).trans rfl
           have hfz182_0 := blk_frozen BK306.out 0
           have hfz182_1 := blk_frozen BK306.out 1
           have hfz182_2 := blk_frozen BK306.out 2
           go_wp2_with (first | ((with_reducible refine gate_callee (f := 48) rfl ?_); refine goesL_ (some 356) rfl rfl Tryd.func48 (by kernel_rfl) rfl #[.int .i64 a0_1, .int .i64 t325] rfl (by (try simp only [List.map_toArray, List.map_cons, List.map_nil]); first | done | rfl | (simp only [List.length_drop, List.length_take]; rfl)) ?_; (with_reducible refine (impl_TreadFor.calls a0_1 t325 t346 true _ A174.out).mono ?_); rintro e w' ⟨rfl, ⟨nd, rfl⟩⟩; refine ⟨_, rfl, ?_⟩) | ((with_reducible refine gate_callee (f := 49) rfl ?_); refine goesL_ (some 362) rfl rfl Tryd.func49 (by kernel_rfl) rfl #[.agg #[.int .i64 a0_0, .int .i64 a0_1, .int .i64 a0_2], .int .i64 t315] rfl (by (try simp only [List.map_toArray, List.map_cons, List.map_nil]); first | done | rfl | (simp only [List.length_drop, List.length_take]; rfl)) ?_; (with_reducible refine (impl_HeightAtRun.calls kj135 a0_0 a0_1 a0_2 t315 t348 true _ A175.out).mono ?_); rintro e w183 ⟨rfl, hb⟩; refine ⟨_, rfl, ?_⟩; have n0_ := Aside0.mk (blk_below (g := gb306) (o := .cells #[.int .i64 a0_0, .int .i64 a0_1, .int .i64 a0_2] 32 (0, 0)) (by (with_reducible repeat (first | refine kN_ ?_ _ | refine kD_ ?_ | refine kA_ ?_ _)); exact BK306.out) hb); have n1_ := Aside0.mk (blk_below (g := gb344) (o := .cells #[.int .i64 t340, .int .i64 t341, .int .i64 t342] 32 (0, 0)) (by (with_reducible repeat (first | refine kN_ ?_ _ | refine kD_ ?_ | refine kA_ ?_ _)); exact BK344.out) hb); have n2_ := Aside0.mk (below_step (by repeat (first | (with_reducible first | exact HB.out | apply bA_ | apply bN_ | apply bD_ | refine bS_ ?_ GE306.out | refine bS_ ?_ GE344.out) | exact HB.out)) hb); clear BK306; clear BK344; clear HB; have BK306 := n0_; have BK344 := n1_; have HB := n2_; clear n0_ n1_ n2_; (try clear hb); (try clear hb2); (try clear hk); (try clear hi); have hcz184_0 : w183.cell? ⟨gb306, 0, none⟩ = some (.int .i64 a0_0) := (blk_cell BK306.out 0).trans rfl; have hcz184_1 : w183.cell? ⟨gb306, 1, none⟩ = some (.int .i64 a0_1) := (blk_cell BK306.out 1).trans rfl; have hcz184_2 : w183.cell? ⟨gb306, 2, none⟩ = some (.int .i64 a0_2) := (blk_cell BK306.out 2).trans rfl; have hfz184_0 := blk_frozen BK306.out 0; have hfz184_1 := blk_frozen BK306.out 1; have hfz184_2 := blk_frozen BK306.out 2))
           go_meet
           case rel => exact ⟨_, H', ⟨by have := HJ26.out; have := HJ135.out; first | omega | exact Nat.le_refl _⟩, ⟨by (with_reducible repeat (first | refine kN_ ?_ _ | refine kD_ ?_ | refine kA_ ?_ _)); exact BK306.out⟩, ⟨by repeat (first | (with_reducible first | exact HB.out | apply bA_ | apply bN_ | apply bD_ | refine bS_ ?_ GE306.out | refine bS_ ?_ GE344.out) | exact HB.out)⟩⟩
          rw [if_neg c180] at H
          exact absurd (Option.some.inj H) (by decide)
         replace c179 := Bool.eq_false_iff.mpr c179
         subst c179
         rw [if_neg (show ¬ (false = true) by decide)] at H
         exact absurd (Option.some.inj H) (by decide)
        rw [if_neg c178] at H
        exact absurd (Option.some.inj H) (by decide)
       replace c177 := Bool.eq_false_iff.mpr c177
       subst c177
       rw [if_neg (show ¬ (false = true) by decide)] at H
       exact absurd (Option.some.inj H) (by decide)
      rw [if_neg c176] at H
      have c176b0 : decide (t325 ≤ 2000) = false := decide_eq_false c176
      clear c176
      by_cases c200 : t349 = true
      ·subst c200
       rw [if_pos rfl] at H
       by_cases c201 : t348 = t311
       ·rw [if_pos c201] at H
        have c201b0 : (t348 == t311) = true := beq_iff_eq.mpr c201
        have c201b1 : (t348 != t311) = false := bne_eq_false_iff_eq.mpr c201
        clear c201
        have H' := Aside0.mk H
        clear H
        have hnb202 := NB306_344.out
        have hnc202 := NB344_306.out
        have hcz203_0 : wc.cell? ⟨gb306, 0, none⟩ = some (.int .i64 a0_0) := (blk_cell BK306.out 0).trans rfl
        have hcz203_1 : wc.cell? ⟨gb306, 1, none⟩ = some (.int .i64 a0_1) := (blk_cell BK306.out 1).trans rfl
        have hcz203_2 : wc.cell? ⟨gb306, 2, none⟩ = some (.int .i64 a0_2) := (blk_cell BK306.out 2).trans rfl
        have hfz203_0 := blk_frozen BK306.out 0
        have hfz203_1 := blk_frozen BK306.out 1
        have hfz203_2 := blk_frozen BK306.out 2
        go_wp2_with (first | ((with_reducible refine gate_callee (f := 48) rfl ?_); refine goesL_ (some 356) rfl rfl Tryd.func48 (by kernel_rfl) rfl #[.int .i64 a0_1, .int .i64 t325] rfl (by (try simp only [List.map_toArray, List.map_cons, List.map_nil]); first | done | rfl | (simp only [List.length_drop, List.length_take]; rfl)) ?_; (with_reducible refine (impl_TreadFor.calls a0_1 t325 t346 t347 _ A174.out).mono ?_); rintro e w' ⟨rfl, ⟨nd, rfl⟩⟩; refine ⟨_, rfl, ?_⟩) | ((with_reducible refine gate_callee (f := 49) rfl ?_); refine goesL_ (some 362) rfl rfl Tryd.func49 (by kernel_rfl) rfl #[.agg #[.int .i64 a0_0, .int .i64 a0_1, .int .i64 a0_2], .int .i64 t315] rfl (by (try simp only [List.map_toArray, List.map_cons, List.map_nil]); first | done | rfl | (simp only [List.length_drop, List.length_take]; rfl)) ?_; (with_reducible refine (impl_HeightAtRun.calls kj135 a0_0 a0_1 a0_2 t315 t348 true _ A175.out).mono ?_); rintro e w204 ⟨rfl, hb⟩; refine ⟨_, rfl, ?_⟩; have n0_ := Aside0.mk (blk_below (g := gb306) (o := .cells #[.int .i64 a0_0, .int .i64 a0_1, .int .i64 a0_2] 32 (0, 0)) (by (with_reducible repeat (first | refine kN_ ?_ _ | refine kD_ ?_ | refine kA_ ?_ _)); exact BK306.out) hb); have n1_ := Aside0.mk (blk_below (g := gb344) (o := .cells #[.int .i64 t340, .int .i64 t341, .int .i64 t342] 32 (0, 0)) (by (with_reducible repeat (first | refine kN_ ?_ _ | refine kD_ ?_ | refine kA_ ?_ _)); exact BK344.out) hb); have n2_ := Aside0.mk (below_step (by repeat (first | (with_reducible first | exact HB.out | apply bA_ | apply bN_ | apply bD_ | refine bS_ ?_ GE306.out | refine bS_ ?_ GE344.out) | exact HB.out)) hb); clear BK306; clear BK344; clear HB; have BK306 := n0_; have BK344 := n1_; have HB := n2_; clear n0_ n1_ n2_; (try clear hb); (try clear hb2); (try clear hk); (try clear hi)))
        go_meet
        case rel => exact ⟨_, H', ⟨by have := HJ26.out; have := HJ135.out; first | omega | exact Nat.le_refl _⟩, ⟨by (with_reducible repeat (first | refine kN_ ?_ _ | refine kD_ ?_ | refine kA_ ?_ _)); exact BK306.out⟩, ⟨by repeat (first | (with_reducible first | exact HB.out | apply bA_ | apply bN_ | apply bD_ | refine bS_ ?_ GE306.out | refine bS_ ?_ GE344.out) | exact HB.out)⟩⟩
       rw [if_neg c201] at H
       exact absurd (Option.some.inj H) (by decide)
      replace c200 := Bool.eq_false_iff.mpr c200
      subst c200
      rw [if_neg (show ¬ (false = true) by decide)] at H
      exact absurd (Option.some.inj H) (by decide)
    replace c134 := Bool.eq_false_iff.mpr c134
    subst c134
    rw [if_neg (show ¬ (false = true) by decide)] at H
    have H' := Aside0.mk H
    clear H
    go_wp2
    go_meet
    case rel => exact ⟨_, H', ⟨by have := HJ26.out; first | omega | exact Nat.le_refl _⟩, ⟨by (with_reducible repeat (first | refine kN_ ?_ _ | refine kD_ ?_ | refine kA_ ?_ _)); exact BK306.out⟩, ⟨by repeat (first | (with_reducible first | exact HB.out | apply bA_ | apply bN_ | apply bD_ | refine bS_ ?_ GE306.out) | exact HB.out)⟩⟩
  as_aux_lemma =>
   clear HC133
   (try clear c1); (try clear c2); (try clear p2); (try clear c4); (try clear p6); (try clear c13); (try clear c14); (try clear c15); (try clear c16); (try clear c17); (try clear c18); (try clear c19); (try clear c20); (try clear c27); (try clear c48); (try clear c49); (try clear p64); (try clear c132); (try clear c134); (try clear c139); (try clear c141); (try clear c141b0); (try clear c141b1); (try clear c142); (try clear c142b0); (try clear c142b1); (try clear c144); (try clear c145); (try clear c145b0); (try clear c145b1); (try clear c146); (try clear c146b0); (try clear c146b1); (try clear c147); (try clear c148); (try clear c148b0); (try clear c148b1); (try clear c149); (try clear c150); (try clear c153); (try clear c155); (try clear c157); (try clear c158); (try clear c161); (try clear c163); (try clear c165); (try clear c167); (try clear c169); (try clear c171); (try clear c173); (try clear c176); (try clear c176b0); (try clear c177); (try clear c178); (try clear c178b0); (try clear c178b1); (try clear c179); (try clear c180); (try clear c180b0); (try clear c180b1); (try clear c181); (try clear c185); (try clear c189); (try clear c193); (try clear c197); (try clear c200); (try clear c201); (try clear c201b0); (try clear c201b1); (try clear c202); (try clear c205); (try clear c208); (try clear hcz140_0); (try clear hcz140_1); (try clear hcz140_2); (try clear hcz151_0); (try clear hcz151_1); (try clear hcz151_2); (try clear hcz152_0); (try clear hcz152_1); (try clear hcz152_2); (try clear hcz154_0); (try clear hcz154_1); (try clear hcz154_2); (try clear hcz156_0); (try clear hcz156_1); (try clear hcz156_2); (try clear hcz159_0); (try clear hcz159_1); (try clear hcz159_2); (try clear hcz160_0); (try clear hcz160_1); (try clear hcz160_2); (try clear hcz162_0); (try clear hcz162_1); (try clear hcz162_2); (try clear hcz164_0); (try clear hcz164_1); (try clear hcz164_2); (try clear hcz166_0); (try clear hcz166_1); (try clear hcz166_2); (try clear hcz168_0); (try clear hcz168_1); (try clear hcz168_2); (try clear hcz170_0); (try clear hcz170_1); (try clear hcz170_2); (try clear hcz172_0); (try clear hcz172_1); (try clear hcz172_2); (try clear hcz182_0); (try clear hcz182_1); (try clear hcz182_2); (try clear hcz184_0); (try clear hcz184_1); (try clear hcz184_2); (try clear hcz186_0); (try clear hcz186_1); (try clear hcz186_2); (try clear hcz188_0); (try clear hcz188_1); (try clear hcz188_2); (try clear hcz190_0); (try clear hcz190_1); (try clear hcz190_2); (try clear hcz192_0); (try clear hcz192_1); (try clear hcz192_2); (try clear hcz194_0); (try clear hcz194_1); (try clear hcz194_2); (try clear hcz196_0); (try clear hcz196_1); (try clear hcz196_2); (try clear hcz198_0); (try clear hcz198_1); (try clear hcz198_2); (try clear hcz203_0); (try clear hcz203_1); (try clear hcz203_2); (try clear hcz206_0); (try clear hcz206_1); (try clear hcz206_2); (try clear hcz209_0); (try clear hcz209_1); (try clear hcz209_2); (try clear hfz140_0); (try clear hfz140_1); (try clear hfz140_2); (try clear hfz151_0); (try clear hfz151_1); (try clear hfz151_2); (try clear hfz152_0); (try clear hfz152_1); (try clear hfz152_2); (try clear hfz154_0); (try clear hfz154_1); (try clear hfz154_2); (try clear hfz156_0); (try clear hfz156_1); (try clear hfz156_2); (try clear hfz159_0); (try clear hfz159_1); (try clear hfz159_2); (try clear hfz160_0); (try clear hfz160_1); (try clear hfz160_2); (try clear hfz162_0); (try clear hfz162_1); (try clear hfz162_2); (try clear hfz164_0); (try clear hfz164_1); (try clear hfz164_2); (try clear hfz166_0); (try clear hfz166_1); (try clear hfz166_2); (try clear hfz168_0); (try clear hfz168_1); (try clear hfz168_2); (try clear hfz170_0); (try clear hfz170_1); (try clear hfz170_2); (try clear hfz172_0); (try clear hfz172_1); (try clear hfz172_2); (try clear hfz182_0); (try clear hfz182_1); (try clear hfz182_2); (try clear hfz184_0); (try clear hfz184_1); (try clear hfz184_2); (try clear hfz186_0); (try clear hfz186_1); (try clear hfz186_2); (try clear hfz188_0); (try clear hfz188_1); (try clear hfz188_2); (try clear hfz190_0); (try clear hfz190_1); (try clear hfz190_2); (try clear hfz192_0); (try clear hfz192_1); (try clear hfz192_2); (try clear hfz194_0); (try clear hfz194_1); (try clear hfz194_2); (try clear hfz196_0); (try clear hfz196_1); (try clear hfz196_2); (try clear hfz198_0); (try clear hfz198_1); (try clear hfz198_2); (try clear hfz203_0); (try clear hfz203_1); (try clear hfz203_2); (try clear hfz206_0); (try clear hfz206_1); (try clear hfz206_2); (try clear hfz209_0); (try clear hfz209_1); (try clear hfz209_2); (try clear p2); (try clear p6); try clear p64
   obtain ⟨kq, HA, HJ132, BK306, HB⟩ := hcut
   rcases kq with _ | kj132
   ·exact absurd HA.out (by simp [laws_FnRisersFitOfAll.j2])
   have H := HA.out
   clear HA
   simp only [laws_FnRisersFitOfAll.j2] at H
   replace H := Option.bind_eq_some_iff.mp H
   obtain ⟨⟨t350, t351⟩, A2110, H⟩ := H
   try dsimp only at H
   have A211 := Aside0.mk A2110
   clear A2110
   replace H := Option.bind_eq_some_iff.mp H
   obtain ⟨⟨t354, t355⟩, A2120, H⟩ := H
   try dsimp only at H
   have A212 := Aside0.mk A2120
   clear A2120
   replace H := Option.bind_eq_some_iff.mp H
   obtain ⟨⟨t358, t359⟩, A2130, H⟩ := H
   try dsimp only at H
   have A213 := Aside0.mk A2130
   clear A2130
   replace H := Option.bind_eq_some_iff.mp H
   obtain ⟨⟨t362, t363⟩, A2140, H⟩ := H
   try dsimp only at H
   have A214 := Aside0.mk A2140
   clear A2140
   replace H := Option.bind_eq_some_iff.mp H
   obtain ⟨⟨t366, t367⟩, A2150, H⟩ := H
   try dsimp only at H
   have A215 := Aside0.mk A2150
   clear A2150
   replace H := Option.bind_eq_some_iff.mp H
   obtain ⟨⟨t370, t371⟩, A2160, H⟩ := H
   try dsimp only at H
   have A216 := Aside0.mk A2160
   clear A2160
   replace H := Option.bind_eq_some_iff.mp H
   obtain ⟨⟨t374, t375, t376, t377⟩, A2170, H⟩ := H
   try dsimp only at H
   have A217 := Aside0.mk A2170
   clear A2170
   replace H := Option.bind_eq_some_iff.mp H
   obtain ⟨⟨t379, t380, t381, t382⟩, A2180, H⟩ := H
   try dsimp only at H
   have A218 := Aside0.mk A2180
   clear A2180
   have HC219 := Aside0.mk H
   clear H
   go_upto_region 35 with (first | ((with_reducible refine gate_callee (f := 50) rfl ?_); refine goesL_ (some 389) rfl rfl Tryd.func50 (by kernel_rfl) rfl #[.int .i64 a1, .int .i64 a2] rfl (by (try simp only [List.map_toArray, List.map_cons, List.map_nil]); first | done | rfl | (simp only [List.length_drop, List.length_take]; rfl)) ?_; (with_reducible refine (impl_EvenRisers.calls kj132 a1 a2 t350 t351 _ A211.out).mono ?_); rintro e w220 ⟨v352, rfl, ho0, hb⟩; refine ⟨_, rfl, ?_⟩; have n0_ := Aside0.mk (Kd.R_lower ho0 (below_size (by repeat (first | (with_reducible first | exact HB.out | apply bA_ | apply bN_ | apply bD_ | refine bS_ ?_ GE306.out) | exact HB.out)))); have n1_ := Aside0.mk (blk_below (g := gb306) (o := .cells #[.int .i64 a0_0, .int .i64 a0_1, .int .i64 a0_2] 32 (0, 0)) (by (with_reducible repeat (first | refine kN_ ?_ _ | refine kD_ ?_ | refine kA_ ?_ _)); exact BK306.out) hb); have n2_ := Aside0.mk (below_step (by repeat (first | (with_reducible first | exact HB.out | apply bA_ | apply bN_ | apply bD_ | refine bS_ ?_ GE306.out) | exact HB.out)) hb); clear BK306; clear HB; have HO353 := n0_; have BK306 := n1_; have HB := n2_; clear n0_ n1_ n2_; (try clear hb); (try clear hb2); (try clear hk); (try clear hi); (try clear ho0)) | ((with_reducible refine gate_callee (f := 51) rfl ?_); refine goesL_ (some 395) rfl rfl Tryd.func51 (by kernel_rfl) rfl #[.int .i64 a1, .int .i64 a2] rfl (by (try simp only [List.map_toArray, List.map_cons, List.map_nil]); first | done | rfl | (simp only [List.length_drop, List.length_take]; rfl)) ?_; (with_reducible refine (spec_EvenRisers.calls kj132 a1 a2 t354 t355 _ A212.out).mono ?_); rintro e w221 ⟨v356, rfl, ho0, hb⟩; refine ⟨_, rfl, ?_⟩; have n0_ := Aside0.mk (Kd.R_elder' (by (with_reducible repeat (first | apply rA_ | apply rN_ | apply rD_)); exact HO353.out) (Kd.R_base ho0) hb); have n1_ := Aside0.mk (Kd.R_lower (Kd.R_new' ho0 (Kd.R_lt (by (with_reducible repeat (first | apply rA_ | apply rN_ | apply rD_)); exact HO353.out))) (below_size (by repeat (first | (with_reducible first | exact HB.out | apply bA_ | apply bN_ | apply bD_ | refine bS_ ?_ GE306.out) | exact HB.out)))); have n2_ := Aside0.mk (blk_below (g := gb306) (o := .cells #[.int .i64 a0_0, .int .i64 a0_1, .int .i64 a0_2] 32 (0, 0)) (by (with_reducible repeat (first | refine kN_ ?_ _ | refine kD_ ?_ | refine kA_ ?_ _)); exact BK306.out) hb); have n3_ := Aside0.mk (below_step (by repeat (first | (with_reducible first | exact HB.out | apply bA_ | apply bN_ | apply bD_ | refine bS_ ?_ GE306.out) | exact HB.out)) hb); clear HO353; clear BK306; clear HB; have HO353 := n0_; have HO357 := n1_; have BK306 := n2_; have HB := n3_; clear n0_ n1_ n2_ n3_; (try clear hb); (try clear hb2); (try clear hk); (try clear hi); (try clear ho0)) | ((with_reducible refine gate_callee (f := 52) rfl ?_); refine goesL_ (some 402) rfl rfl Tryd.func52 (by kernel_rfl) rfl #[.int .i64 a3, .int .i64 a4, .int .i64 a5] rfl (by (try simp only [List.map_toArray, List.map_cons, List.map_nil]); first | done | rfl | (simp only [List.length_drop, List.length_take]; rfl)) ?_; (with_reducible refine (impl_FlightsFor.calls kj132 a3 a4 a5 t358 t359 _ A213.out).mono ?_); rintro e w222 ⟨v360, rfl, ho0, hb⟩; refine ⟨_, rfl, ?_⟩; have n0_ := Aside0.mk (rB_ (by (with_reducible repeat (first | apply rA_ | apply rN_ | apply rD_)); exact HO353.out) hb); have n1_ := Aside0.mk (rB_ (by (with_reducible repeat (first | apply rA_ | apply rN_ | apply rD_)); exact HO357.out) hb); have n2_ := Aside0.mk (Kd.R_lower (Kd.R_newB ho0 (g := gb306) (o := .cells #[.int .i64 a0_0, .int .i64 a0_1, .int .i64 a0_2] 32 (0, 0)) (by (with_reducible repeat (first | refine kN_ ?_ _ | refine kD_ ?_ | refine kA_ ?_ _)); exact BK306.out)) (below_size (by repeat (first | (with_reducible first | exact HB.out | apply bA_ | apply bN_ | apply bD_ | refine bS_ ?_ GE306.out) | exact HB.out)))); have n3_ := Aside0.mk (blk_below (g := gb306) (o := .cells #[.int .i64 a0_0, .int .i64 a0_1, .int .i64 a0_2] 32 (0, 0)) (by (with_reducible repeat (first | refine kN_ ?_ _ | refine kD_ ?_ | refine kA_ ?_ _)); exact BK306.out) hb); have n4_ := Aside0.mk (below_step (by repeat (first | (with_reducible first | exact HB.out | apply bA_ | apply bN_ | apply bD_ | refine bS_ ?_ GE306.out) | exact HB.out)) hb); clear HO353; clear HO357; clear BK306; clear HB; have HO353 := n0_; have HO357 := n1_; have HO361 := n2_; have BK306 := n3_; have HB := n4_; clear n0_ n1_ n2_ n3_ n4_; (try clear hb); (try clear hb2); (try clear hk); (try clear hi); (try clear ho0)) | ((with_reducible refine gate_callee (f := 53) rfl ?_); refine goesL_ (some 409) rfl rfl Tryd.func53 (by kernel_rfl) rfl #[.int .i64 a3, .int .i64 a4, .int .i64 a5] rfl (by (try simp only [List.map_toArray, List.map_cons, List.map_nil]); first | done | rfl | (simp only [List.length_drop, List.length_take]; rfl)) ?_; (with_reducible refine (spec_FlightsFor.calls kj132 a3 a4 a5 t362 t363 _ A214.out).mono ?_); rintro e w223 ⟨v364, rfl, ho0, hb⟩; refine ⟨_, rfl, ?_⟩; have n0_ := Aside0.mk (rB_ (by (with_reducible repeat (first | apply rA_ | apply rN_ | apply rD_)); exact HO353.out) hb); have n1_ := Aside0.mk (rB_ (by (with_reducible repeat (first | apply rA_ | apply rN_ | apply rD_)); exact HO357.out) hb); have n2_ := Aside0.mk (Kd.R_elder' (by (with_reducible repeat (first | apply rA_ | apply rN_ | apply rD_)); exact HO361.out) (Kd.R_base ho0) hb); have n3_ := Aside0.mk (Kd.R_lower (Kd.R_newB (Kd.R_new' ho0 (Kd.R_lt (by (with_reducible repeat (first | apply rA_ | apply rN_ | apply rD_)); exact HO361.out))) (g := gb306) (o := .cells #[.int .i64 a0_0, .int .i64 a0_1, .int .i64 a0_2] 32 (0, 0)) (by (with_reducible repeat (first | refine kN_ ?_ _ | refine kD_ ?_ | refine kA_ ?_ _)); exact BK306.out)) (below_size (by repeat (first | (with_reducible first | exact HB.out | apply bA_ | apply bN_ | apply bD_ | refine bS_ ?_ GE306.out) | exact HB.out)))); have n4_ := Aside0.mk (blk_below (g := gb306) (o := .cells #[.int .i64 a0_0, .int .i64 a0_1, .int .i64 a0_2] 32 (0, 0)) (by (with_reducible repeat (first | refine kN_ ?_ _ | refine kD_ ?_ | refine kA_ ?_ _)); exact BK306.out) hb); have n5_ := Aside0.mk (below_step (by repeat (first | (with_reducible first | exact HB.out | apply bA_ | apply bN_ | apply bD_ | refine bS_ ?_ GE306.out) | exact HB.out)) hb); clear HO353; clear HO357; clear HO361; clear BK306; clear HB; have HO353 := n0_; have HO357 := n1_; have HO361 := n2_; have HO365 := n3_; have BK306 := n4_; have HB := n5_; clear n0_ n1_ n2_ n3_ n4_ n5_; (try clear hb); (try clear hb2); (try clear hk); (try clear hi); (try clear ho0)) | ((with_reducible refine gate_callee (f := 54) rfl ?_); refine goesL_ (some 416) rfl rfl Tryd.func54 (by kernel_rfl) rfl #[.int .i64 a6, .int .i64 a7, .int .i64 a8] rfl (by (try simp only [List.map_toArray, List.map_cons, List.map_nil]); first | done | rfl | (simp only [List.length_drop, List.length_take]; rfl)) ?_; (with_reducible refine (impl_WholeRisers.calls kj132 a6 a7 a8 t366 t367 _ A215.out).mono ?_); rintro e w224 ⟨v368, rfl, ho0, hb⟩; refine ⟨_, rfl, ?_⟩; have n0_ := Aside0.mk (Kd.R_elder' (by (with_reducible repeat (first | apply rA_ | apply rN_ | apply rD_)); exact HO353.out) (Kd.R_base ho0) hb); have n1_ := Aside0.mk (Kd.R_elder' (by (with_reducible repeat (first | apply rA_ | apply rN_ | apply rD_)); exact HO357.out) (Kd.R_base ho0) hb); have n2_ := Aside0.mk (rB_ (by (with_reducible repeat (first | apply rA_ | apply rN_ | apply rD_)); exact HO361.out) hb); have n3_ := Aside0.mk (rB_ (by (with_reducible repeat (first | apply rA_ | apply rN_ | apply rD_)); exact HO365.out) hb); have n4_ := Aside0.mk (Kd.R_lower (Kd.R_new' (Kd.R_new' ho0 (Kd.R_lt (by (with_reducible repeat (first | apply rA_ | apply rN_ | apply rD_)); exact HO353.out))) (Kd.R_lt (by (with_reducible repeat (first | apply rA_ | apply rN_ | apply rD_)); exact HO357.out))) (below_size (by repeat (first | (with_reducible first | exact HB.out | apply bA_ | apply bN_ | apply bD_ | refine bS_ ?_ GE306.out) | exact HB.out)))); have n5_ := Aside0.mk (blk_below (g := gb306) (o := .cells #[.int .i64 a0_0, .int .i64 a0_1, .int .i64 a0_2] 32 (0, 0)) (by (with_reducible repeat (first | refine kN_ ?_ _ | refine kD_ ?_ | refine kA_ ?_ _)); exact BK306.out) hb); have n6_ := Aside0.mk (below_step (by repeat (first | (with_reducible first | exact HB.out | apply bA_ | apply bN_ | apply bD_ | refine bS_ ?_ GE306.out) | exact HB.out)) hb); clear HO353; clear HO357; clear HO361; clear HO365; clear BK306; clear HB; have HO353 := n0_; have HO357 := n1_; have HO361 := n2_; have HO365 := n3_; have HO369 := n4_; have BK306 := n5_; have HB := n6_; clear n0_ n1_ n2_ n3_ n4_ n5_ n6_; (try clear hb); (try clear hb2); (try clear hk); (try clear hi); (try clear ho0)) | ((with_reducible refine gate_callee (f := 55) rfl ?_); refine goesL_ (some 423) rfl rfl Tryd.func55 (by kernel_rfl) rfl #[.int .i64 a6, .int .i64 a7, .int .i64 a8] rfl (by (try simp only [List.map_toArray, List.map_cons, List.map_nil]); first | done | rfl | (simp only [List.length_drop, List.length_take]; rfl)) ?_; (with_reducible refine (spec_WholeRisers.calls kj132 a6 a7 a8 t370 t371 _ A216.out).mono ?_); rintro e w225 ⟨v372, rfl, ho0, hb⟩; refine ⟨_, rfl, ?_⟩; have n0_ := Aside0.mk (Kd.R_elder' (by (with_reducible repeat (first | apply rA_ | apply rN_ | apply rD_)); exact HO353.out) (Kd.R_base ho0) hb); have n1_ := Aside0.mk (Kd.R_elder' (by (with_reducible repeat (first | apply rA_ | apply rN_ | apply rD_)); exact HO357.out) (Kd.R_base ho0) hb); have n2_ := Aside0.mk (rB_ (by (with_reducible repeat (first | apply rA_ | apply rN_ | apply rD_)); exact HO361.out) hb); have n3_ := Aside0.mk (rB_ (by (with_reducible repeat (first | apply rA_ | apply rN_ | apply rD_)); exact HO365.out) hb); have n4_ := Aside0.mk (Kd.R_elder' (by (with_reducible repeat (first | apply rA_ | apply rN_ | apply rD_)); exact HO369.out) (Kd.R_base ho0) hb); have n5_ := Aside0.mk (Kd.R_lower (Kd.R_new' (Kd.R_new' (Kd.R_new' ho0 (Kd.R_lt (by (with_reducible repeat (first | apply rA_ | apply rN_ | apply rD_)); exact HO353.out))) (Kd.R_lt (by (with_reducible repeat (first | apply rA_ | apply rN_ | apply rD_)); exact HO357.out))) (Kd.R_lt (by (with_reducible repeat (first | apply rA_ | apply rN_ | apply rD_)); exact HO369.out))) (below_size (by repeat (first | (with_reducible first | exact HB.out | apply bA_ | apply bN_ | apply bD_ | refine bS_ ?_ GE306.out) | exact HB.out)))); have n6_ := Aside0.mk (blk_below (g := gb306) (o := .cells #[.int .i64 a0_0, .int .i64 a0_1, .int .i64 a0_2] 32 (0, 0)) (by (with_reducible repeat (first | refine kN_ ?_ _ | refine kD_ ?_ | refine kA_ ?_ _)); exact BK306.out) hb); have n7_ := Aside0.mk (below_step (by repeat (first | (with_reducible first | exact HB.out | apply bA_ | apply bN_ | apply bD_ | refine bS_ ?_ GE306.out) | exact HB.out)) hb); clear HO353; clear HO357; clear HO361; clear HO365; clear HO369; clear BK306; clear HB; have HO353 := n0_; have HO357 := n1_; have HO361 := n2_; have HO365 := n3_; have HO369 := n4_; have HO373 := n5_; have BK306 := n6_; have HB := n7_; clear n0_ n1_ n2_ n3_ n4_ n5_ n6_ n7_; (try clear hb); (try clear hb2); (try clear hk); (try clear hi); (try clear ho0)) | ((with_reducible refine gate_callee (f := 27) rfl ?_); refine goesL_ (some 428) rfl rfl Tryd.func27 (by kernel_rfl) rfl #[.string a9] rfl (by (try simp only [List.map_toArray, List.map_cons, List.map_nil]); first | done | rfl | (simp only [List.length_drop, List.length_take]; rfl)) ?_; (with_reducible refine (impl_ParseFlight.calls a9 t374 t375 t376 t377 _ A217.out (Laid.below HLA.out (by repeat (first | (with_reducible first | exact HB.out | apply bA_ | apply bN_ | apply bD_ | refine bS_ ?_ GE306.out | refine bS_ ?_ GE344.out | refine bS_ ?_ GE378.out | refine bS_ ?_ GE383.out | refine bS_ ?_ GE400.out) | exact HB.out)))).mono ?_); rintro e w226 ⟨rfl, hb⟩; refine ⟨_, rfl, ?_⟩; have n0_ := Aside0.mk (rB_ (by (with_reducible repeat (first | apply rA_ | apply rN_ | apply rD_)); exact HO353.out) hb); have n1_ := Aside0.mk (rB_ (by (with_reducible repeat (first | apply rA_ | apply rN_ | apply rD_)); exact HO357.out) hb); have n2_ := Aside0.mk (rB_ (by (with_reducible repeat (first | apply rA_ | apply rN_ | apply rD_)); exact HO361.out) hb); have n3_ := Aside0.mk (rB_ (by (with_reducible repeat (first | apply rA_ | apply rN_ | apply rD_)); exact HO365.out) hb); have n4_ := Aside0.mk (rB_ (by (with_reducible repeat (first | apply rA_ | apply rN_ | apply rD_)); exact HO369.out) hb); have n5_ := Aside0.mk (rB_ (by (with_reducible repeat (first | apply rA_ | apply rN_ | apply rD_)); exact HO373.out) hb); have n6_ := Aside0.mk (blk_below (g := gb306) (o := .cells #[.int .i64 a0_0, .int .i64 a0_1, .int .i64 a0_2] 32 (0, 0)) (by (with_reducible repeat (first | refine kN_ ?_ _ | refine kD_ ?_ | refine kA_ ?_ _)); exact BK306.out) hb); have n7_ := Aside0.mk (below_step (by repeat (first | (with_reducible first | exact HB.out | apply bA_ | apply bN_ | apply bD_ | refine bS_ ?_ GE306.out) | exact HB.out)) hb); clear HO353; clear HO357; clear HO361; clear HO365; clear HO369; clear HO373; clear BK306; clear HB; have HO353 := n0_; have HO357 := n1_; have HO361 := n2_; have HO365 := n3_; have HO369 := n4_; have HO373 := n5_; have BK306 := n6_; have HB := n7_; clear n0_ n1_ n2_ n3_ n4_ n5_ n6_ n7_; (try clear hb); (try clear hb2); (try clear hk); (try clear hi)) | ((with_reducible refine gate_dst (N := 69) rfl ?_); refine box_event ?hg (N := 69) ?hd (cs := #[.int .i64 0, .int .i64 0, .int .i64 0]) (t := 32) ?hr ?_; (case hd => rfl); (case hg => rfl); (case hr => first | (go_simp; done) | (go_simp; rfl)); intro gb378 hg w227 hbox hb; have n0_ := Aside0.mk (rB_ (by (with_reducible repeat (first | apply rA_ | apply rN_ | apply rD_)); exact HO353.out) hb); have n1_ := Aside0.mk (rB_ (by (with_reducible repeat (first | apply rA_ | apply rN_ | apply rD_)); exact HO357.out) hb); have n2_ := Aside0.mk (rB_ (Kd.R_elderB (by (with_reducible repeat (first | apply rA_ | apply rN_ | apply rD_)); exact HO361.out) gb378 (Nat.le_of_eq hg.symm)) hb); have n3_ := Aside0.mk (rB_ (Kd.R_elderB (by (with_reducible repeat (first | apply rA_ | apply rN_ | apply rD_)); exact HO365.out) gb378 (Nat.le_of_eq hg.symm)) hb); have n4_ := Aside0.mk (rB_ (by (with_reducible repeat (first | apply rA_ | apply rN_ | apply rD_)); exact HO369.out) hb); have n5_ := Aside0.mk (rB_ (by (with_reducible repeat (first | apply rA_ | apply rN_ | apply rD_)); exact HO373.out) hb); have n6_ := Aside0.mk (blk_below (g := gb306) (o := .cells #[.int .i64 a0_0, .int .i64 a0_1, .int .i64 a0_2] 32 (0, 0)) (by (with_reducible repeat (first | refine kN_ ?_ _ | refine kD_ ?_ | refine kA_ ?_ _)); exact BK306.out) hb); have n7_ := Aside0.mk (below_step (by repeat (first | (with_reducible first | exact HB.out | apply bA_ | apply bN_ | apply bD_ | refine bS_ ?_ GE306.out) | exact HB.out)) hb); have n8_ := Aside0.mk (hbox); have n9_ := Aside0.mk ((by rw [hg]; exact (below_size (by repeat (first | (with_reducible first | exact HB.out | apply bA_ | apply bN_ | apply bD_ | refine bS_ ?_ GE306.out) | exact HB.out))) : w.heap.size ≤ gb378)); have n10_ := Aside0.mk ((by rw [hg]; exact (below_size (by repeat (first | (with_reducible first | exact HB.out | apply bA_ | apply bN_ | apply bD_ | refine bS_ ?_ GE306.out) | exact HB.out))) : w.heap.size ≤ gb378)); have n11_ := Aside0.mk ((by rw [hg]; exact Nat.ne_of_lt (blk_lt (g := gb306) (o := .cells #[.int .i64 a0_0, .int .i64 a0_1, .int .i64 a0_2] 32 (0, 0)) (by (with_reducible repeat (first | refine kN_ ?_ _ | refine kD_ ?_ | refine kA_ ?_ _)); exact BK306.out)) : gb306 ≠ gb378)); have n12_ := Aside0.mk ((by rw [hg]; exact Nat.ne_of_gt (blk_lt (g := gb306) (o := .cells #[.int .i64 a0_0, .int .i64 a0_1, .int .i64 a0_2] 32 (0, 0)) (by (with_reducible repeat (first | refine kN_ ?_ _ | refine kD_ ?_ | refine kA_ ?_ _)); exact BK306.out)) : gb378 ≠ gb306)); clear HO353; clear HO357; clear HO361; clear HO365; clear HO369; clear HO373; clear BK306; clear HB; have HO353 := n0_; have HO357 := n1_; have HO361 := n2_; have HO365 := n3_; have HO369 := n4_; have HO373 := n5_; have BK306 := n6_; have HB := n7_; have BK378 := n8_; have GW378 := n9_; have GE378 := n10_; have NB306_378 := n11_; have NB378_306 := n12_; clear n0_ n1_ n2_ n3_ n4_ n5_ n6_ n7_ n8_ n9_ n10_ n11_ n12_; clear hb hbox hg; have hnb228 := NB378_306.out; have hnc228 := NB306_378.out; have hcz229_0 : w227.cell? ⟨gb378, 0, none⟩ = some (.int .i64 0) := (blk_cell BK378.out 0).trans rfl; have hcz229_1 : w227.cell? ⟨gb378, 1, none⟩ = some (.int .i64 0) := (blk_cell BK378.out 1).trans rfl; have hcz229_2 : w227.cell? ⟨gb378, 2, none⟩ = some (.int .i64 0) := (blk_cell BK378.out 2).trans rfl; have hfz229_0 := blk_frozen BK378.out 0; have hfz229_1 := blk_frozen BK378.out 1; have hfz229_2 := blk_frozen BK378.out 2) | ((with_reducible refine gate_callee (f := 26) rfl ?_); refine goesL_ (some 433) rfl rfl Tryd.func26 (by kernel_rfl) rfl #[.string a9] rfl (by (try simp only [List.map_toArray, List.map_cons, List.map_nil]); first | done | rfl | (simp only [List.length_drop, List.length_take]; rfl)) ?_; (with_reducible refine (spec_ParseFlight.calls kj132 a9 t379 t380 t381 t382 _ A218.out).mono ?_); rintro e w230 ⟨rfl, hb⟩; refine ⟨_, rfl, ?_⟩; have n0_ := Aside0.mk (rB_ (by (with_reducible repeat (first | apply rA_ | apply rN_ | apply rD_)); exact (rM_ (rF_ (p := ⟨gb378, 2, none⟩) (rF_ (p := ⟨gb378, 1, none⟩) (rF_ (p := ⟨gb378, 0, none⟩) (Kd.R_types HO353.out BK378.out (by decide)) (fun _ hk => hk.2) (.int .i64 t374)) (fun _ hk => hk.2) (.int .i64 t375)) (fun _ hk => hk.2) (.int .i64 t376)) (fun _ h_ => h_.1))) hb); have n1_ := Aside0.mk (rB_ (by (with_reducible repeat (first | apply rA_ | apply rN_ | apply rD_)); exact (rM_ (rF_ (p := ⟨gb378, 2, none⟩) (rF_ (p := ⟨gb378, 1, none⟩) (rF_ (p := ⟨gb378, 0, none⟩) (Kd.R_types HO357.out BK378.out (by decide)) (fun _ hk => hk.2) (.int .i64 t374)) (fun _ hk => hk.2) (.int .i64 t375)) (fun _ hk => hk.2) (.int .i64 t376)) (fun _ h_ => h_.1))) hb); have n2_ := Aside0.mk (rB_ (by (with_reducible repeat (first | apply rA_ | apply rN_ | apply rD_)); exact (rM_ (rF_ (p := ⟨gb378, 2, none⟩) (rF_ (p := ⟨gb378, 1, none⟩) (rF_ (p := ⟨gb378, 0, none⟩) (rM_ HO361.out (fun k_ hk => (⟨hk, hk.2⟩ : _ ∧ k_ ≠ gb378))) (fun _ hk => hk.2) (.int .i64 t374)) (fun _ hk => hk.2) (.int .i64 t375)) (fun _ hk => hk.2) (.int .i64 t376)) (fun _ h_ => h_.1))) hb); have n3_ := Aside0.mk (rB_ (by (with_reducible repeat (first | apply rA_ | apply rN_ | apply rD_)); exact (rM_ (rF_ (p := ⟨gb378, 2, none⟩) (rF_ (p := ⟨gb378, 1, none⟩) (rF_ (p := ⟨gb378, 0, none⟩) (rM_ HO365.out (fun k_ hk => (⟨hk, hk.2⟩ : _ ∧ k_ ≠ gb378))) (fun _ hk => hk.2) (.int .i64 t374)) (fun _ hk => hk.2) (.int .i64 t375)) (fun _ hk => hk.2) (.int .i64 t376)) (fun _ h_ => h_.1))) hb); have n4_ := Aside0.mk (rB_ (by (with_reducible repeat (first | apply rA_ | apply rN_ | apply rD_)); exact (rM_ (rF_ (p := ⟨gb378, 2, none⟩) (rF_ (p := ⟨gb378, 1, none⟩) (rF_ (p := ⟨gb378, 0, none⟩) (Kd.R_types HO369.out BK378.out (by decide)) (fun _ hk => hk.2) (.int .i64 t374)) (fun _ hk => hk.2) (.int .i64 t375)) (fun _ hk => hk.2) (.int .i64 t376)) (fun _ h_ => h_.1))) hb); have n5_ := Aside0.mk (rB_ (by (with_reducible repeat (first | apply rA_ | apply rN_ | apply rD_)); exact (rM_ (rF_ (p := ⟨gb378, 2, none⟩) (rF_ (p := ⟨gb378, 1, none⟩) (rF_ (p := ⟨gb378, 0, none⟩) (Kd.R_types HO373.out BK378.out (by decide)) (fun _ hk => hk.2) (.int .i64 t374)) (fun _ hk => hk.2) (.int .i64 t375)) (fun _ hk => hk.2) (.int .i64 t376)) (fun _ h_ => h_.1))) hb); have n6_ := Aside0.mk (blk_below (g := gb306) (o := .cells #[.int .i64 a0_0, .int .i64 a0_1, .int .i64 a0_2] 32 (0, 0)) (by (with_reducible repeat (first | refine kN_ ?_ _ | refine kD_ ?_ | refine kA_ ?_ _)); refine blk_far ?_ NB306_378.out _; (with_reducible repeat (first | refine kN_ ?_ _ | refine kD_ ?_ | refine kA_ ?_ _)); refine blk_far ?_ NB306_378.out _; (with_reducible repeat (first | refine kN_ ?_ _ | refine kD_ ?_ | refine kA_ ?_ _)); refine blk_far ?_ NB306_378.out _; (with_reducible repeat (first | refine kN_ ?_ _ | refine kD_ ?_ | refine kA_ ?_ _)); exact BK306.out) hb); have n7_ := Aside0.mk (blk_below (g := gb378) (o := .cells #[.int .i64 t374, .int .i64 t375, .int .i64 t376] 32 (0, 0)) (by (with_reducible repeat (first | refine kN_ ?_ _ | refine kD_ ?_ | refine kA_ ?_ _)); refine blk_put (cs := #[.int .i64 t374, .int .i64 t375, .int .i64 0]) ?_ 2 _ rfl; (with_reducible repeat (first | refine kN_ ?_ _ | refine kD_ ?_ | refine kA_ ?_ _)); refine blk_put (cs := #[.int .i64 t374, .int .i64 0, .int .i64 0]) ?_ 1 _ rfl; (with_reducible repeat (first | refine kN_ ?_ _ | refine kD_ ?_ | refine kA_ ?_ _)); refine blk_put (cs := #[.int .i64 0, .int .i64 0, .int .i64 0]) ?_ 0 _ rfl; (with_reducible repeat (first | refine kN_ ?_ _ | refine kD_ ?_ | refine kA_ ?_ _)); exact BK378.out) hb); have n8_ := Aside0.mk (below_step (by repeat (first | (with_reducible first | exact HB.out | apply bA_ | apply bN_ | apply bD_ | refine bS_ ?_ GE306.out | refine bS_ ?_ GE378.out) | exact HB.out)) hb); clear HO353; clear HO357; clear HO361; clear HO365; clear HO369; clear HO373; clear BK306; clear BK378; clear HB; have HO353 := n0_; have HO357 := n1_; have HO361 := n2_; have HO365 := n3_; have HO369 := n4_; have HO373 := n5_; have BK306 := n6_; have BK378 := n7_; have HB := n8_; clear n0_ n1_ n2_ n3_ n4_ n5_ n6_ n7_ n8_; (try clear hb); (try clear hb2); (try clear hk); (try clear hi)) | ((with_reducible refine gate_dst (N := 71) rfl ?_); refine box_event ?hg (N := 71) ?hd (cs := #[.int .i64 0, .int .i64 0, .int .i64 0]) (t := 32) ?hr ?_; (case hd => rfl); (case hg => rfl); (case hr => first | (go_simp; done) | (go_simp; rfl)); intro gb383 hg w231 hbox hb; have n0_ := Aside0.mk (rB_ (by (with_reducible repeat (first | apply rA_ | apply rN_ | apply rD_)); exact HO353.out) hb); have n1_ := Aside0.mk (rB_ (by (with_reducible repeat (first | apply rA_ | apply rN_ | apply rD_)); exact HO357.out) hb); have n2_ := Aside0.mk (rB_ (Kd.R_elderB (by (with_reducible repeat (first | apply rA_ | apply rN_ | apply rD_)); exact HO361.out) gb383 (Nat.le_of_eq hg.symm)) hb); have n3_ := Aside0.mk (rB_ (Kd.R_elderB (by (with_reducible repeat (first | apply rA_ | apply rN_ | apply rD_)); exact HO365.out) gb383 (Nat.le_of_eq hg.symm)) hb); have n4_ := Aside0.mk (rB_ (by (with_reducible repeat (first | apply rA_ | apply rN_ | apply rD_)); exact HO369.out) hb); have n5_ := Aside0.mk (rB_ (by (with_reducible repeat (first | apply rA_ | apply rN_ | apply rD_)); exact HO373.out) hb); have n6_ := Aside0.mk (blk_below (g := gb306) (o := .cells #[.int .i64 a0_0, .int .i64 a0_1, .int .i64 a0_2] 32 (0, 0)) (by (with_reducible repeat (first | refine kN_ ?_ _ | refine kD_ ?_ | refine kA_ ?_ _)); exact BK306.out) hb); have n7_ := Aside0.mk (blk_below (g := gb378) (o := .cells #[.int .i64 t374, .int .i64 t375, .int .i64 t376] 32 (0, 0)) (by (with_reducible repeat (first | refine kN_ ?_ _ | refine kD_ ?_ | refine kA_ ?_ _)); exact BK378.out) hb); have n8_ := Aside0.mk (below_step (by repeat (first | (with_reducible first | exact HB.out | apply bA_ | apply bN_ | apply bD_ | refine bS_ ?_ GE306.out | refine bS_ ?_ GE378.out) | exact HB.out)) hb); have n9_ := Aside0.mk (hbox); have n10_ := Aside0.mk ((by rw [hg]; exact (below_size (by repeat (first | (with_reducible first | exact HB.out | apply bA_ | apply bN_ | apply bD_ | refine bS_ ?_ GE306.out | refine bS_ ?_ GE378.out) | exact HB.out))) : w.heap.size ≤ gb383)); have n11_ := Aside0.mk ((by rw [hg]; exact (below_size (by repeat (first | (with_reducible first | exact HB.out | apply bA_ | apply bN_ | apply bD_ | refine bS_ ?_ GE306.out | refine bS_ ?_ GE378.out) | exact HB.out))) : w.heap.size ≤ gb383)); have n12_ := Aside0.mk ((by rw [hg]; exact Nat.ne_of_lt (blk_lt (g := gb306) (o := .cells #[.int .i64 a0_0, .int .i64 a0_1, .int .i64 a0_2] 32 (0, 0)) (by (with_reducible repeat (first | refine kN_ ?_ _ | refine kD_ ?_ | refine kA_ ?_ _)); exact BK306.out)) : gb306 ≠ gb383)); have n13_ := Aside0.mk ((by rw [hg]; exact Nat.ne_of_gt (blk_lt (g := gb306) (o := .cells #[.int .i64 a0_0, .int .i64 a0_1, .int .i64 a0_2] 32 (0, 0)) (by (with_reducible repeat (first | refine kN_ ?_ _ | refine kD_ ?_ | refine kA_ ?_ _)); exact BK306.out)) : gb383 ≠ gb306)); have n14_ := Aside0.mk ((by rw [hg]; exact Nat.ne_of_lt (blk_lt (g := gb378) (o := .cells #[.int .i64 t374, .int .i64 t375, .int .i64 t376] 32 (0, 0)) (by (with_reducible repeat (first | refine kN_ ?_ _ | refine kD_ ?_ | refine kA_ ?_ _)); exact BK378.out)) : gb378 ≠ gb383)); have n15_ := Aside0.mk ((by rw [hg]; exact Nat.ne_of_gt (blk_lt (g := gb378) (o := .cells #[.int .i64 t374, .int .i64 t375, .int .i64 t376] 32 (0, 0)) (by (with_reducible repeat (first | refine kN_ ?_ _ | refine kD_ ?_ | refine kA_ ?_ _)); exact BK378.out)) : gb383 ≠ gb378)); clear HO353; clear HO357; clear HO361; clear HO365; clear HO369; clear HO373; clear BK306; clear BK378; clear HB; have HO353 := n0_; have HO357 := n1_; have HO361 := n2_; have HO365 := n3_; have HO369 := n4_; have HO373 := n5_; have BK306 := n6_; have BK378 := n7_; have HB := n8_; have BK383 := n9_; have GW383 := n10_; have GE383 := n11_; have NB306_383 := n12_; have NB383_306 := n13_; have NB378_383 := n14_; have NB383_378 := n15_; clear n0_ n1_ n2_ n3_ n4_ n5_ n6_ n7_ n8_ n9_ n10_ n11_ n12_ n13_ n14_ n15_; clear hb hbox hg; have hnb232 := NB383_306.out; have hnc232 := NB306_383.out; have hnb233 := NB383_378.out; have hnc233 := NB378_383.out; have hcz234_0 : w231.cell? ⟨gb383, 0, none⟩ = some (.int .i64 0) := (blk_cell BK383.out 0).trans rfl; have hcz234_1 : w231.cell? ⟨gb383, 1, none⟩ = some (.int .i64 0) := (blk_cell BK383.out 1).trans rfl; have hcz234_2 : w231.cell? ⟨gb383, 2, none⟩ = some (.int .i64 0) := (blk_cell BK383.out 2).trans rfl; have hfz234_0 := blk_frozen BK383.out 0; have hfz234_1 := blk_frozen BK383.out 1; have hfz234_2 := blk_frozen BK383.out 2))
   (try simp only [Act.put, List.setIfInBounds_toArray, List.set_cons_zero, List.set_cons_succ])
   go_cut [476] from 476 to 476 (fun v476 wc => ∃ (kq : Nat) (x476_218 : Bool), v476 = .bool x476_218 ∧ Aside0 (laws_FnRisersFitOfAll.j3 kq a1 a2 a3 a4 a5 a6 a7 a8 a9 t350 t351 t358 t366 t367 t377 x476_218 t374 t375 t376 = some true) ∧ Aside0 (kq ≤ kj132) ∧ Aside0 (Kd.R (Kd.int .i64) 3 wc w.heap.size (fun k_ => some k_ ≠ (v368 : Value).ownBlock) v352 t350) ∧ Aside0 (Kd.R k32 32 wc w.heap.size (fun k_ => k_ ≠ gb306 ∧ k_ ≠ gb378 ∧ k_ ≠ gb383) v360 t358) ∧ Aside0 (Kd.R (Kd.int .i64) 3 wc w.heap.size (fun k_ => some k_ ≠ (v352 : Value).ownBlock) v368 t366) ∧ Aside0 (wc.heap[gb306]? = some (.cells #[.int .i64 a0_0, .int .i64 a0_1, .int .i64 a0_2] 32 (0, 0))) ∧ Aside0 (wc.heap[gb378]? = some (.cells #[.int .i64 t374, .int .i64 t375, .int .i64 t376] 32 (0, 0))) ∧ Aside0 (wc.heap[gb383]? = some (.cells #[.int .i64 t379, .int .i64 t380, .int .i64 t381] 32 (0, 0))) ∧ Aside0 (Below w.heap.size w wc))
   case first =>
    as_aux_lemma =>
     have H := HC219.out
     clear HC219
     by_cases c235 : (t351 != t355) = true
     ·rw [if_pos c235] at H
      exact absurd H laws_FnRisersFitOfAll.j3_no
     rw [if_neg c235] at H
     have c235b0 : (t351 != t355) = false := by simpa using c235
     (try (have c235b1 : decide (t351 = t355) = true := by simpa using c235))
     (try (have c235b2 : (t351 == t355) = true := by simpa using c235))
     clear c235
     replace H := Option.bind_eq_some_iff.mp H
     obtain ⟨t384, A2360, H⟩ := H
     try dsimp only at H
     have A236 := Aside0.mk A2360
     clear A2360
     by_cases c237 : t384 = true
     ·subst c237
      rw [if_pos rfl] at H
      by_cases c238 : (t359 != t363) = true
      ·rw [if_pos c238] at H
       exact absurd H laws_FnRisersFitOfAll.j3_no
      rw [if_neg c238] at H
      have c238b0 : (t359 != t363) = false := by simpa using c238
      (try (have c238b1 : decide (t359 = t363) = true := by simpa using c238))
      (try (have c238b2 : (t359 == t363) = true := by simpa using c238))
      clear c238
      replace H := Option.bind_eq_some_iff.mp H
      obtain ⟨t385, A2410, H⟩ := H
      try dsimp only at H
      have A241 := Aside0.mk A2410
      clear A2410
      by_cases c242 : t385 = true
      ·subst c242
       rw [if_pos rfl] at H
       by_cases c243 : (t367 != t371) = true
       ·rw [if_pos c243] at H
        exact absurd H laws_FnRisersFitOfAll.j3_no
       rw [if_neg c243] at H
       have c243b0 : (t367 != t371) = false := by simpa using c243
       (try (have c243b1 : decide (t367 = t371) = true := by simpa using c243))
       (try (have c243b2 : (t367 == t371) = true := by simpa using c243))
       clear c243
       replace H := Option.bind_eq_some_iff.mp H
       obtain ⟨t386, A2480, H⟩ := H
       try dsimp only at H
       have A248 := Aside0.mk A2480
       clear A2480
       by_cases c249 : t386 = true
       ·subst c249
        rw [if_pos rfl] at H
        by_cases c250 : (t377 != t382) = true
        ·rw [if_pos c250] at H
         exact absurd H laws_FnRisersFitOfAll.j3_no
        rw [if_neg c250] at H
        have c250b0 : (t377 != t382) = false := by simpa using c250
        (try (have c250b1 : decide (t377 = t382) = true := by simpa using c250))
        (try (have c250b2 : (t377 == t382) = true := by simpa using c250))
        clear c250
        have H' := Aside0.mk H
        clear H
        obtain ⟨Ao257, co257, eo257⟩ := Kd.R_slice HO353.out
        subst eo257
        obtain ⟨Ao258, co258, eo258⟩ := Kd.R_slice HO357.out
        subst eo258
        go_wp2_with (first | (go_at_call 56; (with_reducible refine (laws_lSame.calls kj132 _ _ t350 _ _ t354 true _ ?side1 ?side2 ?side3 ?side4 A236.out).mono ?_); (case side1 => refine (rR_ (e := 3) (base := w.heap.size) (ok := fun k_ => (((True ∧ some k_ ≠ (.slice Ao258 t354.length co258 : Value).ownBlock) ∧ some k_ ≠ (v368 : Value).ownBlock) ∧ some k_ ≠ (v372 : Value).ownBlock)) (n := t350.length) (c := co257) ?_).2.2; exact (by (with_reducible repeat (first | apply rA_ | apply rN_ | apply rD_)); exact (rM_ (rF_ (p := ⟨gb383, 2, none⟩) (rF_ (p := ⟨gb383, 1, none⟩) (rF_ (p := ⟨gb383, 0, none⟩) (Kd.R_types HO353.out BK383.out (by decide)) (fun _ hk => hk.2) (.int .i64 t379)) (fun _ hk => hk.2) (.int .i64 t380)) (fun _ hk => hk.2) (.int .i64 t381)) (fun _ h_ => h_.1)))); (case side2 => exact (rR_ HO353.out).2.1); (case side3 => refine (rR_ (e := 3) (base := w.heap.size) (ok := fun k_ => (((True ∧ some k_ ≠ (.slice Ao257 t350.length co257 : Value).ownBlock) ∧ some k_ ≠ (v368 : Value).ownBlock) ∧ some k_ ≠ (v372 : Value).ownBlock)) (n := t354.length) (c := co258) ?_).2.2; exact (by (with_reducible repeat (first | apply rA_ | apply rN_ | apply rD_)); exact (rM_ (rF_ (p := ⟨gb383, 2, none⟩) (rF_ (p := ⟨gb383, 1, none⟩) (rF_ (p := ⟨gb383, 0, none⟩) (Kd.R_types HO357.out BK383.out (by decide)) (fun _ hk => hk.2) (.int .i64 t379)) (fun _ hk => hk.2) (.int .i64 t380)) (fun _ hk => hk.2) (.int .i64 t381)) (fun _ h_ => h_.1)))); (case side4 => exact (rR_ HO357.out).2.1); rintro e w' ⟨rfl, ⟨nd, rfl⟩⟩; obtain ⟨Ao259, co259, eo259⟩ := Kd.R_slice HO361.out; subst eo259; obtain ⟨Ao260, co260, eo260⟩ := Kd.R_slice HO365.out; subst eo260) | (go_at_call 57; (with_reducible refine (laws_lFlights.calls kj132 _ _ t358 _ _ t362 true _ ?side1 ?side2 ?side3 ?side4 A241.out).mono ?_); (case side1 => refine (rR_ (e := 32) (base := w.heap.size) (ok := fun k_ => ((((True ∧ k_ ≠ gb306) ∧ some k_ ≠ (.slice Ao260 t362.length co260 : Value).ownBlock) ∧ k_ ≠ gb378) ∧ k_ ≠ gb383)) (n := t358.length) (c := co259) ?_).2.2; exact (by (with_reducible repeat (first | apply rA_ | apply rN_ | apply rD_)); exact (rM_ (rF_ (p := ⟨gb383, 2, none⟩) (rF_ (p := ⟨gb383, 1, none⟩) (rF_ (p := ⟨gb383, 0, none⟩) (rM_ HO361.out (fun k_ hk => (⟨hk, hk.2⟩ : _ ∧ k_ ≠ gb383))) (fun _ hk => hk.2) (.int .i64 t379)) (fun _ hk => hk.2) (.int .i64 t380)) (fun _ hk => hk.2) (.int .i64 t381)) (fun _ h_ => h_.1)))); (case side2 => exact (rR_ HO361.out).2.1); (case side3 => refine (rR_ (e := 32) (base := w.heap.size) (ok := fun k_ => ((((True ∧ some k_ ≠ (.slice Ao259 t358.length co259 : Value).ownBlock) ∧ k_ ≠ gb306) ∧ k_ ≠ gb378) ∧ k_ ≠ gb383)) (n := t362.length) (c := co260) ?_).2.2; exact (by (with_reducible repeat (first | apply rA_ | apply rN_ | apply rD_)); exact (rM_ (rF_ (p := ⟨gb383, 2, none⟩) (rF_ (p := ⟨gb383, 1, none⟩) (rF_ (p := ⟨gb383, 0, none⟩) (rM_ HO365.out (fun k_ hk => (⟨hk, hk.2⟩ : _ ∧ k_ ≠ gb383))) (fun _ hk => hk.2) (.int .i64 t379)) (fun _ hk => hk.2) (.int .i64 t380)) (fun _ hk => hk.2) (.int .i64 t381)) (fun _ h_ => h_.1)))); (case side4 => exact (rR_ HO365.out).2.1); rintro e w' ⟨rfl, ⟨nd, rfl⟩⟩; obtain ⟨Ao261, co261, eo261⟩ := Kd.R_slice HO369.out; subst eo261; obtain ⟨Ao262, co262, eo262⟩ := Kd.R_slice HO373.out; subst eo262) | (go_at_call 56; (with_reducible refine (laws_lSame.calls kj132 _ _ t366 _ _ t370 true _ ?side1 ?side2 ?side3 ?side4 A248.out).mono ?_); (case side1 => refine (rR_ (e := 3) (base := w.heap.size) (ok := fun k_ => (((True ∧ some k_ ≠ (.slice Ao257 t350.length co257 : Value).ownBlock) ∧ some k_ ≠ (.slice Ao258 t354.length co258 : Value).ownBlock) ∧ some k_ ≠ (.slice Ao262 t370.length co262 : Value).ownBlock)) (n := t366.length) (c := co261) ?_).2.2; exact (by (with_reducible repeat (first | apply rA_ | apply rN_ | apply rD_)); exact (rM_ (rF_ (p := ⟨gb383, 2, none⟩) (rF_ (p := ⟨gb383, 1, none⟩) (rF_ (p := ⟨gb383, 0, none⟩) (Kd.R_types HO369.out BK383.out (by decide)) (fun _ hk => hk.2) (.int .i64 t379)) (fun _ hk => hk.2) (.int .i64 t380)) (fun _ hk => hk.2) (.int .i64 t381)) (fun _ h_ => h_.1)))); (case side2 => exact (rR_ HO369.out).2.1); (case side3 => refine (rR_ (e := 3) (base := w.heap.size) (ok := fun k_ => (((True ∧ some k_ ≠ (.slice Ao257 t350.length co257 : Value).ownBlock) ∧ some k_ ≠ (.slice Ao258 t354.length co258 : Value).ownBlock) ∧ some k_ ≠ (.slice Ao261 t366.length co261 : Value).ownBlock)) (n := t370.length) (c := co262) ?_).2.2; exact (by (with_reducible repeat (first | apply rA_ | apply rN_ | apply rD_)); exact (rM_ (rF_ (p := ⟨gb383, 2, none⟩) (rF_ (p := ⟨gb383, 1, none⟩) (rF_ (p := ⟨gb383, 0, none⟩) (Kd.R_types HO373.out BK383.out (by decide)) (fun _ hk => hk.2) (.int .i64 t379)) (fun _ hk => hk.2) (.int .i64 t380)) (fun _ hk => hk.2) (.int .i64 t381)) (fun _ h_ => h_.1)))); (case side4 => exact (rR_ HO373.out).2.1); rintro e w' ⟨rfl, ⟨nd, rfl⟩⟩; have hnb263 := NB378_306.out; have hnc263 := NB306_378.out; have hnb264 := NB378_383.out; have hnc264 := NB383_378.out; have hcz265_0 : w231.cell? ⟨gb378, 0, none⟩ = some (.int .i64 t374) := (blk_cell BK378.out 0).trans rfl; have hcz265_1 : w231.cell? ⟨gb378, 1, none⟩ = some (.int .i64 t375) := (blk_cell BK378.out 1).trans rfl; have hcz265_2 : w231.cell? ⟨gb378, 2, none⟩ = some (.int .i64 t376) := (blk_cell BK378.out 2).trans rfl; have hfz265_0 := blk_frozen BK378.out 0; have hfz265_1 := blk_frozen BK378.out 1; have hfz265_2 := blk_frozen BK378.out 2; have hnb266 := NB383_306.out; have hnc266 := NB306_383.out; have hcz267_0 : w231.cell? ⟨gb383, 0, none⟩ = some (.int .i64 0) := (blk_cell BK383.out 0).trans rfl; have hcz267_1 : w231.cell? ⟨gb383, 1, none⟩ = some (.int .i64 0) := (blk_cell BK383.out 1).trans rfl; have hcz267_2 : w231.cell? ⟨gb383, 2, none⟩ = some (.int .i64 0) := (blk_cell BK383.out 2).trans rfl; have hfz267_0 := blk_frozen BK383.out 0; have hfz267_1 := blk_frozen BK383.out 1; have hfz267_2 := blk_frozen BK383.out 2))
        go_meet
        case rel => exact ⟨_, ((!(t374 == t379) || (!(t375 == t380) || (!(t376 == t381))))), (by first | rfl | (simp; done) | (simp [*]; done)), H', ⟨by have := HJ26.out; have := HJ132.out; first | omega | exact Nat.le_refl _⟩, ⟨by (with_reducible repeat (first | apply rA_ | apply rN_ | apply rD_)); exact rM_ (rF_ (p := ⟨gb383, 2, none⟩) (rF_ (p := ⟨gb383, 1, none⟩) (rF_ (p := ⟨gb383, 0, none⟩) (Kd.R_types HO353.out BK383.out (by decide)) (fun _ hk => hk.2) (.int .i64 t379)) (fun _ hk => hk.2) (.int .i64 t380)) (fun _ hk => hk.2) (.int .i64 t381)) (fun _ hk => hk.1.1.2)⟩, ⟨by (with_reducible repeat (first | apply rA_ | apply rN_ | apply rD_)); exact rM_ (rF_ (p := ⟨gb383, 2, none⟩) (rF_ (p := ⟨gb383, 1, none⟩) (rF_ (p := ⟨gb383, 0, none⟩) (rM_ HO361.out (fun k_ hk => (⟨hk, hk.2⟩ : _ ∧ k_ ≠ gb383))) (fun _ hk => hk.2) (.int .i64 t379)) (fun _ hk => hk.2) (.int .i64 t380)) (fun _ hk => hk.2) (.int .i64 t381)) (fun _ hk => ⟨hk.1.1.1.1.2, ⟨hk.1.1.2, hk.1.2⟩⟩)⟩, ⟨by (with_reducible repeat (first | apply rA_ | apply rN_ | apply rD_)); exact rM_ (rF_ (p := ⟨gb383, 2, none⟩) (rF_ (p := ⟨gb383, 1, none⟩) (rF_ (p := ⟨gb383, 0, none⟩) (Kd.R_types HO369.out BK383.out (by decide)) (fun _ hk => hk.2) (.int .i64 t379)) (fun _ hk => hk.2) (.int .i64 t380)) (fun _ hk => hk.2) (.int .i64 t381)) (fun _ hk => hk.1.1.1.2)⟩, ⟨by (with_reducible repeat (first | refine kN_ ?_ _ | refine kD_ ?_ | refine kA_ ?_ _)); refine blk_far ?_ NB306_383.out _; (with_reducible repeat (first | refine kN_ ?_ _ | refine kD_ ?_ | refine kA_ ?_ _)); refine blk_far ?_ NB306_383.out _; (with_reducible repeat (first | refine kN_ ?_ _ | refine kD_ ?_ | refine kA_ ?_ _)); refine blk_far ?_ NB306_383.out _; (with_reducible repeat (first | refine kN_ ?_ _ | refine kD_ ?_ | refine kA_ ?_ _)); exact BK306.out⟩, ⟨by (with_reducible repeat (first | refine kN_ ?_ _ | refine kD_ ?_ | refine kA_ ?_ _)); refine blk_far ?_ NB378_383.out _; (with_reducible repeat (first | refine kN_ ?_ _ | refine kD_ ?_ | refine kA_ ?_ _)); refine blk_far ?_ NB378_383.out _; (with_reducible repeat (first | refine kN_ ?_ _ | refine kD_ ?_ | refine kA_ ?_ _)); refine blk_far ?_ NB378_383.out _; (with_reducible repeat (first | refine kN_ ?_ _ | refine kD_ ?_ | refine kA_ ?_ _)); exact BK378.out⟩, ⟨by (with_reducible repeat (first | refine kN_ ?_ _ | refine kD_ ?_ | refine kA_ ?_ _)); refine blk_put (cs := #[.int .i64 t379, .int .i64 t380, .int .i64 0]) ?_ 2 _ rfl; (with_reducible repeat (first | refine kN_ ?_ _ | refine kD_ ?_ | refine kA_ ?_ _)); refine blk_put (cs := #[.int .i64 t379, .int .i64 0, .int .i64 0]) ?_ 1 _ rfl; (with_reducible repeat (first | refine kN_ ?_ _ | refine kD_ ?_ | refine kA_ ?_ _)); refine blk_put (cs := #[.int .i64 0, .int .i64 0, .int .i64 0]) ?_ 0 _ rfl; (with_reducible repeat (first | refine kN_ ?_ _ | refine kD_ ?_ | refine kA_ ?_ _)); exact BK383.out⟩, ⟨by repeat (first | (with_reducible first | exact HB.out | apply bA_ | apply bN_ | apply bD_ | refine bS_ ?_ GE306.out | refine bS_ ?_ GE378.out | refine bS_ ?_ GE383.out) | exact HB.out)⟩⟩
       replace c249 := Bool.eq_false_iff.mpr c249
       subst c249
       rw [if_neg (show ¬ (false = true) by decide)] at H
       exact absurd H laws_FnRisersFitOfAll.j3_no
      replace c242 := Bool.eq_false_iff.mpr c242
      subst c242
      rw [if_neg (show ¬ (false = true) by decide)] at H
      exact absurd H laws_FnRisersFitOfAll.j3_no
     replace c237 := Bool.eq_false_iff.mpr c237
     subst c237
     rw [if_neg (show ¬ (false = true) by decide)] at H
     exact absurd H laws_FnRisersFitOfAll.j3_no
   as_aux_lemma =>
    clear HC219
    (try clear c1); (try clear c2); (try clear p2); (try clear c4); (try clear c5); (try clear p6); (try clear c13); (try clear c14); (try clear c15); (try clear c16); (try clear c17); (try clear c18); (try clear c19); (try clear c20); (try clear c22); (try clear c23); (try clear c24); (try clear c25); (try clear c26); (try clear c27); (try clear c48); (try clear c49); (try clear c50); (try clear c51); (try clear c52); (try clear c53); (try clear c54); (try clear c55); (try clear p64); (try clear c132); (try clear c134); (try clear c139); (try clear c141); (try clear c141b0); (try clear c141b1); (try clear c142); (try clear c142b0); (try clear c142b1); (try clear c144); (try clear c145); (try clear c145b0); (try clear c145b1); (try clear c146); (try clear c146b0); (try clear c146b1); (try clear c147); (try clear c148); (try clear c148b0); (try clear c148b1); (try clear c149); (try clear c150); (try clear c153); (try clear c155); (try clear c157); (try clear c158); (try clear c161); (try clear c163); (try clear c165); (try clear c167); (try clear c169); (try clear c171); (try clear c173); (try clear c176); (try clear c176b0); (try clear c177); (try clear c178); (try clear c178b0); (try clear c178b1); (try clear c179); (try clear c180); (try clear c180b0); (try clear c180b1); (try clear c181); (try clear c185); (try clear c189); (try clear c193); (try clear c197); (try clear c200); (try clear c201); (try clear c201b0); (try clear c201b1); (try clear c202); (try clear c205); (try clear c208); (try clear c228); (try clear c232); (try clear c233); (try clear c235); (try clear c235b0); (try clear c235b1); (try clear c235b2); (try clear c237); (try clear c238); (try clear c238b0); (try clear c238b1); (try clear c238b2); (try clear c242); (try clear c243); (try clear c243b0); (try clear c243b1); (try clear c243b2); (try clear c249); (try clear c250); (try clear c250b0); (try clear c250b1); (try clear c250b2); (try clear c263); (try clear c264); (try clear c266); (try clear hcz140_0); (try clear hcz140_1); (try clear hcz140_2); (try clear hcz151_0); (try clear hcz151_1); (try clear hcz151_2); (try clear hcz152_0); (try clear hcz152_1); (try clear hcz152_2); (try clear hcz154_0); (try clear hcz154_1); (try clear hcz154_2); (try clear hcz156_0); (try clear hcz156_1); (try clear hcz156_2); (try clear hcz159_0); (try clear hcz159_1); (try clear hcz159_2); (try clear hcz160_0); (try clear hcz160_1); (try clear hcz160_2); (try clear hcz162_0); (try clear hcz162_1); (try clear hcz162_2); (try clear hcz164_0); (try clear hcz164_1); (try clear hcz164_2); (try clear hcz166_0); (try clear hcz166_1); (try clear hcz166_2); (try clear hcz168_0); (try clear hcz168_1); (try clear hcz168_2); (try clear hcz170_0); (try clear hcz170_1); (try clear hcz170_2); (try clear hcz172_0); (try clear hcz172_1); (try clear hcz172_2); (try clear hcz182_0); (try clear hcz182_1); (try clear hcz182_2); (try clear hcz184_0); (try clear hcz184_1); (try clear hcz184_2); (try clear hcz186_0); (try clear hcz186_1); (try clear hcz186_2); (try clear hcz188_0); (try clear hcz188_1); (try clear hcz188_2); (try clear hcz190_0); (try clear hcz190_1); (try clear hcz190_2); (try clear hcz192_0); (try clear hcz192_1); (try clear hcz192_2); (try clear hcz194_0); (try clear hcz194_1); (try clear hcz194_2); (try clear hcz196_0); (try clear hcz196_1); (try clear hcz196_2); (try clear hcz198_0); (try clear hcz198_1); (try clear hcz198_2); (try clear hcz203_0); (try clear hcz203_1); (try clear hcz203_2); (try clear hcz206_0); (try clear hcz206_1); (try clear hcz206_2); (try clear hcz209_0); (try clear hcz209_1); (try clear hcz209_2); (try clear hcz229_0); (try clear hcz229_1); (try clear hcz229_2); (try clear hcz234_0); (try clear hcz234_1); (try clear hcz234_2); (try clear hcz265_0); (try clear hcz265_1); (try clear hcz265_2); (try clear hcz267_0); (try clear hcz267_1); (try clear hcz267_2); (try clear hfz140_0); (try clear hfz140_1); (try clear hfz140_2); (try clear hfz151_0); (try clear hfz151_1); (try clear hfz151_2); (try clear hfz152_0); (try clear hfz152_1); (try clear hfz152_2); (try clear hfz154_0); (try clear hfz154_1); (try clear hfz154_2); (try clear hfz156_0); (try clear hfz156_1); (try clear hfz156_2); (try clear hfz159_0); (try clear hfz159_1); (try clear hfz159_2); (try clear hfz160_0); (try clear hfz160_1); (try clear hfz160_2); (try clear hfz162_0); (try clear hfz162_1); (try clear hfz162_2); (try clear hfz164_0); (try clear hfz164_1); (try clear hfz164_2); (try clear hfz166_0); (try clear hfz166_1); (try clear hfz166_2); (try clear hfz168_0); (try clear hfz168_1); (try clear hfz168_2); (try clear hfz170_0); (try clear hfz170_1); (try clear hfz170_2); (try clear hfz172_0); (try clear hfz172_1); (try clear hfz172_2); (try clear hfz182_0); (try clear hfz182_1); (try clear hfz182_2); (try clear hfz184_0); (try clear hfz184_1); (try clear hfz184_2); (try clear hfz186_0); (try clear hfz186_1); (try clear hfz186_2); (try clear hfz188_0); (try clear hfz188_1); (try clear hfz188_2); (try clear hfz190_0); (try clear hfz190_1); (try clear hfz190_2); (try clear hfz192_0); (try clear hfz192_1); (try clear hfz192_2); (try clear hfz194_0); (try clear hfz194_1); (try clear hfz194_2); (try clear hfz196_0); (try clear hfz196_1); (try clear hfz196_2); (try clear hfz198_0); (try clear hfz198_1); (try clear hfz198_2); (try clear hfz203_0); (try clear hfz203_1); (try clear hfz203_2); (try clear hfz206_0); (try clear hfz206_1); (try clear hfz206_2); (try clear hfz209_0); (try clear hfz209_1); (try clear hfz209_2); (try clear hfz229_0); (try clear hfz229_1); (try clear hfz229_2); (try clear hfz234_0); (try clear hfz234_1); (try clear hfz234_2); (try clear hfz265_0); (try clear hfz265_1); (try clear hfz265_2); (try clear hfz267_0); (try clear hfz267_1); (try clear hfz267_2); (try clear p2); (try clear p6); try clear p64
    obtain ⟨kq, x476_218, rfl, HA, HJ218, HO_57, HO_61, HO_65, BK306, BK378, BK383, HB⟩ := hcut
    rcases kq with _ | kj218
    ·exact absurd HA.out (by simp [laws_FnRisersFitOfAll.j3])
    have H := HA.out
    clear HA
    simp only [laws_FnRisersFitOfAll.j3] at H
    by_cases c280 : x476_218 = true
    ·subst c280
     rw [if_pos rfl] at H
     exact absurd (Option.some.inj H) (by decide)
    replace c280 := Bool.eq_false_iff.mpr c280
    subst c280
    rw [if_neg (show ¬ (false = true) by decide)] at H
    have HC281 := Aside0.mk H
    clear H
    go_upto_if 477 with (fail)
    go_cut [] from 477 to 477 (fun wc => ∃ (kq : Nat), Aside0 (laws_FnRisersFitOfAll.j6 kq a3 a4 a5 a6 a7 a8 a9 t358 t366 t367 t377 t374 t375 t376 = some true) ∧ Aside0 (kq ≤ kj218) ∧ Aside0 (Kd.R k32 32 wc w.heap.size (fun k_ => k_ ≠ gb306 ∧ k_ ≠ gb378 ∧ k_ ≠ gb383) v360 t358) ∧ Aside0 (Kd.R (Kd.int .i64) 3 wc w.heap.size (fun _ => True) v368 t366) ∧ Aside0 (wc.heap[gb306]? = some (.cells #[.int .i64 a0_0, .int .i64 a0_1, .int .i64 a0_2] 32 (0, 0))) ∧ Aside0 (wc.heap[gb378]? = some (.cells #[.int .i64 t374, .int .i64 t375, .int .i64 t376] 32 (0, 0))) ∧ Aside0 (wc.heap[gb383]? = some (.cells #[.int .i64 t379, .int .i64 t380, .int .i64 t381] 32 (0, 0))) ∧ Aside0 (Below w.heap.size w wc))
    case first =>
     as_aux_lemma =>
      have H := HC281.out
      clear HC281
      by_cases c282 : t351 = true
      ·subst c282
       rw [if_pos rfl] at H
       have HC283 := Aside0.mk H
       clear H
       go_upto_region 38 with (fail)
       go_cut [487] from 487 to 487 (fun v487 wc => ∃ (kq : Nat) (x487_282 : Bool), v487 = .bool x487_282 ∧ Aside0 (laws_FnRisersFitOfAll.j4 kq a1 a2 a3 a4 a5 a6 a7 a8 a9 t350 t358 t366 t367 t377 x487_282 t374 t375 t376 = some true) ∧ Aside0 (kq ≤ kj218) ∧ Aside0 (Kd.R (Kd.int .i64) 3 wc w.heap.size (fun k_ => some k_ ≠ (v368 : Value).ownBlock) v352 t350) ∧ Aside0 (Kd.R k32 32 wc w.heap.size (fun k_ => k_ ≠ gb306 ∧ k_ ≠ gb378 ∧ k_ ≠ gb383) v360 t358) ∧ Aside0 (Kd.R (Kd.int .i64) 3 wc w.heap.size (fun k_ => some k_ ≠ (v352 : Value).ownBlock) v368 t366) ∧ Aside0 (wc.heap[gb306]? = some (.cells #[.int .i64 a0_0, .int .i64 a0_1, .int .i64 a0_2] 32 (0, 0))) ∧ Aside0 (wc.heap[gb378]? = some (.cells #[.int .i64 t374, .int .i64 t375, .int .i64 t376] 32 (0, 0))) ∧ Aside0 (wc.heap[gb383]? = some (.cells #[.int .i64 t379, .int .i64 t380, .int .i64 t381] 32 (0, 0))) ∧ Aside0 (Below w.heap.size w wc))
       case first =>
        as_aux_lemma =>
         have H := HC283.out
         clear HC283
         by_cases c284 : (t350.length : Int) = a2
         ·rw [if_pos c284] at H
          have c284b0 : ((t350.length : Int) == a2) = true := beq_iff_eq.mpr c284
          have c284b1 : ((t350.length : Int) != a2) = false := bne_eq_false_iff_eq.mpr c284
          clear c284
          replace H := Option.bind_eq_some_iff.mp H
          obtain ⟨t387, A2850, H⟩ := H
          try dsimp only at H
          have A285 := Aside0.mk A2850
          clear A2850
          have H' := Aside0.mk H
          clear H
          obtain ⟨Ao286, co286, eo286⟩ := Kd.R_slice HO_57.out
          subst eo286
          go_wp2_with (first | (go_at_call 58; (with_reducible refine (laws_lSum.calls kj218 _ _ t350 t387 _ ?side1 ?side2 A285.out).mono ?_); (case side1 => repeat (first | exact (rR_ HO_57.out).2.2 | (with_reducible refine Kd.C_alloc ?_ _) | (with_reducible refine Kd.C_drewN ?_ _) | (with_reducible refine Kd.C_drew ?_))); (case side2 => exact (rR_ HO_57.out).2.1); rintro e w' ⟨rfl, ⟨nd, rfl⟩⟩))
          go_meet
          case rel => exact ⟨_, ((t387 != a1)), (by first | rfl | (simp; done) | (simp [*]; done)), H', ⟨by have := HJ26.out; have := HJ132.out; have := HJ218.out; first | omega | exact Nat.le_refl _⟩, ⟨by (with_reducible repeat (first | apply rA_ | apply rN_ | apply rD_)); exact HO_57.out⟩, ⟨by (with_reducible repeat (first | apply rA_ | apply rN_ | apply rD_)); exact HO_61.out⟩, ⟨by (with_reducible repeat (first | apply rA_ | apply rN_ | apply rD_)); exact HO_65.out⟩, ⟨by (with_reducible repeat (first | refine kN_ ?_ _ | refine kD_ ?_ | refine kA_ ?_ _)); exact BK306.out⟩, ⟨by (with_reducible repeat (first | refine kN_ ?_ _ | refine kD_ ?_ | refine kA_ ?_ _)); exact BK378.out⟩, ⟨by (with_reducible repeat (first | refine kN_ ?_ _ | refine kD_ ?_ | refine kA_ ?_ _)); exact BK383.out⟩, ⟨by repeat (first | (with_reducible first | exact HB.out | apply bA_ | apply bN_ | apply bD_ | refine bS_ ?_ GE306.out | refine bS_ ?_ GE378.out | refine bS_ ?_ GE383.out) | exact HB.out)⟩⟩
         rw [if_neg c284] at H
         exact absurd H laws_FnRisersFitOfAll.j4_no
       as_aux_lemma =>
        clear HC283
        (try clear c1); (try clear c2); (try clear p2); (try clear c4); (try clear c5); (try clear p6); (try clear c13); (try clear c14); (try clear c15); (try clear c16); (try clear c17); (try clear c18); (try clear c19); (try clear c20); (try clear c22); (try clear c23); (try clear c24); (try clear c25); (try clear c26); (try clear c27); (try clear c28); (try clear c48); (try clear c49); (try clear c50); (try clear c51); (try clear c52); (try clear c53); (try clear c54); (try clear c55); (try clear p64); (try clear c132); (try clear c134); (try clear c139); (try clear c141); (try clear c141b0); (try clear c141b1); (try clear c142); (try clear c142b0); (try clear c142b1); (try clear c144); (try clear c145); (try clear c145b0); (try clear c145b1); (try clear c146); (try clear c146b0); (try clear c146b1); (try clear c147); (try clear c148); (try clear c148b0); (try clear c148b1); (try clear c149); (try clear c150); (try clear c153); (try clear c155); (try clear c157); (try clear c158); (try clear c161); (try clear c163); (try clear c165); (try clear c167); (try clear c169); (try clear c171); (try clear c173); (try clear c176); (try clear c176b0); (try clear c177); (try clear c178); (try clear c178b0); (try clear c178b1); (try clear c179); (try clear c180); (try clear c180b0); (try clear c180b1); (try clear c181); (try clear c185); (try clear c189); (try clear c193); (try clear c197); (try clear c200); (try clear c201); (try clear c201b0); (try clear c201b1); (try clear c202); (try clear c205); (try clear c208); (try clear c228); (try clear c232); (try clear c233); (try clear c235); (try clear c235b0); (try clear c235b1); (try clear c235b2); (try clear c237); (try clear c238); (try clear c238b0); (try clear c238b1); (try clear c238b2); (try clear c242); (try clear c243); (try clear c243b0); (try clear c243b1); (try clear c243b2); (try clear c249); (try clear c250); (try clear c250b0); (try clear c250b1); (try clear c250b2); (try clear c263); (try clear c264); (try clear c266); (try clear c280); (try clear c282); (try clear c284); (try clear c284b0); (try clear c284b1); (try clear hcz140_0); (try clear hcz140_1); (try clear hcz140_2); (try clear hcz151_0); (try clear hcz151_1); (try clear hcz151_2); (try clear hcz152_0); (try clear hcz152_1); (try clear hcz152_2); (try clear hcz154_0); (try clear hcz154_1); (try clear hcz154_2); (try clear hcz156_0); (try clear hcz156_1); (try clear hcz156_2); (try clear hcz159_0); (try clear hcz159_1); (try clear hcz159_2); (try clear hcz160_0); (try clear hcz160_1); (try clear hcz160_2); (try clear hcz162_0); (try clear hcz162_1); (try clear hcz162_2); (try clear hcz164_0); (try clear hcz164_1); (try clear hcz164_2); (try clear hcz166_0); (try clear hcz166_1); (try clear hcz166_2); (try clear hcz168_0); (try clear hcz168_1); (try clear hcz168_2); (try clear hcz170_0); (try clear hcz170_1); (try clear hcz170_2); (try clear hcz172_0); (try clear hcz172_1); (try clear hcz172_2); (try clear hcz182_0); (try clear hcz182_1); (try clear hcz182_2); (try clear hcz184_0); (try clear hcz184_1); (try clear hcz184_2); (try clear hcz186_0); (try clear hcz186_1); (try clear hcz186_2); (try clear hcz188_0); (try clear hcz188_1); (try clear hcz188_2); (try clear hcz190_0); (try clear hcz190_1); (try clear hcz190_2); (try clear hcz192_0); (try clear hcz192_1); (try clear hcz192_2); (try clear hcz194_0); (try clear hcz194_1); (try clear hcz194_2); (try clear hcz196_0); (try clear hcz196_1); (try clear hcz196_2); (try clear hcz198_0); (try clear hcz198_1); (try clear hcz198_2); (try clear hcz203_0); (try clear hcz203_1); (try clear hcz203_2); (try clear hcz206_0); (try clear hcz206_1); (try clear hcz206_2); (try clear hcz209_0); (try clear hcz209_1); (try clear hcz209_2); (try clear hcz229_0); (try clear hcz229_1); (try clear hcz229_2); (try clear hcz234_0); (try clear hcz234_1); (try clear hcz234_2); (try clear hcz265_0); (try clear hcz265_1); (try clear hcz265_2); (try clear hcz267_0); (try clear hcz267_1); (try clear hcz267_2); (try clear hfz140_0); (try clear hfz140_1); (try clear hfz140_2); (try clear hfz151_0); (try clear hfz151_1); (try clear hfz151_2); (try clear hfz152_0); (try clear hfz152_1); (try clear hfz152_2); (try clear hfz154_0); (try clear hfz154_1); (try clear hfz154_2); (try clear hfz156_0); (try clear hfz156_1); (try clear hfz156_2); (try clear hfz159_0); (try clear hfz159_1); (try clear hfz159_2); (try clear hfz160_0); (try clear hfz160_1); (try clear hfz160_2); (try clear hfz162_0); (try clear hfz162_1); (try clear hfz162_2); (try clear hfz164_0); (try clear hfz164_1); (try clear hfz164_2); (try clear hfz166_0); (try clear hfz166_1); (try clear hfz166_2); (try clear hfz168_0); (try clear hfz168_1); (try clear hfz168_2); (try clear hfz170_0); (try clear hfz170_1); (try clear hfz170_2); (try clear hfz172_0); (try clear hfz172_1); (try clear hfz172_2); (try clear hfz182_0); (try clear hfz182_1); (try clear hfz182_2); (try clear hfz184_0); (try clear hfz184_1); (try clear hfz184_2); (try clear hfz186_0); (try clear hfz186_1); (try clear hfz186_2); (try clear hfz188_0); (try clear hfz188_1); (try clear hfz188_2); (try clear hfz190_0); (try clear hfz190_1); (try clear hfz190_2); (try clear hfz192_0); (try clear hfz192_1); (try clear hfz192_2); (try clear hfz194_0); (try clear hfz194_1); (try clear hfz194_2); (try clear hfz196_0); (try clear hfz196_1); (try clear hfz196_2); (try clear hfz198_0); (try clear hfz198_1); (try clear hfz198_2); (try clear hfz203_0); (try clear hfz203_1); (try clear hfz203_2); (try clear hfz206_0); (try clear hfz206_1); (try clear hfz206_2); (try clear hfz209_0); (try clear hfz209_1); (try clear hfz209_2); (try clear hfz229_0); (try clear hfz229_1); (try clear hfz229_2); (try clear hfz234_0); (try clear hfz234_1); (try clear hfz234_2); (try clear hfz265_0); (try clear hfz265_1); (try clear hfz265_2); (try clear hfz267_0); (try clear hfz267_1); (try clear hfz267_2); (try clear p2); (try clear p6); try clear p64
        obtain ⟨kq, x487_282, rfl, HA, HJ282, HO_57, HO_61, HO_65, BK306, BK378, BK383, HB⟩ := hcut
        rcases kq with _ | kj282
        ·exact absurd HA.out (by simp [laws_FnRisersFitOfAll.j4])
        have H := HA.out
        clear HA
        simp only [laws_FnRisersFitOfAll.j4] at H
        by_cases c288 : x487_282 = true
        ·subst c288
         rw [if_pos rfl] at H
         exact absurd (Option.some.inj H) (by decide)
        replace c288 := Bool.eq_false_iff.mpr c288
        subst c288
        rw [if_neg (show ¬ (false = true) by decide)] at H
        have H' := Aside0.mk H
        clear H
        obtain ⟨Ao289, co289, eo289⟩ := Kd.R_slice HO_57.out
        subst eo289
        go_wp2
        go_loopg [490] kj282 (fun kq v490 w' => ∃ (x490_5 : Int), v490 = .int .i64 x490_5 ∧ Aside0 (laws_FnRisersFitOfAll.l0 kq a1 a2 a3 a4 a5 a6 a7 a8 a9 t350 t358 t366 t367 t377 t350 (t350.length : Int) x490_5 t374 t375 t376 = some true) ∧ Aside0 (kq ≤ kj282) ∧ Aside0 (Kd.R (Kd.int .i64) 3 w' w.heap.size (fun k_ => some k_ ≠ (v368 : Value).ownBlock) (.slice Ao289 t350.length co289) t350) ∧ Aside0 (Kd.R k32 32 w' w.heap.size (fun k_ => k_ ≠ gb306 ∧ k_ ≠ gb378 ∧ k_ ≠ gb383) v360 t358) ∧ Aside0 (Kd.R (Kd.int .i64) 3 w' w.heap.size (fun k_ => some k_ ≠ ((.slice Ao289 t350.length co289) : Value).ownBlock ∧ some k_ ≠ ((.slice Ao289 t350.length co289) : Value).ownBlock) v368 t366) ∧ Aside0 (Kd.R (Kd.int .i64) 3 w' w.heap.size (fun k_ => some k_ ≠ (v368 : Value).ownBlock) (.slice Ao289 t350.length co289) t350) ∧ Aside0 (w'.heap[gb306]? = some (.cells #[.int .i64 a0_0, .int .i64 a0_1, .int .i64 a0_2] 32 (0, 0))) ∧ Aside0 (w'.heap[gb378]? = some (.cells #[.int .i64 t374, .int .i64 t375, .int .i64 t376] 32 (0, 0))) ∧ Aside0 (w'.heap[gb383]? = some (.cells #[.int .i64 t379, .int .i64 t380, .int .i64 t381] 32 (0, 0))) ∧ Aside0 (Below w.heap.size w w'))
        case atStart => exact ⟨(0), (by first | rfl | (simp; done) | (simp [*]; done)), H', ⟨Nat.le_refl _⟩, ⟨by (with_reducible repeat (first | apply rA_ | apply rN_ | apply rD_)); exact HO_57.out⟩, ⟨by (with_reducible repeat (first | apply rA_ | apply rN_ | apply rD_)); exact HO_61.out⟩, ⟨by (with_reducible repeat (first | apply rA_ | apply rN_ | apply rD_)); exact rM_ HO_65.out (fun _ hk => ⟨hk, hk⟩)⟩, ⟨by (with_reducible repeat (first | apply rA_ | apply rN_ | apply rD_)); exact HO_57.out⟩, ⟨by (with_reducible repeat (first | refine kN_ ?_ _ | refine kD_ ?_ | refine kA_ ?_ _)); exact BK306.out⟩, ⟨by (with_reducible repeat (first | refine kN_ ?_ _ | refine kD_ ?_ | refine kA_ ?_ _)); exact BK378.out⟩, ⟨by (with_reducible repeat (first | refine kN_ ?_ _ | refine kD_ ?_ | refine kA_ ?_ _)); exact BK383.out⟩, ⟨by repeat (first | (with_reducible first | exact HB.out | apply bA_ | apply bN_ | apply bD_ | refine bS_ ?_ GE306.out | refine bS_ ?_ GE378.out | refine bS_ ?_ GE383.out) | exact HB.out)⟩⟩
        case round =>
         clear H'
         (try clear c1); (try clear c2); (try clear p2); (try clear c4); (try clear c5); (try clear p6); (try clear c13); (try clear c14); (try clear c15); (try clear c16); (try clear c17); (try clear c18); (try clear c19); (try clear c20); (try clear c22); (try clear c23); (try clear c24); (try clear c25); (try clear c26); (try clear c27); (try clear c28); (try clear c48); (try clear c49); (try clear c50); (try clear c51); (try clear c52); (try clear c53); (try clear c54); (try clear c55); (try clear p64); (try clear c132); (try clear c134); (try clear c139); (try clear c141); (try clear c141b0); (try clear c141b1); (try clear c142); (try clear c142b0); (try clear c142b1); (try clear c144); (try clear c145); (try clear c145b0); (try clear c145b1); (try clear c146); (try clear c146b0); (try clear c146b1); (try clear c147); (try clear c148); (try clear c148b0); (try clear c148b1); (try clear c149); (try clear c150); (try clear c153); (try clear c155); (try clear c157); (try clear c158); (try clear c161); (try clear c163); (try clear c165); (try clear c167); (try clear c169); (try clear c171); (try clear c173); (try clear c176); (try clear c176b0); (try clear c177); (try clear c178); (try clear c178b0); (try clear c178b1); (try clear c179); (try clear c180); (try clear c180b0); (try clear c180b1); (try clear c181); (try clear c185); (try clear c189); (try clear c193); (try clear c197); (try clear c200); (try clear c201); (try clear c201b0); (try clear c201b1); (try clear c202); (try clear c205); (try clear c208); (try clear c228); (try clear c232); (try clear c233); (try clear c235); (try clear c235b0); (try clear c235b1); (try clear c235b2); (try clear c237); (try clear c238); (try clear c238b0); (try clear c238b1); (try clear c238b2); (try clear c242); (try clear c243); (try clear c243b0); (try clear c243b1); (try clear c243b2); (try clear c249); (try clear c250); (try clear c250b0); (try clear c250b1); (try clear c250b2); (try clear c263); (try clear c264); (try clear c266); (try clear c280); (try clear c282); (try clear c284); (try clear c284b0); (try clear c284b1); (try clear c288); (try clear hcz140_0); (try clear hcz140_1); (try clear hcz140_2); (try clear hcz151_0); (try clear hcz151_1); (try clear hcz151_2); (try clear hcz152_0); (try clear hcz152_1); (try clear hcz152_2); (try clear hcz154_0); (try clear hcz154_1); (try clear hcz154_2); (try clear hcz156_0); (try clear hcz156_1); (try clear hcz156_2); (try clear hcz159_0); (try clear hcz159_1); (try clear hcz159_2); (try clear hcz160_0); (try clear hcz160_1); (try clear hcz160_2); (try clear hcz162_0); (try clear hcz162_1); (try clear hcz162_2); (try clear hcz164_0); (try clear hcz164_1); (try clear hcz164_2); (try clear hcz166_0); (try clear hcz166_1); (try clear hcz166_2); (try clear hcz168_0); (try clear hcz168_1); (try clear hcz168_2); (try clear hcz170_0); (try clear hcz170_1); (try clear hcz170_2); (try clear hcz172_0); (try clear hcz172_1); (try clear hcz172_2); (try clear hcz182_0); (try clear hcz182_1); (try clear hcz182_2); (try clear hcz184_0); (try clear hcz184_1); (try clear hcz184_2); (try clear hcz186_0); (try clear hcz186_1); (try clear hcz186_2); (try clear hcz188_0); (try clear hcz188_1); (try clear hcz188_2); (try clear hcz190_0); (try clear hcz190_1); (try clear hcz190_2); (try clear hcz192_0); (try clear hcz192_1); (try clear hcz192_2); (try clear hcz194_0); (try clear hcz194_1); (try clear hcz194_2); (try clear hcz196_0); (try clear hcz196_1); (try clear hcz196_2); (try clear hcz198_0); (try clear hcz198_1); (try clear hcz198_2); (try clear hcz203_0); (try clear hcz203_1); (try clear hcz203_2); (try clear hcz206_0); (try clear hcz206_1); (try clear hcz206_2); (try clear hcz209_0); (try clear hcz209_1); (try clear hcz209_2); (try clear hcz229_0); (try clear hcz229_1); (try clear hcz229_2); (try clear hcz234_0); (try clear hcz234_1); (try clear hcz234_2); (try clear hcz265_0); (try clear hcz265_1); (try clear hcz265_2); (try clear hcz267_0); (try clear hcz267_1); (try clear hcz267_2); (try clear hfz140_0); (try clear hfz140_1); (try clear hfz140_2); (try clear hfz151_0); (try clear hfz151_1); (try clear hfz151_2); (try clear hfz152_0); (try clear hfz152_1); (try clear hfz152_2); (try clear hfz154_0); (try clear hfz154_1); (try clear hfz154_2); (try clear hfz156_0); (try clear hfz156_1); (try clear hfz156_2); (try clear hfz159_0); (try clear hfz159_1); (try clear hfz159_2); (try clear hfz160_0); (try clear hfz160_1); (try clear hfz160_2); (try clear hfz162_0); (try clear hfz162_1); (try clear hfz162_2); (try clear hfz164_0); (try clear hfz164_1); (try clear hfz164_2); (try clear hfz166_0); (try clear hfz166_1); (try clear hfz166_2); (try clear hfz168_0); (try clear hfz168_1); (try clear hfz168_2); (try clear hfz170_0); (try clear hfz170_1); (try clear hfz170_2); (try clear hfz172_0); (try clear hfz172_1); (try clear hfz172_2); (try clear hfz182_0); (try clear hfz182_1); (try clear hfz182_2); (try clear hfz184_0); (try clear hfz184_1); (try clear hfz184_2); (try clear hfz186_0); (try clear hfz186_1); (try clear hfz186_2); (try clear hfz188_0); (try clear hfz188_1); (try clear hfz188_2); (try clear hfz190_0); (try clear hfz190_1); (try clear hfz190_2); (try clear hfz192_0); (try clear hfz192_1); (try clear hfz192_2); (try clear hfz194_0); (try clear hfz194_1); (try clear hfz194_2); (try clear hfz196_0); (try clear hfz196_1); (try clear hfz196_2); (try clear hfz198_0); (try clear hfz198_1); (try clear hfz198_2); (try clear hfz203_0); (try clear hfz203_1); (try clear hfz203_2); (try clear hfz206_0); (try clear hfz206_1); (try clear hfz206_2); (try clear hfz209_0); (try clear hfz209_1); (try clear hfz209_2); (try clear hfz229_0); (try clear hfz229_1); (try clear hfz229_2); (try clear hfz234_0); (try clear hfz234_1); (try clear hfz234_2); (try clear hfz265_0); (try clear hfz265_1); (try clear hfz265_2); (try clear hfz267_0); (try clear hfz267_1); (try clear hfz267_2); (try clear p2); (try clear p6); try clear p64
         obtain ⟨x490_5, rfl, HA, HK5, HO_57, HO_61, HO_65, HO_488, BK306, BK378, BK383, HB⟩ := hrel
         rcases gk with _ | k5
         ·exact absurd HA.out (by simp [laws_FnRisersFitOfAll.l0])
         have H := HA.out
         clear HA
         simp only [laws_FnRisersFitOfAll.l0] at H
         by_cases c290 : x490_5 < (t350.length : Int)
         ·rw [if_pos c290] at H
          have c290b0 : decide (x490_5 < (t350.length : Int)) = true := decide_eq_true c290
          clear c290
          by_cases c291 : 0 ≤ x490_5
          ·rw [if_pos c291] at H
           have c291b0 : decide (0 ≤ x490_5) = true := decide_eq_true c291
           clear c291
           by_cases c292 : x490_5 < (t350.length : Int)
           ·rw [if_pos c292] at H
            have c292b0 : decide (x490_5 < (t350.length : Int)) = true := decide_eq_true c292
            clear c292
            by_cases c293 : a2 = 0
            ·rw [if_pos c293] at H
             exact absurd H (by simp)
            rw [if_neg c293] at H
            have c293b0 : (a2 == 0) = false := beq_eq_false_iff_ne.mpr c293
            have c293b1 : (a2 != 0) = true := bne_iff_ne.mpr c293
            by_cases c294 : (rd t350 x490_5) = (wrap64 (Int.tdiv a1 a2))
            ·rw [if_pos c294] at H
             have c294b0 : ((rd t350 x490_5) == (wrap64 (Int.tdiv a1 a2))) = true := beq_iff_eq.mpr c294
             have c294b1 : ((rd t350 x490_5) != (wrap64 (Int.tdiv a1 a2))) = false := bne_eq_false_iff_eq.mpr c294
             clear c294
             by_cases c295 : (rd t350 x490_5) < 1
             ·rw [if_pos c295] at H
              exact absurd (Option.some.inj H) (by decide)
             rw [if_neg c295] at H
             have c295b0 : decide ((rd t350 x490_5) < 1) = false := decide_eq_false c295
             clear c295
             obtain ⟨ji297, hji297⟩ : ∃ j_ : Int, (wrap64 (x490_5 + 1)) = j_ := ⟨_, rfl⟩
             replace H : (if 0 ≤ (ji297) then (if (ji297) ≤ (t350.length : Int) then ((laws_lSum.f k5 (t350.take ((ji297) : Int).toNat)).bind fun t393 => (if t393 = (wrap64 (Int.tdiv (wrap64 ((ji297) * a1)) a2)) then (laws_FnRisersFitOfAll.l0 k5 a1 a2 a3 a4 a5 a6 a7 a8 a9 t350 t358 t366 t367 t377 t350 (t350.length : Int) ji297 t374 t375 t376) else (some false))) else (none)) else (none)) = some true := by first | (rw [hji297] at H; exact H) | (simp only [hji297] at H ⊢; exact H)
             have hji297w : (IntKind.i64.wrap (x490_5 + 1)) = ji297 := (i64_w _).trans hji297
             by_cases c298 : 0 ≤ (ji297)
             ·rw [if_pos c298] at H
              have c298b0 := eq_true c298
              have c298b1 : decide (0 ≤ (ji297)) = true := decide_eq_true c298
              clear c298
              by_cases c299 : (ji297) ≤ (t350.length : Int)
              ·rw [if_pos c299] at H
               have c299b0 := eq_true c299
               have c299b1 : decide ((ji297) ≤ (t350.length : Int)) = true := decide_eq_true c299
               clear c299
               obtain ⟨y389, hy389⟩ : ∃ y_ : List Int, y_ = (t350.take ((ji297) : Int).toNat) := ⟨_, rfl⟩
               replace H : ((laws_lSum.f k5 y389).bind fun t393 => (if t393 = (wrap64 (Int.tdiv (wrap64 ((ji297) * a1)) a2)) then (laws_FnRisersFitOfAll.l0 k5 a1 a2 a3 a4 a5 a6 a7 a8 a9 t350 t358 t366 t367 t377 t350 (t350.length : Int) ji297 t374 t375 t376) else (some false))) = some true := by first | (rw [hy389]; with_reducible exact H) | (have H2_ := (Option.bind_some _ _).symm.trans H; rw [hy389]; with_reducible exact H2_) | (have H2_ := (Option.bind_some _ _).symm.trans H; with_reducible exact H2_) | with_reducible exact H | (rw [hy389]; exact H) | exact H
               have Ny389 := Aside0.mk hy389
               clear hy389
               replace H := Option.bind_eq_some_iff.mp H
               obtain ⟨t393, A3000, H⟩ := H
               try dsimp only at H
               have A300 := Aside0.mk A3000
               clear A3000
               by_cases c301 : t393 = (wrap64 (Int.tdiv (wrap64 ((ji297) * a1)) a2))
               ·rw [if_pos c301] at H
                have c301b0 : (t393 == (wrap64 (Int.tdiv (wrap64 ((ji297) * a1)) a2))) = true := beq_iff_eq.mpr c301
                have c301b1 : (t393 != (wrap64 (Int.tdiv (wrap64 ((ji297) * a1)) a2))) = false := bne_eq_false_iff_eq.mpr c301
                clear c301
                have H' := Aside0.mk H
                clear H
                have p388 : 0 ≤ (x490_5 : Int) := of_decide_eq_true (by first | (with_reducible assumption) | assumption)
                have q388 : x490_5 < (t350.length : Int) := of_decide_eq_true (by first | (with_reducible assumption) | assumption)
                obtain ⟨ad388, e388, hx388_0⟩ := Kd.at_int (rR_ HO_488.out).2.2 x490_5 p388 q388
                cases e388
                replace p388 := eq_true p388
                replace q388 := eq_true q388
                try go_wp2
                have n0_ := Aside0.mk (rD_ HO_57.out)
                have n1_ := Aside0.mk (rD_ HO_61.out)
                have n2_ := Aside0.mk (rD_ HO_65.out)
                have n3_ := Aside0.mk (rD_ HO_488.out)
                have n4_ := Aside0.mk (kD_ BK306.out)
                have n5_ := Aside0.mk (kD_ BK378.out)
                have n6_ := Aside0.mk (kD_ BK383.out)
                have n7_ := Aside0.mk (bD_ HB.out)
                clear HO_57
                clear HO_61
                clear HO_65
                clear HO_488
                clear BK306
                clear BK378
                clear BK383
                clear HB
                have HO_57 := n0_
                have HO_61 := n1_
                have HO_65 := n2_
                have HO_488 := n3_
                have BK306 := n4_
                have BK378 := n5_
                have BK383 := n6_
                have HB := n7_
                clear n0_ n1_ n2_ n3_ n4_ n5_ n6_ n7_
                have q303 : ((ji297) : Int) ≤ ((t350.length : Int) : Int) := of_decide_eq_true (by first | (with_reducible assumption) | assumption)
                obtain ⟨i0303, hi0303, _, hsz303, _⟩ := info_parts info3
                have hroom303 : t350.length ≤ co289 := (rR_ HO_57.out).2.1
                have hC303 : Kd.C (Kd.int .i64) _ (some ad388) t350.length t350 := (rR_ HO_57.out).2.2
                have hcut303 := cut_to (P := Tryd.prog) 35 3 .i64 Tryd.underlying35 hi0303 (some ad388) t350.length co289 (ji297) (of_decide_eq_true (by first | (with_reducible assumption) | assumption)) q303 hroom303
                have hr303 := Kd.C_take (m := ((ji297) : Int).toNat) hC303 (by omega)
                have hy303 : y389.length = ((ji297) : Int).toNat := (by rw [Ny389.out, List.length_take]; omega)
                rw [← Ny389.out] at hr303
                rw [← hy303] at hcut303
                have HR392 := Aside0.mk hr303
                have HC392 := Aside0.mk (show y389.length ≤ co289 from by omega)
                clear hr303 hC303 hroom303 hi0303 hsz303
                have KY303 := Aside0.mk hy303
                clear hy303
                have KL303 := Aside0.mk (show ((ji297) : Int).toNat ≤ t350.length from by omega)
                replace q303 := eq_true q303
                as_aux_lemma =>
                 refine start_ (n := 31) (S := fun w' => True) (ds := []) (bs 31 0) (by kernel_rfl) rfl (by kernel_rfl) trivial (fun hHeld => ?_); refine with_tabW laws_FnRisersFitOfAll.tab43 laws_FnRisersFitOfAll.bits43 (fun HT_ HW_ => ?_)
                 generalize wr.drew = w302 at HO_57 HO_61 HO_65 HO_488 BK306 BK378 BK383 HB HR392 hHeld ⊢
                 refine sL_ 31 [(0, 495, 1), (1, 496, 3), (2, 497, 7), (3, 498, 15), (4, 499, 31), (5, 500, 63), (6, 501, 127), (7, 502, 255), (8, 503, 511), (9, 504, 1023), (10, 505, 2047), (11, 506, 4095), (12, 507, 8191), (13, 508, 16383), (14, 509, 32767), (15, 510, 65535), (16, 511, 131071), (17, 512, 262143), (18, 513, 524287), (19, 514, 1048575), (20, 515, 2097151), (21, 516, 4194303), (23, 518, 12582911), (24, 519, 29360127), (25, 520, 62914559), (26, 521, 130023423), (27, 522, 264241151), (28, 523, 532676607), (22, 517, 536870911), (29, 524, 1073741823), (30, 525, 2147483647)] ?_
                 iterate 6 (refine pL_ (v := ?_) (a' := ?_) rfl (any_of HT_.out (by kernel_rfl)) (fun _ _ _ h => h) (Or.inl ⟨by rfl, ?_⟩) ?_ ?_; rotate_left; (· (intro w'; first | ((with_reducible apply ym_); (conv => lhs; whnf)) | ((with_reducible apply yb_); (conv => lhs; whnf); (conv => lhs; whnf); go_simp; (with_reducible rfl)) | ((with_reducible apply yp_); (conv => lhs; whnf); (conv => lhs; whnf); (conv => lhs; whnf); go_simp; (with_reducible rfl)) | (go_simp; with_reducible rfl))); rotate_left; (· (simp only [Act.put, List.setIfInBounds_toArray, List.set_cons_zero, List.set_cons_succ, i64_w, i32_w]; rfl)))
                 refine pL_ (v := undef) (a' := ?_) rfl (any_of HT_.out (by kernel_rfl)) (fun _ _ _ h => h) (Or.inr ⟨by rfl, rfl⟩) ?_ ?_
                 rotate_left
                 ·simp only [Act.put, List.setIfInBounds_toArray, List.set_cons_zero, List.set_cons_succ, i64_w, i32_w]; rfl
                 refine pL_ (v := undef) (a' := ?_) rfl (any_of HT_.out (by kernel_rfl)) (fun _ _ _ h => h) (Or.inr ⟨by rfl, rfl⟩) ?_ ?_
                 rotate_left
                 ·simp only [Act.put, List.setIfInBounds_toArray, List.set_cons_zero, List.set_cons_succ, i64_w, i32_w]; rfl
                 refine pL_ (v := undef) (a' := ?_) rfl (any_of HT_.out (by kernel_rfl)) (fun _ _ _ h => h) (Or.inr ⟨by rfl, rfl⟩) ?_ ?_
                 rotate_left
                 ·simp only [Act.put, List.setIfInBounds_toArray, List.set_cons_zero, List.set_cons_succ, i64_w, i32_w]; rfl
                 refine pL_ (v := undef) (a' := ?_) rfl (any_of HT_.out (by kernel_rfl)) (fun _ _ _ h => h) (Or.inr ⟨by rfl, rfl⟩) ?_ ?_
                 rotate_left
                 ·simp only [Act.put, List.setIfInBounds_toArray, List.set_cons_zero, List.set_cons_succ, i64_w, i32_w]; rfl
                 refine pL_ (v := undef) (a' := ?_) rfl (any_of HT_.out (by kernel_rfl)) (fun _ _ _ h => h) (Or.inr ⟨by rfl, rfl⟩) ?_ ?_
                 rotate_left
                 ·simp only [Act.put, List.setIfInBounds_toArray, List.set_cons_zero, List.set_cons_succ, i64_w, i32_w]; rfl
                 refine pL_ (v := undef) (a' := ?_) rfl (any_of HT_.out (by kernel_rfl)) (fun _ _ _ h => h) (Or.inr ⟨by rfl, rfl⟩) ?_ ?_
                 rotate_left
                 ·simp only [Act.put, List.setIfInBounds_toArray, List.set_cons_zero, List.set_cons_succ, i64_w, i32_w]; rfl
                 iterate 16 (refine pL_ (v := ?_) (a' := ?_) rfl (any_of HT_.out (by kernel_rfl)) (fun _ _ _ h => h) (Or.inl ⟨by rfl, ?_⟩) ?_ ?_; rotate_left; (· (intro w'; first | ((with_reducible apply ym_); (conv => lhs; whnf)) | ((with_reducible apply yb_); (conv => lhs; whnf); (conv => lhs; whnf); go_simp; (with_reducible rfl)) | ((with_reducible apply yp_); (conv => lhs; whnf); (conv => lhs; whnf); (conv => lhs; whnf); go_simp; (with_reducible rfl)) | (go_simp; with_reducible rfl))); rotate_left; (· (simp only [Act.put, List.setIfInBounds_toArray, List.set_cons_zero, List.set_cons_succ, i64_w, i32_w]; rfl)))
                 refine oL_ rfl (one_of HT_.out (by kernel_rfl)) (by decide) (fun K hK => ?_)
                 refine goes_ Tryd.func58 (by kernel_rfl) rfl #[.slice (some ad388) y389.length co289] (by rfl) rfl rfl (by (try simp only [List.map_toArray, List.map_cons, List.map_nil]); first | done | rfl | (simp only [List.length_drop, List.length_take]; rfl)) ?_
                 with_reducible refine (laws_lSum.calls k5 _ _ y389 t393 _ ?side1 ?side2 A300.out).mono ?_
                 (case side1 => repeat (first | exact (by repeat (first | (with_reducible exact HR392.out) | (with_reducible refine Kd.C_alloc ?_ _) | (with_reducible refine Kd.C_drewN ?_ _) | (with_reducible refine Kd.C_drew ?_) | exact HR392.out)) | (with_reducible refine Kd.C_alloc ?_ _) | (with_reducible refine Kd.C_drewN ?_ _) | (with_reducible refine Kd.C_drew ?_)))
                 (case side2 => exact HC392.out)
                 rintro e w' ⟨rfl, ⟨nd, rfl⟩⟩
                 refine ⟨_, rfl, ?_⟩
                 refine hK.out _ _ trivial (fun hHeld => ?_)
                 clear hK K
                 refine nL_ (a' := ?_) ?_ ?_
                 rotate_left
                 ·show Act.put _ (some 517) _ = _
                  simp only [Act.put, List.setIfInBounds_toArray, List.set_cons_zero, List.set_cons_succ, i64_w, i32_w]
                  rfl
                 iterate 2 (refine pL_ (v := ?_) (a' := ?_) rfl (any_of HT_.out (by kernel_rfl)) (fun _ _ _ h => h) (Or.inl ⟨by rfl, ?_⟩) ?_ ?_; rotate_left; (· (intro w'; first | ((with_reducible apply ym_); (conv => lhs; whnf)) | ((with_reducible apply yb_); (conv => lhs; whnf); (conv => lhs; whnf); go_simp; (with_reducible rfl)) | ((with_reducible apply yp_); (conv => lhs; whnf); (conv => lhs; whnf); (conv => lhs; whnf); go_simp; (with_reducible rfl)) | (go_simp; with_reducible rfl))); rotate_left; (· (simp only [Act.put, List.setIfInBounds_toArray, List.set_cons_zero, List.set_cons_succ, i64_w, i32_w]; rfl)))
                 refine dL_ (done_of HT_.out (by kernel_rfl)) ?_
                 try go_wp2
                 go_roundg k5
                 case measure => have := HJ26.out; have := HJ132.out; have := HJ218.out; have := HJ282.out; have := HK5.out; omega
                 case rel => exact ⟨(ji297), (by first | rfl | (simp; done) | (simp only [← hji297] <;> (first | rfl | simp)) | (simp [*]; done)), H', ⟨by have := HJ26.out; have := HJ132.out; have := HJ218.out; have := HJ282.out; have := HK5.out; omega⟩, ⟨by (with_reducible repeat (first | apply rA_ | apply rN_ | apply rD_)); exact HO_57.out⟩, ⟨by (with_reducible repeat (first | apply rA_ | apply rN_ | apply rD_)); exact HO_61.out⟩, ⟨by (with_reducible repeat (first | apply rA_ | apply rN_ | apply rD_)); exact HO_65.out⟩, ⟨by (with_reducible repeat (first | apply rA_ | apply rN_ | apply rD_)); exact HO_488.out⟩, ⟨by (with_reducible repeat (first | refine kN_ ?_ _ | refine kD_ ?_ | refine kA_ ?_ _)); exact BK306.out⟩, ⟨by (with_reducible repeat (first | refine kN_ ?_ _ | refine kD_ ?_ | refine kA_ ?_ _)); exact BK378.out⟩, ⟨by (with_reducible repeat (first | refine kN_ ?_ _ | refine kD_ ?_ | refine kA_ ?_ _)); exact BK383.out⟩, ⟨by repeat (first | (with_reducible first | exact HB.out | apply bA_ | apply bN_ | apply bD_ | refine bS_ ?_ GE306.out | refine bS_ ?_ GE378.out | refine bS_ ?_ GE383.out) | exact HB.out)⟩⟩
               rw [if_neg c301] at H
               exact absurd (Option.some.inj H) (by decide)
              rw [if_neg c299] at H
              exact absurd H (by simp)
             rw [if_neg c298] at H
             exact absurd H (by simp)
            rw [if_neg c294] at H
            have c294b0 : ((rd t350 x490_5) == (wrap64 (Int.tdiv a1 a2))) = false := beq_eq_false_iff_ne.mpr c294
            have c294b1 : ((rd t350 x490_5) != (wrap64 (Int.tdiv a1 a2))) = true := bne_iff_ne.mpr c294
            by_cases c306 : (rd t350 x490_5) = (wrap64 ((wrap64 (Int.tdiv a1 a2)) + 1))
            ·rw [if_pos c306] at H
             have c306b0 : ((rd t350 x490_5) == (wrap64 ((wrap64 (Int.tdiv a1 a2)) + 1))) = true := beq_iff_eq.mpr c306
             have c306b1 : ((rd t350 x490_5) != (wrap64 ((wrap64 (Int.tdiv a1 a2)) + 1))) = false := bne_eq_false_iff_eq.mpr c306
             clear c306
             by_cases c307 : (rd t350 x490_5) < 1
             ·rw [if_pos c307] at H
              exact absurd (Option.some.inj H) (by decide)
             rw [if_neg c307] at H
             have c307b0 : decide ((rd t350 x490_5) < 1) = false := decide_eq_false c307
             clear c307
             obtain ⟨ji309, hji309⟩ : ∃ j_ : Int, (wrap64 (x490_5 + 1)) = j_ := ⟨_, rfl⟩
             replace H : (if 0 ≤ (ji309) then (if (ji309) ≤ (t350.length : Int) then ((laws_lSum.f k5 (t350.take ((ji309) : Int).toNat)).bind fun t398 => (if t398 = (wrap64 (Int.tdiv (wrap64 ((ji309) * a1)) a2)) then (laws_FnRisersFitOfAll.l0 k5 a1 a2 a3 a4 a5 a6 a7 a8 a9 t350 t358 t366 t367 t377 t350 (t350.length : Int) ji309 t374 t375 t376) else (some false))) else (none)) else (none)) = some true := by first | (rw [hji309] at H; exact H) | (simp only [hji309] at H ⊢; exact H)
             have hji309w : (IntKind.i64.wrap (x490_5 + 1)) = ji309 := (i64_w _).trans hji309
             by_cases c310 : 0 ≤ (ji309)
             ·rw [if_pos c310] at H
              have c310b0 := eq_true c310
              have c310b1 : decide (0 ≤ (ji309)) = true := decide_eq_true c310
              clear c310
              by_cases c311 : (ji309) ≤ (t350.length : Int)
              ·rw [if_pos c311] at H
               have c311b0 := eq_true c311
               have c311b1 : decide ((ji309) ≤ (t350.length : Int)) = true := decide_eq_true c311
               clear c311
               obtain ⟨y394, hy394⟩ : ∃ y_ : List Int, y_ = (t350.take ((ji309) : Int).toNat) := ⟨_, rfl⟩
               replace H : ((laws_lSum.f k5 y394).bind fun t398 => (if t398 = (wrap64 (Int.tdiv (wrap64 ((ji309) * a1)) a2)) then (laws_FnRisersFitOfAll.l0 k5 a1 a2 a3 a4 a5 a6 a7 a8 a9 t350 t358 t366 t367 t377 t350 (t350.length : Int) ji309 t374 t375 t376) else (some false))) = some true := by first | (rw [hy394]; with_reducible exact H) | (have H2_ := (Option.bind_some _ _).symm.trans H; rw [hy394]; with_reducible exact H2_) | (have H2_ := (Option.bind_some _ _).symm.trans H; with_reducible exact H2_) | with_reducible exact H | (rw [hy394]; exact H) | exact H
               have Ny394 := Aside0.mk hy394
               clear hy394
               replace H := Option.bind_eq_some_iff.mp H
               obtain ⟨t398, A3120, H⟩ := H
               try dsimp only at H
               have A312 := Aside0.mk A3120
               clear A3120
               by_cases c313 : t398 = (wrap64 (Int.tdiv (wrap64 ((ji309) * a1)) a2))
               ·rw [if_pos c313] at H
                have c313b0 : (t398 == (wrap64 (Int.tdiv (wrap64 ((ji309) * a1)) a2))) = true := beq_iff_eq.mpr c313
                have c313b1 : (t398 != (wrap64 (Int.tdiv (wrap64 ((ji309) * a1)) a2))) = false := bne_eq_false_iff_eq.mpr c313
                clear c313
                have H' := Aside0.mk H
                clear H
                have p388 : 0 ≤ (x490_5 : Int) := of_decide_eq_true (by first | (with_reducible assumption) | assumption)
                have q388 : x490_5 < (t350.length : Int) := of_decide_eq_true (by first | (with_reducible assumption) | assumption)
                obtain ⟨ad388, e388, hx388_0⟩ := Kd.at_int (rR_ HO_488.out).2.2 x490_5 p388 q388
                cases e388
                replace p388 := eq_true p388
                replace q388 := eq_true q388
                try go_wp2
                have n0_ := Aside0.mk (rD_ HO_57.out)
                have n1_ := Aside0.mk (rD_ HO_61.out)
                have n2_ := Aside0.mk (rD_ HO_65.out)
                have n3_ := Aside0.mk (rD_ HO_488.out)
                have n4_ := Aside0.mk (kD_ BK306.out)
                have n5_ := Aside0.mk (kD_ BK378.out)
                have n6_ := Aside0.mk (kD_ BK383.out)
                have n7_ := Aside0.mk (bD_ HB.out)
                clear HO_57
                clear HO_61
                clear HO_65
                clear HO_488
                clear BK306
                clear BK378
                clear BK383
                clear HB
                have HO_57 := n0_
                have HO_61 := n1_
                have HO_65 := n2_
                have HO_488 := n3_
                have BK306 := n4_
                have BK378 := n5_
                have BK383 := n6_
                have HB := n7_
                clear n0_ n1_ n2_ n3_ n4_ n5_ n6_ n7_
                have q315 : ((ji309) : Int) ≤ ((t350.length : Int) : Int) := of_decide_eq_true (by first | (with_reducible assumption) | assumption)
                obtain ⟨i0315, hi0315, _, hsz315, _⟩ := info_parts info3
                have hroom315 : t350.length ≤ co289 := (rR_ HO_57.out).2.1
                have hC315 : Kd.C (Kd.int .i64) _ (some ad388) t350.length t350 := (rR_ HO_57.out).2.2
                have hcut315 := cut_to (P := Tryd.prog) 35 3 .i64 Tryd.underlying35 hi0315 (some ad388) t350.length co289 (ji309) (of_decide_eq_true (by first | (with_reducible assumption) | assumption)) q315 hroom315
                have hr315 := Kd.C_take (m := ((ji309) : Int).toNat) hC315 (by omega)
                have hy315 : y394.length = ((ji309) : Int).toNat := (by rw [Ny394.out, List.length_take]; omega)
                rw [← Ny394.out] at hr315
                rw [← hy315] at hcut315
                have HR397 := Aside0.mk hr315
                have HC397 := Aside0.mk (show y394.length ≤ co289 from by omega)
                clear hr315 hC315 hroom315 hi0315 hsz315
                have KY315 := Aside0.mk hy315
                clear hy315
                have KL315 := Aside0.mk (show ((ji309) : Int).toNat ≤ t350.length from by omega)
                replace q315 := eq_true q315
                as_aux_lemma =>
                 refine start_ (n := 31) (S := fun w' => True) (ds := []) (bs 31 0) (by kernel_rfl) rfl (by kernel_rfl) trivial (fun hHeld => ?_); refine with_tabW laws_FnRisersFitOfAll.tab43 laws_FnRisersFitOfAll.bits43 (fun HT_ HW_ => ?_)
                 generalize wr.drew = w314 at HO_57 HO_61 HO_65 HO_488 BK306 BK378 BK383 HB HR397 hHeld ⊢
                 refine sL_ 31 [(0, 495, 1), (1, 496, 3), (2, 497, 7), (3, 498, 15), (4, 499, 31), (5, 500, 63), (6, 501, 127), (7, 502, 255), (8, 503, 511), (9, 504, 1023), (10, 505, 2047), (11, 506, 4095), (12, 507, 8191), (13, 508, 16383), (14, 509, 32767), (15, 510, 65535), (16, 511, 131071), (17, 512, 262143), (18, 513, 524287), (19, 514, 1048575), (20, 515, 2097151), (21, 516, 4194303), (23, 518, 12582911), (24, 519, 29360127), (25, 520, 62914559), (26, 521, 130023423), (27, 522, 264241151), (28, 523, 532676607), (22, 517, 536870911), (29, 524, 1073741823), (30, 525, 2147483647)] ?_
                 iterate 28 (refine pL_ (v := ?_) (a' := ?_) rfl (any_of HT_.out (by kernel_rfl)) (fun _ _ _ h => h) (Or.inl ⟨by rfl, ?_⟩) ?_ ?_; rotate_left; (· (intro w'; first | ((with_reducible apply ym_); (conv => lhs; whnf)) | ((with_reducible apply yb_); (conv => lhs; whnf); (conv => lhs; whnf); go_simp; (with_reducible rfl)) | ((with_reducible apply yp_); (conv => lhs; whnf); (conv => lhs; whnf); (conv => lhs; whnf); go_simp; (with_reducible rfl)) | (go_simp; with_reducible rfl))); rotate_left; (· (simp only [Act.put, List.setIfInBounds_toArray, List.set_cons_zero, List.set_cons_succ, i64_w, i32_w]; rfl)))
                 refine oL_ rfl (one_of HT_.out (by kernel_rfl)) (by decide) (fun K hK => ?_)
                 refine goes_ Tryd.func58 (by kernel_rfl) rfl #[.slice (some ad388) y394.length co289] (by rfl) rfl rfl (by (try simp only [List.map_toArray, List.map_cons, List.map_nil]); first | done | rfl | (simp only [List.length_drop, List.length_take]; rfl)) ?_
                 with_reducible refine (laws_lSum.calls k5 _ _ y394 t398 _ ?side1 ?side2 A312.out).mono ?_
                 (case side1 => repeat (first | exact (by repeat (first | (with_reducible exact HR397.out) | (with_reducible refine Kd.C_alloc ?_ _) | (with_reducible refine Kd.C_drewN ?_ _) | (with_reducible refine Kd.C_drew ?_) | exact HR397.out)) | (with_reducible refine Kd.C_alloc ?_ _) | (with_reducible refine Kd.C_drewN ?_ _) | (with_reducible refine Kd.C_drew ?_)))
                 (case side2 => exact HC397.out)
                 rintro e w' ⟨rfl, ⟨nd, rfl⟩⟩
                 refine ⟨_, rfl, ?_⟩
                 refine hK.out _ _ trivial (fun hHeld => ?_)
                 clear hK K
                 refine nL_ (a' := ?_) ?_ ?_
                 rotate_left
                 ·show Act.put _ (some 517) _ = _
                  simp only [Act.put, List.setIfInBounds_toArray, List.set_cons_zero, List.set_cons_succ, i64_w, i32_w]
                  rfl
                 iterate 2 (refine pL_ (v := ?_) (a' := ?_) rfl (any_of HT_.out (by kernel_rfl)) (fun _ _ _ h => h) (Or.inl ⟨by rfl, ?_⟩) ?_ ?_; rotate_left; (· (intro w'; first | ((with_reducible apply ym_); (conv => lhs; whnf)) | ((with_reducible apply yb_); (conv => lhs; whnf); (conv => lhs; whnf); go_simp; (with_reducible rfl)) | ((with_reducible apply yp_); (conv => lhs; whnf); (conv => lhs; whnf); (conv => lhs; whnf); go_simp; (with_reducible rfl)) | (go_simp; with_reducible rfl))); rotate_left; (· (simp only [Act.put, List.setIfInBounds_toArray, List.set_cons_zero, List.set_cons_succ, i64_w, i32_w]; rfl)))
                 refine dL_ (done_of HT_.out (by kernel_rfl)) ?_
                 try go_wp2
                 go_roundg k5
                 case measure => have := HJ26.out; have := HJ132.out; have := HJ218.out; have := HJ282.out; have := HK5.out; omega
                 case rel => exact ⟨(ji309), (by first | rfl | (simp; done) | (simp only [← hji309] <;> (first | rfl | simp)) | (simp [*]; done)), H', ⟨by have := HJ26.out; have := HJ132.out; have := HJ218.out; have := HJ282.out; have := HK5.out; omega⟩, ⟨by (with_reducible repeat (first | apply rA_ | apply rN_ | apply rD_)); exact HO_57.out⟩, ⟨by (with_reducible repeat (first | apply rA_ | apply rN_ | apply rD_)); exact HO_61.out⟩, ⟨by (with_reducible repeat (first | apply rA_ | apply rN_ | apply rD_)); exact HO_65.out⟩, ⟨by (with_reducible repeat (first | apply rA_ | apply rN_ | apply rD_)); exact HO_488.out⟩, ⟨by (with_reducible repeat (first | refine kN_ ?_ _ | refine kD_ ?_ | refine kA_ ?_ _)); exact BK306.out⟩, ⟨by (with_reducible repeat (first | refine kN_ ?_ _ | refine kD_ ?_ | refine kA_ ?_ _)); exact BK378.out⟩, ⟨by (with_reducible repeat (first | refine kN_ ?_ _ | refine kD_ ?_ | refine kA_ ?_ _)); exact BK383.out⟩, ⟨by repeat (first | (with_reducible first | exact HB.out | apply bA_ | apply bN_ | apply bD_ | refine bS_ ?_ GE306.out | refine bS_ ?_ GE378.out | refine bS_ ?_ GE383.out) | exact HB.out)⟩⟩
               rw [if_neg c313] at H
               exact absurd (Option.some.inj H) (by decide)
              rw [if_neg c311] at H
              exact absurd H (by simp)
             rw [if_neg c310] at H
             exact absurd H (by simp)
            rw [if_neg c306] at H
            exact absurd (Option.some.inj H) (by decide)
           rw [if_neg c292] at H
           exact absurd H (by simp)
          rw [if_neg c291] at H
          exact absurd H (by simp)
         rw [if_neg c290] at H
         have c290b0 : decide (x490_5 < (t350.length : Int)) = false := decide_eq_false c290
         clear c290
         have H' := Aside0.mk H
         clear H
         go_wp2
         go_meet
         case rel => exact ⟨_, H', ⟨by have := HJ26.out; have := HJ132.out; have := HJ218.out; have := HJ282.out; have := HK5.out; first | omega | exact Nat.le_refl _⟩, ⟨by (with_reducible repeat (first | apply rA_ | apply rN_ | apply rD_)); exact HO_61.out⟩, ⟨by (with_reducible repeat (first | apply rA_ | apply rN_ | apply rD_)); exact rM_ HO_65.out (fun _ hk => trivial)⟩, ⟨by (with_reducible repeat (first | refine kN_ ?_ _ | refine kD_ ?_ | refine kA_ ?_ _)); exact BK306.out⟩, ⟨by (with_reducible repeat (first | refine kN_ ?_ _ | refine kD_ ?_ | refine kA_ ?_ _)); exact BK378.out⟩, ⟨by (with_reducible repeat (first | refine kN_ ?_ _ | refine kD_ ?_ | refine kA_ ?_ _)); exact BK383.out⟩, ⟨by repeat (first | (with_reducible first | exact HB.out | apply bA_ | apply bN_ | apply bD_ | refine bS_ ?_ GE306.out | refine bS_ ?_ GE378.out | refine bS_ ?_ GE383.out) | exact HB.out)⟩⟩
      replace c282 := Bool.eq_false_iff.mpr c282
      subst c282
      rw [if_neg (show ¬ (false = true) by decide)] at H
      have H' := Aside0.mk H
      clear H
      go_wp2
      go_meet
      case rel => exact ⟨_, H', ⟨by have := HJ26.out; have := HJ132.out; have := HJ218.out; first | omega | exact Nat.le_refl _⟩, ⟨by (with_reducible repeat (first | apply rA_ | apply rN_ | apply rD_)); exact HO_61.out⟩, ⟨by (with_reducible repeat (first | apply rA_ | apply rN_ | apply rD_)); exact rM_ HO_65.out (fun _ hk => trivial)⟩, ⟨by (with_reducible repeat (first | refine kN_ ?_ _ | refine kD_ ?_ | refine kA_ ?_ _)); exact BK306.out⟩, ⟨by (with_reducible repeat (first | refine kN_ ?_ _ | refine kD_ ?_ | refine kA_ ?_ _)); exact BK378.out⟩, ⟨by (with_reducible repeat (first | refine kN_ ?_ _ | refine kD_ ?_ | refine kA_ ?_ _)); exact BK383.out⟩, ⟨by repeat (first | (with_reducible first | exact HB.out | apply bA_ | apply bN_ | apply bD_ | refine bS_ ?_ GE306.out | refine bS_ ?_ GE378.out | refine bS_ ?_ GE383.out) | exact HB.out)⟩⟩
    as_aux_lemma =>
     clear HC281
     (try clear c2); (try clear p2); (try clear c3); (try clear p3); (try clear q3); (try clear hx3); (try clear c5); (try clear p6); (try clear c28); (try clear c29); (try clear c30); (try clear c31); (try clear q31); (try clear p38); (try clear q38); (try clear hx38); (try clear c58); (try clear p64); (try clear c282); (try clear c290); (try clear c290b0); (try clear c291); (try clear c292); (try clear c306); (try clear c306b0); (try clear c306b1); (try clear c310); (try clear c311); (try clear c313); (try clear c313b0); (try clear c313b1); (try clear q317); (try clear hx388_0); (try clear p388); (try clear q317); try clear q388
     obtain ⟨kq, HA, HJ280, HO_61, HO_65, BK306, BK378, BK383, HB⟩ := hcut
     rcases kq with _ | kj280
     ·exact absurd HA.out (by simp [laws_FnRisersFitOfAll.j6])
     have H := HA.out
     clear HA
     simp only [laws_FnRisersFitOfAll.j6] at H
     have H' := Aside0.mk H
     clear H
     obtain ⟨Ao319, co319, eo319⟩ := Kd.R_slice HO_61.out
     subst eo319
     go_wp2
     go_loopg [529] kj280 (fun kq v529 w' => ∃ (x529_5 : Int), v529 = .int .i64 x529_5 ∧ Aside0 (laws_FnRisersFitOfAll.l1 kq a3 a4 a5 a6 a7 a8 a9 t358 t366 t367 t377 t358 (t358.length : Int) x529_5 t374 t375 t376 = some true) ∧ Aside0 (kq ≤ kj280) ∧ Aside0 (Kd.R k32 32 w' w.heap.size (fun k_ => k_ ≠ gb306 ∧ k_ ≠ gb378 ∧ k_ ≠ gb383) (.slice Ao319 t358.length co319) t358) ∧ Aside0 (Kd.R (Kd.int .i64) 3 w' w.heap.size (fun _ => True) v368 t366) ∧ Aside0 (Kd.R k32 32 w' w.heap.size (fun k_ => k_ ≠ gb306 ∧ k_ ≠ gb378 ∧ k_ ≠ gb383) (.slice Ao319 t358.length co319) t358) ∧ Aside0 (w'.heap[gb306]? = some (.cells #[.int .i64 a0_0, .int .i64 a0_1, .int .i64 a0_2] 32 (0, 0))) ∧ Aside0 (w'.heap[gb378]? = some (.cells #[.int .i64 t374, .int .i64 t375, .int .i64 t376] 32 (0, 0))) ∧ Aside0 (w'.heap[gb383]? = some (.cells #[.int .i64 t379, .int .i64 t380, .int .i64 t381] 32 (0, 0))) ∧ Aside0 (Below w.heap.size w w'))
     case atStart => exact ⟨(0), (by first | rfl | (simp; done) | (simp [*]; done)), H', ⟨Nat.le_refl _⟩, ⟨by (with_reducible repeat (first | apply rA_ | apply rN_ | apply rD_)); exact HO_61.out⟩, ⟨by (with_reducible repeat (first | apply rA_ | apply rN_ | apply rD_)); exact HO_65.out⟩, ⟨by (with_reducible repeat (first | apply rA_ | apply rN_ | apply rD_)); exact HO_61.out⟩, ⟨by (with_reducible repeat (first | refine kN_ ?_ _ | refine kD_ ?_ | refine kA_ ?_ _)); exact BK306.out⟩, ⟨by (with_reducible repeat (first | refine kN_ ?_ _ | refine kD_ ?_ | refine kA_ ?_ _)); exact BK378.out⟩, ⟨by (with_reducible repeat (first | refine kN_ ?_ _ | refine kD_ ?_ | refine kA_ ?_ _)); exact BK383.out⟩, ⟨by repeat (first | (with_reducible first | exact HB.out | apply bA_ | apply bN_ | apply bD_ | refine bS_ ?_ GE306.out | refine bS_ ?_ GE378.out | refine bS_ ?_ GE383.out) | exact HB.out)⟩⟩
     case round =>
      clear H'
      (try clear c2); (try clear p2); (try clear c3); (try clear p3); (try clear q3); (try clear hx3); (try clear c5); (try clear p6); (try clear c28); (try clear c29); (try clear c30); (try clear c31); (try clear q31); (try clear p38); (try clear q38); (try clear hx38); (try clear c58); (try clear p64); (try clear c282); (try clear c290); (try clear c290b0); (try clear c291); (try clear c292); (try clear c306); (try clear c306b0); (try clear c306b1); (try clear c310); (try clear c311); (try clear c313); (try clear c313b0); (try clear c313b1); (try clear q317); (try clear hx388_0); (try clear p2); (try clear p3); (try clear p38); (try clear p388); (try clear p6); (try clear p64); (try clear q3); (try clear q31); (try clear q317); (try clear q38); try clear q388
      obtain ⟨x529_5, rfl, HA, HK5, HO_61, HO_65, HO_527, BK306, BK378, BK383, HB⟩ := hrel
      rcases gk with _ | k5
      ·exact absurd HA.out (by simp [laws_FnRisersFitOfAll.l1])
      have H := HA.out
      clear HA
      simp only [laws_FnRisersFitOfAll.l1] at H
      by_cases c320 : x529_5 < (t358.length : Int)
      ·rw [if_pos c320] at H
       have c320b0 : decide (x529_5 < (t358.length : Int)) = true := decide_eq_true c320
       clear c320
       by_cases c321 : 0 ≤ x529_5
       ·rw [if_pos c321] at H
        have c321b0 : decide (0 ≤ x529_5) = true := decide_eq_true c321
        clear c321
        by_cases c322 : x529_5 < (t358.length : Int)
        ·rw [if_pos c322] at H
         have c322b0 : decide (x529_5 < (t358.length : Int)) = true := decide_eq_true c322
         clear c322
         replace H := Option.bind_eq_some_iff.mp H
         obtain ⟨⟨t401, t402⟩, A3230, H⟩ := H
         try dsimp only at H
         have A323 := Aside0.mk A3230
         clear A3230
         replace H := Option.bind_eq_some_iff.mp H
         obtain ⟨⟨t403, t404⟩, A3240, H⟩ := H
         try dsimp only at H
         have A324 := Aside0.mk A3240
         clear A3240
         replace H := Option.bind_eq_some_iff.mp H
         obtain ⟨⟨t405, t406⟩, A3250, H⟩ := H
         try dsimp only at H
         have A325 := Aside0.mk A3250
         clear A3250
         by_cases c326 : t402 = true
         ·subst c326
          rw [if_pos rfl] at H
          by_cases c327 : t401 = a3
          ·rw [if_pos c327] at H
           have c327b0 : (t401 == a3) = true := beq_iff_eq.mpr c327
           have c327b1 : (t401 != a3) = false := bne_eq_false_iff_eq.mpr c327
           clear c327
           by_cases c328 : t404 = true
           ·subst c328
            rw [if_pos rfl] at H
            by_cases c329 : t403 > a4
            ·rw [if_pos c329] at H
             exact absurd (Option.some.inj H) (by decide)
            rw [if_neg c329] at H
            have c329b0 : decide (a4 < t403) = false := decide_eq_false c329
            clear c329
            by_cases c341 : t406 = true
            ·subst c341
             rw [if_pos rfl] at H
             by_cases c342 : t405 = a5
             ·rw [if_pos c342] at H
              have c342b0 : (t405 == a5) = true := beq_iff_eq.mpr c342
              have c342b1 : (t405 != a5) = false := bne_eq_false_iff_eq.mpr c342
              clear c342
              by_cases c343 : x529_5 > 0
              ·rw [if_pos c343] at H
               have c343b0 : decide (0 < x529_5) = true := decide_eq_true c343
               clear c343
               obtain ⟨ji344, hji344⟩ : ∃ j_ : Int, (wrap64 (x529_5 - 1)) = j_ := ⟨_, rfl⟩
               replace H : (if 0 ≤ (ji344) then (if (ji344) < (t358.length : Int) then (if ((rd_T32 t358 (ji344)).f0) ≥ ((rd_T32 t358 x529_5).f0) then (some false) else (laws_FnRisersFitOfAll.l1 k5 a3 a4 a5 a6 a7 a8 a9 t358 t366 t367 t377 t358 (t358.length : Int) (wrap64 (x529_5 + 1)) t374 t375 t376)) else (none)) else (none)) = some true := by first | (rw [hji344] at H; exact H) | (simp only [hji344] at H ⊢; exact H)
               (try rw [hji344] at A323)
               (try rw [hji344] at A324)
               (try rw [hji344] at A325)
               have hji344w : (IntKind.i64.wrap (x529_5 - 1)) = ji344 := (i64_w _).trans hji344
               by_cases c345 : 0 ≤ (ji344)
               ·rw [if_pos c345] at H
                have c345b0 : decide (0 ≤ (ji344)) = true := decide_eq_true c345
                clear c345
                by_cases c346 : (ji344) < (t358.length : Int)
                ·rw [if_pos c346] at H
                 have c346b0 : decide ((ji344) < (t358.length : Int)) = true := decide_eq_true c346
                 clear c346
                 by_cases c347 : ((rd_T32 t358 (ji344)).f0) ≥ ((rd_T32 t358 x529_5).f0)
                 ·rw [if_pos c347] at H
                  exact absurd (Option.some.inj H) (by decide)
                 rw [if_neg c347] at H
                 have c347b0 : decide (((rd_T32 t358 x529_5).f0) ≤ ((rd_T32 t358 (ji344)).f0)) = false := decide_eq_false c347
                 clear c347
                 have H' := Aside0.mk H
                 clear H
                 have p399 : 0 ≤ (x529_5 : Int) := of_decide_eq_true (by first | (with_reducible assumption) | assumption)
                 have q399 : x529_5 < (t358.length : Int) := of_decide_eq_true (by first | (with_reducible assumption) | assumption)
                 obtain ⟨ad399, e399, hx399_0, hx399_1, hx399_2⟩ := at_T32 (rR_ HO_527.out).2.2 x529_5 p399 q399
                 cases e399
                 replace p399 := eq_true p399
                 replace q399 := eq_true q399
                 try go_wp2_with (first | ((with_reducible refine gate_dst (N := 76) rfl ?_); refine box_event ?hg (N := 76) ?hd (cs := #[.int .i64 0, .int .i64 0, .int .i64 0]) (t := 32) ?hr ?_; (case hd => rfl); (case hg => rfl); (case hr => first | (go_simp; done) | (go_simp; rfl)); intro gb400 hg w359 hbox hb; have n0_ := Aside0.mk (rB_ (Kd.R_elderB (by (with_reducible repeat (first | apply rA_ | apply rN_ | apply rD_)); exact HO_61.out) gb400 (Nat.le_of_eq hg.symm)) hb); have n1_ := Aside0.mk (rB_ (by (with_reducible repeat (first | apply rA_ | apply rN_ | apply rD_)); exact HO_65.out) hb); have n2_ := Aside0.mk (rB_ (Kd.R_elderB (by (with_reducible repeat (first | apply rA_ | apply rN_ | apply rD_)); exact HO_527.out) gb400 (Nat.le_of_eq hg.symm)) hb); have n3_ := Aside0.mk (blk_below (g := gb306) (o := .cells #[.int .i64 a0_0, .int .i64 a0_1, .int .i64 a0_2] 32 (0, 0)) (by (with_reducible repeat (first | refine kN_ ?_ _ | refine kD_ ?_ | refine kA_ ?_ _)); exact BK306.out) hb); have n4_ := Aside0.mk (blk_below (g := gb378) (o := .cells #[.int .i64 t374, .int .i64 t375, .int .i64 t376] 32 (0, 0)) (by (with_reducible repeat (first | refine kN_ ?_ _ | refine kD_ ?_ | refine kA_ ?_ _)); exact BK378.out) hb); have n5_ := Aside0.mk (blk_below (g := gb383) (o := .cells #[.int .i64 t379, .int .i64 t380, .int .i64 t381] 32 (0, 0)) (by (with_reducible repeat (first | refine kN_ ?_ _ | refine kD_ ?_ | refine kA_ ?_ _)); exact BK383.out) hb); have n6_ := Aside0.mk (below_step (by repeat (first | (with_reducible first | exact HB.out | apply bA_ | apply bN_ | apply bD_ | refine bS_ ?_ GE306.out | refine bS_ ?_ GE378.out | refine bS_ ?_ GE383.out) | exact HB.out)) hb); have n7_ := Aside0.mk (hbox); have n8_ := Aside0.mk ((by rw [hg]; exact (below_size (by repeat (first | (with_reducible first | exact HB.out | apply bA_ | apply bN_ | apply bD_ | refine bS_ ?_ GE306.out | refine bS_ ?_ GE378.out | refine bS_ ?_ GE383.out) | exact HB.out))) : w.heap.size ≤ gb400)); have n9_ := Aside0.mk ((by rw [hg]; exact (below_size (by repeat (first | (with_reducible first | exact HB.out | apply bA_ | apply bN_ | apply bD_ | refine bS_ ?_ GE306.out | refine bS_ ?_ GE378.out | refine bS_ ?_ GE383.out) | exact HB.out))) : w.heap.size ≤ gb400)); have n10_ := Aside0.mk ((by rw [hg]; exact Nat.ne_of_lt (blk_lt (g := gb306) (o := .cells #[.int .i64 a0_0, .int .i64 a0_1, .int .i64 a0_2] 32 (0, 0)) (by (with_reducible repeat (first | refine kN_ ?_ _ | refine kD_ ?_ | refine kA_ ?_ _)); exact BK306.out)) : gb306 ≠ gb400)); have n11_ := Aside0.mk ((by rw [hg]; exact Nat.ne_of_gt (blk_lt (g := gb306) (o := .cells #[.int .i64 a0_0, .int .i64 a0_1, .int .i64 a0_2] 32 (0, 0)) (by (with_reducible repeat (first | refine kN_ ?_ _ | refine kD_ ?_ | refine kA_ ?_ _)); exact BK306.out)) : gb400 ≠ gb306)); have n12_ := Aside0.mk ((by rw [hg]; exact Nat.ne_of_lt (blk_lt (g := gb378) (o := .cells #[.int .i64 t374, .int .i64 t375, .int .i64 t376] 32 (0, 0)) (by (with_reducible repeat (first | refine kN_ ?_ _ | refine kD_ ?_ | refine kA_ ?_ _)); exact BK378.out)) : gb378 ≠ gb400)); have n13_ := Aside0.mk ((by rw [hg]; exact Nat.ne_of_gt (blk_lt (g := gb378) (o := .cells #[.int .i64 t374, .int .i64 t375, .int .i64 t376] 32 (0, 0)) (by (with_reducible repeat (first | refine kN_ ?_ _ | refine kD_ ?_ | refine kA_ ?_ _)); exact BK378.out)) : gb400 ≠ gb378)); have n14_ := Aside0.mk ((by rw [hg]; exact Nat.ne_of_lt (blk_lt (g := gb383) (o := .cells #[.int .i64 t379, .int .i64 t380, .int .i64 t381] 32 (0, 0)) (by (with_reducible repeat (first | refine kN_ ?_ _ | refine kD_ ?_ | refine kA_ ?_ _)); exact BK383.out)) : gb383 ≠ gb400)); have n15_ := Aside0.mk ((by rw [hg]; exact Nat.ne_of_gt (blk_lt (g := gb383) (o := .cells #[.int .i64 t379, .int .i64 t380, .int .i64 t381] 32 (0, 0)) (by (with_reducible repeat (first | refine kN_ ?_ _ | refine kD_ ?_ | refine kA_ ?_ _)); exact BK383.out)) : gb400 ≠ gb383)); clear HO_61; clear HO_65; clear HO_527; clear BK306; clear BK378; clear BK383; clear HB; have HO_61 := n0_; have HO_65 := n1_; have HO_527 := n2_; have BK306 := n3_; have BK378 := n4_; have BK383 := n5_; have HB := n6_; have BK400 := n7_; have GW400 := n8_; have GE400 := n9_; have NB306_400 := n10_; have NB400_306 := n11_; have NB378_400 := n12_; have NB400_378 := n13_; have NB383_400 := n14_; have NB400_383 := n15_; clear n0_ n1_ n2_ n3_ n4_ n5_ n6_ n7_ n8_ n9_ n10_ n11_ n12_ n13_ n14_ n15_; clear hb hbox hg; have hnb360 := NB400_306.out; have hnc360 := NB306_400.out; have hnb361 := NB400_378.out; have hnc361 := NB378_400.out; have hnb362 := NB400_383.out; have hnc362 := NB383_400.out; have hcz363_0 : w359.cell? ⟨gb400, 0, none⟩ = some (.int .i64 0) := (blk_cell BK400.out 0).trans rfl; have hcz363_1 : w359.cell? ⟨gb400, 1, none⟩ = some (.int .i64 0) := (blk_cell BK400.out 1).trans rfl; have hcz363_2 : w359.cell? ⟨gb400, 2, none⟩ = some (.int .i64 0) := (blk_cell BK400.out 2).trans rfl; have hfz363_0 := blk_frozen BK400.out 0; have hfz363_1 := blk_frozen BK400.out 1; have hfz363_2 := blk_frozen BK400.out 2) | ((with_reducible refine gate_callee (f := 35) rfl ?_); refine goesL_ (some 536) rfl rfl Tryd.func35 (by kernel_rfl) rfl #[.agg #[.int .i64 ((rd_T32 t358 x529_5).f0), .int .i64 ((rd_T32 t358 x529_5).f1), .int .i64 ((rd_T32 t358 x529_5).f2)]] rfl (by (try simp only [List.map_toArray, List.map_cons, List.map_nil]); first | done | rfl | (simp only [List.length_drop, List.length_take]; rfl)) ?_; (with_reducible refine (impl_HeightOf.calls ((rd_T32 t358 x529_5).f0) ((rd_T32 t358 x529_5).f1) ((rd_T32 t358 x529_5).f2) t401 true _ A323.out).mono ?_); rintro e w364 ⟨rfl, hb⟩; refine ⟨_, rfl, ?_⟩; have n0_ := Aside0.mk (rB_ (by (with_reducible repeat (first | apply rA_ | apply rN_ | apply rD_)); exact (rM_ (rF_ (p := ⟨gb400, 2, none⟩) (rF_ (p := ⟨gb400, 1, none⟩) (rF_ (p := ⟨gb400, 0, none⟩) (rM_ HO_61.out (fun k_ hk => (⟨hk, hk.2⟩ : _ ∧ k_ ≠ gb400))) (fun _ hk => hk.2) (.int .i64 ((rd_T32 t358 x529_5).f0))) (fun _ hk => hk.2) (.int .i64 ((rd_T32 t358 x529_5).f1))) (fun _ hk => hk.2) (.int .i64 ((rd_T32 t358 x529_5).f2))) (fun _ h_ => h_.1))) hb); have n1_ := Aside0.mk (rB_ (by (with_reducible repeat (first | apply rA_ | apply rN_ | apply rD_)); exact (rM_ (rF_ (p := ⟨gb400, 2, none⟩) (rF_ (p := ⟨gb400, 1, none⟩) (rF_ (p := ⟨gb400, 0, none⟩) (Kd.R_types HO_65.out BK400.out (by decide)) (fun _ hk => hk.2) (.int .i64 ((rd_T32 t358 x529_5).f0))) (fun _ hk => hk.2) (.int .i64 ((rd_T32 t358 x529_5).f1))) (fun _ hk => hk.2) (.int .i64 ((rd_T32 t358 x529_5).f2))) (fun _ h_ => h_.1))) hb); have n2_ := Aside0.mk (rB_ (by (with_reducible repeat (first | apply rA_ | apply rN_ | apply rD_)); exact (rM_ (rF_ (p := ⟨gb400, 2, none⟩) (rF_ (p := ⟨gb400, 1, none⟩) (rF_ (p := ⟨gb400, 0, none⟩) (rM_ HO_527.out (fun k_ hk => (⟨hk, hk.2⟩ : _ ∧ k_ ≠ gb400))) (fun _ hk => hk.2) (.int .i64 ((rd_T32 t358 x529_5).f0))) (fun _ hk => hk.2) (.int .i64 ((rd_T32 t358 x529_5).f1))) (fun _ hk => hk.2) (.int .i64 ((rd_T32 t358 x529_5).f2))) (fun _ h_ => h_.1))) hb); have n3_ := Aside0.mk (blk_below (g := gb306) (o := .cells #[.int .i64 a0_0, .int .i64 a0_1, .int .i64 a0_2] 32 (0, 0)) (by (with_reducible repeat (first | refine kN_ ?_ _ | refine kD_ ?_ | refine kA_ ?_ _)); refine blk_far ?_ NB306_400.out _; (with_reducible repeat (first | refine kN_ ?_ _ | refine kD_ ?_ | refine kA_ ?_ _)); refine blk_far ?_ NB306_400.out _; (with_reducible repeat (first | refine kN_ ?_ _ | refine kD_ ?_ | refine kA_ ?_ _)); refine blk_far ?_ NB306_400.out _; (with_reducible repeat (first | refine kN_ ?_ _ | refine kD_ ?_ | refine kA_ ?_ _)); exact BK306.out) hb); have n4_ := Aside0.mk (blk_below (g := gb378) (o := .cells #[.int .i64 t374, .int .i64 t375, .int .i64 t376] 32 (0, 0)) (by (with_reducible repeat (first | refine kN_ ?_ _ | refine kD_ ?_ | refine kA_ ?_ _)); refine blk_far ?_ NB378_400.out _; (with_reducible repeat (first | refine kN_ ?_ _ | refine kD_ ?_ | refine kA_ ?_ _)); refine blk_far ?_ NB378_400.out _; (with_reducible repeat (first | refine kN_ ?_ _ | refine kD_ ?_ | refine kA_ ?_ _)); refine blk_far ?_ NB378_400.out _; (with_reducible repeat (first | refine kN_ ?_ _ | refine kD_ ?_ | refine kA_ ?_ _)); exact BK378.out) hb); have n5_ := Aside0.mk (blk_below (g := gb383) (o := .cells #[.int .i64 t379, .int .i64 t380, .int .i64 t381] 32 (0, 0)) (by (with_reducible repeat (first | refine kN_ ?_ _ | refine kD_ ?_ | refine kA_ ?_ _)); refine blk_far ?_ NB383_400.out _; (with_reducible repeat (first | refine kN_ ?_ _ | refine kD_ ?_ | refine kA_ ?_ _)); refine blk_far ?_ NB383_400.out _; (with_reducible repeat (first | refine kN_ ?_ _ | refine kD_ ?_ | refine kA_ ?_ _)); refine blk_far ?_ NB383_400.out _; (with_reducible repeat (first | refine kN_ ?_ _ | refine kD_ ?_ | refine kA_ ?_ _)); exact BK383.out) hb); have n6_ := Aside0.mk (blk_below (g := gb400) (o := .cells #[.int .i64 ((rd_T32 t358 x529_5).f0), .int .i64 ((rd_T32 t358 x529_5).f1), .int .i64 ((rd_T32 t358 x529_5).f2)] 32 (0, 0)) (by (with_reducible repeat (first | refine kN_ ?_ _ | refine kD_ ?_ | refine kA_ ?_ _)); refine blk_put (cs := #[.int .i64 ((rd_T32 t358 x529_5).f0), .int .i64 ((rd_T32 t358 x529_5).f1), .int .i64 0]) ?_ 2 _ rfl; (with_reducible repeat (first | refine kN_ ?_ _ | refine kD_ ?_ | refine kA_ ?_ _)); refine blk_put (cs := #[.int .i64 ((rd_T32 t358 x529_5).f0), .int .i64 0, .int .i64 0]) ?_ 1 _ rfl; (with_reducible repeat (first | refine kN_ ?_ _ | refine kD_ ?_ | refine kA_ ?_ _)); refine blk_put (cs := #[.int .i64 0, .int .i64 0, .int .i64 0]) ?_ 0 _ rfl; (with_reducible repeat (first | refine kN_ ?_ _ | refine kD_ ?_ | refine kA_ ?_ _)); exact BK400.out) hb); have n7_ := Aside0.mk (below_step (by repeat (first | (with_reducible first | exact HB.out | apply bA_ | apply bN_ | apply bD_ | refine bS_ ?_ GE306.out | refine bS_ ?_ GE378.out | refine bS_ ?_ GE383.out | refine bS_ ?_ GE400.out) | exact HB.out)) hb); clear HO_61; clear HO_65; clear HO_527; clear BK306; clear BK378; clear BK383; clear BK400; clear HB; have HO_61 := n0_; have HO_65 := n1_; have HO_527 := n2_; have BK306 := n3_; have BK378 := n4_; have BK383 := n5_; have BK400 := n6_; have HB := n7_; clear n0_ n1_ n2_ n3_ n4_ n5_ n6_ n7_; (try clear hb); (try clear hb2); (try clear hk); (try clear hi); have hcz365_0 : w364.cell? ⟨gb400, 0, none⟩ = some (.int .i64 ((rd_T32 t358 x529_5).f0)) := (blk_cell BK400.out 0).trans rfl; have hcz365_1 : w364.cell? ⟨gb400, 1, none⟩ = some (.int .i64 ((rd_T32 t358 x529_5).f1)) := (blk_cell BK400.out 1).trans rfl; have hcz365_2 : w364.cell? ⟨gb400, 2, none⟩ = some (.int .i64 ((rd_T32 t358 x529_5).f2)) := (blk_cell BK400.out 2).trans rfl; have hfz365_0 := blk_frozen BK400.out 0; have hfz365_1 := blk_frozen BK400.out 1; have hfz365_2 := blk_frozen BK400.out 2) | ((with_reducible refine gate_callee (f := 37) rfl ?_); refine goesL_ (some 541) rfl rfl Tryd.func37 (by kernel_rfl) rfl #[.agg #[.int .i64 ((rd_T32 t358 x529_5).f0), .int .i64 ((rd_T32 t358 x529_5).f1), .int .i64 ((rd_T32 t358 x529_5).f2)]] rfl (by (try simp only [List.map_toArray, List.map_cons, List.map_nil]); first | done | rfl | (simp only [List.length_drop, List.length_take]; rfl)) ?_; (with_reducible refine (impl_RunOf.calls ((rd_T32 t358 x529_5).f0) ((rd_T32 t358 x529_5).f1) ((rd_T32 t358 x529_5).f2) t403 true _ A324.out).mono ?_); rintro e w366 ⟨rfl, hb⟩; refine ⟨_, rfl, ?_⟩; have n0_ := Aside0.mk (rB_ (by (with_reducible repeat (first | apply rA_ | apply rN_ | apply rD_)); exact HO_61.out) hb); have n1_ := Aside0.mk (rB_ (by (with_reducible repeat (first | apply rA_ | apply rN_ | apply rD_)); exact HO_65.out) hb); have n2_ := Aside0.mk (rB_ (by (with_reducible repeat (first | apply rA_ | apply rN_ | apply rD_)); exact HO_527.out) hb); have n3_ := Aside0.mk (blk_below (g := gb306) (o := .cells #[.int .i64 a0_0, .int .i64 a0_1, .int .i64 a0_2] 32 (0, 0)) (by (with_reducible repeat (first | refine kN_ ?_ _ | refine kD_ ?_ | refine kA_ ?_ _)); exact BK306.out) hb); have n4_ := Aside0.mk (blk_below (g := gb378) (o := .cells #[.int .i64 t374, .int .i64 t375, .int .i64 t376] 32 (0, 0)) (by (with_reducible repeat (first | refine kN_ ?_ _ | refine kD_ ?_ | refine kA_ ?_ _)); exact BK378.out) hb); have n5_ := Aside0.mk (blk_below (g := gb383) (o := .cells #[.int .i64 t379, .int .i64 t380, .int .i64 t381] 32 (0, 0)) (by (with_reducible repeat (first | refine kN_ ?_ _ | refine kD_ ?_ | refine kA_ ?_ _)); exact BK383.out) hb); have n6_ := Aside0.mk (blk_below (g := gb400) (o := .cells #[.int .i64 ((rd_T32 t358 x529_5).f0), .int .i64 ((rd_T32 t358 x529_5).f1), .int .i64 ((rd_T32 t358 x529_5).f2)] 32 (0, 0)) (by (with_reducible repeat (first | refine kN_ ?_ _ | refine kD_ ?_ | refine kA_ ?_ _)); exact BK400.out) hb); have n7_ := Aside0.mk (below_step (by repeat (first | (with_reducible first | exact HB.out | apply bA_ | apply bN_ | apply bD_ | refine bS_ ?_ GE306.out | refine bS_ ?_ GE378.out | refine bS_ ?_ GE383.out | refine bS_ ?_ GE400.out) | exact HB.out)) hb); clear HO_61; clear HO_65; clear HO_527; clear BK306; clear BK378; clear BK383; clear BK400; clear HB; have HO_61 := n0_; have HO_65 := n1_; have HO_527 := n2_; have BK306 := n3_; have BK378 := n4_; have BK383 := n5_; have BK400 := n6_; have HB := n7_; clear n0_ n1_ n2_ n3_ n4_ n5_ n6_ n7_; (try clear hb); (try clear hb2); (try clear hk); (try clear hi); have hcz367_0 : w366.cell? ⟨gb400, 0, none⟩ = some (.int .i64 ((rd_T32 t358 x529_5).f0)) := (blk_cell BK400.out 0).trans rfl; have hcz367_1 : w366.cell? ⟨gb400, 1, none⟩ = some (.int .i64 ((rd_T32 t358 x529_5).f1)) := (blk_cell BK400.out 1).trans rfl; have hcz367_2 : w366.cell? ⟨gb400, 2, none⟩ = some (.int .i64 ((rd_T32 t358 x529_5).f2)) := (blk_cell BK400.out 2).trans rfl; have hfz367_0 := blk_frozen BK400.out 0; have hfz367_1 := blk_frozen BK400.out 1; have hfz367_2 := blk_frozen BK400.out 2) | ((with_reducible refine gate_callee (f := 41) rfl ?_); refine goesL_ (some 546) rfl rfl Tryd.func41 (by kernel_rfl) rfl #[.agg #[.int .i64 ((rd_T32 t358 x529_5).f0), .int .i64 ((rd_T32 t358 x529_5).f1), .int .i64 ((rd_T32 t358 x529_5).f2)]] rfl (by (try simp only [List.map_toArray, List.map_cons, List.map_nil]); first | done | rfl | (simp only [List.length_drop, List.length_take]; rfl)) ?_; (with_reducible refine (impl_PaceSum.calls ((rd_T32 t358 x529_5).f0) ((rd_T32 t358 x529_5).f1) ((rd_T32 t358 x529_5).f2) t405 true _ A325.out).mono ?_); rintro e w368 ⟨rfl, hb⟩; refine ⟨_, rfl, ?_⟩; have n0_ := Aside0.mk (rB_ (by (with_reducible repeat (first | apply rA_ | apply rN_ | apply rD_)); exact HO_61.out) hb); have n1_ := Aside0.mk (rB_ (by (with_reducible repeat (first | apply rA_ | apply rN_ | apply rD_)); exact HO_65.out) hb); have n2_ := Aside0.mk (rB_ (by (with_reducible repeat (first | apply rA_ | apply rN_ | apply rD_)); exact HO_527.out) hb); have n3_ := Aside0.mk (blk_below (g := gb306) (o := .cells #[.int .i64 a0_0, .int .i64 a0_1, .int .i64 a0_2] 32 (0, 0)) (by (with_reducible repeat (first | refine kN_ ?_ _ | refine kD_ ?_ | refine kA_ ?_ _)); exact BK306.out) hb); have n4_ := Aside0.mk (blk_below (g := gb378) (o := .cells #[.int .i64 t374, .int .i64 t375, .int .i64 t376] 32 (0, 0)) (by (with_reducible repeat (first | refine kN_ ?_ _ | refine kD_ ?_ | refine kA_ ?_ _)); exact BK378.out) hb); have n5_ := Aside0.mk (blk_below (g := gb383) (o := .cells #[.int .i64 t379, .int .i64 t380, .int .i64 t381] 32 (0, 0)) (by (with_reducible repeat (first | refine kN_ ?_ _ | refine kD_ ?_ | refine kA_ ?_ _)); exact BK383.out) hb); have n6_ := Aside0.mk (blk_below (g := gb400) (o := .cells #[.int .i64 ((rd_T32 t358 x529_5).f0), .int .i64 ((rd_T32 t358 x529_5).f1), .int .i64 ((rd_T32 t358 x529_5).f2)] 32 (0, 0)) (by (with_reducible repeat (first | refine kN_ ?_ _ | refine kD_ ?_ | refine kA_ ?_ _)); exact BK400.out) hb); have n7_ := Aside0.mk (below_step (by repeat (first | (with_reducible first | exact HB.out | apply bA_ | apply bN_ | apply bD_ | refine bS_ ?_ GE306.out | refine bS_ ?_ GE378.out | refine bS_ ?_ GE383.out | refine bS_ ?_ GE400.out) | exact HB.out)) hb); clear HO_61; clear HO_65; clear HO_527; clear BK306; clear BK378; clear BK383; clear BK400; clear HB; have HO_61 := n0_; have HO_65 := n1_; have HO_527 := n2_; have BK306 := n3_; have BK378 := n4_; have BK383 := n5_; have BK400 := n6_; have HB := n7_; clear n0_ n1_ n2_ n3_ n4_ n5_ n6_ n7_; (try clear hb); (try clear hb2); (try clear hk); (try clear hi)))
                 have n0_ := Aside0.mk (rD_ HO_61.out)
                 have n1_ := Aside0.mk (rD_ HO_65.out)
                 have n2_ := Aside0.mk (rD_ HO_527.out)
                 have n3_ := Aside0.mk (kD_ BK306.out)
                 have n4_ := Aside0.mk (kD_ BK378.out)
                 have n5_ := Aside0.mk (kD_ BK383.out)
                 have n6_ := Aside0.mk (kD_ BK400.out)
                 have n7_ := Aside0.mk (bD_ HB.out)
                 clear HO_61
                 clear HO_65
                 clear HO_527
                 clear BK306
                 clear BK378
                 clear BK383
                 clear BK400
                 clear HB
                 have HO_61 := n0_
                 have HO_65 := n1_
                 have HO_527 := n2_
                 have BK306 := n3_
                 have BK378 := n4_
                 have BK383 := n5_
                 have BK400 := n6_
                 have HB := n7_
                 clear n0_ n1_ n2_ n3_ n4_ n5_ n6_ n7_
                 have p407 : 0 ≤ ((ji344) : Int) := of_decide_eq_true (by first | (with_reducible assumption) | assumption)
                 have q407 : (ji344) < (t358.length : Int) := of_decide_eq_true (by first | (with_reducible assumption) | assumption)
                 obtain ⟨ad407, e407, hx407_0, hx407_1, hx407_2⟩ := at_T32 (rR_ HO_61.out).2.2 (ji344) p407 q407
                 obtain rfl : ad399 = ad407 := (by injection e407)
                 replace p407 := eq_true p407
                 replace q407 := eq_true q407
                 as_aux_lemma =>
                  refine start_ (n := 40) (S := fun w' => w'.cell? ⟨gb400, 0, none⟩ = some (.int .i64 ((rd_T32 t358 x529_5).f0)) ∧ w'.cell? ⟨gb400, 1, none⟩ = some (.int .i64 ((rd_T32 t358 x529_5).f1)) ∧ w'.cell? ⟨gb400, 2, none⟩ = some (.int .i64 ((rd_T32 t358 x529_5).f2)) ∧ w'.cell? (ad399.add (((ji344)).toNat * 3)) = some (.int .i64 ((rd_T32 t358 (ji344)).f0)) ∧ w'.cell? ⟨(ad399.add (((ji344)).toNat * 3)).block, (ad399.add (((ji344)).toNat * 3)).off + 1, none⟩ = some (.int .i64 ((rd_T32 t358 (ji344)).f1)) ∧ w'.cell? ⟨(ad399.add (((ji344)).toNat * 3)).block, (ad399.add (((ji344)).toNat * 3)).off + 2, none⟩ = some (.int .i64 ((rd_T32 t358 (ji344)).f2))) (ds := []) (bs 40 0) (by kernel_rfl) rfl (by kernel_rfl) ⟨(blk_cell BK400.out 0).trans rfl, (blk_cell BK400.out 1).trans rfl, (blk_cell BK400.out 2).trans rfl, hx407_0, hx407_1, hx407_2⟩ (fun hHeld => ?_); refine with_tabW laws_FnRisersFitOfAll.tab52 laws_FnRisersFitOfAll.bits52 (fun HT_ HW_ => ?_)
                  generalize w368.drew = w369 at HO_61 HO_65 HO_527 BK306 BK378 BK383 BK400 HB hx407_0 hx407_1 hx407_2 hHeld ⊢
                  refine sL_ 40 [(0, 549, 1), (1, 550, 3), (2, 551, 7), (3, 552, 15), (4, 553, 31), (5, 554, 63), (6, 555, 127), (7, 556, 255), (8, 557, 511), (9, 558, 1023), (10, 559, 2047), (11, 560, 4095), (12, 561, 8191), (13, 562, 16383), (14, 563, 32767), (15, 564, 65535), (16, 565, 131071), (17, 566, 262143), (18, 567, 524287), (19, 568, 1048575), (20, 569, 2097151), (21, 570, 4194303), (22, 571, 8388607), (23, 572, 16777215), (24, 573, 33554431), (25, 574, 67108863), (26, 575, 134217727), (27, 576, 268435455), (28, 577, 536870911), (29, 578, 1073741823), (30, 579, 2147483647), (31, 580, 4294967295), (32, 581, 8589934591), (33, 582, 17179869183), (35, 584, 51539607551), (34, 583, 68719476735), (36, 585, 137438953471), (37, 586, 274877906943), (38, 587, 549755813887), (39, 588, 1099511627775)] ?_
                  iterate 35 (refine pL_ (v := ?_) (a' := ?_) rfl (any_of HT_.out (by kernel_rfl)) (fun _ _ _ h => h) (Or.inl ⟨by rfl, ?_⟩) ?_ ?_; rotate_left; (· (intro w'; first | ((with_reducible apply ym_); (conv => lhs; whnf)) | ((with_reducible apply yb_); (conv => lhs; whnf); (conv => lhs; whnf); go_simp; (with_reducible rfl)) | ((with_reducible apply yp_); (conv => lhs; whnf); (conv => lhs; whnf); (conv => lhs; whnf); go_simp; (with_reducible rfl)) | (go_simp; with_reducible rfl))); rotate_left; (· (simp only [Act.put, List.setIfInBounds_toArray, List.set_cons_zero, List.set_cons_succ, i64_w, i32_w]; rfl)))
                  refine tL_ (v := ?_) (a' := ?_) rfl (take_ofW HT_.out HW_.out (by kernel_rfl)) (fun _ _ _ h => h) (Or.inl ⟨by rfl, ?_⟩) hHeld ?_ ?_
                  rotate_left
                  ·rintro w' ⟨s0, s1, s2, s3, s4, s5⟩
                   go_simp
                   with_reducible rfl
                  rotate_left
                  ·simp only [Act.put, List.setIfInBounds_toArray, List.set_cons_zero, List.set_cons_succ, i64_w, i32_w]; rfl
                  refine tL_ (v := ?_) (a' := ?_) rfl (take_ofW HT_.out HW_.out (by kernel_rfl)) (fun _ _ _ h => h) (Or.inl ⟨by rfl, ?_⟩) hHeld ?_ ?_
                  rotate_left
                  ·rintro w' ⟨s0, s1, s2, s3, s4, s5⟩
                   go_simp
                   with_reducible rfl
                  rotate_left
                  ·simp only [Act.put, List.setIfInBounds_toArray, List.set_cons_zero, List.set_cons_succ, i64_w, i32_w]; rfl
                  iterate 3 (refine pL_ (v := ?_) (a' := ?_) rfl (any_of HT_.out (by kernel_rfl)) (fun _ _ _ h => h) (Or.inl ⟨by rfl, ?_⟩) ?_ ?_; rotate_left; (· (intro w'; first | ((with_reducible apply ym_); (conv => lhs; whnf)) | ((with_reducible apply yb_); (conv => lhs; whnf); (conv => lhs; whnf); go_simp; (with_reducible rfl)) | ((with_reducible apply yp_); (conv => lhs; whnf); (conv => lhs; whnf); (conv => lhs; whnf); go_simp; (with_reducible rfl)) | (go_simp; with_reducible rfl))); rotate_left; (· (simp only [Act.put, List.setIfInBounds_toArray, List.set_cons_zero, List.set_cons_succ, i64_w, i32_w]; rfl)))
                  refine dL_ (done_of HT_.out (by kernel_rfl)) ?_
                  try go_wp2
                  go_roundg k5
                  case measure => have := HJ26.out; have := HJ132.out; have := HJ218.out; have := HJ280.out; have := HK5.out; omega
                  case rel => exact ⟨(wrap64 (x529_5 + 1)), (by first | rfl | (simp; done) | (simp [*]; done)), H', ⟨by have := HJ26.out; have := HJ132.out; have := HJ218.out; have := HJ280.out; have := HK5.out; omega⟩, ⟨by (with_reducible repeat (first | apply rA_ | apply rN_ | apply rD_)); exact rM_ HO_61.out (fun _ hk => ⟨hk.1.1, ⟨hk.1.2.1, hk.1.2.2⟩⟩)⟩, ⟨by (with_reducible repeat (first | apply rA_ | apply rN_ | apply rD_)); exact HO_65.out⟩, ⟨by (with_reducible repeat (first | apply rA_ | apply rN_ | apply rD_)); exact rM_ HO_527.out (fun _ hk => ⟨hk.1.1, ⟨hk.1.2.1, hk.1.2.2⟩⟩)⟩, ⟨by (with_reducible repeat (first | refine kN_ ?_ _ | refine kD_ ?_ | refine kA_ ?_ _)); exact BK306.out⟩, ⟨by (with_reducible repeat (first | refine kN_ ?_ _ | refine kD_ ?_ | refine kA_ ?_ _)); exact BK378.out⟩, ⟨by (with_reducible repeat (first | refine kN_ ?_ _ | refine kD_ ?_ | refine kA_ ?_ _)); exact BK383.out⟩, ⟨by repeat (first | (with_reducible first | exact HB.out | apply bA_ | apply bN_ | apply bD_ | refine bS_ ?_ GE306.out | refine bS_ ?_ GE378.out | refine bS_ ?_ GE383.out | refine bS_ ?_ GE400.out) | exact HB.out)⟩⟩
                rw [if_neg c346] at H
                exact absurd H (by simp)
               rw [if_neg c345] at H
               exact absurd H (by simp)
              rw [if_neg c343] at H
              have c343b0 : decide (0 < x529_5) = false := decide_eq_false c343
              clear c343
              have H' := Aside0.mk H
              clear H
              have p399 : 0 ≤ (x529_5 : Int) := of_decide_eq_true (by first | (with_reducible assumption) | assumption)
              have q399 : x529_5 < (t358.length : Int) := of_decide_eq_true (by first | (with_reducible assumption) | assumption)
              obtain ⟨ad399, e399, hx399_0, hx399_1, hx399_2⟩ := at_T32 (rR_ HO_527.out).2.2 x529_5 p399 q399
              cases e399
              replace p399 := eq_true p399
              replace q399 := eq_true q399
              try go_wp2_with (first | ((with_reducible refine gate_dst (N := 76) rfl ?_); refine box_event ?hg (N := 76) ?hd (cs := #[.int .i64 0, .int .i64 0, .int .i64 0]) (t := 32) ?hr ?_; (case hd => rfl); (case hg => rfl); (case hr => first | (go_simp; done) | (go_simp; rfl)); intro gb400 hg w370 hbox hb; have n0_ := Aside0.mk (rB_ (Kd.R_elderB (by (with_reducible repeat (first | apply rA_ | apply rN_ | apply rD_)); exact HO_61.out) gb400 (Nat.le_of_eq hg.symm)) hb); have n1_ := Aside0.mk (rB_ (by (with_reducible repeat (first | apply rA_ | apply rN_ | apply rD_)); exact HO_65.out) hb); have n2_ := Aside0.mk (rB_ (Kd.R_elderB (by (with_reducible repeat (first | apply rA_ | apply rN_ | apply rD_)); exact HO_527.out) gb400 (Nat.le_of_eq hg.symm)) hb); have n3_ := Aside0.mk (blk_below (g := gb306) (o := .cells #[.int .i64 a0_0, .int .i64 a0_1, .int .i64 a0_2] 32 (0, 0)) (by (with_reducible repeat (first | refine kN_ ?_ _ | refine kD_ ?_ | refine kA_ ?_ _)); exact BK306.out) hb); have n4_ := Aside0.mk (blk_below (g := gb378) (o := .cells #[.int .i64 t374, .int .i64 t375, .int .i64 t376] 32 (0, 0)) (by (with_reducible repeat (first | refine kN_ ?_ _ | refine kD_ ?_ | refine kA_ ?_ _)); exact BK378.out) hb); have n5_ := Aside0.mk (blk_below (g := gb383) (o := .cells #[.int .i64 t379, .int .i64 t380, .int .i64 t381] 32 (0, 0)) (by (with_reducible repeat (first | refine kN_ ?_ _ | refine kD_ ?_ | refine kA_ ?_ _)); exact BK383.out) hb); have n6_ := Aside0.mk (below_step (by repeat (first | (with_reducible first | exact HB.out | apply bA_ | apply bN_ | apply bD_ | refine bS_ ?_ GE306.out | refine bS_ ?_ GE378.out | refine bS_ ?_ GE383.out) | exact HB.out)) hb); have n7_ := Aside0.mk (hbox); have n8_ := Aside0.mk ((by rw [hg]; exact (below_size (by repeat (first | (with_reducible first | exact HB.out | apply bA_ | apply bN_ | apply bD_ | refine bS_ ?_ GE306.out | refine bS_ ?_ GE378.out | refine bS_ ?_ GE383.out) | exact HB.out))) : w.heap.size ≤ gb400)); have n9_ := Aside0.mk ((by rw [hg]; exact (below_size (by repeat (first | (with_reducible first | exact HB.out | apply bA_ | apply bN_ | apply bD_ | refine bS_ ?_ GE306.out | refine bS_ ?_ GE378.out | refine bS_ ?_ GE383.out) | exact HB.out))) : w.heap.size ≤ gb400)); have n10_ := Aside0.mk ((by rw [hg]; exact Nat.ne_of_lt (blk_lt (g := gb306) (o := .cells #[.int .i64 a0_0, .int .i64 a0_1, .int .i64 a0_2] 32 (0, 0)) (by (with_reducible repeat (first | refine kN_ ?_ _ | refine kD_ ?_ | refine kA_ ?_ _)); exact BK306.out)) : gb306 ≠ gb400)); have n11_ := Aside0.mk ((by rw [hg]; exact Nat.ne_of_gt (blk_lt (g := gb306) (o := .cells #[.int .i64 a0_0, .int .i64 a0_1, .int .i64 a0_2] 32 (0, 0)) (by (with_reducible repeat (first | refine kN_ ?_ _ | refine kD_ ?_ | refine kA_ ?_ _)); exact BK306.out)) : gb400 ≠ gb306)); have n12_ := Aside0.mk ((by rw [hg]; exact Nat.ne_of_lt (blk_lt (g := gb378) (o := .cells #[.int .i64 t374, .int .i64 t375, .int .i64 t376] 32 (0, 0)) (by (with_reducible repeat (first | refine kN_ ?_ _ | refine kD_ ?_ | refine kA_ ?_ _)); exact BK378.out)) : gb378 ≠ gb400)); have n13_ := Aside0.mk ((by rw [hg]; exact Nat.ne_of_gt (blk_lt (g := gb378) (o := .cells #[.int .i64 t374, .int .i64 t375, .int .i64 t376] 32 (0, 0)) (by (with_reducible repeat (first | refine kN_ ?_ _ | refine kD_ ?_ | refine kA_ ?_ _)); exact BK378.out)) : gb400 ≠ gb378)); have n14_ := Aside0.mk ((by rw [hg]; exact Nat.ne_of_lt (blk_lt (g := gb383) (o := .cells #[.int .i64 t379, .int .i64 t380, .int .i64 t381] 32 (0, 0)) (by (with_reducible repeat (first | refine kN_ ?_ _ | refine kD_ ?_ | refine kA_ ?_ _)); exact BK383.out)) : gb383 ≠ gb400)); have n15_ := Aside0.mk ((by rw [hg]; exact Nat.ne_of_gt (blk_lt (g := gb383) (o := .cells #[.int .i64 t379, .int .i64 t380, .int .i64 t381] 32 (0, 0)) (by (with_reducible repeat (first | refine kN_ ?_ _ | refine kD_ ?_ | refine kA_ ?_ _)); exact BK383.out)) : gb400 ≠ gb383)); clear HO_61; clear HO_65; clear HO_527; clear BK306; clear BK378; clear BK383; clear HB; have HO_61 := n0_; have HO_65 := n1_; have HO_527 := n2_; have BK306 := n3_; have BK378 := n4_; have BK383 := n5_; have HB := n6_; have BK400 := n7_; have GW400 := n8_; have GE400 := n9_; have NB306_400 := n10_; have NB400_306 := n11_; have NB378_400 := n12_; have NB400_378 := n13_; have NB383_400 := n14_; have NB400_383 := n15_; clear n0_ n1_ n2_ n3_ n4_ n5_ n6_ n7_ n8_ n9_ n10_ n11_ n12_ n13_ n14_ n15_; clear hb hbox hg; have hnb371 := NB400_306.out; have hnc371 := NB306_400.out; have hnb372 := NB400_378.out; have hnc372 := NB378_400.out; have hnb373 := NB400_383.out; have hnc373 := NB383_400.out; have hcz374_0 : w370.cell? ⟨gb400, 0, none⟩ = some (.int .i64 0) := (blk_cell BK400.out 0).trans rfl; have hcz374_1 : w370.cell? ⟨gb400, 1, none⟩ = some (.int .i64 0) := (blk_cell BK400.out 1).trans rfl; have hcz374_2 : w370.cell? ⟨gb400, 2, none⟩ = some (.int .i64 0) := (blk_cell BK400.out 2).trans rfl; have hfz374_0 := blk_frozen BK400.out 0; have hfz374_1 := blk_frozen BK400.out 1; have hfz374_2 := blk_frozen BK400.out 2) | ((with_reducible refine gate_callee (f := 35) rfl ?_); refine goesL_ (some 536) rfl rfl Tryd.func35 (by kernel_rfl) rfl #[.agg #[.int .i64 ((rd_T32 t358 x529_5).f0), .int .i64 ((rd_T32 t358 x529_5).f1), .int .i64 ((rd_T32 t358 x529_5).f2)]] rfl (by (try simp only [List.map_toArray, List.map_cons, List.map_nil]); first | done | rfl | (simp only [List.length_drop, List.length_take]; rfl)) ?_; (with_reducible refine (impl_HeightOf.calls ((rd_T32 t358 x529_5).f0) ((rd_T32 t358 x529_5).f1) ((rd_T32 t358 x529_5).f2) t401 true _ A323.out).mono ?_); rintro e w375 ⟨rfl, hb⟩; refine ⟨_, rfl, ?_⟩; have n0_ := Aside0.mk (rB_ (by (with_reducible repeat (first | apply rA_ | apply rN_ | apply rD_)); exact (rM_ (rF_ (p := ⟨gb400, 2, none⟩) (rF_ (p := ⟨gb400, 1, none⟩) (rF_ (p := ⟨gb400, 0, none⟩) (rM_ HO_61.out (fun k_ hk => (⟨hk, hk.2⟩ : _ ∧ k_ ≠ gb400))) (fun _ hk => hk.2) (.int .i64 ((rd_T32 t358 x529_5).f0))) (fun _ hk => hk.2) (.int .i64 ((rd_T32 t358 x529_5).f1))) (fun _ hk => hk.2) (.int .i64 ((rd_T32 t358 x529_5).f2))) (fun _ h_ => h_.1))) hb); have n1_ := Aside0.mk (rB_ (by (with_reducible repeat (first | apply rA_ | apply rN_ | apply rD_)); exact (rM_ (rF_ (p := ⟨gb400, 2, none⟩) (rF_ (p := ⟨gb400, 1, none⟩) (rF_ (p := ⟨gb400, 0, none⟩) (Kd.R_types HO_65.out BK400.out (by decide)) (fun _ hk => hk.2) (.int .i64 ((rd_T32 t358 x529_5).f0))) (fun _ hk => hk.2) (.int .i64 ((rd_T32 t358 x529_5).f1))) (fun _ hk => hk.2) (.int .i64 ((rd_T32 t358 x529_5).f2))) (fun _ h_ => h_.1))) hb); have n2_ := Aside0.mk (rB_ (by (with_reducible repeat (first | apply rA_ | apply rN_ | apply rD_)); exact (rM_ (rF_ (p := ⟨gb400, 2, none⟩) (rF_ (p := ⟨gb400, 1, none⟩) (rF_ (p := ⟨gb400, 0, none⟩) (rM_ HO_527.out (fun k_ hk => (⟨hk, hk.2⟩ : _ ∧ k_ ≠ gb400))) (fun _ hk => hk.2) (.int .i64 ((rd_T32 t358 x529_5).f0))) (fun _ hk => hk.2) (.int .i64 ((rd_T32 t358 x529_5).f1))) (fun _ hk => hk.2) (.int .i64 ((rd_T32 t358 x529_5).f2))) (fun _ h_ => h_.1))) hb); have n3_ := Aside0.mk (blk_below (g := gb306) (o := .cells #[.int .i64 a0_0, .int .i64 a0_1, .int .i64 a0_2] 32 (0, 0)) (by (with_reducible repeat (first | refine kN_ ?_ _ | refine kD_ ?_ | refine kA_ ?_ _)); refine blk_far ?_ NB306_400.out _; (with_reducible repeat (first | refine kN_ ?_ _ | refine kD_ ?_ | refine kA_ ?_ _)); refine blk_far ?_ NB306_400.out _; (with_reducible repeat (first | refine kN_ ?_ _ | refine kD_ ?_ | refine kA_ ?_ _)); refine blk_far ?_ NB306_400.out _; (with_reducible repeat (first | refine kN_ ?_ _ | refine kD_ ?_ | refine kA_ ?_ _)); exact BK306.out) hb); have n4_ := Aside0.mk (blk_below (g := gb378) (o := .cells #[.int .i64 t374, .int .i64 t375, .int .i64 t376] 32 (0, 0)) (by (with_reducible repeat (first | refine kN_ ?_ _ | refine kD_ ?_ | refine kA_ ?_ _)); refine blk_far ?_ NB378_400.out _; (with_reducible repeat (first | refine kN_ ?_ _ | refine kD_ ?_ | refine kA_ ?_ _)); refine blk_far ?_ NB378_400.out _; (with_reducible repeat (first | refine kN_ ?_ _ | refine kD_ ?_ | refine kA_ ?_ _)); refine blk_far ?_ NB378_400.out _; (with_reducible repeat (first | refine kN_ ?_ _ | refine kD_ ?_ | refine kA_ ?_ _)); exact BK378.out) hb); have n5_ := Aside0.mk (blk_below (g := gb383) (o := .cells #[.int .i64 t379, .int .i64 t380, .int .i64 t381] 32 (0, 0)) (by (with_reducible repeat (first | refine kN_ ?_ _ | refine kD_ ?_ | refine kA_ ?_ _)); refine blk_far ?_ NB383_400.out _; (with_reducible repeat (first | refine kN_ ?_ _ | refine kD_ ?_ | refine kA_ ?_ _)); refine blk_far ?_ NB383_400.out _; (with_reducible repeat (first | refine kN_ ?_ _ | refine kD_ ?_ | refine kA_ ?_ _)); refine blk_far ?_ NB383_400.out _; (with_reducible repeat (first | refine kN_ ?_ _ | refine kD_ ?_ | refine kA_ ?_ _)); exact BK383.out) hb); have n6_ := Aside0.mk (blk_below (g := gb400) (o := .cells #[.int .i64 ((rd_T32 t358 x529_5).f0), .int .i64 ((rd_T32 t358 x529_5).f1), .int .i64 ((rd_T32 t358 x529_5).f2)] 32 (0, 0)) (by (with_reducible repeat (first | refine kN_ ?_ _ | refine kD_ ?_ | refine kA_ ?_ _)); refine blk_put (cs := #[.int .i64 ((rd_T32 t358 x529_5).f0), .int .i64 ((rd_T32 t358 x529_5).f1), .int .i64 0]) ?_ 2 _ rfl; (with_reducible repeat (first | refine kN_ ?_ _ | refine kD_ ?_ | refine kA_ ?_ _)); refine blk_put (cs := #[.int .i64 ((rd_T32 t358 x529_5).f0), .int .i64 0, .int .i64 0]) ?_ 1 _ rfl; (with_reducible repeat (first | refine kN_ ?_ _ | refine kD_ ?_ | refine kA_ ?_ _)); refine blk_put (cs := #[.int .i64 0, .int .i64 0, .int .i64 0]) ?_ 0 _ rfl; (with_reducible repeat (first | refine kN_ ?_ _ | refine kD_ ?_ | refine kA_ ?_ _)); exact BK400.out) hb); have n7_ := Aside0.mk (below_step (by repeat (first | (with_reducible first | exact HB.out | apply bA_ | apply bN_ | apply bD_ | refine bS_ ?_ GE306.out | refine bS_ ?_ GE378.out | refine bS_ ?_ GE383.out | refine bS_ ?_ GE400.out) | exact HB.out)) hb); clear HO_61; clear HO_65; clear HO_527; clear BK306; clear BK378; clear BK383; clear BK400; clear HB; have HO_61 := n0_; have HO_65 := n1_; have HO_527 := n2_; have BK306 := n3_; have BK378 := n4_; have BK383 := n5_; have BK400 := n6_; have HB := n7_; clear n0_ n1_ n2_ n3_ n4_ n5_ n6_ n7_; (try clear hb); (try clear hb2); (try clear hk); (try clear hi); have hcz376_0 : w375.cell? ⟨gb400, 0, none⟩ = some (.int .i64 ((rd_T32 t358 x529_5).f0)) := (blk_cell BK400.out 0).trans rfl; have hcz376_1 : w375.cell? ⟨gb400, 1, none⟩ = some (.int .i64 ((rd_T32 t358 x529_5).f1)) := (blk_cell BK400.out 1).trans rfl; have hcz376_2 : w375.cell? ⟨gb400, 2, none⟩ = some (.int .i64 ((rd_T32 t358 x529_5).f2)) := (blk_cell BK400.out 2).trans rfl; have hfz376_0 := blk_frozen BK400.out 0; have hfz376_1 := blk_frozen BK400.out 1; have hfz376_2 := blk_frozen BK400.out 2) | ((with_reducible refine gate_callee (f := 37) rfl ?_); refine goesL_ (some 541) rfl rfl Tryd.func37 (by kernel_rfl) rfl #[.agg #[.int .i64 ((rd_T32 t358 x529_5).f0), .int .i64 ((rd_T32 t358 x529_5).f1), .int .i64 ((rd_T32 t358 x529_5).f2)]] rfl (by (try simp only [List.map_toArray, List.map_cons, List.map_nil]); first | done | rfl | (simp only [List.length_drop, List.length_take]; rfl)) ?_; (with_reducible refine (impl_RunOf.calls ((rd_T32 t358 x529_5).f0) ((rd_T32 t358 x529_5).f1) ((rd_T32 t358 x529_5).f2) t403 true _ A324.out).mono ?_); rintro e w377 ⟨rfl, hb⟩; refine ⟨_, rfl, ?_⟩; have n0_ := Aside0.mk (rB_ (by (with_reducible repeat (first | apply rA_ | apply rN_ | apply rD_)); exact HO_61.out) hb); have n1_ := Aside0.mk (rB_ (by (with_reducible repeat (first | apply rA_ | apply rN_ | apply rD_)); exact HO_65.out) hb); have n2_ := Aside0.mk (rB_ (by (with_reducible repeat (first | apply rA_ | apply rN_ | apply rD_)); exact HO_527.out) hb); have n3_ := Aside0.mk (blk_below (g := gb306) (o := .cells #[.int .i64 a0_0, .int .i64 a0_1, .int .i64 a0_2] 32 (0, 0)) (by (with_reducible repeat (first | refine kN_ ?_ _ | refine kD_ ?_ | refine kA_ ?_ _)); exact BK306.out) hb); have n4_ := Aside0.mk (blk_below (g := gb378) (o := .cells #[.int .i64 t374, .int .i64 t375, .int .i64 t376] 32 (0, 0)) (by (with_reducible repeat (first | refine kN_ ?_ _ | refine kD_ ?_ | refine kA_ ?_ _)); exact BK378.out) hb); have n5_ := Aside0.mk (blk_below (g := gb383) (o := .cells #[.int .i64 t379, .int .i64 t380, .int .i64 t381] 32 (0, 0)) (by (with_reducible repeat (first | refine kN_ ?_ _ | refine kD_ ?_ | refine kA_ ?_ _)); exact BK383.out) hb); have n6_ := Aside0.mk (blk_below (g := gb400) (o := .cells #[.int .i64 ((rd_T32 t358 x529_5).f0), .int .i64 ((rd_T32 t358 x529_5).f1), .int .i64 ((rd_T32 t358 x529_5).f2)] 32 (0, 0)) (by (with_reducible repeat (first | refine kN_ ?_ _ | refine kD_ ?_ | refine kA_ ?_ _)); exact BK400.out) hb); have n7_ := Aside0.mk (below_step (by repeat (first | (with_reducible first | exact HB.out | apply bA_ | apply bN_ | apply bD_ | refine bS_ ?_ GE306.out | refine bS_ ?_ GE378.out | refine bS_ ?_ GE383.out | refine bS_ ?_ GE400.out) | exact HB.out)) hb); clear HO_61; clear HO_65; clear HO_527; clear BK306; clear BK378; clear BK383; clear BK400; clear HB; have HO_61 := n0_; have HO_65 := n1_; have HO_527 := n2_; have BK306 := n3_; have BK378 := n4_; have BK383 := n5_; have BK400 := n6_; have HB := n7_; clear n0_ n1_ n2_ n3_ n4_ n5_ n6_ n7_; (try clear hb); (try clear hb2); (try clear hk); (try clear hi); have hcz378_0 : w377.cell? ⟨gb400, 0, none⟩ = some (.int .i64 ((rd_T32 t358 x529_5).f0)) := (blk_cell BK400.out 0).trans rfl; have hcz378_1 : w377.cell? ⟨gb400, 1, none⟩ = some (.int .i64 ((rd_T32 t358 x529_5).f1)) := (blk_cell BK400.out 1).trans rfl; have hcz378_2 : w377.cell? ⟨gb400, 2, none⟩ = some (.int .i64 ((rd_T32 t358 x529_5).f2)) := (blk_cell BK400.out 2).trans rfl; have hfz378_0 := blk_frozen BK400.out 0; have hfz378_1 := blk_frozen BK400.out 1; have hfz378_2 := blk_frozen BK400.out 2) | ((with_reducible refine gate_callee (f := 41) rfl ?_); refine goesL_ (some 546) rfl rfl Tryd.func41 (by kernel_rfl) rfl #[.agg #[.int .i64 ((rd_T32 t358 x529_5).f0), .int .i64 ((rd_T32 t358 x529_5).f1), .int .i64 ((rd_T32 t358 x529_5).f2)]] rfl (by (try simp only [List.map_toArray, List.map_cons, List.map_nil]); first | done | rfl | (simp only [List.length_drop, List.length_take]; rfl)) ?_; (with_reducible refine (impl_PaceSum.calls ((rd_T32 t358 x529_5).f0) ((rd_T32 t358 x529_5).f1) ((rd_T32 t358 x529_5).f2) t405 true _ A325.out).mono ?_); rintro e w379 ⟨rfl, hb⟩; refine ⟨_, rfl, ?_⟩; have n0_ := Aside0.mk (rB_ (by (with_reducible repeat (first | apply rA_ | apply rN_ | apply rD_)); exact HO_61.out) hb); have n1_ := Aside0.mk (rB_ (by (with_reducible repeat (first | apply rA_ | apply rN_ | apply rD_)); exact HO_65.out) hb); have n2_ := Aside0.mk (rB_ (by (with_reducible repeat (first | apply rA_ | apply rN_ | apply rD_)); exact HO_527.out) hb); have n3_ := Aside0.mk (blk_below (g := gb306) (o := .cells #[.int .i64 a0_0, .int .i64 a0_1, .int .i64 a0_2] 32 (0, 0)) (by (with_reducible repeat (first | refine kN_ ?_ _ | refine kD_ ?_ | refine kA_ ?_ _)); exact BK306.out) hb); have n4_ := Aside0.mk (blk_below (g := gb378) (o := .cells #[.int .i64 t374, .int .i64 t375, .int .i64 t376] 32 (0, 0)) (by (with_reducible repeat (first | refine kN_ ?_ _ | refine kD_ ?_ | refine kA_ ?_ _)); exact BK378.out) hb); have n5_ := Aside0.mk (blk_below (g := gb383) (o := .cells #[.int .i64 t379, .int .i64 t380, .int .i64 t381] 32 (0, 0)) (by (with_reducible repeat (first | refine kN_ ?_ _ | refine kD_ ?_ | refine kA_ ?_ _)); exact BK383.out) hb); have n6_ := Aside0.mk (blk_below (g := gb400) (o := .cells #[.int .i64 ((rd_T32 t358 x529_5).f0), .int .i64 ((rd_T32 t358 x529_5).f1), .int .i64 ((rd_T32 t358 x529_5).f2)] 32 (0, 0)) (by (with_reducible repeat (first | refine kN_ ?_ _ | refine kD_ ?_ | refine kA_ ?_ _)); exact BK400.out) hb); have n7_ := Aside0.mk (below_step (by repeat (first | (with_reducible first | exact HB.out | apply bA_ | apply bN_ | apply bD_ | refine bS_ ?_ GE306.out | refine bS_ ?_ GE378.out | refine bS_ ?_ GE383.out | refine bS_ ?_ GE400.out) | exact HB.out)) hb); clear HO_61; clear HO_65; clear HO_527; clear BK306; clear BK378; clear BK383; clear BK400; clear HB; have HO_61 := n0_; have HO_65 := n1_; have HO_527 := n2_; have BK306 := n3_; have BK378 := n4_; have BK383 := n5_; have BK400 := n6_; have HB := n7_; clear n0_ n1_ n2_ n3_ n4_ n5_ n6_ n7_; (try clear hb); (try clear hb2); (try clear hk); (try clear hi)))
              have n0_ := Aside0.mk (rD_ HO_61.out)
              have n1_ := Aside0.mk (rD_ HO_65.out)
              have n2_ := Aside0.mk (rD_ HO_527.out)
              have n3_ := Aside0.mk (kD_ BK306.out)
              have n4_ := Aside0.mk (kD_ BK378.out)
              have n5_ := Aside0.mk (kD_ BK383.out)
              have n6_ := Aside0.mk (kD_ BK400.out)
              have n7_ := Aside0.mk (bD_ HB.out)
              clear HO_61
              clear HO_65
              clear HO_527
              clear BK306
              clear BK378
              clear BK383
              clear BK400
              clear HB
              have HO_61 := n0_
              have HO_65 := n1_
              have HO_527 := n2_
              have BK306 := n3_
              have BK378 := n4_
              have BK383 := n5_
              have BK400 := n6_
              have HB := n7_
              clear n0_ n1_ n2_ n3_ n4_ n5_ n6_ n7_
              as_aux_lemma =>
               refine start_ (n := 40) (S := fun w' => True) (ds := []) (bs 40 0) (by kernel_rfl) rfl (by kernel_rfl) trivial (fun hHeld => ?_); refine with_tabW laws_FnRisersFitOfAll.tab52 laws_FnRisersFitOfAll.bits52 (fun HT_ HW_ => ?_)
               generalize w379.drew = w380 at HO_61 HO_65 HO_527 BK306 BK378 BK383 BK400 HB hHeld ⊢
               refine sL_ 40 [(0, 549, 1), (1, 550, 3), (2, 551, 7), (3, 552, 15), (4, 553, 31), (5, 554, 63), (6, 555, 127), (7, 556, 255), (8, 557, 511), (9, 558, 1023), (10, 559, 2047), (11, 560, 4095), (12, 561, 8191), (13, 562, 16383), (14, 563, 32767), (15, 564, 65535), (16, 565, 131071), (17, 566, 262143), (18, 567, 524287), (19, 568, 1048575), (20, 569, 2097151), (21, 570, 4194303), (22, 571, 8388607), (23, 572, 16777215), (24, 573, 33554431), (25, 574, 67108863), (26, 575, 134217727), (27, 576, 268435455), (28, 577, 536870911), (29, 578, 1073741823), (30, 579, 2147483647), (31, 580, 4294967295), (32, 581, 8589934591), (33, 582, 17179869183), (34, 583, 34359738367), (35, 584, 68719476735), (36, 585, 137438953471), (37, 586, 274877906943), (38, 587, 549755813887), (39, 588, 1099511627775)] ?_
               iterate 29 (refine pL_ (v := ?_) (a' := ?_) rfl (any_of HT_.out (by kernel_rfl)) (fun _ _ _ h => h) (Or.inl ⟨by rfl, ?_⟩) ?_ ?_; rotate_left; (· (intro w'; first | ((with_reducible apply ym_); (conv => lhs; whnf)) | ((with_reducible apply yb_); (conv => lhs; whnf); (conv => lhs; whnf); go_simp; (with_reducible rfl)) | ((with_reducible apply yp_); (conv => lhs; whnf); (conv => lhs; whnf); (conv => lhs; whnf); go_simp; (with_reducible rfl)) | (go_simp; with_reducible rfl))); rotate_left; (· (simp only [Act.put, List.setIfInBounds_toArray, List.set_cons_zero, List.set_cons_succ, i64_w, i32_w]; rfl)))
               refine pL_ (v := undef) (a' := ?_) rfl (any_of HT_.out (by kernel_rfl)) (fun _ _ _ h => h) (Or.inr ⟨by rfl, rfl⟩) ?_ ?_
               rotate_left
               ·simp only [Act.put, List.setIfInBounds_toArray, List.set_cons_zero, List.set_cons_succ, i64_w, i32_w]; rfl
               refine pL_ (v := undef) (a' := ?_) rfl (any_of HT_.out (by kernel_rfl)) (fun _ _ _ h => h) (Or.inr ⟨by rfl, rfl⟩) ?_ ?_
               rotate_left
               ·simp only [Act.put, List.setIfInBounds_toArray, List.set_cons_zero, List.set_cons_succ, i64_w, i32_w]; rfl
               refine pL_ (v := undef) (a' := ?_) rfl (any_of HT_.out (by kernel_rfl)) (fun _ _ _ h => h) (Or.inr ⟨by rfl, rfl⟩) ?_ ?_
               rotate_left
               ·simp only [Act.put, List.setIfInBounds_toArray, List.set_cons_zero, List.set_cons_succ, i64_w, i32_w]; rfl
               refine pL_ (v := undef) (a' := ?_) rfl (any_of HT_.out (by kernel_rfl)) (fun _ _ _ h => h) (Or.inr ⟨by rfl, rfl⟩) ?_ ?_
               rotate_left
               ·simp only [Act.put, List.setIfInBounds_toArray, List.set_cons_zero, List.set_cons_succ, i64_w, i32_w]; rfl
               refine pL_ (v := undef) (a' := ?_) rfl (any_of HT_.out (by kernel_rfl)) (fun _ _ _ h => h) (Or.inr ⟨by rfl, rfl⟩) ?_ ?_
               rotate_left
               ·simp only [Act.put, List.setIfInBounds_toArray, List.set_cons_zero, List.set_cons_succ, i64_w, i32_w]; rfl
               refine pL_ (v := undef) (a' := ?_) rfl (any_of HT_.out (by kernel_rfl)) (fun _ _ _ h => h) (Or.inr ⟨by rfl, rfl⟩) ?_ ?_
               rotate_left
               ·simp only [Act.put, List.setIfInBounds_toArray, List.set_cons_zero, List.set_cons_succ, i64_w, i32_w]; rfl
               refine pL_ (v := undef) (a' := ?_) rfl (any_of HT_.out (by kernel_rfl)) (fun _ _ _ h => h) (Or.inr ⟨by rfl, rfl⟩) ?_ ?_
               rotate_left
               ·simp only [Act.put, List.setIfInBounds_toArray, List.set_cons_zero, List.set_cons_succ, i64_w, i32_w]; rfl
               refine pL_ (v := undef) (a' := ?_) rfl (any_of HT_.out (by kernel_rfl)) (fun _ _ _ h => h) (Or.inr ⟨by rfl, rfl⟩) ?_ ?_
               rotate_left
               ·simp only [Act.put, List.setIfInBounds_toArray, List.set_cons_zero, List.set_cons_succ, i64_w, i32_w]; rfl
               refine pL_ (v := undef) (a' := ?_) rfl (any_of HT_.out (by kernel_rfl)) (fun _ _ _ h => h) (Or.inr ⟨by rfl, rfl⟩) ?_ ?_
               rotate_left
               ·simp only [Act.put, List.setIfInBounds_toArray, List.set_cons_zero, List.set_cons_succ, i64_w, i32_w]; rfl
               iterate 2 (refine pL_ (v := ?_) (a' := ?_) rfl (any_of HT_.out (by kernel_rfl)) (fun _ _ _ h => h) (Or.inl ⟨by rfl, ?_⟩) ?_ ?_; rotate_left; (· (intro w'; first | ((with_reducible apply ym_); (conv => lhs; whnf)) | ((with_reducible apply yb_); (conv => lhs; whnf); (conv => lhs; whnf); go_simp; (with_reducible rfl)) | ((with_reducible apply yp_); (conv => lhs; whnf); (conv => lhs; whnf); (conv => lhs; whnf); go_simp; (with_reducible rfl)) | (go_simp; with_reducible rfl))); rotate_left; (· (simp only [Act.put, List.setIfInBounds_toArray, List.set_cons_zero, List.set_cons_succ, i64_w, i32_w]; rfl)))
               refine dL_ (done_of HT_.out (by kernel_rfl)) ?_
               try go_wp2
               go_roundg k5
               case measure => have := HJ26.out; have := HJ132.out; have := HJ218.out; have := HJ280.out; have := HK5.out; omega
               case rel => exact ⟨(wrap64 (x529_5 + 1)), (by first | rfl | (simp; done) | (simp [*]; done)), H', ⟨by have := HJ26.out; have := HJ132.out; have := HJ218.out; have := HJ280.out; have := HK5.out; omega⟩, ⟨by (with_reducible repeat (first | apply rA_ | apply rN_ | apply rD_)); exact rM_ HO_61.out (fun _ hk => ⟨hk.1.1, ⟨hk.1.2.1, hk.1.2.2⟩⟩)⟩, ⟨by (with_reducible repeat (first | apply rA_ | apply rN_ | apply rD_)); exact HO_65.out⟩, ⟨by (with_reducible repeat (first | apply rA_ | apply rN_ | apply rD_)); exact rM_ HO_527.out (fun _ hk => ⟨hk.1.1, ⟨hk.1.2.1, hk.1.2.2⟩⟩)⟩, ⟨by (with_reducible repeat (first | refine kN_ ?_ _ | refine kD_ ?_ | refine kA_ ?_ _)); exact BK306.out⟩, ⟨by (with_reducible repeat (first | refine kN_ ?_ _ | refine kD_ ?_ | refine kA_ ?_ _)); exact BK378.out⟩, ⟨by (with_reducible repeat (first | refine kN_ ?_ _ | refine kD_ ?_ | refine kA_ ?_ _)); exact BK383.out⟩, ⟨by repeat (first | (with_reducible first | exact HB.out | apply bA_ | apply bN_ | apply bD_ | refine bS_ ?_ GE306.out | refine bS_ ?_ GE378.out | refine bS_ ?_ GE383.out | refine bS_ ?_ GE400.out) | exact HB.out)⟩⟩
             rw [if_neg c342] at H
             exact absurd (Option.some.inj H) (by decide)
            replace c341 := Bool.eq_false_iff.mpr c341
            subst c341
            rw [if_neg (show ¬ (false = true) by decide)] at H
            exact absurd (Option.some.inj H) (by decide)
           replace c328 := Bool.eq_false_iff.mpr c328
           subst c328
           rw [if_neg (show ¬ (false = true) by decide)] at H
           exact absurd (Option.some.inj H) (by decide)
          rw [if_neg c327] at H
          exact absurd (Option.some.inj H) (by decide)
         replace c326 := Bool.eq_false_iff.mpr c326
         subst c326
         rw [if_neg (show ¬ (false = true) by decide)] at H
         exact absurd (Option.some.inj H) (by decide)
        rw [if_neg c322] at H
        exact absurd H (by simp)
       rw [if_neg c321] at H
       exact absurd H (by simp)
      rw [if_neg c320] at H
      have c320b0 : decide (x529_5 < (t358.length : Int)) = false := decide_eq_false c320
      clear c320
      by_cases c436 : t367 = true
      ·subst c436
       rw [if_pos rfl] at H
       have H' := Aside0.mk H
       clear H
       go_wp2
       go_loopg [83] k5 (fun kq v83 w' => ∃ (x83_6 : Int), v83 = .int .i64 x83_6 ∧ Aside0 (laws_FnRisersFitOfAll.l2 kq a6 a7 a8 a9 t366 t377 x83_6 t374 t375 t376 = some true) ∧ Aside0 (kq ≤ k5) ∧ Aside0 (Kd.R (Kd.int .i64) 3 w' w.heap.size (fun _ => True) v368 t366) ∧ Aside0 (w'.heap[gb306]? = some (.cells #[.int .i64 a0_0, .int .i64 a0_1, .int .i64 a0_2] 32 (0, 0))) ∧ Aside0 (w'.heap[gb378]? = some (.cells #[.int .i64 t374, .int .i64 t375, .int .i64 t376] 32 (0, 0))) ∧ Aside0 (w'.heap[gb383]? = some (.cells #[.int .i64 t379, .int .i64 t380, .int .i64 t381] 32 (0, 0))) ∧ Aside0 (Below w.heap.size w w'))
       case atStart => exact ⟨(1), (by first | rfl | (simp; done) | (simp [*]; done)), H', ⟨Nat.le_refl _⟩, ⟨by (with_reducible repeat (first | apply rA_ | apply rN_ | apply rD_)); exact HO_65.out⟩, ⟨by (with_reducible repeat (first | refine kN_ ?_ _ | refine kD_ ?_ | refine kA_ ?_ _)); exact BK306.out⟩, ⟨by (with_reducible repeat (first | refine kN_ ?_ _ | refine kD_ ?_ | refine kA_ ?_ _)); exact BK378.out⟩, ⟨by (with_reducible repeat (first | refine kN_ ?_ _ | refine kD_ ?_ | refine kA_ ?_ _)); exact BK383.out⟩, ⟨by repeat (first | (with_reducible first | exact HB.out | apply bA_ | apply bN_ | apply bD_ | refine bS_ ?_ GE306.out | refine bS_ ?_ GE378.out | refine bS_ ?_ GE383.out) | exact HB.out)⟩⟩
       case round =>
        clear H'
        (try clear p2); (try clear c3); (try clear p3); (try clear q3); (try clear hx3); (try clear c4); (try clear c32); (try clear c35); (try clear c37); (try clear p39); (try clear q39); (try clear hx39); (try clear c41); (try clear c42); (try clear c43); (try clear c320); (try clear c320b0); (try clear c321); (try clear c322); (try clear c326); (try clear c327); (try clear c327b0); (try clear c327b1); (try clear p399); (try clear q399); (try clear hx399); (try clear c415); (try clear c416); (try clear c417); (try clear c426); (try clear c427); (try clear c428); (try clear c436); (try clear hcz418_0); (try clear hcz418_1); (try clear hcz418_2); (try clear hcz420_0); (try clear hcz420_1); (try clear hcz420_2); (try clear hcz422_0); (try clear hcz422_1); (try clear hcz422_2); (try clear hcz429_0); (try clear hcz429_1); (try clear hcz429_2); (try clear hcz431_0); (try clear hcz431_1); (try clear hcz431_2); (try clear hcz433_0); (try clear hcz433_1); (try clear hcz433_2); (try clear hfz418_0); (try clear hfz418_1); (try clear hfz418_2); (try clear hfz420_0); (try clear hfz420_1); (try clear hfz420_2); (try clear hfz422_0); (try clear hfz422_1); (try clear hfz422_2); (try clear hfz429_0); (try clear hfz429_1); (try clear hfz429_2); (try clear hfz431_0); (try clear hfz431_1); (try clear hfz431_2); (try clear hfz433_0); (try clear hfz433_1); (try clear hfz433_2); (try clear hx399_0); (try clear hx399_1); (try clear hx399_2); (try clear p399); try clear q399
        obtain ⟨x83_6, rfl, HA, HK6, HO_65, BK306, BK378, BK383, HB⟩ := hrel
        rcases gk with _ | k6
        ·exact absurd HA.out (by simp [laws_FnRisersFitOfAll.l2])
        have H := HA.out
        clear HA
        simp only [laws_FnRisersFitOfAll.l2] at H
        by_cases c437 : x83_6 ≤ 100
        ·rw [if_pos c437] at H
         have c437b0 : decide (x83_6 ≤ 100) = true := decide_eq_true c437
         clear c437
         replace H := Option.bind_eq_some_iff.mp H
         obtain ⟨t408, A4380, H⟩ := H
         try dsimp only at H
         have A438 := Aside0.mk A4380
         clear A4380
         by_cases c439 : x83_6 = 0
         ·rw [if_pos c439] at H
          exact absurd H (by simp)
         rw [if_neg c439] at H
         have c439b0 : (x83_6 == 0) = false := beq_eq_false_iff_ne.mpr c439
         have c439b1 : (x83_6 != 0) = true := bne_iff_ne.mpr c439
         by_cases c440 : (Int.tmod a6 x83_6) = 0
         ·rw [if_pos c440] at H
          have c440b0 : ((Int.tmod a6 x83_6) == 0) = true := beq_iff_eq.mpr c440
          have c440b1 : ((Int.tmod a6 x83_6) != 0) = false := bne_eq_false_iff_eq.mpr c440
          clear c440
          by_cases c441 : (wrap64 (Int.tdiv a6 x83_6)) ≥ a7
          ·rw [if_pos c441] at H
           have c441b0 : decide (a7 ≤ (wrap64 (Int.tdiv a6 x83_6))) = true := decide_eq_true c441
           clear c441
           by_cases c442 : (t408 != (decide ((wrap64 (Int.tdiv a6 x83_6)) ≤ a8))) = true
           ·rw [if_pos c442] at H
            exact absurd (Option.some.inj H) (by decide)
           rw [if_neg c442] at H
           have c442b0 : (t408 != (decide ((wrap64 (Int.tdiv a6 x83_6)) ≤ a8))) = false := by simpa using c442
           (try (have c442b1 : decide (t408 = (decide ((wrap64 (Int.tdiv a6 x83_6)) ≤ a8))) = true := by simpa using c442))
           (try (have c442b2 : (t408 == (decide ((wrap64 (Int.tdiv a6 x83_6)) ≤ a8))) = true := by simpa using c442))
           clear c442
           have H' := Aside0.mk H
           clear H
           try go_wp2
           have n0_ := Aside0.mk (rD_ HO_65.out)
           have n1_ := Aside0.mk (kD_ BK306.out)
           have n2_ := Aside0.mk (kD_ BK378.out)
           have n3_ := Aside0.mk (kD_ BK383.out)
           have n4_ := Aside0.mk (bD_ HB.out)
           clear HO_65
           clear BK306
           clear BK378
           clear BK383
           clear HB
           have HO_65 := n0_
           have BK306 := n1_
           have BK378 := n2_
           have BK383 := n3_
           have HB := n4_
           clear n0_ n1_ n2_ n3_ n4_
           obtain ⟨Ao446, co446, eo446⟩ := Kd.R_slice HO_65.out
           (first | subst eo446 | (injection eo446 with f1_ f2_ f3_; have f4_ := f1_.symm; have f5_ := f3_.symm; clear f1_ f2_ f3_; subst f4_; subst f5_))
           as_aux_lemma =>
            refine start_ (n := 22) (S := fun w' => True) (ds := []) (bs 22 0) (by kernel_rfl) rfl (by kernel_rfl) trivial (fun hHeld => ?_); refine with_tabW laws_FnRisersFitOfAll.tab59 laws_FnRisersFitOfAll.bits59 (fun HT_ HW_ => ?_)
            generalize wr.drew = w445 at HO_65 BK306 BK378 BK383 HB hHeld ⊢
            refine sL_ 22 [(0, 595, 1), (1, 596, 3), (3, 598, 11), (4, 599, 27), (5, 600, 59), (6, 601, 123), (2, 597, 127), (7, 602, 255), (8, 603, 511), (9, 604, 1023), (10, 605, 2047), (11, 606, 4095), (12, 607, 8191), (13, 608, 16383), (14, 609, 32767), (15, 610, 65535), (16, 611, 131071), (17, 612, 262143), (18, 613, 524287), (19, 614, 1048575), (20, 615, 2097151), (21, 616, 4194303)] ?_
            iterate 6 (refine pL_ (v := ?_) (a' := ?_) rfl (any_of HT_.out (by kernel_rfl)) (fun _ _ _ h => h) (Or.inl ⟨by rfl, ?_⟩) ?_ ?_; rotate_left; (· (intro w'; first | ((with_reducible apply ym_); (conv => lhs; whnf)) | ((with_reducible apply yb_); (conv => lhs; whnf); (conv => lhs; whnf); go_simp; (with_reducible rfl)) | ((with_reducible apply yp_); (conv => lhs; whnf); (conv => lhs; whnf); (conv => lhs; whnf); go_simp; (with_reducible rfl)) | (go_simp; with_reducible rfl))); rotate_left; (· (simp only [Act.put, List.setIfInBounds_toArray, List.set_cons_zero, List.set_cons_succ, i64_w, i32_w]; rfl)))
            refine oL_ rfl (one_of HT_.out (by kernel_rfl)) (by decide) (fun K hK => ?_)
            refine goes_ Tryd.func59 (by kernel_rfl) rfl #[.slice Ao446 t366.length co446, .int .i64 x83_6] (by rfl) rfl rfl (by (try simp only [List.map_toArray, List.map_cons, List.map_nil]); first | done | rfl | (simp only [List.length_drop, List.length_take]; rfl)) ?_
            with_reducible refine (laws_lHas.calls k6 _ _ t366 x83_6 t408 _ ?side1 ?side2 A438.out).mono ?_
            (case side1 => repeat (first | exact (rR_ HO_65.out).2.2 | (with_reducible refine Kd.C_alloc ?_ _) | (with_reducible refine Kd.C_drewN ?_ _) | (with_reducible refine Kd.C_drew ?_)))
            (case side2 => exact (rR_ HO_65.out).2.1)
            rintro e w' ⟨rfl, ⟨nd, rfl⟩⟩
            refine ⟨_, rfl, ?_⟩
            refine hK.out _ _ trivial (fun hHeld => ?_)
            clear hK K
            refine nL_ (a' := ?_) ?_ ?_
            rotate_left
            ·show Act.put _ (some 597) _ = _
             simp only [Act.put, List.setIfInBounds_toArray, List.set_cons_zero, List.set_cons_succ, i64_w, i32_w]
             rfl
            iterate 15 (refine pL_ (v := ?_) (a' := ?_) rfl (any_of HT_.out (by kernel_rfl)) (fun _ _ _ h => h) (Or.inl ⟨by rfl, ?_⟩) ?_ ?_; rotate_left; (· (intro w'; first | ((with_reducible apply ym_); (conv => lhs; whnf)) | ((with_reducible apply yb_); (conv => lhs; whnf); (conv => lhs; whnf); go_simp; (with_reducible rfl)) | ((with_reducible apply yp_); (conv => lhs; whnf); (conv => lhs; whnf); (conv => lhs; whnf); go_simp; (with_reducible rfl)) | (go_simp; with_reducible rfl))); rotate_left; (· (simp only [Act.put, List.setIfInBounds_toArray, List.set_cons_zero, List.set_cons_succ, i64_w, i32_w]; rfl)))
            refine dL_ (done_of HT_.out (by kernel_rfl)) ?_
            try go_wp2
            go_roundg k6
            case measure => have := HJ26.out; have := HJ132.out; have := HJ218.out; have := HJ280.out; have := HK5.out; have := HK6.out; omega
            case rel => exact ⟨(wrap64 (x83_6 + 1)), (by first | rfl | (simp; done) | (simp [*]; done)), H', ⟨by have := HJ26.out; have := HJ132.out; have := HJ218.out; have := HJ280.out; have := HK5.out; have := HK6.out; omega⟩, ⟨by (with_reducible repeat (first | apply rA_ | apply rN_ | apply rD_)); exact HO_65.out⟩, ⟨by (with_reducible repeat (first | refine kN_ ?_ _ | refine kD_ ?_ | refine kA_ ?_ _)); exact BK306.out⟩, ⟨by (with_reducible repeat (first | refine kN_ ?_ _ | refine kD_ ?_ | refine kA_ ?_ _)); exact BK378.out⟩, ⟨by (with_reducible repeat (first | refine kN_ ?_ _ | refine kD_ ?_ | refine kA_ ?_ _)); exact BK383.out⟩, ⟨by repeat (first | (with_reducible first | exact HB.out | apply bA_ | apply bN_ | apply bD_ | refine bS_ ?_ GE306.out | refine bS_ ?_ GE378.out | refine bS_ ?_ GE383.out) | exact HB.out)⟩⟩
          rw [if_neg c441] at H
          have c441b0 : decide (a7 ≤ (wrap64 (Int.tdiv a6 x83_6))) = false := decide_eq_false c441
          clear c441
          by_cases c447 : (t408 != false) = true
          ·rw [if_pos c447] at H
           exact absurd (Option.some.inj H) (by decide)
          rw [if_neg c447] at H
          have c447b0 : (t408 != false) = false := by simpa using c447
          (try (have c447b1 : decide (t408 = false) = true := by simpa using c447))
          (try (have c447b2 : (t408 == false) = true := by simpa using c447))
          clear c447
          have H' := Aside0.mk H
          clear H
          try go_wp2
          have n0_ := Aside0.mk (rD_ HO_65.out)
          have n1_ := Aside0.mk (kD_ BK306.out)
          have n2_ := Aside0.mk (kD_ BK378.out)
          have n3_ := Aside0.mk (kD_ BK383.out)
          have n4_ := Aside0.mk (bD_ HB.out)
          clear HO_65
          clear BK306
          clear BK378
          clear BK383
          clear HB
          have HO_65 := n0_
          have BK306 := n1_
          have BK378 := n2_
          have BK383 := n3_
          have HB := n4_
          clear n0_ n1_ n2_ n3_ n4_
          obtain ⟨Ao451, co451, eo451⟩ := Kd.R_slice HO_65.out
          (first | subst eo451 | (injection eo451 with f1_ f2_ f3_; have f4_ := f1_.symm; have f5_ := f3_.symm; clear f1_ f2_ f3_; subst f4_; subst f5_))
          as_aux_lemma =>
           refine start_ (n := 22) (S := fun w' => True) (ds := []) (bs 22 0) (by kernel_rfl) rfl (by kernel_rfl) trivial (fun hHeld => ?_); refine with_tabW laws_FnRisersFitOfAll.tab59 laws_FnRisersFitOfAll.bits59 (fun HT_ HW_ => ?_)
           generalize wr.drew = w450 at HO_65 BK306 BK378 BK383 HB hHeld ⊢
           refine sL_ 22 [(0, 595, 1), (1, 596, 3), (3, 598, 11), (4, 599, 27), (5, 600, 59), (6, 601, 123), (2, 597, 127), (7, 602, 255), (8, 603, 511), (9, 604, 1023), (10, 605, 2047), (11, 606, 4095), (12, 607, 8191), (13, 608, 16383), (14, 609, 32767), (15, 610, 65535), (16, 611, 131071), (17, 612, 262143), (18, 613, 524287), (19, 614, 1048575), (20, 615, 2097151), (21, 616, 4194303)] ?_
           iterate 6 (refine pL_ (v := ?_) (a' := ?_) rfl (any_of HT_.out (by kernel_rfl)) (fun _ _ _ h => h) (Or.inl ⟨by rfl, ?_⟩) ?_ ?_; rotate_left; (· (intro w'; first | ((with_reducible apply ym_); (conv => lhs; whnf)) | ((with_reducible apply yb_); (conv => lhs; whnf); (conv => lhs; whnf); go_simp; (with_reducible rfl)) | ((with_reducible apply yp_); (conv => lhs; whnf); (conv => lhs; whnf); (conv => lhs; whnf); go_simp; (with_reducible rfl)) | (go_simp; with_reducible rfl))); rotate_left; (· (simp only [Act.put, List.setIfInBounds_toArray, List.set_cons_zero, List.set_cons_succ, i64_w, i32_w]; rfl)))
           refine oL_ rfl (one_of HT_.out (by kernel_rfl)) (by decide) (fun K hK => ?_)
           refine goes_ Tryd.func59 (by kernel_rfl) rfl #[.slice Ao451 t366.length co451, .int .i64 x83_6] (by rfl) rfl rfl (by (try simp only [List.map_toArray, List.map_cons, List.map_nil]); first | done | rfl | (simp only [List.length_drop, List.length_take]; rfl)) ?_
           with_reducible refine (laws_lHas.calls k6 _ _ t366 x83_6 t408 _ ?side1 ?side2 A438.out).mono ?_
           (case side1 => repeat (first | exact (rR_ HO_65.out).2.2 | (with_reducible refine Kd.C_alloc ?_ _) | (with_reducible refine Kd.C_drewN ?_ _) | (with_reducible refine Kd.C_drew ?_)))
           (case side2 => exact (rR_ HO_65.out).2.1)
           rintro e w' ⟨rfl, ⟨nd, rfl⟩⟩
           refine ⟨_, rfl, ?_⟩
           refine hK.out _ _ trivial (fun hHeld => ?_)
           clear hK K
           refine nL_ (a' := ?_) ?_ ?_
           rotate_left
           ·show Act.put _ (some 597) _ = _
            simp only [Act.put, List.setIfInBounds_toArray, List.set_cons_zero, List.set_cons_succ, i64_w, i32_w]
            rfl
           iterate 8 (refine pL_ (v := ?_) (a' := ?_) rfl (any_of HT_.out (by kernel_rfl)) (fun _ _ _ h => h) (Or.inl ⟨by rfl, ?_⟩) ?_ ?_; rotate_left; (· (intro w'; first | ((with_reducible apply ym_); (conv => lhs; whnf)) | ((with_reducible apply yb_); (conv => lhs; whnf); (conv => lhs; whnf); go_simp; (with_reducible rfl)) | ((with_reducible apply yp_); (conv => lhs; whnf); (conv => lhs; whnf); (conv => lhs; whnf); go_simp; (with_reducible rfl)) | (go_simp; with_reducible rfl))); rotate_left; (· (simp only [Act.put, List.setIfInBounds_toArray, List.set_cons_zero, List.set_cons_succ, i64_w, i32_w]; rfl)))
           refine pL_ (v := undef) (a' := ?_) rfl (any_of HT_.out (by kernel_rfl)) (fun _ _ _ h => h) (Or.inr ⟨by rfl, rfl⟩) ?_ ?_
           rotate_left
           ·simp only [Act.put, List.setIfInBounds_toArray, List.set_cons_zero, List.set_cons_succ, i64_w, i32_w]; rfl
           refine pL_ (v := undef) (a' := ?_) rfl (any_of HT_.out (by kernel_rfl)) (fun _ _ _ h => h) (Or.inr ⟨by rfl, rfl⟩) ?_ ?_
           rotate_left
           ·simp only [Act.put, List.setIfInBounds_toArray, List.set_cons_zero, List.set_cons_succ, i64_w, i32_w]; rfl
           refine pL_ (v := undef) (a' := ?_) rfl (any_of HT_.out (by kernel_rfl)) (fun _ _ _ h => h) (Or.inr ⟨by rfl, rfl⟩) ?_ ?_
           rotate_left
           ·simp only [Act.put, List.setIfInBounds_toArray, List.set_cons_zero, List.set_cons_succ, i64_w, i32_w]; rfl
           refine pL_ (v := undef) (a' := ?_) rfl (any_of HT_.out (by kernel_rfl)) (fun _ _ _ h => h) (Or.inr ⟨by rfl, rfl⟩) ?_ ?_
           rotate_left
           ·simp only [Act.put, List.setIfInBounds_toArray, List.set_cons_zero, List.set_cons_succ, i64_w, i32_w]; rfl
           refine pL_ (v := undef) (a' := ?_) rfl (any_of HT_.out (by kernel_rfl)) (fun _ _ _ h => h) (Or.inr ⟨by rfl, rfl⟩) ?_ ?_
           rotate_left
           ·simp only [Act.put, List.setIfInBounds_toArray, List.set_cons_zero, List.set_cons_succ, i64_w, i32_w]; rfl
           iterate 2 (refine pL_ (v := ?_) (a' := ?_) rfl (any_of HT_.out (by kernel_rfl)) (fun _ _ _ h => h) (Or.inl ⟨by rfl, ?_⟩) ?_ ?_; rotate_left; (· (intro w'; first | ((with_reducible apply ym_); (conv => lhs; whnf)) | ((with_reducible apply yb_); (conv => lhs; whnf); (conv => lhs; whnf); go_simp; (with_reducible rfl)) | ((with_reducible apply yp_); (conv => lhs; whnf); (conv => lhs; whnf); (conv => lhs; whnf); go_simp; (with_reducible rfl)) | (go_simp; with_reducible rfl))); rotate_left; (· (simp only [Act.put, List.setIfInBounds_toArray, List.set_cons_zero, List.set_cons_succ, i64_w, i32_w]; rfl)))
           refine dL_ (done_of HT_.out (by kernel_rfl)) ?_
           try go_wp2
           go_roundg k6
           case measure => have := HJ26.out; have := HJ132.out; have := HJ218.out; have := HJ280.out; have := HK5.out; have := HK6.out; omega
           case rel => exact ⟨(wrap64 (x83_6 + 1)), (by first | rfl | (simp; done) | (simp [*]; done)), H', ⟨by have := HJ26.out; have := HJ132.out; have := HJ218.out; have := HJ280.out; have := HK5.out; have := HK6.out; omega⟩, ⟨by (with_reducible repeat (first | apply rA_ | apply rN_ | apply rD_)); exact HO_65.out⟩, ⟨by (with_reducible repeat (first | refine kN_ ?_ _ | refine kD_ ?_ | refine kA_ ?_ _)); exact BK306.out⟩, ⟨by (with_reducible repeat (first | refine kN_ ?_ _ | refine kD_ ?_ | refine kA_ ?_ _)); exact BK378.out⟩, ⟨by (with_reducible repeat (first | refine kN_ ?_ _ | refine kD_ ?_ | refine kA_ ?_ _)); exact BK383.out⟩, ⟨by repeat (first | (with_reducible first | exact HB.out | apply bA_ | apply bN_ | apply bD_ | refine bS_ ?_ GE306.out | refine bS_ ?_ GE378.out | refine bS_ ?_ GE383.out) | exact HB.out)⟩⟩
         rw [if_neg c440] at H
         have c440b0 : ((Int.tmod a6 x83_6) == 0) = false := beq_eq_false_iff_ne.mpr c440
         have c440b1 : ((Int.tmod a6 x83_6) != 0) = true := bne_iff_ne.mpr c440
         by_cases c452 : (t408 != false) = true
         ·rw [if_pos c452] at H
          exact absurd (Option.some.inj H) (by decide)
         rw [if_neg c452] at H
         have c452b0 : (t408 != false) = false := by simpa using c452
         (try (have c452b1 : decide (t408 = false) = true := by simpa using c452))
         (try (have c452b2 : (t408 == false) = true := by simpa using c452))
         clear c452
         have H' := Aside0.mk H
         clear H
         try go_wp2
         have n0_ := Aside0.mk (rD_ HO_65.out)
         have n1_ := Aside0.mk (kD_ BK306.out)
         have n2_ := Aside0.mk (kD_ BK378.out)
         have n3_ := Aside0.mk (kD_ BK383.out)
         have n4_ := Aside0.mk (bD_ HB.out)
         clear HO_65
         clear BK306
         clear BK378
         clear BK383
         clear HB
         have HO_65 := n0_
         have BK306 := n1_
         have BK378 := n2_
         have BK383 := n3_
         have HB := n4_
         clear n0_ n1_ n2_ n3_ n4_
         obtain ⟨Ao456, co456, eo456⟩ := Kd.R_slice HO_65.out
         (first | subst eo456 | (injection eo456 with f1_ f2_ f3_; have f4_ := f1_.symm; have f5_ := f3_.symm; clear f1_ f2_ f3_; subst f4_; subst f5_))
         as_aux_lemma =>
          refine start_ (n := 22) (S := fun w' => True) (ds := []) (bs 22 0) (by kernel_rfl) rfl (by kernel_rfl) trivial (fun hHeld => ?_); refine with_tabW laws_FnRisersFitOfAll.tab59 laws_FnRisersFitOfAll.bits59 (fun HT_ HW_ => ?_)
          generalize wr.drew = w455 at HO_65 BK306 BK378 BK383 HB hHeld ⊢
          refine sL_ 22 [(0, 595, 1), (1, 596, 3), (3, 598, 11), (4, 599, 27), (5, 600, 59), (6, 601, 123), (2, 597, 127), (7, 602, 255), (8, 603, 511), (9, 604, 1023), (10, 605, 2047), (11, 606, 4095), (12, 607, 8191), (13, 608, 16383), (14, 609, 32767), (15, 610, 65535), (16, 611, 131071), (17, 612, 262143), (18, 613, 524287), (19, 614, 1048575), (20, 615, 2097151), (21, 616, 4194303)] ?_
          iterate 6 (refine pL_ (v := ?_) (a' := ?_) rfl (any_of HT_.out (by kernel_rfl)) (fun _ _ _ h => h) (Or.inl ⟨by rfl, ?_⟩) ?_ ?_; rotate_left; (· (intro w'; first | ((with_reducible apply ym_); (conv => lhs; whnf)) | ((with_reducible apply yb_); (conv => lhs; whnf); (conv => lhs; whnf); go_simp; (with_reducible rfl)) | ((with_reducible apply yp_); (conv => lhs; whnf); (conv => lhs; whnf); (conv => lhs; whnf); go_simp; (with_reducible rfl)) | (go_simp; with_reducible rfl))); rotate_left; (· (simp only [Act.put, List.setIfInBounds_toArray, List.set_cons_zero, List.set_cons_succ, i64_w, i32_w]; rfl)))
          refine oL_ rfl (one_of HT_.out (by kernel_rfl)) (by decide) (fun K hK => ?_)
          refine goes_ Tryd.func59 (by kernel_rfl) rfl #[.slice Ao456 t366.length co456, .int .i64 x83_6] (by rfl) rfl rfl (by (try simp only [List.map_toArray, List.map_cons, List.map_nil]); first | done | rfl | (simp only [List.length_drop, List.length_take]; rfl)) ?_
          with_reducible refine (laws_lHas.calls k6 _ _ t366 x83_6 t408 _ ?side1 ?side2 A438.out).mono ?_
          (case side1 => repeat (first | exact (rR_ HO_65.out).2.2 | (with_reducible refine Kd.C_alloc ?_ _) | (with_reducible refine Kd.C_drewN ?_ _) | (with_reducible refine Kd.C_drew ?_)))
          (case side2 => exact (rR_ HO_65.out).2.1)
          rintro e w' ⟨rfl, ⟨nd, rfl⟩⟩
          refine ⟨_, rfl, ?_⟩
          refine hK.out _ _ trivial (fun hHeld => ?_)
          clear hK K
          refine nL_ (a' := ?_) ?_ ?_
          rotate_left
          ·show Act.put _ (some 597) _ = _
           simp only [Act.put, List.setIfInBounds_toArray, List.set_cons_zero, List.set_cons_succ, i64_w, i32_w]
           rfl
          iterate 1 (refine pL_ (v := ?_) (a' := ?_) rfl (any_of HT_.out (by kernel_rfl)) (fun _ _ _ h => h) (Or.inl ⟨by rfl, ?_⟩) ?_ ?_; rotate_left; (· (intro w'; first | ((with_reducible apply ym_); (conv => lhs; whnf)) | ((with_reducible apply yb_); (conv => lhs; whnf); (conv => lhs; whnf); go_simp; (with_reducible rfl)) | ((with_reducible apply yp_); (conv => lhs; whnf); (conv => lhs; whnf); (conv => lhs; whnf); go_simp; (with_reducible rfl)) | (go_simp; with_reducible rfl))); rotate_left; (· (simp only [Act.put, List.setIfInBounds_toArray, List.set_cons_zero, List.set_cons_succ, i64_w, i32_w]; rfl)))
          refine pL_ (v := undef) (a' := ?_) rfl (any_of HT_.out (by kernel_rfl)) (fun _ _ _ h => h) (Or.inr ⟨by rfl, rfl⟩) ?_ ?_
          rotate_left
          ·simp only [Act.put, List.setIfInBounds_toArray, List.set_cons_zero, List.set_cons_succ, i64_w, i32_w]; rfl
          refine pL_ (v := undef) (a' := ?_) rfl (any_of HT_.out (by kernel_rfl)) (fun _ _ _ h => h) (Or.inr ⟨by rfl, rfl⟩) ?_ ?_
          rotate_left
          ·simp only [Act.put, List.setIfInBounds_toArray, List.set_cons_zero, List.set_cons_succ, i64_w, i32_w]; rfl
          refine pL_ (v := undef) (a' := ?_) rfl (any_of HT_.out (by kernel_rfl)) (fun _ _ _ h => h) (Or.inr ⟨by rfl, rfl⟩) ?_ ?_
          rotate_left
          ·simp only [Act.put, List.setIfInBounds_toArray, List.set_cons_zero, List.set_cons_succ, i64_w, i32_w]; rfl
          refine pL_ (v := undef) (a' := ?_) rfl (any_of HT_.out (by kernel_rfl)) (fun _ _ _ h => h) (Or.inr ⟨by rfl, rfl⟩) ?_ ?_
          rotate_left
          ·simp only [Act.put, List.setIfInBounds_toArray, List.set_cons_zero, List.set_cons_succ, i64_w, i32_w]; rfl
          refine pL_ (v := undef) (a' := ?_) rfl (any_of HT_.out (by kernel_rfl)) (fun _ _ _ h => h) (Or.inr ⟨by rfl, rfl⟩) ?_ ?_
          rotate_left
          ·simp only [Act.put, List.setIfInBounds_toArray, List.set_cons_zero, List.set_cons_succ, i64_w, i32_w]; rfl
          iterate 2 (refine pL_ (v := ?_) (a' := ?_) rfl (any_of HT_.out (by kernel_rfl)) (fun _ _ _ h => h) (Or.inl ⟨by rfl, ?_⟩) ?_ ?_; rotate_left; (· (intro w'; first | ((with_reducible apply ym_); (conv => lhs; whnf)) | ((with_reducible apply yb_); (conv => lhs; whnf); (conv => lhs; whnf); go_simp; (with_reducible rfl)) | ((with_reducible apply yp_); (conv => lhs; whnf); (conv => lhs; whnf); (conv => lhs; whnf); go_simp; (with_reducible rfl)) | (go_simp; with_reducible rfl))); rotate_left; (· (simp only [Act.put, List.setIfInBounds_toArray, List.set_cons_zero, List.set_cons_succ, i64_w, i32_w]; rfl)))
          refine pL_ (v := undef) (a' := ?_) rfl (any_of HT_.out (by kernel_rfl)) (fun _ _ _ h => h) (Or.inr ⟨by rfl, rfl⟩) ?_ ?_
          rotate_left
          ·simp only [Act.put, List.setIfInBounds_toArray, List.set_cons_zero, List.set_cons_succ, i64_w, i32_w]; rfl
          refine pL_ (v := undef) (a' := ?_) rfl (any_of HT_.out (by kernel_rfl)) (fun _ _ _ h => h) (Or.inr ⟨by rfl, rfl⟩) ?_ ?_
          rotate_left
          ·simp only [Act.put, List.setIfInBounds_toArray, List.set_cons_zero, List.set_cons_succ, i64_w, i32_w]; rfl
          refine pL_ (v := undef) (a' := ?_) rfl (any_of HT_.out (by kernel_rfl)) (fun _ _ _ h => h) (Or.inr ⟨by rfl, rfl⟩) ?_ ?_
          rotate_left
          ·simp only [Act.put, List.setIfInBounds_toArray, List.set_cons_zero, List.set_cons_succ, i64_w, i32_w]; rfl
          refine pL_ (v := undef) (a' := ?_) rfl (any_of HT_.out (by kernel_rfl)) (fun _ _ _ h => h) (Or.inr ⟨by rfl, rfl⟩) ?_ ?_
          rotate_left
          ·simp only [Act.put, List.setIfInBounds_toArray, List.set_cons_zero, List.set_cons_succ, i64_w, i32_w]; rfl
          refine pL_ (v := undef) (a' := ?_) rfl (any_of HT_.out (by kernel_rfl)) (fun _ _ _ h => h) (Or.inr ⟨by rfl, rfl⟩) ?_ ?_
          rotate_left
          ·simp only [Act.put, List.setIfInBounds_toArray, List.set_cons_zero, List.set_cons_succ, i64_w, i32_w]; rfl
          iterate 2 (refine pL_ (v := ?_) (a' := ?_) rfl (any_of HT_.out (by kernel_rfl)) (fun _ _ _ h => h) (Or.inl ⟨by rfl, ?_⟩) ?_ ?_; rotate_left; (· (intro w'; first | ((with_reducible apply ym_); (conv => lhs; whnf)) | ((with_reducible apply yb_); (conv => lhs; whnf); (conv => lhs; whnf); go_simp; (with_reducible rfl)) | ((with_reducible apply yp_); (conv => lhs; whnf); (conv => lhs; whnf); (conv => lhs; whnf); go_simp; (with_reducible rfl)) | (go_simp; with_reducible rfl))); rotate_left; (· (simp only [Act.put, List.setIfInBounds_toArray, List.set_cons_zero, List.set_cons_succ, i64_w, i32_w]; rfl)))
          refine dL_ (done_of HT_.out (by kernel_rfl)) ?_
          try go_wp2
          go_roundg k6
          case measure => have := HJ26.out; have := HJ132.out; have := HJ218.out; have := HJ280.out; have := HK5.out; have := HK6.out; omega
          case rel => exact ⟨(wrap64 (x83_6 + 1)), (by first | rfl | (simp; done) | (simp [*]; done)), H', ⟨by have := HJ26.out; have := HJ132.out; have := HJ218.out; have := HJ280.out; have := HK5.out; have := HK6.out; omega⟩, ⟨by (with_reducible repeat (first | apply rA_ | apply rN_ | apply rD_)); exact HO_65.out⟩, ⟨by (with_reducible repeat (first | refine kN_ ?_ _ | refine kD_ ?_ | refine kA_ ?_ _)); exact BK306.out⟩, ⟨by (with_reducible repeat (first | refine kN_ ?_ _ | refine kD_ ?_ | refine kA_ ?_ _)); exact BK378.out⟩, ⟨by (with_reducible repeat (first | refine kN_ ?_ _ | refine kD_ ?_ | refine kA_ ?_ _)); exact BK383.out⟩, ⟨by repeat (first | (with_reducible first | exact HB.out | apply bA_ | apply bN_ | apply bD_ | refine bS_ ?_ GE306.out | refine bS_ ?_ GE378.out | refine bS_ ?_ GE383.out) | exact HB.out)⟩⟩
        rw [if_neg c437] at H
        have c437b0 : decide (x83_6 ≤ 100) = false := decide_eq_false c437
        clear c437
        replace H := Option.bind_eq_some_iff.mp H
        obtain ⟨t409, A4570, H⟩ := H
        try dsimp only at H
        have A457 := Aside0.mk A4570
        clear A4570
        by_cases c458 : t409 = true
        ·subst c458
         rw [if_pos rfl] at H
         by_cases c459 : t377 = true
         ·subst c459
          rw [if_pos rfl] at H
          replace H := Option.bind_eq_some_iff.mp H
          obtain ⟨⟨t410, t411⟩, A4600, H⟩ := H
          try dsimp only at H
          have A460 := Aside0.mk A4600
          clear A4600
          by_cases c461 : t411 = true
          ·subst c461
           rw [if_pos rfl] at H
           replace H := Option.some.inj H
           obtain ⟨Ao462, co462, eo462⟩ := Kd.R_slice HO_65.out
           subst eo462
           go_wp2_with (first | ((with_reducible refine gate_callee (f := 60) rfl ?_); refine goesL_ (some 618) rfl rfl Tryd.func60 (by kernel_rfl) rfl #[.slice Ao462 t366.length co462] rfl (by (try simp only [List.map_toArray, List.map_cons, List.map_nil]); first | done | rfl | (simp only [List.length_drop, List.length_take]; rfl)) ?_; (with_reducible refine (laws_lRises.calls k6 _ _ t366 true _ ?side1 ?side2 A457.out).mono ?_); (case side1 => repeat (first | exact (rR_ HO_65.out).2.2 | (with_reducible refine Kd.C_alloc ?_ _) | (with_reducible refine Kd.C_drewN ?_ _) | (with_reducible refine Kd.C_drew ?_))); (case side2 => exact (rR_ HO_65.out).2.1); rintro e w' ⟨rfl, ⟨nd, rfl⟩⟩; refine ⟨_, rfl, ?_⟩; have hnb463 := NB378_306.out; have hnc463 := NB306_378.out; have hnb464 := NB378_383.out; have hnc464 := NB383_378.out; have hcz465_0 : wr.cell? ⟨gb378, 0, none⟩ = some (.int .i64 t374) := (blk_cell BK378.out 0).trans rfl; have hcz465_1 : wr.cell? ⟨gb378, 1, none⟩ = some (.int .i64 t375) := (blk_cell BK378.out 1).trans rfl; have hcz465_2 : wr.cell? ⟨gb378, 2, none⟩ = some (.int .i64 t376) := (blk_cell BK378.out 2).trans rfl; have hfz465_0 := blk_frozen BK378.out 0; have hfz465_1 := blk_frozen BK378.out 1; have hfz465_2 := blk_frozen BK378.out 2) | ((with_reducible refine gate_callee (f := 17) rfl ?_); refine goesL_ (some 623) rfl rfl Tryd.func17 (by kernel_rfl) rfl #[.agg #[.int .i64 t374, .int .i64 t375, .int .i64 t376]] rfl (by (try simp only [List.map_toArray, List.map_cons, List.map_nil]); first | done | rfl | (simp only [List.length_drop, List.length_take]; rfl)) ?_; (with_reducible refine (impl_FlightText.calls t374 t375 t376 t410 true _ A460.out (Laid.below HLA.out (by repeat (first | (with_reducible first | exact HB.out | apply bA_ | apply bN_ | apply bD_ | refine bS_ ?_ GE306.out | refine bS_ ?_ GE344.out | refine bS_ ?_ GE378.out | refine bS_ ?_ GE383.out | refine bS_ ?_ GE400.out) | exact HB.out)))).mono ?_); rintro e w466 ⟨rfl, hb⟩; refine ⟨_, rfl, ?_⟩; have n0_ := Aside0.mk (rB_ (by (with_reducible repeat (first | apply rA_ | apply rN_ | apply rD_)); exact HO_65.out) hb); have n1_ := Aside0.mk (blk_below (g := gb306) (o := .cells #[.int .i64 a0_0, .int .i64 a0_1, .int .i64 a0_2] 32 (0, 0)) (by (with_reducible repeat (first | refine kN_ ?_ _ | refine kD_ ?_ | refine kA_ ?_ _)); exact BK306.out) hb); have n2_ := Aside0.mk (blk_below (g := gb378) (o := .cells #[.int .i64 t374, .int .i64 t375, .int .i64 t376] 32 (0, 0)) (by (with_reducible repeat (first | refine kN_ ?_ _ | refine kD_ ?_ | refine kA_ ?_ _)); exact BK378.out) hb); have n3_ := Aside0.mk (blk_below (g := gb383) (o := .cells #[.int .i64 t379, .int .i64 t380, .int .i64 t381] 32 (0, 0)) (by (with_reducible repeat (first | refine kN_ ?_ _ | refine kD_ ?_ | refine kA_ ?_ _)); exact BK383.out) hb); have n4_ := Aside0.mk (below_step (by repeat (first | (with_reducible first | exact HB.out | apply bA_ | apply bN_ | apply bD_ | refine bS_ ?_ GE306.out | refine bS_ ?_ GE378.out | refine bS_ ?_ GE383.out) | exact HB.out)) hb); clear HO_65; clear BK306; clear BK378; clear BK383; clear HB; have HO_65 := n0_; have BK306 := n1_; have BK378 := n2_; have BK383 := n3_; have HB := n4_; clear n0_ n1_ n2_ n3_ n4_; (try clear hb); (try clear hb2); (try clear hk); (try clear hi)))
           go_ret
           exact ⟨by first | rfl | rw [H] | (have h_ := eq_of_beq H; simp [h_]) | (simp [errW_none, errW_some] <;> rfl) | (simp [*, errW_none, errW_some] <;> rfl), by repeat (first | (with_reducible first | exact HB.out | apply bA_ | apply bN_ | apply bD_ | refine bS_ ?_ GE306.out | refine bS_ ?_ GE378.out | refine bS_ ?_ GE383.out) | exact HB.out)⟩
          replace c461 := Bool.eq_false_iff.mpr c461
          subst c461
          rw [if_neg (show ¬ (false = true) by decide)] at H
          exact absurd (Option.some.inj H) (by decide)
         replace c459 := Bool.eq_false_iff.mpr c459
         subst c459
         rw [if_neg (show ¬ (false = true) by decide)] at H
         clear H
         obtain ⟨Ao472, co472, eo472⟩ := Kd.R_slice HO_65.out
         subst eo472
         go_wp2_with (first | ((with_reducible refine gate_callee (f := 60) rfl ?_); refine goesL_ (some 618) rfl rfl Tryd.func60 (by kernel_rfl) rfl #[.slice Ao472 t366.length co472] rfl (by (try simp only [List.map_toArray, List.map_cons, List.map_nil]); first | done | rfl | (simp only [List.length_drop, List.length_take]; rfl)) ?_; (with_reducible refine (laws_lRises.calls k6 _ _ t366 true _ ?side1 ?side2 A457.out).mono ?_); (case side1 => repeat (first | exact (rR_ HO_65.out).2.2 | (with_reducible refine Kd.C_alloc ?_ _) | (with_reducible refine Kd.C_drewN ?_ _) | (with_reducible refine Kd.C_drew ?_))); (case side2 => exact (rR_ HO_65.out).2.1); rintro e w' ⟨rfl, ⟨nd, rfl⟩⟩; refine ⟨_, rfl, ?_⟩))
         go_ret
         exact ⟨by first | rfl | rw [H] | (have h_ := eq_of_beq H; simp [h_]) | (simp [errW_none, errW_some] <;> rfl) | (simp [*, errW_none, errW_some] <;> rfl), by repeat (first | (with_reducible first | exact HB.out | apply bA_ | apply bN_ | apply bD_ | refine bS_ ?_ GE306.out | refine bS_ ?_ GE378.out | refine bS_ ?_ GE383.out) | exact HB.out)⟩
        replace c458 := Bool.eq_false_iff.mpr c458
        subst c458
        rw [if_neg (show ¬ (false = true) by decide)] at H
        exact absurd (Option.some.inj H) (by decide)
      replace c436 := Bool.eq_false_iff.mpr c436
      subst c436
      rw [if_neg (show ¬ (false = true) by decide)] at H
      by_cases c474 : t377 = true
      ·subst c474
       rw [if_pos rfl] at H
       replace H := Option.bind_eq_some_iff.mp H
       obtain ⟨⟨t412, t413⟩, A4750, H⟩ := H
       try dsimp only at H
       have A475 := Aside0.mk A4750
       clear A4750
       by_cases c476 : t413 = true
       ·subst c476
        rw [if_pos rfl] at H
        replace H := Option.some.inj H
        have hnb477 := NB378_306.out
        have hnc477 := NB306_378.out
        have hnb478 := NB378_383.out
        have hnc478 := NB383_378.out
        have hcz479_0 : wr.cell? ⟨gb378, 0, none⟩ = some (.int .i64 t374) := (blk_cell BK378.out 0).trans rfl
        have hcz479_1 : wr.cell? ⟨gb378, 1, none⟩ = some (.int .i64 t375) := (blk_cell BK378.out 1).trans rfl
        have hcz479_2 : wr.cell? ⟨gb378, 2, none⟩ = some (.int .i64 t376) := (blk_cell BK378.out 2).trans rfl
        have hfz479_0 := blk_frozen BK378.out 0
        have hfz479_1 := blk_frozen BK378.out 1
        have hfz479_2 := blk_frozen BK378.out 2
        go_wp2_with (first | ((with_reducible refine gate_callee (f := 17) rfl ?_); refine goesL_ (some 623) rfl rfl Tryd.func17 (by kernel_rfl) rfl #[.agg #[.int .i64 t374, .int .i64 t375, .int .i64 t376]] rfl (by (try simp only [List.map_toArray, List.map_cons, List.map_nil]); first | done | rfl | (simp only [List.length_drop, List.length_take]; rfl)) ?_; (with_reducible refine (impl_FlightText.calls t374 t375 t376 t412 true _ A475.out (Laid.below HLA.out (by repeat (first | (with_reducible first | exact HB.out | apply bA_ | apply bN_ | apply bD_ | refine bS_ ?_ GE306.out | refine bS_ ?_ GE344.out | refine bS_ ?_ GE378.out | refine bS_ ?_ GE383.out | refine bS_ ?_ GE400.out) | exact HB.out)))).mono ?_); rintro e w480 ⟨rfl, hb⟩; refine ⟨_, rfl, ?_⟩; have n0_ := Aside0.mk (rB_ (by (with_reducible repeat (first | apply rA_ | apply rN_ | apply rD_)); exact HO_61.out) hb); have n1_ := Aside0.mk (rB_ (by (with_reducible repeat (first | apply rA_ | apply rN_ | apply rD_)); exact HO_65.out) hb); have n2_ := Aside0.mk (rB_ (by (with_reducible repeat (first | apply rA_ | apply rN_ | apply rD_)); exact HO_527.out) hb); have n3_ := Aside0.mk (blk_below (g := gb306) (o := .cells #[.int .i64 a0_0, .int .i64 a0_1, .int .i64 a0_2] 32 (0, 0)) (by (with_reducible repeat (first | refine kN_ ?_ _ | refine kD_ ?_ | refine kA_ ?_ _)); exact BK306.out) hb); have n4_ := Aside0.mk (blk_below (g := gb378) (o := .cells #[.int .i64 t374, .int .i64 t375, .int .i64 t376] 32 (0, 0)) (by (with_reducible repeat (first | refine kN_ ?_ _ | refine kD_ ?_ | refine kA_ ?_ _)); exact BK378.out) hb); have n5_ := Aside0.mk (blk_below (g := gb383) (o := .cells #[.int .i64 t379, .int .i64 t380, .int .i64 t381] 32 (0, 0)) (by (with_reducible repeat (first | refine kN_ ?_ _ | refine kD_ ?_ | refine kA_ ?_ _)); exact BK383.out) hb); have n6_ := Aside0.mk (below_step (by repeat (first | (with_reducible first | exact HB.out | apply bA_ | apply bN_ | apply bD_ | refine bS_ ?_ GE306.out | refine bS_ ?_ GE378.out | refine bS_ ?_ GE383.out) | exact HB.out)) hb); clear HO_61; clear HO_65; clear HO_527; clear BK306; clear BK378; clear BK383; clear HB; have HO_61 := n0_; have HO_65 := n1_; have HO_527 := n2_; have BK306 := n3_; have BK378 := n4_; have BK383 := n5_; have HB := n6_; clear n0_ n1_ n2_ n3_ n4_ n5_ n6_; (try clear hb); (try clear hb2); (try clear hk); (try clear hi)))
        go_ret
        exact ⟨by first | rfl | rw [H] | (have h_ := eq_of_beq H; simp [h_]) | (simp [errW_none, errW_some] <;> rfl) | (simp [*, errW_none, errW_some] <;> rfl), by repeat (first | (with_reducible first | exact HB.out | apply bA_ | apply bN_ | apply bD_ | refine bS_ ?_ GE306.out | refine bS_ ?_ GE378.out | refine bS_ ?_ GE383.out) | exact HB.out)⟩
       replace c476 := Bool.eq_false_iff.mpr c476
       subst c476
       rw [if_neg (show ¬ (false = true) by decide)] at H
       exact absurd (Option.some.inj H) (by decide)
      replace c474 := Bool.eq_false_iff.mpr c474
      subst c474
      rw [if_neg (show ¬ (false = true) by decide)] at H
      clear H
      go_wp2
      go_ret
      exact ⟨by first | rfl | rw [H] | (have h_ := eq_of_beq H; simp [h_]) | (simp [errW_none, errW_some] <;> rfl) | (simp [*, errW_none, errW_some] <;> rfl), by repeat (first | (with_reducible first | exact HB.out | apply bA_ | apply bN_ | apply bD_ | refine bS_ ?_ GE306.out | refine bS_ ?_ GE378.out | refine bS_ ?_ GE383.out) | exact HB.out)⟩
theorem laws_FnRisersFitOfAll.calls (k : Nat) (a0_0 : Int) (a0_1 : Int) (a0_2 : Int) (a1 : Int) (a2 : Int) (a3 : Int) (a4 : Int) (a5 : Int) (a6 : Int) (a7 : Int) (a8 : Int) (a9 : ByteArray) (r_ : Bool) (w : World) (h : laws_FnRisersFitOfAll.f k a0_0 a0_1 a0_2 a1 a2 a3 a4 a5 a6 a7 a8 a9 = some true) (LA : Laid w) :
 Calls Tryd.prog 9 #[.agg #[.int .i64 a0_0, .int .i64 a0_1, .int .i64 a0_2], .int .i64 a1, .int .i64 a2, .int .i64 a3, .int .i64 a4, .int .i64 a5, .int .i64 a6, .int .i64 a7, .int .i64 a8, .string a9] w fun e w' => e = .returned (.bool true) ∧ Below w.heap.size w w' := by
 exact laws_FnRisersFitOfAll.truly k a0_0 a0_1 a0_2 a1 a2 a3 a4 a5 a6 a7 a8 a9 w h LA
end Go.Proofs.YtbmdgmmegchmnaaDoor.R
