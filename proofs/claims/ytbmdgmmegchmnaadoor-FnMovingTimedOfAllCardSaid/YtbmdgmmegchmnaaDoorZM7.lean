/- The walk of the law FnMovingTimedOfAll where it answers true: printed by a program of this session over the kit print, and made short. No further condition. -/
import Derived.Test.YtbmdgmmegchmnaaDoorZM6
namespace Go.Proofs.YtbmdgmmegchmnaaDoor.M
open Go.RowKit Go.Proofs.YtbmdgmmegchmnaaDoorW.PrintWords Go.Proofs.YtbmdgmmegchmnaaDoorW.PrintLast Go.Proofs.YtbmdgmmegchmnaaDoorW.PrintMore
attribute [local go_sem] max2_int min2_int max_two min_two max_three min_three max_four min_four
set_option linter.unusedVariables false
set_option linter.unusedSimpArgs false
theorem eqA26 (d : Nat) (w : World) (x0 y0 x1 y1 : Int) :
 (Op.equalIn (d + 2) 26 (.agg #[.int .i64 x0, .int .i64 x1]) (.agg #[.int .i64 y0, .int .i64 y1])).run Tryd.prog w = .ok (x0 == y0 && (x1 == y1)) w := by
 refine eqA_of Tryd.underlying26 (by kernel_rfl) ?_
 refine eqf_cons (by rfl) (by go_simp; rfl) (by go_simp; rfl) (by go_simp) ?_
 exact eqf_last (by rfl) (by go_simp; rfl) (by go_simp; rfl) (by go_simp)
attribute [local go_sem high] eqA26
set_option maxHeartbeats 0 in
set_option maxRecDepth 100000 in
theorem laws_FnMovingTimedOfAll.truly (k : Nat) (a0_0 : Int) (a0_1 : Int) (a1 : Int) (a2 : Int) (a3 : Int) (a4 : Int) (a5 : Int) (a6 : Int) (a7 : Int) (a8 : Int) (a9_0 : Int) (a9_1 : Int) (a10 : Int) (w : World) (h : laws_FnMovingTimedOfAll.f k a0_0 a0_1 a1 a2 a3 a4 a5 a6 a7 a8 a9_0 a9_1 a10 = some true) (LA : Laid w) :
 Calls Tryd.prog 11 #[.agg #[.int .i64 a0_0, .int .i64 a0_1], .int .i64 a1, .int .i64 a2, .int .i64 a3, .int .i64 a4, .int .i64 a5, .int .i64 a6, .int .i64 a7, .int .i64 a8, .agg #[.int .i64 a9_0, .int .i64 a9_1], .int .i64 a10] w fun e w' => e = .returned (.bool true) ∧ Below w.heap.size w w' := by
 have HLA := Aside0.mk LA
 clear LA
 have hu26 := Tryd.underlying26
 have HB := Aside0.mk (Below.refl w.heap.size w)
 have H : ((impl_TimeWith.f k a0_0 a0_1 a1).bind fun bt283 => ((spec_TimeWith.f k a0_0 a0_1 a1).bind fun bt286 => ((impl_StepsWith.f k a0_0 a0_1 a1).bind fun bt289 => ((spec_StepsWith.f k a0_0 a0_1 a1).bind fun bt292 => ((impl_TimeAgainst.f k a0_0 a0_1 a1).bind fun bt295 => ((spec_TimeAgainst.f k a0_0 a0_1 a1).bind fun bt298 => ((impl_StepsAgainst.f k a0_0 a0_1 a1).bind fun bt301 => ((spec_StepsAgainst.f k a0_0 a0_1 a1).bind fun bt304 => ((impl_RoundTrip.f k a0_0 a0_1 a1).bind fun bt307 => ((spec_RoundTrip.f k a0_0 a0_1 a1).bind fun bt310 => ((impl_WholeTimes.f k a0_0 a0_1).bind fun bt313 => ((spec_WholeTimes.f k a0_0 a0_1).bind fun bt317 => ((impl_MovingText.f a0_0 a0_1).bind fun bt321 => ((spec_MovingText.f k a0_0 a0_1).bind fun bt323 => (if (bt283.2.2 != bt286.2.2) = true then (laws_FnMovingTimedOfAll.j0 k a1 a2 a3 a4 a5 a6 a7 a8 a10 bt283.1 bt283.2.1 bt283.2.2 bt289.1 bt289.2.1 bt295.1 bt295.2.1 bt295.2.2 bt301.1 bt301.2.1 bt307.1 bt307.2.1 bt313.1 bt313.2 bt321.1 true a0_0 a0_1 a9_0 a9_1) else (if bt283.1 = bt286.1 then (if bt283.2.1 = bt286.2.1 then (if (bt289.2.2 != bt292.2.2) = true then (laws_FnMovingTimedOfAll.j0 k a1 a2 a3 a4 a5 a6 a7 a8 a10 bt283.1 bt283.2.1 bt283.2.2 bt289.1 bt289.2.1 bt295.1 bt295.2.1 bt295.2.2 bt301.1 bt301.2.1 bt307.1 bt307.2.1 bt313.1 bt313.2 bt321.1 true a0_0 a0_1 a9_0 a9_1) else (if bt289.1 = bt292.1 then (if bt289.2.1 = bt292.2.1 then (if (bt295.2.2 != bt298.2.2) = true then (laws_FnMovingTimedOfAll.j0 k a1 a2 a3 a4 a5 a6 a7 a8 a10 bt283.1 bt283.2.1 bt283.2.2 bt289.1 bt289.2.1 bt295.1 bt295.2.1 bt295.2.2 bt301.1 bt301.2.1 bt307.1 bt307.2.1 bt313.1 bt313.2 bt321.1 true a0_0 a0_1 a9_0 a9_1) else (if bt295.1 = bt298.1 then (if bt295.2.1 = bt298.2.1 then (if (bt301.2.2 != bt304.2.2) = true then (laws_FnMovingTimedOfAll.j0 k a1 a2 a3 a4 a5 a6 a7 a8 a10 bt283.1 bt283.2.1 bt283.2.2 bt289.1 bt289.2.1 bt295.1 bt295.2.1 bt295.2.2 bt301.1 bt301.2.1 bt307.1 bt307.2.1 bt313.1 bt313.2 bt321.1 true a0_0 a0_1 a9_0 a9_1) else (if bt301.1 = bt304.1 then (if bt301.2.1 = bt304.2.1 then (if (bt307.2.2 != bt310.2.2) = true then (laws_FnMovingTimedOfAll.j0 k a1 a2 a3 a4 a5 a6 a7 a8 a10 bt283.1 bt283.2.1 bt283.2.2 bt289.1 bt289.2.1 bt295.1 bt295.2.1 bt295.2.2 bt301.1 bt301.2.1 bt307.1 bt307.2.1 bt313.1 bt313.2 bt321.1 true a0_0 a0_1 a9_0 a9_1) else (if bt307.1 = bt310.1 then (if bt307.2.1 = bt310.2.1 then (if (bt313.2 != bt317.2) = true then (laws_FnMovingTimedOfAll.j0 k a1 a2 a3 a4 a5 a6 a7 a8 a10 bt283.1 bt283.2.1 bt283.2.2 bt289.1 bt289.2.1 bt295.1 bt295.2.1 bt295.2.2 bt301.1 bt301.2.1 bt307.1 bt307.2.1 bt313.1 bt313.2 bt321.1 true a0_0 a0_1 a9_0 a9_1) else ((laws_lSame.f k bt313.1 bt317.1).bind fun t325 => (if t325 = true then (if (bt321.2 != bt323.2) = true then (laws_FnMovingTimedOfAll.j0 k a1 a2 a3 a4 a5 a6 a7 a8 a10 bt283.1 bt283.2.1 bt283.2.2 bt289.1 bt289.2.1 bt295.1 bt295.2.1 bt295.2.2 bt301.1 bt301.2.1 bt307.1 bt307.2.1 bt313.1 bt313.2 bt321.1 true a0_0 a0_1 a9_0 a9_1) else (if bt321.1.toList = bt323.1.toList then (if (bt289.2.2 != bt283.2.2) = true then (laws_FnMovingTimedOfAll.j0 k a1 a2 a3 a4 a5 a6 a7 a8 a10 bt283.1 bt283.2.1 bt283.2.2 bt289.1 bt289.2.1 bt295.1 bt295.2.1 bt295.2.2 bt301.1 bt301.2.1 bt307.1 bt307.2.1 bt313.1 bt313.2 bt321.1 true a0_0 a0_1 a9_0 a9_1) else (if (bt301.2.2 != bt295.2.2) = true then (laws_FnMovingTimedOfAll.j0 k a1 a2 a3 a4 a5 a6 a7 a8 a10 bt283.1 bt283.2.1 bt283.2.2 bt289.1 bt289.2.1 bt295.1 bt295.2.1 bt295.2.2 bt301.1 bt301.2.1 bt307.1 bt307.2.1 bt313.1 bt313.2 bt321.1 true a0_0 a0_1 a9_0 a9_1) else (if (bt307.2.2 != bt283.2.2) = true then (laws_FnMovingTimedOfAll.j0 k a1 a2 a3 a4 a5 a6 a7 a8 a10 bt283.1 bt283.2.1 bt283.2.2 bt289.1 bt289.2.1 bt295.1 bt295.2.1 bt295.2.2 bt301.1 bt301.2.1 bt307.1 bt307.2.1 bt313.1 bt313.2 bt321.1 true a0_0 a0_1 a9_0 a9_1) else (if bt295.2.2 = true then (if bt283.2.2 = true then ((impl_IsMoving.f a0_0 a0_1).bind fun t326 => (if (bt313.2 != t326) = true then (laws_FnMovingTimedOfAll.j0 k a1 a2 a3 a4 a5 a6 a7 a8 a10 bt283.1 bt283.2.1 bt283.2.2 bt289.1 bt289.2.1 bt295.1 bt295.2.1 bt295.2.2 bt301.1 bt301.2.1 bt307.1 bt307.2.1 bt313.1 bt313.2 bt321.1 true a0_0 a0_1 a9_0 a9_1) else ((impl_IsMoving.f a0_0 a0_1).bind fun t327 => ((spec_IsMoving.f a0_0 a0_1).bind fun t328 => (if (t327 != t328) = true then (laws_FnMovingTimedOfAll.j0 k a1 a2 a3 a4 a5 a6 a7 a8 a10 bt283.1 bt283.2.1 bt283.2.2 bt289.1 bt289.2.1 bt295.1 bt295.2.1 bt295.2.2 bt301.1 bt301.2.1 bt307.1 bt307.2.1 bt313.1 bt313.2 bt321.1 true a0_0 a0_1 a9_0 a9_1) else (if (bt321.2 != bt313.2) = true then (laws_FnMovingTimedOfAll.j0 k a1 a2 a3 a4 a5 a6 a7 a8 a10 bt283.1 bt283.2.1 bt283.2.2 bt289.1 bt289.2.1 bt295.1 bt295.2.1 bt295.2.2 bt301.1 bt301.2.1 bt307.1 bt307.2.1 bt313.1 bt313.2 bt321.1 true a0_0 a0_1 a9_0 a9_1) else (laws_FnMovingTimedOfAll.j0 k a1 a2 a3 a4 a5 a6 a7 a8 a10 bt283.1 bt283.2.1 bt283.2.2 bt289.1 bt289.2.1 bt295.1 bt295.2.1 bt295.2.2 bt301.1 bt301.2.1 bt307.1 bt307.2.1 bt313.1 bt313.2 bt321.1 (!bt313.2) a0_0 a0_1 a9_0 a9_1))))))) else (laws_FnMovingTimedOfAll.j0 k a1 a2 a3 a4 a5 a6 a7 a8 a10 bt283.1 bt283.2.1 bt283.2.2 bt289.1 bt289.2.1 bt295.1 bt295.2.1 bt295.2.2 bt301.1 bt301.2.1 bt307.1 bt307.2.1 bt313.1 bt313.2 bt321.1 true a0_0 a0_1 a9_0 a9_1)) else ((impl_IsMoving.f a0_0 a0_1).bind fun t329 => (if (bt313.2 != t329) = true then (laws_FnMovingTimedOfAll.j0 k a1 a2 a3 a4 a5 a6 a7 a8 a10 bt283.1 bt283.2.1 bt283.2.2 bt289.1 bt289.2.1 bt295.1 bt295.2.1 bt295.2.2 bt301.1 bt301.2.1 bt307.1 bt307.2.1 bt313.1 bt313.2 bt321.1 true a0_0 a0_1 a9_0 a9_1) else ((impl_IsMoving.f a0_0 a0_1).bind fun t330 => ((spec_IsMoving.f a0_0 a0_1).bind fun t331 => (if (t330 != t331) = true then (laws_FnMovingTimedOfAll.j0 k a1 a2 a3 a4 a5 a6 a7 a8 a10 bt283.1 bt283.2.1 bt283.2.2 bt289.1 bt289.2.1 bt295.1 bt295.2.1 bt295.2.2 bt301.1 bt301.2.1 bt307.1 bt307.2.1 bt313.1 bt313.2 bt321.1 true a0_0 a0_1 a9_0 a9_1) else (if (bt321.2 != bt313.2) = true then (laws_FnMovingTimedOfAll.j0 k a1 a2 a3 a4 a5 a6 a7 a8 a10 bt283.1 bt283.2.1 bt283.2.2 bt289.1 bt289.2.1 bt295.1 bt295.2.1 bt295.2.2 bt301.1 bt301.2.1 bt307.1 bt307.2.1 bt313.1 bt313.2 bt321.1 true a0_0 a0_1 a9_0 a9_1) else (if bt283.2.2 = true then (laws_FnMovingTimedOfAll.j0 k a1 a2 a3 a4 a5 a6 a7 a8 a10 bt283.1 bt283.2.1 bt283.2.2 bt289.1 bt289.2.1 bt295.1 bt295.2.1 bt295.2.2 bt301.1 bt301.2.1 bt307.1 bt307.2.1 bt313.1 bt313.2 bt321.1 (!bt313.2) a0_0 a0_1 a9_0 a9_1) else (laws_FnMovingTimedOfAll.j0 k a1 a2 a3 a4 a5 a6 a7 a8 a10 bt283.1 bt283.2.1 bt283.2.2 bt289.1 bt289.2.1 bt295.1 bt295.2.1 bt295.2.2 bt301.1 bt301.2.1 bt307.1 bt307.2.1 bt313.1 bt313.2 bt321.1 false a0_0 a0_1 a9_0 a9_1)))))))))))) else (laws_FnMovingTimedOfAll.j0 k a1 a2 a3 a4 a5 a6 a7 a8 a10 bt283.1 bt283.2.1 bt283.2.2 bt289.1 bt289.2.1 bt295.1 bt295.2.1 bt295.2.2 bt301.1 bt301.2.1 bt307.1 bt307.2.1 bt313.1 bt313.2 bt321.1 true a0_0 a0_1 a9_0 a9_1))) else (laws_FnMovingTimedOfAll.j0 k a1 a2 a3 a4 a5 a6 a7 a8 a10 bt283.1 bt283.2.1 bt283.2.2 bt289.1 bt289.2.1 bt295.1 bt295.2.1 bt295.2.2 bt301.1 bt301.2.1 bt307.1 bt307.2.1 bt313.1 bt313.2 bt321.1 true a0_0 a0_1 a9_0 a9_1)))) else (laws_FnMovingTimedOfAll.j0 k a1 a2 a3 a4 a5 a6 a7 a8 a10 bt283.1 bt283.2.1 bt283.2.2 bt289.1 bt289.2.1 bt295.1 bt295.2.1 bt295.2.2 bt301.1 bt301.2.1 bt307.1 bt307.2.1 bt313.1 bt313.2 bt321.1 true a0_0 a0_1 a9_0 a9_1)) else (laws_FnMovingTimedOfAll.j0 k a1 a2 a3 a4 a5 a6 a7 a8 a10 bt283.1 bt283.2.1 bt283.2.2 bt289.1 bt289.2.1 bt295.1 bt295.2.1 bt295.2.2 bt301.1 bt301.2.1 bt307.1 bt307.2.1 bt313.1 bt313.2 bt321.1 true a0_0 a0_1 a9_0 a9_1))) else (laws_FnMovingTimedOfAll.j0 k a1 a2 a3 a4 a5 a6 a7 a8 a10 bt283.1 bt283.2.1 bt283.2.2 bt289.1 bt289.2.1 bt295.1 bt295.2.1 bt295.2.2 bt301.1 bt301.2.1 bt307.1 bt307.2.1 bt313.1 bt313.2 bt321.1 true a0_0 a0_1 a9_0 a9_1)) else (laws_FnMovingTimedOfAll.j0 k a1 a2 a3 a4 a5 a6 a7 a8 a10 bt283.1 bt283.2.1 bt283.2.2 bt289.1 bt289.2.1 bt295.1 bt295.2.1 bt295.2.2 bt301.1 bt301.2.1 bt307.1 bt307.2.1 bt313.1 bt313.2 bt321.1 true a0_0 a0_1 a9_0 a9_1))) else (laws_FnMovingTimedOfAll.j0 k a1 a2 a3 a4 a5 a6 a7 a8 a10 bt283.1 bt283.2.1 bt283.2.2 bt289.1 bt289.2.1 bt295.1 bt295.2.1 bt295.2.2 bt301.1 bt301.2.1 bt307.1 bt307.2.1 bt313.1 bt313.2 bt321.1 true a0_0 a0_1 a9_0 a9_1)) else (laws_FnMovingTimedOfAll.j0 k a1 a2 a3 a4 a5 a6 a7 a8 a10 bt283.1 bt283.2.1 bt283.2.2 bt289.1 bt289.2.1 bt295.1 bt295.2.1 bt295.2.2 bt301.1 bt301.2.1 bt307.1 bt307.2.1 bt313.1 bt313.2 bt321.1 true a0_0 a0_1 a9_0 a9_1))) else (laws_FnMovingTimedOfAll.j0 k a1 a2 a3 a4 a5 a6 a7 a8 a10 bt283.1 bt283.2.1 bt283.2.2 bt289.1 bt289.2.1 bt295.1 bt295.2.1 bt295.2.2 bt301.1 bt301.2.1 bt307.1 bt307.2.1 bt313.1 bt313.2 bt321.1 true a0_0 a0_1 a9_0 a9_1)) else (laws_FnMovingTimedOfAll.j0 k a1 a2 a3 a4 a5 a6 a7 a8 a10 bt283.1 bt283.2.1 bt283.2.2 bt289.1 bt289.2.1 bt295.1 bt295.2.1 bt295.2.2 bt301.1 bt301.2.1 bt307.1 bt307.2.1 bt313.1 bt313.2 bt321.1 true a0_0 a0_1 a9_0 a9_1))) else (laws_FnMovingTimedOfAll.j0 k a1 a2 a3 a4 a5 a6 a7 a8 a10 bt283.1 bt283.2.1 bt283.2.2 bt289.1 bt289.2.1 bt295.1 bt295.2.1 bt295.2.2 bt301.1 bt301.2.1 bt307.1 bt307.2.1 bt313.1 bt313.2 bt321.1 true a0_0 a0_1 a9_0 a9_1)) else (laws_FnMovingTimedOfAll.j0 k a1 a2 a3 a4 a5 a6 a7 a8 a10 bt283.1 bt283.2.1 bt283.2.2 bt289.1 bt289.2.1 bt295.1 bt295.2.1 bt295.2.2 bt301.1 bt301.2.1 bt307.1 bt307.2.1 bt313.1 bt313.2 bt321.1 true a0_0 a0_1 a9_0 a9_1))))))))))))))))) = some true := h
 clear h
 replace H := Option.bind_eq_some_iff.mp H
 obtain ⟨⟨t283, t284, t285⟩, A120, H⟩ := H
 try dsimp only at H
 have A12 := Aside0.mk A120
 clear A120
 replace H := Option.bind_eq_some_iff.mp H
 obtain ⟨⟨t286, t287, t288⟩, A130, H⟩ := H
 try dsimp only at H
 have A13 := Aside0.mk A130
 clear A130
 replace H := Option.bind_eq_some_iff.mp H
 obtain ⟨⟨t289, t290, t291⟩, A140, H⟩ := H
 try dsimp only at H
 have A14 := Aside0.mk A140
 clear A140
 replace H := Option.bind_eq_some_iff.mp H
 obtain ⟨⟨t292, t293, t294⟩, A150, H⟩ := H
 try dsimp only at H
 have A15 := Aside0.mk A150
 clear A150
 replace H := Option.bind_eq_some_iff.mp H
 obtain ⟨⟨t295, t296, t297⟩, A160, H⟩ := H
 try dsimp only at H
 have A16 := Aside0.mk A160
 clear A160
 replace H := Option.bind_eq_some_iff.mp H
 obtain ⟨⟨t298, t299, t300⟩, A170, H⟩ := H
 try dsimp only at H
 have A17 := Aside0.mk A170
 clear A170
 replace H := Option.bind_eq_some_iff.mp H
 obtain ⟨⟨t301, t302, t303⟩, A180, H⟩ := H
 try dsimp only at H
 have A18 := Aside0.mk A180
 clear A180
 replace H := Option.bind_eq_some_iff.mp H
 obtain ⟨⟨t304, t305, t306⟩, A190, H⟩ := H
 try dsimp only at H
 have A19 := Aside0.mk A190
 clear A190
 replace H := Option.bind_eq_some_iff.mp H
 obtain ⟨⟨t307, t308, t309⟩, A200, H⟩ := H
 try dsimp only at H
 have A20 := Aside0.mk A200
 clear A200
 replace H := Option.bind_eq_some_iff.mp H
 obtain ⟨⟨t310, t311, t312⟩, A210, H⟩ := H
 try dsimp only at H
 have A21 := Aside0.mk A210
 clear A210
 replace H := Option.bind_eq_some_iff.mp H
 obtain ⟨⟨t313, t316⟩, A220, H⟩ := H
 try dsimp only at H
 have A22 := Aside0.mk A220
 clear A220
 replace H := Option.bind_eq_some_iff.mp H
 obtain ⟨⟨t317, t320⟩, A230, H⟩ := H
 try dsimp only at H
 have A23 := Aside0.mk A230
 clear A230
 replace H := Option.bind_eq_some_iff.mp H
 obtain ⟨⟨t321, t322⟩, A240, H⟩ := H
 try dsimp only at H
 have A24 := Aside0.mk A240
 clear A240
 replace H := Option.bind_eq_some_iff.mp H
 obtain ⟨⟨t323, t324⟩, A250, H⟩ := H
 try dsimp only at H
 have A25 := Aside0.mk A250
 clear A250
 have HC26 := Aside0.mk H
 clear H
 go_enter Tryd.func11, Tryd.ntmps11
 go_upto_region 15 with (first | ((with_reducible refine gate_dst (N := 11) rfl ?_); refine box_event ?hg (N := 11) ?hd (cs := #[.int .i64 a0_0, .int .i64 a0_1]) (t := 26) ?hr ?_; (case hd => rfl); (case hg => rfl); (case hr => first | (go_simp; done) | (go_simp; rfl)); intro gb281 hg w27 hbox hb; have n0_ := Aside0.mk (below_step (by repeat (first | (with_reducible first | exact HB.out | apply bA_ | apply bN_ | apply bD_) | exact HB.out)) hb); have n1_ := Aside0.mk (hbox); have n2_ := Aside0.mk ((by rw [hg]; exact (below_size (by repeat (first | (with_reducible first | exact HB.out | apply bA_ | apply bN_ | apply bD_) | exact HB.out))) : w.heap.size ≤ gb281)); have n3_ := Aside0.mk ((by rw [hg]; exact (below_size (by repeat (first | (with_reducible first | exact HB.out | apply bA_ | apply bN_ | apply bD_) | exact HB.out))) : w.heap.size ≤ gb281)); clear HB; have HB := n0_; have BK281 := n1_; have GW281 := n2_; have GE281 := n3_; clear n0_ n1_ n2_ n3_; clear hb hbox hg) | ((with_reducible refine gate_dst (N := 20) rfl ?_); refine box_event ?hg (N := 20) ?hd (cs := #[.int .i64 a9_0, .int .i64 a9_1]) (t := 26) ?hr ?_; (case hd => rfl); (case hg => rfl); (case hr => first | (go_simp; done) | (go_simp; rfl)); intro gb282 hg w28 hbox hb; have n0_ := Aside0.mk (blk_below (g := gb281) (o := .cells #[.int .i64 a0_0, .int .i64 a0_1] 26 (0, 0)) (by (with_reducible repeat (first | refine kN_ ?_ _ | refine kD_ ?_ | refine kA_ ?_ _)); exact BK281.out) hb); have n1_ := Aside0.mk (below_step (by repeat (first | (with_reducible first | exact HB.out | apply bA_ | apply bN_ | apply bD_ | refine bS_ ?_ GE281.out) | exact HB.out)) hb); have n2_ := Aside0.mk (hbox); have n3_ := Aside0.mk ((by rw [hg]; exact (below_size (by repeat (first | (with_reducible first | exact HB.out | apply bA_ | apply bN_ | apply bD_ | refine bS_ ?_ GE281.out) | exact HB.out))) : w.heap.size ≤ gb282)); have n4_ := Aside0.mk ((by rw [hg]; exact (below_size (by repeat (first | (with_reducible first | exact HB.out | apply bA_ | apply bN_ | apply bD_ | refine bS_ ?_ GE281.out) | exact HB.out))) : w.heap.size ≤ gb282)); have n5_ := Aside0.mk ((by rw [hg]; exact Nat.ne_of_lt (blk_lt (g := gb281) (o := .cells #[.int .i64 a0_0, .int .i64 a0_1] 26 (0, 0)) (by (with_reducible repeat (first | refine kN_ ?_ _ | refine kD_ ?_ | refine kA_ ?_ _)); exact BK281.out)) : gb281 ≠ gb282)); have n6_ := Aside0.mk ((by rw [hg]; exact Nat.ne_of_gt (blk_lt (g := gb281) (o := .cells #[.int .i64 a0_0, .int .i64 a0_1] 26 (0, 0)) (by (with_reducible repeat (first | refine kN_ ?_ _ | refine kD_ ?_ | refine kA_ ?_ _)); exact BK281.out)) : gb282 ≠ gb281)); clear BK281; clear HB; have BK281 := n0_; have HB := n1_; have BK282 := n2_; have GW282 := n3_; have GE282 := n4_; have NB281_282 := n5_; have NB282_281 := n6_; clear n0_ n1_ n2_ n3_ n4_ n5_ n6_; clear hb hbox hg; have hnb29 := NB281_282.out; have hnc29 := NB282_281.out; have hcz30_0 : w28.cell? ⟨gb281, 0, none⟩ = some (.int .i64 a0_0) := (blk_cell BK281.out 0).trans rfl; have hcz30_1 : w28.cell? ⟨gb281, 1, none⟩ = some (.int .i64 a0_1) := (blk_cell BK281.out 1).trans rfl; have hfz30_0 := blk_frozen BK281.out 0; have hfz30_1 := blk_frozen BK281.out 1) | ((with_reducible refine gate_callee (f := 82) rfl ?_); refine goesL_ (some 98) rfl rfl Tryd.func82 (by kernel_rfl) rfl #[.agg #[.int .i64 a0_0, .int .i64 a0_1], .int .i64 a1] rfl (by (try simp only [List.map_toArray, List.map_cons, List.map_nil]); first | done | rfl | (simp only [List.length_drop, List.length_take]; rfl)) ?_; (with_reducible refine (impl_TimeWith.calls k a0_0 a0_1 a1 t283 t284 t285 _ A12.out).mono ?_); rintro e w31 ⟨rfl, hb⟩; refine ⟨_, rfl, ?_⟩; have n0_ := Aside0.mk (blk_below (g := gb281) (o := .cells #[.int .i64 a0_0, .int .i64 a0_1] 26 (0, 0)) (by (with_reducible repeat (first | refine kN_ ?_ _ | refine kD_ ?_ | refine kA_ ?_ _)); exact BK281.out) hb); have n1_ := Aside0.mk (blk_below (g := gb282) (o := .cells #[.int .i64 a9_0, .int .i64 a9_1] 26 (0, 0)) (by (with_reducible repeat (first | refine kN_ ?_ _ | refine kD_ ?_ | refine kA_ ?_ _)); exact BK282.out) hb); have n2_ := Aside0.mk (below_step (by repeat (first | (with_reducible first | exact HB.out | apply bA_ | apply bN_ | apply bD_ | refine bS_ ?_ GE281.out | refine bS_ ?_ GE282.out) | exact HB.out)) hb); clear BK281; clear BK282; clear HB; have BK281 := n0_; have BK282 := n1_; have HB := n2_; clear n0_ n1_ n2_; (try clear hb); (try clear hb2); (try clear hk); (try clear hi); have hcz32_0 : w31.cell? ⟨gb281, 0, none⟩ = some (.int .i64 a0_0) := (blk_cell BK281.out 0).trans rfl; have hcz32_1 : w31.cell? ⟨gb281, 1, none⟩ = some (.int .i64 a0_1) := (blk_cell BK281.out 1).trans rfl; have hfz32_0 := blk_frozen BK281.out 0; have hfz32_1 := blk_frozen BK281.out 1) | ((with_reducible refine gate_callee (f := 83) rfl ?_); refine goesL_ (some 105) rfl rfl Tryd.func83 (by kernel_rfl) rfl #[.agg #[.int .i64 a0_0, .int .i64 a0_1], .int .i64 a1] rfl (by (try simp only [List.map_toArray, List.map_cons, List.map_nil]); first | done | rfl | (simp only [List.length_drop, List.length_take]; rfl)) ?_; (with_reducible refine (spec_TimeWith.calls k a0_0 a0_1 a1 t286 t287 t288 _ A13.out).mono ?_); rintro e w33 ⟨rfl, hb⟩; refine ⟨_, rfl, ?_⟩; have n0_ := Aside0.mk (blk_below (g := gb281) (o := .cells #[.int .i64 a0_0, .int .i64 a0_1] 26 (0, 0)) (by (with_reducible repeat (first | refine kN_ ?_ _ | refine kD_ ?_ | refine kA_ ?_ _)); exact BK281.out) hb); have n1_ := Aside0.mk (blk_below (g := gb282) (o := .cells #[.int .i64 a9_0, .int .i64 a9_1] 26 (0, 0)) (by (with_reducible repeat (first | refine kN_ ?_ _ | refine kD_ ?_ | refine kA_ ?_ _)); exact BK282.out) hb); have n2_ := Aside0.mk (below_step (by repeat (first | (with_reducible first | exact HB.out | apply bA_ | apply bN_ | apply bD_ | refine bS_ ?_ GE281.out | refine bS_ ?_ GE282.out) | exact HB.out)) hb); clear BK281; clear BK282; clear HB; have BK281 := n0_; have BK282 := n1_; have HB := n2_; clear n0_ n1_ n2_; (try clear hb); (try clear hb2); (try clear hk); (try clear hi); have hcz34_0 : w33.cell? ⟨gb281, 0, none⟩ = some (.int .i64 a0_0) := (blk_cell BK281.out 0).trans rfl; have hcz34_1 : w33.cell? ⟨gb281, 1, none⟩ = some (.int .i64 a0_1) := (blk_cell BK281.out 1).trans rfl; have hfz34_0 := blk_frozen BK281.out 0; have hfz34_1 := blk_frozen BK281.out 1) | ((with_reducible refine gate_callee (f := 84) rfl ?_); refine goesL_ (some 112) rfl rfl Tryd.func84 (by kernel_rfl) rfl #[.agg #[.int .i64 a0_0, .int .i64 a0_1], .int .i64 a1] rfl (by (try simp only [List.map_toArray, List.map_cons, List.map_nil]); first | done | rfl | (simp only [List.length_drop, List.length_take]; rfl)) ?_; (with_reducible refine (impl_StepsWith.calls k a0_0 a0_1 a1 t289 t290 t291 _ A14.out).mono ?_); rintro e w35 ⟨rfl, hb⟩; refine ⟨_, rfl, ?_⟩; have n0_ := Aside0.mk (blk_below (g := gb281) (o := .cells #[.int .i64 a0_0, .int .i64 a0_1] 26 (0, 0)) (by (with_reducible repeat (first | refine kN_ ?_ _ | refine kD_ ?_ | refine kA_ ?_ _)); exact BK281.out) hb); have n1_ := Aside0.mk (blk_below (g := gb282) (o := .cells #[.int .i64 a9_0, .int .i64 a9_1] 26 (0, 0)) (by (with_reducible repeat (first | refine kN_ ?_ _ | refine kD_ ?_ | refine kA_ ?_ _)); exact BK282.out) hb); have n2_ := Aside0.mk (below_step (by repeat (first | (with_reducible first | exact HB.out | apply bA_ | apply bN_ | apply bD_ | refine bS_ ?_ GE281.out | refine bS_ ?_ GE282.out) | exact HB.out)) hb); clear BK281; clear BK282; clear HB; have BK281 := n0_; have BK282 := n1_; have HB := n2_; clear n0_ n1_ n2_; (try clear hb); (try clear hb2); (try clear hk); (try clear hi); have hcz36_0 : w35.cell? ⟨gb281, 0, none⟩ = some (.int .i64 a0_0) := (blk_cell BK281.out 0).trans rfl; have hcz36_1 : w35.cell? ⟨gb281, 1, none⟩ = some (.int .i64 a0_1) := (blk_cell BK281.out 1).trans rfl; have hfz36_0 := blk_frozen BK281.out 0; have hfz36_1 := blk_frozen BK281.out 1) | ((with_reducible refine gate_callee (f := 85) rfl ?_); refine goesL_ (some 119) rfl rfl Tryd.func85 (by kernel_rfl) rfl #[.agg #[.int .i64 a0_0, .int .i64 a0_1], .int .i64 a1] rfl (by (try simp only [List.map_toArray, List.map_cons, List.map_nil]); first | done | rfl | (simp only [List.length_drop, List.length_take]; rfl)) ?_; (with_reducible refine (spec_StepsWith.calls k a0_0 a0_1 a1 t292 t293 t294 _ A15.out).mono ?_); rintro e w37 ⟨rfl, hb⟩; refine ⟨_, rfl, ?_⟩; have n0_ := Aside0.mk (blk_below (g := gb281) (o := .cells #[.int .i64 a0_0, .int .i64 a0_1] 26 (0, 0)) (by (with_reducible repeat (first | refine kN_ ?_ _ | refine kD_ ?_ | refine kA_ ?_ _)); exact BK281.out) hb); have n1_ := Aside0.mk (blk_below (g := gb282) (o := .cells #[.int .i64 a9_0, .int .i64 a9_1] 26 (0, 0)) (by (with_reducible repeat (first | refine kN_ ?_ _ | refine kD_ ?_ | refine kA_ ?_ _)); exact BK282.out) hb); have n2_ := Aside0.mk (below_step (by repeat (first | (with_reducible first | exact HB.out | apply bA_ | apply bN_ | apply bD_ | refine bS_ ?_ GE281.out | refine bS_ ?_ GE282.out) | exact HB.out)) hb); clear BK281; clear BK282; clear HB; have BK281 := n0_; have BK282 := n1_; have HB := n2_; clear n0_ n1_ n2_; (try clear hb); (try clear hb2); (try clear hk); (try clear hi); have hcz38_0 : w37.cell? ⟨gb281, 0, none⟩ = some (.int .i64 a0_0) := (blk_cell BK281.out 0).trans rfl; have hcz38_1 : w37.cell? ⟨gb281, 1, none⟩ = some (.int .i64 a0_1) := (blk_cell BK281.out 1).trans rfl; have hfz38_0 := blk_frozen BK281.out 0; have hfz38_1 := blk_frozen BK281.out 1) | ((with_reducible refine gate_callee (f := 86) rfl ?_); refine goesL_ (some 126) rfl rfl Tryd.func86 (by kernel_rfl) rfl #[.agg #[.int .i64 a0_0, .int .i64 a0_1], .int .i64 a1] rfl (by (try simp only [List.map_toArray, List.map_cons, List.map_nil]); first | done | rfl | (simp only [List.length_drop, List.length_take]; rfl)) ?_; (with_reducible refine (impl_TimeAgainst.calls k a0_0 a0_1 a1 t295 t296 t297 _ A16.out).mono ?_); rintro e w39 ⟨rfl, hb⟩; refine ⟨_, rfl, ?_⟩; have n0_ := Aside0.mk (blk_below (g := gb281) (o := .cells #[.int .i64 a0_0, .int .i64 a0_1] 26 (0, 0)) (by (with_reducible repeat (first | refine kN_ ?_ _ | refine kD_ ?_ | refine kA_ ?_ _)); exact BK281.out) hb); have n1_ := Aside0.mk (blk_below (g := gb282) (o := .cells #[.int .i64 a9_0, .int .i64 a9_1] 26 (0, 0)) (by (with_reducible repeat (first | refine kN_ ?_ _ | refine kD_ ?_ | refine kA_ ?_ _)); exact BK282.out) hb); have n2_ := Aside0.mk (below_step (by repeat (first | (with_reducible first | exact HB.out | apply bA_ | apply bN_ | apply bD_ | refine bS_ ?_ GE281.out | refine bS_ ?_ GE282.out) | exact HB.out)) hb); clear BK281; clear BK282; clear HB; have BK281 := n0_; have BK282 := n1_; have HB := n2_; clear n0_ n1_ n2_; (try clear hb); (try clear hb2); (try clear hk); (try clear hi); have hcz40_0 : w39.cell? ⟨gb281, 0, none⟩ = some (.int .i64 a0_0) := (blk_cell BK281.out 0).trans rfl; have hcz40_1 : w39.cell? ⟨gb281, 1, none⟩ = some (.int .i64 a0_1) := (blk_cell BK281.out 1).trans rfl; have hfz40_0 := blk_frozen BK281.out 0; have hfz40_1 := blk_frozen BK281.out 1) | ((with_reducible refine gate_callee (f := 87) rfl ?_); refine goesL_ (some 133) rfl rfl Tryd.func87 (by kernel_rfl) rfl #[.agg #[.int .i64 a0_0, .int .i64 a0_1], .int .i64 a1] rfl (by (try simp only [List.map_toArray, List.map_cons, List.map_nil]); first | done | rfl | (simp only [List.length_drop, List.length_take]; rfl)) ?_; (with_reducible refine (spec_TimeAgainst.calls k a0_0 a0_1 a1 t298 t299 t300 _ A17.out).mono ?_); rintro e w41 ⟨rfl, hb⟩; refine ⟨_, rfl, ?_⟩; have n0_ := Aside0.mk (blk_below (g := gb281) (o := .cells #[.int .i64 a0_0, .int .i64 a0_1] 26 (0, 0)) (by (with_reducible repeat (first | refine kN_ ?_ _ | refine kD_ ?_ | refine kA_ ?_ _)); exact BK281.out) hb); have n1_ := Aside0.mk (blk_below (g := gb282) (o := .cells #[.int .i64 a9_0, .int .i64 a9_1] 26 (0, 0)) (by (with_reducible repeat (first | refine kN_ ?_ _ | refine kD_ ?_ | refine kA_ ?_ _)); exact BK282.out) hb); have n2_ := Aside0.mk (below_step (by repeat (first | (with_reducible first | exact HB.out | apply bA_ | apply bN_ | apply bD_ | refine bS_ ?_ GE281.out | refine bS_ ?_ GE282.out) | exact HB.out)) hb); clear BK281; clear BK282; clear HB; have BK281 := n0_; have BK282 := n1_; have HB := n2_; clear n0_ n1_ n2_; (try clear hb); (try clear hb2); (try clear hk); (try clear hi); have hcz42_0 : w41.cell? ⟨gb281, 0, none⟩ = some (.int .i64 a0_0) := (blk_cell BK281.out 0).trans rfl; have hcz42_1 : w41.cell? ⟨gb281, 1, none⟩ = some (.int .i64 a0_1) := (blk_cell BK281.out 1).trans rfl; have hfz42_0 := blk_frozen BK281.out 0; have hfz42_1 := blk_frozen BK281.out 1) | ((with_reducible refine gate_callee (f := 88) rfl ?_); refine goesL_ (some 140) rfl rfl Tryd.func88 (by kernel_rfl) rfl #[.agg #[.int .i64 a0_0, .int .i64 a0_1], .int .i64 a1] rfl (by (try simp only [List.map_toArray, List.map_cons, List.map_nil]); first | done | rfl | (simp only [List.length_drop, List.length_take]; rfl)) ?_; (with_reducible refine (impl_StepsAgainst.calls k a0_0 a0_1 a1 t301 t302 t303 _ A18.out).mono ?_); rintro e w43 ⟨rfl, hb⟩; refine ⟨_, rfl, ?_⟩; have n0_ := Aside0.mk (blk_below (g := gb281) (o := .cells #[.int .i64 a0_0, .int .i64 a0_1] 26 (0, 0)) (by (with_reducible repeat (first | refine kN_ ?_ _ | refine kD_ ?_ | refine kA_ ?_ _)); exact BK281.out) hb); have n1_ := Aside0.mk (blk_below (g := gb282) (o := .cells #[.int .i64 a9_0, .int .i64 a9_1] 26 (0, 0)) (by (with_reducible repeat (first | refine kN_ ?_ _ | refine kD_ ?_ | refine kA_ ?_ _)); exact BK282.out) hb); have n2_ := Aside0.mk (below_step (by repeat (first | (with_reducible first | exact HB.out | apply bA_ | apply bN_ | apply bD_ | refine bS_ ?_ GE281.out | refine bS_ ?_ GE282.out) | exact HB.out)) hb); clear BK281; clear BK282; clear HB; have BK281 := n0_; have BK282 := n1_; have HB := n2_; clear n0_ n1_ n2_; (try clear hb); (try clear hb2); (try clear hk); (try clear hi); have hcz44_0 : w43.cell? ⟨gb281, 0, none⟩ = some (.int .i64 a0_0) := (blk_cell BK281.out 0).trans rfl; have hcz44_1 : w43.cell? ⟨gb281, 1, none⟩ = some (.int .i64 a0_1) := (blk_cell BK281.out 1).trans rfl; have hfz44_0 := blk_frozen BK281.out 0; have hfz44_1 := blk_frozen BK281.out 1) | ((with_reducible refine gate_callee (f := 89) rfl ?_); refine goesL_ (some 147) rfl rfl Tryd.func89 (by kernel_rfl) rfl #[.agg #[.int .i64 a0_0, .int .i64 a0_1], .int .i64 a1] rfl (by (try simp only [List.map_toArray, List.map_cons, List.map_nil]); first | done | rfl | (simp only [List.length_drop, List.length_take]; rfl)) ?_; (with_reducible refine (spec_StepsAgainst.calls k a0_0 a0_1 a1 t304 t305 t306 _ A19.out).mono ?_); rintro e w45 ⟨rfl, hb⟩; refine ⟨_, rfl, ?_⟩; have n0_ := Aside0.mk (blk_below (g := gb281) (o := .cells #[.int .i64 a0_0, .int .i64 a0_1] 26 (0, 0)) (by (with_reducible repeat (first | refine kN_ ?_ _ | refine kD_ ?_ | refine kA_ ?_ _)); exact BK281.out) hb); have n1_ := Aside0.mk (blk_below (g := gb282) (o := .cells #[.int .i64 a9_0, .int .i64 a9_1] 26 (0, 0)) (by (with_reducible repeat (first | refine kN_ ?_ _ | refine kD_ ?_ | refine kA_ ?_ _)); exact BK282.out) hb); have n2_ := Aside0.mk (below_step (by repeat (first | (with_reducible first | exact HB.out | apply bA_ | apply bN_ | apply bD_ | refine bS_ ?_ GE281.out | refine bS_ ?_ GE282.out) | exact HB.out)) hb); clear BK281; clear BK282; clear HB; have BK281 := n0_; have BK282 := n1_; have HB := n2_; clear n0_ n1_ n2_; (try clear hb); (try clear hb2); (try clear hk); (try clear hi); have hcz46_0 : w45.cell? ⟨gb281, 0, none⟩ = some (.int .i64 a0_0) := (blk_cell BK281.out 0).trans rfl; have hcz46_1 : w45.cell? ⟨gb281, 1, none⟩ = some (.int .i64 a0_1) := (blk_cell BK281.out 1).trans rfl; have hfz46_0 := blk_frozen BK281.out 0; have hfz46_1 := blk_frozen BK281.out 1) | ((with_reducible refine gate_callee (f := 90) rfl ?_); refine goesL_ (some 154) rfl rfl Tryd.func90 (by kernel_rfl) rfl #[.agg #[.int .i64 a0_0, .int .i64 a0_1], .int .i64 a1] rfl (by (try simp only [List.map_toArray, List.map_cons, List.map_nil]); first | done | rfl | (simp only [List.length_drop, List.length_take]; rfl)) ?_; (with_reducible refine (impl_RoundTrip.calls k a0_0 a0_1 a1 t307 t308 t309 _ A20.out).mono ?_); rintro e w47 ⟨rfl, hb⟩; refine ⟨_, rfl, ?_⟩; have n0_ := Aside0.mk (blk_below (g := gb281) (o := .cells #[.int .i64 a0_0, .int .i64 a0_1] 26 (0, 0)) (by (with_reducible repeat (first | refine kN_ ?_ _ | refine kD_ ?_ | refine kA_ ?_ _)); exact BK281.out) hb); have n1_ := Aside0.mk (blk_below (g := gb282) (o := .cells #[.int .i64 a9_0, .int .i64 a9_1] 26 (0, 0)) (by (with_reducible repeat (first | refine kN_ ?_ _ | refine kD_ ?_ | refine kA_ ?_ _)); exact BK282.out) hb); have n2_ := Aside0.mk (below_step (by repeat (first | (with_reducible first | exact HB.out | apply bA_ | apply bN_ | apply bD_ | refine bS_ ?_ GE281.out | refine bS_ ?_ GE282.out) | exact HB.out)) hb); clear BK281; clear BK282; clear HB; have BK281 := n0_; have BK282 := n1_; have HB := n2_; clear n0_ n1_ n2_; (try clear hb); (try clear hb2); (try clear hk); (try clear hi); have hcz48_0 : w47.cell? ⟨gb281, 0, none⟩ = some (.int .i64 a0_0) := (blk_cell BK281.out 0).trans rfl; have hcz48_1 : w47.cell? ⟨gb281, 1, none⟩ = some (.int .i64 a0_1) := (blk_cell BK281.out 1).trans rfl; have hfz48_0 := blk_frozen BK281.out 0; have hfz48_1 := blk_frozen BK281.out 1) | ((with_reducible refine gate_callee (f := 91) rfl ?_); refine goesL_ (some 161) rfl rfl Tryd.func91 (by kernel_rfl) rfl #[.agg #[.int .i64 a0_0, .int .i64 a0_1], .int .i64 a1] rfl (by (try simp only [List.map_toArray, List.map_cons, List.map_nil]); first | done | rfl | (simp only [List.length_drop, List.length_take]; rfl)) ?_; (with_reducible refine (spec_RoundTrip.calls k a0_0 a0_1 a1 t310 t311 t312 _ A21.out).mono ?_); rintro e w49 ⟨rfl, hb⟩; refine ⟨_, rfl, ?_⟩; have n0_ := Aside0.mk (blk_below (g := gb281) (o := .cells #[.int .i64 a0_0, .int .i64 a0_1] 26 (0, 0)) (by (with_reducible repeat (first | refine kN_ ?_ _ | refine kD_ ?_ | refine kA_ ?_ _)); exact BK281.out) hb); have n1_ := Aside0.mk (blk_below (g := gb282) (o := .cells #[.int .i64 a9_0, .int .i64 a9_1] 26 (0, 0)) (by (with_reducible repeat (first | refine kN_ ?_ _ | refine kD_ ?_ | refine kA_ ?_ _)); exact BK282.out) hb); have n2_ := Aside0.mk (below_step (by repeat (first | (with_reducible first | exact HB.out | apply bA_ | apply bN_ | apply bD_ | refine bS_ ?_ GE281.out | refine bS_ ?_ GE282.out) | exact HB.out)) hb); clear BK281; clear BK282; clear HB; have BK281 := n0_; have BK282 := n1_; have HB := n2_; clear n0_ n1_ n2_; (try clear hb); (try clear hb2); (try clear hk); (try clear hi); have hcz50_0 : w49.cell? ⟨gb281, 0, none⟩ = some (.int .i64 a0_0) := (blk_cell BK281.out 0).trans rfl; have hcz50_1 : w49.cell? ⟨gb281, 1, none⟩ = some (.int .i64 a0_1) := (blk_cell BK281.out 1).trans rfl; have hfz50_0 := blk_frozen BK281.out 0; have hfz50_1 := blk_frozen BK281.out 1) | ((with_reducible refine gate_callee (f := 92) rfl ?_); refine goesL_ (some 167) rfl rfl Tryd.func92 (by kernel_rfl) rfl #[.agg #[.int .i64 a0_0, .int .i64 a0_1]] rfl (by (try simp only [List.map_toArray, List.map_cons, List.map_nil]); first | done | rfl | (simp only [List.length_drop, List.length_take]; rfl)) ?_; (with_reducible refine (impl_WholeTimes.calls k a0_0 a0_1 t313 t316 _ A22.out).mono ?_); rintro e w51 ⟨v314, rfl, ho0, hb⟩; refine ⟨_, rfl, ?_⟩; have n0_ := Aside0.mk (Kd.R_lower ho0 (below_size (by repeat (first | (with_reducible first | exact HB.out | apply bA_ | apply bN_ | apply bD_ | refine bS_ ?_ GE281.out | refine bS_ ?_ GE282.out) | exact HB.out)))); have n1_ := Aside0.mk (blk_below (g := gb281) (o := .cells #[.int .i64 a0_0, .int .i64 a0_1] 26 (0, 0)) (by (with_reducible repeat (first | refine kN_ ?_ _ | refine kD_ ?_ | refine kA_ ?_ _)); exact BK281.out) hb); have n2_ := Aside0.mk (blk_below (g := gb282) (o := .cells #[.int .i64 a9_0, .int .i64 a9_1] 26 (0, 0)) (by (with_reducible repeat (first | refine kN_ ?_ _ | refine kD_ ?_ | refine kA_ ?_ _)); exact BK282.out) hb); have n3_ := Aside0.mk (below_step (by repeat (first | (with_reducible first | exact HB.out | apply bA_ | apply bN_ | apply bD_ | refine bS_ ?_ GE281.out | refine bS_ ?_ GE282.out) | exact HB.out)) hb); clear BK281; clear BK282; clear HB; have HO315 := n0_; have BK281 := n1_; have BK282 := n2_; have HB := n3_; clear n0_ n1_ n2_ n3_; (try clear hb); (try clear hb2); (try clear hk); (try clear hi); (try clear ho0); have hcz52_0 : w51.cell? ⟨gb281, 0, none⟩ = some (.int .i64 a0_0) := (blk_cell BK281.out 0).trans rfl; have hcz52_1 : w51.cell? ⟨gb281, 1, none⟩ = some (.int .i64 a0_1) := (blk_cell BK281.out 1).trans rfl; have hfz52_0 := blk_frozen BK281.out 0; have hfz52_1 := blk_frozen BK281.out 1) | ((with_reducible refine gate_callee (f := 93) rfl ?_); refine goesL_ (some 172) rfl rfl Tryd.func93 (by kernel_rfl) rfl #[.agg #[.int .i64 a0_0, .int .i64 a0_1]] rfl (by (try simp only [List.map_toArray, List.map_cons, List.map_nil]); first | done | rfl | (simp only [List.length_drop, List.length_take]; rfl)) ?_; (with_reducible refine (spec_WholeTimes.calls k a0_0 a0_1 t317 t320 _ A23.out).mono ?_); rintro e w53 ⟨v318, rfl, ho0, hb⟩; refine ⟨_, rfl, ?_⟩; have n0_ := Aside0.mk (Kd.R_elder' (by (with_reducible repeat (first | apply rA_ | apply rN_ | apply rD_)); exact HO315.out) (Kd.R_base ho0) hb); have n1_ := Aside0.mk (Kd.R_lower (Kd.R_new' ho0 (Kd.R_lt (by (with_reducible repeat (first | apply rA_ | apply rN_ | apply rD_)); exact HO315.out))) (below_size (by repeat (first | (with_reducible first | exact HB.out | apply bA_ | apply bN_ | apply bD_ | refine bS_ ?_ GE281.out | refine bS_ ?_ GE282.out) | exact HB.out)))); have n2_ := Aside0.mk (blk_below (g := gb281) (o := .cells #[.int .i64 a0_0, .int .i64 a0_1] 26 (0, 0)) (by (with_reducible repeat (first | refine kN_ ?_ _ | refine kD_ ?_ | refine kA_ ?_ _)); exact BK281.out) hb); have n3_ := Aside0.mk (blk_below (g := gb282) (o := .cells #[.int .i64 a9_0, .int .i64 a9_1] 26 (0, 0)) (by (with_reducible repeat (first | refine kN_ ?_ _ | refine kD_ ?_ | refine kA_ ?_ _)); exact BK282.out) hb); have n4_ := Aside0.mk (below_step (by repeat (first | (with_reducible first | exact HB.out | apply bA_ | apply bN_ | apply bD_ | refine bS_ ?_ GE281.out | refine bS_ ?_ GE282.out) | exact HB.out)) hb); clear HO315; clear BK281; clear BK282; clear HB; have HO315 := n0_; have HO319 := n1_; have BK281 := n2_; have BK282 := n3_; have HB := n4_; clear n0_ n1_ n2_ n3_ n4_; (try clear hb); (try clear hb2); (try clear hk); (try clear hi); (try clear ho0); have hcz54_0 : w53.cell? ⟨gb281, 0, none⟩ = some (.int .i64 a0_0) := (blk_cell BK281.out 0).trans rfl; have hcz54_1 : w53.cell? ⟨gb281, 1, none⟩ = some (.int .i64 a0_1) := (blk_cell BK281.out 1).trans rfl; have hfz54_0 := blk_frozen BK281.out 0; have hfz54_1 := blk_frozen BK281.out 1) | ((with_reducible refine gate_callee (f := 14) rfl ?_); refine goesL_ (some 177) rfl rfl Tryd.func14 (by kernel_rfl) rfl #[.agg #[.int .i64 a0_0, .int .i64 a0_1]] rfl (by (try simp only [List.map_toArray, List.map_cons, List.map_nil]); first | done | rfl | (simp only [List.length_drop, List.length_take]; rfl)) ?_; (with_reducible refine (impl_MovingText.calls a0_0 a0_1 t321 t322 _ A24.out (Laid.below HLA.out (by repeat (first | (with_reducible first | exact HB.out | apply bA_ | apply bN_ | apply bD_ | refine bS_ ?_ GE281.out | refine bS_ ?_ GE282.out | refine bS_ ?_ GE353.out) | exact HB.out)))).mono ?_); rintro e w55 ⟨rfl, hb⟩; refine ⟨_, rfl, ?_⟩; have n0_ := Aside0.mk (rB_ (by (with_reducible repeat (first | apply rA_ | apply rN_ | apply rD_)); exact HO315.out) hb); have n1_ := Aside0.mk (rB_ (by (with_reducible repeat (first | apply rA_ | apply rN_ | apply rD_)); exact HO319.out) hb); have n2_ := Aside0.mk (blk_below (g := gb281) (o := .cells #[.int .i64 a0_0, .int .i64 a0_1] 26 (0, 0)) (by (with_reducible repeat (first | refine kN_ ?_ _ | refine kD_ ?_ | refine kA_ ?_ _)); exact BK281.out) hb); have n3_ := Aside0.mk (blk_below (g := gb282) (o := .cells #[.int .i64 a9_0, .int .i64 a9_1] 26 (0, 0)) (by (with_reducible repeat (first | refine kN_ ?_ _ | refine kD_ ?_ | refine kA_ ?_ _)); exact BK282.out) hb); have n4_ := Aside0.mk (below_step (by repeat (first | (with_reducible first | exact HB.out | apply bA_ | apply bN_ | apply bD_ | refine bS_ ?_ GE281.out | refine bS_ ?_ GE282.out) | exact HB.out)) hb); clear HO315; clear HO319; clear BK281; clear BK282; clear HB; have HO315 := n0_; have HO319 := n1_; have BK281 := n2_; have BK282 := n3_; have HB := n4_; clear n0_ n1_ n2_ n3_ n4_; (try clear hb); (try clear hb2); (try clear hk); (try clear hi); have hcz56_0 : w55.cell? ⟨gb281, 0, none⟩ = some (.int .i64 a0_0) := (blk_cell BK281.out 0).trans rfl; have hcz56_1 : w55.cell? ⟨gb281, 1, none⟩ = some (.int .i64 a0_1) := (blk_cell BK281.out 1).trans rfl; have hfz56_0 := blk_frozen BK281.out 0; have hfz56_1 := blk_frozen BK281.out 1) | ((with_reducible refine gate_callee (f := 12) rfl ?_); refine goesL_ (some 182) rfl rfl Tryd.func12 (by kernel_rfl) rfl #[.agg #[.int .i64 a0_0, .int .i64 a0_1]] rfl (by (try simp only [List.map_toArray, List.map_cons, List.map_nil]); first | done | rfl | (simp only [List.length_drop, List.length_take]; rfl)) ?_; (with_reducible refine (spec_MovingText.calls k a0_0 a0_1 t323 t324 _ A25.out).mono ?_); rintro e w57 ⟨rfl, hb⟩; refine ⟨_, rfl, ?_⟩; have n0_ := Aside0.mk (rB_ (by (with_reducible repeat (first | apply rA_ | apply rN_ | apply rD_)); exact HO315.out) hb); have n1_ := Aside0.mk (rB_ (by (with_reducible repeat (first | apply rA_ | apply rN_ | apply rD_)); exact HO319.out) hb); have n2_ := Aside0.mk (blk_below (g := gb281) (o := .cells #[.int .i64 a0_0, .int .i64 a0_1] 26 (0, 0)) (by (with_reducible repeat (first | refine kN_ ?_ _ | refine kD_ ?_ | refine kA_ ?_ _)); exact BK281.out) hb); have n3_ := Aside0.mk (blk_below (g := gb282) (o := .cells #[.int .i64 a9_0, .int .i64 a9_1] 26 (0, 0)) (by (with_reducible repeat (first | refine kN_ ?_ _ | refine kD_ ?_ | refine kA_ ?_ _)); exact BK282.out) hb); have n4_ := Aside0.mk (below_step (by repeat (first | (with_reducible first | exact HB.out | apply bA_ | apply bN_ | apply bD_ | refine bS_ ?_ GE281.out | refine bS_ ?_ GE282.out) | exact HB.out)) hb); clear HO315; clear HO319; clear BK281; clear BK282; clear HB; have HO315 := n0_; have HO319 := n1_; have BK281 := n2_; have BK282 := n3_; have HB := n4_; clear n0_ n1_ n2_ n3_ n4_; (try clear hb); (try clear hb2); (try clear hk); (try clear hi)))
 (try simp only [Act.put, List.setIfInBounds_toArray, List.set_cons_zero, List.set_cons_succ])
 go_cut [325] from 325 to 325 (fun v325 wc => ∃ (kq : Nat) (x325_25 : Bool), v325 = .bool x325_25 ∧ Aside0 (laws_FnMovingTimedOfAll.j0 kq a1 a2 a3 a4 a5 a6 a7 a8 a10 t283 t284 t285 t289 t290 t295 t296 t297 t301 t302 t307 t308 t313 t316 t321 x325_25 a0_0 a0_1 a9_0 a9_1 = some true) ∧ Aside0 (kq ≤ k) ∧ Aside0 (Kd.R (Kd.int .i64) 3 wc w.heap.size (fun _ => True) v314 t313) ∧ Aside0 (wc.heap[gb281]? = some (.cells #[.int .i64 a0_0, .int .i64 a0_1] 26 (0, 0))) ∧ Aside0 (wc.heap[gb282]? = some (.cells #[.int .i64 a9_0, .int .i64 a9_1] 26 (0, 0))) ∧ Aside0 (Below w.heap.size w wc))
 case first =>
  as_aux_lemma =>
   have H := HC26.out
   clear HC26
   by_cases c58 : (t285 != t288) = true
   ·rw [if_pos c58] at H
    exact absurd H laws_FnMovingTimedOfAll.j0_no
   rw [if_neg c58] at H
   have c58b0 : (t285 != t288) = false := by simpa using c58
   (try (have c58b1 : decide (t285 = t288) = true := by simpa using c58))
   (try (have c58b2 : (t285 == t288) = true := by simpa using c58))
   clear c58
   by_cases c60 : t283 = t286
   ·rw [if_pos c60] at H
    have c60b0 : (t283 == t286) = true := beq_iff_eq.mpr c60
    have c60b1 : (t283 != t286) = false := bne_eq_false_iff_eq.mpr c60
    clear c60
    by_cases c61 : t284 = t287
    ·rw [if_pos c61] at H
     have c61b0 : (t284 == t287) = true := beq_iff_eq.mpr c61
     have c61b1 : (t284 != t287) = false := bne_eq_false_iff_eq.mpr c61
     clear c61
     by_cases c62 : (t291 != t294) = true
     ·rw [if_pos c62] at H
      exact absurd H laws_FnMovingTimedOfAll.j0_no
     rw [if_neg c62] at H
     have c62b0 : (t291 != t294) = false := by simpa using c62
     (try (have c62b1 : decide (t291 = t294) = true := by simpa using c62))
     (try (have c62b2 : (t291 == t294) = true := by simpa using c62))
     clear c62
     by_cases c64 : t289 = t292
     ·rw [if_pos c64] at H
      have c64b0 : (t289 == t292) = true := beq_iff_eq.mpr c64
      have c64b1 : (t289 != t292) = false := bne_eq_false_iff_eq.mpr c64
      clear c64
      by_cases c65 : t290 = t293
      ·rw [if_pos c65] at H
       have c65b0 : (t290 == t293) = true := beq_iff_eq.mpr c65
       have c65b1 : (t290 != t293) = false := bne_eq_false_iff_eq.mpr c65
       clear c65
       by_cases c66 : (t297 != t300) = true
       ·rw [if_pos c66] at H
        exact absurd H laws_FnMovingTimedOfAll.j0_no
       rw [if_neg c66] at H
       have c66b0 : (t297 != t300) = false := by simpa using c66
       (try (have c66b1 : decide (t297 = t300) = true := by simpa using c66))
       (try (have c66b2 : (t297 == t300) = true := by simpa using c66))
       clear c66
       by_cases c68 : t295 = t298
       ·rw [if_pos c68] at H
        have c68b0 : (t295 == t298) = true := beq_iff_eq.mpr c68
        have c68b1 : (t295 != t298) = false := bne_eq_false_iff_eq.mpr c68
        clear c68
        by_cases c69 : t296 = t299
        ·rw [if_pos c69] at H
         have c69b0 : (t296 == t299) = true := beq_iff_eq.mpr c69
         have c69b1 : (t296 != t299) = false := bne_eq_false_iff_eq.mpr c69
         clear c69
         by_cases c70 : (t303 != t306) = true
         ·rw [if_pos c70] at H
          exact absurd H laws_FnMovingTimedOfAll.j0_no
         rw [if_neg c70] at H
         have c70b0 : (t303 != t306) = false := by simpa using c70
         (try (have c70b1 : decide (t303 = t306) = true := by simpa using c70))
         (try (have c70b2 : (t303 == t306) = true := by simpa using c70))
         clear c70
         by_cases c72 : t301 = t304
         ·rw [if_pos c72] at H
          have c72b0 : (t301 == t304) = true := beq_iff_eq.mpr c72
          have c72b1 : (t301 != t304) = false := bne_eq_false_iff_eq.mpr c72
          clear c72
          by_cases c73 : t302 = t305
          ·rw [if_pos c73] at H
           have c73b0 : (t302 == t305) = true := beq_iff_eq.mpr c73
           have c73b1 : (t302 != t305) = false := bne_eq_false_iff_eq.mpr c73
           clear c73
           by_cases c74 : (t309 != t312) = true
           ·rw [if_pos c74] at H
            exact absurd H laws_FnMovingTimedOfAll.j0_no
           rw [if_neg c74] at H
           have c74b0 : (t309 != t312) = false := by simpa using c74
           (try (have c74b1 : decide (t309 = t312) = true := by simpa using c74))
           (try (have c74b2 : (t309 == t312) = true := by simpa using c74))
           clear c74
           by_cases c76 : t307 = t310
           ·rw [if_pos c76] at H
            have c76b0 : (t307 == t310) = true := beq_iff_eq.mpr c76
            have c76b1 : (t307 != t310) = false := bne_eq_false_iff_eq.mpr c76
            clear c76
            by_cases c77 : t308 = t311
            ·rw [if_pos c77] at H
             have c77b0 : (t308 == t311) = true := beq_iff_eq.mpr c77
             have c77b1 : (t308 != t311) = false := bne_eq_false_iff_eq.mpr c77
             clear c77
             by_cases c78 : (t316 != t320) = true
             ·rw [if_pos c78] at H
              exact absurd H laws_FnMovingTimedOfAll.j0_no
             rw [if_neg c78] at H
             have c78b0 : (t316 != t320) = false := by simpa using c78
             (try (have c78b1 : decide (t316 = t320) = true := by simpa using c78))
             (try (have c78b2 : (t316 == t320) = true := by simpa using c78))
             clear c78
             replace H := Option.bind_eq_some_iff.mp H
             obtain ⟨t325, A800, H⟩ := H
             try dsimp only at H
             have A80 := Aside0.mk A800
             clear A800
             by_cases c81 : t325 = true
             ·subst c81
              rw [if_pos rfl] at H
              by_cases c82 : (t322 != t324) = true
              ·rw [if_pos c82] at H
               exact absurd H laws_FnMovingTimedOfAll.j0_no
              rw [if_neg c82] at H
              have c82b0 : (t322 != t324) = false := by simpa using c82
              (try (have c82b1 : decide (t322 = t324) = true := by simpa using c82))
              (try (have c82b2 : (t322 == t324) = true := by simpa using c82))
              clear c82
              by_cases c86 : t321.toList = t323.toList
              ·rw [if_pos c86] at H
               have c86b0 : (t321.toList == t323.toList) = true := beq_iff_eq.mpr c86
               have c86b1 : (t321.toList != t323.toList) = false := bne_eq_false_iff_eq.mpr c86
               clear c86
               by_cases c87 : (t291 != t285) = true
               ·rw [if_pos c87] at H
                exact absurd H laws_FnMovingTimedOfAll.j0_no
               rw [if_neg c87] at H
               have c87b0 : (t291 != t285) = false := by simpa using c87
               (try (have c87b1 : decide (t291 = t285) = true := by simpa using c87))
               (try (have c87b2 : (t291 == t285) = true := by simpa using c87))
               clear c87
               by_cases c91 : (t303 != t297) = true
               ·rw [if_pos c91] at H
                exact absurd H laws_FnMovingTimedOfAll.j0_no
               rw [if_neg c91] at H
               have c91b0 : (t303 != t297) = false := by simpa using c91
               (try (have c91b1 : decide (t303 = t297) = true := by simpa using c91))
               (try (have c91b2 : (t303 == t297) = true := by simpa using c91))
               clear c91
               by_cases c95 : (t309 != t285) = true
               ·rw [if_pos c95] at H
                exact absurd H laws_FnMovingTimedOfAll.j0_no
               rw [if_neg c95] at H
               have c95b0 : (t309 != t285) = false := by simpa using c95
               (try (have c95b1 : decide (t309 = t285) = true := by simpa using c95))
               (try (have c95b2 : (t309 == t285) = true := by simpa using c95))
               clear c95
               by_cases c99 : t297 = true
               ·subst c99
                rw [if_pos rfl] at H
                by_cases c100 : t285 = true
                ·subst c100
                 rw [if_pos rfl] at H
                 replace H := Option.bind_eq_some_iff.mp H
                 obtain ⟨t326, A1010, H⟩ := H
                 try dsimp only at H
                 have A101 := Aside0.mk A1010
                 clear A1010
                 by_cases c102 : (t316 != t326) = true
                 ·rw [if_pos c102] at H
                  exact absurd H laws_FnMovingTimedOfAll.j0_no
                 rw [if_neg c102] at H
                 have c102b0 : (t316 != t326) = false := by simpa using c102
                 (try (have c102b1 : decide (t316 = t326) = true := by simpa using c102))
                 (try (have c102b2 : (t316 == t326) = true := by simpa using c102))
                 clear c102
                 replace H := Option.bind_eq_some_iff.mp H
                 obtain ⟨t327, A1070, H⟩ := H
                 try dsimp only at H
                 have A107 := Aside0.mk A1070
                 clear A1070
                 replace H := Option.bind_eq_some_iff.mp H
                 obtain ⟨t328, A1080, H⟩ := H
                 try dsimp only at H
                 have A108 := Aside0.mk A1080
                 clear A1080
                 by_cases c109 : (t327 != t328) = true
                 ·rw [if_pos c109] at H
                  exact absurd H laws_FnMovingTimedOfAll.j0_no
                 rw [if_neg c109] at H
                 have c109b0 : (t327 != t328) = false := by simpa using c109
                 (try (have c109b1 : decide (t327 = t328) = true := by simpa using c109))
                 (try (have c109b2 : (t327 == t328) = true := by simpa using c109))
                 clear c109
                 by_cases c116 : (t322 != t316) = true
                 ·rw [if_pos c116] at H
                  exact absurd H laws_FnMovingTimedOfAll.j0_no
                 rw [if_neg c116] at H
                 have c116b0 : (t322 != t316) = false := by simpa using c116
                 (try (have c116b1 : decide (t322 = t316) = true := by simpa using c116))
                 (try (have c116b2 : (t322 == t316) = true := by simpa using c116))
                 clear c116
                 have H' := Aside0.mk H
                 clear H
                 try go_wp2
                 have n0_ := Aside0.mk (rD_ HO315.out)
                 have n1_ := Aside0.mk (rD_ HO319.out)
                 have n2_ := Aside0.mk (kD_ BK281.out)
                 have n3_ := Aside0.mk (kD_ BK282.out)
                 have n4_ := Aside0.mk (bD_ HB.out)
                 clear HO315
                 clear HO319
                 clear BK281
                 clear BK282
                 clear HB
                 have HO315 := n0_
                 have HO319 := n1_
                 have BK281 := n2_
                 have BK282 := n3_
                 have HB := n4_
                 clear n0_ n1_ n2_ n3_ n4_
                 obtain ⟨Ao124, co124, eo124⟩ := Kd.R_slice HO315.out
                 (first | subst eo124 | (injection eo124 with f1_ f2_ f3_; have f4_ := f1_.symm; have f5_ := f3_.symm; clear f1_ f2_ f3_; subst f4_; subst f5_))
                 obtain ⟨Ao125, co125, eo125⟩ := Kd.R_slice HO319.out
                 (first | subst eo125 | (injection eo125 with f1_ f2_ f3_; have f4_ := f1_.symm; have f5_ := f3_.symm; clear f1_ f2_ f3_; subst f4_; subst f5_))
                 as_aux_lemma =>
                  refine start_ (n := 141) (S := fun w' => w'.cell? ⟨gb281, 0, none⟩ = some (.int .i64 a0_0) ∧ w'.cell? ⟨gb281, 1, none⟩ = some (.int .i64 a0_1)) (ds := []) (bs 141 0) (by kernel_rfl) rfl (by kernel_rfl) ⟨(blk_cell BK281.out 0).trans rfl, (blk_cell BK281.out 1).trans rfl⟩ (fun hHeld => ?_); refine with_tabW laws_FnMovingTimedOfAll.tab15 laws_FnMovingTimedOfAll.bits15 (fun HT_ HW_ => ?_)
                  generalize w57.drew = w123 at HO315 HO319 BK281 BK282 HB hHeld ⊢
                  refine sL_ 141 [(0, 185, 1), (1, 186, 3), (2, 187, 7), (3, 188, 15), (4, 189, 31), (5, 190, 63), (6, 191, 127), (7, 192, 255), (8, 193, 511), (9, 194, 1023), (10, 195, 2047), (11, 196, 4095), (12, 197, 8191), (13, 198, 16383), (14, 199, 32767), (15, 200, 65535), (16, 201, 131071), (17, 202, 262143), (18, 203, 524287), (19, 204, 1048575), (20, 205, 2097151), (21, 206, 4194303), (22, 207, 8388607), (23, 208, 16777215), (24, 209, 33554431), (25, 210, 67108863), (26, 211, 134217727), (27, 212, 268435455), (28, 213, 536870911), (29, 214, 1073741823), (30, 215, 2147483647), (31, 216, 4294967295), (32, 217, 8589934591), (33, 218, 17179869183), (34, 219, 34359738367), (35, 220, 68719476735), (36, 221, 137438953471), (37, 222, 274877906943), (38, 223, 549755813887), (39, 224, 1099511627775), (40, 225, 2199023255551), (41, 226, 4398046511103), (42, 227, 8796093022207), (43, 228, 17592186044415), (44, 229, 35184372088831), (45, 230, 70368744177663), (46, 231, 140737488355327), (47, 232, 281474976710655), (48, 233, 562949953421311), (49, 234, 1125899906842623), (50, 235, 2251799813685247), (51, 236, 4503599627370495), (52, 237, 9007199254740991), (53, 238, 18014398509481983), (54, 239, 36028797018963967), (55, 240, 72057594037927935), (56, 241, 144115188075855871), (57, 242, 288230376151711743), (58, 243, 576460752303423487), (59, 244, 1152921504606846975), (60, 245, 2305843009213693951), (61, 246, 4611686018427387903), (62, 247, 9223372036854775807), (63, 248, 18446744073709551615), (64, 249, 36893488147419103231), (65, 250, 73786976294838206463), (66, 251, 147573952589676412927), (67, 252, 295147905179352825855), (68, 253, 590295810358705651711), (69, 254, 1180591620717411303423), (70, 255, 2361183241434822606847), (71, 256, 4722366482869645213695), (72, 257, 9444732965739290427391), (73, 258, 18889465931478580854783), (74, 259, 37778931862957161709567), (75, 260, 75557863725914323419135), (76, 261, 151115727451828646838271), (77, 262, 302231454903657293676543), (78, 263, 604462909807314587353087), (79, 264, 1208925819614629174706175), (80, 265, 2417851639229258349412351), (81, 266, 4835703278458516698824703), (82, 267, 9671406556917033397649407), (83, 268, 19342813113834066795298815), (84, 269, 38685626227668133590597631), (85, 270, 77371252455336267181195263), (86, 271, 154742504910672534362390527), (87, 272, 309485009821345068724781055), (88, 273, 618970019642690137449562111), (89, 274, 1237940039285380274899124223), (90, 275, 2475880078570760549798248447), (91, 276, 4951760157141521099596496895), (92, 277, 9903520314283042199192993791), (93, 278, 19807040628566084398385987583), (94, 279, 39614081257132168796771975167), (95, 280, 79228162514264337593543950335), (96, 281, 158456325028528675187087900671), (97, 282, 316912650057057350374175801343), (98, 283, 633825300114114700748351602687), (99, 284, 1267650600228229401496703205375), (100, 285, 2535301200456458802993406410751), (101, 286, 5070602400912917605986812821503), (102, 287, 10141204801825835211973625643007), (103, 288, 20282409603651670423947251286015), (104, 289, 40564819207303340847894502572031), (105, 290, 81129638414606681695789005144063), (106, 291, 162259276829213363391578010288127), (107, 292, 324518553658426726783156020576255), (108, 293, 649037107316853453566312041152511), (109, 294, 1298074214633706907132624082305023), (110, 295, 2596148429267413814265248164610047), (111, 296, 5192296858534827628530496329220095), (112, 297, 10384593717069655257060992658440191), (113, 298, 20769187434139310514121985316880383), (114, 299, 41538374868278621028243970633760767), (115, 300, 83076749736557242056487941267521535), (116, 301, 166153499473114484112975882535043071), (117, 302, 332306998946228968225951765070086143), (118, 303, 664613997892457936451903530140172287), (119, 304, 1329227995784915872903807060280344575), (120, 305, 2658455991569831745807614120560689151), (121, 306, 5316911983139663491615228241121378303), (122, 307, 10633823966279326983230456482242756607), (123, 308, 21267647932558653966460912964485513215), (125, 310, 63802943797675961899382738893456539647), (124, 309, 85070591730234615865843651857942052863), (126, 311, 170141183460469231731687303715884105727), (127, 312, 340282366920938463463374607431768211455), (128, 313, 680564733841876926926749214863536422911), (129, 314, 1361129467683753853853498429727072845823), (130, 315, 2722258935367507707706996859454145691647), (131, 316, 5444517870735015415413993718908291383295), (132, 317, 10889035741470030830827987437816582766591), (133, 318, 21778071482940061661655974875633165533183), (134, 319, 43556142965880123323311949751266331066367), (135, 320, 87112285931760246646623899502532662132735), (136, 321, 174224571863520493293247799005065324265471), (137, 322, 348449143727040986586495598010130648530943), (138, 323, 696898287454081973172991196020261297061887), (139, 324, 1393796574908163946345982392040522594123775), (140, 325, 2787593149816327892691964784081045188247551)] ?_
                  iterate 81 (refine pL_ (v := ?_) (a' := ?_) rfl (any_of HT_.out (by kernel_rfl)) (fun _ _ _ h => h) (Or.inl ⟨by rfl, ?_⟩) ?_ ?_; rotate_left; (· (intro w'; first | ((with_reducible apply ym_); (conv => lhs; whnf)) | ((with_reducible apply yb_); (conv => lhs; whnf); (conv => lhs; whnf); go_simp; (with_reducible rfl)) | ((with_reducible apply yp_); (conv => lhs; whnf); (conv => lhs; whnf); (conv => lhs; whnf); go_simp; (with_reducible rfl)) | (go_simp; with_reducible rfl))); rotate_left; (· (simp only [Act.put, List.setIfInBounds_toArray, List.set_cons_zero, List.set_cons_succ, i64_w, i32_w]; rfl)))
                  refine oL_ rfl (one_of HT_.out (by kernel_rfl)) (by decide) (fun K hK => ?_)
                  refine goes_ Tryd.func56 (by kernel_rfl) rfl #[.slice Ao124 t313.length co124, .slice Ao125 t317.length co125] (by rfl) rfl rfl (by (try simp only [List.map_toArray, List.map_cons, List.map_nil]); first | done | rfl | (simp only [List.length_drop, List.length_take]; rfl)) ?_
                  with_reducible refine (laws_lSame.calls k _ _ t313 _ _ t317 true _ ?side1 ?side2 ?side3 ?side4 A80.out).mono ?_
                  (case side1 => repeat (first | exact (rR_ HO315.out).2.2 | (with_reducible refine Kd.C_alloc ?_ _) | (with_reducible refine Kd.C_drewN ?_ _) | (with_reducible refine Kd.C_drew ?_)))
                  (case side2 => exact (rR_ HO315.out).2.1)
                  (case side3 => repeat (first | exact (rR_ HO319.out).2.2 | (with_reducible refine Kd.C_alloc ?_ _) | (with_reducible refine Kd.C_drewN ?_ _) | (with_reducible refine Kd.C_drew ?_)))
                  (case side4 => exact (rR_ HO319.out).2.1)
                  rintro e w' ⟨rfl, ⟨nd, rfl⟩⟩
                  refine ⟨_, rfl, ?_⟩
                  refine hK.out _ _ ⟨(blk_cell BK281.out 0).trans rfl, (blk_cell BK281.out 1).trans rfl⟩ (fun hHeld => ?_)
                  clear hK K
                  refine nL_ (a' := ?_) ?_ ?_
                  rotate_left
                  ·show Act.put _ (some 266) _ = _
                   simp only [Act.put, List.setIfInBounds_toArray, List.set_cons_zero, List.set_cons_succ, i64_w, i32_w]
                   rfl
                  iterate 36 (refine pL_ (v := ?_) (a' := ?_) rfl (any_of HT_.out (by kernel_rfl)) (fun _ _ _ h => h) (Or.inl ⟨by rfl, ?_⟩) ?_ ?_; rotate_left; (· (intro w'; first | ((with_reducible apply ym_); (conv => lhs; whnf)) | ((with_reducible apply yb_); (conv => lhs; whnf); (conv => lhs; whnf); go_simp; (with_reducible rfl)) | ((with_reducible apply yp_); (conv => lhs; whnf); (conv => lhs; whnf); (conv => lhs; whnf); go_simp; (with_reducible rfl)) | (go_simp; with_reducible rfl))); rotate_left; (· (simp only [Act.put, List.setIfInBounds_toArray, List.set_cons_zero, List.set_cons_succ, i64_w, i32_w]; rfl)))
                  refine tL_ (v := ?_) (a' := ?_) rfl (take_ofW HT_.out HW_.out (by kernel_rfl)) (fun _ _ _ h => h) (Or.inl ⟨by rfl, ?_⟩) hHeld ?_ ?_
                  rotate_left
                  ·rintro w' ⟨s0, s1⟩
                   go_simp
                   with_reducible rfl
                  rotate_left
                  ·simp only [Act.put, List.setIfInBounds_toArray, List.set_cons_zero, List.set_cons_succ, i64_w, i32_w]; rfl
                  refine oL_ rfl (one_of HT_.out (by kernel_rfl)) (by decide) (fun K hK => ?_)
                  refine goes_ Tryd.func94 (by kernel_rfl) rfl #[.agg #[.int .i64 a0_0, .int .i64 a0_1]] (by rfl) rfl rfl (by (try simp only [List.map_toArray, List.map_cons, List.map_nil]); first | done | rfl | (simp only [List.length_drop, List.length_take]; rfl)) ?_
                  with_reducible refine (impl_IsMoving.calls a0_0 a0_1 t326 _ A101.out).mono ?_
                  rintro e w126 ⟨rfl, hb⟩
                  refine ⟨_, rfl, ?_⟩
                  have n0_ := Aside0.mk (rB_ (by (with_reducible repeat (first | apply rA_ | apply rN_ | apply rD_)); exact HO315.out) hb)
                  have n1_ := Aside0.mk (rB_ (by (with_reducible repeat (first | apply rA_ | apply rN_ | apply rD_)); exact HO319.out) hb)
                  have n2_ := Aside0.mk (blk_below (g := gb281) (o := .cells #[.int .i64 a0_0, .int .i64 a0_1] 26 (0, 0)) (by (with_reducible repeat (first | refine kN_ ?_ _ | refine kD_ ?_ | refine kA_ ?_ _)); exact BK281.out) hb)
                  have n3_ := Aside0.mk (blk_below (g := gb282) (o := .cells #[.int .i64 a9_0, .int .i64 a9_1] 26 (0, 0)) (by (with_reducible repeat (first | refine kN_ ?_ _ | refine kD_ ?_ | refine kA_ ?_ _)); exact BK282.out) hb)
                  have n4_ := Aside0.mk (below_step (by repeat (first | (with_reducible first | exact HB.out | apply bA_ | apply bN_ | apply bD_ | refine bS_ ?_ GE281.out | refine bS_ ?_ GE282.out) | exact HB.out)) hb)
                  clear HO315
                  clear HO319
                  clear BK281
                  clear BK282
                  clear HB
                  have HO315 := n0_
                  have HO319 := n1_
                  have BK281 := n2_
                  have BK282 := n3_
                  have HB := n4_
                  clear n0_ n1_ n2_ n3_ n4_
                  (try clear hb)
                  (try clear hb2)
                  (try clear hk)
                  (try clear hi)
                  refine hK.out _ _ ⟨(blk_cell BK281.out 0).trans rfl, (blk_cell BK281.out 1).trans rfl⟩ (fun hHeld => ?_)
                  clear hK K
                  refine nL_ (a' := ?_) ?_ ?_
                  rotate_left
                  ·show Act.put _ (some 304) _ = _
                   simp only [Act.put, List.setIfInBounds_toArray, List.set_cons_zero, List.set_cons_succ, i64_w, i32_w]
                   rfl
                  iterate 3 (refine pL_ (v := ?_) (a' := ?_) rfl (any_of HT_.out (by kernel_rfl)) (fun _ _ _ h => h) (Or.inl ⟨by rfl, ?_⟩) ?_ ?_; rotate_left; (· (intro w'; first | ((with_reducible apply ym_); (conv => lhs; whnf)) | ((with_reducible apply yb_); (conv => lhs; whnf); (conv => lhs; whnf); go_simp; (with_reducible rfl)) | ((with_reducible apply yp_); (conv => lhs; whnf); (conv => lhs; whnf); (conv => lhs; whnf); go_simp; (with_reducible rfl)) | (go_simp; with_reducible rfl))); rotate_left; (· (simp only [Act.put, List.setIfInBounds_toArray, List.set_cons_zero, List.set_cons_succ, i64_w, i32_w]; rfl)))
                  refine tL_ (v := ?_) (a' := ?_) rfl (take_ofW HT_.out HW_.out (by kernel_rfl)) (fun _ _ _ h => h) (Or.inl ⟨by rfl, ?_⟩) hHeld ?_ ?_
                  rotate_left
                  ·rintro w' ⟨s0, s1⟩
                   go_simp
                   with_reducible rfl
                  rotate_left
                  ·simp only [Act.put, List.setIfInBounds_toArray, List.set_cons_zero, List.set_cons_succ, i64_w, i32_w]; rfl
                  refine tL_ (v := ?_) (a' := ?_) rfl (take_ofW HT_.out HW_.out (by kernel_rfl)) (fun _ _ _ h => h) (Or.inl ⟨by rfl, ?_⟩) hHeld ?_ ?_
                  rotate_left
                  ·rintro w' ⟨s0, s1⟩
                   go_simp
                   with_reducible rfl
                  rotate_left
                  ·simp only [Act.put, List.setIfInBounds_toArray, List.set_cons_zero, List.set_cons_succ, i64_w, i32_w]; rfl
                  refine oL_ rfl (one_of HT_.out (by kernel_rfl)) (by decide) (fun K hK => ?_)
                  refine goes_ Tryd.func94 (by kernel_rfl) rfl #[.agg #[.int .i64 a0_0, .int .i64 a0_1]] (by rfl) rfl rfl (by (try simp only [List.map_toArray, List.map_cons, List.map_nil]); first | done | rfl | (simp only [List.length_drop, List.length_take]; rfl)) ?_
                  with_reducible refine (impl_IsMoving.calls a0_0 a0_1 t327 _ A107.out).mono ?_
                  rintro e w127 ⟨rfl, hb⟩
                  refine ⟨_, rfl, ?_⟩
                  have n0_ := Aside0.mk (rB_ (by (with_reducible repeat (first | apply rA_ | apply rN_ | apply rD_)); exact HO315.out) hb)
                  have n1_ := Aside0.mk (rB_ (by (with_reducible repeat (first | apply rA_ | apply rN_ | apply rD_)); exact HO319.out) hb)
                  have n2_ := Aside0.mk (blk_below (g := gb281) (o := .cells #[.int .i64 a0_0, .int .i64 a0_1] 26 (0, 0)) (by (with_reducible repeat (first | refine kN_ ?_ _ | refine kD_ ?_ | refine kA_ ?_ _)); exact BK281.out) hb)
                  have n3_ := Aside0.mk (blk_below (g := gb282) (o := .cells #[.int .i64 a9_0, .int .i64 a9_1] 26 (0, 0)) (by (with_reducible repeat (first | refine kN_ ?_ _ | refine kD_ ?_ | refine kA_ ?_ _)); exact BK282.out) hb)
                  have n4_ := Aside0.mk (below_step (by repeat (first | (with_reducible first | exact HB.out | apply bA_ | apply bN_ | apply bD_ | refine bS_ ?_ GE281.out | refine bS_ ?_ GE282.out) | exact HB.out)) hb)
                  clear HO315
                  clear HO319
                  clear BK281
                  clear BK282
                  clear HB
                  have HO315 := n0_
                  have HO319 := n1_
                  have BK281 := n2_
                  have BK282 := n3_
                  have HB := n4_
                  clear n0_ n1_ n2_ n3_ n4_
                  (try clear hb)
                  (try clear hb2)
                  (try clear hk)
                  (try clear hi)
                  refine hK.out _ _ ⟨(blk_cell BK281.out 0).trans rfl, (blk_cell BK281.out 1).trans rfl⟩ (fun hHeld => ?_)
                  clear hK K
                  refine nL_ (a' := ?_) ?_ ?_
                  rotate_left
                  ·show Act.put _ (some 309) _ = _
                   simp only [Act.put, List.setIfInBounds_toArray, List.set_cons_zero, List.set_cons_succ, i64_w, i32_w]
                   rfl
                  refine oL_ rfl (one_of HT_.out (by kernel_rfl)) (by decide) (fun K hK => ?_)
                  refine goes_ Tryd.func95 (by kernel_rfl) rfl #[.agg #[.int .i64 a0_0, .int .i64 a0_1]] (by rfl) rfl rfl (by (try simp only [List.map_toArray, List.map_cons, List.map_nil]); first | done | rfl | (simp only [List.length_drop, List.length_take]; rfl)) ?_
                  with_reducible refine (spec_IsMoving.calls a0_0 a0_1 t328 _ A108.out).mono ?_
                  rintro e w128 ⟨rfl, hb⟩
                  refine ⟨_, rfl, ?_⟩
                  have n0_ := Aside0.mk (rB_ (by (with_reducible repeat (first | apply rA_ | apply rN_ | apply rD_)); exact HO315.out) hb)
                  have n1_ := Aside0.mk (rB_ (by (with_reducible repeat (first | apply rA_ | apply rN_ | apply rD_)); exact HO319.out) hb)
                  have n2_ := Aside0.mk (blk_below (g := gb281) (o := .cells #[.int .i64 a0_0, .int .i64 a0_1] 26 (0, 0)) (by (with_reducible repeat (first | refine kN_ ?_ _ | refine kD_ ?_ | refine kA_ ?_ _)); exact BK281.out) hb)
                  have n3_ := Aside0.mk (blk_below (g := gb282) (o := .cells #[.int .i64 a9_0, .int .i64 a9_1] 26 (0, 0)) (by (with_reducible repeat (first | refine kN_ ?_ _ | refine kD_ ?_ | refine kA_ ?_ _)); exact BK282.out) hb)
                  have n4_ := Aside0.mk (below_step (by repeat (first | (with_reducible first | exact HB.out | apply bA_ | apply bN_ | apply bD_ | refine bS_ ?_ GE281.out | refine bS_ ?_ GE282.out) | exact HB.out)) hb)
                  clear HO315
                  clear HO319
                  clear BK281
                  clear BK282
                  clear HB
                  have HO315 := n0_
                  have HO319 := n1_
                  have BK281 := n2_
                  have BK282 := n3_
                  have HB := n4_
                  clear n0_ n1_ n2_ n3_ n4_
                  (try clear hb)
                  (try clear hb2)
                  (try clear hk)
                  (try clear hi)
                  refine hK.out _ _ ⟨(blk_cell BK281.out 0).trans rfl, (blk_cell BK281.out 1).trans rfl⟩ (fun hHeld => ?_)
                  clear hK K
                  refine nL_ (a' := ?_) ?_ ?_
                  rotate_left
                  ·show Act.put _ (some 311) _ = _
                   simp only [Act.put, List.setIfInBounds_toArray, List.set_cons_zero, List.set_cons_succ, i64_w, i32_w]
                   rfl
                  iterate 14 (refine pL_ (v := ?_) (a' := ?_) rfl (any_of HT_.out (by kernel_rfl)) (fun _ _ _ h => h) (Or.inl ⟨by rfl, ?_⟩) ?_ ?_; rotate_left; (· (intro w'; first | ((with_reducible apply ym_); (conv => lhs; whnf)) | ((with_reducible apply yb_); (conv => lhs; whnf); (conv => lhs; whnf); go_simp; (with_reducible rfl)) | ((with_reducible apply yp_); (conv => lhs; whnf); (conv => lhs; whnf); (conv => lhs; whnf); go_simp; (with_reducible rfl)) | (go_simp; with_reducible rfl))); rotate_left; (· (simp only [Act.put, List.setIfInBounds_toArray, List.set_cons_zero, List.set_cons_succ, i64_w, i32_w]; rfl)))
                  refine dL_ (done_of HT_.out (by kernel_rfl)) ?_
                  try go_wp2
                  go_meet
                  case rel => exact ⟨_, (!t316), (by first | rfl | (simp; done) | (simp [*]; done)), H', ⟨by first | omega | exact Nat.le_refl _⟩, ⟨by (with_reducible repeat (first | apply rA_ | apply rN_ | apply rD_)); exact rM_ HO315.out (fun _ hk => trivial)⟩, ⟨by (with_reducible repeat (first | refine kN_ ?_ _ | refine kD_ ?_ | refine kA_ ?_ _)); exact BK281.out⟩, ⟨by (with_reducible repeat (first | refine kN_ ?_ _ | refine kD_ ?_ | refine kA_ ?_ _)); exact BK282.out⟩, ⟨by repeat (first | (with_reducible first | exact HB.out | apply bA_ | apply bN_ | apply bD_ | refine bS_ ?_ GE281.out | refine bS_ ?_ GE282.out) | exact HB.out)⟩⟩
                replace c100 := Bool.eq_false_iff.mpr c100
                subst c100
                rw [if_neg (show ¬ (false = true) by decide)] at H
                exact absurd H laws_FnMovingTimedOfAll.j0_no
               replace c99 := Bool.eq_false_iff.mpr c99
               subst c99
               rw [if_neg (show ¬ (false = true) by decide)] at H
               replace H := Option.bind_eq_some_iff.mp H
               obtain ⟨t329, A1320, H⟩ := H
               try dsimp only at H
               have A132 := Aside0.mk A1320
               clear A1320
               by_cases c133 : (t316 != t329) = true
               ·rw [if_pos c133] at H
                exact absurd H laws_FnMovingTimedOfAll.j0_no
               rw [if_neg c133] at H
               have c133b0 : (t316 != t329) = false := by simpa using c133
               (try (have c133b1 : decide (t316 = t329) = true := by simpa using c133))
               (try (have c133b2 : (t316 == t329) = true := by simpa using c133))
               clear c133
               replace H := Option.bind_eq_some_iff.mp H
               obtain ⟨t330, A1380, H⟩ := H
               try dsimp only at H
               have A138 := Aside0.mk A1380
               clear A1380
               replace H := Option.bind_eq_some_iff.mp H
               obtain ⟨t331, A1390, H⟩ := H
               try dsimp only at H
               have A139 := Aside0.mk A1390
               clear A1390
               by_cases c140 : (t330 != t331) = true
               ·rw [if_pos c140] at H
                exact absurd H laws_FnMovingTimedOfAll.j0_no
               rw [if_neg c140] at H
               have c140b0 : (t330 != t331) = false := by simpa using c140
               (try (have c140b1 : decide (t330 = t331) = true := by simpa using c140))
               (try (have c140b2 : (t330 == t331) = true := by simpa using c140))
               clear c140
               by_cases c147 : (t322 != t316) = true
               ·rw [if_pos c147] at H
                exact absurd H laws_FnMovingTimedOfAll.j0_no
               rw [if_neg c147] at H
               have c147b0 : (t322 != t316) = false := by simpa using c147
               (try (have c147b1 : decide (t322 = t316) = true := by simpa using c147))
               (try (have c147b2 : (t322 == t316) = true := by simpa using c147))
               clear c147
               by_cases c154 : t285 = true
               ·subst c154
                rw [if_pos rfl] at H
                have H' := Aside0.mk H
                clear H
                try go_wp2
                have n0_ := Aside0.mk (rD_ HO315.out)
                have n1_ := Aside0.mk (rD_ HO319.out)
                have n2_ := Aside0.mk (kD_ BK281.out)
                have n3_ := Aside0.mk (kD_ BK282.out)
                have n4_ := Aside0.mk (bD_ HB.out)
                clear HO315
                clear HO319
                clear BK281
                clear BK282
                clear HB
                have HO315 := n0_
                have HO319 := n1_
                have BK281 := n2_
                have BK282 := n3_
                have HB := n4_
                clear n0_ n1_ n2_ n3_ n4_
                obtain ⟨Ao156, co156, eo156⟩ := Kd.R_slice HO315.out
                (first | subst eo156 | (injection eo156 with f1_ f2_ f3_; have f4_ := f1_.symm; have f5_ := f3_.symm; clear f1_ f2_ f3_; subst f4_; subst f5_))
                obtain ⟨Ao157, co157, eo157⟩ := Kd.R_slice HO319.out
                (first | subst eo157 | (injection eo157 with f1_ f2_ f3_; have f4_ := f1_.symm; have f5_ := f3_.symm; clear f1_ f2_ f3_; subst f4_; subst f5_))
                as_aux_lemma =>
                 refine start_ (n := 141) (S := fun w' => w'.cell? ⟨gb281, 0, none⟩ = some (.int .i64 a0_0) ∧ w'.cell? ⟨gb281, 1, none⟩ = some (.int .i64 a0_1)) (ds := []) (bs 141 0) (by kernel_rfl) rfl (by kernel_rfl) ⟨(blk_cell BK281.out 0).trans rfl, (blk_cell BK281.out 1).trans rfl⟩ (fun hHeld => ?_); refine with_tabW laws_FnMovingTimedOfAll.tab15 laws_FnMovingTimedOfAll.bits15 (fun HT_ HW_ => ?_)
                 generalize w57.drew = w155 at HO315 HO319 BK281 BK282 HB hHeld ⊢
                 refine sL_ 141 [(0, 185, 1), (1, 186, 3), (2, 187, 7), (3, 188, 15), (4, 189, 31), (5, 190, 63), (6, 191, 127), (7, 192, 255), (8, 193, 511), (9, 194, 1023), (10, 195, 2047), (11, 196, 4095), (12, 197, 8191), (13, 198, 16383), (14, 199, 32767), (15, 200, 65535), (16, 201, 131071), (17, 202, 262143), (18, 203, 524287), (19, 204, 1048575), (20, 205, 2097151), (21, 206, 4194303), (22, 207, 8388607), (23, 208, 16777215), (24, 209, 33554431), (25, 210, 67108863), (26, 211, 134217727), (27, 212, 268435455), (28, 213, 536870911), (29, 214, 1073741823), (30, 215, 2147483647), (31, 216, 4294967295), (32, 217, 8589934591), (33, 218, 17179869183), (34, 219, 34359738367), (35, 220, 68719476735), (36, 221, 137438953471), (37, 222, 274877906943), (38, 223, 549755813887), (39, 224, 1099511627775), (40, 225, 2199023255551), (41, 226, 4398046511103), (42, 227, 8796093022207), (43, 228, 17592186044415), (44, 229, 35184372088831), (45, 230, 70368744177663), (46, 231, 140737488355327), (47, 232, 281474976710655), (48, 233, 562949953421311), (49, 234, 1125899906842623), (50, 235, 2251799813685247), (51, 236, 4503599627370495), (52, 237, 9007199254740991), (53, 238, 18014398509481983), (54, 239, 36028797018963967), (55, 240, 72057594037927935), (56, 241, 144115188075855871), (57, 242, 288230376151711743), (58, 243, 576460752303423487), (59, 244, 1152921504606846975), (60, 245, 2305843009213693951), (61, 246, 4611686018427387903), (62, 247, 9223372036854775807), (63, 248, 18446744073709551615), (64, 249, 36893488147419103231), (65, 250, 73786976294838206463), (66, 251, 147573952589676412927), (67, 252, 295147905179352825855), (68, 253, 590295810358705651711), (69, 254, 1180591620717411303423), (70, 255, 2361183241434822606847), (71, 256, 4722366482869645213695), (72, 257, 9444732965739290427391), (73, 258, 18889465931478580854783), (74, 259, 37778931862957161709567), (75, 260, 75557863725914323419135), (76, 261, 151115727451828646838271), (77, 262, 302231454903657293676543), (78, 263, 604462909807314587353087), (79, 264, 1208925819614629174706175), (80, 265, 2417851639229258349412351), (81, 266, 4835703278458516698824703), (82, 267, 9671406556917033397649407), (83, 268, 19342813113834066795298815), (84, 269, 38685626227668133590597631), (85, 270, 77371252455336267181195263), (86, 271, 154742504910672534362390527), (87, 272, 309485009821345068724781055), (88, 273, 618970019642690137449562111), (89, 274, 1237940039285380274899124223), (90, 275, 2475880078570760549798248447), (91, 276, 4951760157141521099596496895), (92, 277, 9903520314283042199192993791), (93, 278, 19807040628566084398385987583), (94, 279, 39614081257132168796771975167), (95, 280, 79228162514264337593543950335), (96, 281, 158456325028528675187087900671), (97, 282, 316912650057057350374175801343), (98, 283, 633825300114114700748351602687), (99, 284, 1267650600228229401496703205375), (100, 285, 2535301200456458802993406410751), (101, 286, 5070602400912917605986812821503), (102, 287, 10141204801825835211973625643007), (103, 288, 20282409603651670423947251286015), (104, 289, 40564819207303340847894502572031), (105, 290, 81129638414606681695789005144063), (106, 291, 162259276829213363391578010288127), (107, 292, 324518553658426726783156020576255), (108, 293, 649037107316853453566312041152511), (109, 294, 1298074214633706907132624082305023), (110, 295, 2596148429267413814265248164610047), (111, 296, 5192296858534827628530496329220095), (112, 297, 10384593717069655257060992658440191), (113, 298, 20769187434139310514121985316880383), (114, 299, 41538374868278621028243970633760767), (115, 300, 83076749736557242056487941267521535), (116, 301, 166153499473114484112975882535043071), (117, 302, 332306998946228968225951765070086143), (118, 303, 664613997892457936451903530140172287), (119, 304, 1329227995784915872903807060280344575), (120, 305, 2658455991569831745807614120560689151), (121, 306, 5316911983139663491615228241121378303), (122, 307, 10633823966279326983230456482242756607), (123, 308, 21267647932558653966460912964485513215), (125, 310, 63802943797675961899382738893456539647), (124, 309, 85070591730234615865843651857942052863), (126, 311, 170141183460469231731687303715884105727), (127, 312, 340282366920938463463374607431768211455), (128, 313, 680564733841876926926749214863536422911), (129, 314, 1361129467683753853853498429727072845823), (130, 315, 2722258935367507707706996859454145691647), (131, 316, 5444517870735015415413993718908291383295), (132, 317, 10889035741470030830827987437816582766591), (133, 318, 21778071482940061661655974875633165533183), (134, 319, 43556142965880123323311949751266331066367), (135, 320, 87112285931760246646623899502532662132735), (136, 321, 174224571863520493293247799005065324265471), (137, 322, 348449143727040986586495598010130648530943), (138, 323, 696898287454081973172991196020261297061887), (139, 324, 1393796574908163946345982392040522594123775), (140, 325, 2787593149816327892691964784081045188247551)] ?_
                 iterate 81 (refine pL_ (v := ?_) (a' := ?_) rfl (any_of HT_.out (by kernel_rfl)) (fun _ _ _ h => h) (Or.inl ⟨by rfl, ?_⟩) ?_ ?_; rotate_left; (· (intro w'; first | ((with_reducible apply ym_); (conv => lhs; whnf)) | ((with_reducible apply yb_); (conv => lhs; whnf); (conv => lhs; whnf); go_simp; (with_reducible rfl)) | ((with_reducible apply yp_); (conv => lhs; whnf); (conv => lhs; whnf); (conv => lhs; whnf); go_simp; (with_reducible rfl)) | (go_simp; with_reducible rfl))); rotate_left; (· (simp only [Act.put, List.setIfInBounds_toArray, List.set_cons_zero, List.set_cons_succ, i64_w, i32_w]; rfl)))
                 refine oL_ rfl (one_of HT_.out (by kernel_rfl)) (by decide) (fun K hK => ?_)
                 refine goes_ Tryd.func56 (by kernel_rfl) rfl #[.slice Ao156 t313.length co156, .slice Ao157 t317.length co157] (by rfl) rfl rfl (by (try simp only [List.map_toArray, List.map_cons, List.map_nil]); first | done | rfl | (simp only [List.length_drop, List.length_take]; rfl)) ?_
                 with_reducible refine (laws_lSame.calls k _ _ t313 _ _ t317 true _ ?side1 ?side2 ?side3 ?side4 A80.out).mono ?_
                 (case side1 => repeat (first | exact (rR_ HO315.out).2.2 | (with_reducible refine Kd.C_alloc ?_ _) | (with_reducible refine Kd.C_drewN ?_ _) | (with_reducible refine Kd.C_drew ?_)))
                 (case side2 => exact (rR_ HO315.out).2.1)
                 (case side3 => repeat (first | exact (rR_ HO319.out).2.2 | (with_reducible refine Kd.C_alloc ?_ _) | (with_reducible refine Kd.C_drewN ?_ _) | (with_reducible refine Kd.C_drew ?_)))
                 (case side4 => exact (rR_ HO319.out).2.1)
                 rintro e w' ⟨rfl, ⟨nd, rfl⟩⟩
                 refine ⟨_, rfl, ?_⟩
                 refine hK.out _ _ ⟨(blk_cell BK281.out 0).trans rfl, (blk_cell BK281.out 1).trans rfl⟩ (fun hHeld => ?_)
                 clear hK K
                 refine nL_ (a' := ?_) ?_ ?_
                 rotate_left
                 ·show Act.put _ (some 266) _ = _
                  simp only [Act.put, List.setIfInBounds_toArray, List.set_cons_zero, List.set_cons_succ, i64_w, i32_w]
                  rfl
                 iterate 30 (refine pL_ (v := ?_) (a' := ?_) rfl (any_of HT_.out (by kernel_rfl)) (fun _ _ _ h => h) (Or.inl ⟨by rfl, ?_⟩) ?_ ?_; rotate_left; (· (intro w'; first | ((with_reducible apply ym_); (conv => lhs; whnf)) | ((with_reducible apply yb_); (conv => lhs; whnf); (conv => lhs; whnf); go_simp; (with_reducible rfl)) | ((with_reducible apply yp_); (conv => lhs; whnf); (conv => lhs; whnf); (conv => lhs; whnf); go_simp; (with_reducible rfl)) | (go_simp; with_reducible rfl))); rotate_left; (· (simp only [Act.put, List.setIfInBounds_toArray, List.set_cons_zero, List.set_cons_succ, i64_w, i32_w]; rfl)))
                 refine pL_ (v := undef) (a' := ?_) rfl (any_of HT_.out (by kernel_rfl)) (fun _ _ _ h => h) (Or.inr ⟨by rfl, rfl⟩) ?_ ?_
                 rotate_left
                 ·simp only [Act.put, List.setIfInBounds_toArray, List.set_cons_zero, List.set_cons_succ, i64_w, i32_w]; rfl
                 refine pL_ (v := undef) (a' := ?_) rfl (any_of HT_.out (by kernel_rfl)) (fun _ _ _ h => h) (Or.inr ⟨by rfl, rfl⟩) ?_ ?_
                 rotate_left
                 ·simp only [Act.put, List.setIfInBounds_toArray, List.set_cons_zero, List.set_cons_succ, i64_w, i32_w]; rfl
                 iterate 4 (refine pL_ (v := ?_) (a' := ?_) rfl (any_of HT_.out (by kernel_rfl)) (fun _ _ _ h => h) (Or.inl ⟨by rfl, ?_⟩) ?_ ?_; rotate_left; (· (intro w'; first | ((with_reducible apply ym_); (conv => lhs; whnf)) | ((with_reducible apply yb_); (conv => lhs; whnf); (conv => lhs; whnf); go_simp; (with_reducible rfl)) | ((with_reducible apply yp_); (conv => lhs; whnf); (conv => lhs; whnf); (conv => lhs; whnf); go_simp; (with_reducible rfl)) | (go_simp; with_reducible rfl))); rotate_left; (· (simp only [Act.put, List.setIfInBounds_toArray, List.set_cons_zero, List.set_cons_succ, i64_w, i32_w]; rfl)))
                 refine tL_ (v := ?_) (a' := ?_) rfl (take_ofW HT_.out HW_.out (by kernel_rfl)) (fun _ _ _ h => h) (Or.inl ⟨by rfl, ?_⟩) hHeld ?_ ?_
                 rotate_left
                 ·rintro w' ⟨s0, s1⟩
                  go_simp
                  with_reducible rfl
                 rotate_left
                 ·simp only [Act.put, List.setIfInBounds_toArray, List.set_cons_zero, List.set_cons_succ, i64_w, i32_w]; rfl
                 refine oL_ rfl (one_of HT_.out (by kernel_rfl)) (by decide) (fun K hK => ?_)
                 refine goes_ Tryd.func94 (by kernel_rfl) rfl #[.agg #[.int .i64 a0_0, .int .i64 a0_1]] (by rfl) rfl rfl (by (try simp only [List.map_toArray, List.map_cons, List.map_nil]); first | done | rfl | (simp only [List.length_drop, List.length_take]; rfl)) ?_
                 with_reducible refine (impl_IsMoving.calls a0_0 a0_1 t329 _ A132.out).mono ?_
                 rintro e w158 ⟨rfl, hb⟩
                 refine ⟨_, rfl, ?_⟩
                 have n0_ := Aside0.mk (rB_ (by (with_reducible repeat (first | apply rA_ | apply rN_ | apply rD_)); exact HO315.out) hb)
                 have n1_ := Aside0.mk (rB_ (by (with_reducible repeat (first | apply rA_ | apply rN_ | apply rD_)); exact HO319.out) hb)
                 have n2_ := Aside0.mk (blk_below (g := gb281) (o := .cells #[.int .i64 a0_0, .int .i64 a0_1] 26 (0, 0)) (by (with_reducible repeat (first | refine kN_ ?_ _ | refine kD_ ?_ | refine kA_ ?_ _)); exact BK281.out) hb)
                 have n3_ := Aside0.mk (blk_below (g := gb282) (o := .cells #[.int .i64 a9_0, .int .i64 a9_1] 26 (0, 0)) (by (with_reducible repeat (first | refine kN_ ?_ _ | refine kD_ ?_ | refine kA_ ?_ _)); exact BK282.out) hb)
                 have n4_ := Aside0.mk (below_step (by repeat (first | (with_reducible first | exact HB.out | apply bA_ | apply bN_ | apply bD_ | refine bS_ ?_ GE281.out | refine bS_ ?_ GE282.out) | exact HB.out)) hb)
                 clear HO315
                 clear HO319
                 clear BK281
                 clear BK282
                 clear HB
                 have HO315 := n0_
                 have HO319 := n1_
                 have BK281 := n2_
                 have BK282 := n3_
                 have HB := n4_
                 clear n0_ n1_ n2_ n3_ n4_
                 (try clear hb)
                 (try clear hb2)
                 (try clear hk)
                 (try clear hi)
                 refine hK.out _ _ ⟨(blk_cell BK281.out 0).trans rfl, (blk_cell BK281.out 1).trans rfl⟩ (fun hHeld => ?_)
                 clear hK K
                 refine nL_ (a' := ?_) ?_ ?_
                 rotate_left
                 ·show Act.put _ (some 304) _ = _
                  simp only [Act.put, List.setIfInBounds_toArray, List.set_cons_zero, List.set_cons_succ, i64_w, i32_w]
                  rfl
                 iterate 3 (refine pL_ (v := ?_) (a' := ?_) rfl (any_of HT_.out (by kernel_rfl)) (fun _ _ _ h => h) (Or.inl ⟨by rfl, ?_⟩) ?_ ?_; rotate_left; (· (intro w'; first | ((with_reducible apply ym_); (conv => lhs; whnf)) | ((with_reducible apply yb_); (conv => lhs; whnf); (conv => lhs; whnf); go_simp; (with_reducible rfl)) | ((with_reducible apply yp_); (conv => lhs; whnf); (conv => lhs; whnf); (conv => lhs; whnf); go_simp; (with_reducible rfl)) | (go_simp; with_reducible rfl))); rotate_left; (· (simp only [Act.put, List.setIfInBounds_toArray, List.set_cons_zero, List.set_cons_succ, i64_w, i32_w]; rfl)))
                 refine tL_ (v := ?_) (a' := ?_) rfl (take_ofW HT_.out HW_.out (by kernel_rfl)) (fun _ _ _ h => h) (Or.inl ⟨by rfl, ?_⟩) hHeld ?_ ?_
                 rotate_left
                 ·rintro w' ⟨s0, s1⟩
                  go_simp
                  with_reducible rfl
                 rotate_left
                 ·simp only [Act.put, List.setIfInBounds_toArray, List.set_cons_zero, List.set_cons_succ, i64_w, i32_w]; rfl
                 refine tL_ (v := ?_) (a' := ?_) rfl (take_ofW HT_.out HW_.out (by kernel_rfl)) (fun _ _ _ h => h) (Or.inl ⟨by rfl, ?_⟩) hHeld ?_ ?_
                 rotate_left
                 ·rintro w' ⟨s0, s1⟩
                  go_simp
                  with_reducible rfl
                 rotate_left
                 ·simp only [Act.put, List.setIfInBounds_toArray, List.set_cons_zero, List.set_cons_succ, i64_w, i32_w]; rfl
                 refine oL_ rfl (one_of HT_.out (by kernel_rfl)) (by decide) (fun K hK => ?_)
                 refine goes_ Tryd.func94 (by kernel_rfl) rfl #[.agg #[.int .i64 a0_0, .int .i64 a0_1]] (by rfl) rfl rfl (by (try simp only [List.map_toArray, List.map_cons, List.map_nil]); first | done | rfl | (simp only [List.length_drop, List.length_take]; rfl)) ?_
                 with_reducible refine (impl_IsMoving.calls a0_0 a0_1 t330 _ A138.out).mono ?_
                 rintro e w159 ⟨rfl, hb⟩
                 refine ⟨_, rfl, ?_⟩
                 have n0_ := Aside0.mk (rB_ (by (with_reducible repeat (first | apply rA_ | apply rN_ | apply rD_)); exact HO315.out) hb)
                 have n1_ := Aside0.mk (rB_ (by (with_reducible repeat (first | apply rA_ | apply rN_ | apply rD_)); exact HO319.out) hb)
                 have n2_ := Aside0.mk (blk_below (g := gb281) (o := .cells #[.int .i64 a0_0, .int .i64 a0_1] 26 (0, 0)) (by (with_reducible repeat (first | refine kN_ ?_ _ | refine kD_ ?_ | refine kA_ ?_ _)); exact BK281.out) hb)
                 have n3_ := Aside0.mk (blk_below (g := gb282) (o := .cells #[.int .i64 a9_0, .int .i64 a9_1] 26 (0, 0)) (by (with_reducible repeat (first | refine kN_ ?_ _ | refine kD_ ?_ | refine kA_ ?_ _)); exact BK282.out) hb)
                 have n4_ := Aside0.mk (below_step (by repeat (first | (with_reducible first | exact HB.out | apply bA_ | apply bN_ | apply bD_ | refine bS_ ?_ GE281.out | refine bS_ ?_ GE282.out) | exact HB.out)) hb)
                 clear HO315
                 clear HO319
                 clear BK281
                 clear BK282
                 clear HB
                 have HO315 := n0_
                 have HO319 := n1_
                 have BK281 := n2_
                 have BK282 := n3_
                 have HB := n4_
                 clear n0_ n1_ n2_ n3_ n4_
                 (try clear hb)
                 (try clear hb2)
                 (try clear hk)
                 (try clear hi)
                 refine hK.out _ _ ⟨(blk_cell BK281.out 0).trans rfl, (blk_cell BK281.out 1).trans rfl⟩ (fun hHeld => ?_)
                 clear hK K
                 refine nL_ (a' := ?_) ?_ ?_
                 rotate_left
                 ·show Act.put _ (some 309) _ = _
                  simp only [Act.put, List.setIfInBounds_toArray, List.set_cons_zero, List.set_cons_succ, i64_w, i32_w]
                  rfl
                 refine oL_ rfl (one_of HT_.out (by kernel_rfl)) (by decide) (fun K hK => ?_)
                 refine goes_ Tryd.func95 (by kernel_rfl) rfl #[.agg #[.int .i64 a0_0, .int .i64 a0_1]] (by rfl) rfl rfl (by (try simp only [List.map_toArray, List.map_cons, List.map_nil]); first | done | rfl | (simp only [List.length_drop, List.length_take]; rfl)) ?_
                 with_reducible refine (spec_IsMoving.calls a0_0 a0_1 t331 _ A139.out).mono ?_
                 rintro e w160 ⟨rfl, hb⟩
                 refine ⟨_, rfl, ?_⟩
                 have n0_ := Aside0.mk (rB_ (by (with_reducible repeat (first | apply rA_ | apply rN_ | apply rD_)); exact HO315.out) hb)
                 have n1_ := Aside0.mk (rB_ (by (with_reducible repeat (first | apply rA_ | apply rN_ | apply rD_)); exact HO319.out) hb)
                 have n2_ := Aside0.mk (blk_below (g := gb281) (o := .cells #[.int .i64 a0_0, .int .i64 a0_1] 26 (0, 0)) (by (with_reducible repeat (first | refine kN_ ?_ _ | refine kD_ ?_ | refine kA_ ?_ _)); exact BK281.out) hb)
                 have n3_ := Aside0.mk (blk_below (g := gb282) (o := .cells #[.int .i64 a9_0, .int .i64 a9_1] 26 (0, 0)) (by (with_reducible repeat (first | refine kN_ ?_ _ | refine kD_ ?_ | refine kA_ ?_ _)); exact BK282.out) hb)
                 have n4_ := Aside0.mk (below_step (by repeat (first | (with_reducible first | exact HB.out | apply bA_ | apply bN_ | apply bD_ | refine bS_ ?_ GE281.out | refine bS_ ?_ GE282.out) | exact HB.out)) hb)
                 clear HO315
                 clear HO319
                 clear BK281
                 clear BK282
                 clear HB
                 have HO315 := n0_
                 have HO319 := n1_
                 have BK281 := n2_
                 have BK282 := n3_
                 have HB := n4_
                 clear n0_ n1_ n2_ n3_ n4_
                 (try clear hb)
                 (try clear hb2)
                 (try clear hk)
                 (try clear hi)
                 refine hK.out _ _ ⟨(blk_cell BK281.out 0).trans rfl, (blk_cell BK281.out 1).trans rfl⟩ (fun hHeld => ?_)
                 clear hK K
                 refine nL_ (a' := ?_) ?_ ?_
                 rotate_left
                 ·show Act.put _ (some 311) _ = _
                  simp only [Act.put, List.setIfInBounds_toArray, List.set_cons_zero, List.set_cons_succ, i64_w, i32_w]
                  rfl
                 iterate 14 (refine pL_ (v := ?_) (a' := ?_) rfl (any_of HT_.out (by kernel_rfl)) (fun _ _ _ h => h) (Or.inl ⟨by rfl, ?_⟩) ?_ ?_; rotate_left; (· (intro w'; first | ((with_reducible apply ym_); (conv => lhs; whnf)) | ((with_reducible apply yb_); (conv => lhs; whnf); (conv => lhs; whnf); go_simp; (with_reducible rfl)) | ((with_reducible apply yp_); (conv => lhs; whnf); (conv => lhs; whnf); (conv => lhs; whnf); go_simp; (with_reducible rfl)) | (go_simp; with_reducible rfl))); rotate_left; (· (simp only [Act.put, List.setIfInBounds_toArray, List.set_cons_zero, List.set_cons_succ, i64_w, i32_w]; rfl)))
                 refine dL_ (done_of HT_.out (by kernel_rfl)) ?_
                 try go_wp2
                 go_meet
                 case rel => exact ⟨_, (!t316), (by first | rfl | (simp; done) | (simp [*]; done)), H', ⟨by first | omega | exact Nat.le_refl _⟩, ⟨by (with_reducible repeat (first | apply rA_ | apply rN_ | apply rD_)); exact rM_ HO315.out (fun _ hk => trivial)⟩, ⟨by (with_reducible repeat (first | refine kN_ ?_ _ | refine kD_ ?_ | refine kA_ ?_ _)); exact BK281.out⟩, ⟨by (with_reducible repeat (first | refine kN_ ?_ _ | refine kD_ ?_ | refine kA_ ?_ _)); exact BK282.out⟩, ⟨by repeat (first | (with_reducible first | exact HB.out | apply bA_ | apply bN_ | apply bD_ | refine bS_ ?_ GE281.out | refine bS_ ?_ GE282.out) | exact HB.out)⟩⟩
               replace c154 := Bool.eq_false_iff.mpr c154
               subst c154
               rw [if_neg (show ¬ (false = true) by decide)] at H
               have H' := Aside0.mk H
               clear H
               try go_wp2
               have n0_ := Aside0.mk (rD_ HO315.out)
               have n1_ := Aside0.mk (rD_ HO319.out)
               have n2_ := Aside0.mk (kD_ BK281.out)
               have n3_ := Aside0.mk (kD_ BK282.out)
               have n4_ := Aside0.mk (bD_ HB.out)
               clear HO315
               clear HO319
               clear BK281
               clear BK282
               clear HB
               have HO315 := n0_
               have HO319 := n1_
               have BK281 := n2_
               have BK282 := n3_
               have HB := n4_
               clear n0_ n1_ n2_ n3_ n4_
               obtain ⟨Ao162, co162, eo162⟩ := Kd.R_slice HO315.out
               (first | subst eo162 | (injection eo162 with f1_ f2_ f3_; have f4_ := f1_.symm; have f5_ := f3_.symm; clear f1_ f2_ f3_; subst f4_; subst f5_))
               obtain ⟨Ao163, co163, eo163⟩ := Kd.R_slice HO319.out
               (first | subst eo163 | (injection eo163 with f1_ f2_ f3_; have f4_ := f1_.symm; have f5_ := f3_.symm; clear f1_ f2_ f3_; subst f4_; subst f5_))
               as_aux_lemma =>
                refine start_ (n := 141) (S := fun w' => w'.cell? ⟨gb281, 0, none⟩ = some (.int .i64 a0_0) ∧ w'.cell? ⟨gb281, 1, none⟩ = some (.int .i64 a0_1)) (ds := []) (bs 141 0) (by kernel_rfl) rfl (by kernel_rfl) ⟨(blk_cell BK281.out 0).trans rfl, (blk_cell BK281.out 1).trans rfl⟩ (fun hHeld => ?_); refine with_tabW laws_FnMovingTimedOfAll.tab15 laws_FnMovingTimedOfAll.bits15 (fun HT_ HW_ => ?_)
                generalize w57.drew = w161 at HO315 HO319 BK281 BK282 HB hHeld ⊢
                refine sL_ 141 [(0, 185, 1), (1, 186, 3), (2, 187, 7), (3, 188, 15), (4, 189, 31), (5, 190, 63), (6, 191, 127), (7, 192, 255), (8, 193, 511), (9, 194, 1023), (10, 195, 2047), (11, 196, 4095), (12, 197, 8191), (13, 198, 16383), (14, 199, 32767), (15, 200, 65535), (16, 201, 131071), (17, 202, 262143), (18, 203, 524287), (19, 204, 1048575), (20, 205, 2097151), (21, 206, 4194303), (22, 207, 8388607), (23, 208, 16777215), (24, 209, 33554431), (25, 210, 67108863), (26, 211, 134217727), (27, 212, 268435455), (28, 213, 536870911), (29, 214, 1073741823), (30, 215, 2147483647), (31, 216, 4294967295), (32, 217, 8589934591), (33, 218, 17179869183), (34, 219, 34359738367), (35, 220, 68719476735), (36, 221, 137438953471), (37, 222, 274877906943), (38, 223, 549755813887), (39, 224, 1099511627775), (40, 225, 2199023255551), (41, 226, 4398046511103), (42, 227, 8796093022207), (43, 228, 17592186044415), (44, 229, 35184372088831), (45, 230, 70368744177663), (46, 231, 140737488355327), (47, 232, 281474976710655), (48, 233, 562949953421311), (49, 234, 1125899906842623), (50, 235, 2251799813685247), (51, 236, 4503599627370495), (52, 237, 9007199254740991), (53, 238, 18014398509481983), (54, 239, 36028797018963967), (55, 240, 72057594037927935), (56, 241, 144115188075855871), (57, 242, 288230376151711743), (58, 243, 576460752303423487), (59, 244, 1152921504606846975), (60, 245, 2305843009213693951), (61, 246, 4611686018427387903), (62, 247, 9223372036854775807), (63, 248, 18446744073709551615), (64, 249, 36893488147419103231), (65, 250, 73786976294838206463), (66, 251, 147573952589676412927), (67, 252, 295147905179352825855), (68, 253, 590295810358705651711), (69, 254, 1180591620717411303423), (70, 255, 2361183241434822606847), (71, 256, 4722366482869645213695), (72, 257, 9444732965739290427391), (73, 258, 18889465931478580854783), (74, 259, 37778931862957161709567), (75, 260, 75557863725914323419135), (76, 261, 151115727451828646838271), (77, 262, 302231454903657293676543), (78, 263, 604462909807314587353087), (79, 264, 1208925819614629174706175), (80, 265, 2417851639229258349412351), (81, 266, 4835703278458516698824703), (82, 267, 9671406556917033397649407), (83, 268, 19342813113834066795298815), (84, 269, 38685626227668133590597631), (85, 270, 77371252455336267181195263), (86, 271, 154742504910672534362390527), (87, 272, 309485009821345068724781055), (88, 273, 618970019642690137449562111), (89, 274, 1237940039285380274899124223), (90, 275, 2475880078570760549798248447), (91, 276, 4951760157141521099596496895), (92, 277, 9903520314283042199192993791), (93, 278, 19807040628566084398385987583), (94, 279, 39614081257132168796771975167), (95, 280, 79228162514264337593543950335), (96, 281, 158456325028528675187087900671), (97, 282, 316912650057057350374175801343), (98, 283, 633825300114114700748351602687), (99, 284, 1267650600228229401496703205375), (100, 285, 2535301200456458802993406410751), (101, 286, 5070602400912917605986812821503), (102, 287, 10141204801825835211973625643007), (103, 288, 20282409603651670423947251286015), (104, 289, 40564819207303340847894502572031), (105, 290, 81129638414606681695789005144063), (106, 291, 162259276829213363391578010288127), (107, 292, 324518553658426726783156020576255), (108, 293, 649037107316853453566312041152511), (109, 294, 1298074214633706907132624082305023), (110, 295, 2596148429267413814265248164610047), (111, 296, 5192296858534827628530496329220095), (112, 297, 10384593717069655257060992658440191), (113, 298, 20769187434139310514121985316880383), (114, 299, 41538374868278621028243970633760767), (115, 300, 83076749736557242056487941267521535), (116, 301, 166153499473114484112975882535043071), (117, 302, 332306998946228968225951765070086143), (118, 303, 664613997892457936451903530140172287), (119, 304, 1329227995784915872903807060280344575), (120, 305, 2658455991569831745807614120560689151), (121, 306, 5316911983139663491615228241121378303), (122, 307, 10633823966279326983230456482242756607), (123, 308, 21267647932558653966460912964485513215), (125, 310, 63802943797675961899382738893456539647), (124, 309, 85070591730234615865843651857942052863), (126, 311, 170141183460469231731687303715884105727), (127, 312, 340282366920938463463374607431768211455), (128, 313, 680564733841876926926749214863536422911), (129, 314, 1361129467683753853853498429727072845823), (130, 315, 2722258935367507707706996859454145691647), (131, 316, 5444517870735015415413993718908291383295), (132, 317, 10889035741470030830827987437816582766591), (133, 318, 21778071482940061661655974875633165533183), (134, 319, 43556142965880123323311949751266331066367), (135, 320, 87112285931760246646623899502532662132735), (136, 321, 174224571863520493293247799005065324265471), (137, 322, 348449143727040986586495598010130648530943), (138, 323, 696898287454081973172991196020261297061887), (139, 324, 1393796574908163946345982392040522594123775), (140, 325, 2787593149816327892691964784081045188247551)] ?_
                iterate 81 (refine pL_ (v := ?_) (a' := ?_) rfl (any_of HT_.out (by kernel_rfl)) (fun _ _ _ h => h) (Or.inl ⟨by rfl, ?_⟩) ?_ ?_; rotate_left; (· (intro w'; first | ((with_reducible apply ym_); (conv => lhs; whnf)) | ((with_reducible apply yb_); (conv => lhs; whnf); (conv => lhs; whnf); go_simp; (with_reducible rfl)) | ((with_reducible apply yp_); (conv => lhs; whnf); (conv => lhs; whnf); (conv => lhs; whnf); go_simp; (with_reducible rfl)) | (go_simp; with_reducible rfl))); rotate_left; (· (simp only [Act.put, List.setIfInBounds_toArray, List.set_cons_zero, List.set_cons_succ, i64_w, i32_w]; rfl)))
                refine oL_ rfl (one_of HT_.out (by kernel_rfl)) (by decide) (fun K hK => ?_)
                refine goes_ Tryd.func56 (by kernel_rfl) rfl #[.slice Ao162 t313.length co162, .slice Ao163 t317.length co163] (by rfl) rfl rfl (by (try simp only [List.map_toArray, List.map_cons, List.map_nil]); first | done | rfl | (simp only [List.length_drop, List.length_take]; rfl)) ?_
                with_reducible refine (laws_lSame.calls k _ _ t313 _ _ t317 true _ ?side1 ?side2 ?side3 ?side4 A80.out).mono ?_
                (case side1 => repeat (first | exact (rR_ HO315.out).2.2 | (with_reducible refine Kd.C_alloc ?_ _) | (with_reducible refine Kd.C_drewN ?_ _) | (with_reducible refine Kd.C_drew ?_)))
                (case side2 => exact (rR_ HO315.out).2.1)
                (case side3 => repeat (first | exact (rR_ HO319.out).2.2 | (with_reducible refine Kd.C_alloc ?_ _) | (with_reducible refine Kd.C_drewN ?_ _) | (with_reducible refine Kd.C_drew ?_)))
                (case side4 => exact (rR_ HO319.out).2.1)
                rintro e w' ⟨rfl, ⟨nd, rfl⟩⟩
                refine ⟨_, rfl, ?_⟩
                refine hK.out _ _ ⟨(blk_cell BK281.out 0).trans rfl, (blk_cell BK281.out 1).trans rfl⟩ (fun hHeld => ?_)
                clear hK K
                refine nL_ (a' := ?_) ?_ ?_
                rotate_left
                ·show Act.put _ (some 266) _ = _
                 simp only [Act.put, List.setIfInBounds_toArray, List.set_cons_zero, List.set_cons_succ, i64_w, i32_w]
                 rfl
                iterate 30 (refine pL_ (v := ?_) (a' := ?_) rfl (any_of HT_.out (by kernel_rfl)) (fun _ _ _ h => h) (Or.inl ⟨by rfl, ?_⟩) ?_ ?_; rotate_left; (· (intro w'; first | ((with_reducible apply ym_); (conv => lhs; whnf)) | ((with_reducible apply yb_); (conv => lhs; whnf); (conv => lhs; whnf); go_simp; (with_reducible rfl)) | ((with_reducible apply yp_); (conv => lhs; whnf); (conv => lhs; whnf); (conv => lhs; whnf); go_simp; (with_reducible rfl)) | (go_simp; with_reducible rfl))); rotate_left; (· (simp only [Act.put, List.setIfInBounds_toArray, List.set_cons_zero, List.set_cons_succ, i64_w, i32_w]; rfl)))
                refine pL_ (v := undef) (a' := ?_) rfl (any_of HT_.out (by kernel_rfl)) (fun _ _ _ h => h) (Or.inr ⟨by rfl, rfl⟩) ?_ ?_
                rotate_left
                ·simp only [Act.put, List.setIfInBounds_toArray, List.set_cons_zero, List.set_cons_succ, i64_w, i32_w]; rfl
                refine pL_ (v := undef) (a' := ?_) rfl (any_of HT_.out (by kernel_rfl)) (fun _ _ _ h => h) (Or.inr ⟨by rfl, rfl⟩) ?_ ?_
                rotate_left
                ·simp only [Act.put, List.setIfInBounds_toArray, List.set_cons_zero, List.set_cons_succ, i64_w, i32_w]; rfl
                iterate 4 (refine pL_ (v := ?_) (a' := ?_) rfl (any_of HT_.out (by kernel_rfl)) (fun _ _ _ h => h) (Or.inl ⟨by rfl, ?_⟩) ?_ ?_; rotate_left; (· (intro w'; first | ((with_reducible apply ym_); (conv => lhs; whnf)) | ((with_reducible apply yb_); (conv => lhs; whnf); (conv => lhs; whnf); go_simp; (with_reducible rfl)) | ((with_reducible apply yp_); (conv => lhs; whnf); (conv => lhs; whnf); (conv => lhs; whnf); go_simp; (with_reducible rfl)) | (go_simp; with_reducible rfl))); rotate_left; (· (simp only [Act.put, List.setIfInBounds_toArray, List.set_cons_zero, List.set_cons_succ, i64_w, i32_w]; rfl)))
                refine tL_ (v := ?_) (a' := ?_) rfl (take_ofW HT_.out HW_.out (by kernel_rfl)) (fun _ _ _ h => h) (Or.inl ⟨by rfl, ?_⟩) hHeld ?_ ?_
                rotate_left
                ·rintro w' ⟨s0, s1⟩
                 go_simp
                 with_reducible rfl
                rotate_left
                ·simp only [Act.put, List.setIfInBounds_toArray, List.set_cons_zero, List.set_cons_succ, i64_w, i32_w]; rfl
                refine oL_ rfl (one_of HT_.out (by kernel_rfl)) (by decide) (fun K hK => ?_)
                refine goes_ Tryd.func94 (by kernel_rfl) rfl #[.agg #[.int .i64 a0_0, .int .i64 a0_1]] (by rfl) rfl rfl (by (try simp only [List.map_toArray, List.map_cons, List.map_nil]); first | done | rfl | (simp only [List.length_drop, List.length_take]; rfl)) ?_
                with_reducible refine (impl_IsMoving.calls a0_0 a0_1 t329 _ A132.out).mono ?_
                rintro e w164 ⟨rfl, hb⟩
                refine ⟨_, rfl, ?_⟩
                have n0_ := Aside0.mk (rB_ (by (with_reducible repeat (first | apply rA_ | apply rN_ | apply rD_)); exact HO315.out) hb)
                have n1_ := Aside0.mk (rB_ (by (with_reducible repeat (first | apply rA_ | apply rN_ | apply rD_)); exact HO319.out) hb)
                have n2_ := Aside0.mk (blk_below (g := gb281) (o := .cells #[.int .i64 a0_0, .int .i64 a0_1] 26 (0, 0)) (by (with_reducible repeat (first | refine kN_ ?_ _ | refine kD_ ?_ | refine kA_ ?_ _)); exact BK281.out) hb)
                have n3_ := Aside0.mk (blk_below (g := gb282) (o := .cells #[.int .i64 a9_0, .int .i64 a9_1] 26 (0, 0)) (by (with_reducible repeat (first | refine kN_ ?_ _ | refine kD_ ?_ | refine kA_ ?_ _)); exact BK282.out) hb)
                have n4_ := Aside0.mk (below_step (by repeat (first | (with_reducible first | exact HB.out | apply bA_ | apply bN_ | apply bD_ | refine bS_ ?_ GE281.out | refine bS_ ?_ GE282.out) | exact HB.out)) hb)
                clear HO315
                clear HO319
                clear BK281
                clear BK282
                clear HB
                have HO315 := n0_
                have HO319 := n1_
                have BK281 := n2_
                have BK282 := n3_
                have HB := n4_
                clear n0_ n1_ n2_ n3_ n4_
                (try clear hb)
                (try clear hb2)
                (try clear hk)
                (try clear hi)
                refine hK.out _ _ ⟨(blk_cell BK281.out 0).trans rfl, (blk_cell BK281.out 1).trans rfl⟩ (fun hHeld => ?_)
                clear hK K
                refine nL_ (a' := ?_) ?_ ?_
                rotate_left
                ·show Act.put _ (some 304) _ = _
                 simp only [Act.put, List.setIfInBounds_toArray, List.set_cons_zero, List.set_cons_succ, i64_w, i32_w]
                 rfl
                iterate 3 (refine pL_ (v := ?_) (a' := ?_) rfl (any_of HT_.out (by kernel_rfl)) (fun _ _ _ h => h) (Or.inl ⟨by rfl, ?_⟩) ?_ ?_; rotate_left; (· (intro w'; first | ((with_reducible apply ym_); (conv => lhs; whnf)) | ((with_reducible apply yb_); (conv => lhs; whnf); (conv => lhs; whnf); go_simp; (with_reducible rfl)) | ((with_reducible apply yp_); (conv => lhs; whnf); (conv => lhs; whnf); (conv => lhs; whnf); go_simp; (with_reducible rfl)) | (go_simp; with_reducible rfl))); rotate_left; (· (simp only [Act.put, List.setIfInBounds_toArray, List.set_cons_zero, List.set_cons_succ, i64_w, i32_w]; rfl)))
                refine tL_ (v := ?_) (a' := ?_) rfl (take_ofW HT_.out HW_.out (by kernel_rfl)) (fun _ _ _ h => h) (Or.inl ⟨by rfl, ?_⟩) hHeld ?_ ?_
                rotate_left
                ·rintro w' ⟨s0, s1⟩
                 go_simp
                 with_reducible rfl
                rotate_left
                ·simp only [Act.put, List.setIfInBounds_toArray, List.set_cons_zero, List.set_cons_succ, i64_w, i32_w]; rfl
                refine tL_ (v := ?_) (a' := ?_) rfl (take_ofW HT_.out HW_.out (by kernel_rfl)) (fun _ _ _ h => h) (Or.inl ⟨by rfl, ?_⟩) hHeld ?_ ?_
                rotate_left
                ·rintro w' ⟨s0, s1⟩
                 go_simp
                 with_reducible rfl
                rotate_left
                ·simp only [Act.put, List.setIfInBounds_toArray, List.set_cons_zero, List.set_cons_succ, i64_w, i32_w]; rfl
                refine oL_ rfl (one_of HT_.out (by kernel_rfl)) (by decide) (fun K hK => ?_)
                refine goes_ Tryd.func94 (by kernel_rfl) rfl #[.agg #[.int .i64 a0_0, .int .i64 a0_1]] (by rfl) rfl rfl (by (try simp only [List.map_toArray, List.map_cons, List.map_nil]); first | done | rfl | (simp only [List.length_drop, List.length_take]; rfl)) ?_
                with_reducible refine (impl_IsMoving.calls a0_0 a0_1 t330 _ A138.out).mono ?_
                rintro e w165 ⟨rfl, hb⟩
                refine ⟨_, rfl, ?_⟩
                have n0_ := Aside0.mk (rB_ (by (with_reducible repeat (first | apply rA_ | apply rN_ | apply rD_)); exact HO315.out) hb)
                have n1_ := Aside0.mk (rB_ (by (with_reducible repeat (first | apply rA_ | apply rN_ | apply rD_)); exact HO319.out) hb)
                have n2_ := Aside0.mk (blk_below (g := gb281) (o := .cells #[.int .i64 a0_0, .int .i64 a0_1] 26 (0, 0)) (by (with_reducible repeat (first | refine kN_ ?_ _ | refine kD_ ?_ | refine kA_ ?_ _)); exact BK281.out) hb)
                have n3_ := Aside0.mk (blk_below (g := gb282) (o := .cells #[.int .i64 a9_0, .int .i64 a9_1] 26 (0, 0)) (by (with_reducible repeat (first | refine kN_ ?_ _ | refine kD_ ?_ | refine kA_ ?_ _)); exact BK282.out) hb)
                have n4_ := Aside0.mk (below_step (by repeat (first | (with_reducible first | exact HB.out | apply bA_ | apply bN_ | apply bD_ | refine bS_ ?_ GE281.out | refine bS_ ?_ GE282.out) | exact HB.out)) hb)
                clear HO315
                clear HO319
                clear BK281
                clear BK282
                clear HB
                have HO315 := n0_
                have HO319 := n1_
                have BK281 := n2_
                have BK282 := n3_
                have HB := n4_
                clear n0_ n1_ n2_ n3_ n4_
                (try clear hb)
                (try clear hb2)
                (try clear hk)
                (try clear hi)
                refine hK.out _ _ ⟨(blk_cell BK281.out 0).trans rfl, (blk_cell BK281.out 1).trans rfl⟩ (fun hHeld => ?_)
                clear hK K
                refine nL_ (a' := ?_) ?_ ?_
                rotate_left
                ·show Act.put _ (some 309) _ = _
                 simp only [Act.put, List.setIfInBounds_toArray, List.set_cons_zero, List.set_cons_succ, i64_w, i32_w]
                 rfl
                refine oL_ rfl (one_of HT_.out (by kernel_rfl)) (by decide) (fun K hK => ?_)
                refine goes_ Tryd.func95 (by kernel_rfl) rfl #[.agg #[.int .i64 a0_0, .int .i64 a0_1]] (by rfl) rfl rfl (by (try simp only [List.map_toArray, List.map_cons, List.map_nil]); first | done | rfl | (simp only [List.length_drop, List.length_take]; rfl)) ?_
                with_reducible refine (spec_IsMoving.calls a0_0 a0_1 t331 _ A139.out).mono ?_
                rintro e w166 ⟨rfl, hb⟩
                refine ⟨_, rfl, ?_⟩
                have n0_ := Aside0.mk (rB_ (by (with_reducible repeat (first | apply rA_ | apply rN_ | apply rD_)); exact HO315.out) hb)
                have n1_ := Aside0.mk (rB_ (by (with_reducible repeat (first | apply rA_ | apply rN_ | apply rD_)); exact HO319.out) hb)
                have n2_ := Aside0.mk (blk_below (g := gb281) (o := .cells #[.int .i64 a0_0, .int .i64 a0_1] 26 (0, 0)) (by (with_reducible repeat (first | refine kN_ ?_ _ | refine kD_ ?_ | refine kA_ ?_ _)); exact BK281.out) hb)
                have n3_ := Aside0.mk (blk_below (g := gb282) (o := .cells #[.int .i64 a9_0, .int .i64 a9_1] 26 (0, 0)) (by (with_reducible repeat (first | refine kN_ ?_ _ | refine kD_ ?_ | refine kA_ ?_ _)); exact BK282.out) hb)
                have n4_ := Aside0.mk (below_step (by repeat (first | (with_reducible first | exact HB.out | apply bA_ | apply bN_ | apply bD_ | refine bS_ ?_ GE281.out | refine bS_ ?_ GE282.out) | exact HB.out)) hb)
                clear HO315
                clear HO319
                clear BK281
                clear BK282
                clear HB
                have HO315 := n0_
                have HO319 := n1_
                have BK281 := n2_
                have BK282 := n3_
                have HB := n4_
                clear n0_ n1_ n2_ n3_ n4_
                (try clear hb)
                (try clear hb2)
                (try clear hk)
                (try clear hi)
                refine hK.out _ _ ⟨(blk_cell BK281.out 0).trans rfl, (blk_cell BK281.out 1).trans rfl⟩ (fun hHeld => ?_)
                clear hK K
                refine nL_ (a' := ?_) ?_ ?_
                rotate_left
                ·show Act.put _ (some 311) _ = _
                 simp only [Act.put, List.setIfInBounds_toArray, List.set_cons_zero, List.set_cons_succ, i64_w, i32_w]
                 rfl
                iterate 10 (refine pL_ (v := ?_) (a' := ?_) rfl (any_of HT_.out (by kernel_rfl)) (fun _ _ _ h => h) (Or.inl ⟨by rfl, ?_⟩) ?_ ?_; rotate_left; (· (intro w'; first | ((with_reducible apply ym_); (conv => lhs; whnf)) | ((with_reducible apply yb_); (conv => lhs; whnf); (conv => lhs; whnf); go_simp; (with_reducible rfl)) | ((with_reducible apply yp_); (conv => lhs; whnf); (conv => lhs; whnf); (conv => lhs; whnf); go_simp; (with_reducible rfl)) | (go_simp; with_reducible rfl))); rotate_left; (· (simp only [Act.put, List.setIfInBounds_toArray, List.set_cons_zero, List.set_cons_succ, i64_w, i32_w]; rfl)))
                refine pL_ (v := undef) (a' := ?_) rfl (any_of HT_.out (by kernel_rfl)) (fun _ _ _ h => h) (Or.inr ⟨by rfl, rfl⟩) ?_ ?_
                rotate_left
                ·simp only [Act.put, List.setIfInBounds_toArray, List.set_cons_zero, List.set_cons_succ, i64_w, i32_w]; rfl
                refine pL_ (v := undef) (a' := ?_) rfl (any_of HT_.out (by kernel_rfl)) (fun _ _ _ h => h) (Or.inr ⟨by rfl, rfl⟩) ?_ ?_
                rotate_left
                ·simp only [Act.put, List.setIfInBounds_toArray, List.set_cons_zero, List.set_cons_succ, i64_w, i32_w]; rfl
                iterate 2 (refine pL_ (v := ?_) (a' := ?_) rfl (any_of HT_.out (by kernel_rfl)) (fun _ _ _ h => h) (Or.inl ⟨by rfl, ?_⟩) ?_ ?_; rotate_left; (· (intro w'; first | ((with_reducible apply ym_); (conv => lhs; whnf)) | ((with_reducible apply yb_); (conv => lhs; whnf); (conv => lhs; whnf); go_simp; (with_reducible rfl)) | ((with_reducible apply yp_); (conv => lhs; whnf); (conv => lhs; whnf); (conv => lhs; whnf); go_simp; (with_reducible rfl)) | (go_simp; with_reducible rfl))); rotate_left; (· (simp only [Act.put, List.setIfInBounds_toArray, List.set_cons_zero, List.set_cons_succ, i64_w, i32_w]; rfl)))
                refine dL_ (done_of HT_.out (by kernel_rfl)) ?_
                try go_wp2
                go_meet
                case rel => exact ⟨_, (false), (by first | rfl | (simp; done) | (simp [*]; done)), H', ⟨by first | omega | exact Nat.le_refl _⟩, ⟨by (with_reducible repeat (first | apply rA_ | apply rN_ | apply rD_)); exact rM_ HO315.out (fun _ hk => trivial)⟩, ⟨by (with_reducible repeat (first | refine kN_ ?_ _ | refine kD_ ?_ | refine kA_ ?_ _)); exact BK281.out⟩, ⟨by (with_reducible repeat (first | refine kN_ ?_ _ | refine kD_ ?_ | refine kA_ ?_ _)); exact BK282.out⟩, ⟨by repeat (first | (with_reducible first | exact HB.out | apply bA_ | apply bN_ | apply bD_ | refine bS_ ?_ GE281.out | refine bS_ ?_ GE282.out) | exact HB.out)⟩⟩
              rw [if_neg c86] at H
              exact absurd H laws_FnMovingTimedOfAll.j0_no
             replace c81 := Bool.eq_false_iff.mpr c81
             subst c81
             rw [if_neg (show ¬ (false = true) by decide)] at H
             exact absurd H laws_FnMovingTimedOfAll.j0_no
            rw [if_neg c77] at H
            exact absurd H laws_FnMovingTimedOfAll.j0_no
           rw [if_neg c76] at H
           exact absurd H laws_FnMovingTimedOfAll.j0_no
          rw [if_neg c73] at H
          exact absurd H laws_FnMovingTimedOfAll.j0_no
         rw [if_neg c72] at H
         exact absurd H laws_FnMovingTimedOfAll.j0_no
        rw [if_neg c69] at H
        exact absurd H laws_FnMovingTimedOfAll.j0_no
       rw [if_neg c68] at H
       exact absurd H laws_FnMovingTimedOfAll.j0_no
      rw [if_neg c65] at H
      exact absurd H laws_FnMovingTimedOfAll.j0_no
     rw [if_neg c64] at H
     exact absurd H laws_FnMovingTimedOfAll.j0_no
    rw [if_neg c61] at H
    exact absurd H laws_FnMovingTimedOfAll.j0_no
   rw [if_neg c60] at H
   exact absurd H laws_FnMovingTimedOfAll.j0_no
 as_aux_lemma =>
  clear HC26
  try clear p2
  obtain ⟨kq, x325_25, rfl, HA, HJ25, HO_53, BK281, BK282, HB⟩ := hcut
  rcases kq with _ | kj25
  ·exact absurd HA.out (by simp [laws_FnMovingTimedOfAll.j0])
  have H := HA.out
  clear HA
  simp only [laws_FnMovingTimedOfAll.j0] at H
  by_cases c183 : x325_25 = true
  ·subst c183
   rw [if_pos rfl] at H
   exact absurd (Option.some.inj H) (by decide)
  replace c183 := Bool.eq_false_iff.mpr c183
  subst c183
  rw [if_neg (show ¬ (false = true) by decide)] at H
  have HC184 := Aside0.mk H
  clear H
  go_upto_if 326 with (fail)
  go_cut [] from 326 to 326 (fun wc => ∃ (kq : Nat), Aside0 (laws_FnMovingTimedOfAll.j4 kq a1 a2 a3 a4 a5 a6 a7 a8 a10 t283 t284 t289 t290 t295 t296 t297 t301 t302 t313 t316 t321 a0_0 a0_1 a9_0 a9_1 = some true) ∧ Aside0 (kq ≤ kj25) ∧ Aside0 (Kd.R (Kd.int .i64) 3 wc w.heap.size (fun _ => True) v314 t313) ∧ Aside0 (wc.heap[gb281]? = some (.cells #[.int .i64 a0_0, .int .i64 a0_1] 26 (0, 0))) ∧ Aside0 (wc.heap[gb282]? = some (.cells #[.int .i64 a9_0, .int .i64 a9_1] 26 (0, 0))) ∧ Aside0 (Below w.heap.size w wc))
  case first =>
   as_aux_lemma =>
    have H := HC184.out
    clear HC184
    by_cases c185 : t285 = true
    ·subst c185
     rw [if_pos rfl] at H
     have HC186 := Aside0.mk H
     clear H
     go_upto_region 18 with (fail)
     go_cut [363] from 363 to 363 (fun v363 wc => ∃ (kq : Nat) (x363_185 : Bool), v363 = .bool x363_185 ∧ Aside0 (laws_FnMovingTimedOfAll.j1 kq a1 a2 a3 a4 a5 a6 a7 a8 a10 t283 t284 t289 t290 t295 t296 t297 t301 t302 t313 t316 t321 x363_185 a0_0 a0_1 a9_0 a9_1 = some true) ∧ Aside0 (kq ≤ kj25) ∧ Aside0 (Kd.R (Kd.int .i64) 3 wc w.heap.size (fun _ => True) v314 t313) ∧ Aside0 (wc.heap[gb281]? = some (.cells #[.int .i64 a0_0, .int .i64 a0_1] 26 (0, 0))) ∧ Aside0 (wc.heap[gb282]? = some (.cells #[.int .i64 a9_0, .int .i64 a9_1] 26 (0, 0))) ∧ Aside0 (Below w.heap.size w wc))
     case first =>
      as_aux_lemma =>
       have H := HC186.out
       clear HC186
       replace H := Option.bind_eq_some_iff.mp H
       obtain ⟨t332, A1870, H⟩ := H
       try dsimp only at H
       have A187 := Aside0.mk A1870
       clear A1870
       by_cases c188 : t332 = true
       ·subst c188
        rw [if_pos rfl] at H
        replace H := Option.bind_eq_some_iff.mp H
        obtain ⟨t333, A1890, H⟩ := H
        try dsimp only at H
        have A189 := Aside0.mk A1890
        clear A1890
        by_cases c190 : t333 = true
        ·subst c190
         rw [if_pos rfl] at H
         replace H := Option.bind_eq_some_iff.mp H
         obtain ⟨t334, A1910, H⟩ := H
         try dsimp only at H
         have A191 := Aside0.mk A1910
         clear A1910
         by_cases c192 : t334 = true
         ·subst c192
          rw [if_pos rfl] at H
          replace H := Option.bind_eq_some_iff.mp H
          obtain ⟨t335, A1930, H⟩ := H
          try dsimp only at H
          have A193 := Aside0.mk A1930
          clear A1930
          have H' := Aside0.mk H
          clear H
          have hnb194 := NB281_282.out
          have hnc194 := NB282_281.out
          have hcz195_0 : wc.cell? ⟨gb281, 0, none⟩ = some (.int .i64 a0_0) := (blk_cell BK281.out 0).trans rfl
          have hcz195_1 : wc.cell? ⟨gb281, 1, none⟩ = some (.int .i64 a0_1) := (blk_cell BK281.out 1).trans rfl
          have hfz195_0 := blk_frozen BK281.out 0
          have hfz195_1 := blk_frozen BK281.out 1
          go_wp2_with (first | ((with_reducible refine gate_callee (f := 47) rfl ?_); refine goesL_ (some 335) rfl rfl Tryd.func47 (by kernel_rfl) rfl #[.int .i64 t283, .int .i64 t284, .int .i64 a0_0, .int .i64 (wrap64 (a0_1 + a1))] rfl (by (try simp only [List.map_toArray, List.map_cons, List.map_nil]); first | done | rfl | (simp only [List.length_drop, List.length_take]; rfl)) ?_; (with_reducible refine (laws_lIs.calls kj25 t283 t284 a0_0 (wrap64 (a0_1 + a1)) true _ A187.out).mono ?_); rintro e w' ⟨rfl, ⟨nd, rfl⟩⟩; refine ⟨_, rfl, ?_⟩) | (go_at_call 47; (with_reducible refine (laws_lIs.calls kj25 t289 t290 (wrap64 (a1 * t283)) t284 true _ A189.out).mono ?_); rintro e w' ⟨rfl, ⟨nd, rfl⟩⟩) | (go_at_call 47; (with_reducible refine (laws_lIs.calls kj25 t307 t308 (wrap64 (2 * t283)) t284 true _ A191.out).mono ?_); rintro e w' ⟨rfl, ⟨nd, rfl⟩⟩; obtain ⟨Ao196, co196, eo196⟩ := Kd.R_slice HO_53.out; subst eo196) | (go_at_call 59; (with_reducible refine (laws_lHas.calls kj25 _ _ t313 a1 t335 _ ?side1 ?side2 A193.out).mono ?_); (case side1 => repeat (first | exact (rR_ HO_53.out).2.2 | (with_reducible refine Kd.C_alloc ?_ _) | (with_reducible refine Kd.C_drewN ?_ _) | (with_reducible refine Kd.C_drew ?_))); (case side2 => exact (rR_ HO_53.out).2.1); rintro e w' ⟨rfl, ⟨nd, rfl⟩⟩))
          go_meet
          case rel => exact ⟨_, ((t335 != (t284 == 1))), (by first | rfl | (simp; done) | (simp [*]; done)), H', ⟨by have := HJ25.out; first | omega | exact Nat.le_refl _⟩, ⟨by (with_reducible repeat (first | apply rA_ | apply rN_ | apply rD_)); exact HO_53.out⟩, ⟨by (with_reducible repeat (first | refine kN_ ?_ _ | refine kD_ ?_ | refine kA_ ?_ _)); exact BK281.out⟩, ⟨by (with_reducible repeat (first | refine kN_ ?_ _ | refine kD_ ?_ | refine kA_ ?_ _)); exact BK282.out⟩, ⟨by repeat (first | (with_reducible first | exact HB.out | apply bA_ | apply bN_ | apply bD_ | refine bS_ ?_ GE281.out | refine bS_ ?_ GE282.out) | exact HB.out)⟩⟩
         replace c192 := Bool.eq_false_iff.mpr c192
         subst c192
         rw [if_neg (show ¬ (false = true) by decide)] at H
         exact absurd H laws_FnMovingTimedOfAll.j1_no
        replace c190 := Bool.eq_false_iff.mpr c190
        subst c190
        rw [if_neg (show ¬ (false = true) by decide)] at H
        exact absurd H laws_FnMovingTimedOfAll.j1_no
       replace c188 := Bool.eq_false_iff.mpr c188
       subst c188
       rw [if_neg (show ¬ (false = true) by decide)] at H
       exact absurd H laws_FnMovingTimedOfAll.j1_no
     as_aux_lemma =>
      clear HC186
      (try clear c1); (try clear c2); (try clear p2); (try clear c4); (try clear p6); (try clear c18); (try clear c19); (try clear c20); (try clear c47); (try clear p64); (try clear c183); (try clear c185); (try clear c188); (try clear c190); (try clear c192); (try clear c194); (try clear c197); (try clear c199); (try clear c201); (try clear hcz195_0); (try clear hcz195_1); (try clear hcz198_0); (try clear hcz198_1); (try clear hcz200_0); (try clear hcz200_1); (try clear hcz202_0); (try clear hcz202_1); (try clear hfz195_0); (try clear hfz195_1); (try clear hfz198_0); (try clear hfz198_1); (try clear hfz200_0); (try clear hfz200_1); (try clear hfz202_0); (try clear hfz202_1); try clear p2
      obtain ⟨kq, x363_185, rfl, HA, HJ185, HO_53, BK281, BK282, HB⟩ := hcut
      rcases kq with _ | kj185
      ·exact absurd HA.out (by simp [laws_FnMovingTimedOfAll.j1])
      have H := HA.out
      clear HA
      simp only [laws_FnMovingTimedOfAll.j1] at H
      by_cases c203 : x363_185 = true
      ·subst c203
       rw [if_pos rfl] at H
       exact absurd (Option.some.inj H) (by decide)
      replace c203 := Bool.eq_false_iff.mpr c203
      subst c203
      rw [if_neg (show ¬ (false = true) by decide)] at H
      have HC204 := Aside0.mk H
      clear H
      go_upto_region 20 with (fail)
      go_cut [376] from 376 to 376 (fun v376 wc => ∃ (kq : Nat) (x376_203 : Bool), v376 = .bool x376_203 ∧ Aside0 (laws_FnMovingTimedOfAll.j2 kq a1 a2 a3 a4 a5 a6 a7 a8 a10 t283 t284 t289 t290 t295 t296 t297 t301 t302 t313 t316 t321 x376_203 a0_0 a0_1 a9_0 a9_1 = some true) ∧ Aside0 (kq ≤ kj185) ∧ Aside0 (Kd.R (Kd.int .i64) 3 wc w.heap.size (fun _ => True) v314 t313) ∧ Aside0 (wc.heap[gb281]? = some (.cells #[.int .i64 a0_0, .int .i64 a0_1] 26 (0, 0))) ∧ Aside0 (wc.heap[gb282]? = some (.cells #[.int .i64 a9_0, .int .i64 a9_1] 26 (0, 0))) ∧ Aside0 (Below w.heap.size w wc))
      case first =>
       as_aux_lemma =>
        have H := HC204.out
        clear HC204
        by_cases c205 : t290 = 1
        ·rw [if_pos c205] at H
         have c205b0 : (t290 == 1) = true := beq_iff_eq.mpr c205
         have c205b1 : (t290 != 1) = false := bne_eq_false_iff_eq.mpr c205
         clear c205
         by_cases c206 : t289 < a0_0
         ·rw [if_pos c206] at H
          have c206b0 : decide (t289 < a0_0) = true := decide_eq_true c206
          clear c206
          have H' := Aside0.mk H
          clear H
          have hnb207 := NB281_282.out
          have hnc207 := NB282_281.out
          have hcz208_0 : wc.cell? ⟨gb281, 0, none⟩ = some (.int .i64 a0_0) := (blk_cell BK281.out 0).trans rfl
          have hcz208_1 : wc.cell? ⟨gb281, 1, none⟩ = some (.int .i64 a0_1) := (blk_cell BK281.out 1).trans rfl
          have hfz208_0 := blk_frozen BK281.out 0
          have hfz208_1 := blk_frozen BK281.out 1
          go_wp2
          go_meet
          case rel => exact ⟨_, (decide (a0_1 > 0)), (by first | rfl | (simp; done) | (simp [*]; done)), H', ⟨by have := HJ25.out; have := HJ185.out; first | omega | exact Nat.le_refl _⟩, ⟨by (with_reducible repeat (first | apply rA_ | apply rN_ | apply rD_)); exact HO_53.out⟩, ⟨by (with_reducible repeat (first | refine kN_ ?_ _ | refine kD_ ?_ | refine kA_ ?_ _)); exact BK281.out⟩, ⟨by (with_reducible repeat (first | refine kN_ ?_ _ | refine kD_ ?_ | refine kA_ ?_ _)); exact BK282.out⟩, ⟨by repeat (first | (with_reducible first | exact HB.out | apply bA_ | apply bN_ | apply bD_ | refine bS_ ?_ GE281.out | refine bS_ ?_ GE282.out) | exact HB.out)⟩⟩
         rw [if_neg c206] at H
         have c206b0 : decide (t289 < a0_0) = false := decide_eq_false c206
         clear c206
         have H' := Aside0.mk H
         clear H
         have hnb209 := NB281_282.out
         have hnc209 := NB282_281.out
         have hcz210_0 : wc.cell? ⟨gb281, 0, none⟩ = some (.int .i64 a0_0) := (blk_cell BK281.out 0).trans rfl
         have hcz210_1 : wc.cell? ⟨gb281, 1, none⟩ = some (.int .i64 a0_1) := (blk_cell BK281.out 1).trans rfl
         have hfz210_0 := blk_frozen BK281.out 0
         have hfz210_1 := blk_frozen BK281.out 1
         go_wp2
         go_meet
         case rel => exact ⟨_, (false), (by first | rfl | (simp; done) | (simp [*]; done)), H', ⟨by have := HJ25.out; have := HJ185.out; first | omega | exact Nat.le_refl _⟩, ⟨by (with_reducible repeat (first | apply rA_ | apply rN_ | apply rD_)); exact HO_53.out⟩, ⟨by (with_reducible repeat (first | refine kN_ ?_ _ | refine kD_ ?_ | refine kA_ ?_ _)); exact BK281.out⟩, ⟨by (with_reducible repeat (first | refine kN_ ?_ _ | refine kD_ ?_ | refine kA_ ?_ _)); exact BK282.out⟩, ⟨by repeat (first | (with_reducible first | exact HB.out | apply bA_ | apply bN_ | apply bD_ | refine bS_ ?_ GE281.out | refine bS_ ?_ GE282.out) | exact HB.out)⟩⟩
        rw [if_neg c205] at H
        have c205b0 : (t290 == 1) = false := beq_eq_false_iff_ne.mpr c205
        have c205b1 : (t290 != 1) = true := bne_iff_ne.mpr c205
        have H' := Aside0.mk H
        clear H
        go_wp2
        go_meet
        case rel => exact ⟨_, (false), (by first | rfl | (simp; done) | (simp [*]; done)), H', ⟨by have := HJ25.out; have := HJ185.out; first | omega | exact Nat.le_refl _⟩, ⟨by (with_reducible repeat (first | apply rA_ | apply rN_ | apply rD_)); exact HO_53.out⟩, ⟨by (with_reducible repeat (first | refine kN_ ?_ _ | refine kD_ ?_ | refine kA_ ?_ _)); exact BK281.out⟩, ⟨by (with_reducible repeat (first | refine kN_ ?_ _ | refine kD_ ?_ | refine kA_ ?_ _)); exact BK282.out⟩, ⟨by repeat (first | (with_reducible first | exact HB.out | apply bA_ | apply bN_ | apply bD_ | refine bS_ ?_ GE281.out | refine bS_ ?_ GE282.out) | exact HB.out)⟩⟩
      as_aux_lemma =>
       clear HC204
       (try clear c1); (try clear c2); (try clear p2); (try clear c4); (try clear p6); (try clear c18); (try clear c19); (try clear c20); (try clear c47); (try clear p64); (try clear c183); (try clear c185); (try clear c188); (try clear c190); (try clear c192); (try clear c194); (try clear c197); (try clear c199); (try clear c201); (try clear c203); (try clear c205); (try clear c205b0); (try clear c205b1); (try clear c206); (try clear c206b0); (try clear c207); (try clear c209); (try clear hcz195_0); (try clear hcz195_1); (try clear hcz198_0); (try clear hcz198_1); (try clear hcz200_0); (try clear hcz200_1); (try clear hcz202_0); (try clear hcz202_1); (try clear hcz208_0); (try clear hcz208_1); (try clear hcz210_0); (try clear hcz210_1); (try clear hfz195_0); (try clear hfz195_1); (try clear hfz198_0); (try clear hfz198_1); (try clear hfz200_0); (try clear hfz200_1); (try clear hfz202_0); (try clear hfz202_1); (try clear hfz208_0); (try clear hfz208_1); (try clear hfz210_0); (try clear hfz210_1); (try clear p2); (try clear p6); try clear p64
       obtain ⟨kq, x376_203, rfl, HA, HJ203, HO_53, BK281, BK282, HB⟩ := hcut
       rcases kq with _ | kj203
       ·exact absurd HA.out (by simp [laws_FnMovingTimedOfAll.j2])
       have H := HA.out
       clear HA
       simp only [laws_FnMovingTimedOfAll.j2] at H
       by_cases c211 : x376_203 = true
       ·subst c211
        rw [if_pos rfl] at H
        replace H := Option.bind_eq_some_iff.mp H
        obtain ⟨⟨t336, t337, t338⟩, A2120, H⟩ := H
        try dsimp only at H
        have A212 := Aside0.mk A2120
        clear A2120
        have HC213 := Aside0.mk H
        clear H
        have hnb214 := NB281_282.out
        have hnc214 := NB282_281.out
        have hcz215_0 : wc.cell? ⟨gb281, 0, none⟩ = some (.int .i64 a0_0) := (blk_cell BK281.out 0).trans rfl
        have hcz215_1 : wc.cell? ⟨gb281, 1, none⟩ = some (.int .i64 a0_1) := (blk_cell BK281.out 1).trans rfl
        have hfz215_0 := blk_frozen BK281.out 0
        have hfz215_1 := blk_frozen BK281.out 1
        go_upto_region 22 with (first | ((with_reducible refine gate_callee (f := 96) rfl ?_); refine goesL_ (some 380) rfl rfl Tryd.func96 (by kernel_rfl) rfl #[.agg #[.int .i64 a0_0, .int .i64 a0_1], .int .i64 t289] rfl (by (try simp only [List.map_toArray, List.map_cons, List.map_nil]); first | done | rfl | (simp only [List.length_drop, List.length_take]; rfl)) ?_; (with_reducible refine (impl_PaceForSteps.calls kj203 a0_0 a0_1 t289 t336 t337 t338 _ A212.out).mono ?_); rintro e w216 ⟨rfl, hb⟩; refine ⟨_, rfl, ?_⟩; have n0_ := Aside0.mk (rB_ (by (with_reducible repeat (first | apply rA_ | apply rN_ | apply rD_)); exact HO_53.out) hb); have n1_ := Aside0.mk (blk_below (g := gb281) (o := .cells #[.int .i64 a0_0, .int .i64 a0_1] 26 (0, 0)) (by (with_reducible repeat (first | refine kN_ ?_ _ | refine kD_ ?_ | refine kA_ ?_ _)); exact BK281.out) hb); have n2_ := Aside0.mk (blk_below (g := gb282) (o := .cells #[.int .i64 a9_0, .int .i64 a9_1] 26 (0, 0)) (by (with_reducible repeat (first | refine kN_ ?_ _ | refine kD_ ?_ | refine kA_ ?_ _)); exact BK282.out) hb); have n3_ := Aside0.mk (below_step (by repeat (first | (with_reducible first | exact HB.out | apply bA_ | apply bN_ | apply bD_ | refine bS_ ?_ GE281.out | refine bS_ ?_ GE282.out) | exact HB.out)) hb); clear HO_53; clear BK281; clear BK282; clear HB; have HO_53 := n0_; have BK281 := n1_; have BK282 := n2_; have HB := n3_; clear n0_ n1_ n2_ n3_; (try clear hb); (try clear hb2); (try clear hk); (try clear hi)))
        (try simp only [Act.put, List.setIfInBounds_toArray, List.set_cons_zero, List.set_cons_succ])
        go_cut [392] from 392 to 392 (fun v392 wc => ∃ (kq : Nat) (x392_212 : Bool), v392 = .bool x392_212 ∧ Aside0 (laws_FnMovingTimedOfAll.j3 kq a1 a2 a3 a4 a5 a6 a7 a8 a10 t283 t284 t289 t290 t295 t296 t297 t301 t302 t313 t316 t321 x392_212 a0_0 a0_1 a9_0 a9_1 = some true) ∧ Aside0 (kq ≤ kj203) ∧ Aside0 (Kd.R (Kd.int .i64) 3 wc w.heap.size (fun _ => True) v314 t313) ∧ Aside0 (wc.heap[gb281]? = some (.cells #[.int .i64 a0_0, .int .i64 a0_1] 26 (0, 0))) ∧ Aside0 (wc.heap[gb282]? = some (.cells #[.int .i64 a9_0, .int .i64 a9_1] 26 (0, 0))) ∧ Aside0 (Below w.heap.size w wc))
        case first =>
         as_aux_lemma =>
          have H := HC213.out
          clear HC213
          by_cases c217 : t338 = true
          ·subst c217
           rw [if_pos rfl] at H
           replace H := Option.bind_eq_some_iff.mp H
           obtain ⟨t339, A2180, H⟩ := H
           try dsimp only at H
           have A218 := Aside0.mk A2180
           clear A2180
           have H' := Aside0.mk H
           clear H
           go_wp2_with (first | (go_at_call 47; (with_reducible refine (laws_lIs.calls kj203 t336 t337 a1 1 t339 _ A218.out).mono ?_); rintro e w' ⟨rfl, ⟨nd, rfl⟩⟩))
           go_meet
           case rel => exact ⟨_, (!t339), (by first | rfl | (simp; done) | (simp [*]; done)), H', ⟨by have := HJ25.out; have := HJ185.out; have := HJ203.out; first | omega | exact Nat.le_refl _⟩, ⟨by (with_reducible repeat (first | apply rA_ | apply rN_ | apply rD_)); exact HO_53.out⟩, ⟨by (with_reducible repeat (first | refine kN_ ?_ _ | refine kD_ ?_ | refine kA_ ?_ _)); exact BK281.out⟩, ⟨by (with_reducible repeat (first | refine kN_ ?_ _ | refine kD_ ?_ | refine kA_ ?_ _)); exact BK282.out⟩, ⟨by repeat (first | (with_reducible first | exact HB.out | apply bA_ | apply bN_ | apply bD_ | refine bS_ ?_ GE281.out | refine bS_ ?_ GE282.out) | exact HB.out)⟩⟩
          replace c217 := Bool.eq_false_iff.mpr c217
          subst c217
          rw [if_neg (show ¬ (false = true) by decide)] at H
          exact absurd H laws_FnMovingTimedOfAll.j3_no
        as_aux_lemma =>
         clear HC213
         (try clear c1); (try clear c2); (try clear p2); (try clear c4); (try clear p6); (try clear c9); (try clear c18); (try clear c19); (try clear c20); (try clear c21); (try clear c47); (try clear p64); (try clear c96); (try clear c183); (try clear c185); (try clear c188); (try clear c190); (try clear c192); (try clear c194); (try clear c197); (try clear c199); (try clear c201); (try clear c203); (try clear c205); (try clear c205b0); (try clear c205b1); (try clear c206); (try clear c206b0); (try clear c207); (try clear c209); (try clear c211); (try clear c214); (try clear c217); (try clear hcz195_0); (try clear hcz195_1); (try clear hcz198_0); (try clear hcz198_1); (try clear hcz200_0); (try clear hcz200_1); (try clear hcz202_0); (try clear hcz202_1); (try clear hcz208_0); (try clear hcz208_1); (try clear hcz210_0); (try clear hcz210_1); (try clear hcz215_0); (try clear hcz215_1); (try clear hfz195_0); (try clear hfz195_1); (try clear hfz198_0); (try clear hfz198_1); (try clear hfz200_0); (try clear hfz200_1); (try clear hfz202_0); (try clear hfz202_1); (try clear hfz208_0); (try clear hfz208_1); (try clear hfz210_0); (try clear hfz210_1); (try clear hfz215_0); (try clear hfz215_1); (try clear p2); (try clear p6); try clear p64
         obtain ⟨kq, x392_212, rfl, HA, HJ212, HO_53, BK281, BK282, HB⟩ := hcut
         rcases kq with _ | kj212
         ·exact absurd HA.out (by simp [laws_FnMovingTimedOfAll.j3])
         have H := HA.out
         clear HA
         simp only [laws_FnMovingTimedOfAll.j3] at H
         by_cases c219 : x392_212 = true
         ·subst c219
          rw [if_pos rfl] at H
          exact absurd (Option.some.inj H) (by decide)
         replace c219 := Bool.eq_false_iff.mpr c219
         subst c219
         rw [if_neg (show ¬ (false = true) by decide)] at H
         by_cases c220 : t284 = 0
         ·rw [if_pos c220] at H
          exact absurd H (by simp)
         rw [if_neg c220] at H
         have c220b0 : (t284 == 0) = false := beq_eq_false_iff_ne.mpr c220
         have c220b1 : (t284 != 0) = true := bne_iff_ne.mpr c220
         replace H := Option.bind_eq_some_iff.mp H
         obtain ⟨⟨t340, t341⟩, A2210, H⟩ := H
         try dsimp only at H
         have A221 := Aside0.mk A2210
         clear A2210
         by_cases c222 : (wrap64 (Int.tdiv (wrap64 ((wrap64 (t283 + t284)) - 1)) t284)) ≤ 1000
         ·rw [if_pos c222] at H
          have c222b0 : decide ((wrap64 (Int.tdiv (wrap64 ((wrap64 (t283 + t284)) - 1)) t284)) ≤ 1000) = true := decide_eq_true c222
          clear c222
          by_cases c223 : t341 = true
          ·subst c223
           rw [if_pos rfl] at H
           by_cases c224 : t340 = a0_0
           ·rw [if_pos c224] at H
            have c224b0 : (t340 == a0_0) = true := beq_iff_eq.mpr c224
            have c224b1 : (t340 != a0_0) = false := bne_eq_false_iff_eq.mpr c224
            clear c224
            have H' := Aside0.mk H
            clear H
            try go_wp2
            have n0_ := Aside0.mk (rD_ HO_53.out)
            have n1_ := Aside0.mk (kD_ BK281.out)
            have n2_ := Aside0.mk (kD_ BK282.out)
            have n3_ := Aside0.mk (bD_ HB.out)
            clear HO_53
            clear BK281
            clear BK282
            clear HB
            have HO_53 := n0_
            have BK281 := n1_
            have BK282 := n2_
            have HB := n3_
            clear n0_ n1_ n2_ n3_
            as_aux_lemma =>
             refine start_ (n := 14) (S := fun w' => w'.cell? ⟨gb281, 0, none⟩ = some (.int .i64 a0_0) ∧ w'.cell? ⟨gb281, 1, none⟩ = some (.int .i64 a0_1)) (ds := []) (bs 14 0) (by kernel_rfl) rfl (by kernel_rfl) ⟨(blk_cell BK281.out 0).trans rfl, (blk_cell BK281.out 1).trans rfl⟩ (fun hHeld => ?_); refine with_tabW laws_FnMovingTimedOfAll.tab24 laws_FnMovingTimedOfAll.bits24 (fun HT_ HW_ => ?_)
             generalize wc.drew = w225 at HO_53 BK281 BK282 HB hHeld ⊢
             refine sL_ 14 [(1, 395, 2), (2, 396, 6), (3, 397, 14), (4, 398, 30), (5, 399, 62), (6, 400, 126), (7, 401, 254), (0, 394, 255), (8, 402, 511), (9, 393, 1023), (10, 403, 2047), (11, 404, 4095), (12, 64, 8191), (13, 65, 16383)] ?_
             iterate 7 (refine pL_ (v := ?_) (a' := ?_) rfl (any_of HT_.out (by kernel_rfl)) (fun _ _ _ h => h) (Or.inl ⟨by rfl, ?_⟩) ?_ ?_; rotate_left; (· (intro w'; first | ((with_reducible apply ym_); (conv => lhs; whnf)) | ((with_reducible apply yb_); (conv => lhs; whnf); (conv => lhs; whnf); go_simp; (with_reducible rfl)) | ((with_reducible apply yp_); (conv => lhs; whnf); (conv => lhs; whnf); (conv => lhs; whnf); go_simp; (with_reducible rfl)) | (go_simp; with_reducible rfl))); rotate_left; (· (simp only [Act.put, List.setIfInBounds_toArray, List.set_cons_zero, List.set_cons_succ, i64_w, i32_w]; rfl)))
             refine tL_ (v := ?_) (a' := ?_) rfl (take_ofW HT_.out HW_.out (by kernel_rfl)) (fun _ _ _ h => h) (Or.inl ⟨by rfl, ?_⟩) hHeld ?_ ?_
             rotate_left
             ·rintro w' ⟨s0, s1⟩
              go_simp
              with_reducible rfl
             rotate_left
             ·simp only [Act.put, List.setIfInBounds_toArray, List.set_cons_zero, List.set_cons_succ, i64_w, i32_w]; rfl
             refine oL_ rfl (one_of HT_.out (by kernel_rfl)) (by decide) (fun K hK => ?_)
             refine goes_ Tryd.func97 (by kernel_rfl) rfl #[.agg #[.int .i64 a0_0, .int .i64 a0_1], .int .i64 a1, .int .i64 (wrap64 (Int.tdiv (wrap64 ((wrap64 (t283 + t284)) - 1)) t284))] (by rfl) rfl rfl (by (try simp only [List.map_toArray, List.map_cons, List.map_nil]); first | done | rfl | (simp only [List.length_drop, List.length_take]; rfl)) ?_
             with_reducible refine (impl_PlaceAt.calls a0_0 a0_1 a1 (wrap64 (Int.tdiv (wrap64 ((wrap64 (t283 + t284)) - 1)) t284)) t340 true _ A221.out).mono ?_
             rintro e w226 ⟨rfl, hb⟩
             refine ⟨_, rfl, ?_⟩
             have n0_ := Aside0.mk (rB_ (by (with_reducible repeat (first | apply rA_ | apply rN_ | apply rD_)); exact HO_53.out) hb)
             have n1_ := Aside0.mk (blk_below (g := gb281) (o := .cells #[.int .i64 a0_0, .int .i64 a0_1] 26 (0, 0)) (by (with_reducible repeat (first | refine kN_ ?_ _ | refine kD_ ?_ | refine kA_ ?_ _)); exact BK281.out) hb)
             have n2_ := Aside0.mk (blk_below (g := gb282) (o := .cells #[.int .i64 a9_0, .int .i64 a9_1] 26 (0, 0)) (by (with_reducible repeat (first | refine kN_ ?_ _ | refine kD_ ?_ | refine kA_ ?_ _)); exact BK282.out) hb)
             have n3_ := Aside0.mk (below_step (by repeat (first | (with_reducible first | exact HB.out | apply bA_ | apply bN_ | apply bD_ | refine bS_ ?_ GE281.out | refine bS_ ?_ GE282.out) | exact HB.out)) hb)
             clear HO_53
             clear BK281
             clear BK282
             clear HB
             have HO_53 := n0_
             have BK281 := n1_
             have BK282 := n2_
             have HB := n3_
             clear n0_ n1_ n2_ n3_
             (try clear hb)
             (try clear hb2)
             (try clear hk)
             (try clear hi)
             refine hK.out _ _ ⟨(blk_cell BK281.out 0).trans rfl, (blk_cell BK281.out 1).trans rfl⟩ (fun hHeld => ?_)
             clear hK K
             refine nL_ (a' := ?_) ?_ ?_
             rotate_left
             ·show Act.put _ (some 402) _ = _
              simp only [Act.put, List.setIfInBounds_toArray, List.set_cons_zero, List.set_cons_succ, i64_w, i32_w]
              rfl
             iterate 5 (refine pL_ (v := ?_) (a' := ?_) rfl (any_of HT_.out (by kernel_rfl)) (fun _ _ _ h => h) (Or.inl ⟨by rfl, ?_⟩) ?_ ?_; rotate_left; (· (intro w'; first | ((with_reducible apply ym_); (conv => lhs; whnf)) | ((with_reducible apply yb_); (conv => lhs; whnf); (conv => lhs; whnf); go_simp; (with_reducible rfl)) | ((with_reducible apply yp_); (conv => lhs; whnf); (conv => lhs; whnf); (conv => lhs; whnf); go_simp; (with_reducible rfl)) | (go_simp; with_reducible rfl))); rotate_left; (· (simp only [Act.put, List.setIfInBounds_toArray, List.set_cons_zero, List.set_cons_succ, i64_w, i32_w]; rfl)))
             refine dL_ (done_of HT_.out (by kernel_rfl)) ?_
             have hnb227 := NB281_282.out
             have hnc227 := NB282_281.out
             have hcz228_0 : w226.cell? ⟨gb281, 0, none⟩ = some (.int .i64 a0_0) := (blk_cell BK281.out 0).trans rfl
             have hcz228_1 : w226.cell? ⟨gb281, 1, none⟩ = some (.int .i64 a0_1) := (blk_cell BK281.out 1).trans rfl
             have hfz228_0 := blk_frozen BK281.out 0
             have hfz228_1 := blk_frozen BK281.out 1
             try go_wp2
             go_meet
             case rel => exact ⟨_, H', ⟨by have := HJ25.out; have := HJ185.out; have := HJ203.out; have := HJ212.out; first | omega | exact Nat.le_refl _⟩, ⟨by (with_reducible repeat (first | apply rA_ | apply rN_ | apply rD_)); exact HO_53.out⟩, ⟨by (with_reducible repeat (first | refine kN_ ?_ _ | refine kD_ ?_ | refine kA_ ?_ _)); exact BK281.out⟩, ⟨by (with_reducible repeat (first | refine kN_ ?_ _ | refine kD_ ?_ | refine kA_ ?_ _)); exact BK282.out⟩, ⟨by repeat (first | (with_reducible first | exact HB.out | apply bA_ | apply bN_ | apply bD_ | refine bS_ ?_ GE281.out | refine bS_ ?_ GE282.out) | exact HB.out)⟩⟩
           rw [if_neg c224] at H
           exact absurd (Option.some.inj H) (by decide)
          replace c223 := Bool.eq_false_iff.mpr c223
          subst c223
          rw [if_neg (show ¬ (false = true) by decide)] at H
          exact absurd (Option.some.inj H) (by decide)
         rw [if_neg c222] at H
         have c222b0 : decide ((wrap64 (Int.tdiv (wrap64 ((wrap64 (t283 + t284)) - 1)) t284)) ≤ 1000) = false := decide_eq_false c222
         clear c222
         have H' := Aside0.mk H
         clear H
         try go_wp2
         have n0_ := Aside0.mk (rD_ HO_53.out)
         have n1_ := Aside0.mk (kD_ BK281.out)
         have n2_ := Aside0.mk (kD_ BK282.out)
         have n3_ := Aside0.mk (bD_ HB.out)
         clear HO_53
         clear BK281
         clear BK282
         clear HB
         have HO_53 := n0_
         have BK281 := n1_
         have BK282 := n2_
         have HB := n3_
         clear n0_ n1_ n2_ n3_
         as_aux_lemma =>
          refine start_ (n := 14) (S := fun w' => w'.cell? ⟨gb281, 0, none⟩ = some (.int .i64 a0_0) ∧ w'.cell? ⟨gb281, 1, none⟩ = some (.int .i64 a0_1)) (ds := []) (bs 14 0) (by kernel_rfl) rfl (by kernel_rfl) ⟨(blk_cell BK281.out 0).trans rfl, (blk_cell BK281.out 1).trans rfl⟩ (fun hHeld => ?_); refine with_tabW laws_FnMovingTimedOfAll.tab24 laws_FnMovingTimedOfAll.bits24 (fun HT_ HW_ => ?_)
          generalize wc.drew = w235 at HO_53 BK281 BK282 HB hHeld ⊢
          refine sL_ 14 [(1, 395, 2), (2, 396, 6), (3, 397, 14), (4, 398, 30), (5, 399, 62), (6, 400, 126), (7, 401, 254), (0, 394, 255), (8, 402, 511), (9, 393, 1023), (10, 403, 2047), (11, 404, 4095), (12, 64, 8191), (13, 65, 16383)] ?_
          iterate 7 (refine pL_ (v := ?_) (a' := ?_) rfl (any_of HT_.out (by kernel_rfl)) (fun _ _ _ h => h) (Or.inl ⟨by rfl, ?_⟩) ?_ ?_; rotate_left; (· (intro w'; first | ((with_reducible apply ym_); (conv => lhs; whnf)) | ((with_reducible apply yb_); (conv => lhs; whnf); (conv => lhs; whnf); go_simp; (with_reducible rfl)) | ((with_reducible apply yp_); (conv => lhs; whnf); (conv => lhs; whnf); (conv => lhs; whnf); go_simp; (with_reducible rfl)) | (go_simp; with_reducible rfl))); rotate_left; (· (simp only [Act.put, List.setIfInBounds_toArray, List.set_cons_zero, List.set_cons_succ, i64_w, i32_w]; rfl)))
          refine tL_ (v := ?_) (a' := ?_) rfl (take_ofW HT_.out HW_.out (by kernel_rfl)) (fun _ _ _ h => h) (Or.inl ⟨by rfl, ?_⟩) hHeld ?_ ?_
          rotate_left
          ·rintro w' ⟨s0, s1⟩
           go_simp
           with_reducible rfl
          rotate_left
          ·simp only [Act.put, List.setIfInBounds_toArray, List.set_cons_zero, List.set_cons_succ, i64_w, i32_w]; rfl
          refine oL_ rfl (one_of HT_.out (by kernel_rfl)) (by decide) (fun K hK => ?_)
          refine goes_ Tryd.func97 (by kernel_rfl) rfl #[.agg #[.int .i64 a0_0, .int .i64 a0_1], .int .i64 a1, .int .i64 (wrap64 (Int.tdiv (wrap64 ((wrap64 (t283 + t284)) - 1)) t284))] (by rfl) rfl rfl (by (try simp only [List.map_toArray, List.map_cons, List.map_nil]); first | done | rfl | (simp only [List.length_drop, List.length_take]; rfl)) ?_
          with_reducible refine (impl_PlaceAt.calls a0_0 a0_1 a1 (wrap64 (Int.tdiv (wrap64 ((wrap64 (t283 + t284)) - 1)) t284)) t340 t341 _ A221.out).mono ?_
          rintro e w236 ⟨rfl, hb⟩
          refine ⟨_, rfl, ?_⟩
          have n0_ := Aside0.mk (rB_ (by (with_reducible repeat (first | apply rA_ | apply rN_ | apply rD_)); exact HO_53.out) hb)
          have n1_ := Aside0.mk (blk_below (g := gb281) (o := .cells #[.int .i64 a0_0, .int .i64 a0_1] 26 (0, 0)) (by (with_reducible repeat (first | refine kN_ ?_ _ | refine kD_ ?_ | refine kA_ ?_ _)); exact BK281.out) hb)
          have n2_ := Aside0.mk (blk_below (g := gb282) (o := .cells #[.int .i64 a9_0, .int .i64 a9_1] 26 (0, 0)) (by (with_reducible repeat (first | refine kN_ ?_ _ | refine kD_ ?_ | refine kA_ ?_ _)); exact BK282.out) hb)
          have n3_ := Aside0.mk (below_step (by repeat (first | (with_reducible first | exact HB.out | apply bA_ | apply bN_ | apply bD_ | refine bS_ ?_ GE281.out | refine bS_ ?_ GE282.out) | exact HB.out)) hb)
          clear HO_53
          clear BK281
          clear BK282
          clear HB
          have HO_53 := n0_
          have BK281 := n1_
          have BK282 := n2_
          have HB := n3_
          clear n0_ n1_ n2_ n3_
          (try clear hb)
          (try clear hb2)
          (try clear hk)
          (try clear hi)
          refine hK.out _ _ ⟨(blk_cell BK281.out 0).trans rfl, (blk_cell BK281.out 1).trans rfl⟩ (fun hHeld => ?_)
          clear hK K
          refine nL_ (a' := ?_) ?_ ?_
          rotate_left
          ·show Act.put _ (some 402) _ = _
           simp only [Act.put, List.setIfInBounds_toArray, List.set_cons_zero, List.set_cons_succ, i64_w, i32_w]
           rfl
          iterate 5 (refine pL_ (v := ?_) (a' := ?_) rfl (any_of HT_.out (by kernel_rfl)) (fun _ _ _ h => h) (Or.inl ⟨by rfl, ?_⟩) ?_ ?_; rotate_left; (· (intro w'; first | ((with_reducible apply ym_); (conv => lhs; whnf)) | ((with_reducible apply yb_); (conv => lhs; whnf); (conv => lhs; whnf); go_simp; (with_reducible rfl)) | ((with_reducible apply yp_); (conv => lhs; whnf); (conv => lhs; whnf); (conv => lhs; whnf); go_simp; (with_reducible rfl)) | (go_simp; with_reducible rfl))); rotate_left; (· (simp only [Act.put, List.setIfInBounds_toArray, List.set_cons_zero, List.set_cons_succ, i64_w, i32_w]; rfl)))
          refine dL_ (done_of HT_.out (by kernel_rfl)) ?_
          try go_wp2
          go_meet
          case rel => exact ⟨_, H', ⟨by have := HJ25.out; have := HJ185.out; have := HJ203.out; have := HJ212.out; first | omega | exact Nat.le_refl _⟩, ⟨by (with_reducible repeat (first | apply rA_ | apply rN_ | apply rD_)); exact HO_53.out⟩, ⟨by (with_reducible repeat (first | refine kN_ ?_ _ | refine kD_ ?_ | refine kA_ ?_ _)); exact BK281.out⟩, ⟨by (with_reducible repeat (first | refine kN_ ?_ _ | refine kD_ ?_ | refine kA_ ?_ _)); exact BK282.out⟩, ⟨by repeat (first | (with_reducible first | exact HB.out | apply bA_ | apply bN_ | apply bD_ | refine bS_ ?_ GE281.out | refine bS_ ?_ GE282.out) | exact HB.out)⟩⟩
       replace c211 := Bool.eq_false_iff.mpr c211
       subst c211
       rw [if_neg (show ¬ (false = true) by decide)] at H
       by_cases c237 : t284 = 0
       ·rw [if_pos c237] at H
        exact absurd H (by simp)
       rw [if_neg c237] at H
       have c237b0 : (t284 == 0) = false := beq_eq_false_iff_ne.mpr c237
       have c237b1 : (t284 != 0) = true := bne_iff_ne.mpr c237
       replace H := Option.bind_eq_some_iff.mp H
       obtain ⟨⟨t342, t343⟩, A2380, H⟩ := H
       try dsimp only at H
       have A238 := Aside0.mk A2380
       clear A2380
       by_cases c239 : (wrap64 (Int.tdiv (wrap64 ((wrap64 (t283 + t284)) - 1)) t284)) ≤ 1000
       ·rw [if_pos c239] at H
        have c239b0 : decide ((wrap64 (Int.tdiv (wrap64 ((wrap64 (t283 + t284)) - 1)) t284)) ≤ 1000) = true := decide_eq_true c239
        clear c239
        by_cases c240 : t343 = true
        ·subst c240
         rw [if_pos rfl] at H
         by_cases c241 : t342 = a0_0
         ·rw [if_pos c241] at H
          have c241b0 : (t342 == a0_0) = true := beq_iff_eq.mpr c241
          have c241b1 : (t342 != a0_0) = false := bne_eq_false_iff_eq.mpr c241
          clear c241
          have H' := Aside0.mk H
          clear H
          try go_wp2
          have n0_ := Aside0.mk (rD_ HO_53.out)
          have n1_ := Aside0.mk (kD_ BK281.out)
          have n2_ := Aside0.mk (kD_ BK282.out)
          have n3_ := Aside0.mk (bD_ HB.out)
          clear HO_53
          clear BK281
          clear BK282
          clear HB
          have HO_53 := n0_
          have BK281 := n1_
          have BK282 := n2_
          have HB := n3_
          clear n0_ n1_ n2_ n3_
          as_aux_lemma =>
           refine start_ (n := 14) (S := fun w' => w'.cell? ⟨gb281, 0, none⟩ = some (.int .i64 a0_0) ∧ w'.cell? ⟨gb281, 1, none⟩ = some (.int .i64 a0_1)) (ds := []) (bs 14 0) (by kernel_rfl) rfl (by kernel_rfl) ⟨(blk_cell BK281.out 0).trans rfl, (blk_cell BK281.out 1).trans rfl⟩ (fun hHeld => ?_); refine with_tabW laws_FnMovingTimedOfAll.tab24 laws_FnMovingTimedOfAll.bits24 (fun HT_ HW_ => ?_)
           generalize wc.drew = w242 at HO_53 BK281 BK282 HB hHeld ⊢
           refine sL_ 14 [(1, 395, 2), (2, 396, 6), (3, 397, 14), (4, 398, 30), (5, 399, 62), (6, 400, 126), (7, 401, 254), (0, 394, 255), (8, 402, 511), (9, 393, 1023), (10, 403, 2047), (11, 404, 4095), (12, 64, 8191), (13, 65, 16383)] ?_
           iterate 7 (refine pL_ (v := ?_) (a' := ?_) rfl (any_of HT_.out (by kernel_rfl)) (fun _ _ _ h => h) (Or.inl ⟨by rfl, ?_⟩) ?_ ?_; rotate_left; (· (intro w'; first | ((with_reducible apply ym_); (conv => lhs; whnf)) | ((with_reducible apply yb_); (conv => lhs; whnf); (conv => lhs; whnf); go_simp; (with_reducible rfl)) | ((with_reducible apply yp_); (conv => lhs; whnf); (conv => lhs; whnf); (conv => lhs; whnf); go_simp; (with_reducible rfl)) | (go_simp; with_reducible rfl))); rotate_left; (· (simp only [Act.put, List.setIfInBounds_toArray, List.set_cons_zero, List.set_cons_succ, i64_w, i32_w]; rfl)))
           refine tL_ (v := ?_) (a' := ?_) rfl (take_ofW HT_.out HW_.out (by kernel_rfl)) (fun _ _ _ h => h) (Or.inl ⟨by rfl, ?_⟩) hHeld ?_ ?_
           rotate_left
           ·rintro w' ⟨s0, s1⟩
            go_simp
            with_reducible rfl
           rotate_left
           ·simp only [Act.put, List.setIfInBounds_toArray, List.set_cons_zero, List.set_cons_succ, i64_w, i32_w]; rfl
           refine oL_ rfl (one_of HT_.out (by kernel_rfl)) (by decide) (fun K hK => ?_)
           refine goes_ Tryd.func97 (by kernel_rfl) rfl #[.agg #[.int .i64 a0_0, .int .i64 a0_1], .int .i64 a1, .int .i64 (wrap64 (Int.tdiv (wrap64 ((wrap64 (t283 + t284)) - 1)) t284))] (by rfl) rfl rfl (by (try simp only [List.map_toArray, List.map_cons, List.map_nil]); first | done | rfl | (simp only [List.length_drop, List.length_take]; rfl)) ?_
           with_reducible refine (impl_PlaceAt.calls a0_0 a0_1 a1 (wrap64 (Int.tdiv (wrap64 ((wrap64 (t283 + t284)) - 1)) t284)) t342 true _ A238.out).mono ?_
           rintro e w243 ⟨rfl, hb⟩
           refine ⟨_, rfl, ?_⟩
           have n0_ := Aside0.mk (rB_ (by (with_reducible repeat (first | apply rA_ | apply rN_ | apply rD_)); exact HO_53.out) hb)
           have n1_ := Aside0.mk (blk_below (g := gb281) (o := .cells #[.int .i64 a0_0, .int .i64 a0_1] 26 (0, 0)) (by (with_reducible repeat (first | refine kN_ ?_ _ | refine kD_ ?_ | refine kA_ ?_ _)); exact BK281.out) hb)
           have n2_ := Aside0.mk (blk_below (g := gb282) (o := .cells #[.int .i64 a9_0, .int .i64 a9_1] 26 (0, 0)) (by (with_reducible repeat (first | refine kN_ ?_ _ | refine kD_ ?_ | refine kA_ ?_ _)); exact BK282.out) hb)
           have n3_ := Aside0.mk (below_step (by repeat (first | (with_reducible first | exact HB.out | apply bA_ | apply bN_ | apply bD_ | refine bS_ ?_ GE281.out | refine bS_ ?_ GE282.out) | exact HB.out)) hb)
           clear HO_53
           clear BK281
           clear BK282
           clear HB
           have HO_53 := n0_
           have BK281 := n1_
           have BK282 := n2_
           have HB := n3_
           clear n0_ n1_ n2_ n3_
           (try clear hb)
           (try clear hb2)
           (try clear hk)
           (try clear hi)
           refine hK.out _ _ ⟨(blk_cell BK281.out 0).trans rfl, (blk_cell BK281.out 1).trans rfl⟩ (fun hHeld => ?_)
           clear hK K
           refine nL_ (a' := ?_) ?_ ?_
           rotate_left
           ·show Act.put _ (some 402) _ = _
            simp only [Act.put, List.setIfInBounds_toArray, List.set_cons_zero, List.set_cons_succ, i64_w, i32_w]
            rfl
           iterate 5 (refine pL_ (v := ?_) (a' := ?_) rfl (any_of HT_.out (by kernel_rfl)) (fun _ _ _ h => h) (Or.inl ⟨by rfl, ?_⟩) ?_ ?_; rotate_left; (· (intro w'; first | ((with_reducible apply ym_); (conv => lhs; whnf)) | ((with_reducible apply yb_); (conv => lhs; whnf); (conv => lhs; whnf); go_simp; (with_reducible rfl)) | ((with_reducible apply yp_); (conv => lhs; whnf); (conv => lhs; whnf); (conv => lhs; whnf); go_simp; (with_reducible rfl)) | (go_simp; with_reducible rfl))); rotate_left; (· (simp only [Act.put, List.setIfInBounds_toArray, List.set_cons_zero, List.set_cons_succ, i64_w, i32_w]; rfl)))
           refine dL_ (done_of HT_.out (by kernel_rfl)) ?_
           have hnb244 := NB281_282.out
           have hnc244 := NB282_281.out
           have hcz245_0 : w243.cell? ⟨gb281, 0, none⟩ = some (.int .i64 a0_0) := (blk_cell BK281.out 0).trans rfl
           have hcz245_1 : w243.cell? ⟨gb281, 1, none⟩ = some (.int .i64 a0_1) := (blk_cell BK281.out 1).trans rfl
           have hfz245_0 := blk_frozen BK281.out 0
           have hfz245_1 := blk_frozen BK281.out 1
           try go_wp2
           go_meet
           case rel => exact ⟨_, H', ⟨by have := HJ25.out; have := HJ185.out; have := HJ203.out; first | omega | exact Nat.le_refl _⟩, ⟨by (with_reducible repeat (first | apply rA_ | apply rN_ | apply rD_)); exact HO_53.out⟩, ⟨by (with_reducible repeat (first | refine kN_ ?_ _ | refine kD_ ?_ | refine kA_ ?_ _)); exact BK281.out⟩, ⟨by (with_reducible repeat (first | refine kN_ ?_ _ | refine kD_ ?_ | refine kA_ ?_ _)); exact BK282.out⟩, ⟨by repeat (first | (with_reducible first | exact HB.out | apply bA_ | apply bN_ | apply bD_ | refine bS_ ?_ GE281.out | refine bS_ ?_ GE282.out) | exact HB.out)⟩⟩
         rw [if_neg c241] at H
         exact absurd (Option.some.inj H) (by decide)
        replace c240 := Bool.eq_false_iff.mpr c240
        subst c240
        rw [if_neg (show ¬ (false = true) by decide)] at H
        exact absurd (Option.some.inj H) (by decide)
       rw [if_neg c239] at H
       have c239b0 : decide ((wrap64 (Int.tdiv (wrap64 ((wrap64 (t283 + t284)) - 1)) t284)) ≤ 1000) = false := decide_eq_false c239
       clear c239
       have H' := Aside0.mk H
       clear H
       try go_wp2
       have n0_ := Aside0.mk (rD_ HO_53.out)
       have n1_ := Aside0.mk (kD_ BK281.out)
       have n2_ := Aside0.mk (kD_ BK282.out)
       have n3_ := Aside0.mk (bD_ HB.out)
       clear HO_53
       clear BK281
       clear BK282
       clear HB
       have HO_53 := n0_
       have BK281 := n1_
       have BK282 := n2_
       have HB := n3_
       clear n0_ n1_ n2_ n3_
       as_aux_lemma =>
        refine start_ (n := 14) (S := fun w' => w'.cell? ⟨gb281, 0, none⟩ = some (.int .i64 a0_0) ∧ w'.cell? ⟨gb281, 1, none⟩ = some (.int .i64 a0_1)) (ds := []) (bs 14 0) (by kernel_rfl) rfl (by kernel_rfl) ⟨(blk_cell BK281.out 0).trans rfl, (blk_cell BK281.out 1).trans rfl⟩ (fun hHeld => ?_); refine with_tabW laws_FnMovingTimedOfAll.tab24 laws_FnMovingTimedOfAll.bits24 (fun HT_ HW_ => ?_)
        generalize wc.drew = w252 at HO_53 BK281 BK282 HB hHeld ⊢
        refine sL_ 14 [(1, 395, 2), (2, 396, 6), (3, 397, 14), (4, 398, 30), (5, 399, 62), (6, 400, 126), (7, 401, 254), (0, 394, 255), (8, 402, 511), (9, 393, 1023), (10, 403, 2047), (11, 404, 4095), (12, 64, 8191), (13, 65, 16383)] ?_
        iterate 7 (refine pL_ (v := ?_) (a' := ?_) rfl (any_of HT_.out (by kernel_rfl)) (fun _ _ _ h => h) (Or.inl ⟨by rfl, ?_⟩) ?_ ?_; rotate_left; (· (intro w'; first | ((with_reducible apply ym_); (conv => lhs; whnf)) | ((with_reducible apply yb_); (conv => lhs; whnf); (conv => lhs; whnf); go_simp; (with_reducible rfl)) | ((with_reducible apply yp_); (conv => lhs; whnf); (conv => lhs; whnf); (conv => lhs; whnf); go_simp; (with_reducible rfl)) | (go_simp; with_reducible rfl))); rotate_left; (· (simp only [Act.put, List.setIfInBounds_toArray, List.set_cons_zero, List.set_cons_succ, i64_w, i32_w]; rfl)))
        refine tL_ (v := ?_) (a' := ?_) rfl (take_ofW HT_.out HW_.out (by kernel_rfl)) (fun _ _ _ h => h) (Or.inl ⟨by rfl, ?_⟩) hHeld ?_ ?_
        rotate_left
        ·rintro w' ⟨s0, s1⟩
         go_simp
         with_reducible rfl
        rotate_left
        ·simp only [Act.put, List.setIfInBounds_toArray, List.set_cons_zero, List.set_cons_succ, i64_w, i32_w]; rfl
        refine oL_ rfl (one_of HT_.out (by kernel_rfl)) (by decide) (fun K hK => ?_)
        refine goes_ Tryd.func97 (by kernel_rfl) rfl #[.agg #[.int .i64 a0_0, .int .i64 a0_1], .int .i64 a1, .int .i64 (wrap64 (Int.tdiv (wrap64 ((wrap64 (t283 + t284)) - 1)) t284))] (by rfl) rfl rfl (by (try simp only [List.map_toArray, List.map_cons, List.map_nil]); first | done | rfl | (simp only [List.length_drop, List.length_take]; rfl)) ?_
        with_reducible refine (impl_PlaceAt.calls a0_0 a0_1 a1 (wrap64 (Int.tdiv (wrap64 ((wrap64 (t283 + t284)) - 1)) t284)) t342 t343 _ A238.out).mono ?_
        rintro e w253 ⟨rfl, hb⟩
        refine ⟨_, rfl, ?_⟩
        have n0_ := Aside0.mk (rB_ (by (with_reducible repeat (first | apply rA_ | apply rN_ | apply rD_)); exact HO_53.out) hb)
        have n1_ := Aside0.mk (blk_below (g := gb281) (o := .cells #[.int .i64 a0_0, .int .i64 a0_1] 26 (0, 0)) (by (with_reducible repeat (first | refine kN_ ?_ _ | refine kD_ ?_ | refine kA_ ?_ _)); exact BK281.out) hb)
        have n2_ := Aside0.mk (blk_below (g := gb282) (o := .cells #[.int .i64 a9_0, .int .i64 a9_1] 26 (0, 0)) (by (with_reducible repeat (first | refine kN_ ?_ _ | refine kD_ ?_ | refine kA_ ?_ _)); exact BK282.out) hb)
        have n3_ := Aside0.mk (below_step (by repeat (first | (with_reducible first | exact HB.out | apply bA_ | apply bN_ | apply bD_ | refine bS_ ?_ GE281.out | refine bS_ ?_ GE282.out) | exact HB.out)) hb)
        clear HO_53
        clear BK281
        clear BK282
        clear HB
        have HO_53 := n0_
        have BK281 := n1_
        have BK282 := n2_
        have HB := n3_
        clear n0_ n1_ n2_ n3_
        (try clear hb)
        (try clear hb2)
        (try clear hk)
        (try clear hi)
        refine hK.out _ _ ⟨(blk_cell BK281.out 0).trans rfl, (blk_cell BK281.out 1).trans rfl⟩ (fun hHeld => ?_)
        clear hK K
        refine nL_ (a' := ?_) ?_ ?_
        rotate_left
        ·show Act.put _ (some 402) _ = _
         simp only [Act.put, List.setIfInBounds_toArray, List.set_cons_zero, List.set_cons_succ, i64_w, i32_w]
         rfl
        iterate 5 (refine pL_ (v := ?_) (a' := ?_) rfl (any_of HT_.out (by kernel_rfl)) (fun _ _ _ h => h) (Or.inl ⟨by rfl, ?_⟩) ?_ ?_; rotate_left; (· (intro w'; first | ((with_reducible apply ym_); (conv => lhs; whnf)) | ((with_reducible apply yb_); (conv => lhs; whnf); (conv => lhs; whnf); go_simp; (with_reducible rfl)) | ((with_reducible apply yp_); (conv => lhs; whnf); (conv => lhs; whnf); (conv => lhs; whnf); go_simp; (with_reducible rfl)) | (go_simp; with_reducible rfl))); rotate_left; (· (simp only [Act.put, List.setIfInBounds_toArray, List.set_cons_zero, List.set_cons_succ, i64_w, i32_w]; rfl)))
        refine dL_ (done_of HT_.out (by kernel_rfl)) ?_
        try go_wp2
        go_meet
        case rel => exact ⟨_, H', ⟨by have := HJ25.out; have := HJ185.out; have := HJ203.out; first | omega | exact Nat.le_refl _⟩, ⟨by (with_reducible repeat (first | apply rA_ | apply rN_ | apply rD_)); exact HO_53.out⟩, ⟨by (with_reducible repeat (first | refine kN_ ?_ _ | refine kD_ ?_ | refine kA_ ?_ _)); exact BK281.out⟩, ⟨by (with_reducible repeat (first | refine kN_ ?_ _ | refine kD_ ?_ | refine kA_ ?_ _)); exact BK282.out⟩, ⟨by repeat (first | (with_reducible first | exact HB.out | apply bA_ | apply bN_ | apply bD_ | refine bS_ ?_ GE281.out | refine bS_ ?_ GE282.out) | exact HB.out)⟩⟩
    replace c185 := Bool.eq_false_iff.mpr c185
    subst c185
    rw [if_neg (show ¬ (false = true) by decide)] at H
    have H' := Aside0.mk H
    clear H
    go_wp2
    go_meet
    case rel => exact ⟨_, H', ⟨by have := HJ25.out; first | omega | exact Nat.le_refl _⟩, ⟨by (with_reducible repeat (first | apply rA_ | apply rN_ | apply rD_)); exact HO_53.out⟩, ⟨by (with_reducible repeat (first | refine kN_ ?_ _ | refine kD_ ?_ | refine kA_ ?_ _)); exact BK281.out⟩, ⟨by (with_reducible repeat (first | refine kN_ ?_ _ | refine kD_ ?_ | refine kA_ ?_ _)); exact BK282.out⟩, ⟨by repeat (first | (with_reducible first | exact HB.out | apply bA_ | apply bN_ | apply bD_ | refine bS_ ?_ GE281.out | refine bS_ ?_ GE282.out) | exact HB.out)⟩⟩
  as_aux_lemma =>
   clear HC184
   (try clear c1); (try clear c2); (try clear p2); (try clear p6); (try clear c9); (try clear c18); (try clear c23); (try clear c24); (try clear p64); (try clear c97); (try clear c185); (try clear c239); (try clear c239b0); (try clear c240); (try clear c241); (try clear c241b0); (try clear c241b1); (try clear c244); (try clear c248); (try clear hcz245_0); (try clear hcz245_1); (try clear hcz249_0); (try clear hcz249_1); (try clear hfz245_0); (try clear hfz245_1); (try clear hfz249_0); try clear hfz249_1
   obtain ⟨kq, HA, HJ183, HO_53, BK281, BK282, HB⟩ := hcut
   rcases kq with _ | kj183
   ·exact absurd HA.out (by simp [laws_FnMovingTimedOfAll.j4])
   have H := HA.out
   clear HA
   simp only [laws_FnMovingTimedOfAll.j4] at H
   have HC254 := Aside0.mk H
   clear H
   go_upto_if 422 with (fail)
   go_cut [] from 422 to 422 (fun wc => ∃ (kq : Nat), Aside0 (laws_FnMovingTimedOfAll.j7 kq a2 a3 a4 a5 a6 a7 a8 a10 t313 t316 t321 a0_0 a0_1 a9_0 a9_1 = some true) ∧ Aside0 (kq ≤ kj183) ∧ Aside0 (Kd.R (Kd.int .i64) 3 wc w.heap.size (fun _ => True) v314 t313) ∧ Aside0 (wc.heap[gb281]? = some (.cells #[.int .i64 a0_0, .int .i64 a0_1] 26 (0, 0))) ∧ Aside0 (wc.heap[gb282]? = some (.cells #[.int .i64 a9_0, .int .i64 a9_1] 26 (0, 0))) ∧ Aside0 (Below w.heap.size w wc))
   case first =>
    as_aux_lemma =>
     have H := HC254.out
     clear HC254
     by_cases c255 : t297 = true
     ·subst c255
      rw [if_pos rfl] at H
      have HC256 := Aside0.mk H
      clear H
      go_upto_region 28 with (fail)
      go_cut [451] from 451 to 451 (fun v451 wc => ∃ (kq : Nat) (x451_255 : Bool), v451 = .bool x451_255 ∧ Aside0 (laws_FnMovingTimedOfAll.j5 kq a1 a2 a3 a4 a5 a6 a7 a8 a10 t289 t290 t301 t302 t313 t316 t321 x451_255 a0_0 a0_1 a9_0 a9_1 = some true) ∧ Aside0 (kq ≤ kj183) ∧ Aside0 (Kd.R (Kd.int .i64) 3 wc w.heap.size (fun _ => True) v314 t313) ∧ Aside0 (wc.heap[gb281]? = some (.cells #[.int .i64 a0_0, .int .i64 a0_1] 26 (0, 0))) ∧ Aside0 (wc.heap[gb282]? = some (.cells #[.int .i64 a9_0, .int .i64 a9_1] 26 (0, 0))) ∧ Aside0 (Below w.heap.size w wc))
      case first =>
       as_aux_lemma =>
        have H := HC256.out
        clear HC256
        replace H := Option.bind_eq_some_iff.mp H
        obtain ⟨t344, A2570, H⟩ := H
        try dsimp only at H
        have A257 := Aside0.mk A2570
        clear A2570
        by_cases c258 : t344 = true
        ·subst c258
         rw [if_pos rfl] at H
         replace H := Option.bind_eq_some_iff.mp H
         obtain ⟨t345, A2590, H⟩ := H
         try dsimp only at H
         have A259 := Aside0.mk A2590
         clear A2590
         by_cases c260 : t345 = true
         ·subst c260
          rw [if_pos rfl] at H
          have H' := Aside0.mk H
          clear H
          have hnb261 := NB281_282.out
          have hnc261 := NB282_281.out
          have hcz262_0 : wc.cell? ⟨gb281, 0, none⟩ = some (.int .i64 a0_0) := (blk_cell BK281.out 0).trans rfl
          have hcz262_1 : wc.cell? ⟨gb281, 1, none⟩ = some (.int .i64 a0_1) := (blk_cell BK281.out 1).trans rfl
          have hfz262_0 := blk_frozen BK281.out 0
          have hfz262_1 := blk_frozen BK281.out 1
          go_wp2_with (first | ((with_reducible refine gate_callee (f := 47) rfl ?_); refine goesL_ (some 431) rfl rfl Tryd.func47 (by kernel_rfl) rfl #[.int .i64 t295, .int .i64 t296, .int .i64 a0_0, .int .i64 (wrap64 (a1 - a0_1))] rfl (by (try simp only [List.map_toArray, List.map_cons, List.map_nil]); first | done | rfl | (simp only [List.length_drop, List.length_take]; rfl)) ?_; (with_reducible refine (laws_lIs.calls kj183 t295 t296 a0_0 (wrap64 (a1 - a0_1)) true _ A257.out).mono ?_); rintro e w' ⟨rfl, ⟨nd, rfl⟩⟩; refine ⟨_, rfl, ?_⟩) | (go_at_call 47; (with_reducible refine (laws_lIs.calls kj183 t301 t302 (wrap64 (a1 * t295)) t296 true _ A259.out).mono ?_); rintro e w' ⟨rfl, ⟨nd, rfl⟩⟩))
          go_meet
          case rel => exact ⟨_, (decide ((wrap64 (t295 * t284)) < (wrap64 (t283 * t296)))), (by first | rfl | (simp; done) | (simp [*]; done)), H', ⟨by have := HJ25.out; have := HJ183.out; first | omega | exact Nat.le_refl _⟩, ⟨by (with_reducible repeat (first | apply rA_ | apply rN_ | apply rD_)); exact HO_53.out⟩, ⟨by (with_reducible repeat (first | refine kN_ ?_ _ | refine kD_ ?_ | refine kA_ ?_ _)); exact BK281.out⟩, ⟨by (with_reducible repeat (first | refine kN_ ?_ _ | refine kD_ ?_ | refine kA_ ?_ _)); exact BK282.out⟩, ⟨by repeat (first | (with_reducible first | exact HB.out | apply bA_ | apply bN_ | apply bD_ | refine bS_ ?_ GE281.out | refine bS_ ?_ GE282.out) | exact HB.out)⟩⟩
         replace c260 := Bool.eq_false_iff.mpr c260
         subst c260
         rw [if_neg (show ¬ (false = true) by decide)] at H
         exact absurd H laws_FnMovingTimedOfAll.j5_no
        replace c258 := Bool.eq_false_iff.mpr c258
        subst c258
        rw [if_neg (show ¬ (false = true) by decide)] at H
        exact absurd H laws_FnMovingTimedOfAll.j5_no
      as_aux_lemma =>
       clear HC256
       (try clear c1); (try clear c2); (try clear p2); (try clear c4); (try clear p6); (try clear c9); (try clear c18); (try clear c23); (try clear c24); (try clear c25); (try clear c26); (try clear c47); (try clear p64); (try clear c97); (try clear c185); (try clear c239); (try clear c239b0); (try clear c240); (try clear c241); (try clear c241b0); (try clear c241b1); (try clear c244); (try clear c248); (try clear c255); (try clear c258); (try clear c260); (try clear c261); (try clear c263); (try clear c265); (try clear hcz245_0); (try clear hcz245_1); (try clear hcz249_0); (try clear hcz249_1); (try clear hcz262_0); (try clear hcz262_1); (try clear hcz264_0); (try clear hcz264_1); (try clear hcz266_0); (try clear hcz266_1); (try clear hfz245_0); (try clear hfz245_1); (try clear hfz249_0); (try clear hfz249_1); (try clear hfz262_0); (try clear hfz262_1); (try clear hfz264_0); (try clear hfz264_1); (try clear hfz266_0); (try clear hfz266_1); (try clear p2); (try clear p6); try clear p64
       obtain ⟨kq, x451_255, rfl, HA, HJ255, HO_53, BK281, BK282, HB⟩ := hcut
       rcases kq with _ | kj255
       ·exact absurd HA.out (by simp [laws_FnMovingTimedOfAll.j5])
       have H := HA.out
       clear HA
       simp only [laws_FnMovingTimedOfAll.j5] at H
       by_cases c267 : x451_255 = true
       ·subst c267
        rw [if_pos rfl] at H
        exact absurd (Option.some.inj H) (by decide)
       replace c267 := Bool.eq_false_iff.mpr c267
       subst c267
       rw [if_neg (show ¬ (false = true) by decide)] at H
       have HC268 := Aside0.mk H
       clear H
       go_upto_region 30 with (fail)
       go_cut [465] from 465 to 465 (fun v465 wc => ∃ (kq : Nat) (x465_267 : Bool), v465 = .bool x465_267 ∧ Aside0 (laws_FnMovingTimedOfAll.j6 kq a1 a2 a3 a4 a5 a6 a7 a8 a10 t289 t301 t313 t316 t321 x465_267 a0_0 a0_1 a9_0 a9_1 = some true) ∧ Aside0 (kq ≤ kj255) ∧ Aside0 (Kd.R (Kd.int .i64) 3 wc w.heap.size (fun _ => True) v314 t313) ∧ Aside0 (wc.heap[gb281]? = some (.cells #[.int .i64 a0_0, .int .i64 a0_1] 26 (0, 0))) ∧ Aside0 (wc.heap[gb282]? = some (.cells #[.int .i64 a9_0, .int .i64 a9_1] 26 (0, 0))) ∧ Aside0 (Below w.heap.size w wc))
       case first =>
        as_aux_lemma =>
         have H := HC268.out
         clear HC268
         by_cases c269 : t290 = 1
         ·rw [if_pos c269] at H
          have c269b0 : (t290 == 1) = true := beq_iff_eq.mpr c269
          have c269b1 : (t290 != 1) = false := bne_eq_false_iff_eq.mpr c269
          clear c269
          by_cases c270 : t302 = 1
          ·rw [if_pos c270] at H
           have c270b0 : (t302 == 1) = true := beq_iff_eq.mpr c270
           have c270b1 : (t302 != 1) = false := bne_eq_false_iff_eq.mpr c270
           clear c270
           by_cases c271 : t289 ≥ 1
           ·rw [if_pos c271] at H
            have c271b0 : decide (1 ≤ t289) = true := decide_eq_true c271
            clear c271
            have H' := Aside0.mk H
            clear H
            go_wp2
            go_meet
            case rel => exact ⟨_, (decide (t301 ≤ 10000)), (by first | rfl | (simp; done) | (simp [*]; done)), H', ⟨by have := HJ25.out; have := HJ183.out; have := HJ255.out; first | omega | exact Nat.le_refl _⟩, ⟨by (with_reducible repeat (first | apply rA_ | apply rN_ | apply rD_)); exact HO_53.out⟩, ⟨by (with_reducible repeat (first | refine kN_ ?_ _ | refine kD_ ?_ | refine kA_ ?_ _)); exact BK281.out⟩, ⟨by (with_reducible repeat (first | refine kN_ ?_ _ | refine kD_ ?_ | refine kA_ ?_ _)); exact BK282.out⟩, ⟨by repeat (first | (with_reducible first | exact HB.out | apply bA_ | apply bN_ | apply bD_ | refine bS_ ?_ GE281.out | refine bS_ ?_ GE282.out) | exact HB.out)⟩⟩
           rw [if_neg c271] at H
           have c271b0 : decide (1 ≤ t289) = false := decide_eq_false c271
           clear c271
           have H' := Aside0.mk H
           clear H
           go_wp2
           go_meet
           case rel => exact ⟨_, (false), (by first | rfl | (simp; done) | (simp [*]; done)), H', ⟨by have := HJ25.out; have := HJ183.out; have := HJ255.out; first | omega | exact Nat.le_refl _⟩, ⟨by (with_reducible repeat (first | apply rA_ | apply rN_ | apply rD_)); exact HO_53.out⟩, ⟨by (with_reducible repeat (first | refine kN_ ?_ _ | refine kD_ ?_ | refine kA_ ?_ _)); exact BK281.out⟩, ⟨by (with_reducible repeat (first | refine kN_ ?_ _ | refine kD_ ?_ | refine kA_ ?_ _)); exact BK282.out⟩, ⟨by repeat (first | (with_reducible first | exact HB.out | apply bA_ | apply bN_ | apply bD_ | refine bS_ ?_ GE281.out | refine bS_ ?_ GE282.out) | exact HB.out)⟩⟩
          rw [if_neg c270] at H
          have c270b0 : (t302 == 1) = false := beq_eq_false_iff_ne.mpr c270
          have c270b1 : (t302 != 1) = true := bne_iff_ne.mpr c270
          have H' := Aside0.mk H
          clear H
          go_wp2
          go_meet
          case rel => exact ⟨_, (false), (by first | rfl | (simp; done) | (simp [*]; done)), H', ⟨by have := HJ25.out; have := HJ183.out; have := HJ255.out; first | omega | exact Nat.le_refl _⟩, ⟨by (with_reducible repeat (first | apply rA_ | apply rN_ | apply rD_)); exact HO_53.out⟩, ⟨by (with_reducible repeat (first | refine kN_ ?_ _ | refine kD_ ?_ | refine kA_ ?_ _)); exact BK281.out⟩, ⟨by (with_reducible repeat (first | refine kN_ ?_ _ | refine kD_ ?_ | refine kA_ ?_ _)); exact BK282.out⟩, ⟨by repeat (first | (with_reducible first | exact HB.out | apply bA_ | apply bN_ | apply bD_ | refine bS_ ?_ GE281.out | refine bS_ ?_ GE282.out) | exact HB.out)⟩⟩
         rw [if_neg c269] at H
         have c269b0 : (t290 == 1) = false := beq_eq_false_iff_ne.mpr c269
         have c269b1 : (t290 != 1) = true := bne_iff_ne.mpr c269
         have H' := Aside0.mk H
         clear H
         go_wp2
         go_meet
         case rel => exact ⟨_, (false), (by first | rfl | (simp; done) | (simp [*]; done)), H', ⟨by have := HJ25.out; have := HJ183.out; have := HJ255.out; first | omega | exact Nat.le_refl _⟩, ⟨by (with_reducible repeat (first | apply rA_ | apply rN_ | apply rD_)); exact HO_53.out⟩, ⟨by (with_reducible repeat (first | refine kN_ ?_ _ | refine kD_ ?_ | refine kA_ ?_ _)); exact BK281.out⟩, ⟨by (with_reducible repeat (first | refine kN_ ?_ _ | refine kD_ ?_ | refine kA_ ?_ _)); exact BK282.out⟩, ⟨by repeat (first | (with_reducible first | exact HB.out | apply bA_ | apply bN_ | apply bD_ | refine bS_ ?_ GE281.out | refine bS_ ?_ GE282.out) | exact HB.out)⟩⟩
       as_aux_lemma =>
        clear HC268
        (try clear c1); (try clear c2); (try clear p2); (try clear c4); (try clear p6); (try clear c9); (try clear c18); (try clear c23); (try clear c24); (try clear c25); (try clear c26); (try clear c27); (try clear c47); (try clear p64); (try clear c97); (try clear c185); (try clear c239); (try clear c239b0); (try clear c240); (try clear c241); (try clear c241b0); (try clear c241b1); (try clear c244); (try clear c248); (try clear c255); (try clear c258); (try clear c260); (try clear c261); (try clear c263); (try clear c265); (try clear c267); (try clear c269); (try clear c269b0); (try clear c269b1); (try clear c270); (try clear c270b0); (try clear c270b1); (try clear c271); (try clear c271b0); (try clear hcz245_0); (try clear hcz245_1); (try clear hcz249_0); (try clear hcz249_1); (try clear hcz262_0); (try clear hcz262_1); (try clear hcz264_0); (try clear hcz264_1); (try clear hcz266_0); (try clear hcz266_1); (try clear hfz245_0); (try clear hfz245_1); (try clear hfz249_0); (try clear hfz249_1); (try clear hfz262_0); (try clear hfz262_1); (try clear hfz264_0); (try clear hfz264_1); (try clear hfz266_0); (try clear hfz266_1); (try clear p2); (try clear p6); try clear p64
        obtain ⟨kq, x465_267, rfl, HA, HJ267, HO_53, BK281, BK282, HB⟩ := hcut
        rcases kq with _ | kj267
        ·exact absurd HA.out (by simp [laws_FnMovingTimedOfAll.j6])
        have H := HA.out
        clear HA
        simp only [laws_FnMovingTimedOfAll.j6] at H
        by_cases c272 : x465_267 = true
        ·subst c272
         rw [if_pos rfl] at H
         replace H := Option.bind_eq_some_iff.mp H
         obtain ⟨⟨t346, t347, t348⟩, A2730, H⟩ := H
         try dsimp only at H
         have A273 := Aside0.mk A2730
         clear A2730
         by_cases c274 : t348 = true
         ·subst c274
          rw [if_pos rfl] at H
          replace H := Option.bind_eq_some_iff.mp H
          obtain ⟨t349, A2750, H⟩ := H
          try dsimp only at H
          have A275 := Aside0.mk A2750
          clear A2750
          by_cases c276 : t349 = true
          ·subst c276
           rw [if_pos rfl] at H
           have H' := Aside0.mk H
           clear H
           go_wp2_with (first | ((with_reducible refine gate_callee (f := 98) rfl ?_); refine goesL_ (some 470) rfl rfl Tryd.func98 (by kernel_rfl) rfl #[.int .i64 a1, .int .i64 t289, .int .i64 t301] rfl (by (try simp only [List.map_toArray, List.map_cons, List.map_nil]); first | done | rfl | (simp only [List.length_drop, List.length_take]; rfl)) ?_; (with_reducible refine (impl_VisibleFromBoth.calls kj267 a1 t289 t301 t346 t347 true _ A273.out).mono ?_); rintro e w' ⟨rfl, ⟨nd, rfl⟩⟩; refine ⟨_, rfl, ?_⟩; have hnb277 := NB281_282.out; have hnc277 := NB282_281.out; have hcz278_0 : wc.cell? ⟨gb281, 0, none⟩ = some (.int .i64 a0_0) := (blk_cell BK281.out 0).trans rfl; have hcz278_1 : wc.cell? ⟨gb281, 1, none⟩ = some (.int .i64 a0_1) := (blk_cell BK281.out 1).trans rfl; have hfz278_0 := blk_frozen BK281.out 0; have hfz278_1 := blk_frozen BK281.out 1) | (go_at_call 47; (with_reducible refine (laws_lIs.calls kj267 t346 t347 a0_0 1 true _ A275.out).mono ?_); rintro e w' ⟨rfl, ⟨nd, rfl⟩⟩))
           go_meet
           case rel => exact ⟨_, H', ⟨by have := HJ25.out; have := HJ183.out; have := HJ255.out; have := HJ267.out; first | omega | exact Nat.le_refl _⟩, ⟨by (with_reducible repeat (first | apply rA_ | apply rN_ | apply rD_)); exact HO_53.out⟩, ⟨by (with_reducible repeat (first | refine kN_ ?_ _ | refine kD_ ?_ | refine kA_ ?_ _)); exact BK281.out⟩, ⟨by (with_reducible repeat (first | refine kN_ ?_ _ | refine kD_ ?_ | refine kA_ ?_ _)); exact BK282.out⟩, ⟨by repeat (first | (with_reducible first | exact HB.out | apply bA_ | apply bN_ | apply bD_ | refine bS_ ?_ GE281.out | refine bS_ ?_ GE282.out) | exact HB.out)⟩⟩
          replace c276 := Bool.eq_false_iff.mpr c276
          subst c276
          rw [if_neg (show ¬ (false = true) by decide)] at H
          exact absurd (Option.some.inj H) (by decide)
         replace c274 := Bool.eq_false_iff.mpr c274
         subst c274
         rw [if_neg (show ¬ (false = true) by decide)] at H
         exact absurd (Option.some.inj H) (by decide)
        replace c272 := Bool.eq_false_iff.mpr c272
        subst c272
        rw [if_neg (show ¬ (false = true) by decide)] at H
        have H' := Aside0.mk H
        clear H
        go_wp2
        go_meet
        case rel => exact ⟨_, H', ⟨by have := HJ25.out; have := HJ183.out; have := HJ255.out; have := HJ267.out; first | omega | exact Nat.le_refl _⟩, ⟨by (with_reducible repeat (first | apply rA_ | apply rN_ | apply rD_)); exact HO_53.out⟩, ⟨by (with_reducible repeat (first | refine kN_ ?_ _ | refine kD_ ?_ | refine kA_ ?_ _)); exact BK281.out⟩, ⟨by (with_reducible repeat (first | refine kN_ ?_ _ | refine kD_ ?_ | refine kA_ ?_ _)); exact BK282.out⟩, ⟨by repeat (first | (with_reducible first | exact HB.out | apply bA_ | apply bN_ | apply bD_ | refine bS_ ?_ GE281.out | refine bS_ ?_ GE282.out) | exact HB.out)⟩⟩
     replace c255 := Bool.eq_false_iff.mpr c255
     subst c255
     rw [if_neg (show ¬ (false = true) by decide)] at H
     have H' := Aside0.mk H
     clear H
     go_wp2
     go_meet
     case rel => exact ⟨_, H', ⟨by have := HJ25.out; have := HJ183.out; first | omega | exact Nat.le_refl _⟩, ⟨by (with_reducible repeat (first | apply rA_ | apply rN_ | apply rD_)); exact HO_53.out⟩, ⟨by (with_reducible repeat (first | refine kN_ ?_ _ | refine kD_ ?_ | refine kA_ ?_ _)); exact BK281.out⟩, ⟨by (with_reducible repeat (first | refine kN_ ?_ _ | refine kD_ ?_ | refine kA_ ?_ _)); exact BK282.out⟩, ⟨by repeat (first | (with_reducible first | exact HB.out | apply bA_ | apply bN_ | apply bD_ | refine bS_ ?_ GE281.out | refine bS_ ?_ GE282.out) | exact HB.out)⟩⟩
   as_aux_lemma =>
    clear HC254
    (try clear c1); (try clear c2); (try clear p2); (try clear c4); (try clear p6); (try clear c9); (try clear c18); (try clear c23); (try clear c24); (try clear c25); (try clear c26); (try clear c27); (try clear c47); (try clear p64); (try clear c97); (try clear c98); (try clear c185); (try clear c239); (try clear c239b0); (try clear c240); (try clear c241); (try clear c241b0); (try clear c241b1); (try clear c244); (try clear c248); (try clear c255); (try clear c258); (try clear c260); (try clear c261); (try clear c263); (try clear c265); (try clear c267); (try clear c269); (try clear c269b0); (try clear c269b1); (try clear c270); (try clear c270b0); (try clear c270b1); (try clear c271); (try clear c271b0); (try clear c272); (try clear c274); (try clear c276); (try clear c277); (try clear c279); (try clear hcz245_0); (try clear hcz245_1); (try clear hcz249_0); (try clear hcz249_1); (try clear hcz262_0); (try clear hcz262_1); (try clear hcz264_0); (try clear hcz264_1); (try clear hcz266_0); (try clear hcz266_1); (try clear hcz278_0); (try clear hcz278_1); (try clear hcz280_0); (try clear hcz280_1); (try clear hfz245_0); (try clear hfz245_1); (try clear hfz249_0); (try clear hfz249_1); (try clear hfz262_0); (try clear hfz262_1); (try clear hfz264_0); (try clear hfz264_1); (try clear hfz266_0); (try clear hfz266_1); (try clear hfz278_0); (try clear hfz278_1); (try clear hfz280_0); (try clear hfz280_1); (try clear p2); (try clear p6); try clear p64
    obtain ⟨kq, HA, HJ253, HO_53, BK281, BK282, HB⟩ := hcut
    rcases kq with _ | kj253
    ·exact absurd HA.out (by simp [laws_FnMovingTimedOfAll.j7])
    have H := HA.out
    clear HA
    simp only [laws_FnMovingTimedOfAll.j7] at H
    have HC281 := Aside0.mk H
    clear H
    go_upto_if 484 with (fail)
    go_cut [] from 484 to 484 (fun wc => ∃ (kq : Nat), Aside0 (laws_FnMovingTimedOfAll.j8 kq a2 a3 a4 a5 a6 a7 a8 a10 a9_0 a9_1 = some true) ∧ Aside0 (kq ≤ kj253) ∧ Aside0 (wc.heap[gb281]? = some (.cells #[.int .i64 a0_0, .int .i64 a0_1] 26 (0, 0))) ∧ Aside0 (wc.heap[gb282]? = some (.cells #[.int .i64 a9_0, .int .i64 a9_1] 26 (0, 0))) ∧ Aside0 (Below w.heap.size w wc))
    case first =>
     as_aux_lemma =>
      have H := HC281.out
      clear HC281
      by_cases c282 : t316 = true
      ·subst c282
       rw [if_pos rfl] at H
       replace H := Option.bind_eq_some_iff.mp H
       obtain ⟨⟨t350, t351, t352⟩, A2830, H⟩ := H
       try dsimp only at H
       have A283 := Aside0.mk A2830
       clear A2830
       replace H := Option.bind_eq_some_iff.mp H
       obtain ⟨t354, A2840, H⟩ := H
       try dsimp only at H
       have A284 := Aside0.mk A2840
       clear A2840
       by_cases c285 : t354 = true
       ·subst c285
        rw [if_pos rfl] at H
        by_cases c286 : t352 = true
        ·subst c286
         rw [if_pos rfl] at H
         by_cases c287 : (!(t350 == a0_0) || (!(t351 == a0_1))) = true
         ·rw [if_pos c287] at H
          exact absurd (Option.some.inj H) (by decide)
         rw [if_neg c287] at H
         have c287b0 : (!(t350 == a0_0) || (!(t351 == a0_1))) = false := by simpa using c287
         clear c287
         have H' := Aside0.mk H
         clear H
         go_wp2_with (first | ((with_reducible refine gate_callee (f := 24) rfl ?_); refine goesL_ (some 487) rfl rfl Tryd.func24 (by kernel_rfl) rfl #[.string t321] rfl (by (try simp only [List.map_toArray, List.map_cons, List.map_nil]); first | done | rfl | (simp only [List.length_drop, List.length_take]; rfl)) ?_; (with_reducible refine (impl_ParseMoving.calls t321 t350 t351 true _ A283.out (Laid.below HLA.out (by repeat (first | (with_reducible first | exact HB.out | apply bA_ | apply bN_ | apply bD_ | refine bS_ ?_ GE281.out | refine bS_ ?_ GE282.out | refine bS_ ?_ GE353.out) | exact HB.out)))).mono ?_); rintro e w296 ⟨rfl, hb⟩; refine ⟨_, rfl, ?_⟩; have n0_ := Aside0.mk (rB_ (by (with_reducible repeat (first | apply rA_ | apply rN_ | apply rD_)); exact HO_53.out) hb); have n1_ := Aside0.mk (blk_below (g := gb281) (o := .cells #[.int .i64 a0_0, .int .i64 a0_1] 26 (0, 0)) (by (with_reducible repeat (first | refine kN_ ?_ _ | refine kD_ ?_ | refine kA_ ?_ _)); exact BK281.out) hb); have n2_ := Aside0.mk (blk_below (g := gb282) (o := .cells #[.int .i64 a9_0, .int .i64 a9_1] 26 (0, 0)) (by (with_reducible repeat (first | refine kN_ ?_ _ | refine kD_ ?_ | refine kA_ ?_ _)); exact BK282.out) hb); have n3_ := Aside0.mk (below_step (by repeat (first | (with_reducible first | exact HB.out | apply bA_ | apply bN_ | apply bD_ | refine bS_ ?_ GE281.out | refine bS_ ?_ GE282.out) | exact HB.out)) hb); clear HO_53; clear BK281; clear BK282; clear HB; have HO_53 := n0_; have BK281 := n1_; have BK282 := n2_; have HB := n3_; clear n0_ n1_ n2_ n3_; (try clear hb); (try clear hb2); (try clear hk); (try clear hi)) | ((with_reducible refine gate_dst (N := 69) rfl ?_); refine box_event ?hg (N := 69) ?hd (cs := #[.int .i64 0, .int .i64 0]) (t := 26) ?hr ?_; (case hd => rfl); (case hg => rfl); (case hr => first | (go_simp; done) | (go_simp; rfl)); intro gb353 hg w297 hbox hb; have n0_ := Aside0.mk (rB_ (by (with_reducible repeat (first | apply rA_ | apply rN_ | apply rD_)); exact HO_53.out) hb); have n1_ := Aside0.mk (blk_below (g := gb281) (o := .cells #[.int .i64 a0_0, .int .i64 a0_1] 26 (0, 0)) (by (with_reducible repeat (first | refine kN_ ?_ _ | refine kD_ ?_ | refine kA_ ?_ _)); exact BK281.out) hb); have n2_ := Aside0.mk (blk_below (g := gb282) (o := .cells #[.int .i64 a9_0, .int .i64 a9_1] 26 (0, 0)) (by (with_reducible repeat (first | refine kN_ ?_ _ | refine kD_ ?_ | refine kA_ ?_ _)); exact BK282.out) hb); have n3_ := Aside0.mk (below_step (by repeat (first | (with_reducible first | exact HB.out | apply bA_ | apply bN_ | apply bD_ | refine bS_ ?_ GE281.out | refine bS_ ?_ GE282.out) | exact HB.out)) hb); have n4_ := Aside0.mk (hbox); have n5_ := Aside0.mk ((by rw [hg]; exact (below_size (by repeat (first | (with_reducible first | exact HB.out | apply bA_ | apply bN_ | apply bD_ | refine bS_ ?_ GE281.out | refine bS_ ?_ GE282.out) | exact HB.out))) : w.heap.size ≤ gb353)); have n6_ := Aside0.mk ((by rw [hg]; exact (below_size (by repeat (first | (with_reducible first | exact HB.out | apply bA_ | apply bN_ | apply bD_ | refine bS_ ?_ GE281.out | refine bS_ ?_ GE282.out) | exact HB.out))) : w.heap.size ≤ gb353)); have n7_ := Aside0.mk ((by rw [hg]; exact Nat.ne_of_lt (blk_lt (g := gb281) (o := .cells #[.int .i64 a0_0, .int .i64 a0_1] 26 (0, 0)) (by (with_reducible repeat (first | refine kN_ ?_ _ | refine kD_ ?_ | refine kA_ ?_ _)); exact BK281.out)) : gb281 ≠ gb353)); have n8_ := Aside0.mk ((by rw [hg]; exact Nat.ne_of_gt (blk_lt (g := gb281) (o := .cells #[.int .i64 a0_0, .int .i64 a0_1] 26 (0, 0)) (by (with_reducible repeat (first | refine kN_ ?_ _ | refine kD_ ?_ | refine kA_ ?_ _)); exact BK281.out)) : gb353 ≠ gb281)); have n9_ := Aside0.mk ((by rw [hg]; exact Nat.ne_of_lt (blk_lt (g := gb282) (o := .cells #[.int .i64 a9_0, .int .i64 a9_1] 26 (0, 0)) (by (with_reducible repeat (first | refine kN_ ?_ _ | refine kD_ ?_ | refine kA_ ?_ _)); exact BK282.out)) : gb282 ≠ gb353)); have n10_ := Aside0.mk ((by rw [hg]; exact Nat.ne_of_gt (blk_lt (g := gb282) (o := .cells #[.int .i64 a9_0, .int .i64 a9_1] 26 (0, 0)) (by (with_reducible repeat (first | refine kN_ ?_ _ | refine kD_ ?_ | refine kA_ ?_ _)); exact BK282.out)) : gb353 ≠ gb282)); clear HO_53; clear BK281; clear BK282; clear HB; have HO_53 := n0_; have BK281 := n1_; have BK282 := n2_; have HB := n3_; have BK353 := n4_; have GW353 := n5_; have GE353 := n6_; have NB281_353 := n7_; have NB353_281 := n8_; have NB282_353 := n9_; have NB353_282 := n10_; clear n0_ n1_ n2_ n3_ n4_ n5_ n6_ n7_ n8_ n9_ n10_; clear hb hbox hg; have hnb298 := NB353_281.out; have hnc298 := NB281_353.out; have hnb299 := NB353_282.out; have hnc299 := NB282_353.out; have hcz300_0 : w297.cell? ⟨gb353, 0, none⟩ = some (.int .i64 0) := (blk_cell BK353.out 0).trans rfl; have hcz300_1 : w297.cell? ⟨gb353, 1, none⟩ = some (.int .i64 0) := (blk_cell BK353.out 1).trans rfl; have hfz300_0 := blk_frozen BK353.out 0; have hfz300_1 := blk_frozen BK353.out 1; obtain ⟨Ao301, co301, eo301⟩ := Kd.R_slice HO_53.out; subst eo301) | ((with_reducible refine gate_callee (f := 60) rfl ?_); refine goesL_ (some 491) rfl rfl Tryd.func60 (by kernel_rfl) rfl #[.slice Ao301 t313.length co301] rfl (by (try simp only [List.map_toArray, List.map_cons, List.map_nil]); first | done | rfl | (simp only [List.length_drop, List.length_take]; rfl)) ?_; (with_reducible refine (laws_lRises.calls kj253 _ _ t313 true _ ?side1 ?side2 A284.out).mono ?_); (case side1 => refine (rR_ (e := 3) (base := w.heap.size) (ok := fun k_ => True) (n := t313.length) (c := co301) ?_).2.2; exact (by (with_reducible repeat (first | apply rA_ | apply rN_ | apply rD_)); exact (rM_ (rF_ (p := ⟨gb353, 1, none⟩) (rF_ (p := ⟨gb353, 0, none⟩) (Kd.R_types HO_53.out BK353.out (by decide)) (fun _ hk => hk.2) (.int .i64 t350)) (fun _ hk => hk.2) (.int .i64 t351)) (fun _ h_ => h_.1)))); (case side2 => exact (rR_ HO_53.out).2.1); rintro e w' ⟨rfl, ⟨nd, rfl⟩⟩; refine ⟨_, rfl, ?_⟩; have hnb302 := NB281_282.out; have hnc302 := NB282_281.out; have hcz303_0 : w297.cell? ⟨gb281, 0, none⟩ = some (.int .i64 a0_0) := (blk_cell BK281.out 0).trans rfl; have hcz303_1 : w297.cell? ⟨gb281, 1, none⟩ = some (.int .i64 a0_1) := (blk_cell BK281.out 1).trans rfl; have hfz303_0 := blk_frozen BK281.out 0; have hfz303_1 := blk_frozen BK281.out 1))
         go_meet
         case rel => exact ⟨_, H', ⟨by have := HJ25.out; have := HJ183.out; have := HJ253.out; first | omega | exact Nat.le_refl _⟩, ⟨by (with_reducible repeat (first | refine kN_ ?_ _ | refine kD_ ?_ | refine kA_ ?_ _)); refine blk_far ?_ NB281_353.out _; (with_reducible repeat (first | refine kN_ ?_ _ | refine kD_ ?_ | refine kA_ ?_ _)); refine blk_far ?_ NB281_353.out _; (with_reducible repeat (first | refine kN_ ?_ _ | refine kD_ ?_ | refine kA_ ?_ _)); exact BK281.out⟩, ⟨by (with_reducible repeat (first | refine kN_ ?_ _ | refine kD_ ?_ | refine kA_ ?_ _)); refine blk_far ?_ NB282_353.out _; (with_reducible repeat (first | refine kN_ ?_ _ | refine kD_ ?_ | refine kA_ ?_ _)); refine blk_far ?_ NB282_353.out _; (with_reducible repeat (first | refine kN_ ?_ _ | refine kD_ ?_ | refine kA_ ?_ _)); exact BK282.out⟩, ⟨by repeat (first | (with_reducible first | exact HB.out | apply bA_ | apply bN_ | apply bD_ | refine bS_ ?_ GE281.out | refine bS_ ?_ GE282.out | refine bS_ ?_ GE353.out) | exact HB.out)⟩⟩
        replace c286 := Bool.eq_false_iff.mpr c286
        subst c286
        rw [if_neg (show ¬ (false = true) by decide)] at H
        exact absurd (Option.some.inj H) (by decide)
       replace c285 := Bool.eq_false_iff.mpr c285
       subst c285
       rw [if_neg (show ¬ (false = true) by decide)] at H
       exact absurd (Option.some.inj H) (by decide)
      replace c282 := Bool.eq_false_iff.mpr c282
      subst c282
      rw [if_neg (show ¬ (false = true) by decide)] at H
      have H' := Aside0.mk H
      clear H
      go_wp2
      go_meet
      case rel => exact ⟨_, H', ⟨by have := HJ25.out; have := HJ183.out; have := HJ253.out; first | omega | exact Nat.le_refl _⟩, ⟨by (with_reducible repeat (first | refine kN_ ?_ _ | refine kD_ ?_ | refine kA_ ?_ _)); exact BK281.out⟩, ⟨by (with_reducible repeat (first | refine kN_ ?_ _ | refine kD_ ?_ | refine kA_ ?_ _)); exact BK282.out⟩, ⟨by repeat (first | (with_reducible first | exact HB.out | apply bA_ | apply bN_ | apply bD_ | refine bS_ ?_ GE281.out | refine bS_ ?_ GE282.out) | exact HB.out)⟩⟩
    as_aux_lemma =>
     clear HC281
     (try clear c1); (try clear c2); (try clear p2); (try clear c3); (try clear c4); (try clear c6); (try clear p6); (try clear c9); (try clear c18); (try clear c23); (try clear c24); (try clear c25); (try clear c26); (try clear c27); (try clear c28); (try clear c29); (try clear c30); (try clear c31); (try clear c47); (try clear c60); (try clear p64); (try clear c97); (try clear c98); (try clear c185); (try clear c239); (try clear c239b0); (try clear c240); (try clear c241); (try clear c241b0); (try clear c241b1); (try clear c244); (try clear c248); (try clear c255); (try clear c258); (try clear c260); (try clear c261); (try clear c263); (try clear c265); (try clear c267); (try clear c269); (try clear c269b0); (try clear c269b1); (try clear c270); (try clear c270b0); (try clear c270b1); (try clear c271); (try clear c271b0); (try clear c272); (try clear c274); (try clear c276); (try clear c277); (try clear c279); (try clear c282); (try clear c285); (try clear c286); (try clear c287); (try clear c287b0); (try clear c290); (try clear c291); (try clear c294); (try clear c298); (try clear c299); (try clear c302); (try clear c306); (try clear c307); (try clear c312); (try clear c313); (try clear hcz245_0); (try clear hcz245_1); (try clear hcz249_0); (try clear hcz249_1); (try clear hcz262_0); (try clear hcz262_1); (try clear hcz264_0); (try clear hcz264_1); (try clear hcz266_0); (try clear hcz266_1); (try clear hcz278_0); (try clear hcz278_1); (try clear hcz280_0); (try clear hcz280_1); (try clear hcz292_0); (try clear hcz292_1); (try clear hcz295_0); (try clear hcz295_1); (try clear hcz300_0); (try clear hcz300_1); (try clear hcz303_0); (try clear hcz303_1); (try clear hcz308_0); (try clear hcz308_1); (try clear hcz314_0); (try clear hcz314_1); (try clear hfz245_0); (try clear hfz245_1); (try clear hfz249_0); (try clear hfz249_1); (try clear hfz262_0); (try clear hfz262_1); (try clear hfz264_0); (try clear hfz264_1); (try clear hfz266_0); (try clear hfz266_1); (try clear hfz278_0); (try clear hfz278_1); (try clear hfz280_0); (try clear hfz280_1); (try clear hfz292_0); (try clear hfz292_1); (try clear hfz295_0); (try clear hfz295_1); (try clear hfz300_0); (try clear hfz300_1); (try clear hfz303_0); (try clear hfz303_1); (try clear hfz308_0); (try clear hfz308_1); (try clear hfz314_0); (try clear hfz314_1); (try clear p2); (try clear p6); try clear p64
     obtain ⟨kq, HA, HJ280, BK281, BK282, HB⟩ := hcut
     rcases kq with _ | kj280
     ·exact absurd HA.out (by simp [laws_FnMovingTimedOfAll.j8])
     have H := HA.out
     clear HA
     simp only [laws_FnMovingTimedOfAll.j8] at H
     replace H := Option.bind_eq_some_iff.mp H
     obtain ⟨⟨t355, t356, t357⟩, A3160, H⟩ := H
     try dsimp only at H
     have A316 := Aside0.mk A3160
     clear A3160
     replace H := Option.bind_eq_some_iff.mp H
     obtain ⟨⟨t358, t359, t360⟩, A3170, H⟩ := H
     try dsimp only at H
     have A317 := Aside0.mk A3170
     clear A3170
     replace H := Option.bind_eq_some_iff.mp H
     obtain ⟨⟨t361, t362, t363⟩, A3180, H⟩ := H
     try dsimp only at H
     have A318 := Aside0.mk A3180
     clear A3180
     replace H := Option.bind_eq_some_iff.mp H
     obtain ⟨⟨t364, t365, t366⟩, A3190, H⟩ := H
     try dsimp only at H
     have A319 := Aside0.mk A3190
     clear A3190
     replace H := Option.bind_eq_some_iff.mp H
     obtain ⟨⟨t367, t368, t369⟩, A3200, H⟩ := H
     try dsimp only at H
     have A320 := Aside0.mk A3200
     clear A3200
     replace H := Option.bind_eq_some_iff.mp H
     obtain ⟨⟨t370, t371, t372⟩, A3210, H⟩ := H
     try dsimp only at H
     have A321 := Aside0.mk A3210
     clear A3210
     replace H := Option.bind_eq_some_iff.mp H
     obtain ⟨⟨t373, t374, t375⟩, A3220, H⟩ := H
     try dsimp only at H
     have A322 := Aside0.mk A3220
     clear A3220
     replace H := Option.bind_eq_some_iff.mp H
     obtain ⟨⟨t376, t377, t378⟩, A3230, H⟩ := H
     try dsimp only at H
     have A323 := Aside0.mk A3230
     clear A3230
     have HC324 := Aside0.mk H
     clear H
     go_upto_region 46 with (first | ((with_reducible refine gate_callee (f := 99) rfl ?_); refine goesL_ (some 507) rfl rfl Tryd.func99 (by kernel_rfl) rfl #[.int .i64 a2, .int .i64 a3, .int .i64 a4, .int .i64 a5] rfl (by (try simp only [List.map_toArray, List.map_cons, List.map_nil]); first | done | rfl | (simp only [List.length_drop, List.length_take]; rfl)) ?_; (with_reducible refine (impl_VisibleFromTwo.calls kj280 a2 a3 a4 a5 t355 t356 t357 _ A316.out).mono ?_); rintro e w' ⟨rfl, ⟨nd, rfl⟩⟩; refine ⟨_, rfl, ?_⟩) | ((with_reducible refine gate_callee (f := 100) rfl ?_); refine goesL_ (some 516) rfl rfl Tryd.func100 (by kernel_rfl) rfl #[.int .i64 a2, .int .i64 a3, .int .i64 a4, .int .i64 a5] rfl (by (try simp only [List.map_toArray, List.map_cons, List.map_nil]); first | done | rfl | (simp only [List.length_drop, List.length_take]; rfl)) ?_; (with_reducible refine (spec_VisibleFromTwo.calls kj280 a2 a3 a4 a5 t358 t359 t360 _ A317.out).mono ?_); rintro e w' ⟨rfl, ⟨nd, rfl⟩⟩; refine ⟨_, rfl, ?_⟩) | ((with_reducible refine gate_callee (f := 101) rfl ?_); refine goesL_ (some 525) rfl rfl Tryd.func101 (by kernel_rfl) rfl #[.int .i64 a2, .int .i64 a3, .int .i64 a4, .int .i64 a5] rfl (by (try simp only [List.map_toArray, List.map_cons, List.map_nil]); first | done | rfl | (simp only [List.length_drop, List.length_take]; rfl)) ?_; (with_reducible refine (impl_SpeedFromTwo.calls kj280 a2 a3 a4 a5 t361 t362 t363 _ A318.out).mono ?_); rintro e w' ⟨rfl, ⟨nd, rfl⟩⟩; refine ⟨_, rfl, ?_⟩) | ((with_reducible refine gate_callee (f := 102) rfl ?_); refine goesL_ (some 534) rfl rfl Tryd.func102 (by kernel_rfl) rfl #[.int .i64 a2, .int .i64 a3, .int .i64 a4, .int .i64 a5] rfl (by (try simp only [List.map_toArray, List.map_cons, List.map_nil]); first | done | rfl | (simp only [List.length_drop, List.length_take]; rfl)) ?_; (with_reducible refine (spec_SpeedFromTwo.calls kj280 a2 a3 a4 a5 t364 t365 t366 _ A319.out).mono ?_); rintro e w' ⟨rfl, ⟨nd, rfl⟩⟩; refine ⟨_, rfl, ?_⟩) | ((with_reducible refine gate_callee (f := 98) rfl ?_); refine goesL_ (some 542) rfl rfl Tryd.func98 (by kernel_rfl) rfl #[.int .i64 a6, .int .i64 a7, .int .i64 a8] rfl (by (try simp only [List.map_toArray, List.map_cons, List.map_nil]); first | done | rfl | (simp only [List.length_drop, List.length_take]; rfl)) ?_; (with_reducible refine (impl_VisibleFromBoth.calls kj280 a6 a7 a8 t367 t368 t369 _ A320.out).mono ?_); rintro e w' ⟨rfl, ⟨nd, rfl⟩⟩; refine ⟨_, rfl, ?_⟩) | ((with_reducible refine gate_callee (f := 103) rfl ?_); refine goesL_ (some 550) rfl rfl Tryd.func103 (by kernel_rfl) rfl #[.int .i64 a6, .int .i64 a7, .int .i64 a8] rfl (by (try simp only [List.map_toArray, List.map_cons, List.map_nil]); first | done | rfl | (simp only [List.length_drop, List.length_take]; rfl)) ?_; (with_reducible refine (spec_VisibleFromBoth.calls kj280 a6 a7 a8 t370 t371 t372 _ A321.out).mono ?_); rintro e w' ⟨rfl, ⟨nd, rfl⟩⟩; refine ⟨_, rfl, ?_⟩; have hnb325 := NB282_281.out; have hnc325 := NB281_282.out; have hcz326_0 : wc.cell? ⟨gb282, 0, none⟩ = some (.int .i64 a9_0) := (blk_cell BK282.out 0).trans rfl; have hcz326_1 : wc.cell? ⟨gb282, 1, none⟩ = some (.int .i64 a9_1) := (blk_cell BK282.out 1).trans rfl; have hfz326_0 := blk_frozen BK282.out 0; have hfz326_1 := blk_frozen BK282.out 1) | ((with_reducible refine gate_callee (f := 96) rfl ?_); refine goesL_ (some 557) rfl rfl Tryd.func96 (by kernel_rfl) rfl #[.agg #[.int .i64 a9_0, .int .i64 a9_1], .int .i64 a10] rfl (by (try simp only [List.map_toArray, List.map_cons, List.map_nil]); first | done | rfl | (simp only [List.length_drop, List.length_take]; rfl)) ?_; (with_reducible refine (impl_PaceForSteps.calls kj280 a9_0 a9_1 a10 t373 t374 t375 _ A322.out).mono ?_); rintro e w327 ⟨rfl, hb⟩; refine ⟨_, rfl, ?_⟩; have n0_ := Aside0.mk (blk_below (g := gb281) (o := .cells #[.int .i64 a0_0, .int .i64 a0_1] 26 (0, 0)) (by (with_reducible repeat (first | refine kN_ ?_ _ | refine kD_ ?_ | refine kA_ ?_ _)); exact BK281.out) hb); have n1_ := Aside0.mk (blk_below (g := gb282) (o := .cells #[.int .i64 a9_0, .int .i64 a9_1] 26 (0, 0)) (by (with_reducible repeat (first | refine kN_ ?_ _ | refine kD_ ?_ | refine kA_ ?_ _)); exact BK282.out) hb); have n2_ := Aside0.mk (below_step (by repeat (first | (with_reducible first | exact HB.out | apply bA_ | apply bN_ | apply bD_ | refine bS_ ?_ GE281.out | refine bS_ ?_ GE282.out) | exact HB.out)) hb); clear BK281; clear BK282; clear HB; have BK281 := n0_; have BK282 := n1_; have HB := n2_; clear n0_ n1_ n2_; (try clear hb); (try clear hb2); (try clear hk); (try clear hi); have hcz328_0 : w327.cell? ⟨gb282, 0, none⟩ = some (.int .i64 a9_0) := (blk_cell BK282.out 0).trans rfl; have hcz328_1 : w327.cell? ⟨gb282, 1, none⟩ = some (.int .i64 a9_1) := (blk_cell BK282.out 1).trans rfl; have hfz328_0 := blk_frozen BK282.out 0; have hfz328_1 := blk_frozen BK282.out 1) | ((with_reducible refine gate_callee (f := 104) rfl ?_); refine goesL_ (some 564) rfl rfl Tryd.func104 (by kernel_rfl) rfl #[.agg #[.int .i64 a9_0, .int .i64 a9_1], .int .i64 a10] rfl (by (try simp only [List.map_toArray, List.map_cons, List.map_nil]); first | done | rfl | (simp only [List.length_drop, List.length_take]; rfl)) ?_; (with_reducible refine (spec_PaceForSteps.calls kj280 a9_0 a9_1 a10 t376 t377 t378 _ A323.out).mono ?_); rintro e w329 ⟨rfl, hb⟩; refine ⟨_, rfl, ?_⟩; have n0_ := Aside0.mk (blk_below (g := gb281) (o := .cells #[.int .i64 a0_0, .int .i64 a0_1] 26 (0, 0)) (by (with_reducible repeat (first | refine kN_ ?_ _ | refine kD_ ?_ | refine kA_ ?_ _)); exact BK281.out) hb); have n1_ := Aside0.mk (blk_below (g := gb282) (o := .cells #[.int .i64 a9_0, .int .i64 a9_1] 26 (0, 0)) (by (with_reducible repeat (first | refine kN_ ?_ _ | refine kD_ ?_ | refine kA_ ?_ _)); exact BK282.out) hb); have n2_ := Aside0.mk (below_step (by repeat (first | (with_reducible first | exact HB.out | apply bA_ | apply bN_ | apply bD_ | refine bS_ ?_ GE281.out | refine bS_ ?_ GE282.out) | exact HB.out)) hb); clear BK281; clear BK282; clear HB; have BK281 := n0_; have BK282 := n1_; have HB := n2_; clear n0_ n1_ n2_; (try clear hb); (try clear hb2); (try clear hk); (try clear hi)))
     (try simp only [Act.put, List.setIfInBounds_toArray, List.set_cons_zero, List.set_cons_succ])
     go_cut [630] from 630 to 630 (fun v630 wc => ∃ (kq : Nat) (x630_323 : Bool), v630 = .bool x630_323 ∧ Aside0 (laws_FnMovingTimedOfAll.j9 kq a2 a3 a4 a5 a7 a8 a10 t355 t356 t357 t361 t362 t367 t368 t369 t373 t374 t375 x630_323 a9_0 a9_1 = some true) ∧ Aside0 (kq ≤ kj280) ∧ Aside0 (wc.heap[gb281]? = some (.cells #[.int .i64 a0_0, .int .i64 a0_1] 26 (0, 0))) ∧ Aside0 (wc.heap[gb282]? = some (.cells #[.int .i64 a9_0, .int .i64 a9_1] 26 (0, 0))) ∧ Aside0 (Below w.heap.size w wc))
     case first =>
      as_aux_lemma =>
       have H := HC324.out
       clear HC324
       by_cases c330 : (t357 != t360) = true
       ·rw [if_pos c330] at H
        exact absurd H laws_FnMovingTimedOfAll.j9_no
       rw [if_neg c330] at H
       have c330b0 : (t357 != t360) = false := by simpa using c330
       (try (have c330b1 : decide (t357 = t360) = true := by simpa using c330))
       (try (have c330b2 : (t357 == t360) = true := by simpa using c330))
       clear c330
       by_cases c331 : t355 = t358
       ·rw [if_pos c331] at H
        have c331b0 : (t355 == t358) = true := beq_iff_eq.mpr c331
        have c331b1 : (t355 != t358) = false := bne_eq_false_iff_eq.mpr c331
        clear c331
        by_cases c332 : t356 = t359
        ·rw [if_pos c332] at H
         have c332b0 : (t356 == t359) = true := beq_iff_eq.mpr c332
         have c332b1 : (t356 != t359) = false := bne_eq_false_iff_eq.mpr c332
         clear c332
         by_cases c333 : (t363 != t366) = true
         ·rw [if_pos c333] at H
          exact absurd H laws_FnMovingTimedOfAll.j9_no
         rw [if_neg c333] at H
         have c333b0 : (t363 != t366) = false := by simpa using c333
         (try (have c333b1 : decide (t363 = t366) = true := by simpa using c333))
         (try (have c333b2 : (t363 == t366) = true := by simpa using c333))
         clear c333
         by_cases c334 : t361 = t364
         ·rw [if_pos c334] at H
          have c334b0 : (t361 == t364) = true := beq_iff_eq.mpr c334
          have c334b1 : (t361 != t364) = false := bne_eq_false_iff_eq.mpr c334
          clear c334
          by_cases c335 : t362 = t365
          ·rw [if_pos c335] at H
           have c335b0 : (t362 == t365) = true := beq_iff_eq.mpr c335
           have c335b1 : (t362 != t365) = false := bne_eq_false_iff_eq.mpr c335
           clear c335
           by_cases c336 : (t363 != t357) = true
           ·rw [if_pos c336] at H
            exact absurd H laws_FnMovingTimedOfAll.j9_no
           rw [if_neg c336] at H
           have c336b0 : (t363 != t357) = false := by simpa using c336
           (try (have c336b1 : decide (t363 = t357) = true := by simpa using c336))
           (try (have c336b2 : (t363 == t357) = true := by simpa using c336))
           clear c336
           by_cases c337 : (t369 != t372) = true
           ·rw [if_pos c337] at H
            exact absurd H laws_FnMovingTimedOfAll.j9_no
           rw [if_neg c337] at H
           have c337b0 : (t369 != t372) = false := by simpa using c337
           (try (have c337b1 : decide (t369 = t372) = true := by simpa using c337))
           (try (have c337b2 : (t369 == t372) = true := by simpa using c337))
           clear c337
           by_cases c338 : t367 = t370
           ·rw [if_pos c338] at H
            have c338b0 : (t367 == t370) = true := beq_iff_eq.mpr c338
            have c338b1 : (t367 != t370) = false := bne_eq_false_iff_eq.mpr c338
            clear c338
            by_cases c339 : t368 = t371
            ·rw [if_pos c339] at H
             have c339b0 : (t368 == t371) = true := beq_iff_eq.mpr c339
             have c339b1 : (t368 != t371) = false := bne_eq_false_iff_eq.mpr c339
             clear c339
             by_cases c340 : (t375 != t378) = true
             ·rw [if_pos c340] at H
              exact absurd H laws_FnMovingTimedOfAll.j9_no
             rw [if_neg c340] at H
             have c340b0 : (t375 != t378) = false := by simpa using c340
             (try (have c340b1 : decide (t375 = t378) = true := by simpa using c340))
             (try (have c340b2 : (t375 == t378) = true := by simpa using c340))
             clear c340
             by_cases c341 : t373 = t376
             ·rw [if_pos c341] at H
              have c341b0 : (t373 == t376) = true := beq_iff_eq.mpr c341
              have c341b1 : (t373 != t376) = false := bne_eq_false_iff_eq.mpr c341
              clear c341
              have H' := Aside0.mk H
              clear H
              go_wp2
              go_meet
              case rel => exact ⟨_, ((t374 != t377)), (by first | rfl | (simp; done) | (simp [*]; done)), H', ⟨by have := HJ25.out; have := HJ183.out; have := HJ253.out; have := HJ280.out; first | omega | exact Nat.le_refl _⟩, ⟨by (with_reducible repeat (first | refine kN_ ?_ _ | refine kD_ ?_ | refine kA_ ?_ _)); exact BK281.out⟩, ⟨by (with_reducible repeat (first | refine kN_ ?_ _ | refine kD_ ?_ | refine kA_ ?_ _)); exact BK282.out⟩, ⟨by repeat (first | (with_reducible first | exact HB.out | apply bA_ | apply bN_ | apply bD_ | refine bS_ ?_ GE281.out | refine bS_ ?_ GE282.out) | exact HB.out)⟩⟩
             rw [if_neg c341] at H
             exact absurd H laws_FnMovingTimedOfAll.j9_no
            rw [if_neg c339] at H
            exact absurd H laws_FnMovingTimedOfAll.j9_no
           rw [if_neg c338] at H
           exact absurd H laws_FnMovingTimedOfAll.j9_no
          rw [if_neg c335] at H
          exact absurd H laws_FnMovingTimedOfAll.j9_no
         rw [if_neg c334] at H
         exact absurd H laws_FnMovingTimedOfAll.j9_no
        rw [if_neg c332] at H
        exact absurd H laws_FnMovingTimedOfAll.j9_no
       rw [if_neg c331] at H
       exact absurd H laws_FnMovingTimedOfAll.j9_no
     as_aux_lemma =>
      clear HC324
      (try clear c1); (try clear c2); (try clear p2); (try clear c3); (try clear c4); (try clear c6); (try clear p6); (try clear c9); (try clear c10); (try clear c18); (try clear c23); (try clear c24); (try clear c25); (try clear c26); (try clear c27); (try clear c28); (try clear c29); (try clear c30); (try clear c31); (try clear c32); (try clear c33); (try clear c34); (try clear c47); (try clear c60); (try clear p64); (try clear c96); (try clear c97); (try clear c98); (try clear c99); (try clear c100); (try clear c101); (try clear c102); (try clear c103); (try clear c104); (try clear c185); (try clear c239); (try clear c239b0); (try clear c240); (try clear c241); (try clear c241b0); (try clear c241b1); (try clear c244); (try clear c248); (try clear c255); (try clear c258); (try clear c260); (try clear c261); (try clear c263); (try clear c265); (try clear c267); (try clear c269); (try clear c269b0); (try clear c269b1); (try clear c270); (try clear c270b0); (try clear c270b1); (try clear c271); (try clear c271b0); (try clear c272); (try clear c274); (try clear c276); (try clear c277); (try clear c279); (try clear c282); (try clear c285); (try clear c286); (try clear c287); (try clear c287b0); (try clear c290); (try clear c291); (try clear c294); (try clear c298); (try clear c299); (try clear c302); (try clear c306); (try clear c307); (try clear c312); (try clear c313); (try clear c325); (try clear c330); (try clear c330b0); (try clear c330b1); (try clear c330b2); (try clear c331); (try clear c331b0); (try clear c331b1); (try clear c332); (try clear c332b0); (try clear c332b1); (try clear c333); (try clear c333b0); (try clear c333b1); (try clear c333b2); (try clear c334); (try clear c334b0); (try clear c334b1); (try clear c335); (try clear c335b0); (try clear c335b1); (try clear c336); (try clear c336b0); (try clear c336b1); (try clear c336b2); (try clear c337); (try clear c337b0); (try clear c337b1); (try clear c337b2); (try clear c338); (try clear c338b0); (try clear c338b1); (try clear c339); (try clear c339b0); (try clear c339b1); (try clear c340); (try clear c340b0); (try clear c340b1); (try clear c340b2); (try clear c341); (try clear c341b0); (try clear c341b1); (try clear hcz245_0); (try clear hcz245_1); (try clear hcz249_0); (try clear hcz249_1); (try clear hcz262_0); (try clear hcz262_1); (try clear hcz264_0); (try clear hcz264_1); (try clear hcz266_0); (try clear hcz266_1); (try clear hcz278_0); (try clear hcz278_1); (try clear hcz280_0); (try clear hcz280_1); (try clear hcz292_0); (try clear hcz292_1); (try clear hcz295_0); (try clear hcz295_1); (try clear hcz300_0); (try clear hcz300_1); (try clear hcz303_0); (try clear hcz303_1); (try clear hcz308_0); (try clear hcz308_1); (try clear hcz314_0); (try clear hcz314_1); (try clear hcz326_0); (try clear hcz326_1); (try clear hcz328_0); (try clear hcz328_1); (try clear hfz245_0); (try clear hfz245_1); (try clear hfz249_0); (try clear hfz249_1); (try clear hfz262_0); (try clear hfz262_1); (try clear hfz264_0); (try clear hfz264_1); (try clear hfz266_0); (try clear hfz266_1); (try clear hfz278_0); (try clear hfz278_1); (try clear hfz280_0); (try clear hfz280_1); (try clear hfz292_0); (try clear hfz292_1); (try clear hfz295_0); (try clear hfz295_1); (try clear hfz300_0); (try clear hfz300_1); (try clear hfz303_0); (try clear hfz303_1); (try clear hfz308_0); (try clear hfz308_1); (try clear hfz314_0); (try clear hfz314_1); (try clear hfz326_0); (try clear hfz326_1); (try clear hfz328_0); (try clear hfz328_1); (try clear p2); (try clear p6); try clear p64
      obtain ⟨kq, x630_323, rfl, HA, HJ323, BK281, BK282, HB⟩ := hcut
      rcases kq with _ | kj323
      ·exact absurd HA.out (by simp [laws_FnMovingTimedOfAll.j9])
      have H := HA.out
      clear HA
      simp only [laws_FnMovingTimedOfAll.j9] at H
      by_cases c342 : x630_323 = true
      ·subst c342
       rw [if_pos rfl] at H
       exact absurd (Option.some.inj H) (by decide)
      replace c342 := Bool.eq_false_iff.mpr c342
      subst c342
      rw [if_neg (show ¬ (false = true) by decide)] at H
      have HC343 := Aside0.mk H
      clear H
      go_upto_region 48 with (fail)
      go_cut [677] from 677 to 677 (fun v677 wc => ∃ (kq : Nat) (x677_342 : Bool), v677 = .bool x677_342 ∧ Aside0 (laws_FnMovingTimedOfAll.j10 kq a7 a8 a10 t367 t368 t369 t373 t374 t375 x677_342 a9_0 a9_1 = some true) ∧ Aside0 (kq ≤ kj323) ∧ Aside0 (wc.heap[gb281]? = some (.cells #[.int .i64 a0_0, .int .i64 a0_1] 26 (0, 0))) ∧ Aside0 (wc.heap[gb282]? = some (.cells #[.int .i64 a9_0, .int .i64 a9_1] 26 (0, 0))) ∧ Aside0 (Below w.heap.size w wc))
      case first =>
       as_aux_lemma =>
        have H := HC343.out
        clear HC343
        by_cases c344 : t357 = true
        ·subst c344
         rw [if_pos rfl] at H
         replace H := Option.bind_eq_some_iff.mp H
         obtain ⟨t379, A3450, H⟩ := H
         try dsimp only at H
         have A345 := Aside0.mk A3450
         clear A3450
         by_cases c346 : t379 = true
         ·subst c346
          rw [if_pos rfl] at H
          replace H := Option.bind_eq_some_iff.mp H
          obtain ⟨t380, A3470, H⟩ := H
          try dsimp only at H
          have A347 := Aside0.mk A3470
          clear A3470
          by_cases c348 : t380 = true
          ·subst c348
           rw [if_pos rfl] at H
           by_cases c349 : (wrap64 ((wrap64 (t355 * a2)) * t362)) = (wrap64 ((wrap64 (a3 * (wrap64 ((wrap64 (a2 * t362)) + t361)))) * t356))
           ·rw [if_pos c349] at H
            have c349b0 : ((wrap64 ((wrap64 (t355 * a2)) * t362)) == (wrap64 ((wrap64 (a3 * (wrap64 ((wrap64 (a2 * t362)) + t361)))) * t356))) = true := beq_iff_eq.mpr c349
            have c349b1 : ((wrap64 ((wrap64 (t355 * a2)) * t362)) != (wrap64 ((wrap64 (a3 * (wrap64 ((wrap64 (a2 * t362)) + t361)))) * t356))) = false := bne_eq_false_iff_eq.mpr c349
            clear c349
            have H' := Aside0.mk H
            clear H
            go_wp2_with (first | (go_at_call 105; (with_reducible refine (laws_lLow.calls kj323 t355 t356 true _ A345.out).mono ?_); rintro e w' ⟨rfl, ⟨nd, rfl⟩⟩) | (go_at_call 105; (with_reducible refine (laws_lLow.calls kj323 t361 t362 true _ A347.out).mono ?_); rintro e w' ⟨rfl, ⟨nd, rfl⟩⟩))
            go_meet
            case rel => exact ⟨_, (((wrap64 ((wrap64 (t355 * a4)) * t362)) != (wrap64 ((wrap64 (a5 * (wrap64 ((wrap64 (a4 * t362)) + t361)))) * t356)))), (by first | rfl | (simp; done) | (simp [*]; done)), H', ⟨by have := HJ25.out; have := HJ183.out; have := HJ253.out; have := HJ280.out; have := HJ323.out; first | omega | exact Nat.le_refl _⟩, ⟨by (with_reducible repeat (first | refine kN_ ?_ _ | refine kD_ ?_ | refine kA_ ?_ _)); exact BK281.out⟩, ⟨by (with_reducible repeat (first | refine kN_ ?_ _ | refine kD_ ?_ | refine kA_ ?_ _)); exact BK282.out⟩, ⟨by repeat (first | (with_reducible first | exact HB.out | apply bA_ | apply bN_ | apply bD_ | refine bS_ ?_ GE281.out | refine bS_ ?_ GE282.out) | exact HB.out)⟩⟩
           rw [if_neg c349] at H
           exact absurd H laws_FnMovingTimedOfAll.j10_no
          replace c348 := Bool.eq_false_iff.mpr c348
          subst c348
          rw [if_neg (show ¬ (false = true) by decide)] at H
          exact absurd H laws_FnMovingTimedOfAll.j10_no
         replace c346 := Bool.eq_false_iff.mpr c346
         subst c346
         rw [if_neg (show ¬ (false = true) by decide)] at H
         exact absurd H laws_FnMovingTimedOfAll.j10_no
        replace c344 := Bool.eq_false_iff.mpr c344
        subst c344
        rw [if_neg (show ¬ (false = true) by decide)] at H
        have H' := Aside0.mk H
        clear H
        go_wp2
        go_meet
        case rel => exact ⟨_, (false), (by first | rfl | (simp; done) | (simp [*]; done)), H', ⟨by have := HJ25.out; have := HJ183.out; have := HJ253.out; have := HJ280.out; have := HJ323.out; first | omega | exact Nat.le_refl _⟩, ⟨by (with_reducible repeat (first | refine kN_ ?_ _ | refine kD_ ?_ | refine kA_ ?_ _)); exact BK281.out⟩, ⟨by (with_reducible repeat (first | refine kN_ ?_ _ | refine kD_ ?_ | refine kA_ ?_ _)); exact BK282.out⟩, ⟨by repeat (first | (with_reducible first | exact HB.out | apply bA_ | apply bN_ | apply bD_ | refine bS_ ?_ GE281.out | refine bS_ ?_ GE282.out) | exact HB.out)⟩⟩
      as_aux_lemma =>
       clear HC343
       (try clear c1); (try clear c2); (try clear p2); (try clear c3); (try clear c4); (try clear c6); (try clear p6); (try clear c9); (try clear c10); (try clear c18); (try clear c23); (try clear c24); (try clear c25); (try clear c26); (try clear c27); (try clear c28); (try clear c29); (try clear c30); (try clear c31); (try clear c32); (try clear c33); (try clear c34); (try clear c47); (try clear c60); (try clear p64); (try clear c96); (try clear c97); (try clear c98); (try clear c99); (try clear c100); (try clear c101); (try clear c102); (try clear c103); (try clear c104); (try clear c185); (try clear c239); (try clear c239b0); (try clear c240); (try clear c241); (try clear c241b0); (try clear c241b1); (try clear c244); (try clear c248); (try clear c255); (try clear c258); (try clear c260); (try clear c261); (try clear c263); (try clear c265); (try clear c267); (try clear c269); (try clear c269b0); (try clear c269b1); (try clear c270); (try clear c270b0); (try clear c270b1); (try clear c271); (try clear c271b0); (try clear c272); (try clear c274); (try clear c276); (try clear c277); (try clear c279); (try clear c282); (try clear c285); (try clear c286); (try clear c287); (try clear c287b0); (try clear c290); (try clear c291); (try clear c294); (try clear c298); (try clear c299); (try clear c302); (try clear c306); (try clear c307); (try clear c312); (try clear c313); (try clear c325); (try clear c330); (try clear c330b0); (try clear c330b1); (try clear c330b2); (try clear c331); (try clear c331b0); (try clear c331b1); (try clear c332); (try clear c332b0); (try clear c332b1); (try clear c333); (try clear c333b0); (try clear c333b1); (try clear c333b2); (try clear c334); (try clear c334b0); (try clear c334b1); (try clear c335); (try clear c335b0); (try clear c335b1); (try clear c336); (try clear c336b0); (try clear c336b1); (try clear c336b2); (try clear c337); (try clear c337b0); (try clear c337b1); (try clear c337b2); (try clear c338); (try clear c338b0); (try clear c338b1); (try clear c339); (try clear c339b0); (try clear c339b1); (try clear c340); (try clear c340b0); (try clear c340b1); (try clear c340b2); (try clear c341); (try clear c341b0); (try clear c341b1); (try clear c342); (try clear c344); (try clear c346); (try clear c348); (try clear c349); (try clear c349b0); (try clear c349b1); (try clear hcz245_0); (try clear hcz245_1); (try clear hcz249_0); (try clear hcz249_1); (try clear hcz262_0); (try clear hcz262_1); (try clear hcz264_0); (try clear hcz264_1); (try clear hcz266_0); (try clear hcz266_1); (try clear hcz278_0); (try clear hcz278_1); (try clear hcz280_0); (try clear hcz280_1); (try clear hcz292_0); (try clear hcz292_1); (try clear hcz295_0); (try clear hcz295_1); (try clear hcz300_0); (try clear hcz300_1); (try clear hcz303_0); (try clear hcz303_1); (try clear hcz308_0); (try clear hcz308_1); (try clear hcz314_0); (try clear hcz314_1); (try clear hcz326_0); (try clear hcz326_1); (try clear hcz328_0); (try clear hcz328_1); (try clear hfz245_0); (try clear hfz245_1); (try clear hfz249_0); (try clear hfz249_1); (try clear hfz262_0); (try clear hfz262_1); (try clear hfz264_0); (try clear hfz264_1); (try clear hfz266_0); (try clear hfz266_1); (try clear hfz278_0); (try clear hfz278_1); (try clear hfz280_0); (try clear hfz280_1); (try clear hfz292_0); (try clear hfz292_1); (try clear hfz295_0); (try clear hfz295_1); (try clear hfz300_0); (try clear hfz300_1); (try clear hfz303_0); (try clear hfz303_1); (try clear hfz308_0); (try clear hfz308_1); (try clear hfz314_0); (try clear hfz314_1); (try clear hfz326_0); (try clear hfz326_1); (try clear hfz328_0); (try clear hfz328_1); (try clear p2); (try clear p6); try clear p64
       obtain ⟨kq, x677_342, rfl, HA, HJ342, BK281, BK282, HB⟩ := hcut
       rcases kq with _ | kj342
       ·exact absurd HA.out (by simp [laws_FnMovingTimedOfAll.j10])
       have H := HA.out
       clear HA
       simp only [laws_FnMovingTimedOfAll.j10] at H
       by_cases c350 : x677_342 = true
       ·subst c350
        rw [if_pos rfl] at H
        exact absurd (Option.some.inj H) (by decide)
       replace c350 := Bool.eq_false_iff.mpr c350
       subst c350
       rw [if_neg (show ¬ (false = true) by decide)] at H
       have HC351 := Aside0.mk H
       clear H
       go_upto_region 50 with (fail)
       go_cut [705] from 705 to 705 (fun v705 wc => ∃ (kq : Nat) (x705_350 : Bool), v705 = .bool x705_350 ∧ Aside0 (laws_FnMovingTimedOfAll.j11 kq a10 t373 t374 t375 x705_350 a9_0 a9_1 = some true) ∧ Aside0 (kq ≤ kj342) ∧ Aside0 (wc.heap[gb281]? = some (.cells #[.int .i64 a0_0, .int .i64 a0_1] 26 (0, 0))) ∧ Aside0 (wc.heap[gb282]? = some (.cells #[.int .i64 a9_0, .int .i64 a9_1] 26 (0, 0))) ∧ Aside0 (Below w.heap.size w wc))
       case first =>
        as_aux_lemma =>
         have H := HC351.out
         clear HC351
         by_cases c352 : t369 = true
         ·subst c352
          rw [if_pos rfl] at H
          replace H := Option.bind_eq_some_iff.mp H
          obtain ⟨t381, A3530, H⟩ := H
          try dsimp only at H
          have A353 := Aside0.mk A3530
          clear A3530
          by_cases c354 : t381 = true
          ·subst c354
           rw [if_pos rfl] at H
           by_cases c355 : t367 < (wrap64 (a7 * t368))
           ·rw [if_pos c355] at H
            exact absurd H laws_FnMovingTimedOfAll.j11_no
           rw [if_neg c355] at H
           have c355b0 : decide (t367 < (wrap64 (a7 * t368))) = false := decide_eq_false c355
           clear c355
           have H' := Aside0.mk H
           clear H
           go_wp2_with (first | (go_at_call 47; (with_reducible refine (laws_lIs.calls kj342 t367 t368 (wrap64 ((wrap64 (2 * a7)) * a8)) (wrap64 (a7 + a8)) true _ A353.out).mono ?_); rintro e w' ⟨rfl, ⟨nd, rfl⟩⟩))
           go_meet
           case rel => exact ⟨_, (decide (t367 > (wrap64 (a8 * t368)))), (by first | rfl | (simp; done) | (simp [*]; done)), H', ⟨by have := HJ25.out; have := HJ183.out; have := HJ253.out; have := HJ280.out; have := HJ323.out; have := HJ342.out; first | omega | exact Nat.le_refl _⟩, ⟨by (with_reducible repeat (first | refine kN_ ?_ _ | refine kD_ ?_ | refine kA_ ?_ _)); exact BK281.out⟩, ⟨by (with_reducible repeat (first | refine kN_ ?_ _ | refine kD_ ?_ | refine kA_ ?_ _)); exact BK282.out⟩, ⟨by repeat (first | (with_reducible first | exact HB.out | apply bA_ | apply bN_ | apply bD_ | refine bS_ ?_ GE281.out | refine bS_ ?_ GE282.out) | exact HB.out)⟩⟩
          replace c354 := Bool.eq_false_iff.mpr c354
          subst c354
          rw [if_neg (show ¬ (false = true) by decide)] at H
          exact absurd H laws_FnMovingTimedOfAll.j11_no
         replace c352 := Bool.eq_false_iff.mpr c352
         subst c352
         rw [if_neg (show ¬ (false = true) by decide)] at H
         have H' := Aside0.mk H
         clear H
         go_wp2
         go_meet
         case rel => exact ⟨_, (false), (by first | rfl | (simp; done) | (simp [*]; done)), H', ⟨by have := HJ25.out; have := HJ183.out; have := HJ253.out; have := HJ280.out; have := HJ323.out; have := HJ342.out; first | omega | exact Nat.le_refl _⟩, ⟨by (with_reducible repeat (first | refine kN_ ?_ _ | refine kD_ ?_ | refine kA_ ?_ _)); exact BK281.out⟩, ⟨by (with_reducible repeat (first | refine kN_ ?_ _ | refine kD_ ?_ | refine kA_ ?_ _)); exact BK282.out⟩, ⟨by repeat (first | (with_reducible first | exact HB.out | apply bA_ | apply bN_ | apply bD_ | refine bS_ ?_ GE281.out | refine bS_ ?_ GE282.out) | exact HB.out)⟩⟩
       as_aux_lemma =>
        clear HC351
        (try clear c1); (try clear c2); (try clear p2); (try clear c3); (try clear c4); (try clear c6); (try clear p6); (try clear c9); (try clear c10); (try clear c18); (try clear c23); (try clear c24); (try clear c25); (try clear c26); (try clear c27); (try clear c28); (try clear c29); (try clear c30); (try clear c31); (try clear c32); (try clear c33); (try clear c34); (try clear c35); (try clear c47); (try clear c60); (try clear p64); (try clear c96); (try clear c97); (try clear c98); (try clear c99); (try clear c100); (try clear c101); (try clear c102); (try clear c103); (try clear c104); (try clear c185); (try clear c239); (try clear c239b0); (try clear c240); (try clear c241); (try clear c241b0); (try clear c241b1); (try clear c244); (try clear c248); (try clear c255); (try clear c258); (try clear c260); (try clear c261); (try clear c263); (try clear c265); (try clear c267); (try clear c269); (try clear c269b0); (try clear c269b1); (try clear c270); (try clear c270b0); (try clear c270b1); (try clear c271); (try clear c271b0); (try clear c272); (try clear c274); (try clear c276); (try clear c277); (try clear c279); (try clear c282); (try clear c285); (try clear c286); (try clear c287); (try clear c287b0); (try clear c290); (try clear c291); (try clear c294); (try clear c298); (try clear c299); (try clear c302); (try clear c306); (try clear c307); (try clear c312); (try clear c313); (try clear c325); (try clear c330); (try clear c330b0); (try clear c330b1); (try clear c330b2); (try clear c331); (try clear c331b0); (try clear c331b1); (try clear c332); (try clear c332b0); (try clear c332b1); (try clear c333); (try clear c333b0); (try clear c333b1); (try clear c333b2); (try clear c334); (try clear c334b0); (try clear c334b1); (try clear c335); (try clear c335b0); (try clear c335b1); (try clear c336); (try clear c336b0); (try clear c336b1); (try clear c336b2); (try clear c337); (try clear c337b0); (try clear c337b1); (try clear c337b2); (try clear c338); (try clear c338b0); (try clear c338b1); (try clear c339); (try clear c339b0); (try clear c339b1); (try clear c340); (try clear c340b0); (try clear c340b1); (try clear c340b2); (try clear c341); (try clear c341b0); (try clear c341b1); (try clear c342); (try clear c344); (try clear c346); (try clear c348); (try clear c349); (try clear c349b0); (try clear c349b1); (try clear c350); (try clear c352); (try clear c354); (try clear c355); (try clear c355b0); (try clear hcz245_0); (try clear hcz245_1); (try clear hcz249_0); (try clear hcz249_1); (try clear hcz262_0); (try clear hcz262_1); (try clear hcz264_0); (try clear hcz264_1); (try clear hcz266_0); (try clear hcz266_1); (try clear hcz278_0); (try clear hcz278_1); (try clear hcz280_0); (try clear hcz280_1); (try clear hcz292_0); (try clear hcz292_1); (try clear hcz295_0); (try clear hcz295_1); (try clear hcz300_0); (try clear hcz300_1); (try clear hcz303_0); (try clear hcz303_1); (try clear hcz308_0); (try clear hcz308_1); (try clear hcz314_0); (try clear hcz314_1); (try clear hcz326_0); (try clear hcz326_1); (try clear hcz328_0); (try clear hcz328_1); (try clear hfz245_0); (try clear hfz245_1); (try clear hfz249_0); (try clear hfz249_1); (try clear hfz262_0); (try clear hfz262_1); (try clear hfz264_0); (try clear hfz264_1); (try clear hfz266_0); (try clear hfz266_1); (try clear hfz278_0); (try clear hfz278_1); (try clear hfz280_0); (try clear hfz280_1); (try clear hfz292_0); (try clear hfz292_1); (try clear hfz295_0); (try clear hfz295_1); (try clear hfz300_0); (try clear hfz300_1); (try clear hfz303_0); (try clear hfz303_1); (try clear hfz308_0); (try clear hfz308_1); (try clear hfz314_0); (try clear hfz314_1); (try clear hfz326_0); (try clear hfz326_1); (try clear hfz328_0); (try clear hfz328_1); (try clear p2); (try clear p6); try clear p64
        obtain ⟨kq, x705_350, rfl, HA, HJ350, BK281, BK282, HB⟩ := hcut
        rcases kq with _ | kj350
        ·exact absurd HA.out (by simp [laws_FnMovingTimedOfAll.j11])
        have H := HA.out
        clear HA
        simp only [laws_FnMovingTimedOfAll.j11] at H
        by_cases c356 : x705_350 = true
        ·subst c356
         rw [if_pos rfl] at H
         exact absurd (Option.some.inj H) (by decide)
        replace c356 := Bool.eq_false_iff.mpr c356
        subst c356
        rw [if_neg (show ¬ (false = true) by decide)] at H
        by_cases c357 : t375 = true
        ·subst c357
         rw [if_pos rfl] at H
         replace H := Option.bind_eq_some_iff.mp H
         obtain ⟨t382, A3580, H⟩ := H
         try dsimp only at H
         have A358 := Aside0.mk A3580
         clear A3580
         by_cases c359 : t382 = true
         ·subst c359
          rw [if_pos rfl] at H
          by_cases c360 : (wrap64 (t373 * a9_0)) = (wrap64 (a10 * (wrap64 ((wrap64 (a9_1 * t374)) + t373))))
          ·rw [if_pos c360] at H
           have c360b0 : ((wrap64 (t373 * a9_0)) == (wrap64 (a10 * (wrap64 ((wrap64 (a9_1 * t374)) + t373))))) = true := beq_iff_eq.mpr c360
           have c360b1 : ((wrap64 (t373 * a9_0)) != (wrap64 (a10 * (wrap64 ((wrap64 (a9_1 * t374)) + t373))))) = false := bne_eq_false_iff_eq.mpr c360
           clear c360
           clear H
           go_wp2_with (first | (go_at_call 105; (with_reducible refine (laws_lLow.calls kj350 t373 t374 true _ A358.out).mono ?_); rintro e w' ⟨rfl, ⟨nd, rfl⟩⟩; have hnb361 := NB282_281.out; have hnc361 := NB281_282.out; have hcz362_0 : wc.cell? ⟨gb282, 0, none⟩ = some (.int .i64 a9_0) := (blk_cell BK282.out 0).trans rfl; have hcz362_1 : wc.cell? ⟨gb282, 1, none⟩ = some (.int .i64 a9_1) := (blk_cell BK282.out 1).trans rfl; have hfz362_0 := blk_frozen BK282.out 0; have hfz362_1 := blk_frozen BK282.out 1))
           go_ret
           exact ⟨by first | rfl | rw [H] | (have h_ := eq_of_beq H; simp [h_]) | (simp [errW_none, errW_some] <;> rfl) | (simp [*, errW_none, errW_some] <;> rfl), by repeat (first | (with_reducible first | exact HB.out | apply bA_ | apply bN_ | apply bD_ | refine bS_ ?_ GE281.out | refine bS_ ?_ GE282.out) | exact HB.out)⟩
          rw [if_neg c360] at H
          exact absurd (Option.some.inj H) (by decide)
         replace c359 := Bool.eq_false_iff.mpr c359
         subst c359
         rw [if_neg (show ¬ (false = true) by decide)] at H
         exact absurd (Option.some.inj H) (by decide)
        replace c357 := Bool.eq_false_iff.mpr c357
        subst c357
        rw [if_neg (show ¬ (false = true) by decide)] at H
        clear H
        go_wp2
        go_ret
        exact ⟨by first | rfl | rw [H] | (have h_ := eq_of_beq H; simp [h_]) | (simp [errW_none, errW_some] <;> rfl) | (simp [*, errW_none, errW_some] <;> rfl), by repeat (first | (with_reducible first | exact HB.out | apply bA_ | apply bN_ | apply bD_ | refine bS_ ?_ GE281.out | refine bS_ ?_ GE282.out) | exact HB.out)⟩
theorem laws_FnMovingTimedOfAll.calls (k : Nat) (a0_0 : Int) (a0_1 : Int) (a1 : Int) (a2 : Int) (a3 : Int) (a4 : Int) (a5 : Int) (a6 : Int) (a7 : Int) (a8 : Int) (a9_0 : Int) (a9_1 : Int) (a10 : Int) (r_ : Bool) (w : World) (h : laws_FnMovingTimedOfAll.f k a0_0 a0_1 a1 a2 a3 a4 a5 a6 a7 a8 a9_0 a9_1 a10 = some true) (LA : Laid w) :
 Calls Tryd.prog 11 #[.agg #[.int .i64 a0_0, .int .i64 a0_1], .int .i64 a1, .int .i64 a2, .int .i64 a3, .int .i64 a4, .int .i64 a5, .int .i64 a6, .int .i64 a7, .int .i64 a8, .agg #[.int .i64 a9_0, .int .i64 a9_1], .int .i64 a10] w fun e w' => e = .returned (.bool true) ∧ Below w.heap.size w w' := by
 exact laws_FnMovingTimedOfAll.truly k a0_0 a0_1 a1 a2 a3 a4 a5 a6 a7 a8 a9_0 a9_1 a10 w h LA
end Go.Proofs.YtbmdgmmegchmnaaDoor.M
