/- The walk of the law FnHousesBuiltOfAll where it answers true: printed by a program of this session over the kit print, and made short. No further condition. -/
import Derived.Test.YtbmdgmmegchmnaaDoorZB9
import Derived.Test.YtbmdgmmegchmnaaDoorZB10
namespace Go.Proofs.YtbmdgmmegchmnaaDoor.B
open Go.RowKit Go.Proofs.YtbmdgmmegchmnaaDoorW.PrintWords Go.Proofs.YtbmdgmmegchmnaaDoorW.PrintLast Go.Proofs.YtbmdgmmegchmnaaDoorW.PrintMore
attribute [local go_sem] max2_int min2_int max_two min_two max_three min_three max_four min_four
set_option linter.unusedVariables false
set_option linter.unusedSimpArgs false
set_option maxHeartbeats 0 in
set_option maxRecDepth 100000 in
theorem laws_FnHousesBuiltOfAll.truly (k : Nat) (A0_0 : Option Addr) (c0_0 : Nat) (l0_0 : List Int) (A0_1 : Option Addr) (c0_1 : Nat) (l0_1 : List Int) (a1 : Int) (A2_0 : Option Addr) (c2_0 : Nat) (l2_0 : List Int) (A2_1 : Option Addr) (c2_1 : Nat) (l2_1 : List Int) (a3 : Int) (a4 : Int) (A5_0 : Option Addr) (c5_0 : Nat) (l5_0 : List Int) (A5_1 : Option Addr) (c5_1 : Nat) (l5_1 : List Int) (a6 : Int) (a7 : ByteArray) (w : World) (hr0_0 : Kd.C (Kd.int .i64) w A0_0 l0_0.length l0_0) (hc0_0 : l0_0.length ≤ c0_0) (hr0_1 : Kd.C (Kd.int .i64) w A0_1 l0_1.length l0_1) (hc0_1 : l0_1.length ≤ c0_1) (hr2_0 : Kd.C (Kd.int .i64) w A2_0 l2_0.length l2_0) (hc2_0 : l2_0.length ≤ c2_0) (hr2_1 : Kd.C (Kd.int .i64) w A2_1 l2_1.length l2_1) (hc2_1 : l2_1.length ≤ c2_1) (hr5_0 : Kd.C (Kd.int .i64) w A5_0 l5_0.length l5_0) (hc5_0 : l5_0.length ≤ c5_0) (hr5_1 : Kd.C (Kd.int .i64) w A5_1 l5_1.length l5_1) (hc5_1 : l5_1.length ≤ c5_1) (h : laws_FnHousesBuiltOfAll.f k l0_0 l0_1 a1 l2_0 l2_1 a3 a4 l5_0 l5_1 a6 a7 = some true) (LA : Laid w) :
 Calls Tryd.prog 10 #[.agg #[.slice A0_0 l0_0.length c0_0, .slice A0_1 l0_1.length c0_1], .int .i64 a1, .agg #[.slice A2_0 l2_0.length c2_0, .slice A2_1 l2_1.length c2_1], .int .i64 a3, .int .i64 a4, .agg #[.slice A5_0 l5_0.length c5_0, .slice A5_1 l5_1.length c5_1], .int .i64 a6, .string a7] w fun e w' => e = .returned (.bool true) ∧ Below w.heap.size w w' := by
 have HLA := Aside0.mk LA
 clear LA
 have hu40 := Tryd.underlying40
 have HR0_0 := Aside0.mk hr0_0
 have HC0_0 := Aside0.mk hc0_0
 clear hr0_0 hc0_0
 have HR0_1 := Aside0.mk hr0_1
 have HC0_1 := Aside0.mk hc0_1
 clear hr0_1 hc0_1
 have HR2_0 := Aside0.mk hr2_0
 have HC2_0 := Aside0.mk hc2_0
 clear hr2_0 hc2_0
 have HR2_1 := Aside0.mk hr2_1
 have HC2_1 := Aside0.mk hc2_1
 clear hr2_1 hc2_1
 have HR5_0 := Aside0.mk hr5_0
 have HC5_0 := Aside0.mk hc5_0
 clear hr5_0 hc5_0
 have HR5_1 := Aside0.mk hr5_1
 have HC5_1 := Aside0.mk hc5_1
 clear hr5_1 hc5_1
 have HB := Aside0.mk (Below.refl w.heap.size w)
 have H : (if (a7.size : Int) > 1048576 then (some true) else ((impl_LandingsAt.f k l0_0 l0_1 a1).bind fun bt385 => ((spec_LandingsAt.f k l0_0 l0_1 a1).bind fun bt389 => ((impl_LandingsNeeded.f k l0_0 l0_1 a1).bind fun bt393 => ((spec_LandingsNeeded.f k l0_0 l0_1 a1).bind fun bt395 => ((impl_LongestStairs.f k l0_0 l0_1).bind fun bt397 => ((spec_LongestStairs.f k l0_0 l0_1).bind fun bt400 => ((impl_DoorsInHouse.f k l0_0 l0_1).bind fun bt403 => ((spec_DoorsInHouse.f k l0_0 l0_1).bind fun bt405 => ((impl_HouseText.f k l0_0 l0_1).bind fun bt407 => ((spec_HouseText.f k l0_0 l0_1).bind fun bt409 => ((impl_DropFloor.f k l0_0 l0_1).bind fun bt411 => ((spec_DropFloor.f k l0_0 l0_1).bind fun bt419 => (if (bt385.2 != bt389.2) = true then (laws_FnHousesBuiltOfAll.j0 k a1 a3 a4 a6 a7 bt385.1 bt385.2 bt393.1 bt397.1 bt397.2.1 bt397.2.2 bt403.1 bt407.1 bt411.2.2 true l0_0 l0_1 l2_0 l2_1 l5_0 l5_1 bt411.1 bt411.2.1) else ((laws_wSame.f k bt385.1 bt389.1).bind fun t427 => (if t427 = true then (if (bt393.2 != bt395.2) = true then (laws_FnHousesBuiltOfAll.j0 k a1 a3 a4 a6 a7 bt385.1 bt385.2 bt393.1 bt397.1 bt397.2.1 bt397.2.2 bt403.1 bt407.1 bt411.2.2 true l0_0 l0_1 l2_0 l2_1 l5_0 l5_1 bt411.1 bt411.2.1) else (if bt393.1 = bt395.1 then (if (bt397.2.2 != bt400.2.2) = true then (laws_FnHousesBuiltOfAll.j0 k a1 a3 a4 a6 a7 bt385.1 bt385.2 bt393.1 bt397.1 bt397.2.1 bt397.2.2 bt403.1 bt407.1 bt411.2.2 true l0_0 l0_1 l2_0 l2_1 l5_0 l5_1 bt411.1 bt411.2.1) else (if bt397.1 = bt400.1 then (if bt397.2.1 = bt400.2.1 then (if (bt403.2 != bt405.2) = true then (laws_FnHousesBuiltOfAll.j0 k a1 a3 a4 a6 a7 bt385.1 bt385.2 bt393.1 bt397.1 bt397.2.1 bt397.2.2 bt403.1 bt407.1 bt411.2.2 true l0_0 l0_1 l2_0 l2_1 l5_0 l5_1 bt411.1 bt411.2.1) else (if bt403.1 = bt405.1 then (if (bt407.2 != bt409.2) = true then (laws_FnHousesBuiltOfAll.j0 k a1 a3 a4 a6 a7 bt385.1 bt385.2 bt393.1 bt397.1 bt397.2.1 bt397.2.2 bt403.1 bt407.1 bt411.2.2 true l0_0 l0_1 l2_0 l2_1 l5_0 l5_1 bt411.1 bt411.2.1) else (if bt407.1.toList = bt409.1.toList then (if (bt411.2.2 != bt419.2.2) = true then (laws_FnHousesBuiltOfAll.j0 k a1 a3 a4 a6 a7 bt385.1 bt385.2 bt393.1 bt397.1 bt397.2.1 bt397.2.2 bt403.1 bt407.1 bt411.2.2 true l0_0 l0_1 l2_0 l2_1 l5_0 l5_1 bt411.1 bt411.2.1) else ((laws_wHouse.f k bt411.1 bt411.2.1 bt419.1 bt419.2.1).bind fun t428 => (if t428 = true then (if (bt393.2 != bt385.2) = true then (laws_FnHousesBuiltOfAll.j0 k a1 a3 a4 a6 a7 bt385.1 bt385.2 bt393.1 bt397.1 bt397.2.1 bt397.2.2 bt403.1 bt407.1 bt411.2.2 true l0_0 l0_1 l2_0 l2_1 l5_0 l5_1 bt411.1 bt411.2.1) else ((impl_IsHouse.f l0_0 l0_1).bind fun t429 => (if (bt397.2.2 != t429) = true then (laws_FnHousesBuiltOfAll.j0 k a1 a3 a4 a6 a7 bt385.1 bt385.2 bt393.1 bt397.1 bt397.2.1 bt397.2.2 bt403.1 bt407.1 bt411.2.2 true l0_0 l0_1 l2_0 l2_1 l5_0 l5_1 bt411.1 bt411.2.1) else ((impl_IsHouse.f l0_0 l0_1).bind fun t430 => ((spec_IsHouse.f k l0_0 l0_1).bind fun t431 => (if (t430 != t431) = true then (laws_FnHousesBuiltOfAll.j0 k a1 a3 a4 a6 a7 bt385.1 bt385.2 bt393.1 bt397.1 bt397.2.1 bt397.2.2 bt403.1 bt407.1 bt411.2.2 true l0_0 l0_1 l2_0 l2_1 l5_0 l5_1 bt411.1 bt411.2.1) else (if (bt403.2 != bt397.2.2) = true then (laws_FnHousesBuiltOfAll.j0 k a1 a3 a4 a6 a7 bt385.1 bt385.2 bt393.1 bt397.1 bt397.2.1 bt397.2.2 bt403.1 bt407.1 bt411.2.2 true l0_0 l0_1 l2_0 l2_1 l5_0 l5_1 bt411.1 bt411.2.1) else (if (bt407.2 != bt397.2.2) = true then (laws_FnHousesBuiltOfAll.j0 k a1 a3 a4 a6 a7 bt385.1 bt385.2 bt393.1 bt397.1 bt397.2.1 bt397.2.2 bt403.1 bt407.1 bt411.2.2 true l0_0 l0_1 l2_0 l2_1 l5_0 l5_1 bt411.1 bt411.2.1) else (if bt385.2 = true then (if bt397.2.2 = true then (laws_FnHousesBuiltOfAll.j0 k a1 a3 a4 a6 a7 bt385.1 bt385.2 bt393.1 bt397.1 bt397.2.1 bt397.2.2 bt403.1 bt407.1 bt411.2.2 (bt411.2.2 != (decide ((l0_0.length : Int) > 1))) l0_0 l0_1 l2_0 l2_1 l5_0 l5_1 bt411.1 bt411.2.1) else (laws_FnHousesBuiltOfAll.j0 k a1 a3 a4 a6 a7 bt385.1 bt385.2 bt393.1 bt397.1 bt397.2.1 bt397.2.2 bt403.1 bt407.1 bt411.2.2 true l0_0 l0_1 l2_0 l2_1 l5_0 l5_1 bt411.1 bt411.2.1)) else (if bt397.2.2 = true then (laws_FnHousesBuiltOfAll.j0 k a1 a3 a4 a6 a7 bt385.1 bt385.2 bt393.1 bt397.1 bt397.2.1 bt397.2.2 bt403.1 bt407.1 bt411.2.2 (bt411.2.2 != (decide ((l0_0.length : Int) > 1))) l0_0 l0_1 l2_0 l2_1 l5_0 l5_1 bt411.1 bt411.2.1) else (laws_FnHousesBuiltOfAll.j0 k a1 a3 a4 a6 a7 bt385.1 bt385.2 bt393.1 bt397.1 bt397.2.1 bt397.2.2 bt403.1 bt407.1 bt411.2.2 (bt411.2.2 != false) l0_0 l0_1 l2_0 l2_1 l5_0 l5_1 bt411.1 bt411.2.1))))))))))) else (laws_FnHousesBuiltOfAll.j0 k a1 a3 a4 a6 a7 bt385.1 bt385.2 bt393.1 bt397.1 bt397.2.1 bt397.2.2 bt403.1 bt407.1 bt411.2.2 true l0_0 l0_1 l2_0 l2_1 l5_0 l5_1 bt411.1 bt411.2.1)))) else (laws_FnHousesBuiltOfAll.j0 k a1 a3 a4 a6 a7 bt385.1 bt385.2 bt393.1 bt397.1 bt397.2.1 bt397.2.2 bt403.1 bt407.1 bt411.2.2 true l0_0 l0_1 l2_0 l2_1 l5_0 l5_1 bt411.1 bt411.2.1))) else (laws_FnHousesBuiltOfAll.j0 k a1 a3 a4 a6 a7 bt385.1 bt385.2 bt393.1 bt397.1 bt397.2.1 bt397.2.2 bt403.1 bt407.1 bt411.2.2 true l0_0 l0_1 l2_0 l2_1 l5_0 l5_1 bt411.1 bt411.2.1))) else (laws_FnHousesBuiltOfAll.j0 k a1 a3 a4 a6 a7 bt385.1 bt385.2 bt393.1 bt397.1 bt397.2.1 bt397.2.2 bt403.1 bt407.1 bt411.2.2 true l0_0 l0_1 l2_0 l2_1 l5_0 l5_1 bt411.1 bt411.2.1)) else (laws_FnHousesBuiltOfAll.j0 k a1 a3 a4 a6 a7 bt385.1 bt385.2 bt393.1 bt397.1 bt397.2.1 bt397.2.2 bt403.1 bt407.1 bt411.2.2 true l0_0 l0_1 l2_0 l2_1 l5_0 l5_1 bt411.1 bt411.2.1))) else (laws_FnHousesBuiltOfAll.j0 k a1 a3 a4 a6 a7 bt385.1 bt385.2 bt393.1 bt397.1 bt397.2.1 bt397.2.2 bt403.1 bt407.1 bt411.2.2 true l0_0 l0_1 l2_0 l2_1 l5_0 l5_1 bt411.1 bt411.2.1))) else (laws_FnHousesBuiltOfAll.j0 k a1 a3 a4 a6 a7 bt385.1 bt385.2 bt393.1 bt397.1 bt397.2.1 bt397.2.2 bt403.1 bt407.1 bt411.2.2 true l0_0 l0_1 l2_0 l2_1 l5_0 l5_1 bt411.1 bt411.2.1))))))))))))))))) = some true := h
 clear h
 by_cases c9 : (a7.size : Int) > 1048576
 ·rw [if_pos c9] at H
  have c9b0 : decide (1048576 < (a7.size : Int)) = true := decide_eq_true c9
  have c9b1 : decide (1048576 < a7.size) = true := decide_eq_true (by omega)
  clear c9
  clear H
  go_enter Tryd.func10, Tryd.ntmps10
  go_wp2_with (first | ((with_reducible refine gate_dst (N := 8) rfl ?_); (try (refine gate_guard (by rfl) ?_; dsimp only)); refine bx_ 8 #[.slice A0_0 l0_0.length c0_0, .slice A0_1 l0_1.length c0_1] 40 ?_; intro gb382 hg w10 hbox hb; have BK382 := Aside0.mk (hbox); have GW382 := gw_ HB hg; have GE382 := GW382; replace HB := bs_ HB hb; clear hb hbox hg) | ((with_reducible refine gate_dst (N := 10) rfl ?_); (try (refine gate_guard (by rfl) ?_; dsimp only)); refine bx_ 10 #[.slice A2_0 l2_0.length c2_0, .slice A2_1 l2_1.length c2_1] 40 ?_; intro gb383 hg w11 hbox hb; have BK383 := Aside0.mk (hbox); have GW383 := gw_ HB hg; have GE383 := GW383; have NB382_383 := nl_ BK382 hg; have NB383_382 := nr_ BK382 hg; replace BK382 := kb_ BK382 hb; replace HB := bs_ HB hb; clear hb hbox hg) | ((with_reducible refine gate_dst (N := 13) rfl ?_); (try (refine gate_guard (by rfl) ?_; dsimp only)); refine bx_ 13 #[.slice A5_0 l5_0.length c5_0, .slice A5_1 l5_1.length c5_1] 40 ?_; intro gb384 hg w12 hbox hb; have BK384 := Aside0.mk (hbox); have GW384 := gw_ HB hg; have GE384 := GW384; have NB382_384 := nl_ BK382 hg; have NB384_382 := nr_ BK382 hg; have NB383_384 := nl_ BK383 hg; have NB384_383 := nr_ BK383 hg; replace BK382 := kb_ BK382 hb; replace BK383 := kb_ BK383 hb; replace HB := bs_ HB hb; clear hb hbox hg))
  go_ret
  exact ⟨by first | rfl | rw [H] | (have h_ := eq_of_beq H; simp [h_]) | (simp [errW_none, errW_some] <;> rfl) | (simp [*, errW_none, errW_some] <;> rfl), dn_ HB.out⟩
 rw [if_neg c9] at H
 have c9b0 : decide (1048576 < (a7.size : Int)) = false := decide_eq_false c9
 have c9b1 : decide (1048576 < a7.size) = false := decide_eq_false (by omega)
 clear c9
 replace H := Option.bind_eq_some_iff.mp H
 obtain ⟨⟨t385, t388⟩, A130, H⟩ := H
 try dsimp only at H
 have A13 := Aside0.mk A130
 clear A130
 replace H := Option.bind_eq_some_iff.mp H
 obtain ⟨⟨t389, t392⟩, A140, H⟩ := H
 try dsimp only at H
 have A14 := Aside0.mk A140
 clear A140
 replace H := Option.bind_eq_some_iff.mp H
 obtain ⟨⟨t393, t394⟩, A150, H⟩ := H
 try dsimp only at H
 have A15 := Aside0.mk A150
 clear A150
 replace H := Option.bind_eq_some_iff.mp H
 obtain ⟨⟨t395, t396⟩, A160, H⟩ := H
 try dsimp only at H
 have A16 := Aside0.mk A160
 clear A160
 replace H := Option.bind_eq_some_iff.mp H
 obtain ⟨⟨t397, t398, t399⟩, A170, H⟩ := H
 try dsimp only at H
 have A17 := Aside0.mk A170
 clear A170
 replace H := Option.bind_eq_some_iff.mp H
 obtain ⟨⟨t400, t401, t402⟩, A180, H⟩ := H
 try dsimp only at H
 have A18 := Aside0.mk A180
 clear A180
 replace H := Option.bind_eq_some_iff.mp H
 obtain ⟨⟨t403, t404⟩, A190, H⟩ := H
 try dsimp only at H
 have A19 := Aside0.mk A190
 clear A190
 replace H := Option.bind_eq_some_iff.mp H
 obtain ⟨⟨t405, t406⟩, A200, H⟩ := H
 try dsimp only at H
 have A20 := Aside0.mk A200
 clear A200
 replace H := Option.bind_eq_some_iff.mp H
 obtain ⟨⟨t407, t408⟩, A210, H⟩ := H
 try dsimp only at H
 have A21 := Aside0.mk A210
 clear A210
 replace H := Option.bind_eq_some_iff.mp H
 obtain ⟨⟨t409, t410⟩, A220, H⟩ := H
 try dsimp only at H
 have A22 := Aside0.mk A220
 clear A220
 replace H := Option.bind_eq_some_iff.mp H
 obtain ⟨⟨t411, t414, t417⟩, A230, H⟩ := H
 try dsimp only at H
 have A23 := Aside0.mk A230
 clear A230
 replace H := Option.bind_eq_some_iff.mp H
 obtain ⟨⟨t419, t422, t425⟩, A240, H⟩ := H
 try dsimp only at H
 have A24 := Aside0.mk A240
 clear A240
 have HC25 := Aside0.mk H
 clear H
 go_enter Tryd.func10, Tryd.ntmps10
 go_upto_region 15 with (first | ((with_reducible refine gate_dst (N := 8) rfl ?_); (try (refine gate_guard (by rfl) ?_; dsimp only)); refine bx_ 8 #[.slice A0_0 l0_0.length c0_0, .slice A0_1 l0_1.length c0_1] 40 ?_; intro gb382 hg w26 hbox hb; have BK382 := Aside0.mk (hbox); have GW382 := gw_ HB hg; have GE382 := GW382; replace HB := bs_ HB hb; clear hb hbox hg) | ((with_reducible refine gate_dst (N := 10) rfl ?_); (try (refine gate_guard (by rfl) ?_; dsimp only)); refine bx_ 10 #[.slice A2_0 l2_0.length c2_0, .slice A2_1 l2_1.length c2_1] 40 ?_; intro gb383 hg w27 hbox hb; have BK383 := Aside0.mk (hbox); have GW383 := gw_ HB hg; have GE383 := GW383; have NB382_383 := nl_ BK382 hg; have NB383_382 := nr_ BK382 hg; replace BK382 := kb_ BK382 hb; replace HB := bs_ HB hb; clear hb hbox hg) | ((with_reducible refine gate_dst (N := 13) rfl ?_); (try (refine gate_guard (by rfl) ?_; dsimp only)); refine bx_ 13 #[.slice A5_0 l5_0.length c5_0, .slice A5_1 l5_1.length c5_1] 40 ?_; intro gb384 hg w28 hbox hb; have BK384 := Aside0.mk (hbox); have GW384 := gw_ HB hg; have GE384 := GW384; have NB382_384 := nl_ BK382 hg; have NB384_382 := nr_ BK382 hg; have NB383_384 := nl_ BK383 hg; have NB384_383 := nr_ BK383 hg; replace BK382 := kb_ BK382 hb; replace BK383 := kb_ BK383 hb; replace HB := bs_ HB hb; clear hb hbox hg; have hnb29 := NB382_383.out; have hnc29 := NB383_382.out; have hnb30 := NB382_384.out; have hnc30 := NB384_382.out; obtain ⟨hcz31_0, hcz31_1, hfz31_0, hfz31_1⟩ := cf2_ BK382) | ((with_reducible refine gate_callee (f := 61) rfl ?_); refine gL_ (some 83) Tryd.func61 #[.agg #[.slice A0_0 l0_0.length c0_0, .slice A0_1 l0_1.length c0_1], .int .i64 a1] ?_; (with_reducible refine (impl_LandingsAt.calls k _ _ l0_0 _ _ l0_1 a1 t385 t388 _ ?side1 ?side2 ?side3 ?side4 A13.out).mono ?_); (case side1 => exact cs_ (Kd.C_below HR0_0.out HB.out)); (case side2 => exact HC0_0.out); (case side3 => exact cs_ (Kd.C_below HR0_1.out HB.out)); (case side4 => exact HC0_1.out); rintro e w32 ⟨v386, rfl, ho0, hb⟩; refine ⟨_, rfl, ?_⟩; have HO387 := Aside0.mk (Kd.R_lower ho0 (below_size (dn_ HB.out))); replace BK382 := kb_ BK382 hb; replace BK383 := kb_ BK383 hb; replace BK384 := kb_ BK384 hb; replace HB := bs_ HB hb; (try clear hb); (try clear ho0); obtain ⟨hcz33_0, hcz33_1, hfz33_0, hfz33_1⟩ := cf2_ BK382) | ((with_reducible refine gate_callee (f := 62) rfl ?_); refine gL_ (some 89) Tryd.func62 #[.agg #[.slice A0_0 l0_0.length c0_0, .slice A0_1 l0_1.length c0_1], .int .i64 a1] ?_; (with_reducible refine (spec_LandingsAt.calls k _ _ l0_0 _ _ l0_1 a1 t389 t392 _ ?side1 ?side2 ?side3 ?side4 A14.out).mono ?_); (case side1 => exact cs_ (Kd.C_below HR0_0.out HB.out)); (case side2 => exact HC0_0.out); (case side3 => exact cs_ (Kd.C_below HR0_1.out HB.out)); (case side4 => exact HC0_1.out); rintro e w34 ⟨v390, rfl, ho0, hb⟩; refine ⟨_, rfl, ?_⟩; have HO391 := Aside0.mk (Kd.R_lower (Kd.R_new' ho0 (Kd.R_lt (up_ HO387.out))) (below_size (dn_ HB.out))); replace HO387 := re_ HO387 (Kd.R_base ho0) hb; replace BK382 := kb_ BK382 hb; replace BK383 := kb_ BK383 hb; replace BK384 := kb_ BK384 hb; replace HB := bs_ HB hb; (try clear hb); (try clear ho0); obtain ⟨hcz35_0, hcz35_1, hfz35_0, hfz35_1⟩ := cf2_ BK382) | ((with_reducible refine gate_callee (f := 63) rfl ?_); refine gL_ (some 95) Tryd.func63 #[.agg #[.slice A0_0 l0_0.length c0_0, .slice A0_1 l0_1.length c0_1], .int .i64 a1] ?_; (with_reducible refine (impl_LandingsNeeded.calls k _ _ l0_0 _ _ l0_1 a1 t393 t394 _ ?side1 ?side2 ?side3 ?side4 A15.out).mono ?_); (case side1 => exact cs_ (Kd.C_below HR0_0.out HB.out)); (case side2 => exact HC0_0.out); (case side3 => exact cs_ (Kd.C_below HR0_1.out HB.out)); (case side4 => exact HC0_1.out); rintro e w36 ⟨rfl, hb⟩; refine ⟨_, rfl, ?_⟩; replace HO387 := rb_ HO387 hb; replace HO391 := rb_ HO391 hb; replace BK382 := kb_ BK382 hb; replace BK383 := kb_ BK383 hb; replace BK384 := kb_ BK384 hb; replace HB := bs_ HB hb; (try clear hb); obtain ⟨hcz37_0, hcz37_1, hfz37_0, hfz37_1⟩ := cf2_ BK382) | ((with_reducible refine gate_callee (f := 64) rfl ?_); refine gL_ (some 101) Tryd.func64 #[.agg #[.slice A0_0 l0_0.length c0_0, .slice A0_1 l0_1.length c0_1], .int .i64 a1] ?_; (with_reducible refine (spec_LandingsNeeded.calls k _ _ l0_0 _ _ l0_1 a1 t395 t396 _ ?side1 ?side2 ?side3 ?side4 A16.out).mono ?_); (case side1 => exact cs_ (Kd.C_below HR0_0.out HB.out)); (case side2 => exact HC0_0.out); (case side3 => exact cs_ (Kd.C_below HR0_1.out HB.out)); (case side4 => exact HC0_1.out); rintro e w38 ⟨rfl, hb⟩; refine ⟨_, rfl, ?_⟩; replace HO387 := rb_ HO387 hb; replace HO391 := rb_ HO391 hb; replace BK382 := kb_ BK382 hb; replace BK383 := kb_ BK383 hb; replace BK384 := kb_ BK384 hb; replace HB := bs_ HB hb; (try clear hb); obtain ⟨hcz39_0, hcz39_1, hfz39_0, hfz39_1⟩ := cf2_ BK382) | ((with_reducible refine gate_callee (f := 65) rfl ?_); refine gL_ (some 106) Tryd.func65 #[.agg #[.slice A0_0 l0_0.length c0_0, .slice A0_1 l0_1.length c0_1]] ?_; (with_reducible refine (impl_LongestStairs.calls k _ _ l0_0 _ _ l0_1 t397 t398 t399 _ ?side1 ?side2 ?side3 ?side4 A17.out).mono ?_); (case side1 => exact cs_ (Kd.C_below HR0_0.out HB.out)); (case side2 => exact HC0_0.out); (case side3 => exact cs_ (Kd.C_below HR0_1.out HB.out)); (case side4 => exact HC0_1.out); rintro e w40 ⟨rfl, hb⟩; refine ⟨_, rfl, ?_⟩; replace HO387 := rb_ HO387 hb; replace HO391 := rb_ HO391 hb; replace BK382 := kb_ BK382 hb; replace BK383 := kb_ BK383 hb; replace BK384 := kb_ BK384 hb; replace HB := bs_ HB hb; (try clear hb); obtain ⟨hcz41_0, hcz41_1, hfz41_0, hfz41_1⟩ := cf2_ BK382) | ((with_reducible refine gate_callee (f := 66) rfl ?_); refine gL_ (some 112) Tryd.func66 #[.agg #[.slice A0_0 l0_0.length c0_0, .slice A0_1 l0_1.length c0_1]] ?_; (with_reducible refine (spec_LongestStairs.calls k _ _ l0_0 _ _ l0_1 t400 t401 t402 _ ?side1 ?side2 ?side3 ?side4 A18.out).mono ?_); (case side1 => exact cs_ (Kd.C_below HR0_0.out HB.out)); (case side2 => exact HC0_0.out); (case side3 => exact cs_ (Kd.C_below HR0_1.out HB.out)); (case side4 => exact HC0_1.out); rintro e w42 ⟨rfl, hb⟩; refine ⟨_, rfl, ?_⟩; replace HO387 := rb_ HO387 hb; replace HO391 := rb_ HO391 hb; replace BK382 := kb_ BK382 hb; replace BK383 := kb_ BK383 hb; replace BK384 := kb_ BK384 hb; replace HB := bs_ HB hb; (try clear hb); obtain ⟨hcz43_0, hcz43_1, hfz43_0, hfz43_1⟩ := cf2_ BK382) | ((with_reducible refine gate_callee (f := 67) rfl ?_); refine gL_ (some 118) Tryd.func67 #[.agg #[.slice A0_0 l0_0.length c0_0, .slice A0_1 l0_1.length c0_1]] ?_; (with_reducible refine (impl_DoorsInHouse.calls k _ _ l0_0 _ _ l0_1 t403 t404 _ ?side1 ?side2 ?side3 ?side4 A19.out).mono ?_); (case side1 => exact cs_ (Kd.C_below HR0_0.out HB.out)); (case side2 => exact HC0_0.out); (case side3 => exact cs_ (Kd.C_below HR0_1.out HB.out)); (case side4 => exact HC0_1.out); rintro e w44 ⟨rfl, hb⟩; refine ⟨_, rfl, ?_⟩; replace HO387 := rb_ HO387 hb; replace HO391 := rb_ HO391 hb; replace BK382 := kb_ BK382 hb; replace BK383 := kb_ BK383 hb; replace BK384 := kb_ BK384 hb; replace HB := bs_ HB hb; (try clear hb); obtain ⟨hcz45_0, hcz45_1, hfz45_0, hfz45_1⟩ := cf2_ BK382) | ((with_reducible refine gate_callee (f := 68) rfl ?_); refine gL_ (some 123) Tryd.func68 #[.agg #[.slice A0_0 l0_0.length c0_0, .slice A0_1 l0_1.length c0_1]] ?_; (with_reducible refine (spec_DoorsInHouse.calls k _ _ l0_0 _ _ l0_1 t405 t406 _ ?side1 ?side2 ?side3 ?side4 A20.out).mono ?_); (case side1 => exact cs_ (Kd.C_below HR0_0.out HB.out)); (case side2 => exact HC0_0.out); (case side3 => exact cs_ (Kd.C_below HR0_1.out HB.out)); (case side4 => exact HC0_1.out); rintro e w46 ⟨rfl, hb⟩; refine ⟨_, rfl, ?_⟩; replace HO387 := rb_ HO387 hb; replace HO391 := rb_ HO391 hb; replace BK382 := kb_ BK382 hb; replace BK383 := kb_ BK383 hb; replace BK384 := kb_ BK384 hb; replace HB := bs_ HB hb; (try clear hb); obtain ⟨hcz47_0, hcz47_1, hfz47_0, hfz47_1⟩ := cf2_ BK382) | ((with_reducible refine gate_callee (f := 21) rfl ?_); refine gL_ (some 128) Tryd.func21 #[.agg #[.slice A0_0 l0_0.length c0_0, .slice A0_1 l0_1.length c0_1]] ?_; (with_reducible refine (impl_HouseText.calls k _ _ l0_0 _ _ l0_1 t407 t408 _ ?side1 ?side2 ?side3 ?side4 A21.out (Laid.below HLA.out (dn_ HB.out))).mono ?_); (case side1 => exact cs_ (Kd.C_below HR0_0.out HB.out)); (case side2 => exact HC0_0.out); (case side3 => exact cs_ (Kd.C_below HR0_1.out HB.out)); (case side4 => exact HC0_1.out); rintro e w48 ⟨rfl, hb⟩; refine ⟨_, rfl, ?_⟩; replace HO387 := rb_ HO387 hb; replace HO391 := rb_ HO391 hb; replace BK382 := kb_ BK382 hb; replace BK383 := kb_ BK383 hb; replace BK384 := kb_ BK384 hb; replace HB := bs_ HB hb; (try clear hb); obtain ⟨hcz49_0, hcz49_1, hfz49_0, hfz49_1⟩ := cf2_ BK382) | ((with_reducible refine gate_callee (f := 19) rfl ?_); refine gL_ (some 133) Tryd.func19 #[.agg #[.slice A0_0 l0_0.length c0_0, .slice A0_1 l0_1.length c0_1]] ?_; (with_reducible refine (spec_HouseText.calls k _ _ l0_0 _ _ l0_1 t409 t410 _ ?side1 ?side2 ?side3 ?side4 A22.out).mono ?_); (case side1 => exact cs_ (Kd.C_below HR0_0.out HB.out)); (case side2 => exact HC0_0.out); (case side3 => exact cs_ (Kd.C_below HR0_1.out HB.out)); (case side4 => exact HC0_1.out); rintro e w50 ⟨rfl, hb⟩; refine ⟨_, rfl, ?_⟩; replace HO387 := rb_ HO387 hb; replace HO391 := rb_ HO391 hb; replace BK382 := kb_ BK382 hb; replace BK383 := kb_ BK383 hb; replace BK384 := kb_ BK384 hb; replace HB := bs_ HB hb; (try clear hb); obtain ⟨hcz51_0, hcz51_1, hfz51_0, hfz51_1⟩ := cf2_ BK382) | ((with_reducible refine gate_callee (f := 69) rfl ?_); refine gL_ (some 138) Tryd.func69 #[.agg #[.slice A0_0 l0_0.length c0_0, .slice A0_1 l0_1.length c0_1]] ?_; (with_reducible refine (impl_DropFloor.calls k _ _ l0_0 _ _ l0_1 t411 t414 t417 _ ?side1 ?side2 ?side3 ?side4 A23.out).mono ?_); (case side1 => exact cs_ (Kd.C_below HR0_0.out HB.out)); (case side2 => exact HC0_0.out); (case side3 => exact cs_ (Kd.C_below HR0_1.out HB.out)); (case side4 => exact HC0_1.out); rintro e w52 ⟨v412, v415, rfl, ho0, ho1, hb⟩; refine ⟨_, rfl, ?_⟩; have HO413 := Aside0.mk (Kd.R_lower (Kd.R_new' (Kd.R_new' ho0 (Kd.R_lt (up_ HO387.out))) (Kd.R_lt (up_ HO391.out))) (below_size (dn_ HB.out))); have HO416 := Aside0.mk (Kd.R_lower (Kd.R_new' (Kd.R_new' ho1 (Kd.R_lt (up_ HO387.out))) (Kd.R_lt (up_ HO391.out))) (below_size (dn_ HB.out))); replace HO387 := Aside0.mk (Kd.R_mono (Kd.R_told (Kd.R_told (Kd.R_old (up_ HO387.out) hb) (Kd.R_base ho0)) (Kd.R_base ho1)) (fun _ h_ => h_.1)); replace HO391 := Aside0.mk (Kd.R_mono (Kd.R_told (Kd.R_told (Kd.R_old (up_ HO391.out) hb) (Kd.R_base ho0)) (Kd.R_base ho1)) (fun _ h_ => h_.1)); replace BK382 := kb_ BK382 hb; replace BK383 := kb_ BK383 hb; replace BK384 := kb_ BK384 hb; replace HB := bs_ HB hb; (try clear hb); (try clear ho0)) | ((with_reducible refine gate_dst (N := 39) rfl ?_); (try (refine gate_guard (by rfl) ?_; dsimp only)); refine bx_ 39 #[.slice none 0 0, .slice none 0 0] 40 ?_; intro gb418 hg w53 hbox hb; have BK418 := Aside0.mk (hbox); have GW418 := gw_ HB hg; have GE418 := GW418; have NB382_418 := nl_ BK382 hg; have NB418_382 := nr_ BK382 hg; have NB383_418 := nl_ BK383 hg; have NB418_383 := nr_ BK383 hg; have NB384_418 := nl_ BK384 hg; have NB418_384 := nr_ BK384 hg; replace HO387 := rb_ HO387 hb; replace HO391 := rb_ HO391 hb; replace HO413 := rb_ HO413 hb; replace HO416 := rb_ HO416 hb; replace BK382 := kb_ BK382 hb; replace BK383 := kb_ BK383 hb; replace BK384 := kb_ BK384 hb; replace HB := bs_ HB hb; clear hb hbox hg; obtain ⟨Ao54, co54, eo54⟩ := Kd.R_slice HO413.out; subst eo54; have hnb55 := NB418_382.out; have hnc55 := NB382_418.out; have hnb56 := NB418_383.out; have hnc56 := NB383_418.out; have hnb57 := NB418_384.out; have hnc57 := NB384_418.out; obtain ⟨hcz58_0, hcz58_1, hfz58_0, hfz58_1⟩ := cf2_ BK418; obtain ⟨Ao59, co59, eo59⟩ := Kd.R_slice HO416.out; subst eo59; obtain ⟨hcz60_0, hcz60_1, hfz60_0, hfz60_1⟩ := cf2_ BK382) | ((with_reducible refine gate_callee (f := 70) rfl ?_); refine gL_ (some 143) Tryd.func70 #[.agg #[.slice A0_0 l0_0.length c0_0, .slice A0_1 l0_1.length c0_1]] ?_; (with_reducible refine (spec_DropFloor.calls k _ _ l0_0 _ _ l0_1 t419 t422 t425 _ ?side1 ?side2 ?side3 ?side4 A24.out).mono ?_); (case side1 => exact Kd.C_below HR0_0.out (dn_ HB.out)); (case side2 => exact HC0_0.out); (case side3 => exact Kd.C_below HR0_1.out (dn_ HB.out)); (case side4 => exact HC0_1.out); rintro e w61 ⟨v420, v423, rfl, ho0, ho1, hb⟩; refine ⟨_, rfl, ?_⟩; have HO421 := Aside0.mk (Kd.R_lower (Kd.R_new' (Kd.R_new' (Kd.R_new' (Kd.R_new' ho0 (Kd.R_lt (by refine lr_ ?_; exact (Kd.R_mono (Kd.R_far (p := ⟨gb418, 1, none⟩) (Kd.R_far (p := ⟨gb418, 0, none⟩) (Kd.R_types HO387.out BK418.out (by decide)) (fun _ hk => hk.2) (.slice Ao54 t411.length co54)) (fun _ hk => hk.2) (.slice Ao59 t414.length co59)) (fun _ h_ => h_.1))))) (Kd.R_lt (by refine lr_ ?_; exact (Kd.R_mono (Kd.R_far (p := ⟨gb418, 1, none⟩) (Kd.R_far (p := ⟨gb418, 0, none⟩) (Kd.R_types HO391.out BK418.out (by decide)) (fun _ hk => hk.2) (.slice Ao54 t411.length co54)) (fun _ hk => hk.2) (.slice Ao59 t414.length co59)) (fun _ h_ => h_.1))))) (Kd.R_lt (by refine lr_ ?_; exact (Kd.R_mono (Kd.R_far (p := ⟨gb418, 1, none⟩) (Kd.R_far (p := ⟨gb418, 0, none⟩) (Kd.R_types HO413.out BK418.out (by decide)) (fun _ hk => hk.2) (.slice Ao54 t411.length co54)) (fun _ hk => hk.2) (.slice Ao59 t414.length co59)) (fun _ h_ => h_.1))))) (Kd.R_lt (by refine lr_ ?_; exact (Kd.R_mono (Kd.R_far (p := ⟨gb418, 1, none⟩) (Kd.R_far (p := ⟨gb418, 0, none⟩) (Kd.R_types HO416.out BK418.out (by decide)) (fun _ hk => hk.2) (.slice Ao54 t411.length co54)) (fun _ hk => hk.2) (.slice Ao59 t414.length co59)) (fun _ h_ => h_.1))))) (below_size (dn_ HB.out))); have HO424 := Aside0.mk (Kd.R_lower (Kd.R_new' (Kd.R_new' (Kd.R_new' (Kd.R_new' ho1 (Kd.R_lt (by refine lr_ ?_; exact (Kd.R_mono (Kd.R_far (p := ⟨gb418, 1, none⟩) (Kd.R_far (p := ⟨gb418, 0, none⟩) (Kd.R_types HO387.out BK418.out (by decide)) (fun _ hk => hk.2) (.slice Ao54 t411.length co54)) (fun _ hk => hk.2) (.slice Ao59 t414.length co59)) (fun _ h_ => h_.1))))) (Kd.R_lt (by refine lr_ ?_; exact (Kd.R_mono (Kd.R_far (p := ⟨gb418, 1, none⟩) (Kd.R_far (p := ⟨gb418, 0, none⟩) (Kd.R_types HO391.out BK418.out (by decide)) (fun _ hk => hk.2) (.slice Ao54 t411.length co54)) (fun _ hk => hk.2) (.slice Ao59 t414.length co59)) (fun _ h_ => h_.1))))) (Kd.R_lt (by refine lr_ ?_; exact (Kd.R_mono (Kd.R_far (p := ⟨gb418, 1, none⟩) (Kd.R_far (p := ⟨gb418, 0, none⟩) (Kd.R_types HO413.out BK418.out (by decide)) (fun _ hk => hk.2) (.slice Ao54 t411.length co54)) (fun _ hk => hk.2) (.slice Ao59 t414.length co59)) (fun _ h_ => h_.1))))) (Kd.R_lt (by refine lr_ ?_; exact (Kd.R_mono (Kd.R_far (p := ⟨gb418, 1, none⟩) (Kd.R_far (p := ⟨gb418, 0, none⟩) (Kd.R_types HO416.out BK418.out (by decide)) (fun _ hk => hk.2) (.slice Ao54 t411.length co54)) (fun _ hk => hk.2) (.slice Ao59 t414.length co59)) (fun _ h_ => h_.1))))) (below_size (dn_ HB.out))); replace HO387 := Aside0.mk (Kd.R_mono (Kd.R_told (Kd.R_told (Kd.R_old (by refine lr_ ?_; exact (Kd.R_mono (Kd.R_far (p := ⟨gb418, 1, none⟩) (Kd.R_far (p := ⟨gb418, 0, none⟩) (Kd.R_types HO387.out BK418.out (by decide)) (fun _ hk => hk.2) (.slice Ao54 t411.length co54)) (fun _ hk => hk.2) (.slice Ao59 t414.length co59)) (fun _ h_ => h_.1))) hb) (Kd.R_base ho0)) (Kd.R_base ho1)) (fun _ h_ => h_.1)); replace HO391 := Aside0.mk (Kd.R_mono (Kd.R_told (Kd.R_told (Kd.R_old (by refine lr_ ?_; exact (Kd.R_mono (Kd.R_far (p := ⟨gb418, 1, none⟩) (Kd.R_far (p := ⟨gb418, 0, none⟩) (Kd.R_types HO391.out BK418.out (by decide)) (fun _ hk => hk.2) (.slice Ao54 t411.length co54)) (fun _ hk => hk.2) (.slice Ao59 t414.length co59)) (fun _ h_ => h_.1))) hb) (Kd.R_base ho0)) (Kd.R_base ho1)) (fun _ h_ => h_.1)); replace HO413 := Aside0.mk (Kd.R_mono (Kd.R_told (Kd.R_told (Kd.R_old (by refine lr_ ?_; exact (Kd.R_mono (Kd.R_far (p := ⟨gb418, 1, none⟩) (Kd.R_far (p := ⟨gb418, 0, none⟩) (Kd.R_types HO413.out BK418.out (by decide)) (fun _ hk => hk.2) (.slice Ao54 t411.length co54)) (fun _ hk => hk.2) (.slice Ao59 t414.length co59)) (fun _ h_ => h_.1))) hb) (Kd.R_base ho0)) (Kd.R_base ho1)) (fun _ h_ => h_.1)); replace HO416 := Aside0.mk (Kd.R_mono (Kd.R_told (Kd.R_told (Kd.R_old (by refine lr_ ?_; exact (Kd.R_mono (Kd.R_far (p := ⟨gb418, 1, none⟩) (Kd.R_far (p := ⟨gb418, 0, none⟩) (Kd.R_types HO416.out BK418.out (by decide)) (fun _ hk => hk.2) (.slice Ao54 t411.length co54)) (fun _ hk => hk.2) (.slice Ao59 t414.length co59)) (fun _ h_ => h_.1))) hb) (Kd.R_base ho0)) (Kd.R_base ho1)) (fun _ h_ => h_.1)); replace BK382 := Aside0.mk (blk_below (g := gb382) (o := .cells #[.slice A0_0 l0_0.length c0_0, .slice A0_1 l0_1.length c0_1] 40 (0, 0)) (by refine lk_ ?_; refine blk_far ?_ NB382_418.out _; refine lk_ ?_; refine blk_far ?_ NB382_418.out _; (with_reducible repeat (first | refine blk_drewN ?_ _ | refine blk_drew ?_ | refine blk_alloc ?_ _)); exact BK382.out) hb); replace BK383 := Aside0.mk (blk_below (g := gb383) (o := .cells #[.slice A2_0 l2_0.length c2_0, .slice A2_1 l2_1.length c2_1] 40 (0, 0)) (by refine lk_ ?_; refine blk_far ?_ NB383_418.out _; refine lk_ ?_; refine blk_far ?_ NB383_418.out _; (with_reducible repeat (first | refine blk_drewN ?_ _ | refine blk_drew ?_ | refine blk_alloc ?_ _)); exact BK383.out) hb); replace BK384 := Aside0.mk (blk_below (g := gb384) (o := .cells #[.slice A5_0 l5_0.length c5_0, .slice A5_1 l5_1.length c5_1] 40 (0, 0)) (by refine lk_ ?_; refine blk_far ?_ NB384_418.out _; refine lk_ ?_; refine blk_far ?_ NB384_418.out _; (with_reducible repeat (first | refine blk_drewN ?_ _ | refine blk_drew ?_ | refine blk_alloc ?_ _)); exact BK384.out) hb); replace BK418 := Aside0.mk (blk_below (g := gb418) (o := .cells #[.slice Ao54 t411.length co54, .slice Ao59 t414.length co59] 40 (0, 0)) (by refine lk_ ?_; refine blk_put (cs := #[.slice Ao54 t411.length co54, .slice none 0 0]) ?_ 1 _ rfl; refine lk_ ?_; refine blk_put (cs := #[.slice none 0 0, .slice none 0 0]) ?_ 0 _ rfl; (with_reducible repeat (first | refine blk_drewN ?_ _ | refine blk_drew ?_ | refine blk_alloc ?_ _)); exact BK418.out) hb); replace HB := bs_ HB hb; (try clear hb); (try clear ho0)) | ((with_reducible refine gate_dst (N := 41) rfl ?_); (try (refine gate_guard (by rfl) ?_; dsimp only)); refine bx_ 41 #[.slice none 0 0, .slice none 0 0] 40 ?_; intro gb426 hg w62 hbox hb; have BK426 := Aside0.mk (hbox); have GW426 := gw_ HB hg; have GE426 := GW426; have NB382_426 := nl_ BK382 hg; have NB426_382 := nr_ BK382 hg; have NB383_426 := nl_ BK383 hg; have NB426_383 := nr_ BK383 hg; have NB384_426 := nl_ BK384 hg; have NB426_384 := nr_ BK384 hg; have NB418_426 := nl_ BK418 hg; have NB426_418 := nr_ BK418 hg; replace HO387 := rb_ HO387 hb; replace HO391 := rb_ HO391 hb; replace HO413 := rb_ HO413 hb; replace HO416 := rb_ HO416 hb; replace HO421 := rb_ HO421 hb; replace HO424 := rb_ HO424 hb; replace BK382 := kb_ BK382 hb; replace BK383 := kb_ BK383 hb; replace BK384 := kb_ BK384 hb; replace BK418 := kb_ BK418 hb; replace HB := bs_ HB hb; clear hb hbox hg; obtain ⟨Ao63, co63, eo63⟩ := Kd.R_slice HO421.out; subst eo63; have hnb64 := NB426_382.out; have hnc64 := NB382_426.out; have hnb65 := NB426_383.out; have hnc65 := NB383_426.out; have hnb66 := NB426_384.out; have hnc66 := NB384_426.out; have hnb67 := NB426_418.out; have hnc67 := NB418_426.out; obtain ⟨hcz68_0, hcz68_1, hfz68_0, hfz68_1⟩ := cf2_ BK426; obtain ⟨Ao69, co69, eo69⟩ := Kd.R_slice HO424.out; subst eo69))
 (try simp only [Act.put, List.setIfInBounds_toArray, List.set_cons_zero, List.set_cons_succ])
 go_cut [256] from 256 to 256 (fun v256 wc => ∃ (kq : Nat) (x256_24 : Bool), v256 = .bool x256_24 ∧ Aside0 (laws_FnHousesBuiltOfAll.j0 kq a1 a3 a4 a6 a7 t385 t388 t393 t397 t398 t399 t403 t407 t417 x256_24 l0_0 l0_1 l2_0 l2_1 l5_0 l5_1 t411 t414 = some true) ∧ Aside0 (kq ≤ k) ∧ Aside0 (Kd.R (Kd.int .i64) 3 wc w.heap.size (fun k_ => some k_ ≠ ((.slice Ao54 t411.length co54) : Value).ownBlock ∧ some k_ ≠ ((.slice Ao59 t414.length co59) : Value).ownBlock ∧ some k_ ≠ ((.slice Ao63 t419.length co63) : Value).ownBlock ∧ some k_ ≠ ((.slice Ao69 t422.length co69) : Value).ownBlock) v386 t385) ∧ Aside0 (Kd.R (Kd.int .i64) 3 wc w.heap.size (fun k_ => some k_ ≠ (v386 : Value).ownBlock ∧ some k_ ≠ ((.slice Ao59 t414.length co59) : Value).ownBlock ∧ some k_ ≠ ((.slice Ao63 t419.length co63) : Value).ownBlock ∧ some k_ ≠ ((.slice Ao69 t422.length co69) : Value).ownBlock) (.slice Ao54 t411.length co54) t411) ∧ Aside0 (Kd.R (Kd.int .i64) 3 wc w.heap.size (fun k_ => some k_ ≠ (v386 : Value).ownBlock ∧ some k_ ≠ ((.slice Ao54 t411.length co54) : Value).ownBlock ∧ some k_ ≠ ((.slice Ao63 t419.length co63) : Value).ownBlock ∧ some k_ ≠ ((.slice Ao69 t422.length co69) : Value).ownBlock) (.slice Ao59 t414.length co59) t414) ∧ Aside0 (Kd.R (Kd.int .i64) 3 wc w.heap.size (fun k_ => some k_ ≠ (v386 : Value).ownBlock ∧ some k_ ≠ ((.slice Ao54 t411.length co54) : Value).ownBlock ∧ some k_ ≠ ((.slice Ao59 t414.length co59) : Value).ownBlock ∧ some k_ ≠ ((.slice Ao69 t422.length co69) : Value).ownBlock) (.slice Ao63 t419.length co63) t419) ∧ Aside0 (Kd.R (Kd.int .i64) 3 wc w.heap.size (fun k_ => some k_ ≠ (v386 : Value).ownBlock ∧ some k_ ≠ ((.slice Ao54 t411.length co54) : Value).ownBlock ∧ some k_ ≠ ((.slice Ao59 t414.length co59) : Value).ownBlock ∧ some k_ ≠ ((.slice Ao63 t419.length co63) : Value).ownBlock) (.slice Ao69 t422.length co69) t422) ∧ Aside0 (wc.heap[gb382]? = some (.cells #[(.slice A0_0 l0_0.length c0_0), (.slice A0_1 l0_1.length c0_1)] 40 (0, 0))) ∧ Aside0 (wc.heap[gb383]? = some (.cells #[(.slice A2_0 l2_0.length c2_0), (.slice A2_1 l2_1.length c2_1)] 40 (0, 0))) ∧ Aside0 (wc.heap[gb384]? = some (.cells #[(.slice A5_0 l5_0.length c5_0), (.slice A5_1 l5_1.length c5_1)] 40 (0, 0))) ∧ Aside0 (wc.heap[gb418]? = some (.cells #[(.slice Ao54 t411.length co54), (.slice Ao59 t414.length co59)] 40 (0, 0))) ∧ Aside0 (wc.heap[gb426]? = some (.cells #[(.slice Ao63 t419.length co63), (.slice Ao69 t422.length co69)] 40 (0, 0))) ∧ Aside0 (Below w.heap.size w wc))
 case first =>
  as_aux_lemma =>
   have H := HC25.out
   clear HC25
   by_cases c70 : (t388 != t392) = true
   ·rw [if_pos c70] at H
    exact absurd H laws_FnHousesBuiltOfAll.j0_no
   rw [if_neg c70] at H
   have c70b0 : (t388 != t392) = false := by simpa using c70
   (try (have c70b1 : decide (t388 = t392) = true := by simpa using c70))
   (try (have c70b2 : (t388 == t392) = true := by simpa using c70))
   clear c70
   replace H := Option.bind_eq_some_iff.mp H
   obtain ⟨t427, A730, H⟩ := H
   try dsimp only at H
   have A73 := Aside0.mk A730
   clear A730
   by_cases c74 : t427 = true
   ·subst c74
    rw [if_pos rfl] at H
    by_cases c75 : (t394 != t396) = true
    ·rw [if_pos c75] at H
     exact absurd H laws_FnHousesBuiltOfAll.j0_no
    rw [if_neg c75] at H
    have c75b0 : (t394 != t396) = false := by simpa using c75
    (try (have c75b1 : decide (t394 = t396) = true := by simpa using c75))
    (try (have c75b2 : (t394 == t396) = true := by simpa using c75))
    clear c75
    by_cases c80 : t393 = t395
    ·rw [if_pos c80] at H
     have c80b0 : (t393 == t395) = true := beq_iff_eq.mpr c80
     have c80b1 : (t393 != t395) = false := bne_eq_false_iff_eq.mpr c80
     clear c80
     by_cases c81 : (t399 != t402) = true
     ·rw [if_pos c81] at H
      exact absurd H laws_FnHousesBuiltOfAll.j0_no
     rw [if_neg c81] at H
     have c81b0 : (t399 != t402) = false := by simpa using c81
     (try (have c81b1 : decide (t399 = t402) = true := by simpa using c81))
     (try (have c81b2 : (t399 == t402) = true := by simpa using c81))
     clear c81
     by_cases c86 : t397 = t400
     ·rw [if_pos c86] at H
      have c86b0 : (t397 == t400) = true := beq_iff_eq.mpr c86
      have c86b1 : (t397 != t400) = false := bne_eq_false_iff_eq.mpr c86
      clear c86
      by_cases c87 : t398 = t401
      ·rw [if_pos c87] at H
       have c87b0 : (t398 == t401) = true := beq_iff_eq.mpr c87
       have c87b1 : (t398 != t401) = false := bne_eq_false_iff_eq.mpr c87
       clear c87
       by_cases c88 : (t404 != t406) = true
       ·rw [if_pos c88] at H
        exact absurd H laws_FnHousesBuiltOfAll.j0_no
       rw [if_neg c88] at H
       have c88b0 : (t404 != t406) = false := by simpa using c88
       (try (have c88b1 : decide (t404 = t406) = true := by simpa using c88))
       (try (have c88b2 : (t404 == t406) = true := by simpa using c88))
       clear c88
       by_cases c93 : t403 = t405
       ·rw [if_pos c93] at H
        have c93b0 : (t403 == t405) = true := beq_iff_eq.mpr c93
        have c93b1 : (t403 != t405) = false := bne_eq_false_iff_eq.mpr c93
        clear c93
        by_cases c94 : (t408 != t410) = true
        ·rw [if_pos c94] at H
         exact absurd H laws_FnHousesBuiltOfAll.j0_no
        rw [if_neg c94] at H
        have c94b0 : (t408 != t410) = false := by simpa using c94
        (try (have c94b1 : decide (t408 = t410) = true := by simpa using c94))
        (try (have c94b2 : (t408 == t410) = true := by simpa using c94))
        clear c94
        by_cases c99 : t407.toList = t409.toList
        ·rw [if_pos c99] at H
         have c99b0 : (t407.toList == t409.toList) = true := beq_iff_eq.mpr c99
         have c99b1 : (t407.toList != t409.toList) = false := bne_eq_false_iff_eq.mpr c99
         clear c99
         by_cases c100 : (t417 != t425) = true
         ·rw [if_pos c100] at H
          exact absurd H laws_FnHousesBuiltOfAll.j0_no
         rw [if_neg c100] at H
         have c100b0 : (t417 != t425) = false := by simpa using c100
         (try (have c100b1 : decide (t417 = t425) = true := by simpa using c100))
         (try (have c100b2 : (t417 == t425) = true := by simpa using c100))
         clear c100
         replace H := Option.bind_eq_some_iff.mp H
         obtain ⟨t428, A1050, H⟩ := H
         try dsimp only at H
         have A105 := Aside0.mk A1050
         clear A1050
         by_cases c106 : t428 = true
         ·subst c106
          rw [if_pos rfl] at H
          by_cases c107 : (t394 != t388) = true
          ·rw [if_pos c107] at H
           exact absurd H laws_FnHousesBuiltOfAll.j0_no
          rw [if_neg c107] at H
          have c107b0 : (t394 != t388) = false := by simpa using c107
          (try (have c107b1 : decide (t394 = t388) = true := by simpa using c107))
          (try (have c107b2 : (t394 == t388) = true := by simpa using c107))
          clear c107
          replace H := Option.bind_eq_some_iff.mp H
          obtain ⟨t429, A1130, H⟩ := H
          try dsimp only at H
          have A113 := Aside0.mk A1130
          clear A1130
          by_cases c114 : (t399 != t429) = true
          ·rw [if_pos c114] at H
           exact absurd H laws_FnHousesBuiltOfAll.j0_no
          rw [if_neg c114] at H
          have c114b0 : (t399 != t429) = false := by simpa using c114
          (try (have c114b1 : decide (t399 = t429) = true := by simpa using c114))
          (try (have c114b2 : (t399 == t429) = true := by simpa using c114))
          clear c114
          replace H := Option.bind_eq_some_iff.mp H
          obtain ⟨t430, A1210, H⟩ := H
          try dsimp only at H
          have A121 := Aside0.mk A1210
          clear A1210
          replace H := Option.bind_eq_some_iff.mp H
          obtain ⟨t431, A1220, H⟩ := H
          try dsimp only at H
          have A122 := Aside0.mk A1220
          clear A1220
          by_cases c123 : (t430 != t431) = true
          ·rw [if_pos c123] at H
           exact absurd H laws_FnHousesBuiltOfAll.j0_no
          rw [if_neg c123] at H
          have c123b0 : (t430 != t431) = false := by simpa using c123
          (try (have c123b1 : decide (t430 = t431) = true := by simpa using c123))
          (try (have c123b2 : (t430 == t431) = true := by simpa using c123))
          clear c123
          by_cases c132 : (t404 != t399) = true
          ·rw [if_pos c132] at H
           exact absurd H laws_FnHousesBuiltOfAll.j0_no
          rw [if_neg c132] at H
          have c132b0 : (t404 != t399) = false := by simpa using c132
          (try (have c132b1 : decide (t404 = t399) = true := by simpa using c132))
          (try (have c132b2 : (t404 == t399) = true := by simpa using c132))
          clear c132
          by_cases c141 : (t408 != t399) = true
          ·rw [if_pos c141] at H
           exact absurd H laws_FnHousesBuiltOfAll.j0_no
          rw [if_neg c141] at H
          have c141b0 : (t408 != t399) = false := by simpa using c141
          (try (have c141b1 : decide (t408 = t399) = true := by simpa using c141))
          (try (have c141b2 : (t408 == t399) = true := by simpa using c141))
          clear c141
          by_cases c150 : t388 = true
          ·subst c150
           rw [if_pos rfl] at H
           by_cases c151 : t399 = true
           ·subst c151
            rw [if_pos rfl] at H
            have H' := Aside0.mk H
            clear H
            try go_wp2
            have n0_ : Aside0 (Kd.R (Kd.int .i64) 3 ((w62.setCell ⟨gb426, 0, none⟩ (.slice Ao63 t419.length co63)).setCell ⟨gb426, 1, none⟩ (.slice Ao69 t422.length co69)) w.heap.size (fun k_ => some k_ ≠ (v390 : Value).ownBlock ∧ some k_ ≠ (.slice Ao54 t411.length co54 : Value).ownBlock ∧ some k_ ≠ (.slice Ao59 t414.length co59 : Value).ownBlock ∧ some k_ ≠ (.slice Ao63 t419.length co63 : Value).ownBlock ∧ some k_ ≠ (.slice Ao69 t422.length co69 : Value).ownBlock) v386 t385) := ⟨by refine lr_ ?_; exact Kd.R_mono (Kd.R_far (p := ⟨gb426, 1, none⟩) (Kd.R_far (p := ⟨gb426, 0, none⟩) (Kd.R_types HO387.out BK426.out (by decide)) (fun _ hk => hk.2) (.slice Ao63 t419.length co63)) (fun _ hk => hk.2) (.slice Ao69 t422.length co69)) (fun _ hk => ⟨hk.1.1.1.1.1.2, ⟨hk.1.1.1.1.2, ⟨hk.1.1.1.2, ⟨hk.1.1.2, hk.1.2⟩⟩⟩⟩)⟩
            have n1_ : Aside0 (Kd.R (Kd.int .i64) 3 ((w62.setCell ⟨gb426, 0, none⟩ (.slice Ao63 t419.length co63)).setCell ⟨gb426, 1, none⟩ (.slice Ao69 t422.length co69)) w.heap.size (fun k_ => some k_ ≠ (v386 : Value).ownBlock ∧ some k_ ≠ (.slice Ao54 t411.length co54 : Value).ownBlock ∧ some k_ ≠ (.slice Ao59 t414.length co59 : Value).ownBlock ∧ some k_ ≠ (.slice Ao63 t419.length co63 : Value).ownBlock ∧ some k_ ≠ (.slice Ao69 t422.length co69 : Value).ownBlock) v390 t389) := ⟨by refine lr_ ?_; exact Kd.R_mono (Kd.R_far (p := ⟨gb426, 1, none⟩) (Kd.R_far (p := ⟨gb426, 0, none⟩) (Kd.R_types HO391.out BK426.out (by decide)) (fun _ hk => hk.2) (.slice Ao63 t419.length co63)) (fun _ hk => hk.2) (.slice Ao69 t422.length co69)) (fun _ hk => ⟨hk.1.1.1.1.1.2, ⟨hk.1.1.1.1.2, ⟨hk.1.1.1.2, ⟨hk.1.1.2, hk.1.2⟩⟩⟩⟩)⟩
            have n2_ : Aside0 (Kd.R (Kd.int .i64) 3 ((w62.setCell ⟨gb426, 0, none⟩ (.slice Ao63 t419.length co63)).setCell ⟨gb426, 1, none⟩ (.slice Ao69 t422.length co69)) w.heap.size (fun k_ => some k_ ≠ (v386 : Value).ownBlock ∧ some k_ ≠ (v390 : Value).ownBlock ∧ some k_ ≠ (.slice Ao59 t414.length co59 : Value).ownBlock ∧ some k_ ≠ (.slice Ao63 t419.length co63 : Value).ownBlock ∧ some k_ ≠ (.slice Ao69 t422.length co69 : Value).ownBlock) (.slice Ao54 t411.length co54) t411) := ⟨by refine lr_ ?_; exact Kd.R_mono (Kd.R_far (p := ⟨gb426, 1, none⟩) (Kd.R_far (p := ⟨gb426, 0, none⟩) (Kd.R_types HO413.out BK426.out (by decide)) (fun _ hk => hk.2) (.slice Ao63 t419.length co63)) (fun _ hk => hk.2) (.slice Ao69 t422.length co69)) (fun _ hk => ⟨hk.1.1.1.1.2, ⟨hk.1.1.1.2, ⟨hk.1.1.1.1.1, ⟨hk.1.1.2, hk.1.2⟩⟩⟩⟩)⟩
            have n3_ : Aside0 (Kd.R (Kd.int .i64) 3 ((w62.setCell ⟨gb426, 0, none⟩ (.slice Ao63 t419.length co63)).setCell ⟨gb426, 1, none⟩ (.slice Ao69 t422.length co69)) w.heap.size (fun k_ => some k_ ≠ (v386 : Value).ownBlock ∧ some k_ ≠ (v390 : Value).ownBlock ∧ some k_ ≠ (.slice Ao54 t411.length co54 : Value).ownBlock ∧ some k_ ≠ (.slice Ao63 t419.length co63 : Value).ownBlock ∧ some k_ ≠ (.slice Ao69 t422.length co69 : Value).ownBlock) (.slice Ao59 t414.length co59) t414) := ⟨by refine lr_ ?_; exact Kd.R_mono (Kd.R_far (p := ⟨gb426, 1, none⟩) (Kd.R_far (p := ⟨gb426, 0, none⟩) (Kd.R_types HO416.out BK426.out (by decide)) (fun _ hk => hk.2) (.slice Ao63 t419.length co63)) (fun _ hk => hk.2) (.slice Ao69 t422.length co69)) (fun _ hk => ⟨hk.1.1.1.1.2, ⟨hk.1.1.1.2, ⟨hk.1.1.1.1.1, ⟨hk.1.1.2, hk.1.2⟩⟩⟩⟩)⟩
            have n4_ : Aside0 (Kd.R (Kd.int .i64) 3 ((w62.setCell ⟨gb426, 0, none⟩ (.slice Ao63 t419.length co63)).setCell ⟨gb426, 1, none⟩ (.slice Ao69 t422.length co69)) w.heap.size (fun k_ => some k_ ≠ (v386 : Value).ownBlock ∧ some k_ ≠ (v390 : Value).ownBlock ∧ some k_ ≠ (.slice Ao54 t411.length co54 : Value).ownBlock ∧ some k_ ≠ (.slice Ao59 t414.length co59 : Value).ownBlock ∧ some k_ ≠ (.slice Ao69 t422.length co69 : Value).ownBlock) (.slice Ao63 t419.length co63) t419) := ⟨by refine lr_ ?_; exact Kd.R_mono (Kd.R_far (p := ⟨gb426, 1, none⟩) (Kd.R_far (p := ⟨gb426, 0, none⟩) (Kd.R_types HO421.out BK426.out (by decide)) (fun _ hk => hk.2) (.slice Ao63 t419.length co63)) (fun _ hk => hk.2) (.slice Ao69 t422.length co69)) (fun _ hk => ⟨hk.1.1.1.1.2, ⟨hk.1.1.1.2, ⟨hk.1.1.2, ⟨hk.1.2, hk.1.1.1.1.1⟩⟩⟩⟩)⟩
            have n5_ : Aside0 (Kd.R (Kd.int .i64) 3 ((w62.setCell ⟨gb426, 0, none⟩ (.slice Ao63 t419.length co63)).setCell ⟨gb426, 1, none⟩ (.slice Ao69 t422.length co69)) w.heap.size (fun k_ => some k_ ≠ (v386 : Value).ownBlock ∧ some k_ ≠ (v390 : Value).ownBlock ∧ some k_ ≠ (.slice Ao54 t411.length co54 : Value).ownBlock ∧ some k_ ≠ (.slice Ao59 t414.length co59 : Value).ownBlock ∧ some k_ ≠ (.slice Ao63 t419.length co63 : Value).ownBlock) (.slice Ao69 t422.length co69) t422) := ⟨by refine lr_ ?_; exact Kd.R_mono (Kd.R_far (p := ⟨gb426, 1, none⟩) (Kd.R_far (p := ⟨gb426, 0, none⟩) (Kd.R_types HO424.out BK426.out (by decide)) (fun _ hk => hk.2) (.slice Ao63 t419.length co63)) (fun _ hk => hk.2) (.slice Ao69 t422.length co69)) (fun _ hk => ⟨hk.1.1.1.1.2, ⟨hk.1.1.1.2, ⟨hk.1.1.2, ⟨hk.1.2, hk.1.1.1.1.1⟩⟩⟩⟩)⟩
            have n6_ : Aside0 (((w62.setCell ⟨gb426, 0, none⟩ (.slice Ao63 t419.length co63)).setCell ⟨gb426, 1, none⟩ (.slice Ao69 t422.length co69)).heap[gb382]? = some (.cells #[.slice A0_0 l0_0.length c0_0, .slice A0_1 l0_1.length c0_1] 40 (0, 0))) := ⟨by refine lk_ ?_; refine blk_far ?_ NB382_426.out _; refine lk_ ?_; refine blk_far ?_ NB382_426.out _; (with_reducible repeat (first | refine blk_drewN ?_ _ | refine blk_drew ?_ | refine blk_alloc ?_ _)); exact BK382.out⟩
            have n7_ : Aside0 (((w62.setCell ⟨gb426, 0, none⟩ (.slice Ao63 t419.length co63)).setCell ⟨gb426, 1, none⟩ (.slice Ao69 t422.length co69)).heap[gb383]? = some (.cells #[.slice A2_0 l2_0.length c2_0, .slice A2_1 l2_1.length c2_1] 40 (0, 0))) := ⟨by refine lk_ ?_; refine blk_far ?_ NB383_426.out _; refine lk_ ?_; refine blk_far ?_ NB383_426.out _; (with_reducible repeat (first | refine blk_drewN ?_ _ | refine blk_drew ?_ | refine blk_alloc ?_ _)); exact BK383.out⟩
            have n8_ : Aside0 (((w62.setCell ⟨gb426, 0, none⟩ (.slice Ao63 t419.length co63)).setCell ⟨gb426, 1, none⟩ (.slice Ao69 t422.length co69)).heap[gb384]? = some (.cells #[.slice A5_0 l5_0.length c5_0, .slice A5_1 l5_1.length c5_1] 40 (0, 0))) := ⟨by refine lk_ ?_; refine blk_far ?_ NB384_426.out _; refine lk_ ?_; refine blk_far ?_ NB384_426.out _; (with_reducible repeat (first | refine blk_drewN ?_ _ | refine blk_drew ?_ | refine blk_alloc ?_ _)); exact BK384.out⟩
            have n9_ : Aside0 (((w62.setCell ⟨gb426, 0, none⟩ (.slice Ao63 t419.length co63)).setCell ⟨gb426, 1, none⟩ (.slice Ao69 t422.length co69)).heap[gb418]? = some (.cells #[.slice Ao54 t411.length co54, .slice Ao59 t414.length co59] 40 (0, 0))) := ⟨by refine lk_ ?_; refine blk_far ?_ NB418_426.out _; refine lk_ ?_; refine blk_far ?_ NB418_426.out _; (with_reducible repeat (first | refine blk_drewN ?_ _ | refine blk_drew ?_ | refine blk_alloc ?_ _)); exact BK418.out⟩
            have n10_ : Aside0 (((w62.setCell ⟨gb426, 0, none⟩ (.slice Ao63 t419.length co63)).setCell ⟨gb426, 1, none⟩ (.slice Ao69 t422.length co69)).heap[gb426]? = some (.cells #[.slice Ao63 t419.length co63, .slice Ao69 t422.length co69] 40 (0, 0))) := ⟨by refine lk_ ?_; refine blk_put (cs := #[.slice Ao63 t419.length co63, .slice none 0 0]) ?_ 1 _ rfl; refine lk_ ?_; refine blk_put (cs := #[.slice none 0 0, .slice none 0 0]) ?_ 0 _ rfl; (with_reducible repeat (first | refine blk_drewN ?_ _ | refine blk_drew ?_ | refine blk_alloc ?_ _)); exact BK426.out⟩
            have n11_ : Aside0 (Below w.heap.size w ((w62.setCell ⟨gb426, 0, none⟩ (.slice Ao63 t419.length co63)).setCell ⟨gb426, 1, none⟩ (.slice Ao69 t422.length co69))) := ⟨dn_ HB.out⟩
            (try clear HO387)
            (try clear HO391)
            (try clear HO413)
            (try clear HO416)
            (try clear HO421)
            (try clear HO424)
            (try clear BK382)
            (try clear BK383)
            (try clear BK384)
            (try clear BK418)
            (try clear BK426)
            (try clear HB)
            generalize ((w62.setCell ⟨gb426, 0, none⟩ (.slice Ao63 t419.length co63)).setCell ⟨gb426, 1, none⟩ (.slice Ao69 t422.length co69)) = w152 at n0_ n1_ n2_ n3_ n4_ n5_ n6_ n7_ n8_ n9_ n10_ n11_ ⊢
            have HO387 := n0_
            have HO391 := n1_
            have HO413 := n2_
            have HO416 := n3_
            have HO421 := n4_
            have HO424 := n5_
            have BK382 := n6_
            have BK383 := n7_
            have BK384 := n8_
            have BK418 := n9_
            have BK426 := n10_
            have HB := n11_
            clear n0_ n1_ n2_ n3_ n4_ n5_ n6_ n7_ n8_ n9_ n10_ n11_
            replace HO387 := Aside0.mk (Kd.R_drew HO387.out)
            replace HO391 := Aside0.mk (Kd.R_drew HO391.out)
            replace HO413 := Aside0.mk (Kd.R_drew HO413.out)
            replace HO416 := Aside0.mk (Kd.R_drew HO416.out)
            replace HO421 := Aside0.mk (Kd.R_drew HO421.out)
            replace HO424 := Aside0.mk (Kd.R_drew HO424.out)
            replace BK382 := Aside0.mk (blk_drew BK382.out)
            replace BK383 := Aside0.mk (blk_drew BK383.out)
            replace BK384 := Aside0.mk (blk_drew BK384.out)
            replace BK418 := Aside0.mk (blk_drew BK418.out)
            replace BK426 := Aside0.mk (blk_drew BK426.out)
            replace HB := Aside0.mk (below_drew1 HB.out)
            obtain ⟨Ao154, co154, eo154⟩ := Kd.R_slice HO387.out
            (first | subst eo154 | (injection eo154 with f1_ f2_ f3_; have f4_ := f1_.symm; have f5_ := f3_.symm; clear f1_ f2_ f3_; subst f4_; subst f5_))
            obtain ⟨Ao155, co155, eo155⟩ := Kd.R_slice HO391.out
            (first | subst eo155 | (injection eo155 with f1_ f2_ f3_; have f4_ := f1_.symm; have f5_ := f3_.symm; clear f1_ f2_ f3_; subst f4_; subst f5_))
            as_aux_lemma =>
             refine start_ (n := 111) (S := fun w' => w'.cell? ⟨gb418, 0, none⟩ = some (.slice Ao54 t411.length co54) ∧ w'.cell? ⟨gb418, 1, none⟩ = some (.slice Ao59 t414.length co59) ∧ w'.cell? ⟨gb426, 0, none⟩ = some (.slice Ao63 t419.length co63) ∧ w'.cell? ⟨gb426, 1, none⟩ = some (.slice Ao69 t422.length co69) ∧ w'.cell? ⟨gb382, 0, none⟩ = some (.slice A0_0 l0_0.length c0_0) ∧ w'.cell? ⟨gb382, 1, none⟩ = some (.slice A0_1 l0_1.length c0_1)) (ds := []) (bs 111 0) (by kernel_rfl) rfl (by kernel_rfl) ⟨(blk_cell BK418.out 0).trans rfl, (blk_cell BK418.out 1).trans rfl, (blk_cell BK426.out 0).trans rfl, (blk_cell BK426.out 1).trans rfl, (blk_cell BK382.out 0).trans rfl, (blk_cell BK382.out 1).trans rfl⟩ (fun hHeld => ?_); refine with_tabW laws_FnHousesBuiltOfAll.tab15 laws_FnHousesBuiltOfAll.bits15 (fun HT_ HW_ => ?_)
             generalize w152.drew = w153 at HO387 HO391 HO413 HO416 HO421 HO424 BK382 BK383 BK384 BK418 BK426 HB hHeld ⊢
             refine sL_ 111 [(0, 146, 1), (1, 147, 3), (2, 148, 7), (3, 149, 15), (4, 150, 31), (5, 151, 63), (6, 152, 127), (7, 153, 255), (8, 154, 511), (9, 155, 1023), (10, 156, 2047), (11, 157, 4095), (12, 158, 8191), (13, 159, 16383), (14, 160, 32767), (15, 161, 65535), (16, 162, 131071), (17, 163, 262143), (18, 164, 524287), (19, 165, 1048575), (20, 166, 2097151), (21, 167, 4194303), (22, 168, 8388607), (23, 169, 16777215), (24, 170, 33554431), (25, 171, 67108863), (26, 172, 134217727), (27, 173, 268435455), (28, 174, 536870911), (29, 175, 1073741823), (30, 176, 2147483647), (31, 177, 4294967295), (32, 178, 8589934591), (33, 179, 17179869183), (34, 180, 34359738367), (35, 181, 68719476735), (36, 182, 137438953471), (37, 183, 274877906943), (38, 184, 549755813887), (39, 185, 1099511627775), (40, 186, 2199023255551), (41, 187, 4398046511103), (42, 188, 8796093022207), (43, 189, 17592186044415), (44, 190, 35184372088831), (45, 191, 70368744177663), (46, 192, 140737488355327), (47, 193, 281474976710655), (48, 194, 562949953421311), (49, 195, 1125899906842623), (50, 196, 2251799813685247), (51, 197, 4503599627370495), (52, 198, 9007199254740991), (53, 199, 18014398509481983), (54, 200, 36028797018963967), (55, 201, 72057594037927935), (56, 202, 144115188075855871), (57, 203, 288230376151711743), (58, 204, 576460752303423487), (59, 205, 1152921504606846975), (60, 206, 2305843009213693951), (61, 207, 4611686018427387903), (62, 208, 9223372036854775807), (63, 209, 18446744073709551615), (64, 210, 36893488147419103231), (65, 211, 73786976294838206463), (66, 212, 147573952589676412927), (67, 213, 295147905179352825855), (68, 214, 590295810358705651711), (69, 215, 1180591620717411303423), (70, 216, 2361183241434822606847), (71, 217, 4722366482869645213695), (72, 218, 9444732965739290427391), (73, 219, 18889465931478580854783), (74, 220, 37778931862957161709567), (75, 221, 75557863725914323419135), (76, 222, 151115727451828646838271), (77, 223, 302231454903657293676543), (79, 225, 906694364710971881029631), (78, 224, 1208925819614629174706175), (80, 226, 2417851639229258349412351), (81, 227, 4835703278458516698824703), (82, 228, 9671406556917033397649407), (83, 229, 19342813113834066795298815), (84, 230, 38685626227668133590597631), (85, 231, 77371252455336267181195263), (86, 232, 154742504910672534362390527), (87, 233, 309485009821345068724781055), (88, 234, 618970019642690137449562111), (89, 235, 1237940039285380274899124223), (90, 236, 2475880078570760549798248447), (91, 237, 4951760157141521099596496895), (92, 238, 9903520314283042199192993791), (93, 239, 19807040628566084398385987583), (94, 240, 39614081257132168796771975167), (95, 241, 79228162514264337593543950335), (96, 242, 158456325028528675187087900671), (97, 243, 316912650057057350374175801343), (98, 244, 633825300114114700748351602687), (99, 245, 1267650600228229401496703205375), (100, 246, 2535301200456458802993406410751), (101, 247, 5070602400912917605986812821503), (102, 248, 10141204801825835211973625643007), (103, 249, 20282409603651670423947251286015), (104, 250, 40564819207303340847894502572031), (105, 251, 81129638414606681695789005144063), (106, 252, 162259276829213363391578010288127), (107, 253, 324518553658426726783156020576255), (108, 254, 649037107316853453566312041152511), (109, 255, 1298074214633706907132624082305023), (110, 256, 2596148429267413814265248164610047)] ?_
             iterate 6 (refine pI_ ?_)
             refine oI_ (fun K hK => ?_)
             refine gE_ Tryd.func71 #[.slice Ao154 t385.length co154, .slice Ao155 t389.length co155] ?_
             with_reducible refine (laws_wSame.calls k _ _ t385 _ _ t389 true _ ?side1 ?side2 ?side3 ?side4 A73.out).mono ?_
             (case side1 => exact cs_ (Kd.R_reads' HO387.out).2.2)
             (case side2 => exact (Kd.R_reads' HO387.out).2.1)
             (case side3 => exact cs_ (Kd.R_reads' HO391.out).2.2)
             (case side4 => exact (Kd.R_reads' HO391.out).2.1)
             rintro e w' ⟨rfl, ⟨nd, rfl⟩⟩
             refine ⟨_, rfl, ?_⟩
             refine hK.out _ _ ⟨(blk_cell BK418.out 0).trans rfl, (blk_cell BK418.out 1).trans rfl, (blk_cell BK426.out 0).trans rfl, (blk_cell BK426.out 1).trans rfl, (blk_cell BK382.out 0).trans rfl, (blk_cell BK382.out 1).trans rfl⟩ (fun hHeld => ?_)
             clear hK K
             refine nI_ ?_
             iterate 53 (refine pI_ ?_)
             refine tI6_ ?_
             refine tI6_ ?_
             refine oI_ (fun K hK => ?_)
             refine gE_ Tryd.func72 #[.agg #[.slice Ao54 t411.length co54, .slice Ao59 t414.length co59], .agg #[.slice Ao63 t419.length co63, .slice Ao69 t422.length co69]] ?_
             with_reducible refine (laws_wHouse.calls k _ _ t411 _ _ t414 _ _ t419 _ _ t422 true _ ?side1 ?side2 ?side3 ?side4 ?side5 ?side6 ?side7 ?side8 A105.out).mono ?_
             (case side1 => exact cs_ (Kd.R_reads' HO413.out).2.2)
             (case side2 => exact (Kd.R_reads' HO413.out).2.1)
             (case side3 => exact cs_ (Kd.R_reads' HO416.out).2.2)
             (case side4 => exact (Kd.R_reads' HO416.out).2.1)
             (case side5 => exact cs_ (Kd.R_reads' HO421.out).2.2)
             (case side6 => exact (Kd.R_reads' HO421.out).2.1)
             (case side7 => exact cs_ (Kd.R_reads' HO424.out).2.2)
             (case side8 => exact (Kd.R_reads' HO424.out).2.1)
             rintro e w156 ⟨rfl, hb⟩
             refine ⟨_, rfl, ?_⟩
             replace HO387 := rb_ HO387 hb
             replace HO391 := rb_ HO391 hb
             replace HO413 := rb_ HO413 hb
             replace HO416 := rb_ HO416 hb
             replace HO421 := rb_ HO421 hb
             replace HO424 := rb_ HO424 hb
             replace BK382 := kb_ BK382 hb
             replace BK383 := kb_ BK383 hb
             replace BK384 := kb_ BK384 hb
             replace BK418 := kb_ BK418 hb
             replace BK426 := kb_ BK426 hb
             replace HB := bs_ HB hb
             (try clear hb)
             (try clear hb2)
             (try clear hk)
             (try clear hi)
             refine hK.out _ _ ⟨(blk_cell BK418.out 0).trans rfl, (blk_cell BK418.out 1).trans rfl, (blk_cell BK426.out 0).trans rfl, (blk_cell BK426.out 1).trans rfl, (blk_cell BK382.out 0).trans rfl, (blk_cell BK382.out 1).trans rfl⟩ (fun hHeld => ?_)
             clear hK K
             refine nI_ ?_
             iterate 9 (refine pI_ ?_)
             refine tI6_ ?_
             refine oI_ (fun K hK => ?_)
             refine gE_ Tryd.func73 #[.agg #[.slice A0_0 l0_0.length c0_0, .slice A0_1 l0_1.length c0_1]] ?_
             with_reducible refine (impl_IsHouse.calls _ _ l0_0 _ _ l0_1 t429 _ ?side1 ?side2 ?side3 ?side4 A113.out).mono ?_
             (case side1 => exact cs_ (Kd.C_below HR0_0.out HB.out))
             (case side2 => exact HC0_0.out)
             (case side3 => exact cs_ (Kd.C_below HR0_1.out HB.out))
             (case side4 => exact HC0_1.out)
             rintro e w157 ⟨rfl, hb⟩
             refine ⟨_, rfl, ?_⟩
             replace HO387 := rb_ HO387 hb
             replace HO391 := rb_ HO391 hb
             replace HO413 := rb_ HO413 hb
             replace HO416 := rb_ HO416 hb
             replace HO421 := rb_ HO421 hb
             replace HO424 := rb_ HO424 hb
             replace BK382 := kb_ BK382 hb
             replace BK383 := kb_ BK383 hb
             replace BK384 := kb_ BK384 hb
             replace BK418 := kb_ BK418 hb
             replace BK426 := kb_ BK426 hb
             replace HB := bs_ HB hb
             (try clear hb)
             (try clear hb2)
             (try clear hk)
             (try clear hi)
             refine hK.out _ _ ⟨(blk_cell BK418.out 0).trans rfl, (blk_cell BK418.out 1).trans rfl, (blk_cell BK426.out 0).trans rfl, (blk_cell BK426.out 1).trans rfl, (blk_cell BK382.out 0).trans rfl, (blk_cell BK382.out 1).trans rfl⟩ (fun hHeld => ?_)
             clear hK K
             refine nI_ ?_
             iterate 3 (refine pI_ ?_)
             refine tI6_ ?_
             refine tI6_ ?_
             refine oI_ (fun K hK => ?_)
             refine gE_ Tryd.func73 #[.agg #[.slice A0_0 l0_0.length c0_0, .slice A0_1 l0_1.length c0_1]] ?_
             with_reducible refine (impl_IsHouse.calls _ _ l0_0 _ _ l0_1 t430 _ ?side1 ?side2 ?side3 ?side4 A121.out).mono ?_
             (case side1 => exact cs_ (Kd.C_below HR0_0.out HB.out))
             (case side2 => exact HC0_0.out)
             (case side3 => exact cs_ (Kd.C_below HR0_1.out HB.out))
             (case side4 => exact HC0_1.out)
             rintro e w158 ⟨rfl, hb⟩
             refine ⟨_, rfl, ?_⟩
             replace HO387 := rb_ HO387 hb
             replace HO391 := rb_ HO391 hb
             replace HO413 := rb_ HO413 hb
             replace HO416 := rb_ HO416 hb
             replace HO421 := rb_ HO421 hb
             replace HO424 := rb_ HO424 hb
             replace BK382 := kb_ BK382 hb
             replace BK383 := kb_ BK383 hb
             replace BK384 := kb_ BK384 hb
             replace BK418 := kb_ BK418 hb
             replace BK426 := kb_ BK426 hb
             replace HB := bs_ HB hb
             (try clear hb)
             (try clear hb2)
             (try clear hk)
             (try clear hi)
             refine hK.out _ _ ⟨(blk_cell BK418.out 0).trans rfl, (blk_cell BK418.out 1).trans rfl, (blk_cell BK426.out 0).trans rfl, (blk_cell BK426.out 1).trans rfl, (blk_cell BK382.out 0).trans rfl, (blk_cell BK382.out 1).trans rfl⟩ (fun hHeld => ?_)
             clear hK K
             refine nI_ ?_
             refine oI_ (fun K hK => ?_)
             refine gE_ Tryd.func74 #[.agg #[.slice A0_0 l0_0.length c0_0, .slice A0_1 l0_1.length c0_1]] ?_
             with_reducible refine (spec_IsHouse.calls k _ _ l0_0 _ _ l0_1 t431 _ ?side1 ?side2 ?side3 ?side4 A122.out).mono ?_
             (case side1 => exact cs_ (Kd.C_below HR0_0.out HB.out))
             (case side2 => exact HC0_0.out)
             (case side3 => exact cs_ (Kd.C_below HR0_1.out HB.out))
             (case side4 => exact HC0_1.out)
             rintro e w159 ⟨rfl, hb⟩
             refine ⟨_, rfl, ?_⟩
             replace HO387 := rb_ HO387 hb
             replace HO391 := rb_ HO391 hb
             replace HO413 := rb_ HO413 hb
             replace HO416 := rb_ HO416 hb
             replace HO421 := rb_ HO421 hb
             replace HO424 := rb_ HO424 hb
             replace BK382 := kb_ BK382 hb
             replace BK383 := kb_ BK383 hb
             replace BK384 := kb_ BK384 hb
             replace BK418 := kb_ BK418 hb
             replace BK426 := kb_ BK426 hb
             replace HB := bs_ HB hb
             (try clear hb)
             (try clear hb2)
             (try clear hk)
             (try clear hi)
             refine hK.out _ _ ⟨(blk_cell BK418.out 0).trans rfl, (blk_cell BK418.out 1).trans rfl, (blk_cell BK426.out 0).trans rfl, (blk_cell BK426.out 1).trans rfl, (blk_cell BK382.out 0).trans rfl, (blk_cell BK382.out 1).trans rfl⟩ (fun hHeld => ?_)
             clear hK K
             refine nI_ ?_
             iterate 24 (refine pI_ ?_)
             refine tI6_ ?_
             iterate 5 (refine pI_ ?_)
             refine dL_ (done_of HT_.out (by kernel_rfl)) ?_
             try go_wp2
             go_meet
             case rel => exact ⟨_, ((t417 != (decide ((l0_0.length : Int) > 1)))), (by first | rfl | (simp; done) | (simp [*]; done)), H', ⟨by first | omega | exact Nat.le_refl _⟩, ⟨by refine lr_ ?_; exact Kd.R_mono HO387.out (fun _ hk => ⟨hk.2.1, ⟨hk.2.2.1, ⟨hk.2.2.2.1, hk.2.2.2.2⟩⟩⟩)⟩, ⟨by refine lr_ ?_; exact Kd.R_mono HO413.out (fun _ hk => ⟨hk.1, ⟨hk.2.2.1, ⟨hk.2.2.2.1, hk.2.2.2.2⟩⟩⟩)⟩, ⟨by refine lr_ ?_; exact Kd.R_mono HO416.out (fun _ hk => ⟨hk.1, ⟨hk.2.2.1, ⟨hk.2.2.2.1, hk.2.2.2.2⟩⟩⟩)⟩, ⟨by refine lr_ ?_; exact Kd.R_mono HO421.out (fun _ hk => ⟨hk.1, ⟨hk.2.2.1, ⟨hk.2.2.2.1, hk.2.2.2.2⟩⟩⟩)⟩, ⟨by refine lr_ ?_; exact Kd.R_mono HO424.out (fun _ hk => ⟨hk.1, ⟨hk.2.2.1, ⟨hk.2.2.2.1, hk.2.2.2.2⟩⟩⟩)⟩, ⟨up_ BK382.out⟩, ⟨up_ BK383.out⟩, ⟨up_ BK384.out⟩, ⟨up_ BK418.out⟩, ⟨up_ BK426.out⟩, ⟨dn_ HB.out⟩⟩
           replace c151 := Bool.eq_false_iff.mpr c151
           subst c151
           rw [if_neg (show ¬ (false = true) by decide)] at H
           exact absurd H laws_FnHousesBuiltOfAll.j0_no
          replace c150 := Bool.eq_false_iff.mpr c150
          subst c150
          rw [if_neg (show ¬ (false = true) by decide)] at H
          by_cases c168 : t399 = true
          ·subst c168
           rw [if_pos rfl] at H
           have H' := Aside0.mk H
           clear H
           try go_wp2
           have n0_ : Aside0 (Kd.R (Kd.int .i64) 3 ((w62.setCell ⟨gb426, 0, none⟩ (.slice Ao63 t419.length co63)).setCell ⟨gb426, 1, none⟩ (.slice Ao69 t422.length co69)) w.heap.size (fun k_ => some k_ ≠ (v390 : Value).ownBlock ∧ some k_ ≠ (.slice Ao54 t411.length co54 : Value).ownBlock ∧ some k_ ≠ (.slice Ao59 t414.length co59 : Value).ownBlock ∧ some k_ ≠ (.slice Ao63 t419.length co63 : Value).ownBlock ∧ some k_ ≠ (.slice Ao69 t422.length co69 : Value).ownBlock) v386 t385) := ⟨by refine lr_ ?_; exact Kd.R_mono (Kd.R_far (p := ⟨gb426, 1, none⟩) (Kd.R_far (p := ⟨gb426, 0, none⟩) (Kd.R_types HO387.out BK426.out (by decide)) (fun _ hk => hk.2) (.slice Ao63 t419.length co63)) (fun _ hk => hk.2) (.slice Ao69 t422.length co69)) (fun _ hk => ⟨hk.1.1.1.1.1.2, ⟨hk.1.1.1.1.2, ⟨hk.1.1.1.2, ⟨hk.1.1.2, hk.1.2⟩⟩⟩⟩)⟩
           have n1_ : Aside0 (Kd.R (Kd.int .i64) 3 ((w62.setCell ⟨gb426, 0, none⟩ (.slice Ao63 t419.length co63)).setCell ⟨gb426, 1, none⟩ (.slice Ao69 t422.length co69)) w.heap.size (fun k_ => some k_ ≠ (v386 : Value).ownBlock ∧ some k_ ≠ (.slice Ao54 t411.length co54 : Value).ownBlock ∧ some k_ ≠ (.slice Ao59 t414.length co59 : Value).ownBlock ∧ some k_ ≠ (.slice Ao63 t419.length co63 : Value).ownBlock ∧ some k_ ≠ (.slice Ao69 t422.length co69 : Value).ownBlock) v390 t389) := ⟨by refine lr_ ?_; exact Kd.R_mono (Kd.R_far (p := ⟨gb426, 1, none⟩) (Kd.R_far (p := ⟨gb426, 0, none⟩) (Kd.R_types HO391.out BK426.out (by decide)) (fun _ hk => hk.2) (.slice Ao63 t419.length co63)) (fun _ hk => hk.2) (.slice Ao69 t422.length co69)) (fun _ hk => ⟨hk.1.1.1.1.1.2, ⟨hk.1.1.1.1.2, ⟨hk.1.1.1.2, ⟨hk.1.1.2, hk.1.2⟩⟩⟩⟩)⟩
           have n2_ : Aside0 (Kd.R (Kd.int .i64) 3 ((w62.setCell ⟨gb426, 0, none⟩ (.slice Ao63 t419.length co63)).setCell ⟨gb426, 1, none⟩ (.slice Ao69 t422.length co69)) w.heap.size (fun k_ => some k_ ≠ (v386 : Value).ownBlock ∧ some k_ ≠ (v390 : Value).ownBlock ∧ some k_ ≠ (.slice Ao59 t414.length co59 : Value).ownBlock ∧ some k_ ≠ (.slice Ao63 t419.length co63 : Value).ownBlock ∧ some k_ ≠ (.slice Ao69 t422.length co69 : Value).ownBlock) (.slice Ao54 t411.length co54) t411) := ⟨by refine lr_ ?_; exact Kd.R_mono (Kd.R_far (p := ⟨gb426, 1, none⟩) (Kd.R_far (p := ⟨gb426, 0, none⟩) (Kd.R_types HO413.out BK426.out (by decide)) (fun _ hk => hk.2) (.slice Ao63 t419.length co63)) (fun _ hk => hk.2) (.slice Ao69 t422.length co69)) (fun _ hk => ⟨hk.1.1.1.1.2, ⟨hk.1.1.1.2, ⟨hk.1.1.1.1.1, ⟨hk.1.1.2, hk.1.2⟩⟩⟩⟩)⟩
           have n3_ : Aside0 (Kd.R (Kd.int .i64) 3 ((w62.setCell ⟨gb426, 0, none⟩ (.slice Ao63 t419.length co63)).setCell ⟨gb426, 1, none⟩ (.slice Ao69 t422.length co69)) w.heap.size (fun k_ => some k_ ≠ (v386 : Value).ownBlock ∧ some k_ ≠ (v390 : Value).ownBlock ∧ some k_ ≠ (.slice Ao54 t411.length co54 : Value).ownBlock ∧ some k_ ≠ (.slice Ao63 t419.length co63 : Value).ownBlock ∧ some k_ ≠ (.slice Ao69 t422.length co69 : Value).ownBlock) (.slice Ao59 t414.length co59) t414) := ⟨by refine lr_ ?_; exact Kd.R_mono (Kd.R_far (p := ⟨gb426, 1, none⟩) (Kd.R_far (p := ⟨gb426, 0, none⟩) (Kd.R_types HO416.out BK426.out (by decide)) (fun _ hk => hk.2) (.slice Ao63 t419.length co63)) (fun _ hk => hk.2) (.slice Ao69 t422.length co69)) (fun _ hk => ⟨hk.1.1.1.1.2, ⟨hk.1.1.1.2, ⟨hk.1.1.1.1.1, ⟨hk.1.1.2, hk.1.2⟩⟩⟩⟩)⟩
           have n4_ : Aside0 (Kd.R (Kd.int .i64) 3 ((w62.setCell ⟨gb426, 0, none⟩ (.slice Ao63 t419.length co63)).setCell ⟨gb426, 1, none⟩ (.slice Ao69 t422.length co69)) w.heap.size (fun k_ => some k_ ≠ (v386 : Value).ownBlock ∧ some k_ ≠ (v390 : Value).ownBlock ∧ some k_ ≠ (.slice Ao54 t411.length co54 : Value).ownBlock ∧ some k_ ≠ (.slice Ao59 t414.length co59 : Value).ownBlock ∧ some k_ ≠ (.slice Ao69 t422.length co69 : Value).ownBlock) (.slice Ao63 t419.length co63) t419) := ⟨by refine lr_ ?_; exact Kd.R_mono (Kd.R_far (p := ⟨gb426, 1, none⟩) (Kd.R_far (p := ⟨gb426, 0, none⟩) (Kd.R_types HO421.out BK426.out (by decide)) (fun _ hk => hk.2) (.slice Ao63 t419.length co63)) (fun _ hk => hk.2) (.slice Ao69 t422.length co69)) (fun _ hk => ⟨hk.1.1.1.1.2, ⟨hk.1.1.1.2, ⟨hk.1.1.2, ⟨hk.1.2, hk.1.1.1.1.1⟩⟩⟩⟩)⟩
           have n5_ : Aside0 (Kd.R (Kd.int .i64) 3 ((w62.setCell ⟨gb426, 0, none⟩ (.slice Ao63 t419.length co63)).setCell ⟨gb426, 1, none⟩ (.slice Ao69 t422.length co69)) w.heap.size (fun k_ => some k_ ≠ (v386 : Value).ownBlock ∧ some k_ ≠ (v390 : Value).ownBlock ∧ some k_ ≠ (.slice Ao54 t411.length co54 : Value).ownBlock ∧ some k_ ≠ (.slice Ao59 t414.length co59 : Value).ownBlock ∧ some k_ ≠ (.slice Ao63 t419.length co63 : Value).ownBlock) (.slice Ao69 t422.length co69) t422) := ⟨by refine lr_ ?_; exact Kd.R_mono (Kd.R_far (p := ⟨gb426, 1, none⟩) (Kd.R_far (p := ⟨gb426, 0, none⟩) (Kd.R_types HO424.out BK426.out (by decide)) (fun _ hk => hk.2) (.slice Ao63 t419.length co63)) (fun _ hk => hk.2) (.slice Ao69 t422.length co69)) (fun _ hk => ⟨hk.1.1.1.1.2, ⟨hk.1.1.1.2, ⟨hk.1.1.2, ⟨hk.1.2, hk.1.1.1.1.1⟩⟩⟩⟩)⟩
           have n6_ : Aside0 (((w62.setCell ⟨gb426, 0, none⟩ (.slice Ao63 t419.length co63)).setCell ⟨gb426, 1, none⟩ (.slice Ao69 t422.length co69)).heap[gb382]? = some (.cells #[.slice A0_0 l0_0.length c0_0, .slice A0_1 l0_1.length c0_1] 40 (0, 0))) := ⟨by refine lk_ ?_; refine blk_far ?_ NB382_426.out _; refine lk_ ?_; refine blk_far ?_ NB382_426.out _; (with_reducible repeat (first | refine blk_drewN ?_ _ | refine blk_drew ?_ | refine blk_alloc ?_ _)); exact BK382.out⟩
           have n7_ : Aside0 (((w62.setCell ⟨gb426, 0, none⟩ (.slice Ao63 t419.length co63)).setCell ⟨gb426, 1, none⟩ (.slice Ao69 t422.length co69)).heap[gb383]? = some (.cells #[.slice A2_0 l2_0.length c2_0, .slice A2_1 l2_1.length c2_1] 40 (0, 0))) := ⟨by refine lk_ ?_; refine blk_far ?_ NB383_426.out _; refine lk_ ?_; refine blk_far ?_ NB383_426.out _; (with_reducible repeat (first | refine blk_drewN ?_ _ | refine blk_drew ?_ | refine blk_alloc ?_ _)); exact BK383.out⟩
           have n8_ : Aside0 (((w62.setCell ⟨gb426, 0, none⟩ (.slice Ao63 t419.length co63)).setCell ⟨gb426, 1, none⟩ (.slice Ao69 t422.length co69)).heap[gb384]? = some (.cells #[.slice A5_0 l5_0.length c5_0, .slice A5_1 l5_1.length c5_1] 40 (0, 0))) := ⟨by refine lk_ ?_; refine blk_far ?_ NB384_426.out _; refine lk_ ?_; refine blk_far ?_ NB384_426.out _; (with_reducible repeat (first | refine blk_drewN ?_ _ | refine blk_drew ?_ | refine blk_alloc ?_ _)); exact BK384.out⟩
           have n9_ : Aside0 (((w62.setCell ⟨gb426, 0, none⟩ (.slice Ao63 t419.length co63)).setCell ⟨gb426, 1, none⟩ (.slice Ao69 t422.length co69)).heap[gb418]? = some (.cells #[.slice Ao54 t411.length co54, .slice Ao59 t414.length co59] 40 (0, 0))) := ⟨by refine lk_ ?_; refine blk_far ?_ NB418_426.out _; refine lk_ ?_; refine blk_far ?_ NB418_426.out _; (with_reducible repeat (first | refine blk_drewN ?_ _ | refine blk_drew ?_ | refine blk_alloc ?_ _)); exact BK418.out⟩
           have n10_ : Aside0 (((w62.setCell ⟨gb426, 0, none⟩ (.slice Ao63 t419.length co63)).setCell ⟨gb426, 1, none⟩ (.slice Ao69 t422.length co69)).heap[gb426]? = some (.cells #[.slice Ao63 t419.length co63, .slice Ao69 t422.length co69] 40 (0, 0))) := ⟨by refine lk_ ?_; refine blk_put (cs := #[.slice Ao63 t419.length co63, .slice none 0 0]) ?_ 1 _ rfl; refine lk_ ?_; refine blk_put (cs := #[.slice none 0 0, .slice none 0 0]) ?_ 0 _ rfl; (with_reducible repeat (first | refine blk_drewN ?_ _ | refine blk_drew ?_ | refine blk_alloc ?_ _)); exact BK426.out⟩
           have n11_ : Aside0 (Below w.heap.size w ((w62.setCell ⟨gb426, 0, none⟩ (.slice Ao63 t419.length co63)).setCell ⟨gb426, 1, none⟩ (.slice Ao69 t422.length co69))) := ⟨dn_ HB.out⟩
           (try clear HO387)
           (try clear HO391)
           (try clear HO413)
           (try clear HO416)
           (try clear HO421)
           (try clear HO424)
           (try clear BK382)
           (try clear BK383)
           (try clear BK384)
           (try clear BK418)
           (try clear BK426)
           (try clear HB)
           generalize ((w62.setCell ⟨gb426, 0, none⟩ (.slice Ao63 t419.length co63)).setCell ⟨gb426, 1, none⟩ (.slice Ao69 t422.length co69)) = w169 at n0_ n1_ n2_ n3_ n4_ n5_ n6_ n7_ n8_ n9_ n10_ n11_ ⊢
           have HO387 := n0_
           have HO391 := n1_
           have HO413 := n2_
           have HO416 := n3_
           have HO421 := n4_
           have HO424 := n5_
           have BK382 := n6_
           have BK383 := n7_
           have BK384 := n8_
           have BK418 := n9_
           have BK426 := n10_
           have HB := n11_
           clear n0_ n1_ n2_ n3_ n4_ n5_ n6_ n7_ n8_ n9_ n10_ n11_
           replace HO387 := Aside0.mk (Kd.R_drew HO387.out)
           replace HO391 := Aside0.mk (Kd.R_drew HO391.out)
           replace HO413 := Aside0.mk (Kd.R_drew HO413.out)
           replace HO416 := Aside0.mk (Kd.R_drew HO416.out)
           replace HO421 := Aside0.mk (Kd.R_drew HO421.out)
           replace HO424 := Aside0.mk (Kd.R_drew HO424.out)
           replace BK382 := Aside0.mk (blk_drew BK382.out)
           replace BK383 := Aside0.mk (blk_drew BK383.out)
           replace BK384 := Aside0.mk (blk_drew BK384.out)
           replace BK418 := Aside0.mk (blk_drew BK418.out)
           replace BK426 := Aside0.mk (blk_drew BK426.out)
           replace HB := Aside0.mk (below_drew1 HB.out)
           obtain ⟨Ao171, co171, eo171⟩ := Kd.R_slice HO387.out
           (first | subst eo171 | (injection eo171 with f1_ f2_ f3_; have f4_ := f1_.symm; have f5_ := f3_.symm; clear f1_ f2_ f3_; subst f4_; subst f5_))
           obtain ⟨Ao172, co172, eo172⟩ := Kd.R_slice HO391.out
           (first | subst eo172 | (injection eo172 with f1_ f2_ f3_; have f4_ := f1_.symm; have f5_ := f3_.symm; clear f1_ f2_ f3_; subst f4_; subst f5_))
           as_aux_lemma =>
            refine start_ (n := 111) (S := fun w' => w'.cell? ⟨gb418, 0, none⟩ = some (.slice Ao54 t411.length co54) ∧ w'.cell? ⟨gb418, 1, none⟩ = some (.slice Ao59 t414.length co59) ∧ w'.cell? ⟨gb426, 0, none⟩ = some (.slice Ao63 t419.length co63) ∧ w'.cell? ⟨gb426, 1, none⟩ = some (.slice Ao69 t422.length co69) ∧ w'.cell? ⟨gb382, 0, none⟩ = some (.slice A0_0 l0_0.length c0_0) ∧ w'.cell? ⟨gb382, 1, none⟩ = some (.slice A0_1 l0_1.length c0_1)) (ds := []) (bs 111 0) (by kernel_rfl) rfl (by kernel_rfl) ⟨(blk_cell BK418.out 0).trans rfl, (blk_cell BK418.out 1).trans rfl, (blk_cell BK426.out 0).trans rfl, (blk_cell BK426.out 1).trans rfl, (blk_cell BK382.out 0).trans rfl, (blk_cell BK382.out 1).trans rfl⟩ (fun hHeld => ?_); refine with_tabW laws_FnHousesBuiltOfAll.tab15 laws_FnHousesBuiltOfAll.bits15 (fun HT_ HW_ => ?_)
            generalize w169.drew = w170 at HO387 HO391 HO413 HO416 HO421 HO424 BK382 BK383 BK384 BK418 BK426 HB hHeld ⊢
            refine sL_ 111 [(0, 146, 1), (1, 147, 3), (2, 148, 7), (3, 149, 15), (4, 150, 31), (5, 151, 63), (6, 152, 127), (7, 153, 255), (8, 154, 511), (9, 155, 1023), (10, 156, 2047), (11, 157, 4095), (12, 158, 8191), (13, 159, 16383), (14, 160, 32767), (15, 161, 65535), (16, 162, 131071), (17, 163, 262143), (18, 164, 524287), (19, 165, 1048575), (20, 166, 2097151), (21, 167, 4194303), (22, 168, 8388607), (23, 169, 16777215), (24, 170, 33554431), (25, 171, 67108863), (26, 172, 134217727), (27, 173, 268435455), (28, 174, 536870911), (29, 175, 1073741823), (30, 176, 2147483647), (31, 177, 4294967295), (32, 178, 8589934591), (33, 179, 17179869183), (34, 180, 34359738367), (35, 181, 68719476735), (36, 182, 137438953471), (37, 183, 274877906943), (38, 184, 549755813887), (39, 185, 1099511627775), (40, 186, 2199023255551), (41, 187, 4398046511103), (42, 188, 8796093022207), (43, 189, 17592186044415), (44, 190, 35184372088831), (45, 191, 70368744177663), (46, 192, 140737488355327), (47, 193, 281474976710655), (48, 194, 562949953421311), (49, 195, 1125899906842623), (50, 196, 2251799813685247), (51, 197, 4503599627370495), (52, 198, 9007199254740991), (53, 199, 18014398509481983), (54, 200, 36028797018963967), (55, 201, 72057594037927935), (56, 202, 144115188075855871), (57, 203, 288230376151711743), (58, 204, 576460752303423487), (59, 205, 1152921504606846975), (60, 206, 2305843009213693951), (61, 207, 4611686018427387903), (62, 208, 9223372036854775807), (63, 209, 18446744073709551615), (64, 210, 36893488147419103231), (65, 211, 73786976294838206463), (66, 212, 147573952589676412927), (67, 213, 295147905179352825855), (68, 214, 590295810358705651711), (69, 215, 1180591620717411303423), (70, 216, 2361183241434822606847), (71, 217, 4722366482869645213695), (72, 218, 9444732965739290427391), (73, 219, 18889465931478580854783), (74, 220, 37778931862957161709567), (75, 221, 75557863725914323419135), (76, 222, 151115727451828646838271), (77, 223, 302231454903657293676543), (79, 225, 906694364710971881029631), (78, 224, 1208925819614629174706175), (80, 226, 2417851639229258349412351), (81, 227, 4835703278458516698824703), (82, 228, 9671406556917033397649407), (83, 229, 19342813113834066795298815), (84, 230, 38685626227668133590597631), (85, 231, 77371252455336267181195263), (86, 232, 154742504910672534362390527), (87, 233, 309485009821345068724781055), (88, 234, 618970019642690137449562111), (89, 235, 1237940039285380274899124223), (90, 236, 2475880078570760549798248447), (91, 237, 4951760157141521099596496895), (92, 238, 9903520314283042199192993791), (93, 239, 19807040628566084398385987583), (94, 240, 39614081257132168796771975167), (95, 241, 79228162514264337593543950335), (96, 242, 158456325028528675187087900671), (97, 243, 316912650057057350374175801343), (98, 244, 633825300114114700748351602687), (99, 245, 1267650600228229401496703205375), (100, 246, 2535301200456458802993406410751), (101, 247, 5070602400912917605986812821503), (102, 248, 10141204801825835211973625643007), (103, 249, 20282409603651670423947251286015), (104, 250, 40564819207303340847894502572031), (105, 251, 81129638414606681695789005144063), (106, 252, 162259276829213363391578010288127), (107, 253, 324518553658426726783156020576255), (108, 254, 649037107316853453566312041152511), (109, 255, 1298074214633706907132624082305023), (110, 256, 2596148429267413814265248164610047)] ?_
            iterate 6 (refine pI_ ?_)
            refine oI_ (fun K hK => ?_)
            refine gE_ Tryd.func71 #[.slice Ao171 t385.length co171, .slice Ao172 t389.length co172] ?_
            with_reducible refine (laws_wSame.calls k _ _ t385 _ _ t389 true _ ?side1 ?side2 ?side3 ?side4 A73.out).mono ?_
            (case side1 => exact cs_ (Kd.R_reads' HO387.out).2.2)
            (case side2 => exact (Kd.R_reads' HO387.out).2.1)
            (case side3 => exact cs_ (Kd.R_reads' HO391.out).2.2)
            (case side4 => exact (Kd.R_reads' HO391.out).2.1)
            rintro e w' ⟨rfl, ⟨nd, rfl⟩⟩
            refine ⟨_, rfl, ?_⟩
            refine hK.out _ _ ⟨(blk_cell BK418.out 0).trans rfl, (blk_cell BK418.out 1).trans rfl, (blk_cell BK426.out 0).trans rfl, (blk_cell BK426.out 1).trans rfl, (blk_cell BK382.out 0).trans rfl, (blk_cell BK382.out 1).trans rfl⟩ (fun hHeld => ?_)
            clear hK K
            refine nI_ ?_
            iterate 53 (refine pI_ ?_)
            refine tI6_ ?_
            refine tI6_ ?_
            refine oI_ (fun K hK => ?_)
            refine gE_ Tryd.func72 #[.agg #[.slice Ao54 t411.length co54, .slice Ao59 t414.length co59], .agg #[.slice Ao63 t419.length co63, .slice Ao69 t422.length co69]] ?_
            with_reducible refine (laws_wHouse.calls k _ _ t411 _ _ t414 _ _ t419 _ _ t422 true _ ?side1 ?side2 ?side3 ?side4 ?side5 ?side6 ?side7 ?side8 A105.out).mono ?_
            (case side1 => exact cs_ (Kd.R_reads' HO413.out).2.2)
            (case side2 => exact (Kd.R_reads' HO413.out).2.1)
            (case side3 => exact cs_ (Kd.R_reads' HO416.out).2.2)
            (case side4 => exact (Kd.R_reads' HO416.out).2.1)
            (case side5 => exact cs_ (Kd.R_reads' HO421.out).2.2)
            (case side6 => exact (Kd.R_reads' HO421.out).2.1)
            (case side7 => exact cs_ (Kd.R_reads' HO424.out).2.2)
            (case side8 => exact (Kd.R_reads' HO424.out).2.1)
            rintro e w173 ⟨rfl, hb⟩
            refine ⟨_, rfl, ?_⟩
            replace HO387 := rb_ HO387 hb
            replace HO391 := rb_ HO391 hb
            replace HO413 := rb_ HO413 hb
            replace HO416 := rb_ HO416 hb
            replace HO421 := rb_ HO421 hb
            replace HO424 := rb_ HO424 hb
            replace BK382 := kb_ BK382 hb
            replace BK383 := kb_ BK383 hb
            replace BK384 := kb_ BK384 hb
            replace BK418 := kb_ BK418 hb
            replace BK426 := kb_ BK426 hb
            replace HB := bs_ HB hb
            (try clear hb)
            (try clear hb2)
            (try clear hk)
            (try clear hi)
            refine hK.out _ _ ⟨(blk_cell BK418.out 0).trans rfl, (blk_cell BK418.out 1).trans rfl, (blk_cell BK426.out 0).trans rfl, (blk_cell BK426.out 1).trans rfl, (blk_cell BK382.out 0).trans rfl, (blk_cell BK382.out 1).trans rfl⟩ (fun hHeld => ?_)
            clear hK K
            refine nI_ ?_
            iterate 9 (refine pI_ ?_)
            refine tI6_ ?_
            refine oI_ (fun K hK => ?_)
            refine gE_ Tryd.func73 #[.agg #[.slice A0_0 l0_0.length c0_0, .slice A0_1 l0_1.length c0_1]] ?_
            with_reducible refine (impl_IsHouse.calls _ _ l0_0 _ _ l0_1 t429 _ ?side1 ?side2 ?side3 ?side4 A113.out).mono ?_
            (case side1 => exact cs_ (Kd.C_below HR0_0.out HB.out))
            (case side2 => exact HC0_0.out)
            (case side3 => exact cs_ (Kd.C_below HR0_1.out HB.out))
            (case side4 => exact HC0_1.out)
            rintro e w174 ⟨rfl, hb⟩
            refine ⟨_, rfl, ?_⟩
            replace HO387 := rb_ HO387 hb
            replace HO391 := rb_ HO391 hb
            replace HO413 := rb_ HO413 hb
            replace HO416 := rb_ HO416 hb
            replace HO421 := rb_ HO421 hb
            replace HO424 := rb_ HO424 hb
            replace BK382 := kb_ BK382 hb
            replace BK383 := kb_ BK383 hb
            replace BK384 := kb_ BK384 hb
            replace BK418 := kb_ BK418 hb
            replace BK426 := kb_ BK426 hb
            replace HB := bs_ HB hb
            (try clear hb)
            (try clear hb2)
            (try clear hk)
            (try clear hi)
            refine hK.out _ _ ⟨(blk_cell BK418.out 0).trans rfl, (blk_cell BK418.out 1).trans rfl, (blk_cell BK426.out 0).trans rfl, (blk_cell BK426.out 1).trans rfl, (blk_cell BK382.out 0).trans rfl, (blk_cell BK382.out 1).trans rfl⟩ (fun hHeld => ?_)
            clear hK K
            refine nI_ ?_
            iterate 3 (refine pI_ ?_)
            refine tI6_ ?_
            refine tI6_ ?_
            refine oI_ (fun K hK => ?_)
            refine gE_ Tryd.func73 #[.agg #[.slice A0_0 l0_0.length c0_0, .slice A0_1 l0_1.length c0_1]] ?_
            with_reducible refine (impl_IsHouse.calls _ _ l0_0 _ _ l0_1 t430 _ ?side1 ?side2 ?side3 ?side4 A121.out).mono ?_
            (case side1 => exact cs_ (Kd.C_below HR0_0.out HB.out))
            (case side2 => exact HC0_0.out)
            (case side3 => exact cs_ (Kd.C_below HR0_1.out HB.out))
            (case side4 => exact HC0_1.out)
            rintro e w175 ⟨rfl, hb⟩
            refine ⟨_, rfl, ?_⟩
            replace HO387 := rb_ HO387 hb
            replace HO391 := rb_ HO391 hb
            replace HO413 := rb_ HO413 hb
            replace HO416 := rb_ HO416 hb
            replace HO421 := rb_ HO421 hb
            replace HO424 := rb_ HO424 hb
            replace BK382 := kb_ BK382 hb
            replace BK383 := kb_ BK383 hb
            replace BK384 := kb_ BK384 hb
            replace BK418 := kb_ BK418 hb
            replace BK426 := kb_ BK426 hb
            replace HB := bs_ HB hb
            (try clear hb)
            (try clear hb2)
            (try clear hk)
            (try clear hi)
            refine hK.out _ _ ⟨(blk_cell BK418.out 0).trans rfl, (blk_cell BK418.out 1).trans rfl, (blk_cell BK426.out 0).trans rfl, (blk_cell BK426.out 1).trans rfl, (blk_cell BK382.out 0).trans rfl, (blk_cell BK382.out 1).trans rfl⟩ (fun hHeld => ?_)
            clear hK K
            refine nI_ ?_
            refine oI_ (fun K hK => ?_)
            refine gE_ Tryd.func74 #[.agg #[.slice A0_0 l0_0.length c0_0, .slice A0_1 l0_1.length c0_1]] ?_
            with_reducible refine (spec_IsHouse.calls k _ _ l0_0 _ _ l0_1 t431 _ ?side1 ?side2 ?side3 ?side4 A122.out).mono ?_
            (case side1 => exact cs_ (Kd.C_below HR0_0.out HB.out))
            (case side2 => exact HC0_0.out)
            (case side3 => exact cs_ (Kd.C_below HR0_1.out HB.out))
            (case side4 => exact HC0_1.out)
            rintro e w176 ⟨rfl, hb⟩
            refine ⟨_, rfl, ?_⟩
            replace HO387 := rb_ HO387 hb
            replace HO391 := rb_ HO391 hb
            replace HO413 := rb_ HO413 hb
            replace HO416 := rb_ HO416 hb
            replace HO421 := rb_ HO421 hb
            replace HO424 := rb_ HO424 hb
            replace BK382 := kb_ BK382 hb
            replace BK383 := kb_ BK383 hb
            replace BK384 := kb_ BK384 hb
            replace BK418 := kb_ BK418 hb
            replace BK426 := kb_ BK426 hb
            replace HB := bs_ HB hb
            (try clear hb)
            (try clear hb2)
            (try clear hk)
            (try clear hi)
            refine hK.out _ _ ⟨(blk_cell BK418.out 0).trans rfl, (blk_cell BK418.out 1).trans rfl, (blk_cell BK426.out 0).trans rfl, (blk_cell BK426.out 1).trans rfl, (blk_cell BK382.out 0).trans rfl, (blk_cell BK382.out 1).trans rfl⟩ (fun hHeld => ?_)
            clear hK K
            refine nI_ ?_
            iterate 15 (refine pI_ ?_)
            refine pL_ (v := undef) (a' := ?_) rfl (any_of HT_.out (by kernel_rfl)) (fun _ _ _ h => h) (Or.inr ⟨by rfl, rfl⟩) ?_ ?_
            rotate_left
            ·simp only [Act.put, List.setIfInBounds_toArray, List.set_cons_zero, List.set_cons_succ, i64_w, i32_w]; rfl
            refine pL_ (v := undef) (a' := ?_) rfl (any_of HT_.out (by kernel_rfl)) (fun _ _ _ h => h) (Or.inr ⟨by rfl, rfl⟩) ?_ ?_
            rotate_left
            ·simp only [Act.put, List.setIfInBounds_toArray, List.set_cons_zero, List.set_cons_succ, i64_w, i32_w]; rfl
            iterate 7 (refine pI_ ?_)
            refine tI6_ ?_
            iterate 5 (refine pI_ ?_)
            refine dL_ (done_of HT_.out (by kernel_rfl)) ?_
            try go_wp2
            go_meet
            case rel => exact ⟨_, ((t417 != (decide ((l0_0.length : Int) > 1)))), (by first | rfl | (simp; done) | (simp [*]; done)), H', ⟨by first | omega | exact Nat.le_refl _⟩, ⟨by refine lr_ ?_; exact Kd.R_mono HO387.out (fun _ hk => ⟨hk.2.1, ⟨hk.2.2.1, ⟨hk.2.2.2.1, hk.2.2.2.2⟩⟩⟩)⟩, ⟨by refine lr_ ?_; exact Kd.R_mono HO413.out (fun _ hk => ⟨hk.1, ⟨hk.2.2.1, ⟨hk.2.2.2.1, hk.2.2.2.2⟩⟩⟩)⟩, ⟨by refine lr_ ?_; exact Kd.R_mono HO416.out (fun _ hk => ⟨hk.1, ⟨hk.2.2.1, ⟨hk.2.2.2.1, hk.2.2.2.2⟩⟩⟩)⟩, ⟨by refine lr_ ?_; exact Kd.R_mono HO421.out (fun _ hk => ⟨hk.1, ⟨hk.2.2.1, ⟨hk.2.2.2.1, hk.2.2.2.2⟩⟩⟩)⟩, ⟨by refine lr_ ?_; exact Kd.R_mono HO424.out (fun _ hk => ⟨hk.1, ⟨hk.2.2.1, ⟨hk.2.2.2.1, hk.2.2.2.2⟩⟩⟩)⟩, ⟨up_ BK382.out⟩, ⟨up_ BK383.out⟩, ⟨up_ BK384.out⟩, ⟨up_ BK418.out⟩, ⟨up_ BK426.out⟩, ⟨dn_ HB.out⟩⟩
          replace c168 := Bool.eq_false_iff.mpr c168
          subst c168
          rw [if_neg (show ¬ (false = true) by decide)] at H
          have H' := Aside0.mk H
          clear H
          try go_wp2
          have n0_ : Aside0 (Kd.R (Kd.int .i64) 3 ((w62.setCell ⟨gb426, 0, none⟩ (.slice Ao63 t419.length co63)).setCell ⟨gb426, 1, none⟩ (.slice Ao69 t422.length co69)) w.heap.size (fun k_ => some k_ ≠ (v390 : Value).ownBlock ∧ some k_ ≠ (.slice Ao54 t411.length co54 : Value).ownBlock ∧ some k_ ≠ (.slice Ao59 t414.length co59 : Value).ownBlock ∧ some k_ ≠ (.slice Ao63 t419.length co63 : Value).ownBlock ∧ some k_ ≠ (.slice Ao69 t422.length co69 : Value).ownBlock) v386 t385) := ⟨by refine lr_ ?_; exact Kd.R_mono (Kd.R_far (p := ⟨gb426, 1, none⟩) (Kd.R_far (p := ⟨gb426, 0, none⟩) (Kd.R_types HO387.out BK426.out (by decide)) (fun _ hk => hk.2) (.slice Ao63 t419.length co63)) (fun _ hk => hk.2) (.slice Ao69 t422.length co69)) (fun _ hk => ⟨hk.1.1.1.1.1.2, ⟨hk.1.1.1.1.2, ⟨hk.1.1.1.2, ⟨hk.1.1.2, hk.1.2⟩⟩⟩⟩)⟩
          have n1_ : Aside0 (Kd.R (Kd.int .i64) 3 ((w62.setCell ⟨gb426, 0, none⟩ (.slice Ao63 t419.length co63)).setCell ⟨gb426, 1, none⟩ (.slice Ao69 t422.length co69)) w.heap.size (fun k_ => some k_ ≠ (v386 : Value).ownBlock ∧ some k_ ≠ (.slice Ao54 t411.length co54 : Value).ownBlock ∧ some k_ ≠ (.slice Ao59 t414.length co59 : Value).ownBlock ∧ some k_ ≠ (.slice Ao63 t419.length co63 : Value).ownBlock ∧ some k_ ≠ (.slice Ao69 t422.length co69 : Value).ownBlock) v390 t389) := ⟨by refine lr_ ?_; exact Kd.R_mono (Kd.R_far (p := ⟨gb426, 1, none⟩) (Kd.R_far (p := ⟨gb426, 0, none⟩) (Kd.R_types HO391.out BK426.out (by decide)) (fun _ hk => hk.2) (.slice Ao63 t419.length co63)) (fun _ hk => hk.2) (.slice Ao69 t422.length co69)) (fun _ hk => ⟨hk.1.1.1.1.1.2, ⟨hk.1.1.1.1.2, ⟨hk.1.1.1.2, ⟨hk.1.1.2, hk.1.2⟩⟩⟩⟩)⟩
          have n2_ : Aside0 (Kd.R (Kd.int .i64) 3 ((w62.setCell ⟨gb426, 0, none⟩ (.slice Ao63 t419.length co63)).setCell ⟨gb426, 1, none⟩ (.slice Ao69 t422.length co69)) w.heap.size (fun k_ => some k_ ≠ (v386 : Value).ownBlock ∧ some k_ ≠ (v390 : Value).ownBlock ∧ some k_ ≠ (.slice Ao59 t414.length co59 : Value).ownBlock ∧ some k_ ≠ (.slice Ao63 t419.length co63 : Value).ownBlock ∧ some k_ ≠ (.slice Ao69 t422.length co69 : Value).ownBlock) (.slice Ao54 t411.length co54) t411) := ⟨by refine lr_ ?_; exact Kd.R_mono (Kd.R_far (p := ⟨gb426, 1, none⟩) (Kd.R_far (p := ⟨gb426, 0, none⟩) (Kd.R_types HO413.out BK426.out (by decide)) (fun _ hk => hk.2) (.slice Ao63 t419.length co63)) (fun _ hk => hk.2) (.slice Ao69 t422.length co69)) (fun _ hk => ⟨hk.1.1.1.1.2, ⟨hk.1.1.1.2, ⟨hk.1.1.1.1.1, ⟨hk.1.1.2, hk.1.2⟩⟩⟩⟩)⟩
          have n3_ : Aside0 (Kd.R (Kd.int .i64) 3 ((w62.setCell ⟨gb426, 0, none⟩ (.slice Ao63 t419.length co63)).setCell ⟨gb426, 1, none⟩ (.slice Ao69 t422.length co69)) w.heap.size (fun k_ => some k_ ≠ (v386 : Value).ownBlock ∧ some k_ ≠ (v390 : Value).ownBlock ∧ some k_ ≠ (.slice Ao54 t411.length co54 : Value).ownBlock ∧ some k_ ≠ (.slice Ao63 t419.length co63 : Value).ownBlock ∧ some k_ ≠ (.slice Ao69 t422.length co69 : Value).ownBlock) (.slice Ao59 t414.length co59) t414) := ⟨by refine lr_ ?_; exact Kd.R_mono (Kd.R_far (p := ⟨gb426, 1, none⟩) (Kd.R_far (p := ⟨gb426, 0, none⟩) (Kd.R_types HO416.out BK426.out (by decide)) (fun _ hk => hk.2) (.slice Ao63 t419.length co63)) (fun _ hk => hk.2) (.slice Ao69 t422.length co69)) (fun _ hk => ⟨hk.1.1.1.1.2, ⟨hk.1.1.1.2, ⟨hk.1.1.1.1.1, ⟨hk.1.1.2, hk.1.2⟩⟩⟩⟩)⟩
          have n4_ : Aside0 (Kd.R (Kd.int .i64) 3 ((w62.setCell ⟨gb426, 0, none⟩ (.slice Ao63 t419.length co63)).setCell ⟨gb426, 1, none⟩ (.slice Ao69 t422.length co69)) w.heap.size (fun k_ => some k_ ≠ (v386 : Value).ownBlock ∧ some k_ ≠ (v390 : Value).ownBlock ∧ some k_ ≠ (.slice Ao54 t411.length co54 : Value).ownBlock ∧ some k_ ≠ (.slice Ao59 t414.length co59 : Value).ownBlock ∧ some k_ ≠ (.slice Ao69 t422.length co69 : Value).ownBlock) (.slice Ao63 t419.length co63) t419) := ⟨by refine lr_ ?_; exact Kd.R_mono (Kd.R_far (p := ⟨gb426, 1, none⟩) (Kd.R_far (p := ⟨gb426, 0, none⟩) (Kd.R_types HO421.out BK426.out (by decide)) (fun _ hk => hk.2) (.slice Ao63 t419.length co63)) (fun _ hk => hk.2) (.slice Ao69 t422.length co69)) (fun _ hk => ⟨hk.1.1.1.1.2, ⟨hk.1.1.1.2, ⟨hk.1.1.2, ⟨hk.1.2, hk.1.1.1.1.1⟩⟩⟩⟩)⟩
          have n5_ : Aside0 (Kd.R (Kd.int .i64) 3 ((w62.setCell ⟨gb426, 0, none⟩ (.slice Ao63 t419.length co63)).setCell ⟨gb426, 1, none⟩ (.slice Ao69 t422.length co69)) w.heap.size (fun k_ => some k_ ≠ (v386 : Value).ownBlock ∧ some k_ ≠ (v390 : Value).ownBlock ∧ some k_ ≠ (.slice Ao54 t411.length co54 : Value).ownBlock ∧ some k_ ≠ (.slice Ao59 t414.length co59 : Value).ownBlock ∧ some k_ ≠ (.slice Ao63 t419.length co63 : Value).ownBlock) (.slice Ao69 t422.length co69) t422) := ⟨by refine lr_ ?_; exact Kd.R_mono (Kd.R_far (p := ⟨gb426, 1, none⟩) (Kd.R_far (p := ⟨gb426, 0, none⟩) (Kd.R_types HO424.out BK426.out (by decide)) (fun _ hk => hk.2) (.slice Ao63 t419.length co63)) (fun _ hk => hk.2) (.slice Ao69 t422.length co69)) (fun _ hk => ⟨hk.1.1.1.1.2, ⟨hk.1.1.1.2, ⟨hk.1.1.2, ⟨hk.1.2, hk.1.1.1.1.1⟩⟩⟩⟩)⟩
          have n6_ : Aside0 (((w62.setCell ⟨gb426, 0, none⟩ (.slice Ao63 t419.length co63)).setCell ⟨gb426, 1, none⟩ (.slice Ao69 t422.length co69)).heap[gb382]? = some (.cells #[.slice A0_0 l0_0.length c0_0, .slice A0_1 l0_1.length c0_1] 40 (0, 0))) := ⟨by refine lk_ ?_; refine blk_far ?_ NB382_426.out _; refine lk_ ?_; refine blk_far ?_ NB382_426.out _; (with_reducible repeat (first | refine blk_drewN ?_ _ | refine blk_drew ?_ | refine blk_alloc ?_ _)); exact BK382.out⟩
          have n7_ : Aside0 (((w62.setCell ⟨gb426, 0, none⟩ (.slice Ao63 t419.length co63)).setCell ⟨gb426, 1, none⟩ (.slice Ao69 t422.length co69)).heap[gb383]? = some (.cells #[.slice A2_0 l2_0.length c2_0, .slice A2_1 l2_1.length c2_1] 40 (0, 0))) := ⟨by refine lk_ ?_; refine blk_far ?_ NB383_426.out _; refine lk_ ?_; refine blk_far ?_ NB383_426.out _; (with_reducible repeat (first | refine blk_drewN ?_ _ | refine blk_drew ?_ | refine blk_alloc ?_ _)); exact BK383.out⟩
          have n8_ : Aside0 (((w62.setCell ⟨gb426, 0, none⟩ (.slice Ao63 t419.length co63)).setCell ⟨gb426, 1, none⟩ (.slice Ao69 t422.length co69)).heap[gb384]? = some (.cells #[.slice A5_0 l5_0.length c5_0, .slice A5_1 l5_1.length c5_1] 40 (0, 0))) := ⟨by refine lk_ ?_; refine blk_far ?_ NB384_426.out _; refine lk_ ?_; refine blk_far ?_ NB384_426.out _; (with_reducible repeat (first | refine blk_drewN ?_ _ | refine blk_drew ?_ | refine blk_alloc ?_ _)); exact BK384.out⟩
          have n9_ : Aside0 (((w62.setCell ⟨gb426, 0, none⟩ (.slice Ao63 t419.length co63)).setCell ⟨gb426, 1, none⟩ (.slice Ao69 t422.length co69)).heap[gb418]? = some (.cells #[.slice Ao54 t411.length co54, .slice Ao59 t414.length co59] 40 (0, 0))) := ⟨by refine lk_ ?_; refine blk_far ?_ NB418_426.out _; refine lk_ ?_; refine blk_far ?_ NB418_426.out _; (with_reducible repeat (first | refine blk_drewN ?_ _ | refine blk_drew ?_ | refine blk_alloc ?_ _)); exact BK418.out⟩
          have n10_ : Aside0 (((w62.setCell ⟨gb426, 0, none⟩ (.slice Ao63 t419.length co63)).setCell ⟨gb426, 1, none⟩ (.slice Ao69 t422.length co69)).heap[gb426]? = some (.cells #[.slice Ao63 t419.length co63, .slice Ao69 t422.length co69] 40 (0, 0))) := ⟨by refine lk_ ?_; refine blk_put (cs := #[.slice Ao63 t419.length co63, .slice none 0 0]) ?_ 1 _ rfl; refine lk_ ?_; refine blk_put (cs := #[.slice none 0 0, .slice none 0 0]) ?_ 0 _ rfl; (with_reducible repeat (first | refine blk_drewN ?_ _ | refine blk_drew ?_ | refine blk_alloc ?_ _)); exact BK426.out⟩
          have n11_ : Aside0 (Below w.heap.size w ((w62.setCell ⟨gb426, 0, none⟩ (.slice Ao63 t419.length co63)).setCell ⟨gb426, 1, none⟩ (.slice Ao69 t422.length co69))) := ⟨dn_ HB.out⟩
          (try clear HO387)
          (try clear HO391)
          (try clear HO413)
          (try clear HO416)
          (try clear HO421)
          (try clear HO424)
          (try clear BK382)
          (try clear BK383)
          (try clear BK384)
          (try clear BK418)
          (try clear BK426)
          (try clear HB)
          generalize ((w62.setCell ⟨gb426, 0, none⟩ (.slice Ao63 t419.length co63)).setCell ⟨gb426, 1, none⟩ (.slice Ao69 t422.length co69)) = w177 at n0_ n1_ n2_ n3_ n4_ n5_ n6_ n7_ n8_ n9_ n10_ n11_ ⊢
          have HO387 := n0_
          have HO391 := n1_
          have HO413 := n2_
          have HO416 := n3_
          have HO421 := n4_
          have HO424 := n5_
          have BK382 := n6_
          have BK383 := n7_
          have BK384 := n8_
          have BK418 := n9_
          have BK426 := n10_
          have HB := n11_
          clear n0_ n1_ n2_ n3_ n4_ n5_ n6_ n7_ n8_ n9_ n10_ n11_
          replace HO387 := Aside0.mk (Kd.R_drew HO387.out)
          replace HO391 := Aside0.mk (Kd.R_drew HO391.out)
          replace HO413 := Aside0.mk (Kd.R_drew HO413.out)
          replace HO416 := Aside0.mk (Kd.R_drew HO416.out)
          replace HO421 := Aside0.mk (Kd.R_drew HO421.out)
          replace HO424 := Aside0.mk (Kd.R_drew HO424.out)
          replace BK382 := Aside0.mk (blk_drew BK382.out)
          replace BK383 := Aside0.mk (blk_drew BK383.out)
          replace BK384 := Aside0.mk (blk_drew BK384.out)
          replace BK418 := Aside0.mk (blk_drew BK418.out)
          replace BK426 := Aside0.mk (blk_drew BK426.out)
          replace HB := Aside0.mk (below_drew1 HB.out)
          obtain ⟨Ao179, co179, eo179⟩ := Kd.R_slice HO387.out
          (first | subst eo179 | (injection eo179 with f1_ f2_ f3_; have f4_ := f1_.symm; have f5_ := f3_.symm; clear f1_ f2_ f3_; subst f4_; subst f5_))
          obtain ⟨Ao180, co180, eo180⟩ := Kd.R_slice HO391.out
          (first | subst eo180 | (injection eo180 with f1_ f2_ f3_; have f4_ := f1_.symm; have f5_ := f3_.symm; clear f1_ f2_ f3_; subst f4_; subst f5_))
          as_aux_lemma =>
           refine start_ (n := 111) (S := fun w' => w'.cell? ⟨gb418, 0, none⟩ = some (.slice Ao54 t411.length co54) ∧ w'.cell? ⟨gb418, 1, none⟩ = some (.slice Ao59 t414.length co59) ∧ w'.cell? ⟨gb426, 0, none⟩ = some (.slice Ao63 t419.length co63) ∧ w'.cell? ⟨gb426, 1, none⟩ = some (.slice Ao69 t422.length co69) ∧ w'.cell? ⟨gb382, 0, none⟩ = some (.slice A0_0 l0_0.length c0_0) ∧ w'.cell? ⟨gb382, 1, none⟩ = some (.slice A0_1 l0_1.length c0_1)) (ds := []) (bs 111 0) (by kernel_rfl) rfl (by kernel_rfl) ⟨(blk_cell BK418.out 0).trans rfl, (blk_cell BK418.out 1).trans rfl, (blk_cell BK426.out 0).trans rfl, (blk_cell BK426.out 1).trans rfl, (blk_cell BK382.out 0).trans rfl, (blk_cell BK382.out 1).trans rfl⟩ (fun hHeld => ?_); refine with_tabW laws_FnHousesBuiltOfAll.tab15 laws_FnHousesBuiltOfAll.bits15 (fun HT_ HW_ => ?_)
           generalize w177.drew = w178 at HO387 HO391 HO413 HO416 HO421 HO424 BK382 BK383 BK384 BK418 BK426 HB hHeld ⊢
           refine sL_ 111 [(0, 146, 1), (1, 147, 3), (2, 148, 7), (3, 149, 15), (4, 150, 31), (5, 151, 63), (6, 152, 127), (7, 153, 255), (8, 154, 511), (9, 155, 1023), (10, 156, 2047), (11, 157, 4095), (12, 158, 8191), (13, 159, 16383), (14, 160, 32767), (15, 161, 65535), (16, 162, 131071), (17, 163, 262143), (18, 164, 524287), (19, 165, 1048575), (20, 166, 2097151), (21, 167, 4194303), (22, 168, 8388607), (23, 169, 16777215), (24, 170, 33554431), (25, 171, 67108863), (26, 172, 134217727), (27, 173, 268435455), (28, 174, 536870911), (29, 175, 1073741823), (30, 176, 2147483647), (31, 177, 4294967295), (32, 178, 8589934591), (33, 179, 17179869183), (34, 180, 34359738367), (35, 181, 68719476735), (36, 182, 137438953471), (37, 183, 274877906943), (38, 184, 549755813887), (39, 185, 1099511627775), (40, 186, 2199023255551), (41, 187, 4398046511103), (42, 188, 8796093022207), (43, 189, 17592186044415), (44, 190, 35184372088831), (45, 191, 70368744177663), (46, 192, 140737488355327), (47, 193, 281474976710655), (48, 194, 562949953421311), (49, 195, 1125899906842623), (50, 196, 2251799813685247), (51, 197, 4503599627370495), (52, 198, 9007199254740991), (53, 199, 18014398509481983), (54, 200, 36028797018963967), (55, 201, 72057594037927935), (56, 202, 144115188075855871), (57, 203, 288230376151711743), (58, 204, 576460752303423487), (59, 205, 1152921504606846975), (60, 206, 2305843009213693951), (61, 207, 4611686018427387903), (62, 208, 9223372036854775807), (63, 209, 18446744073709551615), (64, 210, 36893488147419103231), (65, 211, 73786976294838206463), (66, 212, 147573952589676412927), (67, 213, 295147905179352825855), (68, 214, 590295810358705651711), (69, 215, 1180591620717411303423), (70, 216, 2361183241434822606847), (71, 217, 4722366482869645213695), (72, 218, 9444732965739290427391), (73, 219, 18889465931478580854783), (74, 220, 37778931862957161709567), (75, 221, 75557863725914323419135), (76, 222, 151115727451828646838271), (77, 223, 302231454903657293676543), (79, 225, 906694364710971881029631), (78, 224, 1208925819614629174706175), (80, 226, 2417851639229258349412351), (81, 227, 4835703278458516698824703), (82, 228, 9671406556917033397649407), (83, 229, 19342813113834066795298815), (84, 230, 38685626227668133590597631), (85, 231, 77371252455336267181195263), (86, 232, 154742504910672534362390527), (87, 233, 309485009821345068724781055), (88, 234, 618970019642690137449562111), (89, 235, 1237940039285380274899124223), (90, 236, 2475880078570760549798248447), (91, 237, 4951760157141521099596496895), (92, 238, 9903520314283042199192993791), (93, 239, 19807040628566084398385987583), (94, 240, 39614081257132168796771975167), (95, 241, 79228162514264337593543950335), (96, 242, 158456325028528675187087900671), (97, 243, 316912650057057350374175801343), (98, 244, 633825300114114700748351602687), (99, 245, 1267650600228229401496703205375), (100, 246, 2535301200456458802993406410751), (101, 247, 5070602400912917605986812821503), (102, 248, 10141204801825835211973625643007), (103, 249, 20282409603651670423947251286015), (104, 250, 40564819207303340847894502572031), (105, 251, 81129638414606681695789005144063), (106, 252, 162259276829213363391578010288127), (107, 253, 324518553658426726783156020576255), (108, 254, 649037107316853453566312041152511), (109, 255, 1298074214633706907132624082305023), (110, 256, 2596148429267413814265248164610047)] ?_
           iterate 6 (refine pI_ ?_)
           refine oI_ (fun K hK => ?_)
           refine gE_ Tryd.func71 #[.slice Ao179 t385.length co179, .slice Ao180 t389.length co180] ?_
           with_reducible refine (laws_wSame.calls k _ _ t385 _ _ t389 true _ ?side1 ?side2 ?side3 ?side4 A73.out).mono ?_
           (case side1 => exact cs_ (Kd.R_reads' HO387.out).2.2)
           (case side2 => exact (Kd.R_reads' HO387.out).2.1)
           (case side3 => exact cs_ (Kd.R_reads' HO391.out).2.2)
           (case side4 => exact (Kd.R_reads' HO391.out).2.1)
           rintro e w' ⟨rfl, ⟨nd, rfl⟩⟩
           refine ⟨_, rfl, ?_⟩
           refine hK.out _ _ ⟨(blk_cell BK418.out 0).trans rfl, (blk_cell BK418.out 1).trans rfl, (blk_cell BK426.out 0).trans rfl, (blk_cell BK426.out 1).trans rfl, (blk_cell BK382.out 0).trans rfl, (blk_cell BK382.out 1).trans rfl⟩ (fun hHeld => ?_)
           clear hK K
           refine nI_ ?_
           iterate 53 (refine pI_ ?_)
           refine tI6_ ?_
           refine tI6_ ?_
           refine oI_ (fun K hK => ?_)
           refine gE_ Tryd.func72 #[.agg #[.slice Ao54 t411.length co54, .slice Ao59 t414.length co59], .agg #[.slice Ao63 t419.length co63, .slice Ao69 t422.length co69]] ?_
           with_reducible refine (laws_wHouse.calls k _ _ t411 _ _ t414 _ _ t419 _ _ t422 true _ ?side1 ?side2 ?side3 ?side4 ?side5 ?side6 ?side7 ?side8 A105.out).mono ?_
           (case side1 => exact cs_ (Kd.R_reads' HO413.out).2.2)
           (case side2 => exact (Kd.R_reads' HO413.out).2.1)
           (case side3 => exact cs_ (Kd.R_reads' HO416.out).2.2)
           (case side4 => exact (Kd.R_reads' HO416.out).2.1)
           (case side5 => exact cs_ (Kd.R_reads' HO421.out).2.2)
           (case side6 => exact (Kd.R_reads' HO421.out).2.1)
           (case side7 => exact cs_ (Kd.R_reads' HO424.out).2.2)
           (case side8 => exact (Kd.R_reads' HO424.out).2.1)
           rintro e w181 ⟨rfl, hb⟩
           refine ⟨_, rfl, ?_⟩
           replace HO387 := rb_ HO387 hb
           replace HO391 := rb_ HO391 hb
           replace HO413 := rb_ HO413 hb
           replace HO416 := rb_ HO416 hb
           replace HO421 := rb_ HO421 hb
           replace HO424 := rb_ HO424 hb
           replace BK382 := kb_ BK382 hb
           replace BK383 := kb_ BK383 hb
           replace BK384 := kb_ BK384 hb
           replace BK418 := kb_ BK418 hb
           replace BK426 := kb_ BK426 hb
           replace HB := bs_ HB hb
           (try clear hb)
           (try clear hb2)
           (try clear hk)
           (try clear hi)
           refine hK.out _ _ ⟨(blk_cell BK418.out 0).trans rfl, (blk_cell BK418.out 1).trans rfl, (blk_cell BK426.out 0).trans rfl, (blk_cell BK426.out 1).trans rfl, (blk_cell BK382.out 0).trans rfl, (blk_cell BK382.out 1).trans rfl⟩ (fun hHeld => ?_)
           clear hK K
           refine nI_ ?_
           iterate 9 (refine pI_ ?_)
           refine tI6_ ?_
           refine oI_ (fun K hK => ?_)
           refine gE_ Tryd.func73 #[.agg #[.slice A0_0 l0_0.length c0_0, .slice A0_1 l0_1.length c0_1]] ?_
           with_reducible refine (impl_IsHouse.calls _ _ l0_0 _ _ l0_1 t429 _ ?side1 ?side2 ?side3 ?side4 A113.out).mono ?_
           (case side1 => exact cs_ (Kd.C_below HR0_0.out HB.out))
           (case side2 => exact HC0_0.out)
           (case side3 => exact cs_ (Kd.C_below HR0_1.out HB.out))
           (case side4 => exact HC0_1.out)
           rintro e w182 ⟨rfl, hb⟩
           refine ⟨_, rfl, ?_⟩
           replace HO387 := rb_ HO387 hb
           replace HO391 := rb_ HO391 hb
           replace HO413 := rb_ HO413 hb
           replace HO416 := rb_ HO416 hb
           replace HO421 := rb_ HO421 hb
           replace HO424 := rb_ HO424 hb
           replace BK382 := kb_ BK382 hb
           replace BK383 := kb_ BK383 hb
           replace BK384 := kb_ BK384 hb
           replace BK418 := kb_ BK418 hb
           replace BK426 := kb_ BK426 hb
           replace HB := bs_ HB hb
           (try clear hb)
           (try clear hb2)
           (try clear hk)
           (try clear hi)
           refine hK.out _ _ ⟨(blk_cell BK418.out 0).trans rfl, (blk_cell BK418.out 1).trans rfl, (blk_cell BK426.out 0).trans rfl, (blk_cell BK426.out 1).trans rfl, (blk_cell BK382.out 0).trans rfl, (blk_cell BK382.out 1).trans rfl⟩ (fun hHeld => ?_)
           clear hK K
           refine nI_ ?_
           iterate 3 (refine pI_ ?_)
           refine tI6_ ?_
           refine tI6_ ?_
           refine oI_ (fun K hK => ?_)
           refine gE_ Tryd.func73 #[.agg #[.slice A0_0 l0_0.length c0_0, .slice A0_1 l0_1.length c0_1]] ?_
           with_reducible refine (impl_IsHouse.calls _ _ l0_0 _ _ l0_1 t430 _ ?side1 ?side2 ?side3 ?side4 A121.out).mono ?_
           (case side1 => exact cs_ (Kd.C_below HR0_0.out HB.out))
           (case side2 => exact HC0_0.out)
           (case side3 => exact cs_ (Kd.C_below HR0_1.out HB.out))
           (case side4 => exact HC0_1.out)
           rintro e w183 ⟨rfl, hb⟩
           refine ⟨_, rfl, ?_⟩
           replace HO387 := rb_ HO387 hb
           replace HO391 := rb_ HO391 hb
           replace HO413 := rb_ HO413 hb
           replace HO416 := rb_ HO416 hb
           replace HO421 := rb_ HO421 hb
           replace HO424 := rb_ HO424 hb
           replace BK382 := kb_ BK382 hb
           replace BK383 := kb_ BK383 hb
           replace BK384 := kb_ BK384 hb
           replace BK418 := kb_ BK418 hb
           replace BK426 := kb_ BK426 hb
           replace HB := bs_ HB hb
           (try clear hb)
           (try clear hb2)
           (try clear hk)
           (try clear hi)
           refine hK.out _ _ ⟨(blk_cell BK418.out 0).trans rfl, (blk_cell BK418.out 1).trans rfl, (blk_cell BK426.out 0).trans rfl, (blk_cell BK426.out 1).trans rfl, (blk_cell BK382.out 0).trans rfl, (blk_cell BK382.out 1).trans rfl⟩ (fun hHeld => ?_)
           clear hK K
           refine nI_ ?_
           refine oI_ (fun K hK => ?_)
           refine gE_ Tryd.func74 #[.agg #[.slice A0_0 l0_0.length c0_0, .slice A0_1 l0_1.length c0_1]] ?_
           with_reducible refine (spec_IsHouse.calls k _ _ l0_0 _ _ l0_1 t431 _ ?side1 ?side2 ?side3 ?side4 A122.out).mono ?_
           (case side1 => exact cs_ (Kd.C_below HR0_0.out HB.out))
           (case side2 => exact HC0_0.out)
           (case side3 => exact cs_ (Kd.C_below HR0_1.out HB.out))
           (case side4 => exact HC0_1.out)
           rintro e w184 ⟨rfl, hb⟩
           refine ⟨_, rfl, ?_⟩
           replace HO387 := rb_ HO387 hb
           replace HO391 := rb_ HO391 hb
           replace HO413 := rb_ HO413 hb
           replace HO416 := rb_ HO416 hb
           replace HO421 := rb_ HO421 hb
           replace HO424 := rb_ HO424 hb
           replace BK382 := kb_ BK382 hb
           replace BK383 := kb_ BK383 hb
           replace BK384 := kb_ BK384 hb
           replace BK418 := kb_ BK418 hb
           replace BK426 := kb_ BK426 hb
           replace HB := bs_ HB hb
           (try clear hb)
           (try clear hb2)
           (try clear hk)
           (try clear hi)
           refine hK.out _ _ ⟨(blk_cell BK418.out 0).trans rfl, (blk_cell BK418.out 1).trans rfl, (blk_cell BK426.out 0).trans rfl, (blk_cell BK426.out 1).trans rfl, (blk_cell BK382.out 0).trans rfl, (blk_cell BK382.out 1).trans rfl⟩ (fun hHeld => ?_)
           clear hK K
           refine nI_ ?_
           iterate 15 (refine pI_ ?_)
           refine pL_ (v := undef) (a' := ?_) rfl (any_of HT_.out (by kernel_rfl)) (fun _ _ _ h => h) (Or.inr ⟨by rfl, rfl⟩) ?_ ?_
           rotate_left
           ·simp only [Act.put, List.setIfInBounds_toArray, List.set_cons_zero, List.set_cons_succ, i64_w, i32_w]; rfl
           refine pL_ (v := undef) (a' := ?_) rfl (any_of HT_.out (by kernel_rfl)) (fun _ _ _ h => h) (Or.inr ⟨by rfl, rfl⟩) ?_ ?_
           rotate_left
           ·simp only [Act.put, List.setIfInBounds_toArray, List.set_cons_zero, List.set_cons_succ, i64_w, i32_w]; rfl
           iterate 6 (refine pI_ ?_)
           refine pL_ (v := undef) (a' := ?_) rfl (any_of HT_.out (by kernel_rfl)) (fun _ _ _ h => h) (Or.inr ⟨by rfl, rfl⟩) ?_ ?_
           rotate_left
           ·simp only [Act.put, List.setIfInBounds_toArray, List.set_cons_zero, List.set_cons_succ, i64_w, i32_w]; rfl
           refine pL_ (v := undef) (a' := ?_) rfl (any_of HT_.out (by kernel_rfl)) (fun _ _ _ h => h) (Or.inr ⟨by rfl, rfl⟩) ?_ ?_
           rotate_left
           ·simp only [Act.put, List.setIfInBounds_toArray, List.set_cons_zero, List.set_cons_succ, i64_w, i32_w]; rfl
           refine pL_ (v := undef) (a' := ?_) rfl (any_of HT_.out (by kernel_rfl)) (fun _ _ _ h => h) (Or.inr ⟨by rfl, rfl⟩) ?_ ?_
           rotate_left
           ·simp only [Act.put, List.setIfInBounds_toArray, List.set_cons_zero, List.set_cons_succ, i64_w, i32_w]; rfl
           refine pL_ (v := undef) (a' := ?_) rfl (any_of HT_.out (by kernel_rfl)) (fun _ _ _ h => h) (Or.inr ⟨by rfl, rfl⟩) ?_ ?_
           rotate_left
           ·simp only [Act.put, List.setIfInBounds_toArray, List.set_cons_zero, List.set_cons_succ, i64_w, i32_w]; rfl
           iterate 3 (refine pI_ ?_)
           refine dL_ (done_of HT_.out (by kernel_rfl)) ?_
           try go_wp2
           go_meet
           case rel => exact ⟨_, ((t417 != false)), (by first | rfl | (simp; done) | (simp [*]; done)), H', ⟨by first | omega | exact Nat.le_refl _⟩, ⟨by refine lr_ ?_; exact Kd.R_mono HO387.out (fun _ hk => ⟨hk.2.1, ⟨hk.2.2.1, ⟨hk.2.2.2.1, hk.2.2.2.2⟩⟩⟩)⟩, ⟨by refine lr_ ?_; exact Kd.R_mono HO413.out (fun _ hk => ⟨hk.1, ⟨hk.2.2.1, ⟨hk.2.2.2.1, hk.2.2.2.2⟩⟩⟩)⟩, ⟨by refine lr_ ?_; exact Kd.R_mono HO416.out (fun _ hk => ⟨hk.1, ⟨hk.2.2.1, ⟨hk.2.2.2.1, hk.2.2.2.2⟩⟩⟩)⟩, ⟨by refine lr_ ?_; exact Kd.R_mono HO421.out (fun _ hk => ⟨hk.1, ⟨hk.2.2.1, ⟨hk.2.2.2.1, hk.2.2.2.2⟩⟩⟩)⟩, ⟨by refine lr_ ?_; exact Kd.R_mono HO424.out (fun _ hk => ⟨hk.1, ⟨hk.2.2.1, ⟨hk.2.2.2.1, hk.2.2.2.2⟩⟩⟩)⟩, ⟨up_ BK382.out⟩, ⟨up_ BK383.out⟩, ⟨up_ BK384.out⟩, ⟨up_ BK418.out⟩, ⟨up_ BK426.out⟩, ⟨dn_ HB.out⟩⟩
         replace c106 := Bool.eq_false_iff.mpr c106
         subst c106
         rw [if_neg (show ¬ (false = true) by decide)] at H
         exact absurd H laws_FnHousesBuiltOfAll.j0_no
        rw [if_neg c99] at H
        exact absurd H laws_FnHousesBuiltOfAll.j0_no
       rw [if_neg c93] at H
       exact absurd H laws_FnHousesBuiltOfAll.j0_no
      rw [if_neg c87] at H
      exact absurd H laws_FnHousesBuiltOfAll.j0_no
     rw [if_neg c86] at H
     exact absurd H laws_FnHousesBuiltOfAll.j0_no
    rw [if_neg c80] at H
    exact absurd H laws_FnHousesBuiltOfAll.j0_no
   replace c74 := Bool.eq_false_iff.mpr c74
   subst c74
   rw [if_neg (show ¬ (false = true) by decide)] at H
   exact absurd H laws_FnHousesBuiltOfAll.j0_no
 as_aux_lemma =>
  clear HC25
  (try clear p2); (try clear c7); try clear c71
  obtain ⟨kq, x256_24, rfl, HA, HJ24, HO_17, HO_419000, HO_419001, HO_427000, HO_427001, BK382, BK383, BK384, BK418, BK426, HB⟩ := hcut
  rcases kq with _ | kj24
  ·exact absurd HA.out (by simp [laws_FnHousesBuiltOfAll.j0])
  have H := HA.out
  clear HA
  simp only [laws_FnHousesBuiltOfAll.j0] at H
  by_cases c214 : x256_24 = true
  ·subst c214
   rw [if_pos rfl] at H
   exact absurd (Option.some.inj H) (by decide)
  replace c214 := Bool.eq_false_iff.mpr c214
  subst c214
  rw [if_neg (show ¬ (false = true) by decide)] at H
  have HC215 := Aside0.mk H
  clear H
  go_upto_if 257 with (fail)
  go_cut [] from 257 to 257 (fun wc => ∃ (kq : Nat), Aside0 (laws_FnHousesBuiltOfAll.j5 kq a3 a4 a6 a7 t397 t398 t399 t403 t407 t417 l0_0 l0_1 l2_0 l2_1 l5_0 l5_1 t411 t414 = some true) ∧ Aside0 (kq ≤ kj24) ∧ Aside0 (Kd.R (Kd.int .i64) 3 wc w.heap.size (fun k_ => some k_ ≠ ((.slice Ao59 t414.length co59) : Value).ownBlock ∧ some k_ ≠ ((.slice Ao63 t419.length co63) : Value).ownBlock ∧ some k_ ≠ ((.slice Ao69 t422.length co69) : Value).ownBlock) (.slice Ao54 t411.length co54) t411) ∧ Aside0 (Kd.R (Kd.int .i64) 3 wc w.heap.size (fun k_ => some k_ ≠ ((.slice Ao54 t411.length co54) : Value).ownBlock ∧ some k_ ≠ ((.slice Ao63 t419.length co63) : Value).ownBlock ∧ some k_ ≠ ((.slice Ao69 t422.length co69) : Value).ownBlock) (.slice Ao59 t414.length co59) t414) ∧ Aside0 (Kd.R (Kd.int .i64) 3 wc w.heap.size (fun k_ => some k_ ≠ ((.slice Ao54 t411.length co54) : Value).ownBlock ∧ some k_ ≠ ((.slice Ao59 t414.length co59) : Value).ownBlock ∧ some k_ ≠ ((.slice Ao69 t422.length co69) : Value).ownBlock) (.slice Ao63 t419.length co63) t419) ∧ Aside0 (Kd.R (Kd.int .i64) 3 wc w.heap.size (fun k_ => some k_ ≠ ((.slice Ao54 t411.length co54) : Value).ownBlock ∧ some k_ ≠ ((.slice Ao59 t414.length co59) : Value).ownBlock ∧ some k_ ≠ ((.slice Ao63 t419.length co63) : Value).ownBlock) (.slice Ao69 t422.length co69) t422) ∧ Aside0 (wc.heap[gb382]? = some (.cells #[(.slice A0_0 l0_0.length c0_0), (.slice A0_1 l0_1.length c0_1)] 40 (0, 0))) ∧ Aside0 (wc.heap[gb383]? = some (.cells #[(.slice A2_0 l2_0.length c2_0), (.slice A2_1 l2_1.length c2_1)] 40 (0, 0))) ∧ Aside0 (wc.heap[gb384]? = some (.cells #[(.slice A5_0 l5_0.length c5_0), (.slice A5_1 l5_1.length c5_1)] 40 (0, 0))) ∧ Aside0 (wc.heap[gb418]? = some (.cells #[(.slice Ao54 t411.length co54), (.slice Ao59 t414.length co59)] 40 (0, 0))) ∧ Aside0 (wc.heap[gb426]? = some (.cells #[(.slice Ao63 t419.length co63), (.slice Ao69 t422.length co69)] 40 (0, 0))) ∧ Aside0 (Below w.heap.size w wc))
  case first =>
   as_aux_lemma =>
    have H := HC215.out
    clear HC215
    by_cases c216 : t388 = true
    ·subst c216
     rw [if_pos rfl] at H
     have HC217 := Aside0.mk H
     clear H
     go_upto_region 18 with (fail)
     go_cut [266] from 266 to 266 (fun v266 wc => ∃ (kq : Nat) (x266_216 : Bool), v266 = .bool x266_216 ∧ Aside0 (laws_FnHousesBuiltOfAll.j1 kq a1 a3 a4 a6 a7 t385 t393 t397 t398 t399 t403 t407 t417 x266_216 l0_0 l0_1 l2_0 l2_1 l5_0 l5_1 t411 t414 = some true) ∧ Aside0 (kq ≤ kj24) ∧ Aside0 (Kd.R (Kd.int .i64) 3 wc w.heap.size (fun k_ => some k_ ≠ ((.slice Ao54 t411.length co54) : Value).ownBlock ∧ some k_ ≠ ((.slice Ao59 t414.length co59) : Value).ownBlock ∧ some k_ ≠ ((.slice Ao63 t419.length co63) : Value).ownBlock ∧ some k_ ≠ ((.slice Ao69 t422.length co69) : Value).ownBlock) v386 t385) ∧ Aside0 (Kd.R (Kd.int .i64) 3 wc w.heap.size (fun k_ => some k_ ≠ (v386 : Value).ownBlock ∧ some k_ ≠ ((.slice Ao59 t414.length co59) : Value).ownBlock ∧ some k_ ≠ ((.slice Ao63 t419.length co63) : Value).ownBlock ∧ some k_ ≠ ((.slice Ao69 t422.length co69) : Value).ownBlock) (.slice Ao54 t411.length co54) t411) ∧ Aside0 (Kd.R (Kd.int .i64) 3 wc w.heap.size (fun k_ => some k_ ≠ (v386 : Value).ownBlock ∧ some k_ ≠ ((.slice Ao54 t411.length co54) : Value).ownBlock ∧ some k_ ≠ ((.slice Ao63 t419.length co63) : Value).ownBlock ∧ some k_ ≠ ((.slice Ao69 t422.length co69) : Value).ownBlock) (.slice Ao59 t414.length co59) t414) ∧ Aside0 (Kd.R (Kd.int .i64) 3 wc w.heap.size (fun k_ => some k_ ≠ (v386 : Value).ownBlock ∧ some k_ ≠ ((.slice Ao54 t411.length co54) : Value).ownBlock ∧ some k_ ≠ ((.slice Ao59 t414.length co59) : Value).ownBlock ∧ some k_ ≠ ((.slice Ao69 t422.length co69) : Value).ownBlock) (.slice Ao63 t419.length co63) t419) ∧ Aside0 (Kd.R (Kd.int .i64) 3 wc w.heap.size (fun k_ => some k_ ≠ (v386 : Value).ownBlock ∧ some k_ ≠ ((.slice Ao54 t411.length co54) : Value).ownBlock ∧ some k_ ≠ ((.slice Ao59 t414.length co59) : Value).ownBlock ∧ some k_ ≠ ((.slice Ao63 t419.length co63) : Value).ownBlock) (.slice Ao69 t422.length co69) t422) ∧ Aside0 (wc.heap[gb382]? = some (.cells #[(.slice A0_0 l0_0.length c0_0), (.slice A0_1 l0_1.length c0_1)] 40 (0, 0))) ∧ Aside0 (wc.heap[gb383]? = some (.cells #[(.slice A2_0 l2_0.length c2_0), (.slice A2_1 l2_1.length c2_1)] 40 (0, 0))) ∧ Aside0 (wc.heap[gb384]? = some (.cells #[(.slice A5_0 l5_0.length c5_0), (.slice A5_1 l5_1.length c5_1)] 40 (0, 0))) ∧ Aside0 (wc.heap[gb418]? = some (.cells #[(.slice Ao54 t411.length co54), (.slice Ao59 t414.length co59)] 40 (0, 0))) ∧ Aside0 (wc.heap[gb426]? = some (.cells #[(.slice Ao63 t419.length co63), (.slice Ao69 t422.length co69)] 40 (0, 0))) ∧ Aside0 (Below w.heap.size w wc))
     case first =>
      as_aux_lemma =>
       have H := HC217.out
       clear HC217
       by_cases c218 : (t385.length : Int) = t393
       ·rw [if_pos c218] at H
        have c218b0 : ((t385.length : Int) == t393) = true := beq_iff_eq.mpr c218
        have c218b1 : ((t385.length : Int) != t393) = false := bne_eq_false_iff_eq.mpr c218
        clear c218
        replace H := Option.bind_eq_some_iff.mp H
        obtain ⟨t432, A2190, H⟩ := H
        try dsimp only at H
        have A219 := Aside0.mk A2190
        clear A2190
        have H' := Aside0.mk H
        clear H
        obtain ⟨Ao220, co220, eo220⟩ := Kd.R_slice HO_17.out
        subst eo220
        go_wp2_with (first | (go_at_call 75; (with_reducible refine (laws_wRises.calls kj24 _ _ t385 t432 _ ?side1 ?side2 A219.out).mono ?_); (case side1 => exact cs_ (Kd.R_reads' HO_17.out).2.2); (case side2 => exact (Kd.R_reads' HO_17.out).2.1); rintro e w' ⟨rfl, ⟨nd, rfl⟩⟩))
        go_meet
        case rel => exact ⟨_, (!t432), (by first | rfl | (simp; done) | (simp [*]; done)), H', ⟨by have := HJ24.out; first | omega | exact Nat.le_refl _⟩, ⟨up_ HO_17.out⟩, ⟨up_ HO_419000.out⟩, ⟨up_ HO_419001.out⟩, ⟨up_ HO_427000.out⟩, ⟨up_ HO_427001.out⟩, ⟨up_ BK382.out⟩, ⟨up_ BK383.out⟩, ⟨up_ BK384.out⟩, ⟨up_ BK418.out⟩, ⟨up_ BK426.out⟩, ⟨dn_ HB.out⟩⟩
       rw [if_neg c218] at H
       exact absurd H laws_FnHousesBuiltOfAll.j1_no
     as_aux_lemma =>
      clear HC217
      (try clear c2); (try clear p2); (try clear c5); (try clear c7); (try clear c21); (try clear c71); (try clear c214); (try clear c216); (try clear c218); (try clear c218b0); (try clear c218b1); try clear p2
      obtain ⟨kq, x266_216, rfl, HA, HJ216, HO_17, HO_419000, HO_419001, HO_427000, HO_427001, BK382, BK383, BK384, BK418, BK426, HB⟩ := hcut
      rcases kq with _ | kj216
      ·exact absurd HA.out (by simp [laws_FnHousesBuiltOfAll.j1])
      have H := HA.out
      clear HA
      simp only [laws_FnHousesBuiltOfAll.j1] at H
      by_cases c222 : x266_216 = true
      ·subst c222
       rw [if_pos rfl] at H
       exact absurd (Option.some.inj H) (by decide)
      replace c222 := Bool.eq_false_iff.mpr c222
      subst c222
      rw [if_neg (show ¬ (false = true) by decide)] at H
      have H' := Aside0.mk H
      clear H
      have hnb223 := NB382_383.out
      have hnc223 := NB383_382.out
      have hnb224 := NB382_384.out
      have hnc224 := NB384_382.out
      have hnb225 := NB382_418.out
      have hnc225 := NB418_382.out
      have hnb226 := NB382_426.out
      have hnc226 := NB426_382.out
      obtain ⟨hcz227_0, hcz227_1, hfz227_0, hfz227_1⟩ := cf2_ BK382
      go_wp2
      go_loopg [43, 44, 270] kj216 (fun kq v43 v44 v270 w' => ∃ (x43_3 : Int) (x44_3 : Int) (x270_3 : Int), v43 = .int .i64 x43_3 ∧ v44 = .int .i64 x44_3 ∧ v270 = .int .i64 x270_3 ∧ Aside0 (laws_FnHousesBuiltOfAll.l0 kq a1 a3 a4 a6 a7 t385 t393 t397 t398 t399 t403 t407 t417 x43_3 x44_3 l0_0 (l0_0.length : Int) x270_3 l0_0 l0_1 l2_0 l2_1 l5_0 l5_1 t411 t414 = some true) ∧ Aside0 (kq ≤ kj216) ∧ Aside0 (Kd.R (Kd.int .i64) 3 w' w.heap.size (fun k_ => some k_ ≠ ((.slice Ao54 t411.length co54) : Value).ownBlock ∧ some k_ ≠ ((.slice Ao59 t414.length co59) : Value).ownBlock ∧ some k_ ≠ ((.slice Ao63 t419.length co63) : Value).ownBlock ∧ some k_ ≠ ((.slice Ao69 t422.length co69) : Value).ownBlock) v386 t385) ∧ Aside0 (Kd.R (Kd.int .i64) 3 w' w.heap.size (fun k_ => some k_ ≠ (v386 : Value).ownBlock ∧ some k_ ≠ ((.slice Ao59 t414.length co59) : Value).ownBlock ∧ some k_ ≠ ((.slice Ao63 t419.length co63) : Value).ownBlock ∧ some k_ ≠ ((.slice Ao69 t422.length co69) : Value).ownBlock) (.slice Ao54 t411.length co54) t411) ∧ Aside0 (Kd.R (Kd.int .i64) 3 w' w.heap.size (fun k_ => some k_ ≠ (v386 : Value).ownBlock ∧ some k_ ≠ ((.slice Ao54 t411.length co54) : Value).ownBlock ∧ some k_ ≠ ((.slice Ao63 t419.length co63) : Value).ownBlock ∧ some k_ ≠ ((.slice Ao69 t422.length co69) : Value).ownBlock) (.slice Ao59 t414.length co59) t414) ∧ Aside0 (Kd.R (Kd.int .i64) 3 w' w.heap.size (fun k_ => some k_ ≠ (v386 : Value).ownBlock ∧ some k_ ≠ ((.slice Ao54 t411.length co54) : Value).ownBlock ∧ some k_ ≠ ((.slice Ao59 t414.length co59) : Value).ownBlock ∧ some k_ ≠ ((.slice Ao69 t422.length co69) : Value).ownBlock) (.slice Ao63 t419.length co63) t419) ∧ Aside0 (Kd.R (Kd.int .i64) 3 w' w.heap.size (fun k_ => some k_ ≠ (v386 : Value).ownBlock ∧ some k_ ≠ ((.slice Ao54 t411.length co54) : Value).ownBlock ∧ some k_ ≠ ((.slice Ao59 t414.length co59) : Value).ownBlock ∧ some k_ ≠ ((.slice Ao63 t419.length co63) : Value).ownBlock) (.slice Ao69 t422.length co69) t422) ∧ Aside0 (w'.heap[gb382]? = some (.cells #[(.slice A0_0 l0_0.length c0_0), (.slice A0_1 l0_1.length c0_1)] 40 (0, 0))) ∧ Aside0 (w'.heap[gb383]? = some (.cells #[(.slice A2_0 l2_0.length c2_0), (.slice A2_1 l2_1.length c2_1)] 40 (0, 0))) ∧ Aside0 (w'.heap[gb384]? = some (.cells #[(.slice A5_0 l5_0.length c5_0), (.slice A5_1 l5_1.length c5_1)] 40 (0, 0))) ∧ Aside0 (w'.heap[gb418]? = some (.cells #[(.slice Ao54 t411.length co54), (.slice Ao59 t414.length co59)] 40 (0, 0))) ∧ Aside0 (w'.heap[gb426]? = some (.cells #[(.slice Ao63 t419.length co63), (.slice Ao69 t422.length co69)] 40 (0, 0))) ∧ Aside0 (Below w.heap.size w w'))
      case atStart => exact ⟨(0), (0), (0), (by first | rfl | (simp; done) | (simp [*]; done)), (by first | rfl | (simp; done) | (simp [*]; done)), (by first | rfl | (simp; done) | (simp [*]; done)), H', ⟨Nat.le_refl _⟩, ⟨up_ HO_17.out⟩, ⟨up_ HO_419000.out⟩, ⟨up_ HO_419001.out⟩, ⟨up_ HO_427000.out⟩, ⟨up_ HO_427001.out⟩, ⟨up_ BK382.out⟩, ⟨up_ BK383.out⟩, ⟨up_ BK384.out⟩, ⟨up_ BK418.out⟩, ⟨up_ BK426.out⟩, ⟨dn_ HB.out⟩⟩
      case round =>
       clear H'
       (try clear c2); (try clear p2); (try clear c5); (try clear c7); (try clear c21); (try clear c22); (try clear c71); (try clear c214); (try clear c216); (try clear c218); (try clear c218b0); (try clear c218b1); (try clear c222); (try clear c223); (try clear c224); (try clear c225); (try clear c226); (try clear hcz227_0); (try clear hcz227_1); (try clear hfz227_0); (try clear hfz227_1); try clear p2
       obtain ⟨x43_3, x44_3, x270_3, rfl, rfl, rfl, HA, HK3, HO_17, HO_419000, HO_419001, HO_427000, HO_427001, BK382, BK383, BK384, BK418, BK426, HB⟩ := hrel
       rcases gk with _ | k3
       ·exact absurd HA.out (by simp [laws_FnHousesBuiltOfAll.l0])
       have H := HA.out
       clear HA
       simp only [laws_FnHousesBuiltOfAll.l0] at H
       by_cases c228 : x270_3 < (l0_0.length : Int)
       ·rw [if_pos c228] at H
        have c228b0 : decide (x270_3 < (l0_0.length : Int)) = true := decide_eq_true c228
        clear c228
        by_cases c229 : 0 ≤ x270_3
        ·rw [if_pos c229] at H
         have c229b0 : decide (0 ≤ x270_3) = true := decide_eq_true c229
         clear c229
         by_cases c230 : x270_3 < (l0_0.length : Int)
         ·rw [if_pos c230] at H
          have c230b0 : decide (x270_3 < (l0_0.length : Int)) = true := decide_eq_true c230
          clear c230
          have H' := Aside0.mk H
          clear H
          have p433 : 0 ≤ (x270_3 : Int) := of_decide_eq_true (by first | (with_reducible assumption) | assumption)
          have q433 : x270_3 < (l0_0.length : Int) := of_decide_eq_true (by first | (with_reducible assumption) | assumption)
          obtain ⟨ad433, e433, hx433_0⟩ := Kd.at_int HR0_0.out x270_3 p433 q433
          cases e433
          replace hx433_0 := (HB.out.cell (World.block_lt_of_cell? w _ hx433_0)).trans hx433_0
          replace p433 := eq_true p433
          replace q433 := eq_true q433
          obtain ⟨Ao231, co231, eo231⟩ := Kd.R_slice HO_17.out
          subst eo231
          go_wp2
          go_loopg [47, 277] k3 (fun kq v47 v277 w' => ∃ (x47_4 : Int) (x277_4 : Int), v47 = .int .i64 x47_4 ∧ v277 = .int .i64 x277_4 ∧ Aside0 (laws_FnHousesBuiltOfAll.l1 kq a1 a3 a4 a6 a7 t385 t393 t397 t398 t399 t403 t407 t417 x43_3 x44_3 (rd l0_0 x270_3) x47_4 l0_0 (l0_0.length : Int) x270_3 t385 (t385.length : Int) x277_4 l0_0 l0_1 l2_0 l2_1 l5_0 l5_1 t411 t414 = some true) ∧ Aside0 (kq ≤ k3) ∧ Aside0 (Kd.R (Kd.int .i64) 3 w' w.heap.size (fun k_ => some k_ ≠ ((.slice Ao54 t411.length co54) : Value).ownBlock ∧ some k_ ≠ ((.slice Ao59 t414.length co59) : Value).ownBlock ∧ some k_ ≠ ((.slice Ao63 t419.length co63) : Value).ownBlock ∧ some k_ ≠ ((.slice Ao69 t422.length co69) : Value).ownBlock) (.slice Ao231 t385.length co231) t385) ∧ Aside0 (Kd.R (Kd.int .i64) 3 w' w.heap.size (fun k_ => some k_ ≠ ((.slice Ao54 t411.length co54) : Value).ownBlock ∧ some k_ ≠ ((.slice Ao59 t414.length co59) : Value).ownBlock ∧ some k_ ≠ ((.slice Ao63 t419.length co63) : Value).ownBlock ∧ some k_ ≠ ((.slice Ao69 t422.length co69) : Value).ownBlock) (.slice Ao231 t385.length co231) t385) ∧ Aside0 (Kd.R (Kd.int .i64) 3 w' w.heap.size (fun k_ => some k_ ≠ ((.slice Ao231 t385.length co231) : Value).ownBlock ∧ some k_ ≠ ((.slice Ao231 t385.length co231) : Value).ownBlock ∧ some k_ ≠ ((.slice Ao59 t414.length co59) : Value).ownBlock ∧ some k_ ≠ ((.slice Ao63 t419.length co63) : Value).ownBlock ∧ some k_ ≠ ((.slice Ao69 t422.length co69) : Value).ownBlock) (.slice Ao54 t411.length co54) t411) ∧ Aside0 (Kd.R (Kd.int .i64) 3 w' w.heap.size (fun k_ => some k_ ≠ ((.slice Ao231 t385.length co231) : Value).ownBlock ∧ some k_ ≠ ((.slice Ao231 t385.length co231) : Value).ownBlock ∧ some k_ ≠ ((.slice Ao54 t411.length co54) : Value).ownBlock ∧ some k_ ≠ ((.slice Ao63 t419.length co63) : Value).ownBlock ∧ some k_ ≠ ((.slice Ao69 t422.length co69) : Value).ownBlock) (.slice Ao59 t414.length co59) t414) ∧ Aside0 (Kd.R (Kd.int .i64) 3 w' w.heap.size (fun k_ => some k_ ≠ ((.slice Ao231 t385.length co231) : Value).ownBlock ∧ some k_ ≠ ((.slice Ao231 t385.length co231) : Value).ownBlock ∧ some k_ ≠ ((.slice Ao54 t411.length co54) : Value).ownBlock ∧ some k_ ≠ ((.slice Ao59 t414.length co59) : Value).ownBlock ∧ some k_ ≠ ((.slice Ao69 t422.length co69) : Value).ownBlock) (.slice Ao63 t419.length co63) t419) ∧ Aside0 (Kd.R (Kd.int .i64) 3 w' w.heap.size (fun k_ => some k_ ≠ ((.slice Ao231 t385.length co231) : Value).ownBlock ∧ some k_ ≠ ((.slice Ao231 t385.length co231) : Value).ownBlock ∧ some k_ ≠ ((.slice Ao54 t411.length co54) : Value).ownBlock ∧ some k_ ≠ ((.slice Ao59 t414.length co59) : Value).ownBlock ∧ some k_ ≠ ((.slice Ao63 t419.length co63) : Value).ownBlock) (.slice Ao69 t422.length co69) t422) ∧ Aside0 (w'.heap[gb382]? = some (.cells #[(.slice (some ad433) l0_0.length c0_0), (.slice A0_1 l0_1.length c0_1)] 40 (0, 0))) ∧ Aside0 (w'.heap[gb383]? = some (.cells #[(.slice A2_0 l2_0.length c2_0), (.slice A2_1 l2_1.length c2_1)] 40 (0, 0))) ∧ Aside0 (w'.heap[gb384]? = some (.cells #[(.slice A5_0 l5_0.length c5_0), (.slice A5_1 l5_1.length c5_1)] 40 (0, 0))) ∧ Aside0 (w'.heap[gb418]? = some (.cells #[(.slice Ao54 t411.length co54), (.slice Ao59 t414.length co59)] 40 (0, 0))) ∧ Aside0 (w'.heap[gb426]? = some (.cells #[(.slice Ao63 t419.length co63), (.slice Ao69 t422.length co69)] 40 (0, 0))) ∧ Aside0 (Below w.heap.size w w'))
          case atStart => exact ⟨(x43_3), (0), (by first | rfl | (simp; done) | (simp [*]; done)), (by first | rfl | (simp; done) | (simp [*]; done)), H', ⟨Nat.le_refl _⟩, ⟨up_ HO_17.out⟩, ⟨up_ HO_17.out⟩, ⟨by refine lr_ ?_; exact Kd.R_mono HO_419000.out (fun _ hk => ⟨hk.1, ⟨hk.1, ⟨hk.2.1, ⟨hk.2.2.1, hk.2.2.2⟩⟩⟩⟩)⟩, ⟨by refine lr_ ?_; exact Kd.R_mono HO_419001.out (fun _ hk => ⟨hk.1, ⟨hk.1, ⟨hk.2.1, ⟨hk.2.2.1, hk.2.2.2⟩⟩⟩⟩)⟩, ⟨by refine lr_ ?_; exact Kd.R_mono HO_427000.out (fun _ hk => ⟨hk.1, ⟨hk.1, ⟨hk.2.1, ⟨hk.2.2.1, hk.2.2.2⟩⟩⟩⟩)⟩, ⟨by refine lr_ ?_; exact Kd.R_mono HO_427001.out (fun _ hk => ⟨hk.1, ⟨hk.1, ⟨hk.2.1, ⟨hk.2.2.1, hk.2.2.2⟩⟩⟩⟩)⟩, ⟨up_ BK382.out⟩, ⟨up_ BK383.out⟩, ⟨up_ BK384.out⟩, ⟨up_ BK418.out⟩, ⟨up_ BK426.out⟩, ⟨dn_ HB.out⟩⟩
          case round =>
           clear H'
           (try clear c2); (try clear p2); (try clear p4); (try clear q4); (try clear hx4); (try clear c5); (try clear c7); (try clear c21); (try clear c22); (try clear c23); (try clear p43); (try clear q43); (try clear hx43); (try clear c71); (try clear c214); (try clear c216); (try clear c218); (try clear c218b0); (try clear c218b1); (try clear c222); (try clear c223); (try clear c224); (try clear c225); (try clear c226); (try clear c228); (try clear c228b0); (try clear c229); (try clear c229b0); (try clear c230); (try clear c230b0); (try clear hcz227_0); (try clear hcz227_1); (try clear hfz227_0); (try clear hfz227_1); (try clear hx433_0); (try clear p2); (try clear p433); try clear q433
           obtain ⟨x47_4, x277_4, rfl, rfl, HA, HK4, HO_17, HO_275, HO_419000, HO_419001, HO_427000, HO_427001, BK382, BK383, BK384, BK418, BK426, HB⟩ := hrel
           rcases gk with _ | k4
           ·exact absurd HA.out (by simp [laws_FnHousesBuiltOfAll.l1])
           have H := HA.out
           clear HA
           simp only [laws_FnHousesBuiltOfAll.l1] at H
           by_cases c232 : x277_4 < (t385.length : Int)
           ·rw [if_pos c232] at H
            have c232b0 : decide (x277_4 < (t385.length : Int)) = true := decide_eq_true c232
            clear c232
            by_cases c233 : 0 ≤ x277_4
            ·rw [if_pos c233] at H
             have c233b0 : decide (0 ≤ x277_4) = true := decide_eq_true c233
             clear c233
             by_cases c234 : x277_4 < (t385.length : Int)
             ·rw [if_pos c234] at H
              have c234b0 : decide (x277_4 < (t385.length : Int)) = true := decide_eq_true c234
              clear c234
              have HC235 := Aside0.mk H
              clear H
              have p434 : 0 ≤ (x277_4 : Int) := of_decide_eq_true (by first | (with_reducible assumption) | assumption)
              have q434 : x277_4 < (t385.length : Int) := of_decide_eq_true (by first | (with_reducible assumption) | assumption)
              obtain ⟨ad434, e434, hx434_0⟩ := Kd.at_int (Kd.R_reads' HO_275.out).2.2 x277_4 p434 q434
              cases e434
              replace p434 := eq_true p434
              replace q434 := eq_true q434
              go_upto_region 28 with (fail)
              go_cut [290] from 290 to 290 (fun v290 wc => ∃ (kq : Nat) (x290_234 : Bool), v290 = .bool x290_234 ∧ Aside0 (laws_FnHousesBuiltOfAll.j4 kq a1 a3 a4 a6 a7 t385 t393 t397 t398 t399 t403 t407 t417 x43_3 x44_3 (rd l0_0 x270_3) x47_4 (rd t385 x277_4) l0_0 (l0_0.length : Int) x270_3 t385 (t385.length : Int) x277_4 x290_234 l0_0 l0_1 l2_0 l2_1 l5_0 l5_1 t411 t414 = some true) ∧ Aside0 (kq ≤ k4) ∧ Aside0 (Kd.R (Kd.int .i64) 3 wc w.heap.size (fun k_ => some k_ ≠ ((.slice Ao54 t411.length co54) : Value).ownBlock ∧ some k_ ≠ ((.slice Ao59 t414.length co59) : Value).ownBlock ∧ some k_ ≠ ((.slice Ao63 t419.length co63) : Value).ownBlock ∧ some k_ ≠ ((.slice Ao69 t422.length co69) : Value).ownBlock) (.slice (some ad434) t385.length co231) t385) ∧ Aside0 (Kd.R (Kd.int .i64) 3 wc w.heap.size (fun k_ => some k_ ≠ ((.slice Ao54 t411.length co54) : Value).ownBlock ∧ some k_ ≠ ((.slice Ao59 t414.length co59) : Value).ownBlock ∧ some k_ ≠ ((.slice Ao63 t419.length co63) : Value).ownBlock ∧ some k_ ≠ ((.slice Ao69 t422.length co69) : Value).ownBlock) (.slice (some ad434) t385.length co231) t385) ∧ Aside0 (Kd.R (Kd.int .i64) 3 wc w.heap.size (fun k_ => some k_ ≠ ((.slice (some ad434) t385.length co231) : Value).ownBlock ∧ some k_ ≠ ((.slice (some ad434) t385.length co231) : Value).ownBlock ∧ some k_ ≠ ((.slice Ao59 t414.length co59) : Value).ownBlock ∧ some k_ ≠ ((.slice Ao63 t419.length co63) : Value).ownBlock ∧ some k_ ≠ ((.slice Ao69 t422.length co69) : Value).ownBlock) (.slice Ao54 t411.length co54) t411) ∧ Aside0 (Kd.R (Kd.int .i64) 3 wc w.heap.size (fun k_ => some k_ ≠ ((.slice (some ad434) t385.length co231) : Value).ownBlock ∧ some k_ ≠ ((.slice (some ad434) t385.length co231) : Value).ownBlock ∧ some k_ ≠ ((.slice Ao54 t411.length co54) : Value).ownBlock ∧ some k_ ≠ ((.slice Ao63 t419.length co63) : Value).ownBlock ∧ some k_ ≠ ((.slice Ao69 t422.length co69) : Value).ownBlock) (.slice Ao59 t414.length co59) t414) ∧ Aside0 (Kd.R (Kd.int .i64) 3 wc w.heap.size (fun k_ => some k_ ≠ ((.slice (some ad434) t385.length co231) : Value).ownBlock ∧ some k_ ≠ ((.slice (some ad434) t385.length co231) : Value).ownBlock ∧ some k_ ≠ ((.slice Ao54 t411.length co54) : Value).ownBlock ∧ some k_ ≠ ((.slice Ao59 t414.length co59) : Value).ownBlock ∧ some k_ ≠ ((.slice Ao69 t422.length co69) : Value).ownBlock) (.slice Ao63 t419.length co63) t419) ∧ Aside0 (Kd.R (Kd.int .i64) 3 wc w.heap.size (fun k_ => some k_ ≠ ((.slice (some ad434) t385.length co231) : Value).ownBlock ∧ some k_ ≠ ((.slice (some ad434) t385.length co231) : Value).ownBlock ∧ some k_ ≠ ((.slice Ao54 t411.length co54) : Value).ownBlock ∧ some k_ ≠ ((.slice Ao59 t414.length co59) : Value).ownBlock ∧ some k_ ≠ ((.slice Ao63 t419.length co63) : Value).ownBlock) (.slice Ao69 t422.length co69) t422) ∧ Aside0 (wc.heap[gb382]? = some (.cells #[(.slice (some ad433) l0_0.length c0_0), (.slice A0_1 l0_1.length c0_1)] 40 (0, 0))) ∧ Aside0 (wc.heap[gb383]? = some (.cells #[(.slice A2_0 l2_0.length c2_0), (.slice A2_1 l2_1.length c2_1)] 40 (0, 0))) ∧ Aside0 (wc.heap[gb384]? = some (.cells #[(.slice A5_0 l5_0.length c5_0), (.slice A5_1 l5_1.length c5_1)] 40 (0, 0))) ∧ Aside0 (wc.heap[gb418]? = some (.cells #[(.slice Ao54 t411.length co54), (.slice Ao59 t414.length co59)] 40 (0, 0))) ∧ Aside0 (wc.heap[gb426]? = some (.cells #[(.slice Ao63 t419.length co63), (.slice Ao69 t422.length co69)] 40 (0, 0))) ∧ Aside0 (Below w.heap.size w wc))
              case first =>
               as_aux_lemma =>
                have H := HC235.out
                clear HC235
                by_cases c236 : (rd t385 x277_4) > x43_3
                ·rw [if_pos c236] at H
                 have c236b0 : decide (x43_3 < (rd t385 x277_4)) = true := decide_eq_true c236
                 clear c236
                 have H' := Aside0.mk H
                 clear H
                 go_wp2
                 go_meet
                 case rel => exact ⟨_, (decide ((rd t385 x277_4) < (wrap64 (x43_3 + (rd l0_0 x270_3))))), (by first | rfl | (simp; done) | (simp [*]; done)), H', ⟨by have := HJ24.out; have := HJ216.out; have := HK3.out; have := HK4.out; first | omega | exact Nat.le_refl _⟩, ⟨up_ HO_17.out⟩, ⟨up_ HO_275.out⟩, ⟨up_ HO_419000.out⟩, ⟨up_ HO_419001.out⟩, ⟨up_ HO_427000.out⟩, ⟨up_ HO_427001.out⟩, ⟨up_ BK382.out⟩, ⟨up_ BK383.out⟩, ⟨up_ BK384.out⟩, ⟨up_ BK418.out⟩, ⟨up_ BK426.out⟩, ⟨dn_ HB.out⟩⟩
                rw [if_neg c236] at H
                have c236b0 : decide (x43_3 < (rd t385 x277_4)) = false := decide_eq_false c236
                clear c236
                have H' := Aside0.mk H
                clear H
                go_wp2
                go_meet
                case rel => exact ⟨_, (false), (by first | rfl | (simp; done) | (simp [*]; done)), H', ⟨by have := HJ24.out; have := HJ216.out; have := HK3.out; have := HK4.out; first | omega | exact Nat.le_refl _⟩, ⟨up_ HO_17.out⟩, ⟨up_ HO_275.out⟩, ⟨up_ HO_419000.out⟩, ⟨up_ HO_419001.out⟩, ⟨up_ HO_427000.out⟩, ⟨up_ HO_427001.out⟩, ⟨up_ BK382.out⟩, ⟨up_ BK383.out⟩, ⟨up_ BK384.out⟩, ⟨up_ BK418.out⟩, ⟨up_ BK426.out⟩, ⟨dn_ HB.out⟩⟩
              as_aux_lemma =>
               clear HC235
               (try clear c2); (try clear p2); (try clear p4); (try clear q4); (try clear hx4); (try clear c5); (try clear p6); (try clear c7); (try clear c21); (try clear c22); (try clear c23); (try clear p43); (try clear q43); (try clear hx43); (try clear p64); (try clear c71); (try clear c214); (try clear c216); (try clear c218); (try clear c218b0); (try clear c218b1); (try clear c222); (try clear c223); (try clear c224); (try clear c225); (try clear c226); (try clear c228); (try clear c228b0); (try clear c229); (try clear c229b0); (try clear c230); (try clear c230b0); (try clear c232); (try clear c232b0); (try clear c233); (try clear c233b0); (try clear c234); (try clear c234b0); (try clear c236); (try clear c236b0); (try clear hcz227_0); (try clear hcz227_1); (try clear hfz227_0); (try clear hfz227_1); (try clear hx433_0); (try clear hx434_0); (try clear p2); (try clear p4); (try clear p43); (try clear p433); (try clear p434); (try clear q4); (try clear q43); (try clear q433); try clear q434
               obtain ⟨kq, x290_234, rfl, HA, HJ234, HO_17, HO_275, HO_419000, HO_419001, HO_427000, HO_427001, BK382, BK383, BK384, BK418, BK426, HB⟩ := hcut
               rcases kq with _ | kj234
               ·exact absurd HA.out (by simp [laws_FnHousesBuiltOfAll.j4])
               have H := HA.out
               clear HA
               simp only [laws_FnHousesBuiltOfAll.j4] at H
               by_cases c237 : x290_234 = true
               ·subst c237
                rw [if_pos rfl] at H
                by_cases c238 : (wrap64 ((rd t385 x277_4) - x47_4)) > a1
                ·rw [if_pos c238] at H
                 exact absurd (Option.some.inj H) (by decide)
                rw [if_neg c238] at H
                have c238b0 : decide (a1 < (wrap64 ((rd t385 x277_4) - x47_4))) = false := decide_eq_false c238
                clear c238
                have H' := Aside0.mk H
                clear H
                go_wp2
                go_roundg kj234
                case measure => have := HJ24.out; have := HJ216.out; have := HK3.out; have := HK4.out; have := HJ234.out; omega
                case rel => exact ⟨((rd t385 x277_4)), (wrap64 (x277_4 + 1)), (by first | rfl | (simp; done) | (simp [*]; done)), (by first | rfl | (simp; done) | (simp [*]; done)), H', ⟨by have := HJ24.out; have := HJ216.out; have := HK3.out; have := HK4.out; have := HJ234.out; omega⟩, ⟨up_ HO_17.out⟩, ⟨up_ HO_275.out⟩, ⟨up_ HO_419000.out⟩, ⟨up_ HO_419001.out⟩, ⟨up_ HO_427000.out⟩, ⟨up_ HO_427001.out⟩, ⟨up_ BK382.out⟩, ⟨up_ BK383.out⟩, ⟨up_ BK384.out⟩, ⟨up_ BK418.out⟩, ⟨up_ BK426.out⟩, ⟨dn_ HB.out⟩⟩
               replace c237 := Bool.eq_false_iff.mpr c237
               subst c237
               rw [if_neg (show ¬ (false = true) by decide)] at H
               have H' := Aside0.mk H
               clear H
               go_wp2
               go_roundg kj234
               case measure => have := HJ24.out; have := HJ216.out; have := HK3.out; have := HK4.out; have := HJ234.out; omega
               case rel => exact ⟨(x47_4), (wrap64 (x277_4 + 1)), (by first | rfl | (simp; done) | (simp [*]; done)), (by first | rfl | (simp; done) | (simp [*]; done)), H', ⟨by have := HJ24.out; have := HJ216.out; have := HK3.out; have := HK4.out; have := HJ234.out; omega⟩, ⟨up_ HO_17.out⟩, ⟨up_ HO_275.out⟩, ⟨up_ HO_419000.out⟩, ⟨up_ HO_419001.out⟩, ⟨up_ HO_427000.out⟩, ⟨up_ HO_427001.out⟩, ⟨up_ BK382.out⟩, ⟨up_ BK383.out⟩, ⟨up_ BK384.out⟩, ⟨up_ BK418.out⟩, ⟨up_ BK426.out⟩, ⟨dn_ HB.out⟩⟩
             rw [if_neg c234] at H
             exact absurd H (by simp)
            rw [if_neg c233] at H
            exact absurd H (by simp)
           rw [if_neg c232] at H
           have c232b0 : decide (x277_4 < (t385.length : Int)) = false := decide_eq_false c232
           clear c232
           by_cases c239 : (wrap64 ((wrap64 (x43_3 + (rd l0_0 x270_3))) - x47_4)) > a1
           ·rw [if_pos c239] at H
            exact absurd (Option.some.inj H) (by decide)
           rw [if_neg c239] at H
           have c239b0 : decide (a1 < (wrap64 ((wrap64 (x43_3 + (rd l0_0 x270_3))) - x47_4))) = false := decide_eq_false c239
           clear c239
           by_cases c240 : a1 = 0
           ·rw [if_pos c240] at H
            exact absurd H (by simp)
           rw [if_neg c240] at H
           have c240b0 : (a1 == 0) = false := beq_eq_false_iff_ne.mpr c240
           have c240b1 : (a1 != 0) = true := bne_iff_ne.mpr c240
           have H' := Aside0.mk H
           clear H
           go_wp2
           go_roundg k4
           case measure => have := HJ24.out; have := HJ216.out; have := HK3.out; have := HK4.out; omega
           case rel => exact ⟨(wrap64 (x43_3 + (rd l0_0 x270_3))), (wrap64 (x44_3 + (wrap64 (Int.tdiv (wrap64 ((rd l0_0 x270_3) - 1)) a1)))), (wrap64 (x270_3 + 1)), (by first | rfl | (simp; done) | (simp [*]; done)), (by first | rfl | (simp; done) | (simp [*]; done)), (by first | rfl | (simp; done) | (simp [*]; done)), H', ⟨by have := HJ24.out; have := HJ216.out; have := HK3.out; have := HK4.out; omega⟩, ⟨up_ HO_17.out⟩, ⟨by refine lr_ ?_; exact Kd.R_mono HO_419000.out (fun _ hk => ⟨hk.1, ⟨hk.2.2.1, ⟨hk.2.2.2.1, hk.2.2.2.2⟩⟩⟩)⟩, ⟨by refine lr_ ?_; exact Kd.R_mono HO_419001.out (fun _ hk => ⟨hk.1, ⟨hk.2.2.1, ⟨hk.2.2.2.1, hk.2.2.2.2⟩⟩⟩)⟩, ⟨by refine lr_ ?_; exact Kd.R_mono HO_427000.out (fun _ hk => ⟨hk.1, ⟨hk.2.2.1, ⟨hk.2.2.2.1, hk.2.2.2.2⟩⟩⟩)⟩, ⟨by refine lr_ ?_; exact Kd.R_mono HO_427001.out (fun _ hk => ⟨hk.1, ⟨hk.2.2.1, ⟨hk.2.2.2.1, hk.2.2.2.2⟩⟩⟩)⟩, ⟨up_ BK382.out⟩, ⟨up_ BK383.out⟩, ⟨up_ BK384.out⟩, ⟨up_ BK418.out⟩, ⟨up_ BK426.out⟩, ⟨dn_ HB.out⟩⟩
         rw [if_neg c230] at H
         exact absurd H (by simp)
        rw [if_neg c229] at H
        exact absurd H (by simp)
       rw [if_neg c228] at H
       have c228b0 : decide (x270_3 < (l0_0.length : Int)) = false := decide_eq_false c228
       clear c228
       by_cases c241 : x44_3 = t393
       ·rw [if_pos c241] at H
        have c241b0 : (x44_3 == t393) = true := beq_iff_eq.mpr c241
        have c241b1 : (x44_3 != t393) = false := bne_eq_false_iff_eq.mpr c241
        clear c241
        have H' := Aside0.mk H
        clear H
        go_wp2
        go_meet
        case rel => exact ⟨_, H', ⟨by have := HJ24.out; have := HJ216.out; have := HK3.out; first | omega | exact Nat.le_refl _⟩, ⟨by refine lr_ ?_; exact Kd.R_mono HO_419000.out (fun _ hk => ⟨hk.2.1, ⟨hk.2.2.1, hk.2.2.2⟩⟩)⟩, ⟨by refine lr_ ?_; exact Kd.R_mono HO_419001.out (fun _ hk => ⟨hk.2.1, ⟨hk.2.2.1, hk.2.2.2⟩⟩)⟩, ⟨by refine lr_ ?_; exact Kd.R_mono HO_427000.out (fun _ hk => ⟨hk.2.1, ⟨hk.2.2.1, hk.2.2.2⟩⟩)⟩, ⟨by refine lr_ ?_; exact Kd.R_mono HO_427001.out (fun _ hk => ⟨hk.2.1, ⟨hk.2.2.1, hk.2.2.2⟩⟩)⟩, ⟨up_ BK382.out⟩, ⟨up_ BK383.out⟩, ⟨up_ BK384.out⟩, ⟨up_ BK418.out⟩, ⟨up_ BK426.out⟩, ⟨dn_ HB.out⟩⟩
       rw [if_neg c241] at H
       exact absurd (Option.some.inj H) (by decide)
    replace c216 := Bool.eq_false_iff.mpr c216
    subst c216
    rw [if_neg (show ¬ (false = true) by decide)] at H
    have H' := Aside0.mk H
    clear H
    go_wp2
    go_meet
    case rel => exact ⟨_, H', ⟨by have := HJ24.out; first | omega | exact Nat.le_refl _⟩, ⟨by refine lr_ ?_; exact Kd.R_mono HO_419000.out (fun _ hk => ⟨hk.2.1, ⟨hk.2.2.1, hk.2.2.2⟩⟩)⟩, ⟨by refine lr_ ?_; exact Kd.R_mono HO_419001.out (fun _ hk => ⟨hk.2.1, ⟨hk.2.2.1, hk.2.2.2⟩⟩)⟩, ⟨by refine lr_ ?_; exact Kd.R_mono HO_427000.out (fun _ hk => ⟨hk.2.1, ⟨hk.2.2.1, hk.2.2.2⟩⟩)⟩, ⟨by refine lr_ ?_; exact Kd.R_mono HO_427001.out (fun _ hk => ⟨hk.2.1, ⟨hk.2.2.1, hk.2.2.2⟩⟩)⟩, ⟨up_ BK382.out⟩, ⟨up_ BK383.out⟩, ⟨up_ BK384.out⟩, ⟨up_ BK418.out⟩, ⟨up_ BK426.out⟩, ⟨dn_ HB.out⟩⟩
  as_aux_lemma =>
   exact bk0_
theorem laws_FnHousesBuiltOfAll.calls (k : Nat) (A0_0 : Option Addr) (c0_0 : Nat) (l0_0 : List Int) (A0_1 : Option Addr) (c0_1 : Nat) (l0_1 : List Int) (a1 : Int) (A2_0 : Option Addr) (c2_0 : Nat) (l2_0 : List Int) (A2_1 : Option Addr) (c2_1 : Nat) (l2_1 : List Int) (a3 : Int) (a4 : Int) (A5_0 : Option Addr) (c5_0 : Nat) (l5_0 : List Int) (A5_1 : Option Addr) (c5_1 : Nat) (l5_1 : List Int) (a6 : Int) (a7 : ByteArray) (r_ : Bool) (w : World) (hr0_0 : Kd.C (Kd.int .i64) w A0_0 l0_0.length l0_0) (hc0_0 : l0_0.length ≤ c0_0) (hr0_1 : Kd.C (Kd.int .i64) w A0_1 l0_1.length l0_1) (hc0_1 : l0_1.length ≤ c0_1) (hr2_0 : Kd.C (Kd.int .i64) w A2_0 l2_0.length l2_0) (hc2_0 : l2_0.length ≤ c2_0) (hr2_1 : Kd.C (Kd.int .i64) w A2_1 l2_1.length l2_1) (hc2_1 : l2_1.length ≤ c2_1) (hr5_0 : Kd.C (Kd.int .i64) w A5_0 l5_0.length l5_0) (hc5_0 : l5_0.length ≤ c5_0) (hr5_1 : Kd.C (Kd.int .i64) w A5_1 l5_1.length l5_1) (hc5_1 : l5_1.length ≤ c5_1) (h : laws_FnHousesBuiltOfAll.f k l0_0 l0_1 a1 l2_0 l2_1 a3 a4 l5_0 l5_1 a6 a7 = some true) (LA : Laid w) :
 Calls Tryd.prog 10 #[.agg #[.slice A0_0 l0_0.length c0_0, .slice A0_1 l0_1.length c0_1], .int .i64 a1, .agg #[.slice A2_0 l2_0.length c2_0, .slice A2_1 l2_1.length c2_1], .int .i64 a3, .int .i64 a4, .agg #[.slice A5_0 l5_0.length c5_0, .slice A5_1 l5_1.length c5_1], .int .i64 a6, .string a7] w fun e w' => e = .returned (.bool true) ∧ Below w.heap.size w w' := by
 exact laws_FnHousesBuiltOfAll.truly k A0_0 c0_0 l0_0 A0_1 c0_1 l0_1 a1 A2_0 c2_0 l2_0 A2_1 c2_1 l2_1 a3 a4 A5_0 c5_0 l5_0 A5_1 c5_1 l5_1 a6 a7 w hr0_0 hc0_0 hr0_1 hc0_1 hr2_0 hc2_0 hr2_1 hc2_1 hr5_0 hc5_0 hr5_1 hc5_1 h LA
end Go.Proofs.YtbmdgmmegchmnaaDoor.B
