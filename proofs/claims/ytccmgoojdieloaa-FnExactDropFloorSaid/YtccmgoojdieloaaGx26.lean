/- Contracts of the Go functions that the laws reach, each for every input and every memory: written by a program of this session over the kit print, with contracts of its own for what that leaves out. No further condition. -/
import Derived.Test.YtccmgoojdieloaaGx0
import Derived.Test.YtccmgoojdieloaaGx2
import Derived.Test.YtccmgoojdieloaaGx4
import Derived.Test.YtccmgoojdieloaaGx6
import Derived.Test.YtccmgoojdieloaaGx8
import Derived.Test.YtccmgoojdieloaaGx16
import Derived.Test.YtccmgoojdieloaaGx22
import Derived.Test.YtccmgoojdieloaaGx24
import Derived.Test.YtccmgoojdieloaaGx25
namespace Go.Proofs.Ytccmgoojdieloaa.G
open Go.RowKit Go.Proofs.YtccmgoojdieloaaW.PrintWords Go.Proofs.YtccmgoojdieloaaW.PrintLast Go.Proofs.YtccmgoojdieloaaW.PrintMore
attribute [local go_sem] max2_int min2_int max_two min_two max_three min_three max_four min_four   -- for this text's walks alone
set_option linter.unusedVariables false
set_option linter.unusedSimpArgs false

/-! ### laws_FnExactDropFloor: function 14 -/
mutual
def laws_FnExactDropFloor.j0 : Nat → Bool → Bool → Bool → List Int → List Int → List Int → List Int → List Int → List Int → List Int → List Int → Option (Bool)
  | 0, _, _, _, _, _, _, _, _, _, _, _ => none
  | k + 1, x5, x8, x40, x282000, x282001, x297000, x297001, x304000, x304001, x312000, x312001 => if x40 = true then (some false) else ((laws_toHouse.f k x282000 x282001).bind fun bt313 => ((laws_eqHouse.f k x304000 x304001 bt313.1 bt313.2).bind fun t319 => (if t319 = true then ((laws_markHouse.f k x304000 x304001 1).bind fun bt320 => (if bt320.1 < 0 then (laws_FnExactDropFloor.j1 k x5 true x282000 x282001 x297000 x297001 x312000 x312001) else ((laws_eqHouse.f k x312000 x312001 x297000 x297001).bind fun t323 => (if t323 = true then (laws_FnExactDropFloor.j1 k x5 (x8 != x5) x282000 x282001 x297000 x297001 x312000 x312001) else (laws_FnExactDropFloor.j1 k x5 true x282000 x282001 x297000 x297001 x312000 x312001))))) else (some false))))
def laws_FnExactDropFloor.j1 : Nat → Bool → Bool → List Int → List Int → List Int → List Int → List Int → List Int → Option (Bool)
  | 0, _, _, _, _, _, _, _, _ => none
  | k + 1, x5, x61, x282000, x282001, x297000, x297001, x312000, x312001 => if x61 = true then (some false) else ((laws_markHouse.f k x312000 x312001 1).bind fun bt324 => ((laws_heldHouse.f k bt324.2.1 bt324.2.2 1).bind fun t327 => (if t327 < 0 then (some false) else (if t327 = bt324.1 then ((laws_toHouse.f k x282000 x282001).bind fun bt328 => ((impl_DropFloor.f k bt328.1 bt328.2).bind fun bt334 => ((laws_eqHouse.f k bt334.1 bt334.2.1 x297000 x297001).bind fun t342 => (if t342 = true then (laws_FnExactDropFloor.j2 k bt324.1 (bt334.2.2 != x5) bt324.2.1 bt324.2.2) else (laws_FnExactDropFloor.j2 k bt324.1 true bt324.2.1 bt324.2.2))))) else (some false)))))
def laws_FnExactDropFloor.j2 : Nat → Int → Bool → List Int → List Int → Option (Bool)
  | 0, _, _, _, _ => none
  | k + 1, x10, x87, x312000, x312001 => if x87 = true then (some false) else ((laws_heldHouse.f k x312000 x312001 1).bind fun t343 => (if t343 < 0 then (some false) else (if t343 = x10 then (some true) else (some false))))
end
def laws_FnExactDropFloor.f (k : Nat) (l0_0 : List Int) (l0_1 : List Int) : Option (Bool) := (laws_szHouse.f l0_0 l0_1 1048576).bind fun t282 => (if t282 < 0 then (some true) else ((laws_toHouse.f k l0_0 l0_1).bind fun bt283 => ((spec_DropFloor.f k bt283.1 bt283.2).bind fun bt289 => ((laws_toHouse.f k l0_0 l0_1).bind fun bt297 => ((impl_DropFloor.f k bt297.1 bt297.2).bind fun bt304 => ((laws_eqHouse.f k bt304.1 bt304.2.1 bt289.1 bt289.2.1).bind fun t312 => (if t312 = true then (laws_FnExactDropFloor.j0 k bt289.2.2 bt304.2.2 (bt304.2.2 != bt289.2.2) l0_0 l0_1 bt289.1 bt289.2.1 bt297.1 bt297.2 bt304.1 bt304.2.1) else (laws_FnExactDropFloor.j0 k bt289.2.2 bt304.2.2 true l0_0 l0_1 bt289.1 bt289.2.1 bt297.1 bt297.2 bt304.1 bt304.2.1))))))))
theorem laws_FnExactDropFloor.mono_l : ∀ k, (∀ y0 y1 y2 y3 y4 y5 y6 y7 y8 y9 y10, LeO (laws_FnExactDropFloor.j0 k y0 y1 y2 y3 y4 y5 y6 y7 y8 y9 y10) (laws_FnExactDropFloor.j0 (k + 1) y0 y1 y2 y3 y4 y5 y6 y7 y8 y9 y10)) ∧ (∀ y0 y1 y2 y3 y4 y5 y6 y7, LeO (laws_FnExactDropFloor.j1 k y0 y1 y2 y3 y4 y5 y6 y7) (laws_FnExactDropFloor.j1 (k + 1) y0 y1 y2 y3 y4 y5 y6 y7)) ∧ (∀ y0 y1 y2 y3, LeO (laws_FnExactDropFloor.j2 k y0 y1 y2 y3) (laws_FnExactDropFloor.j2 (k + 1) y0 y1 y2 y3))
  | 0 => ⟨fun _ _ _ _ _ _ _ _ _ _ _ r h => by simp [laws_FnExactDropFloor.j0] at h, fun _ _ _ _ _ _ _ _ r h => by simp [laws_FnExactDropFloor.j1] at h, fun _ _ _ _ r h => by simp [laws_FnExactDropFloor.j2] at h⟩
  | k + 1 => by
    obtain ⟨ih0, ih1, ih2⟩ := laws_FnExactDropFloor.mono_l k
    refine ⟨?_, ?_, ?_⟩
    · intro y0 y1 y2 y3 y4 y5 y6 y7 y8 y9 y10
      unfold laws_FnExactDropFloor.j0
      repeat' first
      | (with_reducible exact ih0 _ _ _ _ _ _ _ _ _ _ _)
      | (with_reducible exact ih1 _ _ _ _ _ _ _ _)
      | (with_reducible exact ih2 _ _ _ _)
      | (with_reducible exact impl_DropFloor.mono _ _ _)
      | (with_reducible exact laws_eqHouse.mono _ _ _ _ _)
      | (with_reducible exact laws_heldHouse.mono _ _ _ _)
      | (with_reducible exact laws_markHouse.mono _ _ _ _)
      | (with_reducible exact laws_toHouse.mono _ _ _)
      | (with_reducible exact spec_DropFloor.mono _ _ _)
      | (with_reducible exact LeO.refl _)
      | (with_reducible exact LeO.none _)
      | (with_reducible refine LeO.ite ?_ ?_)
      | (with_reducible refine LeO.bind ?_ (fun _ => ?_))
      | exact ih0 _ _ _ _ _ _ _ _ _ _ _
      | exact ih1 _ _ _ _ _ _ _ _
      | exact ih2 _ _ _ _
      | exact impl_DropFloor.mono _ _ _
      | exact laws_eqHouse.mono _ _ _ _ _
      | exact laws_heldHouse.mono _ _ _ _
      | exact laws_markHouse.mono _ _ _ _
      | exact laws_toHouse.mono _ _ _
      | exact spec_DropFloor.mono _ _ _
      | exact LeO.none _
      | refine LeO.ite ?_ ?_
      | refine LeO.bind ?_ (fun _ => ?_)
    · intro y0 y1 y2 y3 y4 y5 y6 y7
      unfold laws_FnExactDropFloor.j1
      repeat' first
      | (with_reducible exact ih0 _ _ _ _ _ _ _ _ _ _ _)
      | (with_reducible exact ih1 _ _ _ _ _ _ _ _)
      | (with_reducible exact ih2 _ _ _ _)
      | (with_reducible exact impl_DropFloor.mono _ _ _)
      | (with_reducible exact laws_eqHouse.mono _ _ _ _ _)
      | (with_reducible exact laws_heldHouse.mono _ _ _ _)
      | (with_reducible exact laws_markHouse.mono _ _ _ _)
      | (with_reducible exact laws_toHouse.mono _ _ _)
      | (with_reducible exact spec_DropFloor.mono _ _ _)
      | (with_reducible exact LeO.refl _)
      | (with_reducible exact LeO.none _)
      | (with_reducible refine LeO.ite ?_ ?_)
      | (with_reducible refine LeO.bind ?_ (fun _ => ?_))
      | exact ih0 _ _ _ _ _ _ _ _ _ _ _
      | exact ih1 _ _ _ _ _ _ _ _
      | exact ih2 _ _ _ _
      | exact impl_DropFloor.mono _ _ _
      | exact laws_eqHouse.mono _ _ _ _ _
      | exact laws_heldHouse.mono _ _ _ _
      | exact laws_markHouse.mono _ _ _ _
      | exact laws_toHouse.mono _ _ _
      | exact spec_DropFloor.mono _ _ _
      | exact LeO.none _
      | refine LeO.ite ?_ ?_
      | refine LeO.bind ?_ (fun _ => ?_)
    · intro y0 y1 y2 y3
      unfold laws_FnExactDropFloor.j2
      repeat' first
      | (with_reducible exact ih0 _ _ _ _ _ _ _ _ _ _ _)
      | (with_reducible exact ih1 _ _ _ _ _ _ _ _)
      | (with_reducible exact ih2 _ _ _ _)
      | (with_reducible exact impl_DropFloor.mono _ _ _)
      | (with_reducible exact laws_eqHouse.mono _ _ _ _ _)
      | (with_reducible exact laws_heldHouse.mono _ _ _ _)
      | (with_reducible exact laws_markHouse.mono _ _ _ _)
      | (with_reducible exact laws_toHouse.mono _ _ _)
      | (with_reducible exact spec_DropFloor.mono _ _ _)
      | (with_reducible exact LeO.refl _)
      | (with_reducible exact LeO.none _)
      | (with_reducible refine LeO.ite ?_ ?_)
      | (with_reducible refine LeO.bind ?_ (fun _ => ?_))
      | exact ih0 _ _ _ _ _ _ _ _ _ _ _
      | exact ih1 _ _ _ _ _ _ _ _
      | exact ih2 _ _ _ _
      | exact impl_DropFloor.mono _ _ _
      | exact laws_eqHouse.mono _ _ _ _ _
      | exact laws_heldHouse.mono _ _ _ _
      | exact laws_markHouse.mono _ _ _ _
      | exact laws_toHouse.mono _ _ _
      | exact spec_DropFloor.mono _ _ _
      | exact LeO.none _
      | refine LeO.ite ?_ ?_
      | refine LeO.bind ?_ (fun _ => ?_)
theorem laws_FnExactDropFloor.mono : ∀ a0 a1 k, LeO (laws_FnExactDropFloor.f k a0 a1) (laws_FnExactDropFloor.f (k + 1) a0 a1) := by
  intro a0 a1 k
  obtain ⟨ih0, ih1, ih2⟩ := laws_FnExactDropFloor.mono_l k
  unfold laws_FnExactDropFloor.f
  repeat' first
      | (with_reducible exact ih0 _ _ _ _ _ _ _ _ _ _ _)
      | (with_reducible exact ih1 _ _ _ _ _ _ _ _)
      | (with_reducible exact ih2 _ _ _ _)
      | (with_reducible exact impl_DropFloor.mono _ _ _)
      | (with_reducible exact laws_eqHouse.mono _ _ _ _ _)
      | (with_reducible exact laws_heldHouse.mono _ _ _ _)
      | (with_reducible exact laws_markHouse.mono _ _ _ _)
      | (with_reducible exact laws_toHouse.mono _ _ _)
      | (with_reducible exact spec_DropFloor.mono _ _ _)
      | (with_reducible exact LeO.refl _)
      | (with_reducible exact LeO.none _)
      | (with_reducible refine LeO.ite ?_ ?_)
      | (with_reducible refine LeO.bind ?_ (fun _ => ?_))
      | exact ih0 _ _ _ _ _ _ _ _ _ _ _
      | exact ih1 _ _ _ _ _ _ _ _
      | exact ih2 _ _ _ _
      | exact impl_DropFloor.mono _ _ _
      | exact laws_eqHouse.mono _ _ _ _ _
      | exact laws_heldHouse.mono _ _ _ _
      | exact laws_markHouse.mono _ _ _ _
      | exact laws_toHouse.mono _ _ _
      | exact spec_DropFloor.mono _ _ _
      | exact LeO.none _
      | refine LeO.ite ?_ ?_
      | refine LeO.bind ?_ (fun _ => ?_)
set_option maxHeartbeats 8000000 in
set_option maxRecDepth 100000 in
theorem laws_FnExactDropFloor.calls (k : Nat) (A0_0 : Option Addr) (c0_0 : Nat) (l0_0 : List Int) (A0_1 : Option Addr) (c0_1 : Nat) (l0_1 : List Int) (r : Bool) (w : World) (hr0_0 : Kd.C (Kd.int .i64) w A0_0 l0_0.length l0_0) (hc0_0 : l0_0.length ≤ c0_0) (hr0_1 : Kd.C (Kd.int .i64) w A0_1 l0_1.length l0_1) (hc0_1 : l0_1.length ≤ c0_1) (h : laws_FnExactDropFloor.f k l0_0 l0_1 = some r) :
    Calls Try.prog 14 #[.agg #[.slice A0_0 l0_0.length c0_0, .slice A0_1 l0_1.length c0_1]] w fun e w' => e = .returned (.bool r) ∧ Below w.heap.size w w' := by
  have hu24 := Try.underlying24
  have hu27 := Try.underlying27
  have HR0_0 := Aside0.mk hr0_0
  have HC0_0 := Aside0.mk hc0_0
  clear hr0_0 hc0_0
  have HR0_1 := Aside0.mk hr0_1
  have HC0_1 := Aside0.mk hc0_1
  clear hr0_1 hc0_1
  have HB := Aside0.mk (Below.refl w.heap.size w)
  have H : ((laws_szHouse.f l0_0 l0_1 1048576).bind fun t282 => (if t282 < 0 then (some true) else ((laws_toHouse.f k l0_0 l0_1).bind fun bt283 => ((spec_DropFloor.f k bt283.1 bt283.2).bind fun bt289 => ((laws_toHouse.f k l0_0 l0_1).bind fun bt297 => ((impl_DropFloor.f k bt297.1 bt297.2).bind fun bt304 => ((laws_eqHouse.f k bt304.1 bt304.2.1 bt289.1 bt289.2.1).bind fun t312 => (if t312 = true then (laws_FnExactDropFloor.j0 k bt289.2.2 bt304.2.2 (bt304.2.2 != bt289.2.2) l0_0 l0_1 bt289.1 bt289.2.1 bt297.1 bt297.2 bt304.1 bt304.2.1) else (laws_FnExactDropFloor.j0 k bt289.2.2 bt304.2.2 true l0_0 l0_1 bt289.1 bt289.2.1 bt297.1 bt297.2 bt304.1 bt304.2.1))))))))) = some r := h
  clear h
  replace H := Option.bind_eq_some_iff.mp H
  obtain ⟨t282, A20, H⟩ := H
  replace H : (if t282 < 0 then (some true) else ((laws_toHouse.f k l0_0 l0_1).bind fun bt283 => ((spec_DropFloor.f k bt283.1 bt283.2).bind fun bt289 => ((laws_toHouse.f k l0_0 l0_1).bind fun bt297 => ((impl_DropFloor.f k bt297.1 bt297.2).bind fun bt304 => ((laws_eqHouse.f k bt304.1 bt304.2.1 bt289.1 bt289.2.1).bind fun t312 => (if t312 = true then (laws_FnExactDropFloor.j0 k bt289.2.2 bt304.2.2 (bt304.2.2 != bt289.2.2) l0_0 l0_1 bt289.1 bt289.2.1 bt297.1 bt297.2 bt304.1 bt304.2.1) else (laws_FnExactDropFloor.j0 k bt289.2.2 bt304.2.2 true l0_0 l0_1 bt289.1 bt289.2.1 bt297.1 bt297.2 bt304.1 bt304.2.1)))))))) = some r := H
  have A2 := Aside0.mk A20
  clear A20
  by_cases c3 : t282 < 0
  · rw [if_pos c3] at H
    have c3b0 : decide (t282 < 0) = true := decide_eq_true c3
    clear c3
    obtain rfl := Option.some.inj H
    go_enter Try.func14, Try.ntmps14
    go_wp2_with (first | ((with_reducible refine gate_dst (N := 1) rfl ?_); refine box_event ?hg (N := 1) ?hd (cs := #[.slice A0_0 l0_0.length c0_0, .slice A0_1 l0_1.length c0_1]) (t := 24) ?hr ?_; (case hd => rfl); (case hg => rfl); (case hr => first | (go_simp; done) | (go_simp; rfl)); intro gb281 hg w4 hbox hb; have n0_ := Aside0.mk (below_step (by repeat (first | (with_reducible first | exact HB.out | apply bA_ | apply bN_ | apply bD_) | exact HB.out)) hb); have n1_ := Aside0.mk (hbox); have n2_ := Aside0.mk ((by rw [hg]; exact (below_size (by repeat (first | (with_reducible first | exact HB.out | apply bA_ | apply bN_ | apply bD_) | exact HB.out))) : w.heap.size ≤ gb281)); have n3_ := Aside0.mk ((by rw [hg]; exact (below_size (by repeat (first | (with_reducible first | exact HB.out | apply bA_ | apply bN_ | apply bD_) | exact HB.out))) : w.heap.size ≤ gb281)); clear HB; have HB := n0_; have BK281 := n1_; have GW281 := n2_; have GE281 := n3_; clear n0_ n1_ n2_ n3_; clear hb hbox hg; have hcz5_0 : w4.cell? ⟨gb281, 0, none⟩ = some (.slice A0_0 l0_0.length c0_0) := (blk_cell BK281.out 0).trans rfl; have hcz5_1 : w4.cell? ⟨gb281, 1, none⟩ = some (.slice A0_1 l0_1.length c0_1) := (blk_cell BK281.out 1).trans rfl; have hfz5_0 := blk_frozen BK281.out 0; have hfz5_1 := blk_frozen BK281.out 1) | ((with_reducible refine gate_callee (f := 15) rfl ?_); refine goesL_ (some 16) rfl rfl Try.func15 (by kernel_rfl) rfl #[.agg #[.slice A0_0 l0_0.length c0_0, .slice A0_1 l0_1.length c0_1], .int .i64 1048576] rfl (by (try simp only [List.map_toArray, List.map_cons, List.map_nil]); first | done | rfl | (simp only [List.length_drop, List.length_take]; rfl)) ?_; (with_reducible refine (laws_szHouse.calls _ _ l0_0 _ _ l0_1 1048576 t282 _ ?side1 ?side2 ?side3 ?side4 A2.out).mono ?_); (case side1 => repeat (first | exact (Kd.C_below HR0_0.out HB.out) | (with_reducible refine Kd.C_alloc ?_ _) | (with_reducible refine Kd.C_drewN ?_ _) | (with_reducible refine Kd.C_drew ?_))); (case side2 => exact HC0_0.out); (case side3 => repeat (first | exact (Kd.C_below HR0_1.out HB.out) | (with_reducible refine Kd.C_alloc ?_ _) | (with_reducible refine Kd.C_drewN ?_ _) | (with_reducible refine Kd.C_drew ?_))); (case side4 => exact HC0_1.out); rintro e w6 ⟨rfl, hb⟩; refine ⟨_, rfl, ?_⟩; have n0_ := Aside0.mk (blk_below (g := gb281) (o := .cells #[.slice A0_0 l0_0.length c0_0, .slice A0_1 l0_1.length c0_1] 24 (0, 0)) (by (with_reducible repeat (first | refine kN_ ?_ _ | refine kD_ ?_ | refine kA_ ?_ _)); exact BK281.out) hb); have n1_ := Aside0.mk (below_step (by repeat (first | (with_reducible first | exact HB.out | apply bA_ | apply bN_ | apply bD_ | refine bS_ ?_ GE281.out) | exact HB.out)) hb); clear BK281; clear HB; have BK281 := n0_; have HB := n1_; clear n0_ n1_; (try clear hb); (try clear hb2); (try clear hk); (try clear hi)))
    go_ret
    exact ⟨by first | rfl | (simp [errW_none, errW_some] <;> rfl) | (simp [*, errW_none, errW_some] <;> rfl), by repeat (first | (with_reducible first | exact HB.out | apply bA_ | apply bN_ | apply bD_ | refine bS_ ?_ GE281.out) | exact HB.out)⟩
  · rw [if_neg c3] at H
    have c3b0 : decide (t282 < 0) = false := decide_eq_false c3
    clear c3
    replace H := Option.bind_eq_some_iff.mp H
    obtain ⟨⟨t283, t286⟩, A70, H⟩ := H
    replace H : ((spec_DropFloor.f k t283 t286).bind fun bt289 => ((laws_toHouse.f k l0_0 l0_1).bind fun bt297 => ((impl_DropFloor.f k bt297.1 bt297.2).bind fun bt304 => ((laws_eqHouse.f k bt304.1 bt304.2.1 bt289.1 bt289.2.1).bind fun t312 => (if t312 = true then (laws_FnExactDropFloor.j0 k bt289.2.2 bt304.2.2 (bt304.2.2 != bt289.2.2) l0_0 l0_1 bt289.1 bt289.2.1 bt297.1 bt297.2 bt304.1 bt304.2.1) else (laws_FnExactDropFloor.j0 k bt289.2.2 bt304.2.2 true l0_0 l0_1 bt289.1 bt289.2.1 bt297.1 bt297.2 bt304.1 bt304.2.1)))))) = some r := H
    have A7 := Aside0.mk A70
    clear A70
    replace H := Option.bind_eq_some_iff.mp H
    obtain ⟨⟨t289, t292, t295⟩, A80, H⟩ := H
    replace H : ((laws_toHouse.f k l0_0 l0_1).bind fun bt297 => ((impl_DropFloor.f k bt297.1 bt297.2).bind fun bt304 => ((laws_eqHouse.f k bt304.1 bt304.2.1 t289 t292).bind fun t312 => (if t312 = true then (laws_FnExactDropFloor.j0 k t295 bt304.2.2 (bt304.2.2 != t295) l0_0 l0_1 t289 t292 bt297.1 bt297.2 bt304.1 bt304.2.1) else (laws_FnExactDropFloor.j0 k t295 bt304.2.2 true l0_0 l0_1 t289 t292 bt297.1 bt297.2 bt304.1 bt304.2.1))))) = some r := H
    have A8 := Aside0.mk A80
    clear A80
    replace H := Option.bind_eq_some_iff.mp H
    obtain ⟨⟨t297, t300⟩, A90, H⟩ := H
    replace H : ((impl_DropFloor.f k t297 t300).bind fun bt304 => ((laws_eqHouse.f k bt304.1 bt304.2.1 t289 t292).bind fun t312 => (if t312 = true then (laws_FnExactDropFloor.j0 k t295 bt304.2.2 (bt304.2.2 != t295) l0_0 l0_1 t289 t292 t297 t300 bt304.1 bt304.2.1) else (laws_FnExactDropFloor.j0 k t295 bt304.2.2 true l0_0 l0_1 t289 t292 t297 t300 bt304.1 bt304.2.1)))) = some r := H
    have A9 := Aside0.mk A90
    clear A90
    replace H := Option.bind_eq_some_iff.mp H
    obtain ⟨⟨t304, t307, t310⟩, A100, H⟩ := H
    replace H : ((laws_eqHouse.f k t304 t307 t289 t292).bind fun t312 => (if t312 = true then (laws_FnExactDropFloor.j0 k t295 t310 (t310 != t295) l0_0 l0_1 t289 t292 t297 t300 t304 t307) else (laws_FnExactDropFloor.j0 k t295 t310 true l0_0 l0_1 t289 t292 t297 t300 t304 t307))) = some r := H
    have A10 := Aside0.mk A100
    clear A100
    have HC11 := Aside0.mk H
    clear H
    go_enter Try.func14, Try.ntmps14
    go_upto_region 8 with (first | ((with_reducible refine gate_dst (N := 1) rfl ?_); refine box_event ?hg (N := 1) ?hd (cs := #[.slice A0_0 l0_0.length c0_0, .slice A0_1 l0_1.length c0_1]) (t := 24) ?hr ?_; (case hd => rfl); (case hg => rfl); (case hr => first | (go_simp; done) | (go_simp; rfl)); intro gb281 hg w12 hbox hb; have n0_ := Aside0.mk (below_step (by repeat (first | (with_reducible first | exact HB.out | apply bA_ | apply bN_ | apply bD_) | exact HB.out)) hb); have n1_ := Aside0.mk (hbox); have n2_ := Aside0.mk ((by rw [hg]; exact (below_size (by repeat (first | (with_reducible first | exact HB.out | apply bA_ | apply bN_ | apply bD_) | exact HB.out))) : w.heap.size ≤ gb281)); have n3_ := Aside0.mk ((by rw [hg]; exact (below_size (by repeat (first | (with_reducible first | exact HB.out | apply bA_ | apply bN_ | apply bD_) | exact HB.out))) : w.heap.size ≤ gb281)); clear HB; have HB := n0_; have BK281 := n1_; have GW281 := n2_; have GE281 := n3_; clear n0_ n1_ n2_ n3_; clear hb hbox hg; have hcz13_0 : w12.cell? ⟨gb281, 0, none⟩ = some (.slice A0_0 l0_0.length c0_0) := (blk_cell BK281.out 0).trans rfl; have hcz13_1 : w12.cell? ⟨gb281, 1, none⟩ = some (.slice A0_1 l0_1.length c0_1) := (blk_cell BK281.out 1).trans rfl; have hfz13_0 := blk_frozen BK281.out 0; have hfz13_1 := blk_frozen BK281.out 1) | ((with_reducible refine gate_callee (f := 15) rfl ?_); refine goesL_ (some 16) rfl rfl Try.func15 (by kernel_rfl) rfl #[.agg #[.slice A0_0 l0_0.length c0_0, .slice A0_1 l0_1.length c0_1], .int .i64 1048576] rfl (by (try simp only [List.map_toArray, List.map_cons, List.map_nil]); first | done | rfl | (simp only [List.length_drop, List.length_take]; rfl)) ?_; (with_reducible refine (laws_szHouse.calls _ _ l0_0 _ _ l0_1 1048576 t282 _ ?side1 ?side2 ?side3 ?side4 A2.out).mono ?_); (case side1 => repeat (first | exact (Kd.C_below HR0_0.out HB.out) | (with_reducible refine Kd.C_alloc ?_ _) | (with_reducible refine Kd.C_drewN ?_ _) | (with_reducible refine Kd.C_drew ?_))); (case side2 => exact HC0_0.out); (case side3 => repeat (first | exact (Kd.C_below HR0_1.out HB.out) | (with_reducible refine Kd.C_alloc ?_ _) | (with_reducible refine Kd.C_drewN ?_ _) | (with_reducible refine Kd.C_drew ?_))); (case side4 => exact HC0_1.out); rintro e w14 ⟨rfl, hb⟩; refine ⟨_, rfl, ?_⟩; have n0_ := Aside0.mk (blk_below (g := gb281) (o := .cells #[.slice A0_0 l0_0.length c0_0, .slice A0_1 l0_1.length c0_1] 24 (0, 0)) (by (with_reducible repeat (first | refine kN_ ?_ _ | refine kD_ ?_ | refine kA_ ?_ _)); exact BK281.out) hb); have n1_ := Aside0.mk (below_step (by repeat (first | (with_reducible first | exact HB.out | apply bA_ | apply bN_ | apply bD_ | refine bS_ ?_ GE281.out) | exact HB.out)) hb); clear BK281; clear HB; have BK281 := n0_; have HB := n1_; clear n0_ n1_; (try clear hb); (try clear hb2); (try clear hk); (try clear hi); have hcz15_0 : w14.cell? ⟨gb281, 0, none⟩ = some (.slice A0_0 l0_0.length c0_0) := (blk_cell BK281.out 0).trans rfl; have hcz15_1 : w14.cell? ⟨gb281, 1, none⟩ = some (.slice A0_1 l0_1.length c0_1) := (blk_cell BK281.out 1).trans rfl; have hfz15_0 := blk_frozen BK281.out 0; have hfz15_1 := blk_frozen BK281.out 1) | ((with_reducible refine gate_callee (f := 17) rfl ?_); refine goesL_ (some 21) rfl rfl Try.func17 (by kernel_rfl) rfl #[.agg #[.slice A0_0 l0_0.length c0_0, .slice A0_1 l0_1.length c0_1]] rfl (by (try simp only [List.map_toArray, List.map_cons, List.map_nil]); first | done | rfl | (simp only [List.length_drop, List.length_take]; rfl)) ?_; (with_reducible refine (laws_toHouse.calls k _ _ l0_0 _ _ l0_1 t283 t286 _ ?side1 ?side2 ?side3 ?side4 A7.out).mono ?_); (case side1 => repeat (first | exact (Kd.C_below HR0_0.out HB.out) | (with_reducible refine Kd.C_alloc ?_ _) | (with_reducible refine Kd.C_drewN ?_ _) | (with_reducible refine Kd.C_drew ?_))); (case side2 => exact HC0_0.out); (case side3 => repeat (first | exact (Kd.C_below HR0_1.out HB.out) | (with_reducible refine Kd.C_alloc ?_ _) | (with_reducible refine Kd.C_drewN ?_ _) | (with_reducible refine Kd.C_drew ?_))); (case side4 => exact HC0_1.out); rintro e w16 ⟨v284, v287, rfl, ho0, ho1, hb⟩; refine ⟨_, rfl, ?_⟩; have n0_ := Aside0.mk (Kd.R_lower ho0 (below_size (by repeat (first | (with_reducible first | exact HB.out | apply bA_ | apply bN_ | apply bD_ | refine bS_ ?_ GE281.out) | exact HB.out)))); have n1_ := Aside0.mk (Kd.R_lower ho1 (below_size (by repeat (first | (with_reducible first | exact HB.out | apply bA_ | apply bN_ | apply bD_ | refine bS_ ?_ GE281.out) | exact HB.out)))); have n2_ := Aside0.mk (blk_below (g := gb281) (o := .cells #[.slice A0_0 l0_0.length c0_0, .slice A0_1 l0_1.length c0_1] 24 (0, 0)) (by (with_reducible repeat (first | refine kN_ ?_ _ | refine kD_ ?_ | refine kA_ ?_ _)); exact BK281.out) hb); have n3_ := Aside0.mk (below_step (by repeat (first | (with_reducible first | exact HB.out | apply bA_ | apply bN_ | apply bD_ | refine bS_ ?_ GE281.out) | exact HB.out)) hb); clear BK281; clear HB; have HO285 := n0_; have HO288 := n1_; have BK281 := n2_; have HB := n3_; clear n0_ n1_ n2_ n3_; (try clear hb); (try clear hb2); (try clear hk); (try clear hi); (try clear ho0); (try clear ho1); obtain ⟨Ao17, co17, eo17⟩ := Kd.R_slice HO285.out; subst eo17; obtain ⟨Ao18, co18, eo18⟩ := Kd.R_slice HO288.out; subst eo18) | ((with_reducible refine gate_callee (f := 45) rfl ?_); refine goesL_ (some 22) rfl rfl Try.func45 (by kernel_rfl) rfl #[.agg #[.slice Ao17 t283.length co17, .slice Ao18 t286.length co18]] rfl (by (try simp only [List.map_toArray, List.map_cons, List.map_nil]); first | done | rfl | (simp only [List.length_drop, List.length_take]; rfl)) ?_; (with_reducible refine (spec_DropFloor.calls k _ _ t283 _ _ t286 t289 t292 t295 _ ?side1 ?side2 ?side3 ?side4 A8.out).mono ?_); (case side1 => repeat (first | exact (rR_ HO285.out).2.2 | (with_reducible refine Kd.C_alloc ?_ _) | (with_reducible refine Kd.C_drewN ?_ _) | (with_reducible refine Kd.C_drew ?_))); (case side2 => exact (rR_ HO285.out).2.1); (case side3 => repeat (first | exact (rR_ HO288.out).2.2 | (with_reducible refine Kd.C_alloc ?_ _) | (with_reducible refine Kd.C_drewN ?_ _) | (with_reducible refine Kd.C_drew ?_))); (case side4 => exact (rR_ HO288.out).2.1); rintro e w19 ⟨v290, v293, rfl, ho0, ho1, hb⟩; refine ⟨_, rfl, ?_⟩; have n0_ := Aside0.mk (rM_ (Kd.R_told (Kd.R_told (Kd.R_old (by (with_reducible repeat (first | apply rA_ | apply rN_ | apply rD_)); exact HO285.out) hb) (Kd.R_base ho0)) (Kd.R_base ho1)) (fun _ h_ => h_.1)); have n1_ := Aside0.mk (rM_ (Kd.R_told (Kd.R_told (Kd.R_old (by (with_reducible repeat (first | apply rA_ | apply rN_ | apply rD_)); exact HO288.out) hb) (Kd.R_base ho0)) (Kd.R_base ho1)) (fun _ h_ => h_.1)); have n2_ := Aside0.mk (Kd.R_lower (Kd.R_new' (Kd.R_new' ho0 (Kd.R_lt (by (with_reducible repeat (first | apply rA_ | apply rN_ | apply rD_)); exact HO285.out))) (Kd.R_lt (by (with_reducible repeat (first | apply rA_ | apply rN_ | apply rD_)); exact HO288.out))) (below_size (by repeat (first | (with_reducible first | exact HB.out | apply bA_ | apply bN_ | apply bD_ | refine bS_ ?_ GE281.out) | exact HB.out)))); have n3_ := Aside0.mk (Kd.R_lower (Kd.R_new' (Kd.R_new' ho1 (Kd.R_lt (by (with_reducible repeat (first | apply rA_ | apply rN_ | apply rD_)); exact HO285.out))) (Kd.R_lt (by (with_reducible repeat (first | apply rA_ | apply rN_ | apply rD_)); exact HO288.out))) (below_size (by repeat (first | (with_reducible first | exact HB.out | apply bA_ | apply bN_ | apply bD_ | refine bS_ ?_ GE281.out) | exact HB.out)))); have n4_ := Aside0.mk (blk_below (g := gb281) (o := .cells #[.slice A0_0 l0_0.length c0_0, .slice A0_1 l0_1.length c0_1] 24 (0, 0)) (by (with_reducible repeat (first | refine kN_ ?_ _ | refine kD_ ?_ | refine kA_ ?_ _)); exact BK281.out) hb); have n5_ := Aside0.mk (below_step (by repeat (first | (with_reducible first | exact HB.out | apply bA_ | apply bN_ | apply bD_ | refine bS_ ?_ GE281.out) | exact HB.out)) hb); clear HO285; clear HO288; clear BK281; clear HB; have HO285 := n0_; have HO288 := n1_; have HO291 := n2_; have HO294 := n3_; have BK281 := n4_; have HB := n5_; clear n0_ n1_ n2_ n3_ n4_ n5_; (try clear hb); (try clear hb2); (try clear hk); (try clear hi); (try clear ho0); (try clear ho1)) | ((with_reducible refine gate_dst (N := 4) rfl ?_); refine box_event ?hg (N := 4) ?hd (cs := #[.slice none 0 0, .slice none 0 0]) (t := 27) ?hr ?_; (case hd => rfl); (case hg => rfl); (case hr => first | (go_simp; done) | (go_simp; rfl)); intro gb296 hg w20 hbox hb; have n0_ := Aside0.mk (rB_ (by (with_reducible repeat (first | apply rA_ | apply rN_ | apply rD_)); exact HO285.out) hb); have n1_ := Aside0.mk (rB_ (by (with_reducible repeat (first | apply rA_ | apply rN_ | apply rD_)); exact HO288.out) hb); have n2_ := Aside0.mk (rB_ (by (with_reducible repeat (first | apply rA_ | apply rN_ | apply rD_)); exact HO291.out) hb); have n3_ := Aside0.mk (rB_ (by (with_reducible repeat (first | apply rA_ | apply rN_ | apply rD_)); exact HO294.out) hb); have n4_ := Aside0.mk (blk_below (g := gb281) (o := .cells #[.slice A0_0 l0_0.length c0_0, .slice A0_1 l0_1.length c0_1] 24 (0, 0)) (by (with_reducible repeat (first | refine kN_ ?_ _ | refine kD_ ?_ | refine kA_ ?_ _)); exact BK281.out) hb); have n5_ := Aside0.mk (below_step (by repeat (first | (with_reducible first | exact HB.out | apply bA_ | apply bN_ | apply bD_ | refine bS_ ?_ GE281.out) | exact HB.out)) hb); have n6_ := Aside0.mk (hbox); have n7_ := Aside0.mk ((by rw [hg]; exact (below_size (by repeat (first | (with_reducible first | exact HB.out | apply bA_ | apply bN_ | apply bD_ | refine bS_ ?_ GE281.out) | exact HB.out))) : w.heap.size ≤ gb296)); have n8_ := Aside0.mk ((by rw [hg]; exact (below_size (by repeat (first | (with_reducible first | exact HB.out | apply bA_ | apply bN_ | apply bD_ | refine bS_ ?_ GE281.out) | exact HB.out))) : w.heap.size ≤ gb296)); have n9_ := Aside0.mk ((by rw [hg]; exact Nat.ne_of_lt (blk_lt (g := gb281) (o := .cells #[.slice A0_0 l0_0.length c0_0, .slice A0_1 l0_1.length c0_1] 24 (0, 0)) (by (with_reducible repeat (first | refine kN_ ?_ _ | refine kD_ ?_ | refine kA_ ?_ _)); exact BK281.out)) : gb281 ≠ gb296)); have n10_ := Aside0.mk ((by rw [hg]; exact Nat.ne_of_gt (blk_lt (g := gb281) (o := .cells #[.slice A0_0 l0_0.length c0_0, .slice A0_1 l0_1.length c0_1] 24 (0, 0)) (by (with_reducible repeat (first | refine kN_ ?_ _ | refine kD_ ?_ | refine kA_ ?_ _)); exact BK281.out)) : gb296 ≠ gb281)); clear HO285; clear HO288; clear HO291; clear HO294; clear BK281; clear HB; have HO285 := n0_; have HO288 := n1_; have HO291 := n2_; have HO294 := n3_; have BK281 := n4_; have HB := n5_; have BK296 := n6_; have GW296 := n7_; have GE296 := n8_; have NB281_296 := n9_; have NB296_281 := n10_; clear n0_ n1_ n2_ n3_ n4_ n5_ n6_ n7_ n8_ n9_ n10_; clear hb hbox hg; obtain ⟨Ao21, co21, eo21⟩ := Kd.R_slice HO291.out; subst eo21; have hnb22 := NB296_281.out; have hnc22 := NB281_296.out; have hcz23_0 : w20.cell? ⟨gb296, 0, none⟩ = some (.slice none 0 0) := (blk_cell BK296.out 0).trans rfl; have hcz23_1 : w20.cell? ⟨gb296, 1, none⟩ = some (.slice none 0 0) := (blk_cell BK296.out 1).trans rfl; have hfz23_0 := blk_frozen BK296.out 0; have hfz23_1 := blk_frozen BK296.out 1; obtain ⟨Ao24, co24, eo24⟩ := Kd.R_slice HO294.out; subst eo24; have hcz25_0 : w20.cell? ⟨gb281, 0, none⟩ = some (.slice A0_0 l0_0.length c0_0) := (blk_cell BK281.out 0).trans rfl; have hcz25_1 : w20.cell? ⟨gb281, 1, none⟩ = some (.slice A0_1 l0_1.length c0_1) := (blk_cell BK281.out 1).trans rfl; have hfz25_0 := blk_frozen BK281.out 0; have hfz25_1 := blk_frozen BK281.out 1) | ((with_reducible refine gate_callee (f := 17) rfl ?_); refine goesL_ (some 26) rfl rfl Try.func17 (by kernel_rfl) rfl #[.agg #[.slice A0_0 l0_0.length c0_0, .slice A0_1 l0_1.length c0_1]] rfl (by (try simp only [List.map_toArray, List.map_cons, List.map_nil]); first | done | rfl | (simp only [List.length_drop, List.length_take]; rfl)) ?_; (with_reducible refine (laws_toHouse.calls k _ _ l0_0 _ _ l0_1 t297 t300 _ ?side1 ?side2 ?side3 ?side4 A9.out).mono ?_); (case side1 => exact Kd.C_below HR0_0.out (by repeat (first | (with_reducible first | exact HB.out | apply bA_ | apply bN_ | apply bD_ | refine bS_ ?_ GE281.out | refine bS_ ?_ GE296.out) | exact HB.out))); (case side2 => exact HC0_0.out); (case side3 => exact Kd.C_below HR0_1.out (by repeat (first | (with_reducible first | exact HB.out | apply bA_ | apply bN_ | apply bD_ | refine bS_ ?_ GE281.out | refine bS_ ?_ GE296.out) | exact HB.out))); (case side4 => exact HC0_1.out); rintro e w26 ⟨v298, v301, rfl, ho0, ho1, hb⟩; refine ⟨_, rfl, ?_⟩; have n0_ := Aside0.mk (rM_ (Kd.R_told (Kd.R_told (Kd.R_old (by (with_reducible repeat (first | apply rA_ | apply rN_ | apply rD_)); exact (rM_ (rF_ (p := ⟨gb296, 1, none⟩) (rF_ (p := ⟨gb296, 0, none⟩) (Kd.R_types HO285.out BK296.out (by decide)) (fun _ hk => hk.2) (.slice Ao21 t289.length co21)) (fun _ hk => hk.2) (.slice Ao24 t292.length co24)) (fun _ h_ => h_.1))) hb) (Kd.R_base ho0)) (Kd.R_base ho1)) (fun _ h_ => h_.1)); have n1_ := Aside0.mk (rM_ (Kd.R_told (Kd.R_told (Kd.R_old (by (with_reducible repeat (first | apply rA_ | apply rN_ | apply rD_)); exact (rM_ (rF_ (p := ⟨gb296, 1, none⟩) (rF_ (p := ⟨gb296, 0, none⟩) (Kd.R_types HO288.out BK296.out (by decide)) (fun _ hk => hk.2) (.slice Ao21 t289.length co21)) (fun _ hk => hk.2) (.slice Ao24 t292.length co24)) (fun _ h_ => h_.1))) hb) (Kd.R_base ho0)) (Kd.R_base ho1)) (fun _ h_ => h_.1)); have n2_ := Aside0.mk (rM_ (Kd.R_told (Kd.R_told (Kd.R_old (by (with_reducible repeat (first | apply rA_ | apply rN_ | apply rD_)); exact (rM_ (rF_ (p := ⟨gb296, 1, none⟩) (rF_ (p := ⟨gb296, 0, none⟩) (Kd.R_types HO291.out BK296.out (by decide)) (fun _ hk => hk.2) (.slice Ao21 t289.length co21)) (fun _ hk => hk.2) (.slice Ao24 t292.length co24)) (fun _ h_ => h_.1))) hb) (Kd.R_base ho0)) (Kd.R_base ho1)) (fun _ h_ => h_.1)); have n3_ := Aside0.mk (rM_ (Kd.R_told (Kd.R_told (Kd.R_old (by (with_reducible repeat (first | apply rA_ | apply rN_ | apply rD_)); exact (rM_ (rF_ (p := ⟨gb296, 1, none⟩) (rF_ (p := ⟨gb296, 0, none⟩) (Kd.R_types HO294.out BK296.out (by decide)) (fun _ hk => hk.2) (.slice Ao21 t289.length co21)) (fun _ hk => hk.2) (.slice Ao24 t292.length co24)) (fun _ h_ => h_.1))) hb) (Kd.R_base ho0)) (Kd.R_base ho1)) (fun _ h_ => h_.1)); have n4_ := Aside0.mk (Kd.R_lower (Kd.R_new' (Kd.R_new' (Kd.R_new' (Kd.R_new' ho0 (Kd.R_lt (by (with_reducible repeat (first | apply rA_ | apply rN_ | apply rD_)); exact (rM_ (rF_ (p := ⟨gb296, 1, none⟩) (rF_ (p := ⟨gb296, 0, none⟩) (Kd.R_types HO285.out BK296.out (by decide)) (fun _ hk => hk.2) (.slice Ao21 t289.length co21)) (fun _ hk => hk.2) (.slice Ao24 t292.length co24)) (fun _ h_ => h_.1))))) (Kd.R_lt (by (with_reducible repeat (first | apply rA_ | apply rN_ | apply rD_)); exact (rM_ (rF_ (p := ⟨gb296, 1, none⟩) (rF_ (p := ⟨gb296, 0, none⟩) (Kd.R_types HO288.out BK296.out (by decide)) (fun _ hk => hk.2) (.slice Ao21 t289.length co21)) (fun _ hk => hk.2) (.slice Ao24 t292.length co24)) (fun _ h_ => h_.1))))) (Kd.R_lt (by (with_reducible repeat (first | apply rA_ | apply rN_ | apply rD_)); exact (rM_ (rF_ (p := ⟨gb296, 1, none⟩) (rF_ (p := ⟨gb296, 0, none⟩) (Kd.R_types HO291.out BK296.out (by decide)) (fun _ hk => hk.2) (.slice Ao21 t289.length co21)) (fun _ hk => hk.2) (.slice Ao24 t292.length co24)) (fun _ h_ => h_.1))))) (Kd.R_lt (by (with_reducible repeat (first | apply rA_ | apply rN_ | apply rD_)); exact (rM_ (rF_ (p := ⟨gb296, 1, none⟩) (rF_ (p := ⟨gb296, 0, none⟩) (Kd.R_types HO294.out BK296.out (by decide)) (fun _ hk => hk.2) (.slice Ao21 t289.length co21)) (fun _ hk => hk.2) (.slice Ao24 t292.length co24)) (fun _ h_ => h_.1))))) (below_size (by repeat (first | (with_reducible first | exact HB.out | apply bA_ | apply bN_ | apply bD_ | refine bS_ ?_ GE281.out | refine bS_ ?_ GE296.out) | exact HB.out)))); have n5_ := Aside0.mk (Kd.R_lower (Kd.R_new' (Kd.R_new' (Kd.R_new' (Kd.R_new' ho1 (Kd.R_lt (by (with_reducible repeat (first | apply rA_ | apply rN_ | apply rD_)); exact (rM_ (rF_ (p := ⟨gb296, 1, none⟩) (rF_ (p := ⟨gb296, 0, none⟩) (Kd.R_types HO285.out BK296.out (by decide)) (fun _ hk => hk.2) (.slice Ao21 t289.length co21)) (fun _ hk => hk.2) (.slice Ao24 t292.length co24)) (fun _ h_ => h_.1))))) (Kd.R_lt (by (with_reducible repeat (first | apply rA_ | apply rN_ | apply rD_)); exact (rM_ (rF_ (p := ⟨gb296, 1, none⟩) (rF_ (p := ⟨gb296, 0, none⟩) (Kd.R_types HO288.out BK296.out (by decide)) (fun _ hk => hk.2) (.slice Ao21 t289.length co21)) (fun _ hk => hk.2) (.slice Ao24 t292.length co24)) (fun _ h_ => h_.1))))) (Kd.R_lt (by (with_reducible repeat (first | apply rA_ | apply rN_ | apply rD_)); exact (rM_ (rF_ (p := ⟨gb296, 1, none⟩) (rF_ (p := ⟨gb296, 0, none⟩) (Kd.R_types HO291.out BK296.out (by decide)) (fun _ hk => hk.2) (.slice Ao21 t289.length co21)) (fun _ hk => hk.2) (.slice Ao24 t292.length co24)) (fun _ h_ => h_.1))))) (Kd.R_lt (by (with_reducible repeat (first | apply rA_ | apply rN_ | apply rD_)); exact (rM_ (rF_ (p := ⟨gb296, 1, none⟩) (rF_ (p := ⟨gb296, 0, none⟩) (Kd.R_types HO294.out BK296.out (by decide)) (fun _ hk => hk.2) (.slice Ao21 t289.length co21)) (fun _ hk => hk.2) (.slice Ao24 t292.length co24)) (fun _ h_ => h_.1))))) (below_size (by repeat (first | (with_reducible first | exact HB.out | apply bA_ | apply bN_ | apply bD_ | refine bS_ ?_ GE281.out | refine bS_ ?_ GE296.out) | exact HB.out)))); have n6_ := Aside0.mk (blk_below (g := gb281) (o := .cells #[.slice A0_0 l0_0.length c0_0, .slice A0_1 l0_1.length c0_1] 24 (0, 0)) (by (with_reducible repeat (first | refine kN_ ?_ _ | refine kD_ ?_ | refine kA_ ?_ _)); refine blk_far ?_ NB281_296.out _; (with_reducible repeat (first | refine kN_ ?_ _ | refine kD_ ?_ | refine kA_ ?_ _)); refine blk_far ?_ NB281_296.out _; (with_reducible repeat (first | refine kN_ ?_ _ | refine kD_ ?_ | refine kA_ ?_ _)); exact BK281.out) hb); have n7_ := Aside0.mk (blk_below (g := gb296) (o := .cells #[.slice Ao21 t289.length co21, .slice Ao24 t292.length co24] 27 (0, 0)) (by (with_reducible repeat (first | refine kN_ ?_ _ | refine kD_ ?_ | refine kA_ ?_ _)); refine blk_put (cs := #[.slice Ao21 t289.length co21, .slice none 0 0]) ?_ 1 _ rfl; (with_reducible repeat (first | refine kN_ ?_ _ | refine kD_ ?_ | refine kA_ ?_ _)); refine blk_put (cs := #[.slice none 0 0, .slice none 0 0]) ?_ 0 _ rfl; (with_reducible repeat (first | refine kN_ ?_ _ | refine kD_ ?_ | refine kA_ ?_ _)); exact BK296.out) hb); have n8_ := Aside0.mk (below_step (by repeat (first | (with_reducible first | exact HB.out | apply bA_ | apply bN_ | apply bD_ | refine bS_ ?_ GE281.out | refine bS_ ?_ GE296.out) | exact HB.out)) hb); clear HO285; clear HO288; clear HO291; clear HO294; clear BK281; clear BK296; clear HB; have HO285 := n0_; have HO288 := n1_; have HO291 := n2_; have HO294 := n3_; have HO299 := n4_; have HO302 := n5_; have BK281 := n6_; have BK296 := n7_; have HB := n8_; clear n0_ n1_ n2_ n3_ n4_ n5_ n6_ n7_ n8_; (try clear hb); (try clear hb2); (try clear hk); (try clear hi); (try clear ho0); (try clear ho1)) | ((with_reducible refine gate_dst (N := 6) rfl ?_); refine box_event ?hg (N := 6) ?hd (cs := #[.slice none 0 0, .slice none 0 0]) (t := 27) ?hr ?_; (case hd => rfl); (case hg => rfl); (case hr => first | (go_simp; done) | (go_simp; rfl)); intro gb303 hg w27 hbox hb; have n0_ := Aside0.mk (rB_ (by (with_reducible repeat (first | apply rA_ | apply rN_ | apply rD_)); exact HO285.out) hb); have n1_ := Aside0.mk (rB_ (by (with_reducible repeat (first | apply rA_ | apply rN_ | apply rD_)); exact HO288.out) hb); have n2_ := Aside0.mk (rB_ (by (with_reducible repeat (first | apply rA_ | apply rN_ | apply rD_)); exact HO291.out) hb); have n3_ := Aside0.mk (rB_ (by (with_reducible repeat (first | apply rA_ | apply rN_ | apply rD_)); exact HO294.out) hb); have n4_ := Aside0.mk (rB_ (by (with_reducible repeat (first | apply rA_ | apply rN_ | apply rD_)); exact HO299.out) hb); have n5_ := Aside0.mk (rB_ (by (with_reducible repeat (first | apply rA_ | apply rN_ | apply rD_)); exact HO302.out) hb); have n6_ := Aside0.mk (blk_below (g := gb281) (o := .cells #[.slice A0_0 l0_0.length c0_0, .slice A0_1 l0_1.length c0_1] 24 (0, 0)) (by (with_reducible repeat (first | refine kN_ ?_ _ | refine kD_ ?_ | refine kA_ ?_ _)); exact BK281.out) hb); have n7_ := Aside0.mk (blk_below (g := gb296) (o := .cells #[.slice Ao21 t289.length co21, .slice Ao24 t292.length co24] 27 (0, 0)) (by (with_reducible repeat (first | refine kN_ ?_ _ | refine kD_ ?_ | refine kA_ ?_ _)); exact BK296.out) hb); have n8_ := Aside0.mk (below_step (by repeat (first | (with_reducible first | exact HB.out | apply bA_ | apply bN_ | apply bD_ | refine bS_ ?_ GE281.out | refine bS_ ?_ GE296.out) | exact HB.out)) hb); have n9_ := Aside0.mk (hbox); have n10_ := Aside0.mk ((by rw [hg]; exact (below_size (by repeat (first | (with_reducible first | exact HB.out | apply bA_ | apply bN_ | apply bD_ | refine bS_ ?_ GE281.out | refine bS_ ?_ GE296.out) | exact HB.out))) : w.heap.size ≤ gb303)); have n11_ := Aside0.mk ((by rw [hg]; exact (below_size (by repeat (first | (with_reducible first | exact HB.out | apply bA_ | apply bN_ | apply bD_ | refine bS_ ?_ GE281.out | refine bS_ ?_ GE296.out) | exact HB.out))) : w.heap.size ≤ gb303)); have n12_ := Aside0.mk ((by rw [hg]; exact Nat.ne_of_lt (blk_lt (g := gb281) (o := .cells #[.slice A0_0 l0_0.length c0_0, .slice A0_1 l0_1.length c0_1] 24 (0, 0)) (by (with_reducible repeat (first | refine kN_ ?_ _ | refine kD_ ?_ | refine kA_ ?_ _)); exact BK281.out)) : gb281 ≠ gb303)); have n13_ := Aside0.mk ((by rw [hg]; exact Nat.ne_of_gt (blk_lt (g := gb281) (o := .cells #[.slice A0_0 l0_0.length c0_0, .slice A0_1 l0_1.length c0_1] 24 (0, 0)) (by (with_reducible repeat (first | refine kN_ ?_ _ | refine kD_ ?_ | refine kA_ ?_ _)); exact BK281.out)) : gb303 ≠ gb281)); have n14_ := Aside0.mk ((by rw [hg]; exact Nat.ne_of_lt (blk_lt (g := gb296) (o := .cells #[.slice Ao21 t289.length co21, .slice Ao24 t292.length co24] 27 (0, 0)) (by (with_reducible repeat (first | refine kN_ ?_ _ | refine kD_ ?_ | refine kA_ ?_ _)); exact BK296.out)) : gb296 ≠ gb303)); have n15_ := Aside0.mk ((by rw [hg]; exact Nat.ne_of_gt (blk_lt (g := gb296) (o := .cells #[.slice Ao21 t289.length co21, .slice Ao24 t292.length co24] 27 (0, 0)) (by (with_reducible repeat (first | refine kN_ ?_ _ | refine kD_ ?_ | refine kA_ ?_ _)); exact BK296.out)) : gb303 ≠ gb296)); clear HO285; clear HO288; clear HO291; clear HO294; clear HO299; clear HO302; clear BK281; clear BK296; clear HB; have HO285 := n0_; have HO288 := n1_; have HO291 := n2_; have HO294 := n3_; have HO299 := n4_; have HO302 := n5_; have BK281 := n6_; have BK296 := n7_; have HB := n8_; have BK303 := n9_; have GW303 := n10_; have GE303 := n11_; have NB281_303 := n12_; have NB303_281 := n13_; have NB296_303 := n14_; have NB303_296 := n15_; clear n0_ n1_ n2_ n3_ n4_ n5_ n6_ n7_ n8_ n9_ n10_ n11_ n12_ n13_ n14_ n15_; clear hb hbox hg; obtain ⟨Ao28, co28, eo28⟩ := Kd.R_slice HO299.out; subst eo28; have hnb29 := NB303_281.out; have hnc29 := NB281_303.out; have hnb30 := NB303_296.out; have hnc30 := NB296_303.out; have hcz31_0 : w27.cell? ⟨gb303, 0, none⟩ = some (.slice none 0 0) := (blk_cell BK303.out 0).trans rfl; have hcz31_1 : w27.cell? ⟨gb303, 1, none⟩ = some (.slice none 0 0) := (blk_cell BK303.out 1).trans rfl; have hfz31_0 := blk_frozen BK303.out 0; have hfz31_1 := blk_frozen BK303.out 1; obtain ⟨Ao32, co32, eo32⟩ := Kd.R_slice HO302.out; subst eo32) | ((with_reducible refine gate_callee (f := 46) rfl ?_); refine goesL_ (some 29) rfl rfl Try.func46 (by kernel_rfl) rfl #[.agg #[.slice Ao28 t297.length co28, .slice Ao32 t300.length co32]] rfl (by (try simp only [List.map_toArray, List.map_cons, List.map_nil]); first | done | rfl | (simp only [List.length_drop, List.length_take]; rfl)) ?_; (with_reducible refine (impl_DropFloor.calls k _ _ t297 _ _ t300 t304 t307 t310 _ ?side1 ?side2 ?side3 ?side4 A10.out).mono ?_); (case side1 => refine (rR_ (e := 3) (base := w.heap.size) (ok := fun k_ => ((((some k_ ≠ (.slice Ao32 t300.length co32 : Value).ownBlock ∧ some k_ ≠ (.slice Ao17 t283.length co17 : Value).ownBlock) ∧ some k_ ≠ (.slice Ao18 t286.length co18 : Value).ownBlock) ∧ some k_ ≠ (.slice Ao21 t289.length co21 : Value).ownBlock) ∧ some k_ ≠ (.slice Ao24 t292.length co24 : Value).ownBlock)) (n := t297.length) (c := co28) ?_).2.2; exact (by (with_reducible repeat (first | apply rA_ | apply rN_ | apply rD_)); exact (rM_ (rF_ (p := ⟨gb303, 1, none⟩) (rF_ (p := ⟨gb303, 0, none⟩) (Kd.R_types HO299.out BK303.out (by decide)) (fun _ hk => hk.2) (.slice Ao28 t297.length co28)) (fun _ hk => hk.2) (.slice Ao32 t300.length co32)) (fun _ h_ => h_.1)))); (case side2 => exact (rR_ HO299.out).2.1); (case side3 => refine (rR_ (e := 3) (base := w.heap.size) (ok := fun k_ => ((((some k_ ≠ (.slice Ao28 t297.length co28 : Value).ownBlock ∧ some k_ ≠ (.slice Ao17 t283.length co17 : Value).ownBlock) ∧ some k_ ≠ (.slice Ao18 t286.length co18 : Value).ownBlock) ∧ some k_ ≠ (.slice Ao21 t289.length co21 : Value).ownBlock) ∧ some k_ ≠ (.slice Ao24 t292.length co24 : Value).ownBlock)) (n := t300.length) (c := co32) ?_).2.2; exact (by (with_reducible repeat (first | apply rA_ | apply rN_ | apply rD_)); exact (rM_ (rF_ (p := ⟨gb303, 1, none⟩) (rF_ (p := ⟨gb303, 0, none⟩) (Kd.R_types HO302.out BK303.out (by decide)) (fun _ hk => hk.2) (.slice Ao28 t297.length co28)) (fun _ hk => hk.2) (.slice Ao32 t300.length co32)) (fun _ h_ => h_.1)))); (case side4 => exact (rR_ HO302.out).2.1); rintro e w33 ⟨v305, v308, rfl, ho0, ho1, hb⟩; refine ⟨_, rfl, ?_⟩; have n0_ := Aside0.mk (rM_ (Kd.R_told (Kd.R_told (Kd.R_old (by (with_reducible repeat (first | apply rA_ | apply rN_ | apply rD_)); exact (rM_ (rF_ (p := ⟨gb303, 1, none⟩) (rF_ (p := ⟨gb303, 0, none⟩) (Kd.R_types HO285.out BK303.out (by decide)) (fun _ hk => hk.2) (.slice Ao28 t297.length co28)) (fun _ hk => hk.2) (.slice Ao32 t300.length co32)) (fun _ h_ => h_.1))) hb) (Kd.R_base ho0)) (Kd.R_base ho1)) (fun _ h_ => h_.1)); have n1_ := Aside0.mk (rM_ (Kd.R_told (Kd.R_told (Kd.R_old (by (with_reducible repeat (first | apply rA_ | apply rN_ | apply rD_)); exact (rM_ (rF_ (p := ⟨gb303, 1, none⟩) (rF_ (p := ⟨gb303, 0, none⟩) (Kd.R_types HO288.out BK303.out (by decide)) (fun _ hk => hk.2) (.slice Ao28 t297.length co28)) (fun _ hk => hk.2) (.slice Ao32 t300.length co32)) (fun _ h_ => h_.1))) hb) (Kd.R_base ho0)) (Kd.R_base ho1)) (fun _ h_ => h_.1)); have n2_ := Aside0.mk (rM_ (Kd.R_told (Kd.R_told (Kd.R_old (by (with_reducible repeat (first | apply rA_ | apply rN_ | apply rD_)); exact (rM_ (rF_ (p := ⟨gb303, 1, none⟩) (rF_ (p := ⟨gb303, 0, none⟩) (Kd.R_types HO291.out BK303.out (by decide)) (fun _ hk => hk.2) (.slice Ao28 t297.length co28)) (fun _ hk => hk.2) (.slice Ao32 t300.length co32)) (fun _ h_ => h_.1))) hb) (Kd.R_base ho0)) (Kd.R_base ho1)) (fun _ h_ => h_.1)); have n3_ := Aside0.mk (rM_ (Kd.R_told (Kd.R_told (Kd.R_old (by (with_reducible repeat (first | apply rA_ | apply rN_ | apply rD_)); exact (rM_ (rF_ (p := ⟨gb303, 1, none⟩) (rF_ (p := ⟨gb303, 0, none⟩) (Kd.R_types HO294.out BK303.out (by decide)) (fun _ hk => hk.2) (.slice Ao28 t297.length co28)) (fun _ hk => hk.2) (.slice Ao32 t300.length co32)) (fun _ h_ => h_.1))) hb) (Kd.R_base ho0)) (Kd.R_base ho1)) (fun _ h_ => h_.1)); have n4_ := Aside0.mk (rM_ (Kd.R_told (Kd.R_told (Kd.R_old (by (with_reducible repeat (first | apply rA_ | apply rN_ | apply rD_)); exact (rM_ (rF_ (p := ⟨gb303, 1, none⟩) (rF_ (p := ⟨gb303, 0, none⟩) (Kd.R_types HO299.out BK303.out (by decide)) (fun _ hk => hk.2) (.slice Ao28 t297.length co28)) (fun _ hk => hk.2) (.slice Ao32 t300.length co32)) (fun _ h_ => h_.1))) hb) (Kd.R_base ho0)) (Kd.R_base ho1)) (fun _ h_ => h_.1)); have n5_ := Aside0.mk (rM_ (Kd.R_told (Kd.R_told (Kd.R_old (by (with_reducible repeat (first | apply rA_ | apply rN_ | apply rD_)); exact (rM_ (rF_ (p := ⟨gb303, 1, none⟩) (rF_ (p := ⟨gb303, 0, none⟩) (Kd.R_types HO302.out BK303.out (by decide)) (fun _ hk => hk.2) (.slice Ao28 t297.length co28)) (fun _ hk => hk.2) (.slice Ao32 t300.length co32)) (fun _ h_ => h_.1))) hb) (Kd.R_base ho0)) (Kd.R_base ho1)) (fun _ h_ => h_.1)); have n6_ := Aside0.mk (Kd.R_lower (Kd.R_new' (Kd.R_new' (Kd.R_new' (Kd.R_new' (Kd.R_new' (Kd.R_new' ho0 (Kd.R_lt (by (with_reducible repeat (first | apply rA_ | apply rN_ | apply rD_)); exact (rM_ (rF_ (p := ⟨gb303, 1, none⟩) (rF_ (p := ⟨gb303, 0, none⟩) (Kd.R_types HO285.out BK303.out (by decide)) (fun _ hk => hk.2) (.slice Ao28 t297.length co28)) (fun _ hk => hk.2) (.slice Ao32 t300.length co32)) (fun _ h_ => h_.1))))) (Kd.R_lt (by (with_reducible repeat (first | apply rA_ | apply rN_ | apply rD_)); exact (rM_ (rF_ (p := ⟨gb303, 1, none⟩) (rF_ (p := ⟨gb303, 0, none⟩) (Kd.R_types HO288.out BK303.out (by decide)) (fun _ hk => hk.2) (.slice Ao28 t297.length co28)) (fun _ hk => hk.2) (.slice Ao32 t300.length co32)) (fun _ h_ => h_.1))))) (Kd.R_lt (by (with_reducible repeat (first | apply rA_ | apply rN_ | apply rD_)); exact (rM_ (rF_ (p := ⟨gb303, 1, none⟩) (rF_ (p := ⟨gb303, 0, none⟩) (Kd.R_types HO291.out BK303.out (by decide)) (fun _ hk => hk.2) (.slice Ao28 t297.length co28)) (fun _ hk => hk.2) (.slice Ao32 t300.length co32)) (fun _ h_ => h_.1))))) (Kd.R_lt (by (with_reducible repeat (first | apply rA_ | apply rN_ | apply rD_)); exact (rM_ (rF_ (p := ⟨gb303, 1, none⟩) (rF_ (p := ⟨gb303, 0, none⟩) (Kd.R_types HO294.out BK303.out (by decide)) (fun _ hk => hk.2) (.slice Ao28 t297.length co28)) (fun _ hk => hk.2) (.slice Ao32 t300.length co32)) (fun _ h_ => h_.1))))) (Kd.R_lt (by (with_reducible repeat (first | apply rA_ | apply rN_ | apply rD_)); exact (rM_ (rF_ (p := ⟨gb303, 1, none⟩) (rF_ (p := ⟨gb303, 0, none⟩) (Kd.R_types HO299.out BK303.out (by decide)) (fun _ hk => hk.2) (.slice Ao28 t297.length co28)) (fun _ hk => hk.2) (.slice Ao32 t300.length co32)) (fun _ h_ => h_.1))))) (Kd.R_lt (by (with_reducible repeat (first | apply rA_ | apply rN_ | apply rD_)); exact (rM_ (rF_ (p := ⟨gb303, 1, none⟩) (rF_ (p := ⟨gb303, 0, none⟩) (Kd.R_types HO302.out BK303.out (by decide)) (fun _ hk => hk.2) (.slice Ao28 t297.length co28)) (fun _ hk => hk.2) (.slice Ao32 t300.length co32)) (fun _ h_ => h_.1))))) (below_size (by repeat (first | (with_reducible first | exact HB.out | apply bA_ | apply bN_ | apply bD_ | refine bS_ ?_ GE281.out | refine bS_ ?_ GE296.out | refine bS_ ?_ GE303.out) | exact HB.out)))); have n7_ := Aside0.mk (Kd.R_lower (Kd.R_new' (Kd.R_new' (Kd.R_new' (Kd.R_new' (Kd.R_new' (Kd.R_new' ho1 (Kd.R_lt (by (with_reducible repeat (first | apply rA_ | apply rN_ | apply rD_)); exact (rM_ (rF_ (p := ⟨gb303, 1, none⟩) (rF_ (p := ⟨gb303, 0, none⟩) (Kd.R_types HO285.out BK303.out (by decide)) (fun _ hk => hk.2) (.slice Ao28 t297.length co28)) (fun _ hk => hk.2) (.slice Ao32 t300.length co32)) (fun _ h_ => h_.1))))) (Kd.R_lt (by (with_reducible repeat (first | apply rA_ | apply rN_ | apply rD_)); exact (rM_ (rF_ (p := ⟨gb303, 1, none⟩) (rF_ (p := ⟨gb303, 0, none⟩) (Kd.R_types HO288.out BK303.out (by decide)) (fun _ hk => hk.2) (.slice Ao28 t297.length co28)) (fun _ hk => hk.2) (.slice Ao32 t300.length co32)) (fun _ h_ => h_.1))))) (Kd.R_lt (by (with_reducible repeat (first | apply rA_ | apply rN_ | apply rD_)); exact (rM_ (rF_ (p := ⟨gb303, 1, none⟩) (rF_ (p := ⟨gb303, 0, none⟩) (Kd.R_types HO291.out BK303.out (by decide)) (fun _ hk => hk.2) (.slice Ao28 t297.length co28)) (fun _ hk => hk.2) (.slice Ao32 t300.length co32)) (fun _ h_ => h_.1))))) (Kd.R_lt (by (with_reducible repeat (first | apply rA_ | apply rN_ | apply rD_)); exact (rM_ (rF_ (p := ⟨gb303, 1, none⟩) (rF_ (p := ⟨gb303, 0, none⟩) (Kd.R_types HO294.out BK303.out (by decide)) (fun _ hk => hk.2) (.slice Ao28 t297.length co28)) (fun _ hk => hk.2) (.slice Ao32 t300.length co32)) (fun _ h_ => h_.1))))) (Kd.R_lt (by (with_reducible repeat (first | apply rA_ | apply rN_ | apply rD_)); exact (rM_ (rF_ (p := ⟨gb303, 1, none⟩) (rF_ (p := ⟨gb303, 0, none⟩) (Kd.R_types HO299.out BK303.out (by decide)) (fun _ hk => hk.2) (.slice Ao28 t297.length co28)) (fun _ hk => hk.2) (.slice Ao32 t300.length co32)) (fun _ h_ => h_.1))))) (Kd.R_lt (by (with_reducible repeat (first | apply rA_ | apply rN_ | apply rD_)); exact (rM_ (rF_ (p := ⟨gb303, 1, none⟩) (rF_ (p := ⟨gb303, 0, none⟩) (Kd.R_types HO302.out BK303.out (by decide)) (fun _ hk => hk.2) (.slice Ao28 t297.length co28)) (fun _ hk => hk.2) (.slice Ao32 t300.length co32)) (fun _ h_ => h_.1))))) (below_size (by repeat (first | (with_reducible first | exact HB.out | apply bA_ | apply bN_ | apply bD_ | refine bS_ ?_ GE281.out | refine bS_ ?_ GE296.out | refine bS_ ?_ GE303.out) | exact HB.out)))); have n8_ := Aside0.mk (blk_below (g := gb281) (o := .cells #[.slice A0_0 l0_0.length c0_0, .slice A0_1 l0_1.length c0_1] 24 (0, 0)) (by (with_reducible repeat (first | refine kN_ ?_ _ | refine kD_ ?_ | refine kA_ ?_ _)); refine blk_far ?_ NB281_303.out _; (with_reducible repeat (first | refine kN_ ?_ _ | refine kD_ ?_ | refine kA_ ?_ _)); refine blk_far ?_ NB281_303.out _; (with_reducible repeat (first | refine kN_ ?_ _ | refine kD_ ?_ | refine kA_ ?_ _)); exact BK281.out) hb); have n9_ := Aside0.mk (blk_below (g := gb296) (o := .cells #[.slice Ao21 t289.length co21, .slice Ao24 t292.length co24] 27 (0, 0)) (by (with_reducible repeat (first | refine kN_ ?_ _ | refine kD_ ?_ | refine kA_ ?_ _)); refine blk_far ?_ NB296_303.out _; (with_reducible repeat (first | refine kN_ ?_ _ | refine kD_ ?_ | refine kA_ ?_ _)); refine blk_far ?_ NB296_303.out _; (with_reducible repeat (first | refine kN_ ?_ _ | refine kD_ ?_ | refine kA_ ?_ _)); exact BK296.out) hb); have n10_ := Aside0.mk (blk_below (g := gb303) (o := .cells #[.slice Ao28 t297.length co28, .slice Ao32 t300.length co32] 27 (0, 0)) (by (with_reducible repeat (first | refine kN_ ?_ _ | refine kD_ ?_ | refine kA_ ?_ _)); refine blk_put (cs := #[.slice Ao28 t297.length co28, .slice none 0 0]) ?_ 1 _ rfl; (with_reducible repeat (first | refine kN_ ?_ _ | refine kD_ ?_ | refine kA_ ?_ _)); refine blk_put (cs := #[.slice none 0 0, .slice none 0 0]) ?_ 0 _ rfl; (with_reducible repeat (first | refine kN_ ?_ _ | refine kD_ ?_ | refine kA_ ?_ _)); exact BK303.out) hb); have n11_ := Aside0.mk (below_step (by repeat (first | (with_reducible first | exact HB.out | apply bA_ | apply bN_ | apply bD_ | refine bS_ ?_ GE281.out | refine bS_ ?_ GE296.out | refine bS_ ?_ GE303.out) | exact HB.out)) hb); clear HO285; clear HO288; clear HO291; clear HO294; clear HO299; clear HO302; clear BK281; clear BK296; clear BK303; clear HB; have HO285 := n0_; have HO288 := n1_; have HO291 := n2_; have HO294 := n3_; have HO299 := n4_; have HO302 := n5_; have HO306 := n6_; have HO309 := n7_; have BK281 := n8_; have BK296 := n9_; have BK303 := n10_; have HB := n11_; clear n0_ n1_ n2_ n3_ n4_ n5_ n6_ n7_ n8_ n9_ n10_ n11_; (try clear hb); (try clear hb2); (try clear hk); (try clear hi); (try clear ho0); (try clear ho1)) | ((with_reducible refine gate_dst (N := 7) rfl ?_); refine box_event ?hg (N := 7) ?hd (cs := #[.slice none 0 0, .slice none 0 0]) (t := 27) ?hr ?_; (case hd => rfl); (case hg => rfl); (case hr => first | (go_simp; done) | (go_simp; rfl)); intro gb311 hg w34 hbox hb; have n0_ := Aside0.mk (rB_ (by (with_reducible repeat (first | apply rA_ | apply rN_ | apply rD_)); exact HO285.out) hb); have n1_ := Aside0.mk (rB_ (by (with_reducible repeat (first | apply rA_ | apply rN_ | apply rD_)); exact HO288.out) hb); have n2_ := Aside0.mk (rB_ (by (with_reducible repeat (first | apply rA_ | apply rN_ | apply rD_)); exact HO291.out) hb); have n3_ := Aside0.mk (rB_ (by (with_reducible repeat (first | apply rA_ | apply rN_ | apply rD_)); exact HO294.out) hb); have n4_ := Aside0.mk (rB_ (by (with_reducible repeat (first | apply rA_ | apply rN_ | apply rD_)); exact HO299.out) hb); have n5_ := Aside0.mk (rB_ (by (with_reducible repeat (first | apply rA_ | apply rN_ | apply rD_)); exact HO302.out) hb); have n6_ := Aside0.mk (rB_ (by (with_reducible repeat (first | apply rA_ | apply rN_ | apply rD_)); exact HO306.out) hb); have n7_ := Aside0.mk (rB_ (by (with_reducible repeat (first | apply rA_ | apply rN_ | apply rD_)); exact HO309.out) hb); have n8_ := Aside0.mk (blk_below (g := gb281) (o := .cells #[.slice A0_0 l0_0.length c0_0, .slice A0_1 l0_1.length c0_1] 24 (0, 0)) (by (with_reducible repeat (first | refine kN_ ?_ _ | refine kD_ ?_ | refine kA_ ?_ _)); exact BK281.out) hb); have n9_ := Aside0.mk (blk_below (g := gb296) (o := .cells #[.slice Ao21 t289.length co21, .slice Ao24 t292.length co24] 27 (0, 0)) (by (with_reducible repeat (first | refine kN_ ?_ _ | refine kD_ ?_ | refine kA_ ?_ _)); exact BK296.out) hb); have n10_ := Aside0.mk (blk_below (g := gb303) (o := .cells #[.slice Ao28 t297.length co28, .slice Ao32 t300.length co32] 27 (0, 0)) (by (with_reducible repeat (first | refine kN_ ?_ _ | refine kD_ ?_ | refine kA_ ?_ _)); exact BK303.out) hb); have n11_ := Aside0.mk (below_step (by repeat (first | (with_reducible first | exact HB.out | apply bA_ | apply bN_ | apply bD_ | refine bS_ ?_ GE281.out | refine bS_ ?_ GE296.out | refine bS_ ?_ GE303.out) | exact HB.out)) hb); have n12_ := Aside0.mk (hbox); have n13_ := Aside0.mk ((by rw [hg]; exact (below_size (by repeat (first | (with_reducible first | exact HB.out | apply bA_ | apply bN_ | apply bD_ | refine bS_ ?_ GE281.out | refine bS_ ?_ GE296.out | refine bS_ ?_ GE303.out) | exact HB.out))) : w.heap.size ≤ gb311)); have n14_ := Aside0.mk ((by rw [hg]; exact (below_size (by repeat (first | (with_reducible first | exact HB.out | apply bA_ | apply bN_ | apply bD_ | refine bS_ ?_ GE281.out | refine bS_ ?_ GE296.out | refine bS_ ?_ GE303.out) | exact HB.out))) : w.heap.size ≤ gb311)); have n15_ := Aside0.mk ((by rw [hg]; exact Nat.ne_of_lt (blk_lt (g := gb281) (o := .cells #[.slice A0_0 l0_0.length c0_0, .slice A0_1 l0_1.length c0_1] 24 (0, 0)) (by (with_reducible repeat (first | refine kN_ ?_ _ | refine kD_ ?_ | refine kA_ ?_ _)); exact BK281.out)) : gb281 ≠ gb311)); have n16_ := Aside0.mk ((by rw [hg]; exact Nat.ne_of_gt (blk_lt (g := gb281) (o := .cells #[.slice A0_0 l0_0.length c0_0, .slice A0_1 l0_1.length c0_1] 24 (0, 0)) (by (with_reducible repeat (first | refine kN_ ?_ _ | refine kD_ ?_ | refine kA_ ?_ _)); exact BK281.out)) : gb311 ≠ gb281)); have n17_ := Aside0.mk ((by rw [hg]; exact Nat.ne_of_lt (blk_lt (g := gb296) (o := .cells #[.slice Ao21 t289.length co21, .slice Ao24 t292.length co24] 27 (0, 0)) (by (with_reducible repeat (first | refine kN_ ?_ _ | refine kD_ ?_ | refine kA_ ?_ _)); exact BK296.out)) : gb296 ≠ gb311)); have n18_ := Aside0.mk ((by rw [hg]; exact Nat.ne_of_gt (blk_lt (g := gb296) (o := .cells #[.slice Ao21 t289.length co21, .slice Ao24 t292.length co24] 27 (0, 0)) (by (with_reducible repeat (first | refine kN_ ?_ _ | refine kD_ ?_ | refine kA_ ?_ _)); exact BK296.out)) : gb311 ≠ gb296)); have n19_ := Aside0.mk ((by rw [hg]; exact Nat.ne_of_lt (blk_lt (g := gb303) (o := .cells #[.slice Ao28 t297.length co28, .slice Ao32 t300.length co32] 27 (0, 0)) (by (with_reducible repeat (first | refine kN_ ?_ _ | refine kD_ ?_ | refine kA_ ?_ _)); exact BK303.out)) : gb303 ≠ gb311)); have n20_ := Aside0.mk ((by rw [hg]; exact Nat.ne_of_gt (blk_lt (g := gb303) (o := .cells #[.slice Ao28 t297.length co28, .slice Ao32 t300.length co32] 27 (0, 0)) (by (with_reducible repeat (first | refine kN_ ?_ _ | refine kD_ ?_ | refine kA_ ?_ _)); exact BK303.out)) : gb311 ≠ gb303)); clear HO285; clear HO288; clear HO291; clear HO294; clear HO299; clear HO302; clear HO306; clear HO309; clear BK281; clear BK296; clear BK303; clear HB; have HO285 := n0_; have HO288 := n1_; have HO291 := n2_; have HO294 := n3_; have HO299 := n4_; have HO302 := n5_; have HO306 := n6_; have HO309 := n7_; have BK281 := n8_; have BK296 := n9_; have BK303 := n10_; have HB := n11_; have BK311 := n12_; have GW311 := n13_; have GE311 := n14_; have NB281_311 := n15_; have NB311_281 := n16_; have NB296_311 := n17_; have NB311_296 := n18_; have NB303_311 := n19_; have NB311_303 := n20_; clear n0_ n1_ n2_ n3_ n4_ n5_ n6_ n7_ n8_ n9_ n10_ n11_ n12_ n13_ n14_ n15_ n16_ n17_ n18_ n19_ n20_; clear hb hbox hg; obtain ⟨Ao35, co35, eo35⟩ := Kd.R_slice HO306.out; subst eo35; have hnb36 := NB311_281.out; have hnc36 := NB281_311.out; have hnb37 := NB311_296.out; have hnc37 := NB296_311.out; have hnb38 := NB311_303.out; have hnc38 := NB303_311.out; have hcz39_0 : w34.cell? ⟨gb311, 0, none⟩ = some (.slice none 0 0) := (blk_cell BK311.out 0).trans rfl; have hcz39_1 : w34.cell? ⟨gb311, 1, none⟩ = some (.slice none 0 0) := (blk_cell BK311.out 1).trans rfl; have hfz39_0 := blk_frozen BK311.out 0; have hfz39_1 := blk_frozen BK311.out 1; obtain ⟨Ao40, co40, eo40⟩ := Kd.R_slice HO309.out; subst eo40))
    (try simp only [Act.put, List.setIfInBounds_toArray, List.set_cons_zero, List.set_cons_succ])
    go_cut [40] (fun v40 wc => ∃ (kq : Nat) (x40_10 : Bool), v40 = .bool x40_10 ∧ Aside0 (laws_FnExactDropFloor.j0 kq t295 t310 x40_10 l0_0 l0_1 t289 t292 t297 t300 t304 t307 = some r) ∧ Aside0 (kq ≤ k) ∧ Aside0 (Kd.R (Kd.int .i64) 3 wc w.heap.size (fun k_ => some k_ ≠ ((.slice Ao24 t292.length co24) : Value).ownBlock ∧ some k_ ≠ ((.slice Ao28 t297.length co28) : Value).ownBlock ∧ some k_ ≠ ((.slice Ao32 t300.length co32) : Value).ownBlock ∧ some k_ ≠ ((.slice Ao35 t304.length co35) : Value).ownBlock ∧ some k_ ≠ ((.slice Ao40 t307.length co40) : Value).ownBlock) (.slice Ao21 t289.length co21) t289) ∧ Aside0 (Kd.R (Kd.int .i64) 3 wc w.heap.size (fun k_ => some k_ ≠ ((.slice Ao21 t289.length co21) : Value).ownBlock ∧ some k_ ≠ ((.slice Ao28 t297.length co28) : Value).ownBlock ∧ some k_ ≠ ((.slice Ao32 t300.length co32) : Value).ownBlock ∧ some k_ ≠ ((.slice Ao35 t304.length co35) : Value).ownBlock ∧ some k_ ≠ ((.slice Ao40 t307.length co40) : Value).ownBlock) (.slice Ao24 t292.length co24) t292) ∧ Aside0 (Kd.R (Kd.int .i64) 3 wc w.heap.size (fun k_ => some k_ ≠ ((.slice Ao21 t289.length co21) : Value).ownBlock ∧ some k_ ≠ ((.slice Ao24 t292.length co24) : Value).ownBlock ∧ some k_ ≠ ((.slice Ao32 t300.length co32) : Value).ownBlock ∧ some k_ ≠ ((.slice Ao35 t304.length co35) : Value).ownBlock ∧ some k_ ≠ ((.slice Ao40 t307.length co40) : Value).ownBlock) (.slice Ao28 t297.length co28) t297) ∧ Aside0 (Kd.R (Kd.int .i64) 3 wc w.heap.size (fun k_ => some k_ ≠ ((.slice Ao21 t289.length co21) : Value).ownBlock ∧ some k_ ≠ ((.slice Ao24 t292.length co24) : Value).ownBlock ∧ some k_ ≠ ((.slice Ao28 t297.length co28) : Value).ownBlock ∧ some k_ ≠ ((.slice Ao35 t304.length co35) : Value).ownBlock ∧ some k_ ≠ ((.slice Ao40 t307.length co40) : Value).ownBlock) (.slice Ao32 t300.length co32) t300) ∧ Aside0 (Kd.R (Kd.int .i64) 3 wc w.heap.size (fun k_ => some k_ ≠ ((.slice Ao21 t289.length co21) : Value).ownBlock ∧ some k_ ≠ ((.slice Ao24 t292.length co24) : Value).ownBlock ∧ some k_ ≠ ((.slice Ao28 t297.length co28) : Value).ownBlock ∧ some k_ ≠ ((.slice Ao32 t300.length co32) : Value).ownBlock ∧ some k_ ≠ ((.slice Ao40 t307.length co40) : Value).ownBlock) (.slice Ao35 t304.length co35) t304) ∧ Aside0 (Kd.R (Kd.int .i64) 3 wc w.heap.size (fun k_ => some k_ ≠ ((.slice Ao21 t289.length co21) : Value).ownBlock ∧ some k_ ≠ ((.slice Ao24 t292.length co24) : Value).ownBlock ∧ some k_ ≠ ((.slice Ao28 t297.length co28) : Value).ownBlock ∧ some k_ ≠ ((.slice Ao32 t300.length co32) : Value).ownBlock ∧ some k_ ≠ ((.slice Ao35 t304.length co35) : Value).ownBlock) (.slice Ao40 t307.length co40) t307) ∧ Aside0 (wc.heap[gb281]? = some (.cells #[(.slice A0_0 l0_0.length c0_0), (.slice A0_1 l0_1.length c0_1)] 24 (0, 0))) ∧ Aside0 (wc.heap[gb296]? = some (.cells #[(.slice Ao21 t289.length co21), (.slice Ao24 t292.length co24)] 27 (0, 0))) ∧ Aside0 (wc.heap[gb303]? = some (.cells #[(.slice Ao28 t297.length co28), (.slice Ao32 t300.length co32)] 27 (0, 0))) ∧ Aside0 (wc.heap[gb311]? = some (.cells #[(.slice Ao35 t304.length co35), (.slice Ao40 t307.length co40)] 27 (0, 0))) ∧ Aside0 (Below w.heap.size w wc))
    case first =>
      have H := HC11.out
      clear HC11
      replace H := Option.bind_eq_some_iff.mp H
      obtain ⟨t312, A410, H⟩ := H
      replace H : (if t312 = true then (laws_FnExactDropFloor.j0 k t295 t310 (t310 != t295) l0_0 l0_1 t289 t292 t297 t300 t304 t307) else (laws_FnExactDropFloor.j0 k t295 t310 true l0_0 l0_1 t289 t292 t297 t300 t304 t307)) = some r := H
      have A41 := Aside0.mk A410
      clear A410
      by_cases c42 : t312 = true
      · subst c42
        have H1 : (laws_FnExactDropFloor.j0 k t295 t310 (t310 != t295) l0_0 l0_1 t289 t292 t297 t300 t304 t307) = some r := by rw [if_pos rfl] at H; exact H
        clear H
        have H := H1
        clear H1
        have H' := Aside0.mk H
        clear H
        have hnb43 := NB311_281.out
        have hnc43 := NB281_311.out
        have hnb44 := NB311_296.out
        have hnc44 := NB296_311.out
        have hnb45 := NB311_303.out
        have hnc45 := NB303_311.out
        have hcz46_0 : w34.cell? ⟨gb311, 0, none⟩ = some (.slice none 0 0) := (blk_cell BK311.out 0).trans rfl
        have hcz46_1 : w34.cell? ⟨gb311, 1, none⟩ = some (.slice none 0 0) := (blk_cell BK311.out 1).trans rfl
        have hfz46_0 := blk_frozen BK311.out 0
        have hfz46_1 := blk_frozen BK311.out 1
        have hnb47 := NB296_281.out
        have hnc47 := NB281_296.out
        have hnb48 := NB296_303.out
        have hnc48 := NB303_296.out
        have hcz49_0 : w34.cell? ⟨gb296, 0, none⟩ = some (.slice Ao21 t289.length co21) := (blk_cell BK296.out 0).trans rfl
        have hcz49_1 : w34.cell? ⟨gb296, 1, none⟩ = some (.slice Ao24 t292.length co24) := (blk_cell BK296.out 1).trans rfl
        have hfz49_0 := blk_frozen BK296.out 0
        have hfz49_1 := blk_frozen BK296.out 1
        go_wp2_with (first | ((with_reducible refine gate_callee (f := 19) rfl ?_); refine goesL_ (some 34) rfl rfl Try.func19 (by kernel_rfl) rfl #[.agg #[.slice Ao35 t304.length co35, .slice Ao40 t307.length co40], .agg #[.slice Ao21 t289.length co21, .slice Ao24 t292.length co24]] rfl (by (try simp only [List.map_toArray, List.map_cons, List.map_nil]); first | done | rfl | (simp only [List.length_drop, List.length_take]; rfl)) ?_; (with_reducible refine (laws_eqHouse.calls k _ _ t304 _ _ t307 _ _ t289 _ _ t292 true _ ?side1 ?side2 ?side3 ?side4 ?side5 ?side6 ?side7 ?side8 A41.out).mono ?_); (case side1 => refine (rR_ (e := 3) (base := w.heap.size) (ok := fun k_ => ((((((some k_ ≠ (.slice Ao40 t307.length co40 : Value).ownBlock ∧ some k_ ≠ (.slice Ao17 t283.length co17 : Value).ownBlock) ∧ some k_ ≠ (.slice Ao18 t286.length co18 : Value).ownBlock) ∧ some k_ ≠ (.slice Ao21 t289.length co21 : Value).ownBlock) ∧ some k_ ≠ (.slice Ao24 t292.length co24 : Value).ownBlock) ∧ some k_ ≠ (.slice Ao28 t297.length co28 : Value).ownBlock) ∧ some k_ ≠ (.slice Ao32 t300.length co32 : Value).ownBlock)) (n := t304.length) (c := co35) ?_).2.2; exact (by (with_reducible repeat (first | apply rA_ | apply rN_ | apply rD_)); exact (rM_ (rF_ (p := ⟨gb311, 1, none⟩) (rF_ (p := ⟨gb311, 0, none⟩) (Kd.R_types HO306.out BK311.out (by decide)) (fun _ hk => hk.2) (.slice Ao35 t304.length co35)) (fun _ hk => hk.2) (.slice Ao40 t307.length co40)) (fun _ h_ => h_.1)))); (case side2 => exact (rR_ HO306.out).2.1); (case side3 => refine (rR_ (e := 3) (base := w.heap.size) (ok := fun k_ => ((((((some k_ ≠ (.slice Ao35 t304.length co35 : Value).ownBlock ∧ some k_ ≠ (.slice Ao17 t283.length co17 : Value).ownBlock) ∧ some k_ ≠ (.slice Ao18 t286.length co18 : Value).ownBlock) ∧ some k_ ≠ (.slice Ao21 t289.length co21 : Value).ownBlock) ∧ some k_ ≠ (.slice Ao24 t292.length co24 : Value).ownBlock) ∧ some k_ ≠ (.slice Ao28 t297.length co28 : Value).ownBlock) ∧ some k_ ≠ (.slice Ao32 t300.length co32 : Value).ownBlock)) (n := t307.length) (c := co40) ?_).2.2; exact (by (with_reducible repeat (first | apply rA_ | apply rN_ | apply rD_)); exact (rM_ (rF_ (p := ⟨gb311, 1, none⟩) (rF_ (p := ⟨gb311, 0, none⟩) (Kd.R_types HO309.out BK311.out (by decide)) (fun _ hk => hk.2) (.slice Ao35 t304.length co35)) (fun _ hk => hk.2) (.slice Ao40 t307.length co40)) (fun _ h_ => h_.1)))); (case side4 => exact (rR_ HO309.out).2.1); (case side5 => refine (rR_ (e := 3) (base := w.heap.size) (ok := fun k_ => ((((((some k_ ≠ (.slice Ao24 t292.length co24 : Value).ownBlock ∧ some k_ ≠ (.slice Ao17 t283.length co17 : Value).ownBlock) ∧ some k_ ≠ (.slice Ao18 t286.length co18 : Value).ownBlock) ∧ some k_ ≠ (.slice Ao28 t297.length co28 : Value).ownBlock) ∧ some k_ ≠ (.slice Ao32 t300.length co32 : Value).ownBlock) ∧ some k_ ≠ (.slice Ao35 t304.length co35 : Value).ownBlock) ∧ some k_ ≠ (.slice Ao40 t307.length co40 : Value).ownBlock)) (n := t289.length) (c := co21) ?_).2.2; exact (by (with_reducible repeat (first | apply rA_ | apply rN_ | apply rD_)); exact (rM_ (rF_ (p := ⟨gb311, 1, none⟩) (rF_ (p := ⟨gb311, 0, none⟩) (Kd.R_types HO291.out BK311.out (by decide)) (fun _ hk => hk.2) (.slice Ao35 t304.length co35)) (fun _ hk => hk.2) (.slice Ao40 t307.length co40)) (fun _ h_ => h_.1)))); (case side6 => exact (rR_ HO291.out).2.1); (case side7 => refine (rR_ (e := 3) (base := w.heap.size) (ok := fun k_ => ((((((some k_ ≠ (.slice Ao21 t289.length co21 : Value).ownBlock ∧ some k_ ≠ (.slice Ao17 t283.length co17 : Value).ownBlock) ∧ some k_ ≠ (.slice Ao18 t286.length co18 : Value).ownBlock) ∧ some k_ ≠ (.slice Ao28 t297.length co28 : Value).ownBlock) ∧ some k_ ≠ (.slice Ao32 t300.length co32 : Value).ownBlock) ∧ some k_ ≠ (.slice Ao35 t304.length co35 : Value).ownBlock) ∧ some k_ ≠ (.slice Ao40 t307.length co40 : Value).ownBlock)) (n := t292.length) (c := co24) ?_).2.2; exact (by (with_reducible repeat (first | apply rA_ | apply rN_ | apply rD_)); exact (rM_ (rF_ (p := ⟨gb311, 1, none⟩) (rF_ (p := ⟨gb311, 0, none⟩) (Kd.R_types HO294.out BK311.out (by decide)) (fun _ hk => hk.2) (.slice Ao35 t304.length co35)) (fun _ hk => hk.2) (.slice Ao40 t307.length co40)) (fun _ h_ => h_.1)))); (case side8 => exact (rR_ HO294.out).2.1); rintro e w50 ⟨rfl, hb⟩; refine ⟨_, rfl, ?_⟩; have n0_ := Aside0.mk (rB_ (by (with_reducible repeat (first | apply rA_ | apply rN_ | apply rD_)); exact (rM_ (rF_ (p := ⟨gb311, 1, none⟩) (rF_ (p := ⟨gb311, 0, none⟩) (Kd.R_types HO285.out BK311.out (by decide)) (fun _ hk => hk.2) (.slice Ao35 t304.length co35)) (fun _ hk => hk.2) (.slice Ao40 t307.length co40)) (fun _ h_ => h_.1))) hb); have n1_ := Aside0.mk (rB_ (by (with_reducible repeat (first | apply rA_ | apply rN_ | apply rD_)); exact (rM_ (rF_ (p := ⟨gb311, 1, none⟩) (rF_ (p := ⟨gb311, 0, none⟩) (Kd.R_types HO288.out BK311.out (by decide)) (fun _ hk => hk.2) (.slice Ao35 t304.length co35)) (fun _ hk => hk.2) (.slice Ao40 t307.length co40)) (fun _ h_ => h_.1))) hb); have n2_ := Aside0.mk (rB_ (by (with_reducible repeat (first | apply rA_ | apply rN_ | apply rD_)); exact (rM_ (rF_ (p := ⟨gb311, 1, none⟩) (rF_ (p := ⟨gb311, 0, none⟩) (Kd.R_types HO291.out BK311.out (by decide)) (fun _ hk => hk.2) (.slice Ao35 t304.length co35)) (fun _ hk => hk.2) (.slice Ao40 t307.length co40)) (fun _ h_ => h_.1))) hb); have n3_ := Aside0.mk (rB_ (by (with_reducible repeat (first | apply rA_ | apply rN_ | apply rD_)); exact (rM_ (rF_ (p := ⟨gb311, 1, none⟩) (rF_ (p := ⟨gb311, 0, none⟩) (Kd.R_types HO294.out BK311.out (by decide)) (fun _ hk => hk.2) (.slice Ao35 t304.length co35)) (fun _ hk => hk.2) (.slice Ao40 t307.length co40)) (fun _ h_ => h_.1))) hb); have n4_ := Aside0.mk (rB_ (by (with_reducible repeat (first | apply rA_ | apply rN_ | apply rD_)); exact (rM_ (rF_ (p := ⟨gb311, 1, none⟩) (rF_ (p := ⟨gb311, 0, none⟩) (Kd.R_types HO299.out BK311.out (by decide)) (fun _ hk => hk.2) (.slice Ao35 t304.length co35)) (fun _ hk => hk.2) (.slice Ao40 t307.length co40)) (fun _ h_ => h_.1))) hb); have n5_ := Aside0.mk (rB_ (by (with_reducible repeat (first | apply rA_ | apply rN_ | apply rD_)); exact (rM_ (rF_ (p := ⟨gb311, 1, none⟩) (rF_ (p := ⟨gb311, 0, none⟩) (Kd.R_types HO302.out BK311.out (by decide)) (fun _ hk => hk.2) (.slice Ao35 t304.length co35)) (fun _ hk => hk.2) (.slice Ao40 t307.length co40)) (fun _ h_ => h_.1))) hb); have n6_ := Aside0.mk (rB_ (by (with_reducible repeat (first | apply rA_ | apply rN_ | apply rD_)); exact (rM_ (rF_ (p := ⟨gb311, 1, none⟩) (rF_ (p := ⟨gb311, 0, none⟩) (Kd.R_types HO306.out BK311.out (by decide)) (fun _ hk => hk.2) (.slice Ao35 t304.length co35)) (fun _ hk => hk.2) (.slice Ao40 t307.length co40)) (fun _ h_ => h_.1))) hb); have n7_ := Aside0.mk (rB_ (by (with_reducible repeat (first | apply rA_ | apply rN_ | apply rD_)); exact (rM_ (rF_ (p := ⟨gb311, 1, none⟩) (rF_ (p := ⟨gb311, 0, none⟩) (Kd.R_types HO309.out BK311.out (by decide)) (fun _ hk => hk.2) (.slice Ao35 t304.length co35)) (fun _ hk => hk.2) (.slice Ao40 t307.length co40)) (fun _ h_ => h_.1))) hb); have n8_ := Aside0.mk (blk_below (g := gb281) (o := .cells #[.slice A0_0 l0_0.length c0_0, .slice A0_1 l0_1.length c0_1] 24 (0, 0)) (by (with_reducible repeat (first | refine kN_ ?_ _ | refine kD_ ?_ | refine kA_ ?_ _)); refine blk_far ?_ NB281_311.out _; (with_reducible repeat (first | refine kN_ ?_ _ | refine kD_ ?_ | refine kA_ ?_ _)); refine blk_far ?_ NB281_311.out _; (with_reducible repeat (first | refine kN_ ?_ _ | refine kD_ ?_ | refine kA_ ?_ _)); exact BK281.out) hb); have n9_ := Aside0.mk (blk_below (g := gb296) (o := .cells #[.slice Ao21 t289.length co21, .slice Ao24 t292.length co24] 27 (0, 0)) (by (with_reducible repeat (first | refine kN_ ?_ _ | refine kD_ ?_ | refine kA_ ?_ _)); refine blk_far ?_ NB296_311.out _; (with_reducible repeat (first | refine kN_ ?_ _ | refine kD_ ?_ | refine kA_ ?_ _)); refine blk_far ?_ NB296_311.out _; (with_reducible repeat (first | refine kN_ ?_ _ | refine kD_ ?_ | refine kA_ ?_ _)); exact BK296.out) hb); have n10_ := Aside0.mk (blk_below (g := gb303) (o := .cells #[.slice Ao28 t297.length co28, .slice Ao32 t300.length co32] 27 (0, 0)) (by (with_reducible repeat (first | refine kN_ ?_ _ | refine kD_ ?_ | refine kA_ ?_ _)); refine blk_far ?_ NB303_311.out _; (with_reducible repeat (first | refine kN_ ?_ _ | refine kD_ ?_ | refine kA_ ?_ _)); refine blk_far ?_ NB303_311.out _; (with_reducible repeat (first | refine kN_ ?_ _ | refine kD_ ?_ | refine kA_ ?_ _)); exact BK303.out) hb); have n11_ := Aside0.mk (blk_below (g := gb311) (o := .cells #[.slice Ao35 t304.length co35, .slice Ao40 t307.length co40] 27 (0, 0)) (by (with_reducible repeat (first | refine kN_ ?_ _ | refine kD_ ?_ | refine kA_ ?_ _)); refine blk_put (cs := #[.slice Ao35 t304.length co35, .slice none 0 0]) ?_ 1 _ rfl; (with_reducible repeat (first | refine kN_ ?_ _ | refine kD_ ?_ | refine kA_ ?_ _)); refine blk_put (cs := #[.slice none 0 0, .slice none 0 0]) ?_ 0 _ rfl; (with_reducible repeat (first | refine kN_ ?_ _ | refine kD_ ?_ | refine kA_ ?_ _)); exact BK311.out) hb); have n12_ := Aside0.mk (below_step (by repeat (first | (with_reducible first | exact HB.out | apply bA_ | apply bN_ | apply bD_ | refine bS_ ?_ GE281.out | refine bS_ ?_ GE296.out | refine bS_ ?_ GE303.out | refine bS_ ?_ GE311.out) | exact HB.out)) hb); clear HO285; clear HO288; clear HO291; clear HO294; clear HO299; clear HO302; clear HO306; clear HO309; clear BK281; clear BK296; clear BK303; clear BK311; clear HB; have HO285 := n0_; have HO288 := n1_; have HO291 := n2_; have HO294 := n3_; have HO299 := n4_; have HO302 := n5_; have HO306 := n6_; have HO309 := n7_; have BK281 := n8_; have BK296 := n9_; have BK303 := n10_; have BK311 := n11_; have HB := n12_; clear n0_ n1_ n2_ n3_ n4_ n5_ n6_ n7_ n8_ n9_ n10_ n11_ n12_; (try clear hb); (try clear hb2); (try clear hk); (try clear hi)))
        go_meet
        case rel => exact ⟨_, ((t310 != t295)), (by first | rfl | (simp; done) | (simp [*]; done)), H', ⟨by first | omega | exact Nat.le_refl _⟩, ⟨by (with_reducible repeat (first | apply rA_ | apply rN_ | apply rD_)); exact rM_ HO291.out (fun _ hk => ⟨hk.1.1.1.1.1.1, ⟨hk.1.1.1.2, ⟨hk.1.1.2, ⟨hk.1.2, hk.2⟩⟩⟩⟩)⟩, ⟨by (with_reducible repeat (first | apply rA_ | apply rN_ | apply rD_)); exact rM_ HO294.out (fun _ hk => ⟨hk.1.1.1.1.1.1, ⟨hk.1.1.1.2, ⟨hk.1.1.2, ⟨hk.1.2, hk.2⟩⟩⟩⟩)⟩, ⟨by (with_reducible repeat (first | apply rA_ | apply rN_ | apply rD_)); exact rM_ HO299.out (fun _ hk => ⟨hk.1.1.1.2, ⟨hk.1.1.2, ⟨hk.1.1.1.1.1.1, ⟨hk.1.2, hk.2⟩⟩⟩⟩)⟩, ⟨by (with_reducible repeat (first | apply rA_ | apply rN_ | apply rD_)); exact rM_ HO302.out (fun _ hk => ⟨hk.1.1.1.2, ⟨hk.1.1.2, ⟨hk.1.1.1.1.1.1, ⟨hk.1.2, hk.2⟩⟩⟩⟩)⟩, ⟨by (with_reducible repeat (first | apply rA_ | apply rN_ | apply rD_)); exact rM_ HO306.out (fun _ hk => ⟨hk.1.1.1.2, ⟨hk.1.1.2, ⟨hk.1.2, ⟨hk.2, hk.1.1.1.1.1.1⟩⟩⟩⟩)⟩, ⟨by (with_reducible repeat (first | apply rA_ | apply rN_ | apply rD_)); exact rM_ HO309.out (fun _ hk => ⟨hk.1.1.1.2, ⟨hk.1.1.2, ⟨hk.1.2, ⟨hk.2, hk.1.1.1.1.1.1⟩⟩⟩⟩)⟩, ⟨by (with_reducible repeat (first | refine kN_ ?_ _ | refine kD_ ?_ | refine kA_ ?_ _)); exact BK281.out⟩, ⟨by (with_reducible repeat (first | refine kN_ ?_ _ | refine kD_ ?_ | refine kA_ ?_ _)); exact BK296.out⟩, ⟨by (with_reducible repeat (first | refine kN_ ?_ _ | refine kD_ ?_ | refine kA_ ?_ _)); exact BK303.out⟩, ⟨by (with_reducible repeat (first | refine kN_ ?_ _ | refine kD_ ?_ | refine kA_ ?_ _)); exact BK311.out⟩, ⟨by repeat (first | (with_reducible first | exact HB.out | apply bA_ | apply bN_ | apply bD_ | refine bS_ ?_ GE281.out | refine bS_ ?_ GE296.out | refine bS_ ?_ GE303.out | refine bS_ ?_ GE311.out) | exact HB.out)⟩⟩
      · replace c42 := Bool.eq_false_iff.mpr c42
        subst c42
        have H1 : (laws_FnExactDropFloor.j0 k t295 t310 true l0_0 l0_1 t289 t292 t297 t300 t304 t307) = some r := by rw [if_neg (show ¬ (false = true) by decide)] at H; exact H
        clear H
        have H := H1
        clear H1
        have H' := Aside0.mk H
        clear H
        have hnb51 := NB311_281.out
        have hnc51 := NB281_311.out
        have hnb52 := NB311_296.out
        have hnc52 := NB296_311.out
        have hnb53 := NB311_303.out
        have hnc53 := NB303_311.out
        have hcz54_0 : w34.cell? ⟨gb311, 0, none⟩ = some (.slice none 0 0) := (blk_cell BK311.out 0).trans rfl
        have hcz54_1 : w34.cell? ⟨gb311, 1, none⟩ = some (.slice none 0 0) := (blk_cell BK311.out 1).trans rfl
        have hfz54_0 := blk_frozen BK311.out 0
        have hfz54_1 := blk_frozen BK311.out 1
        have hnb55 := NB296_281.out
        have hnc55 := NB281_296.out
        have hnb56 := NB296_303.out
        have hnc56 := NB303_296.out
        have hcz57_0 : w34.cell? ⟨gb296, 0, none⟩ = some (.slice Ao21 t289.length co21) := (blk_cell BK296.out 0).trans rfl
        have hcz57_1 : w34.cell? ⟨gb296, 1, none⟩ = some (.slice Ao24 t292.length co24) := (blk_cell BK296.out 1).trans rfl
        have hfz57_0 := blk_frozen BK296.out 0
        have hfz57_1 := blk_frozen BK296.out 1
        go_wp2_with (first | ((with_reducible refine gate_callee (f := 19) rfl ?_); refine goesL_ (some 34) rfl rfl Try.func19 (by kernel_rfl) rfl #[.agg #[.slice Ao35 t304.length co35, .slice Ao40 t307.length co40], .agg #[.slice Ao21 t289.length co21, .slice Ao24 t292.length co24]] rfl (by (try simp only [List.map_toArray, List.map_cons, List.map_nil]); first | done | rfl | (simp only [List.length_drop, List.length_take]; rfl)) ?_; (with_reducible refine (laws_eqHouse.calls k _ _ t304 _ _ t307 _ _ t289 _ _ t292 false _ ?side1 ?side2 ?side3 ?side4 ?side5 ?side6 ?side7 ?side8 A41.out).mono ?_); (case side1 => refine (rR_ (e := 3) (base := w.heap.size) (ok := fun k_ => ((((((some k_ ≠ (.slice Ao40 t307.length co40 : Value).ownBlock ∧ some k_ ≠ (.slice Ao17 t283.length co17 : Value).ownBlock) ∧ some k_ ≠ (.slice Ao18 t286.length co18 : Value).ownBlock) ∧ some k_ ≠ (.slice Ao21 t289.length co21 : Value).ownBlock) ∧ some k_ ≠ (.slice Ao24 t292.length co24 : Value).ownBlock) ∧ some k_ ≠ (.slice Ao28 t297.length co28 : Value).ownBlock) ∧ some k_ ≠ (.slice Ao32 t300.length co32 : Value).ownBlock)) (n := t304.length) (c := co35) ?_).2.2; exact (by (with_reducible repeat (first | apply rA_ | apply rN_ | apply rD_)); exact (rM_ (rF_ (p := ⟨gb311, 1, none⟩) (rF_ (p := ⟨gb311, 0, none⟩) (Kd.R_types HO306.out BK311.out (by decide)) (fun _ hk => hk.2) (.slice Ao35 t304.length co35)) (fun _ hk => hk.2) (.slice Ao40 t307.length co40)) (fun _ h_ => h_.1)))); (case side2 => exact (rR_ HO306.out).2.1); (case side3 => refine (rR_ (e := 3) (base := w.heap.size) (ok := fun k_ => ((((((some k_ ≠ (.slice Ao35 t304.length co35 : Value).ownBlock ∧ some k_ ≠ (.slice Ao17 t283.length co17 : Value).ownBlock) ∧ some k_ ≠ (.slice Ao18 t286.length co18 : Value).ownBlock) ∧ some k_ ≠ (.slice Ao21 t289.length co21 : Value).ownBlock) ∧ some k_ ≠ (.slice Ao24 t292.length co24 : Value).ownBlock) ∧ some k_ ≠ (.slice Ao28 t297.length co28 : Value).ownBlock) ∧ some k_ ≠ (.slice Ao32 t300.length co32 : Value).ownBlock)) (n := t307.length) (c := co40) ?_).2.2; exact (by (with_reducible repeat (first | apply rA_ | apply rN_ | apply rD_)); exact (rM_ (rF_ (p := ⟨gb311, 1, none⟩) (rF_ (p := ⟨gb311, 0, none⟩) (Kd.R_types HO309.out BK311.out (by decide)) (fun _ hk => hk.2) (.slice Ao35 t304.length co35)) (fun _ hk => hk.2) (.slice Ao40 t307.length co40)) (fun _ h_ => h_.1)))); (case side4 => exact (rR_ HO309.out).2.1); (case side5 => refine (rR_ (e := 3) (base := w.heap.size) (ok := fun k_ => ((((((some k_ ≠ (.slice Ao24 t292.length co24 : Value).ownBlock ∧ some k_ ≠ (.slice Ao17 t283.length co17 : Value).ownBlock) ∧ some k_ ≠ (.slice Ao18 t286.length co18 : Value).ownBlock) ∧ some k_ ≠ (.slice Ao28 t297.length co28 : Value).ownBlock) ∧ some k_ ≠ (.slice Ao32 t300.length co32 : Value).ownBlock) ∧ some k_ ≠ (.slice Ao35 t304.length co35 : Value).ownBlock) ∧ some k_ ≠ (.slice Ao40 t307.length co40 : Value).ownBlock)) (n := t289.length) (c := co21) ?_).2.2; exact (by (with_reducible repeat (first | apply rA_ | apply rN_ | apply rD_)); exact (rM_ (rF_ (p := ⟨gb311, 1, none⟩) (rF_ (p := ⟨gb311, 0, none⟩) (Kd.R_types HO291.out BK311.out (by decide)) (fun _ hk => hk.2) (.slice Ao35 t304.length co35)) (fun _ hk => hk.2) (.slice Ao40 t307.length co40)) (fun _ h_ => h_.1)))); (case side6 => exact (rR_ HO291.out).2.1); (case side7 => refine (rR_ (e := 3) (base := w.heap.size) (ok := fun k_ => ((((((some k_ ≠ (.slice Ao21 t289.length co21 : Value).ownBlock ∧ some k_ ≠ (.slice Ao17 t283.length co17 : Value).ownBlock) ∧ some k_ ≠ (.slice Ao18 t286.length co18 : Value).ownBlock) ∧ some k_ ≠ (.slice Ao28 t297.length co28 : Value).ownBlock) ∧ some k_ ≠ (.slice Ao32 t300.length co32 : Value).ownBlock) ∧ some k_ ≠ (.slice Ao35 t304.length co35 : Value).ownBlock) ∧ some k_ ≠ (.slice Ao40 t307.length co40 : Value).ownBlock)) (n := t292.length) (c := co24) ?_).2.2; exact (by (with_reducible repeat (first | apply rA_ | apply rN_ | apply rD_)); exact (rM_ (rF_ (p := ⟨gb311, 1, none⟩) (rF_ (p := ⟨gb311, 0, none⟩) (Kd.R_types HO294.out BK311.out (by decide)) (fun _ hk => hk.2) (.slice Ao35 t304.length co35)) (fun _ hk => hk.2) (.slice Ao40 t307.length co40)) (fun _ h_ => h_.1)))); (case side8 => exact (rR_ HO294.out).2.1); rintro e w58 ⟨rfl, hb⟩; refine ⟨_, rfl, ?_⟩; have n0_ := Aside0.mk (rB_ (by (with_reducible repeat (first | apply rA_ | apply rN_ | apply rD_)); exact (rM_ (rF_ (p := ⟨gb311, 1, none⟩) (rF_ (p := ⟨gb311, 0, none⟩) (Kd.R_types HO285.out BK311.out (by decide)) (fun _ hk => hk.2) (.slice Ao35 t304.length co35)) (fun _ hk => hk.2) (.slice Ao40 t307.length co40)) (fun _ h_ => h_.1))) hb); have n1_ := Aside0.mk (rB_ (by (with_reducible repeat (first | apply rA_ | apply rN_ | apply rD_)); exact (rM_ (rF_ (p := ⟨gb311, 1, none⟩) (rF_ (p := ⟨gb311, 0, none⟩) (Kd.R_types HO288.out BK311.out (by decide)) (fun _ hk => hk.2) (.slice Ao35 t304.length co35)) (fun _ hk => hk.2) (.slice Ao40 t307.length co40)) (fun _ h_ => h_.1))) hb); have n2_ := Aside0.mk (rB_ (by (with_reducible repeat (first | apply rA_ | apply rN_ | apply rD_)); exact (rM_ (rF_ (p := ⟨gb311, 1, none⟩) (rF_ (p := ⟨gb311, 0, none⟩) (Kd.R_types HO291.out BK311.out (by decide)) (fun _ hk => hk.2) (.slice Ao35 t304.length co35)) (fun _ hk => hk.2) (.slice Ao40 t307.length co40)) (fun _ h_ => h_.1))) hb); have n3_ := Aside0.mk (rB_ (by (with_reducible repeat (first | apply rA_ | apply rN_ | apply rD_)); exact (rM_ (rF_ (p := ⟨gb311, 1, none⟩) (rF_ (p := ⟨gb311, 0, none⟩) (Kd.R_types HO294.out BK311.out (by decide)) (fun _ hk => hk.2) (.slice Ao35 t304.length co35)) (fun _ hk => hk.2) (.slice Ao40 t307.length co40)) (fun _ h_ => h_.1))) hb); have n4_ := Aside0.mk (rB_ (by (with_reducible repeat (first | apply rA_ | apply rN_ | apply rD_)); exact (rM_ (rF_ (p := ⟨gb311, 1, none⟩) (rF_ (p := ⟨gb311, 0, none⟩) (Kd.R_types HO299.out BK311.out (by decide)) (fun _ hk => hk.2) (.slice Ao35 t304.length co35)) (fun _ hk => hk.2) (.slice Ao40 t307.length co40)) (fun _ h_ => h_.1))) hb); have n5_ := Aside0.mk (rB_ (by (with_reducible repeat (first | apply rA_ | apply rN_ | apply rD_)); exact (rM_ (rF_ (p := ⟨gb311, 1, none⟩) (rF_ (p := ⟨gb311, 0, none⟩) (Kd.R_types HO302.out BK311.out (by decide)) (fun _ hk => hk.2) (.slice Ao35 t304.length co35)) (fun _ hk => hk.2) (.slice Ao40 t307.length co40)) (fun _ h_ => h_.1))) hb); have n6_ := Aside0.mk (rB_ (by (with_reducible repeat (first | apply rA_ | apply rN_ | apply rD_)); exact (rM_ (rF_ (p := ⟨gb311, 1, none⟩) (rF_ (p := ⟨gb311, 0, none⟩) (Kd.R_types HO306.out BK311.out (by decide)) (fun _ hk => hk.2) (.slice Ao35 t304.length co35)) (fun _ hk => hk.2) (.slice Ao40 t307.length co40)) (fun _ h_ => h_.1))) hb); have n7_ := Aside0.mk (rB_ (by (with_reducible repeat (first | apply rA_ | apply rN_ | apply rD_)); exact (rM_ (rF_ (p := ⟨gb311, 1, none⟩) (rF_ (p := ⟨gb311, 0, none⟩) (Kd.R_types HO309.out BK311.out (by decide)) (fun _ hk => hk.2) (.slice Ao35 t304.length co35)) (fun _ hk => hk.2) (.slice Ao40 t307.length co40)) (fun _ h_ => h_.1))) hb); have n8_ := Aside0.mk (blk_below (g := gb281) (o := .cells #[.slice A0_0 l0_0.length c0_0, .slice A0_1 l0_1.length c0_1] 24 (0, 0)) (by (with_reducible repeat (first | refine kN_ ?_ _ | refine kD_ ?_ | refine kA_ ?_ _)); refine blk_far ?_ NB281_311.out _; (with_reducible repeat (first | refine kN_ ?_ _ | refine kD_ ?_ | refine kA_ ?_ _)); refine blk_far ?_ NB281_311.out _; (with_reducible repeat (first | refine kN_ ?_ _ | refine kD_ ?_ | refine kA_ ?_ _)); exact BK281.out) hb); have n9_ := Aside0.mk (blk_below (g := gb296) (o := .cells #[.slice Ao21 t289.length co21, .slice Ao24 t292.length co24] 27 (0, 0)) (by (with_reducible repeat (first | refine kN_ ?_ _ | refine kD_ ?_ | refine kA_ ?_ _)); refine blk_far ?_ NB296_311.out _; (with_reducible repeat (first | refine kN_ ?_ _ | refine kD_ ?_ | refine kA_ ?_ _)); refine blk_far ?_ NB296_311.out _; (with_reducible repeat (first | refine kN_ ?_ _ | refine kD_ ?_ | refine kA_ ?_ _)); exact BK296.out) hb); have n10_ := Aside0.mk (blk_below (g := gb303) (o := .cells #[.slice Ao28 t297.length co28, .slice Ao32 t300.length co32] 27 (0, 0)) (by (with_reducible repeat (first | refine kN_ ?_ _ | refine kD_ ?_ | refine kA_ ?_ _)); refine blk_far ?_ NB303_311.out _; (with_reducible repeat (first | refine kN_ ?_ _ | refine kD_ ?_ | refine kA_ ?_ _)); refine blk_far ?_ NB303_311.out _; (with_reducible repeat (first | refine kN_ ?_ _ | refine kD_ ?_ | refine kA_ ?_ _)); exact BK303.out) hb); have n11_ := Aside0.mk (blk_below (g := gb311) (o := .cells #[.slice Ao35 t304.length co35, .slice Ao40 t307.length co40] 27 (0, 0)) (by (with_reducible repeat (first | refine kN_ ?_ _ | refine kD_ ?_ | refine kA_ ?_ _)); refine blk_put (cs := #[.slice Ao35 t304.length co35, .slice none 0 0]) ?_ 1 _ rfl; (with_reducible repeat (first | refine kN_ ?_ _ | refine kD_ ?_ | refine kA_ ?_ _)); refine blk_put (cs := #[.slice none 0 0, .slice none 0 0]) ?_ 0 _ rfl; (with_reducible repeat (first | refine kN_ ?_ _ | refine kD_ ?_ | refine kA_ ?_ _)); exact BK311.out) hb); have n12_ := Aside0.mk (below_step (by repeat (first | (with_reducible first | exact HB.out | apply bA_ | apply bN_ | apply bD_ | refine bS_ ?_ GE281.out | refine bS_ ?_ GE296.out | refine bS_ ?_ GE303.out | refine bS_ ?_ GE311.out) | exact HB.out)) hb); clear HO285; clear HO288; clear HO291; clear HO294; clear HO299; clear HO302; clear HO306; clear HO309; clear BK281; clear BK296; clear BK303; clear BK311; clear HB; have HO285 := n0_; have HO288 := n1_; have HO291 := n2_; have HO294 := n3_; have HO299 := n4_; have HO302 := n5_; have HO306 := n6_; have HO309 := n7_; have BK281 := n8_; have BK296 := n9_; have BK303 := n10_; have BK311 := n11_; have HB := n12_; clear n0_ n1_ n2_ n3_ n4_ n5_ n6_ n7_ n8_ n9_ n10_ n11_ n12_; (try clear hb); (try clear hb2); (try clear hk); (try clear hi)))
        go_meet
        case rel => exact ⟨_, (true), (by first | rfl | (simp; done) | (simp [*]; done)), H', ⟨by first | omega | exact Nat.le_refl _⟩, ⟨by (with_reducible repeat (first | apply rA_ | apply rN_ | apply rD_)); exact rM_ HO291.out (fun _ hk => ⟨hk.1.1.1.1.1.1, ⟨hk.1.1.1.2, ⟨hk.1.1.2, ⟨hk.1.2, hk.2⟩⟩⟩⟩)⟩, ⟨by (with_reducible repeat (first | apply rA_ | apply rN_ | apply rD_)); exact rM_ HO294.out (fun _ hk => ⟨hk.1.1.1.1.1.1, ⟨hk.1.1.1.2, ⟨hk.1.1.2, ⟨hk.1.2, hk.2⟩⟩⟩⟩)⟩, ⟨by (with_reducible repeat (first | apply rA_ | apply rN_ | apply rD_)); exact rM_ HO299.out (fun _ hk => ⟨hk.1.1.1.2, ⟨hk.1.1.2, ⟨hk.1.1.1.1.1.1, ⟨hk.1.2, hk.2⟩⟩⟩⟩)⟩, ⟨by (with_reducible repeat (first | apply rA_ | apply rN_ | apply rD_)); exact rM_ HO302.out (fun _ hk => ⟨hk.1.1.1.2, ⟨hk.1.1.2, ⟨hk.1.1.1.1.1.1, ⟨hk.1.2, hk.2⟩⟩⟩⟩)⟩, ⟨by (with_reducible repeat (first | apply rA_ | apply rN_ | apply rD_)); exact rM_ HO306.out (fun _ hk => ⟨hk.1.1.1.2, ⟨hk.1.1.2, ⟨hk.1.2, ⟨hk.2, hk.1.1.1.1.1.1⟩⟩⟩⟩)⟩, ⟨by (with_reducible repeat (first | apply rA_ | apply rN_ | apply rD_)); exact rM_ HO309.out (fun _ hk => ⟨hk.1.1.1.2, ⟨hk.1.1.2, ⟨hk.1.2, ⟨hk.2, hk.1.1.1.1.1.1⟩⟩⟩⟩)⟩, ⟨by (with_reducible repeat (first | refine kN_ ?_ _ | refine kD_ ?_ | refine kA_ ?_ _)); exact BK281.out⟩, ⟨by (with_reducible repeat (first | refine kN_ ?_ _ | refine kD_ ?_ | refine kA_ ?_ _)); exact BK296.out⟩, ⟨by (with_reducible repeat (first | refine kN_ ?_ _ | refine kD_ ?_ | refine kA_ ?_ _)); exact BK303.out⟩, ⟨by (with_reducible repeat (first | refine kN_ ?_ _ | refine kD_ ?_ | refine kA_ ?_ _)); exact BK311.out⟩, ⟨by repeat (first | (with_reducible first | exact HB.out | apply bA_ | apply bN_ | apply bD_ | refine bS_ ?_ GE281.out | refine bS_ ?_ GE296.out | refine bS_ ?_ GE303.out | refine bS_ ?_ GE311.out) | exact HB.out)⟩⟩
    case rest =>
      clear HC11
      try clear c1
      try clear c2
      try clear p2
      try clear c3
      try clear c3b0
      try clear c4
      try clear c5
      try clear c14
      try clear c15
      try clear c17
      try clear c19
      try clear c22
      try clear c29
      try clear c30
      try clear c36
      try clear c37
      try clear c38
      try clear c42
      try clear c43
      try clear c44
      try clear c45
      try clear c46
      try clear c47
      try clear c48
      try clear c51
      try clear c52
      try clear c53
      try clear c55
      try clear c56
      try clear hcz13_0
      try clear hcz13_1
      try clear hcz15_0
      try clear hcz15_1
      try clear hcz23_0
      try clear hcz23_1
      try clear hcz25_0
      try clear hcz25_1
      try clear hcz31_0
      try clear hcz31_1
      try clear hcz39_0
      try clear hcz39_1
      try clear hcz46_0
      try clear hcz46_1
      try clear hcz49_0
      try clear hcz49_1
      try clear hcz54_0
      try clear hcz54_1
      try clear hcz57_0
      try clear hcz57_1
      try clear hcz5_0
      try clear hcz5_1
      try clear hfz13_0
      try clear hfz13_1
      try clear hfz15_0
      try clear hfz15_1
      try clear hfz23_0
      try clear hfz23_1
      try clear hfz25_0
      try clear hfz25_1
      try clear hfz31_0
      try clear hfz31_1
      try clear hfz39_0
      try clear hfz39_1
      try clear hfz46_0
      try clear hfz46_1
      try clear hfz49_0
      try clear hfz49_1
      try clear hfz54_0
      try clear hfz54_1
      try clear hfz57_0
      try clear hfz57_1
      try clear hfz5_0
      try clear hfz5_1
      obtain ⟨kq, x40_10, rfl, HA, HJ10, HO_297000, HO_297001, HO_304000, HO_304001, HO_312000, HO_312001, BK281, BK296, BK303, BK311, HB⟩ := hcut
      cases kq with
      | zero => exact absurd HA.out (by simp [laws_FnExactDropFloor.j0])
      | succ kj10 =>
        have H := HA.out
        clear HA
        simp only [laws_FnExactDropFloor.j0] at H
        by_cases c59 : x40_10 = true
        · subst c59
          have H1 : (some false) = some r := by rw [if_pos rfl] at H; exact H
          clear H
          have H := H1
          clear H1
          obtain rfl := Option.some.inj H
          go_wp2
          go_ret
          exact ⟨by first | rfl | (simp [errW_none, errW_some] <;> rfl) | (simp [*, errW_none, errW_some] <;> rfl), by repeat (first | (with_reducible first | exact HB.out | apply bA_ | apply bN_ | apply bD_ | refine bS_ ?_ GE281.out | refine bS_ ?_ GE296.out | refine bS_ ?_ GE303.out | refine bS_ ?_ GE311.out) | exact HB.out)⟩
        · replace c59 := Bool.eq_false_iff.mpr c59
          subst c59
          have H1 : ((laws_toHouse.f kj10 l0_0 l0_1).bind fun bt313 => ((laws_eqHouse.f kj10 t297 t300 bt313.1 bt313.2).bind fun t319 => (if t319 = true then ((laws_markHouse.f kj10 t297 t300 1).bind fun bt320 => (if bt320.1 < 0 then (laws_FnExactDropFloor.j1 kj10 t295 true l0_0 l0_1 t289 t292 t304 t307) else ((laws_eqHouse.f kj10 t304 t307 t289 t292).bind fun t323 => (if t323 = true then (laws_FnExactDropFloor.j1 kj10 t295 (t310 != t295) l0_0 l0_1 t289 t292 t304 t307) else (laws_FnExactDropFloor.j1 kj10 t295 true l0_0 l0_1 t289 t292 t304 t307))))) else (some false)))) = some r := by rw [if_neg (show ¬ (false = true) by decide)] at H; exact H
          clear H
          have H := H1
          clear H1
          replace H := Option.bind_eq_some_iff.mp H
          obtain ⟨⟨t313, t316⟩, A600, H⟩ := H
          replace H : ((laws_eqHouse.f kj10 t297 t300 t313 t316).bind fun t319 => (if t319 = true then ((laws_markHouse.f kj10 t297 t300 1).bind fun bt320 => (if bt320.1 < 0 then (laws_FnExactDropFloor.j1 kj10 t295 true l0_0 l0_1 t289 t292 t304 t307) else ((laws_eqHouse.f kj10 t304 t307 t289 t292).bind fun t323 => (if t323 = true then (laws_FnExactDropFloor.j1 kj10 t295 (t310 != t295) l0_0 l0_1 t289 t292 t304 t307) else (laws_FnExactDropFloor.j1 kj10 t295 true l0_0 l0_1 t289 t292 t304 t307))))) else (some false))) = some r := H
          have A60 := Aside0.mk A600
          clear A600
          replace H := Option.bind_eq_some_iff.mp H
          obtain ⟨t319, A610, H⟩ := H
          replace H : (if t319 = true then ((laws_markHouse.f kj10 t297 t300 1).bind fun bt320 => (if bt320.1 < 0 then (laws_FnExactDropFloor.j1 kj10 t295 true l0_0 l0_1 t289 t292 t304 t307) else ((laws_eqHouse.f kj10 t304 t307 t289 t292).bind fun t323 => (if t323 = true then (laws_FnExactDropFloor.j1 kj10 t295 (t310 != t295) l0_0 l0_1 t289 t292 t304 t307) else (laws_FnExactDropFloor.j1 kj10 t295 true l0_0 l0_1 t289 t292 t304 t307))))) else (some false)) = some r := H
          have A61 := Aside0.mk A610
          clear A610
          by_cases c62 : t319 = true
          · subst c62
            have H1 : ((laws_markHouse.f kj10 t297 t300 1).bind fun bt320 => (if bt320.1 < 0 then (laws_FnExactDropFloor.j1 kj10 t295 true l0_0 l0_1 t289 t292 t304 t307) else ((laws_eqHouse.f kj10 t304 t307 t289 t292).bind fun t323 => (if t323 = true then (laws_FnExactDropFloor.j1 kj10 t295 (t310 != t295) l0_0 l0_1 t289 t292 t304 t307) else (laws_FnExactDropFloor.j1 kj10 t295 true l0_0 l0_1 t289 t292 t304 t307))))) = some r := by rw [if_pos rfl] at H; exact H
            clear H
            have H := H1
            clear H1
            replace H := Option.bind_eq_some_iff.mp H
            obtain ⟨⟨t320, t321, t322⟩, A630, H⟩ := H
            replace H : (if t320 < 0 then (laws_FnExactDropFloor.j1 kj10 t295 true l0_0 l0_1 t289 t292 t304 t307) else ((laws_eqHouse.f kj10 t304 t307 t289 t292).bind fun t323 => (if t323 = true then (laws_FnExactDropFloor.j1 kj10 t295 (t310 != t295) l0_0 l0_1 t289 t292 t304 t307) else (laws_FnExactDropFloor.j1 kj10 t295 true l0_0 l0_1 t289 t292 t304 t307)))) = some r := H
            have A63 := Aside0.mk A630
            clear A630
            have HC64 := Aside0.mk H
            clear H
            try go_wp2
            have n0_ := Aside0.mk (rD_ HO_297000.out)
            have n1_ := Aside0.mk (rD_ HO_297001.out)
            have n2_ := Aside0.mk (rD_ HO_304000.out)
            have n3_ := Aside0.mk (rD_ HO_304001.out)
            have n4_ := Aside0.mk (rD_ HO_312000.out)
            have n5_ := Aside0.mk (rD_ HO_312001.out)
            have n6_ := Aside0.mk (kD_ BK281.out)
            have n7_ := Aside0.mk (kD_ BK296.out)
            have n8_ := Aside0.mk (kD_ BK303.out)
            have n9_ := Aside0.mk (kD_ BK311.out)
            have n10_ := Aside0.mk (bD_ HB.out)
            clear HO_297000
            clear HO_297001
            clear HO_304000
            clear HO_304001
            clear HO_312000
            clear HO_312001
            clear BK281
            clear BK296
            clear BK303
            clear BK311
            clear HB
            have HO_297000 := n0_
            have HO_297001 := n1_
            have HO_304000 := n2_
            have HO_304001 := n3_
            have HO_312000 := n4_
            have HO_312001 := n5_
            have BK281 := n6_
            have BK296 := n7_
            have BK303 := n8_
            have BK311 := n9_
            have HB := n10_
            clear n0_ n1_ n2_ n3_ n4_ n5_ n6_ n7_ n8_ n9_ n10_
            refine start_ (n := 5) (S := fun w' => w'.cell? ⟨gb303, 0, none⟩ = some (.slice Ao28 t297.length co28) ∧ w'.cell? ⟨gb303, 1, none⟩ = some (.slice Ao32 t300.length co32) ∧ w'.cell? ⟨gb281, 0, none⟩ = some (.slice A0_0 l0_0.length c0_0) ∧ w'.cell? ⟨gb281, 1, none⟩ = some (.slice A0_1 l0_1.length c0_1)) (ds := []) #[false, false, false, false, false] (by kernel_rfl) rfl rfl ⟨(blk_cell BK303.out 0).trans rfl, (blk_cell BK303.out 1).trans rfl, (blk_cell BK281.out 0).trans rfl, (blk_cell BK281.out 1).trans rfl⟩ (fun hHeld => ?_)
            generalize wc.drew = w65 at HO_297000 HO_297001 HO_304000 HO_304001 HO_312000 HO_312001 BK281 BK296 BK303 BK311 HB hHeld ⊢
            refine take_ (i := 0) (N := some 41) (v := ?_) (a' := ?_) #[true, false, false, false, false] rfl rfl (by kernel_rfl) (fun _ _ _ h => h) (Or.inl ⟨by rfl, ?_⟩) hHeld ?_ ?_
            rotate_left
            · rintro w' ⟨s0, s1, s2, s3⟩
              go_simp
              with_reducible rfl
            rotate_left
            · simp only [Act.put, List.setIfInBounds_toArray, List.set_cons_zero, List.set_cons_succ, i64_w, i32_w]
              rfl
            refine take_ (i := 1) (N := some 42) (v := ?_) (a' := ?_) #[true, true, false, false, false] rfl rfl (by kernel_rfl) (fun _ _ _ h => h) (Or.inl ⟨by rfl, ?_⟩) hHeld ?_ ?_
            rotate_left
            · rintro w' ⟨s0, s1, s2, s3⟩
              go_simp
              with_reducible rfl
            rotate_left
            · simp only [Act.put, List.setIfInBounds_toArray, List.set_cons_zero, List.set_cons_succ, i64_w, i32_w]
              rfl
            refine one_ (i := 2) (N := some 43) #[true, true, true, false, false] rfl rfl (by kernel_rfl) (by decide) (fun K hK => ?_)
            refine goes_ Try.func17 (by kernel_rfl) rfl #[.agg #[.slice A0_0 l0_0.length c0_0, .slice A0_1 l0_1.length c0_1]] (by rfl) rfl rfl (by (try simp only [List.map_toArray, List.map_cons, List.map_nil]); first | done | rfl | (simp only [List.length_drop, List.length_take]; rfl)) ?_
            with_reducible refine (laws_toHouse.calls kj10 _ _ l0_0 _ _ l0_1 t313 t316 _ ?side1 ?side2 ?side3 ?side4 A60.out).mono ?_
            (case side1 => repeat (first | exact (Kd.C_below HR0_0.out HB.out) | (with_reducible refine Kd.C_alloc ?_ _) | (with_reducible refine Kd.C_drewN ?_ _) | (with_reducible refine Kd.C_drew ?_)))
            (case side2 => exact HC0_0.out)
            (case side3 => repeat (first | exact (Kd.C_below HR0_1.out HB.out) | (with_reducible refine Kd.C_alloc ?_ _) | (with_reducible refine Kd.C_drewN ?_ _) | (with_reducible refine Kd.C_drew ?_)))
            (case side4 => exact HC0_1.out)
            rintro e w66 ⟨v314, v317, rfl, ho0, ho1, hb⟩
            refine ⟨_, rfl, ?_⟩
            have n0_ := Aside0.mk (rM_ (Kd.R_told (Kd.R_told (Kd.R_old (by (with_reducible repeat (first | apply rA_ | apply rN_ | apply rD_)); exact HO_297000.out) hb) (Kd.R_base ho0)) (Kd.R_base ho1)) (fun _ h_ => h_.1))
            have n1_ := Aside0.mk (rM_ (Kd.R_told (Kd.R_told (Kd.R_old (by (with_reducible repeat (first | apply rA_ | apply rN_ | apply rD_)); exact HO_297001.out) hb) (Kd.R_base ho0)) (Kd.R_base ho1)) (fun _ h_ => h_.1))
            have n2_ := Aside0.mk (rM_ (Kd.R_told (Kd.R_told (Kd.R_old (by (with_reducible repeat (first | apply rA_ | apply rN_ | apply rD_)); exact HO_304000.out) hb) (Kd.R_base ho0)) (Kd.R_base ho1)) (fun _ h_ => h_.1))
            have n3_ := Aside0.mk (rM_ (Kd.R_told (Kd.R_told (Kd.R_old (by (with_reducible repeat (first | apply rA_ | apply rN_ | apply rD_)); exact HO_304001.out) hb) (Kd.R_base ho0)) (Kd.R_base ho1)) (fun _ h_ => h_.1))
            have n4_ := Aside0.mk (rM_ (Kd.R_told (Kd.R_told (Kd.R_old (by (with_reducible repeat (first | apply rA_ | apply rN_ | apply rD_)); exact HO_312000.out) hb) (Kd.R_base ho0)) (Kd.R_base ho1)) (fun _ h_ => h_.1))
            have n5_ := Aside0.mk (rM_ (Kd.R_told (Kd.R_told (Kd.R_old (by (with_reducible repeat (first | apply rA_ | apply rN_ | apply rD_)); exact HO_312001.out) hb) (Kd.R_base ho0)) (Kd.R_base ho1)) (fun _ h_ => h_.1))
            have n6_ := Aside0.mk (Kd.R_lower (Kd.R_new' (Kd.R_new' (Kd.R_new' (Kd.R_new' (Kd.R_new' (Kd.R_new' ho0 (Kd.R_lt (by (with_reducible repeat (first | apply rA_ | apply rN_ | apply rD_)); exact HO_297000.out))) (Kd.R_lt (by (with_reducible repeat (first | apply rA_ | apply rN_ | apply rD_)); exact HO_297001.out))) (Kd.R_lt (by (with_reducible repeat (first | apply rA_ | apply rN_ | apply rD_)); exact HO_304000.out))) (Kd.R_lt (by (with_reducible repeat (first | apply rA_ | apply rN_ | apply rD_)); exact HO_304001.out))) (Kd.R_lt (by (with_reducible repeat (first | apply rA_ | apply rN_ | apply rD_)); exact HO_312000.out))) (Kd.R_lt (by (with_reducible repeat (first | apply rA_ | apply rN_ | apply rD_)); exact HO_312001.out))) (below_size (by repeat (first | (with_reducible first | exact HB.out | apply bA_ | apply bN_ | apply bD_ | refine bS_ ?_ GE281.out | refine bS_ ?_ GE296.out | refine bS_ ?_ GE303.out | refine bS_ ?_ GE311.out) | exact HB.out))))
            have n7_ := Aside0.mk (Kd.R_lower (Kd.R_new' (Kd.R_new' (Kd.R_new' (Kd.R_new' (Kd.R_new' (Kd.R_new' ho1 (Kd.R_lt (by (with_reducible repeat (first | apply rA_ | apply rN_ | apply rD_)); exact HO_297000.out))) (Kd.R_lt (by (with_reducible repeat (first | apply rA_ | apply rN_ | apply rD_)); exact HO_297001.out))) (Kd.R_lt (by (with_reducible repeat (first | apply rA_ | apply rN_ | apply rD_)); exact HO_304000.out))) (Kd.R_lt (by (with_reducible repeat (first | apply rA_ | apply rN_ | apply rD_)); exact HO_304001.out))) (Kd.R_lt (by (with_reducible repeat (first | apply rA_ | apply rN_ | apply rD_)); exact HO_312000.out))) (Kd.R_lt (by (with_reducible repeat (first | apply rA_ | apply rN_ | apply rD_)); exact HO_312001.out))) (below_size (by repeat (first | (with_reducible first | exact HB.out | apply bA_ | apply bN_ | apply bD_ | refine bS_ ?_ GE281.out | refine bS_ ?_ GE296.out | refine bS_ ?_ GE303.out | refine bS_ ?_ GE311.out) | exact HB.out))))
            have n8_ := Aside0.mk (blk_below (g := gb281) (o := .cells #[.slice A0_0 l0_0.length c0_0, .slice A0_1 l0_1.length c0_1] 24 (0, 0)) (by (with_reducible repeat (first | refine kN_ ?_ _ | refine kD_ ?_ | refine kA_ ?_ _)); exact BK281.out) hb)
            have n9_ := Aside0.mk (blk_below (g := gb296) (o := .cells #[.slice Ao21 t289.length co21, .slice Ao24 t292.length co24] 27 (0, 0)) (by (with_reducible repeat (first | refine kN_ ?_ _ | refine kD_ ?_ | refine kA_ ?_ _)); exact BK296.out) hb)
            have n10_ := Aside0.mk (blk_below (g := gb303) (o := .cells #[.slice Ao28 t297.length co28, .slice Ao32 t300.length co32] 27 (0, 0)) (by (with_reducible repeat (first | refine kN_ ?_ _ | refine kD_ ?_ | refine kA_ ?_ _)); exact BK303.out) hb)
            have n11_ := Aside0.mk (blk_below (g := gb311) (o := .cells #[.slice Ao35 t304.length co35, .slice Ao40 t307.length co40] 27 (0, 0)) (by (with_reducible repeat (first | refine kN_ ?_ _ | refine kD_ ?_ | refine kA_ ?_ _)); exact BK311.out) hb)
            have n12_ := Aside0.mk (below_step (by repeat (first | (with_reducible first | exact HB.out | apply bA_ | apply bN_ | apply bD_ | refine bS_ ?_ GE281.out | refine bS_ ?_ GE296.out | refine bS_ ?_ GE303.out | refine bS_ ?_ GE311.out) | exact HB.out)) hb)
            clear HO_297000
            clear HO_297001
            clear HO_304000
            clear HO_304001
            clear HO_312000
            clear HO_312001
            clear BK281
            clear BK296
            clear BK303
            clear BK311
            clear HB
            have HO_297000 := n0_
            have HO_297001 := n1_
            have HO_304000 := n2_
            have HO_304001 := n3_
            have HO_312000 := n4_
            have HO_312001 := n5_
            have HO315 := n6_
            have HO318 := n7_
            have BK281 := n8_
            have BK296 := n9_
            have BK303 := n10_
            have BK311 := n11_
            have HB := n12_
            clear n0_ n1_ n2_ n3_ n4_ n5_ n6_ n7_ n8_ n9_ n10_ n11_ n12_
            (try clear hb)
            (try clear hb2)
            (try clear hk)
            (try clear hi)
            (try clear ho0)
            (try clear ho1)
            obtain ⟨Ao67, co67, eo67⟩ := Kd.R_slice HO315.out
            (first | subst eo67 | (injection eo67 with f1_ f2_ f3_; have f4_ := f1_.symm; have f5_ := f3_.symm; clear f1_ f2_ f3_; subst f4_; subst f5_))
            obtain ⟨Ao68, co68, eo68⟩ := Kd.R_slice HO318.out
            (first | subst eo68 | (injection eo68 with f1_ f2_ f3_; have f4_ := f1_.symm; have f5_ := f3_.symm; clear f1_ f2_ f3_; subst f4_; subst f5_))
            refine hK.out _ _ ⟨(blk_cell BK303.out 0).trans rfl, (blk_cell BK303.out 1).trans rfl, (blk_cell BK281.out 0).trans rfl, (blk_cell BK281.out 1).trans rfl⟩ (fun hHeld => ?_)
            clear hK K
            refine norm_ (a' := ?_) ?_ ?_
            rotate_left
            · show Act.put _ (some 43) _ = _
              simp only [Act.put, List.setIfInBounds_toArray, List.set_cons_zero, List.set_cons_succ, i64_w, i32_w]
              rfl
            refine one_ (i := 3) (N := some 44) #[true, true, true, true, false] rfl rfl (by kernel_rfl) (by decide) (fun K hK => ?_)
            refine goes_ Try.func19 (by kernel_rfl) rfl #[.agg #[.slice Ao28 t297.length co28, .slice Ao32 t300.length co32], .agg #[.slice Ao67 t313.length co67, .slice Ao68 t316.length co68]] (by rfl) rfl rfl (by (try simp only [List.map_toArray, List.map_cons, List.map_nil]); first | done | rfl | (simp only [List.length_drop, List.length_take]; rfl)) ?_
            with_reducible refine (laws_eqHouse.calls kj10 _ _ t297 _ _ t300 _ _ t313 _ _ t316 true _ ?side1 ?side2 ?side3 ?side4 ?side5 ?side6 ?side7 ?side8 A61.out).mono ?_
            (case side1 => repeat (first | exact (rR_ HO_304000.out).2.2 | (with_reducible refine Kd.C_alloc ?_ _) | (with_reducible refine Kd.C_drewN ?_ _) | (with_reducible refine Kd.C_drew ?_)))
            (case side2 => exact (rR_ HO_304000.out).2.1)
            (case side3 => repeat (first | exact (rR_ HO_304001.out).2.2 | (with_reducible refine Kd.C_alloc ?_ _) | (with_reducible refine Kd.C_drewN ?_ _) | (with_reducible refine Kd.C_drew ?_)))
            (case side4 => exact (rR_ HO_304001.out).2.1)
            (case side5 => repeat (first | exact (rR_ HO315.out).2.2 | (with_reducible refine Kd.C_alloc ?_ _) | (with_reducible refine Kd.C_drewN ?_ _) | (with_reducible refine Kd.C_drew ?_)))
            (case side6 => exact (rR_ HO315.out).2.1)
            (case side7 => repeat (first | exact (rR_ HO318.out).2.2 | (with_reducible refine Kd.C_alloc ?_ _) | (with_reducible refine Kd.C_drewN ?_ _) | (with_reducible refine Kd.C_drew ?_)))
            (case side8 => exact (rR_ HO318.out).2.1)
            rintro e w69 ⟨rfl, hb⟩
            refine ⟨_, rfl, ?_⟩
            have n0_ := Aside0.mk (rB_ (by (with_reducible repeat (first | apply rA_ | apply rN_ | apply rD_)); exact HO_297000.out) hb)
            have n1_ := Aside0.mk (rB_ (by (with_reducible repeat (first | apply rA_ | apply rN_ | apply rD_)); exact HO_297001.out) hb)
            have n2_ := Aside0.mk (rB_ (by (with_reducible repeat (first | apply rA_ | apply rN_ | apply rD_)); exact HO_304000.out) hb)
            have n3_ := Aside0.mk (rB_ (by (with_reducible repeat (first | apply rA_ | apply rN_ | apply rD_)); exact HO_304001.out) hb)
            have n4_ := Aside0.mk (rB_ (by (with_reducible repeat (first | apply rA_ | apply rN_ | apply rD_)); exact HO_312000.out) hb)
            have n5_ := Aside0.mk (rB_ (by (with_reducible repeat (first | apply rA_ | apply rN_ | apply rD_)); exact HO_312001.out) hb)
            have n6_ := Aside0.mk (rB_ (by (with_reducible repeat (first | apply rA_ | apply rN_ | apply rD_)); exact HO315.out) hb)
            have n7_ := Aside0.mk (rB_ (by (with_reducible repeat (first | apply rA_ | apply rN_ | apply rD_)); exact HO318.out) hb)
            have n8_ := Aside0.mk (blk_below (g := gb281) (o := .cells #[.slice A0_0 l0_0.length c0_0, .slice A0_1 l0_1.length c0_1] 24 (0, 0)) (by (with_reducible repeat (first | refine kN_ ?_ _ | refine kD_ ?_ | refine kA_ ?_ _)); exact BK281.out) hb)
            have n9_ := Aside0.mk (blk_below (g := gb296) (o := .cells #[.slice Ao21 t289.length co21, .slice Ao24 t292.length co24] 27 (0, 0)) (by (with_reducible repeat (first | refine kN_ ?_ _ | refine kD_ ?_ | refine kA_ ?_ _)); exact BK296.out) hb)
            have n10_ := Aside0.mk (blk_below (g := gb303) (o := .cells #[.slice Ao28 t297.length co28, .slice Ao32 t300.length co32] 27 (0, 0)) (by (with_reducible repeat (first | refine kN_ ?_ _ | refine kD_ ?_ | refine kA_ ?_ _)); exact BK303.out) hb)
            have n11_ := Aside0.mk (blk_below (g := gb311) (o := .cells #[.slice Ao35 t304.length co35, .slice Ao40 t307.length co40] 27 (0, 0)) (by (with_reducible repeat (first | refine kN_ ?_ _ | refine kD_ ?_ | refine kA_ ?_ _)); exact BK311.out) hb)
            have n12_ := Aside0.mk (below_step (by repeat (first | (with_reducible first | exact HB.out | apply bA_ | apply bN_ | apply bD_ | refine bS_ ?_ GE281.out | refine bS_ ?_ GE296.out | refine bS_ ?_ GE303.out | refine bS_ ?_ GE311.out) | exact HB.out)) hb)
            clear HO_297000
            clear HO_297001
            clear HO_304000
            clear HO_304001
            clear HO_312000
            clear HO_312001
            clear HO315
            clear HO318
            clear BK281
            clear BK296
            clear BK303
            clear BK311
            clear HB
            have HO_297000 := n0_
            have HO_297001 := n1_
            have HO_304000 := n2_
            have HO_304001 := n3_
            have HO_312000 := n4_
            have HO_312001 := n5_
            have HO315 := n6_
            have HO318 := n7_
            have BK281 := n8_
            have BK296 := n9_
            have BK303 := n10_
            have BK311 := n11_
            have HB := n12_
            clear n0_ n1_ n2_ n3_ n4_ n5_ n6_ n7_ n8_ n9_ n10_ n11_ n12_
            (try clear hb)
            (try clear hb2)
            (try clear hk)
            (try clear hi)
            refine hK.out _ _ ⟨(blk_cell BK303.out 0).trans rfl, (blk_cell BK303.out 1).trans rfl, (blk_cell BK281.out 0).trans rfl, (blk_cell BK281.out 1).trans rfl⟩ (fun hHeld => ?_)
            clear hK K
            refine norm_ (a' := ?_) ?_ ?_
            rotate_left
            · show Act.put _ (some 44) _ = _
              simp only [Act.put, List.setIfInBounds_toArray, List.set_cons_zero, List.set_cons_succ, i64_w, i32_w]
              rfl
            refine pure_ (i := 4) (N := some 45) (v := ?_) (a' := ?_) #[true, true, true, true, true] rfl rfl (by kernel_rfl) (fun _ _ _ h => h) (Or.inl ⟨by rfl, ?_⟩) ?_ ?_
            rotate_left
            · intro w'
              go_simp
              with_reducible rfl
            rotate_left
            · simp only [Act.put, List.setIfInBounds_toArray, List.set_cons_zero, List.set_cons_succ, i64_w, i32_w]
              rfl
            refine done_ (by kernel_rfl) ?_
            have hnb70 := NB303_281.out
            have hnc70 := NB281_303.out
            have hnb71 := NB303_296.out
            have hnc71 := NB296_303.out
            have hnb72 := NB303_311.out
            have hnc72 := NB311_303.out
            have hcz73_0 : w69.cell? ⟨gb303, 0, none⟩ = some (.slice Ao28 t297.length co28) := (blk_cell BK303.out 0).trans rfl
            have hcz73_1 : w69.cell? ⟨gb303, 1, none⟩ = some (.slice Ao32 t300.length co32) := (blk_cell BK303.out 1).trans rfl
            have hfz73_0 := blk_frozen BK303.out 0
            have hfz73_1 := blk_frozen BK303.out 1
            go_upto_region 14 with (first | ((with_reducible refine gate_callee (f := 39) rfl ?_); refine goesL_ (some 48) rfl rfl Try.func39 (by kernel_rfl) rfl #[.agg #[.slice Ao28 t297.length co28, .slice Ao32 t300.length co32], .int .i64 1] rfl (by (try simp only [List.map_toArray, List.map_cons, List.map_nil]); first | done | rfl | (simp only [List.length_drop, List.length_take]; rfl)) ?_; (with_reducible refine (laws_markHouse.calls kj10 (fun k_ => some k_ = (.slice Ao28 t297.length co28 : Value).ownBlock) (.slice Ao28 t297.length co28) t297 (fun k_ => some k_ = (.slice Ao32 t300.length co32 : Value).ownBlock) (.slice Ao32 t300.length co32) t300 1 t320 t321 t322 w _ ?side1 ?side2 ?side3 ?side4 ?side5 A63.out).mono ?_); (case side1 => repeat (first | (with_reducible first | exact HB.out | apply bA_ | apply bN_ | apply bD_ | refine bS_ ?_ GE281.out | refine bS_ ?_ GE296.out | refine bS_ ?_ GE303.out | refine bS_ ?_ GE311.out) | exact HB.out)); (case side2 => exact Kd.R_tight rfl HO_304000.out); (case side3 => exact fun k_ e_ => (HO_304000.out.1 k_ e_.symm).1.1.2.2.1); (case side4 => exact Kd.R_tight rfl HO_304001.out); (case side5 => exact fun k_ e_ => (HO_304001.out.1 k_ e_.symm).1.1.2.2.1); rintro e w74 ⟨rfl, hy0, hy1, hb, hkp⟩; refine ⟨_, rfl, ?_⟩; have n0_ := Aside0.mk (rM_ (ok' := fun k_ => some k_ ≠ (.slice Ao24 t292.length co24 : Value).ownBlock ∧ some k_ ≠ (.slice Ao28 t297.length co28 : Value).ownBlock ∧ some k_ ≠ (.slice Ao32 t300.length co32 : Value).ownBlock ∧ some k_ ≠ (.slice Ao35 t304.length co35 : Value).ownBlock ∧ some k_ ≠ (.slice Ao40 t307.length co40 : Value).ownBlock ∧ some k_ ≠ (.slice Ao67 t313.length co67 : Value).ownBlock ∧ some k_ ≠ (.slice Ao68 t316.length co68 : Value).ownBlock) (Kd.R_keptB (HO_297000.out) hkp (fun k_ hk_ hs_ => Or.elim hs_ (fun e_ => (hk_.1.1.2.1) e_) (fun e_ => (hk_.1.1.2.2.1) e_))) (fun k_ hk_ => ⟨hk_.1.1.1.1, hk_.1.1.1.2.1, hk_.1.1.1.2.2.1, hk_.1.1.1.2.2.2.1, hk_.1.1.1.2.2.2.2, hk_.1.1.2, hk_.1.2⟩)); have n1_ := Aside0.mk (rM_ (ok' := fun k_ => some k_ ≠ (.slice Ao21 t289.length co21 : Value).ownBlock ∧ some k_ ≠ (.slice Ao28 t297.length co28 : Value).ownBlock ∧ some k_ ≠ (.slice Ao32 t300.length co32 : Value).ownBlock ∧ some k_ ≠ (.slice Ao35 t304.length co35 : Value).ownBlock ∧ some k_ ≠ (.slice Ao40 t307.length co40 : Value).ownBlock ∧ some k_ ≠ (.slice Ao67 t313.length co67 : Value).ownBlock ∧ some k_ ≠ (.slice Ao68 t316.length co68 : Value).ownBlock) (Kd.R_keptB (HO_297001.out) hkp (fun k_ hk_ hs_ => Or.elim hs_ (fun e_ => (hk_.1.1.2.1) e_) (fun e_ => (hk_.1.1.2.2.1) e_))) (fun k_ hk_ => ⟨hk_.1.1.1.1, hk_.1.1.1.2.1, hk_.1.1.1.2.2.1, hk_.1.1.1.2.2.2.1, hk_.1.1.1.2.2.2.2, hk_.1.1.2, hk_.1.2⟩)); have n2_ := Aside0.mk (Kd.R_reok rfl hy0 (fun k_ e_ => HO_304000.out.1 k_ e_)); have n3_ := Aside0.mk (Kd.R_reok rfl hy1 (fun k_ e_ => HO_304001.out.1 k_ e_)); have n4_ := Aside0.mk (rM_ (ok' := fun k_ => some k_ ≠ (.slice Ao21 t289.length co21 : Value).ownBlock ∧ some k_ ≠ (.slice Ao24 t292.length co24 : Value).ownBlock ∧ some k_ ≠ (.slice Ao28 t297.length co28 : Value).ownBlock ∧ some k_ ≠ (.slice Ao32 t300.length co32 : Value).ownBlock ∧ some k_ ≠ (.slice Ao40 t307.length co40 : Value).ownBlock ∧ some k_ ≠ (.slice Ao67 t313.length co67 : Value).ownBlock ∧ some k_ ≠ (.slice Ao68 t316.length co68 : Value).ownBlock) (Kd.R_keptB (HO_312000.out) hkp (fun k_ hk_ hs_ => Or.elim hs_ (fun e_ => (hk_.1.1.2.2.1) e_) (fun e_ => (hk_.1.1.2.2.2.1) e_))) (fun k_ hk_ => ⟨hk_.1.1.1.1, hk_.1.1.1.2.1, hk_.1.1.1.2.2.1, hk_.1.1.1.2.2.2.1, hk_.1.1.1.2.2.2.2, hk_.1.1.2, hk_.1.2⟩)); have n5_ := Aside0.mk (rM_ (ok' := fun k_ => some k_ ≠ (.slice Ao21 t289.length co21 : Value).ownBlock ∧ some k_ ≠ (.slice Ao24 t292.length co24 : Value).ownBlock ∧ some k_ ≠ (.slice Ao28 t297.length co28 : Value).ownBlock ∧ some k_ ≠ (.slice Ao32 t300.length co32 : Value).ownBlock ∧ some k_ ≠ (.slice Ao35 t304.length co35 : Value).ownBlock ∧ some k_ ≠ (.slice Ao67 t313.length co67 : Value).ownBlock ∧ some k_ ≠ (.slice Ao68 t316.length co68 : Value).ownBlock) (Kd.R_keptB (HO_312001.out) hkp (fun k_ hk_ hs_ => Or.elim hs_ (fun e_ => (hk_.1.1.2.2.1) e_) (fun e_ => (hk_.1.1.2.2.2.1) e_))) (fun k_ hk_ => ⟨hk_.1.1.1.1, hk_.1.1.1.2.1, hk_.1.1.1.2.2.1, hk_.1.1.1.2.2.2.1, hk_.1.1.1.2.2.2.2, hk_.1.1.2, hk_.1.2⟩)); have n6_ := Aside0.mk (blk_kept (by (with_reducible repeat (first | refine kN_ ?_ _ | refine kD_ ?_ | refine kA_ ?_ _)); exact BK281.out) hkp (fun hs_ => Or.elim hs_ (fun e_ => (fun e_ => (Kd.R_ne HO_304000.out BK281.out (by decide)) e_) e_) (fun e_ => (fun e_ => (Kd.R_ne HO_304001.out BK281.out (by decide)) e_) e_))); have n7_ := Aside0.mk (blk_kept (by (with_reducible repeat (first | refine kN_ ?_ _ | refine kD_ ?_ | refine kA_ ?_ _)); exact BK296.out) hkp (fun hs_ => Or.elim hs_ (fun e_ => (fun e_ => (Kd.R_ne HO_304000.out BK296.out (by decide)) e_) e_) (fun e_ => (fun e_ => (Kd.R_ne HO_304001.out BK296.out (by decide)) e_) e_))); have n8_ := Aside0.mk (blk_kept (by (with_reducible repeat (first | refine kN_ ?_ _ | refine kD_ ?_ | refine kA_ ?_ _)); exact BK303.out) hkp (fun hs_ => Or.elim hs_ (fun e_ => (fun e_ => (Kd.R_ne HO_304000.out BK303.out (by decide)) e_) e_) (fun e_ => (fun e_ => (Kd.R_ne HO_304001.out BK303.out (by decide)) e_) e_))); have n9_ := Aside0.mk (blk_kept (by (with_reducible repeat (first | refine kN_ ?_ _ | refine kD_ ?_ | refine kA_ ?_ _)); exact BK311.out) hkp (fun hs_ => Or.elim hs_ (fun e_ => (fun e_ => (Kd.R_ne HO_304000.out BK311.out (by decide)) e_) e_) (fun e_ => (fun e_ => (Kd.R_ne HO_304001.out BK311.out (by decide)) e_) e_))); have n10_ := Aside0.mk (rM_ (ok' := fun k_ => some k_ ≠ (.slice Ao21 t289.length co21 : Value).ownBlock ∧ some k_ ≠ (.slice Ao24 t292.length co24 : Value).ownBlock ∧ some k_ ≠ (.slice Ao28 t297.length co28 : Value).ownBlock ∧ some k_ ≠ (.slice Ao32 t300.length co32 : Value).ownBlock ∧ some k_ ≠ (.slice Ao35 t304.length co35 : Value).ownBlock ∧ some k_ ≠ (.slice Ao40 t307.length co40 : Value).ownBlock ∧ some k_ ≠ (.slice Ao68 t316.length co68 : Value).ownBlock) (Kd.R_keptB (HO315.out) hkp (fun k_ hk_ hs_ => Or.elim hs_ (fun e_ => (hk_.1.1.1.2) e_) (fun e_ => (hk_.1.1.2) e_))) (fun k_ hk_ => ⟨hk_.1.1.1.1.1.1.2, hk_.1.1.1.1.1.2, hk_.1.1.1.1.2, hk_.1.1.1.2, hk_.1.1.2, hk_.1.2, hk_.1.1.1.1.1.1.1⟩)); have n11_ := Aside0.mk (rM_ (ok' := fun k_ => some k_ ≠ (.slice Ao21 t289.length co21 : Value).ownBlock ∧ some k_ ≠ (.slice Ao24 t292.length co24 : Value).ownBlock ∧ some k_ ≠ (.slice Ao28 t297.length co28 : Value).ownBlock ∧ some k_ ≠ (.slice Ao32 t300.length co32 : Value).ownBlock ∧ some k_ ≠ (.slice Ao35 t304.length co35 : Value).ownBlock ∧ some k_ ≠ (.slice Ao40 t307.length co40 : Value).ownBlock ∧ some k_ ≠ (.slice Ao67 t313.length co67 : Value).ownBlock) (Kd.R_keptB (HO318.out) hkp (fun k_ hk_ hs_ => Or.elim hs_ (fun e_ => (hk_.1.1.1.2) e_) (fun e_ => (hk_.1.1.2) e_))) (fun k_ hk_ => ⟨hk_.1.1.1.1.1.1.2, hk_.1.1.1.1.1.2, hk_.1.1.1.1.2, hk_.1.1.1.2, hk_.1.1.2, hk_.1.2, hk_.1.1.1.1.1.1.1⟩)); have n12_ := Aside0.mk (hb); clear HO_297000; clear HO_297001; clear HO_304000; clear HO_304001; clear HO_312000; clear HO_312001; clear BK281; clear BK296; clear BK303; clear BK311; clear HO315; clear HO318; clear HB; have HO_297000 := n0_; have HO_297001 := n1_; have HO_304000 := n2_; have HO_304001 := n3_; have HO_312000 := n4_; have HO_312001 := n5_; have BK281 := n6_; have BK296 := n7_; have BK303 := n8_; have BK311 := n9_; have HO315 := n10_; have HO318 := n11_; have HB := n12_; clear n0_ n1_ n2_ n3_ n4_ n5_ n6_ n7_ n8_ n9_ n10_ n11_ n12_; (try clear hb); (try clear hkp); (try clear hy0); (try clear hy1)))
            (try simp only [Act.put, List.setIfInBounds_toArray, List.set_cons_zero, List.set_cons_succ])
            go_cut [61] (fun v61 wc => ∃ (kq : Nat) (x61_63 : Bool), v61 = .bool x61_63 ∧ Aside0 (laws_FnExactDropFloor.j1 kq t295 x61_63 l0_0 l0_1 t289 t292 t304 t307 = some r) ∧ Aside0 (kq ≤ kj10) ∧ Aside0 (Kd.R (Kd.int .i64) 3 wc w.heap.size (fun k_ => some k_ ≠ ((.slice Ao24 t292.length co24) : Value).ownBlock ∧ some k_ ≠ ((.slice Ao28 t297.length co28) : Value).ownBlock ∧ some k_ ≠ ((.slice Ao32 t300.length co32) : Value).ownBlock ∧ some k_ ≠ ((.slice Ao35 t304.length co35) : Value).ownBlock ∧ some k_ ≠ ((.slice Ao40 t307.length co40) : Value).ownBlock) (.slice Ao21 t289.length co21) t289) ∧ Aside0 (Kd.R (Kd.int .i64) 3 wc w.heap.size (fun k_ => some k_ ≠ ((.slice Ao21 t289.length co21) : Value).ownBlock ∧ some k_ ≠ ((.slice Ao28 t297.length co28) : Value).ownBlock ∧ some k_ ≠ ((.slice Ao32 t300.length co32) : Value).ownBlock ∧ some k_ ≠ ((.slice Ao35 t304.length co35) : Value).ownBlock ∧ some k_ ≠ ((.slice Ao40 t307.length co40) : Value).ownBlock) (.slice Ao24 t292.length co24) t292) ∧ Aside0 (Kd.R (Kd.int .i64) 3 wc w.heap.size (fun k_ => some k_ ≠ ((.slice Ao21 t289.length co21) : Value).ownBlock ∧ some k_ ≠ ((.slice Ao24 t292.length co24) : Value).ownBlock ∧ some k_ ≠ ((.slice Ao32 t300.length co32) : Value).ownBlock ∧ some k_ ≠ ((.slice Ao35 t304.length co35) : Value).ownBlock ∧ some k_ ≠ ((.slice Ao40 t307.length co40) : Value).ownBlock) (.slice Ao28 t297.length co28) t321) ∧ Aside0 (Kd.R (Kd.int .i64) 3 wc w.heap.size (fun k_ => some k_ ≠ ((.slice Ao21 t289.length co21) : Value).ownBlock ∧ some k_ ≠ ((.slice Ao24 t292.length co24) : Value).ownBlock ∧ some k_ ≠ ((.slice Ao28 t297.length co28) : Value).ownBlock ∧ some k_ ≠ ((.slice Ao35 t304.length co35) : Value).ownBlock ∧ some k_ ≠ ((.slice Ao40 t307.length co40) : Value).ownBlock) (.slice Ao32 t300.length co32) t322) ∧ Aside0 (Kd.R (Kd.int .i64) 3 wc w.heap.size (fun k_ => some k_ ≠ ((.slice Ao21 t289.length co21) : Value).ownBlock ∧ some k_ ≠ ((.slice Ao24 t292.length co24) : Value).ownBlock ∧ some k_ ≠ ((.slice Ao28 t297.length co28) : Value).ownBlock ∧ some k_ ≠ ((.slice Ao32 t300.length co32) : Value).ownBlock ∧ some k_ ≠ ((.slice Ao40 t307.length co40) : Value).ownBlock) (.slice Ao35 t304.length co35) t304) ∧ Aside0 (Kd.R (Kd.int .i64) 3 wc w.heap.size (fun k_ => some k_ ≠ ((.slice Ao21 t289.length co21) : Value).ownBlock ∧ some k_ ≠ ((.slice Ao24 t292.length co24) : Value).ownBlock ∧ some k_ ≠ ((.slice Ao28 t297.length co28) : Value).ownBlock ∧ some k_ ≠ ((.slice Ao32 t300.length co32) : Value).ownBlock ∧ some k_ ≠ ((.slice Ao35 t304.length co35) : Value).ownBlock) (.slice Ao40 t307.length co40) t307) ∧ Aside0 (wc.heap[gb281]? = some (.cells #[(.slice A0_0 l0_0.length c0_0), (.slice A0_1 l0_1.length c0_1)] 24 (0, 0))) ∧ Aside0 (wc.heap[gb296]? = some (.cells #[(.slice Ao21 t289.length co21), (.slice Ao24 t292.length co24)] 27 (0, 0))) ∧ Aside0 (wc.heap[gb303]? = some (.cells #[(.slice Ao28 t297.length co28), (.slice Ao32 t300.length co32)] 27 (0, 0))) ∧ Aside0 (wc.heap[gb311]? = some (.cells #[(.slice Ao35 t304.length co35), (.slice Ao40 t307.length co40)] 27 (0, 0))) ∧ Aside0 (Below w.heap.size w wc))
            case first =>
              have H := HC64.out
              clear HC64
              by_cases c75 : t320 < 0
              · rw [if_pos c75] at H
                have c75b0 : decide (t320 < 0) = true := decide_eq_true c75
                clear c75
                (first | rw [c75b0] | (simp only [i64_w, i32_w]; rw [c75b0]) | skip)
                have H' := Aside0.mk H
                clear H
                go_wp2
                go_meet
                case rel => exact ⟨_, (true), (by first | rfl | (simp; done) | (simp [*]; done)), H', ⟨by have := HJ10.out; first | omega | exact Nat.le_refl _⟩, ⟨by (with_reducible repeat (first | apply rA_ | apply rN_ | apply rD_)); exact rM_ HO_297000.out (fun _ hk => ⟨hk.1, ⟨hk.2.1, ⟨hk.2.2.1, ⟨hk.2.2.2.1, hk.2.2.2.2.1⟩⟩⟩⟩)⟩, ⟨by (with_reducible repeat (first | apply rA_ | apply rN_ | apply rD_)); exact rM_ HO_297001.out (fun _ hk => ⟨hk.1, ⟨hk.2.1, ⟨hk.2.2.1, ⟨hk.2.2.2.1, hk.2.2.2.2.1⟩⟩⟩⟩)⟩, ⟨by (with_reducible repeat (first | apply rA_ | apply rN_ | apply rD_)); exact rM_ HO_304000.out (fun _ hk => ⟨hk.1.1.1, ⟨hk.1.1.2.1, ⟨hk.1.1.2.2.1, ⟨hk.1.1.2.2.2.1, hk.1.1.2.2.2.2⟩⟩⟩⟩)⟩, ⟨by (with_reducible repeat (first | apply rA_ | apply rN_ | apply rD_)); exact rM_ HO_304001.out (fun _ hk => ⟨hk.1.1.1, ⟨hk.1.1.2.1, ⟨hk.1.1.2.2.1, ⟨hk.1.1.2.2.2.1, hk.1.1.2.2.2.2⟩⟩⟩⟩)⟩, ⟨by (with_reducible repeat (first | apply rA_ | apply rN_ | apply rD_)); exact rM_ HO_312000.out (fun _ hk => ⟨hk.1, ⟨hk.2.1, ⟨hk.2.2.1, ⟨hk.2.2.2.1, hk.2.2.2.2.1⟩⟩⟩⟩)⟩, ⟨by (with_reducible repeat (first | apply rA_ | apply rN_ | apply rD_)); exact rM_ HO_312001.out (fun _ hk => ⟨hk.1, ⟨hk.2.1, ⟨hk.2.2.1, ⟨hk.2.2.2.1, hk.2.2.2.2.1⟩⟩⟩⟩)⟩, ⟨by (with_reducible repeat (first | refine kN_ ?_ _ | refine kD_ ?_ | refine kA_ ?_ _)); exact BK281.out⟩, ⟨by (with_reducible repeat (first | refine kN_ ?_ _ | refine kD_ ?_ | refine kA_ ?_ _)); exact BK296.out⟩, ⟨by (with_reducible repeat (first | refine kN_ ?_ _ | refine kD_ ?_ | refine kA_ ?_ _)); exact BK303.out⟩, ⟨by (with_reducible repeat (first | refine kN_ ?_ _ | refine kD_ ?_ | refine kA_ ?_ _)); exact BK311.out⟩, ⟨by repeat (first | (with_reducible first | exact HB.out | apply bA_ | apply bN_ | apply bD_ | refine bS_ ?_ GE281.out | refine bS_ ?_ GE296.out | refine bS_ ?_ GE303.out | refine bS_ ?_ GE311.out) | exact HB.out)⟩⟩
              · rw [if_neg c75] at H
                have c75b0 : decide (t320 < 0) = false := decide_eq_false c75
                clear c75
                (first | rw [c75b0] | (simp only [i64_w, i32_w]; rw [c75b0]) | skip)
                replace H := Option.bind_eq_some_iff.mp H
                obtain ⟨t323, A760, H⟩ := H
                replace H : (if t323 = true then (laws_FnExactDropFloor.j1 kj10 t295 (t310 != t295) l0_0 l0_1 t289 t292 t304 t307) else (laws_FnExactDropFloor.j1 kj10 t295 true l0_0 l0_1 t289 t292 t304 t307)) = some r := H
                have A76 := Aside0.mk A760
                clear A760
                by_cases c77 : t323 = true
                · subst c77
                  have H1 : (laws_FnExactDropFloor.j1 kj10 t295 (t310 != t295) l0_0 l0_1 t289 t292 t304 t307) = some r := by rw [if_pos rfl] at H; exact H
                  clear H
                  have H := H1
                  clear H1
                  have H' := Aside0.mk H
                  clear H
                  have hnb78 := NB311_281.out
                  have hnc78 := NB281_311.out
                  have hnb79 := NB311_296.out
                  have hnc79 := NB296_311.out
                  have hnb80 := NB311_303.out
                  have hnc80 := NB303_311.out
                  have hcz81_0 : w74.cell? ⟨gb311, 0, none⟩ = some (.slice Ao35 t304.length co35) := (blk_cell BK311.out 0).trans rfl
                  have hcz81_1 : w74.cell? ⟨gb311, 1, none⟩ = some (.slice Ao40 t307.length co40) := (blk_cell BK311.out 1).trans rfl
                  have hfz81_0 := blk_frozen BK311.out 0
                  have hfz81_1 := blk_frozen BK311.out 1
                  have hnb82 := NB296_281.out
                  have hnc82 := NB281_296.out
                  have hnb83 := NB296_303.out
                  have hnc83 := NB303_296.out
                  have hcz84_0 : w74.cell? ⟨gb296, 0, none⟩ = some (.slice Ao21 t289.length co21) := (blk_cell BK296.out 0).trans rfl
                  have hcz84_1 : w74.cell? ⟨gb296, 1, none⟩ = some (.slice Ao24 t292.length co24) := (blk_cell BK296.out 1).trans rfl
                  have hfz84_0 := blk_frozen BK296.out 0
                  have hfz84_1 := blk_frozen BK296.out 1
                  go_wp2_with (first | (go_at_call 19; (with_reducible refine (laws_eqHouse.calls kj10 _ _ t304 _ _ t307 _ _ t289 _ _ t292 true _ ?side1 ?side2 ?side3 ?side4 ?side5 ?side6 ?side7 ?side8 A76.out).mono ?_); (case side1 => repeat (first | exact (rR_ HO_312000.out).2.2 | (with_reducible refine Kd.C_alloc ?_ _) | (with_reducible refine Kd.C_drewN ?_ _) | (with_reducible refine Kd.C_drew ?_))); (case side2 => exact (rR_ HO_312000.out).2.1); (case side3 => repeat (first | exact (rR_ HO_312001.out).2.2 | (with_reducible refine Kd.C_alloc ?_ _) | (with_reducible refine Kd.C_drewN ?_ _) | (with_reducible refine Kd.C_drew ?_))); (case side4 => exact (rR_ HO_312001.out).2.1); (case side5 => repeat (first | exact (rR_ HO_297000.out).2.2 | (with_reducible refine Kd.C_alloc ?_ _) | (with_reducible refine Kd.C_drewN ?_ _) | (with_reducible refine Kd.C_drew ?_))); (case side6 => exact (rR_ HO_297000.out).2.1); (case side7 => repeat (first | exact (rR_ HO_297001.out).2.2 | (with_reducible refine Kd.C_alloc ?_ _) | (with_reducible refine Kd.C_drewN ?_ _) | (with_reducible refine Kd.C_drew ?_))); (case side8 => exact (rR_ HO_297001.out).2.1); rintro e w85 ⟨rfl, hb⟩; have n0_ := Aside0.mk (rB_ (by (with_reducible repeat (first | apply rA_ | apply rN_ | apply rD_)); exact HO_297000.out) hb); have n1_ := Aside0.mk (rB_ (by (with_reducible repeat (first | apply rA_ | apply rN_ | apply rD_)); exact HO_297001.out) hb); have n2_ := Aside0.mk (rB_ (by (with_reducible repeat (first | apply rA_ | apply rN_ | apply rD_)); exact HO_304000.out) hb); have n3_ := Aside0.mk (rB_ (by (with_reducible repeat (first | apply rA_ | apply rN_ | apply rD_)); exact HO_304001.out) hb); have n4_ := Aside0.mk (rB_ (by (with_reducible repeat (first | apply rA_ | apply rN_ | apply rD_)); exact HO_312000.out) hb); have n5_ := Aside0.mk (rB_ (by (with_reducible repeat (first | apply rA_ | apply rN_ | apply rD_)); exact HO_312001.out) hb); have n6_ := Aside0.mk (rB_ (by (with_reducible repeat (first | apply rA_ | apply rN_ | apply rD_)); exact HO315.out) hb); have n7_ := Aside0.mk (rB_ (by (with_reducible repeat (first | apply rA_ | apply rN_ | apply rD_)); exact HO318.out) hb); have n8_ := Aside0.mk (blk_below (g := gb281) (o := .cells #[.slice A0_0 l0_0.length c0_0, .slice A0_1 l0_1.length c0_1] 24 (0, 0)) (by (with_reducible repeat (first | refine kN_ ?_ _ | refine kD_ ?_ | refine kA_ ?_ _)); exact BK281.out) hb); have n9_ := Aside0.mk (blk_below (g := gb296) (o := .cells #[.slice Ao21 t289.length co21, .slice Ao24 t292.length co24] 27 (0, 0)) (by (with_reducible repeat (first | refine kN_ ?_ _ | refine kD_ ?_ | refine kA_ ?_ _)); exact BK296.out) hb); have n10_ := Aside0.mk (blk_below (g := gb303) (o := .cells #[.slice Ao28 t297.length co28, .slice Ao32 t300.length co32] 27 (0, 0)) (by (with_reducible repeat (first | refine kN_ ?_ _ | refine kD_ ?_ | refine kA_ ?_ _)); exact BK303.out) hb); have n11_ := Aside0.mk (blk_below (g := gb311) (o := .cells #[.slice Ao35 t304.length co35, .slice Ao40 t307.length co40] 27 (0, 0)) (by (with_reducible repeat (first | refine kN_ ?_ _ | refine kD_ ?_ | refine kA_ ?_ _)); exact BK311.out) hb); have n12_ := Aside0.mk (below_step (by repeat (first | (with_reducible first | exact HB.out | apply bA_ | apply bN_ | apply bD_ | refine bS_ ?_ GE281.out | refine bS_ ?_ GE296.out | refine bS_ ?_ GE303.out | refine bS_ ?_ GE311.out) | exact HB.out)) hb); clear HO_297000; clear HO_297001; clear HO_304000; clear HO_304001; clear HO_312000; clear HO_312001; clear HO315; clear HO318; clear BK281; clear BK296; clear BK303; clear BK311; clear HB; have HO_297000 := n0_; have HO_297001 := n1_; have HO_304000 := n2_; have HO_304001 := n3_; have HO_312000 := n4_; have HO_312001 := n5_; have HO315 := n6_; have HO318 := n7_; have BK281 := n8_; have BK296 := n9_; have BK303 := n10_; have BK311 := n11_; have HB := n12_; clear n0_ n1_ n2_ n3_ n4_ n5_ n6_ n7_ n8_ n9_ n10_ n11_ n12_; (try clear hb); (try clear hb2); (try clear hk); (try clear hi)))
                  go_meet
                  case rel => exact ⟨_, ((t310 != t295)), (by first | rfl | (simp; done) | (simp [*]; done)), H', ⟨by have := HJ10.out; first | omega | exact Nat.le_refl _⟩, ⟨by (with_reducible repeat (first | apply rA_ | apply rN_ | apply rD_)); exact rM_ HO_297000.out (fun _ hk => ⟨hk.1, ⟨hk.2.1, ⟨hk.2.2.1, ⟨hk.2.2.2.1, hk.2.2.2.2.1⟩⟩⟩⟩)⟩, ⟨by (with_reducible repeat (first | apply rA_ | apply rN_ | apply rD_)); exact rM_ HO_297001.out (fun _ hk => ⟨hk.1, ⟨hk.2.1, ⟨hk.2.2.1, ⟨hk.2.2.2.1, hk.2.2.2.2.1⟩⟩⟩⟩)⟩, ⟨by (with_reducible repeat (first | apply rA_ | apply rN_ | apply rD_)); exact rM_ HO_304000.out (fun _ hk => ⟨hk.1.1.1, ⟨hk.1.1.2.1, ⟨hk.1.1.2.2.1, ⟨hk.1.1.2.2.2.1, hk.1.1.2.2.2.2⟩⟩⟩⟩)⟩, ⟨by (with_reducible repeat (first | apply rA_ | apply rN_ | apply rD_)); exact rM_ HO_304001.out (fun _ hk => ⟨hk.1.1.1, ⟨hk.1.1.2.1, ⟨hk.1.1.2.2.1, ⟨hk.1.1.2.2.2.1, hk.1.1.2.2.2.2⟩⟩⟩⟩)⟩, ⟨by (with_reducible repeat (first | apply rA_ | apply rN_ | apply rD_)); exact rM_ HO_312000.out (fun _ hk => ⟨hk.1, ⟨hk.2.1, ⟨hk.2.2.1, ⟨hk.2.2.2.1, hk.2.2.2.2.1⟩⟩⟩⟩)⟩, ⟨by (with_reducible repeat (first | apply rA_ | apply rN_ | apply rD_)); exact rM_ HO_312001.out (fun _ hk => ⟨hk.1, ⟨hk.2.1, ⟨hk.2.2.1, ⟨hk.2.2.2.1, hk.2.2.2.2.1⟩⟩⟩⟩)⟩, ⟨by (with_reducible repeat (first | refine kN_ ?_ _ | refine kD_ ?_ | refine kA_ ?_ _)); exact BK281.out⟩, ⟨by (with_reducible repeat (first | refine kN_ ?_ _ | refine kD_ ?_ | refine kA_ ?_ _)); exact BK296.out⟩, ⟨by (with_reducible repeat (first | refine kN_ ?_ _ | refine kD_ ?_ | refine kA_ ?_ _)); exact BK303.out⟩, ⟨by (with_reducible repeat (first | refine kN_ ?_ _ | refine kD_ ?_ | refine kA_ ?_ _)); exact BK311.out⟩, ⟨by repeat (first | (with_reducible first | exact HB.out | apply bA_ | apply bN_ | apply bD_ | refine bS_ ?_ GE281.out | refine bS_ ?_ GE296.out | refine bS_ ?_ GE303.out | refine bS_ ?_ GE311.out) | exact HB.out)⟩⟩
                · replace c77 := Bool.eq_false_iff.mpr c77
                  subst c77
                  have H1 : (laws_FnExactDropFloor.j1 kj10 t295 true l0_0 l0_1 t289 t292 t304 t307) = some r := by rw [if_neg (show ¬ (false = true) by decide)] at H; exact H
                  clear H
                  have H := H1
                  clear H1
                  have H' := Aside0.mk H
                  clear H
                  have hnb86 := NB311_281.out
                  have hnc86 := NB281_311.out
                  have hnb87 := NB311_296.out
                  have hnc87 := NB296_311.out
                  have hnb88 := NB311_303.out
                  have hnc88 := NB303_311.out
                  have hcz89_0 : w74.cell? ⟨gb311, 0, none⟩ = some (.slice Ao35 t304.length co35) := (blk_cell BK311.out 0).trans rfl
                  have hcz89_1 : w74.cell? ⟨gb311, 1, none⟩ = some (.slice Ao40 t307.length co40) := (blk_cell BK311.out 1).trans rfl
                  have hfz89_0 := blk_frozen BK311.out 0
                  have hfz89_1 := blk_frozen BK311.out 1
                  have hnb90 := NB296_281.out
                  have hnc90 := NB281_296.out
                  have hnb91 := NB296_303.out
                  have hnc91 := NB303_296.out
                  have hcz92_0 : w74.cell? ⟨gb296, 0, none⟩ = some (.slice Ao21 t289.length co21) := (blk_cell BK296.out 0).trans rfl
                  have hcz92_1 : w74.cell? ⟨gb296, 1, none⟩ = some (.slice Ao24 t292.length co24) := (blk_cell BK296.out 1).trans rfl
                  have hfz92_0 := blk_frozen BK296.out 0
                  have hfz92_1 := blk_frozen BK296.out 1
                  go_wp2_with (first | (go_at_call 19; (with_reducible refine (laws_eqHouse.calls kj10 _ _ t304 _ _ t307 _ _ t289 _ _ t292 false _ ?side1 ?side2 ?side3 ?side4 ?side5 ?side6 ?side7 ?side8 A76.out).mono ?_); (case side1 => repeat (first | exact (rR_ HO_312000.out).2.2 | (with_reducible refine Kd.C_alloc ?_ _) | (with_reducible refine Kd.C_drewN ?_ _) | (with_reducible refine Kd.C_drew ?_))); (case side2 => exact (rR_ HO_312000.out).2.1); (case side3 => repeat (first | exact (rR_ HO_312001.out).2.2 | (with_reducible refine Kd.C_alloc ?_ _) | (with_reducible refine Kd.C_drewN ?_ _) | (with_reducible refine Kd.C_drew ?_))); (case side4 => exact (rR_ HO_312001.out).2.1); (case side5 => repeat (first | exact (rR_ HO_297000.out).2.2 | (with_reducible refine Kd.C_alloc ?_ _) | (with_reducible refine Kd.C_drewN ?_ _) | (with_reducible refine Kd.C_drew ?_))); (case side6 => exact (rR_ HO_297000.out).2.1); (case side7 => repeat (first | exact (rR_ HO_297001.out).2.2 | (with_reducible refine Kd.C_alloc ?_ _) | (with_reducible refine Kd.C_drewN ?_ _) | (with_reducible refine Kd.C_drew ?_))); (case side8 => exact (rR_ HO_297001.out).2.1); rintro e w93 ⟨rfl, hb⟩; have n0_ := Aside0.mk (rB_ (by (with_reducible repeat (first | apply rA_ | apply rN_ | apply rD_)); exact HO_297000.out) hb); have n1_ := Aside0.mk (rB_ (by (with_reducible repeat (first | apply rA_ | apply rN_ | apply rD_)); exact HO_297001.out) hb); have n2_ := Aside0.mk (rB_ (by (with_reducible repeat (first | apply rA_ | apply rN_ | apply rD_)); exact HO_304000.out) hb); have n3_ := Aside0.mk (rB_ (by (with_reducible repeat (first | apply rA_ | apply rN_ | apply rD_)); exact HO_304001.out) hb); have n4_ := Aside0.mk (rB_ (by (with_reducible repeat (first | apply rA_ | apply rN_ | apply rD_)); exact HO_312000.out) hb); have n5_ := Aside0.mk (rB_ (by (with_reducible repeat (first | apply rA_ | apply rN_ | apply rD_)); exact HO_312001.out) hb); have n6_ := Aside0.mk (rB_ (by (with_reducible repeat (first | apply rA_ | apply rN_ | apply rD_)); exact HO315.out) hb); have n7_ := Aside0.mk (rB_ (by (with_reducible repeat (first | apply rA_ | apply rN_ | apply rD_)); exact HO318.out) hb); have n8_ := Aside0.mk (blk_below (g := gb281) (o := .cells #[.slice A0_0 l0_0.length c0_0, .slice A0_1 l0_1.length c0_1] 24 (0, 0)) (by (with_reducible repeat (first | refine kN_ ?_ _ | refine kD_ ?_ | refine kA_ ?_ _)); exact BK281.out) hb); have n9_ := Aside0.mk (blk_below (g := gb296) (o := .cells #[.slice Ao21 t289.length co21, .slice Ao24 t292.length co24] 27 (0, 0)) (by (with_reducible repeat (first | refine kN_ ?_ _ | refine kD_ ?_ | refine kA_ ?_ _)); exact BK296.out) hb); have n10_ := Aside0.mk (blk_below (g := gb303) (o := .cells #[.slice Ao28 t297.length co28, .slice Ao32 t300.length co32] 27 (0, 0)) (by (with_reducible repeat (first | refine kN_ ?_ _ | refine kD_ ?_ | refine kA_ ?_ _)); exact BK303.out) hb); have n11_ := Aside0.mk (blk_below (g := gb311) (o := .cells #[.slice Ao35 t304.length co35, .slice Ao40 t307.length co40] 27 (0, 0)) (by (with_reducible repeat (first | refine kN_ ?_ _ | refine kD_ ?_ | refine kA_ ?_ _)); exact BK311.out) hb); have n12_ := Aside0.mk (below_step (by repeat (first | (with_reducible first | exact HB.out | apply bA_ | apply bN_ | apply bD_ | refine bS_ ?_ GE281.out | refine bS_ ?_ GE296.out | refine bS_ ?_ GE303.out | refine bS_ ?_ GE311.out) | exact HB.out)) hb); clear HO_297000; clear HO_297001; clear HO_304000; clear HO_304001; clear HO_312000; clear HO_312001; clear HO315; clear HO318; clear BK281; clear BK296; clear BK303; clear BK311; clear HB; have HO_297000 := n0_; have HO_297001 := n1_; have HO_304000 := n2_; have HO_304001 := n3_; have HO_312000 := n4_; have HO_312001 := n5_; have HO315 := n6_; have HO318 := n7_; have BK281 := n8_; have BK296 := n9_; have BK303 := n10_; have BK311 := n11_; have HB := n12_; clear n0_ n1_ n2_ n3_ n4_ n5_ n6_ n7_ n8_ n9_ n10_ n11_ n12_; (try clear hb); (try clear hb2); (try clear hk); (try clear hi)))
                  go_meet
                  case rel => exact ⟨_, (true), (by first | rfl | (simp; done) | (simp [*]; done)), H', ⟨by have := HJ10.out; first | omega | exact Nat.le_refl _⟩, ⟨by (with_reducible repeat (first | apply rA_ | apply rN_ | apply rD_)); exact rM_ HO_297000.out (fun _ hk => ⟨hk.1, ⟨hk.2.1, ⟨hk.2.2.1, ⟨hk.2.2.2.1, hk.2.2.2.2.1⟩⟩⟩⟩)⟩, ⟨by (with_reducible repeat (first | apply rA_ | apply rN_ | apply rD_)); exact rM_ HO_297001.out (fun _ hk => ⟨hk.1, ⟨hk.2.1, ⟨hk.2.2.1, ⟨hk.2.2.2.1, hk.2.2.2.2.1⟩⟩⟩⟩)⟩, ⟨by (with_reducible repeat (first | apply rA_ | apply rN_ | apply rD_)); exact rM_ HO_304000.out (fun _ hk => ⟨hk.1.1.1, ⟨hk.1.1.2.1, ⟨hk.1.1.2.2.1, ⟨hk.1.1.2.2.2.1, hk.1.1.2.2.2.2⟩⟩⟩⟩)⟩, ⟨by (with_reducible repeat (first | apply rA_ | apply rN_ | apply rD_)); exact rM_ HO_304001.out (fun _ hk => ⟨hk.1.1.1, ⟨hk.1.1.2.1, ⟨hk.1.1.2.2.1, ⟨hk.1.1.2.2.2.1, hk.1.1.2.2.2.2⟩⟩⟩⟩)⟩, ⟨by (with_reducible repeat (first | apply rA_ | apply rN_ | apply rD_)); exact rM_ HO_312000.out (fun _ hk => ⟨hk.1, ⟨hk.2.1, ⟨hk.2.2.1, ⟨hk.2.2.2.1, hk.2.2.2.2.1⟩⟩⟩⟩)⟩, ⟨by (with_reducible repeat (first | apply rA_ | apply rN_ | apply rD_)); exact rM_ HO_312001.out (fun _ hk => ⟨hk.1, ⟨hk.2.1, ⟨hk.2.2.1, ⟨hk.2.2.2.1, hk.2.2.2.2.1⟩⟩⟩⟩)⟩, ⟨by (with_reducible repeat (first | refine kN_ ?_ _ | refine kD_ ?_ | refine kA_ ?_ _)); exact BK281.out⟩, ⟨by (with_reducible repeat (first | refine kN_ ?_ _ | refine kD_ ?_ | refine kA_ ?_ _)); exact BK296.out⟩, ⟨by (with_reducible repeat (first | refine kN_ ?_ _ | refine kD_ ?_ | refine kA_ ?_ _)); exact BK303.out⟩, ⟨by (with_reducible repeat (first | refine kN_ ?_ _ | refine kD_ ?_ | refine kA_ ?_ _)); exact BK311.out⟩, ⟨by repeat (first | (with_reducible first | exact HB.out | apply bA_ | apply bN_ | apply bD_ | refine bS_ ?_ GE281.out | refine bS_ ?_ GE296.out | refine bS_ ?_ GE303.out | refine bS_ ?_ GE311.out) | exact HB.out)⟩⟩
            case rest =>
              clear HC64
              try clear c1
              try clear c2
              try clear p2
              try clear c3
              try clear c3b0
              try clear c4
              try clear c5
              try clear c6
              try clear c7
              try clear c8
              try clear c9
              try clear c14
              try clear c15
              try clear c17
              try clear c19
              try clear c22
              try clear c29
              try clear c30
              try clear c36
              try clear c37
              try clear c38
              try clear c39
              try clear c42
              try clear c43
              try clear c44
              try clear c45
              try clear c46
              try clear c47
              try clear c48
              try clear c51
              try clear c52
              try clear c53
              try clear c55
              try clear c56
              try clear c59
              try clear c62
              try clear c70
              try clear c71
              try clear c72
              try clear c75
              try clear c75b0
              try clear c77
              try clear c78
              try clear c79
              try clear c80
              try clear c82
              try clear c83
              try clear c86
              try clear c87
              try clear c88
              try clear c90
              try clear c91
              try clear hcz13_0
              try clear hcz13_1
              try clear hcz15_0
              try clear hcz15_1
              try clear hcz23_0
              try clear hcz23_1
              try clear hcz25_0
              try clear hcz25_1
              try clear hcz31_0
              try clear hcz31_1
              try clear hcz39_0
              try clear hcz39_1
              try clear hcz46_0
              try clear hcz46_1
              try clear hcz49_0
              try clear hcz49_1
              try clear hcz54_0
              try clear hcz54_1
              try clear hcz57_0
              try clear hcz57_1
              try clear hcz5_0
              try clear hcz5_1
              try clear hcz73_0
              try clear hcz73_1
              try clear hcz81_0
              try clear hcz81_1
              try clear hcz84_0
              try clear hcz84_1
              try clear hcz89_0
              try clear hcz89_1
              try clear hcz92_0
              try clear hcz92_1
              try clear hfz13_0
              try clear hfz13_1
              try clear hfz15_0
              try clear hfz15_1
              try clear hfz23_0
              try clear hfz23_1
              try clear hfz25_0
              try clear hfz25_1
              try clear hfz31_0
              try clear hfz31_1
              try clear hfz39_0
              try clear hfz39_1
              try clear hfz46_0
              try clear hfz46_1
              try clear hfz49_0
              try clear hfz49_1
              try clear hfz54_0
              try clear hfz54_1
              try clear hfz57_0
              try clear hfz57_1
              try clear hfz5_0
              try clear hfz5_1
              try clear hfz73_0
              try clear hfz73_1
              try clear hfz81_0
              try clear hfz81_1
              try clear hfz84_0
              try clear hfz84_1
              try clear hfz89_0
              try clear hfz89_1
              try clear hfz92_0
              try clear hfz92_1
              try clear p2
              obtain ⟨kq, x61_63, rfl, HA, HJ63, HO_297000, HO_297001, HO_304000, HO_304001, HO_312000, HO_312001, BK281, BK296, BK303, BK311, HB⟩ := hcut
              have hl304000_63 := (rR_ HO_304000.out).1
              rw [hl304000_63] at HO_304000
              (try simp only [hl304000_63])
              (try simp only [hl304000_63] at BK281)
              (try simp only [hl304000_63] at BK296)
              (try simp only [hl304000_63] at BK303)
              (try simp only [hl304000_63] at BK311)
              (try simp only [hl304000_63] at HO_297000)
              (try simp only [hl304000_63] at HO_297001)
              (try simp only [hl304000_63] at HO_304001)
              (try simp only [hl304000_63] at HO_312000)
              (try simp only [hl304000_63] at HO_312001)
              have hl304001_63 := (rR_ HO_304001.out).1
              rw [hl304001_63] at HO_304001
              (try simp only [hl304001_63])
              (try simp only [hl304001_63] at BK281)
              (try simp only [hl304001_63] at BK296)
              (try simp only [hl304001_63] at BK303)
              (try simp only [hl304001_63] at BK311)
              (try simp only [hl304001_63] at HO_297000)
              (try simp only [hl304001_63] at HO_297001)
              (try simp only [hl304001_63] at HO_304000)
              (try simp only [hl304001_63] at HO_312000)
              (try simp only [hl304001_63] at HO_312001)
              cases kq with
              | zero => exact absurd HA.out (by simp [laws_FnExactDropFloor.j1])
              | succ kj63 =>
                have H := HA.out
                clear HA
                simp only [laws_FnExactDropFloor.j1] at H
                by_cases c94 : x61_63 = true
                · subst c94
                  have H1 : (some false) = some r := by rw [if_pos rfl] at H; exact H
                  clear H
                  have H := H1
                  clear H1
                  obtain rfl := Option.some.inj H
                  go_wp2
                  go_ret
                  exact ⟨by first | rfl | (simp [errW_none, errW_some] <;> rfl) | (simp [*, errW_none, errW_some] <;> rfl), by repeat (first | (with_reducible first | exact HB.out | apply bA_ | apply bN_ | apply bD_ | refine bS_ ?_ GE281.out | refine bS_ ?_ GE296.out | refine bS_ ?_ GE303.out | refine bS_ ?_ GE311.out) | exact HB.out)⟩
                · replace c94 := Bool.eq_false_iff.mpr c94
                  subst c94
                  have H1 : ((laws_markHouse.f kj63 t304 t307 1).bind fun bt324 => ((laws_heldHouse.f kj63 bt324.2.1 bt324.2.2 1).bind fun t327 => (if t327 < 0 then (some false) else (if t327 = bt324.1 then ((laws_toHouse.f kj63 l0_0 l0_1).bind fun bt328 => ((impl_DropFloor.f kj63 bt328.1 bt328.2).bind fun bt334 => ((laws_eqHouse.f kj63 bt334.1 bt334.2.1 t289 t292).bind fun t342 => (if t342 = true then (laws_FnExactDropFloor.j2 kj63 bt324.1 (bt334.2.2 != t295) bt324.2.1 bt324.2.2) else (laws_FnExactDropFloor.j2 kj63 bt324.1 true bt324.2.1 bt324.2.2))))) else (some false))))) = some r := by rw [if_neg (show ¬ (false = true) by decide)] at H; exact H
                  clear H
                  have H := H1
                  clear H1
                  replace H := Option.bind_eq_some_iff.mp H
                  obtain ⟨⟨t324, t325, t326⟩, A950, H⟩ := H
                  replace H : ((laws_heldHouse.f kj63 t325 t326 1).bind fun t327 => (if t327 < 0 then (some false) else (if t327 = t324 then ((laws_toHouse.f kj63 l0_0 l0_1).bind fun bt328 => ((impl_DropFloor.f kj63 bt328.1 bt328.2).bind fun bt334 => ((laws_eqHouse.f kj63 bt334.1 bt334.2.1 t289 t292).bind fun t342 => (if t342 = true then (laws_FnExactDropFloor.j2 kj63 t324 (bt334.2.2 != t295) t325 t326) else (laws_FnExactDropFloor.j2 kj63 t324 true t325 t326))))) else (some false)))) = some r := H
                  have A95 := Aside0.mk A950
                  clear A950
                  replace H := Option.bind_eq_some_iff.mp H
                  obtain ⟨t327, A960, H⟩ := H
                  replace H : (if t327 < 0 then (some false) else (if t327 = t324 then ((laws_toHouse.f kj63 l0_0 l0_1).bind fun bt328 => ((impl_DropFloor.f kj63 bt328.1 bt328.2).bind fun bt334 => ((laws_eqHouse.f kj63 bt334.1 bt334.2.1 t289 t292).bind fun t342 => (if t342 = true then (laws_FnExactDropFloor.j2 kj63 t324 (bt334.2.2 != t295) t325 t326) else (laws_FnExactDropFloor.j2 kj63 t324 true t325 t326))))) else (some false))) = some r := H
                  have A96 := Aside0.mk A960
                  clear A960
                  by_cases c97 : t327 < 0
                  · rw [if_pos c97] at H
                    have c97b0 : decide (t327 < 0) = true := decide_eq_true c97
                    clear c97
                    obtain rfl := Option.some.inj H
                    have hnb98 := NB311_281.out
                    have hnc98 := NB281_311.out
                    have hnb99 := NB311_296.out
                    have hnc99 := NB296_311.out
                    have hnb100 := NB311_303.out
                    have hnc100 := NB303_311.out
                    have hcz101_0 : wc.cell? ⟨gb311, 0, none⟩ = some (.slice Ao35 t304.length co35) := (blk_cell BK311.out 0).trans rfl
                    have hcz101_1 : wc.cell? ⟨gb311, 1, none⟩ = some (.slice Ao40 t307.length co40) := (blk_cell BK311.out 1).trans rfl
                    have hfz101_0 := blk_frozen BK311.out 0
                    have hfz101_1 := blk_frozen BK311.out 1
                    go_wp2_with (first | ((with_reducible refine gate_callee (f := 39) rfl ?_); refine goesL_ (some 64) rfl rfl Try.func39 (by kernel_rfl) rfl #[.agg #[.slice Ao35 t304.length co35, .slice Ao40 t307.length co40], .int .i64 1] rfl (by (try simp only [List.map_toArray, List.map_cons, List.map_nil]); first | done | rfl | (simp only [List.length_drop, List.length_take]; rfl)) ?_; (with_reducible refine (laws_markHouse.calls kj63 (fun k_ => some k_ = (.slice Ao35 t304.length co35 : Value).ownBlock) (.slice Ao35 t304.length co35) t304 (fun k_ => some k_ = (.slice Ao40 t307.length co40 : Value).ownBlock) (.slice Ao40 t307.length co40) t307 1 t324 t325 t326 w _ ?side1 ?side2 ?side3 ?side4 ?side5 A95.out).mono ?_); (case side1 => repeat (first | (with_reducible first | exact HB.out | apply bA_ | apply bN_ | apply bD_ | refine bS_ ?_ GE281.out | refine bS_ ?_ GE296.out | refine bS_ ?_ GE303.out | refine bS_ ?_ GE311.out) | exact HB.out)); (case side2 => exact Kd.R_tight rfl HO_312000.out); (case side3 => exact fun k_ e_ => (HO_312000.out.1 k_ e_.symm).2.2.2.2); (case side4 => exact Kd.R_tight rfl HO_312001.out); (case side5 => exact fun k_ e_ => (HO_312001.out.1 k_ e_.symm).2.2.2.2); rintro e w102 ⟨rfl, hy0, hy1, hb, hkp⟩; refine ⟨_, rfl, ?_⟩; have n0_ := Aside0.mk (rM_ (ok' := fun k_ => some k_ ≠ (.slice Ao24 t292.length co24 : Value).ownBlock ∧ some k_ ≠ (.slice Ao28 t321.length co28 : Value).ownBlock ∧ some k_ ≠ (.slice Ao32 t322.length co32 : Value).ownBlock ∧ some k_ ≠ (.slice Ao35 t304.length co35 : Value).ownBlock ∧ some k_ ≠ (.slice Ao40 t307.length co40 : Value).ownBlock) (Kd.R_keptB (HO_297000.out) hkp (fun k_ hk_ hs_ => Or.elim hs_ (fun e_ => (hk_.2.2.2.1) e_) (fun e_ => (hk_.2.2.2.2) e_))) (fun k_ hk_ => ⟨hk_.1.1, hk_.1.2.1, hk_.1.2.2.1, hk_.1.2.2.2.1, hk_.1.2.2.2.2⟩)); have n1_ := Aside0.mk (rM_ (ok' := fun k_ => some k_ ≠ (.slice Ao21 t289.length co21 : Value).ownBlock ∧ some k_ ≠ (.slice Ao28 t321.length co28 : Value).ownBlock ∧ some k_ ≠ (.slice Ao32 t322.length co32 : Value).ownBlock ∧ some k_ ≠ (.slice Ao35 t304.length co35 : Value).ownBlock ∧ some k_ ≠ (.slice Ao40 t307.length co40 : Value).ownBlock) (Kd.R_keptB (HO_297001.out) hkp (fun k_ hk_ hs_ => Or.elim hs_ (fun e_ => (hk_.2.2.2.1) e_) (fun e_ => (hk_.2.2.2.2) e_))) (fun k_ hk_ => ⟨hk_.1.1, hk_.1.2.1, hk_.1.2.2.1, hk_.1.2.2.2.1, hk_.1.2.2.2.2⟩)); have n2_ := Aside0.mk (rM_ (ok' := fun k_ => some k_ ≠ (.slice Ao21 t289.length co21 : Value).ownBlock ∧ some k_ ≠ (.slice Ao24 t292.length co24 : Value).ownBlock ∧ some k_ ≠ (.slice Ao32 t322.length co32 : Value).ownBlock ∧ some k_ ≠ (.slice Ao35 t304.length co35 : Value).ownBlock ∧ some k_ ≠ (.slice Ao40 t307.length co40 : Value).ownBlock) (Kd.R_keptB (HO_304000.out) hkp (fun k_ hk_ hs_ => Or.elim hs_ (fun e_ => (hk_.2.2.2.1) e_) (fun e_ => (hk_.2.2.2.2) e_))) (fun k_ hk_ => ⟨hk_.1.1, hk_.1.2.1, hk_.1.2.2.1, hk_.1.2.2.2.1, hk_.1.2.2.2.2⟩)); have n3_ := Aside0.mk (rM_ (ok' := fun k_ => some k_ ≠ (.slice Ao21 t289.length co21 : Value).ownBlock ∧ some k_ ≠ (.slice Ao24 t292.length co24 : Value).ownBlock ∧ some k_ ≠ (.slice Ao28 t321.length co28 : Value).ownBlock ∧ some k_ ≠ (.slice Ao35 t304.length co35 : Value).ownBlock ∧ some k_ ≠ (.slice Ao40 t307.length co40 : Value).ownBlock) (Kd.R_keptB (HO_304001.out) hkp (fun k_ hk_ hs_ => Or.elim hs_ (fun e_ => (hk_.2.2.2.1) e_) (fun e_ => (hk_.2.2.2.2) e_))) (fun k_ hk_ => ⟨hk_.1.1, hk_.1.2.1, hk_.1.2.2.1, hk_.1.2.2.2.1, hk_.1.2.2.2.2⟩)); have n4_ := Aside0.mk (Kd.R_reok rfl hy0 (fun k_ e_ => HO_312000.out.1 k_ e_)); have n5_ := Aside0.mk (Kd.R_reok rfl hy1 (fun k_ e_ => HO_312001.out.1 k_ e_)); have n6_ := Aside0.mk (blk_kept (by (with_reducible repeat (first | refine kN_ ?_ _ | refine kD_ ?_ | refine kA_ ?_ _)); exact BK281.out) hkp (fun hs_ => Or.elim hs_ (fun e_ => (fun e_ => (Kd.R_ne HO_312000.out BK281.out (by decide)) e_) e_) (fun e_ => (fun e_ => (Kd.R_ne HO_312001.out BK281.out (by decide)) e_) e_))); have n7_ := Aside0.mk (blk_kept (by (with_reducible repeat (first | refine kN_ ?_ _ | refine kD_ ?_ | refine kA_ ?_ _)); exact BK296.out) hkp (fun hs_ => Or.elim hs_ (fun e_ => (fun e_ => (Kd.R_ne HO_312000.out BK296.out (by decide)) e_) e_) (fun e_ => (fun e_ => (Kd.R_ne HO_312001.out BK296.out (by decide)) e_) e_))); have n8_ := Aside0.mk (blk_kept (by (with_reducible repeat (first | refine kN_ ?_ _ | refine kD_ ?_ | refine kA_ ?_ _)); exact BK303.out) hkp (fun hs_ => Or.elim hs_ (fun e_ => (fun e_ => (Kd.R_ne HO_312000.out BK303.out (by decide)) e_) e_) (fun e_ => (fun e_ => (Kd.R_ne HO_312001.out BK303.out (by decide)) e_) e_))); have n9_ := Aside0.mk (blk_kept (by (with_reducible repeat (first | refine kN_ ?_ _ | refine kD_ ?_ | refine kA_ ?_ _)); exact BK311.out) hkp (fun hs_ => Or.elim hs_ (fun e_ => (fun e_ => (Kd.R_ne HO_312000.out BK311.out (by decide)) e_) e_) (fun e_ => (fun e_ => (Kd.R_ne HO_312001.out BK311.out (by decide)) e_) e_))); have n10_ := Aside0.mk (hb); clear HO_297000; clear HO_297001; clear HO_304000; clear HO_304001; clear HO_312000; clear HO_312001; clear BK281; clear BK296; clear BK303; clear BK311; clear HB; have HO_297000 := n0_; have HO_297001 := n1_; have HO_304000 := n2_; have HO_304001 := n3_; have HO_312000 := n4_; have HO_312001 := n5_; have BK281 := n6_; have BK296 := n7_; have BK303 := n8_; have BK311 := n9_; have HB := n10_; clear n0_ n1_ n2_ n3_ n4_ n5_ n6_ n7_ n8_ n9_ n10_; (try clear hb); (try clear hkp); (try clear hy0); (try clear hy1); have hcz103_0 : w102.cell? ⟨gb311, 0, none⟩ = some (.slice Ao35 t304.length co35) := (blk_cell BK311.out 0).trans rfl; have hcz103_1 : w102.cell? ⟨gb311, 1, none⟩ = some (.slice Ao40 t307.length co40) := (blk_cell BK311.out 1).trans rfl; have hfz103_0 := blk_frozen BK311.out 0; have hfz103_1 := blk_frozen BK311.out 1) | ((with_reducible refine gate_callee (f := 44) rfl ?_); refine goesL_ (some 67) rfl rfl Try.func44 (by kernel_rfl) rfl #[.agg #[.slice Ao35 t325.length co35, .slice Ao40 t326.length co40], .int .i64 1] rfl (by (try simp only [List.map_toArray, List.map_cons, List.map_nil]); first | done | (rw [show t325.length = t304.length from (rR_ HO_312000.out).1.symm, show t326.length = t307.length from (rR_ HO_312001.out).1.symm] <;> rfl) | rfl | (simp only [List.length_drop, List.length_take]; rfl)) ?_; (with_reducible refine (laws_heldHouse.calls kj63 _ _ t325 _ _ t326 1 t327 _ ?side1 ?side2 ?side3 ?side4 A96.out).mono ?_); (case side1 => repeat (first | exact (rR_ HO_312000.out).2.2 | (with_reducible refine Kd.C_alloc ?_ _) | (with_reducible refine Kd.C_drewN ?_ _) | (with_reducible refine Kd.C_drew ?_))); (case side2 => rw [show t325.length = t304.length from (rR_ HO_312000.out).1.symm]; exact (rR_ HO_312000.out).2.1); (case side3 => repeat (first | exact (rR_ HO_312001.out).2.2 | (with_reducible refine Kd.C_alloc ?_ _) | (with_reducible refine Kd.C_drewN ?_ _) | (with_reducible refine Kd.C_drew ?_))); (case side4 => rw [show t326.length = t307.length from (rR_ HO_312001.out).1.symm]; exact (rR_ HO_312001.out).2.1); rintro e w104 ⟨rfl, hb⟩; refine ⟨_, rfl, ?_⟩; have n0_ := Aside0.mk (rB_ (by (with_reducible repeat (first | apply rA_ | apply rN_ | apply rD_)); exact HO_297000.out) hb); have n1_ := Aside0.mk (rB_ (by (with_reducible repeat (first | apply rA_ | apply rN_ | apply rD_)); exact HO_297001.out) hb); have n2_ := Aside0.mk (rB_ (by (with_reducible repeat (first | apply rA_ | apply rN_ | apply rD_)); exact HO_304000.out) hb); have n3_ := Aside0.mk (rB_ (by (with_reducible repeat (first | apply rA_ | apply rN_ | apply rD_)); exact HO_304001.out) hb); have n4_ := Aside0.mk (rB_ (by (with_reducible repeat (first | apply rA_ | apply rN_ | apply rD_)); exact HO_312000.out) hb); have n5_ := Aside0.mk (rB_ (by (with_reducible repeat (first | apply rA_ | apply rN_ | apply rD_)); exact HO_312001.out) hb); have n6_ := Aside0.mk (blk_below (g := gb281) (o := .cells #[.slice A0_0 l0_0.length c0_0, .slice A0_1 l0_1.length c0_1] 24 (0, 0)) (by (with_reducible repeat (first | refine kN_ ?_ _ | refine kD_ ?_ | refine kA_ ?_ _)); exact BK281.out) hb); have n7_ := Aside0.mk (blk_below (g := gb296) (o := .cells #[.slice Ao21 t289.length co21, .slice Ao24 t292.length co24] 27 (0, 0)) (by (with_reducible repeat (first | refine kN_ ?_ _ | refine kD_ ?_ | refine kA_ ?_ _)); exact BK296.out) hb); have n8_ := Aside0.mk (blk_below (g := gb303) (o := .cells #[.slice Ao28 t321.length co28, .slice Ao32 t322.length co32] 27 (0, 0)) (by (with_reducible repeat (first | refine kN_ ?_ _ | refine kD_ ?_ | refine kA_ ?_ _)); exact BK303.out) hb); have n9_ := Aside0.mk (blk_below (g := gb311) (o := .cells #[.slice Ao35 t304.length co35, .slice Ao40 t307.length co40] 27 (0, 0)) (by (with_reducible repeat (first | refine kN_ ?_ _ | refine kD_ ?_ | refine kA_ ?_ _)); exact BK311.out) hb); have n10_ := Aside0.mk (below_step (by repeat (first | (with_reducible first | exact HB.out | apply bA_ | apply bN_ | apply bD_ | refine bS_ ?_ GE281.out | refine bS_ ?_ GE296.out | refine bS_ ?_ GE303.out | refine bS_ ?_ GE311.out) | exact HB.out)) hb); clear HO_297000; clear HO_297001; clear HO_304000; clear HO_304001; clear HO_312000; clear HO_312001; clear BK281; clear BK296; clear BK303; clear BK311; clear HB; have HO_297000 := n0_; have HO_297001 := n1_; have HO_304000 := n2_; have HO_304001 := n3_; have HO_312000 := n4_; have HO_312001 := n5_; have BK281 := n6_; have BK296 := n7_; have BK303 := n8_; have BK311 := n9_; have HB := n10_; clear n0_ n1_ n2_ n3_ n4_ n5_ n6_ n7_ n8_ n9_ n10_; (try clear hb); (try clear hb2); (try clear hk); (try clear hi)))
                    go_ret
                    exact ⟨by first | rfl | (simp [errW_none, errW_some] <;> rfl) | (simp [*, errW_none, errW_some] <;> rfl), by repeat (first | (with_reducible first | exact HB.out | apply bA_ | apply bN_ | apply bD_ | refine bS_ ?_ GE281.out | refine bS_ ?_ GE296.out | refine bS_ ?_ GE303.out | refine bS_ ?_ GE311.out) | exact HB.out)⟩
                  · rw [if_neg c97] at H
                    have c97b0 : decide (t327 < 0) = false := decide_eq_false c97
                    clear c97
                    by_cases c105 : t327 = t324
                    · rw [if_pos c105] at H
                      have c105b0 : (t327 == t324) = true := beq_iff_eq.mpr c105
                      have c105b1 : (t327 != t324) = false := bne_eq_false_iff_eq.mpr c105
                      clear c105
                      replace H := Option.bind_eq_some_iff.mp H
                      obtain ⟨⟨t328, t331⟩, A1060, H⟩ := H
                      replace H : ((impl_DropFloor.f kj63 t328 t331).bind fun bt334 => ((laws_eqHouse.f kj63 bt334.1 bt334.2.1 t289 t292).bind fun t342 => (if t342 = true then (laws_FnExactDropFloor.j2 kj63 t324 (bt334.2.2 != t295) t325 t326) else (laws_FnExactDropFloor.j2 kj63 t324 true t325 t326)))) = some r := H
                      have A106 := Aside0.mk A1060
                      clear A1060
                      replace H := Option.bind_eq_some_iff.mp H
                      obtain ⟨⟨t334, t337, t340⟩, A1070, H⟩ := H
                      replace H : ((laws_eqHouse.f kj63 t334 t337 t289 t292).bind fun t342 => (if t342 = true then (laws_FnExactDropFloor.j2 kj63 t324 (t340 != t295) t325 t326) else (laws_FnExactDropFloor.j2 kj63 t324 true t325 t326))) = some r := H
                      have A107 := Aside0.mk A1070
                      clear A1070
                      have HC108 := Aside0.mk H
                      clear H
                      have hnb109 := NB311_281.out
                      have hnc109 := NB281_311.out
                      have hnb110 := NB311_296.out
                      have hnc110 := NB296_311.out
                      have hnb111 := NB311_303.out
                      have hnc111 := NB303_311.out
                      have hcz112_0 : wc.cell? ⟨gb311, 0, none⟩ = some (.slice Ao35 t304.length co35) := (blk_cell BK311.out 0).trans rfl
                      have hcz112_1 : wc.cell? ⟨gb311, 1, none⟩ = some (.slice Ao40 t307.length co40) := (blk_cell BK311.out 1).trans rfl
                      have hfz112_0 := blk_frozen BK311.out 0
                      have hfz112_1 := blk_frozen BK311.out 1
                      go_upto_region 25 with (first | ((with_reducible refine gate_callee (f := 39) rfl ?_); refine goesL_ (some 64) rfl rfl Try.func39 (by kernel_rfl) rfl #[.agg #[.slice Ao35 t304.length co35, .slice Ao40 t307.length co40], .int .i64 1] rfl (by (try simp only [List.map_toArray, List.map_cons, List.map_nil]); first | done | rfl | (simp only [List.length_drop, List.length_take]; rfl)) ?_; (with_reducible refine (laws_markHouse.calls kj63 (fun k_ => some k_ = (.slice Ao35 t304.length co35 : Value).ownBlock) (.slice Ao35 t304.length co35) t304 (fun k_ => some k_ = (.slice Ao40 t307.length co40 : Value).ownBlock) (.slice Ao40 t307.length co40) t307 1 t324 t325 t326 w _ ?side1 ?side2 ?side3 ?side4 ?side5 A95.out).mono ?_); (case side1 => repeat (first | (with_reducible first | exact HB.out | apply bA_ | apply bN_ | apply bD_ | refine bS_ ?_ GE281.out | refine bS_ ?_ GE296.out | refine bS_ ?_ GE303.out | refine bS_ ?_ GE311.out) | exact HB.out)); (case side2 => exact Kd.R_tight rfl HO_312000.out); (case side3 => exact fun k_ e_ => (HO_312000.out.1 k_ e_.symm).2.2.2.2); (case side4 => exact Kd.R_tight rfl HO_312001.out); (case side5 => exact fun k_ e_ => (HO_312001.out.1 k_ e_.symm).2.2.2.2); rintro e w113 ⟨rfl, hy0, hy1, hb, hkp⟩; refine ⟨_, rfl, ?_⟩; have n0_ := Aside0.mk (rM_ (ok' := fun k_ => some k_ ≠ (.slice Ao24 t292.length co24 : Value).ownBlock ∧ some k_ ≠ (.slice Ao28 t321.length co28 : Value).ownBlock ∧ some k_ ≠ (.slice Ao32 t322.length co32 : Value).ownBlock ∧ some k_ ≠ (.slice Ao35 t304.length co35 : Value).ownBlock ∧ some k_ ≠ (.slice Ao40 t307.length co40 : Value).ownBlock) (Kd.R_keptB (HO_297000.out) hkp (fun k_ hk_ hs_ => Or.elim hs_ (fun e_ => (hk_.2.2.2.1) e_) (fun e_ => (hk_.2.2.2.2) e_))) (fun k_ hk_ => ⟨hk_.1.1, hk_.1.2.1, hk_.1.2.2.1, hk_.1.2.2.2.1, hk_.1.2.2.2.2⟩)); have n1_ := Aside0.mk (rM_ (ok' := fun k_ => some k_ ≠ (.slice Ao21 t289.length co21 : Value).ownBlock ∧ some k_ ≠ (.slice Ao28 t321.length co28 : Value).ownBlock ∧ some k_ ≠ (.slice Ao32 t322.length co32 : Value).ownBlock ∧ some k_ ≠ (.slice Ao35 t304.length co35 : Value).ownBlock ∧ some k_ ≠ (.slice Ao40 t307.length co40 : Value).ownBlock) (Kd.R_keptB (HO_297001.out) hkp (fun k_ hk_ hs_ => Or.elim hs_ (fun e_ => (hk_.2.2.2.1) e_) (fun e_ => (hk_.2.2.2.2) e_))) (fun k_ hk_ => ⟨hk_.1.1, hk_.1.2.1, hk_.1.2.2.1, hk_.1.2.2.2.1, hk_.1.2.2.2.2⟩)); have n2_ := Aside0.mk (rM_ (ok' := fun k_ => some k_ ≠ (.slice Ao21 t289.length co21 : Value).ownBlock ∧ some k_ ≠ (.slice Ao24 t292.length co24 : Value).ownBlock ∧ some k_ ≠ (.slice Ao32 t322.length co32 : Value).ownBlock ∧ some k_ ≠ (.slice Ao35 t304.length co35 : Value).ownBlock ∧ some k_ ≠ (.slice Ao40 t307.length co40 : Value).ownBlock) (Kd.R_keptB (HO_304000.out) hkp (fun k_ hk_ hs_ => Or.elim hs_ (fun e_ => (hk_.2.2.2.1) e_) (fun e_ => (hk_.2.2.2.2) e_))) (fun k_ hk_ => ⟨hk_.1.1, hk_.1.2.1, hk_.1.2.2.1, hk_.1.2.2.2.1, hk_.1.2.2.2.2⟩)); have n3_ := Aside0.mk (rM_ (ok' := fun k_ => some k_ ≠ (.slice Ao21 t289.length co21 : Value).ownBlock ∧ some k_ ≠ (.slice Ao24 t292.length co24 : Value).ownBlock ∧ some k_ ≠ (.slice Ao28 t321.length co28 : Value).ownBlock ∧ some k_ ≠ (.slice Ao35 t304.length co35 : Value).ownBlock ∧ some k_ ≠ (.slice Ao40 t307.length co40 : Value).ownBlock) (Kd.R_keptB (HO_304001.out) hkp (fun k_ hk_ hs_ => Or.elim hs_ (fun e_ => (hk_.2.2.2.1) e_) (fun e_ => (hk_.2.2.2.2) e_))) (fun k_ hk_ => ⟨hk_.1.1, hk_.1.2.1, hk_.1.2.2.1, hk_.1.2.2.2.1, hk_.1.2.2.2.2⟩)); have n4_ := Aside0.mk (Kd.R_reok rfl hy0 (fun k_ e_ => HO_312000.out.1 k_ e_)); have n5_ := Aside0.mk (Kd.R_reok rfl hy1 (fun k_ e_ => HO_312001.out.1 k_ e_)); have n6_ := Aside0.mk (blk_kept (by (with_reducible repeat (first | refine kN_ ?_ _ | refine kD_ ?_ | refine kA_ ?_ _)); exact BK281.out) hkp (fun hs_ => Or.elim hs_ (fun e_ => (fun e_ => (Kd.R_ne HO_312000.out BK281.out (by decide)) e_) e_) (fun e_ => (fun e_ => (Kd.R_ne HO_312001.out BK281.out (by decide)) e_) e_))); have n7_ := Aside0.mk (blk_kept (by (with_reducible repeat (first | refine kN_ ?_ _ | refine kD_ ?_ | refine kA_ ?_ _)); exact BK296.out) hkp (fun hs_ => Or.elim hs_ (fun e_ => (fun e_ => (Kd.R_ne HO_312000.out BK296.out (by decide)) e_) e_) (fun e_ => (fun e_ => (Kd.R_ne HO_312001.out BK296.out (by decide)) e_) e_))); have n8_ := Aside0.mk (blk_kept (by (with_reducible repeat (first | refine kN_ ?_ _ | refine kD_ ?_ | refine kA_ ?_ _)); exact BK303.out) hkp (fun hs_ => Or.elim hs_ (fun e_ => (fun e_ => (Kd.R_ne HO_312000.out BK303.out (by decide)) e_) e_) (fun e_ => (fun e_ => (Kd.R_ne HO_312001.out BK303.out (by decide)) e_) e_))); have n9_ := Aside0.mk (blk_kept (by (with_reducible repeat (first | refine kN_ ?_ _ | refine kD_ ?_ | refine kA_ ?_ _)); exact BK311.out) hkp (fun hs_ => Or.elim hs_ (fun e_ => (fun e_ => (Kd.R_ne HO_312000.out BK311.out (by decide)) e_) e_) (fun e_ => (fun e_ => (Kd.R_ne HO_312001.out BK311.out (by decide)) e_) e_))); have n10_ := Aside0.mk (hb); clear HO_297000; clear HO_297001; clear HO_304000; clear HO_304001; clear HO_312000; clear HO_312001; clear BK281; clear BK296; clear BK303; clear BK311; clear HB; have HO_297000 := n0_; have HO_297001 := n1_; have HO_304000 := n2_; have HO_304001 := n3_; have HO_312000 := n4_; have HO_312001 := n5_; have BK281 := n6_; have BK296 := n7_; have BK303 := n8_; have BK311 := n9_; have HB := n10_; clear n0_ n1_ n2_ n3_ n4_ n5_ n6_ n7_ n8_ n9_ n10_; (try clear hb); (try clear hkp); (try clear hy0); (try clear hy1); have hcz114_0 : w113.cell? ⟨gb311, 0, none⟩ = some (.slice Ao35 t304.length co35) := (blk_cell BK311.out 0).trans rfl; have hcz114_1 : w113.cell? ⟨gb311, 1, none⟩ = some (.slice Ao40 t307.length co40) := (blk_cell BK311.out 1).trans rfl; have hfz114_0 := blk_frozen BK311.out 0; have hfz114_1 := blk_frozen BK311.out 1) | ((with_reducible refine gate_callee (f := 44) rfl ?_); refine goesL_ (some 67) rfl rfl Try.func44 (by kernel_rfl) rfl #[.agg #[.slice Ao35 t325.length co35, .slice Ao40 t326.length co40], .int .i64 1] rfl (by (try simp only [List.map_toArray, List.map_cons, List.map_nil]); first | done | (rw [show t325.length = t304.length from (rR_ HO_312000.out).1.symm, show t326.length = t307.length from (rR_ HO_312001.out).1.symm] <;> rfl) | rfl | (simp only [List.length_drop, List.length_take]; rfl)) ?_; (with_reducible refine (laws_heldHouse.calls kj63 _ _ t325 _ _ t326 1 t327 _ ?side1 ?side2 ?side3 ?side4 A96.out).mono ?_); (case side1 => repeat (first | exact (rR_ HO_312000.out).2.2 | (with_reducible refine Kd.C_alloc ?_ _) | (with_reducible refine Kd.C_drewN ?_ _) | (with_reducible refine Kd.C_drew ?_))); (case side2 => rw [show t325.length = t304.length from (rR_ HO_312000.out).1.symm]; exact (rR_ HO_312000.out).2.1); (case side3 => repeat (first | exact (rR_ HO_312001.out).2.2 | (with_reducible refine Kd.C_alloc ?_ _) | (with_reducible refine Kd.C_drewN ?_ _) | (with_reducible refine Kd.C_drew ?_))); (case side4 => rw [show t326.length = t307.length from (rR_ HO_312001.out).1.symm]; exact (rR_ HO_312001.out).2.1); rintro e w115 ⟨rfl, hb⟩; refine ⟨_, rfl, ?_⟩; have n0_ := Aside0.mk (rB_ (by (with_reducible repeat (first | apply rA_ | apply rN_ | apply rD_)); exact HO_297000.out) hb); have n1_ := Aside0.mk (rB_ (by (with_reducible repeat (first | apply rA_ | apply rN_ | apply rD_)); exact HO_297001.out) hb); have n2_ := Aside0.mk (rB_ (by (with_reducible repeat (first | apply rA_ | apply rN_ | apply rD_)); exact HO_304000.out) hb); have n3_ := Aside0.mk (rB_ (by (with_reducible repeat (first | apply rA_ | apply rN_ | apply rD_)); exact HO_304001.out) hb); have n4_ := Aside0.mk (rB_ (by (with_reducible repeat (first | apply rA_ | apply rN_ | apply rD_)); exact HO_312000.out) hb); have n5_ := Aside0.mk (rB_ (by (with_reducible repeat (first | apply rA_ | apply rN_ | apply rD_)); exact HO_312001.out) hb); have n6_ := Aside0.mk (blk_below (g := gb281) (o := .cells #[.slice A0_0 l0_0.length c0_0, .slice A0_1 l0_1.length c0_1] 24 (0, 0)) (by (with_reducible repeat (first | refine kN_ ?_ _ | refine kD_ ?_ | refine kA_ ?_ _)); exact BK281.out) hb); have n7_ := Aside0.mk (blk_below (g := gb296) (o := .cells #[.slice Ao21 t289.length co21, .slice Ao24 t292.length co24] 27 (0, 0)) (by (with_reducible repeat (first | refine kN_ ?_ _ | refine kD_ ?_ | refine kA_ ?_ _)); exact BK296.out) hb); have n8_ := Aside0.mk (blk_below (g := gb303) (o := .cells #[.slice Ao28 t321.length co28, .slice Ao32 t322.length co32] 27 (0, 0)) (by (with_reducible repeat (first | refine kN_ ?_ _ | refine kD_ ?_ | refine kA_ ?_ _)); exact BK303.out) hb); have n9_ := Aside0.mk (blk_below (g := gb311) (o := .cells #[.slice Ao35 t304.length co35, .slice Ao40 t307.length co40] 27 (0, 0)) (by (with_reducible repeat (first | refine kN_ ?_ _ | refine kD_ ?_ | refine kA_ ?_ _)); exact BK311.out) hb); have n10_ := Aside0.mk (below_step (by repeat (first | (with_reducible first | exact HB.out | apply bA_ | apply bN_ | apply bD_ | refine bS_ ?_ GE281.out | refine bS_ ?_ GE296.out | refine bS_ ?_ GE303.out | refine bS_ ?_ GE311.out) | exact HB.out)) hb); clear HO_297000; clear HO_297001; clear HO_304000; clear HO_304001; clear HO_312000; clear HO_312001; clear BK281; clear BK296; clear BK303; clear BK311; clear HB; have HO_297000 := n0_; have HO_297001 := n1_; have HO_304000 := n2_; have HO_304001 := n3_; have HO_312000 := n4_; have HO_312001 := n5_; have BK281 := n6_; have BK296 := n7_; have BK303 := n8_; have BK311 := n9_; have HB := n10_; clear n0_ n1_ n2_ n3_ n4_ n5_ n6_ n7_ n8_ n9_ n10_; (try clear hb); (try clear hb2); (try clear hk); (try clear hi); have hnb116 := NB281_296.out; have hnc116 := NB296_281.out; have hnb117 := NB281_303.out; have hnc117 := NB303_281.out; have hcz118_0 : w115.cell? ⟨gb281, 0, none⟩ = some (.slice A0_0 l0_0.length c0_0) := (blk_cell BK281.out 0).trans rfl; have hcz118_1 : w115.cell? ⟨gb281, 1, none⟩ = some (.slice A0_1 l0_1.length c0_1) := (blk_cell BK281.out 1).trans rfl; have hfz118_0 := blk_frozen BK281.out 0; have hfz118_1 := blk_frozen BK281.out 1) | ((with_reducible refine gate_callee (f := 17) rfl ?_); refine goesL_ (some 75) rfl rfl Try.func17 (by kernel_rfl) rfl #[.agg #[.slice A0_0 l0_0.length c0_0, .slice A0_1 l0_1.length c0_1]] rfl (by (try simp only [List.map_toArray, List.map_cons, List.map_nil]); first | done | rfl | (simp only [List.length_drop, List.length_take]; rfl)) ?_; (with_reducible refine (laws_toHouse.calls kj63 _ _ l0_0 _ _ l0_1 t328 t331 _ ?side1 ?side2 ?side3 ?side4 A106.out).mono ?_); (case side1 => repeat (first | exact (Kd.C_below HR0_0.out HB.out) | (with_reducible refine Kd.C_alloc ?_ _) | (with_reducible refine Kd.C_drewN ?_ _) | (with_reducible refine Kd.C_drew ?_))); (case side2 => exact HC0_0.out); (case side3 => repeat (first | exact (Kd.C_below HR0_1.out HB.out) | (with_reducible refine Kd.C_alloc ?_ _) | (with_reducible refine Kd.C_drewN ?_ _) | (with_reducible refine Kd.C_drew ?_))); (case side4 => exact HC0_1.out); rintro e w119 ⟨v329, v332, rfl, ho0, ho1, hb⟩; refine ⟨_, rfl, ?_⟩; have n0_ := Aside0.mk (rM_ (Kd.R_told (Kd.R_told (Kd.R_old (by (with_reducible repeat (first | apply rA_ | apply rN_ | apply rD_)); exact HO_297000.out) hb) (Kd.R_base ho0)) (Kd.R_base ho1)) (fun _ h_ => h_.1)); have n1_ := Aside0.mk (rM_ (Kd.R_told (Kd.R_told (Kd.R_old (by (with_reducible repeat (first | apply rA_ | apply rN_ | apply rD_)); exact HO_297001.out) hb) (Kd.R_base ho0)) (Kd.R_base ho1)) (fun _ h_ => h_.1)); have n2_ := Aside0.mk (rM_ (Kd.R_told (Kd.R_told (Kd.R_old (by (with_reducible repeat (first | apply rA_ | apply rN_ | apply rD_)); exact HO_304000.out) hb) (Kd.R_base ho0)) (Kd.R_base ho1)) (fun _ h_ => h_.1)); have n3_ := Aside0.mk (rM_ (Kd.R_told (Kd.R_told (Kd.R_old (by (with_reducible repeat (first | apply rA_ | apply rN_ | apply rD_)); exact HO_304001.out) hb) (Kd.R_base ho0)) (Kd.R_base ho1)) (fun _ h_ => h_.1)); have n4_ := Aside0.mk (rM_ (Kd.R_told (Kd.R_told (Kd.R_old (by (with_reducible repeat (first | apply rA_ | apply rN_ | apply rD_)); exact HO_312000.out) hb) (Kd.R_base ho0)) (Kd.R_base ho1)) (fun _ h_ => h_.1)); have n5_ := Aside0.mk (rM_ (Kd.R_told (Kd.R_told (Kd.R_old (by (with_reducible repeat (first | apply rA_ | apply rN_ | apply rD_)); exact HO_312001.out) hb) (Kd.R_base ho0)) (Kd.R_base ho1)) (fun _ h_ => h_.1)); have n6_ := Aside0.mk (Kd.R_lower (Kd.R_new' (Kd.R_new' (Kd.R_new' (Kd.R_new' (Kd.R_new' (Kd.R_new' ho0 (Kd.R_lt (by (with_reducible repeat (first | apply rA_ | apply rN_ | apply rD_)); exact HO_297000.out))) (Kd.R_lt (by (with_reducible repeat (first | apply rA_ | apply rN_ | apply rD_)); exact HO_297001.out))) (Kd.R_lt (by (with_reducible repeat (first | apply rA_ | apply rN_ | apply rD_)); exact HO_304000.out))) (Kd.R_lt (by (with_reducible repeat (first | apply rA_ | apply rN_ | apply rD_)); exact HO_304001.out))) (Kd.R_lt (by (with_reducible repeat (first | apply rA_ | apply rN_ | apply rD_)); exact HO_312000.out))) (Kd.R_lt (by (with_reducible repeat (first | apply rA_ | apply rN_ | apply rD_)); exact HO_312001.out))) (below_size (by repeat (first | (with_reducible first | exact HB.out | apply bA_ | apply bN_ | apply bD_ | refine bS_ ?_ GE281.out | refine bS_ ?_ GE296.out | refine bS_ ?_ GE303.out | refine bS_ ?_ GE311.out) | exact HB.out)))); have n7_ := Aside0.mk (Kd.R_lower (Kd.R_new' (Kd.R_new' (Kd.R_new' (Kd.R_new' (Kd.R_new' (Kd.R_new' ho1 (Kd.R_lt (by (with_reducible repeat (first | apply rA_ | apply rN_ | apply rD_)); exact HO_297000.out))) (Kd.R_lt (by (with_reducible repeat (first | apply rA_ | apply rN_ | apply rD_)); exact HO_297001.out))) (Kd.R_lt (by (with_reducible repeat (first | apply rA_ | apply rN_ | apply rD_)); exact HO_304000.out))) (Kd.R_lt (by (with_reducible repeat (first | apply rA_ | apply rN_ | apply rD_)); exact HO_304001.out))) (Kd.R_lt (by (with_reducible repeat (first | apply rA_ | apply rN_ | apply rD_)); exact HO_312000.out))) (Kd.R_lt (by (with_reducible repeat (first | apply rA_ | apply rN_ | apply rD_)); exact HO_312001.out))) (below_size (by repeat (first | (with_reducible first | exact HB.out | apply bA_ | apply bN_ | apply bD_ | refine bS_ ?_ GE281.out | refine bS_ ?_ GE296.out | refine bS_ ?_ GE303.out | refine bS_ ?_ GE311.out) | exact HB.out)))); have n8_ := Aside0.mk (blk_below (g := gb281) (o := .cells #[.slice A0_0 l0_0.length c0_0, .slice A0_1 l0_1.length c0_1] 24 (0, 0)) (by (with_reducible repeat (first | refine kN_ ?_ _ | refine kD_ ?_ | refine kA_ ?_ _)); exact BK281.out) hb); have n9_ := Aside0.mk (blk_below (g := gb296) (o := .cells #[.slice Ao21 t289.length co21, .slice Ao24 t292.length co24] 27 (0, 0)) (by (with_reducible repeat (first | refine kN_ ?_ _ | refine kD_ ?_ | refine kA_ ?_ _)); exact BK296.out) hb); have n10_ := Aside0.mk (blk_below (g := gb303) (o := .cells #[.slice Ao28 t321.length co28, .slice Ao32 t322.length co32] 27 (0, 0)) (by (with_reducible repeat (first | refine kN_ ?_ _ | refine kD_ ?_ | refine kA_ ?_ _)); exact BK303.out) hb); have n11_ := Aside0.mk (blk_below (g := gb311) (o := .cells #[.slice Ao35 t304.length co35, .slice Ao40 t307.length co40] 27 (0, 0)) (by (with_reducible repeat (first | refine kN_ ?_ _ | refine kD_ ?_ | refine kA_ ?_ _)); exact BK311.out) hb); have n12_ := Aside0.mk (below_step (by repeat (first | (with_reducible first | exact HB.out | apply bA_ | apply bN_ | apply bD_ | refine bS_ ?_ GE281.out | refine bS_ ?_ GE296.out | refine bS_ ?_ GE303.out | refine bS_ ?_ GE311.out) | exact HB.out)) hb); clear HO_297000; clear HO_297001; clear HO_304000; clear HO_304001; clear HO_312000; clear HO_312001; clear BK281; clear BK296; clear BK303; clear BK311; clear HB; have HO_297000 := n0_; have HO_297001 := n1_; have HO_304000 := n2_; have HO_304001 := n3_; have HO_312000 := n4_; have HO_312001 := n5_; have HO330 := n6_; have HO333 := n7_; have BK281 := n8_; have BK296 := n9_; have BK303 := n10_; have BK311 := n11_; have HB := n12_; clear n0_ n1_ n2_ n3_ n4_ n5_ n6_ n7_ n8_ n9_ n10_ n11_ n12_; (try clear hb); (try clear hb2); (try clear hk); (try clear hi); (try clear ho0); (try clear ho1); obtain ⟨Ao120, co120, eo120⟩ := Kd.R_slice HO330.out; subst eo120; obtain ⟨Ao121, co121, eo121⟩ := Kd.R_slice HO333.out; subst eo121) | ((with_reducible refine gate_callee (f := 46) rfl ?_); refine goesL_ (some 76) rfl rfl Try.func46 (by kernel_rfl) rfl #[.agg #[.slice Ao120 t328.length co120, .slice Ao121 t331.length co121]] rfl (by (try simp only [List.map_toArray, List.map_cons, List.map_nil]); first | done | rfl | (simp only [List.length_drop, List.length_take]; rfl)) ?_; (with_reducible refine (impl_DropFloor.calls kj63 _ _ t328 _ _ t331 t334 t337 t340 _ ?side1 ?side2 ?side3 ?side4 A107.out).mono ?_); (case side1 => repeat (first | exact (rR_ HO330.out).2.2 | (with_reducible refine Kd.C_alloc ?_ _) | (with_reducible refine Kd.C_drewN ?_ _) | (with_reducible refine Kd.C_drew ?_))); (case side2 => exact (rR_ HO330.out).2.1); (case side3 => repeat (first | exact (rR_ HO333.out).2.2 | (with_reducible refine Kd.C_alloc ?_ _) | (with_reducible refine Kd.C_drewN ?_ _) | (with_reducible refine Kd.C_drew ?_))); (case side4 => exact (rR_ HO333.out).2.1); rintro e w122 ⟨v335, v338, rfl, ho0, ho1, hb⟩; refine ⟨_, rfl, ?_⟩; have n0_ := Aside0.mk (rM_ (Kd.R_told (Kd.R_told (Kd.R_old (by (with_reducible repeat (first | apply rA_ | apply rN_ | apply rD_)); exact HO_297000.out) hb) (Kd.R_base ho0)) (Kd.R_base ho1)) (fun _ h_ => h_.1)); have n1_ := Aside0.mk (rM_ (Kd.R_told (Kd.R_told (Kd.R_old (by (with_reducible repeat (first | apply rA_ | apply rN_ | apply rD_)); exact HO_297001.out) hb) (Kd.R_base ho0)) (Kd.R_base ho1)) (fun _ h_ => h_.1)); have n2_ := Aside0.mk (rM_ (Kd.R_told (Kd.R_told (Kd.R_old (by (with_reducible repeat (first | apply rA_ | apply rN_ | apply rD_)); exact HO_304000.out) hb) (Kd.R_base ho0)) (Kd.R_base ho1)) (fun _ h_ => h_.1)); have n3_ := Aside0.mk (rM_ (Kd.R_told (Kd.R_told (Kd.R_old (by (with_reducible repeat (first | apply rA_ | apply rN_ | apply rD_)); exact HO_304001.out) hb) (Kd.R_base ho0)) (Kd.R_base ho1)) (fun _ h_ => h_.1)); have n4_ := Aside0.mk (rM_ (Kd.R_told (Kd.R_told (Kd.R_old (by (with_reducible repeat (first | apply rA_ | apply rN_ | apply rD_)); exact HO_312000.out) hb) (Kd.R_base ho0)) (Kd.R_base ho1)) (fun _ h_ => h_.1)); have n5_ := Aside0.mk (rM_ (Kd.R_told (Kd.R_told (Kd.R_old (by (with_reducible repeat (first | apply rA_ | apply rN_ | apply rD_)); exact HO_312001.out) hb) (Kd.R_base ho0)) (Kd.R_base ho1)) (fun _ h_ => h_.1)); have n6_ := Aside0.mk (rM_ (Kd.R_told (Kd.R_told (Kd.R_old (by (with_reducible repeat (first | apply rA_ | apply rN_ | apply rD_)); exact HO330.out) hb) (Kd.R_base ho0)) (Kd.R_base ho1)) (fun _ h_ => h_.1)); have n7_ := Aside0.mk (rM_ (Kd.R_told (Kd.R_told (Kd.R_old (by (with_reducible repeat (first | apply rA_ | apply rN_ | apply rD_)); exact HO333.out) hb) (Kd.R_base ho0)) (Kd.R_base ho1)) (fun _ h_ => h_.1)); have n8_ := Aside0.mk (Kd.R_lower (Kd.R_new' (Kd.R_new' (Kd.R_new' (Kd.R_new' (Kd.R_new' (Kd.R_new' (Kd.R_new' (Kd.R_new' ho0 (Kd.R_lt (by (with_reducible repeat (first | apply rA_ | apply rN_ | apply rD_)); exact HO_297000.out))) (Kd.R_lt (by (with_reducible repeat (first | apply rA_ | apply rN_ | apply rD_)); exact HO_297001.out))) (Kd.R_lt (by (with_reducible repeat (first | apply rA_ | apply rN_ | apply rD_)); exact HO_304000.out))) (Kd.R_lt (by (with_reducible repeat (first | apply rA_ | apply rN_ | apply rD_)); exact HO_304001.out))) (Kd.R_lt (by (with_reducible repeat (first | apply rA_ | apply rN_ | apply rD_)); exact HO_312000.out))) (Kd.R_lt (by (with_reducible repeat (first | apply rA_ | apply rN_ | apply rD_)); exact HO_312001.out))) (Kd.R_lt (by (with_reducible repeat (first | apply rA_ | apply rN_ | apply rD_)); exact HO330.out))) (Kd.R_lt (by (with_reducible repeat (first | apply rA_ | apply rN_ | apply rD_)); exact HO333.out))) (below_size (by repeat (first | (with_reducible first | exact HB.out | apply bA_ | apply bN_ | apply bD_ | refine bS_ ?_ GE281.out | refine bS_ ?_ GE296.out | refine bS_ ?_ GE303.out | refine bS_ ?_ GE311.out) | exact HB.out)))); have n9_ := Aside0.mk (Kd.R_lower (Kd.R_new' (Kd.R_new' (Kd.R_new' (Kd.R_new' (Kd.R_new' (Kd.R_new' (Kd.R_new' (Kd.R_new' ho1 (Kd.R_lt (by (with_reducible repeat (first | apply rA_ | apply rN_ | apply rD_)); exact HO_297000.out))) (Kd.R_lt (by (with_reducible repeat (first | apply rA_ | apply rN_ | apply rD_)); exact HO_297001.out))) (Kd.R_lt (by (with_reducible repeat (first | apply rA_ | apply rN_ | apply rD_)); exact HO_304000.out))) (Kd.R_lt (by (with_reducible repeat (first | apply rA_ | apply rN_ | apply rD_)); exact HO_304001.out))) (Kd.R_lt (by (with_reducible repeat (first | apply rA_ | apply rN_ | apply rD_)); exact HO_312000.out))) (Kd.R_lt (by (with_reducible repeat (first | apply rA_ | apply rN_ | apply rD_)); exact HO_312001.out))) (Kd.R_lt (by (with_reducible repeat (first | apply rA_ | apply rN_ | apply rD_)); exact HO330.out))) (Kd.R_lt (by (with_reducible repeat (first | apply rA_ | apply rN_ | apply rD_)); exact HO333.out))) (below_size (by repeat (first | (with_reducible first | exact HB.out | apply bA_ | apply bN_ | apply bD_ | refine bS_ ?_ GE281.out | refine bS_ ?_ GE296.out | refine bS_ ?_ GE303.out | refine bS_ ?_ GE311.out) | exact HB.out)))); have n10_ := Aside0.mk (blk_below (g := gb281) (o := .cells #[.slice A0_0 l0_0.length c0_0, .slice A0_1 l0_1.length c0_1] 24 (0, 0)) (by (with_reducible repeat (first | refine kN_ ?_ _ | refine kD_ ?_ | refine kA_ ?_ _)); exact BK281.out) hb); have n11_ := Aside0.mk (blk_below (g := gb296) (o := .cells #[.slice Ao21 t289.length co21, .slice Ao24 t292.length co24] 27 (0, 0)) (by (with_reducible repeat (first | refine kN_ ?_ _ | refine kD_ ?_ | refine kA_ ?_ _)); exact BK296.out) hb); have n12_ := Aside0.mk (blk_below (g := gb303) (o := .cells #[.slice Ao28 t321.length co28, .slice Ao32 t322.length co32] 27 (0, 0)) (by (with_reducible repeat (first | refine kN_ ?_ _ | refine kD_ ?_ | refine kA_ ?_ _)); exact BK303.out) hb); have n13_ := Aside0.mk (blk_below (g := gb311) (o := .cells #[.slice Ao35 t304.length co35, .slice Ao40 t307.length co40] 27 (0, 0)) (by (with_reducible repeat (first | refine kN_ ?_ _ | refine kD_ ?_ | refine kA_ ?_ _)); exact BK311.out) hb); have n14_ := Aside0.mk (below_step (by repeat (first | (with_reducible first | exact HB.out | apply bA_ | apply bN_ | apply bD_ | refine bS_ ?_ GE281.out | refine bS_ ?_ GE296.out | refine bS_ ?_ GE303.out | refine bS_ ?_ GE311.out) | exact HB.out)) hb); clear HO_297000; clear HO_297001; clear HO_304000; clear HO_304001; clear HO_312000; clear HO_312001; clear HO330; clear HO333; clear BK281; clear BK296; clear BK303; clear BK311; clear HB; have HO_297000 := n0_; have HO_297001 := n1_; have HO_304000 := n2_; have HO_304001 := n3_; have HO_312000 := n4_; have HO_312001 := n5_; have HO330 := n6_; have HO333 := n7_; have HO336 := n8_; have HO339 := n9_; have BK281 := n10_; have BK296 := n11_; have BK303 := n12_; have BK311 := n13_; have HB := n14_; clear n0_ n1_ n2_ n3_ n4_ n5_ n6_ n7_ n8_ n9_ n10_ n11_ n12_ n13_ n14_; (try clear hb); (try clear hb2); (try clear hk); (try clear hi); (try clear ho0); (try clear ho1)) | ((with_reducible refine gate_dst (N := 12) rfl ?_); refine box_event ?hg (N := 12) ?hd (cs := #[.slice none 0 0, .slice none 0 0]) (t := 27) ?hr ?_; (case hd => rfl); (case hg => rfl); (case hr => first | (go_simp; done) | (go_simp; rfl)); intro gb341 hg w123 hbox hb; have n0_ := Aside0.mk (rB_ (by (with_reducible repeat (first | apply rA_ | apply rN_ | apply rD_)); exact HO_297000.out) hb); have n1_ := Aside0.mk (rB_ (by (with_reducible repeat (first | apply rA_ | apply rN_ | apply rD_)); exact HO_297001.out) hb); have n2_ := Aside0.mk (rB_ (by (with_reducible repeat (first | apply rA_ | apply rN_ | apply rD_)); exact HO_304000.out) hb); have n3_ := Aside0.mk (rB_ (by (with_reducible repeat (first | apply rA_ | apply rN_ | apply rD_)); exact HO_304001.out) hb); have n4_ := Aside0.mk (rB_ (by (with_reducible repeat (first | apply rA_ | apply rN_ | apply rD_)); exact HO_312000.out) hb); have n5_ := Aside0.mk (rB_ (by (with_reducible repeat (first | apply rA_ | apply rN_ | apply rD_)); exact HO_312001.out) hb); have n6_ := Aside0.mk (rB_ (by (with_reducible repeat (first | apply rA_ | apply rN_ | apply rD_)); exact HO330.out) hb); have n7_ := Aside0.mk (rB_ (by (with_reducible repeat (first | apply rA_ | apply rN_ | apply rD_)); exact HO333.out) hb); have n8_ := Aside0.mk (rB_ (by (with_reducible repeat (first | apply rA_ | apply rN_ | apply rD_)); exact HO336.out) hb); have n9_ := Aside0.mk (rB_ (by (with_reducible repeat (first | apply rA_ | apply rN_ | apply rD_)); exact HO339.out) hb); have n10_ := Aside0.mk (blk_below (g := gb281) (o := .cells #[.slice A0_0 l0_0.length c0_0, .slice A0_1 l0_1.length c0_1] 24 (0, 0)) (by (with_reducible repeat (first | refine kN_ ?_ _ | refine kD_ ?_ | refine kA_ ?_ _)); exact BK281.out) hb); have n11_ := Aside0.mk (blk_below (g := gb296) (o := .cells #[.slice Ao21 t289.length co21, .slice Ao24 t292.length co24] 27 (0, 0)) (by (with_reducible repeat (first | refine kN_ ?_ _ | refine kD_ ?_ | refine kA_ ?_ _)); exact BK296.out) hb); have n12_ := Aside0.mk (blk_below (g := gb303) (o := .cells #[.slice Ao28 t321.length co28, .slice Ao32 t322.length co32] 27 (0, 0)) (by (with_reducible repeat (first | refine kN_ ?_ _ | refine kD_ ?_ | refine kA_ ?_ _)); exact BK303.out) hb); have n13_ := Aside0.mk (blk_below (g := gb311) (o := .cells #[.slice Ao35 t304.length co35, .slice Ao40 t307.length co40] 27 (0, 0)) (by (with_reducible repeat (first | refine kN_ ?_ _ | refine kD_ ?_ | refine kA_ ?_ _)); exact BK311.out) hb); have n14_ := Aside0.mk (below_step (by repeat (first | (with_reducible first | exact HB.out | apply bA_ | apply bN_ | apply bD_ | refine bS_ ?_ GE281.out | refine bS_ ?_ GE296.out | refine bS_ ?_ GE303.out | refine bS_ ?_ GE311.out) | exact HB.out)) hb); have n15_ := Aside0.mk (hbox); have n16_ := Aside0.mk ((by rw [hg]; exact (below_size (by repeat (first | (with_reducible first | exact HB.out | apply bA_ | apply bN_ | apply bD_ | refine bS_ ?_ GE281.out | refine bS_ ?_ GE296.out | refine bS_ ?_ GE303.out | refine bS_ ?_ GE311.out) | exact HB.out))) : w.heap.size ≤ gb341)); have n17_ := Aside0.mk ((by rw [hg]; exact (below_size (by repeat (first | (with_reducible first | exact HB.out | apply bA_ | apply bN_ | apply bD_ | refine bS_ ?_ GE281.out | refine bS_ ?_ GE296.out | refine bS_ ?_ GE303.out | refine bS_ ?_ GE311.out) | exact HB.out))) : w.heap.size ≤ gb341)); have n18_ := Aside0.mk ((by rw [hg]; exact Nat.ne_of_lt (blk_lt (g := gb281) (o := .cells #[.slice A0_0 l0_0.length c0_0, .slice A0_1 l0_1.length c0_1] 24 (0, 0)) (by (with_reducible repeat (first | refine kN_ ?_ _ | refine kD_ ?_ | refine kA_ ?_ _)); exact BK281.out)) : gb281 ≠ gb341)); have n19_ := Aside0.mk ((by rw [hg]; exact Nat.ne_of_gt (blk_lt (g := gb281) (o := .cells #[.slice A0_0 l0_0.length c0_0, .slice A0_1 l0_1.length c0_1] 24 (0, 0)) (by (with_reducible repeat (first | refine kN_ ?_ _ | refine kD_ ?_ | refine kA_ ?_ _)); exact BK281.out)) : gb341 ≠ gb281)); have n20_ := Aside0.mk ((by rw [hg]; exact Nat.ne_of_lt (blk_lt (g := gb296) (o := .cells #[.slice Ao21 t289.length co21, .slice Ao24 t292.length co24] 27 (0, 0)) (by (with_reducible repeat (first | refine kN_ ?_ _ | refine kD_ ?_ | refine kA_ ?_ _)); exact BK296.out)) : gb296 ≠ gb341)); have n21_ := Aside0.mk ((by rw [hg]; exact Nat.ne_of_gt (blk_lt (g := gb296) (o := .cells #[.slice Ao21 t289.length co21, .slice Ao24 t292.length co24] 27 (0, 0)) (by (with_reducible repeat (first | refine kN_ ?_ _ | refine kD_ ?_ | refine kA_ ?_ _)); exact BK296.out)) : gb341 ≠ gb296)); have n22_ := Aside0.mk ((by rw [hg]; exact Nat.ne_of_lt (blk_lt (g := gb303) (o := .cells #[.slice Ao28 t321.length co28, .slice Ao32 t322.length co32] 27 (0, 0)) (by (with_reducible repeat (first | refine kN_ ?_ _ | refine kD_ ?_ | refine kA_ ?_ _)); exact BK303.out)) : gb303 ≠ gb341)); have n23_ := Aside0.mk ((by rw [hg]; exact Nat.ne_of_gt (blk_lt (g := gb303) (o := .cells #[.slice Ao28 t321.length co28, .slice Ao32 t322.length co32] 27 (0, 0)) (by (with_reducible repeat (first | refine kN_ ?_ _ | refine kD_ ?_ | refine kA_ ?_ _)); exact BK303.out)) : gb341 ≠ gb303)); have n24_ := Aside0.mk ((by rw [hg]; exact Nat.ne_of_lt (blk_lt (g := gb311) (o := .cells #[.slice Ao35 t304.length co35, .slice Ao40 t307.length co40] 27 (0, 0)) (by (with_reducible repeat (first | refine kN_ ?_ _ | refine kD_ ?_ | refine kA_ ?_ _)); exact BK311.out)) : gb311 ≠ gb341)); have n25_ := Aside0.mk ((by rw [hg]; exact Nat.ne_of_gt (blk_lt (g := gb311) (o := .cells #[.slice Ao35 t304.length co35, .slice Ao40 t307.length co40] 27 (0, 0)) (by (with_reducible repeat (first | refine kN_ ?_ _ | refine kD_ ?_ | refine kA_ ?_ _)); exact BK311.out)) : gb341 ≠ gb311)); clear HO_297000; clear HO_297001; clear HO_304000; clear HO_304001; clear HO_312000; clear HO_312001; clear HO330; clear HO333; clear HO336; clear HO339; clear BK281; clear BK296; clear BK303; clear BK311; clear HB; have HO_297000 := n0_; have HO_297001 := n1_; have HO_304000 := n2_; have HO_304001 := n3_; have HO_312000 := n4_; have HO_312001 := n5_; have HO330 := n6_; have HO333 := n7_; have HO336 := n8_; have HO339 := n9_; have BK281 := n10_; have BK296 := n11_; have BK303 := n12_; have BK311 := n13_; have HB := n14_; have BK341 := n15_; have GW341 := n16_; have GE341 := n17_; have NB281_341 := n18_; have NB341_281 := n19_; have NB296_341 := n20_; have NB341_296 := n21_; have NB303_341 := n22_; have NB341_303 := n23_; have NB311_341 := n24_; have NB341_311 := n25_; clear n0_ n1_ n2_ n3_ n4_ n5_ n6_ n7_ n8_ n9_ n10_ n11_ n12_ n13_ n14_ n15_ n16_ n17_ n18_ n19_ n20_ n21_ n22_ n23_ n24_ n25_; clear hb hbox hg; obtain ⟨Ao124, co124, eo124⟩ := Kd.R_slice HO336.out; subst eo124; have hnb125 := NB341_281.out; have hnc125 := NB281_341.out; have hnb126 := NB341_296.out; have hnc126 := NB296_341.out; have hnb127 := NB341_303.out; have hnc127 := NB303_341.out; have hnb128 := NB341_311.out; have hnc128 := NB311_341.out; have hcz129_0 : w123.cell? ⟨gb341, 0, none⟩ = some (.slice none 0 0) := (blk_cell BK341.out 0).trans rfl; have hcz129_1 : w123.cell? ⟨gb341, 1, none⟩ = some (.slice none 0 0) := (blk_cell BK341.out 1).trans rfl; have hfz129_0 := blk_frozen BK341.out 0; have hfz129_1 := blk_frozen BK341.out 1; obtain ⟨Ao130, co130, eo130⟩ := Kd.R_slice HO339.out; subst eo130))
                      (try simp only [Act.put, List.setIfInBounds_toArray, List.set_cons_zero, List.set_cons_succ])
                      go_cut [87] (fun v87 wc => ∃ (kq : Nat) (x87_107 : Bool), v87 = .bool x87_107 ∧ Aside0 (laws_FnExactDropFloor.j2 kq t324 x87_107 t325 t326 = some r) ∧ Aside0 (kq ≤ kj63) ∧ Aside0 (Kd.R (Kd.int .i64) 3 wc w.heap.size (fun k_ => some k_ ≠ ((.slice Ao24 t292.length co24) : Value).ownBlock ∧ some k_ ≠ ((.slice Ao28 t321.length co28) : Value).ownBlock ∧ some k_ ≠ ((.slice Ao32 t322.length co32) : Value).ownBlock ∧ some k_ ≠ ((.slice Ao35 t304.length co35) : Value).ownBlock ∧ some k_ ≠ ((.slice Ao40 t307.length co40) : Value).ownBlock ∧ some k_ ≠ ((.slice Ao124 t334.length co124) : Value).ownBlock ∧ some k_ ≠ ((.slice Ao130 t337.length co130) : Value).ownBlock) (.slice Ao21 t289.length co21) t289) ∧ Aside0 (Kd.R (Kd.int .i64) 3 wc w.heap.size (fun k_ => some k_ ≠ ((.slice Ao21 t289.length co21) : Value).ownBlock ∧ some k_ ≠ ((.slice Ao28 t321.length co28) : Value).ownBlock ∧ some k_ ≠ ((.slice Ao32 t322.length co32) : Value).ownBlock ∧ some k_ ≠ ((.slice Ao35 t304.length co35) : Value).ownBlock ∧ some k_ ≠ ((.slice Ao40 t307.length co40) : Value).ownBlock ∧ some k_ ≠ ((.slice Ao124 t334.length co124) : Value).ownBlock ∧ some k_ ≠ ((.slice Ao130 t337.length co130) : Value).ownBlock) (.slice Ao24 t292.length co24) t292) ∧ Aside0 (Kd.R (Kd.int .i64) 3 wc w.heap.size (fun k_ => some k_ ≠ ((.slice Ao21 t289.length co21) : Value).ownBlock ∧ some k_ ≠ ((.slice Ao24 t292.length co24) : Value).ownBlock ∧ some k_ ≠ ((.slice Ao32 t322.length co32) : Value).ownBlock ∧ some k_ ≠ ((.slice Ao35 t304.length co35) : Value).ownBlock ∧ some k_ ≠ ((.slice Ao40 t307.length co40) : Value).ownBlock ∧ some k_ ≠ ((.slice Ao124 t334.length co124) : Value).ownBlock ∧ some k_ ≠ ((.slice Ao130 t337.length co130) : Value).ownBlock) (.slice Ao28 t321.length co28) t321) ∧ Aside0 (Kd.R (Kd.int .i64) 3 wc w.heap.size (fun k_ => some k_ ≠ ((.slice Ao21 t289.length co21) : Value).ownBlock ∧ some k_ ≠ ((.slice Ao24 t292.length co24) : Value).ownBlock ∧ some k_ ≠ ((.slice Ao28 t321.length co28) : Value).ownBlock ∧ some k_ ≠ ((.slice Ao35 t304.length co35) : Value).ownBlock ∧ some k_ ≠ ((.slice Ao40 t307.length co40) : Value).ownBlock ∧ some k_ ≠ ((.slice Ao124 t334.length co124) : Value).ownBlock ∧ some k_ ≠ ((.slice Ao130 t337.length co130) : Value).ownBlock) (.slice Ao32 t322.length co32) t322) ∧ Aside0 (Kd.R (Kd.int .i64) 3 wc w.heap.size (fun k_ => some k_ ≠ ((.slice Ao21 t289.length co21) : Value).ownBlock ∧ some k_ ≠ ((.slice Ao24 t292.length co24) : Value).ownBlock ∧ some k_ ≠ ((.slice Ao28 t321.length co28) : Value).ownBlock ∧ some k_ ≠ ((.slice Ao32 t322.length co32) : Value).ownBlock ∧ some k_ ≠ ((.slice Ao40 t307.length co40) : Value).ownBlock ∧ some k_ ≠ ((.slice Ao124 t334.length co124) : Value).ownBlock ∧ some k_ ≠ ((.slice Ao130 t337.length co130) : Value).ownBlock) (.slice Ao35 t304.length co35) t325) ∧ Aside0 (Kd.R (Kd.int .i64) 3 wc w.heap.size (fun k_ => some k_ ≠ ((.slice Ao21 t289.length co21) : Value).ownBlock ∧ some k_ ≠ ((.slice Ao24 t292.length co24) : Value).ownBlock ∧ some k_ ≠ ((.slice Ao28 t321.length co28) : Value).ownBlock ∧ some k_ ≠ ((.slice Ao32 t322.length co32) : Value).ownBlock ∧ some k_ ≠ ((.slice Ao35 t304.length co35) : Value).ownBlock ∧ some k_ ≠ ((.slice Ao124 t334.length co124) : Value).ownBlock ∧ some k_ ≠ ((.slice Ao130 t337.length co130) : Value).ownBlock) (.slice Ao40 t307.length co40) t326) ∧ Aside0 (Kd.R (Kd.int .i64) 3 wc w.heap.size (fun k_ => some k_ ≠ ((.slice Ao21 t289.length co21) : Value).ownBlock ∧ some k_ ≠ ((.slice Ao24 t292.length co24) : Value).ownBlock ∧ some k_ ≠ ((.slice Ao28 t321.length co28) : Value).ownBlock ∧ some k_ ≠ ((.slice Ao32 t322.length co32) : Value).ownBlock ∧ some k_ ≠ ((.slice Ao35 t304.length co35) : Value).ownBlock ∧ some k_ ≠ ((.slice Ao40 t307.length co40) : Value).ownBlock ∧ some k_ ≠ ((.slice Ao130 t337.length co130) : Value).ownBlock) (.slice Ao124 t334.length co124) t334) ∧ Aside0 (Kd.R (Kd.int .i64) 3 wc w.heap.size (fun k_ => some k_ ≠ ((.slice Ao21 t289.length co21) : Value).ownBlock ∧ some k_ ≠ ((.slice Ao24 t292.length co24) : Value).ownBlock ∧ some k_ ≠ ((.slice Ao28 t321.length co28) : Value).ownBlock ∧ some k_ ≠ ((.slice Ao32 t322.length co32) : Value).ownBlock ∧ some k_ ≠ ((.slice Ao35 t304.length co35) : Value).ownBlock ∧ some k_ ≠ ((.slice Ao40 t307.length co40) : Value).ownBlock ∧ some k_ ≠ ((.slice Ao124 t334.length co124) : Value).ownBlock) (.slice Ao130 t337.length co130) t337) ∧ Aside0 (wc.heap[gb281]? = some (.cells #[(.slice A0_0 l0_0.length c0_0), (.slice A0_1 l0_1.length c0_1)] 24 (0, 0))) ∧ Aside0 (wc.heap[gb296]? = some (.cells #[(.slice Ao21 t289.length co21), (.slice Ao24 t292.length co24)] 27 (0, 0))) ∧ Aside0 (wc.heap[gb303]? = some (.cells #[(.slice Ao28 t321.length co28), (.slice Ao32 t322.length co32)] 27 (0, 0))) ∧ Aside0 (wc.heap[gb311]? = some (.cells #[(.slice Ao35 t304.length co35), (.slice Ao40 t307.length co40)] 27 (0, 0))) ∧ Aside0 (wc.heap[gb341]? = some (.cells #[(.slice Ao124 t334.length co124), (.slice Ao130 t337.length co130)] 27 (0, 0))) ∧ Aside0 (Below w.heap.size w wc))
                      case first =>
                        have H := HC108.out
                        clear HC108
                        replace H := Option.bind_eq_some_iff.mp H
                        obtain ⟨t342, A1310, H⟩ := H
                        replace H : (if t342 = true then (laws_FnExactDropFloor.j2 kj63 t324 (t340 != t295) t325 t326) else (laws_FnExactDropFloor.j2 kj63 t324 true t325 t326)) = some r := H
                        have A131 := Aside0.mk A1310
                        clear A1310
                        by_cases c132 : t342 = true
                        · subst c132
                          have H1 : (laws_FnExactDropFloor.j2 kj63 t324 (t340 != t295) t325 t326) = some r := by rw [if_pos rfl] at H; exact H
                          clear H
                          have H := H1
                          clear H1
                          have H' := Aside0.mk H
                          clear H
                          have hnb133 := NB341_281.out
                          have hnc133 := NB281_341.out
                          have hnb134 := NB341_296.out
                          have hnc134 := NB296_341.out
                          have hnb135 := NB341_303.out
                          have hnc135 := NB303_341.out
                          have hnb136 := NB341_311.out
                          have hnc136 := NB311_341.out
                          have hcz137_0 : w123.cell? ⟨gb341, 0, none⟩ = some (.slice none 0 0) := (blk_cell BK341.out 0).trans rfl
                          have hcz137_1 : w123.cell? ⟨gb341, 1, none⟩ = some (.slice none 0 0) := (blk_cell BK341.out 1).trans rfl
                          have hfz137_0 := blk_frozen BK341.out 0
                          have hfz137_1 := blk_frozen BK341.out 1
                          have hnb138 := NB296_281.out
                          have hnc138 := NB281_296.out
                          have hnb139 := NB296_303.out
                          have hnc139 := NB303_296.out
                          have hnb140 := NB296_311.out
                          have hnc140 := NB311_296.out
                          have hcz141_0 : w123.cell? ⟨gb296, 0, none⟩ = some (.slice Ao21 t289.length co21) := (blk_cell BK296.out 0).trans rfl
                          have hcz141_1 : w123.cell? ⟨gb296, 1, none⟩ = some (.slice Ao24 t292.length co24) := (blk_cell BK296.out 1).trans rfl
                          have hfz141_0 := blk_frozen BK296.out 0
                          have hfz141_1 := blk_frozen BK296.out 1
                          go_wp2_with (first | ((with_reducible refine gate_callee (f := 19) rfl ?_); refine goesL_ (some 81) rfl rfl Try.func19 (by kernel_rfl) rfl #[.agg #[.slice Ao124 t334.length co124, .slice Ao130 t337.length co130], .agg #[.slice Ao21 t289.length co21, .slice Ao24 t292.length co24]] rfl (by (try simp only [List.map_toArray, List.map_cons, List.map_nil]); first | done | rfl | (simp only [List.length_drop, List.length_take]; rfl)) ?_; (with_reducible refine (laws_eqHouse.calls kj63 _ _ t334 _ _ t337 _ _ t289 _ _ t292 true _ ?side1 ?side2 ?side3 ?side4 ?side5 ?side6 ?side7 ?side8 A131.out).mono ?_); (case side1 => refine (rR_ (e := 3) (base := w.heap.size) (ok := fun k_ => ((((((((some k_ ≠ (.slice Ao130 t337.length co130 : Value).ownBlock ∧ some k_ ≠ (.slice Ao21 t289.length co21 : Value).ownBlock) ∧ some k_ ≠ (.slice Ao24 t292.length co24 : Value).ownBlock) ∧ some k_ ≠ (.slice Ao28 t321.length co28 : Value).ownBlock) ∧ some k_ ≠ (.slice Ao32 t322.length co32 : Value).ownBlock) ∧ some k_ ≠ (.slice Ao35 t304.length co35 : Value).ownBlock) ∧ some k_ ≠ (.slice Ao40 t307.length co40 : Value).ownBlock) ∧ some k_ ≠ (.slice Ao120 t328.length co120 : Value).ownBlock) ∧ some k_ ≠ (.slice Ao121 t331.length co121 : Value).ownBlock)) (n := t334.length) (c := co124) ?_).2.2; exact (by (with_reducible repeat (first | apply rA_ | apply rN_ | apply rD_)); exact (rM_ (rF_ (p := ⟨gb341, 1, none⟩) (rF_ (p := ⟨gb341, 0, none⟩) (Kd.R_types HO336.out BK341.out (by decide)) (fun _ hk => hk.2) (.slice Ao124 t334.length co124)) (fun _ hk => hk.2) (.slice Ao130 t337.length co130)) (fun _ h_ => h_.1)))); (case side2 => exact (rR_ HO336.out).2.1); (case side3 => refine (rR_ (e := 3) (base := w.heap.size) (ok := fun k_ => ((((((((some k_ ≠ (.slice Ao124 t334.length co124 : Value).ownBlock ∧ some k_ ≠ (.slice Ao21 t289.length co21 : Value).ownBlock) ∧ some k_ ≠ (.slice Ao24 t292.length co24 : Value).ownBlock) ∧ some k_ ≠ (.slice Ao28 t321.length co28 : Value).ownBlock) ∧ some k_ ≠ (.slice Ao32 t322.length co32 : Value).ownBlock) ∧ some k_ ≠ (.slice Ao35 t304.length co35 : Value).ownBlock) ∧ some k_ ≠ (.slice Ao40 t307.length co40 : Value).ownBlock) ∧ some k_ ≠ (.slice Ao120 t328.length co120 : Value).ownBlock) ∧ some k_ ≠ (.slice Ao121 t331.length co121 : Value).ownBlock)) (n := t337.length) (c := co130) ?_).2.2; exact (by (with_reducible repeat (first | apply rA_ | apply rN_ | apply rD_)); exact (rM_ (rF_ (p := ⟨gb341, 1, none⟩) (rF_ (p := ⟨gb341, 0, none⟩) (Kd.R_types HO339.out BK341.out (by decide)) (fun _ hk => hk.2) (.slice Ao124 t334.length co124)) (fun _ hk => hk.2) (.slice Ao130 t337.length co130)) (fun _ h_ => h_.1)))); (case side4 => exact (rR_ HO339.out).2.1); (case side5 => refine (rR_ (e := 3) (base := w.heap.size) (ok := fun k_ => (((((some k_ ≠ (.slice Ao24 t292.length co24 : Value).ownBlock ∧ (some k_ ≠ (.slice Ao28 t321.length co28 : Value).ownBlock ∧ (some k_ ≠ (.slice Ao32 t322.length co32 : Value).ownBlock ∧ (some k_ ≠ (.slice Ao35 t304.length co35 : Value).ownBlock ∧ some k_ ≠ (.slice Ao40 t307.length co40 : Value).ownBlock)))) ∧ some k_ ≠ (.slice Ao120 t328.length co120 : Value).ownBlock) ∧ some k_ ≠ (.slice Ao121 t331.length co121 : Value).ownBlock) ∧ some k_ ≠ (.slice Ao124 t334.length co124 : Value).ownBlock) ∧ some k_ ≠ (.slice Ao130 t337.length co130 : Value).ownBlock)) (n := t289.length) (c := co21) ?_).2.2; exact (by (with_reducible repeat (first | apply rA_ | apply rN_ | apply rD_)); exact (rM_ (rF_ (p := ⟨gb341, 1, none⟩) (rF_ (p := ⟨gb341, 0, none⟩) (Kd.R_types HO_297000.out BK341.out (by decide)) (fun _ hk => hk.2) (.slice Ao124 t334.length co124)) (fun _ hk => hk.2) (.slice Ao130 t337.length co130)) (fun _ h_ => h_.1)))); (case side6 => exact (rR_ HO_297000.out).2.1); (case side7 => refine (rR_ (e := 3) (base := w.heap.size) (ok := fun k_ => (((((some k_ ≠ (.slice Ao21 t289.length co21 : Value).ownBlock ∧ (some k_ ≠ (.slice Ao28 t321.length co28 : Value).ownBlock ∧ (some k_ ≠ (.slice Ao32 t322.length co32 : Value).ownBlock ∧ (some k_ ≠ (.slice Ao35 t304.length co35 : Value).ownBlock ∧ some k_ ≠ (.slice Ao40 t307.length co40 : Value).ownBlock)))) ∧ some k_ ≠ (.slice Ao120 t328.length co120 : Value).ownBlock) ∧ some k_ ≠ (.slice Ao121 t331.length co121 : Value).ownBlock) ∧ some k_ ≠ (.slice Ao124 t334.length co124 : Value).ownBlock) ∧ some k_ ≠ (.slice Ao130 t337.length co130 : Value).ownBlock)) (n := t292.length) (c := co24) ?_).2.2; exact (by (with_reducible repeat (first | apply rA_ | apply rN_ | apply rD_)); exact (rM_ (rF_ (p := ⟨gb341, 1, none⟩) (rF_ (p := ⟨gb341, 0, none⟩) (Kd.R_types HO_297001.out BK341.out (by decide)) (fun _ hk => hk.2) (.slice Ao124 t334.length co124)) (fun _ hk => hk.2) (.slice Ao130 t337.length co130)) (fun _ h_ => h_.1)))); (case side8 => exact (rR_ HO_297001.out).2.1); rintro e w142 ⟨rfl, hb⟩; refine ⟨_, rfl, ?_⟩; have n0_ := Aside0.mk (rB_ (by (with_reducible repeat (first | apply rA_ | apply rN_ | apply rD_)); exact (rM_ (rF_ (p := ⟨gb341, 1, none⟩) (rF_ (p := ⟨gb341, 0, none⟩) (Kd.R_types HO_297000.out BK341.out (by decide)) (fun _ hk => hk.2) (.slice Ao124 t334.length co124)) (fun _ hk => hk.2) (.slice Ao130 t337.length co130)) (fun _ h_ => h_.1))) hb); have n1_ := Aside0.mk (rB_ (by (with_reducible repeat (first | apply rA_ | apply rN_ | apply rD_)); exact (rM_ (rF_ (p := ⟨gb341, 1, none⟩) (rF_ (p := ⟨gb341, 0, none⟩) (Kd.R_types HO_297001.out BK341.out (by decide)) (fun _ hk => hk.2) (.slice Ao124 t334.length co124)) (fun _ hk => hk.2) (.slice Ao130 t337.length co130)) (fun _ h_ => h_.1))) hb); have n2_ := Aside0.mk (rB_ (by (with_reducible repeat (first | apply rA_ | apply rN_ | apply rD_)); exact (rM_ (rF_ (p := ⟨gb341, 1, none⟩) (rF_ (p := ⟨gb341, 0, none⟩) (Kd.R_types HO_304000.out BK341.out (by decide)) (fun _ hk => hk.2) (.slice Ao124 t334.length co124)) (fun _ hk => hk.2) (.slice Ao130 t337.length co130)) (fun _ h_ => h_.1))) hb); have n3_ := Aside0.mk (rB_ (by (with_reducible repeat (first | apply rA_ | apply rN_ | apply rD_)); exact (rM_ (rF_ (p := ⟨gb341, 1, none⟩) (rF_ (p := ⟨gb341, 0, none⟩) (Kd.R_types HO_304001.out BK341.out (by decide)) (fun _ hk => hk.2) (.slice Ao124 t334.length co124)) (fun _ hk => hk.2) (.slice Ao130 t337.length co130)) (fun _ h_ => h_.1))) hb); have n4_ := Aside0.mk (rB_ (by (with_reducible repeat (first | apply rA_ | apply rN_ | apply rD_)); exact (rM_ (rF_ (p := ⟨gb341, 1, none⟩) (rF_ (p := ⟨gb341, 0, none⟩) (Kd.R_types HO_312000.out BK341.out (by decide)) (fun _ hk => hk.2) (.slice Ao124 t334.length co124)) (fun _ hk => hk.2) (.slice Ao130 t337.length co130)) (fun _ h_ => h_.1))) hb); have n5_ := Aside0.mk (rB_ (by (with_reducible repeat (first | apply rA_ | apply rN_ | apply rD_)); exact (rM_ (rF_ (p := ⟨gb341, 1, none⟩) (rF_ (p := ⟨gb341, 0, none⟩) (Kd.R_types HO_312001.out BK341.out (by decide)) (fun _ hk => hk.2) (.slice Ao124 t334.length co124)) (fun _ hk => hk.2) (.slice Ao130 t337.length co130)) (fun _ h_ => h_.1))) hb); have n6_ := Aside0.mk (rB_ (by (with_reducible repeat (first | apply rA_ | apply rN_ | apply rD_)); exact (rM_ (rF_ (p := ⟨gb341, 1, none⟩) (rF_ (p := ⟨gb341, 0, none⟩) (Kd.R_types HO330.out BK341.out (by decide)) (fun _ hk => hk.2) (.slice Ao124 t334.length co124)) (fun _ hk => hk.2) (.slice Ao130 t337.length co130)) (fun _ h_ => h_.1))) hb); have n7_ := Aside0.mk (rB_ (by (with_reducible repeat (first | apply rA_ | apply rN_ | apply rD_)); exact (rM_ (rF_ (p := ⟨gb341, 1, none⟩) (rF_ (p := ⟨gb341, 0, none⟩) (Kd.R_types HO333.out BK341.out (by decide)) (fun _ hk => hk.2) (.slice Ao124 t334.length co124)) (fun _ hk => hk.2) (.slice Ao130 t337.length co130)) (fun _ h_ => h_.1))) hb); have n8_ := Aside0.mk (rB_ (by (with_reducible repeat (first | apply rA_ | apply rN_ | apply rD_)); exact (rM_ (rF_ (p := ⟨gb341, 1, none⟩) (rF_ (p := ⟨gb341, 0, none⟩) (Kd.R_types HO336.out BK341.out (by decide)) (fun _ hk => hk.2) (.slice Ao124 t334.length co124)) (fun _ hk => hk.2) (.slice Ao130 t337.length co130)) (fun _ h_ => h_.1))) hb); have n9_ := Aside0.mk (rB_ (by (with_reducible repeat (first | apply rA_ | apply rN_ | apply rD_)); exact (rM_ (rF_ (p := ⟨gb341, 1, none⟩) (rF_ (p := ⟨gb341, 0, none⟩) (Kd.R_types HO339.out BK341.out (by decide)) (fun _ hk => hk.2) (.slice Ao124 t334.length co124)) (fun _ hk => hk.2) (.slice Ao130 t337.length co130)) (fun _ h_ => h_.1))) hb); have n10_ := Aside0.mk (blk_below (g := gb281) (o := .cells #[.slice A0_0 l0_0.length c0_0, .slice A0_1 l0_1.length c0_1] 24 (0, 0)) (by (with_reducible repeat (first | refine kN_ ?_ _ | refine kD_ ?_ | refine kA_ ?_ _)); refine blk_far ?_ NB281_341.out _; (with_reducible repeat (first | refine kN_ ?_ _ | refine kD_ ?_ | refine kA_ ?_ _)); refine blk_far ?_ NB281_341.out _; (with_reducible repeat (first | refine kN_ ?_ _ | refine kD_ ?_ | refine kA_ ?_ _)); exact BK281.out) hb); have n11_ := Aside0.mk (blk_below (g := gb296) (o := .cells #[.slice Ao21 t289.length co21, .slice Ao24 t292.length co24] 27 (0, 0)) (by (with_reducible repeat (first | refine kN_ ?_ _ | refine kD_ ?_ | refine kA_ ?_ _)); refine blk_far ?_ NB296_341.out _; (with_reducible repeat (first | refine kN_ ?_ _ | refine kD_ ?_ | refine kA_ ?_ _)); refine blk_far ?_ NB296_341.out _; (with_reducible repeat (first | refine kN_ ?_ _ | refine kD_ ?_ | refine kA_ ?_ _)); exact BK296.out) hb); have n12_ := Aside0.mk (blk_below (g := gb303) (o := .cells #[.slice Ao28 t321.length co28, .slice Ao32 t322.length co32] 27 (0, 0)) (by (with_reducible repeat (first | refine kN_ ?_ _ | refine kD_ ?_ | refine kA_ ?_ _)); refine blk_far ?_ NB303_341.out _; (with_reducible repeat (first | refine kN_ ?_ _ | refine kD_ ?_ | refine kA_ ?_ _)); refine blk_far ?_ NB303_341.out _; (with_reducible repeat (first | refine kN_ ?_ _ | refine kD_ ?_ | refine kA_ ?_ _)); exact BK303.out) hb); have n13_ := Aside0.mk (blk_below (g := gb311) (o := .cells #[.slice Ao35 t304.length co35, .slice Ao40 t307.length co40] 27 (0, 0)) (by (with_reducible repeat (first | refine kN_ ?_ _ | refine kD_ ?_ | refine kA_ ?_ _)); refine blk_far ?_ NB311_341.out _; (with_reducible repeat (first | refine kN_ ?_ _ | refine kD_ ?_ | refine kA_ ?_ _)); refine blk_far ?_ NB311_341.out _; (with_reducible repeat (first | refine kN_ ?_ _ | refine kD_ ?_ | refine kA_ ?_ _)); exact BK311.out) hb); have n14_ := Aside0.mk (blk_below (g := gb341) (o := .cells #[.slice Ao124 t334.length co124, .slice Ao130 t337.length co130] 27 (0, 0)) (by (with_reducible repeat (first | refine kN_ ?_ _ | refine kD_ ?_ | refine kA_ ?_ _)); refine blk_put (cs := #[.slice Ao124 t334.length co124, .slice none 0 0]) ?_ 1 _ rfl; (with_reducible repeat (first | refine kN_ ?_ _ | refine kD_ ?_ | refine kA_ ?_ _)); refine blk_put (cs := #[.slice none 0 0, .slice none 0 0]) ?_ 0 _ rfl; (with_reducible repeat (first | refine kN_ ?_ _ | refine kD_ ?_ | refine kA_ ?_ _)); exact BK341.out) hb); have n15_ := Aside0.mk (below_step (by repeat (first | (with_reducible first | exact HB.out | apply bA_ | apply bN_ | apply bD_ | refine bS_ ?_ GE281.out | refine bS_ ?_ GE296.out | refine bS_ ?_ GE303.out | refine bS_ ?_ GE311.out | refine bS_ ?_ GE341.out) | exact HB.out)) hb); clear HO_297000; clear HO_297001; clear HO_304000; clear HO_304001; clear HO_312000; clear HO_312001; clear HO330; clear HO333; clear HO336; clear HO339; clear BK281; clear BK296; clear BK303; clear BK311; clear BK341; clear HB; have HO_297000 := n0_; have HO_297001 := n1_; have HO_304000 := n2_; have HO_304001 := n3_; have HO_312000 := n4_; have HO_312001 := n5_; have HO330 := n6_; have HO333 := n7_; have HO336 := n8_; have HO339 := n9_; have BK281 := n10_; have BK296 := n11_; have BK303 := n12_; have BK311 := n13_; have BK341 := n14_; have HB := n15_; clear n0_ n1_ n2_ n3_ n4_ n5_ n6_ n7_ n8_ n9_ n10_ n11_ n12_ n13_ n14_ n15_; (try clear hb); (try clear hb2); (try clear hk); (try clear hi)))
                          go_meet
                          case rel => exact ⟨_, ((t340 != t295)), (by first | rfl | (simp; done) | (simp [*]; done)), H', ⟨by have := HJ10.out; have := HJ63.out; first | omega | exact Nat.le_refl _⟩, ⟨by (try simp only [hl304000_63]); (try simp only [hl304001_63]); (with_reducible repeat (first | apply rA_ | apply rN_ | apply rD_)); exact rM_ HO_297000.out (fun _ hk => ⟨hk.1.1.1.1.1, ⟨hk.1.1.1.1.2.1, ⟨hk.1.1.1.1.2.2.1, ⟨hk.1.1.1.1.2.2.2.1, ⟨hk.1.1.1.1.2.2.2.2, ⟨hk.1.2, hk.2⟩⟩⟩⟩⟩⟩)⟩, ⟨by (try simp only [hl304000_63]); (try simp only [hl304001_63]); (with_reducible repeat (first | apply rA_ | apply rN_ | apply rD_)); exact rM_ HO_297001.out (fun _ hk => ⟨hk.1.1.1.1.1, ⟨hk.1.1.1.1.2.1, ⟨hk.1.1.1.1.2.2.1, ⟨hk.1.1.1.1.2.2.2.1, ⟨hk.1.1.1.1.2.2.2.2, ⟨hk.1.2, hk.2⟩⟩⟩⟩⟩⟩)⟩, ⟨by (try simp only [hl304000_63]); (try simp only [hl304001_63]); (with_reducible repeat (first | apply rA_ | apply rN_ | apply rD_)); exact rM_ HO_304000.out (fun _ hk => ⟨hk.1.1.1.1.1, ⟨hk.1.1.1.1.2.1, ⟨hk.1.1.1.1.2.2.1, ⟨hk.1.1.1.1.2.2.2.1, ⟨hk.1.1.1.1.2.2.2.2, ⟨hk.1.2, hk.2⟩⟩⟩⟩⟩⟩)⟩, ⟨by (try simp only [hl304000_63]); (try simp only [hl304001_63]); (with_reducible repeat (first | apply rA_ | apply rN_ | apply rD_)); exact rM_ HO_304001.out (fun _ hk => ⟨hk.1.1.1.1.1, ⟨hk.1.1.1.1.2.1, ⟨hk.1.1.1.1.2.2.1, ⟨hk.1.1.1.1.2.2.2.1, ⟨hk.1.1.1.1.2.2.2.2, ⟨hk.1.2, hk.2⟩⟩⟩⟩⟩⟩)⟩, ⟨by (try simp only [hl304000_63]); (try simp only [hl304001_63]); (with_reducible repeat (first | apply rA_ | apply rN_ | apply rD_)); exact rM_ HO_312000.out (fun _ hk => ⟨hk.1.1.1.1.1, ⟨hk.1.1.1.1.2.1, ⟨hk.1.1.1.1.2.2.1, ⟨hk.1.1.1.1.2.2.2.1, ⟨hk.1.1.1.1.2.2.2.2, ⟨hk.1.2, hk.2⟩⟩⟩⟩⟩⟩)⟩, ⟨by (try simp only [hl304000_63]); (try simp only [hl304001_63]); (with_reducible repeat (first | apply rA_ | apply rN_ | apply rD_)); exact rM_ HO_312001.out (fun _ hk => ⟨hk.1.1.1.1.1, ⟨hk.1.1.1.1.2.1, ⟨hk.1.1.1.1.2.2.1, ⟨hk.1.1.1.1.2.2.2.1, ⟨hk.1.1.1.1.2.2.2.2, ⟨hk.1.2, hk.2⟩⟩⟩⟩⟩⟩)⟩, ⟨by (try simp only [hl304000_63]); (try simp only [hl304001_63]); (with_reducible repeat (first | apply rA_ | apply rN_ | apply rD_)); exact rM_ HO336.out (fun _ hk => ⟨hk.1.1.1.1.1.1.1.2, ⟨hk.1.1.1.1.1.1.2, ⟨hk.1.1.1.1.1.2, ⟨hk.1.1.1.1.2, ⟨hk.1.1.1.2, ⟨hk.1.1.2, hk.1.1.1.1.1.1.1.1⟩⟩⟩⟩⟩⟩)⟩, ⟨by (try simp only [hl304000_63]); (try simp only [hl304001_63]); (with_reducible repeat (first | apply rA_ | apply rN_ | apply rD_)); exact rM_ HO339.out (fun _ hk => ⟨hk.1.1.1.1.1.1.1.2, ⟨hk.1.1.1.1.1.1.2, ⟨hk.1.1.1.1.1.2, ⟨hk.1.1.1.1.2, ⟨hk.1.1.1.2, ⟨hk.1.1.2, hk.1.1.1.1.1.1.1.1⟩⟩⟩⟩⟩⟩)⟩, ⟨by (try simp only [hl304000_63]); (try simp only [hl304001_63]); (with_reducible repeat (first | refine kN_ ?_ _ | refine kD_ ?_ | refine kA_ ?_ _)); exact BK281.out⟩, ⟨by (try simp only [hl304000_63]); (try simp only [hl304001_63]); (with_reducible repeat (first | refine kN_ ?_ _ | refine kD_ ?_ | refine kA_ ?_ _)); exact BK296.out⟩, ⟨by (try simp only [hl304000_63]); (try simp only [hl304001_63]); (with_reducible repeat (first | refine kN_ ?_ _ | refine kD_ ?_ | refine kA_ ?_ _)); exact BK303.out⟩, ⟨by (try simp only [hl304000_63]); (try simp only [hl304001_63]); (with_reducible repeat (first | refine kN_ ?_ _ | refine kD_ ?_ | refine kA_ ?_ _)); exact BK311.out⟩, ⟨by (try simp only [hl304000_63]); (try simp only [hl304001_63]); (with_reducible repeat (first | refine kN_ ?_ _ | refine kD_ ?_ | refine kA_ ?_ _)); exact BK341.out⟩, ⟨by repeat (first | (with_reducible first | exact HB.out | apply bA_ | apply bN_ | apply bD_ | refine bS_ ?_ GE281.out | refine bS_ ?_ GE296.out | refine bS_ ?_ GE303.out | refine bS_ ?_ GE311.out | refine bS_ ?_ GE341.out) | exact HB.out)⟩⟩
                        · replace c132 := Bool.eq_false_iff.mpr c132
                          subst c132
                          have H1 : (laws_FnExactDropFloor.j2 kj63 t324 true t325 t326) = some r := by rw [if_neg (show ¬ (false = true) by decide)] at H; exact H
                          clear H
                          have H := H1
                          clear H1
                          have H' := Aside0.mk H
                          clear H
                          have hnb143 := NB341_281.out
                          have hnc143 := NB281_341.out
                          have hnb144 := NB341_296.out
                          have hnc144 := NB296_341.out
                          have hnb145 := NB341_303.out
                          have hnc145 := NB303_341.out
                          have hnb146 := NB341_311.out
                          have hnc146 := NB311_341.out
                          have hcz147_0 : w123.cell? ⟨gb341, 0, none⟩ = some (.slice none 0 0) := (blk_cell BK341.out 0).trans rfl
                          have hcz147_1 : w123.cell? ⟨gb341, 1, none⟩ = some (.slice none 0 0) := (blk_cell BK341.out 1).trans rfl
                          have hfz147_0 := blk_frozen BK341.out 0
                          have hfz147_1 := blk_frozen BK341.out 1
                          have hnb148 := NB296_281.out
                          have hnc148 := NB281_296.out
                          have hnb149 := NB296_303.out
                          have hnc149 := NB303_296.out
                          have hnb150 := NB296_311.out
                          have hnc150 := NB311_296.out
                          have hcz151_0 : w123.cell? ⟨gb296, 0, none⟩ = some (.slice Ao21 t289.length co21) := (blk_cell BK296.out 0).trans rfl
                          have hcz151_1 : w123.cell? ⟨gb296, 1, none⟩ = some (.slice Ao24 t292.length co24) := (blk_cell BK296.out 1).trans rfl
                          have hfz151_0 := blk_frozen BK296.out 0
                          have hfz151_1 := blk_frozen BK296.out 1
                          go_wp2_with (first | ((with_reducible refine gate_callee (f := 19) rfl ?_); refine goesL_ (some 81) rfl rfl Try.func19 (by kernel_rfl) rfl #[.agg #[.slice Ao124 t334.length co124, .slice Ao130 t337.length co130], .agg #[.slice Ao21 t289.length co21, .slice Ao24 t292.length co24]] rfl (by (try simp only [List.map_toArray, List.map_cons, List.map_nil]); first | done | rfl | (simp only [List.length_drop, List.length_take]; rfl)) ?_; (with_reducible refine (laws_eqHouse.calls kj63 _ _ t334 _ _ t337 _ _ t289 _ _ t292 false _ ?side1 ?side2 ?side3 ?side4 ?side5 ?side6 ?side7 ?side8 A131.out).mono ?_); (case side1 => refine (rR_ (e := 3) (base := w.heap.size) (ok := fun k_ => ((((((((some k_ ≠ (.slice Ao130 t337.length co130 : Value).ownBlock ∧ some k_ ≠ (.slice Ao21 t289.length co21 : Value).ownBlock) ∧ some k_ ≠ (.slice Ao24 t292.length co24 : Value).ownBlock) ∧ some k_ ≠ (.slice Ao28 t321.length co28 : Value).ownBlock) ∧ some k_ ≠ (.slice Ao32 t322.length co32 : Value).ownBlock) ∧ some k_ ≠ (.slice Ao35 t304.length co35 : Value).ownBlock) ∧ some k_ ≠ (.slice Ao40 t307.length co40 : Value).ownBlock) ∧ some k_ ≠ (.slice Ao120 t328.length co120 : Value).ownBlock) ∧ some k_ ≠ (.slice Ao121 t331.length co121 : Value).ownBlock)) (n := t334.length) (c := co124) ?_).2.2; exact (by (with_reducible repeat (first | apply rA_ | apply rN_ | apply rD_)); exact (rM_ (rF_ (p := ⟨gb341, 1, none⟩) (rF_ (p := ⟨gb341, 0, none⟩) (Kd.R_types HO336.out BK341.out (by decide)) (fun _ hk => hk.2) (.slice Ao124 t334.length co124)) (fun _ hk => hk.2) (.slice Ao130 t337.length co130)) (fun _ h_ => h_.1)))); (case side2 => exact (rR_ HO336.out).2.1); (case side3 => refine (rR_ (e := 3) (base := w.heap.size) (ok := fun k_ => ((((((((some k_ ≠ (.slice Ao124 t334.length co124 : Value).ownBlock ∧ some k_ ≠ (.slice Ao21 t289.length co21 : Value).ownBlock) ∧ some k_ ≠ (.slice Ao24 t292.length co24 : Value).ownBlock) ∧ some k_ ≠ (.slice Ao28 t321.length co28 : Value).ownBlock) ∧ some k_ ≠ (.slice Ao32 t322.length co32 : Value).ownBlock) ∧ some k_ ≠ (.slice Ao35 t304.length co35 : Value).ownBlock) ∧ some k_ ≠ (.slice Ao40 t307.length co40 : Value).ownBlock) ∧ some k_ ≠ (.slice Ao120 t328.length co120 : Value).ownBlock) ∧ some k_ ≠ (.slice Ao121 t331.length co121 : Value).ownBlock)) (n := t337.length) (c := co130) ?_).2.2; exact (by (with_reducible repeat (first | apply rA_ | apply rN_ | apply rD_)); exact (rM_ (rF_ (p := ⟨gb341, 1, none⟩) (rF_ (p := ⟨gb341, 0, none⟩) (Kd.R_types HO339.out BK341.out (by decide)) (fun _ hk => hk.2) (.slice Ao124 t334.length co124)) (fun _ hk => hk.2) (.slice Ao130 t337.length co130)) (fun _ h_ => h_.1)))); (case side4 => exact (rR_ HO339.out).2.1); (case side5 => refine (rR_ (e := 3) (base := w.heap.size) (ok := fun k_ => (((((some k_ ≠ (.slice Ao24 t292.length co24 : Value).ownBlock ∧ (some k_ ≠ (.slice Ao28 t321.length co28 : Value).ownBlock ∧ (some k_ ≠ (.slice Ao32 t322.length co32 : Value).ownBlock ∧ (some k_ ≠ (.slice Ao35 t304.length co35 : Value).ownBlock ∧ some k_ ≠ (.slice Ao40 t307.length co40 : Value).ownBlock)))) ∧ some k_ ≠ (.slice Ao120 t328.length co120 : Value).ownBlock) ∧ some k_ ≠ (.slice Ao121 t331.length co121 : Value).ownBlock) ∧ some k_ ≠ (.slice Ao124 t334.length co124 : Value).ownBlock) ∧ some k_ ≠ (.slice Ao130 t337.length co130 : Value).ownBlock)) (n := t289.length) (c := co21) ?_).2.2; exact (by (with_reducible repeat (first | apply rA_ | apply rN_ | apply rD_)); exact (rM_ (rF_ (p := ⟨gb341, 1, none⟩) (rF_ (p := ⟨gb341, 0, none⟩) (Kd.R_types HO_297000.out BK341.out (by decide)) (fun _ hk => hk.2) (.slice Ao124 t334.length co124)) (fun _ hk => hk.2) (.slice Ao130 t337.length co130)) (fun _ h_ => h_.1)))); (case side6 => exact (rR_ HO_297000.out).2.1); (case side7 => refine (rR_ (e := 3) (base := w.heap.size) (ok := fun k_ => (((((some k_ ≠ (.slice Ao21 t289.length co21 : Value).ownBlock ∧ (some k_ ≠ (.slice Ao28 t321.length co28 : Value).ownBlock ∧ (some k_ ≠ (.slice Ao32 t322.length co32 : Value).ownBlock ∧ (some k_ ≠ (.slice Ao35 t304.length co35 : Value).ownBlock ∧ some k_ ≠ (.slice Ao40 t307.length co40 : Value).ownBlock)))) ∧ some k_ ≠ (.slice Ao120 t328.length co120 : Value).ownBlock) ∧ some k_ ≠ (.slice Ao121 t331.length co121 : Value).ownBlock) ∧ some k_ ≠ (.slice Ao124 t334.length co124 : Value).ownBlock) ∧ some k_ ≠ (.slice Ao130 t337.length co130 : Value).ownBlock)) (n := t292.length) (c := co24) ?_).2.2; exact (by (with_reducible repeat (first | apply rA_ | apply rN_ | apply rD_)); exact (rM_ (rF_ (p := ⟨gb341, 1, none⟩) (rF_ (p := ⟨gb341, 0, none⟩) (Kd.R_types HO_297001.out BK341.out (by decide)) (fun _ hk => hk.2) (.slice Ao124 t334.length co124)) (fun _ hk => hk.2) (.slice Ao130 t337.length co130)) (fun _ h_ => h_.1)))); (case side8 => exact (rR_ HO_297001.out).2.1); rintro e w152 ⟨rfl, hb⟩; refine ⟨_, rfl, ?_⟩; have n0_ := Aside0.mk (rB_ (by (with_reducible repeat (first | apply rA_ | apply rN_ | apply rD_)); exact (rM_ (rF_ (p := ⟨gb341, 1, none⟩) (rF_ (p := ⟨gb341, 0, none⟩) (Kd.R_types HO_297000.out BK341.out (by decide)) (fun _ hk => hk.2) (.slice Ao124 t334.length co124)) (fun _ hk => hk.2) (.slice Ao130 t337.length co130)) (fun _ h_ => h_.1))) hb); have n1_ := Aside0.mk (rB_ (by (with_reducible repeat (first | apply rA_ | apply rN_ | apply rD_)); exact (rM_ (rF_ (p := ⟨gb341, 1, none⟩) (rF_ (p := ⟨gb341, 0, none⟩) (Kd.R_types HO_297001.out BK341.out (by decide)) (fun _ hk => hk.2) (.slice Ao124 t334.length co124)) (fun _ hk => hk.2) (.slice Ao130 t337.length co130)) (fun _ h_ => h_.1))) hb); have n2_ := Aside0.mk (rB_ (by (with_reducible repeat (first | apply rA_ | apply rN_ | apply rD_)); exact (rM_ (rF_ (p := ⟨gb341, 1, none⟩) (rF_ (p := ⟨gb341, 0, none⟩) (Kd.R_types HO_304000.out BK341.out (by decide)) (fun _ hk => hk.2) (.slice Ao124 t334.length co124)) (fun _ hk => hk.2) (.slice Ao130 t337.length co130)) (fun _ h_ => h_.1))) hb); have n3_ := Aside0.mk (rB_ (by (with_reducible repeat (first | apply rA_ | apply rN_ | apply rD_)); exact (rM_ (rF_ (p := ⟨gb341, 1, none⟩) (rF_ (p := ⟨gb341, 0, none⟩) (Kd.R_types HO_304001.out BK341.out (by decide)) (fun _ hk => hk.2) (.slice Ao124 t334.length co124)) (fun _ hk => hk.2) (.slice Ao130 t337.length co130)) (fun _ h_ => h_.1))) hb); have n4_ := Aside0.mk (rB_ (by (with_reducible repeat (first | apply rA_ | apply rN_ | apply rD_)); exact (rM_ (rF_ (p := ⟨gb341, 1, none⟩) (rF_ (p := ⟨gb341, 0, none⟩) (Kd.R_types HO_312000.out BK341.out (by decide)) (fun _ hk => hk.2) (.slice Ao124 t334.length co124)) (fun _ hk => hk.2) (.slice Ao130 t337.length co130)) (fun _ h_ => h_.1))) hb); have n5_ := Aside0.mk (rB_ (by (with_reducible repeat (first | apply rA_ | apply rN_ | apply rD_)); exact (rM_ (rF_ (p := ⟨gb341, 1, none⟩) (rF_ (p := ⟨gb341, 0, none⟩) (Kd.R_types HO_312001.out BK341.out (by decide)) (fun _ hk => hk.2) (.slice Ao124 t334.length co124)) (fun _ hk => hk.2) (.slice Ao130 t337.length co130)) (fun _ h_ => h_.1))) hb); have n6_ := Aside0.mk (rB_ (by (with_reducible repeat (first | apply rA_ | apply rN_ | apply rD_)); exact (rM_ (rF_ (p := ⟨gb341, 1, none⟩) (rF_ (p := ⟨gb341, 0, none⟩) (Kd.R_types HO330.out BK341.out (by decide)) (fun _ hk => hk.2) (.slice Ao124 t334.length co124)) (fun _ hk => hk.2) (.slice Ao130 t337.length co130)) (fun _ h_ => h_.1))) hb); have n7_ := Aside0.mk (rB_ (by (with_reducible repeat (first | apply rA_ | apply rN_ | apply rD_)); exact (rM_ (rF_ (p := ⟨gb341, 1, none⟩) (rF_ (p := ⟨gb341, 0, none⟩) (Kd.R_types HO333.out BK341.out (by decide)) (fun _ hk => hk.2) (.slice Ao124 t334.length co124)) (fun _ hk => hk.2) (.slice Ao130 t337.length co130)) (fun _ h_ => h_.1))) hb); have n8_ := Aside0.mk (rB_ (by (with_reducible repeat (first | apply rA_ | apply rN_ | apply rD_)); exact (rM_ (rF_ (p := ⟨gb341, 1, none⟩) (rF_ (p := ⟨gb341, 0, none⟩) (Kd.R_types HO336.out BK341.out (by decide)) (fun _ hk => hk.2) (.slice Ao124 t334.length co124)) (fun _ hk => hk.2) (.slice Ao130 t337.length co130)) (fun _ h_ => h_.1))) hb); have n9_ := Aside0.mk (rB_ (by (with_reducible repeat (first | apply rA_ | apply rN_ | apply rD_)); exact (rM_ (rF_ (p := ⟨gb341, 1, none⟩) (rF_ (p := ⟨gb341, 0, none⟩) (Kd.R_types HO339.out BK341.out (by decide)) (fun _ hk => hk.2) (.slice Ao124 t334.length co124)) (fun _ hk => hk.2) (.slice Ao130 t337.length co130)) (fun _ h_ => h_.1))) hb); have n10_ := Aside0.mk (blk_below (g := gb281) (o := .cells #[.slice A0_0 l0_0.length c0_0, .slice A0_1 l0_1.length c0_1] 24 (0, 0)) (by (with_reducible repeat (first | refine kN_ ?_ _ | refine kD_ ?_ | refine kA_ ?_ _)); refine blk_far ?_ NB281_341.out _; (with_reducible repeat (first | refine kN_ ?_ _ | refine kD_ ?_ | refine kA_ ?_ _)); refine blk_far ?_ NB281_341.out _; (with_reducible repeat (first | refine kN_ ?_ _ | refine kD_ ?_ | refine kA_ ?_ _)); exact BK281.out) hb); have n11_ := Aside0.mk (blk_below (g := gb296) (o := .cells #[.slice Ao21 t289.length co21, .slice Ao24 t292.length co24] 27 (0, 0)) (by (with_reducible repeat (first | refine kN_ ?_ _ | refine kD_ ?_ | refine kA_ ?_ _)); refine blk_far ?_ NB296_341.out _; (with_reducible repeat (first | refine kN_ ?_ _ | refine kD_ ?_ | refine kA_ ?_ _)); refine blk_far ?_ NB296_341.out _; (with_reducible repeat (first | refine kN_ ?_ _ | refine kD_ ?_ | refine kA_ ?_ _)); exact BK296.out) hb); have n12_ := Aside0.mk (blk_below (g := gb303) (o := .cells #[.slice Ao28 t321.length co28, .slice Ao32 t322.length co32] 27 (0, 0)) (by (with_reducible repeat (first | refine kN_ ?_ _ | refine kD_ ?_ | refine kA_ ?_ _)); refine blk_far ?_ NB303_341.out _; (with_reducible repeat (first | refine kN_ ?_ _ | refine kD_ ?_ | refine kA_ ?_ _)); refine blk_far ?_ NB303_341.out _; (with_reducible repeat (first | refine kN_ ?_ _ | refine kD_ ?_ | refine kA_ ?_ _)); exact BK303.out) hb); have n13_ := Aside0.mk (blk_below (g := gb311) (o := .cells #[.slice Ao35 t304.length co35, .slice Ao40 t307.length co40] 27 (0, 0)) (by (with_reducible repeat (first | refine kN_ ?_ _ | refine kD_ ?_ | refine kA_ ?_ _)); refine blk_far ?_ NB311_341.out _; (with_reducible repeat (first | refine kN_ ?_ _ | refine kD_ ?_ | refine kA_ ?_ _)); refine blk_far ?_ NB311_341.out _; (with_reducible repeat (first | refine kN_ ?_ _ | refine kD_ ?_ | refine kA_ ?_ _)); exact BK311.out) hb); have n14_ := Aside0.mk (blk_below (g := gb341) (o := .cells #[.slice Ao124 t334.length co124, .slice Ao130 t337.length co130] 27 (0, 0)) (by (with_reducible repeat (first | refine kN_ ?_ _ | refine kD_ ?_ | refine kA_ ?_ _)); refine blk_put (cs := #[.slice Ao124 t334.length co124, .slice none 0 0]) ?_ 1 _ rfl; (with_reducible repeat (first | refine kN_ ?_ _ | refine kD_ ?_ | refine kA_ ?_ _)); refine blk_put (cs := #[.slice none 0 0, .slice none 0 0]) ?_ 0 _ rfl; (with_reducible repeat (first | refine kN_ ?_ _ | refine kD_ ?_ | refine kA_ ?_ _)); exact BK341.out) hb); have n15_ := Aside0.mk (below_step (by repeat (first | (with_reducible first | exact HB.out | apply bA_ | apply bN_ | apply bD_ | refine bS_ ?_ GE281.out | refine bS_ ?_ GE296.out | refine bS_ ?_ GE303.out | refine bS_ ?_ GE311.out | refine bS_ ?_ GE341.out) | exact HB.out)) hb); clear HO_297000; clear HO_297001; clear HO_304000; clear HO_304001; clear HO_312000; clear HO_312001; clear HO330; clear HO333; clear HO336; clear HO339; clear BK281; clear BK296; clear BK303; clear BK311; clear BK341; clear HB; have HO_297000 := n0_; have HO_297001 := n1_; have HO_304000 := n2_; have HO_304001 := n3_; have HO_312000 := n4_; have HO_312001 := n5_; have HO330 := n6_; have HO333 := n7_; have HO336 := n8_; have HO339 := n9_; have BK281 := n10_; have BK296 := n11_; have BK303 := n12_; have BK311 := n13_; have BK341 := n14_; have HB := n15_; clear n0_ n1_ n2_ n3_ n4_ n5_ n6_ n7_ n8_ n9_ n10_ n11_ n12_ n13_ n14_ n15_; (try clear hb); (try clear hb2); (try clear hk); (try clear hi)))
                          go_meet
                          case rel => exact ⟨_, (true), (by first | rfl | (simp; done) | (simp [*]; done)), H', ⟨by have := HJ10.out; have := HJ63.out; first | omega | exact Nat.le_refl _⟩, ⟨by (try simp only [hl304000_63]); (try simp only [hl304001_63]); (with_reducible repeat (first | apply rA_ | apply rN_ | apply rD_)); exact rM_ HO_297000.out (fun _ hk => ⟨hk.1.1.1.1.1, ⟨hk.1.1.1.1.2.1, ⟨hk.1.1.1.1.2.2.1, ⟨hk.1.1.1.1.2.2.2.1, ⟨hk.1.1.1.1.2.2.2.2, ⟨hk.1.2, hk.2⟩⟩⟩⟩⟩⟩)⟩, ⟨by (try simp only [hl304000_63]); (try simp only [hl304001_63]); (with_reducible repeat (first | apply rA_ | apply rN_ | apply rD_)); exact rM_ HO_297001.out (fun _ hk => ⟨hk.1.1.1.1.1, ⟨hk.1.1.1.1.2.1, ⟨hk.1.1.1.1.2.2.1, ⟨hk.1.1.1.1.2.2.2.1, ⟨hk.1.1.1.1.2.2.2.2, ⟨hk.1.2, hk.2⟩⟩⟩⟩⟩⟩)⟩, ⟨by (try simp only [hl304000_63]); (try simp only [hl304001_63]); (with_reducible repeat (first | apply rA_ | apply rN_ | apply rD_)); exact rM_ HO_304000.out (fun _ hk => ⟨hk.1.1.1.1.1, ⟨hk.1.1.1.1.2.1, ⟨hk.1.1.1.1.2.2.1, ⟨hk.1.1.1.1.2.2.2.1, ⟨hk.1.1.1.1.2.2.2.2, ⟨hk.1.2, hk.2⟩⟩⟩⟩⟩⟩)⟩, ⟨by (try simp only [hl304000_63]); (try simp only [hl304001_63]); (with_reducible repeat (first | apply rA_ | apply rN_ | apply rD_)); exact rM_ HO_304001.out (fun _ hk => ⟨hk.1.1.1.1.1, ⟨hk.1.1.1.1.2.1, ⟨hk.1.1.1.1.2.2.1, ⟨hk.1.1.1.1.2.2.2.1, ⟨hk.1.1.1.1.2.2.2.2, ⟨hk.1.2, hk.2⟩⟩⟩⟩⟩⟩)⟩, ⟨by (try simp only [hl304000_63]); (try simp only [hl304001_63]); (with_reducible repeat (first | apply rA_ | apply rN_ | apply rD_)); exact rM_ HO_312000.out (fun _ hk => ⟨hk.1.1.1.1.1, ⟨hk.1.1.1.1.2.1, ⟨hk.1.1.1.1.2.2.1, ⟨hk.1.1.1.1.2.2.2.1, ⟨hk.1.1.1.1.2.2.2.2, ⟨hk.1.2, hk.2⟩⟩⟩⟩⟩⟩)⟩, ⟨by (try simp only [hl304000_63]); (try simp only [hl304001_63]); (with_reducible repeat (first | apply rA_ | apply rN_ | apply rD_)); exact rM_ HO_312001.out (fun _ hk => ⟨hk.1.1.1.1.1, ⟨hk.1.1.1.1.2.1, ⟨hk.1.1.1.1.2.2.1, ⟨hk.1.1.1.1.2.2.2.1, ⟨hk.1.1.1.1.2.2.2.2, ⟨hk.1.2, hk.2⟩⟩⟩⟩⟩⟩)⟩, ⟨by (try simp only [hl304000_63]); (try simp only [hl304001_63]); (with_reducible repeat (first | apply rA_ | apply rN_ | apply rD_)); exact rM_ HO336.out (fun _ hk => ⟨hk.1.1.1.1.1.1.1.2, ⟨hk.1.1.1.1.1.1.2, ⟨hk.1.1.1.1.1.2, ⟨hk.1.1.1.1.2, ⟨hk.1.1.1.2, ⟨hk.1.1.2, hk.1.1.1.1.1.1.1.1⟩⟩⟩⟩⟩⟩)⟩, ⟨by (try simp only [hl304000_63]); (try simp only [hl304001_63]); (with_reducible repeat (first | apply rA_ | apply rN_ | apply rD_)); exact rM_ HO339.out (fun _ hk => ⟨hk.1.1.1.1.1.1.1.2, ⟨hk.1.1.1.1.1.1.2, ⟨hk.1.1.1.1.1.2, ⟨hk.1.1.1.1.2, ⟨hk.1.1.1.2, ⟨hk.1.1.2, hk.1.1.1.1.1.1.1.1⟩⟩⟩⟩⟩⟩)⟩, ⟨by (try simp only [hl304000_63]); (try simp only [hl304001_63]); (with_reducible repeat (first | refine kN_ ?_ _ | refine kD_ ?_ | refine kA_ ?_ _)); exact BK281.out⟩, ⟨by (try simp only [hl304000_63]); (try simp only [hl304001_63]); (with_reducible repeat (first | refine kN_ ?_ _ | refine kD_ ?_ | refine kA_ ?_ _)); exact BK296.out⟩, ⟨by (try simp only [hl304000_63]); (try simp only [hl304001_63]); (with_reducible repeat (first | refine kN_ ?_ _ | refine kD_ ?_ | refine kA_ ?_ _)); exact BK303.out⟩, ⟨by (try simp only [hl304000_63]); (try simp only [hl304001_63]); (with_reducible repeat (first | refine kN_ ?_ _ | refine kD_ ?_ | refine kA_ ?_ _)); exact BK311.out⟩, ⟨by (try simp only [hl304000_63]); (try simp only [hl304001_63]); (with_reducible repeat (first | refine kN_ ?_ _ | refine kD_ ?_ | refine kA_ ?_ _)); exact BK341.out⟩, ⟨by repeat (first | (with_reducible first | exact HB.out | apply bA_ | apply bN_ | apply bD_ | refine bS_ ?_ GE281.out | refine bS_ ?_ GE296.out | refine bS_ ?_ GE303.out | refine bS_ ?_ GE311.out | refine bS_ ?_ GE341.out) | exact HB.out)⟩⟩
                      case rest =>
                        clear HC108
                        try clear c1
                        try clear c2
                        try clear p2
                        try clear c3
                        try clear c3b0
                        try clear c4
                        try clear c5
                        try clear c6
                        try clear c7
                        try clear c8
                        try clear c9
                        try clear c10
                        try clear c11
                        try clear c12
                        try clear c13
                        try clear c14
                        try clear c15
                        try clear c17
                        try clear c19
                        try clear c22
                        try clear c29
                        try clear c30
                        try clear c36
                        try clear c37
                        try clear c38
                        try clear c39
                        try clear c42
                        try clear c43
                        try clear c44
                        try clear c45
                        try clear c46
                        try clear c47
                        try clear c48
                        try clear c51
                        try clear c52
                        try clear c53
                        try clear c55
                        try clear c56
                        try clear c59
                        try clear c62
                        try clear c70
                        try clear c71
                        try clear c72
                        try clear c75
                        try clear c75b0
                        try clear c77
                        try clear c78
                        try clear c79
                        try clear c80
                        try clear c82
                        try clear c83
                        try clear c86
                        try clear c87
                        try clear c88
                        try clear c90
                        try clear c91
                        try clear c94
                        try clear c97
                        try clear c97b0
                        try clear c98
                        try clear c99
                        try clear c100
                        try clear c105
                        try clear c105b0
                        try clear c105b1
                        try clear c109
                        try clear c110
                        try clear c111
                        try clear c116
                        try clear c117
                        try clear c125
                        try clear c126
                        try clear c127
                        try clear c128
                        try clear c132
                        try clear c133
                        try clear c134
                        try clear c135
                        try clear c136
                        try clear c138
                        try clear c139
                        try clear c140
                        try clear c143
                        try clear c144
                        try clear c145
                        try clear c146
                        try clear c148
                        try clear c149
                        try clear c150
                        try clear hcz101_0
                        try clear hcz101_1
                        try clear hcz103_0
                        try clear hcz103_1
                        try clear hcz112_0
                        try clear hcz112_1
                        try clear hcz114_0
                        try clear hcz114_1
                        try clear hcz118_0
                        try clear hcz118_1
                        try clear hcz129_0
                        try clear hcz129_1
                        try clear hcz137_0
                        try clear hcz137_1
                        try clear hcz13_0
                        try clear hcz13_1
                        try clear hcz141_0
                        try clear hcz141_1
                        try clear hcz147_0
                        try clear hcz147_1
                        try clear hcz151_0
                        try clear hcz151_1
                        try clear hcz15_0
                        try clear hcz15_1
                        try clear hcz23_0
                        try clear hcz23_1
                        try clear hcz25_0
                        try clear hcz25_1
                        try clear hcz31_0
                        try clear hcz31_1
                        try clear hcz39_0
                        try clear hcz39_1
                        try clear hcz46_0
                        try clear hcz46_1
                        try clear hcz49_0
                        try clear hcz49_1
                        try clear hcz54_0
                        try clear hcz54_1
                        try clear hcz57_0
                        try clear hcz57_1
                        try clear hcz5_0
                        try clear hcz5_1
                        try clear hcz73_0
                        try clear hcz73_1
                        try clear hcz81_0
                        try clear hcz81_1
                        try clear hcz84_0
                        try clear hcz84_1
                        try clear hcz89_0
                        try clear hcz89_1
                        try clear hcz92_0
                        try clear hcz92_1
                        try clear hfz101_0
                        try clear hfz101_1
                        try clear hfz103_0
                        try clear hfz103_1
                        try clear hfz112_0
                        try clear hfz112_1
                        try clear hfz114_0
                        try clear hfz114_1
                        try clear hfz118_0
                        try clear hfz118_1
                        try clear hfz129_0
                        try clear hfz129_1
                        try clear hfz137_0
                        try clear hfz137_1
                        try clear hfz13_0
                        try clear hfz13_1
                        try clear hfz141_0
                        try clear hfz141_1
                        try clear hfz147_0
                        try clear hfz147_1
                        try clear hfz151_0
                        try clear hfz151_1
                        try clear hfz15_0
                        try clear hfz15_1
                        try clear hfz23_0
                        try clear hfz23_1
                        try clear hfz25_0
                        try clear hfz25_1
                        try clear hfz31_0
                        try clear hfz31_1
                        try clear hfz39_0
                        try clear hfz39_1
                        try clear hfz46_0
                        try clear hfz46_1
                        try clear hfz49_0
                        try clear hfz49_1
                        try clear hfz54_0
                        try clear hfz54_1
                        try clear hfz57_0
                        try clear hfz57_1
                        try clear hfz5_0
                        try clear hfz5_1
                        try clear hfz73_0
                        try clear hfz73_1
                        try clear hfz81_0
                        try clear hfz81_1
                        try clear hfz84_0
                        try clear hfz84_1
                        try clear hfz89_0
                        try clear hfz89_1
                        try clear hfz92_0
                        try clear hfz92_1
                        try clear p2
                        obtain ⟨kq, x87_107, rfl, HA, HJ107, HO_297000, HO_297001, HO_304000, HO_304001, HO_312000, HO_312001, HO_342000, HO_342001, BK281, BK296, BK303, BK311, BK341, HB⟩ := hcut
                        have hl312000_107 := (rR_ HO_312000.out).1
                        rw [hl312000_107] at HO_312000
                        (try simp only [hl312000_107])
                        (try simp only [hl312000_107] at BK281)
                        (try simp only [hl312000_107] at BK296)
                        (try simp only [hl312000_107] at BK303)
                        (try simp only [hl312000_107] at BK311)
                        (try simp only [hl312000_107] at BK341)
                        (try simp only [hl312000_107] at HO_297000)
                        (try simp only [hl312000_107] at HO_297001)
                        (try simp only [hl312000_107] at HO_304000)
                        (try simp only [hl312000_107] at HO_304001)
                        (try simp only [hl312000_107] at HO_312001)
                        (try simp only [hl312000_107] at HO_342000)
                        (try simp only [hl312000_107] at HO_342001)
                        have hl312001_107 := (rR_ HO_312001.out).1
                        rw [hl312001_107] at HO_312001
                        (try simp only [hl312001_107])
                        (try simp only [hl312001_107] at BK281)
                        (try simp only [hl312001_107] at BK296)
                        (try simp only [hl312001_107] at BK303)
                        (try simp only [hl312001_107] at BK311)
                        (try simp only [hl312001_107] at BK341)
                        (try simp only [hl312001_107] at HO_297000)
                        (try simp only [hl312001_107] at HO_297001)
                        (try simp only [hl312001_107] at HO_304000)
                        (try simp only [hl312001_107] at HO_304001)
                        (try simp only [hl312001_107] at HO_312000)
                        (try simp only [hl312001_107] at HO_342000)
                        (try simp only [hl312001_107] at HO_342001)
                        cases kq with
                        | zero => exact absurd HA.out (by simp [laws_FnExactDropFloor.j2])
                        | succ kj107 =>
                          have H := HA.out
                          clear HA
                          simp only [laws_FnExactDropFloor.j2] at H
                          by_cases c153 : x87_107 = true
                          · subst c153
                            have H1 : (some false) = some r := by rw [if_pos rfl] at H; exact H
                            clear H
                            have H := H1
                            clear H1
                            obtain rfl := Option.some.inj H
                            go_wp2
                            go_ret
                            exact ⟨by first | rfl | (simp [errW_none, errW_some] <;> rfl) | (simp [*, errW_none, errW_some] <;> rfl), by repeat (first | (with_reducible first | exact HB.out | apply bA_ | apply bN_ | apply bD_ | refine bS_ ?_ GE281.out | refine bS_ ?_ GE296.out | refine bS_ ?_ GE303.out | refine bS_ ?_ GE311.out | refine bS_ ?_ GE341.out) | exact HB.out)⟩
                          · replace c153 := Bool.eq_false_iff.mpr c153
                            subst c153
                            have H1 : ((laws_heldHouse.f kj107 t325 t326 1).bind fun t343 => (if t343 < 0 then (some false) else (if t343 = t324 then (some true) else (some false)))) = some r := by rw [if_neg (show ¬ (false = true) by decide)] at H; exact H
                            clear H
                            have H := H1
                            clear H1
                            replace H := Option.bind_eq_some_iff.mp H
                            obtain ⟨t343, A1540, H⟩ := H
                            replace H : (if t343 < 0 then (some false) else (if t343 = t324 then (some true) else (some false))) = some r := H
                            have A154 := Aside0.mk A1540
                            clear A1540
                            by_cases c155 : t343 < 0
                            · rw [if_pos c155] at H
                              have c155b0 : decide (t343 < 0) = true := decide_eq_true c155
                              clear c155
                              obtain rfl := Option.some.inj H
                              have hnb156 := NB311_281.out
                              have hnc156 := NB281_311.out
                              have hnb157 := NB311_296.out
                              have hnc157 := NB296_311.out
                              have hnb158 := NB311_303.out
                              have hnc158 := NB303_311.out
                              have hnb159 := NB311_341.out
                              have hnc159 := NB341_311.out
                              have hcz160_0 : wc.cell? ⟨gb311, 0, none⟩ = some (.slice Ao35 t325.length co35) := (blk_cell BK311.out 0).trans rfl
                              have hcz160_1 : wc.cell? ⟨gb311, 1, none⟩ = some (.slice Ao40 t326.length co40) := (blk_cell BK311.out 1).trans rfl
                              have hfz160_0 := blk_frozen BK311.out 0
                              have hfz160_1 := blk_frozen BK311.out 1
                              go_wp2_with (first | ((with_reducible refine gate_callee (f := 44) rfl ?_); refine goesL_ (some 90) rfl rfl Try.func44 (by kernel_rfl) rfl #[.agg #[.slice Ao35 t325.length co35, .slice Ao40 t326.length co40], .int .i64 1] rfl (by (try simp only [List.map_toArray, List.map_cons, List.map_nil]); first | done | rfl | (simp only [List.length_drop, List.length_take]; rfl)) ?_; (with_reducible refine (laws_heldHouse.calls kj107 _ _ t325 _ _ t326 1 t343 _ ?side1 ?side2 ?side3 ?side4 A154.out).mono ?_); (case side1 => repeat (first | exact (rR_ HO_312000.out).2.2 | (with_reducible refine Kd.C_alloc ?_ _) | (with_reducible refine Kd.C_drewN ?_ _) | (with_reducible refine Kd.C_drew ?_))); (case side2 => exact (rR_ HO_312000.out).2.1); (case side3 => repeat (first | exact (rR_ HO_312001.out).2.2 | (with_reducible refine Kd.C_alloc ?_ _) | (with_reducible refine Kd.C_drewN ?_ _) | (with_reducible refine Kd.C_drew ?_))); (case side4 => exact (rR_ HO_312001.out).2.1); rintro e w161 ⟨rfl, hb⟩; refine ⟨_, rfl, ?_⟩; have n0_ := Aside0.mk (rB_ (by (with_reducible repeat (first | apply rA_ | apply rN_ | apply rD_)); exact HO_297000.out) hb); have n1_ := Aside0.mk (rB_ (by (with_reducible repeat (first | apply rA_ | apply rN_ | apply rD_)); exact HO_297001.out) hb); have n2_ := Aside0.mk (rB_ (by (with_reducible repeat (first | apply rA_ | apply rN_ | apply rD_)); exact HO_304000.out) hb); have n3_ := Aside0.mk (rB_ (by (with_reducible repeat (first | apply rA_ | apply rN_ | apply rD_)); exact HO_304001.out) hb); have n4_ := Aside0.mk (rB_ (by (with_reducible repeat (first | apply rA_ | apply rN_ | apply rD_)); exact HO_312000.out) hb); have n5_ := Aside0.mk (rB_ (by (with_reducible repeat (first | apply rA_ | apply rN_ | apply rD_)); exact HO_312001.out) hb); have n6_ := Aside0.mk (rB_ (by (with_reducible repeat (first | apply rA_ | apply rN_ | apply rD_)); exact HO_342000.out) hb); have n7_ := Aside0.mk (rB_ (by (with_reducible repeat (first | apply rA_ | apply rN_ | apply rD_)); exact HO_342001.out) hb); have n8_ := Aside0.mk (blk_below (g := gb281) (o := .cells #[.slice A0_0 l0_0.length c0_0, .slice A0_1 l0_1.length c0_1] 24 (0, 0)) (by (with_reducible repeat (first | refine kN_ ?_ _ | refine kD_ ?_ | refine kA_ ?_ _)); exact BK281.out) hb); have n9_ := Aside0.mk (blk_below (g := gb296) (o := .cells #[.slice Ao21 t289.length co21, .slice Ao24 t292.length co24] 27 (0, 0)) (by (with_reducible repeat (first | refine kN_ ?_ _ | refine kD_ ?_ | refine kA_ ?_ _)); exact BK296.out) hb); have n10_ := Aside0.mk (blk_below (g := gb303) (o := .cells #[.slice Ao28 t321.length co28, .slice Ao32 t322.length co32] 27 (0, 0)) (by (with_reducible repeat (first | refine kN_ ?_ _ | refine kD_ ?_ | refine kA_ ?_ _)); exact BK303.out) hb); have n11_ := Aside0.mk (blk_below (g := gb311) (o := .cells #[.slice Ao35 t325.length co35, .slice Ao40 t326.length co40] 27 (0, 0)) (by (with_reducible repeat (first | refine kN_ ?_ _ | refine kD_ ?_ | refine kA_ ?_ _)); exact BK311.out) hb); have n12_ := Aside0.mk (blk_below (g := gb341) (o := .cells #[.slice Ao124 t334.length co124, .slice Ao130 t337.length co130] 27 (0, 0)) (by (with_reducible repeat (first | refine kN_ ?_ _ | refine kD_ ?_ | refine kA_ ?_ _)); exact BK341.out) hb); have n13_ := Aside0.mk (below_step (by repeat (first | (with_reducible first | exact HB.out | apply bA_ | apply bN_ | apply bD_ | refine bS_ ?_ GE281.out | refine bS_ ?_ GE296.out | refine bS_ ?_ GE303.out | refine bS_ ?_ GE311.out | refine bS_ ?_ GE341.out) | exact HB.out)) hb); clear HO_297000; clear HO_297001; clear HO_304000; clear HO_304001; clear HO_312000; clear HO_312001; clear HO_342000; clear HO_342001; clear BK281; clear BK296; clear BK303; clear BK311; clear BK341; clear HB; have HO_297000 := n0_; have HO_297001 := n1_; have HO_304000 := n2_; have HO_304001 := n3_; have HO_312000 := n4_; have HO_312001 := n5_; have HO_342000 := n6_; have HO_342001 := n7_; have BK281 := n8_; have BK296 := n9_; have BK303 := n10_; have BK311 := n11_; have BK341 := n12_; have HB := n13_; clear n0_ n1_ n2_ n3_ n4_ n5_ n6_ n7_ n8_ n9_ n10_ n11_ n12_ n13_; (try clear hb); (try clear hb2); (try clear hk); (try clear hi)))
                              go_ret
                              exact ⟨by first | rfl | (simp [errW_none, errW_some] <;> rfl) | (simp [*, errW_none, errW_some] <;> rfl), by repeat (first | (with_reducible first | exact HB.out | apply bA_ | apply bN_ | apply bD_ | refine bS_ ?_ GE281.out | refine bS_ ?_ GE296.out | refine bS_ ?_ GE303.out | refine bS_ ?_ GE311.out | refine bS_ ?_ GE341.out) | exact HB.out)⟩
                            · rw [if_neg c155] at H
                              have c155b0 : decide (t343 < 0) = false := decide_eq_false c155
                              clear c155
                              by_cases c162 : t343 = t324
                              · rw [if_pos c162] at H
                                have c162b0 : (t343 == t324) = true := beq_iff_eq.mpr c162
                                have c162b1 : (t343 != t324) = false := bne_eq_false_iff_eq.mpr c162
                                clear c162
                                obtain rfl := Option.some.inj H
                                have hnb163 := NB311_281.out
                                have hnc163 := NB281_311.out
                                have hnb164 := NB311_296.out
                                have hnc164 := NB296_311.out
                                have hnb165 := NB311_303.out
                                have hnc165 := NB303_311.out
                                have hnb166 := NB311_341.out
                                have hnc166 := NB341_311.out
                                have hcz167_0 : wc.cell? ⟨gb311, 0, none⟩ = some (.slice Ao35 t325.length co35) := (blk_cell BK311.out 0).trans rfl
                                have hcz167_1 : wc.cell? ⟨gb311, 1, none⟩ = some (.slice Ao40 t326.length co40) := (blk_cell BK311.out 1).trans rfl
                                have hfz167_0 := blk_frozen BK311.out 0
                                have hfz167_1 := blk_frozen BK311.out 1
                                go_wp2_with (first | ((with_reducible refine gate_callee (f := 44) rfl ?_); refine goesL_ (some 90) rfl rfl Try.func44 (by kernel_rfl) rfl #[.agg #[.slice Ao35 t325.length co35, .slice Ao40 t326.length co40], .int .i64 1] rfl (by (try simp only [List.map_toArray, List.map_cons, List.map_nil]); first | done | rfl | (simp only [List.length_drop, List.length_take]; rfl)) ?_; (with_reducible refine (laws_heldHouse.calls kj107 _ _ t325 _ _ t326 1 t343 _ ?side1 ?side2 ?side3 ?side4 A154.out).mono ?_); (case side1 => repeat (first | exact (rR_ HO_312000.out).2.2 | (with_reducible refine Kd.C_alloc ?_ _) | (with_reducible refine Kd.C_drewN ?_ _) | (with_reducible refine Kd.C_drew ?_))); (case side2 => exact (rR_ HO_312000.out).2.1); (case side3 => repeat (first | exact (rR_ HO_312001.out).2.2 | (with_reducible refine Kd.C_alloc ?_ _) | (with_reducible refine Kd.C_drewN ?_ _) | (with_reducible refine Kd.C_drew ?_))); (case side4 => exact (rR_ HO_312001.out).2.1); rintro e w168 ⟨rfl, hb⟩; refine ⟨_, rfl, ?_⟩; have n0_ := Aside0.mk (rB_ (by (with_reducible repeat (first | apply rA_ | apply rN_ | apply rD_)); exact HO_297000.out) hb); have n1_ := Aside0.mk (rB_ (by (with_reducible repeat (first | apply rA_ | apply rN_ | apply rD_)); exact HO_297001.out) hb); have n2_ := Aside0.mk (rB_ (by (with_reducible repeat (first | apply rA_ | apply rN_ | apply rD_)); exact HO_304000.out) hb); have n3_ := Aside0.mk (rB_ (by (with_reducible repeat (first | apply rA_ | apply rN_ | apply rD_)); exact HO_304001.out) hb); have n4_ := Aside0.mk (rB_ (by (with_reducible repeat (first | apply rA_ | apply rN_ | apply rD_)); exact HO_312000.out) hb); have n5_ := Aside0.mk (rB_ (by (with_reducible repeat (first | apply rA_ | apply rN_ | apply rD_)); exact HO_312001.out) hb); have n6_ := Aside0.mk (rB_ (by (with_reducible repeat (first | apply rA_ | apply rN_ | apply rD_)); exact HO_342000.out) hb); have n7_ := Aside0.mk (rB_ (by (with_reducible repeat (first | apply rA_ | apply rN_ | apply rD_)); exact HO_342001.out) hb); have n8_ := Aside0.mk (blk_below (g := gb281) (o := .cells #[.slice A0_0 l0_0.length c0_0, .slice A0_1 l0_1.length c0_1] 24 (0, 0)) (by (with_reducible repeat (first | refine kN_ ?_ _ | refine kD_ ?_ | refine kA_ ?_ _)); exact BK281.out) hb); have n9_ := Aside0.mk (blk_below (g := gb296) (o := .cells #[.slice Ao21 t289.length co21, .slice Ao24 t292.length co24] 27 (0, 0)) (by (with_reducible repeat (first | refine kN_ ?_ _ | refine kD_ ?_ | refine kA_ ?_ _)); exact BK296.out) hb); have n10_ := Aside0.mk (blk_below (g := gb303) (o := .cells #[.slice Ao28 t321.length co28, .slice Ao32 t322.length co32] 27 (0, 0)) (by (with_reducible repeat (first | refine kN_ ?_ _ | refine kD_ ?_ | refine kA_ ?_ _)); exact BK303.out) hb); have n11_ := Aside0.mk (blk_below (g := gb311) (o := .cells #[.slice Ao35 t325.length co35, .slice Ao40 t326.length co40] 27 (0, 0)) (by (with_reducible repeat (first | refine kN_ ?_ _ | refine kD_ ?_ | refine kA_ ?_ _)); exact BK311.out) hb); have n12_ := Aside0.mk (blk_below (g := gb341) (o := .cells #[.slice Ao124 t334.length co124, .slice Ao130 t337.length co130] 27 (0, 0)) (by (with_reducible repeat (first | refine kN_ ?_ _ | refine kD_ ?_ | refine kA_ ?_ _)); exact BK341.out) hb); have n13_ := Aside0.mk (below_step (by repeat (first | (with_reducible first | exact HB.out | apply bA_ | apply bN_ | apply bD_ | refine bS_ ?_ GE281.out | refine bS_ ?_ GE296.out | refine bS_ ?_ GE303.out | refine bS_ ?_ GE311.out | refine bS_ ?_ GE341.out) | exact HB.out)) hb); clear HO_297000; clear HO_297001; clear HO_304000; clear HO_304001; clear HO_312000; clear HO_312001; clear HO_342000; clear HO_342001; clear BK281; clear BK296; clear BK303; clear BK311; clear BK341; clear HB; have HO_297000 := n0_; have HO_297001 := n1_; have HO_304000 := n2_; have HO_304001 := n3_; have HO_312000 := n4_; have HO_312001 := n5_; have HO_342000 := n6_; have HO_342001 := n7_; have BK281 := n8_; have BK296 := n9_; have BK303 := n10_; have BK311 := n11_; have BK341 := n12_; have HB := n13_; clear n0_ n1_ n2_ n3_ n4_ n5_ n6_ n7_ n8_ n9_ n10_ n11_ n12_ n13_; (try clear hb); (try clear hb2); (try clear hk); (try clear hi)))
                                go_ret
                                exact ⟨by first | rfl | (simp [errW_none, errW_some] <;> rfl) | (simp [*, errW_none, errW_some] <;> rfl), by repeat (first | (with_reducible first | exact HB.out | apply bA_ | apply bN_ | apply bD_ | refine bS_ ?_ GE281.out | refine bS_ ?_ GE296.out | refine bS_ ?_ GE303.out | refine bS_ ?_ GE311.out | refine bS_ ?_ GE341.out) | exact HB.out)⟩
                              · rw [if_neg c162] at H
                                have c162b0 : (t343 == t324) = false := beq_eq_false_iff_ne.mpr c162
                                have c162b1 : (t343 != t324) = true := bne_iff_ne.mpr c162
                                obtain rfl := Option.some.inj H
                                have hnb169 := NB311_281.out
                                have hnc169 := NB281_311.out
                                have hnb170 := NB311_296.out
                                have hnc170 := NB296_311.out
                                have hnb171 := NB311_303.out
                                have hnc171 := NB303_311.out
                                have hnb172 := NB311_341.out
                                have hnc172 := NB341_311.out
                                have hcz173_0 : wc.cell? ⟨gb311, 0, none⟩ = some (.slice Ao35 t325.length co35) := (blk_cell BK311.out 0).trans rfl
                                have hcz173_1 : wc.cell? ⟨gb311, 1, none⟩ = some (.slice Ao40 t326.length co40) := (blk_cell BK311.out 1).trans rfl
                                have hfz173_0 := blk_frozen BK311.out 0
                                have hfz173_1 := blk_frozen BK311.out 1
                                go_wp2_with (first | ((with_reducible refine gate_callee (f := 44) rfl ?_); refine goesL_ (some 90) rfl rfl Try.func44 (by kernel_rfl) rfl #[.agg #[.slice Ao35 t325.length co35, .slice Ao40 t326.length co40], .int .i64 1] rfl (by (try simp only [List.map_toArray, List.map_cons, List.map_nil]); first | done | rfl | (simp only [List.length_drop, List.length_take]; rfl)) ?_; (with_reducible refine (laws_heldHouse.calls kj107 _ _ t325 _ _ t326 1 t343 _ ?side1 ?side2 ?side3 ?side4 A154.out).mono ?_); (case side1 => repeat (first | exact (rR_ HO_312000.out).2.2 | (with_reducible refine Kd.C_alloc ?_ _) | (with_reducible refine Kd.C_drewN ?_ _) | (with_reducible refine Kd.C_drew ?_))); (case side2 => exact (rR_ HO_312000.out).2.1); (case side3 => repeat (first | exact (rR_ HO_312001.out).2.2 | (with_reducible refine Kd.C_alloc ?_ _) | (with_reducible refine Kd.C_drewN ?_ _) | (with_reducible refine Kd.C_drew ?_))); (case side4 => exact (rR_ HO_312001.out).2.1); rintro e w174 ⟨rfl, hb⟩; refine ⟨_, rfl, ?_⟩; have n0_ := Aside0.mk (rB_ (by (with_reducible repeat (first | apply rA_ | apply rN_ | apply rD_)); exact HO_297000.out) hb); have n1_ := Aside0.mk (rB_ (by (with_reducible repeat (first | apply rA_ | apply rN_ | apply rD_)); exact HO_297001.out) hb); have n2_ := Aside0.mk (rB_ (by (with_reducible repeat (first | apply rA_ | apply rN_ | apply rD_)); exact HO_304000.out) hb); have n3_ := Aside0.mk (rB_ (by (with_reducible repeat (first | apply rA_ | apply rN_ | apply rD_)); exact HO_304001.out) hb); have n4_ := Aside0.mk (rB_ (by (with_reducible repeat (first | apply rA_ | apply rN_ | apply rD_)); exact HO_312000.out) hb); have n5_ := Aside0.mk (rB_ (by (with_reducible repeat (first | apply rA_ | apply rN_ | apply rD_)); exact HO_312001.out) hb); have n6_ := Aside0.mk (rB_ (by (with_reducible repeat (first | apply rA_ | apply rN_ | apply rD_)); exact HO_342000.out) hb); have n7_ := Aside0.mk (rB_ (by (with_reducible repeat (first | apply rA_ | apply rN_ | apply rD_)); exact HO_342001.out) hb); have n8_ := Aside0.mk (blk_below (g := gb281) (o := .cells #[.slice A0_0 l0_0.length c0_0, .slice A0_1 l0_1.length c0_1] 24 (0, 0)) (by (with_reducible repeat (first | refine kN_ ?_ _ | refine kD_ ?_ | refine kA_ ?_ _)); exact BK281.out) hb); have n9_ := Aside0.mk (blk_below (g := gb296) (o := .cells #[.slice Ao21 t289.length co21, .slice Ao24 t292.length co24] 27 (0, 0)) (by (with_reducible repeat (first | refine kN_ ?_ _ | refine kD_ ?_ | refine kA_ ?_ _)); exact BK296.out) hb); have n10_ := Aside0.mk (blk_below (g := gb303) (o := .cells #[.slice Ao28 t321.length co28, .slice Ao32 t322.length co32] 27 (0, 0)) (by (with_reducible repeat (first | refine kN_ ?_ _ | refine kD_ ?_ | refine kA_ ?_ _)); exact BK303.out) hb); have n11_ := Aside0.mk (blk_below (g := gb311) (o := .cells #[.slice Ao35 t325.length co35, .slice Ao40 t326.length co40] 27 (0, 0)) (by (with_reducible repeat (first | refine kN_ ?_ _ | refine kD_ ?_ | refine kA_ ?_ _)); exact BK311.out) hb); have n12_ := Aside0.mk (blk_below (g := gb341) (o := .cells #[.slice Ao124 t334.length co124, .slice Ao130 t337.length co130] 27 (0, 0)) (by (with_reducible repeat (first | refine kN_ ?_ _ | refine kD_ ?_ | refine kA_ ?_ _)); exact BK341.out) hb); have n13_ := Aside0.mk (below_step (by repeat (first | (with_reducible first | exact HB.out | apply bA_ | apply bN_ | apply bD_ | refine bS_ ?_ GE281.out | refine bS_ ?_ GE296.out | refine bS_ ?_ GE303.out | refine bS_ ?_ GE311.out | refine bS_ ?_ GE341.out) | exact HB.out)) hb); clear HO_297000; clear HO_297001; clear HO_304000; clear HO_304001; clear HO_312000; clear HO_312001; clear HO_342000; clear HO_342001; clear BK281; clear BK296; clear BK303; clear BK311; clear BK341; clear HB; have HO_297000 := n0_; have HO_297001 := n1_; have HO_304000 := n2_; have HO_304001 := n3_; have HO_312000 := n4_; have HO_312001 := n5_; have HO_342000 := n6_; have HO_342001 := n7_; have BK281 := n8_; have BK296 := n9_; have BK303 := n10_; have BK311 := n11_; have BK341 := n12_; have HB := n13_; clear n0_ n1_ n2_ n3_ n4_ n5_ n6_ n7_ n8_ n9_ n10_ n11_ n12_ n13_; (try clear hb); (try clear hb2); (try clear hk); (try clear hi)))
                                go_ret
                                exact ⟨by first | rfl | (simp [errW_none, errW_some] <;> rfl) | (simp [*, errW_none, errW_some] <;> rfl), by repeat (first | (with_reducible first | exact HB.out | apply bA_ | apply bN_ | apply bD_ | refine bS_ ?_ GE281.out | refine bS_ ?_ GE296.out | refine bS_ ?_ GE303.out | refine bS_ ?_ GE311.out | refine bS_ ?_ GE341.out) | exact HB.out)⟩
                    · rw [if_neg c105] at H
                      have c105b0 : (t327 == t324) = false := beq_eq_false_iff_ne.mpr c105
                      have c105b1 : (t327 != t324) = true := bne_iff_ne.mpr c105
                      obtain rfl := Option.some.inj H
                      have hnb175 := NB311_281.out
                      have hnc175 := NB281_311.out
                      have hnb176 := NB311_296.out
                      have hnc176 := NB296_311.out
                      have hnb177 := NB311_303.out
                      have hnc177 := NB303_311.out
                      have hcz178_0 : wc.cell? ⟨gb311, 0, none⟩ = some (.slice Ao35 t304.length co35) := (blk_cell BK311.out 0).trans rfl
                      have hcz178_1 : wc.cell? ⟨gb311, 1, none⟩ = some (.slice Ao40 t307.length co40) := (blk_cell BK311.out 1).trans rfl
                      have hfz178_0 := blk_frozen BK311.out 0
                      have hfz178_1 := blk_frozen BK311.out 1
                      go_wp2_with (first | ((with_reducible refine gate_callee (f := 39) rfl ?_); refine goesL_ (some 64) rfl rfl Try.func39 (by kernel_rfl) rfl #[.agg #[.slice Ao35 t304.length co35, .slice Ao40 t307.length co40], .int .i64 1] rfl (by (try simp only [List.map_toArray, List.map_cons, List.map_nil]); first | done | rfl | (simp only [List.length_drop, List.length_take]; rfl)) ?_; (with_reducible refine (laws_markHouse.calls kj63 (fun k_ => some k_ = (.slice Ao35 t304.length co35 : Value).ownBlock) (.slice Ao35 t304.length co35) t304 (fun k_ => some k_ = (.slice Ao40 t307.length co40 : Value).ownBlock) (.slice Ao40 t307.length co40) t307 1 t324 t325 t326 w _ ?side1 ?side2 ?side3 ?side4 ?side5 A95.out).mono ?_); (case side1 => repeat (first | (with_reducible first | exact HB.out | apply bA_ | apply bN_ | apply bD_ | refine bS_ ?_ GE281.out | refine bS_ ?_ GE296.out | refine bS_ ?_ GE303.out | refine bS_ ?_ GE311.out) | exact HB.out)); (case side2 => exact Kd.R_tight rfl HO_312000.out); (case side3 => exact fun k_ e_ => (HO_312000.out.1 k_ e_.symm).2.2.2.2); (case side4 => exact Kd.R_tight rfl HO_312001.out); (case side5 => exact fun k_ e_ => (HO_312001.out.1 k_ e_.symm).2.2.2.2); rintro e w179 ⟨rfl, hy0, hy1, hb, hkp⟩; refine ⟨_, rfl, ?_⟩; have n0_ := Aside0.mk (rM_ (ok' := fun k_ => some k_ ≠ (.slice Ao24 t292.length co24 : Value).ownBlock ∧ some k_ ≠ (.slice Ao28 t321.length co28 : Value).ownBlock ∧ some k_ ≠ (.slice Ao32 t322.length co32 : Value).ownBlock ∧ some k_ ≠ (.slice Ao35 t304.length co35 : Value).ownBlock ∧ some k_ ≠ (.slice Ao40 t307.length co40 : Value).ownBlock) (Kd.R_keptB (HO_297000.out) hkp (fun k_ hk_ hs_ => Or.elim hs_ (fun e_ => (hk_.2.2.2.1) e_) (fun e_ => (hk_.2.2.2.2) e_))) (fun k_ hk_ => ⟨hk_.1.1, hk_.1.2.1, hk_.1.2.2.1, hk_.1.2.2.2.1, hk_.1.2.2.2.2⟩)); have n1_ := Aside0.mk (rM_ (ok' := fun k_ => some k_ ≠ (.slice Ao21 t289.length co21 : Value).ownBlock ∧ some k_ ≠ (.slice Ao28 t321.length co28 : Value).ownBlock ∧ some k_ ≠ (.slice Ao32 t322.length co32 : Value).ownBlock ∧ some k_ ≠ (.slice Ao35 t304.length co35 : Value).ownBlock ∧ some k_ ≠ (.slice Ao40 t307.length co40 : Value).ownBlock) (Kd.R_keptB (HO_297001.out) hkp (fun k_ hk_ hs_ => Or.elim hs_ (fun e_ => (hk_.2.2.2.1) e_) (fun e_ => (hk_.2.2.2.2) e_))) (fun k_ hk_ => ⟨hk_.1.1, hk_.1.2.1, hk_.1.2.2.1, hk_.1.2.2.2.1, hk_.1.2.2.2.2⟩)); have n2_ := Aside0.mk (rM_ (ok' := fun k_ => some k_ ≠ (.slice Ao21 t289.length co21 : Value).ownBlock ∧ some k_ ≠ (.slice Ao24 t292.length co24 : Value).ownBlock ∧ some k_ ≠ (.slice Ao32 t322.length co32 : Value).ownBlock ∧ some k_ ≠ (.slice Ao35 t304.length co35 : Value).ownBlock ∧ some k_ ≠ (.slice Ao40 t307.length co40 : Value).ownBlock) (Kd.R_keptB (HO_304000.out) hkp (fun k_ hk_ hs_ => Or.elim hs_ (fun e_ => (hk_.2.2.2.1) e_) (fun e_ => (hk_.2.2.2.2) e_))) (fun k_ hk_ => ⟨hk_.1.1, hk_.1.2.1, hk_.1.2.2.1, hk_.1.2.2.2.1, hk_.1.2.2.2.2⟩)); have n3_ := Aside0.mk (rM_ (ok' := fun k_ => some k_ ≠ (.slice Ao21 t289.length co21 : Value).ownBlock ∧ some k_ ≠ (.slice Ao24 t292.length co24 : Value).ownBlock ∧ some k_ ≠ (.slice Ao28 t321.length co28 : Value).ownBlock ∧ some k_ ≠ (.slice Ao35 t304.length co35 : Value).ownBlock ∧ some k_ ≠ (.slice Ao40 t307.length co40 : Value).ownBlock) (Kd.R_keptB (HO_304001.out) hkp (fun k_ hk_ hs_ => Or.elim hs_ (fun e_ => (hk_.2.2.2.1) e_) (fun e_ => (hk_.2.2.2.2) e_))) (fun k_ hk_ => ⟨hk_.1.1, hk_.1.2.1, hk_.1.2.2.1, hk_.1.2.2.2.1, hk_.1.2.2.2.2⟩)); have n4_ := Aside0.mk (Kd.R_reok rfl hy0 (fun k_ e_ => HO_312000.out.1 k_ e_)); have n5_ := Aside0.mk (Kd.R_reok rfl hy1 (fun k_ e_ => HO_312001.out.1 k_ e_)); have n6_ := Aside0.mk (blk_kept (by (with_reducible repeat (first | refine kN_ ?_ _ | refine kD_ ?_ | refine kA_ ?_ _)); exact BK281.out) hkp (fun hs_ => Or.elim hs_ (fun e_ => (fun e_ => (Kd.R_ne HO_312000.out BK281.out (by decide)) e_) e_) (fun e_ => (fun e_ => (Kd.R_ne HO_312001.out BK281.out (by decide)) e_) e_))); have n7_ := Aside0.mk (blk_kept (by (with_reducible repeat (first | refine kN_ ?_ _ | refine kD_ ?_ | refine kA_ ?_ _)); exact BK296.out) hkp (fun hs_ => Or.elim hs_ (fun e_ => (fun e_ => (Kd.R_ne HO_312000.out BK296.out (by decide)) e_) e_) (fun e_ => (fun e_ => (Kd.R_ne HO_312001.out BK296.out (by decide)) e_) e_))); have n8_ := Aside0.mk (blk_kept (by (with_reducible repeat (first | refine kN_ ?_ _ | refine kD_ ?_ | refine kA_ ?_ _)); exact BK303.out) hkp (fun hs_ => Or.elim hs_ (fun e_ => (fun e_ => (Kd.R_ne HO_312000.out BK303.out (by decide)) e_) e_) (fun e_ => (fun e_ => (Kd.R_ne HO_312001.out BK303.out (by decide)) e_) e_))); have n9_ := Aside0.mk (blk_kept (by (with_reducible repeat (first | refine kN_ ?_ _ | refine kD_ ?_ | refine kA_ ?_ _)); exact BK311.out) hkp (fun hs_ => Or.elim hs_ (fun e_ => (fun e_ => (Kd.R_ne HO_312000.out BK311.out (by decide)) e_) e_) (fun e_ => (fun e_ => (Kd.R_ne HO_312001.out BK311.out (by decide)) e_) e_))); have n10_ := Aside0.mk (hb); clear HO_297000; clear HO_297001; clear HO_304000; clear HO_304001; clear HO_312000; clear HO_312001; clear BK281; clear BK296; clear BK303; clear BK311; clear HB; have HO_297000 := n0_; have HO_297001 := n1_; have HO_304000 := n2_; have HO_304001 := n3_; have HO_312000 := n4_; have HO_312001 := n5_; have BK281 := n6_; have BK296 := n7_; have BK303 := n8_; have BK311 := n9_; have HB := n10_; clear n0_ n1_ n2_ n3_ n4_ n5_ n6_ n7_ n8_ n9_ n10_; (try clear hb); (try clear hkp); (try clear hy0); (try clear hy1); have hcz180_0 : w179.cell? ⟨gb311, 0, none⟩ = some (.slice Ao35 t304.length co35) := (blk_cell BK311.out 0).trans rfl; have hcz180_1 : w179.cell? ⟨gb311, 1, none⟩ = some (.slice Ao40 t307.length co40) := (blk_cell BK311.out 1).trans rfl; have hfz180_0 := blk_frozen BK311.out 0; have hfz180_1 := blk_frozen BK311.out 1) | ((with_reducible refine gate_callee (f := 44) rfl ?_); refine goesL_ (some 67) rfl rfl Try.func44 (by kernel_rfl) rfl #[.agg #[.slice Ao35 t325.length co35, .slice Ao40 t326.length co40], .int .i64 1] rfl (by (try simp only [List.map_toArray, List.map_cons, List.map_nil]); first | done | (rw [show t325.length = t304.length from (rR_ HO_312000.out).1.symm, show t326.length = t307.length from (rR_ HO_312001.out).1.symm] <;> rfl) | rfl | (simp only [List.length_drop, List.length_take]; rfl)) ?_; (with_reducible refine (laws_heldHouse.calls kj63 _ _ t325 _ _ t326 1 t327 _ ?side1 ?side2 ?side3 ?side4 A96.out).mono ?_); (case side1 => repeat (first | exact (rR_ HO_312000.out).2.2 | (with_reducible refine Kd.C_alloc ?_ _) | (with_reducible refine Kd.C_drewN ?_ _) | (with_reducible refine Kd.C_drew ?_))); (case side2 => rw [show t325.length = t304.length from (rR_ HO_312000.out).1.symm]; exact (rR_ HO_312000.out).2.1); (case side3 => repeat (first | exact (rR_ HO_312001.out).2.2 | (with_reducible refine Kd.C_alloc ?_ _) | (with_reducible refine Kd.C_drewN ?_ _) | (with_reducible refine Kd.C_drew ?_))); (case side4 => rw [show t326.length = t307.length from (rR_ HO_312001.out).1.symm]; exact (rR_ HO_312001.out).2.1); rintro e w181 ⟨rfl, hb⟩; refine ⟨_, rfl, ?_⟩; have n0_ := Aside0.mk (rB_ (by (with_reducible repeat (first | apply rA_ | apply rN_ | apply rD_)); exact HO_297000.out) hb); have n1_ := Aside0.mk (rB_ (by (with_reducible repeat (first | apply rA_ | apply rN_ | apply rD_)); exact HO_297001.out) hb); have n2_ := Aside0.mk (rB_ (by (with_reducible repeat (first | apply rA_ | apply rN_ | apply rD_)); exact HO_304000.out) hb); have n3_ := Aside0.mk (rB_ (by (with_reducible repeat (first | apply rA_ | apply rN_ | apply rD_)); exact HO_304001.out) hb); have n4_ := Aside0.mk (rB_ (by (with_reducible repeat (first | apply rA_ | apply rN_ | apply rD_)); exact HO_312000.out) hb); have n5_ := Aside0.mk (rB_ (by (with_reducible repeat (first | apply rA_ | apply rN_ | apply rD_)); exact HO_312001.out) hb); have n6_ := Aside0.mk (blk_below (g := gb281) (o := .cells #[.slice A0_0 l0_0.length c0_0, .slice A0_1 l0_1.length c0_1] 24 (0, 0)) (by (with_reducible repeat (first | refine kN_ ?_ _ | refine kD_ ?_ | refine kA_ ?_ _)); exact BK281.out) hb); have n7_ := Aside0.mk (blk_below (g := gb296) (o := .cells #[.slice Ao21 t289.length co21, .slice Ao24 t292.length co24] 27 (0, 0)) (by (with_reducible repeat (first | refine kN_ ?_ _ | refine kD_ ?_ | refine kA_ ?_ _)); exact BK296.out) hb); have n8_ := Aside0.mk (blk_below (g := gb303) (o := .cells #[.slice Ao28 t321.length co28, .slice Ao32 t322.length co32] 27 (0, 0)) (by (with_reducible repeat (first | refine kN_ ?_ _ | refine kD_ ?_ | refine kA_ ?_ _)); exact BK303.out) hb); have n9_ := Aside0.mk (blk_below (g := gb311) (o := .cells #[.slice Ao35 t304.length co35, .slice Ao40 t307.length co40] 27 (0, 0)) (by (with_reducible repeat (first | refine kN_ ?_ _ | refine kD_ ?_ | refine kA_ ?_ _)); exact BK311.out) hb); have n10_ := Aside0.mk (below_step (by repeat (first | (with_reducible first | exact HB.out | apply bA_ | apply bN_ | apply bD_ | refine bS_ ?_ GE281.out | refine bS_ ?_ GE296.out | refine bS_ ?_ GE303.out | refine bS_ ?_ GE311.out) | exact HB.out)) hb); clear HO_297000; clear HO_297001; clear HO_304000; clear HO_304001; clear HO_312000; clear HO_312001; clear BK281; clear BK296; clear BK303; clear BK311; clear HB; have HO_297000 := n0_; have HO_297001 := n1_; have HO_304000 := n2_; have HO_304001 := n3_; have HO_312000 := n4_; have HO_312001 := n5_; have BK281 := n6_; have BK296 := n7_; have BK303 := n8_; have BK311 := n9_; have HB := n10_; clear n0_ n1_ n2_ n3_ n4_ n5_ n6_ n7_ n8_ n9_ n10_; (try clear hb); (try clear hb2); (try clear hk); (try clear hi)))
                      go_ret
                      exact ⟨by first | rfl | (simp [errW_none, errW_some] <;> rfl) | (simp [*, errW_none, errW_some] <;> rfl), by repeat (first | (with_reducible first | exact HB.out | apply bA_ | apply bN_ | apply bD_ | refine bS_ ?_ GE281.out | refine bS_ ?_ GE296.out | refine bS_ ?_ GE303.out | refine bS_ ?_ GE311.out) | exact HB.out)⟩
          · replace c62 := Bool.eq_false_iff.mpr c62
            subst c62
            have H1 : (some false) = some r := by rw [if_neg (show ¬ (false = true) by decide)] at H; exact H
            clear H
            have H := H1
            clear H1
            obtain rfl := Option.some.inj H
            try go_wp2
            have n0_ := Aside0.mk (rD_ HO_297000.out)
            have n1_ := Aside0.mk (rD_ HO_297001.out)
            have n2_ := Aside0.mk (rD_ HO_304000.out)
            have n3_ := Aside0.mk (rD_ HO_304001.out)
            have n4_ := Aside0.mk (rD_ HO_312000.out)
            have n5_ := Aside0.mk (rD_ HO_312001.out)
            have n6_ := Aside0.mk (kD_ BK281.out)
            have n7_ := Aside0.mk (kD_ BK296.out)
            have n8_ := Aside0.mk (kD_ BK303.out)
            have n9_ := Aside0.mk (kD_ BK311.out)
            have n10_ := Aside0.mk (bD_ HB.out)
            clear HO_297000
            clear HO_297001
            clear HO_304000
            clear HO_304001
            clear HO_312000
            clear HO_312001
            clear BK281
            clear BK296
            clear BK303
            clear BK311
            clear HB
            have HO_297000 := n0_
            have HO_297001 := n1_
            have HO_304000 := n2_
            have HO_304001 := n3_
            have HO_312000 := n4_
            have HO_312001 := n5_
            have BK281 := n6_
            have BK296 := n7_
            have BK303 := n8_
            have BK311 := n9_
            have HB := n10_
            clear n0_ n1_ n2_ n3_ n4_ n5_ n6_ n7_ n8_ n9_ n10_
            refine start_ (n := 5) (S := fun w' => w'.cell? ⟨gb303, 0, none⟩ = some (.slice Ao28 t297.length co28) ∧ w'.cell? ⟨gb303, 1, none⟩ = some (.slice Ao32 t300.length co32) ∧ w'.cell? ⟨gb281, 0, none⟩ = some (.slice A0_0 l0_0.length c0_0) ∧ w'.cell? ⟨gb281, 1, none⟩ = some (.slice A0_1 l0_1.length c0_1)) (ds := []) #[false, false, false, false, false] (by kernel_rfl) rfl rfl ⟨(blk_cell BK303.out 0).trans rfl, (blk_cell BK303.out 1).trans rfl, (blk_cell BK281.out 0).trans rfl, (blk_cell BK281.out 1).trans rfl⟩ (fun hHeld => ?_)
            generalize wc.drew = w182 at HO_297000 HO_297001 HO_304000 HO_304001 HO_312000 HO_312001 BK281 BK296 BK303 BK311 HB hHeld ⊢
            refine take_ (i := 0) (N := some 41) (v := ?_) (a' := ?_) #[true, false, false, false, false] rfl rfl (by kernel_rfl) (fun _ _ _ h => h) (Or.inl ⟨by rfl, ?_⟩) hHeld ?_ ?_
            rotate_left
            · rintro w' ⟨s0, s1, s2, s3⟩
              go_simp
              with_reducible rfl
            rotate_left
            · simp only [Act.put, List.setIfInBounds_toArray, List.set_cons_zero, List.set_cons_succ, i64_w, i32_w]
              rfl
            refine take_ (i := 1) (N := some 42) (v := ?_) (a' := ?_) #[true, true, false, false, false] rfl rfl (by kernel_rfl) (fun _ _ _ h => h) (Or.inl ⟨by rfl, ?_⟩) hHeld ?_ ?_
            rotate_left
            · rintro w' ⟨s0, s1, s2, s3⟩
              go_simp
              with_reducible rfl
            rotate_left
            · simp only [Act.put, List.setIfInBounds_toArray, List.set_cons_zero, List.set_cons_succ, i64_w, i32_w]
              rfl
            refine one_ (i := 2) (N := some 43) #[true, true, true, false, false] rfl rfl (by kernel_rfl) (by decide) (fun K hK => ?_)
            refine goes_ Try.func17 (by kernel_rfl) rfl #[.agg #[.slice A0_0 l0_0.length c0_0, .slice A0_1 l0_1.length c0_1]] (by rfl) rfl rfl (by (try simp only [List.map_toArray, List.map_cons, List.map_nil]); first | done | rfl | (simp only [List.length_drop, List.length_take]; rfl)) ?_
            with_reducible refine (laws_toHouse.calls kj10 _ _ l0_0 _ _ l0_1 t313 t316 _ ?side1 ?side2 ?side3 ?side4 A60.out).mono ?_
            (case side1 => repeat (first | exact (Kd.C_below HR0_0.out HB.out) | (with_reducible refine Kd.C_alloc ?_ _) | (with_reducible refine Kd.C_drewN ?_ _) | (with_reducible refine Kd.C_drew ?_)))
            (case side2 => exact HC0_0.out)
            (case side3 => repeat (first | exact (Kd.C_below HR0_1.out HB.out) | (with_reducible refine Kd.C_alloc ?_ _) | (with_reducible refine Kd.C_drewN ?_ _) | (with_reducible refine Kd.C_drew ?_)))
            (case side4 => exact HC0_1.out)
            rintro e w183 ⟨v314, v317, rfl, ho0, ho1, hb⟩
            refine ⟨_, rfl, ?_⟩
            have n0_ := Aside0.mk (rM_ (Kd.R_told (Kd.R_told (Kd.R_old (by (with_reducible repeat (first | apply rA_ | apply rN_ | apply rD_)); exact HO_297000.out) hb) (Kd.R_base ho0)) (Kd.R_base ho1)) (fun _ h_ => h_.1))
            have n1_ := Aside0.mk (rM_ (Kd.R_told (Kd.R_told (Kd.R_old (by (with_reducible repeat (first | apply rA_ | apply rN_ | apply rD_)); exact HO_297001.out) hb) (Kd.R_base ho0)) (Kd.R_base ho1)) (fun _ h_ => h_.1))
            have n2_ := Aside0.mk (rM_ (Kd.R_told (Kd.R_told (Kd.R_old (by (with_reducible repeat (first | apply rA_ | apply rN_ | apply rD_)); exact HO_304000.out) hb) (Kd.R_base ho0)) (Kd.R_base ho1)) (fun _ h_ => h_.1))
            have n3_ := Aside0.mk (rM_ (Kd.R_told (Kd.R_told (Kd.R_old (by (with_reducible repeat (first | apply rA_ | apply rN_ | apply rD_)); exact HO_304001.out) hb) (Kd.R_base ho0)) (Kd.R_base ho1)) (fun _ h_ => h_.1))
            have n4_ := Aside0.mk (rM_ (Kd.R_told (Kd.R_told (Kd.R_old (by (with_reducible repeat (first | apply rA_ | apply rN_ | apply rD_)); exact HO_312000.out) hb) (Kd.R_base ho0)) (Kd.R_base ho1)) (fun _ h_ => h_.1))
            have n5_ := Aside0.mk (rM_ (Kd.R_told (Kd.R_told (Kd.R_old (by (with_reducible repeat (first | apply rA_ | apply rN_ | apply rD_)); exact HO_312001.out) hb) (Kd.R_base ho0)) (Kd.R_base ho1)) (fun _ h_ => h_.1))
            have n6_ := Aside0.mk (Kd.R_lower (Kd.R_new' (Kd.R_new' (Kd.R_new' (Kd.R_new' (Kd.R_new' (Kd.R_new' ho0 (Kd.R_lt (by (with_reducible repeat (first | apply rA_ | apply rN_ | apply rD_)); exact HO_297000.out))) (Kd.R_lt (by (with_reducible repeat (first | apply rA_ | apply rN_ | apply rD_)); exact HO_297001.out))) (Kd.R_lt (by (with_reducible repeat (first | apply rA_ | apply rN_ | apply rD_)); exact HO_304000.out))) (Kd.R_lt (by (with_reducible repeat (first | apply rA_ | apply rN_ | apply rD_)); exact HO_304001.out))) (Kd.R_lt (by (with_reducible repeat (first | apply rA_ | apply rN_ | apply rD_)); exact HO_312000.out))) (Kd.R_lt (by (with_reducible repeat (first | apply rA_ | apply rN_ | apply rD_)); exact HO_312001.out))) (below_size (by repeat (first | (with_reducible first | exact HB.out | apply bA_ | apply bN_ | apply bD_ | refine bS_ ?_ GE281.out | refine bS_ ?_ GE296.out | refine bS_ ?_ GE303.out | refine bS_ ?_ GE311.out) | exact HB.out))))
            have n7_ := Aside0.mk (Kd.R_lower (Kd.R_new' (Kd.R_new' (Kd.R_new' (Kd.R_new' (Kd.R_new' (Kd.R_new' ho1 (Kd.R_lt (by (with_reducible repeat (first | apply rA_ | apply rN_ | apply rD_)); exact HO_297000.out))) (Kd.R_lt (by (with_reducible repeat (first | apply rA_ | apply rN_ | apply rD_)); exact HO_297001.out))) (Kd.R_lt (by (with_reducible repeat (first | apply rA_ | apply rN_ | apply rD_)); exact HO_304000.out))) (Kd.R_lt (by (with_reducible repeat (first | apply rA_ | apply rN_ | apply rD_)); exact HO_304001.out))) (Kd.R_lt (by (with_reducible repeat (first | apply rA_ | apply rN_ | apply rD_)); exact HO_312000.out))) (Kd.R_lt (by (with_reducible repeat (first | apply rA_ | apply rN_ | apply rD_)); exact HO_312001.out))) (below_size (by repeat (first | (with_reducible first | exact HB.out | apply bA_ | apply bN_ | apply bD_ | refine bS_ ?_ GE281.out | refine bS_ ?_ GE296.out | refine bS_ ?_ GE303.out | refine bS_ ?_ GE311.out) | exact HB.out))))
            have n8_ := Aside0.mk (blk_below (g := gb281) (o := .cells #[.slice A0_0 l0_0.length c0_0, .slice A0_1 l0_1.length c0_1] 24 (0, 0)) (by (with_reducible repeat (first | refine kN_ ?_ _ | refine kD_ ?_ | refine kA_ ?_ _)); exact BK281.out) hb)
            have n9_ := Aside0.mk (blk_below (g := gb296) (o := .cells #[.slice Ao21 t289.length co21, .slice Ao24 t292.length co24] 27 (0, 0)) (by (with_reducible repeat (first | refine kN_ ?_ _ | refine kD_ ?_ | refine kA_ ?_ _)); exact BK296.out) hb)
            have n10_ := Aside0.mk (blk_below (g := gb303) (o := .cells #[.slice Ao28 t297.length co28, .slice Ao32 t300.length co32] 27 (0, 0)) (by (with_reducible repeat (first | refine kN_ ?_ _ | refine kD_ ?_ | refine kA_ ?_ _)); exact BK303.out) hb)
            have n11_ := Aside0.mk (blk_below (g := gb311) (o := .cells #[.slice Ao35 t304.length co35, .slice Ao40 t307.length co40] 27 (0, 0)) (by (with_reducible repeat (first | refine kN_ ?_ _ | refine kD_ ?_ | refine kA_ ?_ _)); exact BK311.out) hb)
            have n12_ := Aside0.mk (below_step (by repeat (first | (with_reducible first | exact HB.out | apply bA_ | apply bN_ | apply bD_ | refine bS_ ?_ GE281.out | refine bS_ ?_ GE296.out | refine bS_ ?_ GE303.out | refine bS_ ?_ GE311.out) | exact HB.out)) hb)
            clear HO_297000
            clear HO_297001
            clear HO_304000
            clear HO_304001
            clear HO_312000
            clear HO_312001
            clear BK281
            clear BK296
            clear BK303
            clear BK311
            clear HB
            have HO_297000 := n0_
            have HO_297001 := n1_
            have HO_304000 := n2_
            have HO_304001 := n3_
            have HO_312000 := n4_
            have HO_312001 := n5_
            have HO315 := n6_
            have HO318 := n7_
            have BK281 := n8_
            have BK296 := n9_
            have BK303 := n10_
            have BK311 := n11_
            have HB := n12_
            clear n0_ n1_ n2_ n3_ n4_ n5_ n6_ n7_ n8_ n9_ n10_ n11_ n12_
            (try clear hb)
            (try clear hb2)
            (try clear hk)
            (try clear hi)
            (try clear ho0)
            (try clear ho1)
            obtain ⟨Ao184, co184, eo184⟩ := Kd.R_slice HO315.out
            (first | subst eo184 | (injection eo184 with f1_ f2_ f3_; have f4_ := f1_.symm; have f5_ := f3_.symm; clear f1_ f2_ f3_; subst f4_; subst f5_))
            obtain ⟨Ao185, co185, eo185⟩ := Kd.R_slice HO318.out
            (first | subst eo185 | (injection eo185 with f1_ f2_ f3_; have f4_ := f1_.symm; have f5_ := f3_.symm; clear f1_ f2_ f3_; subst f4_; subst f5_))
            refine hK.out _ _ ⟨(blk_cell BK303.out 0).trans rfl, (blk_cell BK303.out 1).trans rfl, (blk_cell BK281.out 0).trans rfl, (blk_cell BK281.out 1).trans rfl⟩ (fun hHeld => ?_)
            clear hK K
            refine norm_ (a' := ?_) ?_ ?_
            rotate_left
            · show Act.put _ (some 43) _ = _
              simp only [Act.put, List.setIfInBounds_toArray, List.set_cons_zero, List.set_cons_succ, i64_w, i32_w]
              rfl
            refine one_ (i := 3) (N := some 44) #[true, true, true, true, false] rfl rfl (by kernel_rfl) (by decide) (fun K hK => ?_)
            refine goes_ Try.func19 (by kernel_rfl) rfl #[.agg #[.slice Ao28 t297.length co28, .slice Ao32 t300.length co32], .agg #[.slice Ao184 t313.length co184, .slice Ao185 t316.length co185]] (by rfl) rfl rfl (by (try simp only [List.map_toArray, List.map_cons, List.map_nil]); first | done | rfl | (simp only [List.length_drop, List.length_take]; rfl)) ?_
            with_reducible refine (laws_eqHouse.calls kj10 _ _ t297 _ _ t300 _ _ t313 _ _ t316 false _ ?side1 ?side2 ?side3 ?side4 ?side5 ?side6 ?side7 ?side8 A61.out).mono ?_
            (case side1 => repeat (first | exact (rR_ HO_304000.out).2.2 | (with_reducible refine Kd.C_alloc ?_ _) | (with_reducible refine Kd.C_drewN ?_ _) | (with_reducible refine Kd.C_drew ?_)))
            (case side2 => exact (rR_ HO_304000.out).2.1)
            (case side3 => repeat (first | exact (rR_ HO_304001.out).2.2 | (with_reducible refine Kd.C_alloc ?_ _) | (with_reducible refine Kd.C_drewN ?_ _) | (with_reducible refine Kd.C_drew ?_)))
            (case side4 => exact (rR_ HO_304001.out).2.1)
            (case side5 => repeat (first | exact (rR_ HO315.out).2.2 | (with_reducible refine Kd.C_alloc ?_ _) | (with_reducible refine Kd.C_drewN ?_ _) | (with_reducible refine Kd.C_drew ?_)))
            (case side6 => exact (rR_ HO315.out).2.1)
            (case side7 => repeat (first | exact (rR_ HO318.out).2.2 | (with_reducible refine Kd.C_alloc ?_ _) | (with_reducible refine Kd.C_drewN ?_ _) | (with_reducible refine Kd.C_drew ?_)))
            (case side8 => exact (rR_ HO318.out).2.1)
            rintro e w186 ⟨rfl, hb⟩
            refine ⟨_, rfl, ?_⟩
            have n0_ := Aside0.mk (rB_ (by (with_reducible repeat (first | apply rA_ | apply rN_ | apply rD_)); exact HO_297000.out) hb)
            have n1_ := Aside0.mk (rB_ (by (with_reducible repeat (first | apply rA_ | apply rN_ | apply rD_)); exact HO_297001.out) hb)
            have n2_ := Aside0.mk (rB_ (by (with_reducible repeat (first | apply rA_ | apply rN_ | apply rD_)); exact HO_304000.out) hb)
            have n3_ := Aside0.mk (rB_ (by (with_reducible repeat (first | apply rA_ | apply rN_ | apply rD_)); exact HO_304001.out) hb)
            have n4_ := Aside0.mk (rB_ (by (with_reducible repeat (first | apply rA_ | apply rN_ | apply rD_)); exact HO_312000.out) hb)
            have n5_ := Aside0.mk (rB_ (by (with_reducible repeat (first | apply rA_ | apply rN_ | apply rD_)); exact HO_312001.out) hb)
            have n6_ := Aside0.mk (rB_ (by (with_reducible repeat (first | apply rA_ | apply rN_ | apply rD_)); exact HO315.out) hb)
            have n7_ := Aside0.mk (rB_ (by (with_reducible repeat (first | apply rA_ | apply rN_ | apply rD_)); exact HO318.out) hb)
            have n8_ := Aside0.mk (blk_below (g := gb281) (o := .cells #[.slice A0_0 l0_0.length c0_0, .slice A0_1 l0_1.length c0_1] 24 (0, 0)) (by (with_reducible repeat (first | refine kN_ ?_ _ | refine kD_ ?_ | refine kA_ ?_ _)); exact BK281.out) hb)
            have n9_ := Aside0.mk (blk_below (g := gb296) (o := .cells #[.slice Ao21 t289.length co21, .slice Ao24 t292.length co24] 27 (0, 0)) (by (with_reducible repeat (first | refine kN_ ?_ _ | refine kD_ ?_ | refine kA_ ?_ _)); exact BK296.out) hb)
            have n10_ := Aside0.mk (blk_below (g := gb303) (o := .cells #[.slice Ao28 t297.length co28, .slice Ao32 t300.length co32] 27 (0, 0)) (by (with_reducible repeat (first | refine kN_ ?_ _ | refine kD_ ?_ | refine kA_ ?_ _)); exact BK303.out) hb)
            have n11_ := Aside0.mk (blk_below (g := gb311) (o := .cells #[.slice Ao35 t304.length co35, .slice Ao40 t307.length co40] 27 (0, 0)) (by (with_reducible repeat (first | refine kN_ ?_ _ | refine kD_ ?_ | refine kA_ ?_ _)); exact BK311.out) hb)
            have n12_ := Aside0.mk (below_step (by repeat (first | (with_reducible first | exact HB.out | apply bA_ | apply bN_ | apply bD_ | refine bS_ ?_ GE281.out | refine bS_ ?_ GE296.out | refine bS_ ?_ GE303.out | refine bS_ ?_ GE311.out) | exact HB.out)) hb)
            clear HO_297000
            clear HO_297001
            clear HO_304000
            clear HO_304001
            clear HO_312000
            clear HO_312001
            clear HO315
            clear HO318
            clear BK281
            clear BK296
            clear BK303
            clear BK311
            clear HB
            have HO_297000 := n0_
            have HO_297001 := n1_
            have HO_304000 := n2_
            have HO_304001 := n3_
            have HO_312000 := n4_
            have HO_312001 := n5_
            have HO315 := n6_
            have HO318 := n7_
            have BK281 := n8_
            have BK296 := n9_
            have BK303 := n10_
            have BK311 := n11_
            have HB := n12_
            clear n0_ n1_ n2_ n3_ n4_ n5_ n6_ n7_ n8_ n9_ n10_ n11_ n12_
            (try clear hb)
            (try clear hb2)
            (try clear hk)
            (try clear hi)
            refine hK.out _ _ ⟨(blk_cell BK303.out 0).trans rfl, (blk_cell BK303.out 1).trans rfl, (blk_cell BK281.out 0).trans rfl, (blk_cell BK281.out 1).trans rfl⟩ (fun hHeld => ?_)
            clear hK K
            refine norm_ (a' := ?_) ?_ ?_
            rotate_left
            · show Act.put _ (some 44) _ = _
              simp only [Act.put, List.setIfInBounds_toArray, List.set_cons_zero, List.set_cons_succ, i64_w, i32_w]
              rfl
            refine pure_ (i := 4) (N := some 45) (v := ?_) (a' := ?_) #[true, true, true, true, true] rfl rfl (by kernel_rfl) (fun _ _ _ h => h) (Or.inl ⟨by rfl, ?_⟩) ?_ ?_
            rotate_left
            · intro w'
              go_simp
              with_reducible rfl
            rotate_left
            · simp only [Act.put, List.setIfInBounds_toArray, List.set_cons_zero, List.set_cons_succ, i64_w, i32_w]
              rfl
            refine done_ (by kernel_rfl) ?_
            try go_wp2
            go_ret
            exact ⟨by first | rfl | (simp [errW_none, errW_some] <;> rfl) | (simp [*, errW_none, errW_some] <;> rfl), by repeat (first | (with_reducible first | exact HB.out | apply bA_ | apply bN_ | apply bD_ | refine bS_ ?_ GE281.out | refine bS_ ?_ GE296.out | refine bS_ ?_ GE303.out | refine bS_ ?_ GE311.out) | exact HB.out)⟩

end Go.Proofs.Ytccmgoojdieloaa.G
