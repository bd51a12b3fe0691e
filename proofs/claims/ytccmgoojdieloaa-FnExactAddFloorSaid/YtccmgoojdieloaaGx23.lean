/- Contracts of the Go functions that the laws reach, each for every input and every memory: written by a program of this session over the kit print, with contracts of its own for what that leaves out. No further condition. -/
import Derived.Test.YtccmgoojdieloaaGx0
import Derived.Test.YtccmgoojdieloaaGx2
import Derived.Test.YtccmgoojdieloaaGx4
import Derived.Test.YtccmgoojdieloaaGx6
import Derived.Test.YtccmgoojdieloaaGx8
import Derived.Test.YtccmgoojdieloaaGx13
import Derived.Test.YtccmgoojdieloaaGx16
import Derived.Test.YtccmgoojdieloaaGx20
import Derived.Test.YtccmgoojdieloaaGx22
namespace Go.Proofs.Ytccmgoojdieloaa.G
open Go.RowKit Go.Proofs.YtccmgoojdieloaaW.PrintWords Go.Proofs.YtccmgoojdieloaaW.PrintLast Go.Proofs.YtccmgoojdieloaaW.PrintMore
attribute [local go_sem] max2_int min2_int max_two min_two max_three min_three max_four min_four   -- for this text's walks alone
set_option linter.unusedVariables false
set_option linter.unusedSimpArgs false

/-! ### laws_FnExactAddFloor: function 13 -/
mutual
def laws_FnExactAddFloor.j0 : Nat → Int → Int → Bool → Bool → Bool → List Int → List Int → List Int → List Int → List Int → List Int → List Int → List Int → Option (Bool)
  | 0, _, _, _, _, _, _, _, _, _, _, _, _, _ => none
  | k + 1, x1, x2, x9, x12, x48, x197000, x197001, x212000, x212001, x219000, x219001, x227000, x227001 => if x48 = true then (some false) else ((laws_toHouse.f k x197000 x197001).bind fun bt228 => ((laws_eqHouse.f k x219000 x219001 bt228.1 bt228.2).bind fun t234 => (if t234 = true then ((laws_markHouse.f k x219000 x219001 1).bind fun bt235 => (if bt235.1 < 0 then (laws_FnExactAddFloor.j1 k x1 x2 x9 true x197000 x197001 x212000 x212001 x227000 x227001) else ((laws_eqHouse.f k x227000 x227001 x212000 x212001).bind fun t238 => (if t238 = true then (laws_FnExactAddFloor.j1 k x1 x2 x9 (x12 != x9) x197000 x197001 x212000 x212001 x227000 x227001) else (laws_FnExactAddFloor.j1 k x1 x2 x9 true x197000 x197001 x212000 x212001 x227000 x227001))))) else (some false))))
def laws_FnExactAddFloor.j1 : Nat → Int → Int → Bool → Bool → List Int → List Int → List Int → List Int → List Int → List Int → Option (Bool)
  | 0, _, _, _, _, _, _, _, _, _, _ => none
  | k + 1, x1, x2, x9, x69, x197000, x197001, x212000, x212001, x227000, x227001 => if x69 = true then (some false) else ((laws_markHouse.f k x227000 x227001 1).bind fun bt239 => ((laws_heldHouse.f k bt239.2.1 bt239.2.2 1).bind fun t242 => (if t242 < 0 then (some false) else (if t242 = bt239.1 then ((laws_toHouse.f k x197000 x197001).bind fun bt243 => ((impl_AddFloor.f k bt243.1 bt243.2 x1 x2).bind fun bt249 => ((laws_eqHouse.f k bt249.1 bt249.2.1 x212000 x212001).bind fun t257 => (if t257 = true then (laws_FnExactAddFloor.j2 k bt239.1 (bt249.2.2 != x9) bt239.2.1 bt239.2.2) else (laws_FnExactAddFloor.j2 k bt239.1 true bt239.2.1 bt239.2.2))))) else (some false)))))
def laws_FnExactAddFloor.j2 : Nat → Int → Bool → List Int → List Int → Option (Bool)
  | 0, _, _, _, _ => none
  | k + 1, x14, x97, x227000, x227001 => if x97 = true then (some false) else ((laws_heldHouse.f k x227000 x227001 1).bind fun t258 => (if t258 < 0 then (some false) else (if t258 = x14 then (some true) else (some false))))
end
def laws_FnExactAddFloor.f (k : Nat) (l0_0 : List Int) (l0_1 : List Int) (a1 : Int) (a2 : Int) : Option (Bool) := (laws_szHouse.f l0_0 l0_1 1048576).bind fun t197 => (if t197 < 0 then (some true) else ((laws_toHouse.f k l0_0 l0_1).bind fun bt198 => ((spec_AddFloor.f k bt198.1 bt198.2 a1 a2).bind fun bt204 => ((laws_toHouse.f k l0_0 l0_1).bind fun bt212 => ((impl_AddFloor.f k bt212.1 bt212.2 a1 a2).bind fun bt219 => ((laws_eqHouse.f k bt219.1 bt219.2.1 bt204.1 bt204.2.1).bind fun t227 => (if t227 = true then (laws_FnExactAddFloor.j0 k a1 a2 bt204.2.2 bt219.2.2 (bt219.2.2 != bt204.2.2) l0_0 l0_1 bt204.1 bt204.2.1 bt212.1 bt212.2 bt219.1 bt219.2.1) else (laws_FnExactAddFloor.j0 k a1 a2 bt204.2.2 bt219.2.2 true l0_0 l0_1 bt204.1 bt204.2.1 bt212.1 bt212.2 bt219.1 bt219.2.1))))))))
theorem laws_FnExactAddFloor.mono_l : ∀ k, (∀ y0 y1 y2 y3 y4 y5 y6 y7 y8 y9 y10 y11 y12, LeO (laws_FnExactAddFloor.j0 k y0 y1 y2 y3 y4 y5 y6 y7 y8 y9 y10 y11 y12) (laws_FnExactAddFloor.j0 (k + 1) y0 y1 y2 y3 y4 y5 y6 y7 y8 y9 y10 y11 y12)) ∧ (∀ y0 y1 y2 y3 y4 y5 y6 y7 y8 y9, LeO (laws_FnExactAddFloor.j1 k y0 y1 y2 y3 y4 y5 y6 y7 y8 y9) (laws_FnExactAddFloor.j1 (k + 1) y0 y1 y2 y3 y4 y5 y6 y7 y8 y9)) ∧ (∀ y0 y1 y2 y3, LeO (laws_FnExactAddFloor.j2 k y0 y1 y2 y3) (laws_FnExactAddFloor.j2 (k + 1) y0 y1 y2 y3))
  | 0 => ⟨fun _ _ _ _ _ _ _ _ _ _ _ _ _ r h => by simp [laws_FnExactAddFloor.j0] at h, fun _ _ _ _ _ _ _ _ _ _ r h => by simp [laws_FnExactAddFloor.j1] at h, fun _ _ _ _ r h => by simp [laws_FnExactAddFloor.j2] at h⟩
  | k + 1 => by
    obtain ⟨ih0, ih1, ih2⟩ := laws_FnExactAddFloor.mono_l k
    refine ⟨?_, ?_, ?_⟩
    · intro y0 y1 y2 y3 y4 y5 y6 y7 y8 y9 y10 y11 y12
      unfold laws_FnExactAddFloor.j0
      repeat' first
      | (with_reducible exact ih0 _ _ _ _ _ _ _ _ _ _ _ _ _)
      | (with_reducible exact ih1 _ _ _ _ _ _ _ _ _ _)
      | (with_reducible exact ih2 _ _ _ _)
      | (with_reducible exact impl_AddFloor.mono _ _ _ _ _)
      | (with_reducible exact laws_eqHouse.mono _ _ _ _ _)
      | (with_reducible exact laws_heldHouse.mono _ _ _ _)
      | (with_reducible exact laws_markHouse.mono _ _ _ _)
      | (with_reducible exact laws_toHouse.mono _ _ _)
      | (with_reducible exact spec_AddFloor.mono _ _ _ _ _)
      | (with_reducible exact LeO.refl _)
      | (with_reducible exact LeO.none _)
      | (with_reducible refine LeO.ite ?_ ?_)
      | (with_reducible refine LeO.bind ?_ (fun _ => ?_))
      | exact ih0 _ _ _ _ _ _ _ _ _ _ _ _ _
      | exact ih1 _ _ _ _ _ _ _ _ _ _
      | exact ih2 _ _ _ _
      | exact impl_AddFloor.mono _ _ _ _ _
      | exact laws_eqHouse.mono _ _ _ _ _
      | exact laws_heldHouse.mono _ _ _ _
      | exact laws_markHouse.mono _ _ _ _
      | exact laws_toHouse.mono _ _ _
      | exact spec_AddFloor.mono _ _ _ _ _
      | exact LeO.none _
      | refine LeO.ite ?_ ?_
      | refine LeO.bind ?_ (fun _ => ?_)
    · intro y0 y1 y2 y3 y4 y5 y6 y7 y8 y9
      unfold laws_FnExactAddFloor.j1
      repeat' first
      | (with_reducible exact ih0 _ _ _ _ _ _ _ _ _ _ _ _ _)
      | (with_reducible exact ih1 _ _ _ _ _ _ _ _ _ _)
      | (with_reducible exact ih2 _ _ _ _)
      | (with_reducible exact impl_AddFloor.mono _ _ _ _ _)
      | (with_reducible exact laws_eqHouse.mono _ _ _ _ _)
      | (with_reducible exact laws_heldHouse.mono _ _ _ _)
      | (with_reducible exact laws_markHouse.mono _ _ _ _)
      | (with_reducible exact laws_toHouse.mono _ _ _)
      | (with_reducible exact spec_AddFloor.mono _ _ _ _ _)
      | (with_reducible exact LeO.refl _)
      | (with_reducible exact LeO.none _)
      | (with_reducible refine LeO.ite ?_ ?_)
      | (with_reducible refine LeO.bind ?_ (fun _ => ?_))
      | exact ih0 _ _ _ _ _ _ _ _ _ _ _ _ _
      | exact ih1 _ _ _ _ _ _ _ _ _ _
      | exact ih2 _ _ _ _
      | exact impl_AddFloor.mono _ _ _ _ _
      | exact laws_eqHouse.mono _ _ _ _ _
      | exact laws_heldHouse.mono _ _ _ _
      | exact laws_markHouse.mono _ _ _ _
      | exact laws_toHouse.mono _ _ _
      | exact spec_AddFloor.mono _ _ _ _ _
      | exact LeO.none _
      | refine LeO.ite ?_ ?_
      | refine LeO.bind ?_ (fun _ => ?_)
    · intro y0 y1 y2 y3
      unfold laws_FnExactAddFloor.j2
      repeat' first
      | (with_reducible exact ih0 _ _ _ _ _ _ _ _ _ _ _ _ _)
      | (with_reducible exact ih1 _ _ _ _ _ _ _ _ _ _)
      | (with_reducible exact ih2 _ _ _ _)
      | (with_reducible exact impl_AddFloor.mono _ _ _ _ _)
      | (with_reducible exact laws_eqHouse.mono _ _ _ _ _)
      | (with_reducible exact laws_heldHouse.mono _ _ _ _)
      | (with_reducible exact laws_markHouse.mono _ _ _ _)
      | (with_reducible exact laws_toHouse.mono _ _ _)
      | (with_reducible exact spec_AddFloor.mono _ _ _ _ _)
      | (with_reducible exact LeO.refl _)
      | (with_reducible exact LeO.none _)
      | (with_reducible refine LeO.ite ?_ ?_)
      | (with_reducible refine LeO.bind ?_ (fun _ => ?_))
      | exact ih0 _ _ _ _ _ _ _ _ _ _ _ _ _
      | exact ih1 _ _ _ _ _ _ _ _ _ _
      | exact ih2 _ _ _ _
      | exact impl_AddFloor.mono _ _ _ _ _
      | exact laws_eqHouse.mono _ _ _ _ _
      | exact laws_heldHouse.mono _ _ _ _
      | exact laws_markHouse.mono _ _ _ _
      | exact laws_toHouse.mono _ _ _
      | exact spec_AddFloor.mono _ _ _ _ _
      | exact LeO.none _
      | refine LeO.ite ?_ ?_
      | refine LeO.bind ?_ (fun _ => ?_)
theorem laws_FnExactAddFloor.mono : ∀ a0 a1 a2 a3 k, LeO (laws_FnExactAddFloor.f k a0 a1 a2 a3) (laws_FnExactAddFloor.f (k + 1) a0 a1 a2 a3) := by
  intro a0 a1 a2 a3 k
  obtain ⟨ih0, ih1, ih2⟩ := laws_FnExactAddFloor.mono_l k
  unfold laws_FnExactAddFloor.f
  repeat' first
      | (with_reducible exact ih0 _ _ _ _ _ _ _ _ _ _ _ _ _)
      | (with_reducible exact ih1 _ _ _ _ _ _ _ _ _ _)
      | (with_reducible exact ih2 _ _ _ _)
      | (with_reducible exact impl_AddFloor.mono _ _ _ _ _)
      | (with_reducible exact laws_eqHouse.mono _ _ _ _ _)
      | (with_reducible exact laws_heldHouse.mono _ _ _ _)
      | (with_reducible exact laws_markHouse.mono _ _ _ _)
      | (with_reducible exact laws_toHouse.mono _ _ _)
      | (with_reducible exact spec_AddFloor.mono _ _ _ _ _)
      | (with_reducible exact LeO.refl _)
      | (with_reducible exact LeO.none _)
      | (with_reducible refine LeO.ite ?_ ?_)
      | (with_reducible refine LeO.bind ?_ (fun _ => ?_))
      | exact ih0 _ _ _ _ _ _ _ _ _ _ _ _ _
      | exact ih1 _ _ _ _ _ _ _ _ _ _
      | exact ih2 _ _ _ _
      | exact impl_AddFloor.mono _ _ _ _ _
      | exact laws_eqHouse.mono _ _ _ _ _
      | exact laws_heldHouse.mono _ _ _ _
      | exact laws_markHouse.mono _ _ _ _
      | exact laws_toHouse.mono _ _ _
      | exact spec_AddFloor.mono _ _ _ _ _
      | exact LeO.none _
      | refine LeO.ite ?_ ?_
      | refine LeO.bind ?_ (fun _ => ?_)
set_option maxHeartbeats 8000000 in
set_option maxRecDepth 100000 in
theorem laws_FnExactAddFloor.calls (k : Nat) (A0_0 : Option Addr) (c0_0 : Nat) (l0_0 : List Int) (A0_1 : Option Addr) (c0_1 : Nat) (l0_1 : List Int) (a1 : Int) (a2 : Int) (r : Bool) (w : World) (hr0_0 : Kd.C (Kd.int .i64) w A0_0 l0_0.length l0_0) (hc0_0 : l0_0.length ≤ c0_0) (hr0_1 : Kd.C (Kd.int .i64) w A0_1 l0_1.length l0_1) (hc0_1 : l0_1.length ≤ c0_1) (h : laws_FnExactAddFloor.f k l0_0 l0_1 a1 a2 = some r) :
    Calls Try.prog 13 #[.agg #[.slice A0_0 l0_0.length c0_0, .slice A0_1 l0_1.length c0_1], .int .i64 a1, .int .i64 a2] w fun e w' => e = .returned (.bool r) ∧ Below w.heap.size w w' := by
  have hu24 := Try.underlying24
  have hu27 := Try.underlying27
  have HR0_0 := Aside0.mk hr0_0
  have HC0_0 := Aside0.mk hc0_0
  clear hr0_0 hc0_0
  have HR0_1 := Aside0.mk hr0_1
  have HC0_1 := Aside0.mk hc0_1
  clear hr0_1 hc0_1
  have HB := Aside0.mk (Below.refl w.heap.size w)
  have H : ((laws_szHouse.f l0_0 l0_1 1048576).bind fun t197 => (if t197 < 0 then (some true) else ((laws_toHouse.f k l0_0 l0_1).bind fun bt198 => ((spec_AddFloor.f k bt198.1 bt198.2 a1 a2).bind fun bt204 => ((laws_toHouse.f k l0_0 l0_1).bind fun bt212 => ((impl_AddFloor.f k bt212.1 bt212.2 a1 a2).bind fun bt219 => ((laws_eqHouse.f k bt219.1 bt219.2.1 bt204.1 bt204.2.1).bind fun t227 => (if t227 = true then (laws_FnExactAddFloor.j0 k a1 a2 bt204.2.2 bt219.2.2 (bt219.2.2 != bt204.2.2) l0_0 l0_1 bt204.1 bt204.2.1 bt212.1 bt212.2 bt219.1 bt219.2.1) else (laws_FnExactAddFloor.j0 k a1 a2 bt204.2.2 bt219.2.2 true l0_0 l0_1 bt204.1 bt204.2.1 bt212.1 bt212.2 bt219.1 bt219.2.1))))))))) = some r := h
  clear h
  replace H := Option.bind_eq_some_iff.mp H
  obtain ⟨t197, A40, H⟩ := H
  replace H : (if t197 < 0 then (some true) else ((laws_toHouse.f k l0_0 l0_1).bind fun bt198 => ((spec_AddFloor.f k bt198.1 bt198.2 a1 a2).bind fun bt204 => ((laws_toHouse.f k l0_0 l0_1).bind fun bt212 => ((impl_AddFloor.f k bt212.1 bt212.2 a1 a2).bind fun bt219 => ((laws_eqHouse.f k bt219.1 bt219.2.1 bt204.1 bt204.2.1).bind fun t227 => (if t227 = true then (laws_FnExactAddFloor.j0 k a1 a2 bt204.2.2 bt219.2.2 (bt219.2.2 != bt204.2.2) l0_0 l0_1 bt204.1 bt204.2.1 bt212.1 bt212.2 bt219.1 bt219.2.1) else (laws_FnExactAddFloor.j0 k a1 a2 bt204.2.2 bt219.2.2 true l0_0 l0_1 bt204.1 bt204.2.1 bt212.1 bt212.2 bt219.1 bt219.2.1)))))))) = some r := H
  have A4 := Aside0.mk A40
  clear A40
  by_cases c5 : t197 < 0
  · rw [if_pos c5] at H
    have c5b0 : decide (t197 < 0) = true := decide_eq_true c5
    clear c5
    obtain rfl := Option.some.inj H
    go_enter Try.func13, Try.ntmps13
    go_wp2_with (first | ((with_reducible refine gate_dst (N := 3) rfl ?_); refine box_event ?hg (N := 3) ?hd (cs := #[.slice A0_0 l0_0.length c0_0, .slice A0_1 l0_1.length c0_1]) (t := 24) ?hr ?_; (case hd => rfl); (case hg => rfl); (case hr => first | (go_simp; done) | (go_simp; rfl)); intro gb196 hg w6 hbox hb; have n0_ := Aside0.mk (below_step (by repeat (first | (with_reducible first | exact HB.out | apply bA_ | apply bN_ | apply bD_) | exact HB.out)) hb); have n1_ := Aside0.mk (hbox); have n2_ := Aside0.mk ((by rw [hg]; exact (below_size (by repeat (first | (with_reducible first | exact HB.out | apply bA_ | apply bN_ | apply bD_) | exact HB.out))) : w.heap.size ≤ gb196)); have n3_ := Aside0.mk ((by rw [hg]; exact (below_size (by repeat (first | (with_reducible first | exact HB.out | apply bA_ | apply bN_ | apply bD_) | exact HB.out))) : w.heap.size ≤ gb196)); clear HB; have HB := n0_; have BK196 := n1_; have GW196 := n2_; have GE196 := n3_; clear n0_ n1_ n2_ n3_; clear hb hbox hg; have hcz7_0 : w6.cell? ⟨gb196, 0, none⟩ = some (.slice A0_0 l0_0.length c0_0) := (blk_cell BK196.out 0).trans rfl; have hcz7_1 : w6.cell? ⟨gb196, 1, none⟩ = some (.slice A0_1 l0_1.length c0_1) := (blk_cell BK196.out 1).trans rfl; have hfz7_0 := blk_frozen BK196.out 0; have hfz7_1 := blk_frozen BK196.out 1) | ((with_reducible refine gate_callee (f := 15) rfl ?_); refine goesL_ (some 20) rfl rfl Try.func15 (by kernel_rfl) rfl #[.agg #[.slice A0_0 l0_0.length c0_0, .slice A0_1 l0_1.length c0_1], .int .i64 1048576] rfl (by (try simp only [List.map_toArray, List.map_cons, List.map_nil]); first | done | rfl | (simp only [List.length_drop, List.length_take]; rfl)) ?_; (with_reducible refine (laws_szHouse.calls _ _ l0_0 _ _ l0_1 1048576 t197 _ ?side1 ?side2 ?side3 ?side4 A4.out).mono ?_); (case side1 => repeat (first | exact (Kd.C_below HR0_0.out HB.out) | (with_reducible refine Kd.C_alloc ?_ _) | (with_reducible refine Kd.C_drewN ?_ _) | (with_reducible refine Kd.C_drew ?_))); (case side2 => exact HC0_0.out); (case side3 => repeat (first | exact (Kd.C_below HR0_1.out HB.out) | (with_reducible refine Kd.C_alloc ?_ _) | (with_reducible refine Kd.C_drewN ?_ _) | (with_reducible refine Kd.C_drew ?_))); (case side4 => exact HC0_1.out); rintro e w8 ⟨rfl, hb⟩; refine ⟨_, rfl, ?_⟩; have n0_ := Aside0.mk (blk_below (g := gb196) (o := .cells #[.slice A0_0 l0_0.length c0_0, .slice A0_1 l0_1.length c0_1] 24 (0, 0)) (by (with_reducible repeat (first | refine kN_ ?_ _ | refine kD_ ?_ | refine kA_ ?_ _)); exact BK196.out) hb); have n1_ := Aside0.mk (below_step (by repeat (first | (with_reducible first | exact HB.out | apply bA_ | apply bN_ | apply bD_ | refine bS_ ?_ GE196.out) | exact HB.out)) hb); clear BK196; clear HB; have BK196 := n0_; have HB := n1_; clear n0_ n1_; (try clear hb); (try clear hb2); (try clear hk); (try clear hi)))
    go_ret
    exact ⟨by first | rfl | (simp [errW_none, errW_some] <;> rfl) | (simp [*, errW_none, errW_some] <;> rfl), by repeat (first | (with_reducible first | exact HB.out | apply bA_ | apply bN_ | apply bD_ | refine bS_ ?_ GE196.out) | exact HB.out)⟩
  · rw [if_neg c5] at H
    have c5b0 : decide (t197 < 0) = false := decide_eq_false c5
    clear c5
    replace H := Option.bind_eq_some_iff.mp H
    obtain ⟨⟨t198, t201⟩, A90, H⟩ := H
    replace H : ((spec_AddFloor.f k t198 t201 a1 a2).bind fun bt204 => ((laws_toHouse.f k l0_0 l0_1).bind fun bt212 => ((impl_AddFloor.f k bt212.1 bt212.2 a1 a2).bind fun bt219 => ((laws_eqHouse.f k bt219.1 bt219.2.1 bt204.1 bt204.2.1).bind fun t227 => (if t227 = true then (laws_FnExactAddFloor.j0 k a1 a2 bt204.2.2 bt219.2.2 (bt219.2.2 != bt204.2.2) l0_0 l0_1 bt204.1 bt204.2.1 bt212.1 bt212.2 bt219.1 bt219.2.1) else (laws_FnExactAddFloor.j0 k a1 a2 bt204.2.2 bt219.2.2 true l0_0 l0_1 bt204.1 bt204.2.1 bt212.1 bt212.2 bt219.1 bt219.2.1)))))) = some r := H
    have A9 := Aside0.mk A90
    clear A90
    replace H := Option.bind_eq_some_iff.mp H
    obtain ⟨⟨t204, t207, t210⟩, A100, H⟩ := H
    replace H : ((laws_toHouse.f k l0_0 l0_1).bind fun bt212 => ((impl_AddFloor.f k bt212.1 bt212.2 a1 a2).bind fun bt219 => ((laws_eqHouse.f k bt219.1 bt219.2.1 t204 t207).bind fun t227 => (if t227 = true then (laws_FnExactAddFloor.j0 k a1 a2 t210 bt219.2.2 (bt219.2.2 != t210) l0_0 l0_1 t204 t207 bt212.1 bt212.2 bt219.1 bt219.2.1) else (laws_FnExactAddFloor.j0 k a1 a2 t210 bt219.2.2 true l0_0 l0_1 t204 t207 bt212.1 bt212.2 bt219.1 bt219.2.1))))) = some r := H
    have A10 := Aside0.mk A100
    clear A100
    replace H := Option.bind_eq_some_iff.mp H
    obtain ⟨⟨t212, t215⟩, A110, H⟩ := H
    replace H : ((impl_AddFloor.f k t212 t215 a1 a2).bind fun bt219 => ((laws_eqHouse.f k bt219.1 bt219.2.1 t204 t207).bind fun t227 => (if t227 = true then (laws_FnExactAddFloor.j0 k a1 a2 t210 bt219.2.2 (bt219.2.2 != t210) l0_0 l0_1 t204 t207 t212 t215 bt219.1 bt219.2.1) else (laws_FnExactAddFloor.j0 k a1 a2 t210 bt219.2.2 true l0_0 l0_1 t204 t207 t212 t215 bt219.1 bt219.2.1)))) = some r := H
    have A11 := Aside0.mk A110
    clear A110
    replace H := Option.bind_eq_some_iff.mp H
    obtain ⟨⟨t219, t222, t225⟩, A120, H⟩ := H
    replace H : ((laws_eqHouse.f k t219 t222 t204 t207).bind fun t227 => (if t227 = true then (laws_FnExactAddFloor.j0 k a1 a2 t210 t225 (t225 != t210) l0_0 l0_1 t204 t207 t212 t215 t219 t222) else (laws_FnExactAddFloor.j0 k a1 a2 t210 t225 true l0_0 l0_1 t204 t207 t212 t215 t219 t222))) = some r := H
    have A12 := Aside0.mk A120
    clear A120
    have HC13 := Aside0.mk H
    clear H
    go_enter Try.func13, Try.ntmps13
    go_upto_region 8 with (first | ((with_reducible refine gate_dst (N := 3) rfl ?_); refine box_event ?hg (N := 3) ?hd (cs := #[.slice A0_0 l0_0.length c0_0, .slice A0_1 l0_1.length c0_1]) (t := 24) ?hr ?_; (case hd => rfl); (case hg => rfl); (case hr => first | (go_simp; done) | (go_simp; rfl)); intro gb196 hg w14 hbox hb; have n0_ := Aside0.mk (below_step (by repeat (first | (with_reducible first | exact HB.out | apply bA_ | apply bN_ | apply bD_) | exact HB.out)) hb); have n1_ := Aside0.mk (hbox); have n2_ := Aside0.mk ((by rw [hg]; exact (below_size (by repeat (first | (with_reducible first | exact HB.out | apply bA_ | apply bN_ | apply bD_) | exact HB.out))) : w.heap.size ≤ gb196)); have n3_ := Aside0.mk ((by rw [hg]; exact (below_size (by repeat (first | (with_reducible first | exact HB.out | apply bA_ | apply bN_ | apply bD_) | exact HB.out))) : w.heap.size ≤ gb196)); clear HB; have HB := n0_; have BK196 := n1_; have GW196 := n2_; have GE196 := n3_; clear n0_ n1_ n2_ n3_; clear hb hbox hg; have hcz15_0 : w14.cell? ⟨gb196, 0, none⟩ = some (.slice A0_0 l0_0.length c0_0) := (blk_cell BK196.out 0).trans rfl; have hcz15_1 : w14.cell? ⟨gb196, 1, none⟩ = some (.slice A0_1 l0_1.length c0_1) := (blk_cell BK196.out 1).trans rfl; have hfz15_0 := blk_frozen BK196.out 0; have hfz15_1 := blk_frozen BK196.out 1) | ((with_reducible refine gate_callee (f := 15) rfl ?_); refine goesL_ (some 20) rfl rfl Try.func15 (by kernel_rfl) rfl #[.agg #[.slice A0_0 l0_0.length c0_0, .slice A0_1 l0_1.length c0_1], .int .i64 1048576] rfl (by (try simp only [List.map_toArray, List.map_cons, List.map_nil]); first | done | rfl | (simp only [List.length_drop, List.length_take]; rfl)) ?_; (with_reducible refine (laws_szHouse.calls _ _ l0_0 _ _ l0_1 1048576 t197 _ ?side1 ?side2 ?side3 ?side4 A4.out).mono ?_); (case side1 => repeat (first | exact (Kd.C_below HR0_0.out HB.out) | (with_reducible refine Kd.C_alloc ?_ _) | (with_reducible refine Kd.C_drewN ?_ _) | (with_reducible refine Kd.C_drew ?_))); (case side2 => exact HC0_0.out); (case side3 => repeat (first | exact (Kd.C_below HR0_1.out HB.out) | (with_reducible refine Kd.C_alloc ?_ _) | (with_reducible refine Kd.C_drewN ?_ _) | (with_reducible refine Kd.C_drew ?_))); (case side4 => exact HC0_1.out); rintro e w16 ⟨rfl, hb⟩; refine ⟨_, rfl, ?_⟩; have n0_ := Aside0.mk (blk_below (g := gb196) (o := .cells #[.slice A0_0 l0_0.length c0_0, .slice A0_1 l0_1.length c0_1] 24 (0, 0)) (by (with_reducible repeat (first | refine kN_ ?_ _ | refine kD_ ?_ | refine kA_ ?_ _)); exact BK196.out) hb); have n1_ := Aside0.mk (below_step (by repeat (first | (with_reducible first | exact HB.out | apply bA_ | apply bN_ | apply bD_ | refine bS_ ?_ GE196.out) | exact HB.out)) hb); clear BK196; clear HB; have BK196 := n0_; have HB := n1_; clear n0_ n1_; (try clear hb); (try clear hb2); (try clear hk); (try clear hi); have hcz17_0 : w16.cell? ⟨gb196, 0, none⟩ = some (.slice A0_0 l0_0.length c0_0) := (blk_cell BK196.out 0).trans rfl; have hcz17_1 : w16.cell? ⟨gb196, 1, none⟩ = some (.slice A0_1 l0_1.length c0_1) := (blk_cell BK196.out 1).trans rfl; have hfz17_0 := blk_frozen BK196.out 0; have hfz17_1 := blk_frozen BK196.out 1) | ((with_reducible refine gate_callee (f := 17) rfl ?_); refine goesL_ (some 25) rfl rfl Try.func17 (by kernel_rfl) rfl #[.agg #[.slice A0_0 l0_0.length c0_0, .slice A0_1 l0_1.length c0_1]] rfl (by (try simp only [List.map_toArray, List.map_cons, List.map_nil]); first | done | rfl | (simp only [List.length_drop, List.length_take]; rfl)) ?_; (with_reducible refine (laws_toHouse.calls k _ _ l0_0 _ _ l0_1 t198 t201 _ ?side1 ?side2 ?side3 ?side4 A9.out).mono ?_); (case side1 => repeat (first | exact (Kd.C_below HR0_0.out HB.out) | (with_reducible refine Kd.C_alloc ?_ _) | (with_reducible refine Kd.C_drewN ?_ _) | (with_reducible refine Kd.C_drew ?_))); (case side2 => exact HC0_0.out); (case side3 => repeat (first | exact (Kd.C_below HR0_1.out HB.out) | (with_reducible refine Kd.C_alloc ?_ _) | (with_reducible refine Kd.C_drewN ?_ _) | (with_reducible refine Kd.C_drew ?_))); (case side4 => exact HC0_1.out); rintro e w18 ⟨v199, v202, rfl, ho0, ho1, hb⟩; refine ⟨_, rfl, ?_⟩; have n0_ := Aside0.mk (Kd.R_lower ho0 (below_size (by repeat (first | (with_reducible first | exact HB.out | apply bA_ | apply bN_ | apply bD_ | refine bS_ ?_ GE196.out) | exact HB.out)))); have n1_ := Aside0.mk (Kd.R_lower ho1 (below_size (by repeat (first | (with_reducible first | exact HB.out | apply bA_ | apply bN_ | apply bD_ | refine bS_ ?_ GE196.out) | exact HB.out)))); have n2_ := Aside0.mk (blk_below (g := gb196) (o := .cells #[.slice A0_0 l0_0.length c0_0, .slice A0_1 l0_1.length c0_1] 24 (0, 0)) (by (with_reducible repeat (first | refine kN_ ?_ _ | refine kD_ ?_ | refine kA_ ?_ _)); exact BK196.out) hb); have n3_ := Aside0.mk (below_step (by repeat (first | (with_reducible first | exact HB.out | apply bA_ | apply bN_ | apply bD_ | refine bS_ ?_ GE196.out) | exact HB.out)) hb); clear BK196; clear HB; have HO200 := n0_; have HO203 := n1_; have BK196 := n2_; have HB := n3_; clear n0_ n1_ n2_ n3_; (try clear hb); (try clear hb2); (try clear hk); (try clear hi); (try clear ho0); (try clear ho1); obtain ⟨Ao19, co19, eo19⟩ := Kd.R_slice HO200.out; subst eo19; obtain ⟨Ao20, co20, eo20⟩ := Kd.R_slice HO203.out; subst eo20) | ((with_reducible refine gate_callee (f := 42) rfl ?_); refine goesL_ (some 28) rfl rfl Try.func42 (by kernel_rfl) rfl #[.agg #[.slice Ao19 t198.length co19, .slice Ao20 t201.length co20], .int .i64 a1, .int .i64 a2] rfl (by (try simp only [List.map_toArray, List.map_cons, List.map_nil]); first | done | rfl | (simp only [List.length_drop, List.length_take]; rfl)) ?_; (with_reducible refine (spec_AddFloor.calls k _ _ t198 _ _ t201 a1 a2 t204 t207 t210 _ ?side1 ?side2 ?side3 ?side4 A10.out).mono ?_); (case side1 => repeat (first | exact (rR_ HO200.out).2.2 | (with_reducible refine Kd.C_alloc ?_ _) | (with_reducible refine Kd.C_drewN ?_ _) | (with_reducible refine Kd.C_drew ?_))); (case side2 => exact (rR_ HO200.out).2.1); (case side3 => repeat (first | exact (rR_ HO203.out).2.2 | (with_reducible refine Kd.C_alloc ?_ _) | (with_reducible refine Kd.C_drewN ?_ _) | (with_reducible refine Kd.C_drew ?_))); (case side4 => exact (rR_ HO203.out).2.1); rintro e w21 ⟨v205, v208, rfl, ho0, ho1, hb⟩; refine ⟨_, rfl, ?_⟩; have n0_ := Aside0.mk (rM_ (Kd.R_told (Kd.R_told (Kd.R_old (by (with_reducible repeat (first | apply rA_ | apply rN_ | apply rD_)); exact HO200.out) hb) (Kd.R_base ho0)) (Kd.R_base ho1)) (fun _ h_ => h_.1)); have n1_ := Aside0.mk (rM_ (Kd.R_told (Kd.R_told (Kd.R_old (by (with_reducible repeat (first | apply rA_ | apply rN_ | apply rD_)); exact HO203.out) hb) (Kd.R_base ho0)) (Kd.R_base ho1)) (fun _ h_ => h_.1)); have n2_ := Aside0.mk (Kd.R_lower (Kd.R_new' (Kd.R_new' ho0 (Kd.R_lt (by (with_reducible repeat (first | apply rA_ | apply rN_ | apply rD_)); exact HO200.out))) (Kd.R_lt (by (with_reducible repeat (first | apply rA_ | apply rN_ | apply rD_)); exact HO203.out))) (below_size (by repeat (first | (with_reducible first | exact HB.out | apply bA_ | apply bN_ | apply bD_ | refine bS_ ?_ GE196.out) | exact HB.out)))); have n3_ := Aside0.mk (Kd.R_lower (Kd.R_new' (Kd.R_new' ho1 (Kd.R_lt (by (with_reducible repeat (first | apply rA_ | apply rN_ | apply rD_)); exact HO200.out))) (Kd.R_lt (by (with_reducible repeat (first | apply rA_ | apply rN_ | apply rD_)); exact HO203.out))) (below_size (by repeat (first | (with_reducible first | exact HB.out | apply bA_ | apply bN_ | apply bD_ | refine bS_ ?_ GE196.out) | exact HB.out)))); have n4_ := Aside0.mk (blk_below (g := gb196) (o := .cells #[.slice A0_0 l0_0.length c0_0, .slice A0_1 l0_1.length c0_1] 24 (0, 0)) (by (with_reducible repeat (first | refine kN_ ?_ _ | refine kD_ ?_ | refine kA_ ?_ _)); exact BK196.out) hb); have n5_ := Aside0.mk (below_step (by repeat (first | (with_reducible first | exact HB.out | apply bA_ | apply bN_ | apply bD_ | refine bS_ ?_ GE196.out) | exact HB.out)) hb); clear HO200; clear HO203; clear BK196; clear HB; have HO200 := n0_; have HO203 := n1_; have HO206 := n2_; have HO209 := n3_; have BK196 := n4_; have HB := n5_; clear n0_ n1_ n2_ n3_ n4_ n5_; (try clear hb); (try clear hb2); (try clear hk); (try clear hi); (try clear ho0); (try clear ho1)) | ((with_reducible refine gate_dst (N := 8) rfl ?_); refine box_event ?hg (N := 8) ?hd (cs := #[.slice none 0 0, .slice none 0 0]) (t := 27) ?hr ?_; (case hd => rfl); (case hg => rfl); (case hr => first | (go_simp; done) | (go_simp; rfl)); intro gb211 hg w22 hbox hb; have n0_ := Aside0.mk (rB_ (by (with_reducible repeat (first | apply rA_ | apply rN_ | apply rD_)); exact HO200.out) hb); have n1_ := Aside0.mk (rB_ (by (with_reducible repeat (first | apply rA_ | apply rN_ | apply rD_)); exact HO203.out) hb); have n2_ := Aside0.mk (rB_ (by (with_reducible repeat (first | apply rA_ | apply rN_ | apply rD_)); exact HO206.out) hb); have n3_ := Aside0.mk (rB_ (by (with_reducible repeat (first | apply rA_ | apply rN_ | apply rD_)); exact HO209.out) hb); have n4_ := Aside0.mk (blk_below (g := gb196) (o := .cells #[.slice A0_0 l0_0.length c0_0, .slice A0_1 l0_1.length c0_1] 24 (0, 0)) (by (with_reducible repeat (first | refine kN_ ?_ _ | refine kD_ ?_ | refine kA_ ?_ _)); exact BK196.out) hb); have n5_ := Aside0.mk (below_step (by repeat (first | (with_reducible first | exact HB.out | apply bA_ | apply bN_ | apply bD_ | refine bS_ ?_ GE196.out) | exact HB.out)) hb); have n6_ := Aside0.mk (hbox); have n7_ := Aside0.mk ((by rw [hg]; exact (below_size (by repeat (first | (with_reducible first | exact HB.out | apply bA_ | apply bN_ | apply bD_ | refine bS_ ?_ GE196.out) | exact HB.out))) : w.heap.size ≤ gb211)); have n8_ := Aside0.mk ((by rw [hg]; exact (below_size (by repeat (first | (with_reducible first | exact HB.out | apply bA_ | apply bN_ | apply bD_ | refine bS_ ?_ GE196.out) | exact HB.out))) : w.heap.size ≤ gb211)); have n9_ := Aside0.mk ((by rw [hg]; exact Nat.ne_of_lt (blk_lt (g := gb196) (o := .cells #[.slice A0_0 l0_0.length c0_0, .slice A0_1 l0_1.length c0_1] 24 (0, 0)) (by (with_reducible repeat (first | refine kN_ ?_ _ | refine kD_ ?_ | refine kA_ ?_ _)); exact BK196.out)) : gb196 ≠ gb211)); have n10_ := Aside0.mk ((by rw [hg]; exact Nat.ne_of_gt (blk_lt (g := gb196) (o := .cells #[.slice A0_0 l0_0.length c0_0, .slice A0_1 l0_1.length c0_1] 24 (0, 0)) (by (with_reducible repeat (first | refine kN_ ?_ _ | refine kD_ ?_ | refine kA_ ?_ _)); exact BK196.out)) : gb211 ≠ gb196)); clear HO200; clear HO203; clear HO206; clear HO209; clear BK196; clear HB; have HO200 := n0_; have HO203 := n1_; have HO206 := n2_; have HO209 := n3_; have BK196 := n4_; have HB := n5_; have BK211 := n6_; have GW211 := n7_; have GE211 := n8_; have NB196_211 := n9_; have NB211_196 := n10_; clear n0_ n1_ n2_ n3_ n4_ n5_ n6_ n7_ n8_ n9_ n10_; clear hb hbox hg; obtain ⟨Ao23, co23, eo23⟩ := Kd.R_slice HO206.out; subst eo23; have hnb24 := NB211_196.out; have hnc24 := NB196_211.out; have hcz25_0 : w22.cell? ⟨gb211, 0, none⟩ = some (.slice none 0 0) := (blk_cell BK211.out 0).trans rfl; have hcz25_1 : w22.cell? ⟨gb211, 1, none⟩ = some (.slice none 0 0) := (blk_cell BK211.out 1).trans rfl; have hfz25_0 := blk_frozen BK211.out 0; have hfz25_1 := blk_frozen BK211.out 1; obtain ⟨Ao26, co26, eo26⟩ := Kd.R_slice HO209.out; subst eo26; have hcz27_0 : w22.cell? ⟨gb196, 0, none⟩ = some (.slice A0_0 l0_0.length c0_0) := (blk_cell BK196.out 0).trans rfl; have hcz27_1 : w22.cell? ⟨gb196, 1, none⟩ = some (.slice A0_1 l0_1.length c0_1) := (blk_cell BK196.out 1).trans rfl; have hfz27_0 := blk_frozen BK196.out 0; have hfz27_1 := blk_frozen BK196.out 1) | ((with_reducible refine gate_callee (f := 17) rfl ?_); refine goesL_ (some 32) rfl rfl Try.func17 (by kernel_rfl) rfl #[.agg #[.slice A0_0 l0_0.length c0_0, .slice A0_1 l0_1.length c0_1]] rfl (by (try simp only [List.map_toArray, List.map_cons, List.map_nil]); first | done | rfl | (simp only [List.length_drop, List.length_take]; rfl)) ?_; (with_reducible refine (laws_toHouse.calls k _ _ l0_0 _ _ l0_1 t212 t215 _ ?side1 ?side2 ?side3 ?side4 A11.out).mono ?_); (case side1 => exact Kd.C_below HR0_0.out (by repeat (first | (with_reducible first | exact HB.out | apply bA_ | apply bN_ | apply bD_ | refine bS_ ?_ GE196.out | refine bS_ ?_ GE211.out) | exact HB.out))); (case side2 => exact HC0_0.out); (case side3 => exact Kd.C_below HR0_1.out (by repeat (first | (with_reducible first | exact HB.out | apply bA_ | apply bN_ | apply bD_ | refine bS_ ?_ GE196.out | refine bS_ ?_ GE211.out) | exact HB.out))); (case side4 => exact HC0_1.out); rintro e w28 ⟨v213, v216, rfl, ho0, ho1, hb⟩; refine ⟨_, rfl, ?_⟩; have n0_ := Aside0.mk (rM_ (Kd.R_told (Kd.R_told (Kd.R_old (by (with_reducible repeat (first | apply rA_ | apply rN_ | apply rD_)); exact (rM_ (rF_ (p := ⟨gb211, 1, none⟩) (rF_ (p := ⟨gb211, 0, none⟩) (Kd.R_types HO200.out BK211.out (by decide)) (fun _ hk => hk.2) (.slice Ao23 t204.length co23)) (fun _ hk => hk.2) (.slice Ao26 t207.length co26)) (fun _ h_ => h_.1))) hb) (Kd.R_base ho0)) (Kd.R_base ho1)) (fun _ h_ => h_.1)); have n1_ := Aside0.mk (rM_ (Kd.R_told (Kd.R_told (Kd.R_old (by (with_reducible repeat (first | apply rA_ | apply rN_ | apply rD_)); exact (rM_ (rF_ (p := ⟨gb211, 1, none⟩) (rF_ (p := ⟨gb211, 0, none⟩) (Kd.R_types HO203.out BK211.out (by decide)) (fun _ hk => hk.2) (.slice Ao23 t204.length co23)) (fun _ hk => hk.2) (.slice Ao26 t207.length co26)) (fun _ h_ => h_.1))) hb) (Kd.R_base ho0)) (Kd.R_base ho1)) (fun _ h_ => h_.1)); have n2_ := Aside0.mk (rM_ (Kd.R_told (Kd.R_told (Kd.R_old (by (with_reducible repeat (first | apply rA_ | apply rN_ | apply rD_)); exact (rM_ (rF_ (p := ⟨gb211, 1, none⟩) (rF_ (p := ⟨gb211, 0, none⟩) (Kd.R_types HO206.out BK211.out (by decide)) (fun _ hk => hk.2) (.slice Ao23 t204.length co23)) (fun _ hk => hk.2) (.slice Ao26 t207.length co26)) (fun _ h_ => h_.1))) hb) (Kd.R_base ho0)) (Kd.R_base ho1)) (fun _ h_ => h_.1)); have n3_ := Aside0.mk (rM_ (Kd.R_told (Kd.R_told (Kd.R_old (by (with_reducible repeat (first | apply rA_ | apply rN_ | apply rD_)); exact (rM_ (rF_ (p := ⟨gb211, 1, none⟩) (rF_ (p := ⟨gb211, 0, none⟩) (Kd.R_types HO209.out BK211.out (by decide)) (fun _ hk => hk.2) (.slice Ao23 t204.length co23)) (fun _ hk => hk.2) (.slice Ao26 t207.length co26)) (fun _ h_ => h_.1))) hb) (Kd.R_base ho0)) (Kd.R_base ho1)) (fun _ h_ => h_.1)); have n4_ := Aside0.mk (Kd.R_lower (Kd.R_new' (Kd.R_new' (Kd.R_new' (Kd.R_new' ho0 (Kd.R_lt (by (with_reducible repeat (first | apply rA_ | apply rN_ | apply rD_)); exact (rM_ (rF_ (p := ⟨gb211, 1, none⟩) (rF_ (p := ⟨gb211, 0, none⟩) (Kd.R_types HO200.out BK211.out (by decide)) (fun _ hk => hk.2) (.slice Ao23 t204.length co23)) (fun _ hk => hk.2) (.slice Ao26 t207.length co26)) (fun _ h_ => h_.1))))) (Kd.R_lt (by (with_reducible repeat (first | apply rA_ | apply rN_ | apply rD_)); exact (rM_ (rF_ (p := ⟨gb211, 1, none⟩) (rF_ (p := ⟨gb211, 0, none⟩) (Kd.R_types HO203.out BK211.out (by decide)) (fun _ hk => hk.2) (.slice Ao23 t204.length co23)) (fun _ hk => hk.2) (.slice Ao26 t207.length co26)) (fun _ h_ => h_.1))))) (Kd.R_lt (by (with_reducible repeat (first | apply rA_ | apply rN_ | apply rD_)); exact (rM_ (rF_ (p := ⟨gb211, 1, none⟩) (rF_ (p := ⟨gb211, 0, none⟩) (Kd.R_types HO206.out BK211.out (by decide)) (fun _ hk => hk.2) (.slice Ao23 t204.length co23)) (fun _ hk => hk.2) (.slice Ao26 t207.length co26)) (fun _ h_ => h_.1))))) (Kd.R_lt (by (with_reducible repeat (first | apply rA_ | apply rN_ | apply rD_)); exact (rM_ (rF_ (p := ⟨gb211, 1, none⟩) (rF_ (p := ⟨gb211, 0, none⟩) (Kd.R_types HO209.out BK211.out (by decide)) (fun _ hk => hk.2) (.slice Ao23 t204.length co23)) (fun _ hk => hk.2) (.slice Ao26 t207.length co26)) (fun _ h_ => h_.1))))) (below_size (by repeat (first | (with_reducible first | exact HB.out | apply bA_ | apply bN_ | apply bD_ | refine bS_ ?_ GE196.out | refine bS_ ?_ GE211.out) | exact HB.out)))); have n5_ := Aside0.mk (Kd.R_lower (Kd.R_new' (Kd.R_new' (Kd.R_new' (Kd.R_new' ho1 (Kd.R_lt (by (with_reducible repeat (first | apply rA_ | apply rN_ | apply rD_)); exact (rM_ (rF_ (p := ⟨gb211, 1, none⟩) (rF_ (p := ⟨gb211, 0, none⟩) (Kd.R_types HO200.out BK211.out (by decide)) (fun _ hk => hk.2) (.slice Ao23 t204.length co23)) (fun _ hk => hk.2) (.slice Ao26 t207.length co26)) (fun _ h_ => h_.1))))) (Kd.R_lt (by (with_reducible repeat (first | apply rA_ | apply rN_ | apply rD_)); exact (rM_ (rF_ (p := ⟨gb211, 1, none⟩) (rF_ (p := ⟨gb211, 0, none⟩) (Kd.R_types HO203.out BK211.out (by decide)) (fun _ hk => hk.2) (.slice Ao23 t204.length co23)) (fun _ hk => hk.2) (.slice Ao26 t207.length co26)) (fun _ h_ => h_.1))))) (Kd.R_lt (by (with_reducible repeat (first | apply rA_ | apply rN_ | apply rD_)); exact (rM_ (rF_ (p := ⟨gb211, 1, none⟩) (rF_ (p := ⟨gb211, 0, none⟩) (Kd.R_types HO206.out BK211.out (by decide)) (fun _ hk => hk.2) (.slice Ao23 t204.length co23)) (fun _ hk => hk.2) (.slice Ao26 t207.length co26)) (fun _ h_ => h_.1))))) (Kd.R_lt (by (with_reducible repeat (first | apply rA_ | apply rN_ | apply rD_)); exact (rM_ (rF_ (p := ⟨gb211, 1, none⟩) (rF_ (p := ⟨gb211, 0, none⟩) (Kd.R_types HO209.out BK211.out (by decide)) (fun _ hk => hk.2) (.slice Ao23 t204.length co23)) (fun _ hk => hk.2) (.slice Ao26 t207.length co26)) (fun _ h_ => h_.1))))) (below_size (by repeat (first | (with_reducible first | exact HB.out | apply bA_ | apply bN_ | apply bD_ | refine bS_ ?_ GE196.out | refine bS_ ?_ GE211.out) | exact HB.out)))); have n6_ := Aside0.mk (blk_below (g := gb196) (o := .cells #[.slice A0_0 l0_0.length c0_0, .slice A0_1 l0_1.length c0_1] 24 (0, 0)) (by (with_reducible repeat (first | refine kN_ ?_ _ | refine kD_ ?_ | refine kA_ ?_ _)); refine blk_far ?_ NB196_211.out _; (with_reducible repeat (first | refine kN_ ?_ _ | refine kD_ ?_ | refine kA_ ?_ _)); refine blk_far ?_ NB196_211.out _; (with_reducible repeat (first | refine kN_ ?_ _ | refine kD_ ?_ | refine kA_ ?_ _)); exact BK196.out) hb); have n7_ := Aside0.mk (blk_below (g := gb211) (o := .cells #[.slice Ao23 t204.length co23, .slice Ao26 t207.length co26] 27 (0, 0)) (by (with_reducible repeat (first | refine kN_ ?_ _ | refine kD_ ?_ | refine kA_ ?_ _)); refine blk_put (cs := #[.slice Ao23 t204.length co23, .slice none 0 0]) ?_ 1 _ rfl; (with_reducible repeat (first | refine kN_ ?_ _ | refine kD_ ?_ | refine kA_ ?_ _)); refine blk_put (cs := #[.slice none 0 0, .slice none 0 0]) ?_ 0 _ rfl; (with_reducible repeat (first | refine kN_ ?_ _ | refine kD_ ?_ | refine kA_ ?_ _)); exact BK211.out) hb); have n8_ := Aside0.mk (below_step (by repeat (first | (with_reducible first | exact HB.out | apply bA_ | apply bN_ | apply bD_ | refine bS_ ?_ GE196.out | refine bS_ ?_ GE211.out) | exact HB.out)) hb); clear HO200; clear HO203; clear HO206; clear HO209; clear BK196; clear BK211; clear HB; have HO200 := n0_; have HO203 := n1_; have HO206 := n2_; have HO209 := n3_; have HO214 := n4_; have HO217 := n5_; have BK196 := n6_; have BK211 := n7_; have HB := n8_; clear n0_ n1_ n2_ n3_ n4_ n5_ n6_ n7_ n8_; (try clear hb); (try clear hb2); (try clear hk); (try clear hi); (try clear ho0); (try clear ho1)) | ((with_reducible refine gate_dst (N := 10) rfl ?_); refine box_event ?hg (N := 10) ?hd (cs := #[.slice none 0 0, .slice none 0 0]) (t := 27) ?hr ?_; (case hd => rfl); (case hg => rfl); (case hr => first | (go_simp; done) | (go_simp; rfl)); intro gb218 hg w29 hbox hb; have n0_ := Aside0.mk (rB_ (by (with_reducible repeat (first | apply rA_ | apply rN_ | apply rD_)); exact HO200.out) hb); have n1_ := Aside0.mk (rB_ (by (with_reducible repeat (first | apply rA_ | apply rN_ | apply rD_)); exact HO203.out) hb); have n2_ := Aside0.mk (rB_ (by (with_reducible repeat (first | apply rA_ | apply rN_ | apply rD_)); exact HO206.out) hb); have n3_ := Aside0.mk (rB_ (by (with_reducible repeat (first | apply rA_ | apply rN_ | apply rD_)); exact HO209.out) hb); have n4_ := Aside0.mk (rB_ (by (with_reducible repeat (first | apply rA_ | apply rN_ | apply rD_)); exact HO214.out) hb); have n5_ := Aside0.mk (rB_ (by (with_reducible repeat (first | apply rA_ | apply rN_ | apply rD_)); exact HO217.out) hb); have n6_ := Aside0.mk (blk_below (g := gb196) (o := .cells #[.slice A0_0 l0_0.length c0_0, .slice A0_1 l0_1.length c0_1] 24 (0, 0)) (by (with_reducible repeat (first | refine kN_ ?_ _ | refine kD_ ?_ | refine kA_ ?_ _)); exact BK196.out) hb); have n7_ := Aside0.mk (blk_below (g := gb211) (o := .cells #[.slice Ao23 t204.length co23, .slice Ao26 t207.length co26] 27 (0, 0)) (by (with_reducible repeat (first | refine kN_ ?_ _ | refine kD_ ?_ | refine kA_ ?_ _)); exact BK211.out) hb); have n8_ := Aside0.mk (below_step (by repeat (first | (with_reducible first | exact HB.out | apply bA_ | apply bN_ | apply bD_ | refine bS_ ?_ GE196.out | refine bS_ ?_ GE211.out) | exact HB.out)) hb); have n9_ := Aside0.mk (hbox); have n10_ := Aside0.mk ((by rw [hg]; exact (below_size (by repeat (first | (with_reducible first | exact HB.out | apply bA_ | apply bN_ | apply bD_ | refine bS_ ?_ GE196.out | refine bS_ ?_ GE211.out) | exact HB.out))) : w.heap.size ≤ gb218)); have n11_ := Aside0.mk ((by rw [hg]; exact (below_size (by repeat (first | (with_reducible first | exact HB.out | apply bA_ | apply bN_ | apply bD_ | refine bS_ ?_ GE196.out | refine bS_ ?_ GE211.out) | exact HB.out))) : w.heap.size ≤ gb218)); have n12_ := Aside0.mk ((by rw [hg]; exact Nat.ne_of_lt (blk_lt (g := gb196) (o := .cells #[.slice A0_0 l0_0.length c0_0, .slice A0_1 l0_1.length c0_1] 24 (0, 0)) (by (with_reducible repeat (first | refine kN_ ?_ _ | refine kD_ ?_ | refine kA_ ?_ _)); exact BK196.out)) : gb196 ≠ gb218)); have n13_ := Aside0.mk ((by rw [hg]; exact Nat.ne_of_gt (blk_lt (g := gb196) (o := .cells #[.slice A0_0 l0_0.length c0_0, .slice A0_1 l0_1.length c0_1] 24 (0, 0)) (by (with_reducible repeat (first | refine kN_ ?_ _ | refine kD_ ?_ | refine kA_ ?_ _)); exact BK196.out)) : gb218 ≠ gb196)); have n14_ := Aside0.mk ((by rw [hg]; exact Nat.ne_of_lt (blk_lt (g := gb211) (o := .cells #[.slice Ao23 t204.length co23, .slice Ao26 t207.length co26] 27 (0, 0)) (by (with_reducible repeat (first | refine kN_ ?_ _ | refine kD_ ?_ | refine kA_ ?_ _)); exact BK211.out)) : gb211 ≠ gb218)); have n15_ := Aside0.mk ((by rw [hg]; exact Nat.ne_of_gt (blk_lt (g := gb211) (o := .cells #[.slice Ao23 t204.length co23, .slice Ao26 t207.length co26] 27 (0, 0)) (by (with_reducible repeat (first | refine kN_ ?_ _ | refine kD_ ?_ | refine kA_ ?_ _)); exact BK211.out)) : gb218 ≠ gb211)); clear HO200; clear HO203; clear HO206; clear HO209; clear HO214; clear HO217; clear BK196; clear BK211; clear HB; have HO200 := n0_; have HO203 := n1_; have HO206 := n2_; have HO209 := n3_; have HO214 := n4_; have HO217 := n5_; have BK196 := n6_; have BK211 := n7_; have HB := n8_; have BK218 := n9_; have GW218 := n10_; have GE218 := n11_; have NB196_218 := n12_; have NB218_196 := n13_; have NB211_218 := n14_; have NB218_211 := n15_; clear n0_ n1_ n2_ n3_ n4_ n5_ n6_ n7_ n8_ n9_ n10_ n11_ n12_ n13_ n14_ n15_; clear hb hbox hg; obtain ⟨Ao30, co30, eo30⟩ := Kd.R_slice HO214.out; subst eo30; have hnb31 := NB218_196.out; have hnc31 := NB196_218.out; have hnb32 := NB218_211.out; have hnc32 := NB211_218.out; have hcz33_0 : w29.cell? ⟨gb218, 0, none⟩ = some (.slice none 0 0) := (blk_cell BK218.out 0).trans rfl; have hcz33_1 : w29.cell? ⟨gb218, 1, none⟩ = some (.slice none 0 0) := (blk_cell BK218.out 1).trans rfl; have hfz33_0 := blk_frozen BK218.out 0; have hfz33_1 := blk_frozen BK218.out 1; obtain ⟨Ao34, co34, eo34⟩ := Kd.R_slice HO217.out; subst eo34) | ((with_reducible refine gate_callee (f := 43) rfl ?_); refine goesL_ (some 37) rfl rfl Try.func43 (by kernel_rfl) rfl #[.agg #[.slice Ao30 t212.length co30, .slice Ao34 t215.length co34], .int .i64 a1, .int .i64 a2] rfl (by (try simp only [List.map_toArray, List.map_cons, List.map_nil]); first | done | rfl | (simp only [List.length_drop, List.length_take]; rfl)) ?_; (with_reducible refine (impl_AddFloor.calls k _ _ t212 _ _ t215 a1 a2 t219 t222 t225 _ ?side1 ?side2 ?side3 ?side4 A12.out).mono ?_); (case side1 => refine (rR_ (e := 3) (base := w.heap.size) (ok := fun k_ => ((((some k_ ≠ (.slice Ao34 t215.length co34 : Value).ownBlock ∧ some k_ ≠ (.slice Ao19 t198.length co19 : Value).ownBlock) ∧ some k_ ≠ (.slice Ao20 t201.length co20 : Value).ownBlock) ∧ some k_ ≠ (.slice Ao23 t204.length co23 : Value).ownBlock) ∧ some k_ ≠ (.slice Ao26 t207.length co26 : Value).ownBlock)) (n := t212.length) (c := co30) ?_).2.2; exact (by (with_reducible repeat (first | apply rA_ | apply rN_ | apply rD_)); exact (rM_ (rF_ (p := ⟨gb218, 1, none⟩) (rF_ (p := ⟨gb218, 0, none⟩) (Kd.R_types HO214.out BK218.out (by decide)) (fun _ hk => hk.2) (.slice Ao30 t212.length co30)) (fun _ hk => hk.2) (.slice Ao34 t215.length co34)) (fun _ h_ => h_.1)))); (case side2 => exact (rR_ HO214.out).2.1); (case side3 => refine (rR_ (e := 3) (base := w.heap.size) (ok := fun k_ => ((((some k_ ≠ (.slice Ao30 t212.length co30 : Value).ownBlock ∧ some k_ ≠ (.slice Ao19 t198.length co19 : Value).ownBlock) ∧ some k_ ≠ (.slice Ao20 t201.length co20 : Value).ownBlock) ∧ some k_ ≠ (.slice Ao23 t204.length co23 : Value).ownBlock) ∧ some k_ ≠ (.slice Ao26 t207.length co26 : Value).ownBlock)) (n := t215.length) (c := co34) ?_).2.2; exact (by (with_reducible repeat (first | apply rA_ | apply rN_ | apply rD_)); exact (rM_ (rF_ (p := ⟨gb218, 1, none⟩) (rF_ (p := ⟨gb218, 0, none⟩) (Kd.R_types HO217.out BK218.out (by decide)) (fun _ hk => hk.2) (.slice Ao30 t212.length co30)) (fun _ hk => hk.2) (.slice Ao34 t215.length co34)) (fun _ h_ => h_.1)))); (case side4 => exact (rR_ HO217.out).2.1); rintro e w35 ⟨v220, v223, rfl, ho0, ho1, hb⟩; refine ⟨_, rfl, ?_⟩; have n0_ := Aside0.mk (rM_ (Kd.R_told (Kd.R_told (Kd.R_old (by (with_reducible repeat (first | apply rA_ | apply rN_ | apply rD_)); exact (rM_ (rF_ (p := ⟨gb218, 1, none⟩) (rF_ (p := ⟨gb218, 0, none⟩) (Kd.R_types HO200.out BK218.out (by decide)) (fun _ hk => hk.2) (.slice Ao30 t212.length co30)) (fun _ hk => hk.2) (.slice Ao34 t215.length co34)) (fun _ h_ => h_.1))) hb) (Kd.R_base ho0)) (Kd.R_base ho1)) (fun _ h_ => h_.1)); have n1_ := Aside0.mk (rM_ (Kd.R_told (Kd.R_told (Kd.R_old (by (with_reducible repeat (first | apply rA_ | apply rN_ | apply rD_)); exact (rM_ (rF_ (p := ⟨gb218, 1, none⟩) (rF_ (p := ⟨gb218, 0, none⟩) (Kd.R_types HO203.out BK218.out (by decide)) (fun _ hk => hk.2) (.slice Ao30 t212.length co30)) (fun _ hk => hk.2) (.slice Ao34 t215.length co34)) (fun _ h_ => h_.1))) hb) (Kd.R_base ho0)) (Kd.R_base ho1)) (fun _ h_ => h_.1)); have n2_ := Aside0.mk (rM_ (Kd.R_told (Kd.R_told (Kd.R_old (by (with_reducible repeat (first | apply rA_ | apply rN_ | apply rD_)); exact (rM_ (rF_ (p := ⟨gb218, 1, none⟩) (rF_ (p := ⟨gb218, 0, none⟩) (Kd.R_types HO206.out BK218.out (by decide)) (fun _ hk => hk.2) (.slice Ao30 t212.length co30)) (fun _ hk => hk.2) (.slice Ao34 t215.length co34)) (fun _ h_ => h_.1))) hb) (Kd.R_base ho0)) (Kd.R_base ho1)) (fun _ h_ => h_.1)); have n3_ := Aside0.mk (rM_ (Kd.R_told (Kd.R_told (Kd.R_old (by (with_reducible repeat (first | apply rA_ | apply rN_ | apply rD_)); exact (rM_ (rF_ (p := ⟨gb218, 1, none⟩) (rF_ (p := ⟨gb218, 0, none⟩) (Kd.R_types HO209.out BK218.out (by decide)) (fun _ hk => hk.2) (.slice Ao30 t212.length co30)) (fun _ hk => hk.2) (.slice Ao34 t215.length co34)) (fun _ h_ => h_.1))) hb) (Kd.R_base ho0)) (Kd.R_base ho1)) (fun _ h_ => h_.1)); have n4_ := Aside0.mk (rM_ (Kd.R_told (Kd.R_told (Kd.R_old (by (with_reducible repeat (first | apply rA_ | apply rN_ | apply rD_)); exact (rM_ (rF_ (p := ⟨gb218, 1, none⟩) (rF_ (p := ⟨gb218, 0, none⟩) (Kd.R_types HO214.out BK218.out (by decide)) (fun _ hk => hk.2) (.slice Ao30 t212.length co30)) (fun _ hk => hk.2) (.slice Ao34 t215.length co34)) (fun _ h_ => h_.1))) hb) (Kd.R_base ho0)) (Kd.R_base ho1)) (fun _ h_ => h_.1)); have n5_ := Aside0.mk (rM_ (Kd.R_told (Kd.R_told (Kd.R_old (by (with_reducible repeat (first | apply rA_ | apply rN_ | apply rD_)); exact (rM_ (rF_ (p := ⟨gb218, 1, none⟩) (rF_ (p := ⟨gb218, 0, none⟩) (Kd.R_types HO217.out BK218.out (by decide)) (fun _ hk => hk.2) (.slice Ao30 t212.length co30)) (fun _ hk => hk.2) (.slice Ao34 t215.length co34)) (fun _ h_ => h_.1))) hb) (Kd.R_base ho0)) (Kd.R_base ho1)) (fun _ h_ => h_.1)); have n6_ := Aside0.mk (Kd.R_lower (Kd.R_new' (Kd.R_new' (Kd.R_new' (Kd.R_new' (Kd.R_new' (Kd.R_new' ho0 (Kd.R_lt (by (with_reducible repeat (first | apply rA_ | apply rN_ | apply rD_)); exact (rM_ (rF_ (p := ⟨gb218, 1, none⟩) (rF_ (p := ⟨gb218, 0, none⟩) (Kd.R_types HO200.out BK218.out (by decide)) (fun _ hk => hk.2) (.slice Ao30 t212.length co30)) (fun _ hk => hk.2) (.slice Ao34 t215.length co34)) (fun _ h_ => h_.1))))) (Kd.R_lt (by (with_reducible repeat (first | apply rA_ | apply rN_ | apply rD_)); exact (rM_ (rF_ (p := ⟨gb218, 1, none⟩) (rF_ (p := ⟨gb218, 0, none⟩) (Kd.R_types HO203.out BK218.out (by decide)) (fun _ hk => hk.2) (.slice Ao30 t212.length co30)) (fun _ hk => hk.2) (.slice Ao34 t215.length co34)) (fun _ h_ => h_.1))))) (Kd.R_lt (by (with_reducible repeat (first | apply rA_ | apply rN_ | apply rD_)); exact (rM_ (rF_ (p := ⟨gb218, 1, none⟩) (rF_ (p := ⟨gb218, 0, none⟩) (Kd.R_types HO206.out BK218.out (by decide)) (fun _ hk => hk.2) (.slice Ao30 t212.length co30)) (fun _ hk => hk.2) (.slice Ao34 t215.length co34)) (fun _ h_ => h_.1))))) (Kd.R_lt (by (with_reducible repeat (first | apply rA_ | apply rN_ | apply rD_)); exact (rM_ (rF_ (p := ⟨gb218, 1, none⟩) (rF_ (p := ⟨gb218, 0, none⟩) (Kd.R_types HO209.out BK218.out (by decide)) (fun _ hk => hk.2) (.slice Ao30 t212.length co30)) (fun _ hk => hk.2) (.slice Ao34 t215.length co34)) (fun _ h_ => h_.1))))) (Kd.R_lt (by (with_reducible repeat (first | apply rA_ | apply rN_ | apply rD_)); exact (rM_ (rF_ (p := ⟨gb218, 1, none⟩) (rF_ (p := ⟨gb218, 0, none⟩) (Kd.R_types HO214.out BK218.out (by decide)) (fun _ hk => hk.2) (.slice Ao30 t212.length co30)) (fun _ hk => hk.2) (.slice Ao34 t215.length co34)) (fun _ h_ => h_.1))))) (Kd.R_lt (by (with_reducible repeat (first | apply rA_ | apply rN_ | apply rD_)); exact (rM_ (rF_ (p := ⟨gb218, 1, none⟩) (rF_ (p := ⟨gb218, 0, none⟩) (Kd.R_types HO217.out BK218.out (by decide)) (fun _ hk => hk.2) (.slice Ao30 t212.length co30)) (fun _ hk => hk.2) (.slice Ao34 t215.length co34)) (fun _ h_ => h_.1))))) (below_size (by repeat (first | (with_reducible first | exact HB.out | apply bA_ | apply bN_ | apply bD_ | refine bS_ ?_ GE196.out | refine bS_ ?_ GE211.out | refine bS_ ?_ GE218.out) | exact HB.out)))); have n7_ := Aside0.mk (Kd.R_lower (Kd.R_new' (Kd.R_new' (Kd.R_new' (Kd.R_new' (Kd.R_new' (Kd.R_new' ho1 (Kd.R_lt (by (with_reducible repeat (first | apply rA_ | apply rN_ | apply rD_)); exact (rM_ (rF_ (p := ⟨gb218, 1, none⟩) (rF_ (p := ⟨gb218, 0, none⟩) (Kd.R_types HO200.out BK218.out (by decide)) (fun _ hk => hk.2) (.slice Ao30 t212.length co30)) (fun _ hk => hk.2) (.slice Ao34 t215.length co34)) (fun _ h_ => h_.1))))) (Kd.R_lt (by (with_reducible repeat (first | apply rA_ | apply rN_ | apply rD_)); exact (rM_ (rF_ (p := ⟨gb218, 1, none⟩) (rF_ (p := ⟨gb218, 0, none⟩) (Kd.R_types HO203.out BK218.out (by decide)) (fun _ hk => hk.2) (.slice Ao30 t212.length co30)) (fun _ hk => hk.2) (.slice Ao34 t215.length co34)) (fun _ h_ => h_.1))))) (Kd.R_lt (by (with_reducible repeat (first | apply rA_ | apply rN_ | apply rD_)); exact (rM_ (rF_ (p := ⟨gb218, 1, none⟩) (rF_ (p := ⟨gb218, 0, none⟩) (Kd.R_types HO206.out BK218.out (by decide)) (fun _ hk => hk.2) (.slice Ao30 t212.length co30)) (fun _ hk => hk.2) (.slice Ao34 t215.length co34)) (fun _ h_ => h_.1))))) (Kd.R_lt (by (with_reducible repeat (first | apply rA_ | apply rN_ | apply rD_)); exact (rM_ (rF_ (p := ⟨gb218, 1, none⟩) (rF_ (p := ⟨gb218, 0, none⟩) (Kd.R_types HO209.out BK218.out (by decide)) (fun _ hk => hk.2) (.slice Ao30 t212.length co30)) (fun _ hk => hk.2) (.slice Ao34 t215.length co34)) (fun _ h_ => h_.1))))) (Kd.R_lt (by (with_reducible repeat (first | apply rA_ | apply rN_ | apply rD_)); exact (rM_ (rF_ (p := ⟨gb218, 1, none⟩) (rF_ (p := ⟨gb218, 0, none⟩) (Kd.R_types HO214.out BK218.out (by decide)) (fun _ hk => hk.2) (.slice Ao30 t212.length co30)) (fun _ hk => hk.2) (.slice Ao34 t215.length co34)) (fun _ h_ => h_.1))))) (Kd.R_lt (by (with_reducible repeat (first | apply rA_ | apply rN_ | apply rD_)); exact (rM_ (rF_ (p := ⟨gb218, 1, none⟩) (rF_ (p := ⟨gb218, 0, none⟩) (Kd.R_types HO217.out BK218.out (by decide)) (fun _ hk => hk.2) (.slice Ao30 t212.length co30)) (fun _ hk => hk.2) (.slice Ao34 t215.length co34)) (fun _ h_ => h_.1))))) (below_size (by repeat (first | (with_reducible first | exact HB.out | apply bA_ | apply bN_ | apply bD_ | refine bS_ ?_ GE196.out | refine bS_ ?_ GE211.out | refine bS_ ?_ GE218.out) | exact HB.out)))); have n8_ := Aside0.mk (blk_below (g := gb196) (o := .cells #[.slice A0_0 l0_0.length c0_0, .slice A0_1 l0_1.length c0_1] 24 (0, 0)) (by (with_reducible repeat (first | refine kN_ ?_ _ | refine kD_ ?_ | refine kA_ ?_ _)); refine blk_far ?_ NB196_218.out _; (with_reducible repeat (first | refine kN_ ?_ _ | refine kD_ ?_ | refine kA_ ?_ _)); refine blk_far ?_ NB196_218.out _; (with_reducible repeat (first | refine kN_ ?_ _ | refine kD_ ?_ | refine kA_ ?_ _)); exact BK196.out) hb); have n9_ := Aside0.mk (blk_below (g := gb211) (o := .cells #[.slice Ao23 t204.length co23, .slice Ao26 t207.length co26] 27 (0, 0)) (by (with_reducible repeat (first | refine kN_ ?_ _ | refine kD_ ?_ | refine kA_ ?_ _)); refine blk_far ?_ NB211_218.out _; (with_reducible repeat (first | refine kN_ ?_ _ | refine kD_ ?_ | refine kA_ ?_ _)); refine blk_far ?_ NB211_218.out _; (with_reducible repeat (first | refine kN_ ?_ _ | refine kD_ ?_ | refine kA_ ?_ _)); exact BK211.out) hb); have n10_ := Aside0.mk (blk_below (g := gb218) (o := .cells #[.slice Ao30 t212.length co30, .slice Ao34 t215.length co34] 27 (0, 0)) (by (with_reducible repeat (first | refine kN_ ?_ _ | refine kD_ ?_ | refine kA_ ?_ _)); refine blk_put (cs := #[.slice Ao30 t212.length co30, .slice none 0 0]) ?_ 1 _ rfl; (with_reducible repeat (first | refine kN_ ?_ _ | refine kD_ ?_ | refine kA_ ?_ _)); refine blk_put (cs := #[.slice none 0 0, .slice none 0 0]) ?_ 0 _ rfl; (with_reducible repeat (first | refine kN_ ?_ _ | refine kD_ ?_ | refine kA_ ?_ _)); exact BK218.out) hb); have n11_ := Aside0.mk (below_step (by repeat (first | (with_reducible first | exact HB.out | apply bA_ | apply bN_ | apply bD_ | refine bS_ ?_ GE196.out | refine bS_ ?_ GE211.out | refine bS_ ?_ GE218.out) | exact HB.out)) hb); clear HO200; clear HO203; clear HO206; clear HO209; clear HO214; clear HO217; clear BK196; clear BK211; clear BK218; clear HB; have HO200 := n0_; have HO203 := n1_; have HO206 := n2_; have HO209 := n3_; have HO214 := n4_; have HO217 := n5_; have HO221 := n6_; have HO224 := n7_; have BK196 := n8_; have BK211 := n9_; have BK218 := n10_; have HB := n11_; clear n0_ n1_ n2_ n3_ n4_ n5_ n6_ n7_ n8_ n9_ n10_ n11_; (try clear hb); (try clear hb2); (try clear hk); (try clear hi); (try clear ho0); (try clear ho1)) | ((with_reducible refine gate_dst (N := 11) rfl ?_); refine box_event ?hg (N := 11) ?hd (cs := #[.slice none 0 0, .slice none 0 0]) (t := 27) ?hr ?_; (case hd => rfl); (case hg => rfl); (case hr => first | (go_simp; done) | (go_simp; rfl)); intro gb226 hg w36 hbox hb; have n0_ := Aside0.mk (rB_ (by (with_reducible repeat (first | apply rA_ | apply rN_ | apply rD_)); exact HO200.out) hb); have n1_ := Aside0.mk (rB_ (by (with_reducible repeat (first | apply rA_ | apply rN_ | apply rD_)); exact HO203.out) hb); have n2_ := Aside0.mk (rB_ (by (with_reducible repeat (first | apply rA_ | apply rN_ | apply rD_)); exact HO206.out) hb); have n3_ := Aside0.mk (rB_ (by (with_reducible repeat (first | apply rA_ | apply rN_ | apply rD_)); exact HO209.out) hb); have n4_ := Aside0.mk (rB_ (by (with_reducible repeat (first | apply rA_ | apply rN_ | apply rD_)); exact HO214.out) hb); have n5_ := Aside0.mk (rB_ (by (with_reducible repeat (first | apply rA_ | apply rN_ | apply rD_)); exact HO217.out) hb); have n6_ := Aside0.mk (rB_ (by (with_reducible repeat (first | apply rA_ | apply rN_ | apply rD_)); exact HO221.out) hb); have n7_ := Aside0.mk (rB_ (by (with_reducible repeat (first | apply rA_ | apply rN_ | apply rD_)); exact HO224.out) hb); have n8_ := Aside0.mk (blk_below (g := gb196) (o := .cells #[.slice A0_0 l0_0.length c0_0, .slice A0_1 l0_1.length c0_1] 24 (0, 0)) (by (with_reducible repeat (first | refine kN_ ?_ _ | refine kD_ ?_ | refine kA_ ?_ _)); exact BK196.out) hb); have n9_ := Aside0.mk (blk_below (g := gb211) (o := .cells #[.slice Ao23 t204.length co23, .slice Ao26 t207.length co26] 27 (0, 0)) (by (with_reducible repeat (first | refine kN_ ?_ _ | refine kD_ ?_ | refine kA_ ?_ _)); exact BK211.out) hb); have n10_ := Aside0.mk (blk_below (g := gb218) (o := .cells #[.slice Ao30 t212.length co30, .slice Ao34 t215.length co34] 27 (0, 0)) (by (with_reducible repeat (first | refine kN_ ?_ _ | refine kD_ ?_ | refine kA_ ?_ _)); exact BK218.out) hb); have n11_ := Aside0.mk (below_step (by repeat (first | (with_reducible first | exact HB.out | apply bA_ | apply bN_ | apply bD_ | refine bS_ ?_ GE196.out | refine bS_ ?_ GE211.out | refine bS_ ?_ GE218.out) | exact HB.out)) hb); have n12_ := Aside0.mk (hbox); have n13_ := Aside0.mk ((by rw [hg]; exact (below_size (by repeat (first | (with_reducible first | exact HB.out | apply bA_ | apply bN_ | apply bD_ | refine bS_ ?_ GE196.out | refine bS_ ?_ GE211.out | refine bS_ ?_ GE218.out) | exact HB.out))) : w.heap.size ≤ gb226)); have n14_ := Aside0.mk ((by rw [hg]; exact (below_size (by repeat (first | (with_reducible first | exact HB.out | apply bA_ | apply bN_ | apply bD_ | refine bS_ ?_ GE196.out | refine bS_ ?_ GE211.out | refine bS_ ?_ GE218.out) | exact HB.out))) : w.heap.size ≤ gb226)); have n15_ := Aside0.mk ((by rw [hg]; exact Nat.ne_of_lt (blk_lt (g := gb196) (o := .cells #[.slice A0_0 l0_0.length c0_0, .slice A0_1 l0_1.length c0_1] 24 (0, 0)) (by (with_reducible repeat (first | refine kN_ ?_ _ | refine kD_ ?_ | refine kA_ ?_ _)); exact BK196.out)) : gb196 ≠ gb226)); have n16_ := Aside0.mk ((by rw [hg]; exact Nat.ne_of_gt (blk_lt (g := gb196) (o := .cells #[.slice A0_0 l0_0.length c0_0, .slice A0_1 l0_1.length c0_1] 24 (0, 0)) (by (with_reducible repeat (first | refine kN_ ?_ _ | refine kD_ ?_ | refine kA_ ?_ _)); exact BK196.out)) : gb226 ≠ gb196)); have n17_ := Aside0.mk ((by rw [hg]; exact Nat.ne_of_lt (blk_lt (g := gb211) (o := .cells #[.slice Ao23 t204.length co23, .slice Ao26 t207.length co26] 27 (0, 0)) (by (with_reducible repeat (first | refine kN_ ?_ _ | refine kD_ ?_ | refine kA_ ?_ _)); exact BK211.out)) : gb211 ≠ gb226)); have n18_ := Aside0.mk ((by rw [hg]; exact Nat.ne_of_gt (blk_lt (g := gb211) (o := .cells #[.slice Ao23 t204.length co23, .slice Ao26 t207.length co26] 27 (0, 0)) (by (with_reducible repeat (first | refine kN_ ?_ _ | refine kD_ ?_ | refine kA_ ?_ _)); exact BK211.out)) : gb226 ≠ gb211)); have n19_ := Aside0.mk ((by rw [hg]; exact Nat.ne_of_lt (blk_lt (g := gb218) (o := .cells #[.slice Ao30 t212.length co30, .slice Ao34 t215.length co34] 27 (0, 0)) (by (with_reducible repeat (first | refine kN_ ?_ _ | refine kD_ ?_ | refine kA_ ?_ _)); exact BK218.out)) : gb218 ≠ gb226)); have n20_ := Aside0.mk ((by rw [hg]; exact Nat.ne_of_gt (blk_lt (g := gb218) (o := .cells #[.slice Ao30 t212.length co30, .slice Ao34 t215.length co34] 27 (0, 0)) (by (with_reducible repeat (first | refine kN_ ?_ _ | refine kD_ ?_ | refine kA_ ?_ _)); exact BK218.out)) : gb226 ≠ gb218)); clear HO200; clear HO203; clear HO206; clear HO209; clear HO214; clear HO217; clear HO221; clear HO224; clear BK196; clear BK211; clear BK218; clear HB; have HO200 := n0_; have HO203 := n1_; have HO206 := n2_; have HO209 := n3_; have HO214 := n4_; have HO217 := n5_; have HO221 := n6_; have HO224 := n7_; have BK196 := n8_; have BK211 := n9_; have BK218 := n10_; have HB := n11_; have BK226 := n12_; have GW226 := n13_; have GE226 := n14_; have NB196_226 := n15_; have NB226_196 := n16_; have NB211_226 := n17_; have NB226_211 := n18_; have NB218_226 := n19_; have NB226_218 := n20_; clear n0_ n1_ n2_ n3_ n4_ n5_ n6_ n7_ n8_ n9_ n10_ n11_ n12_ n13_ n14_ n15_ n16_ n17_ n18_ n19_ n20_; clear hb hbox hg; obtain ⟨Ao37, co37, eo37⟩ := Kd.R_slice HO221.out; subst eo37; have hnb38 := NB226_196.out; have hnc38 := NB196_226.out; have hnb39 := NB226_211.out; have hnc39 := NB211_226.out; have hnb40 := NB226_218.out; have hnc40 := NB218_226.out; have hcz41_0 : w36.cell? ⟨gb226, 0, none⟩ = some (.slice none 0 0) := (blk_cell BK226.out 0).trans rfl; have hcz41_1 : w36.cell? ⟨gb226, 1, none⟩ = some (.slice none 0 0) := (blk_cell BK226.out 1).trans rfl; have hfz41_0 := blk_frozen BK226.out 0; have hfz41_1 := blk_frozen BK226.out 1; obtain ⟨Ao42, co42, eo42⟩ := Kd.R_slice HO224.out; subst eo42))
    (try simp only [Act.put, List.setIfInBounds_toArray, List.set_cons_zero, List.set_cons_succ])
    go_cut [48] (fun v48 wc => ∃ (kq : Nat) (x48_12 : Bool), v48 = .bool x48_12 ∧ Aside0 (laws_FnExactAddFloor.j0 kq a1 a2 t210 t225 x48_12 l0_0 l0_1 t204 t207 t212 t215 t219 t222 = some r) ∧ Aside0 (kq ≤ k) ∧ Aside0 (Kd.R (Kd.int .i64) 3 wc w.heap.size (fun k_ => some k_ ≠ ((.slice Ao26 t207.length co26) : Value).ownBlock ∧ some k_ ≠ ((.slice Ao30 t212.length co30) : Value).ownBlock ∧ some k_ ≠ ((.slice Ao34 t215.length co34) : Value).ownBlock ∧ some k_ ≠ ((.slice Ao37 t219.length co37) : Value).ownBlock ∧ some k_ ≠ ((.slice Ao42 t222.length co42) : Value).ownBlock) (.slice Ao23 t204.length co23) t204) ∧ Aside0 (Kd.R (Kd.int .i64) 3 wc w.heap.size (fun k_ => some k_ ≠ ((.slice Ao23 t204.length co23) : Value).ownBlock ∧ some k_ ≠ ((.slice Ao30 t212.length co30) : Value).ownBlock ∧ some k_ ≠ ((.slice Ao34 t215.length co34) : Value).ownBlock ∧ some k_ ≠ ((.slice Ao37 t219.length co37) : Value).ownBlock ∧ some k_ ≠ ((.slice Ao42 t222.length co42) : Value).ownBlock) (.slice Ao26 t207.length co26) t207) ∧ Aside0 (Kd.R (Kd.int .i64) 3 wc w.heap.size (fun k_ => some k_ ≠ ((.slice Ao23 t204.length co23) : Value).ownBlock ∧ some k_ ≠ ((.slice Ao26 t207.length co26) : Value).ownBlock ∧ some k_ ≠ ((.slice Ao34 t215.length co34) : Value).ownBlock ∧ some k_ ≠ ((.slice Ao37 t219.length co37) : Value).ownBlock ∧ some k_ ≠ ((.slice Ao42 t222.length co42) : Value).ownBlock) (.slice Ao30 t212.length co30) t212) ∧ Aside0 (Kd.R (Kd.int .i64) 3 wc w.heap.size (fun k_ => some k_ ≠ ((.slice Ao23 t204.length co23) : Value).ownBlock ∧ some k_ ≠ ((.slice Ao26 t207.length co26) : Value).ownBlock ∧ some k_ ≠ ((.slice Ao30 t212.length co30) : Value).ownBlock ∧ some k_ ≠ ((.slice Ao37 t219.length co37) : Value).ownBlock ∧ some k_ ≠ ((.slice Ao42 t222.length co42) : Value).ownBlock) (.slice Ao34 t215.length co34) t215) ∧ Aside0 (Kd.R (Kd.int .i64) 3 wc w.heap.size (fun k_ => some k_ ≠ ((.slice Ao23 t204.length co23) : Value).ownBlock ∧ some k_ ≠ ((.slice Ao26 t207.length co26) : Value).ownBlock ∧ some k_ ≠ ((.slice Ao30 t212.length co30) : Value).ownBlock ∧ some k_ ≠ ((.slice Ao34 t215.length co34) : Value).ownBlock ∧ some k_ ≠ ((.slice Ao42 t222.length co42) : Value).ownBlock) (.slice Ao37 t219.length co37) t219) ∧ Aside0 (Kd.R (Kd.int .i64) 3 wc w.heap.size (fun k_ => some k_ ≠ ((.slice Ao23 t204.length co23) : Value).ownBlock ∧ some k_ ≠ ((.slice Ao26 t207.length co26) : Value).ownBlock ∧ some k_ ≠ ((.slice Ao30 t212.length co30) : Value).ownBlock ∧ some k_ ≠ ((.slice Ao34 t215.length co34) : Value).ownBlock ∧ some k_ ≠ ((.slice Ao37 t219.length co37) : Value).ownBlock) (.slice Ao42 t222.length co42) t222) ∧ Aside0 (wc.heap[gb196]? = some (.cells #[(.slice A0_0 l0_0.length c0_0), (.slice A0_1 l0_1.length c0_1)] 24 (0, 0))) ∧ Aside0 (wc.heap[gb211]? = some (.cells #[(.slice Ao23 t204.length co23), (.slice Ao26 t207.length co26)] 27 (0, 0))) ∧ Aside0 (wc.heap[gb218]? = some (.cells #[(.slice Ao30 t212.length co30), (.slice Ao34 t215.length co34)] 27 (0, 0))) ∧ Aside0 (wc.heap[gb226]? = some (.cells #[(.slice Ao37 t219.length co37), (.slice Ao42 t222.length co42)] 27 (0, 0))) ∧ Aside0 (Below w.heap.size w wc))
    case first =>
      have H := HC13.out
      clear HC13
      replace H := Option.bind_eq_some_iff.mp H
      obtain ⟨t227, A430, H⟩ := H
      replace H : (if t227 = true then (laws_FnExactAddFloor.j0 k a1 a2 t210 t225 (t225 != t210) l0_0 l0_1 t204 t207 t212 t215 t219 t222) else (laws_FnExactAddFloor.j0 k a1 a2 t210 t225 true l0_0 l0_1 t204 t207 t212 t215 t219 t222)) = some r := H
      have A43 := Aside0.mk A430
      clear A430
      by_cases c44 : t227 = true
      · subst c44
        have H1 : (laws_FnExactAddFloor.j0 k a1 a2 t210 t225 (t225 != t210) l0_0 l0_1 t204 t207 t212 t215 t219 t222) = some r := by rw [if_pos rfl] at H; exact H
        clear H
        have H := H1
        clear H1
        have H' := Aside0.mk H
        clear H
        have hnb45 := NB226_196.out
        have hnc45 := NB196_226.out
        have hnb46 := NB226_211.out
        have hnc46 := NB211_226.out
        have hnb47 := NB226_218.out
        have hnc47 := NB218_226.out
        have hcz48_0 : w36.cell? ⟨gb226, 0, none⟩ = some (.slice none 0 0) := (blk_cell BK226.out 0).trans rfl
        have hcz48_1 : w36.cell? ⟨gb226, 1, none⟩ = some (.slice none 0 0) := (blk_cell BK226.out 1).trans rfl
        have hfz48_0 := blk_frozen BK226.out 0
        have hfz48_1 := blk_frozen BK226.out 1
        have hnb49 := NB211_196.out
        have hnc49 := NB196_211.out
        have hnb50 := NB211_218.out
        have hnc50 := NB218_211.out
        have hcz51_0 : w36.cell? ⟨gb211, 0, none⟩ = some (.slice Ao23 t204.length co23) := (blk_cell BK211.out 0).trans rfl
        have hcz51_1 : w36.cell? ⟨gb211, 1, none⟩ = some (.slice Ao26 t207.length co26) := (blk_cell BK211.out 1).trans rfl
        have hfz51_0 := blk_frozen BK211.out 0
        have hfz51_1 := blk_frozen BK211.out 1
        go_wp2_with (first | ((with_reducible refine gate_callee (f := 19) rfl ?_); refine goesL_ (some 42) rfl rfl Try.func19 (by kernel_rfl) rfl #[.agg #[.slice Ao37 t219.length co37, .slice Ao42 t222.length co42], .agg #[.slice Ao23 t204.length co23, .slice Ao26 t207.length co26]] rfl (by (try simp only [List.map_toArray, List.map_cons, List.map_nil]); first | done | rfl | (simp only [List.length_drop, List.length_take]; rfl)) ?_; (with_reducible refine (laws_eqHouse.calls k _ _ t219 _ _ t222 _ _ t204 _ _ t207 true _ ?side1 ?side2 ?side3 ?side4 ?side5 ?side6 ?side7 ?side8 A43.out).mono ?_); (case side1 => refine (rR_ (e := 3) (base := w.heap.size) (ok := fun k_ => ((((((some k_ ≠ (.slice Ao42 t222.length co42 : Value).ownBlock ∧ some k_ ≠ (.slice Ao19 t198.length co19 : Value).ownBlock) ∧ some k_ ≠ (.slice Ao20 t201.length co20 : Value).ownBlock) ∧ some k_ ≠ (.slice Ao23 t204.length co23 : Value).ownBlock) ∧ some k_ ≠ (.slice Ao26 t207.length co26 : Value).ownBlock) ∧ some k_ ≠ (.slice Ao30 t212.length co30 : Value).ownBlock) ∧ some k_ ≠ (.slice Ao34 t215.length co34 : Value).ownBlock)) (n := t219.length) (c := co37) ?_).2.2; exact (by (with_reducible repeat (first | apply rA_ | apply rN_ | apply rD_)); exact (rM_ (rF_ (p := ⟨gb226, 1, none⟩) (rF_ (p := ⟨gb226, 0, none⟩) (Kd.R_types HO221.out BK226.out (by decide)) (fun _ hk => hk.2) (.slice Ao37 t219.length co37)) (fun _ hk => hk.2) (.slice Ao42 t222.length co42)) (fun _ h_ => h_.1)))); (case side2 => exact (rR_ HO221.out).2.1); (case side3 => refine (rR_ (e := 3) (base := w.heap.size) (ok := fun k_ => ((((((some k_ ≠ (.slice Ao37 t219.length co37 : Value).ownBlock ∧ some k_ ≠ (.slice Ao19 t198.length co19 : Value).ownBlock) ∧ some k_ ≠ (.slice Ao20 t201.length co20 : Value).ownBlock) ∧ some k_ ≠ (.slice Ao23 t204.length co23 : Value).ownBlock) ∧ some k_ ≠ (.slice Ao26 t207.length co26 : Value).ownBlock) ∧ some k_ ≠ (.slice Ao30 t212.length co30 : Value).ownBlock) ∧ some k_ ≠ (.slice Ao34 t215.length co34 : Value).ownBlock)) (n := t222.length) (c := co42) ?_).2.2; exact (by (with_reducible repeat (first | apply rA_ | apply rN_ | apply rD_)); exact (rM_ (rF_ (p := ⟨gb226, 1, none⟩) (rF_ (p := ⟨gb226, 0, none⟩) (Kd.R_types HO224.out BK226.out (by decide)) (fun _ hk => hk.2) (.slice Ao37 t219.length co37)) (fun _ hk => hk.2) (.slice Ao42 t222.length co42)) (fun _ h_ => h_.1)))); (case side4 => exact (rR_ HO224.out).2.1); (case side5 => refine (rR_ (e := 3) (base := w.heap.size) (ok := fun k_ => ((((((some k_ ≠ (.slice Ao26 t207.length co26 : Value).ownBlock ∧ some k_ ≠ (.slice Ao19 t198.length co19 : Value).ownBlock) ∧ some k_ ≠ (.slice Ao20 t201.length co20 : Value).ownBlock) ∧ some k_ ≠ (.slice Ao30 t212.length co30 : Value).ownBlock) ∧ some k_ ≠ (.slice Ao34 t215.length co34 : Value).ownBlock) ∧ some k_ ≠ (.slice Ao37 t219.length co37 : Value).ownBlock) ∧ some k_ ≠ (.slice Ao42 t222.length co42 : Value).ownBlock)) (n := t204.length) (c := co23) ?_).2.2; exact (by (with_reducible repeat (first | apply rA_ | apply rN_ | apply rD_)); exact (rM_ (rF_ (p := ⟨gb226, 1, none⟩) (rF_ (p := ⟨gb226, 0, none⟩) (Kd.R_types HO206.out BK226.out (by decide)) (fun _ hk => hk.2) (.slice Ao37 t219.length co37)) (fun _ hk => hk.2) (.slice Ao42 t222.length co42)) (fun _ h_ => h_.1)))); (case side6 => exact (rR_ HO206.out).2.1); (case side7 => refine (rR_ (e := 3) (base := w.heap.size) (ok := fun k_ => ((((((some k_ ≠ (.slice Ao23 t204.length co23 : Value).ownBlock ∧ some k_ ≠ (.slice Ao19 t198.length co19 : Value).ownBlock) ∧ some k_ ≠ (.slice Ao20 t201.length co20 : Value).ownBlock) ∧ some k_ ≠ (.slice Ao30 t212.length co30 : Value).ownBlock) ∧ some k_ ≠ (.slice Ao34 t215.length co34 : Value).ownBlock) ∧ some k_ ≠ (.slice Ao37 t219.length co37 : Value).ownBlock) ∧ some k_ ≠ (.slice Ao42 t222.length co42 : Value).ownBlock)) (n := t207.length) (c := co26) ?_).2.2; exact (by (with_reducible repeat (first | apply rA_ | apply rN_ | apply rD_)); exact (rM_ (rF_ (p := ⟨gb226, 1, none⟩) (rF_ (p := ⟨gb226, 0, none⟩) (Kd.R_types HO209.out BK226.out (by decide)) (fun _ hk => hk.2) (.slice Ao37 t219.length co37)) (fun _ hk => hk.2) (.slice Ao42 t222.length co42)) (fun _ h_ => h_.1)))); (case side8 => exact (rR_ HO209.out).2.1); rintro e w52 ⟨rfl, hb⟩; refine ⟨_, rfl, ?_⟩; have n0_ := Aside0.mk (rB_ (by (with_reducible repeat (first | apply rA_ | apply rN_ | apply rD_)); exact (rM_ (rF_ (p := ⟨gb226, 1, none⟩) (rF_ (p := ⟨gb226, 0, none⟩) (Kd.R_types HO200.out BK226.out (by decide)) (fun _ hk => hk.2) (.slice Ao37 t219.length co37)) (fun _ hk => hk.2) (.slice Ao42 t222.length co42)) (fun _ h_ => h_.1))) hb); have n1_ := Aside0.mk (rB_ (by (with_reducible repeat (first | apply rA_ | apply rN_ | apply rD_)); exact (rM_ (rF_ (p := ⟨gb226, 1, none⟩) (rF_ (p := ⟨gb226, 0, none⟩) (Kd.R_types HO203.out BK226.out (by decide)) (fun _ hk => hk.2) (.slice Ao37 t219.length co37)) (fun _ hk => hk.2) (.slice Ao42 t222.length co42)) (fun _ h_ => h_.1))) hb); have n2_ := Aside0.mk (rB_ (by (with_reducible repeat (first | apply rA_ | apply rN_ | apply rD_)); exact (rM_ (rF_ (p := ⟨gb226, 1, none⟩) (rF_ (p := ⟨gb226, 0, none⟩) (Kd.R_types HO206.out BK226.out (by decide)) (fun _ hk => hk.2) (.slice Ao37 t219.length co37)) (fun _ hk => hk.2) (.slice Ao42 t222.length co42)) (fun _ h_ => h_.1))) hb); have n3_ := Aside0.mk (rB_ (by (with_reducible repeat (first | apply rA_ | apply rN_ | apply rD_)); exact (rM_ (rF_ (p := ⟨gb226, 1, none⟩) (rF_ (p := ⟨gb226, 0, none⟩) (Kd.R_types HO209.out BK226.out (by decide)) (fun _ hk => hk.2) (.slice Ao37 t219.length co37)) (fun _ hk => hk.2) (.slice Ao42 t222.length co42)) (fun _ h_ => h_.1))) hb); have n4_ := Aside0.mk (rB_ (by (with_reducible repeat (first | apply rA_ | apply rN_ | apply rD_)); exact (rM_ (rF_ (p := ⟨gb226, 1, none⟩) (rF_ (p := ⟨gb226, 0, none⟩) (Kd.R_types HO214.out BK226.out (by decide)) (fun _ hk => hk.2) (.slice Ao37 t219.length co37)) (fun _ hk => hk.2) (.slice Ao42 t222.length co42)) (fun _ h_ => h_.1))) hb); have n5_ := Aside0.mk (rB_ (by (with_reducible repeat (first | apply rA_ | apply rN_ | apply rD_)); exact (rM_ (rF_ (p := ⟨gb226, 1, none⟩) (rF_ (p := ⟨gb226, 0, none⟩) (Kd.R_types HO217.out BK226.out (by decide)) (fun _ hk => hk.2) (.slice Ao37 t219.length co37)) (fun _ hk => hk.2) (.slice Ao42 t222.length co42)) (fun _ h_ => h_.1))) hb); have n6_ := Aside0.mk (rB_ (by (with_reducible repeat (first | apply rA_ | apply rN_ | apply rD_)); exact (rM_ (rF_ (p := ⟨gb226, 1, none⟩) (rF_ (p := ⟨gb226, 0, none⟩) (Kd.R_types HO221.out BK226.out (by decide)) (fun _ hk => hk.2) (.slice Ao37 t219.length co37)) (fun _ hk => hk.2) (.slice Ao42 t222.length co42)) (fun _ h_ => h_.1))) hb); have n7_ := Aside0.mk (rB_ (by (with_reducible repeat (first | apply rA_ | apply rN_ | apply rD_)); exact (rM_ (rF_ (p := ⟨gb226, 1, none⟩) (rF_ (p := ⟨gb226, 0, none⟩) (Kd.R_types HO224.out BK226.out (by decide)) (fun _ hk => hk.2) (.slice Ao37 t219.length co37)) (fun _ hk => hk.2) (.slice Ao42 t222.length co42)) (fun _ h_ => h_.1))) hb); have n8_ := Aside0.mk (blk_below (g := gb196) (o := .cells #[.slice A0_0 l0_0.length c0_0, .slice A0_1 l0_1.length c0_1] 24 (0, 0)) (by (with_reducible repeat (first | refine kN_ ?_ _ | refine kD_ ?_ | refine kA_ ?_ _)); refine blk_far ?_ NB196_226.out _; (with_reducible repeat (first | refine kN_ ?_ _ | refine kD_ ?_ | refine kA_ ?_ _)); refine blk_far ?_ NB196_226.out _; (with_reducible repeat (first | refine kN_ ?_ _ | refine kD_ ?_ | refine kA_ ?_ _)); exact BK196.out) hb); have n9_ := Aside0.mk (blk_below (g := gb211) (o := .cells #[.slice Ao23 t204.length co23, .slice Ao26 t207.length co26] 27 (0, 0)) (by (with_reducible repeat (first | refine kN_ ?_ _ | refine kD_ ?_ | refine kA_ ?_ _)); refine blk_far ?_ NB211_226.out _; (with_reducible repeat (first | refine kN_ ?_ _ | refine kD_ ?_ | refine kA_ ?_ _)); refine blk_far ?_ NB211_226.out _; (with_reducible repeat (first | refine kN_ ?_ _ | refine kD_ ?_ | refine kA_ ?_ _)); exact BK211.out) hb); have n10_ := Aside0.mk (blk_below (g := gb218) (o := .cells #[.slice Ao30 t212.length co30, .slice Ao34 t215.length co34] 27 (0, 0)) (by (with_reducible repeat (first | refine kN_ ?_ _ | refine kD_ ?_ | refine kA_ ?_ _)); refine blk_far ?_ NB218_226.out _; (with_reducible repeat (first | refine kN_ ?_ _ | refine kD_ ?_ | refine kA_ ?_ _)); refine blk_far ?_ NB218_226.out _; (with_reducible repeat (first | refine kN_ ?_ _ | refine kD_ ?_ | refine kA_ ?_ _)); exact BK218.out) hb); have n11_ := Aside0.mk (blk_below (g := gb226) (o := .cells #[.slice Ao37 t219.length co37, .slice Ao42 t222.length co42] 27 (0, 0)) (by (with_reducible repeat (first | refine kN_ ?_ _ | refine kD_ ?_ | refine kA_ ?_ _)); refine blk_put (cs := #[.slice Ao37 t219.length co37, .slice none 0 0]) ?_ 1 _ rfl; (with_reducible repeat (first | refine kN_ ?_ _ | refine kD_ ?_ | refine kA_ ?_ _)); refine blk_put (cs := #[.slice none 0 0, .slice none 0 0]) ?_ 0 _ rfl; (with_reducible repeat (first | refine kN_ ?_ _ | refine kD_ ?_ | refine kA_ ?_ _)); exact BK226.out) hb); have n12_ := Aside0.mk (below_step (by repeat (first | (with_reducible first | exact HB.out | apply bA_ | apply bN_ | apply bD_ | refine bS_ ?_ GE196.out | refine bS_ ?_ GE211.out | refine bS_ ?_ GE218.out | refine bS_ ?_ GE226.out) | exact HB.out)) hb); clear HO200; clear HO203; clear HO206; clear HO209; clear HO214; clear HO217; clear HO221; clear HO224; clear BK196; clear BK211; clear BK218; clear BK226; clear HB; have HO200 := n0_; have HO203 := n1_; have HO206 := n2_; have HO209 := n3_; have HO214 := n4_; have HO217 := n5_; have HO221 := n6_; have HO224 := n7_; have BK196 := n8_; have BK211 := n9_; have BK218 := n10_; have BK226 := n11_; have HB := n12_; clear n0_ n1_ n2_ n3_ n4_ n5_ n6_ n7_ n8_ n9_ n10_ n11_ n12_; (try clear hb); (try clear hb2); (try clear hk); (try clear hi)))
        go_meet
        case rel => exact ⟨_, ((t225 != t210)), (by first | rfl | (simp; done) | (simp [*]; done)), H', ⟨by first | omega | exact Nat.le_refl _⟩, ⟨by (with_reducible repeat (first | apply rA_ | apply rN_ | apply rD_)); exact rM_ HO206.out (fun _ hk => ⟨hk.1.1.1.1.1.1, ⟨hk.1.1.1.2, ⟨hk.1.1.2, ⟨hk.1.2, hk.2⟩⟩⟩⟩)⟩, ⟨by (with_reducible repeat (first | apply rA_ | apply rN_ | apply rD_)); exact rM_ HO209.out (fun _ hk => ⟨hk.1.1.1.1.1.1, ⟨hk.1.1.1.2, ⟨hk.1.1.2, ⟨hk.1.2, hk.2⟩⟩⟩⟩)⟩, ⟨by (with_reducible repeat (first | apply rA_ | apply rN_ | apply rD_)); exact rM_ HO214.out (fun _ hk => ⟨hk.1.1.1.2, ⟨hk.1.1.2, ⟨hk.1.1.1.1.1.1, ⟨hk.1.2, hk.2⟩⟩⟩⟩)⟩, ⟨by (with_reducible repeat (first | apply rA_ | apply rN_ | apply rD_)); exact rM_ HO217.out (fun _ hk => ⟨hk.1.1.1.2, ⟨hk.1.1.2, ⟨hk.1.1.1.1.1.1, ⟨hk.1.2, hk.2⟩⟩⟩⟩)⟩, ⟨by (with_reducible repeat (first | apply rA_ | apply rN_ | apply rD_)); exact rM_ HO221.out (fun _ hk => ⟨hk.1.1.1.2, ⟨hk.1.1.2, ⟨hk.1.2, ⟨hk.2, hk.1.1.1.1.1.1⟩⟩⟩⟩)⟩, ⟨by (with_reducible repeat (first | apply rA_ | apply rN_ | apply rD_)); exact rM_ HO224.out (fun _ hk => ⟨hk.1.1.1.2, ⟨hk.1.1.2, ⟨hk.1.2, ⟨hk.2, hk.1.1.1.1.1.1⟩⟩⟩⟩)⟩, ⟨by (with_reducible repeat (first | refine kN_ ?_ _ | refine kD_ ?_ | refine kA_ ?_ _)); exact BK196.out⟩, ⟨by (with_reducible repeat (first | refine kN_ ?_ _ | refine kD_ ?_ | refine kA_ ?_ _)); exact BK211.out⟩, ⟨by (with_reducible repeat (first | refine kN_ ?_ _ | refine kD_ ?_ | refine kA_ ?_ _)); exact BK218.out⟩, ⟨by (with_reducible repeat (first | refine kN_ ?_ _ | refine kD_ ?_ | refine kA_ ?_ _)); exact BK226.out⟩, ⟨by repeat (first | (with_reducible first | exact HB.out | apply bA_ | apply bN_ | apply bD_ | refine bS_ ?_ GE196.out | refine bS_ ?_ GE211.out | refine bS_ ?_ GE218.out | refine bS_ ?_ GE226.out) | exact HB.out)⟩⟩
      · replace c44 := Bool.eq_false_iff.mpr c44
        subst c44
        have H1 : (laws_FnExactAddFloor.j0 k a1 a2 t210 t225 true l0_0 l0_1 t204 t207 t212 t215 t219 t222) = some r := by rw [if_neg (show ¬ (false = true) by decide)] at H; exact H
        clear H
        have H := H1
        clear H1
        have H' := Aside0.mk H
        clear H
        have hnb53 := NB226_196.out
        have hnc53 := NB196_226.out
        have hnb54 := NB226_211.out
        have hnc54 := NB211_226.out
        have hnb55 := NB226_218.out
        have hnc55 := NB218_226.out
        have hcz56_0 : w36.cell? ⟨gb226, 0, none⟩ = some (.slice none 0 0) := (blk_cell BK226.out 0).trans rfl
        have hcz56_1 : w36.cell? ⟨gb226, 1, none⟩ = some (.slice none 0 0) := (blk_cell BK226.out 1).trans rfl
        have hfz56_0 := blk_frozen BK226.out 0
        have hfz56_1 := blk_frozen BK226.out 1
        have hnb57 := NB211_196.out
        have hnc57 := NB196_211.out
        have hnb58 := NB211_218.out
        have hnc58 := NB218_211.out
        have hcz59_0 : w36.cell? ⟨gb211, 0, none⟩ = some (.slice Ao23 t204.length co23) := (blk_cell BK211.out 0).trans rfl
        have hcz59_1 : w36.cell? ⟨gb211, 1, none⟩ = some (.slice Ao26 t207.length co26) := (blk_cell BK211.out 1).trans rfl
        have hfz59_0 := blk_frozen BK211.out 0
        have hfz59_1 := blk_frozen BK211.out 1
        go_wp2_with (first | ((with_reducible refine gate_callee (f := 19) rfl ?_); refine goesL_ (some 42) rfl rfl Try.func19 (by kernel_rfl) rfl #[.agg #[.slice Ao37 t219.length co37, .slice Ao42 t222.length co42], .agg #[.slice Ao23 t204.length co23, .slice Ao26 t207.length co26]] rfl (by (try simp only [List.map_toArray, List.map_cons, List.map_nil]); first | done | rfl | (simp only [List.length_drop, List.length_take]; rfl)) ?_; (with_reducible refine (laws_eqHouse.calls k _ _ t219 _ _ t222 _ _ t204 _ _ t207 false _ ?side1 ?side2 ?side3 ?side4 ?side5 ?side6 ?side7 ?side8 A43.out).mono ?_); (case side1 => refine (rR_ (e := 3) (base := w.heap.size) (ok := fun k_ => ((((((some k_ ≠ (.slice Ao42 t222.length co42 : Value).ownBlock ∧ some k_ ≠ (.slice Ao19 t198.length co19 : Value).ownBlock) ∧ some k_ ≠ (.slice Ao20 t201.length co20 : Value).ownBlock) ∧ some k_ ≠ (.slice Ao23 t204.length co23 : Value).ownBlock) ∧ some k_ ≠ (.slice Ao26 t207.length co26 : Value).ownBlock) ∧ some k_ ≠ (.slice Ao30 t212.length co30 : Value).ownBlock) ∧ some k_ ≠ (.slice Ao34 t215.length co34 : Value).ownBlock)) (n := t219.length) (c := co37) ?_).2.2; exact (by (with_reducible repeat (first | apply rA_ | apply rN_ | apply rD_)); exact (rM_ (rF_ (p := ⟨gb226, 1, none⟩) (rF_ (p := ⟨gb226, 0, none⟩) (Kd.R_types HO221.out BK226.out (by decide)) (fun _ hk => hk.2) (.slice Ao37 t219.length co37)) (fun _ hk => hk.2) (.slice Ao42 t222.length co42)) (fun _ h_ => h_.1)))); (case side2 => exact (rR_ HO221.out).2.1); (case side3 => refine (rR_ (e := 3) (base := w.heap.size) (ok := fun k_ => ((((((some k_ ≠ (.slice Ao37 t219.length co37 : Value).ownBlock ∧ some k_ ≠ (.slice Ao19 t198.length co19 : Value).ownBlock) ∧ some k_ ≠ (.slice Ao20 t201.length co20 : Value).ownBlock) ∧ some k_ ≠ (.slice Ao23 t204.length co23 : Value).ownBlock) ∧ some k_ ≠ (.slice Ao26 t207.length co26 : Value).ownBlock) ∧ some k_ ≠ (.slice Ao30 t212.length co30 : Value).ownBlock) ∧ some k_ ≠ (.slice Ao34 t215.length co34 : Value).ownBlock)) (n := t222.length) (c := co42) ?_).2.2; exact (by (with_reducible repeat (first | apply rA_ | apply rN_ | apply rD_)); exact (rM_ (rF_ (p := ⟨gb226, 1, none⟩) (rF_ (p := ⟨gb226, 0, none⟩) (Kd.R_types HO224.out BK226.out (by decide)) (fun _ hk => hk.2) (.slice Ao37 t219.length co37)) (fun _ hk => hk.2) (.slice Ao42 t222.length co42)) (fun _ h_ => h_.1)))); (case side4 => exact (rR_ HO224.out).2.1); (case side5 => refine (rR_ (e := 3) (base := w.heap.size) (ok := fun k_ => ((((((some k_ ≠ (.slice Ao26 t207.length co26 : Value).ownBlock ∧ some k_ ≠ (.slice Ao19 t198.length co19 : Value).ownBlock) ∧ some k_ ≠ (.slice Ao20 t201.length co20 : Value).ownBlock) ∧ some k_ ≠ (.slice Ao30 t212.length co30 : Value).ownBlock) ∧ some k_ ≠ (.slice Ao34 t215.length co34 : Value).ownBlock) ∧ some k_ ≠ (.slice Ao37 t219.length co37 : Value).ownBlock) ∧ some k_ ≠ (.slice Ao42 t222.length co42 : Value).ownBlock)) (n := t204.length) (c := co23) ?_).2.2; exact (by (with_reducible repeat (first | apply rA_ | apply rN_ | apply rD_)); exact (rM_ (rF_ (p := ⟨gb226, 1, none⟩) (rF_ (p := ⟨gb226, 0, none⟩) (Kd.R_types HO206.out BK226.out (by decide)) (fun _ hk => hk.2) (.slice Ao37 t219.length co37)) (fun _ hk => hk.2) (.slice Ao42 t222.length co42)) (fun _ h_ => h_.1)))); (case side6 => exact (rR_ HO206.out).2.1); (case side7 => refine (rR_ (e := 3) (base := w.heap.size) (ok := fun k_ => ((((((some k_ ≠ (.slice Ao23 t204.length co23 : Value).ownBlock ∧ some k_ ≠ (.slice Ao19 t198.length co19 : Value).ownBlock) ∧ some k_ ≠ (.slice Ao20 t201.length co20 : Value).ownBlock) ∧ some k_ ≠ (.slice Ao30 t212.length co30 : Value).ownBlock) ∧ some k_ ≠ (.slice Ao34 t215.length co34 : Value).ownBlock) ∧ some k_ ≠ (.slice Ao37 t219.length co37 : Value).ownBlock) ∧ some k_ ≠ (.slice Ao42 t222.length co42 : Value).ownBlock)) (n := t207.length) (c := co26) ?_).2.2; exact (by (with_reducible repeat (first | apply rA_ | apply rN_ | apply rD_)); exact (rM_ (rF_ (p := ⟨gb226, 1, none⟩) (rF_ (p := ⟨gb226, 0, none⟩) (Kd.R_types HO209.out BK226.out (by decide)) (fun _ hk => hk.2) (.slice Ao37 t219.length co37)) (fun _ hk => hk.2) (.slice Ao42 t222.length co42)) (fun _ h_ => h_.1)))); (case side8 => exact (rR_ HO209.out).2.1); rintro e w60 ⟨rfl, hb⟩; refine ⟨_, rfl, ?_⟩; have n0_ := Aside0.mk (rB_ (by (with_reducible repeat (first | apply rA_ | apply rN_ | apply rD_)); exact (rM_ (rF_ (p := ⟨gb226, 1, none⟩) (rF_ (p := ⟨gb226, 0, none⟩) (Kd.R_types HO200.out BK226.out (by decide)) (fun _ hk => hk.2) (.slice Ao37 t219.length co37)) (fun _ hk => hk.2) (.slice Ao42 t222.length co42)) (fun _ h_ => h_.1))) hb); have n1_ := Aside0.mk (rB_ (by (with_reducible repeat (first | apply rA_ | apply rN_ | apply rD_)); exact (rM_ (rF_ (p := ⟨gb226, 1, none⟩) (rF_ (p := ⟨gb226, 0, none⟩) (Kd.R_types HO203.out BK226.out (by decide)) (fun _ hk => hk.2) (.slice Ao37 t219.length co37)) (fun _ hk => hk.2) (.slice Ao42 t222.length co42)) (fun _ h_ => h_.1))) hb); have n2_ := Aside0.mk (rB_ (by (with_reducible repeat (first | apply rA_ | apply rN_ | apply rD_)); exact (rM_ (rF_ (p := ⟨gb226, 1, none⟩) (rF_ (p := ⟨gb226, 0, none⟩) (Kd.R_types HO206.out BK226.out (by decide)) (fun _ hk => hk.2) (.slice Ao37 t219.length co37)) (fun _ hk => hk.2) (.slice Ao42 t222.length co42)) (fun _ h_ => h_.1))) hb); have n3_ := Aside0.mk (rB_ (by (with_reducible repeat (first | apply rA_ | apply rN_ | apply rD_)); exact (rM_ (rF_ (p := ⟨gb226, 1, none⟩) (rF_ (p := ⟨gb226, 0, none⟩) (Kd.R_types HO209.out BK226.out (by decide)) (fun _ hk => hk.2) (.slice Ao37 t219.length co37)) (fun _ hk => hk.2) (.slice Ao42 t222.length co42)) (fun _ h_ => h_.1))) hb); have n4_ := Aside0.mk (rB_ (by (with_reducible repeat (first | apply rA_ | apply rN_ | apply rD_)); exact (rM_ (rF_ (p := ⟨gb226, 1, none⟩) (rF_ (p := ⟨gb226, 0, none⟩) (Kd.R_types HO214.out BK226.out (by decide)) (fun _ hk => hk.2) (.slice Ao37 t219.length co37)) (fun _ hk => hk.2) (.slice Ao42 t222.length co42)) (fun _ h_ => h_.1))) hb); have n5_ := Aside0.mk (rB_ (by (with_reducible repeat (first | apply rA_ | apply rN_ | apply rD_)); exact (rM_ (rF_ (p := ⟨gb226, 1, none⟩) (rF_ (p := ⟨gb226, 0, none⟩) (Kd.R_types HO217.out BK226.out (by decide)) (fun _ hk => hk.2) (.slice Ao37 t219.length co37)) (fun _ hk => hk.2) (.slice Ao42 t222.length co42)) (fun _ h_ => h_.1))) hb); have n6_ := Aside0.mk (rB_ (by (with_reducible repeat (first | apply rA_ | apply rN_ | apply rD_)); exact (rM_ (rF_ (p := ⟨gb226, 1, none⟩) (rF_ (p := ⟨gb226, 0, none⟩) (Kd.R_types HO221.out BK226.out (by decide)) (fun _ hk => hk.2) (.slice Ao37 t219.length co37)) (fun _ hk => hk.2) (.slice Ao42 t222.length co42)) (fun _ h_ => h_.1))) hb); have n7_ := Aside0.mk (rB_ (by (with_reducible repeat (first | apply rA_ | apply rN_ | apply rD_)); exact (rM_ (rF_ (p := ⟨gb226, 1, none⟩) (rF_ (p := ⟨gb226, 0, none⟩) (Kd.R_types HO224.out BK226.out (by decide)) (fun _ hk => hk.2) (.slice Ao37 t219.length co37)) (fun _ hk => hk.2) (.slice Ao42 t222.length co42)) (fun _ h_ => h_.1))) hb); have n8_ := Aside0.mk (blk_below (g := gb196) (o := .cells #[.slice A0_0 l0_0.length c0_0, .slice A0_1 l0_1.length c0_1] 24 (0, 0)) (by (with_reducible repeat (first | refine kN_ ?_ _ | refine kD_ ?_ | refine kA_ ?_ _)); refine blk_far ?_ NB196_226.out _; (with_reducible repeat (first | refine kN_ ?_ _ | refine kD_ ?_ | refine kA_ ?_ _)); refine blk_far ?_ NB196_226.out _; (with_reducible repeat (first | refine kN_ ?_ _ | refine kD_ ?_ | refine kA_ ?_ _)); exact BK196.out) hb); have n9_ := Aside0.mk (blk_below (g := gb211) (o := .cells #[.slice Ao23 t204.length co23, .slice Ao26 t207.length co26] 27 (0, 0)) (by (with_reducible repeat (first | refine kN_ ?_ _ | refine kD_ ?_ | refine kA_ ?_ _)); refine blk_far ?_ NB211_226.out _; (with_reducible repeat (first | refine kN_ ?_ _ | refine kD_ ?_ | refine kA_ ?_ _)); refine blk_far ?_ NB211_226.out _; (with_reducible repeat (first | refine kN_ ?_ _ | refine kD_ ?_ | refine kA_ ?_ _)); exact BK211.out) hb); have n10_ := Aside0.mk (blk_below (g := gb218) (o := .cells #[.slice Ao30 t212.length co30, .slice Ao34 t215.length co34] 27 (0, 0)) (by (with_reducible repeat (first | refine kN_ ?_ _ | refine kD_ ?_ | refine kA_ ?_ _)); refine blk_far ?_ NB218_226.out _; (with_reducible repeat (first | refine kN_ ?_ _ | refine kD_ ?_ | refine kA_ ?_ _)); refine blk_far ?_ NB218_226.out _; (with_reducible repeat (first | refine kN_ ?_ _ | refine kD_ ?_ | refine kA_ ?_ _)); exact BK218.out) hb); have n11_ := Aside0.mk (blk_below (g := gb226) (o := .cells #[.slice Ao37 t219.length co37, .slice Ao42 t222.length co42] 27 (0, 0)) (by (with_reducible repeat (first | refine kN_ ?_ _ | refine kD_ ?_ | refine kA_ ?_ _)); refine blk_put (cs := #[.slice Ao37 t219.length co37, .slice none 0 0]) ?_ 1 _ rfl; (with_reducible repeat (first | refine kN_ ?_ _ | refine kD_ ?_ | refine kA_ ?_ _)); refine blk_put (cs := #[.slice none 0 0, .slice none 0 0]) ?_ 0 _ rfl; (with_reducible repeat (first | refine kN_ ?_ _ | refine kD_ ?_ | refine kA_ ?_ _)); exact BK226.out) hb); have n12_ := Aside0.mk (below_step (by repeat (first | (with_reducible first | exact HB.out | apply bA_ | apply bN_ | apply bD_ | refine bS_ ?_ GE196.out | refine bS_ ?_ GE211.out | refine bS_ ?_ GE218.out | refine bS_ ?_ GE226.out) | exact HB.out)) hb); clear HO200; clear HO203; clear HO206; clear HO209; clear HO214; clear HO217; clear HO221; clear HO224; clear BK196; clear BK211; clear BK218; clear BK226; clear HB; have HO200 := n0_; have HO203 := n1_; have HO206 := n2_; have HO209 := n3_; have HO214 := n4_; have HO217 := n5_; have HO221 := n6_; have HO224 := n7_; have BK196 := n8_; have BK211 := n9_; have BK218 := n10_; have BK226 := n11_; have HB := n12_; clear n0_ n1_ n2_ n3_ n4_ n5_ n6_ n7_ n8_ n9_ n10_ n11_ n12_; (try clear hb); (try clear hb2); (try clear hk); (try clear hi)))
        go_meet
        case rel => exact ⟨_, (true), (by first | rfl | (simp; done) | (simp [*]; done)), H', ⟨by first | omega | exact Nat.le_refl _⟩, ⟨by (with_reducible repeat (first | apply rA_ | apply rN_ | apply rD_)); exact rM_ HO206.out (fun _ hk => ⟨hk.1.1.1.1.1.1, ⟨hk.1.1.1.2, ⟨hk.1.1.2, ⟨hk.1.2, hk.2⟩⟩⟩⟩)⟩, ⟨by (with_reducible repeat (first | apply rA_ | apply rN_ | apply rD_)); exact rM_ HO209.out (fun _ hk => ⟨hk.1.1.1.1.1.1, ⟨hk.1.1.1.2, ⟨hk.1.1.2, ⟨hk.1.2, hk.2⟩⟩⟩⟩)⟩, ⟨by (with_reducible repeat (first | apply rA_ | apply rN_ | apply rD_)); exact rM_ HO214.out (fun _ hk => ⟨hk.1.1.1.2, ⟨hk.1.1.2, ⟨hk.1.1.1.1.1.1, ⟨hk.1.2, hk.2⟩⟩⟩⟩)⟩, ⟨by (with_reducible repeat (first | apply rA_ | apply rN_ | apply rD_)); exact rM_ HO217.out (fun _ hk => ⟨hk.1.1.1.2, ⟨hk.1.1.2, ⟨hk.1.1.1.1.1.1, ⟨hk.1.2, hk.2⟩⟩⟩⟩)⟩, ⟨by (with_reducible repeat (first | apply rA_ | apply rN_ | apply rD_)); exact rM_ HO221.out (fun _ hk => ⟨hk.1.1.1.2, ⟨hk.1.1.2, ⟨hk.1.2, ⟨hk.2, hk.1.1.1.1.1.1⟩⟩⟩⟩)⟩, ⟨by (with_reducible repeat (first | apply rA_ | apply rN_ | apply rD_)); exact rM_ HO224.out (fun _ hk => ⟨hk.1.1.1.2, ⟨hk.1.1.2, ⟨hk.1.2, ⟨hk.2, hk.1.1.1.1.1.1⟩⟩⟩⟩)⟩, ⟨by (with_reducible repeat (first | refine kN_ ?_ _ | refine kD_ ?_ | refine kA_ ?_ _)); exact BK196.out⟩, ⟨by (with_reducible repeat (first | refine kN_ ?_ _ | refine kD_ ?_ | refine kA_ ?_ _)); exact BK211.out⟩, ⟨by (with_reducible repeat (first | refine kN_ ?_ _ | refine kD_ ?_ | refine kA_ ?_ _)); exact BK218.out⟩, ⟨by (with_reducible repeat (first | refine kN_ ?_ _ | refine kD_ ?_ | refine kA_ ?_ _)); exact BK226.out⟩, ⟨by repeat (first | (with_reducible first | exact HB.out | apply bA_ | apply bN_ | apply bD_ | refine bS_ ?_ GE196.out | refine bS_ ?_ GE211.out | refine bS_ ?_ GE218.out | refine bS_ ?_ GE226.out) | exact HB.out)⟩⟩
    case rest =>
      clear HC13
      try clear c1
      try clear c2
      try clear p2
      try clear c3
      try clear c4
      try clear c5
      try clear c5b0
      try clear c13
      try clear c15
      try clear c17
      try clear c19
      try clear c24
      try clear c31
      try clear c32
      try clear c38
      try clear c39
      try clear c40
      try clear c42
      try clear c43
      try clear c44
      try clear c45
      try clear c46
      try clear c47
      try clear c49
      try clear c50
      try clear c53
      try clear c54
      try clear c55
      try clear c57
      try clear c58
      try clear hcz15_0
      try clear hcz15_1
      try clear hcz17_0
      try clear hcz17_1
      try clear hcz25_0
      try clear hcz25_1
      try clear hcz27_0
      try clear hcz27_1
      try clear hcz33_0
      try clear hcz33_1
      try clear hcz41_0
      try clear hcz41_1
      try clear hcz48_0
      try clear hcz48_1
      try clear hcz51_0
      try clear hcz51_1
      try clear hcz56_0
      try clear hcz56_1
      try clear hcz59_0
      try clear hcz59_1
      try clear hcz7_0
      try clear hcz7_1
      try clear hfz15_0
      try clear hfz15_1
      try clear hfz17_0
      try clear hfz17_1
      try clear hfz25_0
      try clear hfz25_1
      try clear hfz27_0
      try clear hfz27_1
      try clear hfz33_0
      try clear hfz33_1
      try clear hfz41_0
      try clear hfz41_1
      try clear hfz48_0
      try clear hfz48_1
      try clear hfz51_0
      try clear hfz51_1
      try clear hfz56_0
      try clear hfz56_1
      try clear hfz59_0
      try clear hfz59_1
      try clear hfz7_0
      try clear hfz7_1
      obtain ⟨kq, x48_12, rfl, HA, HJ12, HO_212000, HO_212001, HO_219000, HO_219001, HO_227000, HO_227001, BK196, BK211, BK218, BK226, HB⟩ := hcut
      cases kq with
      | zero => exact absurd HA.out (by simp [laws_FnExactAddFloor.j0])
      | succ kj12 =>
        have H := HA.out
        clear HA
        simp only [laws_FnExactAddFloor.j0] at H
        by_cases c61 : x48_12 = true
        · subst c61
          have H1 : (some false) = some r := by rw [if_pos rfl] at H; exact H
          clear H
          have H := H1
          clear H1
          obtain rfl := Option.some.inj H
          go_wp2
          go_ret
          exact ⟨by first | rfl | (simp [errW_none, errW_some] <;> rfl) | (simp [*, errW_none, errW_some] <;> rfl), by repeat (first | (with_reducible first | exact HB.out | apply bA_ | apply bN_ | apply bD_ | refine bS_ ?_ GE196.out | refine bS_ ?_ GE211.out | refine bS_ ?_ GE218.out | refine bS_ ?_ GE226.out) | exact HB.out)⟩
        · replace c61 := Bool.eq_false_iff.mpr c61
          subst c61
          have H1 : ((laws_toHouse.f kj12 l0_0 l0_1).bind fun bt228 => ((laws_eqHouse.f kj12 t212 t215 bt228.1 bt228.2).bind fun t234 => (if t234 = true then ((laws_markHouse.f kj12 t212 t215 1).bind fun bt235 => (if bt235.1 < 0 then (laws_FnExactAddFloor.j1 kj12 a1 a2 t210 true l0_0 l0_1 t204 t207 t219 t222) else ((laws_eqHouse.f kj12 t219 t222 t204 t207).bind fun t238 => (if t238 = true then (laws_FnExactAddFloor.j1 kj12 a1 a2 t210 (t225 != t210) l0_0 l0_1 t204 t207 t219 t222) else (laws_FnExactAddFloor.j1 kj12 a1 a2 t210 true l0_0 l0_1 t204 t207 t219 t222))))) else (some false)))) = some r := by rw [if_neg (show ¬ (false = true) by decide)] at H; exact H
          clear H
          have H := H1
          clear H1
          replace H := Option.bind_eq_some_iff.mp H
          obtain ⟨⟨t228, t231⟩, A620, H⟩ := H
          replace H : ((laws_eqHouse.f kj12 t212 t215 t228 t231).bind fun t234 => (if t234 = true then ((laws_markHouse.f kj12 t212 t215 1).bind fun bt235 => (if bt235.1 < 0 then (laws_FnExactAddFloor.j1 kj12 a1 a2 t210 true l0_0 l0_1 t204 t207 t219 t222) else ((laws_eqHouse.f kj12 t219 t222 t204 t207).bind fun t238 => (if t238 = true then (laws_FnExactAddFloor.j1 kj12 a1 a2 t210 (t225 != t210) l0_0 l0_1 t204 t207 t219 t222) else (laws_FnExactAddFloor.j1 kj12 a1 a2 t210 true l0_0 l0_1 t204 t207 t219 t222))))) else (some false))) = some r := H
          have A62 := Aside0.mk A620
          clear A620
          replace H := Option.bind_eq_some_iff.mp H
          obtain ⟨t234, A630, H⟩ := H
          replace H : (if t234 = true then ((laws_markHouse.f kj12 t212 t215 1).bind fun bt235 => (if bt235.1 < 0 then (laws_FnExactAddFloor.j1 kj12 a1 a2 t210 true l0_0 l0_1 t204 t207 t219 t222) else ((laws_eqHouse.f kj12 t219 t222 t204 t207).bind fun t238 => (if t238 = true then (laws_FnExactAddFloor.j1 kj12 a1 a2 t210 (t225 != t210) l0_0 l0_1 t204 t207 t219 t222) else (laws_FnExactAddFloor.j1 kj12 a1 a2 t210 true l0_0 l0_1 t204 t207 t219 t222))))) else (some false)) = some r := H
          have A63 := Aside0.mk A630
          clear A630
          by_cases c64 : t234 = true
          · subst c64
            have H1 : ((laws_markHouse.f kj12 t212 t215 1).bind fun bt235 => (if bt235.1 < 0 then (laws_FnExactAddFloor.j1 kj12 a1 a2 t210 true l0_0 l0_1 t204 t207 t219 t222) else ((laws_eqHouse.f kj12 t219 t222 t204 t207).bind fun t238 => (if t238 = true then (laws_FnExactAddFloor.j1 kj12 a1 a2 t210 (t225 != t210) l0_0 l0_1 t204 t207 t219 t222) else (laws_FnExactAddFloor.j1 kj12 a1 a2 t210 true l0_0 l0_1 t204 t207 t219 t222))))) = some r := by rw [if_pos rfl] at H; exact H
            clear H
            have H := H1
            clear H1
            replace H := Option.bind_eq_some_iff.mp H
            obtain ⟨⟨t235, t236, t237⟩, A650, H⟩ := H
            replace H : (if t235 < 0 then (laws_FnExactAddFloor.j1 kj12 a1 a2 t210 true l0_0 l0_1 t204 t207 t219 t222) else ((laws_eqHouse.f kj12 t219 t222 t204 t207).bind fun t238 => (if t238 = true then (laws_FnExactAddFloor.j1 kj12 a1 a2 t210 (t225 != t210) l0_0 l0_1 t204 t207 t219 t222) else (laws_FnExactAddFloor.j1 kj12 a1 a2 t210 true l0_0 l0_1 t204 t207 t219 t222)))) = some r := H
            have A65 := Aside0.mk A650
            clear A650
            have HC66 := Aside0.mk H
            clear H
            try go_wp2
            have n0_ := Aside0.mk (rD_ HO_212000.out)
            have n1_ := Aside0.mk (rD_ HO_212001.out)
            have n2_ := Aside0.mk (rD_ HO_219000.out)
            have n3_ := Aside0.mk (rD_ HO_219001.out)
            have n4_ := Aside0.mk (rD_ HO_227000.out)
            have n5_ := Aside0.mk (rD_ HO_227001.out)
            have n6_ := Aside0.mk (kD_ BK196.out)
            have n7_ := Aside0.mk (kD_ BK211.out)
            have n8_ := Aside0.mk (kD_ BK218.out)
            have n9_ := Aside0.mk (kD_ BK226.out)
            have n10_ := Aside0.mk (bD_ HB.out)
            clear HO_212000
            clear HO_212001
            clear HO_219000
            clear HO_219001
            clear HO_227000
            clear HO_227001
            clear BK196
            clear BK211
            clear BK218
            clear BK226
            clear HB
            have HO_212000 := n0_
            have HO_212001 := n1_
            have HO_219000 := n2_
            have HO_219001 := n3_
            have HO_227000 := n4_
            have HO_227001 := n5_
            have BK196 := n6_
            have BK211 := n7_
            have BK218 := n8_
            have BK226 := n9_
            have HB := n10_
            clear n0_ n1_ n2_ n3_ n4_ n5_ n6_ n7_ n8_ n9_ n10_
            refine start_ (n := 5) (S := fun w' => w'.cell? ⟨gb218, 0, none⟩ = some (.slice Ao30 t212.length co30) ∧ w'.cell? ⟨gb218, 1, none⟩ = some (.slice Ao34 t215.length co34) ∧ w'.cell? ⟨gb196, 0, none⟩ = some (.slice A0_0 l0_0.length c0_0) ∧ w'.cell? ⟨gb196, 1, none⟩ = some (.slice A0_1 l0_1.length c0_1)) (ds := []) #[false, false, false, false, false] (by kernel_rfl) rfl rfl ⟨(blk_cell BK218.out 0).trans rfl, (blk_cell BK218.out 1).trans rfl, (blk_cell BK196.out 0).trans rfl, (blk_cell BK196.out 1).trans rfl⟩ (fun hHeld => ?_)
            generalize wc.drew = w67 at HO_212000 HO_212001 HO_219000 HO_219001 HO_227000 HO_227001 BK196 BK211 BK218 BK226 HB hHeld ⊢
            refine take_ (i := 0) (N := some 49) (v := ?_) (a' := ?_) #[true, false, false, false, false] rfl rfl (by kernel_rfl) (fun _ _ _ h => h) (Or.inl ⟨by rfl, ?_⟩) hHeld ?_ ?_
            rotate_left
            · rintro w' ⟨s0, s1, s2, s3⟩
              go_simp
              with_reducible rfl
            rotate_left
            · simp only [Act.put, List.setIfInBounds_toArray, List.set_cons_zero, List.set_cons_succ, i64_w, i32_w]
              rfl
            refine take_ (i := 1) (N := some 50) (v := ?_) (a' := ?_) #[true, true, false, false, false] rfl rfl (by kernel_rfl) (fun _ _ _ h => h) (Or.inl ⟨by rfl, ?_⟩) hHeld ?_ ?_
            rotate_left
            · rintro w' ⟨s0, s1, s2, s3⟩
              go_simp
              with_reducible rfl
            rotate_left
            · simp only [Act.put, List.setIfInBounds_toArray, List.set_cons_zero, List.set_cons_succ, i64_w, i32_w]
              rfl
            refine one_ (i := 2) (N := some 51) #[true, true, true, false, false] rfl rfl (by kernel_rfl) (by decide) (fun K hK => ?_)
            refine goes_ Try.func17 (by kernel_rfl) rfl #[.agg #[.slice A0_0 l0_0.length c0_0, .slice A0_1 l0_1.length c0_1]] (by rfl) rfl rfl (by (try simp only [List.map_toArray, List.map_cons, List.map_nil]); first | done | rfl | (simp only [List.length_drop, List.length_take]; rfl)) ?_
            with_reducible refine (laws_toHouse.calls kj12 _ _ l0_0 _ _ l0_1 t228 t231 _ ?side1 ?side2 ?side3 ?side4 A62.out).mono ?_
            (case side1 => repeat (first | exact (Kd.C_below HR0_0.out HB.out) | (with_reducible refine Kd.C_alloc ?_ _) | (with_reducible refine Kd.C_drewN ?_ _) | (with_reducible refine Kd.C_drew ?_)))
            (case side2 => exact HC0_0.out)
            (case side3 => repeat (first | exact (Kd.C_below HR0_1.out HB.out) | (with_reducible refine Kd.C_alloc ?_ _) | (with_reducible refine Kd.C_drewN ?_ _) | (with_reducible refine Kd.C_drew ?_)))
            (case side4 => exact HC0_1.out)
            rintro e w68 ⟨v229, v232, rfl, ho0, ho1, hb⟩
            refine ⟨_, rfl, ?_⟩
            have n0_ := Aside0.mk (rM_ (Kd.R_told (Kd.R_told (Kd.R_old (by (with_reducible repeat (first | apply rA_ | apply rN_ | apply rD_)); exact HO_212000.out) hb) (Kd.R_base ho0)) (Kd.R_base ho1)) (fun _ h_ => h_.1))
            have n1_ := Aside0.mk (rM_ (Kd.R_told (Kd.R_told (Kd.R_old (by (with_reducible repeat (first | apply rA_ | apply rN_ | apply rD_)); exact HO_212001.out) hb) (Kd.R_base ho0)) (Kd.R_base ho1)) (fun _ h_ => h_.1))
            have n2_ := Aside0.mk (rM_ (Kd.R_told (Kd.R_told (Kd.R_old (by (with_reducible repeat (first | apply rA_ | apply rN_ | apply rD_)); exact HO_219000.out) hb) (Kd.R_base ho0)) (Kd.R_base ho1)) (fun _ h_ => h_.1))
            have n3_ := Aside0.mk (rM_ (Kd.R_told (Kd.R_told (Kd.R_old (by (with_reducible repeat (first | apply rA_ | apply rN_ | apply rD_)); exact HO_219001.out) hb) (Kd.R_base ho0)) (Kd.R_base ho1)) (fun _ h_ => h_.1))
            have n4_ := Aside0.mk (rM_ (Kd.R_told (Kd.R_told (Kd.R_old (by (with_reducible repeat (first | apply rA_ | apply rN_ | apply rD_)); exact HO_227000.out) hb) (Kd.R_base ho0)) (Kd.R_base ho1)) (fun _ h_ => h_.1))
            have n5_ := Aside0.mk (rM_ (Kd.R_told (Kd.R_told (Kd.R_old (by (with_reducible repeat (first | apply rA_ | apply rN_ | apply rD_)); exact HO_227001.out) hb) (Kd.R_base ho0)) (Kd.R_base ho1)) (fun _ h_ => h_.1))
            have n6_ := Aside0.mk (Kd.R_lower (Kd.R_new' (Kd.R_new' (Kd.R_new' (Kd.R_new' (Kd.R_new' (Kd.R_new' ho0 (Kd.R_lt (by (with_reducible repeat (first | apply rA_ | apply rN_ | apply rD_)); exact HO_212000.out))) (Kd.R_lt (by (with_reducible repeat (first | apply rA_ | apply rN_ | apply rD_)); exact HO_212001.out))) (Kd.R_lt (by (with_reducible repeat (first | apply rA_ | apply rN_ | apply rD_)); exact HO_219000.out))) (Kd.R_lt (by (with_reducible repeat (first | apply rA_ | apply rN_ | apply rD_)); exact HO_219001.out))) (Kd.R_lt (by (with_reducible repeat (first | apply rA_ | apply rN_ | apply rD_)); exact HO_227000.out))) (Kd.R_lt (by (with_reducible repeat (first | apply rA_ | apply rN_ | apply rD_)); exact HO_227001.out))) (below_size (by repeat (first | (with_reducible first | exact HB.out | apply bA_ | apply bN_ | apply bD_ | refine bS_ ?_ GE196.out | refine bS_ ?_ GE211.out | refine bS_ ?_ GE218.out | refine bS_ ?_ GE226.out) | exact HB.out))))
            have n7_ := Aside0.mk (Kd.R_lower (Kd.R_new' (Kd.R_new' (Kd.R_new' (Kd.R_new' (Kd.R_new' (Kd.R_new' ho1 (Kd.R_lt (by (with_reducible repeat (first | apply rA_ | apply rN_ | apply rD_)); exact HO_212000.out))) (Kd.R_lt (by (with_reducible repeat (first | apply rA_ | apply rN_ | apply rD_)); exact HO_212001.out))) (Kd.R_lt (by (with_reducible repeat (first | apply rA_ | apply rN_ | apply rD_)); exact HO_219000.out))) (Kd.R_lt (by (with_reducible repeat (first | apply rA_ | apply rN_ | apply rD_)); exact HO_219001.out))) (Kd.R_lt (by (with_reducible repeat (first | apply rA_ | apply rN_ | apply rD_)); exact HO_227000.out))) (Kd.R_lt (by (with_reducible repeat (first | apply rA_ | apply rN_ | apply rD_)); exact HO_227001.out))) (below_size (by repeat (first | (with_reducible first | exact HB.out | apply bA_ | apply bN_ | apply bD_ | refine bS_ ?_ GE196.out | refine bS_ ?_ GE211.out | refine bS_ ?_ GE218.out | refine bS_ ?_ GE226.out) | exact HB.out))))
            have n8_ := Aside0.mk (blk_below (g := gb196) (o := .cells #[.slice A0_0 l0_0.length c0_0, .slice A0_1 l0_1.length c0_1] 24 (0, 0)) (by (with_reducible repeat (first | refine kN_ ?_ _ | refine kD_ ?_ | refine kA_ ?_ _)); exact BK196.out) hb)
            have n9_ := Aside0.mk (blk_below (g := gb211) (o := .cells #[.slice Ao23 t204.length co23, .slice Ao26 t207.length co26] 27 (0, 0)) (by (with_reducible repeat (first | refine kN_ ?_ _ | refine kD_ ?_ | refine kA_ ?_ _)); exact BK211.out) hb)
            have n10_ := Aside0.mk (blk_below (g := gb218) (o := .cells #[.slice Ao30 t212.length co30, .slice Ao34 t215.length co34] 27 (0, 0)) (by (with_reducible repeat (first | refine kN_ ?_ _ | refine kD_ ?_ | refine kA_ ?_ _)); exact BK218.out) hb)
            have n11_ := Aside0.mk (blk_below (g := gb226) (o := .cells #[.slice Ao37 t219.length co37, .slice Ao42 t222.length co42] 27 (0, 0)) (by (with_reducible repeat (first | refine kN_ ?_ _ | refine kD_ ?_ | refine kA_ ?_ _)); exact BK226.out) hb)
            have n12_ := Aside0.mk (below_step (by repeat (first | (with_reducible first | exact HB.out | apply bA_ | apply bN_ | apply bD_ | refine bS_ ?_ GE196.out | refine bS_ ?_ GE211.out | refine bS_ ?_ GE218.out | refine bS_ ?_ GE226.out) | exact HB.out)) hb)
            clear HO_212000
            clear HO_212001
            clear HO_219000
            clear HO_219001
            clear HO_227000
            clear HO_227001
            clear BK196
            clear BK211
            clear BK218
            clear BK226
            clear HB
            have HO_212000 := n0_
            have HO_212001 := n1_
            have HO_219000 := n2_
            have HO_219001 := n3_
            have HO_227000 := n4_
            have HO_227001 := n5_
            have HO230 := n6_
            have HO233 := n7_
            have BK196 := n8_
            have BK211 := n9_
            have BK218 := n10_
            have BK226 := n11_
            have HB := n12_
            clear n0_ n1_ n2_ n3_ n4_ n5_ n6_ n7_ n8_ n9_ n10_ n11_ n12_
            (try clear hb)
            (try clear hb2)
            (try clear hk)
            (try clear hi)
            (try clear ho0)
            (try clear ho1)
            obtain ⟨Ao69, co69, eo69⟩ := Kd.R_slice HO230.out
            (first | subst eo69 | (injection eo69 with f1_ f2_ f3_; have f4_ := f1_.symm; have f5_ := f3_.symm; clear f1_ f2_ f3_; subst f4_; subst f5_))
            obtain ⟨Ao70, co70, eo70⟩ := Kd.R_slice HO233.out
            (first | subst eo70 | (injection eo70 with f1_ f2_ f3_; have f4_ := f1_.symm; have f5_ := f3_.symm; clear f1_ f2_ f3_; subst f4_; subst f5_))
            refine hK.out _ _ ⟨(blk_cell BK218.out 0).trans rfl, (blk_cell BK218.out 1).trans rfl, (blk_cell BK196.out 0).trans rfl, (blk_cell BK196.out 1).trans rfl⟩ (fun hHeld => ?_)
            clear hK K
            refine norm_ (a' := ?_) ?_ ?_
            rotate_left
            · show Act.put _ (some 51) _ = _
              simp only [Act.put, List.setIfInBounds_toArray, List.set_cons_zero, List.set_cons_succ, i64_w, i32_w]
              rfl
            refine one_ (i := 3) (N := some 52) #[true, true, true, true, false] rfl rfl (by kernel_rfl) (by decide) (fun K hK => ?_)
            refine goes_ Try.func19 (by kernel_rfl) rfl #[.agg #[.slice Ao30 t212.length co30, .slice Ao34 t215.length co34], .agg #[.slice Ao69 t228.length co69, .slice Ao70 t231.length co70]] (by rfl) rfl rfl (by (try simp only [List.map_toArray, List.map_cons, List.map_nil]); first | done | rfl | (simp only [List.length_drop, List.length_take]; rfl)) ?_
            with_reducible refine (laws_eqHouse.calls kj12 _ _ t212 _ _ t215 _ _ t228 _ _ t231 true _ ?side1 ?side2 ?side3 ?side4 ?side5 ?side6 ?side7 ?side8 A63.out).mono ?_
            (case side1 => repeat (first | exact (rR_ HO_219000.out).2.2 | (with_reducible refine Kd.C_alloc ?_ _) | (with_reducible refine Kd.C_drewN ?_ _) | (with_reducible refine Kd.C_drew ?_)))
            (case side2 => exact (rR_ HO_219000.out).2.1)
            (case side3 => repeat (first | exact (rR_ HO_219001.out).2.2 | (with_reducible refine Kd.C_alloc ?_ _) | (with_reducible refine Kd.C_drewN ?_ _) | (with_reducible refine Kd.C_drew ?_)))
            (case side4 => exact (rR_ HO_219001.out).2.1)
            (case side5 => repeat (first | exact (rR_ HO230.out).2.2 | (with_reducible refine Kd.C_alloc ?_ _) | (with_reducible refine Kd.C_drewN ?_ _) | (with_reducible refine Kd.C_drew ?_)))
            (case side6 => exact (rR_ HO230.out).2.1)
            (case side7 => repeat (first | exact (rR_ HO233.out).2.2 | (with_reducible refine Kd.C_alloc ?_ _) | (with_reducible refine Kd.C_drewN ?_ _) | (with_reducible refine Kd.C_drew ?_)))
            (case side8 => exact (rR_ HO233.out).2.1)
            rintro e w71 ⟨rfl, hb⟩
            refine ⟨_, rfl, ?_⟩
            have n0_ := Aside0.mk (rB_ (by (with_reducible repeat (first | apply rA_ | apply rN_ | apply rD_)); exact HO_212000.out) hb)
            have n1_ := Aside0.mk (rB_ (by (with_reducible repeat (first | apply rA_ | apply rN_ | apply rD_)); exact HO_212001.out) hb)
            have n2_ := Aside0.mk (rB_ (by (with_reducible repeat (first | apply rA_ | apply rN_ | apply rD_)); exact HO_219000.out) hb)
            have n3_ := Aside0.mk (rB_ (by (with_reducible repeat (first | apply rA_ | apply rN_ | apply rD_)); exact HO_219001.out) hb)
            have n4_ := Aside0.mk (rB_ (by (with_reducible repeat (first | apply rA_ | apply rN_ | apply rD_)); exact HO_227000.out) hb)
            have n5_ := Aside0.mk (rB_ (by (with_reducible repeat (first | apply rA_ | apply rN_ | apply rD_)); exact HO_227001.out) hb)
            have n6_ := Aside0.mk (rB_ (by (with_reducible repeat (first | apply rA_ | apply rN_ | apply rD_)); exact HO230.out) hb)
            have n7_ := Aside0.mk (rB_ (by (with_reducible repeat (first | apply rA_ | apply rN_ | apply rD_)); exact HO233.out) hb)
            have n8_ := Aside0.mk (blk_below (g := gb196) (o := .cells #[.slice A0_0 l0_0.length c0_0, .slice A0_1 l0_1.length c0_1] 24 (0, 0)) (by (with_reducible repeat (first | refine kN_ ?_ _ | refine kD_ ?_ | refine kA_ ?_ _)); exact BK196.out) hb)
            have n9_ := Aside0.mk (blk_below (g := gb211) (o := .cells #[.slice Ao23 t204.length co23, .slice Ao26 t207.length co26] 27 (0, 0)) (by (with_reducible repeat (first | refine kN_ ?_ _ | refine kD_ ?_ | refine kA_ ?_ _)); exact BK211.out) hb)
            have n10_ := Aside0.mk (blk_below (g := gb218) (o := .cells #[.slice Ao30 t212.length co30, .slice Ao34 t215.length co34] 27 (0, 0)) (by (with_reducible repeat (first | refine kN_ ?_ _ | refine kD_ ?_ | refine kA_ ?_ _)); exact BK218.out) hb)
            have n11_ := Aside0.mk (blk_below (g := gb226) (o := .cells #[.slice Ao37 t219.length co37, .slice Ao42 t222.length co42] 27 (0, 0)) (by (with_reducible repeat (first | refine kN_ ?_ _ | refine kD_ ?_ | refine kA_ ?_ _)); exact BK226.out) hb)
            have n12_ := Aside0.mk (below_step (by repeat (first | (with_reducible first | exact HB.out | apply bA_ | apply bN_ | apply bD_ | refine bS_ ?_ GE196.out | refine bS_ ?_ GE211.out | refine bS_ ?_ GE218.out | refine bS_ ?_ GE226.out) | exact HB.out)) hb)
            clear HO_212000
            clear HO_212001
            clear HO_219000
            clear HO_219001
            clear HO_227000
            clear HO_227001
            clear HO230
            clear HO233
            clear BK196
            clear BK211
            clear BK218
            clear BK226
            clear HB
            have HO_212000 := n0_
            have HO_212001 := n1_
            have HO_219000 := n2_
            have HO_219001 := n3_
            have HO_227000 := n4_
            have HO_227001 := n5_
            have HO230 := n6_
            have HO233 := n7_
            have BK196 := n8_
            have BK211 := n9_
            have BK218 := n10_
            have BK226 := n11_
            have HB := n12_
            clear n0_ n1_ n2_ n3_ n4_ n5_ n6_ n7_ n8_ n9_ n10_ n11_ n12_
            (try clear hb)
            (try clear hb2)
            (try clear hk)
            (try clear hi)
            refine hK.out _ _ ⟨(blk_cell BK218.out 0).trans rfl, (blk_cell BK218.out 1).trans rfl, (blk_cell BK196.out 0).trans rfl, (blk_cell BK196.out 1).trans rfl⟩ (fun hHeld => ?_)
            clear hK K
            refine norm_ (a' := ?_) ?_ ?_
            rotate_left
            · show Act.put _ (some 52) _ = _
              simp only [Act.put, List.setIfInBounds_toArray, List.set_cons_zero, List.set_cons_succ, i64_w, i32_w]
              rfl
            refine pure_ (i := 4) (N := some 53) (v := ?_) (a' := ?_) #[true, true, true, true, true] rfl rfl (by kernel_rfl) (fun _ _ _ h => h) (Or.inl ⟨by rfl, ?_⟩) ?_ ?_
            rotate_left
            · intro w'
              go_simp
              with_reducible rfl
            rotate_left
            · simp only [Act.put, List.setIfInBounds_toArray, List.set_cons_zero, List.set_cons_succ, i64_w, i32_w]
              rfl
            refine done_ (by kernel_rfl) ?_
            have hnb72 := NB218_196.out
            have hnc72 := NB196_218.out
            have hnb73 := NB218_211.out
            have hnc73 := NB211_218.out
            have hnb74 := NB218_226.out
            have hnc74 := NB226_218.out
            have hcz75_0 : w71.cell? ⟨gb218, 0, none⟩ = some (.slice Ao30 t212.length co30) := (blk_cell BK218.out 0).trans rfl
            have hcz75_1 : w71.cell? ⟨gb218, 1, none⟩ = some (.slice Ao34 t215.length co34) := (blk_cell BK218.out 1).trans rfl
            have hfz75_0 := blk_frozen BK218.out 0
            have hfz75_1 := blk_frozen BK218.out 1
            go_upto_region 14 with (first | ((with_reducible refine gate_callee (f := 39) rfl ?_); refine goesL_ (some 56) rfl rfl Try.func39 (by kernel_rfl) rfl #[.agg #[.slice Ao30 t212.length co30, .slice Ao34 t215.length co34], .int .i64 1] rfl (by (try simp only [List.map_toArray, List.map_cons, List.map_nil]); first | done | rfl | (simp only [List.length_drop, List.length_take]; rfl)) ?_; (with_reducible refine (laws_markHouse.calls kj12 (fun k_ => some k_ = (.slice Ao30 t212.length co30 : Value).ownBlock) (.slice Ao30 t212.length co30) t212 (fun k_ => some k_ = (.slice Ao34 t215.length co34 : Value).ownBlock) (.slice Ao34 t215.length co34) t215 1 t235 t236 t237 w _ ?side1 ?side2 ?side3 ?side4 ?side5 A65.out).mono ?_); (case side1 => repeat (first | (with_reducible first | exact HB.out | apply bA_ | apply bN_ | apply bD_ | refine bS_ ?_ GE196.out | refine bS_ ?_ GE211.out | refine bS_ ?_ GE218.out | refine bS_ ?_ GE226.out) | exact HB.out)); (case side2 => exact Kd.R_tight rfl HO_219000.out); (case side3 => exact fun k_ e_ => (HO_219000.out.1 k_ e_.symm).1.1.2.2.1); (case side4 => exact Kd.R_tight rfl HO_219001.out); (case side5 => exact fun k_ e_ => (HO_219001.out.1 k_ e_.symm).1.1.2.2.1); rintro e w76 ⟨rfl, hy0, hy1, hb, hkp⟩; refine ⟨_, rfl, ?_⟩; have n0_ := Aside0.mk (rM_ (ok' := fun k_ => some k_ ≠ (.slice Ao26 t207.length co26 : Value).ownBlock ∧ some k_ ≠ (.slice Ao30 t212.length co30 : Value).ownBlock ∧ some k_ ≠ (.slice Ao34 t215.length co34 : Value).ownBlock ∧ some k_ ≠ (.slice Ao37 t219.length co37 : Value).ownBlock ∧ some k_ ≠ (.slice Ao42 t222.length co42 : Value).ownBlock ∧ some k_ ≠ (.slice Ao69 t228.length co69 : Value).ownBlock ∧ some k_ ≠ (.slice Ao70 t231.length co70 : Value).ownBlock) (Kd.R_keptB (HO_212000.out) hkp (fun k_ hk_ hs_ => Or.elim hs_ (fun e_ => (hk_.1.1.2.1) e_) (fun e_ => (hk_.1.1.2.2.1) e_))) (fun k_ hk_ => ⟨hk_.1.1.1.1, hk_.1.1.1.2.1, hk_.1.1.1.2.2.1, hk_.1.1.1.2.2.2.1, hk_.1.1.1.2.2.2.2, hk_.1.1.2, hk_.1.2⟩)); have n1_ := Aside0.mk (rM_ (ok' := fun k_ => some k_ ≠ (.slice Ao23 t204.length co23 : Value).ownBlock ∧ some k_ ≠ (.slice Ao30 t212.length co30 : Value).ownBlock ∧ some k_ ≠ (.slice Ao34 t215.length co34 : Value).ownBlock ∧ some k_ ≠ (.slice Ao37 t219.length co37 : Value).ownBlock ∧ some k_ ≠ (.slice Ao42 t222.length co42 : Value).ownBlock ∧ some k_ ≠ (.slice Ao69 t228.length co69 : Value).ownBlock ∧ some k_ ≠ (.slice Ao70 t231.length co70 : Value).ownBlock) (Kd.R_keptB (HO_212001.out) hkp (fun k_ hk_ hs_ => Or.elim hs_ (fun e_ => (hk_.1.1.2.1) e_) (fun e_ => (hk_.1.1.2.2.1) e_))) (fun k_ hk_ => ⟨hk_.1.1.1.1, hk_.1.1.1.2.1, hk_.1.1.1.2.2.1, hk_.1.1.1.2.2.2.1, hk_.1.1.1.2.2.2.2, hk_.1.1.2, hk_.1.2⟩)); have n2_ := Aside0.mk (Kd.R_reok rfl hy0 (fun k_ e_ => HO_219000.out.1 k_ e_)); have n3_ := Aside0.mk (Kd.R_reok rfl hy1 (fun k_ e_ => HO_219001.out.1 k_ e_)); have n4_ := Aside0.mk (rM_ (ok' := fun k_ => some k_ ≠ (.slice Ao23 t204.length co23 : Value).ownBlock ∧ some k_ ≠ (.slice Ao26 t207.length co26 : Value).ownBlock ∧ some k_ ≠ (.slice Ao30 t212.length co30 : Value).ownBlock ∧ some k_ ≠ (.slice Ao34 t215.length co34 : Value).ownBlock ∧ some k_ ≠ (.slice Ao42 t222.length co42 : Value).ownBlock ∧ some k_ ≠ (.slice Ao69 t228.length co69 : Value).ownBlock ∧ some k_ ≠ (.slice Ao70 t231.length co70 : Value).ownBlock) (Kd.R_keptB (HO_227000.out) hkp (fun k_ hk_ hs_ => Or.elim hs_ (fun e_ => (hk_.1.1.2.2.1) e_) (fun e_ => (hk_.1.1.2.2.2.1) e_))) (fun k_ hk_ => ⟨hk_.1.1.1.1, hk_.1.1.1.2.1, hk_.1.1.1.2.2.1, hk_.1.1.1.2.2.2.1, hk_.1.1.1.2.2.2.2, hk_.1.1.2, hk_.1.2⟩)); have n5_ := Aside0.mk (rM_ (ok' := fun k_ => some k_ ≠ (.slice Ao23 t204.length co23 : Value).ownBlock ∧ some k_ ≠ (.slice Ao26 t207.length co26 : Value).ownBlock ∧ some k_ ≠ (.slice Ao30 t212.length co30 : Value).ownBlock ∧ some k_ ≠ (.slice Ao34 t215.length co34 : Value).ownBlock ∧ some k_ ≠ (.slice Ao37 t219.length co37 : Value).ownBlock ∧ some k_ ≠ (.slice Ao69 t228.length co69 : Value).ownBlock ∧ some k_ ≠ (.slice Ao70 t231.length co70 : Value).ownBlock) (Kd.R_keptB (HO_227001.out) hkp (fun k_ hk_ hs_ => Or.elim hs_ (fun e_ => (hk_.1.1.2.2.1) e_) (fun e_ => (hk_.1.1.2.2.2.1) e_))) (fun k_ hk_ => ⟨hk_.1.1.1.1, hk_.1.1.1.2.1, hk_.1.1.1.2.2.1, hk_.1.1.1.2.2.2.1, hk_.1.1.1.2.2.2.2, hk_.1.1.2, hk_.1.2⟩)); have n6_ := Aside0.mk (blk_kept (by (with_reducible repeat (first | refine kN_ ?_ _ | refine kD_ ?_ | refine kA_ ?_ _)); exact BK196.out) hkp (fun hs_ => Or.elim hs_ (fun e_ => (fun e_ => (Kd.R_ne HO_219000.out BK196.out (by decide)) e_) e_) (fun e_ => (fun e_ => (Kd.R_ne HO_219001.out BK196.out (by decide)) e_) e_))); have n7_ := Aside0.mk (blk_kept (by (with_reducible repeat (first | refine kN_ ?_ _ | refine kD_ ?_ | refine kA_ ?_ _)); exact BK211.out) hkp (fun hs_ => Or.elim hs_ (fun e_ => (fun e_ => (Kd.R_ne HO_219000.out BK211.out (by decide)) e_) e_) (fun e_ => (fun e_ => (Kd.R_ne HO_219001.out BK211.out (by decide)) e_) e_))); have n8_ := Aside0.mk (blk_kept (by (with_reducible repeat (first | refine kN_ ?_ _ | refine kD_ ?_ | refine kA_ ?_ _)); exact BK218.out) hkp (fun hs_ => Or.elim hs_ (fun e_ => (fun e_ => (Kd.R_ne HO_219000.out BK218.out (by decide)) e_) e_) (fun e_ => (fun e_ => (Kd.R_ne HO_219001.out BK218.out (by decide)) e_) e_))); have n9_ := Aside0.mk (blk_kept (by (with_reducible repeat (first | refine kN_ ?_ _ | refine kD_ ?_ | refine kA_ ?_ _)); exact BK226.out) hkp (fun hs_ => Or.elim hs_ (fun e_ => (fun e_ => (Kd.R_ne HO_219000.out BK226.out (by decide)) e_) e_) (fun e_ => (fun e_ => (Kd.R_ne HO_219001.out BK226.out (by decide)) e_) e_))); have n10_ := Aside0.mk (rM_ (ok' := fun k_ => some k_ ≠ (.slice Ao23 t204.length co23 : Value).ownBlock ∧ some k_ ≠ (.slice Ao26 t207.length co26 : Value).ownBlock ∧ some k_ ≠ (.slice Ao30 t212.length co30 : Value).ownBlock ∧ some k_ ≠ (.slice Ao34 t215.length co34 : Value).ownBlock ∧ some k_ ≠ (.slice Ao37 t219.length co37 : Value).ownBlock ∧ some k_ ≠ (.slice Ao42 t222.length co42 : Value).ownBlock ∧ some k_ ≠ (.slice Ao70 t231.length co70 : Value).ownBlock) (Kd.R_keptB (HO230.out) hkp (fun k_ hk_ hs_ => Or.elim hs_ (fun e_ => (hk_.1.1.1.2) e_) (fun e_ => (hk_.1.1.2) e_))) (fun k_ hk_ => ⟨hk_.1.1.1.1.1.1.2, hk_.1.1.1.1.1.2, hk_.1.1.1.1.2, hk_.1.1.1.2, hk_.1.1.2, hk_.1.2, hk_.1.1.1.1.1.1.1⟩)); have n11_ := Aside0.mk (rM_ (ok' := fun k_ => some k_ ≠ (.slice Ao23 t204.length co23 : Value).ownBlock ∧ some k_ ≠ (.slice Ao26 t207.length co26 : Value).ownBlock ∧ some k_ ≠ (.slice Ao30 t212.length co30 : Value).ownBlock ∧ some k_ ≠ (.slice Ao34 t215.length co34 : Value).ownBlock ∧ some k_ ≠ (.slice Ao37 t219.length co37 : Value).ownBlock ∧ some k_ ≠ (.slice Ao42 t222.length co42 : Value).ownBlock ∧ some k_ ≠ (.slice Ao69 t228.length co69 : Value).ownBlock) (Kd.R_keptB (HO233.out) hkp (fun k_ hk_ hs_ => Or.elim hs_ (fun e_ => (hk_.1.1.1.2) e_) (fun e_ => (hk_.1.1.2) e_))) (fun k_ hk_ => ⟨hk_.1.1.1.1.1.1.2, hk_.1.1.1.1.1.2, hk_.1.1.1.1.2, hk_.1.1.1.2, hk_.1.1.2, hk_.1.2, hk_.1.1.1.1.1.1.1⟩)); have n12_ := Aside0.mk (hb); clear HO_212000; clear HO_212001; clear HO_219000; clear HO_219001; clear HO_227000; clear HO_227001; clear BK196; clear BK211; clear BK218; clear BK226; clear HO230; clear HO233; clear HB; have HO_212000 := n0_; have HO_212001 := n1_; have HO_219000 := n2_; have HO_219001 := n3_; have HO_227000 := n4_; have HO_227001 := n5_; have BK196 := n6_; have BK211 := n7_; have BK218 := n8_; have BK226 := n9_; have HO230 := n10_; have HO233 := n11_; have HB := n12_; clear n0_ n1_ n2_ n3_ n4_ n5_ n6_ n7_ n8_ n9_ n10_ n11_ n12_; (try clear hb); (try clear hkp); (try clear hy0); (try clear hy1)))
            (try simp only [Act.put, List.setIfInBounds_toArray, List.set_cons_zero, List.set_cons_succ])
            go_cut [69] (fun v69 wc => ∃ (kq : Nat) (x69_65 : Bool), v69 = .bool x69_65 ∧ Aside0 (laws_FnExactAddFloor.j1 kq a1 a2 t210 x69_65 l0_0 l0_1 t204 t207 t219 t222 = some r) ∧ Aside0 (kq ≤ kj12) ∧ Aside0 (Kd.R (Kd.int .i64) 3 wc w.heap.size (fun k_ => some k_ ≠ ((.slice Ao26 t207.length co26) : Value).ownBlock ∧ some k_ ≠ ((.slice Ao30 t212.length co30) : Value).ownBlock ∧ some k_ ≠ ((.slice Ao34 t215.length co34) : Value).ownBlock ∧ some k_ ≠ ((.slice Ao37 t219.length co37) : Value).ownBlock ∧ some k_ ≠ ((.slice Ao42 t222.length co42) : Value).ownBlock) (.slice Ao23 t204.length co23) t204) ∧ Aside0 (Kd.R (Kd.int .i64) 3 wc w.heap.size (fun k_ => some k_ ≠ ((.slice Ao23 t204.length co23) : Value).ownBlock ∧ some k_ ≠ ((.slice Ao30 t212.length co30) : Value).ownBlock ∧ some k_ ≠ ((.slice Ao34 t215.length co34) : Value).ownBlock ∧ some k_ ≠ ((.slice Ao37 t219.length co37) : Value).ownBlock ∧ some k_ ≠ ((.slice Ao42 t222.length co42) : Value).ownBlock) (.slice Ao26 t207.length co26) t207) ∧ Aside0 (Kd.R (Kd.int .i64) 3 wc w.heap.size (fun k_ => some k_ ≠ ((.slice Ao23 t204.length co23) : Value).ownBlock ∧ some k_ ≠ ((.slice Ao26 t207.length co26) : Value).ownBlock ∧ some k_ ≠ ((.slice Ao34 t215.length co34) : Value).ownBlock ∧ some k_ ≠ ((.slice Ao37 t219.length co37) : Value).ownBlock ∧ some k_ ≠ ((.slice Ao42 t222.length co42) : Value).ownBlock) (.slice Ao30 t212.length co30) t236) ∧ Aside0 (Kd.R (Kd.int .i64) 3 wc w.heap.size (fun k_ => some k_ ≠ ((.slice Ao23 t204.length co23) : Value).ownBlock ∧ some k_ ≠ ((.slice Ao26 t207.length co26) : Value).ownBlock ∧ some k_ ≠ ((.slice Ao30 t212.length co30) : Value).ownBlock ∧ some k_ ≠ ((.slice Ao37 t219.length co37) : Value).ownBlock ∧ some k_ ≠ ((.slice Ao42 t222.length co42) : Value).ownBlock) (.slice Ao34 t215.length co34) t237) ∧ Aside0 (Kd.R (Kd.int .i64) 3 wc w.heap.size (fun k_ => some k_ ≠ ((.slice Ao23 t204.length co23) : Value).ownBlock ∧ some k_ ≠ ((.slice Ao26 t207.length co26) : Value).ownBlock ∧ some k_ ≠ ((.slice Ao30 t212.length co30) : Value).ownBlock ∧ some k_ ≠ ((.slice Ao34 t215.length co34) : Value).ownBlock ∧ some k_ ≠ ((.slice Ao42 t222.length co42) : Value).ownBlock) (.slice Ao37 t219.length co37) t219) ∧ Aside0 (Kd.R (Kd.int .i64) 3 wc w.heap.size (fun k_ => some k_ ≠ ((.slice Ao23 t204.length co23) : Value).ownBlock ∧ some k_ ≠ ((.slice Ao26 t207.length co26) : Value).ownBlock ∧ some k_ ≠ ((.slice Ao30 t212.length co30) : Value).ownBlock ∧ some k_ ≠ ((.slice Ao34 t215.length co34) : Value).ownBlock ∧ some k_ ≠ ((.slice Ao37 t219.length co37) : Value).ownBlock) (.slice Ao42 t222.length co42) t222) ∧ Aside0 (wc.heap[gb196]? = some (.cells #[(.slice A0_0 l0_0.length c0_0), (.slice A0_1 l0_1.length c0_1)] 24 (0, 0))) ∧ Aside0 (wc.heap[gb211]? = some (.cells #[(.slice Ao23 t204.length co23), (.slice Ao26 t207.length co26)] 27 (0, 0))) ∧ Aside0 (wc.heap[gb218]? = some (.cells #[(.slice Ao30 t212.length co30), (.slice Ao34 t215.length co34)] 27 (0, 0))) ∧ Aside0 (wc.heap[gb226]? = some (.cells #[(.slice Ao37 t219.length co37), (.slice Ao42 t222.length co42)] 27 (0, 0))) ∧ Aside0 (Below w.heap.size w wc))
            case first =>
              have H := HC66.out
              clear HC66
              by_cases c77 : t235 < 0
              · rw [if_pos c77] at H
                have c77b0 : decide (t235 < 0) = true := decide_eq_true c77
                clear c77
                (first | rw [c77b0] | (simp only [i64_w, i32_w]; rw [c77b0]) | skip)
                have H' := Aside0.mk H
                clear H
                go_wp2
                go_meet
                case rel => exact ⟨_, (true), (by first | rfl | (simp; done) | (simp [*]; done)), H', ⟨by have := HJ12.out; first | omega | exact Nat.le_refl _⟩, ⟨by (with_reducible repeat (first | apply rA_ | apply rN_ | apply rD_)); exact rM_ HO_212000.out (fun _ hk => ⟨hk.1, ⟨hk.2.1, ⟨hk.2.2.1, ⟨hk.2.2.2.1, hk.2.2.2.2.1⟩⟩⟩⟩)⟩, ⟨by (with_reducible repeat (first | apply rA_ | apply rN_ | apply rD_)); exact rM_ HO_212001.out (fun _ hk => ⟨hk.1, ⟨hk.2.1, ⟨hk.2.2.1, ⟨hk.2.2.2.1, hk.2.2.2.2.1⟩⟩⟩⟩)⟩, ⟨by (with_reducible repeat (first | apply rA_ | apply rN_ | apply rD_)); exact rM_ HO_219000.out (fun _ hk => ⟨hk.1.1.1, ⟨hk.1.1.2.1, ⟨hk.1.1.2.2.1, ⟨hk.1.1.2.2.2.1, hk.1.1.2.2.2.2⟩⟩⟩⟩)⟩, ⟨by (with_reducible repeat (first | apply rA_ | apply rN_ | apply rD_)); exact rM_ HO_219001.out (fun _ hk => ⟨hk.1.1.1, ⟨hk.1.1.2.1, ⟨hk.1.1.2.2.1, ⟨hk.1.1.2.2.2.1, hk.1.1.2.2.2.2⟩⟩⟩⟩)⟩, ⟨by (with_reducible repeat (first | apply rA_ | apply rN_ | apply rD_)); exact rM_ HO_227000.out (fun _ hk => ⟨hk.1, ⟨hk.2.1, ⟨hk.2.2.1, ⟨hk.2.2.2.1, hk.2.2.2.2.1⟩⟩⟩⟩)⟩, ⟨by (with_reducible repeat (first | apply rA_ | apply rN_ | apply rD_)); exact rM_ HO_227001.out (fun _ hk => ⟨hk.1, ⟨hk.2.1, ⟨hk.2.2.1, ⟨hk.2.2.2.1, hk.2.2.2.2.1⟩⟩⟩⟩)⟩, ⟨by (with_reducible repeat (first | refine kN_ ?_ _ | refine kD_ ?_ | refine kA_ ?_ _)); exact BK196.out⟩, ⟨by (with_reducible repeat (first | refine kN_ ?_ _ | refine kD_ ?_ | refine kA_ ?_ _)); exact BK211.out⟩, ⟨by (with_reducible repeat (first | refine kN_ ?_ _ | refine kD_ ?_ | refine kA_ ?_ _)); exact BK218.out⟩, ⟨by (with_reducible repeat (first | refine kN_ ?_ _ | refine kD_ ?_ | refine kA_ ?_ _)); exact BK226.out⟩, ⟨by repeat (first | (with_reducible first | exact HB.out | apply bA_ | apply bN_ | apply bD_ | refine bS_ ?_ GE196.out | refine bS_ ?_ GE211.out | refine bS_ ?_ GE218.out | refine bS_ ?_ GE226.out) | exact HB.out)⟩⟩
              · rw [if_neg c77] at H
                have c77b0 : decide (t235 < 0) = false := decide_eq_false c77
                clear c77
                (first | rw [c77b0] | (simp only [i64_w, i32_w]; rw [c77b0]) | skip)
                replace H := Option.bind_eq_some_iff.mp H
                obtain ⟨t238, A780, H⟩ := H
                replace H : (if t238 = true then (laws_FnExactAddFloor.j1 kj12 a1 a2 t210 (t225 != t210) l0_0 l0_1 t204 t207 t219 t222) else (laws_FnExactAddFloor.j1 kj12 a1 a2 t210 true l0_0 l0_1 t204 t207 t219 t222)) = some r := H
                have A78 := Aside0.mk A780
                clear A780
                by_cases c79 : t238 = true
                · subst c79
                  have H1 : (laws_FnExactAddFloor.j1 kj12 a1 a2 t210 (t225 != t210) l0_0 l0_1 t204 t207 t219 t222) = some r := by rw [if_pos rfl] at H; exact H
                  clear H
                  have H := H1
                  clear H1
                  have H' := Aside0.mk H
                  clear H
                  have hnb80 := NB226_196.out
                  have hnc80 := NB196_226.out
                  have hnb81 := NB226_211.out
                  have hnc81 := NB211_226.out
                  have hnb82 := NB226_218.out
                  have hnc82 := NB218_226.out
                  have hcz83_0 : w76.cell? ⟨gb226, 0, none⟩ = some (.slice Ao37 t219.length co37) := (blk_cell BK226.out 0).trans rfl
                  have hcz83_1 : w76.cell? ⟨gb226, 1, none⟩ = some (.slice Ao42 t222.length co42) := (blk_cell BK226.out 1).trans rfl
                  have hfz83_0 := blk_frozen BK226.out 0
                  have hfz83_1 := blk_frozen BK226.out 1
                  have hnb84 := NB211_196.out
                  have hnc84 := NB196_211.out
                  have hnb85 := NB211_218.out
                  have hnc85 := NB218_211.out
                  have hcz86_0 : w76.cell? ⟨gb211, 0, none⟩ = some (.slice Ao23 t204.length co23) := (blk_cell BK211.out 0).trans rfl
                  have hcz86_1 : w76.cell? ⟨gb211, 1, none⟩ = some (.slice Ao26 t207.length co26) := (blk_cell BK211.out 1).trans rfl
                  have hfz86_0 := blk_frozen BK211.out 0
                  have hfz86_1 := blk_frozen BK211.out 1
                  go_wp2_with (first | (go_at_call 19; (with_reducible refine (laws_eqHouse.calls kj12 _ _ t219 _ _ t222 _ _ t204 _ _ t207 true _ ?side1 ?side2 ?side3 ?side4 ?side5 ?side6 ?side7 ?side8 A78.out).mono ?_); (case side1 => repeat (first | exact (rR_ HO_227000.out).2.2 | (with_reducible refine Kd.C_alloc ?_ _) | (with_reducible refine Kd.C_drewN ?_ _) | (with_reducible refine Kd.C_drew ?_))); (case side2 => exact (rR_ HO_227000.out).2.1); (case side3 => repeat (first | exact (rR_ HO_227001.out).2.2 | (with_reducible refine Kd.C_alloc ?_ _) | (with_reducible refine Kd.C_drewN ?_ _) | (with_reducible refine Kd.C_drew ?_))); (case side4 => exact (rR_ HO_227001.out).2.1); (case side5 => repeat (first | exact (rR_ HO_212000.out).2.2 | (with_reducible refine Kd.C_alloc ?_ _) | (with_reducible refine Kd.C_drewN ?_ _) | (with_reducible refine Kd.C_drew ?_))); (case side6 => exact (rR_ HO_212000.out).2.1); (case side7 => repeat (first | exact (rR_ HO_212001.out).2.2 | (with_reducible refine Kd.C_alloc ?_ _) | (with_reducible refine Kd.C_drewN ?_ _) | (with_reducible refine Kd.C_drew ?_))); (case side8 => exact (rR_ HO_212001.out).2.1); rintro e w87 ⟨rfl, hb⟩; have n0_ := Aside0.mk (rB_ (by (with_reducible repeat (first | apply rA_ | apply rN_ | apply rD_)); exact HO_212000.out) hb); have n1_ := Aside0.mk (rB_ (by (with_reducible repeat (first | apply rA_ | apply rN_ | apply rD_)); exact HO_212001.out) hb); have n2_ := Aside0.mk (rB_ (by (with_reducible repeat (first | apply rA_ | apply rN_ | apply rD_)); exact HO_219000.out) hb); have n3_ := Aside0.mk (rB_ (by (with_reducible repeat (first | apply rA_ | apply rN_ | apply rD_)); exact HO_219001.out) hb); have n4_ := Aside0.mk (rB_ (by (with_reducible repeat (first | apply rA_ | apply rN_ | apply rD_)); exact HO_227000.out) hb); have n5_ := Aside0.mk (rB_ (by (with_reducible repeat (first | apply rA_ | apply rN_ | apply rD_)); exact HO_227001.out) hb); have n6_ := Aside0.mk (rB_ (by (with_reducible repeat (first | apply rA_ | apply rN_ | apply rD_)); exact HO230.out) hb); have n7_ := Aside0.mk (rB_ (by (with_reducible repeat (first | apply rA_ | apply rN_ | apply rD_)); exact HO233.out) hb); have n8_ := Aside0.mk (blk_below (g := gb196) (o := .cells #[.slice A0_0 l0_0.length c0_0, .slice A0_1 l0_1.length c0_1] 24 (0, 0)) (by (with_reducible repeat (first | refine kN_ ?_ _ | refine kD_ ?_ | refine kA_ ?_ _)); exact BK196.out) hb); have n9_ := Aside0.mk (blk_below (g := gb211) (o := .cells #[.slice Ao23 t204.length co23, .slice Ao26 t207.length co26] 27 (0, 0)) (by (with_reducible repeat (first | refine kN_ ?_ _ | refine kD_ ?_ | refine kA_ ?_ _)); exact BK211.out) hb); have n10_ := Aside0.mk (blk_below (g := gb218) (o := .cells #[.slice Ao30 t212.length co30, .slice Ao34 t215.length co34] 27 (0, 0)) (by (with_reducible repeat (first | refine kN_ ?_ _ | refine kD_ ?_ | refine kA_ ?_ _)); exact BK218.out) hb); have n11_ := Aside0.mk (blk_below (g := gb226) (o := .cells #[.slice Ao37 t219.length co37, .slice Ao42 t222.length co42] 27 (0, 0)) (by (with_reducible repeat (first | refine kN_ ?_ _ | refine kD_ ?_ | refine kA_ ?_ _)); exact BK226.out) hb); have n12_ := Aside0.mk (below_step (by repeat (first | (with_reducible first | exact HB.out | apply bA_ | apply bN_ | apply bD_ | refine bS_ ?_ GE196.out | refine bS_ ?_ GE211.out | refine bS_ ?_ GE218.out | refine bS_ ?_ GE226.out) | exact HB.out)) hb); clear HO_212000; clear HO_212001; clear HO_219000; clear HO_219001; clear HO_227000; clear HO_227001; clear HO230; clear HO233; clear BK196; clear BK211; clear BK218; clear BK226; clear HB; have HO_212000 := n0_; have HO_212001 := n1_; have HO_219000 := n2_; have HO_219001 := n3_; have HO_227000 := n4_; have HO_227001 := n5_; have HO230 := n6_; have HO233 := n7_; have BK196 := n8_; have BK211 := n9_; have BK218 := n10_; have BK226 := n11_; have HB := n12_; clear n0_ n1_ n2_ n3_ n4_ n5_ n6_ n7_ n8_ n9_ n10_ n11_ n12_; (try clear hb); (try clear hb2); (try clear hk); (try clear hi)))
                  go_meet
                  case rel => exact ⟨_, ((t225 != t210)), (by first | rfl | (simp; done) | (simp [*]; done)), H', ⟨by have := HJ12.out; first | omega | exact Nat.le_refl _⟩, ⟨by (with_reducible repeat (first | apply rA_ | apply rN_ | apply rD_)); exact rM_ HO_212000.out (fun _ hk => ⟨hk.1, ⟨hk.2.1, ⟨hk.2.2.1, ⟨hk.2.2.2.1, hk.2.2.2.2.1⟩⟩⟩⟩)⟩, ⟨by (with_reducible repeat (first | apply rA_ | apply rN_ | apply rD_)); exact rM_ HO_212001.out (fun _ hk => ⟨hk.1, ⟨hk.2.1, ⟨hk.2.2.1, ⟨hk.2.2.2.1, hk.2.2.2.2.1⟩⟩⟩⟩)⟩, ⟨by (with_reducible repeat (first | apply rA_ | apply rN_ | apply rD_)); exact rM_ HO_219000.out (fun _ hk => ⟨hk.1.1.1, ⟨hk.1.1.2.1, ⟨hk.1.1.2.2.1, ⟨hk.1.1.2.2.2.1, hk.1.1.2.2.2.2⟩⟩⟩⟩)⟩, ⟨by (with_reducible repeat (first | apply rA_ | apply rN_ | apply rD_)); exact rM_ HO_219001.out (fun _ hk => ⟨hk.1.1.1, ⟨hk.1.1.2.1, ⟨hk.1.1.2.2.1, ⟨hk.1.1.2.2.2.1, hk.1.1.2.2.2.2⟩⟩⟩⟩)⟩, ⟨by (with_reducible repeat (first | apply rA_ | apply rN_ | apply rD_)); exact rM_ HO_227000.out (fun _ hk => ⟨hk.1, ⟨hk.2.1, ⟨hk.2.2.1, ⟨hk.2.2.2.1, hk.2.2.2.2.1⟩⟩⟩⟩)⟩, ⟨by (with_reducible repeat (first | apply rA_ | apply rN_ | apply rD_)); exact rM_ HO_227001.out (fun _ hk => ⟨hk.1, ⟨hk.2.1, ⟨hk.2.2.1, ⟨hk.2.2.2.1, hk.2.2.2.2.1⟩⟩⟩⟩)⟩, ⟨by (with_reducible repeat (first | refine kN_ ?_ _ | refine kD_ ?_ | refine kA_ ?_ _)); exact BK196.out⟩, ⟨by (with_reducible repeat (first | refine kN_ ?_ _ | refine kD_ ?_ | refine kA_ ?_ _)); exact BK211.out⟩, ⟨by (with_reducible repeat (first | refine kN_ ?_ _ | refine kD_ ?_ | refine kA_ ?_ _)); exact BK218.out⟩, ⟨by (with_reducible repeat (first | refine kN_ ?_ _ | refine kD_ ?_ | refine kA_ ?_ _)); exact BK226.out⟩, ⟨by repeat (first | (with_reducible first | exact HB.out | apply bA_ | apply bN_ | apply bD_ | refine bS_ ?_ GE196.out | refine bS_ ?_ GE211.out | refine bS_ ?_ GE218.out | refine bS_ ?_ GE226.out) | exact HB.out)⟩⟩
                · replace c79 := Bool.eq_false_iff.mpr c79
                  subst c79
                  have H1 : (laws_FnExactAddFloor.j1 kj12 a1 a2 t210 true l0_0 l0_1 t204 t207 t219 t222) = some r := by rw [if_neg (show ¬ (false = true) by decide)] at H; exact H
                  clear H
                  have H := H1
                  clear H1
                  have H' := Aside0.mk H
                  clear H
                  have hnb88 := NB226_196.out
                  have hnc88 := NB196_226.out
                  have hnb89 := NB226_211.out
                  have hnc89 := NB211_226.out
                  have hnb90 := NB226_218.out
                  have hnc90 := NB218_226.out
                  have hcz91_0 : w76.cell? ⟨gb226, 0, none⟩ = some (.slice Ao37 t219.length co37) := (blk_cell BK226.out 0).trans rfl
                  have hcz91_1 : w76.cell? ⟨gb226, 1, none⟩ = some (.slice Ao42 t222.length co42) := (blk_cell BK226.out 1).trans rfl
                  have hfz91_0 := blk_frozen BK226.out 0
                  have hfz91_1 := blk_frozen BK226.out 1
                  have hnb92 := NB211_196.out
                  have hnc92 := NB196_211.out
                  have hnb93 := NB211_218.out
                  have hnc93 := NB218_211.out
                  have hcz94_0 : w76.cell? ⟨gb211, 0, none⟩ = some (.slice Ao23 t204.length co23) := (blk_cell BK211.out 0).trans rfl
                  have hcz94_1 : w76.cell? ⟨gb211, 1, none⟩ = some (.slice Ao26 t207.length co26) := (blk_cell BK211.out 1).trans rfl
                  have hfz94_0 := blk_frozen BK211.out 0
                  have hfz94_1 := blk_frozen BK211.out 1
                  go_wp2_with (first | (go_at_call 19; (with_reducible refine (laws_eqHouse.calls kj12 _ _ t219 _ _ t222 _ _ t204 _ _ t207 false _ ?side1 ?side2 ?side3 ?side4 ?side5 ?side6 ?side7 ?side8 A78.out).mono ?_); (case side1 => repeat (first | exact (rR_ HO_227000.out).2.2 | (with_reducible refine Kd.C_alloc ?_ _) | (with_reducible refine Kd.C_drewN ?_ _) | (with_reducible refine Kd.C_drew ?_))); (case side2 => exact (rR_ HO_227000.out).2.1); (case side3 => repeat (first | exact (rR_ HO_227001.out).2.2 | (with_reducible refine Kd.C_alloc ?_ _) | (with_reducible refine Kd.C_drewN ?_ _) | (with_reducible refine Kd.C_drew ?_))); (case side4 => exact (rR_ HO_227001.out).2.1); (case side5 => repeat (first | exact (rR_ HO_212000.out).2.2 | (with_reducible refine Kd.C_alloc ?_ _) | (with_reducible refine Kd.C_drewN ?_ _) | (with_reducible refine Kd.C_drew ?_))); (case side6 => exact (rR_ HO_212000.out).2.1); (case side7 => repeat (first | exact (rR_ HO_212001.out).2.2 | (with_reducible refine Kd.C_alloc ?_ _) | (with_reducible refine Kd.C_drewN ?_ _) | (with_reducible refine Kd.C_drew ?_))); (case side8 => exact (rR_ HO_212001.out).2.1); rintro e w95 ⟨rfl, hb⟩; have n0_ := Aside0.mk (rB_ (by (with_reducible repeat (first | apply rA_ | apply rN_ | apply rD_)); exact HO_212000.out) hb); have n1_ := Aside0.mk (rB_ (by (with_reducible repeat (first | apply rA_ | apply rN_ | apply rD_)); exact HO_212001.out) hb); have n2_ := Aside0.mk (rB_ (by (with_reducible repeat (first | apply rA_ | apply rN_ | apply rD_)); exact HO_219000.out) hb); have n3_ := Aside0.mk (rB_ (by (with_reducible repeat (first | apply rA_ | apply rN_ | apply rD_)); exact HO_219001.out) hb); have n4_ := Aside0.mk (rB_ (by (with_reducible repeat (first | apply rA_ | apply rN_ | apply rD_)); exact HO_227000.out) hb); have n5_ := Aside0.mk (rB_ (by (with_reducible repeat (first | apply rA_ | apply rN_ | apply rD_)); exact HO_227001.out) hb); have n6_ := Aside0.mk (rB_ (by (with_reducible repeat (first | apply rA_ | apply rN_ | apply rD_)); exact HO230.out) hb); have n7_ := Aside0.mk (rB_ (by (with_reducible repeat (first | apply rA_ | apply rN_ | apply rD_)); exact HO233.out) hb); have n8_ := Aside0.mk (blk_below (g := gb196) (o := .cells #[.slice A0_0 l0_0.length c0_0, .slice A0_1 l0_1.length c0_1] 24 (0, 0)) (by (with_reducible repeat (first | refine kN_ ?_ _ | refine kD_ ?_ | refine kA_ ?_ _)); exact BK196.out) hb); have n9_ := Aside0.mk (blk_below (g := gb211) (o := .cells #[.slice Ao23 t204.length co23, .slice Ao26 t207.length co26] 27 (0, 0)) (by (with_reducible repeat (first | refine kN_ ?_ _ | refine kD_ ?_ | refine kA_ ?_ _)); exact BK211.out) hb); have n10_ := Aside0.mk (blk_below (g := gb218) (o := .cells #[.slice Ao30 t212.length co30, .slice Ao34 t215.length co34] 27 (0, 0)) (by (with_reducible repeat (first | refine kN_ ?_ _ | refine kD_ ?_ | refine kA_ ?_ _)); exact BK218.out) hb); have n11_ := Aside0.mk (blk_below (g := gb226) (o := .cells #[.slice Ao37 t219.length co37, .slice Ao42 t222.length co42] 27 (0, 0)) (by (with_reducible repeat (first | refine kN_ ?_ _ | refine kD_ ?_ | refine kA_ ?_ _)); exact BK226.out) hb); have n12_ := Aside0.mk (below_step (by repeat (first | (with_reducible first | exact HB.out | apply bA_ | apply bN_ | apply bD_ | refine bS_ ?_ GE196.out | refine bS_ ?_ GE211.out | refine bS_ ?_ GE218.out | refine bS_ ?_ GE226.out) | exact HB.out)) hb); clear HO_212000; clear HO_212001; clear HO_219000; clear HO_219001; clear HO_227000; clear HO_227001; clear HO230; clear HO233; clear BK196; clear BK211; clear BK218; clear BK226; clear HB; have HO_212000 := n0_; have HO_212001 := n1_; have HO_219000 := n2_; have HO_219001 := n3_; have HO_227000 := n4_; have HO_227001 := n5_; have HO230 := n6_; have HO233 := n7_; have BK196 := n8_; have BK211 := n9_; have BK218 := n10_; have BK226 := n11_; have HB := n12_; clear n0_ n1_ n2_ n3_ n4_ n5_ n6_ n7_ n8_ n9_ n10_ n11_ n12_; (try clear hb); (try clear hb2); (try clear hk); (try clear hi)))
                  go_meet
                  case rel => exact ⟨_, (true), (by first | rfl | (simp; done) | (simp [*]; done)), H', ⟨by have := HJ12.out; first | omega | exact Nat.le_refl _⟩, ⟨by (with_reducible repeat (first | apply rA_ | apply rN_ | apply rD_)); exact rM_ HO_212000.out (fun _ hk => ⟨hk.1, ⟨hk.2.1, ⟨hk.2.2.1, ⟨hk.2.2.2.1, hk.2.2.2.2.1⟩⟩⟩⟩)⟩, ⟨by (with_reducible repeat (first | apply rA_ | apply rN_ | apply rD_)); exact rM_ HO_212001.out (fun _ hk => ⟨hk.1, ⟨hk.2.1, ⟨hk.2.2.1, ⟨hk.2.2.2.1, hk.2.2.2.2.1⟩⟩⟩⟩)⟩, ⟨by (with_reducible repeat (first | apply rA_ | apply rN_ | apply rD_)); exact rM_ HO_219000.out (fun _ hk => ⟨hk.1.1.1, ⟨hk.1.1.2.1, ⟨hk.1.1.2.2.1, ⟨hk.1.1.2.2.2.1, hk.1.1.2.2.2.2⟩⟩⟩⟩)⟩, ⟨by (with_reducible repeat (first | apply rA_ | apply rN_ | apply rD_)); exact rM_ HO_219001.out (fun _ hk => ⟨hk.1.1.1, ⟨hk.1.1.2.1, ⟨hk.1.1.2.2.1, ⟨hk.1.1.2.2.2.1, hk.1.1.2.2.2.2⟩⟩⟩⟩)⟩, ⟨by (with_reducible repeat (first | apply rA_ | apply rN_ | apply rD_)); exact rM_ HO_227000.out (fun _ hk => ⟨hk.1, ⟨hk.2.1, ⟨hk.2.2.1, ⟨hk.2.2.2.1, hk.2.2.2.2.1⟩⟩⟩⟩)⟩, ⟨by (with_reducible repeat (first | apply rA_ | apply rN_ | apply rD_)); exact rM_ HO_227001.out (fun _ hk => ⟨hk.1, ⟨hk.2.1, ⟨hk.2.2.1, ⟨hk.2.2.2.1, hk.2.2.2.2.1⟩⟩⟩⟩)⟩, ⟨by (with_reducible repeat (first | refine kN_ ?_ _ | refine kD_ ?_ | refine kA_ ?_ _)); exact BK196.out⟩, ⟨by (with_reducible repeat (first | refine kN_ ?_ _ | refine kD_ ?_ | refine kA_ ?_ _)); exact BK211.out⟩, ⟨by (with_reducible repeat (first | refine kN_ ?_ _ | refine kD_ ?_ | refine kA_ ?_ _)); exact BK218.out⟩, ⟨by (with_reducible repeat (first | refine kN_ ?_ _ | refine kD_ ?_ | refine kA_ ?_ _)); exact BK226.out⟩, ⟨by repeat (first | (with_reducible first | exact HB.out | apply bA_ | apply bN_ | apply bD_ | refine bS_ ?_ GE196.out | refine bS_ ?_ GE211.out | refine bS_ ?_ GE218.out | refine bS_ ?_ GE226.out) | exact HB.out)⟩⟩
            case rest =>
              clear HC66
              try clear c1
              try clear c2
              try clear p2
              try clear c3
              try clear c4
              try clear c5
              try clear c5b0
              try clear c6
              try clear c7
              try clear c8
              try clear c9
              try clear c13
              try clear c15
              try clear c17
              try clear c19
              try clear c24
              try clear c31
              try clear c32
              try clear c38
              try clear c39
              try clear c40
              try clear c42
              try clear c43
              try clear c44
              try clear c45
              try clear c46
              try clear c47
              try clear c49
              try clear c50
              try clear c53
              try clear c54
              try clear c55
              try clear c57
              try clear c58
              try clear c61
              try clear c64
              try clear c72
              try clear c73
              try clear c74
              try clear c77
              try clear c77b0
              try clear c79
              try clear c80
              try clear c81
              try clear c82
              try clear c84
              try clear c85
              try clear c88
              try clear c89
              try clear c90
              try clear c92
              try clear c93
              try clear hcz15_0
              try clear hcz15_1
              try clear hcz17_0
              try clear hcz17_1
              try clear hcz25_0
              try clear hcz25_1
              try clear hcz27_0
              try clear hcz27_1
              try clear hcz33_0
              try clear hcz33_1
              try clear hcz41_0
              try clear hcz41_1
              try clear hcz48_0
              try clear hcz48_1
              try clear hcz51_0
              try clear hcz51_1
              try clear hcz56_0
              try clear hcz56_1
              try clear hcz59_0
              try clear hcz59_1
              try clear hcz75_0
              try clear hcz75_1
              try clear hcz7_0
              try clear hcz7_1
              try clear hcz83_0
              try clear hcz83_1
              try clear hcz86_0
              try clear hcz86_1
              try clear hcz91_0
              try clear hcz91_1
              try clear hcz94_0
              try clear hcz94_1
              try clear hfz15_0
              try clear hfz15_1
              try clear hfz17_0
              try clear hfz17_1
              try clear hfz25_0
              try clear hfz25_1
              try clear hfz27_0
              try clear hfz27_1
              try clear hfz33_0
              try clear hfz33_1
              try clear hfz41_0
              try clear hfz41_1
              try clear hfz48_0
              try clear hfz48_1
              try clear hfz51_0
              try clear hfz51_1
              try clear hfz56_0
              try clear hfz56_1
              try clear hfz59_0
              try clear hfz59_1
              try clear hfz75_0
              try clear hfz75_1
              try clear hfz7_0
              try clear hfz7_1
              try clear hfz83_0
              try clear hfz83_1
              try clear hfz86_0
              try clear hfz86_1
              try clear hfz91_0
              try clear hfz91_1
              try clear hfz94_0
              try clear hfz94_1
              try clear p2
              obtain ⟨kq, x69_65, rfl, HA, HJ65, HO_212000, HO_212001, HO_219000, HO_219001, HO_227000, HO_227001, BK196, BK211, BK218, BK226, HB⟩ := hcut
              have hl219000_65 := (rR_ HO_219000.out).1
              rw [hl219000_65] at HO_219000
              (try simp only [hl219000_65])
              (try simp only [hl219000_65] at BK196)
              (try simp only [hl219000_65] at BK211)
              (try simp only [hl219000_65] at BK218)
              (try simp only [hl219000_65] at BK226)
              (try simp only [hl219000_65] at HO_212000)
              (try simp only [hl219000_65] at HO_212001)
              (try simp only [hl219000_65] at HO_219001)
              (try simp only [hl219000_65] at HO_227000)
              (try simp only [hl219000_65] at HO_227001)
              have hl219001_65 := (rR_ HO_219001.out).1
              rw [hl219001_65] at HO_219001
              (try simp only [hl219001_65])
              (try simp only [hl219001_65] at BK196)
              (try simp only [hl219001_65] at BK211)
              (try simp only [hl219001_65] at BK218)
              (try simp only [hl219001_65] at BK226)
              (try simp only [hl219001_65] at HO_212000)
              (try simp only [hl219001_65] at HO_212001)
              (try simp only [hl219001_65] at HO_219000)
              (try simp only [hl219001_65] at HO_227000)
              (try simp only [hl219001_65] at HO_227001)
              cases kq with
              | zero => exact absurd HA.out (by simp [laws_FnExactAddFloor.j1])
              | succ kj65 =>
                have H := HA.out
                clear HA
                simp only [laws_FnExactAddFloor.j1] at H
                by_cases c96 : x69_65 = true
                · subst c96
                  have H1 : (some false) = some r := by rw [if_pos rfl] at H; exact H
                  clear H
                  have H := H1
                  clear H1
                  obtain rfl := Option.some.inj H
                  go_wp2
                  go_ret
                  exact ⟨by first | rfl | (simp [errW_none, errW_some] <;> rfl) | (simp [*, errW_none, errW_some] <;> rfl), by repeat (first | (with_reducible first | exact HB.out | apply bA_ | apply bN_ | apply bD_ | refine bS_ ?_ GE196.out | refine bS_ ?_ GE211.out | refine bS_ ?_ GE218.out | refine bS_ ?_ GE226.out) | exact HB.out)⟩
                · replace c96 := Bool.eq_false_iff.mpr c96
                  subst c96
                  have H1 : ((laws_markHouse.f kj65 t219 t222 1).bind fun bt239 => ((laws_heldHouse.f kj65 bt239.2.1 bt239.2.2 1).bind fun t242 => (if t242 < 0 then (some false) else (if t242 = bt239.1 then ((laws_toHouse.f kj65 l0_0 l0_1).bind fun bt243 => ((impl_AddFloor.f kj65 bt243.1 bt243.2 a1 a2).bind fun bt249 => ((laws_eqHouse.f kj65 bt249.1 bt249.2.1 t204 t207).bind fun t257 => (if t257 = true then (laws_FnExactAddFloor.j2 kj65 bt239.1 (bt249.2.2 != t210) bt239.2.1 bt239.2.2) else (laws_FnExactAddFloor.j2 kj65 bt239.1 true bt239.2.1 bt239.2.2))))) else (some false))))) = some r := by rw [if_neg (show ¬ (false = true) by decide)] at H; exact H
                  clear H
                  have H := H1
                  clear H1
                  replace H := Option.bind_eq_some_iff.mp H
                  obtain ⟨⟨t239, t240, t241⟩, A970, H⟩ := H
                  replace H : ((laws_heldHouse.f kj65 t240 t241 1).bind fun t242 => (if t242 < 0 then (some false) else (if t242 = t239 then ((laws_toHouse.f kj65 l0_0 l0_1).bind fun bt243 => ((impl_AddFloor.f kj65 bt243.1 bt243.2 a1 a2).bind fun bt249 => ((laws_eqHouse.f kj65 bt249.1 bt249.2.1 t204 t207).bind fun t257 => (if t257 = true then (laws_FnExactAddFloor.j2 kj65 t239 (bt249.2.2 != t210) t240 t241) else (laws_FnExactAddFloor.j2 kj65 t239 true t240 t241))))) else (some false)))) = some r := H
                  have A97 := Aside0.mk A970
                  clear A970
                  replace H := Option.bind_eq_some_iff.mp H
                  obtain ⟨t242, A980, H⟩ := H
                  replace H : (if t242 < 0 then (some false) else (if t242 = t239 then ((laws_toHouse.f kj65 l0_0 l0_1).bind fun bt243 => ((impl_AddFloor.f kj65 bt243.1 bt243.2 a1 a2).bind fun bt249 => ((laws_eqHouse.f kj65 bt249.1 bt249.2.1 t204 t207).bind fun t257 => (if t257 = true then (laws_FnExactAddFloor.j2 kj65 t239 (bt249.2.2 != t210) t240 t241) else (laws_FnExactAddFloor.j2 kj65 t239 true t240 t241))))) else (some false))) = some r := H
                  have A98 := Aside0.mk A980
                  clear A980
                  by_cases c99 : t242 < 0
                  · rw [if_pos c99] at H
                    have c99b0 : decide (t242 < 0) = true := decide_eq_true c99
                    clear c99
                    obtain rfl := Option.some.inj H
                    have hnb100 := NB226_196.out
                    have hnc100 := NB196_226.out
                    have hnb101 := NB226_211.out
                    have hnc101 := NB211_226.out
                    have hnb102 := NB226_218.out
                    have hnc102 := NB218_226.out
                    have hcz103_0 : wc.cell? ⟨gb226, 0, none⟩ = some (.slice Ao37 t219.length co37) := (blk_cell BK226.out 0).trans rfl
                    have hcz103_1 : wc.cell? ⟨gb226, 1, none⟩ = some (.slice Ao42 t222.length co42) := (blk_cell BK226.out 1).trans rfl
                    have hfz103_0 := blk_frozen BK226.out 0
                    have hfz103_1 := blk_frozen BK226.out 1
                    go_wp2_with (first | ((with_reducible refine gate_callee (f := 39) rfl ?_); refine goesL_ (some 72) rfl rfl Try.func39 (by kernel_rfl) rfl #[.agg #[.slice Ao37 t219.length co37, .slice Ao42 t222.length co42], .int .i64 1] rfl (by (try simp only [List.map_toArray, List.map_cons, List.map_nil]); first | done | rfl | (simp only [List.length_drop, List.length_take]; rfl)) ?_; (with_reducible refine (laws_markHouse.calls kj65 (fun k_ => some k_ = (.slice Ao37 t219.length co37 : Value).ownBlock) (.slice Ao37 t219.length co37) t219 (fun k_ => some k_ = (.slice Ao42 t222.length co42 : Value).ownBlock) (.slice Ao42 t222.length co42) t222 1 t239 t240 t241 w _ ?side1 ?side2 ?side3 ?side4 ?side5 A97.out).mono ?_); (case side1 => repeat (first | (with_reducible first | exact HB.out | apply bA_ | apply bN_ | apply bD_ | refine bS_ ?_ GE196.out | refine bS_ ?_ GE211.out | refine bS_ ?_ GE218.out | refine bS_ ?_ GE226.out) | exact HB.out)); (case side2 => exact Kd.R_tight rfl HO_227000.out); (case side3 => exact fun k_ e_ => (HO_227000.out.1 k_ e_.symm).2.2.2.2); (case side4 => exact Kd.R_tight rfl HO_227001.out); (case side5 => exact fun k_ e_ => (HO_227001.out.1 k_ e_.symm).2.2.2.2); rintro e w104 ⟨rfl, hy0, hy1, hb, hkp⟩; refine ⟨_, rfl, ?_⟩; have n0_ := Aside0.mk (rM_ (ok' := fun k_ => some k_ ≠ (.slice Ao26 t207.length co26 : Value).ownBlock ∧ some k_ ≠ (.slice Ao30 t236.length co30 : Value).ownBlock ∧ some k_ ≠ (.slice Ao34 t237.length co34 : Value).ownBlock ∧ some k_ ≠ (.slice Ao37 t219.length co37 : Value).ownBlock ∧ some k_ ≠ (.slice Ao42 t222.length co42 : Value).ownBlock) (Kd.R_keptB (HO_212000.out) hkp (fun k_ hk_ hs_ => Or.elim hs_ (fun e_ => (hk_.2.2.2.1) e_) (fun e_ => (hk_.2.2.2.2) e_))) (fun k_ hk_ => ⟨hk_.1.1, hk_.1.2.1, hk_.1.2.2.1, hk_.1.2.2.2.1, hk_.1.2.2.2.2⟩)); have n1_ := Aside0.mk (rM_ (ok' := fun k_ => some k_ ≠ (.slice Ao23 t204.length co23 : Value).ownBlock ∧ some k_ ≠ (.slice Ao30 t236.length co30 : Value).ownBlock ∧ some k_ ≠ (.slice Ao34 t237.length co34 : Value).ownBlock ∧ some k_ ≠ (.slice Ao37 t219.length co37 : Value).ownBlock ∧ some k_ ≠ (.slice Ao42 t222.length co42 : Value).ownBlock) (Kd.R_keptB (HO_212001.out) hkp (fun k_ hk_ hs_ => Or.elim hs_ (fun e_ => (hk_.2.2.2.1) e_) (fun e_ => (hk_.2.2.2.2) e_))) (fun k_ hk_ => ⟨hk_.1.1, hk_.1.2.1, hk_.1.2.2.1, hk_.1.2.2.2.1, hk_.1.2.2.2.2⟩)); have n2_ := Aside0.mk (rM_ (ok' := fun k_ => some k_ ≠ (.slice Ao23 t204.length co23 : Value).ownBlock ∧ some k_ ≠ (.slice Ao26 t207.length co26 : Value).ownBlock ∧ some k_ ≠ (.slice Ao34 t237.length co34 : Value).ownBlock ∧ some k_ ≠ (.slice Ao37 t219.length co37 : Value).ownBlock ∧ some k_ ≠ (.slice Ao42 t222.length co42 : Value).ownBlock) (Kd.R_keptB (HO_219000.out) hkp (fun k_ hk_ hs_ => Or.elim hs_ (fun e_ => (hk_.2.2.2.1) e_) (fun e_ => (hk_.2.2.2.2) e_))) (fun k_ hk_ => ⟨hk_.1.1, hk_.1.2.1, hk_.1.2.2.1, hk_.1.2.2.2.1, hk_.1.2.2.2.2⟩)); have n3_ := Aside0.mk (rM_ (ok' := fun k_ => some k_ ≠ (.slice Ao23 t204.length co23 : Value).ownBlock ∧ some k_ ≠ (.slice Ao26 t207.length co26 : Value).ownBlock ∧ some k_ ≠ (.slice Ao30 t236.length co30 : Value).ownBlock ∧ some k_ ≠ (.slice Ao37 t219.length co37 : Value).ownBlock ∧ some k_ ≠ (.slice Ao42 t222.length co42 : Value).ownBlock) (Kd.R_keptB (HO_219001.out) hkp (fun k_ hk_ hs_ => Or.elim hs_ (fun e_ => (hk_.2.2.2.1) e_) (fun e_ => (hk_.2.2.2.2) e_))) (fun k_ hk_ => ⟨hk_.1.1, hk_.1.2.1, hk_.1.2.2.1, hk_.1.2.2.2.1, hk_.1.2.2.2.2⟩)); have n4_ := Aside0.mk (Kd.R_reok rfl hy0 (fun k_ e_ => HO_227000.out.1 k_ e_)); have n5_ := Aside0.mk (Kd.R_reok rfl hy1 (fun k_ e_ => HO_227001.out.1 k_ e_)); have n6_ := Aside0.mk (blk_kept (by (with_reducible repeat (first | refine kN_ ?_ _ | refine kD_ ?_ | refine kA_ ?_ _)); exact BK196.out) hkp (fun hs_ => Or.elim hs_ (fun e_ => (fun e_ => (Kd.R_ne HO_227000.out BK196.out (by decide)) e_) e_) (fun e_ => (fun e_ => (Kd.R_ne HO_227001.out BK196.out (by decide)) e_) e_))); have n7_ := Aside0.mk (blk_kept (by (with_reducible repeat (first | refine kN_ ?_ _ | refine kD_ ?_ | refine kA_ ?_ _)); exact BK211.out) hkp (fun hs_ => Or.elim hs_ (fun e_ => (fun e_ => (Kd.R_ne HO_227000.out BK211.out (by decide)) e_) e_) (fun e_ => (fun e_ => (Kd.R_ne HO_227001.out BK211.out (by decide)) e_) e_))); have n8_ := Aside0.mk (blk_kept (by (with_reducible repeat (first | refine kN_ ?_ _ | refine kD_ ?_ | refine kA_ ?_ _)); exact BK218.out) hkp (fun hs_ => Or.elim hs_ (fun e_ => (fun e_ => (Kd.R_ne HO_227000.out BK218.out (by decide)) e_) e_) (fun e_ => (fun e_ => (Kd.R_ne HO_227001.out BK218.out (by decide)) e_) e_))); have n9_ := Aside0.mk (blk_kept (by (with_reducible repeat (first | refine kN_ ?_ _ | refine kD_ ?_ | refine kA_ ?_ _)); exact BK226.out) hkp (fun hs_ => Or.elim hs_ (fun e_ => (fun e_ => (Kd.R_ne HO_227000.out BK226.out (by decide)) e_) e_) (fun e_ => (fun e_ => (Kd.R_ne HO_227001.out BK226.out (by decide)) e_) e_))); have n10_ := Aside0.mk (hb); clear HO_212000; clear HO_212001; clear HO_219000; clear HO_219001; clear HO_227000; clear HO_227001; clear BK196; clear BK211; clear BK218; clear BK226; clear HB; have HO_212000 := n0_; have HO_212001 := n1_; have HO_219000 := n2_; have HO_219001 := n3_; have HO_227000 := n4_; have HO_227001 := n5_; have BK196 := n6_; have BK211 := n7_; have BK218 := n8_; have BK226 := n9_; have HB := n10_; clear n0_ n1_ n2_ n3_ n4_ n5_ n6_ n7_ n8_ n9_ n10_; (try clear hb); (try clear hkp); (try clear hy0); (try clear hy1); have hcz105_0 : w104.cell? ⟨gb226, 0, none⟩ = some (.slice Ao37 t219.length co37) := (blk_cell BK226.out 0).trans rfl; have hcz105_1 : w104.cell? ⟨gb226, 1, none⟩ = some (.slice Ao42 t222.length co42) := (blk_cell BK226.out 1).trans rfl; have hfz105_0 := blk_frozen BK226.out 0; have hfz105_1 := blk_frozen BK226.out 1) | ((with_reducible refine gate_callee (f := 44) rfl ?_); refine goesL_ (some 75) rfl rfl Try.func44 (by kernel_rfl) rfl #[.agg #[.slice Ao37 t240.length co37, .slice Ao42 t241.length co42], .int .i64 1] rfl (by (try simp only [List.map_toArray, List.map_cons, List.map_nil]); first | done | (rw [show t240.length = t219.length from (rR_ HO_227000.out).1.symm, show t241.length = t222.length from (rR_ HO_227001.out).1.symm] <;> rfl) | rfl | (simp only [List.length_drop, List.length_take]; rfl)) ?_; (with_reducible refine (laws_heldHouse.calls kj65 _ _ t240 _ _ t241 1 t242 _ ?side1 ?side2 ?side3 ?side4 A98.out).mono ?_); (case side1 => repeat (first | exact (rR_ HO_227000.out).2.2 | (with_reducible refine Kd.C_alloc ?_ _) | (with_reducible refine Kd.C_drewN ?_ _) | (with_reducible refine Kd.C_drew ?_))); (case side2 => rw [show t240.length = t219.length from (rR_ HO_227000.out).1.symm]; exact (rR_ HO_227000.out).2.1); (case side3 => repeat (first | exact (rR_ HO_227001.out).2.2 | (with_reducible refine Kd.C_alloc ?_ _) | (with_reducible refine Kd.C_drewN ?_ _) | (with_reducible refine Kd.C_drew ?_))); (case side4 => rw [show t241.length = t222.length from (rR_ HO_227001.out).1.symm]; exact (rR_ HO_227001.out).2.1); rintro e w106 ⟨rfl, hb⟩; refine ⟨_, rfl, ?_⟩; have n0_ := Aside0.mk (rB_ (by (with_reducible repeat (first | apply rA_ | apply rN_ | apply rD_)); exact HO_212000.out) hb); have n1_ := Aside0.mk (rB_ (by (with_reducible repeat (first | apply rA_ | apply rN_ | apply rD_)); exact HO_212001.out) hb); have n2_ := Aside0.mk (rB_ (by (with_reducible repeat (first | apply rA_ | apply rN_ | apply rD_)); exact HO_219000.out) hb); have n3_ := Aside0.mk (rB_ (by (with_reducible repeat (first | apply rA_ | apply rN_ | apply rD_)); exact HO_219001.out) hb); have n4_ := Aside0.mk (rB_ (by (with_reducible repeat (first | apply rA_ | apply rN_ | apply rD_)); exact HO_227000.out) hb); have n5_ := Aside0.mk (rB_ (by (with_reducible repeat (first | apply rA_ | apply rN_ | apply rD_)); exact HO_227001.out) hb); have n6_ := Aside0.mk (blk_below (g := gb196) (o := .cells #[.slice A0_0 l0_0.length c0_0, .slice A0_1 l0_1.length c0_1] 24 (0, 0)) (by (with_reducible repeat (first | refine kN_ ?_ _ | refine kD_ ?_ | refine kA_ ?_ _)); exact BK196.out) hb); have n7_ := Aside0.mk (blk_below (g := gb211) (o := .cells #[.slice Ao23 t204.length co23, .slice Ao26 t207.length co26] 27 (0, 0)) (by (with_reducible repeat (first | refine kN_ ?_ _ | refine kD_ ?_ | refine kA_ ?_ _)); exact BK211.out) hb); have n8_ := Aside0.mk (blk_below (g := gb218) (o := .cells #[.slice Ao30 t236.length co30, .slice Ao34 t237.length co34] 27 (0, 0)) (by (with_reducible repeat (first | refine kN_ ?_ _ | refine kD_ ?_ | refine kA_ ?_ _)); exact BK218.out) hb); have n9_ := Aside0.mk (blk_below (g := gb226) (o := .cells #[.slice Ao37 t219.length co37, .slice Ao42 t222.length co42] 27 (0, 0)) (by (with_reducible repeat (first | refine kN_ ?_ _ | refine kD_ ?_ | refine kA_ ?_ _)); exact BK226.out) hb); have n10_ := Aside0.mk (below_step (by repeat (first | (with_reducible first | exact HB.out | apply bA_ | apply bN_ | apply bD_ | refine bS_ ?_ GE196.out | refine bS_ ?_ GE211.out | refine bS_ ?_ GE218.out | refine bS_ ?_ GE226.out) | exact HB.out)) hb); clear HO_212000; clear HO_212001; clear HO_219000; clear HO_219001; clear HO_227000; clear HO_227001; clear BK196; clear BK211; clear BK218; clear BK226; clear HB; have HO_212000 := n0_; have HO_212001 := n1_; have HO_219000 := n2_; have HO_219001 := n3_; have HO_227000 := n4_; have HO_227001 := n5_; have BK196 := n6_; have BK211 := n7_; have BK218 := n8_; have BK226 := n9_; have HB := n10_; clear n0_ n1_ n2_ n3_ n4_ n5_ n6_ n7_ n8_ n9_ n10_; (try clear hb); (try clear hb2); (try clear hk); (try clear hi)))
                    go_ret
                    exact ⟨by first | rfl | (simp [errW_none, errW_some] <;> rfl) | (simp [*, errW_none, errW_some] <;> rfl), by repeat (first | (with_reducible first | exact HB.out | apply bA_ | apply bN_ | apply bD_ | refine bS_ ?_ GE196.out | refine bS_ ?_ GE211.out | refine bS_ ?_ GE218.out | refine bS_ ?_ GE226.out) | exact HB.out)⟩
                  · rw [if_neg c99] at H
                    have c99b0 : decide (t242 < 0) = false := decide_eq_false c99
                    clear c99
                    by_cases c107 : t242 = t239
                    · rw [if_pos c107] at H
                      have c107b0 : (t242 == t239) = true := beq_iff_eq.mpr c107
                      have c107b1 : (t242 != t239) = false := bne_eq_false_iff_eq.mpr c107
                      clear c107
                      replace H := Option.bind_eq_some_iff.mp H
                      obtain ⟨⟨t243, t246⟩, A1080, H⟩ := H
                      replace H : ((impl_AddFloor.f kj65 t243 t246 a1 a2).bind fun bt249 => ((laws_eqHouse.f kj65 bt249.1 bt249.2.1 t204 t207).bind fun t257 => (if t257 = true then (laws_FnExactAddFloor.j2 kj65 t239 (bt249.2.2 != t210) t240 t241) else (laws_FnExactAddFloor.j2 kj65 t239 true t240 t241)))) = some r := H
                      have A108 := Aside0.mk A1080
                      clear A1080
                      replace H := Option.bind_eq_some_iff.mp H
                      obtain ⟨⟨t249, t252, t255⟩, A1090, H⟩ := H
                      replace H : ((laws_eqHouse.f kj65 t249 t252 t204 t207).bind fun t257 => (if t257 = true then (laws_FnExactAddFloor.j2 kj65 t239 (t255 != t210) t240 t241) else (laws_FnExactAddFloor.j2 kj65 t239 true t240 t241))) = some r := H
                      have A109 := Aside0.mk A1090
                      clear A1090
                      have HC110 := Aside0.mk H
                      clear H
                      have hnb111 := NB226_196.out
                      have hnc111 := NB196_226.out
                      have hnb112 := NB226_211.out
                      have hnc112 := NB211_226.out
                      have hnb113 := NB226_218.out
                      have hnc113 := NB218_226.out
                      have hcz114_0 : wc.cell? ⟨gb226, 0, none⟩ = some (.slice Ao37 t219.length co37) := (blk_cell BK226.out 0).trans rfl
                      have hcz114_1 : wc.cell? ⟨gb226, 1, none⟩ = some (.slice Ao42 t222.length co42) := (blk_cell BK226.out 1).trans rfl
                      have hfz114_0 := blk_frozen BK226.out 0
                      have hfz114_1 := blk_frozen BK226.out 1
                      go_upto_region 25 with (first | ((with_reducible refine gate_callee (f := 39) rfl ?_); refine goesL_ (some 72) rfl rfl Try.func39 (by kernel_rfl) rfl #[.agg #[.slice Ao37 t219.length co37, .slice Ao42 t222.length co42], .int .i64 1] rfl (by (try simp only [List.map_toArray, List.map_cons, List.map_nil]); first | done | rfl | (simp only [List.length_drop, List.length_take]; rfl)) ?_; (with_reducible refine (laws_markHouse.calls kj65 (fun k_ => some k_ = (.slice Ao37 t219.length co37 : Value).ownBlock) (.slice Ao37 t219.length co37) t219 (fun k_ => some k_ = (.slice Ao42 t222.length co42 : Value).ownBlock) (.slice Ao42 t222.length co42) t222 1 t239 t240 t241 w _ ?side1 ?side2 ?side3 ?side4 ?side5 A97.out).mono ?_); (case side1 => repeat (first | (with_reducible first | exact HB.out | apply bA_ | apply bN_ | apply bD_ | refine bS_ ?_ GE196.out | refine bS_ ?_ GE211.out | refine bS_ ?_ GE218.out | refine bS_ ?_ GE226.out) | exact HB.out)); (case side2 => exact Kd.R_tight rfl HO_227000.out); (case side3 => exact fun k_ e_ => (HO_227000.out.1 k_ e_.symm).2.2.2.2); (case side4 => exact Kd.R_tight rfl HO_227001.out); (case side5 => exact fun k_ e_ => (HO_227001.out.1 k_ e_.symm).2.2.2.2); rintro e w115 ⟨rfl, hy0, hy1, hb, hkp⟩; refine ⟨_, rfl, ?_⟩; have n0_ := Aside0.mk (rM_ (ok' := fun k_ => some k_ ≠ (.slice Ao26 t207.length co26 : Value).ownBlock ∧ some k_ ≠ (.slice Ao30 t236.length co30 : Value).ownBlock ∧ some k_ ≠ (.slice Ao34 t237.length co34 : Value).ownBlock ∧ some k_ ≠ (.slice Ao37 t219.length co37 : Value).ownBlock ∧ some k_ ≠ (.slice Ao42 t222.length co42 : Value).ownBlock) (Kd.R_keptB (HO_212000.out) hkp (fun k_ hk_ hs_ => Or.elim hs_ (fun e_ => (hk_.2.2.2.1) e_) (fun e_ => (hk_.2.2.2.2) e_))) (fun k_ hk_ => ⟨hk_.1.1, hk_.1.2.1, hk_.1.2.2.1, hk_.1.2.2.2.1, hk_.1.2.2.2.2⟩)); have n1_ := Aside0.mk (rM_ (ok' := fun k_ => some k_ ≠ (.slice Ao23 t204.length co23 : Value).ownBlock ∧ some k_ ≠ (.slice Ao30 t236.length co30 : Value).ownBlock ∧ some k_ ≠ (.slice Ao34 t237.length co34 : Value).ownBlock ∧ some k_ ≠ (.slice Ao37 t219.length co37 : Value).ownBlock ∧ some k_ ≠ (.slice Ao42 t222.length co42 : Value).ownBlock) (Kd.R_keptB (HO_212001.out) hkp (fun k_ hk_ hs_ => Or.elim hs_ (fun e_ => (hk_.2.2.2.1) e_) (fun e_ => (hk_.2.2.2.2) e_))) (fun k_ hk_ => ⟨hk_.1.1, hk_.1.2.1, hk_.1.2.2.1, hk_.1.2.2.2.1, hk_.1.2.2.2.2⟩)); have n2_ := Aside0.mk (rM_ (ok' := fun k_ => some k_ ≠ (.slice Ao23 t204.length co23 : Value).ownBlock ∧ some k_ ≠ (.slice Ao26 t207.length co26 : Value).ownBlock ∧ some k_ ≠ (.slice Ao34 t237.length co34 : Value).ownBlock ∧ some k_ ≠ (.slice Ao37 t219.length co37 : Value).ownBlock ∧ some k_ ≠ (.slice Ao42 t222.length co42 : Value).ownBlock) (Kd.R_keptB (HO_219000.out) hkp (fun k_ hk_ hs_ => Or.elim hs_ (fun e_ => (hk_.2.2.2.1) e_) (fun e_ => (hk_.2.2.2.2) e_))) (fun k_ hk_ => ⟨hk_.1.1, hk_.1.2.1, hk_.1.2.2.1, hk_.1.2.2.2.1, hk_.1.2.2.2.2⟩)); have n3_ := Aside0.mk (rM_ (ok' := fun k_ => some k_ ≠ (.slice Ao23 t204.length co23 : Value).ownBlock ∧ some k_ ≠ (.slice Ao26 t207.length co26 : Value).ownBlock ∧ some k_ ≠ (.slice Ao30 t236.length co30 : Value).ownBlock ∧ some k_ ≠ (.slice Ao37 t219.length co37 : Value).ownBlock ∧ some k_ ≠ (.slice Ao42 t222.length co42 : Value).ownBlock) (Kd.R_keptB (HO_219001.out) hkp (fun k_ hk_ hs_ => Or.elim hs_ (fun e_ => (hk_.2.2.2.1) e_) (fun e_ => (hk_.2.2.2.2) e_))) (fun k_ hk_ => ⟨hk_.1.1, hk_.1.2.1, hk_.1.2.2.1, hk_.1.2.2.2.1, hk_.1.2.2.2.2⟩)); have n4_ := Aside0.mk (Kd.R_reok rfl hy0 (fun k_ e_ => HO_227000.out.1 k_ e_)); have n5_ := Aside0.mk (Kd.R_reok rfl hy1 (fun k_ e_ => HO_227001.out.1 k_ e_)); have n6_ := Aside0.mk (blk_kept (by (with_reducible repeat (first | refine kN_ ?_ _ | refine kD_ ?_ | refine kA_ ?_ _)); exact BK196.out) hkp (fun hs_ => Or.elim hs_ (fun e_ => (fun e_ => (Kd.R_ne HO_227000.out BK196.out (by decide)) e_) e_) (fun e_ => (fun e_ => (Kd.R_ne HO_227001.out BK196.out (by decide)) e_) e_))); have n7_ := Aside0.mk (blk_kept (by (with_reducible repeat (first | refine kN_ ?_ _ | refine kD_ ?_ | refine kA_ ?_ _)); exact BK211.out) hkp (fun hs_ => Or.elim hs_ (fun e_ => (fun e_ => (Kd.R_ne HO_227000.out BK211.out (by decide)) e_) e_) (fun e_ => (fun e_ => (Kd.R_ne HO_227001.out BK211.out (by decide)) e_) e_))); have n8_ := Aside0.mk (blk_kept (by (with_reducible repeat (first | refine kN_ ?_ _ | refine kD_ ?_ | refine kA_ ?_ _)); exact BK218.out) hkp (fun hs_ => Or.elim hs_ (fun e_ => (fun e_ => (Kd.R_ne HO_227000.out BK218.out (by decide)) e_) e_) (fun e_ => (fun e_ => (Kd.R_ne HO_227001.out BK218.out (by decide)) e_) e_))); have n9_ := Aside0.mk (blk_kept (by (with_reducible repeat (first | refine kN_ ?_ _ | refine kD_ ?_ | refine kA_ ?_ _)); exact BK226.out) hkp (fun hs_ => Or.elim hs_ (fun e_ => (fun e_ => (Kd.R_ne HO_227000.out BK226.out (by decide)) e_) e_) (fun e_ => (fun e_ => (Kd.R_ne HO_227001.out BK226.out (by decide)) e_) e_))); have n10_ := Aside0.mk (hb); clear HO_212000; clear HO_212001; clear HO_219000; clear HO_219001; clear HO_227000; clear HO_227001; clear BK196; clear BK211; clear BK218; clear BK226; clear HB; have HO_212000 := n0_; have HO_212001 := n1_; have HO_219000 := n2_; have HO_219001 := n3_; have HO_227000 := n4_; have HO_227001 := n5_; have BK196 := n6_; have BK211 := n7_; have BK218 := n8_; have BK226 := n9_; have HB := n10_; clear n0_ n1_ n2_ n3_ n4_ n5_ n6_ n7_ n8_ n9_ n10_; (try clear hb); (try clear hkp); (try clear hy0); (try clear hy1); have hcz116_0 : w115.cell? ⟨gb226, 0, none⟩ = some (.slice Ao37 t219.length co37) := (blk_cell BK226.out 0).trans rfl; have hcz116_1 : w115.cell? ⟨gb226, 1, none⟩ = some (.slice Ao42 t222.length co42) := (blk_cell BK226.out 1).trans rfl; have hfz116_0 := blk_frozen BK226.out 0; have hfz116_1 := blk_frozen BK226.out 1) | ((with_reducible refine gate_callee (f := 44) rfl ?_); refine goesL_ (some 75) rfl rfl Try.func44 (by kernel_rfl) rfl #[.agg #[.slice Ao37 t240.length co37, .slice Ao42 t241.length co42], .int .i64 1] rfl (by (try simp only [List.map_toArray, List.map_cons, List.map_nil]); first | done | (rw [show t240.length = t219.length from (rR_ HO_227000.out).1.symm, show t241.length = t222.length from (rR_ HO_227001.out).1.symm] <;> rfl) | rfl | (simp only [List.length_drop, List.length_take]; rfl)) ?_; (with_reducible refine (laws_heldHouse.calls kj65 _ _ t240 _ _ t241 1 t242 _ ?side1 ?side2 ?side3 ?side4 A98.out).mono ?_); (case side1 => repeat (first | exact (rR_ HO_227000.out).2.2 | (with_reducible refine Kd.C_alloc ?_ _) | (with_reducible refine Kd.C_drewN ?_ _) | (with_reducible refine Kd.C_drew ?_))); (case side2 => rw [show t240.length = t219.length from (rR_ HO_227000.out).1.symm]; exact (rR_ HO_227000.out).2.1); (case side3 => repeat (first | exact (rR_ HO_227001.out).2.2 | (with_reducible refine Kd.C_alloc ?_ _) | (with_reducible refine Kd.C_drewN ?_ _) | (with_reducible refine Kd.C_drew ?_))); (case side4 => rw [show t241.length = t222.length from (rR_ HO_227001.out).1.symm]; exact (rR_ HO_227001.out).2.1); rintro e w117 ⟨rfl, hb⟩; refine ⟨_, rfl, ?_⟩; have n0_ := Aside0.mk (rB_ (by (with_reducible repeat (first | apply rA_ | apply rN_ | apply rD_)); exact HO_212000.out) hb); have n1_ := Aside0.mk (rB_ (by (with_reducible repeat (first | apply rA_ | apply rN_ | apply rD_)); exact HO_212001.out) hb); have n2_ := Aside0.mk (rB_ (by (with_reducible repeat (first | apply rA_ | apply rN_ | apply rD_)); exact HO_219000.out) hb); have n3_ := Aside0.mk (rB_ (by (with_reducible repeat (first | apply rA_ | apply rN_ | apply rD_)); exact HO_219001.out) hb); have n4_ := Aside0.mk (rB_ (by (with_reducible repeat (first | apply rA_ | apply rN_ | apply rD_)); exact HO_227000.out) hb); have n5_ := Aside0.mk (rB_ (by (with_reducible repeat (first | apply rA_ | apply rN_ | apply rD_)); exact HO_227001.out) hb); have n6_ := Aside0.mk (blk_below (g := gb196) (o := .cells #[.slice A0_0 l0_0.length c0_0, .slice A0_1 l0_1.length c0_1] 24 (0, 0)) (by (with_reducible repeat (first | refine kN_ ?_ _ | refine kD_ ?_ | refine kA_ ?_ _)); exact BK196.out) hb); have n7_ := Aside0.mk (blk_below (g := gb211) (o := .cells #[.slice Ao23 t204.length co23, .slice Ao26 t207.length co26] 27 (0, 0)) (by (with_reducible repeat (first | refine kN_ ?_ _ | refine kD_ ?_ | refine kA_ ?_ _)); exact BK211.out) hb); have n8_ := Aside0.mk (blk_below (g := gb218) (o := .cells #[.slice Ao30 t236.length co30, .slice Ao34 t237.length co34] 27 (0, 0)) (by (with_reducible repeat (first | refine kN_ ?_ _ | refine kD_ ?_ | refine kA_ ?_ _)); exact BK218.out) hb); have n9_ := Aside0.mk (blk_below (g := gb226) (o := .cells #[.slice Ao37 t219.length co37, .slice Ao42 t222.length co42] 27 (0, 0)) (by (with_reducible repeat (first | refine kN_ ?_ _ | refine kD_ ?_ | refine kA_ ?_ _)); exact BK226.out) hb); have n10_ := Aside0.mk (below_step (by repeat (first | (with_reducible first | exact HB.out | apply bA_ | apply bN_ | apply bD_ | refine bS_ ?_ GE196.out | refine bS_ ?_ GE211.out | refine bS_ ?_ GE218.out | refine bS_ ?_ GE226.out) | exact HB.out)) hb); clear HO_212000; clear HO_212001; clear HO_219000; clear HO_219001; clear HO_227000; clear HO_227001; clear BK196; clear BK211; clear BK218; clear BK226; clear HB; have HO_212000 := n0_; have HO_212001 := n1_; have HO_219000 := n2_; have HO_219001 := n3_; have HO_227000 := n4_; have HO_227001 := n5_; have BK196 := n6_; have BK211 := n7_; have BK218 := n8_; have BK226 := n9_; have HB := n10_; clear n0_ n1_ n2_ n3_ n4_ n5_ n6_ n7_ n8_ n9_ n10_; (try clear hb); (try clear hb2); (try clear hk); (try clear hi); have hnb118 := NB196_211.out; have hnc118 := NB211_196.out; have hnb119 := NB196_218.out; have hnc119 := NB218_196.out; have hcz120_0 : w117.cell? ⟨gb196, 0, none⟩ = some (.slice A0_0 l0_0.length c0_0) := (blk_cell BK196.out 0).trans rfl; have hcz120_1 : w117.cell? ⟨gb196, 1, none⟩ = some (.slice A0_1 l0_1.length c0_1) := (blk_cell BK196.out 1).trans rfl; have hfz120_0 := blk_frozen BK196.out 0; have hfz120_1 := blk_frozen BK196.out 1) | ((with_reducible refine gate_callee (f := 17) rfl ?_); refine goesL_ (some 83) rfl rfl Try.func17 (by kernel_rfl) rfl #[.agg #[.slice A0_0 l0_0.length c0_0, .slice A0_1 l0_1.length c0_1]] rfl (by (try simp only [List.map_toArray, List.map_cons, List.map_nil]); first | done | rfl | (simp only [List.length_drop, List.length_take]; rfl)) ?_; (with_reducible refine (laws_toHouse.calls kj65 _ _ l0_0 _ _ l0_1 t243 t246 _ ?side1 ?side2 ?side3 ?side4 A108.out).mono ?_); (case side1 => repeat (first | exact (Kd.C_below HR0_0.out HB.out) | (with_reducible refine Kd.C_alloc ?_ _) | (with_reducible refine Kd.C_drewN ?_ _) | (with_reducible refine Kd.C_drew ?_))); (case side2 => exact HC0_0.out); (case side3 => repeat (first | exact (Kd.C_below HR0_1.out HB.out) | (with_reducible refine Kd.C_alloc ?_ _) | (with_reducible refine Kd.C_drewN ?_ _) | (with_reducible refine Kd.C_drew ?_))); (case side4 => exact HC0_1.out); rintro e w121 ⟨v244, v247, rfl, ho0, ho1, hb⟩; refine ⟨_, rfl, ?_⟩; have n0_ := Aside0.mk (rM_ (Kd.R_told (Kd.R_told (Kd.R_old (by (with_reducible repeat (first | apply rA_ | apply rN_ | apply rD_)); exact HO_212000.out) hb) (Kd.R_base ho0)) (Kd.R_base ho1)) (fun _ h_ => h_.1)); have n1_ := Aside0.mk (rM_ (Kd.R_told (Kd.R_told (Kd.R_old (by (with_reducible repeat (first | apply rA_ | apply rN_ | apply rD_)); exact HO_212001.out) hb) (Kd.R_base ho0)) (Kd.R_base ho1)) (fun _ h_ => h_.1)); have n2_ := Aside0.mk (rM_ (Kd.R_told (Kd.R_told (Kd.R_old (by (with_reducible repeat (first | apply rA_ | apply rN_ | apply rD_)); exact HO_219000.out) hb) (Kd.R_base ho0)) (Kd.R_base ho1)) (fun _ h_ => h_.1)); have n3_ := Aside0.mk (rM_ (Kd.R_told (Kd.R_told (Kd.R_old (by (with_reducible repeat (first | apply rA_ | apply rN_ | apply rD_)); exact HO_219001.out) hb) (Kd.R_base ho0)) (Kd.R_base ho1)) (fun _ h_ => h_.1)); have n4_ := Aside0.mk (rM_ (Kd.R_told (Kd.R_told (Kd.R_old (by (with_reducible repeat (first | apply rA_ | apply rN_ | apply rD_)); exact HO_227000.out) hb) (Kd.R_base ho0)) (Kd.R_base ho1)) (fun _ h_ => h_.1)); have n5_ := Aside0.mk (rM_ (Kd.R_told (Kd.R_told (Kd.R_old (by (with_reducible repeat (first | apply rA_ | apply rN_ | apply rD_)); exact HO_227001.out) hb) (Kd.R_base ho0)) (Kd.R_base ho1)) (fun _ h_ => h_.1)); have n6_ := Aside0.mk (Kd.R_lower (Kd.R_new' (Kd.R_new' (Kd.R_new' (Kd.R_new' (Kd.R_new' (Kd.R_new' ho0 (Kd.R_lt (by (with_reducible repeat (first | apply rA_ | apply rN_ | apply rD_)); exact HO_212000.out))) (Kd.R_lt (by (with_reducible repeat (first | apply rA_ | apply rN_ | apply rD_)); exact HO_212001.out))) (Kd.R_lt (by (with_reducible repeat (first | apply rA_ | apply rN_ | apply rD_)); exact HO_219000.out))) (Kd.R_lt (by (with_reducible repeat (first | apply rA_ | apply rN_ | apply rD_)); exact HO_219001.out))) (Kd.R_lt (by (with_reducible repeat (first | apply rA_ | apply rN_ | apply rD_)); exact HO_227000.out))) (Kd.R_lt (by (with_reducible repeat (first | apply rA_ | apply rN_ | apply rD_)); exact HO_227001.out))) (below_size (by repeat (first | (with_reducible first | exact HB.out | apply bA_ | apply bN_ | apply bD_ | refine bS_ ?_ GE196.out | refine bS_ ?_ GE211.out | refine bS_ ?_ GE218.out | refine bS_ ?_ GE226.out) | exact HB.out)))); have n7_ := Aside0.mk (Kd.R_lower (Kd.R_new' (Kd.R_new' (Kd.R_new' (Kd.R_new' (Kd.R_new' (Kd.R_new' ho1 (Kd.R_lt (by (with_reducible repeat (first | apply rA_ | apply rN_ | apply rD_)); exact HO_212000.out))) (Kd.R_lt (by (with_reducible repeat (first | apply rA_ | apply rN_ | apply rD_)); exact HO_212001.out))) (Kd.R_lt (by (with_reducible repeat (first | apply rA_ | apply rN_ | apply rD_)); exact HO_219000.out))) (Kd.R_lt (by (with_reducible repeat (first | apply rA_ | apply rN_ | apply rD_)); exact HO_219001.out))) (Kd.R_lt (by (with_reducible repeat (first | apply rA_ | apply rN_ | apply rD_)); exact HO_227000.out))) (Kd.R_lt (by (with_reducible repeat (first | apply rA_ | apply rN_ | apply rD_)); exact HO_227001.out))) (below_size (by repeat (first | (with_reducible first | exact HB.out | apply bA_ | apply bN_ | apply bD_ | refine bS_ ?_ GE196.out | refine bS_ ?_ GE211.out | refine bS_ ?_ GE218.out | refine bS_ ?_ GE226.out) | exact HB.out)))); have n8_ := Aside0.mk (blk_below (g := gb196) (o := .cells #[.slice A0_0 l0_0.length c0_0, .slice A0_1 l0_1.length c0_1] 24 (0, 0)) (by (with_reducible repeat (first | refine kN_ ?_ _ | refine kD_ ?_ | refine kA_ ?_ _)); exact BK196.out) hb); have n9_ := Aside0.mk (blk_below (g := gb211) (o := .cells #[.slice Ao23 t204.length co23, .slice Ao26 t207.length co26] 27 (0, 0)) (by (with_reducible repeat (first | refine kN_ ?_ _ | refine kD_ ?_ | refine kA_ ?_ _)); exact BK211.out) hb); have n10_ := Aside0.mk (blk_below (g := gb218) (o := .cells #[.slice Ao30 t236.length co30, .slice Ao34 t237.length co34] 27 (0, 0)) (by (with_reducible repeat (first | refine kN_ ?_ _ | refine kD_ ?_ | refine kA_ ?_ _)); exact BK218.out) hb); have n11_ := Aside0.mk (blk_below (g := gb226) (o := .cells #[.slice Ao37 t219.length co37, .slice Ao42 t222.length co42] 27 (0, 0)) (by (with_reducible repeat (first | refine kN_ ?_ _ | refine kD_ ?_ | refine kA_ ?_ _)); exact BK226.out) hb); have n12_ := Aside0.mk (below_step (by repeat (first | (with_reducible first | exact HB.out | apply bA_ | apply bN_ | apply bD_ | refine bS_ ?_ GE196.out | refine bS_ ?_ GE211.out | refine bS_ ?_ GE218.out | refine bS_ ?_ GE226.out) | exact HB.out)) hb); clear HO_212000; clear HO_212001; clear HO_219000; clear HO_219001; clear HO_227000; clear HO_227001; clear BK196; clear BK211; clear BK218; clear BK226; clear HB; have HO_212000 := n0_; have HO_212001 := n1_; have HO_219000 := n2_; have HO_219001 := n3_; have HO_227000 := n4_; have HO_227001 := n5_; have HO245 := n6_; have HO248 := n7_; have BK196 := n8_; have BK211 := n9_; have BK218 := n10_; have BK226 := n11_; have HB := n12_; clear n0_ n1_ n2_ n3_ n4_ n5_ n6_ n7_ n8_ n9_ n10_ n11_ n12_; (try clear hb); (try clear hb2); (try clear hk); (try clear hi); (try clear ho0); (try clear ho1); obtain ⟨Ao122, co122, eo122⟩ := Kd.R_slice HO245.out; subst eo122; obtain ⟨Ao123, co123, eo123⟩ := Kd.R_slice HO248.out; subst eo123) | ((with_reducible refine gate_callee (f := 43) rfl ?_); refine goesL_ (some 86) rfl rfl Try.func43 (by kernel_rfl) rfl #[.agg #[.slice Ao122 t243.length co122, .slice Ao123 t246.length co123], .int .i64 a1, .int .i64 a2] rfl (by (try simp only [List.map_toArray, List.map_cons, List.map_nil]); first | done | rfl | (simp only [List.length_drop, List.length_take]; rfl)) ?_; (with_reducible refine (impl_AddFloor.calls kj65 _ _ t243 _ _ t246 a1 a2 t249 t252 t255 _ ?side1 ?side2 ?side3 ?side4 A109.out).mono ?_); (case side1 => repeat (first | exact (rR_ HO245.out).2.2 | (with_reducible refine Kd.C_alloc ?_ _) | (with_reducible refine Kd.C_drewN ?_ _) | (with_reducible refine Kd.C_drew ?_))); (case side2 => exact (rR_ HO245.out).2.1); (case side3 => repeat (first | exact (rR_ HO248.out).2.2 | (with_reducible refine Kd.C_alloc ?_ _) | (with_reducible refine Kd.C_drewN ?_ _) | (with_reducible refine Kd.C_drew ?_))); (case side4 => exact (rR_ HO248.out).2.1); rintro e w124 ⟨v250, v253, rfl, ho0, ho1, hb⟩; refine ⟨_, rfl, ?_⟩; have n0_ := Aside0.mk (rM_ (Kd.R_told (Kd.R_told (Kd.R_old (by (with_reducible repeat (first | apply rA_ | apply rN_ | apply rD_)); exact HO_212000.out) hb) (Kd.R_base ho0)) (Kd.R_base ho1)) (fun _ h_ => h_.1)); have n1_ := Aside0.mk (rM_ (Kd.R_told (Kd.R_told (Kd.R_old (by (with_reducible repeat (first | apply rA_ | apply rN_ | apply rD_)); exact HO_212001.out) hb) (Kd.R_base ho0)) (Kd.R_base ho1)) (fun _ h_ => h_.1)); have n2_ := Aside0.mk (rM_ (Kd.R_told (Kd.R_told (Kd.R_old (by (with_reducible repeat (first | apply rA_ | apply rN_ | apply rD_)); exact HO_219000.out) hb) (Kd.R_base ho0)) (Kd.R_base ho1)) (fun _ h_ => h_.1)); have n3_ := Aside0.mk (rM_ (Kd.R_told (Kd.R_told (Kd.R_old (by (with_reducible repeat (first | apply rA_ | apply rN_ | apply rD_)); exact HO_219001.out) hb) (Kd.R_base ho0)) (Kd.R_base ho1)) (fun _ h_ => h_.1)); have n4_ := Aside0.mk (rM_ (Kd.R_told (Kd.R_told (Kd.R_old (by (with_reducible repeat (first | apply rA_ | apply rN_ | apply rD_)); exact HO_227000.out) hb) (Kd.R_base ho0)) (Kd.R_base ho1)) (fun _ h_ => h_.1)); have n5_ := Aside0.mk (rM_ (Kd.R_told (Kd.R_told (Kd.R_old (by (with_reducible repeat (first | apply rA_ | apply rN_ | apply rD_)); exact HO_227001.out) hb) (Kd.R_base ho0)) (Kd.R_base ho1)) (fun _ h_ => h_.1)); have n6_ := Aside0.mk (rM_ (Kd.R_told (Kd.R_told (Kd.R_old (by (with_reducible repeat (first | apply rA_ | apply rN_ | apply rD_)); exact HO245.out) hb) (Kd.R_base ho0)) (Kd.R_base ho1)) (fun _ h_ => h_.1)); have n7_ := Aside0.mk (rM_ (Kd.R_told (Kd.R_told (Kd.R_old (by (with_reducible repeat (first | apply rA_ | apply rN_ | apply rD_)); exact HO248.out) hb) (Kd.R_base ho0)) (Kd.R_base ho1)) (fun _ h_ => h_.1)); have n8_ := Aside0.mk (Kd.R_lower (Kd.R_new' (Kd.R_new' (Kd.R_new' (Kd.R_new' (Kd.R_new' (Kd.R_new' (Kd.R_new' (Kd.R_new' ho0 (Kd.R_lt (by (with_reducible repeat (first | apply rA_ | apply rN_ | apply rD_)); exact HO_212000.out))) (Kd.R_lt (by (with_reducible repeat (first | apply rA_ | apply rN_ | apply rD_)); exact HO_212001.out))) (Kd.R_lt (by (with_reducible repeat (first | apply rA_ | apply rN_ | apply rD_)); exact HO_219000.out))) (Kd.R_lt (by (with_reducible repeat (first | apply rA_ | apply rN_ | apply rD_)); exact HO_219001.out))) (Kd.R_lt (by (with_reducible repeat (first | apply rA_ | apply rN_ | apply rD_)); exact HO_227000.out))) (Kd.R_lt (by (with_reducible repeat (first | apply rA_ | apply rN_ | apply rD_)); exact HO_227001.out))) (Kd.R_lt (by (with_reducible repeat (first | apply rA_ | apply rN_ | apply rD_)); exact HO245.out))) (Kd.R_lt (by (with_reducible repeat (first | apply rA_ | apply rN_ | apply rD_)); exact HO248.out))) (below_size (by repeat (first | (with_reducible first | exact HB.out | apply bA_ | apply bN_ | apply bD_ | refine bS_ ?_ GE196.out | refine bS_ ?_ GE211.out | refine bS_ ?_ GE218.out | refine bS_ ?_ GE226.out) | exact HB.out)))); have n9_ := Aside0.mk (Kd.R_lower (Kd.R_new' (Kd.R_new' (Kd.R_new' (Kd.R_new' (Kd.R_new' (Kd.R_new' (Kd.R_new' (Kd.R_new' ho1 (Kd.R_lt (by (with_reducible repeat (first | apply rA_ | apply rN_ | apply rD_)); exact HO_212000.out))) (Kd.R_lt (by (with_reducible repeat (first | apply rA_ | apply rN_ | apply rD_)); exact HO_212001.out))) (Kd.R_lt (by (with_reducible repeat (first | apply rA_ | apply rN_ | apply rD_)); exact HO_219000.out))) (Kd.R_lt (by (with_reducible repeat (first | apply rA_ | apply rN_ | apply rD_)); exact HO_219001.out))) (Kd.R_lt (by (with_reducible repeat (first | apply rA_ | apply rN_ | apply rD_)); exact HO_227000.out))) (Kd.R_lt (by (with_reducible repeat (first | apply rA_ | apply rN_ | apply rD_)); exact HO_227001.out))) (Kd.R_lt (by (with_reducible repeat (first | apply rA_ | apply rN_ | apply rD_)); exact HO245.out))) (Kd.R_lt (by (with_reducible repeat (first | apply rA_ | apply rN_ | apply rD_)); exact HO248.out))) (below_size (by repeat (first | (with_reducible first | exact HB.out | apply bA_ | apply bN_ | apply bD_ | refine bS_ ?_ GE196.out | refine bS_ ?_ GE211.out | refine bS_ ?_ GE218.out | refine bS_ ?_ GE226.out) | exact HB.out)))); have n10_ := Aside0.mk (blk_below (g := gb196) (o := .cells #[.slice A0_0 l0_0.length c0_0, .slice A0_1 l0_1.length c0_1] 24 (0, 0)) (by (with_reducible repeat (first | refine kN_ ?_ _ | refine kD_ ?_ | refine kA_ ?_ _)); exact BK196.out) hb); have n11_ := Aside0.mk (blk_below (g := gb211) (o := .cells #[.slice Ao23 t204.length co23, .slice Ao26 t207.length co26] 27 (0, 0)) (by (with_reducible repeat (first | refine kN_ ?_ _ | refine kD_ ?_ | refine kA_ ?_ _)); exact BK211.out) hb); have n12_ := Aside0.mk (blk_below (g := gb218) (o := .cells #[.slice Ao30 t236.length co30, .slice Ao34 t237.length co34] 27 (0, 0)) (by (with_reducible repeat (first | refine kN_ ?_ _ | refine kD_ ?_ | refine kA_ ?_ _)); exact BK218.out) hb); have n13_ := Aside0.mk (blk_below (g := gb226) (o := .cells #[.slice Ao37 t219.length co37, .slice Ao42 t222.length co42] 27 (0, 0)) (by (with_reducible repeat (first | refine kN_ ?_ _ | refine kD_ ?_ | refine kA_ ?_ _)); exact BK226.out) hb); have n14_ := Aside0.mk (below_step (by repeat (first | (with_reducible first | exact HB.out | apply bA_ | apply bN_ | apply bD_ | refine bS_ ?_ GE196.out | refine bS_ ?_ GE211.out | refine bS_ ?_ GE218.out | refine bS_ ?_ GE226.out) | exact HB.out)) hb); clear HO_212000; clear HO_212001; clear HO_219000; clear HO_219001; clear HO_227000; clear HO_227001; clear HO245; clear HO248; clear BK196; clear BK211; clear BK218; clear BK226; clear HB; have HO_212000 := n0_; have HO_212001 := n1_; have HO_219000 := n2_; have HO_219001 := n3_; have HO_227000 := n4_; have HO_227001 := n5_; have HO245 := n6_; have HO248 := n7_; have HO251 := n8_; have HO254 := n9_; have BK196 := n10_; have BK211 := n11_; have BK218 := n12_; have BK226 := n13_; have HB := n14_; clear n0_ n1_ n2_ n3_ n4_ n5_ n6_ n7_ n8_ n9_ n10_ n11_ n12_ n13_ n14_; (try clear hb); (try clear hb2); (try clear hk); (try clear hi); (try clear ho0); (try clear ho1)) | ((with_reducible refine gate_dst (N := 16) rfl ?_); refine box_event ?hg (N := 16) ?hd (cs := #[.slice none 0 0, .slice none 0 0]) (t := 27) ?hr ?_; (case hd => rfl); (case hg => rfl); (case hr => first | (go_simp; done) | (go_simp; rfl)); intro gb256 hg w125 hbox hb; have n0_ := Aside0.mk (rB_ (by (with_reducible repeat (first | apply rA_ | apply rN_ | apply rD_)); exact HO_212000.out) hb); have n1_ := Aside0.mk (rB_ (by (with_reducible repeat (first | apply rA_ | apply rN_ | apply rD_)); exact HO_212001.out) hb); have n2_ := Aside0.mk (rB_ (by (with_reducible repeat (first | apply rA_ | apply rN_ | apply rD_)); exact HO_219000.out) hb); have n3_ := Aside0.mk (rB_ (by (with_reducible repeat (first | apply rA_ | apply rN_ | apply rD_)); exact HO_219001.out) hb); have n4_ := Aside0.mk (rB_ (by (with_reducible repeat (first | apply rA_ | apply rN_ | apply rD_)); exact HO_227000.out) hb); have n5_ := Aside0.mk (rB_ (by (with_reducible repeat (first | apply rA_ | apply rN_ | apply rD_)); exact HO_227001.out) hb); have n6_ := Aside0.mk (rB_ (by (with_reducible repeat (first | apply rA_ | apply rN_ | apply rD_)); exact HO245.out) hb); have n7_ := Aside0.mk (rB_ (by (with_reducible repeat (first | apply rA_ | apply rN_ | apply rD_)); exact HO248.out) hb); have n8_ := Aside0.mk (rB_ (by (with_reducible repeat (first | apply rA_ | apply rN_ | apply rD_)); exact HO251.out) hb); have n9_ := Aside0.mk (rB_ (by (with_reducible repeat (first | apply rA_ | apply rN_ | apply rD_)); exact HO254.out) hb); have n10_ := Aside0.mk (blk_below (g := gb196) (o := .cells #[.slice A0_0 l0_0.length c0_0, .slice A0_1 l0_1.length c0_1] 24 (0, 0)) (by (with_reducible repeat (first | refine kN_ ?_ _ | refine kD_ ?_ | refine kA_ ?_ _)); exact BK196.out) hb); have n11_ := Aside0.mk (blk_below (g := gb211) (o := .cells #[.slice Ao23 t204.length co23, .slice Ao26 t207.length co26] 27 (0, 0)) (by (with_reducible repeat (first | refine kN_ ?_ _ | refine kD_ ?_ | refine kA_ ?_ _)); exact BK211.out) hb); have n12_ := Aside0.mk (blk_below (g := gb218) (o := .cells #[.slice Ao30 t236.length co30, .slice Ao34 t237.length co34] 27 (0, 0)) (by (with_reducible repeat (first | refine kN_ ?_ _ | refine kD_ ?_ | refine kA_ ?_ _)); exact BK218.out) hb); have n13_ := Aside0.mk (blk_below (g := gb226) (o := .cells #[.slice Ao37 t219.length co37, .slice Ao42 t222.length co42] 27 (0, 0)) (by (with_reducible repeat (first | refine kN_ ?_ _ | refine kD_ ?_ | refine kA_ ?_ _)); exact BK226.out) hb); have n14_ := Aside0.mk (below_step (by repeat (first | (with_reducible first | exact HB.out | apply bA_ | apply bN_ | apply bD_ | refine bS_ ?_ GE196.out | refine bS_ ?_ GE211.out | refine bS_ ?_ GE218.out | refine bS_ ?_ GE226.out) | exact HB.out)) hb); have n15_ := Aside0.mk (hbox); have n16_ := Aside0.mk ((by rw [hg]; exact (below_size (by repeat (first | (with_reducible first | exact HB.out | apply bA_ | apply bN_ | apply bD_ | refine bS_ ?_ GE196.out | refine bS_ ?_ GE211.out | refine bS_ ?_ GE218.out | refine bS_ ?_ GE226.out) | exact HB.out))) : w.heap.size ≤ gb256)); have n17_ := Aside0.mk ((by rw [hg]; exact (below_size (by repeat (first | (with_reducible first | exact HB.out | apply bA_ | apply bN_ | apply bD_ | refine bS_ ?_ GE196.out | refine bS_ ?_ GE211.out | refine bS_ ?_ GE218.out | refine bS_ ?_ GE226.out) | exact HB.out))) : w.heap.size ≤ gb256)); have n18_ := Aside0.mk ((by rw [hg]; exact Nat.ne_of_lt (blk_lt (g := gb196) (o := .cells #[.slice A0_0 l0_0.length c0_0, .slice A0_1 l0_1.length c0_1] 24 (0, 0)) (by (with_reducible repeat (first | refine kN_ ?_ _ | refine kD_ ?_ | refine kA_ ?_ _)); exact BK196.out)) : gb196 ≠ gb256)); have n19_ := Aside0.mk ((by rw [hg]; exact Nat.ne_of_gt (blk_lt (g := gb196) (o := .cells #[.slice A0_0 l0_0.length c0_0, .slice A0_1 l0_1.length c0_1] 24 (0, 0)) (by (with_reducible repeat (first | refine kN_ ?_ _ | refine kD_ ?_ | refine kA_ ?_ _)); exact BK196.out)) : gb256 ≠ gb196)); have n20_ := Aside0.mk ((by rw [hg]; exact Nat.ne_of_lt (blk_lt (g := gb211) (o := .cells #[.slice Ao23 t204.length co23, .slice Ao26 t207.length co26] 27 (0, 0)) (by (with_reducible repeat (first | refine kN_ ?_ _ | refine kD_ ?_ | refine kA_ ?_ _)); exact BK211.out)) : gb211 ≠ gb256)); have n21_ := Aside0.mk ((by rw [hg]; exact Nat.ne_of_gt (blk_lt (g := gb211) (o := .cells #[.slice Ao23 t204.length co23, .slice Ao26 t207.length co26] 27 (0, 0)) (by (with_reducible repeat (first | refine kN_ ?_ _ | refine kD_ ?_ | refine kA_ ?_ _)); exact BK211.out)) : gb256 ≠ gb211)); have n22_ := Aside0.mk ((by rw [hg]; exact Nat.ne_of_lt (blk_lt (g := gb218) (o := .cells #[.slice Ao30 t236.length co30, .slice Ao34 t237.length co34] 27 (0, 0)) (by (with_reducible repeat (first | refine kN_ ?_ _ | refine kD_ ?_ | refine kA_ ?_ _)); exact BK218.out)) : gb218 ≠ gb256)); have n23_ := Aside0.mk ((by rw [hg]; exact Nat.ne_of_gt (blk_lt (g := gb218) (o := .cells #[.slice Ao30 t236.length co30, .slice Ao34 t237.length co34] 27 (0, 0)) (by (with_reducible repeat (first | refine kN_ ?_ _ | refine kD_ ?_ | refine kA_ ?_ _)); exact BK218.out)) : gb256 ≠ gb218)); have n24_ := Aside0.mk ((by rw [hg]; exact Nat.ne_of_lt (blk_lt (g := gb226) (o := .cells #[.slice Ao37 t219.length co37, .slice Ao42 t222.length co42] 27 (0, 0)) (by (with_reducible repeat (first | refine kN_ ?_ _ | refine kD_ ?_ | refine kA_ ?_ _)); exact BK226.out)) : gb226 ≠ gb256)); have n25_ := Aside0.mk ((by rw [hg]; exact Nat.ne_of_gt (blk_lt (g := gb226) (o := .cells #[.slice Ao37 t219.length co37, .slice Ao42 t222.length co42] 27 (0, 0)) (by (with_reducible repeat (first | refine kN_ ?_ _ | refine kD_ ?_ | refine kA_ ?_ _)); exact BK226.out)) : gb256 ≠ gb226)); clear HO_212000; clear HO_212001; clear HO_219000; clear HO_219001; clear HO_227000; clear HO_227001; clear HO245; clear HO248; clear HO251; clear HO254; clear BK196; clear BK211; clear BK218; clear BK226; clear HB; have HO_212000 := n0_; have HO_212001 := n1_; have HO_219000 := n2_; have HO_219001 := n3_; have HO_227000 := n4_; have HO_227001 := n5_; have HO245 := n6_; have HO248 := n7_; have HO251 := n8_; have HO254 := n9_; have BK196 := n10_; have BK211 := n11_; have BK218 := n12_; have BK226 := n13_; have HB := n14_; have BK256 := n15_; have GW256 := n16_; have GE256 := n17_; have NB196_256 := n18_; have NB256_196 := n19_; have NB211_256 := n20_; have NB256_211 := n21_; have NB218_256 := n22_; have NB256_218 := n23_; have NB226_256 := n24_; have NB256_226 := n25_; clear n0_ n1_ n2_ n3_ n4_ n5_ n6_ n7_ n8_ n9_ n10_ n11_ n12_ n13_ n14_ n15_ n16_ n17_ n18_ n19_ n20_ n21_ n22_ n23_ n24_ n25_; clear hb hbox hg; obtain ⟨Ao126, co126, eo126⟩ := Kd.R_slice HO251.out; subst eo126; have hnb127 := NB256_196.out; have hnc127 := NB196_256.out; have hnb128 := NB256_211.out; have hnc128 := NB211_256.out; have hnb129 := NB256_218.out; have hnc129 := NB218_256.out; have hnb130 := NB256_226.out; have hnc130 := NB226_256.out; have hcz131_0 : w125.cell? ⟨gb256, 0, none⟩ = some (.slice none 0 0) := (blk_cell BK256.out 0).trans rfl; have hcz131_1 : w125.cell? ⟨gb256, 1, none⟩ = some (.slice none 0 0) := (blk_cell BK256.out 1).trans rfl; have hfz131_0 := blk_frozen BK256.out 0; have hfz131_1 := blk_frozen BK256.out 1; obtain ⟨Ao132, co132, eo132⟩ := Kd.R_slice HO254.out; subst eo132))
                      (try simp only [Act.put, List.setIfInBounds_toArray, List.set_cons_zero, List.set_cons_succ])
                      go_cut [97] (fun v97 wc => ∃ (kq : Nat) (x97_109 : Bool), v97 = .bool x97_109 ∧ Aside0 (laws_FnExactAddFloor.j2 kq t239 x97_109 t240 t241 = some r) ∧ Aside0 (kq ≤ kj65) ∧ Aside0 (Kd.R (Kd.int .i64) 3 wc w.heap.size (fun k_ => some k_ ≠ ((.slice Ao26 t207.length co26) : Value).ownBlock ∧ some k_ ≠ ((.slice Ao30 t236.length co30) : Value).ownBlock ∧ some k_ ≠ ((.slice Ao34 t237.length co34) : Value).ownBlock ∧ some k_ ≠ ((.slice Ao37 t219.length co37) : Value).ownBlock ∧ some k_ ≠ ((.slice Ao42 t222.length co42) : Value).ownBlock ∧ some k_ ≠ ((.slice Ao126 t249.length co126) : Value).ownBlock ∧ some k_ ≠ ((.slice Ao132 t252.length co132) : Value).ownBlock) (.slice Ao23 t204.length co23) t204) ∧ Aside0 (Kd.R (Kd.int .i64) 3 wc w.heap.size (fun k_ => some k_ ≠ ((.slice Ao23 t204.length co23) : Value).ownBlock ∧ some k_ ≠ ((.slice Ao30 t236.length co30) : Value).ownBlock ∧ some k_ ≠ ((.slice Ao34 t237.length co34) : Value).ownBlock ∧ some k_ ≠ ((.slice Ao37 t219.length co37) : Value).ownBlock ∧ some k_ ≠ ((.slice Ao42 t222.length co42) : Value).ownBlock ∧ some k_ ≠ ((.slice Ao126 t249.length co126) : Value).ownBlock ∧ some k_ ≠ ((.slice Ao132 t252.length co132) : Value).ownBlock) (.slice Ao26 t207.length co26) t207) ∧ Aside0 (Kd.R (Kd.int .i64) 3 wc w.heap.size (fun k_ => some k_ ≠ ((.slice Ao23 t204.length co23) : Value).ownBlock ∧ some k_ ≠ ((.slice Ao26 t207.length co26) : Value).ownBlock ∧ some k_ ≠ ((.slice Ao34 t237.length co34) : Value).ownBlock ∧ some k_ ≠ ((.slice Ao37 t219.length co37) : Value).ownBlock ∧ some k_ ≠ ((.slice Ao42 t222.length co42) : Value).ownBlock ∧ some k_ ≠ ((.slice Ao126 t249.length co126) : Value).ownBlock ∧ some k_ ≠ ((.slice Ao132 t252.length co132) : Value).ownBlock) (.slice Ao30 t236.length co30) t236) ∧ Aside0 (Kd.R (Kd.int .i64) 3 wc w.heap.size (fun k_ => some k_ ≠ ((.slice Ao23 t204.length co23) : Value).ownBlock ∧ some k_ ≠ ((.slice Ao26 t207.length co26) : Value).ownBlock ∧ some k_ ≠ ((.slice Ao30 t236.length co30) : Value).ownBlock ∧ some k_ ≠ ((.slice Ao37 t219.length co37) : Value).ownBlock ∧ some k_ ≠ ((.slice Ao42 t222.length co42) : Value).ownBlock ∧ some k_ ≠ ((.slice Ao126 t249.length co126) : Value).ownBlock ∧ some k_ ≠ ((.slice Ao132 t252.length co132) : Value).ownBlock) (.slice Ao34 t237.length co34) t237) ∧ Aside0 (Kd.R (Kd.int .i64) 3 wc w.heap.size (fun k_ => some k_ ≠ ((.slice Ao23 t204.length co23) : Value).ownBlock ∧ some k_ ≠ ((.slice Ao26 t207.length co26) : Value).ownBlock ∧ some k_ ≠ ((.slice Ao30 t236.length co30) : Value).ownBlock ∧ some k_ ≠ ((.slice Ao34 t237.length co34) : Value).ownBlock ∧ some k_ ≠ ((.slice Ao42 t222.length co42) : Value).ownBlock ∧ some k_ ≠ ((.slice Ao126 t249.length co126) : Value).ownBlock ∧ some k_ ≠ ((.slice Ao132 t252.length co132) : Value).ownBlock) (.slice Ao37 t219.length co37) t240) ∧ Aside0 (Kd.R (Kd.int .i64) 3 wc w.heap.size (fun k_ => some k_ ≠ ((.slice Ao23 t204.length co23) : Value).ownBlock ∧ some k_ ≠ ((.slice Ao26 t207.length co26) : Value).ownBlock ∧ some k_ ≠ ((.slice Ao30 t236.length co30) : Value).ownBlock ∧ some k_ ≠ ((.slice Ao34 t237.length co34) : Value).ownBlock ∧ some k_ ≠ ((.slice Ao37 t219.length co37) : Value).ownBlock ∧ some k_ ≠ ((.slice Ao126 t249.length co126) : Value).ownBlock ∧ some k_ ≠ ((.slice Ao132 t252.length co132) : Value).ownBlock) (.slice Ao42 t222.length co42) t241) ∧ Aside0 (Kd.R (Kd.int .i64) 3 wc w.heap.size (fun k_ => some k_ ≠ ((.slice Ao23 t204.length co23) : Value).ownBlock ∧ some k_ ≠ ((.slice Ao26 t207.length co26) : Value).ownBlock ∧ some k_ ≠ ((.slice Ao30 t236.length co30) : Value).ownBlock ∧ some k_ ≠ ((.slice Ao34 t237.length co34) : Value).ownBlock ∧ some k_ ≠ ((.slice Ao37 t219.length co37) : Value).ownBlock ∧ some k_ ≠ ((.slice Ao42 t222.length co42) : Value).ownBlock ∧ some k_ ≠ ((.slice Ao132 t252.length co132) : Value).ownBlock) (.slice Ao126 t249.length co126) t249) ∧ Aside0 (Kd.R (Kd.int .i64) 3 wc w.heap.size (fun k_ => some k_ ≠ ((.slice Ao23 t204.length co23) : Value).ownBlock ∧ some k_ ≠ ((.slice Ao26 t207.length co26) : Value).ownBlock ∧ some k_ ≠ ((.slice Ao30 t236.length co30) : Value).ownBlock ∧ some k_ ≠ ((.slice Ao34 t237.length co34) : Value).ownBlock ∧ some k_ ≠ ((.slice Ao37 t219.length co37) : Value).ownBlock ∧ some k_ ≠ ((.slice Ao42 t222.length co42) : Value).ownBlock ∧ some k_ ≠ ((.slice Ao126 t249.length co126) : Value).ownBlock) (.slice Ao132 t252.length co132) t252) ∧ Aside0 (wc.heap[gb196]? = some (.cells #[(.slice A0_0 l0_0.length c0_0), (.slice A0_1 l0_1.length c0_1)] 24 (0, 0))) ∧ Aside0 (wc.heap[gb211]? = some (.cells #[(.slice Ao23 t204.length co23), (.slice Ao26 t207.length co26)] 27 (0, 0))) ∧ Aside0 (wc.heap[gb218]? = some (.cells #[(.slice Ao30 t236.length co30), (.slice Ao34 t237.length co34)] 27 (0, 0))) ∧ Aside0 (wc.heap[gb226]? = some (.cells #[(.slice Ao37 t219.length co37), (.slice Ao42 t222.length co42)] 27 (0, 0))) ∧ Aside0 (wc.heap[gb256]? = some (.cells #[(.slice Ao126 t249.length co126), (.slice Ao132 t252.length co132)] 27 (0, 0))) ∧ Aside0 (Below w.heap.size w wc))
                      case first =>
                        have H := HC110.out
                        clear HC110
                        replace H := Option.bind_eq_some_iff.mp H
                        obtain ⟨t257, A1330, H⟩ := H
                        replace H : (if t257 = true then (laws_FnExactAddFloor.j2 kj65 t239 (t255 != t210) t240 t241) else (laws_FnExactAddFloor.j2 kj65 t239 true t240 t241)) = some r := H
                        have A133 := Aside0.mk A1330
                        clear A1330
                        by_cases c134 : t257 = true
                        · subst c134
                          have H1 : (laws_FnExactAddFloor.j2 kj65 t239 (t255 != t210) t240 t241) = some r := by rw [if_pos rfl] at H; exact H
                          clear H
                          have H := H1
                          clear H1
                          have H' := Aside0.mk H
                          clear H
                          have hnb135 := NB256_196.out
                          have hnc135 := NB196_256.out
                          have hnb136 := NB256_211.out
                          have hnc136 := NB211_256.out
                          have hnb137 := NB256_218.out
                          have hnc137 := NB218_256.out
                          have hnb138 := NB256_226.out
                          have hnc138 := NB226_256.out
                          have hcz139_0 : w125.cell? ⟨gb256, 0, none⟩ = some (.slice none 0 0) := (blk_cell BK256.out 0).trans rfl
                          have hcz139_1 : w125.cell? ⟨gb256, 1, none⟩ = some (.slice none 0 0) := (blk_cell BK256.out 1).trans rfl
                          have hfz139_0 := blk_frozen BK256.out 0
                          have hfz139_1 := blk_frozen BK256.out 1
                          have hnb140 := NB211_196.out
                          have hnc140 := NB196_211.out
                          have hnb141 := NB211_218.out
                          have hnc141 := NB218_211.out
                          have hnb142 := NB211_226.out
                          have hnc142 := NB226_211.out
                          have hcz143_0 : w125.cell? ⟨gb211, 0, none⟩ = some (.slice Ao23 t204.length co23) := (blk_cell BK211.out 0).trans rfl
                          have hcz143_1 : w125.cell? ⟨gb211, 1, none⟩ = some (.slice Ao26 t207.length co26) := (blk_cell BK211.out 1).trans rfl
                          have hfz143_0 := blk_frozen BK211.out 0
                          have hfz143_1 := blk_frozen BK211.out 1
                          go_wp2_with (first | ((with_reducible refine gate_callee (f := 19) rfl ?_); refine goesL_ (some 91) rfl rfl Try.func19 (by kernel_rfl) rfl #[.agg #[.slice Ao126 t249.length co126, .slice Ao132 t252.length co132], .agg #[.slice Ao23 t204.length co23, .slice Ao26 t207.length co26]] rfl (by (try simp only [List.map_toArray, List.map_cons, List.map_nil]); first | done | rfl | (simp only [List.length_drop, List.length_take]; rfl)) ?_; (with_reducible refine (laws_eqHouse.calls kj65 _ _ t249 _ _ t252 _ _ t204 _ _ t207 true _ ?side1 ?side2 ?side3 ?side4 ?side5 ?side6 ?side7 ?side8 A133.out).mono ?_); (case side1 => refine (rR_ (e := 3) (base := w.heap.size) (ok := fun k_ => ((((((((some k_ ≠ (.slice Ao132 t252.length co132 : Value).ownBlock ∧ some k_ ≠ (.slice Ao23 t204.length co23 : Value).ownBlock) ∧ some k_ ≠ (.slice Ao26 t207.length co26 : Value).ownBlock) ∧ some k_ ≠ (.slice Ao30 t236.length co30 : Value).ownBlock) ∧ some k_ ≠ (.slice Ao34 t237.length co34 : Value).ownBlock) ∧ some k_ ≠ (.slice Ao37 t219.length co37 : Value).ownBlock) ∧ some k_ ≠ (.slice Ao42 t222.length co42 : Value).ownBlock) ∧ some k_ ≠ (.slice Ao122 t243.length co122 : Value).ownBlock) ∧ some k_ ≠ (.slice Ao123 t246.length co123 : Value).ownBlock)) (n := t249.length) (c := co126) ?_).2.2; exact (by (with_reducible repeat (first | apply rA_ | apply rN_ | apply rD_)); exact (rM_ (rF_ (p := ⟨gb256, 1, none⟩) (rF_ (p := ⟨gb256, 0, none⟩) (Kd.R_types HO251.out BK256.out (by decide)) (fun _ hk => hk.2) (.slice Ao126 t249.length co126)) (fun _ hk => hk.2) (.slice Ao132 t252.length co132)) (fun _ h_ => h_.1)))); (case side2 => exact (rR_ HO251.out).2.1); (case side3 => refine (rR_ (e := 3) (base := w.heap.size) (ok := fun k_ => ((((((((some k_ ≠ (.slice Ao126 t249.length co126 : Value).ownBlock ∧ some k_ ≠ (.slice Ao23 t204.length co23 : Value).ownBlock) ∧ some k_ ≠ (.slice Ao26 t207.length co26 : Value).ownBlock) ∧ some k_ ≠ (.slice Ao30 t236.length co30 : Value).ownBlock) ∧ some k_ ≠ (.slice Ao34 t237.length co34 : Value).ownBlock) ∧ some k_ ≠ (.slice Ao37 t219.length co37 : Value).ownBlock) ∧ some k_ ≠ (.slice Ao42 t222.length co42 : Value).ownBlock) ∧ some k_ ≠ (.slice Ao122 t243.length co122 : Value).ownBlock) ∧ some k_ ≠ (.slice Ao123 t246.length co123 : Value).ownBlock)) (n := t252.length) (c := co132) ?_).2.2; exact (by (with_reducible repeat (first | apply rA_ | apply rN_ | apply rD_)); exact (rM_ (rF_ (p := ⟨gb256, 1, none⟩) (rF_ (p := ⟨gb256, 0, none⟩) (Kd.R_types HO254.out BK256.out (by decide)) (fun _ hk => hk.2) (.slice Ao126 t249.length co126)) (fun _ hk => hk.2) (.slice Ao132 t252.length co132)) (fun _ h_ => h_.1)))); (case side4 => exact (rR_ HO254.out).2.1); (case side5 => refine (rR_ (e := 3) (base := w.heap.size) (ok := fun k_ => (((((some k_ ≠ (.slice Ao26 t207.length co26 : Value).ownBlock ∧ (some k_ ≠ (.slice Ao30 t236.length co30 : Value).ownBlock ∧ (some k_ ≠ (.slice Ao34 t237.length co34 : Value).ownBlock ∧ (some k_ ≠ (.slice Ao37 t219.length co37 : Value).ownBlock ∧ some k_ ≠ (.slice Ao42 t222.length co42 : Value).ownBlock)))) ∧ some k_ ≠ (.slice Ao122 t243.length co122 : Value).ownBlock) ∧ some k_ ≠ (.slice Ao123 t246.length co123 : Value).ownBlock) ∧ some k_ ≠ (.slice Ao126 t249.length co126 : Value).ownBlock) ∧ some k_ ≠ (.slice Ao132 t252.length co132 : Value).ownBlock)) (n := t204.length) (c := co23) ?_).2.2; exact (by (with_reducible repeat (first | apply rA_ | apply rN_ | apply rD_)); exact (rM_ (rF_ (p := ⟨gb256, 1, none⟩) (rF_ (p := ⟨gb256, 0, none⟩) (Kd.R_types HO_212000.out BK256.out (by decide)) (fun _ hk => hk.2) (.slice Ao126 t249.length co126)) (fun _ hk => hk.2) (.slice Ao132 t252.length co132)) (fun _ h_ => h_.1)))); (case side6 => exact (rR_ HO_212000.out).2.1); (case side7 => refine (rR_ (e := 3) (base := w.heap.size) (ok := fun k_ => (((((some k_ ≠ (.slice Ao23 t204.length co23 : Value).ownBlock ∧ (some k_ ≠ (.slice Ao30 t236.length co30 : Value).ownBlock ∧ (some k_ ≠ (.slice Ao34 t237.length co34 : Value).ownBlock ∧ (some k_ ≠ (.slice Ao37 t219.length co37 : Value).ownBlock ∧ some k_ ≠ (.slice Ao42 t222.length co42 : Value).ownBlock)))) ∧ some k_ ≠ (.slice Ao122 t243.length co122 : Value).ownBlock) ∧ some k_ ≠ (.slice Ao123 t246.length co123 : Value).ownBlock) ∧ some k_ ≠ (.slice Ao126 t249.length co126 : Value).ownBlock) ∧ some k_ ≠ (.slice Ao132 t252.length co132 : Value).ownBlock)) (n := t207.length) (c := co26) ?_).2.2; exact (by (with_reducible repeat (first | apply rA_ | apply rN_ | apply rD_)); exact (rM_ (rF_ (p := ⟨gb256, 1, none⟩) (rF_ (p := ⟨gb256, 0, none⟩) (Kd.R_types HO_212001.out BK256.out (by decide)) (fun _ hk => hk.2) (.slice Ao126 t249.length co126)) (fun _ hk => hk.2) (.slice Ao132 t252.length co132)) (fun _ h_ => h_.1)))); (case side8 => exact (rR_ HO_212001.out).2.1); rintro e w144 ⟨rfl, hb⟩; refine ⟨_, rfl, ?_⟩; have n0_ := Aside0.mk (rB_ (by (with_reducible repeat (first | apply rA_ | apply rN_ | apply rD_)); exact (rM_ (rF_ (p := ⟨gb256, 1, none⟩) (rF_ (p := ⟨gb256, 0, none⟩) (Kd.R_types HO_212000.out BK256.out (by decide)) (fun _ hk => hk.2) (.slice Ao126 t249.length co126)) (fun _ hk => hk.2) (.slice Ao132 t252.length co132)) (fun _ h_ => h_.1))) hb); have n1_ := Aside0.mk (rB_ (by (with_reducible repeat (first | apply rA_ | apply rN_ | apply rD_)); exact (rM_ (rF_ (p := ⟨gb256, 1, none⟩) (rF_ (p := ⟨gb256, 0, none⟩) (Kd.R_types HO_212001.out BK256.out (by decide)) (fun _ hk => hk.2) (.slice Ao126 t249.length co126)) (fun _ hk => hk.2) (.slice Ao132 t252.length co132)) (fun _ h_ => h_.1))) hb); have n2_ := Aside0.mk (rB_ (by (with_reducible repeat (first | apply rA_ | apply rN_ | apply rD_)); exact (rM_ (rF_ (p := ⟨gb256, 1, none⟩) (rF_ (p := ⟨gb256, 0, none⟩) (Kd.R_types HO_219000.out BK256.out (by decide)) (fun _ hk => hk.2) (.slice Ao126 t249.length co126)) (fun _ hk => hk.2) (.slice Ao132 t252.length co132)) (fun _ h_ => h_.1))) hb); have n3_ := Aside0.mk (rB_ (by (with_reducible repeat (first | apply rA_ | apply rN_ | apply rD_)); exact (rM_ (rF_ (p := ⟨gb256, 1, none⟩) (rF_ (p := ⟨gb256, 0, none⟩) (Kd.R_types HO_219001.out BK256.out (by decide)) (fun _ hk => hk.2) (.slice Ao126 t249.length co126)) (fun _ hk => hk.2) (.slice Ao132 t252.length co132)) (fun _ h_ => h_.1))) hb); have n4_ := Aside0.mk (rB_ (by (with_reducible repeat (first | apply rA_ | apply rN_ | apply rD_)); exact (rM_ (rF_ (p := ⟨gb256, 1, none⟩) (rF_ (p := ⟨gb256, 0, none⟩) (Kd.R_types HO_227000.out BK256.out (by decide)) (fun _ hk => hk.2) (.slice Ao126 t249.length co126)) (fun _ hk => hk.2) (.slice Ao132 t252.length co132)) (fun _ h_ => h_.1))) hb); have n5_ := Aside0.mk (rB_ (by (with_reducible repeat (first | apply rA_ | apply rN_ | apply rD_)); exact (rM_ (rF_ (p := ⟨gb256, 1, none⟩) (rF_ (p := ⟨gb256, 0, none⟩) (Kd.R_types HO_227001.out BK256.out (by decide)) (fun _ hk => hk.2) (.slice Ao126 t249.length co126)) (fun _ hk => hk.2) (.slice Ao132 t252.length co132)) (fun _ h_ => h_.1))) hb); have n6_ := Aside0.mk (rB_ (by (with_reducible repeat (first | apply rA_ | apply rN_ | apply rD_)); exact (rM_ (rF_ (p := ⟨gb256, 1, none⟩) (rF_ (p := ⟨gb256, 0, none⟩) (Kd.R_types HO245.out BK256.out (by decide)) (fun _ hk => hk.2) (.slice Ao126 t249.length co126)) (fun _ hk => hk.2) (.slice Ao132 t252.length co132)) (fun _ h_ => h_.1))) hb); have n7_ := Aside0.mk (rB_ (by (with_reducible repeat (first | apply rA_ | apply rN_ | apply rD_)); exact (rM_ (rF_ (p := ⟨gb256, 1, none⟩) (rF_ (p := ⟨gb256, 0, none⟩) (Kd.R_types HO248.out BK256.out (by decide)) (fun _ hk => hk.2) (.slice Ao126 t249.length co126)) (fun _ hk => hk.2) (.slice Ao132 t252.length co132)) (fun _ h_ => h_.1))) hb); have n8_ := Aside0.mk (rB_ (by (with_reducible repeat (first | apply rA_ | apply rN_ | apply rD_)); exact (rM_ (rF_ (p := ⟨gb256, 1, none⟩) (rF_ (p := ⟨gb256, 0, none⟩) (Kd.R_types HO251.out BK256.out (by decide)) (fun _ hk => hk.2) (.slice Ao126 t249.length co126)) (fun _ hk => hk.2) (.slice Ao132 t252.length co132)) (fun _ h_ => h_.1))) hb); have n9_ := Aside0.mk (rB_ (by (with_reducible repeat (first | apply rA_ | apply rN_ | apply rD_)); exact (rM_ (rF_ (p := ⟨gb256, 1, none⟩) (rF_ (p := ⟨gb256, 0, none⟩) (Kd.R_types HO254.out BK256.out (by decide)) (fun _ hk => hk.2) (.slice Ao126 t249.length co126)) (fun _ hk => hk.2) (.slice Ao132 t252.length co132)) (fun _ h_ => h_.1))) hb); have n10_ := Aside0.mk (blk_below (g := gb196) (o := .cells #[.slice A0_0 l0_0.length c0_0, .slice A0_1 l0_1.length c0_1] 24 (0, 0)) (by (with_reducible repeat (first | refine kN_ ?_ _ | refine kD_ ?_ | refine kA_ ?_ _)); refine blk_far ?_ NB196_256.out _; (with_reducible repeat (first | refine kN_ ?_ _ | refine kD_ ?_ | refine kA_ ?_ _)); refine blk_far ?_ NB196_256.out _; (with_reducible repeat (first | refine kN_ ?_ _ | refine kD_ ?_ | refine kA_ ?_ _)); exact BK196.out) hb); have n11_ := Aside0.mk (blk_below (g := gb211) (o := .cells #[.slice Ao23 t204.length co23, .slice Ao26 t207.length co26] 27 (0, 0)) (by (with_reducible repeat (first | refine kN_ ?_ _ | refine kD_ ?_ | refine kA_ ?_ _)); refine blk_far ?_ NB211_256.out _; (with_reducible repeat (first | refine kN_ ?_ _ | refine kD_ ?_ | refine kA_ ?_ _)); refine blk_far ?_ NB211_256.out _; (with_reducible repeat (first | refine kN_ ?_ _ | refine kD_ ?_ | refine kA_ ?_ _)); exact BK211.out) hb); have n12_ := Aside0.mk (blk_below (g := gb218) (o := .cells #[.slice Ao30 t236.length co30, .slice Ao34 t237.length co34] 27 (0, 0)) (by (with_reducible repeat (first | refine kN_ ?_ _ | refine kD_ ?_ | refine kA_ ?_ _)); refine blk_far ?_ NB218_256.out _; (with_reducible repeat (first | refine kN_ ?_ _ | refine kD_ ?_ | refine kA_ ?_ _)); refine blk_far ?_ NB218_256.out _; (with_reducible repeat (first | refine kN_ ?_ _ | refine kD_ ?_ | refine kA_ ?_ _)); exact BK218.out) hb); have n13_ := Aside0.mk (blk_below (g := gb226) (o := .cells #[.slice Ao37 t219.length co37, .slice Ao42 t222.length co42] 27 (0, 0)) (by (with_reducible repeat (first | refine kN_ ?_ _ | refine kD_ ?_ | refine kA_ ?_ _)); refine blk_far ?_ NB226_256.out _; (with_reducible repeat (first | refine kN_ ?_ _ | refine kD_ ?_ | refine kA_ ?_ _)); refine blk_far ?_ NB226_256.out _; (with_reducible repeat (first | refine kN_ ?_ _ | refine kD_ ?_ | refine kA_ ?_ _)); exact BK226.out) hb); have n14_ := Aside0.mk (blk_below (g := gb256) (o := .cells #[.slice Ao126 t249.length co126, .slice Ao132 t252.length co132] 27 (0, 0)) (by (with_reducible repeat (first | refine kN_ ?_ _ | refine kD_ ?_ | refine kA_ ?_ _)); refine blk_put (cs := #[.slice Ao126 t249.length co126, .slice none 0 0]) ?_ 1 _ rfl; (with_reducible repeat (first | refine kN_ ?_ _ | refine kD_ ?_ | refine kA_ ?_ _)); refine blk_put (cs := #[.slice none 0 0, .slice none 0 0]) ?_ 0 _ rfl; (with_reducible repeat (first | refine kN_ ?_ _ | refine kD_ ?_ | refine kA_ ?_ _)); exact BK256.out) hb); have n15_ := Aside0.mk (below_step (by repeat (first | (with_reducible first | exact HB.out | apply bA_ | apply bN_ | apply bD_ | refine bS_ ?_ GE196.out | refine bS_ ?_ GE211.out | refine bS_ ?_ GE218.out | refine bS_ ?_ GE226.out | refine bS_ ?_ GE256.out) | exact HB.out)) hb); clear HO_212000; clear HO_212001; clear HO_219000; clear HO_219001; clear HO_227000; clear HO_227001; clear HO245; clear HO248; clear HO251; clear HO254; clear BK196; clear BK211; clear BK218; clear BK226; clear BK256; clear HB; have HO_212000 := n0_; have HO_212001 := n1_; have HO_219000 := n2_; have HO_219001 := n3_; have HO_227000 := n4_; have HO_227001 := n5_; have HO245 := n6_; have HO248 := n7_; have HO251 := n8_; have HO254 := n9_; have BK196 := n10_; have BK211 := n11_; have BK218 := n12_; have BK226 := n13_; have BK256 := n14_; have HB := n15_; clear n0_ n1_ n2_ n3_ n4_ n5_ n6_ n7_ n8_ n9_ n10_ n11_ n12_ n13_ n14_ n15_; (try clear hb); (try clear hb2); (try clear hk); (try clear hi)))
                          go_meet
                          case rel => exact ⟨_, ((t255 != t210)), (by first | rfl | (simp; done) | (simp [*]; done)), H', ⟨by have := HJ12.out; have := HJ65.out; first | omega | exact Nat.le_refl _⟩, ⟨by (try simp only [hl219000_65]); (try simp only [hl219001_65]); (with_reducible repeat (first | apply rA_ | apply rN_ | apply rD_)); exact rM_ HO_212000.out (fun _ hk => ⟨hk.1.1.1.1.1, ⟨hk.1.1.1.1.2.1, ⟨hk.1.1.1.1.2.2.1, ⟨hk.1.1.1.1.2.2.2.1, ⟨hk.1.1.1.1.2.2.2.2, ⟨hk.1.2, hk.2⟩⟩⟩⟩⟩⟩)⟩, ⟨by (try simp only [hl219000_65]); (try simp only [hl219001_65]); (with_reducible repeat (first | apply rA_ | apply rN_ | apply rD_)); exact rM_ HO_212001.out (fun _ hk => ⟨hk.1.1.1.1.1, ⟨hk.1.1.1.1.2.1, ⟨hk.1.1.1.1.2.2.1, ⟨hk.1.1.1.1.2.2.2.1, ⟨hk.1.1.1.1.2.2.2.2, ⟨hk.1.2, hk.2⟩⟩⟩⟩⟩⟩)⟩, ⟨by (try simp only [hl219000_65]); (try simp only [hl219001_65]); (with_reducible repeat (first | apply rA_ | apply rN_ | apply rD_)); exact rM_ HO_219000.out (fun _ hk => ⟨hk.1.1.1.1.1, ⟨hk.1.1.1.1.2.1, ⟨hk.1.1.1.1.2.2.1, ⟨hk.1.1.1.1.2.2.2.1, ⟨hk.1.1.1.1.2.2.2.2, ⟨hk.1.2, hk.2⟩⟩⟩⟩⟩⟩)⟩, ⟨by (try simp only [hl219000_65]); (try simp only [hl219001_65]); (with_reducible repeat (first | apply rA_ | apply rN_ | apply rD_)); exact rM_ HO_219001.out (fun _ hk => ⟨hk.1.1.1.1.1, ⟨hk.1.1.1.1.2.1, ⟨hk.1.1.1.1.2.2.1, ⟨hk.1.1.1.1.2.2.2.1, ⟨hk.1.1.1.1.2.2.2.2, ⟨hk.1.2, hk.2⟩⟩⟩⟩⟩⟩)⟩, ⟨by (try simp only [hl219000_65]); (try simp only [hl219001_65]); (with_reducible repeat (first | apply rA_ | apply rN_ | apply rD_)); exact rM_ HO_227000.out (fun _ hk => ⟨hk.1.1.1.1.1, ⟨hk.1.1.1.1.2.1, ⟨hk.1.1.1.1.2.2.1, ⟨hk.1.1.1.1.2.2.2.1, ⟨hk.1.1.1.1.2.2.2.2, ⟨hk.1.2, hk.2⟩⟩⟩⟩⟩⟩)⟩, ⟨by (try simp only [hl219000_65]); (try simp only [hl219001_65]); (with_reducible repeat (first | apply rA_ | apply rN_ | apply rD_)); exact rM_ HO_227001.out (fun _ hk => ⟨hk.1.1.1.1.1, ⟨hk.1.1.1.1.2.1, ⟨hk.1.1.1.1.2.2.1, ⟨hk.1.1.1.1.2.2.2.1, ⟨hk.1.1.1.1.2.2.2.2, ⟨hk.1.2, hk.2⟩⟩⟩⟩⟩⟩)⟩, ⟨by (try simp only [hl219000_65]); (try simp only [hl219001_65]); (with_reducible repeat (first | apply rA_ | apply rN_ | apply rD_)); exact rM_ HO251.out (fun _ hk => ⟨hk.1.1.1.1.1.1.1.2, ⟨hk.1.1.1.1.1.1.2, ⟨hk.1.1.1.1.1.2, ⟨hk.1.1.1.1.2, ⟨hk.1.1.1.2, ⟨hk.1.1.2, hk.1.1.1.1.1.1.1.1⟩⟩⟩⟩⟩⟩)⟩, ⟨by (try simp only [hl219000_65]); (try simp only [hl219001_65]); (with_reducible repeat (first | apply rA_ | apply rN_ | apply rD_)); exact rM_ HO254.out (fun _ hk => ⟨hk.1.1.1.1.1.1.1.2, ⟨hk.1.1.1.1.1.1.2, ⟨hk.1.1.1.1.1.2, ⟨hk.1.1.1.1.2, ⟨hk.1.1.1.2, ⟨hk.1.1.2, hk.1.1.1.1.1.1.1.1⟩⟩⟩⟩⟩⟩)⟩, ⟨by (try simp only [hl219000_65]); (try simp only [hl219001_65]); (with_reducible repeat (first | refine kN_ ?_ _ | refine kD_ ?_ | refine kA_ ?_ _)); exact BK196.out⟩, ⟨by (try simp only [hl219000_65]); (try simp only [hl219001_65]); (with_reducible repeat (first | refine kN_ ?_ _ | refine kD_ ?_ | refine kA_ ?_ _)); exact BK211.out⟩, ⟨by (try simp only [hl219000_65]); (try simp only [hl219001_65]); (with_reducible repeat (first | refine kN_ ?_ _ | refine kD_ ?_ | refine kA_ ?_ _)); exact BK218.out⟩, ⟨by (try simp only [hl219000_65]); (try simp only [hl219001_65]); (with_reducible repeat (first | refine kN_ ?_ _ | refine kD_ ?_ | refine kA_ ?_ _)); exact BK226.out⟩, ⟨by (try simp only [hl219000_65]); (try simp only [hl219001_65]); (with_reducible repeat (first | refine kN_ ?_ _ | refine kD_ ?_ | refine kA_ ?_ _)); exact BK256.out⟩, ⟨by repeat (first | (with_reducible first | exact HB.out | apply bA_ | apply bN_ | apply bD_ | refine bS_ ?_ GE196.out | refine bS_ ?_ GE211.out | refine bS_ ?_ GE218.out | refine bS_ ?_ GE226.out | refine bS_ ?_ GE256.out) | exact HB.out)⟩⟩
                        · replace c134 := Bool.eq_false_iff.mpr c134
                          subst c134
                          have H1 : (laws_FnExactAddFloor.j2 kj65 t239 true t240 t241) = some r := by rw [if_neg (show ¬ (false = true) by decide)] at H; exact H
                          clear H
                          have H := H1
                          clear H1
                          have H' := Aside0.mk H
                          clear H
                          have hnb145 := NB256_196.out
                          have hnc145 := NB196_256.out
                          have hnb146 := NB256_211.out
                          have hnc146 := NB211_256.out
                          have hnb147 := NB256_218.out
                          have hnc147 := NB218_256.out
                          have hnb148 := NB256_226.out
                          have hnc148 := NB226_256.out
                          have hcz149_0 : w125.cell? ⟨gb256, 0, none⟩ = some (.slice none 0 0) := (blk_cell BK256.out 0).trans rfl
                          have hcz149_1 : w125.cell? ⟨gb256, 1, none⟩ = some (.slice none 0 0) := (blk_cell BK256.out 1).trans rfl
                          have hfz149_0 := blk_frozen BK256.out 0
                          have hfz149_1 := blk_frozen BK256.out 1
                          have hnb150 := NB211_196.out
                          have hnc150 := NB196_211.out
                          have hnb151 := NB211_218.out
                          have hnc151 := NB218_211.out
                          have hnb152 := NB211_226.out
                          have hnc152 := NB226_211.out
                          have hcz153_0 : w125.cell? ⟨gb211, 0, none⟩ = some (.slice Ao23 t204.length co23) := (blk_cell BK211.out 0).trans rfl
                          have hcz153_1 : w125.cell? ⟨gb211, 1, none⟩ = some (.slice Ao26 t207.length co26) := (blk_cell BK211.out 1).trans rfl
                          have hfz153_0 := blk_frozen BK211.out 0
                          have hfz153_1 := blk_frozen BK211.out 1
                          go_wp2_with (first | ((with_reducible refine gate_callee (f := 19) rfl ?_); refine goesL_ (some 91) rfl rfl Try.func19 (by kernel_rfl) rfl #[.agg #[.slice Ao126 t249.length co126, .slice Ao132 t252.length co132], .agg #[.slice Ao23 t204.length co23, .slice Ao26 t207.length co26]] rfl (by (try simp only [List.map_toArray, List.map_cons, List.map_nil]); first | done | rfl | (simp only [List.length_drop, List.length_take]; rfl)) ?_; (with_reducible refine (laws_eqHouse.calls kj65 _ _ t249 _ _ t252 _ _ t204 _ _ t207 false _ ?side1 ?side2 ?side3 ?side4 ?side5 ?side6 ?side7 ?side8 A133.out).mono ?_); (case side1 => refine (rR_ (e := 3) (base := w.heap.size) (ok := fun k_ => ((((((((some k_ ≠ (.slice Ao132 t252.length co132 : Value).ownBlock ∧ some k_ ≠ (.slice Ao23 t204.length co23 : Value).ownBlock) ∧ some k_ ≠ (.slice Ao26 t207.length co26 : Value).ownBlock) ∧ some k_ ≠ (.slice Ao30 t236.length co30 : Value).ownBlock) ∧ some k_ ≠ (.slice Ao34 t237.length co34 : Value).ownBlock) ∧ some k_ ≠ (.slice Ao37 t219.length co37 : Value).ownBlock) ∧ some k_ ≠ (.slice Ao42 t222.length co42 : Value).ownBlock) ∧ some k_ ≠ (.slice Ao122 t243.length co122 : Value).ownBlock) ∧ some k_ ≠ (.slice Ao123 t246.length co123 : Value).ownBlock)) (n := t249.length) (c := co126) ?_).2.2; exact (by (with_reducible repeat (first | apply rA_ | apply rN_ | apply rD_)); exact (rM_ (rF_ (p := ⟨gb256, 1, none⟩) (rF_ (p := ⟨gb256, 0, none⟩) (Kd.R_types HO251.out BK256.out (by decide)) (fun _ hk => hk.2) (.slice Ao126 t249.length co126)) (fun _ hk => hk.2) (.slice Ao132 t252.length co132)) (fun _ h_ => h_.1)))); (case side2 => exact (rR_ HO251.out).2.1); (case side3 => refine (rR_ (e := 3) (base := w.heap.size) (ok := fun k_ => ((((((((some k_ ≠ (.slice Ao126 t249.length co126 : Value).ownBlock ∧ some k_ ≠ (.slice Ao23 t204.length co23 : Value).ownBlock) ∧ some k_ ≠ (.slice Ao26 t207.length co26 : Value).ownBlock) ∧ some k_ ≠ (.slice Ao30 t236.length co30 : Value).ownBlock) ∧ some k_ ≠ (.slice Ao34 t237.length co34 : Value).ownBlock) ∧ some k_ ≠ (.slice Ao37 t219.length co37 : Value).ownBlock) ∧ some k_ ≠ (.slice Ao42 t222.length co42 : Value).ownBlock) ∧ some k_ ≠ (.slice Ao122 t243.length co122 : Value).ownBlock) ∧ some k_ ≠ (.slice Ao123 t246.length co123 : Value).ownBlock)) (n := t252.length) (c := co132) ?_).2.2; exact (by (with_reducible repeat (first | apply rA_ | apply rN_ | apply rD_)); exact (rM_ (rF_ (p := ⟨gb256, 1, none⟩) (rF_ (p := ⟨gb256, 0, none⟩) (Kd.R_types HO254.out BK256.out (by decide)) (fun _ hk => hk.2) (.slice Ao126 t249.length co126)) (fun _ hk => hk.2) (.slice Ao132 t252.length co132)) (fun _ h_ => h_.1)))); (case side4 => exact (rR_ HO254.out).2.1); (case side5 => refine (rR_ (e := 3) (base := w.heap.size) (ok := fun k_ => (((((some k_ ≠ (.slice Ao26 t207.length co26 : Value).ownBlock ∧ (some k_ ≠ (.slice Ao30 t236.length co30 : Value).ownBlock ∧ (some k_ ≠ (.slice Ao34 t237.length co34 : Value).ownBlock ∧ (some k_ ≠ (.slice Ao37 t219.length co37 : Value).ownBlock ∧ some k_ ≠ (.slice Ao42 t222.length co42 : Value).ownBlock)))) ∧ some k_ ≠ (.slice Ao122 t243.length co122 : Value).ownBlock) ∧ some k_ ≠ (.slice Ao123 t246.length co123 : Value).ownBlock) ∧ some k_ ≠ (.slice Ao126 t249.length co126 : Value).ownBlock) ∧ some k_ ≠ (.slice Ao132 t252.length co132 : Value).ownBlock)) (n := t204.length) (c := co23) ?_).2.2; exact (by (with_reducible repeat (first | apply rA_ | apply rN_ | apply rD_)); exact (rM_ (rF_ (p := ⟨gb256, 1, none⟩) (rF_ (p := ⟨gb256, 0, none⟩) (Kd.R_types HO_212000.out BK256.out (by decide)) (fun _ hk => hk.2) (.slice Ao126 t249.length co126)) (fun _ hk => hk.2) (.slice Ao132 t252.length co132)) (fun _ h_ => h_.1)))); (case side6 => exact (rR_ HO_212000.out).2.1); (case side7 => refine (rR_ (e := 3) (base := w.heap.size) (ok := fun k_ => (((((some k_ ≠ (.slice Ao23 t204.length co23 : Value).ownBlock ∧ (some k_ ≠ (.slice Ao30 t236.length co30 : Value).ownBlock ∧ (some k_ ≠ (.slice Ao34 t237.length co34 : Value).ownBlock ∧ (some k_ ≠ (.slice Ao37 t219.length co37 : Value).ownBlock ∧ some k_ ≠ (.slice Ao42 t222.length co42 : Value).ownBlock)))) ∧ some k_ ≠ (.slice Ao122 t243.length co122 : Value).ownBlock) ∧ some k_ ≠ (.slice Ao123 t246.length co123 : Value).ownBlock) ∧ some k_ ≠ (.slice Ao126 t249.length co126 : Value).ownBlock) ∧ some k_ ≠ (.slice Ao132 t252.length co132 : Value).ownBlock)) (n := t207.length) (c := co26) ?_).2.2; exact (by (with_reducible repeat (first | apply rA_ | apply rN_ | apply rD_)); exact (rM_ (rF_ (p := ⟨gb256, 1, none⟩) (rF_ (p := ⟨gb256, 0, none⟩) (Kd.R_types HO_212001.out BK256.out (by decide)) (fun _ hk => hk.2) (.slice Ao126 t249.length co126)) (fun _ hk => hk.2) (.slice Ao132 t252.length co132)) (fun _ h_ => h_.1)))); (case side8 => exact (rR_ HO_212001.out).2.1); rintro e w154 ⟨rfl, hb⟩; refine ⟨_, rfl, ?_⟩; have n0_ := Aside0.mk (rB_ (by (with_reducible repeat (first | apply rA_ | apply rN_ | apply rD_)); exact (rM_ (rF_ (p := ⟨gb256, 1, none⟩) (rF_ (p := ⟨gb256, 0, none⟩) (Kd.R_types HO_212000.out BK256.out (by decide)) (fun _ hk => hk.2) (.slice Ao126 t249.length co126)) (fun _ hk => hk.2) (.slice Ao132 t252.length co132)) (fun _ h_ => h_.1))) hb); have n1_ := Aside0.mk (rB_ (by (with_reducible repeat (first | apply rA_ | apply rN_ | apply rD_)); exact (rM_ (rF_ (p := ⟨gb256, 1, none⟩) (rF_ (p := ⟨gb256, 0, none⟩) (Kd.R_types HO_212001.out BK256.out (by decide)) (fun _ hk => hk.2) (.slice Ao126 t249.length co126)) (fun _ hk => hk.2) (.slice Ao132 t252.length co132)) (fun _ h_ => h_.1))) hb); have n2_ := Aside0.mk (rB_ (by (with_reducible repeat (first | apply rA_ | apply rN_ | apply rD_)); exact (rM_ (rF_ (p := ⟨gb256, 1, none⟩) (rF_ (p := ⟨gb256, 0, none⟩) (Kd.R_types HO_219000.out BK256.out (by decide)) (fun _ hk => hk.2) (.slice Ao126 t249.length co126)) (fun _ hk => hk.2) (.slice Ao132 t252.length co132)) (fun _ h_ => h_.1))) hb); have n3_ := Aside0.mk (rB_ (by (with_reducible repeat (first | apply rA_ | apply rN_ | apply rD_)); exact (rM_ (rF_ (p := ⟨gb256, 1, none⟩) (rF_ (p := ⟨gb256, 0, none⟩) (Kd.R_types HO_219001.out BK256.out (by decide)) (fun _ hk => hk.2) (.slice Ao126 t249.length co126)) (fun _ hk => hk.2) (.slice Ao132 t252.length co132)) (fun _ h_ => h_.1))) hb); have n4_ := Aside0.mk (rB_ (by (with_reducible repeat (first | apply rA_ | apply rN_ | apply rD_)); exact (rM_ (rF_ (p := ⟨gb256, 1, none⟩) (rF_ (p := ⟨gb256, 0, none⟩) (Kd.R_types HO_227000.out BK256.out (by decide)) (fun _ hk => hk.2) (.slice Ao126 t249.length co126)) (fun _ hk => hk.2) (.slice Ao132 t252.length co132)) (fun _ h_ => h_.1))) hb); have n5_ := Aside0.mk (rB_ (by (with_reducible repeat (first | apply rA_ | apply rN_ | apply rD_)); exact (rM_ (rF_ (p := ⟨gb256, 1, none⟩) (rF_ (p := ⟨gb256, 0, none⟩) (Kd.R_types HO_227001.out BK256.out (by decide)) (fun _ hk => hk.2) (.slice Ao126 t249.length co126)) (fun _ hk => hk.2) (.slice Ao132 t252.length co132)) (fun _ h_ => h_.1))) hb); have n6_ := Aside0.mk (rB_ (by (with_reducible repeat (first | apply rA_ | apply rN_ | apply rD_)); exact (rM_ (rF_ (p := ⟨gb256, 1, none⟩) (rF_ (p := ⟨gb256, 0, none⟩) (Kd.R_types HO245.out BK256.out (by decide)) (fun _ hk => hk.2) (.slice Ao126 t249.length co126)) (fun _ hk => hk.2) (.slice Ao132 t252.length co132)) (fun _ h_ => h_.1))) hb); have n7_ := Aside0.mk (rB_ (by (with_reducible repeat (first | apply rA_ | apply rN_ | apply rD_)); exact (rM_ (rF_ (p := ⟨gb256, 1, none⟩) (rF_ (p := ⟨gb256, 0, none⟩) (Kd.R_types HO248.out BK256.out (by decide)) (fun _ hk => hk.2) (.slice Ao126 t249.length co126)) (fun _ hk => hk.2) (.slice Ao132 t252.length co132)) (fun _ h_ => h_.1))) hb); have n8_ := Aside0.mk (rB_ (by (with_reducible repeat (first | apply rA_ | apply rN_ | apply rD_)); exact (rM_ (rF_ (p := ⟨gb256, 1, none⟩) (rF_ (p := ⟨gb256, 0, none⟩) (Kd.R_types HO251.out BK256.out (by decide)) (fun _ hk => hk.2) (.slice Ao126 t249.length co126)) (fun _ hk => hk.2) (.slice Ao132 t252.length co132)) (fun _ h_ => h_.1))) hb); have n9_ := Aside0.mk (rB_ (by (with_reducible repeat (first | apply rA_ | apply rN_ | apply rD_)); exact (rM_ (rF_ (p := ⟨gb256, 1, none⟩) (rF_ (p := ⟨gb256, 0, none⟩) (Kd.R_types HO254.out BK256.out (by decide)) (fun _ hk => hk.2) (.slice Ao126 t249.length co126)) (fun _ hk => hk.2) (.slice Ao132 t252.length co132)) (fun _ h_ => h_.1))) hb); have n10_ := Aside0.mk (blk_below (g := gb196) (o := .cells #[.slice A0_0 l0_0.length c0_0, .slice A0_1 l0_1.length c0_1] 24 (0, 0)) (by (with_reducible repeat (first | refine kN_ ?_ _ | refine kD_ ?_ | refine kA_ ?_ _)); refine blk_far ?_ NB196_256.out _; (with_reducible repeat (first | refine kN_ ?_ _ | refine kD_ ?_ | refine kA_ ?_ _)); refine blk_far ?_ NB196_256.out _; (with_reducible repeat (first | refine kN_ ?_ _ | refine kD_ ?_ | refine kA_ ?_ _)); exact BK196.out) hb); have n11_ := Aside0.mk (blk_below (g := gb211) (o := .cells #[.slice Ao23 t204.length co23, .slice Ao26 t207.length co26] 27 (0, 0)) (by (with_reducible repeat (first | refine kN_ ?_ _ | refine kD_ ?_ | refine kA_ ?_ _)); refine blk_far ?_ NB211_256.out _; (with_reducible repeat (first | refine kN_ ?_ _ | refine kD_ ?_ | refine kA_ ?_ _)); refine blk_far ?_ NB211_256.out _; (with_reducible repeat (first | refine kN_ ?_ _ | refine kD_ ?_ | refine kA_ ?_ _)); exact BK211.out) hb); have n12_ := Aside0.mk (blk_below (g := gb218) (o := .cells #[.slice Ao30 t236.length co30, .slice Ao34 t237.length co34] 27 (0, 0)) (by (with_reducible repeat (first | refine kN_ ?_ _ | refine kD_ ?_ | refine kA_ ?_ _)); refine blk_far ?_ NB218_256.out _; (with_reducible repeat (first | refine kN_ ?_ _ | refine kD_ ?_ | refine kA_ ?_ _)); refine blk_far ?_ NB218_256.out _; (with_reducible repeat (first | refine kN_ ?_ _ | refine kD_ ?_ | refine kA_ ?_ _)); exact BK218.out) hb); have n13_ := Aside0.mk (blk_below (g := gb226) (o := .cells #[.slice Ao37 t219.length co37, .slice Ao42 t222.length co42] 27 (0, 0)) (by (with_reducible repeat (first | refine kN_ ?_ _ | refine kD_ ?_ | refine kA_ ?_ _)); refine blk_far ?_ NB226_256.out _; (with_reducible repeat (first | refine kN_ ?_ _ | refine kD_ ?_ | refine kA_ ?_ _)); refine blk_far ?_ NB226_256.out _; (with_reducible repeat (first | refine kN_ ?_ _ | refine kD_ ?_ | refine kA_ ?_ _)); exact BK226.out) hb); have n14_ := Aside0.mk (blk_below (g := gb256) (o := .cells #[.slice Ao126 t249.length co126, .slice Ao132 t252.length co132] 27 (0, 0)) (by (with_reducible repeat (first | refine kN_ ?_ _ | refine kD_ ?_ | refine kA_ ?_ _)); refine blk_put (cs := #[.slice Ao126 t249.length co126, .slice none 0 0]) ?_ 1 _ rfl; (with_reducible repeat (first | refine kN_ ?_ _ | refine kD_ ?_ | refine kA_ ?_ _)); refine blk_put (cs := #[.slice none 0 0, .slice none 0 0]) ?_ 0 _ rfl; (with_reducible repeat (first | refine kN_ ?_ _ | refine kD_ ?_ | refine kA_ ?_ _)); exact BK256.out) hb); have n15_ := Aside0.mk (below_step (by repeat (first | (with_reducible first | exact HB.out | apply bA_ | apply bN_ | apply bD_ | refine bS_ ?_ GE196.out | refine bS_ ?_ GE211.out | refine bS_ ?_ GE218.out | refine bS_ ?_ GE226.out | refine bS_ ?_ GE256.out) | exact HB.out)) hb); clear HO_212000; clear HO_212001; clear HO_219000; clear HO_219001; clear HO_227000; clear HO_227001; clear HO245; clear HO248; clear HO251; clear HO254; clear BK196; clear BK211; clear BK218; clear BK226; clear BK256; clear HB; have HO_212000 := n0_; have HO_212001 := n1_; have HO_219000 := n2_; have HO_219001 := n3_; have HO_227000 := n4_; have HO_227001 := n5_; have HO245 := n6_; have HO248 := n7_; have HO251 := n8_; have HO254 := n9_; have BK196 := n10_; have BK211 := n11_; have BK218 := n12_; have BK226 := n13_; have BK256 := n14_; have HB := n15_; clear n0_ n1_ n2_ n3_ n4_ n5_ n6_ n7_ n8_ n9_ n10_ n11_ n12_ n13_ n14_ n15_; (try clear hb); (try clear hb2); (try clear hk); (try clear hi)))
                          go_meet
                          case rel => exact ⟨_, (true), (by first | rfl | (simp; done) | (simp [*]; done)), H', ⟨by have := HJ12.out; have := HJ65.out; first | omega | exact Nat.le_refl _⟩, ⟨by (try simp only [hl219000_65]); (try simp only [hl219001_65]); (with_reducible repeat (first | apply rA_ | apply rN_ | apply rD_)); exact rM_ HO_212000.out (fun _ hk => ⟨hk.1.1.1.1.1, ⟨hk.1.1.1.1.2.1, ⟨hk.1.1.1.1.2.2.1, ⟨hk.1.1.1.1.2.2.2.1, ⟨hk.1.1.1.1.2.2.2.2, ⟨hk.1.2, hk.2⟩⟩⟩⟩⟩⟩)⟩, ⟨by (try simp only [hl219000_65]); (try simp only [hl219001_65]); (with_reducible repeat (first | apply rA_ | apply rN_ | apply rD_)); exact rM_ HO_212001.out (fun _ hk => ⟨hk.1.1.1.1.1, ⟨hk.1.1.1.1.2.1, ⟨hk.1.1.1.1.2.2.1, ⟨hk.1.1.1.1.2.2.2.1, ⟨hk.1.1.1.1.2.2.2.2, ⟨hk.1.2, hk.2⟩⟩⟩⟩⟩⟩)⟩, ⟨by (try simp only [hl219000_65]); (try simp only [hl219001_65]); (with_reducible repeat (first | apply rA_ | apply rN_ | apply rD_)); exact rM_ HO_219000.out (fun _ hk => ⟨hk.1.1.1.1.1, ⟨hk.1.1.1.1.2.1, ⟨hk.1.1.1.1.2.2.1, ⟨hk.1.1.1.1.2.2.2.1, ⟨hk.1.1.1.1.2.2.2.2, ⟨hk.1.2, hk.2⟩⟩⟩⟩⟩⟩)⟩, ⟨by (try simp only [hl219000_65]); (try simp only [hl219001_65]); (with_reducible repeat (first | apply rA_ | apply rN_ | apply rD_)); exact rM_ HO_219001.out (fun _ hk => ⟨hk.1.1.1.1.1, ⟨hk.1.1.1.1.2.1, ⟨hk.1.1.1.1.2.2.1, ⟨hk.1.1.1.1.2.2.2.1, ⟨hk.1.1.1.1.2.2.2.2, ⟨hk.1.2, hk.2⟩⟩⟩⟩⟩⟩)⟩, ⟨by (try simp only [hl219000_65]); (try simp only [hl219001_65]); (with_reducible repeat (first | apply rA_ | apply rN_ | apply rD_)); exact rM_ HO_227000.out (fun _ hk => ⟨hk.1.1.1.1.1, ⟨hk.1.1.1.1.2.1, ⟨hk.1.1.1.1.2.2.1, ⟨hk.1.1.1.1.2.2.2.1, ⟨hk.1.1.1.1.2.2.2.2, ⟨hk.1.2, hk.2⟩⟩⟩⟩⟩⟩)⟩, ⟨by (try simp only [hl219000_65]); (try simp only [hl219001_65]); (with_reducible repeat (first | apply rA_ | apply rN_ | apply rD_)); exact rM_ HO_227001.out (fun _ hk => ⟨hk.1.1.1.1.1, ⟨hk.1.1.1.1.2.1, ⟨hk.1.1.1.1.2.2.1, ⟨hk.1.1.1.1.2.2.2.1, ⟨hk.1.1.1.1.2.2.2.2, ⟨hk.1.2, hk.2⟩⟩⟩⟩⟩⟩)⟩, ⟨by (try simp only [hl219000_65]); (try simp only [hl219001_65]); (with_reducible repeat (first | apply rA_ | apply rN_ | apply rD_)); exact rM_ HO251.out (fun _ hk => ⟨hk.1.1.1.1.1.1.1.2, ⟨hk.1.1.1.1.1.1.2, ⟨hk.1.1.1.1.1.2, ⟨hk.1.1.1.1.2, ⟨hk.1.1.1.2, ⟨hk.1.1.2, hk.1.1.1.1.1.1.1.1⟩⟩⟩⟩⟩⟩)⟩, ⟨by (try simp only [hl219000_65]); (try simp only [hl219001_65]); (with_reducible repeat (first | apply rA_ | apply rN_ | apply rD_)); exact rM_ HO254.out (fun _ hk => ⟨hk.1.1.1.1.1.1.1.2, ⟨hk.1.1.1.1.1.1.2, ⟨hk.1.1.1.1.1.2, ⟨hk.1.1.1.1.2, ⟨hk.1.1.1.2, ⟨hk.1.1.2, hk.1.1.1.1.1.1.1.1⟩⟩⟩⟩⟩⟩)⟩, ⟨by (try simp only [hl219000_65]); (try simp only [hl219001_65]); (with_reducible repeat (first | refine kN_ ?_ _ | refine kD_ ?_ | refine kA_ ?_ _)); exact BK196.out⟩, ⟨by (try simp only [hl219000_65]); (try simp only [hl219001_65]); (with_reducible repeat (first | refine kN_ ?_ _ | refine kD_ ?_ | refine kA_ ?_ _)); exact BK211.out⟩, ⟨by (try simp only [hl219000_65]); (try simp only [hl219001_65]); (with_reducible repeat (first | refine kN_ ?_ _ | refine kD_ ?_ | refine kA_ ?_ _)); exact BK218.out⟩, ⟨by (try simp only [hl219000_65]); (try simp only [hl219001_65]); (with_reducible repeat (first | refine kN_ ?_ _ | refine kD_ ?_ | refine kA_ ?_ _)); exact BK226.out⟩, ⟨by (try simp only [hl219000_65]); (try simp only [hl219001_65]); (with_reducible repeat (first | refine kN_ ?_ _ | refine kD_ ?_ | refine kA_ ?_ _)); exact BK256.out⟩, ⟨by repeat (first | (with_reducible first | exact HB.out | apply bA_ | apply bN_ | apply bD_ | refine bS_ ?_ GE196.out | refine bS_ ?_ GE211.out | refine bS_ ?_ GE218.out | refine bS_ ?_ GE226.out | refine bS_ ?_ GE256.out) | exact HB.out)⟩⟩
                      case rest =>
                        clear HC110
                        try clear c1
                        try clear c2
                        try clear p2
                        try clear c3
                        try clear c4
                        try clear c5
                        try clear c5b0
                        try clear c6
                        try clear c7
                        try clear c8
                        try clear c9
                        try clear c10
                        try clear c11
                        try clear c12
                        try clear c13
                        try clear c14
                        try clear c15
                        try clear c17
                        try clear c19
                        try clear c24
                        try clear c31
                        try clear c32
                        try clear c38
                        try clear c39
                        try clear c40
                        try clear c42
                        try clear c43
                        try clear c44
                        try clear c45
                        try clear c46
                        try clear c47
                        try clear c49
                        try clear c50
                        try clear c53
                        try clear c54
                        try clear c55
                        try clear c57
                        try clear c58
                        try clear c61
                        try clear c64
                        try clear c72
                        try clear c73
                        try clear c74
                        try clear c77
                        try clear c77b0
                        try clear c79
                        try clear c80
                        try clear c81
                        try clear c82
                        try clear c84
                        try clear c85
                        try clear c88
                        try clear c89
                        try clear c90
                        try clear c92
                        try clear c93
                        try clear c96
                        try clear c99
                        try clear c99b0
                        try clear c100
                        try clear c101
                        try clear c102
                        try clear c107
                        try clear c107b0
                        try clear c107b1
                        try clear c111
                        try clear c112
                        try clear c113
                        try clear c118
                        try clear c119
                        try clear c127
                        try clear c128
                        try clear c129
                        try clear c130
                        try clear c134
                        try clear c135
                        try clear c136
                        try clear c137
                        try clear c138
                        try clear c140
                        try clear c141
                        try clear c142
                        try clear c145
                        try clear c146
                        try clear c147
                        try clear c148
                        try clear c150
                        try clear c151
                        try clear c152
                        try clear hcz103_0
                        try clear hcz103_1
                        try clear hcz105_0
                        try clear hcz105_1
                        try clear hcz114_0
                        try clear hcz114_1
                        try clear hcz116_0
                        try clear hcz116_1
                        try clear hcz120_0
                        try clear hcz120_1
                        try clear hcz131_0
                        try clear hcz131_1
                        try clear hcz139_0
                        try clear hcz139_1
                        try clear hcz143_0
                        try clear hcz143_1
                        try clear hcz149_0
                        try clear hcz149_1
                        try clear hcz153_0
                        try clear hcz153_1
                        try clear hcz15_0
                        try clear hcz15_1
                        try clear hcz17_0
                        try clear hcz17_1
                        try clear hcz25_0
                        try clear hcz25_1
                        try clear hcz27_0
                        try clear hcz27_1
                        try clear hcz33_0
                        try clear hcz33_1
                        try clear hcz41_0
                        try clear hcz41_1
                        try clear hcz48_0
                        try clear hcz48_1
                        try clear hcz51_0
                        try clear hcz51_1
                        try clear hcz56_0
                        try clear hcz56_1
                        try clear hcz59_0
                        try clear hcz59_1
                        try clear hcz75_0
                        try clear hcz75_1
                        try clear hcz7_0
                        try clear hcz7_1
                        try clear hcz83_0
                        try clear hcz83_1
                        try clear hcz86_0
                        try clear hcz86_1
                        try clear hcz91_0
                        try clear hcz91_1
                        try clear hcz94_0
                        try clear hcz94_1
                        try clear hfz103_0
                        try clear hfz103_1
                        try clear hfz105_0
                        try clear hfz105_1
                        try clear hfz114_0
                        try clear hfz114_1
                        try clear hfz116_0
                        try clear hfz116_1
                        try clear hfz120_0
                        try clear hfz120_1
                        try clear hfz131_0
                        try clear hfz131_1
                        try clear hfz139_0
                        try clear hfz139_1
                        try clear hfz143_0
                        try clear hfz143_1
                        try clear hfz149_0
                        try clear hfz149_1
                        try clear hfz153_0
                        try clear hfz153_1
                        try clear hfz15_0
                        try clear hfz15_1
                        try clear hfz17_0
                        try clear hfz17_1
                        try clear hfz25_0
                        try clear hfz25_1
                        try clear hfz27_0
                        try clear hfz27_1
                        try clear hfz33_0
                        try clear hfz33_1
                        try clear hfz41_0
                        try clear hfz41_1
                        try clear hfz48_0
                        try clear hfz48_1
                        try clear hfz51_0
                        try clear hfz51_1
                        try clear hfz56_0
                        try clear hfz56_1
                        try clear hfz59_0
                        try clear hfz59_1
                        try clear hfz75_0
                        try clear hfz75_1
                        try clear hfz7_0
                        try clear hfz7_1
                        try clear hfz83_0
                        try clear hfz83_1
                        try clear hfz86_0
                        try clear hfz86_1
                        try clear hfz91_0
                        try clear hfz91_1
                        try clear hfz94_0
                        try clear hfz94_1
                        try clear p2
                        obtain ⟨kq, x97_109, rfl, HA, HJ109, HO_212000, HO_212001, HO_219000, HO_219001, HO_227000, HO_227001, HO_257000, HO_257001, BK196, BK211, BK218, BK226, BK256, HB⟩ := hcut
                        have hl227000_109 := (rR_ HO_227000.out).1
                        rw [hl227000_109] at HO_227000
                        (try simp only [hl227000_109])
                        (try simp only [hl227000_109] at BK196)
                        (try simp only [hl227000_109] at BK211)
                        (try simp only [hl227000_109] at BK218)
                        (try simp only [hl227000_109] at BK226)
                        (try simp only [hl227000_109] at BK256)
                        (try simp only [hl227000_109] at HO_212000)
                        (try simp only [hl227000_109] at HO_212001)
                        (try simp only [hl227000_109] at HO_219000)
                        (try simp only [hl227000_109] at HO_219001)
                        (try simp only [hl227000_109] at HO_227001)
                        (try simp only [hl227000_109] at HO_257000)
                        (try simp only [hl227000_109] at HO_257001)
                        have hl227001_109 := (rR_ HO_227001.out).1
                        rw [hl227001_109] at HO_227001
                        (try simp only [hl227001_109])
                        (try simp only [hl227001_109] at BK196)
                        (try simp only [hl227001_109] at BK211)
                        (try simp only [hl227001_109] at BK218)
                        (try simp only [hl227001_109] at BK226)
                        (try simp only [hl227001_109] at BK256)
                        (try simp only [hl227001_109] at HO_212000)
                        (try simp only [hl227001_109] at HO_212001)
                        (try simp only [hl227001_109] at HO_219000)
                        (try simp only [hl227001_109] at HO_219001)
                        (try simp only [hl227001_109] at HO_227000)
                        (try simp only [hl227001_109] at HO_257000)
                        (try simp only [hl227001_109] at HO_257001)
                        cases kq with
                        | zero => exact absurd HA.out (by simp [laws_FnExactAddFloor.j2])
                        | succ kj109 =>
                          have H := HA.out
                          clear HA
                          simp only [laws_FnExactAddFloor.j2] at H
                          by_cases c155 : x97_109 = true
                          · subst c155
                            have H1 : (some false) = some r := by rw [if_pos rfl] at H; exact H
                            clear H
                            have H := H1
                            clear H1
                            obtain rfl := Option.some.inj H
                            go_wp2
                            go_ret
                            exact ⟨by first | rfl | (simp [errW_none, errW_some] <;> rfl) | (simp [*, errW_none, errW_some] <;> rfl), by repeat (first | (with_reducible first | exact HB.out | apply bA_ | apply bN_ | apply bD_ | refine bS_ ?_ GE196.out | refine bS_ ?_ GE211.out | refine bS_ ?_ GE218.out | refine bS_ ?_ GE226.out | refine bS_ ?_ GE256.out) | exact HB.out)⟩
                          · replace c155 := Bool.eq_false_iff.mpr c155
                            subst c155
                            have H1 : ((laws_heldHouse.f kj109 t240 t241 1).bind fun t258 => (if t258 < 0 then (some false) else (if t258 = t239 then (some true) else (some false)))) = some r := by rw [if_neg (show ¬ (false = true) by decide)] at H; exact H
                            clear H
                            have H := H1
                            clear H1
                            replace H := Option.bind_eq_some_iff.mp H
                            obtain ⟨t258, A1560, H⟩ := H
                            replace H : (if t258 < 0 then (some false) else (if t258 = t239 then (some true) else (some false))) = some r := H
                            have A156 := Aside0.mk A1560
                            clear A1560
                            by_cases c157 : t258 < 0
                            · rw [if_pos c157] at H
                              have c157b0 : decide (t258 < 0) = true := decide_eq_true c157
                              clear c157
                              obtain rfl := Option.some.inj H
                              have hnb158 := NB226_196.out
                              have hnc158 := NB196_226.out
                              have hnb159 := NB226_211.out
                              have hnc159 := NB211_226.out
                              have hnb160 := NB226_218.out
                              have hnc160 := NB218_226.out
                              have hnb161 := NB226_256.out
                              have hnc161 := NB256_226.out
                              have hcz162_0 : wc.cell? ⟨gb226, 0, none⟩ = some (.slice Ao37 t240.length co37) := (blk_cell BK226.out 0).trans rfl
                              have hcz162_1 : wc.cell? ⟨gb226, 1, none⟩ = some (.slice Ao42 t241.length co42) := (blk_cell BK226.out 1).trans rfl
                              have hfz162_0 := blk_frozen BK226.out 0
                              have hfz162_1 := blk_frozen BK226.out 1
                              go_wp2_with (first | ((with_reducible refine gate_callee (f := 44) rfl ?_); refine goesL_ (some 100) rfl rfl Try.func44 (by kernel_rfl) rfl #[.agg #[.slice Ao37 t240.length co37, .slice Ao42 t241.length co42], .int .i64 1] rfl (by (try simp only [List.map_toArray, List.map_cons, List.map_nil]); first | done | rfl | (simp only [List.length_drop, List.length_take]; rfl)) ?_; (with_reducible refine (laws_heldHouse.calls kj109 _ _ t240 _ _ t241 1 t258 _ ?side1 ?side2 ?side3 ?side4 A156.out).mono ?_); (case side1 => repeat (first | exact (rR_ HO_227000.out).2.2 | (with_reducible refine Kd.C_alloc ?_ _) | (with_reducible refine Kd.C_drewN ?_ _) | (with_reducible refine Kd.C_drew ?_))); (case side2 => exact (rR_ HO_227000.out).2.1); (case side3 => repeat (first | exact (rR_ HO_227001.out).2.2 | (with_reducible refine Kd.C_alloc ?_ _) | (with_reducible refine Kd.C_drewN ?_ _) | (with_reducible refine Kd.C_drew ?_))); (case side4 => exact (rR_ HO_227001.out).2.1); rintro e w163 ⟨rfl, hb⟩; refine ⟨_, rfl, ?_⟩; have n0_ := Aside0.mk (rB_ (by (with_reducible repeat (first | apply rA_ | apply rN_ | apply rD_)); exact HO_212000.out) hb); have n1_ := Aside0.mk (rB_ (by (with_reducible repeat (first | apply rA_ | apply rN_ | apply rD_)); exact HO_212001.out) hb); have n2_ := Aside0.mk (rB_ (by (with_reducible repeat (first | apply rA_ | apply rN_ | apply rD_)); exact HO_219000.out) hb); have n3_ := Aside0.mk (rB_ (by (with_reducible repeat (first | apply rA_ | apply rN_ | apply rD_)); exact HO_219001.out) hb); have n4_ := Aside0.mk (rB_ (by (with_reducible repeat (first | apply rA_ | apply rN_ | apply rD_)); exact HO_227000.out) hb); have n5_ := Aside0.mk (rB_ (by (with_reducible repeat (first | apply rA_ | apply rN_ | apply rD_)); exact HO_227001.out) hb); have n6_ := Aside0.mk (rB_ (by (with_reducible repeat (first | apply rA_ | apply rN_ | apply rD_)); exact HO_257000.out) hb); have n7_ := Aside0.mk (rB_ (by (with_reducible repeat (first | apply rA_ | apply rN_ | apply rD_)); exact HO_257001.out) hb); have n8_ := Aside0.mk (blk_below (g := gb196) (o := .cells #[.slice A0_0 l0_0.length c0_0, .slice A0_1 l0_1.length c0_1] 24 (0, 0)) (by (with_reducible repeat (first | refine kN_ ?_ _ | refine kD_ ?_ | refine kA_ ?_ _)); exact BK196.out) hb); have n9_ := Aside0.mk (blk_below (g := gb211) (o := .cells #[.slice Ao23 t204.length co23, .slice Ao26 t207.length co26] 27 (0, 0)) (by (with_reducible repeat (first | refine kN_ ?_ _ | refine kD_ ?_ | refine kA_ ?_ _)); exact BK211.out) hb); have n10_ := Aside0.mk (blk_below (g := gb218) (o := .cells #[.slice Ao30 t236.length co30, .slice Ao34 t237.length co34] 27 (0, 0)) (by (with_reducible repeat (first | refine kN_ ?_ _ | refine kD_ ?_ | refine kA_ ?_ _)); exact BK218.out) hb); have n11_ := Aside0.mk (blk_below (g := gb226) (o := .cells #[.slice Ao37 t240.length co37, .slice Ao42 t241.length co42] 27 (0, 0)) (by (with_reducible repeat (first | refine kN_ ?_ _ | refine kD_ ?_ | refine kA_ ?_ _)); exact BK226.out) hb); have n12_ := Aside0.mk (blk_below (g := gb256) (o := .cells #[.slice Ao126 t249.length co126, .slice Ao132 t252.length co132] 27 (0, 0)) (by (with_reducible repeat (first | refine kN_ ?_ _ | refine kD_ ?_ | refine kA_ ?_ _)); exact BK256.out) hb); have n13_ := Aside0.mk (below_step (by repeat (first | (with_reducible first | exact HB.out | apply bA_ | apply bN_ | apply bD_ | refine bS_ ?_ GE196.out | refine bS_ ?_ GE211.out | refine bS_ ?_ GE218.out | refine bS_ ?_ GE226.out | refine bS_ ?_ GE256.out) | exact HB.out)) hb); clear HO_212000; clear HO_212001; clear HO_219000; clear HO_219001; clear HO_227000; clear HO_227001; clear HO_257000; clear HO_257001; clear BK196; clear BK211; clear BK218; clear BK226; clear BK256; clear HB; have HO_212000 := n0_; have HO_212001 := n1_; have HO_219000 := n2_; have HO_219001 := n3_; have HO_227000 := n4_; have HO_227001 := n5_; have HO_257000 := n6_; have HO_257001 := n7_; have BK196 := n8_; have BK211 := n9_; have BK218 := n10_; have BK226 := n11_; have BK256 := n12_; have HB := n13_; clear n0_ n1_ n2_ n3_ n4_ n5_ n6_ n7_ n8_ n9_ n10_ n11_ n12_ n13_; (try clear hb); (try clear hb2); (try clear hk); (try clear hi)))
                              go_ret
                              exact ⟨by first | rfl | (simp [errW_none, errW_some] <;> rfl) | (simp [*, errW_none, errW_some] <;> rfl), by repeat (first | (with_reducible first | exact HB.out | apply bA_ | apply bN_ | apply bD_ | refine bS_ ?_ GE196.out | refine bS_ ?_ GE211.out | refine bS_ ?_ GE218.out | refine bS_ ?_ GE226.out | refine bS_ ?_ GE256.out) | exact HB.out)⟩
                            · rw [if_neg c157] at H
                              have c157b0 : decide (t258 < 0) = false := decide_eq_false c157
                              clear c157
                              by_cases c164 : t258 = t239
                              · rw [if_pos c164] at H
                                have c164b0 : (t258 == t239) = true := beq_iff_eq.mpr c164
                                have c164b1 : (t258 != t239) = false := bne_eq_false_iff_eq.mpr c164
                                clear c164
                                obtain rfl := Option.some.inj H
                                have hnb165 := NB226_196.out
                                have hnc165 := NB196_226.out
                                have hnb166 := NB226_211.out
                                have hnc166 := NB211_226.out
                                have hnb167 := NB226_218.out
                                have hnc167 := NB218_226.out
                                have hnb168 := NB226_256.out
                                have hnc168 := NB256_226.out
                                have hcz169_0 : wc.cell? ⟨gb226, 0, none⟩ = some (.slice Ao37 t240.length co37) := (blk_cell BK226.out 0).trans rfl
                                have hcz169_1 : wc.cell? ⟨gb226, 1, none⟩ = some (.slice Ao42 t241.length co42) := (blk_cell BK226.out 1).trans rfl
                                have hfz169_0 := blk_frozen BK226.out 0
                                have hfz169_1 := blk_frozen BK226.out 1
                                go_wp2_with (first | ((with_reducible refine gate_callee (f := 44) rfl ?_); refine goesL_ (some 100) rfl rfl Try.func44 (by kernel_rfl) rfl #[.agg #[.slice Ao37 t240.length co37, .slice Ao42 t241.length co42], .int .i64 1] rfl (by (try simp only [List.map_toArray, List.map_cons, List.map_nil]); first | done | rfl | (simp only [List.length_drop, List.length_take]; rfl)) ?_; (with_reducible refine (laws_heldHouse.calls kj109 _ _ t240 _ _ t241 1 t258 _ ?side1 ?side2 ?side3 ?side4 A156.out).mono ?_); (case side1 => repeat (first | exact (rR_ HO_227000.out).2.2 | (with_reducible refine Kd.C_alloc ?_ _) | (with_reducible refine Kd.C_drewN ?_ _) | (with_reducible refine Kd.C_drew ?_))); (case side2 => exact (rR_ HO_227000.out).2.1); (case side3 => repeat (first | exact (rR_ HO_227001.out).2.2 | (with_reducible refine Kd.C_alloc ?_ _) | (with_reducible refine Kd.C_drewN ?_ _) | (with_reducible refine Kd.C_drew ?_))); (case side4 => exact (rR_ HO_227001.out).2.1); rintro e w170 ⟨rfl, hb⟩; refine ⟨_, rfl, ?_⟩; have n0_ := Aside0.mk (rB_ (by (with_reducible repeat (first | apply rA_ | apply rN_ | apply rD_)); exact HO_212000.out) hb); have n1_ := Aside0.mk (rB_ (by (with_reducible repeat (first | apply rA_ | apply rN_ | apply rD_)); exact HO_212001.out) hb); have n2_ := Aside0.mk (rB_ (by (with_reducible repeat (first | apply rA_ | apply rN_ | apply rD_)); exact HO_219000.out) hb); have n3_ := Aside0.mk (rB_ (by (with_reducible repeat (first | apply rA_ | apply rN_ | apply rD_)); exact HO_219001.out) hb); have n4_ := Aside0.mk (rB_ (by (with_reducible repeat (first | apply rA_ | apply rN_ | apply rD_)); exact HO_227000.out) hb); have n5_ := Aside0.mk (rB_ (by (with_reducible repeat (first | apply rA_ | apply rN_ | apply rD_)); exact HO_227001.out) hb); have n6_ := Aside0.mk (rB_ (by (with_reducible repeat (first | apply rA_ | apply rN_ | apply rD_)); exact HO_257000.out) hb); have n7_ := Aside0.mk (rB_ (by (with_reducible repeat (first | apply rA_ | apply rN_ | apply rD_)); exact HO_257001.out) hb); have n8_ := Aside0.mk (blk_below (g := gb196) (o := .cells #[.slice A0_0 l0_0.length c0_0, .slice A0_1 l0_1.length c0_1] 24 (0, 0)) (by (with_reducible repeat (first | refine kN_ ?_ _ | refine kD_ ?_ | refine kA_ ?_ _)); exact BK196.out) hb); have n9_ := Aside0.mk (blk_below (g := gb211) (o := .cells #[.slice Ao23 t204.length co23, .slice Ao26 t207.length co26] 27 (0, 0)) (by (with_reducible repeat (first | refine kN_ ?_ _ | refine kD_ ?_ | refine kA_ ?_ _)); exact BK211.out) hb); have n10_ := Aside0.mk (blk_below (g := gb218) (o := .cells #[.slice Ao30 t236.length co30, .slice Ao34 t237.length co34] 27 (0, 0)) (by (with_reducible repeat (first | refine kN_ ?_ _ | refine kD_ ?_ | refine kA_ ?_ _)); exact BK218.out) hb); have n11_ := Aside0.mk (blk_below (g := gb226) (o := .cells #[.slice Ao37 t240.length co37, .slice Ao42 t241.length co42] 27 (0, 0)) (by (with_reducible repeat (first | refine kN_ ?_ _ | refine kD_ ?_ | refine kA_ ?_ _)); exact BK226.out) hb); have n12_ := Aside0.mk (blk_below (g := gb256) (o := .cells #[.slice Ao126 t249.length co126, .slice Ao132 t252.length co132] 27 (0, 0)) (by (with_reducible repeat (first | refine kN_ ?_ _ | refine kD_ ?_ | refine kA_ ?_ _)); exact BK256.out) hb); have n13_ := Aside0.mk (below_step (by repeat (first | (with_reducible first | exact HB.out | apply bA_ | apply bN_ | apply bD_ | refine bS_ ?_ GE196.out | refine bS_ ?_ GE211.out | refine bS_ ?_ GE218.out | refine bS_ ?_ GE226.out | refine bS_ ?_ GE256.out) | exact HB.out)) hb); clear HO_212000; clear HO_212001; clear HO_219000; clear HO_219001; clear HO_227000; clear HO_227001; clear HO_257000; clear HO_257001; clear BK196; clear BK211; clear BK218; clear BK226; clear BK256; clear HB; have HO_212000 := n0_; have HO_212001 := n1_; have HO_219000 := n2_; have HO_219001 := n3_; have HO_227000 := n4_; have HO_227001 := n5_; have HO_257000 := n6_; have HO_257001 := n7_; have BK196 := n8_; have BK211 := n9_; have BK218 := n10_; have BK226 := n11_; have BK256 := n12_; have HB := n13_; clear n0_ n1_ n2_ n3_ n4_ n5_ n6_ n7_ n8_ n9_ n10_ n11_ n12_ n13_; (try clear hb); (try clear hb2); (try clear hk); (try clear hi)))
                                go_ret
                                exact ⟨by first | rfl | (simp [errW_none, errW_some] <;> rfl) | (simp [*, errW_none, errW_some] <;> rfl), by repeat (first | (with_reducible first | exact HB.out | apply bA_ | apply bN_ | apply bD_ | refine bS_ ?_ GE196.out | refine bS_ ?_ GE211.out | refine bS_ ?_ GE218.out | refine bS_ ?_ GE226.out | refine bS_ ?_ GE256.out) | exact HB.out)⟩
                              · rw [if_neg c164] at H
                                have c164b0 : (t258 == t239) = false := beq_eq_false_iff_ne.mpr c164
                                have c164b1 : (t258 != t239) = true := bne_iff_ne.mpr c164
                                obtain rfl := Option.some.inj H
                                have hnb171 := NB226_196.out
                                have hnc171 := NB196_226.out
                                have hnb172 := NB226_211.out
                                have hnc172 := NB211_226.out
                                have hnb173 := NB226_218.out
                                have hnc173 := NB218_226.out
                                have hnb174 := NB226_256.out
                                have hnc174 := NB256_226.out
                                have hcz175_0 : wc.cell? ⟨gb226, 0, none⟩ = some (.slice Ao37 t240.length co37) := (blk_cell BK226.out 0).trans rfl
                                have hcz175_1 : wc.cell? ⟨gb226, 1, none⟩ = some (.slice Ao42 t241.length co42) := (blk_cell BK226.out 1).trans rfl
                                have hfz175_0 := blk_frozen BK226.out 0
                                have hfz175_1 := blk_frozen BK226.out 1
                                go_wp2_with (first | ((with_reducible refine gate_callee (f := 44) rfl ?_); refine goesL_ (some 100) rfl rfl Try.func44 (by kernel_rfl) rfl #[.agg #[.slice Ao37 t240.length co37, .slice Ao42 t241.length co42], .int .i64 1] rfl (by (try simp only [List.map_toArray, List.map_cons, List.map_nil]); first | done | rfl | (simp only [List.length_drop, List.length_take]; rfl)) ?_; (with_reducible refine (laws_heldHouse.calls kj109 _ _ t240 _ _ t241 1 t258 _ ?side1 ?side2 ?side3 ?side4 A156.out).mono ?_); (case side1 => repeat (first | exact (rR_ HO_227000.out).2.2 | (with_reducible refine Kd.C_alloc ?_ _) | (with_reducible refine Kd.C_drewN ?_ _) | (with_reducible refine Kd.C_drew ?_))); (case side2 => exact (rR_ HO_227000.out).2.1); (case side3 => repeat (first | exact (rR_ HO_227001.out).2.2 | (with_reducible refine Kd.C_alloc ?_ _) | (with_reducible refine Kd.C_drewN ?_ _) | (with_reducible refine Kd.C_drew ?_))); (case side4 => exact (rR_ HO_227001.out).2.1); rintro e w176 ⟨rfl, hb⟩; refine ⟨_, rfl, ?_⟩; have n0_ := Aside0.mk (rB_ (by (with_reducible repeat (first | apply rA_ | apply rN_ | apply rD_)); exact HO_212000.out) hb); have n1_ := Aside0.mk (rB_ (by (with_reducible repeat (first | apply rA_ | apply rN_ | apply rD_)); exact HO_212001.out) hb); have n2_ := Aside0.mk (rB_ (by (with_reducible repeat (first | apply rA_ | apply rN_ | apply rD_)); exact HO_219000.out) hb); have n3_ := Aside0.mk (rB_ (by (with_reducible repeat (first | apply rA_ | apply rN_ | apply rD_)); exact HO_219001.out) hb); have n4_ := Aside0.mk (rB_ (by (with_reducible repeat (first | apply rA_ | apply rN_ | apply rD_)); exact HO_227000.out) hb); have n5_ := Aside0.mk (rB_ (by (with_reducible repeat (first | apply rA_ | apply rN_ | apply rD_)); exact HO_227001.out) hb); have n6_ := Aside0.mk (rB_ (by (with_reducible repeat (first | apply rA_ | apply rN_ | apply rD_)); exact HO_257000.out) hb); have n7_ := Aside0.mk (rB_ (by (with_reducible repeat (first | apply rA_ | apply rN_ | apply rD_)); exact HO_257001.out) hb); have n8_ := Aside0.mk (blk_below (g := gb196) (o := .cells #[.slice A0_0 l0_0.length c0_0, .slice A0_1 l0_1.length c0_1] 24 (0, 0)) (by (with_reducible repeat (first | refine kN_ ?_ _ | refine kD_ ?_ | refine kA_ ?_ _)); exact BK196.out) hb); have n9_ := Aside0.mk (blk_below (g := gb211) (o := .cells #[.slice Ao23 t204.length co23, .slice Ao26 t207.length co26] 27 (0, 0)) (by (with_reducible repeat (first | refine kN_ ?_ _ | refine kD_ ?_ | refine kA_ ?_ _)); exact BK211.out) hb); have n10_ := Aside0.mk (blk_below (g := gb218) (o := .cells #[.slice Ao30 t236.length co30, .slice Ao34 t237.length co34] 27 (0, 0)) (by (with_reducible repeat (first | refine kN_ ?_ _ | refine kD_ ?_ | refine kA_ ?_ _)); exact BK218.out) hb); have n11_ := Aside0.mk (blk_below (g := gb226) (o := .cells #[.slice Ao37 t240.length co37, .slice Ao42 t241.length co42] 27 (0, 0)) (by (with_reducible repeat (first | refine kN_ ?_ _ | refine kD_ ?_ | refine kA_ ?_ _)); exact BK226.out) hb); have n12_ := Aside0.mk (blk_below (g := gb256) (o := .cells #[.slice Ao126 t249.length co126, .slice Ao132 t252.length co132] 27 (0, 0)) (by (with_reducible repeat (first | refine kN_ ?_ _ | refine kD_ ?_ | refine kA_ ?_ _)); exact BK256.out) hb); have n13_ := Aside0.mk (below_step (by repeat (first | (with_reducible first | exact HB.out | apply bA_ | apply bN_ | apply bD_ | refine bS_ ?_ GE196.out | refine bS_ ?_ GE211.out | refine bS_ ?_ GE218.out | refine bS_ ?_ GE226.out | refine bS_ ?_ GE256.out) | exact HB.out)) hb); clear HO_212000; clear HO_212001; clear HO_219000; clear HO_219001; clear HO_227000; clear HO_227001; clear HO_257000; clear HO_257001; clear BK196; clear BK211; clear BK218; clear BK226; clear BK256; clear HB; have HO_212000 := n0_; have HO_212001 := n1_; have HO_219000 := n2_; have HO_219001 := n3_; have HO_227000 := n4_; have HO_227001 := n5_; have HO_257000 := n6_; have HO_257001 := n7_; have BK196 := n8_; have BK211 := n9_; have BK218 := n10_; have BK226 := n11_; have BK256 := n12_; have HB := n13_; clear n0_ n1_ n2_ n3_ n4_ n5_ n6_ n7_ n8_ n9_ n10_ n11_ n12_ n13_; (try clear hb); (try clear hb2); (try clear hk); (try clear hi)))
                                go_ret
                                exact ⟨by first | rfl | (simp [errW_none, errW_some] <;> rfl) | (simp [*, errW_none, errW_some] <;> rfl), by repeat (first | (with_reducible first | exact HB.out | apply bA_ | apply bN_ | apply bD_ | refine bS_ ?_ GE196.out | refine bS_ ?_ GE211.out | refine bS_ ?_ GE218.out | refine bS_ ?_ GE226.out | refine bS_ ?_ GE256.out) | exact HB.out)⟩
                    · rw [if_neg c107] at H
                      have c107b0 : (t242 == t239) = false := beq_eq_false_iff_ne.mpr c107
                      have c107b1 : (t242 != t239) = true := bne_iff_ne.mpr c107
                      obtain rfl := Option.some.inj H
                      have hnb177 := NB226_196.out
                      have hnc177 := NB196_226.out
                      have hnb178 := NB226_211.out
                      have hnc178 := NB211_226.out
                      have hnb179 := NB226_218.out
                      have hnc179 := NB218_226.out
                      have hcz180_0 : wc.cell? ⟨gb226, 0, none⟩ = some (.slice Ao37 t219.length co37) := (blk_cell BK226.out 0).trans rfl
                      have hcz180_1 : wc.cell? ⟨gb226, 1, none⟩ = some (.slice Ao42 t222.length co42) := (blk_cell BK226.out 1).trans rfl
                      have hfz180_0 := blk_frozen BK226.out 0
                      have hfz180_1 := blk_frozen BK226.out 1
                      go_wp2_with (first | ((with_reducible refine gate_callee (f := 39) rfl ?_); refine goesL_ (some 72) rfl rfl Try.func39 (by kernel_rfl) rfl #[.agg #[.slice Ao37 t219.length co37, .slice Ao42 t222.length co42], .int .i64 1] rfl (by (try simp only [List.map_toArray, List.map_cons, List.map_nil]); first | done | rfl | (simp only [List.length_drop, List.length_take]; rfl)) ?_; (with_reducible refine (laws_markHouse.calls kj65 (fun k_ => some k_ = (.slice Ao37 t219.length co37 : Value).ownBlock) (.slice Ao37 t219.length co37) t219 (fun k_ => some k_ = (.slice Ao42 t222.length co42 : Value).ownBlock) (.slice Ao42 t222.length co42) t222 1 t239 t240 t241 w _ ?side1 ?side2 ?side3 ?side4 ?side5 A97.out).mono ?_); (case side1 => repeat (first | (with_reducible first | exact HB.out | apply bA_ | apply bN_ | apply bD_ | refine bS_ ?_ GE196.out | refine bS_ ?_ GE211.out | refine bS_ ?_ GE218.out | refine bS_ ?_ GE226.out) | exact HB.out)); (case side2 => exact Kd.R_tight rfl HO_227000.out); (case side3 => exact fun k_ e_ => (HO_227000.out.1 k_ e_.symm).2.2.2.2); (case side4 => exact Kd.R_tight rfl HO_227001.out); (case side5 => exact fun k_ e_ => (HO_227001.out.1 k_ e_.symm).2.2.2.2); rintro e w181 ⟨rfl, hy0, hy1, hb, hkp⟩; refine ⟨_, rfl, ?_⟩; have n0_ := Aside0.mk (rM_ (ok' := fun k_ => some k_ ≠ (.slice Ao26 t207.length co26 : Value).ownBlock ∧ some k_ ≠ (.slice Ao30 t236.length co30 : Value).ownBlock ∧ some k_ ≠ (.slice Ao34 t237.length co34 : Value).ownBlock ∧ some k_ ≠ (.slice Ao37 t219.length co37 : Value).ownBlock ∧ some k_ ≠ (.slice Ao42 t222.length co42 : Value).ownBlock) (Kd.R_keptB (HO_212000.out) hkp (fun k_ hk_ hs_ => Or.elim hs_ (fun e_ => (hk_.2.2.2.1) e_) (fun e_ => (hk_.2.2.2.2) e_))) (fun k_ hk_ => ⟨hk_.1.1, hk_.1.2.1, hk_.1.2.2.1, hk_.1.2.2.2.1, hk_.1.2.2.2.2⟩)); have n1_ := Aside0.mk (rM_ (ok' := fun k_ => some k_ ≠ (.slice Ao23 t204.length co23 : Value).ownBlock ∧ some k_ ≠ (.slice Ao30 t236.length co30 : Value).ownBlock ∧ some k_ ≠ (.slice Ao34 t237.length co34 : Value).ownBlock ∧ some k_ ≠ (.slice Ao37 t219.length co37 : Value).ownBlock ∧ some k_ ≠ (.slice Ao42 t222.length co42 : Value).ownBlock) (Kd.R_keptB (HO_212001.out) hkp (fun k_ hk_ hs_ => Or.elim hs_ (fun e_ => (hk_.2.2.2.1) e_) (fun e_ => (hk_.2.2.2.2) e_))) (fun k_ hk_ => ⟨hk_.1.1, hk_.1.2.1, hk_.1.2.2.1, hk_.1.2.2.2.1, hk_.1.2.2.2.2⟩)); have n2_ := Aside0.mk (rM_ (ok' := fun k_ => some k_ ≠ (.slice Ao23 t204.length co23 : Value).ownBlock ∧ some k_ ≠ (.slice Ao26 t207.length co26 : Value).ownBlock ∧ some k_ ≠ (.slice Ao34 t237.length co34 : Value).ownBlock ∧ some k_ ≠ (.slice Ao37 t219.length co37 : Value).ownBlock ∧ some k_ ≠ (.slice Ao42 t222.length co42 : Value).ownBlock) (Kd.R_keptB (HO_219000.out) hkp (fun k_ hk_ hs_ => Or.elim hs_ (fun e_ => (hk_.2.2.2.1) e_) (fun e_ => (hk_.2.2.2.2) e_))) (fun k_ hk_ => ⟨hk_.1.1, hk_.1.2.1, hk_.1.2.2.1, hk_.1.2.2.2.1, hk_.1.2.2.2.2⟩)); have n3_ := Aside0.mk (rM_ (ok' := fun k_ => some k_ ≠ (.slice Ao23 t204.length co23 : Value).ownBlock ∧ some k_ ≠ (.slice Ao26 t207.length co26 : Value).ownBlock ∧ some k_ ≠ (.slice Ao30 t236.length co30 : Value).ownBlock ∧ some k_ ≠ (.slice Ao37 t219.length co37 : Value).ownBlock ∧ some k_ ≠ (.slice Ao42 t222.length co42 : Value).ownBlock) (Kd.R_keptB (HO_219001.out) hkp (fun k_ hk_ hs_ => Or.elim hs_ (fun e_ => (hk_.2.2.2.1) e_) (fun e_ => (hk_.2.2.2.2) e_))) (fun k_ hk_ => ⟨hk_.1.1, hk_.1.2.1, hk_.1.2.2.1, hk_.1.2.2.2.1, hk_.1.2.2.2.2⟩)); have n4_ := Aside0.mk (Kd.R_reok rfl hy0 (fun k_ e_ => HO_227000.out.1 k_ e_)); have n5_ := Aside0.mk (Kd.R_reok rfl hy1 (fun k_ e_ => HO_227001.out.1 k_ e_)); have n6_ := Aside0.mk (blk_kept (by (with_reducible repeat (first | refine kN_ ?_ _ | refine kD_ ?_ | refine kA_ ?_ _)); exact BK196.out) hkp (fun hs_ => Or.elim hs_ (fun e_ => (fun e_ => (Kd.R_ne HO_227000.out BK196.out (by decide)) e_) e_) (fun e_ => (fun e_ => (Kd.R_ne HO_227001.out BK196.out (by decide)) e_) e_))); have n7_ := Aside0.mk (blk_kept (by (with_reducible repeat (first | refine kN_ ?_ _ | refine kD_ ?_ | refine kA_ ?_ _)); exact BK211.out) hkp (fun hs_ => Or.elim hs_ (fun e_ => (fun e_ => (Kd.R_ne HO_227000.out BK211.out (by decide)) e_) e_) (fun e_ => (fun e_ => (Kd.R_ne HO_227001.out BK211.out (by decide)) e_) e_))); have n8_ := Aside0.mk (blk_kept (by (with_reducible repeat (first | refine kN_ ?_ _ | refine kD_ ?_ | refine kA_ ?_ _)); exact BK218.out) hkp (fun hs_ => Or.elim hs_ (fun e_ => (fun e_ => (Kd.R_ne HO_227000.out BK218.out (by decide)) e_) e_) (fun e_ => (fun e_ => (Kd.R_ne HO_227001.out BK218.out (by decide)) e_) e_))); have n9_ := Aside0.mk (blk_kept (by (with_reducible repeat (first | refine kN_ ?_ _ | refine kD_ ?_ | refine kA_ ?_ _)); exact BK226.out) hkp (fun hs_ => Or.elim hs_ (fun e_ => (fun e_ => (Kd.R_ne HO_227000.out BK226.out (by decide)) e_) e_) (fun e_ => (fun e_ => (Kd.R_ne HO_227001.out BK226.out (by decide)) e_) e_))); have n10_ := Aside0.mk (hb); clear HO_212000; clear HO_212001; clear HO_219000; clear HO_219001; clear HO_227000; clear HO_227001; clear BK196; clear BK211; clear BK218; clear BK226; clear HB; have HO_212000 := n0_; have HO_212001 := n1_; have HO_219000 := n2_; have HO_219001 := n3_; have HO_227000 := n4_; have HO_227001 := n5_; have BK196 := n6_; have BK211 := n7_; have BK218 := n8_; have BK226 := n9_; have HB := n10_; clear n0_ n1_ n2_ n3_ n4_ n5_ n6_ n7_ n8_ n9_ n10_; (try clear hb); (try clear hkp); (try clear hy0); (try clear hy1); have hcz182_0 : w181.cell? ⟨gb226, 0, none⟩ = some (.slice Ao37 t219.length co37) := (blk_cell BK226.out 0).trans rfl; have hcz182_1 : w181.cell? ⟨gb226, 1, none⟩ = some (.slice Ao42 t222.length co42) := (blk_cell BK226.out 1).trans rfl; have hfz182_0 := blk_frozen BK226.out 0; have hfz182_1 := blk_frozen BK226.out 1) | ((with_reducible refine gate_callee (f := 44) rfl ?_); refine goesL_ (some 75) rfl rfl Try.func44 (by kernel_rfl) rfl #[.agg #[.slice Ao37 t240.length co37, .slice Ao42 t241.length co42], .int .i64 1] rfl (by (try simp only [List.map_toArray, List.map_cons, List.map_nil]); first | done | (rw [show t240.length = t219.length from (rR_ HO_227000.out).1.symm, show t241.length = t222.length from (rR_ HO_227001.out).1.symm] <;> rfl) | rfl | (simp only [List.length_drop, List.length_take]; rfl)) ?_; (with_reducible refine (laws_heldHouse.calls kj65 _ _ t240 _ _ t241 1 t242 _ ?side1 ?side2 ?side3 ?side4 A98.out).mono ?_); (case side1 => repeat (first | exact (rR_ HO_227000.out).2.2 | (with_reducible refine Kd.C_alloc ?_ _) | (with_reducible refine Kd.C_drewN ?_ _) | (with_reducible refine Kd.C_drew ?_))); (case side2 => rw [show t240.length = t219.length from (rR_ HO_227000.out).1.symm]; exact (rR_ HO_227000.out).2.1); (case side3 => repeat (first | exact (rR_ HO_227001.out).2.2 | (with_reducible refine Kd.C_alloc ?_ _) | (with_reducible refine Kd.C_drewN ?_ _) | (with_reducible refine Kd.C_drew ?_))); (case side4 => rw [show t241.length = t222.length from (rR_ HO_227001.out).1.symm]; exact (rR_ HO_227001.out).2.1); rintro e w183 ⟨rfl, hb⟩; refine ⟨_, rfl, ?_⟩; have n0_ := Aside0.mk (rB_ (by (with_reducible repeat (first | apply rA_ | apply rN_ | apply rD_)); exact HO_212000.out) hb); have n1_ := Aside0.mk (rB_ (by (with_reducible repeat (first | apply rA_ | apply rN_ | apply rD_)); exact HO_212001.out) hb); have n2_ := Aside0.mk (rB_ (by (with_reducible repeat (first | apply rA_ | apply rN_ | apply rD_)); exact HO_219000.out) hb); have n3_ := Aside0.mk (rB_ (by (with_reducible repeat (first | apply rA_ | apply rN_ | apply rD_)); exact HO_219001.out) hb); have n4_ := Aside0.mk (rB_ (by (with_reducible repeat (first | apply rA_ | apply rN_ | apply rD_)); exact HO_227000.out) hb); have n5_ := Aside0.mk (rB_ (by (with_reducible repeat (first | apply rA_ | apply rN_ | apply rD_)); exact HO_227001.out) hb); have n6_ := Aside0.mk (blk_below (g := gb196) (o := .cells #[.slice A0_0 l0_0.length c0_0, .slice A0_1 l0_1.length c0_1] 24 (0, 0)) (by (with_reducible repeat (first | refine kN_ ?_ _ | refine kD_ ?_ | refine kA_ ?_ _)); exact BK196.out) hb); have n7_ := Aside0.mk (blk_below (g := gb211) (o := .cells #[.slice Ao23 t204.length co23, .slice Ao26 t207.length co26] 27 (0, 0)) (by (with_reducible repeat (first | refine kN_ ?_ _ | refine kD_ ?_ | refine kA_ ?_ _)); exact BK211.out) hb); have n8_ := Aside0.mk (blk_below (g := gb218) (o := .cells #[.slice Ao30 t236.length co30, .slice Ao34 t237.length co34] 27 (0, 0)) (by (with_reducible repeat (first | refine kN_ ?_ _ | refine kD_ ?_ | refine kA_ ?_ _)); exact BK218.out) hb); have n9_ := Aside0.mk (blk_below (g := gb226) (o := .cells #[.slice Ao37 t219.length co37, .slice Ao42 t222.length co42] 27 (0, 0)) (by (with_reducible repeat (first | refine kN_ ?_ _ | refine kD_ ?_ | refine kA_ ?_ _)); exact BK226.out) hb); have n10_ := Aside0.mk (below_step (by repeat (first | (with_reducible first | exact HB.out | apply bA_ | apply bN_ | apply bD_ | refine bS_ ?_ GE196.out | refine bS_ ?_ GE211.out | refine bS_ ?_ GE218.out | refine bS_ ?_ GE226.out) | exact HB.out)) hb); clear HO_212000; clear HO_212001; clear HO_219000; clear HO_219001; clear HO_227000; clear HO_227001; clear BK196; clear BK211; clear BK218; clear BK226; clear HB; have HO_212000 := n0_; have HO_212001 := n1_; have HO_219000 := n2_; have HO_219001 := n3_; have HO_227000 := n4_; have HO_227001 := n5_; have BK196 := n6_; have BK211 := n7_; have BK218 := n8_; have BK226 := n9_; have HB := n10_; clear n0_ n1_ n2_ n3_ n4_ n5_ n6_ n7_ n8_ n9_ n10_; (try clear hb); (try clear hb2); (try clear hk); (try clear hi)))
                      go_ret
                      exact ⟨by first | rfl | (simp [errW_none, errW_some] <;> rfl) | (simp [*, errW_none, errW_some] <;> rfl), by repeat (first | (with_reducible first | exact HB.out | apply bA_ | apply bN_ | apply bD_ | refine bS_ ?_ GE196.out | refine bS_ ?_ GE211.out | refine bS_ ?_ GE218.out | refine bS_ ?_ GE226.out) | exact HB.out)⟩
          · replace c64 := Bool.eq_false_iff.mpr c64
            subst c64
            have H1 : (some false) = some r := by rw [if_neg (show ¬ (false = true) by decide)] at H; exact H
            clear H
            have H := H1
            clear H1
            obtain rfl := Option.some.inj H
            try go_wp2
            have n0_ := Aside0.mk (rD_ HO_212000.out)
            have n1_ := Aside0.mk (rD_ HO_212001.out)
            have n2_ := Aside0.mk (rD_ HO_219000.out)
            have n3_ := Aside0.mk (rD_ HO_219001.out)
            have n4_ := Aside0.mk (rD_ HO_227000.out)
            have n5_ := Aside0.mk (rD_ HO_227001.out)
            have n6_ := Aside0.mk (kD_ BK196.out)
            have n7_ := Aside0.mk (kD_ BK211.out)
            have n8_ := Aside0.mk (kD_ BK218.out)
            have n9_ := Aside0.mk (kD_ BK226.out)
            have n10_ := Aside0.mk (bD_ HB.out)
            clear HO_212000
            clear HO_212001
            clear HO_219000
            clear HO_219001
            clear HO_227000
            clear HO_227001
            clear BK196
            clear BK211
            clear BK218
            clear BK226
            clear HB
            have HO_212000 := n0_
            have HO_212001 := n1_
            have HO_219000 := n2_
            have HO_219001 := n3_
            have HO_227000 := n4_
            have HO_227001 := n5_
            have BK196 := n6_
            have BK211 := n7_
            have BK218 := n8_
            have BK226 := n9_
            have HB := n10_
            clear n0_ n1_ n2_ n3_ n4_ n5_ n6_ n7_ n8_ n9_ n10_
            refine start_ (n := 5) (S := fun w' => w'.cell? ⟨gb218, 0, none⟩ = some (.slice Ao30 t212.length co30) ∧ w'.cell? ⟨gb218, 1, none⟩ = some (.slice Ao34 t215.length co34) ∧ w'.cell? ⟨gb196, 0, none⟩ = some (.slice A0_0 l0_0.length c0_0) ∧ w'.cell? ⟨gb196, 1, none⟩ = some (.slice A0_1 l0_1.length c0_1)) (ds := []) #[false, false, false, false, false] (by kernel_rfl) rfl rfl ⟨(blk_cell BK218.out 0).trans rfl, (blk_cell BK218.out 1).trans rfl, (blk_cell BK196.out 0).trans rfl, (blk_cell BK196.out 1).trans rfl⟩ (fun hHeld => ?_)
            generalize wc.drew = w184 at HO_212000 HO_212001 HO_219000 HO_219001 HO_227000 HO_227001 BK196 BK211 BK218 BK226 HB hHeld ⊢
            refine take_ (i := 0) (N := some 49) (v := ?_) (a' := ?_) #[true, false, false, false, false] rfl rfl (by kernel_rfl) (fun _ _ _ h => h) (Or.inl ⟨by rfl, ?_⟩) hHeld ?_ ?_
            rotate_left
            · rintro w' ⟨s0, s1, s2, s3⟩
              go_simp
              with_reducible rfl
            rotate_left
            · simp only [Act.put, List.setIfInBounds_toArray, List.set_cons_zero, List.set_cons_succ, i64_w, i32_w]
              rfl
            refine take_ (i := 1) (N := some 50) (v := ?_) (a' := ?_) #[true, true, false, false, false] rfl rfl (by kernel_rfl) (fun _ _ _ h => h) (Or.inl ⟨by rfl, ?_⟩) hHeld ?_ ?_
            rotate_left
            · rintro w' ⟨s0, s1, s2, s3⟩
              go_simp
              with_reducible rfl
            rotate_left
            · simp only [Act.put, List.setIfInBounds_toArray, List.set_cons_zero, List.set_cons_succ, i64_w, i32_w]
              rfl
            refine one_ (i := 2) (N := some 51) #[true, true, true, false, false] rfl rfl (by kernel_rfl) (by decide) (fun K hK => ?_)
            refine goes_ Try.func17 (by kernel_rfl) rfl #[.agg #[.slice A0_0 l0_0.length c0_0, .slice A0_1 l0_1.length c0_1]] (by rfl) rfl rfl (by (try simp only [List.map_toArray, List.map_cons, List.map_nil]); first | done | rfl | (simp only [List.length_drop, List.length_take]; rfl)) ?_
            with_reducible refine (laws_toHouse.calls kj12 _ _ l0_0 _ _ l0_1 t228 t231 _ ?side1 ?side2 ?side3 ?side4 A62.out).mono ?_
            (case side1 => repeat (first | exact (Kd.C_below HR0_0.out HB.out) | (with_reducible refine Kd.C_alloc ?_ _) | (with_reducible refine Kd.C_drewN ?_ _) | (with_reducible refine Kd.C_drew ?_)))
            (case side2 => exact HC0_0.out)
            (case side3 => repeat (first | exact (Kd.C_below HR0_1.out HB.out) | (with_reducible refine Kd.C_alloc ?_ _) | (with_reducible refine Kd.C_drewN ?_ _) | (with_reducible refine Kd.C_drew ?_)))
            (case side4 => exact HC0_1.out)
            rintro e w185 ⟨v229, v232, rfl, ho0, ho1, hb⟩
            refine ⟨_, rfl, ?_⟩
            have n0_ := Aside0.mk (rM_ (Kd.R_told (Kd.R_told (Kd.R_old (by (with_reducible repeat (first | apply rA_ | apply rN_ | apply rD_)); exact HO_212000.out) hb) (Kd.R_base ho0)) (Kd.R_base ho1)) (fun _ h_ => h_.1))
            have n1_ := Aside0.mk (rM_ (Kd.R_told (Kd.R_told (Kd.R_old (by (with_reducible repeat (first | apply rA_ | apply rN_ | apply rD_)); exact HO_212001.out) hb) (Kd.R_base ho0)) (Kd.R_base ho1)) (fun _ h_ => h_.1))
            have n2_ := Aside0.mk (rM_ (Kd.R_told (Kd.R_told (Kd.R_old (by (with_reducible repeat (first | apply rA_ | apply rN_ | apply rD_)); exact HO_219000.out) hb) (Kd.R_base ho0)) (Kd.R_base ho1)) (fun _ h_ => h_.1))
            have n3_ := Aside0.mk (rM_ (Kd.R_told (Kd.R_told (Kd.R_old (by (with_reducible repeat (first | apply rA_ | apply rN_ | apply rD_)); exact HO_219001.out) hb) (Kd.R_base ho0)) (Kd.R_base ho1)) (fun _ h_ => h_.1))
            have n4_ := Aside0.mk (rM_ (Kd.R_told (Kd.R_told (Kd.R_old (by (with_reducible repeat (first | apply rA_ | apply rN_ | apply rD_)); exact HO_227000.out) hb) (Kd.R_base ho0)) (Kd.R_base ho1)) (fun _ h_ => h_.1))
            have n5_ := Aside0.mk (rM_ (Kd.R_told (Kd.R_told (Kd.R_old (by (with_reducible repeat (first | apply rA_ | apply rN_ | apply rD_)); exact HO_227001.out) hb) (Kd.R_base ho0)) (Kd.R_base ho1)) (fun _ h_ => h_.1))
            have n6_ := Aside0.mk (Kd.R_lower (Kd.R_new' (Kd.R_new' (Kd.R_new' (Kd.R_new' (Kd.R_new' (Kd.R_new' ho0 (Kd.R_lt (by (with_reducible repeat (first | apply rA_ | apply rN_ | apply rD_)); exact HO_212000.out))) (Kd.R_lt (by (with_reducible repeat (first | apply rA_ | apply rN_ | apply rD_)); exact HO_212001.out))) (Kd.R_lt (by (with_reducible repeat (first | apply rA_ | apply rN_ | apply rD_)); exact HO_219000.out))) (Kd.R_lt (by (with_reducible repeat (first | apply rA_ | apply rN_ | apply rD_)); exact HO_219001.out))) (Kd.R_lt (by (with_reducible repeat (first | apply rA_ | apply rN_ | apply rD_)); exact HO_227000.out))) (Kd.R_lt (by (with_reducible repeat (first | apply rA_ | apply rN_ | apply rD_)); exact HO_227001.out))) (below_size (by repeat (first | (with_reducible first | exact HB.out | apply bA_ | apply bN_ | apply bD_ | refine bS_ ?_ GE196.out | refine bS_ ?_ GE211.out | refine bS_ ?_ GE218.out | refine bS_ ?_ GE226.out) | exact HB.out))))
            have n7_ := Aside0.mk (Kd.R_lower (Kd.R_new' (Kd.R_new' (Kd.R_new' (Kd.R_new' (Kd.R_new' (Kd.R_new' ho1 (Kd.R_lt (by (with_reducible repeat (first | apply rA_ | apply rN_ | apply rD_)); exact HO_212000.out))) (Kd.R_lt (by (with_reducible repeat (first | apply rA_ | apply rN_ | apply rD_)); exact HO_212001.out))) (Kd.R_lt (by (with_reducible repeat (first | apply rA_ | apply rN_ | apply rD_)); exact HO_219000.out))) (Kd.R_lt (by (with_reducible repeat (first | apply rA_ | apply rN_ | apply rD_)); exact HO_219001.out))) (Kd.R_lt (by (with_reducible repeat (first | apply rA_ | apply rN_ | apply rD_)); exact HO_227000.out))) (Kd.R_lt (by (with_reducible repeat (first | apply rA_ | apply rN_ | apply rD_)); exact HO_227001.out))) (below_size (by repeat (first | (with_reducible first | exact HB.out | apply bA_ | apply bN_ | apply bD_ | refine bS_ ?_ GE196.out | refine bS_ ?_ GE211.out | refine bS_ ?_ GE218.out | refine bS_ ?_ GE226.out) | exact HB.out))))
            have n8_ := Aside0.mk (blk_below (g := gb196) (o := .cells #[.slice A0_0 l0_0.length c0_0, .slice A0_1 l0_1.length c0_1] 24 (0, 0)) (by (with_reducible repeat (first | refine kN_ ?_ _ | refine kD_ ?_ | refine kA_ ?_ _)); exact BK196.out) hb)
            have n9_ := Aside0.mk (blk_below (g := gb211) (o := .cells #[.slice Ao23 t204.length co23, .slice Ao26 t207.length co26] 27 (0, 0)) (by (with_reducible repeat (first | refine kN_ ?_ _ | refine kD_ ?_ | refine kA_ ?_ _)); exact BK211.out) hb)
            have n10_ := Aside0.mk (blk_below (g := gb218) (o := .cells #[.slice Ao30 t212.length co30, .slice Ao34 t215.length co34] 27 (0, 0)) (by (with_reducible repeat (first | refine kN_ ?_ _ | refine kD_ ?_ | refine kA_ ?_ _)); exact BK218.out) hb)
            have n11_ := Aside0.mk (blk_below (g := gb226) (o := .cells #[.slice Ao37 t219.length co37, .slice Ao42 t222.length co42] 27 (0, 0)) (by (with_reducible repeat (first | refine kN_ ?_ _ | refine kD_ ?_ | refine kA_ ?_ _)); exact BK226.out) hb)
            have n12_ := Aside0.mk (below_step (by repeat (first | (with_reducible first | exact HB.out | apply bA_ | apply bN_ | apply bD_ | refine bS_ ?_ GE196.out | refine bS_ ?_ GE211.out | refine bS_ ?_ GE218.out | refine bS_ ?_ GE226.out) | exact HB.out)) hb)
            clear HO_212000
            clear HO_212001
            clear HO_219000
            clear HO_219001
            clear HO_227000
            clear HO_227001
            clear BK196
            clear BK211
            clear BK218
            clear BK226
            clear HB
            have HO_212000 := n0_
            have HO_212001 := n1_
            have HO_219000 := n2_
            have HO_219001 := n3_
            have HO_227000 := n4_
            have HO_227001 := n5_
            have HO230 := n6_
            have HO233 := n7_
            have BK196 := n8_
            have BK211 := n9_
            have BK218 := n10_
            have BK226 := n11_
            have HB := n12_
            clear n0_ n1_ n2_ n3_ n4_ n5_ n6_ n7_ n8_ n9_ n10_ n11_ n12_
            (try clear hb)
            (try clear hb2)
            (try clear hk)
            (try clear hi)
            (try clear ho0)
            (try clear ho1)
            obtain ⟨Ao186, co186, eo186⟩ := Kd.R_slice HO230.out
            (first | subst eo186 | (injection eo186 with f1_ f2_ f3_; have f4_ := f1_.symm; have f5_ := f3_.symm; clear f1_ f2_ f3_; subst f4_; subst f5_))
            obtain ⟨Ao187, co187, eo187⟩ := Kd.R_slice HO233.out
            (first | subst eo187 | (injection eo187 with f1_ f2_ f3_; have f4_ := f1_.symm; have f5_ := f3_.symm; clear f1_ f2_ f3_; subst f4_; subst f5_))
            refine hK.out _ _ ⟨(blk_cell BK218.out 0).trans rfl, (blk_cell BK218.out 1).trans rfl, (blk_cell BK196.out 0).trans rfl, (blk_cell BK196.out 1).trans rfl⟩ (fun hHeld => ?_)
            clear hK K
            refine norm_ (a' := ?_) ?_ ?_
            rotate_left
            · show Act.put _ (some 51) _ = _
              simp only [Act.put, List.setIfInBounds_toArray, List.set_cons_zero, List.set_cons_succ, i64_w, i32_w]
              rfl
            refine one_ (i := 3) (N := some 52) #[true, true, true, true, false] rfl rfl (by kernel_rfl) (by decide) (fun K hK => ?_)
            refine goes_ Try.func19 (by kernel_rfl) rfl #[.agg #[.slice Ao30 t212.length co30, .slice Ao34 t215.length co34], .agg #[.slice Ao186 t228.length co186, .slice Ao187 t231.length co187]] (by rfl) rfl rfl (by (try simp only [List.map_toArray, List.map_cons, List.map_nil]); first | done | rfl | (simp only [List.length_drop, List.length_take]; rfl)) ?_
            with_reducible refine (laws_eqHouse.calls kj12 _ _ t212 _ _ t215 _ _ t228 _ _ t231 false _ ?side1 ?side2 ?side3 ?side4 ?side5 ?side6 ?side7 ?side8 A63.out).mono ?_
            (case side1 => repeat (first | exact (rR_ HO_219000.out).2.2 | (with_reducible refine Kd.C_alloc ?_ _) | (with_reducible refine Kd.C_drewN ?_ _) | (with_reducible refine Kd.C_drew ?_)))
            (case side2 => exact (rR_ HO_219000.out).2.1)
            (case side3 => repeat (first | exact (rR_ HO_219001.out).2.2 | (with_reducible refine Kd.C_alloc ?_ _) | (with_reducible refine Kd.C_drewN ?_ _) | (with_reducible refine Kd.C_drew ?_)))
            (case side4 => exact (rR_ HO_219001.out).2.1)
            (case side5 => repeat (first | exact (rR_ HO230.out).2.2 | (with_reducible refine Kd.C_alloc ?_ _) | (with_reducible refine Kd.C_drewN ?_ _) | (with_reducible refine Kd.C_drew ?_)))
            (case side6 => exact (rR_ HO230.out).2.1)
            (case side7 => repeat (first | exact (rR_ HO233.out).2.2 | (with_reducible refine Kd.C_alloc ?_ _) | (with_reducible refine Kd.C_drewN ?_ _) | (with_reducible refine Kd.C_drew ?_)))
            (case side8 => exact (rR_ HO233.out).2.1)
            rintro e w188 ⟨rfl, hb⟩
            refine ⟨_, rfl, ?_⟩
            have n0_ := Aside0.mk (rB_ (by (with_reducible repeat (first | apply rA_ | apply rN_ | apply rD_)); exact HO_212000.out) hb)
            have n1_ := Aside0.mk (rB_ (by (with_reducible repeat (first | apply rA_ | apply rN_ | apply rD_)); exact HO_212001.out) hb)
            have n2_ := Aside0.mk (rB_ (by (with_reducible repeat (first | apply rA_ | apply rN_ | apply rD_)); exact HO_219000.out) hb)
            have n3_ := Aside0.mk (rB_ (by (with_reducible repeat (first | apply rA_ | apply rN_ | apply rD_)); exact HO_219001.out) hb)
            have n4_ := Aside0.mk (rB_ (by (with_reducible repeat (first | apply rA_ | apply rN_ | apply rD_)); exact HO_227000.out) hb)
            have n5_ := Aside0.mk (rB_ (by (with_reducible repeat (first | apply rA_ | apply rN_ | apply rD_)); exact HO_227001.out) hb)
            have n6_ := Aside0.mk (rB_ (by (with_reducible repeat (first | apply rA_ | apply rN_ | apply rD_)); exact HO230.out) hb)
            have n7_ := Aside0.mk (rB_ (by (with_reducible repeat (first | apply rA_ | apply rN_ | apply rD_)); exact HO233.out) hb)
            have n8_ := Aside0.mk (blk_below (g := gb196) (o := .cells #[.slice A0_0 l0_0.length c0_0, .slice A0_1 l0_1.length c0_1] 24 (0, 0)) (by (with_reducible repeat (first | refine kN_ ?_ _ | refine kD_ ?_ | refine kA_ ?_ _)); exact BK196.out) hb)
            have n9_ := Aside0.mk (blk_below (g := gb211) (o := .cells #[.slice Ao23 t204.length co23, .slice Ao26 t207.length co26] 27 (0, 0)) (by (with_reducible repeat (first | refine kN_ ?_ _ | refine kD_ ?_ | refine kA_ ?_ _)); exact BK211.out) hb)
            have n10_ := Aside0.mk (blk_below (g := gb218) (o := .cells #[.slice Ao30 t212.length co30, .slice Ao34 t215.length co34] 27 (0, 0)) (by (with_reducible repeat (first | refine kN_ ?_ _ | refine kD_ ?_ | refine kA_ ?_ _)); exact BK218.out) hb)
            have n11_ := Aside0.mk (blk_below (g := gb226) (o := .cells #[.slice Ao37 t219.length co37, .slice Ao42 t222.length co42] 27 (0, 0)) (by (with_reducible repeat (first | refine kN_ ?_ _ | refine kD_ ?_ | refine kA_ ?_ _)); exact BK226.out) hb)
            have n12_ := Aside0.mk (below_step (by repeat (first | (with_reducible first | exact HB.out | apply bA_ | apply bN_ | apply bD_ | refine bS_ ?_ GE196.out | refine bS_ ?_ GE211.out | refine bS_ ?_ GE218.out | refine bS_ ?_ GE226.out) | exact HB.out)) hb)
            clear HO_212000
            clear HO_212001
            clear HO_219000
            clear HO_219001
            clear HO_227000
            clear HO_227001
            clear HO230
            clear HO233
            clear BK196
            clear BK211
            clear BK218
            clear BK226
            clear HB
            have HO_212000 := n0_
            have HO_212001 := n1_
            have HO_219000 := n2_
            have HO_219001 := n3_
            have HO_227000 := n4_
            have HO_227001 := n5_
            have HO230 := n6_
            have HO233 := n7_
            have BK196 := n8_
            have BK211 := n9_
            have BK218 := n10_
            have BK226 := n11_
            have HB := n12_
            clear n0_ n1_ n2_ n3_ n4_ n5_ n6_ n7_ n8_ n9_ n10_ n11_ n12_
            (try clear hb)
            (try clear hb2)
            (try clear hk)
            (try clear hi)
            refine hK.out _ _ ⟨(blk_cell BK218.out 0).trans rfl, (blk_cell BK218.out 1).trans rfl, (blk_cell BK196.out 0).trans rfl, (blk_cell BK196.out 1).trans rfl⟩ (fun hHeld => ?_)
            clear hK K
            refine norm_ (a' := ?_) ?_ ?_
            rotate_left
            · show Act.put _ (some 52) _ = _
              simp only [Act.put, List.setIfInBounds_toArray, List.set_cons_zero, List.set_cons_succ, i64_w, i32_w]
              rfl
            refine pure_ (i := 4) (N := some 53) (v := ?_) (a' := ?_) #[true, true, true, true, true] rfl rfl (by kernel_rfl) (fun _ _ _ h => h) (Or.inl ⟨by rfl, ?_⟩) ?_ ?_
            rotate_left
            · intro w'
              go_simp
              with_reducible rfl
            rotate_left
            · simp only [Act.put, List.setIfInBounds_toArray, List.set_cons_zero, List.set_cons_succ, i64_w, i32_w]
              rfl
            refine done_ (by kernel_rfl) ?_
            try go_wp2
            go_ret
            exact ⟨by first | rfl | (simp [errW_none, errW_some] <;> rfl) | (simp [*, errW_none, errW_some] <;> rfl), by repeat (first | (with_reducible first | exact HB.out | apply bA_ | apply bN_ | apply bD_ | refine bS_ ?_ GE196.out | refine bS_ ?_ GE211.out | refine bS_ ?_ GE218.out | refine bS_ ?_ GE226.out) | exact HB.out)⟩

end Go.Proofs.Ytccmgoojdieloaa.G
