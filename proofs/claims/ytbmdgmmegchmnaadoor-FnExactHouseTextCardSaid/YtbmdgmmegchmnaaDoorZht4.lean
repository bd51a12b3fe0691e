/- Contracts of the Go functions that the laws reach, each for every input and every memory: written by a program of this session over the kit print, with contracts of its own for what that leaves out. No further condition. -/
import Derived.Test.YtbmdgmmegchmnaaDoorZht2
import Derived.Test.YtbmdgmmegchmnaaDoorZht3
import Derived.Lib.ItoaNum
import Derived.Lib.ItoaLen
import Derived.Lib.AtoiAllCases
import Derived.Lib.Atoi
import Derived.Lib.Split
import Derived.Lib.SplitLaws
namespace Go.Proofs.YtbmdgmmegchmnaaDoor.V
open Go.RowKit Go.Proofs.YtbmdgmmegchmnaaDoorW.PrintWords Go.Proofs.YtbmdgmmegchmnaaDoorW.PrintLast Go.Proofs.YtbmdgmmegchmnaaDoorW.PrintMore
attribute [local go_sem] max2_int min2_int max_two min_two max_three min_three max_four min_four
set_option linter.unusedVariables false
set_option linter.unusedSimpArgs false
def laws_FnExactHouseText.j0 : Nat → Bool → List Int → List Int → List Int → List Int → Option (Bool)
  | 0, _, _, _, _, _ => none
  | k + 1, x34, x176000, x176001, x192000, x192001 => if x34 = true then (some false) else ((laws_toHouse.f k x176000 x176001).bind fun bt194 => ((laws_eqHouse.f k x192000 x192001 bt194.1 bt194.2).bind fun t200 => (if t200 = true then (some true) else (some false))))
def laws_FnExactHouseText.f (k : Nat) (l0_0 : List Int) (l0_1 : List Int) : Option (Bool) := (laws_szHouse.f l0_0 l0_1 1048576).bind fun t176 => (if t176 < 0 then (some true) else ((laws_toHouse.f k l0_0 l0_1).bind fun bt177 => ((spec_HouseText.f k bt177.1 bt177.2).bind fun bt183 => ((laws_toHouse.f k l0_0 l0_1).bind fun bt185 => ((impl_HouseText.f k bt185.1 bt185.2).bind fun bt192 => (if bt192.1.toList = bt183.1.toList then (laws_FnExactHouseText.j0 k (bt192.2 != bt183.2) l0_0 l0_1 bt185.1 bt185.2) else (laws_FnExactHouseText.j0 k true l0_0 l0_1 bt185.1 bt185.2)))))))
set_option maxHeartbeats 8000000 in
set_option maxRecDepth 100000 in
theorem laws_FnExactHouseText.calls (k : Nat) (A0_0 : Option Addr) (c0_0 : Nat) (l0_0 : List Int) (A0_1 : Option Addr) (c0_1 : Nat) (l0_1 : List Int) (r : Bool) (w : World) (hr0_0 : Kd.C (Kd.int .i64) w A0_0 l0_0.length l0_0) (hc0_0 : l0_0.length ≤ c0_0) (hr0_1 : Kd.C (Kd.int .i64) w A0_1 l0_1.length l0_1) (hc0_1 : l0_1.length ≤ c0_1) (h : laws_FnExactHouseText.f k l0_0 l0_1 = some r) (LA : Laid w) :
    Calls Tryd.prog 5 #[.agg #[.slice A0_0 l0_0.length c0_0, .slice A0_1 l0_1.length c0_1]] w fun e w' => e = .returned (.bool r) ∧ Below w.heap.size w w' := by
  have HLA := Aside0.mk LA
  clear LA
  have hu37 := Tryd.underlying37
  have hu40 := Tryd.underlying40
  have HR0_0 := Aside0.mk hr0_0
  have HC0_0 := Aside0.mk hc0_0
  clear hr0_0 hc0_0
  have HR0_1 := Aside0.mk hr0_1
  have HC0_1 := Aside0.mk hc0_1
  clear hr0_1 hc0_1
  have HB := Aside0.mk (Below.refl w.heap.size w)
  have H : ((laws_szHouse.f l0_0 l0_1 1048576).bind fun t176 => (if t176 < 0 then (some true) else ((laws_toHouse.f k l0_0 l0_1).bind fun bt177 => ((spec_HouseText.f k bt177.1 bt177.2).bind fun bt183 => ((laws_toHouse.f k l0_0 l0_1).bind fun bt185 => ((impl_HouseText.f k bt185.1 bt185.2).bind fun bt192 => (if bt192.1.toList = bt183.1.toList then (laws_FnExactHouseText.j0 k (bt192.2 != bt183.2) l0_0 l0_1 bt185.1 bt185.2) else (laws_FnExactHouseText.j0 k true l0_0 l0_1 bt185.1 bt185.2)))))))) = some r := h
  clear h
  replace H := Option.bind_eq_some_iff.mp H
  obtain ⟨t176, A20, H⟩ := H
  replace H : (if t176 < 0 then (some true) else ((laws_toHouse.f k l0_0 l0_1).bind fun bt177 => ((spec_HouseText.f k bt177.1 bt177.2).bind fun bt183 => ((laws_toHouse.f k l0_0 l0_1).bind fun bt185 => ((impl_HouseText.f k bt185.1 bt185.2).bind fun bt192 => (if bt192.1.toList = bt183.1.toList then (laws_FnExactHouseText.j0 k (bt192.2 != bt183.2) l0_0 l0_1 bt185.1 bt185.2) else (laws_FnExactHouseText.j0 k true l0_0 l0_1 bt185.1 bt185.2))))))) = some r := H
  have A2 := Aside0.mk A20
  clear A20
  by_cases c3 : t176 < 0
  · rw [if_pos c3] at H
    have c3b0 : decide (t176 < 0) = true := decide_eq_true c3
    clear c3
    obtain rfl := Option.some.inj H
    go_enter Tryd.func5, Tryd.ntmps5
    go_wp2_with (first | ((with_reducible refine gate_dst (N := 1) rfl ?_); refine box_event ?hg (N := 1) ?hd (cs := #[.slice A0_0 l0_0.length c0_0, .slice A0_1 l0_1.length c0_1]) (t := 37) ?hr ?_; (case hd => rfl); (case hg => rfl); (case hr => first | (go_simp; done) | (go_simp; rfl)); intro gb175 hg w4 hbox hb; have n0_ := Aside0.mk (below_step (by repeat (first | (with_reducible first | exact HB.out | apply below_alloc | apply pw_below_drewN | apply below_drew1) | exact HB.out)) hb); have n1_ := Aside0.mk (hbox); have n2_ := Aside0.mk ((by rw [hg]; exact (below_size (by repeat (first | (with_reducible first | exact HB.out | apply below_alloc | apply pw_below_drewN | apply below_drew1) | exact HB.out))) : w.heap.size ≤ gb175)); have n3_ := Aside0.mk ((by rw [hg]; exact (below_size (by repeat (first | (with_reducible first | exact HB.out | apply below_alloc | apply pw_below_drewN | apply below_drew1) | exact HB.out))) : w.heap.size ≤ gb175)); clear HB; have HB := n0_; have BK175 := n1_; have GW175 := n2_; have GE175 := n3_; clear n0_ n1_ n2_ n3_; clear hb hbox hg; have hcz5_0 : w4.cell? ⟨gb175, 0, none⟩ = some (.slice A0_0 l0_0.length c0_0) := (blk_cell BK175.out 0).trans rfl; have hcz5_1 : w4.cell? ⟨gb175, 1, none⟩ = some (.slice A0_1 l0_1.length c0_1) := (blk_cell BK175.out 1).trans rfl; have hfz5_0 := blk_frozen BK175.out 0; have hfz5_1 := blk_frozen BK175.out 1) | ((with_reducible refine gate_callee (f := 18) rfl ?_); refine goesL_ (some 11) rfl rfl Tryd.func18 (by kernel_rfl) rfl #[.agg #[.slice A0_0 l0_0.length c0_0, .slice A0_1 l0_1.length c0_1], .int .i64 1048576] rfl (by (try simp only [List.map_toArray, List.map_cons, List.map_nil]); first | done | rfl | (simp only [List.length_drop, List.length_take]; rfl)) ?_; (with_reducible refine (laws_szHouse.calls _ _ l0_0 _ _ l0_1 1048576 t176 _ ?side1 ?side2 ?side3 ?side4 A2.out).mono ?_); (case side1 => repeat (first | exact (Kd.C_below HR0_0.out HB.out) | (with_reducible refine Kd.C_alloc ?_ _) | (with_reducible refine Kd.C_drewN ?_ _) | (with_reducible refine Kd.C_drew ?_))); (case side2 => exact HC0_0.out); (case side3 => repeat (first | exact (Kd.C_below HR0_1.out HB.out) | (with_reducible refine Kd.C_alloc ?_ _) | (with_reducible refine Kd.C_drewN ?_ _) | (with_reducible refine Kd.C_drew ?_))); (case side4 => exact HC0_1.out); rintro e w6 ⟨rfl, hb⟩; refine ⟨_, rfl, ?_⟩; have n0_ := Aside0.mk (blk_below (g := gb175) (o := .cells #[.slice A0_0 l0_0.length c0_0, .slice A0_1 l0_1.length c0_1] 37 (0, 0)) (by (with_reducible repeat (first | refine blk_drewN ?_ _ | refine blk_drew ?_ | refine blk_alloc ?_ _)); exact BK175.out) hb); have n1_ := Aside0.mk (below_step (by repeat (first | (with_reducible first | exact HB.out | apply below_alloc | apply pw_below_drewN | apply below_drew1 | refine below_set ?_ GE175.out) | exact HB.out)) hb); clear BK175; clear HB; have BK175 := n0_; have HB := n1_; clear n0_ n1_; (try clear hb); (try clear hb2); (try clear hk); (try clear hi)))
    go_ret
    exact ⟨by first | rfl | (simp [errW_none, errW_some] <;> rfl) | (simp [*, errW_none, errW_some] <;> rfl), by repeat (first | (with_reducible first | exact HB.out | apply below_alloc | apply pw_below_drewN | apply below_drew1 | refine below_set ?_ GE175.out) | exact HB.out)⟩
  · rw [if_neg c3] at H
    have c3b0 : decide (t176 < 0) = false := decide_eq_false c3
    clear c3
    replace H := Option.bind_eq_some_iff.mp H
    obtain ⟨⟨t177, t180⟩, A70, H⟩ := H
    replace H : ((spec_HouseText.f k t177 t180).bind fun bt183 => ((laws_toHouse.f k l0_0 l0_1).bind fun bt185 => ((impl_HouseText.f k bt185.1 bt185.2).bind fun bt192 => (if bt192.1.toList = bt183.1.toList then (laws_FnExactHouseText.j0 k (bt192.2 != bt183.2) l0_0 l0_1 bt185.1 bt185.2) else (laws_FnExactHouseText.j0 k true l0_0 l0_1 bt185.1 bt185.2))))) = some r := H
    have A7 := Aside0.mk A70
    clear A70
    replace H := Option.bind_eq_some_iff.mp H
    obtain ⟨⟨t183, t184⟩, A80, H⟩ := H
    replace H : ((laws_toHouse.f k l0_0 l0_1).bind fun bt185 => ((impl_HouseText.f k bt185.1 bt185.2).bind fun bt192 => (if bt192.1.toList = t183.toList then (laws_FnExactHouseText.j0 k (bt192.2 != t184) l0_0 l0_1 bt185.1 bt185.2) else (laws_FnExactHouseText.j0 k true l0_0 l0_1 bt185.1 bt185.2)))) = some r := H
    have A8 := Aside0.mk A80
    clear A80
    replace H := Option.bind_eq_some_iff.mp H
    obtain ⟨⟨t185, t188⟩, A90, H⟩ := H
    replace H : ((impl_HouseText.f k t185 t188).bind fun bt192 => (if bt192.1.toList = t183.toList then (laws_FnExactHouseText.j0 k (bt192.2 != t184) l0_0 l0_1 t185 t188) else (laws_FnExactHouseText.j0 k true l0_0 l0_1 t185 t188))) = some r := H
    have A9 := Aside0.mk A90
    clear A90
    replace H := Option.bind_eq_some_iff.mp H
    obtain ⟨⟨t192, t193⟩, A100, H⟩ := H
    replace H : (if t192.toList = t183.toList then (laws_FnExactHouseText.j0 k (t193 != t184) l0_0 l0_1 t185 t188) else (laws_FnExactHouseText.j0 k true l0_0 l0_1 t185 t188)) = some r := H
    have A10 := Aside0.mk A100
    clear A100
    have HC11 := Aside0.mk H
    clear H
    go_enter Tryd.func5, Tryd.ntmps5
    go_upto_region 8 with (first | ((with_reducible refine gate_dst (N := 1) rfl ?_); refine box_event ?hg (N := 1) ?hd (cs := #[.slice A0_0 l0_0.length c0_0, .slice A0_1 l0_1.length c0_1]) (t := 37) ?hr ?_; (case hd => rfl); (case hg => rfl); (case hr => first | (go_simp; done) | (go_simp; rfl)); intro gb175 hg w12 hbox hb; have n0_ := Aside0.mk (below_step (by repeat (first | (with_reducible first | exact HB.out | apply below_alloc | apply pw_below_drewN | apply below_drew1) | exact HB.out)) hb); have n1_ := Aside0.mk (hbox); have n2_ := Aside0.mk ((by rw [hg]; exact (below_size (by repeat (first | (with_reducible first | exact HB.out | apply below_alloc | apply pw_below_drewN | apply below_drew1) | exact HB.out))) : w.heap.size ≤ gb175)); have n3_ := Aside0.mk ((by rw [hg]; exact (below_size (by repeat (first | (with_reducible first | exact HB.out | apply below_alloc | apply pw_below_drewN | apply below_drew1) | exact HB.out))) : w.heap.size ≤ gb175)); clear HB; have HB := n0_; have BK175 := n1_; have GW175 := n2_; have GE175 := n3_; clear n0_ n1_ n2_ n3_; clear hb hbox hg; have hcz13_0 : w12.cell? ⟨gb175, 0, none⟩ = some (.slice A0_0 l0_0.length c0_0) := (blk_cell BK175.out 0).trans rfl; have hcz13_1 : w12.cell? ⟨gb175, 1, none⟩ = some (.slice A0_1 l0_1.length c0_1) := (blk_cell BK175.out 1).trans rfl; have hfz13_0 := blk_frozen BK175.out 0; have hfz13_1 := blk_frozen BK175.out 1) | ((with_reducible refine gate_callee (f := 18) rfl ?_); refine goesL_ (some 11) rfl rfl Tryd.func18 (by kernel_rfl) rfl #[.agg #[.slice A0_0 l0_0.length c0_0, .slice A0_1 l0_1.length c0_1], .int .i64 1048576] rfl (by (try simp only [List.map_toArray, List.map_cons, List.map_nil]); first | done | rfl | (simp only [List.length_drop, List.length_take]; rfl)) ?_; (with_reducible refine (laws_szHouse.calls _ _ l0_0 _ _ l0_1 1048576 t176 _ ?side1 ?side2 ?side3 ?side4 A2.out).mono ?_); (case side1 => repeat (first | exact (Kd.C_below HR0_0.out HB.out) | (with_reducible refine Kd.C_alloc ?_ _) | (with_reducible refine Kd.C_drewN ?_ _) | (with_reducible refine Kd.C_drew ?_))); (case side2 => exact HC0_0.out); (case side3 => repeat (first | exact (Kd.C_below HR0_1.out HB.out) | (with_reducible refine Kd.C_alloc ?_ _) | (with_reducible refine Kd.C_drewN ?_ _) | (with_reducible refine Kd.C_drew ?_))); (case side4 => exact HC0_1.out); rintro e w14 ⟨rfl, hb⟩; refine ⟨_, rfl, ?_⟩; have n0_ := Aside0.mk (blk_below (g := gb175) (o := .cells #[.slice A0_0 l0_0.length c0_0, .slice A0_1 l0_1.length c0_1] 37 (0, 0)) (by (with_reducible repeat (first | refine blk_drewN ?_ _ | refine blk_drew ?_ | refine blk_alloc ?_ _)); exact BK175.out) hb); have n1_ := Aside0.mk (below_step (by repeat (first | (with_reducible first | exact HB.out | apply below_alloc | apply pw_below_drewN | apply below_drew1 | refine below_set ?_ GE175.out) | exact HB.out)) hb); clear BK175; clear HB; have BK175 := n0_; have HB := n1_; clear n0_ n1_; (try clear hb); (try clear hb2); (try clear hk); (try clear hi); have hcz15_0 : w14.cell? ⟨gb175, 0, none⟩ = some (.slice A0_0 l0_0.length c0_0) := (blk_cell BK175.out 0).trans rfl; have hcz15_1 : w14.cell? ⟨gb175, 1, none⟩ = some (.slice A0_1 l0_1.length c0_1) := (blk_cell BK175.out 1).trans rfl; have hfz15_0 := blk_frozen BK175.out 0; have hfz15_1 := blk_frozen BK175.out 1) | ((with_reducible refine gate_callee (f := 20) rfl ?_); refine goesL_ (some 16) rfl rfl Tryd.func20 (by kernel_rfl) rfl #[.agg #[.slice A0_0 l0_0.length c0_0, .slice A0_1 l0_1.length c0_1]] rfl (by (try simp only [List.map_toArray, List.map_cons, List.map_nil]); first | done | rfl | (simp only [List.length_drop, List.length_take]; rfl)) ?_; (with_reducible refine (laws_toHouse.calls k _ _ l0_0 _ _ l0_1 t177 t180 _ ?side1 ?side2 ?side3 ?side4 A7.out).mono ?_); (case side1 => repeat (first | exact (Kd.C_below HR0_0.out HB.out) | (with_reducible refine Kd.C_alloc ?_ _) | (with_reducible refine Kd.C_drewN ?_ _) | (with_reducible refine Kd.C_drew ?_))); (case side2 => exact HC0_0.out); (case side3 => repeat (first | exact (Kd.C_below HR0_1.out HB.out) | (with_reducible refine Kd.C_alloc ?_ _) | (with_reducible refine Kd.C_drewN ?_ _) | (with_reducible refine Kd.C_drew ?_))); (case side4 => exact HC0_1.out); rintro e w16 ⟨v178, v181, rfl, ho0, ho1, hb⟩; refine ⟨_, rfl, ?_⟩; have n0_ := Aside0.mk (Kd.R_lower ho0 (below_size (by repeat (first | (with_reducible first | exact HB.out | apply below_alloc | apply pw_below_drewN | apply below_drew1 | refine below_set ?_ GE175.out) | exact HB.out)))); have n1_ := Aside0.mk (Kd.R_lower ho1 (below_size (by repeat (first | (with_reducible first | exact HB.out | apply below_alloc | apply pw_below_drewN | apply below_drew1 | refine below_set ?_ GE175.out) | exact HB.out)))); have n2_ := Aside0.mk (blk_below (g := gb175) (o := .cells #[.slice A0_0 l0_0.length c0_0, .slice A0_1 l0_1.length c0_1] 37 (0, 0)) (by (with_reducible repeat (first | refine blk_drewN ?_ _ | refine blk_drew ?_ | refine blk_alloc ?_ _)); exact BK175.out) hb); have n3_ := Aside0.mk (below_step (by repeat (first | (with_reducible first | exact HB.out | apply below_alloc | apply pw_below_drewN | apply below_drew1 | refine below_set ?_ GE175.out) | exact HB.out)) hb); clear BK175; clear HB; have HO179 := n0_; have HO182 := n1_; have BK175 := n2_; have HB := n3_; clear n0_ n1_ n2_ n3_; (try clear hb); (try clear hb2); (try clear hk); (try clear hi); (try clear ho0); (try clear ho1); obtain ⟨Ao17, co17, eo17⟩ := Kd.R_slice HO179.out; subst eo17; obtain ⟨Ao18, co18, eo18⟩ := Kd.R_slice HO182.out; subst eo18) | ((with_reducible refine gate_callee (f := 19) rfl ?_); refine goesL_ (some 17) rfl rfl Tryd.func19 (by kernel_rfl) rfl #[.agg #[.slice Ao17 t177.length co17, .slice Ao18 t180.length co18]] rfl (by (try simp only [List.map_toArray, List.map_cons, List.map_nil]); first | done | rfl | (simp only [List.length_drop, List.length_take]; rfl)) ?_; (with_reducible refine (spec_HouseText.calls k _ _ t177 _ _ t180 t183 t184 _ ?side1 ?side2 ?side3 ?side4 A8.out).mono ?_); (case side1 => repeat (first | exact (Kd.R_reads' HO179.out).2.2 | (with_reducible refine Kd.C_alloc ?_ _) | (with_reducible refine Kd.C_drewN ?_ _) | (with_reducible refine Kd.C_drew ?_))); (case side2 => exact (Kd.R_reads' HO179.out).2.1); (case side3 => repeat (first | exact (Kd.R_reads' HO182.out).2.2 | (with_reducible refine Kd.C_alloc ?_ _) | (with_reducible refine Kd.C_drewN ?_ _) | (with_reducible refine Kd.C_drew ?_))); (case side4 => exact (Kd.R_reads' HO182.out).2.1); rintro e w19 ⟨rfl, hb⟩; refine ⟨_, rfl, ?_⟩; have n0_ := Aside0.mk (Kd.R_below (by (with_reducible repeat (first | apply Kd.R_alloc | apply Kd.R_drewN | apply Kd.R_drew)); exact HO179.out) hb); have n1_ := Aside0.mk (Kd.R_below (by (with_reducible repeat (first | apply Kd.R_alloc | apply Kd.R_drewN | apply Kd.R_drew)); exact HO182.out) hb); have n2_ := Aside0.mk (blk_below (g := gb175) (o := .cells #[.slice A0_0 l0_0.length c0_0, .slice A0_1 l0_1.length c0_1] 37 (0, 0)) (by (with_reducible repeat (first | refine blk_drewN ?_ _ | refine blk_drew ?_ | refine blk_alloc ?_ _)); exact BK175.out) hb); have n3_ := Aside0.mk (below_step (by repeat (first | (with_reducible first | exact HB.out | apply below_alloc | apply pw_below_drewN | apply below_drew1 | refine below_set ?_ GE175.out) | exact HB.out)) hb); clear HO179; clear HO182; clear BK175; clear HB; have HO179 := n0_; have HO182 := n1_; have BK175 := n2_; have HB := n3_; clear n0_ n1_ n2_ n3_; (try clear hb); (try clear hb2); (try clear hk); (try clear hi); have hcz20_0 : w19.cell? ⟨gb175, 0, none⟩ = some (.slice A0_0 l0_0.length c0_0) := (blk_cell BK175.out 0).trans rfl; have hcz20_1 : w19.cell? ⟨gb175, 1, none⟩ = some (.slice A0_1 l0_1.length c0_1) := (blk_cell BK175.out 1).trans rfl; have hfz20_0 := blk_frozen BK175.out 0; have hfz20_1 := blk_frozen BK175.out 1) | ((with_reducible refine gate_callee (f := 20) rfl ?_); refine goesL_ (some 21) rfl rfl Tryd.func20 (by kernel_rfl) rfl #[.agg #[.slice A0_0 l0_0.length c0_0, .slice A0_1 l0_1.length c0_1]] rfl (by (try simp only [List.map_toArray, List.map_cons, List.map_nil]); first | done | rfl | (simp only [List.length_drop, List.length_take]; rfl)) ?_; (with_reducible refine (laws_toHouse.calls k _ _ l0_0 _ _ l0_1 t185 t188 _ ?side1 ?side2 ?side3 ?side4 A9.out).mono ?_); (case side1 => repeat (first | exact (Kd.C_below HR0_0.out HB.out) | (with_reducible refine Kd.C_alloc ?_ _) | (with_reducible refine Kd.C_drewN ?_ _) | (with_reducible refine Kd.C_drew ?_))); (case side2 => exact HC0_0.out); (case side3 => repeat (first | exact (Kd.C_below HR0_1.out HB.out) | (with_reducible refine Kd.C_alloc ?_ _) | (with_reducible refine Kd.C_drewN ?_ _) | (with_reducible refine Kd.C_drew ?_))); (case side4 => exact HC0_1.out); rintro e w21 ⟨v186, v189, rfl, ho0, ho1, hb⟩; refine ⟨_, rfl, ?_⟩; have n0_ := Aside0.mk (Kd.R_mono (Kd.R_told (Kd.R_told (Kd.R_old (by (with_reducible repeat (first | apply Kd.R_alloc | apply Kd.R_drewN | apply Kd.R_drew)); exact HO179.out) hb) (Kd.R_base ho0)) (Kd.R_base ho1)) (fun _ h_ => h_.1)); have n1_ := Aside0.mk (Kd.R_mono (Kd.R_told (Kd.R_told (Kd.R_old (by (with_reducible repeat (first | apply Kd.R_alloc | apply Kd.R_drewN | apply Kd.R_drew)); exact HO182.out) hb) (Kd.R_base ho0)) (Kd.R_base ho1)) (fun _ h_ => h_.1)); have n2_ := Aside0.mk (Kd.R_lower (Kd.R_new' (Kd.R_new' ho0 (Kd.R_lt (by (with_reducible repeat (first | apply Kd.R_alloc | apply Kd.R_drewN | apply Kd.R_drew)); exact HO179.out))) (Kd.R_lt (by (with_reducible repeat (first | apply Kd.R_alloc | apply Kd.R_drewN | apply Kd.R_drew)); exact HO182.out))) (below_size (by repeat (first | (with_reducible first | exact HB.out | apply below_alloc | apply pw_below_drewN | apply below_drew1 | refine below_set ?_ GE175.out) | exact HB.out)))); have n3_ := Aside0.mk (Kd.R_lower (Kd.R_new' (Kd.R_new' ho1 (Kd.R_lt (by (with_reducible repeat (first | apply Kd.R_alloc | apply Kd.R_drewN | apply Kd.R_drew)); exact HO179.out))) (Kd.R_lt (by (with_reducible repeat (first | apply Kd.R_alloc | apply Kd.R_drewN | apply Kd.R_drew)); exact HO182.out))) (below_size (by repeat (first | (with_reducible first | exact HB.out | apply below_alloc | apply pw_below_drewN | apply below_drew1 | refine below_set ?_ GE175.out) | exact HB.out)))); have n4_ := Aside0.mk (blk_below (g := gb175) (o := .cells #[.slice A0_0 l0_0.length c0_0, .slice A0_1 l0_1.length c0_1] 37 (0, 0)) (by (with_reducible repeat (first | refine blk_drewN ?_ _ | refine blk_drew ?_ | refine blk_alloc ?_ _)); exact BK175.out) hb); have n5_ := Aside0.mk (below_step (by repeat (first | (with_reducible first | exact HB.out | apply below_alloc | apply pw_below_drewN | apply below_drew1 | refine below_set ?_ GE175.out) | exact HB.out)) hb); clear HO179; clear HO182; clear BK175; clear HB; have HO179 := n0_; have HO182 := n1_; have HO187 := n2_; have HO190 := n3_; have BK175 := n4_; have HB := n5_; clear n0_ n1_ n2_ n3_ n4_ n5_; (try clear hb); (try clear hb2); (try clear hk); (try clear hi); (try clear ho0); (try clear ho1)) | ((with_reducible refine gate_dst (N := 6) rfl ?_); refine box_event ?hg (N := 6) ?hd (cs := #[.slice none 0 0, .slice none 0 0]) (t := 40) ?hr ?_; (case hd => rfl); (case hg => rfl); (case hr => first | (go_simp; done) | (go_simp; rfl)); intro gb191 hg w22 hbox hb; have n0_ := Aside0.mk (Kd.R_below (by (with_reducible repeat (first | apply Kd.R_alloc | apply Kd.R_drewN | apply Kd.R_drew)); exact HO179.out) hb); have n1_ := Aside0.mk (Kd.R_below (by (with_reducible repeat (first | apply Kd.R_alloc | apply Kd.R_drewN | apply Kd.R_drew)); exact HO182.out) hb); have n2_ := Aside0.mk (Kd.R_below (by (with_reducible repeat (first | apply Kd.R_alloc | apply Kd.R_drewN | apply Kd.R_drew)); exact HO187.out) hb); have n3_ := Aside0.mk (Kd.R_below (by (with_reducible repeat (first | apply Kd.R_alloc | apply Kd.R_drewN | apply Kd.R_drew)); exact HO190.out) hb); have n4_ := Aside0.mk (blk_below (g := gb175) (o := .cells #[.slice A0_0 l0_0.length c0_0, .slice A0_1 l0_1.length c0_1] 37 (0, 0)) (by (with_reducible repeat (first | refine blk_drewN ?_ _ | refine blk_drew ?_ | refine blk_alloc ?_ _)); exact BK175.out) hb); have n5_ := Aside0.mk (below_step (by repeat (first | (with_reducible first | exact HB.out | apply below_alloc | apply pw_below_drewN | apply below_drew1 | refine below_set ?_ GE175.out) | exact HB.out)) hb); have n6_ := Aside0.mk (hbox); have n7_ := Aside0.mk ((by rw [hg]; exact (below_size (by repeat (first | (with_reducible first | exact HB.out | apply below_alloc | apply pw_below_drewN | apply below_drew1 | refine below_set ?_ GE175.out) | exact HB.out))) : w.heap.size ≤ gb191)); have n8_ := Aside0.mk ((by rw [hg]; exact (below_size (by repeat (first | (with_reducible first | exact HB.out | apply below_alloc | apply pw_below_drewN | apply below_drew1 | refine below_set ?_ GE175.out) | exact HB.out))) : w.heap.size ≤ gb191)); have n9_ := Aside0.mk ((by rw [hg]; exact Nat.ne_of_lt (blk_lt (g := gb175) (o := .cells #[.slice A0_0 l0_0.length c0_0, .slice A0_1 l0_1.length c0_1] 37 (0, 0)) (by (with_reducible repeat (first | refine blk_drewN ?_ _ | refine blk_drew ?_ | refine blk_alloc ?_ _)); exact BK175.out)) : gb175 ≠ gb191)); have n10_ := Aside0.mk ((by rw [hg]; exact Nat.ne_of_gt (blk_lt (g := gb175) (o := .cells #[.slice A0_0 l0_0.length c0_0, .slice A0_1 l0_1.length c0_1] 37 (0, 0)) (by (with_reducible repeat (first | refine blk_drewN ?_ _ | refine blk_drew ?_ | refine blk_alloc ?_ _)); exact BK175.out)) : gb191 ≠ gb175)); clear HO179; clear HO182; clear HO187; clear HO190; clear BK175; clear HB; have HO179 := n0_; have HO182 := n1_; have HO187 := n2_; have HO190 := n3_; have BK175 := n4_; have HB := n5_; have BK191 := n6_; have GW191 := n7_; have GE191 := n8_; have NB175_191 := n9_; have NB191_175 := n10_; clear n0_ n1_ n2_ n3_ n4_ n5_ n6_ n7_ n8_ n9_ n10_; clear hb hbox hg; obtain ⟨Ao23, co23, eo23⟩ := Kd.R_slice HO187.out; subst eo23; have hnb24 := NB191_175.out; have hnc24 := NB175_191.out; have hcz25_0 : w22.cell? ⟨gb191, 0, none⟩ = some (.slice none 0 0) := (blk_cell BK191.out 0).trans rfl; have hcz25_1 : w22.cell? ⟨gb191, 1, none⟩ = some (.slice none 0 0) := (blk_cell BK191.out 1).trans rfl; have hfz25_0 := blk_frozen BK191.out 0; have hfz25_1 := blk_frozen BK191.out 1; obtain ⟨Ao26, co26, eo26⟩ := Kd.R_slice HO190.out; subst eo26) | ((with_reducible refine gate_callee (f := 21) rfl ?_); refine goesL_ (some 24) rfl rfl Tryd.func21 (by kernel_rfl) rfl #[.agg #[.slice Ao23 t185.length co23, .slice Ao26 t188.length co26]] rfl (by (try simp only [List.map_toArray, List.map_cons, List.map_nil]); first | done | rfl | (simp only [List.length_drop, List.length_take]; rfl)) ?_; (with_reducible refine (impl_HouseText.calls k _ _ t185 _ _ t188 t192 t193 _ ?side1 ?side2 ?side3 ?side4 A10.out (Laid.below HLA.out (by repeat (first | (with_reducible first | exact HB.out | apply below_alloc | apply pw_below_drewN | apply below_drew1 | refine below_set ?_ GE175.out | refine below_set ?_ GE191.out) | exact HB.out)))).mono ?_); (case side1 => refine (Kd.R_reads' (e := 3) (base := w.heap.size) (ok := fun k_ => ((some k_ ≠ (.slice Ao26 t188.length co26 : Value).ownBlock ∧ some k_ ≠ (.slice Ao17 t177.length co17 : Value).ownBlock) ∧ some k_ ≠ (.slice Ao18 t180.length co18 : Value).ownBlock)) (n := t185.length) (c := co23) ?_).2.2; exact (by (with_reducible repeat (first | apply Kd.R_alloc | apply Kd.R_drewN | apply Kd.R_drew)); exact (Kd.R_mono (Kd.R_far (p := ⟨gb191, 1, none⟩) (Kd.R_far (p := ⟨gb191, 0, none⟩) (Kd.R_types HO187.out BK191.out (by decide)) (fun _ hk => hk.2) (.slice Ao23 t185.length co23)) (fun _ hk => hk.2) (.slice Ao26 t188.length co26)) (fun _ h_ => h_.1)))); (case side2 => exact (Kd.R_reads' HO187.out).2.1); (case side3 => refine (Kd.R_reads' (e := 3) (base := w.heap.size) (ok := fun k_ => ((some k_ ≠ (.slice Ao23 t185.length co23 : Value).ownBlock ∧ some k_ ≠ (.slice Ao17 t177.length co17 : Value).ownBlock) ∧ some k_ ≠ (.slice Ao18 t180.length co18 : Value).ownBlock)) (n := t188.length) (c := co26) ?_).2.2; exact (by (with_reducible repeat (first | apply Kd.R_alloc | apply Kd.R_drewN | apply Kd.R_drew)); exact (Kd.R_mono (Kd.R_far (p := ⟨gb191, 1, none⟩) (Kd.R_far (p := ⟨gb191, 0, none⟩) (Kd.R_types HO190.out BK191.out (by decide)) (fun _ hk => hk.2) (.slice Ao23 t185.length co23)) (fun _ hk => hk.2) (.slice Ao26 t188.length co26)) (fun _ h_ => h_.1)))); (case side4 => exact (Kd.R_reads' HO190.out).2.1); rintro e w27 ⟨rfl, hb⟩; refine ⟨_, rfl, ?_⟩; have n0_ := Aside0.mk (Kd.R_below (by (with_reducible repeat (first | apply Kd.R_alloc | apply Kd.R_drewN | apply Kd.R_drew)); exact (Kd.R_mono (Kd.R_far (p := ⟨gb191, 1, none⟩) (Kd.R_far (p := ⟨gb191, 0, none⟩) (Kd.R_types HO179.out BK191.out (by decide)) (fun _ hk => hk.2) (.slice Ao23 t185.length co23)) (fun _ hk => hk.2) (.slice Ao26 t188.length co26)) (fun _ h_ => h_.1))) hb); have n1_ := Aside0.mk (Kd.R_below (by (with_reducible repeat (first | apply Kd.R_alloc | apply Kd.R_drewN | apply Kd.R_drew)); exact (Kd.R_mono (Kd.R_far (p := ⟨gb191, 1, none⟩) (Kd.R_far (p := ⟨gb191, 0, none⟩) (Kd.R_types HO182.out BK191.out (by decide)) (fun _ hk => hk.2) (.slice Ao23 t185.length co23)) (fun _ hk => hk.2) (.slice Ao26 t188.length co26)) (fun _ h_ => h_.1))) hb); have n2_ := Aside0.mk (Kd.R_below (by (with_reducible repeat (first | apply Kd.R_alloc | apply Kd.R_drewN | apply Kd.R_drew)); exact (Kd.R_mono (Kd.R_far (p := ⟨gb191, 1, none⟩) (Kd.R_far (p := ⟨gb191, 0, none⟩) (Kd.R_types HO187.out BK191.out (by decide)) (fun _ hk => hk.2) (.slice Ao23 t185.length co23)) (fun _ hk => hk.2) (.slice Ao26 t188.length co26)) (fun _ h_ => h_.1))) hb); have n3_ := Aside0.mk (Kd.R_below (by (with_reducible repeat (first | apply Kd.R_alloc | apply Kd.R_drewN | apply Kd.R_drew)); exact (Kd.R_mono (Kd.R_far (p := ⟨gb191, 1, none⟩) (Kd.R_far (p := ⟨gb191, 0, none⟩) (Kd.R_types HO190.out BK191.out (by decide)) (fun _ hk => hk.2) (.slice Ao23 t185.length co23)) (fun _ hk => hk.2) (.slice Ao26 t188.length co26)) (fun _ h_ => h_.1))) hb); have n4_ := Aside0.mk (blk_below (g := gb175) (o := .cells #[.slice A0_0 l0_0.length c0_0, .slice A0_1 l0_1.length c0_1] 37 (0, 0)) (by (with_reducible repeat (first | refine blk_drewN ?_ _ | refine blk_drew ?_ | refine blk_alloc ?_ _)); refine blk_far ?_ NB175_191.out _; (with_reducible repeat (first | refine blk_drewN ?_ _ | refine blk_drew ?_ | refine blk_alloc ?_ _)); refine blk_far ?_ NB175_191.out _; (with_reducible repeat (first | refine blk_drewN ?_ _ | refine blk_drew ?_ | refine blk_alloc ?_ _)); exact BK175.out) hb); have n5_ := Aside0.mk (blk_below (g := gb191) (o := .cells #[.slice Ao23 t185.length co23, .slice Ao26 t188.length co26] 40 (0, 0)) (by (with_reducible repeat (first | refine blk_drewN ?_ _ | refine blk_drew ?_ | refine blk_alloc ?_ _)); refine blk_put (cs := #[.slice Ao23 t185.length co23, .slice none 0 0]) ?_ 1 _ rfl; (with_reducible repeat (first | refine blk_drewN ?_ _ | refine blk_drew ?_ | refine blk_alloc ?_ _)); refine blk_put (cs := #[.slice none 0 0, .slice none 0 0]) ?_ 0 _ rfl; (with_reducible repeat (first | refine blk_drewN ?_ _ | refine blk_drew ?_ | refine blk_alloc ?_ _)); exact BK191.out) hb); have n6_ := Aside0.mk (below_step (by repeat (first | (with_reducible first | exact HB.out | apply below_alloc | apply pw_below_drewN | apply below_drew1 | refine below_set ?_ GE175.out | refine below_set ?_ GE191.out) | exact HB.out)) hb); clear HO179; clear HO182; clear HO187; clear HO190; clear BK175; clear BK191; clear HB; have HO179 := n0_; have HO182 := n1_; have HO187 := n2_; have HO190 := n3_; have BK175 := n4_; have BK191 := n5_; have HB := n6_; clear n0_ n1_ n2_ n3_ n4_ n5_ n6_; (try clear hb); (try clear hb2); (try clear hk); (try clear hi)))
    (try simp only [Act.put, List.setIfInBounds_toArray, List.set_cons_zero, List.set_cons_succ])
    go_cut [34] (fun v34 wc => ∃ (kq : Nat) (x34_10 : Bool), v34 = .bool x34_10 ∧ Aside0 (laws_FnExactHouseText.j0 kq x34_10 l0_0 l0_1 t185 t188 = some r) ∧ Aside0 (kq ≤ k) ∧ Aside0 (Kd.R (Kd.int .i64) 3 wc w.heap.size (fun k_ => some k_ ≠ ((.slice Ao26 t188.length co26) : Value).ownBlock) (.slice Ao23 t185.length co23) t185) ∧ Aside0 (Kd.R (Kd.int .i64) 3 wc w.heap.size (fun k_ => some k_ ≠ ((.slice Ao23 t185.length co23) : Value).ownBlock) (.slice Ao26 t188.length co26) t188) ∧ Aside0 (wc.heap[gb175]? = some (.cells #[(.slice A0_0 l0_0.length c0_0), (.slice A0_1 l0_1.length c0_1)] 37 (0, 0))) ∧ Aside0 (wc.heap[gb191]? = some (.cells #[(.slice Ao23 t185.length co23), (.slice Ao26 t188.length co26)] 40 (0, 0))) ∧ Aside0 (Below w.heap.size w wc))
    case first =>
      have H := HC11.out
      clear HC11
      by_cases c28 : t192.toList = t183.toList
      · rw [if_pos c28] at H
        have c28b0 : (t192.toList == t183.toList) = true := beq_iff_eq.mpr c28
        have c28b1 : (t192.toList != t183.toList) = false := bne_eq_false_iff_eq.mpr c28
        clear c28
        (first | rw [c28b0] | (simp only [i64_w, i32_w]; rw [c28b0]) | skip)
        have H' := Aside0.mk H
        clear H
        go_wp2
        go_meet
        case rel => exact ⟨_, ((t193 != t184)), (by first | rfl | (simp; done) | (simp [*]; done)), H', ⟨by first | omega | exact Nat.le_refl _⟩, ⟨by (with_reducible repeat (first | apply Kd.R_alloc | apply Kd.R_drewN | apply Kd.R_drew)); exact Kd.R_mono HO187.out (fun _ hk => hk.1.1)⟩, ⟨by (with_reducible repeat (first | apply Kd.R_alloc | apply Kd.R_drewN | apply Kd.R_drew)); exact Kd.R_mono HO190.out (fun _ hk => hk.1.1)⟩, ⟨by (with_reducible repeat (first | refine blk_drewN ?_ _ | refine blk_drew ?_ | refine blk_alloc ?_ _)); exact BK175.out⟩, ⟨by (with_reducible repeat (first | refine blk_drewN ?_ _ | refine blk_drew ?_ | refine blk_alloc ?_ _)); exact BK191.out⟩, ⟨by repeat (first | (with_reducible first | exact HB.out | apply below_alloc | apply pw_below_drewN | apply below_drew1 | refine below_set ?_ GE175.out | refine below_set ?_ GE191.out) | exact HB.out)⟩⟩
      · rw [if_neg c28] at H
        have c28b0 : (t192.toList == t183.toList) = false := beq_eq_false_iff_ne.mpr c28
        have c28b1 : (t192.toList != t183.toList) = true := bne_iff_ne.mpr c28
        (first | rw [c28b0] | (simp only [i64_w, i32_w]; rw [c28b0]) | skip)
        have H' := Aside0.mk H
        clear H
        go_wp2
        go_meet
        case rel => exact ⟨_, (true), (by first | rfl | (simp; done) | (simp [*]; done)), H', ⟨by first | omega | exact Nat.le_refl _⟩, ⟨by (with_reducible repeat (first | apply Kd.R_alloc | apply Kd.R_drewN | apply Kd.R_drew)); exact Kd.R_mono HO187.out (fun _ hk => hk.1.1)⟩, ⟨by (with_reducible repeat (first | apply Kd.R_alloc | apply Kd.R_drewN | apply Kd.R_drew)); exact Kd.R_mono HO190.out (fun _ hk => hk.1.1)⟩, ⟨by (with_reducible repeat (first | refine blk_drewN ?_ _ | refine blk_drew ?_ | refine blk_alloc ?_ _)); exact BK175.out⟩, ⟨by (with_reducible repeat (first | refine blk_drewN ?_ _ | refine blk_drew ?_ | refine blk_alloc ?_ _)); exact BK191.out⟩, ⟨by repeat (first | (with_reducible first | exact HB.out | apply below_alloc | apply pw_below_drewN | apply below_drew1 | refine below_set ?_ GE175.out | refine below_set ?_ GE191.out) | exact HB.out)⟩⟩
    case rest =>
      clear HC11
      try clear c1
      try clear c2
      try clear p2
      try clear c3
      try clear c3b0
      try clear c5
      try clear c18
      try clear c19
      try clear c20
      try clear c21
      try clear c24
      try clear c28
      try clear c28b0
      try clear c28b1
      try clear hcz13_0
      try clear hcz13_1
      try clear hcz15_0
      try clear hcz15_1
      try clear hcz20_0
      try clear hcz20_1
      try clear hcz25_0
      try clear hcz25_1
      try clear hcz5_0
      try clear hcz5_1
      try clear hfz13_0
      try clear hfz13_1
      try clear hfz15_0
      try clear hfz15_1
      try clear hfz20_0
      try clear hfz20_1
      try clear hfz25_0
      try clear hfz25_1
      try clear hfz5_0
      try clear hfz5_1
      obtain ⟨kq, x34_10, rfl, HA, HJ10, HO_192000, HO_192001, BK175, BK191, HB⟩ := hcut
      cases kq with
      | zero => exact absurd HA.out (by simp [laws_FnExactHouseText.j0])
      | succ kj10 =>
        have H := HA.out
        clear HA
        simp only [laws_FnExactHouseText.j0] at H
        by_cases c29 : x34_10 = true
        · subst c29
          have H1 : (some false) = some r := by rw [if_pos rfl] at H; exact H
          clear H
          have H := H1
          clear H1
          obtain rfl := Option.some.inj H
          go_wp2
          go_ret
          exact ⟨by first | rfl | (simp [errW_none, errW_some] <;> rfl) | (simp [*, errW_none, errW_some] <;> rfl), by repeat (first | (with_reducible first | exact HB.out | apply below_alloc | apply pw_below_drewN | apply below_drew1 | refine below_set ?_ GE175.out | refine below_set ?_ GE191.out) | exact HB.out)⟩
        · replace c29 := Bool.eq_false_iff.mpr c29
          subst c29
          have H1 : ((laws_toHouse.f kj10 l0_0 l0_1).bind fun bt194 => ((laws_eqHouse.f kj10 t185 t188 bt194.1 bt194.2).bind fun t200 => (if t200 = true then (some true) else (some false)))) = some r := by rw [if_neg (show ¬ (false = true) by decide)] at H; exact H
          clear H
          have H := H1
          clear H1
          replace H := Option.bind_eq_some_iff.mp H
          obtain ⟨⟨t194, t197⟩, A300, H⟩ := H
          replace H : ((laws_eqHouse.f kj10 t185 t188 t194 t197).bind fun t200 => (if t200 = true then (some true) else (some false))) = some r := H
          have A30 := Aside0.mk A300
          clear A300
          replace H := Option.bind_eq_some_iff.mp H
          obtain ⟨t200, A310, H⟩ := H
          replace H : (if t200 = true then (some true) else (some false)) = some r := H
          have A31 := Aside0.mk A310
          clear A310
          by_cases c32 : t200 = true
          · subst c32
            have H1 : (some true) = some r := by rw [if_pos rfl] at H; exact H
            clear H
            have H := H1
            clear H1
            obtain rfl := Option.some.inj H
            try go_wp2
            have n0_ := Aside0.mk (Kd.R_drew HO_192000.out)
            have n1_ := Aside0.mk (Kd.R_drew HO_192001.out)
            have n2_ := Aside0.mk (blk_drew BK175.out)
            have n3_ := Aside0.mk (blk_drew BK191.out)
            have n4_ := Aside0.mk (below_drew1 HB.out)
            clear HO_192000
            clear HO_192001
            clear BK175
            clear BK191
            clear HB
            have HO_192000 := n0_
            have HO_192001 := n1_
            have BK175 := n2_
            have BK191 := n3_
            have HB := n4_
            clear n0_ n1_ n2_ n3_ n4_
            refine start_ (n := 5) (S := fun w' => w'.cell? ⟨gb191, 0, none⟩ = some (.slice Ao23 t185.length co23) ∧ w'.cell? ⟨gb191, 1, none⟩ = some (.slice Ao26 t188.length co26) ∧ w'.cell? ⟨gb175, 0, none⟩ = some (.slice A0_0 l0_0.length c0_0) ∧ w'.cell? ⟨gb175, 1, none⟩ = some (.slice A0_1 l0_1.length c0_1)) (ds := []) #[false, false, false, false, false] (by kernel_rfl) rfl rfl ⟨(blk_cell BK191.out 0).trans rfl, (blk_cell BK191.out 1).trans rfl, (blk_cell BK175.out 0).trans rfl, (blk_cell BK175.out 1).trans rfl⟩ (fun hHeld => ?_)
            generalize wc.drew = w33 at HO_192000 HO_192001 BK175 BK191 HB hHeld ⊢
            refine take_ (i := 0) (N := some 35) (v := ?_) (a' := ?_) #[true, false, false, false, false] rfl rfl (by kernel_rfl) (fun _ _ _ h => h) (Or.inl ⟨by rfl, ?_⟩) hHeld ?_ ?_
            rotate_left
            · rintro w' ⟨s0, s1, s2, s3⟩
              go_simp
              with_reducible rfl
            rotate_left
            · simp only [Act.put, List.setIfInBounds_toArray, List.set_cons_zero, List.set_cons_succ, i64_w, i32_w]
              rfl
            refine take_ (i := 1) (N := some 36) (v := ?_) (a' := ?_) #[true, true, false, false, false] rfl rfl (by kernel_rfl) (fun _ _ _ h => h) (Or.inl ⟨by rfl, ?_⟩) hHeld ?_ ?_
            rotate_left
            · rintro w' ⟨s0, s1, s2, s3⟩
              go_simp
              with_reducible rfl
            rotate_left
            · simp only [Act.put, List.setIfInBounds_toArray, List.set_cons_zero, List.set_cons_succ, i64_w, i32_w]
              rfl
            refine one_ (i := 2) (N := some 37) #[true, true, true, false, false] rfl rfl (by kernel_rfl) (by decide) (fun K hK => ?_)
            refine goes_ Tryd.func20 (by kernel_rfl) rfl #[.agg #[.slice A0_0 l0_0.length c0_0, .slice A0_1 l0_1.length c0_1]] (by rfl) rfl rfl (by (try simp only [List.map_toArray, List.map_cons, List.map_nil]); first | done | rfl | (simp only [List.length_drop, List.length_take]; rfl)) ?_
            with_reducible refine (laws_toHouse.calls kj10 _ _ l0_0 _ _ l0_1 t194 t197 _ ?side1 ?side2 ?side3 ?side4 A30.out).mono ?_
            (case side1 => repeat (first | exact (Kd.C_below HR0_0.out HB.out) | (with_reducible refine Kd.C_alloc ?_ _) | (with_reducible refine Kd.C_drewN ?_ _) | (with_reducible refine Kd.C_drew ?_)))
            (case side2 => exact HC0_0.out)
            (case side3 => repeat (first | exact (Kd.C_below HR0_1.out HB.out) | (with_reducible refine Kd.C_alloc ?_ _) | (with_reducible refine Kd.C_drewN ?_ _) | (with_reducible refine Kd.C_drew ?_)))
            (case side4 => exact HC0_1.out)
            rintro e w34 ⟨v195, v198, rfl, ho0, ho1, hb⟩
            refine ⟨_, rfl, ?_⟩
            have n0_ := Aside0.mk (Kd.R_mono (Kd.R_told (Kd.R_told (Kd.R_old (by (with_reducible repeat (first | apply Kd.R_alloc | apply Kd.R_drewN | apply Kd.R_drew)); exact HO_192000.out) hb) (Kd.R_base ho0)) (Kd.R_base ho1)) (fun _ h_ => h_.1))
            have n1_ := Aside0.mk (Kd.R_mono (Kd.R_told (Kd.R_told (Kd.R_old (by (with_reducible repeat (first | apply Kd.R_alloc | apply Kd.R_drewN | apply Kd.R_drew)); exact HO_192001.out) hb) (Kd.R_base ho0)) (Kd.R_base ho1)) (fun _ h_ => h_.1))
            have n2_ := Aside0.mk (Kd.R_lower (Kd.R_new' (Kd.R_new' ho0 (Kd.R_lt (by (with_reducible repeat (first | apply Kd.R_alloc | apply Kd.R_drewN | apply Kd.R_drew)); exact HO_192000.out))) (Kd.R_lt (by (with_reducible repeat (first | apply Kd.R_alloc | apply Kd.R_drewN | apply Kd.R_drew)); exact HO_192001.out))) (below_size (by repeat (first | (with_reducible first | exact HB.out | apply below_alloc | apply pw_below_drewN | apply below_drew1 | refine below_set ?_ GE175.out | refine below_set ?_ GE191.out) | exact HB.out))))
            have n3_ := Aside0.mk (Kd.R_lower (Kd.R_new' (Kd.R_new' ho1 (Kd.R_lt (by (with_reducible repeat (first | apply Kd.R_alloc | apply Kd.R_drewN | apply Kd.R_drew)); exact HO_192000.out))) (Kd.R_lt (by (with_reducible repeat (first | apply Kd.R_alloc | apply Kd.R_drewN | apply Kd.R_drew)); exact HO_192001.out))) (below_size (by repeat (first | (with_reducible first | exact HB.out | apply below_alloc | apply pw_below_drewN | apply below_drew1 | refine below_set ?_ GE175.out | refine below_set ?_ GE191.out) | exact HB.out))))
            have n4_ := Aside0.mk (blk_below (g := gb175) (o := .cells #[.slice A0_0 l0_0.length c0_0, .slice A0_1 l0_1.length c0_1] 37 (0, 0)) (by (with_reducible repeat (first | refine blk_drewN ?_ _ | refine blk_drew ?_ | refine blk_alloc ?_ _)); exact BK175.out) hb)
            have n5_ := Aside0.mk (blk_below (g := gb191) (o := .cells #[.slice Ao23 t185.length co23, .slice Ao26 t188.length co26] 40 (0, 0)) (by (with_reducible repeat (first | refine blk_drewN ?_ _ | refine blk_drew ?_ | refine blk_alloc ?_ _)); exact BK191.out) hb)
            have n6_ := Aside0.mk (below_step (by repeat (first | (with_reducible first | exact HB.out | apply below_alloc | apply pw_below_drewN | apply below_drew1 | refine below_set ?_ GE175.out | refine below_set ?_ GE191.out) | exact HB.out)) hb)
            clear HO_192000
            clear HO_192001
            clear BK175
            clear BK191
            clear HB
            have HO_192000 := n0_
            have HO_192001 := n1_
            have HO196 := n2_
            have HO199 := n3_
            have BK175 := n4_
            have BK191 := n5_
            have HB := n6_
            clear n0_ n1_ n2_ n3_ n4_ n5_ n6_
            (try clear hb)
            (try clear hb2)
            (try clear hk)
            (try clear hi)
            (try clear ho0)
            (try clear ho1)
            obtain ⟨Ao35, co35, eo35⟩ := Kd.R_slice HO196.out
            (first | subst eo35 | (injection eo35 with f1_ f2_ f3_; have f4_ := f1_.symm; have f5_ := f3_.symm; clear f1_ f2_ f3_; subst f4_; subst f5_))
            obtain ⟨Ao36, co36, eo36⟩ := Kd.R_slice HO199.out
            (first | subst eo36 | (injection eo36 with f1_ f2_ f3_; have f4_ := f1_.symm; have f5_ := f3_.symm; clear f1_ f2_ f3_; subst f4_; subst f5_))
            refine hK.out _ _ ⟨(blk_cell BK191.out 0).trans rfl, (blk_cell BK191.out 1).trans rfl, (blk_cell BK175.out 0).trans rfl, (blk_cell BK175.out 1).trans rfl⟩ (fun hHeld => ?_)
            clear hK K
            refine norm_ (a' := ?_) ?_ ?_
            rotate_left
            · show Act.put _ (some 37) _ = _
              simp only [Act.put, List.setIfInBounds_toArray, List.set_cons_zero, List.set_cons_succ, i64_w, i32_w]
              rfl
            refine one_ (i := 3) (N := some 38) #[true, true, true, true, false] rfl rfl (by kernel_rfl) (by decide) (fun K hK => ?_)
            refine goes_ Tryd.func22 (by kernel_rfl) rfl #[.agg #[.slice Ao23 t185.length co23, .slice Ao26 t188.length co26], .agg #[.slice Ao35 t194.length co35, .slice Ao36 t197.length co36]] (by rfl) rfl rfl (by (try simp only [List.map_toArray, List.map_cons, List.map_nil]); first | done | rfl | (simp only [List.length_drop, List.length_take]; rfl)) ?_
            with_reducible refine (laws_eqHouse.calls kj10 _ _ t185 _ _ t188 _ _ t194 _ _ t197 true _ ?side1 ?side2 ?side3 ?side4 ?side5 ?side6 ?side7 ?side8 A31.out).mono ?_
            (case side1 => repeat (first | exact (Kd.R_reads' HO_192000.out).2.2 | (with_reducible refine Kd.C_alloc ?_ _) | (with_reducible refine Kd.C_drewN ?_ _) | (with_reducible refine Kd.C_drew ?_)))
            (case side2 => exact (Kd.R_reads' HO_192000.out).2.1)
            (case side3 => repeat (first | exact (Kd.R_reads' HO_192001.out).2.2 | (with_reducible refine Kd.C_alloc ?_ _) | (with_reducible refine Kd.C_drewN ?_ _) | (with_reducible refine Kd.C_drew ?_)))
            (case side4 => exact (Kd.R_reads' HO_192001.out).2.1)
            (case side5 => repeat (first | exact (Kd.R_reads' HO196.out).2.2 | (with_reducible refine Kd.C_alloc ?_ _) | (with_reducible refine Kd.C_drewN ?_ _) | (with_reducible refine Kd.C_drew ?_)))
            (case side6 => exact (Kd.R_reads' HO196.out).2.1)
            (case side7 => repeat (first | exact (Kd.R_reads' HO199.out).2.2 | (with_reducible refine Kd.C_alloc ?_ _) | (with_reducible refine Kd.C_drewN ?_ _) | (with_reducible refine Kd.C_drew ?_)))
            (case side8 => exact (Kd.R_reads' HO199.out).2.1)
            rintro e w37 ⟨rfl, hb⟩
            refine ⟨_, rfl, ?_⟩
            have n0_ := Aside0.mk (Kd.R_below (by (with_reducible repeat (first | apply Kd.R_alloc | apply Kd.R_drewN | apply Kd.R_drew)); exact HO_192000.out) hb)
            have n1_ := Aside0.mk (Kd.R_below (by (with_reducible repeat (first | apply Kd.R_alloc | apply Kd.R_drewN | apply Kd.R_drew)); exact HO_192001.out) hb)
            have n2_ := Aside0.mk (Kd.R_below (by (with_reducible repeat (first | apply Kd.R_alloc | apply Kd.R_drewN | apply Kd.R_drew)); exact HO196.out) hb)
            have n3_ := Aside0.mk (Kd.R_below (by (with_reducible repeat (first | apply Kd.R_alloc | apply Kd.R_drewN | apply Kd.R_drew)); exact HO199.out) hb)
            have n4_ := Aside0.mk (blk_below (g := gb175) (o := .cells #[.slice A0_0 l0_0.length c0_0, .slice A0_1 l0_1.length c0_1] 37 (0, 0)) (by (with_reducible repeat (first | refine blk_drewN ?_ _ | refine blk_drew ?_ | refine blk_alloc ?_ _)); exact BK175.out) hb)
            have n5_ := Aside0.mk (blk_below (g := gb191) (o := .cells #[.slice Ao23 t185.length co23, .slice Ao26 t188.length co26] 40 (0, 0)) (by (with_reducible repeat (first | refine blk_drewN ?_ _ | refine blk_drew ?_ | refine blk_alloc ?_ _)); exact BK191.out) hb)
            have n6_ := Aside0.mk (below_step (by repeat (first | (with_reducible first | exact HB.out | apply below_alloc | apply pw_below_drewN | apply below_drew1 | refine below_set ?_ GE175.out | refine below_set ?_ GE191.out) | exact HB.out)) hb)
            clear HO_192000
            clear HO_192001
            clear HO196
            clear HO199
            clear BK175
            clear BK191
            clear HB
            have HO_192000 := n0_
            have HO_192001 := n1_
            have HO196 := n2_
            have HO199 := n3_
            have BK175 := n4_
            have BK191 := n5_
            have HB := n6_
            clear n0_ n1_ n2_ n3_ n4_ n5_ n6_
            (try clear hb)
            (try clear hb2)
            (try clear hk)
            (try clear hi)
            refine hK.out _ _ ⟨(blk_cell BK191.out 0).trans rfl, (blk_cell BK191.out 1).trans rfl, (blk_cell BK175.out 0).trans rfl, (blk_cell BK175.out 1).trans rfl⟩ (fun hHeld => ?_)
            clear hK K
            refine norm_ (a' := ?_) ?_ ?_
            rotate_left
            · show Act.put _ (some 38) _ = _
              simp only [Act.put, List.setIfInBounds_toArray, List.set_cons_zero, List.set_cons_succ, i64_w, i32_w]
              rfl
            refine pure_ (i := 4) (N := some 39) (v := ?_) (a' := ?_) #[true, true, true, true, true] rfl rfl (by kernel_rfl) (fun _ _ _ h => h) (Or.inl ⟨by rfl, ?_⟩) ?_ ?_
            rotate_left
            · intro w'
              go_simp
              with_reducible rfl
            rotate_left
            · simp only [Act.put, List.setIfInBounds_toArray, List.set_cons_zero, List.set_cons_succ, i64_w, i32_w]
              rfl
            refine done_ (by kernel_rfl) ?_
            try go_wp2
            go_ret
            exact ⟨by first | rfl | (simp [errW_none, errW_some] <;> rfl) | (simp [*, errW_none, errW_some] <;> rfl), by repeat (first | (with_reducible first | exact HB.out | apply below_alloc | apply pw_below_drewN | apply below_drew1 | refine below_set ?_ GE175.out | refine below_set ?_ GE191.out) | exact HB.out)⟩
          · replace c32 := Bool.eq_false_iff.mpr c32
            subst c32
            have H1 : (some false) = some r := by rw [if_neg (show ¬ (false = true) by decide)] at H; exact H
            clear H
            have H := H1
            clear H1
            obtain rfl := Option.some.inj H
            try go_wp2
            have n0_ := Aside0.mk (Kd.R_drew HO_192000.out)
            have n1_ := Aside0.mk (Kd.R_drew HO_192001.out)
            have n2_ := Aside0.mk (blk_drew BK175.out)
            have n3_ := Aside0.mk (blk_drew BK191.out)
            have n4_ := Aside0.mk (below_drew1 HB.out)
            clear HO_192000
            clear HO_192001
            clear BK175
            clear BK191
            clear HB
            have HO_192000 := n0_
            have HO_192001 := n1_
            have BK175 := n2_
            have BK191 := n3_
            have HB := n4_
            clear n0_ n1_ n2_ n3_ n4_
            refine start_ (n := 5) (S := fun w' => w'.cell? ⟨gb191, 0, none⟩ = some (.slice Ao23 t185.length co23) ∧ w'.cell? ⟨gb191, 1, none⟩ = some (.slice Ao26 t188.length co26) ∧ w'.cell? ⟨gb175, 0, none⟩ = some (.slice A0_0 l0_0.length c0_0) ∧ w'.cell? ⟨gb175, 1, none⟩ = some (.slice A0_1 l0_1.length c0_1)) (ds := []) #[false, false, false, false, false] (by kernel_rfl) rfl rfl ⟨(blk_cell BK191.out 0).trans rfl, (blk_cell BK191.out 1).trans rfl, (blk_cell BK175.out 0).trans rfl, (blk_cell BK175.out 1).trans rfl⟩ (fun hHeld => ?_)
            generalize wc.drew = w38 at HO_192000 HO_192001 BK175 BK191 HB hHeld ⊢
            refine take_ (i := 0) (N := some 35) (v := ?_) (a' := ?_) #[true, false, false, false, false] rfl rfl (by kernel_rfl) (fun _ _ _ h => h) (Or.inl ⟨by rfl, ?_⟩) hHeld ?_ ?_
            rotate_left
            · rintro w' ⟨s0, s1, s2, s3⟩
              go_simp
              with_reducible rfl
            rotate_left
            · simp only [Act.put, List.setIfInBounds_toArray, List.set_cons_zero, List.set_cons_succ, i64_w, i32_w]
              rfl
            refine take_ (i := 1) (N := some 36) (v := ?_) (a' := ?_) #[true, true, false, false, false] rfl rfl (by kernel_rfl) (fun _ _ _ h => h) (Or.inl ⟨by rfl, ?_⟩) hHeld ?_ ?_
            rotate_left
            · rintro w' ⟨s0, s1, s2, s3⟩
              go_simp
              with_reducible rfl
            rotate_left
            · simp only [Act.put, List.setIfInBounds_toArray, List.set_cons_zero, List.set_cons_succ, i64_w, i32_w]
              rfl
            refine one_ (i := 2) (N := some 37) #[true, true, true, false, false] rfl rfl (by kernel_rfl) (by decide) (fun K hK => ?_)
            refine goes_ Tryd.func20 (by kernel_rfl) rfl #[.agg #[.slice A0_0 l0_0.length c0_0, .slice A0_1 l0_1.length c0_1]] (by rfl) rfl rfl (by (try simp only [List.map_toArray, List.map_cons, List.map_nil]); first | done | rfl | (simp only [List.length_drop, List.length_take]; rfl)) ?_
            with_reducible refine (laws_toHouse.calls kj10 _ _ l0_0 _ _ l0_1 t194 t197 _ ?side1 ?side2 ?side3 ?side4 A30.out).mono ?_
            (case side1 => repeat (first | exact (Kd.C_below HR0_0.out HB.out) | (with_reducible refine Kd.C_alloc ?_ _) | (with_reducible refine Kd.C_drewN ?_ _) | (with_reducible refine Kd.C_drew ?_)))
            (case side2 => exact HC0_0.out)
            (case side3 => repeat (first | exact (Kd.C_below HR0_1.out HB.out) | (with_reducible refine Kd.C_alloc ?_ _) | (with_reducible refine Kd.C_drewN ?_ _) | (with_reducible refine Kd.C_drew ?_)))
            (case side4 => exact HC0_1.out)
            rintro e w39 ⟨v195, v198, rfl, ho0, ho1, hb⟩
            refine ⟨_, rfl, ?_⟩
            have n0_ := Aside0.mk (Kd.R_mono (Kd.R_told (Kd.R_told (Kd.R_old (by (with_reducible repeat (first | apply Kd.R_alloc | apply Kd.R_drewN | apply Kd.R_drew)); exact HO_192000.out) hb) (Kd.R_base ho0)) (Kd.R_base ho1)) (fun _ h_ => h_.1))
            have n1_ := Aside0.mk (Kd.R_mono (Kd.R_told (Kd.R_told (Kd.R_old (by (with_reducible repeat (first | apply Kd.R_alloc | apply Kd.R_drewN | apply Kd.R_drew)); exact HO_192001.out) hb) (Kd.R_base ho0)) (Kd.R_base ho1)) (fun _ h_ => h_.1))
            have n2_ := Aside0.mk (Kd.R_lower (Kd.R_new' (Kd.R_new' ho0 (Kd.R_lt (by (with_reducible repeat (first | apply Kd.R_alloc | apply Kd.R_drewN | apply Kd.R_drew)); exact HO_192000.out))) (Kd.R_lt (by (with_reducible repeat (first | apply Kd.R_alloc | apply Kd.R_drewN | apply Kd.R_drew)); exact HO_192001.out))) (below_size (by repeat (first | (with_reducible first | exact HB.out | apply below_alloc | apply pw_below_drewN | apply below_drew1 | refine below_set ?_ GE175.out | refine below_set ?_ GE191.out) | exact HB.out))))
            have n3_ := Aside0.mk (Kd.R_lower (Kd.R_new' (Kd.R_new' ho1 (Kd.R_lt (by (with_reducible repeat (first | apply Kd.R_alloc | apply Kd.R_drewN | apply Kd.R_drew)); exact HO_192000.out))) (Kd.R_lt (by (with_reducible repeat (first | apply Kd.R_alloc | apply Kd.R_drewN | apply Kd.R_drew)); exact HO_192001.out))) (below_size (by repeat (first | (with_reducible first | exact HB.out | apply below_alloc | apply pw_below_drewN | apply below_drew1 | refine below_set ?_ GE175.out | refine below_set ?_ GE191.out) | exact HB.out))))
            have n4_ := Aside0.mk (blk_below (g := gb175) (o := .cells #[.slice A0_0 l0_0.length c0_0, .slice A0_1 l0_1.length c0_1] 37 (0, 0)) (by (with_reducible repeat (first | refine blk_drewN ?_ _ | refine blk_drew ?_ | refine blk_alloc ?_ _)); exact BK175.out) hb)
            have n5_ := Aside0.mk (blk_below (g := gb191) (o := .cells #[.slice Ao23 t185.length co23, .slice Ao26 t188.length co26] 40 (0, 0)) (by (with_reducible repeat (first | refine blk_drewN ?_ _ | refine blk_drew ?_ | refine blk_alloc ?_ _)); exact BK191.out) hb)
            have n6_ := Aside0.mk (below_step (by repeat (first | (with_reducible first | exact HB.out | apply below_alloc | apply pw_below_drewN | apply below_drew1 | refine below_set ?_ GE175.out | refine below_set ?_ GE191.out) | exact HB.out)) hb)
            clear HO_192000
            clear HO_192001
            clear BK175
            clear BK191
            clear HB
            have HO_192000 := n0_
            have HO_192001 := n1_
            have HO196 := n2_
            have HO199 := n3_
            have BK175 := n4_
            have BK191 := n5_
            have HB := n6_
            clear n0_ n1_ n2_ n3_ n4_ n5_ n6_
            (try clear hb)
            (try clear hb2)
            (try clear hk)
            (try clear hi)
            (try clear ho0)
            (try clear ho1)
            obtain ⟨Ao40, co40, eo40⟩ := Kd.R_slice HO196.out
            (first | subst eo40 | (injection eo40 with f1_ f2_ f3_; have f4_ := f1_.symm; have f5_ := f3_.symm; clear f1_ f2_ f3_; subst f4_; subst f5_))
            obtain ⟨Ao41, co41, eo41⟩ := Kd.R_slice HO199.out
            (first | subst eo41 | (injection eo41 with f1_ f2_ f3_; have f4_ := f1_.symm; have f5_ := f3_.symm; clear f1_ f2_ f3_; subst f4_; subst f5_))
            refine hK.out _ _ ⟨(blk_cell BK191.out 0).trans rfl, (blk_cell BK191.out 1).trans rfl, (blk_cell BK175.out 0).trans rfl, (blk_cell BK175.out 1).trans rfl⟩ (fun hHeld => ?_)
            clear hK K
            refine norm_ (a' := ?_) ?_ ?_
            rotate_left
            · show Act.put _ (some 37) _ = _
              simp only [Act.put, List.setIfInBounds_toArray, List.set_cons_zero, List.set_cons_succ, i64_w, i32_w]
              rfl
            refine one_ (i := 3) (N := some 38) #[true, true, true, true, false] rfl rfl (by kernel_rfl) (by decide) (fun K hK => ?_)
            refine goes_ Tryd.func22 (by kernel_rfl) rfl #[.agg #[.slice Ao23 t185.length co23, .slice Ao26 t188.length co26], .agg #[.slice Ao40 t194.length co40, .slice Ao41 t197.length co41]] (by rfl) rfl rfl (by (try simp only [List.map_toArray, List.map_cons, List.map_nil]); first | done | rfl | (simp only [List.length_drop, List.length_take]; rfl)) ?_
            with_reducible refine (laws_eqHouse.calls kj10 _ _ t185 _ _ t188 _ _ t194 _ _ t197 false _ ?side1 ?side2 ?side3 ?side4 ?side5 ?side6 ?side7 ?side8 A31.out).mono ?_
            (case side1 => repeat (first | exact (Kd.R_reads' HO_192000.out).2.2 | (with_reducible refine Kd.C_alloc ?_ _) | (with_reducible refine Kd.C_drewN ?_ _) | (with_reducible refine Kd.C_drew ?_)))
            (case side2 => exact (Kd.R_reads' HO_192000.out).2.1)
            (case side3 => repeat (first | exact (Kd.R_reads' HO_192001.out).2.2 | (with_reducible refine Kd.C_alloc ?_ _) | (with_reducible refine Kd.C_drewN ?_ _) | (with_reducible refine Kd.C_drew ?_)))
            (case side4 => exact (Kd.R_reads' HO_192001.out).2.1)
            (case side5 => repeat (first | exact (Kd.R_reads' HO196.out).2.2 | (with_reducible refine Kd.C_alloc ?_ _) | (with_reducible refine Kd.C_drewN ?_ _) | (with_reducible refine Kd.C_drew ?_)))
            (case side6 => exact (Kd.R_reads' HO196.out).2.1)
            (case side7 => repeat (first | exact (Kd.R_reads' HO199.out).2.2 | (with_reducible refine Kd.C_alloc ?_ _) | (with_reducible refine Kd.C_drewN ?_ _) | (with_reducible refine Kd.C_drew ?_)))
            (case side8 => exact (Kd.R_reads' HO199.out).2.1)
            rintro e w42 ⟨rfl, hb⟩
            refine ⟨_, rfl, ?_⟩
            have n0_ := Aside0.mk (Kd.R_below (by (with_reducible repeat (first | apply Kd.R_alloc | apply Kd.R_drewN | apply Kd.R_drew)); exact HO_192000.out) hb)
            have n1_ := Aside0.mk (Kd.R_below (by (with_reducible repeat (first | apply Kd.R_alloc | apply Kd.R_drewN | apply Kd.R_drew)); exact HO_192001.out) hb)
            have n2_ := Aside0.mk (Kd.R_below (by (with_reducible repeat (first | apply Kd.R_alloc | apply Kd.R_drewN | apply Kd.R_drew)); exact HO196.out) hb)
            have n3_ := Aside0.mk (Kd.R_below (by (with_reducible repeat (first | apply Kd.R_alloc | apply Kd.R_drewN | apply Kd.R_drew)); exact HO199.out) hb)
            have n4_ := Aside0.mk (blk_below (g := gb175) (o := .cells #[.slice A0_0 l0_0.length c0_0, .slice A0_1 l0_1.length c0_1] 37 (0, 0)) (by (with_reducible repeat (first | refine blk_drewN ?_ _ | refine blk_drew ?_ | refine blk_alloc ?_ _)); exact BK175.out) hb)
            have n5_ := Aside0.mk (blk_below (g := gb191) (o := .cells #[.slice Ao23 t185.length co23, .slice Ao26 t188.length co26] 40 (0, 0)) (by (with_reducible repeat (first | refine blk_drewN ?_ _ | refine blk_drew ?_ | refine blk_alloc ?_ _)); exact BK191.out) hb)
            have n6_ := Aside0.mk (below_step (by repeat (first | (with_reducible first | exact HB.out | apply below_alloc | apply pw_below_drewN | apply below_drew1 | refine below_set ?_ GE175.out | refine below_set ?_ GE191.out) | exact HB.out)) hb)
            clear HO_192000
            clear HO_192001
            clear HO196
            clear HO199
            clear BK175
            clear BK191
            clear HB
            have HO_192000 := n0_
            have HO_192001 := n1_
            have HO196 := n2_
            have HO199 := n3_
            have BK175 := n4_
            have BK191 := n5_
            have HB := n6_
            clear n0_ n1_ n2_ n3_ n4_ n5_ n6_
            (try clear hb)
            (try clear hb2)
            (try clear hk)
            (try clear hi)
            refine hK.out _ _ ⟨(blk_cell BK191.out 0).trans rfl, (blk_cell BK191.out 1).trans rfl, (blk_cell BK175.out 0).trans rfl, (blk_cell BK175.out 1).trans rfl⟩ (fun hHeld => ?_)
            clear hK K
            refine norm_ (a' := ?_) ?_ ?_
            rotate_left
            · show Act.put _ (some 38) _ = _
              simp only [Act.put, List.setIfInBounds_toArray, List.set_cons_zero, List.set_cons_succ, i64_w, i32_w]
              rfl
            refine pure_ (i := 4) (N := some 39) (v := ?_) (a' := ?_) #[true, true, true, true, true] rfl rfl (by kernel_rfl) (fun _ _ _ h => h) (Or.inl ⟨by rfl, ?_⟩) ?_ ?_
            rotate_left
            · intro w'
              go_simp
              with_reducible rfl
            rotate_left
            · simp only [Act.put, List.setIfInBounds_toArray, List.set_cons_zero, List.set_cons_succ, i64_w, i32_w]
              rfl
            refine done_ (by kernel_rfl) ?_
            try go_wp2
            go_ret
            exact ⟨by first | rfl | (simp [errW_none, errW_some] <;> rfl) | (simp [*, errW_none, errW_some] <;> rfl), by repeat (first | (with_reducible first | exact HB.out | apply below_alloc | apply pw_below_drewN | apply below_drew1 | refine below_set ?_ GE175.out | refine below_set ?_ GE191.out) | exact HB.out)⟩
end Go.Proofs.YtbmdgmmegchmnaaDoor.V
namespace Go.Proofs.YtbmdgmmegchmnaaDoor.Pure
open Go.RowKit Go.Proofs.YtbmdgmmegchmnaaDoor.V Go.Proofs.YtbmdgmmegchmnaaDoorW.PrintWords Go.Proofs.YtbmdgmmegchmnaaDoorW.PrintLast
set_option linter.unusedVariables false
set_option linter.unusedSimpArgs false
theorem wr {x : Int} (h0 : -9223372036854775808 ≤ x) (h1 : x ≤ 9223372036854775807) : wrap64 x = x := by
  unfold wrap64
  omega
theorem in_eq (a b c : Int) : spec_l1In.f a b c = some (decide (b ≤ a ∧ a ≤ c)) := by
  unfold spec_l1In.f
  by_cases h : a ≥ b
  · rw [if_pos h]
    simp [show b ≤ a from h]
  · rw [if_neg h]
    simp [show ¬ b ≤ a from h]
theorem within_eq (a b c : Int) : impl_within.f a b c = some (decide (b ≤ a ∧ a ≤ c)) := by
  unfold impl_within.f
  by_cases h : b ≤ a
  · rw [if_pos h]
    simp [h]
  · rw [if_neg h]
    simp [h]
theorem rd_nat (l : List Int) (i : Nat) (h : i < l.length) : rd l (i : Int) = l[i] := by simp [rd, List.getD, h]
def hsB (s d : List Int) : Bool := decide (2 ≤ (d.length : Int) ∧ (d.length : Int) ≤ 12) && (decide ((s.length : Int) + 1 = d.length) && ((s.all fun x => decide (1 ≤ x ∧ x ≤ 40)) && (d.all fun x => decide (0 ≤ x ∧ x ≤ 20))))
theorem hsB_facts {s d : List Int} (h : hsB s d = true) : 2 ≤ d.length ∧ d.length ≤ 12 ∧ s.length + 1 = d.length ∧ (∀ x ∈ s, 1 ≤ x ∧ x ≤ 40) ∧ (∀ x ∈ d, 0 ≤ x ∧ x ≤ 20) := by
  simp only [hsB, Bool.and_eq_true, List.all_eq_true, decide_eq_true_eq] at h
  exact ⟨by omega, by omega, by omega, h.2.2.1, h.2.2.2⟩
theorem all_l (lo hi : Int) (l : List Int) (hl : l.length ≤ 1000) (n : Nat) : ∀ (k i : Nat), i + n = l.length → n < k → spec_l1All.l0 k lo hi l (l.length : Int) (i : Int) = some ((l.drop i).all fun x => decide (lo ≤ x ∧ x ≤ hi)) := by
  induction n with
  | zero =>
    intro k i hd hk
    obtain ⟨k, rfl⟩ : ∃ m, k = m + 1 := ⟨k - 1, by omega⟩
    simp only [spec_l1All.l0]
    rw [if_neg (by omega), List.drop_of_length_le (by omega)]
    rfl
  | succ n ih =>
    intro k i hd hk
    obtain ⟨k, rfl⟩ : ∃ m, k = m + 1 := ⟨k - 1, by omega⟩
    have hix : i < l.length := by omega
    have ew : wrap64 ((i : Int) + 1) = ((i + 1 : Nat) : Int) := by rw [wr (by omega) (by omega)]; omega
    simp only [spec_l1All.l0, in_eq, Option.bind_some, ew, rd_nat l i hix]
    rw [if_pos (by omega), if_pos (by omega), if_pos (by omega), List.drop_eq_getElem_cons hix, List.all_cons]
    by_cases c : lo ≤ l[i] ∧ l[i] ≤ hi
    · rw [if_pos (decide_eq_true c), ih k (i + 1) (by omega) (by omega), decide_eq_true c, Bool.true_and]
    · rw [if_neg (by simpa using c), decide_eq_false c, Bool.false_and]
theorem all_val (lo hi : Int) (l : List Int) (hl : l.length ≤ 1000) (k : Nat) (hk : l.length < k) : spec_l1All.f k l lo hi = some (l.all fun x => decide (lo ≤ x ∧ x ≤ hi)) := by
  have := all_l lo hi l hl l.length k 0 (by omega) hk
  simpa [spec_l1All.f] using this
theorem any_not (p : Int → Bool) (l : List Int) : (l.any fun x => !p x) = !(l.all p) := by
  induction l with
  | nil => rfl
  | cons x t ih => simp only [List.any_cons, List.all_cons, ih, Bool.not_and]
theorem ldGood_eq (s d : List Int) (hm : d.length ≤ 4000000000) (k : Nat) (hk : 20 ≤ k) : spec_ldGood.f k s d = some (hsB s d) := by
  simp only [spec_ldGood.f, in_eq, Option.bind_some, hsB]
  rw [wr (x := (d.length : Int) - 1) (by omega) (by omega)]
  by_cases c1 : 2 ≤ (d.length : Int) ∧ (d.length : Int) ≤ 12
  · by_cases c2 : (s.length : Int) + 1 = d.length
    · rw [all_val 1 40 s (by omega) k (by omega), all_val 0 20 d (by omega) k (by omega), if_pos (decide_eq_true c1), if_pos (by omega), decide_eq_true c1, decide_eq_true c2]
      simp only [Option.bind_some, Bool.true_and]
      cases s.all fun x => decide (1 ≤ x ∧ x ≤ 40) <;> simp
    · rw [if_pos (decide_eq_true c1), if_neg (by omega), decide_eq_false c2]
      simp
  · rw [if_neg (by simpa using c1), decide_eq_false c1]
    rfl
theorem isHouse_eq (s d : List Int) (hm : d.length ≤ 4000000000) : impl_IsHouse.f s d = some (hsB s d) := by
  simp only [impl_IsHouse.f, within_eq, Option.bind_some, hsB, cf_IsHouse1.f, cf_IsHouse2.f]
  rw [wr (x := (d.length : Int) - 1) (by omega) (by omega)]
  by_cases c1 : 2 ≤ (d.length : Int) ∧ (d.length : Int) ≤ 12
  · by_cases c2 : (s.length : Int) + 1 = d.length
    · rw [if_pos (show s.length ≤ 9223372036854775807 by omega), if_pos (show d.length ≤ 9223372036854775807 by omega), if_pos (decide_eq_true c1), if_pos (by omega), decide_eq_true c1, decide_eq_true c2, any_not, any_not]
      simp only [Option.bind_some, Bool.true_and]
      cases s.all fun x => decide (1 ≤ x ∧ x ≤ 40) <;> simp
    · rw [if_pos (decide_eq_true c1), if_neg (by omega), decide_eq_false c2]
      simp
  · rw [if_neg (by simpa using c1), decide_eq_false c1]
    rfl
theorem sz_val (s d : List Int) (hs : s.length ≤ maxLen) (hd : d.length ≤ maxLen) : (s.length ≤ 1048576 ∧ d.length ≤ 1048576 ∧ ∃ n : Int, laws_szHouse.f s d 1048576 = some n ∧ ¬ n < 0) ∨ ∃ n : Int, laws_szHouse.f s d 1048576 = some n ∧ n < 0 := by
  unfold maxLen at hs hd
  simp only [laws_szHouse.f, laws_szIntS.f]
  rw [wr (x := (1048576 : Int) - (s.length : Int)) (by omega) (by omega)]
  by_cases c : (1048576 : Int) - (s.length : Int) < 0
  · rw [if_pos c]
    exact .inr ⟨-1, rfl, by omega⟩
  · rw [if_neg c]
    simp only [Option.bind_some]
    rw [if_neg c, wr (x := (1048576 : Int) - (s.length : Int) - (d.length : Int)) (by omega) (by omega)]
    by_cases c2 : (1048576 : Int) - (s.length : Int) - (d.length : Int) < 0
    · rw [if_pos c2]
      exact .inr ⟨-1, rfl, by omega⟩
    · rw [if_neg c2]
      simp only [Option.bind_some]
      rw [if_neg c2]
      exact .inl ⟨by omega, by omega, _, rfl, c2⟩
theorem toI_l (l : List Int) (t : List Int) : ∀ (k : Nat) (pre : List Int), l = pre ++ t → l.length ≤ 2000000 → t.length < k → laws_toIntS.l0 k l (pre ++ List.replicate t.length 0) (pre.length : Int) = some l := by
  induction t with
  | nil =>
    intro k pre e hl hk
    obtain ⟨k, rfl⟩ : ∃ m, k = m + 1 := ⟨k - 1, by omega⟩
    subst e
    simp only [laws_toIntS.l0, List.length_nil, List.replicate_zero, List.append_nil]
    rw [if_neg (by omega)]
  | cons x t ih =>
    intro k pre e hl hk
    simp only [List.length_cons] at hk
    obtain ⟨k, rfl⟩ : ∃ m, k = m + 1 := ⟨k - 1, by omega⟩
    have hlen : l.length = pre.length + (t.length + 1) := by rw [e]; simp
    have ew : wrap64 ((pre.length : Int) + 1) = ((pre.length + 1 : Nat) : Int) := by rw [wr (by omega) (by omega)]; omega
    have er : rd l (pre.length : Int) = x := by rw [e]; simp [rd, List.getD]
    have es : (pre ++ List.replicate (t.length + 1) (0 : Int)).set ((pre.length : Int)).toNat x = (pre ++ [x]) ++ List.replicate t.length 0 := by
      rw [Int.toNat_natCast, List.set_append_right _ _ (Nat.le_refl _), Nat.sub_self, List.replicate_succ]
      simp
    have := ih k (pre ++ [x]) (by rw [e]; simp) hl (by omega)
    rw [show (pre ++ [x]).length = pre.length + 1 by simp] at this
    simp only [laws_toIntS.l0, List.length_cons, ew, er, es]
    rw [if_pos (by omega), if_pos (by omega), if_pos (by simp only [List.length_append, List.length_replicate]; omega), this]
theorem toI_val (l : List Int) (hl : l.length ≤ 2000000) (k : Nat) (hk : 2000000 < k) : laws_toIntS.f k l = some l := by
  have := toI_l l l k [] rfl hl (by omega)
  simp only [laws_toIntS.f, Int.toNat_natCast]
  rw [if_pos (by omega), if_pos (by omega)]
  simpa using this
theorem toHouse_val (s d : List Int) (hs : s.length ≤ 1048576) (hd : d.length ≤ 1048576) (k : Nat) (hk : 2000000 < k) : laws_toHouse.f k s d = some (s, d) := by
  simp only [laws_toHouse.f, toI_val s (by omega) k hk, toI_val d (by omega) k hk, Option.bind_some]
theorem eqI_l (l : List Int) (hl : l.length ≤ 4000000) (n : Nat) : ∀ (k : Nat) (i : Nat), i + n = l.length → n < k → laws_eqIntS.l0 k l l (i : Int) = some true := by
  induction n with
  | zero =>
    intro k i hd hk
    obtain ⟨k, rfl⟩ : ∃ m, k = m + 1 := ⟨k - 1, by omega⟩
    simp only [laws_eqIntS.l0]
    rw [if_neg (by omega)]
  | succ n ih =>
    intro k i hd hk
    obtain ⟨k, rfl⟩ : ∃ m, k = m + 1 := ⟨k - 1, by omega⟩
    have ew : wrap64 ((i : Int) + 1) = ((i + 1 : Nat) : Int) := by rw [wr (by omega) (by omega)]; omega
    simp only [laws_eqIntS.l0, ew]
    rw [if_pos (by omega), if_pos (by omega), if_pos (by omega), if_pos trivial, ih k (i + 1) (by omega) (by omega)]
theorem eqI_val (l : List Int) (hl : l.length ≤ 2000000) (k : Nat) (hk : 2000000 < k) : laws_eqIntS.f k l l = some true := by
  unfold laws_eqIntS.f
  rw [if_pos rfl]
  exact eqI_l l (by omega) l.length k 0 (by omega) (by omega)
theorem eqHouse_val (s d : List Int) (hs : s.length ≤ 1048576) (hd : d.length ≤ 1048576) (k : Nat) (hk : 2000000 < k) : laws_eqHouse.f k s d s d = some true := by
  simp only [laws_eqHouse.f, eqI_val s (by omega) k hk, eqI_val d (by omega) k hk, Option.bind_some, if_true]
def Small (l : List Int) : Prop := l.length ≤ 20 ∧ ∀ x ∈ l, 0 ≤ x ∧ x ≤ 40
theorem Small.take {l : List Int} (h : Small l) (n : Nat) : Small (l.take n) := ⟨Nat.le_trans (List.length_take_le' _ _) h.1, fun x hx => h.2 x (List.mem_of_mem_take hx)⟩
theorem Small.drop {l : List Int} (h : Small l) (n : Nat) : Small (l.drop n) := ⟨by rw [List.length_drop]; have := h.1; omega, fun x hx => h.2 x (List.mem_of_mem_drop hx)⟩
section Num
open Go.Lib
theorem dd_step (n : Nat) (h : ¬ n < 10) : decDigits n = decDigits (n / 10) ++ [UInt8.ofNat (48 + n % 10)] := by rw [decDigits, dif_neg h]
theorem dd_len (k : Nat) : ∀ n, n < 10 ^ (k + 1) → (decDigits n).length ≤ k + 1 := by
  induction k with
  | zero => intro n h; rw [decDigits_one (by simpa using h)]; simp
  | succ k ih =>
    intro n h
    by_cases c : n < 10
    · rw [decDigits_one c]; simp
    · rw [dd_step n c, List.length_append]
      have := ih (n / 10) (by rw [Nat.pow_succ] at h; omega)
      simpa using this
theorem itoa_dec (n : Nat) : itoa (n : Int) = decDigits n := by
  unfold itoa; rw [if_neg (by omega)]; rfl
end Num
section Spl
open Go.Lib
end Spl
section Txt
open Go.Lib
def nm (n : Int) : ByteArray := ⟨(itoa n).toArray⟩
theorem nm_size (n : Int) : (nm n).size = (itoa n).length := by simp [nm, ByteArray.size]
theorem nm_le (n : Int) (h0 : -9223372036854775808 ≤ n) (h1 : n ≤ 9223372036854775807) : (nm n).size ≤ 21 := by rw [nm_size]; exact itoa_length_le n h0 h1
theorem one_eq (d : Int) (h0 : 0 ≤ d) (h : d < 10) : strOfNums [(wrap64 (48 + d)) % 256] = ⟨#[UInt8.ofNat (48 + d.toNat)]⟩ := by
  have e : (wrap64 (48 + d)) % 256 = 48 + d := by unfold wrap64; omega
  rw [e]
  simp only [strOfNums, List.map_cons, List.map_nil]
  rw [show (48 + d).toNat = 48 + d.toNat by omega]
theorem l1Num_eq (k : Nat) : ∀ (n : Nat), n < 10 ^ (k + 1) → k ≤ 18 → ∀ K, k < K → spec_l1Num.f K (n : Int) = some (nm n) := by
  induction k with
  | zero =>
    intro n h _ K hK
    obtain ⟨K, rfl⟩ : ∃ m, K = m + 1 := ⟨K - 1, by omega⟩
    have h' : n < 10 := by simpa using h
    simp only [spec_l1Num.f]
    rw [if_pos (by omega), one_eq n (by omega) (by omega)]
    unfold nm
    rw [itoa_dec, decDigits_one h', Int.toNat_natCast]
  | succ k ih =>
    intro n h hk K hK
    obtain ⟨K, rfl⟩ : ∃ m, K = m + 1 := ⟨K - 1, by omega⟩
    simp only [spec_l1Num.f]
    by_cases c : n < 10
    · rw [if_pos (by omega), one_eq n (by omega) (by omega)]
      unfold nm
      rw [itoa_dec, decDigits_one c, Int.toNat_natCast]
    · have hn : n / 10 < 10 ^ (k + 1) := by rw [Nat.pow_succ] at h; omega
      have hp : 10 ^ (k + 1) ≤ 10 ^ 18 := Nat.pow_le_pow_right (by decide) (by omega)
      have e18 : (10 : Nat) ^ 18 = 1000000000000000000 := by decide
      have e1 : Int.tdiv (n : Int) 10 = ((n / 10 : Nat) : Int) := (Int.ofNat_tdiv n 10).symm
      have e2 : Int.tmod (n : Int) 10 = ((n % 10 : Nat) : Int) := (Int.ofNat_tmod n 10).symm
      have e3 : wrap64 (((n / 10 : Nat) : Int)) = ((n / 10 : Nat) : Int) := by unfold wrap64; omega
      rw [if_neg (by omega), e1, e3, ih (n / 10) hn (by omega) K (by omega), e2]
      simp only [Option.bind_some]
      rw [one_eq _ (by omega) (by omega)]
      have hl := dd_len k (n / 10) hn
      have hs : (nm ((n / 10 : Nat) : Int)).size = (decDigits (n / 10)).length := by rw [nm_size, itoa_dec]
      rw [if_pos (by rw [hs]; simp [ByteArray.size]; omega)]
      congr 1
      unfold nm
      rw [itoa_dec n, itoa_dec (n / 10), dd_step n c, Int.toNat_natCast]
      apply ByteArray.ext
      simp
theorem l1Num_int (a : Int) (h0 : 0 ≤ a) (h1 : a ≤ 1000000) (K : Nat) (hK : 20 ≤ K) : spec_l1Num.f K a = some (nm a) := by
  obtain ⟨n, rfl⟩ : ∃ n : Nat, a = n := ⟨a.toNat, by omega⟩
  exact l1Num_eq 18 n (by have e : (10 : Nat) ^ (18 + 1) = 10000000000000000000 := by decide
                          omega) (by omega) K (by omega)
theorem itoa_eq (a : Int) (h0 : 0 ≤ a) (h1 : a ≤ 1000000) : strconv_Itoa_108.f a = some (nm a) := by
  unfold strconv_Itoa_108.f
  rw [if_pos (by omega)]; rfl
theorem nm_le' (a : Int) (h0 : 0 ≤ a) (h1 : a ≤ 1000000) : (nm a).size ≤ 21 := nm_le a (by omega) (by omega)
end Txt
section Htx
open Go.Lib
def htl : List Int → List Int → List UInt8
  | a :: s, b :: d => 94 :: (itoa a ++ (58 :: (itoa b ++ htl s d)))
  | _, _ => []
def hTxt (s d : List Int) : ByteArray := ⟨(itoa (rd d 0) ++ htl s (d.drop 1)).toArray⟩
theorem ba_app (a b : List UInt8) : (⟨a.toArray⟩ : ByteArray) ++ ⟨b.toArray⟩ = ⟨(a ++ b).toArray⟩ := by
  apply ByteArray.ext; simp
theorem htx_step (x : List UInt8) (a b : Int) : (⟨x.toArray⟩ : ByteArray) ++ ((((⟨#[94]⟩ : ByteArray) ++ nm a) ++ (⟨#[58]⟩ : ByteArray)) ++ nm b) = ⟨(x ++ 94 :: (itoa a ++ (58 :: itoa b))).toArray⟩ := by
  have e1 : (⟨#[94]⟩ : ByteArray) = ⟨[94].toArray⟩ := rfl
  have e2 : (⟨#[58]⟩ : ByteArray) = ⟨[58].toArray⟩ := rfl
  unfold nm
  rw [e1, e2, ba_app, ba_app, ba_app, ba_app]
  simp
theorem specText_l0 (s d : List Int) (hl : s.length + 1 = d.length) (hd : d.length ≤ 12) (hs : ∀ x ∈ s, 1 ≤ x ∧ x ≤ 40) (hdd : ∀ x ∈ d, 0 ≤ x ∧ x ≤ 20) :
    ∀ (n i K : Nat) (x : List UInt8), i + n = s.length → n + 21 ≤ K → x.length ≤ 21 + 44 * i → spec_ldText.l0 K ⟨x.toArray⟩ s (s.length : Int) (i : Int) s d = some ⟨(x ++ htl (s.drop i) (d.drop (i + 1))).toArray⟩
  | 0, i, K, x, hi, hK, hx => by
    obtain ⟨K, rfl⟩ : ∃ m, K = m + 1 := ⟨K - 1, by omega⟩
    simp only [spec_ldText.l0]
    rw [if_neg (by omega), List.drop_of_length_le (by omega)]
    simp [htl]
  | n + 1, i, K, x, hi, hK, hx => by
    obtain ⟨K, rfl⟩ : ∃ m, K = m + 1 := ⟨K - 1, by omega⟩
    have h1 : i < s.length := by omega
    have h2 : i + 1 < d.length := by omega
    have ew : wrap64 ((i : Int) + 1) = ((i + 1 : Nat) : Int) := by rw [wr (by omega) (by omega)]; omega
    have b1 := hs s[i] (List.getElem_mem h1)
    have b2 := hdd d[i + 1] (List.getElem_mem h2)
    have z1 := nm_le' s[i] (by omega) (by omega)
    have z2 := nm_le' d[i + 1] (by omega) (by omega)
    have o1 : (⟨#[94]⟩ : ByteArray).size = 1 := rfl
    have o2 : (⟨#[58]⟩ : ByteArray).size = 1 := rfl
    have o3 : (⟨x.toArray⟩ : ByteArray).size = x.length := by simp [ByteArray.size]
    simp only [spec_ldText.l0, ew, rd_nat s i h1, rd_nat d (i + 1) h2]
    rw [if_pos (by omega), if_pos (by omega), if_pos (by omega), l1Num_int s[i] (by omega) (by omega) K (by omega), l1Num_int d[i + 1] (by omega) (by omega) K (by omega)]
    simp only [Option.bind_some, ByteArray.size_append]
    rw [if_pos (by omega), if_pos (by omega), if_pos (by omega), if_pos (by omega), if_pos (by omega), if_pos (by omega), htx_step,
      specText_l0 s d hl hd hs hdd n (i + 1) K _ (by omega) (by omega) (by
        rw [nm_size] at z1 z2
        simp only [List.length_append, List.length_cons]; omega)]
    rw [List.drop_eq_getElem_cons h1, List.drop_eq_getElem_cons h2]
    simp [htl]
theorem implText_l0 (s d : List Int) (hl : s.length + 1 = d.length) (hd : d.length ≤ 12) (hs : ∀ x ∈ s, 1 ≤ x ∧ x ≤ 40) (hdd : ∀ x ∈ d, 0 ≤ x ∧ x ≤ 20) :
    ∀ (n i K : Nat) (x : List UInt8), i + n = s.length → n + 21 ≤ K → x.length ≤ 21 + 44 * i → impl_HouseText.l0 K ⟨x.toArray⟩ s (s.length : Int) (i : Int) s d = some (⟨(x ++ htl (s.drop i) (d.drop (i + 1))).toArray⟩, true)
  | 0, i, K, x, hi, hK, hx => by
    obtain ⟨K, rfl⟩ : ∃ m, K = m + 1 := ⟨K - 1, by omega⟩
    simp only [impl_HouseText.l0]
    rw [if_neg (by omega), List.drop_of_length_le (by omega)]
    simp [htl]
  | n + 1, i, K, x, hi, hK, hx => by
    obtain ⟨K, rfl⟩ : ∃ m, K = m + 1 := ⟨K - 1, by omega⟩
    have h1 : i < s.length := by omega
    have h2 : i + 1 < d.length := by omega
    have ew : wrap64 ((i : Int) + 1) = ((i + 1 : Nat) : Int) := by rw [wr (by omega) (by omega)]; omega
    have b1 := hs s[i] (List.getElem_mem h1)
    have b2 := hdd d[i + 1] (List.getElem_mem h2)
    have z1 := nm_le' s[i] (by omega) (by omega)
    have z2 := nm_le' d[i + 1] (by omega) (by omega)
    have o1 : (⟨#[94]⟩ : ByteArray).size = 1 := rfl
    have o2 : (⟨#[58]⟩ : ByteArray).size = 1 := rfl
    have o3 : (⟨x.toArray⟩ : ByteArray).size = x.length := by simp [ByteArray.size]
    simp only [impl_HouseText.l0, ew, rd_nat s i h1, rd_nat d (i + 1) h2]
    rw [if_pos (by omega), if_pos (by omega), if_pos (by omega), itoa_eq s[i] (by omega) (by omega), itoa_eq d[i + 1] (by omega) (by omega)]
    simp only [Option.bind_some, ByteArray.size_append]
    rw [if_pos (by omega), if_pos (by omega), if_pos (by omega), if_pos (by omega), if_pos (by omega), if_pos (by omega), htx_step,
      implText_l0 s d hl hd hs hdd n (i + 1) K _ (by omega) (by omega) (by
        rw [nm_size] at z1 z2
        simp only [List.length_append, List.length_cons]; omega)]
    rw [List.drop_eq_getElem_cons h1, List.drop_eq_getElem_cons h2]
    simp [htl]
def hOut (s d : List Int) : ByteArray × Bool := if hsB s d = true then (hTxt s d, true) else ((⟨#[]⟩ : ByteArray), false)
theorem ldText_eq (s d : List Int) (h : hsB s d = true) (K : Nat) (hK : 100 ≤ K) : spec_ldText.f K s d = some (hTxt s d) := by
  obtain ⟨h1, h2, h3, h4, h5⟩ := hsB_facts h
  have e0 : rd d 0 = d[0] := rd_nat d 0 (by omega)
  have b := h5 d[0] (List.getElem_mem (by omega))
  have z := nm_le' d[0] (by omega) (by omega)
  rw [nm_size] at z
  unfold spec_ldText.f
  rw [if_pos (by omega), e0, l1Num_int d[0] (by omega) (by omega) K (by omega)]
  simp only [Option.bind_some]
  have := specText_l0 s d h3 h2 h4 h5 s.length 0 K (itoa d[0]) (by omega) (by omega) (by omega)
  unfold hTxt
  rw [e0]
  exact this
theorem houseText_spec (s d : List Int) (hm : d.length ≤ 4000000000) (K : Nat) (hK : 100 ≤ K) : spec_HouseText.f K s d = some (hOut s d) := by
  unfold spec_HouseText.f hOut
  rw [ldGood_eq s d hm K (by omega)]
  simp only [Option.bind_some]
  by_cases h : hsB s d = true
  · rw [if_pos h, if_pos h, ldText_eq s d h K hK]; rfl
  · rw [if_neg h, if_neg h]
theorem houseText_impl (s d : List Int) (hm : d.length ≤ 4000000000) (K : Nat) (hK : 100 ≤ K) : impl_HouseText.f K s d = some (hOut s d) := by
  unfold impl_HouseText.f hOut
  rw [isHouse_eq s d hm]
  simp only [Option.bind_some]
  by_cases h : hsB s d = true
  · rw [if_pos h, if_pos h]
    obtain ⟨h1, h2, h3, h4, h5⟩ := hsB_facts h
    have e0 : rd d 0 = d[0] := rd_nat d 0 (by omega)
    have b := h5 d[0] (List.getElem_mem (by omega))
    have z := nm_le' d[0] (by omega) (by omega)
    rw [nm_size] at z
    rw [if_pos (by omega), e0, itoa_eq d[0] (by omega) (by omega)]
    simp only [Option.bind_some]
    have := implText_l0 s d h3 h2 h4 h5 s.length 0 K (itoa d[0]) (by omega) (by omega) (by omega)
    unfold hTxt
    rw [e0]
    exact this
  · rw [if_neg h, if_neg h]
end Htx
theorem FnExactHouseText (l0_0 : List Int) (l0_1 : List Int) (m0_0 : l0_0.length ≤ maxLen) (w0_0 : ∀ x ∈ l0_0, (Lit.int .i64 x).wf = true) (m0_1 : l0_1.length ≤ maxLen) (w0_1 : ∀ x ∈ l0_1, (Lit.int .i64 x).wf = true) : ∃ k, laws_FnExactHouseText.f k l0_0 l0_1 = some true := by
  rcases sz_val l0_0 l0_1 m0_0 m0_1 with ⟨hs, hd, n, e, hn⟩ | ⟨n, e, hn⟩
  · have main : ∀ m : Nat, 2000001 ≤ m → laws_FnExactHouseText.f (m + 1) l0_0 l0_1 = some true := by
      intro m hm
      simp only [laws_FnExactHouseText.f, laws_FnExactHouseText.j0, e, Option.bind_some, if_neg hn, toHouse_val l0_0 l0_1 hs hd (m + 1) (by omega), toHouse_val l0_0 l0_1 hs hd m (by omega), houseText_spec l0_0 l0_1 (by omega) (m + 1) (by omega), houseText_impl l0_0 l0_1 (by omega) (m + 1) (by omega), eqHouse_val l0_0 l0_1 hs hd m (by omega)]
      simp
    exact ⟨2000001 + 1, main 2000001 (Nat.le_refl _)⟩
  · exact ⟨0, by simp only [laws_FnExactHouseText.f, e, Option.bind_some, if_pos hn]⟩
end Go.Proofs.YtbmdgmmegchmnaaDoor.Pure
