/- Contracts of the Go functions that the laws reach, each for every input and every memory: written by a program of this session over the kit print, with contracts of its own for what that leaves out. No further condition. -/
import Derived.Test.YtbmdgmmegchmnaaDoorZB3
import Derived.Test.YtbmdgmmegchmnaaDoorZB6
namespace Go.Proofs.YtbmdgmmegchmnaaDoor.B
open Go.RowKit Go.Proofs.YtbmdgmmegchmnaaDoorW.PrintWords Go.Proofs.YtbmdgmmegchmnaaDoorW.PrintLast Go.Proofs.YtbmdgmmegchmnaaDoorW.PrintMore
attribute [local go_sem] max2_int min2_int max_two min_two max_three min_three max_four min_four
set_option linter.unusedVariables false
set_option linter.unusedSimpArgs false
def spec_AddFloor.j0 : Nat → Int → Int → Bool → List Int → List Int → Option (List Int × List Int × Bool)
 | 0, _, _, _, _, _ => none
 | k + 1, x1, x2, x26, x352000, x352001 => if x26 = true then (some (([] : List Int), ([] : List Int), false)) else ((spec_l1Own.f x352000).bind fun t356 => ((some (([x1] : List Int) : List Int)).bind fun y359 => (if t356.length + y359.length < 17592186044416 then ((spec_l1Own.f x352001).bind fun t365 => ((some (([x2] : List Int) : List Int)).bind fun y368 => (if t365.length + y368.length < 17592186044416 then (some ((t356 ++ y359), (t365 ++ y368), true)) else (none)))) else (none))))
def spec_AddFloor.f (k : Nat) (l0_0 : List Int) (l0_1 : List Int) (a1 : Int) (a2 : Int) : Option (List Int × List Int × Bool) := (spec_ldGood.f k l0_0 l0_1).bind fun t353 => (if t353 = true then (if (l0_1.length : Int) = 12 then (spec_AddFloor.j0 k a1 a2 true l0_0 l0_1) else ((spec_l1In.f a1 1 40).bind fun t354 => (if t354 = true then ((spec_l1In.f a2 0 20).bind fun t355 => (spec_AddFloor.j0 k a1 a2 (!t355) l0_0 l0_1)) else (spec_AddFloor.j0 k a1 a2 true l0_0 l0_1)))) else (spec_AddFloor.j0 k a1 a2 true l0_0 l0_1))
def spec_AddFloor.T3 : Bool × List (List Nat × List Nat) := (true, [([], []), ([0], [0]), ([1], [1]), ([], []), ([3], [3]), ([2, 4, 2], [2, 4]), ([], []), ([6], [6]), ([7, 5], [7]), ([], []), ([9], [9]), ([8, 10, 8], [8, 10]), ([5, 11], [5, 11]), ([12, 11, 0, 1, 2, 3, 4, 5, 6, 7, 8, 9, 10, 11, 12], [12]), ([13, 0, 1, 2, 3, 4, 5, 6, 7, 8, 9, 10, 11, 12, 13], [])])
def spec_AddFloor.B3 : List Nat := [0, 1, 3, 0, 8, 31, 0, 64, 255, 0, 512, 2047, 4095, 8191, 16383]
theorem spec_AddFloor.tab3 : rtab .any (opsOf Tryd.f79 3) = spec_AddFloor.T3 := by kernel_rfl
theorem spec_AddFloor.bits3 : waitsOk spec_AddFloor.T3.2 spec_AddFloor.B3 = true := by kernel_rfl
set_option maxHeartbeats 8000000 in
set_option maxRecDepth 100000 in
theorem spec_AddFloor.calls (k : Nat) (A0_0 : Option Addr) (c0_0 : Nat) (l0_0 : List Int) (A0_1 : Option Addr) (c0_1 : Nat) (l0_1 : List Int) (a1 : Int) (a2 : Int) (r1 : List Int) (r2 : List Int) (r3 : Bool) (w : World) (hr0_0 : Kd.C (Kd.int .i64) w A0_0 l0_0.length l0_0) (hc0_0 : l0_0.length ≤ c0_0) (hr0_1 : Kd.C (Kd.int .i64) w A0_1 l0_1.length l0_1) (hc0_1 : l0_1.length ≤ c0_1) (h : spec_AddFloor.f k l0_0 l0_1 a1 a2 = some (r1, r2, r3)) :
 Calls Tryd.prog 79 #[.agg #[.slice A0_0 l0_0.length c0_0, .slice A0_1 l0_1.length c0_1], .int .i64 a1, .int .i64 a2] w fun e w' => ∃ v0_ v1_ : Value, e = .returned (.tuple #[.agg #[v0_, v1_], .bool r3]) ∧ Kd.R (Kd.int .i64) 3 w' w.heap.size (fun k_ => some k_ ≠ (v1_ : Value).ownBlock) v0_ r1 ∧ Kd.R (Kd.int .i64) 3 w' w.heap.size (fun k_ => some k_ ≠ (v0_ : Value).ownBlock) v1_ r2 ∧ Below w.heap.size w w' := by
 have hu40 := Tryd.underlying40
 have HR0_0 := Aside0.mk hr0_0
 have HC0_0 := Aside0.mk hc0_0
 clear hr0_0 hc0_0
 have HR0_1 := Aside0.mk hr0_1
 have HC0_1 := Aside0.mk hc0_1
 clear hr0_1 hc0_1
 have HB := Aside0.mk (Below.refl w.heap.size w)
 have H : ((spec_ldGood.f k l0_0 l0_1).bind fun t353 => (if t353 = true then (if (l0_1.length : Int) = 12 then (spec_AddFloor.j0 k a1 a2 true l0_0 l0_1) else ((spec_l1In.f a1 1 40).bind fun t354 => (if t354 = true then ((spec_l1In.f a2 0 20).bind fun t355 => (spec_AddFloor.j0 k a1 a2 (!t355) l0_0 l0_1)) else (spec_AddFloor.j0 k a1 a2 true l0_0 l0_1)))) else (spec_AddFloor.j0 k a1 a2 true l0_0 l0_1))) = some (r1, r2, r3) := h
 clear h
 have HC4 := Aside0.mk H
 clear H
 go_enter Tryd.func79, Tryd.ntmps79
 go_upto_region 1 with (first | ((with_reducible refine gate_dst (N := 3) rfl ?_); (try (refine gate_guard (by rfl) ?_; dsimp only)); refine bx_ 3 #[.slice A0_0 l0_0.length c0_0, .slice A0_1 l0_1.length c0_1] 40 ?_; intro gb351 hg w5 hbox hb; have BK351 := Aside0.mk (hbox); have GW351 := gw_ HB hg; have GE351 := GW351; replace HB := bs_ HB hb; clear hb hbox hg) | ((with_reducible refine gate_dst (N := 6) rfl ?_); (try (refine gate_guard (by rfl) ?_; dsimp only)); refine bx_ 6 #[.slice none 0 0, .slice none 0 0] 40 ?_; intro gb352 hg w6 hbox hb; have BK352 := Aside0.mk (hbox); have GW352 := gw_ HB hg; have GE352 := GW352; have NB351_352 := nl_ BK351 hg; have NB352_351 := nr_ BK351 hg; replace BK351 := kb_ BK351 hb; replace HB := bs_ HB hb; clear hb hbox hg))
 (try simp only [Act.put, List.setIfInBounds_toArray, List.set_cons_zero, List.set_cons_succ])
 go_cut [26] (fun v26 wc => ∃ (kq : Nat) (x26_3 : Bool), v26 = .bool x26_3 ∧ Aside0 (spec_AddFloor.j0 kq a1 a2 x26_3 l0_0 l0_1 = some (r1, r2, r3)) ∧ Aside0 (kq ≤ k) ∧ Aside0 (wc.heap[gb351]? = some (.cells #[(.slice A0_0 l0_0.length c0_0), (.slice A0_1 l0_1.length c0_1)] 40 (0, 0))) ∧ Aside0 (wc.heap[gb352]? = some (.cells #[(.slice none 0 0), (.slice none 0 0)] 40 (0, 0))) ∧ Aside0 (Below w.heap.size w wc))
 case first =>
  have H := HC4.out
  clear HC4
  replace H := Option.bind_eq_some_iff.mp H
  obtain ⟨t353, A70, H⟩ := H
  try dsimp only at H
  have A7 := Aside0.mk A70
  clear A70
  by_cases c8 : t353 = true
  ·subst c8
   rw [if_pos rfl] at H
   by_cases c9 : (l0_1.length : Int) = 12
   ·rw [if_pos c9] at H
    have c9b0 : ((l0_1.length : Int) == 12) = true := beq_iff_eq.mpr c9
    have c9b1 : ((l0_1.length : Int) != 12) = false := bne_eq_false_iff_eq.mpr c9
    clear c9
    (first | rw [c9b0] | (simp only [i64_w, i32_w]; rw [c9b0]) | skip)
    have H' := Aside0.mk H
    clear H
    have hnb10 := NB351_352.out
    have hnc10 := NB352_351.out
    obtain ⟨hcz11_0, hcz11_1, hfz11_0, hfz11_1⟩ := cf2_ BK351
    go_wp2_with (first | ((with_reducible refine gate_callee (f := 112) rfl ?_); refine gL_ (some 9) Tryd.func112 #[.agg #[.slice A0_0 l0_0.length c0_0, .slice A0_1 l0_1.length c0_1]] ?_; (with_reducible refine (spec_ldGood.calls k _ _ l0_0 _ _ l0_1 true _ ?side1 ?side2 ?side3 ?side4 A7.out).mono ?_); (case side1 => exact cs_ (Kd.C_below HR0_0.out HB.out)); (case side2 => exact HC0_0.out); (case side3 => exact cs_ (Kd.C_below HR0_1.out HB.out)); (case side4 => exact HC0_1.out); rintro e w12 ⟨rfl, hb⟩; refine ⟨_, rfl, ?_⟩; replace BK351 := kb_ BK351 hb; replace BK352 := kb_ BK352 hb; replace HB := bs_ HB hb; (try clear hb); obtain ⟨hcz13_0, hcz13_1, hfz13_0, hfz13_1⟩ := cf2_ BK351))
    go_meet
    case rel => exact ⟨_, (true), (by first | rfl | (simp; done) | (simp [*]; done)), H', ⟨by first | omega | exact Nat.le_refl _⟩, ⟨up_ BK351.out⟩, ⟨up_ BK352.out⟩, ⟨dn_ HB.out⟩⟩
   ·rw [if_neg c9] at H
    have c9b0 : ((l0_1.length : Int) == 12) = false := beq_eq_false_iff_ne.mpr c9
    have c9b1 : ((l0_1.length : Int) != 12) = true := bne_iff_ne.mpr c9
    (first | rw [c9b0] | (simp only [i64_w, i32_w]; rw [c9b0]) | skip)
    replace H := Option.bind_eq_some_iff.mp H
    obtain ⟨t354, A140, H⟩ := H
    try dsimp only at H
    have A14 := Aside0.mk A140
    clear A140
    by_cases c15 : t354 = true
    ·subst c15
     rw [if_pos rfl] at H
     replace H := Option.bind_eq_some_iff.mp H
     obtain ⟨t355, A160, H⟩ := H
     try dsimp only at H
     have A16 := Aside0.mk A160
     clear A160
     have H' := Aside0.mk H
     clear H
     have hnb17 := NB351_352.out
     have hnc17 := NB352_351.out
     obtain ⟨hcz18_0, hcz18_1, hfz18_0, hfz18_1⟩ := cf2_ BK351
     go_wp2_with (first | ((with_reducible refine gate_callee (f := 112) rfl ?_); refine gL_ (some 9) Tryd.func112 #[.agg #[.slice A0_0 l0_0.length c0_0, .slice A0_1 l0_1.length c0_1]] ?_; (with_reducible refine (spec_ldGood.calls k _ _ l0_0 _ _ l0_1 true _ ?side1 ?side2 ?side3 ?side4 A7.out).mono ?_); (case side1 => exact cs_ (Kd.C_below HR0_0.out HB.out)); (case side2 => exact HC0_0.out); (case side3 => exact cs_ (Kd.C_below HR0_1.out HB.out)); (case side4 => exact HC0_1.out); rintro e w19 ⟨rfl, hb⟩; refine ⟨_, rfl, ?_⟩; replace BK351 := kb_ BK351 hb; replace BK352 := kb_ BK352 hb; replace HB := bs_ HB hb; (try clear hb); obtain ⟨hcz20_0, hcz20_1, hfz20_0, hfz20_1⟩ := cf2_ BK351) | (go_at_call 133; (with_reducible refine (spec_l1In.calls a1 1 40 true _ A14.out).mono ?_); rintro e w' ⟨rfl, ⟨nd, rfl⟩⟩) | (go_at_call 133; (with_reducible refine (spec_l1In.calls a2 0 20 t355 _ A16.out).mono ?_); rintro e w' ⟨rfl, ⟨nd, rfl⟩⟩))
     go_meet
     case rel => exact ⟨_, (!t355), (by first | rfl | (simp; done) | (simp [*]; done)), H', ⟨by first | omega | exact Nat.le_refl _⟩, ⟨up_ BK351.out⟩, ⟨up_ BK352.out⟩, ⟨dn_ HB.out⟩⟩
    ·replace c15 := Bool.eq_false_iff.mpr c15
     subst c15
     rw [if_neg (show ¬ (false = true) by decide)] at H
     have H' := Aside0.mk H
     clear H
     have hnb21 := NB351_352.out
     have hnc21 := NB352_351.out
     obtain ⟨hcz22_0, hcz22_1, hfz22_0, hfz22_1⟩ := cf2_ BK351
     go_wp2_with (first | ((with_reducible refine gate_callee (f := 112) rfl ?_); refine gL_ (some 9) Tryd.func112 #[.agg #[.slice A0_0 l0_0.length c0_0, .slice A0_1 l0_1.length c0_1]] ?_; (with_reducible refine (spec_ldGood.calls k _ _ l0_0 _ _ l0_1 true _ ?side1 ?side2 ?side3 ?side4 A7.out).mono ?_); (case side1 => exact cs_ (Kd.C_below HR0_0.out HB.out)); (case side2 => exact HC0_0.out); (case side3 => exact cs_ (Kd.C_below HR0_1.out HB.out)); (case side4 => exact HC0_1.out); rintro e w23 ⟨rfl, hb⟩; refine ⟨_, rfl, ?_⟩; replace BK351 := kb_ BK351 hb; replace BK352 := kb_ BK352 hb; replace HB := bs_ HB hb; (try clear hb); obtain ⟨hcz24_0, hcz24_1, hfz24_0, hfz24_1⟩ := cf2_ BK351) | (go_at_call 133; (with_reducible refine (spec_l1In.calls a1 1 40 false _ A14.out).mono ?_); rintro e w' ⟨rfl, ⟨nd, rfl⟩⟩))
     go_meet
     case rel => exact ⟨_, (true), (by first | rfl | (simp; done) | (simp [*]; done)), H', ⟨by first | omega | exact Nat.le_refl _⟩, ⟨up_ BK351.out⟩, ⟨up_ BK352.out⟩, ⟨dn_ HB.out⟩⟩
  ·replace c8 := Bool.eq_false_iff.mpr c8
   subst c8
   rw [if_neg (show ¬ (false = true) by decide)] at H
   have H' := Aside0.mk H
   clear H
   have hnb25 := NB351_352.out
   have hnc25 := NB352_351.out
   obtain ⟨hcz26_0, hcz26_1, hfz26_0, hfz26_1⟩ := cf2_ BK351
   go_wp2_with (first | ((with_reducible refine gate_callee (f := 112) rfl ?_); refine gL_ (some 9) Tryd.func112 #[.agg #[.slice A0_0 l0_0.length c0_0, .slice A0_1 l0_1.length c0_1]] ?_; (with_reducible refine (spec_ldGood.calls k _ _ l0_0 _ _ l0_1 false _ ?side1 ?side2 ?side3 ?side4 A7.out).mono ?_); (case side1 => exact cs_ (Kd.C_below HR0_0.out HB.out)); (case side2 => exact HC0_0.out); (case side3 => exact cs_ (Kd.C_below HR0_1.out HB.out)); (case side4 => exact HC0_1.out); rintro e w27 ⟨rfl, hb⟩; refine ⟨_, rfl, ?_⟩; replace BK351 := kb_ BK351 hb; replace BK352 := kb_ BK352 hb; replace HB := bs_ HB hb; (try clear hb)))
   go_meet
   case rel => exact ⟨_, (true), (by first | rfl | (simp; done) | (simp [*]; done)), H', ⟨by first | omega | exact Nat.le_refl _⟩, ⟨up_ BK351.out⟩, ⟨up_ BK352.out⟩, ⟨dn_ HB.out⟩⟩
 case rest =>
  clear HC4
  (try clear c1); (try clear c2); (try clear p2); (try clear c7); (try clear c8); (try clear c9); (try clear c9b0); (try clear c9b1); (try clear c10); (try clear c11); (try clear c15); (try clear c17); (try clear c21); (try clear c25); (try clear hcz11_0); (try clear hcz11_1); (try clear hcz13_0); (try clear hcz13_1); (try clear hcz18_0); (try clear hcz18_1); (try clear hcz20_0); (try clear hcz20_1); (try clear hcz22_0); (try clear hcz22_1); (try clear hcz24_0); (try clear hcz24_1); (try clear hcz26_0); (try clear hcz26_1); (try clear hfz11_0); (try clear hfz11_1); (try clear hfz13_0); (try clear hfz13_1); (try clear hfz18_0); (try clear hfz18_1); (try clear hfz20_0); (try clear hfz20_1); (try clear hfz22_0); (try clear hfz22_1); (try clear hfz24_0); (try clear hfz24_1); (try clear hfz26_0); try clear hfz26_1
  obtain ⟨kq, x26_3, rfl, HA, HJ3, BK351, BK352, HB⟩ := hcut
  cases kq with
  | zero => exact absurd HA.out (by simp [spec_AddFloor.j0])
  | succ kj3 =>
   have H := HA.out
   clear HA
   simp only [spec_AddFloor.j0] at H
   by_cases c28 : x26_3 = true
   ·subst c28
    rw [if_pos rfl] at H
    simp only [Option.some.injEq, Prod.mk.injEq] at H
    obtain ⟨rfl, rfl, rfl⟩ := H
    have hnb29 := NB352_351.out
    have hnc29 := NB351_352.out
    obtain ⟨hcz30_0, hcz30_1, hfz30_0, hfz30_1⟩ := cf2_ BK352
    go_wp2
    refine bodyPost_ret (results_ct rfl _ _ gb352 40 #[.slice none 0 0, .slice none 0 0] (0, 0) _ rfl (by refine lk_ ?_; refine blk_put (cs := #[.slice none 0 0, .slice none 0 0]) ?_ 1 _ rfl; refine lk_ ?_; refine blk_put (cs := #[.slice none 0 0, .slice none 0 0]) ?_ 0 _ rfl; (with_reducible repeat (first | refine blk_drewN ?_ _ | refine blk_drew ?_ | refine blk_alloc ?_ _)); exact BK352.out) Tryd.underlying40 rfl (by kernel_rfl)) rfl ?_
    exact ⟨_, _, by first | rfl | (simp [errW_none, errW_some] <;> rfl) | (simp [*, errW_none, errW_some] <;> rfl), by first | exact Kd.R_nil _ _ _ _ _ | exact Kd.N_nil _ _ _ _ _ | exact Kd.V_nil _ _ _ _ _ | exact Kd.Q_nil _ _ _ _ _ | exact Kd.S_nil _ _ _ _ _, by first | exact Kd.R_nil _ _ _ _ _ | exact Kd.N_nil _ _ _ _ _ | exact Kd.V_nil _ _ _ _ _ | exact Kd.Q_nil _ _ _ _ _ | exact Kd.S_nil _ _ _ _ _, dn_ HB.out⟩
   ·replace c28 := Bool.eq_false_iff.mpr c28
    subst c28
    rw [if_neg (show ¬ (false = true) by decide)] at H
    replace H := Option.bind_eq_some_iff.mp H
    obtain ⟨t356, A310, H⟩ := H
    try dsimp only at H
    have A31 := Aside0.mk A310
    clear A310
    obtain ⟨y359, hy359⟩ : ∃ y_ : List Int, y_ = (([a1] : List Int)) := ⟨_, rfl⟩
    replace H : (if t356.length + y359.length < 17592186044416 then ((spec_l1Own.f l0_1).bind fun t365 => ((some (([a2] : List Int) : List Int)).bind fun y368 => (if t365.length + y368.length < 17592186044416 then (some ((t356 ++ y359), (t365 ++ y368), true)) else (none)))) else (none)) = some (r1, r2, r3) := by first | (rw [hy359]; with_reducible exact H) | (have H2_ := (Option.bind_some _ _).symm.trans H; rw [hy359]; with_reducible exact H2_) | (have H2_ := (Option.bind_some _ _).symm.trans H; with_reducible exact H2_) | with_reducible exact H | (rw [hy359]; exact H) | exact H
    have Ny359 := Aside0.mk hy359
    clear hy359
    by_cases c32 : t356.length + y359.length < 17592186044416
    ·rw [if_pos c32] at H
     have LMc32 := Aside0.mk c32
     clear c32
     obtain ⟨y362, hy362⟩ : ∃ y_ : List Int, y_ = (t356 ++ y359) := ⟨_, rfl⟩
     replace H : ((spec_l1Own.f l0_1).bind fun t365 => ((some (([a2] : List Int) : List Int)).bind fun y368 => (if t365.length + y368.length < 17592186044416 then (some (y362, (t365 ++ y368), true)) else (none)))) = some (r1, r2, r3) := by first | (rw [hy362]; with_reducible exact H) | (have H2_ := (Option.bind_some _ _).symm.trans H; rw [hy362]; with_reducible exact H2_) | (have H2_ := (Option.bind_some _ _).symm.trans H; with_reducible exact H2_) | with_reducible exact H | (rw [hy362]; exact H) | exact H
     have Ny362 := Aside0.mk hy362
     clear hy362
     replace H := Option.bind_eq_some_iff.mp H
     obtain ⟨t365, A330, H⟩ := H
     try dsimp only at H
     have A33 := Aside0.mk A330
     clear A330
     obtain ⟨y368, hy368⟩ : ∃ y_ : List Int, y_ = (([a2] : List Int)) := ⟨_, rfl⟩
     replace H : (if t365.length + y368.length < 17592186044416 then (some (y362, (t365 ++ y368), true)) else (none)) = some (r1, r2, r3) := by first | (rw [hy368]; with_reducible exact H) | (have H2_ := (Option.bind_some _ _).symm.trans H; rw [hy368]; with_reducible exact H2_) | (have H2_ := (Option.bind_some _ _).symm.trans H; with_reducible exact H2_) | with_reducible exact H | (rw [hy368]; exact H) | exact H
     have Ny368 := Aside0.mk hy368
     clear hy368
     by_cases c34 : t365.length + y368.length < 17592186044416
     ·rw [if_pos c34] at H
      have LMc34 := Aside0.mk c34
      clear c34
      obtain ⟨y371, hy371⟩ : ∃ y_ : List Int, y_ = (t365 ++ y368) := ⟨_, rfl⟩
      replace H : (some (y362, y371, true)) = some (r1, r2, r3) := by first | (rw [hy371]; with_reducible exact H) | (have H2_ := (Option.bind_some _ _).symm.trans H; rw [hy371]; with_reducible exact H2_) | (have H2_ := (Option.bind_some _ _).symm.trans H; with_reducible exact H2_) | with_reducible exact H | (rw [hy371]; exact H) | exact H
      have Ny371 := Aside0.mk hy371
      clear hy371
      simp only [Option.some.injEq, Prod.mk.injEq] at H
      obtain ⟨rfl, rfl, rfl⟩ := H
      try go_wp2
      replace BK351 := Aside0.mk (blk_drew BK351.out)
      replace BK352 := Aside0.mk (blk_drew BK352.out)
      replace HB := Aside0.mk (below_drew1 HB.out)
      refine start_ (n := 15) (S := fun w' => w'.cell? ⟨gb351, 0, none⟩ = some (.slice A0_0 l0_0.length c0_0) ∧ w'.cell? ⟨gb351, 1, none⟩ = some (.slice A0_1 l0_1.length c0_1)) (ds := []) (bs 15 0) (by kernel_rfl) rfl (by kernel_rfl) ⟨(blk_cell BK351.out 0).trans rfl, (blk_cell BK351.out 1).trans rfl⟩ (fun hHeld => ?_); refine with_tabW spec_AddFloor.tab3 spec_AddFloor.bits3 (fun HT_ HW_ => ?_)
      generalize wc.drew = w35 at BK351 BK352 HB hHeld ⊢
      refine pA_ 0 28 15 1 ?_
      refine pA_ 3 31 15 9 ?_
      refine pA_ 6 34 15 73 ?_
      refine pA_ 9 37 15 585 ?_
      refine tA2_ 1 29 15 587 ?_
      refine tA2_ 7 35 15 715 ?_
      refine join_ (σ := Value × Value × Value × Value × Value) 4 (bs 15 2047) (fun s_ => [(30, s_.1), (32, s_.2.1), (33, s_.2.2.1), (36, s_.2.2.2.1), (38, s_.2.2.2.2)]) (fun s_ w' => (w'.cell? ⟨gb351, 0, none⟩ = some (.slice A0_0 l0_0.length c0_0) ∧ w'.cell? ⟨gb351, 1, none⟩ = some (.slice A0_1 l0_1.length c0_1)) ∧ (Kd.R (Kd.int .i64) 3 w' w.heap.size (fun k_ => some k_ ≠ (s_.2.2.1 : Value).ownBlock ∧ some k_ ≠ (s_.2.2.2.1 : Value).ownBlock ∧ some k_ ≠ (s_.2.2.2.2 : Value).ownBlock) s_.2.1 y359) ∧ (Kd.R (Kd.int .i64) 3 w' w.heap.size (fun k_ => some k_ ≠ (s_.2.1 : Value).ownBlock ∧ some k_ ≠ (s_.2.2.2.1 : Value).ownBlock ∧ some k_ ≠ (s_.2.2.2.2 : Value).ownBlock) s_.2.2.1 y362) ∧ (Kd.R (Kd.int .i64) 3 w' w.heap.size (fun k_ => some k_ ≠ (s_.2.1 : Value).ownBlock ∧ some k_ ≠ (s_.2.2.1 : Value).ownBlock ∧ some k_ ≠ (s_.2.2.2.2 : Value).ownBlock) s_.2.2.2.1 t365) ∧ (Kd.R (Kd.int .i64) 3 w' w.heap.size (fun k_ => some k_ ≠ (s_.2.1 : Value).ownBlock ∧ some k_ ≠ (s_.2.2.1 : Value).ownBlock ∧ some k_ ≠ (s_.2.2.2.1 : Value).ownBlock) s_.2.2.2.2 y368) ∧ (w'.heap[gb351]? = some (.cells #[.slice A0_0 l0_0.length c0_0, .slice A0_1 l0_1.length c0_1] 40 (0, 0))) ∧ (w'.heap[gb352]? = some (.cells #[.slice none 0 0, .slice none 0 0] 40 (0, 0))) ∧ (Below w.heap.size w w')) ?_ ?_
      rotate_left
      ·intro hJ2_4_5_8_10
       refine join_ (σ := Value × Value × Value × Value) 5 (bs 15 1023) (fun s_ => [(30, s_.1), (32, s_.2.1), (33, s_.2.2.1), (36, s_.2.2.2)]) (fun s_ w' => (w'.cell? ⟨gb351, 0, none⟩ = some (.slice A0_0 l0_0.length c0_0) ∧ w'.cell? ⟨gb351, 1, none⟩ = some (.slice A0_1 l0_1.length c0_1)) ∧ (Kd.R (Kd.int .i64) 3 w' w.heap.size (fun k_ => some k_ ≠ (s_.2.2.1 : Value).ownBlock ∧ some k_ ≠ (s_.2.2.2 : Value).ownBlock) s_.2.1 y359) ∧ (Kd.R (Kd.int .i64) 3 w' w.heap.size (fun k_ => some k_ ≠ (s_.2.1 : Value).ownBlock ∧ some k_ ≠ (s_.2.2.2 : Value).ownBlock) s_.2.2.1 y362) ∧ (Kd.R (Kd.int .i64) 3 w' w.heap.size (fun k_ => some k_ ≠ (s_.2.1 : Value).ownBlock ∧ some k_ ≠ (s_.2.2.1 : Value).ownBlock) s_.2.2.2 t365) ∧ (w'.heap[gb351]? = some (.cells #[.slice A0_0 l0_0.length c0_0, .slice A0_1 l0_1.length c0_1] 40 (0, 0))) ∧ (w'.heap[gb352]? = some (.cells #[.slice none 0 0, .slice none 0 0] 40 (0, 0))) ∧ (Below w.heap.size w w')) ?_ ?_
       rotate_left
       ·intro hJ2_4_5_8
        refine join_ (σ := Value × Value × Value × Value) 5 (bs 15 1791) (fun s_ => [(30, s_.1), (32, s_.2.1), (33, s_.2.2.1), (38, s_.2.2.2)]) (fun s_ w' => (w'.cell? ⟨gb351, 0, none⟩ = some (.slice A0_0 l0_0.length c0_0) ∧ w'.cell? ⟨gb351, 1, none⟩ = some (.slice A0_1 l0_1.length c0_1)) ∧ (Kd.R (Kd.int .i64) 3 w' w.heap.size (fun k_ => some k_ ≠ (s_.2.2.1 : Value).ownBlock ∧ some k_ ≠ (s_.2.2.2 : Value).ownBlock) s_.2.1 y359) ∧ (Kd.R (Kd.int .i64) 3 w' w.heap.size (fun k_ => some k_ ≠ (s_.2.1 : Value).ownBlock ∧ some k_ ≠ (s_.2.2.2 : Value).ownBlock) s_.2.2.1 y362) ∧ (Kd.R (Kd.int .i64) 3 w' w.heap.size (fun k_ => some k_ ≠ (s_.2.1 : Value).ownBlock ∧ some k_ ≠ (s_.2.2.1 : Value).ownBlock) s_.2.2.2 y368) ∧ (w'.heap[gb351]? = some (.cells #[.slice A0_0 l0_0.length c0_0, .slice A0_1 l0_1.length c0_1] 40 (0, 0))) ∧ (w'.heap[gb352]? = some (.cells #[.slice none 0 0, .slice none 0 0] 40 (0, 0))) ∧ (Below w.heap.size w w')) ?_ ?_
        rotate_left
        ·intro hJ2_4_5_10
         refine join_ (σ := Value × Value × Value) 6 (bs 15 767) (fun s_ => [(30, s_.1), (32, s_.2.1), (33, s_.2.2)]) (fun s_ w' => (w'.cell? ⟨gb351, 0, none⟩ = some (.slice A0_0 l0_0.length c0_0) ∧ w'.cell? ⟨gb351, 1, none⟩ = some (.slice A0_1 l0_1.length c0_1)) ∧ (Kd.R (Kd.int .i64) 3 w' w.heap.size (fun k_ => some k_ ≠ (s_.2.2 : Value).ownBlock) s_.2.1 y359) ∧ (Kd.R (Kd.int .i64) 3 w' w.heap.size (fun k_ => some k_ ≠ (s_.2.1 : Value).ownBlock) s_.2.2 y362) ∧ (w'.heap[gb351]? = some (.cells #[.slice A0_0 l0_0.length c0_0, .slice A0_1 l0_1.length c0_1] 40 (0, 0))) ∧ (w'.heap[gb352]? = some (.cells #[.slice none 0 0, .slice none 0 0] 40 (0, 0))) ∧ (Below w.heap.size w w')) ?_ ?_
         rotate_left
         ·intro hJ2_4_5
          refine join_ (σ := Value × Value × Value) 6 (bs 15 1759) (fun s_ => [(30, s_.1), (32, s_.2.1), (38, s_.2.2)]) (fun s_ w' => (w'.cell? ⟨gb351, 0, none⟩ = some (.slice A0_0 l0_0.length c0_0) ∧ w'.cell? ⟨gb351, 1, none⟩ = some (.slice A0_1 l0_1.length c0_1)) ∧ (Kd.R (Kd.int .i64) 3 w' w.heap.size (fun k_ => some k_ ≠ (s_.2.1 : Value).ownBlock ∧ some k_ ≠ (s_.2.2 : Value).ownBlock) s_.1 t356) ∧ (Kd.R (Kd.int .i64) 3 w' w.heap.size (fun k_ => some k_ ≠ (s_.1 : Value).ownBlock ∧ some k_ ≠ (s_.2.2 : Value).ownBlock) s_.2.1 y359) ∧ (Kd.R (Kd.int .i64) 3 w' w.heap.size (fun k_ => some k_ ≠ (s_.1 : Value).ownBlock ∧ some k_ ≠ (s_.2.1 : Value).ownBlock) s_.2.2 y368) ∧ (w'.heap[gb351]? = some (.cells #[.slice A0_0 l0_0.length c0_0, .slice A0_1 l0_1.length c0_1] 40 (0, 0))) ∧ (w'.heap[gb352]? = some (.cells #[.slice none 0 0, .slice none 0 0] 40 (0, 0))) ∧ (Below w.heap.size w w')) ?_ ?_
          rotate_left
          ·intro hJ2_4_10
           refine join_ (σ := Value × Value) 7 (bs 15 735) (fun s_ => [(30, s_.1), (32, s_.2)]) (fun s_ w' => (w'.cell? ⟨gb351, 0, none⟩ = some (.slice A0_0 l0_0.length c0_0) ∧ w'.cell? ⟨gb351, 1, none⟩ = some (.slice A0_1 l0_1.length c0_1)) ∧ (Kd.R (Kd.int .i64) 3 w' w.heap.size (fun k_ => some k_ ≠ (s_.2 : Value).ownBlock) s_.1 t356) ∧ (Kd.R (Kd.int .i64) 3 w' w.heap.size (fun k_ => some k_ ≠ (s_.1 : Value).ownBlock) s_.2 y359) ∧ (w'.heap[gb351]? = some (.cells #[.slice A0_0 l0_0.length c0_0, .slice A0_1 l0_1.length c0_1] 40 (0, 0))) ∧ (w'.heap[gb352]? = some (.cells #[.slice none 0 0, .slice none 0 0] 40 (0, 0))) ∧ (Below w.heap.size w w')) ?_ ?_
           rotate_left
           ·intro hJ2_4
            refine join_ (σ := Value × Value) 7 (bs 15 1743) (fun s_ => [(30, s_.1), (38, s_.2)]) (fun s_ w' => (w'.cell? ⟨gb351, 0, none⟩ = some (.slice A0_0 l0_0.length c0_0) ∧ w'.cell? ⟨gb351, 1, none⟩ = some (.slice A0_1 l0_1.length c0_1)) ∧ (Kd.R (Kd.int .i64) 3 w' w.heap.size (fun k_ => some k_ ≠ (s_.2 : Value).ownBlock) s_.1 t356) ∧ (Kd.R (Kd.int .i64) 3 w' w.heap.size (fun k_ => some k_ ≠ (s_.1 : Value).ownBlock) s_.2 y368) ∧ (w'.heap[gb351]? = some (.cells #[.slice A0_0 l0_0.length c0_0, .slice A0_1 l0_1.length c0_1] 40 (0, 0))) ∧ (w'.heap[gb352]? = some (.cells #[.slice none 0 0, .slice none 0 0] 40 (0, 0))) ∧ (Below w.heap.size w w')) ?_ ?_
            rotate_left
            ·intro hJ2_10
             refine join_ (σ := Value × Value) 7 (bs 15 1755) (fun s_ => [(32, s_.1), (38, s_.2)]) (fun s_ w' => (w'.cell? ⟨gb351, 0, none⟩ = some (.slice A0_0 l0_0.length c0_0) ∧ w'.cell? ⟨gb351, 1, none⟩ = some (.slice A0_1 l0_1.length c0_1)) ∧ (Kd.R (Kd.int .i64) 3 w' w.heap.size (fun k_ => some k_ ≠ (s_.2 : Value).ownBlock) s_.1 y359) ∧ (Kd.R (Kd.int .i64) 3 w' w.heap.size (fun k_ => some k_ ≠ (s_.1 : Value).ownBlock) s_.2 y368) ∧ (w'.heap[gb351]? = some (.cells #[.slice A0_0 l0_0.length c0_0, .slice A0_1 l0_1.length c0_1] 40 (0, 0))) ∧ (w'.heap[gb352]? = some (.cells #[.slice none 0 0, .slice none 0 0] 40 (0, 0))) ∧ (Below w.heap.size w w')) ?_ ?_
             rotate_left
             ·intro hJ4_10
              refine join_ (σ := Value) 8 (bs 15 719) (fun s_ => [(30, s_)]) (fun s_ w' => (w'.cell? ⟨gb351, 0, none⟩ = some (.slice A0_0 l0_0.length c0_0) ∧ w'.cell? ⟨gb351, 1, none⟩ = some (.slice A0_1 l0_1.length c0_1)) ∧ (Kd.R (Kd.int .i64) 3 w' w.heap.size (fun _ => True) s_ t356) ∧ (w'.heap[gb351]? = some (.cells #[.slice A0_0 l0_0.length c0_0, .slice A0_1 l0_1.length c0_1] 40 (0, 0))) ∧ (w'.heap[gb352]? = some (.cells #[.slice none 0 0, .slice none 0 0] 40 (0, 0))) ∧ (Below w.heap.size w w')) ?_ ?_
              rotate_left
              ·intro hJ2
               refine join_ (σ := Value) 8 (bs 15 731) (fun s_ => [(32, s_)]) (fun s_ w' => (w'.cell? ⟨gb351, 0, none⟩ = some (.slice A0_0 l0_0.length c0_0) ∧ w'.cell? ⟨gb351, 1, none⟩ = some (.slice A0_1 l0_1.length c0_1)) ∧ (Kd.R (Kd.int .i64) 3 w' w.heap.size (fun _ => True) s_ y359) ∧ (w'.heap[gb351]? = some (.cells #[.slice A0_0 l0_0.length c0_0, .slice A0_1 l0_1.length c0_1] 40 (0, 0))) ∧ (w'.heap[gb352]? = some (.cells #[.slice none 0 0, .slice none 0 0] 40 (0, 0))) ∧ (Below w.heap.size w w')) ?_ ?_
               rotate_left
               ·intro hJ4
                refine join_ (σ := Value) 8 (bs 15 1739) (fun s_ => [(38, s_)]) (fun s_ w' => (w'.cell? ⟨gb351, 0, none⟩ = some (.slice A0_0 l0_0.length c0_0) ∧ w'.cell? ⟨gb351, 1, none⟩ = some (.slice A0_1 l0_1.length c0_1)) ∧ (Kd.R (Kd.int .i64) 3 w' w.heap.size (fun _ => True) s_ y368) ∧ (w'.heap[gb351]? = some (.cells #[.slice A0_0 l0_0.length c0_0, .slice A0_1 l0_1.length c0_1] 40 (0, 0))) ∧ (w'.heap[gb352]? = some (.cells #[.slice none 0 0, .slice none 0 0] 40 (0, 0))) ∧ (Below w.heap.size w w')) ?_ ?_
                rotate_left
                ·intro hJ10
                 refine three_ (i := 2) (j := 4) (k := 10) (Ni := some 30) (Nj := some 32) (Nk := some 38) (bs 15 719) (bs 15 731) (bs 15 1739) rfl rfl rfl rfl rfl rfl (three_of HT_.out (by kernel_rfl)) (by decide) (by decide) (by decide) (fun K hK => ?_) (fun K hK => ?_) (fun K hK => ?_)
                 ·skip
                  refine gE_ Tryd.func142 #[.slice A0_0 l0_0.length c0_0] ?_
                  with_reducible refine (spec_l1Own.calls _ _ l0_0 t356 _ ?side1 ?side2 A31.out).mono ?_
                  (case side1 => exact cs_ (Kd.C_below HR0_0.out HB.out))
                  (case side2 => exact HC0_0.out)
                  rintro e w36 ⟨v357, rfl, ho0, hb⟩
                  refine ⟨_, rfl, ?_⟩
                  have HO358 := Aside0.mk (Kd.R_lower ho0 (below_size (dn_ HB.out)))
                  replace BK351 := kb_ BK351 hb
                  replace BK352 := kb_ BK352 hb
                  replace HB := bs_ HB hb
                  (try clear hb)
                  (try clear hb2)
                  (try clear hk)
                  (try clear hi)
                  (try clear ho0)
                  refine hK.out _ _ ⟨(blk_cell BK351.out 0).trans rfl, (blk_cell BK351.out 1).trans rfl⟩ (fun hHeld => ?_)
                  clear hK K
                  refine nA_ ?_
                  exact nm_ (hJ2 (v357) _ ⟨hHeld, (up_ HO358.out), (up_ BK351.out), (up_ BK352.out), (dn_ HB.out)⟩)
                 ·skip
                  refine Kd.R_lit_step (Kd.int .i64) _ 3 ?hg (N := 32) ?hd (xs := ([a1] : List Int)) (inner := [.int .i64 a1]) (ok := fun _ => True) (okp := fun _ => True) ?hr ?hp (fun _ hk => hk) trivial (Below.refl _ _) (Nat.le_refl _) (by simp) ?_; (case hd => rfl); (case hg => rfl); (case hr => first | (go_simp; done) | (go_simp; rfl)); (case hp => exact (Reps.one (show Kd.M (Kd.int .i64) _ _ _ a1 [.int .i64 a1] from rfl) (Reps.none _ _)))
                  intro v360 w36 ho37 hb hg_ hnew_
                  clear hg_ hnew_
                  (first | rw [← Ny359.out] at ho37 | (simp only [Int.reduceToNat] at ho37; rw [← Ny359.out] at ho37))
                  have HO361 := Aside0.mk (Kd.R_lower ho37 (below_size (dn_ HB.out)))
                  replace BK351 := kb_ BK351 hb
                  replace BK352 := kb_ BK352 hb
                  replace HB := bs_ HB hb
                  clear hb ho37
                  refine hK.out _ _ ⟨(blk_cell BK351.out 0).trans rfl, (blk_cell BK351.out 1).trans rfl⟩ (fun hHeld => ?_)
                  clear hK K
                  refine nA_ ?_
                  exact nm_ (hJ4 (v360) _ ⟨hHeld, (up_ HO361.out), (up_ BK351.out), (up_ BK352.out), (dn_ HB.out)⟩)
                 ·skip
                  refine Kd.R_lit_step (Kd.int .i64) _ 3 ?hg (N := 38) ?hd (xs := ([a2] : List Int)) (inner := [.int .i64 a2]) (ok := fun _ => True) (okp := fun _ => True) ?hr ?hp (fun _ hk => hk) trivial (Below.refl _ _) (Nat.le_refl _) (by simp) ?_; (case hd => rfl); (case hg => rfl); (case hr => first | (go_simp; done) | (go_simp; rfl)); (case hp => exact (Reps.one (show Kd.M (Kd.int .i64) _ _ _ a2 [.int .i64 a2] from rfl) (Reps.none _ _)))
                  intro v369 w36 ho37 hb hg_ hnew_
                  clear hg_ hnew_
                  (first | rw [← Ny368.out] at ho37 | (simp only [Int.reduceToNat] at ho37; rw [← Ny368.out] at ho37))
                  have HO370 := Aside0.mk (Kd.R_lower ho37 (below_size (dn_ HB.out)))
                  replace BK351 := kb_ BK351 hb
                  replace BK352 := kb_ BK352 hb
                  replace HB := bs_ HB hb
                  clear hb ho37
                  refine hK.out _ _ ⟨(blk_cell BK351.out 0).trans rfl, (blk_cell BK351.out 1).trans rfl⟩ (fun hHeld => ?_)
                  clear hK K
                  refine nA_ ?_
                  exact nm_ (hJ10 (v369) _ ⟨hHeld, (up_ HO370.out), (up_ BK351.out), (up_ BK352.out), (dn_ HB.out)⟩)
                ·skip
                 rintro v369 w38 ⟨hS_, h0_, h1_, h2_, h3_⟩
                 have n0_ : Aside0 (Kd.R (Kd.int .i64) 3 w38 w.heap.size (fun _ => True) v369 y368) := ⟨h0_⟩
                 have n1_ : Aside0 (w38.heap[gb351]? = some (.cells #[.slice A0_0 l0_0.length c0_0, .slice A0_1 l0_1.length c0_1] 40 (0, 0))) := ⟨h1_⟩
                 have n2_ : Aside0 (w38.heap[gb352]? = some (.cells #[.slice none 0 0, .slice none 0 0] 40 (0, 0))) := ⟨h2_⟩
                 have n3_ : Aside0 (Below w.heap.size w w38) := ⟨h3_⟩
                 clear BK351
                 clear BK352
                 clear HB
                 clear h0_ h1_ h2_ h3_
                 have HO370 := n0_
                 have BK351 := n1_
                 have BK352 := n2_
                 have HB := n3_
                 clear n0_ n1_ n2_ n3_
                 have hHeld : w38.cell? ⟨gb351, 0, none⟩ = some (.slice A0_0 l0_0.length c0_0) ∧ w38.cell? ⟨gb351, 1, none⟩ = some (.slice A0_1 l0_1.length c0_1) := hS_
                 refine norm_ (a' := ?_) ?_ ?_
                 rotate_left
                 ·simp only [putAll, Act.put, List.setIfInBounds_toArray, List.set_cons_zero, List.set_cons_succ]
                  rfl
                 refine two_ (i := 2) (j := 4) (Ni := some 30) (Nj := some 32) (bs 15 1743) (bs 15 1755) rfl rfl rfl rfl (two_of HT_.out (by kernel_rfl)) (by decide) (by decide) (fun K hK => ?_) (fun K hK => ?_)
                 ·skip
                  refine gE_ Tryd.func142 #[.slice A0_0 l0_0.length c0_0] ?_
                  with_reducible refine (spec_l1Own.calls _ _ l0_0 t356 _ ?side1 ?side2 A31.out).mono ?_
                  (case side1 => exact cs_ (Kd.C_below HR0_0.out HB.out))
                  (case side2 => exact HC0_0.out)
                  rintro e w39 ⟨v357, rfl, ho0, hb⟩
                  refine ⟨_, rfl, ?_⟩
                  have HO358 := Aside0.mk (Kd.R_lower (Kd.R_new' ho0 (Kd.R_lt (up_ HO370.out))) (below_size (dn_ HB.out)))
                  replace HO370 := re_ HO370 (Kd.R_base ho0) hb
                  replace BK351 := kb_ BK351 hb
                  replace BK352 := kb_ BK352 hb
                  replace HB := bs_ HB hb
                  (try clear hb)
                  (try clear hb2)
                  (try clear hk)
                  (try clear hi)
                  (try clear ho0)
                  refine hK.out _ _ ⟨(blk_cell BK351.out 0).trans rfl, (blk_cell BK351.out 1).trans rfl⟩ (fun hHeld => ?_)
                  clear hK K
                  refine nA_ ?_
                  exact nm_ (hJ2_10 (v357, v369) _ ⟨hHeld, (by refine lr_ ?_; exact Kd.R_mono HO358.out (fun _ hk => hk.2)), (by refine lr_ ?_; exact Kd.R_mono HO370.out (fun _ hk => hk.2)), (up_ BK351.out), (up_ BK352.out), (dn_ HB.out)⟩)
                 ·skip
                  refine Kd.R_lit_step (Kd.int .i64) _ 3 ?hg (N := 32) ?hd (xs := ([a1] : List Int)) (inner := [.int .i64 a1]) (ok := fun _ => True) (okp := fun _ => True) ?hr ?hp (fun _ hk => hk) trivial (Below.refl _ _) (Nat.le_refl _) (by simp) ?_; (case hd => rfl); (case hg => rfl); (case hr => first | (go_simp; done) | (go_simp; rfl)); (case hp => exact (Reps.one (show Kd.M (Kd.int .i64) _ _ _ a1 [.int .i64 a1] from rfl) (Reps.none _ _)))
                  intro v360 w39 ho40 hb hg_ hnew_
                  clear hg_ hnew_
                  (first | rw [← Ny359.out] at ho40 | (simp only [Int.reduceToNat] at ho40; rw [← Ny359.out] at ho40))
                  have HO361 := Aside0.mk (Kd.R_lower (Kd.R_new' ho40 (Kd.R_lt (up_ HO370.out))) (below_size (dn_ HB.out)))
                  replace HO370 := re_ HO370 (Kd.R_base ho40) hb
                  replace BK351 := kb_ BK351 hb
                  replace BK352 := kb_ BK352 hb
                  replace HB := bs_ HB hb
                  clear hb ho40
                  refine hK.out _ _ ⟨(blk_cell BK351.out 0).trans rfl, (blk_cell BK351.out 1).trans rfl⟩ (fun hHeld => ?_)
                  clear hK K
                  refine nA_ ?_
                  exact nm_ (hJ4_10 (v360, v369) _ ⟨hHeld, (by refine lr_ ?_; exact Kd.R_mono HO361.out (fun _ hk => hk.2)), (by refine lr_ ?_; exact Kd.R_mono HO370.out (fun _ hk => hk.2)), (up_ BK351.out), (up_ BK352.out), (dn_ HB.out)⟩)
               ·skip
                rintro v360 w38 ⟨hS_, h0_, h1_, h2_, h3_⟩
                have n0_ : Aside0 (Kd.R (Kd.int .i64) 3 w38 w.heap.size (fun _ => True) v360 y359) := ⟨h0_⟩
                have n1_ : Aside0 (w38.heap[gb351]? = some (.cells #[.slice A0_0 l0_0.length c0_0, .slice A0_1 l0_1.length c0_1] 40 (0, 0))) := ⟨h1_⟩
                have n2_ : Aside0 (w38.heap[gb352]? = some (.cells #[.slice none 0 0, .slice none 0 0] 40 (0, 0))) := ⟨h2_⟩
                have n3_ : Aside0 (Below w.heap.size w w38) := ⟨h3_⟩
                clear BK351
                clear BK352
                clear HB
                clear h0_ h1_ h2_ h3_
                have HO361 := n0_
                have BK351 := n1_
                have BK352 := n2_
                have HB := n3_
                clear n0_ n1_ n2_ n3_
                have hHeld : w38.cell? ⟨gb351, 0, none⟩ = some (.slice A0_0 l0_0.length c0_0) ∧ w38.cell? ⟨gb351, 1, none⟩ = some (.slice A0_1 l0_1.length c0_1) := hS_
                refine norm_ (a' := ?_) ?_ ?_
                rotate_left
                ·simp only [putAll, Act.put, List.setIfInBounds_toArray, List.set_cons_zero, List.set_cons_succ]
                 rfl
                refine two_ (i := 2) (j := 10) (Ni := some 30) (Nj := some 38) (bs 15 735) (bs 15 1755) rfl rfl rfl rfl (two_of HT_.out (by kernel_rfl)) (by decide) (by decide) (fun K hK => ?_) (fun K hK => ?_)
                ·skip
                 refine gE_ Tryd.func142 #[.slice A0_0 l0_0.length c0_0] ?_
                 with_reducible refine (spec_l1Own.calls _ _ l0_0 t356 _ ?side1 ?side2 A31.out).mono ?_
                 (case side1 => exact cs_ (Kd.C_below HR0_0.out HB.out))
                 (case side2 => exact HC0_0.out)
                 rintro e w39 ⟨v357, rfl, ho0, hb⟩
                 refine ⟨_, rfl, ?_⟩
                 have HO358 := Aside0.mk (Kd.R_lower (Kd.R_new' ho0 (Kd.R_lt (up_ HO361.out))) (below_size (dn_ HB.out)))
                 replace HO361 := re_ HO361 (Kd.R_base ho0) hb
                 replace BK351 := kb_ BK351 hb
                 replace BK352 := kb_ BK352 hb
                 replace HB := bs_ HB hb
                 (try clear hb)
                 (try clear hb2)
                 (try clear hk)
                 (try clear hi)
                 (try clear ho0)
                 refine hK.out _ _ ⟨(blk_cell BK351.out 0).trans rfl, (blk_cell BK351.out 1).trans rfl⟩ (fun hHeld => ?_)
                 clear hK K
                 refine nA_ ?_
                 exact nm_ (hJ2_4 (v357, v360) _ ⟨hHeld, (by refine lr_ ?_; exact Kd.R_mono HO358.out (fun _ hk => hk.2)), (by refine lr_ ?_; exact Kd.R_mono HO361.out (fun _ hk => hk.2)), (up_ BK351.out), (up_ BK352.out), (dn_ HB.out)⟩)
                ·skip
                 refine Kd.R_lit_step (Kd.int .i64) _ 3 ?hg (N := 38) ?hd (xs := ([a2] : List Int)) (inner := [.int .i64 a2]) (ok := fun _ => True) (okp := fun _ => True) ?hr ?hp (fun _ hk => hk) trivial (Below.refl _ _) (Nat.le_refl _) (by simp) ?_; (case hd => rfl); (case hg => rfl); (case hr => first | (go_simp; done) | (go_simp; rfl)); (case hp => exact (Reps.one (show Kd.M (Kd.int .i64) _ _ _ a2 [.int .i64 a2] from rfl) (Reps.none _ _)))
                 intro v369 w39 ho40 hb hg_ hnew_
                 clear hg_ hnew_
                 (first | rw [← Ny368.out] at ho40 | (simp only [Int.reduceToNat] at ho40; rw [← Ny368.out] at ho40))
                 have HO370 := Aside0.mk (Kd.R_lower (Kd.R_new' ho40 (Kd.R_lt (up_ HO361.out))) (below_size (dn_ HB.out)))
                 replace HO361 := re_ HO361 (Kd.R_base ho40) hb
                 replace BK351 := kb_ BK351 hb
                 replace BK352 := kb_ BK352 hb
                 replace HB := bs_ HB hb
                 clear hb ho40
                 refine hK.out _ _ ⟨(blk_cell BK351.out 0).trans rfl, (blk_cell BK351.out 1).trans rfl⟩ (fun hHeld => ?_)
                 clear hK K
                 refine nA_ ?_
                 exact nm_ (hJ4_10 (v360, v369) _ ⟨hHeld, (by refine lr_ ?_; exact Kd.R_mono HO361.out (fun _ hk => hk.2)), (by refine lr_ ?_; exact Kd.R_mono HO370.out (fun _ hk => hk.2)), (up_ BK351.out), (up_ BK352.out), (dn_ HB.out)⟩)
              ·skip
               rintro v357 w37 ⟨hS_, h0_, h1_, h2_, h3_⟩
               have n0_ : Aside0 (Kd.R (Kd.int .i64) 3 w37 w.heap.size (fun _ => True) v357 t356) := ⟨h0_⟩
               have n1_ : Aside0 (w37.heap[gb351]? = some (.cells #[.slice A0_0 l0_0.length c0_0, .slice A0_1 l0_1.length c0_1] 40 (0, 0))) := ⟨h1_⟩
               have n2_ : Aside0 (w37.heap[gb352]? = some (.cells #[.slice none 0 0, .slice none 0 0] 40 (0, 0))) := ⟨h2_⟩
               have n3_ : Aside0 (Below w.heap.size w w37) := ⟨h3_⟩
               clear BK351
               clear BK352
               clear HB
               clear h0_ h1_ h2_ h3_
               have HO358 := n0_
               have BK351 := n1_
               have BK352 := n2_
               have HB := n3_
               clear n0_ n1_ n2_ n3_
               have hHeld : w37.cell? ⟨gb351, 0, none⟩ = some (.slice A0_0 l0_0.length c0_0) ∧ w37.cell? ⟨gb351, 1, none⟩ = some (.slice A0_1 l0_1.length c0_1) := hS_
               refine norm_ (a' := ?_) ?_ ?_
               rotate_left
               ·simp only [putAll, Act.put, List.setIfInBounds_toArray, List.set_cons_zero, List.set_cons_succ]
                rfl
               refine two_ (i := 4) (j := 10) (Ni := some 32) (Nj := some 38) (bs 15 735) (bs 15 1743) rfl rfl rfl rfl (two_of HT_.out (by kernel_rfl)) (by decide) (by decide) (fun K hK => ?_) (fun K hK => ?_)
               ·skip
                refine Kd.R_lit_step (Kd.int .i64) _ 3 ?hg (N := 32) ?hd (xs := ([a1] : List Int)) (inner := [.int .i64 a1]) (ok := fun _ => True) (okp := fun _ => True) ?hr ?hp (fun _ hk => hk) trivial (Below.refl _ _) (Nat.le_refl _) (by simp) ?_; (case hd => rfl); (case hg => rfl); (case hr => first | (go_simp; done) | (go_simp; rfl)); (case hp => exact (Reps.one (show Kd.M (Kd.int .i64) _ _ _ a1 [.int .i64 a1] from rfl) (Reps.none _ _)))
                intro v360 w38 ho39 hb hg_ hnew_
                clear hg_ hnew_
                (first | rw [← Ny359.out] at ho39 | (simp only [Int.reduceToNat] at ho39; rw [← Ny359.out] at ho39))
                have HO361 := Aside0.mk (Kd.R_lower (Kd.R_new' ho39 (Kd.R_lt (up_ HO358.out))) (below_size (dn_ HB.out)))
                replace HO358 := re_ HO358 (Kd.R_base ho39) hb
                replace BK351 := kb_ BK351 hb
                replace BK352 := kb_ BK352 hb
                replace HB := bs_ HB hb
                clear hb ho39
                refine hK.out _ _ ⟨(blk_cell BK351.out 0).trans rfl, (blk_cell BK351.out 1).trans rfl⟩ (fun hHeld => ?_)
                clear hK K
                refine nA_ ?_
                exact nm_ (hJ2_4 (v357, v360) _ ⟨hHeld, (by refine lr_ ?_; exact Kd.R_mono HO358.out (fun _ hk => hk.2)), (by refine lr_ ?_; exact Kd.R_mono HO361.out (fun _ hk => hk.2)), (up_ BK351.out), (up_ BK352.out), (dn_ HB.out)⟩)
               ·skip
                refine Kd.R_lit_step (Kd.int .i64) _ 3 ?hg (N := 38) ?hd (xs := ([a2] : List Int)) (inner := [.int .i64 a2]) (ok := fun _ => True) (okp := fun _ => True) ?hr ?hp (fun _ hk => hk) trivial (Below.refl _ _) (Nat.le_refl _) (by simp) ?_; (case hd => rfl); (case hg => rfl); (case hr => first | (go_simp; done) | (go_simp; rfl)); (case hp => exact (Reps.one (show Kd.M (Kd.int .i64) _ _ _ a2 [.int .i64 a2] from rfl) (Reps.none _ _)))
                intro v369 w38 ho39 hb hg_ hnew_
                clear hg_ hnew_
                (first | rw [← Ny368.out] at ho39 | (simp only [Int.reduceToNat] at ho39; rw [← Ny368.out] at ho39))
                have HO370 := Aside0.mk (Kd.R_lower (Kd.R_new' ho39 (Kd.R_lt (up_ HO358.out))) (below_size (dn_ HB.out)))
                replace HO358 := re_ HO358 (Kd.R_base ho39) hb
                replace BK351 := kb_ BK351 hb
                replace BK352 := kb_ BK352 hb
                replace HB := bs_ HB hb
                clear hb ho39
                refine hK.out _ _ ⟨(blk_cell BK351.out 0).trans rfl, (blk_cell BK351.out 1).trans rfl⟩ (fun hHeld => ?_)
                clear hK K
                refine nA_ ?_
                exact nm_ (hJ2_10 (v357, v369) _ ⟨hHeld, (by refine lr_ ?_; exact Kd.R_mono HO358.out (fun _ hk => hk.2)), (by refine lr_ ?_; exact Kd.R_mono HO370.out (fun _ hk => hk.2)), (up_ BK351.out), (up_ BK352.out), (dn_ HB.out)⟩)
             ·skip
              rintro ⟨v360, v369⟩ w40 ⟨hS_, h0_, h1_, h2_, h3_, h4_⟩
              have n0_ : Aside0 (Kd.R (Kd.int .i64) 3 w40 w.heap.size (fun k_ => some k_ ≠ (v369 : Value).ownBlock) v360 y359) := ⟨h0_⟩
              have n1_ : Aside0 (Kd.R (Kd.int .i64) 3 w40 w.heap.size (fun k_ => some k_ ≠ (v360 : Value).ownBlock) v369 y368) := ⟨h1_⟩
              have n2_ : Aside0 (w40.heap[gb351]? = some (.cells #[.slice A0_0 l0_0.length c0_0, .slice A0_1 l0_1.length c0_1] 40 (0, 0))) := ⟨h2_⟩
              have n3_ : Aside0 (w40.heap[gb352]? = some (.cells #[.slice none 0 0, .slice none 0 0] 40 (0, 0))) := ⟨h3_⟩
              have n4_ : Aside0 (Below w.heap.size w w40) := ⟨h4_⟩
              clear BK351
              clear BK352
              clear HB
              clear h0_ h1_ h2_ h3_ h4_
              have HO361 := n0_
              have HO370 := n1_
              have BK351 := n2_
              have BK352 := n3_
              have HB := n4_
              clear n0_ n1_ n2_ n3_ n4_
              have hHeld : w40.cell? ⟨gb351, 0, none⟩ = some (.slice A0_0 l0_0.length c0_0) ∧ w40.cell? ⟨gb351, 1, none⟩ = some (.slice A0_1 l0_1.length c0_1) := hS_
              refine norm_ (a' := ?_) ?_ ?_
              rotate_left
              ·simp only [putAll, Act.put, List.setIfInBounds_toArray, List.set_cons_zero, List.set_cons_succ]
               rfl
              refine oA_ 2 (some 30) 15 1759 (fun K hK => ?_)
              refine gE_ Tryd.func142 #[.slice A0_0 l0_0.length c0_0] ?_
              with_reducible refine (spec_l1Own.calls _ _ l0_0 t356 _ ?side1 ?side2 A31.out).mono ?_
              (case side1 => exact cs_ (Kd.C_below HR0_0.out HB.out))
              (case side2 => exact HC0_0.out)
              rintro e w41 ⟨v357, rfl, ho0, hb⟩
              refine ⟨_, rfl, ?_⟩
              have HO358 := Aside0.mk (Kd.R_lower (Kd.R_new' (Kd.R_new' ho0 (Kd.R_lt (up_ HO361.out))) (Kd.R_lt (up_ HO370.out))) (below_size (dn_ HB.out)))
              replace HO361 := re_ HO361 (Kd.R_base ho0) hb
              replace HO370 := re_ HO370 (Kd.R_base ho0) hb
              replace BK351 := kb_ BK351 hb
              replace BK352 := kb_ BK352 hb
              replace HB := bs_ HB hb
              (try clear hb)
              (try clear hb2)
              (try clear hk)
              (try clear hi)
              (try clear ho0)
              refine hK.out _ _ ⟨(blk_cell BK351.out 0).trans rfl, (blk_cell BK351.out 1).trans rfl⟩ (fun hHeld => ?_)
              clear hK K
              refine nA_ ?_
              exact nm_ (hJ2_4_10 (v357, v360, v369) _ ⟨hHeld, (by refine lr_ ?_; exact Kd.R_mono HO358.out (fun _ hk => ⟨hk.1.2, hk.2⟩)), (by refine lr_ ?_; exact Kd.R_mono HO361.out (fun _ hk => ⟨hk.2, hk.1⟩)), (by refine lr_ ?_; exact Kd.R_mono HO370.out (fun _ hk => ⟨hk.2, hk.1⟩)), (up_ BK351.out), (up_ BK352.out), (dn_ HB.out)⟩)
            ·skip
             rintro ⟨v357, v369⟩ w39 ⟨hS_, h0_, h1_, h2_, h3_, h4_⟩
             have n0_ : Aside0 (Kd.R (Kd.int .i64) 3 w39 w.heap.size (fun k_ => some k_ ≠ (v369 : Value).ownBlock) v357 t356) := ⟨h0_⟩
             have n1_ : Aside0 (Kd.R (Kd.int .i64) 3 w39 w.heap.size (fun k_ => some k_ ≠ (v357 : Value).ownBlock) v369 y368) := ⟨h1_⟩
             have n2_ : Aside0 (w39.heap[gb351]? = some (.cells #[.slice A0_0 l0_0.length c0_0, .slice A0_1 l0_1.length c0_1] 40 (0, 0))) := ⟨h2_⟩
             have n3_ : Aside0 (w39.heap[gb352]? = some (.cells #[.slice none 0 0, .slice none 0 0] 40 (0, 0))) := ⟨h3_⟩
             have n4_ : Aside0 (Below w.heap.size w w39) := ⟨h4_⟩
             clear BK351
             clear BK352
             clear HB
             clear h0_ h1_ h2_ h3_ h4_
             have HO358 := n0_
             have HO370 := n1_
             have BK351 := n2_
             have BK352 := n3_
             have HB := n4_
             clear n0_ n1_ n2_ n3_ n4_
             have hHeld : w39.cell? ⟨gb351, 0, none⟩ = some (.slice A0_0 l0_0.length c0_0) ∧ w39.cell? ⟨gb351, 1, none⟩ = some (.slice A0_1 l0_1.length c0_1) := hS_
             refine norm_ (a' := ?_) ?_ ?_
             rotate_left
             ·simp only [putAll, Act.put, List.setIfInBounds_toArray, List.set_cons_zero, List.set_cons_succ]
              rfl
             refine oA_ 4 (some 32) 15 1759 (fun K hK => ?_)
             refine Kd.R_lit_step (Kd.int .i64) _ 3 ?hg (N := 32) ?hd (xs := ([a1] : List Int)) (inner := [.int .i64 a1]) (ok := fun _ => True) (okp := fun _ => True) ?hr ?hp (fun _ hk => hk) trivial (Below.refl _ _) (Nat.le_refl _) (by simp) ?_; (case hd => rfl); (case hg => rfl); (case hr => first | (go_simp; done) | (go_simp; rfl)); (case hp => exact (Reps.one (show Kd.M (Kd.int .i64) _ _ _ a1 [.int .i64 a1] from rfl) (Reps.none _ _)))
             intro v360 w40 ho41 hb hg_ hnew_
             clear hg_ hnew_
             (first | rw [← Ny359.out] at ho41 | (simp only [Int.reduceToNat] at ho41; rw [← Ny359.out] at ho41))
             have HO361 := Aside0.mk (Kd.R_lower (Kd.R_new' (Kd.R_new' ho41 (Kd.R_lt (up_ HO358.out))) (Kd.R_lt (up_ HO370.out))) (below_size (dn_ HB.out)))
             replace HO358 := re_ HO358 (Kd.R_base ho41) hb
             replace HO370 := re_ HO370 (Kd.R_base ho41) hb
             replace BK351 := kb_ BK351 hb
             replace BK352 := kb_ BK352 hb
             replace HB := bs_ HB hb
             clear hb ho41
             refine hK.out _ _ ⟨(blk_cell BK351.out 0).trans rfl, (blk_cell BK351.out 1).trans rfl⟩ (fun hHeld => ?_)
             clear hK K
             refine nA_ ?_
             exact nm_ (hJ2_4_10 (v357, v360, v369) _ ⟨hHeld, (by refine lr_ ?_; exact Kd.R_mono HO358.out (fun _ hk => ⟨hk.2, hk.1⟩)), (by refine lr_ ?_; exact Kd.R_mono HO361.out (fun _ hk => ⟨hk.1.2, hk.2⟩)), (up_ HO370.out), (up_ BK351.out), (up_ BK352.out), (dn_ HB.out)⟩)
           ·skip
            rintro ⟨v357, v360⟩ w39 ⟨hS_, h0_, h1_, h2_, h3_, h4_⟩
            have n0_ : Aside0 (Kd.R (Kd.int .i64) 3 w39 w.heap.size (fun k_ => some k_ ≠ (v360 : Value).ownBlock) v357 t356) := ⟨h0_⟩
            have n1_ : Aside0 (Kd.R (Kd.int .i64) 3 w39 w.heap.size (fun k_ => some k_ ≠ (v357 : Value).ownBlock) v360 y359) := ⟨h1_⟩
            have n2_ : Aside0 (w39.heap[gb351]? = some (.cells #[.slice A0_0 l0_0.length c0_0, .slice A0_1 l0_1.length c0_1] 40 (0, 0))) := ⟨h2_⟩
            have n3_ : Aside0 (w39.heap[gb352]? = some (.cells #[.slice none 0 0, .slice none 0 0] 40 (0, 0))) := ⟨h3_⟩
            have n4_ : Aside0 (Below w.heap.size w w39) := ⟨h4_⟩
            clear BK351
            clear BK352
            clear HB
            clear h0_ h1_ h2_ h3_ h4_
            have HO358 := n0_
            have HO361 := n1_
            have BK351 := n2_
            have BK352 := n3_
            have HB := n4_
            clear n0_ n1_ n2_ n3_ n4_
            have hHeld : w39.cell? ⟨gb351, 0, none⟩ = some (.slice A0_0 l0_0.length c0_0) ∧ w39.cell? ⟨gb351, 1, none⟩ = some (.slice A0_1 l0_1.length c0_1) := hS_
            obtain ⟨Ao41, co41, eo41⟩ := Kd.R_slice HO361.out
            (first | subst eo41 | (injection eo41 with f1_ f2_ f3_; have f4_ := f1_.symm; have f5_ := f3_.symm; clear f1_ f2_ f3_; subst f4_; subst f5_))
            refine norm_ (a' := ?_) ?_ ?_
            rotate_left
            ·simp only [putAll, Act.put, List.setIfInBounds_toArray, List.set_cons_zero, List.set_cons_succ]
             rfl
            refine two_ (i := 5) (j := 10) (Ni := some 33) (Nj := some 38) (bs 15 767) (bs 15 1759) rfl rfl rfl rfl (two_of HT_.out (by kernel_rfl)) (by decide) (by decide) (fun K hK => ?_) (fun K hK => ?_)
            ·skip
             refine Kd.R_append_rows_step (Kd.int .i64) (w0 := w) w.heap.size (by rfl) (.tmp 30) (.tmp 32) 35 3 (.int .i64 0) 8 rfl Tryd.underlying35 info3 rfl (by decide) (by omega) v357 t356 y359 _ _ _ (fun k_ => some k_ ≠ (.slice Ao41 y359.length co41 : Value).ownBlock) (fun _ => False) rfl rfl ?aO ?aR (fun _ _ h => h) (fun _ h => h.elim) ?aF ?aB ?aS ?aL ?_
             (case aR => repeat (first | exact (Kd.R_reads' HO361.out).2.2 | (with_reducible refine Kd.C_alloc ?_ _) | (with_reducible refine Kd.C_drewN ?_ _) | (with_reducible refine Kd.C_drew ?_)))
             (case aB => exact (dn_ HB.out))
             (case aF => exact (fun k_ hk => Kd.fresh' (Kd.R_lt (up_ HO361.out)) k_ hk))
             (case aO => exact (up_ HO358.out))
             (case aS => exact (below_size (dn_ HB.out)))
             (case aL => have := LMc32.out; omega)
             intro v363 w40 ho hb hg hat
             rw [← Ny362.out] at ho
             have n0_ := Aside0.mk (blk_grown (g := gb351) (o := .cells #[.slice A0_0 l0_0.length c0_0, .slice A0_1 l0_1.length c0_1] 40 (0, 0)) (up_ BK351.out) hg (Kd.R_ne HO358.out BK351.out (by decide)))
             have n1_ := Aside0.mk (blk_grown (g := gb352) (o := .cells #[.slice none 0 0, .slice none 0 0] 40 (0, 0)) (up_ BK352.out) hg (Kd.R_ne HO358.out BK352.out (by decide)))
             have n2_ := Aside0.mk (Kd.R_after (ok := (fun _ => True)) (by refine lr_ ?_; exact Kd.R_mono HO361.out (fun _ hk => ⟨trivial, hk⟩)) hg hat)
             have n3_ := Aside0.mk (hb)
             have n4_ := Aside0.mk (ho)
             clear BK351
             clear BK352
             clear HO361
             clear HB
             clear HO358
             have BK351 := n0_
             have BK352 := n1_
             have HO361 := n2_
             have HB := n3_
             have HO364 := n4_
             clear n0_ n1_ n2_ n3_ n4_
             clear ho hb hg hat
             refine hK.out _ _ ⟨(blk_cell BK351.out 0).trans rfl, (blk_cell BK351.out 1).trans rfl⟩ (fun hHeld => ?_)
             clear hK K
             refine nA_ ?_
             exact nm_ (hJ2_4_5 (v357, .slice Ao41 y359.length co41, v363) _ ⟨hHeld, (by refine lr_ ?_; exact Kd.R_mono HO361.out (fun _ hk => hk.2)), (up_ HO364.out), (up_ BK351.out), (up_ BK352.out), (dn_ HB.out)⟩)
            ·skip
             refine Kd.R_lit_step (Kd.int .i64) _ 3 ?hg (N := 38) ?hd (xs := ([a2] : List Int)) (inner := [.int .i64 a2]) (ok := fun _ => True) (okp := fun _ => True) ?hr ?hp (fun _ hk => hk) trivial (Below.refl _ _) (Nat.le_refl _) (by simp) ?_; (case hd => rfl); (case hg => rfl); (case hr => first | (go_simp; done) | (go_simp; rfl)); (case hp => exact (Reps.one (show Kd.M (Kd.int .i64) _ _ _ a2 [.int .i64 a2] from rfl) (Reps.none _ _)))
             intro v369 w40 ho41 hb hg_ hnew_
             clear hg_ hnew_
             (first | rw [← Ny368.out] at ho41 | (simp only [Int.reduceToNat] at ho41; rw [← Ny368.out] at ho41))
             have HO370 := Aside0.mk (Kd.R_lower (Kd.R_new' (Kd.R_new' ho41 (Kd.R_lt (up_ HO358.out))) (Kd.R_lt (up_ HO361.out))) (below_size (dn_ HB.out)))
             replace HO358 := re_ HO358 (Kd.R_base ho41) hb
             replace HO361 := re_ HO361 (Kd.R_base ho41) hb
             replace BK351 := kb_ BK351 hb
             replace BK352 := kb_ BK352 hb
             replace HB := bs_ HB hb
             clear hb ho41
             refine hK.out _ _ ⟨(blk_cell BK351.out 0).trans rfl, (blk_cell BK351.out 1).trans rfl⟩ (fun hHeld => ?_)
             clear hK K
             refine nA_ ?_
             exact nm_ (hJ2_4_10 (v357, .slice Ao41 y359.length co41, v369) _ ⟨hHeld, (up_ HO358.out), (up_ HO361.out), (by refine lr_ ?_; exact Kd.R_mono HO370.out (fun _ hk => ⟨hk.1.2, hk.2⟩)), (up_ BK351.out), (up_ BK352.out), (dn_ HB.out)⟩)
          ·skip
           rintro ⟨v357, v360, v369⟩ w41 ⟨hS_, h0_, h1_, h2_, h3_, h4_, h5_⟩
           have n0_ : Aside0 (Kd.R (Kd.int .i64) 3 w41 w.heap.size (fun k_ => some k_ ≠ (v360 : Value).ownBlock ∧ some k_ ≠ (v369 : Value).ownBlock) v357 t356) := ⟨h0_⟩
           have n1_ : Aside0 (Kd.R (Kd.int .i64) 3 w41 w.heap.size (fun k_ => some k_ ≠ (v357 : Value).ownBlock ∧ some k_ ≠ (v369 : Value).ownBlock) v360 y359) := ⟨h1_⟩
           have n2_ : Aside0 (Kd.R (Kd.int .i64) 3 w41 w.heap.size (fun k_ => some k_ ≠ (v357 : Value).ownBlock ∧ some k_ ≠ (v360 : Value).ownBlock) v369 y368) := ⟨h2_⟩
           have n3_ : Aside0 (w41.heap[gb351]? = some (.cells #[.slice A0_0 l0_0.length c0_0, .slice A0_1 l0_1.length c0_1] 40 (0, 0))) := ⟨h3_⟩
           have n4_ : Aside0 (w41.heap[gb352]? = some (.cells #[.slice none 0 0, .slice none 0 0] 40 (0, 0))) := ⟨h4_⟩
           have n5_ : Aside0 (Below w.heap.size w w41) := ⟨h5_⟩
           clear BK351
           clear BK352
           clear HB
           clear h0_ h1_ h2_ h3_ h4_ h5_
           have HO358 := n0_
           have HO361 := n1_
           have HO370 := n2_
           have BK351 := n3_
           have BK352 := n4_
           have HB := n5_
           clear n0_ n1_ n2_ n3_ n4_ n5_
           have hHeld : w41.cell? ⟨gb351, 0, none⟩ = some (.slice A0_0 l0_0.length c0_0) ∧ w41.cell? ⟨gb351, 1, none⟩ = some (.slice A0_1 l0_1.length c0_1) := hS_
           obtain ⟨Ao43, co43, eo43⟩ := Kd.R_slice HO361.out
           (first | subst eo43 | (injection eo43 with f1_ f2_ f3_; have f4_ := f1_.symm; have f5_ := f3_.symm; clear f1_ f2_ f3_; subst f4_; subst f5_))
           refine norm_ (a' := ?_) ?_ ?_
           rotate_left
           ·simp only [putAll, Act.put, List.setIfInBounds_toArray, List.set_cons_zero, List.set_cons_succ]
            rfl
           refine oA_ 5 (some 33) 15 1791 (fun K hK => ?_)
           refine Kd.R_append_rows_step (Kd.int .i64) (w0 := w) w.heap.size (by rfl) (.tmp 30) (.tmp 32) 35 3 (.int .i64 0) 8 rfl Tryd.underlying35 info3 rfl (by decide) (by omega) v357 t356 y359 _ _ _ (fun k_ => some k_ ≠ (.slice Ao43 y359.length co43 : Value).ownBlock ∧ some k_ ≠ (v369 : Value).ownBlock) (fun _ => False) rfl rfl ?aO ?aR (fun _ _ h => h) (fun _ h => h.elim) ?aF ?aB ?aS ?aL ?_
           (case aR => repeat (first | exact (Kd.R_reads' HO361.out).2.2 | (with_reducible refine Kd.C_alloc ?_ _) | (with_reducible refine Kd.C_drewN ?_ _) | (with_reducible refine Kd.C_drew ?_)))
           (case aB => exact (dn_ HB.out))
           (case aF => exact (fun k_ hk => ⟨Kd.fresh' (Kd.R_lt (up_ HO361.out)) k_ hk, Kd.fresh' (Kd.R_lt (up_ HO370.out)) k_ hk⟩))
           (case aO => exact (up_ HO358.out))
           (case aS => exact (below_size (dn_ HB.out)))
           (case aL => have := LMc32.out; omega)
           intro v363 w42 ho hb hg hat
           rw [← Ny362.out] at ho
           have n0_ := Aside0.mk (blk_grown (g := gb351) (o := .cells #[.slice A0_0 l0_0.length c0_0, .slice A0_1 l0_1.length c0_1] 40 (0, 0)) (up_ BK351.out) hg (Kd.R_ne HO358.out BK351.out (by decide)))
           have n1_ := Aside0.mk (blk_grown (g := gb352) (o := .cells #[.slice none 0 0, .slice none 0 0] 40 (0, 0)) (up_ BK352.out) hg (Kd.R_ne HO358.out BK352.out (by decide)))
           have n2_ := Aside0.mk (Kd.R_after (ok := (fun k_ => some k_ ≠ (v369 : Value).ownBlock)) (by refine lr_ ?_; exact Kd.R_mono HO361.out (fun _ hk => ⟨hk.2, hk.1⟩)) hg hat)
           have n3_ := Aside0.mk (Kd.R_after (ok := (fun k_ => some k_ ≠ (.slice Ao43 y359.length co43 : Value).ownBlock)) (by refine lr_ ?_; exact Kd.R_mono HO370.out (fun _ hk => ⟨hk.2, hk.1⟩)) hg hat)
           have n4_ := Aside0.mk (hb)
           have n5_ := Aside0.mk (ho)
           clear BK351
           clear BK352
           clear HO361
           clear HO370
           clear HB
           clear HO358
           have BK351 := n0_
           have BK352 := n1_
           have HO361 := n2_
           have HO370 := n3_
           have HB := n4_
           have HO364 := n5_
           clear n0_ n1_ n2_ n3_ n4_ n5_
           clear ho hb hg hat
           refine hK.out _ _ ⟨(blk_cell BK351.out 0).trans rfl, (blk_cell BK351.out 1).trans rfl⟩ (fun hHeld => ?_)
           clear hK K
           refine nA_ ?_
           exact nm_ (hJ2_4_5_10 (v357, .slice Ao43 y359.length co43, v363, v369) _ ⟨hHeld, (by refine lr_ ?_; exact Kd.R_mono HO361.out (fun _ hk => ⟨hk.2, hk.1⟩)), (up_ HO364.out), (up_ HO370.out), (up_ BK351.out), (up_ BK352.out), (dn_ HB.out)⟩)
         ·skip
          rintro ⟨v357, v360, v363⟩ w41 ⟨hS_, h0_, h1_, h2_, h3_, h4_⟩
          have n0_ : Aside0 (Kd.R (Kd.int .i64) 3 w41 w.heap.size (fun k_ => some k_ ≠ (v363 : Value).ownBlock) v360 y359) := ⟨h0_⟩
          have n1_ : Aside0 (Kd.R (Kd.int .i64) 3 w41 w.heap.size (fun k_ => some k_ ≠ (v360 : Value).ownBlock) v363 y362) := ⟨h1_⟩
          have n2_ : Aside0 (w41.heap[gb351]? = some (.cells #[.slice A0_0 l0_0.length c0_0, .slice A0_1 l0_1.length c0_1] 40 (0, 0))) := ⟨h2_⟩
          have n3_ : Aside0 (w41.heap[gb352]? = some (.cells #[.slice none 0 0, .slice none 0 0] 40 (0, 0))) := ⟨h3_⟩
          have n4_ : Aside0 (Below w.heap.size w w41) := ⟨h4_⟩
          clear BK351
          clear BK352
          clear HB
          clear h0_ h1_ h2_ h3_ h4_
          have HO361 := n0_
          have HO364 := n1_
          have BK351 := n2_
          have BK352 := n3_
          have HB := n4_
          clear n0_ n1_ n2_ n3_ n4_
          have hHeld : w41.cell? ⟨gb351, 0, none⟩ = some (.slice A0_0 l0_0.length c0_0) ∧ w41.cell? ⟨gb351, 1, none⟩ = some (.slice A0_1 l0_1.length c0_1) := hS_
          refine norm_ (a' := ?_) ?_ ?_
          rotate_left
          ·simp only [putAll, Act.put, List.setIfInBounds_toArray, List.set_cons_zero, List.set_cons_succ]
           rfl
          refine two_ (i := 8) (j := 10) (Ni := some 36) (Nj := some 38) (bs 15 1023) (bs 15 1791) rfl rfl rfl rfl (two_of HT_.out (by kernel_rfl)) (by decide) (by decide) (fun K hK => ?_) (fun K hK => ?_)
          ·skip
           refine gE_ Tryd.func142 #[.slice A0_1 l0_1.length c0_1] ?_
           with_reducible refine (spec_l1Own.calls _ _ l0_1 t365 _ ?side1 ?side2 A33.out).mono ?_
           (case side1 => exact cs_ (Kd.C_below HR0_1.out HB.out))
           (case side2 => exact HC0_1.out)
           rintro e w42 ⟨v366, rfl, ho0, hb⟩
           refine ⟨_, rfl, ?_⟩
           have HO367 := Aside0.mk (Kd.R_lower (Kd.R_new' (Kd.R_new' ho0 (Kd.R_lt (up_ HO361.out))) (Kd.R_lt (up_ HO364.out))) (below_size (dn_ HB.out)))
           replace HO361 := re_ HO361 (Kd.R_base ho0) hb
           replace HO364 := re_ HO364 (Kd.R_base ho0) hb
           replace BK351 := kb_ BK351 hb
           replace BK352 := kb_ BK352 hb
           replace HB := bs_ HB hb
           (try clear hb)
           (try clear hb2)
           (try clear hk)
           (try clear hi)
           (try clear ho0)
           refine hK.out _ _ ⟨(blk_cell BK351.out 0).trans rfl, (blk_cell BK351.out 1).trans rfl⟩ (fun hHeld => ?_)
           clear hK K
           refine nA_ ?_
           exact nm_ (hJ2_4_5_8 (v357, v360, v363, v366) _ ⟨hHeld, (up_ HO361.out), (up_ HO364.out), (by refine lr_ ?_; exact Kd.R_mono HO367.out (fun _ hk => ⟨hk.1.2, hk.2⟩)), (up_ BK351.out), (up_ BK352.out), (dn_ HB.out)⟩)
          ·skip
           refine Kd.R_lit_step (Kd.int .i64) _ 3 ?hg (N := 38) ?hd (xs := ([a2] : List Int)) (inner := [.int .i64 a2]) (ok := fun _ => True) (okp := fun _ => True) ?hr ?hp (fun _ hk => hk) trivial (Below.refl _ _) (Nat.le_refl _) (by simp) ?_; (case hd => rfl); (case hg => rfl); (case hr => first | (go_simp; done) | (go_simp; rfl)); (case hp => exact (Reps.one (show Kd.M (Kd.int .i64) _ _ _ a2 [.int .i64 a2] from rfl) (Reps.none _ _)))
           intro v369 w42 ho43 hb hg_ hnew_
           clear hg_ hnew_
           (first | rw [← Ny368.out] at ho43 | (simp only [Int.reduceToNat] at ho43; rw [← Ny368.out] at ho43))
           have HO370 := Aside0.mk (Kd.R_lower (Kd.R_new' (Kd.R_new' ho43 (Kd.R_lt (up_ HO361.out))) (Kd.R_lt (up_ HO364.out))) (below_size (dn_ HB.out)))
           replace HO361 := re_ HO361 (Kd.R_base ho43) hb
           replace HO364 := re_ HO364 (Kd.R_base ho43) hb
           replace BK351 := kb_ BK351 hb
           replace BK352 := kb_ BK352 hb
           replace HB := bs_ HB hb
           clear hb ho43
           refine hK.out _ _ ⟨(blk_cell BK351.out 0).trans rfl, (blk_cell BK351.out 1).trans rfl⟩ (fun hHeld => ?_)
           clear hK K
           refine nA_ ?_
           exact nm_ (hJ2_4_5_10 (v357, v360, v363, v369) _ ⟨hHeld, (up_ HO361.out), (up_ HO364.out), (by refine lr_ ?_; exact Kd.R_mono HO370.out (fun _ hk => ⟨hk.1.2, hk.2⟩)), (up_ BK351.out), (up_ BK352.out), (dn_ HB.out)⟩)
        ·skip
         rintro ⟨v357, v360, v363, v369⟩ w43 ⟨hS_, h0_, h1_, h2_, h3_, h4_, h5_⟩
         have n0_ : Aside0 (Kd.R (Kd.int .i64) 3 w43 w.heap.size (fun k_ => some k_ ≠ (v363 : Value).ownBlock ∧ some k_ ≠ (v369 : Value).ownBlock) v360 y359) := ⟨h0_⟩
         have n1_ : Aside0 (Kd.R (Kd.int .i64) 3 w43 w.heap.size (fun k_ => some k_ ≠ (v360 : Value).ownBlock ∧ some k_ ≠ (v369 : Value).ownBlock) v363 y362) := ⟨h1_⟩
         have n2_ : Aside0 (Kd.R (Kd.int .i64) 3 w43 w.heap.size (fun k_ => some k_ ≠ (v360 : Value).ownBlock ∧ some k_ ≠ (v363 : Value).ownBlock) v369 y368) := ⟨h2_⟩
         have n3_ : Aside0 (w43.heap[gb351]? = some (.cells #[.slice A0_0 l0_0.length c0_0, .slice A0_1 l0_1.length c0_1] 40 (0, 0))) := ⟨h3_⟩
         have n4_ : Aside0 (w43.heap[gb352]? = some (.cells #[.slice none 0 0, .slice none 0 0] 40 (0, 0))) := ⟨h4_⟩
         have n5_ : Aside0 (Below w.heap.size w w43) := ⟨h5_⟩
         clear BK351
         clear BK352
         clear HB
         clear h0_ h1_ h2_ h3_ h4_ h5_
         have HO361 := n0_
         have HO364 := n1_
         have HO370 := n2_
         have BK351 := n3_
         have BK352 := n4_
         have HB := n5_
         clear n0_ n1_ n2_ n3_ n4_ n5_
         have hHeld : w43.cell? ⟨gb351, 0, none⟩ = some (.slice A0_0 l0_0.length c0_0) ∧ w43.cell? ⟨gb351, 1, none⟩ = some (.slice A0_1 l0_1.length c0_1) := hS_
         refine norm_ (a' := ?_) ?_ ?_
         rotate_left
         ·simp only [putAll, Act.put, List.setIfInBounds_toArray, List.set_cons_zero, List.set_cons_succ]
          rfl
         refine oA_ 8 (some 36) 15 2047 (fun K hK => ?_)
         refine gE_ Tryd.func142 #[.slice A0_1 l0_1.length c0_1] ?_
         with_reducible refine (spec_l1Own.calls _ _ l0_1 t365 _ ?side1 ?side2 A33.out).mono ?_
         (case side1 => exact cs_ (Kd.C_below HR0_1.out HB.out))
         (case side2 => exact HC0_1.out)
         rintro e w44 ⟨v366, rfl, ho0, hb⟩
         refine ⟨_, rfl, ?_⟩
         have HO367 := Aside0.mk (Kd.R_lower (Kd.R_new' (Kd.R_new' (Kd.R_new' ho0 (Kd.R_lt (up_ HO361.out))) (Kd.R_lt (up_ HO364.out))) (Kd.R_lt (up_ HO370.out))) (below_size (dn_ HB.out)))
         replace HO361 := re_ HO361 (Kd.R_base ho0) hb
         replace HO364 := re_ HO364 (Kd.R_base ho0) hb
         replace HO370 := re_ HO370 (Kd.R_base ho0) hb
         replace BK351 := kb_ BK351 hb
         replace BK352 := kb_ BK352 hb
         replace HB := bs_ HB hb
         (try clear hb)
         (try clear hb2)
         (try clear hk)
         (try clear hi)
         (try clear ho0)
         refine hK.out _ _ ⟨(blk_cell BK351.out 0).trans rfl, (blk_cell BK351.out 1).trans rfl⟩ (fun hHeld => ?_)
         clear hK K
         refine nA_ ?_
         exact nm_ (hJ2_4_5_8_10 (v357, v360, v363, v366, v369) _ ⟨hHeld, (by refine lr_ ?_; exact Kd.R_mono HO361.out (fun _ hk => ⟨hk.1.1, ⟨hk.2, hk.1.2⟩⟩)), (by refine lr_ ?_; exact Kd.R_mono HO364.out (fun _ hk => ⟨hk.1.1, ⟨hk.2, hk.1.2⟩⟩)), (by refine lr_ ?_; exact Kd.R_mono HO367.out (fun _ hk => ⟨hk.1.1.2, ⟨hk.1.2, hk.2⟩⟩)), (by refine lr_ ?_; exact Kd.R_mono HO370.out (fun _ hk => ⟨hk.1.1, ⟨hk.1.2, hk.2⟩⟩)), (up_ BK351.out), (up_ BK352.out), (dn_ HB.out)⟩)
       ·skip
        rintro ⟨v357, v360, v363, v366⟩ w42 ⟨hS_, h0_, h1_, h2_, h3_, h4_, h5_⟩
        have n0_ : Aside0 (Kd.R (Kd.int .i64) 3 w42 w.heap.size (fun k_ => some k_ ≠ (v363 : Value).ownBlock ∧ some k_ ≠ (v366 : Value).ownBlock) v360 y359) := ⟨h0_⟩
        have n1_ : Aside0 (Kd.R (Kd.int .i64) 3 w42 w.heap.size (fun k_ => some k_ ≠ (v360 : Value).ownBlock ∧ some k_ ≠ (v366 : Value).ownBlock) v363 y362) := ⟨h1_⟩
        have n2_ : Aside0 (Kd.R (Kd.int .i64) 3 w42 w.heap.size (fun k_ => some k_ ≠ (v360 : Value).ownBlock ∧ some k_ ≠ (v363 : Value).ownBlock) v366 t365) := ⟨h2_⟩
        have n3_ : Aside0 (w42.heap[gb351]? = some (.cells #[.slice A0_0 l0_0.length c0_0, .slice A0_1 l0_1.length c0_1] 40 (0, 0))) := ⟨h3_⟩
        have n4_ : Aside0 (w42.heap[gb352]? = some (.cells #[.slice none 0 0, .slice none 0 0] 40 (0, 0))) := ⟨h4_⟩
        have n5_ : Aside0 (Below w.heap.size w w42) := ⟨h5_⟩
        clear BK351
        clear BK352
        clear HB
        clear h0_ h1_ h2_ h3_ h4_ h5_
        have HO361 := n0_
        have HO364 := n1_
        have HO367 := n2_
        have BK351 := n3_
        have BK352 := n4_
        have HB := n5_
        clear n0_ n1_ n2_ n3_ n4_ n5_
        have hHeld : w42.cell? ⟨gb351, 0, none⟩ = some (.slice A0_0 l0_0.length c0_0) ∧ w42.cell? ⟨gb351, 1, none⟩ = some (.slice A0_1 l0_1.length c0_1) := hS_
        refine norm_ (a' := ?_) ?_ ?_
        rotate_left
        ·simp only [putAll, Act.put, List.setIfInBounds_toArray, List.set_cons_zero, List.set_cons_succ]
         rfl
        refine oA_ 10 (some 38) 15 2047 (fun K hK => ?_)
        refine Kd.R_lit_step (Kd.int .i64) _ 3 ?hg (N := 38) ?hd (xs := ([a2] : List Int)) (inner := [.int .i64 a2]) (ok := fun _ => True) (okp := fun _ => True) ?hr ?hp (fun _ hk => hk) trivial (Below.refl _ _) (Nat.le_refl _) (by simp) ?_; (case hd => rfl); (case hg => rfl); (case hr => first | (go_simp; done) | (go_simp; rfl)); (case hp => exact (Reps.one (show Kd.M (Kd.int .i64) _ _ _ a2 [.int .i64 a2] from rfl) (Reps.none _ _)))
        intro v369 w43 ho44 hb hg_ hnew_
        clear hg_ hnew_
        (first | rw [← Ny368.out] at ho44 | (simp only [Int.reduceToNat] at ho44; rw [← Ny368.out] at ho44))
        have HO370 := Aside0.mk (Kd.R_lower (Kd.R_new' (Kd.R_new' (Kd.R_new' ho44 (Kd.R_lt (up_ HO361.out))) (Kd.R_lt (up_ HO364.out))) (Kd.R_lt (up_ HO367.out))) (below_size (dn_ HB.out)))
        replace HO361 := re_ HO361 (Kd.R_base ho44) hb
        replace HO364 := re_ HO364 (Kd.R_base ho44) hb
        replace HO367 := re_ HO367 (Kd.R_base ho44) hb
        replace BK351 := kb_ BK351 hb
        replace BK352 := kb_ BK352 hb
        replace HB := bs_ HB hb
        clear hb ho44
        refine hK.out _ _ ⟨(blk_cell BK351.out 0).trans rfl, (blk_cell BK351.out 1).trans rfl⟩ (fun hHeld => ?_)
        clear hK K
        refine nA_ ?_
        exact nm_ (hJ2_4_5_8_10 (v357, v360, v363, v366, v369) _ ⟨hHeld, (by refine lr_ ?_; exact Kd.R_mono HO361.out (fun _ hk => ⟨hk.1.1, ⟨hk.1.2, hk.2⟩⟩)), (by refine lr_ ?_; exact Kd.R_mono HO364.out (fun _ hk => ⟨hk.1.1, ⟨hk.1.2, hk.2⟩⟩)), (by refine lr_ ?_; exact Kd.R_mono HO367.out (fun _ hk => ⟨hk.1.1, ⟨hk.1.2, hk.2⟩⟩)), (by refine lr_ ?_; exact Kd.R_mono HO370.out (fun _ hk => ⟨hk.1.1.2, ⟨hk.1.2, hk.2⟩⟩)), (up_ BK351.out), (up_ BK352.out), (dn_ HB.out)⟩)
      rintro ⟨v357, v360, v363, v366, v369⟩ w44 ⟨hS_, h0_, h1_, h2_, h3_, h4_, h5_, h6_⟩
      have n0_ : Aside0 (Kd.R (Kd.int .i64) 3 w44 w.heap.size (fun k_ => some k_ ≠ (v363 : Value).ownBlock ∧ some k_ ≠ (v366 : Value).ownBlock ∧ some k_ ≠ (v369 : Value).ownBlock) v360 y359) := ⟨h0_⟩
      have n1_ : Aside0 (Kd.R (Kd.int .i64) 3 w44 w.heap.size (fun k_ => some k_ ≠ (v360 : Value).ownBlock ∧ some k_ ≠ (v366 : Value).ownBlock ∧ some k_ ≠ (v369 : Value).ownBlock) v363 y362) := ⟨h1_⟩
      have n2_ : Aside0 (Kd.R (Kd.int .i64) 3 w44 w.heap.size (fun k_ => some k_ ≠ (v360 : Value).ownBlock ∧ some k_ ≠ (v363 : Value).ownBlock ∧ some k_ ≠ (v369 : Value).ownBlock) v366 t365) := ⟨h2_⟩
      have n3_ : Aside0 (Kd.R (Kd.int .i64) 3 w44 w.heap.size (fun k_ => some k_ ≠ (v360 : Value).ownBlock ∧ some k_ ≠ (v363 : Value).ownBlock ∧ some k_ ≠ (v366 : Value).ownBlock) v369 y368) := ⟨h3_⟩
      have n4_ : Aside0 (w44.heap[gb351]? = some (.cells #[.slice A0_0 l0_0.length c0_0, .slice A0_1 l0_1.length c0_1] 40 (0, 0))) := ⟨h4_⟩
      have n5_ : Aside0 (w44.heap[gb352]? = some (.cells #[.slice none 0 0, .slice none 0 0] 40 (0, 0))) := ⟨h5_⟩
      have n6_ : Aside0 (Below w.heap.size w w44) := ⟨h6_⟩
      clear BK351
      clear BK352
      clear HB
      clear h0_ h1_ h2_ h3_ h4_ h5_ h6_
      have HO361 := n0_
      have HO364 := n1_
      have HO367 := n2_
      have HO370 := n3_
      have BK351 := n4_
      have BK352 := n5_
      have HB := n6_
      clear n0_ n1_ n2_ n3_ n4_ n5_ n6_
      have hHeld : w44.cell? ⟨gb351, 0, none⟩ = some (.slice A0_0 l0_0.length c0_0) ∧ w44.cell? ⟨gb351, 1, none⟩ = some (.slice A0_1 l0_1.length c0_1) := hS_
      obtain ⟨Ao46, co46, eo46⟩ := Kd.R_slice HO370.out
      (first | subst eo46 | (injection eo46 with f1_ f2_ f3_; have f4_ := f1_.symm; have f5_ := f3_.symm; clear f1_ f2_ f3_; subst f4_; subst f5_))
      refine norm_ (a' := ?_) ?_ ?_
      rotate_left
      ·simp only [putAll, Act.put, List.setIfInBounds_toArray, List.set_cons_zero, List.set_cons_succ]
       rfl
      refine oA_ 11 (some 39) 15 4095 (fun K hK => ?_)
      refine Kd.R_append_rows_step (Kd.int .i64) (w0 := w) w.heap.size (by rfl) (.tmp 36) (.tmp 38) 35 3 (.int .i64 0) 8 rfl Tryd.underlying35 info3 rfl (by decide) (by omega) v366 t365 y368 _ _ _ (fun k_ => some k_ ≠ (v360 : Value).ownBlock ∧ some k_ ≠ (v363 : Value).ownBlock ∧ some k_ ≠ (.slice Ao46 y368.length co46 : Value).ownBlock) (fun _ => False) rfl rfl ?aO ?aR (fun _ _ h => h) (fun _ h => h.elim) ?aF ?aB ?aS ?aL ?_
      (case aR => repeat (first | exact (Kd.R_reads' HO370.out).2.2 | (with_reducible refine Kd.C_alloc ?_ _) | (with_reducible refine Kd.C_drewN ?_ _) | (with_reducible refine Kd.C_drew ?_)))
      (case aB => exact (dn_ HB.out))
      (case aF => exact (fun k_ hk => ⟨Kd.fresh' (Kd.R_lt (up_ HO361.out)) k_ hk, Kd.fresh' (Kd.R_lt (up_ HO364.out)) k_ hk, Kd.fresh' (Kd.R_lt (up_ HO370.out)) k_ hk⟩))
      (case aO => exact (up_ HO367.out))
      (case aS => exact (below_size (dn_ HB.out)))
      (case aL => have := LMc34.out; omega)
      intro v372 w45 ho hb hg hat
      rw [← Ny371.out] at ho
      have n0_ := Aside0.mk (blk_grown (g := gb351) (o := .cells #[.slice A0_0 l0_0.length c0_0, .slice A0_1 l0_1.length c0_1] 40 (0, 0)) (up_ BK351.out) hg (Kd.R_ne HO367.out BK351.out (by decide)))
      have n1_ := Aside0.mk (blk_grown (g := gb352) (o := .cells #[.slice none 0 0, .slice none 0 0] 40 (0, 0)) (up_ BK352.out) hg (Kd.R_ne HO367.out BK352.out (by decide)))
      have n2_ := Aside0.mk (Kd.R_after (ok := (fun k_ => some k_ ≠ (v363 : Value).ownBlock ∧ some k_ ≠ (.slice Ao46 y368.length co46 : Value).ownBlock)) (by refine lr_ ?_; exact Kd.R_mono HO361.out (fun _ hk => ⟨⟨hk.1, hk.2.2⟩, hk.2.1⟩)) hg hat)
      have n3_ := Aside0.mk (Kd.R_after (ok := (fun k_ => some k_ ≠ (v360 : Value).ownBlock ∧ some k_ ≠ (.slice Ao46 y368.length co46 : Value).ownBlock)) (by refine lr_ ?_; exact Kd.R_mono HO364.out (fun _ hk => ⟨⟨hk.1, hk.2.2⟩, hk.2.1⟩)) hg hat)
      have n4_ := Aside0.mk (Kd.R_after (ok := (fun k_ => some k_ ≠ (v360 : Value).ownBlock ∧ some k_ ≠ (v363 : Value).ownBlock)) (by refine lr_ ?_; exact Kd.R_mono HO370.out (fun _ hk => ⟨⟨hk.1, hk.2.1⟩, hk.2.2⟩)) hg hat)
      have n5_ := Aside0.mk (hb)
      have n6_ := Aside0.mk (ho)
      clear BK351
      clear BK352
      clear HO361
      clear HO364
      clear HO370
      clear HB
      clear HO367
      have BK351 := n0_
      have BK352 := n1_
      have HO361 := n2_
      have HO364 := n3_
      have HO370 := n4_
      have HB := n5_
      have HO373 := n6_
      clear n0_ n1_ n2_ n3_ n4_ n5_ n6_
      clear ho hb hg hat
      obtain ⟨Ao47, co47, eo47⟩ := Kd.R_slice HO373.out
      (first | subst eo47 | (injection eo47 with f1_ f2_ f3_; have f4_ := f1_.symm; have f5_ := f3_.symm; clear f1_ f2_ f3_; subst f4_; subst f5_))
      obtain ⟨Ao48, co48, eo48⟩ := Kd.R_slice HO364.out
      (first | subst eo48 | (injection eo48 with f1_ f2_ f3_; have f4_ := f1_.symm; have f5_ := f3_.symm; clear f1_ f2_ f3_; subst f4_; subst f5_))
      refine hK.out _ _ ⟨(blk_cell BK351.out 0).trans rfl, (blk_cell BK351.out 1).trans rfl⟩ (fun hHeld => ?_)
      clear hK K
      refine nA_ ?_
      refine pA_ 12 40 15 8191 ?_
      refine oA_ 13 none 15 16383 (fun K hK => ?_)
      have hs49 : w45.cell? ⟨gb352, 0, none⟩ = some (.slice none 0 0) := (blk_cell BK352.out 0).trans rfl
      have hfs49 := blk_frozen BK352.out 0
      have hns49_0 := NB351_352.out
      have hms49_0 := NB352_351.out
      have hs50 : w45.cell? ⟨gb352, 1, none⟩ = some (.slice none 0 0) := (blk_cell BK352.out 1).trans rfl
      have hfs50 := blk_frozen BK352.out 1
      have hns50_0 := NB351_352.out
      have hms50_0 := NB352_351.out
      refine skip_ (w1 := ?_) (by rfl) rfl ?_ ?_
      rotate_left
      ·go_simp
       rfl
      refine hK.out _ _ ⟨((cell_far (p := ⟨gb352, _, none⟩) NB351_352.out _).trans (((cell_far (p := ⟨gb352, _, none⟩) NB351_352.out _).trans (hHeld.1)))), ((cell_far (p := ⟨gb352, _, none⟩) NB351_352.out _).trans (((cell_far (p := ⟨gb352, _, none⟩) NB351_352.out _).trans (hHeld.2))))⟩ (fun hHeld => ?_)
      clear hK K
      refine pA_ 14 7 15 32767 ?_
      refine done_ (done_of HT_.out (by kernel_rfl)) ?_
      try go_wp2
      refine bodyPost_ret (results_ct rfl _ _ gb352 40 #[.slice Ao48 y362.length co48, .slice Ao47 y371.length co47] (0, 0) _ rfl (by refine lk_ ?_; refine blk_put (cs := #[.slice Ao48 y362.length co48, .slice none 0 0]) ?_ 1 _ rfl; refine lk_ ?_; refine blk_put (cs := #[.slice none 0 0, .slice none 0 0]) ?_ 0 _ rfl; (with_reducible repeat (first | refine blk_drewN ?_ _ | refine blk_drew ?_ | refine blk_alloc ?_ _)); exact BK352.out) Tryd.underlying40 rfl (by kernel_rfl)) rfl ?_
      exact ⟨_, _, by first | rfl | (simp [errW_none, errW_some] <;> rfl) | (simp [*, errW_none, errW_some] <;> rfl), by refine lr_ ?_; exact Kd.R_mono (Kd.R_far (p := ⟨gb352, 1, none⟩) (Kd.R_far (p := ⟨gb352, 0, none⟩) (Kd.R_types HO364.out BK352.out (by decide)) (fun _ hk => hk.2) (.slice Ao48 y362.length co48)) (fun _ hk => hk.2) (.slice Ao47 y371.length co47)) (fun _ hk => hk.1.2), by refine lr_ ?_; exact Kd.R_mono (Kd.R_far (p := ⟨gb352, 1, none⟩) (Kd.R_far (p := ⟨gb352, 0, none⟩) (Kd.R_types HO373.out BK352.out (by decide)) (fun _ hk => hk.2) (.slice Ao48 y362.length co48)) (fun _ hk => hk.2) (.slice Ao47 y371.length co47)) (fun _ hk => hk.1.2.1), dn_ HB.out⟩
     ·rw [if_neg c34] at H
      exact absurd H (by simp)
    ·rw [if_neg c32] at H
     exact absurd H (by simp)
end Go.Proofs.YtbmdgmmegchmnaaDoor.B
namespace Go.Proofs.YtbmdgmmegchmnaaDoor.B
open Go.RowKit Go.Proofs.YtbmdgmmegchmnaaDoorW.PrintWords Go.Proofs.YtbmdgmmegchmnaaDoorW.PrintLast Go.Proofs.YtbmdgmmegchmnaaDoorW.PrintMore
attribute [local go_sem] max2_int min2_int max_two min_two max_three min_three max_four min_four
set_option linter.unusedVariables false
set_option linter.unusedSimpArgs false
mutual
def spec_StairsAbove.j0 : Nat → Int → Bool → List Int → List Int → Option (List Int × Bool)
 | 0, _, _, _, _ => none
 | k + 1, x1, x16, x375000, x375001 => if x16 = true then (some (([] : List Int), false)) else (spec_StairsAbove.l0 k x1 ([] : List Int) x375000 (x375000.length : Int) 0)
def spec_StairsAbove.l0 : Nat → Int → List Int → List Int → Int → Int → Option (List Int × Bool)
 | 0, _, _, _, _, _ => none
 | k + 1, x1, x6, x18, x19, x20 => if x20 < x19 then (if 0 ≤ x20 then (if x20 < (x18.length : Int) then (if (rd x18 x20) > x1 then (if x6.length < 17592186044416 then (spec_StairsAbove.l0 k x1 (x6 ++ [x20]) x18 x19 (wrap64 (x20 + 1))) else (none)) else (spec_StairsAbove.l0 k x1 x6 x18 x19 (wrap64 (x20 + 1)))) else (none)) else (none)) else (some (x6, true))
end
def spec_StairsAbove.f (k : Nat) (l0_0 : List Int) (l0_1 : List Int) (a1 : Int) : Option (List Int × Bool) := (spec_ldGood.f k l0_0 l0_1).bind fun t375 => (if t375 = true then ((spec_l1In.f a1 0 40).bind fun t376 => (spec_StairsAbove.j0 k a1 (!t376) l0_0 l0_1)) else (spec_StairsAbove.j0 k a1 true l0_0 l0_1))
set_option maxHeartbeats 8000000 in
set_option maxRecDepth 100000 in
theorem spec_StairsAbove.calls (k : Nat) (A0_0 : Option Addr) (c0_0 : Nat) (l0_0 : List Int) (A0_1 : Option Addr) (c0_1 : Nat) (l0_1 : List Int) (a1 : Int) (r1 : List Int) (r2 : Bool) (w : World) (hr0_0 : Kd.C (Kd.int .i64) w A0_0 l0_0.length l0_0) (hc0_0 : l0_0.length ≤ c0_0) (hr0_1 : Kd.C (Kd.int .i64) w A0_1 l0_1.length l0_1) (hc0_1 : l0_1.length ≤ c0_1) (h : spec_StairsAbove.f k l0_0 l0_1 a1 = some (r1, r2)) :
 Calls Tryd.prog 80 #[.agg #[.slice A0_0 l0_0.length c0_0, .slice A0_1 l0_1.length c0_1], .int .i64 a1] w fun e w' => ∃ v0_ : Value, e = .returned (.tuple #[v0_, .bool r2]) ∧ Kd.R (Kd.int .i64) 3 w' w.heap.size (fun _ => True) v0_ r1 ∧ Below w.heap.size w w' := by
 have hu40 := Tryd.underlying40
 have HR0_0 := Aside0.mk hr0_0
 have HC0_0 := Aside0.mk hc0_0
 clear hr0_0 hc0_0
 have HR0_1 := Aside0.mk hr0_1
 have HC0_1 := Aside0.mk hc0_1
 clear hr0_1 hc0_1
 have HB := Aside0.mk (Below.refl w.heap.size w)
 have H : ((spec_ldGood.f k l0_0 l0_1).bind fun t375 => (if t375 = true then ((spec_l1In.f a1 0 40).bind fun t376 => (spec_StairsAbove.j0 k a1 (!t376) l0_0 l0_1)) else (spec_StairsAbove.j0 k a1 true l0_0 l0_1))) = some (r1, r2) := h
 clear h
 have HC3 := Aside0.mk H
 clear H
 go_enter Tryd.func80, Tryd.ntmps80
 go_upto_region 1 with (first | ((with_reducible refine gate_dst (N := 2) rfl ?_); refine bx_ 2 #[.slice A0_0 l0_0.length c0_0, .slice A0_1 l0_1.length c0_1] 40 ?_; intro gb374 hg w4 hbox hb; have BK374 := Aside0.mk (hbox); have GW374 := gw_ HB hg; have GE374 := GW374; replace HB := bs_ HB hb; clear hb hbox hg))
 (try simp only [Act.put, List.setIfInBounds_toArray, List.set_cons_zero, List.set_cons_succ])
 go_cut [16] (fun v16 wc => ∃ (kq : Nat) (x16_2 : Bool), v16 = .bool x16_2 ∧ Aside0 (spec_StairsAbove.j0 kq a1 x16_2 l0_0 l0_1 = some (r1, r2)) ∧ Aside0 (kq ≤ k) ∧ Aside0 (wc.heap[gb374]? = some (.cells #[(.slice A0_0 l0_0.length c0_0), (.slice A0_1 l0_1.length c0_1)] 40 (0, 0))) ∧ Aside0 (Below w.heap.size w wc))
 case first =>
  have H := HC3.out
  clear HC3
  replace H := Option.bind_eq_some_iff.mp H
  obtain ⟨t375, A50, H⟩ := H
  try dsimp only at H
  have A5 := Aside0.mk A50
  clear A50
  by_cases c6 : t375 = true
  ·subst c6
   rw [if_pos rfl] at H
   replace H := Option.bind_eq_some_iff.mp H
   obtain ⟨t376, A70, H⟩ := H
   try dsimp only at H
   have A7 := Aside0.mk A70
   clear A70
   have H' := Aside0.mk H
   clear H
   obtain ⟨hcz8_0, hcz8_1, hfz8_0, hfz8_1⟩ := cf2_ BK374
   go_wp2_with (first | ((with_reducible refine gate_callee (f := 112) rfl ?_); refine gL_ (some 10) Tryd.func112 #[.agg #[.slice A0_0 l0_0.length c0_0, .slice A0_1 l0_1.length c0_1]] ?_; (with_reducible refine (spec_ldGood.calls k _ _ l0_0 _ _ l0_1 true _ ?side1 ?side2 ?side3 ?side4 A5.out).mono ?_); (case side1 => exact cs_ (Kd.C_below HR0_0.out HB.out)); (case side2 => exact HC0_0.out); (case side3 => exact cs_ (Kd.C_below HR0_1.out HB.out)); (case side4 => exact HC0_1.out); rintro e w9 ⟨rfl, hb⟩; refine ⟨_, rfl, ?_⟩; replace BK374 := kb_ BK374 hb; replace HB := bs_ HB hb; (try clear hb)) | (go_at_call 133; (with_reducible refine (spec_l1In.calls a1 0 40 t376 _ A7.out).mono ?_); rintro e w' ⟨rfl, ⟨nd, rfl⟩⟩))
   go_meet
   case rel => exact ⟨_, (!t376), (by first | rfl | (simp; done) | (simp [*]; done)), H', ⟨by first | omega | exact Nat.le_refl _⟩, ⟨up_ BK374.out⟩, ⟨dn_ HB.out⟩⟩
  ·replace c6 := Bool.eq_false_iff.mpr c6
   subst c6
   rw [if_neg (show ¬ (false = true) by decide)] at H
   have H' := Aside0.mk H
   clear H
   obtain ⟨hcz10_0, hcz10_1, hfz10_0, hfz10_1⟩ := cf2_ BK374
   go_wp2_with (first | ((with_reducible refine gate_callee (f := 112) rfl ?_); refine gL_ (some 10) Tryd.func112 #[.agg #[.slice A0_0 l0_0.length c0_0, .slice A0_1 l0_1.length c0_1]] ?_; (with_reducible refine (spec_ldGood.calls k _ _ l0_0 _ _ l0_1 false _ ?side1 ?side2 ?side3 ?side4 A5.out).mono ?_); (case side1 => exact cs_ (Kd.C_below HR0_0.out HB.out)); (case side2 => exact HC0_0.out); (case side3 => exact cs_ (Kd.C_below HR0_1.out HB.out)); (case side4 => exact HC0_1.out); rintro e w11 ⟨rfl, hb⟩; refine ⟨_, rfl, ?_⟩; replace BK374 := kb_ BK374 hb; replace HB := bs_ HB hb; (try clear hb)))
   go_meet
   case rel => exact ⟨_, (true), (by first | rfl | (simp; done) | (simp [*]; done)), H', ⟨by first | omega | exact Nat.le_refl _⟩, ⟨up_ BK374.out⟩, ⟨dn_ HB.out⟩⟩
 case rest =>
  clear HC3
  (try clear c1); (try clear p2); (try clear c6); (try clear c8); (try clear c11); (try clear hcz10_0); (try clear hcz10_1); (try clear hcz8_0); (try clear hcz8_1); (try clear hfz10_0); (try clear hfz10_1); (try clear hfz8_0); try clear hfz8_1
  obtain ⟨kq, x16_2, rfl, HA, HJ2, BK374, HB⟩ := hcut
  cases kq with
  | zero => exact absurd HA.out (by simp [spec_StairsAbove.j0])
  | succ kj2 =>
   have H := HA.out
   clear HA
   simp only [spec_StairsAbove.j0] at H
   by_cases c12 : x16_2 = true
   ·subst c12
    rw [if_pos rfl] at H
    simp only [Option.some.injEq, Prod.mk.injEq] at H
    obtain ⟨rfl, rfl⟩ := H
    go_wp2
    go_ret2
    exact ⟨_, by first | rfl | (simp [errW_none, errW_some] <;> rfl) | (simp [*, errW_none, errW_some] <;> rfl), by first | exact Kd.R_nil _ _ _ _ _ | exact Kd.N_nil _ _ _ _ _ | exact Kd.V_nil _ _ _ _ _ | exact Kd.Q_nil _ _ _ _ _ | exact Kd.S_nil _ _ _ _ _, dn_ HB.out⟩
   ·replace c12 := Bool.eq_false_iff.mpr c12
    subst c12
    rw [if_neg (show ¬ (false = true) by decide)] at H
    have H' := Aside0.mk H
    clear H
    obtain ⟨hcz13_0, hcz13_1, hfz13_0, hfz13_1⟩ := cf2_ BK374
    go_wp2
    go_loopg [6, 20] kj2 (fun kq v6 v20 w' => ∃ (x6_2 : List Int) (x20_2 : Int), v20 = .int .i64 x20_2 ∧ Aside0 (spec_StairsAbove.l0 kq a1 x6_2 l0_0 (l0_0.length : Int) x20_2 = some (r1, r2)) ∧ Aside0 (kq ≤ kj2) ∧ Aside0 (Kd.R (Kd.int .i64) 3 w' w.heap.size (fun _ => True) v6 x6_2) ∧ Aside0 (w'.heap[gb374]? = some (.cells #[(.slice A0_0 l0_0.length c0_0), (.slice A0_1 l0_1.length c0_1)] 40 (0, 0))) ∧ Aside0 (Below w.heap.size w w'))
    case atStart => exact ⟨(([] : List Int)), (0), (by first | rfl | (simp; done) | (simp [*]; done)), H', ⟨Nat.le_refl _⟩, ⟨by first | exact Kd.R_nil _ _ _ _ _ | exact Kd.N_nil _ _ _ _ _ | exact Kd.V_nil _ _ _ _ _ | exact Kd.Q_nil _ _ _ _ _ | exact Kd.S_nil _ _ _ _ _⟩, ⟨up_ BK374.out⟩, ⟨dn_ HB.out⟩⟩
    case round =>
     clear H'
     (try clear c1); (try clear p2); (try clear c6); (try clear c8); (try clear c11); (try clear c12); (try clear hcz10_0); (try clear hcz10_1); (try clear hcz13_0); (try clear hcz13_1); (try clear hcz8_0); (try clear hcz8_1); (try clear hfz10_0); (try clear hfz10_1); (try clear hfz13_0); (try clear hfz13_1); (try clear hfz8_0); (try clear hfz8_1); try clear p2
     obtain ⟨x6_2, x20_2, rfl, HA, HK2, HO_6, BK374, HB⟩ := hrel
     cases gk with
     | zero => exact absurd HA.out (by simp [spec_StairsAbove.l0])
     | succ k2 =>
      have H := HA.out
      clear HA
      simp only [spec_StairsAbove.l0] at H
      by_cases c14 : x20_2 < (l0_0.length : Int)
      ·rw [if_pos c14] at H
       have c14b0 : decide (x20_2 < (l0_0.length : Int)) = true := decide_eq_true c14
       clear c14
       by_cases c15 : 0 ≤ x20_2
       ·rw [if_pos c15] at H
        have c15b0 : decide (0 ≤ x20_2) = true := decide_eq_true c15
        clear c15
        by_cases c16 : x20_2 < (l0_0.length : Int)
        ·rw [if_pos c16] at H
         have c16b0 : decide (x20_2 < (l0_0.length : Int)) = true := decide_eq_true c16
         clear c16
         by_cases c17 : (rd l0_0 x20_2) > a1
         ·rw [if_pos c17] at H
          have c17b0 : decide (a1 < (rd l0_0 x20_2)) = true := decide_eq_true c17
          clear c17
          by_cases c18 : x6_2.length < 17592186044416
          ·rw [if_pos c18] at H
           have LMc18 := Aside0.mk c18
           clear c18
           obtain ⟨y378, hy378⟩ : ∃ y_ : List Int, y_ = (x6_2 ++ [x20_2]) := ⟨_, rfl⟩
           replace H : (spec_StairsAbove.l0 k2 a1 y378 l0_0 (l0_0.length : Int) (wrap64 (x20_2 + 1))) = some (r1, r2) := by first | (rw [hy378]; with_reducible exact H) | (have H2_ := (Option.bind_some _ _).symm.trans H; rw [hy378]; with_reducible exact H2_) | (have H2_ := (Option.bind_some _ _).symm.trans H; with_reducible exact H2_) | with_reducible exact H | (rw [hy378]; exact H) | exact H
           have Ny378 := Aside0.mk hy378
           clear hy378
           have H' := Aside0.mk H
           clear H
           have p377 : 0 ≤ (x20_2 : Int) := of_decide_eq_true (by first | (with_reducible assumption) | assumption)
           have q377 : x20_2 < (l0_0.length : Int) := of_decide_eq_true (by first | (with_reducible assumption) | assumption)
           obtain ⟨ad377, e377, hx377_0⟩ := Kd.at_int HR0_0.out x20_2 p377 q377
           cases e377
           replace hx377_0 := (HB.out.cell (World.block_lt_of_cell? w _ hx377_0)).trans hx377_0
           replace p377 := eq_true p377
           replace q377 := eq_true q377
           go_wp2_with (first | ((with_reducible refine gate_builtin (b := .append) (xs := #[.tmp 28, .tmp 30]) rfl ?_); at_builtin; refine Kd.R_append (Kd.int .i64) (w0 := w) w.heap.size rfl (.tmp 28) (.tmp 30) 35 3 (.int .i64 0) 8 rfl Tryd.underlying35 info3 rfl (by decide) (by omega) u6 x6_2 x20_2 [.int .i64 x20_2] (fun _ => True) (fun _ => False) rfl rfl ?aP (fun _ hk => hk.elim) ?aF ?aO ?aB ?aS ?aL ?_; (case aP => exact rfl); (case aB => exact (dn_ HB.out)); (case aF => exact (fun _ _ => trivial)); (case aO => exact (up_ HO_6.out)); (case aS => exact (below_size (dn_ HB.out))); (case aL => have := LMc18.out; omega); intro v379 w19 ho hb hg hat; rw [← Ny378.out] at ho; have n0_ := Aside0.mk (blk_grown (g := gb374) (o := .cells #[.slice (some ad377) l0_0.length c0_0, .slice A0_1 l0_1.length c0_1] 40 (0, 0)) (up_ BK374.out) hg (Kd.R_ne HO_6.out BK374.out (by decide))); have n1_ := Aside0.mk (hb); have n2_ := Aside0.mk (ho); clear BK374; clear HB; clear HO_6; have BK374 := n0_; have HB := n1_; have HO380 := n2_; clear n0_ n1_ n2_; clear ho hb hg hat))
           go_roundg k2
           case measure => have := HJ2.out; have := HK2.out; omega
           case rel => exact ⟨(y378), (wrap64 (x20_2 + 1)), (by first | rfl | (simp; done) | (simp [*]; done)), H', ⟨by have := HJ2.out; have := HK2.out; omega⟩, ⟨up_ HO380.out⟩, ⟨up_ BK374.out⟩, ⟨dn_ HB.out⟩⟩
          ·rw [if_neg c18] at H
           exact absurd H (by simp)
         ·rw [if_neg c17] at H
          have c17b0 : decide (a1 < (rd l0_0 x20_2)) = false := decide_eq_false c17
          clear c17
          have H' := Aside0.mk H
          clear H
          have p377 : 0 ≤ (x20_2 : Int) := of_decide_eq_true (by first | (with_reducible assumption) | assumption)
          have q377 : x20_2 < (l0_0.length : Int) := of_decide_eq_true (by first | (with_reducible assumption) | assumption)
          obtain ⟨ad377, e377, hx377_0⟩ := Kd.at_int HR0_0.out x20_2 p377 q377
          cases e377
          replace hx377_0 := (HB.out.cell (World.block_lt_of_cell? w _ hx377_0)).trans hx377_0
          replace p377 := eq_true p377
          replace q377 := eq_true q377
          go_wp2
          go_roundg k2
          case measure => have := HJ2.out; have := HK2.out; omega
          case rel => exact ⟨(x6_2), (wrap64 (x20_2 + 1)), (by first | rfl | (simp; done) | (simp [*]; done)), H', ⟨by have := HJ2.out; have := HK2.out; omega⟩, ⟨up_ HO_6.out⟩, ⟨up_ BK374.out⟩, ⟨dn_ HB.out⟩⟩
        ·rw [if_neg c16] at H
         exact absurd H (by simp)
       ·rw [if_neg c15] at H
        exact absurd H (by simp)
      ·rw [if_neg c14] at H
       have c14b0 : decide (x20_2 < (l0_0.length : Int)) = false := decide_eq_false c14
       clear c14
       simp only [Option.some.injEq, Prod.mk.injEq] at H
       obtain ⟨rfl, rfl⟩ := H
       go_wp2
       go_ret2
       exact ⟨_, by first | rfl | (simp [errW_none, errW_some] <;> rfl) | (simp [*, errW_none, errW_some] <;> rfl), by refine lr_ ?_; exact HO_6.out, dn_ HB.out⟩
end Go.Proofs.YtbmdgmmegchmnaaDoor.B
namespace Go.Proofs.YtbmdgmmegchmnaaDoor.B
open Go.RowKit Go.Proofs.YtbmdgmmegchmnaaDoorW.PrintWords Go.Proofs.YtbmdgmmegchmnaaDoorW.PrintLast Go.Proofs.YtbmdgmmegchmnaaDoorW.PrintMore
attribute [local go_sem] max2_int min2_int max_two min_two max_three min_three max_four min_four
set_option linter.unusedVariables false
set_option linter.unusedSimpArgs false
def laws_wHas.l0 : Nat → Int → List Int → Int → Int → Option (Bool)
 | 0, _, _, _, _ => none
 | k + 1, x1, x7, x8, x9 => if x9 < x8 then (if 0 ≤ x9 then (if x9 < (x7.length : Int) then (if (rd x7 x9) = x1 then (some true) else (laws_wHas.l0 k x1 x7 x8 (wrap64 (x9 + 1)))) else (none)) else (none)) else (some false)
def laws_wHas.f (k : Nat) (l0 : List Int) (a1 : Int) : Option (Bool) := laws_wHas.l0 k a1 l0 (l0.length : Int) 0
set_option maxHeartbeats 8000000 in
set_option maxRecDepth 100000 in
theorem laws_wHas.calls (k : Nat) (A0 : Option Addr) (c0 : Nat) (l0 : List Int) (a1 : Int) (r : Bool) (w : World) (hr0 : Kd.C (Kd.int .i64) w A0 l0.length l0) (hc0 : l0.length ≤ c0) (h : laws_wHas.f k l0 a1 = some r) :
 Calls Tryd.prog 81 #[.slice A0 l0.length c0, .int .i64 a1] w fun e w' => e = .returned (.bool r) ∧ Drawn0 w w' := by
 have HR0 := Aside0.mk hr0
 have HC0 := Aside0.mk hc0
 clear hr0 hc0
 have H : (laws_wHas.l0 k a1 l0 (l0.length : Int) 0) = some r := h
 clear h
 have H' := Aside0.mk H
 clear H
 go_enter Tryd.func81, Tryd.ntmps81
 go_wp2
 go_loopg [9] k (fun kq v9 w' => ∃ (x9_1 : Int), v9 = .int .i64 x9_1 ∧ Aside0 (laws_wHas.l0 kq a1 l0 (l0.length : Int) x9_1 = some r) ∧ Aside0 (kq ≤ k) ∧ Drawn0 w w')
 case atStart => exact ⟨(0), (by first | rfl | (simp; done) | (simp [*]; done)), H', ⟨Nat.le_refl _⟩, by repeat (first | exact Drawn0.refl _ | apply Drawn0.step)⟩
 case round =>
  clear H'
  try clear p2
  obtain ⟨x9_1, rfl, HA, HK1, ⟨m1, rfl⟩⟩ := hrel
  cases gk with
  | zero => exact absurd HA.out (by simp [laws_wHas.l0])
  | succ k1 =>
   have H := HA.out
   clear HA
   simp only [laws_wHas.l0] at H
   by_cases c3 : x9_1 < (l0.length : Int)
   ·rw [if_pos c3] at H
    have c3b0 : decide (x9_1 < (l0.length : Int)) = true := decide_eq_true c3
    clear c3
    by_cases c4 : 0 ≤ x9_1
    ·rw [if_pos c4] at H
     have c4b0 : decide (0 ≤ x9_1) = true := decide_eq_true c4
     clear c4
     by_cases c5 : x9_1 < (l0.length : Int)
     ·rw [if_pos c5] at H
      have c5b0 : decide (x9_1 < (l0.length : Int)) = true := decide_eq_true c5
      clear c5
      by_cases c6 : (rd l0 x9_1) = a1
      ·rw [if_pos c6] at H
       have c6b0 : ((rd l0 x9_1) == a1) = true := beq_iff_eq.mpr c6
       have c6b1 : ((rd l0 x9_1) != a1) = false := bne_eq_false_iff_eq.mpr c6
       clear c6
       obtain rfl := Option.some.inj H
       have p381 : 0 ≤ (x9_1 : Int) := of_decide_eq_true (by first | (with_reducible assumption) | assumption)
       have q381 : x9_1 < (l0.length : Int) := of_decide_eq_true (by first | (with_reducible assumption) | assumption)
       obtain ⟨ad381, e381, hx381_0⟩ := Kd.at_int HR0.out x9_1 p381 q381
       cases e381
       replace p381 := eq_true p381
       replace q381 := eq_true q381
       go_wp2
       go_ret
       exact ⟨by first | rfl | (simp; done) | (simp [*]; done), by repeat (first | exact Drawn0.refl _ | apply Drawn0.step)⟩
      ·rw [if_neg c6] at H
       have c6b0 : ((rd l0 x9_1) == a1) = false := beq_eq_false_iff_ne.mpr c6
       have c6b1 : ((rd l0 x9_1) != a1) = true := bne_iff_ne.mpr c6
       have H' := Aside0.mk H
       clear H
       have p381 : 0 ≤ (x9_1 : Int) := of_decide_eq_true (by first | (with_reducible assumption) | assumption)
       have q381 : x9_1 < (l0.length : Int) := of_decide_eq_true (by first | (with_reducible assumption) | assumption)
       obtain ⟨ad381, e381, hx381_0⟩ := Kd.at_int HR0.out x9_1 p381 q381
       cases e381
       replace p381 := eq_true p381
       replace q381 := eq_true q381
       go_wp2
       go_roundg k1
       case measure => have := HK1.out; omega
       case rel => exact ⟨(wrap64 (x9_1 + 1)), (by first | rfl | (simp; done) | (simp [*]; done)), H', ⟨by have := HK1.out; omega⟩, by repeat (first | exact Drawn0.refl _ | apply Drawn0.step)⟩
     ·rw [if_neg c5] at H
      exact absurd H (by simp)
    ·rw [if_neg c4] at H
     exact absurd H (by simp)
   ·rw [if_neg c3] at H
    have c3b0 : decide (x9_1 < (l0.length : Int)) = false := decide_eq_false c3
    clear c3
    obtain rfl := Option.some.inj H
    go_wp2
    go_ret
    exact ⟨by first | rfl | (simp; done) | (simp [*]; done), by repeat (first | exact Drawn0.refl _ | apply Drawn0.step)⟩
end Go.Proofs.YtbmdgmmegchmnaaDoor.B
