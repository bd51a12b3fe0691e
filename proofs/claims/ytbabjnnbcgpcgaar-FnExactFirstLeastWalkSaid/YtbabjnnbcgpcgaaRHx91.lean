/- Contracts of the Go functions that the laws reach, each for every input and every memory: written by a program of this session over the kit print, with contracts of its own for what that leaves out. No further condition. -/
import Derived.Test.YtbabjnnbcgpcgaaRSV
import Derived.Test.YtbabjnnbcgpcgaaRHx0
import Derived.Test.YtbabjnnbcgpcgaaRHx40
namespace Go.Proofs.YtbabjnnbcgpcgaaR.H
open Go.RowKit Go.Proofs.YtbabjnnbcgpcgaaRW.PrintWords Go.Proofs.YtbabjnnbcgpcgaaRW.PrintLast Go.Proofs.YtbabjnnbcgpcgaaRW.PrintMore
attribute [local go_sem] max2_int min2_int max_two min_two max_three min_three max_four min_four   -- for this text's walks alone
set_option linter.unusedVariables false
set_option linter.unusedSimpArgs false


theorem blk_to {Wd W : World} {g : Nat} {o : Obj} (h : Wd.heap[g]? = some o) (e : ∀ o, Wd.heap[g]? = some o → W.heap[g]? = some o) : W.heap[g]? = some o := e o h
/-! ### impl.FirstLeastWalk: function 28: the session's own -/
theorem cell_spot {w : World} {ad : Addr} {v : Value} (h : w.cell? ad = some v) : ad.spot = none := by
  obtain ⟨b, o, s⟩ := ad
  cases s with
  | none => rfl
  | some s =>
    exfalso
    simp only [World.cell?] at h
    split at h <;> simp_all
theorem cell_size {w : World} {ad : Addr} {v : Value} (h : w.cell? ad = some v) : ad.block < w.heap.size := by
  by_cases hl : ad.block < w.heap.size
  · exact hl
  · exfalso
    have : w.heap[ad.block]? = none := Array.getElem?_eq_none (by omega)
    simp [World.cell?, this] at h
theorem shape_C {w : World} {A : Option Addr} {xs : List Int} (h : Kd.C (Kd.int .i64) w A xs.length xs) (hne : xs ≠ []) :
    ∃ b off, A = some ⟨b, off, none⟩ ∧ b < w.heap.size ∧ ∀ j, j < xs.length → w.cell? ⟨b, off + j, none⟩ = some (.int .i64 (xs[j]?.getD 0)) := by
  have hp : 0 < xs.length := List.length_pos_iff.mpr hne
  obtain ⟨ad, rfl, h0⟩ := Kd.at_int h 0 (Int.le_refl _) (by omega)
  have h0' : w.cell? ad = some (.int .i64 (rd xs 0)) := h0
  have hs := cell_spot h0'
  have hb := cell_size h0'
  obtain ⟨b, off, s⟩ := ad
  simp only at hs hb
  subst hs
  refine ⟨b, off, rfl, hb, fun j hj => ?_⟩
  obtain ⟨ad', e, hj'⟩ := Kd.at_int h (j : Int) (by omega) (by omega)
  cases e
  have e1 : Addr.add ⟨b, off, none⟩ ((j : Int).toNat) = ⟨b, off + j, none⟩ := by
    simp only [Int.toNat_natCast, Addr.add]
    split
    · next h => subst h; rfl
    · rfl
  rw [e1] at hj'
  rw [hj']
  simp [rd, List.getD]
theorem values_box {w W : World} (h : Below w.heap.size w W) (A : Option Addr) (xs : List Int) (c : Nat) :
    Below w.heap.size w (W.alloc (.cells #[.slice A xs.length c] 22)) ∧ W.heap.size < (W.alloc (.cells #[.slice A xs.length c] 22)).heap.size ∧ (W.alloc (.cells #[.slice A xs.length c] 22)).cell? ⟨W.heap.size, 0, none⟩ = some (.slice A xs.length c) :=
  ⟨h.alloc h.size _, by simp, (Boxed.new W 22 (.slice A xs.length c)).cell⟩
theorem sorted_R {w : World} {base : Nat} {v : Value} {zs : List Int} (h : w.ownsRow base 3 1 v zs.length ((zs.mergeSort (fun x y => decide (x ≤ y))).map (Value.int .i64))) :
    Kd.R (Kd.int .i64) 3 w base (fun _ => True) v (zs.mergeSort (fun x y => decide (x ≤ y))) :=
  Kd.R_of_own (enc := Value.int .i64) (by rw [List.length_mergeSort]; exact h) (fun _ _ => trivial)
def impl_FirstLeastWalk.f (k : Nat) (l0_0 : List Int) (l0_1 : List Int) (l1 : List Int) : Option (List Int × Bool) := (impl_floorsOf.f k l0_0 l0_1 l1).bind fun bt => (if bt.2 = true then (if l1 ≠ [] ∧ l1.length ≤ 1048576 then some (l1.mergeSort (fun x y => decide (x ≤ y)), true) else none) else (some (([] : List Int), false)))
theorem impl_FirstLeastWalk.mono : ∀ a0 a1 a2 k, LeO (impl_FirstLeastWalk.f k a0 a1 a2) (impl_FirstLeastWalk.f (k + 1) a0 a1 a2) := by
  intro a0 a1 a2 k
  unfold impl_FirstLeastWalk.f
  exact LeO.bind (impl_floorsOf.mono _ _ _ _) (fun _ => LeO.refl _)
set_option maxHeartbeats 8000000 in
set_option maxRecDepth 100000 in
theorem impl_FirstLeastWalk.calls (k : Nat) (A0_0 : Option Addr) (c0_0 : Nat) (l0_0 : List Int) (A0_1 : Option Addr) (c0_1 : Nat) (l0_1 : List Int) (A1 : Option Addr) (c1 : Nat) (l1 : List Int) (r1 : List Int) (r2 : Bool) (w : World) (hr0_0 : Kd.C (Kd.int .i64) w A0_0 l0_0.length l0_0) (hc0_0 : l0_0.length ≤ c0_0) (hr0_1 : Kd.C (Kd.int .i64) w A0_1 l0_1.length l0_1) (hc0_1 : l0_1.length ≤ c0_1) (hr1 : Kd.C (Kd.int .i64) w A1 l1.length l1) (hc1 : l1.length ≤ c1) (h : impl_FirstLeastWalk.f k l0_0 l0_1 l1 = some (r1, r2)) :
    Calls Try.prog 28 #[.agg #[.slice A0_0 l0_0.length c0_0, .slice A0_1 l0_1.length c0_1], .slice A1 l1.length c1] w fun e w' => ∃ v0_ : Value, e = .returned (.tuple #[v0_, .bool r2]) ∧ Kd.R (Kd.int .i64) 3 w' w.heap.size (fun _ => True) v0_ r1 ∧ Below w.heap.size w w' := by
  have hu28 := Try.underlying28
  have HR0_0 := Aside0.mk hr0_0
  have HC0_0 := Aside0.mk hc0_0
  clear hr0_0 hc0_0
  have HR0_1 := Aside0.mk hr0_1
  have HC0_1 := Aside0.mk hc0_1
  clear hr0_1 hc0_1
  have HR1 := Aside0.mk hr1
  have HC1 := Aside0.mk hc1
  clear hr1 hc1
  have HB := Aside0.mk (Below.refl w.heap.size w)
  have H : ((impl_floorsOf.f k l0_0 l0_1 l1).bind fun bt => (if bt.2 = true then (if l1 ≠ [] ∧ l1.length ≤ 1048576 then some (l1.mergeSort (fun x y => decide (x ≤ y)), true) else none) else (some (([] : List Int), false)))) = some (r1, r2) := h
  clear h
  replace H := Option.bind_eq_some_iff.mp H
  obtain ⟨⟨t407, t410⟩, A30, H⟩ := H
  replace H : (if t410 = true then (if l1 ≠ [] ∧ l1.length ≤ 1048576 then some (l1.mergeSort (fun x y => decide (x ≤ y)), true) else none) else (some (([] : List Int), false))) = some (r1, r2) := H
  have A3 := Aside0.mk A30
  clear A30
  by_cases c4 : t410 = true
  · subst c4
    rw [if_pos rfl] at H
    by_cases c5 : l1 ≠ [] ∧ l1.length ≤ 1048576
    · rw [if_pos c5] at H
      simp only [Option.some.injEq, Prod.mk.injEq] at H
      obtain ⟨rfl, rfl⟩ := H
      have HN := Aside0.mk c5
      obtain ⟨b1, off1, rfl, hbl, hz1⟩ := shape_C HR1.out c5.1
      clear c5
      go_enter Try.func28, Try.ntmps28
      go_wp2_with (first | ((with_reducible refine gate_dst (N := 2) rfl ?_); refine box_event ?hg (N := 2) ?hd (cs := #[.slice A0_0 l0_0.length c0_0, .slice A0_1 l0_1.length c0_1]) (t := 28) ?hr ?_; (case hd => rfl); (case hg => rfl); (case hr => first | (go_simp; done) | (go_simp; rfl)); intro gb406 hg w7 hbox hb; have n0_ := Aside0.mk (below_step (by repeat (first | (with_reducible first | exact HB.out | apply below_alloc | apply pw_below_drewN | apply below_drew1) | exact HB.out)) hb); have n1_ := Aside0.mk (hbox); have n2_ := Aside0.mk ((by rw [hg]; exact (below_size (by repeat (first | (with_reducible first | exact HB.out | apply below_alloc | apply pw_below_drewN | apply below_drew1) | exact HB.out))) : w.heap.size ≤ gb406)); have n3_ := Aside0.mk ((by rw [hg]; exact (below_size (by repeat (first | (with_reducible first | exact HB.out | apply below_alloc | apply pw_below_drewN | apply below_drew1) | exact HB.out))) : w.heap.size ≤ gb406)); clear HB; have HB := n0_; have BK406 := n1_; have GW406 := n2_; have GE406 := n3_; clear n0_ n1_ n2_ n3_; clear hb hbox hg; have hcz8_0 : w7.cell? ⟨gb406, 0, none⟩ = some (.slice A0_0 l0_0.length c0_0) := (blk_cell BK406.out 0).trans rfl; have hcz8_1 : w7.cell? ⟨gb406, 1, none⟩ = some (.slice A0_1 l0_1.length c0_1) := (blk_cell BK406.out 1).trans rfl; have hfz8_0 := blk_frozen BK406.out 0; have hfz8_1 := blk_frozen BK406.out 1) | ((with_reducible refine gate_callee (f := 39) rfl ?_); refine goesL_ (some 11) rfl rfl Try.func39 (by kernel_rfl) rfl #[.agg #[.slice A0_0 l0_0.length c0_0, .slice A0_1 l0_1.length c0_1], .slice (some ⟨b1, off1, none⟩) l1.length c1] rfl (by (try simp only [List.map_toArray, List.map_cons, List.map_nil]); first | done | rfl | (simp only [List.length_drop, List.length_take]; rfl)) ?_; (with_reducible refine (impl_floorsOf.calls k _ _ l0_0 _ _ l0_1 _ _ l1 t407 true _ ?side1 ?side2 ?side3 ?side4 ?side5 ?side6 A3.out).mono ?_); (case side1 => repeat (first | exact (Kd.C_below HR0_0.out HB.out) | (with_reducible refine Kd.C_alloc ?_ _) | (with_reducible refine Kd.C_drewN ?_ _) | (with_reducible refine Kd.C_drew ?_))); (case side2 => exact HC0_0.out); (case side3 => repeat (first | exact (Kd.C_below HR0_1.out HB.out) | (with_reducible refine Kd.C_alloc ?_ _) | (with_reducible refine Kd.C_drewN ?_ _) | (with_reducible refine Kd.C_drew ?_))); (case side4 => exact HC0_1.out); (case side5 => repeat (first | exact (Kd.C_below HR1.out HB.out) | (with_reducible refine Kd.C_alloc ?_ _) | (with_reducible refine Kd.C_drewN ?_ _) | (with_reducible refine Kd.C_drew ?_))); (case side6 => exact HC1.out); rintro e w9 ⟨v408, rfl, ho0, hb⟩; refine ⟨_, rfl, ?_⟩; have n0_ := Aside0.mk (Kd.R_lower ho0 (below_size (by repeat (first | (with_reducible first | exact HB.out | apply below_alloc | apply pw_below_drewN | apply below_drew1 | refine below_set ?_ GE406.out) | exact HB.out)))); have n1_ := Aside0.mk (blk_below (g := gb406) (o := .cells #[.slice A0_0 l0_0.length c0_0, .slice A0_1 l0_1.length c0_1] 28 (0, 0)) (by (with_reducible repeat (first | refine blk_drewN ?_ _ | refine blk_drew ?_ | refine blk_alloc ?_ _)); exact BK406.out) hb); have n2_ := Aside0.mk (below_step (by repeat (first | (with_reducible first | exact HB.out | apply below_alloc | apply pw_below_drewN | apply below_drew1 | refine below_set ?_ GE406.out) | exact HB.out)) hb); clear BK406; clear HB; have HO409 := n0_; have BK406 := n1_; have HB := n2_; clear n0_ n1_ n2_; (try clear hb); (try clear hb2); (try clear hk); (try clear hi); (try clear ho0)) | ((with_reducible refine gate_callee (f := 45) rfl ?_); refine goesL_ (some 17) rfl rfl Try.func45 (by kernel_rfl) rfl #[.slice (some ⟨b1, off1, none⟩) l1.length c1] rfl (by (try simp only [List.map_toArray, List.map_cons, List.map_nil]); first | done | rfl | (simp only [List.length_drop, List.length_take]; rfl)) ?_; (with_reducible refine (Go.Proofs.YtbabjnnbcgpcgaaR.SV.values_calls _ _ _ _).mono ?_); rintro e w11 ⟨rfl, rfl⟩; refine ⟨_, rfl, ?_⟩; have VB := Aside0.mk (values_box HB.out (some ⟨b1, off1, none⟩) l1 c1); clear HB; obtain ⟨w12, hw12⟩ : ∃ w12, World.alloc w9 (.cells #[.slice (some ⟨b1, off1, none⟩) l1.length c1] 22) = w12 := ⟨_, rfl⟩; obtain ⟨Bs, hBs⟩ : ∃ Bs, w9.heap.size = Bs := ⟨_, rfl⟩; rw [hw12, hBs] at VB; rw [hw12, hBs]; clear hw12 hBs) | ((with_reducible refine gate_callee (f := 44) rfl ?_); refine goesL_ (some 18) rfl rfl Try.func44 (by kernel_rfl) rfl #[.func (.func 59) #[] #[.pointer (some ⟨Bs, 0, none⟩)]] rfl (by (try simp only [List.map_toArray, List.map_cons, List.map_nil]); first | done | rfl | (simp only [List.length_drop, List.length_take]; rfl)) ?_; (with_reducible refine (Go.Proofs.YtbabjnnbcgpcgaaR.SV.sorted_calls Bs b1 off1 c1 l1 HN.out.1 HN.out.2 _ (Nat.lt_of_lt_of_le hbl (below_size VB.out.1)) VB.out.2.1 VB.out.2.2 (fun j hj => (VB.out.1.cell (p := ⟨b1, off1 + j, none⟩) hbl).trans (hz1 j hj))).mono ?_); rintro e w13 ⟨v14, rfl, ho14, hb14⟩; refine ⟨_, rfl, ?_⟩; have HO14 := Aside0.mk (Kd.R_lower (sorted_R ho14) (below_size VB.out.1)); have HB := Aside0.mk (below_step VB.out.1 hb14); clear VB ho14 hb14))
      go_ret2
      exact ⟨_, rfl, HO14.out, HB.out⟩
    · rw [if_neg c5] at H
      cases H
  · replace c4 := Bool.eq_false_iff.mpr c4
    subst c4
    rw [if_neg (show ¬ (false = true) by decide)] at H
    simp only [Option.some.injEq, Prod.mk.injEq] at H
    obtain ⟨rfl, rfl⟩ := H
    go_enter Try.func28, Try.ntmps28
    go_wp2_with (first | ((with_reducible refine gate_dst (N := 2) rfl ?_); refine box_event ?hg (N := 2) ?hd (cs := #[.slice A0_0 l0_0.length c0_0, .slice A0_1 l0_1.length c0_1]) (t := 28) ?hr ?_; (case hd => rfl); (case hg => rfl); (case hr => first | (go_simp; done) | (go_simp; rfl)); intro gb406 hg w7 hbox hb; have n0_ := Aside0.mk (below_step (by repeat (first | (with_reducible first | exact HB.out | apply below_alloc | apply pw_below_drewN | apply below_drew1) | exact HB.out)) hb); have n1_ := Aside0.mk (hbox); have n2_ := Aside0.mk ((by rw [hg]; exact (below_size (by repeat (first | (with_reducible first | exact HB.out | apply below_alloc | apply pw_below_drewN | apply below_drew1) | exact HB.out))) : w.heap.size ≤ gb406)); have n3_ := Aside0.mk ((by rw [hg]; exact (below_size (by repeat (first | (with_reducible first | exact HB.out | apply below_alloc | apply pw_below_drewN | apply below_drew1) | exact HB.out))) : w.heap.size ≤ gb406)); clear HB; have HB := n0_; have BK406 := n1_; have GW406 := n2_; have GE406 := n3_; clear n0_ n1_ n2_ n3_; clear hb hbox hg; have hcz8_0 : w7.cell? ⟨gb406, 0, none⟩ = some (.slice A0_0 l0_0.length c0_0) := (blk_cell BK406.out 0).trans rfl; have hcz8_1 : w7.cell? ⟨gb406, 1, none⟩ = some (.slice A0_1 l0_1.length c0_1) := (blk_cell BK406.out 1).trans rfl; have hfz8_0 := blk_frozen BK406.out 0; have hfz8_1 := blk_frozen BK406.out 1) | ((with_reducible refine gate_callee (f := 39) rfl ?_); refine goesL_ (some 11) rfl rfl Try.func39 (by kernel_rfl) rfl #[.agg #[.slice A0_0 l0_0.length c0_0, .slice A0_1 l0_1.length c0_1], .slice A1 l1.length c1] rfl (by (try simp only [List.map_toArray, List.map_cons, List.map_nil]); first | done | rfl | (simp only [List.length_drop, List.length_take]; rfl)) ?_; (with_reducible refine (impl_floorsOf.calls k _ _ l0_0 _ _ l0_1 _ _ l1 t407 false _ ?side1 ?side2 ?side3 ?side4 ?side5 ?side6 A3.out).mono ?_); (case side1 => repeat (first | exact (Kd.C_below HR0_0.out HB.out) | (with_reducible refine Kd.C_alloc ?_ _) | (with_reducible refine Kd.C_drewN ?_ _) | (with_reducible refine Kd.C_drew ?_))); (case side2 => exact HC0_0.out); (case side3 => repeat (first | exact (Kd.C_below HR0_1.out HB.out) | (with_reducible refine Kd.C_alloc ?_ _) | (with_reducible refine Kd.C_drewN ?_ _) | (with_reducible refine Kd.C_drew ?_))); (case side4 => exact HC0_1.out); (case side5 => repeat (first | exact (Kd.C_below HR1.out HB.out) | (with_reducible refine Kd.C_alloc ?_ _) | (with_reducible refine Kd.C_drewN ?_ _) | (with_reducible refine Kd.C_drew ?_))); (case side6 => exact HC1.out); rintro e w9 ⟨v408, rfl, ho0, hb⟩; refine ⟨_, rfl, ?_⟩; have n0_ := Aside0.mk (Kd.R_lower ho0 (below_size (by repeat (first | (with_reducible first | exact HB.out | apply below_alloc | apply pw_below_drewN | apply below_drew1 | refine below_set ?_ GE406.out) | exact HB.out)))); have n1_ := Aside0.mk (blk_below (g := gb406) (o := .cells #[.slice A0_0 l0_0.length c0_0, .slice A0_1 l0_1.length c0_1] 28 (0, 0)) (by (with_reducible repeat (first | refine blk_drewN ?_ _ | refine blk_drew ?_ | refine blk_alloc ?_ _)); exact BK406.out) hb); have n2_ := Aside0.mk (below_step (by repeat (first | (with_reducible first | exact HB.out | apply below_alloc | apply pw_below_drewN | apply below_drew1 | refine below_set ?_ GE406.out) | exact HB.out)) hb); clear BK406; clear HB; have HO409 := n0_; have BK406 := n1_; have HB := n2_; clear n0_ n1_ n2_; (try clear hb); (try clear hb2); (try clear hk); (try clear hi); (try clear ho0)))
    go_ret2
    exact ⟨_, rfl, Kd.R_nil _ _ _ _ _, by repeat (first | (with_reducible first | exact HB.out | apply below_alloc | apply pw_below_drewN | apply below_drew1) | exact HB.out)⟩

end Go.Proofs.YtbabjnnbcgpcgaaR.H
