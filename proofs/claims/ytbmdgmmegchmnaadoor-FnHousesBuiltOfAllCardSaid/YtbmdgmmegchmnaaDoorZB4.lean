/- Contracts of the Go functions that the laws reach, each for every input and every memory: written by a program of this session over the kit print, with contracts of its own for what that leaves out. No further condition. -/
import Derived.Test.YtbmdgmmegchmnaaDoorZB3
namespace Go.Proofs.YtbmdgmmegchmnaaDoor.B
open Go.RowKit Go.Proofs.YtbmdgmmegchmnaaDoorW.PrintWords Go.Proofs.YtbmdgmmegchmnaaDoorW.PrintLast Go.Proofs.YtbmdgmmegchmnaaDoorW.PrintMore
attribute [local go_sem] max2_int min2_int max_two min_two max_three min_three max_four min_four
set_option linter.unusedVariables false
set_option linter.unusedSimpArgs false
def spec_ldText.l0 : Nat → ByteArray → List Int → Int → Int → List Int → List Int → Option (ByteArray)
 | 0, _, _, _, _, _, _ => none
 | k + 1, x3, x12, x13, x14, x115000, x115001 => if x14 < x13 then (if 0 ≤ x14 then (if x14 < (x12.length : Int) then ((spec_l1Num.f k (rd x12 x14)).bind fun t118 => (if 1 + t118.size ≤ 9223372036854775807 then (if ((⟨#[94]⟩ : ByteArray) ++ t118).size + 1 ≤ 9223372036854775807 then (if 0 ≤ (wrap64 (x14 + 1)) then (if (wrap64 (x14 + 1)) < (x115001.length : Int) then ((spec_l1Num.f k (rd x115001 (wrap64 (x14 + 1)))).bind fun t120 => (if (((⟨#[94]⟩ : ByteArray) ++ t118) ++ (⟨#[58]⟩ : ByteArray)).size + t120.size ≤ 9223372036854775807 then (if x3.size + ((((⟨#[94]⟩ : ByteArray) ++ t118) ++ (⟨#[58]⟩ : ByteArray)) ++ t120).size ≤ 9223372036854775807 then (spec_ldText.l0 k (x3 ++ ((((⟨#[94]⟩ : ByteArray) ++ t118) ++ (⟨#[58]⟩ : ByteArray)) ++ t120)) x12 x13 (wrap64 (x14 + 1)) x115000 x115001) else (none)) else (none))) else (none)) else (none)) else (none)) else (none))) else (none)) else (none)) else (some x3)
def spec_ldText.f (k : Nat) (l0_0 : List Int) (l0_1 : List Int) : Option (ByteArray) := if 0 < (l0_1.length : Int) then ((spec_l1Num.f k (rd l0_1 0)).bind fun t116 => (spec_ldText.l0 k t116 l0_0 (l0_0.length : Int) 0 l0_0 l0_1)) else (none)
def spec_ldText.T5 : Bool × List (List Nat × List Nat) := (true, [([], []), ([], []), ([1], [1]), ([2], [2]), ([3], [3]), ([], []), ([5], [5]), ([], []), ([7], [7]), ([6, 8], [6, 8]), ([9], [9]), ([10, 2], [10]), ([4, 11], [4, 11]), ([0, 12], [0, 12]), ([13, 11, 0, 1, 2, 3, 4, 5, 6, 7, 8, 9, 10, 11, 12, 13], [0, 13])])
def spec_ldText.B5 : List Nat := [0, 0, 2, 6, 14, 0, 32, 0, 128, 480, 992, 2022, 4094, 8191, 16383]
theorem spec_ldText.tab5 : rtab .any (opsOf Tryd.f113 5) = spec_ldText.T5 := by kernel_rfl
theorem spec_ldText.bits5 : waitsOk spec_ldText.T5.2 spec_ldText.B5 = true := by kernel_rfl
set_option maxHeartbeats 8000000 in
set_option maxRecDepth 100000 in
theorem spec_ldText.calls (k : Nat) (A0_0 : Option Addr) (c0_0 : Nat) (l0_0 : List Int) (A0_1 : Option Addr) (c0_1 : Nat) (l0_1 : List Int) (r : ByteArray) (w : World) (hr0_0 : Kd.C (Kd.int .i64) w A0_0 l0_0.length l0_0) (hc0_0 : l0_0.length ≤ c0_0) (hr0_1 : Kd.C (Kd.int .i64) w A0_1 l0_1.length l0_1) (hc0_1 : l0_1.length ≤ c0_1) (h : spec_ldText.f k l0_0 l0_1 = some r) :
 Calls Tryd.prog 113 #[.agg #[.slice A0_0 l0_0.length c0_0, .slice A0_1 l0_1.length c0_1]] w fun e w' => e = .returned (.string r) ∧ Below w.heap.size w w' := by
 have hu40 := Tryd.underlying40
 have HR0_0 := Aside0.mk hr0_0
 have HC0_0 := Aside0.mk hc0_0
 clear hr0_0 hc0_0
 have HR0_1 := Aside0.mk hr0_1
 have HC0_1 := Aside0.mk hc0_1
 clear hr0_1 hc0_1
 have HB := Aside0.mk (Below.refl w.heap.size w)
 have H : (if 0 < (l0_1.length : Int) then ((spec_l1Num.f k (rd l0_1 0)).bind fun t116 => (spec_ldText.l0 k t116 l0_0 (l0_0.length : Int) 0 l0_0 l0_1)) else (none)) = some r := h
 clear h
 by_cases c2 : 0 < (l0_1.length : Int)
 ·rw [if_pos c2] at H
  have c2b0 : decide (0 < (l0_1.length : Int)) = true := decide_eq_true c2
  have c2b1 : decide (0 < l0_1.length) = true := decide_eq_true (by omega)
  clear c2
  replace H := Option.bind_eq_some_iff.mp H
  obtain ⟨t116, A30, H⟩ := H
  try dsimp only at H
  have A3 := Aside0.mk A30
  clear A30
  have H' := Aside0.mk H
  clear H
  go_enter Tryd.func113, Tryd.ntmps113
  go_wp2_with (first | ((with_reducible refine gate_dst (N := 1) rfl ?_); refine bx_ 1 #[.slice A0_0 l0_0.length c0_0, .slice A0_1 l0_1.length c0_1] 40 ?_; intro gb114 hg w4 hbox hb; have BK114 := Aside0.mk (hbox); have GW114 := gw_ HB hg; have GE114 := GW114; replace HB := bs_ HB hb; clear hb hbox hg; obtain ⟨hcz5_0, hcz5_1, hfz5_0, hfz5_1⟩ := cf2_ BK114; have p115 : 0 ≤ (0 : Int) := (by omega); have q115 : 0 < (l0_1.length : Int) := of_decide_eq_true (by first | (with_reducible assumption) | assumption); obtain ⟨ad115, e115, hx115_0⟩ := Kd.at_int HR0_1.out 0 p115 q115; cases e115; have qi115 : (0 < l0_1.length) = True := eq_true (by omega); (try rw [show ((0 : Int)).toNat = 0 from rfl] at hx115_0); (try rw [Addr.add_zero'] at hx115_0); replace hx115_0 := (HB.out.cell (World.block_lt_of_cell? w _ hx115_0)).trans hx115_0; replace p115 := eq_true p115; replace q115 := eq_true q115) | ((with_reducible refine gate_callee (f := 151) rfl ?_); refine gL_ (some 10) Tryd.func151 #[.int .i64 (rd l0_1 0)] ?_; (with_reducible refine (spec_l1Num.calls k (rd l0_1 0) t116 _ A3.out).mono ?_); rintro e w6 ⟨rfl, hb⟩; refine ⟨_, rfl, ?_⟩; replace BK114 := kb_ BK114 hb; replace HB := bs_ HB hb; (try clear hb); obtain ⟨hcz7_0, hcz7_1, hfz7_0, hfz7_1⟩ := cf2_ BK114))
  go_loopg [3, 14] k (fun kq v3 v14 w' => ∃ (x3_1 : ByteArray) (x14_1 : Int), v3 = .string x3_1 ∧ v14 = .int .i64 x14_1 ∧ Aside0 (spec_ldText.l0 kq x3_1 l0_0 (l0_0.length : Int) x14_1 l0_0 l0_1 = some r) ∧ Aside0 (kq ≤ k) ∧ Aside0 (w'.heap[gb114]? = some (.cells #[(.slice A0_0 l0_0.length c0_0), (.slice (some ad115) l0_1.length c0_1)] 40 (0, 0))) ∧ Aside0 (Below w.heap.size w w'))
  case atStart => exact ⟨(t116), (0), (by first | rfl | (simp; done) | (simp [*]; done)), (by first | rfl | (simp; done) | (simp [*]; done)), H', ⟨Nat.le_refl _⟩, ⟨up_ BK114.out⟩, ⟨dn_ HB.out⟩⟩
  case round =>
   clear H'
   (try clear c1); (try clear p1); (try clear q1); (try clear hx1); (try clear qi1); (try clear c2); (try clear c2b0); (try clear c2b1); (try clear p2); (try clear hcz5_0); (try clear hcz5_1); (try clear hcz7_0); (try clear hcz7_1); (try clear hfz5_0); (try clear hfz5_1); (try clear hfz7_0); (try clear hfz7_1); (try clear hx115_0); (try clear p115); try clear q115
   obtain ⟨x3_1, x14_1, rfl, rfl, HA, HK1, BK114, HB⟩ := hrel
   cases gk with
   | zero => exact absurd HA.out (by simp [spec_ldText.l0])
   | succ k1 =>
    have H := HA.out
    clear HA
    simp only [spec_ldText.l0] at H
    by_cases c8 : x14_1 < (l0_0.length : Int)
    ·rw [if_pos c8] at H
     have c8b0 : decide (x14_1 < (l0_0.length : Int)) = true := decide_eq_true c8
     clear c8
     by_cases c9 : 0 ≤ x14_1
     ·rw [if_pos c9] at H
      have c9b0 : decide (0 ≤ x14_1) = true := decide_eq_true c9
      clear c9
      by_cases c10 : x14_1 < (l0_0.length : Int)
      ·rw [if_pos c10] at H
       have c10b0 : decide (x14_1 < (l0_0.length : Int)) = true := decide_eq_true c10
       clear c10
       replace H := Option.bind_eq_some_iff.mp H
       obtain ⟨t118, A110, H⟩ := H
       try dsimp only at H
       have A11 := Aside0.mk A110
       clear A110
       by_cases c12 : 1 + t118.size ≤ 9223372036854775807
       ·rw [if_pos c12] at H
        have c12b0 := eq_true c12
        have c12b1 : decide (1 + t118.size ≤ 9223372036854775807) = true := decide_eq_true c12
        try have c12b2 : (9223372036854775807 < 1 + t118.size) = False := eq_false (Nat.not_lt.2 c12)
        by_cases c13 : ((⟨#[94]⟩ : ByteArray) ++ t118).size + 1 ≤ 9223372036854775807
        ·rw [if_pos c13] at H
         have c13b0 := eq_true c13
         have c13b1 : decide (((⟨#[94]⟩ : ByteArray) ++ t118).size + 1 ≤ 9223372036854775807) = true := decide_eq_true c13
         try have c13b2 : (9223372036854775807 < ((⟨#[94]⟩ : ByteArray) ++ t118).size + 1) = False := eq_false (Nat.not_lt.2 c13)
         try have c13b2z : (9223372036854775807 < (1 + t118.size) + 1) = False := by have h_ := c13b2; simp only [ByteArray.size_append] at h_; exact h_
         obtain ⟨ji14, hji14⟩ : ∃ j_ : Int, (wrap64 (x14_1 + 1)) = j_ := ⟨_, rfl⟩
         replace H : (if 0 ≤ (ji14) then (if (ji14) < (l0_1.length : Int) then ((spec_l1Num.f k1 (rd l0_1 (ji14))).bind fun t120 => (if (((⟨#[94]⟩ : ByteArray) ++ t118) ++ (⟨#[58]⟩ : ByteArray)).size + t120.size ≤ 9223372036854775807 then (if x3_1.size + ((((⟨#[94]⟩ : ByteArray) ++ t118) ++ (⟨#[58]⟩ : ByteArray)) ++ t120).size ≤ 9223372036854775807 then (spec_ldText.l0 k1 (x3_1 ++ ((((⟨#[94]⟩ : ByteArray) ++ t118) ++ (⟨#[58]⟩ : ByteArray)) ++ t120)) l0_0 (l0_0.length : Int) ji14 l0_0 l0_1) else (none)) else (none))) else (none)) else (none)) = some r := by first | (rw [hji14] at H; exact H) | (simp only [hji14] at H ⊢; exact H)
         (try rw [hji14] at A11)
         have hji14w : (IntKind.i64.wrap (x14_1 + 1)) = ji14 := (i64_w _).trans hji14
         by_cases c15 : 0 ≤ (ji14)
         ·rw [if_pos c15] at H
          have c15b0 : decide (0 ≤ (ji14)) = true := decide_eq_true c15
          clear c15
          by_cases c16 : (ji14) < (l0_1.length : Int)
          ·rw [if_pos c16] at H
           have c16b0 : decide ((ji14) < (l0_1.length : Int)) = true := decide_eq_true c16
           clear c16
           replace H := Option.bind_eq_some_iff.mp H
           obtain ⟨t120, A170, H⟩ := H
           try dsimp only at H
           have A17 := Aside0.mk A170
           clear A170
           by_cases c18 : (((⟨#[94]⟩ : ByteArray) ++ t118) ++ (⟨#[58]⟩ : ByteArray)).size + t120.size ≤ 9223372036854775807
           ·rw [if_pos c18] at H
            have c18b0 := eq_true c18
            have c18b1 : decide ((((⟨#[94]⟩ : ByteArray) ++ t118) ++ (⟨#[58]⟩ : ByteArray)).size + t120.size ≤ 9223372036854775807) = true := decide_eq_true c18
            try have c18b2 : (9223372036854775807 < (((⟨#[94]⟩ : ByteArray) ++ t118) ++ (⟨#[58]⟩ : ByteArray)).size + t120.size) = False := eq_false (Nat.not_lt.2 c18)
            try have c18b2z : (9223372036854775807 < (1 + t118.size + 1) + t120.size) = False := by have h_ := c18b2; simp only [ByteArray.size_append] at h_; exact h_
            by_cases c19 : x3_1.size + ((((⟨#[94]⟩ : ByteArray) ++ t118) ++ (⟨#[58]⟩ : ByteArray)) ++ t120).size ≤ 9223372036854775807
            ·rw [if_pos c19] at H
             have c19b0 := eq_true c19
             have c19b1 : decide (x3_1.size + ((((⟨#[94]⟩ : ByteArray) ++ t118) ++ (⟨#[58]⟩ : ByteArray)) ++ t120).size ≤ 9223372036854775807) = true := decide_eq_true c19
             try have c19b2 : (9223372036854775807 < x3_1.size + ((((⟨#[94]⟩ : ByteArray) ++ t118) ++ (⟨#[58]⟩ : ByteArray)) ++ t120).size) = False := eq_false (Nat.not_lt.2 c19)
             try have c19b2z : (9223372036854775807 < x3_1.size + (1 + t118.size + 1 + t120.size)) = False := by have h_ := c19b2; simp only [ByteArray.size_append] at h_; exact h_
             have H' := Aside0.mk H
             clear H
             have p117 : 0 ≤ (x14_1 : Int) := of_decide_eq_true (by first | (with_reducible assumption) | assumption)
             have q117 : x14_1 < (l0_0.length : Int) := of_decide_eq_true (by first | (with_reducible assumption) | assumption)
             obtain ⟨ad117, e117, hx117_0⟩ := Kd.at_int HR0_0.out x14_1 p117 q117
             cases e117
             replace hx117_0 := (HB.out.cell (World.block_lt_of_cell? w _ hx117_0)).trans hx117_0
             replace p117 := eq_true p117
             replace q117 := eq_true q117
             try go_wp2
             replace BK114 := Aside0.mk (blk_drew BK114.out)
             replace HB := Aside0.mk (below_drew1 HB.out)
             have p119 : 0 ≤ ((ji14) : Int) := of_decide_eq_true (by first | (with_reducible assumption) | assumption)
             have q119 : (ji14) < (l0_1.length : Int) := of_decide_eq_true (by first | (with_reducible assumption) | assumption)
             obtain ⟨ad119, e119, hx119_0⟩ := Kd.at_int HR0_1.out (ji14) p119 q119
             have hw119_0 := hx119_0
             obtain rfl : ad115 = ad119 := (by injection e119)
             replace hx119_0 := (HB.out.cell (World.block_lt_of_cell? w _ hx119_0)).trans hx119_0
             replace p119 := eq_true p119
             replace q119 := eq_true q119
             refine start_ (n := 15) (S := fun w' => w'.cell? ⟨gb114, 0, none⟩ = some (.slice (some ad117) l0_0.length c0_0) ∧ w'.cell? ⟨gb114, 1, none⟩ = some (.slice (some ad115) l0_1.length c0_1) ∧ w'.cell? (ad115.add ((ji14)).toNat) = some (.int .i64 (rd l0_1 (ji14)))) (ds := []) (bs 15 0) (by kernel_rfl) rfl (by kernel_rfl) ⟨(blk_cell BK114.out 0).trans rfl, (blk_cell BK114.out 1).trans rfl, ((HB.out.cell (World.block_lt_of_cell? w _ hw119_0)).trans hw119_0)⟩ (fun hHeld => ?_); refine with_tabW spec_ldText.tab5 spec_ldText.bits5 (fun HT_ HW_ => ?_)
             generalize wr.drew = w20 at BK114 HB hx119_0 hHeld ⊢
             refine pA_ 0 19 15 1 ?_
             refine pA_ 1 20 15 3 ?_
             refine pA_ 5 24 15 35 ?_
             refine pA_ 7 26 15 163 ?_
             refine pA_ 8 27 15 419 ?_
             refine tA3_ 6 25 15 483 ?_
             refine pA_ 9 28 15 995 ?_
             refine tA3_ 10 29 15 2019 ?_
             refine oA_ 2 (some 21) 15 2023 (fun K hK => ?_)
             refine gE_ Tryd.func151 #[.int .i64 (rd l0_0 x14_1)] ?_
             with_reducible refine (spec_l1Num.calls k1 (rd l0_0 x14_1) t118 _ A11.out).mono ?_
             rintro e w21 ⟨rfl, hb⟩
             refine ⟨_, rfl, ?_⟩
             replace BK114 := kb_ BK114 hb
             replace HB := bs_ HB hb
             (try clear hb)
             (try clear hb2)
             (try clear hk)
             (try clear hi)
             refine hK.out _ _ ⟨(blk_cell BK114.out 0).trans rfl, (blk_cell BK114.out 1).trans rfl, ((HB.out.cell (World.block_lt_of_cell? w _ hw119_0)).trans hw119_0)⟩ (fun hHeld => ?_)
             clear hK K
             refine nA_ ?_
             refine pA_ 3 22 15 2031 ?_
             refine pA_ 4 23 15 2047 ?_
             refine oA_ 11 (some 30) 15 4095 (fun K hK => ?_)
             refine goes_ Tryd.func151 (by kernel_rfl) rfl #[.int .i64 (rd l0_1 (ji14))] (by rfl) rfl rfl (by (try simp only [List.map_toArray, List.map_cons, List.map_nil]); first | done | (simp only [hji14]; rfl) | rfl | (simp only [List.length_drop, List.length_take]; rfl)) ?_
             with_reducible refine (spec_l1Num.calls k1 (rd l0_1 (ji14)) t120 _ A17.out).mono ?_
             rintro e w22 ⟨rfl, hb⟩
             refine ⟨_, rfl, ?_⟩
             replace BK114 := kb_ BK114 hb
             replace HB := bs_ HB hb
             (try clear hb)
             (try clear hb2)
             (try clear hk)
             (try clear hi)
             refine hK.out _ _ ⟨(blk_cell BK114.out 0).trans rfl, (blk_cell BK114.out 1).trans rfl, ((HB.out.cell (World.block_lt_of_cell? w _ hw119_0)).trans hw119_0)⟩ (fun hHeld => ?_)
             clear hK K
             refine nA_ ?_
             refine pA_ 12 31 15 8191 ?_
             refine pA_ 13 32 15 16383 ?_
             refine pA_ 14 3 15 32767 ?_
             refine done_ (done_of HT_.out (by kernel_rfl)) ?_
             try go_wp2
             go_roundg k1
             case measure => have := HK1.out; omega
             case rel => exact ⟨(x3_1 ++ ((((⟨#[94]⟩ : ByteArray) ++ t118) ++ (⟨#[58]⟩ : ByteArray)) ++ t120)), (ji14), (by first | rfl | (simp; done) | (simp [*]; done)), (by first | rfl | (simp; done) | (simp only [← hji14] <;> (first | rfl | simp)) | (simp [*]; done)), H', ⟨by have := HK1.out; omega⟩, ⟨up_ BK114.out⟩, ⟨dn_ HB.out⟩⟩
            ·rw [if_neg c19] at H
             exact absurd H (by simp)
           ·rw [if_neg c18] at H
            exact absurd H (by simp)
          ·rw [if_neg c16] at H
           exact absurd H (by simp)
         ·rw [if_neg c15] at H
          exact absurd H (by simp)
        ·rw [if_neg c13] at H
         exact absurd H (by simp)
       ·rw [if_neg c12] at H
        exact absurd H (by simp)
      ·rw [if_neg c10] at H
       exact absurd H (by simp)
     ·rw [if_neg c9] at H
      exact absurd H (by simp)
    ·rw [if_neg c8] at H
     have c8b0 : decide (x14_1 < (l0_0.length : Int)) = false := decide_eq_false c8
     clear c8
     obtain rfl := Option.some.inj H
     go_wp2
     go_ret
     exact ⟨by first | rfl | (simp [errW_none, errW_some] <;> rfl) | (simp [*, errW_none, errW_some] <;> rfl), dn_ HB.out⟩
 ·rw [if_neg c2] at H
  exact absurd H (by simp)
end Go.Proofs.YtbmdgmmegchmnaaDoor.B
namespace Go.Proofs.YtbmdgmmegchmnaaDoor.B
open Go.RowKit Go.Proofs.YtbmdgmmegchmnaaDoorW.PrintWords Go.Proofs.YtbmdgmmegchmnaaDoorW.PrintLast Go.Proofs.YtbmdgmmegchmnaaDoorW.PrintMore
attribute [local go_sem] max2_int min2_int max_two min_two max_three min_three max_four min_four
set_option linter.unusedVariables false
set_option linter.unusedSimpArgs false
def spec_ldParse.l0 : Nat → ByteArray → List ByteArray → Int → Int → List Int → List Int → Option (List Int × List Int × Bool)
 | 0, _, _, _, _, _, _ => none
 | k + 1, x0, x14, x15, x16, x161000, x161001 => if x16 < x15 then (if 0 ≤ x16 then (if x16 < (x14.length : Int) then (if x16 = 0 then ((spec_l1Read.f k (rdOf ByteArray.empty x14 x16)).bind fun t167 => (spec_ldParse.l0 k x0 x14 x15 (wrap64 (x16 + 1)) x161000 (([t167] : List Int)))) else ((spec_l1Split.f k (rdOf ByteArray.empty x14 x16) 58).bind fun t171 => (if (t171.length : Int) = 2 then (if 0 < (t171.length : Int) then ((spec_l1Read.f k (rdOf ByteArray.empty t171 0)).bind fun t175 => (if x161000.length < 17592186044416 then (if 1 < (t171.length : Int) then ((spec_l1Read.f k (rdOf ByteArray.empty t171 1)).bind fun t180 => (if x161001.length < 17592186044416 then (spec_ldParse.l0 k x0 x14 x15 (wrap64 (x16 + 1)) (x161000 ++ [t175]) (x161001 ++ [t180])) else (none))) else (none)) else (none))) else (none)) else (some (x161000, x161001, false))))) else (none)) else (none)) else ((spec_ldGood.f k x161000 x161001).bind fun t164 => (if t164 = true then ((spec_ldText.f k x161000 x161001).bind fun t165 => (some (x161000, x161001, (t165.toList == x0.toList)))) else (some (x161000, x161001, false))))
def spec_ldParse.f (k : Nat) (a0 : ByteArray) : Option (List Int × List Int × Bool) := if (a0.size : Int) > 84 then (some (([] : List Int), ([] : List Int), false)) else ((spec_l1Split.f k a0 94).bind fun t161 => (spec_ldParse.l0 k a0 t161 (t161.length : Int) 0 ([] : List Int) ([] : List Int)))
def spec_ldParse.T12 : Bool × List (List Nat × List Nat) := (true, [([], []), ([0], [0]), ([], []), ([2], [2]), ([3], [3]), ([4], [4]), ([5], [5]), ([1, 6, 5], [1, 6]), ([0, 1, 2, 3, 4, 5, 6, 7], []), ([8, 7, 7, 0, 1, 2, 3, 4, 5, 6, 7], [7, 8])])
def spec_ldParse.B12 : List Nat := [0, 1, 0, 4, 12, 28, 60, 127, 255, 511]
theorem spec_ldParse.tab12 : rtab .any (opsOf Tryd.f120 12) = spec_ldParse.T12 := by kernel_rfl
theorem spec_ldParse.bits12 : waitsOk spec_ldParse.T12.2 spec_ldParse.B12 = true := by kernel_rfl
def spec_ldParse.T13 : Bool × List (List Nat × List Nat) := (true, [([], []), ([0], [0]), ([], []), ([2], [2]), ([3], [3]), ([4], [4]), ([5], [5]), ([1, 6, 5], [1, 6]), ([0, 1, 2, 3, 4, 5, 6, 7], []), ([8, 7, 7, 0, 1, 2, 3, 4, 5, 6, 7], [7, 8])])
def spec_ldParse.B13 : List Nat := [0, 1, 0, 4, 12, 28, 60, 127, 255, 511]
theorem spec_ldParse.tab13 : rtab .any (opsOf Tryd.f120 13) = spec_ldParse.T13 := by kernel_rfl
theorem spec_ldParse.bits13 : waitsOk spec_ldParse.T13.2 spec_ldParse.B13 = true := by kernel_rfl
def spec_ldParse.T15 : Bool × List (List Nat × List Nat) := (true, [([], []), ([], []), ([1], [1]), ([2, 2], [2]), ([3], [3]), ([4, 3, 3], [3, 4]), ([3], [3]), ([5, 6, 3], [3, 5, 6]), ([3, 7], [3, 7]), ([0, 5, 0], [0]), ([8, 9, 0, 1, 2, 3, 4, 5, 6, 7, 8, 9], [8])])
def spec_ldParse.B15 : List Nat := [0, 0, 2, 6, 14, 30, 14, 126, 254, 63, 1023]
theorem spec_ldParse.tab15 : rtab .any (opsOf Tryd.f120 15) = spec_ldParse.T15 := by kernel_rfl
theorem spec_ldParse.bits15 : waitsOk spec_ldParse.T15.2 spec_ldParse.B15 = true := by kernel_rfl
set_option maxHeartbeats 8000000 in
set_option maxRecDepth 100000 in
theorem spec_ldParse.calls (k : Nat) (a0 : ByteArray) (r1 : List Int) (r2 : List Int) (r3 : Bool) (w : World) (h : spec_ldParse.f k a0 = some (r1, r2, r3)) :
 Calls Tryd.prog 120 #[.string a0] w fun e w' => ∃ v0_ v1_ : Value, e = .returned (.tuple #[.agg #[v0_, v1_], .bool r3]) ∧ Kd.R (Kd.int .i64) 3 w' w.heap.size (fun k_ => some k_ ≠ (v1_ : Value).ownBlock) v0_ r1 ∧ Kd.R (Kd.int .i64) 3 w' w.heap.size (fun k_ => some k_ ≠ (v0_ : Value).ownBlock) v1_ r2 ∧ Below w.heap.size w w' := by
 have hu40 := Tryd.underlying40
 have HB := Aside0.mk (Below.refl w.heap.size w)
 have H : (if (a0.size : Int) > 84 then (some (([] : List Int), ([] : List Int), false)) else ((spec_l1Split.f k a0 94).bind fun t161 => (spec_ldParse.l0 k a0 t161 (t161.length : Int) 0 ([] : List Int) ([] : List Int)))) = some (r1, r2, r3) := h
 clear h
 by_cases c2 : (a0.size : Int) > 84
 ·rw [if_pos c2] at H
  have c2b0 : decide (84 < (a0.size : Int)) = true := decide_eq_true c2
  have c2b1 : decide (84 < a0.size) = true := decide_eq_true (by omega)
  clear c2
  simp only [Option.some.injEq, Prod.mk.injEq] at H
  obtain ⟨rfl, rfl, rfl⟩ := H
  go_enter Tryd.func120, Tryd.ntmps120
  go_wp2_with (first | ((with_reducible refine gate_dst (N := 2) rfl ?_); refine bx_ 2 #[.slice none 0 0, .slice none 0 0] 40 ?_; intro gb159 hg w3 hbox hb; have BK159 := Aside0.mk (hbox); have GW159 := gw_ HB hg; have GE159 := GW159; replace HB := bs_ HB hb; clear hb hbox hg) | ((with_reducible refine gate_dst (N := 4) rfl ?_); refine bx_ 4 #[.slice none 0 0, .slice none 0 0] 40 ?_; intro gb160 hg w4 hbox hb; have BK160 := Aside0.mk (hbox); have GW160 := gw_ HB hg; have GE160 := GW160; have NB159_160 := nl_ BK159 hg; have NB160_159 := nr_ BK159 hg; replace BK159 := kb_ BK159 hb; replace HB := bs_ HB hb; clear hb hbox hg; have hnb5 := NB160_159.out; have hnc5 := NB159_160.out; obtain ⟨hcz6_0, hcz6_1, hfz6_0, hfz6_1⟩ := cf2_ BK160; obtain ⟨hcz7_0, hcz7_1, hfz7_0, hfz7_1⟩ := cf2_ BK159))
  refine bodyPost_ret (results_ct rfl _ _ gb159 40 #[.slice none 0 0, .slice none 0 0] (0, 0) _ rfl (by refine lk_ ?_; refine blk_put (cs := #[.slice none 0 0, .slice none 0 0]) ?_ 1 _ rfl; refine lk_ ?_; refine blk_put (cs := #[.slice none 0 0, .slice none 0 0]) ?_ 0 _ rfl; refine lk_ ?_; refine blk_far ?_ NB159_160.out _; refine lk_ ?_; refine blk_far ?_ NB159_160.out _; (with_reducible repeat (first | refine blk_drewN ?_ _ | refine blk_drew ?_ | refine blk_alloc ?_ _)); exact BK159.out) Tryd.underlying40 rfl (by kernel_rfl)) rfl ?_
  exact ⟨_, _, by first | rfl | (simp [errW_none, errW_some] <;> rfl) | (simp [*, errW_none, errW_some] <;> rfl), by first | exact Kd.R_nil _ _ _ _ _ | exact Kd.N_nil _ _ _ _ _ | exact Kd.V_nil _ _ _ _ _ | exact Kd.Q_nil _ _ _ _ _ | exact Kd.S_nil _ _ _ _ _, by first | exact Kd.R_nil _ _ _ _ _ | exact Kd.N_nil _ _ _ _ _ | exact Kd.V_nil _ _ _ _ _ | exact Kd.Q_nil _ _ _ _ _ | exact Kd.S_nil _ _ _ _ _, dn_ HB.out⟩
 ·rw [if_neg c2] at H
  have c2b0 : decide (84 < (a0.size : Int)) = false := decide_eq_false c2
  have c2b1 : decide (84 < a0.size) = false := decide_eq_false (by omega)
  clear c2
  replace H := Option.bind_eq_some_iff.mp H
  obtain ⟨t161, A80, H⟩ := H
  try dsimp only at H
  have A8 := Aside0.mk A80
  clear A80
  have H' := Aside0.mk H
  clear H
  go_enter Tryd.func120, Tryd.ntmps120
  go_wp2_with (first | ((with_reducible refine gate_dst (N := 2) rfl ?_); refine bx_ 2 #[.slice none 0 0, .slice none 0 0] 40 ?_; intro gb159 hg w9 hbox hb; have BK159 := Aside0.mk (hbox); have GW159 := gw_ HB hg; have GE159 := GW159; replace HB := bs_ HB hb; clear hb hbox hg) | ((with_reducible refine gate_dst (N := 4) rfl ?_); refine bx_ 4 #[.slice none 0 0, .slice none 0 0] 40 ?_; intro gb160 hg w10 hbox hb; have BK160 := Aside0.mk (hbox); have GW160 := gw_ HB hg; have GE160 := GW160; have NB159_160 := nl_ BK159 hg; have NB160_159 := nr_ BK159 hg; replace BK159 := kb_ BK159 hb; replace HB := bs_ HB hb; clear hb hbox hg; have hnb11 := NB160_159.out; have hnc11 := NB159_160.out; obtain ⟨hcz12_0, hcz12_1, hfz12_0, hfz12_1⟩ := cf2_ BK160) | ((with_reducible refine gate_callee (f := 154) rfl ?_); refine gL_ (some 14) Tryd.func154 #[.string a0, .int .u8 94] ?_; (with_reducible refine (spec_l1Split.calls k a0 94 t161 _ A8.out).mono ?_); rintro e w13 ⟨v162, rfl, ho0, hb⟩; refine ⟨_, rfl, ?_⟩; have HO163 := Aside0.mk (Kd.R_lower ho0 (below_size (dn_ HB.out))); replace BK159 := Aside0.mk (blk_below (g := gb159) (o := .cells #[.slice none 0 0, .slice none 0 0] 40 (0, 0)) (by refine lk_ ?_; refine blk_far ?_ NB159_160.out _; refine lk_ ?_; refine blk_far ?_ NB159_160.out _; (with_reducible repeat (first | refine blk_drewN ?_ _ | refine blk_drew ?_ | refine blk_alloc ?_ _)); exact BK159.out) hb); replace BK160 := Aside0.mk (blk_below (g := gb160) (o := .cells #[.slice none 0 0, .slice none 0 0] 40 (0, 0)) (by refine lk_ ?_; refine blk_put (cs := #[.slice none 0 0, .slice none 0 0]) ?_ 1 _ rfl; refine lk_ ?_; refine blk_put (cs := #[.slice none 0 0, .slice none 0 0]) ?_ 0 _ rfl; (with_reducible repeat (first | refine blk_drewN ?_ _ | refine blk_drew ?_ | refine blk_alloc ?_ _)); exact BK160.out) hb); replace HB := bs_ HB hb; (try clear hb); (try clear ho0); obtain ⟨Ao14, co14, eo14⟩ := Kd.R_slice HO163.out; subst eo14))
  go_loopg [16] k (fun kq v16 w' => ∃ (x16_1 : Int) (x161000_1 : List Int) (x161001_1 : List Int) (u161000 : Value) (u161001 : Value), v16 = .int .i64 x16_1 ∧ Aside0 (spec_ldParse.l0 kq a0 t161 (t161.length : Int) x16_1 x161000_1 x161001_1 = some (r1, r2, r3)) ∧ Aside0 (kq ≤ k) ∧ Aside0 (Kd.R Kd.string 9 w' w.heap.size (fun _ => True) (.slice Ao14 t161.length co14) t161) ∧ Aside0 (Kd.R (Kd.int .i64) 3 w' w.heap.size (fun k_ => some k_ ≠ (u161001 : Value).ownBlock) u161000 x161000_1) ∧ Aside0 (Kd.R (Kd.int .i64) 3 w' w.heap.size (fun k_ => some k_ ≠ (u161000 : Value).ownBlock) u161001 x161001_1) ∧ Aside0 (w'.heap[gb159]? = some (.cells #[(.slice none 0 0), (.slice none 0 0)] 40 (0, 0))) ∧ Aside0 (w'.heap[gb160]? = some (.cells #[u161000, u161001] 40 (0, 0))) ∧ Aside0 (Below w.heap.size w w'))
  case atStart => exact ⟨(0), (([] : List Int)), (([] : List Int)), (.slice none 0 0), (.slice none 0 0), (by first | rfl | (simp; done) | (simp [*]; done)), H', ⟨Nat.le_refl _⟩, ⟨up_ HO163.out⟩, ⟨by first | exact Kd.R_nil _ _ _ _ _ | exact Kd.N_nil _ _ _ _ _ | exact Kd.V_nil _ _ _ _ _ | exact Kd.Q_nil _ _ _ _ _ | exact Kd.S_nil _ _ _ _ _⟩, ⟨by first | exact Kd.R_nil _ _ _ _ _ | exact Kd.N_nil _ _ _ _ _ | exact Kd.V_nil _ _ _ _ _ | exact Kd.Q_nil _ _ _ _ _ | exact Kd.S_nil _ _ _ _ _⟩, ⟨up_ BK159.out⟩, ⟨up_ BK160.out⟩, ⟨dn_ HB.out⟩⟩
  case round =>
   clear H'
   (try clear c1); (try clear c2); (try clear c2b0); (try clear c2b1); (try clear p2); (try clear c5); (try clear c11); (try clear c12); (try clear hcz12_0); (try clear hcz12_1); (try clear hcz6_0); (try clear hcz6_1); (try clear hcz7_0); (try clear hcz7_1); (try clear hfz12_0); (try clear hfz12_1); (try clear hfz6_0); (try clear hfz6_1); (try clear hfz7_0); try clear hfz7_1
   obtain ⟨x16_1, x161000_1, x161001_1, u161000, u161001, rfl, HA, HK1, HO_14, HO_161000, HO_161001, BK159, BK160, HB⟩ := hrel
   cases gk with
   | zero => exact absurd HA.out (by simp [spec_ldParse.l0])
   | succ k1 =>
    have H := HA.out
    clear HA
    simp only [spec_ldParse.l0] at H
    by_cases c15 : x16_1 < (t161.length : Int)
    ·rw [if_pos c15] at H
     have c15b0 : decide (x16_1 < (t161.length : Int)) = true := decide_eq_true c15
     clear c15
     by_cases c16 : 0 ≤ x16_1
     ·rw [if_pos c16] at H
      have c16b0 : decide (0 ≤ x16_1) = true := decide_eq_true c16
      clear c16
      by_cases c17 : x16_1 < (t161.length : Int)
      ·rw [if_pos c17] at H
       have c17b0 : decide (x16_1 < (t161.length : Int)) = true := decide_eq_true c17
       clear c17
       by_cases c18 : x16_1 = 0
       ·rw [if_pos c18] at H
        have c18b0 : (x16_1 == 0) = true := beq_iff_eq.mpr c18
        have c18b1 : (x16_1 != 0) = false := bne_eq_false_iff_eq.mpr c18
        clear c18
        replace H := Option.bind_eq_some_iff.mp H
        obtain ⟨t167, A190, H⟩ := H
        try dsimp only at H
        have A19 := Aside0.mk A190
        clear A190
        obtain ⟨y168, hy168⟩ : ∃ y_ : List Int, y_ = (([t167] : List Int)) := ⟨_, rfl⟩
        replace H : (spec_ldParse.l0 k1 a0 t161 (t161.length : Int) (wrap64 (x16_1 + 1)) x161000_1 y168) = some (r1, r2, r3) := by first | (rw [hy168]; with_reducible exact H) | (have H2_ := (Option.bind_some _ _).symm.trans H; rw [hy168]; with_reducible exact H2_) | (have H2_ := (Option.bind_some _ _).symm.trans H; with_reducible exact H2_) | with_reducible exact H | (rw [hy168]; exact H) | exact H
        have Ny168 := Aside0.mk hy168
        clear hy168
        have H' := Aside0.mk H
        clear H
        have p166 : 0 ≤ (x16_1 : Int) := of_decide_eq_true (by first | (with_reducible assumption) | assumption)
        have q166 : x16_1 < (t161.length : Int) := of_decide_eq_true (by first | (with_reducible assumption) | assumption)
        obtain ⟨ad166, e166, hx166_0⟩ := Kd.at_string (Kd.R_reads' HO_14.out).2.2 x16_1 p166 q166
        cases e166
        replace p166 := eq_true p166
        replace q166 := eq_true q166
        go_wp2_with (first | ((with_reducible refine gate_callee (f := 155) rfl ?_); refine gL_ (some 24) Tryd.func155 #[.string (rdOf ByteArray.empty t161 x16_1)] ?_; (with_reducible refine (spec_l1Read.calls k1 (rdOf ByteArray.empty t161 x16_1) t167 _ A19.out).mono ?_); rintro e w' ⟨rfl, ⟨nd, rfl⟩⟩; refine ⟨_, rfl, ?_⟩; (try (rw [drewN_self wr]; generalize hq_ : World.drewN wr _ = wr; have n0_ : Aside0 (Kd.R Kd.string 9 wr w.heap.size (fun _ => True) (.slice (some ad166) t161.length co14) t161) := ⟨by rw [← hq_]; exact (up_ HO_14.out)⟩; have n1_ : Aside0 (Kd.R (Kd.int .i64) 3 wr w.heap.size (fun k_ => some k_ ≠ (u161001 : Value).ownBlock) u161000 x161000_1) := ⟨by rw [← hq_]; exact (up_ HO_161000.out)⟩; have n2_ : Aside0 (Kd.R (Kd.int .i64) 3 wr w.heap.size (fun k_ => some k_ ≠ (u161000 : Value).ownBlock) u161001 x161001_1) := ⟨by rw [← hq_]; exact (up_ HO_161001.out)⟩; have n3_ : Aside0 (wr.heap[gb159]? = some (.cells #[.slice none 0 0, .slice none 0 0] 40 (0, 0))) := ⟨by rw [← hq_]; exact (up_ BK159.out)⟩; have n4_ : Aside0 (wr.heap[gb160]? = some (.cells #[u161000, u161001] 40 (0, 0))) := ⟨by rw [← hq_]; exact (up_ BK160.out)⟩; have n5_ : Aside0 (Below w.heap.size w wr) := ⟨by rw [← hq_]; exact (dn_ HB.out)⟩; clear HO_14 HO_161000 HO_161001 BK159 BK160 HB hq_; have HO_14 := n0_; have HO_161000 := n1_; have HO_161001 := n2_; have BK159 := n3_; have BK160 := n4_; have HB := n5_; clear n0_ n1_ n2_ n3_ n4_ n5_))) | ((with_reducible refine gate_dst (N := 25) rfl ?_); refine Kd.R_lit (Kd.int .i64) _ 3 ?hg (N := 25) ?hd (xs := ([t167] : List Int)) (inner := [.int .i64 t167]) (ok := fun _ => True) (okp := fun _ => True) ?hr ?hp (fun _ hk => hk) trivial (Below.refl _ _) (Nat.le_refl _) (by simp) ?_; (case hd => rfl); (case hg => rfl); (case hr => first | (go_simp; done) | (go_simp; rfl)); (case hp => exact (Reps.one (show Kd.M (Kd.int .i64) _ _ _ t167 [.int .i64 t167] from rfl) (Reps.none _ _))); intro v169 w20 ho21 hb hg_ hnew_; clear hg_ hnew_; (first | rw [← Ny168.out] at ho21 | (simp only [Int.reduceToNat] at ho21; rw [← Ny168.out] at ho21)); have HO170 := Aside0.mk (Kd.R_lower (Kd.R_new' (Kd.R_new' ho21 (Kd.R_lt (up_ HO_161000.out))) (Kd.R_lt (up_ HO_161001.out))) (below_size (dn_ HB.out))); replace HO_14 := rb_ HO_14 hb; replace HO_161000 := re_ HO_161000 (Kd.R_base ho21) hb; replace HO_161001 := re_ HO_161001 (Kd.R_base ho21) hb; replace BK159 := kb_ BK159 hb; replace BK160 := kb_ BK160 hb; replace HB := bs_ HB hb; clear hb ho21; obtain ⟨Ao22, co22, eo22⟩ := Kd.R_slice HO170.out; subst eo22; have hnb23 := NB160_159.out; have hnc23 := NB159_160.out; obtain ⟨hcz24_0, hcz24_1, hfz24_0, hfz24_1⟩ := cf2_ BK160))
        go_roundg k1
        case measure => have := HK1.out; omega
        case rel => exact ⟨(wrap64 (x16_1 + 1)), (x161000_1), (y168), (u161000), (.slice Ao22 y168.length co22), (by first | rfl | (simp; done) | (simp [*]; done)), H', ⟨by have := HK1.out; omega⟩, ⟨by refine lr_ ?_; exact Kd.R_mono (Kd.R_far (p := ⟨gb160, 1, none⟩) (Kd.R_types HO_14.out BK160.out (by decide)) (fun _ hk => hk.2) (.slice Ao22 y168.length co22)) (fun _ hk => trivial)⟩, ⟨by refine lr_ ?_; exact Kd.R_mono (Kd.R_far (p := ⟨gb160, 1, none⟩) (Kd.R_types HO_161000.out BK160.out (by decide)) (fun _ hk => hk.2) (.slice Ao22 y168.length co22)) (fun _ hk => hk.1.2)⟩, ⟨by refine lr_ ?_; exact Kd.R_mono (Kd.R_far (p := ⟨gb160, 1, none⟩) (Kd.R_types HO170.out BK160.out (by decide)) (fun _ hk => hk.2) (.slice Ao22 y168.length co22)) (fun _ hk => hk.1.1.2)⟩, ⟨by refine lk_ ?_; refine blk_far ?_ NB159_160.out _; (with_reducible repeat (first | refine blk_drewN ?_ _ | refine blk_drew ?_ | refine blk_alloc ?_ _)); exact BK159.out⟩, ⟨by refine lk_ ?_; refine blk_put (cs := #[u161000, u161001]) ?_ 1 _ rfl; (with_reducible repeat (first | refine blk_drewN ?_ _ | refine blk_drew ?_ | refine blk_alloc ?_ _)); exact BK160.out⟩, ⟨dn_ HB.out⟩⟩
       ·rw [if_neg c18] at H
        have c18b0 : (x16_1 == 0) = false := beq_eq_false_iff_ne.mpr c18
        have c18b1 : (x16_1 != 0) = true := bne_iff_ne.mpr c18
        replace H := Option.bind_eq_some_iff.mp H
        obtain ⟨t171, A250, H⟩ := H
        try dsimp only at H
        have A25 := Aside0.mk A250
        clear A250
        by_cases c26 : (t171.length : Int) = 2
        ·rw [if_pos c26] at H
         have c26b0 : ((t171.length : Int) == 2) = true := beq_iff_eq.mpr c26
         have c26b1 : ((t171.length : Int) != 2) = false := bne_eq_false_iff_eq.mpr c26
         clear c26
         by_cases c27 : 0 < (t171.length : Int)
         ·rw [if_pos c27] at H
          have c27b0 : decide (0 < (t171.length : Int)) = true := decide_eq_true c27
          have c27b1 : decide (0 < t171.length) = true := decide_eq_true (by omega)
          clear c27
          replace H := Option.bind_eq_some_iff.mp H
          obtain ⟨t175, A280, H⟩ := H
          try dsimp only at H
          have A28 := Aside0.mk A280
          clear A280
          by_cases c29 : x161000_1.length < 17592186044416
          ·rw [if_pos c29] at H
           have LMc29 := Aside0.mk c29
           clear c29
           obtain ⟨y176, hy176⟩ : ∃ y_ : List Int, y_ = (x161000_1 ++ [t175]) := ⟨_, rfl⟩
           replace H : (if 1 < (t171.length : Int) then ((spec_l1Read.f k1 (rdOf ByteArray.empty t171 1)).bind fun t180 => (if x161001_1.length < 17592186044416 then (spec_ldParse.l0 k1 a0 t161 (t161.length : Int) (wrap64 (x16_1 + 1)) y176 (x161001_1 ++ [t180])) else (none))) else (none)) = some (r1, r2, r3) := by first | (rw [hy176]; with_reducible exact H) | (have H2_ := (Option.bind_some _ _).symm.trans H; rw [hy176]; with_reducible exact H2_) | (have H2_ := (Option.bind_some _ _).symm.trans H; with_reducible exact H2_) | with_reducible exact H | (rw [hy176]; exact H) | exact H
           have Ny176 := Aside0.mk hy176
           clear hy176
           by_cases c30 : 1 < (t171.length : Int)
           ·rw [if_pos c30] at H
            have c30b0 : decide (1 < (t171.length : Int)) = true := decide_eq_true c30
            have c30b1 : decide (1 < t171.length) = true := decide_eq_true (by omega)
            clear c30
            replace H := Option.bind_eq_some_iff.mp H
            obtain ⟨t180, A310, H⟩ := H
            try dsimp only at H
            have A31 := Aside0.mk A310
            clear A310
            by_cases c32 : x161001_1.length < 17592186044416
            ·rw [if_pos c32] at H
             have LMc32 := Aside0.mk c32
             clear c32
             obtain ⟨y181, hy181⟩ : ∃ y_ : List Int, y_ = (x161001_1 ++ [t180]) := ⟨_, rfl⟩
             replace H : (spec_ldParse.l0 k1 a0 t161 (t161.length : Int) (wrap64 (x16_1 + 1)) y176 y181) = some (r1, r2, r3) := by first | (rw [hy181]; with_reducible exact H) | (have H2_ := (Option.bind_some _ _).symm.trans H; rw [hy181]; with_reducible exact H2_) | (have H2_ := (Option.bind_some _ _).symm.trans H; with_reducible exact H2_) | with_reducible exact H | (rw [hy181]; exact H) | exact H
             have Ny181 := Aside0.mk hy181
             clear hy181
             have H' := Aside0.mk H
             clear H
             have p166 : 0 ≤ (x16_1 : Int) := of_decide_eq_true (by first | (with_reducible assumption) | assumption)
             have q166 : x16_1 < (t161.length : Int) := of_decide_eq_true (by first | (with_reducible assumption) | assumption)
             obtain ⟨ad166, e166, hx166_0⟩ := Kd.at_string (Kd.R_reads' HO_14.out).2.2 x16_1 p166 q166
             cases e166
             replace p166 := eq_true p166
             replace q166 := eq_true q166
             try go_wp2_with (first | ((with_reducible refine gate_callee (f := 154) rfl ?_); refine gL_ (some 28) Tryd.func154 #[.string (rdOf ByteArray.empty t161 x16_1), .int .u8 58] ?_; (with_reducible refine (spec_l1Split.calls k1 (rdOf ByteArray.empty t161 x16_1) 58 t171 _ A25.out).mono ?_); rintro e w33 ⟨v172, rfl, ho0, hb⟩; refine ⟨_, rfl, ?_⟩; have HO173 := Aside0.mk (Kd.R_lower (Kd.R_new' ho0 (Kd.R_lt (up_ HO_14.out))) (below_size (dn_ HB.out))); replace HO_14 := re_ HO_14 (Kd.R_base ho0) hb; replace HO_161000 := rb_ HO_161000 hb; replace HO_161001 := rb_ HO_161001 hb; replace BK159 := kb_ BK159 hb; replace BK160 := kb_ BK160 hb; replace HB := bs_ HB hb; (try clear hb); (try clear ho0); obtain ⟨Ao34, co34, eo34⟩ := Kd.R_slice HO173.out; subst eo34))
             replace HO_14 := Aside0.mk (Kd.R_drew HO_14.out)
             replace HO_161000 := Aside0.mk (Kd.R_drew HO_161000.out)
             replace HO_161001 := Aside0.mk (Kd.R_drew HO_161001.out)
             replace HO173 := Aside0.mk (Kd.R_drew HO173.out)
             replace BK159 := Aside0.mk (blk_drew BK159.out)
             replace BK160 := Aside0.mk (blk_drew BK160.out)
             replace HB := Aside0.mk (below_drew1 HB.out)
             have p174 : 0 ≤ (0 : Int) := (by omega)
             have q174 : 0 < (t171.length : Int) := of_decide_eq_true (by first | (with_reducible assumption) | assumption)
             obtain ⟨ad174, e174, hx174_0⟩ := Kd.at_string (Kd.R_reads' HO173.out).2.2 0 p174 q174
             cases e174
             have qi174 : (0 < t171.length) = True := eq_true (by omega)
             (try rw [show ((0 : Int)).toNat = 0 from rfl] at hx174_0)
             (try rw [Addr.add_zero'] at hx174_0)
             replace p174 := eq_true p174
             replace q174 := eq_true q174
             refine start_ (n := 10) (S := fun w' => w'.cell? ⟨gb160, 0, none⟩ = some (u161000) ∧ w'.cell? ⟨gb160, 1, none⟩ = some (u161001) ∧ w'.cell? ad174 = some (.string (rdOf ByteArray.empty t171 0))) (ds := [7, 9]) (bs 10 0) (by kernel_rfl) rfl (by kernel_rfl) ⟨(blk_cell BK160.out 0).trans rfl, (blk_cell BK160.out 1).trans rfl, hx174_0⟩ (fun hHeld => ?_); refine with_tabW spec_ldParse.tab12 spec_ldParse.bits12 (fun HT_ HW_ => ?_)
             generalize w33.drew = w35 at HO_14 HO_161000 HO_161001 HO173 BK159 BK160 HB hx174_0 hHeld ⊢
             refine pA_ 0 33 10 1 ?_
             refine pA_ 2 35 10 5 ?_
             refine pA_ 3 36 10 13 ?_
             refine tA3_ 1 34 10 15 ?_
             refine tA3_ 4 37 10 31 ?_
             refine oA_ 5 (some 38) 10 63 (fun K hK => ?_)
             refine gE_ Tryd.func155 #[.string (rdOf ByteArray.empty t171 0)] ?_
             with_reducible refine (spec_l1Read.calls k1 (rdOf ByteArray.empty t171 0) t175 _ A28.out).mono ?_
             rintro e w' ⟨rfl, ⟨nd, rfl⟩⟩
             refine ⟨_, rfl, ?_⟩
             refine hK.out _ _ ⟨(blk_cell BK160.out 0).trans rfl, (blk_cell BK160.out 1).trans rfl, hHeld.2.2⟩ (fun hHeld => ?_)
             clear hK K
             refine nA_ ?_
             refine oA_ 6 (some 39) 10 127 (fun K hK => ?_)
             refine value_ (w1 := ?_) (v := ?_) (by rfl) rfl ?_ ?_
             rotate_left 2
             ·go_simp
              constructor
              ·rfl
              ·rfl
             refine hK.out _ _ ⟨(blk_cell (blk_alloc BK160.out _) 0).trans rfl, (blk_cell (blk_alloc BK160.out _) 1).trans rfl, (World.cell?_alloc_lt _ _ _ (World.block_lt_of_cell? _ _ (hHeld.2.2))).trans (hHeld.2.2)⟩ (fun hHeld => ?_)
             clear hK K
             refine nA_ ?_
             refine last_ (i := 7) (N := some 40) (bs 10 255) rfl rfl (one_of HT_.out (by kernel_rfl)) (by decide) (fun K hK => ?_)
             refine Kd.R_append_step (Kd.int .i64) (w0 := w) w.heap.size (by rfl) (.tmp 34) (.tmp 39) 35 3 (.int .i64 0) 8 rfl Tryd.underlying35 info3 rfl (by decide) (by omega) u161000 x161000_1 t175 [.int .i64 t175] (fun k_ => some k_ ≠ (u161001 : Value).ownBlock) (fun _ => False) rfl rfl ?aP (fun _ hk => hk.elim) ?aF ?aO ?aB ?aS ?aL ?_
             (case aP => exact rfl)
             (case aB => exact (dn_ HB.out))
             (case aF => exact (fun k_ hk => Kd.fresh' (Kd.R_lt (up_ HO_161001.out)) k_ hk))
             (case aO => exact (up_ HO_161000.out))
             (case aS => exact (below_size (dn_ HB.out)))
             (case aL => have := LMc29.out; omega)
             intro v177 w36 ho hb hg hat
             rw [← Ny176.out] at ho
             have n0_ := Aside0.mk (Kd.R_over' (up_ HO_14.out) (Kd.R_typed (up_ HO_161000.out)) (by decide) hg)
             have n1_ := Aside0.mk (Kd.R_after (ok := (fun _ => True)) (by refine lr_ ?_; exact Kd.R_mono HO_161001.out (fun _ hk => ⟨trivial, hk⟩)) hg hat)
             have n2_ := Aside0.mk (blk_grown (g := gb159) (o := .cells #[.slice none 0 0, .slice none 0 0] 40 (0, 0)) (up_ BK159.out) hg (Kd.R_ne HO_161000.out BK159.out (by decide)))
             have n3_ := Aside0.mk (blk_grown (g := gb160) (o := .cells #[u161000, u161001] 40 (0, 0)) (up_ BK160.out) hg (Kd.R_ne HO_161000.out BK160.out (by decide)))
             have n4_ := Aside0.mk (Kd.R_over' (up_ HO173.out) (Kd.R_typed (up_ HO_161000.out)) (by decide) hg)
             have n5_ := Aside0.mk (hb)
             have n6_ := Aside0.mk (ho)
             clear HO_14
             clear HO_161001
             clear BK159
             clear BK160
             clear HO173
             clear HB
             clear HO_161000
             have HO_14 := n0_
             have HO_161001 := n1_
             have BK159 := n2_
             have BK160 := n3_
             have HO173 := n4_
             have HB := n5_
             have HO178 := n6_
             clear n0_ n1_ n2_ n3_ n4_ n5_ n6_
             clear ho hb hg hat
             obtain ⟨Ao37, co37, eo37⟩ := Kd.R_slice HO178.out
             (first | subst eo37 | (injection eo37 with f1_ f2_ f3_; have f4_ := f1_.symm; have f5_ := f3_.symm; clear f1_ f2_ f3_; subst f4_; subst f5_))
             refine hK.out _ _ ?_
             clear hK K
             refine nA_ ?_
             refine pA_ 8 41 10 511 ?_
             refine last_ (i := 9) (N := none) (bs 10 1023) rfl rfl (one_of HT_.out (by kernel_rfl)) (by decide) (fun K hK => ?_)
             have hs38 : w36.cell? ⟨gb160, 0, none⟩ = some (u161000) := (blk_cell BK160.out 0).trans rfl
             have hfs38 := blk_frozen BK160.out 0
             have hns38_0 := NB159_160.out
             have hms38_0 := NB160_159.out
             refine skip_ (w1 := ?_) (by rfl) rfl ?_ ?_
             rotate_left
             ·go_simp
              rfl
             refine hK.out _ _ ?_
             clear hK K
             refine done_ (done_of HT_.out (by kernel_rfl)) ?_
             try go_wp2
             have n0_ : Aside0 (Kd.R Kd.string 9 (w36.setCell ⟨gb160, 0, none⟩ (.slice Ao37 y176.length co37)) w.heap.size (fun k_ => some k_ ≠ (.slice (some ad174) t171.length co34 : Value).ownBlock) (.slice (some ad166) t161.length co14) t161) := ⟨by refine lr_ ?_; exact Kd.R_mono (Kd.R_far (p := ⟨gb160, 0, none⟩) (Kd.R_types HO_14.out BK160.out (by decide)) (fun _ hk => hk.2) (.slice Ao37 y176.length co37)) (fun _ hk => hk.1.2)⟩
             have n1_ : Aside0 (Kd.R (Kd.int .i64) 3 (w36.setCell ⟨gb160, 0, none⟩ (.slice Ao37 y176.length co37)) w.heap.size (fun k_ => some k_ ≠ (.slice Ao37 y176.length co37 : Value).ownBlock) u161001 x161001_1) := ⟨by refine lr_ ?_; exact Kd.R_mono (Kd.R_far (p := ⟨gb160, 0, none⟩) (Kd.R_types HO_161001.out BK160.out (by decide)) (fun _ hk => hk.2) (.slice Ao37 y176.length co37)) (fun _ hk => hk.1.2)⟩
             have n2_ : Aside0 (Kd.R Kd.string 9 (w36.setCell ⟨gb160, 0, none⟩ (.slice Ao37 y176.length co37)) w.heap.size (fun k_ => some k_ ≠ (.slice (some ad166) t161.length co14 : Value).ownBlock) (.slice (some ad174) t171.length co34) t171) := ⟨by refine lr_ ?_; exact Kd.R_mono (Kd.R_far (p := ⟨gb160, 0, none⟩) (Kd.R_types HO173.out BK160.out (by decide)) (fun _ hk => hk.2) (.slice Ao37 y176.length co37)) (fun _ hk => hk.1.2)⟩
             have n3_ : Aside0 (Kd.R (Kd.int .i64) 3 (w36.setCell ⟨gb160, 0, none⟩ (.slice Ao37 y176.length co37)) w.heap.size (fun k_ => some k_ ≠ (u161001 : Value).ownBlock) (.slice Ao37 y176.length co37) y176) := ⟨by refine lr_ ?_; exact Kd.R_mono (Kd.R_far (p := ⟨gb160, 0, none⟩) (Kd.R_types HO178.out BK160.out (by decide)) (fun _ hk => hk.2) (.slice Ao37 y176.length co37)) (fun _ hk => hk.1)⟩
             have n4_ : Aside0 ((w36.setCell ⟨gb160, 0, none⟩ (.slice Ao37 y176.length co37)).heap[gb159]? = some (.cells #[.slice none 0 0, .slice none 0 0] 40 (0, 0))) := ⟨by refine lk_ ?_; refine blk_far ?_ NB159_160.out _; (with_reducible repeat (first | refine blk_drewN ?_ _ | refine blk_drew ?_ | refine blk_alloc ?_ _)); exact BK159.out⟩
             have n5_ : Aside0 ((w36.setCell ⟨gb160, 0, none⟩ (.slice Ao37 y176.length co37)).heap[gb160]? = some (.cells #[.slice Ao37 y176.length co37, u161001] 40 (0, 0))) := ⟨by refine lk_ ?_; refine blk_put (cs := #[u161000, u161001]) ?_ 0 _ rfl; (with_reducible repeat (first | refine blk_drewN ?_ _ | refine blk_drew ?_ | refine blk_alloc ?_ _)); exact BK160.out⟩
             have n6_ : Aside0 (Below w.heap.size w (w36.setCell ⟨gb160, 0, none⟩ (.slice Ao37 y176.length co37))) := ⟨dn_ HB.out⟩
             (try clear HO_14)
             (try clear HO_161001)
             (try clear HO173)
             (try clear HO178)
             (try clear BK159)
             (try clear BK160)
             (try clear HB)
             generalize (w36.setCell ⟨gb160, 0, none⟩ (.slice Ao37 y176.length co37)) = w39 at n0_ n1_ n2_ n3_ n4_ n5_ n6_ ⊢
             have HO_14 := n0_
             have HO_161001 := n1_
             have HO173 := n2_
             have HO178 := n3_
             have BK159 := n4_
             have BK160 := n5_
             have HB := n6_
             clear n0_ n1_ n2_ n3_ n4_ n5_ n6_
             replace HO_14 := Aside0.mk (Kd.R_drew HO_14.out)
             replace HO_161001 := Aside0.mk (Kd.R_drew HO_161001.out)
             replace HO173 := Aside0.mk (Kd.R_drew HO173.out)
             replace HO178 := Aside0.mk (Kd.R_drew HO178.out)
             replace BK159 := Aside0.mk (blk_drew BK159.out)
             replace BK160 := Aside0.mk (blk_drew BK160.out)
             replace HB := Aside0.mk (below_drew1 HB.out)
             have p179 : 0 ≤ (1 : Int) := (by omega)
             have q179 : 1 < (t171.length : Int) := of_decide_eq_true (by first | (with_reducible assumption) | assumption)
             obtain ⟨ad179, e179, hx179_0⟩ := Kd.at_string (Kd.R_reads' HO173.out).2.2 1 p179 q179
             obtain rfl : ad174 = ad179 := (by injection e179)
             (try simp only [show (1 : Int).toNat = 1 from rfl, Nat.reduceMul, Nat.reduceEqDiff, Go.Addr.add, ↓reduceIte] at hx179_0)
             have qi179 : (1 < t171.length) = True := eq_true (by omega)
             (try rw [show ((1 : Int)).toNat = 1 from rfl] at hx179_0)
             replace p179 := eq_true p179
             replace q179 := eq_true q179
             refine start_ (n := 10) (S := fun w' => w'.cell? ⟨gb160, 0, none⟩ = some (.slice Ao37 y176.length co37) ∧ w'.cell? ⟨gb160, 1, none⟩ = some (u161001) ∧ w'.cell? ⟨ad174.block, ad174.off + 1, none⟩ = some (.string (rdOf ByteArray.empty t171 1))) (ds := [7, 9]) (bs 10 0) (by kernel_rfl) rfl (by kernel_rfl) ⟨(blk_cell BK160.out 0).trans rfl, (blk_cell BK160.out 1).trans rfl, hx179_0⟩ (fun hHeld => ?_); refine with_tabW spec_ldParse.tab13 spec_ldParse.bits13 (fun HT_ HW_ => ?_)
             generalize w39.drew = w40 at HO_14 HO_161001 HO173 HO178 BK159 BK160 HB hx179_0 hHeld ⊢
             refine pA_ 0 42 10 1 ?_
             refine pA_ 2 44 10 5 ?_
             refine pA_ 3 45 10 13 ?_
             refine tA3_ 1 43 10 15 ?_
             refine tA3_ 4 46 10 31 ?_
             refine oA_ 5 (some 47) 10 63 (fun K hK => ?_)
             refine gE_ Tryd.func155 #[.string (rdOf ByteArray.empty t171 1)] ?_
             with_reducible refine (spec_l1Read.calls k1 (rdOf ByteArray.empty t171 1) t180 _ A31.out).mono ?_
             rintro e w' ⟨rfl, ⟨nd, rfl⟩⟩
             refine ⟨_, rfl, ?_⟩
             refine hK.out _ _ ⟨(blk_cell BK160.out 0).trans rfl, (blk_cell BK160.out 1).trans rfl, hHeld.2.2⟩ (fun hHeld => ?_)
             clear hK K
             refine nA_ ?_
             refine oA_ 6 (some 48) 10 127 (fun K hK => ?_)
             refine value_ (w1 := ?_) (v := ?_) (by rfl) rfl ?_ ?_
             rotate_left 2
             ·go_simp
              constructor
              ·rfl
              ·rfl
             refine hK.out _ _ ⟨(blk_cell (blk_alloc BK160.out _) 0).trans rfl, (blk_cell (blk_alloc BK160.out _) 1).trans rfl, (World.cell?_alloc_lt _ _ _ (World.block_lt_of_cell? _ _ (hHeld.2.2))).trans (hHeld.2.2)⟩ (fun hHeld => ?_)
             clear hK K
             refine nA_ ?_
             refine last_ (i := 7) (N := some 49) (bs 10 255) rfl rfl (one_of HT_.out (by kernel_rfl)) (by decide) (fun K hK => ?_)
             refine Kd.R_append_step (Kd.int .i64) (w0 := w) w.heap.size (by rfl) (.tmp 43) (.tmp 48) 35 3 (.int .i64 0) 8 rfl Tryd.underlying35 info3 rfl (by decide) (by omega) u161001 x161001_1 t180 [.int .i64 t180] (fun k_ => some k_ ≠ (.slice Ao37 y176.length co37 : Value).ownBlock) (fun _ => False) rfl rfl ?aP (fun _ hk => hk.elim) ?aF ?aO ?aB ?aS ?aL ?_
             (case aP => exact rfl)
             (case aB => exact (dn_ HB.out))
             (case aF => exact (fun k_ hk => Kd.fresh' (Kd.R_lt (up_ HO178.out)) k_ hk))
             (case aO => exact (up_ HO_161001.out))
             (case aS => exact (below_size (dn_ HB.out)))
             (case aL => have := LMc32.out; omega)
             intro v182 w41 ho hb hg hat
             rw [← Ny181.out] at ho
             have n0_ := Aside0.mk (Kd.R_over' (up_ HO_14.out) (Kd.R_typed (up_ HO_161001.out)) (by decide) hg)
             have n1_ := Aside0.mk (blk_grown (g := gb159) (o := .cells #[.slice none 0 0, .slice none 0 0] 40 (0, 0)) (up_ BK159.out) hg (Kd.R_ne HO_161001.out BK159.out (by decide)))
             have n2_ := Aside0.mk (blk_grown (g := gb160) (o := .cells #[.slice Ao37 y176.length co37, u161001] 40 (0, 0)) (up_ BK160.out) hg (Kd.R_ne HO_161001.out BK160.out (by decide)))
             have n3_ := Aside0.mk (Kd.R_over' (up_ HO173.out) (Kd.R_typed (up_ HO_161001.out)) (by decide) hg)
             have n4_ := Aside0.mk (Kd.R_after (ok := (fun _ => True)) (by refine lr_ ?_; exact Kd.R_mono HO178.out (fun _ hk => ⟨trivial, hk⟩)) hg hat)
             have n5_ := Aside0.mk (hb)
             have n6_ := Aside0.mk (ho)
             clear HO_14
             clear BK159
             clear BK160
             clear HO173
             clear HO178
             clear HB
             clear HO_161001
             have HO_14 := n0_
             have BK159 := n1_
             have BK160 := n2_
             have HO173 := n3_
             have HO178 := n4_
             have HB := n5_
             have HO183 := n6_
             clear n0_ n1_ n2_ n3_ n4_ n5_ n6_
             clear ho hb hg hat
             obtain ⟨Ao42, co42, eo42⟩ := Kd.R_slice HO183.out
             (first | subst eo42 | (injection eo42 with f1_ f2_ f3_; have f4_ := f1_.symm; have f5_ := f3_.symm; clear f1_ f2_ f3_; subst f4_; subst f5_))
             refine hK.out _ _ ?_
             clear hK K
             refine nA_ ?_
             refine pA_ 8 50 10 511 ?_
             refine last_ (i := 9) (N := none) (bs 10 1023) rfl rfl (one_of HT_.out (by kernel_rfl)) (by decide) (fun K hK => ?_)
             have hs43 : w41.cell? ⟨gb160, 1, none⟩ = some (u161001) := (blk_cell BK160.out 1).trans rfl
             have hfs43 := blk_frozen BK160.out 1
             have hns43_0 := NB159_160.out
             have hms43_0 := NB160_159.out
             refine skip_ (w1 := ?_) (by rfl) rfl ?_ ?_
             rotate_left
             ·go_simp
              rfl
             refine hK.out _ _ ?_
             clear hK K
             refine done_ (done_of HT_.out (by kernel_rfl)) ?_
             try go_wp2
             go_roundg k1
             case measure => have := HK1.out; omega
             case rel => exact ⟨(wrap64 (x16_1 + 1)), (y176), (y181), (.slice Ao37 y176.length co37), (.slice Ao42 y181.length co42), (by first | rfl | (simp; done) | (simp [*]; done)), H', ⟨by have := HK1.out; omega⟩, ⟨by refine lr_ ?_; exact Kd.R_mono (Kd.R_far (p := ⟨gb160, 1, none⟩) (Kd.R_types HO_14.out BK160.out (by decide)) (fun _ hk => hk.2) (.slice Ao42 y181.length co42)) (fun _ hk => trivial)⟩, ⟨by refine lr_ ?_; exact Kd.R_mono (Kd.R_far (p := ⟨gb160, 1, none⟩) (Kd.R_types HO178.out BK160.out (by decide)) (fun _ hk => hk.2) (.slice Ao42 y181.length co42)) (fun _ hk => hk.1.2)⟩, ⟨by refine lr_ ?_; exact Kd.R_mono (Kd.R_far (p := ⟨gb160, 1, none⟩) (Kd.R_types HO183.out BK160.out (by decide)) (fun _ hk => hk.2) (.slice Ao42 y181.length co42)) (fun _ hk => hk.1)⟩, ⟨by refine lk_ ?_; refine blk_far ?_ NB159_160.out _; (with_reducible repeat (first | refine blk_drewN ?_ _ | refine blk_drew ?_ | refine blk_alloc ?_ _)); exact BK159.out⟩, ⟨by refine lk_ ?_; refine blk_put (cs := #[.slice Ao37 y176.length co37, u161001]) ?_ 1 _ rfl; (with_reducible repeat (first | refine blk_drewN ?_ _ | refine blk_drew ?_ | refine blk_alloc ?_ _)); exact BK160.out⟩, ⟨dn_ HB.out⟩⟩
            ·rw [if_neg c32] at H
             exact absurd H (by simp)
           ·rw [if_neg c30] at H
            exact absurd H (by simp)
          ·rw [if_neg c29] at H
           exact absurd H (by simp)
         ·rw [if_neg c27] at H
          exact absurd H (by simp)
        ·rw [if_neg c26] at H
         have c26b0 : ((t171.length : Int) == 2) = false := beq_eq_false_iff_ne.mpr c26
         have c26b1 : ((t171.length : Int) != 2) = true := bne_iff_ne.mpr c26
         simp only [Option.some.injEq, Prod.mk.injEq] at H
         obtain ⟨rfl, rfl, rfl⟩ := H
         have p166 : 0 ≤ (x16_1 : Int) := of_decide_eq_true (by first | (with_reducible assumption) | assumption)
         have q166 : x16_1 < (t161.length : Int) := of_decide_eq_true (by first | (with_reducible assumption) | assumption)
         obtain ⟨ad166, e166, hx166_0⟩ := Kd.at_string (Kd.R_reads' HO_14.out).2.2 x16_1 p166 q166
         cases e166
         replace p166 := eq_true p166
         replace q166 := eq_true q166
         go_wp2_with (first | ((with_reducible refine gate_callee (f := 154) rfl ?_); refine gL_ (some 28) Tryd.func154 #[.string (rdOf ByteArray.empty t161 x16_1), .int .u8 58] ?_; (with_reducible refine (spec_l1Split.calls k1 (rdOf ByteArray.empty t161 x16_1) 58 t171 _ A25.out).mono ?_); rintro e w44 ⟨v172, rfl, ho0, hb⟩; refine ⟨_, rfl, ?_⟩; have HO173 := Aside0.mk (Kd.R_lower (Kd.R_new' ho0 (Kd.R_lt (up_ HO_14.out))) (below_size (dn_ HB.out))); replace HO_14 := re_ HO_14 (Kd.R_base ho0) hb; replace HO_161000 := rb_ HO_161000 hb; replace HO_161001 := rb_ HO_161001 hb; replace BK159 := kb_ BK159 hb; replace BK160 := kb_ BK160 hb; replace HB := bs_ HB hb; (try clear hb); (try clear ho0); obtain ⟨Ao45, co45, eo45⟩ := Kd.R_slice HO173.out; subst eo45; have hnb46 := NB160_159.out; have hnc46 := NB159_160.out; obtain ⟨hcz47_0, hcz47_1, hfz47_0, hfz47_1⟩ := cf2_ BK160; obtain ⟨Ao48, co48, eo48⟩ := Kd.R_slice HO_161000.out; subst eo48; obtain ⟨hcz49_0, hcz49_1, hfz49_0, hfz49_1⟩ := cf2_ BK159; obtain ⟨Ao50, co50, eo50⟩ := Kd.R_slice HO_161001.out; subst eo50))
         refine bodyPost_ret (results_ct rfl _ _ gb159 40 #[.slice Ao48 x161000_1.length co48, .slice Ao50 x161001_1.length co50] (0, 0) _ rfl (by refine lk_ ?_; refine blk_put (cs := #[.slice Ao48 x161000_1.length co48, .slice none 0 0]) ?_ 1 _ rfl; refine lk_ ?_; refine blk_put (cs := #[.slice none 0 0, .slice none 0 0]) ?_ 0 _ rfl; (with_reducible repeat (first | refine blk_drewN ?_ _ | refine blk_drew ?_ | refine blk_alloc ?_ _)); exact BK159.out) Tryd.underlying40 rfl (by kernel_rfl)) rfl ?_
         exact ⟨_, _, by first | rfl | (simp [errW_none, errW_some] <;> rfl) | (simp [*, errW_none, errW_some] <;> rfl), by refine lr_ ?_; exact Kd.R_mono (Kd.R_far (p := ⟨gb159, 1, none⟩) (Kd.R_far (p := ⟨gb159, 0, none⟩) (Kd.R_types HO_161000.out BK159.out (by decide)) (fun _ hk => hk.2) (.slice Ao48 x161000_1.length co48)) (fun _ hk => hk.2) (.slice Ao50 x161001_1.length co50)) (fun _ hk => hk.1), by refine lr_ ?_; exact Kd.R_mono (Kd.R_far (p := ⟨gb159, 1, none⟩) (Kd.R_far (p := ⟨gb159, 0, none⟩) (Kd.R_types HO_161001.out BK159.out (by decide)) (fun _ hk => hk.2) (.slice Ao48 x161000_1.length co48)) (fun _ hk => hk.2) (.slice Ao50 x161001_1.length co50)) (fun _ hk => hk.1), dn_ HB.out⟩
      ·rw [if_neg c17] at H
       exact absurd H (by simp)
     ·rw [if_neg c16] at H
      exact absurd H (by simp)
    ·rw [if_neg c15] at H
     have c15b0 : decide (x16_1 < (t161.length : Int)) = false := decide_eq_false c15
     clear c15
     replace H := Option.bind_eq_some_iff.mp H
     obtain ⟨t164, A510, H⟩ := H
     try dsimp only at H
     have A51 := Aside0.mk A510
     clear A510
     by_cases c52 : t164 = true
     ·subst c52
      rw [if_pos rfl] at H
      replace H := Option.bind_eq_some_iff.mp H
      obtain ⟨t165, A530, H⟩ := H
      try dsimp only at H
      have A53 := Aside0.mk A530
      clear A530
      simp only [Option.some.injEq, Prod.mk.injEq] at H
      obtain ⟨rfl, rfl, rfl⟩ := H
      try go_wp2
      replace HO_14 := Aside0.mk (Kd.R_drew HO_14.out)
      replace HO_161000 := Aside0.mk (Kd.R_drew HO_161000.out)
      replace HO_161001 := Aside0.mk (Kd.R_drew HO_161001.out)
      replace BK159 := Aside0.mk (blk_drew BK159.out)
      replace BK160 := Aside0.mk (blk_drew BK160.out)
      replace HB := Aside0.mk (below_drew1 HB.out)
      obtain ⟨Ao55, co55, eo55⟩ := Kd.R_slice HO_161000.out
      (first | subst eo55 | (injection eo55 with f1_ f2_ f3_; have f4_ := f1_.symm; have f5_ := f3_.symm; clear f1_ f2_ f3_; subst f4_; subst f5_))
      obtain ⟨Ao56, co56, eo56⟩ := Kd.R_slice HO_161001.out
      (first | subst eo56 | (injection eo56 with f1_ f2_ f3_; have f4_ := f1_.symm; have f5_ := f3_.symm; clear f1_ f2_ f3_; subst f4_; subst f5_))
      refine start_ (n := 11) (S := fun w' => w'.cell? ⟨gb160, 0, none⟩ = some (.slice Ao55 x161000_1.length co55) ∧ w'.cell? ⟨gb160, 1, none⟩ = some (.slice Ao56 x161001_1.length co56)) (ds := []) (bs 11 0) (by kernel_rfl) rfl (by kernel_rfl) ⟨(blk_cell BK160.out 0).trans rfl, (blk_cell BK160.out 1).trans rfl⟩ (fun hHeld => ?_); refine with_tabW spec_ldParse.tab15 spec_ldParse.bits15 (fun HT_ HW_ => ?_)
      generalize wr.drew = w54 at HO_14 HO_161000 HO_161001 BK159 BK160 HB hHeld ⊢
      refine tA2_ 0 52 11 1 ?_
      refine tA2_ 1 53 11 3 ?_
      refine oA_ 2 (some 54) 11 7 (fun K hK => ?_)
      refine gE_ Tryd.func112 #[.agg #[.slice Ao55 x161000_1.length co55, .slice Ao56 x161001_1.length co56]] ?_
      with_reducible refine (spec_ldGood.calls k1 _ _ x161000_1 _ _ x161001_1 true _ ?side1 ?side2 ?side3 ?side4 A51.out).mono ?_
      (case side1 => exact cs_ (Kd.R_reads' HO_161000.out).2.2)
      (case side2 => exact (Kd.R_reads' HO_161000.out).2.1)
      (case side3 => exact cs_ (Kd.R_reads' HO_161001.out).2.2)
      (case side4 => exact (Kd.R_reads' HO_161001.out).2.1)
      rintro e w57 ⟨rfl, hb⟩
      refine ⟨_, rfl, ?_⟩
      replace HO_14 := rb_ HO_14 hb
      replace HO_161000 := rb_ HO_161000 hb
      replace HO_161001 := rb_ HO_161001 hb
      replace BK159 := kb_ BK159 hb
      replace BK160 := kb_ BK160 hb
      replace HB := bs_ HB hb
      (try clear hb)
      (try clear hb2)
      (try clear hk)
      (try clear hi)
      refine hK.out _ _ ⟨(blk_cell BK160.out 0).trans rfl, (blk_cell BK160.out 1).trans rfl⟩ (fun hHeld => ?_)
      clear hK K
      refine nA_ ?_
      refine pA_ 3 55 11 15 ?_
      refine pA_ 6 58 11 79 ?_
      refine tA2_ 4 56 11 95 ?_
      refine oA_ 5 (some 57) 11 127 (fun K hK => ?_)
      refine gE_ Tryd.func113 #[.agg #[.slice Ao55 x161000_1.length co55, .slice Ao56 x161001_1.length co56]] ?_
      with_reducible refine (spec_ldText.calls k1 _ _ x161000_1 _ _ x161001_1 t165 _ ?side1 ?side2 ?side3 ?side4 A53.out).mono ?_
      (case side1 => exact cs_ (Kd.R_reads' HO_161000.out).2.2)
      (case side2 => exact (Kd.R_reads' HO_161000.out).2.1)
      (case side3 => exact cs_ (Kd.R_reads' HO_161001.out).2.2)
      (case side4 => exact (Kd.R_reads' HO_161001.out).2.1)
      rintro e w58 ⟨rfl, hb⟩
      refine ⟨_, rfl, ?_⟩
      replace HO_14 := rb_ HO_14 hb
      replace HO_161000 := rb_ HO_161000 hb
      replace HO_161001 := rb_ HO_161001 hb
      replace BK159 := kb_ BK159 hb
      replace BK160 := kb_ BK160 hb
      replace HB := bs_ HB hb
      (try clear hb)
      (try clear hb2)
      (try clear hk)
      (try clear hi)
      refine hK.out _ _ ⟨(blk_cell BK160.out 0).trans rfl, (blk_cell BK160.out 1).trans rfl⟩ (fun hHeld => ?_)
      clear hK K
      refine nA_ ?_
      refine pA_ 7 59 11 255 ?_
      refine pA_ 8 60 11 511 ?_
      refine oA_ 9 none 11 1023 (fun K hK => ?_)
      have hs59 : w58.cell? ⟨gb159, 0, none⟩ = some (.slice none 0 0) := (blk_cell BK159.out 0).trans rfl
      have hfs59 := blk_frozen BK159.out 0
      have hns59_1 := NB160_159.out
      have hms59_1 := NB159_160.out
      have hs60 : w58.cell? ⟨gb159, 1, none⟩ = some (.slice none 0 0) := (blk_cell BK159.out 1).trans rfl
      have hfs60 := blk_frozen BK159.out 1
      have hns60_1 := NB160_159.out
      have hms60_1 := NB159_160.out
      refine skip_ (w1 := ?_) (by rfl) rfl ?_ ?_
      rotate_left
      ·go_simp
       rfl
      refine hK.out _ _ ⟨((cell_far (p := ⟨gb159, _, none⟩) NB160_159.out _).trans (((cell_far (p := ⟨gb159, _, none⟩) NB160_159.out _).trans (hHeld.1)))), ((cell_far (p := ⟨gb159, _, none⟩) NB160_159.out _).trans (((cell_far (p := ⟨gb159, _, none⟩) NB160_159.out _).trans (hHeld.2))))⟩ (fun hHeld => ?_)
      clear hK K
      refine pA_ 10 3 11 2047 ?_
      refine done_ (done_of HT_.out (by kernel_rfl)) ?_
      try go_wp2
      refine bodyPost_ret (results_ct rfl _ _ gb159 40 #[.slice Ao55 x161000_1.length co55, .slice Ao56 x161001_1.length co56] (0, 0) _ rfl (by refine lk_ ?_; refine blk_put (cs := #[.slice Ao55 x161000_1.length co55, .slice none 0 0]) ?_ 1 _ rfl; refine lk_ ?_; refine blk_put (cs := #[.slice none 0 0, .slice none 0 0]) ?_ 0 _ rfl; (with_reducible repeat (first | refine blk_drewN ?_ _ | refine blk_drew ?_ | refine blk_alloc ?_ _)); exact BK159.out) Tryd.underlying40 rfl (by kernel_rfl)) rfl ?_
      exact ⟨_, _, by first | rfl | (simp [errW_none, errW_some] <;> rfl) | (simp [*, errW_none, errW_some] <;> rfl), by refine lr_ ?_; exact Kd.R_mono (Kd.R_far (p := ⟨gb159, 1, none⟩) (Kd.R_far (p := ⟨gb159, 0, none⟩) (Kd.R_types HO_161000.out BK159.out (by decide)) (fun _ hk => hk.2) (.slice Ao55 x161000_1.length co55)) (fun _ hk => hk.2) (.slice Ao56 x161001_1.length co56)) (fun _ hk => hk.1), by refine lr_ ?_; exact Kd.R_mono (Kd.R_far (p := ⟨gb159, 1, none⟩) (Kd.R_far (p := ⟨gb159, 0, none⟩) (Kd.R_types HO_161001.out BK159.out (by decide)) (fun _ hk => hk.2) (.slice Ao55 x161000_1.length co55)) (fun _ hk => hk.2) (.slice Ao56 x161001_1.length co56)) (fun _ hk => hk.1), dn_ HB.out⟩
     ·replace c52 := Bool.eq_false_iff.mpr c52
      subst c52
      rw [if_neg (show ¬ (false = true) by decide)] at H
      simp only [Option.some.injEq, Prod.mk.injEq] at H
      obtain ⟨rfl, rfl, rfl⟩ := H
      try go_wp2
      replace HO_14 := Aside0.mk (Kd.R_drew HO_14.out)
      replace HO_161000 := Aside0.mk (Kd.R_drew HO_161000.out)
      replace HO_161001 := Aside0.mk (Kd.R_drew HO_161001.out)
      replace BK159 := Aside0.mk (blk_drew BK159.out)
      replace BK160 := Aside0.mk (blk_drew BK160.out)
      replace HB := Aside0.mk (below_drew1 HB.out)
      obtain ⟨Ao62, co62, eo62⟩ := Kd.R_slice HO_161000.out
      (first | subst eo62 | (injection eo62 with f1_ f2_ f3_; have f4_ := f1_.symm; have f5_ := f3_.symm; clear f1_ f2_ f3_; subst f4_; subst f5_))
      obtain ⟨Ao63, co63, eo63⟩ := Kd.R_slice HO_161001.out
      (first | subst eo63 | (injection eo63 with f1_ f2_ f3_; have f4_ := f1_.symm; have f5_ := f3_.symm; clear f1_ f2_ f3_; subst f4_; subst f5_))
      refine start_ (n := 11) (S := fun w' => w'.cell? ⟨gb160, 0, none⟩ = some (.slice Ao62 x161000_1.length co62) ∧ w'.cell? ⟨gb160, 1, none⟩ = some (.slice Ao63 x161001_1.length co63)) (ds := []) (bs 11 0) (by kernel_rfl) rfl (by kernel_rfl) ⟨(blk_cell BK160.out 0).trans rfl, (blk_cell BK160.out 1).trans rfl⟩ (fun hHeld => ?_); refine with_tabW spec_ldParse.tab15 spec_ldParse.bits15 (fun HT_ HW_ => ?_)
      generalize wr.drew = w61 at HO_14 HO_161000 HO_161001 BK159 BK160 HB hHeld ⊢
      refine tA2_ 0 52 11 1 ?_
      refine tA2_ 1 53 11 3 ?_
      refine oA_ 2 (some 54) 11 7 (fun K hK => ?_)
      refine gE_ Tryd.func112 #[.agg #[.slice Ao62 x161000_1.length co62, .slice Ao63 x161001_1.length co63]] ?_
      with_reducible refine (spec_ldGood.calls k1 _ _ x161000_1 _ _ x161001_1 false _ ?side1 ?side2 ?side3 ?side4 A51.out).mono ?_
      (case side1 => exact cs_ (Kd.R_reads' HO_161000.out).2.2)
      (case side2 => exact (Kd.R_reads' HO_161000.out).2.1)
      (case side3 => exact cs_ (Kd.R_reads' HO_161001.out).2.2)
      (case side4 => exact (Kd.R_reads' HO_161001.out).2.1)
      rintro e w64 ⟨rfl, hb⟩
      refine ⟨_, rfl, ?_⟩
      replace HO_14 := rb_ HO_14 hb
      replace HO_161000 := rb_ HO_161000 hb
      replace HO_161001 := rb_ HO_161001 hb
      replace BK159 := kb_ BK159 hb
      replace BK160 := kb_ BK160 hb
      replace HB := bs_ HB hb
      (try clear hb)
      (try clear hb2)
      (try clear hk)
      (try clear hi)
      refine hK.out _ _ ⟨(blk_cell BK160.out 0).trans rfl, (blk_cell BK160.out 1).trans rfl⟩ (fun hHeld => ?_)
      clear hK K
      refine nA_ ?_
      refine pA_ 3 55 11 15 ?_
      refine pure_ (i := 4) (N := some 56) (v := undef) (a' := ?_) (bs 11 31) rfl rfl (any_of HT_.out (by kernel_rfl)) (fun _ _ _ h => h) (Or.inr ⟨by rfl, rfl⟩) ?_ ?_
      rotate_left
      ·simp only [Act.put, List.setIfInBounds_toArray, List.set_cons_zero, List.set_cons_succ, i64_w, i32_w]
       rfl
      refine pure_ (i := 5) (N := some 57) (v := undef) (a' := ?_) (bs 11 63) rfl rfl (any_of HT_.out (by kernel_rfl)) (fun _ _ _ h => h) (Or.inr ⟨by rfl, rfl⟩) ?_ ?_
      rotate_left
      ·simp only [Act.put, List.setIfInBounds_toArray, List.set_cons_zero, List.set_cons_succ, i64_w, i32_w]
       rfl
      refine pure_ (i := 6) (N := some 58) (v := undef) (a' := ?_) (bs 11 127) rfl rfl (any_of HT_.out (by kernel_rfl)) (fun _ _ _ h => h) (Or.inr ⟨by rfl, rfl⟩) ?_ ?_
      rotate_left
      ·simp only [Act.put, List.setIfInBounds_toArray, List.set_cons_zero, List.set_cons_succ, i64_w, i32_w]
       rfl
      refine pure_ (i := 7) (N := some 59) (v := undef) (a' := ?_) (bs 11 255) rfl rfl (any_of HT_.out (by kernel_rfl)) (fun _ _ _ h => h) (Or.inr ⟨by rfl, rfl⟩) ?_ ?_
      rotate_left
      ·simp only [Act.put, List.setIfInBounds_toArray, List.set_cons_zero, List.set_cons_succ, i64_w, i32_w]
       rfl
      refine pA_ 8 60 11 511 ?_
      refine oA_ 9 none 11 1023 (fun K hK => ?_)
      have hs65 : w64.cell? ⟨gb159, 0, none⟩ = some (.slice none 0 0) := (blk_cell BK159.out 0).trans rfl
      have hfs65 := blk_frozen BK159.out 0
      have hns65_1 := NB160_159.out
      have hms65_1 := NB159_160.out
      have hs66 : w64.cell? ⟨gb159, 1, none⟩ = some (.slice none 0 0) := (blk_cell BK159.out 1).trans rfl
      have hfs66 := blk_frozen BK159.out 1
      have hns66_1 := NB160_159.out
      have hms66_1 := NB159_160.out
      refine skip_ (w1 := ?_) (by rfl) rfl ?_ ?_
      rotate_left
      ·go_simp
       rfl
      refine hK.out _ _ ⟨((cell_far (p := ⟨gb159, _, none⟩) NB160_159.out _).trans (((cell_far (p := ⟨gb159, _, none⟩) NB160_159.out _).trans (hHeld.1)))), ((cell_far (p := ⟨gb159, _, none⟩) NB160_159.out _).trans (((cell_far (p := ⟨gb159, _, none⟩) NB160_159.out _).trans (hHeld.2))))⟩ (fun hHeld => ?_)
      clear hK K
      refine pA_ 10 3 11 2047 ?_
      refine done_ (done_of HT_.out (by kernel_rfl)) ?_
      try go_wp2
      refine bodyPost_ret (results_ct rfl _ _ gb159 40 #[.slice Ao62 x161000_1.length co62, .slice Ao63 x161001_1.length co63] (0, 0) _ rfl (by refine lk_ ?_; refine blk_put (cs := #[.slice Ao62 x161000_1.length co62, .slice none 0 0]) ?_ 1 _ rfl; refine lk_ ?_; refine blk_put (cs := #[.slice none 0 0, .slice none 0 0]) ?_ 0 _ rfl; (with_reducible repeat (first | refine blk_drewN ?_ _ | refine blk_drew ?_ | refine blk_alloc ?_ _)); exact BK159.out) Tryd.underlying40 rfl (by kernel_rfl)) rfl ?_
      exact ⟨_, _, by first | rfl | (simp [errW_none, errW_some] <;> rfl) | (simp [*, errW_none, errW_some] <;> rfl), by refine lr_ ?_; exact Kd.R_mono (Kd.R_far (p := ⟨gb159, 1, none⟩) (Kd.R_far (p := ⟨gb159, 0, none⟩) (Kd.R_types HO_161000.out BK159.out (by decide)) (fun _ hk => hk.2) (.slice Ao62 x161000_1.length co62)) (fun _ hk => hk.2) (.slice Ao63 x161001_1.length co63)) (fun _ hk => hk.1), by refine lr_ ?_; exact Kd.R_mono (Kd.R_far (p := ⟨gb159, 1, none⟩) (Kd.R_far (p := ⟨gb159, 0, none⟩) (Kd.R_types HO_161001.out BK159.out (by decide)) (fun _ hk => hk.2) (.slice Ao62 x161000_1.length co62)) (fun _ hk => hk.2) (.slice Ao63 x161001_1.length co63)) (fun _ hk => hk.1), dn_ HB.out⟩
end Go.Proofs.YtbmdgmmegchmnaaDoor.B
namespace Go.Proofs.YtbmdgmmegchmnaaDoor.B
open Go.RowKit Go.Proofs.YtbmdgmmegchmnaaDoorW.PrintWords Go.Proofs.YtbmdgmmegchmnaaDoorW.PrintLast Go.Proofs.YtbmdgmmegchmnaaDoorW.PrintMore
attribute [local go_sem] max2_int min2_int max_two min_two max_three min_three max_four min_four
set_option linter.unusedVariables false
set_option linter.unusedSimpArgs false
def spec_ParseHouse.f (k : Nat) (a0 : ByteArray) : Option (List Int × List Int × Bool) := (spec_ldParse.f k a0).bind fun bt185 => (if bt185.2.2 = true then (some (bt185.1, bt185.2.1, true)) else (some (([] : List Int), ([] : List Int), false)))
set_option maxHeartbeats 8000000 in
set_option maxRecDepth 100000 in
theorem spec_ParseHouse.calls (k : Nat) (a0 : ByteArray) (r1 : List Int) (r2 : List Int) (r3 : Bool) (w : World) (h : spec_ParseHouse.f k a0 = some (r1, r2, r3)) :
 Calls Tryd.prog 29 #[.string a0] w fun e w' => ∃ v0_ v1_ : Value, e = .returned (.tuple #[.agg #[v0_, v1_], .bool r3]) ∧ Kd.R (Kd.int .i64) 3 w' w.heap.size (fun k_ => some k_ ≠ (v1_ : Value).ownBlock) v0_ r1 ∧ Kd.R (Kd.int .i64) 3 w' w.heap.size (fun k_ => some k_ ≠ (v0_ : Value).ownBlock) v1_ r2 ∧ Below w.heap.size w w' := by
 have hu40 := Tryd.underlying40
 have HB := Aside0.mk (Below.refl w.heap.size w)
 have H : ((spec_ldParse.f k a0).bind fun bt185 => (if bt185.2.2 = true then (some (bt185.1, bt185.2.1, true)) else (some (([] : List Int), ([] : List Int), false)))) = some (r1, r2, r3) := h
 clear h
 replace H := Option.bind_eq_some_iff.mp H
 obtain ⟨⟨t185, t188, t191⟩, A20, H⟩ := H
 try dsimp only at H
 have A2 := Aside0.mk A20
 clear A20
 by_cases c3 : t191 = true
 ·subst c3
  rw [if_pos rfl] at H
  simp only [Option.some.injEq, Prod.mk.injEq] at H
  obtain ⟨rfl, rfl, rfl⟩ := H
  go_enter Tryd.func29, Tryd.ntmps29
  go_wp2_with (first | ((with_reducible refine gate_dst (N := 2) rfl ?_); refine bx_ 2 #[.slice none 0 0, .slice none 0 0] 40 ?_; intro gb184 hg w4 hbox hb; have BK184 := Aside0.mk (hbox); have GW184 := gw_ HB hg; have GE184 := GW184; replace HB := bs_ HB hb; clear hb hbox hg) | ((with_reducible refine gate_callee (f := 120) rfl ?_); refine gL_ (some 8) Tryd.func120 #[.string a0] ?_; (with_reducible refine (spec_ldParse.calls k a0 t185 t188 true _ A2.out).mono ?_); rintro e w5 ⟨v186, v189, rfl, ho0, ho1, hb⟩; refine ⟨_, rfl, ?_⟩; have HO187 := Aside0.mk (Kd.R_lower ho0 (below_size (dn_ HB.out))); have HO190 := Aside0.mk (Kd.R_lower ho1 (below_size (dn_ HB.out))); replace BK184 := kb_ BK184 hb; replace HB := bs_ HB hb; (try clear hb); (try clear ho0)) | ((with_reducible refine gate_dst (N := 4) rfl ?_); refine bx_ 4 #[.slice none 0 0, .slice none 0 0] 40 ?_; intro gb192 hg w6 hbox hb; have BK192 := Aside0.mk (hbox); have GW192 := gw_ HB hg; have GE192 := GW192; have NB184_192 := nl_ BK184 hg; have NB192_184 := nr_ BK184 hg; replace HO187 := rb_ HO187 hb; replace HO190 := rb_ HO190 hb; replace BK184 := kb_ BK184 hb; replace HB := bs_ HB hb; clear hb hbox hg; obtain ⟨Ao7, co7, eo7⟩ := Kd.R_slice HO187.out; subst eo7; have hnb8 := NB192_184.out; have hnc8 := NB184_192.out; obtain ⟨hcz9_0, hcz9_1, hfz9_0, hfz9_1⟩ := cf2_ BK192; obtain ⟨Ao10, co10, eo10⟩ := Kd.R_slice HO190.out; subst eo10; obtain ⟨hcz11_0, hcz11_1, hfz11_0, hfz11_1⟩ := cf2_ BK184))
  refine bodyPost_ret (results_ct rfl _ _ gb184 40 #[.slice Ao7 t185.length co7, .slice Ao10 t188.length co10] (0, 0) _ rfl (by refine lk_ ?_; refine blk_put (cs := #[.slice Ao7 t185.length co7, .slice none 0 0]) ?_ 1 _ rfl; refine lk_ ?_; refine blk_put (cs := #[.slice none 0 0, .slice none 0 0]) ?_ 0 _ rfl; refine lk_ ?_; refine blk_far ?_ NB184_192.out _; refine lk_ ?_; refine blk_far ?_ NB184_192.out _; (with_reducible repeat (first | refine blk_drewN ?_ _ | refine blk_drew ?_ | refine blk_alloc ?_ _)); exact BK184.out) Tryd.underlying40 rfl (by kernel_rfl)) rfl ?_
  exact ⟨_, _, by first | rfl | (simp [errW_none, errW_some] <;> rfl) | (simp [*, errW_none, errW_some] <;> rfl), by refine lr_ ?_; exact Kd.R_mono (Kd.R_far (p := ⟨gb184, 1, none⟩) (Kd.R_far (p := ⟨gb184, 0, none⟩) (Kd.R_far (p := ⟨gb192, 1, none⟩) (Kd.R_far (p := ⟨gb192, 0, none⟩) (Kd.R_types (Kd.R_types HO187.out BK192.out (by decide)) BK184.out (by decide)) (fun _ hk => hk.1.2) (.slice Ao7 t185.length co7)) (fun _ hk => hk.1.2) (.slice Ao10 t188.length co10)) (fun _ hk => hk.2) (.slice Ao7 t185.length co7)) (fun _ hk => hk.2) (.slice Ao10 t188.length co10)) (fun _ hk => hk.1.1), by refine lr_ ?_; exact Kd.R_mono (Kd.R_far (p := ⟨gb184, 1, none⟩) (Kd.R_far (p := ⟨gb184, 0, none⟩) (Kd.R_far (p := ⟨gb192, 1, none⟩) (Kd.R_far (p := ⟨gb192, 0, none⟩) (Kd.R_types (Kd.R_types HO190.out BK192.out (by decide)) BK184.out (by decide)) (fun _ hk => hk.1.2) (.slice Ao7 t185.length co7)) (fun _ hk => hk.1.2) (.slice Ao10 t188.length co10)) (fun _ hk => hk.2) (.slice Ao7 t185.length co7)) (fun _ hk => hk.2) (.slice Ao10 t188.length co10)) (fun _ hk => hk.1.1), dn_ HB.out⟩
 ·replace c3 := Bool.eq_false_iff.mpr c3
  subst c3
  rw [if_neg (show ¬ (false = true) by decide)] at H
  simp only [Option.some.injEq, Prod.mk.injEq] at H
  obtain ⟨rfl, rfl, rfl⟩ := H
  go_enter Tryd.func29, Tryd.ntmps29
  go_wp2_with (first | ((with_reducible refine gate_dst (N := 2) rfl ?_); refine bx_ 2 #[.slice none 0 0, .slice none 0 0] 40 ?_; intro gb184 hg w12 hbox hb; have BK184 := Aside0.mk (hbox); have GW184 := gw_ HB hg; have GE184 := GW184; replace HB := bs_ HB hb; clear hb hbox hg) | ((with_reducible refine gate_callee (f := 120) rfl ?_); refine gL_ (some 8) Tryd.func120 #[.string a0] ?_; (with_reducible refine (spec_ldParse.calls k a0 t185 t188 false _ A2.out).mono ?_); rintro e w13 ⟨v186, v189, rfl, ho0, ho1, hb⟩; refine ⟨_, rfl, ?_⟩; have HO187 := Aside0.mk (Kd.R_lower ho0 (below_size (dn_ HB.out))); have HO190 := Aside0.mk (Kd.R_lower ho1 (below_size (dn_ HB.out))); replace BK184 := kb_ BK184 hb; replace HB := bs_ HB hb; (try clear hb); (try clear ho0)) | ((with_reducible refine gate_dst (N := 4) rfl ?_); refine bx_ 4 #[.slice none 0 0, .slice none 0 0] 40 ?_; intro gb192 hg w14 hbox hb; have BK192 := Aside0.mk (hbox); have GW192 := gw_ HB hg; have GE192 := GW192; have NB184_192 := nl_ BK184 hg; have NB192_184 := nr_ BK184 hg; replace HO187 := rb_ HO187 hb; replace HO190 := rb_ HO190 hb; replace BK184 := kb_ BK184 hb; replace HB := bs_ HB hb; clear hb hbox hg; obtain ⟨Ao15, co15, eo15⟩ := Kd.R_slice HO187.out; subst eo15; have hnb16 := NB192_184.out; have hnc16 := NB184_192.out; obtain ⟨hcz17_0, hcz17_1, hfz17_0, hfz17_1⟩ := cf2_ BK192; obtain ⟨Ao18, co18, eo18⟩ := Kd.R_slice HO190.out; subst eo18; obtain ⟨hcz19_0, hcz19_1, hfz19_0, hfz19_1⟩ := cf2_ BK184))
  refine bodyPost_ret (results_ct rfl _ _ gb184 40 #[.slice none 0 0, .slice none 0 0] (0, 0) _ rfl (by refine lk_ ?_; refine blk_put (cs := #[.slice none 0 0, .slice none 0 0]) ?_ 1 _ rfl; refine lk_ ?_; refine blk_put (cs := #[.slice none 0 0, .slice none 0 0]) ?_ 0 _ rfl; refine lk_ ?_; refine blk_far ?_ NB184_192.out _; refine lk_ ?_; refine blk_far ?_ NB184_192.out _; (with_reducible repeat (first | refine blk_drewN ?_ _ | refine blk_drew ?_ | refine blk_alloc ?_ _)); exact BK184.out) Tryd.underlying40 rfl (by kernel_rfl)) rfl ?_
  exact ⟨_, _, by first | rfl | (simp [errW_none, errW_some] <;> rfl) | (simp [*, errW_none, errW_some] <;> rfl), by first | exact Kd.R_nil _ _ _ _ _ | exact Kd.N_nil _ _ _ _ _ | exact Kd.V_nil _ _ _ _ _ | exact Kd.Q_nil _ _ _ _ _ | exact Kd.S_nil _ _ _ _ _, by first | exact Kd.R_nil _ _ _ _ _ | exact Kd.N_nil _ _ _ _ _ | exact Kd.V_nil _ _ _ _ _ | exact Kd.Q_nil _ _ _ _ _ | exact Kd.S_nil _ _ _ _ _, dn_ HB.out⟩
end Go.Proofs.YtbmdgmmegchmnaaDoor.B
namespace Go.Proofs.YtbmdgmmegchmnaaDoor.B
open Go.RowKit Go.Proofs.YtbmdgmmegchmnaaDoorW.PrintWords Go.Proofs.YtbmdgmmegchmnaaDoorW.PrintLast Go.Proofs.YtbmdgmmegchmnaaDoorW.PrintMore
attribute [local go_sem] max2_int min2_int max_two min_two max_three min_three max_four min_four
set_option linter.unusedVariables false
set_option linter.unusedSimpArgs false
def strings_Cut.f (a0 a1 : ByteArray) : Option (ByteArray × ByteArray × Bool) :=
 if a0.size < 4294967281 then some ((⟨(Lib.cut a0.data.toList a1.data.toList).1.toArray⟩ : ByteArray), (⟨(Lib.cut a0.data.toList a1.data.toList).2.1.toArray⟩ : ByteArray), (Lib.cut a0.data.toList a1.data.toList).2.2) else none
theorem below_drewN (w : World) (k : Nat) : Below w.heap.size w (w.drewN k) := ⟨rfl, rfl, rfl, Nat.le_refl _, fun _ _ => rfl⟩
theorem strings_Cut.calls (a0 a1 : ByteArray) (r1 r2 : ByteArray) (r3 : Bool) (w : World) (h : strings_Cut.f a0 a1 = some (r1, r2, r3)) (LA : Laid w) :
 Calls Tryd.prog 117 #[.string a0, .string a1] w fun e w' => e = .returned (.tuple #[.string r1, .string r2, .bool r3]) ∧ Below w.heap.size w w' := by
 unfold strings_Cut.f at h
 by_cases c : a0.size < 4294967281
 ·rw [if_pos c] at h
  have e := Option.some.inj h
  obtain ⟨m, hm⟩ := LA.2.1
  obtain ⟨rfl, e2⟩ := Prod.mk.inj e
  obtain ⟨rfl, rfl⟩ := Prod.mk.inj e2
  refine (Tryd.strings_Cut a0 a1 m w c hm).mono ?_
  rintro e w' ⟨rfl, n, rfl⟩
  exact ⟨rfl, below_drewN w n⟩
 ·rw [if_neg c] at h
  cases h
end Go.Proofs.YtbmdgmmegchmnaaDoor.B
namespace Go.Proofs.YtbmdgmmegchmnaaDoor.B
open Go.RowKit Go.Proofs.YtbmdgmmegchmnaaDoorW.PrintWords Go.Proofs.YtbmdgmmegchmnaaDoorW.PrintLast Go.Proofs.YtbmdgmmegchmnaaDoorW.PrintMore
attribute [local go_sem] max2_int min2_int max_two min_two max_three min_three max_four min_four
set_option linter.unusedVariables false
set_option linter.unusedSimpArgs false
def numOf (l : List UInt8) : Int :=
 match Lib.atoiAll l with
 | .ok v => if v < 0 then -1 else if 999999 < v then -1 else if Lib.itoa v = l then v else -1
 | _ => -1
def impl_num.f (a0 : ByteArray) : Option Int := if a0.size ≤ 281474976710656 then some (numOf a0.data.toList) else none
set_option maxHeartbeats 1000000 in
theorem impl_num.calls (a0 : ByteArray) (r : Int) (w : World) (h : impl_num.f a0 = some r) (LA : Laid w) :
 Calls Tryd.prog 118 #[.string a0] w fun e w' => e = .returned (.int .i64 r) ∧ Below w.heap.size w w' := by
 unfold impl_num.f at h
 by_cases c : a0.size ≤ 281474976710656
 ·rw [if_pos c] at h
  obtain rfl := Option.some.inj h
  clear h
  have HLA := Aside0.mk LA
  clear LA
  rcases hA : Lib.atoiAll a0.data.toList with v | _ | _
  rotate_left
  ·have e1 : numOf a0.data.toList = -1 := by unfold numOf; rw [hA]
   rw [e1]
   obtain ⟨tp, p, hv⟩ := HLA.out.2.2.1
   have cA := Tryd.strconv_Atoi_syntax_var a0 c hA tp p w hv
   clear hA e1 hv
   go_enter Tryd.func118, Tryd.ntmps118
   go_wp2_with (go_at_call 157; refine cA.mono ?_; rintro e w1 ⟨N, rfl, hN0, hN, hb⟩)
   go_ret
   exact ⟨rfl, hb⟩
  ·have e1 : numOf a0.data.toList = -1 := by unfold numOf; rw [hA]
   rw [e1]
   obtain ⟨tp, p, hv⟩ := HLA.out.2.2.2
   have cA := Tryd.strconv_Atoi_range_var a0 c hA tp p w hv
   clear hA e1 hv
   go_enter Tryd.func118, Tryd.ntmps118
   go_wp2_with (go_at_call 157; refine cA.mono ?_; rintro e w1 ⟨N, rfl, hN0, hN, hb⟩)
   go_ret
   exact ⟨rfl, hb⟩
  ·obtain ⟨b0, b1⟩ := Lib.atoiAll_bounds hA
   have cA : Calls Tryd.prog 157 #[.string a0] w fun e w' => e = .returned (.tuple #[.int .i64 v, .nilIface]) ∧ Below w.heap.size w w' :=
    (Tryd.strconv_Atoi_ok a0 (by omega) v hA w).mono fun e w' ⟨he, hw⟩ => ⟨he, by
     rcases hw with rfl | ⟨t, rfl⟩
     ·exact Below.refl _ _
     ·exact Lib.bytesWorld_below _ _ _⟩
   have cI := fun (W : World) (hb : Below w.heap.size w W) => strconv_Itoa_108.calls v _ W (by unfold strconv_Itoa_108.f; rw [if_pos ⟨b0, b1⟩]) (HLA.out.below hb)
   have e0 : numOf a0.data.toList = if v < 0 then -1 else if 999999 < v then -1 else if Lib.itoa v = a0.data.toList then v else -1 := by unfold numOf; rw [hA]
   rw [e0]
   clear hA e0
   by_cases c1 : v < 0
   ·rw [if_pos c1]
    go_enter Tryd.func118, Tryd.ntmps118
    go_wp2_with (go_at_call 157; refine cA.mono ?_; rintro e w1 ⟨rfl, hb⟩)
    go_ret
    exact ⟨rfl, hb⟩
   ·rw [if_neg c1]
    by_cases c2 : 999999 < v
    ·rw [if_pos c2]
     go_enter Tryd.func118, Tryd.ntmps118
     go_wp2_with (go_at_call 157; refine cA.mono ?_; rintro e w1 ⟨rfl, hb⟩)
     go_ret
     exact ⟨rfl, hb⟩
    ·rw [if_neg c2]
     by_cases c3 : Lib.itoa v = a0.data.toList
     ·rw [if_pos c3]
      have cb : (Lib.itoa v == a0.toList) = true := by rw [ByteArray.toList_eq]; simp [c3]
      have c1' : 0 ≤ v := by omega
      have c2' : v ≤ 999999 := by omega
      clear c3
      go_enter Tryd.func118, Tryd.ntmps118
      go_wp2_with (first | (go_at_call 157; refine cA.mono ?_; rintro e w1 ⟨rfl, hb⟩) | (go_at_call 108; refine (cI _ hb).mono ?_; rintro e w2 ⟨rfl, hb2⟩))
      go_ret
      exact ⟨rfl, hb.trans (hb2.mono hb.size)⟩
     ·rw [if_neg c3]
      have cb : (Lib.itoa v == a0.toList) = false := by rw [ByteArray.toList_eq]; simp [c3]
      have c1' : 0 ≤ v := by omega
      have c2' : v ≤ 999999 := by omega
      clear c3
      go_enter Tryd.func118, Tryd.ntmps118
      go_wp2_with (first | (go_at_call 157; refine cA.mono ?_; rintro e w1 ⟨rfl, hb⟩) | (go_at_call 108; refine (cI _ hb).mono ?_; rintro e w2 ⟨rfl, hb2⟩))
      go_ret
      exact ⟨rfl, hb.trans (hb2.mono hb.size)⟩
 ·rw [if_neg c] at h
  cases h
end Go.Proofs.YtbmdgmmegchmnaaDoor.B
namespace Go.Proofs.YtbmdgmmegchmnaaDoor.B
open Go.RowKit Go.Proofs.YtbmdgmmegchmnaaDoorW.PrintWords Go.Proofs.YtbmdgmmegchmnaaDoorW.PrintLast Go.Proofs.YtbmdgmmegchmnaaDoorW.PrintMore
attribute [local go_sem] max2_int min2_int max_two min_two max_three min_three max_four min_four
set_option linter.unusedVariables false
set_option linter.unusedSimpArgs false
def spec_HouseText.f (k : Nat) (l0_0 : List Int) (l0_1 : List Int) : Option (ByteArray × Bool) := (spec_ldGood.f k l0_0 l0_1).bind fun t122 => (if t122 = true then ((spec_ldText.f k l0_0 l0_1).bind fun t123 => (some (t123, true))) else (some ((⟨#[]⟩ : ByteArray), false)))
set_option maxHeartbeats 8000000 in
set_option maxRecDepth 100000 in
theorem spec_HouseText.calls (k : Nat) (A0_0 : Option Addr) (c0_0 : Nat) (l0_0 : List Int) (A0_1 : Option Addr) (c0_1 : Nat) (l0_1 : List Int) (r1 : ByteArray) (r2 : Bool) (w : World) (hr0_0 : Kd.C (Kd.int .i64) w A0_0 l0_0.length l0_0) (hc0_0 : l0_0.length ≤ c0_0) (hr0_1 : Kd.C (Kd.int .i64) w A0_1 l0_1.length l0_1) (hc0_1 : l0_1.length ≤ c0_1) (h : spec_HouseText.f k l0_0 l0_1 = some (r1, r2)) :
 Calls Tryd.prog 19 #[.agg #[.slice A0_0 l0_0.length c0_0, .slice A0_1 l0_1.length c0_1]] w fun e w' => e = .returned (.tuple #[.string r1, .bool r2]) ∧ Below w.heap.size w w' := by
 have hu40 := Tryd.underlying40
 have HR0_0 := Aside0.mk hr0_0
 have HC0_0 := Aside0.mk hc0_0
 clear hr0_0 hc0_0
 have HR0_1 := Aside0.mk hr0_1
 have HC0_1 := Aside0.mk hc0_1
 clear hr0_1 hc0_1
 have HB := Aside0.mk (Below.refl w.heap.size w)
 have H : ((spec_ldGood.f k l0_0 l0_1).bind fun t122 => (if t122 = true then ((spec_ldText.f k l0_0 l0_1).bind fun t123 => (some (t123, true))) else (some ((⟨#[]⟩ : ByteArray), false)))) = some (r1, r2) := h
 clear h
 replace H := Option.bind_eq_some_iff.mp H
 obtain ⟨t122, A20, H⟩ := H
 try dsimp only at H
 have A2 := Aside0.mk A20
 clear A20
 by_cases c3 : t122 = true
 ·subst c3
  rw [if_pos rfl] at H
  replace H := Option.bind_eq_some_iff.mp H
  obtain ⟨t123, A40, H⟩ := H
  try dsimp only at H
  have A4 := Aside0.mk A40
  clear A40
  simp only [Option.some.injEq, Prod.mk.injEq] at H
  obtain ⟨rfl, rfl⟩ := H
  go_enter Tryd.func19, Tryd.ntmps19
  go_wp2_with (first | ((with_reducible refine gate_dst (N := 1) rfl ?_); refine bx_ 1 #[.slice A0_0 l0_0.length c0_0, .slice A0_1 l0_1.length c0_1] 40 ?_; intro gb121 hg w5 hbox hb; have BK121 := Aside0.mk (hbox); have GW121 := gw_ HB hg; have GE121 := GW121; replace HB := bs_ HB hb; clear hb hbox hg; obtain ⟨hcz6_0, hcz6_1, hfz6_0, hfz6_1⟩ := cf2_ BK121) | ((with_reducible refine gate_callee (f := 112) rfl ?_); refine gL_ (some 5) Tryd.func112 #[.agg #[.slice A0_0 l0_0.length c0_0, .slice A0_1 l0_1.length c0_1]] ?_; (with_reducible refine (spec_ldGood.calls k _ _ l0_0 _ _ l0_1 true _ ?side1 ?side2 ?side3 ?side4 A2.out).mono ?_); (case side1 => exact cs_ (Kd.C_below HR0_0.out HB.out)); (case side2 => exact HC0_0.out); (case side3 => exact cs_ (Kd.C_below HR0_1.out HB.out)); (case side4 => exact HC0_1.out); rintro e w7 ⟨rfl, hb⟩; refine ⟨_, rfl, ?_⟩; replace BK121 := kb_ BK121 hb; replace HB := bs_ HB hb; (try clear hb); obtain ⟨hcz8_0, hcz8_1, hfz8_0, hfz8_1⟩ := cf2_ BK121) | ((with_reducible refine gate_callee (f := 113) rfl ?_); refine gL_ (some 8) Tryd.func113 #[.agg #[.slice A0_0 l0_0.length c0_0, .slice A0_1 l0_1.length c0_1]] ?_; (with_reducible refine (spec_ldText.calls k _ _ l0_0 _ _ l0_1 t123 _ ?side1 ?side2 ?side3 ?side4 A4.out).mono ?_); (case side1 => exact cs_ (Kd.C_below HR0_0.out HB.out)); (case side2 => exact HC0_0.out); (case side3 => exact cs_ (Kd.C_below HR0_1.out HB.out)); (case side4 => exact HC0_1.out); rintro e w9 ⟨rfl, hb⟩; refine ⟨_, rfl, ?_⟩; replace BK121 := kb_ BK121 hb; replace HB := bs_ HB hb; (try clear hb)))
  go_ret2
  exact ⟨by first | rfl | (simp [errW_none, errW_some] <;> rfl) | (simp [*, errW_none, errW_some] <;> rfl), dn_ HB.out⟩
 ·replace c3 := Bool.eq_false_iff.mpr c3
  subst c3
  rw [if_neg (show ¬ (false = true) by decide)] at H
  simp only [Option.some.injEq, Prod.mk.injEq] at H
  obtain ⟨rfl, rfl⟩ := H
  go_enter Tryd.func19, Tryd.ntmps19
  go_wp2_with (first | ((with_reducible refine gate_dst (N := 1) rfl ?_); refine bx_ 1 #[.slice A0_0 l0_0.length c0_0, .slice A0_1 l0_1.length c0_1] 40 ?_; intro gb121 hg w10 hbox hb; have BK121 := Aside0.mk (hbox); have GW121 := gw_ HB hg; have GE121 := GW121; replace HB := bs_ HB hb; clear hb hbox hg; obtain ⟨hcz11_0, hcz11_1, hfz11_0, hfz11_1⟩ := cf2_ BK121) | ((with_reducible refine gate_callee (f := 112) rfl ?_); refine gL_ (some 5) Tryd.func112 #[.agg #[.slice A0_0 l0_0.length c0_0, .slice A0_1 l0_1.length c0_1]] ?_; (with_reducible refine (spec_ldGood.calls k _ _ l0_0 _ _ l0_1 false _ ?side1 ?side2 ?side3 ?side4 A2.out).mono ?_); (case side1 => exact cs_ (Kd.C_below HR0_0.out HB.out)); (case side2 => exact HC0_0.out); (case side3 => exact cs_ (Kd.C_below HR0_1.out HB.out)); (case side4 => exact HC0_1.out); rintro e w12 ⟨rfl, hb⟩; refine ⟨_, rfl, ?_⟩; replace BK121 := kb_ BK121 hb; replace HB := bs_ HB hb; (try clear hb)))
  go_ret2
  exact ⟨by first | rfl | (simp [errW_none, errW_some] <;> rfl) | (simp [*, errW_none, errW_some] <;> rfl), dn_ HB.out⟩
end Go.Proofs.YtbmdgmmegchmnaaDoor.B
namespace Go.Proofs.YtbmdgmmegchmnaaDoor.B
open Go.RowKit Go.Proofs.YtbmdgmmegchmnaaDoorW.PrintWords Go.Proofs.YtbmdgmmegchmnaaDoorW.PrintLast Go.Proofs.YtbmdgmmegchmnaaDoorW.PrintMore
attribute [local go_sem] max2_int min2_int max_two min_two max_three min_three max_four min_four
set_option linter.unusedVariables false
set_option linter.unusedSimpArgs false
theorem below_via {w0 w W : World} (h : Below w0.heap.size w0 w) (h2 : Below w.heap.size w W) : Below w0.heap.size w0 W := h.trans (h2.mono h.size)
def strings_Split.f (a0 a1 : ByteArray) : Option (List ByteArray) :=
 if a0.size < 4294967281 ∧ 1 ≤ a1.size then some (Lib.splitB a1 0 (Lib.countB a0 a1) a0) else none
theorem strings_Split.calls (a0 a1 : ByteArray) (r : List ByteArray) (w : World) (h : strings_Split.f a0 a1 = some r) (LA : Laid w) :
 Calls Tryd.prog 121 #[.string a0, .string a1] w fun e w' => ∃ v0_ : Value, e = .returned (v0_) ∧ Kd.R Kd.string 9 w' w.heap.size (fun _ => True) v0_ r ∧ Below w.heap.size w w' := by
 unfold strings_Split.f at h
 by_cases c : a0.size < 4294967281 ∧ 1 ≤ a1.size
 ·rw [if_pos c] at h
  obtain rfl := Option.some.inj h
  obtain ⟨m, hm⟩ := LA.2.1
  refine (Tryd.strings_Split a0 a1 m w c.1 hm c.2).mono ?_
  rintro e w' ⟨rfl, rfl⟩
  have hl := Lib.splitB_all a1 c.2 0 (Lib.countB a0 a1) a0 rfl
  have hle := Lib.countB_le a1 c.2 a0.size a0 (Nat.le_refl _)
  refine ⟨_, rfl, ?_, (Below.refl _ _).alloc (Nat.le_refl _) _⟩
  have o := World.ownsRow_lit (base := w.heap.size) (e := 9) (size := 1) w (((Lib.splitB a1 0 (Lib.countB a0 a1) a0).map Value.string).toArray) (Lib.countB a0 a1 + 1) (Nat.le_refl _) (by simp only [maxLen]; omega) (by simp [hl])
  refine Kd.R_of_own (enc := Value.string) ?_ (fun _ _ => trivial)
  rw [hl]
  exact o
 ·rw [if_neg c] at h
  cases h
end Go.Proofs.YtbmdgmmegchmnaaDoor.B
