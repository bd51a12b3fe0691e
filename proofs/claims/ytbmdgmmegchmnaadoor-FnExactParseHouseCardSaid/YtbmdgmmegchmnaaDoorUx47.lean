/- Contracts of the Go functions that the laws reach, each for every input and every memory: written by a program of this session over the kit print, with contracts of its own for what that leaves out. No further condition. -/
import Derived.Test.YtbmdgmmegchmnaaDoorUx0
import Derived.Test.YtbmdgmmegchmnaaDoorUx18
import Derived.Test.YtbmdgmmegchmnaaDoorUx33
namespace Go.Proofs.YtbmdgmmegchmnaaDoor.U
open Go.RowKit Go.Proofs.YtbmdgmmegchmnaaDoorW.PrintWords Go.Proofs.YtbmdgmmegchmnaaDoorW.PrintLast Go.Proofs.YtbmdgmmegchmnaaDoorW.PrintMore
attribute [local go_sem] max2_int min2_int max_two min_two max_three min_three max_four min_four   -- for this text's walks alone
set_option linter.unusedVariables false
set_option linter.unusedSimpArgs false

/-! ### impl.num: function 118: the session's own -/
/-- what num tells -/
def numOf (l : List UInt8) : Int :=
  match Lib.atoiAll l with
  | .ok v => if v < 0 then -1 else if 999999 < v then -1 else if Lib.itoa v = l then v else -1
  | _ => -1
def impl_num.f (a0 : ByteArray) : Option Int := if a0.size ≤ 281474976710656 then some (numOf a0.data.toList) else none
set_option maxHeartbeats 1000000 in
theorem impl_num.calls (a0 : ByteArray) (r : Int) (w : World) (h : impl_num.f a0 = some r) (LA : Laid w) :
    Calls Tryd.prog 118 #[.string a0] w fun e w' => e = .returned (.int .i64 r) ∧ Below w.heap.size w w' := by
  unfold impl_num.f at h
  by_cases c : a0.size ≤ 281474976710656
  · rw [if_pos c] at h
    obtain rfl := Option.some.inj h
    clear h
    have HLA := Aside0.mk LA
    clear LA
    cases hA : Lib.atoiAll a0.data.toList with
    | «syntax» =>
      have e1 : numOf a0.data.toList = -1 := by unfold numOf; rw [hA]
      rw [e1]
      obtain ⟨tp, p, hv⟩ := HLA.out.2.2.1
      have cA := Tryd.strconv_Atoi_syntax_var a0 c hA tp p w hv
      clear hA e1 hv
      go_enter Tryd.func118, Tryd.ntmps118
      go_wp2_with (go_at_call 157; refine cA.mono ?_; rintro e w1 ⟨N, rfl, hN0, hN, hb⟩)
      go_ret
      exact ⟨rfl, hb⟩
    | range =>
      have e1 : numOf a0.data.toList = -1 := by unfold numOf; rw [hA]
      rw [e1]
      obtain ⟨tp, p, hv⟩ := HLA.out.2.2.2
      have cA := Tryd.strconv_Atoi_range_var a0 c hA tp p w hv
      clear hA e1 hv
      go_enter Tryd.func118, Tryd.ntmps118
      go_wp2_with (go_at_call 157; refine cA.mono ?_; rintro e w1 ⟨N, rfl, hN0, hN, hb⟩)
      go_ret
      exact ⟨rfl, hb⟩
    | ok v =>
      obtain ⟨b0, b1⟩ := Lib.atoiAll_bounds hA
      have cA : Calls Tryd.prog 157 #[.string a0] w fun e w' => e = .returned (.tuple #[.int .i64 v, .nilIface]) ∧ Below w.heap.size w w' :=
        (Tryd.strconv_Atoi_ok a0 (by omega) v hA w).mono fun e w' ⟨he, hw⟩ => ⟨he, by
          rcases hw with rfl | ⟨t, rfl⟩
          · exact Below.refl _ _
          · exact Lib.bytesWorld_below _ _ _⟩
      have cI := fun (W : World) (hb : Below w.heap.size w W) => strconv_Itoa_108.calls v _ W (by unfold strconv_Itoa_108.f; rw [if_pos ⟨b0, b1⟩]) (HLA.out.below hb)
      have e0 : numOf a0.data.toList = if v < 0 then -1 else if 999999 < v then -1 else if Lib.itoa v = a0.data.toList then v else -1 := by unfold numOf; rw [hA]
      rw [e0]
      clear hA e0
      by_cases c1 : v < 0
      · rw [if_pos c1]
        go_enter Tryd.func118, Tryd.ntmps118
        go_wp2_with (go_at_call 157; refine cA.mono ?_; rintro e w1 ⟨rfl, hb⟩)
        go_ret
        exact ⟨rfl, hb⟩
      · rw [if_neg c1]
        by_cases c2 : 999999 < v
        · rw [if_pos c2]
          go_enter Tryd.func118, Tryd.ntmps118
          go_wp2_with (go_at_call 157; refine cA.mono ?_; rintro e w1 ⟨rfl, hb⟩)
          go_ret
          exact ⟨rfl, hb⟩
        · rw [if_neg c2]
          by_cases c3 : Lib.itoa v = a0.data.toList
          · rw [if_pos c3]
            have cb : (Lib.itoa v == a0.toList) = true := by rw [ByteArray.toList_eq]; simp [c3]
            have c1' : 0 ≤ v := by omega
            have c2' : v ≤ 999999 := by omega
            clear c3
            go_enter Tryd.func118, Tryd.ntmps118
            go_wp2_with (first | (go_at_call 157; refine cA.mono ?_; rintro e w1 ⟨rfl, hb⟩) | (go_at_call 108; refine (cI _ hb).mono ?_; rintro e w2 ⟨rfl, hb2⟩))
            go_ret
            exact ⟨rfl, hb.trans (hb2.mono hb.size)⟩
          · rw [if_neg c3]
            have cb : (Lib.itoa v == a0.toList) = false := by rw [ByteArray.toList_eq]; simp [c3]
            have c1' : 0 ≤ v := by omega
            have c2' : v ≤ 999999 := by omega
            clear c3
            go_enter Tryd.func118, Tryd.ntmps118
            go_wp2_with (first | (go_at_call 157; refine cA.mono ?_; rintro e w1 ⟨rfl, hb⟩) | (go_at_call 108; refine (cI _ hb).mono ?_; rintro e w2 ⟨rfl, hb2⟩))
            go_ret
            exact ⟨rfl, hb.trans (hb2.mono hb.size)⟩
  · rw [if_neg c] at h
    cases h

end Go.Proofs.YtbmdgmmegchmnaaDoor.U
