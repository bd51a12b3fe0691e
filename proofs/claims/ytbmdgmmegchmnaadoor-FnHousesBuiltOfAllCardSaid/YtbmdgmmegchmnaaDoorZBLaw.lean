/- The row of the law FnHousesBuiltOfAll, for every input: out of its pure statement (module YtbmdgmmegchmnaaDoorPureFnHousesBuiltOfAll) and the walk of its code. No further condition. -/
import Derived.Test.YtbmdgmmegchmnaaDoorRows
import Derived.Test.YtbmdgmmegchmnaaDoorZB11
import Derived.Test.YtbmdgmmegchmnaaDoorZB12
import Derived.WalkKit
import Derived.ProofKit
import Derived.OpenShut
import Derived.ShutString
import Derived.ChangeOld
import Derived.Below
import Derived.SizedLaws
import Derived.Carry
import Derived.Lib.SmallJoins
import Derived.ChangeSlices
import Derived.LaidMore
import Derived.Lay
import Derived.Stop.Joined
import Derived.Lib.LaidTab
import Derived.SevenTiedAt
import Derived.Stop.LaidErr
import Derived.Test.YtbmdgmmegchmnaaDoorTie
import Derived.Test.YtbmdgmmegchmnaaDoorCards
import Derived.Test.YtbmdgmmegchmnaaDoorZB13
namespace Go.Proofs.YtbmdgmmegchmnaaDoor.fnHousesBuiltOfAll
open Go.ChangeShapes Go.WideShapes Go.ChangeAt Go.RowKit Go.Joins
open Go.ChangeMaps (open_string shut_string)
open Go.Proofs.YtbmdgmmegchmnaaDoorW Go.Proofs.YtbmdgmmegchmnaaDoor
set_option linter.unusedVariables false
theorem own : ownKnob Tryd.prog.godebug = none := by kernel_rfl
theorem laidOut : laidOutB Tryd.prog = true := by kernel_rfl
def IsRow (k : IntKind) (w : World) (a : Option Addr) (len cap : Nat) (zs : List Int) : Prop :=
 (a = none ∧ len = 0 ∧ cap = 0 ∧ zs = []) ∨
 ∃ x, a = some x ∧ len ≤ cap ∧ cap ≤ maxLen ∧ zs.length = cap ∧ (∀ i, i < zs.length → w.cell? (x.add i) = some (.int k (zs.getD i 0))) ∧ ∀ n ∈ zs, (Lit.int k n).wf = true
theorem gT : (Tryd.prog.globals[1]?).map (·.type) = some 144 := by kernel_rfl
theorem door_met (os : Os) (args : Array Value) : laidMetH Tryd.prog Rows.fnHousesBuiltOfAllRow.laid ((World.laidAll Tryd.prog os Rows.fnHousesBuiltOfAllRow.laid).forCall (fun _ _ => 0) ⟨#[], args, []⟩).memory :=
 by rw [MakeChecks.laidMetH_plain _ _ _ (by kernel_rfl)]; exact laidMet_laidAll _ (by kernel_rfl) (by kernel_rfl)
theorem tab_laid {W : World} (h : laidMetH Tryd.prog Rows.fnHousesBuiltOfAllRow.laid W) : Lib.TabIs Tryd.prog W "internal/strconv.uint64pow10" .u64 Lib.pow10Tab := by
 rw [MakeChecks.laidMetH_plain _ _ _ (by kernel_rfl)] at h
 obtain ⟨ps, ⟨g0, t0, cs0, f0, p0, q0, hg0, ht0, hv0, hd0, ⟨g1, t1, cs1, f1, p1, q1, hg1, ht1, hv1, hd1, ⟨g2, t2, cs2, f2, p2, q2, hg2, ht2, hv2, hd2, _, _⟩, _⟩, _⟩, _, _⟩ := h
 obtain rfl := Option.some.inj (B.gPow10.symm.trans hg2)
 obtain rfl := Option.some.inj (gT.symm.trans ht2)
 unfold Lib.TabIs
 rw [hv2, ← Lib.cells_of_tab (k := .u64) (zs := Lib.pow10Tab) Tryd.underlying144 Tryd.underlying127 (by kernel_rfl) (by kernel_rfl) hd2]
theorem star : "*" ++ "errors.errorString" = "*errors.errorString" := by decide
theorem rowErr (u : TypeId) (h : Tryd.prog.typeName? 3 u = some "*errors.errorString") : u = 159 :=
 typeName_ptr_named (nm := "errors.errorString") (by rw [star]; kernel_rfl) (by kernel_rfl) (by decide) u (by rw [star]; exact h)
theorem cells161 : Tryd.prog.cellsOf 161 = 1 := by kernel_rfl
theorem cells9 : Tryd.prog.cellsOf 9 = 1 := by kernel_rfl
theorem tSyntax : (Tryd.prog.globals[2]?).map (·.type) = some 116 := by kernel_rfl
theorem tRange : (Tryd.prog.globals[3]?).map (·.type) = some 116 := by kernel_rfl
theorem of_laid {W : World} (h0 : laidMetH Tryd.prog Rows.fnHousesBuiltOfAllRow.laid W) (hs : W.ShapedOpen Tryd.prog) : B.Laid W := by
 refine ⟨tab_laid h0, B.cell_of_shaped hs, ?_⟩
 have h := h0
 rw [MakeChecks.laidMetH_plain _ _ _ (by kernel_rfl)] at h
 exact ⟨B.sent_of (laid_sentinel (h.tail.tail.tail.tail.tail) B.gSyntax tSyntax Tryd.underlying116 rowErr Tryd.underlying159 Tryd.underlying161 rfl rfl Tryd.underlying9 cells161 cells9),
  B.sent_of (laid_sentinel (h.tail.tail.tail.tail) B.gRange tRange Tryd.underlying116 rowErr Tryd.underlying159 Tryd.underlying161 rfl rfl Tryd.underlying9 cells161 cells9)⟩
theorem wrap {a : Assume} {C : Checked} {os : Os} {f : FuncId} {fn : Func} {s : ChangeSpec} {conds : List PathCond} {apart fresh handsOn again : Bool} {H : Type} {enc : TypeId × Value → H} {X : World → Array Value → Prop}
 (hX : ∀ (w w' : World) (args : Array Value), w.heap = w'.heap → X w args → X w' args)
 (own : ownKnob C.prog.godebug = none) (started : os.Started) (noInit : C.prog.inits.idxOf? f = none) (hfn : C.prog.funcs[f]? = some fn)
 (witness : ∃ (w : World) (tape : Tape) (i : Input), w.os = os ∧ (w.forCall tape i).Shaped C.prog ∧ i.vars = [] ∧ Input.okWide C.prog (w.forCall tape i) .any w.heap.size f i ∧
  ((s.pre enc C.prog fn conds apart (w.forCall tape i).memory i.args ∧ X (w.forCall tape i).memory i.args) ∧ sizedMet enc C.prog fn (OpenSpec.ofChange s) apart (w.forCall tape i).memory i.args) ∧ a.holds C.prog (lone (Frame.enter C.prog f i.args .normal) [] (w.forCall tape i)))
 (contract : ∀ (W : World) (base : Nat) (args : Array Value) (ds gs : List (DataW H)) (before : List MemPlace),
  (∀ (j : Nat) t v, fn.params[j]? = some t → args[j]? = some v → Value.okWide C.prog W .any base t v) →
  DataW.Whole enc C.prog fn.params.toList s.vars apart W args.toList ds gs before →
  conds.all (PathCond.test C.prog ⟨fn.params.toList, ds, s.plain.varTypes C.prog, gs⟩) = true →
  (DataW.weightsEach C.prog (fn.params.toList ++ s.plain.varTypes C.prog) (ds ++ gs)).all (· ≤ reachBytes) = true → X W args → W.ShapedOpen C.prog →
  Calls C.prog f args W fun e W' => ∃ v, e = .returned v ∧ s.post enc C.prog fn apart fresh handsOn again W args v W') :
 ReturnsInHanded a C os f .any (fun w args => (s.pre enc C.prog fn conds apart w args ∧ X w args) ∧ sizedMet enc C.prog fn (OpenSpec.ofChange s) apart w args) (s.post enc C.prog fn apart fresh handsOn again) := by
 refine returnsInHanded_of_calls own started noInit witness ?_
 intro w tape i _ hsh _ hok hpre _
 obtain ⟨_, _, _, fn', hfn', _, _, _, _, hval⟩ := hok
 obtain rfl : fn' = fn := Option.some.inj (hfn'.symm.trans hfn)
 obtain ⟨⟨⟨ds, gs, before, hw, hc⟩, hx⟩, hz⟩ := hpre
 refine (contract (w.forCall tape i) w.heap.size i.args ds gs before hval (DataW.Whole.of_heap (w' := w.forCall tape i) (by rfl) hw) hc (hz.weights hw) (hX _ _ _ (by rfl) hx) hsh).mono fun e W' ⟨v, he, hp⟩ => ?_
 subst he
 exact ChangeSpec.post_blind hp
set_option maxRecDepth 100000 in
theorem lifted (os : Os) (started : os.Started) (H : Type) (enc : TypeId × Value → H) :
 ReturnsInHanded {} Tryd.checked os 10 .any (fun w args => (Rows.fnHousesBuiltOfAllSpec.pre enc Tryd.prog Tryd.f10 [] false w args ∧ laidMetH Tryd.prog Rows.fnHousesBuiltOfAllRow.laid w) ∧ sizedMet enc Tryd.prog Tryd.f10 (OpenSpec.ofChange Rows.fnHousesBuiltOfAllSpec) false w args) (Rows.fnHousesBuiltOfAllSpec.post enc Tryd.prog Tryd.f10 false true false false) := by
 refine wrap (C := Tryd.checked) (X := fun w _ => laidMetH Tryd.prog Rows.fnHousesBuiltOfAllRow.laid w) (fun _ _ _ hh h => h.of_heap hh) own started (by kernel_rfl) Tryd.func10
  (ChangeSpec.witness_shaped (enc := enc) (C := Tryd.checked) (os := os) (X := fun w _ => laidMetH Tryd.prog Rows.fnHousesBuiltOfAllRow.laid w) false (World.laidAll Tryd.prog os Rows.fnHousesBuiltOfAllRow.laid) #[.agg #[.slice none 0 0, .slice none 0 0], .int .i64 0, .agg #[.slice none 0 0, .slice none 0 0], .int .i64 0, .int .i64 0, .agg #[.slice none 0 0, .slice none 0 0], .int .i64 0, .string ByteArray.empty] 8 (World.laidAll_os _ _ _) (World.shaped_of_ZipB (by kernel_rfl) (by kernel_rfl)) (by kernel_rfl) (by kernel_rfl) (by kernel_rfl) (door_met os _)) ?_
 intro W base args ds gs before hval0 hW hcnd hsz0 hL hsh0
 have hsz : (DataW.weightsEach Tryd.prog (Tryd.f10.params.toList ++ Rows.fnHousesBuiltOfAllSpec.plain.varTypes Tryd.prog) (ds ++ gs)).all (· ≤ reachBytes) = true := hsz0
 have hval : ∀ (j : Nat) t v, Tryd.f10.params[j]? = some t → args[j]? = some v → Value.okWide Tryd.prog W .any base t v := hval0
 have hW' := hW
 obtain ⟨p, q, hA0, hV, rfl, hfz, hnd⟩ := hW
 have hA : DataW.TrodAll enc Tryd.prog W 0 (fun _ => true) true Tryd.f10.params.toList args.toList ds p := hA0
 rw [Tryd.params10] at hA hval hsz
 obtain ⟨v0, vs0, d0, ds0, p0, q0, hargs, rfl, rfl, h0, r0⟩ := trodAll_cons hA
 obtain ⟨v1, vs1, d1, ds1, p1, q1, rfl, rfl, rfl, h1, r1⟩ := trodAll_cons r0
 obtain ⟨v2, vs2, d2, ds2, p2, q2, rfl, rfl, rfl, h2, r2⟩ := trodAll_cons r1
 obtain ⟨v3, vs3, d3, ds3, p3, q3, rfl, rfl, rfl, h3, r3⟩ := trodAll_cons r2
 obtain ⟨v4, vs4, d4, ds4, p4, q4, rfl, rfl, rfl, h4, r4⟩ := trodAll_cons r3
 obtain ⟨v5, vs5, d5, ds5, p5, q5, rfl, rfl, rfl, h5, r5⟩ := trodAll_cons r4
 obtain ⟨v6, vs6, d6, ds6, p6, q6, rfl, rfl, rfl, h6, r6⟩ := trodAll_cons r5
 obtain ⟨v7, vs7, d7, ds7, p7, q7, rfl, rfl, rfl, h7, r7⟩ := trodAll_cons r6
 obtain ⟨rfl, rfl, rfl⟩ := trodAll_nil r7
 obtain rfl : args = #[v0, v1, v2, v3, v4, v5, v6, v7] := by cases args; simp_all
 obtain ⟨rfl, rfl⟩ := trodVars_none hV
 have k0 := h0
 have lt0 : ∀ x ∈ p0, x.block < W.heap.size := by obtain ⟨m, hm⟩ := k0; exact DataW.trod_lt m _ _ _ hm
 obtain ⟨u0_0, u0_1, y0_0, y0_1, m0, rfl, rfl, rfl, g0_0, g0_1⟩ := open_agg2 Tryd.underlying40 (by kernel_rfl) (by kernel_rfl) (hval 0 40 v0 rfl rfl) h0
 obtain ⟨z0_0, len0_0, cap0_0, A0_0, rfl, iw0_0⟩ : ∃ (zs : List Int) (len cap : Nat) (A : Option Addr), u0_0 = .slice A len cap ∧ IsRow .i64 W A len cap zs := by
  rcases open_ints Tryd.underlying35 Tryd.underlying3 (by kernel_rfl) g0_0 with ⟨hcs, _⟩ | ⟨x, l, c, zs, hcs, _, hl, hm, hz, _, hcell, hwz⟩
  ·simp at hcs
   subst hcs
   exact ⟨[], 0, 0, none, rfl, .inl ⟨rfl, rfl, rfl, rfl⟩⟩
  ·simp at hcs
   subst hcs
   exact ⟨zs, l, c, _, rfl, .inr ⟨_, rfl, hl, hm, by simpa using hz, hcell, hwz⟩⟩
 obtain ⟨l0_0, rfl, hr0_0, m0_0, w0_0, hc0_0⟩ := PrintWords.ReadsInt.ofRowC iw0_0
 obtain ⟨z0_1, len0_1, cap0_1, A0_1, rfl, iw0_1⟩ : ∃ (zs : List Int) (len cap : Nat) (A : Option Addr), u0_1 = .slice A len cap ∧ IsRow .i64 W A len cap zs := by
  rcases open_ints Tryd.underlying35 Tryd.underlying3 (by kernel_rfl) g0_1 with ⟨hcs, _⟩ | ⟨x, l, c, zs, hcs, _, hl, hm, hz, _, hcell, hwz⟩
  ·simp at hcs
   subst hcs
   exact ⟨[], 0, 0, none, rfl, .inl ⟨rfl, rfl, rfl, rfl⟩⟩
  ·simp at hcs
   subst hcs
   exact ⟨zs, l, c, _, rfl, .inr ⟨_, rfl, hl, hm, by simpa using hz, hcell, hwz⟩⟩
 obtain ⟨l0_1, rfl, hr0_1, m0_1, w0_1, hc0_1⟩ := PrintWords.ReadsInt.ofRowC iw0_1
 obtain ⟨a1, rfl, rfl, rfl, w1⟩ := open_int Tryd.underlying3 (hval 1 3 v1 rfl rfl) h1
 have k2 := h2
 have lt2 : ∀ x ∈ p2, x.block < W.heap.size := by obtain ⟨m, hm⟩ := k2; exact DataW.trod_lt m _ _ _ hm
 obtain ⟨u2_0, u2_1, y2_0, y2_1, m2, rfl, rfl, rfl, g2_0, g2_1⟩ := open_agg2 Tryd.underlying40 (by kernel_rfl) (by kernel_rfl) (hval 2 40 v2 rfl rfl) h2
 obtain ⟨z2_0, len2_0, cap2_0, A2_0, rfl, iw2_0⟩ : ∃ (zs : List Int) (len cap : Nat) (A : Option Addr), u2_0 = .slice A len cap ∧ IsRow .i64 W A len cap zs := by
  rcases open_ints Tryd.underlying35 Tryd.underlying3 (by kernel_rfl) g2_0 with ⟨hcs, _⟩ | ⟨x, l, c, zs, hcs, _, hl, hm, hz, _, hcell, hwz⟩
  ·simp at hcs
   subst hcs
   exact ⟨[], 0, 0, none, rfl, .inl ⟨rfl, rfl, rfl, rfl⟩⟩
  ·simp at hcs
   subst hcs
   exact ⟨zs, l, c, _, rfl, .inr ⟨_, rfl, hl, hm, by simpa using hz, hcell, hwz⟩⟩
 obtain ⟨l2_0, rfl, hr2_0, m2_0, w2_0, hc2_0⟩ := PrintWords.ReadsInt.ofRowC iw2_0
 obtain ⟨z2_1, len2_1, cap2_1, A2_1, rfl, iw2_1⟩ : ∃ (zs : List Int) (len cap : Nat) (A : Option Addr), u2_1 = .slice A len cap ∧ IsRow .i64 W A len cap zs := by
  rcases open_ints Tryd.underlying35 Tryd.underlying3 (by kernel_rfl) g2_1 with ⟨hcs, _⟩ | ⟨x, l, c, zs, hcs, _, hl, hm, hz, _, hcell, hwz⟩
  ·simp at hcs
   subst hcs
   exact ⟨[], 0, 0, none, rfl, .inl ⟨rfl, rfl, rfl, rfl⟩⟩
  ·simp at hcs
   subst hcs
   exact ⟨zs, l, c, _, rfl, .inr ⟨_, rfl, hl, hm, by simpa using hz, hcell, hwz⟩⟩
 obtain ⟨l2_1, rfl, hr2_1, m2_1, w2_1, hc2_1⟩ := PrintWords.ReadsInt.ofRowC iw2_1
 obtain ⟨a3, rfl, rfl, rfl, w3⟩ := open_int Tryd.underlying3 (hval 3 3 v3 rfl rfl) h3
 obtain ⟨a4, rfl, rfl, rfl, w4⟩ := open_int Tryd.underlying3 (hval 4 3 v4 rfl rfl) h4
 have k5 := h5
 have lt5 : ∀ x ∈ p5, x.block < W.heap.size := by obtain ⟨m, hm⟩ := k5; exact DataW.trod_lt m _ _ _ hm
 obtain ⟨u5_0, u5_1, y5_0, y5_1, m5, rfl, rfl, rfl, g5_0, g5_1⟩ := open_agg2 Tryd.underlying40 (by kernel_rfl) (by kernel_rfl) (hval 5 40 v5 rfl rfl) h5
 obtain ⟨z5_0, len5_0, cap5_0, A5_0, rfl, iw5_0⟩ : ∃ (zs : List Int) (len cap : Nat) (A : Option Addr), u5_0 = .slice A len cap ∧ IsRow .i64 W A len cap zs := by
  rcases open_ints Tryd.underlying35 Tryd.underlying3 (by kernel_rfl) g5_0 with ⟨hcs, _⟩ | ⟨x, l, c, zs, hcs, _, hl, hm, hz, _, hcell, hwz⟩
  ·simp at hcs
   subst hcs
   exact ⟨[], 0, 0, none, rfl, .inl ⟨rfl, rfl, rfl, rfl⟩⟩
  ·simp at hcs
   subst hcs
   exact ⟨zs, l, c, _, rfl, .inr ⟨_, rfl, hl, hm, by simpa using hz, hcell, hwz⟩⟩
 obtain ⟨l5_0, rfl, hr5_0, m5_0, w5_0, hc5_0⟩ := PrintWords.ReadsInt.ofRowC iw5_0
 obtain ⟨z5_1, len5_1, cap5_1, A5_1, rfl, iw5_1⟩ : ∃ (zs : List Int) (len cap : Nat) (A : Option Addr), u5_1 = .slice A len cap ∧ IsRow .i64 W A len cap zs := by
  rcases open_ints Tryd.underlying35 Tryd.underlying3 (by kernel_rfl) g5_1 with ⟨hcs, _⟩ | ⟨x, l, c, zs, hcs, _, hl, hm, hz, _, hcell, hwz⟩
  ·simp at hcs
   subst hcs
   exact ⟨[], 0, 0, none, rfl, .inl ⟨rfl, rfl, rfl, rfl⟩⟩
  ·simp at hcs
   subst hcs
   exact ⟨zs, l, c, _, rfl, .inr ⟨_, rfl, hl, hm, by simpa using hz, hcell, hwz⟩⟩
 obtain ⟨l5_1, rfl, hr5_1, m5_1, w5_1, hc5_1⟩ := PrintWords.ReadsInt.ofRowC iw5_1
 obtain ⟨a6, rfl, rfl, rfl, w6⟩ := open_int Tryd.underlying3 (hval 6 3 v6 rfl rfl) h6
 obtain ⟨a7, rfl, rfl, rfl, y7⟩ := open_string Tryd.underlying9 (hval 7 9 v7 rfl rfl) h7
 have w7 : a7.size ≤ 140737488351232 := by
  have z := sized_string hsz (j := 7) (t := 9) rfl rfl
  rw [Array.length_toList] at z
  exact z
 clear hA0 hval0 hsz0 hsz
 obtain ⟨k, hk⟩ := Pure.FnHousesBuiltOfAll l0_0 l0_1 a1 l2_0 l2_1 a3 a4 l5_0 l5_1 a6 a7 m0_0 w0_0 m0_1 w0_1 w1 m2_0 w2_0 m2_1 w2_1 w3 w4 m5_0 w5_0 m5_1 w5_1 w6 w7
 refine (Go.Proofs.YtbmdgmmegchmnaaDoor.B.laws_FnHousesBuiltOfAll.calls k _ _ l0_0 _ _ l0_1 a1 _ _ l2_0 _ _ l2_1 a3 a4 _ _ l5_0 _ _ l5_1 a6 a7 true W (PrintWords.Kd.C_of_reads (d := (0 : Int)) (h1 := fun _ => rfl) hr0_0) hc0_0 (PrintWords.Kd.C_of_reads (d := (0 : Int)) (h1 := fun _ => rfl) hr0_1) hc0_1 (PrintWords.Kd.C_of_reads (d := (0 : Int)) (h1 := fun _ => rfl) hr2_0) hc2_0 (PrintWords.Kd.C_of_reads (d := (0 : Int)) (h1 := fun _ => rfl) hr2_1) hc2_1 (PrintWords.Kd.C_of_reads (d := (0 : Int)) (h1 := fun _ => rfl) hr5_0) hc5_0 (PrintWords.Kd.C_of_reads (d := (0 : Int)) (h1 := fun _ => rfl) hr5_1) hc5_1 hk (of_laid hL hsh0)).mono fun e W' ⟨he, bel0⟩ => ?_
 have bel : Below W.heap.size W W' := bel0
 subst he
 exact ⟨_, rfl, _, _, _, [], _, [], hW', trodAll_mk1 (shut_bool Tryd.underlying4 _), (trodAll_cons_mk (Below.trod laidOut (by kernel_rfl) (of_decide_eq_true (by kernel_rfl)) k0 bel lt0) (trodAll_cons_mk (shut_int Tryd.underlying3 w1) (trodAll_cons_mk (Below.trod laidOut (by kernel_rfl) (of_decide_eq_true (by kernel_rfl)) k2 bel lt2) (trodAll_cons_mk (shut_int Tryd.underlying3 w3) (trodAll_cons_mk (shut_int Tryd.underlying3 w4) (trodAll_cons_mk (Below.trod laidOut (by kernel_rfl) (of_decide_eq_true (by kernel_rfl)) k5 bel lt5) (trodAll_cons_mk (shut_int Tryd.underlying3 w6) (trodAll_cons_mk (shut_string Tryd.underlying9 y7) trodAll_mk0)))))))), rfl, bel.frame _, fun h => by cases h⟩
theorem over : Rows.fnHousesBuiltOfAllRow.holds Tryd.pinned (OpenSpec.ofChange Rows.fnHousesBuiltOfAllSpec) :=
 OpenClaim.holds_of_wide 10 Tryd.f10 rfl rfl rfl rfl rfl rfl rfl ⟨rfl, rfl, rfl, rfl, rfl⟩ rfl rfl rfl rfl rfl (by kernel_rfl) Tryd.func10 (by kernel_rfl)
  (of_decide_eq_true (by kernel_rfl)) (by unfold Func.isWrapper; first | (rw [if_pos (by decide +kernel)]; kernel_rfl) | (rw [if_neg (by decide +kernel)]; exact ⟨rfl, rfl⟩))
  (fun os started H enc _ => lifted os started H enc)
theorem proved : Rows.FnHousesBuiltOfAllCardSaid :=
 Claim7.holds_tied_plain_at .later [] [.data, .data, .data, .data, .sentinel, .sentinel, .pinned] true (true, "34c3115ce7f233becce42fd669e41a38db726640c3f2c776f15fd31138af5dcf") true
  over (fun _ h => by cases h) (by kernel_rfl) (fun _ h => by cases h) fnHousesBuiltOfAll_row_tie rfl ⟨rfl, rfl⟩ (by kernel_rfl) rfl
  (fun f fn hf hfn => by
   obtain rfl : f = 10 := Option.some.inj ((show Tryd.prog.funcNamed "loop.example/g01374/laws.FnHousesBuiltOfAll" = some 10 by kernel_rfl).symm.trans hf) |>.symm
   obtain rfl : fn = Tryd.f10 := (Option.some.inj (Tryd.func10.symm.trans hfn)).symm
   exact ⟨by kernel_rfl, fun j t ht => by
    rw [Tryd.params10] at ht
    have hm : t ∈ [40, 3, 40, 3, 3, 40, 3, 9] := by simpa using Array.mem_of_getElem? ht
    have hall : ([40, 3, 40, 3, 3, 40, 3, 9].all fun u => !Tryd.prog.wantsStandIn u) = true := by kernel_rfl
    exact (show Tryd.prog.wantsStandIn t = false by simpa using List.all_eq_true.1 hall t hm)⟩)
  (by kernel_rfl)
#print axioms proved
end Go.Proofs.YtbmdgmmegchmnaaDoor.fnHousesBuiltOfAll
namespace Go.Proofs.YtbmdgmmegchmnaaDoor
theorem fnHousesBuiltOfAll_holds : Rows.FnHousesBuiltOfAllCardSaid := fnHousesBuiltOfAll.proved
end Go.Proofs.YtbmdgmmegchmnaaDoor
