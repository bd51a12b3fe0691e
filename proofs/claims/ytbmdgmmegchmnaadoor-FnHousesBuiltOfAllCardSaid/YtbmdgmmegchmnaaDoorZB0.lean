/-
 DERIVED: THE SHELF's CONTRACTS AT THIS DUMP, IN PLAIN WORDS (tools/lay-plain.mjs out of 'TrydShelf.lean', which tools/lay-shelf.mjs wrote): THE SAME DECLARATIONS UNDER THE SAME NAMES: 'import', 'namespace', 'open', 'def', 'theorem' AND NOTHING ELSE: no command of the shelf's: FOR A HAND-IN. Each laying: the table of numbers ('.._ren') and one theorem, a field a fact of the dump's own or the kernel's comparison; each contract: ONE APPLICATION.
-/
import Derived.Shelf.Strconv.Atoi
import Derived.Shelf.Strconv.Itoa0
import Derived.Shelf.Strconv.Itoa1
import Derived.Shelf.LaysM
import Derived.Shelf.Strconv.Itoa2
import Derived.Shelf.Strconv.Itoa3
import Derived.Shelf.Strconv.AtoiErrFast
import Derived.Shelf.Strconv.ParseIntEmpty
import Derived.Shelf.Strconv.AtoiFail
import Derived.Shelf.Strconv.Clone
import Derived.Shelf.Strconv.SyntaxError
import Derived.Shelf.LaysC
import Derived.Shelf.Strconv.ToError
import Derived.Shelf.Strconv.Lower
import Derived.Shelf.Strconv.ParseUint10
import Derived.Shelf.Strconv.ParseUint10Empty
import Derived.Shelf.Strconv.ParseUint10Any
import Derived.Shelf.Strconv.ParseInt10
import Derived.Shelf.Strconv.AtoiLong
import Derived.Shelf.Strconv.AtoiInnerAll
import Derived.Shelf.Strconv.RangeError
import Derived.Shelf.Strconv.ToErrorRange
import Derived.Shelf.Strconv.AtoiAll
import Derived.Shelf.Strconv.ErrVarAll
import Derived.Shelf.Strings.Search1
import Derived.Shelf.Strings.Search2
import Derived.Shelf.Strings.Search3
import Derived.Shelf.Strings.Cut
import Derived.Shelf.Strings.Count
import Derived.Shelf.Strings.Shaped
import Derived.Shelf.Strings.Split
import Derived.Shelf.Strings.SplitShaped
import Derived.Shelf.Unicode.DecodeSlow
import Derived.Test.YtbmdgmmegchmnaaDoorProg
namespace Go.Proofs
open Go.Shelf
def Tryd.laysM171_ren : Go.Shelf.Ren := ⟨fun | 171 => 108 | 243 => 152 | 246 => 162 | 283 => 169 | 284 => 170 | 285 => 171 | 286 => 172 | 129 => 186 | 317 => 185 | 318 => 187 | 319 => 188 | 320 => 189 | 337 => 196 | 338 => 197 | n => n, fun | 3 => 3 | 9 => 9 | 2 => 2 | 4 => 4 | 171 => 126 | 0 => 0 | 53 => 127 | 37 => 121 | 5 => 5 | 173 => 130 | 212 => 144 | 51 => 145 | 20 => 20 | 213 => 146 | 46 => 134 | 232 => 166 | 233 => 167 | n => n, fun | 17 => 1 | 18 => 6 | 19 => 7 | n => n⟩
theorem Tryd.laysM171 : Go.Proofs.LaysM.n171 Tryd.prog Tryd.laysM171_ren := {
 mixed := by kernel_rfl
 f129 := Tryd.func186.trans (congrArg some (by kernel_rfl))
 f171 := Tryd.func108.trans (congrArg some (by kernel_rfl))
 f243 := Tryd.func152.trans (congrArg some (by kernel_rfl))
 f246 := Tryd.func162.trans (congrArg some (by kernel_rfl))
 f283 := Tryd.func169.trans (congrArg some (by kernel_rfl))
 f284 := Tryd.func170.trans (congrArg some (by kernel_rfl))
 f285 := Tryd.func171.trans (congrArg some (by kernel_rfl))
 f286 := Tryd.func172.trans (congrArg some (by kernel_rfl))
 f317 := Tryd.func185.trans (congrArg some (by kernel_rfl))
 f318 := Tryd.func187.trans (congrArg some (by kernel_rfl))
 f319 := Tryd.func188.trans (congrArg some (by kernel_rfl))
 f320 := Tryd.func189.trans (congrArg some (by kernel_rfl))
 f337 := Tryd.func196.trans (congrArg some (by kernel_rfl))
 f338 := Tryd.func197.trans (congrArg some (by kernel_rfl))
 t0 := Tryd.underlying0
 a0 := Tryd.isAgg0
 z0 := Tryd.sizeOf0
 v0 := Tryd.zeroValue0
 t2 := Tryd.underlying2
 a2 := Tryd.isAgg2
 z2 := Tryd.sizeOf2
 v2 := Tryd.zeroValue2
 t3 := Tryd.underlying3
 a3 := Tryd.isAgg3
 z3 := Tryd.sizeOf3
 v3 := Tryd.zeroValue3
 t4 := Tryd.underlying4
 a4 := Tryd.isAgg4
 z4 := Tryd.sizeOf4
 v4 := Tryd.zeroValue4
 t5 := Tryd.underlying5
 a5 := Tryd.isAgg5
 z5 := Tryd.sizeOf5
 v5 := Tryd.zeroValue5
 t9 := Tryd.underlying9
 a9 := Tryd.isAgg9
 z9 := Tryd.sizeOf9
 v9 := Tryd.zeroValue9
 t20 := Tryd.underlying20
 a20 := Tryd.isAgg20
 z20 := Tryd.sizeOf20
 v20 := Tryd.zeroValue20
 t37 := Tryd.underlying121
 a37 := Tryd.isAgg121
 z37 := Tryd.sizeOf121
 v37 := Tryd.zeroValue121
 t46 := Tryd.underlying134
 a46 := Tryd.isAgg134
 z46 := Tryd.sizeOf134
 v46 := Tryd.zeroValue134
 t51 := Tryd.underlying145
 a51 := Tryd.isAgg145
 z51 := Tryd.sizeOf145
 v51 := Tryd.zeroValue145
 t53 := Tryd.underlying127
 a53 := Tryd.isAgg127
 z53 := Tryd.sizeOf127
 v53 := Tryd.zeroValue127
 t171 := Tryd.underlying126
 a171 := Tryd.isAgg126
 z171 := Tryd.sizeOf126
 v171 := Tryd.zeroValue126
 t173 := Tryd.underlying130
 a173 := Tryd.isAgg130
 z173 := Tryd.sizeOf130
 v173 := Tryd.zeroValue130
 t212 := Tryd.underlying144
 a212 := Tryd.isAgg144
 z212 := Tryd.sizeOf144
 v212 := Tryd.zeroValue144
 t213 := Tryd.underlying146
 a213 := Tryd.isAgg146
 z213 := Tryd.sizeOf146
 t232 := Tryd.underlying166
 a232 := Tryd.isAgg166
 z232 := Tryd.sizeOf166
 v232 := Tryd.zeroValue166
 t233 := Tryd.underlying167
 a233 := Tryd.isAgg167
 z233 := Tryd.sizeOf167
 v233 := Tryd.zeroValue167
 g17 := by kernel_rfl
 g18 := by kernel_rfl
 g19 := by kernel_rfl
 i0 := by kernel_rfl
 i2 := by kernel_rfl
 i3 := by kernel_rfl
 i4 := by kernel_rfl
 i5 := by kernel_rfl
 i9 := by kernel_rfl
 i20 := by kernel_rfl
 i37 := by kernel_rfl
 i46 := by kernel_rfl
 i51 := by kernel_rfl
 i53 := by kernel_rfl
 i171 := by kernel_rfl
 i173 := by kernel_rfl
 i212 := by kernel_rfl
 i232 := by kernel_rfl
 i233 := by kernel_rfl
 m17 := by kernel_rfl
 m18 := by kernel_rfl
 m19 := by kernel_rfl }
open Go.RowKit Go.Sort Go.Lib in
theorem Tryd.strconv_Itoa (n : Int) (h0 : -9223372036854775808 ≤ n) (h1 : n ≤ 9223372036854775807) (w : World) (htab : Lib.TabIs Tryd.prog w "internal/strconv.uint64pow10" .u64 Lib.pow10Tab) :
 Calls Tryd.prog 108 #[.int .i64 n] w fun e w' => e = .returned (.string ⟨(Lib.itoa n).toArray⟩) ∧ ∃ k os, w' = grow (w.drewN k) os := Any.strconv_Itoa Tryd.laysM171 n h0 h1 w htab
def Tryd.laysC172_ren : Go.Shelf.Ren := ⟨fun | 172 => 157 | 244 => 164 | 245 => 165 | 247 => 177 | 279 => 178 | 280 => 179 | 281 => 180 | 282 => 181 | 287 => 192 | 316 => 193 | 171 => 108 | 205 => 194 | 321 => 198 | 322 => 199 | 243 => 152 | 246 => 162 | 283 => 169 | 284 => 170 | 285 => 171 | 286 => 172 | 129 => 186 | 317 => 185 | 318 => 187 | 319 => 188 | 320 => 189 | 337 => 196 | 338 => 197 | n => n, fun | 9 => 9 | 3 => 3 | 75 => 116 | 76 => 117 | 4 => 4 | 5 => 5 | 167 => 135 | 37 => 121 | 0 => 0 | 85 => 136 | 2 => 2 | 168 => 138 | 53 => 127 | 175 => 150 | 46 => 134 | 210 => 154 | 127 => 158 | 145 => 161 | 143 => 159 | 21 => 21 | 171 => 126 | 173 => 130 | 212 => 144 | 51 => 145 | 20 => 20 | 213 => 146 | 232 => 166 | 233 => 167 | 80 => 168 | n => n, fun | 15 => 2 | 16 => 3 | 17 => 1 | 18 => 6 | 19 => 7 | n => n⟩
theorem Tryd.laysC172 : Go.Proofs.LaysC.n172 Tryd.prog Tryd.laysC172_ren := {
 mixed := by kernel_rfl
 f129 := Tryd.func186.trans (congrArg some (by kernel_rfl))
 f171 := Tryd.func108.trans (congrArg some (by kernel_rfl))
 f172 := Tryd.func157.trans (congrArg some (by kernel_rfl))
 f205 := Tryd.func194.trans (congrArg some (by kernel_rfl))
 f243 := Tryd.func152.trans (congrArg some (by kernel_rfl))
 f244 := Tryd.func164.trans (congrArg some (by kernel_rfl))
 f245 := Tryd.func165.trans (congrArg some (by kernel_rfl))
 f246 := Tryd.func162.trans (congrArg some (by kernel_rfl))
 f247 := Tryd.func177.trans (congrArg some (by kernel_rfl))
 f279 := Tryd.func178.trans (congrArg some (by kernel_rfl))
 f280 := Tryd.func179.trans (congrArg some (by kernel_rfl))
 f281 := Tryd.func180.trans (congrArg some (by kernel_rfl))
 f282 := Tryd.func181.trans (congrArg some (by kernel_rfl))
 f283 := Tryd.func169.trans (congrArg some (by kernel_rfl))
 f284 := Tryd.func170.trans (congrArg some (by kernel_rfl))
 f285 := Tryd.func171.trans (congrArg some (by kernel_rfl))
 f286 := Tryd.func172.trans (congrArg some (by kernel_rfl))
 f287 := Tryd.func192.trans (congrArg some (by kernel_rfl))
 f316 := Tryd.func193.trans (congrArg some (by kernel_rfl))
 f317 := Tryd.func185.trans (congrArg some (by kernel_rfl))
 f318 := Tryd.func187.trans (congrArg some (by kernel_rfl))
 f319 := Tryd.func188.trans (congrArg some (by kernel_rfl))
 f320 := Tryd.func189.trans (congrArg some (by kernel_rfl))
 f321 := Tryd.func198.trans (congrArg some (by kernel_rfl))
 f322 := Tryd.func199.trans (congrArg some (by kernel_rfl))
 f337 := Tryd.func196.trans (congrArg some (by kernel_rfl))
 f338 := Tryd.func197.trans (congrArg some (by kernel_rfl))
 t0 := Tryd.underlying0
 a0 := Tryd.isAgg0
 z0 := Tryd.sizeOf0
 v0 := Tryd.zeroValue0
 t2 := Tryd.underlying2
 a2 := Tryd.isAgg2
 z2 := Tryd.sizeOf2
 v2 := Tryd.zeroValue2
 t3 := Tryd.underlying3
 a3 := Tryd.isAgg3
 z3 := Tryd.sizeOf3
 v3 := Tryd.zeroValue3
 t4 := Tryd.underlying4
 a4 := Tryd.isAgg4
 z4 := Tryd.sizeOf4
 v4 := Tryd.zeroValue4
 t5 := Tryd.underlying5
 a5 := Tryd.isAgg5
 z5 := Tryd.sizeOf5
 v5 := Tryd.zeroValue5
 t9 := Tryd.underlying9
 a9 := Tryd.isAgg9
 z9 := Tryd.sizeOf9
 v9 := Tryd.zeroValue9
 t20 := Tryd.underlying20
 a20 := Tryd.isAgg20
 z20 := Tryd.sizeOf20
 v20 := Tryd.zeroValue20
 t21 := Tryd.underlying21
 a21 := Tryd.isAgg21
 z21 := Tryd.sizeOf21
 v21 := Tryd.zeroValue21
 t37 := Tryd.underlying121
 a37 := Tryd.isAgg121
 z37 := Tryd.sizeOf121
 v37 := Tryd.zeroValue121
 t46 := Tryd.underlying134
 a46 := Tryd.isAgg134
 z46 := Tryd.sizeOf134
 v46 := Tryd.zeroValue134
 t51 := Tryd.underlying145
 a51 := Tryd.isAgg145
 z51 := Tryd.sizeOf145
 v51 := Tryd.zeroValue145
 t53 := Tryd.underlying127
 a53 := Tryd.isAgg127
 z53 := Tryd.sizeOf127
 v53 := Tryd.zeroValue127
 t75 := Tryd.underlying116
 a75 := Tryd.isAgg116
 z75 := Tryd.sizeOf116
 v75 := Tryd.zeroValue116
 t76 := Tryd.underlying117
 a76 := Tryd.isAgg117
 z76 := Tryd.sizeOf117
 v76 := Tryd.zeroValue117
 t85 := Tryd.underlying136
 a85 := Tryd.isAgg136
 z85 := Tryd.sizeOf136
 v85 := Tryd.zeroValue136
 t127 := Tryd.underlying158
 a127 := Tryd.isAgg158
 z127 := Tryd.sizeOf158
 v127 := Tryd.zeroValue158
 t143 := Tryd.underlying159
 a143 := Tryd.isAgg159
 z143 := Tryd.sizeOf159
 v143 := Tryd.zeroValue159
 t145 := Tryd.underlying161
 a145 := Tryd.isAgg161
 z145 := Tryd.sizeOf161
 v145 := Tryd.zeroValue161
 t167 := Tryd.underlying135
 a167 := Tryd.isAgg135
 z167 := Tryd.sizeOf135
 v167 := Tryd.zeroValue135
 t168 := Tryd.underlying138
 a168 := Tryd.isAgg138
 z168 := Tryd.sizeOf138
 v168 := Tryd.zeroValue138
 t171 := Tryd.underlying126
 a171 := Tryd.isAgg126
 z171 := Tryd.sizeOf126
 v171 := Tryd.zeroValue126
 t173 := Tryd.underlying130
 a173 := Tryd.isAgg130
 z173 := Tryd.sizeOf130
 v173 := Tryd.zeroValue130
 t175 := Tryd.underlying150
 a175 := Tryd.isAgg150
 z175 := Tryd.sizeOf150
 v175 := Tryd.zeroValue150
 t210 := Tryd.underlying154
 a210 := Tryd.isAgg154
 z210 := Tryd.sizeOf154
 v210 := Tryd.zeroValue154
 t212 := Tryd.underlying144
 a212 := Tryd.isAgg144
 z212 := Tryd.sizeOf144
 v212 := Tryd.zeroValue144
 t213 := Tryd.underlying146
 a213 := Tryd.isAgg146
 z213 := Tryd.sizeOf146
 t232 := Tryd.underlying166
 a232 := Tryd.isAgg166
 z232 := Tryd.sizeOf166
 v232 := Tryd.zeroValue166
 t233 := Tryd.underlying167
 a233 := Tryd.isAgg167
 z233 := Tryd.sizeOf167
 v233 := Tryd.zeroValue167
 g15 := by kernel_rfl
 g16 := by kernel_rfl
 g17 := by kernel_rfl
 g18 := by kernel_rfl
 g19 := by kernel_rfl
 t80 := Tryd.underlying168
 a80 := Tryd.isAgg168
 z80 := Tryd.sizeOf168
 v80 := Tryd.zeroValue168
 i0 := by kernel_rfl
 i2 := by kernel_rfl
 i3 := by kernel_rfl
 i4 := by kernel_rfl
 i5 := by kernel_rfl
 i9 := by kernel_rfl
 i20 := by kernel_rfl
 i21 := by kernel_rfl
 i37 := by kernel_rfl
 i46 := by kernel_rfl
 i51 := by kernel_rfl
 i53 := by kernel_rfl
 i75 := by kernel_rfl
 i76 := by kernel_rfl
 i80 := by kernel_rfl
 i85 := by kernel_rfl
 i127 := by kernel_rfl
 i143 := by kernel_rfl
 i145 := by kernel_rfl
 i167 := by kernel_rfl
 i168 := by kernel_rfl
 i171 := by kernel_rfl
 i173 := by kernel_rfl
 i175 := by kernel_rfl
 i210 := by kernel_rfl
 i212 := by kernel_rfl
 i232 := by kernel_rfl
 i233 := by kernel_rfl
 m15 := by kernel_rfl
 m16 := by kernel_rfl
 m17 := by kernel_rfl
 m18 := by kernel_rfl
 m19 := by kernel_rfl
 c0 := by kernel_rfl
 c2 := by kernel_rfl
 c3 := by kernel_rfl
 c4 := by kernel_rfl
 c5 := by kernel_rfl
 c9 := by kernel_rfl
 c20 := by kernel_rfl
 c21 := by kernel_rfl
 c37 := by kernel_rfl
 c46 := by kernel_rfl
 c51 := by kernel_rfl
 c53 := by kernel_rfl
 c75 := by kernel_rfl
 c76 := by kernel_rfl
 c80 := by kernel_rfl
 c85 := by kernel_rfl
 c127 := by kernel_rfl
 c143 := by kernel_rfl
 c145 := by kernel_rfl
 c167 := by kernel_rfl
 c168 := by kernel_rfl
 c171 := by kernel_rfl
 c173 := by kernel_rfl
 c175 := by kernel_rfl
 c210 := by kernel_rfl
 c212 := by kernel_rfl
 c213 := by kernel_rfl
 c232 := by kernel_rfl
 c233 := by kernel_rfl }
open Go.RowKit in
theorem Tryd.strconv_Atoi_ok (s : ByteArray) (hmax : s.size ≤ 9223372036854775806) (v : Int) (h : Lib.atoiAll s.data.toList = .ok v) (w : World) :
 Calls Tryd.prog 157 #[.string s] w fun e w' => e = .returned (.tuple #[.int .i64 v, .nilIface]) ∧ (w' = w ∨ ∃ t, w' = Lib.bytesWorld w 5 t) := Any.strconv_Atoi_ok Tryd.laysC172 s hmax v h w
open Go.RowKit in
theorem Tryd.strconv_Atoi_syntax_var (s : ByteArray) (hlim : s.size ≤ 281474976710656) (h : Lib.atoiAll s.data.toList = Lib.NumEnd.syntax) (tp : TypeId) (p : Value) (w : World) (hvar : w.var? Tryd.prog "strconv.ErrSyntax" = some #[.iface tp p]) :
 Calls Tryd.prog 157 #[.string s] w fun e w' => ∃ N, e = .returned (.tuple #[.int .i64 0, .iface 138 (.pointer (some ⟨N, 0, none⟩))]) ∧ w.heap.size ≤ N ∧ w'.heap[N]? = some (.cells #[.string ⟨#[65, 116, 111, 105]⟩, .string s, .iface tp p] 154 (0, 0)) ∧ Below w.heap.size w w' := Any.strconv_Atoi_syntax_var Tryd.laysC172 s hlim h tp p w hvar
open Go.RowKit in
theorem Tryd.strconv_Atoi_range_var (s : ByteArray) (hlim : s.size ≤ 281474976710656) (h : Lib.atoiAll s.data.toList = .range) (tp : TypeId) (p : Value) (w : World) (hvar : w.var? Tryd.prog "strconv.ErrRange" = some #[.iface tp p]) :
 Calls Tryd.prog 157 #[.string s] w fun e w' => ∃ N, e = .returned (.tuple #[.int .i64 (Lib.atoiSat s.data.toList), .iface 138 (.pointer (some ⟨N, 0, none⟩))]) ∧ w.heap.size ≤ N ∧ w'.heap[N]? = some (.cells #[.string ⟨#[65, 116, 111, 105]⟩, .string s, .iface tp p] 154 (0, 0)) ∧ Below w.heap.size w w' := Any.strconv_Atoi_range_var Tryd.laysC172 s hlim h tp p w hvar
def Tryd.lays145_ren : Go.Shelf.Ren := ⟨fun | 145 => 117 | 220 => 156 | 219 => 163 | 217 => 173 | 225 => 174 | 224 => 175 | 267 => 176 | 266 => 190 | 314 => 191 | n => n, fun | 9 => 9 | 4 => 4 | 59 => 96 | 3 => 3 | 5 => 5 | 46 => 134 | 146 => 148 | 51 => 145 | n => n, fun | 1 => 0 | n => n⟩
theorem Tryd.lays145 : Go.Proofs.Lays.n145 Tryd.prog Tryd.lays145_ren := {
 mixed := by kernel_rfl
 f145 := Tryd.func117.trans (congrArg some (by kernel_rfl))
 f217 := Tryd.func173.trans (congrArg some (by kernel_rfl))
 f219 := Tryd.func163.trans (congrArg some (by kernel_rfl))
 f220 := Tryd.func156.trans (congrArg some (by kernel_rfl))
 f224 := Tryd.func175.trans (congrArg some (by kernel_rfl))
 f225 := Tryd.func174.trans (congrArg some (by kernel_rfl))
 f266 := Tryd.func190.trans (congrArg some (by kernel_rfl))
 f267 := Tryd.func176.trans (congrArg some (by kernel_rfl))
 f314 := Tryd.func191.trans (congrArg some (by kernel_rfl))
 t3 := Tryd.underlying3
 a3 := Tryd.isAgg3
 z3 := Tryd.sizeOf3
 v3 := Tryd.zeroValue3
 t4 := Tryd.underlying4
 a4 := Tryd.isAgg4
 z4 := Tryd.sizeOf4
 v4 := Tryd.zeroValue4
 t5 := Tryd.underlying5
 a5 := Tryd.isAgg5
 z5 := Tryd.sizeOf5
 v5 := Tryd.zeroValue5
 t9 := Tryd.underlying9
 a9 := Tryd.isAgg9
 z9 := Tryd.sizeOf9
 v9 := Tryd.zeroValue9
 t46 := Tryd.underlying134
 a46 := Tryd.isAgg134
 z46 := Tryd.sizeOf134
 v46 := Tryd.zeroValue134
 t51 := Tryd.underlying145
 a51 := Tryd.isAgg145
 z51 := Tryd.sizeOf145
 v51 := Tryd.zeroValue145
 t59 := Tryd.underlying96
 a59 := Tryd.isAgg96
 z59 := Tryd.sizeOf96
 v59 := Tryd.zeroValue96
 t146 := Tryd.underlying148
 a146 := Tryd.isAgg148
 z146 := Tryd.sizeOf148
 v146 := Tryd.zeroValue148
 g1 := by kernel_rfl }
open Go.RowKit Go.Lib in
theorem Tryd.strings_Cut (s sep : ByteArray) (m : Int) (w : World) (hs : s.size < 4294967281) (hm : w.cell? ⟨0, 0, none⟩ = some (.int .i64 m)) :
 Calls Tryd.prog 117 #[.string s, .string sep] w fun e w' => e = .returned (.tuple #[.string ⟨(Lib.cut s.data.toList sep.data.toList).1.toArray⟩, .string ⟨(Lib.cut s.data.toList sep.data.toList).2.1.toArray⟩, .bool (Lib.cut s.data.toList sep.data.toList).2.2]) ∧ ∃ n, w' = w.drewN n := Any.strings_Cut Tryd.lays145 s sep m w hs hm
def Tryd.lays146_ren : Go.Shelf.Ren := ⟨fun | 146 => 121 | 221 => 158 | 268 => 166 | 138 => 167 | 143 => 168 | 195 => 182 | 197 => 183 | 218 => 184 | 219 => 163 | 260 => 195 | 217 => 173 | 225 => 174 | 224 => 175 | 267 => 176 | 266 => 190 | 314 => 191 | n => n, fun | 9 => 9 | 31 => 99 | 3 => 3 | 4 => 4 | 0 => 0 | 105 => 141 | 21 => 21 | 5 => 5 | 46 => 134 | 119 => 162 | 139 => 165 | 138 => 164 | 146 => 148 | 51 => 145 | n => n, fun | 1 => 0 | 3 => 4 | 4 => 5 | n => n⟩
theorem Tryd.lays146 : Go.Proofs.Lays.n146 Tryd.prog Tryd.lays146_ren := {
 mixed := by kernel_rfl
 f138 := Tryd.func167.trans (congrArg some (by kernel_rfl))
 f143 := Tryd.func168.trans (congrArg some (by kernel_rfl))
 f146 := Tryd.func121.trans (congrArg some (by kernel_rfl))
 f195 := Tryd.func182.trans (congrArg some (by kernel_rfl))
 f197 := Tryd.func183.trans (congrArg some (by kernel_rfl))
 f217 := Tryd.func173.trans (congrArg some (by kernel_rfl))
 f218 := Tryd.func184.trans (congrArg some (by kernel_rfl))
 f219 := Tryd.func163.trans (congrArg some (by kernel_rfl))
 f221 := Tryd.func158.trans (congrArg some (by kernel_rfl))
 f224 := Tryd.func175.trans (congrArg some (by kernel_rfl))
 f225 := Tryd.func174.trans (congrArg some (by kernel_rfl))
 f260 := Tryd.func195.trans (congrArg some (by kernel_rfl))
 f266 := Tryd.func190.trans (congrArg some (by kernel_rfl))
 f267 := Tryd.func176.trans (congrArg some (by kernel_rfl))
 f268 := Tryd.func166.trans (congrArg some (by kernel_rfl))
 f314 := Tryd.func191.trans (congrArg some (by kernel_rfl))
 t0 := Tryd.underlying0
 a0 := Tryd.isAgg0
 z0 := Tryd.sizeOf0
 v0 := Tryd.zeroValue0
 t3 := Tryd.underlying3
 a3 := Tryd.isAgg3
 z3 := Tryd.sizeOf3
 v3 := Tryd.zeroValue3
 t4 := Tryd.underlying4
 a4 := Tryd.isAgg4
 z4 := Tryd.sizeOf4
 v4 := Tryd.zeroValue4
 t5 := Tryd.underlying5
 a5 := Tryd.isAgg5
 z5 := Tryd.sizeOf5
 v5 := Tryd.zeroValue5
 t9 := Tryd.underlying9
 a9 := Tryd.isAgg9
 z9 := Tryd.sizeOf9
 v9 := Tryd.zeroValue9
 t21 := Tryd.underlying21
 a21 := Tryd.isAgg21
 z21 := Tryd.sizeOf21
 v21 := Tryd.zeroValue21
 t31 := Tryd.underlying99
 a31 := Tryd.isAgg99
 z31 := Tryd.sizeOf99
 v31 := Tryd.zeroValue99
 t46 := Tryd.underlying134
 a46 := Tryd.isAgg134
 z46 := Tryd.sizeOf134
 v46 := Tryd.zeroValue134
 t51 := Tryd.underlying145
 a51 := Tryd.isAgg145
 z51 := Tryd.sizeOf145
 v51 := Tryd.zeroValue145
 t105 := Tryd.underlying141
 a105 := Tryd.isAgg141
 z105 := Tryd.sizeOf141
 v105 := Tryd.zeroValue141
 t119 := Tryd.underlying162
 a119 := Tryd.isAgg162
 z119 := Tryd.sizeOf162
 t138 := Tryd.underlying164
 a138 := Tryd.isAgg164
 z138 := Tryd.sizeOf164
 v138 := Tryd.zeroValue164
 t139 := Tryd.underlying165
 a139 := Tryd.isAgg165
 z139 := Tryd.sizeOf165
 v139 := Tryd.zeroValue165
 t146 := Tryd.underlying148
 a146 := Tryd.isAgg148
 z146 := Tryd.sizeOf148
 v146 := Tryd.zeroValue148
 g1 := by kernel_rfl
 g3 := by kernel_rfl
 g4 := by kernel_rfl }
open Go.RowKit Go.Lib in
theorem Tryd.strings_Split (s sep : ByteArray) (m : Int) (w : World) (hs : s.size < 4294967281) (hm : w.cell? ⟨0, 0, none⟩ = some (.int .i64 m)) (h1 : 1 ≤ sep.size) :
 Calls Tryd.prog 121 #[.string s, .string sep] w fun e w' =>
  e = .returned (.slice (some ⟨w.heap.size, 0, none⟩) (Lib.countB s sep + 1) (Lib.countB s sep + 1)) ∧ w' = w.alloc (.cells ((Lib.splitB sep 0 (Lib.countB s sep) s).map Value.string).toArray 9) := Any.strings_Split Tryd.lays146 (by kernel_rfl) s sep m w hs hm h1
end Go.Proofs
