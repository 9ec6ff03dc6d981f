/- The library's contracts that this claim calls, laid at its program by the kit's own program. -/
import Derived.Test.YtjphhddbkjdbnaaVgBr
import Derived.Shelf.Strings.Builder1
import Derived.Shelf.Strings.Builder2
import Derived.Shelf.Small.Strs
import Derived.Shelf.Strings.BuilderF
import Derived.Shelf.Strings.Search1
import Derived.Shelf.Strings.Search2
import Derived.Shelf.Strings.Search3
import Derived.Shelf.LaysM
import Derived.Shelf.Strings.Prefix
import Derived.Shelf.Bits.Mul64
import Derived.Shelf.Strings.Repeat
import Derived.Test.YtjphhddbkjdbnaaTypes2
namespace Go.Proofs
open Go.Shelf
def Try.lays105_ren : Go.Shelf.Ren := ⟨fun | 105 => 139 | 212 => 145 | 99 => 146 | 165 => 147 | 166 => 148 | 170 => 149 | 169 => 150 | 263 => 153 | 264 => 154 | 206 => 155 | 240 => 156 | 241 => 157 | 276 => 158 | 277 => 159 | n => n, fun | 9 => 9 | 3 => 3 | 4 => 4 | 20 => 20 | 0 => 0 | 46 => 121 | 109 => 122 | 5 => 5 | 72 => 126 | 76 => 130 | 51 => 134 | 146 => 135 | 53 => 138 | 148 => 139 | 70 => 124 | 37 => 91 | 75 => 129 | 127 => 141 | 164 => 142 | 80 => 133 | n => n, fun | n => n⟩
theorem Try.lays105 : Go.Proofs.Lays.n105 Try.prog Try.lays105_ren := {
  mixed := by kernel_rfl
  f99 := Try.func146.trans (congrArg some (by kernel_rfl))
  f105 := Try.func139.trans (congrArg some (by kernel_rfl))
  f165 := Try.func147.trans (congrArg some (by kernel_rfl))
  f166 := Try.func148.trans (congrArg some (by kernel_rfl))
  f169 := Try.func150.trans (congrArg some (by kernel_rfl))
  f170 := Try.func149.trans (congrArg some (by kernel_rfl))
  f206 := Try.func155.trans (congrArg some (by kernel_rfl))
  f212 := Try.func145.trans (congrArg some (by kernel_rfl))
  f240 := Try.func156.trans (congrArg some (by kernel_rfl))
  f241 := Try.func157.trans (congrArg some (by kernel_rfl))
  f263 := Try.func153.trans (congrArg some (by kernel_rfl))
  f264 := Try.func154.trans (congrArg some (by kernel_rfl))
  f276 := Try.func158.trans (congrArg some (by kernel_rfl))
  f277 := Try.func159.trans (congrArg some (by kernel_rfl))
  t0 := Try.underlying0
  a0 := Try.isAgg0
  z0 := Try.sizeOf0
  v0 := Try.zeroValue0
  t3 := Try.underlying3
  a3 := Try.isAgg3
  z3 := Try.sizeOf3
  v3 := Try.zeroValue3
  t4 := Try.underlying4
  a4 := Try.isAgg4
  z4 := Try.sizeOf4
  v4 := Try.zeroValue4
  t5 := Try.underlying5
  a5 := Try.isAgg5
  z5 := Try.sizeOf5
  v5 := Try.zeroValue5
  t9 := Try.underlying9
  a9 := Try.isAgg9
  z9 := Try.sizeOf9
  v9 := Try.zeroValue9
  t20 := Try.underlying20
  a20 := Try.isAgg20
  z20 := Try.sizeOf20
  v20 := Try.zeroValue20
  t37 := Try.underlying91
  a37 := Try.isAgg91
  z37 := Try.sizeOf91
  v37 := Try.zeroValue91
  t46 := Try.underlying121
  a46 := Try.isAgg121
  z46 := Try.sizeOf121
  v46 := Try.zeroValue121
  t51 := Try.underlying134
  a51 := Try.isAgg134
  z51 := Try.sizeOf134
  v51 := Try.zeroValue134
  t53 := Try.underlying138
  a53 := Try.isAgg138
  z53 := Try.sizeOf138
  v53 := Try.zeroValue138
  t70 := Try.underlying124
  a70 := Try.isAgg124
  z70 := Try.sizeOf124
  v70 := Try.zeroValue124
  t72 := Try.underlying126
  a72 := Try.isAgg126
  z72 := Try.sizeOf126
  v72 := Try.zeroValue126
  t75 := Try.underlying129
  a75 := Try.isAgg129
  z75 := Try.sizeOf129
  v75 := Try.zeroValue129
  t76 := Try.underlying130
  a76 := Try.isAgg130
  z76 := Try.sizeOf130
  v76 := Try.zeroValue130
  t109 := Try.underlying122
  a109 := Try.isAgg122
  z109 := Try.sizeOf122
  v109 := Try.zeroValue122
  t127 := Try.underlying141
  a127 := Try.isAgg141
  z127 := Try.sizeOf141
  v127 := Try.zeroValue141
  t146 := Try.underlying135
  a146 := Try.isAgg135
  z146 := Try.sizeOf135
  v146 := Try.zeroValue135
  t148 := Try.underlying139
  a148 := Try.isAgg139
  z148 := Try.sizeOf139
  v148 := Try.zeroValue139
  t164 := Try.underlying142
  a164 := Try.isAgg142
  z164 := Try.sizeOf142
  v164 := Try.zeroValue142 }
theorem Try.Builder_Extra_105 : Builder.Extra Try.prog Try.lays105_ren := {
  sizeBuilder := by kernel_rfl
  liesBuilder := by kernel_rfl
  t5 := Try.underlying5
  a5 := Try.isAgg5
  z5 := Try.sizeOf5
  v5 := Try.zeroValue5
  infoByte := by kernel_rfl
  cellsByte := by kernel_rfl
  sizeByte := by kernel_rfl
  neB5 := by decide }
open Go.RowKit Go.Lib in
theorem Try.strings_Repeat (s : ByteArray) (c : Nat) (w : World) (hc : c ≤ 9223372036854775807) (hlen : s.size * c ≤ 140737488355328) :
    Calls Try.prog 139 #[.string s, .int .i64 c] w fun e w' => e = .returned (.string ⟨(Lib.repeatL s.data.toList c).toArray⟩) ∧ Below w.heap.size w w' := Any.strings_Repeat Try.lays105 Try.Builder_Extra_105 s c w hc hlen
def Try.lays144_ren : Go.Shelf.Ren := ⟨fun | 144 => 109 | 143 => 128 | 219 => 136 | 217 => 137 | 225 => 140 | 224 => 141 | 267 => 142 | 266 => 143 | 314 => 151 | n => n, fun | 9 => 9 | 4 => 4 | 3 => 3 | 5 => 5 | 46 => 121 | 146 => 135 | 51 => 134 | n => n, fun | 1 => 0 | n => n⟩
theorem Try.lays144 : Go.Proofs.Lays.n144 Try.prog Try.lays144_ren := {
  mixed := by kernel_rfl
  f143 := Try.func128.trans (congrArg some (by kernel_rfl))
  f144 := Try.func109.trans (congrArg some (by kernel_rfl))
  f217 := Try.func137.trans (congrArg some (by kernel_rfl))
  f219 := Try.func136.trans (congrArg some (by kernel_rfl))
  f224 := Try.func141.trans (congrArg some (by kernel_rfl))
  f225 := Try.func140.trans (congrArg some (by kernel_rfl))
  f266 := Try.func143.trans (congrArg some (by kernel_rfl))
  f267 := Try.func142.trans (congrArg some (by kernel_rfl))
  f314 := Try.func151.trans (congrArg some (by kernel_rfl))
  t3 := Try.underlying3
  a3 := Try.isAgg3
  z3 := Try.sizeOf3
  v3 := Try.zeroValue3
  t4 := Try.underlying4
  a4 := Try.isAgg4
  z4 := Try.sizeOf4
  v4 := Try.zeroValue4
  t5 := Try.underlying5
  a5 := Try.isAgg5
  z5 := Try.sizeOf5
  v5 := Try.zeroValue5
  t9 := Try.underlying9
  a9 := Try.isAgg9
  z9 := Try.sizeOf9
  v9 := Try.zeroValue9
  t46 := Try.underlying121
  a46 := Try.isAgg121
  z46 := Try.sizeOf121
  v46 := Try.zeroValue121
  t51 := Try.underlying134
  a51 := Try.isAgg134
  z51 := Try.sizeOf134
  v51 := Try.zeroValue134
  t146 := Try.underlying135
  a146 := Try.isAgg135
  z146 := Try.sizeOf135
  v146 := Try.zeroValue135
  g1 := by kernel_rfl }
open Go.RowKit Go.Lib in
theorem Try.strings_Contains_one (s : ByteArray) (c : UInt8) (w : World) :
    Calls Try.prog 109 #[.string s, .string ⟨#[c]⟩] w fun e w' => e = .returned (.bool (decide (0 ≤ Lib.indexByte s.data.toList c))) ∧ w' = w := Any.strings_Contains_one Try.lays144 s c w
end Go.Proofs
namespace Go.TSh
open Go.Proofs Go.Vg Go.RowKit
noncomputable def pe_rptS := pe_rpt
theorem pe_rptS_eq {s : List UInt8} {c : Int} : pe_rptS [.s s, .i .i64 c] = some (0 ≤ c ∧ c ≤ 9223372036854775807 ∧ (s.length : Int) * c ≤ 140737488355328, .s (Lib.repeatL s c.toNat)) := pe_rpt_eq
theorem pe_rptS_ok : PE1 Try.prog 139 pe_rptS := pe_rpt_ok (bodyOk_of Try.func139 rfl rfl) fun s c w h1 h2 => Try.strings_Repeat s c w h1 h2
noncomputable def pe_cntS := pe_cnt
theorem pe_cntS_eq {s : List UInt8} {c : UInt8} : pe_cntS [.s s, .s [c]] = some (True, .b (decide (c ∈ s))) := pe_cnt_eq
theorem pe_cntS_ok : PE1 Try.prog 109 pe_cntS := pe_cnt_ok (bodyOk_of Try.func109 rfl rfl) fun s c w => Try.strings_Contains_one s c w
end Go.TSh
