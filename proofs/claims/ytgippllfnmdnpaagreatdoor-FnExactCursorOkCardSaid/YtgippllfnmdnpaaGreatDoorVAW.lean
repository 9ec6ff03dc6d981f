/- Own text: part VAW. -/
import Derived.Test.YtgippllfnmdnpaaGreatDoorVAR
import Derived.Shelf.Strings.Builder1
import Derived.Shelf.Strings.Builder2
import Derived.Shelf.Strings.OnBuilder
import Derived.Shelf.Small.Strs
import Derived.Shelf.Strings.BuilderF
import Derived.Shelf.Strings.BuilderK
import Derived.Shelf.Strings.Builder2Cap
import Derived.Shelf.Strings.Search1
import Derived.Shelf.Strings.Search3
import Derived.Shelf.LaysM
import Derived.Shelf.Strings.Shaped
import Derived.Shelf.Strings.Prefix
import Derived.Shelf.Unicode.Decode
import Derived.Shelf.Bits.Mul64
import Derived.Shelf.Unicode.DecodeAny
import Derived.Shelf.Strings.BuilderCap
import Derived.Test.YtgippllfnmdnpaaGreatDoorVAT
set_option linter.all false
namespace Go.Proofs
open Go.Shelf
def Tryz.xC:Go.Shelf.Ren:=⟨fun|156=>353|165=>233|166=>234|169=>236|240=>268|241=>269|276=>306|277=>307|n=>n,fun|31=>150|9=>9|3=>3|4=>4|0=>0|20=>20|72=>202|76=>205|70=>200|37=>22|75=>204|127=>234|164=>258|5=>5|80=>208|n=>n,fun|n=>n⟩
theorem Tryz.Kc:Go.Proofs.Lays.n156 Tryz.prog Tryz.xC:={
 mixed:=by kernel_rfl
 f156:=Tryz.func353.trans (cD some (by kernel_rfl))
 f165:=Tryz.func233.trans (cD some (by kernel_rfl))
 f166:=Tryz.func234.trans (cD some (by kernel_rfl))
 f169:=Tryz.func236.trans (cD some (by kernel_rfl))
 f240:=Tryz.func268.trans (cD some (by kernel_rfl))
 f241:=Tryz.func269.trans (cD some (by kernel_rfl))
 f276:=Tryz.func306.trans (cD some (by kernel_rfl))
 f277:=Tryz.func307.trans (cD some (by kernel_rfl))
 t0:=Tryz.underlying0
 a0:=Tryz.isAgg0
 z0:=Tryz.sizeOf0
 v0:=Tryz.zeroValue0
 t3:=Tryz.underlying3
 a3:=Tryz.isAgg3
 z3:=Tryz.sizeOf3
 v3:=Tryz.zeroValue3
 t4:=Tryz.underlying4
 a4:=Tryz.isAgg4
 z4:=Tryz.sizeOf4
 v4:=Tryz.zeroValue4
 t9:=Tryz.underlying9
 a9:=Tryz.isAgg9
 z9:=Tryz.sizeOf9
 v9:=Tryz.zeroValue9
 t20:=Tryz.underlying20
 a20:=Tryz.isAgg20
 z20:=Tryz.sizeOf20
 v20:=Tryz.zeroValue20
 t31:=Tryz.underlying150
 a31:=Tryz.isAgg150
 z31:=Tryz.sizeOf150
 v31:=Tryz.zeroValue150
 t37:=Tryz.underlying22
 a37:=Tryz.isAgg22
 z37:=Tryz.sizeOf22
 v37:=Tryz.zeroValue22
 t70:=Tryz.underlying200
 a70:=Tryz.isAgg200
 z70:=Tryz.sizeOf200
 v70:=Tryz.zeroValue200
 t72:=Tryz.underlying202
 a72:=Tryz.isAgg202
 z72:=Tryz.sizeOf202
 v72:=Tryz.zeroValue202
 t75:=Tryz.underlying204
 a75:=Tryz.isAgg204
 z75:=Tryz.sizeOf204
 v75:=Tryz.zeroValue204
 t76:=Tryz.underlying205
 a76:=Tryz.isAgg205
 z76:=Tryz.sizeOf205
 v76:=Tryz.zeroValue205
 t127:=Tryz.underlying234
 a127:=Tryz.isAgg234
 z127:=Tryz.sizeOf234
 v127:=Tryz.zeroValue234
 t164:=Tryz.underlying258
 a164:=Tryz.isAgg258
 z164:=Tryz.sizeOf258
 v164:=Tryz.zeroValue258 }
theorem Tryz.nK:Builder.Extra Tryz.prog Tryz.xC:={
 sizeBuilder:=by kernel_rfl
 liesBuilder:=by kernel_rfl
 t5:=Tryz.underlying5
 a5:=Tryz.isAgg5
 z5:=Tryz.sizeOf5
 v5:=Tryz.zeroValue5
 infoByte:=by kernel_rfl
 cellsByte:=by kernel_rfl
 sizeByte:=by kernel_rfl
 neB5:=by decide }
open Go.RowKit in
theorem Tryz.strings_Join(d o c:Nat)(xs:List ByteArray)(sep:ByteArray)(w:World)(a:∀(j:Nat) x,xs[j]?=some x->w.cell? ⟨d,o+j,none⟩=some (.string x))(f:d<w.heap.size)(g:xs.length<=140737488355328)(b:xs.length<=c)(hlen:(Lib.join (xs.map (·.data.toList)) sep.data.toList).length<=140737488355328) :
  Calls Tryz.prog 353 #[.slice (some ⟨d,o,none⟩) xs.length c,.string sep] w fun e w'=>e=.returned (.string ⟨(Lib.join (xs.map (·.data.toList)) sep.data.toList).toArray⟩)/\Below w.heap.size w w':=Any.strings_Join Tryz.Kc Tryz.nK d o c xs sep w a f g b hlen
open Go.RowKit in
theorem Tryz.strings_Join_none(a:Option Addr)(c:Nat)(sep:ByteArray)(w:World) :
  Calls Tryz.prog 353 #[.slice a 0 c,.string sep] w fun e w'=>e=.returned (.string ⟨#[]⟩)/\w'=w:=Any.strings_Join_none Tryz.Kc Tryz.nK a c sep w
def Tryz.xB:Go.Shelf.Ren:=⟨fun|105=>189|212=>231|99=>232|165=>233|166=>234|170=>235|169=>236|263=>265|264=>266|206=>267|240=>268|241=>269|276=>306|277=>307|n=>n,fun|9=>9|3=>3|4=>4|20=>20|0=>0|46=>183|109=>198|5=>5|72=>202|76=>205|51=>228|146=>229|53=>231|148=>232|70=>200|37=>22|75=>204|127=>234|164=>258|80=>208|n=>n,fun|n=>n⟩
theorem Tryz.Q5:Go.Proofs.Lays.n105 Tryz.prog Tryz.xB:={
 mixed:=by kernel_rfl
 f99:=Tryz.func232.trans (cD some (by kernel_rfl))
 f105:=Tryz.func189.trans (cD some (by kernel_rfl))
 f165:=Tryz.func233.trans (cD some (by kernel_rfl))
 f166:=Tryz.func234.trans (cD some (by kernel_rfl))
 f169:=Tryz.func236.trans (cD some (by kernel_rfl))
 f170:=Tryz.func235.trans (cD some (by kernel_rfl))
 f206:=Tryz.func267.trans (cD some (by kernel_rfl))
 f212:=Tryz.func231.trans (cD some (by kernel_rfl))
 f240:=Tryz.func268.trans (cD some (by kernel_rfl))
 f241:=Tryz.func269.trans (cD some (by kernel_rfl))
 f263:=Tryz.func265.trans (cD some (by kernel_rfl))
 f264:=Tryz.func266.trans (cD some (by kernel_rfl))
 f276:=Tryz.func306.trans (cD some (by kernel_rfl))
 f277:=Tryz.func307.trans (cD some (by kernel_rfl))
 t0:=Tryz.underlying0
 a0:=Tryz.isAgg0
 z0:=Tryz.sizeOf0
 v0:=Tryz.zeroValue0
 t3:=Tryz.underlying3
 a3:=Tryz.isAgg3
 z3:=Tryz.sizeOf3
 v3:=Tryz.zeroValue3
 t4:=Tryz.underlying4
 a4:=Tryz.isAgg4
 z4:=Tryz.sizeOf4
 v4:=Tryz.zeroValue4
 t5:=Tryz.underlying5
 a5:=Tryz.isAgg5
 z5:=Tryz.sizeOf5
 v5:=Tryz.zeroValue5
 t9:=Tryz.underlying9
 a9:=Tryz.isAgg9
 z9:=Tryz.sizeOf9
 v9:=Tryz.zeroValue9
 t20:=Tryz.underlying20
 a20:=Tryz.isAgg20
 z20:=Tryz.sizeOf20
 v20:=Tryz.zeroValue20
 t37:=Tryz.underlying22
 a37:=Tryz.isAgg22
 z37:=Tryz.sizeOf22
 v37:=Tryz.zeroValue22
 t46:=Tryz.underlying183
 a46:=Tryz.isAgg183
 z46:=Tryz.sizeOf183
 v46:=Tryz.zeroValue183
 t51:=Tryz.underlying228
 a51:=Tryz.isAgg228
 z51:=Tryz.sizeOf228
 v51:=Tryz.zeroValue228
 t53:=Tryz.underlying231
 a53:=Tryz.isAgg231
 z53:=Tryz.sizeOf231
 v53:=Tryz.zeroValue231
 t70:=Tryz.underlying200
 a70:=Tryz.isAgg200
 z70:=Tryz.sizeOf200
 v70:=Tryz.zeroValue200
 t72:=Tryz.underlying202
 a72:=Tryz.isAgg202
 z72:=Tryz.sizeOf202
 v72:=Tryz.zeroValue202
 t75:=Tryz.underlying204
 a75:=Tryz.isAgg204
 z75:=Tryz.sizeOf204
 v75:=Tryz.zeroValue204
 t76:=Tryz.underlying205
 a76:=Tryz.isAgg205
 z76:=Tryz.sizeOf205
 v76:=Tryz.zeroValue205
 t109:=Tryz.underlying198
 a109:=Tryz.isAgg198
 z109:=Tryz.sizeOf198
 v109:=Tryz.zeroValue198
 t127:=Tryz.underlying234
 a127:=Tryz.isAgg234
 z127:=Tryz.sizeOf234
 v127:=Tryz.zeroValue234
 t146:=Tryz.underlying229
 a146:=Tryz.isAgg229
 z146:=Tryz.sizeOf229
 v146:=Tryz.zeroValue229
 t148:=Tryz.underlying232
 a148:=Tryz.isAgg232
 z148:=Tryz.sizeOf232
 v148:=Tryz.zeroValue232
 t164:=Tryz.underlying258
 a164:=Tryz.isAgg258
 z164:=Tryz.sizeOf258
 v164:=Tryz.zeroValue258 }
theorem Tryz.ur:Builder.Extra Tryz.prog Tryz.xB:={
 sizeBuilder:=by kernel_rfl
 liesBuilder:=by kernel_rfl
 t5:=Tryz.underlying5
 a5:=Tryz.isAgg5
 z5:=Tryz.sizeOf5
 v5:=Tryz.zeroValue5
 infoByte:=by kernel_rfl
 cellsByte:=by kernel_rfl
 sizeByte:=by kernel_rfl
 neB5:=by decide }
open Go.RowKit Go.Lib in
theorem Tryz.strings_Repeat(s:ByteArray)(c:Nat)(w:World)(a:c<=9223372036854775807)(hlen:s.size*c<=140737488355328) :
  Calls Tryz.prog 189 #[.string s,.int .i64 c] w fun e w'=>e=.returned (.string ⟨(Lib.repeatL s.data.toList c).toArray⟩)/\Below w.heap.size w w':=Any.strings_Repeat Tryz.Q5 Tryz.ur s c w a hlen
def Tryz.F5:Go.Shelf.Ren:=⟨fun|144=>194|143=>242|219=>273|217=>230|225=>308|224=>309|267=>310|266=>264|314=>340|n=>n,fun|9=>9|4=>4|3=>3|5=>5|46=>183|146=>229|51=>228|n=>n,fun|1=>2|n=>n⟩
theorem Tryz.Q6:Go.Proofs.Lays.n144 Tryz.prog Tryz.F5:={
 mixed:=by kernel_rfl
 f143:=Tryz.func242.trans (cD some (by kernel_rfl))
 f144:=Tryz.func194.trans (cD some (by kernel_rfl))
 f217:=Tryz.func230.trans (cD some (by kernel_rfl))
 f219:=Tryz.func273.trans (cD some (by kernel_rfl))
 f224:=Tryz.func309.trans (cD some (by kernel_rfl))
 f225:=Tryz.func308.trans (cD some (by kernel_rfl))
 f266:=Tryz.func264.trans (cD some (by kernel_rfl))
 f267:=Tryz.func310.trans (cD some (by kernel_rfl))
 f314:=Tryz.func340.trans (cD some (by kernel_rfl))
 t3:=Tryz.underlying3
 a3:=Tryz.isAgg3
 z3:=Tryz.sizeOf3
 v3:=Tryz.zeroValue3
 t4:=Tryz.underlying4
 a4:=Tryz.isAgg4
 z4:=Tryz.sizeOf4
 v4:=Tryz.zeroValue4
 t5:=Tryz.underlying5
 a5:=Tryz.isAgg5
 z5:=Tryz.sizeOf5
 v5:=Tryz.zeroValue5
 t9:=Tryz.underlying9
 a9:=Tryz.isAgg9
 z9:=Tryz.sizeOf9
 v9:=Tryz.zeroValue9
 t46:=Tryz.underlying183
 a46:=Tryz.isAgg183
 z46:=Tryz.sizeOf183
 v46:=Tryz.zeroValue183
 t51:=Tryz.underlying228
 a51:=Tryz.isAgg228
 z51:=Tryz.sizeOf228
 v51:=Tryz.zeroValue228
 t146:=Tryz.underlying229
 a146:=Tryz.isAgg229
 z146:=Tryz.sizeOf229
 v146:=Tryz.zeroValue229
 g1:=by kernel_rfl }
open Go.RowKit Go.Lib in
theorem Tryz.strings_Contains_one(s:ByteArray)(c:UInt8)(w:World) :
  Calls Tryz.prog 194 #[.string s,.string ⟨#[c]⟩] w fun e w'=>e=.returned (.bool (decide (0<=Lib.indexByte s.data.toList c)))/\w'=w:=Any.strings_Contains_one Tryz.Q6 s c w
def Tryz.xD:Go.Shelf.Ren:=⟨fun|197=>208|260=>246|n=>n,fun|9=>9|21=>21|3=>3|4=>4|5=>5|105=>184|119=>237|0=>0|46=>183|139=>240|138=>239|n=>n,fun|3=>0|4=>1|n=>n⟩
theorem Tryz.Kd:Go.Proofs.Lays.n197 Tryz.prog Tryz.xD:={
 mixed:=by kernel_rfl
 f197:=Tryz.func208.trans (cD some (by kernel_rfl))
 f260:=Tryz.func246.trans (cD some (by kernel_rfl))
 t0:=Tryz.underlying0
 a0:=Tryz.isAgg0
 z0:=Tryz.sizeOf0
 v0:=Tryz.zeroValue0
 t3:=Tryz.underlying3
 a3:=Tryz.isAgg3
 z3:=Tryz.sizeOf3
 v3:=Tryz.zeroValue3
 t4:=Tryz.underlying4
 a4:=Tryz.isAgg4
 z4:=Tryz.sizeOf4
 v4:=Tryz.zeroValue4
 t5:=Tryz.underlying5
 a5:=Tryz.isAgg5
 z5:=Tryz.sizeOf5
 v5:=Tryz.zeroValue5
 t9:=Tryz.underlying9
 a9:=Tryz.isAgg9
 z9:=Tryz.sizeOf9
 v9:=Tryz.zeroValue9
 t21:=Tryz.underlying21
 a21:=Tryz.isAgg21
 z21:=Tryz.sizeOf21
 v21:=Tryz.zeroValue21
 t46:=Tryz.underlying183
 a46:=Tryz.isAgg183
 z46:=Tryz.sizeOf183
 v46:=Tryz.zeroValue183
 t105:=Tryz.underlying184
 a105:=Tryz.isAgg184
 z105:=Tryz.sizeOf184
 v105:=Tryz.zeroValue184
 t119:=Tryz.underlying237
 a119:=Tryz.isAgg237
 z119:=Tryz.sizeOf237
 t138:=Tryz.underlying239
 a138:=Tryz.isAgg239
 z138:=Tryz.sizeOf239
 v138:=Tryz.zeroValue239
 t139:=Tryz.underlying240
 a139:=Tryz.isAgg240
 z139:=Tryz.sizeOf240
 v139:=Tryz.zeroValue240
 g3:=by kernel_rfl
 g4:=by kernel_rfl }
open Go.RowKit Go.Lib in
theorem Tryz.utf8_DecodeRuneInString(s:ByteArray)(w:World)(a:Lib.Utf8Tabs 0 1 w) :
  Calls Tryz.prog 208 #[.string s] w fun e w'=>e=.returned (.tuple #[.int .i32 (Lib.decodeGo s).1,.int .i64 (Lib.decodeGo s).2])/\Below w.heap.size w w':=Any.utf8_DecodeRuneInString Tryz.Kd s w a
end Go.Proofs
namespace Go.TSh
variable[Go.Vg.df][Go.Vg.cS 0 1]
open Go.Proofs Go.Vg Go.RowKit
noncomputable def GA:=Ej
theorem l2{xs:List (List UInt8)}{t:List UInt8}:GA [.fs 1 (xs.map ij),.s t]=some (xs.length<=140737488355328/\(Lib.join xs t).length<=140737488355328,.s (Lib.join xs t)):=IL
theorem GB:fO Tryz.prog 353 GA:=IM (sk Tryz.func353 rfl rfl) Tryz.strings_Join_none Tryz.strings_Join
noncomputable def KX:=IQ
theorem j6{s:List UInt8}{c:Int}:KX [.s s,.i .i64 c]=some (0<=c/\c<=9223372036854775807/\(s.length:Int)*c<=140737488355328,.s (Lib.repeatL s c.toNat)):=Mn
theorem ua:fO Tryz.prog 189 KX:=Mo (sk Tryz.func189 rfl rfl) fun s c w a b=>Tryz.strings_Repeat s c w a b
noncomputable def KT:=IC
theorem ID{s:List UInt8}{c:UInt8}:KT [.s s,.s [c]]=some (True,.b (decide (c∈s))):=Me
theorem IE:fO Tryz.prog 194 KT:=Mf (sk Tryz.func194 rfl rfl) fun s c w=>Tryz.strings_Contains_one s c w
noncomputable def KU:=IF
theorem IG{s:List UInt8}:KU [.s s]=some (True,.fJ [.i .i32 (Lib.decodeGo ⟨s.toArray⟩).1,.i .i64 (Lib.decodeGo ⟨s.toArray⟩).2]):=Mg
theorem IH:fO Tryz.prog 208 KU:=Mh (a:=0) (b:=1) (sk Tryz.func208 rfl rfl) fun s w h=>Tryz.utf8_DecodeRuneInString s w h
end Go.TSh
