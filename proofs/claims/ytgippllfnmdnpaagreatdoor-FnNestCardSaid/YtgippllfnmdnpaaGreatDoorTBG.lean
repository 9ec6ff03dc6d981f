/- The library's contracts that this claim calls, laid at its program by the kit's own program. -/
import Derived.Test.YtgippllfnmdnpaaGreatDoorTBF
import Derived.Shelf.Strings.Builder1
import Derived.Shelf.Strings.Builder2
import Derived.Shelf.Strings.OnBuilder
import Derived.Shelf.Small.Strs
import Derived.Shelf.Strings.BuilderF
import Derived.Shelf.Strings.BuilderK
import Derived.Shelf.Strings.Builder2Cap
import Derived.Shelf.Strings.Search1
import Derived.Shelf.Strings.Search3
import Derived.Shelf.LaysM
import Derived.Shelf.Strings.Shaped
import Derived.Shelf.Strings.Prefix
import Derived.Shelf.Unicode.Decode
import Derived.Shelf.Bits.Mul64
import Derived.Shelf.Unicode.DecodeAny
import Derived.Shelf.Strings.BuilderCap
import Derived.Test.YtgippllfnmdnpaaGreatDoorTAM
import Derived.Test.YtgippllfnmdnpaaGreatDoorTBE
section
set_option linter.unusedVariables false
set_option linter.unusedSimpArgs false
set_option linter.unusedSectionVars false
set_option linter.unnecessarySimpa false
namespace Go.Proofs
open Go.Shelf
def Tryz.lays156_ren:Go.Shelf.Ren:=⟨fun | 156=>353 | 165=>233 | 166=>234 | 169=>236 | 240=>268 | 241=>269 | 276=>306 | 277=>307 | n=>n,fun | 31=>150 | 9=>9 | 3=>3 | 4=>4 | 0=>0 | 20=>20 | 72=>202 | 76=>205 | 70=>200 | 37=>22 | 75=>204 | 127=>234 | 164=>258 | 5=>5 | 80=>208 | n=>n,fun | n=>n⟩
theorem Tryz.lays156:Go.Proofs.Lays.n156 Tryz.prog Tryz.lays156_ren:={
 mixed:=by kernel_rfl
 f156:=Tryz.func353.trans (congrArg some (by kernel_rfl))
 f165:=Tryz.func233.trans (congrArg some (by kernel_rfl))
 f166:=Tryz.func234.trans (congrArg some (by kernel_rfl))
 f169:=Tryz.func236.trans (congrArg some (by kernel_rfl))
 f240:=Tryz.func268.trans (congrArg some (by kernel_rfl))
 f241:=Tryz.func269.trans (congrArg some (by kernel_rfl))
 f276:=Tryz.func306.trans (congrArg some (by kernel_rfl))
 f277:=Tryz.func307.trans (congrArg some (by kernel_rfl))
 t0:=Tryz.underlying0
 a0:=Tryz.isAgg0
 z0:=Tryz.sizeOf0
 v0:=Tryz.zeroValue0
 t3:=Tryz.underlying3
 a3:=Tryz.isAgg3
 z3:=Tryz.sizeOf3
 v3:=Tryz.zeroValue3
 t4:=Tryz.underlying4
 a4:=Tryz.isAgg4
 z4:=Tryz.sizeOf4
 v4:=Tryz.zeroValue4
 t9:=Tryz.underlying9
 a9:=Tryz.isAgg9
 z9:=Tryz.sizeOf9
 v9:=Tryz.zeroValue9
 t20:=Tryz.underlying20
 a20:=Tryz.isAgg20
 z20:=Tryz.sizeOf20
 v20:=Tryz.zeroValue20
 t31:=Tryz.underlying150
 a31:=Tryz.isAgg150
 z31:=Tryz.sizeOf150
 v31:=Tryz.zeroValue150
 t37:=Tryz.underlying22
 a37:=Tryz.isAgg22
 z37:=Tryz.sizeOf22
 v37:=Tryz.zeroValue22
 t70:=Tryz.underlying200
 a70:=Tryz.isAgg200
 z70:=Tryz.sizeOf200
 v70:=Tryz.zeroValue200
 t72:=Tryz.underlying202
 a72:=Tryz.isAgg202
 z72:=Tryz.sizeOf202
 v72:=Tryz.zeroValue202
 t75:=Tryz.underlying204
 a75:=Tryz.isAgg204
 z75:=Tryz.sizeOf204
 v75:=Tryz.zeroValue204
 t76:=Tryz.underlying205
 a76:=Tryz.isAgg205
 z76:=Tryz.sizeOf205
 v76:=Tryz.zeroValue205
 t127:=Tryz.underlying234
 a127:=Tryz.isAgg234
 z127:=Tryz.sizeOf234
 v127:=Tryz.zeroValue234
 t164:=Tryz.underlying258
 a164:=Tryz.isAgg258
 z164:=Tryz.sizeOf258
 v164:=Tryz.zeroValue258 }
theorem Tryz.Builder_Extra_156:Builder.Extra Tryz.prog Tryz.lays156_ren:={
 sizeBuilder:=by kernel_rfl
 liesBuilder:=by kernel_rfl
 t5:=Tryz.underlying5
 a5:=Tryz.isAgg5
 z5:=Tryz.sizeOf5
 v5:=Tryz.zeroValue5
 infoByte:=by kernel_rfl
 cellsByte:=by kernel_rfl
 sizeByte:=by kernel_rfl
 neB5:=by decide }
open Go.RowKit in
theorem Tryz.strings_Join (bk o c:Nat) (xs:List ByteArray) (sep:ByteArray) (w:World) (hcells:∀ (j:Nat) x,xs[j]?=some x→w.cell? ⟨bk,o+j,none⟩=some (.string x)) (hbk:bk<w.heap.size) (hN:xs.length≤140737488355328) (hcap:xs.length≤c) (hlen:(Lib.join (xs.map (·.data.toList)) sep.data.toList).length≤140737488355328) :
  Calls Tryz.prog 353 #[.slice (some ⟨bk,o,none⟩) xs.length c,.string sep] w fun e w'=>e=.returned (.string ⟨(Lib.join (xs.map (·.data.toList)) sep.data.toList).toArray⟩)∧Below w.heap.size w w':=Any.strings_Join Tryz.lays156 Tryz.Builder_Extra_156 bk o c xs sep w hcells hbk hN hcap hlen
open Go.RowKit in
theorem Tryz.strings_Join_none (a:Option Addr) (c:Nat) (sep:ByteArray) (w:World) :
  Calls Tryz.prog 353 #[.slice a 0 c,.string sep] w fun e w'=>e=.returned (.string ⟨#[]⟩)∧w'=w:=Any.strings_Join_none Tryz.lays156 Tryz.Builder_Extra_156 a c sep w
def Tryz.lays105_ren:Go.Shelf.Ren:=⟨fun | 105=>189 | 212=>231 | 99=>232 | 165=>233 | 166=>234 | 170=>235 | 169=>236 | 263=>265 | 264=>266 | 206=>267 | 240=>268 | 241=>269 | 276=>306 | 277=>307 | n=>n,fun | 9=>9 | 3=>3 | 4=>4 | 20=>20 | 0=>0 | 46=>183 | 109=>198 | 5=>5 | 72=>202 | 76=>205 | 51=>228 | 146=>229 | 53=>231 | 148=>232 | 70=>200 | 37=>22 | 75=>204 | 127=>234 | 164=>258 | 80=>208 | n=>n,fun | n=>n⟩
theorem Tryz.lays105:Go.Proofs.Lays.n105 Tryz.prog Tryz.lays105_ren:={
 mixed:=by kernel_rfl
 f99:=Tryz.func232.trans (congrArg some (by kernel_rfl))
 f105:=Tryz.func189.trans (congrArg some (by kernel_rfl))
 f165:=Tryz.func233.trans (congrArg some (by kernel_rfl))
 f166:=Tryz.func234.trans (congrArg some (by kernel_rfl))
 f169:=Tryz.func236.trans (congrArg some (by kernel_rfl))
 f170:=Tryz.func235.trans (congrArg some (by kernel_rfl))
 f206:=Tryz.func267.trans (congrArg some (by kernel_rfl))
 f212:=Tryz.func231.trans (congrArg some (by kernel_rfl))
 f240:=Tryz.func268.trans (congrArg some (by kernel_rfl))
 f241:=Tryz.func269.trans (congrArg some (by kernel_rfl))
 f263:=Tryz.func265.trans (congrArg some (by kernel_rfl))
 f264:=Tryz.func266.trans (congrArg some (by kernel_rfl))
 f276:=Tryz.func306.trans (congrArg some (by kernel_rfl))
 f277:=Tryz.func307.trans (congrArg some (by kernel_rfl))
 t0:=Tryz.underlying0
 a0:=Tryz.isAgg0
 z0:=Tryz.sizeOf0
 v0:=Tryz.zeroValue0
 t3:=Tryz.underlying3
 a3:=Tryz.isAgg3
 z3:=Tryz.sizeOf3
 v3:=Tryz.zeroValue3
 t4:=Tryz.underlying4
 a4:=Tryz.isAgg4
 z4:=Tryz.sizeOf4
 v4:=Tryz.zeroValue4
 t5:=Tryz.underlying5
 a5:=Tryz.isAgg5
 z5:=Tryz.sizeOf5
 v5:=Tryz.zeroValue5
 t9:=Tryz.underlying9
 a9:=Tryz.isAgg9
 z9:=Tryz.sizeOf9
 v9:=Tryz.zeroValue9
 t20:=Tryz.underlying20
 a20:=Tryz.isAgg20
 z20:=Tryz.sizeOf20
 v20:=Tryz.zeroValue20
 t37:=Tryz.underlying22
 a37:=Tryz.isAgg22
 z37:=Tryz.sizeOf22
 v37:=Tryz.zeroValue22
 t46:=Tryz.underlying183
 a46:=Tryz.isAgg183
 z46:=Tryz.sizeOf183
 v46:=Tryz.zeroValue183
 t51:=Tryz.underlying228
 a51:=Tryz.isAgg228
 z51:=Tryz.sizeOf228
 v51:=Tryz.zeroValue228
 t53:=Tryz.underlying231
 a53:=Tryz.isAgg231
 z53:=Tryz.sizeOf231
 v53:=Tryz.zeroValue231
 t70:=Tryz.underlying200
 a70:=Tryz.isAgg200
 z70:=Tryz.sizeOf200
 v70:=Tryz.zeroValue200
 t72:=Tryz.underlying202
 a72:=Tryz.isAgg202
 z72:=Tryz.sizeOf202
 v72:=Tryz.zeroValue202
 t75:=Tryz.underlying204
 a75:=Tryz.isAgg204
 z75:=Tryz.sizeOf204
 v75:=Tryz.zeroValue204
 t76:=Tryz.underlying205
 a76:=Tryz.isAgg205
 z76:=Tryz.sizeOf205
 v76:=Tryz.zeroValue205
 t109:=Tryz.underlying198
 a109:=Tryz.isAgg198
 z109:=Tryz.sizeOf198
 v109:=Tryz.zeroValue198
 t127:=Tryz.underlying234
 a127:=Tryz.isAgg234
 z127:=Tryz.sizeOf234
 v127:=Tryz.zeroValue234
 t146:=Tryz.underlying229
 a146:=Tryz.isAgg229
 z146:=Tryz.sizeOf229
 v146:=Tryz.zeroValue229
 t148:=Tryz.underlying232
 a148:=Tryz.isAgg232
 z148:=Tryz.sizeOf232
 v148:=Tryz.zeroValue232
 t164:=Tryz.underlying258
 a164:=Tryz.isAgg258
 z164:=Tryz.sizeOf258
 v164:=Tryz.zeroValue258 }
theorem Tryz.Builder_Extra_105:Builder.Extra Tryz.prog Tryz.lays105_ren:={
 sizeBuilder:=by kernel_rfl
 liesBuilder:=by kernel_rfl
 t5:=Tryz.underlying5
 a5:=Tryz.isAgg5
 z5:=Tryz.sizeOf5
 v5:=Tryz.zeroValue5
 infoByte:=by kernel_rfl
 cellsByte:=by kernel_rfl
 sizeByte:=by kernel_rfl
 neB5:=by decide }
open Go.RowKit Go.Lib in
theorem Tryz.strings_Repeat (s:ByteArray) (c:Nat) (w:World) (hc:c≤9223372036854775807) (hlen:s.size * c≤140737488355328) :
  Calls Tryz.prog 189 #[.string s,.int .i64 c] w fun e w'=>e=.returned (.string ⟨(Lib.repeatL s.data.toList c).toArray⟩)∧Below w.heap.size w w':=Any.strings_Repeat Tryz.lays105 Tryz.Builder_Extra_105 s c w hc hlen
def Tryz.lays144_ren:Go.Shelf.Ren:=⟨fun | 144=>194 | 143=>242 | 219=>273 | 217=>230 | 225=>308 | 224=>309 | 267=>310 | 266=>264 | 314=>340 | n=>n,fun | 9=>9 | 4=>4 | 3=>3 | 5=>5 | 46=>183 | 146=>229 | 51=>228 | n=>n,fun | 1=>2 | n=>n⟩
theorem Tryz.lays144:Go.Proofs.Lays.n144 Tryz.prog Tryz.lays144_ren:={
 mixed:=by kernel_rfl
 f143:=Tryz.func242.trans (congrArg some (by kernel_rfl))
 f144:=Tryz.func194.trans (congrArg some (by kernel_rfl))
 f217:=Tryz.func230.trans (congrArg some (by kernel_rfl))
 f219:=Tryz.func273.trans (congrArg some (by kernel_rfl))
 f224:=Tryz.func309.trans (congrArg some (by kernel_rfl))
 f225:=Tryz.func308.trans (congrArg some (by kernel_rfl))
 f266:=Tryz.func264.trans (congrArg some (by kernel_rfl))
 f267:=Tryz.func310.trans (congrArg some (by kernel_rfl))
 f314:=Tryz.func340.trans (congrArg some (by kernel_rfl))
 t3:=Tryz.underlying3
 a3:=Tryz.isAgg3
 z3:=Tryz.sizeOf3
 v3:=Tryz.zeroValue3
 t4:=Tryz.underlying4
 a4:=Tryz.isAgg4
 z4:=Tryz.sizeOf4
 v4:=Tryz.zeroValue4
 t5:=Tryz.underlying5
 a5:=Tryz.isAgg5
 z5:=Tryz.sizeOf5
 v5:=Tryz.zeroValue5
 t9:=Tryz.underlying9
 a9:=Tryz.isAgg9
 z9:=Tryz.sizeOf9
 v9:=Tryz.zeroValue9
 t46:=Tryz.underlying183
 a46:=Tryz.isAgg183
 z46:=Tryz.sizeOf183
 v46:=Tryz.zeroValue183
 t51:=Tryz.underlying228
 a51:=Tryz.isAgg228
 z51:=Tryz.sizeOf228
 v51:=Tryz.zeroValue228
 t146:=Tryz.underlying229
 a146:=Tryz.isAgg229
 z146:=Tryz.sizeOf229
 v146:=Tryz.zeroValue229
 g1:=by kernel_rfl }
open Go.RowKit Go.Lib in
theorem Tryz.strings_Contains_one (s:ByteArray) (c:UInt8) (w:World) :
  Calls Tryz.prog 194 #[.string s,.string ⟨#[c]⟩] w fun e w'=>e=.returned (.bool (decide (0≤Lib.indexByte s.data.toList c)))∧w'=w:=Any.strings_Contains_one Tryz.lays144 s c w
def Tryz.lays197_ren:Go.Shelf.Ren:=⟨fun | 197=>208 | 260=>246 | n=>n,fun | 9=>9 | 21=>21 | 3=>3 | 4=>4 | 5=>5 | 105=>184 | 119=>237 | 0=>0 | 46=>183 | 139=>240 | 138=>239 | n=>n,fun | 3=>0 | 4=>1 | n=>n⟩
theorem Tryz.lays197:Go.Proofs.Lays.n197 Tryz.prog Tryz.lays197_ren:={
 mixed:=by kernel_rfl
 f197:=Tryz.func208.trans (congrArg some (by kernel_rfl))
 f260:=Tryz.func246.trans (congrArg some (by kernel_rfl))
 t0:=Tryz.underlying0
 a0:=Tryz.isAgg0
 z0:=Tryz.sizeOf0
 v0:=Tryz.zeroValue0
 t3:=Tryz.underlying3
 a3:=Tryz.isAgg3
 z3:=Tryz.sizeOf3
 v3:=Tryz.zeroValue3
 t4:=Tryz.underlying4
 a4:=Tryz.isAgg4
 z4:=Tryz.sizeOf4
 v4:=Tryz.zeroValue4
 t5:=Tryz.underlying5
 a5:=Tryz.isAgg5
 z5:=Tryz.sizeOf5
 v5:=Tryz.zeroValue5
 t9:=Tryz.underlying9
 a9:=Tryz.isAgg9
 z9:=Tryz.sizeOf9
 v9:=Tryz.zeroValue9
 t21:=Tryz.underlying21
 a21:=Tryz.isAgg21
 z21:=Tryz.sizeOf21
 v21:=Tryz.zeroValue21
 t46:=Tryz.underlying183
 a46:=Tryz.isAgg183
 z46:=Tryz.sizeOf183
 v46:=Tryz.zeroValue183
 t105:=Tryz.underlying184
 a105:=Tryz.isAgg184
 z105:=Tryz.sizeOf184
 v105:=Tryz.zeroValue184
 t119:=Tryz.underlying237
 a119:=Tryz.isAgg237
 z119:=Tryz.sizeOf237
 t138:=Tryz.underlying239
 a138:=Tryz.isAgg239
 z138:=Tryz.sizeOf239
 v138:=Tryz.zeroValue239
 t139:=Tryz.underlying240
 a139:=Tryz.isAgg240
 z139:=Tryz.sizeOf240
 v139:=Tryz.zeroValue240
 g3:=by kernel_rfl
 g4:=by kernel_rfl }
open Go.RowKit Go.Lib in
theorem Tryz.utf8_DecodeRuneInString (s:ByteArray) (w:World) (hT:Lib.Utf8Tabs 0 1 w) :
  Calls Tryz.prog 208 #[.string s] w fun e w'=>e=.returned (.tuple #[.int .i32 (Lib.decodeGo s).1,.int .i64 (Lib.decodeGo s).2])∧Below w.heap.size w w':=Any.utf8_DecodeRuneInString Tryz.lays197 s w hT
end Go.Proofs
namespace Go.TSh
variable [Go.Vg.Glob] [Go.Vg.GlobTabs 0 1]
open Go.Proofs Go.Vg Go.RowKit
noncomputable def zgp:=zqq
theorem um {xs:List (List UInt8)} {t:List UInt8}:zgp [.fs 1 (xs.map zbi),.s t]=some (xs.length≤140737488355328∧(Lib.join xs t).length≤140737488355328,.s (Lib.join xs t)):=zuz
theorem zqp:PE1 Tryz.prog 353 zgp:=zuy (zeh Tryz.func353 rfl rfl) Tryz.strings_Join_none Tryz.strings_Join
noncomputable def zb1:=zxj
theorem j4 {s:List UInt8} {c:Int}:zb1 [.s s,.i .i64 c]=some (0≤c∧c≤9223372036854775807∧(s.length:Int) * c≤140737488355328,.s (Lib.repeatL s c.toNat)):=zxi
theorem ze1:PE1 Tryz.prog 189 zb1:=zxh (zeh Tryz.func189 rfl rfl) fun s c w h1 h2=>Tryz.strings_Repeat s c w h1 h2
noncomputable def zl1:=zxv
theorem zu3 {s:List UInt8} {c:UInt8}:zl1 [.s s,.s [c]]=some (True,.b (decide (c∈s))):=zxu
theorem zu2:PE1 Tryz.prog 194 zl1:=zxt (zeh Tryz.func194 rfl rfl) fun s c w=>Tryz.strings_Contains_one s c w
noncomputable def zl0:=zxs
theorem zu1 {s:List UInt8}:zl0 [.s s]=some (True,.tup [.i .i32 (Lib.decodeGo ⟨s.toArray⟩).1,.i .i64 (Lib.decodeGo ⟨s.toArray⟩).2]):=zxr
theorem zu0:PE1 Tryz.prog 208 zl0:=zxq (a:=0) (b:=1) (zeh Tryz.func208 rfl rfl) fun s w h=>Tryz.utf8_DecodeRuneInString s w h
end Go.TSh
end
section
set_option linter.unusedVariables false
set_option linter.unusedSimpArgs false
set_option linter.unusedSectionVars false
set_option linter.unnecessarySimpa false
namespace Go.T
variable [Go.Vg.Glob] [Go.Vg.GlobTabs 0 1]
open Go.Proofs Go.Vg Go.RowKit Go.TT Go.Pl Go.TSh
set_option maxRecDepth 10000
set_option maxHeartbeats 4000000
theorem zvw (l:List Pc) (hp:pcW l≤16777216):PF Tryz.prog 104 [.fs 2 (l.map pcc)] (.s (zdj l)):=by
 refine ⟨rfl,rfl,FnK.of (cf:=zk Tryz.prog te [(189,zb1)] 65 0 false (fun _=>false) (kp [(0,[0]),(1,[0,10]),(2,[2]),(3,[0,3]),(4,[0,3,4]),(5,[0,3,4,5]),(6,[0,3,4,5,6]),(7,[0,3,4,5,6,22]),(8,[0,3,4,5,6]),(9,[0,3,4,5,6,7]),(10,[0,3,4,5,6,7,43]),(11,[0,3,4,5,6]),(12,[0,3,4,5,6,7,46]),(13,[0,3,6,7]),(14,[0,3,6,7,53]),(15,[0,3,6,7]),(16,[0,3,6,7]),(17,[0,3,4,6]),(18,[0,3,4,5,6]),(19,[2])]) [] []) (zf te_ok (l:=[(189,zb1)]) (⟨ze1,trivial⟩) zc) Tryz.func104 rfl rfl rfl (by simp [zk]) (by simp [zk]) (rs:=[.tmp 2]) rfl 100000 ?_⟩
 simp only [↓XC,XV,XT,Yg,seval,TES,j4,XRP]
 have hW:=zn8 l
 refine ⟨fun h=>?_,fun h=>Chk.mk (by omega) fun _=>Chk.mk (by omega) fun _=>?_⟩
 ·obtain rfl:l=[]:=List.length_eq_zero_iff.1 (by omega)
  rfl
 refine yv.of (ι:={x:Nat×Bs×Bool×Nat // 1≤x.1∧x.1≤l.length∧x.2.1.length+x.2.2.2+pcW (l.drop x.1)≤pcW l∧x.2.1++zcb x.2.2.1 x.2.2.2 (l.drop x.1)=zdj l}) (fun x=>⟨[(0,.fs 2 (l.map pcc)),(3,.s x.1.2.1),(4,.b x.1.2.2.1),(5,.i .i64 (x.1.2.2.2:Nat)),(6,.i .i64 (x.1.1:Nat))],[]⟩) (fun x=>l.length-x.1.1) ⟨(1,(l.getD 0 pcz).text,(l.getD 0 pcz).glue,0),by simp only;omega,by simp only;omega,by have:=zsw (l:=l) (i:=0) (by omega);simp only [List.drop_zero,Nat.zero_add] at this;simp only;omega,(zve (by omega)).symm⟩ (Ent.refl _ _) ?_
 rintro ⟨⟨i,out,glue,many⟩,h1,h2,h3,h4⟩
 simp only [↓XC,XV,XT,Yg,seval,TES,j4,XRP]
 simp only at h1 h2 h3 h4
 refine ⟨fun hl=>Chk.mk (by omega) fun _=>Chk.mk (fun _=>by simp only [inR];omega) fun _=>?_,fun hl=>?_⟩
 ·have hi:i<l.length:=by omega
  have hw:=zsw (l:=l) hi
  have hrl:Lib.repeatL [10] many=List.replicate many 10:=by have:=Lib.repeatL_replicate 10 1 many;simpa using this
  have hX:(decide ((l.getD i pcz).text=[])&&!(l.getD i pcz).glue&&decide ((i:Int)<(l.length:Int)-1))=decide ((l.getD i pcz).text=[]∧(l.getD i pcz).glue=false∧i+1<l.length):=by
   rw [Bool.eq_iff_iff]
   simp only [Bool.and_eq_true,decide_eq_true_eq,Bool.not_eq_true']
   constructor
   ·rintro ⟨⟨a,b⟩,c⟩;exact ⟨a,b,by omega⟩
   ·rintro ⟨a,b,c⟩;exact ⟨⟨a,b⟩,by omega⟩
  rw [hX,hrl]
  refine ⟨fun hx=>?_,fun hx=>?_⟩
  ·have hx:=of_decide_eq_true hx
   rw [hx.1] at hw
   simp only [List.length_nil] at hw
   exact Chk.mk (by simp only [inR];omega) fun _=>Chk.mk (by simp only [inR];omega) fun _=>⟨⟨(i+1,out,glue,many+1),by simp only;omega,by simp only;omega,by simp only;omega,by simp only;rw [←zvf hx.2.2 hx.1 hx.2.1];exact h4⟩,by simp only;omega,(by (try simp only [Int.natCast_add,Int.natCast_one]);exact Ent.nil (by simp [zi,Vg.look,SV.mapH]))⟩
  ·have hx:=of_decide_eq_false hx
   rw [zzb hi hx] at h4
   refine ⟨fun hm=>?_,fun hm=>⟨fun hg=>?_,fun hg=>?_⟩⟩
   ·rw [if_pos (by omega)] at h4
    refine Chk.mk (by omega) fun _=>Chk.mk (by simp only [List.length_replicate];omega) fun _=>Chk.mk (by simp only [List.length_replicate];omega) fun _=>Chk.mk (by simp only [inR];omega) fun _=>⟨⟨(i+1,out++List.replicate many 10++(l.getD i pcz).text,(l.getD i pcz).glue,0),by simp only;omega,by simp only;omega,by simp only [List.length_append,List.length_replicate];omega,by simp only;rw [←h4];simp only [List.append_assoc]⟩,by simp only;omega,(by (try simp only [Int.natCast_add,Int.natCast_one]);exact Ent.nil (by simp [zi,Vg.look,SV.mapH]))⟩
   ·obtain rfl:many=0:=by omega
    have hg:glue=false:=by simpa using hg
    rw [hg] at h4
    simp only [Nat.lt_irrefl,if_false,Bool.false_eq_true] at h4
    refine Chk.mk (by omega) fun _=>Chk.mk (by omega) fun _=>Chk.mk (by simp only [inR];omega) fun _=>⟨⟨(i+1,out++[32]++(l.getD i pcz).text,(l.getD i pcz).glue,0),by simp only;omega,by simp only;omega,by simp only [List.length_append,List.length_singleton];omega,by simp only;rw [←h4];simp only [List.append_assoc]⟩,by simp only;omega,(by (try simp only [Int.natCast_add,Int.natCast_one]);exact Ent.nil (by simp [zi,Vg.look,SV.mapH]))⟩
   ·obtain rfl:many=0:=by omega
    have hg:glue=true:=by simpa using hg
    rw [hg] at h4
    simp only [Nat.lt_irrefl,if_false,if_true,List.nil_append] at h4
    refine Chk.mk (by omega) fun _=>Chk.mk (by simp only [inR];omega) fun _=>⟨⟨(i+1,out++(l.getD i pcz).text,(l.getD i pcz).glue,0),by simp only;omega,by simp only;omega,by simp only [List.length_append];omega,by simp only;rw [←h4];simp only [List.append_assoc]⟩,by simp only;omega,(by (try simp only [Int.natCast_add,Int.natCast_one]);exact Ent.nil (by simp [zi,Vg.look,SV.mapH]))⟩
 ·obtain rfl:i=l.length:=by omega
  rw [List.drop_length] at h4
  rw [←h4];simp [zcb]
noncomputable def jg:PE:=peR (fun (l:List Pc)=>[.fs 2 (l.map pcc)]) (fun (l:List Pc)=>pcW l≤16777216) (fun (l:List Pc)=>.s (zdj l))
theorem ko {l:List Pc}:jg [.fs 2 (l.map pcc)]=some (pcW l≤16777216,.s (zdj l)):=yh (by rintro a b h;simp_all [pcc_inj]) l
theorem zbo:PE1 Tryz.prog 104 jg:=yl (by rintro l hp;exact zvw l hp)
end Go.T
end
section
set_option linter.unusedVariables false
set_option linter.unusedSimpArgs false
set_option linter.unusedSectionVars false
set_option linter.unnecessarySimpa false
namespace Go.T
variable [Go.Vg.Glob] [Go.Vg.GlobTabs 0 1]
open Go.Proofs Go.Vg Go.RowKit Go.TT Go.Pl
set_option maxRecDepth 10000
set_option maxHeartbeats 4000000
theorem qput (s:Bs) (n:Nat) (L:List Pc) (cur:Bs) (k:Nat) (t:Bs) (m:Int) (b:Bool) (hp:cur.length≤16777216∧t.length≤16∧n≤16777216∧0≤m∧m≤16777216):FnK Tryz.prog 239 1 [.ptr 0 0 0,.s t,.i .i64 m,.b b] [some (.blk false [.s s,.i .i64 ((n:Int)),.slc 1 0 (L).length,.s (cur),.i .i64 ((k:Int))]),some (.row false 2 (L).length (zg pcc pcz (L)))] (fun z c=>z=.tup []∧c=[some (.blk false [.s s,.i .i64 ((n:Int)+m),.slc 1 0 (L).length,.s (cur++t),.i .i64 ((if b then ((cur++t).length:Nat) else k:Nat))]),some (.row false 2 (L).length (zg pcc pcz (L)))]):=by
 refine FnK.ofE (cf:=zk Tryz.prog te [] 35 1 false (fun _=>false) (kp [(0,[0,2,3]),(1,[0,3]),(2,[0,26]),(3,[])]) [] []) (zf te_ok (l:=[]) (trivial) zc) Tryz.func239 rfl rfl rfl (by simp [zk]) (by simp [zk]) (rs:=[]) rfl 100000 ?_
 simp only [↓XC,XV,XT,Yg,seval,TES,XRP]
 refine Chk.mk (by omega) fun _=>Chk.mk (by simp only [inR];omega) fun _=>⟨fun hb=>?_,fun hb=>?_⟩
 ·subst hb
  exact ⟨[0,1],by decide,by simp only [Yd];refine ⟨za (by simp [Yf]), ?_⟩;exact zb fun _=>rfl,by simp only [↓XC,XV,XT,Yg,seval];try first | rfl | simp [Yf],by simp [zw,SO.ro],by simp⟩
 ·subst hb
  exact ⟨[0,1],by decide,by simp only [Yd];refine ⟨za (by simp [Yf]), ?_⟩;exact zb fun _=>rfl,by simp only [↓XC,XV,XT,Yg,seval];try first | rfl | simp [Yf],by simp [zw,SO.ro],by simp⟩
theorem qends (s:Bs) (n:Nat) (L:List Pc) (cur:Bs) (k:Nat) (b:Bool) (hp:s.length≤1048576∧n<s.length∧k≤cur.length∧L.length≤16777216∧cur.length≤16777216):FnK Tryz.prog 238 1 [.ptr 0 0 0,.b b] [some (.blk false [.s s,.i .i64 ((n:Int)),.slc 1 0 (L).length,.s (cur),.i .i64 ((k:Int))]),some (.row false 2 (L).length (zg pcc pcz (L)))] (fun z c=>z=.b (decide (mkA s (n+1)=0))∧c=[some (.blk false [.s s,.i .i64 (((if mkA s (n+1)=0 then wh s (n+1) else n+1:Nat):Int)),.slc 1 0 (L++[(⟨if b then cur else cur.take k,b⟩:Pc)]).length,.s (([]:Bs)),.i .i64 (0)]),some (.row false 2 (L++[(⟨if b then cur else cur.take k,b⟩:Pc)]).length (zg pcc pcz (L++[(⟨if b then cur else cur.take k,b⟩:Pc)])))]):=by
 refine FnK.ofE (cf:=zk Tryz.prog te [(144,yu),(106,yp)] 69 1 false (fun _=>false) (kp [(0,[0,1]),(1,[0,1,6]),(2,[0,1]),(3,[0]),(4,[0]),(5,[0]),(6,[0]),(7,[0,56]),(8,[4]),(9,[]),(10,[4])]) [] [(2,[12],[0],.q1 0 (.q1 1 (.q1 2 (.q1 3 (.q1 5 (.q1 6 (.q1 7 (.q0 4 [4,9,10,11,12] (.q0 8 [8,9,10,11,12] (.q0 9 [9,10,11,12] (.q1 10 (.q1 11 (.sw (.alt 12 (.fin) (.fin))))))))))))))),(3,[12,15],[0,1],.q1 0 (.q1 1 (.q1 2 (.q1 3 (.q1 5 (.q1 6 (.q1 7 (.q1 9 (.q0 4 [4,12,13,14,15] (.q0 8 [8,10,11,12,13,14,15] (.q1 10 (.alt 11 (.sw (.alt 12 (.q1 13 (.q1 14 (.alt 15 (.fin) (.fin)))) (.fin))) (.fin))))))))))))),(7,[],[],.q1 0 (.q1 1 (.q1 2 (.q1 4 (.q1 5 (.q1 6 (.q0 3 [3] (.q0 7 [7] (.alt 8 (.q1 9 (.fin)) (.fin)))))))))),(9,[12],[0],.q1 0 (.q1 1 (.q1 2 (.q1 3 (.q1 5 (.q1 6 (.q1 7 (.q0 4 [4,9,10,11,12] (.q0 8 [8,9,10,11,12] (.alt 9 (.q1 10 (.q1 11 (.sw (.alt 12 (.fin) (.fin))))) (.fin)))))))))))]) (zf te_ok (l:=[(144,yu),(106,yp)]) (⟨qw,qi,trivial⟩) zc) Tryz.func238 rfl rfl rfl (by simp [zk]) (by simp [zk]) (rs:=[.tmp 4]) rfl 100000 ?_
 simp only [↓XC,XV,XT,Yg,seval,TES,ze,yc,XRP]
 have hs:spot s ((n:Int)+1)=n+1:=by unfold spot;omega
 rw [hs]
 have hm:mkA s (n+1)=0∨¬mkA s (n+1)=0:=Classical.em _
 refine ⟨fun hb=>⟨by decide +kernel,Chk.mk (by omega) fun _=>⟨by decide +kernel,qo rfl rfl,Chk.mk (by omega) fun _=>Chk.mk (by simp only [inR];omega) fun _=>⟨by decide +kernel,Chk.mk hp.1 fun _=>?_⟩⟩⟩,fun hb=>⟨by decide +kernel,qo rfl rfl,Chk.mk (by omega) fun _=>Chk.mk (by simp only [inR];omega) fun _=>⟨by decide +kernel,Chk.mk hp.1 fun _=>?_⟩⟩⟩
 ·obtain rfl:b=false:=by simpa using hb
  rcases hm with hm | hm
  ·simp only [hm,if_true,decide_true,Bool.not_true,Bool.false_eq_true,false_implies,true_and,true_implies,if_false,forall_const]
   exact ⟨by decide +kernel,Chk.mk hp.1 fun _=>⟨[0,3],by decide,by simp only [Yd];refine ⟨za (by simp [Yf]), ?_⟩;exact zag (enc:=pcc) (z:=pcz) L (⟨cur.take k,false⟩:Pc) 2 (fun _=>rfl) (fun _ _=>rfl) rfl rfl,by simp only [↓XC,XV,XT,Yg,seval];try first | rfl | simp [Yf],by simp [zw,SO.ro],by simp⟩⟩
  ·simp only [hm,if_false,decide_false,Bool.not_false,true_implies,Bool.true_eq_false,false_implies,and_true,Bool.false_eq_true,forall_const]
   exact ⟨[0,3],by decide,by simp only [Yd];refine ⟨za (by simp [Yf]), ?_⟩;exact zag (enc:=pcc) (z:=pcz) L (⟨cur.take k,false⟩:Pc) 2 (fun _=>rfl) (fun _ _=>rfl) rfl rfl,by simp only [↓XC,XV,XT,Yg,seval];try first | rfl | simp [Yf],by simp [zw,SO.ro],by simp⟩
 ·obtain rfl:b=true:=by simpa using hb
  rcases hm with hm | hm
  ·simp only [hm,if_true,decide_true,Bool.not_true,Bool.false_eq_true,false_implies,true_and,true_implies,forall_const]
   exact ⟨by decide +kernel,Chk.mk hp.1 fun _=>⟨[0,3],by decide,by simp only [Yd];refine ⟨za (by simp [Yf]), ?_⟩;exact zag (enc:=pcc) (z:=pcz) L (⟨cur,true⟩:Pc) 2 (fun _=>rfl) (fun _ _=>rfl) rfl rfl,by simp only [↓XC,XV,XT,Yg,seval];try first | rfl | simp [Yf],by simp [zw,SO.ro],by simp⟩⟩
  ·simp only [hm,if_false,if_true,decide_false,Bool.not_false,true_implies,Bool.true_eq_false,false_implies,and_true,forall_const]
   exact ⟨[0,3],by decide,by simp only [Yd];refine ⟨za (by simp [Yf]), ?_⟩;exact zag (enc:=pcc) (z:=pcz) L (⟨cur,true⟩:Pc) 2 (fun _=>rfl) (fun _ _=>rfl) rfl rfl,by simp only [↓XC,XV,XT,Yg,seval];try first | rfl | simp [Yf],by simp [zw,SO.ro],by simp⟩
theorem qdone (s:Bs) (n:Nat) (L:List Pc) (cur:Bs) (k:Nat) (hp:pcW L+cur.length≤16777214∧n≤16777216):FnK Tryz.prog 240 1 [.ptr 0 0 0] [some (.blk false [.s s,.i .i64 ((n:Int)),.slc 1 0 (L).length,.s (cur),.i .i64 ((k:Int))]),some (.row false 2 (L).length (zg pcc pcz (L)))] (fun z c=>z=.tup [.s (zdj (L++[(⟨cur,false⟩:Pc)])),.i .i64 ((n:Int)+1),.i .i64 0]∧c=[some (.blk false [.s s,.i .i64 ((n:Int)),.slc 1 0 (L++[(⟨cur,false⟩:Pc)]).length,.s (cur),.i .i64 ((k:Int))]),some (.row false 2 (L++[(⟨cur,false⟩:Pc)]).length (zg pcc pcz (L++[(⟨cur,false⟩:Pc)])))]):=by
 refine FnK.ofE (cf:=zk Tryz.prog te [(104,jg)] 29 1 false (fun _=>false) (kp [(0,[0]),(1,[0]),(2,[2,3,4])]) [] [(1,[11,14],[0,1],.q1 0 (.q1 1 (.q1 2 (.q1 3 (.q1 5 (.q1 6 (.q1 7 (.q0 4 [4,11,12,13,14] (.q0 8 [8,9,10,11,12,13,14] (.q1 9 (.alt 10 (.sw (.alt 11 (.q1 12 (.q1 13 (.alt 14 (.fin) (.fin)))) (.fin))) (.fin)))))))))))),(2,[],[],.q1 0 (.q1 1 (.q1 2 (.q1 5 (.q1 6 (.q1 7 (.q0 3 [3] (.q0 8 [8] (.q1 9 (.alt 4 (.q1 10 (.q1 11 (.q1 12 (.fin)))) (.fin)))))))))))]) (zf te_ok (l:=[(104,jg)]) (⟨zbo,trivial⟩) zc) Tryz.func240 rfl rfl rfl (by simp [zk]) (by simp [zk]) (rs:=[.tmp 2,.tmp 3,.tmp 4]) rfl 100000 ?_
 simp only [↓XC,XV,XT,Yg,seval,TES,ko,XRP]
 have hW:=zn8 L
 refine ⟨by decide +kernel,qo rfl rfl,Chk.mk (by omega) fun _=>⟨by decide +kernel,Chk.mk (by simp only [inR];omega) fun _=>?_⟩⟩
 have e:jy (zgi L.length (fun j=>[SV.s (L.getD j pcz).text,SV.b (L.getD j pcz).glue]) fun j=>wl [SV.s cur,SV.b false] 2 j) 0 (L.length+1)=(L++[(⟨cur,false⟩:Pc)]).map pcc:=zlm pcz L ⟨cur,false⟩ 2 (fun _ _=>rfl) rfl rfl
 rw [e]
 simp only [↓XC,XV,XT,Yg,seval,TES,ko,XRP]
 refine Chk.mk ⟨⟨Nat.le_refl _,zvl (enc:=pcc) pcz L ⟨cur,false⟩ 2 (fun _=>rfl) (fun _ _=>rfl) rfl fun _=>rfl⟩,by rw [w9,xq];show pcW L+(cur.length+1)≤16777216;omega⟩ fun _=>?_
 exact ⟨[0,3],by decide,by simp only [Yd];refine ⟨za (by simp [Yf]), ?_⟩;exact zag (enc:=pcc) (z:=pcz) L (⟨cur,false⟩:Pc) 2 (fun _=>rfl) (fun _ _=>rfl) rfl rfl,by simp only [↓XC,XV,XT,Yg,seval];try first | rfl | simp [Yf],by simp [zw,SO.ro],by simp⟩
end Go.T
end
section
set_option linter.unusedVariables false
set_option linter.unusedSimpArgs false
set_option linter.unusedSectionVars false
set_option linter.unnecessarySimpa false
namespace Go.T
variable [Go.Vg.Glob] [Go.Vg.GlobTabs 0 1]
open Go.Proofs Go.Vg Go.RowKit Go.TT Go.Pl
set_option maxRecDepth 10000
set_option maxHeartbeats 4000000
theorem zvq (s:Bs) (p:Int) (hp:s.length≤1048576):PF Tryz.prog 192 [.s s,.i .i64 p] (.tup [.s (sgA s (spot s p)).1,.i .i64 ((sgA s (spot s p)).2.1:Nat),.i .i64 (sgA s (spot s p)).2.2]):=by
 refine ⟨rfl,rfl,FnK.of (cf:=zk Tryz.prog te [(100,zx),(107,zm),(185,qe)] 79 0 false (fun _=>false) (kp [(0,[0,1]),(1,[0,1]),(2,[0,1,15]),(3,[4,5,6]),(4,[0,7]),(5,[0,7,28]),(6,[0,7,8]),(7,[0,7]),(8,[0,7,8,44]),(9,[0,7,49]),(10,[4,5,6]),(11,[0,7,8,54]),(12,[0,7]),(13,[0,7,8,69]),(14,[4,5,6]),(15,[4,5,6])]) [] [(10,[],[],.q1 0 (.q1 1 (.q1 2 (.q1 4 (.q0 3 [3] (.q1 5 (.q1 6 (.fin)))))))),(7,[],[],.q1 0 (.q1 1 (.q1 4 (.q1 5 (.alt 2 (.alt 3 (.seq [6,7,8]) (.alt 6 (.alt 3 (.seq [7,8]) (.alt 7 (.seq [3,8]) (.fin))) (.fin))) (.alt 6 (.alt 2 (.alt 3 (.seq [7,8]) (.alt 7 (.seq [3,8]) (.fin))) (.alt 7 (.seq [2,3,8]) (.fin))) (.fin)))))))]) (zf te_ok (l:=[(100,zx),(107,zm),(185,qe)]) (⟨ym,z6,wt,trivial⟩) zc) Tryz.func192 rfl rfl rfl (by simp [zk]) (by simp [zk]) (rs:=[.tmp 4,.tmp 5,.tmp 6]) rfl 100000 ?_⟩
 simp only [↓XC,XV,XT,Yg,seval,TES,yn,zd,z7,XRP,XR]
 have h0:=q8 s p
 rw [zu s h0]
 refine Chk.mk hp fun _=>⟨fun h=>?_,fun h=>Chk.mk (by simp only [inR];omega) fun _=>?_⟩
 ·rw [show sgA s (spot s p)=([],spot s p,10) by unfold sgA;rw [if_neg (by simp only [Yi] at h;omega)]]
 have hb:byt s (spot s p)=39:=by simp only [Yi] at h;omega
 have hl0:spot s p<s.length:=by
  rcases Nat.lt_or_ge (spot s p) s.length with h3 | h3
  ·exact h3
  ·rw [jt h3] at hb;omega
 refine yv.of (ι:={x:Nat×List Pc×Bs×Nat // x.1≤s.length∧x.2.2.1.length+pcW x.2.1≤1 * x.1∧x.2.2.2≤x.2.2.1.length∧sgl s x.1 x.2.1 x.2.2.1=sgA s (spot s p)∧x.2.2.2=0}) (fun x=>⟨[(0,.s s),(7,.ptr 0 0 0)],[some (.blk false [.s s,.i .i64 ((x.1.1:Nat)),.slc 1 0 (x.1.2.1).length,.s (x.1.2.2.1),.i .i64 (((zbu x.1.2.2.2 x.1.2.2.1).length:Nat))]),some (.row false 2 (x.1.2.1).length (zg pcc pcz (x.1.2.1)))]⟩) (fun x=>s.length-x.1.1) ⟨(spot s p+1,[],[],0),by simp only;omega,by simp [pcW],Nat.zero_le _,by unfold sgA;rw [if_pos hb],rfl⟩ (Ent.nl (d:=[some (.blk false [.s s,.i .i64 ((spot s p:Nat)+1),.slc 1 0 0,.s [],.i .i64 0])]) [(2,zg pcc pcz [])] (by simp [nlE,nlV,Vg.look]) (by simp [nlC,nlO,nlL,nlV,zee])) ?_
 rintro ⟨⟨i,L,cur,k⟩,h1,h2,h3,h4,h5⟩
 simp only [↓XC,XV,XT,Yg,seval,TES,zd,z7,XRP,XR]
 simp only at h1 h2 h3 h4 h5
 have hW:=zn8 L
 have hcw:=zgu k cur
 refine ⟨fun hil=>Chk.mk (by omega) fun _=>?_,fun hil=>?_⟩
 ·have hi:i<s.length:=by omega
  have hbt:=kv hi
  rw [←hbt]
  have e1:byt s (spot s ((i:Int)+1))=byt s (i+1):=by rw [vj (by omega)];rfl
  rw [e1]
  refine ⟨fun h10=>?_,fun h10=>Chk.mk (fun _=>by simp only [inR];omega) fun _=>Chk.mk (fun h=>⟨⟨h,h⟩,hp⟩) fun _=>⟨fun hqq=>?_,fun hqq=>⟨fun hq=>?_,fun hq=>?_⟩⟩⟩
  ·refine zj.reb (qends s i L cur (zbu k cur).length false ⟨hp,hi,hcw,by omega,by omega⟩) [0,1] (by simp [Yf]) (by simp only [Ye];exact ⟨by omega,za (by simp [Yf]),by omega,zb fun _=>rfl⟩) (by decide) (by simp [zw,SO.ro]) (by decide) (by simp [j8,zf9,vi,zd4,noH,SO.ro,wl]) ?_
   simp only [↓XC,XV,XT,Yg,seval,TES,zd,z7,XRP,XR,XM]
   subst h5
   by_cases hm:mkA s (i+1)=0
   ·simp only [hm,decide_true,Bool.not_true,Bool.false_eq_true,false_implies,true_and,forall_const,if_true]
    have hcl:=zpn 0 cur
    have hwl:=vk s (i+1) hi
    have hwg:=vl s (i+1)
    rw [hcl]
    exact ⟨⟨(wh s (i+1),L++[⟨zbu 0 cur,false⟩],[],0),hwl,by simp only [w9,xq,List.length_nil];omega,Nat.le_refl _,by simp only;rw [←sgl_nl hi h10 hm];exact h4,rfl⟩,by simp only;omega,(Ent.ren1 [0,1] (by decide) (by simp only [Yd];exact ⟨za (by simp [Yf,zee]),kn (by simp) fun j hj=>rfl⟩) (by simp [zi,Vg.look,SV.mapH,muL]))⟩
   ·simp only [hm,decide_false,Bool.not_false,Bool.true_eq_false,false_implies,and_true,forall_const,if_false]
    refine ⟨by decide +kernel, ?_⟩
    rw [←h4,sgl_mk hi h10 hm]
  ·refine zj.reb (qput s i L cur (zbu k cur).length [39] 2 true ⟨by omega,by simp,by omega,by omega,by omega⟩) [0,1] (by simp [Yf]) (by simp only [Ye];exact ⟨by omega,za (by simp [Yf]),by omega,zb fun _=>rfl⟩) (by decide) (by simp [zw,SO.ro]) (by decide) (by simp [j8,zf9,vi,zd4,noH,SO.ro,wl]) ?_
   simp only [↓XC,XV,XT,Yg,seval,TES,zd,z7,XRP,XR,XM]
   have h39:byt s i=39∧byt s (i+1)=39:=by simpa using hqq
   have hi1:i+1<s.length:=by
    rcases Nat.lt_or_ge (i+1) s.length with h6 | h6
    ·exact h6
    ·rw [jt h6] at h39;omega
   have hc:zbu k (cur++[39])=cur++[39]:=zms (by decide)
   exact ⟨⟨(i+2,L,cur++[39],k),by simp only;omega,by simp only [List.length_append,List.length_singleton];omega,by simp only [List.length_append,List.length_singleton];omega,by simp only;rw [←sgl_qq hi h39.1 h39.2];exact h4,h5⟩,by simp only;omega,(Ent.ren1 [0,1] (by decide) (by simp only [Yd];exact ⟨za (by simp [Yf,hc]),kn (by simp) fun j hj=>rfl⟩) (by simp [zi,Vg.look,SV.mapH,muL]))⟩
  ·refine zj.reb (qdone s i L cur (zbu k cur).length ⟨by omega,by omega⟩) [0,1] (by simp [Yf]) (by simp only [Ye];exact ⟨by omega,za (by simp [Yf]),by omega,zb fun _=>rfl⟩) (by decide) (by simp [zw,SO.ro]) (by decide) (by simp [j8,zf9,vi,zd4,noH,SO.ro,wl]) ?_
   simp only [↓XC,XV,XT,Yg,seval,TES,zd,z7,XRP,XR,XM]
   have hn:¬byt s (i+1)=39:=by intro hx;simp [hq,hx] at hqq
   rw [←h4,sgl_q hi hq hn];rfl
  ·refine ⟨by decide +kernel,Chk.mk (by have:=zcf s i;simp only [inR];omega) fun _=>?_⟩
   have hks:zp7 ((wl [SV.i .u8 (byt s i)] 1 0).getD 0 .u)=true:=by rfl
   have hU:∀ j,j<1→zp7 ((wl [SV.i .u8 (byt s i)] 1 j).getD 0 .u)=true:=by
    intro j hj
    obtain rfl:j=0:=by omega
    exact hks
   simp only [u8_of]
   have hwk:(!(byt s i==32||byt s i==9))=false→(s.getD i 0=32∨s.getD i 0=9):=fun hw=>by
    have e1:=zbw (c:=s.getD i 0) (n:=32) (by decide)
    have e2:=zbw (c:=s.getD i 0) (n:=9) (by decide)
    simp only [Int.cast_ofNat_Int] at e1 e2
    rw [hbt] at hw
    simp only [Bool.not_eq_false',Bool.or_eq_true,beq_iff_eq,e1,e2] at hw
    exact hw
   have hwn:(!(byt s i==32||byt s i==9))=true→¬(s.getD i 0=32∨s.getD i 0=9):=fun hw=>by
    have e1:=zbw (c:=s.getD i 0) (n:=32) (by decide)
    have e2:=zbw (c:=s.getD i 0) (n:=9) (by decide)
    simp only [Int.cast_ofNat_Int] at e1 e2
    rw [hbt] at hw
    simp only [Bool.not_eq_true',Bool.or_eq_false_iff,beq_eq_false_iff_ne,ne_eq,e1,e2] at hw
    rintro (hx | hx)
    ·exact hw.1 hx
    ·exact hw.2 hx
   have hlen:((if (!(byt s i==32||byt s i==9))=true then cur.length+1 else (zbu k cur).length:Nat):Int)=((zbu k (cur++[s.getD i 0])).length:Nat):=by
    cases hw:(!(byt s i==32||byt s i==9))
    ·rw [zk1 h3 (hwk hw)];rfl
    ·rw [zms (hwn hw)];simp
   have hS:∀ {P:Program} {kk:Nat} {st:St} {K:Sl (SV×St)},True:=fun {_ _ _ _}=>trivial
   repeat' (with_reducible refine And.intro ?_ ?_)
   all_goals first
    | exact hU
    | (
      refine zj.reb (qput s i L cur (zbu k cur).length [s.getD i 0] 1 (!(byt s i==32||byt s i==9)) ⟨by omega,by simp,by omega,by omega,by omega⟩) [0,1] (by simp [Yf]) (by simp only [Ye];exact ⟨by omega,za (by simp [Yf]),by omega,zb fun _=>rfl⟩) (by decide) (by simp [zw,SO.ro]) (by decide) (by simp [j8,zf9,vi,zd4,noH,SO.ro,wl]) ?_
      simp only [↓XC,XV,XT,Yg,seval,TES,zd,z7,XRP,XR,XM]
      rw [hlen]
      exact ⟨⟨(i+1,L,cur++[s.getD i 0],k),by simp only;omega,by simp only [List.length_append,List.length_singleton];omega,by simp only [List.length_append,List.length_singleton];omega,by simp only;rw [←sgl_c hi h10 hq];exact h4,h5⟩,by simp only;omega,(Ent.ren1 [0,1] (by decide) (by simp only [Yd];exact ⟨za (by simp [Yf]),kn (by simp) fun j hj=>rfl⟩) (by simp [zi,Vg.look,SV.mapH,muL]))⟩)
 ·rw [←h4,sgl_end (by omega)]
noncomputable def jf:PE:=peR (fun (x:Bs×Int)=>match x with | (s,p)=>[.s s,.i .i64 p]) (fun (x:Bs×Int)=>match x with | (s,p)=>s.length≤1048576) (fun (x:Bs×Int)=>match x with | (s,p)=>.tup [.s (sgA s (spot s p)).1,.i .i64 ((sgA s (spot s p)).2.1:Nat),.i .i64 (sgA s (spot s p)).2.2])
theorem zbn {s:Bs} {p:Int}:jf [.s s,.i .i64 p]=some (s.length≤1048576,.tup [.s (sgA s (spot s p)).1,.i .i64 ((sgA s (spot s p)).2.1:Nat),.i .i64 (sgA s (spot s p)).2.2]):=yh (by rintro ⟨a0,a1⟩ ⟨b0,b1⟩ h;simp_all []) (s,p)
theorem zbm:PE1 Tryz.prog 192 jf:=yl (by rintro ⟨s,p⟩ hp;exact zvq s p hp)
theorem zvy (s:Bs) (p:Int) (hp:s.length≤1048576):PF Tryz.prog 193 [.s s,.i .i64 p] (.tup [.s (dbA s (spot s p)).1,.i .i64 ((dbA s (spot s p)).2.1:Nat),.i .i64 (dbA s (spot s p)).2.2]):=by
 refine ⟨rfl,rfl,FnK.of (cf:=zk Tryz.prog te [(100,zx),(107,zm),(241,ua),(185,qe)] 118 0 false (fun _=>false) (kp [(0,[0,1]),(1,[0,1]),(2,[0,1,18]),(3,[4,5,6]),(4,[0,7]),(5,[0,7,31]),(6,[0,7,8]),(7,[0,7,8,9]),(8,[0,7]),(9,[0,7,8,9,59]),(10,[0,7,9,65]),(11,[0,7,9]),(12,[0,7,76]),(13,[4,5,6]),(14,[0,7,8,81]),(15,[0,7,10,11]),(16,[0,7,10,11,94]),(17,[4,5,6]),(18,[0,7]),(19,[0,7,8,108]),(20,[4,5,6]),(21,[4,5,6])]) [] [(13,[],[],.q1 0 (.q1 1 (.q1 2 (.q1 4 (.q0 3 [3] (.q1 5 (.q1 6 (.fin)))))))),(17,[],[],.q1 0 (.q1 1 (.q1 2 (.q1 4 (.q0 3 [3] (.q1 5 (.q1 6 (.fin)))))))),(8,[],[],.q1 0 (.q1 1 (.q1 4 (.q1 5 (.alt 2 (.alt 3 (.seq [6,7,8]) (.alt 6 (.alt 3 (.seq [7,8]) (.alt 7 (.seq [3,8]) (.fin))) (.fin))) (.alt 6 (.alt 2 (.alt 3 (.seq [7,8]) (.alt 7 (.seq [3,8]) (.fin))) (.alt 7 (.seq [2,3,8]) (.fin))) (.fin)))))))]) (zf te_ok (l:=[(100,zx),(107,zm),(241,ua),(185,qe)]) (⟨ym,z6,zgf,wt,trivial⟩) zc) Tryz.func193 rfl rfl rfl (by simp [zk]) (by simp [zk]) (rs:=[.tmp 4,.tmp 5,.tmp 6]) rfl 100000 ?_⟩
 simp only [↓XC,XV,XT,Yg,seval,TES,yn,zd,zbp,z7,XRP,XR]
 have h0:=q8 s p
 rw [zu s h0]
 refine Chk.mk hp fun _=>⟨fun h=>?_,fun h=>Chk.mk (by simp only [inR];omega) fun _=>?_⟩
 ·rw [show dbA s (spot s p)=([],spot s p,10) by unfold dbA;rw [if_neg (by simp only [Yi] at h;omega)]]
 have hb:byt s (spot s p)=34:=by simp only [Yi] at h;omega
 have hl0:spot s p<s.length:=by
  rcases Nat.lt_or_ge (spot s p) s.length with h3 | h3
  ·exact h3
  ·rw [jt h3] at hb;omega
 refine yv.of (ι:={x:Nat×List Pc×Bs×Nat // x.1≤s.length∧x.2.2.1.length+pcW x.2.1≤2 * x.1∧x.2.2.2≤x.2.2.1.length∧dbl s x.1 x.2.1 x.2.2.1 x.2.2.2=dbA s (spot s p)}) (fun x=>⟨[(0,.s s),(7,.ptr 0 0 0)],[some (.blk false [.s s,.i .i64 ((x.1.1:Nat)),.slc 1 0 (x.1.2.1).length,.s (x.1.2.2.1),.i .i64 (((zbu x.1.2.2.2 x.1.2.2.1).length:Nat))]),some (.row false 2 (x.1.2.1).length (zg pcc pcz (x.1.2.1)))]⟩) (fun x=>s.length-x.1.1) ⟨(spot s p+1,[],[],0),by simp only;omega,by simp [pcW],Nat.zero_le _,by unfold dbA;rw [if_pos hb]⟩ (Ent.nl (d:=[some (.blk false [.s s,.i .i64 ((spot s p:Nat)+1),.slc 1 0 0,.s [],.i .i64 0])]) [(2,zg pcc pcz [])] (by simp [nlE,nlV,Vg.look]) (by simp [nlC,nlO,nlL,nlV,zee])) ?_
 rintro ⟨⟨i,L,cur,k⟩,h1,h2,h3,h4⟩
 simp only [↓XC,XV,XT,Yg,seval,TES,zd,z7,zbp,XRP,XR]
 simp only at h1 h2 h3 h4
 have hW:=zn8 L
 have hcw:=zgu k cur
 refine ⟨fun hil=>Chk.mk (by omega) fun _=>?_,fun hil=>?_⟩
 ·have hi:i<s.length:=by omega
  have hbt:=kv hi
  rw [←hbt]
  have e1:byt s (spot s ((i:Int)+1))=byt s (i+1):=by rw [vj (by omega)];rfl
  rw [e1,zu s h1]
  refine Chk.mk (fun _=>by simp only [inR];omega) fun _=>Chk.mk (fun h=>⟨⟨h,h⟩,hp⟩) fun _=>⟨fun hA=>⟨fun hg=>Chk.mk (by simp only [inR];omega) fun _=>?_,fun hg=>?_⟩,fun hA=>⟨fun h92=>Chk.mk hp fun _=>⟨fun he=>?_,fun he=>Chk.mk (by have:=ztu s i;simp only [inR];omega) fun _=>?_⟩,fun h92=>⟨fun hq=>?_,fun hq=>?_⟩⟩⟩
  ·rw [hg]
   have hgl:byt s i=92∧byt s (i+1)=10:=by simpa using hg
   have hi1:i+1<s.length:=by
    rcases Nat.lt_or_ge (i+1) s.length with h6 | h6
    ·exact h6
    ·rw [jt h6] at hgl;omega
   refine zj.reb (qends s (i+1) L cur (zbu k cur).length true ⟨hp,hi1,hcw,by omega,by omega⟩) [0,1] (by simp [Yf]) (by simp only [Ye];exact ⟨by omega,za (by simp [Yf]),by omega,zb fun _=>rfl⟩) (by decide) (by simp [zw,SO.ro]) (by decide) (by simp [j8,zf9,vi,zd4,noH,SO.ro,wl]) ?_
   simp only [↓XC,XV,XT,Yg,seval,TES,zd,z7,XRP,XR,XM]
   by_cases hm:mkA s (i+1+1)=0
   ·simp only [hm,decide_true,Bool.not_true,Bool.false_eq_true,false_implies,true_and,forall_const,if_true]
    have hwl:=vk s (i+1+1) hi1
    have hwg:=vl s (i+1+1)
    exact ⟨⟨(wh s (i+1+1),L++[⟨cur,true⟩],[],0),hwl,by simp only [w9,xq,List.length_nil];omega,Nat.le_refl _,by simp only;rw [←dbl_gl hi hgl.1 hgl.2 hm];exact h4⟩,by simp only;omega,(Ent.ren1 [0,1] (by decide) (by simp only [Yd];exact ⟨za (by simp [Yf,zee]),kn (by simp) fun j hj=>rfl⟩) (by simp [zi,Vg.look,SV.mapH,muL]))⟩
   ·simp only [hm,decide_false,Bool.not_false,Bool.true_eq_false,false_implies,and_true,forall_const,if_false]
    refine ⟨by decide +kernel, ?_⟩
    rw [←h4,dbl_gm hi hgl.1 hgl.2 hm]
  ·rw [hg]
   have h10:byt s i=10:=by rw [hg] at hA;simpa using hA
   refine zj.reb (qends s i L cur (zbu k cur).length false ⟨hp,hi,hcw,by omega,by omega⟩) [0,1] (by simp [Yf]) (by simp only [Ye];exact ⟨by omega,za (by simp [Yf]),by omega,zb fun _=>rfl⟩) (by decide) (by simp [zw,SO.ro]) (by decide) (by simp [j8,zf9,vi,zd4,noH,SO.ro,wl]) ?_
   simp only [↓XC,XV,XT,Yg,seval,TES,zd,z7,XRP,XR,XM]
   by_cases hm:mkA s (i+1)=0
   ·simp only [hm,decide_true,Bool.not_true,Bool.false_eq_true,false_implies,true_and,forall_const,if_true,if_false]
    have hcl:=zpn k cur
    have hwl:=vk s (i+1) hi
    have hwg:=vl s (i+1)
    rw [hcl]
    exact ⟨⟨(wh s (i+1),L++[⟨zbu k cur,false⟩],[],0),hwl,by simp only [w9,xq,List.length_nil];omega,Nat.le_refl _,by simp only;rw [←dbl_nl hi h10 hm];exact h4⟩,by simp only;omega,(Ent.ren1 [0,1] (by decide) (by simp only [Yd];exact ⟨za (by simp [Yf,zee]),kn (by simp) fun j hj=>rfl⟩) (by simp [zi,Vg.look,SV.mapH,muL]))⟩
   ·simp only [hm,decide_false,Bool.not_false,Bool.true_eq_false,false_implies,and_true,forall_const,if_false]
    refine ⟨by decide +kernel, ?_⟩
    rw [←h4,dbl_mk hi h10 hm]
  ·have hn:¬byt s (i+1)=10:=by intro hx;simp [h92,hx] at hA
   refine ⟨by decide +kernel, ?_⟩
   rw [←h4,dbl_eb hi h92 hn (by omega)]
  ·have hn:¬byt s (i+1)=10:=by intro hx;simp [h92,hx] at hA
   have hel:=zzk s i
   have hegt:=zzl s i
   have hele:=ztu s i
   have h44:=dbl_es (L:=L) (cur:=cur) (k:=k) hi h92 hn (by omega)
   rw [h4] at h44
   generalize esA s i=t at *
   refine zj.reb (qput s i L cur (zbu k cur).length t.1 ((t.2:Int)-i) true ⟨by omega,by omega,by omega,by omega,by omega⟩) [0,1] (by simp [Yf]) (by simp only [Ye];exact ⟨by omega,za (by simp [Yf]),by omega,zb fun _=>rfl⟩) (by decide) (by simp [zw,SO.ro]) (by decide) (by simp [j8,zf9,vi,zd4,noH,SO.ro,wl]) ?_
   simp only [↓XC,XV,XT,Yg,seval,TES,zd,z7,XRP,XR,XM]
   have hc:zbu (cur.length+t.1.length) (cur++t.1)=cur++t.1:=by rw [←List.length_append];exact cutW_all _
   rw [show (i:Int)+((t.2:Int)-i)=(t.2:Int) by omega]
   exact ⟨⟨(t.2,L,cur++t.1,(cur++t.1).length),by simp only;omega,by simp only [List.length_append];omega,Nat.le_refl _,h44.symm⟩,by simp only;omega,(Ent.ren1 [0,1] (by decide) (by simp only [Yd];exact ⟨za (by simp [Yf,hc]),kn (by simp) fun j hj=>rfl⟩) (by simp [zi,Vg.look,SV.mapH,muL]))⟩
  ·refine zj.reb (qdone s i L cur (zbu k cur).length ⟨by omega,by omega⟩) [0,1] (by simp [Yf]) (by simp only [Ye];exact ⟨by omega,za (by simp [Yf]),by omega,zb fun _=>rfl⟩) (by decide) (by simp [zw,SO.ro]) (by decide) (by simp [j8,zf9,vi,zd4,noH,SO.ro,wl]) ?_
   simp only [↓XC,XV,XT,Yg,seval,TES,zd,z7,XRP,XR,XM]
   rw [←h4,dbl_q hi hq];rfl
  ·have hq10:¬byt s i=10:=by intro hx;simp [hx] at hA
   refine ⟨by decide +kernel,Chk.mk (by have:=zcf s i;simp only [inR];omega) fun _=>?_⟩
   have hks:zp7 ((wl [SV.i .u8 (byt s i)] 1 0).getD 0 .u)=true:=by rfl
   have hU:∀ j,j<1→zp7 ((wl [SV.i .u8 (byt s i)] 1 j).getD 0 .u)=true:=by
    intro j hj
    obtain rfl:j=0:=by omega
    exact hks
   simp only [u8_of]
   have hwk:(!(byt s i==32||byt s i==9))=false→(s.getD i 0=32∨s.getD i 0=9):=fun hw=>by
    have e1:=zbw (c:=s.getD i 0) (n:=32) (by decide)
    have e2:=zbw (c:=s.getD i 0) (n:=9) (by decide)
    simp only [Int.cast_ofNat_Int] at e1 e2
    rw [hbt] at hw
    simp only [Bool.not_eq_false',Bool.or_eq_true,beq_iff_eq,e1,e2] at hw
    exact hw
   have hwn:(!(byt s i==32||byt s i==9))=true→¬(s.getD i 0=32∨s.getD i 0=9):=fun hw=>by
    have e1:=zbw (c:=s.getD i 0) (n:=32) (by decide)
    have e2:=zbw (c:=s.getD i 0) (n:=9) (by decide)
    simp only [Int.cast_ofNat_Int] at e1 e2
    rw [hbt] at hw
    simp only [Bool.not_eq_true',Bool.or_eq_false_iff,beq_eq_false_iff_ne,ne_eq,e1,e2] at hw
    rintro (hx | hx)
    ·exact hw.1 hx
    ·exact hw.2 hx
   have hlen:((if (!(byt s i==32||byt s i==9))=true then cur.length+1 else (zbu k cur).length:Nat):Int)=((zbu k (cur++[s.getD i 0])).length:Nat):=by
    cases hw:(!(byt s i==32||byt s i==9))
    ·rw [zk1 h3 (hwk hw)];rfl
    ·rw [zms (hwn hw)];simp
   repeat' (with_reducible refine And.intro ?_ ?_)
   all_goals first
    | exact hU
    | (
      refine zj.reb (qput s i L cur (zbu k cur).length [s.getD i 0] 1 (!(byt s i==32||byt s i==9)) ⟨by omega,by simp,by omega,by omega,by omega⟩) [0,1] (by simp [Yf]) (by simp only [Ye];exact ⟨by omega,za (by simp [Yf]),by omega,zb fun _=>rfl⟩) (by decide) (by simp [zw,SO.ro]) (by decide) (by simp [j8,zf9,vi,zd4,noH,SO.ro,wl]) ?_
      simp only [↓XC,XV,XT,Yg,seval,TES,zd,z7,XRP,XR,XM]
      rw [hlen]
      exact ⟨⟨(i+1,L,cur++[s.getD i 0],k),by simp only;omega,by simp only [List.length_append,List.length_singleton];omega,by simp only [List.length_append,List.length_singleton];omega,by simp only;rw [←dbl_c hi hq10 h92 hq];exact h4⟩,by simp only;omega,(Ent.ren1 [0,1] (by decide) (by simp only [Yd];exact ⟨za (by simp [Yf]),kn (by simp) fun j hj=>rfl⟩) (by simp [zi,Vg.look,SV.mapH,muL]))⟩)
 ·rw [←h4,dbl_end (by omega)]
noncomputable def jj:PE:=peR (fun (x:Bs×Int)=>match x with | (s,p)=>[.s s,.i .i64 p]) (fun (x:Bs×Int)=>match x with | (s,p)=>s.length≤1048576) (fun (x:Bs×Int)=>match x with | (s,p)=>.tup [.s (dbA s (spot s p)).1,.i .i64 ((dbA s (spot s p)).2.1:Nat),.i .i64 (dbA s (spot s p)).2.2])
theorem zbr {s:Bs} {p:Int}:jj [.s s,.i .i64 p]=some (s.length≤1048576,.tup [.s (dbA s (spot s p)).1,.i .i64 ((dbA s (spot s p)).2.1:Nat),.i .i64 (dbA s (spot s p)).2.2]):=yh (by rintro ⟨a0,a1⟩ ⟨b0,b1⟩ h;simp_all []) (s,p)
theorem zbq:PE1 Tryz.prog 193 jj:=yl (by rintro ⟨s,p⟩ hp;exact zvy s p hp)
end Go.T
end
