/- The types of the program, looked up. -/
import Derived.Test.YtgippllfnmdnpaaGreatDoorTAL
import Derived.Test.YtgippllfnmdnpaaGreatDoorTAK
import Derived.Test.YtgippllfnmdnpaaGreatDoorProg
set_option linter.unusedVariables false
set_option linter.unusedSimpArgs false
set_option linter.unusedSectionVars false
set_option linter.unnecessarySimpa false
namespace Go.TT
variable [Go.Vg.Glob]
open Go.Proofs Go.Vg Go.RowKit
set_option maxRecDepth 10000
def tes:List (TypeId×TI):=[(2,⟨.int .i64,1,8,[.i .i64 0],false⟩),
 (3,⟨.int .i64,1,8,[.i .i64 0],false⟩),
 (4,⟨.bool,1,1,[.b false],false⟩),
 (5,⟨.int .u8,1,1,[.i .u8 0],false⟩),
 (6,⟨.int .u8,1,1,[.i .u8 0],false⟩),
 (7,⟨.struct [(2,0),(3,1),(4,2),(6,3)],4,24,[.i .i64 0,.i .i64 0,.b false,.i .u8 0],true⟩),
 (8,⟨.struct [(2,0),(3,1),(4,2),(6,3)],4,24,[.i .i64 0,.i .i64 0,.b false,.i .u8 0],true⟩),
 (9,⟨.str,1,16,[.s []],false⟩),
 (10,⟨.str,1,16,[.s []],false⟩),
 (11,⟨.str,1,16,[.s []],false⟩),
 (21,⟨.int .i32,1,4,[.i .i32 0],false⟩),
 (22,⟨.slice 5,1,24,[.nils],false⟩),
 (24,⟨.slice 28,1,24,[.nils],false⟩),
 (27,⟨.struct [(3,0),(3,1),(4,2),(9,3),(9,4),(9,5),(3,6),(3,7)],8,88,[.i .i64 0,.i .i64 0,.b false,.s [],.s [],.s [],.i .i64 0,.i .i64 0],true⟩),
 (28,⟨.struct [(3,0),(3,1),(4,2),(9,3),(9,4),(9,5),(3,6),(3,7)],8,88,[.i .i64 0,.i .i64 0,.b false,.s [],.s [],.s [],.i .i64 0,.i .i64 0],true⟩),
 (31,⟨.slice 3,1,24,[.nils],false⟩),
 (32,⟨.slice 160,1,24,[.nils],false⟩),
 (33,⟨.struct [(9,0),(3,1),(31,2),(32,3),(3,4)],5,80,[.s [],.i .i64 0,.nils,.nils,.i .i64 0],false⟩),
 (34,⟨.struct [(9,0),(3,1),(31,2),(32,3),(3,4)],5,80,[.s [],.i .i64 0,.nils,.nils,.i .i64 0],false⟩),
 (36,⟨.struct [(3,0),(28,1)],9,96,[.i .i64 0,.i .i64 0,.i .i64 0,.b false,.s [],.s [],.s [],.i .i64 0,.i .i64 0],true⟩),
 (37,⟨.struct [(3,0),(28,1)],9,96,[.i .i64 0,.i .i64 0,.i .i64 0,.b false,.s [],.s [],.s [],.i .i64 0,.i .i64 0],true⟩),
 (54,⟨.slice 177,1,24,[.nils],false⟩),
 (55,⟨.struct [(9,0),(3,1),(31,2),(54,3),(3,4)],5,80,[.s [],.i .i64 0,.nils,.nils,.i .i64 0],false⟩),
 (56,⟨.struct [(9,0),(3,1),(31,2),(54,3),(3,4)],5,80,[.s [],.i .i64 0,.nils,.nils,.i .i64 0],false⟩),
 (65,⟨.slice 144,1,24,[.nils],false⟩),
 (79,⟨.slice 4,1,24,[.nils],false⟩),
 (80,⟨.map 9 3,1,8,[.u],false⟩),
 (81,⟨.slice 193,1,24,[.nils],false⟩),
 (82,⟨.struct [(9,0),(3,1),(24,2),(79,3),(80,4),(81,5),(3,6),(3,7),(3,8),(4,9),(3,10)],11,144,[.s [],.i .i64 0,.nils,.nils,.u,.nils,.i .i64 0,.i .i64 0,.i .i64 0,.b false,.i .i64 0],false⟩),
 (83,⟨.struct [(9,0),(3,1),(24,2),(79,3),(80,4),(81,5),(3,6),(3,7),(3,8),(4,9),(3,10)],11,144,[.s [],.i .i64 0,.nils,.nils,.u,.nils,.i .i64 0,.i .i64 0,.i .i64 0,.b false,.i .i64 0],false⟩),
 (86,⟨.struct [(3,0),(31,1),(31,2)],3,56,[.i .i64 0,.nils,.nils],false⟩),
 (87,⟨.struct [(3,0),(31,1),(31,2)],3,56,[.i .i64 0,.nils,.nils],false⟩),
 (88,⟨.struct [(24,0),(31,1),(31,2),(31,3)],4,96,[.nils,.nils,.nils,.nils],false⟩),
 (89,⟨.struct [(24,0),(31,1),(31,2),(31,3)],4,96,[.nils,.nils,.nils,.nils],false⟩),
 (96,⟨.slice 270,1,24,[.nils],false⟩),
 (97,⟨.struct [(9,0),(3,1),(24,2),(3,3),(3,4),(3,5),(96,6),(81,7),(3,8)],9,128,[.s [],.i .i64 0,.nils,.i .i64 0,.i .i64 0,.i .i64 0,.nils,.nils,.i .i64 0],false⟩),
 (98,⟨.struct [(9,0),(3,1),(24,2),(3,3),(3,4),(3,5),(96,6),(81,7),(3,8)],9,128,[.s [],.i .i64 0,.nils,.i .i64 0,.i .i64 0,.i .i64 0,.nils,.nils,.i .i64 0],false⟩),
 (112,⟨.struct [(22,0),(3,1),(3,2)],3,40,[.nils,.i .i64 0,.i .i64 0],false⟩),
 (113,⟨.struct [(22,0),(3,1),(3,2)],3,40,[.nils,.i .i64 0,.i .i64 0],false⟩),
 (116,⟨.struct [(9,0),(4,1)],2,24,[.s [],.b false],true⟩),
 (117,⟨.struct [(9,0),(4,1)],2,24,[.s [],.b false],true⟩),
 (118,⟨.slice 117,1,24,[.nils],false⟩),
 (136,⟨.struct [(89,0),(34,4)],9,176,[.nils,.nils,.nils,.nils,.s [],.i .i64 0,.nils,.nils,.i .i64 0],false⟩),
 (137,⟨.struct [(89,0),(34,4)],9,176,[.nils,.nils,.nils,.nils,.s [],.i .i64 0,.nils,.nils,.i .i64 0],false⟩),
 (143,⟨.struct [(3,0),(3,1),(9,2)],3,32,[.i .i64 0,.i .i64 0,.s []],true⟩),
 (144,⟨.struct [(3,0),(3,1),(9,2)],3,32,[.i .i64 0,.i .i64 0,.s []],true⟩),
 (150,⟨.slice 9,1,24,[.nils],false⟩),
 (159,⟨.struct [(3,0),(3,1),(31,2)],3,40,[.i .i64 0,.i .i64 0,.nils],false⟩),
 (160,⟨.struct [(3,0),(3,1),(31,2)],3,40,[.i .i64 0,.i .i64 0,.nils],false⟩),
 (177,⟨.struct [(3,0),(3,1),(31,2)],3,40,[.i .i64 0,.i .i64 0,.nils],false⟩),
 (192,⟨.struct [(9,0),(9,1)],2,32,[.s [],.s []],true⟩),
 (193,⟨.struct [(9,0),(9,1)],2,32,[.s [],.s []],true⟩),
 (210,⟨.struct [(9,0),(3,1),(118,2),(9,3),(3,4)],5,72,[.s [],.i .i64 0,.nils,.s [],.i .i64 0],false⟩),
 (211,⟨.struct [(9,0),(3,1),(118,2),(9,3),(3,4)],5,72,[.s [],.i .i64 0,.nils,.s [],.i .i64 0],false⟩),
 (220,⟨.struct [(4,0),(9,1),(9,2),(3,3),(3,4)],5,56,[.b false,.s [],.s [],.i .i64 0,.i .i64 0],true⟩),
 (221,⟨.struct [(4,0),(9,1),(9,2),(3,3),(3,4)],5,56,[.b false,.s [],.s [],.i .i64 0,.i .i64 0],true⟩),
 (235,⟨.map 3 3,1,8,[.u],false⟩),
 (238,⟨.struct [(5,0),(5,1)],2,2,[.i .u8 0,.i .u8 0],true⟩),
 (239,⟨.struct [(5,0),(5,1)],2,2,[.i .u8 0,.i .u8 0],true⟩),
 (269,⟨.struct [(9,0),(4,1)],2,24,[.s [],.b false],true⟩),
 (270,⟨.struct [(9,0),(4,1)],2,24,[.s [],.b false],true⟩),
 (284,⟨.int .u8,1,1,[.i .u8 0],false⟩),
 (285,⟨.int .u8,1,1,[.i .u8 0],false⟩),
 (287,⟨.int .i32,1,4,[.i .i32 0],false⟩),
 (288,⟨.int .i32,1,4,[.i .i32 0],false⟩)]
def te:TE:=teOf tes
theorem zc:Tryz.prog.follows .mixedOrders=true:=by kernel_rfl
theorem te_ok:j9 Tryz.prog te:=zwl (by kernel_rfl)
theorem te_2:te 2=some ⟨.int .i64,1,8,[.i .i64 0],false⟩:=id rfl
theorem te_3:te 3=some ⟨.int .i64,1,8,[.i .i64 0],false⟩:=id rfl
theorem te_4:te 4=some ⟨.bool,1,1,[.b false],false⟩:=id rfl
theorem te_5:te 5=some ⟨.int .u8,1,1,[.i .u8 0],false⟩:=id rfl
theorem te_6:te 6=some ⟨.int .u8,1,1,[.i .u8 0],false⟩:=id rfl
theorem te_7:te 7=some ⟨.struct [(2,0),(3,1),(4,2),(6,3)],4,24,[.i .i64 0,.i .i64 0,.b false,.i .u8 0],true⟩:=id rfl
theorem te_8:te 8=some ⟨.struct [(2,0),(3,1),(4,2),(6,3)],4,24,[.i .i64 0,.i .i64 0,.b false,.i .u8 0],true⟩:=id rfl
theorem te_9:te 9=some ⟨.str,1,16,[.s []],false⟩:=id rfl
theorem te_10:te 10=some ⟨.str,1,16,[.s []],false⟩:=id rfl
theorem te_11:te 11=some ⟨.str,1,16,[.s []],false⟩:=id rfl
theorem te_21:te 21=some ⟨.int .i32,1,4,[.i .i32 0],false⟩:=id rfl
theorem te_22:te 22=some ⟨.slice 5,1,24,[.nils],false⟩:=id rfl
theorem te_24:te 24=some ⟨.slice 28,1,24,[.nils],false⟩:=id rfl
theorem te_27:te 27=some ⟨.struct [(3,0),(3,1),(4,2),(9,3),(9,4),(9,5),(3,6),(3,7)],8,88,[.i .i64 0,.i .i64 0,.b false,.s [],.s [],.s [],.i .i64 0,.i .i64 0],true⟩:=id rfl
theorem te_28:te 28=some ⟨.struct [(3,0),(3,1),(4,2),(9,3),(9,4),(9,5),(3,6),(3,7)],8,88,[.i .i64 0,.i .i64 0,.b false,.s [],.s [],.s [],.i .i64 0,.i .i64 0],true⟩:=id rfl
theorem te_31:te 31=some ⟨.slice 3,1,24,[.nils],false⟩:=id rfl
theorem te_32:te 32=some ⟨.slice 160,1,24,[.nils],false⟩:=id rfl
theorem te_33:te 33=some ⟨.struct [(9,0),(3,1),(31,2),(32,3),(3,4)],5,80,[.s [],.i .i64 0,.nils,.nils,.i .i64 0],false⟩:=id rfl
theorem te_34:te 34=some ⟨.struct [(9,0),(3,1),(31,2),(32,3),(3,4)],5,80,[.s [],.i .i64 0,.nils,.nils,.i .i64 0],false⟩:=id rfl
theorem te_36:te 36=some ⟨.struct [(3,0),(28,1)],9,96,[.i .i64 0,.i .i64 0,.i .i64 0,.b false,.s [],.s [],.s [],.i .i64 0,.i .i64 0],true⟩:=id rfl
theorem te_37:te 37=some ⟨.struct [(3,0),(28,1)],9,96,[.i .i64 0,.i .i64 0,.i .i64 0,.b false,.s [],.s [],.s [],.i .i64 0,.i .i64 0],true⟩:=id rfl
theorem te_54:te 54=some ⟨.slice 177,1,24,[.nils],false⟩:=id rfl
theorem te_55:te 55=some ⟨.struct [(9,0),(3,1),(31,2),(54,3),(3,4)],5,80,[.s [],.i .i64 0,.nils,.nils,.i .i64 0],false⟩:=id rfl
theorem te_56:te 56=some ⟨.struct [(9,0),(3,1),(31,2),(54,3),(3,4)],5,80,[.s [],.i .i64 0,.nils,.nils,.i .i64 0],false⟩:=id rfl
theorem te_65:te 65=some ⟨.slice 144,1,24,[.nils],false⟩:=id rfl
theorem te_79:te 79=some ⟨.slice 4,1,24,[.nils],false⟩:=id rfl
theorem te_80:te 80=some ⟨.map 9 3,1,8,[.u],false⟩:=id rfl
theorem te_81:te 81=some ⟨.slice 193,1,24,[.nils],false⟩:=id rfl
theorem te_82:te 82=some ⟨.struct [(9,0),(3,1),(24,2),(79,3),(80,4),(81,5),(3,6),(3,7),(3,8),(4,9),(3,10)],11,144,[.s [],.i .i64 0,.nils,.nils,.u,.nils,.i .i64 0,.i .i64 0,.i .i64 0,.b false,.i .i64 0],false⟩:=id rfl
theorem te_83:te 83=some ⟨.struct [(9,0),(3,1),(24,2),(79,3),(80,4),(81,5),(3,6),(3,7),(3,8),(4,9),(3,10)],11,144,[.s [],.i .i64 0,.nils,.nils,.u,.nils,.i .i64 0,.i .i64 0,.i .i64 0,.b false,.i .i64 0],false⟩:=id rfl
theorem te_86:te 86=some ⟨.struct [(3,0),(31,1),(31,2)],3,56,[.i .i64 0,.nils,.nils],false⟩:=id rfl
theorem te_87:te 87=some ⟨.struct [(3,0),(31,1),(31,2)],3,56,[.i .i64 0,.nils,.nils],false⟩:=id rfl
theorem te_88:te 88=some ⟨.struct [(24,0),(31,1),(31,2),(31,3)],4,96,[.nils,.nils,.nils,.nils],false⟩:=id rfl
theorem te_89:te 89=some ⟨.struct [(24,0),(31,1),(31,2),(31,3)],4,96,[.nils,.nils,.nils,.nils],false⟩:=id rfl
theorem te_96:te 96=some ⟨.slice 270,1,24,[.nils],false⟩:=id rfl
theorem te_97:te 97=some ⟨.struct [(9,0),(3,1),(24,2),(3,3),(3,4),(3,5),(96,6),(81,7),(3,8)],9,128,[.s [],.i .i64 0,.nils,.i .i64 0,.i .i64 0,.i .i64 0,.nils,.nils,.i .i64 0],false⟩:=id rfl
theorem te_98:te 98=some ⟨.struct [(9,0),(3,1),(24,2),(3,3),(3,4),(3,5),(96,6),(81,7),(3,8)],9,128,[.s [],.i .i64 0,.nils,.i .i64 0,.i .i64 0,.i .i64 0,.nils,.nils,.i .i64 0],false⟩:=id rfl
theorem te_112:te 112=some ⟨.struct [(22,0),(3,1),(3,2)],3,40,[.nils,.i .i64 0,.i .i64 0],false⟩:=id rfl
theorem te_113:te 113=some ⟨.struct [(22,0),(3,1),(3,2)],3,40,[.nils,.i .i64 0,.i .i64 0],false⟩:=id rfl
theorem te_116:te 116=some ⟨.struct [(9,0),(4,1)],2,24,[.s [],.b false],true⟩:=id rfl
theorem te_117:te 117=some ⟨.struct [(9,0),(4,1)],2,24,[.s [],.b false],true⟩:=id rfl
theorem te_118:te 118=some ⟨.slice 117,1,24,[.nils],false⟩:=id rfl
theorem te_136:te 136=some ⟨.struct [(89,0),(34,4)],9,176,[.nils,.nils,.nils,.nils,.s [],.i .i64 0,.nils,.nils,.i .i64 0],false⟩:=id rfl
theorem te_137:te 137=some ⟨.struct [(89,0),(34,4)],9,176,[.nils,.nils,.nils,.nils,.s [],.i .i64 0,.nils,.nils,.i .i64 0],false⟩:=id rfl
theorem te_143:te 143=some ⟨.struct [(3,0),(3,1),(9,2)],3,32,[.i .i64 0,.i .i64 0,.s []],true⟩:=id rfl
theorem te_144:te 144=some ⟨.struct [(3,0),(3,1),(9,2)],3,32,[.i .i64 0,.i .i64 0,.s []],true⟩:=id rfl
theorem te_150:te 150=some ⟨.slice 9,1,24,[.nils],false⟩:=id rfl
theorem te_159:te 159=some ⟨.struct [(3,0),(3,1),(31,2)],3,40,[.i .i64 0,.i .i64 0,.nils],false⟩:=id rfl
theorem te_160:te 160=some ⟨.struct [(3,0),(3,1),(31,2)],3,40,[.i .i64 0,.i .i64 0,.nils],false⟩:=id rfl
theorem te_177:te 177=some ⟨.struct [(3,0),(3,1),(31,2)],3,40,[.i .i64 0,.i .i64 0,.nils],false⟩:=id rfl
theorem te_192:te 192=some ⟨.struct [(9,0),(9,1)],2,32,[.s [],.s []],true⟩:=id rfl
theorem te_193:te 193=some ⟨.struct [(9,0),(9,1)],2,32,[.s [],.s []],true⟩:=id rfl
theorem te_210:te 210=some ⟨.struct [(9,0),(3,1),(118,2),(9,3),(3,4)],5,72,[.s [],.i .i64 0,.nils,.s [],.i .i64 0],false⟩:=id rfl
theorem te_211:te 211=some ⟨.struct [(9,0),(3,1),(118,2),(9,3),(3,4)],5,72,[.s [],.i .i64 0,.nils,.s [],.i .i64 0],false⟩:=id rfl
theorem te_220:te 220=some ⟨.struct [(4,0),(9,1),(9,2),(3,3),(3,4)],5,56,[.b false,.s [],.s [],.i .i64 0,.i .i64 0],true⟩:=id rfl
theorem te_221:te 221=some ⟨.struct [(4,0),(9,1),(9,2),(3,3),(3,4)],5,56,[.b false,.s [],.s [],.i .i64 0,.i .i64 0],true⟩:=id rfl
theorem te_235:te 235=some ⟨.map 3 3,1,8,[.u],false⟩:=id rfl
theorem te_238:te 238=some ⟨.struct [(5,0),(5,1)],2,2,[.i .u8 0,.i .u8 0],true⟩:=id rfl
theorem te_239:te 239=some ⟨.struct [(5,0),(5,1)],2,2,[.i .u8 0,.i .u8 0],true⟩:=id rfl
theorem te_269:te 269=some ⟨.struct [(9,0),(4,1)],2,24,[.s [],.b false],true⟩:=id rfl
theorem te_270:te 270=some ⟨.struct [(9,0),(4,1)],2,24,[.s [],.b false],true⟩:=id rfl
theorem te_284:te 284=some ⟨.int .u8,1,1,[.i .u8 0],false⟩:=id rfl
theorem te_285:te 285=some ⟨.int .u8,1,1,[.i .u8 0],false⟩:=id rfl
theorem te_287:te 287=some ⟨.int .i32,1,4,[.i .i32 0],false⟩:=id rfl
theorem te_288:te 288=some ⟨.int .i32,1,4,[.i .i32 0],false⟩:=id rfl
theorem TES:type_of% (And.intro (And.intro (And.intro (And.intro (And.intro (And.intro (@te_2) (@te_3)) (And.intro (@te_4) (@te_5))) (And.intro (And.intro (@te_6) (@te_7)) (And.intro (@te_8) (@te_9)))) (And.intro (And.intro (And.intro (@te_10) (@te_11)) (And.intro (@te_21) (@te_22))) (And.intro (And.intro (@te_24) (@te_27)) (And.intro (@te_28) (@te_31))))) (And.intro (And.intro (And.intro (And.intro (@te_32) (@te_33)) (And.intro (@te_34) (@te_36))) (And.intro (And.intro (@te_37) (@te_54)) (And.intro (@te_55) (@te_56)))) (And.intro (And.intro (And.intro (@te_65) (@te_79)) (And.intro (@te_80) (@te_81))) (And.intro (And.intro (@te_82) (@te_83)) (And.intro (@te_86) (@te_87)))))) (And.intro (And.intro (And.intro (And.intro (And.intro (@te_88) (@te_89)) (And.intro (@te_96) (@te_97))) (And.intro (And.intro (@te_98) (@te_112)) (And.intro (@te_113) (@te_116)))) (And.intro (And.intro (And.intro (@te_117) (@te_118)) (And.intro (@te_136) (@te_137))) (And.intro (And.intro (@te_143) (@te_144)) (And.intro (@te_150) (@te_159))))) (And.intro (And.intro (And.intro (And.intro (@te_160) (@te_177)) (And.intro (@te_192) (@te_193))) (And.intro (And.intro (@te_210) (@te_211)) (And.intro (@te_220) (@te_221)))) (And.intro (And.intro (And.intro (@te_235) (@te_238)) (And.intro (@te_239) (@te_269))) (And.intro (And.intro (@te_270) (@te_284)) (And.intro (@te_285) (And.intro (@te_287) (@te_288)))))))):=And.intro (And.intro (And.intro (And.intro (And.intro (And.intro (@te_2) (@te_3)) (And.intro (@te_4) (@te_5))) (And.intro (And.intro (@te_6) (@te_7)) (And.intro (@te_8) (@te_9)))) (And.intro (And.intro (And.intro (@te_10) (@te_11)) (And.intro (@te_21) (@te_22))) (And.intro (And.intro (@te_24) (@te_27)) (And.intro (@te_28) (@te_31))))) (And.intro (And.intro (And.intro (And.intro (@te_32) (@te_33)) (And.intro (@te_34) (@te_36))) (And.intro (And.intro (@te_37) (@te_54)) (And.intro (@te_55) (@te_56)))) (And.intro (And.intro (And.intro (@te_65) (@te_79)) (And.intro (@te_80) (@te_81))) (And.intro (And.intro (@te_82) (@te_83)) (And.intro (@te_86) (@te_87)))))) (And.intro (And.intro (And.intro (And.intro (And.intro (@te_88) (@te_89)) (And.intro (@te_96) (@te_97))) (And.intro (And.intro (@te_98) (@te_112)) (And.intro (@te_113) (@te_116)))) (And.intro (And.intro (And.intro (@te_117) (@te_118)) (And.intro (@te_136) (@te_137))) (And.intro (And.intro (@te_143) (@te_144)) (And.intro (@te_150) (@te_159))))) (And.intro (And.intro (And.intro (And.intro (@te_160) (@te_177)) (And.intro (@te_192) (@te_193))) (And.intro (And.intro (@te_210) (@te_211)) (And.intro (@te_220) (@te_221)))) (And.intro (And.intro (And.intro (@te_235) (@te_238)) (And.intro (@te_239) (@te_269))) (And.intro (And.intro (@te_270) (@te_284)) (And.intro (@te_285) (And.intro (@te_287) (@te_288)))))))
end Go.TT
