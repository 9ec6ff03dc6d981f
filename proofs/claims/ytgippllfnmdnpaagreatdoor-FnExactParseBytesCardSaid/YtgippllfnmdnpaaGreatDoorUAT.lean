/- The types of the program, looked up. -/
import Derived.Test.YtgippllfnmdnpaaGreatDoorUAK
import Derived.Test.YtgippllfnmdnpaaGreatDoorProg
import Derived.Test.YtgippllfnmdnpaaGreatDoorUAP
import Derived.Test.YtgippllfnmdnpaaGreatDoorUAL
set_option linter.all false
section
namespace Go.TT
variable [Go.Vg.Glob]
open Go.Proofs Go.Vg Go.RowKit
set_option maxRecDepth 10000
def tes:List (TypeId×TI):=[(2,⟨.int .i64,1,8,[.i .i64 0],false⟩),
 (3,⟨.int .i64,1,8,[.i .i64 0],false⟩),
 (4,⟨.bool,1,1,[.b false],false⟩),
 (5,⟨.int .u8,1,1,[.i .u8 0],false⟩),
 (6,⟨.int .u8,1,1,[.i .u8 0],false⟩),
 (7,⟨.struct [(2,0),(3,1),(4,2),(6,3)],4,24,[.i .i64 0,.i .i64 0,.b false,.i .u8 0],true⟩),
 (8,⟨.struct [(2,0),(3,1),(4,2),(6,3)],4,24,[.i .i64 0,.i .i64 0,.b false,.i .u8 0],true⟩),
 (9,⟨.str,1,16,[.s []],false⟩),
 (10,⟨.str,1,16,[.s []],false⟩),
 (11,⟨.str,1,16,[.s []],false⟩),
 (21,⟨.int .i32,1,4,[.i .i32 0],false⟩),
 (22,⟨.slice 5,1,24,[.nils],false⟩),
 (24,⟨.slice 28,1,24,[.nils],false⟩),
 (27,⟨.struct [(3,0),(3,1),(4,2),(9,3),(9,4),(9,5),(3,6),(3,7)],8,88,[.i .i64 0,.i .i64 0,.b false,.s [],.s [],.s [],.i .i64 0,.i .i64 0],true⟩),
 (28,⟨.struct [(3,0),(3,1),(4,2),(9,3),(9,4),(9,5),(3,6),(3,7)],8,88,[.i .i64 0,.i .i64 0,.b false,.s [],.s [],.s [],.i .i64 0,.i .i64 0],true⟩),
 (31,⟨.slice 3,1,24,[.nils],false⟩),
 (32,⟨.slice 160,1,24,[.nils],false⟩),
 (33,⟨.struct [(9,0),(3,1),(31,2),(32,3),(3,4)],5,80,[.s [],.i .i64 0,.nils,.nils,.i .i64 0],false⟩),
 (34,⟨.struct [(9,0),(3,1),(31,2),(32,3),(3,4)],5,80,[.s [],.i .i64 0,.nils,.nils,.i .i64 0],false⟩),
 (36,⟨.struct [(3,0),(28,1)],9,96,[.i .i64 0,.i .i64 0,.i .i64 0,.b false,.s [],.s [],.s [],.i .i64 0,.i .i64 0],true⟩),
 (37,⟨.struct [(3,0),(28,1)],9,96,[.i .i64 0,.i .i64 0,.i .i64 0,.b false,.s [],.s [],.s [],.i .i64 0,.i .i64 0],true⟩),
 (54,⟨.slice 177,1,24,[.nils],false⟩),
 (55,⟨.struct [(9,0),(3,1),(31,2),(54,3),(3,4)],5,80,[.s [],.i .i64 0,.nils,.nils,.i .i64 0],false⟩),
 (56,⟨.struct [(9,0),(3,1),(31,2),(54,3),(3,4)],5,80,[.s [],.i .i64 0,.nils,.nils,.i .i64 0],false⟩),
 (65,⟨.slice 144,1,24,[.nils],false⟩),
 (79,⟨.slice 4,1,24,[.nils],false⟩),
 (80,⟨.map 9 3,1,8,[.u],false⟩),
 (81,⟨.slice 193,1,24,[.nils],false⟩),
 (82,⟨.struct [(9,0),(3,1),(24,2),(79,3),(80,4),(81,5),(3,6),(3,7),(3,8),(4,9),(3,10)],11,144,[.s [],.i .i64 0,.nils,.nils,.u,.nils,.i .i64 0,.i .i64 0,.i .i64 0,.b false,.i .i64 0],false⟩),
 (83,⟨.struct [(9,0),(3,1),(24,2),(79,3),(80,4),(81,5),(3,6),(3,7),(3,8),(4,9),(3,10)],11,144,[.s [],.i .i64 0,.nils,.nils,.u,.nils,.i .i64 0,.i .i64 0,.i .i64 0,.b false,.i .i64 0],false⟩),
 (86,⟨.struct [(3,0),(31,1),(31,2)],3,56,[.i .i64 0,.nils,.nils],false⟩),
 (87,⟨.struct [(3,0),(31,1),(31,2)],3,56,[.i .i64 0,.nils,.nils],false⟩),
 (88,⟨.struct [(24,0),(31,1),(31,2),(31,3)],4,96,[.nils,.nils,.nils,.nils],false⟩),
 (89,⟨.struct [(24,0),(31,1),(31,2),(31,3)],4,96,[.nils,.nils,.nils,.nils],false⟩),
 (96,⟨.slice 270,1,24,[.nils],false⟩),
 (97,⟨.struct [(9,0),(3,1),(24,2),(3,3),(3,4),(3,5),(96,6),(81,7),(3,8)],9,128,[.s [],.i .i64 0,.nils,.i .i64 0,.i .i64 0,.i .i64 0,.nils,.nils,.i .i64 0],false⟩),
 (98,⟨.struct [(9,0),(3,1),(24,2),(3,3),(3,4),(3,5),(96,6),(81,7),(3,8)],9,128,[.s [],.i .i64 0,.nils,.i .i64 0,.i .i64 0,.i .i64 0,.nils,.nils,.i .i64 0],false⟩),
 (112,⟨.struct [(22,0),(3,1),(3,2)],3,40,[.nils,.i .i64 0,.i .i64 0],false⟩),
 (113,⟨.struct [(22,0),(3,1),(3,2)],3,40,[.nils,.i .i64 0,.i .i64 0],false⟩),
 (116,⟨.struct [(9,0),(4,1)],2,24,[.s [],.b false],true⟩),
 (117,⟨.struct [(9,0),(4,1)],2,24,[.s [],.b false],true⟩),
 (118,⟨.slice 117,1,24,[.nils],false⟩),
 (136,⟨.struct [(89,0),(34,4)],9,176,[.nils,.nils,.nils,.nils,.s [],.i .i64 0,.nils,.nils,.i .i64 0],false⟩),
 (137,⟨.struct [(89,0),(34,4)],9,176,[.nils,.nils,.nils,.nils,.s [],.i .i64 0,.nils,.nils,.i .i64 0],false⟩),
 (143,⟨.struct [(3,0),(3,1),(9,2)],3,32,[.i .i64 0,.i .i64 0,.s []],true⟩),
 (144,⟨.struct [(3,0),(3,1),(9,2)],3,32,[.i .i64 0,.i .i64 0,.s []],true⟩),
 (150,⟨.slice 9,1,24,[.nils],false⟩),
 (159,⟨.struct [(3,0),(3,1),(31,2)],3,40,[.i .i64 0,.i .i64 0,.nils],false⟩),
 (160,⟨.struct [(3,0),(3,1),(31,2)],3,40,[.i .i64 0,.i .i64 0,.nils],false⟩),
 (177,⟨.struct [(3,0),(3,1),(31,2)],3,40,[.i .i64 0,.i .i64 0,.nils],false⟩),
 (192,⟨.struct [(9,0),(9,1)],2,32,[.s [],.s []],true⟩),
 (193,⟨.struct [(9,0),(9,1)],2,32,[.s [],.s []],true⟩),
 (210,⟨.struct [(9,0),(3,1),(118,2),(9,3),(3,4)],5,72,[.s [],.i .i64 0,.nils,.s [],.i .i64 0],false⟩),
 (211,⟨.struct [(9,0),(3,1),(118,2),(9,3),(3,4)],5,72,[.s [],.i .i64 0,.nils,.s [],.i .i64 0],false⟩),
 (220,⟨.struct [(4,0),(9,1),(9,2),(3,3),(3,4)],5,56,[.b false,.s [],.s [],.i .i64 0,.i .i64 0],true⟩),
 (221,⟨.struct [(4,0),(9,1),(9,2),(3,3),(3,4)],5,56,[.b false,.s [],.s [],.i .i64 0,.i .i64 0],true⟩),
 (235,⟨.map 3 3,1,8,[.u],false⟩),
 (238,⟨.struct [(5,0),(5,1)],2,2,[.i .u8 0,.i .u8 0],true⟩),
 (239,⟨.struct [(5,0),(5,1)],2,2,[.i .u8 0,.i .u8 0],true⟩),
 (269,⟨.struct [(9,0),(4,1)],2,24,[.s [],.b false],true⟩),
 (270,⟨.struct [(9,0),(4,1)],2,24,[.s [],.b false],true⟩),
 (284,⟨.int .u8,1,1,[.i .u8 0],false⟩),
 (285,⟨.int .u8,1,1,[.i .u8 0],false⟩),
 (287,⟨.int .i32,1,4,[.i .i32 0],false⟩),
 (288,⟨.int .i32,1,4,[.i .i32 0],false⟩)]
def te:TE:=teOf tes
theorem zem:Tryz.prog.follows .mixedOrders=true:=by kernel_rfl
theorem te_ok:vh Tryz.prog te:=zy2 (by kernel_rfl)
theorem te_2:te 2=some ⟨.int .i64,1,8,[.i .i64 0],false⟩:=id rfl
theorem te_3:te 3=some ⟨.int .i64,1,8,[.i .i64 0],false⟩:=id rfl
theorem te_4:te 4=some ⟨.bool,1,1,[.b false],false⟩:=id rfl
theorem te_5:te 5=some ⟨.int .u8,1,1,[.i .u8 0],false⟩:=id rfl
theorem te_6:te 6=some ⟨.int .u8,1,1,[.i .u8 0],false⟩:=id rfl
theorem te_7:te 7=some ⟨.struct [(2,0),(3,1),(4,2),(6,3)],4,24,[.i .i64 0,.i .i64 0,.b false,.i .u8 0],true⟩:=id rfl
theorem te_8:te 8=some ⟨.struct [(2,0),(3,1),(4,2),(6,3)],4,24,[.i .i64 0,.i .i64 0,.b false,.i .u8 0],true⟩:=id rfl
theorem te_9:te 9=some ⟨.str,1,16,[.s []],false⟩:=id rfl
theorem te_10:te 10=some ⟨.str,1,16,[.s []],false⟩:=id rfl
theorem te_11:te 11=some ⟨.str,1,16,[.s []],false⟩:=id rfl
theorem te_21:te 21=some ⟨.int .i32,1,4,[.i .i32 0],false⟩:=id rfl
theorem te_22:te 22=some ⟨.slice 5,1,24,[.nils],false⟩:=id rfl
theorem te_24:te 24=some ⟨.slice 28,1,24,[.nils],false⟩:=id rfl
theorem te_27:te 27=some ⟨.struct [(3,0),(3,1),(4,2),(9,3),(9,4),(9,5),(3,6),(3,7)],8,88,[.i .i64 0,.i .i64 0,.b false,.s [],.s [],.s [],.i .i64 0,.i .i64 0],true⟩:=id rfl
theorem te_28:te 28=some ⟨.struct [(3,0),(3,1),(4,2),(9,3),(9,4),(9,5),(3,6),(3,7)],8,88,[.i .i64 0,.i .i64 0,.b false,.s [],.s [],.s [],.i .i64 0,.i .i64 0],true⟩:=id rfl
theorem te_31:te 31=some ⟨.slice 3,1,24,[.nils],false⟩:=id rfl
theorem te_32:te 32=some ⟨.slice 160,1,24,[.nils],false⟩:=id rfl
theorem te_33:te 33=some ⟨.struct [(9,0),(3,1),(31,2),(32,3),(3,4)],5,80,[.s [],.i .i64 0,.nils,.nils,.i .i64 0],false⟩:=id rfl
theorem te_34:te 34=some ⟨.struct [(9,0),(3,1),(31,2),(32,3),(3,4)],5,80,[.s [],.i .i64 0,.nils,.nils,.i .i64 0],false⟩:=id rfl
theorem te_36:te 36=some ⟨.struct [(3,0),(28,1)],9,96,[.i .i64 0,.i .i64 0,.i .i64 0,.b false,.s [],.s [],.s [],.i .i64 0,.i .i64 0],true⟩:=id rfl
theorem te_37:te 37=some ⟨.struct [(3,0),(28,1)],9,96,[.i .i64 0,.i .i64 0,.i .i64 0,.b false,.s [],.s [],.s [],.i .i64 0,.i .i64 0],true⟩:=id rfl
theorem te_54:te 54=some ⟨.slice 177,1,24,[.nils],false⟩:=id rfl
theorem te_55:te 55=some ⟨.struct [(9,0),(3,1),(31,2),(54,3),(3,4)],5,80,[.s [],.i .i64 0,.nils,.nils,.i .i64 0],false⟩:=id rfl
theorem te_56:te 56=some ⟨.struct [(9,0),(3,1),(31,2),(54,3),(3,4)],5,80,[.s [],.i .i64 0,.nils,.nils,.i .i64 0],false⟩:=id rfl
theorem te_65:te 65=some ⟨.slice 144,1,24,[.nils],false⟩:=id rfl
theorem te_79:te 79=some ⟨.slice 4,1,24,[.nils],false⟩:=id rfl
theorem te_80:te 80=some ⟨.map 9 3,1,8,[.u],false⟩:=id rfl
theorem te_81:te 81=some ⟨.slice 193,1,24,[.nils],false⟩:=id rfl
theorem te_82:te 82=some ⟨.struct [(9,0),(3,1),(24,2),(79,3),(80,4),(81,5),(3,6),(3,7),(3,8),(4,9),(3,10)],11,144,[.s [],.i .i64 0,.nils,.nils,.u,.nils,.i .i64 0,.i .i64 0,.i .i64 0,.b false,.i .i64 0],false⟩:=id rfl
theorem te_83:te 83=some ⟨.struct [(9,0),(3,1),(24,2),(79,3),(80,4),(81,5),(3,6),(3,7),(3,8),(4,9),(3,10)],11,144,[.s [],.i .i64 0,.nils,.nils,.u,.nils,.i .i64 0,.i .i64 0,.i .i64 0,.b false,.i .i64 0],false⟩:=id rfl
theorem te_86:te 86=some ⟨.struct [(3,0),(31,1),(31,2)],3,56,[.i .i64 0,.nils,.nils],false⟩:=id rfl
theorem te_87:te 87=some ⟨.struct [(3,0),(31,1),(31,2)],3,56,[.i .i64 0,.nils,.nils],false⟩:=id rfl
theorem te_88:te 88=some ⟨.struct [(24,0),(31,1),(31,2),(31,3)],4,96,[.nils,.nils,.nils,.nils],false⟩:=id rfl
theorem te_89:te 89=some ⟨.struct [(24,0),(31,1),(31,2),(31,3)],4,96,[.nils,.nils,.nils,.nils],false⟩:=id rfl
theorem te_96:te 96=some ⟨.slice 270,1,24,[.nils],false⟩:=id rfl
theorem te_97:te 97=some ⟨.struct [(9,0),(3,1),(24,2),(3,3),(3,4),(3,5),(96,6),(81,7),(3,8)],9,128,[.s [],.i .i64 0,.nils,.i .i64 0,.i .i64 0,.i .i64 0,.nils,.nils,.i .i64 0],false⟩:=id rfl
theorem te_98:te 98=some ⟨.struct [(9,0),(3,1),(24,2),(3,3),(3,4),(3,5),(96,6),(81,7),(3,8)],9,128,[.s [],.i .i64 0,.nils,.i .i64 0,.i .i64 0,.i .i64 0,.nils,.nils,.i .i64 0],false⟩:=id rfl
theorem te_112:te 112=some ⟨.struct [(22,0),(3,1),(3,2)],3,40,[.nils,.i .i64 0,.i .i64 0],false⟩:=id rfl
theorem te_113:te 113=some ⟨.struct [(22,0),(3,1),(3,2)],3,40,[.nils,.i .i64 0,.i .i64 0],false⟩:=id rfl
theorem te_116:te 116=some ⟨.struct [(9,0),(4,1)],2,24,[.s [],.b false],true⟩:=id rfl
theorem te_117:te 117=some ⟨.struct [(9,0),(4,1)],2,24,[.s [],.b false],true⟩:=id rfl
theorem te_118:te 118=some ⟨.slice 117,1,24,[.nils],false⟩:=id rfl
theorem te_136:te 136=some ⟨.struct [(89,0),(34,4)],9,176,[.nils,.nils,.nils,.nils,.s [],.i .i64 0,.nils,.nils,.i .i64 0],false⟩:=id rfl
theorem te_137:te 137=some ⟨.struct [(89,0),(34,4)],9,176,[.nils,.nils,.nils,.nils,.s [],.i .i64 0,.nils,.nils,.i .i64 0],false⟩:=id rfl
theorem te_143:te 143=some ⟨.struct [(3,0),(3,1),(9,2)],3,32,[.i .i64 0,.i .i64 0,.s []],true⟩:=id rfl
theorem te_144:te 144=some ⟨.struct [(3,0),(3,1),(9,2)],3,32,[.i .i64 0,.i .i64 0,.s []],true⟩:=id rfl
theorem te_150:te 150=some ⟨.slice 9,1,24,[.nils],false⟩:=id rfl
theorem te_159:te 159=some ⟨.struct [(3,0),(3,1),(31,2)],3,40,[.i .i64 0,.i .i64 0,.nils],false⟩:=id rfl
theorem te_160:te 160=some ⟨.struct [(3,0),(3,1),(31,2)],3,40,[.i .i64 0,.i .i64 0,.nils],false⟩:=id rfl
theorem te_177:te 177=some ⟨.struct [(3,0),(3,1),(31,2)],3,40,[.i .i64 0,.i .i64 0,.nils],false⟩:=id rfl
theorem te_192:te 192=some ⟨.struct [(9,0),(9,1)],2,32,[.s [],.s []],true⟩:=id rfl
theorem te_193:te 193=some ⟨.struct [(9,0),(9,1)],2,32,[.s [],.s []],true⟩:=id rfl
theorem te_210:te 210=some ⟨.struct [(9,0),(3,1),(118,2),(9,3),(3,4)],5,72,[.s [],.i .i64 0,.nils,.s [],.i .i64 0],false⟩:=id rfl
theorem te_211:te 211=some ⟨.struct [(9,0),(3,1),(118,2),(9,3),(3,4)],5,72,[.s [],.i .i64 0,.nils,.s [],.i .i64 0],false⟩:=id rfl
theorem te_220:te 220=some ⟨.struct [(4,0),(9,1),(9,2),(3,3),(3,4)],5,56,[.b false,.s [],.s [],.i .i64 0,.i .i64 0],true⟩:=id rfl
theorem te_221:te 221=some ⟨.struct [(4,0),(9,1),(9,2),(3,3),(3,4)],5,56,[.b false,.s [],.s [],.i .i64 0,.i .i64 0],true⟩:=id rfl
theorem te_235:te 235=some ⟨.map 3 3,1,8,[.u],false⟩:=id rfl
theorem te_238:te 238=some ⟨.struct [(5,0),(5,1)],2,2,[.i .u8 0,.i .u8 0],true⟩:=id rfl
theorem te_239:te 239=some ⟨.struct [(5,0),(5,1)],2,2,[.i .u8 0,.i .u8 0],true⟩:=id rfl
theorem te_269:te 269=some ⟨.struct [(9,0),(4,1)],2,24,[.s [],.b false],true⟩:=id rfl
theorem te_270:te 270=some ⟨.struct [(9,0),(4,1)],2,24,[.s [],.b false],true⟩:=id rfl
theorem te_284:te 284=some ⟨.int .u8,1,1,[.i .u8 0],false⟩:=id rfl
theorem te_285:te 285=some ⟨.int .u8,1,1,[.i .u8 0],false⟩:=id rfl
theorem te_287:te 287=some ⟨.int .i32,1,4,[.i .i32 0],false⟩:=id rfl
theorem te_288:te 288=some ⟨.int .i32,1,4,[.i .i32 0],false⟩:=id rfl
theorem TES:type_of% (ai (ai (ai (ai (ai (ai (@te_2) (@te_3)) (ai (@te_4) (@te_5))) (ai (ai (@te_6) (@te_7)) (ai (@te_8) (@te_9)))) (ai (ai (ai (@te_10) (@te_11)) (ai (@te_21) (@te_22))) (ai (ai (@te_24) (@te_27)) (ai (@te_28) (@te_31))))) (ai (ai (ai (ai (@te_32) (@te_33)) (ai (@te_34) (@te_36))) (ai (ai (@te_37) (@te_54)) (ai (@te_55) (@te_56)))) (ai (ai (ai (@te_65) (@te_79)) (ai (@te_80) (@te_81))) (ai (ai (@te_82) (@te_83)) (ai (@te_86) (@te_87)))))) (ai (ai (ai (ai (ai (@te_88) (@te_89)) (ai (@te_96) (@te_97))) (ai (ai (@te_98) (@te_112)) (ai (@te_113) (@te_116)))) (ai (ai (ai (@te_117) (@te_118)) (ai (@te_136) (@te_137))) (ai (ai (@te_143) (@te_144)) (ai (@te_150) (@te_159))))) (ai (ai (ai (ai (@te_160) (@te_177)) (ai (@te_192) (@te_193))) (ai (ai (@te_210) (@te_211)) (ai (@te_220) (@te_221)))) (ai (ai (ai (@te_235) (@te_238)) (ai (@te_239) (@te_269))) (ai (ai (@te_270) (@te_284)) (ai (@te_285) (ai (@te_287) (@te_288)))))))):=ai (ai (ai (ai (ai (ai (@te_2) (@te_3)) (ai (@te_4) (@te_5))) (ai (ai (@te_6) (@te_7)) (ai (@te_8) (@te_9)))) (ai (ai (ai (@te_10) (@te_11)) (ai (@te_21) (@te_22))) (ai (ai (@te_24) (@te_27)) (ai (@te_28) (@te_31))))) (ai (ai (ai (ai (@te_32) (@te_33)) (ai (@te_34) (@te_36))) (ai (ai (@te_37) (@te_54)) (ai (@te_55) (@te_56)))) (ai (ai (ai (@te_65) (@te_79)) (ai (@te_80) (@te_81))) (ai (ai (@te_82) (@te_83)) (ai (@te_86) (@te_87)))))) (ai (ai (ai (ai (ai (@te_88) (@te_89)) (ai (@te_96) (@te_97))) (ai (ai (@te_98) (@te_112)) (ai (@te_113) (@te_116)))) (ai (ai (ai (@te_117) (@te_118)) (ai (@te_136) (@te_137))) (ai (ai (@te_143) (@te_144)) (ai (@te_150) (@te_159))))) (ai (ai (ai (ai (@te_160) (@te_177)) (ai (@te_192) (@te_193))) (ai (ai (@te_210) (@te_211)) (ai (@te_220) (@te_221)))) (ai (ai (ai (@te_235) (@te_238)) (ai (@te_239) (@te_269))) (ai (ai (@te_270) (@te_284)) (ai (@te_285) (ai (@te_287) (@te_288)))))))
end Go.TT
end
section
namespace Go.T
variable [Go.Vg.Glob]
open Go.Proofs Go.Vg Go.RowKit Go.TT
theorem HPx {l:List (FuncId×PE)} (hl:zdh Tryz.prog l) (nt:Nat) (kl:List (List Tmp)) {f:FuncId} {fn:Func} (hf:Tryz.prog.funcs[f]?=some fn) (rs:List ResultVar) (sp:Nat→Bool) (cut:List Nat) (W:DL)
  {args:List SV} {Z:SV} {c:Code}
  (h:vc (zfo Tryz.prog te l nt 0 false sp (kq kl) cut W) (fun st=>zrv (zfo Tryz.prog te l nt 0 false sp (kq kl) cut W).te st (fun z' c=>vz c z'∧zcj c z'=Z) rs []∧z6 (zfo Tryz.prog te l nt 0 false sp (kq kl) cut W).k st.ctx∧([]:Ctx).length≤st.ctx.length) 100000 [.code c] ⟨zaa 0 args,[]⟩)
  (hb:fn.body=some c:=by rfl) (hname:(fn.name == "runtime.NumGoroutine")=false:=by rfl) (hnt:fn.ntmps=nt:=by rfl) (hlen:args.length≤nt:=by simp) (hrs:fn.results.toList=rs:=by rfl) (h1:plainL args=true:=by rfl) (h2:Z.plain=true:=by rfl):PF Tryz.prog f args Z:=
 ⟨h1,h2,FnK.of (cf:=zfo Tryz.prog te l nt 0 false sp (kq kl) cut W) (zi5 te_ok hl zem) hf hb hname hnt hlen (Nat.le_refl _) hrs 100000 h⟩
theorem HP {l:List (FuncId×PE)} (hl:zdh Tryz.prog l) (nt:Nat) (kl:List (List Tmp)) {f:FuncId} {fn:Func} (hf:Tryz.prog.funcs[f]?=some fn) (rs:List ResultVar)
  {args:List SV} {Z:SV} {c:Code}
  (h:vc (zfo Tryz.prog te l nt 0 false (fun _=>false) (kq kl) [] []) (fun st=>zrv (zfo Tryz.prog te l nt 0 false (fun _=>false) (kq kl) [] []).te st (fun z' c=>vz c z'∧zcj c z'=Z) rs []∧z6 (zfo Tryz.prog te l nt 0 false (fun _=>false) (kq kl) [] []).k st.ctx∧([]:Ctx).length≤st.ctx.length) 100000 [.code c] ⟨zaa 0 args,[]⟩)
  (hb:fn.body=some c:=by rfl) (hname:(fn.name == "runtime.NumGoroutine")=false:=by rfl) (hnt:fn.ntmps=nt:=by rfl) (hlen:args.length≤nt:=by simp) (hrs:fn.results.toList=rs:=by rfl) (h1:plainL args=true:=by rfl) (h2:Z.plain=true:=by rfl):PF Tryz.prog f args Z:=
 HPx hl nt kl hf rs _ _ _ h hb hname hnt hlen hrs h1 h2
theorem HEx {l:List (FuncId×PE)} (hl:zdh Tryz.prog l) (nt:Nat) (kl:List (List Tmp)) {f:FuncId} {fn:Func} (hf:Tryz.prog.funcs[f]?=some fn) (rs:List ResultVar) (sp:Nat→Bool) (cut:List Nat) (W:DL)
  {k:Nat} {args:List SV} {pre:Ctx} {Z:SV} {C:Ctx} {c:Code}
  (h:vc (zfo Tryz.prog te l nt k false sp (kq kl) cut W) (FinE (zfo Tryz.prog te l nt k false sp (kq kl) cut W).te (zfo Tryz.prog te l nt k false sp (kq kl) cut W).k pre.length rs Z C) 100000 [.code c] ⟨zaa 0 args,pre⟩)
  (hb:fn.body=some c:=by rfl) (hname:(fn.name == "runtime.NumGoroutine")=false:=by rfl) (hnt:fn.ntmps=nt:=by rfl) (hlen:args.length≤nt:=by simp) (hk:k≤pre.length:=by simp [spC,rdC]) (hrs:fn.results.toList=rs:=by rfl):FnK Tryz.prog f k args pre fun z c=>z=Z∧c=C:=
 FnK.ofE (cf:=zfo Tryz.prog te l nt k false sp (kq kl) cut W) (zi5 te_ok hl zem) hf hb hname hnt hlen hk hrs 100000 h
theorem HE {l:List (FuncId×PE)} (hl:zdh Tryz.prog l) (nt:Nat) (kl:List (List Tmp)) {f:FuncId} {fn:Func} (hf:Tryz.prog.funcs[f]?=some fn) (rs:List ResultVar)
  {k:Nat} {args:List SV} {pre:Ctx} {Z:SV} {C:Ctx} {c:Code}
  (h:vc (zfo Tryz.prog te l nt k false (fun _=>false) (kq kl) [] []) (FinE (zfo Tryz.prog te l nt k false (fun _=>false) (kq kl) [] []).te (zfo Tryz.prog te l nt k false (fun _=>false) (kq kl) [] []).k pre.length rs Z C) 100000 [.code c] ⟨zaa 0 args,pre⟩)
  (hb:fn.body=some c:=by rfl) (hname:(fn.name == "runtime.NumGoroutine")=false:=by rfl) (hnt:fn.ntmps=nt:=by rfl) (hlen:args.length≤nt:=by simp) (hk:k≤pre.length:=by simp [spC,rdC]) (hrs:fn.results.toList=rs:=by rfl):FnK Tryz.prog f k args pre fun z c=>z=Z∧c=C:=
 HEx hl nt kl hf rs _ _ _ h hb hname hnt hlen hk hrs
theorem HQx {l:List (FuncId×PE)} (hl:zdh Tryz.prog l) (nt:Nat) (kl:List (List Tmp)) {f:FuncId} {fn:Func} (hf:Tryz.prog.funcs[f]?=some fn) (rs:List ResultVar) (sp:Nat→Bool) (cut:List Nat) (W:DL)
  {k:Nat} {args:List SV} {pre:Ctx} {Q:SV→Ctx→Prop} {c:Code}
  (h:vc (zfo Tryz.prog te l nt k false sp (kq kl) cut W) (FinQ (zfo Tryz.prog te l nt k false sp (kq kl) cut W).te (zfo Tryz.prog te l nt k false sp (kq kl) cut W).k pre.length rs Q) 100000 [.code c] ⟨zaa 0 args,pre⟩)
  (hb:fn.body=some c:=by rfl) (hname:(fn.name == "runtime.NumGoroutine")=false:=by rfl) (hnt:fn.ntmps=nt:=by rfl) (hlen:args.length≤nt:=by simp) (hk:k≤pre.length:=by simp [spC,rdC]) (hrs:fn.results.toList=rs:=by rfl):FnK Tryz.prog f k args pre Q:=
 FnK.ofQ (cf:=zfo Tryz.prog te l nt k false sp (kq kl) cut W) (zi5 te_ok hl zem) hf hb hname hnt hlen hk hrs 100000 h
/-- Entries of functions on a text and a place,on a text. -/
noncomputable def qsi (p:Pl.Bs→Int→Prop) (z:Pl.Bs→Int→SV):PE:=peR (fun x:Pl.Bs×Int=>[.s x.1,.i .i64 x.2]) (fun x=>p x.1 x.2) (fun x=>z x.1 x.2)
theorem y7 {p:Pl.Bs→Int→Prop} {z:Pl.Bs→Int→SV} {s:Pl.Bs} {i:Int}:qsi p z [.s s,.i .i64 i]=some (p s i,z s i):=yg (A:=fun x:Pl.Bs×Int=>[.s x.1,.i .i64 x.2]) (by rintro ⟨a0,a1⟩ ⟨b0,b1⟩ h;simp_all) (s,i)
theorem y6 {f:FuncId} {p:Pl.Bs→Int→Prop} {z:Pl.Bs→Int→SV} (h:∀ s i,p s i→PF Tryz.prog f [.s s,.i .i64 i] (z s i)):PE1 Tryz.prog f (qsi p z):=yo (by rintro ⟨s,i⟩ hp;exact h s i hp)
theorem CR {A B:Prop} (h:A→B) (hi:A:=by simp only [inR];omega):Chk A B:=Chk.mk hi h
theorem CO {A B:Prop} (h:A→B) (hi:A:=by omega):Chk A B:=Chk.mk hi h
open Go.Pl
theorem X2:type_of% (ai (ai TES XR) (ai (ai XRE XRH) (ai XRN Yh))):=ai (ai TES XR) (ai (ai XRE XRH) (ai XRN Yh))
abbrev qa (x:Sc):=Sc.q1 0 (.q1 1 (.q1 2 (.q1 4 (.q1 5 (.q1 6 x)))))
abbrev qg (x:Sc):=Sc.q1 9 (.q1 10 (.q1 11 (.q1 12 (.q1 13 (.q1 14 (.q1 15 x))))))
abbrev qf (x:Sc):=Sc.q1 0 (.q1 1 (.q1 2 (.q1 3 (.q1 5 (.q1 6 (.q1 7 x))))))
abbrev qh (x:Sc):=Sc.q1 9 (.q1 10 (.q1 11 (.q1 12 (.q1 13 x))))
abbrev qe (x:Sc):=Sc.q1 0 (.q1 1 (.q1 2 (.q1 3 x)))
abbrev qd (x:Sc):=Sc.q1 8 (.q1 9 x)
theorem Vm {P:Program} {f:FuncId} {args0:List SV} {pre:Ctx} {Z:SV} {C:Ctx} (hF:FnK P f 4 args0 pre fun z c=>z=Z∧c=C) {args:List SV} {kk:Nat} {st:St} {K:Sl (SV×St)}
  (hK:K.f (Z.mapH (muL [0,1,2,3] st.ctx.length),⟨st.env,jw (muL [0,1,2,3] st.ctx.length) [0,1,2,3] pre C st.ctx⟩))
  (hargs:jd (muL [0,1,2,3] st.ctx.length) args0=args:=by simp [Yf]) (hkl:pre.length=4:=by rfl)
  (hmap:ve (muL [0,1,2,3] st.ctx.length) st.ctx [0,1,2,3] pre:=by simp only [Ye];exact ⟨by omega,zb (by simp [Yf,Yh,onB]),by omega,za fun _=>rfl,by omega,za fun _=>rfl,by omega,za fun _=>rfl⟩):yp P f args kk st K:=
 yp.mut hF hkl [0,1,2,3] hargs hmap (by decide) hK
theorem Vb {P:Program} {f:FuncId} {k:Nat} {args0:List SV} {pre:Ctx} {Z:SV} {C:Ctx} (hF:FnK P f k args0 pre fun z c=>z=Z∧c=C) {args:List SV} {kk:Nat} {st:St} {K:Sl (SV×St)}
  (hK:K.f (Z.mapH (muL [0,1,2,3] st.ctx.length),⟨zbu ([0,1,2,3].drop k) st.env,jw (muL [0,1,2,3] st.ctx.length) [0,1,2,3] pre C st.ctx⟩))
  (hargs:jd (muL [0,1,2,3] st.ctx.length) args0=args:=by simp [Yf])
  (hmap:ve (muL [0,1,2,3] st.ctx.length) st.ctx [0,1,2,3] pre:=by simp only [Ye];exact ⟨by omega,zb (by simp [Yf,Yh,onB]),by omega,za fun _=>rfl,by omega,za fun _=>rfl,by omega,za fun _=>rfl⟩)
  (hrw:z6 k pre:=by simp [z6,SO.ro,YC]) (hfix:(([0,1,2,3]:List Nat).drop k).all (fun g=>decide (kk≤g))=true:=by decide)
  (hclean:jf (([0,1,2,3]:List Nat).drop k) (zdm [0,1,2,3] pre) 0 st.ctx:=by simp [jf,zdm,vf,zdk,noH,SO.ro,q7,YC]):yp P f args kk st K:=
 yp.reb hF [0,1,2,3] hargs hmap (by decide) hrw hfix hclean hK
theorem Vq {P:Program} {f:FuncId} {k:Nat} {args0:List SV} {pre:Ctx} {Q:SV→Ctx→Prop} (hF:FnK P f k args0 pre Q) {args:List SV} {kk:Nat} {st:St} {K:Sl (SV×St)}
  (hK:∀ z c,Q z c→K.f (z.mapH (muL [0,1,2,3] st.ctx.length),⟨zbu ([0,1,2,3].drop k) st.env,jw (muL [0,1,2,3] st.ctx.length) [0,1,2,3] pre c st.ctx⟩))
  (hargs:jd (muL [0,1,2,3] st.ctx.length) args0=args:=by simp [Yf])
  (hmap:ve (muL [0,1,2,3] st.ctx.length) st.ctx [0,1,2,3] pre:=by simp only [Ye];exact ⟨by omega,zb (by simp [Yf,Yh,onB]),by omega,za fun _=>rfl,by omega,za fun _=>rfl,by omega,za fun _=>rfl⟩)
  (hrw:z6 k pre:=by simp [z6,SO.ro,YC]) (hfix:(([0,1,2,3]:List Nat).drop k).all (fun g=>decide (kk≤g))=true:=by decide)
  (hclean:jf (([0,1,2,3]:List Nat).drop k) (zdm [0,1,2,3] pre) 0 st.ctx:=by simp [jf,zdm,vf,zdk,noH,SO.ro,q7,YC]):yp P f args kk st K:=
 yp.rebQ hF [0,1,2,3] hargs hmap (by decide) hrw hfix hclean hK
theorem Vf {A B C D E:List Nat→Prop} (c:C [0,1,2,3]:=by simp only [↓XC,X1,seval];try first | rfl | simp [Yf,onB]) (a:A [0,1,2,3]:=by decide)
  (b:B [0,1,2,3]:=by simp only [Yd];exact ⟨zb (by first | (simp [Yf,Yh,onB];done) | simp [Yf,Yh,onB,evT]),za fun _=>rfl,za fun _=>rfl,za fun _=>rfl⟩)
  (d:D [0,1,2,3]:=by simp [z6,SO.ro,YC]) (e:E [0,1,2,3]:=by simp [YC]):∃ l,A l∧B l∧C l∧D l∧E l:=⟨_,a,b,c,d,e⟩
end Go.T
end
section
namespace Go.T
variable [Go.Vg.Glob]
open Go.Proofs Go.Vg Go.RowKit Go.TT Go.Pl
set_option maxRecDepth 10000
set_option maxHeartbeats 4000000
noncomputable def pe_ixb:PE:=pe_ix
theorem z0f:PE1 Tryz.prog 264 pe_ixb:=pe_ix_ok (ext_idx Tryz.func264 rfl rfl (by kernel_rfl) (by kernel_rfl))
theorem z0g {s:List UInt8} {c:Int}:pe_ixb [.s s,.i .u8 c]=some (True,.i .i64 (Pl.idx s (UInt8.ofNat c.toNat))):=pe_ix_eq
theorem ixl (s:List UInt8) (c:Int):PF Tryz.prog 230 [.s s,.i .u8 c] (.i .i64 (Pl.idx s (UInt8.ofNat c.toNat))):=by refine HP z0f.d 8 [[0,1],[4]] Tryz.func230 [.tmp 4] ?_;simp only [↓XC,X1,seval,TES,z0g]
noncomputable def pe_ixl:PE:=peR (fun (x:List UInt8×Int)=>match x with | (s,c)=>[.s s,.i .u8 c]) (fun (x:List UInt8×Int)=>match x with | (s,c)=>True) (fun (x:List UInt8×Int)=>match x with | (s,c)=>.i .i64 (Pl.idx s (UInt8.ofNat c.toNat)))
theorem z0e {s:List UInt8} {c:Int}:pe_ixl [.s s,.i .u8 c]=some (True,.i .i64 (Pl.idx s (UInt8.ofNat c.toNat))):=yg (by rintro ⟨a0,a1⟩ ⟨b0,b1⟩ h;simp_all []) (s,c)
theorem z0d:PE1 Tryz.prog 230 pe_ixl:=yo (by rintro ⟨s,c⟩ hp;exact ixl s c)
theorem ixs (s:List UInt8) (c:Int):PF Tryz.prog 182 [.s s,.i .u8 c] (.i .i64 (Pl.idx s (UInt8.ofNat c.toNat))):=by refine HP z0d.d 8 [[0,1],[4]] Tryz.func182 [.tmp 4] ?_;simp only [↓XC,X1,seval,TES,z0e]
noncomputable def pe_ixs:PE:=peR (fun (x:List UInt8×Int)=>match x with | (s,c)=>[.s s,.i .u8 c]) (fun (x:List UInt8×Int)=>match x with | (s,c)=>True) (fun (x:List UInt8×Int)=>match x with | (s,c)=>.i .i64 (Pl.idx s (UInt8.ofNat c.toNat)))
theorem zh8 {s:List UInt8} {c:Int}:pe_ixs [.s s,.i .u8 c]=some (True,.i .i64 (Pl.idx s (UInt8.ofNat c.toNat))):=yg (by rintro ⟨a0,a1⟩ ⟨b0,b1⟩ h;simp_all []) (s,c)
theorem zh7:PE1 Tryz.prog 182 pe_ixs:=yo (by rintro ⟨s,c⟩ hp;exact ixs s c)
theorem zt2 (x lo hi:Int):PF Tryz.prog 147 [.i .i64 x,.i .i64 lo,.i .i64 hi] (.b (decide (lo≤x)&&decide (x≤hi))):=by refine HP pn 15 [[0,1,2],[6]] Tryz.func147 [.tmp 6] ?_;simp only [↓XC,X1,seval,TES]
noncomputable def zpo:PE:=peR (fun (x:Int×Int×Int)=>match x with | (x,lo,hi)=>[.i .i64 x,.i .i64 lo,.i .i64 hi]) (fun (x:Int×Int×Int)=>match x with | (x,lo,hi)=>True) (fun (x:Int×Int×Int)=>match x with | (x,lo,hi)=>.b (decide (lo≤x)&&decide (x≤hi)))
theorem ks {x lo hi:Int}:zpo [.i .i64 x,.i .i64 lo,.i .i64 hi]=some (True,.b (decide (lo≤x)&&decide (x≤hi))):=yg (by rintro ⟨a0,a1,a2⟩ ⟨b0,b1,b2⟩ h;simp_all []) (x,lo,hi)
theorem va:PE1 Tryz.prog 147 zpo:=yo (by rintro ⟨x,lo,hi⟩ hp;exact zt2 x lo hi)
theorem spot_i (s:Bs) (p:Int):PF Tryz.prog 100 [.s s,.i .i64 p] (.i .i64 (spot s p:Nat)):=by
 refine HP pn 10 [[0,1],[4]] Tryz.func100 [.tmp 4] ?_;simp only [↓XC,X1,seval,TES];simp only [SV.i.injEq,true_and];unfold spot
 repeat' split
 all_goals omega
noncomputable def zdw:PE:=peR (fun (x:Bs×Int)=>match x with | (s,p)=>[.s s,.i .i64 p]) (fun (x:Bs×Int)=>match x with | (s,p)=>True) (fun (x:Bs×Int)=>match x with | (s,p)=>.i .i64 (spot s p:Nat))
theorem ye {s:Bs} {p:Int}:zdw [.s s,.i .i64 p]=some (True,.i .i64 (spot s p:Nat)):=yg (by rintro ⟨a0,a1⟩ ⟨b0,b1⟩ h;simp_all []) (s,p)
theorem yd:PE1 Tryz.prog 100 zdw:=yo (by rintro ⟨s,p⟩ hp;exact spot_i s p)
theorem byteAt (s:Bs) (p:Int) (hp:s.length≤1048576):PF Tryz.prog 107 [.s s,.i .i64 p] (.i .i64 (byt s (spot s p))):=by refine HP yd.d 16 [[0,1],[0,1],[0,1,11],[4],[4]] Tryz.func107 [.tmp 4] ?_;simp only [↓XC,X1,seval,TES,ye];have h1:=yh s p;have h2:=(s.getD (spot s p) 0).toNat_lt;exact ⟨fun h=>by rw [qk (by omega)],fun h=>CO fun _=>CR fun _=>by rw [zw (by omega)]⟩
noncomputable def zp0:=qsi (fun s p=>s.length≤1048576) fun s p=>.i .i64 (byt s (spot s p))
theorem zc {s} {p}:zp0 [.s s,.i .i64 p]=some (s.length≤1048576,.i .i64 (byt s (spot s p))):=y7
theorem zt:PE1 Tryz.prog 107 zp0:=y6 byteAt
theorem isWhite (b:Int):PF Tryz.prog 185 [.i .i64 b] (.b (b==32||b==9)):=by refine HP pn 9 [[0],[2]] Tryz.func185 [.tmp 2] ?_;simp only [↓XC,X1,seval,TES];rfl
noncomputable def zlk:PE:=peR (fun (b:Int)=>[.i .i64 b]) (fun (b:Int)=>True) (fun (b:Int)=>.b (b==32||b==9))
theorem zy {b:Int}:zlk [.i .i64 b]=some (True,.b (b==32||b==9)):=yg (by rintro a b h;simp_all []) b
theorem ja:PE1 Tryz.prog 185 zlk:=yo (by rintro b hp;exact isWhite b)
theorem isBreak (b:Int):PF Tryz.prog 184 [.i .i64 b] (.b (b==10||decide (b<0))):=by refine HP pn 9 [[0],[2]] Tryz.func184 [.tmp 2] ?_;simp only [↓XC,X1,seval,TES];rfl
noncomputable def zln:PE:=peR (fun (b:Int)=>[.i .i64 b]) (fun (b:Int)=>True) (fun (b:Int)=>.b (b==10||decide (b<0)))
theorem vk {b:Int}:zln [.i .i64 b]=some (True,.b (b==10||decide (b<0))):=yg (by rintro a b h;simp_all []) b
theorem xr:PE1 Tryz.prog 184 zln:=yo (by rintro b hp;exact isBreak b)
theorem gapAt (s:Bs) (p:Int) (hp:s.length≤1048576∧0≤p):PF Tryz.prog 108 [.s s,.i .i64 p] (.b (gap s p.toNat)):=by refine HP (zt.c (ja.c xr.d)) 15 [[0,1],[5],[4]] Tryz.func108 [.tmp 4] ?_;simp only [↓XC,X1,seval,TES,zc,zy,vk];exact Chk.mk hp.1 fun _=>by simp only [gap,isW,isB,vo hp.2]
noncomputable def zu3:=qsi (fun s p=>s.length≤1048576∧0≤p) fun s p=>.b (gap s p.toNat)
theorem zr {s} {p}:zu3 [.s s,.i .i64 p]=some (s.length≤1048576∧0≤p,.b (gap s p.toNat)):=y7
theorem kh:PE1 Tryz.prog 108 zu3:=y6 gapAt
theorem White_i (s:Bs) (p:Int) (hp:s.length≤1048576):PF Tryz.prog 106 [.s s,.i .i64 p] (.i .i64 (wh s (spot s p):Nat)):=by
 refine HP (yd.c (zt.c ja.d)) 15 [[0,1],[0,1],[0,1,11],[0,1],[4]] Tryz.func106 [.tmp 4] ?_;simp only [↓XC,X1,seval,TES,ye,zc,zy];refine zl.of (ι:={q:Nat // q≤s.length∧wh s q=wh s (spot s p)}) (fun x=>⟨[(0,.s s),(1,.i .i64 (x.1:Nat))],[]⟩) (fun x=>s.length-x.1) ⟨spot s p,yh s p,rfl⟩ (Ent.refl _ _) ?_;rintro ⟨q,hq,hw⟩;simp only [↓XC,X1,seval,TES,zy,zc];refine Chk.mk hp fun _=>⟨fun h=>CR fun _=>?_,fun h=>?_⟩
 ·rw [zg s hq] at h;have hl:=zqu h;exact ⟨⟨q+1,by omega,by rw [←wh_t h];exact hw⟩,by simp only;omega,(by first | exact Ent.refl _ _ | (simp only [Int.natCast_add,Int.natCast_one];exact Ent.refl _ _))⟩
 ·rw [zg s hq] at h;rw [←hw,wh_f h]
noncomputable def zlr:=qsi (fun s p=>s.length≤1048576) fun s p=>.i .i64 (wh s (spot s p):Nat)
theorem zz {s} {p}:zlr [.s s,.i .i64 p]=some (s.length≤1048576,.i .i64 (wh s (spot s p):Nat)):=y7
theorem qv:PE1 Tryz.prog 106 zlr:=y6 White_i
theorem EndAt_i (s:Bs) (p:Int) (hp:s.length≤1048576):PF Tryz.prog 187 [.s s,.i .i64 p] (.i .i64 (en s (spot s p):Nat)):=by
 refine HP (yd.c zh7.d) 20 [[0,1],[0,1],[0,1,5],[0,1,5,14],[4],[4]] Tryz.func187 [.tmp 4] ?_;simp only [↓XC,X1,reduceIte,Nat.reduceAdd,Nat.reduceLT,Nat.reduceEqDiff,Nat.reduceBEq,Nat.reduceLeDiff,reduceCtorEq,Nat.reduceSub,Nat.reduceMul,Int.reduceToNat,Int.reduceLT,Int.reduceLE,TES,ye,zh8];have h1:=yh s p;have h2:=idx_en s (spot s p) h1;have h3:=uo s _ h1;refine CO fun _=>⟨fun h=>?_,fun h=>?_⟩
 ·rw [show UInt8.ofNat 10=10 from rfl] at h;rw [if_pos h] at h2;rw [h2]
 ·rw [show UInt8.ofNat 10=10 from rfl] at h ⊢;rw [if_neg h] at h2;rw [h2];exact CR fun _=>rfl
noncomputable def zly:=qsi (fun s p=>s.length≤1048576) fun s p=>.i .i64 (en s (spot s p):Nat)
theorem qn {s} {p}:zly [.s s,.i .i64 p]=some (s.length≤1048576,.i .i64 (en s (spot s p):Nat)):=y7
theorem jt:PE1 Tryz.prog 187 zly:=y6 EndAt_i
theorem spot_s (s:Bs) (p:Int):PF Tryz.prog 162 [.s s,.i .i64 p] (.i .i64 (spot s p:Nat)):=by
 refine HP pn 14 [[0,1],[0,1,6],[4],[0,1,10],[4],[4]] Tryz.func162 [.tmp 4] ?_;simp only [↓XC,X1,seval,TES]
 repeat' (first | refine Chk.mk ?_ fun _=>?_ | refine And.intro ?_ ?_ | intro _)
 all_goals (simp only [SV.i.injEq,true_and];unfold spot;omega)
noncomputable def zpp:PE:=peR (fun (x:Bs×Int)=>match x with | (s,p)=>[.s s,.i .i64 p]) (fun (x:Bs×Int)=>match x with | (s,p)=>True) (fun (x:Bs×Int)=>match x with | (s,p)=>.i .i64 (spot s p:Nat))
theorem yn {s:Bs} {p:Int}:zpp [.s s,.i .i64 p]=some (True,.i .i64 (spot s p:Nat)):=yg (by rintro ⟨a0,a1⟩ ⟨b0,b1⟩ h;simp_all []) (s,p)
theorem yl:PE1 Tryz.prog 162 zpp:=yo (by rintro ⟨s,p⟩ hp;exact spot_s s p)
theorem White1_s (s:Bs) (p:Int) (hp:s.length≤1048576∧0≤p):PF Tryz.prog 165 [.s s,.i .i64 p] (.b (isW s p.toNat)):=by
 refine HP pn 21 [[0,1],[4]] Tryz.func165 [.tmp 4] ?_;simp only [↓XC,X1,seval,TES];have h0:byt s p.toNat=if p<s.length then ((s.getD p.toNat 0).toNat:Int) else -1:=by
  split
  ·exact zw (by omega)
  ·exact qk (by omega)
 refine Chk.mk (fun h=>⟨hp.2,h⟩) fun _=>Chk.mk (fun h=>?_) fun _=>?_
 ·simp at h;exact ⟨hp.2,h.1⟩
 ·simp only [isW,h0,SV.b.injEq];split
  ·rename_i h;simp only [h,decide_true,Bool.true_and];rfl
  ·rename_i h;simp [h]
noncomputable def zic:=qsi (fun s p=>s.length≤1048576∧0≤p) fun s p=>.b (isW s p.toNat)
theorem ql {s} {p}:zic [.s s,.i .i64 p]=some (s.length≤1048576∧0≤p,.b (isW s p.toNat)):=y7
theorem j0:PE1 Tryz.prog 165 zic:=y6 White1_s
theorem Break_s (s:Bs) (p:Int) (hp:s.length≤1048576∧0≤p):PF Tryz.prog 223 [.s s,.i .i64 p] (.b (isB s p.toNat)):=by
 refine HP pn 15 [[0,1],[4]] Tryz.func223 [.tmp 4] ?_;simp only [↓XC,X1,seval,TES];have h0:byt s p.toNat=if p<s.length then ((s.getD p.toNat 0).toNat:Int) else -1:=by
  split
  ·exact zw (by omega)
  ·exact qk (by omega)
 refine Chk.mk (fun h=>⟨hp.2,by simpa using h⟩) fun _=>?_;simp only [isB,h0,SV.b.injEq];split
 ·rename_i h;have h1:¬p≥s.length:=by omega
  have h2:¬((s.getD p.toNat 0).toNat:Int)<0:=by omega
  simp only [h1,h2,decide_false,Bool.false_or,Bool.or_false];rfl
 ·rename_i h;have h1:p≥s.length:=by omega
  simp [h1]
noncomputable def zl2:=qsi (fun s p=>s.length≤1048576∧0≤p) fun s p=>.b (isB s p.toNat)
theorem vm {s} {p}:zl2 [.s s,.i .i64 p]=some (s.length≤1048576∧0≤p,.b (isB s p.toNat)):=y7
theorem xx:PE1 Tryz.prog 223 zl2:=y6 Break_s
theorem Gap_s (s:Bs) (p:Int) (hp:s.length≤1048576∧0≤p):PF Tryz.prog 167 [.s s,.i .i64 p] (.b (gap s p.toNat)):=by refine HP (j0.c xx.d) 13 [[0,1],[4]] Tryz.func167 [.tmp 4] ?_;simp only [↓XC,X1,seval,TES,ql,vm];exact Chk.mk hp fun _=>Chk.mk (fun h=>⟨⟨h,h⟩,hp⟩) fun _=>rfl
noncomputable def zu5:=qsi (fun s p=>s.length≤1048576∧0≤p) fun s p=>.b (gap s p.toNat)
theorem z8 {s} {p}:zu5 [.s s,.i .i64 p]=some (s.length≤1048576∧0≤p,.b (gap s p.toNat)):=y7
theorem km:PE1 Tryz.prog 167 zu5:=y6 Gap_s
theorem White_s (s:Bs) (p:Int) (hp:s.length≤1048576):PF Tryz.prog 163 [.s s,.i .i64 p] (.i .i64 (wh s (spot s p):Nat)):=by
 refine HP (yl.c j0.d) 14 [[0,1],[0,1],[0,1,10],[0,1],[4]] Tryz.func163 [.tmp 4] ?_;simp only [↓XC,X1,seval,TES,yn,ql];refine zl.of (ι:={q:Nat // q≤s.length∧wh s q=wh s (spot s p)}) (fun x=>⟨[(0,.s s),(1,.i .i64 (x.1:Nat))],[]⟩) (fun x=>s.length-x.1) ⟨spot s p,yh s p,rfl⟩ (Ent.refl _ _) ?_;rintro ⟨q,hq,hw⟩;simp only [↓XC,X1,seval,TES,ql];refine Chk.mk ⟨hp,by omega⟩ fun _=>⟨fun h=>CR fun _=>?_,fun h=>?_⟩
 ·have hl:=zqu h;exact ⟨⟨q+1,by omega,by rw [←wh_t h];exact hw⟩,by simp only;omega,(by first | exact Ent.refl _ _ | (simp only [Int.natCast_add,Int.natCast_one];exact Ent.refl _ _))⟩
 ·rw [←hw,wh_f h]
noncomputable def zlq:=qsi (fun s p=>s.length≤1048576) fun s p=>.i .i64 (wh s (spot s p):Nat)
theorem zj {s} {p}:zlq [.s s,.i .i64 p]=some (s.length≤1048576,.i .i64 (wh s (spot s p):Nat)):=y7
theorem qi:PE1 Tryz.prog 163 zlq:=y6 White_s
theorem EndAt_s (s:Bs) (p:Int) (hp:s.length≤1048576):PF Tryz.prog 166 [.s s,.i .i64 p] (.i .i64 (en s (spot s p):Nat)):=by
 refine HP yl.d 21 [[0,1],[0,1],[0,1,17],[0,1],[4]] Tryz.func166 [.tmp 4] ?_;simp only [↓XC,X1,seval,TES,yn];refine zl.of (ι:={q:Nat // q≤s.length∧en s q=en s (spot s p)}) (fun x=>⟨[(0,.s s),(1,.i .i64 (x.1:Nat))],[]⟩) (fun x=>s.length-x.1) ⟨spot s p,yh s p,rfl⟩ (Ent.refl _ _) ?_;rintro ⟨q,hq,hw⟩;simp only [↓XC,X1,seval,TES];have h0:isB s q=(decide ((s.length:Int)≤q)||decide ((((s.getD q 0).toNat:Int))=10)):=by
  rcases Nat.lt_or_ge q s.length with h | h
  ·have h2:¬((s.getD q 0).toNat:Int)<0:=by omega
   have h3:¬(s.length:Int)≤q:=by omega
   simp only [isB,zw h,h2,h3,decide_false,Bool.or_false,Bool.false_or];rfl
  ·have h3:(s.length:Int)≤q:=by omega
   simp [isB,qk h,h3]
 refine CO fun _=>⟨fun h=>CR fun _=>?_,fun h=>?_⟩
 ·have hb:isB s q=false:=by rw [h0];simp at h ⊢;omega
  have hl:=vw hb;exact ⟨⟨q+1,by omega,by rw [←en_t hb];exact hw⟩,by simp only;omega,(by first | exact Ent.refl _ _ | (simp only [Int.natCast_add,Int.natCast_one];exact Ent.refl _ _))⟩
 ·have hb:isB s q=true:=by rw [h0];simp at h ⊢;omega
  rw [←hw,en_f hb]
noncomputable def zlx:=qsi (fun s p=>s.length≤1048576) fun s p=>.i .i64 (en s (spot s p):Nat)
theorem yw {s} {p}:zlx [.s s,.i .i64 p]=some (s.length≤1048576,.i .i64 (en s (spot s p):Nat)):=y7
theorem kc:PE1 Tryz.prog 166 zlx:=y6 EndAt_s
theorem isFlow (b:Int):PF Tryz.prog 183 [.i .i64 b] (.b (flw b)):=by refine HP pn 21 [[0],[2]] Tryz.func183 [.tmp 2] ?_;simp only [↓XC,X1,seval,TES];rfl
noncomputable def zpy:PE:=peR (fun (b:Int)=>[.i .i64 b]) (fun (b:Int)=>True) (fun (b:Int)=>.b (flw b))
theorem z7 {b:Int}:zpy [.i .i64 b]=some (True,.b (flw b)):=yg (by rintro a b h;simp_all []) b
theorem xb:PE1 Tryz.prog 183 zpy:=yo (by rintro b hp;exact isFlow b)
theorem Flow_s (b:Int):PF Tryz.prog 288 [.i .u8 b] (.b (flw b)):=by refine HP pn 21 [[0],[2]] Tryz.func288 [.tmp 2] ?_;simp only [↓XC,X1,seval,TES];rfl
noncomputable def zp9:PE:=peR (fun (b:Int)=>[.i .u8 b]) (fun (b:Int)=>True) (fun (b:Int)=>.b (flw b))
theorem yv {b:Int}:zp9 [.i .u8 b]=some (True,.b (flw b)):=yg (by rintro a b h;simp_all []) b
theorem xc:PE1 Tryz.prog 288 zp9:=yo (by rintro b hp;exact Flow_s b)
theorem eqEvent (k st:Int) (fl:Bool) (x a g:Bs) (p c:Int) (k' st':Int) (fl':Bool) (x' a' g':Bs) (p' c':Int):PF Tryz.prog 115 [.agg [.i .i64 k,.i .i64 st,.b fl,.s x,.s a,.s g,.i .i64 p,.i .i64 c],.agg [.i .i64 k',.i .i64 st',.b fl',.s x',.s a',.s g',.i .i64 p',.i .i64 c']] (.b (decide (⟨k,st,fl,x,a,g,p,c⟩=(⟨k',st',fl',x',a',g',p',c'⟩:Ev)))):=by
 refine HP pn 45 [[2,3],[2,3,9],[4],[2,3,14],[4],[2,3,19],[4],[2,3,24],[4],[2,3,29],[4],[2,3,34],[4],[2,3,39],[4],[44],[4],[4]] Tryz.func115 [.tmp 4] ?_;simp only [↓XC,X1,seval,TES]
 repeat' (first | with_reducible refine Chk.mk ?_ fun _=>?_ | with_reducible refine And.intro ?_ ?_ | intro _)
 all_goals simp_all
noncomputable def zlo:PE:=peR (fun (x:Int×Int×Bool×Bs×Bs×Bs×Int×Int×Int×Int×Bool×Bs×Bs×Bs×Int×Int)=>match x with | (k,st,fl,x,a,g,p,c,k',st',fl',x',a',g',p',c')=>[.agg [.i .i64 k,.i .i64 st,.b fl,.s x,.s a,.s g,.i .i64 p,.i .i64 c],.agg [.i .i64 k',.i .i64 st',.b fl',.s x',.s a',.s g',.i .i64 p',.i .i64 c']]) (fun (x:Int×Int×Bool×Bs×Bs×Bs×Int×Int×Int×Int×Bool×Bs×Bs×Bs×Int×Int)=>match x with | (k,st,fl,x,a,g,p,c,k',st',fl',x',a',g',p',c')=>True) (fun (x:Int×Int×Bool×Bs×Bs×Bs×Int×Int×Int×Int×Bool×Bs×Bs×Bs×Int×Int)=>match x with | (k,st,fl,x,a,g,p,c,k',st',fl',x',a',g',p',c')=>.b (decide (⟨k,st,fl,x,a,g,p,c⟩=(⟨k',st',fl',x',a',g',p',c'⟩:Ev))))
theorem zd0 {k st:Int} {fl:Bool} {x a g:Bs} {p c:Int} {k' st':Int} {fl':Bool} {x' a' g':Bs} {p' c':Int}:zlo [.agg [.i .i64 k,.i .i64 st,.b fl,.s x,.s a,.s g,.i .i64 p,.i .i64 c],.agg [.i .i64 k',.i .i64 st',.b fl',.s x',.s a',.s g',.i .i64 p',.i .i64 c']]=some (True,.b (decide (⟨k,st,fl,x,a,g,p,c⟩=(⟨k',st',fl',x',a',g',p',c'⟩:Ev)))):=yg (by rintro ⟨a0,a1,a2,a3,a4,a5,a6,a7,a8,a9,a10,a11,a12,a13,a14,a15⟩ ⟨b0,b1,b2,b3,b4,b5,b6,b7,b8,b9,b10,b11,b12,b13,b14,b15⟩ h;simp_all []) (k,st,fl,x,a,g,p,c,k',st',fl',x',a',g',p',c')
theorem zns:PE1 Tryz.prog 115 zlo:=yo (by rintro ⟨k,st,fl,x,a,g,p,c,k',st',fl',x',a',g',p',c'⟩ hp;exact eqEvent k st fl x a g p c k' st' fl' x' a' g' p' c')
theorem eqEventS (a b:List Ev) (hp:a.length≤16777216):PF Tryz.prog 40 [.fs 8 (a.map evc),.fs 8 (b.map evc)] (.b (decide (a=b))):=by
 refine HPx zns.d 27 [[0,1],[0,1,10],[4],[0,1,5],[0,1,5,14],[0,1,5],[0,1,5,26],[4],[4]] Tryz.func40 [.tmp 4] (fun _=>false) [] [(6,[],[],qa (.q0 3 [3] (.q0 7 [7] (.alt 8 (.q1 9 .fin) .fin))))] ?_;simp only [↓XC,X1,seval,TES,zd0,XRE];refine ⟨fun h=>?_,fun h=>?_⟩
 ·have:a≠b:=by intro e;subst e;simp at h
  simp [this]
 have hlen:a.length=b.length:=by simp at h;omega
 refine zl.of (ι:={i:Nat // i≤a.length∧∀ j,j<i→a.getD j evz=b.getD j evz}) (fun x=>⟨[(0,.fs 8 (a.map evc)),(1,.fs 8 (b.map evc)),(5,.i .i64 (x.1:Nat))],[]⟩) (fun x=>a.length-x.1) ⟨0,Nat.zero_le _,fun j hj=>absurd hj (Nat.not_lt_zero _)⟩ (Ent.refl _ _) ?_;rintro ⟨i,hi,hj⟩;simp only [↓XC,X1,seval,TES,zd0,XRE];refine ⟨fun h=>⟨by decide +kernel,CO fun _=>CO fun _=>⟨fun hne=>?_,fun hne=>CR fun _=>⟨⟨i+1,by omega, ?_⟩,by simp only;omega,(by first | exact Ent.refl _ _ | (simp only [Int.natCast_add,Int.natCast_one];exact Ent.refl _ _))⟩⟩⟩,fun h=>?_⟩
 ·have:a≠b:=by intro e;subst e;simp at hne
  simp [this]
 ·intro j hjj;rcases Nat.lt_or_ge j i with h1 | h1
  ·exact hj j h1
  ·have:j=i:=by omega
   subst this;simpa using hne
 ·have:a=b:=zmt evz hlen fun j h1=>hj j (by omega);simp [this]
noncomputable def zib:PE:=peR (fun (x:List Ev×List Ev)=>match x with | (a,b)=>[.fs 8 (a.map evc),.fs 8 (b.map evc)]) (fun (x:List Ev×List Ev)=>match x with | (a,b)=>a.length≤16777216) (fun (x:List Ev×List Ev)=>match x with | (a,b)=>.b (decide (a=b)))
theorem qt {a b:List Ev}:zib [.fs 8 (a.map evc),.fs 8 (b.map evc)]=some (a.length≤16777216,.b (decide (a=b))):=yg (by rintro ⟨a0,a1⟩ ⟨b0,b1⟩ h;simp_all [z12]) (a,b)
theorem zkb:PE1 Tryz.prog 40 zib:=yo (by rintro ⟨a,b⟩ hp;exact eqEventS a b hp)
end Go.T
end
