/- Own text: part VAT. -/
import Derived.Test.YtgippllfnmdnpaaGreatDoorVAJ
import Derived.Test.YtgippllfnmdnpaaGreatDoorProg
import Derived.Test.YtgippllfnmdnpaaGreatDoorVAS
import Derived.Test.YtgippllfnmdnpaaGreatDoorVAK
import Derived.Test.YtgippllfnmdnpaaGreatDoorVAR
set_option linter.all false
section
namespace Go.TT
variable[Go.Vg.df]
open Go.Proofs Go.Vg Go.RowKit
set_option maxRecDepth 10000
def Xu:List (TypeId×TI):=[(2,⟨.int .i64,1,8,[.i .i64 0],false⟩),
 (3,⟨.int .i64,1,8,[.i .i64 0],false⟩),
 (4,⟨.bool,1,1,[.b false],false⟩),
 (5,⟨.int .u8,1,1,[.i .u8 0],false⟩),
 (6,⟨.int .u8,1,1,[.i .u8 0],false⟩),
 (7,⟨.struct [(2,0),(3,1),(4,2),(6,3)],4,24,[.i .i64 0,.i .i64 0,.b false,.i .u8 0],true⟩),
 (8,⟨.struct [(2,0),(3,1),(4,2),(6,3)],4,24,[.i .i64 0,.i .i64 0,.b false,.i .u8 0],true⟩),
 (9,⟨.str,1,16,[.s []],false⟩),
 (10,⟨.str,1,16,[.s []],false⟩),
 (11,⟨.str,1,16,[.s []],false⟩),
 (21,⟨.int .i32,1,4,[.i .i32 0],false⟩),
 (22,⟨.slice 5,1,24,[.cQ],false⟩),
 (24,⟨.slice 28,1,24,[.cQ],false⟩),
 (27,⟨.struct [(3,0),(3,1),(4,2),(9,3),(9,4),(9,5),(3,6),(3,7)],8,88,[.i .i64 0,.i .i64 0,.b false,.s [],.s [],.s [],.i .i64 0,.i .i64 0],true⟩),
 (28,⟨.struct [(3,0),(3,1),(4,2),(9,3),(9,4),(9,5),(3,6),(3,7)],8,88,[.i .i64 0,.i .i64 0,.b false,.s [],.s [],.s [],.i .i64 0,.i .i64 0],true⟩),
 (31,⟨.slice 3,1,24,[.cQ],false⟩),
 (32,⟨.slice 160,1,24,[.cQ],false⟩),
 (33,⟨.struct [(9,0),(3,1),(31,2),(32,3),(3,4)],5,80,[.s [],.i .i64 0,.cQ,.cQ,.i .i64 0],false⟩),
 (34,⟨.struct [(9,0),(3,1),(31,2),(32,3),(3,4)],5,80,[.s [],.i .i64 0,.cQ,.cQ,.i .i64 0],false⟩),
 (36,⟨.struct [(3,0),(28,1)],9,96,[.i .i64 0,.i .i64 0,.i .i64 0,.b false,.s [],.s [],.s [],.i .i64 0,.i .i64 0],true⟩),
 (37,⟨.struct [(3,0),(28,1)],9,96,[.i .i64 0,.i .i64 0,.i .i64 0,.b false,.s [],.s [],.s [],.i .i64 0,.i .i64 0],true⟩),
 (54,⟨.slice 177,1,24,[.cQ],false⟩),
 (55,⟨.struct [(9,0),(3,1),(31,2),(54,3),(3,4)],5,80,[.s [],.i .i64 0,.cQ,.cQ,.i .i64 0],false⟩),
 (56,⟨.struct [(9,0),(3,1),(31,2),(54,3),(3,4)],5,80,[.s [],.i .i64 0,.cQ,.cQ,.i .i64 0],false⟩),
 (65,⟨.slice 144,1,24,[.cQ],false⟩),
 (79,⟨.slice 4,1,24,[.cQ],false⟩),
 (80,⟨.map 9 3,1,8,[.u],false⟩),
 (81,⟨.slice 193,1,24,[.cQ],false⟩),
 (82,⟨.struct [(9,0),(3,1),(24,2),(79,3),(80,4),(81,5),(3,6),(3,7),(3,8),(4,9),(3,10)],11,144,[.s [],.i .i64 0,.cQ,.cQ,.u,.cQ,.i .i64 0,.i .i64 0,.i .i64 0,.b false,.i .i64 0],false⟩),
 (83,⟨.struct [(9,0),(3,1),(24,2),(79,3),(80,4),(81,5),(3,6),(3,7),(3,8),(4,9),(3,10)],11,144,[.s [],.i .i64 0,.cQ,.cQ,.u,.cQ,.i .i64 0,.i .i64 0,.i .i64 0,.b false,.i .i64 0],false⟩),
 (86,⟨.struct [(3,0),(31,1),(31,2)],3,56,[.i .i64 0,.cQ,.cQ],false⟩),
 (87,⟨.struct [(3,0),(31,1),(31,2)],3,56,[.i .i64 0,.cQ,.cQ],false⟩),
 (88,⟨.struct [(24,0),(31,1),(31,2),(31,3)],4,96,[.cQ,.cQ,.cQ,.cQ],false⟩),
 (89,⟨.struct [(24,0),(31,1),(31,2),(31,3)],4,96,[.cQ,.cQ,.cQ,.cQ],false⟩),
 (96,⟨.slice 270,1,24,[.cQ],false⟩),
 (97,⟨.struct [(9,0),(3,1),(24,2),(3,3),(3,4),(3,5),(96,6),(81,7),(3,8)],9,128,[.s [],.i .i64 0,.cQ,.i .i64 0,.i .i64 0,.i .i64 0,.cQ,.cQ,.i .i64 0],false⟩),
 (98,⟨.struct [(9,0),(3,1),(24,2),(3,3),(3,4),(3,5),(96,6),(81,7),(3,8)],9,128,[.s [],.i .i64 0,.cQ,.i .i64 0,.i .i64 0,.i .i64 0,.cQ,.cQ,.i .i64 0],false⟩),
 (112,⟨.struct [(22,0),(3,1),(3,2)],3,40,[.cQ,.i .i64 0,.i .i64 0],false⟩),
 (113,⟨.struct [(22,0),(3,1),(3,2)],3,40,[.cQ,.i .i64 0,.i .i64 0],false⟩),
 (116,⟨.struct [(9,0),(4,1)],2,24,[.s [],.b false],true⟩),
 (117,⟨.struct [(9,0),(4,1)],2,24,[.s [],.b false],true⟩),
 (118,⟨.slice 117,1,24,[.cQ],false⟩),
 (136,⟨.struct [(89,0),(34,4)],9,176,[.cQ,.cQ,.cQ,.cQ,.s [],.i .i64 0,.cQ,.cQ,.i .i64 0],false⟩),
 (137,⟨.struct [(89,0),(34,4)],9,176,[.cQ,.cQ,.cQ,.cQ,.s [],.i .i64 0,.cQ,.cQ,.i .i64 0],false⟩),
 (143,⟨.struct [(3,0),(3,1),(9,2)],3,32,[.i .i64 0,.i .i64 0,.s []],true⟩),
 (144,⟨.struct [(3,0),(3,1),(9,2)],3,32,[.i .i64 0,.i .i64 0,.s []],true⟩),
 (150,⟨.slice 9,1,24,[.cQ],false⟩),
 (159,⟨.struct [(3,0),(3,1),(31,2)],3,40,[.i .i64 0,.i .i64 0,.cQ],false⟩),
 (160,⟨.struct [(3,0),(3,1),(31,2)],3,40,[.i .i64 0,.i .i64 0,.cQ],false⟩),
 (177,⟨.struct [(3,0),(3,1),(31,2)],3,40,[.i .i64 0,.i .i64 0,.cQ],false⟩),
 (192,⟨.struct [(9,0),(9,1)],2,32,[.s [],.s []],true⟩),
 (193,⟨.struct [(9,0),(9,1)],2,32,[.s [],.s []],true⟩),
 (210,⟨.struct [(9,0),(3,1),(118,2),(9,3),(3,4)],5,72,[.s [],.i .i64 0,.cQ,.s [],.i .i64 0],false⟩),
 (211,⟨.struct [(9,0),(3,1),(118,2),(9,3),(3,4)],5,72,[.s [],.i .i64 0,.cQ,.s [],.i .i64 0],false⟩),
 (220,⟨.struct [(4,0),(9,1),(9,2),(3,3),(3,4)],5,56,[.b false,.s [],.s [],.i .i64 0,.i .i64 0],true⟩),
 (221,⟨.struct [(4,0),(9,1),(9,2),(3,3),(3,4)],5,56,[.b false,.s [],.s [],.i .i64 0,.i .i64 0],true⟩),
 (235,⟨.map 3 3,1,8,[.u],false⟩),
 (238,⟨.struct [(5,0),(5,1)],2,2,[.i .u8 0,.i .u8 0],true⟩),
 (239,⟨.struct [(5,0),(5,1)],2,2,[.i .u8 0,.i .u8 0],true⟩),
 (269,⟨.struct [(9,0),(4,1)],2,24,[.s [],.b false],true⟩),
 (270,⟨.struct [(9,0),(4,1)],2,24,[.s [],.b false],true⟩),
 (284,⟨.int .u8,1,1,[.i .u8 0],false⟩),
 (285,⟨.int .u8,1,1,[.i .u8 0],false⟩),
 (287,⟨.int .i32,1,4,[.i .i32 0],false⟩),
 (288,⟨.int .i32,1,4,[.i .i32 0],false⟩)]
def te:TE:=Py Xu
theorem uX:Tryz.prog.follows .mixedOrders=true:=by kernel_rfl
theorem te_ok:hX Tryz.prog te:=Lr (by kernel_rfl)
theorem Wn:te 2=some ⟨.int .i64,1,8,[.i .i64 0],false⟩:=id rfl
theorem RO:te 3=some ⟨.int .i64,1,8,[.i .i64 0],false⟩:=id rfl
theorem Wo:te 4=some ⟨.bool,1,1,[.b false],false⟩:=id rfl
theorem Wp:te 5=some ⟨.int .u8,1,1,[.i .u8 0],false⟩:=id rfl
theorem Wq:te 6=some ⟨.int .u8,1,1,[.i .u8 0],false⟩:=id rfl
theorem Wr:te 7=some ⟨.struct [(2,0),(3,1),(4,2),(6,3)],4,24,[.i .i64 0,.i .i64 0,.b false,.i .u8 0],true⟩:=id rfl
theorem Ws:te 8=some ⟨.struct [(2,0),(3,1),(4,2),(6,3)],4,24,[.i .i64 0,.i .i64 0,.b false,.i .u8 0],true⟩:=id rfl
theorem Vl:te 9=some ⟨.str,1,16,[.s []],false⟩:=id rfl
theorem SZ:te 10=some ⟨.str,1,16,[.s []],false⟩:=id rfl
theorem S2:te 11=some ⟨.str,1,16,[.s []],false⟩:=id rfl
theorem S3:te 21=some ⟨.int .i32,1,4,[.i .i32 0],false⟩:=id rfl
theorem S4:te 22=some ⟨.slice 5,1,24,[.cQ],false⟩:=id rfl
theorem S5:te 24=some ⟨.slice 28,1,24,[.cQ],false⟩:=id rfl
theorem S6:te 27=some ⟨.struct [(3,0),(3,1),(4,2),(9,3),(9,4),(9,5),(3,6),(3,7)],8,88,[.i .i64 0,.i .i64 0,.b false,.s [],.s [],.s [],.i .i64 0,.i .i64 0],true⟩:=id rfl
theorem S7:te 28=some ⟨.struct [(3,0),(3,1),(4,2),(9,3),(9,4),(9,5),(3,6),(3,7)],8,88,[.i .i64 0,.i .i64 0,.b false,.s [],.s [],.s [],.i .i64 0,.i .i64 0],true⟩:=id rfl
theorem Ls:te 31=some ⟨.slice 3,1,24,[.cQ],false⟩:=id rfl
theorem S8:te 32=some ⟨.slice 160,1,24,[.cQ],false⟩:=id rfl
theorem S9:te 33=some ⟨.struct [(9,0),(3,1),(31,2),(32,3),(3,4)],5,80,[.s [],.i .i64 0,.cQ,.cQ,.i .i64 0],false⟩:=id rfl
theorem Ta:te 34=some ⟨.struct [(9,0),(3,1),(31,2),(32,3),(3,4)],5,80,[.s [],.i .i64 0,.cQ,.cQ,.i .i64 0],false⟩:=id rfl
theorem Tb:te 36=some ⟨.struct [(3,0),(28,1)],9,96,[.i .i64 0,.i .i64 0,.i .i64 0,.b false,.s [],.s [],.s [],.i .i64 0,.i .i64 0],true⟩:=id rfl
theorem Tc:te 37=some ⟨.struct [(3,0),(28,1)],9,96,[.i .i64 0,.i .i64 0,.i .i64 0,.b false,.s [],.s [],.s [],.i .i64 0,.i .i64 0],true⟩:=id rfl
theorem P3:te 54=some ⟨.slice 177,1,24,[.cQ],false⟩:=id rfl
theorem Td:te 55=some ⟨.struct [(9,0),(3,1),(31,2),(54,3),(3,4)],5,80,[.s [],.i .i64 0,.cQ,.cQ,.i .i64 0],false⟩:=id rfl
theorem Lt:te 56=some ⟨.struct [(9,0),(3,1),(31,2),(54,3),(3,4)],5,80,[.s [],.i .i64 0,.cQ,.cQ,.i .i64 0],false⟩:=id rfl
theorem Te:te 65=some ⟨.slice 144,1,24,[.cQ],false⟩:=id rfl
theorem Tf:te 79=some ⟨.slice 4,1,24,[.cQ],false⟩:=id rfl
theorem Tg:te 80=some ⟨.map 9 3,1,8,[.u],false⟩:=id rfl
theorem Th:te 81=some ⟨.slice 193,1,24,[.cQ],false⟩:=id rfl
theorem Ti:te 82=some ⟨.struct [(9,0),(3,1),(24,2),(79,3),(80,4),(81,5),(3,6),(3,7),(3,8),(4,9),(3,10)],11,144,[.s [],.i .i64 0,.cQ,.cQ,.u,.cQ,.i .i64 0,.i .i64 0,.i .i64 0,.b false,.i .i64 0],false⟩:=id rfl
theorem Tj:te 83=some ⟨.struct [(9,0),(3,1),(24,2),(79,3),(80,4),(81,5),(3,6),(3,7),(3,8),(4,9),(3,10)],11,144,[.s [],.i .i64 0,.cQ,.cQ,.u,.cQ,.i .i64 0,.i .i64 0,.i .i64 0,.b false,.i .i64 0],false⟩:=id rfl
theorem Tk:te 86=some ⟨.struct [(3,0),(31,1),(31,2)],3,56,[.i .i64 0,.cQ,.cQ],false⟩:=id rfl
theorem Tl:te 87=some ⟨.struct [(3,0),(31,1),(31,2)],3,56,[.i .i64 0,.cQ,.cQ],false⟩:=id rfl
theorem Tm:te 88=some ⟨.struct [(24,0),(31,1),(31,2),(31,3)],4,96,[.cQ,.cQ,.cQ,.cQ],false⟩:=id rfl
theorem Tn:te 89=some ⟨.struct [(24,0),(31,1),(31,2),(31,3)],4,96,[.cQ,.cQ,.cQ,.cQ],false⟩:=id rfl
theorem To:te 96=some ⟨.slice 270,1,24,[.cQ],false⟩:=id rfl
theorem Tp:te 97=some ⟨.struct [(9,0),(3,1),(24,2),(3,3),(3,4),(3,5),(96,6),(81,7),(3,8)],9,128,[.s [],.i .i64 0,.cQ,.i .i64 0,.i .i64 0,.i .i64 0,.cQ,.cQ,.i .i64 0],false⟩:=id rfl
theorem Tq:te 98=some ⟨.struct [(9,0),(3,1),(24,2),(3,3),(3,4),(3,5),(96,6),(81,7),(3,8)],9,128,[.s [],.i .i64 0,.cQ,.i .i64 0,.i .i64 0,.i .i64 0,.cQ,.cQ,.i .i64 0],false⟩:=id rfl
theorem Pz:te 112=some ⟨.struct [(22,0),(3,1),(3,2)],3,40,[.cQ,.i .i64 0,.i .i64 0],false⟩:=id rfl
theorem PA:te 113=some ⟨.struct [(22,0),(3,1),(3,2)],3,40,[.cQ,.i .i64 0,.i .i64 0],false⟩:=id rfl
theorem PB:te 116=some ⟨.struct [(9,0),(4,1)],2,24,[.s [],.b false],true⟩:=id rfl
theorem PC:te 117=some ⟨.struct [(9,0),(4,1)],2,24,[.s [],.b false],true⟩:=id rfl
theorem PD:te 118=some ⟨.slice 117,1,24,[.cQ],false⟩:=id rfl
theorem PG:te 136=some ⟨.struct [(89,0),(34,4)],9,176,[.cQ,.cQ,.cQ,.cQ,.s [],.i .i64 0,.cQ,.cQ,.i .i64 0],false⟩:=id rfl
theorem PH:te 137=some ⟨.struct [(89,0),(34,4)],9,176,[.cQ,.cQ,.cQ,.cQ,.s [],.i .i64 0,.cQ,.cQ,.i .i64 0],false⟩:=id rfl
theorem PI:te 143=some ⟨.struct [(3,0),(3,1),(9,2)],3,32,[.i .i64 0,.i .i64 0,.s []],true⟩:=id rfl
theorem PJ:te 144=some ⟨.struct [(3,0),(3,1),(9,2)],3,32,[.i .i64 0,.i .i64 0,.s []],true⟩:=id rfl
theorem PK:te 150=some ⟨.slice 9,1,24,[.cQ],false⟩:=id rfl
theorem PL:te 159=some ⟨.struct [(3,0),(3,1),(31,2)],3,40,[.i .i64 0,.i .i64 0,.cQ],false⟩:=id rfl
theorem PM:te 160=some ⟨.struct [(3,0),(3,1),(31,2)],3,40,[.i .i64 0,.i .i64 0,.cQ],false⟩:=id rfl
theorem I7:te 177=some ⟨.struct [(3,0),(3,1),(31,2)],3,40,[.i .i64 0,.i .i64 0,.cQ],false⟩:=id rfl
theorem PN:te 192=some ⟨.struct [(9,0),(9,1)],2,32,[.s [],.s []],true⟩:=id rfl
theorem PO:te 193=some ⟨.struct [(9,0),(9,1)],2,32,[.s [],.s []],true⟩:=id rfl
theorem PP:te 210=some ⟨.struct [(9,0),(3,1),(118,2),(9,3),(3,4)],5,72,[.s [],.i .i64 0,.cQ,.s [],.i .i64 0],false⟩:=id rfl
theorem PQ:te 211=some ⟨.struct [(9,0),(3,1),(118,2),(9,3),(3,4)],5,72,[.s [],.i .i64 0,.cQ,.s [],.i .i64 0],false⟩:=id rfl
theorem PR:te 220=some ⟨.struct [(4,0),(9,1),(9,2),(3,3),(3,4)],5,56,[.b false,.s [],.s [],.i .i64 0,.i .i64 0],true⟩:=id rfl
theorem PS:te 221=some ⟨.struct [(4,0),(9,1),(9,2),(3,3),(3,4)],5,56,[.b false,.s [],.s [],.i .i64 0,.i .i64 0],true⟩:=id rfl
theorem PU:te 235=some ⟨.map 3 3,1,8,[.u],false⟩:=id rfl
theorem PV:te 238=some ⟨.struct [(5,0),(5,1)],2,2,[.i .u8 0,.i .u8 0],true⟩:=id rfl
theorem PW:te 239=some ⟨.struct [(5,0),(5,1)],2,2,[.i .u8 0,.i .u8 0],true⟩:=id rfl
theorem PX:te 269=some ⟨.struct [(9,0),(4,1)],2,24,[.s [],.b false],true⟩:=id rfl
theorem PY:te 270=some ⟨.struct [(9,0),(4,1)],2,24,[.s [],.b false],true⟩:=id rfl
theorem PZ:te 284=some ⟨.int .u8,1,1,[.i .u8 0],false⟩:=id rfl
theorem P0:te 285=some ⟨.int .u8,1,1,[.i .u8 0],false⟩:=id rfl
theorem P1:te 287=some ⟨.int .i32,1,4,[.i .i32 0],false⟩:=id rfl
theorem P2:te 288=some ⟨.int .i32,1,4,[.i .i32 0],false⟩:=id rfl
theorem dB:type_of% (ai (ai (ai (ai (ai (ai (@Wn) (@RO)) (ai (@Wo) (@Wp))) (ai (ai (@Wq) (@Wr)) (ai (@Ws) (@Vl)))) (ai (ai (ai (@SZ) (@S2)) (ai (@S3) (@S4))) (ai (ai (@S5) (@S6)) (ai (@S7) (@Ls))))) (ai (ai (ai (ai (@S8) (@S9)) (ai (@Ta) (@Tb))) (ai (ai (@Tc) (@P3)) (ai (@Td) (@Lt)))) (ai (ai (ai (@Te) (@Tf)) (ai (@Tg) (@Th))) (ai (ai (@Ti) (@Tj)) (ai (@Tk) (@Tl)))))) (ai (ai (ai (ai (ai (@Tm) (@Tn)) (ai (@To) (@Tp))) (ai (ai (@Tq) (@Pz)) (ai (@PA) (@PB)))) (ai (ai (ai (@PC) (@PD)) (ai (@PG) (@PH))) (ai (ai (@PI) (@PJ)) (ai (@PK) (@PL))))) (ai (ai (ai (ai (@PM) (@I7)) (ai (@PN) (@PO))) (ai (ai (@PP) (@PQ)) (ai (@PR) (@PS)))) (ai (ai (ai (@PU) (@PV)) (ai (@PW) (@PX))) (ai (ai (@PY) (@PZ)) (ai (@P0) (ai (@P1) (@P2)))))))):=ai (ai (ai (ai (ai (ai (@Wn) (@RO)) (ai (@Wo) (@Wp))) (ai (ai (@Wq) (@Wr)) (ai (@Ws) (@Vl)))) (ai (ai (ai (@SZ) (@S2)) (ai (@S3) (@S4))) (ai (ai (@S5) (@S6)) (ai (@S7) (@Ls))))) (ai (ai (ai (ai (@S8) (@S9)) (ai (@Ta) (@Tb))) (ai (ai (@Tc) (@P3)) (ai (@Td) (@Lt)))) (ai (ai (ai (@Te) (@Tf)) (ai (@Tg) (@Th))) (ai (ai (@Ti) (@Tj)) (ai (@Tk) (@Tl)))))) (ai (ai (ai (ai (ai (@Tm) (@Tn)) (ai (@To) (@Tp))) (ai (ai (@Tq) (@Pz)) (ai (@PA) (@PB)))) (ai (ai (ai (@PC) (@PD)) (ai (@PG) (@PH))) (ai (ai (@PI) (@PJ)) (ai (@PK) (@PL))))) (ai (ai (ai (ai (@PM) (@I7)) (ai (@PN) (@PO))) (ai (ai (@PP) (@PQ)) (ai (@PR) (@PS)))) (ai (ai (ai (@PU) (@PV)) (ai (@PW) (@PX))) (ai (ai (@PY) (@PZ)) (ai (@P0) (ai (@P1) (@P2)))))))
end Go.TT
end
section
namespace Go.T
variable[Go.Vg.df]
open Go.Proofs Go.Vg Go.RowKit Go.TT
theorem HF{l:List (FuncId×PE)}(n:mJ Tryz.prog l)(nt:Nat)(b:List (List Tmp)){f:FuncId}{fn:Func}(m:Tryz.prog.funcs[f]?=some fn)(rs:List ResultVar)(sp:Nat->Bool)(cut:List Nat)(W:DL){args:List SV}{Z:SV}{c:Code}(h:vc (mr Tryz.prog te l nt 0 false sp (kq b) cut W) (fun st=>sN (mr Tryz.prog te l nt 0 false sp (kq b) cut W).te st (fun g c=>jf c g/\jX c g=Z) rs []/\da (mr Tryz.prog te l nt 0 false sp (kq b) cut W).k st.ctx/\([]:dZ).length<=st.ctx.length) 100000 [.code c] ⟨entry 0 args,[]⟩)(k:fn.body=some c:=by rfl)(a:(fn.name == "runtime.NumGoroutine")=false:=by rfl)(d:fn.ntmps=nt:=by rfl)(hlen:args.length<=nt:=by simp)(e:fn.results.toList=rs:=by rfl)(i:eJ args=true:=by rfl)(j:Z.plain=true:=by rfl):PF Tryz.prog f args Z:=
 ⟨i,j,gQ.of (cf:=mr Tryz.prog te l nt 0 false sp (kq b) cut W) (yB te_ok n uX) m k a d hlen (aN _) e 100000 h⟩
theorem HP{l:List (FuncId×PE)}(n:mJ Tryz.prog l)(nt:Nat)(b:List (List Tmp)){f:FuncId}{fn:Func}(m:Tryz.prog.funcs[f]?=some fn)(rs:List ResultVar){args:List SV}{Z:SV}{c:Code}(h:vc (mr Tryz.prog te l nt 0 false (fun _=>false) (kq b) [] []) (fun st=>sN (mr Tryz.prog te l nt 0 false (fun _=>false) (kq b) [] []).te st (fun g c=>jf c g/\jX c g=Z) rs []/\da (mr Tryz.prog te l nt 0 false (fun _=>false) (kq b) [] []).k st.ctx/\([]:dZ).length<=st.ctx.length) 100000 [.code c] ⟨entry 0 args,[]⟩)(k:fn.body=some c:=by rfl)(a:(fn.name == "runtime.NumGoroutine")=false:=by rfl)(d:fn.ntmps=nt:=by rfl)(hlen:args.length<=nt:=by simp)(e:fn.results.toList=rs:=by rfl)(i:eJ args=true:=by rfl)(j:Z.plain=true:=by rfl):PF Tryz.prog f args Z:=
 HF n nt b m rs _ _ _ h k a d hlen e i j
theorem l5{l:List (FuncId×PE)}(m:mJ Tryz.prog l)(nt:Nat)(b:List (List Tmp)){f:FuncId}{fn:Func}(i:Tryz.prog.funcs[f]?=some fn)(rs:List ResultVar)(sp:Nat->Bool)(cut:List Nat)(W:DL){k:Nat}{args:List SV}{pre:dZ}{Z:SV}{C:dZ}{c:Code}(h:vc (mr Tryz.prog te l nt k false sp (kq b) cut W) (LK (mr Tryz.prog te l nt k false sp (kq b) cut W).te (mr Tryz.prog te l nt k false sp (kq b) cut W).k pre.length rs Z C) 100000 [.code c] ⟨entry 0 args,pre⟩)(g:fn.body=some c:=by rfl)(a:(fn.name == "runtime.NumGoroutine")=false:=by rfl)(d:fn.ntmps=nt:=by rfl)(hlen:args.length<=nt:=by simp)(j:k<=pre.length:=by simp[YC])(e:fn.results.toList=rs:=by rfl):gQ Tryz.prog f k args pre fun z c=>z=Z/\c=C:=
 gQ.WR (cf:=mr Tryz.prog te l nt k false sp (kq b) cut W) (yB te_ok m uX) i g a d hlen j e 100000 h
theorem HE{l:List (FuncId×PE)}(m:mJ Tryz.prog l)(nt:Nat)(b:List (List Tmp)){f:FuncId}{fn:Func}(i:Tryz.prog.funcs[f]?=some fn)(rs:List ResultVar){k:Nat}{args:List SV}{pre:dZ}{Z:SV}{C:dZ}{c:Code}(h:vc (mr Tryz.prog te l nt k false (fun _=>false) (kq b) [] []) (LK (mr Tryz.prog te l nt k false (fun _=>false) (kq b) [] []).te (mr Tryz.prog te l nt k false (fun _=>false) (kq b) [] []).k pre.length rs Z C) 100000 [.code c] ⟨entry 0 args,pre⟩)(g:fn.body=some c:=by rfl)(a:(fn.name == "runtime.NumGoroutine")=false:=by rfl)(d:fn.ntmps=nt:=by rfl)(hlen:args.length<=nt:=by simp)(j:k<=pre.length:=by simp[YC])(e:fn.results.toList=rs:=by rfl):gQ Tryz.prog f k args pre fun z c=>z=Z/\c=C:=
 l5 m nt b i rs _ _ _ h g a d hlen j e
theorem Jh{l:List (FuncId×PE)}(m:mJ Tryz.prog l)(nt:Nat)(b:List (List Tmp)){f:FuncId}{fn:Func}(i:Tryz.prog.funcs[f]?=some fn)(rs:List ResultVar)(sp:Nat->Bool)(cut:List Nat)(W:DL){k:Nat}{args:List SV}{pre:dZ}{Q:SV->dZ->Prop}{c:Code}(h:vc (mr Tryz.prog te l nt k false sp (kq b) cut W) (VG (mr Tryz.prog te l nt k false sp (kq b) cut W).te (mr Tryz.prog te l nt k false sp (kq b) cut W).k pre.length rs Q) 100000 [.code c] ⟨entry 0 args,pre⟩)(g:fn.body=some c:=by rfl)(a:(fn.name == "runtime.NumGoroutine")=false:=by rfl)(d:fn.ntmps=nt:=by rfl)(hlen:args.length<=nt:=by simp)(j:k<=pre.length:=by simp[YC])(e:fn.results.toList=rs:=by rfl):gQ Tryz.prog f k args pre Q:=
 gQ.Xs (cf:=mr Tryz.prog te l nt k false sp (kq b) cut W) (yB te_ok m uX) i g a d hlen j e 100000 h
theorem qK{α:Type}{J:Prop}{g:α->List SV×Prop×SV}{z:PE}{e:z=gC g}{x:α}{A:List SV}(j:J)(a:(g x).1=A:=by rfl)(b:J->∀i j,(g i).1=(g j).1->i=j:=by intro J;(try simp only[Prod.forall]);intros;simp_all):z A=some (ptr z e x):=by subst e;subst a;exact tB (b j) x
theorem iZ{α:Type}{g:α->List SV×Prop×SV}{z:PE}{e:z=gC g}{x:α}{A:List SV}(a:(g x).1=A:=by rfl)(b:True->∀i j,(g i).1=(g j).1->i=j:=by intro J;(try simp only[Prod.forall]);intros;simp_all):z A=some (ptr z e x):=qK trivial a b
theorem gJ{f:FuncId}{α:Type}{g:α->List SV×Prop×SV}(h:∀x,(g x).2.1->PF Tryz.prog f (g x).1 (g x).2.2):fO Tryz.prog f (gC g):=OO h
theorem CR{A B:Prop}(h:A->B)(a:A:=by simp only[iU];omega):bH A B:=bH.mk a h
theorem CO{A B:Prop}(h:A->B)(a:A:=by omega):bH A B:=bH.mk a h
open Go.Pl
theorem X2:type_of% (ai (ai dB XR) (ai (ai jE qF) (ai ul Yh))):=ai (ai dB XR) (ai (ai jE qF) (ai ul Yh))
abbrev qa(x:Sc):=Sc.q1 0 (.q1 1 (.q1 2 (.q1 4 (.q1 5 (.q1 6 x)))))
abbrev qg(x:Sc):=Sc.q1 9 (.q1 10 (.q1 11 (.q1 12 (.q1 13 (.q1 14 (.q1 15 x))))))
abbrev qf(x:Sc):=Sc.q1 0 (.q1 1 (.q1 2 (.q1 3 (.q1 5 (.q1 6 (.q1 7 x))))))
abbrev qh(x:Sc):=Sc.q1 9 (.q1 10 (.q1 11 (.q1 12 (.q1 13 x))))
abbrev qe(x:Sc):=Sc.q1 0 (.q1 1 (.q1 2 (.q1 3 x)))
abbrev qd(x:Sc):=Sc.q1 8 (.q1 9 x)
theorem Vm{P:Program}{f:FuncId}{a:List SV}{pre:dZ}{Z:SV}{C:dZ}(g:gQ P f 4 a pre fun z c=>z=Z/\c=C){args:List SV}{kk:Nat}{st:St}{K:Sl (SV×St)}(h:K.f (Z.bP (dX [0,1,2,3] st.ctx.length),⟨st.env,lB (dX [0,1,2,3] st.ctx.length) [0,1,2,3] pre C st.ctx⟩))(b:hZ (dX [0,1,2,3] st.ctx.length) a=args:=by simp[Yf])(e:pre.length=4:=by rfl)(d:jx (dX [0,1,2,3] st.ctx.length) st.ctx [0,1,2,3] pre:=by simp only[Ye];exact⟨by omega,aM (by simp[Yf,Yh,bI]),by omega,aF fun _=>rfl,by omega,aF fun _=>rfl,by omega,aF fun _=>rfl⟩):eS P f args kk st K:=
 eS.mut g e [0,1,2,3] b d (by decide) h
theorem Vb{P:Program}{f:FuncId}{k:Nat}{a:List SV}{pre:dZ}{Z:SV}{C:dZ}(j:gQ P f k a pre fun z c=>z=Z/\c=C){args:List SV}{kk:Nat}{st:St}{K:Sl (SV×St)}(l:K.f (Z.bP (dX [0,1,2,3] st.ctx.length),⟨lZ ([0,1,2,3].drop k) st.env,lB (dX [0,1,2,3] st.ctx.length) [0,1,2,3] pre C st.ctx⟩))(d:hZ (dX [0,1,2,3] st.ctx.length) a=args:=by simp[Yf])(h:jx (dX [0,1,2,3] st.ctx.length) st.ctx [0,1,2,3] pre:=by simp only[Ye];exact⟨by omega,aM (by simp[Yf,Yh,bI]),by omega,aF fun _=>rfl,by omega,aF fun _=>rfl,by omega,aF fun _=>rfl⟩)(i:da k pre:=by simp[da,SO.ro,YC])(e:(([0,1,2,3]:List Nat).drop k).all (fun g=>decide (kk<=g))=true:=by decide)(b:iI (([0,1,2,3]:List Nat).drop k) (lh [0,1,2,3] pre) 0 st.ctx:=by simp[iI,lh,jw,kQ,ma,SO.ro,fF,YC]):eS P f args kk st K:=
 eS.K6 j [0,1,2,3] d h (by decide) i e b l
theorem Vq{P:Program}{f:FuncId}{k:Nat}{a:List SV}{pre:dZ}{Q:SV->dZ->Prop}(j:gQ P f k a pre Q){args:List SV}{kk:Nat}{st:St}{K:Sl (SV×St)}(l:∀z c,Q z c->K.f (z.bP (dX [0,1,2,3] st.ctx.length),⟨lZ ([0,1,2,3].drop k) st.env,lB (dX [0,1,2,3] st.ctx.length) [0,1,2,3] pre c st.ctx⟩))(d:hZ (dX [0,1,2,3] st.ctx.length) a=args:=by simp[Yf])(h:jx (dX [0,1,2,3] st.ctx.length) st.ctx [0,1,2,3] pre:=by simp only[Ye];exact⟨by omega,aM (by simp[Yf,Yh,bI]),by omega,aF fun _=>rfl,by omega,aF fun _=>rfl,by omega,aF fun _=>rfl⟩)(i:da k pre:=by simp[da,SO.ro,YC])(e:(([0,1,2,3]:List Nat).drop k).all (fun g=>decide (kk<=g))=true:=by decide)(b:iI (([0,1,2,3]:List Nat).drop k) (lh [0,1,2,3] pre) 0 st.ctx:=by simp[iI,lh,jw,kQ,ma,SO.ro,fF,YC]):eS P f args kk st K:=
 eS.WT j [0,1,2,3] d h (by decide) i e b l
theorem Vf{A B C D E:List Nat->Prop}(c:C [0,1,2,3]:=by simp only[↓XC,X1,seval];try first|rfl|simp[Yf,bI])(a:A [0,1,2,3]:=by decide)(b:B [0,1,2,3]:=by simp only[Yd];exact⟨aM (by first|(simp[Yf,Yh,bI];done)|simp[Yf,Yh,bI,EZ]),aF fun _=>rfl,aF fun _=>rfl,aF fun _=>rfl⟩)(d:D [0,1,2,3]:=by simp[da,SO.ro,YC])(e:E [0,1,2,3]:=by simp[YC]):∃l,A l/\B l/\C l/\D l/\E l:=⟨_,a,b,c,d,e⟩
end Go.T
end
section
namespace Go.T
variable[Go.Vg.df]
open Go.Proofs Go.Vg Go.RowKit Go.TT Go.Pl
set_option maxRecDepth 10000
set_option maxHeartbeats 4000000
noncomputable def OR:PE:=KW
theorem Mj:fO Tryz.prog 264 OR:=OQ (QN Tryz.func264 rfl rfl (by kernel_rfl) (by kernel_rfl))
theorem Mi{s:List UInt8}{c:Int}:OR [.s s,.i .u8 c]=some (True,.i .i64 (Pl.idx s (UInt8.ofNat c.toNat))):=OP
noncomputable def IJ:=gC fun((s,c):List UInt8×Int)=>([.s s,.i .u8 c],True,.i .i64 (Pl.idx s (UInt8.ofNat c.toNat)))
theorem Ml{s:List UInt8}{c:Int}:IJ [.s s,.i .u8 c]=some (ptr IJ rfl (s,c)):=iZ
theorem Mm:fO Tryz.prog 230 IJ:=gJ fun(s,c) _=>by dsimp only at *;refine HP Mj.d 8 [[0,1],[4]] Tryz.func230 [.tmp 4] ?_;simp only[↓XC,X1,seval,dB,Mi]
noncomputable def IK:=gC fun((s,c):List UInt8×Int)=>([.s s,.i .u8 c],True,.i .i64 (Pl.idx s (UInt8.ofNat c.toNat)))
theorem wL{s:List UInt8}{c:Int}:IK [.s s,.i .u8 c]=some (ptr IK rfl (s,c)):=iZ
theorem wM:fO Tryz.prog 182 IK:=gJ fun(s,c) _=>by dsimp only at *;refine HP Mm.d 8 [[0,1],[4]] Tryz.func182 [.tmp 4] ?_;simp only[↓XC,X1,seval,dB,Ml]
noncomputable def w4:=gC fun((x,b,a):Int×Int×Int)=>([.i .i64 x,.i .i64 b,.i .i64 a],True,.b (decide (b<=x)&&decide (x<=a)))
theorem gv{x b a:Int}:w4 [.i .i64 x,.i .i64 b,.i .i64 a]=some (ptr w4 rfl (x,b,a)):=iZ
theorem iL:fO Tryz.prog 147 w4:=gJ fun(x,b,a) _=>by dsimp only at *;refine HP pn 15 [[0,1,2],[6]] Tryz.func147 [.tmp 6] ?_;simp only[↓XC,X1,seval,dB]
noncomputable def pi:=gC fun((s,p):Bs×Int)=>([.s s,.i .i64 p],True,.i .i64 (spot s p:Nat))
theorem eg{s:Bs}{p:Int}:pi [.s s,.i .i64 p]=some (ptr pi rfl (s,p)):=iZ
theorem eh:fO Tryz.prog 100 pi:=gJ fun(s,p) _=>by
 dsimp only at *;refine HP pn 10 [[0,1],[4]] Tryz.func100 [.tmp 4] ?_;simp only[↓XC,X1,seval,dB];simp only[SV.i.injEq,cP];unfold spot
 repeat' split
 all_goals omega
noncomputable def wD:=gC fun((s,p):Bs×Int)=>([.s s,.i .i64 p],s.length<=1048576,.i .i64 (bW s (spot s p)))
theorem bL{s:Bs}{p:Int}:wD [.s s,.i .i64 p]=some (ptr wD rfl (s,p)):=iZ
theorem dv:fO Tryz.prog 107 wD:=gJ fun(s,p) hp=>by dsimp only at *;refine HP eh.d 16 [[0,1],[0,1],[0,1,11],[4],[4]] Tryz.func107 [.tmp 4] ?_;simp only[↓XC,X1,seval,dB,eg];have a:=dW s p;have b:=(s.getD (spot s p) 0).toNat_lt;exact⟨fun h=>by rw[eZ (by omega)],fun h=>CO fun _=>CR fun _=>by rw[cW (by omega)]⟩
noncomputable def tW:=gC fun(b:Int)=>([.i .i64 b],True,.b (b==32||b==9))
theorem dL{b:Int}:tW [.i .i64 b]=some (ptr tW rfl b):=iZ
theorem jo:fO Tryz.prog 185 tW:=gJ fun b _=>by dsimp only at *;refine HP pn 9 [[0],[2]] Tryz.func185 [.tmp 2] ?_;simp only[↓XC,X1,seval,dB];rfl
noncomputable def tT:=gC fun(b:Int)=>([.i .i64 b],True,.b (b==10||decide (b<0)))
theorem ko{b:Int}:tT [.i .i64 b]=some (ptr tT rfl b):=iZ
theorem lS:fO Tryz.prog 184 tT:=gJ fun b _=>by dsimp only at *;refine HP pn 9 [[0],[2]] Tryz.func184 [.tmp 2] ?_;simp only[↓XC,X1,seval,dB];rfl
noncomputable def Aq:=gC fun((s,p):Bs×Int)=>([.s s,.i .i64 p],s.length<=1048576/\0<=p,.b (gN s p.toNat))
theorem dq{s:Bs}{p:Int}:Aq [.s s,.i .i64 p]=some (ptr Aq rfl (s,p)):=iZ
theorem iO:fO Tryz.prog 108 Aq:=gJ fun(s,p) hp=>by dsimp only at *;refine HP (dv.c (jo.c lS.d)) 15 [[0,1],[5],[4]] Tryz.func108 [.tmp 4] ?_;simp only[↓XC,X1,seval,dB,bL,dL,ko];exact bH.mk hp.1 fun _=>by simp only[gN,nD,kH,j0 hp.2]
noncomputable def tP:=gC fun((s,p):Bs×Int)=>([.s s,.i .i64 p],s.length<=1048576,.i .i64 (wh s (spot s p):Nat))
theorem dK{s:Bs}{p:Int}:tP [.s s,.i .i64 p]=some (ptr tP rfl (s,p)):=iZ
theorem gI:fO Tryz.prog 106 tP:=gJ fun(s,p) hp=>by
 dsimp only at *;refine HP (eh.c (dv.c jo.d)) 15 [[0,1],[0,1],[0,1,11],[0,1],[4]] Tryz.func106 [.tmp 4] ?_;simp only[↓XC,X1,seval,dB,eg,bL,dL];refine cF.of (ι:={q:Nat // q<=s.length/\wh s q=wh s (spot s p)}) (fun x=>⟨[(0,.s s),(1,.i .i64 (x.1:Nat))],[]⟩) (fun x=>s.length-x.1) ⟨spot s p,dW s p,rfl⟩ (cG.refl _ _) ?_;rintro⟨q,a,hw⟩;simp only[↓XC,X1,seval,dB,dL,bL];refine bH.mk hp fun _=>⟨fun h=>CR fun _=>?_,fun h=>?_⟩
 ·rw[bQ s a]at h;have b:=zD h;exact⟨⟨q+1,by omega,by rw[<-Vs h];exact hw⟩,by simp only;omega,(by first|exact cG.refl _ _|(simp only[aP,aQ];exact cG.refl _ _))⟩
 rw[bQ s a]at h;rw[<-hw,RQ h]
noncomputable def tG:=gC fun((s,p):Bs×Int)=>([.s s,.i .i64 p],s.length<=1048576,.i .i64 (en s (spot s p):Nat))
theorem gj{s:Bs}{p:Int}:tG [.s s,.i .i64 p]=some (ptr tG rfl (s,p)):=iZ
theorem jQ:fO Tryz.prog 187 tG:=gJ fun(s,p) hp=>by
 dsimp only at *;refine HP (eh.c wM.d) 20 [[0,1],[0,1],[0,1,5],[0,1,5,14],[4],[4]] Tryz.func187 [.tmp 4] ?_;simp only[↓XC,X1,reduceIte,Nat.reduceAdd,Nat.reduceLT,Nat.reduceEqDiff,Nat.reduceBEq,Nat.reduceLeDiff,reduceCtorEq,Nat.reduceSub,Nat.reduceMul,Int.reduceToNat,Int.reduceLT,Int.reduceLE,dB,eg,wL];have b:=dW s p;have a:=Ui s (spot s p) b;have c:=jF s _ b;refine CO fun _=>⟨fun h=>?_,fun h=>?_⟩
 ·rw[show UInt8.ofNat 10=10 from rfl]at h;rw[aB h]at a;rw[a]
 rw[show UInt8.ofNat 10=10 from rfl]at h |-;rw[aA h]at a;rw[a];exact CR fun _=>rfl
noncomputable def wX:=gC fun((s,p):Bs×Int)=>([.s s,.i .i64 p],True,.i .i64 (spot s p:Nat))
theorem eB{s:Bs}{p:Int}:wX [.s s,.i .i64 p]=some (ptr wX rfl (s,p)):=iZ
theorem eD:fO Tryz.prog 162 wX:=gJ fun(s,p) _=>by
 dsimp only at *;refine HP pn 14 [[0,1],[0,1,6],[4],[0,1,10],[4],[4]] Tryz.func162 [.tmp 4] ?_;simp only[↓XC,X1,seval,dB]
 repeat' (first|refine bH.mk ?_ fun _=>?_|refine And.intro ?_ ?_|intro _)
 all_goals(simp only[SV.i.injEq,cP];unfold spot;omega)
noncomputable def rI:=gC fun((s,p):Bs×Int)=>([.s s,.i .i64 p],s.length<=1048576/\0<=p,.b (nD s p.toNat))
theorem gi{s:Bs}{p:Int}:rI [.s s,.i .i64 p]=some (ptr rI rfl (s,p)):=iZ
theorem j4:fO Tryz.prog 165 rI:=gJ fun(s,p) hp=>by
 dsimp only at *;refine HP pn 21 [[0,1],[4]] Tryz.func165 [.tmp 4] ?_;simp only[↓XC,X1,seval,dB];have a:bW s p.toNat=if p<s.length then((s.getD p.toNat 0).toNat:Int)else -1:=by
  split
  ·exact cW (by omega)
  exact eZ (by omega)
 refine bH.mk (fun h=>⟨hp.2,h⟩) fun _=>bH.mk (fun h=>?_) fun _=>?_
 ·simp at h;exact⟨hp.2,h.1⟩
 simp only[nD,a,SV.b.injEq];split
 ·rename_i h;simp only[h,eE,di];rfl
 rename_i h;simp[h]
noncomputable def tC:=gC fun((s,p):Bs×Int)=>([.s s,.i .i64 p],s.length<=1048576/\0<=p,.b (kH s p.toNat))
theorem kn{s:Bs}{p:Int}:tC [.s s,.i .i64 p]=some (ptr tC rfl (s,p)):=iZ
theorem lQ:fO Tryz.prog 223 tC:=gJ fun(s,p) hp=>by
 dsimp only at *;refine HP pn 15 [[0,1],[4]] Tryz.func223 [.tmp 4] ?_;simp only[↓XC,X1,seval,dB];have b:bW s p.toNat=if p<s.length then((s.getD p.toNat 0).toNat:Int)else -1:=by
  split
  ·exact cW (by omega)
  exact eZ (by omega)
 refine bH.mk (fun h=>⟨hp.2,by simpa using h⟩) fun _=>?_;simp only[kH,b,SV.b.injEq];split
 ·rename_i h;have a:¬p>=s.length:=by omega
  have c:¬((s.getD p.toNat 0).toNat:Int)<0:=by omega
  simp only[a,c,dS,cX,fT];rfl
 rename_i h;have a:p>=s.length:=by omega
 simp[a]
noncomputable def Ad:=gC fun((s,p):Bs×Int)=>([.s s,.i .i64 p],s.length<=1048576/\0<=p,.b (gN s p.toNat))
theorem dT{s:Bs}{p:Int}:Ad [.s s,.i .i64 p]=some (ptr Ad rfl (s,p)):=iZ
theorem iN:fO Tryz.prog 167 Ad:=gJ fun(s,p) hp=>by dsimp only at *;refine HP (j4.c lQ.d) 13 [[0,1],[4]] Tryz.func167 [.tmp 4] ?_;simp only[↓XC,X1,seval,dB,gi,kn];exact bH.mk hp fun _=>bH.mk (fun h=>⟨⟨h,h⟩,hp⟩) fun _=>rfl
noncomputable def tQ:=gC fun((s,p):Bs×Int)=>([.s s,.i .i64 p],s.length<=1048576,.i .i64 (wh s (spot s p):Nat))
theorem cO{s:Bs}{p:Int}:tQ [.s s,.i .i64 p]=some (ptr tQ rfl (s,p)):=iZ
theorem fN:fO Tryz.prog 163 tQ:=gJ fun(s,p) hp=>by
 dsimp only at *;refine HP (eD.c j4.d) 14 [[0,1],[0,1],[0,1,10],[0,1],[4]] Tryz.func163 [.tmp 4] ?_;simp only[↓XC,X1,seval,dB,eB,gi];refine cF.of (ι:={q:Nat // q<=s.length/\wh s q=wh s (spot s p)}) (fun x=>⟨[(0,.s s),(1,.i .i64 (x.1:Nat))],[]⟩) (fun x=>s.length-x.1) ⟨spot s p,dW s p,rfl⟩ (cG.refl _ _) ?_;rintro⟨q,b,hw⟩;simp only[↓XC,X1,seval,dB,gi];refine bH.mk ⟨hp,by omega⟩ fun _=>⟨fun h=>CR fun _=>?_,fun h=>?_⟩
 ·have a:=zD h;exact⟨⟨q+1,by omega,by rw[<-Vs h];exact hw⟩,by simp only;omega,(by first|exact cG.refl _ _|(simp only[aP,aQ];exact cG.refl _ _))⟩
 rw[<-hw,RQ h]
noncomputable def tH:=gC fun((s,p):Bs×Int)=>([.s s,.i .i64 p],s.length<=1048576,.i .i64 (en s (spot s p):Nat))
theorem fi{s:Bs}{p:Int}:tH [.s s,.i .i64 p]=some (ptr tH rfl (s,p)):=iZ
theorem iM:fO Tryz.prog 166 tH:=gJ fun(s,p) hp=>by
 dsimp only at *;refine HP eD.d 21 [[0,1],[0,1],[0,1,17],[0,1],[4]] Tryz.func166 [.tmp 4] ?_;simp only[↓XC,X1,seval,dB,eB];refine cF.of (ι:={q:Nat // q<=s.length/\en s q=en s (spot s p)}) (fun x=>⟨[(0,.s s),(1,.i .i64 (x.1:Nat))],[]⟩) (fun x=>s.length-x.1) ⟨spot s p,dW s p,rfl⟩ (cG.refl _ _) ?_;rintro⟨q,f,hw⟩;simp only[↓XC,X1,seval,dB];have c:kH s q=(decide ((s.length:Int)<=q)||decide ((((s.getD q 0).toNat:Int))=10)):=by
  rcases aU q s.length with h|h
  ·have d:¬((s.getD q 0).toNat:Int)<0:=by omega
   have b:¬(s.length:Int)<=q:=by omega
   simp only[kH,cW h,d,b,dS,fT,cX];rfl
  have b:(s.length:Int)<=q:=by omega
  simp[kH,eZ h,b]
 refine CO fun _=>⟨fun h=>CR fun _=>?_,fun h=>?_⟩
 ·have a:kH s q=false:=by rw[c];simp at h |-;omega
  have e:=kb a;exact⟨⟨q+1,by omega,by rw[<-T5 a];exact hw⟩,by simp only;omega,(by first|exact cG.refl _ _|(simp only[aP,aQ];exact cG.refl _ _))⟩
 have a:kH s q=true:=by rw[c];simp at h |-;omega
 rw[<-hw,T4 a]
end Go.T
end
section
namespace Go.T
variable[Go.Vg.df]
open Go.Proofs Go.Vg Go.RowKit Go.TT Go.Pl
set_option maxRecDepth 10000
set_option maxHeartbeats 4000000
noncomputable def wJ:=gC fun(b:Int)=>([.i .i64 b],True,.b (re b))
theorem dV{b:Int}:wJ [.i .i64 b]=some (ptr wJ rfl b):=iZ
theorem kZ:fO Tryz.prog 183 wJ:=gJ fun b _=>by dsimp only at *;refine HP pn 21 [[0],[2]] Tryz.func183 [.tmp 2] ?_;simp only[↓XC,X1,seval,dB];rfl
noncomputable def wo:=gC fun(b:Int)=>([.i .u8 b],True,.b (re b))
theorem fa{b:Int}:wo [.i .u8 b]=some (ptr wo rfl b):=iZ
theorem kX:fO Tryz.prog 288 wo:=gJ fun b _=>by dsimp only at *;refine HP pn 21 [[0],[2]] Tryz.func288 [.tmp 2] ?_;simp only[↓XC,X1,seval,dB];rfl
end Go.T
end
section
namespace Go.T
variable[Go.Vg.df]
open Go.Proofs Go.Vg Go.RowKit Go.TT Go.Pl
set_option maxRecDepth 10000
set_option maxHeartbeats 4000000
theorem DM(a:List Int)(hp:a.length<=1048576):gQ Tryz.prog 203 0 [.fs 1 (a.map dC)] [] (fun z c=>z=.ew 0 0 a.length/\c=[some (.row false 1 a.length (bT dC 0 a))]):=by refine HE pn 5 [[0],[2]] Tryz.func203 [.tmp 2] ?_;simp only[↓XC,X1,seval,dB,jE,XR,XM];refine⟨fun x d=>by obtain⟨v,_,rfl⟩:=List.mem_map.1 d;rfl,CO fun _=>?_⟩;exact⟨[0],by decide,by simp only[Yd];exact bM fun j b=>(e8 rfl).trans (LX (l:=a) 0 b).symm,by simp only[↓XC,X1,seval];try simp[Yf],by simp[da,SO.ro,YC],by simp⟩
noncomputable def rJ:=gC fun(a:List Int)=>([.fs 1 (a.map dC)],a.length<=1048576,.fs 1 (a.map dC))
theorem j5{a:List Int}:rJ [.fs 1 (a.map dC)]=some (ptr rJ rfl a):=qK @gT
theorem Am:fO Tryz.prog 203 rJ:=gJ fun a hp=>PF.xP (DM a hp) rfl rfl (by simp only[jf,iJ,jX,iT,du,dD];exact⟨⟨by omega,fun j b=>⟨rfl,rfl⟩⟩,by rw[et rfl]⟩)
noncomputable def oB:=gC fun(c:Cu)=>([.agg [.s c.tx,.i .i64 c.place,.fs 1 (c.st.map dC),.fs 3 (c.ms.map kD),.i .i64 c.la]],c.st.length<=1048576/\c.ms.length<=1048576/\∀m∈c.ms,m.st.length<=1048576,.agg [.s c.tx,.i .i64 c.place,.fs 1 (c.st.map dC),.fs 3 (c.ms.map kD),.i .i64 c.la])
theorem wE{c:Cu}:oB [.agg [.s c.tx,.i .i64 c.place,.fs 1 (c.st.map dC),.fs 3 (c.ms.map kD),.i .i64 c.la]]=some (ptr oB rfl c):=qK (ai @gT (ai @lP @Cu.ext_iff))
theorem wF:fO Tryz.prog 178 oB:=gJ fun c hp=>by
 dsimp only at *;refine HF Am.d 38 [[1,2],[1,2,3],[2,3,17,18,19],[2,3,17,18,19,20],[2,3,5,17,18,19],[2,3,17,18,19],[2,3,17,18,19],[2]] Tryz.func178 [.cell 2 34] (fun _=>false) [2] [(1,[],[],.g (.q1 0 (.q1 2 (.q1 4 (.q1 7 (.q0 1 [1] (.q0 3 [3] (.q0 5 [5] (.q0 8 [8] (.de 6 (.q1 9 (.de 10 (.de 11 .fin .fin) .fin)) (.de 10 (.de 6 (.q1 9 (.de 11 .fin .fin)) .fin) .fin))))))))))),(5,[11,13],[2,3],.g (.q1 0 (.q1 2 (.q1 4 (.q1 6 (.q0 1 [1,11,12,13] (.q0 3 [3,9,10,11,12,13] (.q0 5 [5,9,10,11,12,13] (.q0 7 [7,8,9,10,11,12,13] (.de 8 (.q1 9 (.de 10 (.sw (.de 11 (.q1 12 (.de 13 .fin .fin)) .fin)) .fin)) .fin))))))))))] ?_;simp only[↓XC,X1,seval,dB,j5,jE,XR,XM,uB,bX];obtain⟨e,g,f⟩:=hp;refine kT.of (ι:=Unit) (fun _=>⟨[(1,.ptr 0 0 0),(2,.ptr 1 0 0),(3,.ptr 2 0 0)],[some (.gA false [.s c.tx,.i .i64 c.place,.fs 1 (c.st.map dC),.fs 3 (c.ms.map kD),.i .i64 c.la]),some (.gA false [.s [],.i .i64 0,.cQ,.cQ,.i .i64 0]),some (.gA false [.s c.tx,.i .i64 c.place,.fs 1 (c.st.map dC),.cQ,.i .i64 c.la])]⟩) ?_ ?_
 ·simp only[↓XC,X1,seval,dB,j5,jE,XR,XM,uB,bX];exact⟨by decide +kernel,bH.mk e fun _=>⟨(),cG.refl _ _⟩,bH.mk e fun _=>⟨(),cG.refl _ _⟩⟩
 rintro⟨⟩;simp only[↓XC,X1,seval,dB,j5,jE,XR,XM,uB,bX];refine cF.of (ι:={i:Nat // i<=c.ms.length}) (fun x=>⟨[(2,.ptr 1 0 0),(3,.ptr 2 0 0),(17,.fs 3 (c.ms.map kD)),(18,.i .i64 (c.ms.length:Nat)),(19,.i .i64 (x.1:Nat))],[some (.gA false [.s c.tx,.i .i64 c.place,.fs 1 (c.st.map dC),.fs 3 (c.ms.map kD),.i .i64 c.la]),some (.gA false [.s [],.i .i64 0,.cQ,.cQ,.i .i64 0]),some (.gA false [.s c.tx,.i .i64 c.place,.fs 1 (c.st.map dC),.ew 3 0 x.1,.i .i64 c.la]),some (.row false 3 x.1 (bT kD nB (c.ms.take x.1)))]⟩) (fun x=>c.ms.length-x.1) ⟨0,bF _⟩ (cG.trans (b:=⟨[(2,.ptr 1 0 0),(3,.ptr 2 0 0),(17,.fs 3 (c.ms.map kD)),(18,.i .i64 (c.ms.length:Nat)),(19,.i .i64 0)],[some (.gA false [.s c.tx,.i .i64 c.place,.fs 1 (c.st.map dC),.fs 3 (c.ms.map kD),.i .i64 c.la]),some (.gA false [.s [],.i .i64 0,.cQ,.cQ,.i .i64 0]),some (.gA false [.s c.tx,.i .i64 c.place,.fs 1 (c.st.map dC),.ew 3 0 0,.i .i64 c.la])]++([(3,bT kD nB [])].map fun p=>some (.row false p.1 0 p.2))⟩) (cG.nl [(3,bT kD nB [])] (by simp[Od,E3,Vg.look]) (by simp[L7,MI,L8,E3])) (by simp only[List.take_zero];exact cG.refl _ _)) ?_;rintro⟨i,j⟩;simp only[↓XC,X1,seval,dB,j5,jE,XR,XM,uB,bX];refine⟨fun h=>CO fun _=>?_,fun h=>?_⟩
 ·have a:i<c.ms.length:=by omega
  have hm:=f _ (kW (z:=nB) a);rw[uh a];simp only[↓XC,X1,seval,dB,j5,jE,XR,XM,uB,bX];refine⟨by decide +kernel,bH.mk hm fun _=>⟨dz rfl rfl,CO fun _=>CR fun _=>⟨⟨i+1,by omega⟩,by simp only;omega, ?_⟩⟩⟩;simp only[aP,aQ];exact(cG.cT [0,1,2,6] (by decide) (by simp only[Yd];exact⟨aM (by simp[Yf]),aM (by simp[Yf]),aM (by simp[Yf]),eU (c.ms.take i) (c.ms.getD i nB) (fun _=>rfl) (Dn nB a) (by simp;omega) rfl (fun _ _=>rfl) rfl rfl⟩) (by simp[bC,Vg.look,SV.bP,dX]))
 have d:i=c.ms.length:=by omega
 subst d;rw[eY,et rfl];exact⟨aN _,rfl⟩
end Go.T
end
section
namespace Go.T
variable[Go.Vg.df]
open Go.Proofs Go.Vg Go.RowKit Go.TT Go.Pl
set_option maxRecDepth 10000
set_option maxHeartbeats 4000000
end Go.T
end
section
namespace Go.T
variable[Go.Vg.df]
open Go.Proofs Go.Vg Go.RowKit Go.TT Go.Pl
set_option maxRecDepth 10000
set_option maxHeartbeats 4000000
end Go.T
end
section
namespace Go.T
variable[Go.Vg.df]
open Go.Proofs Go.Vg Go.RowKit Go.TT Go.Pl
set_option maxRecDepth 10000
set_option maxHeartbeats 4000000
end Go.T
end
