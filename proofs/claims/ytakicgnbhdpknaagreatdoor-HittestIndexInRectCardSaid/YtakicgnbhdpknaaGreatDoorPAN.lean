/- The table of the types. -/
import Derived.Test.YtakicgnbhdpknaaGreatDoorPAM
import Derived.Test.YtakicgnbhdpknaaGreatDoorProg
set_option maxRecDepth 100000
set_option maxHeartbeats 8000000
set_option linter.all false
namespace Go.Gs
open Go.Proofs
def zz:LC->LA
 |[]=>[]
 |0::l=>.bool false::zz l
 |1::l=>.slice none 0 0::zz l
 |2::l=>.int .i64 0::zz l
 |_::l=>.int .u8 0::zz l
def tt:LS:=
 [(1,⟨.other,1,8,[.nilFunc],false⟩),
 (2,⟨.int .i64,1,8,[.int .i64 0],false⟩),
 (3,⟨.int .i64,1,8,[.int .i64 0],false⟩),
 (4,⟨.bool,1,1,[.bool false],false⟩),
 (5,⟨.int .u8,1,1,[.int .u8 0],false⟩),
 (6,⟨.int .u8,1,1,[.int .u8 0],false⟩),
 (7,⟨.struct [(0,2),(1,3),(2,4),(3,6)],4,24,[.int .i64 0,.int .i64 0,.bool false,.int .u8 0],false⟩),
 (8,⟨.struct [(0,2),(1,3),(2,4),(3,6)],4,24,[.int .i64 0,.int .i64 0,.bool false,.int .u8 0],false⟩),
 (9,⟨.str,1,16,[.string ⟨#[]⟩],false⟩),
 (10,⟨.str,1,16,[.string ⟨#[]⟩],false⟩),
 (11,⟨.str,1,16,[.string ⟨#[]⟩],false⟩),
 (12,⟨.int .u64,1,8,[.int .u64 0],false⟩),
 (13,⟨.struct [(0,9),(1,12)],2,24,[.string ⟨#[]⟩,.int .u64 0],false⟩),
 (14,⟨.struct [(0,9),(1,12)],2,24,[.string ⟨#[]⟩,.int .u64 0],false⟩),
 (15,⟨.ptr 424,1,8,[.pointer none],false⟩),
 (16,⟨.ptr 427,1,8,[.pointer none],false⟩),
 (17,⟨.ptr 435,1,8,[.pointer none],false⟩),
 (20,⟨.iface,1,16,[.nilIface],false⟩),
 (23,⟨.struct [(0,5),(1,5),(2,5),(3,5)],4,4,[.int .u8 0,.int .u8 0,.int .u8 0,.int .u8 0],true⟩),
 (24,⟨.slice 66,1,24,[.slice none 0 0],false⟩),
 (26,⟨.struct [(0,3),(1,3),(2,23),(6,24)],7,48,zz [2,2,3,3,3,3,1],false⟩),
 (28,⟨.struct [(0,3),(1,3)],2,16,[.int .i64 0,.int .i64 0],true⟩),
 (31,⟨.slice 3,1,24,[.slice none 0 0],false⟩),
 (32,⟨.other,1,8,[.nilFunc],false⟩),
 (34,⟨.other,1,8,[.nilFunc],false⟩),
 (35,⟨.other,1,8,[.nilFunc],false⟩),
 (41,⟨.ptr 82,1,8,[.pointer none],false⟩),
 (42,⟨.int .i64,1,8,[.int .i64 0],false⟩),
 (47,⟨.struct [(0,3),(1,3),(2,3),(3,3)],4,32,[.int .i64 0,.int .i64 0,.int .i64 0,.int .i64 0],true⟩),
 (51,⟨.slice 179,1,24,[.slice none 0 0],false⟩),
 (53,⟨.struct [(0,4),(1,51)],2,32,[.bool false,.slice none 0 0],false⟩),
 (55,⟨.struct [(0,53),(2,53)],4,64,[.bool false,.slice none 0 0,.bool false,.slice none 0 0],false⟩),
 (57,⟨.struct [(0,55),(4,55),(8,55),(12,55),(16,55),(20,55)],24,384,zz [0,1,0,1,0,1,0,1,0,1,0,1,0,1,0,1,0,1,0,1,0,1,0,1],false⟩),
 (58,⟨.slice 108,1,24,[.slice none 0 0],false⟩),
 (59,⟨.slice 70,1,24,[.slice none 0 0],false⟩),
 (61,⟨.struct [(0,3),(1,3),(2,3),(3,3),(4,31),(5,3)],6,64,zz [2,2,2,2,1,2],false⟩),
 (62,⟨.slice 129,1,24,[.slice none 0 0],false⟩),
 (64,⟨.struct [(0,3),(1,3),(2,62)],3,40,[.int .i64 0,.int .i64 0,.slice none 0 0],false⟩),
 (66,⟨.struct [(0,3),(1,3),(2,3),(3,57),(27,58),(28,3),(29,5),(30,3),(31,4),(32,4),(33,58),(34,3),(35,59),(36,61),(42,59),(43,64),(46,3)],47,656,zz [2,2,2,0,1,0,1,0,1,0,1,0,1,0,1,0,1,0,1,0,1,0,1,0,1,0,1,1,2,3,2,0,0,1,2,1,2,2,2,2,1,2,1,2,2,1,2],false⟩),
 (68,⟨.slice 164,1,24,[.slice none 0 0],false⟩),
 (70,⟨.struct [(0,3),(1,23),(5,28),(7,28),(9,3),(10,68),(11,3),(12,64),(15,3),(16,57)],40,520,zz [2,3,3,3,3,2,2,2,2,2,1,2,2,2,1,2,0,1,0,1,0,1,0,1,0,1,0,1,0,1,0,1,0,1,0,1,0,1,0,1],false⟩),
 (73,⟨.other,1,8,[.nilFunc],false⟩),
 (76,⟨.slice 47,1,24,[.slice none 0 0],false⟩),
 (77,⟨.ptr 80,1,8,[.pointer none],false⟩),
 (78,⟨.slice 77,1,24,[.slice none 0 0],false⟩),
 (80,⟨.struct [(0,47),(4,31),(5,78)],6,80,zz [2,2,2,2,1,1],false⟩),
 (82,⟨.struct [(0,26),(7,76),(8,77)],9,80,[.int .i64 0,.int .i64 0,.int .u8 0,.int .u8 0,.int .u8 0,.int .u8 0,.slice none 0 0,.slice none 0 0,.pointer none],false⟩),
 (89,⟨.int .u64,1,8,[.int .u64 0],false⟩),
 (90,⟨.slice 55,1,24,[.slice none 0 0],false⟩),
 (94,⟨.slice 148,1,24,[.slice none 0 0],false⟩),
 (99,⟨.slice 94,1,24,[.slice none 0 0],false⟩),
 (108,⟨.struct [(0,3),(1,28),(3,28),(5,28)],7,56,zz [2,2,2,2,2,2,2],true⟩),
 (116,⟨.struct [(0,57),(24,4)],25,392,zz [0,1,0,1,0,1,0,1,0,1,0,1,0,1,0,1,0,1,0,1,0,1,0,1,0],false⟩),
 (118,⟨.struct [(0,116),(25,66)],72,1048,zz [0,1,0,1,0,1,0,1,0,1,0,1,0,1,0,1,0,1,0,1,0,1,0,1,0,2,2,2,0,1,0,1,0,1,0,1,0,1,0,1,0,1,0,1,0,1,0,1,0,1,0,1,1,2,3,2,0,0,1,2,1,2,2,2,2,1,2,1,2,2,1,2],false⟩),
 (122,⟨.map 3 4,1,8,[.map none],false⟩),
 (129,⟨.struct [(0,5),(1,5),(2,5),(3,5)],4,4,[.int .u8 0,.int .u8 0,.int .u8 0,.int .u8 0],true⟩),
 (144,⟨.map 3 3,1,8,[.map none],false⟩),
 (148,⟨.slice 28,1,24,[.slice none 0 0],false⟩),
 (152,⟨.iface,1,16,[.nilIface],false⟩),
 (155,⟨.struct [(0,42),(1,152)],2,24,[.int .i64 0,.nilIface],false⟩),
 (157,⟨.ptr 155,1,8,[.pointer none],false⟩),
 (158,⟨.ptr 55,1,8,[.pointer none],false⟩),
 (159,⟨.slice 158,1,24,[.slice none 0 0],false⟩),
 (161,⟨.ptr 70,1,8,[.pointer none],false⟩),
 (164,⟨.struct [(0,3),(1,23)],5,16,[.int .i64 0,.int .u8 0,.int .u8 0,.int .u8 0,.int .u8 0],true⟩),
 (172,⟨.int .i64,1,8,[.int .i64 0],false⟩),
 (179,⟨.int .u32,1,4,[.int .u32 0],false⟩),
 (181,⟨.int .u64,1,8,[.int .u64 0],false⟩),
 (182,⟨.slice 57,1,24,[.slice none 0 0],false⟩),
 (186,⟨.slice 193,1,24,[.slice none 0 0],false⟩),
 (193,⟨.struct [(0,148),(1,4)],2,32,[.slice none 0 0,.bool false],false⟩),
 (201,⟨.int .i64,1,8,[.int .i64 0],false⟩),
 (213,⟨.int .u64,1,8,[.int .u64 0],false⟩),
 (215,⟨.struct [(0,17),(1,212),(2,213)],3,24,[.pointer none,.pointer none,.int .u64 0],false⟩),
 (218,⟨.iface,1,16,[.nilIface],false⟩),
 (220,⟨.int .u8,1,1,[.int .u8 0],false⟩),
 (241,⟨.arr 3 28,6,48,zz [2,2,2,2,2,2],false⟩),
 (252,⟨.slice 254,1,24,[.slice none 0 0],false⟩),
 (254,⟨.arr 2 3,2,16,[.int .i64 0,.int .i64 0],true⟩),
 (266,⟨.ptr 193,1,8,[.pointer none],false⟩),
 (271,⟨.struct [(0,148),(1,31),(2,3)],3,56,[.slice none 0 0,.slice none 0 0,.int .i64 0],false⟩),
 (279,⟨.slice 152,1,24,[.slice none 0 0],false⟩),
 (281,⟨.arr 6 55,24,384,zz [0,1,0,1,0,1,0,1,0,1,0,1,0,1,0,1,0,1,0,1,0,1,0,1],false⟩),
 (323,⟨.ptr 28,1,8,[.pointer none],false⟩),
 (324,⟨.slice 323,1,24,[.slice none 0 0],false⟩),
 (327,⟨.arr 4 28,8,64,zz [2,2,2,2,2,2,2,2],false⟩),
 (332,⟨.other,1,8,[.nilFunc],false⟩),
 (369,⟨.struct [(0,61)],6,64,zz [2,2,2,2,1,2],false⟩),
 (405,⟨.arr 16 28,32,256,zz [2,2,2,2,2,2,2,2,2,2,2,2,2,2,2,2,2,2,2,2,2,2,2,2,2,2,2,2,2,2,2,2],false⟩),
 (413,⟨.struct [(0,181),(1,181),(2,181)],3,24,[.int .u64 0,.int .u64 0,.int .u64 0],true⟩),
 (424,⟨.struct [(0,17),(1,17),(2,17),(3,9)],4,40,[.pointer none,.pointer none,.pointer none,.string ⟨#[]⟩],false⟩),
 (425,⟨.arr 0 16,0,0,[],false⟩),
 (427,⟨.struct [(0,425)],0,0,[],false⟩),
 (429,⟨.int .u8,1,1,[.int .u8 0],false⟩),
 (430,⟨.other,1,8,[.nilFunc],false⟩),
 (431,⟨.ptr 5,1,8,[.pointer none],false⟩),
 (432,⟨.int .i32,1,4,[.int .i32 0],false⟩),
 (433,⟨.int .i32,1,4,[.int .i32 0],false⟩),
 (435,⟨.struct [(0,12),(1,12),(2,179),(3,429),(4,5),(5,5),(6,220),(7,430),(8,431),(9,432),(10,433)],11,48,[.int .u64 0,.int .u64 0,.int .u32 0,.int .u8 0,.int .u8 0,.int .u8 0,.int .u8 0,.nilFunc,.pointer none,.int .i32 0,.int .i32 0],false⟩)]
def tok:TOK Tryz.prog tt:=zFI (by decide +kernel)
def mix:Tryz.prog.follows .mixedOrders=true:=by decide +kernel
abbrev CG0:=qg Tryz.prog
def zzd(fn:Func):Code:=fn.body.getD .skip
def zc{f:FuncId}{fn:Func}{args:LR}{r:SV}(g:Tryz.prog.funcs[f]?=some fn)(h:jw Tryz.prog tt (zzd fn) ⟨jm 0 args,[],0,fn.ntmps,0⟩ (endV tt fn.results.toList r))(d:fn.body.isSome=true:=by rfl)(i:(fn.name== "runtime.NumGoroutine")=false:=by rfl) (a:Nat.ble args.length fn.ntmps=true:=by rfl):CG0 f args [] r []:=by
 obtain⟨c,b⟩:=Yh.1 d;have e:zzd fn=c:=by unfold zzd;rw[b];rfl
 rw[e]at h;exact zy6 tok mix g b i a h
abbrev CX(f)(a:LR)(r):=CG0 f a [] r []
end Go.Gs
