/- The table of the types. -/
import Derived.Test.YtlckjbeknkkllaaGreatDoorMAG
import Derived.Test.YtlckjbeknkkllaaGreatDoorProg
set_option maxRecDepth 100000
set_option maxHeartbeats 8000000
set_option linter.all false
namespace Go.Gs
open Go.Proofs
def zz:LB->LZ
 |[]=>[]
 |0::l=>.bool false::zz l
 |1::l=>.slice none 0 0::zz l
 |2::l=>.int .i64 0::zz l
 |_::l=>.int .u8 0::zz l
def tt:LS:=
 [(1,⟨.other,1,8,[.nilFunc],false⟩),
 (2,⟨.int .i64,1,8,[.int .i64 0],false⟩),
 (3,⟨.int .i64,1,8,[.int .i64 0],false⟩),
 (4,⟨.bool,1,1,[.bool false],false⟩),
 (5,⟨.int .u8,1,1,[.int .u8 0],false⟩),
 (6,⟨.int .u8,1,1,[.int .u8 0],false⟩),
 (7,⟨.struct [(0,2),(1,3),(2,4),(3,6)],4,24,[.int .i64 0,.int .i64 0,.bool false,.int .u8 0],false⟩),
 (8,⟨.struct [(0,2),(1,3),(2,4),(3,6)],4,24,[.int .i64 0,.int .i64 0,.bool false,.int .u8 0],false⟩),
 (9,⟨.str,1,16,[.string ⟨#[]⟩],false⟩),
 (10,⟨.str,1,16,[.string ⟨#[]⟩],false⟩),
 (11,⟨.str,1,16,[.string ⟨#[]⟩],false⟩),
 (12,⟨.int .u64,1,8,[.int .u64 0],false⟩),
 (13,⟨.struct [(0,9),(1,12)],2,24,[.string ⟨#[]⟩,.int .u64 0],false⟩),
 (14,⟨.struct [(0,9),(1,12)],2,24,[.string ⟨#[]⟩,.int .u64 0],false⟩),
 (15,⟨.ptr 427,1,8,[.pointer none],false⟩),
 (16,⟨.ptr 430,1,8,[.pointer none],false⟩),
 (17,⟨.ptr 438,1,8,[.pointer none],false⟩),
 (20,⟨.iface,1,16,[.nilIface],false⟩),
 (23,⟨.struct [(0,5),(1,5),(2,5),(3,5)],4,4,[.int .u8 0,.int .u8 0,.int .u8 0,.int .u8 0],true⟩),
 (24,⟨.slice 65,1,24,[.slice none 0 0],false⟩),
 (26,⟨.struct [(0,3),(1,3),(2,23),(6,24)],7,48,zz [2,2,3,3,3,3,1],false⟩),
 (28,⟨.struct [(0,3),(1,3)],2,16,[.int .i64 0,.int .i64 0],true⟩),
 (31,⟨.slice 3,1,24,[.slice none 0 0],false⟩),
 (32,⟨.other,1,8,[.nilFunc],false⟩),
 (34,⟨.other,1,8,[.nilFunc],false⟩),
 (35,⟨.other,1,8,[.nilFunc],false⟩),
 (43,⟨.slice 166,1,24,[.slice none 0 0],false⟩),
 (45,⟨.struct [(0,4),(1,43)],2,32,[.bool false,.slice none 0 0],false⟩),
 (47,⟨.struct [(0,45),(2,45)],4,64,[.bool false,.slice none 0 0,.bool false,.slice none 0 0],false⟩),
 (49,⟨.struct [(0,47),(4,47),(8,47),(12,47),(16,47),(20,47)],24,384,zz [0,1,0,1,0,1,0,1,0,1,0,1,0,1,0,1,0,1,0,1,0,1,0,1],false⟩),
 (51,⟨.slice 83,1,24,[.slice none 0 0],false⟩),
 (54,⟨.struct [(0,3),(1,3),(2,3),(3,3)],4,32,[.int .i64 0,.int .i64 0,.int .i64 0,.int .i64 0],true⟩),
 (55,⟨.slice 182,1,24,[.slice none 0 0],false⟩),
 (56,⟨.slice 139,1,24,[.slice none 0 0],false⟩),
 (58,⟨.struct [(0,3),(1,3),(2,56)],3,40,[.int .i64 0,.int .i64 0,.slice none 0 0],false⟩),
 (60,⟨.struct [(0,3),(1,23),(5,28),(7,28),(9,3),(10,55),(11,3),(12,58),(15,3),(16,49)],40,520,zz [2,3,3,3,3,2,2,2,2,2,1,2,2,2,1,2,0,1,0,1,0,1,0,1,0,1,0,1,0,1,0,1,0,1,0,1,0,1,0,1],false⟩),
 (61,⟨.slice 60,1,24,[.slice none 0 0],false⟩),
 (63,⟨.struct [(0,3),(1,3),(2,3),(3,3),(4,31),(5,3)],6,64,zz [2,2,2,2,1,2],false⟩),
 (64,⟨.struct [(0,3),(1,3),(2,3),(3,49),(27,51),(28,3),(29,5),(30,3),(31,4),(32,4),(33,51),(34,3),(35,61),(36,63),(42,61),(43,58),(46,3)],47,656,zz [2,2,2,0,1,0,1,0,1,0,1,0,1,0,1,0,1,0,1,0,1,0,1,0,1,0,1,1,2,3,2,0,0,1,2,1,2,2,2,2,1,2,1,2,2,1,2],false⟩),
 (65,⟨.struct [(0,3),(1,3),(2,3),(3,49),(27,51),(28,3),(29,5),(30,3),(31,4),(32,4),(33,51),(34,3),(35,61),(36,63),(42,61),(43,58),(46,3)],47,656,zz [2,2,2,0,1,0,1,0,1,0,1,0,1,0,1,0,1,0,1,0,1,0,1,0,1,0,1,1,2,3,2,0,0,1,2,1,2,2,2,2,1,2,1,2,2,1,2],false⟩),
 (66,⟨.ptr 81,1,8,[.pointer none],false⟩),
 (67,⟨.int .i64,1,8,[.int .i64 0],false⟩),
 (74,⟨.arr 2 54,8,64,zz [2,2,2,2,2,2,2,2],false⟩),
 (76,⟨.int .u64,1,8,[.int .u64 0],false⟩),
 (78,⟨.slice 54,1,24,[.slice none 0 0],false⟩),
 (79,⟨.ptr 98,1,8,[.pointer none],false⟩),
 (81,⟨.struct [(0,26),(7,78),(8,79)],9,80,[.int .i64 0,.int .i64 0,.int .u8 0,.int .u8 0,.int .u8 0,.int .u8 0,.slice none 0 0,.slice none 0 0,.pointer none],false⟩),
 (83,⟨.struct [(0,3),(1,28),(3,28),(5,28)],7,56,zz [2,2,2,2,2,2,2],true⟩),
 (88,⟨.other,1,8,[.nilFunc],false⟩),
 (96,⟨.slice 79,1,24,[.slice none 0 0],false⟩),
 (98,⟨.struct [(0,54),(4,31),(5,96)],6,80,zz [2,2,2,2,1,1],false⟩),
 (102,⟨.slice 47,1,24,[.slice none 0 0],false⟩),
 (104,⟨.slice 155,1,24,[.slice none 0 0],false⟩),
 (112,⟨.slice 104,1,24,[.slice none 0 0],false⟩),
 (124,⟨.struct [(0,49),(24,4)],25,392,zz [0,1,0,1,0,1,0,1,0,1,0,1,0,1,0,1,0,1,0,1,0,1,0,1,0],false⟩),
 (126,⟨.struct [(0,124),(25,65)],72,1048,zz [0,1,0,1,0,1,0,1,0,1,0,1,0,1,0,1,0,1,0,1,0,1,0,1,0,2,2,2,0,1,0,1,0,1,0,1,0,1,0,1,0,1,0,1,0,1,0,1,0,1,0,1,1,2,3,2,0,0,1,2,1,2,2,2,2,1,2,1,2,2,1,2],false⟩),
 (135,⟨.map 3 4,1,8,[.map none],false⟩),
 (139,⟨.struct [(0,5),(1,5),(2,5),(3,5)],4,4,[.int .u8 0,.int .u8 0,.int .u8 0,.int .u8 0],true⟩),
 (151,⟨.map 3 3,1,8,[.map none],false⟩),
 (155,⟨.slice 28,1,24,[.slice none 0 0],false⟩),
 (164,⟨.int .u64,1,8,[.int .u64 0],false⟩),
 (166,⟨.int .u32,1,4,[.int .u32 0],false⟩),
 (171,⟨.iface,1,16,[.nilIface],false⟩),
 (174,⟨.struct [(0,67),(1,171)],2,24,[.int .i64 0,.nilIface],false⟩),
 (176,⟨.ptr 174,1,8,[.pointer none],false⟩),
 (177,⟨.ptr 47,1,8,[.pointer none],false⟩),
 (178,⟨.slice 177,1,24,[.slice none 0 0],false⟩),
 (179,⟨.ptr 60,1,8,[.pointer none],false⟩),
 (182,⟨.struct [(0,3),(1,23)],5,16,[.int .i64 0,.int .u8 0,.int .u8 0,.int .u8 0,.int .u8 0],true⟩),
 (185,⟨.int .i64,1,8,[.int .i64 0],false⟩),
 (193,⟨.slice 49,1,24,[.slice none 0 0],false⟩),
 (197,⟨.slice 204,1,24,[.slice none 0 0],false⟩),
 (204,⟨.struct [(0,155),(1,4)],2,32,[.slice none 0 0,.bool false],false⟩),
 (209,⟨.int .i64,1,8,[.int .i64 0],false⟩),
 (231,⟨.int .u64,1,8,[.int .u64 0],false⟩),
 (233,⟨.struct [(0,17),(1,230),(2,231)],3,24,[.pointer none,.pointer none,.int .u64 0],false⟩),
 (236,⟨.iface,1,16,[.nilIface],false⟩),
 (238,⟨.int .u8,1,1,[.int .u8 0],false⟩),
 (250,⟨.arr 3 28,6,48,zz [2,2,2,2,2,2],false⟩),
 (263,⟨.arr 2 3,2,16,[.int .i64 0,.int .i64 0],true⟩),
 (271,⟨.ptr 204,1,8,[.pointer none],false⟩),
 (276,⟨.struct [(0,155),(1,31),(2,3)],3,56,[.slice none 0 0,.slice none 0 0,.int .i64 0],false⟩),
 (292,⟨.slice 171,1,24,[.slice none 0 0],false⟩),
 (294,⟨.arr 6 47,24,384,zz [0,1,0,1,0,1,0,1,0,1,0,1,0,1,0,1,0,1,0,1,0,1,0,1],false⟩),
 (332,⟨.ptr 28,1,8,[.pointer none],false⟩),
 (333,⟨.slice 332,1,24,[.slice none 0 0],false⟩),
 (336,⟨.arr 4 28,8,64,zz [2,2,2,2,2,2,2,2],false⟩),
 (341,⟨.other,1,8,[.nilFunc],false⟩),
 (375,⟨.struct [(0,63)],6,64,zz [2,2,2,2,1,2],false⟩),
 (408,⟨.arr 16 28,32,256,zz [2,2,2,2,2,2,2,2,2,2,2,2,2,2,2,2,2,2,2,2,2,2,2,2,2,2,2,2,2,2,2,2],false⟩),
 (416,⟨.struct [(0,164),(1,164),(2,164)],3,24,[.int .u64 0,.int .u64 0,.int .u64 0],true⟩),
 (427,⟨.struct [(0,17),(1,17),(2,17),(3,9)],4,40,[.pointer none,.pointer none,.pointer none,.string ⟨#[]⟩],false⟩),
 (428,⟨.arr 0 16,0,0,[],false⟩),
 (430,⟨.struct [(0,428)],0,0,[],false⟩),
 (432,⟨.int .u8,1,1,[.int .u8 0],false⟩),
 (433,⟨.other,1,8,[.nilFunc],false⟩),
 (434,⟨.ptr 5,1,8,[.pointer none],false⟩),
 (435,⟨.int .i32,1,4,[.int .i32 0],false⟩),
 (436,⟨.int .i32,1,4,[.int .i32 0],false⟩),
 (438,⟨.struct [(0,12),(1,12),(2,166),(3,432),(4,5),(5,5),(6,238),(7,433),(8,434),(9,435),(10,436)],11,48,[.int .u64 0,.int .u64 0,.int .u32 0,.int .u8 0,.int .u8 0,.int .u8 0,.int .u8 0,.nilFunc,.pointer none,.int .i32 0,.int .i32 0],false⟩)]
def tok:TOK Tryz.prog tt:=zDT (by decide +kernel)
def mix:Tryz.prog.follows .mixedOrders=true:=by decide +kernel
abbrev CG0:=kK Tryz.prog
def zw8(fn:Func):Code:=fn.body.getD .skip
def zd{f:FuncId}{fn:Func}{args:LQ}{r:SV}(hf:Tryz.prog.funcs[f]?=some fn)(h:qS Tryz.prog tt (zw8 fn) ⟨qI 0 args,[],0,fn.ntmps,0⟩ (endV tt fn.results.toList r))(hb:fn.body.isSome=true:=by rfl)(hn:(fn.name== "runtime.NumGoroutine")=false:=by rfl) (hle:Nat.ble args.length fn.ntmps=true:=by rfl):CG0 f args [] r []:=by
 obtain⟨c,hc⟩:=Yd.1 hb;have e:zw8 fn=c:=by unfold zw8;rw[hc];rfl
 rw[e]at h;exact zw3 tok mix hf hc hn hle h
abbrev CX(f)(a:LQ)(r):=CG0 f a [] r []
end Go.Gs
