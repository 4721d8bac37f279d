/- The table of the types. -/
import Derived.Test.YtdkomlilfdbahaaGreatDoorMAJ
import Derived.Test.YtdkomlilfdbahaaGreatDoorProg
set_option maxRecDepth 100000
set_option maxHeartbeats 80000000
set_option linter.all false
namespace Go.Gs
open Go.Proofs
def zz:LC->LA
 |[]=>[]
 |0::l=>.bool false::zz l
 |1::l=>.slice none 0 0::zz l
 |2::l=>.int .i64 0::zz l
 |_::l=>.int .u8 0::zz l
def tt:LS:=
 [(1,⟨.other,1,8,[.nilFunc],false⟩),
 (2,⟨.int .i64,1,8,[.int .i64 0],false⟩),
 (3,⟨.int .i64,1,8,[.int .i64 0],false⟩),
 (4,⟨.bool,1,1,[.bool false],false⟩),
 (5,⟨.int .u8,1,1,[.int .u8 0],false⟩),
 (6,⟨.int .u8,1,1,[.int .u8 0],false⟩),
 (7,⟨.struct [(0,2),(1,3),(2,4),(3,6)],4,24,[.int .i64 0,.int .i64 0,.bool false,.int .u8 0],false⟩),
 (8,⟨.struct [(0,2),(1,3),(2,4),(3,6)],4,24,[.int .i64 0,.int .i64 0,.bool false,.int .u8 0],false⟩),
 (9,⟨.str,1,16,[.string ⟨#[]⟩],false⟩),
 (10,⟨.str,1,16,[.string ⟨#[]⟩],false⟩),
 (11,⟨.str,1,16,[.string ⟨#[]⟩],false⟩),
 (12,⟨.int .u64,1,8,[.int .u64 0],false⟩),
 (13,⟨.struct [(0,9),(1,12)],2,24,[.string ⟨#[]⟩,.int .u64 0],false⟩),
 (14,⟨.struct [(0,9),(1,12)],2,24,[.string ⟨#[]⟩,.int .u64 0],false⟩),
 (15,⟨.ptr 422,1,8,[.pointer none],false⟩),
 (16,⟨.ptr 425,1,8,[.pointer none],false⟩),
 (17,⟨.ptr 433,1,8,[.pointer none],false⟩),
 (20,⟨.iface,1,16,[.nilIface],false⟩),
 (23,⟨.struct [(0,5),(1,5),(2,5),(3,5)],4,4,[.int .u8 0,.int .u8 0,.int .u8 0,.int .u8 0],true⟩),
 (24,⟨.slice 60,1,24,[.slice none 0 0],false⟩),
 (26,⟨.struct [(0,3),(1,3),(2,23),(6,24)],7,48,zz [2,2,3,3,3,3,1],false⟩),
 (28,⟨.struct [(0,3),(1,3)],2,16,[.int .i64 0,.int .i64 0],true⟩),
 (30,⟨.struct [(0,3),(1,3),(2,3),(3,3)],4,32,[.int .i64 0,.int .i64 0,.int .i64 0,.int .i64 0],true⟩),
 (31,⟨.ptr 38,1,8,[.pointer none],false⟩),
 (32,⟨.slice 3,1,24,[.slice none 0 0],false⟩),
 (35,⟨.slice 30,1,24,[.slice none 0 0],false⟩),
 (36,⟨.ptr 81,1,8,[.pointer none],false⟩),
 (38,⟨.struct [(0,26),(7,35),(8,36)],9,80,[.int .i64 0,.int .i64 0,.int .u8 0,.int .u8 0,.int .u8 0,.int .u8 0,.slice none 0 0,.slice none 0 0,.pointer none],false⟩),
 (42,⟨.int .i64,1,8,[.int .i64 0],false⟩),
 (45,⟨.slice 148,1,24,[.slice none 0 0],false⟩),
 (47,⟨.struct [(0,4),(1,45)],2,32,[.bool false,.slice none 0 0],false⟩),
 (49,⟨.struct [(0,47),(2,47)],4,64,[.bool false,.slice none 0 0,.bool false,.slice none 0 0],false⟩),
 (51,⟨.struct [(0,49),(4,49),(8,49),(12,49),(16,49),(20,49)],24,384,zz [0,1,0,1,0,1,0,1,0,1,0,1,0,1,0,1,0,1,0,1,0,1,0,1],false⟩),
 (52,⟨.slice 62,1,24,[.slice none 0 0],false⟩),
 (53,⟨.slice 72,1,24,[.slice none 0 0],false⟩),
 (55,⟨.struct [(0,3),(1,3),(2,3),(3,3),(4,32),(5,3)],6,64,zz [2,2,2,2,1,2],false⟩),
 (56,⟨.slice 131,1,24,[.slice none 0 0],false⟩),
 (58,⟨.struct [(0,3),(1,3),(2,56)],3,40,[.int .i64 0,.int .i64 0,.slice none 0 0],false⟩),
 (60,⟨.struct [(0,3),(1,3),(2,3),(3,51),(27,52),(28,3),(29,5),(30,3),(31,4),(32,4),(33,52),(34,3),(35,53),(36,55),(42,53),(43,58),(46,3)],47,656,zz [2,2,2,0,1,0,1,0,1,0,1,0,1,0,1,0,1,0,1,0,1,0,1,0,1,0,1,1,2,3,2,0,0,1,2,1,2,2,2,2,1,2,1,2,2,1,2],false⟩),
 (62,⟨.struct [(0,3),(1,28),(3,28),(5,28)],7,56,zz [2,2,2,2,2,2,2],true⟩),
 (64,⟨.other,1,8,[.nilFunc],false⟩),
 (67,⟨.int .u64,1,8,[.int .u64 0],false⟩),
 (70,⟨.slice 178,1,24,[.slice none 0 0],false⟩),
 (72,⟨.struct [(0,3),(1,23),(5,28),(7,28),(9,3),(10,70),(11,3),(12,58),(15,3),(16,51)],40,520,zz [2,3,3,3,3,2,2,2,2,2,1,2,2,2,1,2,0,1,0,1,0,1,0,1,0,1,0,1,0,1,0,1,0,1,0,1,0,1,0,1],false⟩),
 (79,⟨.slice 36,1,24,[.slice none 0 0],false⟩),
 (81,⟨.struct [(0,30),(4,32),(5,79)],6,80,zz [2,2,2,2,1,1],false⟩),
 (88,⟨.slice 156,1,24,[.slice none 0 0],false⟩),
 (91,⟨.slice 49,1,24,[.slice none 0 0],false⟩),
 (96,⟨.other,1,8,[.nilFunc],false⟩),
 (100,⟨.slice 88,1,24,[.slice none 0 0],false⟩),
 (115,⟨.struct [(0,51),(24,4)],25,392,zz [0,1,0,1,0,1,0,1,0,1,0,1,0,1,0,1,0,1,0,1,0,1,0,1,0],false⟩),
 (117,⟨.struct [(0,115),(25,60)],72,1048,zz [0,1,0,1,0,1,0,1,0,1,0,1,0,1,0,1,0,1,0,1,0,1,0,1,0,2,2,2,0,1,0,1,0,1,0,1,0,1,0,1,0,1,0,1,0,1,0,1,0,1,0,1,1,2,3,2,0,0,1,2,1,2,2,2,2,1,2,1,2,2,1,2],false⟩),
 (126,⟨.other,1,8,[.nilFunc],false⟩),
 (128,⟨.map 3 4,1,8,[.map none],false⟩),
 (131,⟨.struct [(0,5),(1,5),(2,5),(3,5)],4,4,[.int .u8 0,.int .u8 0,.int .u8 0,.int .u8 0],true⟩),
 (141,⟨.int .i64,1,8,[.int .i64 0],false⟩),
 (148,⟨.int .u32,1,4,[.int .u32 0],false⟩),
 (150,⟨.int .u64,1,8,[.int .u64 0],false⟩),
 (152,⟨.map 3 3,1,8,[.map none],false⟩),
 (156,⟨.slice 28,1,24,[.slice none 0 0],false⟩),
 (167,⟨.iface,1,16,[.nilIface],false⟩),
 (170,⟨.struct [(0,42),(1,167)],2,24,[.int .i64 0,.nilIface],false⟩),
 (172,⟨.ptr 170,1,8,[.pointer none],false⟩),
 (173,⟨.ptr 49,1,8,[.pointer none],false⟩),
 (174,⟨.slice 173,1,24,[.slice none 0 0],false⟩),
 (175,⟨.ptr 72,1,8,[.pointer none],false⟩),
 (178,⟨.struct [(0,3),(1,23)],5,16,[.int .i64 0,.int .u8 0,.int .u8 0,.int .u8 0,.int .u8 0],true⟩),
 (180,⟨.slice 51,1,24,[.slice none 0 0],false⟩),
 (184,⟨.slice 191,1,24,[.slice none 0 0],false⟩),
 (191,⟨.struct [(0,156),(1,4)],2,32,[.slice none 0 0,.bool false],false⟩),
 (202,⟨.int .i64,1,8,[.int .i64 0],false⟩),
 (224,⟨.int .u64,1,8,[.int .u64 0],false⟩),
 (226,⟨.struct [(0,17),(1,223),(2,224)],3,24,[.pointer none,.pointer none,.int .u64 0],false⟩),
 (229,⟨.iface,1,16,[.nilIface],false⟩),
 (231,⟨.int .u8,1,1,[.int .u8 0],false⟩),
 (239,⟨.arr 3 28,6,48,zz [2,2,2,2,2,2],false⟩),
 (250,⟨.slice 252,1,24,[.slice none 0 0],false⟩),
 (252,⟨.arr 2 3,2,16,[.int .i64 0,.int .i64 0],true⟩),
 (263,⟨.ptr 191,1,8,[.pointer none],false⟩),
 (268,⟨.struct [(0,156),(1,32),(2,3)],3,56,[.slice none 0 0,.slice none 0 0,.int .i64 0],false⟩),
 (282,⟨.slice 167,1,24,[.slice none 0 0],false⟩),
 (284,⟨.arr 6 49,24,384,zz [0,1,0,1,0,1,0,1,0,1,0,1,0,1,0,1,0,1,0,1,0,1,0,1],false⟩),
 (319,⟨.ptr 28,1,8,[.pointer none],false⟩),
 (320,⟨.slice 319,1,24,[.slice none 0 0],false⟩),
 (323,⟨.arr 4 28,8,64,zz [2,2,2,2,2,2,2,2],false⟩),
 (328,⟨.other,1,8,[.nilFunc],false⟩),
 (362,⟨.struct [(0,55)],6,64,zz [2,2,2,2,1,2],false⟩),
 (403,⟨.arr 16 28,32,256,zz [2,2,2,2,2,2,2,2,2,2,2,2,2,2,2,2,2,2,2,2,2,2,2,2,2,2,2,2,2,2,2,2],false⟩),
 (411,⟨.struct [(0,150),(1,150),(2,150)],3,24,[.int .u64 0,.int .u64 0,.int .u64 0],true⟩),
 (422,⟨.struct [(0,17),(1,17),(2,17),(3,9)],4,40,[.pointer none,.pointer none,.pointer none,.string ⟨#[]⟩],false⟩),
 (423,⟨.arr 0 16,0,0,[],false⟩),
 (425,⟨.struct [(0,423)],0,0,[],false⟩),
 (427,⟨.int .u8,1,1,[.int .u8 0],false⟩),
 (428,⟨.other,1,8,[.nilFunc],false⟩),
 (429,⟨.ptr 5,1,8,[.pointer none],false⟩),
 (430,⟨.int .i32,1,4,[.int .i32 0],false⟩),
 (431,⟨.int .i32,1,4,[.int .i32 0],false⟩),
 (433,⟨.struct [(0,12),(1,12),(2,148),(3,427),(4,5),(5,5),(6,231),(7,428),(8,429),(9,430),(10,431)],11,48,[.int .u64 0,.int .u64 0,.int .u32 0,.int .u8 0,.int .u8 0,.int .u8 0,.int .u8 0,.nilFunc,.pointer none,.int .i32 0,.int .i32 0],false⟩)]
def tok:TOK Tryz.prog tt:=zGz (by decide +kernel)
def mix:Tryz.prog.follows .mixedOrders=true:=by decide +kernel
abbrev CG0:=kL Tryz.prog
def zzR(fn:Func):Code:=fn.body.getD .skip
def zc{f:FuncId}{fn:Func}{args:LR}{r:SV}(g:Tryz.prog.funcs[f]?=some fn)(h:js Tryz.prog tt (zzR fn) ⟨qG 0 args,[],0,fn.ntmps,0⟩ (endV tt fn.results.toList r))(d:fn.body.isSome=true:=by rfl)(i:(fn.name== "runtime.NumGoroutine")=false:=by rfl) (a:Nat.ble args.length fn.ntmps=true:=by rfl):CG0 f args [] r []:=by
 obtain⟨c,b⟩:=Yn.1 d;have e:zzR fn=c:=by unfold zzR;rw[b];rfl
 rw[e]at h;exact zzK tok mix g b i a h
abbrev CX(f)(a:LR)(r):=CG0 f a [] r []
end Go.Gs
