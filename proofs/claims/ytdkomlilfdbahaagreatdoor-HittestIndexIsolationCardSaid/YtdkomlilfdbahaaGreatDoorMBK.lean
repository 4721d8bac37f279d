/- What the closed facts of a row ask of the program alone, each by itself. -/
import Derived.Test.YtdkomlilfdbahaaGreatDoorMA
import Derived.Test.YtdkomlilfdbahaaGreatDoorRows
import Derived.WalkKit
import Derived.ProofKit
import Derived.OpenShut
import Derived.JoinedOf
import Derived.LaidByTextLater
import Derived.SevenTiedAt
import Derived.LaidOnce
set_option maxRecDepth 100000
set_option maxHeartbeats 80000000
set_option linter.all false
namespace Go.Gs
open Proofs.Tryz
open Go.Proofs Go.Proofs.YtdkomlilfdbahaaGreatDoor
def dflt:OpenClaim:={ program:= "",sum:= "",func:= "",spec:= "" }
def j_laid:laidOutB Tryz.pinned.checked.prog=true:=by kernel_rfl
def j_enter:Tryz.pinned.checked.prog.mayEnter=true:=by kernel_rfl
def j_lifts:Tryz.pinned.checked.prog.liftsFinal=dflt.lifted:=by kernel_rfl
def j_make:Tryz.pinned.checked.prog.make=some dflt.make:=by kernel_rfl
def j_heard:Tryz.pinned.checked.prog.stopsHeard=true:=by kernel_rfl
def j_rowed:mapsRowed Tryz.pinned.checked.prog=true:=by kernel_rfl
def j_keys:Tryz.pinned.checked.prog.plainKeys=dflt.plainKeys:=by kernel_rfl
def zm1:List (String×DataW Unit):=[("errors.errorType",Rows.laid_errors_errorType)]
def j_t1:prog.worded (varsWordLater true)=true:=by kernel_rfl
def j_t2:prog.worded (varsWordLater !true)=false:=by kernel_rfl
def j_t3:prog.worded rootWordLater=true:=by kernel_rfl
def j_t4:zm1.map (λx=>prog.kindOfLater x.1)=[LaidKind.handle].map some:=by kernel_rfl
def j_t5:(prog.funcNamed "gosem.cut.vars").isSome=true:=by kernel_rfl
def j_t6:varsNamedLaterB prog (varsId prog) zm1=true:=by kernel_rfl
def j_t7:∀os tape,doorLeaves prog 16 8 2 zm1 os tape=some (zm1.filter λx=>x.2.handleName?.isNone,(funcsListed zm1).map (·.2.funcsOut)):=λ_ _=>by kernel_rfl
def j_unsafe:Tryz.pinned.checked.prog.headLifts.contains "ownunsafe" =false:=by kernel_rfl
def j_tie:prog.laidByTextLater [("errors.errorType",Rows.laid_errors_errorType)] [.handle] true:=
 Program.laidByTextLater_by_one 16 8 2 j_t1 j_t2 j_t3 j_t4 j_t5 j_t6 j_t7
end Go.Gs
