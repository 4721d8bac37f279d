/- What the closed facts of a row ask of the program alone, each by itself. -/
import Derived.Test.YtkngjacccoklaaaGreatDoorMA
import Derived.Test.YtkngjacccoklaaaGreatDoorRows
import Derived.WalkKit
import Derived.ProofKit
import Derived.OpenShut
import Derived.JoinedOf
set_option maxRecDepth 100000
set_option maxHeartbeats 8000000
set_option linter.all false
namespace Go.Gs
open Go.Proofs Go.Proofs.YtkngjacccoklaaaGreatDoor
def dflt:OpenClaim:={ program:= "",sum:= "",func:= "",spec:= "" }
def j_laid:laidOutB Tryz.pinned.checked.prog=true:=by kernel_rfl
def j_enter:Tryz.pinned.checked.prog.mayEnter=true:=by kernel_rfl
def j_lifts:Tryz.pinned.checked.prog.liftsFinal=dflt.lifted:=by kernel_rfl
def j_make:Tryz.pinned.checked.prog.make=some dflt.make:=by kernel_rfl
def j_heard:Tryz.pinned.checked.prog.stopsHeard=true:=by kernel_rfl
def j_rowed:mapsRowed Tryz.pinned.checked.prog=true:=by kernel_rfl
def j_keys:Tryz.pinned.checked.prog.plainKeys=dflt.plainKeys:=by kernel_rfl
end Go.Gs
