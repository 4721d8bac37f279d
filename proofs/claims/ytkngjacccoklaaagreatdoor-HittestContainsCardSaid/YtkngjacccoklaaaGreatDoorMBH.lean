/- Scenes, points, pairs among the arguments, laid open; what the row's premise says of the variable. -/
import Derived.Test.YtkngjacccoklaaaGreatDoorMA
import Derived.Test.YtkngjacccoklaaaGreatDoorMBG
import Derived.Test.YtkngjacccoklaaaGreatDoorMBD
import Derived.LaidLaws
import Derived.LaidHandle
import Derived.Stop.Joined
import Derived.Test.YtkngjacccoklaaaGreatDoorRows
set_option maxRecDepth 100000
set_option maxHeartbeats 8000000
set_option linter.all false
namespace Go.Gs
open Go.Proofs Go.RowKit
def zAa:Sh:=.st (.cons shB (.cons shB (.cons shB (.cons shB .nil))))
def zwq(y:zAa.T):Pix:=⟨y.1,y.2.1,y.2.2.1,y.2.2.2.1⟩
def shSt:Sh:=.st (.cons shI (.cons zAa .nil))
def toSt(y:shSt.T):zh0:=⟨y.1,zwq y.2.1⟩
def zAb:Sh:=.st (.cons shI (.cons shI (.cons (.sl zAa) .nil)))
def zAc(y:zAb.T):Img:=⟨y.1,y.2.1,List.map zwq y.2.2.1⟩
def im_le(y:zAb.T):qZ (zAb.enc y) (zk2 (zAc y)):=.C (.C (.cons (LEd.sl zwq λ_ _=>qZ.refl) .nil))
def zwr:Sh:=.st (.cons shI (.cons zAa (.cons zs1 (.cons zs1 (.cons shI (.cons (.sl shSt) (.cons shI (.cons zAb (.cons shI (.cons zwn .nil))))))))))
def zry(y:zwr.T):Pnt:=⟨y.1,zwq y.2.1,zwo y.2.2.1,zwo y.2.2.2.1,y.2.2.2.2.1,List.map toSt y.2.2.2.2.2.1,y.2.2.2.2.2.2.1,zAc y.2.2.2.2.2.2.2.1,y.2.2.2.2.2.2.2.2.1,toAF y.2.2.2.2.2.2.2.2.2.1⟩
def zCZ(y:zwr.T)(h:zwr.wf y):qZ (zwr.enc y) (yD (zry y)):=
 .C (.C (.C (.C (.C (.C (.C (.C (.C (.C (.cons (LEd.sl toSt λ_ _=>qZ.refl) (.cons .refl
  (.C (.C (.cons (LEd.sl zwq λ_ _=>qZ.refl) (.C (by
  have:=qZ.append (zCY _ h.2.2.2.2.2.2.2.2.2.1) .nil
  rwa [XE,XE]at this))))))))))))))))
def qZ.app2{us bs cs ds xs ys:List SV}(h:qZ us bs)(k:qZ cs ds)(e1:xs=us++cs)(e2:ys=bs++ds):qZ xs ys:=by rw[e1,e2];exact qZ.append h k
def shN3:Sh:=.cons (.sl zwr) (.cons zAb (.cons shI .nil))
def n3_le(y:shN3.T)(h:shN3.wf y):qZ (shN3.enc y) (.sl yD (List.map zry y.1)::(zk2 (zAc y.2.1)++[i64 y.2.2.1])):=
 .cons (LEd.sl zry λx hx=>zCZ x (h.1 x hx)) (qZ.app2 (im_le y.2.1) (qZ.refl (us:=[i64 y.2.2.1])) rfl rfl)
def zAd:Sh:=.cons (.sl shSg) (.cons shI (.cons shB (.cons shI (.cons .bool (.cons .bool (.cons (.sl shSg) (.cons shI (.cons (.sl zwr) (.cons zuF shN3)))))))))
def n2_le(y:zAd.T)(h:zAd.wf y):qZ (zAd.enc y) (.sl sgE (List.map zwp y.1)::i64 y.2.1::u8 y.2.2.1::i64 y.2.2.2.1::.pr (@Eq Bool y.2.2.2.2.1 true) (instDecidableEqBool y.2.2.2.2.1 true)::.pr (@Eq Bool y.2.2.2.2.2.1 true) (instDecidableEqBool y.2.2.2.2.2.1 true)::.sl sgE (List.map zwp y.2.2.2.2.2.2.1)::i64 y.2.2.2.2.2.2.2.1::
  .sl yD (List.map zry y.2.2.2.2.2.2.2.2.1)::(jb (zz9 y.2.2.2.2.2.2.2.2.2.1)++(.sl yD (List.map zry y.2.2.2.2.2.2.2.2.2.2.1)::(zk2 (zAc y.2.2.2.2.2.2.2.2.2.2.2.1)++[i64 y.2.2.2.2.2.2.2.2.2.2.2.2.1])))):=
 .cons (LEd.sl zwp λ_ _=>qZ.refl) (.C (.C (.C (.C (.C (.cons (LEd.sl zwp λ_ _=>qZ.refl) (.C (.cons (LEd.sl zry λx hx=>zCZ x (h.2.2.2.2.2.2.2.2.1 x hx))
  (qZ.app2 (zEP y.2.2.2.2.2.2.2.2.2.1) (n3_le y.2.2.2.2.2.2.2.2.2.2 h.2.2.2.2.2.2.2.2.2.2) rfl rfl)))))))))
def zAe:Sh:=.st (.cons shI (.cons shI (.cons shI (.cons zwn zAd))))
def toNd2(i k d:Int)(t:AF)(y:zAd.T):Nd:=⟨i,k,d,t,List.map zwp y.1,y.2.1,y.2.2.1,y.2.2.2.1,y.2.2.2.2.1,y.2.2.2.2.2.1,List.map zwp y.2.2.2.2.2.2.1,y.2.2.2.2.2.2.2.1,List.map zry y.2.2.2.2.2.2.2.2.1,zz9 y.2.2.2.2.2.2.2.2.2.1,
 List.map zry y.2.2.2.2.2.2.2.2.2.2.1,zAc y.2.2.2.2.2.2.2.2.2.2.2.1,y.2.2.2.2.2.2.2.2.2.2.2.2.1⟩
def toNd(y:zAe.T):Nd:=toNd2 y.1 y.2.1 y.2.2.1 (toAF y.2.2.2.1) y.2.2.2.2
def nd_le(y:zAe.T)(h:zAe.wf y):qZ (zAe.enc y) (ndE (toNd y)):=
 .C (.C (.C (qZ.app2 (zCY y.2.2.2.1 h.2.2.2.1) (n2_le y.2.2.2.2 h.2.2.2.2) rfl rfl)))
def zAf:Sh:=.st (.cons shI (.cons shI (.cons zAa (.cons (.sl zAe) .nil))))
def toSc(y:zAf.T):Sc:=⟨y.1,y.2.1,zwq y.2.2.1,List.map toNd y.2.2.2.1⟩
def sc_le(y:zAf.T)(h:zAf.wf y):qZ (zAf.enc y) (scE (toSc y)):=
 .C (.C (.C (.C (.C (.C (.cons (LEd.sl toNd λx hx=>nd_le x (h.2.2.2.1 x hx)) .nil))))))
section
variable{H:Type}{enc:TypeId×Value->H}{W:World}{b0:Nat}{held:Bool}
def open_scene{v:Value}{d:DataW H}{p:List MemPlace}(hv:Value.okWide Tryz.prog W .any b0 26 v)(h:DataW.Trod enc Tryz.prog W 0 (λ_=>true) held 26 v d p):
  ∃s:Sc,True/\∀(S Pm:Nat->Prop) (ρ:zi),(∀b,¬S b)->G S Pm ρ W (.agg (scE s)) v:=by
 obtain⟨y,hy,g⟩:=zmU zAf (by kernel_rfl) (by kernel_rfl) hv h;exact⟨toSc y,trivial,g _ (sc_le y hy)⟩
def open_point{v:Value}{d:DataW H}{p:List MemPlace}(hv:Value.okWide Tryz.prog W .any b0 28 v)(h:DataW.Trod enc Tryz.prog W 0 (λ_=>true) held 28 v d p):
  ∃q:Pt,(R64 q.x/\R64 q.y)/\∀(S Pm:Nat->Prop) (ρ:zi),(∀b,¬S b)->G S Pm ρ W (.agg (ptE q)) v:=by
 obtain⟨y,hy,g⟩:=zmU zs1 (by kernel_rfl) (by kernel_rfl) hv h;exact⟨zwo y,⟨wfi hy.1,wfi hy.2.1⟩,g _ qZ.refl⟩
end
def laidL:List (String×DataW Unit):=[("errors.errorType",YtkngjacccoklaaaGreatDoor.Rows.laid_errors_errorType)]
def zCf:Tryz.prog.globalNamed "errors.errorType" =some 0:=by kernel_rfl
def zCg:(Tryz.prog.cutTypes.find? (·.1== "internal/reflectlite.rtype")).map (·.2)=some 320:=by kernel_rfl
def zAg:((List.range 448).filter λt=>Tryz.prog.rowNamed t [101,114,114,111,114])=[196]:=by kernel_rfl
def zws:Tryz.prog.types.size=448:=by kernel_rfl
def zEQ:typeHandle Tryz.prog 196=.pointer (some ⟨3,196,none⟩):=by kernel_rfl
def handle_of_laid{W:World}(h:laidMetH Tryz.prog laidL W):∀g v,GL g v->W.cell? ⟨g,0,none⟩=some v:=by
 have h':laidMet Tryz.prog [] W/\handlesMet Tryz.prog laidL W:=h;obtain⟨name,u,ty,e1,e2,e3,e4,e5⟩:=h'.2 _ (Xv.2 rfl);have en:name=[101,114,114,111,114]:=(Xm e1).symm;subst en;obtain rfl:=Xm (zCg.symm.trans e2);have hm:ty∈(List.range 448).filter λt=>Tryz.prog.rowNamed t [101,114,114,111,114]:=QL.2 ⟨Kd.2 (by rw[←zws];exact e3),e4⟩
 rw[zAg]at hm;obtain rfl:=Xv.1 hm;rw[zEQ]at e5;have e6:W.cell? ⟨0,0,none⟩=some (.iface 320 (.agg #[.pointer (some ⟨3,196,none⟩)])):=by simpa using World.var?_cell zCf e5 0
 intro g v hg
 cases hg with
 |head=>exact e6
 |tail _ h=>cases h
noncomputable def laidWorld (os:Os):World:=
 let w0:=World.holding Tryz.prog os ⟨#[],#[],[]⟩
 { w0 with heap:=w0.heap.modify 0 fun
   |.cells _ t frozen=>.cells #[.iface 320 (.agg #[.pointer (some ⟨3,196,none⟩)])] t frozen
   |o=>o }
def laidWorld_met(os:Os)(args:Array Value):laidMetH Tryz.prog laidL ((laidWorld os).forCall (λ_ _=>0) ⟨#[],args,[]⟩).memory:=
 laidMetH_of_parts (laidMet_nil _ _) (by kernel_rfl)
end Go.Gs
