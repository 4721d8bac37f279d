/- Scenes, points, pairs among the arguments, laid open; what the row's premise says of the variable. -/
import Derived.Test.YtplllpkdmehklaaGreatDoorMA
import Derived.Test.YtplllpkdmehklaaGreatDoorMBW
import Derived.Test.YtplllpkdmehklaaGreatDoorMBS
import Derived.LaidLaws
import Derived.LaidHandle
import Derived.Stop.Joined
import Derived.Test.YtplllpkdmehklaaGreatDoorRows
set_option maxRecDepth 100000
set_option maxHeartbeats 8000000
set_option linter.all false
namespace Go.Gs
open Go.Proofs Go.RowKit
def zyu:Sh:=.st (.cons shB (.cons shB (.cons shB (.cons shB .nil))))
def zuQ(y:zyu.T):Pix:=⟨y.1,y.2.1,y.2.2.1,y.2.2.2.1⟩
def shSt:Sh:=.st (.cons shI (.cons zyu .nil))
def toSt(y:shSt.T):zgI:=⟨y.1,zuQ y.2.1⟩
def zyv:Sh:=.st (.cons shI (.cons shI (.cons (.sl zyu) .nil)))
def zyw(y:zyv.T):Img:=⟨y.1,y.2.1,List.map zuQ y.2.2.1⟩
theorem im_le(y:zyv.T):qX (zyv.enc y) (zjB (zyw y)):=.cons .refl (.cons .refl (.cons (LEd.sl zuQ fun _ _=>qX.refl) .nil))
def zuR:Sh:=.st (.cons shI (.cons zyu (.cons zuO (.cons zuO (.cons shI (.cons (.sl shSt) (.cons shI (.cons zyv (.cons shI (.cons zuN .nil))))))))))
def zpC(y:zuR.T):Pnt:=⟨y.1,zuQ y.2.1,zys y.2.2.1,zys y.2.2.2.1,y.2.2.2.2.1,List.map toSt y.2.2.2.2.2.1,y.2.2.2.2.2.2.1,zyw y.2.2.2.2.2.2.2.1,y.2.2.2.2.2.2.2.2.1,toAF y.2.2.2.2.2.2.2.2.2.1⟩
theorem zAT(y:zuR.T)(h:zuR.wf y):qX (zuR.enc y) (jb (zpC y)):=
 .cons .refl (.cons .refl (.cons .refl (.cons .refl (.cons .refl (.cons .refl (.cons .refl (.cons .refl (.cons .refl (.cons .refl (.cons (LEd.sl toSt fun _ _=>qX.refl) (.cons .refl
  (.cons .refl (.cons .refl (.cons (LEd.sl zuQ fun _ _=>qX.refl) (.cons .refl (by
  have:=qX.append (zAS _ h.2.2.2.2.2.2.2.2.2.1) .nil
  rwa [List.append_nil,List.append_nil] at this))))))))))))))))
theorem qX.app2{us bs cs ds xs ys:List SV}(h:qX us bs)(k:qX cs ds)(e1:xs=us++cs)(e2:ys=bs++ds):qX xs ys:=by rw [e1,e2];exact qX.append h k
def shN3:Sh:=.cons (.sl zuR) (.cons zyv (.cons shI .nil))
theorem n3_le(y:shN3.T)(h:shN3.wf y):qX (shN3.enc y) (.sl jb (List.map zpC y.1)::(zjB (zyw y.2.1)++[i64 y.2.2.1])):=
 .cons (LEd.sl zpC fun x hx=>zAT x (h.1 x hx)) (qX.app2 (im_le y.2.1) (qX.refl (us:=[i64 y.2.2.1])) rfl rfl)
def zyx:Sh:=.cons (.sl shSg) (.cons shI (.cons shB (.cons shI (.cons .bool (.cons .bool (.cons (.sl shSg) (.cons shI (.cons (.sl zuR) (.cons zsS shN3)))))))))
theorem n2_le(y:zyx.T)(h:zyx.wf y):qX (zyx.enc y) (.sl sgE (List.map zuP y.1)::i64 y.2.1::u8 y.2.2.1::i64 y.2.2.2.1::.pr (@Eq Bool y.2.2.2.2.1 true) (instDecidableEqBool y.2.2.2.2.1 true)::.pr (@Eq Bool y.2.2.2.2.2.1 true) (instDecidableEqBool y.2.2.2.2.2.1 true)::.sl sgE (List.map zuP y.2.2.2.2.2.2.1)::i64 y.2.2.2.2.2.2.2.1::
  .sl jb (List.map zpC y.2.2.2.2.2.2.2.2.1)::(ue (zyt y.2.2.2.2.2.2.2.2.2.1)++(.sl jb (List.map zpC y.2.2.2.2.2.2.2.2.2.2.1)::(zjB (zyw y.2.2.2.2.2.2.2.2.2.2.2.1)++[i64 y.2.2.2.2.2.2.2.2.2.2.2.2.1])))):=
 .cons (LEd.sl zuP fun _ _=>qX.refl) (.cons .refl (.cons .refl (.cons .refl (.cons .refl (.cons .refl (.cons (LEd.sl zuP fun _ _=>qX.refl) (.cons .refl (.cons (LEd.sl zpC fun x hx=>zAT x (h.2.2.2.2.2.2.2.2.1 x hx))
  (qX.app2 (zCr y.2.2.2.2.2.2.2.2.2.1) (n3_le y.2.2.2.2.2.2.2.2.2.2 h.2.2.2.2.2.2.2.2.2.2) rfl rfl)))))))))
def zyy:Sh:=.st (.cons shI (.cons shI (.cons shI (.cons zuN zyx))))
def toNd2(i k d:Int)(t:AF)(y:zyx.T):Nd:=⟨i,k,d,t,List.map zuP y.1,y.2.1,y.2.2.1,y.2.2.2.1,y.2.2.2.2.1,y.2.2.2.2.2.1,List.map zuP y.2.2.2.2.2.2.1,y.2.2.2.2.2.2.2.1,List.map zpC y.2.2.2.2.2.2.2.2.1,zyt y.2.2.2.2.2.2.2.2.2.1,
 List.map zpC y.2.2.2.2.2.2.2.2.2.2.1,zyw y.2.2.2.2.2.2.2.2.2.2.2.1,y.2.2.2.2.2.2.2.2.2.2.2.2.1⟩
def toNd(y:zyy.T):Nd:=toNd2 y.1 y.2.1 y.2.2.1 (toAF y.2.2.2.1) y.2.2.2.2
theorem nd_le(y:zyy.T)(h:zyy.wf y):qX (zyy.enc y) (ndE (toNd y)):=
 .cons .refl (.cons .refl (.cons .refl (qX.app2 (zAS y.2.2.2.1 h.2.2.2.1) (n2_le y.2.2.2.2 h.2.2.2.2) rfl rfl)))
def zyz:Sh:=.st (.cons shI (.cons shI (.cons zyu (.cons (.sl zyy) .nil))))
def toSc(y:zyz.T):Sc:=⟨y.1,y.2.1,zuQ y.2.2.1,List.map toNd y.2.2.2.1⟩
theorem sc_le(y:zyz.T)(h:zyz.wf y):qX (zyz.enc y) (scE (toSc y)):=
 .cons .refl (.cons .refl (.cons .refl (.cons .refl (.cons .refl (.cons .refl (.cons (LEd.sl toNd fun x hx=>nd_le x (h.2.2.2.1 x hx)) .nil))))))
section
variable {H:Type} {enc:TypeId×Value->H} {W:World} {b0:Nat} {held:Bool}
theorem open_scene{v:Value}{d:DataW H}{p:List MemPlace}(hv:Value.okWide Tryz.prog W .any b0 26 v)(h:DataW.Trod enc Tryz.prog W 0 (fun _=>true) held 26 v d p):
  ∃s:Sc,True/\∀(S Pm:Nat->Prop) (ρ:zi),(∀b,¬S b)->G S Pm ρ W (.agg (scE s)) v:=by
 obtain ⟨y,hy,g⟩:=zgF zyz (by kernel_rfl) (by kernel_rfl) hv h;exact ⟨toSc y,trivial,g _ (sc_le y hy)⟩
end
def laidL:List (String×DataW Unit):=[("errors.errorType",YtplllpkdmehklaaGreatDoor.Rows.laid_errors_errorType)]
theorem zAg:Tryz.prog.globalNamed "errors.errorType" =some 0:=by kernel_rfl
theorem zAh:(Tryz.prog.cutTypes.find? (·.1== "internal/reflectlite.rtype")).map (·.2)=some 291:=by kernel_rfl
theorem zyA:((List.range 388).filter fun t=>Tryz.prog.rowNamed t [101,114,114,111,114])=[194]:=by kernel_rfl
theorem zuS:Tryz.prog.types.size=388:=by kernel_rfl
theorem zCs:typeHandle Tryz.prog 194=.pointer (some ⟨3,194,none⟩):=by kernel_rfl
theorem handle_of_laid{W:World}(h:laidMetH Tryz.prog laidL W):∀g v,GL g v->W.cell? ⟨g,0,none⟩=some v:=by
 have h':laidMet Tryz.prog [] W/\handlesMet Tryz.prog laidL W:=h;obtain ⟨name,u,ty,e1,e2,e3,e4,e5⟩:=h'.2 _ (List.mem_singleton.2 rfl);have en:name=[101,114,114,111,114]:=(Option.some.inj e1).symm;subst en;obtain rfl:=Option.some.inj (zAh.symm.trans e2);have hm:ty∈(List.range 388).filter fun t=>Tryz.prog.rowNamed t [101,114,114,111,114]:=List.mem_filter.2 ⟨List.mem_range.2 (by rw [← zuS];exact e3),e4⟩
 rw [zyA] at hm;obtain rfl:=List.mem_singleton.1 hm;rw [zCs] at e5;have e6:W.cell? ⟨0,0,none⟩=some (.iface 291 (.agg #[.pointer (some ⟨3,194,none⟩)])):=by simpa using World.var?_cell zAg e5 0
 intro g v hg
 cases hg with
 | head=>exact e6
 | tail _ h=>cases h
noncomputable def laidWorld (os:Os):World:=
 let w0:=World.holding Tryz.prog os ⟨#[],#[],[]⟩
 { w0 with heap:=w0.heap.modify 0 fun
   | .cells _ t frozen=>.cells #[.iface 291 (.agg #[.pointer (some ⟨3,194,none⟩)])] t frozen
   | o=>o }
theorem laidWorld_met(os:Os)(args:Array Value):laidMetH Tryz.prog laidL ((laidWorld os).forCall (fun _ _=>0) ⟨#[],args,[]⟩).memory:=
 laidMetH_of_parts (laidMet_nil _ _) (by kernel_rfl)
end Go.Gs
