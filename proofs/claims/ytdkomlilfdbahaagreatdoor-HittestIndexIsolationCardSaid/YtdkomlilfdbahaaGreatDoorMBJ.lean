/- Great numbers and transforms among the arguments, laid open. -/
import Derived.Test.YtdkomlilfdbahaaGreatDoorChecked
import Derived.Test.YtdkomlilfdbahaaGreatDoorMBD
import Derived.LaidLaws
import Derived.LaidHandle
import Derived.Stop.Joined
import Derived.Test.YtdkomlilfdbahaaGreatDoorRows
set_option maxRecDepth 100000
set_option maxHeartbeats 80000000
set_option linter.all false
namespace Go.Gs
open Go.Proofs Go.RowKit
def laidOut:laidOutB Tryz.prog=true:=by kernel_rfl
def wfi{n:Int}(h:(Lit.int .i64 n).wf=true):R64 n:=r64 h
def wf32{n:Int}(h:(Lit.int .u32 n).wf=true):0<=n/\n<=4294967295:=by
 simp only[Lit.wf,XF,decide_eq_true_eq]at h;exact h
def shI:Sh:=.int .i64
def shB:Sh:=.int .u8
def zo7:Sh:=.st (.cons .bool (.cons (.sl (.int .u32)) .nil))
def zf7:Sh:=.st (.cons zo7 (.cons zo7 .nil))
def zzf:Sh:=.st (.cons zf7 (.cons zf7 (.cons zf7 (.cons zf7 (.cons zf7 (.cons zf7 .nil))))))
def ztD(n:Int):Dig:=dof n.toNat
def toBI(y:zo7.T):BI:=⟨y.1,List.map ztD y.2.1⟩
def zu9(y:zf7.T):BR:=⟨toBI y.1,toBI y.2.1⟩
def toAF(y:zzf.T):AF:=⟨zu9 y.1,zu9 y.2.1,zu9 y.2.2.1,zu9 y.2.2.2.1,zu9 y.2.2.2.2.1,zu9 y.2.2.2.2.2.1⟩
def zGp(y:zo7.T)(h:zo7.wf y):jd (zo7.enc y) (biE (toBI y)):=by
 refine .C (.cons ?_ .nil);refine LEd.sl ztD λn a=>?_
 have b:=wf32 (h.2.1 n a)
 have e:((ztD n).val:Int)=n:=by
  unfold ztD;rw[kA];omega
 show jd [.val (.int .u32 n)] [.val (.int .u32 ((ztD n).val:Int))];rw[e];exact .refl
def zo8(y:zf7.T)(h:zf7.wf y):jd (zf7.enc y) (brE (zu9 y)):=jd.append (zGp y.1 h.1) (jd.append (zGp y.2.1 h.2.1) .nil)
def zGq(y:zzf.T)(h:zzf.wf y):jd (zzf.enc y) (afE (toAF y)):=
 jd.append (zo8 _ h.1) (jd.append (zo8 _ h.2.1) (jd.append (zo8 _ h.2.2.1) (jd.append (zo8 _ h.2.2.2.1) (jd.append (zo8 _ h.2.2.2.2.1) (by
  have:=jd.append (zo8 _ h.2.2.2.2.2.1) .nil
  rwa [XE,XE]at this)))))
section
variable{H:Type}{enc:TypeId×Value->H}{W:World}{b0:Nat}{held:Bool}
end
end Go.Gs
namespace Go.Gs
open Go.Proofs Go.RowKit
def zva:Sh:=.st (.cons shI (.cons shI .nil))
def zzg(y:zva.T):Pt:=⟨y.1,y.2.1⟩
def shSg:Sh:=.st (.cons shI (.cons zva (.cons zva (.cons zva .nil))))
def zzh(y:shSg.T):Sg:=⟨y.1,zzg y.2.1,zzg y.2.2.1,zzg y.2.2.2.1⟩
def toI(y:shI.T):Int:=y
def zxi:Sh:=.st (.cons shI (.cons shI (.cons shI (.cons shI (.cons (.sl shI) (.cons shI .nil))))))
def zDq(y:zxi.T):Pen:=⟨y.1,y.2.1,y.2.2.1,y.2.2.2.1,List.map toI y.2.2.2.2.1,y.2.2.2.2.2.1⟩
def zIq(y:zxi.T):jd (zxi.enc y) (jb (zDq y)):=.C (.C (.C (.C (.cons (LEd.sl toI λ_ _=>jd.refl) (.C .nil)))))
section
variable{H:Type}{enc:TypeId×Value->H}{W:World}{b0:Nat}{held:Bool}
end
end Go.Gs
namespace Go.Gs
open Proofs.Tryz
open Go.Proofs Go.RowKit
def zDr:Sh:=.st (.cons shB (.cons shB (.cons shB (.cons shB .nil))))
def zzi(y:zDr.T):Pix:=⟨y.1,y.2.1,y.2.2.1,y.2.2.2.1⟩
def shSt:Sh:=.st (.cons shI (.cons zDr .nil))
def toSt(y:shSt.T):zgH:=⟨y.1,zzi y.2.1⟩
def zDs:Sh:=.st (.cons shI (.cons shI (.cons (.sl zDr) .nil)))
def zDt(y:zDs.T):Img:=⟨y.1,y.2.1,List.map zzi y.2.2.1⟩
def im_le(y:zDs.T):jd (zDs.enc y) (zi9 (zDt y)):=.C (.C (.cons (LEd.sl zzi λ_ _=>jd.refl) .nil))
def zzj:Sh:=.st (.cons shI (.cons zDr (.cons zva (.cons zva (.cons shI (.cons (.sl shSt) (.cons shI (.cons zDs (.cons shI (.cons zzf .nil))))))))))
def ztE(y:zzj.T):Pnt:=⟨y.1,zzi y.2.1,zzg y.2.2.1,zzg y.2.2.2.1,y.2.2.2.2.1,List.map toSt y.2.2.2.2.2.1,y.2.2.2.2.2.2.1,zDt y.2.2.2.2.2.2.2.1,y.2.2.2.2.2.2.2.2.1,toAF y.2.2.2.2.2.2.2.2.2.1⟩
def zGr(y:zzj.T)(h:zzj.wf y):jd (zzj.enc y) (qD (ztE y)):=
 .C (.C (.C (.C (.C (.C (.C (.C (.C (.C (.cons (LEd.sl toSt λ_ _=>jd.refl) (.cons .refl
  (.C (.C (.cons (LEd.sl zzi λ_ _=>jd.refl) (.C (by
  have:=jd.append (zGq _ h.2.2.2.2.2.2.2.2.2.1) .nil
  rwa [XE,XE]at this))))))))))))))))
def jd.app2{us bs a b xs ys:LR}(h:jd us bs)(k:jd a b)(c:xs=us++a)(d:ys=bs++b):jd xs ys:=by rw[c,d];exact jd.append h k
def shN3:Sh:=.cons (.sl zzj) (.cons zDs (.cons shI .nil))
def n3_le(y:shN3.T)(h:shN3.wf y):jd (shN3.enc y) (.sl qD (List.map ztE y.1)::(zi9 (zDt y.2.1)++[i64 y.2.2.1])):=
 .cons (LEd.sl ztE λx a=>zGr x (h.1 x a)) (jd.app2 (im_le y.2.1) (jd.refl (us:=[i64 y.2.2.1])) rfl rfl)
def zDu:Sh:=.cons (.sl shSg) (.cons shI (.cons shB (.cons shI (.cons .bool (.cons .bool (.cons (.sl shSg) (.cons shI (.cons (.sl zzj) (.cons zxi shN3)))))))))
def n2_le(y:zDu.T)(h:zDu.wf y):jd (zDu.enc y) (.sl sgE (List.map zzh y.1)::i64 y.2.1::u8 y.2.2.1::i64 y.2.2.2.1::.pr (@Eq Bool y.2.2.2.2.1 true) (instDecidableEqBool y.2.2.2.2.1 true)::.pr (@Eq Bool y.2.2.2.2.2.1 true) (instDecidableEqBool y.2.2.2.2.2.1 true)::.sl sgE (List.map zzh y.2.2.2.2.2.2.1)::i64 y.2.2.2.2.2.2.2.1::
  .sl qD (List.map ztE y.2.2.2.2.2.2.2.2.1)::(jb (zDq y.2.2.2.2.2.2.2.2.2.1)++(.sl qD (List.map ztE y.2.2.2.2.2.2.2.2.2.2.1)::(zi9 (zDt y.2.2.2.2.2.2.2.2.2.2.2.1)++[i64 y.2.2.2.2.2.2.2.2.2.2.2.2.1])))):=
 .cons (LEd.sl zzh λ_ _=>jd.refl) (.C (.C (.C (.C (.C (.cons (LEd.sl zzh λ_ _=>jd.refl) (.C (.cons (LEd.sl ztE λx a=>zGr x (h.2.2.2.2.2.2.2.2.1 x a))
  (jd.app2 (zIq y.2.2.2.2.2.2.2.2.2.1) (n3_le y.2.2.2.2.2.2.2.2.2.2 h.2.2.2.2.2.2.2.2.2.2) rfl rfl)))))))))
def zDv:Sh:=.st (.cons shI (.cons shI (.cons shI (.cons zzf zDu))))
def toNd2(i k d:Int)(t:AF)(y:zDu.T):Nd:=⟨i,k,d,t,List.map zzh y.1,y.2.1,y.2.2.1,y.2.2.2.1,y.2.2.2.2.1,y.2.2.2.2.2.1,List.map zzh y.2.2.2.2.2.2.1,y.2.2.2.2.2.2.2.1,List.map ztE y.2.2.2.2.2.2.2.2.1,zDq y.2.2.2.2.2.2.2.2.2.1,
 List.map ztE y.2.2.2.2.2.2.2.2.2.2.1,zDt y.2.2.2.2.2.2.2.2.2.2.2.1,y.2.2.2.2.2.2.2.2.2.2.2.2.1⟩
def toNd(y:zDv.T):Nd:=toNd2 y.1 y.2.1 y.2.2.1 (toAF y.2.2.2.1) y.2.2.2.2
def nd_le(y:zDv.T)(h:zDv.wf y):jd (zDv.enc y) (ndE (toNd y)):=
 .C (.C (.C (jd.app2 (zGq y.2.2.2.1 h.2.2.2.1) (n2_le y.2.2.2.2 h.2.2.2.2) rfl rfl)))
def zDw:Sh:=.st (.cons shI (.cons shI (.cons zDr (.cons (.sl zDv) .nil))))
def toSc(y:zDw.T):Sc:=⟨y.1,y.2.1,zzi y.2.2.1,List.map toNd y.2.2.2.1⟩
def sc_le(y:zDw.T)(h:zDw.wf y):jd (zDw.enc y) (scE (toSc y)):=
 .C (.C (.C (.C (.C (.C (.cons (LEd.sl toNd λx a=>nd_le x (h.2.2.2.1 x a)) .nil))))))
section
variable{H:Type}{enc:TypeId×Value->H}{W:World}{b0:Nat}{held:Bool}
def open_scene{v:Value}{d:DataW H}{p:List MemPlace}(a:Value.okWide prog W .any b0 26 v)(h:DataW.Trod enc prog W 0 (λ_=>true) held 26 v d p):
  ∃s:Sc,True/\∀(S Pm:LI) (Z:zh),(∀b,¬S b)->G S Pm Z W (wq s) v:=by
 obtain⟨y,c,g⟩:=zi5 zDw (by kernel_rfl) (by kernel_rfl) a h;exact⟨toSc y,tV,g _ (sc_le y c)⟩
def open_point{v:Value}{d:DataW H}{p:List MemPlace}(c:Value.okWide prog W .any b0 28 v)(h:DataW.Trod enc prog W 0 (λ_=>true) held 28 v d p):
  ∃q:Pt,(R64 q.x/\R64 q.y)/\∀(S Pm:LI) (Z:zh),(∀b,¬S b)->G S Pm Z W (wk q) v:=by
 obtain⟨y,a,g⟩:=zi5 zva (by kernel_rfl) (by kernel_rfl) c h;exact⟨zzg y,⟨wfi a.1,wfi a.2.1⟩,g _ jd.refl⟩
end
def laidL:List (String×DataW Unit):=[("errors.errorType",YtdkomlilfdbahaaGreatDoor.Rows.laid_errors_errorType)]
def zFF:prog.globalNamed "errors.errorType" =some 0:=by kernel_rfl
def zFG:(prog.cutTypes.find? (·.1== "internal/reflectlite.rtype")).map (·.2)=some 291:=by kernel_rfl
def zDx:((List.range 450).filter λt=>prog.rowNamed t [101,114,114,111,114])=[167]:=by kernel_rfl
def zzk:prog.types.size=450:=by kernel_rfl
def zIr:typeHandle prog 167=.pointer (some ⟨3,167,none⟩):=by kernel_rfl
def handle_of_laid{W:World}(h:laidMetH prog laidL W):∀g v,GL g v->W.cell? ⟨g,0,none⟩=some v:=by
 have k:laidMet prog [] W/\handlesMet prog laidL W:=h;obtain⟨name,u,ty,c,d,e,f,a⟩:=k.2 _ (Xt.2 rfl);have j:name=[101,114,114,111,114]:=(Xl c).symm;subst j;obtain rfl:=Xl (zFG.symm.trans d);have b:ty∈(List.range 450).filter λt=>prog.rowNamed t [101,114,114,111,114]:=QH.2 ⟨XV.2 (by rw[←zzk];exact e),f⟩
 rw[zDx]at b;obtain rfl:=Xt.1 b;rw[zIr]at a;have i:W.cell? ⟨0,0,none⟩=some (.iface 291 (.agg #[.pointer (some ⟨3,167,none⟩)])):=by simpa using World.var?_cell zFF a 0
 intro g v l
 cases l with
 |head=>exact i
 |tail _ h=>cases h
noncomputable def laidWorld (os:Os):World:=
 let a:=World.holding prog os ⟨#[],#[],[]⟩
 { a with heap:=a.heap.modify 0 fun
   |.cells _ t frozen=>.cells #[.iface 291 (.agg #[.pointer (some ⟨3,167,none⟩)])] t frozen
   |o=>o }
def laidWorld_met(os:Os)(args:Array Value):laidMetH prog laidL ((laidWorld os).forCall (λ_ _=>0) ⟨#[],args,[]⟩).memory:=
 laidMetH_of_parts (laidMet_nil _ _) (by kernel_rfl)
end Go.Gs
namespace Go.Gs
open Go.Proofs Go.RowKit
def shR1:Sh:=.st (.cons shI (.cons shI (.cons shI (.cons shI .nil))))
def toR1(y:shR1.T):Rc:=⟨y.1,y.2.1,y.2.2.1,y.2.2.2.1⟩
section
variable{H:Type}{enc:TypeId×Value->H}{W:World}{b0:Nat}{held:Bool}
def open_rcH{v:Value}{d:DataW H}{p:List MemPlace}(a:Value.okWide Tryz.prog W .any b0 30 v)(h:DataW.Trod enc Tryz.prog W 0 (λ_=>true) held 30 v d p):
  ∃r:Rc,True/\∀(S Pm:LI) (Z:zh),(∀b,¬S b)->G S Pm Z W (wr r) v:=by
 obtain⟨y,_,g⟩:=zi5 shR1 (by kernel_rfl) (by kernel_rfl) a h;exact⟨toR1 y,tV,g _ jd.refl⟩
end
end Go.Gs
