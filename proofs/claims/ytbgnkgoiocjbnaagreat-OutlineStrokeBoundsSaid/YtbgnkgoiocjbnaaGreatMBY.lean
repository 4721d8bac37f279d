/- Looks, pens, rings, paths among the arguments, laid open. -/
import Derived.Test.YtbgnkgoiocjbnaaGreatMA
import Derived.Test.YtbgnkgoiocjbnaaGreatMBX
set_option maxRecDepth 100000
set_option maxHeartbeats 8000000
set_option linter.all false
namespace Go.Gs
open Go.Proofs Go.RowKit
def zsR:Sh:=.st (.cons shI (.cons shI .nil))
def zsS(y:zsR.T):Pt:=⟨y.1,y.2.1⟩
def shSg:Sh:=.st (.cons shI (.cons zsR (.cons zsR (.cons zsR .nil))))
def toSg(y:shSg.T):Sg:=⟨y.1,zsS y.2.1,zsS y.2.2.1,zsS y.2.2.2.1⟩
def toI(y:shI.T):Int:=y
def zoS:Sh:=.st (.cons shI (.cons shI (.cons shI (.cons shI (.cons (.sl shI) (.cons shI .nil))))))
def zuD(y:zoS.T):Pen:=⟨y.1,y.2.1,y.2.2.1,y.2.2.2.1,List.map toI y.2.2.2.2.1,y.2.2.2.2.2.1⟩
theorem zvO(y:zoS.T):jV (zoS.enc y) (yi (zuD y)):=.cons .refl (.cons .refl (.cons .refl (.cons .refl (.cons (LEd.sl toI fun _ _=>jV.refl) (.cons .refl .nil)))))
def zkn:Sh:=.sl zsR
def zny(y:zkn.T):List Pt:=List.map zsS y
theorem zt7(y:zkn.T):jV (zkn.enc y) (zw (zny y)):=.cons (LEd.sl zsS fun _ _=>jV.refl) .nil
def zvP:Sh:=.st (.cons zsQ (.cons shI .nil))
section
variable {H:Type} {enc:TypeId×Value->H} {W:World} {b0:Nat} {held:Bool}
theorem open_look{v:Value}{d:DataW H}{p:List MemPlace}(hv:Value.okWide Tryz.prog W .any b0 31 v)(h:DataW.Trod enc Tryz.prog W 0 (fun _=>true) held 31 v d p):
  ∃k:AF×Int,R64 k.2/\∀(S Pm:Nat->Prop) (ρ:zj),(∀b,¬S b)->G S Pm ρ W (.agg (zuA k.1 k.2)) v:=by
 obtain ⟨y,hy,g⟩:=zcF zvP (by kernel_rfl) (by kernel_rfl) hv h;exact ⟨(toAF y.1,y.2.1),wfi hy.2.1,g _ (jV.append (zxF _ hy.1) jV.refl)⟩
theorem open_pen{v:Value}{d:DataW H}{p:List MemPlace}(hv:Value.okWide Tryz.prog W .any b0 42 v)(h:DataW.Trod enc Tryz.prog W 0 (fun _=>true) held 42 v d p):
  ∃k:Pen,True/\∀(S Pm:Nat->Prop) (ρ:zj),(∀b,¬S b)->G S Pm ρ W (.agg (yi k)) v:=by
 obtain ⟨y,_,g⟩:=zcF zoS (by kernel_rfl) (by kernel_rfl) hv h;exact ⟨zuD y,trivial,g _ (zvO y)⟩
def shI3:Sh:=.ar (.cons shI (.cons shI (.cons shI .nil)))
theorem open_int3{v:Value}{d:DataW H}{p:List MemPlace}(hv:Value.okWide Tryz.prog W .any b0 50 v)(h:DataW.Trod enc Tryz.prog W 0 (fun _=>true) held 50 v d p):
  ∃s:Int×Int×Int,(R64 s.1/\R64 s.2.1/\R64 s.2.2)/\∀(S Pm:Nat->Prop) (ρ:zj),(∀b,¬S b)->G S Pm ρ W (.agg [i64 s.1,i64 s.2.1,i64 s.2.2]) v:=by
 obtain ⟨y,hy,g⟩:=zcF shI3 (by kernel_rfl) (by kernel_rfl) hv h;exact ⟨(y.1,y.2.1,y.2.2.1),⟨wfi hy.1,wfi hy.2.1,wfi hy.2.2.1⟩,g _ jV.refl⟩
def shI4:Sh:=.ar (.cons shI (.cons shI (.cons shI (.cons shI .nil))))
theorem open_int4{v:Value}{d:DataW H}{p:List MemPlace}(hv:Value.okWide Tryz.prog W .any b0 57 v)(h:DataW.Trod enc Tryz.prog W 0 (fun _=>true) held 57 v d p):
  ∃s:Int×Int×Int×Int,(R64 s.1/\R64 s.2.1/\R64 s.2.2.1/\R64 s.2.2.2)/\∀(S Pm:Nat->Prop) (ρ:zj),(∀b,¬S b)->G S Pm ρ W (.agg [i64 s.1,i64 s.2.1,i64 s.2.2.1,i64 s.2.2.2]) v:=by
 obtain ⟨y,hy,g⟩:=zcF shI4 (by kernel_rfl) (by kernel_rfl) hv h;exact ⟨(y.1,y.2.1,y.2.2.1,y.2.2.2.1),⟨wfi hy.1,wfi hy.2.1,wfi hy.2.2.1,wfi hy.2.2.2.1⟩,g _ jV.refl⟩
theorem open_segs{v:Value}{d:DataW H}{p:List MemPlace}(hv:Value.okWide Tryz.prog W .any b0 22 v)(h:DataW.Trod enc Tryz.prog W 0 (fun _=>true) held 22 v d p):
  ∃l:List Sg,True/\∀(S Pm:Nat->Prop) (ρ:zj),(∀b,¬S b)->G S Pm ρ W (.sl sgE l) v:=by
 obtain ⟨xs,_,g⟩:=ziU shSg (by kernel_rfl) hv h;exact ⟨xs.map toSg,trivial,fun S Pm ρ hS=>znk toSg (fun x _=>jV.refl) _ _ _ _ _ (g S Pm ρ hS)⟩
theorem open_rings{v:Value}{d:DataW H}{p:List MemPlace}(hv:Value.okWide Tryz.prog W .any b0 34 v)(h:DataW.Trod enc Tryz.prog W 0 (fun _=>true) held 34 v d p):
  ∃l:List (List Pt),True/\∀(S Pm:Nat->Prop) (ρ:zj),(∀b,¬S b)->G S Pm ρ W (.sl zw l) v:=by
 obtain ⟨xs,_,g⟩:=ziU zkn (by kernel_rfl) hv h;exact ⟨xs.map zny,trivial,fun S Pm ρ hS=>znk zny (fun x _=>zt7 x) _ _ _ _ _ (g S Pm ρ hS)⟩
end
end Go.Gs
