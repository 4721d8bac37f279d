/- From a contract of a law to the walk that its row asks for. -/
import Derived.Test.YtjfbljononkmcaaMA
import Derived.Test.YtjfbljononkmcaaMAP
import Derived.RowKit3
import Derived.Below
import GoSem.Claim
set_option maxRecDepth 100000
set_option maxHeartbeats 8000000
set_option linter.all false
namespace Go.Gs
theorem law_walk' {P:Program} {f:FuncId} {args:List SV} {vs:List Value} {w:World} (h:zf P f args [] (bl true) [])
  (hg:∀S Pm:Nat->Prop,(∀b,¬S b)->(∀b,¬Pm b)->Gs S Pm (fun _=>none) w args vs) (hgl:∀g v,GL g v->w.cell? ⟨g,0,none⟩=some v:=by intro _ _ h;cases h):
  Calls P f vs.toArray w fun e w'=>e=.returned (.bool true)/\RowKit.Grown w w'/\RowKit.Below w.heap.size w w':=by
 refine (h.2 (fun _=>False) (fun _=>none) w vs (fun _ h=>h.elim) (kT (fun _ h=>h.elim) hgl) (fun _ _=>rfl) (hg _ _ (fun b hb=>hb.elim id zr) (fun b=>zr))).mono ?_
 rintro e w' ⟨v,ρ',rfl,hs,_,hv⟩
 refine ⟨by rw [hv.val_inv],⟨⟨hs.os,hs.output.1,fun i hi=>?_⟩,hs.output.2,hs.size⟩,⟨hs.os,hs.tape,hs.output.1,hs.size,fun i hi=>hs.block i hi zr⟩⟩;rw [hs.block i hi zr]
 cases w.heap[i]? with
 | none=>rfl
 | some o=>cases o <;> simp
theorem r64{n:Int}(h:(Lit.int .i64 n).wf=true):R64 n:=by
 simp only [Lit.wf,Bool.and_eq_true,decide_eq_true_eq] at h;exact h
theorem r8{n:Int}(h:(Lit.int .u8 n).wf=true):R8 n:=by
 simp only [Lit.wf,Bool.and_eq_true,decide_eq_true_eq] at h;exact h
end Go.Gs
