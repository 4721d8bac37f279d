/- Addresses, parts, new slices: what is left to be shown is enough. -/
import Derived.Test.YtjfbljononkmcaaMA
import Derived.Test.YtjfbljononkmcaaMAE
set_option maxRecDepth 100000
set_option maxHeartbeats 8000000
set_option linter.all false
namespace Go.Gs
theorem zev{l:List (Nat×TypeId)}{n:Nat}:zcC l n=l[n]? :=by
 induction l generalizing n with
 | nil=>rfl
 | cons x r ih=>cases n with
  | zero=>rfl
  | succ n=>simp [zcC,ih]
theorem zcO{P:Program}{t:TypeId}{fs:List (Nat×TypeId)}(h:ug P t (.struct fs)){f off:Nat}{ft:TypeId}(hn:zcC fs f=some (off,ft)):
  ∃(F:Array Field) (fl:Field),P.underlying t=some (.struct F)/\F[f]? =some fl/\fl.offset=off/\fl.type=ft:=by
 obtain ⟨F,hF,hm,_⟩:=h;rw [zev,← hm,List.getElem?_map] at hn
 cases hq:F.toList[f]? with
 | none=>simp [hq] at hn
 | some fl=>
  simp only [hq,Option.map_some,Option.some.injEq,Prod.mk.injEq] at hn;exact ⟨F,fl,hF,by simpa using hq,hn.1,hn.2⟩
theorem vJ {P:Program} {Γ:List (TypeId×TI)} (hT:TOK P Γ) {t:TypeId} {x:Operand} {f:Nat} {s:SV} {lm:Nat->Option Mem} {κ:Nat} {K:SV->MD->Prop}
  (h:uc Γ t f s K):∃r,K r .none/\kE P (.fieldAddr t x f) [s] lm κ r .none:=by
 unfold uc at h;replace h:=zc h;obtain ⟨i,hi,h⟩:=h;have hk:=(hT t i hi).kind
 split at h
 ·rename_i fs hfs;rw [hfs] at hk
  split at h
  ·rename_i off ft hn;replace h:=zc h;obtain ⟨j,hj,h⟩:=h;replace h:=zb h;obtain ⟨hz,h⟩:=h;obtain ⟨F,fl,hF,hfl,hoff,hft⟩:=zcO hk hn;have hsz:∀w,(sizeOf fl.type).run P w=.ok j.sz w:=fun w=>by rw [hft];exact (hT ft j hj).size w
   have hz:¬j.sz=0:=by
    have:=Nat.le_of_ble_eq_true hz;omega
   have run:∀{o:Oper} (_:o.op=.fieldAddr t x f) {a:Act} {w:World} {b o':Nat},a.eval x=.pointer (some ⟨b,o',none⟩)->
     (execOp a.eval o).run P w=.ok (.value (.pointer (some ⟨b,o'+off,none⟩))) w:=by
    intro o ho a w b o' hx;simp [execOp,ho,hx,Instr.fieldAt,Instr.sureAddr,run_underlying hF,hfl,fieldPlace,hsz,hz,kA,hoff]
   split at h
   ·exact ⟨_,h,.pure fun o ho S Pm ρ a w hgs=>by
     obtain ⟨b,hρ,hx⟩:=(Gs.head hgs).loc_inv
     exact ⟨_,run ho hx,.loc _ _ b hρ⟩⟩
   ·refine ⟨_,h,.pure fun o ho S Pm ρ a w hgs=>?_⟩;obtain ⟨b,o',c,hx,hb,hP,hc,hd⟩:=(Gs.head hgs).ptr_inv;refine ⟨_,run ho hx,.ptr _ b (o'+off) (fun j=>c (off+j)) hb hP (fun j hj=>?_) (fun j s hs=>hd _ s (by simpa using hs))⟩;have:=hc (off+j) (by simp at hj;omega)
    rwa [← Nat.add_assoc] at this
   ·refine ⟨_,h,.pure fun o ho S Pm ρ a w hgs=>?_⟩;obtain ⟨b,o',c,hx,hb,hP,hc,hd⟩:=(Gs.head hgs).dptr_inv;refine ⟨_,run ho hx,.d _ _ (.dptr _ b (o'+off) (fun j=>c (off+j)) hb hP (fun j hj=>?_) (fun j s hs=>hd _ s (by simpa using hs)))⟩;have:=hc (off+j) (by simp at hj;omega)
    rwa [← Nat.add_assoc] at this
   ·exact ⟨_,h,.pure fun o ho S Pm ρ a w hgs=>by
     obtain ⟨b,len,cap,hρ,hx⟩:=(Gs.head hgs).eloc_inv;refine ⟨_,run ho hx,?_⟩;rw [Nat.add_assoc]
     exact .eloc _ _ _ _ b len cap hρ⟩
   ·exact h.elim
  ·exact h.elim
 ·exact h.elim
theorem zcP {P:Program} {t:TypeId} {i:TI} (hT:vI P t i) {S Pm:Nat->Prop} {ρ:zd} {w:World} {cs:List SV} {vs:List Value} (hg:Gs S Pm ρ w cs vs) {off:Nat}
  {s:SV} (hs:(i.kind.agg=true/\s=.agg ((cs.drop off).take i.sz))∨(i.kind.agg=false/\∃r,cs.drop off=s::r)):
  ∃v,(part t vs.toArray off).run P w=.ok v w/\G S Pm ρ w s v:=by
 unfold part;rw [Sem.run_bind,hT.agg w,Result.andThen_ok]
 rcases hs with ⟨h1,rfl⟩ | ⟨h1,r,hr⟩
 ·have h2:=(hg.drop off).take i.sz;exact ⟨.agg ((vs.drop off).take i.sz).toArray,by simp [h1,hT.size],.agg _ _ h2.1 h2.2⟩
 ·have h2:=hg.drop off;rw [hr] at h2;obtain ⟨v,vs',hv,h3,_⟩:=h2.cons_inv
  have h4:vs[off]? =some v:=by
   have:(vs.drop off)[0]? =some v:=by rw [hv];rfl
   simpa using this
  exact ⟨v,by simp [h1,h4],h3⟩
theorem zcQ {P:Program} {Γ:List (TypeId×TI)} (hT:TOK P Γ) {t:TypeId} {x:Operand} {f:Nat} {s:SV} {lm:Nat->Option Mem} {κ:Nat} {K:SV->MD->Prop}
  (h:zt Γ t fun i=>(match i.kind,s with
  |.struct fs,.agg cs=>(match zcC fs f with
   | some (off,ft)=>zt Γ ft fun j=>zi (Nat.ble (off+j.sz) cs.length) (mkV j.kind.agg j.sz (cs.drop off) fun s=>K s .none)
   | none=>False)
  | _,_=>False)):∃r,K r .none/\kE P (.field t x f) [s] lm κ r .none:=by
 replace h:=zc h;obtain ⟨i,hi,h⟩:=h;have hk:=(hT t i hi).kind
 split at h
 ·rename_i fs cs hfs;rw [hfs] at hk
  split at h
  ·rename_i off ft hn;replace h:=zc h;obtain ⟨j,hj,h⟩:=h;replace h:=(zb h).2;replace h:=k9 h;obtain ⟨r,hK,h⟩:=h;obtain ⟨F,fl,hF,hfl,hoff,hft⟩:=zcO hk hn;refine ⟨r,hK,.pure fun o ho S Pm ρ a w hgs=>?_⟩;obtain ⟨vs,hx,hvs⟩:=(Gs.head hgs).agg_inv;obtain ⟨v,h1,h2⟩:=zcP (hT ft j hj) hvs h;exact ⟨v,by simp [execOp,ho,hx,Instr.field,run_underlying hF,hfl,asAgg,hoff,hft,h1],h2⟩
  ·exact h.elim
 ·exact h.elim
theorem zcR {P:Program} {Γ:List (TypeId×TI)} (hT:TOK P Γ) {t:TypeId} {x y:Operand} {s n:SV} {lm:Nat->Option Mem} {κ:Nat} {K:SV->MD->Prop}
  (h:zdM Γ t s n K):∃r,K r .none/\kE P (.index t x y) [s,n] lm κ r .none:=by
 unfold zdM at h;replace h:=zc h;obtain ⟨i,hi,h⟩:=h;have hk:=(hT t i hi).kind
 split at h
 ·rename_i len e cs k n hkind;rw [hkind] at hk;replace h:=zc h;obtain ⟨j,hj,h⟩:=h
  split at h
  ·rename_i m;replace h:=zb h;obtain ⟨hlt,h⟩:=h;replace h:=(zb h).2;replace h:=k9 h;obtain ⟨r,hK,h⟩:=h;have hlt:m < len:=Nat.le_of_ble_eq_true hlt;refine ⟨r,hK,.pure fun o ho S Pm ρ a w hgs=>?_⟩;obtain ⟨vs,hx,hvs⟩:=(Gs.head hgs).agg_inv;have hy:=(Gs.head (Gs.tail hgs)).val_inv;obtain ⟨v,h1,h2⟩:=zcP (hT e j hj) hvs h;exact ⟨v,by simp [execOp,ho,hx,hy,Instr.index,asIntOf,run_underlying hk,hlt,(hT e j hj).size,h1],h2⟩
  ·exact h.elim
 ·rename_i s k n hkind;rw [hkind] at hk;obtain ⟨⟨h0,h1⟩,h⟩:=h;have hb:s[n.toNat]? =some (s[n.toNat]'oM):=getElem?_pos s n.toNat oM;refine ⟨_,h _ hb,.pure fun o ho S Pm ρ a w hgs=>?_⟩;have hx:=hgs.head.val_inv;have hy:=hgs.tail.head.val_inv;have hk:P.underlying t=some .string:=hk;refine ⟨_,?_,.d _ _ (.val _)⟩;simp only [execOp,ho,hx,hy,Instr.index,asIntOf,Sem.run_bind,Sem.run_pure,Result.andThen_ok,run_underlying hk,h0,if_true,hb]
 ·exact h.elim
theorem vK {P:Program} {Γ:List (TypeId×TI)} (hT:TOK P Γ) {t:TypeId} {x y:Operand} {s n:SV} {lm:Nat->Option Mem} {κ:Nat} {K:SV->MD->Prop}
  (h:ud Γ t s n lm K):∃r,K r .none/\kE P (.indexAddr t x y) [s,n] lm κ r .none:=by
 unfold ud at h;replace h:=zc h;obtain ⟨i,hi,h⟩:=h;have hk:=(hT t i hi).kind
 split at h
 ·rename_i k n
  split at h
  ·rename_i e hkind;rw [hkind] at hk;replace h:=zc h;obtain ⟨j,hj,h⟩:=h;have hsz:=(hT e j hj).size
   have run:∀{o:Oper} (_:o.op=.indexAddr t x y) {a:Act} {w:World} {b off len cap:Nat},a.eval x=.slice (some ⟨b,off,none⟩) len cap->a.eval y=.int k n->0<=n->n < len->
     (execOp a.eval o).run P w=.ok (.value (.pointer (some ⟨b,off+n.toNat*j.sz,none⟩))) w:=by
    intro o ho a w b off len cap hx hy h0 h1;simp [execOp,ho,hx,hy,Instr.indexAt,asIntOf,run_underlying hk,h0,h1,hsz,kA]
   split at h
   ·rename_i α enc xs;obtain ⟨h0,h1⟩:=h.ob;have hlt:n.toNat < xs.length:=oM;have hx:=List.getElem?_eq_getElem hlt;have h:=h.go _ hx;replace h:=zb h;obtain ⟨hl,h⟩:=h;have hl:=Nat.eq_of_beq_eq_true hl;refine ⟨_,h,.read fun o ho Keep M ρ a w _ _ hgs=>?_⟩;have hy:=(Gs.head (Gs.tail hgs)).val_inv
    rcases (Gs.head hgs).sl_inv.sl_inv with ⟨rfl,_⟩ | ⟨sz,b,off,cap,c,hxv,hb,hS,_,_,hesz,hc,hd⟩
    ·simp at hlt
    ·have hs:sz=j.sz:=by rw [← hl];exact (hesz _ (List.mem_of_getElem? hx)).symm
     subst hs;refine ⟨_,run ho hxv hy h0 h1,?_⟩;refine .ptr _ b _ (fun j=>c n.toNat j) hb ?_ (fun q hq=>?_) (fun q s hs=>hd _ q _ s hx hs)
     ·exact fun ho=>hS (.inr ho)
     ·have:=hc n.toNat q hlt oM;exact this
   ·rename_i k'
    split at h
    ·rename_i T α enc sz xs hlk;replace h:=zb h;obtain ⟨hs,h⟩:=h;have hs:=Nat.eq_of_beq_eq_true hs;subst hs;obtain ⟨h0,h1⟩:=h.ob;refine ⟨_,h.go,.read fun o ho Keep M ρ a w hlm hm hgs=>?_⟩;have hy:=(Gs.head (Gs.tail hgs)).val_inv;obtain ⟨hρ',_⟩:=(Gs.head hgs).own_inv;obtain ⟨v,cells,hρ,hown,_⟩:=hm.rel k' _ (hlm k' _ hlk);have hxv:a.eval x=v:=by rw [hρ] at hρ';exact (Option.some.inj hρ').symm
     rcases hown.2 with ⟨_,h3⟩ | ⟨g,cap,cur,rfl,_⟩
     ·omega
     ·refine ⟨_,run ho hxv hy h0 h1,?_⟩;rw [show 0+n.toNat*j.sz=n.toNat*j.sz+0 by omega];exact .eloc _ _ _ _ g _ _ hρ
    ·rename_i T sz xs hlk;replace h:=zb h;obtain ⟨hs,h⟩:=h;have hs:=Nat.eq_of_beq_eq_true hs;subst hs;obtain ⟨h0,h1⟩:=h.ob;refine ⟨_,h.go,.read fun o ho Keep M ρ a w hlm hm hgs=>?_⟩;have hy:=(Gs.head (Gs.tail hgs)).val_inv;obtain ⟨hρ',_⟩:=(Gs.head hgs).own_inv;obtain ⟨v,cells,hρ,hown,_⟩:=hm.rel k' _ (hlm k' _ hlk);have hxv:a.eval x=v:=by rw [hρ] at hρ';exact (Option.some.inj hρ').symm
     rcases hown.2 with ⟨_,h3⟩ | ⟨g,cap,cur,rfl,_⟩
     ·omega
     ·refine ⟨_,run ho hxv hy h0 h1,?_⟩;rw [show 0+n.toNat*j.sz=n.toNat*j.sz+0 by omega];exact .eloc _ _ _ _ g _ _ hρ
    ·exact h.elim
   ·rename_i k' sz lo l;replace h:=zb h;obtain ⟨hs,h⟩:=h;have hs:=Nat.eq_of_beq_eq_true hs;subst hs;obtain ⟨h0,h1,h2⟩:=h.ob;refine ⟨_,h.go,.read fun o ho Keep M ρ a w hlm hm hgs=>?_⟩;have hy:=(Gs.head (Gs.tail hgs)).val_inv;obtain ⟨b,len,cap,cap',hρ,hx,_,_⟩:=(Gs.head hgs).win_inv;refine ⟨_,run ho hx hy h1 oM,?_⟩
    have e:lo.toNat*j.sz+n.toNat*j.sz=(lo+n).toNat*j.sz+0:=by
     rw [← Nat.add_mul,Nat.add_zero];congr 1;omega
    rw [e];exact .eloc _ _ _ _ b _ _ hρ
   ·exact h.elim
  ·rename_i len e hkind;rw [hkind] at hk;replace h:=zc h;obtain ⟨j,hj,h⟩:=h;have hsz:=(hT e j hj).size
   split at h
   ·rename_i m;replace h:=zb h;obtain ⟨hlt,h⟩:=h;have hlt:m < len:=Nat.le_of_ble_eq_true hlt
    have run:∀{o:Oper} (_:o.op=.indexAddr t x y) {a:Act} {w:World} {b off:Nat},a.eval x=.pointer (some ⟨b,off,none⟩)->a.eval y=.int k (Int.ofNat m)->
      (execOp a.eval o).run P w=.ok (.value (.pointer (some ⟨b,off+m*j.sz,none⟩))) w:=by
     intro o ho a w b off hx hy;simp [execOp,ho,hx,hy,Instr.indexAt,Instr.sureAddr,asIntOf,run_underlying hk,hlt,hsz,kA]
    split at h
    ·exact ⟨_,h,.pure fun o ho S Pm ρ a w hgs=>by
      obtain ⟨b,hρ,hx⟩:=(Gs.head hgs).loc_inv
      exact ⟨_,run ho hx (Gs.head (Gs.tail hgs)).val_inv,.loc _ _ b hρ⟩⟩
    ·refine ⟨_,h,.pure fun o ho S Pm ρ a w hgs=>?_⟩;obtain ⟨b,o',c,hx,hb,hP,hc,hd⟩:=(Gs.head hgs).ptr_inv;refine ⟨_,run ho hx (Gs.head (Gs.tail hgs)).val_inv,.ptr _ b _ (fun q=>c (m*j.sz+q)) hb hP (fun q hq=>?_) (fun q s hs=>hd _ s (by simpa using hs))⟩;have:=hc (m*j.sz+q) (by simp at hq;omega)
     rwa [← Nat.add_assoc] at this
    ·refine ⟨_,h,.pure fun o ho S Pm ρ a w hgs=>?_⟩;obtain ⟨b,o',c,hx,hb,hP,hc,hd⟩:=(Gs.head hgs).dptr_inv;refine ⟨_,run ho hx (Gs.head (Gs.tail hgs)).val_inv,.d _ _ (.dptr _ b _ (fun q=>c (m*j.sz+q)) hb hP (fun q hq=>?_) (fun q s hs=>hd _ s (by simpa using hs)))⟩;have:=hc (m*j.sz+q) (by simp at hq;omega)
     rwa [← Nat.add_assoc] at this
    ·exact ⟨_,h,.pure fun o ho S Pm ρ a w hgs=>by
      obtain ⟨b,len,cap,hρ,hx⟩:=(Gs.head hgs).eloc_inv;refine ⟨_,run ho hx (Gs.head (Gs.tail hgs)).val_inv,?_⟩;rw [Nat.add_assoc]
      exact .eloc _ _ _ _ b len cap hρ⟩
    ·exact h.elim
   ·exact h.elim
  ·exact h.elim
 ·exact h.elim
end Go.Gs
