/- Addresses, parts, new slices: what is left to be shown is enough. -/
import Derived.Test.YtjfbljononkmcaaMA
import Derived.Test.YtjfbljononkmcaaMAE
set_option maxRecDepth 100000
set_option maxHeartbeats 8000000
set_option linter.all false
namespace Go.Gs
theorem zdP{l:List (Nat×TypeId)}{n:Nat}:zb0 l n=l[n]? :=by
 induction l generalizing n with
 | nil=>rfl
 | cons x r ih=>cases n with
  | zero=>rfl
  | succ n=>simp [zb0,ih]
theorem zcc{P:Program}{t:TypeId}{fs:List (Nat×TypeId)}(h:y7 P t (.struct fs)){f off:Nat}{ft:TypeId}(hn:zb0 fs f=some (off,ft)):
  ∃(F:Array Field) (fl:Field),P.underlying t=some (.struct F)/\F[f]? =some fl/\fl.offset=off/\fl.type=ft:=by
 obtain ⟨F,hF,hm,_⟩:=h;rw [zdP,← hm,List.getElem?_map] at hn
 cases hq:F.toList[f]? with
 | none=>simp [hq] at hn
 | some fl=>
  simp only [hq,Option.map_some,Option.some.injEq,Prod.mk.injEq] at hn;exact ⟨F,fl,hF,by simpa using hq,hn.1,hn.2⟩
theorem vk {P:Program} {Γ:List (TypeId×TI)} (hT:TOK P Γ) {t:TypeId} {x:Operand} {f:Nat} {s:SV} {lm:Nat->Option Mem} {κ:Nat} {K:SV->MD->Prop}
  (h:y3 Γ t f s K):∃r,K r .none/\kC P (.fieldAddr t x f) [s] lm κ r .none:=by
 unfold y3 at h;replace h:=zg h;obtain ⟨i,hi,h⟩:=h;have hk:=(hT t i hi).kind
 split at h
 ·rename_i fs hfs;rw [hfs] at hk
  split at h
  ·rename_i off ft hn;replace h:=zg h;obtain ⟨j,hj,h⟩:=h;replace h:=zd h;obtain ⟨hz,h⟩:=h;obtain ⟨F,fl,hF,hfl,hoff,hft⟩:=zcc hk hn;have hsz:∀w,(sizeOf fl.type).run P w=.ok j.sz w:=fun w=>by rw [hft];exact (hT ft j hj).size w
   have hz:¬j.sz=0:=by
    have:=Nat.le_of_ble_eq_true hz;omega
   have run:∀{o:Oper} (_:o.op=.fieldAddr t x f) {a:Act} {w:World} {b o':Nat},a.eval x=.pointer (some ⟨b,o',none⟩)->
     (execOp a.eval o).run P w=.ok (.value (.pointer (some ⟨b,o'+off,none⟩))) w:=by
    intro o ho a w b o' hx;simp [execOp,ho,hx,Instr.fieldAt,Instr.sureAddr,run_underlying hF,hfl,fieldPlace,hsz,hz,kD,hoff]
   split at h
   ·exact ⟨_,h,.pure fun o ho S Pm ρ a w hgs=>by
     obtain ⟨b,hρ,hx⟩:=(Gs.head hgs).loc_inv
     exact ⟨_,run ho hx,.loc _ _ b hρ⟩⟩
   ·refine ⟨_,h,.pure fun o ho S Pm ρ a w hgs=>?_⟩;obtain ⟨b,o',c,hx,hb,hP,hc,hd⟩:=(Gs.head hgs).ptr_inv;refine ⟨_,run ho hx,.ptr _ b (o'+off) (fun j=>c (off+j)) hb hP (fun j hj=>?_) (fun j s hs=>hd _ s (by simpa using hs))⟩;have:=hc (off+j) (by simp at hj;omega)
    rwa [← Nat.add_assoc] at this
   ·refine ⟨_,h,.pure fun o ho S Pm ρ a w hgs=>?_⟩;obtain ⟨b,o',c,hx,hb,hP,hc,hd⟩:=(Gs.head hgs).dptr_inv;refine ⟨_,run ho hx,.d _ _ (.dptr _ b (o'+off) (fun j=>c (off+j)) hb hP (fun j hj=>?_) (fun j s hs=>hd _ s (by simpa using hs)))⟩;have:=hc (off+j) (by simp at hj;omega)
    rwa [← Nat.add_assoc] at this
   ·exact ⟨_,h,.pure fun o ho S Pm ρ a w hgs=>by
     obtain ⟨b,len,cap,hρ,hx⟩:=(Gs.head hgs).eloc_inv;refine ⟨_,run ho hx,?_⟩;rw [Nat.add_assoc]
     exact .eloc _ _ _ _ b len cap hρ⟩
   ·exact h.elim
  ·exact h.elim
 ·exact h.elim
theorem zcd {P:Program} {t:TypeId} {i:TI} (hT:vj P t i) {S Pm:Nat->Prop} {ρ:zh} {w:World} {cs:List SV} {vs:List Value} (hg:Gs S Pm ρ w cs vs) {off:Nat}
  {s:SV} (hs:(i.kind.agg=true/\s=.agg ((cs.drop off).take i.sz))∨(i.kind.agg=false/\∃r,cs.drop off=s::r)):
  ∃v,(part t vs.toArray off).run P w=.ok v w/\G S Pm ρ w s v:=by
 unfold part;rw [Sem.run_bind,hT.agg w,Result.andThen_ok]
 rcases hs with ⟨h1,rfl⟩ | ⟨h1,r,hr⟩
 ·have h2:=(hg.drop off).take i.sz;exact ⟨.agg ((vs.drop off).take i.sz).toArray,by simp [h1,hT.size],.agg _ _ h2.1 h2.2⟩
 ·have h2:=hg.drop off;rw [hr] at h2;obtain ⟨v,vs',hv,h3,_⟩:=h2.cons_inv
  have h4:vs[off]? =some v:=by
   have:(vs.drop off)[0]? =some v:=by rw [hv];rfl
   simpa using this
  exact ⟨v,by simp [h1,h4],h3⟩
theorem zce {P:Program} {Γ:List (TypeId×TI)} (hT:TOK P Γ) {t:TypeId} {x:Operand} {f:Nat} {s:SV} {lm:Nat->Option Mem} {κ:Nat} {K:SV->MD->Prop}
  (h:zw Γ t fun i=>(match i.kind,s with
  |.struct fs,.agg cs=>(match zb0 fs f with
   | some (off,ft)=>zw Γ ft fun j=>zl (Nat.ble (off+j.sz) cs.length) (mkV j.kind.agg j.sz (cs.drop off) fun s=>K s .none)
   | none=>False)
  | _,_=>False)):∃r,K r .none/\kC P (.field t x f) [s] lm κ r .none:=by
 replace h:=zg h;obtain ⟨i,hi,h⟩:=h;have hk:=(hT t i hi).kind
 split at h
 ·rename_i fs cs hfs;rw [hfs] at hk
  split at h
  ·rename_i off ft hn;replace h:=zg h;obtain ⟨j,hj,h⟩:=h;replace h:=(zd h).2;replace h:=k8 h;obtain ⟨r,hK,h⟩:=h;obtain ⟨F,fl,hF,hfl,hoff,hft⟩:=zcc hk hn;refine ⟨r,hK,.pure fun o ho S Pm ρ a w hgs=>?_⟩;obtain ⟨vs,hx,hvs⟩:=(Gs.head hgs).agg_inv;obtain ⟨v,h1,h2⟩:=zcd (hT ft j hj) hvs h;exact ⟨v,by simp [execOp,ho,hx,Instr.field,run_underlying hF,hfl,asAgg,hoff,hft,h1],h2⟩
  ·exact h.elim
 ·exact h.elim
theorem zcf {P:Program} {Γ:List (TypeId×TI)} (hT:TOK P Γ) {t:TypeId} {x y:Operand} {s n:SV} {lm:Nat->Option Mem} {κ:Nat} {K:SV->MD->Prop}
  (h:zc5 Γ t s n K):∃r,K r .none/\kC P (.index t x y) [s,n] lm κ r .none:=by
 unfold zc5 at h;replace h:=zg h;obtain ⟨i,hi,h⟩:=h;have hk:=(hT t i hi).kind
 split at h
 ·rename_i len e cs k n hkind;rw [hkind] at hk;replace h:=zg h;obtain ⟨j,hj,h⟩:=h
  split at h
  ·rename_i m;replace h:=zd h;obtain ⟨hlt,h⟩:=h;replace h:=(zd h).2;replace h:=k8 h;obtain ⟨r,hK,h⟩:=h;have hlt:m < len:=Nat.le_of_ble_eq_true hlt;refine ⟨r,hK,.pure fun o ho S Pm ρ a w hgs=>?_⟩;obtain ⟨vs,hx,hvs⟩:=(Gs.head hgs).agg_inv;have hy:=(Gs.head (Gs.tail hgs)).val_inv;obtain ⟨v,h1,h2⟩:=zcd (hT e j hj) hvs h;exact ⟨v,by simp [execOp,ho,hx,hy,Instr.index,asIntOf,run_underlying hk,hlt,(hT e j hj).size,h1],h2⟩
  ·exact h.elim
 ·rename_i s k n hkind;rw [hkind] at hk;obtain ⟨⟨h0,h1⟩,h⟩:=h;have hb:s[n.toNat]? =some (s[n.toNat]'oM):=getElem?_pos s n.toNat oM;refine ⟨_,h _ hb,.pure fun o ho S Pm ρ a w hgs=>?_⟩;have hx:=hgs.head.val_inv;have hy:=hgs.tail.head.val_inv;have hk:P.underlying t=some .string:=hk;refine ⟨_,?_,.d _ _ (.val _)⟩;simp only [execOp,ho,hx,hy,Instr.index,asIntOf,Sem.run_bind,Sem.run_pure,Result.andThen_ok,run_underlying hk,h0,if_true,hb]
 ·exact h.elim
theorem vl {P:Program} {Γ:List (TypeId×TI)} (hT:TOK P Γ) {t:TypeId} {x y:Operand} {s n:SV} {lm:Nat->Option Mem} {κ:Nat} {K:SV->MD->Prop}
  (h:y4 Γ t s n lm K):∃r,K r .none/\kC P (.indexAddr t x y) [s,n] lm κ r .none:=by
 unfold y4 at h;replace h:=zg h;obtain ⟨i,hi,h⟩:=h;have hk:=(hT t i hi).kind
 split at h
 ·rename_i k n
  split at h
  ·rename_i e hkind;rw [hkind] at hk;replace h:=zg h;obtain ⟨j,hj,h⟩:=h;have hsz:=(hT e j hj).size
   have run:∀{o:Oper} (_:o.op=.indexAddr t x y) {a:Act} {w:World} {b off len cap:Nat},a.eval x=.slice (some ⟨b,off,none⟩) len cap->a.eval y=.int k n->0<=n->n < len->
     (execOp a.eval o).run P w=.ok (.value (.pointer (some ⟨b,off+n.toNat*j.sz,none⟩))) w:=by
    intro o ho a w b off len cap hx hy h0 h1;simp [execOp,ho,hx,hy,Instr.indexAt,asIntOf,run_underlying hk,h0,h1,hsz,kD]
   split at h
   ·rename_i α enc xs;obtain ⟨h0,h1⟩:=h.ob;have hlt:n.toNat < xs.length:=oM;have hx:=List.getElem?_eq_getElem hlt;have h:=h.go _ hx;replace h:=zd h;obtain ⟨hl,h⟩:=h;have hl:=Nat.eq_of_beq_eq_true hl;refine ⟨_,h,.read fun o ho Keep M ρ a w _ _ hgs=>?_⟩;have hy:=(Gs.head (Gs.tail hgs)).val_inv
    rcases (Gs.head hgs).sl_inv.sl_inv with ⟨rfl,_⟩ | ⟨sz,b,off,cap,c,hxv,hb,hS,_,_,hesz,hc,hd⟩
    ·simp at hlt
    ·have hs:sz=j.sz:=by rw [← hl];exact (hesz _ (List.mem_of_getElem? hx)).symm
     subst hs;refine ⟨_,run ho hxv hy h0 h1,?_⟩;refine .ptr _ b _ (fun j=>c n.toNat j) hb ?_ (fun q hq=>?_) (fun q s hs=>hd _ q _ s hx hs)
     ·exact fun ho=>hS (.inr ho)
     ·have:=hc n.toNat q hlt oM;exact this
   ·rename_i k'
    split at h
    ·rename_i T α enc sz xs hlk;replace h:=zd h;obtain ⟨hs,h⟩:=h;have hs:=Nat.eq_of_beq_eq_true hs;subst hs;obtain ⟨h0,h1⟩:=h.ob;refine ⟨_,h.go,.read fun o ho Keep M ρ a w hlm hm hgs=>?_⟩;have hy:=(Gs.head (Gs.tail hgs)).val_inv;obtain ⟨hρ',_⟩:=(Gs.head hgs).own_inv;obtain ⟨v,cells,hρ,hown,_⟩:=hm.rel k' _ (hlm k' _ hlk);have hxv:a.eval x=v:=by rw [hρ] at hρ';exact (Option.some.inj hρ').symm
     rcases hown.2 with ⟨_,h3⟩ | ⟨g,cap,cur,rfl,_⟩
     ·omega
     ·refine ⟨_,run ho hxv hy h0 h1,?_⟩;rw [show 0+n.toNat*j.sz=n.toNat*j.sz+0 by omega];exact .eloc _ _ _ _ g _ _ hρ
    ·rename_i T sz xs hlk;replace h:=zd h;obtain ⟨hs,h⟩:=h;have hs:=Nat.eq_of_beq_eq_true hs;subst hs;obtain ⟨h0,h1⟩:=h.ob;refine ⟨_,h.go,.read fun o ho Keep M ρ a w hlm hm hgs=>?_⟩;have hy:=(Gs.head (Gs.tail hgs)).val_inv;obtain ⟨hρ',_⟩:=(Gs.head hgs).own_inv;obtain ⟨v,cells,hρ,hown,_⟩:=hm.rel k' _ (hlm k' _ hlk);have hxv:a.eval x=v:=by rw [hρ] at hρ';exact (Option.some.inj hρ').symm
     rcases hown.2 with ⟨_,h3⟩ | ⟨g,cap,cur,rfl,_⟩
     ·omega
     ·refine ⟨_,run ho hxv hy h0 h1,?_⟩;rw [show 0+n.toNat*j.sz=n.toNat*j.sz+0 by omega];exact .eloc _ _ _ _ g _ _ hρ
    ·exact h.elim
   ·rename_i k' sz lo l;replace h:=zd h;obtain ⟨hs,h⟩:=h;have hs:=Nat.eq_of_beq_eq_true hs;subst hs;obtain ⟨h0,h1,h2⟩:=h.ob;refine ⟨_,h.go,.read fun o ho Keep M ρ a w hlm hm hgs=>?_⟩;have hy:=(Gs.head (Gs.tail hgs)).val_inv;obtain ⟨b,len,cap,cap',hρ,hx,_,_⟩:=(Gs.head hgs).win_inv;refine ⟨_,run ho hx hy h1 oM,?_⟩
    have e:lo.toNat*j.sz+n.toNat*j.sz=(lo+n).toNat*j.sz+0:=by
     rw [← Nat.add_mul,Nat.add_zero];congr 1;omega
    rw [e];exact .eloc _ _ _ _ b _ _ hρ
   ·exact h.elim
  ·rename_i len e hkind;rw [hkind] at hk;replace h:=zg h;obtain ⟨j,hj,h⟩:=h;have hsz:=(hT e j hj).size
   split at h
   ·rename_i m;replace h:=zd h;obtain ⟨hlt,h⟩:=h;have hlt:m < len:=Nat.le_of_ble_eq_true hlt
    have run:∀{o:Oper} (_:o.op=.indexAddr t x y) {a:Act} {w:World} {b off:Nat},a.eval x=.pointer (some ⟨b,off,none⟩)->a.eval y=.int k (Int.ofNat m)->
      (execOp a.eval o).run P w=.ok (.value (.pointer (some ⟨b,off+m*j.sz,none⟩))) w:=by
     intro o ho a w b off hx hy;simp [execOp,ho,hx,hy,Instr.indexAt,Instr.sureAddr,asIntOf,run_underlying hk,hlt,hsz,kD]
    split at h
    ·exact ⟨_,h,.pure fun o ho S Pm ρ a w hgs=>by
      obtain ⟨b,hρ,hx⟩:=(Gs.head hgs).loc_inv
      exact ⟨_,run ho hx (Gs.head (Gs.tail hgs)).val_inv,.loc _ _ b hρ⟩⟩
    ·refine ⟨_,h,.pure fun o ho S Pm ρ a w hgs=>?_⟩;obtain ⟨b,o',c,hx,hb,hP,hc,hd⟩:=(Gs.head hgs).ptr_inv;refine ⟨_,run ho hx (Gs.head (Gs.tail hgs)).val_inv,.ptr _ b _ (fun q=>c (m*j.sz+q)) hb hP (fun q hq=>?_) (fun q s hs=>hd _ s (by simpa using hs))⟩;have:=hc (m*j.sz+q) (by simp at hq;omega)
     rwa [← Nat.add_assoc] at this
    ·refine ⟨_,h,.pure fun o ho S Pm ρ a w hgs=>?_⟩;obtain ⟨b,o',c,hx,hb,hP,hc,hd⟩:=(Gs.head hgs).dptr_inv;refine ⟨_,run ho hx (Gs.head (Gs.tail hgs)).val_inv,.d _ _ (.dptr _ b _ (fun q=>c (m*j.sz+q)) hb hP (fun q hq=>?_) (fun q s hs=>hd _ s (by simpa using hs)))⟩;have:=hc (m*j.sz+q) (by simp at hq;omega)
     rwa [← Nat.add_assoc] at this
    ·exact ⟨_,h,.pure fun o ho S Pm ρ a w hgs=>by
      obtain ⟨b,len,cap,hρ,hx⟩:=(Gs.head hgs).eloc_inv;refine ⟨_,run ho hx (Gs.head (Gs.tail hgs)).val_inv,?_⟩;rw [Nat.add_assoc]
      exact .eloc _ _ _ _ b len cap hρ⟩
    ·exact h.elim
   ·exact h.elim
  ·exact h.elim
 ·exact h.elim
theorem zI{o:Option Operand}{l:List SV}{d:Int}{K:Int->List SV->Prop}(h:kq o l d K):
  ∃n r,K n r/\∀{S Pm:Nat->Prop} {ρ:zh} {w:World} (ev:Operand->Value) (rest:List Value),Gs S Pm ρ w l ((qr o).map ev++rest)->
   Gs S Pm ρ w r rest/\((o=none/\n=d)∨∃x k,o=some x/\ev x=.int k n):=by
 unfold kq at h
 split at h
 ·exact ⟨_,_,h,fun ev rest hg=>⟨by simpa [qr] using hg,.inl ⟨rfl,rfl⟩⟩⟩
 ·rename_i x
  split at h
  ·rename_i k n r;refine ⟨_,_,h,fun ev rest hg=>?_⟩;have hg:Gs _ _ _ _ _ (ev x::rest):=hg;exact ⟨hg.tail,.inr ⟨x,k,rfl,hg.head.val_inv⟩⟩
  ·exact h.elim
theorem qg {P:Program} {w:World} {len cap:Nat} {lo hi mx:Option Operand} {ev:Operand->Value} {l h m:Int} (hok:zfe hi mx=true)
  (hlo:(lo=none/\l=0)∨∃x k,lo=some x/\ev x=.int k l) (hhi:(hi=none/\h=len)∨∃x k,hi=some x/\ev x=.int k h)
  (hmx:(mx=none/\m=len)∨∃x k,mx=some x/\ev x=.int k m) (h0:0<=l) (h1:l<=h) (h2:h<=m) (h3:m<=len) (h4:len<=cap):
  ∃q:Nat,(Instr.sliceBounds true len cap (lo.map ev) (hi.map ev) (mx.map ev)).run P w=.ok (l.toNat,h.toNat,q) w/\h.toNat<=q/\q<=cap/\(jq mx=true->q=cap)/\(jq mx=false->q=m.toNat):=by
 have e1:(h.toNat:Int)=h:=Int.toNat_of_nonneg oM;have e2:(m.toNat:Int)=m:=Int.toNat_of_nonneg oM
 rcases hmx with ⟨rfl,rfl⟩ | ⟨xm,km,rfl,em⟩
 ·rcases hhi with ⟨rfl,rfl⟩ | ⟨xh,kh,rfl,eh⟩
  ·rcases hlo with ⟨rfl,rfl⟩ | ⟨xl,kl,rfl,el⟩
   ·exact ⟨cap,by simp [Instr.sliceBounds],by simp;omega,Nat.le_refl _,fun _=>rfl,fun h=>by cases h⟩
   ·refine ⟨cap,?_,by simp;omega,Nat.le_refl _,fun _=>rfl,fun h=>by cases h⟩;simp [Instr.sliceBounds,el,run_sliceBound w kl l len _ h0 oM]
  ·rcases hlo with ⟨rfl,rfl⟩ | ⟨xl,kl,rfl,el⟩
   ·refine ⟨cap,?_,oM,Nat.le_refl _,fun _=>rfl,fun h=>by cases h⟩;simp [Instr.sliceBounds,eh,run_sliceBound w kh h cap _ oM oM]
   ·refine ⟨cap,?_,oM,Nat.le_refl _,fun _=>rfl,fun h=>by cases h⟩;simp [Instr.sliceBounds,el,eh,run_sliceBound w kh h cap _ oM oM,run_sliceBound w kl l h.toNat _ h0 oM]
 ·rcases hhi with ⟨rfl,rfl⟩ | ⟨xh,kh,rfl,eh⟩
  ·simp [zfe] at hok
  ·rcases hlo with ⟨rfl,rfl⟩ | ⟨xl,kl,rfl,el⟩
   ·refine ⟨m.toNat,?_,oM,oM,fun h=>(by cases h),fun _=>rfl⟩;simp [Instr.sliceBounds,eh,em,run_sliceBound w km m cap _ oM oM,run_sliceBound w kh h m.toNat _ oM oM]
   ·refine ⟨m.toNat,?_,oM,oM,fun h=>(by cases h),fun _=>rfl⟩;simp [Instr.sliceBounds,el,eh,em,run_sliceBound w km m cap _ oM oM,run_sliceBound w kh h m.toNat _ oM oM,run_sliceBound w kl l h.toNat _ h0 oM]
theorem zgW {S:Nat->Prop} {w:World} {α:Type} {enc:α->List SV} {xs:List α} {a:Option Addr} {len cap:Nat} (hd:D S w (.sl enc xs) (.slice a len cap)) {sz:Nat} (hsz:∀x∈xs,(enc x).length=sz)
  {l h:Nat} (hlh:l<=h) (hh:h<=xs.length) {q:Nat} (hq:h<=q) (hqc:q<=cap):
  D S w (.sl enc ((xs.drop l).take (h - l))) (sliced a l h q sz):=by
 have hlen:((xs.drop l).take (h - l)).length=h - l:=by simp;omega
 have hmem:∀x∈(xs.drop l).take (h - l),x∈xs:=fun x hx=>List.mem_of_mem_drop (List.mem_of_mem_take hx)
 rcases hd.sl_inv with ⟨rfl,a,hv⟩ | ⟨sz',b,o,cap',c,hv,hb,hS,hl48,hcap,hesz,hc,he⟩
 ·cases hv
  have:h=0:=by simpa using hh
  subst this;have:l=0:=oM;subst this;have:q=0:=oM;subst this;exact .nil enc _
 ·cases hv
  have hix:∀i x,((xs.drop l).take (h - l))[i]? =some x->xs[l+i]? =some x/\i < h - l:=by
   intro i x hx;rw [List.getElem?_take] at hx
   split at hx
   ·exact ⟨by simpa using hx,by assumption⟩
   ·cases hx
  have hs:0 < h - l->sz'=sz:=fun hp=>by
   have h1:=List.getElem?_eq_getElem (show l < xs.length by omega);have h2:=List.mem_of_getElem? h1;rw [← hesz _ h2,← hsz _ h2]
  unfold sliced
  by_cases hql:q=l
  ·rw [if_pos hql];have h0:h - l=0:=oM
   have:=D.sl (S:=S) (w:=w) enc ((xs.drop l).take (h - l)) sz' b o (q - l) c hb hS oM oM (fun x hx=>hesz x (hmem x hx)) (fun i j hi=>by omega) (fun i j x s hx=>by
    have:=(hix i x hx).2;omega)
   rwa [hlen] at this
  ·rw [if_neg hql];simp only [Option.map_some,kD]
   have:=D.sl (S:=S) (w:=w) enc ((xs.drop l).take (h - l)) sz' b (o+l*sz) (q - l) (fun i j=>c (l+i) j) hb hS oM oM (fun x hx=>hesz x (hmem x hx)) (fun i j hi hj=>by
    have h5:=hc (l+i) j oM hj;rw [Nat.add_mul,hs oM] at h5;rw [hs oM,show o+l*sz+i*sz+j=o+(l*sz+i*sz)+j by omega]
    exact h5) (fun i j x s hx hs'=>he (l+i) j x s (hix i x hx).1 hs')
   rwa [hlen] at this
theorem vT {Keep:Nat->Prop} {M:List (Nat×Mem)} {ρ:zh} {w:World} (hm:zn Keep M ρ w) {k:Nat} {T:TypeId} {α:Type} {enc:α->List SV} {sz:Nat} {xs:List α}
  (hk:(k,Mem.arr T enc sz xs)∈M) {S:Nat->Prop} (hS:∀b,S b->Keep b∨Own M ρ b) (hSk:∀v b,ρ k=some v->zO v=some b->¬S b) {v:Value} (hv:ρ k=some v):D S w (.sl enc xs) v:=by
 obtain ⟨v',cells,hρ,hown,hlen,hone,hesz,hcells⟩:=hm.rel k _ hk;rw [hv] at hρ;cases hρ
 rcases hown.2 with ⟨rfl,h0⟩ | ⟨g,cap,cur,rfl,_,hheap,hnc,hcm,hcs,htake⟩
 ·have:xs=[]:=List.eq_nil_of_length_eq_zero h0;subst this;exact .nil enc _
 ·have hcl:=hown.1
  have hc:∀i j,i < xs.length->j < sz->∃u,cells[i*sz+j]? =some u:=fun i j hi hj=>by
   have h1:i*sz+sz<=xs.length*sz:=by
    have:=Nat.mul_le_mul_right sz (Nat.succ_le_of_lt hi);rw [Nat.succ_mul] at this;exact this
   exact ⟨_,List.getElem?_eq_getElem (show i*sz+j < cells.length by omega)⟩
  refine .sl enc xs sz g 0 cap (fun i j=>(cells[i*sz+j]?).getD undef) (hm.old g ⟨k,_,_,hk,hv,rfl⟩).1 (hSk _ g hv rfl) oM hnc hesz ?_ ?_
  ·intro i j hi hj;obtain ⟨u,hu⟩:=hc i j hi hj;rw [hu];refine ⟨?_,hone u (List.mem_of_getElem? hu)⟩;have:=jB hheap htake hu
   simpa [Nat.zero_add] using this
  ·intro i j x s hx hs;obtain ⟨u,hu,hd⟩:=hcells i j x s hx hs;rw [hu];exact hd.mono (Nat.le_refl _) fun b _ hb=>⟨fun h=>hb (hS b h),rfl⟩
theorem vU {P:Program} {o:Oper} {Keep:Nat->Prop} {M:List (Nat×Mem)} {ρ:zh} {a:Act} {w:World} (hm:zn Keep M ρ w) {k κ:Nat} {m m':Mem} (hmem:(k,m)∈M) {v:Value} (hv:ρ k=some v)
  {T:TypeId} {sz n:Nat} {cells:List Value} (hown:w.ownsRow 0 T sz v n cells) (hκ:ρ κ=none) (hκM:∀m,(κ,m)∉M) {lo hi:Option Operand} {h:Int}
  (hlo:(lo=none/\(0:Int)=0)∨∃x k,lo=some x/\a.eval x=.int k 0) (hhi:(hi=none/\h=n)∨∃x k,hi=some x/\a.eval x=.int k h) (h1:0<=h) (h2:h<=n)
  (run:∀(ad:Option Addr) (cap q:Nat),v=.slice ad n cap->(Instr.sliceBounds true n cap (lo.map a.eval) (hi.map a.eval) ((none:Option Operand).map a.eval)).run P w=.ok ((0:Int).toNat,h.toNat,q) w->
   (execOp a.eval o).run P w=.ok (.value (sliced ad (0:Int).toNat h.toNat q sz)) w)
  (hrel:∀v',w.ownsRow 0 T sz v' h.toNat (cells.take (h.toNat*sz))->upd ρ κ v' κ=some v'->Stp (Own M ρ) (Own ((κ,m')::zy M k) (upd ρ κ v')) ρ (upd ρ κ v') w w->
   kM (fun b=>Keep b∨Own ((κ,m')::zy M k) (upd ρ κ v') b) (Own ((κ,m')::zy M k) (upd ρ κ v')) (upd ρ κ v') w κ m'):
  zR P o a w (zF Keep M ρ w κ (.own κ) (.repl k m')):=by
 have fin:∀v':Value,(execOp a.eval o).run P w=.ok (.value v') w->w.ownsRow 0 T sz v' h.toNat (cells.take (h.toNat*sz))->zO v'=zO v->v'.oneCell'=true->
   zR P o a w (zF Keep M ρ w κ (.own κ) (.repl k m')):=fun v' hr ho hb h1'=>by
  refine zR.value hr ?_
  have hgrow:=hm.grow (M1:=zy M k) (fun x hx=>zq x hx) (zL hm.keys) hκ hκM v' m' w rfl rfl (.refl _) (Nat.le_refl _) (fun _ _ _=>rfl) (fun _ _ _ _ _ _ _=>rfl)
   (fun b hb'=>by
    rw [hb] at hb';have ho:Own M ρ b:=⟨k,_,v,hmem,hv,hb'⟩
    exact ⟨.inl ho,(hm.old b ho).1,fun k' m v1 g1 g2 g3=>hm.apart k' m k _ v1 v b (zq _ g1) hmem (kw hm.keys _ g1) g2 hv g3 hb'⟩)
   (fun hs=>hrel v' ho zt hs)
  exact ⟨upd ρ κ v',hgrow.1,hgrow.2,.own _ _ zt h1',fun k' hk'=>jY (by
   rcases hk' with hk' | hk'
   ·omega
   ·simp only [qS] at hk';omega)⟩
 have hcl:=hown.1;have hmul:h.toNat*sz<=n*sz:=Nat.mul_le_mul_right _ oM
 rcases hown.2 with ⟨rfl,h0⟩ | ⟨g,cap,cur,rfl,g0,hheap,hnc,hcm,hcs,htake⟩
 ·subst h0;have hh0:h=0:=oM;subst hh0;obtain ⟨q,hb,hq,hqc,hq1,_⟩:=qg (P:=P) (w:=w) (len:=0) (cap:=0) (mx:=none) (m:=0) (ev:=a.eval) (by cases hi <;> rfl) hlo hhi (.inl ⟨rfl,rfl⟩) oM oM oM oM (Nat.le_refl _);have hq0:q=0:=oM;subst hq0;have hc0:cells=[]:=List.eq_nil_of_length_eq_zero (by simpa using hcl);subst hc0;exact fin _ (run none 0 0 rfl hb) (by simpa [sliced] using World.ownsRow_nil w 0 T sz) rfl rfl
 ·obtain ⟨q,hb,hq,hqc,hq1,_⟩:=qg (P:=P) (w:=w) (len:=n) (cap:=cap) (mx:=none) (m:=n) (ev:=a.eval) (by cases hi <;> rfl) hlo hhi (.inl ⟨rfl,rfl⟩) oM oM oM oM hnc;have hq0:q=cap:=hq1 rfl;subst hq0
  have e:sliced (some ⟨g,0,none⟩) (0:Int).toNat h.toNat q sz=.slice (some ⟨g,0,none⟩) h.toNat q:=by
   unfold sliced;simp only [Int.toNat_zero,Nat.zero_mul,Nat.sub_zero,Option.map_some,kD,Nat.add_zero,ite_self]
  refine fin _ (run _ q q rfl hb) ?_ (by rw [e];rfl) (by rw [e];rfl);rw [e];refine ⟨by rw [List.length_take,hcl];omega,.inr ⟨g,q,cur,rfl,g0,hheap,oM,hcm,hcs,?_⟩⟩;rw [← htake,List.take_take,Nat.min_eq_left hmul]
theorem zcg {P:Program} {Γ:List (TypeId×TI)} (hT:TOK P Γ) {t:TypeId} {x:Operand} {lo hi mx:Option Operand} {svs:List SV} {lm:Nat->Option Mem} {κ:Nat} {K:SV->MD->Prop}
  (h:zc4 Γ t lo hi mx svs lm κ K):∃r md,K r md/\kC P (.slice t x lo hi mx) svs lm κ r md:=by
 unfold zc4 at h;replace h:=zd h;obtain ⟨hok,h⟩:=h
 split at h
 ·rename_i s rest;replace h:=zg h;obtain ⟨i,hi',h⟩:=h;have hk:=(hT t i hi').kind
  split at h
  ·rename_i e hkind;rw [hkind] at hk;have helem:P.elem t=e:=by have hk:P.underlying t=some (.slice e):=hk;simp [Program.elem,hk]
   have hk':P.underlying t=some (.slice (P.elem t)):=by rw [helem];exact hk
   replace h:=zg h;obtain ⟨j,hj,h⟩:=h;have hsz:=(hT e j hj).size
   have run:∀{o:Oper} (_:o.op=.slice t x lo hi mx) {a:Act} {w:World} {ad:Option Addr} {len cap l h q:Nat},a.eval x=.slice ad len cap->
     (Instr.sliceBounds true len cap (lo.map a.eval) (hi.map a.eval) (mx.map a.eval)).run P w=.ok (l,h,q) w->(execOp a.eval o).run P w=.ok (.value (sliced ad l h q j.sz)) w:=by
    intro o ho a w ad len cap l h q hx hb;simp [execOp,ho,hx,run_sliceAt_slice (h:=hk'),run_slice_any (ht:=hk'),hb,helem,hsz]
   split at h
   ·rename_i α enc xs
    split at h
    ·rename_i hz;obtain ⟨hz1,hz2⟩:=zx hz;obtain ⟨l,r1,h,hl⟩:=zI h;obtain ⟨hh,r2,h,hh'⟩:=zI h;obtain ⟨m,r3,h,hm'⟩:=zI h;obtain ⟨rfl,rfl,rfl⟩:=h.ob;refine ⟨_,_,h.go,.pure fun o ho S Pm ρ a w hgs=>?_⟩;have hgs:Gs S Pm ρ w (SV.sl enc xs::rest) (a.eval x::((qr lo++(qr hi++qr mx)).map a.eval)):=hgs;simp only [List.map_append] at hgs;obtain ⟨g1,e1⟩:=hl a.eval _ hgs.tail;obtain ⟨g2,e2⟩:=hh' a.eval _ g1;obtain ⟨g3,e3⟩:=hm' a.eval [] (by simpa using g2);have hd:=hgs.head.sl_inv
     have key:∃ad cap,a.eval x=.slice ad xs.length cap/\xs.length<=cap:=by
      rcases hd.sl_inv with ⟨rfl,a0,hv⟩ | ⟨_,b,o',cap,_,hv,_,_,_,hc,_⟩
      ·exact ⟨a0,0,hv,by simp⟩
      ·exact ⟨_,cap,hv,hc⟩
     obtain ⟨ad,cap,hx,hcap⟩:=key;have n1:hi≠none:=fun e=>by rw [e] at hz1;cases hz1
     have n2:mx≠none:=fun e=>by rw [e] at hz2;cases hz2
     have n3:jq mx=false:=by cases mx with | none=>exact absurd rfl n2 | some _=>rfl
     obtain ⟨q,hb,hq,hqc,_,hq2⟩:=qg (P:=P) (w:=w) (len:=xs.length) (cap:=cap) (l:=0) (h:=0) (m:=0) hok e1 (e2.imp (fun e=>absurd e.1 n1) id) (e3.imp (fun e=>absurd e.1 n2) id) oM oM oM oM hcap;have hq0:q=0:=hq2 n3;subst hq0;exact ⟨_,run ho hx hb,.d _ _ (.nils _)⟩
    ·obtain ⟨l,r1,h,hl⟩:=zI h;obtain ⟨hh,r2,h,hh'⟩:=zI h;obtain ⟨m,r3,h,hm'⟩:=zI h
     have main:∀{K':Prop},(0<=l/\l<=hh/\hh<=m/\m<=xs.length)->(∀x∈xs,(enc x).length=j.sz)->∀(o:Oper),o.op=.slice t x lo hi mx->∀(S Pm:Nat->Prop) (ρ:zh) (a:Act) (w:World),Gs S Pm ρ w (SV.sl enc xs::rest) ((zG (.slice t x lo hi mx)).map a.eval)->
       ∃v,(execOp a.eval o).run P w=.ok (.value v) w/\D S w (.sl enc ((xs.drop l.toNat).take (hh - l).toNat)) v/\(jq mx=false->hh=m->∃ad,v=.slice ad ((xs.drop l.toNat).take (hh - l).toNat).length ((xs.drop l.toNat).take (hh - l).toNat).length):=?main
     split at h
     ·obtain ⟨hbd,hes⟩:=h.ob;refine ⟨_,_,h.go,.pure fun o ho S Pm ρ a w hgs=>?_⟩;obtain ⟨v,r1,r2,_⟩:=main (K':=True) hbd hes o ho S Pm ρ a w hgs;exact ⟨v,r1,.d _ _ r2⟩
     ·rename_i hnm
      rcases h with h | h
      ·obtain ⟨hbd,hes⟩:=h.ob;refine ⟨_,_,h.go,.pure fun o ho S Pm ρ a w hgs=>?_⟩;obtain ⟨v,r1,r2,_⟩:=main (K':=True) hbd hes o ho S Pm ρ a w hgs;exact ⟨v,r1,.d _ _ r2⟩
      ·obtain ⟨⟨h0,h1,h2,h3⟩,hes⟩:=h.ob;refine ⟨_,_,h.go,.pure fun o ho S Pm ρ a w hgs=>?_⟩;obtain ⟨v,r1,r2,r3⟩:=main (K':=True) ⟨h0,h1,oM,h3⟩ hes o ho S Pm ρ a w hgs;obtain ⟨ad,rfl⟩:=r3 hnm h2;exact ⟨_,r1,.d _ _ (.full _ _ ad r2)⟩
     intro K' ⟨h0,h1,h2,h3⟩ hes o ho S Pm ρ a w hgs;have hgs:Gs S Pm ρ w (SV.sl enc xs::rest) (a.eval x::((qr lo++(qr hi++qr mx)).map a.eval)):=hgs;simp only [List.map_append] at hgs;obtain ⟨g1,e1⟩:=hl a.eval _ hgs.tail;obtain ⟨g2,e2⟩:=hh' a.eval _ g1;obtain ⟨g3,e3⟩:=hm' a.eval [] (by simpa using g2);have hd:=hgs.head.sl_inv
     have key:∃ad cap,a.eval x=.slice ad xs.length cap/\xs.length<=cap:=by
      rcases hd.sl_inv with ⟨rfl,a0,hv⟩ | ⟨_,b,o',cap,_,hv,_,_,_,hc,_⟩
      ·exact ⟨a0,0,hv,by simp⟩
      ·exact ⟨_,cap,hv,hc⟩
     obtain ⟨ad,cap,hx,hcap⟩:=key;obtain ⟨q,hb,hq,hqc,_,hq2⟩:=qg (P:=P) (w:=w) (len:=xs.length) (cap:=cap) hok e1 e2 e3 h0 h1 h2 h3 hcap;refine ⟨_,run ho hx hb,?_,fun hnm heq=>?_⟩
     ·rw [hx] at hd;have:=zgW hd hes (l:=l.toNat) (h:=hh.toNat) oM oM hq hqc
      rwa [show hh.toNat - l.toNat=(hh - l).toNat by omega] at this
     ·have hq3:q=hh.toNat:=by rw [hq2 hnm,heq]
      have hln:((xs.drop l.toNat).take (hh - l).toNat).length=hh.toNat - l.toNat:=by simp;omega
      unfold sliced;rw [hln,hq3]
      split
      ·rename_i he;have:hh.toNat - l.toNat=0:=oM;rw [this];exact ⟨_,rfl⟩
      ·exact ⟨_,rfl⟩
   ·obtain ⟨l,r1,h,hl⟩:=zI h;obtain ⟨hh,r2,h,hh'⟩:=zI h;obtain ⟨m,r3,h,hm'⟩:=zI h;obtain ⟨rfl,rfl,rfl⟩:=h.ob;refine ⟨_,_,h.go,.pure fun o ho S Pm ρ a w hgs=>?_⟩;have hgs:Gs S Pm ρ w (SV.val (.slice none 0 0)::rest) (a.eval x::((qr lo++(qr hi++qr mx)).map a.eval)):=hgs;simp only [List.map_append] at hgs;obtain ⟨g1,e1⟩:=hl a.eval _ hgs.tail;obtain ⟨g2,e2⟩:=hh' a.eval _ g1;obtain ⟨g3,e3⟩:=hm' a.eval [] (by simpa using g2)
    obtain ⟨q,hb,hq,hqc,_⟩:=qg (P:=P) (w:=w) (len:=0) (cap:=0) (l:=0) (h:=0) (m:=0) hok e1 e2 e3 oM oM oM oM (Nat.le_refl _);have hq0:q=0:=oM;subst hq0;exact ⟨_,run ho hgs.head.val_inv hb,.d _ _ (.val _)⟩
   ·rename_i k
    split at h
    ·rename_i T α enc sz xs hlk;replace h:=zd h;obtain ⟨hs,h⟩:=h;have hs:=Nat.eq_of_beq_eq_true hs;subst hs;obtain ⟨l,r1,h,hl⟩:=zI h;obtain ⟨hh,r2,h,hh'⟩:=zI h;obtain ⟨m,r3,h,hm'⟩:=zI h
     rcases h with hsee | hkeep | hwin
     rotate_left
     ·obtain ⟨hnone,hkp⟩:=zd hkeep;have hmx:mx=none:=by cases mx with | none=>rfl | some _=>cases hnone
      subst hmx;obtain ⟨ho1,hgo⟩:=hkp;obtain ⟨rfl,h1,h2⟩:=ho1;refine ⟨_,_,hgo,fun o ho Keep M ρ a w hlm hm hκ hκM hgs=>?_⟩;replace hκ:=hκ _ (Nat.le_refl _) (Nat.lt_succ_self _);replace hκM:=hκM rfl;have hmem:=zj (hlm k _ hlk);have hgs:Gs (fun b=>Keep b∨Own M ρ b) (Own M ρ) ρ w (SV.own k::rest) (a.eval x::((qr lo++(qr hi++qr none)).map a.eval)):=hgs;simp only [List.map_append] at hgs;obtain ⟨g1,e1⟩:=hl a.eval _ hgs.tail;obtain ⟨g2,e2⟩:=hh' a.eval _ g1;obtain ⟨hv,_⟩:=hgs.head.own_inv
      obtain ⟨v',cells,hρ,hown,hlen,hone,hesz,hcells⟩:=hm.rel k _ hmem;rw [hv] at hρ;cases hρ
      refine vU hm hmem hv hown hκ hκM e1 e2 h1 h2 (fun ad cap q hx hb=>run ho hx hb) (fun v' hown' hρ' hs=>⟨v',cells.take (hh.toNat*j.sz),hρ',?_,by simp;omega,fun u hu=>hone u (List.mem_of_mem_take hu),fun x hx=>hesz x (List.mem_of_mem_take hx),fun i' j' x s hx hs'=>?_⟩)
      ·simpa [Nat.min_eq_left (show hh.toNat<=xs.length by omega)] using hown'
      ·rw [List.getElem?_take] at hx
       split at hx
       ·rename_i hi';obtain ⟨u,hu,hd⟩:=hcells i' j' x s hx hs';refine ⟨u,?_,hd.stp hs⟩
        have hj':j' < j.sz:=by
         have:=(List.getElem?_eq_some_iff.1 hs').1;rw [hesz x (List.mem_of_getElem? hx)] at this;exact this
        have:=Nat.mul_le_mul_right j.sz (Nat.succ_le_of_lt hi');rw [Nat.succ_mul] at this;rw [List.getElem?_take,if_pos oM];exact hu
       ·cases hx
     ·obtain ⟨h0,h1,h2,h3⟩:=hwin.ob;refine ⟨_,_,hwin.go,fun o ho Keep M ρ a w hlm hm _ _ hgs=>?_⟩;have hmem:=zj (hlm k _ hlk);have hgs:Gs (fun b=>Keep b∨Own M ρ b) (Own M ρ) ρ w (SV.own k::rest) (a.eval x::((qr lo++(qr hi++qr mx)).map a.eval)):=hgs;simp only [List.map_append] at hgs;obtain ⟨g1,e1⟩:=hl a.eval _ hgs.tail;obtain ⟨g2,e2⟩:=hh' a.eval _ g1;obtain ⟨g3,e3⟩:=hm' a.eval [] (by simpa using g2);obtain ⟨hv,_⟩:=hgs.head.own_inv;obtain ⟨v',cells,hρ,hown,hlen,hone,hesz,hcells⟩:=hm.rel k _ hmem;rw [hv] at hρ;cases hρ
      rcases hown.2 with ⟨_,h00⟩ | ⟨g,cap,cur,hx,_,hheap,hnc,_⟩
      ·omega
      ·obtain ⟨q,hb,hq,hqc,_⟩:=qg (P:=P) (w:=w) (len:=xs.length) (cap:=cap) hok e1 e2 e3 h0 oM h2 h3 hnc;refine zR.value (run ho hx hb) (zF.same hm ?_);unfold sliced;rw [if_neg oM];simp only [Option.map_some,kD,Nat.zero_add];have hn:(hh - l).toNat=hh.toNat - l.toNat:=oM;rw [← hn];exact .win k j.sz l (hh - l) g xs.length cap (q - l.toNat) (hx ▸ hv) oM oM
     obtain ⟨h0,h1,h2,h3⟩:=hsee.ob;refine ⟨_,_,hsee.go,fun o ho Keep M ρ a w hlm hm _ _ hgs=>?_⟩;have hmem:=zj (hlm k _ hlk);have hgs:Gs (fun b=>Keep b∨Own M ρ b) (Own M ρ) ρ w (SV.own k::rest) (a.eval x::((qr lo++(qr hi++qr mx)).map a.eval)):=hgs;simp only [List.map_append] at hgs;obtain ⟨g1,e1⟩:=hl a.eval _ hgs.tail;obtain ⟨g2,e2⟩:=hh' a.eval _ g1;obtain ⟨g3,e3⟩:=hm' a.eval [] (by simpa using g2);obtain ⟨hv,_⟩:=hgs.head.own_inv;obtain ⟨hs,hmo⟩:=hm.let_go (M1:=zy M k) (fun x hx=>zq x hx) (zL hm.keys)
     have hd:D (fun b=>Keep b∨Own (zy M k) ρ b) w (.sl enc xs) (a.eval x):=vT hm hmem
      (fun b hb=>hb.imp id fun ⟨k',m',v',h1,h2,h3⟩=>⟨k',m',v',zq _ h1,h2,h3⟩)
      (fun v b hv' hb hSb=>by
       rcases hSb with hSb | ⟨k',m',v',h4,h5,h6⟩
       ·exact (hm.old b ⟨k,_,v,hmem,hv',hb⟩).2 hSb
       ·exact hm.apart k _ k' m' v v' b hmem (zq _ h4) (Ne.symm (kw hm.keys _ h4)) hv' h5 hb h6) hv
     obtain ⟨v',cells,hρ,hown,hlen,hone,hesz,hcells⟩:=hm.rel k _ hmem
     have key:∃ad cap,a.eval x=.slice ad xs.length cap/\xs.length<=cap:=by
      rcases hd.sl_inv with ⟨rfl,a0,hv⟩ | ⟨_,b,o',cap,_,hv,_,_,_,hc,_⟩
      ·exact ⟨a0,0,hv,by simp⟩
      ·exact ⟨_,cap,hv,hc⟩
     obtain ⟨ad,cap,hx,hcap⟩:=key;obtain ⟨q,hb,hq,hqc,_⟩:=qg (P:=P) (w:=w) (len:=xs.length) (cap:=cap) hok e1 e2 e3 h0 h1 h2 h3 hcap;refine zR.value (run ho hx hb) ⟨ρ,hs,hmo,.d _ _ ?_,fun _ _=>rfl⟩;rw [hx] at hd;have:=zgW hd hesz (l:=l.toNat) (h:=hh.toNat) oM oM hq hqc
     rwa [show hh.toNat - l.toNat=(hh - l).toNat by omega] at this
    ·rename_i T sz xs hlk;replace h:=zd h;obtain ⟨hs,h⟩:=h;have hs:=Nat.eq_of_beq_eq_true hs;subst hs;obtain ⟨hnone,hkp⟩:=zd h;have hmx:mx=none:=by cases mx with | none=>rfl | some _=>cases hnone
     subst hmx;obtain ⟨l,r1,hk1,hl⟩:=zI hkp;obtain ⟨hh,r2,hk2,hh'⟩:=zI hk1;obtain ⟨ho1,hgo⟩:=hk2;obtain ⟨rfl,h1,h2⟩:=ho1;refine ⟨_,_,hgo,fun o ho Keep M ρ a w hlm hm hκ hκM hgs=>?_⟩;replace hκ:=hκ _ (Nat.le_refl _) (Nat.lt_succ_self _);replace hκM:=hκM rfl;have hmem:=zj (hlm k _ hlk);have hgs:Gs (fun b=>Keep b∨Own M ρ b) (Own M ρ) ρ w (SV.own k::rest) (a.eval x::((qr lo++(qr hi++qr none)).map a.eval)):=hgs;simp only [List.map_append] at hgs;obtain ⟨g1,e1⟩:=hl a.eval _ hgs.tail;obtain ⟨g2,e2⟩:=hh' a.eval _ g1
     obtain ⟨hv,_⟩:=hgs.head.own_inv;obtain ⟨v',cells,hρ,hown,hlen,hone,hesz,hcells⟩:=hm.rel k _ hmem;rw [hv] at hρ;cases hρ
     refine vU hm hmem hv hown hκ hκM e1 e2 h1 h2 (fun ad cap q hx hb=>run ho hx hb) (fun v' hown' hρ' hs=>⟨v',cells.take (hh.toNat*j.sz),hρ',?_,by simp;omega,fun u hu=>hone u (List.mem_of_mem_take hu),fun x hx=>hesz x (List.mem_of_mem_take hx),fun i' j' x s hx hs'=>?_⟩)
     ·simpa [Nat.min_eq_left (show hh.toNat<=xs.length by omega)] using hown'
     ·rw [List.getElem?_take] at hx
      split at hx
      ·rename_i hi';obtain ⟨u,hu,hd⟩:=hcells i' j' x s hx hs';refine ⟨u,?_,hd.stp hs⟩
       have hj':j' < j.sz:=by
        have:=(List.getElem?_eq_some_iff.1 hs').1;rw [hesz x (List.mem_of_getElem? hx)] at this;exact this
       have:=Nat.mul_le_mul_right j.sz (Nat.succ_le_of_lt hi');rw [Nat.succ_mul] at this;rw [List.getElem?_take,if_pos oM];exact hu
      ·cases hx
    ·exact h.elim
   ·exact h.elim
  ·exact h.elim
 ·exact h.elim
end Go.Gs
