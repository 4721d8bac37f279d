/- Addresses, parts, new slices: what is left to be shown is enough. -/
import Derived.Test.YtakicgnbhdpknaaGreatDoorNAD
set_option maxRecDepth 100000
set_option maxHeartbeats 8000000
set_option linter.all false
namespace Go.Gs
def zth{l:LM}{n:Nat}:zo1 l n=l[n]? :=by
 induction l generalizing n with
 |nil=>rfl
 |cons x r ih=>cases n with
  |zero=>rfl
  |succ n=>simp[zo1,ih]
variable{P:Program}{f:Nat}{off:Nat}
def zpd{t:TypeId}{fs:LM}(h:zfs P t (.struct fs)){ft:TypeId}(hn:zo1 fs f=some (off,ft)):
  ∃(F:Array Field) (fl:Field),P.underlying t=some (.struct F)/\F[f]?=some fl/\fl.offset=off/\fl.type=ft:=by
 obtain⟨F,hF,hm,_⟩:=h;rw[zth,←hm,XD]at hn
 cases hq:F.toList[f]? with
 |none=>simp[hq]at hn
 |some fl=>
  simp only[hq,Qb,Jl,Kt]at hn;exact⟨F,fl,hF,by simpa using hq,hn.1,hn.2⟩
variable{Γ:LS}{x:Operand}{lm:LJ}{κ:Nat}{K:LD}
def ziG(hT:TOK P Γ){t:TypeId}{s:SV}(h:zfn Γ t f s K):∃r,K r .none/\yR P (.fieldAddr t x f) [s] lm κ r .none:=by
 unfold zfn at h;replace h:=zD h;obtain⟨i,hi,h⟩:=h;have hk:=(hT t i hi).kind
 split at h
 ·rename_i fs hfs;rw[hfs]at hk
  split at h
  ·rename_i off ft hn;replace h:=zD h;obtain⟨j,hj,h⟩:=h;replace h:=zj h;obtain⟨hz,h⟩:=h;obtain⟨F,fl,hF,hfl,hoff,hft⟩:=zpd hk hn;have hsz:∀w,(sizeOf fl.type).run P w=.ok j.sz w:=λw=>by rw[hft];exact(hT ft j hj).size w
   have hz:¬j.sz=0:=by
    have:=Xz hz;omega
   have run:∀{o:Oper} (_:o.op=.fieldAddr t x f) {a:Act} {w:World} {b o':Nat},a.eval x=.pointer (some ⟨b,o',none⟩)->
     (execOp a.eval o).run P w=.ok (.value (.pointer (some ⟨b,o'+off,none⟩))) w:=by
    intro o ho a w b o' hx;simp[execOp,ho,hx,Instr.fieldAt,Instr.sureAddr,run_underlying hF,hfl,fieldPlace,hsz,hz,ya,hoff]
   split at h
   ·exact⟨_,h,.pure λo ho S Pm ρ a w hgs=>by
     obtain⟨b,hρ,hx⟩:=(Gs.head hgs).loc_inv
     exact⟨_,run ho hx,.loc _ _ b hρ⟩⟩
   ·refine⟨_,h,.pure λo ho S Pm ρ a w hgs=>?_⟩;obtain⟨b,o',c,hx,hb,hP,hc,hd⟩:=(Gs.head hgs).ptr_inv;refine⟨_,run ho hx,.ptr _ b (o'+off) (λj=>c (off+j)) hb hP (λj hj=>?_) (λj s hs=>hd _ s (by simpa using hs))⟩;have:=hc (off+j) (by simp at hj;omega)
    rwa [←KB]at this
   ·refine⟨_,h,.pure λo ho S Pm ρ a w hgs=>?_⟩;obtain⟨b,o',c,hx,hb,hP,hc,hd⟩:=(Gs.head hgs).dptr_inv;refine⟨_,run ho hx,.d _ _ (.dptr _ b (o'+off) (λj=>c (off+j)) hb hP (λj hj=>?_) (λj s hs=>hd _ s (by simpa using hs)))⟩;have:=hc (off+j) (by simp at hj;omega)
    rwa [←KB]at this
   ·exact⟨_,h,.pure λo ho S Pm ρ a w hgs=>by
     obtain⟨b,len,cap,hρ,hx⟩:=(Gs.head hgs).eloc_inv;refine⟨_,run ho hx,?_⟩;rw[KB]
     exact .eloc _ _ _ _ b len cap hρ⟩
   exact h.elim
  exact h.elim
 exact h.elim
variable{S:LI}{ρ:zh}
def zpe{t:TypeId}{i:TI}(hT:ziF P t i){Pm:LI}{w:World}{cs:LR}{vs:LA}(hg:Gs S Pm ρ w cs vs){s:SV}(hs:(i.kind.agg=true/\s=.agg ((cs.drop off).take i.sz))∨(i.kind.agg=false/\∃r,cs.drop off=s::r)):
  ∃v,(part t vs.toArray off).run P w=.ok v w/\G S Pm ρ w s v:=by
 unfold part;rw[Sem.run_bind,hT.agg w,Result.andThen_ok]
 obtain⟨h1,rfl⟩|⟨h1,r,hr⟩:=hs
 ·have h2:=(hg.drop off).take i.sz;exact⟨.agg ((vs.drop off).take i.sz).toArray,by simp[h1,hT.size],.agg _ _ h2.1 h2.2⟩
 have h2:=hg.drop off;rw[hr]at h2;obtain⟨v,vs',hv,h3,_⟩:=h2.cons_inv
 have h4:vs[off]?=some v:=by
  have:(vs.drop off)[0]?=some v:=by rw[hv];rfl
  simpa using this
 exact⟨v,by simp[h1,h4],h3⟩
def zpf(hT:TOK P Γ){t:TypeId}{s:SV}(h:kX Γ t λi=>(match i.kind,s with
  |.struct fs,.agg cs=>(match zo1 fs f with
   |some (off,ft)=>kX Γ ft λj=>zQ (Nat.ble (off+j.sz) cs.length) (mkV j.kind.agg j.sz (cs.drop off) λs=>K s .none)
   |none=>False)
  |_,_=>False)):∃r,K r .none/\yR P (.field t x f) [s] lm κ r .none:=by
 replace h:=zD h;obtain⟨i,hi,h⟩:=h;have hk:=(hT t i hi).kind
 split at h
 ·rename_i fs cs hfs;rw[hfs]at hk
  split at h
  ·rename_i off ft hn;replace h:=zD h;obtain⟨j,hj,h⟩:=h;replace h:=(zj h).2;replace h:=vj h;obtain⟨r,hK,h⟩:=h;obtain⟨F,fl,hF,hfl,hoff,hft⟩:=zpd hk hn;refine⟨r,hK,.pure λo ho S Pm ρ a w hgs=>?_⟩;obtain⟨vs,hx,hvs⟩:=(Gs.head hgs).agg_inv;obtain⟨v,h1,h2⟩:=zpe (hT ft j hj) hvs h;exact⟨v,by simp[execOp,ho,hx,Instr.field,run_underlying hF,hfl,asAgg,hoff,hft,h1],h2⟩
  exact h.elim
 exact h.elim
def zpg(hT:TOK P Γ){t:TypeId}{y:Operand}{s n:SV}(h:zrH Γ t s n K):∃r,K r .none/\yR P (.index t x y) [s,n] lm κ r .none:=by
 unfold zrH at h;replace h:=zD h;obtain⟨i,hi,h⟩:=h;have hk:=(hT t i hi).kind
 split at h
 ·rename_i len e cs k n hkind;rw[hkind]at hk;replace h:=zD h;obtain⟨j,hj,h⟩:=h
  split at h
  ·rename_i m;replace h:=zj h;obtain⟨hlt,h⟩:=h;replace h:=(zj h).2;replace h:=vj h;obtain⟨r,hK,h⟩:=h;have hlt:m<len:=Xz hlt;refine⟨r,hK,.pure λo ho S Pm ρ a w hgs=>?_⟩;obtain⟨vs,hx,hvs⟩:=(Gs.head hgs).agg_inv;have hy:=(Gs.head (Gs.tail hgs)).val_inv;obtain⟨v,h1,h2⟩:=zpe (hT e j hj) hvs h;exact⟨v,by simp[execOp,ho,hx,hy,Instr.index,asIntOf,run_underlying hk,hlt,(hT e j hj).size,h1],h2⟩
  exact h.elim
 ·rename_i s k n hkind;rw[hkind]at hk;obtain⟨⟨h0,h1⟩,h⟩:=h;have hb:s[n.toNat]?=some (s[n.toNat]'oM):=getElem?_pos s n.toNat oM;refine⟨_,h _ hb,.pure λo ho S Pm ρ a w hgs=>?_⟩;have hx:=hgs.head.val_inv;have hy:=hgs.tail.head.val_inv;have hk:P.underlying t=some .string:=hk;refine⟨_,?_,.d _ _ (.val _)⟩;simp only[execOp,ho,hx,hy,Instr.index,asIntOf,Sem.run_bind,Sem.run_pure,Result.andThen_ok,run_underlying hk,h0,if_true,hb]
 exact h.elim
def ziH(hT:TOK P Γ){t:TypeId}{y:Operand}{s n:SV}(h:zfo Γ t s n lm K):∃r,K r .none/\yR P (.indexAddr t x y) [s,n] lm κ r .none:=by
 unfold zfo at h;replace h:=zD h;obtain⟨i,hi,h⟩:=h;have hk:=(hT t i hi).kind
 split at h
 ·rename_i k n
  split at h
  ·rename_i e hkind;rw[hkind]at hk;replace h:=zD h;obtain⟨j,hj,h⟩:=h;have hsz:=(hT e j hj).size
   have run:∀{o:Oper} (_:o.op=.indexAddr t x y) {a:Act} {w:World} {b off len cap:Nat},a.eval x=.slice (some ⟨b,off,none⟩) len cap->a.eval y=.int k n->0<=n->n<len->
     (execOp a.eval o).run P w=.ok (.value (.pointer (some ⟨b,off+n.toNat*j.sz,none⟩))) w:=by
    intro o ho a w b off len cap hx hy h0 h1;simp[execOp,ho,hx,hy,Instr.indexAt,asIntOf,run_underlying hk,h0,h1,hsz,ya]
   split at h
   ·rename_i α enc xs;obtain⟨h0,h1⟩:=h.ob;have hlt:n.toNat<xs.length:=oM;have hx:=Xb hlt;have h:=h.go _ hx;replace h:=zj h;obtain⟨hl,h⟩:=h;have hl:=Xj hl;refine⟨_,h,.read λo ho Keep M ρ a w _ _ hgs=>?_⟩;have hy:=(Gs.head (Gs.tail hgs)).val_inv
    rcases(Gs.head hgs).sl_inv.sl_inv with⟨rfl,_⟩|⟨sz,b,off,cap,c,hxv,hb,hS,_,_,hesz,hc,hd⟩
    ·simp at hlt
    have hs:sz=j.sz:=by rw[←hl];exact(hesz _ (Xf hx)).symm
    subst hs;refine⟨_,run ho hxv hy h0 h1,?_⟩;refine .ptr _ b _ (λj=>c n.toNat j) hb ?_ (λq hq=>?_) (λq s hs=>hd _ q _ s hx hs)
    ·exact λho=>hS (.inr ho)
    have:=hc n.toNat q hlt oM;exact this
   ·rename_i k'
    split at h
    ·rename_i T α enc sz xs hlk;replace h:=zj h;obtain⟨hs,h⟩:=h;have hs:=Xj hs;subst hs;obtain⟨h0,h1⟩:=h.ob;refine⟨_,h.go,.read λo ho Keep M ρ a w hlm hm hgs=>?_⟩;have hy:=(Gs.head (Gs.tail hgs)).val_inv;obtain⟨hρ',_⟩:=(Gs.head hgs).own_inv;obtain⟨v,cells,hρ,hown,_⟩:=hm.rel k' _ (hlm k' _ hlk);have hxv:a.eval x=v:=by rw[hρ]at hρ';exact(Xm hρ').symm
     obtain⟨_,h3⟩|⟨g,cap,cur,rfl,_⟩:=hown.2
     ·omega
     refine⟨_,run ho hxv hy h0 h1,?_⟩;rw[show 0+n.toNat*j.sz=n.toNat*j.sz+0 by omega];exact .eloc _ _ _ _ g _ _ hρ
    ·rename_i T sz xs hlk;replace h:=zj h;obtain⟨hs,h⟩:=h;have hs:=Xj hs;subst hs;obtain⟨h0,h1⟩:=h.ob;refine⟨_,h.go,.read λo ho Keep M ρ a w hlm hm hgs=>?_⟩;have hy:=(Gs.head (Gs.tail hgs)).val_inv;obtain⟨hρ',_⟩:=(Gs.head hgs).own_inv;obtain⟨v,cells,hρ,hown,_⟩:=hm.rel k' _ (hlm k' _ hlk);have hxv:a.eval x=v:=by rw[hρ]at hρ';exact(Xm hρ').symm
     obtain⟨_,h3⟩|⟨g,cap,cur,rfl,_⟩:=hown.2
     ·omega
     refine⟨_,run ho hxv hy h0 h1,?_⟩;rw[show 0+n.toNat*j.sz=n.toNat*j.sz+0 by omega];exact .eloc _ _ _ _ g _ _ hρ
    exact h.elim
   ·rename_i k' sz lo l;replace h:=zj h;obtain⟨hs,h⟩:=h;have hs:=Xj hs;subst hs;obtain⟨h0,h1,h2⟩:=h.ob;refine⟨_,h.go,.read λo ho Keep M ρ a w hlm hm hgs=>?_⟩;have hy:=(Gs.head (Gs.tail hgs)).val_inv;obtain⟨b,len,cap,cap',hρ,hx,_,_⟩:=(Gs.head hgs).win_inv;refine⟨_,run ho hx hy h1 oM,?_⟩
    have e:lo.toNat*j.sz+n.toNat*j.sz=(lo+n).toNat*j.sz+0:=by
     rw[←X2,XP];congr 1;omega
    rw[e];exact .eloc _ _ _ _ b _ _ hρ
   exact h.elim
  ·rename_i len e hkind;rw[hkind]at hk;replace h:=zD h;obtain⟨j,hj,h⟩:=h;have hsz:=(hT e j hj).size
   split at h
   ·rename_i m;replace h:=zj h;obtain⟨hlt,h⟩:=h;have hlt:m<len:=Xz hlt
    have run:∀{o:Oper} (_:o.op=.indexAddr t x y) {a:Act} {w:World} {b off:Nat},a.eval x=.pointer (some ⟨b,off,none⟩)->a.eval y=.int k (Int.ofNat m)->
      (execOp a.eval o).run P w=.ok (.value (.pointer (some ⟨b,off+m*j.sz,none⟩))) w:=by
     intro o ho a w b off hx hy;simp[execOp,ho,hx,hy,Instr.indexAt,Instr.sureAddr,asIntOf,run_underlying hk,hlt,hsz,ya]
    split at h
    ·exact⟨_,h,.pure λo ho S Pm ρ a w hgs=>by
      obtain⟨b,hρ,hx⟩:=(Gs.head hgs).loc_inv
      exact⟨_,run ho hx (Gs.head (Gs.tail hgs)).val_inv,.loc _ _ b hρ⟩⟩
    ·refine⟨_,h,.pure λo ho S Pm ρ a w hgs=>?_⟩;obtain⟨b,o',c,hx,hb,hP,hc,hd⟩:=(Gs.head hgs).ptr_inv;refine⟨_,run ho hx (Gs.head (Gs.tail hgs)).val_inv,.ptr _ b _ (λq=>c (m*j.sz+q)) hb hP (λq hq=>?_) (λq s hs=>hd _ s (by simpa using hs))⟩;have:=hc (m*j.sz+q) (by simp at hq;omega)
     rwa [←KB]at this
    ·refine⟨_,h,.pure λo ho S Pm ρ a w hgs=>?_⟩;obtain⟨b,o',c,hx,hb,hP,hc,hd⟩:=(Gs.head hgs).dptr_inv;refine⟨_,run ho hx (Gs.head (Gs.tail hgs)).val_inv,.d _ _ (.dptr _ b _ (λq=>c (m*j.sz+q)) hb hP (λq hq=>?_) (λq s hs=>hd _ s (by simpa using hs)))⟩;have:=hc (m*j.sz+q) (by simp at hq;omega)
     rwa [←KB]at this
    ·exact⟨_,h,.pure λo ho S Pm ρ a w hgs=>by
      obtain⟨b,len,cap,hρ,hx⟩:=(Gs.head hgs).eloc_inv;refine⟨_,run ho hx (Gs.head (Gs.tail hgs)).val_inv,?_⟩;rw[KB]
      exact .eloc _ _ _ _ b len cap hρ⟩
    exact h.elim
   exact h.elim
  exact h.elim
 exact h.elim
def kF{o:Option Operand}{l:LR}{d:Int}{K:Int->LR->Prop}(h:jy o l d K):
  ∃n r,K n r/\∀{S Pm:LI} {ρ:zh} {w:World} (ev:Operand->Value) (rest:LA),Gs S Pm ρ w l ((uC o).map ev++rest)->
   Gs S Pm ρ w r rest/\((o=none/\n=d)∨∃x k,o=some x/\ev x=.int k n):=by
 unfold jy at h
 split at h
 ·exact⟨_,_,h,λev rest hg=>⟨by simpa[uC] using hg,.inl ⟨rfl,rfl⟩⟩⟩
 rename_i x
 split at h
 ·rename_i k n r;refine⟨_,_,h,λev rest hg=>?_⟩;have hg:Gs _ _ _ _ _ (ev x::rest):=hg;exact⟨hg.tail,.inr ⟨x,k,rfl,hg.head.val_inv⟩⟩
 exact h.elim
def y9{P:Program}{w:World}{len cap:Nat}{lo hi mx:Option Operand}{ev:Operand->Value}{l h m:Int}(hok:zwG hi mx=true)(hlo:(lo=none/\l=0)∨∃x k,lo=some x/\ev x=.int k l)(hhi:(hi=none/\h=len)∨∃x k,hi=some x/\ev x=.int k h)(hmx:(mx=none/\m=len)∨∃x k,mx=some x/\ev x=.int k m)(h0:0<=l)(h1:l<=h)(h2:h<=m)(h3:m<=len)(h4:len<=cap):
  ∃q:Nat,(Instr.sliceBounds true len cap (lo.map ev) (hi.map ev) (mx.map ev)).run P w=.ok (l.toNat,h.toNat,q) w/\h.toNat<=q/\q<=cap/\(zbM mx=true->q=cap)/\(zbM mx=false->q=m.toNat):=by
 have e1:(h.toNat:Int)=h:=Qj oM;have e2:(m.toNat:Int)=m:=Qj oM
 obtain⟨rfl,rfl⟩|⟨xm,km,rfl,em⟩:=hmx
 ·obtain⟨rfl,rfl⟩|⟨xh,kh,rfl,eh⟩:=hhi
  ·obtain⟨rfl,rfl⟩|⟨xl,kl,rfl,el⟩:=hlo
   ·exact⟨cap,by simp[Instr.sliceBounds],by simp;omega,Xk _,λ_=>rfl,λh=>by cases h⟩
   refine⟨cap,?_,by simp;omega,Xk _,λ_=>rfl,λh=>by cases h⟩;simp[Instr.sliceBounds,el,run_sliceBound w kl l len _ h0 oM]
  obtain⟨rfl,rfl⟩|⟨xl,kl,rfl,el⟩:=hlo
  ·refine⟨cap,?_,oM,Xk _,λ_=>rfl,λh=>by cases h⟩;simp[Instr.sliceBounds,eh,run_sliceBound w kh h cap _ oM oM]
  refine⟨cap,?_,oM,Xk _,λ_=>rfl,λh=>by cases h⟩;simp[Instr.sliceBounds,el,eh,run_sliceBound w kh h cap _ oM oM,run_sliceBound w kl l h.toNat _ h0 oM]
 obtain⟨rfl,rfl⟩|⟨xh,kh,rfl,eh⟩:=hhi
 ·simp[zwG]at hok
 obtain⟨rfl,rfl⟩|⟨xl,kl,rfl,el⟩:=hlo
 ·refine⟨m.toNat,?_,oM,oM,λh=>(by cases h),λ_=>rfl⟩;simp[Instr.sliceBounds,eh,em,run_sliceBound w km m cap _ oM oM,run_sliceBound w kh h m.toNat _ oM oM]
 refine⟨m.toNat,?_,oM,oM,λh=>(by cases h),λ_=>rfl⟩;simp[Instr.sliceBounds,el,eh,em,run_sliceBound w km m cap _ oM oM,run_sliceBound w kh h m.toNat _ oM oM,run_sliceBound w kl l h.toNat _ h0 oM]
variable{α:Type}{xs:List α}{sz:Nat}
def zCm{w:World}{enc:α->LR}{a:Option Addr}{len cap:Nat}(hd:D S w (.sl enc xs) (.slice a len cap))(hsz:∀x∈xs,(enc x).length=sz){l h:Nat}(hlh:l<=h)(hh:h<=xs.length){q:Nat}(hq:h<=q)(hqc:q<=cap):
  D S w (.sl enc ((xs.drop l).take (h-l))) (sliced a l h q sz):=by
 have hlen:((xs.drop l).take (h-l)).length=h-l:=by simp;omega
 have hmem:∀x∈(xs.drop l).take (h-l),x∈xs:=λx hx=>KP (XL hx)
 obtain⟨rfl,a,hv⟩|⟨sz',b,o,cap',c,hv,hb,hS,hl48,hcap,hesz,hc,he⟩:=hd.sl_inv
 ·cases hv
  have:h=0:=by simpa using hh
  subst this;have:l=0:=oM;subst this;have:q=0:=oM;subst this;exact .nil enc _
 cases hv
 have hix:∀i x,((xs.drop l).take (h-l))[i]?=some x->xs[l+i]?=some x/\i<h-l:=by
  intro i x hx;rw[XI]at hx
  split at hx
  ·exact⟨by simpa using hx,by assumption⟩
  cases hx
 have hs:0<h-l->sz'=sz:=λhp=>by
  have h1:=Xb (show l<xs.length by omega);have h2:=Xf h1;rw[←hesz _ h2,←hsz _ h2]
 unfold sliced
 by_cases hql:q=l
 ·rw[Xe hql];have h0:h-l=0:=oM
  have:=D.sl (S:=S) (w:=w) enc ((xs.drop l).take (h-l)) sz' b o (q-l) c hb hS oM oM (λx hx=>hesz x (hmem x hx)) (λi j hi=>by omega) (λi j x s hx=>by
   have:=(hix i x hx).2;omega)
  rwa [hlen]at this
 rw[Xc hql];simp only[Qb,ya]
 have:=D.sl (S:=S) (w:=w) enc ((xs.drop l).take (h-l)) sz' b (o+l*sz) (q-l) (λi j=>c (l+i) j) hb hS oM oM (λx hx=>hesz x (hmem x hx)) (λi j hi hj=>by
  have h5:=hc (l+i) j oM hj;rw[X2,hs oM]at h5;rw[hs oM,show o+l*sz+i*sz+j=o+(l*sz+i*sz)+j by omega]
  exact h5) (λi j x s hx hs'=>he (l+i) j x s (hix i x hx).1 hs')
 rwa [hlen]at this
variable{Keep:LI}{M:LT}
def zjv{w:World}(hm:zL Keep M ρ w){k:Nat}{T:TypeId}{enc:α->LR}(hk:(k,Mem.arr T enc sz xs)∈M)(hS:∀b,S b->Keep b∨Own M ρ b)(hSk:∀v b,ρ k=some v->qb v=some b->¬S b){v:Value}(hv:ρ k=some v):D S w (.sl enc xs) v:=by
 obtain⟨v',cells,hρ,hown,hlen,hone,hesz,hcells⟩:=hm.rel k _ hk;rw[hv]at hρ;cases hρ
 obtain⟨rfl,h0⟩|⟨g,cap,cur,rfl,_,hheap,hnc,hcm,hcs,htake⟩:=hown.2
 ·have:xs=[]:=Xp h0;subst this;exact .nil enc _
 have hcl:=hown.1
 have hc:∀i j,i<xs.length->j<sz->∃u,cells[i*sz+j]?=some u:=λi j hi hj=>by
  have h1:i*sz+sz<=xs.length*sz:=by
   have:=Xv sz (X6 hi);rw[X4]at this;exact this
  exact⟨_,Xb (show i*sz+j<cells.length by omega)⟩
 refine .sl enc xs sz g 0 cap (λi j=>(cells[i*sz+j]?).getD undef) (hm.old g ⟨k,_,_,hk,hv,rfl⟩).1 (hSk _ g hv rfl) oM hnc hesz ?_ ?_
 ·intro i j hi hj;obtain⟨u,hu⟩:=hc i j hi hj;rw[hu];refine⟨?_,hone u (Xf hu)⟩;have:=zbV hheap htake hu
  simpa[Kc] using this
 intro i j x s hx hs;obtain⟨u,hu,hd⟩:=hcells i j x s hx hs;rw[hu];exact hd.mono (Xk _) λb _ hb=>⟨λh=>hb (hS b h),rfl⟩
variable{lo:Option Operand}{hi:Option Operand}
def zjw{o:Oper}{a:Act}{w:World}(hm:zL Keep M ρ w){k:Nat}{m m':Mem}(hmem:(k,m)∈M){v:Value}(hv:ρ k=some v){T:TypeId}{n:Nat}{cells:LA}(hown:w.ownsRow 0 T sz v n cells)(hκ:ρ κ=none)(hκM:∀m,(κ,m)∉M){h:Int}(hlo:(lo=none/\(0:Int)=0)∨∃x k,lo=some x/\a.eval x=.int k 0)(hhi:(hi=none/\h=n)∨∃x k,hi=some x/\a.eval x=.int k h)(h1:0<=h)(h2:h<=n)(run:∀(ad:Option Addr) (cap q:Nat),v=.slice ad n cap->(Instr.sliceBounds true n cap (lo.map a.eval) (hi.map a.eval) ((none:Option Operand).map a.eval)).run P w=.ok ((0:Int).toNat,h.toNat,q) w->
   (execOp a.eval o).run P w=.ok (.value (sliced ad (0:Int).toNat h.toNat q sz)) w)(hrel:∀v',w.ownsRow 0 T sz v' h.toNat (cells.take (h.toNat*sz))->upd ρ κ v' κ=some v'->Stp (Own M ρ) (Own ((κ,m')::qg M k) (upd ρ κ v')) ρ (upd ρ κ v') w w->
   jH (λb=>Keep b∨Own ((κ,m')::qg M k) (upd ρ κ v') b) (Own ((κ,m')::qg M k) (upd ρ κ v')) (upd ρ κ v') w κ m'):
  qJ P o a w (k8 Keep M ρ w κ (.own κ) (.repl k m')):=by
 have fin:∀v':Value,(execOp a.eval o).run P w=.ok (.value v') w->w.ownsRow 0 T sz v' h.toNat (cells.take (h.toNat*sz))->qb v'=qb v->v'.oneCell'=true->
   qJ P o a w (k8 Keep M ρ w κ (.own κ) (.repl k m')):=λv' hr ho hb h1'=>by
  refine qJ.value hr ?_
  have hgrow:=hm.grow (M1:=qg M k) (λx hx=>qB x hx) (jg hm.keys) hκ hκM v' m' w rfl rfl (.refl _) (Xk _) (λ_ _ _=>rfl) (λ_ _ _ _ _ _ _=>rfl)
   (λb hb'=>by
    rw[hb]at hb';have ho:Own M ρ b:=⟨k,_,v,hmem,hv,hb'⟩
    exact⟨.inl ho,(hm.old b ho).1,λk' m v1 g1 g2 g3=>hm.apart k' m k _ v1 v b (qB _ g1) hmem (v9 hm.keys _ g1) g2 hv g3 hb'⟩)
   (λhs=>hrel v' ho kD hs)
  exact⟨upd ρ κ v',hgrow.1,hgrow.2,.own _ _ kD h1',λk' hk'=>zft (by
   rcases hk' with hk'|hk'
   ·omega
   simp only[zbH]at hk';omega)⟩
 have hcl:=hown.1;have hmul:h.toNat*sz<=n*sz:=Xv _ oM
 obtain⟨rfl,h0⟩|⟨g,cap,cur,rfl,g0,hheap,hnc,hcm,hcs,htake⟩:=hown.2
 ·subst h0;have hh0:h=0:=oM;subst hh0;obtain⟨q,hb,hq,hqc,hq1,_⟩:=y9 (P:=P) (w:=w) (len:=0) (cap:=0) (mx:=none) (m:=0) (ev:=a.eval) (by cases hi <;> rfl) hlo hhi (.inl ⟨rfl,rfl⟩) oM oM oM oM (Xk _);have hq0:q=0:=oM;subst hq0;have hc0:cells=[]:=Xp (by simpa using hcl);subst hc0;exact fin _ (run none 0 0 rfl hb) (by simpa[sliced] using World.ownsRow_nil w 0 T sz) rfl rfl
 obtain⟨q,hb,hq,hqc,hq1,_⟩:=y9 (P:=P) (w:=w) (len:=n) (cap:=cap) (mx:=none) (m:=n) (ev:=a.eval) (by cases hi <;> rfl) hlo hhi (.inl ⟨rfl,rfl⟩) oM oM oM oM hnc;have hq0:q=cap:=hq1 rfl;subst hq0
 have e:sliced (some ⟨g,0,none⟩) (0:Int).toNat h.toNat q sz=.slice (some ⟨g,0,none⟩) h.toNat q:=by
  unfold sliced;simp only[Int.toNat_zero,Jk,YB,Qb,ya,XP,ite_self]
 refine fin _ (run _ q q rfl hb) ?_ (by rw[e];rfl) (by rw[e];rfl);rw[e];refine⟨by rw[Xo,hcl];omega,.inr ⟨g,q,cur,rfl,g0,hheap,oM,hcm,hcs,?_⟩⟩;rw[←htake,Yr,Qa hmul]
def zph(hT:TOK P Γ){t:TypeId}{mx:Option Operand}{svs:LR}(h:zrG Γ t lo hi mx svs lm κ K):∃r md,K r md/\yR P (.slice t x lo hi mx) svs lm κ r md:=by
 unfold zrG at h;replace h:=zj h;obtain⟨hok,h⟩:=h
 split at h
 ·rename_i s rest;replace h:=zD h;obtain⟨i,hi',h⟩:=h;have hk:=(hT t i hi').kind
  split at h
  ·rename_i e hkind;rw[hkind]at hk;have helem:P.elem t=e:=by have hk:P.underlying t=some (.slice e):=hk;simp[Program.elem,hk]
   have hk':P.underlying t=some (.slice (P.elem t)):=by rw[helem];exact hk
   replace h:=zD h;obtain⟨j,hj,h⟩:=h;have hsz:=(hT e j hj).size
   have run:∀{o:Oper} (_:o.op=.slice t x lo hi mx) {a:Act} {w:World} {ad:Option Addr} {len cap l h q:Nat},a.eval x=.slice ad len cap->
     (Instr.sliceBounds true len cap (lo.map a.eval) (hi.map a.eval) (mx.map a.eval)).run P w=.ok (l,h,q) w->(execOp a.eval o).run P w=.ok (.value (sliced ad l h q j.sz)) w:=by
    intro o ho a w ad len cap l h q hx hb;simp[execOp,ho,hx,run_sliceAt_slice (h:=hk'),run_slice_any (ht:=hk'),hb,helem,hsz]
   split at h
   ·rename_i α enc xs
    split at h
    ·rename_i hz;obtain⟨hz1,hz2⟩:=kj hz;obtain⟨l,r1,h,hl⟩:=kF h;obtain⟨hh,r2,h,hh'⟩:=kF h;obtain⟨m,r3,h,hm'⟩:=kF h;obtain⟨rfl,rfl,rfl⟩:=h.ob;refine⟨_,_,h.go,.pure λo ho S Pm ρ a w hgs=>?_⟩;have hgs:Gs S Pm ρ w (SV.sl enc xs::rest) (a.eval x::((uC lo++(uC hi++uC mx)).map a.eval)):=hgs;simp only[XA]at hgs;obtain⟨g1,e1⟩:=hl a.eval _ hgs.tail;obtain⟨g2,e2⟩:=hh' a.eval _ g1;obtain⟨g3,e3⟩:=hm' a.eval [] (by simpa using g2);have hd:=hgs.head.sl_inv
     have key:∃ad cap,a.eval x=.slice ad xs.length cap/\xs.length<=cap:=by
      obtain⟨rfl,a0,hv⟩|⟨_,b,o',cap,_,hv,_,_,_,hc,_⟩:=hd.sl_inv
      ·exact⟨a0,0,hv,sI⟩
      exact⟨_,cap,hv,hc⟩
     obtain⟨ad,cap,hx,hcap⟩:=key;have n1:hi≠none:=λe=>by rw[e]at hz1;cases hz1
     have n2:mx≠none:=λe=>by rw[e]at hz2;cases hz2
     have n3:zbM mx=false:=by cases mx with|none=>exact absurd rfl n2|some _=>rfl
     obtain⟨q,hb,hq,hqc,_,hq2⟩:=y9 (P:=P) (w:=w) (len:=xs.length) (cap:=cap) (l:=0) (h:=0) (m:=0) hok e1 (e2.imp (λe=>absurd e.1 n1) id) (e3.imp (λe=>absurd e.1 n2) id) oM oM oM oM hcap;have hq0:q=0:=hq2 n3;subst hq0;exact⟨_,run ho hx hb,.d _ _ (.nils _)⟩
    obtain⟨l,r1,h,hl⟩:=kF h;obtain⟨hh,r2,h,hh'⟩:=kF h;obtain⟨m,r3,h,hm'⟩:=kF h
    have main:∀{K':Prop},(0<=l/\l<=hh/\hh<=m/\m<=xs.length)->(∀x∈xs,(enc x).length=j.sz)->∀(o:Oper),o.op=.slice t x lo hi mx->∀(S Pm:LI) (ρ:zh) (a:Act) (w:World),Gs S Pm ρ w (SV.sl enc xs::rest) ((qe (.slice t x lo hi mx)).map a.eval)->
      ∃v,(execOp a.eval o).run P w=.ok (.value v) w/\D S w (.sl enc ((xs.drop l.toNat).take (hh-l).toNat)) v/\(zbM mx=false->hh=m->∃ad,v=.slice ad ((xs.drop l.toNat).take (hh-l).toNat).length ((xs.drop l.toNat).take (hh-l).toNat).length):=?main
    split at h
    ·obtain⟨hbd,hes⟩:=h.ob;refine⟨_,_,h.go,.pure λo ho S Pm ρ a w hgs=>?_⟩;obtain⟨v,r1,r2,_⟩:=main (K':=True) hbd hes o ho S Pm ρ a w hgs;exact⟨v,r1,.d _ _ r2⟩
    ·rename_i hnm
     rcases h with h|h
     ·obtain⟨hbd,hes⟩:=h.ob;refine⟨_,_,h.go,.pure λo ho S Pm ρ a w hgs=>?_⟩;obtain⟨v,r1,r2,_⟩:=main (K':=True) hbd hes o ho S Pm ρ a w hgs;exact⟨v,r1,.d _ _ r2⟩
     obtain⟨⟨h0,h1,h2,h3⟩,hes⟩:=h.ob;refine⟨_,_,h.go,.pure λo ho S Pm ρ a w hgs=>?_⟩;obtain⟨v,r1,r2,r3⟩:=main (K':=True) ⟨h0,h1,oM,h3⟩ hes o ho S Pm ρ a w hgs;obtain⟨ad,rfl⟩:=r3 hnm h2;exact⟨_,r1,.d _ _ (.full _ _ ad r2)⟩
    intro K' ⟨h0,h1,h2,h3⟩ hes o ho S Pm ρ a w hgs;have hgs:Gs S Pm ρ w (SV.sl enc xs::rest) (a.eval x::((uC lo++(uC hi++uC mx)).map a.eval)):=hgs;simp only[XA]at hgs;obtain⟨g1,e1⟩:=hl a.eval _ hgs.tail;obtain⟨g2,e2⟩:=hh' a.eval _ g1;obtain⟨g3,e3⟩:=hm' a.eval [] (by simpa using g2);have hd:=hgs.head.sl_inv
    have key:∃ad cap,a.eval x=.slice ad xs.length cap/\xs.length<=cap:=by
     obtain⟨rfl,a0,hv⟩|⟨_,b,o',cap,_,hv,_,_,_,hc,_⟩:=hd.sl_inv
     ·exact⟨a0,0,hv,sI⟩
     exact⟨_,cap,hv,hc⟩
    obtain⟨ad,cap,hx,hcap⟩:=key;obtain⟨q,hb,hq,hqc,_,hq2⟩:=y9 (P:=P) (w:=w) (len:=xs.length) (cap:=cap) hok e1 e2 e3 h0 h1 h2 h3 hcap;refine⟨_,run ho hx hb,?_,λhnm heq=>?_⟩
    ·rw[hx]at hd;have:=zCm hd hes (l:=l.toNat) (h:=hh.toNat) oM oM hq hqc
     rwa [show hh.toNat-l.toNat=(hh-l).toNat by omega]at this
    have hq3:q=hh.toNat:=by rw[hq2 hnm,heq]
    have hln:((xs.drop l.toNat).take (hh-l).toNat).length=hh.toNat-l.toNat:=by simp;omega
    unfold sliced;rw[hln,hq3]
    split
    ·rename_i he;have:hh.toNat-l.toNat=0:=oM;rw[this];exact⟨_,rfl⟩
    exact⟨_,rfl⟩
   ·obtain⟨l,r1,h,hl⟩:=kF h;obtain⟨hh,r2,h,hh'⟩:=kF h;obtain⟨m,r3,h,hm'⟩:=kF h;obtain⟨rfl,rfl,rfl⟩:=h.ob;refine⟨_,_,h.go,.pure λo ho S Pm ρ a w hgs=>?_⟩;have hgs:Gs S Pm ρ w (SV.val (.slice none 0 0)::rest) (a.eval x::((uC lo++(uC hi++uC mx)).map a.eval)):=hgs;simp only[XA]at hgs;obtain⟨g1,e1⟩:=hl a.eval _ hgs.tail;obtain⟨g2,e2⟩:=hh' a.eval _ g1;obtain⟨g3,e3⟩:=hm' a.eval [] (by simpa using g2)
    obtain⟨q,hb,hq,hqc,_⟩:=y9 (P:=P) (w:=w) (len:=0) (cap:=0) (l:=0) (h:=0) (m:=0) hok e1 e2 e3 oM oM oM oM (Xk _);have hq0:q=0:=oM;subst hq0;exact⟨_,run ho hgs.head.val_inv hb,.d _ _ (.val _)⟩
   ·rename_i k
    split at h
    ·rename_i T α enc sz xs hlk;replace h:=zj h;obtain⟨hs,h⟩:=h;have hs:=Xj hs;subst hs;obtain⟨l,r1,h,hl⟩:=kF h;obtain⟨hh,r2,h,hh'⟩:=kF h;obtain⟨m,r3,h,hm'⟩:=kF h
     rcases h with hsee|hkeep|hwin
     rotate_left
     ·obtain⟨hnone,hkp⟩:=zj hkeep;have hmx:mx=none:=by cases mx with|none=>rfl|some _=>cases hnone
      subst hmx;obtain⟨ho1,hgo⟩:=hkp;obtain⟨rfl,h1,h2⟩:=ho1;refine⟨_,_,hgo,λo ho Keep M ρ a w hlm hm hκ hκM hgs=>?_⟩;replace hκ:=hκ _ (Xk _) (XW _);replace hκM:=hκM rfl;have hmem:=zA (hlm k _ hlk);have hgs:Gs (λb=>Keep b∨Own M ρ b) (Own M ρ) ρ w (SV.own k::rest) (a.eval x::((uC lo++(uC hi++uC none)).map a.eval)):=hgs;simp only[XA]at hgs;obtain⟨g1,e1⟩:=hl a.eval _ hgs.tail;obtain⟨g2,e2⟩:=hh' a.eval _ g1;obtain⟨hv,_⟩:=hgs.head.own_inv
      obtain⟨v',cells,hρ,hown,hlen,hone,hesz,hcells⟩:=hm.rel k _ hmem;rw[hv]at hρ;cases hρ
      refine zjw hm hmem hv hown hκ hκM e1 e2 h1 h2 (λad cap q hx hb=>run ho hx hb) (λv' hown' hρ' hs=>⟨v',cells.take (hh.toNat*j.sz),hρ',?_,by simp;omega,λu hu=>hone u (XL hu),λx hx=>hesz x (XL hx),λi' j' x s hx hs'=>?_⟩)
      ·simpa[Qa (show hh.toNat<=xs.length by omega)] using hown'
      rw[XI]at hx
      split at hx
      ·rename_i hi';obtain⟨u,hu,hd⟩:=hcells i' j' x s hx hs';refine⟨u,?_,hd.stp hs⟩
       have hj':j'<j.sz:=by
        have:=(Xd.1 hs').1;rw[hesz x (Xf hx)]at this;exact this
       have:=Xv j.sz (X6 hi');rw[X4]at this;rw[XI,Xe oM];exact hu
      cases hx
     ·obtain⟨h0,h1,h2,h3⟩:=hwin.ob;refine⟨_,_,hwin.go,λo ho Keep M ρ a w hlm hm _ _ hgs=>?_⟩;have hmem:=zA (hlm k _ hlk);have hgs:Gs (λb=>Keep b∨Own M ρ b) (Own M ρ) ρ w (SV.own k::rest) (a.eval x::((uC lo++(uC hi++uC mx)).map a.eval)):=hgs;simp only[XA]at hgs;obtain⟨g1,e1⟩:=hl a.eval _ hgs.tail;obtain⟨g2,e2⟩:=hh' a.eval _ g1;obtain⟨g3,e3⟩:=hm' a.eval [] (by simpa using g2);obtain⟨hv,_⟩:=hgs.head.own_inv;obtain⟨v',cells,hρ,hown,hlen,hone,hesz,hcells⟩:=hm.rel k _ hmem;rw[hv]at hρ;cases hρ
      obtain⟨_,h00⟩|⟨g,cap,cur,hx,_,hheap,hnc,_⟩:=hown.2
      ·omega
      obtain⟨q,hb,hq,hqc,_⟩:=y9 (P:=P) (w:=w) (len:=xs.length) (cap:=cap) hok e1 e2 e3 h0 oM h2 h3 hnc;refine qJ.value (run ho hx hb) (k8.same hm ?_);unfold sliced;rw[Xc oM];simp only[Qb,ya,Kc];have hn:(hh-l).toNat=hh.toNat-l.toNat:=oM;rw[←hn];exact .win k j.sz l (hh-l) g xs.length cap (q-l.toNat) (hx ▸ hv) oM oM
     obtain⟨h0,h1,h2,h3⟩:=hsee.ob;refine⟨_,_,hsee.go,λo ho Keep M ρ a w hlm hm _ _ hgs=>?_⟩;have hmem:=zA (hlm k _ hlk);have hgs:Gs (λb=>Keep b∨Own M ρ b) (Own M ρ) ρ w (SV.own k::rest) (a.eval x::((uC lo++(uC hi++uC mx)).map a.eval)):=hgs;simp only[XA]at hgs;obtain⟨g1,e1⟩:=hl a.eval _ hgs.tail;obtain⟨g2,e2⟩:=hh' a.eval _ g1;obtain⟨g3,e3⟩:=hm' a.eval [] (by simpa using g2);obtain⟨hv,_⟩:=hgs.head.own_inv;obtain⟨hs,hmo⟩:=hm.let_go (M1:=qg M k) (λx hx=>qB x hx) (jg hm.keys)
     have hd:D (λb=>Keep b∨Own (qg M k) ρ b) w (.sl enc xs) (a.eval x):=zjv hm hmem
      (λb hb=>hb.imp id λ⟨k',m',v',h1,h2,h3⟩=>⟨k',m',v',qB _ h1,h2,h3⟩)
      (λv b hv' hb hSb=>by
       rcases hSb with hSb|⟨k',m',v',h4,h5,h6⟩
       ·exact(hm.old b ⟨k,_,v,hmem,hv',hb⟩).2 hSb
       exact hm.apart k _ k' m' v v' b hmem (qB _ h4) (Ne.symm (v9 hm.keys _ h4)) hv' h5 hb h6) hv
     obtain⟨v',cells,hρ,hown,hlen,hone,hesz,hcells⟩:=hm.rel k _ hmem
     have key:∃ad cap,a.eval x=.slice ad xs.length cap/\xs.length<=cap:=by
      obtain⟨rfl,a0,hv⟩|⟨_,b,o',cap,_,hv,_,_,_,hc,_⟩:=hd.sl_inv
      ·exact⟨a0,0,hv,sI⟩
      exact⟨_,cap,hv,hc⟩
     obtain⟨ad,cap,hx,hcap⟩:=key;obtain⟨q,hb,hq,hqc,_⟩:=y9 (P:=P) (w:=w) (len:=xs.length) (cap:=cap) hok e1 e2 e3 h0 h1 h2 h3 hcap;refine qJ.value (run ho hx hb) ⟨ρ,hs,hmo,.d _ _ ?_,λ_ _=>rfl⟩;rw[hx]at hd;have:=zCm hd hesz (l:=l.toNat) (h:=hh.toNat) oM oM hq hqc
     rwa [show hh.toNat-l.toNat=(hh-l).toNat by omega]at this
    ·rename_i T sz xs hlk;replace h:=zj h;obtain⟨hs,h⟩:=h;have hs:=Xj hs;subst hs;obtain⟨hnone,hkp⟩:=zj h;have hmx:mx=none:=by cases mx with|none=>rfl|some _=>cases hnone
     subst hmx;obtain⟨l,r1,hk1,hl⟩:=kF hkp;obtain⟨hh,r2,hk2,hh'⟩:=kF hk1;obtain⟨ho1,hgo⟩:=hk2;obtain⟨rfl,h1,h2⟩:=ho1;refine⟨_,_,hgo,λo ho Keep M ρ a w hlm hm hκ hκM hgs=>?_⟩;replace hκ:=hκ _ (Xk _) (XW _);replace hκM:=hκM rfl;have hmem:=zA (hlm k _ hlk);have hgs:Gs (λb=>Keep b∨Own M ρ b) (Own M ρ) ρ w (SV.own k::rest) (a.eval x::((uC lo++(uC hi++uC none)).map a.eval)):=hgs;simp only[XA]at hgs;obtain⟨g1,e1⟩:=hl a.eval _ hgs.tail;obtain⟨g2,e2⟩:=hh' a.eval _ g1
     obtain⟨hv,_⟩:=hgs.head.own_inv;obtain⟨v',cells,hρ,hown,hlen,hone,hesz,hcells⟩:=hm.rel k _ hmem;rw[hv]at hρ;cases hρ
     refine zjw hm hmem hv hown hκ hκM e1 e2 h1 h2 (λad cap q hx hb=>run ho hx hb) (λv' hown' hρ' hs=>⟨v',cells.take (hh.toNat*j.sz),hρ',?_,by simp;omega,λu hu=>hone u (XL hu),λx hx=>hesz x (XL hx),λi' j' x s hx hs'=>?_⟩)
     ·simpa[Qa (show hh.toNat<=xs.length by omega)] using hown'
     rw[XI]at hx
     split at hx
     ·rename_i hi';obtain⟨u,hu,hd⟩:=hcells i' j' x s hx hs';refine⟨u,?_,hd.stp hs⟩
      have hj':j'<j.sz:=by
       have:=(Xd.1 hs').1;rw[hesz x (Xf hx)]at this;exact this
      have:=Xv j.sz (X6 hi');rw[X4]at this;rw[XI,Xe oM];exact hu
     cases hx
    exact h.elim
   ·rename_i k sz at0 n;replace h:=zj h;obtain⟨hs,h⟩:=h;have hs:=Xj hs;subst hs;obtain⟨l,r1,h,hl⟩:=kF h;obtain⟨hh,r2,h,hh'⟩:=kF h;obtain⟨m,r3,h,hm'⟩:=kF h;obtain⟨h0,h1,h2,h3,h4⟩:=h.ob;refine⟨_,_,h.go,λo ho Keep M ρ a w hlm hm _ _ hgs=>?_⟩;have hgs:Gs (λb=>Keep b∨Own M ρ b) (Own M ρ) ρ w (SV.win k j.sz at0 n::rest) (a.eval x::((uC lo++(uC hi++uC mx)).map a.eval)):=hgs;simp only[XA]at hgs;obtain⟨g1,e1⟩:=hl a.eval _ hgs.tail;obtain⟨g2,e2⟩:=hh' a.eval _ g1
    obtain⟨g3,e3⟩:=hm' a.eval [] (by simpa using g2);obtain⟨b,len,cap,cap',hρ,hx,h5,h6⟩:=hgs.head.win_inv;have hn:n=(n.toNat:Int):=oM;obtain⟨q,hb,hq,hqc,_⟩:=y9 (P:=P) (w:=w) (len:=n.toNat) (cap:=cap') hok e1 (e2.imp (λe=>⟨e.1,e.2.trans hn⟩) id) (e3.imp (λe=>⟨e.1,e.2.trans hn⟩) id) h1 oM h3 oM h6;refine qJ.value (run ho hx hb) (k8.same hm ?_);unfold sliced;rw[Xc oM];simp only[Qb,ya];have e7:at0.toNat*j.sz+l.toNat*j.sz=(at0+l).toNat*j.sz:=by rw[←X2];congr 1;omega
    have e8:hh.toNat-l.toNat=(hh-l).toNat:=oM;rw[e7,e8];exact .win k j.sz (at0+l) (hh-l) b len cap (q-l.toNat) hρ oM oM
   exact h.elim
  exact h.elim
 exact h.elim
end Go.Gs
