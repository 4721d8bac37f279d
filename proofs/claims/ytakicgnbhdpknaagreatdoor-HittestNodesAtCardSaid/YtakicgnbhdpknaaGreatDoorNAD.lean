/- The operations, one by one: what is left to be shown is enough. -/
import Derived.Test.YtakicgnbhdpknaaGreatDoorNAC
import Derived.Laws.CopyRow
import Derived.Laws.Cover3
set_option maxRecDepth 100000
set_option maxHeartbeats 8000000
set_option linter.all false
namespace Go.Gs
section
variable{P:Program}{op:Op}{svs:LR}{lm:LJ}{κ:Nat}
def yR.pure{s:SV}(h:∀(o:Oper),o.op=op->∀(S Pm:LI) (ρ:zh) (a:Act) (w:World),Gs S Pm ρ w svs ((qe op).map a.eval)->
  ∃v,(execOp a.eval o).run P w=.ok (.value v) w/\G S Pm ρ w s v):yR P op svs lm κ s .none:=by
 intro o ho Keep M ρ a w _ hm _ _ hg;obtain⟨v,h1,h2⟩:=h o ho _ _ ρ a w hg;exact qJ.value h1 (k8.same hm h2)
def yR.read{s:SV}(h:∀(o:Oper),o.op=op->∀(Keep:LI) (M:LT) (ρ:zh) (a:Act) (w:World),(∀k m,lm k=some m->(k,m)∈M)->zL Keep M ρ w->
  Gs (λb=>Keep b∨Own M ρ b) (Own M ρ) ρ w svs ((qe op).map a.eval)->
  ∃v,(execOp a.eval o).run P w=.ok (.value v) w/\G (λb=>Keep b∨Own M ρ b) (Own M ρ) ρ w s v):yR P op svs lm κ s .none:=by
 intro o ho Keep M ρ a w hlm hm _ _ hg;obtain⟨v,h1,h2⟩:=h o ho Keep M ρ a w (λk m h=>zA (hlm k m h)) hm hg;exact qJ.value h1 (k8.same hm h2)
end
section
variable{P:Program}{e:TypeId}
def zab{w:World}{t:TypeId}{p:Option Addr}(h:P.underlying t=some (.pointer e)):(Op.equal t (.pointer p) (.pointer none)).run P w=.ok p.isNone w:=by
 have key:∀d,(Op.equalIn (d+1) t (.pointer p) (.pointer none)).run P w=.ok p.isNone w:=λd=>by
  cases p <;> simp[Op.equalIn,run_underlying h]
 exact key 9999
variable{ms:Array (String×TypeId)}
def zef{w:World}{t u:TypeId}{v:Value}(h:P.underlying t=some (.interface ms)):(Op.equal t (.iface u v) .nilIface).run P w=.ok false w:=by
 have key:∀d,(Op.equalIn (d+1) t (.iface u v) .nilIface).run P w=.ok false w:=λd=>by simp[Op.equalIn,run_underlying h]
 exact key 9999
def zcu{w:World}{t:TypeId}(h:P.underlying t=some (.interface ms)):(Op.equal t .nilIface .nilIface).run P w=.ok true w:=by
 have key:∀d,(Op.equalIn (d+1) t .nilIface .nilIface).run P w=.ok true w:=λd=>by simp[Op.equalIn,run_underlying h]
 exact key 9999
def zo8{w:World}{t:TypeId}{f:Fn}{x y:Array Value}{a b:Array TypeId}{c:Bool}(h:P.underlying t=some (.func a b c)):(Op.equal t (.func f x y) .nilFunc).run P w=.ok false w:=by
 have key:∀d,(Op.equalIn (d+1) t (.func f x y) .nilFunc).run P w=.ok false w:=λd=>by simp[Op.equalIn,run_underlying h]
 exact key 9999
variable{a:SV}{S:LI}{Pm:LI}{ρ:zh}{u:Value}
def zl1{t:TypeId}{k:TK}{y:Operand}{b:SV}{r:Bool}(hk:zfs P t k)(h:zwB k (zs6 y) a b=some r){w:World}{v:Value}(ha:G S Pm ρ w a u)(hb:G S Pm ρ w b v):
  ((binOp .eql t u v).run P w=.ok (.bool r) w/\(binOp .neq t u v).run P w=.ok (.bool (!r)) w)/\∀op x,(eqGuard op t x y u v).run P w=.ok () w:=by
 unfold zwB at h
 split at h
 ·split at h
  ·cases h;rw[ha.val_inv,hb.val_inv];exact⟨⟨by simp[binOp,run_equal_slice_nil w t _ none 0 0 hk],by simp[binOp,run_equal_slice_nil w t _ none 0 0 hk]⟩,λ_ _=>by simp[eqGuard]⟩
  cases h
 ·split at h
  ·cases h;obtain⟨_,_,_,rfl,_⟩:=ha.dptr_inv;rw[hb.val_inv];exact⟨⟨by simp[binOp,zab hk],by simp[binOp,zab hk]⟩,λ_ _=>by simp[eqGuard]⟩
  cases h
 ·split at h
  ·cases h;obtain⟨_,_,_,rfl,_⟩:=ha.ptr_inv;rw[hb.val_inv];exact⟨⟨by simp[binOp,zab hk],by simp[binOp,zab hk]⟩,λ_ _=>by simp[eqGuard]⟩
  cases h
 ·split at h
  ·cases h;obtain⟨_,_,rfl⟩:=ha.loc_inv;rw[hb.val_inv];exact⟨⟨by simp[binOp,zab hk],by simp[binOp,zab hk]⟩,λ_ _=>by simp[eqGuard]⟩
  cases h
 ·split at h
  ·cases h;rw[ha.val_inv,hb.val_inv];exact⟨⟨by simp[binOp,zab hk],by simp[binOp,zab hk]⟩,λ_ _=>by simp[eqGuard]⟩
  cases h
 ·split at h
  ·cases h;obtain⟨_,rfl,_⟩:=ha.ifc_inv;rw[hb.val_inv];obtain⟨_,hk⟩:=hk;exact⟨⟨by simp[binOp,zef hk],by simp[binOp,zef hk]⟩,λ_ _=>by simp[eqGuard]⟩
  cases h
 ·split at h
  ·rename_i hlit
   cases h;rw[ha.val_inv,hb.val_inv];obtain⟨_,hk⟩:=hk
   refine⟨⟨by simp[binOp,zcu hk],by simp[binOp,zcu hk]⟩,λ_ _=>?_⟩
   cases y <;> first|(cases hlit;done)|simp[eqGuard]
  cases h
 ·split at h
  ·cases h
   cases ha with
   |d _ _ ha=>
    cases ha with
    |dfn _ _ _ _ _=>rw[hb.val_inv];obtain⟨_,_,_,hk⟩:=hk;exact⟨⟨by simp[binOp,zo8 hk],by simp[binOp,zo8 hk]⟩,λ_ _=>by simp[eqGuard]⟩
  cases h
 cases h
variable{Γ:LS}{x:Operand}{lm:LJ}{κ:Nat}
def zuQ(hT:TOK P Γ){op:BinOp}{t yt:TypeId}{y:Operand}{b:SV}{K:SV->Prop}(h:bin Γ op t y a b K):∃s,K s/\yR P (.binOp op t x y yt) [a,b] lm κ s .none:=by
 unfold bin at h
 split at h
 ·rename_i k m k' n
  have h2:∃s,K s/\∃v,zar s v/\∀(P:Program) (t:TypeId) (w:World),(binOp op t (.int k m) (.int k' n)).run P w=.ok v w:=by
   split at h
   ·exact znJ h
   rename_i hs;obtain⟨hk,h'⟩:=zj h;have:=zf0 hk;subst this;exact zrN hs h'
  obtain⟨s,hK,v,hg,hr⟩:=h2;refine⟨s,hK,.pure λo ho S Pm ρ a w hgs=>⟨v,?_,hg.g⟩⟩;have hx:=(Gs.head hgs).val_inv;have hy:=(Gs.head (Gs.tail hgs)).val_inv;simp[execOp,ho,hx,hy,eqGuard_at_int,hr]
 ·rename_i cs ds;obtain⟨i,hi,h⟩:=zD h;obtain⟨hagg,h⟩:=zj h;obtain⟨hlen,h⟩:=zj h;obtain⟨hint,h⟩:=zj h;have hlen:=Xj hlen;have hsound:=(zdq hT 8 t i hi hint).2
  have hcmp:i.cmp=true:=by
   unfold zfX at hint;rw[hi]at hint;simp only at hint
   split at hint
   ·rename_i hk;rw[hk]at hagg;cases hagg
   ·exact(kj hint).1
   ·exact(kj hint).1
   cases hint
  have hguard:=((hT t i hi).cmp hcmp).2.1
  have run:∀(cs ds:LA) (w:World),cs.length=i.sz->y8 cs ds->(Op.equalIn 10000 t (.agg cs.toArray) (.agg ds.toArray)).run P w=.ok (eqB cs ds) w:=by
   intro cs ds w h1 h2;have:=hsound 9992 cs ds w h1 h2
   simpa[zdp,hagg] using this
  split at h
  ·obtain⟨p,ip,hK,hp⟩:=zf1 h;refine⟨_,hK,.pure λo ho S Pm ρ a w hgs=>?_⟩;obtain⟨vs,hx,hvs⟩:=(Gs.head hgs).agg_inv;obtain⟨us,hy,hus⟩:=(Gs.head (Gs.tail hgs)).agg_inv;obtain⟨h1,h2⟩:=hp hvs hus;refine⟨.bool (eqB vs us),?_,(zar.pr h2).g⟩;simp only[execOp,ho,hx,hy,Sem.run_bind,run_eqGuard_agg w _ t x y _ _ hguard,Result.andThen_ok,run_eql_struct,run vs us w (by rw[hvs.1,hlen]) h1,Sem.run_pure]
  ·obtain⟨p,ip,hK,hp⟩:=zf1 h;refine⟨_,hK,.pure λo ho S Pm ρ a w hgs=>?_⟩;obtain⟨vs,hx,hvs⟩:=(Gs.head hgs).agg_inv;obtain⟨us,hy,hus⟩:=(Gs.head (Gs.tail hgs)).agg_inv;obtain⟨h1,h2⟩:=hp hvs hus;refine⟨.bool (!eqB vs us),?_,(zar.pr (by rw[h2];rw[Qv];simp)).g⟩;simp only[execOp,ho,hx,hy,Sem.run_bind,run_eqGuard_agg w _ t x y _ _ hguard,Result.andThen_ok,run_neq_struct,run vs us w (by rw[hvs.1,hlen]) h1,Sem.run_pure]
  exact h.elim
 ·rename_i α enc xs;replace h:=zD h;obtain⟨i,hi,h⟩:=h;have hk:=(hT t i hi).kind
  have key:∀{S Pm:LI} {ρ:zh} {w:World} {v:Value},G S Pm ρ w (.sl enc xs) v->∃a c,v=.slice a xs.length c/\(xs.length≠0->a.isNone=false):=λhg=>by
   obtain⟨rfl,a,rfl⟩|⟨_,b,o,cap,_,rfl,_⟩:=hg.sl_inv.sl_inv
   ·exact⟨a,0,rfl,λh=>absurd rfl h⟩
   exact⟨_,cap,rfl,λ_=>rfl⟩
  have hguard:∀(w:World) (a b:Value),(∃x y z,a=.slice x y z)->(eqGuard op t x y a b).run P w=.ok () w:=λw a b ⟨x,y,z,e⟩=>by subst e;simp[eqGuard]
  unfold zwA at h
  split at h
  ·rename_i e hkind;rw[hkind]at hk;have hk:P.underlying t=some (.slice e):=hk
   obtain⟨hn,h⟩|h:=h
   ·refine⟨_,h,.pure λo ho S Pm ρ a w hgs=>?_⟩;obtain⟨ad,c,hx,hz⟩:=key (Gs.head hgs);have hy:=(Gs.head (Gs.tail hgs)).val_inv;refine⟨.bool false,?_,(zar.val _).g⟩;simp[execOp,ho,hx,hy,hguard,binOp,run_equal_slice_nil w t e ad _ c hk,hz hn]
   refine⟨_,h,.pure λo ho S Pm ρ a w hgs=>?_⟩;obtain⟨ad,c,hx,hz⟩:=key (Gs.head hgs);have hy:=(Gs.head (Gs.tail hgs)).val_inv;refine⟨.bool ad.isNone,?_,.d _ _ (.anyb _)⟩;simp[execOp,ho,hx,hy,hguard,binOp,run_equal_slice_nil w t e ad _ c hk]
  ·rename_i e hkind;rw[hkind]at hk;have hk:P.underlying t=some (.slice e):=hk
   obtain⟨hn,h⟩|h:=h
   ·refine⟨_,h,.pure λo ho S Pm ρ a w hgs=>?_⟩;obtain⟨ad,c,hx,hz⟩:=key (Gs.head hgs);have hy:=(Gs.head (Gs.tail hgs)).val_inv;refine⟨.bool true,?_,(zar.val _).g⟩;simp[execOp,ho,hx,hy,hguard,binOp,run_equal_slice_nil w t e ad _ c hk,hz hn]
   refine⟨_,h,.pure λo ho S Pm ρ a w hgs=>?_⟩;obtain⟨ad,c,hx,hz⟩:=key (Gs.head hgs);have hy:=(Gs.head (Gs.tail hgs)).val_inv;refine⟨.bool (!ad.isNone),?_,.d _ _ (.anyb _)⟩;simp[execOp,ho,hx,hy,hguard,binOp,run_equal_slice_nil w t e ad _ c hk]
  exact h.elim
 ·rename_i v0;replace h:=zD h;obtain⟨i,hi,h⟩:=h;have hk:=(hT t i hi).kind
  split at h
  ·rename_i hkind;rw[hkind]at hk;obtain⟨ms,hk⟩:=hk;replace h:=zj h;obtain⟨hlit,h⟩:=h;obtain⟨yv,hyv⟩:∃yv,y=.const yv:=by cases y <;> first|exact⟨_,rfl⟩|cases hlit
   subst hyv
   split at h
   ·refine⟨_,h,.pure λo ho S Pm ρ a w hgs=>?_⟩;obtain⟨hx,hif⟩:=(Gs.head hgs).op_inv;have hy:=(Gs.head (Gs.tail hgs)).val_inv;refine⟨.bool (zo2 v0),?_,(zar.pr (by cases zo2 v0 <;> simp)).g⟩
    cases v0 <;> first|(cases hif;done)|simp[execOp,ho,hx,hy,eqGuard,binOp,zcu hk,zef hk,zo2]
   ·refine⟨_,h,.pure λo ho S Pm ρ a w hgs=>?_⟩;obtain⟨hx,hif⟩:=(Gs.head hgs).op_inv;have hy:=(Gs.head (Gs.tail hgs)).val_inv;refine⟨.bool (!zo2 v0),?_,(zar.pr (by cases zo2 v0 <;> simp)).g⟩
    cases v0 <;> first|(cases hif;done)|simp[execOp,ho,hx,hy,eqGuard,binOp,zcu hk,zef hk,zo2]
   exact h.elim
  exact h.elim
 replace h:=zD h;obtain⟨i,hi,h⟩:=h;have hk:=(hT t i hi).kind
 split at h
 ·rename_i r hr;unfold zs8 at h
  split at h
  ·refine⟨_,h,.pure λo ho S Pm ρ a w hgs=>?_⟩;obtain⟨⟨h1,_⟩,h2⟩:=zl1 hk hr (Gs.head hgs) (Gs.head (Gs.tail hgs));exact⟨.bool r,by simp[execOp,ho,h1,h2],(zar.val _).g⟩
  ·refine⟨_,h,.pure λo ho S Pm ρ a w hgs=>?_⟩;obtain⟨⟨_,h1⟩,h2⟩:=zl1 hk hr (Gs.head hgs) (Gs.head (Gs.tail hgs));exact⟨.bool (!r),by simp[execOp,ho,h1,h2],(zar.val _).g⟩
  exact h.elim
 split at h
 ·rename_i hkind;rw[hkind]at hk;obtain⟨p,ip,h,hp⟩:=zee h;obtain⟨q,iq,h,hq⟩:=zee h;refine⟨_,h,.pure λo ho S Pm ρ a w hgs=>?_⟩;have hx:=hp (Gs.head hgs);have hy:=hq (Gs.head (Gs.tail hgs));refine⟨.bool (@decide p ip==@decide q iq),?_,(zar.pr (by by_cases hp':p <;> by_cases hq':q <;> simp[hp',hq'])).g⟩;simp[execOp,ho,hx,hy,eqGuard_at_bool,binOp,Op.equal,Op.maxDepth,run_equalIn_bool w 9999 t _ _ hk]
 ·rename_i hkind;rw[hkind]at hk;obtain⟨p,ip,h,hp⟩:=zee h;obtain⟨q,iq,h,hq⟩:=zee h;refine⟨_,h,.pure λo ho S Pm ρ a w hgs=>?_⟩;have hx:=hp (Gs.head hgs);have hy:=hq (Gs.head (Gs.tail hgs));refine⟨.bool (!(@decide p ip==@decide q iq)),?_,(zar.pr (by by_cases hp':p <;> by_cases hq':q <;> simp[hp',hq'])).g⟩;simp[execOp,ho,hx,hy,eqGuard_at_bool,binOp,Op.equal,Op.maxDepth,run_equalIn_bool w 9999 t _ _ hk]
 exact h.elim
variable{K:LD}
def zrO{c b:SV}{xc xa xb:Operand}(h:zwJ c a b K):
  ∃s,K s .none/\yR P (.pick xc xa xb) [c,a,b] lm κ s .none:=by
 have yes:∀(c':Bool),(∀{S Pm:LI} {ρ:zh} {w:World} {v:Value},G S Pm ρ w c v->v=.bool c')->yR P (.pick xc xa xb) [c,a,b] lm κ (if c' then a else b) .none:=by
  intro c' hc;refine .pure λo ho S Pm ρ e w hgs=>?_
  have h1:=hc (Gs.head hgs);have h2:=Gs.head (Gs.tail hgs);have h3:=Gs.head (Gs.tail (Gs.tail hgs))
  cases c' with
  |true=>exact⟨_,by simp[execOp,ho,h1,asBool],h2⟩
  |false=>exact⟨_,by simp[execOp,ho,h1,asBool],h3⟩
 unfold zwJ at h
 split at h
 ·exact⟨a,h,yes true λhg=>hg.val_inv⟩
 ·exact⟨b,h,yes false λhg=>hg.val_inv⟩
 ·rename_i p i
  by_cases hp:p
  ·exact⟨a,h.yes hp,yes true λhg=>by rw[hg.pr_inv];simp[hp]⟩
  exact⟨b,h.no hp,yes false λhg=>by rw[hg.pr_inv];simp[hp]⟩
 exact h.elim
def zwU{op:UnOp}{t:TypeId}{s:SV}(h:unV op s K):
  ∃r,K r .none/\yR P (.unOp op t x) [s] lm κ r .none:=by
 unfold unV at h
 split at h
 ·exact⟨_,h,.pure λo ho S Pm ρ a w hgs=>⟨.bool false,by simp[execOp,ho,(Gs.head hgs).val_inv,Op.unary],(zar.val _).g⟩⟩
 ·exact⟨_,h,.pure λo ho S Pm ρ a w hgs=>⟨.bool true,by simp[execOp,ho,(Gs.head hgs).val_inv,Op.unary],(zar.val _).g⟩⟩
 ·rename_i p i;exact⟨_,h,.pure λo ho S Pm ρ a w hgs=>⟨.bool (!(@decide p i)),by simp[execOp,ho,(Gs.head hgs).pr_inv,Op.unary],(zar.pr (by rw[Qv];simp)).g⟩⟩
 ·rename_i k n;exact⟨_,u5 h,.pure λo ho S Pm ρ a w hgs=>⟨.int k (k.wrap (-n)),by simp[execOp,ho,(Gs.head hgs).val_inv,Op.unary,Op.intArith],(zar.val _).g⟩⟩
 exact h.elim
variable{sz:Nat}{cs:LR}
def vj{agg:Bool}{K:SV->Prop}(h:mkV agg sz cs K):∃s,K s/\((agg=true/\s=.agg (cs.take sz))∨(agg=false/\∃r,cs=s::r)):=by
 unfold mkV at h
 split at h
 ·exact⟨_,h,.inl ⟨rfl,rfl⟩⟩
 split at h
 ·exact⟨_,qL h,.inr ⟨rfl,_,rfl⟩⟩
 exact h.elim
def ya(b o n:Nat):(⟨b,o,none⟩:Addr).add n=⟨b,o+n,none⟩:=by unfold Addr.add;split <;> simp_all
variable{i:TI}{b:Nat}{vs:LA}
def zbU{t:TypeId}(hT:ziF P t i){w:World}{o:Nat}(hg:Gs S Pm ρ w cs vs)(hc:∀j v,vs[j]?=some v->w.cell? ⟨b,o+j,none⟩=some v)(hle:i.sz<=cs.length){s:SV}(hs:(i.kind.agg=true/\s=.agg (cs.take i.sz))∨(i.kind.agg=false/\∃r,cs=s::r)):
  ∃v,(loadVar t ⟨b,o,none⟩).run P w=.ok v w/\G S Pm ρ w s v:=by
 unfold loadVar;rw[Sem.run_bind,hT.agg w,Result.andThen_ok]
 obtain⟨h1,rfl⟩|⟨h1,r,rfl⟩:=hs
 ·have hl:(vs.take i.sz).length=i.sz:=by have:=hg.1;simp;omega
  have hload:=run_loadCells_list (P:=P) w ⟨b,o,none⟩ (vs.take i.sz) (λj v hv=>by
   rw[ya];rw[XI]at hv
   split at hv
   ·exact hc j v hv
   cases hv)
  rw[hl]at hload;refine⟨.agg (vs.take i.sz).toArray,?_,.agg _ _ (hg.take _).1 (hg.take _).2⟩;simp[h1,hT.size,hload]
 obtain⟨v,vs',rfl,h2,h3⟩:=hg.cons_inv;have:=hc 0 v rfl;exact⟨v,by simp only[h1,Ky,if_false,run_load,XP]at this ⊢;rw[this],h2⟩
def zo9{s:SV}(h:zlV s=true){w:World}{v:Value}(hg:G S Pm ρ w s v):v.oneCell'=true:=by
 cases s with
 |val u=>rw[hg.val_inv];cases u <;> first|rfl|(simp[zlV]at h)
 |pr p i=>rw[hg.pr_inv];rfl
 |agg cs=>simp[zlV]at h
 |sl enc xs=>obtain⟨_,_,rfl⟩|⟨_,_,_,_,_,rfl,_⟩:=hg.sl_inv.sl_inv <;> rfl
 |nils=>obtain⟨_,rfl⟩:=hg.nils_inv;rfl
 |anyb=>obtain⟨_,rfl⟩:=hg.anyb_inv;rfl
 |full enc xs=>obtain⟨_,rfl,_⟩:=hg.full_inv;rfl
 |ptr cs=>obtain⟨_,_,_,rfl,_⟩:=hg.ptr_inv;rfl
 |loc k off=>obtain⟨_,_,rfl⟩:=hg.loc_inv;rfl
 |own k=>exact hg.own_inv.2
 |eloc k sz i off=>obtain⟨_,_,_,_,rfl⟩:=hg.eloc_inv;rfl
 |win k sz lo n=>obtain⟨_,_,_,_,_,rfl,_⟩:=hg.win_inv;rfl
 |fn f cs=>obtain⟨_,rfl,_⟩:=hg.fn_inv;rfl
 |dptr cs=>obtain⟨_,_,_,rfl,_⟩:=hg.dptr_inv;rfl
 |dfn f cs=>obtain⟨_,rfl,_⟩:=hg.dfn_inv;rfl
 |bm f cs=>obtain⟨_,rfl,_⟩:=hg.bm_inv;rfl
 |op v=>obtain⟨rfl,h⟩:=hg.op_inv;cases v <;> first|rfl|cases h
 |ifc t s=>obtain⟨_,rfl,_⟩:=hg.ifc_inv;rfl
 |tup cs=>simp[zlV]at h
 |junk=>simp[zlV]at h
def zhh(h:jY cs=true){w:World}(hg:Gs S Pm ρ w cs vs):∀v∈vs,v.oneCell'=true:=by
 induction cs generalizing vs with
 |nil=>rw[hg.nil_inv];simp
 |cons s cs ih=>
  obtain⟨v,vs',rfl,h1,h2⟩:=hg.cons_inv;simp only[jY]at h
  split at h
  ·rename_i hc;intro u hu
   cases hu with
   |head=>exact zo9 hc h1
   |tail _ hu=>exact ih h h2 u hu
  cases h
def zl2{v:Value}(h:v.oneCell'=true):v.cells=#[v]:=by cases v <;> first|rfl|(simp[Value.oneCell']at h)
def vH{s:SV}(h:jY (kN s)=true){w:World}{v:Value}(hg:G S Pm ρ w s v):
  Gs S Pm ρ w (kN s) v.cells.toList/\∀u∈v.cells.toList,u.oneCell'=true:=by
 have key:Gs S Pm ρ w (kN s) v.cells.toList:=by
  by_cases ha:∃cs,s=.agg cs
  ·obtain⟨cs,rfl⟩:=ha;obtain⟨vs,rfl,h1⟩:=hg.agg_inv;exact h1
  have hc:kN s=[s]:=by cases s <;> first|rfl|exact absurd ⟨_,rfl⟩ ha
  rw[hc]at h ⊢;simp only[jY]at h
  split at h
  ·rename_i h1;rw[zl2 (zo9 h1 hg)];exact .cons hg .nil
  cases h
 exact⟨key,zhh h key⟩
def zpa{w:World}{new:LR}{us:LA}(off:Nat)(h:Gs S Pm ρ w cs vs)(hn:Gs S Pm ρ w new us):
  Gs S Pm ρ w (vg cs off new) (vs.take off++us++vs.drop (off+us.length)):=by
 unfold vg;rw[hn.1];exact((h.take _).append hn).append (h.drop _)
def zf2{w:World}{T:TypeId}(h:w.heap[b]?=some (.cells vs.toArray T (0,0)))(j:Nat):w.cell? ⟨b,j,none⟩=vs[j]? :=by
 rw[cell_of_row w b j _ T _ h];simp
variable{cap:Nat}
def zeg{w:World}{T:TypeId}{v:Value}{n:Nat}{cells:LA}{len:Nat}(hv:v=.slice (some ⟨b,0,none⟩) len cap)(h:w.ownsRow 0 T sz v n cells):len=n/\∃cur:Array Value,w.heap[b]?=some (.cells cur T (0,0))/\n<=cap/\cap<=maxLen/\cur.size=cap*sz/\cur.toList.take (n*sz)=cells:=by
 obtain⟨h1,_⟩|⟨g,cap',cur,h1,_,h2,h3,h4,h5,h6⟩:=h.2
 ·rw[h1]at hv;cases hv
 rw[h1]at hv;cases hv;exact⟨rfl,cur,h2,h3,h4,h5,h6⟩
variable{cur:Array Value}
def zbV{w:World}{T:TypeId}{n:Nat}{cells:LA}(h:w.heap[b]?=some (.cells cur T (0,0)))(ht:cur.toList.take n=cells){j:Nat}(hu:cells[j]?=some u):w.cell? ⟨b,j,none⟩=some u:=by
 rw[cell_of_row w b j _ T _ h];rw[←ht,XI]at hu
 split at hu
 ·simpa using hu
 cases hu
def zib{w:World}{α:Type _}{enc:α->LR}{xs:List α}{cells:LA}(hsz:∀x∈xs,(enc x).length=sz)(hg:∀(i j:Nat) x (s:SV),xs[i]?=some x->(enc x)[j]?=some s->∃u,cells[i*sz+j]?=some u/\G S Pm ρ w s u){i:Nat}{x:α}(hx:xs[i]?=some x):Gs S Pm ρ w (enc x) ((cells.drop (i*sz)).take sz):=by
 have hlen:=hsz x (Xf hx);refine⟨?_,λj s v h1 h2=>?_⟩
 ·have h:(cells.drop (i*sz)).take sz=(List.range sz).map λj=>(cells[i*sz+j]?).getD undef:=by
   apply Kq;intro j
   by_cases hj:j<sz
   ·obtain⟨u,hu,_⟩:=hg i j x ((enc x)[j]'oM) hx (by simp[hlen,hj]);simp[hj,hu]
   simp[XI,hj]
  rw[h];simp[hlen]
 rw[XI]at h2
 split at h2
 ·obtain⟨u,hu,hd⟩:=hg i j x s hx h1;simp only[Kz]at h2;rw[hu]at h2;cases h2
  exact hd
 cases h2
def zrP{w:World}{α:Type}{enc:α->LR}{xs:List α}{cells:LA}(hsz:∀x∈xs,(enc x).length=sz)(hg:∀(i j:Nat) x (s:SV),xs[i]?=some x->(enc x)[j]?=some s->∃u,cells[i*sz+j]?=some u/\D S w s u){i:Nat}{x:α}(hx:xs[i]?=some x)
:Gs S Pm ρ w (enc x) ((cells.drop (i*sz)).take sz):=
 zib hsz (λi j x s a b=>(hg i j x s a b).imp λ_ h=>⟨h.1,.d _ _ h.2⟩) hx
def zrQ(hT:TOK P Γ){t:TypeId}{s:SV}(h:zwF Γ t s lm K):
  ∃r,K r .none/\yR P (.load t x) [s] lm κ r .none:=by
 unfold zwF at h;replace h:=zD h;obtain⟨i,hi,h⟩:=h;have hTi:=hT t i hi
 have run:∀{o:Oper} (_:o.op=.load t x) {a:Act} {w:World} {b off:Nat} {v:Value},a.eval x=.pointer (some ⟨b,off,none⟩)->(loadVar t ⟨b,off,none⟩).run P w=.ok v w->
   (execOp a.eval o).run P w=.ok (.value v) w:=by
  intro o ho a w b off v h1 h2;simp[execOp,ho,h1,Instr.loadAt,Instr.sureAddr,h2]
 split at h
 ·rename_i k off
  split at h
  ·rename_i T cs hlk;replace h:=zj h;obtain⟨hle,h⟩:=h;have hle:=Xz hle;obtain⟨r,hK,hr⟩:=vj h;refine⟨r,hK,.read λo ho Keep M ρ a w hlm hm hgs=>?_⟩;obtain⟨b,vs,hρ,hheap,hlen,_,hcells⟩:=hm.rel k _ (hlm k _ hlk);obtain⟨b',hρ',hx⟩:=(Gs.head hgs).loc_inv;rw[hρ]at hρ';cases hρ'
   have hg:Gs (λb=>Keep b∨Own M ρ b) (Own M ρ) ρ w (cs.drop off) (vs.drop off):=Gs.drop off ⟨hlen,hcells⟩;obtain⟨v,h1,h2⟩:=zbU hTi (b:=b) (o:=off) hg (λj v hv=>by rw[zf2 hheap];simpa using hv) (by simp;omega) hr;exact⟨v,run ho hx h1,h2⟩
  exact h.elim
 ·rename_i cs;replace h:=zj h;obtain⟨hle,h⟩:=h;have hle:=Xz hle;obtain⟨r,hK,hr⟩:=vj h;refine⟨r,hK,.pure λo ho S Pm ρ a w hgs=>?_⟩;obtain⟨b,off,c,hx,_,_,hc,hd⟩:=(Gs.head hgs).ptr_inv
  have hg:Gs S Pm ρ w cs ((List.range cs.length).map c):=⟨sI,λj s v h1 h2=>by
   have hj:j<cs.length:=(Xd.1 h1).1;simp[hj]at h2;subst h2
   exact .d _ _ (hd j s h1)⟩
  obtain⟨v,h1,h2⟩:=zbU hTi (b:=b) (o:=off) hg (λj v hv=>by
   have hj:j<cs.length:=by have:=(Xd.1 hv).1;simpa using this
   simp[hj]at hv;subst hv
   exact(hc j hj).1) hle hr
  exact⟨v,run ho hx h1,h2⟩
 ·rename_i cs;replace h:=zj h;obtain⟨hle,h⟩:=h;have hle:=Xz hle;obtain⟨r,hK,hr⟩:=vj h;refine⟨r,hK,.pure λo ho S Pm ρ a w hgs=>?_⟩;obtain⟨b,off,c,hx,_,_,hc,hd⟩:=(Gs.head hgs).dptr_inv
  have hg:Gs S Pm ρ w cs ((List.range cs.length).map c):=⟨sI,λj s v h1 h2=>by
   have hj:j<cs.length:=(Xd.1 h1).1;simp[hj]at h2;subst h2
   exact .d _ _ (hd j s h1)⟩
  obtain⟨v,h1,h2⟩:=zbU hTi (b:=b) (o:=off) hg (λj v hv=>by
   have hj:j<cs.length:=by have:=(Xd.1 hv).1;simpa using this
   simp[hj]at hv;subst hv
   exact(hc j hj).1) hle hr
  exact⟨v,run ho hx h1,h2⟩
 ·rename_i k sz n off
  split at h
  ·rename_i T α enc sz' xs hlk;replace h:=zj h;obtain⟨hsz,h⟩:=h;replace h:=zj h;obtain⟨hle,h⟩:=h;have hsz:=Xj hsz;subst hsz;have hle:=Xz hle;obtain⟨h0,h1⟩:=h.ob;have hlt:n.toNat<xs.length:=oM;have hx:=Xb hlt;obtain⟨r,hK,hr⟩:=vj (h.go _ hx);refine⟨r,hK,.read λo ho Keep M ρ a w hlm hm hgs=>?_⟩;obtain⟨v,cells,hρ,hown,_,_,hesz,hcells⟩:=hm.rel k _ (hlm k _ hlk);obtain⟨b,len,cap,hρ',hxv⟩:=(Gs.head hgs).eloc_inv;rw[hρ]at hρ';cases hρ'
   obtain⟨_,cur,hheap,_,_,_,htake⟩:=zeg rfl hown;have hg:=Gs.drop off (zrP hesz hcells hx (Pm:=Own M ρ) (ρ:=ρ));have hl:=hesz _ (Xf hx)
   obtain⟨v,h1,h2⟩:=zbU hTi (b:=b) (o:=n.toNat*sz+off) hg (λj u hu=>by
    simp only[Kz,XI]at hu
    split at hu
    ·refine zbV hheap htake ?_;rw[←hu];congr 1;omega
    cases hu) (by simp;omega) hr
   exact⟨v,run ho hxv h1,h2⟩
  ·rename_i T sz' xs hlk;replace h:=zj h;obtain⟨hsz,h⟩:=h;replace h:=zj h;obtain⟨hle,h⟩:=h;have hsz:=Xj hsz;subst hsz;have hle:=Xz hle;obtain⟨h0,h1⟩:=h.ob;have hlt:n.toNat<xs.length:=oM;have hx:=Xb hlt;obtain⟨r,hK,hr⟩:=vj (h.go _ hx);refine⟨r,hK,.read λo ho Keep M ρ a w hlm hm hgs=>?_⟩;obtain⟨v,cells,hρ,hown,_,_,hesz,hcells⟩:=hm.rel k _ (hlm k _ hlk);obtain⟨b,len,cap,hρ',hxv⟩:=(Gs.head hgs).eloc_inv;rw[hρ]at hρ';cases hρ'
   obtain⟨_,cur,hheap,_,_,_,htake⟩:=zeg rfl hown;have hg:=Gs.drop off (zib hesz hcells hx);have hl:=hesz _ (Xf hx)
   obtain⟨v,h1,h2⟩:=zbU hTi (b:=b) (o:=n.toNat*sz+off) hg (λj u hu=>by
    simp only[Kz,XI]at hu
    split at hu
    ·refine zbV hheap htake ?_;rw[←hu];congr 1;omega
    cases hu) (by simp;omega) hr
   exact⟨v,run ho hxv h1,h2⟩
  exact h.elim
 exact h.elim
def Gs.stp{Keep W W':LI}{ρ ρ':zh}{w w':World}(h:Stp W W' ρ ρ' w w'){cs:LR}{vs:LA}(hg:Gs (λb=>Keep b∨W b) W ρ w cs vs):Gs (λb=>Keep b∨W' b) W' ρ' w' cs vs:=hg.mono' λ_ _ h'=>h'.stp h
variable{Keep:LI}{M:LT}
def zcv{w:World}(hm:zL Keep M ρ w)(hκ:ρ κ=none)(hκM:∀m,(κ,m)∉M)(m:Mem)(o:Obj)(v:Value)(ho:kO w (w.alloc o))(hv:qb v=some w.heap.size)(hrel:Stp (Own M ρ) (Own ((κ,m)::M) (upd ρ κ v)) ρ (upd ρ κ v) w (w.alloc o)->
   jH (λb=>Keep b∨Own ((κ,m)::M) (upd ρ κ v) b) (Own ((κ,m)::M) (upd ρ κ v)) (upd ρ κ v) (w.alloc o) κ m):
  Stp (Own M ρ) (Own ((κ,m)::M) (upd ρ κ v)) ρ (upd ρ κ v) w (w.alloc o)/\zL Keep ((κ,m)::M) (upd ρ κ v) (w.alloc o):=
 hm.grow (λ_ h=>h) hm.keys hκ hκM v m (w.alloc o) rfl rfl ho sI (λb hb _=>heap_alloc_old w o b hb)
  (λk m v b h1 h2 h3=>heap_alloc_old w o b (hm.old b ⟨k,m,v,h1,h2,h3⟩).1)
  (λb hb=>by
   rw[hv]at hb;cases hb
   exact⟨.inr (Xk _),sI,λk m v' h1 h2 h3=>by have:=(hm.old _ ⟨k,m,v',h1,h2,h3⟩).1;omega⟩) hrel
def k8.push{Keep:LI}{M:LT}{ρ:zh}{w w':World}{κ:Nat}{s:SV}{m:Mem}{v u:Value}(h:Stp (Own M ρ) (Own ((κ,m)::M) (upd ρ κ u)) ρ (upd ρ κ u) w w'/\zL Keep ((κ,m)::M) (upd ρ κ u) w')(hg:G (λb=>Keep b∨Own ((κ,m)::M) (upd ρ κ u) b) (Own ((κ,m)::M) (upd ρ κ u)) (upd ρ κ u) w' s v):k8 Keep M ρ w κ s (.push m) v w':=
 ⟨upd ρ κ u,h.1,h.2,hg,λk hk=>zft (by
  rcases hk with hk|hk
  ·omega
  simp only[zbH]at hk;omega)⟩
def zl3{w:World}(hm:zL Keep M ρ w)(hκ:ρ κ=none)(hκM:∀m,(κ,m)∉M)(T:TypeId)(hg:Gs (λb=>Keep b∨Own M ρ b) (Own M ρ) ρ w cs vs)(h1:∀v∈vs,v.oneCell'=true):
  k8 Keep M ρ w κ (.loc κ 0) (.push (.box T cs)) (.pointer (some ⟨w.heap.size,0,none⟩)) (w.alloc (.cells vs.toArray T)):=
 k8.push (u:=.pointer (some ⟨w.heap.size,0,none⟩)) (zcv hm hκ hκM _ _ _ (.cells _ _ _) rfl λhs=>
  ⟨w.heap.size,vs,kD,heap_alloc_new w _,hg.1,h1,(hg.stp hs).2⟩) (.loc _ _ _ kD)
def zpb(hT:TOK P Γ){svs:LR}(h:kX Γ e λi=>K (.loc κ 0) (.push (.box e (vals i.zero)))):∃r md,K r md/\yR P (.alloc e) svs lm κ r md:=by
 replace h:=zD h;obtain⟨i,hi,h⟩:=h;obtain⟨f,h1,h2,h3,z,h4,h5,h6,h7,h8⟩:=(hT e i hi).inf;refine⟨_,_,h,λo ho Keep M ρ a w _ hm hκ hκM _=>?_⟩;replace hκ:=hκ _ (Xk _) (XW _);replace hκM:=hκM rfl;refine qJ.value (v:=.pointer (some ⟨w.heap.size,0,none⟩)) (w':=w.alloc (.cells i.zero.toArray e)) ?_ (zl3 hm hκ hκM e (Gs.vals _) h8);have hz:z.cells=i.zero.toArray:=by rw[←h5]
 simp[execOp,ho,Instr.alloc,zeroValue,typeInfo,h1,h4,newVar,newRow,hz]
def zuR{s:SV}(h:zQ (jY (kN s)) (K (.loc κ 0) (.push (.box e (kN s))))):∃r md,K r md/\yR P (.box e x) [s] lm κ r md:=by
 replace h:=zj h;obtain⟨hc,h⟩:=h;refine⟨_,_,h,λo ho Keep M ρ a w _ hm hκ hκM hgs=>?_⟩;replace hκ:=hκ _ (Xk _) (XW _);replace hκM:=hκM rfl;obtain⟨h1,h2⟩:=vH hc (Gs.head hgs);refine qJ.value (v:=.pointer (some ⟨w.heap.size,0,none⟩)) (w':=w.alloc (.cells (a.eval x).cells e)) ?_ (by simpa using zl3 hm hκ hκM e h1 h2);simp[execOp,ho,Instr.box,newVar,newRow]
def vk{t:TypeId}(hT:ziF P t i){w:World}{off:Nat}{T:TypeId}(hheap:w.heap[b]?=some (.cells cur T (0,0))){v:Value}(hsz:v.cells.size=i.sz)(hle:off+i.sz<=cur.size)(h1:∀u∈v.cells.toList,u.oneCell'=true):
  (storeVar t ⟨b,off,none⟩ v).run P w=.ok () (w.setRow b (cur.toList.take off++v.cells.toList++cur.toList.drop (off+i.sz)).toArray):=by
 have:=run_storeCells_at P b off T v.cells.toList 0 cur w hheap (by simp[hsz];omega) h1;simp only[XP,Qi,hsz]at this;simp[storeVar,hT.size,hsz,this]
def k8.set{Keep:LI}{M:LT}{ρ:zh}{w w':World}{κ k:Nat}{s:SV}{m:Mem}{v:Value}(h:Stp (Own M ρ) (Own (qK M k m) ρ) ρ ρ w w'/\zL Keep (qK M k m) ρ w')(hg:G (λb=>Keep b∨Own (qK M k m) ρ b) (Own (qK M k m) ρ) ρ w' s v):k8 Keep M ρ w κ s (.set k m) v w':=
 ⟨ρ,h.1,h.2,hg,λ_ _=>rfl⟩
def yM(h:j9.flats cs=true):∀(j:Nat) (s:SV),cs[j]?=some s->j9 s=true:=by
 induction cs with
 |nil=>intro j s h1;simp at h1
 |cons c cs ih=>
  intro j s h1;simp only[j9.flats]at h
  split at h
  ·rename_i hc
   cases j with
   |zero=>simp at h1;subst h1;exact hc
   |succ j=>exact ih h j s (by simpa using h1)
  cases h
def uP{w:World}{s:SV}(hs:j9 s=true){v:Value}(hg:G S Pm ρ w s v):D S w s v:=by
 induction hg with
 |d _ _ h=>exact h
 |agg cs vs hl h ih=>
  have hf:j9.flats cs=true:=hs;exact .agg cs vs hl λj s v h1 h2=>ih j s v h1 h2 (yM hf j s h1)
 |ifc t s v h ih=>
  have hf:j9 s=true:=hs;exact .ifc t s v (ih hf)
 |_=>simp[j9]at hs
def zAl(h:j9.flats cs=true){w:World}(hg:Gs S Pm ρ w cs vs):
  ∀(j:Nat) (s:SV) (v:Value),cs[j]?=some s->vs[j]?=some v->D S w s v:=λj s v h1 h2=>uP (yM h j s h1) (hg.2 j s v h1 h2)
def zic(cur new:LA)(o N:Nat)(h:o+new.length<=N)(hN:N<=cur.length):
  (cur.take o++new++cur.drop (o+new.length)).take N=(cur.take N).take o++new++(cur.take N).drop (o+new.length):=by
 have e1:(cur.take o++new).length=o+new.length:=by simp;omega
 rw[List.take_append,Xi oM,e1,Yr,Qa oM,List.drop_take]
def zhi{R R':SV->Value->Prop}{α:Type _}{enc:α->LR}{sz off n:Nat}{xs:List α}{x x':α}{cells new:LA}{cs:LR}(hRR:∀s u,R s u->R' s u)(hx:xs[n]?=some x)(hesz:∀y∈xs,(enc y).length=sz)(hle:off+new.length<=sz)(hcs:cs.length=new.length)(he:enc x'=vg (enc x) off cs)(hlen:cells.length=xs.length*sz)(hcells:∀(i j:Nat) y (s:SV),xs[i]?=some y->(enc y)[j]?=some s->∃u,cells[i*sz+j]?=some u/\R s u)(hd:∀(j:Nat) (s:SV) (u:Value),cs[j]?=some s->new[j]?=some u->R s u):
  (∀z∈xs.set n x',(enc z).length=sz)/\∀(i j:Nat) y (s:SV),(xs.set n x')[i]?=some y->(enc y)[j]?=some s->
   ∃u,(cells.take (n*sz+off)++new++cells.drop (n*sz+off+new.length))[i*sz+j]?=some u/\R' s u:=by
 have hl:=hesz _ (Xf hx);have hlt:=(Xd.1 hx).1
 have hmul:n*sz+sz<=xs.length*sz:=by
  have:=Xv sz (X6 hlt);rw[X4]at this;exact this
 have hel:(enc x').length=sz:=by rw[he];unfold vg;simp only[Xq,Xo,Kv,hl,hcs];omega
 refine⟨λz hz=>(List.mem_or_eq_of_mem_set hz).elim (hesz z) λe=>e ▸ hel,λi' j y s hxi hs'=>?_⟩;have hln:(cells.take (n*sz+off)).length=n*sz+off:=by simp[hlen];omega
 simp only[KO,Xq,hln,XI,Kz]
 by_cases hi':n=i'
 ·subst hi';simp only[KA,hlt,if_true,Jl]at hxi;subst hxi;have hj:=(Xd.1 hs').1;rw[hel]at hj;rw[he]at hs';unfold vg at hs';simp only[KO,Xq,Xo,hl,hcs,XI,Kz,show min off sz=off by omega]at hs'
  by_cases hj1:j<off
  ·simp only[show j<off+new.length by omega,hj1,if_true]at hs';simp only[show n*sz+j<n*sz+off+new.length by omega,show n*sz+j<n*sz+off by omega,if_true];exact(hcells _ j _ s hx hs').imp λu h=>⟨h.1,hRR _ _ h.2⟩
  by_cases hj2:j<off+new.length
  ·simp only[hj2,hj1,if_true,if_false]at hs';simp only[show n*sz+j<n*sz+off+new.length by omega,show¬(n*sz+j<n*sz+off) by omega,if_true,if_false,show n*sz+j-(n*sz+off)=j-off by omega];have hlt':j-off<new.length:=oM;exact⟨new[j-off],Xb hlt',hRR _ _ (hd (j-off) s _ hs' (Xb hlt'))⟩
  simp only[hj2,if_false,show off+new.length+(j-(off+new.length))=j by omega]at hs';simp only[show¬(n*sz+j<n*sz+off+new.length) by omega,if_false,show n*sz+off+new.length+(n*sz+j-(n*sz+off+new.length))=n*sz+j by omega];exact(hcells _ j _ s hx hs').imp λu h=>⟨h.1,hRR _ _ h.2⟩
 simp only[KA,hi',if_false]at hxi;obtain⟨u,hu,hd'⟩:=hcells i' j y s hxi hs';refine⟨u,?_,hRR _ _ hd'⟩;have hj:=(Xd.1 hs').1;rw[hesz y (Xf hxi)]at hj
 rcases Qe i' n with hlt2|hge
 ·have h5:=Xv sz (X6 hlt2);rw[X4]at h5;simp only[show i'*sz+j<n*sz+off+new.length by omega,show i'*sz+j<n*sz+off by omega,if_true];exact hu
 have h5:=Xv sz (X6 (Nat.lt_of_le_of_ne hge hi'));rw[X4]at h5;simp only[show¬(i'*sz+j<n*sz+off+new.length) by omega,if_false,show n*sz+off+new.length+(i'*sz+j-(n*sz+off+new.length))=i'*sz+j by omega];exact hu
variable{new:LA}
def znK{w':World}{T:TypeId}{N N' o:Nat}{cells:LA}{v:Value}(hv:v=.slice (some ⟨b,0,none⟩) N cap)(e:N'=N)(hw:w'.heap[b]?=some (.cells (cur.toList.take o++new++cur.toList.drop (o+new.length)).toArray T (0,0)))(hnc:N<=cap)(hcm:cap<=maxLen)(hcs:cur.size=cap*sz)(ht:cur.toList.take (N*sz)=cells)(h:o+new.length<=N*sz):w'.ownsRow 0 T sz v N' (cells.take o++new++cells.drop (o+new.length)):=by
 have hcur:N*sz<=cur.toList.length:=by simp[hcs];exact Xv _ hnc
 have hcl:cells.length=N*sz:=by rw[←ht,Xo];omega
 subst e;refine⟨?_,.inr ⟨b,cap,_,hv,Xh _,hw,hnc,hcm,?_,?_⟩⟩
 ·simp only[Xq,Xo,Kv,hcl];omega
 ·simp only[KJ,Xq,Xo,Kv,Qi,hcs];simp at hcur;omega
 rw[←ht];exact zic cur.toList new o (N'*sz) h hcur
def ziU{cells:LA}(o e:Nat)(h:∀u∈cells,u.oneCell'=true)(k:∀u∈new,u.oneCell'=true):∀u∈cells.take o++new++cells.drop e,u.oneCell'=true:=λu hu=>by
 simp only[Xs]at hu
 rcases hu with(hu|hu)|hu
 ·exact h u (XL hu)
 ·exact k u hu
 exact h u (KP hu)
def zpc(hT:TOK P Γ){t:TypeId}{y:Operand}{s v:SV}(h:zrF Γ t s v lm K):
  ∃r md,K r md/\yR P (.store t x y) [s,v] lm κ r md:=by
 unfold zrF at h;replace h:=zD h;obtain⟨i,hi,h⟩:=h;have hTi:=hT t i hi;replace h:=zj h;obtain⟨hcell,h⟩:=h;replace h:=zj h;obtain⟨hlen,h⟩:=h;have hlen:=Xj hlen
 split at h
 ·rename_i k off
  split at h
  ·rename_i T cs hlk;replace h:=zj h;obtain⟨hle,h⟩:=h;have hle:=Xz hle;refine⟨_,_,h,λo ho Keep M ρ a w hlm hm _ _ hgs=>?_⟩;have hmem:=zA (hlm k _ hlk);obtain⟨b,vs,hρ,hheap,hl,h1,hcells⟩:=hm.rel k _ hmem;obtain⟨b',hρ',hx⟩:=(Gs.head hgs).loc_inv;rw[hρ]at hρ';cases hρ'
   obtain⟨hg,hone⟩:=vH hcell (Gs.head (Gs.tail hgs));have hcl:(a.eval y).cells.toList.length=i.sz:=by rw[hg.1,hlen]
   have hrun:=vk hTi hheap (v:=a.eval y) (off:=off) (by simpa using hcl) (by simp;omega) hone;refine qJ.skip (w':=_) (by simp[execOp,ho,hx,Instr.storeAt,Instr.sureAddr,hrun];rfl) ?_;have hsp:=zpa off (⟨hl,hcells⟩:Gs (λb=>Keep b∨Own M ρ b) (Own M ρ) ρ w cs vs) hg;rw[hcl]at hsp;refine k8.set (hm.write _ hmem hρ rfl _ λhs=>?_) (.d _ _ (.val _));exact⟨b,_,hρ,by simpa using setRow_heap w b _ _ T _ hheap,(hsp.stp hs).1,ziU _ _ h1 hone,(hsp.stp hs).2⟩
  exact h.elim
 ·rename_i k sz n off
  split at h
  ·rename_i T α enc sz' xs hlk;replace h:=zj h;obtain⟨hsz,h⟩:=h;replace h:=zj h;obtain⟨hle,h⟩:=h;have hsz:=Xj hsz;subst hsz;have hle:=Xz hle
   split at h
   rotate_left
   ·obtain⟨h0,h1⟩:=h.ob;have hlt0:n.toNat<xs.length:=oM;have hx0:=Xb hlt0;replace h:=h.go _ hx0;obtain⟨zs,hzs⟩:∃zs,zs=xs.map enc:=⟨_,rfl⟩;have hzl:zs.length=xs.length:=by rw[hzs,Xx]
    have hlt:n.toNat<zs.length:=oM;have hx:=Xb hlt;have hxe:zs[n.toNat]=enc xs[n.toNat]:=by subst hzs;simp
    rw[←hzs,←hxe]at h;obtain⟨x',hx'⟩:∃x',x'=vg (zs[n.toNat]) off (kN v):=⟨_,rfl⟩;rw[←hx']at h;refine⟨_,_,h,λo ho Keep M ρ a w hlm hm _ _ hgs=>?_⟩;have hmem:=zA (hlm k _ hlk);obtain⟨v0,cells,hρ,hown,hnl,hone0,hesz0,hcells0⟩:=hm.rel k _ hmem;rw[←hzl]at hown hnl
    have hesz:∀x∈zs,x.length=sz:=λx hx=>by
     rw[hzs]at hx;obtain⟨y,hy,rfl⟩:=XO.1 hx;exact hesz0 y hy
    have hcells:∀(i j:Nat) (x:LR) (s:SV),zs[i]?=some x->x[j]?=some s->∃u,cells[i*sz+j]?=some u/\G (λb=>Keep b∨Own M ρ b) (Own M ρ) ρ w s u:=λi j x s hx hs=>by
     rw[hzs,XD]at hx
     cases hy:xs[i]? with
     |none=>simp[hy]at hx
     |some y=>
      simp[hy]at hx;subst hx;obtain⟨u,hu,hd⟩:=hcells0 i j y s hy hs;exact⟨u,hu,.d _ _ hd⟩
    obtain⟨b,len,cap,hρ',hxv⟩:=(Gs.head hgs).eloc_inv;rw[hρ]at hρ';cases hρ'
    obtain⟨hlen',cur,hheap,hnc,hcm,hcs,htake⟩:=zeg rfl hown;obtain⟨hg,hone⟩:=vH hcell (Gs.head (Gs.tail hgs));have hcl:(a.eval y).cells.toList.length=i.sz:=by rw[hg.1,hlen]
    have hl:=hesz _ (Xf hx)
    have hmul:n.toNat*sz+sz<=zs.length*sz:=by
     have:=Xv sz (X6 hlt);rw[X4]at this;exact this
    have hcurlen:zs.length*sz<=cur.toList.length:=by simp[hcs];exact Xv _ hnc
    have hrun:=vk hTi hheap (v:=a.eval y) (off:=n.toNat*sz+off) (by simpa using hcl) (by simp at hcurlen;omega) hone;refine qJ.skip (w':=_) (by simp[execOp,ho,hxv,Instr.storeAt,Instr.sureAddr,hrun];rfl) ?_;have hd:=hg.2;refine k8.set (hm.write _ hmem hρ rfl _ λhs=>?_) (.d _ _ (.val _));have hp:=zhi (n:=n.toNat) (off:=off) (x':=x') (λs u q=>q.stp hs) hx hesz (by rw[hcl];exact hle) (by rw[hcl];exact hlen) hx' hown.1 hcells hd
    exact⟨_,_,hρ,znK (by rw[←hlen']) (by rw[XV]) (by rw[hcl];simpa using setRow_heap w b _ _ T _ hheap) hnc hcm hcs htake (by rw[hcl];omega),by simpa using hnl,ziU _ _ hone0 hone,hp.1,hp.2⟩
   rename_i hflat;obtain⟨h0,h1⟩:=h.ob;have hlt:n.toNat<xs.length:=oM;have hx:=Xb hlt;obtain⟨x',hx',h⟩:=h.go _ hx;refine⟨_,_,h,λo ho Keep M ρ a w hlm hm _ _ hgs=>?_⟩;have hmem:=zA (hlm k _ hlk);obtain⟨v0,cells,hρ,hown,hnl,hone0,hesz,hcells⟩:=hm.rel k _ hmem;obtain⟨b,len,cap,hρ',hxv⟩:=(Gs.head hgs).eloc_inv;rw[hρ]at hρ';cases hρ'
   obtain⟨hlen',cur,hheap,hnc,hcm,hcs,htake⟩:=zeg rfl hown;obtain⟨hg,hone⟩:=vH hcell (Gs.head (Gs.tail hgs));have hcl:(a.eval y).cells.toList.length=i.sz:=by rw[hg.1,hlen]
   have hl:=hesz _ (Xf hx)
   have hmul:n.toNat*sz+sz<=xs.length*sz:=by
    have:=Xv sz (X6 hlt);rw[X4]at this;exact this
   have hcurlen:xs.length*sz<=cur.toList.length:=by simp[hcs];exact Xv _ hnc
   have hrun:=vk hTi hheap (v:=a.eval y) (off:=n.toNat*sz+off) (by simpa using hcl) (by simp at hcurlen;omega) hone;refine qJ.skip (w':=_) (by simp[execOp,ho,hxv,Instr.storeAt,Instr.sureAddr,hrun];rfl) ?_;have hd:=zAl hflat hg;refine k8.set (hm.write _ hmem hρ rfl _ λhs=>?_) (.d _ _ (.val _));have hp:=zhi (n:=n.toNat) (off:=off) (x':=x') (λs u q=>q.stp hs) hx hesz (by rw[hcl];exact hle) (by rw[hcl];exact hlen) hx' hown.1 hcells hd
   exact⟨_,_,hρ,znK (by rw[←hlen']) (by rw[XV]) (by rw[hcl];simpa using setRow_heap w b _ _ T _ hheap) hnc hcm hcs htake (by rw[hcl];omega),by simpa using hnl,ziU _ _ hone0 hone,hp.1,hp.2⟩
  ·rename_i T sz' xs hlk;replace h:=zj h;obtain⟨hsz,h⟩:=h;replace h:=zj h;obtain⟨hle,h⟩:=h;have hsz:=Xj hsz;subst hsz;have hle:=Xz hle;obtain⟨h0,h1⟩:=h.ob;have hlt:n.toNat<xs.length:=oM;have hx:=Xb hlt;replace h:=h.go _ hx;obtain⟨x',hx'⟩:∃x',x'=vg (xs[n.toNat]) off (kN v):=⟨_,rfl⟩;rw[←hx']at h;refine⟨_,_,h,λo ho Keep M ρ a w hlm hm _ _ hgs=>?_⟩;have hmem:=zA (hlm k _ hlk);obtain⟨v0,cells,hρ,hown,hnl,hone0,hesz,hcells⟩:=hm.rel k _ hmem
   obtain⟨b,len,cap,hρ',hxv⟩:=(Gs.head hgs).eloc_inv;rw[hρ]at hρ';cases hρ'
   obtain⟨hlen',cur,hheap,hnc,hcm,hcs,htake⟩:=zeg rfl hown;obtain⟨hg,hone⟩:=vH hcell (Gs.head (Gs.tail hgs));have hcl:(a.eval y).cells.toList.length=i.sz:=by rw[hg.1,hlen]
   have hl:=hesz _ (Xf hx)
   have hmul:n.toNat*sz+sz<=xs.length*sz:=by
    have:=Xv sz (X6 hlt);rw[X4]at this;exact this
   have hcurlen:xs.length*sz<=cur.toList.length:=by simp[hcs];exact Xv _ hnc
   have hrun:=vk hTi hheap (v:=a.eval y) (off:=n.toNat*sz+off) (by simpa using hcl) (by simp at hcurlen;omega) hone;refine qJ.skip (w':=_) (by simp[execOp,ho,hxv,Instr.storeAt,Instr.sureAddr,hrun];rfl) ?_;have hd:=hg.2;refine k8.set (hm.write _ hmem hρ rfl _ λhs=>?_) (.d _ _ (.val _));have hp:=zhi (n:=n.toNat) (off:=off) (x':=x') (λs u q=>q.stp hs) hx hesz (by rw[hcl];exact hle) (by rw[hcl];exact hlen) hx' hown.1 hcells hd
   exact⟨_,_,hρ,znK (by rw[←hlen']) (by rw[XV]) (by rw[hcl];simpa using setRow_heap w b _ _ T _ hheap) hnc hcm hcs htake (by rw[hcl];omega),by simpa using hnl,ziU _ _ hone0 hone,hp.1,hp.2⟩
  exact h.elim
 exact h.elim
end
end Go.Gs
