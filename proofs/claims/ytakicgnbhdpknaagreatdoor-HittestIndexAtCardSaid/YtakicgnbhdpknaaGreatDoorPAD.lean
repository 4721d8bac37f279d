/- The operations, one by one: what is left to be shown is enough. -/
import Derived.Test.YtakicgnbhdpknaaGreatDoorPAC
import Derived.Laws.CopyRow
import Derived.Laws.Cover3
set_option maxRecDepth 100000
set_option maxHeartbeats 8000000
set_option linter.all false
namespace Go.Gs
section
variable{P:Program}{op:Op}{svs:LR}{lm:LJ}{Y:Nat}
def yU.pure{s:SV}(h:∀(o:Oper),o.op=op->∀(S Pm:LI) (O:zh) (a:Act) (w:World),Gs S Pm O w svs ((qi op).map a.eval)->
  ∃v,(execOp a.eval o).run P w=.ok (.value v) w/\G S Pm O w s v):yU P op svs lm Y s .none:=by
 intro o j Keep M O a w _ g _ _ f;obtain⟨v,c,d⟩:=h o j _ _ O a w f;exact qM.value c (qc.same g d)
def yU.read{s:SV}(h:∀(o:Oper),o.op=op->∀(Keep:LI) (M:LT) (O:zh) (a:Act) (w:World),(∀k m,lm k=some m->(k,m)∈M)->zJ Keep M O w->
  Gs (λb=>Keep b∨Own M O b) (Own M O) O w svs ((qi op).map a.eval)->
  ∃v,(execOp a.eval o).run P w=.ok (.value v) w/\G (λb=>Keep b∨Own M O b) (Own M O) O w s v):yU P op svs lm Y s .none:=by
 intro o l Keep M O a w c d _ _ j;obtain⟨v,f,g⟩:=h o l Keep M O a w (λk m h=>zA (c k m h)) d j;exact qM.value f (qc.same d g)
end
section
variable{P:Program}{e:TypeId}
def zaw{w:World}{t:TypeId}{p:Option Addr}(h:P.underlying t=some (.pointer e)):(Op.equal t (.pointer p) (.pointer none)).run P w=.ok p.isNone w:=by
 have key:∀d,(Op.equalIn (d+1) t (.pointer p) (.pointer none)).run P w=.ok p.isNone w:=λd=>by
  cases p <;> simp[Op.equalIn,run_underlying h]
 exact key 9999
variable{ms:Array (String×TypeId)}
def zeP{w:World}{t u:TypeId}{v:Value}(h:P.underlying t=some (.interface ms)):(Op.equal t (.iface u v) .nilIface).run P w=.ok false w:=by
 have key:∀d,(Op.equalIn (d+1) t (.iface u v) .nilIface).run P w=.ok false w:=λd=>by simp[Op.equalIn,run_underlying h]
 exact key 9999
def zcS{w:World}{t:TypeId}(h:P.underlying t=some (.interface ms)):(Op.equal t .nilIface .nilIface).run P w=.ok true w:=by
 have key:∀d,(Op.equalIn (d+1) t .nilIface .nilIface).run P w=.ok true w:=λd=>by simp[Op.equalIn,run_underlying h]
 exact key 9999
def zqs{w:World}{t:TypeId}{f:Fn}{x y:Array Value}{a b:Array TypeId}{c:Bool}(h:P.underlying t=some (.func a b c)):(Op.equal t (.func f x y) .nilFunc).run P w=.ok false w:=by
 have key:∀d,(Op.equalIn (d+1) t (.func f x y) .nilFunc).run P w=.ok false w:=λd=>by simp[Op.equalIn,run_underlying h]
 exact key 9999
variable{a:SV}{S:LI}{Pm:LI}{O:zh}{u:Value}
def zm5{t:TypeId}{k:TK}{y:Operand}{b:SV}{r:Bool}(c:zf1 P t k)(h:zyI k (zuG y) a b=some r){w:World}{v:Value}(f:G S Pm O w a u)(g:G S Pm O w b v):
  ((binOp .eql t u v).run P w=.ok (.bool r) w/\(binOp .neq t u v).run P w=.ok (.bool (!r)) w)/\∀op x,(eqGuard op t x y u v).run P w=.ok () w:=by
 unfold zyI at h
 split at h
 .split at h
  .cases h;rw[f.val_inv,g.val_inv];exact⟨⟨by simp[binOp,run_equal_slice_nil w t _ none 0 0 c],by simp[binOp,run_equal_slice_nil w t _ none 0 0 c]⟩,λ_ _=>by simp[eqGuard]⟩
  cases h
 .split at h
  .cases h;obtain⟨_,_,_,rfl,_⟩:=f.dptr_inv;rw[g.val_inv];exact⟨⟨by simp[binOp,zaw c],by simp[binOp,zaw c]⟩,λ_ _=>by simp[eqGuard]⟩
  cases h
 .split at h
  .cases h;obtain⟨_,_,_,rfl,_⟩:=f.ptr_inv;rw[g.val_inv];exact⟨⟨by simp[binOp,zaw c],by simp[binOp,zaw c]⟩,λ_ _=>by simp[eqGuard]⟩
  cases h
 .split at h
  .cases h;obtain⟨_,_,rfl⟩:=f.loc_inv;rw[g.val_inv];exact⟨⟨by simp[binOp,zaw c],by simp[binOp,zaw c]⟩,λ_ _=>by simp[eqGuard]⟩
  cases h
 .split at h
  .cases h;rw[f.val_inv,g.val_inv];exact⟨⟨by simp[binOp,zaw c],by simp[binOp,zaw c]⟩,λ_ _=>by simp[eqGuard]⟩
  cases h
 .split at h
  .cases h;obtain⟨_,rfl,_⟩:=f.ifc_inv;rw[g.val_inv];obtain⟨_,c⟩:=c;exact⟨⟨by simp[binOp,zeP c],by simp[binOp,zeP c]⟩,λ_ _=>by simp[eqGuard]⟩
  cases h
 .split at h
  .rename_i hlit
   cases h;rw[f.val_inv,g.val_inv];obtain⟨_,c⟩:=c
   refine⟨⟨by simp[binOp,zcS c],by simp[binOp,zcS c]⟩,λ_ _=>?_⟩
   cases y <;> first|(cases hlit;done)|simp[eqGuard]
  cases h
 .split at h
  .cases h
   cases f with
   |d _ _ f=>
    cases f with
    |dfn _ _ _ _ _=>rw[g.val_inv];obtain⟨_,_,_,c⟩:=c;exact⟨⟨by simp[binOp,zqs c],by simp[binOp,zqs c]⟩,λ_ _=>by simp[eqGuard]⟩
  cases h
 cases h
variable{H:LS}{x:Operand}{lm:LJ}{Y:Nat}
def zwJ(hT:TOK P H){op:BinOp}{t yt:TypeId}{y:Operand}{b:SV}{K:SV->Prop}(h:bin H op t y a b K):∃s,K s/\yU P (.binOp op t x y yt) [a,b] lm Y s .none:=by
 unfold bin at h
 split at h
 .rename_i k m k' n
  have D:∃s,K s/\∃v,zaM s v/\∀(P:Program) (t:TypeId) (w:World),(binOp op t (.int k m) (.int k' n)).run P w=.ok v w:=by
   split at h
   .exact zoP h
   rename_i hs;obtain⟨j,h'⟩:=zj h;have:=zgA j;subst this;exact ztk hs h'
  obtain⟨s,hK,v,X,W⟩:=D;refine⟨s,hK,.pure λo l S Pm O a w f=>⟨v,?_,X.g⟩⟩;have A:=(Gs.head f).val_inv;have B:=(Gs.head (Gs.tail f)).val_inv;simp[execOp,l,A,B,eqGuard_at_int,W]
 .rename_i cs R;obtain⟨i,hi,h⟩:=zE h;obtain⟨hagg,h⟩:=zj h;obtain⟨C,h⟩:=zj h;obtain⟨hint,h⟩:=zj h;have C:=Xk C;have hsound:=(zdX hT 8 t i hi hint).2
  have U:i.cmp=true:=by
   unfold zgu at hint;rw[hi]at hint;simp only at hint
   split at hint
   .rename_i j;rw[j]at hagg;cases hagg
   .exact(kr hint).1
   .exact(kr hint).1
   cases hint
  have hguard:=((hT t i hi).cmp U).2.1
  have run:∀(cs R:LA) (w:World),cs.length=i.sz->uc cs R->(Op.equalIn 10000 t (.agg cs.toArray) (.agg R.toArray)).run P w=.ok (eqB cs R) w:=by
   intro cs R w F D;have:=hsound 9992 cs R w F D
   simpa[zdW,hagg] using this
  split at h
  .obtain⟨p,ip,hK,J⟩:=zgB h;refine⟨_,hK,.pure λo l S Pm O a w f=>?_⟩;obtain⟨vs,A,E⟩:=(Gs.head f).agg_inv;obtain⟨us,B,Q⟩:=(Gs.head (Gs.tail f)).agg_inv;obtain⟨F,D⟩:=J E Q;refine⟨.bool (eqB vs us),?_,(zaM.pr D).g⟩;simp only[execOp,l,A,B,Sem.run_bind,run_eqGuard_agg w _ t x y _ _ hguard,Result.andThen_ok,run_eql_struct,run vs us w (by rw[E.1,C]) F,Sem.run_pure]
  .obtain⟨p,ip,hK,J⟩:=zgB h;refine⟨_,hK,.pure λo l S Pm O a w f=>?_⟩;obtain⟨vs,A,E⟩:=(Gs.head f).agg_inv;obtain⟨us,B,Q⟩:=(Gs.head (Gs.tail f)).agg_inv;obtain⟨F,D⟩:=J E Q;refine⟨.bool (!eqB vs us),?_,(zaM.pr (by rw[D];rw[QD];simp)).g⟩;simp only[execOp,l,A,B,Sem.run_bind,run_eqGuard_agg w _ t x y _ _ hguard,Result.andThen_ok,run_neq_struct,run vs us w (by rw[E.1,C]) F,Sem.run_pure]
  exact h.elim
 .rename_i α enc xs;replace h:=zE h;obtain⟨i,hi,h⟩:=h;have j:=(hT t i hi).kind
  have key:∀{S Pm:LI} {O:zh} {w:World} {v:Value},G S Pm O w (.sl enc xs) v->∃a c,v=.slice a xs.length c/\(xs.length≠0->a.isNone=false):=λX=>by
   obtain⟨rfl,a,rfl⟩|⟨_,b,o,cap,_,rfl,_⟩:=X.sl_inv.sl_inv
   .exact⟨a,0,rfl,λh=>absurd rfl h⟩
   exact⟨_,cap,rfl,λ_=>rfl⟩
  have hguard:∀(w:World) (a b:Value),(∃x y z,a=.slice x y z)->(eqGuard op t x y a b).run P w=.ok () w:=λw a b ⟨x,y,z,e⟩=>by subst e;simp[eqGuard]
  unfold zyH at h
  split at h
  .rename_i e hkind;rw[hkind]at j;have j:P.underlying t=some (.slice e):=j
   obtain⟨Z,h⟩|h:=h
   .refine⟨_,h,.pure λo l S Pm O a w f=>?_⟩;obtain⟨ad,c,A,V⟩:=key (Gs.head f);have B:=(Gs.head (Gs.tail f)).val_inv;refine⟨.bool false,?_,(zaM.val _).g⟩;simp[execOp,l,A,B,hguard,binOp,run_equal_slice_nil w t e ad _ c j,V Z]
   refine⟨_,h,.pure λo l S Pm O a w f=>?_⟩;obtain⟨ad,c,A,V⟩:=key (Gs.head f);have B:=(Gs.head (Gs.tail f)).val_inv;refine⟨.bool ad.isNone,?_,.d _ _ (.anyb _)⟩;simp[execOp,l,A,B,hguard,binOp,run_equal_slice_nil w t e ad _ c j]
  .rename_i e hkind;rw[hkind]at j;have j:P.underlying t=some (.slice e):=j
   obtain⟨Z,h⟩|h:=h
   .refine⟨_,h,.pure λo l S Pm O a w f=>?_⟩;obtain⟨ad,c,A,V⟩:=key (Gs.head f);have B:=(Gs.head (Gs.tail f)).val_inv;refine⟨.bool true,?_,(zaM.val _).g⟩;simp[execOp,l,A,B,hguard,binOp,run_equal_slice_nil w t e ad _ c j,V Z]
   refine⟨_,h,.pure λo l S Pm O a w f=>?_⟩;obtain⟨ad,c,A,V⟩:=key (Gs.head f);have B:=(Gs.head (Gs.tail f)).val_inv;refine⟨.bool (!ad.isNone),?_,.d _ _ (.anyb _)⟩;simp[execOp,l,A,B,hguard,binOp,run_equal_slice_nil w t e ad _ c j]
  exact h.elim
 .rename_i T;replace h:=zE h;obtain⟨i,hi,h⟩:=h;have j:=(hT t i hi).kind
  split at h
  .rename_i hkind;rw[hkind]at j;obtain⟨ms,j⟩:=j;replace h:=zj h;obtain⟨hlit,h⟩:=h;obtain⟨yv,hyv⟩:∃yv,y=.const yv:=by cases y <;> first|exact⟨_,rfl⟩|cases hlit
   subst hyv
   split at h
   .refine⟨_,h,.pure λo l S Pm O a w f=>?_⟩;obtain⟨A,I⟩:=(Gs.head f).op_inv;have B:=(Gs.head (Gs.tail f)).val_inv;refine⟨.bool (zqj T),?_,(zaM.pr (by cases zqj T <;> simp)).g⟩
    cases T <;> first|(cases I;done)|simp[execOp,l,A,B,eqGuard,binOp,zcS j,zeP j,zqj]
   .refine⟨_,h,.pure λo l S Pm O a w f=>?_⟩;obtain⟨A,I⟩:=(Gs.head f).op_inv;have B:=(Gs.head (Gs.tail f)).val_inv;refine⟨.bool (!zqj T),?_,(zaM.pr (by cases zqj T <;> simp)).g⟩
    cases T <;> first|(cases I;done)|simp[execOp,l,A,B,eqGuard,binOp,zcS j,zeP j,zqj]
   exact h.elim
  exact h.elim
 replace h:=zE h;obtain⟨i,hi,h⟩:=h;have j:=(hT t i hi).kind
 split at h
 .rename_i r W;unfold zuI at h
  split at h
  .refine⟨_,h,.pure λo l S Pm O a w f=>?_⟩;obtain⟨⟨F,_⟩,D⟩:=zm5 j W (Gs.head f) (Gs.head (Gs.tail f));exact⟨.bool r,by simp[execOp,l,F,D],(zaM.val _).g⟩
  .refine⟨_,h,.pure λo l S Pm O a w f=>?_⟩;obtain⟨⟨_,F⟩,D⟩:=zm5 j W (Gs.head f) (Gs.head (Gs.tail f));exact⟨.bool (!r),by simp[execOp,l,F,D],(zaM.val _).g⟩
  exact h.elim
 split at h
 .rename_i hkind;rw[hkind]at j;obtain⟨p,ip,h,J⟩:=zeO h;obtain⟨q,iq,h,hq⟩:=zeO h;refine⟨_,h,.pure λo l S Pm O a w f=>?_⟩;have A:=J (Gs.head f);have B:=hq (Gs.head (Gs.tail f));refine⟨.bool (@decide p ip==@decide q iq),?_,(zaM.pr (by by_cases L:p <;> by_cases N:q <;> simp[L,N])).g⟩;simp[execOp,l,A,B,eqGuard_at_bool,binOp,Op.equal,Op.maxDepth,run_equalIn_bool w 9999 t _ _ j]
 .rename_i hkind;rw[hkind]at j;obtain⟨p,ip,h,J⟩:=zeO h;obtain⟨q,iq,h,hq⟩:=zeO h;refine⟨_,h,.pure λo l S Pm O a w f=>?_⟩;have A:=J (Gs.head f);have B:=hq (Gs.head (Gs.tail f));refine⟨.bool (!(@decide p ip==@decide q iq)),?_,(zaM.pr (by by_cases L:p <;> by_cases N:q <;> simp[L,N])).g⟩;simp[execOp,l,A,B,eqGuard_at_bool,binOp,Op.equal,Op.maxDepth,run_equalIn_bool w 9999 t _ _ j]
 exact h.elim
variable{K:LD}
def ztl{c b:SV}{xc xa xb:Operand}(h:zyQ c a b K):
  ∃s,K s .none/\yU P (.pick xc xa xb) [c,a,b] lm Y s .none:=by
 have yes:∀(g:Bool),(∀{S Pm:LI} {O:zh} {w:World} {v:Value},G S Pm O w c v->v=.bool g)->yU P (.pick xc xa xb) [c,a,b] lm Y (if g then a else b) .none:=by
  intro g q;refine .pure λo l S Pm O e w f=>?_
  have k:=q (Gs.head f);have m:=Gs.head (Gs.tail f);have n:=Gs.head (Gs.tail (Gs.tail f))
  cases g with
  |true=>exact⟨_,by simp[execOp,l,k,asBool],m⟩
  |false=>exact⟨_,by simp[execOp,l,k,asBool],n⟩
 unfold zyQ at h
 split at h
 .exact⟨a,h,yes true λd=>d.val_inv⟩
 .exact⟨b,h,yes false λd=>d.val_inv⟩
 .rename_i p i
  by_cases j:p
  .exact⟨a,h.yes j,yes true λd=>by rw[d.pr_inv];simp[j]⟩
  exact⟨b,h.no j,yes false λd=>by rw[d.pr_inv];simp[j]⟩
 exact h.elim
def zy0{op:UnOp}{t:TypeId}{s:SV}(h:unV op s K):
  ∃r,K r .none/\yU P (.unOp op t x) [s] lm Y r .none:=by
 unfold unV at h
 split at h
 .exact⟨_,h,.pure λo d S Pm O a w c=>⟨.bool false,by simp[execOp,d,(Gs.head c).val_inv,Op.unary],(zaM.val _).g⟩⟩
 .exact⟨_,h,.pure λo d S Pm O a w c=>⟨.bool true,by simp[execOp,d,(Gs.head c).val_inv,Op.unary],(zaM.val _).g⟩⟩
 .rename_i p i;exact⟨_,h,.pure λo d S Pm O a w c=>⟨.bool (!(@decide p i)),by simp[execOp,d,(Gs.head c).pr_inv,Op.unary],(zaM.pr (by rw[QD];simp)).g⟩⟩
 .rename_i k n;exact⟨_,vf h,.pure λo d S Pm O a w c=>⟨.int k (k.wrap (-n)),by simp[execOp,d,(Gs.head c).val_inv,Op.unary,Op.intArith],(zaM.val _).g⟩⟩
 exact h.elim
variable{sz:Nat}{cs:LR}
def vv{agg:Bool}{K:SV->Prop}(h:mkV agg sz cs K):∃s,K s/\((agg=true/\s=.agg (cs.take sz))∨(agg=false/\∃r,cs=s::r)):=by
 unfold mkV at h
 split at h
 .exact⟨_,h,.inl ⟨rfl,rfl⟩⟩
 split at h
 .exact⟨_,qO h,.inr ⟨rfl,_,rfl⟩⟩
 exact h.elim
def ye(b o n:Nat):(⟨b,o,none⟩:Addr).add n=⟨b,o+n,none⟩:=by unfold Addr.add;split <;> simp_all
variable{i:TI}{b:Nat}{vs:LA}
def zcg{t:TypeId}(hT:zjB P t i){w:World}{o:Nat}(c:Gs S Pm O w cs vs)(g:∀j v,vs[j]?=some v->w.cell? ⟨b,o+j,none⟩=some v)(l:i.sz<=cs.length){s:SV}(m:(i.kind.agg=true/\s=.agg (cs.take i.sz))∨(i.kind.agg=false/\∃r,cs=s::r)):
  ∃v,(loadVar t ⟨b,o,none⟩).run P w=.ok v w/\G S Pm O w s v:=by
 unfold loadVar;rw[Sem.run_bind,hT.agg w,Result.andThen_ok]
 obtain⟨f,rfl⟩|⟨f,r,rfl⟩:=m
 .have k:(vs.take i.sz).length=i.sz:=by have:=c.1;simp;omega
  have hload:=run_loadCells_list (P:=P) w ⟨b,o,none⟩ (vs.take i.sz) (λj v d=>by
   rw[ye];rw[XK]at d
   split at d
   .exact g j v d
   cases d)
  rw[k]at hload;refine⟨.agg (vs.take i.sz).toArray,?_,.agg _ _ (c.take _).1 (c.take _).2⟩;simp[f,hT.size,hload]
 obtain⟨v,n,rfl,h,p⟩:=c.cons_inv;have:=g 0 v rfl;exact⟨v,by simp only[f,KF,if_false,run_load,XW]at this ⊢;rw[this],h⟩
def zqt{s:SV}(h:zmZ s=true){w:World}{v:Value}(c:G S Pm O w s v):v.oneCell'=true:=by
 cases s with
 |val u=>rw[c.val_inv];cases u <;> first|rfl|(simp[zmZ]at h)
 |pr p i=>rw[c.pr_inv];rfl
 |agg cs=>simp[zmZ]at h
 |sl enc xs=>obtain⟨_,_,rfl⟩|⟨_,_,_,_,_,rfl,_⟩:=c.sl_inv.sl_inv <;> rfl
 |nils=>obtain⟨_,rfl⟩:=c.nils_inv;rfl
 |anyb=>obtain⟨_,rfl⟩:=c.anyb_inv;rfl
 |full enc xs=>obtain⟨_,rfl,_⟩:=c.full_inv;rfl
 |ptr cs=>obtain⟨_,_,_,rfl,_⟩:=c.ptr_inv;rfl
 |loc k off=>obtain⟨_,_,rfl⟩:=c.loc_inv;rfl
 |own k=>exact c.own_inv.2
 |eloc k sz i off=>obtain⟨_,_,_,_,rfl⟩:=c.eloc_inv;rfl
 |win k sz lo n=>obtain⟨_,_,_,_,_,rfl,_⟩:=c.win_inv;rfl
 |fn f cs=>obtain⟨_,rfl,_⟩:=c.fn_inv;rfl
 |dptr cs=>obtain⟨_,_,_,rfl,_⟩:=c.dptr_inv;rfl
 |dfn f cs=>obtain⟨_,rfl,_⟩:=c.dfn_inv;rfl
 |bm f cs=>obtain⟨_,rfl,_⟩:=c.bm_inv;rfl
 |op v=>obtain⟨rfl,h⟩:=c.op_inv;cases v <;> first|rfl|cases h
 |ifc t s=>obtain⟨_,rfl,_⟩:=c.ifc_inv;rfl
 |tup cs=>simp[zmZ]at h
 |junk=>simp[zmZ]at h
def zh3(h:j8 cs=true){w:World}(d:Gs S Pm O w cs vs):∀v∈vs,v.oneCell'=true:=by
 induction cs generalizing vs with
 |nil=>rw[d.nil_inv];simp
 |cons s cs k=>
  obtain⟨v,l,rfl,f,g⟩:=d.cons_inv;simp only[j8]at h
  split at h
  .rename_i j;intro u c
   cases c with
   |head=>exact zqt j f
   |tail _ c=>exact k h g u c
  cases h
def zm6{v:Value}(h:v.oneCell'=true):v.cells=#[v]:=by cases v <;> first|rfl|(simp[Value.oneCell']at h)
def vZ{s:SV}(h:j8 (kQ s)=true){w:World}{v:Value}(d:G S Pm O w s v):
  Gs S Pm O w (kQ s) v.cells.toList/\∀u∈v.cells.toList,u.oneCell'=true:=by
 have key:Gs S Pm O w (kQ s) v.cells.toList:=by
  by_cases f:∃cs,s=.agg cs
  .obtain⟨cs,rfl⟩:=f;obtain⟨vs,rfl,c⟩:=d.agg_inv;exact c
  have g:kQ s=[s]:=by cases s <;> first|rfl|exact absurd ⟨_,rfl⟩ f
  rw[g]at h ⊢;simp only[j8]at h
  split at h
  .rename_i c;rw[zm6 (zqt c d)];exact .cons d .nil
  cases h
 exact⟨key,zh3 h key⟩
def zqu{w:World}{new:LR}{us:LA}(off:Nat)(h:Gs S Pm O w cs vs)(c:Gs S Pm O w new us):
  Gs S Pm O w (vq cs off new) (vs.take off++us++vs.drop (off+us.length)):=by
 unfold vq;rw[c.1];exact((h.take _).append c).append (h.drop _)
def zch{w:World}{T:TypeId}(h:w.heap[b]?=some (.cells vs.toArray T (0,0)))(j:Nat):w.cell? ⟨b,j,none⟩=vs[j]? :=by
 rw[cell_of_row w b j _ T _ h];simp
variable{cap:Nat}
def zeQ{w:World}{T:TypeId}{v:Value}{n:Nat}{cells:LA}{len:Nat}(c:v=.slice (some ⟨b,0,none⟩) len cap)(h:w.ownsRow 0 T sz v n cells):len=n/\∃cur:Array Value,w.heap[b]?=some (.cells cur T (0,0))/\n<=cap/\cap<=maxLen/\cur.size=cap*sz/\cur.toList.take (n*sz)=cells:=by
 obtain⟨d,_⟩|⟨g,cap',cur,d,_,f,j,k,l,m⟩:=h.2
 .rw[d]at c;cases c
 rw[d]at c;cases c;exact⟨rfl,cur,f,j,k,l,m⟩
variable{cur:Array Value}
def zbo{w:World}{T:TypeId}{n:Nat}{cells:LA}(h:w.heap[b]?=some (.cells cur T (0,0)))(ht:cur.toList.take n=cells){j:Nat}(c:cells[j]?=some u):w.cell? ⟨b,j,none⟩=some u:=by
 rw[cell_of_row w b j _ T _ h];rw[←ht,XK]at c
 split at c
 .simpa using c
 cases c
def zi7{w:World}{α:Type _}{enc:α->LR}{xs:List α}{cells:LA}(g:∀x∈xs,(enc x).length=sz)(m:∀(i j:Nat) x (s:SV),xs[i]?=some x->(enc x)[j]?=some s->∃u,cells[i*sz+j]?=some u/\G S Pm O w s u){i:Nat}{x:α}(l:xs[i]?=some x):Gs S Pm O w (enc x) ((cells.drop (i*sz)).take sz):=by
 have c:=g x (Xf l);refine⟨?_,λj s v n d=>?_⟩
 .have h:(cells.drop (i*sz)).take sz=(List.range sz).map λj=>(cells[i*sz+j]?).getD undef:=by
   apply Kw;intro j
   by_cases f:j<sz
   .obtain⟨u,k,_⟩:=m i j x ((enc x)[j]'oM) l (by simp[c,f]);simp[f,k]
   simp[XK,f]
  rw[h];simp[c]
 rw[XK]at d
 split at d
 .obtain⟨u,k,o⟩:=m i j x s l n;simp only[KG]at d;rw[k]at d;cases d
  exact o
 cases d
def ztm{w:World}{α:Type}{enc:α->LR}{xs:List α}{cells:LA}(c:∀x∈xs,(enc x).length=sz)(f:∀(i j:Nat) x (s:SV),xs[i]?=some x->(enc x)[j]?=some s->∃u,cells[i*sz+j]?=some u/\D S w s u){i:Nat}{x:α}(g:xs[i]?=some x)
:Gs S Pm O w (enc x) ((cells.drop (i*sz)).take sz):=
 zi7 c (λi j x s a b=>(f i j x s a b).imp λ_ h=>⟨h.1,.d _ _ h.2⟩) g
def ztn(hT:TOK P H){t:TypeId}{s:SV}(h:zyM H t s lm K):
  ∃r,K r .none/\yU P (.load t x) [s] lm Y r .none:=by
 unfold zyM at h;replace h:=zE h;obtain⟨i,hi,h⟩:=h;have hTi:=hT t i hi
 have run:∀{o:Oper} (_:o.op=.load t x) {a:Act} {w:World} {b off:Nat} {v:Value},a.eval x=.pointer (some ⟨b,off,none⟩)->(loadVar t ⟨b,off,none⟩).run P w=.ok v w->
   (execOp a.eval o).run P w=.ok (.value v) w:=by
  intro o B a w b off v l p;simp[execOp,B,l,Instr.loadAt,Instr.sureAddr,p]
 split at h
 .rename_i k off
  split at h
  .rename_i T cs z;replace h:=zj h;obtain⟨f,h⟩:=h;have f:=Xz f;obtain⟨r,hK,F⟩:=vv h;refine⟨r,hK,.read λo B Keep M O a w A Q m=>?_⟩;obtain⟨b,vs,hρ,hheap,N,_,g⟩:=Q.rel k _ (A k _ z);obtain⟨Z,hρ',y⟩:=(Gs.head m).loc_inv;rw[hρ]at hρ';cases hρ'
   have D:Gs (λb=>Keep b∨Own M O b) (Own M O) O w (cs.drop off) (vs.drop off):=Gs.drop off ⟨N,g⟩;obtain⟨v,l,p⟩:=zcg hTi (b:=b) (o:=off) D (λj v I=>by rw[zch hheap];simpa using I) (by simp;omega) F;exact⟨v,run B y l,p⟩
  exact h.elim
 .rename_i cs;replace h:=zj h;obtain⟨f,h⟩:=h;have f:=Xz f;obtain⟨r,hK,F⟩:=vv h;refine⟨r,hK,.pure λo B S Pm O a w m=>?_⟩;obtain⟨b,off,c,y,_,_,R,U⟩:=(Gs.head m).ptr_inv
  have D:Gs S Pm O w cs ((List.range cs.length).map c):=⟨sI,λj s v l p=>by
   have E:j<cs.length:=(Xd.1 l).1;simp[E]at p;subst p
   exact .d _ _ (U j s l)⟩
  obtain⟨v,l,p⟩:=zcg hTi (b:=b) (o:=off) D (λj v I=>by
   have E:j<cs.length:=by have:=(Xd.1 I).1;simpa using this
   simp[E]at I;subst I
   exact(R j E).1) f F
  exact⟨v,run B y l,p⟩
 .rename_i cs;replace h:=zj h;obtain⟨f,h⟩:=h;have f:=Xz f;obtain⟨r,hK,F⟩:=vv h;refine⟨r,hK,.pure λo B S Pm O a w m=>?_⟩;obtain⟨b,off,c,y,_,_,R,U⟩:=(Gs.head m).dptr_inv
  have D:Gs S Pm O w cs ((List.range cs.length).map c):=⟨sI,λj s v l p=>by
   have E:j<cs.length:=(Xd.1 l).1;simp[E]at p;subst p
   exact .d _ _ (U j s l)⟩
  obtain⟨v,l,p⟩:=zcg hTi (b:=b) (o:=off) D (λj v I=>by
   have E:j<cs.length:=by have:=(Xd.1 I).1;simpa using this
   simp[E]at I;subst I
   exact(R j E).1) f F
  exact⟨v,run B y l,p⟩
 .rename_i k sz n off
  split at h
  .rename_i T α enc V xs z;replace h:=zj h;obtain⟨q,h⟩:=h;replace h:=zj h;obtain⟨f,h⟩:=h;have q:=Xk q;subst q;have f:=Xz f;obtain⟨W,l⟩:=h.ob;have J:n.toNat<xs.length:=oM;have y:=Xb J;obtain⟨r,hK,F⟩:=vv (h.go _ y);refine⟨r,hK,.read λo B Keep M O a w A Q m=>?_⟩;obtain⟨v,cells,hρ,C,_,_,hesz,g⟩:=Q.rel k _ (A k _ z);obtain⟨b,len,cap,hρ',L⟩:=(Gs.head m).eloc_inv;rw[hρ]at hρ';cases hρ'
   obtain⟨_,cur,hheap,_,_,_,htake⟩:=zeQ rfl C;have D:=Gs.drop off (ztm hesz g y (Pm:=Own M O) (O:=O));have X:=hesz _ (Xf y)
   obtain⟨v,l,p⟩:=zcg hTi (b:=b) (o:=n.toNat*sz+off) D (λj u G=>by
    simp only[KG,XK]at G
    split at G
    .refine zbo hheap htake ?_;rw[←G];congr 1;omega
    cases G) (by simp;omega) F
   exact⟨v,run B L l,p⟩
  .rename_i T V xs z;replace h:=zj h;obtain⟨q,h⟩:=h;replace h:=zj h;obtain⟨f,h⟩:=h;have q:=Xk q;subst q;have f:=Xz f;obtain⟨W,l⟩:=h.ob;have J:n.toNat<xs.length:=oM;have y:=Xb J;obtain⟨r,hK,F⟩:=vv (h.go _ y);refine⟨r,hK,.read λo B Keep M O a w A Q m=>?_⟩;obtain⟨v,cells,hρ,C,_,_,hesz,g⟩:=Q.rel k _ (A k _ z);obtain⟨b,len,cap,hρ',L⟩:=(Gs.head m).eloc_inv;rw[hρ]at hρ';cases hρ'
   obtain⟨_,cur,hheap,_,_,_,htake⟩:=zeQ rfl C;have D:=Gs.drop off (zi7 hesz g y);have X:=hesz _ (Xf y)
   obtain⟨v,l,p⟩:=zcg hTi (b:=b) (o:=n.toNat*sz+off) D (λj u G=>by
    simp only[KG,XK]at G
    split at G
    .refine zbo hheap htake ?_;rw[←G];congr 1;omega
    cases G) (by simp;omega) F
   exact⟨v,run B L l,p⟩
  exact h.elim
 exact h.elim
def Gs.stp{Keep W W':LI}{O O':zh}{w w':World}(h:Stp W W' O O' w w'){cs:LR}{vs:LA}(d:Gs (λb=>Keep b∨W b) W O w cs vs):Gs (λb=>Keep b∨W' b) W' O' w' cs vs:=d.mono' λ_ _ c=>c.stp h
variable{Keep:LI}{M:LT}
def zcT{w:World}(d:zJ Keep M O w)(hκ:O Y=none)(hκM:∀m,(Y,m)∉M)(m:Mem)(o:Obj)(v:Value)(l:kR w (w.alloc o))(n:qf v=some w.heap.size)(hrel:Stp (Own M O) (Own ((Y,m)::M) (upd O Y v)) O (upd O Y v) w (w.alloc o)->
   jN (λb=>Keep b∨Own ((Y,m)::M) (upd O Y v) b) (Own ((Y,m)::M) (upd O Y v)) (upd O Y v) (w.alloc o) Y m):
  Stp (Own M O) (Own ((Y,m)::M) (upd O Y v)) O (upd O Y v) w (w.alloc o)/\zJ Keep ((Y,m)::M) (upd O Y v) (w.alloc o):=
 d.grow (λ_ h=>h) d.keys hκ hκM v m (w.alloc o) rfl rfl l sI (λb c _=>heap_alloc_old w o b c)
  (λk m v b f g j=>heap_alloc_old w o b (d.old b ⟨k,m,v,f,g,j⟩).1)
  (λb c=>by
   rw[n]at c;cases c
   exact⟨.inr (Xj _),sI,λk m p f g j=>by have:=(d.old _ ⟨k,m,p,f,g,j⟩).1;omega⟩) hrel
def qc.push{Keep:LI}{M:LT}{O:zh}{w w':World}{Y:Nat}{s:SV}{m:Mem}{v u:Value}(h:Stp (Own M O) (Own ((Y,m)::M) (upd O Y u)) O (upd O Y u) w w'/\zJ Keep ((Y,m)::M) (upd O Y u) w')(d:G (λb=>Keep b∨Own ((Y,m)::M) (upd O Y u) b) (Own ((Y,m)::M) (upd O Y u)) (upd O Y u) w' s v):qc Keep M O w Y s (.push m) v w':=
 ⟨upd O Y u,h.1,h.2,d,λk c=>zf2 (by
  rcases c with c|c
  .omega
  simp only[zb5]at c;omega)⟩
def zm7{w:World}(f:zJ Keep M O w)(hκ:O Y=none)(hκM:∀m,(Y,m)∉M)(T:TypeId)(c:Gs (λb=>Keep b∨Own M O b) (Own M O) O w cs vs)(d:∀v∈vs,v.oneCell'=true):
  qc Keep M O w Y (.loc Y 0) (.push (.box T cs)) (.pointer (some ⟨w.heap.size,0,none⟩)) (w.alloc (.cells vs.toArray T)):=
 qc.push (u:=.pointer (some ⟨w.heap.size,0,none⟩)) (zcT f hκ hκM _ _ _ (.cells _ _ _) rfl λg=>
  ⟨w.heap.size,vs,kG,heap_alloc_new w _,c.1,d,(c.stp g).2⟩) (.loc _ _ _ kG)
def zqv(hT:TOK P H){svs:LR}(h:k7 H e λi=>K (.loc Y 0) (.push (.box e (vals i.zero)))):∃r c,K r c/\yU P (.alloc e) svs lm Y r c:=by
 replace h:=zE h;obtain⟨i,hi,h⟩:=h;obtain⟨f,d,p,q,z,g,j,s,t,k⟩:=(hT e i hi).inf;refine⟨_,_,h,λo m Keep M O a w _ l hκ hκM _=>?_⟩;replace hκ:=hκ _ (Xj _) (X5 _);replace hκM:=hκM rfl;refine qM.value (v:=.pointer (some ⟨w.heap.size,0,none⟩)) (w':=w.alloc (.cells i.zero.toArray e)) ?_ (zm7 l hκ hκM e (Gs.vals _) k);have n:z.cells=i.zero.toArray:=by rw[←j]
 simp[execOp,m,Instr.alloc,zeroValue,typeInfo,d,g,newVar,newRow,n]
def zwK{s:SV}(h:zR (j8 (kQ s)) (K (.loc Y 0) (.push (.box e (kQ s))))):∃r d,K r d/\yU P (.box e x) [s] lm Y r d:=by
 replace h:=zj h;obtain⟨j,h⟩:=h;refine⟨_,_,h,λo l Keep M O a w _ k hκ hκM c=>?_⟩;replace hκ:=hκ _ (Xj _) (X5 _);replace hκM:=hκM rfl;obtain⟨f,g⟩:=vZ j (Gs.head c);refine qM.value (v:=.pointer (some ⟨w.heap.size,0,none⟩)) (w':=w.alloc (.cells (a.eval x).cells e)) ?_ (by simpa using zm7 k hκ hκM e f g);simp[execOp,l,Instr.box,newVar,newRow]
def vw{t:TypeId}(hT:zjB P t i){w:World}{off:Nat}{T:TypeId}(hheap:w.heap[b]?=some (.cells cur T (0,0))){v:Value}(c:v.cells.size=i.sz)(f:off+i.sz<=cur.size)(d:∀u∈v.cells.toList,u.oneCell'=true):
  (storeVar t ⟨b,off,none⟩ v).run P w=.ok () (w.setRow b (cur.toList.take off++v.cells.toList++cur.toList.drop (off+i.sz)).toArray):=by
 have:=run_storeCells_at P b off T v.cells.toList 0 cur w hheap (by simp[c];omega) d;simp only[XW,Qw,c]at this;simp[storeVar,hT.size,c,this]
def qc.set{Keep:LI}{M:LT}{O:zh}{w w':World}{Y k:Nat}{s:SV}{m:Mem}{v:Value}(h:Stp (Own M O) (Own (qN M k m) O) O O w w'/\zJ Keep (qN M k m) O w')(c:G (λb=>Keep b∨Own (qN M k m) O b) (Own (qN M k m) O) O w' s v):qc Keep M O w Y s (.set k m) v w':=
 ⟨O,h.1,h.2,c,λ_ _=>rfl⟩
def yP(h:yd.flats cs=true):∀(j:Nat) (s:SV),cs[j]?=some s->yd s=true:=by
 induction cs with
 |nil=>intro j s d;simp at d
 |cons c cs g=>
  intro j s d;simp only[yd.flats]at h
  split at h
  .rename_i f
   cases j with
   |zero=>simp at d;subst d;exact f
   |succ j=>exact g h j s (by simpa using d)
  cases h
def uV{w:World}{s:SV}(f:yd s=true){v:Value}(m:G S Pm O w s v):D S w s v:=by
 induction m with
 |d _ _ h=>exact h
 |agg cs vs n h g=>
  have c:yd.flats cs=true:=f;exact .agg cs vs n λj s v k l=>g j s v k l (yP c j s k)
 |ifc t s v h g=>
  have c:yd s=true:=f;exact .ifc t s v (g c)
 |_=>simp[yd]at f
def zCM(h:yd.flats cs=true){w:World}(f:Gs S Pm O w cs vs):
  ∀(j:Nat) (s:SV) (v:Value),cs[j]?=some s->vs[j]?=some v->D S w s v:=λj s v c d=>uV (yP h j s c) (f.2 j s v c d)
def zi8(cur new:LA)(o N:Nat)(h:o+new.length<=N)(hN:N<=cur.length):
  (cur.take o++new++cur.drop (o+new.length)).take N=(cur.take N).take o++new++(cur.take N).drop (o+new.length):=by
 have c:(cur.take o++new).length=o+new.length:=by simp;omega
 rw[List.take_append,Xi oM,c,YI,Qn oM,List.drop_take]
def zh4{R R':SV->Value->Prop}{α:Type _}{enc:α->LR}{sz off n:Nat}{xs:List α}{x x':α}{cells new:LA}{cs:LR}(hRR:∀s u,R s u->R' s u)(t:xs[n]?=some x)(hesz:∀y∈xs,(enc y).length=sz)(I:off+new.length<=sz)(l:cs.length=new.length)(D:enc x'=vq (enc x) off cs)(q:cells.length=xs.length*sz)(d:∀(i j:Nat) y (s:SV),xs[i]?=some y->(enc y)[j]?=some s->∃u,cells[i*sz+j]?=some u/\R s u)(G:∀(j:Nat) (s:SV) (u:Value),cs[j]?=some s->new[j]?=some u->R s u):
  (∀z∈xs.set n x',(enc z).length=sz)/\∀(i j:Nat) y (s:SV),(xs.set n x')[i]?=some y->(enc y)[j]?=some s->
   ∃u,(cells.take (n*sz+off)++new++cells.drop (n*sz+off+new.length))[i*sz+j]?=some u/\R' s u:=by
 have E:=hesz _ (Xf t);have r:=(Xd.1 t).1
 have hmul:n*sz+sz<=xs.length*sz:=by
  have:=Xv sz (X6 r);rw[X7]at this;exact this
 have m:(enc x').length=sz:=by rw[D];unfold vq;simp only[Xq,Xo,KB,E,l];omega
 refine⟨λz J=>(List.mem_or_eq_of_mem_set J).elim (hesz z) λe=>e ▸ m,λg j y s f c=>?_⟩;have C:(cells.take (n*sz+off)).length=n*sz+off:=by simp[q];omega
 simp only[KY,Xq,C,XK,KG]
 by_cases k:n=g
 .subst k;simp only[KE,r,if_true,Jy]at f;subst f;have B:=(Xd.1 c).1;rw[m]at B;rw[D]at c;unfold vq at c;simp only[KY,Xq,Xo,E,l,XK,KG,show min off sz=off by omega]at c
  by_cases o:j<off
  .simp only[show j<off+new.length by omega,o,if_true]at c;simp only[show n*sz+j<n*sz+off+new.length by omega,show n*sz+j<n*sz+off by omega,if_true];exact(d _ j _ s t c).imp λu h=>⟨h.1,hRR _ _ h.2⟩
  by_cases p:j<off+new.length
  .simp only[p,o,if_true,if_false]at c;simp only[show n*sz+j<n*sz+off+new.length by omega,show¬(n*sz+j<n*sz+off) by omega,if_true,if_false,show n*sz+j-(n*sz+off)=j-off by omega];have hlt':j-off<new.length:=oM;exact⟨new[j-off],Xb hlt',hRR _ _ (G (j-off) s _ c (Xb hlt'))⟩
  simp only[p,if_false,show off+new.length+(j-(off+new.length))=j by omega]at c;simp only[show¬(n*sz+j<n*sz+off+new.length) by omega,if_false,show n*sz+off+new.length+(n*sz+j-(n*sz+off+new.length))=n*sz+j by omega];exact(d _ j _ s t c).imp λu h=>⟨h.1,hRR _ _ h.2⟩
 simp only[KE,k,if_false]at f;obtain⟨u,F,w⟩:=d g j y s f c;refine⟨u,?_,hRR _ _ w⟩;have B:=(Xd.1 c).1;rw[hesz y (Xf f)]at B
 rcases Kc g n with hlt2|A
 .have v:=Xv sz (X6 hlt2);rw[X7]at v;simp only[show g*sz+j<n*sz+off+new.length by omega,show g*sz+j<n*sz+off by omega,if_true];exact F
 have v:=Xv sz (X6 (Nat.lt_of_le_of_ne A k));rw[X7]at v;simp only[show¬(g*sz+j<n*sz+off+new.length) by omega,if_false,show n*sz+off+new.length+(g*sz+j-(n*sz+off+new.length))=g*sz+j by omega];exact F
variable{new:LA}
def zoQ{w':World}{T:TypeId}{N N' o:Nat}{cells:LA}{v:Value}(k:v=.slice (some ⟨b,0,none⟩) N cap)(e:N'=N)(l:w'.heap[b]?=some (.cells (cur.toList.take o++new++cur.toList.drop (o+new.length)).toArray T (0,0)))(f:N<=cap)(j:cap<=maxLen)(d:cur.size=cap*sz)(ht:cur.toList.take (N*sz)=cells)(h:o+new.length<=N*sz):w'.ownsRow 0 T sz v N' (cells.take o++new++cells.drop (o+new.length)):=by
 have c:N*sz<=cur.toList.length:=by simp[d];exact Xv _ f
 have g:cells.length=N*sz:=by rw[←ht,Xo];omega
 subst e;refine⟨?_,.inr ⟨b,cap,_,k,Xh _,l,f,j,?_,?_⟩⟩
 .simp only[Xq,Xo,KB,g];omega
 .simp only[KU,Xq,Xo,KB,Qw,d];simp at c;omega
 rw[←ht];exact zi8 cur.toList new o (N'*sz) h c
def zjO{cells:LA}(o e:Nat)(h:∀u∈cells,u.oneCell'=true)(k:∀u∈new,u.oneCell'=true):∀u∈cells.take o++new++cells.drop e,u.oneCell'=true:=λu c=>by
 simp only[Xt]at c
 rcases c with(c|c)|c
 .exact h u (XO c)
 .exact k u c
 exact h u (K2 c)
def zqw(hT:TOK P H){t:TypeId}{y:Operand}{s v:SV}(h:ztc H t s v lm K):
  ∃r md,K r md/\yU P (.store t x y) [s,v] lm Y r md:=by
 unfold ztc at h;replace h:=zE h;obtain⟨i,hi,h⟩:=h;have hTi:=hT t i hi;replace h:=zj h;obtain⟨D,h⟩:=h;replace h:=zj h;obtain⟨m,h⟩:=h;have m:=Xk m
 split at h
 .rename_i k off
  split at h
  .rename_i T cs Q;replace h:=zj h;obtain⟨A,h⟩:=h;have A:=Xz A;refine⟨_,_,h,λo ho Keep M O a w J W _ _ z=>?_⟩;have l:=zA (J k _ Q);obtain⟨b,vs,hρ,hheap,hl,h1,f⟩:=W.rel k _ l;obtain⟨b',hρ',C⟩:=(Gs.head z).loc_inv;rw[hρ]at hρ';cases hρ'
   obtain⟨V,hone⟩:=vZ D (Gs.head (Gs.tail z));have c:(a.eval y).cells.toList.length=i.sz:=by rw[V.1,m]
   have B:=vw hTi hheap (v:=a.eval y) (off:=off) (by simpa using c) (by simp;omega) hone;refine qM.skip (w':=_) (by simp[execOp,ho,C,Instr.storeAt,Instr.sureAddr,B];rfl) ?_;have hsp:=zqu off (⟨hl,f⟩:Gs (λb=>Keep b∨Own M O b) (Own M O) O w cs vs) V;rw[c]at hsp;refine qc.set (W.write _ l hρ rfl _ λhs=>?_) (.d _ _ (.val _));exact⟨b,_,hρ,by simpa using setRow_heap w b _ _ T _ hheap,(hsp.stp hs).1,zjO _ _ h1 hone,(hsp.stp hs).2⟩
  exact h.elim
 .rename_i k sz n off
  split at h
  .rename_i T α enc sz' xs Q;replace h:=zj h;obtain⟨L,h⟩:=h;replace h:=zj h;obtain⟨A,h⟩:=h;have L:=Xk L;subst L;have A:=Xz A
   split at h
   rotate_left
   .obtain⟨h0,h1⟩:=h.ob;have hlt0:n.toNat<xs.length:=oM;have hx0:=Xb hlt0;replace h:=h.go _ hx0;obtain⟨zs,Z⟩:∃zs,zs=xs.map enc:=⟨_,rfl⟩;have hzl:zs.length=xs.length:=by rw[Z,Xw]
    have F:n.toNat<zs.length:=oM;have C:=Xb F;have hxe:zs[n.toNat]=enc xs[n.toNat]:=by subst Z;simp
    rw[←Z,←hxe]at h;obtain⟨x',N⟩:∃x',x'=vq (zs[n.toNat]) off (kQ v):=⟨_,rfl⟩;rw[←N]at h;refine⟨_,_,h,λo ho Keep M O a w J W _ _ z=>?_⟩;have l:=zA (J k _ Q);obtain⟨v0,cells,hρ,p,R,hone0,hesz0,hcells0⟩:=W.rel k _ l;rw[←hzl]at p R
    have hesz:∀x∈zs,x.length=sz:=λx C=>by
     rw[Z]at C;obtain⟨y,hy,rfl⟩:=XN.1 C;exact hesz0 y hy
    have f:∀(i j:Nat) (x:LR) (s:SV),zs[i]?=some x->x[j]?=some s->∃u,cells[i*sz+j]?=some u/\G (λb=>Keep b∨Own M O b) (Own M O) O w s u:=λi j x s C hs=>by
     rw[Z,XD]at C
     cases hy:xs[i]? with
     |none=>simp[hy]at C
     |some y=>
      simp[hy]at C;subst C;obtain⟨u,hu,hd⟩:=hcells0 i j y s hy hs;exact⟨u,hu,.d _ _ hd⟩
    obtain⟨b,len,cap,hρ',X⟩:=(Gs.head z).eloc_inv;rw[hρ]at hρ';cases hρ'
    obtain⟨hlen',cur,hheap,I,U,E,htake⟩:=zeQ rfl p;obtain⟨V,hone⟩:=vZ D (Gs.head (Gs.tail z));have c:(a.eval y).cells.toList.length=i.sz:=by rw[V.1,m]
    have hl:=hesz _ (Xf C)
    have hmul:n.toNat*sz+sz<=zs.length*sz:=by
     have:=Xv sz (X6 F);rw[X7]at this;exact this
    have g:zs.length*sz<=cur.toList.length:=by simp[E];exact Xv _ I
    have B:=vw hTi hheap (v:=a.eval y) (off:=n.toNat*sz+off) (by simpa using c) (by simp at g;omega) hone;refine qM.skip (w':=_) (by simp[execOp,ho,X,Instr.storeAt,Instr.sureAddr,B];rfl) ?_;have hd:=V.2;refine qc.set (W.write _ l hρ rfl _ λhs=>?_) (.d _ _ (.val _));have hp:=zh4 (n:=n.toNat) (off:=off) (x':=x') (λs u q=>q.stp hs) C hesz (by rw[c];exact A) (by rw[c];exact m) N p.1 f hd
    exact⟨_,_,hρ,zoQ (by rw[←hlen']) (by rw[XS]) (by rw[c];simpa using setRow_heap w b _ _ T _ hheap) I U E htake (by rw[c];omega),by simpa using R,zjO _ _ hone0 hone,hp.1,hp.2⟩
   rename_i hflat;obtain⟨h0,h1⟩:=h.ob;have F:n.toNat<xs.length:=oM;have C:=Xb F;obtain⟨x',N,h⟩:=h.go _ C;refine⟨_,_,h,λo ho Keep M O a w J W _ _ z=>?_⟩;have l:=zA (J k _ Q);obtain⟨v0,cells,hρ,p,R,hone0,hesz,f⟩:=W.rel k _ l;obtain⟨b,len,cap,hρ',X⟩:=(Gs.head z).eloc_inv;rw[hρ]at hρ';cases hρ'
   obtain⟨hlen',cur,hheap,I,U,E,htake⟩:=zeQ rfl p;obtain⟨V,hone⟩:=vZ D (Gs.head (Gs.tail z));have c:(a.eval y).cells.toList.length=i.sz:=by rw[V.1,m]
   have hl:=hesz _ (Xf C)
   have hmul:n.toNat*sz+sz<=xs.length*sz:=by
    have:=Xv sz (X6 F);rw[X7]at this;exact this
   have g:xs.length*sz<=cur.toList.length:=by simp[E];exact Xv _ I
   have B:=vw hTi hheap (v:=a.eval y) (off:=n.toNat*sz+off) (by simpa using c) (by simp at g;omega) hone;refine qM.skip (w':=_) (by simp[execOp,ho,X,Instr.storeAt,Instr.sureAddr,B];rfl) ?_;have hd:=zCM hflat V;refine qc.set (W.write _ l hρ rfl _ λhs=>?_) (.d _ _ (.val _));have hp:=zh4 (n:=n.toNat) (off:=off) (x':=x') (λs u q=>q.stp hs) C hesz (by rw[c];exact A) (by rw[c];exact m) N p.1 f hd
   exact⟨_,_,hρ,zoQ (by rw[←hlen']) (by rw[XS]) (by rw[c];simpa using setRow_heap w b _ _ T _ hheap) I U E htake (by rw[c];omega),by simpa using R,zjO _ _ hone0 hone,hp.1,hp.2⟩
  .rename_i T sz' xs Q;replace h:=zj h;obtain⟨L,h⟩:=h;replace h:=zj h;obtain⟨A,h⟩:=h;have L:=Xk L;subst L;have A:=Xz A;obtain⟨h0,h1⟩:=h.ob;have F:n.toNat<xs.length:=oM;have C:=Xb F;replace h:=h.go _ C;obtain⟨x',N⟩:∃x',x'=vq (xs[n.toNat]) off (kQ v):=⟨_,rfl⟩;rw[←N]at h;refine⟨_,_,h,λo ho Keep M O a w J W _ _ z=>?_⟩;have l:=zA (J k _ Q);obtain⟨v0,cells,hρ,p,R,hone0,hesz,f⟩:=W.rel k _ l
   obtain⟨b,len,cap,hρ',X⟩:=(Gs.head z).eloc_inv;rw[hρ]at hρ';cases hρ'
   obtain⟨hlen',cur,hheap,I,U,E,htake⟩:=zeQ rfl p;obtain⟨V,hone⟩:=vZ D (Gs.head (Gs.tail z));have c:(a.eval y).cells.toList.length=i.sz:=by rw[V.1,m]
   have hl:=hesz _ (Xf C)
   have hmul:n.toNat*sz+sz<=xs.length*sz:=by
    have:=Xv sz (X6 F);rw[X7]at this;exact this
   have g:xs.length*sz<=cur.toList.length:=by simp[E];exact Xv _ I
   have B:=vw hTi hheap (v:=a.eval y) (off:=n.toNat*sz+off) (by simpa using c) (by simp at g;omega) hone;refine qM.skip (w':=_) (by simp[execOp,ho,X,Instr.storeAt,Instr.sureAddr,B];rfl) ?_;have hd:=V.2;refine qc.set (W.write _ l hρ rfl _ λhs=>?_) (.d _ _ (.val _));have hp:=zh4 (n:=n.toNat) (off:=off) (x':=x') (λs u q=>q.stp hs) C hesz (by rw[c];exact A) (by rw[c];exact m) N p.1 f hd
   exact⟨_,_,hρ,zoQ (by rw[←hlen']) (by rw[XS]) (by rw[c];simpa using setRow_heap w b _ _ T _ hheap) I U E htake (by rw[c];omega),by simpa using R,zjO _ _ hone0 hone,hp.1,hp.2⟩
  exact h.elim
 exact h.elim
end
end Go.Gs
