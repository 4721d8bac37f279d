/- An iterator: its contract out of its code. -/
import Derived.Test.YtakicgnbhdpknaaGreatDoorPAZ
set_option maxRecDepth 100000
set_option maxHeartbeats 8000000
set_option linter.all false
namespace Go.Gs
open Proofs.Tryz
def isY(L:LP)(o:Oper):Bool:=
 match o.op with
 |.call c=>(match c.callee with
  |.value (.tmp t)=>(match kF L t with
   |some (.val (.func (.yield _) _ _))=>true
   |_=>false)
  |_=>false)
 |_=>false
def zdc:LP->LP
 |[]=>[]
 |(t,s)::r=>match pfS s with
  |true=>(t,s)::zdc r
  |false=>(t,.junk)::zdc r
def zgf:∀{L:LP} {t:Nat} {s:SV},kF (zdc L) t=some s->s=.junk∨(kF L t=some s/\pfS s=true)
 |[],_,_,h=>by cases h
 |(k,f)::r,t,s,h=>by
  unfold zdc at h;rw[zU]
  split at h
  .rename_i d;rw[zU]at h
   by_cases e:k=t
   .rw[Xe e]at h ⊢;cases h;exact .inr ⟨rfl,d⟩
   rw[Xc e]at h ⊢;exact zgf h
  rw[zU]at h
  by_cases e:k=t
  .rw[Xe e]at h;cases h;exact .inl rfl
  rw[Xc e]at h ⊢;exact zgf h
def zxv{L:LP}{t:Nat}{s:SV}(h:kF (zdc L) t=some s):∃s',kF L t=some s':=by
 induction L with
 |nil=>cases h
 |cons p r d=>
  obtain⟨k,f⟩:=p;rw[zU]
  by_cases e:k=t
  .rw[Xe e];exact⟨_,rfl⟩
  rw[Xc e];refine d ?_;unfold zdc at h
  split at h <;> (rw[zU,Xc e]at h;exact h)
def St.yput(Z:St)(d:Option Tmp)(s:SV):St:=⟨putL (zdc Z.L) d s,Z.M,Z.nk,Z.nt,Z.n0⟩
def ztZ(all:List Oper)(o:Oper)(Z:St)(run skip:St->Prop):Prop:=
 match o.guard with
 |none=>run Z
 |some (j,want)=>(match zdQ all j with
  |none=>False
  |some t=>(match kF Z.L t with
   |some (.val (.bool true))=>(match want with
    |true=>run Z
    |false=>skip Z)
   |some (.val (.bool false))=>(match want with
    |false=>run Z
    |true=>skip Z)
   |some (.pr p _)=>(match want with
    |true=>Br (p->run (Z.put (some t) (.val (.bool true)))) (¬p->skip (Z.put (some t) (.val (.bool false))))
    |false=>Br (p->skip (Z.put (some t) (.val (.bool true)))) (¬p->run (Z.put (some t) (.val (.bool false)))))
   |some (.val (.tuple _))=>skip Z
   |_=>False))
def zrP{all:List Oper}{o:Oper}{Z:St}{run skip:St->Prop}(h:ztZ all o Z run skip){E:Env}{O:zh}{a:Act}{w:World}(f:Rel E Z O a w):
  ∃Z' b,q9 all Z' o b/\Rel E Z' O a w/\(Z'.M=Z.M/\Z'.nt=Z.nt)/\((b=true/\run Z')∨(b=false/\skip Z')):=by
 unfold ztZ at h
 split at h
 .rename_i m;exact⟨Z,true,by simp[q9,m],f,⟨rfl,rfl⟩,.inl ⟨rfl,h⟩⟩
 rename_i j want m
 split at h
 .exact h.elim
 rename_i t ht
 have gv:∀{Z':St} {v:Value},kF Z'.L t=some (.val v)->q9 all Z' o (zuW v want):=λd=>by
  unfold q9;rw[m];exact⟨t,_,ht,d,rfl⟩
 have gi:∀{Z':St} {b:Bool},kF Z'.L t=some (.val (.bool b))->q9 all Z' o (b==want):=λd=>gv d
 have put_look:∀(k:SV),kF (Z.put (some t) k).L t=some k:=λk=>by
  show kF ((t,k)::Z.L) t=some k;rw[zU];simp
 split at h
 .rename_i d
  split at h
  .exact⟨Z,_,gi d,f,⟨rfl,rfl⟩,.inl ⟨rfl,h⟩⟩
  exact⟨Z,_,gi d,f,⟨rfl,rfl⟩,.inr ⟨rfl,h⟩⟩
 .rename_i d
  split at h
  .exact⟨Z,_,gi d,f,⟨rfl,rfl⟩,.inl ⟨rfl,h⟩⟩
  exact⟨Z,_,gi d,f,⟨rfl,rfl⟩,.inr ⟨rfl,h⟩⟩
 .rename_i p ip d
  by_cases g:p
  .have e:=f.refine d (zcY g)
   split at h
   .exact⟨_,_,gi (put_look _),e,⟨rfl,rfl⟩,.inl ⟨rfl,h.yes g⟩⟩
   exact⟨_,_,gi (put_look _),e,⟨rfl,rfl⟩,.inr ⟨rfl,h.yes g⟩⟩
  have e:=f.refine d (zbs g)
  split at h
  .exact⟨_,_,gi (put_look _),e,⟨rfl,rfl⟩,.inr ⟨rfl,h.no g⟩⟩
  exact⟨_,_,gi (put_look _),e,⟨rfl,rfl⟩,.inl ⟨rfl,h.no g⟩⟩
 .rename_i d;exact⟨Z,_,gv d,f,⟨rfl,rfl⟩,.inr ⟨rfl,h⟩⟩
 exact h.elim
def yIs(L:LP)(c:Call)(l:Nat):Prop:=
 match c.callee with
 |.value (.tmp t)=>kF L t=some (.val (.func (.yield l) #[] #[]))
 |_=>False
def zAJ(l:Nat){α:Type}(enc:α->LR)(xs:List α)(o:Oper)(Z:St)(i:Nat)(b:Bool)(K:St->Nat->Bool->Prop):Prop:=
 match o.op with
 |.call c=>(match b with
  |true=>False
  |false=>evs Z.L c.args.toList λd=>yIs Z.L c l/\∃x,xs[i]?=some x/\uz.scalars (enc x)=true/\LEs d (enc x)/\zlE Z.M/\
   zm1 o.dst Z.nt (Br (K (Z.yput o.dst (.val (.bool true))) (i+1) false) (K (Z.yput o.dst (.val (.bool false))) i true)))
 |_=>False
def zep(P:Program)(H:LS)(l:Nat){α:Type}(enc:α->LR)(xs:List α)(all r:List Oper):Nat->St->Nat->Bool->(St->Nat->Bool->Prop)->Prop:=
 List.rec (motive:=λ_=>Nat->St->Nat->Bool->(St->Nat->Bool->Prop)->Prop) (λ_ Z i b K=>K Z i b) (λo _ d j Z i b K=>match isY Z.L o with
  |false=>ve P H false all [o] j Z λZ'=>d (j+1) Z' i b K
  |true=>ztZ all o Z (λZ'=>zAJ l enc xs o Z' i b λZ' i b=>d (j+1) Z' i b K) (λZ'=>zaL o Z' λZ'=>d (j+1) Z' i b K)) r
inductive YDr (A:Prop) (B:LI):Prop
 |plain (h:A)
 |split (m:Nat) (h:B m)
def zAK(P:Program)(H:LS)(l:Nat){α:Type}(enc:α->LR)(xs:List α)(c:Code):St->Nat->Bool->(Ex->St->Nat->Bool->Prop)->Prop:=
 Code.rec (motive:=λ_=>St->Nat->Bool->(Ex->St->Nat->Bool->Prop)->Prop)
  (λZ i b Q=>Q .normal Z i b)
  (λid ops draw Z i b Q=>match y5 ops.toList with
   |false=>False
   |true=>match draw with
   |false=>zep P H l enc xs ops.toList ops.toList 0 Z i b (Q .normal)
   |true=>YDr (jw P H (.region id ops true) Z λe Z=>(match e with
    |.normal=>Q .normal Z i b
    |_=>False)) λm=>Ob (yB (y5 ops.toList) (yB (znQ ops.toList m) (vt (ops.toList.take m)))=true)
     (ve P H true (ops.toList.take m) (ops.toList.take m) 0 Z λZ=>zep P H l enc xs ops.toList (ops.toList.drop m) m Z i b (Q .normal)))
  (λ_ _ o r Z i b Q=>o Z i b λe Z i b=>(match e with
   |.normal=>r Z i b Q
   |.exit id=>Q (.exit id) Z i b
   |.ret=>Q .ret Z i b))
  (λc _ _ g h Z i b Q=>ev Z.L c λc=>(match c with
   |.val (.bool true)=>g Z i b Q
   |.val (.bool false)=>h Z i b Q
   |.pr p _=>Br (p->g Z i b Q) (¬p->h Z i b Q)
   |.anyb=>Br (g Z i b Q) (h Z i b Q)
   |_=>False))
  (λid _ f Z i b Q=>f Z i b λe Z i b=>(match e with
   |.normal=>Q .normal Z i b
   |.exit j=>(match Nat.beq j id with
    |true=>Q .normal Z i b
    |false=>Q (.exit j) Z i b)
   |.ret=>Q .ret Z i b))
  (λ_ f Z i b Q=>∃(ι:Type) (S:ι->St) (T:ι->Nat) (I:ι->Prop) (μ:ι->Nat) (n:ι),I n/\Sub Z (S n)/\i=T n/\b=false/\
   ∀x,I x->f (S x) (T x) false λe Z' k d=>(match e with
    |.normal=>∃x',I x'/\Sub Z' (S x')/\k=T x'/\d=false/\μ x'<μ x
    |.exit id=>Q (.exit id) Z' k d
    |.ret=>Q .ret Z' k d))
  (λ_ _ _ _ _ _ _ _ _ _=>False)
  (λid Z i b Q=>Q (.exit id) Z i b)
  (λ_ _ _ _ _ _=>False)
  (λ_ Z i b Q=>Q .normal Z i b)
  (λ_ _ _ _ _=>False)
  (λZ i b Q=>Q .ret Z i b)
  (λ_ _ _ _ _=>False)
  c
section it
variable{P:Program}{H:LS}{α:Type}{enc:α->LR}{xs:List α}{l:Nat}{J:Nat->LI->LI->World->Prop}{Jx:LI->LI->World->Prop}
section
def Jt(J:Nat->LI->LI->World->Prop)(Jx:LI->LI->World->Prop)(i:Nat)(b:Bool):LI->LI->World->Prop:=
 match b with
 |false=>J i
 |true=>Jx
structure RI (J:Nat->LI->LI->World->Prop) (Jx:LI->LI->World->Prop) (E:Env) (SA SB:LI) (Z:St) (i:Nat) (b:Bool) (O:zh) (a:Act) (w:World):Prop where
 rel:Rel E Z O a w
 ds:E.ds=[]
 sa:∀b,SA b->E.Keep b
 sb:∀b,Own Z.M O b->SB b
 dj:∀b,SB b->¬SA b/\b<w.heap.size
 lt:∀b,SA b->b<w.heap.size
 j:Jt J Jx i b SA SB w
def zrQ(J:Nat->LI->LI->World->Prop)(Jx:LI->LI->World->Prop)(Q:Ex->St->Nat->Bool->Prop):LF
 |.normal,a,w=>∃E SA SB Z i b O,Q .normal Z i b/\RI J Jx E SA SB Z i b O a w
 |.exit id,a,w=>∃E SA SB Z i b O,Q (.exit id) Z i b/\RI J Jx E SA SB Z i b O a w
 |.ret,a,w=>∃E SA SB Z i b O,Q .ret Z i b/\RI J Jx E SA SB Z i b O a w
 |_,_,_=>False
variable{E:Env}{SA:LI}{SB:LI}{Z:St}{Z':St}{i:Nat}{b:Bool}{O:zh}{a:Act}{w':World}
def RI.next{O':zh}{n:Act}{w:World}(hS:∀i b SA SB SB' W W',Jt J Jx i b SA SB W->Mv SB SB' W W'->(∀b,SB' b->¬SA b/\b<W'.heap.size)->Jt J Jx i b SA SB' W')(h:RI J Jx E SA SB Z i b O a w)(k:Rel ⟨w,E.ρ0,E.Keep,Own Z.M O,E.ds⟩ Z' O' n w'):RI J Jx ⟨w,E.ρ0,E.Keep,Own Z.M O,E.ds⟩ SA (λb=>SB b∨Own Z'.M O' b) Z' i b O' n w':=by
 have e:=k.stp
 have m:∀b,(SB b∨Own Z'.M O' b)->¬SA b/\b<w'.heap.size:=λb d=>d.elim (λd=>⟨(h.dj b d).1,Xx (h.dj b d).2 e.size⟩)
  λf=>⟨λr=>(k.mem.old b f).2 (h.sa b r),(k.mem.old b f).1⟩
 refine⟨k,h.ds,h.sa,λ_ d=>.inr d,m,λb d=>Xx (h.lt b d) e.size,hS i b SA SB _ w w' h.j ⟨⟨e.os,e.tape,e.output,e.size,λb d s=>e.block b d λf=>s (h.sb b f),λb d=>?_,λ_ _ h=>h⟩,λg v o _=>k.mem.glc o⟩ m⟩;exact d.elim .inl λf=>(e.own b f).imp (h.sb b) id
def RI.sub{w:World}(hS:∀i b SA SB SB' W W',Jt J Jx i b SA SB W->Mv SB SB' W W'->(∀b,SB' b->¬SA b/\b<W'.heap.size)->Jt J Jx i b SA SB' W')(h:RI J Jx E SA SB Z i b O a w)(e:Sub Z Z'):∃E SB O,RI J Jx E SA SB Z' i b O a w:=by
 obtain⟨O',d⟩:=e _ O a w h.rel.cut;exact⟨_,_,O',h.next hS d⟩
def zxw{o:Oper}{c:Call}{t:Nat}(d:o.op=.call c)(f:c.callee=.value (.tmp t)){w:World}(g:a.eval (.tmp t)=.func (.yield l) #[] #[]){n:Next}{args:LA}(e:c.args.toList.map a.eval=args)(h:(Instr.yield l (List.toArray args)).run P w=.ok n w')(ro:LK):(o.semAt ro a.eval).run P w=.ok n w':=by
 rw[Oper.semAt_eq _ _ _ (by rw[d];intro c h;cases h)];have hmap:c.args.map a.eval=List.toArray args:=by apply QX;simp[e]
 simp only[execOp,d,resolve,f,g,hmap,Deferred.ofValue,invoke,Sem.run_bind,Sem.run_pure,Result.andThen_ok]
 simpa using h
end
end it
section it
variable{P:Program}{H:LS}{α:Type}{enc:α->LR}{xs:List α}{l:Nat}{J:Nat->LI->LI->World->Prop}{Jx:LI->LI->World->Prop}
def zlG(J:Nat->LI->LI->World->Prop)(Jx:LI->LI->World->Prop):Prop:=
 ∀i b SA SB SB' W W',Jt J Jx i b SA SB W->Mv SB SB' W W'->(∀b,SB' b->¬SA b/\b<W'.heap.size)->Jt J Jx i b SA SB' W'
def zix(P:Program)(l:Nat)(enc:α->LR)(xs:List α)(J:Nat->LI->LI->World->Prop)(Jx:LI->LI->World->Prop):Prop:=
 ∀i x SA SB W args,xs[i]?=some x->J i SA SB W->(∀b,SA b->b<W.heap.size)->(∀b,SB b->¬SA b/\b<W.heap.size)->(∀S,Ds S W (enc x) args)->
  YieldAt Fence.wide 0 P l (List.toArray args) W λe W'=>∃SA':LI,Mv SA SA' W W'/\(∀b,SA' b->¬SB b/\b<W'.heap.size)/\
   ((e=.returned (.bool true)/\J (i+1) SA' SB W')∨(e=.returned (.bool false)/\Jx SA' SB W'))
def zAL{L:LP}{o:Oper}(h:isY L o=true):∃c t d a b,o.op=.call c/\c.callee=.value (.tmp t)/\kF L t=some (.val (.func (.yield d) a b)):=by
 unfold isY at h
 split at h
 .rename_i c e
  split at h
  .rename_i t ht
   split at h
   .rename_i d a b f;exact⟨c,t,d,a,b,e,ht,f⟩
   cases h
  cases h
 cases h
def zxx{S S' Pm:LI}{O:zh}{w w':World}{d:LR}{vs:LA}(g:uz.scalars d=true)(h:Gs S Pm O w d vs):Ds S' w' d vs:=
 ⟨h.1,λj s v e f=>v7 (uW g j s e) (h.2 j s v e f)⟩
def ym.round{F:Fence}(h:ym F){n:Nat}{f:FuncId}{tmps:Array Value}{assign body:Code}{w:World}{R:Ending->World->Prop}(g:RoundIn Fence.wide 0 P l f tmps assign body w R):RoundIn F n P l f tmps assign body w R:=
 ⟨h.fn f,λc d _=>let ⟨e,w',r,s⟩:=g.2 c d (room_wide _);⟨e,w',r,h.comes (comesIn_wide.1 s)⟩⟩
def znS{F:Fence}(hF:ym F){n:Nat}(hT:TOK P H)(hS:zlG J Jx)(hY:zix P l enc xs J Jx){all:List Oper}{Q:Ex->St->Nat->Bool->Prop}:∀{r:List Oper} {j:Nat} {E:Env} {SA SB:LI} {Z:St} {i:Nat} {b:Bool} {O:zh} {a:Act} {w:World},y5 r=true->RI J Jx E SA SB Z i b O a w->
   zep P H l enc xs all r j Z i b (Q .normal)->wpListIn F n P all.toArray (zrQ J Jx Q) r a w
 |[],j,E,SA,SB,Z,i,b,O,a,w,_,u,h=>⟨E,SA,SB,Z,i,b,O,h,u⟩
 |o::r,j,E,SA,SB,Z,i,b,O,a,w,hd,u,h=>by
  have K:zrK o=true/\y5 r=true:=by unfold y5 at hd ⊢;rw[YN,XE]at hd;exact hd
  simp only[zep]at h
  split at h
  ·-- an operation like any other
   obtain⟨Z',run,svs,s,md,V,hg,href,hdst,C⟩:=zgO hT u.rel h;have V:zep P H l enc xs all r (j+1) (Z'.app o.dst s md) i b (Q .normal):=V
   have g:Rel E Z' O a w:=by
    rcases href with rfl|⟨t,s0,s1,X,h3,rfl⟩
    .exact u.rel
    exact u.rel.refine X h3
   have U:Z'.nt=Z.nt:=by rcases href with rfl|⟨t,s0,s1,X,h3,rfl⟩ <;> rfl
   have hM:Z'.M=Z.M:=by rcases href with rfl|⟨t,s0,s1,X,h3,rfl⟩ <;> rfl
   have I:RI J Jx E SA SB Z' i b O a w:=⟨g,u.ds,u.sa,λb B=>u.sb b (hM ▸ B),u.dj,u.lt,u.j⟩;have y:=g.cut;unfold wpListIn;rw[g.wanted hg]
   obtain⟨rfl,hst⟩|⟨rfl,rfl,rfl⟩:=C
   .simp only[if_true];refine hF.op (zge K.1) ((hst.does y).wp λv w' ha=>?_);obtain⟨O',hrel⟩:=y.app (λt e=>U ▸ hdst t e) ha;exact znS hF hT hS hY K.2 (I.next hS hrel) V
   simp only[KF,if_false];obtain⟨O',hrel⟩:=y.app (λt e=>U ▸ hdst t e) (uX y.mem);exact⟨λf _=>hF.fn f,znS hF hT hS hY K.2 (I.next hS hrel) V⟩
  -- the call of yield
  rename_i hy;obtain⟨c,t,l',x0,y0,W,hc,k⟩:=zAL hy;obtain⟨Z',run,hg,g,⟨hM,U⟩,C⟩:=zrP h u.rel;have I:RI J Jx E SA SB Z' i b O a w:=⟨g,u.ds,u.sa,λb B=>u.sb b (hM ▸ B),u.dj,u.lt,u.j⟩;unfold wpListIn;rw[g.wanted hg]
  obtain⟨rfl,m⟩|⟨rfl,hskip⟩:=C
  .simp only[if_true];unfold zAJ at m;rw[W]at m;dsimp only at m
   cases b with
   |true=>exact m.elim
   |false=>
    dsimp only at m;obtain⟨svs,m,hev⟩:=zgM m;obtain⟨R,x,hx,hsc,hle,hpM,m⟩:=m;have R:kF Z'.L t=some (.val (.func (.yield l) #[] #[])):=by unfold yIs at R;rw[hc]at R;exact R
    have hval:=(g.regs t _ R).2.val_inv;obtain⟨hdst,m⟩:=qD m;have hgs:=hev (a:=a) (λt s _ hl=>(g.regs t s hl).2);have hargs:∀S,Ds S w (enc x) (c.args.toList.map a.eval):=λS=>zxx hsc (hle.gs hgs)
    obtain⟨fn,tmps,assign,body,C,hR⟩:=hY i x SA SB w _ hx u.j u.lt u.dj hargs;refine⟨λf _=>hF.fn f,?_⟩;rw[zxw W hc hval rfl C];refine⟨hF.need,(hF.round hR).mono ?_⟩
    rintro e W' ⟨SA',N,hdis,hres⟩
    have fin:∀(v:Bool) (i':Nat) (b':Bool),Jt J Jx i' b' SA' SB W'->zep P H l enc xs all r (j+1) (Z'.yput o.dst (.val (.bool v))) i' b' (Q .normal)->
      wpListIn F n P all.toArray (zrQ J Jx Q) r (a.put o.dst (.bool v)) W':=by
     intro v i' b' hj hvc
     have hno:∀b,b<w.heap.size->¬(E.Keep b∨Own Z'.M O b)->¬((E.Keep b∨SA' b)∨Own Z'.M O b)/\W'.heap[b]?=w.heap[b]? :=λb B hn=>
      ⟨λhk=>hk.elim (λhk=>hk.elim (λhk=>hn (.inl hk)) λhs=>(N.own b hs).elim (λh=>hn (.inl (u.sa b h))) λhge=>by omega) λW=>hn (.inr W),N.block b B λhs=>hn (.inl (u.sa b hs))⟩
     have Y:∀t s,kF (zdc Z'.L) t=some s->t<Z'.nt/\G (λb=>(E.Keep b∨SA' b)∨Own Z'.M O b) (Own Z'.M O) O W' s (a.tmps.getD t undef):=λt s k=>by
      obtain⟨s',hl'⟩:=zxv k;refine⟨(g.regs t s' hl').1,?_⟩
      rcases zgf k with rfl|⟨V,X⟩
      .exact .d _ _ (.junk _)
      exact(g.regs t s V).2.pf N.size hno X
     have T:zJ (λb=>E.Keep b∨SA' b) Z'.M O W':=
      (g.mem.few (K':=λb=>E.Keep b∨SA b) hpM λb B=>B.elim id (u.sa b)).other hpM N λb B=>⟨λW=>(hdis b B).1 (I.sb b W),(hdis b B).2⟩
     have hrel:Rel ⟨W',E.ρ0,λb=>E.Keep b∨SA' b,Own Z'.M O,E.ds⟩ (Z'.yput o.dst (.val (.bool v))) O (a.put o.dst (.bool v)) W':=by
      refine⟨?_,?_,λt s k=>?_,T,g.fresh,⟨rfl,rfl,.refl _,Xj _,λ_ _ _=>rfl,λ_ h=>.inl h,g.stp.rho⟩,T.kp,g.low⟩
      .have:=g.size
       cases D:o.dst <;> simpa[Act.put,St.yput] using this
      .have:=g.defers
       cases D:o.dst <;> simpa[Act.put] using this
      cases D:o.dst with
      |none=>
       rw[D]at k;exact Y t s k
      |some d=>
       rw[D]at k;have k:kF ((d,.val (.bool v))::zdc Z'.L) t=some s:=k;rw[zU]at k;have hdlt:d<a.tmps.size:=by rw[g.size];exact hdst d D
       by_cases e:d=t
       .rw[Xe e]at k
        cases k
        refine⟨e ▸ hdst d D,?_⟩;rw[zgN hdlt,Xe e];exact .d _ _ (.val _)
       rw[Xc e]at k;rw[zgN hdlt,Xc e];exact Y t s k
     refine znS hF hT hS hY K.2 ⟨hrel,u.ds,λb B=>.inr B,I.sb,λb B=>⟨λhs=>(hdis b hs).1 B,Xx (u.dj b B).2 N.size⟩,λb B=>(hdis b B).2,hj⟩ hvc
    obtain⟨rfl,hj⟩|⟨rfl,hj⟩:=hres
    .exact fin true (i+1) false hj m.yes
    exact fin false i true hj m.no
  simp only[KF,if_false];unfold zaL at hskip;obtain⟨hdst,hskip⟩:=qD hskip;have y:=g.cut;obtain⟨O',hrel⟩:=y.app hdst (uX y.mem);exact⟨λf _=>hF.fn f,znS hF hT hS hY K.2 (I.next hS hrel) hskip⟩
def u6{F:Fence}(hF:ym F){n:Nat}(hT:TOK P H)(k:P.follows .mixedOrders=true)(hS:zlG J Jx)(hY:zix P l enc xs J Jx):
  ∀(c:Code) {E:Env} {SA SB:LI} {Z:St} {i:Nat} {b:Bool} {Q:Ex->St->Nat->Bool->Prop} {O:zh} {a:Act} {w:World},
   RI J Jx E SA SB Z i b O a w->zAK P H l enc xs c Z i b Q->c.wpIn F n P (zrQ J Jx Q) a w
 |.skip,E,SA,SB,Z,i,b,Q,O,a,w,d,h=>wpIn_skip ⟨E,SA,SB,Z,i,b,O,h,d⟩
 |.region id ops draw,E,SA,SB,Z,i,b,Q,O,a,w,d,h=>by
  cases draw with
  |false=>
   have h:(match y5 ops.toList with|false=>False|true=>zep P H l enc xs ops.toList ops.toList 0 Z i b (Q .normal)):=h
   split at h
   .exact h.elim
   rename_i G;refine wpIn_region_list ?_;have:=znS (n:=n) hF hT hS hY G d h
   simpa using this
  |true=>
   have h:(match y5 ops.toList with|false=>False|true=>YDr (jw P H (.region id ops true) Z (λe Z=>match e with|.normal=>Q .normal Z i b|_=>False)) (λm=>Ob (yB (y5 ops.toList) (yB (znQ ops.toList m) (vt (ops.toList.take m)))=true)
     (ve P H true (ops.toList.take m) (ops.toList.take m) 0 Z λZ=>zep P H l enc xs ops.toList (ops.toList.drop m) m Z i b (Q .normal)))):=h
   split at h
   .exact h.elim
   rename_i R
   rcases h with h|⟨m,h⟩
   .refine wpIn_mono (znK hF hT k R d.rel.cut h) (λe r w' f=>?_)
    cases e with
    |normal=>obtain⟨Z',O',f,g⟩:=f;exact⟨_,SA,_,Z',i,b,O',f,d.next hS g⟩
    |exit id=>obtain⟨Z',O',f,g⟩:=f;exact f.elim
    |ret=>obtain⟨Z',O',f,g⟩:=f;exact f.elim
    |_=>exact f.elim
   obtain⟨M,h⟩:=h;obtain⟨G,M⟩:=kr M;obtain⟨ht,hord⟩:=kr M;refine zrO hF k hT G ht d.rel.cut hord h λZ' O' r w' hk g=>?_
   have N:y5 (ops.toList.drop m)=true:=XX.2 λo ho=>XX.1 G o (K2 ho)
   have:=znS (n:=n) hF hT hS hY N (d.next hS g) hk
   simpa using this
 |.seq x y,E,SA,SB,Z,i,b,Q,O,a,w,d,h=>by
  refine wpIn_seq (wpIn_mono (u6 hF hT k hS hY x d h) (λe r w' f=>?_))
  cases e with
  |normal=>obtain⟨E',SA',SB',Z',L,u,O',v,g⟩:=f;exact u6 hF hT k hS hY y g v
  |exit id=>exact f
  |ret=>exact f
  |_=>exact f.elim
 |.cond c x y,E,SA,SB,Z,i,b,Q,O,a,w,d,h=>by
  obtain⟨s,h,hs⟩:=zcX h;have C:=hs (a:=a) (λt s _ hl=>(d.rel.regs t s hl).2)
  split at h
  .exact wpIn_cond_true C.val_inv (u6 hF hT k hS hY x d h)
  .exact wpIn_cond_false C.val_inv (u6 hF hT k hS hY y d h)
  .rename_i p ip
   by_cases K:p
   .exact wpIn_cond_true (by rw[C.pr_inv];simp[K]) (u6 hF hT k hS hY x d (h.yes K))
   exact wpIn_cond_false (by rw[C.pr_inv];simp[K]) (u6 hF hT k hS hY y d (h.no K))
  .obtain⟨u,B⟩:=C.anyb_inv
   cases u with
   |true=>exact wpIn_cond_true B (u6 hF hT k hS hY x d h.yes)
   |false=>exact wpIn_cond_false B (u6 hF hT k hS hY y d h.no)
  exact h.elim
 |.block id c,E,SA,SB,Z,i,b,Q,O,a,w,d,h=>by
  refine wpIn_block (wpIn_mono (u6 hF hT k hS hY c d h) (λe r w' f=>?_))
  cases e with
  |normal=>exact f
  |exit j=>
   obtain⟨E',SA',SB',Z',L,u,O',v,g⟩:=f;dsimp only at v;show(if j=id then zrQ J Jx Q .normal r w' else zrQ J Jx Q (.exit j) r w')
   split at v
   .rename_i B;rw[Xe (Xk B)];exact⟨E',SA',SB',Z',L,u,O',v,g⟩
   rename_i B;rw[Xc (KM B)];exact⟨E',SA',SB',Z',L,u,O',v,g⟩
  |ret=>exact f
  |_=>exact f.elim
 |.loop c,E,SA,SB,Z,i,b,Q,O,a,w,d,h=>by
  obtain⟨ι,S,T,I,μ,x0,h0,D,rfl,rfl,hround⟩:=h;obtain⟨E0,SB0,ρ0,V⟩:=d.sub hS D;refine zaT (λn a w=>∃x E SA SB O,I x/\μ x=n/\RI J Jx E SA SB (S x) (T x) false O a w) (μ x0) ⟨x0,E0,SA,SB0,ρ0,h0,rfl,V⟩ λn a w hI=>?_
  obtain⟨x,E1,SA1,SB1,O1,h1,rfl,W⟩:=hI;refine wpIn_mono (u6 hF hT k hS hY c W (hround x h1)) (λe r w' f=>?_)
  cases e with
  |normal=>
   obtain⟨E2,SA2,SB2,Z',L,u,O',⟨x',h2,Y,rfl,rfl,U⟩,g⟩:=f;obtain⟨E3,SB3,O3,X⟩:=g.sub hS Y;exact⟨μ x',U,x',E3,SA2,SB3,O3,h2,rfl,X⟩
  |exit id=>exact f
  |ret=>exact f
  |_=>exact f.elim
 |.exit id,E,SA,SB,Z,i,b,Q,O,a,w,d,h=>wpIn_exit ⟨E,SA,SB,Z,i,b,O,h,d⟩
 |.ret,E,SA,SB,Z,i,b,Q,O,a,w,d,h=>wpIn_ret ⟨E,SA,SB,Z,i,b,O,h,d⟩
 |.rangeFunc _ _ _ _,_,_,_,_,_,_,_,_,_,_,_,h=>by cases h
 |.scope _,_,_,_,_,_,_,_,_,_,_,_,h=>by cases h
 |.label _,E,SA,SB,Z,i,b,Q,O,a,w,d,h=>wpIn_label ⟨E,SA,SB,Z,i,b,O,h,d⟩
 |.goto _,_,_,_,_,_,_,_,_,_,_,_,h=>by cases h
 |.refuse _,_,_,_,_,_,_,_,_,_,_,_,h=>by cases h
def endI(n:Nat)(e:Ex)(_:St)(i:Nat)(b:Bool):Prop:=
 match e with
 |.exit _=>False
 |_=>b=true∨i=n
def zjY(hT:TOK P H)(N:P.follows .mixedOrders=true){f:FuncId}{fn:Func}{c:Code}{caps:LR}(F:P.funcs[f]?=some fn)(o:fn.body=some c)(Q:(fn.name== "runtime.NumGoroutine")=false)
  (C:Nat.ble (caps.length+1) fn.ntmps=true) (hres:fn.results=#[]) (h:∀l:Nat,zAK P H l enc xs c ⟨jm 0 (.val (.func (.yield l) #[] #[])::caps),[],0,fn.ntmps,0⟩ 0 false (endI xs.length)):zfJ P f caps enc xs:=by
 refine⟨⟨fn,F,Q,by rw[o];rfl⟩,λSA w vs l J Jx r B g hSJ hSX hY K=>?_⟩;refine callsIn_of_wp_marks F o trivial ?_ rfl
 have hrel:=vg (Keep:=SA) (M:=[]) (O:=λ_=>none) (w:=w) (args:=.val (.func (.yield l) #[] #[])::caps) (vs:=.func (.yield l) #[] #[]::vs) (nt:=fn.ntmps) (qr r B) (λ_ _=>rfl)
  ⟨by simp[g.1],λj s v G I=>by
   cases j with
   |zero=>cases G;cases I;exact .d _ _ (.val _)
   |succ j=>exact .d _ _ ((g.2 j s v (by simpa using G) (by simpa using I)).less λb o=>o.resolve_right zN)⟩ (by simpa using Xz C)
 have D:RI J Jx ⟨w,λ_=>none,SA,Own [] (λ_=>none),[]⟩ SA (λ_=>False) _ 0 false _ _ w:=⟨hrel,rfl,λ_ h=>h,λ_ o=>absurd o zN,λ_ h=>h.elim,r,K⟩
 have hS:zlG J Jx:=λi b SA SB SB' W W' n t u=>by
  cases b with
  |false=>exact hSJ i SA SB SB' W W' n t u
  |true=>exact hSX SA SB SB' W W' n t u
 refine wpIn_mono (u6 ym.wide hT N hS (λi x SA SB W args R n hA hB L=>hY i x SA SB W args R n hA hB (L _)) c D (h l)) (λe y w' k=>?_)
 have fin:∀{E SA SB Z i b O},RI J Jx E SA SB Z i b O y w'->(b=true∨i=xs.length)->LeavesInM Fence.wide 0 P fn y.tmps (λe W'=>(∃v,e=.returned v)/\∃SA' SB',J xs.length SA' SB' W'∨Jx SA' SB' W') y.defers .returning w':=by
  intro E SA SB Z i b O m u;rw[m.rel.defers,m.ds];refine⟨.tuple #[],by unfold results;rw[hres];simp,⟨_,rfl⟩,SA,SB,?_⟩;have n:=m.j
  cases b with
  |true=>exact .inr n
  |false=>
   obtain rfl:=u.resolve_left sI;exact .inl n
 cases e with
 |normal=>obtain⟨E,SA,SB,Z,i,b,O,k,m⟩:=k;exact fin m k
 |ret=>obtain⟨E,SA,SB,Z,i,b,O,k,m⟩:=k;exact fin m k
 |exit id=>obtain⟨E,SA,SB,Z,i,b,O,k,m⟩:=k;exact k.elim
 |_=>exact k.elim
end it
open Go.Proofs
section
def ptA(p:Pt):LR:=[wk p]
def zvF(F:FuncId)(d:LR)(n:Int):CG0 366 [i64 n,.fn F [.dptr d,.loc 0 0]] [(0,.box 3 [i64 n])]
  (.dfn 426 [.dptr [i64 n],.dptr [.dfn F [.dptr d,.dptr [i64 n]]]]) []:=by
 exact zjt 3 tok mix func366 rfl rfl rfl<|.refl
def zDr{f:Int->Pt}{n k:Nat}(h:k<n):(zcx f n)[k]?=some (f ((k:Int)+1)):=by
 unfold zcx;rw[XD,KQ h];rfl
def zaB(f:Int->Pt)(n:Nat):(zcx f n).length=n:=by unfold zcx;simp
def znT(f:Int->Pt)(n:Nat):zcx f (n+1)=zcx f n++[f ((n:Int)+1)]:=by
 unfold zcx;rw[KC,XA];rfl
def zrR(F:FuncId)(d:LR)(n:Int)(f:Int->Pt)(j:0<=n/\n<=64)(h:∀i:Nat,i<n.toNat->CX F [i64 ((i:Int)+1),.dptr d,.dptr [i64 n]] (wk (f ((i:Int)+1)))):
  zfJ prog 426 [.dptr [i64 n],.dptr [.dfn F [.dptr d,.dptr [i64 n]]]] ptA (zcx f n.toNat):=by
 refine zjY (caps:=[.dptr [i64 n],.dptr [.dfn F [.dptr d,.dptr [i64 n]]]]) (enc:=ptA) (xs:=zcx f n.toNat) tok mix func426 rfl rfl rfl rfl (λl=>?_);refine⟨Nat,λk=>⟨[(0,.val (.func (.yield l) #[] #[])),(1,.dptr [i64 n]),(2,.dptr [.dfn F [.dptr d,.dptr [i64 n]]]),(4,i64 ((k:Int)+1))],[],0,16,0⟩,λk=>k,λk=>k<=n.toNat,λk=>n.toNat-k,0,?_,?_,rfl,rfl,?_⟩
 .exact Xh _
 .exact zC []
 rintro k e
 refine⟨λg:(k:Int)+1<=n=>?_,λg:¬(k:Int)+1<=n=>?_⟩
 .refine wg (h k oM)<|⟨rfl,f ((k:Int)+1),zDr (show k<n.toNat by omega),rfl,.C .nil,(λ_ _ h=>by cases h),?_⟩;refine Br.mk ?_ ?_
  .refine wa ?_;refine⟨k+1,oM,jo [] ⟨rfl,rfl,rfl,iR oM,tV⟩ trivial,rfl,rfl,oN⟩
  exact .inl rfl
 exact .inr (by rw[zaB];show k=n.toNat;omega)
def zE7(caps:LR)(xs:LU)(h:zfJ prog 426 caps ptA xs)(g:xs.length<=4096):CX 365 [.dfn 426 caps] (.sl ptE xs):=by
 refine vk 1 tok mix func365 rfl rfl rfl ?_
 refine⟨Pt,ptA,xs,1,[(3,.loc 0 0)],λj=>[(0,.box 148 [.own 1]),(1,.arr 28 ptE 2 (xs.take j))],λ_=>2,h,λ_=>rfl,⟨rfl,rfl,rfl,rfl⟩,
  zC [(0,some 0),(1,none)],⟨Xh _,rfl⟩,λj=>?_,?_,?_⟩
 .intro k m d;simp only[XH,XV,or_false,KJ]at d
  obtain⟨_,rfl⟩|⟨_,rfl⟩:=d
  .rfl
  trivial
 .intro j y f _;have e:(xs.take j).length<=4096:=by rw[Xo];omega
  refine⟨Pt,ptE,[y],rfl,wb0 ?_⟩;refine⟨[y],rfl,wb4 ?_⟩;exact zt [0,4] ⟨rfl,aR (by rw[Xm,f];rfl),tV⟩
 refine λ_=>z6 ?_
 exact X9
def zxy(a b c:Pt)(i n:Int):CX 367 [i64 i,.dptr (ptE a++ptE b++ptE c),.dptr [i64 n]] (wk (yY a b c i n)):=by
 exact zc func367<|wg (zAB a b c i n)<|.refl
variable{a:Pt}{b:Pt}{c:Pt}{tol:Int}
def zlH(h:(jY a b c tol).2=0):zdz a b c tol=(zcx (λi=>yY a b c i (jY a b c tol).1) (jY a b c tol).1.toNat,0):=by
 unfold zdz;rw[qK h]
def ziy(h:¬(jY a b c tol).2=0):zdz a b c tol=([],(jY a b c tol).2):=by
 unfold zdz;rw[Xe h]
def zrS(c:LU×Int):SV:=.tup [.sl ptE c.1,i64 c.2]
def ziz{c:LU×Int}{a:LU}{b:Int}(h:c=(a,b)):LE (.tup [.sl ptE a,i64 b]) (zrS c):=by subst h;exact .refl
def zjZ{c:LU×Int}{b:Int}(h:c=([],b)):LE (.tup [nS,i64 b]) (zrS c):=by subst h;exact zO zD .refl
def zGu(a b c:Pt)(tol:Int)(d:zm a)(f:zm b)(g:zm c):CX 309 [.agg (ptE a++ptE b++ptE c),i64 tol] (zrS (zdz a b c tol)):=by
 refine zc func309<|zgz.data<|wg (zxr a b c tol d f g)<|⟨λk=>?_,λk=>?_⟩
 .exact zjZ (ziy k)
 have k:(jY a b c tol).2=0:=Xa.1 k;have ok:=(yS (show(kZ _ tol _).2=0 from k)).1;have ok:1<=(jY a b c tol).1/\(jY a b c tol).1<=64:=ok;have e:=zlH k;generalize (jY a b c tol).1=n at*;refine zb.give [0] 0 [i64 n,.fn 367 [.dptr (ptE a++ptE b++ptE c),.loc 0 0]] [(0,.box 3 [i64 n])] [] _ (zvF 367 (ptE a++ptE b++ptE c) n) LEs.refl rfl rfl rfl ⟨⟨_,rfl,rfl,rfl⟩,tV⟩ rfl trivial<|wg (zE7 _ _ (zrR 367 (ptE a++ptE b++ptE c) n (λi=>yY a b c i n) oM (λi _=>zxy a b c ((i:Int)+1) n)) (by rw[zaB];omega)) ?_
 exact ziz e
def zGv(a b c:Pt)(tol:Int):CX 344 [.agg (ptE a++ptE b++ptE c),i64 tol] (zrS (zdz a b c tol)):=by
 refine zc func344<|zgz.data<|wg (zxs a b c tol)<|⟨λk=>?_,λk=>?_⟩
 .exact zjZ (ziy k)
 have k:(jY a b c tol).2=0:=Xa.1 k;have ok:=(yS (show(kZ _ tol _).2=0 from k)).1;have ok:1<=(jY a b c tol).1/\(jY a b c tol).1<=64:=ok;have e:=zlH k;generalize (jY a b c tol).1=n at*;refine⟨Pt,ptE,[],rfl,wb2 ?_⟩;refine⟨Nat,λi=>⟨[(2,.dptr (ptE a++ptE b++ptE c)),(6,i64 n),(8,.own 0),(9,i64 ((i:Int)+1))],[(0,.arr 28 ptE 2 (zcx (λi=>yY a b c i n) i))],1,33,0⟩,λi=>i<=n.toNat,λi=>n.toNat-i,0,?_,?_,?_⟩
 .exact Xh _
 .exact zf [0]
 rintro i hi
 have d:=zaB (λi=>yY a b c i n) i;refine⟨λg:(i:Int)+1<=n=>?_,λg:¬(i:Int)+1<=n=>?_⟩
 .refine wg (zAC a b c ((i:Int)+1) n)<|⟨Pt,ptE,[yY a b c ((i:Int)+1) n],rfl,wb0 ?_⟩;refine⟨[yY a b c ((i:Int)+1) n],rfl,Ob.mk ⟨(by show _*(16:Int)<=_;simp only[d,Xn,Xs];omega),(by simp only[d,Xn,Xs];omega),dC,λ_ _=>rfl⟩ ?_⟩;refine wa ?_;refine⟨i+1,oM,zP [2] ⟨rfl,rfl,rfl,iR oM,tV⟩ ⟨aR (znT _ _).symm,tV⟩,oN⟩
 have hi:i=n.toNat:=oM;subst hi;exact ziz e
def zxz(a b c d:Pt)(i n:Int):CX 370 [i64 i,.dptr (ptE a++ptE b++ptE c++ptE d),.dptr [i64 n]] (wk (yZ a b c d i n)):=by
 exact zc func370<|wg (zAD a b c d i n)<|.refl
def zlI{d:Pt}(h:(jZ a b c d tol).2=0):zdA a b c d tol=(zcx (λi=>yZ a b c d i (jZ a b c d tol).1) (jZ a b c d tol).1.toNat,0):=by
 unfold zdA;rw[qK h]
def ziA{d:Pt}(h:¬(jZ a b c d tol).2=0):zdA a b c d tol=([],(jZ a b c d tol).2):=by
 unfold zdA;rw[Xe h]
def zGw(a b c d:Pt)(tol:Int)(f:zm a)(g:zm b)(h:zm c)(j:zm d):CX 310 [.agg (ptE a++ptE b++ptE c++ptE d),i64 tol] (zrS (zdA a b c d tol)):=by
 refine zc func310<|zgz.data<|wg (zxt a b c d tol f g h j)<|⟨λk=>?_,λk=>?_⟩
 .exact zjZ (ziA k)
 have k:(jZ a b c d tol).2=0:=Xa.1 k;have ok:=(yS (show(kZ _ tol _).2=0 from k)).1;have ok:1<=(jZ a b c d tol).1/\(jZ a b c d tol).1<=64:=ok;have e:=zlI k;generalize (jZ a b c d tol).1=n at*;refine zb.give [0] 0 [i64 n,.fn 370 [.dptr (ptE a++ptE b++ptE c++ptE d),.loc 0 0]] [(0,.box 3 [i64 n])] [] _ (zvF 370 (ptE a++ptE b++ptE c++ptE d) n) LEs.refl rfl rfl rfl ⟨⟨_,rfl,rfl,rfl⟩,tV⟩ rfl trivial ?_
 exact wg (zE7 _ _ (zrR 370 (ptE a++ptE b++ptE c++ptE d) n (λi=>yZ a b c d i n) oM (λi _=>zxz a b c d ((i:Int)+1) n)) (by rw[zaB];omega))<|ziz e
def zGx(a b c d:Pt)(tol:Int):CX 345 [.agg (ptE a++ptE b++ptE c++ptE d),i64 tol] (zrS (zdA a b c d tol)):=by
 refine zc func345<|zgz.data<|wg (zxu a b c d tol)<|⟨λk=>?_,λk=>?_⟩
 .exact zjZ (ziA k)
 have k:(jZ a b c d tol).2=0:=Xa.1 k;have ok:=(yS (show(kZ _ tol _).2=0 from k)).1;have ok:1<=(jZ a b c d tol).1/\(jZ a b c d tol).1<=64:=ok;have e:=zlI k;generalize (jZ a b c d tol).1=n at*;refine⟨Pt,ptE,[],rfl,wb2 ?_⟩;refine⟨Nat,λi=>⟨[(2,.dptr (ptE a++ptE b++ptE c++ptE d)),(6,i64 n),(8,.own 0),(9,i64 ((i:Int)+1))],[(0,.arr 28 ptE 2 (zcx (λi=>yZ a b c d i n) i))],1,33,0⟩,λi=>i<=n.toNat,λi=>n.toNat-i,0,?_,?_,?_⟩
 .exact Xh _
 .exact zf [0]
 rintro i hi
 have f:=zaB (λi=>yZ a b c d i n) i;refine⟨λg:(i:Int)+1<=n=>?_,λg:¬(i:Int)+1<=n=>?_⟩
 .refine wg (zAE a b c d ((i:Int)+1) n)<|⟨Pt,ptE,[yZ a b c d ((i:Int)+1) n],rfl,wb0 ?_⟩;refine⟨[yZ a b c d ((i:Int)+1) n],rfl,Ob.mk ⟨(by show _*(16:Int)<=_;simp only[f,Xn,Xs];omega),(by simp only[f,Xn,Xs];omega),dC,λ_ _=>rfl⟩ ?_⟩;refine wa ?_;refine⟨i+1,oM,zP [2] ⟨rfl,rfl,rfl,iR oM,tV⟩ ⟨aR (znT _ _).symm,tV⟩,oN⟩
 have hi:i=n.toNat:=oM;subst hi;exact ziz e
variable{α:Type _}{A:List α}{z:α}
def zt0{y:α}{n:Nat}(h:(A++[z])[n]?=some y)(d:n=A.length):y=z:=by
 subst d;simp at h;exact h.symm
def zj0{w:α}{n:Nat}(d:n=A.length):(A++[z]).set n w=A++[w]:=by
 subst d;simp
def jM(cl:LZ)(k:Nat)(b:SV):LN:=cl.map plE++[[SV.own k,b]]
def zaC(cl:LZ)(k:Nat)(b:SV):(jM cl k b).length=cl.length+1:=by unfold jM;simp
def zrT(ks:LC)(Y:Nat)(cl:LZ)(k:Nat)(p:Prop)(i:Decidable p):(jM cl k (.pr p i)).map (vS.rens ks Y)=jM cl (rn ks Y k) (.pr p i):=by
 unfold jM;rw[XA,Yo];rfl
def zAM{n k:Nat}(h:Nat.blt k n=true)(cl:LZ)(p:Prop)(i:Decidable p):∀x∈jM cl k (.pr p i),uU.lows n x=true:=λx d=>by
 rcases Xt.1 d with d|d
 .obtain⟨q,_,rfl⟩:=XN.1 d;rfl
 rw[Xu.1 d];simp only[uU.lows,uU,h]
def zAN{n k:Nat}(h:Nat.blt k n=true)(cl:LZ)(p:Prop)(i:Decidable p):∀x∈jM cl k (.pr p i),zb7.outs n x=true:=λx d=>by
 rcases Xt.1 d with d|d
 .obtain⟨q,_,rfl⟩:=XN.1 d;rfl
 rw[Xu.1 d];simp only[zb7.outs,zb7,h]
def zat{g:List (Nat×Option Nat)}{cl:LZ}{a b:Nat}{p:Prop}{i:Decidable p}(h:zbu g b=some (some a)):
  (jM cl a (.pr p i)).length=(jM cl b (.pr p i)).length/\∀(j:Nat) x,(jM cl b (.pr p i))[j]?=some x->∃x',(jM cl a (.pr p i))[j]?=some x'/\ren.rens g x=some x':=by
 refine⟨by rw[zaC,zaC],λj x d=>?_⟩;unfold jM at d ⊢;rw[KY]at d
 split at d
 .rename_i hi;rw[XD]at d
  cases e:cl[j]? with
  |none=>simp[e]at d
  |some y=>
   simp[e]at d;subst d;exact⟨plE y,by rw[XL hi,XD,e];rfl,rfl⟩
 rename_i hi
 have f:j-(cl.map plE).length=0:=by
  have:=(Xd.1 d).1;simp at this;simp at hi ⊢;omega
 rw[f]at d;simp at d;subst d;refine⟨[.own a,.pr p i],by rw[XF oM,f];rfl,?_⟩;simp only[ren.rens,ren,h]
def zhj(q:LU)(x:Pt):(y4 q x).length<=q.length+1:=by
 unfold y4;split
 .omega
 simp
def vG:∀(more q:LU),(ky q more).length<=q.length+more.length
 |[],q=>by simp[ky]
 |x::r,q=>by
  have d:=vG r (y4 q x);have f:=zhj q x;have e:ky q (x::r)=ky (y4 q x) r:=rfl;rw[e,Xn];omega
def ziB{q more:LU}{i:Nat}{x:Pt}(h:more[i]?=some x):ky q (more.take (i+1))=y4 (ky q (more.take i)) x:=by
 unfold ky;rw[Xm,h];simp[KT]
variable{q:LU}{x:Pt}
def zpz{z:Pt}(h:q[q.length-1]?=some z)(e:z=x):y4 q x=q:=by
 unfold y4;rw[K7,h,e,Xe rfl]
def zj1{z:Pt}(h:q[q.length-1]?=some z)(e:¬z=x):y4 q x=q++[x]:=by
 unfold y4;rw[K7,h,Xc (λk=>e (Xl k))]
def zpA(h:q.length=0):y4 q x=q++[x]:=by
 rw[Xp h];rfl
def zGy(cl:LZ)(q more:LU)(B:Prop)[iB:Decidable B](v:q.length<=100000)(u:more.length<=64)(n:cl.length<=300):
  CG0 247 [.eloc 0 2 (cl.length:Int) 0,.sl ptE more] [(0,.garr 193 2 (jM cl 1 (pr B))),(1,.arr 28 ptE 2 q)] (.tup [])
   [(0,.garr 193 2 (jM cl 2 (pr B))),(2,.arr 28 ptE 2 (ky q more))]:=by
 refine uf tok mix func247 rfl rfl rfl λo=>?_
 refine⟨Nat,λi=>⟨[(0,.eloc 0 2 (cl.length:Int) 0),(7,.sl ptE more),(8,i64 more.length),(9,i64 i)],
   [(0,.garr 193 2 (jM cl 2 (pr B))),(2,.arr 28 ptE 2 (ky q (more.take i)))],3,43,2⟩,λi=>i<=more.length,λi=>more.length-i,0,?_,?_,?_⟩
 .exact Xh _
 .exact zt [0,1,1] ⟨⟨_,rfl,zat rfl⟩,rfl,tV⟩
 rintro i hi
 have j:=vG (more.take i) q;rw[Xo]at j;have d:∀{y:LR} {k:Nat} {b:SV},(jM cl k b)[(cl.length:Int).toNat]?=some y->y=[.own k,b]:=λh=>zt0 h sI
 have m:(cl.length:Int).toNat=(cl.map plE).length:=by simp
 have hset:∀(k:Nat) (b:SV) (w:LR),(jM cl k b).set (cl.length:Int).toNat w=cl.map plE++[w]:=λk b w=>by unfold jM;exact zj0 m
 have hrow:0<=(cl.length:Int)/\(cl.length:Int)<(jM cl 2 (pr B)).length:=by rw[zaC];omega
 refine⟨λg:(i:Int)<more.length=>?_,λg:¬(i:Int)<more.length=>?_⟩
 .refine wb λx(s:more[i]?=some x)=>?_;have e:=ziB (q:=q) s;refine Ob.mk hrow λy f=>?_;obtain rfl:=d f;intro r
  have yes:ky q (more.take (i+1))=(ky q (more.take i))++[x]->∀{Z:St},Sub Z ⟨[(0,.eloc 0 2 (cl.length:Int) 0),(7,.sl ptE more),(8,i64 more.length),(9,i64 ((i+1:Nat):Int))],
    [(0,.garr 193 2 (jM cl 2 (pr B))),(2,.arr 28 ptE 2 ((ky q (more.take i))++[x]))],3,43,2⟩->Sub Z ⟨[(0,.eloc 0 2 (cl.length:Int) 0),(7,.sl ptE more),(8,i64 more.length),(9,i64 ((i+1:Nat):Int))],
    [(0,.garr 193 2 (jM cl 2 (pr B))),(2,.arr 28 ptE 2 (ky q (more.take (i+1))))],3,43,2⟩:=λh Z k=>by rw[h];exact k
  refine wd<|Br.mk (λz=>?_) (λz=>?_)
  .have z:((ky q (more.take i)).length:Int)=0:=z;refine wh<|wd<|Ob.mk hrow λy f=>?_;obtain rfl:=d f;refine⟨Pt,ptE,[x],rfl,wb0 ?_⟩;refine⟨[x],rfl,wb4 ?_⟩;refine Ob.mk hrow λy f=>?_;obtain rfl:=d f;refine wh<|wa ?_;refine⟨i+1,oM,yes (by rw[e,zpA oM]) (zt [0,1,5] ⟨⟨_,Xg (λq=>some (Mem.garr 193 2 q)) (hset _ _ _),zat rfl⟩,rfl,tV⟩),oN⟩
  have z:¬((ky q (more.take i)).length:Int)=0:=z;refine Ob.mk hrow λy f=>?_;obtain rfl:=d f;refine wa<|wb<|wb λt ht=>?_
  have ht:(ky q (more.take i))[(ky q (more.take i)).length-1]?=some t:=by
   have ht:(ky q (more.take i))[(((ky q (more.take i)).length:Int)-1).toNat]?=some t:=ht
   rwa [show(((ky q (more.take i)).length:Int)-1).toNat=(ky q (more.take i)).length-1 by omega]at ht
  refine wh<|⟨λk=>?_,λk=>?_⟩
  .have k:¬t=x:=λh=>k (qm.2 h)
   refine wd<|Ob.mk hrow λy f=>?_;obtain rfl:=d f;refine⟨Pt,ptE,[x],rfl,wb0 ?_⟩;refine⟨[x],rfl,wb4 ?_⟩;refine Ob.mk hrow λy f=>?_;obtain rfl:=d f;refine wh<|wa ?_;refine⟨i+1,oM,yes (by rw[e,zj1 ht k]) (zt [0,1,5] ⟨⟨_,Xg (λq=>some (Mem.garr 193 2 q)) (hset _ _ _),zat rfl⟩,rfl,tV⟩),oN⟩
  have k:t=x:=qm.1 (Xa.1 k);refine wa ?_;refine⟨i+1,oM,zt [0,1,2] ⟨⟨_,rfl,zat rfl⟩,aR (by rw[e,zpz ht k]),tV⟩,oN⟩
 have e:more.take i=more:=Xi oM;exact⟨_,.refl,Xg (λl=>[(0,Mem.garr 193 2 (jM cl 2 (pr B))),(2,Mem.arr 28 ptE 2 (ky q l))]) e,.refl⟩
def zGz(q more:LU)(s:q.length<=100000)(r:more.length<=64):
  CG0 288 [.own 0,.sl ptE more] [(0,.arr 28 ptE 2 q)] (.own 1) [(1,.arr 28 ptE 2 (ky q more))]:=by
 refine uf tok mix func288 rfl rfl rfl<|⟨Nat,λi=>⟨[(0,.own 1),(1,.sl ptE more),(5,i64 i)],[(1,.arr 28 ptE 2 (ky q (more.take i)))],2,36,1⟩,λi=>i<=more.length,λi=>more.length-i,0,?_,?_,?_⟩
 .exact Xh _
 .exact zf [0,0]
 rintro i hi
 have d:=vG (more.take i) q;rw[Xo]at d;intro m;refine⟨λg:(i:Int)<more.length=>?_,λg:¬(i:Int)<more.length=>?_⟩
 .obtain⟨x,j⟩:∃x,more[i]?=some x:=⟨_,Xb oM⟩;have e:=ziB (q:=q) j;have same:∀{y:Pt},more[(i:Int).toNat]?=some y->y=x:=λh=>Xl ((show more[i]?=some _ from h).symm.trans j)
  refine wd λn=>?_;refine⟨λz:((ky q (more.take i)).length:Int)=0=>?_,λz:¬((ky q (more.take i)).length:Int)=0=>?_⟩
  .refine wh<|wb λy f=>?_;rw[same f];refine⟨Pt,ptE,[x],rfl,wb0 ?_⟩;refine⟨[x],rfl,wb4 ?_⟩;refine wa ?_;refine⟨i+1,oM,zt [0,3] ⟨aR (by rw[e,zpA oM]),tV⟩,oN⟩
  intro o;refine wa<|wb<|wb λt ht=>?_
  have ht:(ky q (more.take i))[(ky q (more.take i)).length-1]?=some t:=by
   have ht:(ky q (more.take i))[(((ky q (more.take i)).length:Int)-1).toNat]?=some t:=ht
   rwa [show(((ky q (more.take i)).length:Int)-1).toNat=(ky q (more.take i)).length-1 by omega]at ht
  refine wb λy f=>?_;rw[same f];refine wh<|⟨λk=>?_,λk=>?_⟩
  .have k:¬t=x:=λh=>k (qm.2 h)
   refine wb λy f=>?_;rw[same f];refine⟨Pt,ptE,[x],rfl,wb0 ?_⟩;refine⟨[x],rfl,wb4 ?_⟩;refine wa ?_;refine⟨i+1,oM,zt [0,3] ⟨aR (by rw[e,zj1 ht k]),tV⟩,oN⟩
  have k:t=x:=qm.1 (Xa.1 k);refine wa ?_;refine⟨i+1,oM,zt [0,1] ⟨aR (by rw[e,zpz ht k]),tV⟩,oN⟩
 have e:more.take i=more:=Xi oM;exact⟨_,.refl,Xg (λl=>[(1,Mem.arr 28 ptE 2 (ky q l))]) e,.refl⟩
variable{p:Pt}
def zrU{s:Sg}(h:s.v=3):kL p s tol=zdz p s.a s.b tol:=by unfold kL;rw[Xe h]
def zrV{s:Sg}(d:¬s.v=3)(h:s.v=4):kL p s tol=zdA p s.a s.b s.c tol:=by unfold kL;rw[Xc d,Xe h]
def zrW{s:Sg}(d:¬s.v=3)(h:¬s.v=4):kL p s tol=([s.a],0):=by unfold kL;rw[Xc d,Xc h]
def p_seg(p:Pt)(s:Sg)(tol:Int)(g:zm p)(e:zm s.a/\zm s.b/\zm s.c):CX 246 [wk p,.agg (sgE s),i64 tol] (zrS (kL p s tol)):=by
 refine zc func246<|Br.mk (λd=>?_) (λd=>?_)
 .have d:s.v=3:=d;refine wg (zGu p s.a s.b tol g e.1 e.2.1) ?_;rw[zrU d];exact .refl
 have d:¬s.v=3:=d;refine⟨λf:s.v=4=>?_,λf:¬s.v=4=>?_⟩
 .refine wg (zGw p s.a s.b s.c tol g e.1 e.2.1 e.2.2) ?_;rw[zrV d f];exact .refl
 refine⟨Pt,ptE,[s.a],rfl,wb0 ?_⟩;exact ziz (zrW d f)
def r_seg(p:Pt)(s:Sg)(tol:Int):CX 287 [wk p,.agg (sgE s),i64 tol] (zrS (kL p s tol)):=by
 refine zc func287<|Br.mk (λd=>?_) (λd=>?_)
 .have d:s.v=3:=d;refine wg (zGv p s.a s.b tol) ?_;rw[zrU d];exact .refl
 have d:¬s.v=3:=d;refine⟨λe:s.v=4=>?_,λe:¬s.v=4=>?_⟩
 .refine wg (zGx p s.a s.b s.c tol) ?_;rw[zrV d e];exact .refl
 refine⟨Pt,ptE,[s.a],rfl,wb0 ?_⟩;exact ziz (zrW d e)
end
end Go.Gs
