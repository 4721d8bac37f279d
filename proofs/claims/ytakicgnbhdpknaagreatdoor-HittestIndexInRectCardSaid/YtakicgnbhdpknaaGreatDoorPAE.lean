/- Addresses, parts, new slices: what is left to be shown is enough. -/
import Derived.Test.YtakicgnbhdpknaaGreatDoorPAD
set_option maxRecDepth 100000
set_option maxHeartbeats 8000000
set_option linter.all false
namespace Go.Gs
def zuR{l:LM}{n:Nat}:zqi l n=l[n]? :=by
 induction l generalizing n with
 |nil=>rfl
 |cons x r a=>cases n with
  |zero=>rfl
  |succ n=>simp[zqi,a]
variable{P:Program}{f:Nat}{off:Nat}
def zqx{t:TypeId}{fs:LM}(h:zf1 P t (.struct fs)){ft:TypeId}(a:zqi fs f=some (off,ft)):
  ∃(F:Array Field) (fl:Field),P.underlying t=some (.struct F)/\F[f]?=some fl/\fl.offset=off/\fl.type=ft:=by
 obtain⟨F,hF,c,_⟩:=h;rw[zuR,←c,XD]at a
 cases b:F.toList[f]? with
 |none=>simp[b]at a
 |some fl=>
  simp only[b,Qo,Jy,KJ]at a;exact⟨F,fl,hF,by simpa using b,a.1,a.2⟩
variable{H:LS}{x:Operand}{lm:LJ}{Y:Nat}{K:LD}
def zjC(hT:TOK P H){t:TypeId}{s:SV}(h:zfW H t f s K):∃r,K r .none/\yU P (.fieldAddr t x f) [s] lm Y r .none:=by
 unfold zfW at h;replace h:=zE h;obtain⟨i,hi,h⟩:=h;have B:=(hT t i hi).kind
 split at h
 .rename_i fs u;rw[u]at B
  split at h
  .rename_i off ft C;replace h:=zE h;obtain⟨j,l,h⟩:=h;replace h:=zj h;obtain⟨A,h⟩:=h;obtain⟨F,fl,hF,q,hoff,v⟩:=zqx B C;have z:∀w,(sizeOf fl.type).run P w=.ok j.sz w:=λw=>by rw[v];exact(hT ft j l).size w
   have A:¬j.sz=0:=by
    have:=Xz A;omega
   have run:∀{o:Oper} (_:o.op=.fieldAddr t x f) {a:Act} {w:World} {b o':Nat},a.eval x=.pointer (some ⟨b,o',none⟩)->
     (execOp a.eval o).run P w=.ok (.value (.pointer (some ⟨b,o'+off,none⟩))) w:=by
    intro o g a w b o' k;simp[execOp,g,k,Instr.fieldAt,Instr.sureAddr,run_underlying hF,q,fieldPlace,z,A,ye,hoff]
   split at h
   .exact⟨_,h,.pure λo g S Pm O a w e=>by
     obtain⟨b,hρ,k⟩:=(Gs.head e).loc_inv
     exact⟨_,run g k,.loc _ _ b hρ⟩⟩
   .refine⟨_,h,.pure λo g S Pm O a w e=>?_⟩;obtain⟨b,o',c,k,m,hP,n,p⟩:=(Gs.head e).ptr_inv;refine⟨_,run g k,.ptr _ b (o'+off) (λj=>c (off+j)) m hP (λj l=>?_) (λj s y=>p _ s (by simpa using y))⟩;have:=n (off+j) (by simp at l;omega)
    rwa [←KH]at this
   .refine⟨_,h,.pure λo g S Pm O a w e=>?_⟩;obtain⟨b,o',c,k,m,hP,n,p⟩:=(Gs.head e).dptr_inv;refine⟨_,run g k,.d _ _ (.dptr _ b (o'+off) (λj=>c (off+j)) m hP (λj l=>?_) (λj s y=>p _ s (by simpa using y)))⟩;have:=n (off+j) (by simp at l;omega)
    rwa [←KH]at this
   .exact⟨_,h,.pure λo g S Pm O a w e=>by
     obtain⟨b,len,cap,hρ,k⟩:=(Gs.head e).eloc_inv;refine⟨_,run g k,?_⟩;rw[KH]
     exact .eloc _ _ _ _ b len cap hρ⟩
   exact h.elim
  exact h.elim
 exact h.elim
variable{S:LI}{O:zh}
def zqy{t:TypeId}{i:TI}(hT:zjB P t i){Pm:LI}{w:World}{b:LR}{vs:LA}(d:Gs S Pm O w b vs){s:SV}(j:(i.kind.agg=true/\s=.agg ((b.drop off).take i.sz))∨(i.kind.agg=false/\∃r,b.drop off=s::r)):
  ∃v,(part t vs.toArray off).run P w=.ok v w/\G S Pm O w s v:=by
 unfold part;rw[Sem.run_bind,hT.agg w,Result.andThen_ok]
 obtain⟨c,rfl⟩|⟨c,r,h⟩:=j
 .have a:=(d.drop off).take i.sz;exact⟨.agg ((vs.drop off).take i.sz).toArray,by simp[c,hT.size],.agg _ _ a.1 a.2⟩
 have a:=d.drop off;rw[h]at a;obtain⟨v,l,k,e,_⟩:=a.cons_inv
 have g:vs[off]?=some v:=by
  have:(vs.drop off)[0]?=some v:=by rw[k];rfl
  simpa using this
 exact⟨v,by simp[c,g],e⟩
def zqz(hT:TOK P H){t:TypeId}{s:SV}(h:k7 H t λi=>(match i.kind,s with
  |.struct fs,.agg b=>(match zqi fs f with
   |some (off,ft)=>k7 H ft λj=>zR (Nat.ble (off+j.sz) b.length) (mkV j.kind.agg j.sz (b.drop off) λs=>K s .none)
   |none=>False)
  |_,_=>False)):∃r,K r .none/\yU P (.field t x f) [s] lm Y r .none:=by
 replace h:=zE h;obtain⟨i,hi,h⟩:=h;have l:=(hT t i hi).kind
 split at h
 .rename_i fs b d;rw[d]at l
  split at h
  .rename_i off ft q;replace h:=zE h;obtain⟨j,p,h⟩:=h;replace h:=(zj h).2;replace h:=vv h;obtain⟨r,hK,h⟩:=h;obtain⟨F,fl,hF,c,hoff,e⟩:=zqx l q;refine⟨r,hK,.pure λo u S Pm O a w g=>?_⟩;obtain⟨vs,y,k⟩:=(Gs.head g).agg_inv;obtain⟨v,m,n⟩:=zqy (hT ft j p) k h;exact⟨v,by simp[execOp,u,y,Instr.field,run_underlying hF,c,asAgg,hoff,e,m],n⟩
  exact h.elim
 exact h.elim
def zqA(hT:TOK P H){t:TypeId}{y:Operand}{s n:SV}(h:zte H t s n K):∃r,K r .none/\yU P (.index t x y) [s,n] lm Y r .none:=by
 unfold zte at h;replace h:=zE h;obtain⟨i,hi,h⟩:=h;have g:=(hT t i hi).kind
 split at h
 .rename_i len e E k n hkind;rw[hkind]at g;replace h:=zE h;obtain⟨j,B,h⟩:=h
  split at h
  .rename_i m;replace h:=zj h;obtain⟨c,h⟩:=h;replace h:=(zj h).2;replace h:=vv h;obtain⟨r,hK,h⟩:=h;have c:m<len:=Xz c;refine⟨r,hK,.pure λo l S Pm O a w b=>?_⟩;obtain⟨vs,q,p⟩:=(Gs.head b).agg_inv;have u:=(Gs.head (Gs.tail b)).val_inv;obtain⟨v,z,D⟩:=zqy (hT e j B) p h;exact⟨v,by simp[execOp,l,q,u,Instr.index,asIntOf,run_underlying g,c,(hT e j B).size,z],D⟩
  exact h.elim
 .rename_i s k n hkind;rw[hkind]at g;obtain⟨⟨C,z⟩,h⟩:=h;have A:s[n.toNat]?=some (s[n.toNat]'oM):=getElem?_pos s n.toNat oM;refine⟨_,h _ A,.pure λo l S Pm O a w b=>?_⟩;have q:=b.head.val_inv;have u:=b.tail.head.val_inv;have g:P.underlying t=some .string:=g;refine⟨_,?_,.d _ _ (.val _)⟩;simp only[execOp,l,q,u,Instr.index,asIntOf,Sem.run_bind,Sem.run_pure,Result.andThen_ok,run_underlying g,C,if_true,A]
 exact h.elim
def zjD(hT:TOK P H){t:TypeId}{y:Operand}{s n:SV}(h:zfX H t s n lm K):∃r,K r .none/\yU P (.indexAddr t x y) [s,n] lm Y r .none:=by
 unfold zfX at h;replace h:=zE h;obtain⟨i,hi,h⟩:=h;have V:=(hT t i hi).kind
 split at h
 .rename_i k n
  split at h
  .rename_i e hkind;rw[hkind]at V;replace h:=zE h;obtain⟨j,hj,h⟩:=h;have L:=(hT e j hj).size
   have run:∀{o:Oper} (_:o.op=.indexAddr t x y) {a:Act} {w:World} {b off len cap:Nat},a.eval x=.slice (some ⟨b,off,none⟩) len cap->a.eval y=.int k n->0<=n->n<len->
     (execOp a.eval o).run P w=.ok (.value (.pointer (some ⟨b,off+n.toNat*j.sz,none⟩))) w:=by
    intro o u a w b off len cap A E I F;simp[execOp,u,A,E,Instr.indexAt,asIntOf,run_underlying V,I,F,L,ye]
   split at h
   .rename_i α enc xs;obtain⟨I,F⟩:=h.ob;have B:n.toNat<xs.length:=oM;have A:=Xb B;have h:=h.go _ A;replace h:=zj h;obtain⟨hl,h⟩:=h;have hl:=Xk hl;refine⟨_,h,.read λo u Keep M O a w _ _ p=>?_⟩;have E:=(Gs.head (Gs.tail p)).val_inv
    rcases(Gs.head p).sl_inv.sl_inv with⟨rfl,_⟩|⟨sz,b,off,cap,c,D,N,hS,_,_,hesz,Q,R⟩
    .simp at B
    have z:sz=j.sz:=by rw[←hl];exact(hesz _ (Xf A)).symm
    subst z;refine⟨_,run u D E I F,?_⟩;refine .ptr _ b _ (λj=>c n.toNat j) N ?_ (λq X=>?_) (λq s z=>R _ q _ s A z)
    .exact λu=>hS (.inr u)
    have:=Q n.toNat q B oM;exact this
   .rename_i U
    split at h
    .rename_i T α enc sz xs J;replace h:=zj h;obtain⟨z,h⟩:=h;have z:=Xk z;subst z;obtain⟨I,F⟩:=h.ob;refine⟨_,h.go,.read λo u Keep M O a w G W p=>?_⟩;have E:=(Gs.head (Gs.tail p)).val_inv;obtain⟨hρ',_⟩:=(Gs.head p).own_inv;obtain⟨v,cells,hρ,C,_⟩:=W.rel U _ (G U _ J);have D:a.eval x=v:=by rw[hρ]at hρ';exact(Xl hρ').symm
     obtain⟨_,h3⟩|⟨g,cap,Z,rfl,_⟩:=C.2
     .omega
     refine⟨_,run u D E I F,?_⟩;rw[show 0+n.toNat*j.sz=n.toNat*j.sz+0 by omega];exact .eloc _ _ _ _ g _ _ hρ
    .rename_i T sz xs J;replace h:=zj h;obtain⟨z,h⟩:=h;have z:=Xk z;subst z;obtain⟨I,F⟩:=h.ob;refine⟨_,h.go,.read λo u Keep M O a w G W p=>?_⟩;have E:=(Gs.head (Gs.tail p)).val_inv;obtain⟨hρ',_⟩:=(Gs.head p).own_inv;obtain⟨v,cells,hρ,C,_⟩:=W.rel U _ (G U _ J);have D:a.eval x=v:=by rw[hρ]at hρ';exact(Xl hρ').symm
     obtain⟨_,h3⟩|⟨g,cap,Z,rfl,_⟩:=C.2
     .omega
     refine⟨_,run u D E I F,?_⟩;rw[show 0+n.toNat*j.sz=n.toNat*j.sz+0 by omega];exact .eloc _ _ _ _ g _ _ hρ
    exact h.elim
   .rename_i U sz lo l;replace h:=zj h;obtain⟨z,h⟩:=h;have z:=Xk z;subst z;obtain⟨I,F,h2⟩:=h.ob;refine⟨_,h.go,.read λo u Keep M O a w G W p=>?_⟩;have E:=(Gs.head (Gs.tail p)).val_inv;obtain⟨b,len,cap,cap',hρ,A,_,_⟩:=(Gs.head p).win_inv;refine⟨_,run u A E F oM,?_⟩
    have e:lo.toNat*j.sz+n.toNat*j.sz=(lo+n).toNat*j.sz+0:=by
     rw[←Ka,XW];congr 1;omega
    rw[e];exact .eloc _ _ _ _ b _ _ hρ
   exact h.elim
  .rename_i len e hkind;rw[hkind]at V;replace h:=zE h;obtain⟨j,hj,h⟩:=h;have L:=(hT e j hj).size
   split at h
   .rename_i m;replace h:=zj h;obtain⟨B,h⟩:=h;have B:m<len:=Xz B
    have run:∀{o:Oper} (_:o.op=.indexAddr t x y) {a:Act} {w:World} {b off:Nat},a.eval x=.pointer (some ⟨b,off,none⟩)->a.eval y=.int k (Int.ofNat m)->
      (execOp a.eval o).run P w=.ok (.value (.pointer (some ⟨b,off+m*j.sz,none⟩))) w:=by
     intro o u a w b off A E;simp[execOp,u,A,E,Instr.indexAt,Instr.sureAddr,asIntOf,run_underlying V,B,L,ye]
    split at h
    .exact⟨_,h,.pure λo u S Pm O a w p=>by
      obtain⟨b,hρ,A⟩:=(Gs.head p).loc_inv
      exact⟨_,run u A (Gs.head (Gs.tail p)).val_inv,.loc _ _ b hρ⟩⟩
    .refine⟨_,h,.pure λo u S Pm O a w p=>?_⟩;obtain⟨b,o',c,A,N,hP,Q,R⟩:=(Gs.head p).ptr_inv;refine⟨_,run u A (Gs.head (Gs.tail p)).val_inv,.ptr _ b _ (λq=>c (m*j.sz+q)) N hP (λq X=>?_) (λq s z=>R _ s (by simpa using z))⟩;have:=Q (m*j.sz+q) (by simp at X;omega)
     rwa [←KH]at this
    .refine⟨_,h,.pure λo u S Pm O a w p=>?_⟩;obtain⟨b,o',c,A,N,hP,Q,R⟩:=(Gs.head p).dptr_inv;refine⟨_,run u A (Gs.head (Gs.tail p)).val_inv,.d _ _ (.dptr _ b _ (λq=>c (m*j.sz+q)) N hP (λq X=>?_) (λq s z=>R _ s (by simpa using z)))⟩;have:=Q (m*j.sz+q) (by simp at X;omega)
     rwa [←KH]at this
    .exact⟨_,h,.pure λo u S Pm O a w p=>by
      obtain⟨b,len,cap,hρ,A⟩:=(Gs.head p).eloc_inv;refine⟨_,run u A (Gs.head (Gs.tail p)).val_inv,?_⟩;rw[KH]
      exact .eloc _ _ _ _ b len cap hρ⟩
    exact h.elim
   exact h.elim
  exact h.elim
 exact h.elim
def kJ{o:Option Operand}{l:LR}{d:Int}{K:Int->LR->Prop}(h:jE o l d K):
  ∃n r,K n r/\∀{S Pm:LI} {O:zh} {w:World} (ev:Operand->Value) (rest:LA),Gs S Pm O w l ((uG o).map ev++rest)->
   Gs S Pm O w r rest/\((o=none/\n=d)∨∃x k,o=some x/\ev x=.int k n):=by
 unfold jE at h
 split at h
 .exact⟨_,_,h,λev rest a=>⟨by simpa[uG] using a,.inl ⟨rfl,rfl⟩⟩⟩
 rename_i x
 split at h
 .rename_i k n r;refine⟨_,_,h,λev rest a=>?_⟩;have a:Gs _ _ _ _ _ (ev x::rest):=a;exact⟨a.tail,.inr ⟨x,k,rfl,a.head.val_inv⟩⟩
 exact h.elim
def ud{P:Program}{w:World}{len cap:Nat}{lo hi mx:Option Operand}{ev:Operand->Value}{l h m:Int}(e:zyN hi mx=true)(a:(lo=none/\l=0)∨∃x k,lo=some x/\ev x=.int k l)(b:(hi=none/\h=len)∨∃x k,hi=some x/\ev x=.int k h)(d:(mx=none/\m=len)∨∃x k,mx=some x/\ev x=.int k m)(c:0<=l)(j:l<=h)(n:h<=m)(o:m<=len)(p:len<=cap):
  ∃q:Nat,(Instr.sliceBounds true len cap (lo.map ev) (hi.map ev) (mx.map ev)).run P w=.ok (l.toNat,h.toNat,q) w/\h.toNat<=q/\q<=cap/\(zca mx=true->q=cap)/\(zca mx=false->q=m.toNat):=by
 have g:(h.toNat:Int)=h:=Qx oM;have i:(m.toNat:Int)=m:=Qx oM
 obtain⟨rfl,rfl⟩|⟨xm,km,rfl,em⟩:=d
 .obtain⟨rfl,rfl⟩|⟨xh,kh,rfl,eh⟩:=b
  .obtain⟨rfl,rfl⟩|⟨xl,kl,rfl,el⟩:=a
   .exact⟨cap,by simp[Instr.sliceBounds],by simp;omega,Xj _,λ_=>rfl,λh=>by cases h⟩
   refine⟨cap,?_,by simp;omega,Xj _,λ_=>rfl,λh=>by cases h⟩;simp[Instr.sliceBounds,el,run_sliceBound w kl l len _ c oM]
  obtain⟨rfl,rfl⟩|⟨xl,kl,rfl,el⟩:=a
  .refine⟨cap,?_,oM,Xj _,λ_=>rfl,λh=>by cases h⟩;simp[Instr.sliceBounds,eh,run_sliceBound w kh h cap _ oM oM]
  refine⟨cap,?_,oM,Xj _,λ_=>rfl,λh=>by cases h⟩;simp[Instr.sliceBounds,el,eh,run_sliceBound w kh h cap _ oM oM,run_sliceBound w kl l h.toNat _ c oM]
 obtain⟨rfl,rfl⟩|⟨xh,kh,rfl,eh⟩:=b
 .simp[zyN]at e
 obtain⟨rfl,rfl⟩|⟨xl,kl,rfl,el⟩:=a
 .refine⟨m.toNat,?_,oM,oM,λh=>(by cases h),λ_=>rfl⟩;simp[Instr.sliceBounds,eh,em,run_sliceBound w km m cap _ oM oM,run_sliceBound w kh h m.toNat _ oM oM]
 refine⟨m.toNat,?_,oM,oM,λh=>(by cases h),λ_=>rfl⟩;simp[Instr.sliceBounds,el,eh,em,run_sliceBound w km m cap _ oM oM,run_sliceBound w kh h m.toNat _ oM oM,run_sliceBound w kl l h.toNat _ c oM]
variable{α:Type}{xs:List α}{sz:Nat}
def zEU{w:World}{enc:α->LR}{a:Option Addr}{len cap:Nat}(E:D S w (.sl enc xs) (.slice a len cap))(r:∀x∈xs,(enc x).length=sz){l h:Nat}(J:l<=h)(G:h<=xs.length){q:Nat}(R:h<=q)(L:q<=cap):
  D S w (.sl enc ((xs.drop l).take (h-l))) (sliced a l h q sz):=by
 have e:((xs.drop l).take (h-l)).length=h-l:=by simp;omega
 have g:∀x∈(xs.drop l).take (h-l),x∈xs:=λx d=>K2 (XO d)
 obtain⟨rfl,a,t⟩|⟨k,b,o,cap',c,t,y,hS,hl48,z,hesz,C,F⟩:=E.sl_inv
 .cases t
  have:h=0:=by simpa using G
  subst this;have:l=0:=oM;subst this;have:q=0:=oM;subst this;exact .nil enc _
 cases t
 have m:∀i x,((xs.drop l).take (h-l))[i]?=some x->xs[l+i]?=some x/\i<h-l:=by
  intro i x d;rw[XK]at d
  split at d
  .exact⟨by simpa using d,by assumption⟩
  cases d
 have A:0<h-l->k=sz:=λQ=>by
  have B:=Xb (show l<xs.length by omega);have u:=Xf B;rw[←hesz _ u,←r _ u]
 unfold sliced
 by_cases n:q=l
 .rw[Xe n];have N:h-l=0:=oM
  have:=D.sl (S:=S) (w:=w) enc ((xs.drop l).take (h-l)) k b o (q-l) c y hS oM oM (λx d=>hesz x (g x d)) (λi j hi=>by omega) (λi j x s d=>by
   have:=(m i x d).2;omega)
  rwa [e]at this
 rw[Xc n];simp only[Qo,ye]
 have:=D.sl (S:=S) (w:=w) enc ((xs.drop l).take (h-l)) k b (o+l*sz) (q-l) (λi j=>c (l+i) j) y hS oM oM (λx d=>hesz x (g x d)) (λi j hi I=>by
  have v:=C (l+i) j oM I;rw[Ka,A oM]at v;rw[A oM,show o+l*sz+i*sz+j=o+(l*sz+i*sz)+j by omega]
  exact v) (λi j x s d p=>F (l+i) j x s (m i x d).1 p)
 rwa [e]at this
variable{Keep:LI}{M:LT}
def zgC{w:World}(p:zJ Keep M O w){k:Nat}{T:TypeId}{enc:α->LR}(n:(k,Mem.arr T enc sz xs)∈M)(hS:∀b,S b->Keep b∨Own M O b)(hSk:∀v b,O k=some v->qf v=some b->¬S b){v:Value}(l:O k=some v):D S w (.sl enc xs) v:=by
 obtain⟨I,cells,hρ,c,o,hone,hesz,a⟩:=p.rel k _ n;rw[l]at hρ;cases hρ
 obtain⟨rfl,r⟩|⟨g,cap,q,rfl,_,hheap,e,A,B,htake⟩:=c.2
 .have:xs=[]:=Xp r;subst this;exact .nil enc _
 have z:=c.1
 have y:∀i j,i<xs.length->j<sz->∃u,cells[i*sz+j]?=some u:=λi j hi m=>by
  have G:i*sz+sz<=xs.length*sz:=by
   have:=Xv sz (X6 hi);rw[X7]at this;exact this
  exact⟨_,Xb (show i*sz+j<cells.length by omega)⟩
 refine .sl enc xs sz g 0 cap (λi j=>(cells[i*sz+j]?).getD undef) (p.old g ⟨k,_,_,n,l,rfl⟩).1 (hSk _ g l rfl) oM e hesz ?_ ?_
 .intro i j hi m;obtain⟨u,d⟩:=y i j hi m;rw[d];refine⟨?_,hone u (Xf d)⟩;have:=zbo hheap htake d
  simpa[X8] using this
 intro i j x s F E;obtain⟨u,d,C⟩:=a i j x s F E;rw[d];exact C.mono (Xj _) λb _ t=>⟨λh=>t (hS b h),rfl⟩
variable{lo:Option Operand}{hi:Option Operand}
def zks{o:Oper}{a:Act}{w:World}(z:zJ Keep M O w){k:Nat}{m r:Mem}(i:(k,m)∈M){v:Value}(Q:O k=some v){T:TypeId}{n:Nat}{cells:LA}(j:w.ownsRow 0 T sz v n cells)(hκ:O Y=none)(hκM:∀m,(Y,m)∉M){h:Int}(y:(lo=none/\(0:Int)=0)∨∃x k,lo=some x/\a.eval x=.int k 0)(u:(hi=none/\h=n)∨∃x k,hi=some x/\a.eval x=.int k h)(h1:0<=h)(h2:h<=n)(run:∀(ad:Option Addr) (cap q:Nat),v=.slice ad n cap->(Instr.sliceBounds true n cap (lo.map a.eval) (hi.map a.eval) ((none:Option Operand).map a.eval)).run P w=.ok ((0:Int).toNat,h.toNat,q) w->
   (execOp a.eval o).run P w=.ok (.value (sliced ad (0:Int).toNat h.toNat q sz)) w)(hrel:∀c,w.ownsRow 0 T sz c h.toNat (cells.take (h.toNat*sz))->upd O Y c Y=some c->Stp (Own M O) (Own ((Y,r)::qb M k) (upd O Y c)) O (upd O Y c) w w->
   jN (λb=>Keep b∨Own ((Y,r)::qb M k) (upd O Y c) b) (Own ((Y,r)::qb M k) (upd O Y c)) (upd O Y c) w Y r):
  qM P o a w (qc Keep M O w Y (.own Y) (.repl k r)):=by
 have fin:∀c:Value,(execOp a.eval o).run P w=.ok (.value c) w->w.ownsRow 0 T sz c h.toNat (cells.take (h.toNat*sz))->qf c=qf v->c.oneCell'=true->
   qM P o a w (qc Keep M O w Y (.own Y) (.repl k r)):=λc hr B s D=>by
  refine qM.value hr ?_
  have hgrow:=z.grow (M1:=qb M k) (λx hx=>qj x hx) (qP z.keys) hκ hκM c r w rfl rfl (.refl _) (Xj _) (λ_ _ _=>rfl) (λ_ _ _ _ _ _ _=>rfl)
   (λb l=>by
    rw[s]at l;have B:Own M O b:=⟨k,_,v,i,Q,l⟩
    exact⟨.inl B,(z.old b B).1,λR m v1 N V W=>z.apart R m k _ v1 v b (qj _ N) i (vu z.keys _ N) V Q W l⟩)
   (λhs=>hrel c B kG hs)
  exact⟨upd O Y c,hgrow.1,hgrow.2,.own _ _ kG D,λR d=>zf2 (by
   rcases d with d|d
   .omega
   simp only[zb5]at d;omega)⟩
 have t:=j.1;have hmul:h.toNat*sz<=n*sz:=Xv _ oM
 obtain⟨rfl,X⟩|⟨g,cap,C,rfl,U,hheap,J,F,G,htake⟩:=j.2
 .subst X;have I:h=0:=oM;subst I;obtain⟨q,s,Z,L,A,_⟩:=ud (P:=P) (w:=w) (len:=0) (cap:=0) (mx:=none) (m:=0) (ev:=a.eval) (by cases hi <;> rfl) y u (.inl ⟨rfl,rfl⟩) oM oM oM oM (Xj _);have p:q=0:=oM;subst p;have E:cells=[]:=Xp (by simpa using t);subst E;exact fin _ (run none 0 0 rfl s) (by simpa[sliced] using World.ownsRow_nil w 0 T sz) rfl rfl
 obtain⟨q,s,Z,L,A,_⟩:=ud (P:=P) (w:=w) (len:=n) (cap:=cap) (mx:=none) (m:=n) (ev:=a.eval) (by cases hi <;> rfl) y u (.inl ⟨rfl,rfl⟩) oM oM oM oM J;have p:q=cap:=A rfl;subst p
 have e:sliced (some ⟨g,0,none⟩) (0:Int).toNat h.toNat q sz=.slice (some ⟨g,0,none⟩) h.toNat q:=by
  unfold sliced;simp only[Int.toNat_zero,Jw,YT,Qo,ye,XW,ite_self]
 refine fin _ (run _ q q rfl s) ?_ (by rw[e];rfl) (by rw[e];rfl);rw[e];refine⟨by rw[Xo,t];omega,.inr ⟨g,q,C,rfl,U,hheap,oM,F,G,?_⟩⟩;rw[←htake,YI,Qn hmul]
def zqB(hT:TOK P H){t:TypeId}{mx:Option Operand}{svs:LR}(h:ztd H t lo hi mx svs lm Y K):∃r md,K r md/\yU P (.slice t x lo hi mx) svs lm Y r md:=by
 unfold ztd at h;replace h:=zj h;obtain⟨hok,h⟩:=h
 split at h
 .rename_i s rest;replace h:=zE h;obtain⟨i,hi',h⟩:=h;have hk:=(hT t i hi').kind
  split at h
  .rename_i e hkind;rw[hkind]at hk;have helem:P.elem t=e:=by have hk:P.underlying t=some (.slice e):=hk;simp[Program.elem,hk]
   have hk':P.underlying t=some (.slice (P.elem t)):=by rw[helem];exact hk
   replace h:=zE h;obtain⟨j,hj,h⟩:=h;have hsz:=(hT e j hj).size
   have run:∀{o:Oper} (_:o.op=.slice t x lo hi mx) {a:Act} {w:World} {ad:Option Addr} {len cap l h q:Nat},a.eval x=.slice ad len cap->
     (Instr.sliceBounds true len cap (lo.map a.eval) (hi.map a.eval) (mx.map a.eval)).run P w=.ok (l,h,q) w->(execOp a.eval o).run P w=.ok (.value (sliced ad l h q j.sz)) w:=by
    intro o C a w ad len cap l h q y E;simp[execOp,C,y,run_sliceAt_slice (h:=hk'),run_slice_any (ht:=hk'),E,helem,hsz]
   split at h
   .rename_i α enc xs
    split at h
    .rename_i hz;obtain⟨hz1,hz2⟩:=kr hz;obtain⟨l,r1,h,hl⟩:=kJ h;obtain⟨z,r2,h,B⟩:=kJ h;obtain⟨m,r3,h,G⟩:=kJ h;obtain⟨rfl,rfl,rfl⟩:=h.ob;refine⟨_,_,h.go,.pure λo C S Pm O a w c=>?_⟩;have c:Gs S Pm O w (SV.sl enc xs::rest) (a.eval x::((uG lo++(uG hi++uG mx)).map a.eval)):=c;simp only[XA]at c;obtain⟨V,R⟩:=hl a.eval _ c.tail;obtain⟨g2,U⟩:=B a.eval _ V;obtain⟨g3,e3⟩:=G a.eval [] (by simpa using g2);have hd:=c.head.sl_inv
     have key:∃ad cap,a.eval x=.slice ad xs.length cap/\xs.length<=cap:=by
      obtain⟨rfl,a0,F⟩|⟨_,b,o',cap,_,F,_,_,_,hc,_⟩:=hd.sl_inv
      .exact⟨a0,0,F,sI⟩
      exact⟨_,cap,F,hc⟩
     obtain⟨ad,cap,y,L⟩:=key;have n1:hi≠none:=λe=>by rw[e]at hz1;cases hz1
     have n2:mx≠none:=λe=>by rw[e]at hz2;cases hz2
     have n3:zca mx=false:=by cases mx with|none=>exact absurd rfl n2|some _=>rfl
     obtain⟨q,E,hq,X,_,hq2⟩:=ud (P:=P) (w:=w) (len:=xs.length) (cap:=cap) (l:=0) (h:=0) (m:=0) hok R (U.imp (λe=>absurd e.1 n1) id) (e3.imp (λe=>absurd e.1 n2) id) oM oM oM oM L;have hq0:q=0:=hq2 n3;subst hq0;exact⟨_,run C y E,.d _ _ (.nils _)⟩
    obtain⟨l,r1,h,hl⟩:=kJ h;obtain⟨z,r2,h,B⟩:=kJ h;obtain⟨m,r3,h,G⟩:=kJ h
    have main:∀{K':Prop},(0<=l/\l<=z/\z<=m/\m<=xs.length)->(∀x∈xs,(enc x).length=j.sz)->∀(o:Oper),o.op=.slice t x lo hi mx->∀(S Pm:LI) (O:zh) (a:Act) (w:World),Gs S Pm O w (SV.sl enc xs::rest) ((qi (.slice t x lo hi mx)).map a.eval)->
      ∃v,(execOp a.eval o).run P w=.ok (.value v) w/\D S w (.sl enc ((xs.drop l.toNat).take (z-l).toNat)) v/\(zca mx=false->z=m->∃ad,v=.slice ad ((xs.drop l.toNat).take (z-l).toNat).length ((xs.drop l.toNat).take (z-l).toNat).length):=?main
    split at h
    .obtain⟨hbd,W⟩:=h.ob;refine⟨_,_,h.go,.pure λo C S Pm O a w c=>?_⟩;obtain⟨v,r1,r2,_⟩:=main (K':=True) hbd W o C S Pm O a w c;exact⟨v,r1,.d _ _ r2⟩
    .rename_i hnm
     rcases h with h|h
     .obtain⟨hbd,W⟩:=h.ob;refine⟨_,_,h.go,.pure λo C S Pm O a w c=>?_⟩;obtain⟨v,r1,r2,_⟩:=main (K':=True) hbd W o C S Pm O a w c;exact⟨v,r1,.d _ _ r2⟩
     obtain⟨⟨h0,Z,h2,h3⟩,W⟩:=h.ob;refine⟨_,_,h.go,.pure λo C S Pm O a w c=>?_⟩;obtain⟨v,r1,r2,r3⟩:=main (K':=True) ⟨h0,Z,oM,h3⟩ W o C S Pm O a w c;obtain⟨ad,rfl⟩:=r3 hnm h2;exact⟨_,r1,.d _ _ (.full _ _ ad r2)⟩
    intro K' ⟨h0,Z,h2,h3⟩ W o C S Pm O a w c;have c:Gs S Pm O w (SV.sl enc xs::rest) (a.eval x::((uG lo++(uG hi++uG mx)).map a.eval)):=c;simp only[XA]at c;obtain⟨V,R⟩:=hl a.eval _ c.tail;obtain⟨g2,U⟩:=B a.eval _ V;obtain⟨g3,e3⟩:=G a.eval [] (by simpa using g2);have hd:=c.head.sl_inv
    have key:∃ad cap,a.eval x=.slice ad xs.length cap/\xs.length<=cap:=by
     obtain⟨rfl,a0,F⟩|⟨_,b,o',cap,_,F,_,_,_,hc,_⟩:=hd.sl_inv
     .exact⟨a0,0,F,sI⟩
     exact⟨_,cap,F,hc⟩
    obtain⟨ad,cap,y,L⟩:=key;obtain⟨q,E,hq,X,_,hq2⟩:=ud (P:=P) (w:=w) (len:=xs.length) (cap:=cap) hok R U e3 h0 Z h2 h3 L;refine⟨_,run C y E,?_,λhnm heq=>?_⟩
    .rw[y]at hd;have:=zEU hd W (l:=l.toNat) (h:=z.toNat) oM oM hq X
     rwa [show z.toNat-l.toNat=(z-l).toNat by omega]at this
    have hq3:q=z.toNat:=by rw[hq2 hnm,heq]
    have hln:((xs.drop l.toNat).take (z-l).toNat).length=z.toNat-l.toNat:=by simp;omega
    unfold sliced;rw[hln,hq3]
    split
    .rename_i he;have:z.toNat-l.toNat=0:=oM;rw[this];exact⟨_,rfl⟩
    exact⟨_,rfl⟩
   .obtain⟨l,r1,h,hl⟩:=kJ h;obtain⟨z,r2,h,B⟩:=kJ h;obtain⟨m,r3,h,G⟩:=kJ h;obtain⟨rfl,rfl,rfl⟩:=h.ob;refine⟨_,_,h.go,.pure λo C S Pm O a w c=>?_⟩;have c:Gs S Pm O w (SV.val (.slice none 0 0)::rest) (a.eval x::((uG lo++(uG hi++uG mx)).map a.eval)):=c;simp only[XA]at c;obtain⟨V,R⟩:=hl a.eval _ c.tail;obtain⟨g2,U⟩:=B a.eval _ V;obtain⟨g3,e3⟩:=G a.eval [] (by simpa using g2)
    obtain⟨q,E,hq,X,_⟩:=ud (P:=P) (w:=w) (len:=0) (cap:=0) (l:=0) (h:=0) (m:=0) hok R U e3 oM oM oM oM (Xj _);have hq0:q=0:=oM;subst hq0;exact⟨_,run C c.head.val_inv E,.d _ _ (.val _)⟩
   .rename_i k
    split at h
    .rename_i T α enc sz xs hlk;replace h:=zj h;obtain⟨Q,h⟩:=h;have Q:=Xk Q;subst Q;obtain⟨l,r1,h,hl⟩:=kJ h;obtain⟨z,r2,h,B⟩:=kJ h;obtain⟨m,r3,h,G⟩:=kJ h
     rcases h with hsee|hkeep|hwin
     rotate_left
     .obtain⟨hnone,hkp⟩:=zj hkeep;have hmx:mx=none:=by cases mx with|none=>rfl|some _=>cases hnone
      subst hmx;obtain⟨ho1,hgo⟩:=hkp;obtain⟨rfl,Z,h2⟩:=ho1;refine⟨_,_,hgo,λo C Keep M O a w N J hκ hκM c=>?_⟩;replace hκ:=hκ _ (Xj _) (X5 _);replace hκM:=hκM rfl;have p:=zA (N k _ hlk);have c:Gs (λb=>Keep b∨Own M O b) (Own M O) O w (SV.own k::rest) (a.eval x::((uG lo++(uG hi++uG none)).map a.eval)):=c;simp only[XA]at c;obtain⟨V,R⟩:=hl a.eval _ c.tail;obtain⟨g2,U⟩:=B a.eval _ V;obtain⟨F,_⟩:=c.head.own_inv
      obtain⟨v',cells,hρ,I,hlen,hone,hesz,A⟩:=J.rel k _ p;rw[F]at hρ;cases hρ
      refine zks J p F I hκ hκM R U Z h2 (λad cap q y E=>run C y E) (λv' hown' hρ' Q=>⟨v',cells.take (z.toNat*j.sz),hρ',?_,by simp;omega,λu hu=>hone u (XO hu),λx y=>hesz x (XO y),λi' j' x s y hs'=>?_⟩)
      .simpa[Qn (show z.toNat<=xs.length by omega)] using hown'
      rw[XK]at y
      split at y
      .rename_i hi';obtain⟨u,hu,hd⟩:=A i' j' x s y hs';refine⟨u,?_,hd.stp Q⟩
       have hj':j'<j.sz:=by
        have:=(Xd.1 hs').1;rw[hesz x (Xf y)]at this;exact this
       have:=Xv j.sz (X6 hi');rw[X7]at this;rw[XK,Xe oM];exact hu
      cases y
     .obtain⟨h0,Z,h2,h3⟩:=hwin.ob;refine⟨_,_,hwin.go,λo C Keep M O a w N J _ _ c=>?_⟩;have p:=zA (N k _ hlk);have c:Gs (λb=>Keep b∨Own M O b) (Own M O) O w (SV.own k::rest) (a.eval x::((uG lo++(uG hi++uG mx)).map a.eval)):=c;simp only[XA]at c;obtain⟨V,R⟩:=hl a.eval _ c.tail;obtain⟨g2,U⟩:=B a.eval _ V;obtain⟨g3,e3⟩:=G a.eval [] (by simpa using g2);obtain⟨F,_⟩:=c.head.own_inv;obtain⟨v',cells,hρ,I,hlen,hone,hesz,A⟩:=J.rel k _ p;rw[F]at hρ;cases hρ
      obtain⟨_,h00⟩|⟨g,cap,cur,y,_,hheap,hnc,_⟩:=I.2
      .omega
      obtain⟨q,E,hq,X,_⟩:=ud (P:=P) (w:=w) (len:=xs.length) (cap:=cap) hok R U e3 h0 oM h2 h3 hnc;refine qM.value (run C y E) (qc.same J ?_);unfold sliced;rw[Xc oM];simp only[Qo,ye,X8];have hn:(z-l).toNat=z.toNat-l.toNat:=oM;rw[←hn];exact .win k j.sz l (z-l) g xs.length cap (q-l.toNat) (y ▸ F) oM oM
     obtain⟨h0,Z,h2,h3⟩:=hsee.ob;refine⟨_,_,hsee.go,λo C Keep M O a w N J _ _ c=>?_⟩;have p:=zA (N k _ hlk);have c:Gs (λb=>Keep b∨Own M O b) (Own M O) O w (SV.own k::rest) (a.eval x::((uG lo++(uG hi++uG mx)).map a.eval)):=c;simp only[XA]at c;obtain⟨V,R⟩:=hl a.eval _ c.tail;obtain⟨g2,U⟩:=B a.eval _ V;obtain⟨g3,e3⟩:=G a.eval [] (by simpa using g2);obtain⟨F,_⟩:=c.head.own_inv;obtain⟨Q,hmo⟩:=J.let_go (M1:=qb M k) (λx y=>qj x y) (qP J.keys)
     have hd:D (λb=>Keep b∨Own (qb M k) O b) w (.sl enc xs) (a.eval x):=zgC J p
      (λb E=>E.imp id λ⟨k',m',v',Z,h2,h3⟩=>⟨k',m',v',qj _ Z,h2,h3⟩)
      (λv b hv' E hSb=>by
       rcases hSb with hSb|⟨k',m',v',h4,h5,h6⟩
       .exact(J.old b ⟨k,_,v,p,hv',E⟩).2 hSb
       exact J.apart k _ k' m' v v' b p (qj _ h4) (Ne.symm (vu J.keys _ h4)) hv' h5 E h6) F
     obtain⟨v',cells,hρ,I,hlen,hone,hesz,A⟩:=J.rel k _ p
     have key:∃ad cap,a.eval x=.slice ad xs.length cap/\xs.length<=cap:=by
      obtain⟨rfl,a0,F⟩|⟨_,b,o',cap,_,F,_,_,_,hc,_⟩:=hd.sl_inv
      .exact⟨a0,0,F,sI⟩
      exact⟨_,cap,F,hc⟩
     obtain⟨ad,cap,y,L⟩:=key;obtain⟨q,E,hq,X,_⟩:=ud (P:=P) (w:=w) (len:=xs.length) (cap:=cap) hok R U e3 h0 Z h2 h3 L;refine qM.value (run C y E) ⟨O,Q,hmo,.d _ _ ?_,λ_ _=>rfl⟩;rw[y]at hd;have:=zEU hd hesz (l:=l.toNat) (h:=z.toNat) oM oM hq X
     rwa [show z.toNat-l.toNat=(z-l).toNat by omega]at this
    .rename_i T sz xs hlk;replace h:=zj h;obtain⟨Q,h⟩:=h;have Q:=Xk Q;subst Q;obtain⟨hnone,hkp⟩:=zj h;have hmx:mx=none:=by cases mx with|none=>rfl|some _=>cases hnone
     subst hmx;obtain⟨l,r1,hk1,hl⟩:=kJ hkp;obtain⟨z,r2,hk2,B⟩:=kJ hk1;obtain⟨ho1,hgo⟩:=hk2;obtain⟨rfl,Z,h2⟩:=ho1;refine⟨_,_,hgo,λo C Keep M O a w N J hκ hκM c=>?_⟩;replace hκ:=hκ _ (Xj _) (X5 _);replace hκM:=hκM rfl;have p:=zA (N k _ hlk);have c:Gs (λb=>Keep b∨Own M O b) (Own M O) O w (SV.own k::rest) (a.eval x::((uG lo++(uG hi++uG none)).map a.eval)):=c;simp only[XA]at c;obtain⟨V,R⟩:=hl a.eval _ c.tail;obtain⟨g2,U⟩:=B a.eval _ V
     obtain⟨F,_⟩:=c.head.own_inv;obtain⟨v',cells,hρ,I,hlen,hone,hesz,A⟩:=J.rel k _ p;rw[F]at hρ;cases hρ
     refine zks J p F I hκ hκM R U Z h2 (λad cap q y E=>run C y E) (λv' hown' hρ' Q=>⟨v',cells.take (z.toNat*j.sz),hρ',?_,by simp;omega,λu hu=>hone u (XO hu),λx y=>hesz x (XO y),λi' j' x s y hs'=>?_⟩)
     .simpa[Qn (show z.toNat<=xs.length by omega)] using hown'
     rw[XK]at y
     split at y
     .rename_i hi';obtain⟨u,hu,hd⟩:=A i' j' x s y hs';refine⟨u,?_,hd.stp Q⟩
      have hj':j'<j.sz:=by
       have:=(Xd.1 hs').1;rw[hesz x (Xf y)]at this;exact this
      have:=Xv j.sz (X6 hi');rw[X7]at this;rw[XK,Xe oM];exact hu
     cases y
    exact h.elim
   .rename_i k sz at0 n;replace h:=zj h;obtain⟨Q,h⟩:=h;have Q:=Xk Q;subst Q;obtain⟨l,r1,h,hl⟩:=kJ h;obtain⟨z,r2,h,B⟩:=kJ h;obtain⟨m,r3,h,G⟩:=kJ h;obtain⟨h0,Z,h2,h3,h4⟩:=h.ob;refine⟨_,_,h.go,λo C Keep M O a w N J _ _ c=>?_⟩;have c:Gs (λb=>Keep b∨Own M O b) (Own M O) O w (SV.win k j.sz at0 n::rest) (a.eval x::((uG lo++(uG hi++uG mx)).map a.eval)):=c;simp only[XA]at c;obtain⟨V,R⟩:=hl a.eval _ c.tail;obtain⟨g2,U⟩:=B a.eval _ V
    obtain⟨g3,e3⟩:=G a.eval [] (by simpa using g2);obtain⟨b,len,cap,cap',hρ,y,h5,h6⟩:=c.head.win_inv;have hn:n=(n.toNat:Int):=oM;obtain⟨q,E,hq,X,_⟩:=ud (P:=P) (w:=w) (len:=n.toNat) (cap:=cap') hok R (U.imp (λe=>⟨e.1,e.2.trans hn⟩) id) (e3.imp (λe=>⟨e.1,e.2.trans hn⟩) id) Z oM h3 oM h6;refine qM.value (run C y E) (qc.same J ?_);unfold sliced;rw[Xc oM];simp only[Qo,ye];have e7:at0.toNat*j.sz+l.toNat*j.sz=(at0+l).toNat*j.sz:=by rw[←Ka];congr 1;omega
    have e8:z.toNat-l.toNat=(z-l).toNat:=oM;rw[e7,e8];exact .win k j.sz (at0+l) (z-l) b len cap (q-l.toNat) hρ oM oM
   exact h.elim
  exact h.elim
 exact h.elim
end Go.Gs
