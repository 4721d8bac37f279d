/- Copies of nodes whose paths are rows of one's own. -/
import Derived.Test.YtdkomlilfdbahaaGreatDoorMBG
set_option maxRecDepth 100000
set_option maxHeartbeats 80000000
set_option linter.all false
namespace Go.Gs
open Proofs.Tryz
open Go.Proofs
abbrev ztv(q:LX):Mem:=.arr 62 sgE 7 q
def ndP(n:Nd)(pa:SV):LR:=
 i64 n.id::i64 n.k::i64 n.d::(afE n.t++(.sl sgE n.clip::i64 n.cr::u8 n.op::i64 n.mode::pr (n.iso=true)::pr (n.ko=true)::pa::i64 n.rule::.sl qD n.fill::
  (jb n.pen++(.sl qD n.strk::(zi9 n.im++[i64 n.smp])))))
def cl_SP(q:LX)(d:q.length<=1000):CG0 90 [.sl sgE q] [] (.own 0) [(0,ztv q)]:=by
 refine qf tok mix func90 rfl rfl rfl ?_
 by_cases c:q=[]
 rotate_left;refine zcn.some (λh=>c (Xq h)) ?_;rotate_left;refine zcn.any (Br.mk (by subst c;exact⟨none,.nil rfl,rfl⟩) ?_)
 all_goals
  refine⟨Sg,sgE,[],rfl,wb2 ?_⟩;exact⟨q,rfl,Ob.mk ⟨(by show _*(56:Int)<=_;simp only[Xo];omega),(by simp only[Xo];omega),dC,λ_ _=>rfl⟩ ⟨some 1,.own _ rfl,rfl,λ_ _=>rfl⟩⟩
def zC3(n:Nd)(h:ltN n):CG0 52 [.agg (ndP n (.own 0))] [(0,ztv n.path)] (ww n) [(0,ztv n.path)]:=by
 obtain⟨⟨o,q,s,u,g,v,w⟩,e⟩:=h;refine zmW 1 tok mix func52 rfl rfl rfl (λx k=>by rw[Xt.1 k];exact Nat.zero_lt_one) sI<|wg (zu1 n.t (g.up dC))<|wd<|wg (cl_S n.clip oM)<|zb.fresh _ _ (cl_SP n.path oM) rfl (λ_ _=>rfl) (.inr λ_ _=>rfl)<|wh ?_;refine wd<|wg (zfD n.fill oM λp c=>e p (Kz _ c))<|wg (zfD n.strk oM λp c=>e p (Kt _ c))<|wh<|wd ?_
 exact wg (cl_I n.pen.d oM)<|wg (cl_X n.im.px oM)<|wh<|⟨⟨rfl,tV⟩,.refl⟩
def zeU:LW->Nat->LN
 |[],_=>[]
 |n::r,k=>ndP n (.own k)::zeU r (k+1)
def zib:LW->Nat->LT
 |[],_=>[]
 |n::r,k=>(k,ztv n.path)::zib r (k+1)
def clM(l:LW):LT:=(0,.garr 60 47 (zeU l 1))::zib l 1
def idT:Nat->List (Nat×Option Nat)
 |0=>[]
 |n+1=>(n,some n)::idT n
def zky:∀(l:LW) (k:Nat) (x:Nat×Mem),x∈zib l k->k<=x.1/\x.1<k+l.length
 |n::r,k,x,h=>by
  rcases XA.1 h with rfl|h
  .exact⟨Xj _,by show k<k+(r.length+1);omega⟩
  have:=zky r (k+1) x h;rw[Xm];omega
def zqH:∀(l:LW) (k:Nat),(zib l k).length=l.length
 |[],_=>rfl
 |n::r,k=>by show(zib r (k+1)).length+1=_;rw[zqH r];rfl
def zC4:∀(l:LW) (k:Nat),(zib l k).Pairwise λa b=>a.1≠b.1
 |[],_=>.nil
 |n::r,k=>XT.2 ⟨λy c=>by have:=(zky r (k+1) y c).1;show k≠y.1;omega,zC4 r (k+1)⟩
def zC5(l:LW):∀x∈clM l,x.1<(clM l).length:=λx c=>by
 have e:(clM l).length=l.length+1:=by show(zib l 1).length+1=_;rw[zqH]
 rw[e]
 rcases XA.1 c with rfl|c
 .exact YZ _
 have:=zky l 1 x c;omega
def zGl(l:LW):(clM l).Pairwise λa b=>a.1≠b.1:=XT.2 ⟨λy c=>by have:=(zky l 1 y c).1;show 0≠y.1;omega,zC4 l 1⟩
def csM(s:Sc)(K i:Nat):LT:=(K+2,nArr (s.ns.take i))::(K+1,.box 26 (scO s (K+2)))::(K,.box 26 (vals [.int .i64 0,.int .i64 0,.int .u8 0,.int .u8 0,.int .u8 0,.int .u8 0,.slice none 0 0]))::clM s.ns
variable{l:LW}
def csN(_:∀n∈l,ltN n):Nat:=l.length
def csS(w h:Int)(bg:Pix)(_:∀n∈l,ltN n)(i:Nat):St:=⟨[(11,i64 i),(10,i64 (l.length:Nat)),(9,.own 0),(3,.loc (l.length+2) 0),(2,.loc (l.length+1) 0)],csM ⟨w,h,bg,l⟩ (l.length+1) i,l.length+4,24,l.length+1⟩
def csT(_:∀n∈l,ltN n)(b c:Nat)(a:LK):List (Nat×Option Nat):=(l.length+1,some b)::(l.length+2,some c)::(l.length+3,a)::idT (l.length+1)
variable{i:Nat}{m:Nat}
def csK(_:i<=m):LC:=[i+1]
def zy1(W H:Int)(bg:Pix)(l:LW)(q:l.length<=8)(k:∀n∈l,ltN n):CG0 24 [.agg (scO ⟨W,H,bg,l⟩ 0)] (clM l) (wq ⟨W,H,bg,l⟩) (clM l):=by
 rcases l with _|⟨a,_|⟨b,_|⟨c,_|⟨d,_|⟨e,_|⟨f,_|⟨g,_|⟨h,_|⟨i,r⟩⟩⟩⟩⟩⟩⟩⟩⟩
 rotate_right
 .simp only[Xm]at q;omega
 all_goals
  refine zmW 1 tok mix func24 rfl rfl rfl (zC5 _) (zGl _) ?_;intro s;refine⟨Nat,csS W H bg k,λi=>i<=csN k,λi=>csN k-i,0,Xh _,kM (csT k (csN k+2) (csN k+3) none) rfl rfl rfl ⟨rfl,rfl,rfl,rfl,rfl,tV⟩ ⟨rfl,rfl,rfl,⟨_,rfl,rfl,λi x o=>by rcases i with _|_|_|_|_|_|_|_|i <;> first|(cases o;exact⟨_,rfl,rfl⟩)|cases o⟩,by repeat' constructor⟩,λi hi=>?_⟩
  rcases i with _|_|_|_|_|_|_|_|_|i
  rotate_right
  .have hi:i+9<=csN k:=hi;simp only[csN,Xm,Xo]at hi;omega
  all_goals
   refine⟨λg=>?_,λg=>?_⟩
   .first
     |exact absurd (Qm.1 g) (Yb.2 (Xw rfl))
     |refine Ob.mk ⟨Kv _,g⟩ ?_
      refine Ob.mk ⟨Kv _,g⟩ λx o=>?_;obtain rfl:=Xl o;refine wd<|zb.give (csK hi) 0 _ [(0,ztv _)] [(0,ztv _)] _ (zC3 _ (k _ (by simp only[XA,true_or,or_true]))) .refl rfl rfl rfl ⟨⟨_,rfl,rfl,tV⟩,tV⟩ rfl ⟨⟨rfl,tV⟩,tV⟩<|⟨Nd,ndE,[_],rfl,wb3 ?_⟩
      refine⟨[_],rfl,Ob.mk ⟨by simp only[X8,QC,Xm,Xo];decide,by simp only[X8,QC,Xm,Xo];decide,dC,λx o=>by rw[Xt.1 o];rfl⟩ ?_⟩;refine wh<|Ar.fit dC ?_
      exact⟨_,X1 (Qm.1 g),kM (csT k (csN k+1) (csN k+2) (some (csN k+6))) rfl rfl rfl ⟨rfl,rfl,rfl,rfl,rfl,tV⟩ ⟨rfl,rfl,rfl,⟨_,rfl,rfl,λi x o=>by rcases i with _|_|_|_|_|_|_|_|i <;> first|(cases o;exact⟨_,rfl,rfl⟩)|cases o⟩,by repeat' constructor⟩,J0 (Qm.1 g) (XZ _)⟩
   first
    |exact absurd (Qm.2 (Xw rfl)) g
    |exact⟨⟨rfl,by repeat' constructor⟩,jk (.C (.C (.C (.C (.C (.C (.cons (z6 rfl) .nil)))))))⟩
variable{P:Program}{f:FuncId}{M:LT}
def kL.peek{args args':LR}{r:SV}{M2:LT}{nk:Nat}(h:kL P f args' [] r [])(O:zgM r=true)(y:Sub ⟨qG 0 args,M,M.length,args.length,M.length⟩ ⟨qG 0 args,M2,nk,args.length,M.length⟩)(J:zkD (zO M2) args=args'):kL P f args M r M:=by
 subst J;refine⟨h.1,λKeep Z w vs F c E B=>?_⟩;have u:=yU (nt:=args.length) c E B (Xj _);obtain⟨Z2,z⟩:=y _ _ _ _ u
 have C:Gs (λb=>Keep b∨Own M2 Z2 b) (Own M2 Z2) Z2 w args vs:=⟨B.1,λj s v d o=>by
  have I:=(z.regs j s (by show kw (qG 0 args) j=some s;rw[zec];simpa using d)).2
  have e:(vs.toArray++Array.replicate (args.length-vs.toArray.size) undef).getD j undef=v:=by
   have Q:=B.1;have L:=(Xd.1 o).1
   have G:(vs.toArray++Array.replicate (args.length-vs.toArray.size) undef)[j]?=some v:=by
    rw[J4 (by simpa using L)];simpa using o
   rw[X7,G];rfl
  rw[←e]
  exact I⟩
 have o:=zgW (S':=λb=>Keep b∨Own [] (λ_=>none) b) (Pm':=Own [] λ_=>none) (Z':=λ_=>none) (λk m h=>zu h) z.mem (λb g=>g.elim .inl λh=>absurd h zK) (λb _=>zK) (λ_ _ b _ _=>zK) C
  (.inr λb g k=>k.elim (z.mem.old b g).2 zK)
 refine(h.2 Keep (λ_=>none) w vs F (qu F λ_ _ q=>c.glc q) (λ_ _=>rfl) o).mono λe w' ⟨v,Z',K,d,N,D⟩=>?_
 have g:∀b,b<w.heap.size->w'.heap[b]?=w.heap[b]? :=λb g=>d.block b g zK
 have n:Stp (Own M Z) (Own M Z) Z Z w w':=⟨d.os,d.tape,d.output,d.size,λb q _=>g b q,λb q=>.inl q,λ_ _ q=>q⟩;exact⟨v,Z,K,n,⟨λk m t=>(c.rel k m t).keep n rfl (λv b o A=>g b (c.old b ⟨k,m,v,t,o,A⟩).1),c.keys,c.apart,λb q=>⟨Xx (c.old b q).1 d.size,(c.old b q).2⟩,λb q=>Xx (c.kp b q) d.size,c.glS n⟩,zny O D⟩
def nbeq{a b:Nat}(h:a≠b):Nat.beq a b=false:=by
 cases e:Nat.beq a b
 .rfl
 exact absurd (Xk e) h
def zcU:∀(l:LW) (k:Nat),∀x∈zeU l k,x.length=47
 |n::r,k,x,h=>(XA.1 h).elim (λe=>e ▸ rfl) (zcU r (k+1) x)
def zC6{α:Type _}{A B:List α}{s0 s1 s':α}{j:Nat}(h:(A++s1::B)[j]?=some s'):∃s,(A++s0::B)[j]?=some s/\(s'=s∨(s=s0/\s'=s1)):=by
 rw[X9]at h
 by_cases c:j<A.length
 .rw[Xe c]at h;exact⟨s',by rw[X9,Xe c];exact h,.inl rfl⟩
 rw[Xc c]at h
 cases e:j-A.length with
 |zero=>
  rw[e]at h;exact⟨s0,by rw[X9,Xc c,e];rfl,.inr ⟨rfl,(Xl h).symm⟩⟩
 |succ m=>
  rw[e]at h;exact⟨s',by rw[X9,Xc c,e];exact h,.inl rfl⟩
def ndA(n:Nd):LR:=i64 n.id::i64 n.k::i64 n.d::(afE n.t++[.sl sgE n.clip,i64 n.cr,u8 n.op,i64 n.mode,pr (n.iso=true),pr (n.ko=true)])
def ndB(n:Nd):LR:=i64 n.rule::.sl qD n.fill::(jb n.pen++(.sl qD n.strk::(zi9 n.im++[i64 n.smp])))
def ztw{L:LP}{nk nt n0:Nat}:∀(todo done:LW) (k:Nat),1<=k->Sub ⟨L,(0,.garr 60 47 (done.map ndE++zeU todo k))::zib todo k,nk,nt,n0⟩ ⟨L,[(0,.garr 60 47 ((done++todo).map ndE))],nk,nt,n0⟩
 |[],done,k,_=>by rw[show zeU [] k=[] from rfl,XE,XE];exact .refl
 |n::r,done,k,v=>by
  have o:=ztw (L:=L) (nk:=nk) (nt:=nt) (n0:=n0) r (done++[n]) (k+1) oM;rw[XL,Xz,XL]at o;refine Sub.trans ?_ o;have d:Nat.beq 0 k=false:=nbeq oM;have ek:Nat.beq k k=true:=KQ k
  have:=za6 (O:=⟨L,(0,.garr 60 47 (done.map ndE++zeU (n::r) k))::zib (n::r) k,nk,nt,n0⟩) k 0 (T:=62) (T0:=60) (enc:=sgE) (sz:=7) (sz0:=47) (ys:=n.path)
   (xs:=done.map ndE++zeU (n::r) k) (xs':=done.map ndE++ndE n::zeU r (k+1)) (by simp only[zO,zib,d,ek]) rfl (by simp only[Xr,Xm,zeU]) (λx c=>by
    rcases Xu.1 c with c|c
    .obtain⟨m,_,rfl⟩:=XK.1 c;rfl
    .exact(XA.1 c).elim (λe=>e ▸ rfl) (zcU _ _ x)) (λi j x' s' c h=>by
    obtain⟨x,g,u⟩:=zC6 (s0:=ndP n (.own k)) c
    rcases u with rfl|⟨rfl,rfl⟩
    .exact⟨_,s',g,h,.inl rfl⟩
    obtain⟨s,q,t⟩:=zC6 (A:=ndA n) (B:=ndB n) (s0:=.own k) (s1:=.sl sgE n.path) h
    exact⟨_,s,g,q,t⟩)
  simp only[qL,k9,zib,d,ek]at this;exact this
def zC7(W H:Int)(bg:Pix)(l:LW)(ht:zca ⟨W,H,bg,l⟩):CG0 23 [.agg (scO ⟨W,H,bg,l⟩ 0)] (clM l) (pr (qy ⟨W,H,bg,l⟩)) (clM l):=by
 refine(zhY ⟨W,H,bg,l⟩ ht).peek rfl ((ztw l [] 1 (Xj _)).trans (zct 0 ndE l rfl λ_ _=>rfl)) rfl
def zFt{n:Nd}{k:Nat}(h:Nat.blt k m=true):uf.lows m (ndP n (.own k))=true:=by
 show(match Nat.blt k m with|true=>true|false=>false)=true;rw[h]
def zkz:∀(l:LW) (k:Nat),∀x∈zeU l k,uf.lows (k+l.length) x=true
 |n::r,k,x,h=>by
  rcases XA.1 h with rfl|h
  .have e:Nat.blt k (k+(n::r).length)=true:=QZ (by rw[Xm];omega);exact zFt e
  have:=zkz r (k+1) x h
  rwa [show k+(n::r).length=k+1+r.length by rw[Xm];omega]
def zFu{n:Nd}{k:Nat}(h:Nat.blt k m=true):za4.outs m (ndP n (.own k))=true:=by
 show(match Nat.blt k m with|true=>true|false=>false)=true;rw[h]
def zic:∀(l:LW) (k:Nat),∀x∈zeU l k,za4.outs (k+l.length) x=true
 |n::r,k,x,h=>by
  rcases XA.1 h with rfl|h
  .have e:Nat.blt k (k+(n::r).length)=true:=QZ (by rw[Xm];omega);exact zFu e
  have:=zic r (k+1) x h
  rwa [show k+(n::r).length=k+1+r.length by rw[Xm];omega]
def zmY:∀(l:LW) (k:Nat),(zeU l k).length=l.length
 |[],_=>rfl
 |n::r,k=>by show(zeU r (k+1)).length+1=_;rw[zmY r];rfl
def csR(_:∀n∈l,ltN n):LC:=List.range (l.length+1)
def ixA(W H:Int)(bg:Pix)(_:∀n∈l,ltN n):LT:=[(l.length+4,.box 38 (scE ⟨W,H,bg,l⟩++([.own (l.length+2),.loc (l.length+3) 0]:LR))),(l.length+3,.box 81 (quE (arN ⟨W,H,bg,l⟩ 0) nS)),(l.length+2,.arr 30 rcE 4 (List.replicate l.length qj))]
variable{W:Int}{H:Int}{bg:Pix}
def zC8(d:∀n∈l,ltN n):∀x∈ixA W H bg d,l.length+2<=x.1:=λx c=>by
 rcases XA.1 c with rfl|c
 .show l.length+2<=l.length+4;omega
 rcases XA.1 c with rfl|c
 .show l.length+2<=l.length+3;omega
 rcases XA.1 c with rfl|c
 .exact Xj _
 cases c
def zId(d:∀n∈l,ltN n):(ixA W H bg d).Pairwise λa b=>a.1≠b.1:=by
 refine .cons (λy c=>?_) (.cons (λy c=>?_) (.cons (λy c=>nomatch c) .nil))
 .rcases XA.1 c with rfl|c
  .show l.length+4≠l.length+3;omega
  rw[Xt.1 c];show l.length+4≠l.length+2;omega
 rw[Xt.1 c];show l.length+3≠l.length+2;omega
def ztx{k t:Nat}{v s:SV}(h:kw [(k,v)] t=some s):t=k/\s=v:=by
 unfold kw at h
 split at h
 .rename_i e;exact⟨(Xk e).symm,(Xl h).symm⟩
 cases h
def zIe(l:LW):(clM l).length=l.length+1:=by show(zib l 1).length+1=_;rw[zqH]
def zC9(W H:Int)(bg:Pix)(l:LW)(w:ltS ⟨W,H,bg,l⟩)(z:qy ⟨W,H,bg,l⟩)(v:l.length<=8)(o:∀n∈l,ltN n):CG0 10 [.agg (scO ⟨W,H,bg,l⟩ 0)] (clM l) (.tup [.dptr (ixT ⟨W,H,bg,l⟩),i64 0]) (clM l):=by
 have q:=zo2 _ w z v
 rcases l with _|⟨a,_|⟨b,_|⟨c,_|⟨d,_|⟨e,_|⟨f,_|⟨g,_|⟨h,_|⟨i,r⟩⟩⟩⟩⟩⟩⟩⟩⟩
 rotate_right
 .simp only[Xm]at v;omega
 all_goals
  refine zjV tok mix 3 func10 rfl rfl rfl (zGl _) rfl rfl<|zb.lend (csR o) _ (clM _) _ (zC7 _ _ _ _ (zfC w).tame) .refl rfl rfl rfl ⟨⟨_,rfl,rfl,zkz _ 1⟩,by repeat' constructor⟩ rfl ⟨⟨rfl,zic _ 1⟩,by repeat' constructor⟩ rfl ⟨rfl,by repeat' constructor⟩<|⟨λk=>absurd z k,λ_=>?_⟩;refine wd<|zb.lend (csR o) _ (clM _) _ (zy1 _ _ _ _ v o) .refl rfl rfl rfl ⟨⟨_,rfl,rfl,zkz _ 1⟩,by repeat' constructor⟩ rfl ⟨⟨rfl,zic _ 1⟩,by repeat' constructor⟩ rfl ⟨rfl,by repeat' constructor⟩ λB=>?_
  refine⟨Rc,rcE,qj,rfl,Ob.mk ⟨dC,Kv _,K4 _,(by simp only[Xv,zmY,Xm,Xo];decide),(by simp only[Xv,zmY,Xm,Xo];decide)⟩ ?_⟩;refine wh ?_
  exact⟨ixA W H bg o,[(4,.loc (csN o+4) 0)],⟨λx u=>(by rcases u with _|⟨_,_|⟨_,_|⟨_,u⟩⟩⟩ <;> first|exact zu rfl|exact nomatch u),zkx ⟨rfl,by repeat' constructor⟩,
   λx u y C=>(by have D:=zC8 o x u;have A:=zC5 _ y C;rw[zIe]at A;omega),zId o⟩,
   λt s h=>(by obtain⟨rfl,rfl⟩:=ztx h;rfl),q.sub (zB [(1,some (csN o+2)),(2,some (csN o+3)),(3,some (csN o+4))])⟩
def endZ(I:LS)(rs:List ResultVar)(r:SV)(M':LT)(e:Ex)(O:St):Prop:=
 match e with
 |.exit _=>False
 |_=>zaw O I rs λs=>∃nk,Sub ⟨[(0,s)],O.M,O.nk,1,O.n0⟩ ⟨[(0,r)],M',nk,1,O.n0⟩
def zjW{I:LS}(hT:TOK P I)(F:P.follows .mixedOrders=true){fn:Func}{c:Code}{args:LR}{M':LT}{r:SV}(B:P.funcs[f]?=some fn)(n:fn.body=some c)(y:(fn.name== "runtime.NumGoroutine")=false) (u:Nat.ble args.length fn.ntmps=true)
  (h:js P I c ⟨qG 0 args,M,M.length,fn.ntmps,M.length⟩ (endZ I fn.results.toList r M')):kL P f args M r M':=by
 refine vj hT F B n y u h (λe O h=>⟨O,.refl,h⟩) (λe O g A=>?_) (λid O g=>g)
 have g:zaw O I fn.results.toList λs=>∃nk,Sub ⟨[(0,s)],O.M,O.nk,1,O.n0⟩ ⟨[(0,r)],M',nk,1,O.n0⟩:=by
  cases e with
  |exit id=>exact absurd rfl (A id)
  |normal=>exact g
  |ret=>exact g
 obtain⟨s,⟨nk,o⟩,z⟩:=jj hT g;refine⟨s,z,λ{E Z a w v} k hW _ C=>?_⟩;obtain⟨Z',q⟩:=o E Z { a with tmps:=#[v] } w ⟨rfl,k.defers,λt s' D=>(by obtain⟨rfl,rfl⟩:=ztx D;exact⟨Nat.zero_lt_one,C⟩),k.mem,k.fresh,k.stp,k.keep,k.low⟩;have d:=q.stp;exact⟨Z',⟨d.os,d.tape,d.output,d.size,λb n y=>d.block b n λh=>y ((hW b).1 h),λb n=>(d.own b n).imp (hW b).1 id,d.rho⟩,q.mem,(q.regs 0 r rfl).2⟩
def cl_Io(q:LV)(d:q.length<=1000):CG0 67 [.sl zN q] [] (.own 0) [(0,.arr 3 zN 1 q)]:=by
 refine qf tok mix func67 rfl rfl rfl ?_
 by_cases c:q=[]
 rotate_left;refine zcn.some (λh=>c (Xq h)) ?_;rotate_left;refine zcn.any (Br.mk ⟨none,.nil rfl,c⟩ ?_)
 all_goals
  refine⟨Int,zN,[],rfl,wb2 ?_⟩;exact⟨q,rfl,Ob.mk ⟨(by show _*(8:Int)<=_;simp only[Xo];omega),(by simp only[Xo];omega),dC,λ_ _=>rfl⟩ ⟨some 1,.own _ rfl,rfl,λ_ _=>rfl⟩⟩
def vV(z:Rc):∀t:Qt,(t.find z).length<=t.all.length
 |.leaf a c=>by unfold Qt.find Qt.all;split <;> simp
 |.node a c p q r s=>by
  have d:=vV z p;have e:=vV z q;have g:=vV z r;have h:=vV z s;unfold Qt.find Qt.all
  split
  .exact Xh _
  simp only[Xr];omega
def kidD(p q r s:Qt)(j:Nat):LR:=[.dptr (match j with
 |0=>qtE p
 |1=>qtE q
 |2=>qtE r
 |_=>qtE s)]
def accQ(z:Rc)(c:LV)(p q r s:Qt):Nat->LV
 |0=>c
 |1=>c++p.find z
 |2=>c++p.find z++q.find z
 |3=>c++p.find z++q.find z++r.find z
 |_=>c++p.find z++q.find z++r.find z++s.find z
def zFv(z:Rc):∀t:Qt,t.all.length<=1000->CX 33 [.dptr (qtE t),wr z] (.sl zN (t.find z)):=by
 intro t
 induction t with
 |leaf a c=>
  intro d;have d:c.length<=1000:=d;refine zc func33<|wc<|wg (zqm a z)<|wg (zdr (a.meet z))<|⟨λh=>by rw[show(Qt.leaf a c).find z=[] from Xe h];exact zD,λh=>?_⟩;refine wg (cl_I c d)<|⟨Unit,λ_=>⟨[(25,i64 0),(24,i64 0),(5,.sl zN c)],[],1,36,0⟩,λ_=>True,λ_=>0,(),tV,?_,?_⟩
  .exact zB []
  rintro _ _
  refine⟨λk=>absurd k dC,λ_=>?_⟩;exact z6 (Xc h).symm
 |node a c p q r s e n o u=>
  intro d;have d:(c++p.all++q.all++r.all++s.all).length<=1000:=d;simp only[Xr]at d;have B:=vV z p;have C:=vV z q;have D:=vV z r;have E:=vV z s;refine zc func33<|wc<|wg (zqm a z)<|wg (zdr (a.meet z))<|⟨λh=>by rw[show(Qt.node a c p q r s).find z=[] from Xe h];exact zD,λh=>?_⟩;refine zb.fresh _ _ (cl_Io c oM) rfl (λ_ _=>rfl) (.inl rfl) λy=>?_
  refine⟨Nat,λj=>⟨[(25,i64 j),(24,i64 4),(23,.sl (kidD p q r s) (List.range 4)),(5,.own 1),(3,.loc 0 0)],[(0,.box 30 (rcE z)),(1,.arr 3 zN 1 (accQ z c p q r s j))],2,36,0⟩,λj=>j<=4,λj=>4-j,0,Xh _,zf [0,1],?_⟩
  rintro j v
  have v:j<=4:=v;refine⟨λg:(j:Int)<4=>?_,λg=>?_⟩
  .have e:=e oM;have n:=n oM;have o:=o oM;have u:=u oM
   have hacc:(accQ z c p q r s j).length<=1000:=by
    obtain rfl|rfl|rfl|rfl:j=0∨j=1∨j=2∨j=3:=oM
    all_goals simp only[accQ,Xr];omega
   obtain⟨k,w⟩:∃k,j+1=k:=⟨_,rfl⟩;obtain rfl|rfl|rfl|rfl:j=0∨j=1∨j=2∨j=3:=oM
   all_goals
    refine wb1 λx A=>?_
    cases A
    first|refine wg e ?_|refine wg n ?_|refine wg o ?_|refine wg u ?_
    refine⟨_,rfl,Ob.mk ⟨by show(_:Int)*(8:Int)<=_;omega,oM,dC,λ_ _=>rfl⟩ ?_⟩;refine Ar.fit dC<|⟨k,oM,?_,oN⟩;subst w;exact zf [0,2]
  obtain rfl:j=4:=by have g:¬(j:Int)<4:=g;omega
  exact z6 (Xc h).symm
def zFw(x y:Int):CX 112 [i64 x,i64 y] (pr (x<y)):=by
 have nan:∀z:Int,CX 166 [i64 z] (pr (¬z=z)):=λz=>by
  exact zc func166<|.refl
 exact zc func112<|wg (nan x)<|⟨λk=>absurd rfl k,λ_=>.refl⟩
def zIf(n:Nat)(h:n<=12):CX 69 [u64 n] (i64 (kD n)):=by
 have l64:CX 116 [u64 n] (i64 (kD n)):=by
  refine zc func116<|Br.mk (λk=>by have k:(4294967296:Int)<=n:=k;omega) (λ_=>?_);refine⟨λk=>by have k:(65536:Int)<=n:=k;omega,λ_=>?_⟩;refine⟨λk=>by have k:(256:Int)<=n:=k;omega,λ_=>?_⟩;refine wa<|wb10 λb c=>?_;have d:b.toNat=kD n:=zlq c (by show n<256;omega) (λh=>len8tab_get n h);have:=bitLen_le8 n oM;have:kD n<=8:=this;(iterate 2 refine wa ?_);exact ze oM
 exact zc func69<|zb.to _ l64 rfl .refl
def qY(l:LV):zgN (.arr 3 zN 1 l):=λ_ _=>rfl
def revT(q l:LV)(i:Nat):Prop:=l.length=q.length/\∀k,k<q.length->l[k]?=if k<i∨q.length<=k+i then q[q.length-1-k]? else q[k]?
def zIg(q:LV)(v:q.length<=1000):CG0 36 [.own 0] [(0,.arr 3 zN 1 q)] (.tup []) [(0,.arr 3 zN 1 q.reverse)]:=by
 refine ux tok mix func36 rfl rfl rfl (qY _) rfl λu=>wa<|⟨Nat×LV,λ⟨i,l⟩=>⟨[(3,i64 ((q.length:Int)-1-i)),(2,i64 i),(0,.own 0)],[(0,.arr 3 zN 1 l)],1,28,1⟩,λz=>2*z.1<=q.length/\revT q z.2 z.1,λz=>q.length-z.1,(0,q),⟨Xh _,rfl,λk c=>?_⟩,?_,?_⟩
 .dsimp only at c ⊢;rw[Xc oM]
 .exact zQ [0] ⟨iR oM,rfl,rfl,tV⟩ ⟨rfl,tV⟩
 rintro⟨i,l⟩ ⟨s,e,h⟩
 have s:2*i<=q.length:=s;have e:l.length=q.length:=e;refine⟨λg:(i:Int)<(q.length:Int)-1-i=>?_,λg:¬(i:Int)<(q.length:Int)-1-i=>?_⟩
 .have ej:((q.length:Int)-1-i).toNat=q.length-1-i:=oM;refine wc<|wb<|wb λx d=>?_;have d:l[q.length-1-i]?=some x:=by rw[←d,ej]
  refine wb<|wb λy(t:l[i]?=some y)=>?_;refine wb<|wb λx' _=>?_;refine⟨x,rfl,?_⟩;refine Ob.mk (by rw[XO];omega)<|Ob.mk (by rw[XO];omega) λw _=>?_;refine⟨y,rfl,?_⟩;(iterate 2 refine wa ?_)
  refine⟨(i+1,(l.set i x).set (q.length-1-i) y),⟨oN,by dsimp only;rw[XO,XO];exact e,λk c=>?_⟩,
   zQ [0] ⟨iR oM,rfl,rfl,tV⟩ ⟨aR (by rw[ej];rfl),tV⟩,oN⟩
  dsimp only;rw[h _ oM,Xc oM]at d t;rw[KB,KB,XO]
  by_cases c1:q.length-1-i=k
  .rw[Xe c1,Xe oM,Xe oM,←t];congr 1;omega
  rw[Xc c1]
  by_cases n:i=k
  .rw[Xe n,Xe oM,Xe oM,←d];congr 1;omega
  rw[Xc n,h k c]
  by_cases o:k<i∨q.length<=k+i
  .rw[Xe o,Xe oM]
  rw[Xc o,Xc oM]
 refine⟨aR (KA λk=>?_),.refl⟩
 by_cases c:k<q.length
 .rw[h k c,QY c]
  split
  .rfl
  congr 1;omega
 rw[XH oM,XH (by rw[Qa];omega)]
def bxA(s:Sc):List Rc:=bxN s s.ns.length
def enA(s:Sc):LV:=enN (bxA s) s.ns.length
def zid(s:Sc)(r:Rc)(i:Int):Prop:=¬(((bxA s).getD i.toNat qj).meet r).mt
instance (s:Sc) (r:Rc) (i:Int):Decidable (zid s r i):=inferInstanceAs (Decidable (¬_))
def zbX(s:Sc)(r:Rc)(l:LV):LV:=l.filter λi=>decide (zid s r i)
def zGm{b:List Rc}{n:Nat}{i:Int}(h:i∈enN b n):0<=i/\i<n:=by
 unfold enN at h;obtain⟨k,c,rfl⟩:=XK.1 h;have:=XV.1 (QH.1 c).1;omega
def en_up(b:List Rc)(n:Nat):(enN b n).Pairwise (·<=·):=by
 unfold enN;rw[Q0];exact((List.pairwise_lt_range).sublist List.filter_sublist).imp λh=>oM
variable{r:Rc}{j:Nat}
def zFx{s:Sc}{l:LV}{i:Int}(hi:l[j]?=some i)(h:zid s r i):zbX s r (l.take (j+1))=zbX s r (l.take j)++[i]:=by
 unfold zbX;rw[Xn,hi,Km,QF,KF,Xe (decide_eq_true h)];rfl
def zIh{s:Sc}{l:LV}{i:Int}(hi:l[j]?=some i)(h:¬zid s r i):zbX s r (l.take (j+1))=zbX s r (l.take j):=by
 unfold zbX;rw[Xn,hi,Km,QF,KF,Xc (by simpa using h)];exact XE _
def zty(p:Pt):Prop:=p.x < -1048576∨1048576<=p.x∨p.y < -1048576∨1048576<=p.y
instance (p:Pt):Decidable (zty p):=wj
def vu(p:Pt):Rc:=⟨p.x/2^8,p.y/2^8,p.x/2^8+1,p.y/2^8+1⟩
def onN(s:Sc)(p:Pt)(l:LV):LV:=(l.filter λi=>onS s p i).map (ndI s)
variable{p:Pt}
def zIi{s:Sc}{l:LV}{i:Int}(hi:l[j]?=some i)(h:onS s p i=true):onN s p (l.take (j+1))=onN s p (l.take j)++[ndI s i]:=by
 unfold onN;rw[Xn,hi,Km,QF,KF,Xe h,Xz];rfl
def on_no{s:Sc}{l:LV}{i:Int}(hi:l[j]?=some i)(h:¬onS s p i=true):onN s p (l.take (j+1))=onN s p (l.take j):=by
 unfold onN;rw[Xn,hi,Km,QF,KF,Xc h];exact Xg _ (XE _)
variable{a:Rc}{b:Rc}
def zy2(c:¬a.mt)(d:¬b.mt)(h:b.x0<=a.x0/\b.y0<=a.y0/\a.x1<=b.x1/\a.y1<=b.y1):a.within b:=by
 unfold Rc.within Rc.meet;rw[Xc (λk=>k.elim c d),Rc.canon_neg c,show max a.x0 b.x0=a.x0 by omega,show max a.y0 b.y0=a.y0 by omega,show min a.x1 b.x1=a.x1 by omega,show min a.y1 b.y1=a.y1 by omega];exact Rc.canon_neg c
def holds(b a:Rc):Prop:=¬b.mt/\b.x0<=a.x0/\b.y0<=a.y0/\a.x1<=b.x1/\a.y1<=b.y1
def zfE(c:¬b.mt):holds (zbW a b) b:=by
 unfold zbW holds
 by_cases d:a.mt
 .rw[Xe d,Rc.canon_neg c];exact⟨c,oM⟩
 rw[Xc d,Xc c];have e:=Rc.notmt d;have g:=Rc.notmt c;refine⟨?_,oN⟩;unfold Rc.mt Rc.ok zbb at*;dsimp only;omega
def zie{c:Rc}(h:holds a c):holds (zbW a b) c:=by
 obtain⟨d,h⟩:=h;unfold zbW holds;rw[Xc d]
 by_cases e:b.mt
 .rw[Xe e];exact⟨d,h⟩
 rw[Xc e];have g:=Rc.notmt d;have k:=Rc.notmt e;refine⟨?_,oN⟩;unfold Rc.mt Rc.ok zbb at*;dsimp only;omega
def ztz{s:Sc}{k:Nat}(d:¬(bxK s k).mt):∀n,k<n->holds (arN s n) (bxK s k)
 |n+1,h=>by
  have o:ndK s k≠1:=λe=>d (by unfold bxK;rw[Xc λh=>h e];exact uu)
  have g:bxK s k=zao s k:=Xe o
  rcases Jk.1 h with c|c
  .have q:=ztz d n c;unfold arN
   split
   .exact zie q
   exact q
  subst c;unfold arN;rw[Xe o,g];rw[g]at d;exact zfE d
def zeV(z:Rc):∀(t:Qt) (i:Int),i∈t.find z->i∈t.all
 |.leaf a c,i,h=>by
  unfold Qt.find at h
  split at h
  .cases h
  exact h
 |.node a c p q r s,i,h=>by
  unfold Qt.find at h
  split at h
  .cases h
  simp only[Xu]at h;unfold Qt.all;simp only[Xu]
  rcases h with(((h|h)|h)|h)|h
  .exact .inl (.inl (.inl (.inl h)))
  .exact .inl (.inl (.inl (.inr (zeV z p i h))))
  .exact .inl (.inl (.inr (zeV z q i h)))
  .exact .inl (.inr (zeV z r i h))
  exact .inr (zeV z s i h)
def zjo(s:Sc):∀k,(qt s k).area=arN s s.ns.length
 |0=>rfl
 |k+1=>by
  unfold qt
  split
  .exact zjo s k
  rw[zCB];exact zjo s k
def zmZ(s:Sc):∀k,(qt s k).all.Perm (enN (bxA s) k)
 |0=>.refl _
 |k+1=>by
  have c:=zmZ s k;unfold qt
  split
  .rename_i h;rw[zCR (show((bxA s).getD k qj).mt from h)];exact c
  rename_i h;rw[zmT (show¬((bxA s).getD k qj).mt from h)];exact(zdx _ _ _ _).trans ((c.cons _).trans (JF (l₁:=[(k:Int)])))
def zo3(s:Sc):∀k,k<=s.ns.length->(qt s k).good λi=>(bxA s).getD i.toNat qj
 |0,_=>λi hi=>by cases hi
 |k+1,g=>by
  have e:=zo3 s k oM;unfold qt
  split
  .exact e
  rename_i h;have c:(bxN s s.ns.length).getD k qj=bxK s k:=by rw[Xs,zmS oM,Xe oM];rfl
  rw[c]at h;have d:=ztz h s.ns.length oM;refine zeP (B:=λi=>(bxA s).getD i.toNat qj) (i:=(k:Int)) 6 e ?_;show((bxN s s.ns.length).getD k qj).within _;rw[zjo,c];exact zy2 h d.1 d.2
def zu6(s:Sc)(r:Rc):LV:=zbX s r (enA s)
def zy3(s:Sc)(r:Rc):(zbX s r ((qt s s.ns.length).find r)).Perm (zu6 s r):=by
 have h:=zyV (z:=r) (zo3 s s.ns.length (Xj _));have e:zbX s r ((qt s s.ns.length).find r)=(qt s s.ns.length).all.filter λi=>decide (zid s r i):=h
 rw[e];exact(zmZ s s.ns.length).filter _
def zFy(s:Sc)(r:Rc):(zu6 s r).Pairwise (·<=·):=(en_up _ _).sublist List.filter_sublist
def srtI(s:LV)(i:Nat):Prop:=∀x y,x<y->y<i->y<s.length->s.getD x 0<=s.getD y 0
def zDa(s:LV)(i j:Nat):Prop:=(∀x y,x<y->y<=i->y<s.length->x≠j->y≠j->s.getD x 0<=s.getD y 0)/\∀y,j<y->y<=i->y<s.length->s.getD j 0<=s.getD y 0
def zfF{s:LV}{x:Nat}{v:Int}(h:s[x]?=some v):s.getD x 0=v:=by rw[Xs,h];rfl
def zkA{s:LV}{u v:Int}(c:j<s.length)(d:1<=j)(k:Nat):((s.set j u).set (j-1) v).getD k 0=if k=j-1 then v else if k=j then u else s.getD k 0:=by
 simp only[Xs,KB,XO]
 split
 .rename_i a;rw[Xe oM,Xe a.symm];rfl
 rename_i a
 split
 .rename_i b
  first|rw[Xe c]|skip
  rw[Xc oM,Xe b.symm];rfl
 rw[Xc oM,Xc oM]
variable{x:Int}
def zDb{s:LV}{y:Int}(e:j<s.length)(d:1<=j)(t:j<=i)(v:s[j-1]?=some x)(w:s[j]?=some y)(u:y<x)(h:zDa s i j):zDa ((s.set j x).set (j-1) y) i (j-1):=by
 have ex:=zfF v;have ey:=zfF w;have o:((s.set j x).set (j-1) y).length=s.length:=by rw[XO,XO]
 refine⟨λp q g k c z A=>?_,λq k n c=>?_⟩
 .rw[o]at c;rw[zkA e d,zkA e d,Xc z,Xc A]
  by_cases a:p=j
  .rw[Xe a,Xc oM,←ex];exact h.1 (j-1) q oM k c oM oM
  rw[Xc a]
  by_cases b:q=j
  .rw[Xe b,←ex];exact h.1 p (j-1) oM oM oM a oM
  rw[Xc b];exact h.1 p q g k c a b
 rw[o]at c;rw[zkA e d,zkA e d,Xe rfl,Xc oM]
 by_cases b:q=j
 .rw[Xe b];omega
 rw[Xc b,←ey];exact h.2 q oM n c
def ztA{s:LV}(k:j<=i)(h:zDa s i j)(e:j=0∨s.getD (j-1) 0<=s.getD j 0):srtI s (i+1):=λp q g n d=>by
 by_cases a:p=j
 .rw[a];exact h.2 q oM oM d
 by_cases b:q=j
 .have e:=e.resolve_left oM;rw[b]
  by_cases c:p=j-1
  .rw[c];exact e
  exact Int.le_trans (h.1 p (j-1) oM oM oM a oM) e
 exact h.1 p q g oM d a b
def zy4{s:LV}(h:srtI s i):zDa s i i:=⟨λx y c k d _ n=>h x y c oM d,λy e g=>by omega⟩
def zIj{s:LV}(h:srtI s i)(hi:s.length<=i):s.Pairwise (·<=·):=by
 rw[Yd];intro x y e d c;have:=h x y c oM d
 rwa [zfF (Xb e),zfF (Xb d)]at this
def zy5{s:LV}{y:Int}(e:s[j-1]?=some x)(g:s[j]?=some y):((s.set j x).set (j-1) y).Perm s:=by
 obtain⟨c,rfl⟩:=Xd.1 e;obtain⟨d,rfl⟩:=Xd.1 g;exact List.set_set_perm d c
def zIk(l w:LV)(G:l.Perm w)(I:w.Pairwise (·<=·))(N:l.length<=12):CG0 106 [.own 0,i64 0,i64 l.length] [(0,.arr 3 zN 1 l)] (.tup []) [(0,.arr 3 zN 1 w)]:=by
 refine ux tok mix func106 rfl rfl rfl (qY _) rfl<|wa<|⟨Nat×LV,λ⟨i,s⟩=>⟨[(6,i64 i),(2,i64 l.length),(1,i64 0),(0,.own 0)],[(0,.arr 3 zN 1 s)],1,49,1⟩,λz=>1<=z.1/\z.1<=l.length+1/\z.2.Perm l/\srtI z.2 z.1,λz=>l.length+1-z.1,(1,l),⟨Xj _,oN,.refl _,λx y _ _=>by omega⟩,?_,?_⟩
 .exact zf [0]
 rintro⟨i,s⟩ ⟨J,K,h,q⟩
 dsimp only at J K h q;have sl:=h.length_eq;refine⟨λg=>?_,λg=>?_⟩;rotate_left
 .have g:¬(i:Int)<l.length:=g;have e:s=w:=List.Perm.eq_of_pairwise (λa b _ _ E F=>JU E F) (zIj q oM) I (h.trans G);rw[e];exact⟨rfl,.refl⟩
 have g:(i:Int)<l.length:=g;refine⟨Nat×LV,λ⟨j,s⟩=>⟨[(7,i64 j),(6,i64 i),(2,i64 l.length),(1,i64 0),(0,.own 0)],[(0,.arr 3 zN 1 s)],1,49,1⟩,λz=>z.1<=i/\z.2.Perm l/\zDa z.2 i z.1,λz=>z.1,(i,s),⟨Xj _,h,zy4 q⟩,zf [0],?_⟩
 rintro⟨j,s⟩ ⟨t,n,v⟩
 dsimp only at t n v;clear h q sl;have sl:=n.length_eq;refine wc<|Br.mk (λd=>?_) (λd=>?_)
 .have d:(0:Int)<j:=d;refine wb<|wb λy(o:s[j]?=some y)=>?_;refine wa<|wb<|wb λx c=>?_;have c:s[j-1]?=some x:=by rw[←c];congr 1;omega
  refine wg (zFw y x)<|⟨λk=>?_,λk=>?_⟩
  .have k:y<x:=k;refine wd ?_;(iterate 2 refine wa ?_);refine wb<|wb λx' B=>?_
   obtain rfl:x'=x:=by
    have:s[j-1]?=some x':=by rw[←B];congr 1;omega
    exact Xl (this.symm.trans c)
   refine wb<|wb λA C=>?_;obtain rfl:A=y:=Xl ((show s[j]?=some A from C).symm.trans o);refine wb<|wb λu _=>?_;refine⟨x',rfl,?_⟩;refine Ob.mk (by rw[XO];omega)<|Ob.mk (by rw[XO];omega) λu _=>?_;refine⟨A,rfl,?_⟩;refine wh<|wa ?_;have L:((j:Int)).toNat=j:=rfl;have D:((j:Int)-1).toNat=j-1:=oM
   refine⟨(j-1,(s.set j x').set (j-1) A),⟨oN,(zy5 c o).trans n,zDb oM oM t c o k v⟩,zQ [0] ⟨iR oM,rfl,rfl,rfl,rfl,tV⟩ ⟨aR (by rw[D];rfl),tV⟩,oN⟩
  have k:¬y<x:=k;exact wa<|⟨(i+1,s),⟨oN,oN,n,ztA t v (.inr (by rw[zfF c,zfF o];omega))⟩,zf [0],oN⟩
 have d:¬(0:Int)<j:=d;exact wa<|⟨(i+1,s),⟨oN,oN,n,ztA t v (.inl oM)⟩,zf [0],oN⟩
def zFz(l c:LV)(g:l.Perm c)(h:c.Pairwise (·<=·))(d:l.length<=12):CG0 35 [.own 0] [(0,.arr 3 zN 1 l)] (.tup []) [(0,.arr 3 zN 1 c)]:=by
 have pdq:∀m:Int,CG0 68 [.own 0,i64 0,i64 l.length,i64 m] [(0,.arr 3 zN 1 l)] (.tup []) [(0,.arr 3 zN 1 c)]:=λm=>by
  refine ux tok mix func68 rfl rfl rfl (qY _) rfl<|⟨Unit,λ_=>⟨[(2,i64 l.length),(1,i64 0),(0,.own 0)],[(0,.arr 3 zN 1 l)],1,134,1⟩,λ_=>True,λ_=>0,(),tV,?_,?_⟩
  .exact zf [0]
  rintro _ _
  refine wa<|Br.mk (λ_=>?_) (λk=>by have k:¬(l.length:Int)-0<=12:=k;omega);exact zb.hand 0 _ _ _ rfl (zIk l c g h d) (qY _) (qY _) rfl rfl<|⟨rfl,.refl⟩
 exact ux tok mix func35 rfl rfl rfl (qY _) rfl λe=>wa<|wg (zIf l.length d)<|zb.hand 0 _ _ _ rfl (pdq _) (qY _) (qY _) rfl rfl<|⟨rfl,.refl⟩
abbrev zqI(q:LV):Mem:=.arr 3 zN 1 q
def cdT(s:Sc)(r:Rc):LV:=(zu6 s r).reverse
def zDc{s:Sc}{i:Int}(h:i∈cdT s r):0<=i/\i<s.ns.length:=zGm (QH.1 (List.mem_reverse.1 h)).1
def zw8(s:Sc)(r:Rc):(cdT s r).length<=s.ns.length:=by
 unfold cdT zu6 zbX;rw[Qa];exact XC (Qc _ _) (zCS _ _)
def zw9(s:Sc)(r:Rc)(D:s.ns.length<=8):CX 14 [.dptr (ixT s),wr r] (.sl zN (cdT s r)):=by
 refine zc func14 ?_;have k:(bxN s s.ns.length).length=s.ns.length:=zdD _ _;have z:=zCS (bxA s) s.ns.length;refine wc ?_;have n:=zmU s s.ns.length;refine wg (zFv r (qt s s.ns.length) oM) ?_;have hfl2:=vV r (qt s s.ns.length);have hin2:∀i∈(qt s s.ns.length).find r,0<=i/\i<s.ns.length:=λi hi=>zGm ((zmZ s s.ns.length).mem_iff.1 (zeV r _ i hi))
 have d:=zy3 s r;obtain⟨fs,e⟩:∃fs,fs=(qt s s.ns.length).find r:=⟨_,rfl⟩;rw[←e]at hfl2 hin2 d ⊢;have A:fs.length<=8:=oM;have o:=hin2;clear e n;intro B;refine⟨Nat,λj=>⟨[(24,i64 j),(23,i64 fs.length),(22,.sl zN fs),(5,.own 1),(3,.loc 0 0),(0,.dptr (ixT s))],[(0,.box 30 (rcE r)),(1,.arr 3 zN 1 (zbX s r (fs.take j)))],2,49,0⟩,λj=>j<=fs.length,λj=>fs.length-j,0,Xh _,zB [(0,some 0),(1,none)],?_⟩
 rintro j w
 have w:j<=fs.length:=w;have u:(zbX s r (fs.take j)).Sublist fs:=List.filter_sublist.trans (List.take_sublist _ _);have t:=u.length_le;refine⟨λg:(j:Int)<fs.length=>?_,λg:¬(j:Int)<fs.length=>?_⟩
 .refine wb λi(hi:fs[j]?=some i)=>?_;have q:=o i (Xf hi);refine wc<|Ob.mk (by rw[k];exact q) λb y=>?_;have v:(bxA s).getD i.toNat qj=b:=by rw[Xs];unfold bxA;rw[show(bxN s s.ns.length)[i.toNat]?=some b from y];rfl
  refine wg (zqm b r)<|wg (zdr (b.meet r))<|⟨λc=>?_,λc=>?_⟩
  .have c:zid s r i:=by unfold zid;rw[v];exact c
   refine⟨Int,zN,[i],rfl,wb3 ?_⟩;refine⟨[i],rfl,Ob.mk ⟨by show(((zbX s r (fs.take j)).length:Int)+1)*8<=_;omega,by rw[X2];omega,dC,λx C=>by rw[Xt.1 C];rfl⟩ ?_⟩;exact wa<|⟨j+1,by show j+1<=fs.length;omega,zt [0,3] ⟨rfl,aR (zFx hi c).symm,tV⟩,oN⟩
  have c:¬zid s r i:=by unfold zid;rw[v];exact c
  exact wa<|⟨j+1,by show j+1<=fs.length;omega,zt [0,1] ⟨rfl,aR (zIh hi c).symm,tV⟩,oN⟩
 have h:zbX s r (fs.take j)=zbX s r fs:=by rw[Xi oM]
 have hA:=d.length_eq;rw[h]at t;exact zb.hand 1 _ _ _ rfl (zFz (zbX s r (fs.take j)) (zu6 s r) (by rw[h];exact d) (zFy s r) (by rw[h];omega)) (qY _) (qY _) rfl rfl<|zb.hand 1 _ _ _ rfl (zIg (zu6 s r) oM) (qY _) (qY _) rfl rfl<|.refl
def zo4(s:Sc)(r:Rc)(d:s.ns.length<=8):CG0 5 [.dptr (ixT s),wr r] [] (.own 0) [(0,zqI ((cdT s r).map (ndI s)))]:=by
 refine qf tok mix func5 rfl rfl rfl<|wg (zw9 s r d) ?_;have t:=zw8 s r;intro e;refine⟨Nat,λj=>⟨[(12,i64 j),(11,i64 ((cdT s r).length:Int)),(10,.sl zN (cdT s r)),(5,.own 1),(0,.dptr (ixT s))],[(1,.arr 3 zN 1 (((cdT s r).take j).map (ndI s)))],2,30,0⟩,λj=>j<=(cdT s r).length,λj=>(cdT s r).length-j,0,Xh _,zB [(1,none)],?_⟩
 rintro j c
 have c:j<=(cdT s r).length:=c;have h:(((cdT s r).take j).map (ndI s)).length<=8:=by rw[Xv,Xp];omega
 refine⟨λg:(j:Int)<(cdT s r).length=>?_,λg:¬(j:Int)<(cdT s r).length=>?_⟩
 .refine wb λi(hi:(cdT s r)[j]?=some i)=>?_;refine Ob.mk (zDc (Xf hi)) λn k=>?_;refine⟨Int,zN,[n.id],rfl,wb3 ?_⟩;refine⟨[n.id],rfl,Ob.mk ⟨by show(((((cdT s r).take j).map (ndI s)).length:Int)+1)*8<=_;omega,by rw[X2];omega,dC,λx o=>by rw[Xt.1 o];rfl⟩ ?_⟩;refine wa ?_
  exact⟨j+1,by show j+1<=(cdT s r).length;omega,zdI [(1,some 3)] ⟨aR (by rw[Xn,hi,Xz,←zjj k];rfl),tV⟩,oN⟩
 exact⟨some 1,.own _ rfl,Xg (λq=>some (zqI q)) (by rw[Xi oM]),qY _⟩
def zjp(s:Sc)(r:Rc)(c:s.ns.length<=8):CX 5 [.dptr (ixT s),wr r] (.sl zN ((cdT s r).map (ndI s))):=(zo4 s r c).plain rfl
def atQ(s:Sc)(p:Pt):LV:=if zty p then[] else onN s p (cdT s (vu p))
def zGn(s:Sc)(p:Pt)(ht:ji s)(B:s.ns.length<=8):CG0 4 [.dptr (ixT s),wk p] [] (.own 0) [(0,zqI (atQ s p))]:=by
 refine qf tok mix func4 rfl rfl rfl ?_;have far:zty p->atQ s p=[]:=λh=>Xe h
 refine⟨λh=>⟨none,.nil rfl,far (.inl h)⟩,λv=>?_⟩;refine⟨λh=>⟨none,.nil rfl,far (.inr (.inl h))⟩,λw=>?_⟩;refine⟨λh=>⟨none,.nil rfl,far (.inr (.inr (.inl h)))⟩,λz=>?_⟩;refine⟨λh=>⟨none,.nil rfl,far (.inr (.inr (.inr h)))⟩,λA=>?_⟩;have e:¬zty p:=λk=>k.elim v λk=>k.elim w λk=>k.elim z A
 have u:atQ s p=onN s p (cdT s (vu p)):=Xc e;unfold zty at e;have d:(2:Int)^8=256:=dC;have t: -4096<=p.x/2^8/\p.x/2^8<=4096:=by rw[d];omega
 have G: -4096<=p.y/2^8/\p.y/2^8<=4096:=by rw[d];omega
 refine wb1<|wb1<|wb1<|Ar.fit (show-9223372036854775808<=p.x/2^8+1/\p.x/2^8+1<=9223372036854775807 by omega)<|wb1<|Ar.fit (show-9223372036854775808<=p.y/2^8+1/\p.y/2^8+1<=9223372036854775807 by omega) ?_;refine wg (zw9 s (vu p) B) ?_;have F:=zw8 s (vu p);intro C
 refine⟨Nat,λj=>⟨[(46,i64 j),(45,i64 ((cdT s (vu p)).length:Int)),(44,.sl zN (cdT s (vu p))),(6,.own 1),(3,.loc 0 0),(0,.dptr (ixT s))],[(0,.box 28 (ptE p)),(1,.arr 3 zN 1 (onN s p ((cdT s (vu p)).take j)))],2,71,0⟩,λj=>j<=(cdT s (vu p)).length,λj=>(cdT s (vu p)).length-j,0,Xh _,zB [(0,some 0),(1,none)],?_⟩
 rintro j o
 have o:j<=(cdT s (vu p)).length:=o
 have D:(onN s p ((cdT s (vu p)).take j)).length<=8:=by
  unfold onN;rw[Xv];refine XC (Qc _ _) ?_;rw[Xp];omega
 refine⟨λg:(j:Int)<(cdT s (vu p)).length=>?_,λg:¬(j:Int)<(cdT s (vu p)).length=>?_⟩
 .refine wb λi(hi:(cdT s (vu p))[j]?=some i)=>?_;refine wc<|wg (g_on s p i ht)<|⟨λc=>?_,λc=>?_⟩
  .refine Ob.mk (zDc (Xf hi)) λn E=>?_;refine⟨Int,zN,[n.id],rfl,wb3 ?_⟩;refine⟨[n.id],rfl,Ob.mk ⟨by show(((onN s p ((cdT s (vu p)).take j)).length:Int)+1)*8<=_;omega,by rw[X2];omega,dC,λx t=>by rw[Xt.1 t];rfl⟩ ?_⟩;exact wa<|⟨j+1,by show j+1<=(cdT s (vu p)).length;omega,zt [0,3] ⟨rfl,aR (by rw[zIi hi c,zjj E]),tV⟩,oN⟩
  exact wa<|⟨j+1,by show j+1<=(cdT s (vu p)).length;omega,zt [0,1] ⟨rfl,aR (on_no hi c).symm,tV⟩,oN⟩
 exact⟨some 1,.own _ rfl,Xg (λq=>some (zqI q)) (by rw[u,Xi oM]),qY _⟩
def zGo(s:Sc)(p:Pt)(ht:ji s)(c:s.ns.length<=8):CX 4 [.dptr (ixT s),wk p] (.sl zN (atQ s p)):=(zGn s p ht c).plain rfl
def zDd(a:BI)(h:a.mag.length<=1000000):CX 137 [wl a] (wl a):=by
 refine yJ 1 tok mix func137 rfl rfl rfl<|wd<|⟨Dig,dgE,[],rfl,wb2 ?_⟩;refine⟨a.mag,rfl,Ob.mk ⟨(by show(([]:LB).length+a.mag.length:Int)*(4:Int)<=_;rw[Xo];omega),(by rw[Xo];omega),dC,λ_ _=>rfl⟩ ?_⟩;exact wh<|.refl
def zjq(a:BR)(h:a.len<=1000000):CX 87 [wm a] (wm a):=by
 have c:a.num.mag.length<=1000000:=by unfold BR.len at h;omega
 have d:a.den.mag.length<=1000000:=by unfold BR.len at h;omega
 exact yJ 1 tok mix func87 rfl rfl rfl<|wd<|wg (zDd a.num c)<|wg (zDd a.den d)<|wh<|.refl
def zDe(t:AF)(h:t.le 1000000):CX 49 [wo t] (wo t):=by
 obtain⟨g,k,n,o,q,s⟩:=h;refine yJ 1 tok mix func49 rfl rfl rfl<|wd<|wg (zjq t.a g)<|wg (zjq t.b k)<|wg (zjq t.c n)<|wg (zjq t.d o) ?_;exact wg (zjq t.e q)<|wg (zjq t.f s)<|wh<|.refl
variable{row:LR}{α:Type}{ys:List α}
def zFA{c k:Nat}{enc:α->LR}(d:row[c]?=some (.own k))(j:Nat)(s':SV)(h:(row.set c (.sl enc ys))[j]?=some s'):
  ∃s,row[j]?=some s/\(s'=s∨(s=.own k/\s'=.sl enc ys)):=by
 rw[KB]at h
 by_cases e:c=j
 .subst e;rw[Xe rfl]at h
  by_cases q:c<row.length
  .rw[Xe q]at h;exact⟨_,d,.inr ⟨rfl,(Xl h).symm⟩⟩
  rw[Xc q]at h;cases h
 rw[Xc e]at h;exact⟨s',h,.inl rfl⟩
def zeW{O:St}(k g c:Nat){T T0:TypeId}{enc:α->LR}{sz sz0:Nat}{L:LN}(t:zO O.M k=some (.arr T enc sz ys))(h:zO O.M g=some (.garr T0 sz0 (L++[row])))(u:row[c]?=some (.own k))(hL:∀x∈L,x.length=sz0)(v:row.length=sz0):
  Sub O ⟨O.L,qL (k9 O.M k) g (.garr T0 sz0 (L++[row.set c (.sl enc ys)])),O.nk,O.nt,O.n0⟩:=by
 refine za6 k g t h (xs':=L++[row.set c (.sl enc ys)]) sI (λx d=>?_) (λi j x' s' d e=>?_)
 .rcases Xu.1 d with d|d
  .exact hL x d
  rw[Xt.1 d,XO];exact v
 rw[X9]at d
 by_cases q:i<L.length
 .rw[Xe q]at d;exact⟨x',s',by rw[X9,Xe q];exact d,e,.inl rfl⟩
 rw[Xc q]at d
 have hi:i-L.length=0:=by
  have:=(Xd.1 d).1;simp at this;omega
 rw[hi]at d;have d:x'=row.set c (.sl enc ys):=(Xl d).symm;rw[d]at e;obtain⟨s,n,o⟩:=zFA u j s' e;exact⟨row,s,by rw[X9,Xc q,hi];rfl,n,o⟩
def pntO(p:Pnt)(a b:Nat):LR:=
 i64 p.k::u8 p.c.r::u8 p.c.g::u8 p.c.b::u8 p.c.a::i64 p.p0.x::i64 p.p0.y::i64 p.p1.x::i64 p.p1.y::i64 p.r::.own a::i64 p.sp::i64 p.im.w::i64 p.im.h::.own b::i64 p.sm::afE p.t
def zxa{α:Type}{enc:α->LR}{tb:List (Nat×Option Nat)}(h:∀y,ren.rens tb (enc y)=some (enc y)){l m:List α}(e:l=m):
  (m.map enc).length=(l.map enc).length/\∀(j:Nat) x,(l.map enc)[j]?=some x->∃x',(m.map enc)[j]?=some x'/\ren.rens tb x=some x':=by
 subst e;refine⟨rfl,λj x c=>⟨x,c,?_⟩⟩;rw[XD]at c
 cases d:l[j]? with
 |none=>rw[d]at c;cases c
 |some y=>rw[d]at c;cases c;exact h y
def zu7(l:LY)(u:l.length<=1000)(o:∀p∈l,ltP p):CG0 50 [.sl qD l] [] (.own 0) [(0,.arr 72 qD 40 l)]:=by
 refine zch tok mix func50 rfl rfl rfl<|⟨Pnt,qD,[],rfl,wb2 ?_⟩;refine⟨Nat,λi=>⟨[(4,i64 i),(3,.own 0),(0,.sl qD l)],[(0,.garr 72 40 ((l.take i).map qD))],1,38,0⟩,λi=>i<=l.length,λi=>l.length-i,0,Xh _,?_,?_⟩
 .exact(zwF 0 (xs:=[]) rfl).trans (zt [0] ⟨⟨_,rfl,zxa (enc:=qD) (l:=[]) (m:=[]) (λ_=>rfl) rfl⟩,tV⟩)
 intro i hi;have hi:i<=l.length:=hi;intro n;refine⟨λg:(i:Int)<l.length=>?_,λg:¬(i:Int)<l.length=>?_⟩
 .refine wb λp(c:l[i]?=some p)=>?_;obtain⟨k,q,s⟩:=o p (Xf c);refine⟨zgH,zbN,[],rfl,wb2 ?_⟩;refine⟨p.st,rfl,Ob.mk ⟨(by show(([]:List zgH).length+p.st.length:Int)*(16:Int)<=_;rw[Xo];omega),(by rw[Xo];omega),dC,λ_ _=>rfl⟩ ?_⟩;refine⟨Pix,zcl,[],rfl,wb2 ?_⟩
  refine⟨p.im.px,rfl,Ob.mk ⟨(by show(([]:List Pix).length+p.im.px.length:Int)*(4:Int)<=_;rw[Xo];omega),(by rw[Xo];omega),dC,λ_ _=>rfl⟩ ?_⟩;refine wg (zDe p.t (k.up dC))<|⟨[pntO p 3 5],rfl,wb8 ?_⟩;have d:((l.take i).map qD).length<=1000:=by rw[Xv,Xp];omega
  refine Ob.mk ⟨by show((((l.take i).map qD).length:Int)+1)*520<=_;omega,by show((l.take i).map qD).length+1<=_;omega,dC⟩<|wa ?_
  have e:∀x∈(l.take i).map qD,x.length=40:=λx c=>by
   obtain⟨y,_,rfl⟩:=XK.1 c;rfl
  have h:(l.take (i+1)).map qD=(l.take i).map qD++[qD p]:=by rw[Xn,c,Xz];rfl
  refine⟨i+1,by show i+1<=_;omega,((zeW 3 7 10 (L:=(l.take i).map qD) (row:=pntO p 3 5) (enc:=zbN) (ys:=p.st) rfl rfl rfl e rfl).trans
   ((zeW 5 7 14 (L:=(l.take i).map qD) (row:=(pntO p 3 5).set 10 (.sl zbN p.st)) (enc:=zcl) (ys:=p.im.px) rfl rfl rfl e rfl).trans
    (zt [7] ⟨⟨_,rfl,?_⟩,tV⟩))),oN⟩
  show _/\∀(j:Nat) x,((l.take (i+1)).map qD)[j]?=some x->_;have:=zxa (enc:=qD) (tb:=[(0,some 7)]) (l:=l.take (i+1)) (m:=l.take (i+1)) (λ_=>rfl) rfl
  rwa [h]at this ⊢
 refine⟨_,zct 0 qD (l.take i) rfl (λ_ _=>rfl),some 0,.own 0 rfl,aR (Xi oM),λ_ _=>rfl⟩
def zo5(l:LY)(c:l.length<=1000)(d:∀p∈l,ltP p):CX 50 [.sl qD l] (.sl qD l):=(zu7 l c d).plain rfl
def ndQ(n:Nd)(cl pa da px:SV):LR:=
 i64 n.id::i64 n.k::i64 n.d::(afE n.t++(cl::i64 n.cr::u8 n.op::i64 n.mode::pr (n.iso=true)::pr (n.ko=true)::pa::i64 n.rule::.sl qD n.fill::
  (i64 n.pen.w::i64 n.pen.j::i64 n.pen.c::i64 n.pen.m::da::i64 n.pen.ph::.sl qD n.strk::i64 n.im.w::i64 n.im.h::px::[i64 n.smp])))
def cnM(n:Nd):LT:=[(0,ztv n.clip),(1,ztv n.path),(2,zqI n.pen.d),(3,.arr 131 zcl 4 n.im.px)]
def zDf(n:Nd)(h:ltN n):CG0 22 [ww n] [] (.agg (ndQ n (.own 0) (.own 1) (.own 2) (.own 3))) (cnM n):=by
 obtain⟨⟨k,o,q,s,g,u,v⟩,e⟩:=h;refine zjW tok mix func22 rfl rfl rfl<|wg (zDe n.t (g.up dC))<|⟨Sg,sgE,[],rfl,wb2 ?_⟩;refine⟨n.clip,rfl,Ob.mk ⟨(by show(([]:LX).length+n.clip.length:Int)*(56:Int)<=_;rw[Xo];omega),(by rw[Xo];omega),dC,λ_ _=>rfl⟩ ?_⟩;refine⟨Sg,sgE,[],rfl,wb2 ?_⟩;refine⟨n.path,rfl,Ob.mk ⟨(by show(([]:LX).length+n.path.length:Int)*(56:Int)<=_;rw[Xo];omega),(by rw[Xo];omega),dC,λ_ _=>rfl⟩ ?_⟩
 refine wg (zo5 n.fill oM λp c=>e p (Kz _ c))<|wg (zo5 n.strk oM λp c=>e p (Kt _ c))<|⟨Int,zN,[],rfl,wb2 ?_⟩;refine⟨n.pen.d,rfl,Ob.mk ⟨(by show(([]:LV).length+n.pen.d.length:Int)*(8:Int)<=_;rw[Xo];omega),(by rw[Xo];omega),dC,λ_ _=>rfl⟩ ?_⟩;refine⟨Pix,zcl,[],rfl,wb2 ?_⟩
 refine⟨n.im.px,rfl,Ob.mk ⟨(by show(([]:List Pix).length+n.im.px.length:Int)*(4:Int)<=_;rw[Xo];omega),(by rw[Xo];omega),dC,λ_ _=>rfl⟩ ?_⟩;exact⟨4,zf [4,6,8,10]⟩
def hcM(W H:Int)(bg:Pix)(l:LW)(i:Nat):LT:=(2,.garr 60 47 (zeU (l.take i) 3))::(zib (l.take i) 3++[(1,.box 26 (vals [.int .i64 0,.int .i64 0,.int .u8 0,.int .u8 0,.int .u8 0,.int .u8 0,.slice none 0 0])),(0,.box 26 (scE ⟨W,H,bg,l⟩))])
def hcS(W H:Int)(bg:Pix)(_:∀n∈l,ltN n)(i:Nat):St:=⟨[(4,i64 i),(3,.own 2),(2,.loc 1 0),(1,.loc 0 0)],hcM W H bg l i,i+3,30,0⟩
def idF(k:Nat):Nat->List (Nat×Option Nat)
 |0=>[]
 |n+1=>(k+n,some (k+n))::idF k n
def hcA(_:i<=m)(k:Nat):Nat:=i+k
def hcT(_:i<=m):List (Nat×Option Nat):=(0,some 0)::(1,some 1)::(2,some (i+8))::(i+3,some (i+4))::idF 3 i
def hcE:Nat->List (Nat×Option Nat)
 |0=>[(0,some 2)]
 |n+1=>(n+1,some (n+3))::hcE n
def zy6(W H:Int)(bg:Pix)(l:LW)(q:l.length<=8)(o:∀n∈l,ltN n):CG0 9 [wq ⟨W,H,bg,l⟩] [] (.agg (scO ⟨W,H,bg,l⟩ 0)) (clM l):=by
 rcases l with _|⟨a,_|⟨b,_|⟨c,_|⟨d,_|⟨e,_|⟨f,_|⟨g,_|⟨h,_|⟨i,r⟩⟩⟩⟩⟩⟩⟩⟩⟩
 rotate_right
 .simp only[Xm]at q;omega
 all_goals
  refine zjW tok mix func9 rfl rfl rfl<|⟨Nd,ndE,[],rfl,wb2 ?_⟩;refine⟨Nat,hcS W H bg o,λi=>i<=csN o,λi=>csN o-i,0,Xh _,(zwF 2 (xs:=[]) rfl).trans (zt [0,1,2] ⟨⟨_,rfl,rfl,λi x k=>nomatch k⟩,rfl,rfl,tV⟩),λi hi=>?_⟩
  rcases i with _|_|_|_|_|_|_|_|_|i
  rotate_right
  .have hi:i+9<=csN o:=hi;simp only[csN,Xm,Xo]at hi;omega
  all_goals
   intro s;refine⟨λg=>?_,λg=>?_⟩
   .first
     |exact absurd (Qm.1 g) (Yb.2 (Xw rfl))
     |refine Ob.mk ⟨Kv _,g⟩ ?_
      intro x k;obtain rfl:=Xl k;refine zb.give [] 4 _ [] (cnM _) _ (zDf _ (o _ (by simp only[XA,true_or,or_true]))) .refl rfl rfl rfl trivial rfl (by repeat' constructor)<|⟨[_],rfl,wb8 ?_⟩;refine Ob.mk ⟨by simp only[X8,QC,zeU,Xm,Xo];decide,by simp only[X8,QC,zeU,Xm,Xo];decide,dC⟩<|Ar.fit dC ?_
      exact⟨_,X1 (Qm.1 g),(zeW (hcA hi 3) (hcA hi 8) 27 rfl rfl rfl (zcU _ _) rfl).trans ((zeW (hcA hi 5) (hcA hi 8) 40 rfl rfl rfl (zcU _ _) rfl).trans ((zeW (hcA hi 6) (hcA hi 8) 45 rfl rfl rfl (zcU _ _) rfl).trans
       (kM (hcT hi) rfl rfl rfl ⟨rfl,rfl,rfl,rfl,tV⟩ ⟨⟨_,rfl,rfl,λi x k=>by rcases i with _|_|_|_|_|_|_|_|i <;> first|(cases k;exact⟨_,rfl,rfl⟩)|cases k⟩,by repeat' constructor⟩))),J0 (Qm.1 g) (XZ _)⟩
   first
    |exact absurd (Qm.2 (Xw rfl)) g
    |exact⟨csN o+1,kM (hcE (csN o)) rfl rfl rfl ⟨rfl,tV⟩ ⟨⟨_,rfl,rfl,λi x k=>by rcases i with _|_|_|_|_|_|_|_|i <;> first|(cases k;exact⟨_,rfl,rfl⟩)|cases k⟩,by repeat' constructor⟩⟩
def ixZ:LR:=vals [.int .i64 0,.int .i64 0,.int .u8 0,.int .u8 0,.int .u8 0,.int .u8 0,.slice none 0 0,.slice none 0 0,.pointer none]
abbrev isZ(v:SV):Prop:=v=.val (.pointer none)∨v=.ptr ixZ
def zxb(v:SV)(r:Rc)(c:isZ v):CX 14 [v,wr r] nS:=by
 rcases c with rfl|rfl
 all_goals exact zc func14 .refl
def zfG(v:SV)(r:Rc)(c:isZ v):CX 5 [v,wr r] nS:=by
 have h:=λv c=>zxb v r c
 rcases c with rfl|rfl
 all_goals
  exact zc func5<|wg (h _ (by first|exact .inl rfl|exact .inr rfl))<|⟨Unit,λ_=>⟨[(12,i64 0),(11,i64 0),(5,nS)],[],2,30,0⟩,λ_=>True,λ_=>0,(),tV,zB [],λ_ _=>Br.mk (λg=>absurd g dC) (λ_=>.refl)⟩
def zxc(v:SV)(p:Pt)(c:isZ v):CX 4 [v,wk p] nS:=by
 have h:=λv c=>zxb v (vu p) c
 rcases c with rfl|rfl
 all_goals
  refine zc func4<|Br.mk (λ_=>.refl) (λe=>?_);refine⟨λ_=>.refl,λk=>?_⟩;refine⟨λ_=>.refl,λn=>?_⟩;refine⟨λ_=>.refl,λo=>?_⟩;have d:(2:Int)^8=256:=dC;have q: -4096<=p.x/2^8/\p.x/2^8<=4096:=by rw[d];omega
  have s: -4096<=p.y/2^8/\p.y/2^8<=4096:=by rw[d];omega
  refine wb1<|wb1<|wb1<|Ar.fit (show-9223372036854775808<=p.x/2^8+1/\p.x/2^8+1<=9223372036854775807 by omega)<|wb1<|Ar.fit (show-9223372036854775808<=p.y/2^8+1/\p.y/2^8+1<=9223372036854775807 by omega) ?_;exact wg (h _ (by first|exact .inl rfl|exact .inr rfl))<|⟨Unit,λ_=>⟨[(46,i64 0),(45,i64 0),(6,nS)],[],2,71,0⟩,λ_=>True,λ_=>0,(),tV,zB [],λ_ _=>Br.mk (λg=>absurd g dC) (λ_=>.refl)⟩
end Go.Gs
