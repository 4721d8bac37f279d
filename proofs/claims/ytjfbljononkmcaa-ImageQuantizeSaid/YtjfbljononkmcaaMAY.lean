/- Boxes cut in place: the program's. -/
import Derived.Test.YtjfbljononkmcaaMA
import Derived.Test.YtjfbljononkmcaaMAX
set_option maxRecDepth 100000
set_option maxHeartbeats 8000000
set_option linter.all false
namespace Go.Gs
open Go.Proofs
theorem zgZ{σ:St}(k k0:Nat){T T0:TypeId}{α:Type}{enc:α->List SV}{sz:Nat}{ys:List α}(hk:zl σ.M k=some (.arr T enc sz ys))(h0:zl σ.M k0=some (.garr T0 1 [[.own k]]))(hy:ys≠[]):
  Sub σ ⟨σ.L,zJ σ.M k0 (.garr T0 1 [[.win k sz 0 (ys.length:Int)]]),σ.nk,σ.nt,σ.n0⟩:=by
 intro E ρ a w hr;obtain ⟨ρ',h⟩:=zhz (σ:=σ) k0 (m':=.garr T0 1 [[.own k]]) h0 (fun _ _ _ _ h=>h) E ρ a w hr;refine ⟨ρ,?_⟩;have hkeys:∀{m:Mem},(zJ σ.M k0 m).map (·.1)=σ.M.map (·.1):=qx;have hown:∀{m:Mem} b,Own (zJ σ.M k0 m) ρ b->Own σ.M ρ b:=fun b hb=>k8 hkeys.symm hb
 have hown':∀{m:Mem} b,Own σ.M ρ b->Own (zJ σ.M k0 m) ρ b:=fun b hb=>k8 hkeys hb
 have eo:∀{m:Mem},Own (zJ σ.M k0 m) ρ=Own σ.M ρ:=funext fun b=>propext ⟨hown b,hown' b⟩
 refine ⟨hr.size,hr.defers,fun t s hl=>?_,⟨fun k1 m1 h1=>?_,kv hkeys hr.mem.keys,fun k1 m1 k2 m2 v1 v2 b h1 h2=>?_,fun b hb=>hr.mem.old b (hown b hb),hr.mem.kp,hr.mem.glO hown⟩,
  hr.fresh,?_,hr.keep,hr.low⟩
 ·show t < σ.nt/\G (fun b=>E.Keep b∨Own (zJ σ.M k0 _) ρ b) (Own (zJ σ.M k0 _) ρ) ρ w s (a.tmps.getD t undef);rw [eo];exact hr.regs t s hl
 ·show kL (fun b=>E.Keep b∨Own (zJ σ.M k0 _) ρ b) (Own (zJ σ.M k0 _) ρ) ρ w k1 m1;rw [eo]
  rcases z4 hr.mem.keys _ h1 with ⟨_,h2⟩ | h2
  ·exact hr.mem.rel k1 m1 h2
  ·cases h2
   obtain ⟨v,cells,g1,g2,g3,g4,g5,g6⟩:=hr.mem.rel k0 _ (zg h0);obtain ⟨v',cells',f1,f2,_⟩:=hr.mem.rel k _ (zg hk);refine ⟨v,cells,g1,g2,g3,g4,fun x hx=>by rw [List.mem_singleton.1 hx];rfl,fun i j x s hx hs=>?_⟩
   match i,hx with
   | 0,hx=>
    cases hx
    match j,hs with
    | 0,hs=>
     cases hs
     obtain ⟨u,hu,hgu⟩:=g6 0 0 _ _ rfl rfl;refine ⟨u,hu,?_⟩;have e:=hgu.own_inv.1;rw [f1] at e
     cases e
     rcases f2.2 with ⟨_,h00⟩ | ⟨g,cap,cur,hx,_,_,hnc,_⟩
     ·exact absurd (List.eq_nil_of_length_eq_zero h00) hy
     ·subst hx;have:=G.win (S:=fun b=>E.Keep b∨Own σ.M ρ b) (Pm:=Own σ.M ρ) (w:=w) k sz 0 (ys.length:Int) g ys.length cap cap f1 (by simp) (by simpa using hnc)
      simpa using this
    | j+1,hs=>cases hs
   | i+1,hx=>cases hx
 ·have back:∀{m:Mem} k1 m1,(k1,m1)∈zJ σ.M k0 m->∃m',(k1,m')∈σ.M:=fun k1 m1 h=>by
   rcases z4 hr.mem.keys _ h with ⟨_,h2⟩ | h2
   ·exact ⟨m1,h2⟩
   ·cases h2;exact ⟨_,zg h0⟩
  obtain ⟨m1',h1'⟩:=back _ _ h1;obtain ⟨m2',h2'⟩:=back _ _ h2;exact hr.mem.apart k1 m1' k2 m2' v1 v2 b h1' h2'
 ·show Stp E.W0 (Own (zJ σ.M k0 _) ρ) E.ρ0 ρ E.w0 w;rw [eo];exact hr.stp
def vu(m:Img)(n:Nat):Nat->List Int×List (Nat×Nat)->List Int×List (Nat×Nat)
 | 0,s=>s
 | f+1,s=>if s.2.length < n then (if (zy m (zI s.1 s.2)).2.1=0 then s else
   vu m n f (kf (zC m (zy m (zI s.1 s.2)).2.2.toNat) s.1 (s.2.getD (zy m (zI s.1 s.2)).1.toNat (0,0)).1 ((s.2.getD (zy m (zI s.1 s.2)).1.toNat (0,0)).1+(s.2.getD (zy m (zI s.1 s.2)).1.toNat (0,0)).2),
    uY s.2 (zy m (zI s.1 s.2)).1.toNat (s.2.getD (zy m (zI s.1 s.2)).1.toNat (0,0)))) else s
def zbi(m:Img)(n:Nat):List Int×List (Nat×Nat):=vu m n n (yj m,[(0,m.px.length)])
theorem qJ(l:List Int)(ws:List (Nat×Nat)):(zI l ws).length=ws.length:=by simp [zI]
theorem zdE{m:Img}(hp:P8s m)(n:Nat):∀(f:Nat) (l:List Int) (ws:List (Nat×Nat)),zdB l ws->un m (zI l ws)->zI (vu m n f (l,ws)).1 (vu m n f (l,ws)).2=vt m n f (zI l ws)/\zdB (vu m n f (l,ws)).1 (vu m n f (l,ws)).2
 | 0,l,ws,h,_=>⟨rfl,h⟩
 | f+1,l,ws,h,hb=>by
  unfold vu vt;rw [qJ];dsimp only
  split
  ·split
   ·exact ⟨rfl,h⟩
   ·rename_i h2;obtain ⟨⟨h3,_⟩,_⟩:=uW hp hb h2;rw [qJ] at h3
    have hu:ws[(zy m (zI l ws)).1.toNat]? =some (ws.getD (zy m (zI l ws)).1.toNat (0,0)):=by
     rw [List.getD_eq_getElem?_getD,List.getElem?_eq_getElem h3];rfl
    obtain ⟨_,k2,k3⟩:=ze2 hp h hb h2 hu;have:=zdE hp n f _ _ k2 (k3 ▸ (vY hp hb h2).1);rw [k3] at this;exact this
  ·exact ⟨rfl,h⟩
theorem jM(m:Img):(yj m).length=m.px.length:=by simp [yj]
theorem zcz(m:Img):zI (yj m) [(0,m.px.length)]=[yj m]:=by
 show [seg (yj m) 0 (0+m.px.length)]=_;unfold seg;rw [List.drop_zero,List.take_of_length_le (by rw [jM];omega)]
theorem zg0{m:Img}(h:1<=m.px.length):zdB (yj m) [(0,m.px.length)]:=by
 refine ⟨fun i j u v hij hu hv=>?_,fun w hw=>?_⟩
 ·have:=(List.getElem?_eq_some_iff.1 hu).1;have:=(List.getElem?_eq_some_iff.1 hv).1;simp at*;omega
 ·obtain rfl:=List.mem_singleton.1 hw;exact ⟨h,by rw [jM];simp⟩
theorem zg1{m:Img}(hp:P8s m)(hm:qr m)(h:1<=m.px.length)(n:Nat):zI (zbi m n).1 (zbi m n).2=yK m n/\zdB (zbi m n).1 (zbi m n).2:=by
 have:=zdE hp n n _ _ (zg0 h) (by rw [zcz];exact uX hm)
 rwa [zcz] at this
theorem jN(κ:Nat)(ws:List (Nat×Nat)):(qt ws).map (k6.rens [2,1] κ)=qt ws:=by
 unfold qt;rw [List.map_map];rfl
theorem zg2(ws:List (Nat×Nat)):∀x∈qt ws,yl.lows 2 x=true:=fun x hx=>by
 obtain ⟨u,_,rfl⟩:=List.mem_map.1 hx;rfl
theorem zdF(ws:List (Nat×Nat)):∀x∈qt ws,ym.outs 2 x=true:=fun x hx=>by
 obtain ⟨u,_,rfl⟩:=List.mem_map.1 hx;rfl
theorem zcA{m:Img}(hm:qr m):1<=m.px.length/\m.px.length<=65536:=by
 obtain ⟨m1,m2,m3,m4,_⟩:=hm;have hpos:0 < m.w*m.h:=Int.mul_pos oM oM;omega
theorem c_cut(m:Img)(n:Nat)(hp:P8s m)(hm:qr m)(hn:1<=n/\n<=256):zf Try.prog 62 [.agg (kj m),i64 (n:Int)] [] (.own 0) (Mws (zbi m n).1 (zbi m n).2):=by
 obtain ⟨N1,N2⟩:=zcA hm;refine zaY tok mix Try.func62 rfl rfl rfl ?_;intro _;refine ⟨Int,zq,0,rfl,Ob.o2 ?_⟩;have eN:(List.replicate (m.px.length:Int).toNat (0:Int)).length=m.px.length:=by simp
 intro _;rw [eN]
 refine ⟨Nat×List Int,fun ⟨i,s⟩=>⟨[(19,i64 (i:Int)),(18,i64 (m.px.length:Int)),(5,.own 1),(2,.loc 0 0),(1,i64 (n:Int))],[(1,.arr 3 zq 1 s),(0,.box 28 (kj m))],2,66,0⟩,
  fun z=>z.1<=m.px.length/\z.2.length=m.px.length/\∀q,q < z.1->gz z.2 q=q,fun z=>m.px.length - z.1,(0,List.replicate (m.px.length:Int).toNat 0),⟨Nat.zero_le _,eN,fun q h=>absurd h (Nat.not_lt_zero q)⟩,?_,?_⟩
 ·exact zo [(0,some 0),(1,some 1)]
 rintro ⟨i,s⟩ ⟨hi,hs,hq⟩
 have hi:i<=m.px.length:=hi;have hs:s.length=m.px.length:=hs;have hq:∀q,q < i->gz s q=q:=hq;refine Br.mk (fun g=>?_) (fun g=>?_)
 ·have g:(i:Int) < (m.px.length:Int):=g;refine Ob.o ?_;refine Ob.o ?_;intro _ _;refine ⟨(i:Int),rfl,?_⟩;refine Ar.o ?_;refine ⟨(i+1,s.set (i:Int).toNat (i:Int)),⟨by show i+1<=m.px.length;omega,by show (s.set _ _).length=_;rw [List.length_set];exact hs,fun q h=>?_⟩,zo [(0,some 0),(1,some 1)],by dsimp only;omega⟩;have h:q < i+1:=h;show gz (s.set (i:Int).toNat (i:Int)) q=q;rw [Int.toNat_natCast,zct]
  by_cases c:i=q
  ·subst c;rw [if_pos ⟨rfl,oM⟩]
  ·rw [if_neg (fun k=>c k.1)];exact hq q oM
 have g:¬(i:Int) < (m.px.length:Int):=g;obtain rfl:i=m.px.length:=oM
 have es:s=yj m:=qi (by rw [hs,jM]) fun q h=>by
  rw [hq q oM];unfold gz yj;rw [List.getD_eq_getElem?_getD,List.getElem?_map,List.getElem?_range oM];rfl
 subst es;clear hq hs hi;refine ⟨[[.own 1]],rfl,Ob.o3 ?_⟩
 refine ⟨Nat×List Int×List (Nat×Nat),fun ⟨_,l,ws⟩=>⟨[(7,.own 2),(2,.loc 0 0),(1,i64 (n:Int))],[(2,.garr 53 1 (qt ws)),(1,.arr 3 zq 1 l),(0,.box 28 (kj m))],3,66,0⟩,
  fun z=>vu m n z.1 z.2=zbi m n/\zdB z.2.1 z.2.2/\un m (zI z.2.1 z.2.2)/\InP m z.2.1/\z.2.1.length=m.px.length/\n<=z.1+z.2.2.length/\z.2.2.length<=n,fun z=>z.1,(n,yj m,[(0,m.px.length)]),⟨rfl,zg0 N1,by rw [zcz];exact uX hm,((uX hm).2 _ (.head _)).2.1,jM m,by dsimp only;omega,by dsimp only;simp;omega⟩,?_,?_⟩
 ·refine (zgZ 1 2 rfl rfl (fun e=>by have:=jM m;rw [e,List.length_nil] at this;omega)).trans ?_;rw [jM];exact kD [(0,some 0),(1,some 1),(2,some 2)] ⟨⟨_,rfl,rfl,qu rfl [(0,m.px.length)]⟩,rfl,rfl,trivial⟩
 rintro ⟨f,l,ws⟩ ⟨h1,h2,h3,h4,h5,h6,h7⟩
 have h1:vu m n f (l,ws)=zbi m n:=h1;have h2:zdB l ws:=h2;have h3:un m (zI l ws):=h3;have h4:InP m l:=h4;have h5:l.length=m.px.length:=h5;have h6:n<=f+ws.length:=h6;have h7:ws.length<=n:=h7;intro _;rw [qI];refine Br.mk (fun g=>?_) (fun g=>?_);rotate_left
 ·have g:¬(ws.length:Int) < (n:Int):=g
  have e:vu m n f (l,ws)=(l,ws):=by
   cases f with
   | zero=>rfl
   | succ f=>exact if_neg (by show ¬ws.length < n;omega)
  rw [← h1,e];exact ⟨⟨[(4,.own 0)],Mws l ws,2,66,0⟩,kD [(0,some 2),(1,some 1)] ⟨⟨_,rfl,rfl,qu rfl ws⟩,rfl,trivial⟩,rfl,.refl⟩
 have g:(ws.length:Int) < (n:Int):=g;obtain ⟨f,rfl⟩:∃k,f=k+1:=⟨f - 1,oM⟩;have cw:=zgY m l ws hp h4;obtain ⟨w1,w2,w3,_⟩:=uV hp (zI l ws) (zI l ws).length
 obtain ⟨a,e,c,hw⟩:∃(a:Nat) (e:Int) (c:Nat),zy m (zI l ws)=((a:Int),e,(c:Int)):=⟨(zy m (zI l ws)).1.toNat,(zy m (zI l ws)).2.1,(zy m (zI l ws)).2.2.toNat,
  Prod.ext (Int.toNat_of_nonneg w3.1).symm (Prod.ext rfl (Int.toNat_of_nonneg w2.1).symm)⟩
 have step:vu m n (f+1) (l,ws)=if e=0 then (l,ws) else vu m n f (kf (zC m c) l (ws.getD a (0,0)).1 ((ws.getD a (0,0)).1+(ws.getD a (0,0)).2),uY ws a (ws.getD a (0,0))):=by
  rw [vu,hw,if_pos (by dsimp only;omega)];rfl
 rw [hw] at cw;have cw:zf Try.prog 73 [.agg (kj m),.own 0] (Mws l ws) (.tup [i64 (a:Int),i64 e,i64 (c:Int)]) (Mws l ws):=cw;refine ze.give [2,1] 0 [.agg (kj m),.own 0] (Mws l ws) (Mws l ws) _ cw LEs.refl rfl rfl rfl ⟨⟨_,rfl,congrArg (fun z=>some (Mem.garr 53 1 z)) (jN _ ws).symm,zg2 ws⟩,⟨_,rfl,rfl,trivial⟩,trivial⟩ rfl ⟨⟨rfl,zdF ws⟩,⟨rfl,trivial⟩,trivial⟩ ?_;refine Br.mk (fun q=>?_) (fun q=>?_)
 ·have q:e=0:=q;rw [if_pos q] at step;rw [← h1,step];exact ⟨⟨[(4,.own 0)],Mws l ws,2,66,0⟩,kD [(0,some 2),(1,some 1)] ⟨⟨qt ws,congrArg (fun z=>some (Mem.garr 53 1 z)) (jN _ ws),rfl,qu rfl ws⟩,rfl,trivial⟩,rfl,.refl⟩
 have q:¬e=0:=q;rw [if_neg q] at step;have hne:(zy m (zI l ws)).2.1≠0:=by rw [hw];exact q
 obtain ⟨⟨x1,_⟩,⟨x2,_⟩,_⟩:=uW hp h3 hne;rw [hw,qJ] at x1;rw [hw] at x2;have x1:a < ws.length:=x1;have x2:c < 4:=x2;have hu:ws[a]? =some (ws.getD a (0,0)):=by rw [List.getD_eq_getElem?_getD,List.getElem?_eq_getElem x1];rfl
 have hu':ws[(zy m (zI l ws)).1.toNat]? =some (ws.getD a (0,0)):=by rw [hw];exact hu
 obtain ⟨y1,y2,y3⟩:=ze2 hp h2 h3 hne hu';rw [hw] at y2 y3;have y0:=(h2.2 _ (List.mem_of_getElem? hu)).2;have hcut:=vY hp h3 hne;rw [← y3] at hcut;generalize ws.getD a (0,0)=u at*;have kp:=(z2 (qN hp c) (l:=l) (a:=u.1) (b:=u.1+u.2) oM y0).1;have hml:((qt ws).map (k6.rens [2,1] 3)).length=ws.length:=by rw [jN,qI]
 refine Ob.mk (by rw [hml];omega) ?_;refine Ob.mk (by rw [hml];omega) ?_;intro x hx
 have hx:x=[.win 1 1 (u.1:Int) (u.2:Int)]:=by
  have hx:((qt ws).map (k6.rens [2,1] 3))[a]? =some x:=hx;rw [jN] at hx;obtain ⟨v,hv,e⟩:=yW hx;rw [hu] at hv
  cases hv;exact e
 rw [hx];refine ze.hand 1 _ _ _ rfl (zhx m c l u.1 u.2 hp x2 h4 oM y0) (zk _ _) (zk _ _) rfl rfl ?_;refine Ob.o ?_;refine Dv.pos ⟨oM,dC,by show (u.2:Int)<=9223372036854775807;omega⟩ ?_;refine Ob.o ?_;refine Ob.mk (by rw [hml];omega) ?_;refine Ob.mk (by rw [hml];omega) ?_;intro x' hx'
 have hx':x'=[.win 1 1 (u.1:Int) (u.2:Int)]:=by
  have hx':((qt ws).map (k6.rens [2,1] 3))[a]? =some x':=hx';rw [jN] at hx';obtain ⟨v,hv,e⟩:=yW hx';rw [hu] at hv
  cases hv;exact e
 rw [hx'];refine Ob.o ?_;refine ⟨[[.win 1 1 ((u.1:Int)+(u.2:Int) / 2) ((u.2:Int) - (u.2:Int) / 2)]],rfl,Ob.o3 ?_⟩;refine Ob.mk ⟨by show (_+_)*(24:Int)<=_;rw [List.length_set,hml,List.length_singleton];omega,by rw [List.length_set,hml,List.length_singleton];omega,dC⟩ ?_;refine ⟨(f,kf (zC m c) l u.1 (u.1+u.2),uY ws a u),⟨by rw [← step];exact h1,y2,hcut.1,h4.of kp.same,by show (kf _ _ _ _).length=_;rw [kp.len];exact h5,?_,?_⟩,?_,Nat.lt_succ_self f⟩
 ·have:=hcut.2;rw [qJ,qJ] at this;have this:(uY ws a u).length=ws.length+1:=this;show n<=f+(uY ws a u).length;omega
 ·have:=hcut.2;rw [qJ,qJ] at this;have this:(uY ws a u).length=ws.length+1:=this;show (uY ws a u).length<=n;omega
 ·refine kD [(0,some 0),(1,some 1),(2,some 5)] ⟨⟨qt (uY ws a u),congrArg (fun z=>some (Mem.garr 53 1 z)) ?_,rfl,qu rfl _⟩,rfl,rfl,trivial⟩;show (((qt ws).map (k6.rens [2,1] 3)).set (a:Int).toNat [.win 1 1 ((u.1:Int)+0) ((u.2:Int) / 2 - 0)])++[[.win 1 1 ((u.1:Int)+(u.2:Int) / 2) ((u.2:Int) - (u.2:Int) / 2)]]=_;rw [jN];unfold qt uY;rw [List.map_append,List.map_set,Int.toNat_natCast];have e1:(u.1:Int)+0=(u.1:Int):=oM;have e2:(u.2:Int) / 2 - 0=((u.2 / 2:Nat):Int):=oM
  have e3:(u.1:Int)+(u.2:Int) / 2=((u.1+u.2 / 2:Nat):Int):=oM;have e4:(u.2:Int) - (u.2:Int) / 2=((u.2 - u.2 / 2:Nat):Int):=oM;rw [e1,e2,e3,e4];rfl
theorem zfG(m:Img)(b:List Int)(hp:P8s m)(hb:InP m b)(hne:b≠[]):zf Try.prog 76 [.agg (kj m),.sl zq b] [] (.tup [i64 (jf m b).1,i64 (jf m b).2]) []:=by
 refine zh tok mix Try.func76 rfl rfl rfl ?_;refine ⟨Nat,fun i=>⟨[(8,i64 (i:Int)),(6,i64 (kP m b (-1,0) i).1),(7,i64 (kP m b (-1,0) i).2),(1,.sl zq b),(2,.loc 0 0)],[(0,.box 28 (kj m))],1,50,0⟩,fun i=>i<=4,fun i=>4 - i,0,Nat.zero_le _,?_,?_⟩
 ·exact zo [(0,some 0)]
 intro i hi;have hi:i<=4:=hi;have r1:=zei hp hne i hi;refine Br.mk (fun g=>?_) (fun g=>?_)
 ·have g:(i:Int) < 4:=g;have hk:=qN hp i;refine ⟨Nat,fun j=>⟨[(11,i64 (j:Int)),(9,i64 (je (zC m i) (b.take j))),(10,i64 (kU (zC m i) (b.take j))),(8,i64 (i:Int)),(6,i64 (kP m b (-1,0) i).1),(7,i64 (kP m b (-1,0) i).2),(1,.sl zq b),(2,.loc 0 0)],[(0,.box 28 (kj m))],1,50,0⟩,fun j=>j<=b.length,fun j=>b.length - j,0,Nat.zero_le _,?_,?_⟩
  ·exact ki [(0,some 0)] ⟨rfl,qv (by rw [List.take_zero];rfl),qv (by rw [List.take_zero];rfl),rfl,rfl,rfl,rfl,rfl,trivial⟩ ⟨rfl,trivial⟩
  intro j hj;have hj:j<=b.length:=hj;intro hl;have hl:b.length<=9223372036854775807:=hl;refine Br.mk (fun h=>?_) (fun h=>?_)
  ·have h:(j:Int) < (b.length:Int):=h;refine Dr.k ?_;refine Ob.o ?_;intro x hx;have hx:b[j]? =some x:=hx;refine Ob.mk (hb.at hx) ?_;intro p hpx;have hpx:m.px[x.toNat]? =some p:=hpx;refine ze.t (zcw p i (ze4 hp hpx) oM) ?_;refine Ar.o ?_;refine ⟨j+1,by show j+1<=b.length;omega,ki [(0,some 0)] ⟨rfl,qv ?_,qv ?_,rfl,rfl,rfl,rfl,rfl,trivial⟩ ⟨rfl,trivial⟩,by dsimp only;omega⟩
   ·rw [zdD hx,u0 hpx];rfl
   ·rw [zbP hx,u0 hpx];rfl
  ·have h:¬(j:Int) < (b.length:Int):=h;obtain rfl:j=b.length:=oM;obtain ⟨k1,k2,_⟩:=zgR hk b;have e:kU (zC m i) b - je (zC m i) b=yi m b i:=rfl;have et:b.take b.length=b:=List.take_length;have e0:kU (zC m i) (b.take b.length) - je (zC m i) (b.take b.length)=yi m b i:=by rw [et];exact e
   have k1:0<=je (zC m i) (b.take b.length)/\je (zC m i) (b.take b.length)<=255:=by rw [et];exact k1
   have k2:0<=kU (zC m i) (b.take b.length)/\kU (zC m i) (b.take b.length)<=255:=by rw [et];exact k2
   refine Ar.o ?_;refine Br.mk (fun q=>?_) (fun q=>?_)
   ·have q:(kP m b (-1,0) i).1 < kU (zC m i) (b.take b.length) - je (zC m i) (b.take b.length):=q;rw [e0] at q;have e2:kP m b (-1,0) (i+1)=(yi m b i,(i:Int)):=if_pos q;(iterate 2 refine Ar.o ?_);exact ⟨i+1,by show i+1<=4;omega,ki [(0,some 0)] ⟨rfl,qv (by rw [e2];exact e0),qv (by rw [e2]),rfl,rfl,trivial⟩ ⟨rfl,trivial⟩,by dsimp only;omega⟩
   ·have q:¬(kP m b (-1,0) i).1 < kU (zC m i) (b.take b.length) - je (zC m i) (b.take b.length):=q;rw [e0] at q;have e2:kP m b (-1,0) (i+1)=kP m b (-1,0) i:=if_neg q;refine Ar.o ?_;exact ⟨i+1,by show i+1<=4;omega,ki [(0,some 0)] ⟨rfl,qv (by rw [e2]),qv (by rw [e2]),rfl,rfl,trivial⟩ ⟨rfl,trivial⟩,by dsimp only;omega⟩
 ·have g:¬(i:Int) < 4:=g;obtain rfl:i=4:=oM;have e:=zaX hp hne 3;unfold jf;rw [← e];exact .refl
theorem zbQ(key:Int->Int)(b:List Int):∀n:Nat,(jH key b n).length<=n*b.length
 | 0=>by simp [jH]
 | n+1=>by
  rw [yb,List.length_append,Nat.succ_mul];have:=zbQ key b n;have:(ofK key n b).length<=b.length:=List.length_filter_le _ _;omega
theorem zg3{key:Int->Int}{v:Int}{b:List Int}{i:Nat}{x:Int}(h:b[i]? =some x):ofK key v (b.take (i+1))=ofK key v (b.take i)++(if key x=v then [x] else []):=by
 rw [List.take_add_one,h,Option.toList_some,ya];congr 1;unfold ofK
 by_cases c:key x=v
 ·rw [if_pos c];simp [c]
 ·rw [if_neg c];simp [c]
theorem ze5(x:Int):([x]:List Int).length=1/\(1:Nat)<=281474976710656/\1*1<=16777216/\0 < 1/\∀y∈[x],(zq y).length=1/\z0 (zq y)=true/\kz.flats (zq y)=true:=
 ⟨rfl,dC,dC,dC,fun _ _=>⟨rfl,rfl,rfl⟩⟩
theorem ze6{l:List Int}{x:Int}(h:l.length<=100000000):((l.length:Int)+(([x]:List Int).length:Int))*8<=140737488355328/\l.length+([x]:List Int).length<=281474976710656/\0 < 1/\∀y∈[x],(zq y).length=1:=
 ⟨by rw [List.length_singleton];omega,by rw [List.length_singleton];omega,dC,fun _ _=>rfl⟩
theorem ze7:([]:List Int).length=0/\(0:Nat)<=281474976710656/\0*1<=16777216/\0 < 1/\∀y∈([]:List Int),(zq y).length=1/\z0 (zq y)=true/\kz.flats (zq y)=true:=
 ⟨rfl,dC,dC,dC,fun _ h=>by cases h⟩
theorem y4{l l':List Int}(h:l=l'):some (Mem.arr 3 zq 1 l)=some (Mem.arr 3 zq 1 l'):=by rw [h]
theorem zg4(m:Img)(b:List Int)(c:Nat)(hp:P8s m)(hc:c < 4)(hb:InP m b)(hl:b.length<=65536):zf Try.prog 77 [.agg (kj m),.sl zq b,i64 (c:Int)] [] (.own 0) [(0,.arr 3 zq 1 (ke (zC m c) b))]:=by
 refine kJ tok mix Try.func77 rfl rfl rfl ?_;refine ⟨Int,zq,[],rfl,Ob.mk ze7 ?_⟩;refine ⟨Nat,fun v=>⟨[(8,i64 (v:Int)),(7,.own 1),(1,.sl zq b),(2,i64 (c:Int)),(3,.loc 0 0)],[(1,.arr 3 zq 1 (jH (zC m c) b v)),(0,.box 28 (kj m))],2,41,0⟩,fun v=>v<=256,fun v=>256 - v,0,Nat.zero_le _,?_,?_⟩
 ·exact zo [(0,some 0),(1,some 1)]
 intro v hv;have hv:v<=256:=hv;refine Br.mk (fun g=>?_) (fun g=>?_)
 ·have g:(v:Int) < 256:=g;have hsl:(jH (zC m c) b v).length<=256*65536:=Nat.le_trans (zbQ _ _ _) (Nat.mul_le_mul hv hl);refine ⟨Nat,fun i=>⟨[(9,i64 (i:Int)),(8,i64 (v:Int)),(7,.own 1),(1,.sl zq b),(2,i64 (c:Int)),(3,.loc 0 0)],[(1,.arr 3 zq 1 (jH (zC m c) b v++ofK (zC m c) v (b.take i))),(0,.box 28 (kj m))],2,41,0⟩,fun i=>i<=b.length,fun i=>b.length - i,0,Nat.zero_le _,?_,?_⟩
  ·exact kD [(0,some 0),(1,some 1)] ⟨y4 (by rw [List.take_zero];exact (List.append_nil _).symm),rfl,trivial⟩
  intro i hi;have hi:i<=b.length:=hi;intro _;refine Br.mk (fun h=>?_) (fun h=>?_)
  ·have h:(i:Int) < (b.length:Int):=h;refine Dr.k ?_;refine Ob.o ?_;intro x hx;have hx:b[i]? =some x:=hx;refine Ob.mk (hb.at hx) ?_;intro p hpx;have hpx:m.px[x.toNat]? =some p:=hpx;have ek:=u0 (c:=c) hpx;have eo:=zg3 (key:=zC m c) (v:=(v:Int)) hx;refine ze.t (zcw p c (ze4 hp hpx) hc) ?_;refine Br.mk (fun q=>?_) (fun q=>?_)
   ·have q:(pL p).getD c 0=(v:Int):=q;rw [← ek] at q;rw [if_pos q] at eo;refine Ob.o ?_;intro x' hx';have hx':b[i]? =some x':=hx';obtain rfl:x=x':=by rw [hx] at hx';exact Option.some.inj hx'
    refine ⟨Int,zq,[x],rfl,Ob.mk (ze5 x) ?_⟩;refine ⟨[x],rfl,Ob.mk (ze6 ?_) ?_⟩
    ·have:(ofK (zC m c) v (b.take i)).length<=(b.take i).length:=List.length_filter_le _ _;rw [List.length_append];rw [List.length_take] at this;omega
    refine Ar.o ?_;exact ⟨i+1,by show i+1<=b.length;omega,kD [(0,some 0),(1,some 3)] ⟨y4 (by rw [eo,List.append_assoc]),rfl,trivial⟩,by dsimp only;omega⟩
   ·have q:¬(pL p).getD c 0=(v:Int):=q;rw [← ek] at q;rw [if_neg q,List.append_nil] at eo;refine Ar.o ?_;exact ⟨i+1,by show i+1<=b.length;omega,kD [(0,some 0),(1,some 1)] ⟨y4 (by rw [eo]),rfl,trivial⟩,by dsimp only;omega⟩
  ·have h:¬(i:Int) < (b.length:Int):=h;obtain rfl:i=b.length:=oM;refine Ar.o ?_;exact ⟨v+1,by show v+1<=256;omega,kD [(0,some 0),(1,some 1)] ⟨y4 (by rw [List.take_length,yb]),rfl,trivial⟩,by dsimp only;omega⟩
 ·have g:¬(v:Int) < 256:=g;obtain rfl:v=256:=oM;exact ⟨some 1,.own 1 rfl,rfl,zk _ _⟩
theorem zhB(m:Img)(b:List Int)(c:Nat)(hp:P8s m)(hc:c < 4)(hb:InP m b)(hl:b.length<=65536):zf Try.prog 77 [.agg (kj m),.sl zq b,i64 (c:Int)] [] (.sl zq (ke (zC m c) b)) []:=(zg4 m b c hp hc hb hl).plain rfl
def zaZ(b:List Int):List SV:=[.sl zq b]
theorem zdG(T:TypeId)(l:List (List Int)):ut (.arr T zaZ 1 l):=fun _ _=>rfl
theorem zfH(i:Nat):((List.range (i+1)).map fun q:Nat=>(q:Int))=((List.range i).map fun q:Nat=>(q:Int))++[(i:Int)]:=by rw [List.range_succ,List.map_append];rfl
theorem zg5(m:Img)(n:Nat)(hp:P8s m)(hm:qr m)(hn:1<=n/\n<=256):zf Try.prog 63 [.agg (kj m),i64 (n:Int)] [] (.own 0) [(0,.arr 53 zaZ 1 (yK m n))]:=by
 obtain ⟨N1,N2⟩:=zcA hm;refine zbb tok mix Try.func63 rfl rfl rfl ?_;refine ⟨Int,zq,[],rfl,Ob.mk ze7 ?_⟩;refine ⟨Nat,fun i=>⟨[(6,i64 (i:Int)),(5,.own 1),(1,i64 (n:Int)),(2,.loc 0 0)],[(1,.arr 3 zq 1 ((List.range i).map fun q:Nat=>(q:Int))),(0,.box 28 (kj m))],2,81,0⟩,fun i=>i<=m.px.length,fun i=>m.px.length - i,0,Nat.zero_le _,?_,?_⟩
 ·exact zo [(0,some 0),(1,some 1)]
 intro i hi;have hi:i<=m.px.length:=hi;intro _;refine Br.mk (fun g=>?_) (fun g=>?_)
 ·have g:(i:Int) < (m.px.length:Int):=g;refine ⟨Int,zq,[(i:Int)],rfl,Ob.mk (ze5 _) ?_⟩;refine ⟨[(i:Int)],rfl,Ob.mk (ze6 (by rw [List.length_map,List.length_range];omega)) ?_⟩;refine Ar.o ?_;exact ⟨i+1,by show i+1<=m.px.length;omega,kD [(0,some 0),(1,some 3)] ⟨y4 (zfH i).symm,rfl,trivial⟩,by dsimp only;omega⟩
 have g:¬(i:Int) < (m.px.length:Int):=g;obtain rfl:i=m.px.length:=oM;refine ⟨[[.own 1]],rfl,Ob.o3 ?_⟩
 refine ⟨Nat×List (List Int),fun ⟨_,bs⟩=>⟨[(7,.own 1),(2,.loc 0 0),(1,i64 (n:Int))],[(1,.arr 53 zaZ 1 bs),(0,.box 28 (kj m))],2,81,0⟩,
  fun z=>vt m n z.1 z.2=yK m n/\un m z.2/\n<=z.1+z.2.length/\z.2.length<=n,fun z=>z.1,(n,[yj m]),⟨rfl,uX hm,by dsimp only;omega,by dsimp only;simp;omega⟩,?_,?_⟩
 ·refine (zhf 1 2 (enc:=zq) (ys:=yj m) (xs:=[[.own 1]]) (xs':=[[.sl zq (yj m)]]) rfl rfl rfl (fun x hx=>by rw [List.mem_singleton.1 hx];rfl) (fun i j x' s' hx hs=>?_)).trans ((zgb 2 zaZ [yj m] rfl (fun _ _=>rfl)).trans (zo [(0,some 0),(1,some 2)]))
  match i,hx with
  | 0,hx=>
   cases hx
   match j,hs with
   | 0,hs=>cases hs;exact ⟨_,_,rfl,rfl,.inr ⟨rfl,rfl⟩⟩
   | j+1,hs=>cases hs
  | i+1,hx=>cases hx
 rintro ⟨f,bs⟩ ⟨h1,h3,h6,h7⟩
 have h1:vt m n f bs=yK m n:=h1;have h3:un m bs:=h3;have h6:n<=f+bs.length:=h6;have h7:bs.length<=n:=h7;intro _;refine Br.mk (fun g=>?_) (fun g=>?_);rotate_left
 ·have g:¬(bs.length:Int) < (n:Int):=g
  have e:vt m n f bs=bs:=by
   cases f with
   | zero=>rfl
   | succ f=>exact if_neg oM
  rw [← h1,e];exact ⟨_,.refl,some 1,.own 1 rfl,rfl,zdG _ _⟩
 have g:(bs.length:Int) < (n:Int):=g;obtain ⟨f,rfl⟩:∃k,f=k+1:=⟨f - 1,oM⟩
 refine ⟨Nat,fun i=>⟨[(8,i64 (zR m bs (0,-1,0) i).1),(9,i64 (zR m bs (0,-1,0) i).2.1),(10,i64 (zR m bs (0,-1,0) i).2.2),(11,i64 (i:Int)),(7,.own 1),(2,.loc 0 0),(1,i64 (n:Int))],[(1,.arr 53 zaZ 1 bs),(0,.box 28 (kj m))],2,81,0⟩,
  fun i=>i<=bs.length,fun i=>bs.length - i,0,Nat.zero_le _,?_,?_⟩
 ·exact zo [(0,some 0),(1,some 1)]
 intro i hi;have hi:i<=bs.length:=hi;have r1:=zdy hp bs i;intro _;refine Br.mk (fun h=>?_) (fun h=>?_)
 ·have h:(i:Int) < (bs.length:Int):=h;refine Dr.k ?_;refine Ob.o ?_;refine Ob.o ?_;intro b hb;have hb:bs[i]? =some b:=hb;have eb:bs.getD i []=b:=by rw [List.getD_eq_getElem?_getD,hb];rfl
  obtain ⟨b1,b2,b3⟩:=h3.2 b (List.mem_of_getElem? hb);refine ze.t (zfG m b hp b2 b1) ?_;refine Br.mk (fun q=>?_) (fun q=>?_)
  ·have q:(zR m bs (0,-1,0) i).2.1 < (jf m b).1:=q;rw [← eb] at q;have e2:zR m bs (0,-1,0) (i+1)=((i:Int),jf m (bs.getD i [])):=if_pos q;rw [eb] at e2;refine Ar.o ?_;exact ⟨i+1,by show i+1<=bs.length;omega,ki [(0,some 0),(1,some 1)] ⟨qv (by rw [e2]),qv (by rw [e2]),qv (by rw [e2]),rfl,rfl,rfl,rfl,trivial⟩ ⟨rfl,rfl,trivial⟩,by dsimp only;omega⟩
  ·have q:¬(zR m bs (0,-1,0) i).2.1 < (jf m b).1:=q;rw [← eb] at q;have e2:zR m bs (0,-1,0) (i+1)=zR m bs (0,-1,0) i:=if_neg q;refine Ar.o ?_;exact ⟨i+1,by show i+1<=bs.length;omega,ki [(0,some 0),(1,some 1)] ⟨qv (by rw [e2]),qv (by rw [e2]),qv (by rw [e2]),rfl,rfl,rfl,rfl,trivial⟩ ⟨rfl,rfl,trivial⟩,by dsimp only;omega⟩
 have h:¬(i:Int) < (bs.length:Int):=h;obtain rfl:i=bs.length:=oM
 have hw0:zR m bs (0,-1,0) bs.length=zy m bs:=by
  obtain ⟨k,hk⟩:∃k,bs.length=k+1:=⟨bs.length - 1,by have:=List.length_pos_iff.2 (show bs≠[] from h3.1);omega⟩;unfold zy;rw [hk];exact vr hp bs k
 obtain ⟨w1,w2,w3,_⟩:=uV hp bs bs.length
 obtain ⟨a,e,c,hw⟩:∃(a:Nat) (e:Int) (c:Nat),zy m bs=((a:Int),e,(c:Int)):=⟨(zy m bs).1.toNat,(zy m bs).2.1,(zy m bs).2.2.toNat,
  Prod.ext (Int.toNat_of_nonneg w3.1).symm (Prod.ext rfl (Int.toNat_of_nonneg w2.1).symm)⟩
 have step:vt m n (f+1) bs=if e=0 then bs else vt m n f (bs.set a ((ke (zC m c) (bs.getD a [])).take ((ke (zC m c) (bs.getD a [])).length / 2))++[(ke (zC m c) (bs.getD a [])).drop ((ke (zC m c) (bs.getD a [])).length / 2)]):=by
  rw [vt,hw,if_pos oM];unfold zdz;rw [hw];rfl
 have f1:(zR m bs (0,-1,0) bs.length).1=(a:Int):=by rw [hw0,hw]
 have f2:(zR m bs (0,-1,0) bs.length).2.1=e:=by rw [hw0,hw]
 have f3:(zR m bs (0,-1,0) bs.length).2.2=(c:Int):=by rw [hw0,hw]
 refine Br.mk (fun q=>?_) (fun q=>?_)
 ·have q:(zR m bs (0,-1,0) bs.length).2.1=0:=q;rw [f2] at q;rw [if_pos q] at step;rw [← h1,step];exact ⟨_,.refl,some 1,.own 1 rfl,rfl,zdG _ _⟩
 have q:¬(zR m bs (0,-1,0) bs.length).2.1=0:=q;rw [f2] at q;rw [if_neg q] at step;have hne:(zy m bs).2.1≠0:=by rw [hw];exact q
 obtain ⟨⟨x1,_⟩,⟨x2,_⟩,x3⟩:=uW hp h3 hne;rw [hw] at x1 x2 x3;have x1:a < bs.length:=x1;have x2:c < 4:=x2;have x3:2<=(bs.getD a []).length:=x3;have hcut:=vY hp h3 hne;unfold zdz at hcut;rw [hw] at hcut
 have hcut:un m (bs.set a ((ke (zC m c) (bs.getD a [])).take ((ke (zC m c) (bs.getD a [])).length / 2))++[(ke (zC m c) (bs.getD a [])).drop ((ke (zC m c) (bs.getD a [])).length / 2)])/\(bs.set a ((ke (zC m c) (bs.getD a [])).take ((ke (zC m c) (bs.getD a [])).length / 2))++[(ke (zC m c) (bs.getD a [])).drop ((ke (zC m c) (bs.getD a [])).length / 2)]).length=bs.length+1:=hcut;have hb:bs[a]? =some (bs.getD a []):=by rw [List.getD_eq_getElem?_getD,List.getElem?_eq_getElem x1];rfl
 generalize bs.getD a []=b at*;obtain ⟨b1,b2,b3⟩:=h3.2 b (List.mem_of_getElem? hb);have cs:=zhB m b c hp x2 b2 b3;have hsl:(ke (zC m c) b).length=b.length:=jJ (qN hp c) b;generalize ke (zC m c) b=s at*;rw [← f3] at cs;refine Dr.k ?_;refine Ob.o ?_;refine Ob.o ?_;intro b' hb';have hb':bs[(zR m bs (0,-1,0) bs.length).1.toNat]? =some b':=hb';rw [f1,Int.toNat_natCast] at hb';obtain rfl:b=b':=by rw [hb] at hb';exact Option.some.inj hb'
 refine ze.t cs ?_;intro _;refine Dv.pos ⟨oM,dC,by show (s.length:Int)<=9223372036854775807;omega⟩ ?_;refine Ob.mk ⟨oM,fun _ _=>rfl⟩ ?_;refine Ob.o ?_;refine Ob.o ?_;intro _ _;refine ⟨(s.drop (0:Int).toNat).take ((s.length:Int) / 2 - 0).toNat,rfl,?_⟩;intro _;refine Dv.pos ⟨oM,dC,by show (s.length:Int)<=9223372036854775807;omega⟩ ?_;refine Ob.mk ⟨oM,fun _ _=>rfl⟩ ?_;refine ⟨List Int,zaZ,[(s.drop ((s.length:Int) / 2).toNat).take ((s.length:Int) - (s.length:Int) / 2).toNat],rfl,Ob.mk ⟨rfl,dC,dC,dC,fun _ _=>⟨rfl,rfl,rfl⟩⟩ ?_⟩
 refine ⟨[(s.drop ((s.length:Int) / 2).toNat).take ((s.length:Int) - (s.length:Int) / 2).toNat],rfl,Ob.mk ⟨by show (_+_)*(24:Int)<=_;rw [List.length_set,List.length_singleton];omega,by rw [List.length_set,List.length_singleton];omega,dC,fun _ _=>rfl⟩ ?_⟩
 refine ⟨(f,bs.set a (s.take (s.length / 2))++[s.drop (s.length / 2)]),⟨by rw [← step];exact h1,hcut.1,by show n<=f+(bs.set a (s.take (s.length / 2))++[s.drop (s.length / 2)]).length;omega,by show (bs.set a (s.take (s.length / 2))++[s.drop (s.length / 2)]).length<=n;omega⟩,kD [(0,some 0),(1,some 3)] ⟨congrArg (fun z=>some (Mem.arr 53 zaZ 1 z)) ?_,rfl,trivial⟩,Nat.lt_succ_self f⟩;rw [f1,Int.toNat_natCast]
 have e1:(s.drop (0:Int).toNat).take ((s.length:Int) / 2 - 0).toNat=s.take (s.length / 2):=by
  rw [show ((s.length:Int) / 2 - 0).toNat=s.length / 2 by omega];rfl
 have e2:(s.drop ((s.length:Int) / 2).toNat).take ((s.length:Int) - (s.length:Int) / 2).toNat=s.drop (s.length / 2):=by
  rw [show ((s.length:Int) / 2).toNat=s.length / 2 by omega,List.take_of_length_le (by rw [List.length_drop];omega)]
 rw [e1,e2]
theorem zhC(m:Img)(n:Nat)(hp:P8s m)(hm:qr m)(hn:1<=n/\n<=256):zf Try.prog 63 [.agg (kj m),i64 (n:Int)] [] (.sl zaZ (yK m n)) []:=(zg5 m n hp hm hn).plain rfl
end Go.Gs
