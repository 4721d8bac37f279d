/- Candidates, At, InRect of the index of any scene. -/
import Derived.Test.YtlckjbeknkkllaaGreatDoorMAU
import Derived.Test.YtlckjbeknkkllaaGreatDoorChecked
import Derived.LaidLaws
import Derived.LaidHandle
import Derived.Stop.Joined
import Derived.Test.YtlckjbeknkkllaaGreatDoorRows
set_option maxRecDepth 100000
set_option maxHeartbeats 8000000
set_option linter.all false
namespace Go.Gs
open Proofs.Tryz
open Go.Proofs
def cdT(s:Sc)(r:Rc):LU:=(zsB s r).reverse
def zAp{s:Sc}{r:Rc}{i:Int}(h:i∈cdT s r):0<=i/\i<s.ns.length:=zDF (QB.1 (List.mem_reverse.1 h)).1
def zuu(s:Sc)(r:Rc):(cdT s r).length<=s.ns.length:=by
 unfold cdT zsB zaU;rw[JO];exact XE (K6 _ _) (zz2 _ _)
def zuv(s:Sc)(r:Rc)(h8:s.ns.length<=8):CX 50 [.dptr (ixT s),wq r] (.sl zN (cdT s r)):=by
 refine zd func50 ?_;have hbl:(bxN s s.ns.length).length=s.ns.length:=zcl _ _;have hel:=zz2 (bxA s) s.ns.length;refine wc ?_;have hfn:=zkI s s.ns.length;refine wg (zCT r (kR s s.ns.length) oM) ?_;have hfl2:=uT r (kR s s.ns.length);have hin2:∀i∈(kR s s.ns.length).find r,0<=i/\i<s.ns.length:=λi hi=>zDF ((zkK s s.ns.length).mem_iff.1 (zdB r _ i hi))
 have hpm:=zwt s r;obtain⟨fs,hfs⟩:∃fs,fs=(kR s s.ns.length).find r:=⟨_,rfl⟩;rw[←hfs]at hfl2 hin2 hpm ⊢;have hfl:fs.length<=8:=oM;have hin:=hin2;clear hfs hfn;intro hl0;refine⟨Nat,λj=>⟨[(24,i64 j),(23,i64 fs.length),(22,.sl zN fs),(5,.own 1),(3,.loc 0 0),(0,.dptr (ixT s))],[(0,.box 54 (rcE r)),(1,.arr 3 zN 1 (zaU s r (fs.take j)))],2,49,0⟩,λj=>j<=fs.length,λj=>fs.length-j,0,Xg _,zA [(0,some 0),(1,none)],?_⟩
 rintro j hj
 have hj:j<=fs.length:=hj;have hsl:(zaU s r (fs.take j)).Sublist fs:=List.filter_sublist.trans (List.take_sublist _ _);have hll:=hsl.length_le;refine⟨λg:(j:Int)<fs.length=>?_,λg:¬(j:Int)<fs.length=>?_⟩
 ·refine wb λi(hi:fs[j]?=some i)=>?_;have hir:=hin i (Xf hi);refine wc<|Ob.mk (by rw[hbl];exact hir) λb hb=>?_;have eb:(bxA s).getD i.toNat k8=b:=by rw[Xn];unfold bxA;rw[show(bxN s s.ns.length)[i.toNat]?=some b from hb];rfl
  refine wg (znU b r)<|wg (zcf (b.meet r))<|⟨λc=>?_,λc=>?_⟩
  ·have c:zgm s r i:=by unfold zgm;rw[eb];exact c
   refine⟨Int,zN,[i],rfl,wb3 ?_⟩;refine⟨[i],rfl,Ob.mk ⟨by show(((zaU s r (fs.take j)).length:Int)+1)*8<=_;omega,by rw[Kk];omega,dC,λx hx=>by rw[Xu.1 hx];rfl⟩ ?_⟩;exact wa<|⟨j+1,by show j+1<=fs.length;omega,zt [0,3] ⟨rfl,aR (zCO hi c).symm,tV⟩,oN⟩
  have c:¬zgm s r i:=by unfold zgm;rw[eb];exact c
  exact wa<|⟨j+1,by show j+1<=fs.length;omega,zt [0,1] ⟨rfl,aR (zFn hi c).symm,tV⟩,oN⟩
 have ef:zaU s r (fs.take j)=zaU s r fs:=by rw[Xk oM]
 have hA:=hpm.length_eq;rw[ef]at hll;exact zb.hand 1 _ _ _ rfl (zCV (zaU s r (fs.take j)) (zsB s r) (by rw[ef];exact hpm) (zCU s r) (by rw[ef];omega)) (ju _) (ju _) rfl rfl<|zb.hand 1 _ _ _ rfl (zFm (zsB s r) oM) (ju _) (ju _) rfl rfl<|.refl
def zbI(s:Sc)(r:Rc)(h8:s.ns.length<=8):CX 27 [.dptr (ixT s),wq r] (.sl zN ((cdT s r).map (ndI s))):=by
 refine zd func27<|wg (zuv s r h8) ?_;have hc:=zuu s r;intro hl0;refine⟨Nat,λj=>⟨[(12,i64 j),(11,i64 ((cdT s r).length:Int)),(10,.sl zN (cdT s r)),(5,.own 1),(0,.dptr (ixT s))],[(1,.arr 3 zN 1 (((cdT s r).take j).map (ndI s)))],2,30,0⟩,λj=>j<=(cdT s r).length,λj=>(cdT s r).length-j,0,Xg _,zA [(1,none)],?_⟩
 rintro j hj
 have hj:j<=(cdT s r).length:=hj;have hll:(((cdT s r).take j).map (ndI s)).length<=8:=by rw[Xz,Xv];omega
 refine⟨λg:(j:Int)<(cdT s r).length=>?_,λg:¬(j:Int)<(cdT s r).length=>?_⟩
 ·refine wb λi(hi:(cdT s r)[j]?=some i)=>?_;refine Ob.mk (zAp (Xf hi)) λn hn=>?_;refine⟨Int,zN,[n.id],rfl,wb3 ?_⟩;refine⟨[n.id],rfl,Ob.mk ⟨by show(((((cdT s r).take j).map (ndI s)).length:Int)+1)*8<=_;omega,by rw[Kk];omega,dC,λx hx=>by rw[Xu.1 hx];rfl⟩ ?_⟩;refine wa ?_
  exact⟨j+1,by show j+1<=(cdT s r).length;omega,zhw [(1,some 3)] ⟨aR (by rw[Xm,hi,XG,←zfa hn];rfl),tV⟩,oN⟩
 exact kM (by rw[Xk oM])
def atQ(s:Sc)(p:Pt):LU:=if zqC p then[] else onN s p (cdT s (yZ p))
def zDI(s:Sc)(p:Pt)(ht:yi s)(h8:s.ns.length<=8):CX 26 [.dptr (ixT s),wk p] (.sl zN (atQ s p)):=by
 refine zd func26 ?_;have far:zqC p->LE nS (.sl zN (atQ s p)):=λh=>by rw[show atQ s p=[] from Xe h];exact zw
 refine⟨λh=>far (.inl h),λh1=>?_⟩;refine⟨λh=>far (.inr (.inl h)),λh2=>?_⟩;refine⟨λh=>far (.inr (.inr (.inl h))),λh3=>?_⟩;refine⟨λh=>far (.inr (.inr (.inr h))),λh4=>?_⟩;have hf:¬zqC p:=λk=>k.elim h1 λk=>k.elim h2 λk=>k.elim h3 h4
 have ea:atQ s p=onN s p (cdT s (yZ p)):=Xb hf;unfold zqC at hf;have e8:(2:Int)^8=256:=dC;have hx: -4096<=p.x/2^8/\p.x/2^8<=4096:=by rw[e8];omega
 have hy: -4096<=p.y/2^8/\p.y/2^8<=4096:=by rw[e8];omega
 refine wb1<|wb1<|wb1<|Ar.fit (show-9223372036854775808<=p.x/2^8+1/\p.x/2^8+1<=9223372036854775807 by omega)<|wb1<|Ar.fit (show-9223372036854775808<=p.y/2^8+1/\p.y/2^8+1<=9223372036854775807 by omega) ?_;refine wg (zuv s (yZ p) h8) ?_;have hc:=zuu s (yZ p);intro hl0
 refine⟨Nat,λj=>⟨[(46,i64 j),(45,i64 ((cdT s (yZ p)).length:Int)),(44,.sl zN (cdT s (yZ p))),(6,.own 1),(3,.loc 0 0),(0,.dptr (ixT s))],[(0,.box 28 (ptE p)),(1,.arr 3 zN 1 (onN s p ((cdT s (yZ p)).take j)))],2,71,0⟩,λj=>j<=(cdT s (yZ p)).length,λj=>(cdT s (yZ p)).length-j,0,Xg _,zA [(0,some 0),(1,none)],?_⟩
 rintro j hj
 have hj:j<=(cdT s (yZ p)).length:=hj
 have hll:(onN s p ((cdT s (yZ p)).take j)).length<=8:=by
  unfold onN;rw[Xz];refine XE (K6 _ _) ?_;rw[Xv];omega
 refine⟨λg:(j:Int)<(cdT s (yZ p)).length=>?_,λg:¬(j:Int)<(cdT s (yZ p)).length=>?_⟩
 ·refine wb λi(hi:(cdT s (yZ p))[j]?=some i)=>?_;refine wc<|wg (g_on s p i ht)<|⟨λc=>?_,λc=>?_⟩
  ·refine Ob.mk (zAp (Xf hi)) λn hn=>?_;refine⟨Int,zN,[n.id],rfl,wb3 ?_⟩;refine⟨[n.id],rfl,Ob.mk ⟨by show(((onN s p ((cdT s (yZ p)).take j)).length:Int)+1)*8<=_;omega,by rw[Kk];omega,dC,λx hx=>by rw[Xu.1 hx];rfl⟩ ?_⟩;exact wa<|⟨j+1,by show j+1<=(cdT s (yZ p)).length;omega,zt [0,3] ⟨rfl,aR (by rw[zFo hi c,zfa hn]),tV⟩,oN⟩
  exact wa<|⟨j+1,by show j+1<=(cdT s (yZ p)).length;omega,zt [0,1] ⟨rfl,aR (on_no hi c).symm,tV⟩,oN⟩
 exact kM (by rw[ea,Xk oM])
def zCW:atQ pgH ⟨9,0⟩=[5,7]/\(cdT pgH ⟨0,0,4,4⟩).map (ndI pgH)=[5,7]/\(cdT pgH ⟨1,0,4,4⟩).map (ndI pgH)=[]:=by decide +kernel
def qM:CX 11 [] (bl true):=by
 refine zd func11 ?_;have ht:=zgi zAc;obtain⟨i1,i2,i3⟩:=zCW;obtain⟨a1,a2,a3,a4,a5,a6,a7⟩:=zFp;refine wg zCH<|wg (zqP pgH zAc zwn dC)<|⟨λk=>absurd rfl k,λ_=>?_⟩;refine wg (zDI pgH ⟨9,0⟩ ht dC)<|⟨Int,zN,[5,7],rfl,wb0 ?_⟩;refine wg (zky (atQ pgH ⟨9,0⟩) [5,7])<|⟨λk=>absurd i1 k,λ_=>?_⟩;refine wg (zbI pgH ⟨0,0,4,4⟩ dC)<|⟨Int,zN,[5,7],rfl,wb0 ?_⟩;refine wg (zky ((cdT pgH ⟨0,0,4,4⟩).map (ndI pgH)) [5,7]) ?_
 refine⟨λk=>absurd i2 k,λ_=>?_⟩;refine wg (zbI pgH ⟨1,0,4,4⟩ dC) λhl0=>?_;refine⟨λk=>absurd (show(((cdT pgH ⟨1,0,4,4⟩).map (ndI pgH)).length:Int)=0 by rw[i3];rfl) k,λ_=>?_⟩;refine wg (zDA pgH ⟨5,5⟩ ht)<|wg (zDA pgH ⟨256,5⟩ ht)<|⟨λ_=>?_,λk=>absurd (show(qA pgH ⟨5,5⟩).headD 0=5 by rw[a1];rfl) k⟩;refine⟨λ_=>?_,λk=>absurd (show 0<(qA pgH ⟨5,5⟩).length by rw[a1];decide) k⟩
 refine⟨λ_=>?_,λk=>absurd (show¬0<(qA pgH ⟨256,5⟩).length by rw[a2];decide) k⟩;refine wg (g_on pgH zp 1 ht)<|⟨λ_=>?_,λk=>absurd a6 k⟩;refine wg (g_on pgH zp 3 ht)<|⟨λ_=>?_,λk=>absurd a7 k⟩;refine wg (zuh pgH ⟨9,0⟩ ht)<|⟨Int,zN,[5,7],rfl,wb0 ?_⟩;refine wg (zky (qA pgH ⟨9,0⟩) [5,7])<|⟨λ_=>?_,λk=>absurd a3 k⟩;refine wg (zDB pgH zp ht)<|⟨Int,zN,[3,5],rfl,wb0 ?_⟩;refine wg (zky (zn4 pgH zp) [3,5]) ?_
 refine⟨λ_=>?_,λk=>absurd a4 k⟩;exact wg (zDB pgH ⟨999,0⟩ ht) λhl1=>zrm (show((zn4 pgH ⟨999,0⟩).length:Int)=0 by rw[a5];rfl)
def zAq(a:BI)(h:a.mag.length<=1000000):CX 146 [wl a] (wl a):=by
 refine yp 1 tok mix func146 rfl rfl rfl<|wd<|⟨Dig,dgE,[],rfl,wb2 ?_⟩;refine⟨a.mag,rfl,Ob.mk ⟨(by show(([]:LA).length+a.mag.length:Int)*(4:Int)<=_;rw[Xt];omega),(by rw[Xt];omega),dC,λ_ _=>rfl⟩ ?_⟩;exact wh<|.refl
def zhl(a:BR)(h:a.len<=1000000):CX 103 [wm a] (wm a):=by
 have h1:a.num.mag.length<=1000000:=by unfold BR.len at h;omega
 have h2:a.den.mag.length<=1000000:=by unfold BR.len at h;omega
 exact yp 1 tok mix func103 rfl rfl rfl<|wd<|wg (zAq a.num h1)<|wg (zAq a.den h2)<|wh<|.refl
def zAr(t:AF)(h:t.le 1000000):CX 66 [wo t] (wo t):=by
 obtain⟨h1,h2,h3,h4,h5,h6⟩:=h;refine yp 1 tok mix func66 rfl rfl rfl<|wd<|wg (zhl t.a h1)<|wg (zhl t.b h2)<|wg (zhl t.c h3)<|wg (zhl t.d h4) ?_;exact wg (zhl t.e h5)<|wg (zhl t.f h6)<|wh<|.refl
def zuw{row:LQ}{c k:Nat}{α:Type}{enc:α->LQ}{ys:List α}(hr:row[c]?=some (.own k))(j:Nat)(s':SV)(h:(row.set c (.sl enc ys))[j]?=some s'):
  ∃s,row[j]?=some s/\(s'=s∨(s=.own k/\s'=.sl enc ys)):=by
 rw[Kw]at h
 by_cases e:c=j
 ·subst e;rw[Xe rfl]at h
  by_cases q:c<row.length
  ·rw[Xe q]at h;exact⟨_,hr,.inr ⟨rfl,(Xl h).symm⟩⟩
  rw[Xb q]at h;cases h
 rw[Xb e]at h;exact⟨s',h,.inl rfl⟩
variable{σ:St}{T0:TypeId}{α:Type}{sz:Nat}{ys:List α}
def zqS(k k0 c:Nat){T:TypeId}{enc:α->LQ}{sz0:Nat}{L:LM}{row:LQ}(hk:zH σ.M k=some (.arr T enc sz ys))(h0:zH σ.M k0=some (.garr T0 sz0 (L++[row])))(hr:row[c]?=some (.own k))(hL:∀x∈L,x.length=sz0)(hw:row.length=sz0):
  Sub σ ⟨σ.L,kO (z5 σ.M k) k0 (.garr T0 sz0 (L++[row.set c (.sl enc ys)])),σ.nk,σ.nt,σ.n0⟩:=by
 refine zbX k k0 hk h0 (xs':=L++[row.set c (.sl enc ys)]) sI (λx hx=>?_) (λi j x' s' hx hs=>?_)
 ·rcases Xr.1 hx with hx|hx
  ·exact hL x hx
  rw[Xu.1 hx,XP];exact hw
 rw[Kt]at hx
 by_cases q:i<L.length
 ·rw[Xe q]at hx;exact⟨x',s',by rw[Kt,Xe q];exact hx,hs,.inl rfl⟩
 rw[Xb q]at hx
 have hi:i-L.length=0:=by
  have:=(Xd.1 hx).1;simp at this;omega
 rw[hi]at hx;have hx:x'=row.set c (.sl enc ys):=(Xl hx).symm;rw[hx]at hs;obtain⟨s,h1,h2⟩:=zuw hr j s' hs;exact⟨row,s,by rw[Kt,Xb q,hi];rfl,h1,h2⟩
def pntO(p:Pnt)(a b:Nat):LQ:=
 i64 p.k::u8 p.c.r::u8 p.c.g::u8 p.c.b::u8 p.c.a::i64 p.p0.x::i64 p.p0.y::i64 p.p1.x::i64 p.p1.y::i64 p.r::.own a::i64 p.sp::i64 p.im.w::i64 p.im.h::.own b::i64 p.sm::afE p.t
def zux{α:Type}{enc:α->LQ}{tb:List (Nat×Option Nat)}(h:∀y,ren.rens tb (enc y)=some (enc y)){l m:List α}(e:l=m):
  (m.map enc).length=(l.map enc).length/\∀(j:Nat) x,(l.map enc)[j]?=some x->∃x',(m.map enc)[j]?=some x'/\ren.rens tb x=some x':=by
 subst e;refine⟨rfl,λj x hx=>⟨x,hx,?_⟩⟩;rw[XA]at hx
 cases hy:l[j]? with
 |none=>rw[hy]at hx;cases hx
 |some y=>rw[hy]at hx;cases hx;exact h y
def zsC(l:LX)(hl:l.length<=1000)(hp:∀p∈l,ltP p):CG0 67 [.sl qb l] [] (.own 0) [(0,.arr 60 qb 40 l)]:=by
 refine zem tok mix func67 rfl rfl rfl<|⟨Pnt,qb,[],rfl,wb2 ?_⟩;refine⟨Nat,λi=>⟨[(4,i64 i),(3,.own 0),(0,.sl qb l)],[(0,.garr 60 40 ((l.take i).map qb))],1,38,0⟩,λi=>i<=l.length,λi=>l.length-i,0,Xg _,?_,?_⟩
 ·exact(zCn 0 (xs:=[]) rfl).trans (zt [0] ⟨⟨_,rfl,zux (enc:=qb) (l:=[]) (m:=[]) (λ_=>rfl) rfl⟩,tV⟩)
 intro i hi;have hi:i<=l.length:=hi;intro hl0;refine⟨λg:(i:Int)<l.length=>?_,λg:¬(i:Int)<l.length=>?_⟩
 ·refine wb λp(hx:l[i]?=some p)=>?_;obtain⟨g1,g2,g3⟩:=hp p (Xf hx);refine⟨ze6,zaK,[],rfl,wb2 ?_⟩;refine⟨p.st,rfl,Ob.mk ⟨(by show(([]:List ze6).length+p.st.length:Int)*(16:Int)<=_;rw[Xt];omega),(by rw[Xt];omega),dC,λ_ _=>rfl⟩ ?_⟩;refine⟨Pix,zbD,[],rfl,wb2 ?_⟩
  refine⟨p.im.px,rfl,Ob.mk ⟨(by show(([]:List Pix).length+p.im.px.length:Int)*(4:Int)<=_;rw[Xt];omega),(by rw[Xt];omega),dC,λ_ _=>rfl⟩ ?_⟩;refine wg (zAr p.t (g1.up dC))<|⟨[pntO p 3 5],rfl,wb7 ?_⟩;have hlen:((l.take i).map qb).length<=1000:=by rw[Xz,Xv];omega
  refine Ob.mk ⟨by show((((l.take i).map qb).length:Int)+1)*520<=_;omega,by show((l.take i).map qb).length+1<=_;omega,dC⟩<|wa ?_
  have hw:∀x∈(l.take i).map qb,x.length=40:=λx hx=>by
   obtain⟨y,_,rfl⟩:=XL.1 hx;rfl
  have en:(l.take (i+1)).map qb=(l.take i).map qb++[qb p]:=by rw[Xm,hx,XG];rfl
  refine⟨i+1,by show i+1<=_;omega,((zqS 3 7 10 (L:=(l.take i).map qb) (row:=pntO p 3 5) (enc:=zaK) (ys:=p.st) rfl rfl rfl hw rfl).trans
   ((zqS 5 7 14 (L:=(l.take i).map qb) (row:=(pntO p 3 5).set 10 (.sl zaK p.st)) (enc:=zbD) (ys:=p.im.px) rfl rfl rfl hw rfl).trans
    (zt [7] ⟨⟨_,rfl,?_⟩,tV⟩))),oN⟩
  show _/\∀(j:Nat) x,((l.take (i+1)).map qb)[j]?=some x->_;have:=zux (enc:=qb) (tb:=[(0,some 7)]) (l:=l.take (i+1)) (m:=l.take (i+1)) (λ_=>rfl) rfl
  rwa [en]at this ⊢
 refine⟨_,zcW 0 qb (l.take i) rfl (λ_ _=>rfl),some 0,.own 0 rfl,aR (Xk oM),λ_ _=>rfl⟩
def zmL(l:LX)(hl:l.length<=1000)(hp:∀p∈l,ltP p):CX 67 [.sl qb l] (.sl qb l):=(zsC l hl hp).plain rfl
def zCX(n:Nd)(h:ltN n):CX 41 [wv n] (wv n):=by
 obtain⟨⟨h1,h2,h3,h4,h5,h6,h7⟩,h8⟩:=h;refine yp 1 tok mix func41 rfl rfl rfl<|wg (zAr n.t (h5.up dC))<|⟨Sg,sgE,[],rfl,wb2 ?_⟩;refine⟨n.clip,rfl,Ob.mk ⟨(by show(([]:LW).length+n.clip.length:Int)*(56:Int)<=_;rw[Xt];omega),(by rw[Xt];omega),dC,λ_ _=>rfl⟩ ?_⟩;refine⟨Sg,sgE,[],rfl,wb2 ?_⟩;refine⟨n.path,rfl,Ob.mk ⟨(by show(([]:LW).length+n.path.length:Int)*(56:Int)<=_;rw[Xt];omega),(by rw[Xt];omega),dC,λ_ _=>rfl⟩ ?_⟩
 refine wg (zmL n.fill oM λp hp=>h8 p (KM _ hp))<|wg (zmL n.strk oM λp hp=>h8 p (KF _ hp))<|⟨Int,zN,[],rfl,wb2 ?_⟩;refine⟨n.pen.d,rfl,Ob.mk ⟨(by show(([]:LU).length+n.pen.d.length:Int)*(8:Int)<=_;rw[Xt];omega),(by rw[Xt];omega),dC,λ_ _=>rfl⟩ ?_⟩;refine⟨Pix,zbD,[],rfl,wb2 ?_⟩
 refine⟨n.im.px,rfl,Ob.mk ⟨(by show(([]:List Pix).length+n.im.px.length:Int)*(4:Int)<=_;rw[Xt];omega),(by rw[Xt];omega),dC,λ_ _=>rfl⟩ ?_⟩;exact .refl
def zAs(s:Sc)(hl:s.ns.length<=1000)(h:∀n∈s.ns,ltN n):CG0 22 [wr s] [] (.agg (scO s 0)) [(0,zqi s.ns)]:=by
 refine qu tok mix func22 rfl rfl rfl<|⟨Nd,ndE,[],rfl,wb2 ?_⟩;refine⟨Nat,λi=>⟨[(4,i64 i),(3,.own 2),(2,.loc 1 0),(1,.loc 0 0)],[(2,zqi (s.ns.take i)),(1,.box 26 (vals [.int .i64 0,.int .i64 0,.int .u8 0,.int .u8 0,.int .u8 0,.int .u8 0,.slice none 0 0])),(0,.box 26 (scE s))],3,30,0⟩,λi=>i<=s.ns.length,λi=>s.ns.length-i,0,Xg _,zi [0,1,2],?_⟩
 intro i hi;have hi:i<=s.ns.length:=hi;intro hl0;refine⟨λg:(i:Int)<s.ns.length=>?_,λg:¬(i:Int)<s.ns.length=>?_⟩
 ·refine wb λn(hx:s.ns[i]?=some n)=>?_;refine wg (zCX n (h n (Xf hx)))<|⟨Nd,ndE,[n],rfl,wb3 ?_⟩;have hlen:(s.ns.take i).length<=1000:=by rw[Xv];omega
  refine⟨[n],rfl,Ob.mk ⟨by show(((s.ns.take i).length:Int)+1)*_<=_;dsimp only;omega,by show(s.ns.take i).length+1<=_;omega,dC,λx hx=>by rw[Xu.1 hx];rfl⟩ ?_⟩;exact wa<|⟨i+1,by show i+1<=_;omega,zt [0,1,4] ⟨Xj (λq=>some (zqi q)) (by rw[Xm,hx];rfl),rfl,rfl,tV⟩,oN⟩
 exact⟨some 2,zoN (.cons (jH rfl) (.cons (jH rfl) (.cons (jH rfl) (.cons (jH rfl) (.cons (jH rfl) (.cons (jH rfl) (.cons (.own 2 rfl) .nil))))))),Xj (λq=>some (zqi q)) (Xk oM),λ_ _=>rfl⟩
def zAt(k k0:Nat){T:TypeId}{enc:α->LQ}{cs cs':LQ}(hk:zH σ.M k=some (.arr T enc sz ys))(h0:zH σ.M k0=some (.box T0 cs))(hl:cs'.length=cs.length)(hx:∀(j:Nat) s',cs'[j]?=some s'->∃s,cs[j]?=some s/\(s'=s∨(s=.own k/\s'=.sl enc ys))):
  Sub σ ⟨σ.L,kO (z5 σ.M k) k0 (.box T0 cs'),σ.nk,σ.nt,σ.n0⟩:=by
 intro E ρ a w hr;refine⟨ρ,?_⟩;have hmem:=zn hk;have hsub:∀x∈z5 σ.M k,x∈σ.M:=λx hx=>kF x hx
 have hpd:=k7 (k:=k) hr.mem.keys;have hkeys:(kO (z5 σ.M k) k0 (.box T0 cs')).map (·.1)=(z5 σ.M k).map (·.1):=u0;have hown:∀b,Own (kO (z5 σ.M k) k0 (.box T0 cs')) ρ b->Own (z5 σ.M k) ρ b:=λb hb=>uF hkeys.symm hb
 have hown2:∀b,Own (z5 σ.M k) ρ b->Own σ.M ρ b:=λb ⟨k',m,v,h1,h2,h3⟩=>⟨k',m,v,hsub _ h1,h2,h3⟩
 have hg:∀s v,G (λb=>E.Keep b∨Own σ.M ρ b) (Own σ.M ρ) ρ w s v->
   G (λb=>E.Keep b∨Own (kO (z5 σ.M k) k0 (.box T0 cs')) ρ b) (Own (kO (z5 σ.M k) k0 (.box T0 cs')) ρ) ρ w s v:=λs v h=>
  h.mono (Xi _) (λb _ hb=>⟨λh=>hb (h.imp id λh=>hown2 b (hown b h)),rfl⟩) (λb _ hb=>⟨λh=>hb (hown2 b (hown b h)),rfl⟩) (λ_ _ h=>h)
 have hs:Stp (Own σ.M ρ) (Own (kO (z5 σ.M k) k0 (.box T0 cs')) ρ) ρ ρ w w:=
  ⟨rfl,rfl,.refl _,Xi _,λ_ _ _=>rfl,λb hb=>.inl (hown2 b (hown b hb)),λ_ _ h=>h⟩
 have hd:∀v,ρ k=some v->D (λb=>E.Keep b∨Own (kO (z5 σ.M k) k0 (.box T0 cs')) ρ b) w (.sl enc ys) v:=λv hv=>
  zej hr.mem hmem (λb hb=>hb.imp id λh=>hown2 b (hown b h)) (λv' b hv' hb hSb=>by
   rcases hSb with hSb|hSb
   ·exact(hr.mem.old b ⟨k,_,v',hmem,hv',hb⟩).2 hSb
   obtain⟨k',m',v1,h4,h5,h6⟩:=hown b hSb
   exact hr.mem.apart k _ k' m' v' v1 b hmem (hsub _ h4) (YM (yP hr.mem.keys _ h4)) hv' h5 hb h6) hv
 refine⟨hr.size,hr.defers,λt s hl=>⟨(hr.regs t s hl).1,hg s _ (hr.regs t s hl).2⟩,⟨λk1 m1 h1=>?_,jC hkeys hpd,λk1 m1 k2 m2 v1 v2 b h1 h2=>?_,λb hb=>hr.mem.old b (hown2 b (hown b hb)),hr.mem.kp,hr.mem.glO λb hb=>hown2 b (hown b hb)⟩,
  hr.fresh,hr.stp.trans hs,hr.keep,hr.low⟩
 ·obtain⟨_,h2⟩|h2:=qJ hpd _ h1
  ·exact(hr.mem.rel k1 m1 (hsub _ h2)).keep hs rfl (λ_ _ _ _=>rfl)
  cases h2
  obtain⟨b,vs,g1,g2,g3,g4,g5⟩:=hr.mem.rel k0 _ (zn h0);refine⟨b,vs,g1,g2,by rw[hl];exact g3,g4,λj s' v hs' hv=>?_⟩;obtain⟨s,e1,e2⟩:=hx j s' hs';have hgu:=g5 j s v e1 hv
  rcases e2 with rfl|⟨rfl,rfl⟩
  ·exact hg _ _ hgu
  exact .d _ _ (hd v hgu.own_inv.1)
 have back:∀k1 m1,(k1,m1)∈kO (z5 σ.M k) k0 (.box T0 cs')->∃m',(k1,m')∈σ.M:=λk1 m1 h=>by
  obtain⟨_,h2⟩|h2:=qJ hpd _ h
  ·exact⟨m1,hsub _ h2⟩
  cases h2;exact⟨_,zn h0⟩
 obtain⟨m1',h1'⟩:=back _ _ h1;obtain⟨m2',h2'⟩:=back _ _ h2;exact hr.mem.apart k1 m1' k2 m2' v1 v2 b h1' h2'
def zCY(l:LV)(id:Int):CX 40 [.sl ndE l,i64 id] (i64 (zk4 id l 0)):=by
 refine zd func40<|⟨Nat,λi=>⟨[(5,i64 i),(1,i64 id),(0,.sl ndE l)],[],0,20,0⟩,λi=>i<=l.length/\zk4 id (l.drop i) i=zk4 id l 0,λi=>l.length-i,0,⟨Xg _,rfl⟩,?_,?_⟩
 ·exact zA []
 rintro i ⟨hi,he⟩
 intro hl;refine⟨λg:(i:Int)<l.length=>?_,λg:¬(i:Int)<l.length=>?_⟩
 ·refine wb λn(hn:l[i]?=some n)=>?_;rw[zb4 hn,show zk4 id (n::l.drop (i+1)) i=if n.id=id then(i:Int) else zk4 id (l.drop (i+1)) ((i:Int)+1) from rfl]at he;refine⟨λc=>?_,λc=>?_⟩
  ·rw[Xe c]at he;exact zh he
  rw[Xb c]at he;exact wa<|⟨i+1,⟨oM,he⟩,zA [],oN⟩
 rw[Qf oM]at he;exact zh he
def posS(s:Sc)(id:Int):Int:=if zV s then zk4 id s.ns 0 else-1
def zsD(s:Sc)(id:Int)(ht:zeA s):CX 21 [wr s,i64 id] (i64 (posS s id)):=by
 refine zd func21<|wg (zkl s ht)<|⟨λh=>zh (Xb h).symm,λh=>?_⟩;exact wg (zCY s.ns id)<|zh (Xe (Xc.1 h)).symm
def zww(k:Nat){T:TypeId}{enc:α->LQ}{xs:List α}(h0:zH σ.M k=some (.arr T enc sz xs)):Sub σ ⟨σ.L,kO σ.M k (.garr T sz (xs.map enc)),σ.nk,σ.nt,σ.n0⟩:=
 znb k h0 λS Pm ρ w ⟨v,cells,g1,g2,g3,g4,g5,g6⟩=>⟨v,cells,g1,by rw[Xz];exact g2,by rw[Xz];exact g3,g4,λx hx=>by
  obtain⟨y,hy,rfl⟩:=XL.1 hx;exact g5 y hy,λi j x s hx hs=>by
  rw[XA,Yl]at hx;obtain⟨y,hy,rfl⟩:=hx;obtain⟨u,hu,hd⟩:=g6 i j y s hy hs
  exact⟨u,hu,.d _ _ hd⟩⟩
def zqT:∀{a b c d:LM},Rows a b->Rows c d->Rows (a++c) (b++d)
 |[],_,_,_,.nil,h=>h
 |_::_,_,_,_,.cons h t,k=>.cons h (zqT t k)
def zmM:∀a:LM,Rows a a
 |[]=>.nil
 |_::r=>.C (zmM r)
def adC(s:Sc)(id:Int)(f:SV):LQ:=cN id 2 0 0 0 (.sl sgE (jJ 0 0 s.w s.h)) 1 f
def zFy{s:Sc}{id:Int}{k:Nat}{g:SV}(i j:Nat)(x':LQ)(s':SV)(hx:(s.ns.map ndE++[adC s id g])[i]?=some x')(hs:x'[j]?=some s'):
  ∃x t,(s.ns.map ndE++[adC s id (.own k)])[i]?=some x/\x[j]?=some t/\(s'=t∨(t=.own k/\s'=g)):=by
 by_cases c:i<(s.ns.map ndE).length
 ·rw[XH c]at hx ⊢;exact⟨x',s',hx,hs,.inl rfl⟩
 rw[XB oM]at hx ⊢;obtain⟨q,hq⟩:∃q,q=i-(s.ns.map ndE).length:=⟨_,rfl⟩;rw[←hq]at hx ⊢
 cases q with
 |zero=>
  cases hx
  obtain⟨t,h1,h2⟩:=zzZ (.own k) _ j s' hs;exact⟨_,t,rfl,h1,h2⟩
 |succ q=>cases hx
def zCZ{s:Sc}{id:Int}{g:SV}(h:LE g (.sl qb [yW 1])):Rows (s.ns.map ndE++[adC s id g]) ((adS s id).ns.map ndE):=by
 unfold adS;rw[XG];exact zqT (zmM _) (.cons (zui .refl h) .nil)
def zAu{s:Sc}{id:Int}{g:SV}:∀x∈s.ns.map ndE++[adC s id g],x.length=47:=λx hx=>by
 rcases Xr.1 hx with h|h
 ·obtain⟨n,_,rfl⟩:=XL.1 h;rfl
 rw[Xu.1 h];rfl
def zwx{s:Sc}(hv:zV s):(1<=s.w/\s.w<=256)/\1<=s.h/\s.h<=256:=by
 have hz:¬za4 s:=(vm.1 hv).1;unfold za4 at hz;omega
def zC0{s:Sc}{id:Int}(hv:zV s)(hl:ltS s):yi (adS s id):=λ_ n hn=>by
 rcases Xr.1 (show n∈s.ns++[yD id s.w s.h] from hn) with h|h
 ·exact zgi hl (yY hv) n h
 rw[Xu.1 h];refine⟨zno.up dC,⟨zno.up dC,λq hq=>?_,(λq hq=>by cases hq),(by decide:0<=9223372036854775807)⟩,?_,(by decide:0<=300)⟩
 ·rw[Xu.1 hq];exact⟨by decide +kernel,dC⟩
 show(jJ 0 0 s.w s.h).length<=300;unfold jJ;split
 ·exact(by decide:5<=300)
 exact(by decide:0<=300)
def noS(s:Sc):Sc:={ s with ns:=[] }
def no_le{s:Sc}:LEs [i64 s.w,i64 s.h,u8 s.bg.r,u8 s.bg.g,u8 s.bg.b,u8 s.bg.a,nS] (scE (noS s)):=.C (.C (.C (.C (.C (.C (.cons zw .nil))))))
def l_hitAdded(s:Sc)(p:Pt):CX 5 [wr s,wk p] (bl true):=by
 refine zau tok func5 rfl rfl rfl ?_
 refine zaS.cut tok mix 7 (ι:=Int) (λid=>⟨[(9,.loc 3 0),(8,i64 id),(5,.sl zN (qA s p)),(3,.loc 1 0),(2,.loc 0 0)],[(0,.box 26 (scE s)),(1,.box 28 (ptE p)),(3,.box 26 (scO s 2)),(2,.garr 65 47 (s.ns.map ndE))],4,131,0⟩)
  (λid=>(ltS s/\zV s/\s.ns.length<64)/\(1<=id/\id<=1073741824)/\id∉s.ns.map Nd.id) ?_ ?_
 ·refine wg (zqo s)<|⟨λ_=>zb.to _ qM rfl .refl,λh=>?_⟩;have hl:ltS s:=Xc.1 h;have ht:=zgi hl;refine wg (zkl s ht.tame)<|⟨λ_=>zb.to _ qM rfl .refl,λh=>?_⟩;have hv:zV s:=Xc.1 h;intro hl0;refine⟨λ_=>zb.to _ qM rfl .refl,λh=>?_⟩;have h64:s.ns.length<64:=by have h:¬(64:Int)<=s.ns.length:=h;omega
  refine wg (zuh s p ht) λhl1=>?_;refine⟨Nat,λi=>⟨[(32,i64 i),(31,i64 ((qA s p).length:Int)),(5,.sl zN (qA s p)),(3,.loc 1 0),(2,.loc 0 0)],[(0,.box 26 (scE s)),(1,.box 28 (ptE p))],2,131,0⟩,λi=>i<=(qA s p).length,λi=>(qA s p).length-i,0,Xg _,zi [0,1],?_⟩
  rintro i hi
  have hi:i<=(qA s p).length:=hi;refine⟨λg:(i:Int)<(qA s p).length=>?_,λg=>?_⟩
  ·refine⟨Nat,λk=>⟨[(36,i64 k),(35,i64 i),(6,i64 i),(32,i64 i),(31,i64 ((qA s p).length:Int)),(5,.sl zN (qA s p)),(3,.loc 1 0),(2,.loc 0 0)],[(0,.box 26 (scE s)),(1,.box 28 (ptE p))],2,131,0⟩,λk=>k<=i,λk=>i-k,0,Xg _,zi [0,1],?_⟩
   rintro k hk
   have hk:k<=i:=hk;refine⟨λd:(k:Int)<i=>?_,λd=>?_⟩
   ·refine wc<|wb λx hx=>wb λy hy=>?_;refine⟨λe=>absurd e (zCM hv oM hx hy),λ_=>?_⟩;exact wa<|⟨k+1,by show k+1<=i;omega,zi [0,1],oN⟩
   exact wa<|⟨i+1,by show i+1<=_;omega,zi [0,1],oN⟩
  refine⟨Nat,λj=>⟨[(8,i64 ((j:Int)+1)),(5,.sl zN (qA s p)),(3,.loc 1 0),(2,.loc 0 0)],[(0,.box 26 (scE s)),(1,.box 28 (ptE p))],2,131,0⟩,λj=>j+vp s.ns ((j:Int)+1)<=s.ns.length,λj=>vp s.ns ((j:Int)+1),0,?_,?_,?_⟩
  ·have:=zAa s.ns (((0:Nat):Int)+1);show 0+_<=_;omega
  ·exact zi [0,1]
  rintro j hj
  have hj:j+vp s.ns ((j:Int)+1)<=s.ns.length:=hj;have ep:posS s ((j:Int)+1)=zk4 ((j:Int)+1) s.ns 0:=Xe hv;refine wg (zsD s ((j:Int)+1) ht.tame)<|⟨λg=>?_,λg=>?_⟩
  ·have hm:((j:Int)+1)∈s.ns.map Nd.id:=(zsu (Qi 0)).1 (by rw[←ep];exact g);have ha:=zkD hm;exact wa<|⟨j+1,by show j+1+vp s.ns ((j:Int)+1+1)<=_;omega,zi [0,1],ha⟩
  refine zb.fresh _ _ (zAs s oM λm hm=>hl.2 m (by rw[Xk oM];exact hm)) rfl (λ_ _=>rfl) (.inl rfl)<|⟨(j:Int)+1,⟨⟨hl,hv,h64⟩,oM,λhm=>g (by rw[ep];exact(zsu (Qi 0)).2 hm)⟩,?_⟩
  exact Sub.trans (qa (L':=[(9,.loc 3 0),(8,i64 ((j:Int)+1)),(5,.sl zN (qA s p)),(3,.loc 1 0),(2,.loc 0 0)]) (M':=[(0,.box 26 (scE s)),(1,.box 28 (ptE p)),(3,.box 26 (scO s 2)),(2,zqi s.ns)]) (nk':=4)
   [(0,some 0),(1,some 1),(2,some 2),(3,some 3)] rfl rfl rfl ⟨rfl,rfl,rfl,rfl,rfl,tV⟩ ⟨rfl,rfl,rfl,rfl,tV⟩) (zww 2 rfl)
 rintro id ⟨⟨hl,hv,h64⟩,hid,hno⟩
 have hv':=zz8 hv h64 hid hno;have hft:=zC0 (id:=id) hv hl;have ei:=zFk (p:=p) hv hv';have hsz:=zwx hv
 refine zaS.cut tok mix 1 (ι:=Unit) (λ_=>⟨[(9,.loc 3 0),(8,i64 id),(5,.sl zN (qA s p)),(3,.loc 1 0),(2,.loc 0 0)],[(0,.box 26 (scE s)),(1,.box 28 (ptE p)),(3,.box 26 (scE (adS s id)))],4,131,0⟩)
  (λ_=>True) ?_ λ_ _=>?_
 ·refine wd<|wg v8<|wg (zhD 0 0 s.w s.h)<|⟨Unit,uE,[()],rfl,wb0 ?_⟩;refine⟨[adC s id (.own 4)],rfl,wb7 ?_⟩;refine Ob.mk ⟨by rw[Xz];show((s.ns.length:Int)+1)*_<=_;dsimp only;omega,by rw[Xz];show s.ns.length+1<=_;omega,dC⟩<|wh<|⟨(),tV,?_⟩;have pf:LE (.sl uE [()]) (.sl qb [yW 1]):=zr6 (e:=uE) (g:=qb) (λ_=>yW 1) (xs:=[()]) λ_ _=>LEs.d zzG rfl
  exact(((((zbX (sz0:=47) (T0:=65) 4 6 (enc:=uE) (ys:=[()]) (xs:=s.ns.map ndE++[adC s id (.own 4)]) (xs':=s.ns.map ndE++[adC s id (.sl uE [()])]) rfl rfl (by rw[Xp,Xp];rfl) zAu zFy).trans
   (zbZ 6 rfl (zCZ pf))).trans (zcW 6 ndE (adS s id).ns rfl (λ_ _=>rfl))).trans
   (zAt 6 3 (enc:=ndE) (ys:=(adS s id).ns) (cs:=scO s 6) (cs':=scE (adS s id)) rfl rfl rfl (zuw (row:=scO s 6) (c:=6) (k:=6) rfl)))).trans
   (zA [(0,some 0),(1,some 1),(3,some 3)])
 refine zaS.cut tok mix 4 (ι:=Unit) (λ_=>⟨[(10,.sl zN (qA s p)),(9,.loc 3 0),(5,.sl zN (qA s p)),(3,.loc 1 0)],[(1,.box 28 (ptE p)),(3,.box 26 (scE (adS s id)))],4,131,0⟩)
  (λ_=>True) ?_ λ_ _=>?_
 ·refine wg (zuh (adS s id) p hft) ?_;have out:¬zst s p->some (SV.sl zN (qA (adS s id) p))=some (.sl zN (qA s p)):=λk=>by rw[ei,Xb k]
  refine⟨λa1=>?_,λa1=>⟨(),tV,qN [(1,some 1),(3,some 3)] ⟨out λk=>a1 k.1,rfl,rfl,rfl,tV⟩ ⟨rfl,rfl,tV⟩⟩⟩;refine⟨λa2=>?_,λa2=>⟨(),tV,qN [(1,some 1),(3,some 3)] ⟨out λk=>a2 k.2.1,rfl,rfl,rfl,tV⟩ ⟨rfl,rfl,tV⟩⟩⟩;refine wa<|Br.mk (λa3=>?_) (λa3=>⟨(),tV,qN [(1,some 1),(3,some 3)] ⟨out λk=>a3 k.2.2.1,rfl,rfl,rfl,tV⟩ ⟨rfl,rfl,tV⟩⟩);refine wa<|Br.mk (λa4=>?_) (λa4=>?_)
  ·have ey:qA (adS s id) p=id::qA s p:=by rw[ei];exact Xe ⟨a1,a2,a3,a4⟩
   intro hl2;refine⟨λe=>by rw[ey,Xq]at e;omega,λ_=>?_⟩;refine Ob.mk (by rw[ey,Xq];omega) λx hx=>?_;have ex:x=id:=by rw[ey]at hx;exact(Xl hx).symm
   refine⟨λk=>absurd ex k,λ_=>?_⟩;refine⟨λ_=>?_,λk=>absurd a4 k⟩;refine Ob.mk ⟨by rw[ey,Xq];omega,λx _=>rfl⟩<|⟨(),tV,qN [(1,some 1),(3,some 3)] ⟨?_,rfl,rfl,rfl,tV⟩ ⟨rfl,rfl,tV⟩⟩;show some (SV.sl zN (((qA (adS s id) p).drop 1).take ((qA (adS s id) p).length-1:Int).toNat))=some (.sl zN (qA s p));rw[ey,Xq,show(((qA s p).length+1:Nat)-1:Int).toNat=(qA s p).length by omega];show some (SV.sl zN ((qA s p).take _))=_;rw[Kf]
  refine⟨λk=>absurd k a4,λ_=>?_⟩;exact⟨(),tV,qN [(1,some 1),(3,some 3)] ⟨out λk=>a4 k.2.2.2,rfl,rfl,rfl,tV⟩ ⟨rfl,rfl,tV⟩⟩
 refine zaS.vc tok mix<|wg (zky (qA s p) (qA s p))<|⟨λ_=>?_,λk=>absurd rfl k⟩;refine wg ((zuh (noS s) p (λ_ n hn=>by cases hn)).args (.cons (jg no_le) .refl)) λhl3=>?_;refine⟨λ_=>?_,λk=>absurd rfl k⟩;exact zb.to _ qM rfl .refl
end Go.Gs
namespace Go.Gs
open Go.Proofs Go.RowKit
def laidOut:laidOutB Tryz.prog=true:=by kernel_rfl
def wfi{n:Int}(h:(Lit.int .i64 n).wf=true):R64 n:=r64 h
def wf32{n:Int}(h:(Lit.int .u32 n).wf=true):0<=n/\n<=4294967295:=by
 simp only[Lit.wf,XC,decide_eq_true_eq]at h;exact h
def shI:Sh:=.int .i64
def shB:Sh:=.int .u8
def zmN:Sh:=.st (.cons .bool (.cons (.sl (.int .u32)) .nil))
def zeD:Sh:=.st (.cons zmN (.cons zmN .nil))
def zwy:Sh:=.st (.cons zeD (.cons zeD (.cons zeD (.cons zeD (.cons zeD (.cons zeD .nil))))))
def zqU(n:Int):Dig:=dof n.toNat
def toBI(y:zmN.T):BI:=⟨y.1,List.map zqU y.2.1⟩
def zsE(y:zeD.T):BR:=⟨toBI y.1,toBI y.2.1⟩
def toAF(y:zwy.T):AF:=⟨zsE y.1,zsE y.2.1,zsE y.2.2.1,zsE y.2.2.2.1,zsE y.2.2.2.2.1,zsE y.2.2.2.2.2.1⟩
def zDJ(y:zmN.T)(h:zmN.wf y):qm (zmN.enc y) (biE (toBI y)):=by
 refine .C (.cons ?_ .nil);refine LEd.sl zqU λn hn=>?_
 have h1:=wf32 (h.2.1 n hn)
 have e:((zqU n).val:Int)=n:=by
  unfold zqU;rw[z3];omega
 show qm [.val (.int .u32 n)] [.val (.int .u32 ((zqU n).val:Int))];rw[e];exact .refl
def zmO(y:zeD.T)(h:zeD.wf y):qm (zeD.enc y) (brE (zsE y)):=qm.append (zDJ y.1 h.1) (qm.append (zDJ y.2.1 h.2.1) .nil)
def zDK(y:zwy.T)(h:zwy.wf y):qm (zwy.enc y) (afE (toAF y)):=
 qm.append (zmO _ h.1) (qm.append (zmO _ h.2.1) (qm.append (zmO _ h.2.2.1) (qm.append (zmO _ h.2.2.2.1) (qm.append (zmO _ h.2.2.2.2.1) (by
  have:=qm.append (zmO _ h.2.2.2.2.2.1) .nil
  rwa [XM,XM]at this)))))
section
variable{H:Type}{enc:TypeId×Value->H}{W:World}{b0:Nat}{held:Bool}
end
end Go.Gs
namespace Go.Gs
open Go.Proofs Go.RowKit
def zsF:Sh:=.st (.cons shI (.cons shI .nil))
def zwz(y:zsF.T):Pt:=⟨y.1,y.2.1⟩
def shSg:Sh:=.st (.cons shI (.cons zsF (.cons zsF (.cons zsF .nil))))
def zwA(y:shSg.T):Sg:=⟨y.1,zwz y.2.1,zwz y.2.2.1,zwz y.2.2.2.1⟩
def toI(y:shI.T):Int:=y
def zuy:Sh:=.st (.cons shI (.cons shI (.cons shI (.cons shI (.cons (.sl shI) (.cons shI .nil))))))
def zAv(y:zuy.T):Pen:=⟨y.1,y.2.1,y.2.2.1,y.2.2.2.1,List.map toI y.2.2.2.2.1,y.2.2.2.2.2.1⟩
def zFz(y:zuy.T):qm (zuy.enc y) (yK (zAv y)):=.C (.C (.C (.C (.cons (LEd.sl toI λ_ _=>qm.refl) (.C .nil)))))
section
variable{H:Type}{enc:TypeId×Value->H}{W:World}{b0:Nat}{held:Bool}
end
end Go.Gs
namespace Go.Gs
open Proofs.Tryz
open Go.Proofs Go.RowKit
def zAw:Sh:=.st (.cons shB (.cons shB (.cons shB (.cons shB .nil))))
def zwB(y:zAw.T):Pix:=⟨y.1,y.2.1,y.2.2.1,y.2.2.2.1⟩
def shSt:Sh:=.st (.cons shI (.cons zAw .nil))
def toSt(y:shSt.T):ze6:=⟨y.1,zwB y.2.1⟩
def zAx:Sh:=.st (.cons shI (.cons shI (.cons (.sl zAw) .nil)))
def zAy(y:zAx.T):Img:=⟨y.1,y.2.1,List.map zwB y.2.2.1⟩
def im_le(y:zAx.T):qm (zAx.enc y) (zj4 (zAy y)):=.C (.C (.cons (LEd.sl zwB λ_ _=>qm.refl) .nil))
def zwC:Sh:=.st (.cons shI (.cons zAw (.cons zsF (.cons zsF (.cons shI (.cons (.sl shSt) (.cons shI (.cons zAx (.cons shI (.cons zwy .nil))))))))))
def zqV(y:zwC.T):Pnt:=⟨y.1,zwB y.2.1,zwz y.2.2.1,zwz y.2.2.2.1,y.2.2.2.2.1,List.map toSt y.2.2.2.2.2.1,y.2.2.2.2.2.2.1,zAy y.2.2.2.2.2.2.2.1,y.2.2.2.2.2.2.2.2.1,toAF y.2.2.2.2.2.2.2.2.2.1⟩
def zDL(y:zwC.T)(h:zwC.wf y):qm (zwC.enc y) (qb (zqV y)):=
 .C (.C (.C (.C (.C (.C (.C (.C (.C (.C (.cons (LEd.sl toSt λ_ _=>qm.refl) (.cons .refl
  (.C (.C (.cons (LEd.sl zwB λ_ _=>qm.refl) (.C (by
  have:=qm.append (zDK _ h.2.2.2.2.2.2.2.2.2.1) .nil
  rwa [XM,XM]at this))))))))))))))))
def qm.app2{us bs cs ds xs ys:LQ}(h:qm us bs)(k:qm cs ds)(e1:xs=us++cs)(e2:ys=bs++ds):qm xs ys:=by rw[e1,e2];exact qm.append h k
def shN3:Sh:=.cons (.sl zwC) (.cons zAx (.cons shI .nil))
def n3_le(y:shN3.T)(h:shN3.wf y):qm (shN3.enc y) (.sl qb (List.map zqV y.1)::(zj4 (zAy y.2.1)++[i64 y.2.2.1])):=
 .cons (LEd.sl zqV λx hx=>zDL x (h.1 x hx)) (qm.app2 (im_le y.2.1) (qm.refl (us:=[i64 y.2.2.1])) rfl rfl)
def zAz:Sh:=.cons (.sl shSg) (.cons shI (.cons shB (.cons shI (.cons .bool (.cons .bool (.cons (.sl shSg) (.cons shI (.cons (.sl zwC) (.cons zuy shN3)))))))))
def n2_le(y:zAz.T)(h:zAz.wf y):qm (zAz.enc y) (.sl sgE (List.map zwA y.1)::i64 y.2.1::u8 y.2.2.1::i64 y.2.2.2.1::.pr (@Eq Bool y.2.2.2.2.1 true) (instDecidableEqBool y.2.2.2.2.1 true)::.pr (@Eq Bool y.2.2.2.2.2.1 true) (instDecidableEqBool y.2.2.2.2.2.1 true)::.sl sgE (List.map zwA y.2.2.2.2.2.2.1)::i64 y.2.2.2.2.2.2.2.1::
  .sl qb (List.map zqV y.2.2.2.2.2.2.2.2.1)::(yK (zAv y.2.2.2.2.2.2.2.2.2.1)++(.sl qb (List.map zqV y.2.2.2.2.2.2.2.2.2.2.1)::(zj4 (zAy y.2.2.2.2.2.2.2.2.2.2.2.1)++[i64 y.2.2.2.2.2.2.2.2.2.2.2.2.1])))):=
 .cons (LEd.sl zwA λ_ _=>qm.refl) (.C (.C (.C (.C (.C (.cons (LEd.sl zwA λ_ _=>qm.refl) (.C (.cons (LEd.sl zqV λx hx=>zDL x (h.2.2.2.2.2.2.2.2.1 x hx))
  (qm.app2 (zFz y.2.2.2.2.2.2.2.2.2.1) (n3_le y.2.2.2.2.2.2.2.2.2.2 h.2.2.2.2.2.2.2.2.2.2) rfl rfl)))))))))
def zAA:Sh:=.st (.cons shI (.cons shI (.cons shI (.cons zwy zAz))))
def toNd2(i k d:Int)(t:AF)(y:zAz.T):Nd:=⟨i,k,d,t,List.map zwA y.1,y.2.1,y.2.2.1,y.2.2.2.1,y.2.2.2.2.1,y.2.2.2.2.2.1,List.map zwA y.2.2.2.2.2.2.1,y.2.2.2.2.2.2.2.1,List.map zqV y.2.2.2.2.2.2.2.2.1,zAv y.2.2.2.2.2.2.2.2.2.1,
 List.map zqV y.2.2.2.2.2.2.2.2.2.2.1,zAy y.2.2.2.2.2.2.2.2.2.2.2.1,y.2.2.2.2.2.2.2.2.2.2.2.2.1⟩
def toNd(y:zAA.T):Nd:=toNd2 y.1 y.2.1 y.2.2.1 (toAF y.2.2.2.1) y.2.2.2.2
def nd_le(y:zAA.T)(h:zAA.wf y):qm (zAA.enc y) (ndE (toNd y)):=
 .C (.C (.C (qm.app2 (zDK y.2.2.2.1 h.2.2.2.1) (n2_le y.2.2.2.2 h.2.2.2.2) rfl rfl)))
def zAB:Sh:=.st (.cons shI (.cons shI (.cons zAw (.cons (.sl zAA) .nil))))
def toSc(y:zAB.T):Sc:=⟨y.1,y.2.1,zwB y.2.2.1,List.map toNd y.2.2.2.1⟩
def sc_le(y:zAB.T)(h:zAB.wf y):qm (zAB.enc y) (scE (toSc y)):=
 .C (.C (.C (.C (.C (.C (.cons (LEd.sl toNd λx hx=>nd_le x (h.2.2.2.1 x hx)) .nil))))))
section
variable{H:Type}{enc:TypeId×Value->H}{W:World}{b0:Nat}{held:Bool}
def open_scene{v:Value}{d:DataW H}{p:List MemPlace}(hv:Value.okWide prog W .any b0 26 v)(h:DataW.Trod enc prog W 0 (λ_=>true) held 26 v d p):
  ∃s:Sc,True/\∀(S Pm:LG) (ρ:ze),(∀b,¬S b)->G S Pm ρ W (wr s) v:=by
 obtain⟨y,hy,g⟩:=zg2 zAB (by kernel_rfl) (by kernel_rfl) hv h;exact⟨toSc y,tV,g _ (sc_le y hy)⟩
def open_point{v:Value}{d:DataW H}{p:List MemPlace}(hv:Value.okWide prog W .any b0 28 v)(h:DataW.Trod enc prog W 0 (λ_=>true) held 28 v d p):
  ∃q:Pt,(R64 q.x/\R64 q.y)/\∀(S Pm:LG) (ρ:ze),(∀b,¬S b)->G S Pm ρ W (wk q) v:=by
 obtain⟨y,hy,g⟩:=zg2 zsF (by kernel_rfl) (by kernel_rfl) hv h;exact⟨zwz y,⟨wfi hy.1,wfi hy.2.1⟩,g _ qm.refl⟩
end
def laidL:List (String×DataW Unit):=[("errors.errorType",YtlckjbeknkkllaaGreatDoor.Rows.laid_errors_errorType)]
def zC1:prog.globalNamed "errors.errorType" =some 0:=by kernel_rfl
def zC2:(prog.cutTypes.find? (·.1== "internal/reflectlite.rtype")).map (·.2)=some 301:=by kernel_rfl
def zAC:((List.range 455).filter λt=>prog.rowNamed t [101,114,114,111,114])=[171]:=by kernel_rfl
def zwD:prog.types.size=455:=by kernel_rfl
def zFA:typeHandle prog 171=.pointer (some ⟨3,171,none⟩):=by kernel_rfl
def handle_of_laid{W:World}(h:laidMetH prog laidL W):∀g v,GL g v->W.cell? ⟨g,0,none⟩=some v:=by
 have h':laidMet prog [] W/\handlesMet prog laidL W:=h;obtain⟨name,u,ty,e1,e2,e3,e4,e5⟩:=h'.2 _ (Xu.2 rfl);have en:name=[101,114,114,111,114]:=(Xl e1).symm;subst en;obtain rfl:=Xl (zC2.symm.trans e2);have hm:ty∈(List.range 455).filter λt=>prog.rowNamed t [101,114,114,111,114]:=QB.2 ⟨XT.2 (by rw[←zwD];exact e3),e4⟩
 rw[zAC]at hm;obtain rfl:=Xu.1 hm;rw[zFA]at e5;have e6:W.cell? ⟨0,0,none⟩=some (.iface 301 (.agg #[.pointer (some ⟨3,171,none⟩)])):=by simpa using World.var?_cell zC1 e5 0
 intro g v hg
 cases hg with
 |head=>exact e6
 |tail _ h=>cases h
noncomputable def laidWorld (os:Os):World:=
 let w0:=World.holding prog os ⟨#[],#[],[]⟩
 { w0 with heap:=w0.heap.modify 0 fun
   |.cells _ t frozen=>.cells #[.iface 301 (.agg #[.pointer (some ⟨3,171,none⟩)])] t frozen
   |o=>o }
def laidWorld_met(os:Os)(args:Array Value):laidMetH prog laidL ((laidWorld os).forCall (λ_ _=>0) ⟨#[],args,[]⟩).memory:=
 laidMetH_of_parts (laidMet_nil _ _) (by kernel_rfl)
end Go.Gs
