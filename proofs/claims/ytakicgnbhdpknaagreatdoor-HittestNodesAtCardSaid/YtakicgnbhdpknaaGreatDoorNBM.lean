/- Polygons of a node, both texts: fills, images, clips. -/
import Derived.Test.YtakicgnbhdpknaaGreatDoorNBL
set_option maxRecDepth 100000
set_option maxHeartbeats 8000000
set_option linter.all false
namespace Go.Gs
open Proofs.Tryz
open Go.Proofs
def zwk{l:List AF}:(vw l).2=0∨(vw l).2=5:=by
 unfold vw;split
 ·exact .inl rfl
 exact .inr rfl
variable{i:Int}
def vV{s:Sc}:inS s i↔¬((kg s i).2=18∨(kg s i).2=8):=by
 unfold kg
 by_cases h:jE s
 ·rw[Xc (λk=>k h)]
  by_cases h1:i<0∨s.ns.length<=i
  ·rw[Xe h1];exact⟨λk=>by have:=k.2;omega,λk=>absurd (.inr rfl) k⟩
  rw[Xc h1];refine⟨λ_=>?_,λ_=>⟨h,oM,oM⟩⟩
  rcases zwk (l:=trs s.ns i) with e|e <;> rw[e] <;> decide
 rw[Xe h];exact⟨λk=>absurd k.1 h,λk=>absurd (.inl rfl) k⟩
def zh3{s:Sc}(h:¬inS s i):(kg s i).1=qA/\(kg s i).2≠0/\z0 s i=zNd:=by
 refine⟨?_,?_,Xc h⟩
 all_goals
  unfold kg
  by_cases h0:jE s
  ·rw[Xc (λk=>k h0),Xe (by
    rcases QA i 0 with k|k
    ·exact .inl k
    exact .inr (Jp.1 λq=>h ⟨h0,k,q⟩))]
   try (first|rfl|exact dC)
  rw[Xe h0]
  try (first|rfl|exact dC)
def zcX{s:Sc}(h:inS s i){n:Nd}(hn:s.ns[i.toNat]?=some n):z0 s i=n:=by
 unfold z0;rw[Xe h,hn];rfl
def znh{s:Sc}(ht:jf s)(i:Int):(z0 s i).path.length<=300/\(z0 s i).clip.length<=300:=by
 by_cases h:inS s i
 ·obtain⟨n,hn⟩:=uL h;rw[zcX h hn];have:=ht (ul h.1) n (Xf hn);exact this.2.2
 rw[(zh3 h).2.2];exact⟨Xh _,Xh _⟩
def zzM(s:Sc)(i:Int):LR:=afE (kg s i).1++(pr ((kg s i).2=0)::ndE (z0 s i))
def z47:LR:=i64 0::i64 0::i64 0::(uf++[nS,i64 0,u8 0,i64 0,bl false,bl false,nS,i64 0,nS,
 i64 0,i64 0,i64 0,i64 0,nS,i64 0,nS,i64 0,i64 0,nS,i64 0])
def zll:LEs uf (afE qA):=show LEs (z4++(z4++(z4++(z4++(z4++z4))))) (afE qA) from LEs.append yY (LEs.append yY (LEs.append yY (LEs.append yY (LEs.append yY yY))))
def zBU:LEs z47 (ndE zNd):=
 .C (.C (.C (LEs.append zll (.cons zC (.C (.C (.C (.cons (zd dC) (.cons (zd dC) (.cons zC (.C (.cons zC
  (.C (.C (.C (.C (.cons zC (.C (.cons zC (.C (.C (.cons zC (.C .nil)))))))))))))))))))))))
def zrj{s:Sc}(h:¬inS s i):LE (.agg (uf++(bl false::z47))) (.agg (zzM s i)):=by
 obtain⟨h1,h2,h3⟩:=zh3 h;unfold zzM;rw[h1,h3];exact jj (LEs.append zll (.cons (zd h2) zBU))
def zoU(s:Sc)(i:Int)(ht:jf s):CX 80 [wq s,i64 i] (.agg (zzM s i)):=by
 refine zc func80<|wg (zBS s i ht)<|⟨λh=>zrj λk=>vV.1 k (.inl h),λh1=>?_⟩;refine⟨λh=>zrj λk=>vV.1 k (.inr h),λh2=>?_⟩;have hin:inS s i:=vV.2 λk=>k.elim h1 h2
 obtain⟨n,hn⟩:=uL hin;have hi:=(Xd.1 hn).1;have hi0:=hin.2;refine wc<|wb λx hx=>?_;have hx:x=n:=Xm ((show s.ns[i.toNat]?=some x from hx).symm.trans hn);rw[hx];have e:zzM s i=afE (kg s i).1++(pr ((kg s i).2=0)::ndE n):=by unfold zzM;rw[zcX hin hn]
 rw[e];exact .refl
def zsV(r:AF×Int)(l:LX)(ht:r.1.le 100)(hl:l.length<=300):CX 81 [.agg (afE r.1++[pr (r.2=0)]),.sl sgE l] (.sl zk (uK r l)):=by
 refine zc func81<|Br.mk (λh=>by rw[show uK r l=[] from Xe h];exact zC) (λh=>?_);have e:uK r l=(yo l r.1 32).1:=Xc h;refine wg (zBm l r.1 32 (ht.up dC) hl) ?_;rw[e];exact⟨λk=>by rw[zra k];exact zC,λ_=>.refl⟩
def zuv(s:Sc)(i:Int)(ht:jf s):CX 45 [wq s,i64 i] (.sl zk (zam s i)):=by
 refine zc func45<|wg (zoU s i ht)<|⟨λh=>by rw[show zam s i=[] from Xe (.inl h)];exact zC,λh1=>?_⟩;intro hl0;refine⟨λh=>by rw[show zam s i=[] from Xe (.inr oM)];exact zC,λh2=>?_⟩;refine wg (zsV (kg s i) (z0 s i).path (zao s i) (znh ht i).1) ?_;rw[show zam s i=uK (kg s i) (z0 s i).path from Xc λk=>k.elim h1 λq=>h2 oM];exact .refl
def zrk(a b c d:Int):(zaE a b c d).length<=300:=by
 unfold zaE;split
 ·exact(by decide:5<=300)
 exact Xh _
def zzN(s:Sc)(i:Int)(ht:jf s):CX 47 [wq s,i64 i] (.sl zk (zeU s i)):=by
 refine zc func47<|wg (zoU s i ht)<|⟨λh=>by rw[show zeU s i=[] from Xe h];exact zC,λh=>?_⟩;refine wc<|wg (zr8 0 0 (z0 s i).im.w (z0 s i).im.h)<|wg (zsV (kg s i) (zaE 0 0 (z0 s i).im.w (z0 s i).im.h) (zao s i) (zrk _ _ _ _)) ?_;rw[show zeU s i=uK (kg s i) (zaE 0 0 (z0 s i).im.w (z0 s i).im.h) from Xc h];exact .refl
def zlm(s:Sc)(i:Int):SV:=.tup [.sl zk (znd s i),pr (0<(z0 s i).clip.length)]
def zoV{s:Sc}(h:(z0 s i).clip.length=0):LE (.tup [nS,bl false]) (zlm s i):=by
 unfold zlm;rw[show znd s i=[] from Xe h];exact zM zC (zd oM)
def zln{s:Sc}{v:SV}(h:(z0 s i).clip.length≠0)(hv:LE v (.sl zk (uK (kg s i) (z0 s i).clip))):LE (.tup [v,bl true]) (zlm s i):=by
 unfold zlm;rw[show znd s i=uK (kg s i) (z0 s i).clip from Xc h];exact zM hv (zH oM)
def zBV(s:Sc)(i:Int)(ht:jf s):CX 77 [wq s,i64 i] (zlm s i):=by
 refine zc func77<|wg (zoU s i ht) λhl0=>?_;refine⟨λh=>zoV oM,λh1=>?_⟩;exact wg (zsV (kg s i) (z0 s i).clip (zao s i) (znh ht i).2)<|zln oM .refl
def zBW(s:Sc)(i:Int)(ht:jf s):CX 122 [wq s,i64 i] (zlm s i):=by
 refine zc func122<|wg (zjf s i ht) ?_;have out:¬inS s i->LE (.tup [nS,bl false]) (zlm s i):=λh=>zoV (by rw[(zh3 h).2.2];rfl)
 refine⟨λh=>out λk=>vV.1 k (.inl h),λh1=>?_⟩;refine⟨λh=>out λk=>vV.1 k (.inr h),λh2=>?_⟩;have hin:inS s i:=vV.2 λk=>k.elim h1 h2
 obtain⟨n,hn⟩:=uL hin;have hi:=(Xd.1 hn).1;have hi0:=hin.2;have en:=zcX hin hn;refine wb λx hx=>?_;have hx:x=n:=Xm ((show s.ns[i.toNat]?=some x from hx).symm.trans hn);rw[hx];intro hl0;refine⟨λh=>zoV (by rw[en];have h:(n.clip.length:Int)=0:=h;omega),λh3=>?_⟩;have hc:(z0 s i).clip.length≠0:=by rw[en];have h3:¬(n.clip.length:Int)=0:=h3;omega
 refine⟨λh=>zln hc (by rw[show uK (kg s i) (z0 s i).clip=[] from Xe h];exact zC),λh4=>?_⟩;have h4:(kg s i).2=0:=Xa.1 h4;refine wc<|wb λy hy=>?_;have hy:y=n:=Xm ((show s.ns[i.toNat]?=some y from hy).symm.trans hn);rw[hy];refine wg (zoH n.clip (kg s i).1 32 ((zao s i).up dC)) ?_;have e:uK (kg s i) (z0 s i).clip=(yo n.clip (kg s i).1 32).1:=by rw[en];exact Xc λk=>k h4
 exact zln hc (by rw[e];exact .refl)
def zBX(xs:LU):zfY (.arr 28 ptE 2 xs):=λ_ _=>rfl
def zBY(n:Int)(h0:0<=n)(h1:n<=4096):CG0 196 [nS,i64 n] [] (.own 0) [(0,.arr 28 ptE 2 [])]:=by
 refine qC tok mix func196 rfl rfl rfl<|Br.mk (λh=>absurd h oM) (λ_=>?_);refine Ar.fit dC<|wa<|Br.mk (λh=>?_) (λh=>?_)
 ·refine Ob.mk ⟨rfl,rfl,rfl⟩<|⟨Pt,ptE,zp,rfl,Ob.mk ⟨dC,h,(by show _*(16:Int)<=_;omega),oM⟩ ?_⟩;refine Sl.keep (Ob.mk ⟨rfl,Qo _,oM⟩ ?_);exact⟨some 1,.own _ rfl,rfl,λ_ _=>rfl⟩
 exact⟨none,.nil rfl,rfl⟩
variable{rs:LQ}
def zwl{i:Nat}{x:LU}(h:rs[i]?=some x):(rs.take (i+1)).flatten=(rs.take i).flatten++x:=by
 rw[Xl,h];simp
def zrl(rs:LQ):rs.flatten.length=qa rs:=by unfold qa;rw[List.length_flatten]
def zwm(rs:LQ)(hc:qa rs<=4096):CG0 131 [.sl zk rs] [] (.own 0) [(0,.arr 28 ptE 2 rs.flatten)]:=by
 refine qC tok mix func131 rfl rfl rfl λhl0=>?_;refine⟨Nat,λi=>⟨[(11,i64 i),(10,i64 rs.length),(9,.sl zk rs),(3,i64 (qa (rs.take i):Int)),(0,.sl zk rs)],[],0,36,0⟩,λi=>i<=rs.length,λi=>rs.length-i,0,Xh _,zB [],?_⟩;intro i hi;have hi:i<=rs.length:=hi;refine⟨λg:(i:Int)<rs.length=>?_,λg:¬(i:Int)<rs.length=>?_⟩
 ·refine wb λx(hx:rs[i]?=some x)=>?_;have e:=u7 hx;have:=v7 rs (i+1);intro hl1;refine wa<|Br.mk (λh=>absurd h oM) (λ_=>?_);exact wa<|⟨i+1,by show i+1<=_;omega,ji [] ⟨rfl,rfl,rfl,iR (by rw[e];omega),rfl,tV⟩ trivial,oN⟩
 have et:rs.take i=rs:=Xi oM;refine zb.fresh _ _ (zBY (qa (rs.take i):Int) oM (by rw[et];omega)) rfl (zBX _) (.inl rfl) λhl2=>?_;refine⟨Nat,λi=>⟨[(27,i64 i),(26,i64 rs.length),(25,.sl zk rs),(6,.own 0)],[(0,.arr 28 ptE 2 (rs.take i).flatten)],1,36,0⟩,λi=>i<=rs.length,λi=>rs.length-i,0,Xh _,zf [0],?_⟩;intro j hj;have hj:j<=rs.length:=hj;refine⟨λg:(j:Int)<rs.length=>?_,λg:¬(j:Int)<rs.length=>?_⟩
 ·refine wb λx(hx:rs[j]?=some x)=>?_;have e:=u7 hx;have k1:=v7 rs (j+1);have k2:=zrl (rs.take j);refine⟨x,rfl,Ob.mk ⟨(by show((rs.take j).flatten.length+x.length:Int)*(16:Int)<=_;omega),oM,dC,λ_ _=>rfl⟩ ?_⟩;exact wa<|⟨j+1,by show j+1<=_;omega,zu [1] ⟨aR (zwl hx).symm,tV⟩,oN⟩
 exact⟨some 0,.own _ rfl,aR (by rw[Xi (show rs.length<=j by omega)]),λ_ _=>rfl⟩
def zha(rs:LQ):Prop:=rs.flatten≠[]/\kL rs
instance (rs:LQ):Decidable (zha rs):=wi
def loR(rs:LQ):Pt:=if zha rs then bnd mnP rs.flatten else zp
def hiR(rs:LQ):Pt:=if zha rs then bnd mxP rs.flatten else zp
def pbE(rs:LQ):SV:=.tup [wk (loR rs),wk (hiR rs),pr (zha rs)]
def zzO(h:¬zha rs):LE (.tup [.agg [i64 0,i64 0],.agg [i64 0,i64 0],bl false]) (pbE rs):=by
 unfold pbE loR hiR;rw[Xc h,Xc h];exact zbO (.C (.C (.cons (zd h) .nil)))
def zEv(rs:LQ)(hc:qa rs<=4096):CX 95 [.sl zk rs] (pbE rs):=by
 refine zc func95<|wg ((zwm rs hc).plain rfl) ?_;generalize hq:rs.flatten=q;have hql:q.length<=4096:=by rw[←hq,zrl];exact hc
 intro hl0;refine⟨λh=>zzO λk=>k.1 (by rw[hq];exact Xp oM),λh1=>?_⟩;refine wg (zgw rs λr hr=>?_) ?_
 ·obtain⟨j,hj,e⟩:=Kl hr;have k1:=u7 (rs:=rs) (i:=j) (Xb hj);have k2:=v7 rs (j+1);rw[e]at k1;omega
 refine⟨λh=>zzO λk=>h k.2,λh2=>?_⟩;have h2:kL rs:=Xa.1 h2;have hne:q≠[]:=λk=>h1 (by rw[k];rfl)
 have hs:zha rs:=⟨by rw[hq];exact hne,h2⟩
 obtain⟨p0,t0,hq0⟩:∃p t,q=p::t:=by
  cases q with
  |nil=>exact absurd rfl hne
  |cons p t=>exact⟨p,t,rfl⟩
 have hp0:q[0]?=some p0:=by rw[hq0];rfl
 refine wd<|wb λx hx=>?_;have hx:x=p0:=Xm ((show q[0]?=some x from hx).symm.trans hp0);rw[hx];refine wb λy hy=>?_;have hy:y=p0:=Xm ((show q[0]?=some y from hy).symm.trans hp0);rw[hy];refine wh λhl1=>?_
 refine⟨Nat,λi=>⟨[(30,i64 i),(29,i64 q.length),(28,.sl ptE q),(7,.loc 3 0),(6,.loc 2 0),(3,.loc 1 0),(2,.loc 0 0)],
  [(3,.box 28 (ptE ((q.take i).foldl mxP p0))),(2,.box 28 (ptE ((q.take i).foldl mnP p0))),(1,.box 28 (ptE zp)),(0,.box 28 (ptE zp))],4,59,0⟩,
  λi=>i<=q.length,λi=>q.length-i,0,Xh _,?_,?_⟩
 ·exact zf [0,1,2,3]
 intro i hi;have hi:i<=q.length:=hi;refine⟨λg:(i:Int)<q.length=>?_,λg:¬(i:Int)<q.length=>?_⟩
 ·refine wb λz(hz:q[i]?=some z)=>?_;have e:∀f:Pt->Pt->Pt,(q.take (i+1)).foldl f p0=f ((q.take i).foldl f p0) z:=λf=>by rw[Xl,hz,KV];rfl
  refine wa ?_
  exact⟨i+1,by show i+1<=_;omega,qF [(0,some 0),(1,some 1),(2,some 2),(3,some 3)] rfl rfl rfl ⟨rfl,rfl,rfl,rfl,rfl,rfl,rfl,tV⟩
   ⟨bR ptE (e mxP).symm,bR ptE (e mnP).symm,rfl,rfl,tV⟩,oN⟩
 have et:q.take i=q:=Xi oM;refine wd<|wh ?_
 have eb:∀f:Pt->Pt->Pt,(q.take i).foldl f p0=bnd f rs.flatten:=λf=>by
  rw[et,hq];unfold bnd;rw[hq0];rfl
 rw[eb,eb];unfold pbE loR hiR;rw[Xe hs,Xe hs];exact zbO (.C (.C (.cons (zH hs) .nil)))
def zaA(s:Sc)(i:Int):List LQ:=[zam s i,zaI s i,zeU s i]
def zrm{s:Sc}(h:(z0 s i).k≠2∨(z0 s i).strk.length=0):zaI s i=[]:=Xe h
def zlo(t:AF):List BR:=[t.a,t.b,t.c,t.d,t.e,t.f]
def zuw(t:AF)(n:Nat):t.le n↔∀x∈zlo t,x.len<=n:=by
 unfold zlo AF.le;simp
instance instLe51 (t:AF) (n:Nat):Decidable (t.le n):=wi
def zux(t:AF):CX 22 [wo t] (pr (t.le 12)):=by
 refine zc func22<|⟨BR,brE,zlo t,rfl,wb0 ?_⟩;refine⟨Nat,λi=>⟨[(3,.own 0),(4,i64 i)],[(0,.arr 55 brE 4 (zlo t))],1,42,0⟩,λi=>i<=(zlo t).length/\∀x∈(zlo t).take i,x.len<=12,λi=>(zlo t).length-i,0,⟨Xh _,λx hx=>by cases hx⟩,zf [1],?_⟩
 rintro i ⟨h1,h2⟩
 intro hl1;refine⟨λg:(i:Int)<(zlo t).length=>?_,λg:¬(i:Int)<(zlo t).length=>?_⟩
 ·refine wb<|wb λx(hx:(zlo t)[i]?=some x)=>?_;have no:¬x.len<=12->¬t.le 12:=λh k=>h ((zuw t 12).1 k x (Xf hx))
  intro hl2;refine⟨λb:(12:Int)<x.num.mag.length=>?_,λb:¬(12:Int)<x.num.mag.length=>?_⟩
  ·exact zd (no (by unfold BR.len;omega))
  refine wb<|wb λx' hx'=>?_;have ex:x'=x:=Xm ((show(zlo t)[i]?=some x' from hx').symm.trans hx);rw[ex];intro hl3;refine⟨λc:(12:Int)<x.den.mag.length=>?_,λc:¬(12:Int)<x.den.mag.length=>?_⟩
  ·exact zd (no (by unfold BR.len;omega))
  exact wa<|⟨i+1,⟨oM,yq hx h2 (by unfold BR.len;omega)⟩,zf [0],oN⟩
 rw[Xi oM]at h2;exact zH ((zuw t 12).2 h2)
instance (lo hi p:Pt):Decidable (inB lo hi p):=wi
def q_one:((1:Int):Rat)=1:=rfl
def q_zero:((0:Int):Rat)=0:=rfl
variable{p:Pt}
def zni{t:AF}(h:(kr t p).2=0):(kr t p).1=goP t p:=by
 unfold kr at h ⊢
 by_cases h1:t.ok
 ·rw[kH h1]at h ⊢
  by_cases h2:zr p
  ·rw[kH h2]at h ⊢
   by_cases h3:zr (goP t p)
   ·rw[Xe h3]
   rw[Xc h3]at h;exact absurd h dC
  rw[Xe h2]at h;exact absurd h dC
 rw[Xe h1]at h;exact absurd h dC
def zh4{t:AF}:∀{l:LU},zdb t l=0->∀p∈l,(kr t p).2=0
 |p::r,h,q,hq=>by
  unfold zdb at h
  by_cases k:(kr t p).2=0
  ·rw[qH k]at h
   cases hq with
   |head=>exact k
   |tail _ hq=>exact zh4 h q hq
  rw[Xe k]at h;exact absurd h k
def zh5{t:AF}:∀{l:LQ},zdc t l=0->∀r∈l,zdb t r=0
 |p::r,h,q,hq=>by
  unfold zdc at h
  by_cases k:zdb t p=0
  ·rw[qH k]at h
   cases hq with
   |head=>exact k
   |tail _ hq=>exact zh5 h q hq
  rw[Xe k]at h;exact absurd h k
def zsW{t:AF}(h:(yp rs t).2=0):(yp rs t).1=rs.map (List.map (goP t)):=by
 unfold yp at h ⊢
 by_cases k:kL rs
 ·rw[kH k]at h ⊢
  by_cases e:zdc t rs=0
  ·rw[qH e];refine Qm λr hr=>Qm λp hp=>?_
   exact zni (zh4 (zh5 e r hr) p hp)
  rw[Xe e]at h;exact absurd h e
 rw[Xe k]at h;exact absurd h dC
def LEs.d:∀{us bs:LR},LEs us bs->j9.flats bs=true->qZ us bs
 |[],[],_,_=>.nil
 |_::_,b::bs,.cons h t,hf=>by
  have hb:j9 b=true/\j9.flats bs=true:=by
   have hf:(match j9 b with|true=>j9.flats bs|false=>false)=true:=hf
   cases hb:j9 b with
   |true=>rw[hb]at hf;exact⟨rfl,hf⟩
   |false=>rw[hb]at hf;cases hf
  exact .cons (λS w v hd=>uP hb.1 (h S (λ_=>False) (λ_=>none) w v (.d _ _ hd))) (LEs.d t hb.2)
def pc1:LR:=i64 1::u8 0::u8 0::u8 0::u8 0::i64 0::i64 0::i64 0::i64 0::i64 0::nil1::i64 0::i64 0::i64 0::nil1::i64 0::uf
def uE(_:Unit):LR:=pc1
def zzP:LR:=[i64 0,i64 0,i64 0,i64 0,nS,i64 0,nS,i64 0,i64 0,nS,i64 0]
def zBZ:LEs zzP (jb ⟨0,0,0,0,[],0⟩++(.sl yD []::(zk6 ⟨0,0,[]⟩++[i64 0]))):=
 .C (.C (.C (.C (.cons zC (.C (.cons zC (.C (.C (.cons zC (.C .nil))))))))))
def zEw:LEs pc1 (yD (zaH 1)):=
 .C (.C (.C (.C (.C (.C (.C (.C (.C (.C (.cons zC (.C (.C (.C (.cons zC (.C zk9)))))))))))))))
def ltP(p:Pnt):Prop:=p.t.le 12/\p.st.length<=30/\p.im.px.length<=300
instance (p:Pnt):Decidable (ltP p):=wi
def ltN(n:Nd):Prop:=(n.path.length<=24/\n.clip.length<=24/\n.pen.d.length<=20/\n.im.px.length<=300/\n.t.le 12/\n.fill.length<=3/\n.strk.length<=3)/\∀p∈n.fill++n.strk,ltP p
instance (n:Nd):Decidable (ltN n):=wi
def ltS(s:Sc):Prop:=¬(8<s.ns.length/\s.ns.length<=64)/\∀n∈s.ns.take 65,ltN n
instance (s:Sc):Decidable (ltS s):=wi
def zjg{s:Sc}(h:ltS s):jf s:=λhl n hn=>by
 have hn:ltN n:=h.2 n (by rw[Xi oM];exact hn);obtain⟨⟨h1,h2,h3,h4,h5,h6,h7⟩,h8⟩:=hn
 have hp:∀p∈n.fill++n.strk,p.t.le 1000/\p.im.px.length<=9223372036854775807:=λp hp=>by
  obtain⟨g1,_,g3⟩:=h8 p hp;exact⟨g1.up dC,oM⟩
 exact⟨h5.up dC,⟨h5.up dC,λp q=>hp p (Qg _ q),λp q=>hp p (Qu _ q),oM⟩,oM,oM⟩
def zrn(s:Sc):CX 7 [wq s] (pr (ltS s)):=by
 refine zc func7 λhl0=>?_;refine⟨λg1=>?_,λg1=>?_⟩
 all_goals first
  |(intro hl1;refine⟨λg2=>zd λk=>k.1 ⟨oM,oM⟩,λg2=>?_⟩;have h0:¬(8<s.ns.length/\s.ns.length<=64):=λk=>g2 (by have:=k.2;omega))
  |have h0:¬(8<s.ns.length/\s.ns.length<=64):=λk=>g1 (by have:=k.1;omega)
 all_goals
  refine⟨Nat,λi=>⟨[(3,i64 i),(1,.loc 0 0)],[(0,.box 26 (scE s))],1,114,0⟩,λi=>i<=(s.ns.take 65).length/\∀n∈(s.ns.take 65).take i,ltN n,λi=>(s.ns.take 65).length-i,0,⟨Xh _,λn hn=>by cases hn⟩,zf [0],?_⟩
  have htl:(s.ns.take 65).length=min 65 s.ns.length:=Xo
  rintro i ⟨h1,h2⟩
  have fin:¬((i:Int)<s.ns.length/\(i:Int)<=64)->LE (bl true) (pr (ltS s)):=λh=>zH ⟨h0,λn hn=>h2 n (by rw[Xi oM];exact hn)⟩
  intro hl2;refine⟨λg=>?_,λg=>fin λk=>g k.1⟩;have g:(i:Int)<s.ns.length:=g;refine⟨λg'=>?_,λg'=>fin λk=>g' k.2⟩;have g':(i:Int)<=64:=g';refine wb λx(hx:s.ns[i]?=some x)=>?_;have hx2:(s.ns.take 65)[i]?=some x:=by rw[XI,Xe oM];exact hx
  have bad:¬ltN x->LE (bl false) (pr (ltS s)):=λh=>zd λk=>h (k.2 x (Xf hx2))
  intro a0;refine⟨λk=>bad λq=>by have:=q.1.1;omega,λb1=>?_⟩;intro a1;refine⟨λk=>bad λq=>by have:=q.1.2.1;omega,λb2=>?_⟩;intro a2;refine⟨λk=>bad λq=>by have:=q.1.2.2.1;omega,λb3=>?_⟩;intro a3;refine⟨λk=>bad λq=>by have:=q.1.2.2.2.1;omega,λb4=>?_⟩;refine wg (zux x.t)<|⟨λk=>bad λq=>k q.1.2.2.2.2.1,λb5=>?_⟩;intro a5;refine⟨λk=>bad λq=>by have:=q.1.2.2.2.2.2.1;omega,λb6=>?_⟩;intro a6
  refine⟨λk=>bad λq=>by have:=q.1.2.2.2.2.2.2;omega,λb7=>?_⟩
  have ok1:x.path.length<=24/\x.clip.length<=24/\x.pen.d.length<=20/\x.im.px.length<=300/\x.t.le 12/\x.fill.length<=3/\x.strk.length<=3:=
   ⟨oM,oM,oM,oM,Xa.1 b5,oM,oM⟩
  refine wd<|⟨Pnt,yD,[],rfl,wb2 ?_⟩;refine⟨x.fill,rfl,Ob.mk ⟨by show(((0:Nat):Int)+(x.fill.length:Int))*_<=_;dsimp only;omega,by show 0+x.fill.length<=_;omega,dC,λ_ _=>rfl⟩ ?_⟩;refine⟨x.strk,rfl,Ob.mk ⟨by show((([]++x.fill:LY).length:Int)+(x.strk.length:Int))*_<=_;rw[Qx];dsimp only;omega,by rw[Qx];omega,dC,λ_ _=>rfl⟩ ?_⟩;refine wh ?_;rw[Qx];generalize hP:x.fill++x.strk=P;have hPl:P.length<=6:=by rw[←hP,Xq];omega
  refine⟨Nat,λj=>⟨[(6,i64 j),(5,.own 2),(4,.loc 1 0),(3,i64 i),(1,.loc 0 0)],[(2,.arr 70 yD 40 P),(1,.box 66 (ndE x)),(0,.box 26 (scE s))],3,114,0⟩,λj=>j<=P.length/\∀p∈P.take j,ltP p,λj=>P.length-j,0,⟨Xh _,λp hp=>by cases hp⟩,zf [0,1,4],?_⟩
  rintro j ⟨j1,j2⟩
  intro c0;refine⟨λq:(j:Int)<P.length=>?_,λq:¬(j:Int)<P.length=>?_⟩
  ·refine wb<|wb λp(hp:P[j]?=some p)=>?_;have hm:p∈x.fill++x.strk:=by rw[hP];exact Xf hp
   have badp:¬ltP p->LE (bl false) (pr (ltS s)):=λh=>bad λk=>h (k.2 p hm)
   refine wg (zux p.t)<|⟨λk=>badp λw=>k w.1,λd1=>?_⟩;refine wb<|wb λp2 hp2=>?_;have e2:p2=p:=Xm ((show P[j]?=some p2 from hp2).symm.trans hp);rw[e2];intro c1;refine⟨λk=>badp λw=>by have:=w.2.1;omega,λd2=>?_⟩;refine wb<|wb λp3 hp3=>?_;have e3:p3=p:=Xm ((show P[j]?=some p3 from hp3).symm.trans hp);rw[e3];intro c2;refine⟨λk=>badp λw=>by have:=w.2.2;omega,λd3=>?_⟩;refine wa ?_
   have okp:ltP p:=⟨Xa.1 d1,oM,oM⟩;refine⟨j+1,⟨oM,λw hw=>?_⟩,zf [0,1,2],oN⟩;rw[Xl,hp]at hw
   rcases Xs.1 hw with hw|hw
   ·exact j2 w hw
   rw[show w=p by simpa using hw];exact okp
  rw[Xi oM]at j2;refine wa<|⟨i+1,⟨oM,λw hw=>?_⟩,zf [0],oN⟩;rw[Xl,hx2]at hw
  rcases Xs.1 hw with hw|hw
  ·exact h2 w hw
  rw[show w=x by simpa using hw];exact⟨ok1,by rw[hP];exact j2⟩
def zzQ{t:AF}(h:(yp rs t).2≠0):(yp rs t).1=[]:=by
 unfold yp at h ⊢
 by_cases h1:¬kL rs
 ·rw[Xe h1]
 rw[Xc h1]at h ⊢
 by_cases h2:zdc t rs≠0
 ·rw[Xe h2]
 rw[Xc h2]at h;exact absurd rfl h
variable{l:LX}{pen:Pen}{tol:Int}
def zuy{t:AF}(h:(zay l pen t tol).2≠0):(zay l pen t tol).1=[]:=by
 unfold zay at h ⊢
 by_cases h1:¬kC pen
 ·rw[Xe h1]
 rw[Xc h1]at h ⊢
 by_cases h2:(zW l tol).2≠0
 ·rw[Xe h2]
 rw[Xc h2]at h ⊢
 by_cases h3:(jP (zW l tol).1 pen).2≠0
 ·rw[Xe h3]
 rw[Xc h3]at h ⊢
 by_cases h4:(qo (jP (zW l tol).1 pen).1 pen).2≠0
 ·rw[Xe h4]
 rw[Xc h4]at h ⊢;exact zzQ h
def zfk(r:AF×Int)(l:LX)(pen:Pen):LQ:=if r.2≠0 then[] else(zay l pen r.1 32).1
def zzR(r:AF×Int)(l:LX)(pen:Pen)(ht:r.1.le 100):CX 82 [.agg (afE r.1++[pr (r.2=0)]),.sl sgE l,wr pen] (.sl zk (zfk r l pen)):=by
 refine zc func82<|Br.mk (λh=>by rw[show zfk r l pen=[] from Xe h];exact zC) (λh=>?_);have e:zfk r l pen=(zay l pen r.1 32).1:=Xc h;refine wg (zwe l pen r.1 32 (ht.up dC)) ?_;rw[e];exact⟨λk=>by rw[zuy k];exact zC,λ_=>.refl⟩
def zuz(s:Sc)(i:Int)(ht:jf s):CX 46 [wq s,i64 i] (.sl zk (zaI s i)):=by
 refine zc func46<|wg (zoU s i ht)<|⟨λh=>by rw[zrm (.inl h)];exact zC,λh1=>?_⟩;intro hl0;refine⟨λh=>by rw[zrm (.inr oM)];exact zC,λh2=>?_⟩;refine wg (zzR (kg s i) (z0 s i).path (z0 s i).pen (zao s i)) ?_;rw[show zaI s i=zfk (kg s i) (z0 s i).path (z0 s i).pen from Xc λk=>k.elim h1 λq=>h2 oM];exact .refl
def ziE{t:AF}:∀{q:LU},qT t q=0->∀p∈q,(kr t p).2=0
 |p::r,h,z,hz=>by
  unfold qT at h
  by_cases k:(kr t p).2=0
  ·rw[Xc (λq=>q k)]at h
   cases hz with
   |head=>exact k
   |tail _ hz=>exact ziE h z hz
  rw[Xe k]at h;exact absurd h k
def zro{t:AF}(h:(kr t p).2=0):zr (goP t p):=by
 unfold kr at h
 by_cases h1:t.ok
 ·rw[Xc (λk=>k h1)]at h
  by_cases h2:zr p
  ·rw[Xc (λk=>k h2)]at h
   by_cases h3:zr (goP t p)
   ·exact h3
   rw[Xc h3]at h;exact absurd h dC
  rw[Xe h2]at h;exact absurd h dC
 rw[Xe h1]at h;exact absurd h dC
def zsX{t:AF}(h:(trans t l).2=0):qM l/\(∀p∈qc l,(kr t p).2=0)/\(trans t l).1=l.map (zfa λp=>(kr t p).1):=by
 unfold trans at h ⊢
 by_cases h1:¬qM l
 ·rw[Xe h1]at h;exact absurd h dC
 rw[Xc h1]at h ⊢
 by_cases h2:qT t (qc l)≠0
 ·rw[Xe h2]at h;exact absurd h h2
 rw[Xc h2];have hv:qM l:=Xa.1 h1;refine⟨hv,ziE (Xa.1 h2),?_⟩;exact Qm λs hs=>zm2 t (zkB (zaU.1 hv).2 s hs)
def zlp{ds:LV}{d:Int}:∀{k j:Nat},j<k->ds[j]?=some d->(j:Int)<=yx ds d k
 |k+1,j,hj,h=>by
  unfold yx
  split
  ·omega
  rename_i hn
  by_cases e:j=k
  ·subst e;exact absurd h hn
  exact zlp oM h
def zrp{ds:LV}:∀(n k:Nat),k<n->∀a∈qE ds k,a<=k
 |n+1,k,hn,a,ha=>by
  rw[jr]at ha
  rcases XY.1 ha with rfl|ha
  ·exact Xk _
  have hp:=zeN ds k
  rcases QA (yi ds k) 0 with c|c
  ·rw[zaY c]at ha;cases ha
  obtain⟨j,hj⟩:=Qh c;rw[hj]at ha;have:=zrp n j oM a ha;omega
def dN(l:LW)(k:Nat):Int:=(zI l).getD k 0
def zlq{l:LW}{k:Nat}{n:Nd}(h:l[k]?=some n):dN l k=n.d:=by unfold dN;rw[Xt,yQ h];rfl
def zlr{l:LW}{k:Nat}(h:k<l.length):(zI l)[k]?=some (dN l k):=by
 rw[zlq (Xb h)];exact yQ (Xb h)
def znj{ds:LV}(h:zd5 ds){b:Nat}{x e:Int}(hb:ds[b]?=some x)(hx:x<=e):∀{k:Nat} {d:Int},b<=k->ds[k]?=some d->e<d->∃j,b<=j/\j<k/\ds[j]?=some e
 |0,d,hk,hd,hl=>by
  obtain rfl:b=0:=oM;rw[hb]at hd;cases hd;omega
 |k+1,d,hk,hd,hl=>by
  obtain⟨a,ha⟩:∃a,ds[k]?=some a:=⟨_,Xb (by have:=(Xd.1 hd).1;omega)⟩;have hs:=h.2.2 k a d ha hd
  by_cases hb':b=k+1
  ·subst hb';rw[hb]at hd;cases hd;omega
  by_cases c:a=e
  ·exact⟨k,oM,oM,by rw[ha,c]⟩
  obtain⟨j,h1,h2,h3⟩:=znj h hb hx oM ha oM;exact⟨j,h1,oM,h3⟩
def zls(l:LW)(i e:Nat):Prop:=i<e/\e<=l.length/\(∀j,i<j->j<e->dN l i<dN l j)/\(e<l.length->dN l e<=dN l i)
def zuA(l:LW)(i:Nat):∀(m k:Nat),k+m=l.length->i<k->(∀j,i<j->j<k->dN l i<dN l j)->∃e,zls l i e
 |0,k,h,hi,hd=>⟨k,hi,oM,hd,λq=>by omega⟩
 |m+1,k,h,hi,hd=>by
  by_cases c:dN l i<dN l k
  ·refine zuA l i m (k+1) oM oM λj h1 h2=>?_
   by_cases e:j=k
   ·rw[e];exact c
   exact hd j h1 oM
  exact⟨k,hi,oM,hd,λ_=>by omega⟩
def zsY{l:LW}{i k:Nat}(hk:k<l.length)(h:yi (zI l) k=i):i<k/\dN l k=dN l i+1:=by
 have h0:=zcj (zI l) (dN l k-1) k;have e:yi (zI l) k=yx (zI l) (dN l k-1) k:=rfl;rw[e]at h;rw[h]at h0;have h1:=h0.2.2 oM;have h2:(zI l)[i]?=some (dN l k-1):=h1;have h3:i<k:=oM;rw[zlr oM]at h2;have:=Xm h2;exact⟨h3,oM⟩
variable{e:Nat}
def zB0{l:LW}{i k:Nat}(he:zls l i e)(h1:i<k)(h2:k<e):yi (zI l) k=i↔dN l k=dN l i+1:=by
 have hle:=he.2.1;refine⟨λh=>(zsY oM h).2,λh=>?_⟩
 have ep:yi (zI l) k=yx (zI l) (dN l i) k:=by
  show yx (zI l) (dN l k-1) k=_;rw[h,Int.add_sub_cancel]
 have g:=zlp (d:=dN l i) h1 (zlr oM);have hl:=zcj (zI l) (dN l i) k;rw[ep];refine Ya (Jp.1 λq=>?_) g;obtain⟨j,hj⟩:=Qh (show 0<=yx (zI l) (dN l i) k by omega);have h3:=hl.2.2 oM;rw[hj]at h3 q hl;have h3:(zI l)[j]?=some (dN l i):=h3;have hd:=he.2.2.1 j oM oM;rw[zlr oM]at h3;have:=Xm h3;omega
def zB1{l:LW}(hs:zd5 (zI l)){i k:Nat}(he:zls l i e)(h1:e<=k)(h2:k<l.length):yi (zI l) k≠i:=λh=>by
 obtain⟨a,b⟩:=zsY h2 h;have h3:=he.2.2.2 oM;obtain⟨j,j1,j2,j3⟩:=znj hs (zlr (l:=l) (k:=e) oM) h3 h1 (zlr h2) oM;have g:=zlp j2 j3
 have ep:yi (zI l) k=yx (zI l) (dN l i) k:=by
  show yx (zI l) (dN l k-1) k=_;rw[b,Int.add_sub_cancel]
 have:=he.1;omega
def zeb(l:LW)(i n:Nat):LV:=((List.range n).filter λk=>decide (yi (zI l) k=i)).map λk:Nat=>(k:Int)
def zuB{l:LW}{i n:Nat}(h:yi (zI l) n=i):zeb l i (n+1)=zeb l i n++[(n:Int)]:=by
 unfold zeb;rw[Kw,KN,XA];simp[h]
def zoW{l:LW}{i n:Nat}(h:¬yi (zI l) n=i):zeb l i (n+1)=zeb l i n:=by
 unfold zeb;rw[Kw,KN,XA];simp[h]
def zuC(l:LW)(i:Nat):∀n,n<=i+1->zeb l i n=[]
 |0,_=>rfl
 |n+1,h=>by
  rw[zoW λk=>by have:=zeN (zI l) n;omega];exact zuC l i n oM
def zrq{l:LW}(hs:zd5 (zI l)){i e:Nat}(he:zls l i e):∀m,e+m<=l.length->zeb l i (e+m)=zeb l i e
 |0,_=>rfl
 |m+1,h=>by
  rw[←KB,zoW (zB1 hs he oM oM)];exact zrq hs he m oM
def zuD(l:LW)(i n:Nat):(zeb l i n).length<=n:=by
 unfold zeb;rw[Xx];have:=KX (λk=>decide (yi (zI l) k=i)) (List.range n)
 rwa [Ji]at this
def zaB(s:Sc)(i:Nat):LV:=zeb s.ns i s.ns.length
def zEx{s:Sc}{i:Nat}{k:Int}(h:k∈zaB s i):∃m:Nat,k=m/\m<s.ns.length/\dN s.ns m=dN s.ns i+1:=by
 unfold zaB zeb at h;obtain⟨m,hm,rfl⟩:=XO.1 h;obtain⟨h1,h2⟩:=QL.1 hm;have h1:=Kd.1 h1;exact⟨m,rfl,h1,(zsY h1 (of_decide_eq_true h2)).2⟩
def zuE{α:Type _}{xs:List α}(h:xs=[]):Nat.beq xs.length 0=true:=by rw[h];rfl
def s_end(l:LW)(i e:Nat)(h:zls l i e)(hl:l.length<=64):CX 84 [.sl ndE l,i64 i] (i64 e):=by
 obtain⟨h1,h2,h3,h4⟩:=h;refine zc func84<|wa<|⟨Nat,λk=>⟨[(5,i64 k),(1,i64 i),(0,.sl ndE l)],[],0,28,0⟩,λk=>i<k/\k<=e,λk=>e-k,i+1,⟨oM,oM⟩,?_,?_⟩
 ·exact zB []
 rintro k ⟨hk,he⟩
 refine wc λhl0=>?_;refine⟨λg:(k:Int)<l.length=>?_,λg:¬(k:Int)<l.length=>?_⟩
 ·refine wb λx hx=>?_;have ex:=zlq (show l[k]?=some x from hx);refine wb λy hy=>?_;have ey:=zlq (show l[i]?=some y from hy);refine⟨λc=>?_,λc:¬y.d<x.d=>?_⟩
  ·have c:y.d<x.d:=c
   have hlt:k<e:=Nat.lt_of_le_of_ne he λq=>by
    subst q;have:=h4 oM;omega
   exact wa<|⟨k+1,⟨oM,hlt⟩,zB [],oN⟩
  refine ze (Xg Int.ofNat (Nat.le_antisymm he (Nat.not_lt.1 λq=>?_)));have:=h3 k hk q;omega
 exact ze oM
def zEy(s:Sc)(i:Nat)(ht:zck s)(hi:inS s i):CX 48 [wq s,i64 i] (.sl zN (zaB s i)):=by
 have hs:=zal hi.1;have hl:=ul hi.1;have hlt:i<s.ns.length:=by have:=hi.2.2;omega
 obtain⟨n,hn⟩:∃n,s.ns[i]?=some n:=⟨_,Xb hlt⟩;have en:=zlq hn;have hdp:=yE hi.1 n (Xf hn);obtain⟨e,he⟩:=zuA s.ns i (s.ns.length-(i+1)) (i+1) oM oM λj h1 h2=>oM
 have he1:=he.1;have he2:=he.2.1;refine zc func48<|Br.mk (λ_=>?_) (λk=>by have k:¬¬(i:Int)= -1:=k;omega);refine wg (zzy s i ht)<|⟨λk=>absurd hi k,λ_=>?_⟩;refine wg (zje s ht)<|⟨λk=>absurd hi.1 k,λ_=>?_⟩;refine wc λhl0=>?_;refine⟨λ_=>?_,λk=>by have k:¬(0:Int)<=i:=k;omega⟩;refine wc<|wb λx hx=>?_;rw[show x=n from Xm ((show s.ns[i]?=some x from hx).symm.trans hn)];(iterate 2 refine wa ?_)
 refine wg (s_end s.ns i e he hl)<|⟨Nat,λk=>⟨[(9,i64 k),(8,.own 1),(7,i64 e),(5,i64 (n.d+1)),(2,.loc 0 0)],[(1,.arr 3 zN 1 (zeb s.ns i k)),(0,.box 26 (scE s))],2,60,0⟩,λk=>i<k/\k<=e,λk=>e-k,i+1,⟨oM,oM⟩,?_,?_⟩
 ·exact zby [(0,some 0),(1,none)] ⟨zuE (zuC s.ns i (i+1) (Xk _)),rfl,tV⟩
 rintro k ⟨hk,hke⟩
 refine⟨λg:(k:Int)<e=>?_,λg=>?_⟩
 ·refine wb λx hx=>?_;have ex:=zlq (show s.ns[k]?=some x from hx);have hp:=zB0 he hk (show k<e by omega);have hkl:=zuD s.ns i k;refine⟨λc:x.d=n.d+1=>?_,λc:¬x.d=n.d+1=>?_⟩
  ·refine⟨Int,zN,[(k:Int)],rfl,wb4 ?_⟩;refine⟨[(k:Int)],rfl,Ob.mk ⟨by show(((zeb s.ns i k).length:Int)+1)*8<=_;omega,by rw[X0];omega,dC,λx hx=>by rw[Xu.1 hx];rfl⟩ ?_⟩;exact wa<|⟨k+1,⟨oM,oM⟩,zu [0,3] ⟨aR (zuB (hp.2 oM)).symm,rfl,tV⟩,oN⟩
  exact wa<|⟨k+1,⟨oM,oM⟩,zu [0,1] ⟨aR (zoW λq=>by have:=hp.1 q;omega).symm,rfl,tV⟩,oN⟩
 obtain rfl:k=e:=by have g:¬(k:Int)<e:=g;omega
 refine zZ ?_;have:=zrq hs he (s.ns.length-k) oM;rw[show k+(s.ns.length-k)=s.ns.length by omega]at this;exact this.symm
def zB2(s:Sc)(i:Nat)(ht:zck s)(hi:inS s i):CX 88 [wq s,i64 i] (.sl zN (zaB s i)):=by
 have hl:=ul hi.1;have hdp:=yE hi.1;refine zc func88<|⟨Int,zN,[],rfl,wb2 ?_⟩;refine⟨λ_=>?_,λk=>by have k:¬¬(i:Int)= -1:=k;omega⟩;refine wg (zrh s i ht)<|⟨λk=>absurd hi k,λ_=>?_⟩;refine wg (zea s ht)<|⟨λk=>absurd hi.1 k,λ_=>?_⟩;refine⟨Nat,λk=>⟨[(6,i64 k),(5,.own 1),(2,.loc 0 0),(1,i64 i)],[(1,.arr 3 zN 1 (zeb s.ns i k)),(0,.box 26 (scE s))],2,40,0⟩,λk=>k<=s.ns.length,λk=>s.ns.length-k,0,Xh _,zf [0,1],?_⟩
 rintro k hk
 have hk:k<=s.ns.length:=hk;intro hl0;refine⟨λg:(k:Int)<s.ns.length=>?_,λg=>?_⟩
 ·obtain⟨y,hy⟩:∃y,s.ns[k]?=some y:=⟨_,Xb oM⟩;refine wg (zzI s.ns k y hy hdp hl) ?_;have hkl:=zuD s.ns i k;refine⟨λc:yi (zI s.ns) k=i=>?_,λc:¬yi (zI s.ns) k=i=>?_⟩
  ·refine⟨Int,zN,[(k:Int)],rfl,wb4 ?_⟩;refine⟨[(k:Int)],rfl,Ob.mk ⟨by show(((zeb s.ns i k).length:Int)+1)*8<=_;omega,by rw[X0];omega,dC,λx hx=>by rw[Xu.1 hx];rfl⟩ ?_⟩;exact wa<|⟨k+1,by show k+1<=s.ns.length;omega,zu [0,3] ⟨aR (zuB c).symm,rfl,tV⟩,oN⟩
  exact wa<|⟨k+1,by show k+1<=s.ns.length;omega,zu [0,1] ⟨aR (zoW c).symm,rfl,tV⟩,oN⟩
 obtain rfl:k=s.ns.length:=by have g:¬(k:Int)<s.ns.length:=g;omega
 exact .refl
def zCL(s:Sc)(i:Int)(ht:zck s):CX 28 [wq s,i64 i] (.sl zN (qq s i)):=by
 refine zc func28<|wg (zzy s i ht)<|⟨λh=>by rw[show qq s i=[] from Xc h];exact zC,λh=>?_⟩;have h:inS s i:=Xa.1 h;obtain⟨i,rfl⟩:∃k:Nat,i=(k:Int):=⟨i.toNat,by have:=h.2.1;omega⟩;have hl:=ul h.1;have hdp:=yE h.1;have hlt:i<s.ns.length:=by have:=h.2.2;omega
 have ea:qq s i=zaz ((qE (zI s.ns) i).reverse):=Xe h
 refine⟨Int×LV,λz=>⟨[(6,i64 z.1),(5,.own 1),(2,.loc 0 0)],[(1,.arr 3 zN 1 z.2),(0,.box 26 (scE s))],2,23,0⟩,
  λz=>(-1<=z.1/\z.1<s.ns.length/\z.2.length<=100)/\zaz ((qE (zI s.ns) z.1).reverse)++z.2=qq s i/\z.1+z.2.length<=64,λz=>(z.1+1).toNat,(i,[]),⟨⟨oN,oN,Xh _⟩,by rw[ea,XE],by dsimp only;rw[Xr];omega⟩,zB [(0,some 0),(1,none)],?_⟩
 rintro⟨k,out⟩ ⟨⟨k1,k2,k3⟩,k4,k5⟩
 dsimp only at k1 k2 k3 k4 k5 ⊢;refine⟨λg:0<=k=>?_,λg:¬0<=k=>?_⟩
 ·obtain⟨k,rfl⟩:∃q:Nat,k=(q:Int):=⟨k.toNat,oM⟩;obtain⟨y,hy⟩:∃y,s.ns[k]?=some y:=⟨_,Xb oM⟩;have hp:=zeN (zI s.ns) k;refine⟨Int,zN,[(k:Int)],rfl,wb4 ?_⟩;refine⟨out,rfl,Ob.mk ⟨by show((([(k:Int)]:LV).length:Int)+(out.length:Int))*8<=_;rw[X0];omega,by rw[X0];omega,dC,λ_ _=>rfl⟩ ?_⟩;refine wg (zzz s.ns k y hy hdp hl) ?_
  refine⟨(yi (zI s.ns) k,(k:Int)::out),⟨⟨hp.1,oN,by dsimp only;rw[Xn];omega⟩,?_,by dsimp only;rw[Xn];omega⟩,zf [0,3],oN⟩;dsimp only;rw[←k4,jr (zI s.ns) k,List.reverse_cons];unfold zaz;rw[XA,XZ];rfl
 rw[zaY oM]at k4;exact zZ k4
def zh6{s:Sc}(h:(kg s i).2=0):inS s i:=vV.2 λk=>by rw[h]at k;exact absurd k dC
def zB3(s:Sc)(i:Int)(ht:jf s):CX 72 [wq s,i64 i] (.sl zk (zam s i)):=by
 refine zc func72<|wg (zjf s i ht) ?_;have nil:zam s i=[]->LE nS (.sl zk (zam s i)):=λh=>by rw[h];exact zC
 refine⟨λh=>nil ?_,λh1=>?_⟩
 ·unfold zam uK;rw[Xe (show(kg s i).2≠0 from h)];split <;> rfl
 have h1:(kg s i).2=0:=Xa.1 h1;have hin:=zh6 h1;obtain⟨n,hn⟩:=uL hin;have hi:=(Xd.1 hn).1;have hi0:=hin.2;have en:=zcX hin hn;have get:∀x,s.ns[i.toNat]?=some x->x=n:=λx hx=>Xm (hx.symm.trans hn)
 refine wb λx hx=>?_;rw[get x hx];refine⟨λh=>nil ?_,λh2=>?_⟩
 ·exact Xe (.inl (by rw[en];exact h))
 have h2:n.k=2:=Xa.1 h2;refine wb λx hx=>?_;rw[get x hx];intro _;refine⟨λh=>nil ?_,λh3=>?_⟩
 ·have h:(n.fill.length:Int)=0:=h;exact Xe (.inr (by rw[en];omega))
 have h3:¬(n.fill.length:Int)=0:=h3;refine wc<|wb λx hx=>?_;rw[get x hx];refine wg (zoH n.path (kg s i).1 32 ((zao s i).up dC)) ?_
 have e:zam s i=(yo n.path (kg s i).1 32).1:=by
  unfold zam uK;rw[en,Xc (λk=>k.elim (λk=>k h2) λk=>h3 oM),Xc (λk=>k h1)]
 rw[e];exact .refl
def zB4(s:Sc)(i:Int)(ht:jf s):CX 73 [wq s,i64 i] (.sl zk (zaI s i)):=by
 refine zc func73<|wg (zjf s i ht) ?_;have nil:zaI s i=[]->LE nS (.sl zk (zaI s i)):=λh=>by rw[h];exact zC
 refine⟨λh=>nil ?_,λh1=>?_⟩
 ·unfold zaI;rw[Xe (show(kg s i).2≠0 from h)];split <;> rfl
 have h1:(kg s i).2=0:=Xa.1 h1;have hin:=zh6 h1;obtain⟨n,hn⟩:=uL hin;have hi:=(Xd.1 hn).1;have hi0:=hin.2;have en:=zcX hin hn;have get:∀x,s.ns[i.toNat]?=some x->x=n:=λx hx=>Xm (hx.symm.trans hn)
 refine wb λx hx=>?_;rw[get x hx];refine⟨λh=>nil ?_,λh2=>?_⟩
 ·exact Xe (.inl (by rw[en];exact h))
 have h2:n.k=2:=Xa.1 h2;refine wb λx hx=>?_;rw[get x hx];intro _;refine⟨λh=>nil ?_,λh3=>?_⟩
 ·have h:(n.strk.length:Int)=0:=h;exact Xe (.inr (by rw[en];omega))
 have h3:¬(n.strk.length:Int)=0:=h3;refine wc<|wb λx hx=>?_;rw[get x hx];refine wb λx hx=>?_;rw[get x hx];refine wg (zwf n.path n.pen (kg s i).1 32 ((zao s i).up dC)) ?_
 have e:zaI s i=(zay n.path n.pen (kg s i).1 32).1:=by
  unfold zaI;rw[en,Xc (λk=>k.elim (λk=>k h2) λk=>h3 oM),Xc (λk=>k h1)]
 rw[e];exact .refl
def zEz(s:Sc)(i:Int)(ht:jf s):CX 74 [wq s,i64 i] (.sl zk (zeU s i)):=by
 refine zc func74<|wg (zjf s i ht) ?_;have nil:zeU s i=[]->LE nS (.sl zk (zeU s i)):=λh=>by rw[h];exact zC
 refine⟨λh=>nil ?_,λh1=>?_⟩
 ·unfold zeU uK;rw[Xe (show(kg s i).2≠0 from h)];split <;> rfl
 have h1:(kg s i).2=0:=Xa.1 h1;have hin:=zh6 h1;obtain⟨n,hn⟩:=uL hin;have hi:=(Xd.1 hn).1;have hi0:=hin.2;have en:=zcX hin hn;have get:∀x,s.ns[i.toNat]?=some x->x=n:=λx hx=>Xm (hx.symm.trans hn)
 refine wb λx hx=>?_;rw[get x hx];refine⟨λh=>nil ?_,λh2=>?_⟩
 ·exact Xe (by rw[en];exact h)
 have h2:n.k=3:=Xa.1 h2;refine wc<|wb λx hx=>?_;rw[get x hx];refine wb λx hx=>?_;rw[get x hx];refine wg (zin 0 0 n.im.w n.im.h)<|wg (zoH (zaE 0 0 n.im.w n.im.h) (kg s i).1 32 ((zao s i).up dC)) ?_
 have e:zeU s i=(yo (zaE 0 0 n.im.w n.im.h) (kg s i).1 32).1:=by
  unfold zeU uK;rw[en,Xc (λk=>k h2),Xc (λk=>k h1)]
 rw[e];exact .refl
def zwn{w:AF×Int}(h:uK w l≠[]):w.2=0/\(yo l w.1 32).2=0/\uK w l=(yo l w.1 32).1:=by
 unfold uK at h ⊢
 by_cases c:w.2≠0
 ·rw[Xe c]at h;exact absurd rfl h
 rw[Xc c]at h ⊢;exact⟨Xa.1 c,Xa.1 λk=>h (zra k),rfl⟩
def zwo{w:AF×Int}(h:zfk w l pen≠[]):w.2=0/\(zay l pen w.1 32).2=0/\zfk w l pen=(zay l pen w.1 32).1:=by
 unfold zfk at h ⊢
 by_cases c:w.2≠0
 ·rw[Xe c]at h;exact absurd rfl h
 rw[Xc c]at h ⊢;exact⟨Xa.1 c,Xa.1 λk=>h (zuy k),rfl⟩
def zzS(s:Sc)(i:Int):zaI s i=if (z0 s i).k≠2∨(z0 s i).strk.length=0 then[] else zfk (kg s i) (z0 s i).path (z0 s i).pen:=rfl
def zwp{t:AF}(h:(yo l t tol).2=0):kL (yo l t tol).1:=by
 have ht:(trans t l).2=0:=by
  refine Xa.1 λk=>?_
  unfold yo at h;rw[Xe k]at h;exact k h
 obtain⟨v1,p1,e1⟩:=zsX ht
 obtain⟨f1,f2⟩:=zsj (lo:=⟨-1048576,-1048576⟩) (hi:=⟨1048576,1048576⟩) h (λp hp=>by
  rw[e1,zAR]at hp;obtain⟨z,hz,rfl⟩:=XO.1 hp;rw[zni (p1 z hz)]
  exact zro (p1 z hz))
 exact⟨oM,λr hr p hp=>f2 r hr p hp⟩
def zuF(f:Pt->Pt):∀rs:LQ,qa (rs.map (List.map f))=qa rs
 |[]=>rfl
 |r::rs=>by
  have ih:=zuF f rs;unfold qa at ih ⊢;simp only[QO,Q4,Xx];rw[ih]
def zwq{t:AF}(h:(yp rs t).2=0):kL (yp rs t).1:=by
 have e:=zsW h
 have hr:kL rs/\zdc t rs=0:=by
  unfold yp at h
  by_cases k:kL rs
  ·rw[kH k]at h
   by_cases q:zdc t rs=0
   ·exact⟨k,q⟩
   rw[Xe q]at h;exact absurd h q
  rw[Xe k]at h;exact absurd h dC
 rw[e];refine⟨by rw[zuF];exact hr.1.1,λr hr2 p hp=>?_⟩;obtain⟨r0,hr0,rfl⟩:=XO.1 hr2;obtain⟨p0,hp0,rfl⟩:=XO.1 hp;exact zro (zh4 (zh5 hr.2 r0 hr0) p0 hp0)
def zzT{t:AF}(h:(zay l pen t tol).2=0):kL (zay l pen t tol).1:=by
 unfold zay at h ⊢
 by_cases a1:¬kC pen
 ·rw[Xe a1]at h;exact absurd h dC
 rw[Xc a1]at h ⊢
 by_cases a2:(zW l tol).2≠0
 ·rw[Xe a2]at h;exact absurd h a2
 rw[Xc a2]at h ⊢
 by_cases a3:(jP (zW l tol).1 pen).2≠0
 ·rw[Xe a3]at h;exact absurd h a3
 rw[Xc a3]at h ⊢
 by_cases a4:(qo (jP (zW l tol).1 pen).1 pen).2≠0
 ·rw[Xe a4]at h;exact absurd h a4
 rw[Xc a4]at h ⊢;exact zwq h
def za0:kL []:=⟨by show((0:Nat):Int)<=4096;decide,λr hr=>by cases hr⟩
def zh7(w:AF×Int)(l:LX):kL (uK w l):=by
 by_cases h:uK w l=[]
 ·rw[h];exact za0
 obtain⟨_,a2,a3⟩:=zwn h;rw[a3];exact zwp a2
def zwr(w:AF×Int)(l:LX)(pen:Pen):kL (zfk w l pen):=by
 by_cases h:zfk w l pen=[]
 ·rw[h];exact za0
 obtain⟨_,a2,a3⟩:=zwo h;rw[a3];exact zzT a2
def zcY(s:Sc)(i:Int):∀l∈zaA s i,kL l:=λl hl=>by
 have h:l=zam s i∨l=zaI s i∨l=zeU s i:=by simpa[zaA] using hl
 rcases h with rfl|rfl|rfl
 ·unfold zam;split
  ·exact za0
  exact zh7 _ _
 ·rw[zzS];split
  ·exact za0
  exact zwr _ _ _
 unfold zeU;split
 ·exact za0
 exact zh7 _ _
end Go.Gs
