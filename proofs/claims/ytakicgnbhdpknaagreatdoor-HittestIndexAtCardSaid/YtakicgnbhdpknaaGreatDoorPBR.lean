/- At is NodesAt, in terms of what both find: plain. -/
import Derived.Test.YtakicgnbhdpknaaGreatDoorPBQ
import Derived.Test.YtakicgnbhdpknaaGreatDoorChecked
import Derived.LaidLaws
import Derived.LaidHandle
import Derived.Stop.Joined
import Derived.Test.YtakicgnbhdpknaaGreatDoorRows
set_option maxRecDepth 100000
set_option maxHeartbeats 8000000
set_option linter.all false
namespace Go.Gs
open Proofs.Tryz
open Go.Proofs
def zCx{s:Sc}{n:Nat}(a:n<s.ns.length):(bxA s).getD n qp=bxK s n:=by
 unfold bxA;rw[Xr,zmw a,Xe a];rfl
def zwB{s:Sc}{p:Pt}(j:qy s)(f:∀m∈s.ns,1<=m.k/\m.k<=3):∀n,n<=s.ns.length->((zbS s (vR p) (enN (bxA s) n)).reverse).filter (λi=>onS s p i)=atL s p n
 |0,_=>rfl
 |n+1,r=>by
  have b:=zwB j f (p:=p) n oM;have d:=zCx (s:=s) (n:=n) oM;have g:zhU s (vR p) (n:Int)↔¬((bxK s n).meet (vR p)).mt:=by unfold zhU;rw[XT,d]
  by_cases c:ndK s n≠1/\onS s p n=true
  .obtain⟨_,l,o⟩:=zCt c.2 (zoy j oM f c.1);have ek:bxK s n=zan s n:=Xe c.1;rw[ek]at g d;rw[zmx (by rw[d];exact l),zi0 c];unfold zbS at b ⊢;rw[Kk,KA,Xe (decide_eq_true (g.2 o)),Jg,JU,Ju,JC,KA,Xe c.2,b]
  rw[zsT c]
  by_cases a:(bxK s n).mt
  .rw[zCg (by rw[d];exact a)];exact b
  have q:ndK s n≠1:=λe=>a (by unfold bxK;rw[Xc λh=>h e];exact uo)
  have no:¬onS s p n=true:=λh=>c ⟨q,h⟩
  rw[zmx (by rw[d];exact a)];unfold zbS at b ⊢;rw[Kk,KA]
  split
  .rw[Jg,JU,Ju,JC,KA,Xc no,b]
  rw[Jg,XC,b]
def zs6{s:Sc}{p:Pt}(d:qy s)(b:∀m∈s.ns,1<=m.k/\m.k<=3)(a:zs2 p):∀n,n<=s.ns.length->atL s p n=[]
 |0,_=>rfl
 |n+1,e=>by
  rw[zsT λc=>(zCt c.2 (zoy d oM b c.1)).1 a];exact zs6 d b a n oM
variable{p:Pt}
def zEO{s:Sc}(b:qy s)(a:∀m∈s.ns,1<=m.k/\m.k<=3):atQ s p=zaI s p:=by
 unfold atQ zaI atA
 split
 .rename_i h;rw[zs6 b a h _ (Xj _)];rfl
 unfold onN cdT zuB enA;rw[zwB b a _ (Xj _)]
def inL(s:Sc)(r:Rc):Nat->LV
 |0=>[]
 |n+1=>if ndK s n≠1/\¬((zan s n).meet r).mt then(n:Int)::inL s r n else inL s r n
def zwC(s:Sc)(r:Rc):∀n,n<=s.ns.length->(zbS s r (enN (bxA s) n)).reverse=inL s r n
 |0,_=>rfl
 |n+1,j=>by
  have d:=zwC s r n oM;have b:=zCx (s:=s) (n:=n) oM;have f:zhU s r (n:Int)↔¬((bxK s n).meet r).mt:=by unfold zhU;rw[XT,b]
  unfold inL
  by_cases c:ndK s n≠1/\¬((zan s n).meet r).mt
  .have ek:bxK s n=zan s n:=Xe c.1;rw[ek]at f b;have i:¬(zan s n).mt:=λk=>c.2 (by unfold Rc.meet;rw[Xe (.inl k)];exact uo)
   rw[zmx (by rw[b];exact i),Xe c];unfold zbS at d ⊢;rw[Kk,KA,Xe (decide_eq_true (f.2 c.2)),Jg,JU,Ju,JC,d]
  rw[Xc c]
  by_cases a:(bxK s n).mt
  .rw[zCg (by rw[b];exact a)];exact d
  have g:ndK s n≠1:=λe=>a (by unfold bxK;rw[Xc λh=>h e];exact uo)
  have ek:bxK s n=zan s n:=Xe g;have no:¬zhU s r (n:Int):=λh=>c ⟨g,by rw[←ek];exact f.1 h⟩
  rw[zmx (by rw[b];exact a)];unfold zbS at d ⊢;rw[Kk,KA,Xc (by simpa using no),Jg,XC,d]
def zCy(s:Sc)(r:Rc):cdT s r=inL s r s.ns.length:=zwC s r _ (Xj _)
def zyw{s:Sc}(h:qy s):atQ s p=zaI s p:=zEO h (zsU h)
def zuC(s:Sc)(ht:jd s)(a:¬qy s):CX 17 [wq s] (.tup [.val (.pointer none),i64 18]):=by
 exact zc func17<|wg (zhH s ht.tame)<|⟨λ_=>.refl,λk=>absurd (Xa.1 k) a⟩
def zHs{s:Sc}{n:Nat}(c:n+1<=s.ns.length)(h:ndK s n≠1/\onS s p n=true):(atA s p).take (atT s p (n+1))++[(n:Int)]=(atA s p).take (atT s p n):=by
 obtain⟨a,b⟩:=zws c h;rw[←b,Xm,a];rfl
def zHt(s:Sc)(p:Pt):(atA s p).take (atT s p 0)=atA s p:=X9
def zCz(s:Sc)(p:Pt)(ht:jd s):CX 25 [wq s,wk p] (.sl zM (atA s p)):=by
 refine zc func25 ?_;have r:=zmv s p;intro i;refine wa<|⟨Nat,λj=>⟨[(6,i64 ((j:Int)-1)),(5,.own 2),(3,.loc 1 0),(2,.loc 0 0)],[(0,.box 26 (scE s)),(1,.box 28 (ptE p)),(2,.arr 3 zM 1 ((atA s p).take (atT s p j)))],3,33,0⟩,λj=>j<=s.ns.length,λj=>j,s.ns.length,Xj _,?_,?_⟩
 .exact zdy [(0,some 0),(1,some 1),(2,none)] ⟨rfl,rfl,zwl (by rw[show atT s p s.ns.length=0 from QQ _];rfl),tV⟩
 rintro j e
 have e:j<=s.ns.length:=e;have l:((atA s p).take (atT s p j)).length<=1000:=by rw[Xo];omega
 refine⟨λg:0<=(j:Int)-1=>?_,λg=>?_⟩
 .obtain⟨k,rfl⟩:∃k,j=k+1:=⟨j-1,oM⟩;have ek:((k+1:Nat):Int)-1=(k:Int):=oM;have a:some (i64 (((k+1:Nat):Int)-1-1))=some (i64 ((k:Int)-1)):=by rw[ek]
  refine wb λn m=>?_;have f:=zmu (show s.ns[k]?=some n by rw[←m,ek];rfl);refine⟨λc:¬n.k=1=>?_,λc=>?_⟩
  .refine wg (k_on s p (((k+1:Nat):Int)-1) ht)<|⟨λd=>?_,λd=>?_⟩
   .have b:ndK s k≠1/\onS s p k=true:=⟨by rw[f];exact c,by rw[ek]at d;exact d⟩;refine⟨Int,zM,[((k+1:Nat):Int)-1],rfl,wb3 ?_⟩;refine⟨[((k+1:Nat):Int)-1],rfl,Ob.mk ⟨by show((((atA s p).take (atT s p (k+1))).length:Int)+1)*8<=_;omega,by rw[XZ];omega,dC,λx o=>by rw[Xu.1 o];rfl⟩ ?_⟩;exact wa<|⟨k,by show k<=_;omega,zP [0,1,4] ⟨a,rfl,rfl,rfl,tV⟩ ⟨rfl,rfl,aR (by rw[ek];exact zHs e b),tV⟩,oN⟩
   have b:¬(ndK s k≠1/\onS s p k=true):=λh=>d (by rw[ek];exact h.2)
   exact wa<|⟨k,by show k<=_;omega,zP [0,1,2] ⟨a,rfl,rfl,rfl,tV⟩ ⟨rfl,rfl,Xg (λq=>some (Mem.arr 3 zM 1 ((atA s p).take q))) (zqd b),tV⟩,oN⟩
  have b:¬(ndK s k≠1/\onS s p k=true):=λh=>c (by rw[←f];exact h.1)
  exact wa<|⟨k,by show k<=_;omega,zP [0,1,2] ⟨a,rfl,rfl,rfl,tV⟩ ⟨rfl,rfl,Xg (λq=>some (Mem.arr 3 zM 1 ((atA s p).take q))) (zqd b),tV⟩,oN⟩
 obtain rfl:j=0:=by have g:¬0<=(j:Int)-1:=g;omega
 exact z6 (zHt s p)
def zCA{s:Sc}{l:LV}{q:Nat}{k:Int}{n:Nd}(a:l[q]?=some k)(b:s.ns[k.toNat]?=some n):(l.take q).map (ndI s)++[n.id]=(l.take (q+1)).map (ndI s):=by
 rw[Xm,a,XA,←ziZ b];rfl
def zyx(s:Sc)(p:Pt)(ht:jd s):CX 9 [wq s,wk p] (.sl zM (zaI s p)):=by
 refine zc func9 ?_;have h:=zmv s p;refine wg (zCz s p ht)<|⟨Nat,λq=>⟨[(7,i64 q),(6,.own 2),(5,.sl zM (atA s p)),(2,.loc 0 0)],[(0,.box 26 (scE s)),(2,.arr 3 zM 1 (((atA s p).take q).map (ndI s)))],3,30,0⟩,λq=>q<=(atA s p).length,λq=>(atA s p).length-q,0,Xh _,?_,?_⟩
 .exact zC [(0,some 0),(2,none)]
 rintro q b
 have b:q<=(atA s p).length:=b;have c:(((atA s p).take q).map (ndI s)).length<=1000:=by rw[Xw,Xo];omega
 intro f;refine⟨λg:(q:Int)<(atA s p).length=>?_,λg:¬(q:Int)<(atA s p).length=>?_⟩
 .refine wc<|wb λk(a:(atA s p)[q]?=some k)=>?_;refine Ob.mk (zwq (Xf a)) λn d=>?_;refine⟨Int,zM,[n.id],rfl,wb3 ?_⟩;refine⟨[n.id],rfl,Ob.mk ⟨by show(((((atA s p).take q).map (ndI s)).length:Int)+1)*8<=_;omega,by rw[XZ];omega,dC,λx e=>by rw[Xu.1 e];rfl⟩ ?_⟩;refine wa ?_
  exact⟨q+1,by show q+1<=(atA s p).length;omega,zdy [(0,some 0),(2,some 4)] ⟨rfl,aR (zCA a d),tV⟩,oN⟩
 exact z6 (by rw[Xi oM];rfl)
def zCB:ltS pgH:=by decide +kernel
def zyy:qy pgH:=by decide +kernel
def zHu:zaI pgH ⟨5,5⟩=[5,7]/\zaI pgH ⟨256,5⟩=[]/\zaI pgH ⟨9,0⟩=[5,7]/\zqe pgH zp=[3,5]/\zqe pgH ⟨999,0⟩=[]/\onS pgH zp 1=true/\¬onS pgH zp 3=true:=by decide +kernel
def zEP:atQ pgH ⟨9,0⟩=[5,7]/\(cdT pgH ⟨0,0,4,4⟩).map (ndI pgH)=[5,7]/\(cdT pgH ⟨1,0,4,4⟩).map (ndI pgH)=[]:=by decide +kernel
def vo:CX 8 [] (bl true):=by
 refine zc func8 ?_;have ht:=zj9 zCB;obtain⟨j,l,m⟩:=zEP;obtain⟨a,b,c,d,e,f,g⟩:=zHu;refine wg zEB<|wg (zmA pgH zCB zyy dC)<|⟨λk=>absurd rfl k,λ_=>?_⟩;refine wg (zFx pgH ⟨9,0⟩ ht dC)<|⟨Int,zM,[5,7],rfl,wb0 ?_⟩;refine wg (zi1 (atQ pgH ⟨9,0⟩) [5,7])<|⟨λk=>absurd j k,λ_=>?_⟩;refine wg (zi5 pgH ⟨0,0,4,4⟩ dC)<|⟨Int,zM,[5,7],rfl,wb0 ?_⟩;refine wg (zi1 ((cdT pgH ⟨0,0,4,4⟩).map (ndI pgH)) [5,7]) ?_
 refine⟨λk=>absurd l k,λ_=>?_⟩;refine wg (zi5 pgH ⟨1,0,4,4⟩ dC) λh=>?_;refine⟨λk=>absurd (show(((cdT pgH ⟨1,0,4,4⟩).map (ndI pgH)).length:Int)=0 by rw[m];rfl) k,λ_=>?_⟩;refine wg (zFr pgH ⟨5,5⟩ ht)<|wg (zFr pgH ⟨256,5⟩ ht)<|⟨λ_=>?_,λk=>absurd (show(zaI pgH ⟨5,5⟩).headD 0=5 by rw[a];rfl) k⟩;refine⟨λ_=>?_,λk=>absurd (show 0<(zaI pgH ⟨5,5⟩).length by rw[a];decide) k⟩
 refine⟨λ_=>?_,λk=>absurd (show¬0<(zaI pgH ⟨256,5⟩).length by rw[b];decide) k⟩;refine wg (g_on pgH zp 1 ht)<|⟨λ_=>?_,λk=>absurd f k⟩;refine wg (g_on pgH zp 3 ht)<|⟨λ_=>?_,λk=>absurd g k⟩;refine wg (l_got pgH ⟨9,0⟩ ht)<|⟨Int,zM,[5,7],rfl,wb0 ?_⟩;refine wg (zi1 (zaI pgH ⟨9,0⟩) [5,7])<|⟨λ_=>?_,λk=>absurd c k⟩;refine wg (zFs pgH zp ht)<|⟨Int,zM,[3,5],rfl,wb0 ?_⟩;refine wg (zi1 (zqe pgH zp) [3,5]) ?_
 refine⟨λ_=>?_,λk=>absurd d k⟩;exact wg (zFs pgH ⟨999,0⟩ ht) λi=>zzb (show((zqe pgH ⟨999,0⟩).length:Int)=0 by rw[e];rfl)
def l_hitIndexAt(s:Sc)(p:Pt):CX 5 [wq s,wk p] (bl true):=by
 refine zc func5<|wg (zsG s)<|⟨λ_=>zb.to _ vo rfl .refl,λh=>?_⟩;have b:ltS s:=Xa.1 h;have ht:=zj9 b
 by_cases a:qy s
 .have c:s.ns.length<=8:=by have:=yw a;have:=b.1;omega
  refine wg (zmA s b a c)<|wg (zaG s ht.tame)<|⟨λk=>absurd a k,λ_=>?_⟩;refine wc<|Br.mk (λ_=>?_) (λk=>absurd rfl k);refine wg (zFx s p ht c)<|wg (zyx s p ht)<|wg (zi1 (atQ s p) (zaI s p))<|⟨λ_=>?_,λk=>absurd (zyw a) k⟩;exact zb.to _ vo rfl .refl
 refine wg (zuC s ht a)<|wg (zaG s ht.tame)<|⟨λ_=>?_,λk=>absurd (Xa.1 k) a⟩;exact⟨λ_=>zb.to _ vo rfl .refl,λk=>absurd rfl k⟩
end Go.Gs
namespace Go.Gs
open Go.Proofs Go.RowKit
def laidOut:laidOutB Tryz.prog=true:=by kernel_rfl
def wfi{n:Int}(h:(Lit.int .i64 n).wf=true):R64 n:=r64 h
def wf32{n:Int}(h:(Lit.int .u32 n).wf=true):0<=n/\n<=4294967295:=by
 simp only[Lit.wf,XE,decide_eq_true_eq]at h;exact h
def shI:Sh:=.int .i64
def shB:Sh:=.int .u8
def zoG:Sh:=.st (.cons .bool (.cons (.sl (.int .u32)) .nil))
def zfR:Sh:=.st (.cons zoG (.cons zoG .nil))
def zyz:Sh:=.st (.cons zfR (.cons zfR (.cons zfR (.cons zfR (.cons zfR (.cons zfR .nil))))))
def zs7(n:Int):Dig:=dof n.toNat
def toBI(y:zoG.T):BI:=⟨y.1,List.map zs7 y.2.1⟩
def zuD(y:zfR.T):BR:=⟨toBI y.1,toBI y.2.1⟩
def toAF(y:zyz.T):AF:=⟨zuD y.1,zuD y.2.1,zuD y.2.2.1,zuD y.2.2.2.1,zuD y.2.2.2.2.1,zuD y.2.2.2.2.2.1⟩
def zFy(y:zoG.T)(h:zoG.wf y):qZ (zoG.enc y) (biE (toBI y)):=by
 refine .C (.cons ?_ .nil);refine LEd.sl zs7 λn a=>?_
 have b:=wf32 (h.2.1 n a)
 have e:((zs7 n).val:Int)=n:=by
  unfold zs7;rw[kz];omega
 show qZ [.val (.int .u32 n)] [.val (.int .u32 ((zs7 n).val:Int))];rw[e];exact .refl
def zoH(y:zfR.T)(h:zfR.wf y):qZ (zfR.enc y) (brE (zuD y)):=qZ.append (zFy y.1 h.1) (qZ.append (zFy y.2.1 h.2.1) .nil)
def zFz(y:zyz.T)(h:zyz.wf y):qZ (zyz.enc y) (afE (toAF y)):=
 qZ.append (zoH _ h.1) (qZ.append (zoH _ h.2.1) (qZ.append (zoH _ h.2.2.1) (qZ.append (zoH _ h.2.2.2.1) (qZ.append (zoH _ h.2.2.2.2.1) (by
  have:=qZ.append (zoH _ h.2.2.2.2.2.1) .nil
  rwa [XC,XC]at this)))))
section
variable{Vb:Type}{enc:TypeId×Value->Vb}{W:World}{b0:Nat}{held:Bool}
end
end Go.Gs
namespace Go.Gs
open Go.Proofs Go.RowKit
def zuE:Sh:=.st (.cons shI (.cons shI .nil))
def zyA(y:zuE.T):Pt:=⟨y.1,y.2.1⟩
def shSg:Sh:=.st (.cons shI (.cons zuE (.cons zuE (.cons zuE .nil))))
def zyB(y:shSg.T):Sg:=⟨y.1,zyA y.2.1,zyA y.2.2.1,zyA y.2.2.2.1⟩
def toI(y:shI.T):Int:=y
def zwD:Sh:=.st (.cons shI (.cons shI (.cons shI (.cons shI (.cons (.sl shI) (.cons shI .nil))))))
def zCC(y:zwD.T):Pen:=⟨y.1,y.2.1,y.2.2.1,y.2.2.2.1,List.map toI y.2.2.2.2.1,y.2.2.2.2.2.1⟩
def zHv(y:zwD.T):qZ (zwD.enc y) (jg (zCC y)):=.C (.C (.C (.C (.cons (LEd.sl toI λ_ _=>qZ.refl) (.C .nil)))))
section
variable{Vb:Type}{enc:TypeId×Value->Vb}{W:World}{b0:Nat}{held:Bool}
end
end Go.Gs
namespace Go.Gs
open Proofs.Tryz
open Go.Proofs Go.RowKit
def zCD:Sh:=.st (.cons shB (.cons shB (.cons shB (.cons shB .nil))))
def zyC(y:zCD.T):Pix:=⟨y.1,y.2.1,y.2.2.1,y.2.2.2.1⟩
def shSt:Sh:=.st (.cons shI (.cons zCD .nil))
def toSt(y:shSt.T):ziP:=⟨y.1,zyC y.2.1⟩
def zCE:Sh:=.st (.cons shI (.cons shI (.cons (.sl zCD) .nil)))
def zCF(y:zCE.T):Img:=⟨y.1,y.2.1,List.map zyC y.2.2.1⟩
def im_le(y:zCE.T):qZ (zCE.enc y) (zlY (zCF y)):=.C (.C (.cons (LEd.sl zyC λ_ _=>qZ.refl) .nil))
def zyD:Sh:=.st (.cons shI (.cons zCD (.cons zuE (.cons zuE (.cons shI (.cons (.sl shSt) (.cons shI (.cons zCE (.cons shI (.cons zyz .nil))))))))))
def zs8(y:zyD.T):Pnt:=⟨y.1,zyC y.2.1,zyA y.2.2.1,zyA y.2.2.2.1,y.2.2.2.2.1,List.map toSt y.2.2.2.2.2.1,y.2.2.2.2.2.2.1,zCF y.2.2.2.2.2.2.2.1,y.2.2.2.2.2.2.2.2.1,toAF y.2.2.2.2.2.2.2.2.2.1⟩
def zFA(y:zyD.T)(h:zyD.wf y):qZ (zyD.enc y) (yG (zs8 y)):=
 .C (.C (.C (.C (.C (.C (.C (.C (.C (.C (.cons (LEd.sl toSt λ_ _=>qZ.refl) (.cons .refl
  (.C (.C (.cons (LEd.sl zyC λ_ _=>qZ.refl) (.C (by
  have:=qZ.append (zFz _ h.2.2.2.2.2.2.2.2.2.1) .nil
  rwa [XC,XC]at this))))))))))))))))
def qZ.app2{us bs a b xs ys:LR}(h:qZ us bs)(k:qZ a b)(c:xs=us++a)(d:ys=bs++b):qZ xs ys:=by rw[c,d];exact qZ.append h k
def shN3:Sh:=.cons (.sl zyD) (.cons zCE (.cons shI .nil))
def n3_le(y:shN3.T)(h:shN3.wf y):qZ (shN3.enc y) (.sl yG (List.map zs8 y.1)::(zlY (zCF y.2.1)++[i64 y.2.2.1])):=
 .cons (LEd.sl zs8 λx a=>zFA x (h.1 x a)) (qZ.app2 (im_le y.2.1) (qZ.refl (us:=[i64 y.2.2.1])) rfl rfl)
def zCG:Sh:=.cons (.sl shSg) (.cons shI (.cons shB (.cons shI (.cons .bool (.cons .bool (.cons (.sl shSg) (.cons shI (.cons (.sl zyD) (.cons zwD shN3)))))))))
def n2_le(y:zCG.T)(h:zCG.wf y):qZ (zCG.enc y) (.sl sgE (List.map zyB y.1)::i64 y.2.1::u8 y.2.2.1::i64 y.2.2.2.1::.pr (@Eq Bool y.2.2.2.2.1 true) (instDecidableEqBool y.2.2.2.2.1 true)::.pr (@Eq Bool y.2.2.2.2.2.1 true) (instDecidableEqBool y.2.2.2.2.2.1 true)::.sl sgE (List.map zyB y.2.2.2.2.2.2.1)::i64 y.2.2.2.2.2.2.2.1::
  .sl yG (List.map zs8 y.2.2.2.2.2.2.2.2.1)::(jg (zCC y.2.2.2.2.2.2.2.2.2.1)++(.sl yG (List.map zs8 y.2.2.2.2.2.2.2.2.2.2.1)::(zlY (zCF y.2.2.2.2.2.2.2.2.2.2.2.1)++[i64 y.2.2.2.2.2.2.2.2.2.2.2.2.1])))):=
 .cons (LEd.sl zyB λ_ _=>qZ.refl) (.C (.C (.C (.C (.C (.cons (LEd.sl zyB λ_ _=>qZ.refl) (.C (.cons (LEd.sl zs8 λx a=>zFA x (h.2.2.2.2.2.2.2.2.1 x a))
  (qZ.app2 (zHv y.2.2.2.2.2.2.2.2.2.1) (n3_le y.2.2.2.2.2.2.2.2.2.2 h.2.2.2.2.2.2.2.2.2.2) rfl rfl)))))))))
def zCH:Sh:=.st (.cons shI (.cons shI (.cons shI (.cons zyz zCG))))
def toNd2(i k d:Int)(t:AF)(y:zCG.T):Nd:=⟨i,k,d,t,List.map zyB y.1,y.2.1,y.2.2.1,y.2.2.2.1,y.2.2.2.2.1,y.2.2.2.2.2.1,List.map zyB y.2.2.2.2.2.2.1,y.2.2.2.2.2.2.2.1,List.map zs8 y.2.2.2.2.2.2.2.2.1,zCC y.2.2.2.2.2.2.2.2.2.1,
 List.map zs8 y.2.2.2.2.2.2.2.2.2.2.1,zCF y.2.2.2.2.2.2.2.2.2.2.2.1,y.2.2.2.2.2.2.2.2.2.2.2.2.1⟩
def toNd(y:zCH.T):Nd:=toNd2 y.1 y.2.1 y.2.2.1 (toAF y.2.2.2.1) y.2.2.2.2
def nd_le(y:zCH.T)(h:zCH.wf y):qZ (zCH.enc y) (ndE (toNd y)):=
 .C (.C (.C (qZ.app2 (zFz y.2.2.2.1 h.2.2.2.1) (n2_le y.2.2.2.2 h.2.2.2.2) rfl rfl)))
def zCI:Sh:=.st (.cons shI (.cons shI (.cons zCD (.cons (.sl zCH) .nil))))
def toSc(y:zCI.T):Sc:=⟨y.1,y.2.1,zyC y.2.2.1,List.map toNd y.2.2.2.1⟩
def sc_le(y:zCI.T)(h:zCI.wf y):qZ (zCI.enc y) (scE (toSc y)):=
 .C (.C (.C (.C (.C (.C (.cons (LEd.sl toNd λx a=>nd_le x (h.2.2.2.1 x a)) .nil))))))
section
variable{Vb:Type}{enc:TypeId×Value->Vb}{W:World}{b0:Nat}{held:Bool}
def open_scene{v:Value}{d:DataW Vb}{p:List MemPlace}(a:Value.okWide prog W .any b0 26 v)(h:DataW.Trod enc prog W 0 (λ_=>true) held 26 v d p):
  ∃s:Sc,True/\∀(S Pm:LI) (O:zh),(∀b,¬S b)->G S Pm O W (wq s) v:=by
 obtain⟨y,c,g⟩:=ziL zCI (by kernel_rfl) (by kernel_rfl) a h;exact⟨toSc y,tV,g _ (sc_le y c)⟩
def open_point{v:Value}{d:DataW Vb}{p:List MemPlace}(c:Value.okWide prog W .any b0 28 v)(h:DataW.Trod enc prog W 0 (λ_=>true) held 28 v d p):
  ∃q:Pt,(R64 q.x/\R64 q.y)/\∀(S Pm:LI) (O:zh),(∀b,¬S b)->G S Pm O W (wk q) v:=by
 obtain⟨y,a,g⟩:=ziL zuE (by kernel_rfl) (by kernel_rfl) c h;exact⟨zyA y,⟨wfi a.1,wfi a.2.1⟩,g _ qZ.refl⟩
end
def laidL:List (String×DataW Unit):=[("errors.errorType",YtakicgnbhdpknaaGreatDoor.Rows.laid_errors_errorType)]
def zEQ:prog.globalNamed "errors.errorType" =some 0:=by kernel_rfl
def zER:(prog.cutTypes.find? (·.1== "internal/reflectlite.rtype")).map (·.2)=some 288:=by kernel_rfl
def zCJ:((List.range 452).filter λt=>prog.rowNamed t [101,114,114,111,114])=[152]:=by kernel_rfl
def zyE:prog.types.size=452:=by kernel_rfl
def zHw:typeHandle prog 152=.pointer (some ⟨3,152,none⟩):=by kernel_rfl
def handle_of_laid{W:World}(h:laidMetH prog laidL W):∀g v,GL g v->W.cell? ⟨g,0,none⟩=some v:=by
 have k:laidMet prog [] W/\handlesMet prog laidL W:=h;obtain⟨name,u,ty,c,d,e,f,a⟩:=k.2 _ (Xu.2 rfl);have j:name=[101,114,114,111,114]:=(Xl c).symm;subst j;obtain rfl:=Xl (zER.symm.trans d);have b:ty∈(List.range 452).filter λt=>prog.rowNamed t [101,114,114,111,114]:=QE.2 ⟨XU.2 (by rw[←zyE];exact e),f⟩
 rw[zCJ]at b;obtain rfl:=Xu.1 b;rw[zHw]at a;have i:W.cell? ⟨0,0,none⟩=some (.iface 288 (.agg #[.pointer (some ⟨3,152,none⟩)])):=by simpa using World.var?_cell zEQ a 0
 intro g v l
 cases l with
 |head=>exact i
 |tail _ h=>cases h
noncomputable def laidWorld (os:Os):World:=
 let a:=World.holding prog os ⟨#[],#[],[]⟩
 { a with heap:=a.heap.modify 0 fun
   |.cells _ t frozen=>.cells #[.iface 288 (.agg #[.pointer (some ⟨3,152,none⟩)])] t frozen
   |o=>o }
def laidWorld_met(os:Os)(args:Array Value):laidMetH prog laidL ((laidWorld os).forCall (λ_ _=>0) ⟨#[],args,[]⟩).memory:=
 laidMetH_of_parts (laidMet_nil _ _) (by kernel_rfl)
end Go.Gs
