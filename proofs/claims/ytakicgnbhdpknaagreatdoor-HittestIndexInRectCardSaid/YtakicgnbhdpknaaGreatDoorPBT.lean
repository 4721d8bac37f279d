/- Copies of nodes and scenes, the other text's. -/
import Derived.Test.YtakicgnbhdpknaaGreatDoorPBR
set_option maxRecDepth 100000
set_option maxHeartbeats 8000000
set_option linter.all false
namespace Go.Gs
open Proofs.Tryz
open Go.Proofs
def zhW{f:Pt->Pt->Pt}(q:LU)(p:Pt):bnd f (q++[p])=f (if q=[] then p else bnd f q) p:=by
 by_cases h:q=[]
 .rw[Xe h,h,zxd]
 rw[Xc h,zzY h]
def ptb{T:TypeId}{p q:Pt}(h:p=q):some (Mem.box T (ptE p))=some (Mem.box T (ptE q)):=by rw[h]
def zHx(rs:LQ):CX 104 [.sl zk rs] (pbE rs):=by
 refine zc func104 ?_
 refine⟨Nat,λi=>⟨[(8,i64 i),(7,pr ((rs.take i).flatten≠[])),(6,.loc 3 0),(5,.loc 2 0),(3,.loc 1 0),(2,.loc 0 0),(0,.sl zk rs)],
  [(3,.box 28 (ptE (bnd mxP (rs.take i).flatten))),(2,.box 28 (ptE (bnd mnP (rs.take i).flatten))),(1,.box 28 (ptE zp)),(0,.box 28 (ptE zp))],4,66,0⟩,
  λi=>i<=rs.length/\(i=0∨kB rs),λi=>rs.length-i,0,⟨Xh _,.inl rfl⟩,?_,?_⟩
 .refine(qQ (t:=7) rfl (zd (q:=(rs.take 0).flatten≠[]) (λk=>k rfl))).trans (zf [0,1,2,3])
 rintro i ⟨hi,c⟩
 have hi:i<=rs.length:=hi;have c:i=0∨kB rs:=c
 have fin:(¬i<rs.length∨¬kB rs)->LE (SV.tup [wk (bnd mnP (rs.take i).flatten),wk (bnd mxP (rs.take i).flatten),pr ((rs.take i).flatten≠[])]) (pbE rs):=λh=>by
  by_cases sg:zcK rs
  .have h:¬i<rs.length:=h.elim id λk=>absurd sg.2 k
   have e:rs.take i=rs:=Xi oM;unfold pbE loR hiR;rw[e,Xe sg,Xe sg];exact zaP (.C (.C (.cons (zB ⟨λ_=>sg,λ_=>sg.1⟩) .nil)))
  have e:(rs.take i).flatten=[]:=by
   rcases c with c|c
   .rw[c];rfl
   have h:¬i<rs.length:=h.elim id λk=>absurd c k
   rw[Xi oM];exact Decidable.byContradiction λk=>sg ⟨k,c⟩
  unfold pbE loR hiR;rw[Xc sg,Xc sg,e];exact zaP (.C (.C (.cons (zB ⟨λk=>absurd rfl k,λk=>absurd k sg⟩) .nil)))
 intro s;have last:∀h:(¬i<rs.length∨¬kB rs),LE (SV.tup [wk (bnd mnP (rs.take i).flatten),wk (bnd mxP (rs.take i).flatten),pr ((rs.take i).flatten≠[])]) (pbE rs):=fin;refine⟨λg=>?_,λg=>?_⟩;rotate_left
 .have g:¬(i:Int)<(rs.length:Int):=g;exact wd<|wh<|last (.inl oM)
 have g:(i:Int)<(rs.length:Int):=g;refine wg (zhb rs)<|⟨λb=>?_,λb=>?_⟩;rotate_left
 .exact wd<|wh<|last (.inr b)
 have b:kB rs:=b;obtain⟨x,o⟩:∃x,rs[i]?=some x:=⟨_,Xb oM⟩;have get:∀y,rs[(i:Int).toNat]?=some y->y=x:=λy m=>Xl ((show rs[i]?=some y from m).symm.trans o)
 have ft:=zoj o;clear last fin;obtain⟨a,l⟩:∃q,q=(rs.take i).flatten:=⟨_,rfl⟩;rw[←l]at ft
 refine⟨Nat,λj=>⟨[(9,i64 j),(8,i64 i),(7,pr (a++x.take j≠[])),(6,.loc 3 0),(5,.loc 2 0),(3,.loc 1 0),(2,.loc 0 0),(0,.sl zk rs)],
  [(3,.box 28 (ptE (bnd mxP (a++x.take j)))),(2,.box 28 (ptE (bnd mnP (a++x.take j)))),(1,.box 28 (ptE zp)),(0,.box 28 (ptE zp))],4,66,0⟩,
  λj=>j<=x.length,λj=>x.length-j,0,Xh _,?_,?_⟩
 .have e:a++x.take 0=(rs.take i).flatten:=by rw[J4,XC,l]
  refine(qQ (t:=7) rfl (zB (q:=a++x.take 0≠[]) (by rw[e]))).trans (zt [0,1,2,3] ⟨ptb (by rw[e]),ptb (by rw[e]),rfl,rfl,tV⟩)
 intro j n;have n:j<=x.length:=n;refine wb λy m=>?_;rw[get y m];intro _;refine⟨λf:(j:Int)<(x.length:Int)=>?_,λf:¬(j:Int)<(x.length:Int)=>?_⟩
 .refine wb λy m=>?_;rw[get y m];refine wb λp(u:x[j]?=some p)=>?_;have d:a++x.take (j+1)=(a++x.take j)++[p]:=by rw[Xm,u,XM];rfl
  have ne:(a++x.take j)++[p]≠[]:=by simp
  refine⟨λk:¬(a++x.take j≠[])=>?_,λk:¬¬(a++x.take j≠[])=>?_⟩
  .have k:a++x.take j=[]:=Xa.1 k;refine wd<|wh<|wa<|⟨j+1,by show j+1<=x.length;omega,(qQ (t:=7) rfl (zH (q:=a++x.take (j+1)≠[]) (by rw[d];exact ne))).trans (zt [0,1,2,3] ⟨ptb (p:=mxP p p) ?_,ptb (p:=mnP p p) ?_,rfl,rfl,tV⟩),oN⟩
   .rw[d,zhW,Xe k]
   rw[d,zhW,Xe k]
  have k:a++x.take j≠[]:=Xa.1 k;refine wa<|⟨j+1,by show j+1<=x.length;omega,(qQ (t:=7) rfl (zB (q:=a++x.take (j+1)≠[]) ⟨λ_=>by rw[d];exact ne,λ_=>k⟩)).trans (zt [0,1,2,3] ⟨ptb (p:=mxP (bnd mxP (a++x.take j)) p) ?_,ptb (p:=mnP (bnd mnP (a++x.take j)) p) ?_,rfl,rfl,tV⟩),oN⟩
  .rw[d,zhW,Xc k]
  rw[d,zhW,Xc k]
 have r:x.take j=x:=Xi oM;have e:a++x.take j=(rs.take (i+1)).flatten:=by rw[r,ft]
 refine wa ?_;refine⟨i+1,⟨by show i+1<=rs.length;omega,.inr b⟩,(qQ (t:=7) rfl (zB (q:=(rs.take (i+1)).flatten≠[]) (by rw[e]))).trans (zt [0,1,2,3] ⟨ptb (by rw[e]),ptb (by rw[e]),rfl,rfl,tV⟩),oN⟩
def zqh(n:Int)(h: -1048576<=n/\n<=1048576):CX 105 [i64 n] (i64 (n/256)):=by
 refine zc func105 ?_;obtain⟨q,b⟩:∃q,q=n.tdiv 256:=⟨_,rfl⟩;have a:n.tdiv 256=n/256∨n.tdiv 256-1=n/256:=by rcases tdm (m:=n) (n:=256) dC with h|h <;> omega
 refine Dv.any dC ?_;rw[←b]at a ⊢;(iterate 2 refine wa ?_);refine⟨λg:n<q*256=>?_,λg:¬n<q*256=>?_⟩
 .exact wa<|ze oM
 exact ze oM
def zyF{rs:LQ}(h:zcK rs):Rc.canon ⟨(loR rs).x/256,(loR rs).y/256,-(-(hiR rs).x/256),-(-(hiR rs).y/256)⟩=zbQ rs:=by
 have b:=zeF h;unfold zm at b
 have e:(⟨(loR rs).x/256,(loR rs).y/256,-(-(hiR rs).x/256),-(-(hiR rs).y/256)⟩:Rc)=zaW rs:=by
  unfold zaW upI;rw[show(2:Int)^8=256 from by decide,show-(-(hiR rs).x/256)=((hiR rs).x+256-1)/256 by omega,show-(-(hiR rs).y/256)=((hiR rs).y+256-1)/256 by omega]
 have a:zbQ rs=if (zaW rs).x1<=(zaW rs).x0∨(zaW rs).y1<=(zaW rs).y0 then qp else zaW rs:=kI h
 rw[e,a]
 by_cases c:(zaW rs).x1<=(zaW rs).x0∨(zaW rs).y1<=(zaW rs).y0
 .rw[Xe c,Rc.canon_pos (.inr c)]
 rw[Xc c];refine Rc.canon_neg λk=>k.elim (λk=>k ?_) c
 rw[←e];unfold Rc.ok za8;dsimp only;omega
def zuF(rs:LQ):CX 71 [.sl zk rs] (wr (zbQ rs)):=by
 refine zc func71<|wg (zHx rs)<|⟨λh=>uN (p:=qp) (Xe h).symm,λh=>?_⟩;have h:=Xa.1 h;have a:=zeF h;unfold zm at a;refine wd<|wg (zqh _ oM)<|wg (zqh _ oM)<|wa<|wg (zqh _ oM) ?_;(iterate 2 refine wa ?_);exact wg (zqh _ oM)<|wa<|wg (zpV ⟨(loR rs).x/256,(loR rs).y/256,-(-(hiR rs).x/256),-(-(hiR rs).y/256)⟩)<|wh<|uN (zyF h)
def zwE(a b:Rc):CX 70 [wr a,wr b] (wr (zbR a b)):=by
 refine zc func70<|wg (zfm a)<|⟨λh=>?_,λh=>?_⟩
 .exact wg (zpV b)<|uN (Xe h).symm
 refine wg (zfm b)<|⟨λk=>?_,λk=>?_⟩
 .exact uN (by unfold zbR;rw[Xc h,Xe k])
 exact uN (p:=⟨min a.x0 b.x0,min a.y0 b.y0,max a.x1 b.x1,max a.y1 b.y1⟩) (by unfold zbR;rw[Xc h,Xc k])
def zyG(a b:Rc):zbR (zbR qp a) b=zbR a b:=by
 rw[show zbR qp a=a.canon from Xe uo]
 by_cases h:a.mt
 .rw[Rc.canon_pos h];unfold zbR;rw[Xe uo,Xe h]
 rw[Rc.canon_neg h]
def zHy(s:Sc)(i:Int)(ht:jd s):CX 40 [wq s,i64 i] (wr (zan s i)):=by
 refine zc func40<|wd<|wg (zwm s i ht)<|wg (zuF (vn s i))<|wg (zwn s i ht)<|wg (zuF (vO s i)) ?_;refine wg (zwE _ _)<|wh<|wd<|wg (zB8 s i ht)<|wg (zuF (zdl s i))<|wg (zwE (zbR (zbQ (vn s i)) (zbQ (vO s i))) (zbQ (zdl s i))) ?_;exact wh<|uN (show _=zbR (zbR (zbR qp (zbQ (vn s i))) (zbQ (vO s i))) (zbQ (zdl s i)) by rw[zyG])
def zwF(s:Sc)(r:Rc):∀n,(inL s r n).length<=n
 |0=>Xj _
 |n+1=>by
  have:=zwF s r n;unfold inL;split <;> (try rw[Xn]) <;> omega
def zCK(s:Sc)(r:Rc)(ht:jd s)(u:s.ns.length<=8):CX 21 [wq s,wr r] (.sl zM ((inL s r s.ns.length).map (ndI s))):=by
 refine zc func21 ?_;have v:=zwF s r s.ns.length;intro l;refine wa ?_
 refine⟨Nat×LV,λ⟨j,q⟩=>⟨[(6,i64 ((j:Int)-1)),(5,.own 2),(3,.loc 1 0),(2,.loc 0 0)],[(0,.box 26 (scE s)),(1,.box 47 (rcE r)),(2,.arr 3 zM 1 (q.map (ndI s)))],3,41,0⟩,
  λ⟨j,q⟩=>j<=s.ns.length/\q++inL s r j=inL s r s.ns.length,λ⟨j,_⟩=>j,(s.ns.length,[]),⟨Xj _,rfl⟩,zC [(0,some 0),(1,some 1),(2,none)],?_⟩
 rintro⟨j,q⟩ ⟨i,a⟩
 have i:j<=s.ns.length:=i;have a:q++inL s r j=inL s r s.ns.length:=a
 have o:(q.map (ndI s)).length<=8:=by
  have:=Xg List.length a;rw[Xq]at this;rw[Xw];omega
 refine⟨λg:0<=(j:Int)-1=>?_,λg=>?_⟩
 .obtain⟨k,rfl⟩:∃k,j=k+1:=⟨j-1,oM⟩;have ek:((k+1:Nat):Int)-1=(k:Int):=oM;have b:some (i64 (((k+1:Nat):Int)-1-1))=some (i64 ((k:Int)-1)):=by rw[ek]
  rw[show inL s r (k+1)=if ndK s k≠1/\¬((zan s k).meet r).mt then(k:Int)::inL s r k else inL s r k from rfl]at a;have sk:¬(ndK s k≠1/\¬((zan s k).meet r).mt)->q++inL s r k=inL s r s.ns.length:=λh=>by rw[Xc h]at a;exact a
  refine wc<|wb λn e=>?_;have e:s.ns[k]?=some n:=by rw[←e,ek];rfl
  have f:=zmu e;refine⟨λc=>?_,λc=>?_⟩
  .have c:ndK s k≠1:=by rw[f];exact c
   refine wg (zHy s (((k+1:Nat):Int)-1) ht)<|wg (zGQ (zan s (((k+1:Nat):Int)-1)) r)<|wg (zfm ((zan s (((k+1:Nat):Int)-1)).meet r))<|⟨λd=>?_,λd=>?_⟩
   .have d:¬((zan s k).meet r).mt:=by rw[ek]at d;exact d
    rw[Xe ⟨c,d⟩]at a;refine wb λm p=>?_;have em:ndI s k=m.id:=ziZ (by rw[←p,ek]);refine⟨Int,zM,[m.id],rfl,wb3 ?_⟩;refine⟨[m.id],rfl,Ob.mk ⟨by show(((q.map (ndI s)).length:Int)+1)*8<=_;omega,by rw[XZ];omega,dC,λx t=>by rw[Xu.1 t];rfl⟩ ?_⟩;exact wa<|⟨(k,q++[(k:Int)]),⟨oM,by rw[XM];exact a⟩,zP [0,1,4] ⟨b,rfl,rfl,rfl,tV⟩ ⟨rfl,rfl,aR (by rw[XA,←em];rfl),tV⟩,oN⟩
   have d:¬¬((zan s k).meet r).mt:=by rw[ek]at d;exact d
   exact wa<|⟨(k,q),⟨oM,sk λh=>d h.2⟩,zP [0,1,2] ⟨b,rfl,rfl,rfl,tV⟩ ⟨rfl,rfl,rfl,tV⟩,oN⟩
  have c:¬ndK s k≠1:=λh=>c (by rw[←f];exact h)
  exact wa<|⟨(k,q),⟨oM,sk λh=>c h.1⟩,zP [0,1,2] ⟨b,rfl,rfl,rfl,tV⟩ ⟨rfl,rfl,rfl,tV⟩,oN⟩
 obtain rfl:j=0:=by have g:¬0<=(j:Int)-1:=g;omega
 exact z6 (by rw[←a];show _=(q++[]).map _;rw[XC])
def l_hitInRect(s:Sc)(r:Rc):CX 6 [wq s,wr r] (bl true):=by
 refine zc func6<|wg (zsG s)<|⟨λ_=>zb.to _ vo rfl .refl,λh=>?_⟩;have b:ltS s:=Xa.1 h;have ht:=zj9 b;refine wg (zaG s ht.tame)<|⟨λ_=>zb.to _ vo rfl .refl,λh=>?_⟩;have c:qy s:=Xa.1 h;have a:s.ns.length<=8:=by have:=yw c;have:=b.1;omega
 refine wg (zmA s b c a)<|wc<|Br.mk (λ_=>?_) (λk=>absurd rfl k);refine wg (zi5 s r a)<|wg (zCK s r ht a)<|wg (zi1 ((cdT s r).map (ndI s)) ((inL s r s.ns.length).map (ndI s)))<|⟨λ_=>?_,λk=>absurd (by rw[zCy]) k⟩;exact zb.to _ vo rfl .refl
end Go.Gs
namespace Go.Gs
open Go.Proofs Go.RowKit
def shR1:Sh:=.st (.cons shI (.cons shI (.cons shI (.cons shI .nil))))
def toR1(y:shR1.T):Rc:=⟨y.1,y.2.1,y.2.2.1,y.2.2.2.1⟩
section
variable{Vb:Type}{enc:TypeId×Value->Vb}{W:World}{b0:Nat}{held:Bool}
def open_rcH{v:Value}{d:DataW Vb}{p:List MemPlace}(a:Value.okWide Tryz.prog W .any b0 47 v)(h:DataW.Trod enc Tryz.prog W 0 (λ_=>true) held 47 v d p):
  ∃r:Rc,True/\∀(S Pm:LI) (O:zh),(∀b,¬S b)->G S Pm O W (wr r) v:=by
 obtain⟨y,_,g⟩:=ziL shR1 (by kernel_rfl) (by kernel_rfl) a h;exact⟨toR1 y,tV,g _ qZ.refl⟩
end
end Go.Gs
