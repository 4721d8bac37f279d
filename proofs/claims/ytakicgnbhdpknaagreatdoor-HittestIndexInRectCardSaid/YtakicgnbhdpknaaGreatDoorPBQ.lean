/- The index of any scene: NewIndex. -/
import Derived.Test.YtakicgnbhdpknaaGreatDoorPBP
set_option maxRecDepth 100000
set_option maxHeartbeats 8000000
set_option linter.all false
namespace Go.Gs
open Proofs.Tryz
open Go.Proofs
def zmz:∀{n:Nat} {K:LI},K n->zqn n K
 |0,_,h=>h
 |n+1,K,h=>show zqn n _ from zmz (n:=n) (K:=λm=>K (m+1)) h
def zww{ks:LC}{Y nn:Nat}:∀{l:LT},(∀y∈l,y.1∈ks∨(Y<=y.1/\y.1<Y+nn))->ztb ks Y nn l=true
 |[],_=>rfl
 |(k,m)::r,h=>by
  show yB (zmF k ks||(Nat.ble Y k&&Nat.blt k (Y+nn))) (ztb ks Y nn r)=true;rw[zww λy e=>h y (XQ _ e)]
  rcases h _ (XY ..) with h|⟨c,d⟩
  .rw[zgJ h];rfl
  rw[YC c,zdp d,Bool.and_self,Bool.or_true];rfl
def zoD{k:Nat}:∀{l:LT},k∈l.map (·.1)->zfU k l=true
 |(q,m)::r,h=>by
  unfold zfU
  split
  .rfl
  rename_i e
  rcases XH.1 h with h|h
  .rw[h,K4]at e;cases e
  exact zoD h
def zs1{new:LT}{Y:Nat}:∀{n:Nat},(∀z,Y<=z->z<Y+n->z∈new.map (·.1))->zfV new Y n=true
 |0,_=>rfl
 |n+1,h=>by
  show yB (zfU (Y+n) new) (zfV new Y n)=true;rw[zoD (h (Y+n) oM oM),zs1 λz c d=>h z c oM];rfl
def zHl{Y nn:Nat}{ks:LC}{new:LT}{K:Prop}(h:∀y∈new,y.1∈ks∨(Y<=y.1/\y.1<Y+nn))(c:∀z,Y<=z->z<Y+nn->z∈new.map (·.1))(k:K):mdD Y (.give ks new nn) K:=by
 show zR (yB (ztb ks Y nn new) (zfV new Y nn)) K;rw[zww h,zs1 c];exact k
def ixM(s:Sc)(t:Qt)(F:Nat->Nat):LT:=(0,.box 82 (scE s++[.own 1,.loc 2 0]))::(1,.arr 47 rcE 4 (bxN s s.ns.length))::mdQ t F
def zEF{s:Sc}{t:Qt}{d:Mem}(h:t.w<500):∀y∈mdQ t (λx=>2+x),lmU none 601 (zaZ ((600,d)::ixM s t λx=>2+x) 601) y.1=some y.2:=λy c=>by
 obtain⟨x,g,e⟩:=zbM c;have e:y.1=2+x:=e;have f:Nat.blt y.1 601=true:=zdp oM;unfold lmU zdx zaZ;rw[f];show zW ((600,d)::ixM s t λx=>2+x) y.1=some y.2;unfold ixM;rw[kN,Xc oM,kN,Xc oM,kN,Xc oM];exact zck (zhM λx y _ _ e=>by have e:2+x=2+y:=e;omega) c
def zFv{s:Sc}{t:Qt}:(ixM s t λx=>2+x).Pairwise λa b=>a.1≠b.1:=by
 have k:∀y∈mdQ t (λx=>2+x),2<=y.1:=λy c=>by
  obtain⟨x,d,e⟩:=zbM c;have e:y.1=2+x:=e;omega
 unfold ixM;refine X4.2 ⟨λy c=>?_,X4.2 ⟨λy c=>?_,zhM λx y _ _ e=>by have e:2+x=2+y:=e;omega⟩⟩
 .rcases XH.1 c with rfl|c
  .show(0:Nat)≠1;omega
  have:=k y c;show 0≠y.1;omega
 have:=k y c;show 1≠y.1;omega
def zwx{s:Sc}{d:Qt}{F:Nat->Nat}{A:LT}(h:F 0=2)(inj:Inj d F)(hF:∀x,x<=d.w->2<=F x)(k:(0,Mem.box 82 (scE s++[.own 1,.loc 2 0]))∈A)(m:(1,Mem.arr 47 rcE 4 (bxN s s.ns.length))∈A)(n:∀y∈mdQ d F,y∈A):zjA (0::1::lab d F) (d.w+3) A (ixM s d λx=>2+x):=by
 have c:∀x,x<=d.w->rn (0::1::lab d F) 0 (2+x)=F x:=λx g=>vz (by rw[Q2];exact zdq g)
 refine⟨λx y g f e=>?_,zFv,λy f=>?_⟩
 .rcases x with _|_|x <;> rcases y with _|_|y
  .rfl
  .cases e
  .rw[show y+1+1=2+y by omega,c y oM]at e;have e:0=F y:=e;have:=hF y oM;omega
  .cases e
  .rfl
  .rw[show y+1+1=2+y by omega,c y oM]at e;have e:1=F y:=e;have:=hF y oM;omega
  .rw[show x+1+1=2+x by omega,c x oM]at e;have e:F x=0:=e;have:=hF x oM;omega
  .rw[show x+1+1=2+x by omega,c x oM]at e;have e:F x=1:=e;have:=hF x oM;omega
  rw[show x+1+1=2+x by omega,show y+1+1=2+y by omega,c x oM,c y oM]at e;have:=inj x y oM oM e;omega
 rcases XH.1 f with rfl|f
 .refine⟨by show 0<_;omega,rfl,?_⟩;show(0,Mem.box 82 (scE s++[.own 1,.loc (rn (0::1::lab d F) 0 (2+0)) 0]))∈_;rw[c 0 (Xh _),h];exact k
 rcases XH.1 f with rfl|f
 .exact⟨by show 1<_;omega,tV,m⟩
 refine⟨?_,(zeI d (λx g=>by show 2+x<_;omega) y f).1,n _ ?_⟩
 .obtain⟨x,g,e⟩:=zbM f;have e:y.1=2+x:=e;omega
 have:=zcj (ks:=0::1::lab d F) (Y:=0) f;rw[zp4,uQ d c]at this;exact this
def zEG{s:Sc}{t d:Qt}{F:Nat->Nat}{g:Mem}(o:t.w<500)(m:F 0=2)(inj:Inj d F)(hF:∀x,x<=d.w->2<=F x):
  zjA (0::1::lab d F) (d.w+3) (mdQ d F++yc ((600,g)::ixM s t λx=>2+x) (lab t λx=>2+x)) (ixM s d λx=>2+x):=by
 have out:∀k,k<2->k∉lab t λx=>2+x:=λk n h=>by
  obtain⟨x,_,e⟩:=XN.1 h;have e:2+x=k:=e;omega
 have f:((600,g)::ixM s t λx=>2+x).Pairwise λa b=>a.1≠b.1:=X4.2 ⟨λy c=>by
  show 600≠y.1
  rcases XH.1 c with rfl|c
  .show(600:Nat)≠0;omega
  rcases XH.1 c with rfl|c
  .show(600:Nat)≠1;omega
  obtain⟨x,q,e⟩:=zbM c;have e:y.1=2+x:=e
  omega,zFv⟩
 exact zwx m inj hF (KS _ (zp7 f (XQ _ (XY ..)) (out 0 oM))) (KS _ (zp7 f (XQ _ (XQ _ (XY ..))) (out 1 oM))) λy c=>KZ _ c
def zmA(s:Sc)(W:ltS s)(B:qy s)(h8:s.ns.length<=8):CX 17 [wq s] (.tup [.dptr (ixT s),i64 0]):=by
 have ht:=zj9 W;have h64:=yw B;have hn:∀n∈s.ns,ltN n:=λn I=>W.2 n (by rw[Xi oM];exact I)
 refine zuz tok mix func17 rfl rfl rfl<|wg (zhH s ht.tame)<|⟨λk=>absurd B k,λ_=>?_⟩;refine wd<|wg (zB4 s oM hn) λhl0=>?_;refine⟨Rc,rcE,qp,rfl,Ob.mk ⟨dC,oM,K9 _,(by show(s.ns.length:Int)*(32:Int)<=_;omega),oM⟩ ?_⟩;refine wh λhl1=>?_
 refine⟨Nat,λi=>⟨[(28,i64 i),(27,i64 s.ns.length),(26,.sl ndE s.ns),(4,.loc 3 0)],[(3,.box 82 (scE s++([.own 1,.loc 2 0]:LR))),(2,.box 80 (quE (arN s i) nS)),(1,.arr 47 rcE 4 (bxN s i))],4,92,0⟩,
  λi=>i<=s.ns.length,λi=>s.ns.length-i,0,Xh _,zdy [(1,some 1),(2,some 2),(3,some 3)] ⟨rfl,rfl,aR zCo.symm,tV⟩,?_⟩
 rintro i hi
 have hi:i<=s.ns.length:=hi;refine⟨λg:(i:Int)<s.ns.length=>?_,λg=>?_⟩
 .have gi:i<s.ns.length:=oM;refine wb λn C=>?_;have T:=zmu (show s.ns[i]?=some n from C);have X:0<=(i:Int)/\(i:Int)<(bxN s i).length:=by rw[zdu];omega
  refine⟨λc=>?_,λc=>?_⟩
  .have c:ndK s i≠1:=by rw[T];exact c
   have eb:=zEC gi c;have Z:0<=(i:Int)/\(i:Int)<(bxN s (i+1)).length:=by rw[zdu];omega
   have ebx:(bxN s (i+1))[i]?=some (zan s i):=by
    rw[zmw gi,Xe oM];unfold bxK;rw[Xe c]
   refine wd<|wg (zG8 s i ht)<|Ob.mk X<|Ob.mk X λz K=>?_;refine⟨zan s i,rfl,?_⟩;rw[show(bxN s i).set (i:Int).toNat (zan s i)=bxN s (i+1) from eb];refine wh<|wd<|Ob.mk Z<|Ob.mk Z λz K=>?_;rw[show z=zan s i from Xl ((show(bxN s (i+1))[i]?=some z from K).symm.trans ebx)];refine wg (zwa (arN s i) (zan s i))<|wh<|wa ?_;have L:arN s (i+1)=zbR (arN s i) (zan s i):=Xe c
   exact⟨i+1,by show i+1<=_;omega,zdy [(1,some 1),(2,some 2),(3,some 3)] ⟨rfl,Xg (λq=>some (Mem.box 80 (quE q nS))) L.symm,rfl,tV⟩,oN⟩
  have c:¬ndK s i≠1:=λk=>c (by rw[←T];exact k)
  refine wa ?_;have L:arN s (i+1)=arN s i:=Xc c;exact⟨i+1,by show i+1<=_;omega,zdy [(1,some 1),(2,some 2),(3,some 3)] ⟨rfl,Xg (λq=>some (Mem.box 80 (quE q nS))) L.symm,aR (zCf c).symm,tV⟩,oN⟩
 obtain rfl:i=s.ns.length:=by have g:¬(i:Int)<s.ns.length:=g;omega
 have hbl:=zdu s s.ns.length;intro hl2
 refine⟨Nat,λi=>⟨[(75,i64 i),(74,i64 ((bxN s s.ns.length).length:Int)),(73,.own 1),(4,.loc 0 0)],ixM s (qq s i) λx=>2+x,600,92,0⟩,
  λi=>i<=(bxN s s.ns.length).length,λi=>(bxN s s.ns.length).length-i,0,Xh _,zC [(0,some 3),(1,some 1),(2,some 2),(3,none)],?_⟩
 rintro i hi
 have hi:i<=(bxN s s.ns.length).length:=hi;have tw:=zuA s i;have tn:=zmy s i;refine⟨λg:(i:Int)<(bxN s s.ns.length).length=>?_,λg=>?_⟩
 .obtain⟨b,G⟩:∃b,(bxN s s.ns.length)[i]?=some b:=⟨_,Xb oM⟩;have eg:(bxN s s.ns.length).getD i qp=b:=by rw[Xr,G];rfl
  refine wb<|wb λz K=>?_;rw[show z=b from Xl ((show(bxN s s.ns.length)[i]?=some z from K).symm.trans G)];refine wg (zdi b)<|⟨λc=>?_,λc=>?_⟩
  .obtain⟨F,N,F0,Finj,Fb,Fc,V⟩:=zHk i b 6 (qq s i) oM oM oM
   have M:qq s (i+1)=(qq s i).ins i b 6:=by
    show(if _ then _ else _)=_;rw[eg];exact Xc c
   rw[←M]at Finj Fb Fc V
   have ha:∀Y,LEs [.loc 2 0,i64 i,wr b,i64 0] (vS.rens (lab (qq s i) λx=>2+x) Y [.loc 0 0,i64 i,wr b,i64 (6-((6:Nat):Int))]):=λY=>by
    show LEs _ [.loc (rn _ Y 0) 0,i64 i,wr b,i64 0];rw[vz (zdq (Xh _))];exact .refl
   refine wd<|zop (t:=qq s i) (g:=λx=>2+x) (λx y _ _ e=>by have e:2+x=2+y:=e;omega) (zEF (s:=s) (t:=qq s i) oM) Fb V (ha _) rfl ?_;have lo:∀x,F x<=(qq s i).w->rn (lab (qq s i) λx=>2+x) 601 (F x)=2+F x:=λx h=>vz (zdq h)
   have f:∀x,¬F x<=(qq s i).w->rn (lab (qq s i) λx=>2+x) 601 (F x)=601+(F x-((qq s i).w+1)):=λx h=>by rw[zcV (by rw[zau];omega),zau]
   refine zHl (λy E=>?_) (λz J U=>?_) ?_
   .obtain⟨x,C,e⟩:=zbM E;have e:y.1=rn (lab (qq s i) λx=>2+x) 601 (F x):=e;have:=Fb x C
    by_cases c:F x<=(qq s i).w
    .refine .inl (XN.2 ⟨F x,XU.2 oM,?_⟩);rw[e,lo x c]
    rw[f x c]at e;exact .inr oM
   .obtain⟨x,C,e⟩:=Fc ((qq s i).w+1+(z-601)) oM oM;rw[zhL];refine XN.2 ⟨x,XU.2 oM,?_⟩;rw[f x oM,e];omega
   refine wh<|zmz<|wa<|zmz ?_;have tw':=zuA s (i+1);have z0:F 0<=(qq s i).w:=oM;refine⟨i+1,by show i+1<=_;omega,zCp rfl oM (zEG oM (by rw[lo 0 z0,F0]) (λx y C E e=>?_) λx C=>?_) λR v h=>?_,oN⟩
   .have e:rn (lab (qq s i) λx=>2+x) 601 (F x)=rn (lab (qq s i) λx=>2+x) 601 (F y):=e;refine Finj x y C E ?_
    by_cases c:F x<=(qq s i).w <;> by_cases d:F y<=(qq s i).w
    .rw[lo x c,lo y d]at e;omega
    .rw[lo x c,f y d]at e;omega
    .rw[f x c,lo y d]at e;omega
    rw[f x c,f y d]at e;omega
   .show 2<=rn (lab (qq s i) λx=>2+x) 601 (F x)
    by_cases c:F x<=(qq s i).w
    .rw[lo x c];omega
    rw[f x c];omega
   have h:kF [(75,i64 ((i+1:Nat):Int)),(74,i64 ((bxN s s.ns.length).length:Int)),(73,.own 1),(4,.loc 0 0)] R=some v:=h;rw[zU,zU,zU,zU]at h
   split at h
   .rename_i q;rw[←q,←Xl h];exact⟨rfl,rfl⟩
   split at h
   .rename_i q;rw[←q,←Xl h];exact⟨rfl,rfl⟩
   split at h
   .rename_i q;rw[←q,←Xl h];exact⟨rfl,rfl⟩
   split at h
   .rename_i q;rw[←q,←Xl h];exact⟨rfl,rfl⟩
   cases h
  refine wa ?_
  have M:qq s (i+1)=qq s i:=by
   show(if _ then _ else _)=_;rw[eg];exact Xe (Xa.1 c)
  refine⟨i+1,by show i+1<=_;omega,?_,oN⟩;show Sub _ ⟨[(75,i64 ((i+1:Nat):Int)),(74,i64 ((bxN s s.ns.length).length:Int)),(73,.own 1),(4,.loc 0 0)],ixM s (qq s (i+1)) λx=>2+x,600,92,0⟩;rw[M]
  refine zCp rfl oM (zwx (F:=λx=>2+x) rfl (λx y _ _ e=>by have e:2+x=2+y:=e;omega) (λx _=>by show 2<=2+x;omega) (XQ _ (XY ..)) (XQ _ (XQ _ (XY ..)))
   λy E=>XQ _ (XQ _ (XQ _ E))) λR v h=>?_
  have h:kF [(75,i64 ((i+1:Nat):Int)),(74,i64 ((bxN s s.ns.length).length:Int)),(73,.own 1),(4,.loc 0 0)] R=some v:=h;rw[zU,zU,zU,zU]at h
  split at h
  .rename_i q;rw[←q,←Xl h];exact⟨rfl,rfl⟩
  split at h
  .rename_i q;rw[←q,←Xl h];exact⟨rfl,rfl⟩
  split at h
  .rename_i q;rw[←q,←Xl h];exact⟨rfl,rfl⟩
  split at h
  .rename_i q;rw[←q,←Xl h];exact⟨rfl,rfl⟩
  cases h
 obtain rfl:i=s.ns.length:=by have g:¬(i:Int)<(bxN s s.ns.length).length:=g;omega
 intro Keep O w v I H;obtain⟨us,rfl,A⟩:=H.tup_inv;refine .tup _ us A.1 λj s' v Q B=>?_
 rcases j with _|_|j
 .cases Q
  obtain⟨b',J,rfl⟩:=(A.2 0 _ v rfl B).loc_inv;refine .d _ _ (D.less (S:=Keep) (λb h=>h.resolve_right zN) (zCn I (XY ..) J rfl λj s0 s' u m o H=>?_))
  rcases j with _|_|_|_|_|_|_|_|_|j
  all_goals first
   |(cases m;cases o;rw[H.val_inv];exact .val _)
   |(cases m;cases o;exact H.sl_inv.less λb h=>.inl h)
   |skip
  .cases m;cases o
   have J:=XQ (0,Mem.box 82 (scE s++[.own 1,.loc 2 0])) (XY (a:=(1,Mem.arr 47 rcE 4 (bxN s s.ns.length))) (l:=mdQ (qq s s.ns.length) λx=>2+x));exact zgC I J (λb G=>.inl G) (λv b B G P=>(I.old b ⟨1,_,v,J,B,G⟩).2 P) H.own_inv.1
  .cases m;cases o
   obtain⟨b2,U,rfl⟩:=H.loc_inv;exact zHj I _ (λx=>2+x) (λy E=>XQ _ (XQ _ E)) b2 U
  cases m
 .cases Q
  rw[(A.2 1 _ v rfl B).val_inv];exact .d _ _ (.val _)
 cases Q
def cl_Io(q:LV)(d:q.length<=1000):CG0 93 [.sl zM q] [] (.own 0) [(0,.arr 3 zM 1 q)]:=by
 refine qA tok mix func93 rfl rfl rfl ?_
 by_cases c:q=[]
 rotate_left;refine zdE.some (λh=>c (Xp h)) ?_;rotate_left;refine zdE.any (Br.mk ⟨none,.nil rfl,c⟩ ?_)
 all_goals
  refine⟨Int,zM,[],rfl,wb2 ?_⟩;exact⟨q,rfl,Ob.mk ⟨(by show _*(8:Int)<=_;simp only[Xs];omega),(by simp only[Xs];omega),dC,λ_ _=>rfl⟩ ⟨some 1,.own _ rfl,rfl,λ_ _=>rfl⟩⟩
def vQ(z:Rc):∀t:Qt,(t.find z).length<=t.all.length
 |.leaf a c=>by unfold Qt.find Qt.all;split <;> simp
 |.node a c p q r s=>by
  have d:=vQ z p;have e:=vQ z q;have f:=vQ z r;have g:=vQ z s;unfold Qt.find Qt.all
  split
  .exact Xh _
  simp only[Xq];omega
def kidD(p q r s:Qt)(j:Nat):LR:=[.dptr (match j with
 |0=>qtE p
 |1=>qtE q
 |2=>qtE r
 |_=>qtE s)]
def accQ(z:Rc)(c:LV)(p q r s:Qt):Nat->LV
 |0=>c
 |1=>c++p.find z
 |2=>c++p.find z++q.find z
 |3=>c++p.find z++q.find z++r.find z
 |_=>c++p.find z++q.find z++r.find z++s.find z
def zEH(z:Rc):∀t:Qt,t.all.length<=1000->CX 64 [.dptr (qtE t),wr z] (.sl zM (t.find z)):=by
 intro t
 induction t with
 |leaf a c=>
  intro d;have d:c.length<=1000:=d;refine zc func64<|wc<|wg (zpW a z)<|wg (zdi (a.meet z))<|⟨λh=>by rw[show(Qt.leaf a c).find z=[] from Xe h];exact zD,λh=>?_⟩;refine wg (cl_I c d)<|⟨Unit,λ_=>⟨[(25,i64 0),(24,i64 0),(5,.sl zM c)],[],1,36,0⟩,λ_=>True,λ_=>0,(),tV,?_,?_⟩
  .exact zC []
  rintro _ _
  refine⟨λk=>absurd k dC,λ_=>?_⟩;exact z6 (Xc h).symm
 |node a c p q r s e f m n=>
  intro d;have d:(c++p.all++q.all++r.all++s.all).length<=1000:=d;simp only[Xq]at d;have y:=vQ z p;have A:=vQ z q;have B:=vQ z r;have C:=vQ z s;refine zc func64<|wc<|wg (zpW a z)<|wg (zdi (a.meet z))<|⟨λh=>by rw[show(Qt.node a c p q r s).find z=[] from Xe h];exact zD,λh=>?_⟩;refine zb.fresh _ _ (cl_Io c oM) rfl (λ_ _=>rfl) (.inl rfl) λv=>?_
  refine⟨Nat,λj=>⟨[(25,i64 j),(24,i64 4),(23,.sl (kidD p q r s) (List.range 4)),(5,.own 1),(3,.loc 0 0)],[(0,.box 47 (rcE z)),(1,.arr 3 zM 1 (accQ z c p q r s j))],2,36,0⟩,λj=>j<=4,λj=>4-j,0,Xh _,zf [0,1],?_⟩
  rintro j o
  have o:j<=4:=o;refine⟨λg:(j:Int)<4=>?_,λg=>?_⟩
  .have e:=e oM;have f:=f oM;have m:=m oM;have n:=n oM
   have hacc:(accQ z c p q r s j).length<=1000:=by
    obtain rfl|rfl|rfl|rfl:j=0∨j=1∨j=2∨j=3:=oM
    all_goals simp only[accQ,Xq];omega
   obtain⟨k,u⟩:∃k,j+1=k:=⟨_,rfl⟩;obtain rfl|rfl|rfl|rfl:j=0∨j=1∨j=2∨j=3:=oM
   all_goals
    refine wb1 λx w=>?_
    cases w
    first|refine wg e ?_|refine wg f ?_|refine wg m ?_|refine wg n ?_
    refine⟨_,rfl,Ob.mk ⟨by show(_:Int)*(8:Int)<=_;omega,oM,dC,λ_ _=>rfl⟩ ?_⟩;refine Ar.fit dC<|⟨k,oM,?_,oN⟩;subst u;exact zf [0,2]
  obtain rfl:j=4:=by have g:¬(j:Int)<4:=g;omega
  exact z6 (Xc h).symm
def zEI(x y:Int):CX 146 [i64 x,i64 y] (pr (x<y)):=by
 have nan:∀z:Int,CX 217 [i64 z] (pr (¬z=z)):=λz=>by
  exact zc func217<|.refl
 exact zc func146<|wg (nan x)<|⟨λk=>absurd rfl k,λ_=>.refl⟩
def zHm(n:Nat)(h:n<=12):CX 102 [u64 n] (i64 (kC n)):=by
 have l64:CX 150 [u64 n] (i64 (kC n)):=by
  refine zc func150<|Br.mk (λk=>by have k:(4294967296:Int)<=n:=k;omega) (λ_=>?_);refine⟨λk=>by have k:(65536:Int)<=n:=k;omega,λ_=>?_⟩;refine⟨λk=>by have k:(256:Int)<=n:=k;omega,λ_=>?_⟩;refine wa<|wb10 λb c=>?_;have d:b.toNat=kC n:=zk4 c (by show n<256;omega) (λh=>len8tab_get n h);have:=bitLen_le8 n oM;have:kC n<=8:=this;(iterate 2 refine wa ?_);exact ze oM
 exact zc func102<|zb.to _ l64 rfl .refl
def yb(l:LV):zgv (.arr 3 zM 1 l):=λ_ _=>rfl
def revT(q l:LV)(i:Nat):Prop:=l.length=q.length/\∀k,k<q.length->l[k]?=if k<i∨q.length<=k+i then q[q.length-1-k]? else q[k]?
def zHn(q:LV)(t:q.length<=1000):CG0 67 [.own 0] [(0,.arr 3 zM 1 q)] (.tup []) [(0,.arr 3 zM 1 q.reverse)]:=by
 refine ut tok mix func67 rfl rfl rfl (yb _) rfl λs=>wa<|⟨Nat×LV,λ⟨i,l⟩=>⟨[(3,i64 ((q.length:Int)-1-i)),(2,i64 i),(0,.own 0)],[(0,.arr 3 zM 1 l)],1,28,1⟩,λz=>2*z.1<=q.length/\revT q z.2 z.1,λz=>q.length-z.1,(0,q),⟨Xh _,rfl,λk c=>?_⟩,?_,?_⟩
 .dsimp only at c ⊢;rw[Xc oM]
 .exact zP [0] ⟨iR oM,rfl,rfl,tV⟩ ⟨rfl,tV⟩
 rintro⟨i,l⟩ ⟨n,e,f⟩
 have n:2*i<=q.length:=n;have e:l.length=q.length:=e;refine⟨λg:(i:Int)<(q.length:Int)-1-i=>?_,λg:¬(i:Int)<(q.length:Int)-1-i=>?_⟩
 .have ej:((q.length:Int)-1-i).toNat=q.length-1-i:=oM;refine wc<|wb<|wb λx d=>?_;have d:l[q.length-1-i]?=some x:=by rw[←d,ej]
  refine wb<|wb λy(o:l[i]?=some y)=>?_;refine wb<|wb λx' _=>?_;refine⟨x,rfl,?_⟩;refine Ob.mk (by rw[XS];omega)<|Ob.mk (by rw[XS];omega) λu _=>?_;refine⟨y,rfl,?_⟩;(iterate 2 refine wa ?_)
  refine⟨(i+1,(l.set i x).set (q.length-1-i) y),⟨oN,by dsimp only;rw[XS,XS];exact e,λk c=>?_⟩,
   zP [0] ⟨iR oM,rfl,rfl,tV⟩ ⟨aR (by rw[ej];rfl),tV⟩,oN⟩
  dsimp only;rw[f _ oM,Xc oM]at d o;rw[KE,KE,XS]
  by_cases c1:q.length-1-i=k
  .rw[Xe c1,Xe oM,Xe oM,←o];congr 1;omega
  rw[Xc c1]
  by_cases h:i=k
  .rw[Xe h,Xe oM,Xe oM,←d];congr 1;omega
  rw[Xc h,f k c]
  by_cases m:k<i∨q.length<=k+i
  .rw[Xe m,Xe oM]
  rw[Xc m,Xc oM]
 refine⟨aR (Kw λk=>?_),.refl⟩
 by_cases c:k<q.length
 .rw[f k c,QV c]
  split
  .rfl
  congr 1;omega
 rw[XG oM,XG (by rw[K8];omega)]
def bxA(s:Sc):List Rc:=bxN s s.ns.length
def enA(s:Sc):LV:=enN (bxA s) s.ns.length
def zhU(s:Sc)(r:Rc)(i:Int):Prop:=¬(((bxA s).getD i.toNat qp).meet r).mt
instance (s:Sc) (r:Rc) (i:Int):Decidable (zhU s r i):=inferInstanceAs (Decidable (¬_))
def zbS(s:Sc)(r:Rc)(l:LV):LV:=l.filter λi=>decide (zhU s r i)
variable{i:Int}
def zFw{b:List Rc}{n:Nat}(h:i∈enN b n):0<=i/\i<n:=by
 unfold enN at h;obtain⟨k,c,rfl⟩:=XN.1 h;have:=XU.1 (QE.1 c).1;omega
def en_up(b:List Rc)(n:Nat):(enN b n).Pairwise (·<=·):=by
 unfold enN;rw[QW];exact((List.pairwise_lt_range).sublist List.filter_sublist).imp λh=>oM
variable{r:Rc}{l:LV}{j:Nat}
def zEJ{s:Sc}(hi:l[j]?=some i)(h:zhU s r i):zbS s r (l.take (j+1))=zbS s r (l.take j)++[i]:=by
 unfold zbS;rw[Xm,hi,Kk,QC,KA,Xe (decide_eq_true h)];rfl
def zHo{s:Sc}(hi:l[j]?=some i)(h:¬zhU s r i):zbS s r (l.take (j+1))=zbS s r (l.take j):=by
 unfold zbS;rw[Xm,hi,Kk,QC,KA,Xc (by simpa using h)];exact XC _
def zs2(p:Pt):Prop:=p.x < -1048576∨1048576<=p.x∨p.y < -1048576∨1048576<=p.y
instance (p:Pt):Decidable (zs2 p):=wj
def vR(p:Pt):Rc:=⟨p.x/2^8,p.y/2^8,p.x/2^8+1,p.y/2^8+1⟩
def onN(s:Sc)(p:Pt)(l:LV):LV:=(l.filter λi=>onS s p i).map (ndI s)
variable{p:Pt}
def zHp{s:Sc}(hi:l[j]?=some i)(h:onS s p i=true):onN s p (l.take (j+1))=onN s p (l.take j)++[ndI s i]:=by
 unfold onN;rw[Xm,hi,Kk,QC,KA,Xe h,XA];rfl
def on_no{s:Sc}(hi:l[j]?=some i)(h:¬onS s p i=true):onN s p (l.take (j+1))=onN s p (l.take j):=by
 unfold onN;rw[Xm,hi,Kk,QC,KA,Xc h];exact Xg _ (XC _)
def zyp{a b:Rc}(c:¬a.mt)(d:¬b.mt)(h:b.x0<=a.x0/\b.y0<=a.y0/\a.x1<=b.x1/\a.y1<=b.y1):a.within b:=by
 unfold Rc.within Rc.meet;rw[Xc (λk=>k.elim c d),Rc.canon_neg c,show max a.x0 b.x0=a.x0 by omega,show max a.y0 b.y0=a.y0 by omega,show min a.x1 b.x1=a.x1 by omega,show min a.y1 b.y1=a.y1 by omega];exact Rc.canon_neg c
def holds(b a:Rc):Prop:=¬b.mt/\b.x0<=a.x0/\b.y0<=a.y0/\a.x1<=b.x1/\a.y1<=b.y1
def zfp{a b:Rc}(c:¬b.mt):holds (zbR a b) b:=by
 unfold zbR holds
 by_cases d:a.mt
 .rw[Xe d,Rc.canon_neg c];exact⟨c,oM⟩
 rw[Xc d,Xc c];have e:=Rc.notmt d;have f:=Rc.notmt c;refine⟨?_,oN⟩;unfold Rc.mt Rc.ok za8 at*;dsimp only;omega
def zhV{a b c:Rc}(h:holds a c):holds (zbR a b) c:=by
 obtain⟨d,h⟩:=h;unfold zbR holds;rw[Xc d]
 by_cases e:b.mt
 .rw[Xe e];exact⟨d,h⟩
 rw[Xc e];have f:=Rc.notmt d;have g:=Rc.notmt e;refine⟨?_,oN⟩;unfold Rc.mt Rc.ok za8 at*;dsimp only;omega
def zs3{s:Sc}{k:Nat}(d:¬(bxK s k).mt):∀n,k<n->holds (arN s n) (bxK s k)
 |n+1,h=>by
  have g:ndK s k≠1:=λe=>d (by unfold bxK;rw[Xc λh=>h e];exact uo)
  have f:bxK s k=zan s k:=Xe g
  rcases Jf.1 h with c|c
  .have m:=zs3 d n c;unfold arN
   split
   .exact zhV m
   exact m
  subst c;unfold arN;rw[Xe g,f];rw[f]at d;exact zfp d
def zeM(z:Rc):∀(t:Qt) (i:Int),i∈t.find z->i∈t.all
 |.leaf a c,i,h=>by
  unfold Qt.find at h
  split at h
  .cases h
  exact h
 |.node a c p q r s,i,h=>by
  unfold Qt.find at h
  split at h
  .cases h
  simp only[Xt]at h;unfold Qt.all;simp only[Xt]
  rcases h with(((h|h)|h)|h)|h
  .exact .inl (.inl (.inl (.inl h)))
  .exact .inl (.inl (.inl (.inr (zeM z p i h))))
  .exact .inl (.inl (.inr (zeM z q i h)))
  .exact .inl (.inr (zeM z r i h))
  exact .inr (zeM z s i h)
def zi4(s:Sc):∀k,(qq s k).area=arN s s.ns.length
 |0=>rfl
 |k+1=>by
  unfold qq
  split
  .exact zi4 s k
  rw[zBZ];exact zi4 s k
def zmB(s:Sc):∀k,(qq s k).all.Perm (enN (bxA s) k)
 |0=>.refl _
 |k+1=>by
  have c:=zmB s k;unfold qq
  split
  .rename_i h;rw[zCg (show((bxA s).getD k qp).mt from h)];exact c
  rename_i h;rw[zmx (show¬((bxA s).getD k qp).mt from h)];exact(zdo _ _ _ _).trans ((c.cons _).trans (JB (l₁:=[(k:Int)])))
def zoE(s:Sc):∀k,k<=s.ns.length->(qq s k).good λi=>(bxA s).getD i.toNat qp
 |0,_=>λi hi=>by cases hi
 |k+1,f=>by
  have e:=zoE s k oM;unfold qq
  split
  .exact e
  rename_i h;have c:(bxN s s.ns.length).getD k qp=bxK s k:=by rw[Xr,zmw oM,Xe oM];rfl
  rw[c]at h;have d:=zs3 h s.ns.length oM;refine zeH (B:=λi=>(bxA s).getD i.toNat qp) (i:=(k:Int)) 6 e ?_;show((bxN s s.ns.length).getD k qp).within _;rw[zi4,c];exact zyp h d.1 d.2
def zuB(s:Sc)(r:Rc):LV:=zbS s r (enA s)
def zyq(s:Sc)(r:Rc):(zbS s r ((qq s s.ns.length).find r)).Perm (zuB s r):=by
 have h:=zyj (z:=r) (zoE s s.ns.length (Xj _));have e:zbS s r ((qq s s.ns.length).find r)=(qq s s.ns.length).all.filter λi=>decide (zhU s r i):=h
 rw[e];exact(zmB s s.ns.length).filter _
def zEK(s:Sc)(r:Rc):(zuB s r).Pairwise (·<=·):=(en_up _ _).sublist List.filter_sublist
variable{a:Pt}{b:Pt}
def zCq(c:zm a)(d:zm b)(e:zm p):orP a b p=(b.x-p.x)*(p.y-a.y)+(b.y-p.y)*(a.x-p.x):=by
 unfold orP zac wdg;rw[zab c,zab d,zab e];unfold zo;dsimp only;simp only[Int.sub_mul,YH,QO];omega
def zwy(c:zm a)(d:zm b)(e:zm p)(f:p.x<a.x)(g:p.x<b.x)(h:a.y<=p.y)(k:p.y<b.y):0<orP a b p:=by
 rw[zCq c d e];have m:0<=(b.x-p.x)*(p.y-a.y):=XI oM oM;have n:0<(b.y-p.y)*(a.x-p.x):=QZ oM oM;omega
def zs4(c:zm a)(d:zm b)(e:zm p)(h:a.x<=p.x)(k:b.x<=p.x)(m:a.y<=p.y)(n:p.y<b.y):¬0<orP a b p:=by
 rw[zCq c d e];have o:0<=(p.x-b.x)*(p.y-a.y):=XI oM oM;have q:0<=(b.y-p.y)*(p.x-a.x):=XI oM oM;have f:(b.x-p.x)*(p.y-a.y)= -((p.x-b.x)*(p.y-a.y)):=by rw[←Int.neg_mul];congr 1;omega
 have g:(b.y-p.y)*(a.x-p.x)= -((b.y-p.y)*(p.x-a.x)):=by rw[←QN];congr 1;omega
 omega
def atY(p v:Pt):Int:=if v.y<=p.y then 1 else 0
def zyr(g:zm a)(h:zm b)(k:zm p)(e:p.x<a.x)(f:p.x<b.x):uR a b p=atY p a-atY p b:=by
 unfold uR atY
 by_cases c:a.y<=p.y <;> by_cases d:b.y<=p.y
 .rw[Xc oM,Xc oM,Xe c,Xe d];omega
 .rw[Xe ⟨c,oM,zwy g h k e f c oM⟩,Xe c,Xc d];omega
 .rw[Xc oM,Xe ⟨d,oM,zwy h g k f e d oM⟩,Xc c,Xe d];omega
 rw[Xc oM,Xc oM,Xc c,Xc d];omega
def zys(f:zm a)(g:zm b)(k:zm p)(h:(a.x<=p.x/\b.x<=p.x)∨(p.y<a.y/\p.y<b.y)∨(a.y<=p.y/\b.y<=p.y)):uR a b p=0:=by
 unfold uR;rw[Xc,Xc]
 .rintro⟨c,d,e⟩
  rcases h with h|h|h
  .exact zs4 g f k h.2 h.1 c d e
  .omega
  omega
 rintro⟨c,d,e⟩
 rcases h with h|h|h
 .exact zs4 f g k h.1 h.2 c d e
 .omega
 omega
def zyt{r:LU}(c:∀v∈r,zm v)(k:zm p)(h:(∀v∈r,p.x<v.x)∨(∀v∈r,v.x<=p.x)∨(∀v∈r,p.y<v.y)∨∀v∈r,v.y<=p.y):uS r p r.length=0:=by
 have at_:∀i,i<r.length->r.getD i zp∈r:=λi hi=>by
  rw[Xr,Xb hi];exact X2 hi
 have g:∀i,i<r.length->(i+1)%r.length<r.length:=λi hi=>Kn _ oM
 rcases h with h|h
 .have key:∀n,n<=r.length->uS r p n=atY p (r.getD 0 zp)-atY p (r.getD (n%r.length) zp):=λn=>by
   induction n with
   |zero=>intro _;rw[Nat.zero_mod];unfold uS;simp
   |succ n f=>
    intro m;rw[zds,f oM,zyr (c _ (at_ n oM)) (c _ (at_ _ (g n oM))) k (h _ (at_ n oM)) (h _ (at_ _ (g n oM))),Xy (show n<r.length by omega)];omega
  rw[key r.length (Xj _),JX];omega
 have key:∀n,n<=r.length->uS r p n=0:=λn=>by
  induction n with
  |zero=>intro _;rfl
  |succ n f=>
   intro m;have d:=at_ n oM;have e:=at_ _ (g n oM)
   rw[zds,f oM,zys (c _ d) (c _ e) k (by
    rcases h with h|h|h
    .exact .inl ⟨h _ d,h _ e⟩
    .exact .inr (.inl ⟨h _ d,h _ e⟩)
    exact .inr (.inr ⟨h _ d,h _ e⟩))]
   rfl
 exact key r.length (Xj _)
def zmC{rs:LQ}{p:Pt}(h:∀r∈rs,uS r p r.length=0):∀n,n<=rs.length->zbN rs p n=0
 |0,_=>rfl
 |n+1,d=>by
  have c:rs[n]?=some rs[n]:=Xb oM;rw[zdt c,zmC h n oM,h _ (X2 _)];rfl
variable{rs:LQ}{rule:Int}
def zoF(h:yi rs rule p):zcK rs/\(loR rs).x<=p.x/\p.x<(hiR rs).x/\(loR rs).y<=p.y/\p.y<(hiR rs).y:=by
 have k:zhO rs p≠0:=λe=>by
  unfold yi zce at h;rw[e]at h
  obtain⟨_,h⟩|⟨_,h⟩:=h <;> exact h rfl
 unfold zhO at k
 split at k
 rotate_left
 .exact absurd rfl k
 rename_i g;have vok:∀r∈rs,∀v∈r,zm v:=g.1.2
 have zero:∀P:Pt->Prop,(∀r:LU,(∀v∈r,P v)->(∀v∈r,p.x<v.x)∨(∀v∈r,v.x<=p.x)∨(∀v∈r,p.y<v.y)∨∀v∈r,v.y<=p.y)->¬∀v∈rs.flatten,P v:=λP hP hall=>
  k (zmC (λr f=>zyt (vok r f) g.2 (hP r λv d=>hall v (JH.2 ⟨r,f,d⟩))) _ (Xj _))
 have m:zcK rs:=⟨λe=>zero (λ_=>False) (λr f=>.inl λv d=>(f v d).elim) (by rw[e];intro v d;cases d),g.1⟩;have el:loR rs=bnd mnP rs.flatten:=Xe m;have eh:hiR rs=bnd mxP rs.flatten:=Xe m;refine⟨m,?_,?_,?_,?_⟩
 .rw[el]
  rcases Qe p.x (bnd mnP rs.flatten).x with c|c
  .exact(zero (λv=>p.x<v.x) (λr f=>.inl f) λv d=>by have:=zpt d;omega).elim
  exact c
 .rw[eh]
  rcases Qe p.x (bnd mxP rs.flatten).x with c|c
  .exact c
  exact(zero (λv=>v.x<=p.x) (λr f=>.inr (.inl f)) λv d=>by have:=zpt d;omega).elim
 .rw[el]
  rcases Qe p.y (bnd mnP rs.flatten).y with c|c
  .exact(zero (λv=>p.y<v.y) (λr f=>.inr (.inr (.inl f))) λv d=>by have:=zpt d;omega).elim
  exact c
 rw[eh]
 rcases Qe p.y (bnd mxP rs.flatten).y with c|c
 .exact c
 exact(zero (λv=>v.y<=p.y) (λr f=>.inr (.inr (.inr f))) λv d=>by have:=zpt d;omega).elim
def zEL(h:yi rs rule p):¬(zbQ rs).mt/\(zbQ rs).x0<=p.x/2^8/\p.x/2^8<(zbQ rs).x1/\(zbQ rs).y0<=p.y/2^8/\p.y/2^8<(zbQ rs).y1:=by
 obtain⟨c,g,m,n,o⟩:=zoF h;have q:=zBY c;have f:=(zeF c).1;have d:(2:Int)^8=256:=dC
 have e:zbQ rs=zaW rs:=by
  unfold zbQ;rw[Xc (λk=>k c),Xc];unfold zaW upI;dsimp only;rw[d];omega
 rw[e];unfold zaW upI Rc.mt Rc.ok za8;dsimp only;rw[d];unfold zm at f;omega
def zCr{s:Sc}{l:LQ}(c:l∈vd s i)(d:¬(zbQ l).mt):holds (zan s i) (zbQ l):=by
 unfold vd at c;simp only[XH,XV,or_false]at c
 rcases c with rfl|rfl|rfl
 .exact zhV (zhV (zfp d))
 .exact zhV (zfp d)
 exact zfp d
def zEM{s:Sc}(h:onS s p i=true)(d:(zS s i).k=2∨(zS s i).k=3):∃l∈vd s i,∃rule,yi l rule p:=by
 have c:ux s i p:=Xa.1 λk=>zkb k h
 rcases d with k|k
 .rcases(zmr (f:=7) c k).1 h with h|h
  .exact⟨_,XY ..,_,h⟩
  exact⟨_,XQ _ (XY ..),_,h⟩
 exact⟨_,XQ _ (XQ _ (XY ..)),_,(zB9 (f:=7) c oM k).1 h⟩
def zCs{b:Rc}(c:¬b.mt)(h:b.x0<=p.x/2^8/\p.x/2^8<b.x1/\b.y0<=p.y/2^8/\p.y/2^8<b.y1):¬(b.meet (vR p)).mt:=by
 have f:=Rc.notmt c
 have e:¬(vR p).mt:=by
  unfold vR;unfold Rc.mt Rc.ok za8 at*;dsimp only;omega
 have g:=Rc.notmt e;unfold Rc.meet;rw[Xc (λk=>k.elim c e)]
 have d:¬Rc.mt ⟨max b.x0 (vR p).x0,max b.y0 (vR p).y0,min b.x1 (vR p).x1,min b.y1 (vR p).y1⟩:=by
  unfold vR at*;unfold Rc.mt Rc.ok za8 at*;dsimp only at*;omega
 rw[Rc.canon_neg d];exact d
def zCt{s:Sc}(h:onS s p i=true)(g:(zS s i).k=2∨(zS s i).k=3):¬zs2 p/\¬(zan s i).mt/\¬((zan s i).meet (vR p)).mt:=by
 obtain⟨l,d,rule,c⟩:=zEM h g;obtain⟨f,m⟩:=zEL c;obtain⟨e,n⟩:=zCr d f;obtain⟨c1,o,q,t,u⟩:=zoF c;have v:=zBY c1;have d:=(zeF c1).1;unfold zm at d;refine⟨λk=>?_,e,zCs e oM⟩;unfold zs2 at k;omega
def srtI(s:LV)(i:Nat):Prop:=∀x y,x<y->y<i->y<s.length->s.getD x 0<=s.getD y 0
def zCu(s:LV)(i j:Nat):Prop:=(∀x y,x<y->y<=i->y<s.length->x≠j->y≠j->s.getD x 0<=s.getD y 0)/\∀y,j<y->y<=i->y<s.length->s.getD j 0<=s.getD y 0
def zfq{s:LV}{x:Nat}{v:Int}(h:s[x]?=some v):s.getD x 0=v:=by rw[Xr,h];rfl
def zkd{s:LV}{u v:Int}(c:j<s.length)(d:1<=j)(k:Nat):((s.set j u).set (j-1) v).getD k 0=if k=j-1 then v else if k=j then u else s.getD k 0:=by
 simp only[Xr,KE,XS]
 split
 .rename_i a;rw[Xe oM,Xe a.symm];rfl
 rename_i a
 split
 .rename_i b
  first|rw[Xe c]|skip
  rw[Xc oM,Xe b.symm];rfl
 rw[Xc oM,Xc oM]
variable{x:Int}
def zCv{s:LV}{i:Nat}{y:Int}(e:j<s.length)(d:1<=j)(n:j<=i)(t:s[j-1]?=some x)(u:s[j]?=some y)(o:y<x)(h:zCu s i j):zCu ((s.set j x).set (j-1) y) i (j-1):=by
 have ex:=zfq t;have ey:=zfq u;have m:((s.set j x).set (j-1) y).length=s.length:=by rw[XS,XS]
 refine⟨λp q f g c v w=>?_,λq g k c=>?_⟩
 .rw[m]at c;rw[zkd e d,zkd e d,Xc v,Xc w]
  by_cases a:p=j
  .rw[Xe a,Xc oM,←ex];exact h.1 (j-1) q oM g c oM oM
  rw[Xc a]
  by_cases b:q=j
  .rw[Xe b,←ex];exact h.1 p (j-1) oM oM oM a oM
  rw[Xc b];exact h.1 p q f g c a b
 rw[m]at c;rw[zkd e d,zkd e d,Xe rfl,Xc oM]
 by_cases b:q=j
 .rw[Xe b];omega
 rw[Xc b,←ey];exact h.2 q oM k c
def zs5{s:LV}{i:Nat}(g:j<=i)(h:zCu s i j)(e:j=0∨s.getD (j-1) 0<=s.getD j 0):srtI s (i+1):=λp q f k d=>by
 by_cases a:p=j
 .rw[a];exact h.2 q oM oM d
 by_cases b:q=j
 .have e:=e.resolve_left oM;rw[b]
  by_cases c:p=j-1
  .rw[c];exact e
  exact Int.le_trans (h.1 p (j-1) oM oM oM a oM) e
 exact h.1 p q f oM d a b
def zyu{s:LV}{i:Nat}(h:srtI s i):zCu s i i:=⟨λx y c g d _ n=>h x y c oM d,λy e f=>by omega⟩
def zHq{s:LV}{i:Nat}(h:srtI s i)(hi:s.length<=i):s.Pairwise (·<=·):=by
 rw[J7];intro x y e d c;have:=h x y c oM d
 rwa [zfq (Xb e),zfq (Xb d)]at this
def zyv{s:LV}{y:Int}(e:s[j-1]?=some x)(f:s[j]?=some y):((s.set j x).set (j-1) y).Perm s:=by
 obtain⟨c,rfl⟩:=Xd.1 e;obtain⟨d,rfl⟩:=Xd.1 f;exact List.set_set_perm d c
def zHr(l t:LV)(E:l.Perm t)(F:t.Pairwise (·<=·))(J:l.length<=12):CG0 140 [.own 0,i64 0,i64 l.length] [(0,.arr 3 zM 1 l)] (.tup []) [(0,.arr 3 zM 1 t)]:=by
 refine ut tok mix func140 rfl rfl rfl (yb _) rfl<|wa<|⟨Nat×LV,λ⟨i,s⟩=>⟨[(6,i64 i),(2,i64 l.length),(1,i64 0),(0,.own 0)],[(0,.arr 3 zM 1 s)],1,49,1⟩,λz=>1<=z.1/\z.1<=l.length+1/\z.2.Perm l/\srtI z.2 z.1,λz=>l.length+1-z.1,(1,l),⟨Xj _,oN,.refl _,λx y _ _=>by omega⟩,?_,?_⟩
 .exact zf [0]
 rintro⟨i,s⟩ ⟨G,H,f,n⟩
 dsimp only at G H f n;have sl:=f.length_eq;refine⟨λg=>?_,λg=>?_⟩;rotate_left
 .have g:¬(i:Int)<l.length:=g;have e:s=t:=List.Perm.eq_of_pairwise (λa b _ _ C D=>JQ C D) (zHq n oM) F (f.trans E);rw[e];exact⟨rfl,.refl⟩
 have g:(i:Int)<l.length:=g;refine⟨Nat×LV,λ⟨j,s⟩=>⟨[(7,i64 j),(6,i64 i),(2,i64 l.length),(1,i64 0),(0,.own 0)],[(0,.arr 3 zM 1 s)],1,49,1⟩,λz=>z.1<=i/\z.2.Perm l/\zCu z.2 i z.1,λz=>z.1,(i,s),⟨Xj _,f,zyu n⟩,zf [0],?_⟩
 rintro⟨j,s⟩ ⟨o,h,q⟩
 dsimp only at o h q;clear f n sl;have sl:=h.length_eq;refine wc<|Br.mk (λd=>?_) (λd=>?_)
 .have d:(0:Int)<j:=d;refine wb<|wb λy(m:s[j]?=some y)=>?_;refine wa<|wb<|wb λx c=>?_;have c:s[j-1]?=some x:=by rw[←c];congr 1;omega
  refine wg (zEI y x)<|⟨λk=>?_,λk=>?_⟩
  .have k:y<x:=k;refine wd ?_;(iterate 2 refine wa ?_);refine wb<|wb λx' w=>?_
   obtain rfl:x'=x:=by
    have:s[j-1]?=some x':=by rw[←w];congr 1;omega
    exact Xl (this.symm.trans c)
   refine wb<|wb λv A=>?_;obtain rfl:v=y:=Xl ((show s[j]?=some v from A).symm.trans m);refine wb<|wb λu _=>?_;refine⟨x',rfl,?_⟩;refine Ob.mk (by rw[XS];omega)<|Ob.mk (by rw[XS];omega) λu _=>?_;refine⟨v,rfl,?_⟩;refine wh<|wa ?_;have I:((j:Int)).toNat=j:=rfl;have B:((j:Int)-1).toNat=j-1:=oM
   refine⟨(j-1,(s.set j x').set (j-1) v),⟨oN,(zyv c m).trans h,zCv oM oM o c m k q⟩,zP [0] ⟨iR oM,rfl,rfl,rfl,rfl,tV⟩ ⟨aR (by rw[B];rfl),tV⟩,oN⟩
  have k:¬y<x:=k;exact wa<|⟨(i+1,s),⟨oN,oN,h,zs5 o q (.inr (by rw[zfq c,zfq m];omega))⟩,zf [0],oN⟩
 have d:¬(0:Int)<j:=d;exact wa<|⟨(i+1,s),⟨oN,oN,h,zs5 o q (.inl oM)⟩,zf [0],oN⟩
def zEN(l c:LV)(f:l.Perm c)(g:c.Pairwise (·<=·))(d:l.length<=12):CG0 66 [.own 0] [(0,.arr 3 zM 1 l)] (.tup []) [(0,.arr 3 zM 1 c)]:=by
 have pdq:∀m:Int,CG0 101 [.own 0,i64 0,i64 l.length,i64 m] [(0,.arr 3 zM 1 l)] (.tup []) [(0,.arr 3 zM 1 c)]:=λm=>by
  refine ut tok mix func101 rfl rfl rfl (yb _) rfl<|⟨Unit,λ_=>⟨[(2,i64 l.length),(1,i64 0),(0,.own 0)],[(0,.arr 3 zM 1 l)],1,134,1⟩,λ_=>True,λ_=>0,(),tV,?_,?_⟩
  .exact zf [0]
  rintro _ _
  refine wa<|Br.mk (λ_=>?_) (λk=>by have k:¬(l.length:Int)-0<=12:=k;omega);exact zb.hand 0 _ _ _ rfl (zHr l c f g d) (yb _) (yb _) rfl rfl<|⟨rfl,.refl⟩
 exact ut tok mix func66 rfl rfl rfl (yb _) rfl λe=>wa<|wg (zHm l.length d)<|zb.hand 0 _ _ _ rfl (pdq _) (yb _) (yb _) rfl rfl<|⟨rfl,.refl⟩
def cdT(s:Sc)(r:Rc):LV:=(zuB s r).reverse
def zCw{s:Sc}(h:i∈cdT s r):0<=i/\i<s.ns.length:=zFw (QE.1 (List.mem_reverse.1 h)).1
def zwz(s:Sc)(r:Rc):(cdT s r).length<=s.ns.length:=by
 unfold cdT zuB zbS;rw[K8];exact XB (Qb _ _) (zCh _ _)
def zwA(s:Sc)(r:Rc)(B:s.ns.length<=8):CX 37 [.dptr (ixT s),wr r] (.sl zM (cdT s r)):=by
 refine zc func37 ?_;have h:(bxN s s.ns.length).length=s.ns.length:=zdu _ _;have w:=zCh (bxA s) s.ns.length;refine wc ?_;have k:=zmy s s.ns.length;refine wg (zEH r (qq s s.ns.length) oM) ?_;have hfl2:=vQ r (qq s s.ns.length);have hin2:∀i∈(qq s s.ns.length).find r,0<=i/\i<s.ns.length:=λi hi=>zFw ((zmB s s.ns.length).mem_iff.1 (zeM r _ i hi))
 have d:=zyq s r;obtain⟨fs,e⟩:∃fs,fs=(qq s s.ns.length).find r:=⟨_,rfl⟩;rw[←e]at hfl2 hin2 d ⊢;have y:fs.length<=8:=oM;have m:=hin2;clear e k;intro z;refine⟨Nat,λj=>⟨[(24,i64 j),(23,i64 fs.length),(22,.sl zM fs),(5,.own 1),(3,.loc 0 0),(0,.dptr (ixT s))],[(0,.box 47 (rcE r)),(1,.arr 3 zM 1 (zbS s r (fs.take j)))],2,49,0⟩,λj=>j<=fs.length,λj=>fs.length-j,0,Xh _,zC [(0,some 0),(1,none)],?_⟩
 rintro j u
 have u:j<=fs.length:=u;have q:(zbS s r (fs.take j)).Sublist fs:=List.filter_sublist.trans (List.take_sublist _ _);have o:=q.length_le;refine⟨λg:(j:Int)<fs.length=>?_,λg:¬(j:Int)<fs.length=>?_⟩
 .refine wb λi(hi:fs[j]?=some i)=>?_;have n:=m i (Xf hi);refine wc<|Ob.mk (by rw[h];exact n) λb v=>?_;have t:(bxA s).getD i.toNat qp=b:=by rw[Xr];unfold bxA;rw[show(bxN s s.ns.length)[i.toNat]?=some b from v];rfl
  refine wg (zpW b r)<|wg (zdi (b.meet r))<|⟨λc=>?_,λc=>?_⟩
  .have c:zhU s r i:=by unfold zhU;rw[t];exact c
   refine⟨Int,zM,[i],rfl,wb3 ?_⟩;refine⟨[i],rfl,Ob.mk ⟨by show(((zbS s r (fs.take j)).length:Int)+1)*8<=_;omega,by rw[XZ];omega,dC,λx A=>by rw[Xu.1 A];rfl⟩ ?_⟩;exact wa<|⟨j+1,by show j+1<=fs.length;omega,zt [0,3] ⟨rfl,aR (zEJ hi c).symm,tV⟩,oN⟩
  have c:¬zhU s r i:=by unfold zhU;rw[t];exact c
  exact wa<|⟨j+1,by show j+1<=fs.length;omega,zt [0,1] ⟨rfl,aR (zHo hi c).symm,tV⟩,oN⟩
 have f:zbS s r (fs.take j)=zbS s r fs:=by rw[Xi oM]
 have hA:=d.length_eq;rw[f]at o;exact zb.hand 1 _ _ _ rfl (zEN (zbS s r (fs.take j)) (zuB s r) (by rw[f];exact d) (zEK s r) (by rw[f];omega)) (yb _) (yb _) rfl rfl<|zb.hand 1 _ _ _ rfl (zHn (zuB s r) oM) (yb _) (yb _) rfl rfl<|.refl
def zi5(s:Sc)(r:Rc)(d:s.ns.length<=8):CX 20 [.dptr (ixT s),wr r] (.sl zM ((cdT s r).map (ndI s))):=by
 refine zc func20<|wg (zwA s r d) ?_;have m:=zwz s r;intro e;refine⟨Nat,λj=>⟨[(12,i64 j),(11,i64 ((cdT s r).length:Int)),(10,.sl zM (cdT s r)),(5,.own 1),(0,.dptr (ixT s))],[(1,.arr 3 zM 1 (((cdT s r).take j).map (ndI s)))],2,30,0⟩,λj=>j<=(cdT s r).length,λj=>(cdT s r).length-j,0,Xh _,zC [(1,none)],?_⟩
 rintro j c
 have c:j<=(cdT s r).length:=c;have f:(((cdT s r).take j).map (ndI s)).length<=8:=by rw[Xw,Xo];omega
 refine⟨λg:(j:Int)<(cdT s r).length=>?_,λg:¬(j:Int)<(cdT s r).length=>?_⟩
 .refine wb λi(hi:(cdT s r)[j]?=some i)=>?_;refine Ob.mk (zCw (Xf hi)) λn h=>?_;refine⟨Int,zM,[n.id],rfl,wb3 ?_⟩;refine⟨[n.id],rfl,Ob.mk ⟨by show(((((cdT s r).take j).map (ndI s)).length:Int)+1)*8<=_;omega,by rw[XZ];omega,dC,λx k=>by rw[Xu.1 k];rfl⟩ ?_⟩;refine wa ?_
  exact⟨j+1,by show j+1<=(cdT s r).length;omega,zdy [(1,some 3)] ⟨aR (by rw[Xm,hi,XA,←ziZ h];rfl),tV⟩,oN⟩
 exact z6 (by rw[Xi oM])
def atQ(s:Sc)(p:Pt):LV:=if zs2 p then[] else onN s p (cdT s (vR p))
def zFx(s:Sc)(p:Pt)(ht:jd s)(w:s.ns.length<=8):CX 19 [.dptr (ixT s),wk p] (.sl zM (atQ s p)):=by
 refine zc func19 ?_;have far:zs2 p->LE nS (.sl zM (atQ s p)):=λh=>by rw[show atQ s p=[] from Xe h];exact zD
 refine⟨λh=>far (.inl h),λq=>?_⟩;refine⟨λh=>far (.inr (.inl h)),λt=>?_⟩;refine⟨λh=>far (.inr (.inr (.inl h))),λu=>?_⟩;refine⟨λh=>far (.inr (.inr (.inr h))),λv=>?_⟩;have e:¬zs2 p:=λk=>k.elim q λk=>k.elim t λk=>k.elim u v
 have o:atQ s p=onN s p (cdT s (vR p)):=Xc e;unfold zs2 at e;have d:(2:Int)^8=256:=dC;have m: -4096<=p.x/2^8/\p.x/2^8<=4096:=by rw[d];omega
 have D: -4096<=p.y/2^8/\p.y/2^8<=4096:=by rw[d];omega
 refine wb1<|wb1<|wb1<|Ar.fit (show-9223372036854775808<=p.x/2^8+1/\p.x/2^8+1<=9223372036854775807 by omega)<|wb1<|Ar.fit (show-9223372036854775808<=p.y/2^8+1/\p.y/2^8+1<=9223372036854775807 by omega) ?_;refine wg (zwA s (vR p) w) ?_;have C:=zwz s (vR p);intro z
 refine⟨Nat,λj=>⟨[(46,i64 j),(45,i64 ((cdT s (vR p)).length:Int)),(44,.sl zM (cdT s (vR p))),(6,.own 1),(3,.loc 0 0),(0,.dptr (ixT s))],[(0,.box 28 (ptE p)),(1,.arr 3 zM 1 (onN s p ((cdT s (vR p)).take j)))],2,71,0⟩,λj=>j<=(cdT s (vR p)).length,λj=>(cdT s (vR p)).length-j,0,Xh _,zC [(0,some 0),(1,none)],?_⟩
 rintro j f
 have f:j<=(cdT s (vR p)).length:=f
 have A:(onN s p ((cdT s (vR p)).take j)).length<=8:=by
  unfold onN;rw[Xw];refine XB (Qb _ _) ?_;rw[Xo];omega
 refine⟨λg:(j:Int)<(cdT s (vR p)).length=>?_,λg:¬(j:Int)<(cdT s (vR p)).length=>?_⟩
 .refine wb λi(hi:(cdT s (vR p))[j]?=some i)=>?_;refine wc<|wg (g_on s p i ht)<|⟨λc=>?_,λc=>?_⟩
  .refine Ob.mk (zCw (Xf hi)) λn B=>?_;refine⟨Int,zM,[n.id],rfl,wb3 ?_⟩;refine⟨[n.id],rfl,Ob.mk ⟨by show(((onN s p ((cdT s (vR p)).take j)).length:Int)+1)*8<=_;omega,by rw[XZ];omega,dC,λx m=>by rw[Xu.1 m];rfl⟩ ?_⟩;exact wa<|⟨j+1,by show j+1<=(cdT s (vR p)).length;omega,zt [0,3] ⟨rfl,aR (by rw[zHp hi c,ziZ B]),tV⟩,oN⟩
  exact wa<|⟨j+1,by show j+1<=(cdT s (vR p)).length;omega,zt [0,1] ⟨rfl,aR (on_no hi c).symm,tV⟩,oN⟩
 exact z6 (by rw[o,Xi oM])
end Go.Gs
