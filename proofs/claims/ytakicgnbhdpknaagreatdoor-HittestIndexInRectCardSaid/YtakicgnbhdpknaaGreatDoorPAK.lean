/- A region that draws its order: the run in the order of its text serves for every order. -/
import Derived.Test.YtakicgnbhdpknaaGreatDoorPAJ
set_option maxRecDepth 100000
set_option maxHeartbeats 8000000
set_option linter.all false
namespace Go.Gs
section
def Down(all:List Oper)(D:LI):Prop:=∀i o,D i->all[i]?=some o->∀e∈o.after,Region.binds .any e=true->D e.on
def Anc(all:List Oper)(j i:Nat):Prop:=∀D:LI,Down all D->(∀o,all[j]?=some o->∀e∈o.after,Region.binds .any e=true->D e.on)->D i
def zeT(all:List Oper)(n:Nat):(zbT all n).length=n:=by
 induction n with
 |zero=>rfl
 |succ n b=>simp[zbT,b]
def zne(all:List Oper):∀(n j:Nat),j<n->(zbT all n)[j]?=some (match all[j]? with|some o=>ztg (zbT all j) o|none=>0)
 |0,j,h=>oM
 |n+1,j,h=>by
  simp only[zbT]
  by_cases b:j<n
  .rw[XL (by rw[zeT];exact b)];exact zne all n j b
  have:j=n:=by omega
  subst this;rw[XF (by rw[zeT];omega),zeT];simp;rfl
def zd1(all:List Oper):∀(n j i:Nat),j<n->((zbT all n).getD j 0).testBit i=true->Anc all j i:=by
 intro n j
 induction j using Nat.strongRecOn generalizing n with
 |_ j x=>
  intro i w hbit D hD hedges;have v:=zne all n j w;rw[Xr,v]at hbit
  cases q:all[j]? with
  |none=>simp[q]at hbit
  |some o=>
   simp only[q,KP]at hbit;unfold ztg at hbit
   have key:∀(c:List Edge) (l:Nat),(∀e∈c,e∈o.after)->(l.testBit i=true->D i)->
     (c.foldl (λs e=>if Region.binds .any e then s|||2^e.on|||(zbT all j).getD e.on 0 else s) l).testBit i=true->D i:=by
    intro c
    induction c with
    |nil=>intro l _ k h;exact k h
    |cons e c ihe=>
     intro l f k h;simp only[Qm]at h;refine ihe _ (λt p=>f t (.tail _ p)) ?_ h;intro b
     split at b
     .rename_i hbind;simp only[Nat.testBit_or,JP]at b;have d:D e.on:=hedges o q e (f e (.head _)) hbind
      rcases b with(b|b)|b
      .exact k b
      .rw[Nat.testBit_two_pow]at b;have:e.on=i:=by simpa using b
       exact this ▸ d
      by_cases g:e.on<j
      .refine x e.on g j i g b D hD λo' r=>hD e.on o' d r
      rw[Xr,XG (by rw[zeT];omega)]at b;simp at b
     exact k b
   exact key o.after.toList 0 (λe u=>by simpa using u) (λh=>by simp at h) hbit
def ztu{all:List Oper}(h:vt all=true):(∀j o,all[j]?=some o->∀e∈o.after,Region.binds .any e=true->e.on<j)/\
  ∀i j oi oj,i<j->all[i]?=some oi->all[j]?=some oj->zwI all oi oj=true->Anc all j i:=by
 unfold vt at h;simp only[XE]at h;obtain⟨g,k⟩:=h;refine⟨λj o f e p l=>?_,λi j oi oj c hi d n=>?_⟩
 .have b:j<all.length:=(Xd.1 f).1;have:=XX.1 g j (XU.2 b);simp only[f]at this;have:=XX.1 this e (by simpa using p);simp only[l,QI,QU]at this;exact Xz this
 have b:j<all.length:=(Xd.1 d).1;have:=XX.1 k j (XU.2 b);have:=XX.1 this i (XU.2 c);simp only[hi,d,n,QI,YL]at this;exact zd1 all all.length j i b this
def zwR{all:List Oper}{i:Nat}(h:zoL all i=true):∀j oj,i<j->all[j]?=some oj->zdw oj.op=true->Anc all j i:=by
 intro j oj f d g;unfold zoL at h;have b:j<all.length:=(Xd.1 d).1;have:=XX.1 h j (XU.2 b)
 have c:Nat.ble j i=false:=by
  cases e:Nat.ble j i with
  |false=>rfl
  |true=>have:=Xz e;omega
 simp only[d,g,c,QI,YL,QU]at this;exact zd1 all all.length j i b this
def zkF{a b:LC}{t:Nat}(c:t∈a)(d:t∈b):zdR a b=true:=by
 unfold zdR;exact List.any_eq_true.2 ⟨t,c,List.any_eq_true.2 ⟨t,d,K4 t⟩⟩
def zfv(Z' Z:St):Prop:=Z'.M=Z.M/\Z'.nk=Z.nk/\Z'.nt=Z.nt/\Z'.n0=Z.n0/\∀t s',kF Z'.L t=some s'->∃b,kF Z.L t=some b/\∀S Pm O w v,G S Pm O w b v->G S Pm O w s' v
def zfv.refl{Z:St}:zfv Z Z:=⟨rfl,rfl,rfl,rfl,λ_ s h=>⟨s,h,λ_ _ _ _ _ h=>h⟩⟩
structure Lex0 (P:Program) (all:List Oper) (E:Env) (Z0:St) (i0:Nat) (T:Nat->St) (s:Nat->SV) (md:Nat->MD) (run:Nat->Bool) (svs:Nat->LR):Prop where
 start:zfv (T i0) Z0
 next:∀j o,i0<=j->all[j]?=some o->zfv (T (j+1)) ((T j).app o.dst (s j) (md j))
 dst:∀j o,i0<=j->all[j]?=some o->∀t,o.dst=some t->t<Z0.nt
 guard:∀j o,i0<=j->all[j]?=some o->q9 all (T j) o (run j)
 step:∀j o,i0<=j->all[j]?=some o->(run j=true/\znc P true all j o (T j) (svs j) (s j) (md j))∨(run j=false/\s j=.val undef/\md j=.none)
 pw:∀j,i0<=j->j<=all.length->(T j).M.Pairwise λa b=>a.1≠b.1
def zkG{P:Program}{H:LS}(hT:TOK P H){all:List Oper}{E:Env}{K:St->Prop}:∀(l:List Oper) (i:Nat) (Z:St) (O:zh) (a:Act) (w:World),i+l.length=all.length->
  (∀j,l[j]?=all[i+j]?)->Rel E Z O a w->ve P H true all l i Z K->∃T s md run svs,Lex0 P all E Z i T s md run svs/\K (T all.length)
 |[],i,Z,O,a,w,d,I,x,h=>by
  have hi:i=all.length:=by simpa using d
  subst hi;refine⟨λ_=>Z,λ_=>.junk,λ_=>.none,λ_=>false,λ_=>[],⟨.refl,?_,?_,?_,?_,λ_ _ _=>x.mem.keys⟩,h⟩ <;>
  .intro j o u b;have:=(Xd.1 b).1;omega
 |o::r,i,Z,O,a,w,d,I,x,h=>by
  have q:all[i]?=some o:=by simpa using (I 0).symm
  obtain⟨Z',run0,svs0,y,p,S,W,href,F,k⟩:=zgO hT x h
  have f:Rel E Z' O a w:=by
   rcases href with rfl|⟨t,y,N,B,C,rfl⟩
   .exact x
   exact x.refine B C
  have n:Z'.nt=Z.nt:=by rcases href with rfl|⟨t,y,N,B,C,rfl⟩ <;> rfl
  have href':zfv Z' Z:=by
   rcases href with rfl|⟨t,Y,N,B,C,rfl⟩
   .exact .refl
   refine⟨rfl,rfl,rfl,rfl,λR s' c=>?_⟩;have c:(if t=R then some N else kF Z.L R)=some s':=by rw[←zU];exact c
   by_cases e:t=R
   .subst e;rw[Xe rfl]at c;cases c
    exact⟨Y,B,C⟩
   rw[Xc e]at c;exact⟨s',c,λ_ _ _ _ _ h=>h⟩
  have hnext:∃O1 D z,Rel E (Z'.app o.dst y p) O1 D z:=by
   obtain⟨_,J⟩|⟨_,rfl,rfl⟩:=k
   .obtain⟨v,z,V⟩:=(J.does f).ex;obtain⟨O1,g⟩:=f.app (λt e=>n ▸ F t e) V;exact⟨O1,_,z,g⟩
   obtain⟨O1,g⟩:=f.app (λt e=>n ▸ F t e) (uX f.mem);exact⟨O1,_,w,g⟩
  obtain⟨O1,D,z,g⟩:=hnext;obtain⟨T,s,md,run,svs,hlex,hK⟩:=zkG hT r (i+1) _ O1 D z (by simp at d;omega) (λj=>by have:=I (j+1);simpa[KH,Q2 1 j] using this) g S;have hapn:(Z'.app o.dst y p).nt=Z.nt:=n;have X:i<all.length:=(Xd.1 q).1
  refine⟨λj=>if j=i then Z' else T j,λj=>if j=i then y else s j,λj=>if j=i then p else md j,λj=>if j=i then run0 else run j,λj=>if j=i then svs0 else svs j,
   ⟨by simpa using href',?_,?_,?_,?_,?_⟩,by simpa[show all.length≠i by omega] using hK⟩
  .intro j oj u b
   by_cases e:j=i
   .subst e;rw[q]at b;cases b
    simpa using hlex.start
   have:=hlex.next j oj oM b
   simpa[e,show j+1≠i by omega] using this
  .intro j oj u b t ht
   by_cases e:j=i
   .subst e;rw[q]at b;cases b
    exact F t ht
   exact hapn ▸ hlex.dst j oj oM b t ht
  .intro j oj u b
   by_cases e:j=i
   .subst e;rw[q]at b;cases b
    simpa using W
   simpa[e] using hlex.guard j oj oM b
  .intro j oj u b
   by_cases e:j=i
   .subst e;rw[q]at b;cases b
    simpa using k
   simpa[e] using hlex.step j oj oM b
  intro j u G
  by_cases e:j=i
  .subst e
   simpa using f.mem.keys
  simpa[e] using hlex.pw j oM G
def ja(T:Nat->St)(md:Nat->MD)(i k:Nat):Prop:=
 match md i with
 |.none=>False
 |.push _=>k=(T i).nk
 |.set k' _=>k=k'
 |.drop k'=>k=k'
 |.repl k' _=>k=k'∨k=(T i).nk
 |.give ks _ nn=>k∈ks∨((T i).nk<=k/\k<(T i).nk+nn)
def zcZ(Y:Nat)(md:MD):Prop:=
 match md with
 |.give ks new nn=>(∀k m,(k,m)∈new->k∈ks∨(Y<=k/\k<Y+nn))/\∀k,Y<=k->k<Y+nn->∃m,(k,m)∈new
 |_=>True
structure zkH (P:Program) (o:Oper) (Z:St) (svs:LR) (s:SV) (md:MD) (U:LI):Prop where
 ok:∃lm:LJ,yU P o.op svs lm Z.nk s md/\∀k m,lm k=some m->U k/\zW Z.M k=some m
 ev:∀{S Pm:LI} {O:zh} {a:Act} {w:World},(∀t s,t∈zhY (qi o.op)->kF Z.L t=some s->G S Pm O w s (a.tmps.getD t undef))->Gs S Pm O w svs ((qi o.op).map a.eval)
structure Lex (P:Program) (all:List Oper) (E:Env) (Z0:St) (T:Nat->St) (s:Nat->SV) (md:Nat->MD) (run:Nat->Bool) (svs:Nat->LR) (U:Nat->LI):Prop where
 start:zfv (T 0) Z0
 next:∀(j:Nat) (o:Oper),all[j]?=some o->zfv (T (j+1)) ((T j).app o.dst (s j) (md j))
 dst:∀(j:Nat) (o:Oper),all[j]?=some o->∀t,o.dst=some t->t<Z0.nt
 guard:∀(j:Nat) (o:Oper),all[j]?=some o->q9 all (T j) o (run j)
 step:∀(j:Nat) (o:Oper),all[j]?=some o->(run j=true/\zkH P o (T j) (svs j) (s j) (md j) (U j))∨(run j=false/\s j=.val undef/\md j=.none)
 pw:∀j:Nat,j<=all.length->(T j).M.Pairwise λa b=>a.1≠b.1
 nodrop:∀(j:Nat) (o:Oper),all[j]?=some o->zcZ (T j).nk (md j)
 edges:∀(j:Nat) (o:Oper),all[j]?=some o->∀e∈o.after,Region.binds .any e=true->e.on<j
 slot:∀(i j:Nat) (oi oj:Oper),i<j->all[i]?=some oi->all[j]?=some oj->zkr all oi oj=true->Anc all j i
 mem:∀(i j:Nat),i<j->j<all.length->∀k:Nat,(ja T md i k/\(U j k∨ja T md j k))∨(U i k/\ja T md j k)->Anc all j i
structure Inv (all:List Oper) (E:Env) (Z0:St) (T:Nat->St) (md:Nat->MD) (D:LI) (M:LT) (O:zh) (a:Act) (w:World):Prop where
 size:a.tmps.size=Z0.nt
 defers:a.defers=E.ds
 down:Down all D
 mem:zJ E.Keep M O w
 regs:∀t j sv,j<=all.length->(∀i o,all[i]?=some o->o.dst=some t->(D i↔i<j))->kF (T j).L t=some sv->
  t<Z0.nt/\G (λb=>E.Keep b∨Own M O b) (Own M O) O w sv (a.tmps.getD t undef)
 keys:∀k j m,j<=all.length->(∀i,i<all.length->ja T md i k->(D i↔i<j))->zW (T j).M k=some m->zW M k=some m
 names:∀k v,O k=some v->k<Z0.nk∨∃i,D i/\i<all.length/\(T i).nk<=k/\k<zb5 (T i).nk (md i)
 stp:Stp E.W0 (Own M O) E.ρ0 O E.w0 w
variable{M:LT}{k':Nat}{m:Mem}
def kN{k:Nat}:zW ((k,m)::M) k'=if k=k' then some m else zW M k':=by
 simp only[zW]
 by_cases h:k=k'
 .subst h;simp[K4]
 have:Nat.beq k k'=false:=by
  cases b:Nat.beq k k' with
  |false=>rfl
  |true=>exact absurd (Xk b) h
 simp[this,h]
def zkI{k:Nat}:zW (qN M k m) k'=if k=k' then(zW M k).map (λ_=>m) else zW M k':=by
 induction M with
 |nil=>simp[qN,zW]
 |cons x r d=>
  obtain⟨q,y⟩:=x;simp only[qN]
  split
  .rename_i b;have:=Xk b;subst this;rw[kN,kN,kN]
   by_cases e:q=k' <;> simp[e]
  rename_i b;have c:=KM b;rw[kN,d,kN,kN]
  by_cases e:k=k'
  .subst e;simp[c]
  simp[e]
def zd2{k:Nat}(h:k≠k'):zW (qb M k) k'=zW M k':=by
 induction M with
 |nil=>rfl
 |cons x r c=>
  obtain⟨q,y⟩:=x;simp only[qb]
  split
  .rename_i b;have:=Xk b;subst this;rw[kN,Xc h]
  rw[kN,kN,c]
def zaN{k:Nat}(c:M.Pairwise λa b=>a.1≠b.1):zW (qb M k) k=none:=by
 cases h:zW (qb M k) k with
 |none=>rfl
 |some m=>exact absurd rfl (vu c _ (zA h))
end
section lex
variable{P:Program}{all:List Oper}{E:Env}{Z0:St}{T:Nat->St}{s:Nat->SV}{md:Nat->MD}{run:Nat->Bool}{svs:Nat->LR}{U:Nat->LI}
section
variable{j:Nat}
def Lex.nk_next(h:Lex P all E Z0 T s md run svs U)(b:j<all.length):(T (j+1)).nk=zb5 (T j).nk (md j):=by
 have:=(h.next j _ (Xb b)).2.1;exact this
def zuX(Y:Nat)(m:MD):Y<=zb5 Y m:=by cases m <;> simp[zb5]
def Lex.nk_mono(h:Lex P all E Z0 T s md run svs U){i:Nat}:∀{j:Nat},i<=j->j<=all.length->(T i).nk<=(T j).nk
 |0,b,_=>by
   have:i=0:=oM;subst this;exact Xj _
 |j+1,b,c=>by
  by_cases e:i=j+1
  .subst e;exact Xj _
  have:=h.nk_mono (i:=i) (j:=j) oM oM;rw[h.nk_next oM];exact XB this (zuX _ _)
variable{i:Nat}
def Lex.nk_push(h:Lex P all E Z0 T s md run svs U)(c:i<j)(d:j<=all.length):zb5 (T i).nk (md i)<=(T j).nk:=by
 have b:=h.nk_mono (i:=i+1) (j:=j) oM d
 rwa [h.nk_next oM]at b
def zy4{Z:St}{d:Option Tmp}{sv:SV}{m:MD}{t:Nat}(b:d≠some t):kF (Z.app d sv m).L t=kF Z.L t:=by
 cases d with
 |none=>rfl
 |some d=>
  show kF ((d,sv)::Z.L) t=_;rw[zU,Xc (λe=>b (by rw[e]))]
def Lex.look_chain(h:Lex P all E Z0 T s md run svs U){t j0:Nat}:∀{j:Nat} {s':SV},j0<=j->j<=all.length->(∀i o,j0<=i->i<j->all[i]?=some o->o.dst≠some t)->kF (T j).L t=some s'->
  ∃d,kF (T j0).L t=some d/\∀S Pm O w v,G S Pm O w d v->G S Pm O w s' v
 |0,s',q,_,_,c=>by
  have:j0=0:=oM;subst this;exact⟨s',c,λ_ _ _ _ _ h=>h⟩
 |j+1,s',q,y,p,c=>by
  by_cases e:j0=j+1
  .subst e;exact⟨s',c,λ_ _ _ _ _ h=>h⟩
  have l:j<all.length:=by omega
  have n:=Xb l;obtain⟨z,b,g⟩:=(h.next j _ n).2.2.2.2 t s' c;rw[zy4 (p j _ oM oM n)]at b;obtain⟨d,k,f⟩:=h.look_chain (j:=j) oM oM (λi o r x=>p i o r oM) b;exact⟨d,k,λS Pm O w v u=>g _ _ _ _ _ (f _ _ _ _ _ u)⟩
variable{A:LT}
def zgP{B:LT}{k:Nat}:zW (A++B) k=(match zW A k with|some m=>some m|none=>zW B k):=by
 induction A with
 |nil=>rfl
 |cons x r b=>
  obtain⟨q,y⟩:=x;rw[JG,kN,kN]
  by_cases h:q=k
  .simp[h]
  simp only[h,if_false];exact b
def zap{k:Nat}:∀{ks:LC} {M:LT},k∉ks->zW (yc M ks) k=zW M k
 |[],_,_=>rfl
 |q::r,M,h=>by
  simp only[yc];rw[zap (λe=>h (.tail _ e)),zd2 (λe=>h (by rw[e];exact .head _))]
def zmL{k:Nat}(h:∀m,(k,m)∉A):zW A k=none:=by
 cases b:zW A k with
 |none=>rfl
 |some m=>exact absurd (zA b) (h m)
variable{m:Mem}
def zmM{k:Nat}(h:(k,m)∈A):∃c,zW A k=some c:=by
 induction A with
 |nil=>cases h
 |cons x r b=>
  obtain⟨q,y⟩:=x;rw[kN]
  by_cases e:q=k
  .exact⟨y,Xe e⟩
  rw[Xc e]
  cases h with
  |head=>exact absurd rfl e
  |tail _ h=>exact b h
def zbt{k:Nat}:∀{ks:LC} {M:LT},M.Pairwise (λa b=>a.1≠b.1)->k∈ks->zW (yc M ks) k=none
 |[],_,_,h=>(by cases h)
 |q::r,M,d,h=>by
  simp only[yc]
  by_cases c:k∈r
  .exact zbt (qP d) c
  rw[zap c]
  cases h with
  |head=>exact zaN d
  |tail _ h=>exact absurd h c
variable{M:LT}
def znf{k:Nat}(c:zcZ (T j).nk (md j))(b:¬ja T md j k):zW (zdD M (T j).nk (md j)) k=zW M k:=by
 unfold ja at b
 cases f:md j <;> simp only[f]at b <;> simp only[zdD]
 .rw[kN,Xc (λe=>b e.symm)]
 .rw[zkI,Xc (λe=>b e.symm)]
 .exact zd2 (λe=>b e.symm)
 .rw[kN,Xc (λe=>b (.inr e.symm))];exact zd2 (λe=>b (.inl e.symm))
 rename_i ks new nn;unfold zcZ at c;simp only[f]at c;rw[zgP,zmL (λm d=>b (c.1 k m d)),zap (λh=>b (.inl h))]
def Lex.lookM_chain(h:Lex P all E Z0 T s md run svs U){k j0:Nat}:∀{j:Nat},j0<=j->j<=all.length->(∀i,j0<=i->i<j->¬ja T md i k)->zW (T j).M k=zW (T j0).M k
 |0,f,_,_=>by
  have:j0=0:=oM;subst this;rfl
 |j+1,f,n,d=>by
  by_cases e:j0=j+1
  .subst e;rfl
  have b:j<all.length:=by omega
  have c:=Xb b;have hM:=(h.next j _ c).1;rw[hM];show zW (zdD (T j).M (T j).nk (md j)) k=_;rw[znf (h.nodrop j _ c) (d j oM oM)];exact h.lookM_chain oM oM λi g l=>d i g oM
def zck{k:Nat}(c:M.Pairwise λa b=>a.1≠b.1)(h:(k,m)∈M):zW M k=some m:=by
 induction M with
 |nil=>cases h
 |cons x r d=>
  obtain⟨q,y⟩:=x;rw[X4]at c;rw[kN]
  cases h with
  |head=>simp
  |tail _ h=>
   have:q≠k:=c.1 _ h;rw[Xc this];exact d c.2 h
variable{O:zh}{a:Act}
def Inv.after(hlex:Lex P all E Z0 T s md run svs U){D:LI}{w w':World}{v:Value}(hI:Inv all E Z0 T md D M O a w)
{o:Oper} (p:all[j]?=some o) (hj:¬D j) (hedges:∀e∈o.after,Region.binds .any e=true->D e.on) (ha:qc E.Keep M O w (T j).nk (s j) (md j) v w'):
  ∃M' O',Inv all E Z0 T md (λi=>i=j∨D i) M' O' (a.put o.dst v) w':=by
 obtain⟨O',hs,hm,hg,hρ⟩:=ha;have F:j<all.length:=(Xd.1 p).1;have hbefore:∀i,Anc all j i->D i:=λi hA=>hA D hI.down (λo' S=>by rw[p]at S;cases S;exact hedges)
 have hafter:∀i,Anc all i j->¬D i:=λi hA hDi=>hj (hA D hI.down (λoi hi=>hI.down i oi hDi hi))
 have hdef:(a.put o.dst v).defers=E.ds:=by cases r:o.dst <;> exact hI.defers
 refine⟨zdD M (T j).nk (md j),O',?_,hdef,?_,hm,?_,?_,?_,hI.stp.trans hs⟩
 .have:=hI.size
  cases r:o.dst <;> simpa[Act.put] using this
 .intro i oi hi I e he hb
  rcases hi with rfl|hi
  .rw[p]at I;cases I;exact .inr (hedges e he hb)
  exact .inr (hI.down i oi hi I e he hb)
 .intro t z sv x f b
  have hold:o.dst≠some t->(∀i oi,all[i]?=some oi->oi.dst=some t->(D i↔i<z)):=λr i oi hi u=>by
   have q:=f i oi hi u;constructor
   .intro h;exact q.1 (.inr h)
   intro h
   rcases q.2 h with rfl|h
   .rw[p]at hi;cases hi;exact absurd u r
   exact h
  by_cases r:o.dst=some t
  .have hlt:j<z:=(f j o p r).1 (.inl rfl)
   have G:∀i oi,j+1<=i->i<z->all[i]?=some oi->oi.dst≠some t:=λi oi q B hi u=>by
    have hDi:=((f i oi hi u).2 B).resolve_left oM;refine hafter i (hlex.slot j i o oi oM p hi ?_) hDi;unfold zkr;have:zdR (uA o) (uA oi)=true:=zkF (t:=t) (by simp[uA,r]) (by simp[uA,u]);simp[this]
   obtain⟨s1,hl1,Y⟩:=hlex.look_chain (j0:=j+1) oM x G b;obtain⟨s2,g,hi2⟩:=(hlex.next j o p).2.2.2.2 t s1 hl1;have g:kF (putL (T j).L o.dst (s j)) t=some s2:=g;rw[r]at g;have g:kF ((t,s j)::(T j).L) t=some s2:=g;rw[zU,Xe rfl]at g
   cases g
   have y:=hlex.dst j o p t r;refine⟨y,?_⟩;rw[r,zgN (by rw[hI.size];exact y),Xe rfl];exact Y _ _ _ _ _ (hi2 _ _ _ _ _ hg)
  obtain⟨y,X⟩:=hI.regs t z sv x (hold r) b;refine⟨y,?_⟩
  have hput:(a.put o.dst v).tmps.getD t undef=a.tmps.getD t undef:=by
   cases N:o.dst with
   |none=>rfl
   |some d=>
    have W:=hlex.dst j o p d N;rw[zgN (by rw[hI.size];exact W),Xc (λe=>r (by rw[N,e]))]
  rw[hput];exact X.stp hs
 .intro k z m x f b
  by_cases ht:ja T md j k
  .have hlt:j<z:=(f j F ht).1 (.inl rfl)
   have G:∀i,j+1<=i->i<z->¬ja T md i k:=λi q B c=>by
    have l:i<all.length:=oM;have hDi:=((f i l c).2 B).resolve_left oM;exact hafter i (hlex.mem j i oM l k (.inl ⟨ht,.inr c⟩)) hDi
   rw[hlex.lookM_chain (j0:=j+1) oM x G,(hlex.next j o p).1]at b;have b:zW (zdD (T j).M (T j).nk (md j)) k=some m:=b
   have hagj:∀m,zW (T j).M k=some m->zW M k=some m:=λm hlk=>by
    refine hI.keys k j m oM (λi l c=>?_) hlk;constructor
    .intro hDi
     rcases Qv i j with h|h|h
     .exact h
     .subst h;exact absurd hDi hj
     exact absurd hDi (hafter i (hlex.mem j i h l k (.inl ⟨ht,.inr c⟩)))
    intro hij;exact hbefore i (hlex.mem i j hij F k (.inl ⟨c,.inr ht⟩))
   unfold ja at ht
   cases n:md j with
   |none=>simp only[n]at ht
   |push m'=>
    simp only[n]at ht b ⊢;simp only[zdD]at b ⊢;rw[kN,Xe ht.symm]at b ⊢;exact b
   |set k' m'=>
    simp only[n]at ht b ⊢;subst ht;simp only[zdD]at b ⊢;rw[zkI,Xe rfl]at b ⊢
    cases J:zW (T j).M k with
    |none=>rw[J]at b;cases b
    |some m0=>
     rw[J]at b;rw[hagj m0 J];exact b
   |drop k'=>
    simp only[n]at ht b;subst ht;simp only[zdD]at b;rw[zaN (hlex.pw j oM)]at b
    cases b
   |repl k' m'=>
    simp only[n]at ht b ⊢;simp only[zdD]at b ⊢;rw[kN]at b ⊢
    by_cases e:(T j).nk=k
    .rw[Xe e]at b ⊢;exact b
    rw[Xc e]at b ⊢;have hkk:=ht.resolve_right (λh=>e h.symm);subst hkk;rw[zaN (hlex.pw j oM)]at b
    cases b
   |give ks new nn=>
    have C:=hlex.nodrop j o p;unfold zcZ at C;simp only[n]at ht b C ⊢;simp only[zdD]at b ⊢;rw[zgP]at b ⊢
    cases J:zW new k with
    |some m0=>rw[J]at b;exact b
    |none=>
     exfalso
     rw[J]at b
     rcases ht with ht|⟨q,B⟩
     .have b:zW (yc (T j).M ks) k=some m:=b;rw[zbt (hlex.pw j oM) ht]at b
      cases b
     obtain⟨m1,hm1⟩:=C.2 k q B;obtain⟨m2,R⟩:=zmM hm1;rw[J]at R;cases R
  rw[znf (hlex.nodrop j o p) ht];refine hI.keys k z m x (λi l c=>?_) b;have q:=f i l c;constructor
  .intro h;exact q.1 (.inr h)
  intro h
  rcases q.2 h with rfl|h
  .exact absurd c ht
  exact h
 intro k v' V
 by_cases hk:k<(T j).nk∨zb5 (T j).nk (md j)<=k
 .rw[hρ k hk]at V
  rcases hI.names k v' V with h|⟨i,q,B,h3,h4⟩
  .exact .inl h
  exact .inr ⟨i,.inr q,B,h3,h4⟩
 exact .inr ⟨j,.inl rfl,F,oM,oM⟩
def Lex.nt(h:Lex P all E Z0 T s md run svs U):∀{j:Nat},j<=all.length->(T j).nt=Z0.nt/\(T j).n0=Z0.n0
 |0,_=>⟨h.start.2.2.1,h.start.2.2.2.1⟩
 |j+1,g=>by
  have f:=Xb (show j<all.length by omega);obtain⟨_,_,b,c,_⟩:=h.next j _ f
  obtain⟨d,e⟩:=h.nt (j:=j) oM;exact⟨b.trans d,c.trans e⟩
def Inv.sees(hlex:Lex P all E Z0 T s md run svs U){D:LI}{w:World}(hI:Inv all E Z0 T md D M O a w)
{o:Oper} (l:all[j]?=some o) (g:¬D j) (hedges:∀e∈o.after,Region.binds .any e=true->D e.on):
  (∀t,t∈zcR all o->∀sv,kF (T j).L t=some sv->t<Z0.nt/\G (λb=>E.Keep b∨Own M O b) (Own M O) O w sv (a.tmps.getD t undef))/\
  (∀k m,U j k->zW (T j).M k=some m->zW M k=some m)/\(∀k,(T j).nk<=k->k<zb5 (T j).nk (md j)->O k=none):=by
 have p:j<all.length:=(Xd.1 l).1;have hbefore:∀i,Anc all j i->D i:=λi hA=>hA D hI.down (λo' d=>by rw[l]at d;cases d;exact hedges)
 have hafter:∀i,Anc all i j->¬D i:=λi hA hDi=>g (hA D hI.down (λoi hi=>hI.down i oi hDi hi))
 refine⟨λt ht sv z=>hI.regs t j sv oM (λi oi hi u=>?_) z,λk m x r=>?_,λq B C=>?_⟩
 .constructor
  .intro hDi
   rcases Qv i j with h|h|h
   .exact h
   .subst h;exact absurd hDi g
   refine absurd hDi (hafter i (hlex.slot j i o oi h l hi ?_));have:zdR (zcR all o) (uA oi)=true:=zkF ht (by simp[uA,u]);unfold zkr;simp[this]
  intro c;refine hbefore i (hlex.slot i j oi o c hi l ?_);have:zdR (uA oi) (zcR all o)=true:=zkF (t:=t) (by simp[uA,u]) ht;unfold zkr;simp[this]
 .refine hI.keys k j m oM (λi n f=>?_) r;constructor
  .intro hDi
   rcases Qv i j with h|h|h
   .exact h
   .subst h;exact absurd hDi g
   exact absurd hDi (hafter i (hlex.mem j i h n k (.inr ⟨x,f⟩)))
  intro c;exact hbefore i (hlex.mem i j c p k (.inl ⟨f,.inl x⟩))
 cases F:O q with
 |none=>rfl
 |some v=>
  exfalso
  rcases hI.names _ v F with h|⟨i,y,I,J,N⟩
  .have R:=hlex.nk_mono (i:=0) (j:=j) oM oM;have S:(T 0).nk=Z0.nk:=hlex.start.2.1;omega
  rcases Qv i j with h|h|h
  .have:=hlex.nk_push h oM;omega
  .subst h;exact g y
  have:=hlex.nk_push h oM;omega
def Inv.step(hlex:Lex P all E Z0 T s md run svs U){D:LI}{M:LT}{O:zh}{a:Act}{w:World}(hI:Inv all E Z0 T md D M O a w){j:Nat}{o:Oper}(d:all[j]?=some o)(u:¬D j)(hedges:∀e∈o.after,Region.binds .any e=true->D e.on){Q:LF}{K:LG}(hK:∀M O a w,Inv all E Z0 T md (λi=>i=j∨D i) M O a w->K a w):wpOp P all.toArray Q j K a w:=by
 have Y:j<all.length:=(Xd.1 d).1;obtain⟨G,N,I⟩:=hI.sees hlex d u hedges;have l:=(hlex.nt (j:=j) oM).1
 have hw:Region.wanted o (yielded all.toArray a.tmps)=run j:=
  znd (hlex.guard j o d) (hI.size.trans l.symm) λt b ⟨g,want,X,W⟩ x=>by
   obtain⟨R,V⟩:=G t (by simp[zcR,X,W]) _ x;exact⟨l ▸ R,V.val_inv⟩
 have C:all.toArray[j]?=some o:=by simpa using d
 unfold wpOp;simp only[C,hw]
 obtain⟨c,n⟩|⟨c,hs,z⟩:=hlex.step j o d
 .simp only[c,if_true];have r:=n.ev (S:=λb=>E.Keep b∨Own M O b) (Pm:=Own M O) (O:=O) (a:=a) (w:=w) λt sv ht x=>(G t (by simp[zcR,ht]) sv x).2
  have q:qM P o a w (qc E.Keep M O w (T j).nk (s j) (md j)):=by
   obtain⟨lm,F,f⟩:=n.ok;refine F o rfl E.Keep M O a w (λk m J=>N k m (f k m J).1 (f k m J).2) hI.mem I (λhp m z=>?_) r
   obtain⟨v,L⟩:=(hI.mem.rel _ m z).name;have y:(T j).nk<zb5 (T j).nk (md j):=by cases B:md j <;> simp[B,zyY]at hp <;> simp[zb5]
   rw[I _ (Xj _) y]at L;cases L
  refine .inl (q.wp λv w' p=>?_);obtain⟨M',O',h⟩:=hI.after hlex d u hedges p;exact hK _ _ _ _ h
 simp only[c,KF,if_false];have p:qc E.Keep M O w (T j).nk (s j) (md j) undef w:=by rw[hs,z];exact uX hI.mem
 obtain⟨M',O',h⟩:=hI.after hlex d u hedges p;exact hK _ _ _ _ h
def zeU{ops:List Oper}{listed:Array Bool}:i∈Region.ready .any ops.toArray listed↔
  ∃o,ops[i]?=some o/\listed.getD i true=false/\∀e∈o.after,Region.binds .any e=true->listed.getD e.on false=true:=by
 unfold Region.ready;simp only[QE,XU,KU,XE,Ya];constructor
 .rintro⟨h,d,b⟩
  have c:=Xb h;refine⟨_,c,d,λe g f=>?_⟩;rw[YA,c]at b;simp only[Qo,KP]at b;have:=Jn.1 b e g
  simpa[f] using this
 rintro⟨o,c,d,b⟩
 refine⟨(Xd.1 c).1,d,?_⟩;rw[YA,c];simp only[Qo,KP];refine Jn.2 λe g=>?_
 cases f:Region.binds .any e with
 |false=>rfl
 |true=>simpa using b e g f
def zwS(hlex:Lex P all E Z0 T s md run svs U){Q:LF}(hQ:∀D M O a w,(∀i,i<all.length->D i)->Inv all E Z0 T md D M O a w->Q .normal a w):∀(fuel:Nat) (listed:Array Bool) (M:LT) (O:zh) (a:Act) (w:World),
  listed.size=all.length->listed.toList.count false<=fuel->Inv all E Z0 T md (λi=>listed.getD i false=true) M O a w->wpAny P .any all.toArray Q fuel listed a w:=by
 have t:=hlex.edges
 have hdone:∀(listed:Array Bool),listed.size=all.length->Region.ready .any all.toArray listed=[]->∀i,i<all.length->listed.getD i false=true:=λlisted d u i=>by
  induction i using Nat.strongRecOn with
  |_ i v=>
   intro hi
   cases l:listed.getD i false with
   |true=>rfl
   |false=>
    have g:=Xb hi
    have:i∈Region.ready .any all.toArray listed:=zeU.2 ⟨_,g,by
     have b:i<listed.size:=oM
     simp[Array.getD,b]at l ⊢;exact l,λe z hbind=>by
      have:=t i _ g e z hbind
      exact v e.on this oM⟩
    rw[u]at this;cases this
 intro fuel
 induction fuel with
 |zero=>
  intro listed M O a w d y hI
  have hall:∀i,i<all.length->listed.getD i false=true:=λi hi=>by
   have b:i<listed.size:=oM
   cases l:listed.getD i false with
   |true=>rfl
   |false=>
    have:false∈listed.toList:=by
     simp[Array.getD,b]at l;rw[←l];simp
    have:=Jk.2 this;omega
  refine⟨?_,hQ _ _ _ _ _ hall hI⟩
  cases F:Region.ready .any all.toArray listed with
  |nil=>rfl
  |cons i r=>
   have hi:i∈Region.ready .any all.toArray listed:=by rw[F];exact .head _
   obtain⟨o,g,p,_⟩:=zeU.1 hi;have q:=(Xd.1 g).1;have k:=hall i q;have b:i<listed.size:=oM;simp[Array.getD,b]at p k;rw[p]at k;cases k
 |succ fuel v=>
  intro listed M O a w d y hI;refine⟨λu=>hQ _ _ _ _ _ (hdone listed d u) hI,λj B=>?_⟩;obtain⟨o,g,p,k⟩:=zeU.1 B;have C:=(Xd.1 g).1;have c:j<listed.size:=oM;have f:listed[j]=false:=by simpa[Array.getD,c] using p
  refine hI.step hlex g (by simp[Array.getD,c,f]) k λM' O' x w' hI'=>v _ M' O' x w' (by simpa using d) ?_ ?_
  .have n:false∈listed.toList:=by rw[←f];simp
   have hpos:=Jk.2 n
   have:(listed.setIfInBounds j true).toList.count false=listed.toList.count false-1:=by
    rw[QY,List.count_set (by simpa using c)];simp[f]
   omega
  have:(λi=>(listed.setIfInBounds j true).getD i false=true)=λi=>i=j∨listed.getD i false=true:=by
   funext i
   apply propext
   by_cases e:j=i
   .subst e;simp[Array.getD,c]
   simp only[Ke,KX e];constructor
   .exact .inr
   rintro(h|h)
   .exact absurd h.symm e
   exact h
  rw[this];exact hI'
end
end lex
section
variable{P:Program}{E:Env}{Q:LF}{K:St->Prop}{ops:Array Oper}{Z:St}{O:zh}{a:Act}
def zng{w:World}(c:Rel E Z O a w)(hlex0:∀w,Rel E Z O a w->∃T s md run svs U,Lex P ops.toList E Z T s md run svs U/\K (T ops.toList.length))(hQ:∀Z O a w,K Z->Rel E Z O a w->Q .normal a w):wpAny P .any ops Q ops.size (Array.replicate ops.size false) a { w with drawn:=w.drawn+1 }:=by
 have l:Stp (Own Z.M O) (Own Z.M O) O O w { w with drawn:=w.drawn+1 }:=⟨rfl,rfl,⟨rfl,λ_=>rfl⟩,Xj _,λ_ _ _=>rfl,λ_ h=>.inl h,λ_ _ h=>h⟩
 have b:Rel E Z O a { w with drawn:=w.drawn+1 }:=
  ⟨c.size,c.defers,λt s d=>⟨(c.regs t s d).1,(c.regs t s d).2.stp l⟩,⟨λk m h=>(c.mem.rel k m h).keep l rfl (λ_ _ _ _=>rfl),c.mem.keys,c.mem.apart,c.mem.old,c.mem.kp,c.mem.glS l⟩,c.fresh,c.stp.trans l,c.keep,c.low⟩
 obtain⟨T,s,md,run,svs,U,hlex,hK⟩:=hlex0 _ b;have R:ops.size=ops.toList.length:=by simp
 have main:=zwS (Q:=Q) hlex (λD M O' J w' hD hI=>by
  have C:=hlex.nt (j:=ops.toList.length) (Xj _)
  have u:∀x∈(T ops.toList.length).M,x∈M:=λx S=>by
   obtain⟨k,m⟩:=x;exact zA (hI.keys k _ m (Xj _) (λi hi _=>⟨λ_=>hi,λ_=>hD i hi⟩) (zck (hlex.pw _ (Xj _)) S))
  obtain⟨G,B⟩:=hI.mem.let_go (M1:=(T ops.toList.length).M) u (hlex.pw _ (Xj _))
  .refine hQ (T ops.toList.length) O' J w' hK ⟨hI.size.trans C.1.symm,hI.defers,λt sv d=>?_,B,λk F=>?_,hI.stp.trans G,c.keep,λk v p=>C.2 ▸ c.low k v p⟩
   .obtain⟨L,e⟩:=hI.regs t ops.toList.length sv (Xj _) (λi o hi _=>⟨λ_=>(Xd.1 hi).1,λh=>hD i h⟩) d;exact⟨C.1.symm ▸ L,e.stp G⟩
   cases N:O' k with
   |none=>rfl
   |some v=>
    exfalso
    rcases hI.names k v N with h|⟨i,_,e,W,X⟩
    .have Y:=hlex.nk_mono (i:=0) (j:=ops.toList.length) oM (Xj _);have h6:(T 0).nk=Z.nk:=hlex.start.2.1;omega
    have:=hlex.nk_push e (Xj _);omega)
  ops.size (Array.replicate ops.size false) Z.M O a { w with drawn:=w.drawn+1 } sI sI
  ⟨b.size,b.defers,λi o hi=>by simp[Array.getD]at hi,b.mem,λt j sv y f d=>?_,λk j m y f d=>?_,λk v p=>.inl ?_,b.stp⟩
 .simpa using main
 .have g:∀i o,0<=i->i<j->ops.toList[i]?=some o->o.dst≠some t:=λi o _ e hi l=>by
   have:=(f i o hi l).2 e;simp[Array.getD]at this
  obtain⟨V,z,q⟩:=hlex.look_chain (j0:=0) (Xh _) y g d;obtain⟨I,n,r⟩:=hlex.start.2.2.2.2 t V z;exact⟨(b.regs t I n).1,q _ _ _ _ _ (r _ _ _ _ _ (b.regs t I n).2)⟩
 .have g:∀i,0<=i->i<j->¬ja T md i k:=λi _ e ht=>by
   have:=(f i oM ht).2 e;simp[Array.getD]at this
  rw[hlex.lookM_chain (j0:=0) (Xh _) y g,hlex.start.1]at d;exact d
 by_cases F:k<Z.nk
 .exact F
 rw[b.fresh k oM]at p;cases p
variable{md:Nat->MD}
def Lex0.lex{all:List Oper}{Z0:St}{T:Nat->St}{s:Nat->SV}{run:Nat->Bool}{svs:Nat->LR}(h:Lex0 P all E Z0 0 T s md run svs)(hord:vt all=true):
  Lex P all E Z0 T s md run svs (λj k=>(∃o,all[j]?=some o/\zdw o.op=true)/\k<(T j).nk):=by
 obtain⟨hedges,c⟩:=ztu hord
 have mdok:∀j o,all[j]?=some o->MdOK all j (T j).nk o.op (md j):=λj o l=>by
  rcases h.step j o (Xh _) l with⟨_,v⟩|⟨_,_,f⟩
  .exact v.md rfl
  exact .inr (.inl f)
 have nk_next:∀j,j<all.length->(T (j+1)).nk=zb5 (T j).nk (md j):=λj d=>(h.next j _ (Xh _) (Xb d)).2.1
 have nk_mono:∀i j,i<=j->j<=all.length->(T i).nk<=(T j).nk:=by
  intro i j
  induction j with
  |zero=>
    intro b _;have:i=0:=oM;subst this;exact Xj _
  |succ j G=>
   intro b d
   by_cases e:i=j+1
   .subst e;exact Xj _
   have:=G oM oM;rw[nk_next j oM];exact XB this (zuX _ _)
 have nk_lt:∀i j k,i<j->j<=all.length->ja T md i k->k<(T j).nk:=λi j k b d ht=>by
  have w:=nk_mono (i+1) j oM d;rw[nk_next i oM]at w;have l:=Xb (show i<all.length by omega);unfold ja at ht
  obtain⟨_,⟨D,n⟩,r⟩|f|⟨⟨C,f⟩,_⟩:=mdok i _ l
  .cases g:md i <;> simp only[g]at ht w <;> simp only[zb5]at w
   .omega
   .have:=r _ _ (.inl g);omega
   .exact absurd g (D _)
   .have:=r _ _ (.inr g);omega
   rw[g]at n;cases n
  .rw[f]at ht;exact ht.elim
  rw[f]at ht w;simp only[zb5]at w;have ht:k=(T i).nk:=ht;omega
 have wu:∀op:Op,isW op=true->zdw op=true/\zdP op=true:=λop hW=>by
  cases op <;> first|exact⟨rfl,rfl⟩|(simp[isW,zyV]at hW;done)|exact⟨rfl,by simpa[isW,zdP] using hW⟩
 have fwd:∀i j oi oj k,i<j->all[i]?=some oi->all[j]?=some oj->ja T md i k->zdw oj.op=true->Anc all j i:=λi j oi oj k b hi d ht q=>by
  obtain⟨hW,_⟩|f|⟨⟨C,f⟩,p⟩:=mdok i oi hi
  .exact c i j oi oj b hi d (by unfold zwI;simp[(wu _ hW).2,q])
  .unfold ja at ht;rw[f]at ht;exact ht.elim
  rcases p with p|p
  .exact c i j oi oj b hi d (by unfold zwI;simp[p,q])
  exact zwR p j oj b d q
 refine⟨h.start,λj o l=>h.next j o (Xh _) l,λj o l=>h.dst j o (Xh _) l,λj o l=>h.guard j o (Xh _) l,λj o l=>?_,λj d=>h.pw j (Xh _) d,λj o l=>?_,hedges,
  λi j oi oj b hi d t=>c i j oi oj b hi d ?_,λi j b x k r=>?_⟩
 .rcases h.step j o (Xh _) l with⟨F,v⟩|v
  .refine .inl ⟨F,⟨_,v.ok,λk m r=>?_⟩,v.ev⟩
   split at r
   .rename_i q;exact⟨⟨⟨o,l,q⟩,(zbr r).1⟩,(zbr r).2⟩
   cases r
  exact .inr v
 .obtain⟨_,⟨_,n⟩,_⟩|f|⟨⟨C,f⟩,_⟩:=mdok j o l
  .cases g:md j <;> first|trivial|(rw[g]at n;cases n)
  .rw[f];trivial
  rw[f];trivial
 .unfold zkr at t;unfold zwI;simp only[JP]at t ⊢
  rcases t with(t|t)|t
  .exact .inl (.inl (.inr t))
  .exact .inl (.inr t)
  exact .inr t
 have hi:=Xb (show i<all.length by omega);have d:=Xb x
 have back:ja T md j k->k<(T j).nk->zdw (all[j]).op=true/\isW (all[j]).op=true:=λht r=>by
  obtain⟨hW,_⟩|f|⟨⟨C,f⟩,_⟩:=mdok j _ d
  .exact⟨(wu _ hW).1,hW⟩
  .unfold ja at ht;rw[f]at ht;exact ht.elim
  unfold ja at ht;rw[f]at ht;have ht:k=(T j).nk:=ht;omega
 obtain⟨ht,q|u⟩|⟨⟨⟨oi,z,q⟩,y⟩,u⟩:=r
 .obtain⟨⟨oj,B,q⟩,_⟩:=q;exact fwd i j _ oj k b hi B ht q
 .exact fwd i j _ _ k b hi d ht (back u (nk_lt i j k b oM ht)).1
 have hW:=(back u (Xx y (nk_mono i j oM oM))).2;exact c i j oi _ b z d (by unfold zwI;simp[q,hW])
def zd3{P:Program}{H:LS}(hT:TOK P H){E:Env}{Q:LF}{K:St->Prop}{ops:Array Oper}{Z:St}{O:zh}{a:Act}{w:World}(b:Rel E Z O a w)(hord:vt ops.toList=true)(h:ve P H true ops.toList ops.toList 0 Z K)(hQ:∀Z O a w,K Z->Rel E Z O a w->Q .normal a w):wpAny P .any ops Q ops.size (Array.replicate ops.size false) a { w with drawn:=w.drawn+1 }:=
 zng b (λw b=>by
  obtain⟨T,s,md,run,svs,hlex,hK⟩:=zkG hT ops.toList 0 Z O a w sI (λj=>by simp) b h
  exact⟨T,s,md,run,svs,_,hlex.lex hord,hK⟩) hQ
variable{H:LS}
def ztv(hT:TOK P H)(b:P.follows .mixedOrders=true){id:Nat}{w:World}(c:Rel E Z O a w)(hord:vt ops.toList=true)(h:ve P H true ops.toList ops.toList 0 Z K)(hQ:∀Z O a w,K Z->Rel E Z O a w->Q .normal a w):(Code.region id ops true).wp P Q a w:=
 wp_region_any b (zd3 hT c hord h hQ)
def zwT{all:List Oper}(h:zf0 all=true):(∀(j:Nat) (o:Oper),all[j]?=some o->∀e∈o.after,Region.binds .any e=true->e.on<j)/\
  ∀(i j:Nat) (oi oj:Oper),i<j->all[i]?=some oi->all[j]?=some oj->zkr all oi oj=true->Anc all j i:=by
 unfold zf0 at h;simp only[XE]at h;obtain⟨g,k⟩:=h;refine⟨λj o f e p l=>?_,λi j oi oj c hi d n=>?_⟩
 .have b:j<all.length:=(Xd.1 f).1;have:=XX.1 g j (XU.2 b);simp only[f]at this;have:=XX.1 this e (by simpa using p);simp only[l,QI,QU]at this;exact Xz this
 have b:j<all.length:=(Xd.1 d).1;have:=XX.1 k j (XU.2 b);have:=XX.1 this i (XU.2 c);simp only[hi,d,n,QI,YL]at this;exact zd1 all all.length j i b this
variable{i:Nat}
def ztw{T:Nat->St}{k:Nat}(h:ja T md i k):zfr k (zh0 (T i).nk (md i))=true:=by
 unfold ja at h;have one:∀x:Nat,k=x->∀l,zfr k (x::l)=true:=λx e l=>by subst e;simp[zfr,K4]
 have two:∀x l,zfr k l=true->zfr k (x::l)=true:=λx l e=>by simp only[zfr];split <;> simp_all
 cases g:md i <;> simp only[g]at h
 .exact one _ h _
 .exact one _ h _
 .exact one _ h _
 .rcases h with h|h
  .exact one _ h _
  exact two _ _ (one _ h _)
 have mem:∀{l:LC},k∈l->zfr k l=true:=λ{l} f=>by
  induction l with
  |nil=>cases f
  |cons x r d=>
   cases f with
   |head=>exact one _ rfl _
   |tail _ h=>exact two _ _ (d h)
 have rng:∀n:Nat,(T i).nk<=k->k<(T i).nk+n->k∈zth (T i).nk n:=λn=>by
  induction n with
  |zero=>intro b c;omega
  |succ n d=>
   intro b c
   by_cases e:k=(T i).nk+n
   .subst e;exact .head _
   exact .tail _ (d b oM)
 refine mem (Xt.2 ?_)
 rcases h with h|⟨b,c⟩
 .exact .inl h
 exact .inr (rng _ b c)
def zkJ{e:Ent}{k:Nat}:∀{l:LC},zfr k l=true->(zdx e.u e.nk k=true∨zfr k e.t=true)->zuP e l=true
 |[],h,_=>by cases h
 |x::r,h,b=>by
  simp only[zfr]at h;simp only[zuP]
  split at h
  .rename_i c;have:=Xk c;subst this
   rcases b with b|b
   .simp[b]
   simp only[b];split <;> rfl
  have:=zkJ h b;simp only[this]
  split
  .rfl
  split <;> rfl
def zqO{x:Ent}{k:Nat}:∀{l:LC},zfr k l=true->zdx x.u x.nk k=true->zuQ x l=true
 |[],h,_=>by cases h
 |y::r,h,b=>by
  simp only[zfr]at h;simp only[zuQ]
  split at h
  .rename_i c;have:=Xk c;subst this;simp[b]
  have:=zqO h b;simp only[this]
  split <;> rfl
def zqP{m:Nat}{e:Ent}:∀{r:List Ent},prOK m e r=true->∀(i:Nat) (x:Ent),i<r.length->r[r.length-1-i]?=some x->zqp x e=true->m.testBit i=true
 |[],_,i,x,hi,_,_=>by simp at hi
 |y::r,h,i,x,hi,b,c=>by
  simp only[prOK,XE,JP,Ya]at h;simp only[Xn]at hi b
  by_cases d:i=r.length
  .subst d;simp at b;subst b
   rcases h.1 with h|h
   .exact h
   rw[c]at h;cases h
  have:r.length+1-1-i=(r.length-1-i)+1:=by omega
  rw[this,KW]at b;exact zqP h.2 i x oM b c
def zkK{ms:LC}:∀{A:List Ent},zkq ms A=true->∀(i j:Nat) (x e:Ent),i<j->j<A.length->A[A.length-1-i]?=some x->A[A.length-1-j]?=some e->zqp x e=true->(ms.getD j 0).testBit i=true
 |[],_,i,j,x,e,_,f,_,_,_=>by simp at f
 |y::r,h,i,j,x,e,c,f,d,b,g=>by
  simp only[zkq,XE]at h;simp only[Xn]at f d b;have hi:r.length+1-1-i=(r.length-1-i)+1:=oM;rw[hi,KW]at d
  by_cases k:j=r.length
  .subst k;simp at b;subst b;exact zqP h.1 i x c d g
  have:r.length+1-1-j=(r.length-1-j)+1:=by omega
  rw[this,KW]at b;exact zkK h.2 i j x e c oM d b g
def zic{k:Nat}:∀{l:LC},zmF k l=true->k∈l
 |[],h=>(by cases h)
 |x::r,h=>by
  simp only[zmF]at h
  split at h
  .rename_i b;have:=Xk b;subst this;exact .head _
  exact .tail _ (zic h)
def znh{ks:LC}{Y nn:Nat}:∀{new:LT},ztb ks Y nn new=true->∀k m,(k,m)∈new->k∈ks∨(Y<=k/\k<Y+nn)
 |[],_,k,m,h=>(by cases h)
 |(q,y)::r,c,k,m,h=>by
  simp only[ztb]at c;obtain⟨b,d⟩:=kr c
  cases h with
  |head=>
   simp only[JP,XE]at b
   rcases b with b|b
   .exact .inl (zic b)
   exact .inr ⟨Xz b.1,by simpa using b.2⟩
  |tail _ h=>exact znh d k m h
def zjb{k:Nat}:∀{new:LT},zfU k new=true->∃m,(k,m)∈new
 |[],h=>(by cases h)
 |(q,y)::r,h=>by
  simp only[zfU]at h
  split at h
  .rename_i b;have:=Xk b;subst this;exact⟨y,.head _⟩
  obtain⟨m,c⟩:=zjb h;exact⟨m,.tail _ c⟩
def zjc{new:LT}{Y:Nat}:∀{n:Nat},zfV new Y n=true->∀k,Y<=k->k<Y+n->∃m,(k,m)∈new
 |0,_,k,b,f=>oM
 |n+1,h,k,b,f=>by
  simp only[zfV]at h;obtain⟨c,d⟩:=kr h
  by_cases e:k=Y+n
  .subst e;exact zjb c
  exact zjc d k b oM
def zy5{Y:Nat}{md:MD}{K:Prop}(h:mdD Y md K):K/\zcZ Y md:=by
 unfold mdD at h
 split at h
 .exact⟨(zj h).2,tV⟩
 .exact⟨(zj h).2,tV⟩
 .exact⟨(zj h).2,tV⟩
 .obtain⟨d,e⟩:=zj h;obtain⟨b,c⟩:=kr d;exact⟨e,znh b,zjc c⟩
 refine⟨h,?_⟩;rename_i f
 cases md <;> first|trivial|exact absurd rfl (f _ _ _)
def zqQ{u:Option LC}{c:Nat}{b:LJ}{k:Nat}{m:Mem}(h:lmU u c b k=some m):zdx u c k=true/\b k=some m:=by
 unfold lmU at h
 split at h
 .exact⟨‹_›,h⟩
 cases h
def ztx(hT:TOK P H){o:Oper}{K:Ent->St->Prop}{w:World}(g:Rel E Z O a w)(h:zbV P H o Z K):∃svs s md,K ⟨zqo o.op svs,Z.nk,zh0 Z.nk md⟩ (Z.app o.dst s md)/\zkH P o Z svs s md (λk=>zdx (zqo o.op svs) Z.nk k=true)/\(∀t,o.dst=some t->t<Z.nt)/\zcZ Z.nk md:=by
 unfold zbV at h;replace h:=zfZ h;obtain⟨svs,h,b⟩:=zgM h;have n:=b (a:=a) (λt s _ p=>(g.regs t s p).2);have c:∀k m,lmU (zqo o.op svs) Z.nk (zaZ Z.M Z.nk) k=some m->zW Z.M k=some m:=λk m h=>(zbr (zqQ h).2).2
 obtain⟨s,md,hK,e⟩:=zib hT ⟨E.Keep,Z.M,O,w,_,c,g.mem,n⟩ h;obtain⟨hK,d⟩:=zy5 (zdT (zdS hK));obtain⟨l,hK⟩:=qD hK;exact⟨svs,s,md,hK,⟨⟨_,e,λk m f=>⟨(zqQ f).1,c k m f⟩⟩,b⟩,l,d⟩
def zkH.does{o:Oper}{svs:LR}{s:SV}{md:MD}{U:LI}(h:zkH P o Z svs s md U){w:World}(b:Rel E Z O a w):qM P o a w (qc E.Keep Z.M O w Z.nk s md):=by
 obtain⟨g,e,d⟩:=h.ok;exact e o rfl E.Keep Z.M O a w (λk m c=>(d k m c).2) b.mem (λk c _=>b.fresh k c) (λ_=>b.noKey) (h.ev λt s _ f=>(b.regs t s f).2)
def zwU(hT:TOK P H){all:List Oper}{o:Oper}{r:List Oper}{acc:List Ent}{w:World}(z:Rel E Z O a w)(h:zbl P H all (o::r) i acc Z K):∃Z' run svs s md e,zbl P H all r (i+1) (e::acc) (Z'.app o.dst s md) K/\q9 all Z' o run/\
   (Z'=Z∨∃t C y,kF Z.L t=some C/\(∀S Pm O w v,G S Pm O w C v->G S Pm O w y v)/\Z'=Z.put (some t) y)/\(∀t,o.dst=some t->t<Z.nt)/\
   ((run=true/\zkH P o Z' svs s md (λk=>zdx e.u e.nk k=true)/\e.t=zh0 Z'.nk md)∨(run=false/\s=.val undef/\md=.none))/\zcZ Z'.nk md:=by
 have run1:∀{Z':St},Rel E Z' O a w->zbV P H o Z' (λe Z=>zbl P H all r (i+1) (e::acc) Z K)->Z'.nt=Z.nt->∃svs s md e,zbl P H all r (i+1) (e::acc) (Z'.app o.dst s md) K/\(∀t,o.dst=some t->t<Z.nt)/\
   (zkH P o Z' svs s md (λk=>zdx e.u e.nk k=true)/\e.t=zh0 Z'.nk md)/\zcZ Z'.nk md:=by
  intro Z' n D F;obtain⟨svs,s,md,d,f,g,l⟩:=ztx hT n D;exact⟨svs,s,md,_,d,λt e=>F ▸ g t e,⟨f,rfl⟩,l⟩
 simp only[zbl]at h
 split at h
 .rename_i B;obtain⟨svs,s,md,e,d,f,g,l⟩:=run1 z h rfl;exact⟨Z,true,svs,s,md,e,d,by simp[q9,B],.inl rfl,f,.inl ⟨rfl,g⟩,l⟩
 rename_i j want B
 split at h
 .exact h.elim
 rename_i t ht
 have gv:∀{Z':St} {v:Value},kF Z'.L t=some (.val v)->q9 all Z' o (zuW v want):=λc=>by
  unfold q9;rw[B];exact⟨t,_,ht,c,rfl⟩
 have gi:∀{Z':St} {b:Bool},kF Z'.L t=some (.val (.bool b))->q9 all Z' o (b==want):=λc=>gv c
 have put_look:∀(y:SV),kF (Z.put (some t) y).L t=some y:=λy=>by
  show kF ((t,y)::Z.L) t=some y;rw[zU];simp
 split at h
 .rename_i c
  split at h
  .obtain⟨svs,s,md,e,d,f,g,l⟩:=run1 z h rfl;exact⟨Z,_,svs,s,md,e,d,gi c,.inl rfl,f,.inl ⟨rfl,g⟩,l⟩
  obtain⟨x,h⟩:=qD h;exact⟨Z,_,[],_,_,_,h,gi c,.inl rfl,x,.inr ⟨rfl,rfl,rfl⟩,tV⟩
 .rename_i c
  split at h
  .obtain⟨svs,s,md,e,d,f,g,l⟩:=run1 z h rfl;exact⟨Z,_,svs,s,md,e,d,gi c,.inl rfl,f,.inl ⟨rfl,g⟩,l⟩
  obtain⟨x,h⟩:=qD h;exact⟨Z,_,[],_,_,_,h,gi c,.inl rfl,x,.inr ⟨rfl,rfl,rfl⟩,tV⟩
 .rename_i p ip c
  by_cases q:p
  .have n:=z.refine c (zcY q)
   split at h
   .obtain⟨svs,s,md,e,d,f,g,l⟩:=run1 n (h.yes q) rfl;exact⟨_,_,svs,s,md,e,d,gi (put_look _),.inr ⟨t,_,_,c,zcY q,rfl⟩,f,.inl ⟨rfl,g⟩,l⟩
   obtain⟨x,h⟩:=qD (h.yes q);exact⟨_,_,[],_,_,_,h,gi (put_look _),.inr ⟨t,_,_,c,zcY q,rfl⟩,x,.inr ⟨rfl,rfl,rfl⟩,tV⟩
  have n:=z.refine c (zbs q)
  split at h
  .obtain⟨x,h⟩:=qD (h.no q);exact⟨_,_,[],_,_,_,h,gi (put_look _),.inr ⟨t,_,_,c,zbs q,rfl⟩,x,.inr ⟨rfl,rfl,rfl⟩,tV⟩
  obtain⟨svs,s,md,e,d,f,g,l⟩:=run1 n (h.no q) rfl;exact⟨_,_,svs,s,md,e,d,gi (put_look _),.inr ⟨t,_,_,c,zbs q,rfl⟩,f,.inl ⟨rfl,g⟩,l⟩
 .rename_i c;obtain⟨x,h⟩:=qD h;exact⟨Z,_,[],_,_,_,h,gv c,.inl rfl,x,.inr ⟨rfl,rfl,rfl⟩,tV⟩
 exact h.elim
structure Lex1 (P:Program) (all:List Oper) (E:Env) (Z0:St) (i0:Nat) (T:Nat->St) (s:Nat->SV) (md:Nat->MD) (run:Nat->Bool) (svs:Nat->LR) (ent:Nat->Ent):Prop where
 start:zfv (T i0) Z0
 next:∀(j:Nat) (o:Oper),i0<=j->all[j]?=some o->zfv (T (j+1)) ((T j).app o.dst (s j) (md j))
 dst:∀(j:Nat) (o:Oper),i0<=j->all[j]?=some o->∀t,o.dst=some t->t<Z0.nt
 guard:∀(j:Nat) (o:Oper),i0<=j->all[j]?=some o->q9 all (T j) o (run j)
 step:∀(j:Nat) (o:Oper),i0<=j->all[j]?=some o->(run j=true/\zkH P o (T j) (svs j) (s j) (md j) (λk=>zdx (ent j).u (ent j).nk k=true)/\(ent j).t=zh0 (T j).nk (md j))∨
  (run j=false/\s j=.val undef/\md j=.none)
 pw:∀j:Nat,i0<=j->j<=all.length->(T j).M.Pairwise λa b=>a.1≠b.1
 nodrop:∀(j:Nat) (o:Oper),i0<=j->all[j]?=some o->zcZ (T j).nk (md j)
def zjd{P:Program}{H:LS}(hT:TOK P H){all:List Oper}{E:Env}{K:St->Prop}:∀(l:List Oper) (i:Nat) (acc:List Ent) (Z:St) (O:zh) (a:Act) (w:World),i+l.length=all.length->
  (∀j:Nat,l[j]?=all[i+j]?)->acc.length=i->Rel E Z O a w->zbl P H all l i acc Z K->∃T s md run svs ent A,Lex1 P all E Z i T s md run svs ent/\K (T all.length)/\zkq (zbT all all.length) A=true/\
   A.length=all.length/\(∃B,A=B++acc)/\∀j:Nat,i<=j->j<all.length->A[all.length-1-j]?=some (ent j)
 |[],i,acc,Z,O,a,w,d,N,hacc,z,h=>by
  have hi:i=all.length:=by simpa using d
  subst hi;refine⟨λ_=>Z,λ_=>.junk,λ_=>.none,λ_=>false,λ_=>[],λ_=>zm2,acc,⟨.refl,?_,?_,?_,?_,λ_ _ _=>z.mem.keys,?_⟩,h.go,h.ob,hacc,⟨[],rfl⟩,λj X y=>by omega⟩ <;>
  .intro j o n b;have:=(Xd.1 b).1;omega
 |o::r,i,acc,Z,O,a,w,d,N,hacc,z,h=>by
  have x:all[i]?=some o:=by simpa using (N 0).symm
  obtain⟨Z',run0,svs0,C,u,I,X,hg,href,J,k,R⟩:=zwU hT z h
  have f:Rel E Z' O a w:=by
   rcases href with rfl|⟨t,C,V,y,F,rfl⟩
   .exact z
   exact z.refine y F
  have q:Z'.nt=Z.nt:=by rcases href with rfl|⟨t,C,V,y,F,rfl⟩ <;> rfl
  have href':zfv Z' Z:=by
   rcases href with rfl|⟨t,s2,V,y,F,rfl⟩
   .exact .refl
   refine⟨rfl,rfl,rfl,rfl,λW s' c=>?_⟩;have c:(if t=W then some V else kF Z.L W)=some s':=by rw[←zU];exact c
   by_cases e:t=W
   .subst e;rw[Xe rfl]at c;cases c
    exact⟨s2,y,F⟩
   rw[Xc e]at c;exact⟨s',c,λ_ _ _ _ _ h=>h⟩
  have hnext:∃O1 G D,Rel E (Z'.app o.dst C u) O1 G D:=by
   obtain⟨_,S,_⟩|⟨_,rfl,rfl⟩:=k
   .obtain⟨v,D,Y⟩:=(S.does f).ex;obtain⟨O1,g⟩:=f.app (λt e=>q ▸ J t e) Y;exact⟨O1,_,D,g⟩
   obtain⟨O1,g⟩:=f.app (λt e=>q ▸ J t e) (uX f.mem);exact⟨O1,_,w,g⟩
  obtain⟨O1,G,D,g⟩:=hnext;obtain⟨T,s,md,run,svs,ent,A,hlex,hK,hA,hAl,⟨B,hB⟩,hAe⟩:=zjd hT r (i+1) (I::acc) _ O1 G D (by simp at d;omega) (λj=>by have:=N (j+1);simpa[KH,Q2 1 j] using this) (by simp[hacc]) g X;have hapn:(Z'.app o.dst C u).nt=Z.nt:=q;have hil:i<all.length:=(Xd.1 x).1
  refine⟨λj=>if j=i then Z' else T j,λj=>if j=i then C else s j,λj=>if j=i then u else md j,λj=>if j=i then run0 else run j,λj=>if j=i then svs0 else svs j,λj=>if j=i then I else ent j,A,
   ⟨by simpa using href',?_,?_,?_,?_,?_,?_⟩,by simpa[show all.length≠i by omega] using hK,hA,hAl,⟨B++[I],by simp[hB]⟩,?_⟩
  .intro j oj n b
   by_cases e:j=i
   .subst e;rw[x]at b;cases b
    simpa using hlex.start
   have:=hlex.next j oj oM b
   simpa[e,show j+1≠i by omega] using this
  .intro j oj n b t ht
   by_cases e:j=i
   .subst e;rw[x]at b;cases b
    exact J t ht
   exact hapn ▸ hlex.dst j oj oM b t ht
  .intro j oj n b
   by_cases e:j=i
   .subst e;rw[x]at b;cases b
    simpa using hg
   simpa[e] using hlex.guard j oj oM b
  .intro j oj n b
   by_cases e:j=i
   .subst e;rw[x]at b;cases b
    simpa using k
   simpa[e] using hlex.step j oj oM b
  .intro j n p
   by_cases e:j=i
   .subst e
    simpa using f.mem.keys
   simpa[e] using hlex.pw j oM p
  .intro j oj n b
   by_cases e:j=i
   .subst e
    simpa using R
   simpa[e] using hlex.nodrop j oj oM b
  intro j n p
  by_cases e:j=i
  .subst e
   have hBl:B.length=all.length-1-j:=by
    have:=Xg List.length hB;simp[hAl,hacc]at this;omega
   simp only[if_true];rw[hB,XF oM,hBl];simp
  simpa[e] using hAe j oM p
def zgQ(hT:TOK P H){w:World}(p:Rel E Z O a w)(hord:zf0 ops.toList=true)(h:zbl P H ops.toList ops.toList 0 [] Z K)(hQ:∀Z O a w,K Z->Rel E Z O a w->Q .normal a w):wpAny P .any ops Q ops.size (Array.replicate ops.size false) a { w with drawn:=w.drawn+1 }:=
 zng p (λw p=>by
  obtain⟨T,s,md,run,svs,ent,A,hlex,hK,hA,hAl,_,hAe⟩:=zjd hT ops.toList 0 [] Z O a w sI (λj=>by simp) rfl p h;obtain⟨hedges,hslot⟩:=zwT hord
  refine⟨T,s,md,run,svs,λj k=>zdx (ent j).u (ent j).nk k=true/\run j=true,⟨hlex.start,λj o c=>hlex.next j o (Xh _) c,λj o c=>hlex.dst j o (Xh _) c,λj o c=>hlex.guard j o (Xh _) c,
   λj o c=>?_,λj y=>hlex.pw j (Xh _) y,λj o c=>hlex.nodrop j o (Xh _) c,hedges,hslot,λi j n b k l=>?_⟩,hK⟩
  .rcases hlex.step j o (Xh _) c with⟨d,f,_⟩|d
   .obtain⟨B,g,v⟩:=f.ok;exact .inl ⟨d,⟨B,g,λk m l=>⟨⟨(v k m l).1,d⟩,(v k m l).2⟩⟩,f.ev⟩
   exact .inr d
  have tch:∀q:Nat,q<ops.toList.length->ja T md q k->zfr k (ent q).t=true:=λq z ht=>by
   rcases hlex.step q _ (Xh _) (Xb z) with⟨_,_,g⟩|⟨_,_,g⟩
   .rw[g];exact ztw ht
   unfold ja at ht;rw[g]at ht;exact ht.elim
  have x:zqp (ent i) (ent j)=true:=by
   unfold zqp
   obtain⟨ht,r|e⟩|⟨r,e⟩:=l
   .rw[zkJ (tch i oM ht) (.inl r.1)]
   .rw[zkJ (tch i oM ht) (.inr (tch j b e))]
   rw[zqO (tch j b e) r.1];split <;> rfl
  have d:=hAe i (Xh _) oM;have f:=hAe j (Xh _) b;rw[←hAl]at d f
  exact zd1 _ _ j i b (zkK hA i j _ _ n oM d f x)) hQ
def zqR(hT:TOK P H)(b:P.follows .mixedOrders=true){id:Nat}{w:World}(c:Rel E Z O a w)(hord:zf0 ops.toList=true)(h:zbl P H ops.toList ops.toList 0 [] Z K)(hQ:∀Z O a w,K Z->Rel E Z O a w->Q .normal a w):(Code.region id ops true).wp P Q a w:=
 wp_region_any b (zgQ hT c hord h hQ)
end
end Go.Gs
