/- The operations on memory: what is left to be shown is enough. -/
import Derived.Test.YtdkomlilfdbahaaGreatDoorMAC
set_option maxRecDepth 100000
set_option maxHeartbeats 80000000
set_option linter.all false
namespace Go.Gs
variable{b:Nat}{vs:LA}
def zcq{w:World}{T:TypeId}(h:w.heap[b]?=some (.cells vs.toArray T (0,0)))(j:Nat):w.cell? ⟨b,j,none⟩=vs[j]? :=by
 rw[cell_of_row w b j _ T _ h];simp
variable{sz:Nat}{cap:Nat}
def ze2{w:World}{T:TypeId}{v:Value}{n:Nat}{cells:LA}{len:Nat}(a:v=.slice (some ⟨b,0,none⟩) len cap)(h:w.ownsRow 0 T sz v n cells):len=n/\∃cur:Array Value,w.heap[b]?=some (.cells cur T (0,0))/\n<=cap/\cap<=maxLen/\cur.size=cap*sz/\cur.toList.take (n*sz)=cells:=by
 obtain⟨c,_⟩|⟨g,cap',cur,c,_,d,j,k,l,m⟩:=h.2
 .rw[c]at a;cases a
 rw[c]at a;cases a;exact⟨rfl,cur,d,j,k,l,m⟩
variable{cur:Array Value}
def zbq{w:World}{T:TypeId}{n:Nat}{cells:LA}(h:w.heap[b]?=some (.cells cur T (0,0)))(ht:cur.toList.take n=cells){j:Nat}{u:Value}(a:cells[j]?=some u):w.cell? ⟨b,j,none⟩=some u:=by
 rw[cell_of_row w b j _ T _ h];rw[←ht,XM]at a
 split at a
 .simpa using a
 cases a
variable{S:LI}{Pm:LI}{Z:zh}{i:Nat}
def zjt{w:World}{α:Type _}{enc:α->LR}{xs:List α}{cells:LA}(g:∀x∈xs,(enc x).length=sz)(m:∀(i j:Nat) x (s:SV),xs[i]?=some x->(enc x)[j]?=some s->∃u,cells[i*sz+j]?=some u/\G S Pm Z w s u){x:α}(l:xs[i]?=some x):Gs S Pm Z w (enc x) ((cells.drop (i*sz)).take sz):=by
 have a:=g x (Xf l);refine⟨?_,λj s v n c=>?_⟩
 .have h:(cells.drop (i*sz)).take sz=(List.range sz).map λj=>(cells[i*sz+j]?).getD undef:=by
   apply KA;intro j
   by_cases d:j<sz
   .obtain⟨u,k,_⟩:=m i j x ((enc x)[j]'oM) l (by simp[a,d]);simp[d,k]
   simp[XM,d]
  rw[h];simp[a]
 rw[XM]at c
 split at c
 .obtain⟨u,k,o⟩:=m i j x s l n;simp only[KK]at c;rw[k]at c;cases c
  exact o
 cases c
variable{α:Type}{xs:List α}
def ztS{w:World}{enc:α->LR}{cells:LA}(c:∀x∈xs,(enc x).length=sz)(g:∀(i j:Nat) x (s:SV),xs[i]?=some x->(enc x)[j]?=some s->∃u,cells[i*sz+j]?=some u/\D S w s u){x:α}(k:xs[i]?=some x)
:Gs S Pm Z w (enc x) ((cells.drop (i*sz)).take sz):=
 zjt c (λi j x s a b=>(g i j x s a b).imp λ_ h=>⟨h.1,.d _ _ h.2⟩) k
variable{P:Program}{I:LS}{x:Operand}{lm:LJ}{Y:Nat}{K:LD}
def ztT(hT:TOK P I){t:TypeId}{s:SV}(h:zzq I t s lm K):
  ∃r,K r .none/\yq P (.load t x) [s] lm Y r .none:=by
 unfold zzq at h;replace h:=zE h;obtain⟨i,hi,h⟩:=h;have hTi:=hT t i hi
 have run:∀{o:Oper} (_:o.op=.load t x) {a:Act} {w:World} {b off:Nat} {v:Value},a.eval x=.pointer (some ⟨b,off,none⟩)->(loadVar t ⟨b,off,none⟩).run P w=.ok v w->
   (execOp a.eval o).run P w=.ok (.value v) w:=by
  intro o E a w b off v p y;simp[execOp,E,p,Instr.loadAt,Instr.sureAddr,y]
 split at h
 .rename_i k off
  split at h
  .rename_i T cs C;replace h:=zj h;obtain⟨g,h⟩:=h;have g:=Xw g;obtain⟨r,hK,L⟩:=vB h;refine⟨r,hK,.read λo E Keep M Z a w D V q=>?_⟩;obtain⟨b,vs,G,m,U,_,l⟩:=V.rel k _ (D k _ C);obtain⟨b',hρ',B⟩:=(Gs.head q).loc_inv;rw[G]at hρ';cases hρ'
   have H:Gs (λb=>Keep b∨Own M Z b) (Own M Z) Z w (cs.drop off) (vs.drop off):=Gs.drop off ⟨U,l⟩;obtain⟨v,p,y⟩:=zcp hTi (b:=b) (o:=off) H (λj v O=>by rw[zcq m];simpa using O) (by simp;omega) L;exact⟨v,run E B p,y⟩
  exact h.elim
 .rename_i cs;replace h:=zj h;obtain⟨g,h⟩:=h;have g:=Xw g;obtain⟨r,hK,L⟩:=vB h;refine⟨r,hK,.pure λo E S Pm Z a w q=>?_⟩;obtain⟨b,off,c,B,_,_,W,X⟩:=(Gs.head q).ptr_inv
  have H:Gs S Pm Z w cs ((List.range cs.length).map c):=⟨sI,λj s v p y=>by
   have J:j<cs.length:=(Xd.1 p).1;simp[J]at y;subst y
   exact .d _ _ (X j s p)⟩
  obtain⟨v,p,y⟩:=zcp hTi (b:=b) (o:=off) H (λj v O=>by
   have J:j<cs.length:=by have:=(Xd.1 O).1;simpa using this
   simp[J]at O;subst O
   exact(W j J).1) g L
  exact⟨v,run E B p,y⟩
 .rename_i cs;replace h:=zj h;obtain⟨g,h⟩:=h;have g:=Xw g;obtain⟨r,hK,L⟩:=vB h;refine⟨r,hK,.pure λo E S Pm Z a w q=>?_⟩;obtain⟨b,off,c,B,_,_,W,X⟩:=(Gs.head q).dptr_inv
  have H:Gs S Pm Z w cs ((List.range cs.length).map c):=⟨sI,λj s v p y=>by
   have J:j<cs.length:=(Xd.1 p).1;simp[J]at y;subst y
   exact .d _ _ (X j s p)⟩
  obtain⟨v,p,y⟩:=zcp hTi (b:=b) (o:=off) H (λj v O=>by
   have J:j<cs.length:=by have:=(Xd.1 O).1;simpa using this
   simp[J]at O;subst O
   exact(W j J).1) g L
  exact⟨v,run E B p,y⟩
 .rename_i k sz n off
  split at h
  .rename_i T α enc sz' xs C;replace h:=zj h;obtain⟨A,h⟩:=h;replace h:=zj h;obtain⟨g,h⟩:=h;have A:=Xk A;subst A;have g:=Xw g;obtain⟨h0,p⟩:=h.ob;have Q:n.toNat<xs.length:=oM;have B:=Xb Q;obtain⟨r,hK,L⟩:=vB (h.go _ B);refine⟨r,hK,.read λo E Keep M Z a w D V q=>?_⟩;obtain⟨v,cells,G,F,_,_,z,l⟩:=V.rel k _ (D k _ C);obtain⟨b,len,cap,hρ',R⟩:=(Gs.head q).eloc_inv;rw[G]at hρ';cases hρ'
   obtain⟨_,cur,m,_,_,_,htake⟩:=ze2 rfl F;have H:=Gs.drop off (ztS z l B (Pm:=Own M Z) (Z:=Z));have hl:=z _ (Xf B)
   obtain⟨v,p,y⟩:=zcp hTi (b:=b) (o:=n.toNat*sz+off) H (λj u N=>by
    simp only[KK,XM]at N
    split at N
    .refine zbq m htake ?_;rw[←N];congr 1;omega
    cases N) (by simp;omega) L
   exact⟨v,run E R p,y⟩
  .rename_i T sz' xs C;replace h:=zj h;obtain⟨A,h⟩:=h;replace h:=zj h;obtain⟨g,h⟩:=h;have A:=Xk A;subst A;have g:=Xw g;obtain⟨h0,p⟩:=h.ob;have Q:n.toNat<xs.length:=oM;have B:=Xb Q;obtain⟨r,hK,L⟩:=vB (h.go _ B);refine⟨r,hK,.read λo E Keep M Z a w D V q=>?_⟩;obtain⟨v,cells,G,F,_,_,z,l⟩:=V.rel k _ (D k _ C);obtain⟨b,len,cap,hρ',R⟩:=(Gs.head q).eloc_inv;rw[G]at hρ';cases hρ'
   obtain⟨_,cur,m,_,_,_,htake⟩:=ze2 rfl F;have H:=Gs.drop off (zjt z l B);have hl:=z _ (Xf B)
   obtain⟨v,p,y⟩:=zcp hTi (b:=b) (o:=n.toNat*sz+off) H (λj u N=>by
    simp only[KK,XM]at N
    split at N
    .refine zbq m htake ?_;rw[←N];congr 1;omega
    cases N) (by simp;omega) L
   exact⟨v,run E R p,y⟩
  exact h.elim
 exact h.elim
def Gs.stp{Keep W W':LI}{Z Z':zh}{w w':World}(h:Stp W W' Z Z' w w'){cs:LR}{vs:LA}(c:Gs (λb=>Keep b∨W b) W Z w cs vs):Gs (λb=>Keep b∨W' b) W' Z' w' cs vs:=c.mono' λ_ _ a=>a.stp h
variable{Keep:LI}{M:LT}
def zc4{w:World}(d:zI Keep M Z w)(n:Z Y=none)(hκM:∀m,(Y,m)∉M)(m:Mem)(o:Obj)(v:Value)(p:kU w (w.alloc o))(q:qi v=some w.heap.size)(a:Stp (Own M Z) (Own ((Y,m)::M) (upd Z Y v)) Z (upd Z Y v) w (w.alloc o)->
   jD (λb=>Keep b∨Own ((Y,m)::M) (upd Z Y v) b) (Own ((Y,m)::M) (upd Z Y v)) (upd Z Y v) (w.alloc o) Y m):
  Stp (Own M Z) (Own ((Y,m)::M) (upd Z Y v)) Z (upd Z Y v) w (w.alloc o)/\zI Keep ((Y,m)::M) (upd Z Y v) (w.alloc o):=
 d.grow (λ_ h=>h) d.keys n hκM v m (w.alloc o) rfl rfl p sI (λb c _=>heap_alloc_old w o b c)
  (λk m v b g j l=>heap_alloc_old w o b (d.old b ⟨k,m,v,g,j,l⟩).1)
  (λb c=>by
   rw[q]at c;cases c
   exact⟨.inr (Xj _),sI,λk m r g j l=>by have:=(d.old _ ⟨k,m,r,g,j,l⟩).1;omega⟩) a
def qg.push{Keep:LI}{M:LT}{Z:zh}{w w':World}{Y:Nat}{s:SV}{m:Mem}{v u:Value}(h:Stp (Own M Z) (Own ((Y,m)::M) (upd Z Y u)) Z (upd Z Y u) w w'/\zI Keep ((Y,m)::M) (upd Z Y u) w')(c:G (λb=>Keep b∨Own ((Y,m)::M) (upd Z Y u) b) (Own ((Y,m)::M) (upd Z Y u)) (upd Z Y u) w' s v):qg Keep M Z w Y s (.push m) v w':=
 ⟨upd Z Y u,h.1,h.2,c,λk a=>zgh (by
  rcases a with a|a
  .omega
  simp only[zcc]at a;omega)⟩
variable{cs:LR}
def znv{w:World}(g:zI Keep M Z w)(a:Z Y=none)(hκM:∀m,(Y,m)∉M)(T:TypeId)(c:Gs (λb=>Keep b∨Own M Z b) (Own M Z) Z w cs vs)(d:∀v∈vs,v.oneCell'=true):
  qg Keep M Z w Y (.loc Y 0) (.push (.box T cs)) (.pointer (some ⟨w.heap.size,0,none⟩)) (w.alloc (.cells vs.toArray T)):=
 qg.push (u:=.pointer (some ⟨w.heap.size,0,none⟩)) (zc4 g a hκM _ _ _ (.cells _ _ _) rfl λh=>
  ⟨w.heap.size,vs,kG,heap_alloc_new w _,c.1,d,(c.stp h).2⟩) (.loc _ _ _ kG)
variable{e:TypeId}{svs:LR}
def zqX(hT:TOK P I)(h:qa I e λi=>K (.loc Y 0) (.push (.box e (vals i.zero)))):∃r d,K r d/\yq P (.alloc e) svs lm Y r d:=by
 replace h:=zE h;obtain⟨i,hi,h⟩:=h;obtain⟨f,g,q,s,z,j,k,t,u,l⟩:=(hT e i hi).inf;refine⟨_,_,h,λo n Keep M Z a w _ m c hκM _=>?_⟩;replace c:=c _ (Xj _) (XZ _);replace hκM:=hκM rfl;refine qB.value (v:=.pointer (some ⟨w.heap.size,0,none⟩)) (w':=w.alloc (.cells i.zero.toArray e)) ?_ (znv m c hκM e (Gs.vals _) l);have p:z.cells=i.zero.toArray:=by rw[←k]
 simp[execOp,n,Instr.alloc,zeroValue,typeInfo,g,j,newVar,newRow,p]
def zxn{s:SV}(h:zS (yc (kT s)) (K (.loc Y 0) (.push (.box e (kT s))))):∃r g,K r g/\yq P (.box e x) [s] lm Y r g:=by
 replace h:=zj h;obtain⟨l,h⟩:=h;refine⟨_,_,h,λo n Keep M Z a w _ m c hκM d=>?_⟩;replace c:=c _ (Xj _) (XZ _);replace hκM:=hκM rfl;obtain⟨j,k⟩:=v8 l (Gs.head d);refine qB.value (v:=.pointer (some ⟨w.heap.size,0,none⟩)) (w':=w.alloc (.cells (a.eval x).cells e)) ?_ (by simpa using znv m c hκM e j k);simp[execOp,n,Instr.box,newVar,newRow]
variable{off:Nat}
def vC{t:TypeId}{i:TI}(hT:zjX P t i){w:World}{T:TypeId}(a:w.heap[b]?=some (.cells cur T (0,0))){v:Value}(c:v.cells.size=i.sz)(g:off+i.sz<=cur.size)(d:∀u∈v.cells.toList,u.oneCell'=true):
  (storeVar t ⟨b,off,none⟩ v).run P w=.ok () (w.setRow b (cur.toList.take off++v.cells.toList++cur.toList.drop (off+i.sz)).toArray):=by
 have:=run_storeCells_at P b off T v.cells.toList 0 cur w a (by simp[c];omega) d;simp only[XX,Qy,c]at this;simp[storeVar,hT.size,c,this]
def qg.set{Keep:LI}{M:LT}{Z:zh}{w w':World}{Y k:Nat}{s:SV}{m:Mem}{v:Value}(h:Stp (Own M Z) (Own (qL M k m) Z) Z Z w w'/\zI Keep (qL M k m) Z w')(a:G (λb=>Keep b∨Own (qL M k m) Z b) (Own (qL M k m) Z) Z w' s v):qg Keep M Z w Y s (.set k m) v w':=
 ⟨Z,h.1,h.2,a,λ_ _=>rfl⟩
def yT(h:yf.flats cs=true):∀(j:Nat) (s:SV),cs[j]?=some s->yf s=true:=by
 induction cs with
 |nil=>intro j s a;simp at a
 |cons c cs g=>
  intro j s a;simp only[yf.flats]at h
  split at h
  .rename_i d
   cases j with
   |zero=>simp at a;subst a;exact d
   |succ j=>exact g h j s (by simpa using a)
  cases h
def uY{w:World}{s:SV}(c:yf s=true){v:Value}(m:G S Pm Z w s v):D S w s v:=by
 induction m with
 |d _ _ h=>exact h
 |agg cs vs n h g=>
  have a:yf.flats cs=true:=c;exact .agg cs vs n λj s v k l=>g j s v k l (yT a j s k)
 |ifc t s v h g=>
  have a:yf s=true:=c;exact .ifc t s v (g a)
 |_=>simp[yf]at c
def zDz(h:yf.flats cs=true){w:World}(d:Gs S Pm Z w cs vs):
  ∀(j:Nat) (s:SV) (v:Value),cs[j]?=some s->vs[j]?=some v->D S w s v:=λj s v a c=>uY (yT h j s a) (d.2 j s v a c)
def zju(cur new:LA)(o N:Nat)(h:o+new.length<=N)(hN:N<=cur.length):
  (cur.take o++new++cur.drop (o+new.length)).take N=(cur.take N).take o++new++(cur.take N).drop (o+new.length):=by
 have a:(cur.take o++new).length=o+new.length:=by simp;omega
 rw[List.take_append,Xi oM,a,YN,Qp oM,List.drop_take]
def zio{R R':SV->Value->Prop}{α:Type _}{enc:α->LR}{sz off n:Nat}{xs:List α}{x x':α}{cells new:LA}{cs:LR}(hRR:∀s u,R s u->R' s u)(v:xs[n]?=some x)(d:∀y∈xs,(enc y).length=sz)(J:off+new.length<=sz)(m:cs.length=new.length)(E:enc x'=vw (enc x) off cs)(r:cells.length=xs.length*sz)(c:∀(i j:Nat) y (s:SV),xs[i]?=some y->(enc y)[j]?=some s->∃u,cells[i*sz+j]?=some u/\R s u)(H:∀(j:Nat) (s:SV) (u:Value),cs[j]?=some s->new[j]?=some u->R s u):
  (∀z∈xs.set n x',(enc z).length=sz)/\∀(i j:Nat) y (s:SV),(xs.set n x')[i]?=some y->(enc y)[j]?=some s->
   ∃u,(cells.take (n*sz+off)++new++cells.drop (n*sz+off+new.length))[i*sz+j]?=some u/\R' s u:=by
 have F:=d _ (Xf v);have t:=(Xd.1 v).1
 have hmul:n*sz+sz<=xs.length*sz:=by
  have:=Xy sz (X1 t);rw[Ka]at this;exact this
 have o:(enc x').length=sz:=by rw[E];unfold vw;simp only[Xr,Xp,KG,F,m];omega
 refine⟨λz L=>(List.mem_or_eq_of_mem_set L).elim (d z) λe=>e ▸ o,λk j y s g a=>?_⟩;have D:(cells.take (n*sz+off)).length=n*sz+off:=by simp[r];omega
 simp only[X9,Xr,D,XM,KK]
 by_cases l:n=k
 .subst l;simp only[KB,t,if_true,JC]at g;subst g;have C:=(Xd.1 a).1;rw[o]at C;rw[E]at a;unfold vw at a;simp only[X9,Xr,Xp,F,m,XM,KK,show min off sz=off by omega]at a
  by_cases p:j<off
  .simp only[show j<off+new.length by omega,p,if_true]at a;simp only[show n*sz+j<n*sz+off+new.length by omega,show n*sz+j<n*sz+off by omega,if_true];exact(c _ j _ s v a).imp λu h=>⟨h.1,hRR _ _ h.2⟩
  by_cases q:j<off+new.length
  .simp only[q,p,if_true,if_false]at a;simp only[show n*sz+j<n*sz+off+new.length by omega,show¬(n*sz+j<n*sz+off) by omega,if_true,if_false,show n*sz+j-(n*sz+off)=j-off by omega];have hlt':j-off<new.length:=oM;exact⟨new[j-off],Xb hlt',hRR _ _ (H (j-off) s _ a (Xb hlt'))⟩
  simp only[q,if_false,show off+new.length+(j-(off+new.length))=j by omega]at a;simp only[show¬(n*sz+j<n*sz+off+new.length) by omega,if_false,show n*sz+off+new.length+(n*sz+j-(n*sz+off+new.length))=n*sz+j by omega];exact(c _ j _ s v a).imp λu h=>⟨h.1,hRR _ _ h.2⟩
 simp only[KB,l,if_false]at g;obtain⟨u,G,A⟩:=c k j y s g a;refine⟨u,?_,hRR _ _ A⟩;have C:=(Xd.1 a).1;rw[d y (Xf g)]at C
 rcases Kf k n with hlt2|B
 .have w:=Xy sz (X1 hlt2);rw[Ka]at w;simp only[show k*sz+j<n*sz+off+new.length by omega,show k*sz+j<n*sz+off by omega,if_true];exact G
 have w:=Xy sz (X1 (Nat.lt_of_le_of_ne B l));rw[Ka]at w;simp only[show¬(k*sz+j<n*sz+off+new.length) by omega,if_false,show n*sz+off+new.length+(k*sz+j-(n*sz+off+new.length))=k*sz+j by omega];exact G
variable{new:LA}
def zpg{w':World}{T:TypeId}{N N' o:Nat}{cells:LA}{v:Value}(k:v=.slice (some ⟨b,0,none⟩) N cap)(e:N'=N)(l:w'.heap[b]?=some (.cells (cur.toList.take o++new++cur.toList.drop (o+new.length)).toArray T (0,0)))(d:N<=cap)(j:cap<=maxLen)(c:cur.size=cap*sz)(ht:cur.toList.take (N*sz)=cells)(h:o+new.length<=N*sz):w'.ownsRow 0 T sz v N' (cells.take o++new++cells.drop (o+new.length)):=by
 have a:N*sz<=cur.toList.length:=by simp[c];exact Xy _ d
 have g:cells.length=N*sz:=by rw[←ht,Xp];omega
 subst e;refine⟨?_,.inr ⟨b,cap,_,k,Xh _,l,d,j,?_,?_⟩⟩
 .simp only[Xr,Xp,KG,g];omega
 .simp only[KY,Xr,Xp,KG,Qy,c];simp at a;omega
 rw[←ht];exact zju cur.toList new o (N'*sz) h a
def zj8{cells:LA}(o e:Nat)(h:∀u∈cells,u.oneCell'=true)(k:∀u∈new,u.oneCell'=true):∀u∈cells.take o++new++cells.drop e,u.oneCell'=true:=λu a=>by
 simp only[Xu]at a
 rcases a with(a|a)|a
 .exact h u (XP a)
 .exact k u a
 exact h u (K5 a)
def zqY(hT:TOK P I){t:TypeId}{y:Operand}{s v:SV}(h:ztI I t s v lm K):
  ∃r md,K r md/\yq P (.store t x y) [s,v] lm Y r md:=by
 unfold ztI at h;replace h:=zE h;obtain⟨i,hi,h⟩:=h;have hTi:=hT t i hi;replace h:=zj h;obtain⟨L,h⟩:=h;replace h:=zj h;obtain⟨B,h⟩:=h;have B:=Xk B
 split at h
 .rename_i k off
  split at h
  .rename_i T cs W;replace h:=zj h;obtain⟨F,h⟩:=h;have F:=Xw F;refine⟨_,_,h,λo ho Keep M Z a w R hm _ _ E=>?_⟩;have p:=zu (R k _ W);obtain⟨b,vs,A,c,hl,h1,l⟩:=hm.rel k _ p;obtain⟨b',hρ',J⟩:=(Gs.head E).loc_inv;rw[A]at hρ';cases hρ'
   obtain⟨hg,z⟩:=v8 L (Gs.head (Gs.tail E));have g:(a.eval y).cells.toList.length=i.sz:=by rw[hg.1,B]
   have H:=vC hTi c (v:=a.eval y) (off:=off) (by simpa using g) (by simp;omega) z;refine qB.skip (w':=_) (by simp[execOp,ho,J,Instr.storeAt,Instr.sureAddr,H];rfl) ?_;have hsp:=zqW off (⟨hl,l⟩:Gs (λb=>Keep b∨Own M Z b) (Own M Z) Z w cs vs) hg;rw[g]at hsp;refine qg.set (hm.write _ p A rfl _ λhs=>?_) (.d _ _ (.val _));exact⟨b,_,A,by simpa using setRow_heap w b _ _ T _ c,(hsp.stp hs).1,zj8 _ _ h1 z,(hsp.stp hs).2⟩
  exact h.elim
 .rename_i k sz n off
  split at h
  .rename_i T α enc sz' xs W;replace h:=zj h;obtain⟨U,h⟩:=h;replace h:=zj h;obtain⟨F,h⟩:=h;have U:=Xk U;subst U;have F:=Xw F
   split at h
   rotate_left
   .obtain⟨h0,h1⟩:=h.ob;have hlt0:n.toNat<xs.length:=oM;have hx0:=Xb hlt0;replace h:=h.go _ hx0;obtain⟨zs,hzs⟩:∃zs,zs=xs.map enc:=⟨_,rfl⟩;have hzl:zs.length=xs.length:=by rw[hzs,Xv]
    have O:n.toNat<zs.length:=oM;have J:=Xb O;have hxe:zs[n.toNat]=enc xs[n.toNat]:=by subst hzs;simp
    rw[←hzs,←hxe]at h;obtain⟨x',V⟩:∃x',x'=vw (zs[n.toNat]) off (kT v):=⟨_,rfl⟩;rw[←V]at h;refine⟨_,_,h,λo ho Keep M Z a w R hm _ _ E=>?_⟩;have p:=zu (R k _ W);obtain⟨v0,cells,A,C,X,hone0,hesz0,hcells0⟩:=hm.rel k _ p;rw[←hzl]at C X
    have D:∀x∈zs,x.length=sz:=λx J=>by
     rw[hzs]at J;obtain⟨y,hy,rfl⟩:=XK.1 J;exact hesz0 y hy
    have l:∀(i j:Nat) (x:LR) (s:SV),zs[i]?=some x->x[j]?=some s->∃u,cells[i*sz+j]?=some u/\G (λb=>Keep b∨Own M Z b) (Own M Z) Z w s u:=λi j x s J hs=>by
     rw[hzs,XD]at J
     cases hy:xs[i]? with
     |none=>simp[hy]at J
     |some y=>
      simp[hy]at J;subst J;obtain⟨u,hu,hd⟩:=hcells0 i j y s hy hs;exact⟨u,hu,.d _ _ hd⟩
    obtain⟨b,len,cap,hρ',hxv⟩:=(Gs.head E).eloc_inv;rw[A]at hρ';cases hρ'
    obtain⟨hlen',cur,c,Q,hcm,N,htake⟩:=ze2 rfl C;obtain⟨hg,z⟩:=v8 L (Gs.head (Gs.tail E));have g:(a.eval y).cells.toList.length=i.sz:=by rw[hg.1,B]
    have hl:=D _ (Xf J)
    have hmul:n.toNat*sz+sz<=zs.length*sz:=by
     have:=Xy sz (X1 O);rw[Ka]at this;exact this
    have m:zs.length*sz<=cur.toList.length:=by simp[N];exact Xy _ Q
    have H:=vC hTi c (v:=a.eval y) (off:=n.toNat*sz+off) (by simpa using g) (by simp at m;omega) z;refine qB.skip (w':=_) (by simp[execOp,ho,hxv,Instr.storeAt,Instr.sureAddr,H];rfl) ?_;have hd:=hg.2;refine qg.set (hm.write _ p A rfl _ λhs=>?_) (.d _ _ (.val _));have hp:=zio (n:=n.toNat) (off:=off) (x':=x') (λs u q=>q.stp hs) J D (by rw[g];exact F) (by rw[g];exact B) V C.1 l hd
    exact⟨_,_,A,zpg (by rw[←hlen']) (by rw[XO]) (by rw[g];simpa using setRow_heap w b _ _ T _ c) Q hcm N htake (by rw[g];omega),by simpa using X,zj8 _ _ hone0 z,hp.1,hp.2⟩
   rename_i hflat;obtain⟨h0,h1⟩:=h.ob;have O:n.toNat<xs.length:=oM;have J:=Xb O;obtain⟨x',V,h⟩:=h.go _ J;refine⟨_,_,h,λo ho Keep M Z a w R hm _ _ E=>?_⟩;have p:=zu (R k _ W);obtain⟨v0,cells,A,C,X,hone0,D,l⟩:=hm.rel k _ p;obtain⟨b,len,cap,hρ',hxv⟩:=(Gs.head E).eloc_inv;rw[A]at hρ';cases hρ'
   obtain⟨hlen',cur,c,Q,hcm,N,htake⟩:=ze2 rfl C;obtain⟨hg,z⟩:=v8 L (Gs.head (Gs.tail E));have g:(a.eval y).cells.toList.length=i.sz:=by rw[hg.1,B]
   have hl:=D _ (Xf J)
   have hmul:n.toNat*sz+sz<=xs.length*sz:=by
    have:=Xy sz (X1 O);rw[Ka]at this;exact this
   have m:xs.length*sz<=cur.toList.length:=by simp[N];exact Xy _ Q
   have H:=vC hTi c (v:=a.eval y) (off:=n.toNat*sz+off) (by simpa using g) (by simp at m;omega) z;refine qB.skip (w':=_) (by simp[execOp,ho,hxv,Instr.storeAt,Instr.sureAddr,H];rfl) ?_;have hd:=zDz hflat hg;refine qg.set (hm.write _ p A rfl _ λhs=>?_) (.d _ _ (.val _));have hp:=zio (n:=n.toNat) (off:=off) (x':=x') (λs u q=>q.stp hs) J D (by rw[g];exact F) (by rw[g];exact B) V C.1 l hd
   exact⟨_,_,A,zpg (by rw[←hlen']) (by rw[XO]) (by rw[g];simpa using setRow_heap w b _ _ T _ c) Q hcm N htake (by rw[g];omega),by simpa using X,zj8 _ _ hone0 z,hp.1,hp.2⟩
  .rename_i T sz' xs W;replace h:=zj h;obtain⟨U,h⟩:=h;replace h:=zj h;obtain⟨F,h⟩:=h;have U:=Xk U;subst U;have F:=Xw F;obtain⟨h0,h1⟩:=h.ob;have O:n.toNat<xs.length:=oM;have J:=Xb O;replace h:=h.go _ J;obtain⟨x',V⟩:∃x',x'=vw (xs[n.toNat]) off (kT v):=⟨_,rfl⟩;rw[←V]at h;refine⟨_,_,h,λo ho Keep M Z a w R hm _ _ E=>?_⟩;have p:=zu (R k _ W);obtain⟨v0,cells,A,C,X,hone0,D,l⟩:=hm.rel k _ p
   obtain⟨b,len,cap,hρ',hxv⟩:=(Gs.head E).eloc_inv;rw[A]at hρ';cases hρ'
   obtain⟨hlen',cur,c,Q,hcm,N,htake⟩:=ze2 rfl C;obtain⟨hg,z⟩:=v8 L (Gs.head (Gs.tail E));have g:(a.eval y).cells.toList.length=i.sz:=by rw[hg.1,B]
   have hl:=D _ (Xf J)
   have hmul:n.toNat*sz+sz<=xs.length*sz:=by
    have:=Xy sz (X1 O);rw[Ka]at this;exact this
   have m:xs.length*sz<=cur.toList.length:=by simp[N];exact Xy _ Q
   have H:=vC hTi c (v:=a.eval y) (off:=n.toNat*sz+off) (by simpa using g) (by simp at m;omega) z;refine qB.skip (w':=_) (by simp[execOp,ho,hxv,Instr.storeAt,Instr.sureAddr,H];rfl) ?_;have hd:=hg.2;refine qg.set (hm.write _ p A rfl _ λhs=>?_) (.d _ _ (.val _));have hp:=zio (n:=n.toNat) (off:=off) (x':=x') (λs u q=>q.stp hs) J D (by rw[g];exact F) (by rw[g];exact B) V C.1 l hd
   exact⟨_,_,A,zpg (by rw[←hlen']) (by rw[XO]) (by rw[g];simpa using setRow_heap w b _ _ T _ c) Q hcm N htake (by rw[g];omega),by simpa using X,zj8 _ _ hone0 z,hp.1,hp.2⟩
  exact h.elim
 exact h.elim
def zvn{l:LM}{n:Nat}:zqK l n=l[n]? :=by
 induction l generalizing n with
 |nil=>rfl
 |cons x r a=>cases n with
  |zero=>rfl
  |succ n=>simp[zqK,a]
variable{f:Nat}
def zqZ{t:TypeId}{fs:LM}(h:zgg P t (.struct fs)){ft:TypeId}(a:zqK fs f=some (off,ft)):
  ∃(F:Array Field) (fl:Field),P.underlying t=some (.struct F)/\F[f]?=some fl/\fl.offset=off/\fl.type=ft:=by
 obtain⟨F,hF,d,_⟩:=h;rw[zvn,←d,XD]at a
 cases c:F.toList[f]? with
 |none=>simp[c]at a
 |some fl=>
  simp only[c,Qq,JC,KN]at a;exact⟨F,fl,hF,by simpa using c,a.1,a.2⟩
def zjY(hT:TOK P I){t:TypeId}{s:SV}(h:zgb I t f s K):∃r,K r .none/\yq P (.fieldAddr t x f) [s] lm Y r .none:=by
 unfold zgb at h;replace h:=zE h;obtain⟨i,hi,h⟩:=h;have D:=(hT t i hi).kind
 split at h
 .rename_i fs y;rw[y]at D
  split at h
  .rename_i off ft E;replace h:=zE h;obtain⟨j,n,h⟩:=h;replace h:=zj h;obtain⟨C,h⟩:=h;obtain⟨F,fl,hF,v,hoff,z⟩:=zqZ D E;have B:∀w,(sizeOf fl.type).run P w=.ok j.sz w:=λw=>by rw[z];exact(hT ft j n).size w
   have C:¬j.sz=0:=by
    have:=Xw C;omega
   have run:∀{o:Oper} (_:o.op=.fieldAddr t x f) {a:Act} {w:World} {b o':Nat},a.eval x=.pointer (some ⟨b,o',none⟩)->
     (execOp a.eval o).run P w=.ok (.value (.pointer (some ⟨b,o'+off,none⟩))) w:=by
    intro o k a w b o' l;simp[execOp,k,l,Instr.fieldAt,Instr.sureAddr,run_underlying hF,v,fieldPlace,B,C,yg,hoff]
   split at h
   .exact⟨_,h,.pure λo k S Pm Z a w g=>by
     obtain⟨b,m,l⟩:=(Gs.head g).loc_inv
     exact⟨_,run k l,.loc _ _ b m⟩⟩
   .refine⟨_,h,.pure λo k S Pm Z a w g=>?_⟩;obtain⟨b,o',c,l,p,hP,q,u⟩:=(Gs.head g).ptr_inv;refine⟨_,run k l,.ptr _ b (o'+off) (λj=>c (off+j)) p hP (λj n=>?_) (λj s A=>u _ s (by simpa using A))⟩;have:=q (off+j) (by simp at n;omega)
    rwa [←KL]at this
   .refine⟨_,h,.pure λo k S Pm Z a w g=>?_⟩;obtain⟨b,o',c,l,p,hP,q,u⟩:=(Gs.head g).dptr_inv;refine⟨_,run k l,.d _ _ (.dptr _ b (o'+off) (λj=>c (off+j)) p hP (λj n=>?_) (λj s A=>u _ s (by simpa using A)))⟩;have:=q (off+j) (by simp at n;omega)
    rwa [←KL]at this
   .exact⟨_,h,.pure λo k S Pm Z a w g=>by
     obtain⟨b,len,cap,m,l⟩:=(Gs.head g).eloc_inv;refine⟨_,run k l,?_⟩;rw[KL]
     exact .eloc _ _ _ _ b len cap m⟩
   exact h.elim
  exact h.elim
 exact h.elim
def zq0{t:TypeId}{i:TI}(hT:zjX P t i){w:World}(d:Gs S Pm Z w cs vs){s:SV}(k:(i.kind.agg=true/\s=.agg ((cs.drop off).take i.sz))∨(i.kind.agg=false/\∃r,cs.drop off=s::r)):
  ∃v,(part t vs.toArray off).run P w=.ok v w/\G S Pm Z w s v:=by
 unfold part;rw[Sem.run_bind,hT.agg w,Result.andThen_ok]
 obtain⟨c,rfl⟩|⟨c,r,j⟩:=k
 .have a:=(d.drop off).take i.sz;exact⟨.agg ((vs.drop off).take i.sz).toArray,by simp[c,hT.size],.agg _ _ a.1 a.2⟩
 have a:=d.drop off;rw[j]at a;obtain⟨v,m,l,g,_⟩:=a.cons_inv
 have h:vs[off]?=some v:=by
  have:(vs.drop off)[0]?=some v:=by rw[l];rfl
  simpa using this
 exact⟨v,by simp[c,h],g⟩
def zq1(hT:TOK P I){t:TypeId}{s:SV}(h:qa I t λi=>(match i.kind,s with
  |.struct fs,.agg cs=>(match zqK fs f with
   |some (off,ft)=>qa I ft λj=>zS (Nat.ble (off+j.sz) cs.length) (mkV j.kind.agg j.sz (cs.drop off) λs=>K s .none)
   |none=>False)
  |_,_=>False)):∃r,K r .none/\yq P (.field t x f) [s] lm Y r .none:=by
 replace h:=zE h;obtain⟨i,hi,h⟩:=h;have m:=(hT t i hi).kind
 split at h
 .rename_i fs cs d;rw[d]at m
  split at h
  .rename_i off ft u;replace h:=zE h;obtain⟨j,q,h⟩:=h;replace h:=(zj h).2;replace h:=vB h;obtain⟨r,hK,h⟩:=h;obtain⟨F,fl,hF,c,hoff,g⟩:=zqZ m u;refine⟨r,hK,.pure λo y S Pm Z a w k=>?_⟩;obtain⟨vs,z,l⟩:=(Gs.head k).agg_inv;obtain⟨v,n,p⟩:=zq0 (hT ft j q) l h;exact⟨v,by simp[execOp,y,z,Instr.field,run_underlying hF,c,asAgg,hoff,g,n],p⟩
  exact h.elim
 exact h.elim
def zq2(hT:TOK P I){t:TypeId}{y:Operand}{s n:SV}(h:ztK I t s n K):∃r,K r .none/\yq P (.index t x y) [s,n] lm Y r .none:=by
 unfold ztK at h;replace h:=zE h;obtain⟨i,hi,h⟩:=h;have p:=(hT t i hi).kind
 split at h
 .rename_i len e cs k n c;rw[c]at p;replace h:=zE h;obtain⟨j,D,h⟩:=h
  split at h
  .rename_i m;replace h:=zj h;obtain⟨l,h⟩:=h;replace h:=(zj h).2;replace h:=vB h;obtain⟨r,hK,h⟩:=h;have l:m<len:=Xw l;refine⟨r,hK,.pure λo q S Pm Z a w g=>?_⟩;obtain⟨vs,z,u⟩:=(Gs.head g).agg_inv;have A:=(Gs.head (Gs.tail g)).val_inv;obtain⟨v,B,F⟩:=zq0 (hT e j D) u h;exact⟨v,by simp[execOp,q,z,A,Instr.index,asIntOf,run_underlying p,l,(hT e j D).size,B],F⟩
  exact h.elim
 .rename_i s k n c;rw[c]at p;obtain⟨⟨E,B⟩,h⟩:=h;have C:s[n.toNat]?=some (s[n.toNat]'oM):=getElem?_pos s n.toNat oM;refine⟨_,h _ C,.pure λo q S Pm Z a w g=>?_⟩;have z:=g.head.val_inv;have A:=g.tail.head.val_inv;have p:P.underlying t=some .string:=p;refine⟨_,?_,.d _ _ (.val _)⟩;simp only[execOp,q,z,A,Instr.index,asIntOf,Sem.run_bind,Sem.run_pure,Result.andThen_ok,run_underlying p,E,if_true,C]
 exact h.elim
def zjZ(hT:TOK P I){t:TypeId}{y:Operand}{s n:SV}(h:zgc I t s n lm K):∃r,K r .none/\yq P (.indexAddr t x y) [s,n] lm Y r .none:=by
 unfold zgc at h;replace h:=zE h;obtain⟨i,hi,h⟩:=h;have X:=(hT t i hi).kind
 split at h
 .rename_i k n
  split at h
  .rename_i e C;rw[C]at X;replace h:=zE h;obtain⟨j,hj,h⟩:=h;have O:=(hT e j hj).size
   have run:∀{o:Oper} (_:o.op=.indexAddr t x y) {a:Act} {w:World} {b off len cap:Nat},a.eval x=.slice (some ⟨b,off,none⟩) len cap->a.eval y=.int k n->0<=n->n<len->
     (execOp a.eval o).run P w=.ok (.value (.pointer (some ⟨b,off+n.toNat*j.sz,none⟩))) w:=by
    intro o z a w b off len cap B G L H;simp[execOp,z,B,G,Instr.indexAt,asIntOf,run_underlying X,L,H,O,yg]
   split at h
   .rename_i α enc xs;obtain⟨L,H⟩:=h.ob;have D:n.toNat<xs.length:=oM;have B:=Xb D;have h:=h.go _ B;replace h:=zj h;obtain⟨hl,h⟩:=h;have hl:=Xk hl;refine⟨_,h,.read λo z Keep M Z a w _ _ p=>?_⟩;have G:=(Gs.head (Gs.tail p)).val_inv
    rcases(Gs.head p).sl_inv.sl_inv with⟨rfl,_⟩|⟨sz,b,off,cap,c,F,Q,hS,_,_,V,R,U⟩
    .simp at D
    have A:sz=j.sz:=by rw[←hl];exact(V _ (Xf B)).symm
    subst A;refine⟨_,run z F G L H,?_⟩;refine .ptr _ b _ (λj=>c n.toNat j) Q ?_ (λq hq=>?_) (λq s A=>U _ q _ s B A)
    .exact λz=>hS (.inr z)
    have:=R n.toNat q D oM;exact this
   .rename_i W
    split at h
    .rename_i T α enc sz xs N;replace h:=zj h;obtain⟨A,h⟩:=h;have A:=Xk A;subst A;obtain⟨L,H⟩:=h.ob;refine⟨_,h.go,.read λo z Keep M Z a w J hm p=>?_⟩;have G:=(Gs.head (Gs.tail p)).val_inv;obtain⟨hρ',_⟩:=(Gs.head p).own_inv;obtain⟨v,cells,u,E,_⟩:=hm.rel W _ (J W _ N);have F:a.eval x=v:=by rw[u]at hρ';exact(Xl hρ').symm
     obtain⟨_,h3⟩|⟨g,cap,cur,rfl,_⟩:=E.2
     .omega
     refine⟨_,run z F G L H,?_⟩;rw[show 0+n.toNat*j.sz=n.toNat*j.sz+0 by omega];exact .eloc _ _ _ _ g _ _ u
    .rename_i T sz xs N;replace h:=zj h;obtain⟨A,h⟩:=h;have A:=Xk A;subst A;obtain⟨L,H⟩:=h.ob;refine⟨_,h.go,.read λo z Keep M Z a w J hm p=>?_⟩;have G:=(Gs.head (Gs.tail p)).val_inv;obtain⟨hρ',_⟩:=(Gs.head p).own_inv;obtain⟨v,cells,u,E,_⟩:=hm.rel W _ (J W _ N);have F:a.eval x=v:=by rw[u]at hρ';exact(Xl hρ').symm
     obtain⟨_,h3⟩|⟨g,cap,cur,rfl,_⟩:=E.2
     .omega
     refine⟨_,run z F G L H,?_⟩;rw[show 0+n.toNat*j.sz=n.toNat*j.sz+0 by omega];exact .eloc _ _ _ _ g _ _ u
    exact h.elim
   .rename_i W sz lo l;replace h:=zj h;obtain⟨A,h⟩:=h;have A:=Xk A;subst A;obtain⟨L,H,h2⟩:=h.ob;refine⟨_,h.go,.read λo z Keep M Z a w J hm p=>?_⟩;have G:=(Gs.head (Gs.tail p)).val_inv;obtain⟨b,len,cap,cap',u,B,_,_⟩:=(Gs.head p).win_inv;refine⟨_,run z B G H oM,?_⟩
    have e:lo.toNat*j.sz+n.toNat*j.sz=(lo+n).toNat*j.sz+0:=by
     rw[←Kd,XX];congr 1;omega
    rw[e];exact .eloc _ _ _ _ b _ _ u
   exact h.elim
  .rename_i len e C;rw[C]at X;replace h:=zE h;obtain⟨j,hj,h⟩:=h;have O:=(hT e j hj).size
   split at h
   .rename_i m;replace h:=zj h;obtain⟨D,h⟩:=h;have D:m<len:=Xw D
    have run:∀{o:Oper} (_:o.op=.indexAddr t x y) {a:Act} {w:World} {b off:Nat},a.eval x=.pointer (some ⟨b,off,none⟩)->a.eval y=.int k (Int.ofNat m)->
      (execOp a.eval o).run P w=.ok (.value (.pointer (some ⟨b,off+m*j.sz,none⟩))) w:=by
     intro o z a w b off B G;simp[execOp,z,B,G,Instr.indexAt,Instr.sureAddr,asIntOf,run_underlying X,D,O,yg]
    split at h
    .exact⟨_,h,.pure λo z S Pm Z a w p=>by
      obtain⟨b,u,B⟩:=(Gs.head p).loc_inv
      exact⟨_,run z B (Gs.head (Gs.tail p)).val_inv,.loc _ _ b u⟩⟩
    .refine⟨_,h,.pure λo z S Pm Z a w p=>?_⟩;obtain⟨b,o',c,B,Q,hP,R,U⟩:=(Gs.head p).ptr_inv;refine⟨_,run z B (Gs.head (Gs.tail p)).val_inv,.ptr _ b _ (λq=>c (m*j.sz+q)) Q hP (λq hq=>?_) (λq s A=>U _ s (by simpa using A))⟩;have:=R (m*j.sz+q) (by simp at hq;omega)
     rwa [←KL]at this
    .refine⟨_,h,.pure λo z S Pm Z a w p=>?_⟩;obtain⟨b,o',c,B,Q,hP,R,U⟩:=(Gs.head p).dptr_inv;refine⟨_,run z B (Gs.head (Gs.tail p)).val_inv,.d _ _ (.dptr _ b _ (λq=>c (m*j.sz+q)) Q hP (λq hq=>?_) (λq s A=>U _ s (by simpa using A)))⟩;have:=R (m*j.sz+q) (by simp at hq;omega)
     rwa [←KL]at this
    .exact⟨_,h,.pure λo z S Pm Z a w p=>by
      obtain⟨b,len,cap,u,B⟩:=(Gs.head p).eloc_inv;refine⟨_,run z B (Gs.head (Gs.tail p)).val_inv,?_⟩;rw[KL]
      exact .eloc _ _ _ _ b len cap u⟩
    exact h.elim
   exact h.elim
  exact h.elim
 exact h.elim
def kJ{o:Option Operand}{l:LR}{d:Int}{K:Int->LR->Prop}(h:jK o l d K):
  ∃n r,K n r/\∀{S Pm:LI} {Z:zh} {w:World} (ev:Operand->Value) (rest:LA),Gs S Pm Z w l ((uK o).map ev++rest)->
   Gs S Pm Z w r rest/\((o=none/\n=d)∨∃x k,o=some x/\ev x=.int k n):=by
 unfold jK at h
 split at h
 .exact⟨_,_,h,λev rest a=>⟨by simpa[uK] using a,.inl ⟨rfl,rfl⟩⟩⟩
 rename_i x
 split at h
 .rename_i k n r;refine⟨_,_,h,λev rest a=>?_⟩;have a:Gs _ _ _ _ _ (ev x::rest):=a;exact⟨a.tail,.inr ⟨x,k,rfl,a.head.val_inv⟩⟩
 exact h.elim
def uh{P:Program}{w:World}{len cap:Nat}{lo hi mx:Option Operand}{ev:Operand->Value}{l h m:Int}(j:zzr hi mx=true)(a:(lo=none/\l=0)∨∃x k,lo=some x/\ev x=.int k l)(c:(hi=none/\h=len)∨∃x k,hi=some x/\ev x=.int k h)(g:(mx=none/\m=len)∨∃x k,mx=some x/\ev x=.int k m)(d:0<=l)(p:l<=h)(r:h<=m)(s:m<=len)(t:len<=cap):
  ∃q:Nat,(Instr.sliceBounds true len cap (lo.map ev) (hi.map ev) (mx.map ev)).run P w=.ok (l.toNat,h.toNat,q) w/\h.toNat<=q/\q<=cap/\(zcg mx=true->q=cap)/\(zcg mx=false->q=m.toNat):=by
 have n:(h.toNat:Int)=h:=Qz oM;have o:(m.toNat:Int)=m:=Qz oM
 obtain⟨rfl,rfl⟩|⟨xm,km,rfl,em⟩:=g
 .obtain⟨rfl,rfl⟩|⟨xh,kh,rfl,eh⟩:=c
  .obtain⟨rfl,rfl⟩|⟨xl,kl,rfl,el⟩:=a
   .exact⟨cap,by simp[Instr.sliceBounds],by simp;omega,Xj _,λ_=>rfl,λh=>by cases h⟩
   refine⟨cap,?_,by simp;omega,Xj _,λ_=>rfl,λh=>by cases h⟩;simp[Instr.sliceBounds,el,run_sliceBound w kl l len _ d oM]
  obtain⟨rfl,rfl⟩|⟨xl,kl,rfl,el⟩:=a
  .refine⟨cap,?_,oM,Xj _,λ_=>rfl,λh=>by cases h⟩;simp[Instr.sliceBounds,eh,run_sliceBound w kh h cap _ oM oM]
  refine⟨cap,?_,oM,Xj _,λ_=>rfl,λh=>by cases h⟩;simp[Instr.sliceBounds,el,eh,run_sliceBound w kh h cap _ oM oM,run_sliceBound w kl l h.toNat _ d oM]
 obtain⟨rfl,rfl⟩|⟨xh,kh,rfl,eh⟩:=c
 .simp[zzr]at j
 obtain⟨rfl,rfl⟩|⟨xl,kl,rfl,el⟩:=a
 .refine⟨m.toNat,?_,oM,oM,λh=>(by cases h),λ_=>rfl⟩;simp[Instr.sliceBounds,eh,em,run_sliceBound w km m cap _ oM oM,run_sliceBound w kh h m.toNat _ oM oM]
 refine⟨m.toNat,?_,oM,oM,λh=>(by cases h),λ_=>rfl⟩;simp[Instr.sliceBounds,el,eh,em,run_sliceBound w km m cap _ oM oM,run_sliceBound w kh h m.toNat _ oM oM,run_sliceBound w kl l h.toNat _ d oM]
def zFJ{w:World}{enc:α->LR}{a:Option Addr}{len:Nat}(G:D S w (.sl enc xs) (.slice a len cap))(u:∀x∈xs,(enc x).length=sz){l h:Nat}(N:l<=h)(J:h<=xs.length){q:Nat}(T:h<=q)(O:q<=cap):
  D S w (.sl enc ((xs.drop l).take (h-l))) (sliced a l h q sz):=by
 have k:((xs.drop l).take (h-l)).length=h-l:=by simp;omega
 have m:∀x∈(xs.drop l).take (h-l),x∈xs:=λx d=>K5 (XP d)
 obtain⟨rfl,a,v⟩|⟨n,b,o,cap',c,v,A,hS,hl48,B,g,F,H⟩:=G.sl_inv
 .cases v
  have:h=0:=by simpa using J
  subst this;have:l=0:=oM;subst this;have:q=0:=oM;subst this;exact .nil enc _
 cases v
 have p:∀i x,((xs.drop l).take (h-l))[i]?=some x->xs[l+i]?=some x/\i<h-l:=by
  intro i x d;rw[XM]at d
  split at d
  .exact⟨by simpa using d,by assumption⟩
  cases d
 have C:0<h-l->n=sz:=λR=>by
  have E:=Xb (show l<xs.length by omega);have y:=Xf E;rw[←g _ y,←u _ y]
 unfold sliced
 by_cases r:q=l
 .rw[Xe r];have Q:h-l=0:=oM
  have:=D.sl (S:=S) (w:=w) enc ((xs.drop l).take (h-l)) n b o (q-l) c A hS oM oM (λx d=>g x (m x d)) (λi j hi=>by omega) (λi j x s d=>by
   have:=(p i x d).2;omega)
  rwa [k]at this
 rw[Xc r];simp only[Qq,yg]
 have:=D.sl (S:=S) (w:=w) enc ((xs.drop l).take (h-l)) n b (o+l*sz) (q-l) (λi j=>c (l+i) j) A hS oM oM (λx d=>g x (m x d)) (λi j hi L=>by
  have z:=F (l+i) j oM L;rw[Kd,C oM]at z;rw[C oM,show o+l*sz+i*sz+j=o+(l*sz+i*sz)+j by omega]
  exact z) (λi j x s d t=>H (l+i) j x s (p i x d).1 t)
 rwa [k]at this
def zgT{w:World}(z:zI Keep M Z w){k:Nat}{T:TypeId}{enc:α->LR}(t:(k,Mem.arr T enc sz xs)∈M)(hS:∀b,S b->Keep b∨Own M Z b)(hSk:∀v b,Z k=some v->qi v=some b->¬S b){v:Value}(q:Z k=some v):D S w (.sl enc xs) v:=by
 obtain⟨O,cells,o,c,y,m,l,a⟩:=z.rel k _ t;rw[q]at o;cases o
 obtain⟨rfl,A⟩|⟨g,cap,cur,rfl,_,d,p,F,G,htake⟩:=c.2
 .have:xs=[]:=Xq A;subst this;exact .nil enc _
 have E:=c.1
 have C:∀i j,i<xs.length->j<sz->∃u,cells[i*sz+j]?=some u:=λi j hi r=>by
  have N:i*sz+sz<=xs.length*sz:=by
   have:=Xy sz (X1 hi);rw[Ka]at this;exact this
  exact⟨_,Xb (show i*sz+j<cells.length by omega)⟩
 refine .sl enc xs sz g 0 cap (λi j=>(cells[i*sz+j]?).getD undef) (z.old g ⟨k,_,_,t,q,rfl⟩).1 (hSk _ g q rfl) oM p l ?_ ?_
 .intro i j hi r;obtain⟨u,n⟩:=C i j hi r;rw[n];refine⟨?_,m u (Xf n)⟩;have:=zbq d htake n
  simpa[Kb] using this
 intro i j x s L J;obtain⟨u,n,H⟩:=a i j x s L J;rw[n];exact H.mono (Xj _) λb _ B=>⟨λh=>B (hS b h),rfl⟩
variable{lo:Option Operand}{hi:Option Operand}
def zkO{o:Oper}{a:Act}{w:World}(C:zI Keep M Z w){k:Nat}{m t:Mem}(j:(k,m)∈M){v:Value}(V:Z k=some v){T:TypeId}{n:Nat}{cells:LA}(l:w.ownsRow 0 T sz v n cells)(R:Z Y=none)(hκM:∀m,(Y,m)∉M){h:Int}(B:(lo=none/\(0:Int)=0)∨∃x k,lo=some x/\a.eval x=.int k 0)(A:(hi=none/\h=n)∨∃x k,hi=some x/\a.eval x=.int k h)(h1:0<=h)(h2:h<=n)(run:∀(ad:Option Addr) (cap q:Nat),v=.slice ad n cap->(Instr.sliceBounds true n cap (lo.map a.eval) (hi.map a.eval) ((none:Option Operand).map a.eval)).run P w=.ok ((0:Int).toNat,h.toNat,q) w->
   (execOp a.eval o).run P w=.ok (.value (sliced ad (0:Int).toNat h.toNat q sz)) w)(E:∀c,w.ownsRow 0 T sz c h.toNat (cells.take (h.toNat*sz))->upd Z Y c Y=some c->Stp (Own M Z) (Own ((Y,t)::k9 M k) (upd Z Y c)) Z (upd Z Y c) w w->
   jD (λb=>Keep b∨Own ((Y,t)::k9 M k) (upd Z Y c) b) (Own ((Y,t)::k9 M k) (upd Z Y c)) (upd Z Y c) w Y t):
  qB P o a w (qg Keep M Z w Y (.own Y) (.repl k t)):=by
 have u:∀c:Value,(execOp a.eval o).run P w=.ok (.value c) w->w.ownsRow 0 T sz c h.toNat (cells.take (h.toNat*sz))->qi c=qi v->c.oneCell'=true->
   qB P o a w (qg Keep M Z w Y (.own Y) (.repl k t)):=λc hr F y G=>by
  refine qB.value hr ?_
  have hgrow:=C.grow (M1:=k9 M k) (λx hx=>qn x hx) (qR C.keys) R hκM c t w rfl rfl (.refl _) (Xj _) (λ_ _ _=>rfl) (λ_ _ _ _ _ _ _=>rfl)
   (λb p=>by
    rw[y]at p;have F:Own M Z b:=⟨k,_,v,j,V,p⟩
    exact⟨.inl F,(C.old b F).1,λW m v1 U g2 g3=>C.apart W m k _ v1 v b (qn _ U) j (vA C.keys _ U) g2 V g3 p⟩)
   (λhs=>E c F kG hs)
  exact⟨upd Z Y c,hgrow.1,hgrow.2,.own _ _ kG G,λW d=>zgh (by
   rcases d with d|d
   .omega
   simp only[zcc]at d;omega)⟩
 have z:=l.1;have hmul:h.toNat*sz<=n*sz:=Xy _ oM
 obtain⟨rfl,h0⟩|⟨g,cap,cur,rfl,X,r,O,J,L,htake⟩:=l.2
 .subst h0;have N:h=0:=oM;subst N;obtain⟨q,y,hq,Q,D,_⟩:=uh (P:=P) (w:=w) (len:=0) (cap:=0) (mx:=none) (m:=0) (ev:=a.eval) (by cases hi <;> rfl) B A (.inl ⟨rfl,rfl⟩) oM oM oM oM (Xj _);have s:q=0:=oM;subst s;have H:cells=[]:=Xq (by simpa using z);subst H;exact u _ (run none 0 0 rfl y) (by simpa[sliced] using World.ownsRow_nil w 0 T sz) rfl rfl
 obtain⟨q,y,hq,Q,D,_⟩:=uh (P:=P) (w:=w) (len:=n) (cap:=cap) (mx:=none) (m:=n) (ev:=a.eval) (by cases hi <;> rfl) B A (.inl ⟨rfl,rfl⟩) oM oM oM oM O;have s:q=cap:=D rfl;subst s
 have e:sliced (some ⟨g,0,none⟩) (0:Int).toNat h.toNat q sz=.slice (some ⟨g,0,none⟩) h.toNat q:=by
  unfold sliced;simp only[Int.toNat_zero,JB,YY,Qq,yg,XX,ite_self]
 refine u _ (run _ q q rfl y) ?_ (by rw[e];rfl) (by rw[e];rfl);rw[e];refine⟨by rw[Xp,z];omega,.inr ⟨g,q,cur,rfl,X,r,oM,J,L,?_⟩⟩;rw[←htake,YN,Qp hmul]
def zq3(hT:TOK P I){t:TypeId}{mx:Option Operand}(h:ztJ I t lo hi mx svs lm Y K):∃r md,K r md/\yq P (.slice t x lo hi mx) svs lm Y r md:=by
 unfold ztJ at h;replace h:=zj h;obtain⟨hok,h⟩:=h
 split at h
 .rename_i s rest;replace h:=zE h;obtain⟨i,hi',h⟩:=h;have hk:=(hT t i hi').kind
  split at h
  .rename_i e hkind;rw[hkind]at hk;have helem:P.elem t=e:=by have hk:P.underlying t=some (.slice e):=hk;simp[Program.elem,hk]
   have hk':P.underlying t=some (.slice (P.elem t)):=by rw[helem];exact hk
   replace h:=zE h;obtain⟨j,hj,h⟩:=h;have hsz:=(hT e j hj).size
   have run:∀{o:Oper} (_:o.op=.slice t x lo hi mx) {a:Act} {w:World} {ad:Option Addr} {len cap l h q:Nat},a.eval x=.slice ad len cap->
     (Instr.sliceBounds true len cap (lo.map a.eval) (hi.map a.eval) (mx.map a.eval)).run P w=.ok (l,h,q) w->(execOp a.eval o).run P w=.ok (.value (sliced ad l h q j.sz)) w:=by
    intro o E a w ad len cap l h q y G;simp[execOp,E,y,run_sliceAt_slice (h:=hk'),run_slice_any (ht:=hk'),G,helem,hsz]
   split at h
   .rename_i α enc xs
    split at h
    .rename_i hz;obtain⟨hz1,hz2⟩:=kr hz;obtain⟨l,r1,h,hl⟩:=kJ h;obtain⟨z,r2,h,B⟩:=kJ h;obtain⟨m,r3,h,J⟩:=kJ h;obtain⟨rfl,rfl,rfl⟩:=h.ob;refine⟨_,_,h.go,.pure λo E S Pm Z a w c=>?_⟩;have c:Gs S Pm Z w (SV.sl enc xs::rest) (a.eval x::((uK lo++(uK hi++uK mx)).map a.eval)):=c;simp only[Xz]at c;obtain⟨X,V⟩:=hl a.eval _ c.tail;obtain⟨g2,W⟩:=B a.eval _ X;obtain⟨g3,e3⟩:=J a.eval [] (by simpa using g2);have hd:=c.head.sl_inv
     have key:∃ad cap,a.eval x=.slice ad xs.length cap/\xs.length<=cap:=by
      obtain⟨rfl,a0,H⟩|⟨_,b,o',cap,_,H,_,_,_,hc,_⟩:=hd.sl_inv
      .exact⟨a0,0,H,sI⟩
      exact⟨_,cap,H,hc⟩
     obtain⟨ad,cap,y,O⟩:=key;have n1:hi≠none:=λe=>by rw[e]at hz1;cases hz1
     have n2:mx≠none:=λe=>by rw[e]at hz2;cases hz2
     have n3:zcg mx=false:=by cases mx with|none=>exact absurd rfl n2|some _=>rfl
     obtain⟨q,G,hq,hqc,_,hq2⟩:=uh (P:=P) (w:=w) (len:=xs.length) (cap:=cap) (l:=0) (h:=0) (m:=0) hok V (W.imp (λe=>absurd e.1 n1) id) (e3.imp (λe=>absurd e.1 n2) id) oM oM oM oM O;have hq0:q=0:=hq2 n3;subst hq0;exact⟨_,run E y G,.d _ _ (.nils _)⟩
    obtain⟨l,r1,h,hl⟩:=kJ h;obtain⟨z,r2,h,B⟩:=kJ h;obtain⟨m,r3,h,J⟩:=kJ h
    have main:∀{K':Prop},(0<=l/\l<=z/\z<=m/\m<=xs.length)->(∀x∈xs,(enc x).length=j.sz)->∀(o:Oper),o.op=.slice t x lo hi mx->∀(S Pm:LI) (Z:zh) (a:Act) (w:World),Gs S Pm Z w (SV.sl enc xs::rest) ((qm (.slice t x lo hi mx)).map a.eval)->
      ∃v,(execOp a.eval o).run P w=.ok (.value v) w/\D S w (.sl enc ((xs.drop l.toNat).take (z-l).toNat)) v/\(zcg mx=false->z=m->∃ad,v=.slice ad ((xs.drop l.toNat).take (z-l).toNat).length ((xs.drop l.toNat).take (z-l).toNat).length):=?main
    split at h
    .obtain⟨hbd,hes⟩:=h.ob;refine⟨_,_,h.go,.pure λo E S Pm Z a w c=>?_⟩;obtain⟨v,r1,r2,_⟩:=main (K':=True) hbd hes o E S Pm Z a w c;exact⟨v,r1,.d _ _ r2⟩
    .rename_i hnm
     rcases h with h|h
     .obtain⟨hbd,hes⟩:=h.ob;refine⟨_,_,h.go,.pure λo E S Pm Z a w c=>?_⟩;obtain⟨v,r1,r2,_⟩:=main (K':=True) hbd hes o E S Pm Z a w c;exact⟨v,r1,.d _ _ r2⟩
     obtain⟨⟨h0,h1,h2,h3⟩,hes⟩:=h.ob;refine⟨_,_,h.go,.pure λo E S Pm Z a w c=>?_⟩;obtain⟨v,r1,r2,r3⟩:=main (K':=True) ⟨h0,h1,oM,h3⟩ hes o E S Pm Z a w c;obtain⟨ad,rfl⟩:=r3 hnm h2;exact⟨_,r1,.d _ _ (.full _ _ ad r2)⟩
    intro K' ⟨h0,h1,h2,h3⟩ hes o E S Pm Z a w c;have c:Gs S Pm Z w (SV.sl enc xs::rest) (a.eval x::((uK lo++(uK hi++uK mx)).map a.eval)):=c;simp only[Xz]at c;obtain⟨X,V⟩:=hl a.eval _ c.tail;obtain⟨g2,W⟩:=B a.eval _ X;obtain⟨g3,e3⟩:=J a.eval [] (by simpa using g2);have hd:=c.head.sl_inv
    have key:∃ad cap,a.eval x=.slice ad xs.length cap/\xs.length<=cap:=by
     obtain⟨rfl,a0,H⟩|⟨_,b,o',cap,_,H,_,_,_,hc,_⟩:=hd.sl_inv
     .exact⟨a0,0,H,sI⟩
     exact⟨_,cap,H,hc⟩
    obtain⟨ad,cap,y,O⟩:=key;obtain⟨q,G,hq,hqc,_,hq2⟩:=uh (P:=P) (w:=w) (len:=xs.length) (cap:=cap) hok V W e3 h0 h1 h2 h3 O;refine⟨_,run E y G,?_,λhnm heq=>?_⟩
    .rw[y]at hd;have:=zFJ hd hes (l:=l.toNat) (h:=z.toNat) oM oM hq hqc
     rwa [show z.toNat-l.toNat=(z-l).toNat by omega]at this
    have hq3:q=z.toNat:=by rw[hq2 hnm,heq]
    have hln:((xs.drop l.toNat).take (z-l).toNat).length=z.toNat-l.toNat:=by simp;omega
    unfold sliced;rw[hln,hq3]
    split
    .rename_i he;have:z.toNat-l.toNat=0:=oM;rw[this];exact⟨_,rfl⟩
    exact⟨_,rfl⟩
   .obtain⟨l,r1,h,hl⟩:=kJ h;obtain⟨z,r2,h,B⟩:=kJ h;obtain⟨m,r3,h,J⟩:=kJ h;obtain⟨rfl,rfl,rfl⟩:=h.ob;refine⟨_,_,h.go,.pure λo E S Pm Z a w c=>?_⟩;have c:Gs S Pm Z w (SV.val (.slice none 0 0)::rest) (a.eval x::((uK lo++(uK hi++uK mx)).map a.eval)):=c;simp only[Xz]at c;obtain⟨X,V⟩:=hl a.eval _ c.tail;obtain⟨g2,W⟩:=B a.eval _ X;obtain⟨g3,e3⟩:=J a.eval [] (by simpa using g2)
    obtain⟨q,G,hq,hqc,_⟩:=uh (P:=P) (w:=w) (len:=0) (cap:=0) (l:=0) (h:=0) (m:=0) hok V W e3 oM oM oM oM (Xj _);have hq0:q=0:=oM;subst hq0;exact⟨_,run E c.head.val_inv G,.d _ _ (.val _)⟩
   .rename_i k
    split at h
    .rename_i T α enc sz xs hlk;replace h:=zj h;obtain⟨U,h⟩:=h;have U:=Xk U;subst U;obtain⟨l,r1,h,hl⟩:=kJ h;obtain⟨z,r2,h,B⟩:=kJ h;obtain⟨m,r3,h,J⟩:=kJ h
     rcases h with hsee|hkeep|hwin
     rotate_left
     .obtain⟨hnone,hkp⟩:=zj hkeep;have hmx:mx=none:=by cases mx with|none=>rfl|some _=>cases hnone
      subst hmx;obtain⟨ho1,hgo⟩:=hkp;obtain⟨rfl,h1,h2⟩:=ho1;refine⟨_,_,hgo,λo E Keep M Z a w Q N hκ hκM c=>?_⟩;replace hκ:=hκ _ (Xj _) (XZ _);replace hκM:=hκM rfl;have p:=zu (Q k _ hlk);have c:Gs (λb=>Keep b∨Own M Z b) (Own M Z) Z w (SV.own k::rest) (a.eval x::((uK lo++(uK hi++uK none)).map a.eval)):=c;simp only[Xz]at c;obtain⟨X,V⟩:=hl a.eval _ c.tail;obtain⟨g2,W⟩:=B a.eval _ X;obtain⟨H,_⟩:=c.head.own_inv
      obtain⟨v',cells,F,L,hlen,R,C,A⟩:=N.rel k _ p;rw[H]at F;cases F
      refine zkO N p H L hκ hκM V W h1 h2 (λad cap q y G=>run E y G) (λv' hown' hρ' U=>⟨v',cells.take (z.toNat*j.sz),hρ',?_,by simp;omega,λu hu=>R u (XP hu),λx y=>C x (XP y),λi' j' x s y hs'=>?_⟩)
      .simpa[Qp (show z.toNat<=xs.length by omega)] using hown'
      rw[XM]at y
      split at y
      .rename_i hi';obtain⟨u,hu,hd⟩:=A i' j' x s y hs';refine⟨u,?_,hd.stp U⟩
       have hj':j'<j.sz:=by
        have:=(Xd.1 hs').1;rw[C x (Xf y)]at this;exact this
       have:=Xy j.sz (X1 hi');rw[Ka]at this;rw[XM,Xe oM];exact hu
      cases y
     .obtain⟨h0,h1,h2,h3⟩:=hwin.ob;refine⟨_,_,hwin.go,λo E Keep M Z a w Q N _ _ c=>?_⟩;have p:=zu (Q k _ hlk);have c:Gs (λb=>Keep b∨Own M Z b) (Own M Z) Z w (SV.own k::rest) (a.eval x::((uK lo++(uK hi++uK mx)).map a.eval)):=c;simp only[Xz]at c;obtain⟨X,V⟩:=hl a.eval _ c.tail;obtain⟨g2,W⟩:=B a.eval _ X;obtain⟨g3,e3⟩:=J a.eval [] (by simpa using g2);obtain⟨H,_⟩:=c.head.own_inv;obtain⟨v',cells,F,L,hlen,R,C,A⟩:=N.rel k _ p;rw[H]at F;cases F
      obtain⟨_,h00⟩|⟨g,cap,cur,y,_,hheap,hnc,_⟩:=L.2
      .omega
      obtain⟨q,G,hq,hqc,_⟩:=uh (P:=P) (w:=w) (len:=xs.length) (cap:=cap) hok V W e3 h0 oM h2 h3 hnc;refine qB.value (run E y G) (qg.same N ?_);unfold sliced;rw[Xc oM];simp only[Qq,yg,Kb];have hn:(z-l).toNat=z.toNat-l.toNat:=oM;rw[←hn];exact .win k j.sz l (z-l) g xs.length cap (q-l.toNat) (y ▸ H) oM oM
     obtain⟨h0,h1,h2,h3⟩:=hsee.ob;refine⟨_,_,hsee.go,λo E Keep M Z a w Q N _ _ c=>?_⟩;have p:=zu (Q k _ hlk);have c:Gs (λb=>Keep b∨Own M Z b) (Own M Z) Z w (SV.own k::rest) (a.eval x::((uK lo++(uK hi++uK mx)).map a.eval)):=c;simp only[Xz]at c;obtain⟨X,V⟩:=hl a.eval _ c.tail;obtain⟨g2,W⟩:=B a.eval _ X;obtain⟨g3,e3⟩:=J a.eval [] (by simpa using g2);obtain⟨H,_⟩:=c.head.own_inv;obtain⟨U,hmo⟩:=N.let_go (M1:=k9 M k) (λx y=>qn x y) (qR N.keys)
     have hd:D (λb=>Keep b∨Own (k9 M k) Z b) w (.sl enc xs) (a.eval x):=zgT N p
      (λb G=>G.imp id λ⟨k',m',v',h1,h2,h3⟩=>⟨k',m',v',qn _ h1,h2,h3⟩)
      (λv b hv' G hSb=>by
       rcases hSb with hSb|⟨k',m',v',h4,h5,h6⟩
       .exact(N.old b ⟨k,_,v,p,hv',G⟩).2 hSb
       exact N.apart k _ k' m' v v' b p (qn _ h4) (Ne.symm (vA N.keys _ h4)) hv' h5 G h6) H
     obtain⟨v',cells,F,L,hlen,R,C,A⟩:=N.rel k _ p
     have key:∃ad cap,a.eval x=.slice ad xs.length cap/\xs.length<=cap:=by
      obtain⟨rfl,a0,H⟩|⟨_,b,o',cap,_,H,_,_,_,hc,_⟩:=hd.sl_inv
      .exact⟨a0,0,H,sI⟩
      exact⟨_,cap,H,hc⟩
     obtain⟨ad,cap,y,O⟩:=key;obtain⟨q,G,hq,hqc,_⟩:=uh (P:=P) (w:=w) (len:=xs.length) (cap:=cap) hok V W e3 h0 h1 h2 h3 O;refine qB.value (run E y G) ⟨Z,U,hmo,.d _ _ ?_,λ_ _=>rfl⟩;rw[y]at hd;have:=zFJ hd C (l:=l.toNat) (h:=z.toNat) oM oM hq hqc
     rwa [show z.toNat-l.toNat=(z-l).toNat by omega]at this
    .rename_i T sz xs hlk;replace h:=zj h;obtain⟨U,h⟩:=h;have U:=Xk U;subst U;obtain⟨hnone,hkp⟩:=zj h;have hmx:mx=none:=by cases mx with|none=>rfl|some _=>cases hnone
     subst hmx;obtain⟨l,r1,hk1,hl⟩:=kJ hkp;obtain⟨z,r2,hk2,B⟩:=kJ hk1;obtain⟨ho1,hgo⟩:=hk2;obtain⟨rfl,h1,h2⟩:=ho1;refine⟨_,_,hgo,λo E Keep M Z a w Q N hκ hκM c=>?_⟩;replace hκ:=hκ _ (Xj _) (XZ _);replace hκM:=hκM rfl;have p:=zu (Q k _ hlk);have c:Gs (λb=>Keep b∨Own M Z b) (Own M Z) Z w (SV.own k::rest) (a.eval x::((uK lo++(uK hi++uK none)).map a.eval)):=c;simp only[Xz]at c;obtain⟨X,V⟩:=hl a.eval _ c.tail;obtain⟨g2,W⟩:=B a.eval _ X
     obtain⟨H,_⟩:=c.head.own_inv;obtain⟨v',cells,F,L,hlen,R,C,A⟩:=N.rel k _ p;rw[H]at F;cases F
     refine zkO N p H L hκ hκM V W h1 h2 (λad cap q y G=>run E y G) (λv' hown' hρ' U=>⟨v',cells.take (z.toNat*j.sz),hρ',?_,by simp;omega,λu hu=>R u (XP hu),λx y=>C x (XP y),λi' j' x s y hs'=>?_⟩)
     .simpa[Qp (show z.toNat<=xs.length by omega)] using hown'
     rw[XM]at y
     split at y
     .rename_i hi';obtain⟨u,hu,hd⟩:=A i' j' x s y hs';refine⟨u,?_,hd.stp U⟩
      have hj':j'<j.sz:=by
       have:=(Xd.1 hs').1;rw[C x (Xf y)]at this;exact this
      have:=Xy j.sz (X1 hi');rw[Ka]at this;rw[XM,Xe oM];exact hu
     cases y
    exact h.elim
   .rename_i k sz at0 n;replace h:=zj h;obtain⟨U,h⟩:=h;have U:=Xk U;subst U;obtain⟨l,r1,h,hl⟩:=kJ h;obtain⟨z,r2,h,B⟩:=kJ h;obtain⟨m,r3,h,J⟩:=kJ h;obtain⟨h0,h1,h2,h3,h4⟩:=h.ob;refine⟨_,_,h.go,λo E Keep M Z a w Q N _ _ c=>?_⟩;have c:Gs (λb=>Keep b∨Own M Z b) (Own M Z) Z w (SV.win k j.sz at0 n::rest) (a.eval x::((uK lo++(uK hi++uK mx)).map a.eval)):=c;simp only[Xz]at c;obtain⟨X,V⟩:=hl a.eval _ c.tail;obtain⟨g2,W⟩:=B a.eval _ X
    obtain⟨g3,e3⟩:=J a.eval [] (by simpa using g2);obtain⟨b,len,cap,cap',F,y,h5,h6⟩:=c.head.win_inv;have hn:n=(n.toNat:Int):=oM;obtain⟨q,G,hq,hqc,_⟩:=uh (P:=P) (w:=w) (len:=n.toNat) (cap:=cap') hok V (W.imp (λe=>⟨e.1,e.2.trans hn⟩) id) (e3.imp (λe=>⟨e.1,e.2.trans hn⟩) id) h1 oM h3 oM h6;refine qB.value (run E y G) (qg.same N ?_);unfold sliced;rw[Xc oM];simp only[Qq,yg];have e7:at0.toNat*j.sz+l.toNat*j.sz=(at0+l).toNat*j.sz:=by rw[←Kd];congr 1;omega
    have e8:z.toNat-l.toNat=(z-l).toNat:=oM;rw[e7,e8];exact .win k j.sz (at0+l) (z-l) b len cap (q-l.toNat) F oM oM
   exact h.elim
  exact h.elim
 exact h.elim
end Go.Gs
