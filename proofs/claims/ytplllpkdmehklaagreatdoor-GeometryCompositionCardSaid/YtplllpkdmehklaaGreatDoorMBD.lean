/- Paths cut to polylines: plain. -/
import Derived.Test.YtplllpkdmehklaaGreatDoorMA
import Derived.Test.YtplllpkdmehklaaGreatDoorMBA
import Derived.Test.YtplllpkdmehklaaGreatDoorMAZ
import Derived.Test.YtplllpkdmehklaaGreatDoorMAY
import Derived.Test.YtplllpkdmehklaaGreatDoorMAX
set_option maxRecDepth 100000
set_option maxHeartbeats 8000000
set_option linter.all false
namespace Go.Gs
theorem qo{α:Type}{p:Prop}[Decidable p](h:p){a b:α}:(if ¬p then a else b)=b:=if_neg (fun k=>k h)
theorem jQ{α:Type}{n:Int}(h:n=0){a b:α}:(if n≠0 then a else b)=b:=if_neg (fun k=>k h)
def yk(q:List Pt)(x:Pt):List Pt:=if q.getLast?=some x then q else q++[x]
def qc(q more:List Pt):List Pt:=more.foldl yk q
def q9(p:Pt)(s:Sg)(tol:Int):List Pt×Int:=if s.v=3 then zaK p s.a s.b tol else if s.v=4 then zaL p s.a s.b s.c tol else ([s.a],0)
def zaN(l:List Pt):Pt:=l.getLastD zp
def zaO(p:Pl)(s:Sg)(tol:Int):Pl×Int:=
 if s.v=5 then (⟨qi p.pts,true⟩,0)
 else if (q9 (zaN p.pts) s tol).2≠0 then (p,(q9 (zaN p.pts) s tol).2)
 else (⟨qc p.pts (q9 (zaN p.pts) s tol).1,p.cl⟩,0)
def jU(tol:Int)(st:List Pl×Int)(s:Sg):List Pl×Int:=
 if st.2≠0 then ([],st.2)
 else if s.v=1 then (st.1++[⟨[s.a],false⟩],0)
 else if (zaO (st.1.getLastD ⟨[],false⟩) s tol).2≠0 then ([],(zaO (st.1.getLastD ⟨[],false⟩) s tol).2)
 else (st.1.dropLast++[(zaO (st.1.getLastD ⟨[],false⟩) s tol).1],0)
theorem zd5{tol:Int}{S:List Pl}{s:Sg}:jU tol (S,0) s=
  if s.v=1 then (S++[⟨[s.a],false⟩],0)
  else if (zaO (S.getLastD ⟨[],false⟩) s tol).2≠0 then ([],(zaO (S.getLastD ⟨[],false⟩) s tol).2)
  else (S.dropLast++[(zaO (S.getLastD ⟨[],false⟩) s tol).1],0):=if_neg (fun k:(0:Int)≠0=>k rfl)
def ja(l:List Sg)(tol:Int):List Pl×Int:=l.foldl (jU tol) ([],0)
def yw(l:List Pl):Nat:=(l.map fun p=>p.pts.length).sum
def zet(tol:Int):Prop:=1<=tol/\tol<=256
instance (tol:Int):Decidable (zet tol):=inferInstanceAs (Decidable (_/\_))
def kr(l:List Sg)(tol:Int):List Pl×Int:=
 if ¬qq l then ([],10) else if ¬zet tol then ([],2) else if (ja l tol).2≠0 then ([],(ja l tol).2)
 else if 4096 < yw (ja l tol).1 then ([],5) else ((ja l tol).1,0)
def inB(lo hi p:Pt):Prop:=(lo.x<=p.x/\p.x<=hi.x)/\(lo.y<=p.y/\p.y<=hi.y)
theorem zrY{a b lo hi:Int}(hb:0 < b)(h1:lo*b<=a)(h2:a<=hi*b):lo<=zcw a b/\zcw a b<=hi:=by
 unfold zcw;constructor
 ·rw [Int.le_ediv_iff_mul_le oM];have:lo*(2*b)=2*(lo*b):=by grind
  omega
 ·have h3:(2*a+b) / (2*b) < hi+1:=by
   rw [Int.ediv_lt_iff_lt_mul oM];have:(hi+1)*(2*b)=2*(hi*b)+2*b:=by grind
   omega
  omega
theorem zAz{i n a b c lo hi:Int}(hn:1<=n)(hi0:0<=i)(hin:i<=n)(ha:lo<=a/\a<=hi)(hb:lo<=b/\b<=hi)(hc:lo<=c/\c<=hi):lo<=q1 i n a b c/\q1 i n a b c<=hi:=by
 unfold q1;have w0:0<=(n - i)*(n - i):=Int.mul_nonneg oM oM;have w1:0<=2*i*(n - i):=Int.mul_nonneg oM oM;have w2:0<=i*i:=Int.mul_nonneg oM oM;have e:n*n=(n - i)*(n - i)+2*i*(n - i)+i*i:=by grind
 have g1:=Int.mul_nonneg w0 (show 0<=a - lo by omega);have g2:=Int.mul_nonneg w1 (show 0<=b - lo by omega);have g3:=Int.mul_nonneg w2 (show 0<=c - lo by omega);have g4:=Int.mul_nonneg w0 (show 0<=hi - a by omega);have g5:=Int.mul_nonneg w1 (show 0<=hi - b by omega);have g6:=Int.mul_nonneg w2 (show 0<=hi - c by omega);refine zrY (Int.mul_pos oM oM) ?_ ?_
 ·rw [e];grind
 ·rw [e];grind
theorem zAA{i n a b c d lo hi:Int}(hn:1<=n)(hi0:0<=i)(hin:i<=n)(ha:lo<=a/\a<=hi)(hb:lo<=b/\b<=hi)(hc:lo<=c/\c<=hi)(hd:lo<=d/\d<=hi):
  lo<=c1 i n a b c d/\c1 i n a b c d<=hi:=by
 unfold c1;have w0:0<=(n - i)*(n - i)*(n - i):=Int.mul_nonneg (Int.mul_nonneg oM oM) oM;have w1:0<=3*i*(n - i)*(n - i):=Int.mul_nonneg (Int.mul_nonneg oM oM) oM;have w2:0<=3*i*i*(n - i):=Int.mul_nonneg (Int.mul_nonneg oM oM) oM;have w3:0<=i*i*i:=Int.mul_nonneg (Int.mul_nonneg oM oM) oM;have e:n*n*n=(n - i)*(n - i)*(n - i)+3*i*(n - i)*(n - i)+3*i*i*(n - i)+i*i*i:=by grind
 have g1:=Int.mul_nonneg w0 (show 0<=a - lo by omega);have g2:=Int.mul_nonneg w1 (show 0<=b - lo by omega);have g3:=Int.mul_nonneg w2 (show 0<=c - lo by omega);have g4:=Int.mul_nonneg w3 (show 0<=d - lo by omega);have k1:=Int.mul_nonneg w0 (show 0<=hi - a by omega);have k2:=Int.mul_nonneg w1 (show 0<=hi - b by omega);have k3:=Int.mul_nonneg w2 (show 0<=hi - c by omega);have k4:=Int.mul_nonneg w3 (show 0<=hi - d by omega);refine zrY (Int.mul_pos (Int.mul_pos oM oM) oM) ?_ ?_
 ·rw [e];grind
 ·rw [e];grind
theorem zhe(need tol:Int):∀(k n:Nat),1<=n->(vp need tol k n).2=0->1<=(vp need tol k n).1/\(vp need tol k n).1<=(n+k:Nat) - 1
 | 0,n,_,h=>by cases h
 | k+1,n,hn,h=>by
  unfold vp at h ⊢
  split
  ·exact ⟨by dsimp only;omega,by dsimp only;omega⟩
  ·rename_i c;rw [if_neg c] at h;have:=zhe need tol k (n+1) oM h;omega
theorem uO{need tol:Int}{l:List Pt}(h:(jd need tol l).2=0):(1<=(jd need tol l).1/\(jd need tol l).1<=64)/\zet tol/\(∀p∈l,zn p)/\jd need tol l=vp need tol 64 1:=by
 unfold jd at h ⊢
 by_cases h1:¬(1<=tol/\tol<=256)
 ·rw [if_pos h1] at h;exact absurd h dC
 rw [if_neg h1] at h ⊢
 by_cases h2:¬∀p∈l,zn p
 ·rw [if_pos h2] at h;exact absurd h dC
 rw [if_neg h2] at h ⊢;have:=zhe need tol 64 1 dC h;exact ⟨oM,Decidable.not_not.1 h1,Decidable.not_not.1 h2,rfl⟩
theorem zox{f:Int->Pt}{n:Nat}{p:Pt}(h:p∈zde f n):∃i:Nat,i < n/\p=f ((i:Int)+1):=by
 unfold zde at h;obtain ⟨i,hi,rfl⟩:=List.mem_map.1 h;exact ⟨i,List.mem_range.1 hi,rfl⟩
theorem ztG{lo hi a b c:Pt}{i n:Int}(hn:1<=n/\n<=64)(hi':0<=i/\i<=n)(ho:∀p∈[a,b,c],zn p)(h:∀p∈[a,b,c],inB lo hi p):inB lo hi (uf a b c i n):=by
 unfold uf;rw [if_neg (fun k=>k ⟨ho,hn.1,hn.2,hi'.1,hi'.2⟩)];have ha:=h a (by simp);have hb:=h b (by simp);have hc:=h c (by simp);exact ⟨zAz hn.1 hi'.1 hi'.2 ha.1 hb.1 hc.1,zAz hn.1 hi'.1 hi'.2 ha.2 hb.2 hc.2⟩
theorem ztH{lo hi a b c d:Pt}{i n:Int}(hn:1<=n/\n<=64)(hi':0<=i/\i<=n)(ho:∀p∈[a,b,c,d],zn p)(h:∀p∈[a,b,c,d],inB lo hi p):inB lo hi (ug a b c d i n):=by
 unfold ug;rw [if_neg (fun k=>k ⟨ho,hn.1,hn.2,hi'.1,hi'.2⟩)];have ha:=h a (by simp);have hb:=h b (by simp);have hc:=h c (by simp);have hd:=h d (by simp);exact ⟨zAA hn.1 hi'.1 hi'.2 ha.1 hb.1 hc.1 hd.1,zAA hn.1 hi'.1 hi'.2 ha.2 hb.2 hc.2 hd.2⟩
theorem zwp{lo hi a b c:Pt}{tol:Int}(h0:(zaK a b c tol).2=0)(h:∀p∈[a,b,c],inB lo hi p):∀p∈(zaK a b c tol).1,inB lo hi p:=by
 unfold zaK at h0 ⊢
 split
 ·intro p hp;cases hp
 rename_i h1;have h1:=Decidable.not_not.1 h1;have ok:=uO h1;intro p hp;obtain ⟨i,hi,rfl⟩:=zox (show p∈zde (fun i=>uf a b c i (jE a b c tol).1) (jE a b c tol).1.toNat from hp);unfold jE at hi ⊢;exact ztG (by unfold jE at*;omega) (by unfold jE at*;omega) ok.2.2.1 h
theorem zwq{lo hi a b c d:Pt}{tol:Int}(h0:(zaL a b c d tol).2=0)(h:∀p∈[a,b,c,d],inB lo hi p):∀p∈(zaL a b c d tol).1,inB lo hi p:=by
 unfold zaL at h0 ⊢
 split
 ·intro p hp;cases hp
 rename_i h1;have h1:=Decidable.not_not.1 h1;have ok:=uO h1;intro p hp;obtain ⟨i,hi,rfl⟩:=zox (show p∈zde (fun i=>ug a b c d i (jF a b c d tol).1) (jF a b c d tol).1.toNat from hp);unfold jF at hi ⊢;exact ztH (by unfold jF at*;omega) (by unfold jF at*;omega) ok.2.2.1 h
theorem zja:∀{l:List Pt} {x:Pt},yC l->l.getLast?≠some x->yC (l++[x])
 | [],x,_,_=>⟨fun _ h=>(by cases h),trivial⟩
 | [p],x,_,h=>⟨fun q hq e=>h (by cases hq;rw [e];rfl),⟨fun _ h=>(by cases h),trivial⟩⟩
 | p::q::r,x,h,hl=>⟨fun z hz=>h.1 z hz,zja (l:=q::r) h.2 (by rwa [List.getLast?_cons_cons] at hl)⟩
theorem ztI{l:List Pt}(h:yC l)(x:Pt):yC (yk l x):=by
 unfold yk
 split
 ·exact h
 ·rename_i k;exact zja h k
theorem zjb:∀(more:List Pt) {l:List Pt},yC l->yC (qc l more)
 | [],_,h=>h
 | x::r,l,h=>zjb r (ztI h x)
theorem zjc:∀{l:List Pt},yC l->yC l.dropLast
 | [],_=>trivial
 | [p],_=>trivial
 | [p,q],h=>⟨fun _ h=>(by cases h),trivial⟩
 | p::q::r::s,h=>⟨fun z hz=>h.1 z hz,zjc (l:=q::r::s) h.2⟩
theorem zjd{l:List Pt}(h:yC l):yC (qi l):=by
 unfold qi;split
 ·exact zjc h
 ·exact h
theorem zy9{l:List Pt}{x p:Pt}(h:p∈yk l x):p∈l∨p=x:=by
 unfold yk at h
 split at h
 ·exact .inl h
 ·simpa using h
theorem zoy:∀(more:List Pt) {l:List Pt} {p:Pt},p∈qc l more->p∈l∨p∈more
 | [],_,_,h=>.inl h
 | x::r,l,p,h=>by
  rcases zoy r (l:=yk l x) h with h | h
  ·exact (zy9 h).imp id fun e=>by rw [e];exact .head _
  ·exact .inr (.tail _ h)
theorem zwr{l:List Pt}{p:Pt}(h:p∈qi l):p∈l:=by
 unfold qi at h
 split at h
 ·exact List.dropLast_subset l h
 ·exact h
theorem zBD{l:List Pt}(x:Pt):yk l x≠[]:=by
 unfold yk;split
 ·rename_i h;intro e;rw [e] at h;cases h
 ·simp
theorem zrZ:∀(more:List Pt) {l:List Pt},l≠[]->qc l more≠[]
 | [],_,h=>h
 | x::r,l,_=>zrZ r (zBD x)
theorem zza{l:List Pt}(h:l≠[]):qi l≠[]:=by
 unfold qi;split
 ·rename_i k;intro e;have:l.dropLast.length=0:=by rw [e];rfl
  rw [List.length_dropLast] at this;omega
 ·exact h
theorem zws(l:List Pt)(x:Pt):(yk l x).getLast?=some x:=by
 unfold yk;split
 ·assumption
 ·simp
theorem ztJ{l:List Pt}(h:yC l)(h1:1 < (qi l).length):(qi l).getLast?≠(qi l).head?:=by
 unfold qi at h1 ⊢
 split
 ·rename_i k;rw [if_pos k] at h1;rw [List.length_dropLast] at h1;intro e
  -- l=d++[z]
  obtain ⟨d,z,rfl⟩:∃d z,l=d++[z]:=⟨l.dropLast,l.getLast (by intro h;rw [h] at k;simp at k),(List.dropLast_concat_getLast _).symm⟩;rw [List.dropLast_concat] at e;simp at h1;obtain ⟨d',y,rfl⟩:∃d' y,d=d'++[y]:=⟨d.dropLast,d.getLast (by intro h;rw [h] at h1;simp at h1),(List.dropLast_concat_getLast _).symm⟩;have e1:(d'++[y]++[z]).head?=(d'++[y]).head?:=by cases d' <;> rfl
  rw [e1,← e] at k;have e2:=k.2;rw [List.getLast?_concat,List.getLast?_concat] at e2;have e3:z=y:=Option.some.inj e2;clear e e1 k h1 e2
  induction d' with
  | nil=>exact h.1 z rfl e3.symm
  | cons w d' ih=>exact ih h.2
 ·rename_i k;rw [if_neg k] at h1;intro e;exact k ⟨h1,e⟩
def InvP(lo hi:Pt)(S:List Pl)(last:Int):Prop:=
 (S=[]/\last=5∨∃cl p,S=cl++[p]/\(p.cl=true↔last=5))/\∀q∈S,q.pts≠[]/\yC q.pts/\∀z∈q.pts,inB lo hi z
theorem zk0{l:List Pt}(h:l≠[]):zaN l∈l:=by
 unfold zaN;rw [List.getLastD_eq_getLast?,List.getLast?_eq_some_getLast h];exact List.getLast_mem h
theorem zqs{s:Sg}(h:s.v=1∨s.v=2):kj s=[s.a]:=by
 unfold kj
 rcases h with h | h <;> rw [h] <;> rfl
theorem zwt{s:Sg}(h:s.v=3):kj s=[s.a,s.b]:=by unfold kj;rw [h];rfl
theorem zwu{s:Sg}(h:s.v=4):kj s=[s.a,s.b,s.c]:=by unfold kj;rw [h];rfl
theorem zBE{lo hi p:Pt}{s:Sg}{tol:Int}(he:0<=nm s.v)(h5:s.v≠5)(hp:inB lo hi p)(hs:∀q∈kj s,inB lo hi q)(h0:(q9 p s tol).2=0):∀q∈(q9 p s tol).1,inB lo hi q:=by
 unfold q9 at h0 ⊢
 rcases zgz he with h | h | h | h | h
 ·rw [if_neg oM,if_neg oM] at h0 ⊢;intro q hq;rw [zqs (.inl h)] at hs;exact hs q hq
 ·rw [if_neg oM,if_neg oM] at h0 ⊢;intro q hq;rw [zqs (.inr h)] at hs;exact hs q hq
 ·rw [if_pos h] at h0 ⊢;rw [zwt h] at hs
  exact zwp h0 fun q hq=>by
   cases hq with
   | head=>exact hp
   | tail _ hq=>exact hs q hq
 ·rw [if_neg oM,if_pos h] at h0 ⊢;rw [zwu h] at hs
  exact zwq h0 fun q hq=>by
   cases hq with
   | head=>exact hp
   | tail _ hq=>exact hs q hq
 ·exact absurd h h5
theorem zwv{lo hi:Pt}{S:List Pl}{last tol:Int}{x:Sg}(h:InvP lo hi S last)(he:js last x=0)(hx:∀p∈kj x,inB lo hi p)(h0:(jU tol (S,0) x).2=0):InvP lo hi (jU tol (S,0) x).1 x.v:=by
 obtain ⟨e1,e2,e3⟩:=yp.1 he;rw [zd5] at h0 ⊢
 by_cases h1:x.v=1
 ·rw [if_pos h1] at h0 ⊢;refine ⟨.inr ⟨S,_,rfl,⟨fun k=>(by cases k),fun k=>by omega⟩⟩,fun q hq=>?_⟩
  rcases List.mem_append.1 hq with hq | hq
  ·exact h.2 q hq
  ·have:=List.mem_singleton.1 hq;subst this;refine ⟨by simp,⟨fun _ h=>(by cases h),trivial⟩,fun z hz=>?_⟩;have:=List.mem_singleton.1 hz;subst this;exact hx _ (by rw [zqs (.inl h1)];exact .head _)
 rw [if_neg h1] at h0 ⊢;obtain ⟨hl,hv⟩:=e2.resolve_left h1;obtain ⟨cl,p,rfl,hc⟩:∃cl p,S=cl++[p]/\(p.cl=true↔last=5):=h.1.resolve_left (fun k=>hl k.2);have eg:(cl++[p]).getLastD ⟨[],false⟩=p:=by simp
 rw [eg] at h0 ⊢
 by_cases h2:(zaO p x tol).2≠0
 ·rw [if_pos h2] at h0;exact absurd h0 h2
 rw [if_neg h2] at h0 ⊢;have h2:=Decidable.not_not.1 h2;obtain ⟨p1,p2,p3⟩:=h.2 p (by simp);rw [List.dropLast_concat]
 have hg:((zaO p x tol).1.cl=true↔x.v=5)/\(zaO p x tol).1.pts≠[]/\yC (zaO p x tol).1.pts/\∀z∈(zaO p x tol).1.pts,inB lo hi z:=by
  unfold zaO at h2 ⊢
  by_cases h5:x.v=5
  ·rw [if_pos h5];exact ⟨⟨fun _=>h5,fun _=>rfl⟩,zza p1,zjd p2,fun z hz=>p3 z (zwr hz)⟩
  rw [if_neg h5] at h2 ⊢
  by_cases h3:(q9 (zaN p.pts) x tol).2≠0
  ·rw [if_pos h3] at h2;exact absurd h2 h3
  rw [if_neg h3] at h2 ⊢;have h3:=Decidable.not_not.1 h3;refine ⟨⟨fun k=>absurd (hc.1 k) hl,fun k=>absurd k h5⟩,zrZ _ p1,zjb _ p2,fun z hz=>?_⟩
  rcases zoy _ hz with hz | hz
  ·exact p3 z hz
  ·exact zBE e1 h5 (p3 _ (zk0 p1)) hx h3 z hz
 refine ⟨.inr ⟨cl,_,rfl,hg.1⟩,fun q hq=>?_⟩
 rcases List.mem_append.1 hq with hq | hq
 ·exact h.2 q (List.mem_append_left _ hq)
 ·have:=List.mem_singleton.1 hq;subst this;exact hg.2
def zr0(last:Int)(l:List Sg)(i:Nat):Int:=if i=0 then last else (l[i - 1]?.map Sg.v).getD 0
theorem zqt{last:Int}{l:List Sg}{i:Nat}{x:Sg}(h:l[i]? =some x):zr0 last l (i+1)=x.v:=by
 unfold zr0;rw [if_neg oM,show i+1 - 1=i by omega,h];rfl
theorem zqu:∀{l:List Sg} {last:Int} {i:Nat} {x:Sg},oks last l->l[i]? =some x->js (zr0 last l i) x=0
 | [],_,i,_,_,h=>by simp at h
 | s::r,last,0,x,h,hx=>by cases hx;exact h.1
 | s::r,last,i+1,x,h,hx=>by
  have hx:r[i]? =some x:=hx;have:=zqu h.2 hx
  cases i with
  | zero=>exact this
  | succ i=>exact this
theorem vr{l:List Sg}{tol:Int}{i:Nat}{x:Sg}(h:l[i]? =some x):ja (l.take (i+1)) tol=jU tol (ja (l.take i) tol) x:=by
 unfold ja;rw [List.take_add_one,h];simp [List.foldl_append]
theorem zoz{tol:Int}:∀(r:List Sg) {st:List Pl×Int},st.2≠0->r.foldl (jU tol) ([],st.2)=([],st.2)
 | [],_,_=>rfl
 | x::r,st,h=>by
  rw [List.foldl_cons];have:jU tol ([],st.2) x=([],st.2):=by unfold jU;rw [if_pos h]
  rw [this];exact zoz r (st:=st) h
theorem zww{tol:Int}{st:List Pl×Int}{x:Sg}(h:(jU tol st x).2≠0):jU tol st x=([],(jU tol st x).2):=by
 unfold jU at h ⊢
 split
 ·rfl
 ·rename_i h0;rw [if_neg h0] at h
  split
  ·rename_i h1;rw [if_pos h1] at h;exact absurd rfl h
  ·rename_i h1;rw [if_neg h1] at h
   split
   ·rfl
   ·rename_i h2;rw [if_neg h2] at h;exact absurd rfl h
theorem ztK{l:List Sg}{tol:Int}{i:Nat}{x:Sg}(hx:l[i]? =some x)(h:(ja (l.take (i+1)) tol).2≠0):ja l tol=([],(ja (l.take (i+1)) tol).2):=by
 have e:ja l tol=(l.drop (i+1)).foldl (jU tol) (ja (l.take (i+1)) tol):=by
  unfold ja;rw [← List.foldl_append,List.take_append_drop]
 rw [e];rw [vr hx] at h ⊢;rw [zww h];exact zoz _ (st:=jU tol (ja (l.take i) tol) x) h
theorem zfF{lo hi:Pt}{l:List Sg}{tol:Int}(hv:oks 5 l)(hb:∀p∈qb l,inB lo hi p):∀i,i<=l.length->(ja (l.take i) tol).2=0->InvP lo hi (ja (l.take i) tol).1 (zr0 5 l i)
 | 0,_,_=>⟨.inl ⟨rfl,rfl⟩,fun q hq=>(by cases hq)⟩
 | i+1,hi',h=>by
  have hx:l[i]? =some l[i]:=List.getElem?_eq_getElem oM;rw [vr hx] at h ⊢
  by_cases h0:(ja (l.take i) tol).2=0
  ·have ih:=zfF hv hb i oM h0;rw [zqt hx];have e:ja (l.take i) tol=((ja (l.take i) tol).1,0):=by rw [← h0]
   rw [e] at h ⊢;exact zwv ih (zqu hv hx) (fun p hp=>hb p (List.mem_flatMap.2 ⟨_,List.getElem_mem _,hp⟩)) h
  ·unfold jU at h;rw [if_pos h0] at h;exact absurd h h0
def qP(d:List Int)(i:Nat):Int:=256*(d.take i).sum
def uD(d:List Int):Int:=256*d.sum
def zhf:List Int->Int->Nat->Nat×Int
 | [],_,_=>(0,0)
 | e::r,k,i=>if k < 256*e then (i,256*e - k) else zhf r (k - 256*e) (i+1)
def phD(pen:Pen)(t:Int):Int:=(t % uD pen.d+(256*pen.ph) % uD pen.d) % uD pen.d
def onD(pen:Pen)(t:Nat):Prop:=(zhf pen.d (phD pen t) 0).1 % 2=0
instance (pen:Pen) (t:Nat):Decidable (onD pen t):=inferInstanceAs (Decidable (_=_))
theorem vO(d:List Int):qP d d.length=uD d:=by unfold qP uD;rw [List.take_length]
theorem vt{d:List Int}{i:Nat}{e:Int}(h:d[i]? =some e):qP d (i+1)=qP d i+256*e:=by
 unfold qP;rw [List.take_add_one,h];simp [Int.mul_add]
theorem vu(d:List Int):qP d 0=0:=rfl
theorem zje:∀{d:List Int},(∀n∈d,0<=n)->0<=d.sum
 | [],_=>dC
 | e::r,h=>by
  rw [List.sum_cons];have:=h e (.head _);have:=zje (d:=r) fun n hn=>h n (.tail _ hn)
  omega
theorem zwx:∀{d:List Int},(∀n∈d,n<=1048576)->d.sum<=1048576*(d.length:Int)
 | [],_=>dC
 | e::r,h=>by
  rw [List.sum_cons,List.length_cons];have:=h e (.head _);have:=zwx (d:=r) fun n hn=>h n (.tail _ hn)
  omega
theorem zgB{d:List Int}(h:∀n∈d,0<=n){i j:Nat}(hij:i<=j):qP d i<=qP d j:=by
 unfold qP
 have e:d.take j=d.take i++(d.take j).drop i:=by
  have:=(List.take_append_drop i (d.take j)).symm
  rwa [List.take_take,Nat.min_eq_left hij] at this
 rw [e,List.sum_append];have:=zje (d:=(d.take j).drop i) fun n hn=>h n (List.mem_of_mem_take (List.mem_of_mem_drop hn))
 omega
theorem zhQ:∀{d:List Int} {i i0:Nat} {k e:Int},(∀n∈d,0<=n)->d[i]? =some e->qP d i<=k->k < qP d i+256*e->zhf d k i0=(i0+i,qP d i+256*e - k)
 | [],i,_,_,_,_,h,_,_=>by simp at h
 | a::r,0,i0,k,e,hn,h,h1,h2=>by
  cases h
  rw [vu] at*;unfold zhf;rw [if_pos oM];simp
 | a::r,i+1,i0,k,e,hn,h,h1,h2=>by
  have h:r[i]? =some e:=h;have e1:qP (a::r) (i+1)=256*a+qP r i:=by unfold qP;rw [List.take_succ_cons,List.sum_cons,Int.mul_add]
  have hm:=zgB (d:=r) (fun n hn'=>hn n (.tail _ hn')) (Nat.zero_le i);rw [vu] at hm;rw [e1] at h1 h2 ⊢;unfold zhf;rw [if_neg oM,zhQ (fun n hn'=>hn n (.tail _ hn')) h oM oM];exact Prod.ext (by dsimp only;omega) (by dsimp only;omega)
theorem zr1:∀{d:List Int} {k:Int},(∀n∈d,0<=n)->0<=k->k < uD d->∃i e,d[i]? =some e/\qP d i<=k/\k < qP d i+256*e
 | [],k,_,h0,h=>by unfold uD at h;simp at h;omega
 | a::r,k,hn,h0,h=>by
  by_cases c:k < 256*a
  ·exact ⟨0,a,rfl,h0,by rw [vu];omega⟩
  ·have e1:uD (a::r)=256*a+uD r:=by unfold uD;rw [List.sum_cons,Int.mul_add]
   obtain ⟨i,e,g1,g2,g3⟩:=zr1 (d:=r) (k:=k - 256*a) (fun n hn'=>hn n (.tail _ hn')) oM oM;have e2:qP (a::r) (i+1)=256*a+qP r i:=by unfold qP;rw [List.take_succ_cons,List.sum_cons,Int.mul_add]
   exact ⟨i+1,e,g1,oM,oM⟩
def qI(on:Nat->Prop)[DecidablePred on]:Nat->List (Nat×Nat)×Option Nat
 | 0=>([],none)
 | t+1=>if on t then ((qI on t).1,some ((qI on t).2.getD t)) else ((qI on t).1++((qI on t).2.map fun f=>(f,t)).toList,none)
def zfG(on:Nat->Prop)[DecidablePred on](t:Nat):List (Nat×Nat):=(qI on t).1++((qI on t).2.map fun f=>(f,t)).toList
section
variable {on:Nat->Prop} [DecidablePred on]
theorem zan(t:Nat):qI on (t+1)=if on t then ((qI on t).1,some ((qI on t).2.getD t)) else ((qI on t).1++((qI on t).2.map fun f=>(f,t)).toList,none):=rfl
theorem zBF{a b:Nat}(hab:a < b)(h:∀t,a<=t->t < b->on t):qI on b=((qI on a).1,some ((qI on a).2.getD a)):=by
 obtain ⟨k,rfl⟩:∃k,b=a+1+k:=⟨b - a - 1,oM⟩
 induction k with
 | zero=>rw [show a+1+0=a+1 from rfl,zan,if_pos (h a (Nat.le_refl _) oM)]
 | succ k ih=>
  rw [show a+1+(k+1)=(a+1+k)+1 from rfl,zan,if_pos (h _ oM oM),ih oM fun t h1 h2=>h t h1 oM];rfl
theorem zzb{a b:Nat}(hab:a < b)(h:∀t,a<=t->t < b->¬on t):qI on b=(zfG on a,none):=by
 obtain ⟨k,rfl⟩:∃k,b=a+1+k:=⟨b - a - 1,oM⟩
 induction k with
 | zero=>rw [show a+1+0=a+1 from rfl,zan,if_neg (h a (Nat.le_refl _) oM)];rfl
 | succ k ih=>
  rw [show a+1+(k+1)=(a+1+k)+1 from rfl,zan,if_neg (h _ oM oM),ih oM fun t h1 h2=>h t h1 oM];exact Prod.ext (List.append_nil _) rfl
theorem zoA{a:Nat}:∀k,∃r,(qI on (a+k)).1=(qI on a).1++r
 | 0=>⟨[],by simp⟩
 | k+1=>by
  obtain ⟨r,hr⟩:=zoA (a:=a) k;rw [show a+(k+1)=(a+k)+1 from rfl,zan]
  split
  ·exact ⟨r,hr⟩
  ·exact ⟨r++_,by rw [← List.append_assoc,← hr]⟩
theorem zwy{a b:Nat}(hab:a<=b):∃r,zfG on b=(qI on a).1++r:=by
 obtain ⟨k,rfl⟩:∃k,b=a+k:=⟨b - a,oM⟩;obtain ⟨r,hr⟩:=zoA (on:=on) (a:=a) k;exact ⟨r++_,by unfold zfG;rw [hr,List.append_assoc]⟩
theorem zk1:∀t,(∀q∈(qI on t).1,q.1 < q.2/\q.2 < t)/\∀f,(qI on t).2=some f->f < t
 | 0=>⟨fun q hq=>(by cases hq),fun f h=>(by cases h)⟩
 | t+1=>by
  have ih:=zk1 t;rw [zan]
  split
  ·refine ⟨fun q hq=>⟨(ih.1 q hq).1,by have:=(ih.1 q hq).2;omega⟩,fun f hf=>?_⟩;have hf:=Option.some.inj hf
   cases ho:(qI on t).2 with
   | none=>rw [ho] at hf;simp at hf;omega
   | some f'=>rw [ho] at hf;simp at hf;have:=ih.2 f' ho;omega
  ·refine ⟨fun q hq=>?_,fun f hf=>by cases hf⟩
   rcases List.mem_append.1 hq with hq | hq
   ·exact ⟨(ih.1 q hq).1,by have:=(ih.1 q hq).2;omega⟩
   ·cases ho:(qI on t).2 with
    | none=>rw [ho] at hq;cases hq
    | some f'=>
     rw [ho] at hq;have:=List.mem_singleton.1 hq;subst this;exact ⟨ih.2 f' ho,by dsimp only;omega⟩
theorem zqv{t:Nat}:∀q∈zfG on t,q.1 < q.2/\q.2<=t:=fun q hq=>by
 have h:=zk1 (on:=on) t
 rcases List.mem_append.1 hq with hq | hq
 ·exact ⟨(h.1 q hq).1,by have:=(h.1 q hq).2;omega⟩
 ·cases ho:(qI on t).2 with
  | none=>rw [ho] at hq;cases hq
  | some f'=>
   rw [ho] at hq;have:=List.mem_singleton.1 hq;subst this;exact ⟨h.2 f' ho,Nat.le_refl _⟩
end
def drawn(d:List Int):Int:=256*((List.range d.length).map fun i=>if i % 2=0 then d.getD i 0 else 0).sum
def qC(pen:Pen)(long:Int):List (Nat×Nat):=
 if ¬qa pen∨long < 1∨(0 < uD pen.d/\drawn pen.d=0) then []
 else if uD pen.d=drawn pen.d then [(0,long.toNat)] else zfG (onD pen) long.toNat
def zmH(a b:Pt):Int:=zv5 (subP b a)
def je(p:Pl):List Pt:=if p.cl=true/\2<=(zL p).pts.length then (zL p).pts++[nth (zL p).pts 0] else (zL p).pts
def atS(c:List Pt):Nat->Int
 | 0=>0
 | i+1=>atS c i+zmH (nth c i) (nth c (i+1))
def qr(p:Pl):Int:=atS (je p) ((je p).length - 1)
def zkk(c:List Pt)(x:Int):Nat->Nat
 | 0=>0
 | i+1=>if x < atS c (i+1) then zkk c x i else i+1
def zhx(c:List Pt)(x:Int):Pt:=
 let i:=zkk c x (c.length - 2)
 zaJ (nth c i) (nth c (i+1)) (x - atS c i) (atS c (i+1) - atS c i)
def zoB(c:List Pt)(f t:Int)(n:Nat):List Pt:=((List.range n).filter fun i=>decide (f < atS c i/\atS c i < t)).map (nth c)
def zei(c:List Pt)(f t:Int):List Pt:=qc [] ([zhx c f]++zoB c f t (c.length - 1)++[zhx c t])
def y8(p:Pl)(q:Nat×Nat):Pl:=if p.cl=true/\q.1=0/\(q.2:Int)=qr p then zL p else ⟨zei (je p) q.1 q.2,false⟩
def yx(p:Pl)(pen:Pen):List Pl×Int:=
 if ¬qa pen then ([],13) else if ¬∀q∈p.pts,zn q then ([],6) else if 4096 < p.pts.length then ([],5)
 else if pen.d=[] then ([zL p],0)
 else if 4096 < yw ((qC pen (qr p)).map (y8 p)) then ([],5) else ((qC pen (qr p)).map (y8 p),0)
open Go.Proofs
def goP(t:AF)(p:Pt):Pt:=⟨(y6 t (p.x:Rat) (p.y:Rat)+Rat.divInt 1 2).floor,(y7 t (p.x:Rat) (p.y:Rat)+Rat.divInt 1 2).floor⟩
def kT(t:AF)(p:Pt):Pt×Int:=if ¬t.ok then (zp,5) else if ¬zn p then (zp,6) else if zn (goP t p) then (goP t p,0) else (zp,6)
theorem zce(t:AF)(p:Pt)(ht:t.le 100000):zd Tryz.prog 59 [.agg (afE t),.agg (ptE p)] [] (.tup [.agg (ptE (kT t p).1),i64 (kT t p).2]) []:=by
 obtain ⟨ha,hb,hc,hd,he,hf⟩:=ht;refine zc tok mix Tryz.func59 rfl rfl rfl ?_;have fin:∀(q:Pt) (n:Int),(kT t p)=(q,n)->LE (.tup [.agg (ptE q),i64 n]) (.tup [.agg (ptE (kT t p).1),i64 (kT t p).2]):=fun q n h=>by rw [h];exact .refl
 refine zb.t (zb7 t ⟨oM,oM,oM,oM,oM,oM⟩) ?_;refine Br.mk (fun h1=>?_) (fun h1=>?_)
 ·exact fin zp 5 (by rw [kT,if_pos h1])
 refine zb.t (kS p) ?_;refine Br.mk (fun h2=>?_) (fun h2=>?_)
 ·exact fin zp 6 (by rw [kT,if_neg h1,if_pos h2])
 have hp:zn p:=Classical.byContradiction h2;have hx:R64 p.x:=by unfold R64;unfold zn at hp;omega
 have hy:R64 p.y:=by unfold R64;unfold zn at hp;omega
 have lx:=ziY p.x;have ly:=ziY p.y;have zx:=uZ hx;have zy:=uZ hy;refine Dr.k ?_;refine zb.t (ye p.x hx) ?_;refine zb.t (ye p.y hy) ?_;refine zb.t (zhN t (ofQ (p.x:Rat)) (ofQ (p.y:Rat)) ⟨oM,oM,oM,oM,oM,oM⟩ (by rw [zz];omega) (by rw [zz];omega)) ?_;rw [zV,zV];have lX:=qF t.a (ofQ (p.x:Rat)) t.c (ofQ (p.y:Rat)) t.e (n:=100000) ha (by rw [zz];omega) hc (by rw [zz];omega) he;have lY:=qF t.b (ofQ (p.x:Rat)) t.d (ofQ (p.y:Rat)) t.f (n:=100000) hb (by rw [zz];omega) hd (by rw [zz];omega) hf;rw [zV,zV] at lX lY
 have lh:jX (Rat.divInt 1 2)<=1:=by decide +kernel
 have mX:=zc6 (y6 t p.x p.y) (Rat.divInt 1 2);have mY:=zc6 (y7 t p.x p.y) (Rat.divInt 1 2);have lX2:jX (y6 t p.x p.y)<=500007:=lX.2;have lY2:jX (y7 t p.x p.y)<=500007:=lY.2
 have fl:∀q:Rat,jt q.floor<=jX q:=fun q=>Nat.le_trans (zdS (by
  rw [Rat.floor_def]
  exact Int.natAbs_ediv_le_natAbs _ _)) (kR q)
 have fX:=fl (y6 t p.x p.y+Rat.divInt 1 2);have fY:=fl (y7 t p.x p.y+Rat.divInt 1 2);refine zb.t (zqf 1 2 dC dC dC) ?_;refine zb.t (zoa (ofQ (y6 t p.x p.y)) (ofQ (Rat.divInt 1 2)) (by rw [zz];omega) (by rw [zz];omega)) ?_;rw [zV,zV];refine zb.t (zrL (ofQ (y6 t p.x p.y+Rat.divInt 1 2)) (by rw [zz];omega)) ?_;rw [zV];refine zb.t (zrJ (ofZ (y6 t p.x p.y+Rat.divInt 1 2).floor) (by rw [zM];omega)) ?_;refine zb.t (zoa (ofQ (y7 t p.x p.y)) (ofQ (Rat.divInt 1 2)) (by rw [zz];omega) (by rw [zz];omega)) ?_;rw [zV,zV]
 refine zb.t (zrL (ofQ (y7 t p.x p.y+Rat.divInt 1 2)) (by rw [zz];omega)) ?_;rw [zV];refine zb.t (zrJ (ofZ (y7 t p.x p.y+Rat.divInt 1 2).floor) (by rw [zM];omega)) ?_;rw [zZ,zZ];obtain ⟨X,hX⟩:∃X,(y6 t p.x p.y+Rat.divInt 1 2).floor=X:=⟨_,rfl⟩;obtain ⟨Y,hY⟩:∃Y,(y7 t p.x p.y+Rat.divInt 1 2).floor=Y:=⟨_,rfl⟩;have hg:goP t p=⟨X,Y⟩:=by unfold goP;rw [hX,hY]
 rw [hX,hY];have out:¬zn ⟨X,Y⟩->kT t p=(zp,6):=fun h=>by rw [kT,if_neg h1,if_neg h2,if_neg (by rw [hg];exact h)]
 have inn:zn ⟨X,Y⟩->kT t p=(⟨X,Y⟩,0):=fun h=>by rw [kT,if_neg h1,if_neg h2,if_pos (by rw [hg];exact h),hg]
 have big:zn ⟨X,Y⟩->(-9223372036854775808<=X/\X<=9223372036854775807)/\(-9223372036854775808<=Y/\Y<=9223372036854775807):=fun h=>by unfold zn at h;dsimp only at h;omega
 refine Br.mk (fun h3=>?_) (fun h3=>?_)
 ·refine Br.mk (fun h4=>?_) (fun h4=>?_)
  ·refine zb.t (kS ⟨zaY X,zaY Y⟩) ?_;rw [zaY,if_pos h3,zaY,if_pos h4];refine Br.mk (fun h5=>?_) (fun h5=>?_)
   ·exact fin ⟨X,Y⟩ 0 (inn h5)
   ·exact fin zp 6 (out h5)
  ·exact fin zp 6 (out fun h=>h4 (big h).2)
 ·exact fin zp 6 (out fun h=>h3 (big h).1)
end Go.Gs
