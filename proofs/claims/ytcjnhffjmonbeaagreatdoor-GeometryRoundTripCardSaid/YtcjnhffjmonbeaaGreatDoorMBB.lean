/- Paths cut to polylines: plain. -/
import Derived.Test.YtcjnhffjmonbeaaGreatDoorMA
import Derived.Test.YtcjnhffjmonbeaaGreatDoorMBA
import Derived.Test.YtcjnhffjmonbeaaGreatDoorMAZ
import Derived.Test.YtcjnhffjmonbeaaGreatDoorMAY
import Derived.Test.YtcjnhffjmonbeaaGreatDoorMAX
import Derived.Test.YtcjnhffjmonbeaaGreatDoorMAT
set_option maxRecDepth 100000
set_option maxHeartbeats 8000000
set_option linter.all false
namespace Go.Gs
theorem zaR{α:Type}{p:Prop}[Decidable p](h:p){a b:α}:(if ¬p then a else b)=b:=if_neg (fun k=>k h)
theorem zcJ{α:Type}{n:Int}(h:n=0){a b:α}:(if n≠0 then a else b)=b:=if_neg (fun k=>k h)
def zag(q:List Pt)(x:Pt):List Pt:=if q.getLast?=some x then q else q++[x]
def qj(q more:List Pt):List Pt:=more.foldl zag q
def qJ(p:Pt)(s:Sg)(tol:Int):List Pt×Int:=if s.v=3 then zaP p s.a s.b tol else if s.v=4 then zaQ p s.a s.b s.c tol else ([s.a],0)
def zdK(l:List Pt):Pt:=l.getLastD zp
def vT(p:Pl)(s:Sg)(tol:Int):Pl×Int:=
 if s.v=5 then (⟨je p.pts,true⟩,0)
 else if (qJ (zdK p.pts) s tol).2≠0 then (p,(qJ (zdK p.pts) s tol).2)
 else (⟨qj p.pts (qJ (zdK p.pts) s tol).1,p.cl⟩,0)
def jk(tol:Int)(st:List Pl×Int)(s:Sg):List Pl×Int:=
 if st.2≠0 then ([],st.2)
 else if s.v=1 then (st.1++[⟨[s.a],false⟩],0)
 else if (vT (st.1.getLastD ⟨[],false⟩) s tol).2≠0 then ([],(vT (st.1.getLastD ⟨[],false⟩) s tol).2)
 else (st.1.dropLast++[(vT (st.1.getLastD ⟨[],false⟩) s tol).1],0)
theorem zec{tol:Int}{S:List Pl}{s:Sg}:jk tol (S,0) s=
  if s.v=1 then (S++[⟨[s.a],false⟩],0)
  else if (vT (S.getLastD ⟨[],false⟩) s tol).2≠0 then ([],(vT (S.getLastD ⟨[],false⟩) s tol).2)
  else (S.dropLast++[(vT (S.getLastD ⟨[],false⟩) s tol).1],0):=if_neg (fun k:(0:Int)≠0=>k rfl)
def zty(l:List Sg)(tol:Int):List Pl×Int:=l.foldl (jk tol) ([],0)
def uK(l:List Pl):Nat:=(l.map fun p=>p.pts.length).sum
def zcK(tol:Int):Prop:=1<=tol/\tol<=256
instance (tol:Int):Decidable (zcK tol):=inferInstanceAs (Decidable (_/\_))
def kZ(l:List Sg)(tol:Int):List Pl×Int:=
 if ¬kY l then ([],10) else if ¬zcK tol then ([],2) else if (zty l tol).2≠0 then ([],(zty l tol).2)
 else if 4096 < uK (zty l tol).1 then ([],5) else ((zty l tol).1,0)
def inB(lo hi p:Pt):Prop:=(lo.x<=p.x/\p.x<=hi.x)/\(lo.y<=p.y/\p.y<=hi.y)
theorem zlQ{a b lo hi:Int}(hb:0 < b)(h1:lo*b<=a)(h2:a<=hi*b):lo<=zcD a b/\zcD a b<=hi:=by
 unfold zcD;constructor
 ·rw [Int.le_ediv_iff_mul_le oM];have:lo*(2*b)=2*(lo*b):=by grind
  omega
 ·have h3:(2*a+b) / (2*b) < hi+1:=by
   rw [Int.ediv_lt_iff_lt_mul oM];have:(hi+1)*(2*b)=2*(hi*b)+2*b:=by grind
   omega
  omega
theorem zrZ{i n a b c lo hi:Int}(hn:1<=n)(hi0:0<=i)(hin:i<=n)(ha:lo<=a/\a<=hi)(hb:lo<=b/\b<=hi)(hc:lo<=c/\c<=hi):lo<=q1 i n a b c/\q1 i n a b c<=hi:=by
 unfold q1;have w0:0<=(n - i)*(n - i):=Int.mul_nonneg oM oM;have w1:0<=2*i*(n - i):=Int.mul_nonneg oM oM;have w2:0<=i*i:=Int.mul_nonneg oM oM;have e:n*n=(n - i)*(n - i)+2*i*(n - i)+i*i:=by grind
 have g1:=Int.mul_nonneg w0 (show 0<=a - lo by omega);have g2:=Int.mul_nonneg w1 (show 0<=b - lo by omega);have g3:=Int.mul_nonneg w2 (show 0<=c - lo by omega);have g4:=Int.mul_nonneg w0 (show 0<=hi - a by omega);have g5:=Int.mul_nonneg w1 (show 0<=hi - b by omega);have g6:=Int.mul_nonneg w2 (show 0<=hi - c by omega);refine zlQ (Int.mul_pos oM oM) ?_ ?_
 ·rw [e];grind
 ·rw [e];grind
theorem zr0{i n a b c d lo hi:Int}(hn:1<=n)(hi0:0<=i)(hin:i<=n)(ha:lo<=a/\a<=hi)(hb:lo<=b/\b<=hi)(hc:lo<=c/\c<=hi)(hd:lo<=d/\d<=hi):
  lo<=c1 i n a b c d/\c1 i n a b c d<=hi:=by
 unfold c1;have w0:0<=(n - i)*(n - i)*(n - i):=Int.mul_nonneg (Int.mul_nonneg oM oM) oM;have w1:0<=3*i*(n - i)*(n - i):=Int.mul_nonneg (Int.mul_nonneg oM oM) oM;have w2:0<=3*i*i*(n - i):=Int.mul_nonneg (Int.mul_nonneg oM oM) oM;have w3:0<=i*i*i:=Int.mul_nonneg (Int.mul_nonneg oM oM) oM;have e:n*n*n=(n - i)*(n - i)*(n - i)+3*i*(n - i)*(n - i)+3*i*i*(n - i)+i*i*i:=by grind
 have g1:=Int.mul_nonneg w0 (show 0<=a - lo by omega);have g2:=Int.mul_nonneg w1 (show 0<=b - lo by omega);have g3:=Int.mul_nonneg w2 (show 0<=c - lo by omega);have g4:=Int.mul_nonneg w3 (show 0<=d - lo by omega);have k1:=Int.mul_nonneg w0 (show 0<=hi - a by omega);have k2:=Int.mul_nonneg w1 (show 0<=hi - b by omega);have k3:=Int.mul_nonneg w2 (show 0<=hi - c by omega);have k4:=Int.mul_nonneg w3 (show 0<=hi - d by omega);refine zlQ (Int.mul_pos (Int.mul_pos oM oM) oM) ?_ ?_
 ·rw [e];grind
 ·rw [e];grind
theorem zdL(need tol:Int):∀(k n:Nat),1<=n->(yA need tol k n).2=0->1<=(yA need tol k n).1/\(yA need tol k n).1<=(n+k:Nat) - 1
 | 0,n,_,h=>by cases h
 | k+1,n,hn,h=>by
  unfold yA at h ⊢
  split
  ·exact ⟨by dsimp only;omega,by dsimp only;omega⟩
  ·rename_i c;rw [if_neg c] at h;have:=zdL need tol k (n+1) oM h;omega
theorem ug{need tol:Int}{l:List Pt}(h:(qw need tol l).2=0):(1<=(qw need tol l).1/\(qw need tol l).1<=64)/\zcK tol/\(∀p∈l,zP p)/\qw need tol l=yA need tol 64 1:=by
 unfold qw at h ⊢
 by_cases h1:¬(1<=tol/\tol<=256)
 ·rw [if_pos h1] at h;exact absurd h dC
 rw [if_neg h1] at h ⊢
 by_cases h2:¬∀p∈l,zP p
 ·rw [if_pos h2] at h;exact absurd h dC
 rw [if_neg h2] at h ⊢;have:=zdL need tol 64 1 dC h;exact ⟨oM,Decidable.not_not.1 h1,Decidable.not_not.1 h2,rfl⟩
theorem zjq{f:Int->Pt}{n:Nat}{p:Pt}(h:p∈zcH f n):∃i:Nat,i < n/\p=f ((i:Int)+1):=by
 unfold zcH at h;obtain ⟨i,hi,rfl⟩:=List.mem_map.1 h;exact ⟨i,List.mem_range.1 hi,rfl⟩
theorem zmW{lo hi a b c:Pt}{i n:Int}(hn:1<=n/\n<=64)(hi':0<=i/\i<=n)(ho:∀p∈[a,b,c],zP p)(h:∀p∈[a,b,c],inB lo hi p):inB lo hi (uB a b c i n):=by
 unfold uB;rw [if_neg (fun k=>k ⟨ho,hn.1,hn.2,hi'.1,hi'.2⟩)];have ha:=h a (by simp);have hb:=h b (by simp);have hc:=h c (by simp);exact ⟨zrZ hn.1 hi'.1 hi'.2 ha.1 hb.1 hc.1,zrZ hn.1 hi'.1 hi'.2 ha.2 hb.2 hc.2⟩
theorem zmX{lo hi a b c d:Pt}{i n:Int}(hn:1<=n/\n<=64)(hi':0<=i/\i<=n)(ho:∀p∈[a,b,c,d],zP p)(h:∀p∈[a,b,c,d],inB lo hi p):inB lo hi (uC a b c d i n):=by
 unfold uC;rw [if_neg (fun k=>k ⟨ho,hn.1,hn.2,hi'.1,hi'.2⟩)];have ha:=h a (by simp);have hb:=h b (by simp);have hc:=h c (by simp);have hd:=h d (by simp);exact ⟨zr0 hn.1 hi'.1 hi'.2 ha.1 hb.1 hc.1 hd.1,zr0 hn.1 hi'.1 hi'.2 ha.2 hb.2 hc.2 hd.2⟩
theorem zo1{lo hi a b c:Pt}{tol:Int}(h0:(zaP a b c tol).2=0)(h:∀p∈[a,b,c],inB lo hi p):∀p∈(zaP a b c tol).1,inB lo hi p:=by
 unfold zaP at h0 ⊢
 split
 ·intro p hp;cases hp
 rename_i h1;have h1:=Decidable.not_not.1 h1;have ok:=ug h1;intro p hp;obtain ⟨i,hi,rfl⟩:=zjq (show p∈zcH (fun i=>uB a b c i (jI a b c tol).1) (jI a b c tol).1.toNat from hp);unfold jI at hi ⊢;exact zmW (by unfold jI at*;omega) (by unfold jI at*;omega) ok.2.2.1 h
theorem zo2{lo hi a b c d:Pt}{tol:Int}(h0:(zaQ a b c d tol).2=0)(h:∀p∈[a,b,c,d],inB lo hi p):∀p∈(zaQ a b c d tol).1,inB lo hi p:=by
 unfold zaQ at h0 ⊢
 split
 ·intro p hp;cases hp
 rename_i h1;have h1:=Decidable.not_not.1 h1;have ok:=ug h1;intro p hp;obtain ⟨i,hi,rfl⟩:=zjq (show p∈zcH (fun i=>uC a b c d i (jJ a b c d tol).1) (jJ a b c d tol).1.toNat from hp);unfold jJ at hi ⊢;exact zmX (by unfold jJ at*;omega) (by unfold jJ at*;omega) ok.2.2.1 h
theorem zfo:∀{l:List Pt} {x:Pt},yh l->l.getLast?≠some x->yh (l++[x])
 | [],x,_,_=>⟨fun _ h=>(by cases h),trivial⟩
 | [p],x,_,h=>⟨fun q hq e=>h (by cases hq;rw [e];rfl),⟨fun _ h=>(by cases h),trivial⟩⟩
 | p::q::r,x,h,hl=>⟨fun z hz=>h.1 z hz,zfo (l:=q::r) h.2 (by rwa [List.getLast?_cons_cons] at hl)⟩
theorem zmY{l:List Pt}(h:yh l)(x:Pt):yh (zag l x):=by
 unfold zag
 split
 ·exact h
 ·rename_i k;exact zfo h k
theorem zfp:∀(more:List Pt) {l:List Pt},yh l->yh (qj l more)
 | [],_,h=>h
 | x::r,l,h=>zfp r (zmY h x)
theorem zfq:∀{l:List Pt},yh l->yh l.dropLast
 | [],_=>trivial
 | [p],_=>trivial
 | [p,q],h=>⟨fun _ h=>(by cases h),trivial⟩
 | p::q::r::s,h=>⟨fun z hz=>h.1 z hz,zfq (l:=q::r::s) h.2⟩
theorem zkO{l:List Pt}(h:yh l):yh (je l):=by
 unfold je;split
 ·exact zfq h
 ·exact h
theorem zqW{l:List Pt}{x p:Pt}(h:p∈zag l x):p∈l∨p=x:=by
 unfold zag at h
 split at h
 ·exact .inl h
 ·simpa using h
theorem zjr:∀(more:List Pt) {l:List Pt} {p:Pt},p∈qj l more->p∈l∨p∈more
 | [],_,_,h=>.inl h
 | x::r,l,p,h=>by
  rcases zjr r (l:=zag l x) h with h | h
  ·exact (zqW h).imp id fun e=>by rw [e];exact .head _
  ·exact .inr (.tail _ h)
theorem zo3{l:List Pt}{p:Pt}(h:p∈je l):p∈l:=by
 unfold je at h
 split at h
 ·exact List.dropLast_subset l h
 ·exact h
theorem zsR{l:List Pt}(x:Pt):zag l x≠[]:=by
 unfold zag;split
 ·rename_i h;intro e;rw [e] at h;cases h
 ·simp
theorem zlR:∀(more:List Pt) {l:List Pt},l≠[]->qj l more≠[]
 | [],_,h=>h
 | x::r,l,_=>zlR r (zsR x)
theorem zqX{l:List Pt}(h:l≠[]):je l≠[]:=by
 unfold je;split
 ·rename_i k;intro e;have:l.dropLast.length=0:=by rw [e];rfl
  rw [List.length_dropLast] at this;omega
 ·exact h
theorem zug(l:List Pt)(x:Pt):(zag l x).getLast?=some x:=by
 unfold zag;split
 ·assumption
 ·simp
theorem ztO:∀(more:List Pt) (l:List Pt),more≠[]->(qj l more).getLast?=more.getLast?
 | [],_,h=>absurd rfl h
 | [x],l,_=>zug l x
 | x::y::r,l,_=>by
  show (qj (zag l x) (y::r)).getLast?=_;rw [ztO (y::r) _ (by simp),List.getLast?_cons_cons]
theorem zt6{l:List Pt}(h:yh l)(h1:1 < (je l).length):(je l).getLast?≠(je l).head?:=by
 unfold je at h1 ⊢
 split
 ·rename_i k;rw [if_pos k] at h1;rw [List.length_dropLast] at h1;intro e
  -- l=d++[z]
  obtain ⟨d,z,rfl⟩:∃d z,l=d++[z]:=⟨l.dropLast,l.getLast (by intro h;rw [h] at k;simp at k),(List.dropLast_concat_getLast _).symm⟩;rw [List.dropLast_concat] at e;simp at h1;obtain ⟨d',y,rfl⟩:∃d' y,d=d'++[y]:=⟨d.dropLast,d.getLast (by intro h;rw [h] at h1;simp at h1),(List.dropLast_concat_getLast _).symm⟩;have e1:(d'++[y]++[z]).head?=(d'++[y]).head?:=by cases d' <;> rfl
  rw [e1,← e] at k;have e2:=k.2;rw [List.getLast?_concat,List.getLast?_concat] at e2;have e3:z=y:=Option.some.inj e2;clear e e1 k h1 e2
  induction d' with
  | nil=>exact h.1 z rfl e3.symm
  | cons w d' ih=>exact ih h.2
 ·rename_i k;rw [if_neg k] at h1;intro e;exact k ⟨h1,e⟩
def InvP(lo hi:Pt)(S:List Pl)(last:Int):Prop:=
 (S=[]/\last=5∨∃cl p,S=cl++[p]/\(p.cl=true↔last=5))/\∀q∈S,q.pts≠[]/\yh q.pts/\∀z∈q.pts,inB lo hi z
theorem zmZ{l:List Pt}(h:l≠[]):zdK l∈l:=by
 unfold zdK;rw [List.getLastD_eq_getLast?,List.getLast?_eq_some_getLast h];exact List.getLast_mem h
theorem zkP{s:Sg}(h:s.v=1∨s.v=2):ky s=[s.a]:=by
 unfold ky
 rcases h with h | h <;> rw [h] <;> rfl
theorem zsS{s:Sg}(h:s.v=3):ky s=[s.a,s.b]:=by unfold ky;rw [h];rfl
theorem zsT{s:Sg}(h:s.v=4):ky s=[s.a,s.b,s.c]:=by unfold ky;rw [h];rfl
theorem zsU{lo hi p:Pt}{s:Sg}{tol:Int}(he:0<=nm s.v)(h5:s.v≠5)(hp:inB lo hi p)(hs:∀q∈ky s,inB lo hi q)(h0:(qJ p s tol).2=0):∀q∈(qJ p s tol).1,inB lo hi q:=by
 unfold qJ at h0 ⊢
 rcases zgI he with h | h | h | h | h
 ·rw [if_neg oM,if_neg oM] at h0 ⊢;intro q hq;rw [zkP (.inl h)] at hs;exact hs q hq
 ·rw [if_neg oM,if_neg oM] at h0 ⊢;intro q hq;rw [zkP (.inr h)] at hs;exact hs q hq
 ·rw [if_pos h] at h0 ⊢;rw [zsS h] at hs
  exact zo1 h0 fun q hq=>by
   cases hq with
   | head=>exact hp
   | tail _ hq=>exact hs q hq
 ·rw [if_neg oM,if_pos h] at h0 ⊢;rw [zsT h] at hs
  exact zo2 h0 fun q hq=>by
   cases hq with
   | head=>exact hp
   | tail _ hq=>exact hs q hq
 ·exact absurd h h5
theorem zo4{lo hi:Pt}{S:List Pl}{last tol:Int}{x:Sg}(h:InvP lo hi S last)(he:qi last x=0)(hx:∀p∈ky x,inB lo hi p)(h0:(jk tol (S,0) x).2=0):InvP lo hi (jk tol (S,0) x).1 x.v:=by
 obtain ⟨e1,e2,e3⟩:=yz.1 he;rw [zec] at h0 ⊢
 by_cases h1:x.v=1
 ·rw [if_pos h1] at h0 ⊢;refine ⟨.inr ⟨S,_,rfl,⟨fun k=>(by cases k),fun k=>by omega⟩⟩,fun q hq=>?_⟩
  rcases List.mem_append.1 hq with hq | hq
  ·exact h.2 q hq
  ·have:=List.mem_singleton.1 hq;subst this;refine ⟨by simp,⟨fun _ h=>(by cases h),trivial⟩,fun z hz=>?_⟩;have:=List.mem_singleton.1 hz;subst this;exact hx _ (by rw [zkP (.inl h1)];exact .head _)
 rw [if_neg h1] at h0 ⊢;obtain ⟨hl,hv⟩:=e2.resolve_left h1;obtain ⟨cl,p,rfl,hc⟩:∃cl p,S=cl++[p]/\(p.cl=true↔last=5):=h.1.resolve_left (fun k=>hl k.2);have eg:(cl++[p]).getLastD ⟨[],false⟩=p:=by simp
 rw [eg] at h0 ⊢
 by_cases h2:(vT p x tol).2≠0
 ·rw [if_pos h2] at h0;exact absurd h0 h2
 rw [if_neg h2] at h0 ⊢;have h2:=Decidable.not_not.1 h2;obtain ⟨p1,p2,p3⟩:=h.2 p (by simp);rw [List.dropLast_concat]
 have hg:((vT p x tol).1.cl=true↔x.v=5)/\(vT p x tol).1.pts≠[]/\yh (vT p x tol).1.pts/\∀z∈(vT p x tol).1.pts,inB lo hi z:=by
  unfold vT at h2 ⊢
  by_cases h5:x.v=5
  ·rw [if_pos h5];exact ⟨⟨fun _=>h5,fun _=>rfl⟩,zqX p1,zkO p2,fun z hz=>p3 z (zo3 hz)⟩
  rw [if_neg h5] at h2 ⊢
  by_cases h3:(qJ (zdK p.pts) x tol).2≠0
  ·rw [if_pos h3] at h2;exact absurd h2 h3
  rw [if_neg h3] at h2 ⊢;have h3:=Decidable.not_not.1 h3;refine ⟨⟨fun k=>absurd (hc.1 k) hl,fun k=>absurd k h5⟩,zlR _ p1,zfp _ p2,fun z hz=>?_⟩
  rcases zjr _ hz with hz | hz
  ·exact p3 z hz
  ·exact zsU e1 h5 (p3 _ (zmZ p1)) hx h3 z hz
 refine ⟨.inr ⟨cl,_,rfl,hg.1⟩,fun q hq=>?_⟩
 rcases List.mem_append.1 hq with hq | hq
 ·exact h.2 q (List.mem_append_left _ hq)
 ·have:=List.mem_singleton.1 hq;subst this;exact hg.2
def zlS(last:Int)(l:List Sg)(i:Nat):Int:=if i=0 then last else (l[i - 1]?.map Sg.v).getD 0
theorem zkQ{last:Int}{l:List Sg}{i:Nat}{x:Sg}(h:l[i]? =some x):zlS last l (i+1)=x.v:=by
 unfold zlS;rw [if_neg oM,show i+1 - 1=i by omega,h];rfl
theorem zo5:∀{l:List Sg} {last:Int} {i:Nat} {x:Sg},oks last l->l[i]? =some x->qi (zlS last l i) x=0
 | [],_,i,_,_,h=>by simp at h
 | s::r,last,0,x,h,hx=>by cases hx;exact h.1
 | s::r,last,i+1,x,h,hx=>by
  have hx:r[i]? =some x:=hx;have:=zo5 h.2 hx
  cases i with
  | zero=>exact this
  | succ i=>exact this
theorem vU{l:List Sg}{tol:Int}{i:Nat}{x:Sg}(h:l[i]? =some x):zty (l.take (i+1)) tol=jk tol (zty (l.take i) tol) x:=by
 unfold zty;rw [List.take_add_one,h];simp [List.foldl_append]
theorem zjs{tol:Int}:∀(r:List Sg) {st:List Pl×Int},st.2≠0->r.foldl (jk tol) ([],st.2)=([],st.2)
 | [],_,_=>rfl
 | x::r,st,h=>by
  rw [List.foldl_cons];have:jk tol ([],st.2) x=([],st.2):=by unfold jk;rw [if_pos h]
  rw [this];exact zjs r (st:=st) h
theorem zo6{tol:Int}{st:List Pl×Int}{x:Sg}(h:(jk tol st x).2≠0):jk tol st x=([],(jk tol st x).2):=by
 unfold jk at h ⊢
 split
 ·rfl
 ·rename_i h0;rw [if_neg h0] at h
  split
  ·rename_i h1;rw [if_pos h1] at h;exact absurd rfl h
  ·rename_i h1;rw [if_neg h1] at h
   split
   ·rfl
   ·rename_i h2;rw [if_neg h2] at h;exact absurd rfl h
theorem zm0{l:List Sg}{tol:Int}{i:Nat}{x:Sg}(hx:l[i]? =some x)(h:(zty (l.take (i+1)) tol).2≠0):zty l tol=([],(zty (l.take (i+1)) tol).2):=by
 have e:zty l tol=(l.drop (i+1)).foldl (jk tol) (zty (l.take (i+1)) tol):=by
  unfold zty;rw [← List.foldl_append,List.take_append_drop]
 rw [e];rw [vU hx] at h ⊢;rw [zo6 h];exact zjs _ (st:=jk tol (zty (l.take i) tol) x) h
theorem zfr{lo hi:Pt}{l:List Sg}{tol:Int}(hv:oks 5 l)(hb:∀p∈jc l,inB lo hi p):∀i,i<=l.length->(zty (l.take i) tol).2=0->InvP lo hi (zty (l.take i) tol).1 (zlS 5 l i)
 | 0,_,_=>⟨.inl ⟨rfl,rfl⟩,fun q hq=>(by cases hq)⟩
 | i+1,hi',h=>by
  have hx:l[i]? =some l[i]:=List.getElem?_eq_getElem oM;rw [vU hx] at h ⊢
  by_cases h0:(zty (l.take i) tol).2=0
  ·have ih:=zfr hv hb i oM h0;rw [zkQ hx];have e:zty (l.take i) tol=((zty (l.take i) tol).1,0):=by rw [← h0]
   rw [e] at h ⊢;exact zo4 ih (zo5 hv hx) (fun p hp=>hb p (List.mem_flatMap.2 ⟨_,List.getElem_mem _,hp⟩)) h
  ·unfold jk at h;rw [if_pos h0] at h;exact absurd h h0
def zo7(d:List Int):Int:=256*d.sum
def zr1:List Int->Int->Nat->Nat×Int
 | [],_,_=>(0,0)
 | e::r,k,i=>if k < 256*e then (i,256*e - k) else zr1 r (k - 256*e) (i+1)
def phD(pen:Pen)(t:Int):Int:=(t % zo7 pen.d+(256*pen.ph) % zo7 pen.d) % zo7 pen.d
def onD(pen:Pen)(t:Nat):Prop:=(zr1 pen.d (phD pen t) 0).1 % 2=0
instance (pen:Pen) (t:Nat):Decidable (onD pen t):=inferInstanceAs (Decidable (_=_))
def zm1(on:Nat->Prop)[DecidablePred on]:Nat->List (Nat×Nat)×Option Nat
 | 0=>([],none)
 | t+1=>if on t then ((zm1 on t).1,some ((zm1 on t).2.getD t)) else ((zm1 on t).1++((zm1 on t).2.map fun f=>(f,t)).toList,none)
def runsF(on:Nat->Prop)[DecidablePred on](t:Nat):List (Nat×Nat):=(zm1 on t).1++((zm1 on t).2.map fun f=>(f,t)).toList
section
variable {on:Nat->Prop} [DecidablePred on]
end
def drawn(d:List Int):Int:=256*((List.range d.length).map fun i=>if i % 2=0 then d.getD i 0 else 0).sum
def zr2(pen:Pen)(long:Int):List (Nat×Nat):=
 if ¬yf pen∨long < 1∨(0 < zo7 pen.d/\drawn pen.d=0) then []
 else if zo7 pen.d=drawn pen.d then [(0,long.toNat)] else runsF (onD pen) long.toNat
def zsV(a b:Pt):Int:=lenP (subP b a)
def zo8(p:Pl):List Pt:=if p.cl=true/\2<=(vS p).pts.length then (vS p).pts++[nth (vS p).pts 0] else (vS p).pts
def atS(c:List Pt):Nat->Int
 | 0=>0
 | i+1=>atS c i+zsV (nth c i) (nth c (i+1))
def zo9(p:Pl):Int:=atS (zo8 p) ((zo8 p).length - 1)
def idxD(c:List Pt)(x:Int):Nat->Nat
 | 0=>0
 | i+1=>if x < atS c (i+1) then idxD c x i else i+1
def ptAt(c:List Pt)(x:Int):Pt:=
 let i:=idxD c x (c.length - 2)
 zfi (nth c i) (nth c (i+1)) (x - atS c i) (atS c (i+1) - atS c i)
def midsD(c:List Pt)(f t:Int)(n:Nat):List Pt:=((List.range n).filter fun i=>decide (f < atS c i/\atS c i < t)).map (nth c)
def cutD(c:List Pt)(f t:Int):List Pt:=qj [] ([ptAt c f]++midsD c f t (c.length - 1)++[ptAt c t])
def zr3(p:Pl)(q:Nat×Nat):Pl:=if p.cl=true/\q.1=0/\(q.2:Int)=zo9 p then vS p else ⟨cutD (zo8 p) q.1 q.2,false⟩
def zpa(p:Pl)(pen:Pen):List Pl×Int:=
 if ¬yf pen then ([],13) else if ¬∀q∈p.pts,zP q then ([],6) else if 4096 < p.pts.length then ([],5)
 else if pen.d=[] then ([vS p],0)
 else if 4096 < uK ((zr2 pen (zo9 p)).map (zr3 p)) then ([],5) else ((zr2 pen (zo9 p)).map (zr3 p),0)
open Go.Proofs
def goP(t:AF)(p:Pt):Pt:=⟨(yY t (p.x:Rat) (p.y:Rat)+Rat.divInt 1 2).floor,(yZ t (p.x:Rat) (p.y:Rat)+Rat.divInt 1 2).floor⟩
def qB(t:AF)(p:Pt):Pt×Int:=if ¬t.ok then (zp,5) else if ¬zP p then (zp,6) else if zP (goP t p) then (goP t p,0) else (zp,6)
theorem zcL(t:AF)(p:Pt)(ht:t.le 100000):ze Tryz.prog 40 [.agg (afE t),.agg (ptE p)] [] (.tup [.agg (ptE (qB t p).1),i64 (qB t p).2]) []:=by
 obtain ⟨ha,hb,hc,hd,he,hf⟩:=ht;refine zd tok mix Tryz.func40 rfl rfl rfl ?_;have fin:∀(q:Pt) (n:Int),(qB t p)=(q,n)->LE (.tup [.agg (ptE q),i64 n]) (.tup [.agg (ptE (qB t p).1),i64 (qB t p).2]):=fun q n h=>by rw [h];exact .refl
 refine zb.t (vP t ⟨oM,oM,oM,oM,oM,oM⟩) ?_;refine Br.mk (fun h1=>?_) (fun h1=>?_)
 ·exact fin zp 5 (by rw [qB,if_pos h1])
 refine zb.t (jG p) ?_;refine Br.mk (fun h2=>?_) (fun h2=>?_)
 ·exact fin zp 6 (by rw [qB,if_neg h1,if_pos h2])
 have hp:zP p:=Classical.byContradiction h2;have hx:R64 p.x:=by unfold R64;unfold zP at hp;omega
 have hy:R64 p.y:=by unfold R64;unfold zP at hp;omega
 have lx:=zfg p.x;have ly:=zfg p.y;have zx:=ye hx;have zy:=ye hy;refine Dr.k ?_;refine zb.t (qG p.x hx) ?_;refine zb.t (qG p.y hy) ?_;refine zb.t (zd9 t (ofQ (p.x:Rat)) (ofQ (p.y:Rat)) ⟨oM,oM,oM,oM,oM,oM⟩ (by rw [zo];omega) (by rw [zo];omega)) ?_;rw [zN,zN];have lX:=kK t.a (ofQ (p.x:Rat)) t.c (ofQ (p.y:Rat)) t.e (n:=100000) ha (by rw [zo];omega) hc (by rw [zo];omega) he;have lY:=kK t.b (ofQ (p.x:Rat)) t.d (ofQ (p.y:Rat)) t.f (n:=100000) hb (by rw [zo];omega) hd (by rw [zo];omega) hf;rw [zN,zN] at lX lY
 have lh:qA (Rat.divInt 1 2)<=1:=by decide +kernel
 have mX:=zaK (yY t p.x p.y) (Rat.divInt 1 2);have mY:=zaK (yZ t p.x p.y) (Rat.divInt 1 2);have lX2:qA (yY t p.x p.y)<=500007:=lX.2;have lY2:qA (yZ t p.x p.y)<=500007:=lY.2
 have fl:∀q:Rat,ztz q.floor<=qA q:=fun q=>Nat.le_trans (zbk (by
  rw [Rat.floor_def]
  exact Int.natAbs_ediv_le_natAbs _ _)) (kj q)
 have fX:=fl (yY t p.x p.y+Rat.divInt 1 2);have fY:=fl (yZ t p.x p.y+Rat.divInt 1 2);refine zb.t (zkA 1 2 dC dC dC) ?_;refine zb.t (zjb (ofQ (yY t p.x p.y)) (ofQ (Rat.divInt 1 2)) (by rw [zo];omega) (by rw [zo];omega)) ?_;rw [zN,zN];refine zb.t (zlF (ofQ (yY t p.x p.y+Rat.divInt 1 2)) (by rw [zo];omega)) ?_;rw [zN];refine zb.t (zlD (ofZ (yY t p.x p.y+Rat.divInt 1 2).floor) (by rw [zB];omega)) ?_;refine zb.t (zjb (ofQ (yZ t p.x p.y)) (ofQ (Rat.divInt 1 2)) (by rw [zo];omega) (by rw [zo];omega)) ?_;rw [zN,zN]
 refine zb.t (zlF (ofQ (yZ t p.x p.y+Rat.divInt 1 2)) (by rw [zo];omega)) ?_;rw [zN];refine zb.t (zlD (ofZ (yZ t p.x p.y+Rat.divInt 1 2).floor) (by rw [zB];omega)) ?_;rw [zJ,zJ];obtain ⟨X,hX⟩:∃X,(yY t p.x p.y+Rat.divInt 1 2).floor=X:=⟨_,rfl⟩;obtain ⟨Y,hY⟩:∃Y,(yZ t p.x p.y+Rat.divInt 1 2).floor=Y:=⟨_,rfl⟩;have hg:goP t p=⟨X,Y⟩:=by unfold goP;rw [hX,hY]
 rw [hX,hY];have out:¬zP ⟨X,Y⟩->qB t p=(zp,6):=fun h=>by rw [qB,if_neg h1,if_neg h2,if_neg (by rw [hg];exact h)]
 have inn:zP ⟨X,Y⟩->qB t p=(⟨X,Y⟩,0):=fun h=>by rw [qB,if_neg h1,if_neg h2,if_pos (by rw [hg];exact h),hg]
 have big:zP ⟨X,Y⟩->(-9223372036854775808<=X/\X<=9223372036854775807)/\(-9223372036854775808<=Y/\Y<=9223372036854775807):=fun h=>by unfold zP at h;dsimp only at h;omega
 refine Br.mk (fun h3=>?_) (fun h3=>?_)
 ·refine Br.mk (fun h4=>?_) (fun h4=>?_)
  ·refine zb.t (jG ⟨vm X,vm Y⟩) ?_;rw [vm,if_pos h3,vm,if_pos h4];refine Br.mk (fun h5=>?_) (fun h5=>?_)
   ·exact fin ⟨X,Y⟩ 0 (inn h5)
   ·exact fin zp 6 (out h5)
  ·exact fin zp 6 (out fun h=>h4 (big h).2)
 ·exact fin zp 6 (out fun h=>h3 (big h).1)
def qK(t:AF):List Pt->Int
 | []=>0
 | p::r=>if (qB t p).2≠0 then (qB t p).2 else qK t r
def vr(t:AF)(s:Sg):Sg:=zgH s.v ((ky s).map fun p=>(qB t p).1)
def trans(t:AF)(l:List Sg):List Sg×Int:=
 if ¬kY l then ([],10) else if qK t (jc l)≠0 then ([],qK t (jc l)) else (l.map (vr t),0)
theorem jt(t:AF):∀q r:List Pt,qK t (q++r)=if qK t q≠0 then qK t q else qK t r
 | [],r=>by simp [qK]
 | p::q,r=>by
  rw [List.cons_append,qK,qK,jt t q r]
  by_cases h:(qB t p).2=0
  ·simp [h]
  ·simp [h]
theorem zaS{t:AF}{q:List Pt}{k:Nat}{p:Pt}(h0:qK t (q.take k)=0)(hp:q[k]? =some p):
  ((qB t p).2=0->qK t (q.take (k+1))=0)/\((qB t p).2≠0->qK t q=(qB t p).2):=by
 have e:q.take (k+1)=q.take k++[p]:=by rw [List.take_add_one,hp];rfl
 have e1:qK t (q.take (k+1))=(qB t p).2:=by
  rw [e,jt,h0]
  by_cases h:(qB t p).2=0 <;> simp [qK,h]
 refine ⟨fun h=>by rw [e1,h],fun h=>?_⟩;have:=jt t (q.take (k+1)) (q.drop (k+1));rw [List.take_append_drop,e1,if_pos h] at this;exact this
theorem zpb(s:Sg):(ky s).length<=3:=by
 unfold ky;have:=zjk s.v;simp only [List.length_take,List.length_cons,List.length_nil];omega
theorem zqY(l:List Sg)(t:AF)(ht:t.le 100000)(hlen:l.length<=300):ze Tryz.prog 124 [.sl sgE l,.agg (afE t)] [] (.tup [.sl sgE (trans t l).1,i64 (trans t l).2]) []:=by
 refine zd tok mix Tryz.func124 rfl rfl rfl ?_
 have bad:∀e:Int,trans t l=([],e)->LE (.tup [.val (.slice none 0 0),i64 e]) (.tup [.sl sgE (trans t l).1,i64 (trans t l).2]):=fun e h=>by
  rw [h];exact zS zI .refl
 refine zb.t (zea l) ?_;refine Br.mk (fun h1=>?_) (fun h1=>?_)
 ·exact bad 10 (by rw [trans,if_pos h1])
 intro hl
 refine ⟨Nat×Option (List Sg),fun q=>match q with
   | (i,none)=>⟨[(19,i64 i),(18,i64 l.length),(17,.sl sgE l),(6,.val (.slice none 0 0)),(3,.loc 0 0)],[(0,.box 35 (afE t))],1,53,0⟩
   | (i,some out)=>⟨[(19,i64 i),(18,i64 l.length),(17,.sl sgE l),(6,.own 1),(3,.loc 0 0)],[(1,.arr 141 sgE 7 out),(0,.box 35 (afE t))],2,53,0⟩,
  fun q=>match q with
   | (i,none)=>i=0
   | (i,some out)=>i<=l.length/\out=(l.take i).map (vr t)/\qK t (jc (l.take i))=0,fun q=>l.length - q.1,(0,none),rfl,?_,?_⟩
 ·exact zi [(0,some 0)]
 have errs:∀(i:Nat) (x:Sg) (p:Pt) (k:Nat),qK t (jc (l.take i))=0->l[i]? =some x->qK t ((ky x).take k)=0->(ky x)[k]? =some p->(qB t p).2≠0->trans t l=([],(qB t p).2):=by
  intro i x p k h0 hx hk hp he;have e2:=(zaS hk hp).2 he
  have e3:qK t (jc l)=(qB t p).2:=by
   have hd:=zhS hx
   have:jc l=jc (l.take i)++(ky x++jc (l.drop (i+1))):=by
    conv=>lhs;rw [← List.take_append_drop i l,hd]
    simp [jc]
   rw [this,jt,h0];simp only [ne_eq,not_true_eq_false,if_false];rw [jt,e2,if_pos he]
  rw [trans,if_neg h1,e3,if_pos he]
 have fin0:∀i x,qK t (jc (l.take i))=0->l[i]? =some x->qK t (ky x)=0->qK t (jc (l.take (i+1)))=0:=fun i x h0 hx hk=>by
  rw [zjm hx,jt,h0];simpa using hk
 rintro ⟨i,_ | out⟩ hI
 ·have hI:i=0:=hI;subst hI;have hi0:qK t (jc (l.take 0))=0:=rfl;have hil:0<=l.length:=Nat.zero_le _;refine Br.mk (fun h2=>?_) (fun h2=>?_)
  ·refine Ob.o ?_;intro x hx;have hx:l[0]? =some x:=hx;refine zb.t (zjl x) ?_;intro hl4
   refine ⟨Nat×Option (List Pt),fun q=>match q with
     | (k,none)=>⟨[(26,i64 k),(25,i64 (ky x).length),(24,.sl ptE (ky x)),(9,.val (.slice none 0 0)),(8,.loc 1 0),(19,i64 (0:Nat)),(18,i64 l.length),(17,.sl sgE l),(6,.val (.slice none 0 0)),(3,.loc 0 0)],[(1,.box 141 (sgE x)),(0,.box 35 (afE t))],2,53,0⟩
     | (k,some to)=>⟨[(26,i64 k),(25,i64 (ky x).length),(24,.sl ptE (ky x)),(9,.own 2),(8,.loc 1 0),(19,i64 (0:Nat)),(18,i64 l.length),(17,.sl sgE l),(6,.val (.slice none 0 0)),(3,.loc 0 0)],[(2,.arr 46 ptE 2 to),(1,.box 141 (sgE x)),(0,.box 35 (afE t))],3,53,0⟩,
    fun q=>match q with
     | (k,none)=>k=0
     | (k,some to)=>k<=(ky x).length/\to=((ky x).take k).map (fun p=>(qB t p).1)/\qK t ((ky x).take k)=0,fun q=>(ky x).length - q.1,(0,none),rfl,?_,?_⟩
   ·exact zi [(0,some 0),(1,some 1)]
   have hx3:=zpb x
   rintro ⟨k,_ | to⟩ hK
   ·have hK:k=0:=hK;subst hK;have hk0:qK t ((ky x).take 0)=0:=rfl;have hkl:0<=(ky x).length:=Nat.zero_le _;refine Br.mk (fun h4=>?_) (fun h4=>?_)
    ·refine Ob.o ?_;intro p hp;have hp:(ky x)[0]? =some p:=hp;refine zb.t (zcL t p ht) ?_;refine Br.mk (fun h5=>?_) (fun h5=>?_)
     ·exact bad _ (errs 0 x p 0 hi0 hx hk0 hp h5)
     have h5:(qB t p).2=0:=Classical.byContradiction h5;have hk1:=(zaS hk0 hp).1 h5;refine ⟨Pt,ptE,[(qB t p).1],rfl,Ob.o0 ?_⟩;refine ⟨_,_,_,rfl,Ob.o13 ?_⟩;refine Ar.fit dC ?_;refine ⟨(1,some [(qB t p).1]),⟨oM,(by rw [List.take_add_one,hp];rfl),hk1⟩,zi [(0,some 0),(1,some 1),(2,some 5)],by dsimp only;omega⟩
    ·have hp0:ky x=[]:=List.length_eq_zero_iff.1 oM;have hgo:zgH x.v []=vr t x:=by rw [vr,hp0];rfl
     have hall:=fin0 0 x hi0 hx (by rw [hp0];rfl);refine zb.t ((zhU x.v []).args (.cons .refl (.cons zI .nil))) ?_;rw [hgo];refine ⟨Sg,sgE,[vr t x],rfl,Ob.o0 ?_⟩;refine ⟨_,_,_,rfl,Ob.o14 ?_⟩;refine Ar.fit dC ?_
     refine ⟨(1,some [vr t x]),⟨oM,(by rw [List.take_add_one,hx];rfl),hall⟩,(by first | exact zi [(0,some 0),(1,some 2)] | exact zi [(0,some 0),(1,some 3)] | exact zi [(0,some 0),(1,some 4)] | exact zi [(0,some 0),(1,some 5)] | exact zi [(0,some 0),(1,some 6)] | exact zi [(0,some 0),(1,some 7)] | exact zi [(0,some 0),(1,some 8)]),by dsimp only;omega⟩
   ·obtain ⟨hkl,hto,hk0⟩:=hK;refine Br.mk (fun h4=>?_) (fun h4=>?_)
    ·refine Ob.o ?_;intro p hp;have hp:(ky x)[k]? =some p:=hp;refine zb.t (zcL t p ht) ?_;refine Br.mk (fun h5=>?_) (fun h5=>?_)
     ·exact bad _ (errs 0 x p k hi0 hx hk0 hp h5)
     have h5:(qB t p).2=0:=Classical.byContradiction h5;have hk1:=(zaS hk0 hp).1 h5;refine ⟨Pt,ptE,[(qB t p).1],rfl,Ob.o0 ?_⟩;have htl:to.length=k:=by rw [hto];simp;omega
     refine ⟨_,rfl,Ob.o15 ?_⟩;refine Ar.o ?_;refine ⟨(k+1,some (to++[(qB t p).1])),⟨oM,(by rw [List.take_add_one,hp,hto];simp),hk1⟩,zi [(0,some 0),(1,some 1),(2,some 6)],by dsimp only;omega⟩
    ·have hkk:k=(ky x).length:=by omega
     subst hkk;rw [List.take_length] at hto hk0;have hgo:zgH x.v to=vr t x:=by rw [vr,hto]
     have hall:=fin0 0 x hi0 hx hk0;refine zb.t (zhU x.v to) ?_;rw [hgo];refine ⟨Sg,sgE,[vr t x],rfl,Ob.o0 ?_⟩;refine ⟨_,_,_,rfl,Ob.o14 ?_⟩;refine Ar.fit dC ?_;refine ⟨(1,some [vr t x]),⟨oM,(by rw [List.take_add_one,hx];rfl),hall⟩,(by first | exact zi [(0,some 0),(1,some 2)] | exact zi [(0,some 0),(1,some 3)] | exact zi [(0,some 0),(1,some 4)] | exact zi [(0,some 0),(1,some 5)] | exact zi [(0,some 0),(1,some 6)] | exact zi [(0,some 0),(1,some 7)] | exact zi [(0,some 0),(1,some 8)]),by dsimp only;omega⟩
  ·have hii:0=l.length:=by omega
   have htr:trans t l=(l.map (vr t),0):=by
    rw [hii,List.take_length] at hi0;rw [trans,if_neg h1,hi0,if_neg (fun k=>k rfl)]
   exact bad 0 (by rw [htr,List.length_eq_zero_iff.1 hii.symm];rfl)
 ·obtain ⟨hil,hout,hi0⟩:=hI;refine Br.mk (fun h2=>?_) (fun h2=>?_)
  ·refine Ob.o ?_;intro x hx;have hx:l[i]? =some x:=hx;refine zb.t (zjl x) ?_;intro hl4
   refine ⟨Nat×Option (List Pt),fun q=>match q with
     | (k,none)=>⟨[(26,i64 k),(25,i64 (ky x).length),(24,.sl ptE (ky x)),(9,.val (.slice none 0 0)),(8,.loc 2 0),(19,i64 i),(18,i64 l.length),(17,.sl sgE l),(6,.own 1),(3,.loc 0 0)],[(2,.box 141 (sgE x)),(1,.arr 141 sgE 7 out),(0,.box 35 (afE t))],3,53,0⟩
     | (k,some to)=>⟨[(26,i64 k),(25,i64 (ky x).length),(24,.sl ptE (ky x)),(9,.own 3),(8,.loc 2 0),(19,i64 i),(18,i64 l.length),(17,.sl sgE l),(6,.own 1),(3,.loc 0 0)],[(3,.arr 46 ptE 2 to),(2,.box 141 (sgE x)),(1,.arr 141 sgE 7 out),(0,.box 35 (afE t))],4,53,0⟩,
    fun q=>match q with
     | (k,none)=>k=0
     | (k,some to)=>k<=(ky x).length/\to=((ky x).take k).map (fun p=>(qB t p).1)/\qK t ((ky x).take k)=0,fun q=>(ky x).length - q.1,(0,none),rfl,?_,?_⟩
   ·exact zi [(0,some 0),(1,some 1),(2,some 2)]
   have hx3:=zpb x
   rintro ⟨k,_ | to⟩ hK
   ·have hK:k=0:=hK;subst hK;have hk0:qK t ((ky x).take 0)=0:=rfl;have hkl:0<=(ky x).length:=Nat.zero_le _;refine Br.mk (fun h4=>?_) (fun h4=>?_)
    ·refine Ob.o ?_;intro p hp;have hp:(ky x)[0]? =some p:=hp;refine zb.t (zcL t p ht) ?_;refine Br.mk (fun h5=>?_) (fun h5=>?_)
     ·exact bad _ (errs i x p 0 hi0 hx hk0 hp h5)
     have h5:(qB t p).2=0:=Classical.byContradiction h5;have hk1:=(zaS hk0 hp).1 h5;refine ⟨Pt,ptE,[(qB t p).1],rfl,Ob.o0 ?_⟩;refine ⟨_,_,_,rfl,Ob.o13 ?_⟩;refine Ar.fit dC ?_;refine ⟨(1,some [(qB t p).1]),⟨oM,(by rw [List.take_add_one,hp];rfl),hk1⟩,zi [(0,some 0),(1,some 1),(2,some 2),(3,some 6)],by dsimp only;omega⟩
    ·have hp0:ky x=[]:=List.length_eq_zero_iff.1 oM;have hgo:zgH x.v []=vr t x:=by rw [vr,hp0];rfl
     have hall:=fin0 i x hi0 hx (by rw [hp0];rfl);refine zb.t ((zhU x.v []).args (.cons .refl (.cons zI .nil))) ?_;rw [hgo];refine ⟨Sg,sgE,[vr t x],rfl,Ob.o0 ?_⟩;have hol:out.length=i:=by rw [hout];simp;omega
     refine ⟨_,rfl,Ob.o16 ?_⟩;refine Ar.o ?_;refine ⟨(i+1,some (out++[vr t x])),⟨oM,(by rw [List.take_add_one,hx,hout];simp),hall⟩,(by first | exact zi [(0,some 0),(1,some 2)] | exact zi [(0,some 0),(1,some 3)] | exact zi [(0,some 0),(1,some 4)] | exact zi [(0,some 0),(1,some 5)] | exact zi [(0,some 0),(1,some 6)] | exact zi [(0,some 0),(1,some 7)] | exact zi [(0,some 0),(1,some 8)]),by dsimp only;omega⟩
   ·obtain ⟨hkl,hto,hk0⟩:=hK;refine Br.mk (fun h4=>?_) (fun h4=>?_)
    ·refine Ob.o ?_;intro p hp;have hp:(ky x)[k]? =some p:=hp;refine zb.t (zcL t p ht) ?_;refine Br.mk (fun h5=>?_) (fun h5=>?_)
     ·exact bad _ (errs i x p k hi0 hx hk0 hp h5)
     have h5:(qB t p).2=0:=Classical.byContradiction h5;have hk1:=(zaS hk0 hp).1 h5;refine ⟨Pt,ptE,[(qB t p).1],rfl,Ob.o0 ?_⟩;have htl:to.length=k:=by rw [hto];simp;omega
     refine ⟨_,rfl,Ob.o15 ?_⟩;refine Ar.o ?_;refine ⟨(k+1,some (to++[(qB t p).1])),⟨oM,(by rw [List.take_add_one,hp,hto];simp),hk1⟩,zi [(0,some 0),(1,some 1),(2,some 2),(3,some 7)],by dsimp only;omega⟩
    ·have hkk:k=(ky x).length:=by omega
     subst hkk;rw [List.take_length] at hto hk0;have hgo:zgH x.v to=vr t x:=by rw [vr,hto]
     have hall:=fin0 i x hi0 hx hk0;refine zb.t (zhU x.v to) ?_;rw [hgo];refine ⟨Sg,sgE,[vr t x],rfl,Ob.o0 ?_⟩;have hol:out.length=i:=by rw [hout];simp;omega
     refine ⟨_,rfl,Ob.o16 ?_⟩;refine Ar.o ?_;refine ⟨(i+1,some (out++[vr t x])),⟨oM,(by rw [List.take_add_one,hx,hout];simp),hall⟩,(by first | exact zi [(0,some 0),(1,some 2)] | exact zi [(0,some 0),(1,some 3)] | exact zi [(0,some 0),(1,some 4)] | exact zi [(0,some 0),(1,some 5)] | exact zi [(0,some 0),(1,some 6)] | exact zi [(0,some 0),(1,some 7)] | exact zi [(0,some 0),(1,some 8)]),by dsimp only;omega⟩
  ·have hii:i=l.length:=by omega
   have htr:trans t l=(l.map (vr t),0):=by
    rw [hii,List.take_length] at hi0;rw [trans,if_neg h1,hi0,if_neg (fun k=>k rfl)]
   rw [hii,List.take_length] at hout;rw [htr,← hout];exact zS .refl .refl
def part(f:Pt->Pt)(j:Nat)(s:Sg):Sg:=⟨s.v,if 1<=j then f s.a else s.a,if 2<=j then f s.b else s.b,if 3<=j then f s.c else s.c⟩
def zuh(f:Pt->Pt)(s:Sg):Sg:=part f (nm s.v).toNat s
theorem zpc{l:List Sg}(h:kY l):∀p∈jc l,zP p:=fun p hp=>by
 obtain ⟨s,hs,hp⟩:=List.mem_flatMap.1 hp
 have hf:zdV s:=by
  have e:=zmT l;rw [← e] at hs;obtain ⟨g,hg,hsg⟩:=List.mem_flatten.1 hs;obtain ⟨k,m,mid,_,_,g3,_⟩:=zoV h g hg;exact g3 s hsg
 have hp:=List.mem_of_mem_take hp;simp only [List.mem_cons,List.not_mem_nil,or_false] at hp
 rcases hp with rfl | rfl | rfl
 ·exact hf.1.1
 ·exact hf.2.1.1
 ·exact hf.2.2.1
theorem zui{l:List Sg}(h:kY l){s:Sg}(hs:s∈l):zdV s:=by
 have e:=zmT l;rw [← e] at hs;obtain ⟨g,hg,hsg⟩:=List.mem_flatten.1 hs;obtain ⟨k,m,mid,_,_,g3,_⟩:=zoV h g hg;exact g3 s hsg
theorem zjt:∀{l:List Sg} {last:Int},oks last l->∀s∈l,zdV s
 | [],_,_,s,hs=>by cases hs
 | a::r,last,h,s,hs=>by
  rcases List.mem_cons.1 hs with rfl | hs
  ·exact (yz.1 h.1).2.2
  ·exact zjt h.2 s hs
end Go.Gs
