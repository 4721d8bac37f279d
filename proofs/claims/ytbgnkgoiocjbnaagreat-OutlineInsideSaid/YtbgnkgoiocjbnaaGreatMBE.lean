/- Fills that are moved: plain. -/
import Derived.Test.YtbgnkgoiocjbnaaGreatMA
import Derived.Test.YtbgnkgoiocjbnaaGreatMBC
import Derived.Test.YtbgnkgoiocjbnaaGreatMBD
import Derived.Test.YtbgnkgoiocjbnaaGreatMAU
set_option maxRecDepth 100000
set_option maxHeartbeats 8000000
set_option linter.all false
namespace Go.Gs
theorem zuu{i n a b c x:Int}(hn:1<=n):q1 i n (a+x) (b+x) (c+x)=q1 i n a b c+x:=by
 unfold q1;have e:(n - i)*(n - i)*(a+x)+2*i*(n - i)*(b+x)+i*i*(c+x)=((n - i)*(n - i)*a+2*i*(n - i)*b+i*i*c)+(n*n)*x:=by grind
 rw [e,zk2 (Int.mul_pos oM oM)]
theorem zuv{i n a b c d x:Int}(hn:1<=n):c1 i n (a+x) (b+x) (c+x) (d+x)=c1 i n a b c d+x:=by
 unfold c1
 have e:(n - i)*(n - i)*(n - i)*(a+x)+3*i*(n - i)*(n - i)*(b+x)+3*i*i*(n - i)*(c+x)+i*i*i*(d+x)
   =((n - i)*(n - i)*(n - i)*a+3*i*(n - i)*(n - i)*b+3*i*i*(n - i)*c+i*i*i*d)+(n*n*n)*x:=by grind
 rw [e,zk2 (Int.mul_pos (Int.mul_pos oM oM) oM)]
theorem zjP(x y:Int)(a b c:Pt):jg (sh x y a) (sh x y b) (sh x y c)=jg a b c:=by
 unfold jg sh;dsimp only;rw [show a.x+x - 2*(b.x+x)+(c.x+x)=a.x - 2*b.x+c.x by omega,show a.y+y - 2*(b.y+y)+(c.y+y)=a.y - 2*b.y+c.y by omega]
def two(x y:Int)(p:Pt):Prop:=zo p/\zo (sh x y p)
theorem zol(x y:Int){p:Pt}:two x y p↔inB ⟨max (-1048576) (-1048576 - x),max (-1048576) (-1048576 - y)⟩ ⟨min 1048576 (1048576 - x),min 1048576 (1048576 - y)⟩ p:=by
 unfold two zo inB sh;dsimp only;omega
theorem ziq{need tol:Int}{l m:List Pt}(hl:∀p∈l,zo p)(hm:∀p∈m,zo p):kr need tol l=kr need tol m:=by
 unfold kr;rw [zV hl,zV hm]
theorem zpB{x y:Int}{a b c:Pt}{i n:Int}(h:∀p∈[a,b,c],two x y p)(hn:1<=n/\n<=64)(hi:0<=i/\i<=n):q9 (sh x y a) (sh x y b) (sh x y c) i n=sh x y (q9 a b c i n):=by
 have h':∀p∈[sh x y a,sh x y b,sh x y c],zo p:=fun p hp=>by
  obtain ⟨q,hq,rfl⟩:=List.mem_map.1 (show p∈[a,b,c].map (sh x y) from hp);exact (h q hq).2
 unfold q9;rw [if_neg (fun k=>k ⟨h',hn.1,hn.2,hi.1,hi.2⟩),if_neg (fun k=>k ⟨fun p hp=>(h p hp).1,hn.1,hn.2,hi.1,hi.2⟩)];exact zjB (zuu hn.1) (zuu hn.1)
theorem zpC{x y:Int}{a b c d:Pt}{i n:Int}(h:∀p∈[a,b,c,d],two x y p)(hn:1<=n/\n<=64)(hi:0<=i/\i<=n):ja (sh x y a) (sh x y b) (sh x y c) (sh x y d) i n=sh x y (ja a b c d i n):=by
 have h':∀p∈[sh x y a,sh x y b,sh x y c,sh x y d],zo p:=fun p hp=>by
  obtain ⟨q,hq,rfl⟩:=List.mem_map.1 (show p∈[a,b,c,d].map (sh x y) from hp);exact (h q hq).2
 unfold ja;rw [if_neg (fun k=>k ⟨h',hn.1,hn.2,hi.1,hi.2⟩),if_neg (fun k=>k ⟨fun p hp=>(h p hp).1,hn.1,hn.2,hi.1,hi.2⟩)];exact zjB (zuv hn.1) (zuv hn.1)
theorem zlG{f g:Int->Pt}{k:Pt->Pt}{n:Nat}(h:∀i:Nat,i < n->g ((i:Int)+1)=k (f ((i:Int)+1))):vE g n=(vE f n).map k:=by
 unfold vE;rw [List.map_map];exact List.map_congr_left fun i hi=>h i (List.mem_range.1 hi)
theorem zrE{x y:Int}{a b c:Pt}{tol:Int}(h:∀p∈[a,b,c],two x y p):uY (sh x y a) (sh x y b) (sh x y c) tol=((uY a b c tol).1.map (sh x y),(uY a b c tol).2):=by
 have h':∀p∈[sh x y a,sh x y b,sh x y c],zo p:=fun p hp=>by
  obtain ⟨q,hq,rfl⟩:=List.mem_map.1 (show p∈[a,b,c].map (sh x y) from hp);exact (h q hq).2
 have e:qj (sh x y a) (sh x y b) (sh x y c) tol=qj a b c tol:=by
  unfold qj;rw [zjP];exact ziq h' fun p hp=>(h p hp).1
 unfold uY;rw [e]
 split
 ·rfl
 ·rename_i k;have ok:1<=(qj a b c tol).1/\(qj a b c tol).1<=64:=(jn (Decidable.not_not.1 k)).1;exact Prod.ext (zlG (f:=fun i=>q9 a b c i (qj a b c tol).1) (g:=fun i=>q9 (sh x y a) (sh x y b) (sh x y c) i (qj a b c tol).1) (k:=sh x y) (n:=(qj a b c tol).1.toNat) fun i hi=>zpB (i:=(i:Int)+1) (n:=(qj a b c tol).1) h ok ⟨oM,oM⟩) rfl
theorem zrF{x y:Int}{a b c d:Pt}{tol:Int}(h:∀p∈[a,b,c,d],two x y p):uZ (sh x y a) (sh x y b) (sh x y c) (sh x y d) tol=((uZ a b c d tol).1.map (sh x y),(uZ a b c d tol).2):=by
 have h':∀p∈[sh x y a,sh x y b,sh x y c,sh x y d],zo p:=fun p hp=>by
  obtain ⟨q,hq,rfl⟩:=List.mem_map.1 (show p∈[a,b,c,d].map (sh x y) from hp);exact (h q hq).2
 have e:qk (sh x y a) (sh x y b) (sh x y c) (sh x y d) tol=qk a b c d tol:=by
  unfold qk;rw [zjP,zjP];exact ziq h' fun p hp=>(h p hp).1
 unfold uZ;rw [e]
 split
 ·rfl
 ·rename_i k;have ok:1<=(qk a b c d tol).1/\(qk a b c d tol).1<=64:=(jn (Decidable.not_not.1 k)).1;exact Prod.ext (zlG (f:=fun i=>ja a b c d i (qk a b c d tol).1) (g:=fun i=>ja (sh x y a) (sh x y b) (sh x y c) (sh x y d) i (qk a b c d tol).1) (k:=sh x y) (n:=(qk a b c d tol).1.toNat) fun i hi=>zpC (i:=(i:Int)+1) (n:=(qk a b c d tol).1) h ok ⟨oM,oM⟩) rfl
theorem zrG{f:Pt->Pt}{s:Sg}(h:s.v=1∨s.v=2):ym f s=⟨s.v,f s.a,s.b,s.c⟩:=by
 unfold ym part;rcases h with h | h <;> rw [h] <;> rfl
theorem flip3{f:Pt->Pt}{s:Sg}(h:s.v=3):ym f s=⟨s.v,f s.a,f s.b,s.c⟩:=by unfold ym part;rw [h];rfl
theorem flip4{f:Pt->Pt}{s:Sg}(h:s.v=4):ym f s=⟨s.v,f s.a,f s.b,f s.c⟩:=by unfold ym part;rw [h];rfl
theorem zm1{f:Pt->Pt}{s:Sg}:(ym f s).v=s.v:=rfl
theorem zvo{x y tol:Int}{p:Pt}{s:Sg}(he:0<=nm s.v)(h5:s.v≠5)(hp:two x y p)(hs:∀q∈zD s,two x y q):
  z5 (sh x y p) (ym (sh x y) s) tol=((z5 p s tol).1.map (sh x y),(z5 p s tol).2):=by
 unfold z5;rw [zm1]
 rcases zev he with h | h | h | h | h
 ·rw [if_neg oM,if_neg oM,if_neg oM,if_neg oM,zrG (.inl h)];rfl
 ·rw [if_neg oM,if_neg oM,if_neg oM,if_neg oM,zrG (.inr h)];rfl
 ·rw [if_pos h,if_pos h,flip3 h];rw [zru h] at hs
  exact zrE fun q hq=>by
   cases hq with
   | head=>exact hp
   | tail _ hq=>exact hs q hq
 ·rw [if_neg oM,if_pos h,if_neg oM,if_pos h,flip4 h];rw [zrv h] at hs
  exact zrF fun q hq=>by
   cases hq with
   | head=>exact hp
   | tail _ hq=>exact hs q hq
 ·exact absurd h h5
theorem zrH{x y:Int}{p q:Pt}(h:sh x y p=sh x y q):p=q:=by
 have h1:=congrArg Pt.x h;have h2:=congrArg Pt.y h;unfold sh at h1 h2;dsimp only at h1 h2;exact zjB oM oM
theorem zvp(x y:Int)(q:List Pt)(p:Pt):jH (q.map (sh x y)) (sh x y p)=(jH q p).map (sh x y):=by
 unfold jH;rw [List.getLast?_map]
 cases h:q.getLast? with
 | none=>simp
 | some z=>
  by_cases k:z=p
  ·subst k;simp
  ·rw [Option.map_some,if_neg (fun e=>k (zrH (Option.some.inj e))),if_neg (fun e=>k (Option.some.inj e))];simp
theorem zom(x y:Int):∀(more q:List Pt),z6 (q.map (sh x y)) (more.map (sh x y))=(z6 q more).map (sh x y)
 | [],_=>rfl
 | p::r,q=>by
  show z6 (jH (q.map (sh x y)) (sh x y p)) (r.map (sh x y))=_;rw [zvp];exact zom x y r (jH q p)
theorem ztr(x y:Int)(q:List Pt):kH (q.map (sh x y))=(kH q).map (sh x y):=by
 unfold kH;rw [List.length_map,List.getLast?_map,List.head?_map]
 have e:(Option.map (sh x y) q.getLast?=Option.map (sh x y) q.head?)↔q.getLast?=q.head?:=by
  constructor
  ·intro h
   cases h1:q.getLast? with
   | none=>cases h2:q.head? with
    | none=>rfl
    | some b=>rw [h1,h2] at h;cases h
   | some a=>cases h2:q.head? with
    | none=>rw [h1,h2] at h;cases h
    | some b=>rw [h1,h2] at h;rw [zrH (Option.some.inj h)]
  ·intro h;rw [h]
 by_cases k:1 < q.length/\q.getLast?=q.head?
 ·rw [if_pos k,if_pos ⟨k.1,e.2 k.2⟩,List.map_dropLast]
 ·rw [if_neg k,if_neg (fun h=>k ⟨h.1,e.1 h.2⟩)]
def zdd(x y:Int)(p:Pl):Pl:=⟨p.pts.map (sh x y),p.cl⟩
theorem zrI{x y:Int}{l:List Pt}(h:l≠[]):kP (l.map (sh x y))=sh x y (kP l):=by
 unfold kP;rw [List.getLastD_eq_getLast?,List.getLastD_eq_getLast?,List.getLast?_map,List.getLast?_eq_some_getLast h];rfl
theorem zts{x y tol:Int}{S:List Pl}{last:Int}{s:Sg}{lo hi:Pt}(hb:∀p,inB lo hi p->two x y p)(h:InvP lo hi S last)(he:qU last s=0)(hx:∀p∈zD s,two x y p):
  jw tol (S.map (zdd x y),0) (ym (sh x y) s)=((jw tol (S,0) s).1.map (zdd x y),(jw tol (S,0) s).2):=by
 obtain ⟨e1,e2,e3⟩:=jv.1 he;rw [za6,za6,zm1]
 by_cases h1:s.v=1
 ·rw [if_pos h1,if_pos h1,zrG (.inl h1)];exact Prod.ext (by simp [zdd]) rfl
 rw [if_neg h1,if_neg h1];obtain ⟨hl,hv⟩:=e2.resolve_left h1;obtain ⟨cl,p,rfl,hc⟩:∃cl p,S=cl++[p]/\(p.cl=true↔last=5):=h.1.resolve_left (fun k=>hl k.2);obtain ⟨p1,p2,p3⟩:=h.2 p (by simp);have eg:(cl++[p]).getLastD ⟨[],false⟩=p:=by simp
 have eg':((cl++[p]).map (zdd x y)).getLastD ⟨[],false⟩=zdd x y p:=by simp
 rw [eg,eg']
 have key:uk (zdd x y p) (ym (sh x y) s) tol=(zdd x y (uk p s tol).1,(uk p s tol).2):=by
  unfold uk;rw [zm1]
  by_cases h5:s.v=5
  ·rw [if_pos h5,if_pos h5];show ((⟨kH (p.pts.map (sh x y)),true⟩:Pl),(0:Int))=_;rw [ztr];rfl
  rw [if_neg h5,if_neg h5]
  have e:z5 (kP (zdd x y p).pts) (ym (sh x y) s) tol=((z5 (kP p.pts) s tol).1.map (sh x y),(z5 (kP p.pts) s tol).2):=by
   show z5 (kP (p.pts.map (sh x y))) _ tol=_;rw [zrI p1];exact zvo e1 h5 (hb _ (p3 _ (zil p1))) hx
  rw [e]
  split
  ·rfl
  ·show ((⟨z6 (p.pts.map (sh x y)) _,p.cl⟩:Pl),(0:Int))=_;rw [zom];rfl
 rw [key]
 split
 ·rfl
 ·refine Prod.ext ?_ rfl;dsimp only;rw [List.map_append,List.map_append,List.map_singleton,List.map_singleton,List.dropLast_concat,List.dropLast_concat]
theorem zlH{x y tol:Int}{l:List Sg}(hv:oks 5 l)(hb:∀p∈zY l,two x y p):∀i,i<=l.length->k7 ((shL x y l).take i) tol=((k7 (l.take i) tol).1.map (zdd x y),(k7 (l.take i) tol).2)
 | 0,_=>rfl
 | i+1,hi=>by
  have hx:l[i]? =some l[i]:=List.getElem?_eq_getElem oM;have hx':(shL x y l)[i]? =some (ym (sh x y) l[i]):=by unfold shL;rw [List.getElem?_map,hx];rfl
  have ih:=zlH (tol:=tol) hv hb i oM;rw [j9 hx,j9 hx',ih]
  by_cases h0:(k7 (l.take i) tol).2=0
  ·have inv:=zd0 (tol:=tol) hv (fun p hp=>(zol x y).1 (hb p hp)) i oM h0;have e:k7 (l.take i) tol=((k7 (l.take i) tol).1,0):=by rw [← h0]
   rw [h0];rw [e];exact zts (fun p hp=>(zol x y).2 hp) inv (zjM hv hx) (fun p hp=>hb p (List.mem_flatMap.2 ⟨_,List.getElem_mem _,hp⟩))
  ·unfold jw;rw [if_pos h0,if_pos h0];rfl
theorem ztt(x y:Int)(S:List Pl):qQ (S.map (zdd x y))=qQ S:=by
 unfold qQ;rw [List.map_map];congr 1;exact List.map_congr_left fun p _=>by simp [zdd]
theorem zrJ{x y tol:Int}{l:List Sg}(h:qK l)(hb:∀p∈zY l,zo (sh x y p)):zI (shL x y l) tol=((zI l tol).1.map (zdd x y),(zI l tol).2):=by
 have hv:=zpA h hb;have e:=zlH (x:=x) (y:=y) (tol:=tol) (yh.1 h).2 (fun p hp=>⟨zah h p hp,hb p hp⟩) l.length (Nat.le_refl _);rw [List.take_of_length_le (by unfold shL;rw [List.length_map];exact Nat.le_refl _),List.take_length] at e;unfold zI;rw [zV h,zV hv,e]
 by_cases h1:zbY tol
 ·rw [zV h1,zV h1]
  by_cases h2:(k7 l tol).2=0
  ·rw [kF h2,kF h2];dsimp only;rw [ztt]
   split <;> rfl
  ·rw [if_pos h2,if_pos h2];rfl
 ·rw [if_pos h1,if_pos h1];rfl
theorem uH{lo hi:Pt}{l:List Sg}{tol:Int}(h0:(zI l tol).2=0)(hb:∀p∈zY l,inB lo hi p):
  qK l/\zbY tol/\qQ (zI l tol).1<=4096/\∀q∈(zI l tol).1,q.pts≠[]/\jF q.pts/\∀z∈q.pts,inB lo hi z:=by
 unfold zI at h0 ⊢
 by_cases h1:¬qK l
 ·rw [if_pos h1] at h0;exact absurd h0 dC
 rw [if_neg h1] at h0 ⊢
 by_cases h2:¬zbY tol
 ·rw [if_pos h2] at h0;exact absurd h0 dC
 rw [if_neg h2] at h0 ⊢
 by_cases h3:(k7 l tol).2≠0
 ·rw [if_pos h3] at h0;exact absurd h0 h3
 rw [if_neg h3] at h0 ⊢
 by_cases h4:4096 < qQ (k7 l tol).1
 ·rw [if_pos h4] at h0;exact absurd h0 dC
 rw [if_neg h4];have:=zd0 (tol:=tol) (yh.1 (Decidable.not_not.1 h1)).2 hb l.length (Nat.le_refl _);rw [List.take_length] at this;exact ⟨Decidable.not_not.1 h1,Decidable.not_not.1 h2,by dsimp only;omega,(this (Decidable.not_not.1 h3)).2⟩
def qS(l:List Pl):List (List Pt):=(l.filter fun p=>decide (3<=p.pts.length)).map Pl.pts
def kq(l:List Sg)(t:AF)(tol:Int):List (List Pt)×Int:=
 if (kg t l).2≠0 then ([],(kg t l).2) else if (zI (kg t l).1 tol).2≠0 then ([],(zI (kg t l).1 tol).2) else (qS (zI (kg t l).1 tol).1,0)
theorem zrK(x y:Int)(l:List Pl):qS (l.map (zdd x y))=(qS l).map (List.map (sh x y)):=by
 unfold qS;rw [List.filter_map,List.map_map,List.map_map];have e:((fun p:Pl=>decide (3<=p.pts.length))∘zdd x y)=fun p=>decide (3<=p.pts.length):=by funext p;simp [zdd]
 rw [e];rfl
theorem zir:∀l:List Pl,kN (qS l)<=qQ l
 | []=>Nat.le_refl _
 | p::r=>by
  have ih:=zir r;have e:qQ (p::r)=p.pts.length+qQ r:=by unfold qQ;simp
  unfold qS at ih ⊢;rw [List.filter_cons]
  split
  ·have:kN ((p::r.filter fun p=>decide (3<=p.pts.length)).map Pl.pts)=p.pts.length+kN ((r.filter fun p=>decide (3<=p.pts.length)).map Pl.pts):=by unfold kN;simp
   omega
  ·omega
theorem zpD{l:List Pl}{r:List Pt}(h:r∈qS l):∃p∈l,p.pts=r:=by
 unfold qS at h;obtain ⟨p,hp,rfl⟩:=List.mem_map.1 h;exact ⟨p,(List.mem_filter.1 hp).1,rfl⟩
theorem zgV{lo hi:Pt}{l:List Sg}{t:AF}{tol:Int}(h0:(kq l t tol).2=0)(hb:∀p∈zY (kg t l).1,inB lo hi p):kN (kq l t tol).1<=4096/\∀r∈(kq l t tol).1,∀p∈r,inB lo hi p:=by
 unfold kq at h0 ⊢
 by_cases h1:(kg t l).2≠0
 ·rw [if_pos h1] at h0;exact absurd h0 h1
 rw [if_neg h1] at h0 ⊢
 by_cases h2:(zI (kg t l).1 tol).2≠0
 ·rw [if_pos h2] at h0;exact absurd h0 h2
 rw [if_neg h2];have f:=uH (Decidable.not_not.1 h2) hb;refine ⟨Nat.le_trans (zir _) f.2.2.1,fun r hr p hp=>?_⟩;obtain ⟨q,hq,rfl⟩:=zpD hr;exact (f.2.2.2 q hq).2.2 p hp
theorem zm2{l:List Sg}{x y tol:Int}(hx:R64 x)(hy:R64 y):
  ((kq l (tr x y) tol).2=0∨(kq l (tr x y) tol).2=(kq l (tr 0 0) tol).2∨(kq l (tr x y) tol).2=6)/\
  ((kq l (tr 0 0) tol).2=0->(kq l (tr x y) tol).2=0->(kq l (tr x y) tol).1=(kq l (tr 0 0) tol).1.map (List.map (sh x y))):=by
 by_cases h:qK l
 ·have t0:kg (tr 0 0) l=(l,0):=by
   have:=zlE (x:=0) (y:=0) dC dC h (fun p hp=>by rw [zcz];exact zah h p hp)
   rwa [zlF] at this
  have e0:kq l (tr 0 0) tol=if (zI l tol).2≠0 then ([],(zI l tol).2) else (qS (zI l tol).1,0):=by
   unfold kq;rw [t0,if_neg (fun k=>k rfl)]
  rcases zlC hx hy h with ⟨e,a⟩ | e
  ·have e1:kq l (tr x y) tol=if (zI l tol).2≠0 then ([],(zI l tol).2) else ((qS (zI l tol).1).map (List.map (sh x y)),0):=by
    unfold kq;rw [e,if_neg (fun k=>k rfl)];dsimp only;rw [zrJ h a];dsimp only;rw [zrK]
   rw [e0,e1]
   by_cases h2:(zI l tol).2≠0
   ·rw [if_pos h2,if_pos h2];exact ⟨.inr (.inl rfl),fun k=>absurd k h2⟩
   ·rw [if_neg h2,if_neg h2];exact ⟨.inl rfl,fun _ _=>rfl⟩
  ·have e1:kq l (tr x y) tol=([],6):=by
    unfold kq;rw [e,if_pos dC]
   rw [e1];exact ⟨.inr (.inr rfl),fun _ k=>absurd k dC⟩
 ·have e1:∀t,kg t l=([],10):=fun t=>by unfold kg;rw [if_pos h]
  have e2:∀t,kq l t tol=([],10):=fun t=>by unfold kq;rw [e1,if_pos dC]
  rw [e2,e2];exact ⟨.inr (.inl rfl),fun k=>absurd k dC⟩
theorem zcA{a b w:Int}(hw:0<=w)(h:2*(a.natAbs:Int)<=w*b.natAbs):((zQ a b).natAbs:Int)<=(w+1) / 2:=by
 have e:=zbP a b;rw [e]
 by_cases hb:b.natAbs=0
 ·rw [hb];simp;omega
 have hb':(0:Int) < b.natAbs:=oM;generalize a.natAbs=A at*;generalize b.natAbs=B at*;rw [show (((2*A+B) / (2*B):Nat):Int)=(2*(A:Int)+B) / (2*B) by rw [Int.natCast_ediv];simp];have h1:(2*(A:Int)+B) / (2*B)<=(w*B+B) / (2*B):=Int.ediv_le_ediv oM oM;have h2:(w*B+B:Int)=B*(w+1):=by grind
 have h3:(w*B+B:Int) / (2*B)=(w+1) / 2:=by
  rw [h2,Int.mul_comm 2 (B:Int),Int.mul_ediv_mul_of_pos _ _ hb']
 omega
def zbl(w:Int)(p:Pt):Prop:=(p.x.natAbs:Int)<=(w+1) / 2/\(p.y.natAbs:Int)<=(w+1) / 2
theorem ztu{x y:Int}(hx:¬zdQ x)(hy:¬zdQ y):256*(x.natAbs:Int)<=isq (65536*(x*x+y*y))/\256*(y.natAbs:Int)<=isq (65536*(x*x+y*y)):=by
 unfold zdQ at hx hy;have h1:=qZ (A:=2097152) (B:=2097152) (a:=x) (b:=x) oM oM;have h2:=qZ (A:=2097152) (B:=2097152) (a:=y) (b:=y) oM oM;have h5:=jm x;have h6:=jm y;have e1:(x.natAbs:Int)*x.natAbs=x*x:=Int.natAbs_mul_self' x;have e2:(y.natAbs:Int)*y.natAbs=y*y:=Int.natAbs_mul_self' y;refine ⟨zqW oM oM ?_,zqW oM oM ?_⟩
 ·rw [show 256*(x.natAbs:Int)*(256*(x.natAbs:Int))=65536*((x.natAbs:Int)*x.natAbs) by grind,e1];omega
 ·rw [show 256*(y.natAbs:Int)*(256*(y.natAbs:Int))=65536*((y.natAbs:Int)*y.natAbs) by grind,e2];omega
theorem zaB(v:Pt){w:Int}(hw:zX w):zbl w (kM v w):=by
 unfold zX at hw;unfold kM
 split
 ·exact ⟨by show ((0:Int).natAbs:Int)<=_;simp;omega,by show ((0:Int).natAbs:Int)<=_;simp;omega⟩
 ·rename_i h;rw [not_or,not_or,not_or] at h;have ab:=ztu h.2.1 h.2.2.1;have hL:0<=isq (65536*(v.x*v.x+v.y*v.y)):=oM;generalize isq (65536*(v.x*v.x+v.y*v.y))=L at*;have eL:(L.natAbs:Int)=L:=Int.natAbs_of_nonneg hL;have wn:(w.natAbs:Int)=w:=Int.natAbs_of_nonneg oM;refine ⟨zcA oM ?_,zcA oM ?_⟩
  ·rw [Int.natAbs_mul,Int.natAbs_mul,Int.natAbs_neg,eL,Int.natCast_mul,Int.natCast_mul,wn];have:=Int.mul_le_mul_of_nonneg_left ab.2 (show 0<=w by omega);rw [show 2*((v.y.natAbs:Int)*w*((128:Int).natAbs:Nat))=w*(256*(v.y.natAbs:Int)) by simp;grind];exact this
  ·rw [Int.natAbs_mul,Int.natAbs_mul,eL,Int.natCast_mul,Int.natCast_mul,wn];have:=Int.mul_le_mul_of_nonneg_left ab.1 (show 0<=w by omega);rw [show 2*((v.x.natAbs:Int)*w*((128:Int).natAbs:Nat))=w*(256*(v.x.natAbs:Int)) by simp;grind];exact this
def kJ(pen:Pen):Int:=if pen.j=1 then max (pen.w+2) (pen.w*pen.m / 512+2) else pen.w+2
theorem zis{pen:Pen}:pen.w+2<=kJ pen:=by unfold kJ;split <;> omega
def inM(lo hi:Pt)(m:Int)(p:Pt):Prop:=(lo.x - m<=p.x/\p.x<=hi.x+m)/\(lo.y - m<=p.y/\p.y<=hi.y+m)
def byM(m:Int)(d:Pt):Prop:=(d.x.natAbs:Int)<=m/\(d.y.natAbs:Int)<=m
theorem zcB{lo hi p d:Pt}{m:Int}(h:inB lo hi p)(k:byM m d):inM lo hi m (zH p d):=by
 unfold inB at h;unfold byM at k;unfold inM zH;dsimp only;omega
theorem zon{lo hi p d:Pt}{m:Int}(h:inB lo hi p)(k:byM m d):inM lo hi m (zA p d):=by
 unfold inB at h;unfold byM at k;unfold inM zA;dsimp only;omega
theorem zoo{lo hi p:Pt}{m:Int}(h:inB lo hi p)(k:0<=m):inM lo hi m p:=by
 unfold inB at h;unfold inM;omega
theorem zfA{w m:Int}{d:Pt}(hw:zX w)(h:zbl w d)(hm:w+2<=m):byM m d:=by unfold zX at hw;unfold zbl at h;unfold byM;omega
theorem yQ{r q:List Pt}(h:q∈kT r):q=r:=by
 unfold kT at h;split at h
 ·cases h
 ·exact List.mem_singleton.1 h
section
variable {lo hi:Pt} {w m:Int}
theorem zop{a b:Pt}(ha:inB lo hi a)(hb:inB lo hi b)(hm:w+2<=m):∀p∈yl a b w,inM lo hi m p:=by
 unfold yl
 split
 ·intro p hp;cases hp
 ·rename_i h;have hw:=(Decidable.not_not.1 h).1;have k:=zfA hw (zaB (zA b a) hw) hm;intro p hp;have hp:=vB hp;simp only [List.mem_cons,List.not_mem_nil,or_false] at hp
  rcases hp with rfl | rfl | rfl | rfl
  ·exact zon ha k
  ·exact zon hb k
  ·exact zcB hb k
  ·exact zcB ha k
theorem zjQ{a:Pt}(ha:inB lo hi a)(hm:w+2<=m):∀p∈vZ a w,inM lo hi m p:=by
 unfold vZ
 split
 ·intro p hp;cases hp
 ·rename_i h;have hw:=(Decidable.not_not.1 h).1;intro p hp;obtain ⟨q,hq,rfl⟩:=List.mem_map.1 (vB hp)
  have hq':(-16384<=q.x/\q.x<=16384)/\(-16384<=q.y/\q.y<=16384):=by
   have:∀q∈zr,(-16384<=q.x/\q.x<=16384)/\(-16384<=q.y/\q.y<=16384):=by decide +kernel
   exact this q hq
  have one:∀n:Int,-16384<=n/\n<=16384->((zQ (n*w) 32768).natAbs:Int)<=(w+1) / 2:=fun n hn=>by
   unfold zX at hw;refine zcA oM ?_;have wn:(w.natAbs:Int)=w:=Int.natAbs_of_nonneg oM;rw [Int.natAbs_mul,Int.natCast_mul,wn];have:=Int.mul_le_mul_of_nonneg_right (show (n.natAbs:Int)<=16384 by omega) (show 0<=w by omega);rw [show ((32768:Int).natAbs:Int)=32768 from rfl];omega
  exact zcB ha (zfA hw ⟨one _ hq'.1,one _ hq'.2⟩ hm)
theorem zvq{a b:Pt}(hb:inB lo hi b)(hm:w+2<=m):∀p∈zjw a b w,inM lo hi m p:=by
 unfold zjw
 split
 ·intro p hp;cases hp
 ·rename_i h;have hw:=(Decidable.not_not.1 h).1;have k:=zaB (zA b a) hw;intro p hp;have hp:=vB hp;generalize kM (zA b a) w=n at*;unfold zX at hw;unfold zbl at k;unfold inB at hb;simp only [List.mem_cons,List.not_mem_nil,or_false] at hp
  rcases hp with rfl | rfl | rfl | rfl <;> (unfold inM;dsimp only [zH,zA];omega)
theorem ztv{a:Pt}(ha:inB lo hi a)(hm:w+2<=m):∀p∈zdR a w,inM lo hi m p:=by
 unfold zdR
 split
 ·intro p hp;cases hp
 ·rename_i h;have hw:=(Decidable.not_not.1 h).1;intro p hp;have hp:=vB hp;unfold zX at hw
  have k:((zQ w 2).natAbs:Int)<=(w+1) / 2:=zcA oM (by
   have wn:(w.natAbs:Int)=w:=Int.natAbs_of_nonneg oM
   rw [wn,show ((2:Int).natAbs:Int)=2 from rfl];omega)
  generalize zQ w 2=d at*;unfold inB at ha;simp only [List.mem_cons,List.not_mem_nil,or_false] at hp
  rcases hp with rfl | rfl | rfl | rfl <;> (unfold inM;dsimp only;omega)
end
theorem zrL{n m:Pt}{w lim:Int}(h:(vR n m w lim).2=true):byM (w*lim / 512+1) (vR n m w lim).1:=by
 unfold vR at h ⊢
 split at h
 ·cases h
 ·rename_i h0;rw [if_neg h0];dsimp only at h ⊢
  split at h
  ·cases h
  ·rename_i h1;rw [if_neg h1];obtain ⟨h2,h3⟩:=not_or.1 h1;obtain ⟨_,_,hw,l1,l2⟩:=Decidable.not_not.1 h0;unfold zX at hw;generalize zH n m=s at*;have p1:=jm s.x;have p2:=jm s.y;have q1:s.x*s.x<=s.x*s.x+s.y*s.y:=oM;have q2:s.y*s.y<=s.x*s.x+s.y*s.y:=oM;generalize s.x*s.x+s.y*s.y=q at*;have hq:0 < q:=oM
   have key:∀x:Int,x*x<=q->((zQ (x*w*w) (2*q)).natAbs:Int)<=w*lim / 512+1:=fun x hx=>by
    have a0:(0:Int)<=x.natAbs:=Int.natCast_nonneg _;have a1:(x.natAbs:Int)*x.natAbs=x*x:=Int.natAbs_mul_self' x;have wn:(w.natAbs:Int)=w:=Int.natAbs_of_nonneg oM;have e:=zbP (x*w*w) (2*q);have eq2:((2*q).natAbs:Int)=2*q:=Int.natAbs_of_nonneg oM;have ex:((x*w*w).natAbs:Int)=(x.natAbs:Int)*w*w:=by rw [Int.natAbs_mul,Int.natAbs_mul,Int.natCast_mul,Int.natCast_mul,wn]
    rw [← a1] at hx;generalize (x.natAbs:Int)=A at*
    -- 256 A w<=q lim
    have s1:256*w*A<=q*lim:=by
     refine zui (Int.mul_nonneg oM oM) ?_;have t1:256*w*(256*w)*(A*A)<=lim*lim*q*(A*A):=Int.mul_le_mul_of_nonneg_right oM (Int.mul_nonneg a0 a0);have t2:lim*lim*q*(A*A)<=lim*lim*q*q:=Int.mul_le_mul_of_nonneg_left hx (Int.mul_nonneg (Int.mul_nonneg oM oM) oM);have e1:256*w*A*(256*w*A)=256*w*(256*w)*(A*A):=by grind
     have e2:q*lim*(q*lim)=lim*lim*q*q:=by grind
     omega
    have s2:2*w*(256*w*A)<=2*w*(q*lim):=Int.mul_le_mul_of_nonneg_left s1 oM;have s3:w*lim < 512*(w*lim / 512+1):=oM;generalize w*lim / 512=L at*;have s4:2*q*(w*lim)<=2*q*(512*(L+1)):=Int.mul_le_mul_of_nonneg_left oM oM
    have s5:A*w*w<=2*q*(L+1):=by
     have e1:2*w*(256*w*A)=512*(A*w*w):=by grind
     have e2:2*w*(q*lim)=2*q*(w*lim):=by grind
     have e3:2*q*(512*(L+1))=512*(2*q*(L+1)):=by grind
     omega
    have s6:(2*(x*w*w).natAbs+(2*q).natAbs) / (2*(2*q).natAbs) < (L+2).toNat:=by
     rw [Nat.div_lt_iff_lt_mul oM];have hL0:0<=L+2∨L+2 < 0:=oM
     have hL:0<=L+1:=by
      refine Int.not_lt.1 fun k=>?_
      have:2*q*(L+1) < 0:=Int.mul_neg_of_pos_of_neg oM oM;have:0<=A*w*w:=Int.mul_nonneg (Int.mul_nonneg a0 oM) oM;omega
     have:(((L+2).toNat*(2*(2*q).natAbs):Nat):Int)=(L+2)*(2*(2*q)):=by
      rw [Int.natCast_mul,Int.natCast_mul,eq2,Int.toNat_of_nonneg oM];rfl
     have e4:(L+2)*(2*(2*q))=2*(2*q*(L+1))+4*q:=by grind
     omega
    omega
   exact ⟨key s.x q1,key s.y q2⟩
theorem zlI{w:Int}{p:Pt}(h:zbl w p):zbl w (zjx p):=by unfold zbl zjx at*;dsimp only;omega
theorem zgW{a v b:Pt}{w:Int}(hw:zX w):zbl w (qH a v b w).1/\zbl w (qH a v b w).2.1:=by
 have z:zbl w zp:=by unfold zX at hw;exact ⟨by show ((0:Int).natAbs:Int)<=_;simp;omega,by show ((0:Int).natAbs:Int)<=_;simp;omega⟩
 unfold qH
 split
 ·exact ⟨z,z⟩
 ·dsimp only
  split
  ·exact ⟨z,z⟩
  ·split
   ·exact ⟨zlI (zaB _ hw),zlI (zaB _ hw)⟩
   ·exact ⟨zaB _ hw,zaB _ hw⟩
theorem ztw{lo hi a v b:Pt}{pen:Pen}(hv:inB lo hi v):∀r∈yP a v b pen,∀p∈r,inM lo hi (kJ pen) p:=by
 have hm:=zis (pen:=pen);unfold yP
 split
 ·intro r hr;cases hr
 ·rename_i h;have hp:=(Decidable.not_not.1 h).1;have hw:=hp.1;have w0:0<=kJ pen:=by have:=hw;unfold zX at this;omega
  split
  ·intro r hr p hp;rw [yQ hr] at hp;exact zjQ hv hm p hp
  ·split
   ·intro r hr;cases hr
   ·dsimp only;have oh:=zgW (a:=a) (v:=v) (b:=b) hw;generalize (qH a v b pen.w).1=n at*;generalize (qH a v b pen.w).2.1=n' at*;intro r hr p hp;rw [yQ hr] at hp;have hp:=vB hp;have k1:=zcB hv (zfA hw oh.1 hm);have k2:=zcB hv (zfA hw oh.2 hm)
    split at hp
    ·rename_i c;simp only [List.mem_cons,List.not_mem_nil,or_false] at hp
     rcases hp with rfl | rfl | rfl | rfl
     ·exact zoo hv w0
     ·exact k1
     ·refine zcB hv ?_;have:=zrL c.2;unfold byM at this ⊢;unfold kJ;rw [if_pos c.1];omega
     ·exact k2
    ·simp only [List.mem_cons,List.not_mem_nil,or_false] at hp
     rcases hp with rfl | rfl | rfl
     ·exact zoo hv w0
     ·exact k1
     ·exact k2
theorem zd4{l:List Pt}{i:Nat}(h:i < l.length):nth l i∈l:=by
 unfold nth;rw [List.getD_eq_getElem?_getD,List.getElem?_eq_getElem h];exact List.getElem_mem h
theorem zrM{lo hi:Pt}{p:Pl}{pen:Pen}(h:∀z∈p.pts,inB lo hi z):∀r∈qa p pen,∀q∈r,inM lo hi (kJ pen) q:=by
 have hm:=zis (pen:=pen);have at_:∀i,i < p.pts.length->inB lo hi (nth p.pts i):=fun i hi=>h _ (zd4 hi)
 intro r hr q hq;unfold qa at hr
 rcases List.mem_append.1 hr with hr | hr
 ·rcases List.mem_append.1 hr with hr | hr
  ·unfold jr at hr
   rcases List.mem_append.1 hr with hr | hr
   ·obtain ⟨i,hi,hr⟩:=List.mem_flatMap.1 hr;have hi:=List.mem_range.1 hi;rw [yQ hr] at hq;exact zop (at_ i oM) (at_ (i+1) oM) hm q hq
   ·split at hr
    ·rename_i c;rw [yQ hr] at hq;exact zop (at_ _ oM) (at_ 0 oM) hm q hq
    ·cases hr
  ·unfold zex at hr
   split at hr
   ·cases hr
   ·obtain ⟨i,hi,hr⟩:=List.mem_flatMap.1 hr;have hi:=List.mem_range.1 hi
    split at hr
    ·cases hr
    ·exact ztw (at_ i hi) r hr q hq
 ·have endIn:∀a b,inB lo hi b->∀z∈vD a b pen,inM lo hi (kJ pen) z:=fun a b hb z hz=>by
   unfold vD at hz
   split at hz
   ·exact zvq hb hm z hz
   ·split at hz
    ·exact zjQ hb hm z hz
    ·cases hz
  unfold zbj at hr
  split at hr
  ·rename_i c;rw [yQ hr] at hq;unfold zcJ at hq
   split at hq
   ·exact ztv (at_ 0 oM) hm q hq
   ·split at hq
    ·exact zjQ (at_ 0 oM) hm q hq
    ·cases hq
  ·split at hr
   ·rename_i c
    rcases List.mem_append.1 hr with hr | hr
    ·rw [yQ hr] at hq;exact endIn _ _ (at_ 0 oM) q hq
    ·rw [yQ hr] at hq;exact endIn _ _ (at_ _ oM) q hq
   ·cases hr
theorem vG{p:Pl}{z:Pt}(h:z∈(zE p).pts):z∈p.pts:=by
 unfold zE at h;dsimp only at h
 split at h
 ·exact zcq (zlw h)
 ·exact zcq h
theorem zm3{lo hi:Pt}{p:Pl}{pen:Pen}(h:∀z∈p.pts,inB lo hi z):∀r∈(kA p pen).1,∀q∈r,inM lo hi (kJ pen) q:=by
 unfold kA
 split
 ·intro r hr;cases hr
 split
 ·intro r hr;cases hr
 split
 ·intro r hr;cases hr
 split
 ·intro r hr;cases hr
 split
 ·intro r hr;cases hr
 exact zrM fun z hz=>h z (vG hz)
theorem ze7{lo hi:Pt}{pen:Pen}:∀{l:List Pl},(∀p∈l,∀z∈p.pts,inB lo hi z)->∀r∈(ko l pen).1,∀q∈r,inM lo hi (kJ pen) q
 | [],_,r,hr=>by cases hr
 | p::l,h,r,hr=>by
  unfold ko at hr
  split at hr
  ·cases hr
  ·split at hr
   ·cases hr
   ·rcases List.mem_append.1 hr with hr | hr
    ·exact zm3 (h p (.head _)) r hr
    ·exact ze7 (fun q hq=>h q (.tail _ hq)) r hr
theorem zlJ{lo hi:Pt}{pen:Pen}{l:List Pl}(h:∀p∈l,∀z∈p.pts,inB lo hi z):∀r∈(kQ l pen).1,∀q∈r,inM lo hi (kJ pen) q:=by
 unfold kQ
 split
 ·intro r hr;cases hr
 split
 ·intro r hr;cases hr
 split
 ·intro r hr;cases hr
 exact ze7 h
theorem zrN{a b M:Int}(hb:0 < b)(ha:0<=a)(h:a<=M*b):0<=zQ a b/\zQ a b<=M:=by
 obtain ⟨Q,e⟩:∃Q:Nat,zQ a b=(Q:Int):=⟨_,by unfold zQ;rw [if_pos oM]⟩
 have hM:0<=M:=Int.not_lt.1 fun k=>by
  have:=Int.mul_neg_of_neg_of_pos k hb;omega
 have h2:=zfv (a:=a) (b:=b) (M:=M.toNat) oM (by
  have:((M.toNat*b.natAbs:Nat):Int)=M*b:=by rw [Int.natCast_mul,Int.toNat_of_nonneg hM,Int.natAbs_of_nonneg oM]
  omega)
 omega
theorem zpE{a b M:Int}(hb:0 < b)(ha:a<=0)(h: -(M*b)<=a): -M<=zQ a b/\zQ a b<=0:=by
 by_cases h0:a=0
 ·subst h0;rw [zpi]
  have hM:0<=M:=Int.not_lt.1 fun k=>by
   have:=Int.mul_neg_of_neg_of_pos k hb;omega
  omega
 obtain ⟨Q,e⟩:∃Q:Nat,zQ a b= -(Q:Int):=⟨_,by unfold zQ;rw [if_neg oM]⟩
 have hM:0<=M:=Int.not_lt.1 fun k=>by
  have:=Int.mul_neg_of_neg_of_pos k hb;omega
 have h2:=zfv (a:=a) (b:=b) (M:=M.toNat) oM (by
  have:((M.toNat*b.natAbs:Nat):Int)=M*b:=by rw [Int.natCast_mul,Int.toNat_of_nonneg hM,Int.natAbs_of_nonneg oM]
  omega)
 omega
theorem zlK{f t n d lo hi:Int}(hd:1<=d)(hn:0<=n/\n<=d)(hf:lo<=f/\f<=hi)(ht:lo<=t/\t<=hi):lo<=f+zQ (n*(t - f)) d/\f+zQ (n*(t - f)) d<=hi:=by
 rcases Int.le_total f t with h | h
 ·have h1:=Int.mul_nonneg hn.1 (show 0<=t - f by omega);have h2:=Int.mul_le_mul_of_nonneg_right hn.2 (show 0<=t - f by omega);rw [Int.mul_comm d] at h2;have:=zrN oM h1 h2;omega
 ·have h1:=Int.mul_nonneg hn.1 (show 0<=f - t by omega);have h2:=Int.mul_le_mul_of_nonneg_right hn.2 (show 0<=f - t by omega);rw [Int.mul_comm d] at h2;have e:n*(t - f)= -(n*(f - t)):=by grind
  have:=zpE (M:=f - t) (show 0 < d by omega) (a:=n*(t - f)) oM oM;omega
theorem ztx{lo hi a b:Pt}{n d:Int}(ha:inB lo hi a)(hb:inB lo hi b)(oa:zo a)(ob:zo b):inB lo hi (zeY a b n d):=by
 unfold zeY
 split
 ·rw [zet oa];exact ha
 ·rename_i h;have hc:=zdS (n:=n) (d:=d) oM;rw [zcn oa.1,zcn oa.2,zcn ob.1,zcn ob.2];exact ⟨zlK oM hc ha.1 hb.1,zlK oM hc ha.2 hb.2⟩
theorem zlL{p:Pl}{z:Pt}(h:z∈qE p):z∈p.pts:=by
 unfold qE at h
 split at h
 ·rename_i c
  rcases List.mem_append.1 h with h | h
  ·exact vG h
  ·rw [List.mem_singleton.1 h];exact vG (zd4 oM)
 ·exact vG h
theorem zrO(c:List Pt)(x:Int):∀n,zd2 c x n<=n
 | 0=>Nat.le_refl _
 | n+1=>by
  unfold zd2
  split
  ·have:=zrO c x n;omega
  ·exact Nat.le_refl _
theorem zvr{lo hi:Pt}{c:List Pt}{f t:Int}(h2:2<=c.length)(h:∀z∈c,inB lo hi z)(ho:∀z∈c,zo z):∀z∈zbq c f t,inB lo hi z:=by
 have pin:∀x,inB lo hi (zd3 c x):=fun x=>by
  unfold zd3;have:=zrO c x (c.length - 2);have m1:=zd4 (l:=c) (i:=zd2 c x (c.length - 2)) oM;have m2:=zd4 (l:=c) (i:=zd2 c x (c.length - 2)+1) oM;exact ztx (h _ m1) (h _ m2) (ho _ m1) (ho _ m2)
 intro z hz;unfold zbq at hz
 rcases zgR _ hz with hz | hz
 ·cases hz
 ·rcases List.mem_append.1 hz with hz | hz
  ·rcases List.mem_append.1 hz with hz | hz
   ·rw [List.mem_singleton.1 hz];exact pin f
   ·unfold zio at hz;obtain ⟨i,hi,rfl⟩:=List.mem_map.1 hz;have:=List.mem_range.1 (List.mem_filter.1 hi).1;exact h _ (zd4 oM)
  ·rw [List.mem_singleton.1 hz];exact pin t
theorem zgX{p:Pl}(h:(qE p).length < 2):qf p=0:=by
 unfold qf;rw [show (qE p).length - 1=0 by omega];rfl
theorem zrP{lo hi:Pt}{p:Pl}{pen:Pen}(h:∀z∈p.pts,inB lo hi z):∀q∈(jt p pen).1,∀z∈q.pts,inB lo hi z:=by
 unfold jt
 split
 ·intro q hq;cases hq
 split
 ·intro q hq;cases hq
 rename_i hok;have hok:=Decidable.not_not.1 hok
 split
 ·intro q hq;cases hq
 have hdd:∀z∈(zE p).pts,inB lo hi z:=fun z hz=>h z (vG hz)
 split
 ·intro q hq;rw [List.mem_singleton.1 hq];exact hdd
 split
 ·intro q hq;cases hq
 intro q hq;obtain ⟨r,hr,rfl⟩:=List.mem_map.1 hq;unfold ya
 split
 ·exact hdd
 ·refine zvr ?_ (fun z hz=>h z (zlL hz)) (fun z hz=>hok z (zlL hz));refine Nat.le_of_not_lt fun k=>?_
  unfold qh at hr;rw [if_pos (.inr (.inl (by rw [zgX k];decide)))] at hr
  cases hr
end Go.Gs
