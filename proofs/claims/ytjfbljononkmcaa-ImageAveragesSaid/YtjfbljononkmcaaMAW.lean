/- Pictures of another size: plain. -/
import Derived.Test.YtjfbljononkmcaaMA
import Derived.Test.YtjfbljononkmcaaMAT
import Derived.Test.YtjfbljononkmcaaMAV
import Derived.Test.YtjfbljononkmcaaMAU
import Derived.Test.YtjfbljononkmcaaMAP
set_option maxRecDepth 100000
set_option maxHeartbeats 8000000
set_option linter.all false
namespace Go.Gs
def ov(i a k b:Int):Int:=max 0 (min ((i+1)*a) ((k+1)*b) - max (i*a) (k*b))
theorem zj4(i a k b:Int):0<=ov i a k b:=by unfold ov;omega
def sps(size n x:Int)(k:Nat):List (Int×Int):=((List.range k).filter fun (i:Nat)=>decide (0 < ov i n x size)).map fun (i:Nat)=>((i:Int),ov i n x size)
theorem zji(size n x:Int)(k:Nat):sps size n x (k+1)=sps size n x k++(if 0 < ov k n x size then [((k:Int),ov k n x size)] else []):=by
 unfold sps;rw [List.range_succ,List.filter_append,List.map_append];congr 1
 by_cases h:0 < ov k n x size
 ·rw [if_pos h];simp [h]
 ·rw [if_neg h];simp [h]
theorem zjS{size n x:Int}{k:Nat}(h:0 < ov k n x size):sps size n x (k+1)=sps size n x k++[((k:Int),ov k n x size)]:=by rw [zji,if_pos h]
theorem zjw{size n x:Int}{k:Nat}(h:¬0 < ov k n x size):sps size n x (k+1)=sps size n x k:=by rw [zji,if_neg h,List.append_nil]
theorem zjj{size n x:Int}{j:Nat}:∀{k:Nat},j<=k->(∀i,j<=i->i < k->¬0 < ov (i:Nat) n x size)->sps size n x k=sps size n x j
 | 0,h,_=>by
   obtain rfl:j=0:=oM;rfl
 | k+1,h,hz=>by
  by_cases e:j=k+1
  ·rw [e]
  ·rw [zjw (hz k oM oM),zjj oM fun i h1 h2=>hz i h1 oM]
theorem zj5{size n x:Int}{i:Nat}(hn:1<=n)(h:(i:Int) < x*size / n):¬0 < ov i n x size:=by
 have h1:((i:Int)+1)*n<=x*size / n*n:=Int.mul_le_mul_of_nonneg_right oM oM;have h2:=Int.ediv_mul_le (x*size) (show n≠0 by omega);unfold ov;omega
theorem zj6{size n x:Int}{i j:Nat}(hn:1<=n)(h:(x+1)*size<=(i:Int)*n)(hj:i<=j):¬0 < ov j n x size:=by
 have:(i:Int)*n<=(j:Int)*n:=Int.mul_le_mul_of_nonneg_right oM oM;unfold ov;omega
theorem ov_at{size n x:Int}{i:Nat}(hs:1<=size)(hn:1<=n)(h0:x*size / n<=(i:Int))(h:(i:Int)*n < (x+1)*size):
  0 < ov i n x size/\ov i n x size=min ((x+1)*size) (((i:Int)+1)*n) - max (x*size) ((i:Int)*n):=by
 have h1:x*size < ((i:Int)+1)*n:=by
  have a:=Int.lt_ediv_add_one_mul_self (x*size) (show 0 < n by omega);have b:(x*size / n+1)*n<=((i:Int)+1)*n:=Int.mul_le_mul_of_nonneg_right oM oM;omega
 rw [Int.add_mul,Int.one_mul] at h1 h ⊢;unfold ov;rw [Int.add_mul,Int.one_mul,Int.add_mul,Int.one_mul];omega
theorem zkB{size n x:Int}{i:Nat}(hs:1<=size)(hn:1<=n)(hx:x+1<=n)(h:(i:Int)*n < (x+1)*size):(i:Int) < size:=by
 refine Int.not_le.1 fun k=>?_
 have a:size*n<=(i:Int)*n:=Int.mul_le_mul_of_nonneg_right k oM;have b:(x+1)*size<=n*size:=Int.mul_le_mul_of_nonneg_right hx oM;rw [Int.mul_comm n size] at b;omega
def ziw(l:List (Int×Int)):Int:=l.foldl (fun s u=>s+u.2) 0
theorem zjx(l:List (Int×Int))(u:Int×Int):ziw (l++[u])=ziw l+u.2:=by unfold ziw;rw [List.foldl_append];rfl
theorem zjk{size n x:Int}(hn:1<=n)(hs:1<=size)(hx:0<=x):∀k:Nat,ziw (sps size n x k)=max 0 (min ((k:Int)*n) ((x+1)*size) - x*size)
 | 0=>by
  have h0:0<=x*size:=Int.mul_nonneg hx oM;show (0:Int)=_;rw [Int.natCast_zero,Int.zero_mul];omega
 | k+1=>by
  have ih:=zjk hn hs hx k;have hov:ov k n x size=max 0 (min ((k:Int)*n+n) (x*size+size) - max ((k:Int)*n) (x*size)):=by unfold ov;rw [Int.add_mul,Int.one_mul,Int.add_mul,Int.one_mul]
  have e:ziw (sps size n x (k+1))=ziw (sps size n x k)+ov k n x size:=by
   by_cases h:0 < ov k n x size
   ·rw [zjS h,zjx]
   ·rw [zjw h];have:=zj4 k n x size;omega
  rw [e,ih,hov,Int.natCast_add,Int.add_mul,Int.add_mul];have:=Int.mul_nonneg (Int.natCast_nonneg k) (show 0<=n by omega);simp only [Int.natCast_one,Int.one_mul];omega
theorem zjf{size n x:Int}(hn:1<=n)(hs:1<=size)(hx:0<=x)(k:Nat):0<=ziw (sps size n x k)/\ziw (sps size n x k)<=size:=by
 rw [zjk hn hs hx k,Int.add_mul,Int.one_mul];omega
theorem zjT{size n x:Int}{k:Nat}{u:Int×Int}(h:u∈sps size n x k):(0<=u.1/\u.1 < k)/\0 < u.2:=by
 obtain ⟨i,hi,rfl⟩:=List.mem_map.1 h;rw [List.mem_filter] at hi;have:=List.mem_range.1 hi.1;exact ⟨⟨Int.natCast_nonneg i,by show (i:Int) < k;omega⟩,by simpa using hi.2⟩
theorem ziD:∀{l:List (Int×Int)},(∀u∈l,0<=u.2)->∀k,0<=ziw (l.take k)/\ziw (l.take k)<=ziw l:=by
 intro l hl k
 have key:∀(l:List (Int×Int)) (s:Int),(∀u∈l,0<=u.2)->s<=l.foldl (fun s u=>s+u.2) s:=fun l=>by
  induction l with
  | nil=>intro s _;exact Int.le_refl _
  | cons u l ih=>
   intro s h;have:=ih (s+u.2) fun v hv=>h v (.tail _ hv)
   have:=h u (.head _);show s<=l.foldl (fun s u=>s+u.2) (s+u.2);omega
 refine ⟨key _ 0 fun u hu=>hl u (List.mem_of_mem_take hu),?_⟩
 have e:ziw l=(l.drop k).foldl (fun s u=>s+u.2) (ziw (l.take k)):=by
  unfold ziw;rw [← List.foldl_append,List.take_append_drop]
 rw [e];exact key _ _ fun u hu=>hl u (List.mem_of_mem_drop hu)
def zbh(m:Img)(k:Int):Pix:=m.px.getD k.toNat zbK
def ziP(m:Img)(v:Int×Int)(q:Qd)(l:List (Int×Int)):Qd:=l.foldl (fun q u=>zfD q (zbh m (v.1*m.w+u.1)) (u.2*v.2)) q
def ziM(m:Img)(cols:List (Int×Int))(l:List (Int×Int)):Qd:=l.foldl (fun q v=>ziP m v q cols) zQ
theorem zkj(m:Img)(v:Int×Int)(q:Qd)(l:List (Int×Int))(u:Int×Int):ziP m v q (l++[u])=zfD (ziP m v q l) (zbh m (v.1*m.w+u.1)) (u.2*v.2):=by unfold ziP;rw [List.foldl_append];rfl
theorem zkk(m:Img)(cols l:List (Int×Int))(v:Int×Int):ziM m cols (l++[v])=ziP m v (ziM m cols l) cols:=by unfold ziM;rw [List.foldl_append];rfl
theorem zeZ{m:Img}(hm:okM m){k:Int}(h:0<=k/\k < m.px.length):P8 (zbh m k)/\jw (zbh m k):=by
 have e:zbh m k=m.px[k.toNat]:=by unfold zbh;rw [List.getD_eq_getElem?_getD,List.getElem?_eq_getElem oM];rfl
 rw [e];have:=List.getElem_mem (l:=m.px) (n:=k.toNat) oM;exact ⟨hm.2 _ this,hm.1.2.2.2.2 _ this⟩
theorem zjU{m:Img}(hm:okM m){v:Int×Int}{n:Int}(hv:(0<=v.1/\v.1 < m.h)/\0<=v.2):∀{l:List (Int×Int)} {q:Qd} {n:Int},inQ q n->(∀u∈l,(0<=u.1/\u.1 < m.w)/\0<=u.2)->inQ (ziP m v q l) (n+ziw l*v.2):=by
 intro l
 have key:∀(l:List (Int×Int)) (q:Qd) (n s:Int),inQ q n->(∀u∈l,(0<=u.1/\u.1 < m.w)/\0<=u.2)->inQ (ziP m v q l) (n+(l.foldl (fun s u=>s+u.2) s - s)*v.2):=fun l=>by
  induction l with
  | nil=>intro q n s h _;show inQ q (n+(s - s)*v.2);rw [Int.sub_self,Int.zero_mul,Int.add_zero];exact h
  | cons u l ih=>
   intro q n s h hl;obtain ⟨⟨u1,u2⟩,u3⟩:=hl u (.head _);have hp:=ziV (a:=u.1) (b:=v.1) (w:=m.w) (h:=m.h) ⟨u1,u2⟩ hv.1 hm.1.2.2.2.1;have ho:=zeZ hm (k:=v.1*m.w+u.1) ⟨hp.2.2.1,hp.2.2.2⟩;have h1:=zhr h ho.1 ho.2 (Int.mul_nonneg u3 hv.2);have h2:=ih _ _ (s+u.2) h1 fun w hw=>hl w (.tail _ hw)
   have e:n+u.2*v.2+(l.foldl (fun s u=>s+u.2) (s+u.2) - (s+u.2))*v.2=n+((u::l).foldl (fun s u=>s+u.2) s - s)*v.2:=by
    show _=n+(l.foldl (fun s u=>s+u.2) (s+u.2) - s)*v.2;generalize l.foldl (fun s u=>s+u.2) (s+u.2)=z;rw [Int.sub_mul,Int.sub_mul,Int.add_mul];omega
   rw [← e];exact h2
 intro q n h hl;have:=key l q n 0 h hl;rw [Int.sub_zero] at this;exact this
theorem zjV{m:Img}(hm:okM m){cols:List (Int×Int)}(hc:∀u∈cols,(0<=u.1/\u.1 < m.w)/\0<=u.2):∀{l:List (Int×Int)},(∀v∈l,(0<=v.1/\v.1 < m.h)/\0<=v.2)->inQ (ziM m cols l) (ziw cols*ziw l):=by
 intro l
 have key:∀(l:List (Int×Int)) (q:Qd) (n s:Int),inQ q n->(∀v∈l,(0<=v.1/\v.1 < m.h)/\0<=v.2)->inQ (l.foldl (fun q v=>ziP m v q cols) q) (n+ziw cols*(l.foldl (fun s u=>s+u.2) s - s)):=fun l=>by
  induction l with
  | nil=>intro q n s h _;show inQ q (n+ziw cols*(s - s));rw [Int.sub_self,Int.mul_zero,Int.add_zero];exact h
  | cons v l ih=>
   intro q n s h hl;have h1:=zjU (n:=0) hm (hl v (.head _)) h hc;have h2:=ih _ _ (s+v.2) h1 fun w hw=>hl w (.tail _ hw)
   have e:n+ziw cols*v.2+ziw cols*(l.foldl (fun s u=>s+u.2) (s+v.2) - (s+v.2))=n+ziw cols*((v::l).foldl (fun s u=>s+u.2) s - s):=by
    show _=n+ziw cols*(l.foldl (fun s u=>s+u.2) (s+v.2) - s);generalize l.foldl (fun s u=>s+u.2) (s+v.2)=z;rw [Int.mul_sub,Int.mul_sub,Int.mul_add];omega
   rw [← e];exact h2
 intro hl;have:=key l zQ 0 0 zgC hl;rw [Int.sub_zero,Int.zero_add] at this;exact this
def ziQ(m:Img)(w:Int)(x:Nat):List (Int×Int):=sps m.w w x m.w.toNat
def ziO(m:Img)(h:Int)(y:Nat):List (Int×Int):=sps m.h h y m.h.toNat
def zjd(m:Img)(w h:Int)(x y:Nat):Pix:=zbg (ziM m (ziQ m w x) (ziO m h y)) (m.w*m.h)
def ziH(w h:Int):Prop:=(1<=w/\w<=4096)/\(1<=h/\h<=4096)/\w*h<=65536
instance (w h:Int):Decidable (ziH w h):=inferInstanceAs (Decidable (_/\_))
def zi4(m:Img)(w h:Int):List Pix:=gr (zjd m w h) w.toNat (h.toNat*w.toNat)
def ziB(m:Img)(w h:Int):Img×Int:=if ¬qr m then (⟨0,0,[]⟩,16) else if ¬ziH w h then (⟨0,0,[]⟩,6) else (⟨w,h,zi4 m w h⟩,0)
theorem ziW{m:Img}(hm:qr m){w:Int}{x:Nat}{u:Int×Int}(h:u∈ziQ m w x):(0<=u.1/\u.1 < m.w)/\0 < u.2:=by
 have:=zjT h;have h1:=hm.1.1;omega
theorem ziI{m:Img}(hm:qr m){h:Int}{y:Nat}{u:Int×Int}(k:u∈ziO m h y):(0<=u.1/\u.1 < m.h)/\0 < u.2:=by
 have:=zjT k;have h1:=hm.2.1.1;omega
theorem zkQ{m:Img}(hm:okM m){w h:Int}(hw:1<=w)(hh:1<=h)(x y:Nat):inQ (ziM m (ziQ m w x) (ziO m h y)) (m.w*m.h):=by
 have h1:=zjV hm (cols:=ziQ m w x) (fun u hu=>by have:=ziW hm.1 hu;omega) (l:=ziO m h y) fun v hv=>by have:=ziI hm.1 hv;omega
 have a:=zjf (size:=m.w) (n:=w) (x:=(x:Int)) hw hm.1.1.1 oM m.w.toNat;have b:=zjf (size:=m.h) (n:=h) (x:=(y:Int)) hh hm.1.2.1.1 oM m.h.toNat;exact zkP h1 (Int.mul_le_mul a.2 b.2 b.1 oM)
def je(key:Int->Int)(b:List Int):Int:=b.foldl (fun a i=>min a (key i)) 255
def kU(key:Int->Int)(b:List Int):Int:=b.foldl (fun a i=>max a (key i)) 0
theorem ze0(key:Int->Int)(b:List Int)(x:Int):je key (b++[x])=min (je key b) (key x):=by unfold je;rw [List.foldl_append];rfl
theorem zdx(key:Int->Int)(b:List Int)(x:Int):kU key (b++[x])=max (kU key b) (key x):=by unfold kU;rw [List.foldl_append];rfl
theorem zgR{key:Int->Int}(hk:jI key)(b:List Int):(0<=je key b/\je key b<=255)/\(0<=kU key b/\kU key b<=255)/\(b≠[]->je key b<=kU key b):=by
 have e:∀(c:List Int),∃d:List Int,c=d.reverse:=fun c=>⟨c.reverse,(List.reverse_reverse c).symm⟩
 obtain ⟨d,rfl⟩:=e b
 induction d with
 | nil=>exact ⟨(by decide:(0:Int)<=255/\(255:Int)<=255),(by decide:(0:Int)<=0/\(0:Int)<=255),fun h=>absurd rfl h⟩
 | cons x d ih=>
  rw [List.reverse_cons,ze0,zdx];obtain ⟨i1,i2,_⟩:=ih;have:=hk x;refine ⟨oM,oM,fun _=>by omega⟩
def yi(m:Img)(b:List Int)(c:Nat):Int:=kU (zC m c) b - je (zC m c) b
def kP(m:Img)(b:List Int)(s:Int×Int):Nat->Int×Int
 | 0=>s
 | c+1=>if (kP m b s c).1 < yi m b c then (yi m b c,(c:Int)) else kP m b s c
def jf(m:Img)(b:List Int):Int×Int:=kP m b (0,0) 4
abbrev P8s(m:Img):Prop:=∀q∈m.px,P8 q
theorem zgS{m:Img}(hp:P8s m)(b:List Int)(c:Nat): -255<=yi m b c/\yi m b c<=255/\(b≠[]->0<=yi m b c):=by
 obtain ⟨h1,h2,h3⟩:=zgR (qN hp c) b;unfold yi;exact ⟨oM,oM,fun h=>by have:=h3 h;omega⟩
theorem zgT{m:Img}(hp:P8s m)(x:Int)(c:Nat):yi m [x] c=0:=by
 have:=qN hp c x;show max 0 (zC m c x) - min 255 (zC m c x)=0;omega
theorem vq{m:Img}(hp:P8s m)(b:List Int):∀c:Nat,c<=4->(0<=(kP m b (0,0) c).1/\(kP m b (0,0) c).1<=255)/\(0<=(kP m b (0,0) c).2/\(kP m b (0,0) c).2 < 4)/\((kP m b (0,0) c).1=0->(kP m b (0,0) c).2=0)/\
  (b.length<=1->b≠[]->(kP m b (0,0) c).1=0)
 | 0,_=>⟨(by decide:(0:Int)<=0/\(0:Int)<=255),(by decide:(0:Int)<=0/\(0:Int) < 4),fun _=>rfl,fun _ _=>rfl⟩
 | c+1,hc=>by
  obtain ⟨h1,h2,h3,h4⟩:=vq hp b c oM;obtain ⟨e1,e2,e3⟩:=zgS hp b c;unfold kP
  split
  ·rename_i h;refine ⟨by dsimp only;omega,by dsimp only;omega,fun k=>by dsimp only at k;omega,fun k k2=>?_⟩
   match b,k,k2 with
   | [x],_,_=>exact zgT hp x c
   | [],_,k2=>exact absurd rfl k2
   | x::y::b,k,_=>simp at k
  ·exact ⟨h1,h2,h3,h4⟩
def zR(m:Img)(bs:List (List Int))(s:Int×Int×Int):Nat->Int×Int×Int
 | 0=>s
 | i+1=>if (zR m bs s i).2.1 < (jf m (bs.getD i [])).1 then ((i:Int),jf m (bs.getD i [])) else zR m bs s i
def zy(m:Img)(bs:List (List Int)):Int×Int×Int:=zR m bs (0,0,0) bs.length
theorem uV{m:Img}(hp:P8s m)(bs:List (List Int)):∀i:Nat,(0<=(zR m bs (0,0,0) i).2.1/\(zR m bs (0,0,0) i).2.1<=255)/\(0<=(zR m bs (0,0,0) i).2.2/\(zR m bs (0,0,0) i).2.2 < 4)/\
  (0<=(zR m bs (0,0,0) i).1/\(zR m bs (0,0,0) i).1<=i)/\(0 < (zR m bs (0,0,0) i).2.1->(zR m bs (0,0,0) i).1 < i/\0 < (jf m (bs.getD (zR m bs (0,0,0) i).1.toNat [])).1)
 | 0=>⟨(by decide:(0:Int)<=0/\(0:Int)<=255),(by decide:(0:Int)<=0/\(0:Int) < 4),(by decide:(0:Int)<=0/\(0:Int)<=0),fun h=>absurd h (by show ¬(0:Int) < 0;decide)⟩
 | i+1=>by
  obtain ⟨h1,h2,h3,h4⟩:=uV hp bs i;obtain ⟨e1,e2,e3,_⟩:=vq hp (bs.getD i []) 4 (Nat.le_refl _);unfold zR
  split
  ·rename_i h;exact ⟨e1,e2,⟨by dsimp only;omega,by dsimp only;omega⟩,fun _=>⟨by dsimp only;omega,by dsimp only;rw [Int.toNat_natCast];omega⟩⟩
  ·exact ⟨h1,h2,oM,fun h=>by have:=h4 h;omega⟩
def zdz(m:Img)(bs:List (List Int)):List (List Int):=
 let w:=zy m bs
 let s:=ke (zC m w.2.2.toNat) (bs.getD w.1.toNat [])
 bs.set w.1.toNat (s.take (s.length / 2))++[s.drop (s.length / 2)]
def vt(m:Img)(n:Nat):Nat->List (List Int)->List (List Int)
 | 0,bs=>bs
 | f+1,bs=>if bs.length < n then (if (zy m bs).2.1=0 then bs else vt m n f (zdz m bs)) else bs
def yj(m:Img):List Int:=(List.range m.px.length).map fun i:Nat=>(i:Int)
def yK(m:Img)(n:Nat):List (List Int):=vt m n n [yj m]
def un(m:Img)(bs:List (List Int)):Prop:=bs≠[]/\∀b∈bs,b≠[]/\InP m b/\b.length<=65536
theorem zdA{α:Type}{l:List α}{i:Nat}{d:α}(h:i < l.length):l.getD i d∈l:=by
 rw [List.getD_eq_getElem?_getD,List.getElem?_eq_getElem h];exact List.getElem_mem _
theorem uW{m:Img}(hp:P8s m){bs:List (List Int)}(hb:un m bs)(h:(zy m bs).2.1≠0):
  ((zy m bs).1.toNat < bs.length/\0<=(zy m bs).1)/\((zy m bs).2.2.toNat < 4/\0<=(zy m bs).2.2)/\2<=(bs.getD (zy m bs).1.toNat []).length:=by
 obtain ⟨h1,h2,h3,h4⟩:=uV hp bs bs.length;obtain ⟨h5,h6⟩:=h4 (show 0 < (zy m bs).2.1 by have h1:0<=(zy m bs).2.1/\_:=h1;omega);have h5:(zy m bs).1 < (bs.length:Int):=h5;have h3:0<=(zy m bs).1/\_:=h3;have h2:0<=(zy m bs).2.2/\(zy m bs).2.2 < 4:=h2;have h6:0 < (jf m (bs.getD (zy m bs).1.toNat [])).1:=h6;have hl:(zy m bs).1.toNat < bs.length:=oM;refine ⟨⟨hl,h3.1⟩,⟨oM,h2.1⟩,?_⟩;have hne:=(hb.2 _ (zdA (d:=[]) hl)).1
 rcases Nat.lt_or_ge (bs.getD (zy m bs).1.toNat []).length 2 with hl2 | hl2
 ·have:=(vq hp (bs.getD (zy m bs).1.toNat []) 4 (Nat.le_refl _)).2.2.2 oM hne;have e:(jf m (bs.getD (zy m bs).1.toNat [])).1=0:=this;omega
 ·exact hl2
theorem vY{m:Img}(hp:P8s m){bs:List (List Int)}(hb:un m bs)(h:(zy m bs).2.1≠0):un m (zdz m bs)/\(zdz m bs).length=bs.length+1:=by
 obtain ⟨⟨h1,_⟩,_,h3⟩:=uW hp hb h;unfold zdz;dsimp only;generalize (zy m bs).1.toNat=i at*;generalize hkey:zC m (zy m bs).2.2.toNat=key at*;have hk:jI key:=hkey ▸ qN hp _;obtain ⟨b1,b2,b3⟩:=hb.2 _ (zdA (d:=[]) h1);have hs:=jc hk (bs.getD i []);have hl:=hs.len;have hin:=b2.of hs;generalize ke key (bs.getD i [])=s at*;generalize bs.getD i []=b at*;refine ⟨⟨by simp,fun x hx=>?_⟩,by simp⟩
 rcases List.mem_append.1 hx with hx | hx
 ·rcases List.mem_or_eq_of_mem_set hx with hx | rfl
  ·exact hb.2 x hx
  ·refine ⟨fun e=>?_,fun y hy=>hin y (List.mem_of_mem_take hy),by rw [List.length_take];omega⟩;have:=congrArg List.length e;rw [List.length_take,List.length_nil] at this;omega
 ·obtain rfl:=List.mem_singleton.1 hx;refine ⟨fun e=>?_,fun y hy=>hin y (List.mem_of_mem_drop hy),by rw [List.length_drop];omega⟩;have:=congrArg List.length e;rw [List.length_drop,List.length_nil] at this;omega
theorem ze1{m:Img}(hp:P8s m)(n:Nat):∀(f:Nat) (bs:List (List Int)),un m bs->bs.length<=n->un m (vt m n f bs)/\(vt m n f bs).length<=n
 | 0,bs,h,hl=>⟨h,hl⟩
 | f+1,bs,h,hl=>by
  unfold vt
  split
  ·split
   ·exact ⟨h,hl⟩
   ·rename_i h2;obtain ⟨k1,k2⟩:=vY hp h h2;exact ze1 hp n f _ k1 oM
  ·exact ⟨h,hl⟩
theorem uX{m:Img}(hm:qr m):un m [yj m]:=by
 obtain ⟨m1,m2,m3,m4,_⟩:=hm;refine ⟨by simp,fun b hb=>?_⟩;obtain rfl:=List.mem_singleton.1 hb;have hl:(yj m).length=m.px.length:=by simp [yj]
 have hpos:0 < m.w*m.h:=Int.mul_pos oM oM;refine ⟨fun e=>?_,fun x hx=>?_,by rw [hl];omega⟩
 ·rw [e,List.length_nil] at hl;omega
 ·obtain ⟨i,hi,rfl⟩:=List.mem_map.1 hx;have:=List.mem_range.1 hi;omega
theorem zcy{m:Img}(hp:P8s m)(hm:qr m){n:Nat}(hn:1<=n):un m (yK m n)/\(yK m n).length<=n:=ze1 hp n n _ (uX hm) hn
def zI(l:List Int)(ws:List (Nat×Nat)):List (List Int):=ws.map fun w=>seg l w.1 (w.1+w.2)
def apart(ws:List (Nat×Nat)):Prop:=∀(i j:Nat) (u v:Nat×Nat),i≠j->ws[i]? =some u->ws[j]? =some v->u.1+u.2<=v.1∨v.1+v.2<=u.1
def zdB(l:List Int)(ws:List (Nat×Nat)):Prop:=apart ws/\∀w∈ws,1<=w.2/\w.1+w.2<=l.length
def uY(ws:List (Nat×Nat))(i:Nat)(u:Nat×Nat):List (Nat×Nat):=ws.set i (u.1,u.2 / 2)++[(u.1+u.2 / 2,u.2 - u.2 / 2)]
theorem uZ{l:List Int}{ws:List (Nat×Nat)}{i:Nat}{u:Nat×Nat}(h:ws[i]? =some u):(zI l ws).getD i []=seg l u.1 (u.1+u.2):=by
 unfold zI;rw [List.getD_eq_getElem?_getD,List.getElem?_map,h];rfl
theorem zgU{l l':List Int}{a b c d:Nat}{key:Int->Int}(h:qn key l l' a b)(hd:d<=l.length)(h2:d<=a∨b<=c):seg l' c d=seg l c d:=by
 refine qi (by rw [z5 hd,z5 (by rw [h.len];exact hd)]) fun i hi=>?_
 rw [z5 (by rw [h.len];exact hd)] at hi;rw [qB hi,qB hi];exact h.out _ oM
theorem zdC{key:Int->Int}(hk:jI key){l:List Int}{a b:Nat}(ha:a<=b)(hb:b<=l.length):seg (kf key l a b) a b=ke key (seg l a b):=by
 have hw:(ke key (seg l a b)).length=b - a:=by rw [jJ hk,z5 hb]
 have hlen:=(zit hk ha hb).1.len;refine qi (by rw [hw,z5 oM]) fun i hi=>?_
 rw [z5 oM] at hi;rw [qB hi];unfold kf;rw [uU ha hb hw oM];congr 1;omega
theorem zgV{l:List Int}{a n k:Nat}(h:k<=n):(seg l a (a+n)).take k=seg l a (a+k):=by
 unfold seg;rw [List.take_take];congr 1;omega
theorem zgW{l:List Int}{a n k:Nat}(h:k<=n):(seg l a (a+n)).drop k=seg l (a+k) (a+k+(n - k)):=by
 unfold seg;rw [List.drop_take,List.drop_drop];congr 1;omega
theorem ze2{m:Img}(hp:P8s m){l:List Int}{ws:List (Nat×Nat)}(hw:zdB l ws)(hb:un m (zI l ws))(h:(zy m (zI l ws)).2.1≠0){u:Nat×Nat}(hu:ws[(zy m (zI l ws)).1.toNat]? =some u):
  2<=u.2/\zdB (kf (zC m (zy m (zI l ws)).2.2.toNat) l u.1 (u.1+u.2)) (uY ws (zy m (zI l ws)).1.toNat u)/\
   zI (kf (zC m (zy m (zI l ws)).2.2.toNat) l u.1 (u.1+u.2)) (uY ws (zy m (zI l ws)).1.toNat u)=zdz m (zI l ws):=by
 obtain ⟨_,_,h3⟩:=uW hp hb h;rw [uZ hu] at h3;obtain ⟨u1,u2⟩:=hw.2 u (List.mem_of_getElem? hu);rw [z5 u2] at h3;unfold zdz;dsimp only;rw [uZ hu];generalize (zy m (zI l ws)).1.toNat=i at*;generalize hkey:zC m (zy m (zI l ws)).2.2.toNat=key at*;have hk:jI key:=hkey ▸ qN hp _;have kp:=(zit hk (l:=l) (a:=u.1) (b:=u.1+u.2) oM u2).1;have hsl:(ke key (seg l u.1 (u.1+u.2))).length=u.2:=by rw [jJ hk,z5 u2];omega
 have hi:=(List.getElem?_eq_some_iff.1 hu).1;refine ⟨oM,⟨?_,fun w hw'=>?_⟩,?_⟩
 ·intro p q x y hpq hx hy;unfold uY at hx hy
  have at_:∀(p:Nat) (x:Nat×Nat),(ws.set i (u.1,u.2 / 2)++[(u.1+u.2 / 2,u.2 - u.2 / 2)])[p]? =some x->(p≠i/\ws[p]? =some x/\p < ws.length)∨(p=i/\x=(u.1,u.2 / 2))∨(p=ws.length/\x=(u.1+u.2 / 2,u.2 - u.2 / 2)):=fun p x hx=>by
   rw [List.getElem?_append,List.length_set] at hx
   split at hx
   ·rename_i hl;rw [List.getElem?_set] at hx
    split at hx
    ·rename_i e;subst e;exact .inr (.inl ⟨rfl,(Option.some.inj hx).symm⟩)
    ·rename_i e;exact .inl ⟨fun e'=>e e'.symm,hx,hl⟩
   ·rename_i hl
    have:p - ws.length=0:=by
     rcases Nat.eq_zero_or_pos (p - ws.length) with e | e
     ·exact e
     ·rw [List.getElem?_eq_none (by simp;omega)] at hx;cases hx
    rw [this] at hx;exact .inr (.inr ⟨oM,(Option.some.inj hx).symm⟩)
  rcases at_ p x hx with ⟨p1,p2,p3⟩ | ⟨p1,rfl⟩ | ⟨p1,rfl⟩ <;> rcases at_ q y hy with ⟨q1,q2,q3⟩ | ⟨q1,rfl⟩ | ⟨q1,rfl⟩
  ·exact hw.1 p q x y hpq p2 q2
  ·have:=hw.1 p i x u p1 p2 hu;dsimp only;omega
  ·have:=hw.1 p i x u p1 p2 hu;dsimp only;omega
  ·have:=hw.1 q i y u q1 q2 hu;dsimp only;omega
  ·omega
  ·dsimp only;omega
  ·have:=hw.1 q i y u q1 q2 hu;dsimp only;omega
  ·dsimp only;omega
  ·omega
 ·rw [kp.len];unfold uY at hw'
  rcases List.mem_append.1 hw' with h' | h'
  ·rcases List.mem_or_eq_of_mem_set h' with h' | rfl
   ·exact hw.2 w h'
   ·dsimp only;omega
  ·obtain rfl:=List.mem_singleton.1 h';dsimp only;omega
 ·rw [hsl];unfold zI uY;rw [List.map_append,List.map_set];congr 1
  ·refine List.ext_getElem? fun p=>?_
   rw [List.getElem?_set,List.getElem?_set,List.length_map,List.length_map]
   split
   ·dsimp only;rw [← zdC hk oM u2,zgV oM]
   ·rename_i hpi;rw [List.getElem?_map,List.getElem?_map]
    cases hx:ws[p]? with
    | none=>rfl
    | some x=>
     have:=hw.1 p i x u (fun e=>hpi e.symm) hx hu;have x2:=(hw.2 x (List.mem_of_getElem? hx)).2;simp only [Option.map_some];rw [zgU kp x2 oM]
  ·show [seg _ _ _]=_;rw [← zdC hk oM u2,zgW oM]
open Go.Proofs
def ziK(m:Img):Prop:=1 < m.w∨1 < m.h
instance (m:Img):Decidable (ziK m):=inferInstanceAs (Decidable (_∨_))
def itI(m:Img):Nat->Img
 | 0=>m
 | n+1=>ziC (itI m n)
theorem ziN{m:Img}(hm:okM m):∀n,okM (itI m n)
 | 0=>hm
 | n+1=>zkh (ziN hm n)
def zje(m:Img):Nat->Nat
 | 0=>1
 | n+1=>if ziK m then 1+zje (ziC m) n else 1
theorem zjl(m:Img):∀n,itI (ziC m) n=itI m (n+1)
 | 0=>rfl
 | n+1=>by show ziC (itI (ziC m) n)=ziC (itI m (n+1));rw [zjl m n]
def zix(m:Img):Nat:=zje m 12
theorem zkC(m:Img):(ziC m).w=qd m.w/\(ziC m).h=qd m.h:=⟨rfl,rfl⟩
theorem zjy:∀(n:Nat) (m:Img),1<=m.w->m.w<=2 ^ n->1<=m.h->m.h<=2 ^ n->1<=zje m n/\zje m n<=n+1/\(∀j,j+1 < zje m n->ziK (itI m j))/\¬ziK (itI m (zje m n - 1))
 |0,m,h1,h2,h3,h4=>⟨Nat.le_refl _,Nat.le_refl _,fun j hj=>by have hj:j+1 < 1:=hj;omega,fun k=>by
  have k:ziK m:=k
  unfold ziK at k;omega⟩
 | n+1,m,h1,h2,h3,h4=>by
  unfold zje
  by_cases c:ziK m
  ·rw [if_pos c];obtain ⟨e1,e2⟩:=zkC m;rw [Int.pow_succ] at h2 h4;obtain ⟨a,b,d,e⟩:=zjy n (ziC m) (by rw [e1];unfold qd;omega) (by rw [e1];unfold qd;omega) (by rw [e2];unfold qd;omega) (by rw [e2];unfold qd;omega);refine ⟨oM,oM,fun j hj=>?_,?_⟩
   ·cases j with
    | zero=>exact c
    | succ j=>rw [← zjl];exact d j oM
   ·rw [show 1+zje (ziC m) n - 1=(zje (ziC m) n - 1)+1 by omega,← zjl];exact e
  ·rw [if_neg c];exact ⟨Nat.le_refl _,oM,fun j hj=>by omega,c⟩
theorem zjz{m:Img}(hm:qr m):1<=zix m/\zix m<=13/\(∀j,j+1 < zix m->ziK (itI m j))/\¬ziK (itI m (zix m - 1)):=by
 obtain ⟨m1,m2,_⟩:=hm;exact zjy 12 m m1.1 oM m2.1 oM
theorem zkR{m:Img}(hm:qr m){n:Nat}(h:n+1<=zix m):(ziK (itI m n)->n+2<=zix m)/\(¬ziK (itI m n)->n+1=zix m):=by
 obtain ⟨a,b,c,d⟩:=zjz hm;refine ⟨fun k=>?_,fun k=>?_⟩
 ·refine Decidable.not_not.1 fun q=>d ?_
  rw [show zix m - 1=n by omega];exact k
 ·refine Decidable.not_not.1 fun q=>k (c n oM)
def endG(Γ:List (TypeId×TI))(rs:List ResultVar)(r:SV)(M':List (Nat×Mem))(e:Ex)(σ:St):Prop:=
 match e with
 | .exit _=>False
 | _=>∃σ',Sub σ σ'/\σ'.M=M'/\vH σ' Γ rs fun s=>LE s r
theorem zaY {P:Program} {Γ:List (TypeId×TI)} (hT:TOK P Γ) (hm:P.follows .mixedOrders=true) {f:FuncId} {fn:Func} {c:Code} {args:List SV} {M M':List (Nat×Mem)} {r:SV}
  (hf:P.funcs[f]? =some fn) (hb:fn.body=some c) (hn:(fn.name== "runtime.NumGoroutine")=false) (hle:Nat.ble args.length fn.ntmps=true)
  (h:jX P Γ c ⟨qq 0 args,M,M.length,fn.ntmps,M.length⟩ (endG Γ fn.results.toList r M')):zf P f args M r M':=by
 refine jF hT hm hf hb hn hle h (Q':=fun e σ=>(∀id,e≠.exit id)/\σ.M=M'/\vH σ Γ fn.results.toList fun s=>LE s r) (fun e σ hq=>?_) (fun e σ hq he=>?_) (fun id σ hq=>hq.1 id rfl)
 ·cases e with
  | exit id=>exact hq.elim
  | normal=>obtain ⟨σ',h1,h2,h3⟩:=hq;exact ⟨σ',h1,fun _=>by simp,h2,h3⟩
  | ret=>obtain ⟨σ',h1,h2,h3⟩:=hq;exact ⟨σ',h1,fun _=>by simp,h2,h3⟩
 ·obtain ⟨_,hM,hq⟩:=hq;obtain ⟨s,hle,h1⟩:=jE hT hq;refine ⟨s,h1,fun {E ρ a w v} hr hW hρ0 hg=>⟨ρ,?_,?_,?_⟩⟩
  ·have hs:=hr.stp;rw [hM] at hs;exact ⟨hs.os,hs.tape,hs.output,hs.size,fun b hb hn=>hs.block b hb fun h=>hn ((hW b).1 h),fun b hb=>(hs.own b hb).imp (hW b).1 id,hs.rho⟩
  ·have:=hr.mem
   rwa [hM] at this
  ·rw [hM] at hg;exact hle _ _ _ _ _ hg
end Go.Gs
