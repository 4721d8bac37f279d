/- Sums of pixels, their averages; halved pictures: plain. -/
import Derived.Test.YtjfbljononkmcaaMA
import Derived.Test.YtjfbljononkmcaaMAS
set_option maxRecDepth 100000
set_option maxHeartbeats 8000000
set_option linter.all false
namespace Go.Gs
structure Qd where
 r:Int
 g:Int
 b:Int
 a:Int
def qdE(q:Qd):List SV:=[i64 q.r,i64 q.g,i64 q.b,i64 q.a]
def zQ:Qd:=⟨0,0,0,0⟩
def zfD(q:Qd)(p:Pix)(w:Int):Qd:=⟨q.r+w*p.r,q.g+w*p.g,q.b+w*p.b,q.a+w*p.a⟩
def zbg(q:Qd)(n:Int):Pix:=⟨kM q.r n,kM q.g n,kM q.b n,kM q.a n⟩
def inQ(q:Qd)(n:Int):Prop:=(0<=q.r/\0<=q.g/\0<=q.b)/\(q.r<=q.a/\q.g<=q.a/\q.b<=q.a)/\q.a<=255*n
theorem zgC:inQ zQ 0:=by unfold inQ zQ;decide
theorem vX{w x y:Int}(hw:0<=w)(h:x<=y):w*x<=w*y:=Int.mul_le_mul_of_nonneg_left h hw
theorem zhr{q:Qd}{n w:Int}{p:Pix}(h:inQ q n)(hp:P8 p)(ho:jw p)(hw:0<=w):inQ (zfD q p w) (n+w):=by
 obtain ⟨⟨h1,h2,h3⟩,⟨h4,h5,h6⟩,h7⟩:=h;obtain ⟨p1,p2,p3,p4⟩:=hp;obtain ⟨o1,o2,o3⟩:=ho;have a1:=Int.mul_nonneg hw p1.1;have a2:=Int.mul_nonneg hw p2.1;have a3:=Int.mul_nonneg hw p3.1;have b1:=vX hw o1;have b2:=vX hw o2;have b3:=vX hw o3;have c:=vX hw p4.2;unfold inQ zfD;dsimp only;rw [Int.mul_add];omega
theorem zkP{q:Qd}{m n:Int}(h:inQ q m)(hn:m<=n):inQ q n:=by
 obtain ⟨h1,h2,h3⟩:=h;exact ⟨h1,h2,oM⟩
theorem zcs{a b n:Int}(ha:0<=a)(h:a<=b)(hn:0 < n):kM a n<=kM b n:=by
 rw [zaV ha hn,zaV oM hn];exact Int.ediv_le_ediv oM oM
theorem jG{a n:Int}(ha:0<=a)(h:a<=255*n)(hn:0 < n):R8 (kM a n):=by
 rw [zaV ha hn];refine ⟨Int.ediv_nonneg oM oM,?_⟩;have:(2*a+n) / (2*n) < 256:=Int.ediv_lt_of_lt_mul oM oM;omega
theorem zgD{q:Qd}{n:Int}(h:inQ q n)(hn:0 < n):P8 (zbg q n)/\jw (zbg q n):=by
 obtain ⟨⟨h1,h2,h3⟩,⟨h4,h5,h6⟩,h7⟩:=h;exact ⟨⟨jG h1 oM hn,jG h2 oM hn,jG h3 oM hn,jG oM h7 hn⟩,zcs h1 h4 hn,zcs h2 h5 hn,zcs h3 h6 hn⟩
def gr(f:Nat->Nat->Pix)(w n:Nat):List Pix:=(List.range n).map fun k=>f (k % w) (k / w)
theorem zjs(f:Nat->Nat->Pix)(w n:Nat):(gr f w n).length=n:=by unfold gr;simp
theorem zjR{f:Nat->Nat->Pix}{w i j:Nat}(h:j < w):gr f w (i*w+j)++[f j i]=gr f w (i*w+(j+1)):=by
 unfold gr;rw [show i*w+(j+1)=i*w+j+1 by omega,List.range_succ,List.map_append];have h1:(i*w+j) % w=j:=by rw [Nat.mul_comm,Nat.mul_add_mod];exact Nat.mod_eq_of_lt h
 have h2:(i*w+j) / w=i:=by rw [Nat.mul_comm,Nat.mul_add_div oM];simp [Nat.div_eq_of_lt h]
 simp [h1,h2]
theorem zkf{f:Nat->Nat->Pix}{w n:Nat}{p:Pix}(h:p∈gr f w n):∃x y,p=f x y/\(0 < w->x < w)/\y=y:=by
 obtain ⟨k,_,rfl⟩:=List.mem_map.1 h;exact ⟨k % w,k / w,rfl,fun hw=>Nat.mod_lt _ hw,rfl⟩
theorem zkA{f:Nat->Nat->Pix}{w h:Nat}{p:Pix}(hp:p∈gr f w (w*h))(hw:0 < w):∃x y,p=f x y/\x < w/\y < h:=by
 obtain ⟨k,hk,rfl⟩:=List.mem_map.1 hp;exact ⟨k % w,k / w,rfl,Nat.mod_lt _ hw,Nat.div_lt_of_lt_mul (List.mem_range.1 hk)⟩
abbrev okM(m:Img):Prop:=qr m/\∀q∈m.px,P8 q
def tx(m:Img)(x y:Int):Pix:=ziZ m x y 1
theorem zkg{m:Img}(hm:qr m)(x y:Int):tx m x y∈m.px:=by
 obtain ⟨m1,m2,m3,m4,_⟩:=hm
 have hw:∀{i n:Int},1<=n->(yg i n 1).2=true:=fun {i n} h=>by
  unfold yg;rw [if_neg oM]
  split
  ·rfl
  ·rfl
 have h1:=hw (i:=x) m1.1;have h2:=hw (i:=y) m2.1;have hp:=ziV (zi1 h1) (zi1 h2) m4;unfold tx ziZ;rw [if_pos ⟨h1,h2⟩,List.getD_eq_getElem?_getD,List.getElem?_eq_getElem oM];exact List.getElem_mem _
def tk(m:Img)(x y:Int)(k:Nat):Pix:=ziZ m (2*x+(k:Int) % 2) (2*y+(k:Int) / 2) 1
def zjc(m:Img)(x y:Int):Nat->Qd
 | 0=>zQ
 | k+1=>zfD (zjc m x y k) (tk m x y k) 1
theorem zkN{m:Img}(hm:okM m)(x y:Int)(k:Nat):P8 (tk m x y k)/\jw (tk m x y k):=by
 have:=zkg hm.1 (2*x+(k:Int) % 2) (2*y+(k:Int) / 2);exact ⟨hm.2 _ this,hm.1.2.2.2.2 _ this⟩
theorem zi2{m:Img}(hm:okM m)(x y:Int):∀k:Nat,inQ (zjc m x y k) k
 | 0=>zgC
 | k+1=>by
  have h:=zkN hm x y k;have:=zhr (zi2 hm x y k) h.1 h.2 (show (0:Int)<=1 by decide);rw [Int.natCast_add];exact this
def qd(n:Int):Int:=(n+1) / 2
def ziY(m:Img)(x y:Nat):Pix:=zbg (zjc m x y 4) 4
def ziC(m:Img):Img:=⟨qd m.w,qd m.h,gr (ziY m) (qd m.w).toNat ((qd m.w).toNat*(qd m.h).toNat)⟩
theorem zi3{n:Int}(h:1<=n):1<=qd n/\qd n<=n/\(2<=n->qd n < n):=by unfold qd;omega
theorem zkh{m:Img}(hm:okM m):okM (ziC m):=by
 obtain ⟨m1,m2,m3,m4,_⟩:=id hm.1;have a:=zi3 m1.1;have b:=zi3 m2.1
 have h4:∀q∈(ziC m).px,P8 q/\jw q:=fun q hq=>by
  obtain ⟨x,y,rfl,_⟩:=zkf hq;exact zgD (zi2 hm x y 4) dC
 refine ⟨⟨⟨a.1,by show qd m.w<=_;omega⟩,⟨b.1,by show qd m.h<=_;omega⟩,?_,?_,fun q hq=>(h4 q hq).2⟩,fun q hq=>(h4 q hq).1⟩
 ·have:qd m.w*qd m.h<=m.w*m.h:=Int.mul_le_mul a.2.1 b.2.1 oM oM;show qd m.w*qd m.h<=_;omega
 ·show ((gr (ziY m) (qd m.w).toNat ((qd m.w).toNat*(qd m.h).toNat)).length:Int)=qd m.w*qd m.h;rw [zjs,Int.natCast_mul,Int.toNat_of_nonneg oM,Int.toNat_of_nonneg oM]
def ofK(key:Int->Int)(v:Int)(l:List Int):List Int:=l.filter fun x=>key x==v
def Srt(key:Int->Int)(l:List Int):Prop:=l.Pairwise fun x y=>key x<=key y
def zX(key:Int->Int)(a b:List Int):Prop:=∀v,ofK key v a=ofK key v b
variable {key:Int->Int}
theorem ya(v:Int)(a b:List Int):ofK key v (a++b)=ofK key v a++ofK key v b:=List.filter_append ..
theorem uS{v x:Int}{l:List Int}:x∈ofK key v l↔x∈l/\key x=v:=by simp [ofK]
theorem uT{v:Int}{l:List Int}(h:∀x∈l,key x≠v):ofK key v l=[]:=by
 unfold ofK;rw [List.filter_eq_nil_iff];intro x hx;simpa using h x hx
theorem zX.refl{a:List Int}:zX key a a:=fun _=>rfl
theorem zX.symm{a b:List Int}(h:zX key a b):zX key b a:=fun v=>(h v).symm
theorem zX.trans{a b c:List Int}(h:zX key a b)(k:zX key b c):zX key a c:=fun v=>(h v).trans (k v)
theorem zX.app{a b c d:List Int}(h:zX key a b)(k:zX key c d):zX key (a++c) (b++d):=fun v=>by rw [ya,ya,h v,k v]
theorem zX.perm{a b:List Int}(h:zX key a b):a.Perm b:=by
 rw [List.perm_iff_count];intro x;have e:=congrArg (List.count x) (h (key x));unfold ofK at e
 rwa [List.count_filter (by simp),List.count_filter (by simp)] at e
theorem zX.len{a b:List Int}(h:zX key a b):a.length=b.length:=h.perm.length_eq
theorem zX.mem{a b:List Int}(h:zX key a b){x:Int}:x∈a↔x∈b:=h.perm.mem_iff
theorem zX.swap{u v:List Int}(h:∀x∈u,∀y∈v,key x≠key y):zX key (u++v) (v++u):=fun w=>by
 rw [ya,ya]
 by_cases hu:∃x∈u,key x=w
 ·obtain ⟨x,hx,rfl⟩:=hu;rw [uT fun y hy e=>h x hx y hy e.symm];simp
 ·rw [uT fun x hx e=>hu ⟨x,hx,e⟩];simp
theorem zX.eq:∀{a b:List Int},zX key a b->Srt key a->Srt key b->a=b
 | [],b,h,_,_=>by
  have:=h.len
  cases b with
  | nil=>rfl
  | cons x b=>simp at this
 | x::a,[],h,_,_=>by have:=h.len;simp at this
 | x::a,y::b,h,ha,hb=>by
  have ha1:=List.pairwise_cons.1 ha;have hb1:=List.pairwise_cons.1 hb
  have h1:key y<=key x:=by
   have:x∈y::b:=h.mem.1 (.head _)
   rcases List.mem_cons.1 this with e | e
   ·rw [e];exact Int.le_refl _
   ·exact hb1.1 x e
  have h2:key x<=key y:=by
   have:y∈x::a:=h.mem.2 (.head _)
   rcases List.mem_cons.1 this with e | e
   ·rw [e];exact Int.le_refl _
   ·exact ha1.1 y e
  have hk:key x=key y:=oM;have h3:=h (key x);have e1:ofK key (key x) (x::a)=x::ofK key (key x) a:=by simp [ofK]
  have e2:ofK key (key x) (y::b)=y::ofK key (key x) b:=by simp [ofK,hk]
  rw [e1,e2] at h3;obtain ⟨rfl,h4⟩:=List.cons.inj h3
  have h5:zX key a b:=fun v=>by
   have:=h v;unfold ofK at this ⊢;rw [List.filter_cons,List.filter_cons] at this
   split at this
   ·exact (List.cons.inj this).2
   ·exact this
  rw [h5.eq ha1.2 hb1.2]
def jH(key:Int->Int)(l:List Int)(n:Nat):List Int:=(List.range n).flatMap fun v:Nat=>ofK key (v:Int) l
def ke(key:Int->Int)(l:List Int):List Int:=jH key l 256
theorem yb(l:List Int)(n:Nat):jH key l (n+1)=jH key l n++ofK key n l:=by simp [jH,List.range_succ]
theorem zbL(l:List Int):∀n:Nat,Srt key (jH key l n)/\∀x∈jH key l n,key x < n
 | 0=>⟨List.Pairwise.nil,fun x hx=>by simp [jH] at hx⟩
 | n+1=>by
  obtain ⟨h1,h2⟩:=zbL l n;rw [yb];refine ⟨List.pairwise_append.2 ⟨h1,?_,fun x hx y hy=>?_⟩,fun x hx=>?_⟩
  ·exact List.Pairwise.imp_of_mem (fun {a b} ha hb _=>by rw [(uS.1 ha).2,(uS.1 hb).2];exact Int.le_refl _) (List.pairwise_of_forall (R:=fun _ _=>True) fun _ _=>trivial)
  ·have:=h2 x hx;have:=(uS.1 hy).2;omega
  ·rcases List.mem_append.1 hx with hx | hx
   ·have:=h2 x hx;omega
   ·have:=(uS.1 hx).2;omega
theorem zih(v w:Int)(l:List Int):ofK key v (ofK key w l)=if v=w then ofK key v l else []:=by
 split
 ·rename_i h;subst h;unfold ofK;rw [List.filter_filter];simp
 ·rename_i h;exact uT fun x hx e=>h (by rw [← e,(uS.1 hx).2])
theorem zdr(v:Int)(l:List Int):∀n:Nat,ofK key v (jH key l n)=if 0<=v/\v < n then ofK key v l else []
 | 0=>by rw [if_neg oM];rfl
 | n+1=>by
  rw [yb,ya,zdr v l n,zih]
  by_cases h1:v=n
  ·rw [if_neg oM,if_pos h1,if_pos oM];rfl
  ·rw [if_neg h1]
   by_cases h2:0<=v/\v < n
   ·rw [if_pos h2,if_pos oM];simp
   ·rw [if_neg h2,if_neg oM];rfl
abbrev jI(key:Int->Int):Prop:=∀x,0<=key x/\key x < 256
theorem jc(hk:jI key)(l:List Int):zX key (ke key l) l:=fun v=>by
 unfold ke;rw [zdr]
 split
 ·rfl
 ·rename_i h;exact (uT fun x _ e=>h (by have:=hk x;omega)).symm
theorem zbM(l:List Int):Srt key (ke key l):=(zbL l 256).1
theorem zee(hk:jI key){a l:List Int}(h:zX key a l)(hs:Srt key a):a=ke key l:=(h.trans (jc hk l).symm).eq hs (zbM l)
theorem jJ(hk:jI key)(l:List Int):(ke key l).length=l.length:=(jc hk l).len
theorem zfE(hk:jI key){l:List Int}{x:Int}:x∈ke key l↔x∈l:=(jc hk l).mem
abbrev gz(l:List Int)(i:Nat):Int:=l.getD i 0
def qc(key:Int->Int)(l:List Int)(a b:Nat):Prop:=∀i j,a<=i->i<=j->j < b->key (gz l i)<=key (gz l j)
theorem zeU{l:List Int}:Srt key l↔qc key l 0 l.length:=by
 unfold Srt qc gz;rw [List.pairwise_iff_getElem];constructor
 ·intro h i j _ hij hj
  rcases Nat.lt_or_ge i j with hl | hl
  ·have:=h i j oM hj hl
   simpa [List.getD_eq_getElem?_getD,List.getElem?_eq_getElem,hj,show i < l.length by omega] using this
  ·have:i=j:=by omega
   subst this;exact Int.le_refl _
 ·intro h i j hi hj hl;have:=h i j (Nat.zero_le _) oM hj
  simpa [List.getD_eq_getElem?_getD,List.getElem?_eq_getElem,hi,hj] using this
def seg(l:List Int)(a b:Nat):List Int:=(l.drop a).take (b - a)
theorem z5{l:List Int}{a b:Nat}(h:b<=l.length):(seg l a b).length=b - a:=by simp [seg];omega
theorem qB{l:List Int}{a b i:Nat}(h:i < b - a):gz (seg l a b) i=gz l (a+i):=by
 unfold gz seg;simp [List.getD_eq_getElem?_getD,h]
theorem zhs{l:List Int}{a b:Nat}(hb:b<=l.length):Srt key (seg l a b)↔qc key l a b:=by
 rw [zeU,z5 hb];constructor
 ·intro h i j hi hij hj;have:=h (i - a) (j - a) oM oM oM
  rwa [qB oM,qB oM,show a+(i - a)=i by omega,show a+(j - a)=j by omega] at this
 ·intro h i j _ hij hj;rw [qB oM,qB oM];exact h _ _ oM oM oM
theorem cut3{l:List Int}{a b:Nat}(h:a<=b):l=l.take a++(seg l a b++l.drop b):=by
 unfold seg;have:l.drop b=(l.drop a).drop (b - a):=by rw [List.drop_drop];congr 1;omega
 rw [this,List.take_append_drop,List.take_append_drop]
def zaW(l:List Int)(a b:Nat)(w:List Int):List Int:=l.take a++(w++l.drop b)
theorem zgE{l w:List Int}{a b:Nat}(h:a<=b)(hb:b<=l.length)(hw:w.length=b - a):(zaW l a b w).length=l.length:=by simp [zaW];omega
theorem zds{l w:List Int}{a b i:Nat}(h:a<=b)(hb:b<=l.length)(hw:w.length=b - a)(hi:i < a∨b<=i):gz (zaW l a b w) i=gz l i:=by
 unfold gz zaW;simp only [List.getD_eq_getElem?_getD,List.getElem?_append,List.length_take,List.getElem?_take,List.getElem?_drop]
 rcases hi with hi | hi
 ·rw [if_pos oM,if_pos hi]
 ·rw [if_neg oM,if_neg oM];congr 2;omega
theorem uU{l w:List Int}{a b i:Nat}(h:a<=b)(hb:b<=l.length)(hw:w.length=b - a)(hi:a<=i/\i < b):gz (zaW l a b w) i=gz w (i - a):=by
 unfold gz zaW;simp only [List.getD_eq_getElem?_getD,List.getElem?_append,List.length_take];rw [if_neg oM,if_pos oM];congr 2;congr 1;omega
theorem zbN{l w:List Int}{a b:Nat}(h:a<=b)(hw:zX key w (seg l a b)):zX key (zaW l a b w) l:=by
 have:=(zX.refl (key:=key) (a:=l.take a)).app (hw.app (zX.refl (a:=l.drop b)))
 rwa [← cut3 h] at this
theorem zgF{l w:List Int}{a b:Nat}(h:a<=b)(hb:b<=l.length)(hw:w.length=b - a)(hs:Srt key w):qc key (zaW l a b w) a b:=fun i j hi hij hj=>by
 rw [uU h hb hw ⟨oM,oM⟩,uU h hb hw ⟨oM,hj⟩];exact zeU.1 hs _ _ (Nat.zero_le _) oM oM
variable {key:Int->Int}
theorem zct(l:List Int)(p q:Nat)(v:Int):gz (l.set p v) q=if p=q/\p < l.length then v else gz l q:=by
 unfold gz;simp only [List.getD_eq_getElem?_getD,List.getElem?_set]
 by_cases h:p=q
 ·subst h
  by_cases hp:p < l.length
  ·simp [hp]
  ·simp [hp]
 ·simp [h]
theorem qm{l:List Int}{i:Nat}{x:Int}(h:l[i]? =some x):gz l i=x:=by unfold gz;rw [List.getD_eq_getElem?_getD,h];rfl
theorem zgG{l:List Int}{i:Nat}(h:i < l.length):l[i]? =some (gz l i):=by unfold gz;simp [List.getD_eq_getElem?_getD,h]
theorem yH{l:List Int}{i:Nat}(h:i < l.length):gz l i∈l:=List.mem_of_getElem? (zgG h)
theorem zgH(a b:List Int)(i:Nat):gz (a++b) i=if i < a.length then gz a i else gz b (i - a.length):=by
 unfold gz;simp only [List.getD_eq_getElem?_getD,List.getElem?_append]
 split <;> rfl
theorem qi{l m:List Int}(h:l.length=m.length)(k:∀i,i < l.length->gz l i=gz m i):l=m:=by
 refine List.ext_getElem? fun i=>?_
 by_cases hi:i < l.length
 ·rw [zgG hi,zgG oM,k i hi]
 ·rw [List.getElem?_eq_none oM,List.getElem?_eq_none oM]
def mkL(n:Nat)(f:Nat->Int):List Int:=(List.range n).map f
theorem zeV(n:Nat)(f:Nat->Int):(mkL n f).length=n:=by simp [mkL]
theorem zgI{n:Nat}{f:Nat->Int}{i:Nat}(h:i < n):gz (mkL n f) i=f i:=by unfold gz mkL;simp [List.getD_eq_getElem?_getD,h]
def jK(f:Nat->Int)(a b k q:Nat):Int:=if a<=q/\q < a+k then f (q - a+b) else if b<=q/\q < b+k then f (q - b+a) else f q
def jL(f:Nat->Int)(a m b q:Nat):Int:=if a<=q/\q < a+(b - m) then f (q - a+m) else if a+(b - m)<=q/\q < b then f (q - (b - m)) else f q
def qG(l:List Int)(a b k:Nat):List Int:=mkL l.length (jK (gz l) a b k)
def zU(l:List Int)(a m b:Nat):List Int:=mkL l.length (jL (gz l) a m b)
theorem zW(l:List Int)(a b k:Nat):(qG l a b k).length=l.length:=zeV ..
theorem zH(l:List Int)(a m b:Nat):(zU l a m b).length=l.length:=zeV ..
theorem zP{l:List Int}{a m b q:Nat}(h:q < l.length):gz (zU l a m b) q=jL (gz l) a m b q:=zgI h
theorem qH{l:List Int}{a b k q:Nat}(h:q < l.length):gz (qG l a b k) q=jK (gz l) a b k q:=zgI h
theorem zht(l:List Int)(a b:Nat):qG l a b 0=l:=by
 refine qi (zW ..) fun i hi=>?_
 rw [zW] at hi;rw [qH hi];unfold jK;rw [if_neg oM,if_neg oM]
theorem zef{l:List Int}{a b k:Nat}(hab:a+k < b)(hb:b+k < l.length):
  ((qG l a b k).set (a+k) (gz (qG l a b k) (b+k))).set (b+k) (gz (qG l a b k) (a+k))=qG l a b (k+1):=by
 refine qi (by simp [zW]) fun i hi=>?_
 simp only [List.length_set,zW] at hi;simp only [zct,List.length_set,zW];rw [qH hi,qH hi,qH oM,qH hb];unfold jK
 grind
theorem zii{l:List Int}{m i j:Nat}(h:j < i)(hi:i<=m)(hm:m+j<=l.length):
  zU (qG l (m - i) m j) (m - (i - j)) m (m+j)=zU l (m - i) m (m+j):=by
 refine qi (by simp [zW,zH]) fun q hq=>?_
 simp only [zW,zH] at hq;rw [zP (by rw [zW];exact hq),zP hq];unfold jL;have key:∀q',q' < l.length->gz (qG l (m - i) m j) q'=jK (gz l) (m - i) m j q':=fun q' h'=>qH h'
 split
 ·rw [key _ oM];unfold jK;grind
 ·split
  ·rw [key _ oM];unfold jK;grind
  ·rw [key _ oM];unfold jK;grind
theorem zij{l:List Int}{m i j:Nat}(h:i < j)(hi:i<=m)(hm:m+j<=l.length):
  zU (qG l (m - i) (m+j - i) i) (m - i) m (m+(j - i))=zU l (m - i) m (m+j):=by
 refine qi (by simp [zW,zH]) fun q hq=>?_
 simp only [zW,zH] at hq;rw [zP (by rw [zW];exact hq),zP hq];unfold jL;have key:∀q',q' < l.length->gz (qG l (m - i) (m+j - i) i) q'=jK (gz l) (m - i) (m+j - i) i q':=fun q' h'=>qH h'
 split
 ·rw [key _ oM];unfold jK;grind
 ·split
  ·rw [key _ oM];unfold jK;grind
  ·rw [key _ oM];unfold jK;grind
theorem zik{l:List Int}{m i:Nat}(hi:i<=m):qG l (m - i) m i=zU l (m - i) m (m+i):=by
 refine qi (by simp [zW,zH]) fun q hq=>?_
 simp only [zW] at hq;rw [zP hq,qH hq];unfold jL jK
 grind
theorem zhu{l:List Int}{a m b:Nat}(ha:a<=m)(hm:m<=b)(hb:b<=l.length):zU l a m b=l.take a++((seg l m b++seg l a m)++l.drop b):=by
 have l1:=z5 hb (a:=m);have l2:=z5 (l:=l) (b:=m) (a:=a) oM;refine qi ?_ fun q hq=>?_
 ·rw [zH];simp [l1,l2];omega
 ·rw [zH] at hq;rw [zP hq];have e:l.take a++((seg l m b++seg l a m)++l.drop b)=zaW l a b (seg l m b++seg l a m):=rfl;have lw:(seg l m b++seg l a m).length=b - a:=by rw [List.length_append,l1,l2];omega
  rw [e];unfold jL
  by_cases h:a<=q/\q < b
  ·rw [uU oM hb lw h];rw [zgH,l1]
   by_cases h2:q < a+(b - m)
   ·rw [if_pos ⟨h.1,h2⟩,if_pos oM,qB oM];congr 1;omega
   ·rw [if_neg oM,if_pos ⟨oM,h.2⟩,if_neg oM,qB oM];congr 1;omega
  ·rw [zds oM hb lw oM,if_neg oM,if_neg oM]
structure qn (key:Int->Int) (l l':List Int) (a b:Nat):Prop where
 len:l'.length=l.length
 out:∀q,q < a∨b<=q->gz l' q=gz l q
 same:zX key l' l
theorem qn.refl{l:List Int}{a b:Nat}:qn key l l a b:=⟨rfl,fun _ _=>rfl,.refl⟩
theorem qn.trans{l m n:List Int}{a b:Nat}(h:qn key l m a b)(k:qn key m n a b):qn key l n a b:=
 ⟨k.len.trans h.len,fun q hq=>(k.out q hq).trans (h.out q hq),k.same.trans h.same⟩
theorem qn.up{l m:List Int}{a b c d:Nat}(h:qn key l m a b)(h1:c<=a)(h2:b<=d):qn key l m c d:=⟨h.len,fun q hq=>h.out q oM,h.same⟩
theorem qn.srt{l m:List Int}{a b c d:Nat}(h:qn key l m a b)(hs:qc key l c d)(hd:d<=a∨b<=c):qc key m c d:=fun i j hi hij hj=>by
 rw [h.out i oM,h.out j oM];exact hs i j hi hij hj
theorem zcu{l:List Int}{a b:Nat}(hb:b<=l.length){x:Int}(h:x∈seg l a b):∃q,a<=q/\q < b/\gz l q=x:=by
 obtain ⟨i,hi⟩:=List.mem_iff_getElem?.1 h;have hl:=(List.getElem?_eq_some_iff.1 hi).1;rw [z5 hb] at hl;have:=qm hi;rw [qB hl] at this;exact ⟨a+i,oM,oM,this⟩
theorem qn.rot{l:List Int}{a m b:Nat}(ha:a<=m)(hm:m<=b)(hb:b<=l.length)(h:∀i j,a<=i->i < m->m<=j->j < b->key (gz l i)≠key (gz l j)):qn key l (zU l a m b) a b:=by
 refine ⟨zH ..,fun q hq=>?_,?_⟩
 ·by_cases hl:q < l.length
  ·rw [zP hl];unfold jL;rw [if_neg oM,if_neg oM]
  ·unfold gz;rw [List.getD_eq_getElem?_getD,List.getD_eq_getElem?_getD,List.getElem?_eq_none (by rw [zH];omega),List.getElem?_eq_none oM]
 ·rw [zhu ha hm hb]
  have e:zX key (seg l m b++seg l a m) (seg l a m++seg l m b):=zX.swap fun x hx y hy=>by
   obtain ⟨i,h1,h2,rfl⟩:=zcu hb hx;obtain ⟨j,h3,h4,rfl⟩:=zcu oM hy;exact fun e=>h j i h3 h4 h1 h2 e.symm
  have e2:seg l a m++seg l m b=seg l a b:=by
   refine qi ?_ fun i hi=>?_
   ·rw [List.length_append,z5 oM,z5 hb,z5 hb];omega
   ·have la:(seg l a m).length=m - a:=z5 oM;rw [List.length_append,la,z5 hb] at hi;rw [zgH,la,qB (show i < b - a by omega)]
    split
    ·rw [qB oM]
    ·rename_i hn;rw [qB oM];congr 1;omega
  rw [e2] at e;exact zbN oM e
def kf(key:Int->Int)(l:List Int)(a b:Nat):List Int:=zaW l a b (ke key (seg l a b))
theorem zit(hk:jI key){l:List Int}{a b:Nat}(ha:a<=b)(hb:b<=l.length):qn key l (kf key l a b) a b/\qc key (kf key l a b) a b:=by
 have hw:(ke key (seg l a b)).length=b - a:=by rw [jJ hk,z5 hb]
 exact ⟨⟨zgE ha hb hw,fun q hq=>zds ha hb hw hq,zbN ha (jc hk _)⟩,zgF ha hb hw (zbM _)⟩
theorem zX.cancel{p q r s:List Int}(h:zX key (p++(q++s)) (p++(r++s))):zX key q r:=fun v=>by
 have:=h v
 simpa only [ya,List.append_cancel_left_eq,List.append_cancel_right_eq] using this
theorem qU(hk:jI key){l m:List Int}{a b:Nat}(ha:a<=b)(hb:b<=l.length)(h:qn key l m a b)(hs:qc key m a b):m=kf key l a b:=by
 have e1:m.take a=l.take a:=qi (by simp [h.len]) fun i hi=>by
  simp only [List.length_take] at hi;unfold gz;simp only [List.getD_eq_getElem?_getD,List.getElem?_take,if_pos (show i < a by omega)];exact h.out i oM
 have e2:m.drop b=l.drop b:=qi (by simp [h.len]) fun i hi=>by
  unfold gz;simp only [List.getD_eq_getElem?_getD,List.getElem?_drop];exact h.out (b+i) oM
 have hm:=cut3 (l:=m) ha;rw [e1,e2] at hm;have hl:=cut3 (l:=l) ha;have hc:=h.same;have hc:zX key (l.take a++(seg m a b++l.drop b)) (l.take a++(seg l a b++l.drop b)):=hm ▸ hl ▸ hc;have:=zee hk hc.cancel ((zhs (by rw [h.len];exact hb)).2 hs);unfold kf zaW;rw [← this];exact hm
variable {key:Int->Int}
theorem yV(hk:jI key){l:List Int}{a b:Nat}(ha:a<=b)(hb:b<=l.length)(h:qc key l a b):kf key l a b=l:=(qU hk ha hb .refl h).symm
theorem zdt(hk:jI key){l:List Int}{a b:Nat}(ha:a<=b)(hb:b<=l.length):(kf key l a b).length=l.length:=(zit hk ha hb).1.len
theorem zdu(hk:jI key){l:List Int}{a b q:Nat}(ha:a<=b)(hb:b<=l.length)(hq:a<=q/\q < b):∃p,a<=p/\p < b/\gz (kf key l a b) q=gz l p:=by
 have hw:(ke key (seg l a b)).length=b - a:=by rw [jJ hk,z5 hb]
 unfold kf;rw [uU ha hb hw hq];obtain ⟨p,h1,h2,h3⟩:=zcu hb ((zfE hk).1 (yH (show q - a < (ke key (seg l a b)).length by omega)));exact ⟨p,h1,h2,h3.symm⟩
theorem qc.up{l:List Int}{a b c d:Nat}(h:qc key l a b)(h1:a<=c)(h2:d<=b):qc key l c d:=fun i j hi hij hj=>h i j oM hij oM
theorem yI{l:List Int}{a m b:Nat}(h:a=m/\m<=b∨m=b/\a<=m):zU l a m b=l:=by
 refine qi (zH ..) fun i hi=>?_
 rw [zH] at hi;rw [zP hi];unfold jL
 rcases h with ⟨rfl,h⟩ | ⟨rfl,h⟩
 ·split
  ·congr 1;omega
  ·rw [if_neg oM]
 ·rw [if_neg oM]
  split
  ·congr 1;omega
  ·rfl
theorem sym_1(hk:jI key){l:List Int}{a i b:Nat}(hi:a+1<=i/\i<=b)(hb:b<=l.length)(hs:qc key l (a+1) b)(h1:i=a+1∨key (gz l (i - 1)) < key (gz l a))(h2:i=b∨key (gz l a)<=key (gz l i)):
  zU l a (a+1) i=kf key l a b:=by
 have low:∀j,a+1<=j->j < i->key (gz l j) < key (gz l a):=fun j p q=>by
  have:=hs j (i - 1) oM oM oM;omega
 have high:∀j,i<=j->j < b->key (gz l a)<=key (gz l j):=fun j p q=>by
  have:=hs i j oM oM oM;omega
 refine qU hk oM hb ((qn.rot oM oM oM fun p q p1 p2 q1 q2=>?_).up (Nat.le_refl _) hi.2) fun p q h3 h4 h5=>?_
 ·obtain rfl:p=a:=by omega
  have:=low q q1 q2;omega
 ·rw [zP oM,zP oM];have e:∀x,jL (gz l) a (a+1) i x=if a<=x/\x < i - 1 then gz l (x+1) else if x=i - 1 then gz l a else gz l x:=fun x=>by unfold jL;grind
  rw [e,e];clear e h1 h2 hk
  by_cases c1:p < i - 1
  ·rw [if_pos ⟨h3,c1⟩]
   by_cases c2:q < i - 1
   ·rw [if_pos ⟨oM,c2⟩];exact hs _ _ oM oM oM
   ·rw [if_neg oM]
    split
    ·have:=low (p+1) oM oM;omega
    ·exact hs _ _ oM oM h5
  ·rw [if_neg oM,if_neg (show ¬(a<=q/\q < i - 1) by omega)]
   split
   ·split
    ·omega
    ·exact high q oM h5
   ·rw [if_neg oM];exact hs _ _ oM h4 h5
theorem zhQ(hk:jI key){l:List Int}{a i m:Nat}(hi:a<=i/\i<=m)(hb:m+1<=l.length)(hs:qc key l a m)(h1:i=a∨key (gz l (i - 1))<=key (gz l m))(h2:i=m∨key (gz l m) < key (gz l i)):
  zU l i m (m+1)=kf key l a (m+1):=by
 have low:∀j,a<=j->j < i->key (gz l j)<=key (gz l m):=fun j p q=>by
  have:=hs j (i - 1) oM oM oM;omega
 have high:∀j,i<=j->j < m->key (gz l m) < key (gz l j):=fun j p q=>by
  have:=hs i j oM oM oM;omega
 refine qU hk oM hb ((qn.rot oM oM oM fun p q p1 p2 q1 q2=>?_).up hi.1 (Nat.le_refl _)) fun p q h3 h4 h5=>?_
 ·obtain rfl:q=m:=by omega
  have:=high p p1 p2;omega
 ·rw [zP oM,zP oM];have e:∀x,jL (gz l) i m (m+1) x=if x=i then gz l m else if i < x/\x < m+1 then gz l (x - 1) else gz l x:=fun x=>by unfold jL;grind
  rw [e,e];clear e h1 h2 hk
  by_cases c1:p < i
  ·rw [if_neg oM,if_neg oM]
   by_cases c2:q < i
   ·rw [if_neg oM,if_neg oM];exact hs _ _ oM oM oM
   ·split
    ·exact low p h3 c1
    ·rw [if_pos oM];exact hs _ _ oM oM oM
  ·by_cases c3:p=i
   ·rw [if_pos c3]
    split
    ·omega
    ·rw [if_pos oM];have:=high (q - 1) oM oM;omega
   ·rw [if_neg c3,if_pos oM,if_neg oM,if_pos oM];exact hs _ _ oM oM oM
theorem zhR (hk:jI key) {l:List Int} {a m b s e mid:Nat} (hm:a<=s/\s<=m/\m<=e/\e<=b) (hmid:mid+m=s+e) (hb:b<=l.length) (hs1:qc key l a m) (hs2:qc key l m b)
  (h1:s=a∨e=b∨key (gz l (s - 1))<=key (gz l e)) (h2:s=m∨e=m∨key (gz l (e - 1)) < key (gz l s)):
  qc key (zU l s m e) a s/\qc key (zU l s m e) s mid/\qc key (kf key (zU l s m e) a mid) mid e/\qc key (kf key (zU l s m e) a mid) e b/\
   kf key (kf key (zU l s m e) a mid) mid b=kf key l a b:=by
 have f:∀x,jL (gz l) s m e x=if s<=x/\x < mid then gz l (x+(m - s)) else if mid<=x/\x < e then gz l (x - (e - m)) else gz l x:=fun x=>by unfold jL;grind
 have hl:(zU l s m e).length=l.length:=zH ..;have g:∀x,x < l.length->gz (zU l s m e) x=if s<=x/\x < mid then gz l (x+(m - s)) else if mid<=x/\x < e then gz l (x - (e - m)) else gz l x:=fun x hx=>by rw [zP hx,f]
 have AB:∀i j,a<=i->i < s->e<=j->j < b->key (gz l i)<=key (gz l j):=fun i j i1 i2 j1 j2=>by
  have:=hs1 i (s - 1) oM oM oM;have:=hs2 e j oM oM oM;omega
 have VU:∀i j,s<=i->i < m->m<=j->j < e->key (gz l j) < key (gz l i):=fun i j i1 i2 j1 j2=>by
  have:=hs1 s i oM oM oM;have:=hs2 j (e - 1) oM oM oM;omega
 have k1:qn key l (zU l s m e) a b:=(qn.rot oM oM oM fun i j p1 p2 q1 q2=>by have:=VU i j p1 p2 q1 q2;omega).up oM oM
 have a1:qc key (zU l s m e) a s:=fun i j p1 p2 p3=>by
  rw [g i oM,g j oM,if_neg oM,if_neg oM,if_neg oM,if_neg oM];exact hs1 i j oM oM oM
 have a2:qc key (zU l s m e) s mid:=fun i j p1 p2 p3=>by
  rw [g i oM,g j oM,if_pos oM,if_pos oM];exact hs2 _ _ oM oM oM
 have a3:qc key (zU l s m e) mid e:=fun i j p1 p2 p3=>by
  rw [g i oM,g j oM,if_neg oM,if_pos oM,if_neg oM,if_pos oM];exact hs1 _ _ oM oM oM
 have a4:qc key (zU l s m e) e b:=fun i j p1 p2 p3=>by
  rw [g i oM,g j oM,if_neg oM,if_neg oM,if_neg oM,if_neg oM];exact hs2 _ _ oM oM oM
 have cross:∀i j,a<=i->i < mid->mid<=j->j < b->key (gz (zU l s m e) i)<=key (gz (zU l s m e) j):=fun i j p1 p2 p3 p4=>by
  rw [g i oM,g j oM]
  by_cases c1:s<=i
  ·rw [if_pos oM,if_neg oM]
   by_cases c2:j < e
   ·rw [if_pos oM];have:=VU (j - (e - m)) (i+(m - s)) oM oM oM oM;omega
   ·rw [if_neg oM];exact hs2 _ _ oM oM oM
  ·rw [if_neg oM,if_neg oM,if_neg oM]
   by_cases c2:j < e
   ·rw [if_pos oM];exact hs1 _ _ oM oM oM
   ·rw [if_neg oM];exact AB i j oM oM oM oM
 have k2:=zit hk (l:=zU l s m e) (a:=a) (b:=mid) oM oM;have hl2:(kf key (zU l s m e) a mid).length=l.length:=k2.1.len.trans hl;have k3:=zit hk (l:=kf key (zU l s m e) a mid) (a:=mid) (b:=b) oM oM;refine ⟨a1,a2,k2.1.srt a3 (.inr (Nat.le_refl _)),k2.1.srt a4 (.inr oM),?_⟩;refine qU hk oM hb ((k1.trans (k2.1.up (Nat.le_refl _) oM)).trans (k3.1.up oM (Nat.le_refl _))) fun i j p1 p2 p3=>?_
 by_cases c1:mid<=i
 ·exact k3.2 i j c1 p2 p3
 ·by_cases c2:j < mid
  ·rw [k3.1.out i oM,k3.1.out j oM];exact k2.2 i j p1 p2 c2
  ·rw [k3.1.out i oM];obtain ⟨p,q1,q2,q3⟩:=zdu hk (l:=zU l s m e) (a:=a) (b:=mid) (q:=i) oM oM ⟨p1,oM⟩;obtain ⟨p',q1',q2',q3'⟩:=zdu hk (l:=kf key (zU l s m e) a mid) (a:=mid) (b:=b) (q:=j) oM oM ⟨oM,p3⟩;rw [q3,q3',k2.1.out p' oM];exact cross p p' q1 q2 q1' q2'
variable {key:Int->Int}
def Bk(key:Int->Int)(l:List Int)(lo n bs i:Nat):Prop:=qc key l (lo+i*bs) (min (lo+(i+1)*bs) (lo+n))
theorem jd(i bs:Nat):(i+1)*bs=i*bs+bs:=Nat.succ_mul i bs
theorem zhS{i k bs:Nat}(h:i < k):i*bs+bs<=k*bs:=by
 have:=Nat.mul_le_mul_right bs (show i+1<=k by omega)
 rwa [jd] at this
theorem zeg(hk:jI key){l:List Int}{lo n bs k:Nat}(hl:lo+n<=l.length)(ha:k*bs<=n)(h:∀i,i < k->Bk key l lo n bs i):
  ∀i,i < k+1->Bk key (kf key l (lo+k*bs) (min (lo+(k+1)*bs) (lo+n))) lo n bs i:=fun i hi=>by
 have e:=jd k bs;have kp:=zit hk (l:=l) (a:=lo+k*bs) (b:=min (lo+(k+1)*bs) (lo+n)) oM oM
 by_cases c:i=k
 ·subst c;exact kp.2
 ·have:=zhS (bs:=bs) (show i < k by omega);have e2:=jd i bs;exact kp.1.srt (h i oM) (.inl oM)
theorem zhv(hk:jI key){l:List Int}{lo n bs b c i:Nat}(hb:b<=c)(hl:c<=l.length)(hi:c<=lo+i*bs)(h:Bk key l lo n bs i):Bk key (kf key l b c) lo n bs i:=
 (zit hk hb hl).1.srt h (.inr hi)
theorem zgJ{l:List Int}{lo n bs k:Nat}(h:∀i,2*k<=i->Bk key l lo n bs i)(hb:k*(2*bs)+bs<=n):
  qc key l (lo+k*(2*bs)) (lo+k*(2*bs)+bs)/\qc key l (lo+k*(2*bs)+bs) (min (lo+(k+1)*(2*bs)) (lo+n)):=by
 have e1:k*(2*bs)=2*k*bs:=by rw [← Nat.mul_assoc,Nat.mul_comm k 2]
 have e2:=jd k (2*bs);have h1:=h (2*k) (Nat.le_refl _);have h2:=h (2*k+1) oM;unfold Bk at h1 h2;have e3:=jd (2*k) bs;have e4:=jd (2*k+1) bs;exact ⟨h1.up oM oM,h2.up oM oM⟩
theorem zgK{l:List Int}{lo n bs k:Nat}(h:∀i,2*k<=i->Bk key l lo n bs i)(hb:n<=k*(2*bs)+bs):∀i,k<=i->Bk key l lo n (2*bs) i:=fun i hi=>by
 have e1:k*(2*bs)=2*k*bs:=by rw [← Nat.mul_assoc,Nat.mul_comm k 2]
 have h1:=h (2*k) (Nat.le_refl _);unfold Bk at*;have e3:=jd (2*k) bs
 by_cases c:i=k
 ·subst c;rw [e3] at h1;rw [e1];exact h1.up oM oM
 ·have:=zhS (bs:=2*bs) (show k < i by omega);exact fun p q p1 p2 p3=>oM
theorem zgL{l:List Int}{lo n bs k:Nat}(h:∀i,i < k->Bk key l lo n bs i)(hb:n<=k*bs):∀i,Bk key l lo n bs i:=fun i=>by
 by_cases c:i < k
 ·exact h i c
 ·have:=Nat.mul_le_mul_right bs (show k<=i by omega);exact fun p q p1 p2 p3=>oM
theorem zhw(hk:jI key){l0 l:List Int}{lo n bs:Nat}(hl:lo+n<=l0.length)(kp:qn key l0 l lo (lo+n))(h:Bk key l lo n bs 0)(hb:n<=bs):l=kf key l0 lo (lo+n):=
 qU hk oM hl kp (h.up oM oM)
open Go.Proofs
def stepQ(q:Qd)(p:Pix)(w:Int):Nat->Qd
 | 0=>q
 | 1=>⟨q.r+w*p.r,q.g,q.b,q.a⟩
 | 2=>⟨q.r+w*p.r,q.g+w*p.g,q.b,q.a⟩
 | 3=>⟨q.r+w*p.r,q.g+w*p.g,q.b+w*p.b,q.a⟩
 | _=>zfD q p w
def bigQ(q:Qd):Prop:=(0<=q.r/\q.r<=1000000000000000)/\(0<=q.g/\q.g<=1000000000000000)/\(0<=q.b/\q.b<=1000000000000000)/\(0<=q.a/\q.a<=1000000000000000)
theorem zeW{q:Qd}{n:Int}(h:inQ q n)(hn:n<=1000000000000):bigQ q:=by
 obtain ⟨⟨h1,h2,h3⟩,⟨h4,h5,h6⟩,h7⟩:=h;exact ⟨⟨h1,oM⟩,⟨h2,oM⟩,⟨h3,oM⟩,oM,oM⟩
theorem zil(q:Qd)(p:Pix)(w:Int)(hq:bigQ q)(hp:P8 p)(hw:0<=w/\w<=1000000000000):
  zf Try.prog 56 [.loc 0 0,.agg (kd p),i64 w] [(0,.box 75 (qdE q))] (.tup []) [(0,.box 75 (qdE (zfD q p w)))]:=by
 obtain ⟨q1,q2,q3,q4⟩:=hq;obtain ⟨p1,p2,p3,p4⟩:=id hp;have m1:=zaU hw.1 hw.2 p1.1 p1.2;have m2:=zaU hw.1 hw.2 p2.1 p2.2;have m3:=zaU hw.1 hw.2 p3.1 p3.2;have m4:=zaU hw.1 hw.2 p4.1 p4.2;refine qA tok mix Try.func56 rfl rfl rfl rfl rfl ?_;refine ⟨Nat,fun i=>⟨[(7,i64 (i:Int)),(4,.loc 1 0),(2,i64 w),(0,.loc 0 0)],[(1,.box 37 (kd p)),(0,.box 75 (qdE (stepQ q p w i)))],2,24,1⟩,fun i=>i<=4,fun i=>4 - i,0,Nat.zero_le _,?_,?_⟩
 ·exact zo [(0,some 0),(1,some 1)]
 intro i hi;have hi:i<=4:=hi;have h5:i=0∨i=1∨i=2∨i=3∨i=4:=oM
 rcases h5 with rfl | rfl | rfl | rfl | rfl
 ·refine Br.y ?_;refine Dr.d ?_;refine ze.t (zeQ p hp) ?_;refine Ar.o ?_;refine Ar.fit (by show _<=q.r+w*p.r/\q.r+w*p.r<=_;omega) ?_;refine Ob.mk (by kernel_rfl) ?_;refine Ar.fit dC ?_;exact ⟨1,dC,zo [(0,some 0),(1,some 1)],dC⟩
 ·refine Br.y ?_;refine Dr.d ?_;refine ze.t (zeR p hp) ?_;refine Ar.o ?_;refine Ar.fit (by show _<=q.g+w*p.g/\q.g+w*p.g<=_;omega) ?_;refine Ob.mk (by kernel_rfl) ?_;refine Ar.fit dC ?_;exact ⟨2,dC,zo [(0,some 0),(1,some 1)],dC⟩
 ·refine Br.y ?_;refine Dr.d ?_;refine ze.t (zeS p hp) ?_;refine Ar.o ?_;refine Ar.fit (by show _<=q.b+w*p.b/\q.b+w*p.b<=_;omega) ?_;refine Ob.mk (by kernel_rfl) ?_;refine Ar.fit dC ?_;exact ⟨3,dC,zo [(0,some 0),(1,some 1)],dC⟩
 ·refine Br.y ?_;refine Dr.d ?_;refine ze.t (zeT p hp) ?_;refine Ar.o ?_;refine Ar.fit (by show _<=q.a+w*p.a/\q.a+w*p.a<=_;omega) ?_;refine Ob.mk (by kernel_rfl) ?_;refine Ar.fit dC ?_;exact ⟨4,dC,zo [(0,some 0),(1,some 1)],dC⟩
 ·refine Br.mk (fun k=>absurd k dC) (fun _=>?_);exact ⟨rfl,.refl⟩
theorem fit_8{a n:Int}(ha:0<=a)(h:a<=255*n)(hn:0 < n):yh (kM a n)=kM a n:=by
 have:=jG ha h hn;unfold yh;rw [if_pos oM]
theorem zki(q:Qd)(n:Int)(h:inQ q n)(hn:0 < n/\n<=1000000000000):zf Try.prog 57 [.agg (qdE q),i64 n] [] (.agg (kd (zbg q n))) []:=by
 obtain ⟨⟨h1,h2,h3⟩,⟨h4,h5,h6⟩,h7⟩:=h
 have one:∀c v:Int,0<=v->v<=255*n->zf Try.prog 67 [i64 v,i64 n] [] (i64 (kM v n)) []/\R8 (kM v n):=fun c v v1 v2=>by
  have:=zec v n (by unfold R64;omega) (by unfold R64;omega);rw [fit_8 v1 v2 hn.1] at this;exact ⟨this,jG v1 v2 hn.1⟩
 have b0:zf Try.prog 71 [i64 0,.ptr (qdE q),.ptr [i64 n]] [] (u8 (kM q.r n)) []:=by
  obtain ⟨k1,k2⟩:=one 0 q.r oM oM;refine zh tok mix Try.func71 rfl rfl rfl ?_;refine Dr.k ?_;refine ze.t k1 ?_;refine Ar.o ?_;exact .refl
 have b1:zf Try.prog 71 [i64 1,.ptr (qdE q),.ptr [i64 n]] [] (u8 (kM q.g n)) []:=by
  obtain ⟨k1,k2⟩:=one 0 q.g oM oM;refine zh tok mix Try.func71 rfl rfl rfl ?_;refine Dr.k ?_;refine ze.t k1 ?_;refine Ar.o ?_;exact .refl
 have b2:zf Try.prog 71 [i64 2,.ptr (qdE q),.ptr [i64 n]] [] (u8 (kM q.b n)) []:=by
  obtain ⟨k1,k2⟩:=one 0 q.b oM oM;refine zh tok mix Try.func71 rfl rfl rfl ?_;refine Dr.k ?_;refine ze.t k1 ?_;refine Ar.o ?_;exact .refl
 have b3:zf Try.prog 71 [i64 3,.ptr (qdE q),.ptr [i64 n]] [] (u8 (kM q.a n)) []:=by
  obtain ⟨k1,k2⟩:=one 0 q.a oM oM;refine zh tok mix Try.func71 rfl rfl rfl ?_;refine Dr.k ?_;refine ze.t k1 ?_;refine Ar.o ?_;exact .refl
 refine zh tok mix Try.func57 rfl rfl rfl ?_;refine BoxC.own ?_;refine ze.t b0 ?_;refine ze.t b1 ?_;refine ze.t b2 ?_;refine ze.t b3 ?_;exact .refl
end Go.Gs
