/- Stretches of a list sorted, turned, swapped in place: plain. -/
import Derived.Test.YtjfbljononkmcaaMA
import Derived.Test.YtjfbljononkmcaaMAU
set_option maxRecDepth 100000
set_option maxHeartbeats 8000000
set_option linter.all false
namespace Go.Gs
variable {key:Int->Int}
theorem zct(l:List Int)(p q:Nat)(v:Int):gz (l.set p v) q=if p=q/\p < l.length then v else gz l q:=by
 unfold gz;simp only [List.getD_eq_getElem?_getD,List.getElem?_set]
 by_cases h:p=q
 ·subst h
  by_cases hp:p < l.length
  ·simp [hp]
  ·simp [hp]
 ·simp [h]
theorem qm{l:List Int}{i:Nat}{x:Int}(h:l[i]? =some x):gz l i=x:=by unfold gz;rw [List.getD_eq_getElem?_getD,h];rfl
theorem zgG{l:List Int}{i:Nat}(h:i < l.length):l[i]? =some (gz l i):=by unfold gz;simp [List.getD_eq_getElem?_getD,h]
theorem yH{l:List Int}{i:Nat}(h:i < l.length):gz l i∈l:=List.mem_of_getElem? (zgG h)
theorem zgH(a b:List Int)(i:Nat):gz (a++b) i=if i < a.length then gz a i else gz b (i - a.length):=by
 unfold gz;simp only [List.getD_eq_getElem?_getD,List.getElem?_append]
 split <;> rfl
theorem qi{l m:List Int}(h:l.length=m.length)(k:∀i,i < l.length->gz l i=gz m i):l=m:=by
 refine List.ext_getElem? fun i=>?_
 by_cases hi:i < l.length
 ·rw [zgG hi,zgG oM,k i hi]
 ·rw [List.getElem?_eq_none oM,List.getElem?_eq_none oM]
def mkL(n:Nat)(f:Nat->Int):List Int:=(List.range n).map f
theorem zeV(n:Nat)(f:Nat->Int):(mkL n f).length=n:=by simp [mkL]
theorem zgI{n:Nat}{f:Nat->Int}{i:Nat}(h:i < n):gz (mkL n f) i=f i:=by unfold gz mkL;simp [List.getD_eq_getElem?_getD,h]
def jK(f:Nat->Int)(a b k q:Nat):Int:=if a<=q/\q < a+k then f (q - a+b) else if b<=q/\q < b+k then f (q - b+a) else f q
def jL(f:Nat->Int)(a m b q:Nat):Int:=if a<=q/\q < a+(b - m) then f (q - a+m) else if a+(b - m)<=q/\q < b then f (q - (b - m)) else f q
def qG(l:List Int)(a b k:Nat):List Int:=mkL l.length (jK (gz l) a b k)
def zU(l:List Int)(a m b:Nat):List Int:=mkL l.length (jL (gz l) a m b)
theorem zW(l:List Int)(a b k:Nat):(qG l a b k).length=l.length:=zeV ..
theorem zH(l:List Int)(a m b:Nat):(zU l a m b).length=l.length:=zeV ..
theorem zP{l:List Int}{a m b q:Nat}(h:q < l.length):gz (zU l a m b) q=jL (gz l) a m b q:=zgI h
theorem qH{l:List Int}{a b k q:Nat}(h:q < l.length):gz (qG l a b k) q=jK (gz l) a b k q:=zgI h
theorem zht(l:List Int)(a b:Nat):qG l a b 0=l:=by
 refine qi (zW ..) fun i hi=>?_
 rw [zW] at hi;rw [qH hi];unfold jK;rw [if_neg oM,if_neg oM]
theorem zef{l:List Int}{a b k:Nat}(hab:a+k < b)(hb:b+k < l.length):
  ((qG l a b k).set (a+k) (gz (qG l a b k) (b+k))).set (b+k) (gz (qG l a b k) (a+k))=qG l a b (k+1):=by
 refine qi (by simp [zW]) fun i hi=>?_
 simp only [List.length_set,zW] at hi;simp only [zct,List.length_set,zW];rw [qH hi,qH hi,qH oM,qH hb];unfold jK
 grind
theorem zii{l:List Int}{m i j:Nat}(h:j < i)(hi:i<=m)(hm:m+j<=l.length):
  zU (qG l (m - i) m j) (m - (i - j)) m (m+j)=zU l (m - i) m (m+j):=by
 refine qi (by simp [zW,zH]) fun q hq=>?_
 simp only [zW,zH] at hq;rw [zP (by rw [zW];exact hq),zP hq];unfold jL;have key:∀q',q' < l.length->gz (qG l (m - i) m j) q'=jK (gz l) (m - i) m j q':=fun q' h'=>qH h'
 split
 ·rw [key _ oM];unfold jK;grind
 ·split
  ·rw [key _ oM];unfold jK;grind
  ·rw [key _ oM];unfold jK;grind
theorem zij{l:List Int}{m i j:Nat}(h:i < j)(hi:i<=m)(hm:m+j<=l.length):
  zU (qG l (m - i) (m+j - i) i) (m - i) m (m+(j - i))=zU l (m - i) m (m+j):=by
 refine qi (by simp [zW,zH]) fun q hq=>?_
 simp only [zW,zH] at hq;rw [zP (by rw [zW];exact hq),zP hq];unfold jL;have key:∀q',q' < l.length->gz (qG l (m - i) (m+j - i) i) q'=jK (gz l) (m - i) (m+j - i) i q':=fun q' h'=>qH h'
 split
 ·rw [key _ oM];unfold jK;grind
 ·split
  ·rw [key _ oM];unfold jK;grind
  ·rw [key _ oM];unfold jK;grind
theorem zik{l:List Int}{m i:Nat}(hi:i<=m):qG l (m - i) m i=zU l (m - i) m (m+i):=by
 refine qi (by simp [zW,zH]) fun q hq=>?_
 simp only [zW] at hq;rw [zP hq,qH hq];unfold jL jK
 grind
theorem zhu{l:List Int}{a m b:Nat}(ha:a<=m)(hm:m<=b)(hb:b<=l.length):zU l a m b=l.take a++((seg l m b++seg l a m)++l.drop b):=by
 have l1:=z5 hb (a:=m);have l2:=z5 (l:=l) (b:=m) (a:=a) oM;refine qi ?_ fun q hq=>?_
 ·rw [zH];simp [l1,l2];omega
 ·rw [zH] at hq;rw [zP hq];have e:l.take a++((seg l m b++seg l a m)++l.drop b)=zaW l a b (seg l m b++seg l a m):=rfl;have lw:(seg l m b++seg l a m).length=b - a:=by rw [List.length_append,l1,l2];omega
  rw [e];unfold jL
  by_cases h:a<=q/\q < b
  ·rw [uU oM hb lw h];rw [zgH,l1]
   by_cases h2:q < a+(b - m)
   ·rw [if_pos ⟨h.1,h2⟩,if_pos oM,qB oM];congr 1;omega
   ·rw [if_neg oM,if_pos ⟨oM,h.2⟩,if_neg oM,qB oM];congr 1;omega
  ·rw [zds oM hb lw oM,if_neg oM,if_neg oM]
structure qn (key:Int->Int) (l l':List Int) (a b:Nat):Prop where
 len:l'.length=l.length
 out:∀q,q < a∨b<=q->gz l' q=gz l q
 same:zX key l' l
theorem qn.refl{l:List Int}{a b:Nat}:qn key l l a b:=⟨rfl,fun _ _=>rfl,.refl⟩
theorem qn.trans{l m n:List Int}{a b:Nat}(h:qn key l m a b)(k:qn key m n a b):qn key l n a b:=
 ⟨k.len.trans h.len,fun q hq=>(k.out q hq).trans (h.out q hq),k.same.trans h.same⟩
theorem qn.up{l m:List Int}{a b c d:Nat}(h:qn key l m a b)(h1:c<=a)(h2:b<=d):qn key l m c d:=⟨h.len,fun q hq=>h.out q oM,h.same⟩
theorem qn.srt{l m:List Int}{a b c d:Nat}(h:qn key l m a b)(hs:qc key l c d)(hd:d<=a∨b<=c):qc key m c d:=fun i j hi hij hj=>by
 rw [h.out i oM,h.out j oM];exact hs i j hi hij hj
theorem zcu{l:List Int}{a b:Nat}(hb:b<=l.length){x:Int}(h:x∈seg l a b):∃q,a<=q/\q < b/\gz l q=x:=by
 obtain ⟨i,hi⟩:=List.mem_iff_getElem?.1 h;have hl:=(List.getElem?_eq_some_iff.1 hi).1;rw [z5 hb] at hl;have:=qm hi;rw [qB hl] at this;exact ⟨a+i,oM,oM,this⟩
theorem qn.rot{l:List Int}{a m b:Nat}(ha:a<=m)(hm:m<=b)(hb:b<=l.length)(h:∀i j,a<=i->i < m->m<=j->j < b->key (gz l i)≠key (gz l j)):qn key l (zU l a m b) a b:=by
 refine ⟨zH ..,fun q hq=>?_,?_⟩
 ·by_cases hl:q < l.length
  ·rw [zP hl];unfold jL;rw [if_neg oM,if_neg oM]
  ·unfold gz;rw [List.getD_eq_getElem?_getD,List.getD_eq_getElem?_getD,List.getElem?_eq_none (by rw [zH];omega),List.getElem?_eq_none oM]
 ·rw [zhu ha hm hb]
  have e:zX key (seg l m b++seg l a m) (seg l a m++seg l m b):=zX.swap fun x hx y hy=>by
   obtain ⟨i,h1,h2,rfl⟩:=zcu hb hx;obtain ⟨j,h3,h4,rfl⟩:=zcu oM hy;exact fun e=>h j i h3 h4 h1 h2 e.symm
  have e2:seg l a m++seg l m b=seg l a b:=by
   refine qi ?_ fun i hi=>?_
   ·rw [List.length_append,z5 oM,z5 hb,z5 hb];omega
   ·have la:(seg l a m).length=m - a:=z5 oM;rw [List.length_append,la,z5 hb] at hi;rw [zgH,la,qB (show i < b - a by omega)]
    split
    ·rw [qB oM]
    ·rename_i hn;rw [qB oM];congr 1;omega
  rw [e2] at e;exact zbN oM e
def kf(key:Int->Int)(l:List Int)(a b:Nat):List Int:=zaW l a b (ke key (seg l a b))
theorem z2(hk:jI key){l:List Int}{a b:Nat}(ha:a<=b)(hb:b<=l.length):qn key l (kf key l a b) a b/\qc key (kf key l a b) a b:=by
 have hw:(ke key (seg l a b)).length=b - a:=by rw [jJ hk,z5 hb]
 exact ⟨⟨zgE ha hb hw,fun q hq=>zds ha hb hw hq,zbN ha (jc hk _)⟩,zgF ha hb hw (zbM _)⟩
theorem zX.cancel{p q r s:List Int}(h:zX key (p++(q++s)) (p++(r++s))):zX key q r:=fun v=>by
 have:=h v
 simpa only [ya,List.append_cancel_left_eq,List.append_cancel_right_eq] using this
theorem qU(hk:jI key){l m:List Int}{a b:Nat}(ha:a<=b)(hb:b<=l.length)(h:qn key l m a b)(hs:qc key m a b):m=kf key l a b:=by
 have e1:m.take a=l.take a:=qi (by simp [h.len]) fun i hi=>by
  simp only [List.length_take] at hi;unfold gz;simp only [List.getD_eq_getElem?_getD,List.getElem?_take,if_pos (show i < a by omega)];exact h.out i oM
 have e2:m.drop b=l.drop b:=qi (by simp [h.len]) fun i hi=>by
  unfold gz;simp only [List.getD_eq_getElem?_getD,List.getElem?_drop];exact h.out (b+i) oM
 have hm:=cut3 (l:=m) ha;rw [e1,e2] at hm;have hl:=cut3 (l:=l) ha;have hc:=h.same;have hc:zX key (l.take a++(seg m a b++l.drop b)) (l.take a++(seg l a b++l.drop b)):=hm ▸ hl ▸ hc;have:=zee hk hc.cancel ((zhs (by rw [h.len];exact hb)).2 hs);unfold kf zaW;rw [← this];exact hm
variable {key:Int->Int}
theorem yV(hk:jI key){l:List Int}{a b:Nat}(ha:a<=b)(hb:b<=l.length)(h:qc key l a b):kf key l a b=l:=(qU hk ha hb .refl h).symm
theorem zdt(hk:jI key){l:List Int}{a b:Nat}(ha:a<=b)(hb:b<=l.length):(kf key l a b).length=l.length:=(z2 hk ha hb).1.len
theorem zdu(hk:jI key){l:List Int}{a b q:Nat}(ha:a<=b)(hb:b<=l.length)(hq:a<=q/\q < b):∃p,a<=p/\p < b/\gz (kf key l a b) q=gz l p:=by
 have hw:(ke key (seg l a b)).length=b - a:=by rw [jJ hk,z5 hb]
 unfold kf;rw [uU ha hb hw hq];obtain ⟨p,h1,h2,h3⟩:=zcu hb ((zfE hk).1 (yH (show q - a < (ke key (seg l a b)).length by omega)));exact ⟨p,h1,h2,h3.symm⟩
theorem qc.up{l:List Int}{a b c d:Nat}(h:qc key l a b)(h1:a<=c)(h2:d<=b):qc key l c d:=fun i j hi hij hj=>h i j oM hij oM
theorem yI{l:List Int}{a m b:Nat}(h:a=m/\m<=b∨m=b/\a<=m):zU l a m b=l:=by
 refine qi (zH ..) fun i hi=>?_
 rw [zH] at hi;rw [zP hi];unfold jL
 rcases h with ⟨rfl,h⟩ | ⟨rfl,h⟩
 ·split
  ·congr 1;omega
  ·rw [if_neg oM]
 ·rw [if_neg oM]
  split
  ·congr 1;omega
  ·rfl
theorem sym_1(hk:jI key){l:List Int}{a i b:Nat}(hi:a+1<=i/\i<=b)(hb:b<=l.length)(hs:qc key l (a+1) b)(h1:i=a+1∨key (gz l (i - 1)) < key (gz l a))(h2:i=b∨key (gz l a)<=key (gz l i)):
  zU l a (a+1) i=kf key l a b:=by
 have low:∀j,a+1<=j->j < i->key (gz l j) < key (gz l a):=fun j p q=>by
  have:=hs j (i - 1) oM oM oM;omega
 have high:∀j,i<=j->j < b->key (gz l a)<=key (gz l j):=fun j p q=>by
  have:=hs i j oM oM oM;omega
 refine qU hk oM hb ((qn.rot oM oM oM fun p q p1 p2 q1 q2=>?_).up (Nat.le_refl _) hi.2) fun p q h3 h4 h5=>?_
 ·obtain rfl:p=a:=by omega
  have:=low q q1 q2;omega
 ·rw [zP oM,zP oM];have e:∀x,jL (gz l) a (a+1) i x=if a<=x/\x < i - 1 then gz l (x+1) else if x=i - 1 then gz l a else gz l x:=fun x=>by unfold jL;grind
  rw [e,e];clear e h1 h2 hk
  by_cases c1:p < i - 1
  ·rw [if_pos ⟨h3,c1⟩]
   by_cases c2:q < i - 1
   ·rw [if_pos ⟨oM,c2⟩];exact hs _ _ oM oM oM
   ·rw [if_neg oM]
    split
    ·have:=low (p+1) oM oM;omega
    ·exact hs _ _ oM oM h5
  ·rw [if_neg oM,if_neg (show ¬(a<=q/\q < i - 1) by omega)]
   split
   ·split
    ·omega
    ·exact high q oM h5
   ·rw [if_neg oM];exact hs _ _ oM h4 h5
theorem zhQ(hk:jI key){l:List Int}{a i m:Nat}(hi:a<=i/\i<=m)(hb:m+1<=l.length)(hs:qc key l a m)(h1:i=a∨key (gz l (i - 1))<=key (gz l m))(h2:i=m∨key (gz l m) < key (gz l i)):
  zU l i m (m+1)=kf key l a (m+1):=by
 have low:∀j,a<=j->j < i->key (gz l j)<=key (gz l m):=fun j p q=>by
  have:=hs j (i - 1) oM oM oM;omega
 have high:∀j,i<=j->j < m->key (gz l m) < key (gz l j):=fun j p q=>by
  have:=hs i j oM oM oM;omega
 refine qU hk oM hb ((qn.rot oM oM oM fun p q p1 p2 q1 q2=>?_).up hi.1 (Nat.le_refl _)) fun p q h3 h4 h5=>?_
 ·obtain rfl:q=m:=by omega
  have:=high p p1 p2;omega
 ·rw [zP oM,zP oM];have e:∀x,jL (gz l) i m (m+1) x=if x=i then gz l m else if i < x/\x < m+1 then gz l (x - 1) else gz l x:=fun x=>by unfold jL;grind
  rw [e,e];clear e h1 h2 hk
  by_cases c1:p < i
  ·rw [if_neg oM,if_neg oM]
   by_cases c2:q < i
   ·rw [if_neg oM,if_neg oM];exact hs _ _ oM oM oM
   ·split
    ·exact low p h3 c1
    ·rw [if_pos oM];exact hs _ _ oM oM oM
  ·by_cases c3:p=i
   ·rw [if_pos c3]
    split
    ·omega
    ·rw [if_pos oM];have:=high (q - 1) oM oM;omega
   ·rw [if_neg c3,if_pos oM,if_neg oM,if_pos oM];exact hs _ _ oM oM oM
theorem zhR (hk:jI key) {l:List Int} {a m b s e mid:Nat} (hm:a<=s/\s<=m/\m<=e/\e<=b) (hmid:mid+m=s+e) (hb:b<=l.length) (hs1:qc key l a m) (hs2:qc key l m b)
  (h1:s=a∨e=b∨key (gz l (s - 1))<=key (gz l e)) (h2:s=m∨e=m∨key (gz l (e - 1)) < key (gz l s)):
  qc key (zU l s m e) a s/\qc key (zU l s m e) s mid/\qc key (kf key (zU l s m e) a mid) mid e/\qc key (kf key (zU l s m e) a mid) e b/\
   kf key (kf key (zU l s m e) a mid) mid b=kf key l a b:=by
 have f:∀x,jL (gz l) s m e x=if s<=x/\x < mid then gz l (x+(m - s)) else if mid<=x/\x < e then gz l (x - (e - m)) else gz l x:=fun x=>by unfold jL;grind
 have hl:(zU l s m e).length=l.length:=zH ..;have g:∀x,x < l.length->gz (zU l s m e) x=if s<=x/\x < mid then gz l (x+(m - s)) else if mid<=x/\x < e then gz l (x - (e - m)) else gz l x:=fun x hx=>by rw [zP hx,f]
 have AB:∀i j,a<=i->i < s->e<=j->j < b->key (gz l i)<=key (gz l j):=fun i j i1 i2 j1 j2=>by
  have:=hs1 i (s - 1) oM oM oM;have:=hs2 e j oM oM oM;omega
 have VU:∀i j,s<=i->i < m->m<=j->j < e->key (gz l j) < key (gz l i):=fun i j i1 i2 j1 j2=>by
  have:=hs1 s i oM oM oM;have:=hs2 j (e - 1) oM oM oM;omega
 have k1:qn key l (zU l s m e) a b:=(qn.rot oM oM oM fun i j p1 p2 q1 q2=>by have:=VU i j p1 p2 q1 q2;omega).up oM oM
 have a1:qc key (zU l s m e) a s:=fun i j p1 p2 p3=>by
  rw [g i oM,g j oM,if_neg oM,if_neg oM,if_neg oM,if_neg oM];exact hs1 i j oM oM oM
 have a2:qc key (zU l s m e) s mid:=fun i j p1 p2 p3=>by
  rw [g i oM,g j oM,if_pos oM,if_pos oM];exact hs2 _ _ oM oM oM
 have a3:qc key (zU l s m e) mid e:=fun i j p1 p2 p3=>by
  rw [g i oM,g j oM,if_neg oM,if_pos oM,if_neg oM,if_pos oM];exact hs1 _ _ oM oM oM
 have a4:qc key (zU l s m e) e b:=fun i j p1 p2 p3=>by
  rw [g i oM,g j oM,if_neg oM,if_neg oM,if_neg oM,if_neg oM];exact hs2 _ _ oM oM oM
 have cross:∀i j,a<=i->i < mid->mid<=j->j < b->key (gz (zU l s m e) i)<=key (gz (zU l s m e) j):=fun i j p1 p2 p3 p4=>by
  rw [g i oM,g j oM]
  by_cases c1:s<=i
  ·rw [if_pos oM,if_neg oM]
   by_cases c2:j < e
   ·rw [if_pos oM];have:=VU (j - (e - m)) (i+(m - s)) oM oM oM oM;omega
   ·rw [if_neg oM];exact hs2 _ _ oM oM oM
  ·rw [if_neg oM,if_neg oM,if_neg oM]
   by_cases c2:j < e
   ·rw [if_pos oM];exact hs1 _ _ oM oM oM
   ·rw [if_neg oM];exact AB i j oM oM oM oM
 have k2:=z2 hk (l:=zU l s m e) (a:=a) (b:=mid) oM oM;have hl2:(kf key (zU l s m e) a mid).length=l.length:=k2.1.len.trans hl;have k3:=z2 hk (l:=kf key (zU l s m e) a mid) (a:=mid) (b:=b) oM oM;refine ⟨a1,a2,k2.1.srt a3 (.inr (Nat.le_refl _)),k2.1.srt a4 (.inr oM),?_⟩;refine qU hk oM hb ((k1.trans (k2.1.up (Nat.le_refl _) oM)).trans (k3.1.up oM (Nat.le_refl _))) fun i j p1 p2 p3=>?_
 by_cases c1:mid<=i
 ·exact k3.2 i j c1 p2 p3
 ·by_cases c2:j < mid
  ·rw [k3.1.out i oM,k3.1.out j oM];exact k2.2 i j p1 p2 c2
  ·rw [k3.1.out i oM];obtain ⟨p,q1,q2,q3⟩:=zdu hk (l:=zU l s m e) (a:=a) (b:=mid) (q:=i) oM oM ⟨p1,oM⟩;obtain ⟨p',q1',q2',q3'⟩:=zdu hk (l:=kf key (zU l s m e) a mid) (a:=mid) (b:=b) (q:=j) oM oM ⟨oM,p3⟩;rw [q3,q3',k2.1.out p' oM];exact cross p p' q1 q2 q1' q2'
variable {key:Int->Int}
def Bk(key:Int->Int)(l:List Int)(lo n bs i:Nat):Prop:=qc key l (lo+i*bs) (min (lo+(i+1)*bs) (lo+n))
theorem jd(i bs:Nat):(i+1)*bs=i*bs+bs:=Nat.succ_mul i bs
theorem zhS{i k bs:Nat}(h:i < k):i*bs+bs<=k*bs:=by
 have:=Nat.mul_le_mul_right bs (show i+1<=k by omega)
 rwa [jd] at this
theorem zeg(hk:jI key){l:List Int}{lo n bs k:Nat}(hl:lo+n<=l.length)(ha:k*bs<=n)(h:∀i,i < k->Bk key l lo n bs i):
  ∀i,i < k+1->Bk key (kf key l (lo+k*bs) (min (lo+(k+1)*bs) (lo+n))) lo n bs i:=fun i hi=>by
 have e:=jd k bs;have kp:=z2 hk (l:=l) (a:=lo+k*bs) (b:=min (lo+(k+1)*bs) (lo+n)) oM oM
 by_cases c:i=k
 ·subst c;exact kp.2
 ·have:=zhS (bs:=bs) (show i < k by omega);have e2:=jd i bs;exact kp.1.srt (h i oM) (.inl oM)
theorem zhv(hk:jI key){l:List Int}{lo n bs b c i:Nat}(hb:b<=c)(hl:c<=l.length)(hi:c<=lo+i*bs)(h:Bk key l lo n bs i):Bk key (kf key l b c) lo n bs i:=
 (z2 hk hb hl).1.srt h (.inr hi)
theorem zgJ{l:List Int}{lo n bs k:Nat}(h:∀i,2*k<=i->Bk key l lo n bs i)(hb:k*(2*bs)+bs<=n):
  qc key l (lo+k*(2*bs)) (lo+k*(2*bs)+bs)/\qc key l (lo+k*(2*bs)+bs) (min (lo+(k+1)*(2*bs)) (lo+n)):=by
 have e1:k*(2*bs)=2*k*bs:=by rw [← Nat.mul_assoc,Nat.mul_comm k 2]
 have e2:=jd k (2*bs);have h1:=h (2*k) (Nat.le_refl _);have h2:=h (2*k+1) oM;unfold Bk at h1 h2;have e3:=jd (2*k) bs;have e4:=jd (2*k+1) bs;exact ⟨h1.up oM oM,h2.up oM oM⟩
theorem zgK{l:List Int}{lo n bs k:Nat}(h:∀i,2*k<=i->Bk key l lo n bs i)(hb:n<=k*(2*bs)+bs):∀i,k<=i->Bk key l lo n (2*bs) i:=fun i hi=>by
 have e1:k*(2*bs)=2*k*bs:=by rw [← Nat.mul_assoc,Nat.mul_comm k 2]
 have h1:=h (2*k) (Nat.le_refl _);unfold Bk at*;have e3:=jd (2*k) bs
 by_cases c:i=k
 ·subst c;rw [e3] at h1;rw [e1];exact h1.up oM oM
 ·have:=zhS (bs:=2*bs) (show k < i by omega);exact fun p q p1 p2 p3=>oM
theorem zgL{l:List Int}{lo n bs k:Nat}(h:∀i,i < k->Bk key l lo n bs i)(hb:n<=k*bs):∀i,Bk key l lo n bs i:=fun i=>by
 by_cases c:i < k
 ·exact h i c
 ·have:=Nat.mul_le_mul_right bs (show k<=i by omega);exact fun p q p1 p2 p3=>oM
theorem zhw(hk:jI key){l0 l:List Int}{lo n bs:Nat}(hl:lo+n<=l0.length)(kp:qn key l0 l lo (lo+n))(h:Bk key l lo n bs 0)(hb:n<=bs):l=kf key l0 lo (lo+n):=
 qU hk oM hl kp (h.up oM oM)
open Go.Proofs
def zbO(q:Qd)(p:Pix)(w:Int):Nat->Qd
 | 0=>q
 | 1=>⟨q.r+w*p.r,q.g,q.b,q.a⟩
 | 2=>⟨q.r+w*p.r,q.g+w*p.g,q.b,q.a⟩
 | 3=>⟨q.r+w*p.r,q.g+w*p.g,q.b+w*p.b,q.a⟩
 | _=>zfD q p w
def bigQ(q:Qd):Prop:=(0<=q.r/\q.r<=1000000000000000)/\(0<=q.g/\q.g<=1000000000000000)/\(0<=q.b/\q.b<=1000000000000000)/\(0<=q.a/\q.a<=1000000000000000)
theorem zeW{q:Qd}{n:Int}(h:inQ q n)(hn:n<=1000000000000):bigQ q:=by
 obtain ⟨⟨h1,h2,h3⟩,⟨h4,h5,h6⟩,h7⟩:=h;exact ⟨⟨h1,oM⟩,⟨h2,oM⟩,⟨h3,oM⟩,oM,oM⟩
theorem zil(q:Qd)(p:Pix)(w:Int)(hq:bigQ q)(hp:P8 p)(hw:0<=w/\w<=1000000000000):
  zf Try.prog 56 [.loc 0 0,.agg (kd p),i64 w] [(0,.box 75 (qdE q))] (.tup []) [(0,.box 75 (qdE (zfD q p w)))]:=by
 obtain ⟨q1,q2,q3,q4⟩:=hq;obtain ⟨p1,p2,p3,p4⟩:=id hp;have m1:=zaU hw.1 hw.2 p1.1 p1.2;have m2:=zaU hw.1 hw.2 p2.1 p2.2;have m3:=zaU hw.1 hw.2 p3.1 p3.2;have m4:=zaU hw.1 hw.2 p4.1 p4.2;refine qA tok mix Try.func56 rfl rfl rfl rfl rfl ?_;refine ⟨Nat,fun i=>⟨[(7,i64 (i:Int)),(4,.loc 1 0),(2,i64 w),(0,.loc 0 0)],[(1,.box 37 (kd p)),(0,.box 75 (qdE (zbO q p w i)))],2,24,1⟩,fun i=>i<=4,fun i=>4 - i,0,Nat.zero_le _,?_,?_⟩
 ·exact zo [(0,some 0),(1,some 1)]
 intro i hi;have hi:i<=4:=hi;have h5:i=0∨i=1∨i=2∨i=3∨i=4:=oM
 rcases h5 with rfl | rfl | rfl | rfl | rfl
 ·refine Br.y ?_;refine Dr.d ?_;refine ze.t (zeQ p hp) ?_;refine Ar.o ?_;refine Ar.fit (by show _<=q.r+w*p.r/\q.r+w*p.r<=_;omega) ?_;refine Ob.mk (by kernel_rfl) ?_;refine Ar.fit dC ?_;exact ⟨1,dC,zo [(0,some 0),(1,some 1)],dC⟩
 ·refine Br.y ?_;refine Dr.d ?_;refine ze.t (zeR p hp) ?_;refine Ar.o ?_;refine Ar.fit (by show _<=q.g+w*p.g/\q.g+w*p.g<=_;omega) ?_;refine Ob.mk (by kernel_rfl) ?_;refine Ar.fit dC ?_;exact ⟨2,dC,zo [(0,some 0),(1,some 1)],dC⟩
 ·refine Br.y ?_;refine Dr.d ?_;refine ze.t (zeS p hp) ?_;refine Ar.o ?_;refine Ar.fit (by show _<=q.b+w*p.b/\q.b+w*p.b<=_;omega) ?_;refine Ob.mk (by kernel_rfl) ?_;refine Ar.fit dC ?_;exact ⟨3,dC,zo [(0,some 0),(1,some 1)],dC⟩
 ·refine Br.y ?_;refine Dr.d ?_;refine ze.t (zeT p hp) ?_;refine Ar.o ?_;refine Ar.fit (by show _<=q.a+w*p.a/\q.a+w*p.a<=_;omega) ?_;refine Ob.mk (by kernel_rfl) ?_;refine Ar.fit dC ?_;exact ⟨4,dC,zo [(0,some 0),(1,some 1)],dC⟩
 ·refine Br.mk (fun k=>absurd k dC) (fun _=>?_);exact ⟨rfl,.refl⟩
theorem zhT{a n:Int}(ha:0<=a)(h:a<=255*n)(hn:0 < n):yh (kM a n)=kM a n:=by
 have:=jG ha h hn;unfold yh;rw [if_pos oM]
theorem c_qby(q:Qd)(n:Int)(h:inQ q n)(hn:0 < n/\n<=1000000000000):zf Try.prog 57 [.agg (qdE q),i64 n] [] (.agg (kd (zbg q n))) []:=by
 obtain ⟨⟨h1,h2,h3⟩,⟨h4,h5,h6⟩,h7⟩:=h
 have one:∀c v:Int,0<=v->v<=255*n->zf Try.prog 67 [i64 v,i64 n] [] (i64 (kM v n)) []/\R8 (kM v n):=fun c v v1 v2=>by
  have:=zec v n (by unfold R64;omega) (by unfold R64;omega);rw [zhT v1 v2 hn.1] at this;exact ⟨this,jG v1 v2 hn.1⟩
 have b0:zf Try.prog 71 [i64 0,.ptr (qdE q),.ptr [i64 n]] [] (u8 (kM q.r n)) []:=by
  obtain ⟨k1,k2⟩:=one 0 q.r oM oM;refine zh tok mix Try.func71 rfl rfl rfl ?_;refine Dr.k ?_;refine ze.t k1 ?_;refine Ar.o ?_;exact .refl
 have b1:zf Try.prog 71 [i64 1,.ptr (qdE q),.ptr [i64 n]] [] (u8 (kM q.g n)) []:=by
  obtain ⟨k1,k2⟩:=one 0 q.g oM oM;refine zh tok mix Try.func71 rfl rfl rfl ?_;refine Dr.k ?_;refine ze.t k1 ?_;refine Ar.o ?_;exact .refl
 have b2:zf Try.prog 71 [i64 2,.ptr (qdE q),.ptr [i64 n]] [] (u8 (kM q.b n)) []:=by
  obtain ⟨k1,k2⟩:=one 0 q.b oM oM;refine zh tok mix Try.func71 rfl rfl rfl ?_;refine Dr.k ?_;refine ze.t k1 ?_;refine Ar.o ?_;exact .refl
 have b3:zf Try.prog 71 [i64 3,.ptr (qdE q),.ptr [i64 n]] [] (u8 (kM q.a n)) []:=by
  obtain ⟨k1,k2⟩:=one 0 q.a oM oM;refine zh tok mix Try.func71 rfl rfl rfl ?_;refine Dr.k ?_;refine ze.t k1 ?_;refine Ar.o ?_;exact .refl
 refine zh tok mix Try.func57 rfl rfl rfl ?_;refine BoxC.own ?_;refine ze.t b0 ?_;refine ze.t b1 ?_;refine ze.t b2 ?_;refine ze.t b3 ?_;exact .refl
theorem zgM(p:Pix):([p]:List Pix).length=1/\(1:Nat)<=281474976710656/\1*4<=16777216/\0 < 4/\∀x∈[p],(kd x).length=4/\z0 (kd x)=true/\kz.flats (kd x)=true:=
 ⟨rfl,dC,dC,dC,fun _ _=>⟨rfl,rfl,rfl⟩⟩
theorem zgN{l:List Pix}{p:Pix}(h:l.length<=1000000):((l.length:Int)+(([p]:List Pix).length:Int))*4<=140737488355328/\l.length+([p]:List Pix).length<=281474976710656/\0 < 4/\∀x∈[p],(kd x).length=4:=
 ⟨by rw [List.length_singleton];omega,by rw [List.length_singleton];omega,dC,fun _ _=>rfl⟩
def zq(n:Int):List SV:=[i64 n]
def pL(p:Pix):List Int:=[p.r,p.g,p.b,p.a]
def qL(q:Qd):List Int:=[q.r,q.g,q.b,q.a]
theorem pL_at{p:Pix}{c:Nat}{x:Int}(h:(pL p)[c]? =some x):(pL p).getD c 0=x:=by rw [List.getD_eq_getElem?_getD,h];rfl
theorem pL_8{p:Pix}(hp:P8 p)(c:Nat):R8 ((pL p).getD c 0):=by
 obtain ⟨p1,p2,p3,p4⟩:=hp
 match c with
 | 0=>exact p1
 | 1=>exact p2
 | 2=>exact p3
 | 3=>exact p4
 | c+4=>exact (by decide:R8 0)
theorem zhU{q:Qd}{p:Pix}{w:Int}{c:Nat}{x:Int}(h:(qL (zbO q p w c))[c]? =some x):x=(qL q).getD c 0/\(qL (zbO q p w c)).set c (x+w*(pL p).getD c 0)=qL (zbO q p w (c+1)):=by
 match c,h with
 | 0,h=>cases h;exact ⟨rfl,rfl⟩
 | 1,h=>cases h;exact ⟨rfl,rfl⟩
 | 2,h=>cases h;exact ⟨rfl,rfl⟩
 | 3,h=>cases h;exact ⟨rfl,rfl⟩
 | c+4,h=>cases h
theorem zim{q:Qd}(h:bigQ q)(c:Nat):0<=(qL q).getD c 0/\(qL q).getD c 0<=1000000000000000:=by
 obtain ⟨p1,p2,p3,p4⟩:=h
 match c with
 | 0=>exact p1
 | 1=>exact p2
 | 2=>exact p3
 | 3=>exact p4
 | c+4=>exact (by decide:(0:Int)<=0/\(0:Int)<=1000000000000000)
theorem zcv(q:Qd):(qL q).length=4:=rfl
theorem zdv(a b c d:Int):([a,b,c,d]:List Int).length=4/\(4:Nat)<=281474976710656/\4*1<=16777216/\0 < 1/\∀x∈[a,b,c,d],(zq x).length=1/\z0 (zq x)=true/\kz.flats (zq x)=true:=
 ⟨rfl,dC,dC,dC,fun _ _=>⟨rfl,rfl,rfl⟩⟩
theorem zcw(p:Pix)(c:Nat)(hp:P8 p)(hc:c < 4):zf Try.prog 64 [.agg (kd p),i64 (c:Int)] [] (i64 ((pL p).getD c 0)) []:=by
 obtain ⟨p1,p2,p3,p4⟩:=hp;refine zh tok mix Try.func64 rfl rfl rfl ?_;(iterate 4 refine Ar.o ?_);refine ⟨Int,zq,pL p,rfl,Ob.mk (zdv _ _ _ _) ?_⟩;refine Ob.mk ⟨oM,by show (c:Int) < 4;omega⟩ ?_;refine Ob.mk ⟨oM,by show (c:Int) < 4;omega⟩ ?_;intro x hx;exact zF (pL_at hx).symm
theorem zeX{a n:Int}(ha:0<=a)(h:a<=255*n)(hn:0 < n/\n<=1000000000000):zf Try.prog 70 [i64 a,i64 n] [] (i64 (kM a n)) []:=by
 have:=zdq a n (by unfold R64;omega) (by unfold R64;omega)
 rwa [zhT ha h hn.1] at this
theorem zin(q:Qd)(n:Int)(h:inQ q n)(hn:0 < n/\n<=1000000000000):zf Try.prog 65 [.sl zq (qL q),i64 n] [] (.agg (kd (zbg q n))) []:=by
 have hav:=zgD h hn.1;obtain ⟨⟨r1,r2,r3,r4⟩,_⟩:=hav;obtain ⟨⟨h1,h2,h3⟩,⟨h4,h5,h6⟩,h7⟩:=h;refine zh tok mix Try.func65 rfl rfl rfl ?_;refine Dr.k ?_;refine Ob.mk (by show (0:Int)<=0/\(0:Int) < 4;decide) ?_;intro x hx
 cases hx
 refine ze.t (zeX h1 oM hn) ?_;refine Ar.fit r1 ?_;refine Ob.mk (by show (0:Int)<=1/\(1:Int) < 4;decide) ?_;intro x hx
 cases hx
 refine ze.t (zeX h2 oM hn) ?_;refine Ar.fit r2 ?_;refine Ob.mk (by show (0:Int)<=2/\(2:Int) < 4;decide) ?_;intro x hx
 cases hx
 refine ze.t (zeX h3 oM hn) ?_;refine Ar.fit r3 ?_;refine Ob.mk (by show (0:Int)<=3/\(3:Int) < 4;decide) ?_;intro x hx
 cases hx
 refine ze.t (zeX (show 0<=q.a by omega) h7 hn) ?_;refine Ar.fit r4 ?_;exact .refl
def zC(m:Img)(c:Nat)(i:Int):Int:=(pL (m.px.getD i.toNat zbK)).getD c 0
def yZ(m:Img)(c:Nat):SV:=.fn 75 [.ptr (kj m),.ptr [i64 (c:Int)]]
theorem zk(T:TypeId)(l:List Int):ut (.arr T zq 1 l):=fun _ _=>rfl
theorem zcx(m:Img)(c:Nat)(l:List Int)(lo n a b k:Nat)(hn:n<=1000000)(hl:lo+n<=l.length)(hab:a+k<=b)(hb:b+k<=n):
  zf Try.prog 105 [.win 0 1 (lo:Int) (n:Int),i64 (a:Int),i64 (b:Int),i64 (k:Int),yZ m c] [(0,.arr 3 zq 1 l)] (.tup []) [(0,.arr 3 zq 1 (qG l (lo+a) (lo+b) k))]:=by
 refine qA tok mix Try.func105 rfl rfl rfl (zk _ _) rfl ?_
 refine ⟨Nat×List Int,fun ⟨i,s⟩=>⟨[(10,i64 (i:Int)),(3,i64 (k:Int)),(2,i64 (b:Int)),(1,i64 (a:Int)),(0,.win 0 1 (lo:Int) (n:Int))],[(0,.arr 3 zq 1 s)],1,38,1⟩,
  fun z=>z.1<=k/\z.2=qG l (lo+a) (lo+b) z.1,fun z=>k - z.1,(0,l),⟨Nat.zero_le _,(zht ..).symm⟩,?_,?_⟩
 ·exact zo [(0,some 0)]
 rintro ⟨i,s⟩ ⟨hi,hs⟩
 have hi:i<=k:=hi;have hs:s=qG l (lo+a) (lo+b) i:=hs;have hsl:s.length=l.length:=by rw [hs,zW]
 refine Br.mk (fun g=>?_) (fun g=>?_)
 ·have g:(i:Int) < (k:Int):=g;refine Dr.d ?_;(iterate 3 refine Ar.o ?_);refine Ob.o ?_;refine Ob.o ?_;intro x hx;refine Ar.o ?_;refine Ob.o ?_;refine Ob.o ?_;intro y hy;refine Ob.o ?_;refine Ob.o ?_;intro u _;refine ⟨x,rfl,?_⟩;refine Ob.o ?_;refine Ob.mk (by rw [List.length_set];omega) ?_;intro u _;refine ⟨y,rfl,?_⟩;refine Ob.mk (by kernel_rfl) ?_;refine Ar.o ?_
  refine ⟨(i+1,(s.set ((lo:Int)+((a:Int)+(i:Int))).toNat x).set ((lo:Int)+((b:Int)+(i:Int))).toNat y),⟨by show i+1<=k;omega,?_⟩,zo [(0,some 0)],by dsimp only;omega⟩;show (s.set _ x).set _ y=_;have e1:((lo:Int)+((a:Int)+(i:Int))).toNat=lo+a+i:=oM;have e2:((lo:Int)+((b:Int)+(i:Int))).toNat=lo+b+i:=oM;rw [e2] at hx;rw [e1] at hy;rw [e1,e2,← qm hx,← qm hy,hs,zef oM oM]
 ·have g:¬(i:Int) < (k:Int):=g;obtain rfl:i=k:=oM;subst hs;exact ⟨rfl,.refl⟩
theorem zgO(m:Img)(c:Nat)(l:List Int)(lo n a d b:Nat)(hn:n<=1000000)(hl:lo+n<=l.length)(ha:a < d)(hd:d < b)(hb:b<=n):
  zf Try.prog 98 [.win 0 1 (lo:Int) (n:Int),i64 (a:Int),i64 (d:Int),i64 (b:Int),yZ m c] [(0,.arr 3 zq 1 l)] (.tup []) [(0,.arr 3 zq 1 (zU l (lo+a) (lo+d) (lo+b)))]:=by
 refine qA tok mix Try.func98 rfl rfl rfl (zk _ _) rfl ?_;(iterate 2 refine Ar.o ?_)
 refine ⟨Nat×Nat×List Int,fun ⟨i,j,s⟩=>⟨[(11,i64 (j:Int)),(10,i64 (i:Int)),(2,i64 (d:Int)),(4,yZ m c),(0,.win 0 1 (lo:Int) (n:Int))],[(0,.arr 3 zq 1 s)],1,58,1⟩,
  fun z=>(1<=z.1/\z.1<=d)/\(1<=z.2.1/\d+z.2.1<=b)/\z.2.2.length=l.length/\zU z.2.2 (lo+d - z.1) (lo+d) (lo+d+z.2.1)=zU l (lo+a) (lo+d) (lo+b),fun z=>z.1+z.2.1,(d - a,b - d,l),⟨by dsimp only;omega,by dsimp only;omega,rfl,?_⟩,?_,?_⟩
 ·dsimp only;rw [show lo+d - (d - a)=lo+a by omega,show lo+d+(b - d)=lo+b by omega]
 ·rw [show (d:Int) - (a:Int)=((d - a:Nat):Int) by omega,show (b:Int) - (d:Int)=((b - d:Nat):Int) by omega];exact zo [(0,some 0)]
 rintro ⟨i,j,s⟩ ⟨⟨hi1,hi2⟩,⟨hj1,hj2⟩,hs,he⟩
 have hi1:1<=i:=hi1;have hi2:i<=d:=hi2;have hj1:1<=j:=hj1;have hj2:d+j<=b:=hj2;have hs:s.length=l.length:=hs;have he:zU s (lo+d - i) (lo+d) (lo+d+j)=zU l (lo+a) (lo+d) (lo+b):=he;refine Br.mk (fun g=>?_) (fun g=>?_)
 ·have g:¬(i:Int)=(j:Int):=g;refine Br.mk (fun k=>?_) (fun k=>?_)
  ·have k:(j:Int) < (i:Int):=k;refine Ar.o ?_;rw [show (d:Int) - (i:Int)=((d - i:Nat):Int) by omega];refine ze.hand 0 _ _ _ rfl (zcx m c s lo n (d - i) d j hn oM oM oM) (zk _ _) (zk _ _) rfl rfl ?_;refine Ar.o ?_;rw [show (i:Int) - (j:Int)=((i - j:Nat):Int) by omega];refine ⟨(i - j,j,qG s (lo+(d - i)) (lo+d) j),⟨by dsimp only;omega,by dsimp only;omega,by dsimp only;rw [zW];exact hs,?_⟩,zo [(0,some 0)],by dsimp only;omega⟩;dsimp only;rw [show lo+(d - i)=lo+d - i by omega,zii oM oM oM,he]
  ·have k:¬(j:Int) < (i:Int):=k;(iterate 3 refine Ar.o ?_);rw [show (d:Int) - (i:Int)=((d - i:Nat):Int) by omega,show (d:Int)+(j:Int) - (i:Int)=((d+j - i:Nat):Int) by omega];refine ze.hand 0 _ _ _ rfl (zcx m c s lo n (d - i) (d+j - i) i hn oM oM oM) (zk _ _) (zk _ _) rfl rfl ?_;refine Ar.o ?_;rw [show (j:Int) - (i:Int)=((j - i:Nat):Int) by omega]
   refine ⟨(i,j - i,qG s (lo+(d - i)) (lo+(d+j - i)) i),⟨by dsimp only;omega,by dsimp only;omega,by dsimp only;rw [zW];exact hs,?_⟩,zo [(0,some 0)],by dsimp only;omega⟩;dsimp only;rw [show lo+(d - i)=lo+d - i by omega,show lo+(d+j - i)=lo+d+j - i by omega,zij oM oM oM,he]
 ·have g:¬¬(i:Int)=(j:Int):=g;obtain rfl:i=j:=oM;refine Ar.o ?_;rw [show (d:Int) - (i:Int)=((d - i:Nat):Int) by omega];refine ze.hand 0 _ _ _ rfl (zcx m c s lo n (d - i) d i hn oM oM oM) (zk _ _) (zk _ _) rfl rfl ?_;refine ⟨?_,.refl⟩;refine congrArg (fun q=>some (Mem.arr 3 zq 1 q)) ?_;rw [← he,show lo+(d - i)=lo+d - i by omega];exact zik oM
end Go.Gs
