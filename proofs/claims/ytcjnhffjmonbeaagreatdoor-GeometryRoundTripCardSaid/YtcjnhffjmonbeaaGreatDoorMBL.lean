/- Transforms, many of them, one after the other, both texts. -/
import Derived.Test.YtcjnhffjmonbeaaGreatDoorMA
import Derived.Test.YtcjnhffjmonbeaaGreatDoorMAY
import Derived.Test.YtcjnhffjmonbeaaGreatDoorMBK
import Derived.Test.YtcjnhffjmonbeaaGreatDoorMBJ
import Derived.Test.YtcjnhffjmonbeaaGreatDoorMBA
set_option maxRecDepth 100000
set_option maxHeartbeats 8000000
set_option linter.all false
namespace Go.Gs
open Go.Proofs
def jn(l:List AF):AF:=l.foldl beh idA
theorem zb2{l:List AF}{i:Nat}{x:AF}(h:l[i]? =some x):jn (l.take (i+1))=beh (jn (l.take i)) x:=by
 unfold jn;rw [List.take_add_one,h,List.foldl_append];rfl
def zh3(l:List AF):Prop:=(∀t∈l,t.ok)/\∀i,i < l.length->(jn (l.take (i+1))).ok
instance (l:List AF):Decidable (zh3 l):=inferInstanceAs (Decidable (_/\∀i,i < l.length->_))
def yi(l:List AF):AF×Int:=if zh3 l then (jn l,0) else (kw,5)
theorem zrd:idA.nrm=idA:=by unfold idA AF.nrm afQ;simp only [zN]
theorem zfz{l:List AF}:∀{i:Nat},i<=l.length->(∀k,k < i->(jn (l.take (k+1))).ok)->(jn (l.take i)).le 8
 | 0,_,_=>zhP.up dC
 | i+1,hi,h=>by
  have hk:=h i oM;have hx:l[i]? =some l[i]:=List.getElem?_eq_getElem oM;rw [zb2 hx] at hk ⊢;exact zmO hk
theorem znj(l:List AF):(jn l).nrm=jn l:=by
 rcases List.eq_nil_or_concat l with rfl | ⟨q,x,rfl⟩
 ·exact zrd
 ·unfold jn;rw [List.concat_eq_append,List.foldl_append];exact zhQ _ _
theorem zfA(l:List AF)(hl:∀t∈l,t.le 100):ze Tryz.prog 31 [.sl afE l] [] (.tup [.agg (afE (yi l).1),i64 (yi l).2]) []:=by
 have bad:¬zh3 l->LE (.tup [.agg jb,i64 5]) (.tup [.agg (afE (yi l).1),i64 (yi l).2]):=fun h=>by
  rw [show yi l=(kw,5) from if_neg h];exact zS uf .refl
 refine zd tok mix Tryz.func31 rfl rfl rfl ?_;refine zb.t zkC ?_;intro hl0
 refine ⟨Nat,fun i=>⟨[(12,i64 (i:Int)),(11,i64 (l.length:Int)),(10,.sl afE l),(4,.loc 1 0),(2,.loc 0 0),(0,.sl afE l)],[(1,.box 35 (afE idA)),(0,.box 35 jb)],2,37,0⟩,
  fun i=>i<=l.length/\∀t∈l.take i,t.ok,fun i=>l.length - i,0,⟨Nat.zero_le _,fun t ht=>by cases ht⟩,?_,?_⟩
 ·exact zi [(0,some 0),(1,some 1)]
 rintro i ⟨h1,h2⟩
 refine Br.mk (fun g=>?_) (fun g=>?_)
 ·have g:(i:Int) < l.length:=g;refine Ob.o ?_;intro x hx;have hx:l[i]? =some x:=hx;have hm:=List.mem_of_getElem? hx;refine zb.t (vP x ((hl x hm).up dC)) ?_;refine Br.mk (fun h=>bad fun k=>h (k.1 x hm)) (fun h=>?_);refine Ar.o ?_;exact ⟨i+1,⟨oM,zdo hx h2 (Decidable.not_not.1 h)⟩,zi [(0,some 0),(1,some 1)],by dsimp only;omega⟩
 have g:¬(i:Int) < l.length:=g;rw [List.take_of_length_le oM] at h2;intro hl1
 refine ⟨Nat,fun i=>⟨[(23,i64 (i:Int)),(22,i64 (l.length:Int)),(21,.sl afE l),(4,.loc 1 0),(2,.loc 0 0)],[(1,.box 35 (afE (jn (l.take i)))),(0,.box 35 jb)],2,37,0⟩,
  fun i=>i<=l.length/\∀k,k < i->(jn (l.take (k+1))).ok,fun i=>l.length - i,0,⟨Nat.zero_le _,fun k h=>by omega⟩,?_,?_⟩
 ·exact zi [(0,some 0),(1,some 1)]
 rintro j ⟨j1,j2⟩
 have lj:=zfz j1 j2;refine Br.mk (fun g=>?_) (fun g=>?_)
 ·have g:(j:Int) < l.length:=g;refine Ob.o ?_;intro x hx;have hx:l[j]? =some x:=hx;have hm:=List.mem_of_getElem? hx;have e:=zb2 hx;refine zb.t (zoD (jn (l.take j)) x (lj.up dC) ((hl x hm).up dC)) ?_;refine zb.t (vP (beh (jn (l.take j)) x) ((zoE (n:=100) (lj.up dC) (hl x hm)).up dC)) ?_;refine Br.mk (fun h=>bad fun k=>h (by rw [← e];exact k.2 j oM)) (fun h=>?_);have h:(beh (jn (l.take j)) x).ok:=Decidable.not_not.1 h;refine Ar.o ?_
  refine ⟨j+1,⟨oM,fun k hk=>?_⟩,k9 [(0,some 0),(1,some 1)] ⟨congrArg (fun q=>some (Mem.box 35 (afE q))) e.symm,rfl,trivial⟩,by dsimp only;omega⟩
  by_cases c:k=j
  ·rw [c,e];exact h
  ·exact j2 k oM
 have g:¬(j:Int) < l.length:=g;have et:l.take j=l:=List.take_of_length_le oM;refine zb.t (zdH (jn (l.take j)) (lj.up dC)) ?_;rw [znj];have ef:yi l=(jn (l.take j),0):=by rw [et];exact if_pos ⟨h2,fun k hk=>j2 k oM⟩
 rw [ef];exact zS .refl .refl
theorem zh4(l:List AF)(hl:∀t∈l,t.le 100):ze Tryz.prog 34 [.sl afE l] [] (.tup [.agg (afE (yi l).1),i64 (yi l).2]) []:=by
 have bad:¬zh3 l->LE (.tup [.agg jb,i64 5]) (.tup [.agg (afE (yi l).1),i64 (yi l).2]):=fun h=>by
  rw [show yi l=(kw,5) from if_neg h];exact zS uf .refl
 refine zd tok mix Tryz.func34 rfl rfl rfl ?_;refine zb.t zcB ?_
 refine ⟨Nat,fun i=>⟨[(5,i64 (i:Int)),(4,.loc 1 0),(2,.loc 0 0),(0,.sl afE l)],[(1,.box 35 (afE (jn (l.take i)))),(0,.box 35 jb)],2,31,0⟩,
  fun i=>i<=l.length/\(∀t∈l.take i,t.ok)/\∀k,k < i->(jn (l.take (k+1))).ok,fun i=>l.length - i,0,⟨Nat.zero_le _,(fun t ht=>by cases ht),fun k h=>by omega⟩,?_,?_⟩
 ·exact zi [(0,some 0),(1,some 1)]
 rintro j ⟨j1,j0,j2⟩
 have lj:=zfz j1 j2;intro hl1;refine Br.mk (fun g=>?_) (fun g=>?_)
 ·have g:(j:Int) < l.length:=g;refine Ob.o ?_;intro x hx;have hx:l[j]? =some x:=hx;have hm:=List.mem_of_getElem? hx;have e:=zb2 hx;refine zb.t (zbq x ((hl x hm).up dC)) ?_;refine Br.mk (fun h=>bad fun k=>h (k.1 x hm)) (fun h=>?_);refine Dr.k ?_;refine Ob.o ?_;intro y hy;have ey:y=x:=Option.some.inj ((show l[j]? =some y from hy).symm.trans hx);rw [ey];refine zb.t (zjf (jn (l.take j)) x (lj.up dC) ((hl x hm).up dC)) ?_;refine zb.t (zbq (beh (jn (l.take j)) x) ((zoE (n:=100) (lj.up dC) (hl x hm)).up dC)) ?_
  refine Br.mk (fun h=>bad fun k=>h (by rw [← e];exact k.2 j oM)) (fun h2=>?_);have h2:(beh (jn (l.take j)) x).ok:=Decidable.not_not.1 h2;refine Ar.o ?_;refine ⟨j+1,⟨oM,zdo hx j0 (Decidable.not_not.1 h),fun k hk=>?_⟩,k9 [(0,some 0),(1,some 1)] ⟨congrArg (fun q=>some (Mem.box 35 (afE q))) e.symm,rfl,trivial⟩,by dsimp only;omega⟩
  by_cases c:k=j
  ·rw [c,e];exact h2
  ·exact j2 k oM
 have g:¬(j:Int) < l.length:=g;have et:l.take j=l:=List.take_of_length_le oM;rw [et] at j0;have ef:yi l=(jn (l.take j),0):=by rw [et];exact if_pos ⟨j0,fun k hk=>j2 k oM⟩
 rw [ef];exact zS .refl .refl
structure Nd where
 id:Int
 k:Int
 d:Int
 t:AF
 clip:List Sg
 cr:Int
 op:Int
 mode:Int
 iso:Bool
 ko:Bool
 path:List Sg
 rule:Int
 fill:List Pnt
 pen:Pen
 strk:List Pnt
 im:Img
 smp:Int
def ndE(n:Nd):List SV:=
 i64 n.id::i64 n.k::i64 n.d::(afE n.t++(.sl sgE n.clip::i64 n.cr::u8 n.op::i64 n.mode::pr (n.iso=true)::pr (n.ko=true)::.sl sgE n.path::i64 n.rule::.sl jW n.fill::
  (zf6 n.pen++(.sl jW n.strk::(zfB n.im++[i64 n.smp])))))
structure Sc where
 w:Int
 h:Int
 bg:Pix
 ns:List Nd
def scE(s:Sc):List SV:=[i64 s.w,i64 s.h,u8 s.bg.r,u8 s.bg.g,u8 s.bg.b,u8 s.bg.a,.sl ndE s.ns]
def vt(n:Nd):Prop:=n.op=0/\n.mode=0/\n.iso=false/\n.ko=false
instance (n:Nd):Decidable (vt n):=inferInstanceAs (Decidable (_/\_))
def jp(p:Pen):Prop:=p.w=0/\p.j=0/\p.c=0/\p.m=0/\p.d=[]/\p.ph=0
instance (p:Pen):Decidable (jp p):=inferInstanceAs (Decidable (_/\_))
def zae(n:Nd):Prop:=n.path.length=0/\n.rule=0/\n.fill.length=0/\n.strk.length=0
instance (n:Nd):Decidable (zae n):=inferInstanceAs (Decidable (_/\_))
def vu(n:Nd):Prop:=n.im.w=0/\n.im.h=0/\n.im.px.length=0/\n.smp=0
instance (n:Nd):Decidable (vu n):=inferInstanceAs (Decidable (_/\_))
def vZ(r:Int):Prop:=r=1∨r=2
instance (r:Int):Decidable (vZ r):=inferInstanceAs (Decidable (_∨_))
def jX(n:Nd):Prop:=(n.clip.length=0/\n.cr=0)∨(0 < n.clip.length/\vZ n.cr)
instance (n:Nd):Decidable (jX n):=inferInstanceAs (Decidable (_∨_))
def zcX(n:Nd):Prop:=jX n/\(if n.k=1 then (zae n/\jp n.pen)/\vu n else if n.k=2 then vt n/\vu n else vt n/\zae n/\jp n.pen)
instance (n:Nd):Decidable (zcX n):=by unfold zcX;infer_instance
def yl(n:Nd):Int:=
 if ¬kY n.path then 10 else if ¬vZ n.rule then 2 else if 1 < n.fill.length∨1 < n.strk.length then 5 else if 0 < n.strk.length/\¬yf n.pen then 13
 else if n.strk.length=0/\¬jp n.pen then 17 else if (¬∀p∈n.fill,yk p)∨¬∀p∈n.strk,yk p then 16 else 0
def jh(n:Nd):Int:=
 if n.k < 1∨3 < n.k then 2 else if n.id < 1∨1073741824 < n.id∨n.d < 0∨8<=n.d then 6 else if ¬n.t.ok then 5 else if qH n.t=0 then 9 else if ¬kY n.clip then 10
 else if ¬zcX n then 17 else if n.k=1 then (if ¬(1<=n.mode/\n.mode<=13) then 2 else 0) else if n.k=2 then yl n
 else if ¬zbL n.im then 16 else if n.smp≠1/\n.smp≠2 then 2 else 0
def k8(l:List Nd)(i:Nat)(n:Nd):Prop:=match l[i - 1]? with
 | some p=>if i=0 then n.d=0 else (p.k=1/\n.d=p.d+1)∨n.d<=p.d
 | none=>n.d=0
instance (l:List Nd) (i:Nat) (n:Nd):Decidable (k8 l i n):=by unfold k8;split <;> infer_instance
def zcY(l:List Nd)(i:Nat)(n:Nd):Int:=
 if jh n≠0 then jh n else if n.id∈(l.take i).map Nd.id then 7 else if ¬k8 l i n then 17 else 0
def yo(ds:List Int)(d:Int):Nat->Int
 | 0=> -1
 | k+1=>if ds[k]? =some d then k else yo ds d k
def j8(ds:List Int)(i:Nat):Int:=yo ds (ds.getD i 0 - 1) i
theorem zcZ(ds:List Int)(d:Int):∀k,-1<=yo ds d k/\yo ds d k < k/\(0<=yo ds d k->ds[(yo ds d k).toNat]? =some d)
 | 0=>⟨Int.le_refl _,show (-1:Int) < 0 by decide,fun h=>absurd (show (0:Int)<= -1 from h) dC⟩
 | k+1=>by
  have ih:=zcZ ds d k;unfold yo
  split
  ·rename_i h;exact ⟨oM,oM,fun _=>by simpa using h⟩
  ·exact ⟨ih.1,oM,ih.2.2⟩
theorem zgY{ds:List Int}{d:Int}:∀{k j:Nat},j < k->ds[j]? =some d->0<=yo ds d k
 | k+1,j,hj,h=>by
  unfold yo
  split
  ·omega
  ·rename_i hn
   by_cases e:j=k
   ·subst e;exact absurd h hn
   ·exact zgY oM h
def zfG(ds:List Int):Prop:=(∀d,ds[0]? =some d->d=0)/\(∀d∈ds,0<=d)/\∀i a b,ds[i]? =some a->ds[i+1]? =some b->b<=a+1
theorem zgZ{ds:List Int}(h:zfG ds){e:Int}(he:0<=e):∀{i:Nat} {d:Int},ds[i]? =some d->e < d->∃j,j < i/\ds[j]? =some e
 | 0,d,hd,hl=>by have:=h.1 d hd;omega
 | i+1,d,hd,hl=>by
  obtain ⟨a,ha⟩:∃a,ds[i]? =some a:=⟨_,List.getElem?_eq_getElem (by have:=(List.getElem?_eq_some_iff.1 hd).1;omega)⟩;have hs:=h.2.2 i a d ha hd
  by_cases c:a=e
  ·exact ⟨i,oM,by rw [ha,c]⟩
  ·obtain ⟨j,h1,h2⟩:=zgZ h he ha oM;exact ⟨j,oM,h2⟩
theorem zc0{ds:List Int}(h:zfG ds){i:Nat}{d:Int}(hd:ds[i]? =some d):(d=0->j8 ds i= -1)/\(0 < d->∃j:Nat,j8 ds i=j/\j < i/\ds[j]? =some (d - 1)):=by
 have hg:ds.getD i 0=d:=by rw [List.getD_eq_getElem?_getD,hd];rfl
 unfold j8;rw [hg];obtain ⟨h1,h2,h3⟩:=zcZ ds (d - 1) i;refine ⟨fun e=>?_,fun hp=>?_⟩
 ·subst e;refine Int.le_antisymm (Int.not_lt.1 fun k=>?_) h1;have:=h.2.1 _ (List.mem_of_getElem? (h3 oM));omega
 ·obtain ⟨j,hj,hjd⟩:=zgZ h (show 0<=d - 1 by omega) hd oM;have:=zgY hj hjd;exact ⟨(yo ds (d - 1) i).toNat,oM,oM,h3 this⟩
def zb5(ds:List Int):Nat->Int->List Nat
 | 0,_=>[]
 | n+1,i=>if i < 0 then [] else i.toNat::zb5 ds n (j8 ds i.toNat)
theorem zpO(n:Int):ze Tryz.prog 213 [i64 n] [] (pr (vZ n)) []:=by
 refine zd tok mix Tryz.func213 rfl rfl rfl ?_;refine Br.mk (fun h=>?_) (fun h=>?_)
 ·exact zH (.inl h)
 ·exact zu ⟨.inr,fun k=>k.resolve_left h⟩
theorem zpP(xs ys:List Int):ze Tryz.prog 307 [.sl uJ xs,.sl uJ ys] [] (pr (xs=ys)) []:=by
 refine zd tok mix Tryz.func307 rfl rfl rfl ?_;intro hl1 hl2;refine Br.mk (fun h1=>zc fun e=>h1 (by rw [e])) (fun h1=>?_);have h1:=Decidable.not_not.1 h1;intro hl3;refine ⟨Int,fun i=>⟨[(13,i64 i),(12,i64 xs.length),(0,.sl uJ xs),(1,.sl uJ ys)],[],0,26,0⟩,fun i=>0<=i/\i<=xs.length/\∀j:Nat,(j:Int) < i->xs[j]? =ys[j]?,fun i=>((xs.length:Int) - i).toNat,0,?_,?_,?_⟩
 ·exact ⟨oM,oM,fun j hj=>by omega⟩
 ·exact zi []
 rintro i ⟨h4,h5,h6⟩
 refine Br.mk (fun h7=>?_) (fun h7=>?_)
 ·refine Dr.k ?_;refine Ob.o ?_;intro x hx;refine Ob.o ?_;intro y hy;refine Br.mk (fun h8=>?_) (fun h8=>?_)
  ·refine zc fun e=>h8 ?_
   subst e;rw [hx] at hy;exact Option.some.inj hy
  ·refine Ar.o ?_;refine ⟨i+1,⟨oM,oM,fun j hj=>?_⟩,zi [],by dsimp only;omega⟩
   by_cases e:j=i.toNat
   ·subst e;rw [hx,hy,Decidable.not_not.1 h8]
   ·exact h6 j oM
 ·exact zH (List.ext_getElem? fun j=>by
   by_cases hj:(j:Int) < i
   ·exact h6 j hj
   ·rw [List.getElem?_eq_none oM,List.getElem?_eq_none oM])
def zPen:Pen:=⟨0,0,0,0,[],0⟩
theorem zrj:LE (.agg [i64 0,i64 0,i64 0,i64 0,.val (.slice none 0 0),i64 0]) (.agg (zf6 zPen)):=zuI (.cons .refl (.cons .refl (.cons .refl (.cons .refl (.cons zI (.cons .refl .nil))))))
def zImg:Img:=⟨0,0,[]⟩
theorem zrk:LE (.agg [i64 0,i64 0,.val (.slice none 0 0)]) (.agg (zfB zImg)):=zuI (.cons .refl (.cons .refl (.cons zI .nil)))
def zed(a b:Pen):Prop:=a.w=b.w/\a.j=b.j/\a.c=b.c/\a.m=b.m/\a.ph=b.ph/\a.d=b.d
instance (a b:Pen):Decidable (zed a b):=inferInstanceAs (Decidable (_/\_))
theorem zno{p:Pen}:zed p zPen↔jp p:=by
 unfold zed jp zPen;constructor
 ·rintro ⟨h1,h2,h3,h4,h5,h6⟩;exact ⟨h1,h2,h3,h4,h6,h5⟩
 ·rintro ⟨h1,h2,h3,h4,h5,h6⟩;exact ⟨h1,h2,h3,h4,h6,h5⟩
theorem znp(a b:Pen):ze Tryz.prog 261 [.agg (zf6 a),.agg (zf6 b)] [] (pr (zed a b)) []:=by
 refine zd tok mix Tryz.func261 rfl rfl rfl ?_;refine Br.mk (fun h1=>?_) (fun h1=>zc fun k=>h1 k.1);refine Br.mk (fun h2=>?_) (fun h2=>zc fun k=>h2 k.2.1);refine Br.mk (fun h3=>?_) (fun h3=>zc fun k=>h3 k.2.2.1);refine Br.mk (fun h4=>?_) (fun h4=>zc fun k=>h4 k.2.2.2.1);refine Br.mk (fun h5=>?_) (fun h5=>zc fun k=>h5 k.2.2.2.2.1);refine zb.t (zpP a.d b.d) ?_;exact zu ⟨fun h=>⟨h1,h2,h3,h4,h5,h⟩,fun k=>k.2.2.2.2.2⟩
theorem zl7(a:Pen):ze Tryz.prog 261 [.agg (zf6 a),.agg [i64 0,i64 0,i64 0,i64 0,.val (.slice none 0 0),i64 0]] [] (pr (jp a)) []:=
 ((znp a zPen).args (.cons .refl (.cons zrj .nil))).le (zu zno)
theorem zs8(t:AF)(ht:t.le 10000000):ze Tryz.prog 216 [.agg (afE t)] [] (pr (qH t=0)) []:=by
 refine zd tok mix Tryz.func216 rfl rfl rfl ?_;refine zb.t (zdG t ht) ?_;refine zb.t (qG 0 (by constructor <;> decide)) ?_;have hcmp:=zcz (ofQ (qH t)) (ofQ ((0:Int):Rat)) (by have:=zcW ht;rw [zo];omega) (by decide +kernel);rw [zN,zN] at hcmp;refine zb.t hcmp ?_;exact zu (Decidable.not_iff_not.1 (jK _))
def jA(l:List Pnt):Prop:=∀p∈l,yk p
instance (l:List Pnt):Decidable (jA l):=inferInstanceAs (Decidable (∀p∈l,_))
def zaZ(l:List Pnt):Prop:=∀p∈l,p.t.le 1000/\p.im.px.length<=9223372036854775807
def zk3(l:List Pnt):Int:=match l.findIdx? (fun p=>¬yk p) with | some i=>i | none=> -1
theorem zrl{l:List Pnt}{i:Nat}{x:Pnt}(h:∀(j:Nat) q,j < i->l[j]? =some q->yk q)(hx:l[i]? =some x)(hb:¬yk x):zk3 l=i:=by
 have:l.findIdx? (fun p=>¬yk p)=some i:=by
  rw [List.findIdx?_eq_some_iff_getElem];have hi:=(List.getElem?_eq_some_iff.1 hx);refine ⟨hi.1,by rw [hi.2];simpa using hb,fun j hj=>?_⟩;have:=h j _ hj (List.getElem?_eq_getElem (by have:=hi.1;omega))
  simpa using this
 unfold zk3;rw [this]
theorem zg0{l:List Pnt}(h:∀p∈l,yk p):zk3 l= -1:=by
 have:l.findIdx? (fun p=>¬yk p)=none:=by
  rw [List.findIdx?_eq_none_iff];intro p hp;simpa using h p hp
 unfold zk3;rw [this]
theorem zjL{l:List Pnt}:0<=zk3 l↔¬jA l:=by
 by_cases h:jA l
 ·rw [zg0 h];exact ⟨fun k=>by omega,fun k=>absurd h k⟩
 ·refine ⟨fun _=>h,fun _=>?_⟩;unfold zk3
  cases hf:l.findIdx? (fun p=>¬yk p) with
  | some i=>exact Int.natCast_nonneg i
  | none=>rw [List.findIdx?_eq_none_iff] at hf;exact absurd (fun p hp=>by simpa using hf p hp) h
theorem zs9(p:Pnt)(hp:p.t.le 1000)(hl:p.im.px.length<=9223372036854775807):ze Tryz.prog 310 [.agg (jW p)] [] (pr (¬yk p)) []:=by
 refine zd tok mix Tryz.func310 rfl rfl rfl ?_;refine zb.t (zk2 p hp hl) ?_;exact zu Iff.rfl
theorem zrm(xs:List Pnt)(ht:zaZ xs):ze Tryz.prog 342 [.sl jW xs,.fn 310 []] [] (i64 (zk3 xs)) []:=by
 refine zd tok mix Tryz.func342 rfl rfl rfl ?_;intro hl0;refine ⟨Int,fun i=>⟨[(8,i64 i),(7,i64 xs.length),(0,.sl jW xs),(1,.fn 310 [])],[],0,19,0⟩,fun i=>0<=i/\i<=xs.length/\∀(j:Nat) q,(j:Int) < i->xs[j]? =some q->yk q,fun i=>((xs.length:Int) - i).toNat,0,?_,?_,?_⟩
 ·exact ⟨oM,oM,fun j q hj=>by omega⟩
 ·exact zi []
 rintro i ⟨h1,h2,h3⟩
 refine Br.mk (fun h4=>?_) (fun h4=>?_)
 ·refine Ob.o ?_;intro x hx;have hm:=ht x (List.mem_of_getElem? hx);refine zb.t (zs9 x hm.1 hm.2) ?_;refine Br.mk (fun h5=>?_) (fun h5=>?_)
  ·refine zm ?_;rw [zrl (i:=i.toNat) (fun j q hj=>h3 j q oM) hx h5];omega
  ·refine Ar.o ?_;refine ⟨i+1,⟨oM,oM,fun j q hj hq=>?_⟩,zi [],by dsimp only;omega⟩
   by_cases e:j=i.toNat
   ·subst e;rw [hx] at hq;cases hq;exact Decidable.not_not.1 h5
   ·exact h3 j q oM hq
 ·refine zm (zg0 fun p hp=>?_).symm;obtain ⟨j,hj,he⟩:=List.getElem_of_mem hp;exact h3 j p oM (by rw [← he];exact List.getElem?_eq_getElem hj)
theorem zk4(xs:List Pnt)(ht:zaZ xs):ze Tryz.prog 309 [.sl jW xs,.fn 310 []] [] (pr (¬jA xs)) []:=by
 refine zd tok mix Tryz.func309 rfl rfl rfl ?_;refine zb.t (zrm xs ht) ?_;exact zu zjL
theorem zsb(xs:List Pnt)(ht:zaZ xs):ze Tryz.prog 263 [.sl jW xs] [] (pr (jA xs)) []:=by
 refine zd tok mix Tryz.func263 rfl rfl rfl ?_;refine zb.t (zk4 xs ht) ?_;exact zu Decidable.not_not
def ym(n:Nd):Prop:=if n.k=1 then (zae n/\jp n.pen)/\vu n else if n.k=2 then vt n/\vu n else vt n/\zae n/\jp n.pen
instance (n:Nd):Decidable (ym n):=by unfold ym;infer_instance
theorem zh7{n:Nd}:vu n↔n.im=zImg/\n.smp=0:=by
 unfold vu zImg
 rcases n with ⟨id,k,d,t,clip,cr,op,mode,iso,ko,path,rule,fill,pen,strk,⟨w,h,px⟩,smp⟩
 simp only [Img.mk.injEq,List.length_eq_zero_iff];constructor
 ·rintro ⟨h1,h2,h3,h4⟩;exact ⟨⟨h1,h2,h3⟩,h4⟩
 ·rintro ⟨⟨h1,h2,h3⟩,h4⟩;exact ⟨h1,h2,h3,h4⟩
theorem zta(n:Nd):ze Tryz.prog 217 [.agg (ndE n)] [] (pr (ym n)) []:=by
 refine vN tok Tryz.func217 rfl rfl rfl (zaf.cut tok mix 2 (fun _:Unit=>⟨[(3,pr (vt n)),(1,.loc 0 0)],[(0,.box 66 (ndE n))],1,78,0⟩) (fun _=>True) ?_ fun _ _=>
  zaf.cut tok mix 1 (fun _:Unit=>⟨[(4,pr (zae n/\jp n.pen)),(3,pr (vt n)),(1,.loc 0 0)],[(0,.box 66 (ndE n))],1,78,0⟩) (fun _=>True) ?_ fun _ _=>
  zaf.cut tok mix 1 (fun _:Unit=>⟨[(5,pr (vu n)),(4,pr (zae n/\jp n.pen)),(3,pr (vt n)),(1,.loc 0 0)],[(0,.box 66 (ndE n))],1,78,0⟩) (fun _=>True) ?_ fun _ _=>zaf.vc tok mix ?_)
 ·refine Br.mk (fun h1=>?_) (fun h1=>⟨(),trivial,(kR (t:=3) rfl (zc fun k=>h1 k.1)).trans (yU [(0,some 0)] rfl rfl rfl ⟨rfl,rfl,trivial⟩ ⟨rfl,trivial⟩)⟩);refine Br.mk (fun h2=>?_) (fun h2=>⟨(),trivial,(kR (t:=3) rfl (zc fun k=>h2 k.2.1)).trans (yU [(0,some 0)] rfl rfl rfl ⟨rfl,rfl,trivial⟩ ⟨rfl,trivial⟩)⟩);refine Br.mk (fun h3=>?_) (fun h3=>⟨(),trivial,(kR (t:=3) rfl (zc fun k=>h3 (by rw [k.2.2.1];decide))).trans (yU [(0,some 0)] rfl rfl rfl ⟨rfl,rfl,trivial⟩ ⟨rfl,trivial⟩)⟩)
  exact ⟨(),trivial,(kR (t:=3) rfl (zu ⟨fun h=>⟨h1,h2,by simpa using h3,by simpa using h⟩,fun k=>by rw [k.2.2.2];decide⟩)).trans (yU [(0,some 0)] rfl rfl rfl ⟨rfl,rfl,trivial⟩ ⟨rfl,trivial⟩)⟩
 ·intro hl1;refine Br.mk (fun h1=>?_) (fun h1=>⟨(),trivial,(kR (t:=4) rfl (zc fun k=>h1 (by have:=k.1.1;omega))).trans (yU [(0,some 0)] rfl rfl rfl ⟨rfl,rfl,rfl,trivial⟩ ⟨rfl,trivial⟩)⟩);refine Br.mk (fun h2=>?_) (fun h2=>⟨(),trivial,(kR (t:=4) rfl (zc fun k=>h2 k.1.2.1)).trans (yU [(0,some 0)] rfl rfl rfl ⟨rfl,rfl,rfl,trivial⟩ ⟨rfl,trivial⟩)⟩);intro hl2;refine Br.mk (fun h3=>?_) (fun h3=>⟨(),trivial,(kR (t:=4) rfl (zc fun k=>h3 (by have:=k.1.2.2.1;omega))).trans (yU [(0,some 0)] rfl rfl rfl ⟨rfl,rfl,rfl,trivial⟩ ⟨rfl,trivial⟩)⟩)
  intro hl3;refine Br.mk (fun h4=>?_) (fun h4=>⟨(),trivial,(kR (t:=4) rfl (zc fun k=>h4 (by have:=k.1.2.2.2;omega))).trans (yU [(0,some 0)] rfl rfl rfl ⟨rfl,rfl,rfl,trivial⟩ ⟨rfl,trivial⟩)⟩);refine zb.t (zl7 n.pen) ?_;exact ⟨(),trivial,(kR (t:=4) rfl (zu ⟨fun h=>⟨⟨oM,h2,oM,oM⟩,h⟩,fun k=>k.2⟩)).trans (yU [(0,some 0)] rfl rfl rfl ⟨rfl,rfl,rfl,trivial⟩ ⟨rfl,trivial⟩)⟩
 ·refine zb.t ((zgW n.im zImg).args (.cons .refl (.cons zrk .nil))) ?_;refine Br.mk (fun h1=>?_) (fun h1=>⟨(),trivial,(kR (t:=5) rfl (zc fun k=>h1 (zh7.1 k).1)).trans (yU [(0,some 0)] rfl rfl rfl ⟨rfl,rfl,rfl,rfl,trivial⟩ ⟨rfl,trivial⟩)⟩);exact ⟨(),trivial,(kR (t:=5) rfl (zu ⟨fun h=>zh7.2 ⟨h1,h⟩,fun k=>(zh7.1 k).2⟩)).trans (yU [(0,some 0)] rfl rfl rfl ⟨rfl,rfl,rfl,rfl,trivial⟩ ⟨rfl,trivial⟩)⟩
 ·refine Br.mk (fun k1=>?_) (fun k1=>?_)
  ·have e:ym n↔(zae n/\jp n.pen)/\vu n:=by unfold ym;rw [if_pos k1]
   exact Br.mk (fun a=>zu ⟨fun h=>e.2 ⟨a,h⟩,fun k=>(e.1 k).2⟩) (fun a=>zc fun k=>a (e.1 k).1)
  refine Br.mk (fun k2=>?_) (fun k2=>?_)
  ·have e:ym n↔vt n/\vu n:=by unfold ym;rw [if_neg k1,if_pos k2]
   exact Br.mk (fun a=>zu ⟨fun h=>e.2 ⟨a,h⟩,fun k=>(e.1 k).2⟩) (fun a=>zc fun k=>a (e.1 k).1)
  ·have e:ym n↔vt n/\zae n/\jp n.pen:=by unfold ym;rw [if_neg k1,if_neg k2]
   exact Br.mk (fun a=>zu ⟨fun h=>e.2 ⟨a,h⟩,fun k=>(e.1 k).2⟩) (fun a=>zc fun k=>a (e.1 k).1)
def zjM(n:Nd):Prop:=n.k < 1∨3 < n.k
instance (n:Nd):Decidable (zjM n):=inferInstanceAs (Decidable (_∨_))
def zga(n:Nd):Prop:=n.id < 1∨1073741824 < n.id∨n.d < 0∨8<=n.d
instance (n:Nd):Decidable (zga n):=inferInstanceAs (Decidable (_∨_))
def v6(n:Nd):Er:=uw [z6 (zjM n) 2,z6 (zga n) 6,z6 (¬n.t.ok) 5,z6 (qH n.t=0) 9,z6 (¬kY n.clip) 10,z6 (¬jX n∨¬ym n) 17]
theorem zpQ(n:Nd)(ht:n.t.le 1000):ze Tryz.prog 165 [.agg (ndE n)] [] (.op (erV (v6 n))) []:=by
 refine vN tok Tryz.func165 rfl rfl rfl (zaf.cut tok mix 2 (fun _:Unit=>⟨[(3,pr (jX n)),(1,.loc 0 0)],[(0,.box 66 (ndE n))],1,76,0⟩) (fun _=>True) ?_ fun _ _=>zaf.vc tok mix ?_)
 ·intro hl1;refine Br.mk (fun h1=>?_) (fun h1=>?_)
  ·refine Br.mk (fun h2=>⟨(),trivial,(kR (t:=3) rfl (zH (.inl ⟨oM,h2⟩))).trans (yU [(0,some 0)] rfl rfl rfl ⟨rfl,rfl,trivial⟩ ⟨rfl,trivial⟩)⟩) (fun h2=>?_);intro hl2;refine Br.mk (fun h3=>?_) (fun h3=>⟨(),trivial,(kR (t:=3) rfl (zc fun k=>k.elim (fun k=>h2 k.2) fun k=>by have:=k.1;omega)).trans (yU [(0,some 0)] rfl rfl rfl ⟨rfl,rfl,trivial⟩ ⟨rfl,trivial⟩)⟩);omega
  ·intro hl2;refine Br.mk (fun h3=>?_) (fun h3=>?_)
   ·refine zb.t (zpO n.cr) ?_;exact ⟨(),trivial,(kR (t:=3) rfl (zu ⟨fun h=>.inr ⟨oM,h⟩,fun k=>k.elim (fun k=>by have:=k.1;omega) fun k=>k.2⟩)).trans (yU [(0,some 0)] rfl rfl rfl ⟨rfl,rfl,trivial⟩ ⟨rfl,trivial⟩)⟩
   ·omega
 ·refine Dr.d ?_;refine Br.mk (fun a1=>?_) (fun a1=>?_)
  all_goals refine zb.t ((qO (zjM n) 2).args (.cons (by first | exact zH (.inl a1) | exact zu ⟨.inr,fun k=>k.resolve_left a1⟩) LEs.refl)) ?_
  all_goals (refine Br.mk (fun b1=>?_) (fun b1=>?_);rotate_left;refine Br.mk (fun b2=>?_) (fun b2=>?_);rotate_left;refine Br.mk (fun b3=>?_) (fun b3=>?_))
  all_goals refine zb.t ((qO (zga n) 6).args (.cons (by first | exact zH (by unfold zga;omega) | exact zu (by unfold zga;constructor <;> intro <;> omega)) LEs.refl)) ?_
  all_goals refine zb.t (vP n.t (ht.up dC)) ?_
  all_goals refine zb.t (qO (¬n.t.ok) 5) ?_
  all_goals refine zb.t (zs8 n.t (ht.up dC)) ?_
  all_goals refine zb.t (qO (qH n.t=0) 9) ?_
  all_goals refine zb.t (zea n.clip) ?_
  all_goals refine zb.t (qO (¬kY n.clip) 10) ?_
  all_goals refine Br.mk (fun c1=>?_) (fun c1=>?_)
  all_goals first
   | refine zb.t ((qO (¬jX n∨¬ym n) 17).args (.cons (zH (.inl c1)) LEs.refl)) ?_
   | (refine zb.t (zta n) ?_;refine zb.t ((qO (¬jX n∨¬ym n) 17).args (.cons (zu ⟨.inr,fun k=>k.resolve_left c1⟩) LEs.refl)) ?_)
  all_goals refine ⟨Er,zoe,[z6 (zjM n) 2,z6 (zga n) 6,z6 (¬n.t.ok) 5,z6 (qH n.t=0) 9,z6 (¬kY n.clip) 10,z6 (¬jX n∨¬ym n) 17],rfl,Ob.o10 ?_⟩
  all_goals refine zb.see 1 _ (zhA [z6 (zjM n) 2,z6 (zga n) 6,z6 (¬n.t.ok) 5,z6 (qH n.t=0) 9,z6 (¬kY n.clip) 10,z6 (¬jX n∨¬ym n) 17]) rfl rfl rfl ?_
  all_goals refine Ob.mk (by kernel_rfl) ?_
  all_goals exact .refl
def zh8(n:Nd):Er:=uw [z6 (¬kY n.path) 10,z6 (¬vZ n.rule) 2,z6 (1 < n.fill.length∨1 < n.strk.length) 5,z6 (0 < n.strk.length/\¬yf n.pen) 13,z6 (n.strk.length=0/\¬jp n.pen) 17,z6 (¬jA n.fill∨¬jA n.strk) 16]
theorem zrn(n:Nd)(h1:zaZ n.fill)(h2:zaZ n.strk):ze Tryz.prog 219 [.agg (ndE n)] [] (.op (erV (zh8 n))) []:=by
 refine zd tok mix Tryz.func219 rfl rfl rfl ?_;intro hl1;refine Dr.d ?_;refine zb.t (zea n.path) ?_;refine zb.t (qO (¬kY n.path) 10) ?_;refine zb.t (zpO n.rule) ?_;refine zb.t (qO (¬vZ n.rule) 2) ?_;intro hl2;refine Br.mk (fun a1=>?_) (fun a1=>?_);rotate_left;intro hl3
 all_goals refine zb.t ((qO (1 < n.fill.length∨1 < n.strk.length) 5).args (.cons (by first | exact zH (.inl oM) | exact zu (by constructor <;> intro <;> omega)) LEs.refl)) ?_
 all_goals refine Br.mk (fun b1=>?_) (fun b1=>?_)
 all_goals first
  | (refine zb.t (zqS n.pen) ?_;refine zb.t ((qO (0 < n.strk.length/\¬yf n.pen) 13).args (.cons (zu ⟨fun h=>⟨oM,h⟩,fun k=>k.2⟩) LEs.refl)) ?_)
  | refine zb.t ((qO (0 < n.strk.length/\¬yf n.pen) 13).args (.cons (zc oM) LEs.refl)) ?_
 all_goals refine Br.mk (fun c1=>?_) (fun c1=>?_)
 all_goals first
  | (refine zb.t (zl7 n.pen) ?_;refine zb.t ((qO (n.strk.length=0/\¬jp n.pen) 17).args (.cons (zu ⟨fun h=>⟨oM,h⟩,fun k=>k.2⟩) LEs.refl)) ?_)
  | refine zb.t ((qO (n.strk.length=0/\¬jp n.pen) 17).args (.cons (zc oM) LEs.refl)) ?_
 all_goals refine zb.t (zsb n.fill h1) ?_
 all_goals refine Br.mk (fun d1=>?_) (fun d1=>?_)
 all_goals first
  | refine zb.t ((qO (¬jA n.fill∨¬jA n.strk) 16).args (.cons (zH (.inl d1)) LEs.refl)) ?_
  | (refine zb.t (zsb n.strk h2) ?_;refine zb.t ((qO (¬jA n.fill∨¬jA n.strk) 16).args (.cons (zu ⟨.inr,fun k=>k.resolve_left d1⟩) LEs.refl)) ?_)
 all_goals refine ⟨Er,zoe,[z6 (¬kY n.path) 10,z6 (¬vZ n.rule) 2,z6 (1 < n.fill.length∨1 < n.strk.length) 5,z6 (0 < n.strk.length/\¬yf n.pen) 13,z6 (n.strk.length=0/\¬jp n.pen) 17,z6 (¬jA n.fill∨¬jA n.strk) 16],rfl,Ob.o10 ?_⟩
 all_goals refine zb.see 1 _ (zhA [z6 (¬kY n.path) 10,z6 (¬vZ n.rule) 2,z6 (1 < n.fill.length∨1 < n.strk.length) 5,z6 (0 < n.strk.length/\¬yf n.pen) 13,z6 (n.strk.length=0/\¬jp n.pen) 17,z6 (¬jA n.fill∨¬jA n.strk) 16]) rfl rfl rfl ?_
 all_goals refine Ob.mk (by kernel_rfl) ?_
 all_goals exact .refl
def zgb(n:Nd):Er:=if n.k=1 then z6 (¬zfH n.mode) 2 else if n.k=2 then zh8 n else uw [z6 (¬zbL n.im) 16,z6 (n.smp≠1/\n.smp≠2) 2]
def zfI(n:Nd):Prop:=n.t.le 1000/\zaZ n.fill/\zaZ n.strk/\n.im.px.length<=9223372036854775807
theorem g_own(n:Nd)(h:zfI n):ze Tryz.prog 166 [.agg (ndE n)] [] (.op (erV (zgb n))) []:=by
 obtain ⟨_,h1,h2,h3⟩:=h;refine zd tok mix Tryz.func166 rfl rfl rfl ?_;refine Br.mk (fun k1=>?_) (fun k1=>?_)
 ·refine zb.t (zs6 n.mode) ?_;refine zb.t (qO (¬zfH n.mode) 2) ?_;rw [zgb,if_pos k1];exact .refl
 refine Br.mk (fun k2=>?_) (fun k2=>?_)
 ·refine zb.t (zrn n h1 h2) ?_;rw [zgb,if_neg k1,if_pos k2];exact .refl
 rw [zgb,if_neg k1,if_neg k2];refine Dr.d ?_;refine zb.t (zgV n.im h3) ?_;refine zb.t (qO (¬zbL n.im) 16) ?_;refine Br.mk (fun b1=>?_) (fun b1=>?_)
 all_goals refine zb.t ((qO (n.smp≠1/\n.smp≠2) 2).args (.cons (by first | exact zu ⟨fun h=>⟨b1,h⟩,fun k=>k.2⟩ | exact zc fun k=>b1 k.1) LEs.refl)) ?_
 all_goals refine ⟨Er,zoe,[z6 (¬zbL n.im) 16,z6 (n.smp≠1/\n.smp≠2) 2],rfl,Ob.o10 ?_⟩
 all_goals refine zb.see 1 _ (zhA [z6 (¬zbL n.im) 16,z6 (n.smp≠1/\n.smp≠2) 2]) rfl rfl rfl ?_
 all_goals refine Ob.mk (by kernel_rfl) ?_
 all_goals exact .refl
def za0:Er->Int->Int
 | .nil,c=>c
 | .w c u,_=>za0 u c
def zl8:Er->Nat
 | .nil=>0
 | .w _ u=>zl8 u+1
def zk5(n:Nd):Er:=match v6 n with
 | .nil=>zgb n
 | .w c u=>.w c u
def cellA:Option (Int×Er)->SV
 | none=>i64 0
 | some (a,_)=>i64 a
def ztb:Option (Int×Er)->SV
 | none=>.val .nilIface
 | some (_,b)=>.op (erV b)
theorem zpR(n:Nd)(h:zfI n):ze Tryz.prog 115 [.agg (ndE n)] [] (i64 (za0 (zk5 n) 0)) []:=by
 refine vN tok Tryz.func115 rfl rfl rfl (zaf.cut tok mix 3 (fun _:Unit=>⟨[(3,.op (erV (zk5 n)))],[],1,20,0⟩) (fun _=>True) ?_ fun _ _=>zaf.vc tok mix ?_)
 ·have hc:=zpQ n h.1;have ht:zk5 n=match v6 n with | .nil=>zgb n | .w c u=>.w c u:=rfl
  revert hc ht
  generalize v6 n=e
  cases e with
  | nil=>
   intro hc ht;refine zb.t hc ?_;refine Br.mk (fun _=>?_) (fun k=>absurd rfl k);refine zb.t (g_own n h) ?_;rw [ht];exact ⟨(),trivial,zi [(0,some 0)]⟩
  | w c u=>
   intro hc ht;refine zb.t hc ?_;refine Br.mk (fun k=>by cases k) (fun _=>?_);rw [ht];exact ⟨(),trivial,zi [(0,some 0)]⟩
 ·refine ⟨Er×Int×Option (Int×Er),fun x=>⟨[(4,i64 x.2.1),(3,.op (erV x.1)),(5,.loc 1 0)],[(1,.box 190 [cellA x.2.2,ztb x.2.2])],2,20,0⟩,fun x=>za0 x.1 x.2.1=za0 (zk5 n) 0,fun x=>zl8 x.1,(zk5 n,0,none),rfl,?_,?_⟩
  ·exact zi [(1,some 1)]
  rintro ⟨e,c,o⟩ hI
  cases e with
  | nil=>
   rcases o with _ | ⟨a,b⟩
   ·refine zb.give [1] 0 [.op (erV .nil),.ifc 192 (.loc 0 0)] [(0,.box 190 [i64 0,.val .nilIface])] [(0,.box 190 [i64 0,.val .nilIface])] (bl false) (ziV _ _) LEs.refl rfl rfl rfl ⟨⟨_,rfl,rfl,rfl⟩,trivial⟩ rfl ⟨⟨rfl,rfl⟩,trivial⟩ ?_;exact zm hI
   ·refine zb.give [1] 0 [.op (erV .nil),.ifc 192 (.loc 0 0)] [(0,.box 190 [i64 a,.op (erV b)])] [(0,.box 190 [i64 a,.op (erV b)])] (bl false) (ziV _ _) LEs.refl rfl rfl rfl ⟨⟨_,rfl,rfl,rfl⟩,trivial⟩ rfl ⟨⟨rfl,rfl⟩,trivial⟩ ?_;exact zm hI
  | w c' u=>
   rcases o with _ | ⟨a,b⟩
   ·refine zb.give [1] 0 [.op (erV (.w c' u)),.ifc 192 (.loc 0 0)] [(0,.box 190 [i64 0,.val .nilIface])] [(0,.box 190 [i64 c',.op (erV u)])] (bl true) (ziW c' u _ _) LEs.refl rfl rfl rfl ⟨⟨_,rfl,rfl,rfl⟩,trivial⟩ rfl ⟨⟨rfl,rfl⟩,trivial⟩ ?_;refine Dr.k ?_;exact ⟨(u,c',some (c',u)),hI,zi [(1,some 1)],by dsimp only [zl8];omega⟩
   ·refine zb.give [1] 0 [.op (erV (.w c' u)),.ifc 192 (.loc 0 0)] [(0,.box 190 [i64 a,.op (erV b)])] [(0,.box 190 [i64 c',.op (erV u)])] (bl true) (ziW c' u _ _) LEs.refl rfl rfl rfl ⟨⟨_,rfl,rfl,rfl⟩,trivial⟩ rfl ⟨⟨rfl,rfl⟩,trivial⟩ ?_;refine Dr.k ?_;exact ⟨(u,c',some (c',u)),hI,zi [(1,some 1)],by dsimp only [zl8];omega⟩
theorem zfJ{p:Prop}[Decidable p]{c:Int}{l:List Er}:uw (z6 p c::l)=if p then .w 0 (.w c .nil) else uw l:=by unfold z6;split <;> rfl
theorem znq{p:Prop}[Decidable p]{c:Int}:za0 (z6 p c) 0=if p then c else 0:=by unfold z6;split <;> rfl
theorem zpS{n:Nd}:¬zcX n↔¬jX n∨¬ym n:=by
 show ¬(jX n/\ym n)↔_;exact Decidable.not_and_iff_or_not
theorem zfK{p:Prop}[Decidable p]{c:Int}{l:List Er}:za0 (uw (z6 p c::l)) 0=if p then c else za0 (uw l) 0:=by rw [zfJ];split <;> rfl
theorem ztc(n:Nd):za0 (zk5 n) 0=jh n:=by
 have hs:za0 (zh8 n) 0=yl n:=by
  unfold zh8 yl;simp only [zfK];rfl
 have ho:za0 (zgb n) 0=if n.k=1 then (if ¬(1<=n.mode/\n.mode<=13) then 2 else 0) else if n.k=2 then yl n else if ¬zbL n.im then 16 else if n.smp≠1/\n.smp≠2 then 2 else 0:=by
  unfold zgb
  split
  ·exact znq
  ·split
   ·exact hs
   ·simp only [zfK];rfl
 have ht:zk5 n=match v6 n with | .nil=>zgb n | .w c u=>.w c u:=rfl
 have hc:jh n=if zjM n then 2 else if zga n then 6 else if ¬n.t.ok then 5 else if qH n.t=0 then 9 else if ¬kY n.clip then 10 else if ¬jX n∨¬ym n then 17 else za0 (zgb n) 0:=by
  rw [ho];unfold jh;simp only [zpS];rfl
 rw [hc,ht]
 have hm:v6 n=if zjM n then .w 0 (.w 2 .nil) else if zga n then .w 0 (.w 6 .nil) else if ¬n.t.ok then .w 0 (.w 5 .nil) else if qH n.t=0 then .w 0 (.w 9 .nil) else if ¬kY n.clip then .w 0 (.w 10 .nil) else if ¬jX n∨¬ym n then .w 0 (.w 17 .nil) else .nil:=by
  unfold v6;simp only [zfJ];rfl
 rw [hm]
 by_cases h1:zjM n
 ·simp only [if_pos h1];rfl
 simp only [if_neg h1]
 by_cases h2:zga n
 ·simp only [if_pos h2];rfl
 simp only [if_neg h2]
 by_cases h3:¬n.t.ok
 ·simp only [if_pos h3];rfl
 simp only [if_neg h3]
 by_cases h4:qH n.t=0
 ·simp only [if_pos h4];rfl
 simp only [if_neg h4]
 by_cases h5:¬kY n.clip
 ·simp only [if_pos h5];rfl
 simp only [if_neg h5]
 by_cases h6:¬jX n∨¬ym n
 ·simp only [if_pos h6];rfl
 simp only [if_neg h6]
theorem zro(n:Nd)(h:zfI n):ze Tryz.prog 115 [.agg (ndE n)] [] (i64 (jh n)) []:=ztc n ▸ zpR n h
def outR(l:List Sg)(pen:Pen)(t:AF)(tol:Int):List (List Pt)×Int:=
 if ¬yf pen then ([],13) else if (kZ l tol).2≠0 then ([],(kZ l tol).2) else if (zdN (kZ l tol).1 pen).2≠0 then ([],(zdN (kZ l tol).1 pen).2)
 else if (zfl (zdN (kZ l tol).1 pen).1 pen).2≠0 then ([],(zfl (zdN (kZ l tol).1 pen).1 pen).2) else tranR (zfl (zdN (kZ l tol).1 pen).1 pen).1 t
end Go.Gs
