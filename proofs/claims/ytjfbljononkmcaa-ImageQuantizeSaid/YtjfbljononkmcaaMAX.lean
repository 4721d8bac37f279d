/- Pictures of another size: plain. -/
import Derived.Test.YtjfbljononkmcaaMA
import Derived.Test.YtjfbljononkmcaaMAU
import Derived.Test.YtjfbljononkmcaaMAW
import Derived.Test.YtjfbljononkmcaaMAV
import Derived.Test.YtjfbljononkmcaaMAP
import Derived.Test.YtjfbljononkmcaaMAQ
set_option maxRecDepth 100000
set_option maxHeartbeats 8000000
set_option linter.all false
namespace Go.Gs
def zbh(m:Img)(k:Int):Pix:=m.px.getD k.toNat zbK
theorem zeZ{m:Img}(hm:okM m){k:Int}(h:0<=k/\k < m.px.length):P8 (zbh m k)/\jw (zbh m k):=by
 have e:zbh m k=m.px[k.toNat]:=by unfold zbh;rw [List.getD_eq_getElem?_getD,List.getElem?_eq_getElem oM];rfl
 rw [e];have:=List.getElem_mem (l:=m.px) (n:=k.toNat) oM;exact ⟨hm.2 _ this,hm.1.2.2.2.2 _ this⟩
def je(key:Int->Int)(b:List Int):Int:=b.foldl (fun a i=>min a (key i)) 255
def kU(key:Int->Int)(b:List Int):Int:=b.foldl (fun a i=>max a (key i)) 0
theorem ze0(key:Int->Int)(b:List Int)(x:Int):je key (b++[x])=min (je key b) (key x):=by unfold je;rw [List.foldl_append];rfl
theorem zdx(key:Int->Int)(b:List Int)(x:Int):kU key (b++[x])=max (kU key b) (key x):=by unfold kU;rw [List.foldl_append];rfl
theorem zgR{key:Int->Int}(hk:jI key)(b:List Int):(0<=je key b/\je key b<=255)/\(0<=kU key b/\kU key b<=255)/\(b≠[]->je key b<=kU key b):=by
 have e:∀(c:List Int),∃d:List Int,c=d.reverse:=fun c=>⟨c.reverse,(List.reverse_reverse c).symm⟩
 obtain ⟨d,rfl⟩:=e b
 induction d with
 | nil=>exact ⟨(by decide:(0:Int)<=255/\(255:Int)<=255),(by decide:(0:Int)<=0/\(0:Int)<=255),fun h=>absurd rfl h⟩
 | cons x d ih=>
  rw [List.reverse_cons,ze0,zdx];obtain ⟨i1,i2,_⟩:=ih;have:=hk x;refine ⟨oM,oM,fun _=>by omega⟩
def yi(m:Img)(b:List Int)(c:Nat):Int:=kU (zC m c) b - je (zC m c) b
def kP(m:Img)(b:List Int)(s:Int×Int):Nat->Int×Int
 | 0=>s
 | c+1=>if (kP m b s c).1 < yi m b c then (yi m b c,(c:Int)) else kP m b s c
def jf(m:Img)(b:List Int):Int×Int:=kP m b (0,0) 4
abbrev P8s(m:Img):Prop:=∀q∈m.px,P8 q
theorem zgS{m:Img}(hp:P8s m)(b:List Int)(c:Nat): -255<=yi m b c/\yi m b c<=255/\(b≠[]->0<=yi m b c):=by
 obtain ⟨h1,h2,h3⟩:=zgR (qN hp c) b;unfold yi;exact ⟨oM,oM,fun h=>by have:=h3 h;omega⟩
theorem zgT{m:Img}(hp:P8s m)(x:Int)(c:Nat):yi m [x] c=0:=by
 have:=qN hp c x;show max 0 (zC m c x) - min 255 (zC m c x)=0;omega
theorem vq{m:Img}(hp:P8s m)(b:List Int):∀c:Nat,c<=4->(0<=(kP m b (0,0) c).1/\(kP m b (0,0) c).1<=255)/\(0<=(kP m b (0,0) c).2/\(kP m b (0,0) c).2 < 4)/\((kP m b (0,0) c).1=0->(kP m b (0,0) c).2=0)/\
  (b.length<=1->b≠[]->(kP m b (0,0) c).1=0)
 | 0,_=>⟨(by decide:(0:Int)<=0/\(0:Int)<=255),(by decide:(0:Int)<=0/\(0:Int) < 4),fun _=>rfl,fun _ _=>rfl⟩
 | c+1,hc=>by
  obtain ⟨h1,h2,h3,h4⟩:=vq hp b c oM;obtain ⟨e1,e2,e3⟩:=zgS hp b c;unfold kP
  split
  ·rename_i h;refine ⟨by dsimp only;omega,by dsimp only;omega,fun k=>by dsimp only at k;omega,fun k k2=>?_⟩
   match b,k,k2 with
   | [x],_,_=>exact zgT hp x c
   | [],_,k2=>exact absurd rfl k2
   | x::y::b,k,_=>simp at k
  ·exact ⟨h1,h2,h3,h4⟩
theorem zaX{m:Img}(hp:P8s m){b:List Int}(hb:b≠[]):∀c:Nat,kP m b (-1,0) (c+1)=kP m b (0,0) (c+1)
 | 0=>by
  have:=(zgS hp b 0).2.2 hb;show (if (-1:Int) < yi m b 0 then (yi m b 0,((0:Nat):Int)) else (-1,0))=(if (0:Int) < yi m b 0 then (yi m b 0,((0:Nat):Int)) else (0,0));rw [if_pos oM]
  split
  ·rfl
  ·rw [show yi m b 0=0 by omega];rfl
 | c+1=>by rw [kP,zaX hp hb c];conv=>rhs;rw [kP]
theorem zei{m:Img}(hp:P8s m){b:List Int}(hb:b≠[])(c:Nat)(hc:c<=4): -1<=(kP m b (-1,0) c).1/\(kP m b (-1,0) c).1<=255:=by
 cases c with
 | zero=>exact (by decide:(-1:Int)<= -1/\(-1:Int)<=255)
 | succ c=>rw [zaX hp hb];have:=(vq hp b (c+1) hc).1;omega
def zR(m:Img)(bs:List (List Int))(s:Int×Int×Int):Nat->Int×Int×Int
 | 0=>s
 | i+1=>if (zR m bs s i).2.1 < (jf m (bs.getD i [])).1 then ((i:Int),jf m (bs.getD i [])) else zR m bs s i
def zy(m:Img)(bs:List (List Int)):Int×Int×Int:=zR m bs (0,0,0) bs.length
theorem vr{m:Img}(hp:P8s m)(bs:List (List Int)):∀i:Nat,zR m bs (0,-1,0) (i+1)=zR m bs (0,0,0) (i+1)
 | 0=>by
  obtain ⟨h1,h2,h3,_⟩:=vq hp (bs.getD 0 []) 4 (Nat.le_refl _);show (if (-1:Int) < (jf m (bs.getD 0 [])).1 then (((0:Nat):Int),jf m (bs.getD 0 [])) else (0,-1,0))=(if (0:Int) < (jf m (bs.getD 0 [])).1 then (((0:Nat):Int),jf m (bs.getD 0 [])) else (0,0,0));have e:jf m (bs.getD 0 [])=kP m (bs.getD 0 []) (0,0) 4:=rfl;rw [← e] at h1 h2 h3;rw [if_pos oM]
  split
  ·rfl
  ·have a1:(jf m (bs.getD 0 [])).1=0:=by omega
   have a2:=h3 a1;rw [show jf m (bs.getD 0 [])=(0,0) from Prod.ext a1 a2];rfl
 | i+1=>by rw [zR,vr hp bs i];conv=>rhs;rw [zR]
theorem uV{m:Img}(hp:P8s m)(bs:List (List Int)):∀i:Nat,(0<=(zR m bs (0,0,0) i).2.1/\(zR m bs (0,0,0) i).2.1<=255)/\(0<=(zR m bs (0,0,0) i).2.2/\(zR m bs (0,0,0) i).2.2 < 4)/\
  (0<=(zR m bs (0,0,0) i).1/\(zR m bs (0,0,0) i).1<=i)/\(0 < (zR m bs (0,0,0) i).2.1->(zR m bs (0,0,0) i).1 < i/\0 < (jf m (bs.getD (zR m bs (0,0,0) i).1.toNat [])).1)
 | 0=>⟨(by decide:(0:Int)<=0/\(0:Int)<=255),(by decide:(0:Int)<=0/\(0:Int) < 4),(by decide:(0:Int)<=0/\(0:Int)<=0),fun h=>absurd h (by show ¬(0:Int) < 0;decide)⟩
 | i+1=>by
  obtain ⟨h1,h2,h3,h4⟩:=uV hp bs i;obtain ⟨e1,e2,e3,_⟩:=vq hp (bs.getD i []) 4 (Nat.le_refl _);unfold zR
  split
  ·rename_i h;exact ⟨e1,e2,⟨by dsimp only;omega,by dsimp only;omega⟩,fun _=>⟨by dsimp only;omega,by dsimp only;rw [Int.toNat_natCast];omega⟩⟩
  ·exact ⟨h1,h2,oM,fun h=>by have:=h4 h;omega⟩
theorem zdy{m:Img}(hp:P8s m)(bs:List (List Int))(i:Nat): -1<=(zR m bs (0,-1,0) i).2.1/\(zR m bs (0,-1,0) i).2.1<=255:=by
 cases i with
 | zero=>exact (by decide:(-1:Int)<= -1/\(-1:Int)<=255)
 | succ i=>rw [vr hp];have:=(uV hp bs (i+1)).1;omega
def zdz(m:Img)(bs:List (List Int)):List (List Int):=
 let w:=zy m bs
 let s:=ke (zC m w.2.2.toNat) (bs.getD w.1.toNat [])
 bs.set w.1.toNat (s.take (s.length / 2))++[s.drop (s.length / 2)]
def vt(m:Img)(n:Nat):Nat->List (List Int)->List (List Int)
 | 0,bs=>bs
 | f+1,bs=>if bs.length < n then (if (zy m bs).2.1=0 then bs else vt m n f (zdz m bs)) else bs
def yj(m:Img):List Int:=(List.range m.px.length).map fun i:Nat=>(i:Int)
def yK(m:Img)(n:Nat):List (List Int):=vt m n n [yj m]
def un(m:Img)(bs:List (List Int)):Prop:=bs≠[]/\∀b∈bs,b≠[]/\InP m b/\b.length<=65536
theorem zdA{α:Type}{l:List α}{i:Nat}{d:α}(h:i < l.length):l.getD i d∈l:=by
 rw [List.getD_eq_getElem?_getD,List.getElem?_eq_getElem h];exact List.getElem_mem _
theorem uW{m:Img}(hp:P8s m){bs:List (List Int)}(hb:un m bs)(h:(zy m bs).2.1≠0):
  ((zy m bs).1.toNat < bs.length/\0<=(zy m bs).1)/\((zy m bs).2.2.toNat < 4/\0<=(zy m bs).2.2)/\2<=(bs.getD (zy m bs).1.toNat []).length:=by
 obtain ⟨h1,h2,h3,h4⟩:=uV hp bs bs.length;obtain ⟨h5,h6⟩:=h4 (show 0 < (zy m bs).2.1 by have h1:0<=(zy m bs).2.1/\_:=h1;omega);have h5:(zy m bs).1 < (bs.length:Int):=h5;have h3:0<=(zy m bs).1/\_:=h3;have h2:0<=(zy m bs).2.2/\(zy m bs).2.2 < 4:=h2;have h6:0 < (jf m (bs.getD (zy m bs).1.toNat [])).1:=h6;have hl:(zy m bs).1.toNat < bs.length:=oM;refine ⟨⟨hl,h3.1⟩,⟨oM,h2.1⟩,?_⟩;have hne:=(hb.2 _ (zdA (d:=[]) hl)).1
 rcases Nat.lt_or_ge (bs.getD (zy m bs).1.toNat []).length 2 with hl2 | hl2
 ·have:=(vq hp (bs.getD (zy m bs).1.toNat []) 4 (Nat.le_refl _)).2.2.2 oM hne;have e:(jf m (bs.getD (zy m bs).1.toNat [])).1=0:=this;omega
 ·exact hl2
theorem vY{m:Img}(hp:P8s m){bs:List (List Int)}(hb:un m bs)(h:(zy m bs).2.1≠0):un m (zdz m bs)/\(zdz m bs).length=bs.length+1:=by
 obtain ⟨⟨h1,_⟩,_,h3⟩:=uW hp hb h;unfold zdz;dsimp only;generalize (zy m bs).1.toNat=i at*;generalize hkey:zC m (zy m bs).2.2.toNat=key at*;have hk:jI key:=hkey ▸ qN hp _;obtain ⟨b1,b2,b3⟩:=hb.2 _ (zdA (d:=[]) h1);have hs:=jc hk (bs.getD i []);have hl:=hs.len;have hin:=b2.of hs;generalize ke key (bs.getD i [])=s at*;generalize bs.getD i []=b at*;refine ⟨⟨by simp,fun x hx=>?_⟩,by simp⟩
 rcases List.mem_append.1 hx with hx | hx
 ·rcases List.mem_or_eq_of_mem_set hx with hx | rfl
  ·exact hb.2 x hx
  ·refine ⟨fun e=>?_,fun y hy=>hin y (List.mem_of_mem_take hy),by rw [List.length_take];omega⟩;have:=congrArg List.length e;rw [List.length_take,List.length_nil] at this;omega
 ·obtain rfl:=List.mem_singleton.1 hx;refine ⟨fun e=>?_,fun y hy=>hin y (List.mem_of_mem_drop hy),by rw [List.length_drop];omega⟩;have:=congrArg List.length e;rw [List.length_drop,List.length_nil] at this;omega
theorem ze1{m:Img}(hp:P8s m)(n:Nat):∀(f:Nat) (bs:List (List Int)),un m bs->bs.length<=n->un m (vt m n f bs)/\(vt m n f bs).length<=n
 | 0,bs,h,hl=>⟨h,hl⟩
 | f+1,bs,h,hl=>by
  unfold vt
  split
  ·split
   ·exact ⟨h,hl⟩
   ·rename_i h2;obtain ⟨k1,k2⟩:=vY hp h h2;exact ze1 hp n f _ k1 oM
  ·exact ⟨h,hl⟩
theorem uX{m:Img}(hm:qr m):un m [yj m]:=by
 obtain ⟨m1,m2,m3,m4,_⟩:=hm;refine ⟨by simp,fun b hb=>?_⟩;obtain rfl:=List.mem_singleton.1 hb;have hl:(yj m).length=m.px.length:=by simp [yj]
 have hpos:0 < m.w*m.h:=Int.mul_pos oM oM;refine ⟨fun e=>?_,fun x hx=>?_,by rw [hl];omega⟩
 ·rw [e,List.length_nil] at hl;omega
 ·obtain ⟨i,hi,rfl⟩:=List.mem_map.1 hx;have:=List.mem_range.1 hi;omega
theorem zcy{m:Img}(hp:P8s m)(hm:qr m){n:Nat}(hn:1<=n):un m (yK m n)/\(yK m n).length<=n:=ze1 hp n n _ (uX hm) hn
def zI(l:List Int)(ws:List (Nat×Nat)):List (List Int):=ws.map fun w=>seg l w.1 (w.1+w.2)
def apart(ws:List (Nat×Nat)):Prop:=∀(i j:Nat) (u v:Nat×Nat),i≠j->ws[i]? =some u->ws[j]? =some v->u.1+u.2<=v.1∨v.1+v.2<=u.1
def zdB(l:List Int)(ws:List (Nat×Nat)):Prop:=apart ws/\∀w∈ws,1<=w.2/\w.1+w.2<=l.length
def uY(ws:List (Nat×Nat))(i:Nat)(u:Nat×Nat):List (Nat×Nat):=ws.set i (u.1,u.2 / 2)++[(u.1+u.2 / 2,u.2 - u.2 / 2)]
theorem uZ{l:List Int}{ws:List (Nat×Nat)}{i:Nat}{u:Nat×Nat}(h:ws[i]? =some u):(zI l ws).getD i []=seg l u.1 (u.1+u.2):=by
 unfold zI;rw [List.getD_eq_getElem?_getD,List.getElem?_map,h];rfl
theorem zgU{l l':List Int}{a b c d:Nat}{key:Int->Int}(h:qn key l l' a b)(hd:d<=l.length)(h2:d<=a∨b<=c):seg l' c d=seg l c d:=by
 refine qi (by rw [z5 hd,z5 (by rw [h.len];exact hd)]) fun i hi=>?_
 rw [z5 (by rw [h.len];exact hd)] at hi;rw [qB hi,qB hi];exact h.out _ oM
theorem zdC{key:Int->Int}(hk:jI key){l:List Int}{a b:Nat}(ha:a<=b)(hb:b<=l.length):seg (kf key l a b) a b=ke key (seg l a b):=by
 have hw:(ke key (seg l a b)).length=b - a:=by rw [jJ hk,z5 hb]
 have hlen:=(z2 hk ha hb).1.len;refine qi (by rw [hw,z5 oM]) fun i hi=>?_
 rw [z5 oM] at hi;rw [qB hi];unfold kf;rw [uU ha hb hw oM];congr 1;omega
theorem zgV{l:List Int}{a n k:Nat}(h:k<=n):(seg l a (a+n)).take k=seg l a (a+k):=by
 unfold seg;rw [List.take_take];congr 1;omega
theorem zgW{l:List Int}{a n k:Nat}(h:k<=n):(seg l a (a+n)).drop k=seg l (a+k) (a+k+(n - k)):=by
 unfold seg;rw [List.drop_take,List.drop_drop];congr 1;omega
theorem ze2{m:Img}(hp:P8s m){l:List Int}{ws:List (Nat×Nat)}(hw:zdB l ws)(hb:un m (zI l ws))(h:(zy m (zI l ws)).2.1≠0){u:Nat×Nat}(hu:ws[(zy m (zI l ws)).1.toNat]? =some u):
  2<=u.2/\zdB (kf (zC m (zy m (zI l ws)).2.2.toNat) l u.1 (u.1+u.2)) (uY ws (zy m (zI l ws)).1.toNat u)/\
   zI (kf (zC m (zy m (zI l ws)).2.2.toNat) l u.1 (u.1+u.2)) (uY ws (zy m (zI l ws)).1.toNat u)=zdz m (zI l ws):=by
 obtain ⟨_,_,h3⟩:=uW hp hb h;rw [uZ hu] at h3;obtain ⟨u1,u2⟩:=hw.2 u (List.mem_of_getElem? hu);rw [z5 u2] at h3;unfold zdz;dsimp only;rw [uZ hu];generalize (zy m (zI l ws)).1.toNat=i at*;generalize hkey:zC m (zy m (zI l ws)).2.2.toNat=key at*;have hk:jI key:=hkey ▸ qN hp _;have kp:=(z2 hk (l:=l) (a:=u.1) (b:=u.1+u.2) oM u2).1;have hsl:(ke key (seg l u.1 (u.1+u.2))).length=u.2:=by rw [jJ hk,z5 u2];omega
 have hi:=(List.getElem?_eq_some_iff.1 hu).1;refine ⟨oM,⟨?_,fun w hw'=>?_⟩,?_⟩
 ·intro p q x y hpq hx hy;unfold uY at hx hy
  have at_:∀(p:Nat) (x:Nat×Nat),(ws.set i (u.1,u.2 / 2)++[(u.1+u.2 / 2,u.2 - u.2 / 2)])[p]? =some x->(p≠i/\ws[p]? =some x/\p < ws.length)∨(p=i/\x=(u.1,u.2 / 2))∨(p=ws.length/\x=(u.1+u.2 / 2,u.2 - u.2 / 2)):=fun p x hx=>by
   rw [List.getElem?_append,List.length_set] at hx
   split at hx
   ·rename_i hl;rw [List.getElem?_set] at hx
    split at hx
    ·rename_i e;subst e;exact .inr (.inl ⟨rfl,(Option.some.inj hx).symm⟩)
    ·rename_i e;exact .inl ⟨fun e'=>e e'.symm,hx,hl⟩
   ·rename_i hl
    have:p - ws.length=0:=by
     rcases Nat.eq_zero_or_pos (p - ws.length) with e | e
     ·exact e
     ·rw [List.getElem?_eq_none (by simp;omega)] at hx;cases hx
    rw [this] at hx;exact .inr (.inr ⟨oM,(Option.some.inj hx).symm⟩)
  rcases at_ p x hx with ⟨p1,p2,p3⟩ | ⟨p1,rfl⟩ | ⟨p1,rfl⟩ <;> rcases at_ q y hy with ⟨q1,q2,q3⟩ | ⟨q1,rfl⟩ | ⟨q1,rfl⟩
  ·exact hw.1 p q x y hpq p2 q2
  ·have:=hw.1 p i x u p1 p2 hu;dsimp only;omega
  ·have:=hw.1 p i x u p1 p2 hu;dsimp only;omega
  ·have:=hw.1 q i y u q1 q2 hu;dsimp only;omega
  ·omega
  ·dsimp only;omega
  ·have:=hw.1 q i y u q1 q2 hu;dsimp only;omega
  ·dsimp only;omega
  ·omega
 ·rw [kp.len];unfold uY at hw'
  rcases List.mem_append.1 hw' with h' | h'
  ·rcases List.mem_or_eq_of_mem_set h' with h' | rfl
   ·exact hw.2 w h'
   ·dsimp only;omega
  ·obtain rfl:=List.mem_singleton.1 h';dsimp only;omega
 ·rw [hsl];unfold zI uY;rw [List.map_append,List.map_set];congr 1
  ·refine List.ext_getElem? fun p=>?_
   rw [List.getElem?_set,List.getElem?_set,List.length_map,List.length_map]
   split
   ·dsimp only;rw [← zdC hk oM u2,zgV oM]
   ·rename_i hpi;rw [List.getElem?_map,List.getElem?_map]
    cases hx:ws[p]? with
    | none=>rfl
    | some x=>
     have:=hw.1 p i x u (fun e=>hpi e.symm) hx hu;have x2:=(hw.2 x (List.mem_of_getElem? hx)).2;simp only [Option.map_some];rw [zgU kp x2 oM]
  ·show [seg _ _ _]=_;rw [← zdC hk oM u2,zgW oM]
open Go.Proofs
theorem zhy{x z:Int}(hx:0<=x/\x<=1000000000000000)(hz:R8 z): -9223372036854775808<=x+z/\x+z<=9223372036854775807:=oM
def endG(Γ:List (TypeId×TI))(rs:List ResultVar)(r:SV)(M':List (Nat×Mem))(e:Ex)(σ:St):Prop:=
 match e with
 | .exit _=>False
 | _=>∃σ',Sub σ σ'/\σ'.M=M'/\vH σ' Γ rs fun s=>LE s r
theorem zaY {P:Program} {Γ:List (TypeId×TI)} (hT:TOK P Γ) (hm:P.follows .mixedOrders=true) {f:FuncId} {fn:Func} {c:Code} {args:List SV} {M M':List (Nat×Mem)} {r:SV}
  (hf:P.funcs[f]? =some fn) (hb:fn.body=some c) (hn:(fn.name== "runtime.NumGoroutine")=false) (hle:Nat.ble args.length fn.ntmps=true)
  (h:jX P Γ c ⟨qq 0 args,M,M.length,fn.ntmps,M.length⟩ (endG Γ fn.results.toList r M')):zf P f args M r M':=by
 refine jF hT hm hf hb hn hle h (Q':=fun e σ=>(∀id,e≠.exit id)/\σ.M=M'/\vH σ Γ fn.results.toList fun s=>LE s r) (fun e σ hq=>?_) (fun e σ hq he=>?_) (fun id σ hq=>hq.1 id rfl)
 ·cases e with
  | exit id=>exact hq.elim
  | normal=>obtain ⟨σ',h1,h2,h3⟩:=hq;exact ⟨σ',h1,fun _=>by simp,h2,h3⟩
  | ret=>obtain ⟨σ',h1,h2,h3⟩:=hq;exact ⟨σ',h1,fun _=>by simp,h2,h3⟩
 ·obtain ⟨_,hM,hq⟩:=hq;obtain ⟨s,hle,h1⟩:=jE hT hq;refine ⟨s,h1,fun {E ρ a w v} hr hW hρ0 hg=>⟨ρ,?_,?_,?_⟩⟩
  ·have hs:=hr.stp;rw [hM] at hs;exact ⟨hs.os,hs.tape,hs.output,hs.size,fun b hb hn=>hs.block b hb fun h=>hn ((hW b).1 h),fun b hb=>(hs.own b hb).imp (hW b).1 id,hs.rho⟩
  ·have:=hr.mem
   rwa [hM] at this
  ·rw [hM] at hg;exact hle _ _ _ _ _ hg
theorem zhz {σ:St} (k0:Nat) {m m':Mem} (h0:zl σ.M k0=some m)
  (hm:∀(S Pm:Nat->Prop) (ρ:zd) (w:World),kL S Pm ρ w k0 m->kL S Pm ρ w k0 m'):
  Sub σ ⟨σ.L,zJ σ.M k0 m',σ.nk,σ.nt,σ.n0⟩:=by
 intro E ρ a w hr;refine ⟨ρ,?_⟩;have hkeys:(zJ σ.M k0 m').map (·.1)=σ.M.map (·.1):=qx;have hown:∀b,Own (zJ σ.M k0 m') ρ b->Own σ.M ρ b:=fun b hb=>k8 hkeys.symm hb
 have hown':∀b,Own σ.M ρ b->Own (zJ σ.M k0 m') ρ b:=fun b hb=>k8 hkeys hb
 have eo:Own (zJ σ.M k0 m') ρ=Own σ.M ρ:=funext fun b=>propext ⟨hown b,hown' b⟩
 refine ⟨hr.size,hr.defers,fun t s hl=>?_,⟨fun k1 m1 h1=>?_,kv hkeys hr.mem.keys,fun k1 m1 k2 m2 v1 v2 b h1 h2=>?_,fun b hb=>hr.mem.old b (hown b hb),hr.mem.kp,hr.mem.glO hown⟩,
  hr.fresh,?_,hr.keep,hr.low⟩
 ·show t < σ.nt/\G (fun b=>E.Keep b∨Own (zJ σ.M k0 m') ρ b) (Own (zJ σ.M k0 m') ρ) ρ w s (a.tmps.getD t undef);rw [eo];exact hr.regs t s hl
 ·show kL (fun b=>E.Keep b∨Own (zJ σ.M k0 m') ρ b) (Own (zJ σ.M k0 m') ρ) ρ w k1 m1;rw [eo]
  rcases z4 hr.mem.keys _ h1 with ⟨_,h2⟩ | h2
  ·exact hr.mem.rel k1 m1 h2
  ·cases h2
   exact hm _ _ _ _ (hr.mem.rel k0 m (zg h0))
 ·have back:∀k1 m1,(k1,m1)∈zJ σ.M k0 m'->∃m',(k1,m')∈σ.M:=fun k1 m1 h=>by
   rcases z4 hr.mem.keys _ h with ⟨_,h2⟩ | h2
   ·exact ⟨m1,h2⟩
   ·cases h2;exact ⟨_,zg h0⟩
  obtain ⟨m1',h1'⟩:=back _ _ h1;obtain ⟨m2',h2'⟩:=back _ _ h2;exact hr.mem.apart k1 m1' k2 m2' v1 v2 b h1' h2'
 ·show Stp E.W0 (Own (zJ σ.M k0 m') ρ) E.ρ0 ρ E.w0 w;rw [eo];exact hr.stp
theorem ze3{m:Img}{k:Int}{p:Pix}(h:m.px[k.toNat]? =some p):zbh m k=p:=by unfold zbh;rw [List.getD_eq_getElem?_getD,h];rfl
theorem zdD{key:Int->Int}{b:List Int}{j:Nat}{x:Int}(h:b[j]? =some x):je key (b.take (j+1))=min (je key (b.take j)) (key x):=by
 rw [List.take_add_one,h,Option.toList_some,ze0]
theorem zbP{key:Int->Int}{b:List Int}{j:Nat}{x:Int}(h:b[j]? =some x):kU key (b.take (j+1))=max (kU key (b.take j)) (key x):=by
 rw [List.take_add_one,h,Option.toList_some,zdx]
theorem qv{a b:Int}(h:a=b):some (i64 a)=some (i64 b):=by rw [h]
theorem u0{m:Img}{c:Nat}{x:Int}{p:Pix}(h:m.px[x.toNat]? =some p):zC m c x=(pL p).getD c 0:=by
 unfold zC;have e:m.px.getD x.toNat zbK=p:=by rw [List.getD_eq_getElem?_getD,h];rfl
 rw [e]
theorem ze4{m:Img}(hp:P8s m){i:Nat}{p:Pix}(h:m.px[i]? =some p):P8 p:=hp p (List.mem_of_getElem? h)
theorem zgX(m:Img)(b:List Int)(hp:P8s m)(hb:InP m b):zf Try.prog 80 [.agg (kj m),.sl zq b] [] (.tup [i64 (jf m b).1,i64 (jf m b).2]) []:=by
 refine zh tok mix Try.func80 rfl rfl rfl ?_;refine ⟨Nat,fun i=>⟨[(14,i64 (i:Int)),(6,i64 (kP m b (0,0) i).1),(7,i64 (kP m b (0,0) i).2),(1,.sl zq b),(2,.loc 0 0)],[(0,.box 28 (kj m))],1,49,0⟩,fun i=>i<=4,fun i=>4 - i,0,Nat.zero_le _,?_,?_⟩
 ·exact zo [(0,some 0)]
 intro i hi;have hi:i<=4:=hi;obtain ⟨r1,r2,_⟩:=vq hp b i hi;refine Br.mk (fun g=>?_) (fun g=>?_)
 ·have g:(i:Int) < 4:=g;have hk:=qN hp i;intro hl;have hl:b.length<=9223372036854775807:=hl;refine ⟨Nat,fun j=>⟨[(19,i64 (j:Int)),(9,i64 (je (zC m i) (b.take j))),(10,i64 (kU (zC m i) (b.take j))),(17,.sl zq b),(18,i64 (b.length:Int)),(8,i64 (i:Int)),(14,i64 (i:Int)),(6,i64 (kP m b (0,0) i).1),(7,i64 (kP m b (0,0) i).2),(1,.sl zq b),(2,.loc 0 0)],[(0,.box 28 (kj m))],1,49,0⟩,fun j=>j<=b.length,fun j=>b.length - j,0,Nat.zero_le _,?_,?_⟩
  ·exact ki [(0,some 0)] ⟨rfl,qv (by rw [List.take_zero];rfl),qv (by rw [List.take_zero];rfl),rfl,rfl,rfl,rfl,rfl,rfl,rfl,rfl,trivial⟩ ⟨rfl,trivial⟩
  intro j hj;have hj:j<=b.length:=hj;refine Br.mk (fun h=>?_) (fun h=>?_)
  ·have h:(j:Int) < (b.length:Int):=h;refine Ob.o ?_;intro x hx;have hx:b[j]? =some x:=hx;refine Ob.mk (hb.at hx) ?_;intro p hpx;have hpx:m.px[x.toNat]? =some p:=hpx;refine ze.t (zeh p i (ze4 hp hpx) oM) ?_;refine Ar.o ?_;refine ⟨j+1,by show j+1<=b.length;omega,ki [(0,some 0)] ⟨rfl,qv ?_,qv ?_,rfl,rfl,rfl,rfl,rfl,rfl,rfl,rfl,trivial⟩ ⟨rfl,trivial⟩,by dsimp only;omega⟩
   ·rw [zdD hx,u0 hpx];rfl
   ·rw [zbP hx,u0 hpx];rfl
  ·have h:¬(j:Int) < (b.length:Int):=h;obtain rfl:j=b.length:=oM;obtain ⟨k1,k2,_⟩:=zgR hk b;have e:kU (zC m i) b - je (zC m i) b=yi m b i:=rfl;have et:b.take b.length=b:=List.take_length;have e0:kU (zC m i) (b.take b.length) - je (zC m i) (b.take b.length)=yi m b i:=by rw [et];exact e
   have k1:0<=je (zC m i) (b.take b.length)/\je (zC m i) (b.take b.length)<=255:=by rw [et];exact k1
   have k2:0<=kU (zC m i) (b.take b.length)/\kU (zC m i) (b.take b.length)<=255:=by rw [et];exact k2
   refine Ar.o ?_;refine Br.mk (fun q=>?_) (fun q=>?_)
   ·have q:(kP m b (0,0) i).1 < kU (zC m i) (b.take b.length) - je (zC m i) (b.take b.length):=q;rw [e0] at q;have e2:kP m b (0,0) (i+1)=(yi m b i,(i:Int)):=if_pos q;(iterate 2 refine Ar.o ?_);exact ⟨i+1,by show i+1<=4;omega,ki [(0,some 0)] ⟨rfl,qv (by rw [e2];exact e0),qv (by rw [e2]),rfl,rfl,trivial⟩ ⟨rfl,trivial⟩,by dsimp only;omega⟩
   ·have q:¬(kP m b (0,0) i).1 < kU (zC m i) (b.take b.length) - je (zC m i) (b.take b.length):=q;rw [e0] at q;have e2:kP m b (0,0) (i+1)=kP m b (0,0) i:=if_neg q;refine Ar.o ?_;exact ⟨i+1,by show i+1<=4;omega,ki [(0,some 0)] ⟨rfl,qv (by rw [e2]),qv (by rw [e2]),rfl,rfl,trivial⟩ ⟨rfl,trivial⟩,by dsimp only;omega⟩
 ·have g:¬(i:Int) < 4:=g;obtain rfl:i=4:=oM;exact .refl
def qt(ws:List (Nat×Nat)):List (List SV):=ws.map fun w=>[.win 1 1 (w.1:Int) (w.2:Int)]
theorem qI(ws:List (Nat×Nat)):(qt ws).length=ws.length:=by simp [qt]
theorem yW{ws:List (Nat×Nat)}{i:Nat}{x:List SV}(h:(qt ws)[i]? =some x):∃u,ws[i]? =some u/\x=[.win 1 1 (u.1:Int) (u.2:Int)]:=by
 unfold qt at h;rw [List.getElem?_map] at h
 cases hu:ws[i]? with
 | none=>rw [hu] at h;cases h
 | some u=>rw [hu] at h;cases h;exact ⟨u,rfl,rfl⟩
theorem qu{tb:List (Nat×Option Nat)}(h:qR tb 1=some (some 1))(ws:List (Nat×Nat))(i:Nat)(x:List SV)(hx:(qt ws)[i]? =some x):∃x',(qt ws)[i]? =some x'/\ren.rens tb x=some x':=by
 obtain ⟨u,_,rfl⟩:=yW hx;refine ⟨_,hx,?_⟩;simp only [ren.rens,ren,h]
theorem zej(l:List Int)(a n:Nat):(l.drop a).take n=seg l a (a+n):=by unfold seg;congr 1;omega
theorem zhA{m:Img}{l:List Int}(h:InP m l)(a b:Nat):InP m (seg l a b):=fun x hx=>h x (List.mem_of_mem_drop (List.mem_of_mem_take hx))
abbrev Mws(l:List Int)(ws:List (Nat×Nat)):List (Nat×Mem):=[(0,.garr 53 1 (qt ws)),(1,.arr 3 zq 1 l)]
def wideT(w:Int×Int×Int):SV:=.tup [i64 w.1,i64 w.2.1,i64 w.2.2]
theorem zgY(m:Img)(l:List Int)(ws:List (Nat×Nat))(hp:P8s m)(hl:InP m l):zf Try.prog 73 [.agg (kj m),.own 0] (Mws l ws) (wideT (zy m (zI l ws))) (Mws l ws):=by
 refine zaY tok mix Try.func73 rfl rfl rfl ?_;intro hlen;rw [qI] at hlen ⊢;have eb:(zI l ws).length=ws.length:=by simp [zI]
 refine ⟨Nat,fun i=>⟨[(16,i64 (i:Int)),(7,i64 (zR m (zI l ws) (0,0,0) i).1),(8,i64 (zR m (zI l ws) (0,0,0) i).2.1),(9,i64 (zR m (zI l ws) (0,0,0) i).2.2),(14,.own 0),(15,i64 (ws.length:Int)),(2,.loc 2 0)],
  [(0,.garr 53 1 (qt ws)),(1,.arr 3 zq 1 l),(2,.box 28 (kj m))],3,37,2⟩,fun i=>i<=ws.length,fun i=>ws.length - i,0,Nat.zero_le _,?_,?_⟩
 ·exact kD [(0,some 0),(1,some 1),(2,some 2)] ⟨⟨_,rfl,rfl,qu rfl ws⟩,rfl,rfl,trivial⟩
 intro i hi;have hi:i<=ws.length:=hi;refine Br.mk (fun g=>?_) (fun g=>?_)
 ·have g:(i:Int) < (ws.length:Int):=g;refine Ob.mk (by rw [qI];omega) ?_;refine Ob.mk (by rw [qI];omega) ?_;intro x hx;obtain ⟨u,hu,hx⟩:=yW hx;have hu:ws[i]? =some u:=hu;rw [hx];have ce:=zgX m ((l.drop u.1).take u.2) hp (by rw [zej];exact zhA hl _ _);rw [zej,← uZ hu] at ce;have ee:(l.drop u.1).take u.2=(zI l ws).getD i []:=by rw [zej,uZ hu]
  have ce:zf Try.prog 80 [.agg (kj m),.sl zq ((l.drop u.1).take u.2)] [] _ []:=ee ▸ ce;refine ze.t ce ?_;refine Br.mk (fun q=>?_) (fun q=>?_)
  ·have q:(zR m (zI l ws) (0,0,0) i).2.1 < (jf m ((l.drop u.1).take u.2)).1:=q;rw [ee] at q;have e2:zR m (zI l ws) (0,0,0) (i+1)=((i:Int),jf m ((zI l ws).getD i [])):=if_pos q;refine Ar.o ?_;exact ⟨i+1,by show i+1<=ws.length;omega,ki [(0,some 0),(1,some 1),(2,some 2)] ⟨rfl,qv (by rw [e2]),qv (by rw [e2,ee]),qv (by rw [e2,ee]),rfl,rfl,rfl,trivial⟩ ⟨⟨_,rfl,rfl,qu rfl ws⟩,rfl,rfl,trivial⟩,by dsimp only;omega⟩
  ·have q:¬(zR m (zI l ws) (0,0,0) i).2.1 < (jf m ((l.drop u.1).take u.2)).1:=q;rw [ee] at q;have e2:zR m (zI l ws) (0,0,0) (i+1)=zR m (zI l ws) (0,0,0) i:=if_neg q;refine Ar.o ?_;exact ⟨i+1,by show i+1<=ws.length;omega,ki [(0,some 0),(1,some 1),(2,some 2)] ⟨rfl,qv (by rw [e2]),qv (by rw [e2]),qv (by rw [e2]),rfl,rfl,rfl,trivial⟩ ⟨⟨_,rfl,rfl,qu rfl ws⟩,rfl,rfl,trivial⟩,by dsimp only;omega⟩
 ·have g:¬(i:Int) < (ws.length:Int):=g;obtain rfl:i=ws.length:=oM;refine ⟨⟨[(4,i64 (zy m (zI l ws)).1),(5,i64 (zy m (zI l ws)).2.1),(6,i64 (zy m (zI l ws)).2.2)],Mws l ws,2,37,2⟩,?_,rfl,.refl⟩;unfold zy;rw [eb];exact kD [(0,some 0),(1,some 1)] ⟨⟨_,rfl,rfl,qu rfl ws⟩,rfl,trivial⟩
end Go.Gs
