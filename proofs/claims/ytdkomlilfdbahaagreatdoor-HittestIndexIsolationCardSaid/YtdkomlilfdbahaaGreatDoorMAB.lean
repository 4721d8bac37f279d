/- The conditions that an operation, a region, a piece of code leave to be shown. -/
import Derived.Test.YtdkomlilfdbahaaGreatDoorMAA
import Derived.Laws.Rows
import Derived.Laws.Tables
import Derived.RowKit3
set_option maxRecDepth 100000
set_option maxHeartbeats 80000000
set_option linter.all false
namespace Go.Gs
def zgN:Mem->Prop
 |.box _ b=>yf.flats b=true
 |.arr _ enc _ xs=>∀x∈xs,yf.flats (enc x)=true
 |.garr _ _ _=>False
 |.map c=>yf.flats (c.map (·.2))=true
def give(c:LJ)(k:Nat)(s:SV):SV:=
 match s with
 |.loc b off=>(match Nat.beq b k with
  |true=>.loc 0 off
  |false=>zkE c (.loc b off))
 |.own b=>(match Nat.beq b k with
  |true=>.own 0
  |false=>zkE c (.own b))
 |.win b sz lo n=>(match Nat.beq b k with
  |true=>.win 0 sz lo n
  |false=>zkE c (.win b sz lo n))
 |s=>zkE c s
def zvg(b:LJ)(k:Nat):LR->LR
 |[]=>[]
 |c::d=>give b k c::zvg b k d
def znm(k:Nat):LR->Bool
 |[]=>true
 |.loc b _::r=>(match Nat.beq b k with
  |true=>false
  |false=>znm k r)
 |_::r=>znm k r
def zcd(b:LJ)(k:Nat):LR->Bool
 |[]=>true
 |.loc c off::r=>(match Nat.beq c k with
  |true=>zcd b k r
  |false=>yp (uC b [.loc c off]) (zcd b k r))
 |.own c::r=>(match Nat.beq c k with
  |true=>zcd b k r
  |false=>false)
 |.win c _ _ _::r=>(match Nat.beq c k with
  |true=>zcd b k r
  |false=>false)
 |.fn f d::r=>yp (znm k d) (yp (uC b [.fn f d]) (zcd b k r))
 |s::r=>yp (uC b [s]) (zcd b k r)
def zj4:Mem->Prop
 |.box _ b=>uD.scalars b=true
 |.arr _ enc _ xs=>∀x∈xs,uD.scalars (enc x)=true
 |.garr _ _ _=>False
 |.map c=>uD.scalars (c.map (·.2))=true
def mv(Y:Nat):SV->SV
 |.own _=>.own Y
 |.loc _ off=>.loc Y off
 |.agg b=>.agg (mvs Y b)
 |.tup b=>.tup (mvs Y b)
 |.fn f b=>.fn f (mvs Y b)
 |.ifc t s=>.ifc t (mv Y s)
 |s=>s
 where
 mvs (Y:Nat):LR->LR
  |[]=>[]
  |c::b=>mv Y c::mvs Y b
def zbn:SV->Bool
 |.own k=>Nat.beq k 0
 |.loc k _=>Nat.beq k 0
 |.val _=>true
 |.pr _ _=>true
 |.junk=>true
 |.agg b=>mvOKs b
 |.tup b=>mvOKs b
 |.fn _ b=>mvOKs b
 |.ifc _ s=>zbn s
 |_=>false
 where
 mvOKs:LR->Bool
  |[]=>true
  |c::b=>match zbn c with
   |true=>mvOKs b
   |false=>false
def zzn:Option Mem->Bool
 |some (.arr _ _ _ _)=>true
 |_=>false
def zzo(b:LJ)(k:Nat):LR->Bool
 |[]=>true
 |.own c::r=>(match Nat.beq c k with
  |true=>zzo b k r
  |false=>false)
 |s::r=>yp (uC b [s]) (zzo b k r)
def LE(s r:SV):Prop:=∀S Pm Z w v,G S Pm Z w s v->G S Pm Z w r v
inductive LEs:LR->LR->Prop
 |nil:LEs [] []
 |cons {a b:SV} {za bs:LR} (h:LE a b) (t:LEs za bs):LEs (a::za) (b::bs)
def rn(ks:LC)(Y j:Nat):Nat:=
 match ks[j]? with
 |some k=>k
 |none=>Y+(j-ks.length)
def vr(ks:LC)(Y:Nat):SV->SV
 |.loc k off=>.loc (rn ks Y k) off
 |.own k=>.own (rn ks Y k)
 |.eloc k sz i off=>.eloc (rn ks Y k) sz i off
 |.win k sz lo n=>.win (rn ks Y k) sz lo n
 |.agg b=>.agg (rens ks Y b)
 |.tup b=>.tup (rens ks Y b)
 |.fn f b=>.fn f (rens ks Y b)
 |.ifc t s=>.ifc t (vr ks Y s)
 |s=>s
 where
 rens (ks:LC) (Y:Nat):LR->LR
  |[]=>[]
  |c::b=>vr ks Y c::rens ks Y b
def uf(n:Nat):SV->Bool
 |.loc k _=>Nat.blt k n
 |.own k=>Nat.blt k n
 |.eloc k _ _ _=>Nat.blt k n
 |.win k _ _ _=>Nat.blt k n
 |.agg b=>lows n b
 |.tup b=>lows n b
 |.fn _ b=>lows n b
 |.ifc _ s=>uf n s
 |_=>true
 where
 lows (n:Nat):LR->Bool
  |[]=>true
  |c::b=>match uf n c with
   |true=>lows n b
   |false=>false
def za4(n:Nat):SV->Bool
 |.loc k _=>Nat.blt k n
 |.own k=>Nat.blt k n
 |.eloc k _ _ _=>Nat.blt k n
 |.win k _ _ _=>Nat.blt k n
 |.ptr _=>false
 |.agg b=>outs n b
 |.tup b=>outs n b
 |.fn _ b=>outs n b
 |.ifc _ s=>za4 n s
 |_=>true
 where
 outs (n:Nat):LR->Bool
  |[]=>true
  |c::b=>match za4 n c with
   |true=>outs n b
   |false=>false
def zig(ks:LC)(Y:Nat):Mem->Mem
 |.box T b=>.box T (vr.rens ks Y b)
 |.garr T sz xs=>.garr T sz (xs.map (vr.rens ks Y))
 |m=>m
def yA(ks:LC)(Y:Nat):LT->LT
 |[]=>[]
 |(j,m)::r=>(rn ks Y j,zig ks Y m)::yA ks Y r
def zqM(n:Nat):Mem->Prop
 |.box _ b=>uf.lows n b=true
 |.garr _ _ xs=>∀x∈xs,uf.lows n x=true
 |_=>True
def zxk(n:Nat):Mem->Prop
 |.box _ b=>za4.outs n b=true
 |.garr _ _ xs=>∀x∈xs,za4.outs n x=true
 |_=>True
def zeY(c:LJ)(b:LC)(Y:Nat)(Mc:LT):Nat->LC->Prop
 |_,[]=>True
 |i,k::r=>(∃m,zO Mc i=some m/\c k=some (zig b Y m)/\zqM b.length m)/\zeY c b Y Mc (i+1) r
def zih(n:Nat):LT->Prop
 |[]=>True
 |(j,m)::r=>(Nat.blt j n=true/\zxk n m)/\zih n r
def zm3(k:Nat):LC->Bool
 |[]=>false
 |x::r=>match Nat.beq x k with
  |true=>true
  |false=>zm3 k r
def v7:LC->Bool
 |[]=>true
 |x::r=>match zm3 x r with
  |true=>false
  |false=>v7 r
def zjs(n:Nat):LT->Bool
 |[]=>true
 |(k,_)::r=>yp (Nat.blt k n) (zjs n r)
def zqN(k:Nat):LT->Bool
 |[]=>false
 |(q,_)::r=>match Nat.beq q k with
  |true=>true
  |false=>zqN k r
def zdU:LT->Bool
 |[]=>true
 |(k,_)::r=>match zqN k r with
  |true=>false
  |false=>zdU r
def ztH(ks:LC)(Y nn:Nat):LT->Bool
 |[]=>true
 |(k,_)::r=>yp (zm3 k ks||(Nat.ble Y k&&Nat.blt k (Y+nn))) (ztH ks Y nn r)
def zf9(k:Nat):LT->Bool
 |[]=>false
 |(q,_)::r=>match Nat.beq q k with
  |true=>true
  |false=>zf9 k r
def zga(new:LT)(Y:Nat):Nat->Bool
 |0=>true
 |n+1=>yp (zf9 (Y+n) new) (zga new Y n)
def zgO(l:LR):(LR->Prop)->Prop:=
 List.rec (motive:=λ_=>(LR->Prop)->Prop) (λK=>K []) (λc _ b K=>vv c λc=>b λr=>K (c::r)) l
def zj5(m:Mem)(K:Mem->Prop):Prop:=
 match m with
 |.box T b=>zgO b λb=>K (.box T b)
 |.arr T enc sz xs=>K (.arr T enc sz xs)
 |.garr T sz xs=>K (.garr T sz xs)
 |.map c=>K (.map c)
def zqO(n:Nat):LI->Prop:=
 Nat.rec (motive:=λ_=>LI->Prop) (λK=>K 0) (λ_ b K=>b λm=>K (m+1)) n
def zgP(l:LT):(LT->Prop)->Prop:=
 List.rec (motive:=λ_=>(LT->Prop)->Prop) (λK=>K []) (λx _ b K=>zqO x.1 λk=>zj5 x.2 λm=>b λr=>K ((k,m)::r)) l
def zzp(b:LJ):LT->Prop
 |[]=>True
 |(k,m)::r=>b k=some m/\zzp b r
inductive zb (P:Program) (lm:LJ) (Y:Nat) (f:FuncId) (args:LR) (K:LD):Prop
 |to (r:SV) (h:kL P f (zdF lm args) [] r []) (hr:zvf lm args r=true) (k:vv r λr=>K r .none)
 |fresh (m:Mem) (r:SV) (h:kL P f (zdF lm args) [] r [(0,m)]) (hr:zbn r=true) (hm:zgN m) (hc:uC lm args=true∨zj4 m) (k:vv (mv Y r) λr=>K r (.push m))
 |see (k:Nat) (r:SV) (h:kL P f (zdF lm args) [] r []) (hk:zzn (lm k)=true) (hc:zzo lm k args=true) (hr:zkC r=true) (kk:vv r λr=>K r (.drop k))
 |hand (k:Nat) (m m':Mem) (r:SV) (hk:lm k=some m) (h:kL P f (zvg lm k args) [(0,m)] r [(0,m')])
   (hm:zgN m) (hm':zgN m') (hc:zcd lm k args=true) (hr:zkC r=true) (k:vv r λr=>K r (.set k m'))
 |give (ks:LC) (nn:Nat) (args':LR) (Mc M':LT) (r:SV) (h:kL P f args' Mc r M') (ha:LEs args (vr.rens ks Y args')) (hl:uf.lows ks.length args'=true)
   (hn:v7 ks=true) (hk:yp (Nat.beq Mc.length ks.length) (yp (zjs ks.length Mc) (zdU Mc))=true) (hM:zeY lm ks Y Mc 0 ks) (hr:za4 (ks.length+nn) r=true) (hM':zih (ks.length+nn) M')
   (k:zgP (yA ks Y M') λnew=>vv (vr ks Y r) λr=>K r (.give ks new nn))
 |lend (ks:LC) (args':LR) (Mc:LT) (r:SV) (h:kL P f args' Mc r Mc) (ha:LEs args (vr.rens ks Y args')) (hl:uf.lows ks.length args'=true)
   (hn:v7 ks=true) (hk:yp (Nat.beq Mc.length ks.length) (yp (zjs ks.length Mc) (zdU Mc))=true) (hM:zeY lm ks Y Mc 0 ks) (hr:za4 (ks.length+0) r=true) (hM':zih (ks.length+0) Mc)
   (hc:(yA ks Y Mc).map (·.1)=ks) (hs:zzp lm (yA ks Y Mc)) (k:vv (vr ks Y r) λr=>K r .none)
def wg{P:Program}{b:LJ}{Y:Nat}{f:FuncId}{args:LR}{K:LD}{r:SV}(h:kL P f (zdF b args) [] r [])(k:vv r λr=>K r .none)(c:zvf b args r=true:=by rfl):zb P b Y f args K:=.to r h c k
def znn(s:SV):Bool:=
 match s with
 |.val v=>(match v with
  |.agg _=>false
  |.tuple _=>false
  |_=>true)
 |.agg _=>false
 |.tup _=>false
 |.junk=>false
 |_=>true
def yc:LR->Bool
 |[]=>true
 |c::b=>match znn c with
  |true=>yc b
  |false=>false
def jK(o:Option Operand)(l:LR)(dflt:Int)(K:Int->LR->Prop):Prop:=
 match o with
 |none=>K dflt l
 |some _=>match l with
  |.val (.int _ n)::r=>K n r
  |_=>False
def fstO(p:Option (Nat×Nat)):Nat:=
 match p with
 |some (a,_)=>a
 |none=>0
def zcZ(pl:Nat->Option (Nat×Nat)):LC->LR->LR->LR
 |i::r,s::l,b=>zcZ pl r l (vw b (fstO (pl i)) (kT s))
 |_,_,b=>b
def zce(pl:Nat->Option (Nat×Nat))(n:Nat):LC->LR->Bool
 |i::r,s::l=>(match pl i with
  |some (off,sz)=>yp (Nat.beq (kT s).length sz) (yp (Nat.ble (off+sz) n) (yp (yc (kT s)) (zce pl n r l)))
  |none=>false)
 |[],[]=>true
 |_,_=>false
def zkG(I:LS)(fs:LM)(i:Nat):Option (Nat×Nat):=
 match zqK fs i with
 |some (off,ft)=>(match ti I ft with
  |some j=>some (off,j.sz)
  |none=>none)
 |none=>none
def zaL(sz i:Nat):Option (Nat×Nat):=some (i*sz,sz)
def rep{α:Type 1}(n:Nat)(b:List α):List α:=
 match n with
 |0=>[]
 |n+1=>b++rep n b
def zfJ{α:Type _}(enc:α->LR)(xs:List α):LR:=
 match xs with
 |[]=>[]
 |x::xs=>enc x++zfJ enc xs
def zFH(b:LJ)(s:SV)(K:Int->Prop):Prop:=
 match s with
 |.sl _ xs=>xs.length<=9223372036854775807->K xs.length
 |.own k=>(match b k with
  |some (.arr _ _ _ xs)=>xs.length<=281474976710656->K xs.length
  |some (.garr _ _ xs)=>xs.length<=281474976710656->K xs.length
  |_=>False)
 |.val (.slice none 0 0)=>K 0
 |.nils=>K 0
 |.win _ _ _ n=>Ob (0<=n) (K n)
 |_=>False
def zm4(s:LR)(K:IntKind->LV->Prop):Prop:=
 match s with
 |.val (.int k m)::r=>(match r with
  |[]=>K k [m]
  |_=>zm4 r λ_ l=>K k (m::l))
 |_=>False
def zcf:Int->LV->Int
 |x,[]=>x
 |x,y::r=>zcf (min x y) r
def zdN:Int->LV->Int
 |x,[]=>x
 |x,y::r=>zdN (max x y) r
def zdV{α:Type}(b:LJ)(s:SV)(enc:α->LR)(ys:List α):Prop:=
 match s with
 |.val (.slice none 0 0)=>ys=[]
 |.own k=>zjr b (.own k)=.sl enc ys
 |s=>s=.sl enc ys
inductive Sl (p q:Prop) (r:Prop:=False):Prop
 |see (h:p)
 |keep (h:q)
 |win (h:r)
def zj6(I:LS)(tys:List TypeId)(s x:SV)(b:LJ)(Y:Nat)(K:LD):Prop:=
 match tys with
 |[t,d]=>zS (Nat.beq t d) (qa I t λi=>(match i.kind with
  |.slice e=>qa I e λj=>(match s with
   |.val (.slice none 0 0)=>∃(α:Type) (enc:α->LR) (ys:List α),zdV b x enc ys/\
     Ob ((ys.length:Int)*j.bytes<=140737488355328/\ys.length<=281474976710656/\0<j.sz/\∀x∈ys,(enc x).length=j.sz) (K (.own Y) (.push (.arr e enc j.sz ys)))
   |.own k=>(match b k with
    |some (.arr c enc sz xs)=>zS (Nat.beq e c) (zS (Nat.beq sz j.sz) (∃ys,zdV b x enc ys/\
     Ob ((xs.length+ys.length:Int)*j.bytes<=140737488355328/\xs.length+ys.length<=281474976710656/\0<j.sz/\∀x∈ys,(enc x).length=j.sz)
      (K (.own Y) (.repl k (.arr e enc sz (xs++ys))))))
    |some (.garr c sz xs)=>zS (Nat.beq e c) (zS (Nat.beq sz j.sz) (∃(α:Type) (enc:α->LR) (ys:List α),zdV b x enc ys/\
     Ob ((xs.length+ys.length:Int)*j.bytes<=140737488355328/\xs.length+ys.length<=281474976710656/\0<j.sz/\∀x∈ys,(enc x).length=j.sz)
      (K (.own Y) (.repl k (.garr e sz (xs++ys.map enc))))))
    |_=>False)
   |.full enc xs=>∃ys,zdV b x enc ys/\
     Ob (ys≠[]/\(xs.length+ys.length:Int)*j.bytes<=140737488355328/\xs.length+ys.length<=281474976710656/\0<j.sz/\(∀x∈xs,(enc x).length=j.sz)/\∀x∈ys,(enc x).length=j.sz)
      (K (.own Y) (.push (.arr e enc j.sz (xs++ys))))
   |.nils=>Sl (∃(α:Type) (enc:α->LR) (ys:List α),zdV b x enc ys/\
     Ob (ys≠[]/\(ys.length:Int)*j.bytes<=140737488355328/\ys.length<=281474976710656/\0<j.sz/\∀x∈ys,(enc x).length=j.sz) (K (.own Y) (.push (.arr e enc j.sz ys))))
     (∃(α:Type) (enc:α->LR),zdV b x enc ([]:List α)/\0<j.sz/\K .nils .none)
   |_=>False)
  |_=>False))
 |_=>False
def zkH(I:LS)(tys:List TypeId)(s:SV)(c:TypeId)(b:Nat)(ys:LN)(d:LJ)(Y:Nat)(K:LD):Prop:=
 match tys with
 |[t,f]=>zS (Nat.beq t f) (qa I t λi=>(match i.kind with
  |.slice e=>qa I e λj=>zS (Nat.beq e c) (zS (Nat.beq b j.sz) (match s with
   |.val (.slice none 0 0)=>Ob ((ys.length:Int)*j.bytes<=140737488355328/\ys.length<=281474976710656/\0<j.sz) (K (.own Y) (.push (.garr e j.sz ys)))
   |.own k=>(match d k with
    |some (.garr e'' sz xs)=>zS (Nat.beq e e'') (zS (Nat.beq sz j.sz)
      (Ob ((xs.length+ys.length:Int)*j.bytes<=140737488355328/\xs.length+ys.length<=281474976710656/\0<j.sz) (K (.own Y) (.repl k (.garr e sz (xs++ys))))))
    |_=>False)
   |_=>False))
  |_=>False))
 |_=>False
def zvh(I:LS)(tys:List TypeId)(s:SV)(n:Int)(Y:Nat)(K:LD):Prop:=
 match tys,s with
 |[t,c],.val (.slice none 0 0)=>qa I t λi=>qa I c λb=>(match i.kind,b.kind with
  |.slice e,.int _=>qa I e λj=>∃(α:Type) (enc:α->LR) (z:α),
    enc z=vals j.zero/\Ob (0<j.sz/\0<n/\n*j.bytes<=140737488355328/\n<=281474976710656) (K (.own Y) (.push (.arr e enc j.sz (List.replicate n.toNat z))))
  |_,_=>False)
 |_,_=>False
def zkI(I:LS)(b:Builtin)(tys:List TypeId)(args:LR)(f:LJ)(Y:Nat)(K:LD):Prop:=
 match b,args with
 |.len,[s]=>(match tys with
  |[t]=>qa I t λi=>(match i.kind with
   |.slice _=>zFH f s λn=>K (.val (.int .i64 n)) .none
   |_=>False)
  |_=>False)
 |.cap,[s]=>(match tys with
  |[t]=>qa I t λi=>(match i.kind with
   |.slice _=>(match s with
    |.val (.slice none 0 0)=>K (.val (.int .i64 0)) .none
    |.nils=>K (.val (.int .i64 0)) .none
    |_=>False)
   |_=>False)
  |_=>False)
 |.min,s=>zm4 s λk l=>(match l with
  |x::r=>K (.val (.int k (zcf x r))) .none
  |[]=>False)
 |.max,s=>zm4 s λk l=>(match l with
  |x::r=>K (.val (.int k (zdN x r))) .none
  |[]=>False)
 |.append,[s,x]=>(match x with
  |.val (.int _ n)=>zvh I tys s n Y K
  |.own g=>(match f g with
   |some (.garr h c ys)=>zkH I tys s h c ys f Y K
   |_=>zj6 I tys s (.own g) f Y K)
  |x=>zj6 I tys s x f Y K)
 |.clear,[d]=>(match tys with
  |[t]=>qa I t λi=>(match i.kind with
   |.slice e=>qa I e λj=>(match d with
    |.win k c lo n=>(match f k with
     |some (.arr T (α:=α) enc sz xs)=>zS (Nat.beq sz j.sz) (zS (Nat.beq c sz) (∃z:α,enc z=vals j.zero/\
       Ob (0<=lo/\0<n/\lo+n<=xs.length) (K (.val (.tuple #[])) (.set k (.arr T enc sz (xs.take lo.toNat++(List.replicate n.toNat z++xs.drop (lo.toNat+n.toNat))))))))
     |_=>False)
    |_=>False)
   |_=>False)
  |_=>False)
 |_,_=>False
def zzq(I:LS)(t:TypeId)(s:SV)(d:LJ)(K:LD):Prop:=
 qa I t λi=>(match s with
  |.loc k off=>(match d k with
   |some (.box _ b)=>zS (Nat.ble (off+i.sz) b.length) (mkV i.kind.agg i.sz (b.drop off) λs=>K s .none)
   |_=>False)
  |.ptr b=>zS (Nat.ble i.sz b.length) (mkV i.kind.agg i.sz b λs=>K s .none)
  |.dptr b=>zS (Nat.ble i.sz b.length) (mkV i.kind.agg i.sz b λs=>K s .none)
  |.eloc k sz n off=>(match d k with
   |some (.arr _ enc c xs)=>zS (Nat.beq sz c) (zS (Nat.ble (off+i.sz) sz) (Ob (0<=n/\n<xs.length) (∀x,xs[n.toNat]?=some x->
     mkV i.kind.agg i.sz ((enc x).drop off) λs=>K s .none)))
   |some (.garr _ c xs)=>zS (Nat.beq sz c) (zS (Nat.ble (off+i.sz) sz) (Ob (0<=n/\n<xs.length) (∀x,xs[n.toNat]?=some x->
     mkV i.kind.agg i.sz (x.drop off) λs=>K s .none)))
   |_=>False)
  |_=>False)
def ztI(I:LS)(t:TypeId)(s v:SV)(d:LJ)(K:LD):Prop:=
 qa I t λi=>zS (yc (kT v)) (zS (Nat.beq (kT v).length i.sz) (match s with
  |.loc k off=>(match d k with
   |some (.box T c)=>zS (Nat.ble (off+i.sz) c.length) (K (.val undef) (.set k (.box T (vw c off (kT v)))))
   |_=>False)
  |.eloc k sz n off=>(match d k with
   |some (.arr T (α:=α) enc b xs)=>zS (Nat.beq sz b) (zS (Nat.ble (off+i.sz) sz) (match yf.flats (kT v) with
    |true=>(Ob (0<=n/\n<xs.length) (∀x,xs[n.toNat]?=some x->
     ∃x':α,enc x'=vw (enc x) off (kT v)/\K (.val undef) (.set k (.arr T enc sz (xs.set n.toNat x')))))
    |false=>(Ob (0<=n/\n<xs.length) (∀x,xs[n.toNat]?=some x->
     K (.val undef) (.set k (.garr T sz ((xs.map enc).set n.toNat (vw (enc x) off (kT v)))))))))
   |some (.garr T b xs)=>zS (Nat.beq sz b) (zS (Nat.ble (off+i.sz) sz) (Ob (0<=n/\n<xs.length) (∀x,xs[n.toNat]?=some x->
     K (.val undef) (.set k (.garr T sz (xs.set n.toNat (vw x off (kT v))))))))
   |_=>False)
  |_=>False))
def zzr(hi mx:Option Operand):Bool:=
 match mx,hi with
 |some _,none=>false
 |_,_=>true
def zzs:Option Operand->Bool
 |some (.const (.int _ n))=>(match n with
  |.ofNat m=>Nat.beq m 0
  |_=>false)
 |_=>false
inductive zzt (p q:Prop):Prop
 |sl (h:p)
 |full (h:q)
def zcg:Option Operand->Bool
 |none=>true
 |_=>false
def ztJ(I:LS)(t:TypeId)(lo hi mx:Option Operand)(c:LR)(d:LJ)(Y:Nat)(K:LD):Prop:=
 zS (zzr hi mx) (match c with
 |s::rest=>qa I t λi=>(match i.kind with
  |.slice e=>qa I e λj=>(match s with
   |.sl enc xs=>(match yp (zzs hi) (zzs mx) with
    |true=>jK lo rest 0 λl rest=>jK hi rest 0 λh rest=>jK mx rest 0 λm _=>Ob (l=0/\h=0/\m=0) (K .nils .none)
    |false=>jK lo rest 0 λl rest=>jK hi rest xs.length λh rest=>jK mx rest xs.length λm _=>(match zcg mx with
     |true=>Ob ((0<=l/\l<=h/\h<=m/\m<=xs.length)/\∀x∈xs,(enc x).length=j.sz) (K (.sl enc ((xs.drop l.toNat).take (h-l).toNat)) .none)
     |false=>zzt (Ob ((0<=l/\l<=h/\h<=m/\m<=xs.length)/\∀x∈xs,(enc x).length=j.sz) (K (.sl enc ((xs.drop l.toNat).take (h-l).toNat)) .none))
      (Ob ((0<=l/\l<=h/\h=m/\m<=xs.length)/\∀x∈xs,(enc x).length=j.sz) (K (.full enc ((xs.drop l.toNat).take (h-l).toNat)) .none))))
   |.val (.slice none 0 0)=>jK lo rest 0 λl rest=>jK hi rest 0 λh rest=>jK mx rest 0 λm _=>Ob (l=0/\h=0/\m=0) (K (.val (.slice none 0 0)) .none)
   |.own k=>(match d k with
    |some (.arr T enc sz xs)=>zS (Nat.beq sz j.sz) (jK lo rest 0 λl rest=>jK hi rest xs.length λh rest=>jK mx rest xs.length λm _=>
     Sl (Ob (0<=l/\l<=h/\h<=m/\m<=xs.length) (K (.sl enc ((xs.drop l.toNat).take (h-l).toNat)) (.drop k)))
      (zS (zcg mx) (Ob (l=0/\0<=h/\h<=xs.length) (K (.own Y) (.repl k (.arr T enc sz (xs.take h.toNat))))))
      (Ob (0<=l/\l<h/\h<=m/\m<=xs.length) (K (.win k sz l (h-l)) .none)))
    |some (.garr T sz xs)=>zS (Nat.beq sz j.sz) (zS (zcg mx) (jK lo rest 0 λl rest=>jK hi rest xs.length λh _=>
      (Ob (l=0/\0<=h/\h<=xs.length) (K (.own Y) (.repl k (.garr T sz (xs.take h.toNat)))))))
    |_=>False)
   |.win k sz b n=>zS (Nat.beq sz j.sz) (jK lo rest 0 λl rest=>jK hi rest n λh rest=>jK mx rest n λm _=>
     Ob (0<=b/\0<=l/\l<h/\h<=m/\m<=n) (K (.win k sz (b+l) (h-l)) .none))
   |_=>False)
  |_=>False)
 |[]=>False)
def zno(I:LS)(t:TypeId)(lo hi mx:Option Operand)(b:LR)(K:LD):Prop:=
 zS (yp (zcg lo) (yp (zcg hi) (zcg mx))) (qa I t λi=>(match i.kind with
  |.arr n e=>qa I e λj=>∃(α:Type) (enc:α->LR) (xs:List α),zfJ enc xs=b/\
    Ob (xs.length=n/\n<=281474976710656/\∀x∈xs,(enc x).length=j.sz) (K (.sl enc xs) .none)
  |_=>False))
def zo9(I:LS)(t:TypeId)(lo hi mx:Option Operand)(b:LR)(d:LJ)(Y:Nat)(K:LD):Prop:=
 match b with
 |[.dptr c]=>zno I t lo hi mx c K
 |b=>ztJ I t lo hi mx b d Y K
inductive zgQ (p q:Prop):Prop
 |own (h:p)
 |data (h:q)
def boxV(I:LS)(e:TypeId)(s:SV)(Y:Nat)(K:LD):Prop:=
 zS (yc (kT s)) (match ti I e with
  |some i=>(match i.kind with
   |.arr _ _=>(match yf.flats (kT s) with
    |true=>zgQ (K (.loc Y 0) (.push (.box e (kT s)))) (K (.dptr (kT s)) .none)
    |false=>K (.loc Y 0) (.push (.box e (kT s))))
   |_=>K (.loc Y 0) (.push (.box e (kT s))))
  |none=>K (.loc Y 0) (.push (.box e (kT s))))
def zgb(I:LS)(t:TypeId)(f:Nat)(s:SV)(K:LD):Prop:=
 qa I t λi=>(match i.kind with
  |.struct fs=>(match zqK fs f with
   |some (off,ft)=>qa I ft λj=>zS (Nat.blt 0 j.sz) (match s with
    |.loc k o'=>K (.loc k (o'+off)) .none
    |.ptr b=>K (.ptr (b.drop off)) .none
    |.dptr b=>K (.dptr (b.drop off)) .none
    |.eloc k sz i o'=>K (.eloc k sz i (o'+off)) .none
    |_=>False)
   |none=>False)
  |_=>False)
def zgc(I:LS)(t:TypeId)(s n:SV)(d:LJ)(K:LD):Prop:=
 qa I t λi=>(match n with
  |.val (.int _ n)=>(match i.kind with
   |.slice e=>qa I e λj=>(match s with
    |.sl enc xs=>Ob (0<=n/\n<xs.length) (∀x,xs[n.toNat]?=some x->zS (Nat.beq (enc x).length j.sz) (K (.ptr (enc x)) .none))
    |.own k=>(match d k with
     |some (.arr _ _ sz xs)=>zS (Nat.beq sz j.sz) (Ob (0<=n/\n<xs.length) (K (.eloc k sz n 0) .none))
     |some (.garr _ sz xs)=>zS (Nat.beq sz j.sz) (Ob (0<=n/\n<xs.length) (K (.eloc k sz n 0) .none))
     |_=>False)
    |.win k sz lo l=>zS (Nat.beq sz j.sz) (Ob (0<=lo/\0<=n/\n<l) (K (.eloc k sz (lo+n) 0) .none))
    |_=>False)
   |.arr len e=>qa I e λj=>(match n with
    |.ofNat m=>zS (Nat.blt m len) (match s with
     |.loc k off=>K (.loc k (off+m*j.sz)) .none
     |.ptr b=>K (.ptr (b.drop (m*j.sz))) .none
     |.dptr b=>K (.dptr (b.drop (m*j.sz))) .none
     |.eloc k sz c o'=>K (.eloc k sz c (o'+m*j.sz)) .none
     |_=>False)
    |_=>False)
   |_=>False)
  |_=>False)
def ztK(I:LS)(t:TypeId)(s n:SV)(K:LD):Prop:=
 qa I t λi=>(match i.kind,s,n with
  |.arr len e,.agg c,.val (.int _ n)=>qa I e λj=>(match n with
   |.ofNat m=>zS (Nat.blt m len) (zS (Nat.ble (m*j.sz+j.sz) c.length) (mkV j.kind.agg j.sz (c.drop (m*j.sz)) λs=>K s .none))
   |_=>False)
  |.str,.val (.string s),.val (.int _ n)=>Ob (0<=n/\n<s.size) (∀b:UInt8,s[n.toNat]?=some b->K (.val (.int .u8 b.toNat)) .none)
  |_,_,_=>False)
def ztL(I:LS)(t:TypeId)(ids:LC)(b:LR)(K:LD):Prop:=
 qa I t λi=>(match i.kind with
  |.struct fs=>zS (zce (zkG I fs) i.sz ids b) (K (.agg (zcZ (zkG I fs) ids b (vals i.zero))) .none)
  |.arr _ e=>qa I e λj=>zS (zce (zaL j.sz) i.sz ids b) (K (.agg (zcZ (zaL j.sz) ids b (vals i.zero))) .none)
  |_=>False)
def zGs:SV->Bool
 |.loc _ _=>false
 |.own _=>false
 |.eloc _ _ _ _=>false
 |.win _ _ _ _=>false
 |.ptr _=>false
 |.agg b=>yf.flats b
 |_=>true
def selB:LR->Bool
 |[]=>true
 |s::r=>match zGs s with
  |true=>selB r
  |false=>false
def zdW(I:LS)(t:TypeId)(n:Nat)(ids:LC)(b:LR)(Y:Nat)(K:LD):Prop:=
 qa I t λi=>(match i.kind with
  |.slice e=>qa I e λj=>zS (zce (zaL j.sz) (n*j.sz) ids b) (match selB b with
    |true=>(∃(α:Type) (enc:α->LR) (xs:List α),
     zfJ enc xs=zcZ (zaL j.sz) ids b (rep n (vals j.zero))/\
     Ob (xs.length=n/\n<=281474976710656/\n*j.sz<=16777216/\0<j.sz/\∀x∈xs,(enc x).length=j.sz/\yc (enc x)=true/\yf.flats (enc x)=true) (K (.own Y) (.push (.arr e enc j.sz xs))))
    |false=>zS (yc (zcZ (zaL j.sz) ids b (rep n (vals j.zero)))) (∃(xs:LN),
     zfJ id xs=zcZ (zaL j.sz) ids b (rep n (vals j.zero))/\
     Ob (xs.length=n/\n<=281474976710656/\n*j.sz<=16777216/\0<j.sz/\∀x∈xs,x.length=j.sz) (K (.own Y) (.push (.garr e j.sz xs)))))
  |_=>False)
def zgd(I:LS)(t:TypeId)(l c:SV)(Y:Nat)(K:LD):Prop:=
 qa I t λi=>(match i.kind,l,c with
  |.slice e,.val (.int _ n),.val (.int _ m)=>qa I e λj=>∃(α:Type) (enc:α->LR) (z:α),
    enc z=vals j.zero/\Ob (0<j.sz/\0<=n/\n<=m/\m*j.bytes<=281474976710656/\m<=281474976710656) (K (.own Y) (.push (.arr e enc j.sz (List.replicate n.toNat z))))
  |_,_,_=>False)
def zzu(c a b:SV)(K:LD):Prop:=
 match c with
 |.val (.bool true)=>K a .none
 |.val (.bool false)=>K b .none
 |.pr p _=>Br (p->K a .none) (¬p->K b .none)
 |_=>False
def unV(op:UnOp)(s:SV)(K:LD):Prop:=
 match op,s with
 |.not,.val (.bool true)=>K (.val (.bool false)) .none
 |.not,.val (.bool false)=>K (.val (.bool true)) .none
 |.not,.pr p i=>K (.pr (¬p) (@instDecidableNot _ i)) .none
 |.neg,.val (.int k n)=>zm2 k (- n) λs=>K s .none
 |_,_=>False
def uK:Option Operand->List Operand
 |none=>[]
 |some x=>[x]
def zeZ:Callee->List Operand
 |.value f=>[f]
 |.invoke r _=>[r]
 |.builtin _=>[]
def qm:Op->List Operand
 |.move x=>[x]
 |.assign x=>[x]
 |.pick c a b=>[c,a,b]
 |.box _ x=>[x]
 |.build _ d=>d.toList.map (·.2)
 |.buildSlice _ _ d=>d.toList.map (·.2)
 |.load _ a=>[a]
 |.store _ a x=>[a,x]
 |.nilCheck x=>[x]
 |.binOp _ _ x y _=>[x,y]
 |.unOp _ _ x=>[x]
 |.convert _ _ x=>[x]
 |.makeFunc _ first caps=>first.toList++caps.toList
 |.makeSlice _ l c=>[l,c]
 |.makeInterface _ x=>[x]
 |.typeAssert x _ _ _=>[x]
 |.makeMap _ r=>uK r
 |.mapUpdate _ m k x=>[m,k,x]
 |.insert _ m k x=>[m,k,x]
 |.lookup _ m k _=>[m,k]
 |.slice _ x lo hi mx=>x::(uK lo++(uK hi++uK mx))
 |.fieldAddr _ x _=>[x]
 |.field _ x _=>[x]
 |.indexAddr _ x i=>[x,i]
 |.index _ x i=>[x,i]
 |.extract x _=>[x]
 |.call c=>zeZ c.callee++c.args.toList
 |_=>[]
def zzv(b:List (Int×SV))(n:Int)(K1:SV->Prop)(K0:Prop):Prop:=
 List.rec (motive:=λ_=>Prop) K0 (λx _ c=>match x with
  |(k,s)=>Br (n=k->K1 s) (¬n=k->c)) b
def zzw(b:List (Int×SV))(n:Int)(s:SV):(List (Int×SV)->Prop)->Prop:=
 List.rec (motive:=λ_=>(List (Int×SV)->Prop)->Prop) (λK=>K [(n,s)]) (λx r c K=>match x with
  |(k,s')=>Br (n=k->K ((n,s)::r)) (¬n=k->c λd=>K ((k,s')::d))) b
def zkJ(I:LS)(t:TypeId)(b:LR)(Y:Nat)(K:LD):Prop:=
 qa I t λi=>(match i.kind with
  |.map _ _=>(match b with
   |[]=>K (.own Y) (.push (.map []))
   |.val (.int _ _)::_=>K (.own Y) (.push (.map []))
   |_=>False)
  |_=>False)
def zc0(I:LS)(t:TypeId)(m k s:SV)(e:LJ)(K:LD):Prop:=
 qa I t λi=>(match i.kind with
  |.map kt _=>qa I kt λj=>(match j.kind,m,k with
   |.int .i64,.own c,.val (.int .i64 n)=>(match e c with
    |some (.map d)=>zS (yf s) (zzw d n s λb=>K (.val undef) (.set c (.map b)))
    |_=>False)
   |_,_,_=>False)
  |_=>False)
def zvi(ok:Bool)(s:SV)(b:Bool)(K:LD):Prop:=
 match ok with
 |true=>K (.tup [s,.val (.bool b)]) .none
 |false=>vv s λs=>K s .none
def zpa(I:LS)(t:TypeId)(ok:Bool)(m k:SV)(e:LJ)(K:LD):Prop:=
 qa I t λi=>(match i.kind with
  |.map kt d=>qa I kt λj=>qa I d λz=>(match j.kind,m,k with
   |.int .i64,.own c,.val (.int .i64 n)=>(match e c with
    |some (.map b)=>zzv b n (λs=>zvi ok s true K) (mkV z.kind.agg z.sz (vals z.zero) λs=>zvi ok s false K)
    |_=>False)
   |_,_,_=>False)
  |_=>False)
def zkK(I:LS)(t:TypeId)(s:SV)(K:LD):Prop:=
 qa I t λi=>(match i.kind with
  |.iface=>False
  |.other=>False
  |_=>K (.ifc t s) .none)
def zvj:LR->(LA->Prop)->Prop
 |[],K=>K []
 |.val v::r,K=>zvj r λvs=>K (v::vs)
 |_,_=>False
def conc(s:SV)(K:Value->Prop):Prop:=
 match s with
 |.val v=>K v
 |.agg b=>zvj b λvs=>K (.agg vs.toArray)
 |_=>False
def zvk:LR->(LA->Prop)->Prop
 |[],K=>K []
 |s::r,K=>conc s λv=>zvk r λvs=>K (v::vs)
def zzx:LR->Bool
 |[]=>true
 |.val _::r=>zzx r
 |_=>false
def zzy:LR->Bool
 |[]=>true
 |.val _::r=>zzy r
 |.agg b::r=>yp (zzx b) (zzy r)
 |_=>false
def ofV(v:Value):SV:=
 match v with
 |.agg a=>.agg (a.toList.map .val)
 |v=>.val v
def opV(P:Program)(I:LS)(op:Op)(d:LR)(g:LJ)(Y:Nat)(K:LD):Prop:=
 match op,d with
 |.move _,[s]=>K s .none
 |.assign _,[s]=>K s .none
 |.pick _ _ _,[c,a,b]=>zzu c a b K
 |.alloc e,_=>qa I e λi=>K (.loc Y 0) (.push (.box e (vals i.zero)))
 |.box e _,[s]=>boxV I e s Y K
 |.build t o,d=>ztL I t (o.toList.map (·.1)) d K
 |.buildSlice t n o,d=>zdW I t n (o.toList.map (·.1)) d Y K
 |.load t _,[s]=>zzq I t s g K
 |.store t _ _,[s,v]=>ztI I t s v g K
 |.nilCheck _,[s]=>(match s with
  |.loc k off=>K (.loc k off) .none
  |.ptr h=>K (.ptr h) .none
  |.dptr h=>K (.dptr h) .none
  |.eloc k sz i off=>K (.eloc k sz i off) .none
  |.ifc t s=>K (.ifc t s) .none
  |_=>False)
 |.binOp op t _ y _,[a,b]=>bin I op t y a b λs=>K s .none
 |.unOp op _ _,[s]=>unV op s K
 |.convert s0 t _,[s]=>qa I s0 λ_=>qa I t λi=>(match i.kind,s with
  |.int k,.val (.int _ n)=>zm2 k n λs=>K s .none
  |_,_=>False)
 |.makeFunc fn first caps,d=>(match fn with
  |.func f=>(match first.isEmpty with
   |true=>K (.fn f d) .none
   |false=>zS caps.isEmpty (match zzy d with
    |true=>zvk d λvs=>K (.val (.func (.func f) vs.toArray #[])) .none
    |false=>zS (yf.flats d) (K (.bm f d) .none)))
  |_=>False)
 |.makeSlice t _ _,[l,c]=>zgd I t l c Y K
 |.slice t _ lo hi mx,d=>zo9 I t lo hi mx d g Y K
 |.fieldAddr t _ f,[s]=>zgb I t f s K
 |.field t _ f,[s]=>qa I t λi=>(match i.kind,s with
  |.struct fs,.agg h=>(match zqK fs f with
   |some (off,ft)=>qa I ft λj=>zS (Nat.ble (off+j.sz) h.length) (mkV j.kind.agg j.sz (h.drop off) λs=>K s .none)
   |none=>False)
  |_,_=>False)
 |.indexAddr t _ _,[s,n]=>zgc I t s n g K
 |.index t _ _,[s,n]=>ztK I t s n K
 |.extract _ n,[s]=>(match s with
  |.tup vs=>(match vs.drop n with
   |v::_=>vv v λv=>K v .none
   |[]=>False)
  |_=>False)
 |.makeInterface t _,[s]=>zkK I t s K
 |.makeMap t _,d=>zkJ I t d Y K
 |.mapUpdate t _ _ _,[m,k,s]=>zc0 I t m k s g K
 |.insert t _ _ _,[m,k,s]=>zc0 I t m k s g K
 |.lookup t _ _ ok,[m,k]=>zpa I t ok m k g K
 |.call c,d=>(match c.callee with
  |.value _=>(match d with
   |.fn f caps::args=>zb P g Y f (args++caps) K
   |.val (.func (.func f) first ⟨[]⟩)::args=>zb P g Y f (first.toList.map ofV++args) K
   |.dfn f caps::args=>zb P g Y f (args++caps) K
   |.bm f first::args=>zb P g Y f (first++args) K
   |_=>False)
  |.invoke _ _=>False
  |.builtin b=>zkI I b c.argTypes.toList d g Y K)
 |_,_=>False
def za0(M:LT)(Y k:Nat):Option Mem:=
 match Nat.blt k Y with
 |true=>zO M k
 |false=>none
def znp(d:Option Tmp)(nt:Nat)(K:Prop):Prop:=
 match d with
 |some d=>zS (Nat.blt d nt) K
 |none=>K
def zdG:Op->Bool
 |.load _ _=>true
 |.store _ _ _=>true
 |.slice _ _ _ _ _=>true
 |.indexAddr _ _ _=>true
 |.mapUpdate _ _ _ _=>true
 |.insert _ _ _ _=>true
 |.lookup _ _ _ _=>true
 |.call _=>true
 |_=>false
def zzz:Op->Bool
 |.call c=>(match c.callee with
  |.builtin .append=>true
  |.builtin .copy=>true
  |_=>false)
 |_=>false
def isW:Op->Bool
 |.store _ _ _=>true
 |.mapUpdate _ _ _ _=>true
 |.insert _ _ _ _=>true
 |o=>zzz o
def zdX:Op->Bool
 |.store _ _ _=>true
 |.alloc _=>true
 |.box _ _=>true
 |.buildSlice _ _ _=>true
 |.makeSlice _ _ _=>true
 |.makeMap _ _=>true
 |.mapUpdate _ _ _ _=>true
 |.insert _ _ _ _=>true
 |o=>zzz o
def ztM(acc:LC)(o:Oper):Nat:=o.after.toList.foldl (λs e=>if Region.binds .any e then s|||2^e.on|||acc.getD e.on 0 else s) 0
def zbY(all:List Oper):Nat->LC
 |0=>[]
 |j+1=>let acc:=zbY all j;acc++[match all[j]? with|some o=>ztM acc o|none=>0]
def zdY:List Oper->Nat->Option Tmp
 |[],_=>none
 |o::_,0=>o.dst
 |_::r,n+1=>zdY r n
def zii:List Operand->LC
 |[]=>[]
 |.tmp t::r=>t::zii r
 |_::r=>zii r
def zc1(all:List Oper)(o:Oper):LC:=
 zii (qm o.op)++(match o.guard with
  |some (j,_)=>(match zdY all j with
   |some t=>[t]
   |none=>[])
  |none=>[])
def uF(o:Oper):LC:=o.dst.toList
def zdZ(a b:LC):Bool:=a.any λx=>b.any λy=>Nat.beq x y
def zxl(all:List Oper)(oi oj:Oper):Bool:=
 (zdX oi.op&&zdG oj.op)||(zdG oi.op&&isW oj.op)||zdZ (uF oi) (zc1 all oj)||zdZ (uF oi) (uF oj)||zdZ (zc1 all oi) (uF oj)
def zj7(ops:List Oper):Bool:=
 (List.range ops.length).all λj=>(match ops[j]? with
  |some o=>o.after.toList.all λe=>!Region.binds .any e||Nat.blt e.on j
  |none=>true)
def vz(ops:List Oper):Bool:=
 let ms:=zbY ops ops.length
 zj7 ops&&(List.range ops.length).all λj=>(List.range j).all λi=>(ms.getD j 0).testBit i||!(match ops[i]?,ops[j]? with
  |some oi,some oj=>zxl ops oi oj
  |_,_=>false)
def zpb(ops:List Oper)(i:Nat):Bool:=
 let ms:=zbY ops ops.length
 (List.range ops.length).all λj=>Nat.ble j i||(ms.getD j 0).testBit i||!(match ops[j]? with
  |some oj=>zdG oj.op
  |none=>false)
def mdV(draw:Bool)(all:List Oper)(i Y:Nat)(op:Op)(b:MD)(K:Prop):Prop:=
 match draw with
 |false=>K
 |true=>(match isW op with
  |true=>(match b with
   |.drop _=>False
   |.set k _=>zS (Nat.blt k Y) K
   |.repl k _=>zS (Nat.blt k Y) K
   |.give _ _ _=>False
   |_=>K)
  |false=>(match b with
   |.none=>K
   |.push _=>(match zdX op with
    |true=>K
    |false=>Dr (zpb all i=true) K False)
   |_=>False))
def zqP(n:Nat):LI->Prop:=
 Nat.rec (motive:=λ_=>LI->Prop) (λK=>K 0) (λ_ b K=>b λm=>K (m+1)) n
def zge:∀{n:Nat} {K:LI},zqP n K->K n
 |0,_,h=>h
 |n+1,_,h=>zge (n:=n) h
def zpc(l:LR):(LR->Prop)->Prop:=
 List.rec (motive:=λ_=>(LR->Prop)->Prop) (λK=>K []) (λc _ b K=>b λr=>K (c::r)) l
def zbZ:∀{l:LR} {K:LR->Prop},zpc l K->K l
 |[],_,h=>h
 |c::l,K,h=>zbZ (l:=l) (K:=λr=>K (c::r)) h
def zpd(s:SV)(K:SV->Prop):Prop:=
 match s with
 |.agg b=>zpc b λb=>K (.agg b)
 |s=>K s
def zd0{s:SV}{K:SV->Prop}(h:zpd s K):K s:=by
 unfold zpd at h
 split at h
 .exact zbZ (K:=λb=>K (.agg b)) h
 exact h
def zpe(c:MD)(K:MD->Prop):Prop:=
 match c with
 |.push m=>(match m with
  |.box T b=>zpc b λb=>K (.push (.box T b))
  |m=>K (.push m))
 |.set k m=>(match m with
  |.box T b=>zpc b λb=>K (.set k (.box T b))
  |m=>K (.set k m))
 |c=>K c
def zd1{c:MD}{K:MD->Prop}(h:zpe c K):K c:=by
 unfold zpe at h
 split at h
 .split at h
  .rename_i T b;exact zbZ (K:=λb=>K (.push (.box T b))) h
  exact h
 .rename_i k _;split at h
  .rename_i T b;exact zbZ (K:=λb=>K (.set k (.box T b))) h
  exact h
 exact h
def St.withK(O:St)(Y:Nat):St:=⟨O.L,O.M,Y,O.nt,O.n0⟩
def zd2(P:Program)(I:LS)(draw:Bool)(all:List Oper)(i:Nat)(o:Oper)(O:St)(K:St->Prop):Prop:=
 zqP O.nk λY=>evs O.L (qm o.op) λc=>opV P I o.op c (za0 O.M Y) Y λs b=>zpd s λs=>zpe b λb=>mdV draw all i Y o.op b (znp o.dst O.nt (K ((O.withK Y).app o.dst s b)))
def zaM(o:Oper)(O:St)(K:St->Prop):Prop:=znp o.dst O.nt (K (O.app o.dst (.val undef) .none))
def vh(P:Program)(I:LS)(draw:Bool)(all:List Oper)(l:List Oper):Nat->St->(St->Prop)->Prop:=
 List.rec (motive:=λ_=>Nat->St->(St->Prop)->Prop) (λ_ O K=>K O) (λo _ c i O K=>match o.guard with
  |none=>zd2 P I draw all i o O λO=>c (i+1) O K
  |some (j,b)=>(match zdY all j with
   |none=>False
   |some t=>(match kw O.L t with
    |some (.val (.bool true))=>(match b with
     |true=>zd2 P I draw all i o O λO=>c (i+1) O K
     |false=>zaM o O λO=>c (i+1) O K)
    |some (.val (.bool false))=>(match b with
     |false=>zd2 P I draw all i o O λO=>c (i+1) O K
     |true=>zaM o O λO=>c (i+1) O K)
    |some (.pr p _)=>(match b with
     |true=>Br (p->zd2 P I draw all i o (O.put (some t) (.val (.bool true))) λO=>c (i+1) O K)
       (¬p->zaM o (O.put (some t) (.val (.bool false))) λO=>c (i+1) O K)
     |false=>Br (p->zaM o (O.put (some t) (.val (.bool true))) λO=>c (i+1) O K)
       (¬p->zd2 P I draw all i o (O.put (some t) (.val (.bool false))) λO=>c (i+1) O K))
    |some (.val (.tuple _))=>zaM o O λO=>c (i+1) O K
    |_=>False))) l
def zFI:SV->LC
 |.loc k _=>[k]
 |.own k=>[k]
 |.eloc k _ _ _=>[k]
 |.win k _ _ _=>[k]
 |_=>[]
def zd3:LR->LC
 |[]=>[]
 |c::b=>zFI c++zd3 b
def zkL:LR->Bool
 |[]=>true
 |c::b=>(match c with
  |.val _=>zkL b
  |.pr _ _=>zkL b
  |.sl _ _=>zkL b
  |_=>false)
def zij:LR->Bool
 |[]=>true
 |c::b=>(match c with
  |.val _=>zij b
  |.pr _ _=>zij b
  |.sl _ _=>zij b
  |.agg xs=>(match zkL xs with
   |true=>zij b
   |false=>false)
  |.fn _ xs=>(match zkL xs with
   |true=>zij b
   |false=>false)
  |_=>false)
def zqQ(op:Op)(b:LR):Option LC:=
 match op with
 |.call c=>(match c.callee with
  |.builtin _=>some (zd3 b)
  |_=>(match zij b with
   |true=>some []
   |false=>none))
 |.store _ _ _=>(match b with
  |s::_=>some (zFI s)
  |[]=>some [])
 |.load _ _=>some (zd3 b)
 |.slice _ _ _ _ _=>some (zd3 b)
 |.indexAddr _ _ _=>some (zd3 b)
 |.mapUpdate _ _ _ _=>some (zd3 b)
 |.insert _ _ _ _=>some (zd3 b)
 |.lookup _ _ _ _=>some (zd3 b)
 |_=>some []
structure Ent where
 u:Option LC
 nk:Nat
 t:LC
def zfH(k:Nat):LC->Bool
 |[]=>false
 |x::r=>match Nat.beq x k with
  |true=>true
  |false=>zfH k r
def zdH(u:Option LC)(nk k:Nat):Bool:=
 match u with
 |none=>Nat.blt k nk
 |some l=>zfH k l
def lmU(u:Option LC)(nk:Nat)(b:LJ)(k:Nat):Option Mem:=
 match zdH u nk k with
 |true=>b k
 |false=>none
def ztN(Y:Nat):Nat->LC
 |0=>[]
 |n+1=>(Y+n)::ztN Y n
def zik(Y:Nat):MD->LC
 |.none=>[]
 |.push _=>[Y]
 |.set k _=>[k]
 |.drop k=>[k]
 |.repl k _=>[k,Y]
 |.give ks _ nn=>ks++ztN Y nn
def zvl(e:Ent):LC->Bool
 |[]=>false
 |k::r=>match zdH e.u e.nk k with
  |true=>true
  |false=>match zfH k e.t with
   |true=>true
   |false=>zvl e r
def zvm(x:Ent):LC->Bool
 |[]=>false
 |k::r=>match zdH x.u x.nk k with
  |true=>true
  |false=>zvm x r
def zqR(x e:Ent):Bool:=
 match zvl e x.t with
 |true=>true
 |false=>zvm x e.t
def prOK(m:Nat)(e:Ent):List Ent->Bool
 |[]=>true
 |x::r=>(m.testBit r.length||!zqR x e)&&prOK m e r
def zkM(ms:LC):List Ent->Bool
 |[]=>true
 |e::r=>prOK (ms.getD r.length 0) e r&&zkM ms r
def zkN(all:List Oper)(oi oj:Oper):Bool:=
 zdZ (uF oi) (zc1 all oj)||zdZ (uF oi) (uF oj)||zdZ (zc1 all oi) (uF oj)
def zgf(ops:List Oper):Bool:=
 let ms:=zbY ops ops.length
 zj7 ops&&(List.range ops.length).all λj=>(List.range j).all λi=>(ms.getD j 0).testBit i||!(match ops[i]?,ops[j]? with
  |some oi,some oj=>zkN ops oi oj
  |_,_=>false)
def mdD(Y:Nat)(b:MD)(K:Prop):Prop:=
 match b with
 |.drop k=>zS (Nat.blt k Y) K
 |.set k _=>zS (Nat.blt k Y) K
 |.repl k _=>zS (Nat.blt k Y) K
 |.give ks new nn=>zS (yp (ztH ks Y nn new) (zga new Y nn)) K
 |_=>K
def zb0(P:Program)(I:LS)(o:Oper)(O:St)(K:Ent->St->Prop):Prop:=
 zqP O.nk λY=>evs O.L (qm o.op) λb=>opV P I o.op b (lmU (zqQ o.op b) Y (za0 O.M Y)) Y λs c=>zpd s λs=>zpe c λc=>mdD Y c (znp o.dst O.nt (K ⟨zqQ o.op b,Y,zik Y c⟩ ((O.withK Y).app o.dst s c)))
def znq:Ent:=⟨some [],0,[]⟩
def zbo(P:Program)(I:LS)(all:List Oper)(l:List Oper):Nat->List Ent->St->(St->Prop)->Prop:=
 List.rec (motive:=λ_=>Nat->List Ent->St->(St->Prop)->Prop) (λ_ acc O K=>Ob (zkM (zbY all all.length) acc=true) (K O)) (λo _ c i acc O K=>match o.guard with
  |none=>zb0 P I o O λe O=>c (i+1) (e::acc) O K
  |some (j,b)=>(match zdY all j with
   |none=>False
   |some t=>(match kw O.L t with
    |some (.val (.bool true))=>(match b with
     |true=>zb0 P I o O λe O=>c (i+1) (e::acc) O K
     |false=>zaM o O λO=>c (i+1) (znq::acc) O K)
    |some (.val (.bool false))=>(match b with
     |false=>zb0 P I o O λe O=>c (i+1) (e::acc) O K
     |true=>zaM o O λO=>c (i+1) (znq::acc) O K)
    |some (.pr p _)=>(match b with
     |true=>Br (p->zb0 P I o (O.put (some t) (.val (.bool true))) λe O=>c (i+1) (e::acc) O K)
       (¬p->zaM o (O.put (some t) (.val (.bool false))) λO=>c (i+1) (znq::acc) O K)
     |false=>Br (p->zaM o (O.put (some t) (.val (.bool true))) λO=>c (i+1) (znq::acc) O K)
       (¬p->zb0 P I o (O.put (some t) (.val (.bool false))) λe O=>c (i+1) (e::acc) O K))
    |some (.val (.tuple _))=>zaM o O λO=>c (i+1) (znq::acc) O K
    |_=>False))) l
inductive Ex
 |normal
 |exit (id:Nat)
 |ret
def Sub(O O':St):Prop:=∀(E:Env) Z a w,Rel E O Z a w->∃Z',Rel E O' Z' a w
def js(P:Program)(I:LS)(c:Code):St->(Ex->St->Prop)->Prop:=
 Code.rec (motive:=λ_=>St->(Ex->St->Prop)->Prop)
  (λO Q=>Q .normal O)
  (λ_ ops draw O Q=>match draw with
   |false=>vh P I false ops.toList ops.toList 0 O (Q .normal)
   |true=>Dr (vz ops.toList=true) (vh P I true ops.toList ops.toList 0 O (Q .normal))
     (Ob (zgf ops.toList=true) (zbo P I ops.toList ops.toList 0 [] O (Q .normal))))
  (λ_ _ h i O Q=>h O λe O=>(match e with
   |.normal=>i O Q
   |.exit id=>Q (.exit id) O
   |.ret=>Q .ret O))
  (λc _ _ d f O Q=>ev O.L c λc=>(match c with
   |.val (.bool true)=>d O Q
   |.val (.bool false)=>f O Q
   |.pr p _=>Br (p->d O Q) (¬p->f O Q)
   |.anyb=>Br (d O Q) (f O Q)
   |_=>False))
  (λid _ b O Q=>b O λe O=>(match e with
   |.normal=>Q .normal O
   |.exit j=>(match Nat.beq j id with
    |true=>Q .normal O
    |false=>Q (.exit j) O)
   |.ret=>Q .ret O))
  (λ_ b O Q=>∃(ι:Type) (S:ι->St) (Vd:ι->Prop) (μ:ι->Nat) (g:ι),Vd g/\Sub O (S g)/\
   ∀x,Vd x->b (S x) λe O'=>(match e with
    |.normal=>∃x',Vd x'/\Sub O' (S x')/\μ x'<μ x
    |.exit id=>Q (.exit id) O'
    |.ret=>Q .ret O'))
  (λ_ _ _ _ _ _ _ _=>False)
  (λid O Q=>Q (.exit id) O)
  (λ_ b O Q=>b O Q)
  (λ_ O Q=>Q .normal O)
  (λ_ _ _=>False)
  (λO Q=>Q .ret O)
  (λ_ _ _=>False)
  c
def ztO(O:St)(I:LS)(x:ResultVar)(K:SV->Prop):Prop:=
 match x with
 |.tmp t=>(match kw O.L t with
  |some s=>vv s λs=>K s
  |none=>False)
 |.cell a t=>qa I t λi=>(match kw O.L a with
  |some (.loc k off)=>(match zO O.M k with
   |some (.box _ b)=>zS (Nat.ble (off+i.sz) b.length) (mkV i.kind.agg i.sz (b.drop off) λs=>K s)
   |_=>False)
  |_=>False)
def zzA(O:St)(I:LS)(xs:List ResultVar):(LR->Prop)->Prop:=
 List.rec (motive:=λ_=>(LR->Prop)->Prop) (λK=>K []) (λx _ b K=>ztO O I x λs=>b λl=>K (s::l)) xs
def zaw(O:St)(I:LS)(rs:List ResultVar)(K:SV->Prop):Prop:=
 zzA O I rs λl=>match l with
  |[s]=>K s
  |l=>K (.tup l)
def qG:Nat->LR->LP
 |_,[]=>[]
 |n,a::r=>(n,a)::qG (n+1) r
def znr(b:LJ)(s:SV):SV:=
 match s with
 |.tup c=>.tup (zkD b c)
 |s=>zjr b s
def endV(I:LS)(rs:List ResultVar)(r:SV)(e:Ex)(O:St):Prop:=
 match e with
 |.exit _=>False
 |_=>zaw O I rs λs=>LE (znr (zO O.M) s) r
inductive zbp (k:LK):SV->SV->Prop
 |own (k':Nat) (h:k=some k'):zbp k (.own k') (.own 0)
 |loc (k' off:Nat) (h:k=some k'):zbp k (.loc k' off) (.loc 0 off)
 |nil (h:k=none):zbp k (.val (.slice none 0 0)) (.own 0)
 |le (s r:SV) (h:LE s r) (hf:yf r=true):zbp k s r
 |junk (s:SV):zbp k s .junk
 |agg (cs ds:LR) (hl:cs.length=ds.length) (h:∀(j:Nat) (s r:SV),cs[j]?=some s->ds[j]?=some r->zbp k s r):zbp k (.agg cs) (.agg ds)
 |tup (cs ds:LR) (hl:cs.length=ds.length) (h:∀(j:Nat) (s r:SV),cs[j]?=some s->ds[j]?=some r->zbp k s r):zbp k (.tup cs) (.tup ds)
 |fn (f:FuncId) (cs ds:LR) (hl:cs.length=ds.length) (h:∀(j:Nat) (s r:SV),cs[j]?=some s->ds[j]?=some r->zbp k s r):zbp k (.fn f cs) (.fn f ds)
def zzB(M:LT)(k:LK)(m:Mem):Prop:=
 match k with
 |some k=>zO M k=some m/\zgN m
 |none=>(match m with
  |.arr _ _ _ xs=>xs=[]
  |_=>False)
def ztP(I:LS)(rs:List ResultVar)(r:SV)(m:Mem)(e:Ex)(O:St):Prop:=
 match e with
 |.exit _=>False
 |_=>zaw O I rs λs=>∃k,zbp k s r/\zzB O.M k m
def zGt(I:LS)(rs:List ResultVar)(r:SV)(m:Mem)(e:Ex)(O:St):Prop:=
 match e with
 |.exit _=>False
 |_=>zaw O I rs λs=>(zO O.M 0=some m/\LE s r)
variable{w':World}
def zil{w:World}{b o:Nat}(h:w'.heap[b]?=w.heap[b]?):w'.cell? ⟨b,o,none⟩=w.cell? ⟨b,o,none⟩:=by
 simp only[World.cell?,h]
def D.mono{S S':LI}{w:World}(y:w.heap.size<=w'.heap.size)(hS:∀b,b<w.heap.size->¬S b->¬S' b/\w'.heap[b]?=w.heap[b]?){s:SV}{v:Value}(h:D S w s v):D S' w' s v:=by
 induction h with
 |val v=>exact .val v
 |pr p i=>exact .pr p i
 |agg e vs l h d=>exact .agg e vs l d
 |nil enc a=>exact .nil enc a
 |nils a=>exact .nils a
 |anyb b=>exact .anyb b
 |junk v=>exact .junk v
 |full enc xs a h d=>exact .full enc xs a d
 |sl enc xs sz b o cap c g hS' m k x r h d=>
  obtain⟨n,q⟩:=hS b g hS';exact .sl enc xs sz b o cap c (Xx g y) n m k x (λi j hi u=>by rw[zil q];exact r i j hi u) d
 |dptr e b o c g hS' r h d=>
  obtain⟨n,q⟩:=hS b g hS';exact .dptr e b o c (Xx g y) n (λj u=>by rw[zil q];exact r j u) d
 |dfn f e vs l h d=>exact .dfn f e vs l d
 |bm f e vs l h d=>exact .bm f e vs l d
 |op v h=>exact .op v h
 |ifc t s v h d=>exact .ifc t s v d
def G.mono{S S' Pm Pm':LI}{Z Z':zh}{w w':World}(r:w.heap.size<=w'.heap.size)(hS:∀b,b<w.heap.size->¬S b->¬S' b/\w'.heap[b]?=w.heap[b]?)(hP:∀b,b<w.heap.size->¬Pm b->¬Pm' b/\w'.heap[b]?=w.heap[b]?)(e:∀k v,Z k=some v->Z' k=some v){s:SV}{v:Value}(h:G S Pm Z w s v):G S' Pm' Z' w' s v:=by
 induction h with
 |d s v h=>exact .d s v (h.mono r hS)
 |loc k off b h=>exact .loc k off b (e _ _ h)
 |own k v h m=>exact .own k v (e _ _ h) m
 |eloc k sz i off b len cap h=>exact .eloc k sz i off b len cap (e _ _ h)
 |win k sz lo n b len cap cap' h m q=>exact .win k sz lo n b len cap cap' (e _ _ h) m q
 |ptr g b o c u hP' x h=>
  obtain⟨m,q⟩:=hP b u hP';exact .ptr g b o c (Xx u r) m (λj y=>by rw[zil q];exact x j y) (λj s z=>(h j s z).mono r hS)
 |agg g vs p h l=>exact .agg g vs p l
 |tup g vs p h l=>exact .tup g vs p l
 |fn f g vs p h l=>exact .fn f g vs p l
 |ifc t s v h l=>exact .ifc t s v l
def kU.refl(w:World):kU w w:=⟨rfl,λ_=>rfl⟩
def kU.trans{w w' w'':World}(h:kU w w')(k:kU w' w''):kU w w'':=⟨k.1.trans h.1,λa=>(k.2 a).trans (h.2 a)⟩
def kU.cells(w:World)(c:Array Value)(t:TypeId):kU w (w.alloc (.cells c t)):=⟨rfl,λa=>RowKit.frozen?_alloc_cells w c t a⟩
def kU.setRow(w:World)(g:Nat)(b:Array Value):kU w (w.setRow g b):=⟨rfl,λa=>by
 show World.frozen? { w with heap:=w.heap.modify g _ } a=_;unfold World.frozen?;simp only[JD]
 by_cases h:g=a.block
 .simp only[h,if_true]
  cases w.heap[a.block]? with
  |none=>rfl
  |some o=>cases o <;> rfl
 simp only[h,if_false]⟩
def Stp.refl{W:LI}{Z:zh}{w:World}:Stp W W Z Z w w:=⟨rfl,rfl,.refl _,Xj _,λ_ _ _=>rfl,λ_ h=>.inl h,λ_ _ h=>h⟩
def Stp.trans{W W' W'':LI}{Z Z' Z'':zh}{w w' w'':World}(h:Stp W W' Z Z' w w')(k:Stp W' W'' Z' Z'' w' w''):Stp W W'' Z Z'' w w'':=
 ⟨k.os.trans h.os,k.tape.trans h.tape,h.output.trans k.output,XC h.size k.size,
  λb c e=>(k.block b (Xx c h.size) (λg=>(h.own b g).elim e (λd=>by omega))).trans (h.block b c e),
  λb c=>(k.own b c).elim (h.own b) (λd=>.inr (XC h.size d)),λi v f=>k.rho _ _ (h.rho _ _ f)⟩
variable{Keep:LI}{W:LI}{W':LI}{Z:zh}{Z':zh}
def G.stp{w:World}(h:Stp W W' Z Z' w w'){s:SV}{v:Value}(i:G (λb=>Keep b∨W b) W Z w s v):G (λb=>Keep b∨W' b) W' Z' w' s v:=
 i.mono h.size (λb e d=>⟨λc=>c.elim (λj=>d (.inl j)) (λc=>(h.own b c).elim (λf=>d (.inr f)) (λg=>by omega)),h.block b e (λc=>d (.inr c))⟩)
  (λb e d=>⟨λc=>(h.own b c).elim d (λg=>by omega),h.block b e d⟩) h.rho
def D.stp{w:World}(h:Stp W W' Z Z' w w'){s:SV}{v:Value}(g:D (λb=>Keep b∨W b) w s v):D (λb=>Keep b∨W' b) w' s v:=
 g.mono h.size (λb f d=>⟨λc=>c.elim (λi=>d (.inl i)) (λc=>(h.own b c).elim (λe=>d (.inr e)) (λj=>by omega)),h.block b f (λc=>d (.inr c))⟩)
def qB(P:Program)(o:Oper)(a:Act)(w:World)(R:Value->World->Prop):Prop:=
 o.wp P a w (λb w'=>∃v,b=a.put o.dst v/\R v w') (λ_ _ _=>False)
def qB.value{P:Program}{o:Oper}{a:Act}{w w':World}{R:Value->World->Prop}{v:Value}(h:(execOp a.eval o).run P w=.ok (.value v) w')(b:R v w'):qB P o a w R:=by
 unfold qB Oper.wp;rw[h];exact⟨v,rfl,b⟩
def qB.skip{P:Program}{o:Oper}{a:Act}{w w':World}{R:Value->World->Prop}(h:(execOp a.eval o).run P w=.ok .skip w')(b:R undef w'):qB P o a w R:=by
 unfold qB Oper.wp;rw[h];exact⟨undef,rfl,b⟩
variable{P:Program}{a:Act}{R:Value->World->Prop}
def qB.call{o:Oper}{w:World}{f:FuncId}{args:Array Value}(h:(execOp a.eval o).run P w=.ok (.enter f args) w')(b:Calls P f args w' λe w''=>∃v,e=.returned v/\R v w''):qB P o a w R:=by
 unfold qB Oper.wp;rw[h];refine b.mono ?_
 rintro e w'' ⟨v,rfl,c⟩
 exact⟨v,rfl,c⟩
def qB.mono{o:Oper}{w:World}{R':Value->World->Prop}(h:qB P o a w R)(b:∀v w',R v w'->R' v w'):qB P o a w R':=by
 unfold qB at*;exact Oper.wp_mono (λc w' ⟨v,e,r⟩=>⟨v,e,b v w' r⟩) h
def qB.wp{P:Program}{o:Oper}{a:Act}{w:World}{R:Value->World->Prop}{K:LG}{Q:LF}(h:qB P o a w R)(g:∀v w',R v w'->K (a.put o.dst v) w'):o.wp P a w K Q:=by
 unfold qB Oper.wp at*;generalize (execOp a.eval o).run P w=r at*
 cases r with
 |ok n w'=>
  cases n <;> simp only[Oper.upon]at h ⊢
  case value v=>obtain⟨u,e,b⟩:=h;rw[e];exact g u w' b
  case skip=>obtain⟨u,e,b⟩:=h;rw[e];exact g u w' b
  case defer d=>obtain⟨u,e,b⟩:=h;rw[e];exact g u w' b
  case enter f args=>
   refine Calls.mono h λe w'' i=>?_
   cases e with
   |returned v=>obtain⟨u,e,b⟩:=i;show K (a.put o.dst v) w'';rw[e];exact g u w'' b
   |panicked c=>exact i.elim
   |outgrown=>obtain⟨_,_,j⟩:=i;exact j.elim
  case row row args=>
   exact Rows.mono h (λv w' ⟨u,e,b⟩=>by show K (a.put o.dst v) w';rw[e];exact g u w' b)
 |halt x w'=>cases x <;> simp only[Oper.upon]at h
def qg(Keep:LI)(M:LT)(Z:zh)(w:World)(Y:Nat)(s:SV)(c:MD)(v:Value)(w':World):Prop:=
 ∃Z',Stp (Own M Z) (Own (zcV M Y c) Z') Z Z' w w'/\zI Keep (zcV M Y c) Z' w'/\
  G (λb=>Keep b∨Own (zcV M Y c) Z' b) (Own (zcV M Y c) Z') Z' w' s v/\∀k,(k<Y∨zcc Y c<=k)->Z' k=Z k
def zzC:MD->Bool
 |.push _=>true
 |.repl _ _=>true
 |_=>false
def yq(P:Program)(op:Op)(d:LR)(e:LJ)(Y:Nat)(s:SV)(c:MD):Prop:=
 ∀(o:Oper),o.op=op->∀(Keep:LI) (M:LT) (Z:zh) (a:Act) (w:World),
  (∀k m,e k=some m->zO M k=some m)->zI Keep M Z w->(∀k,Y<=k->k<zcc Y c->Z k=none)->(zzC c=true->∀m,(Y,m)∉M)->
  Gs (λb=>Keep b∨Own M Z b) (Own M Z) Z w d ((qm op).map a.eval)->qB P o a w (qg Keep M Z w Y s c)
def zu{M:LT}{k:Nat}{m:Mem}(h:zO M k=some m):(k,m)∈M:=by
 induction M with
 |nil=>simp[zO]at h
 |cons x r c=>
  obtain⟨d,e⟩:=x;simp only[zO]at h
  split at h
  .rename_i b;have:=Xk b
   cases h;subst this;exact .head _
  exact .tail _ (c h)
def qg.same{Keep:LI}{M:LT}{Z:zh}{w:World}{Y:Nat}{s:SV}{v:Value}(d:zI Keep M Z w)(c:G (λb=>Keep b∨Own M Z b) (Own M Z) Z w s v):qg Keep M Z w Y s .none v w:=
 ⟨Z,.refl,d,c,λ_ _=>rfl⟩
abbrev LH:=Ex->St->Prop
end Go.Gs
