/- The conditions that an operation, a region, a piece of code leave to be shown. -/
import Derived.Test.YtakicgnbhdpknaaGreatDoorPAA
set_option maxRecDepth 100000
set_option maxHeartbeats 8000000
set_option linter.all false
namespace Go.Gs
def zgv:Mem->Prop
 |.box _ a=>yd.flats a=true
 |.arr _ enc _ xs=>∀x∈xs,yd.flats (enc x)=true
 |.garr _ _ _=>False
 |.map b=>yd.flats (b.map (·.2))=true
def give(b:LJ)(k:Nat)(s:SV):SV:=
 match s with
 |.loc a off=>(match Nat.beq a k with
  |true=>.loc 0 off
  |false=>zkg b (.loc a off))
 |.own a=>(match Nat.beq a k with
  |true=>.own 0
  |false=>zkg b (.own a))
 |.win a sz lo n=>(match Nat.beq a k with
  |true=>.win 0 sz lo n
  |false=>zkg b (.win a sz lo n))
 |s=>zkg b s
def zyJ(a:LJ)(k:Nat):LR->LR
 |[]=>[]
 |c::b=>give a k c::zyJ a k b
def zmY(k:Nat):LR->Bool
 |[]=>true
 |.loc a _::r=>(match Nat.beq a k with
  |true=>false
  |false=>zmY k r)
 |_::r=>zmY k r
def zb6(a:LJ)(k:Nat):LR->Bool
 |[]=>true
 |.loc b off::r=>(match Nat.beq b k with
  |true=>zb6 a k r
  |false=>yB (uy a [.loc b off]) (zb6 a k r))
 |.own b::r=>(match Nat.beq b k with
  |true=>zb6 a k r
  |false=>false)
 |.win b _ _ _::r=>(match Nat.beq b k with
  |true=>zb6 a k r
  |false=>false)
 |.fn f c::r=>yB (zmY k c) (yB (uy a [.fn f c]) (zb6 a k r))
 |s::r=>yB (uy a [s]) (zb6 a k r)
def zjK:Mem->Prop
 |.box _ a=>uz.scalars a=true
 |.arr _ enc _ xs=>∀x∈xs,uz.scalars (enc x)=true
 |.garr _ _ _=>False
 |.map b=>uz.scalars (b.map (·.2))=true
def mv(Y:Nat):SV->SV
 |.own _=>.own Y
 |.loc _ off=>.loc Y off
 |.agg a=>.agg (mvs Y a)
 |.tup a=>.tup (mvs Y a)
 |.fn f a=>.fn f (mvs Y a)
 |.ifc t s=>.ifc t (mv Y s)
 |s=>s
 where
 mvs (Y:Nat):LR->LR
  |[]=>[]
  |c::a=>mv Y c::mvs Y a
def zbk:SV->Bool
 |.own k=>Nat.beq k 0
 |.loc k _=>Nat.beq k 0
 |.val _=>true
 |.pr _ _=>true
 |.junk=>true
 |.agg a=>mvOKs a
 |.tup a=>mvOKs a
 |.fn _ a=>mvOKs a
 |.ifc _ s=>zbk s
 |_=>false
 where
 mvOKs:LR->Bool
  |[]=>true
  |c::a=>match zbk c with
   |true=>mvOKs a
   |false=>false
def zyK:Option Mem->Bool
 |some (.arr _ _ _ _)=>true
 |_=>false
def zyL(a:LJ)(k:Nat):LR->Bool
 |[]=>true
 |.own b::r=>(match Nat.beq b k with
  |true=>zyL a k r
  |false=>false)
 |s::r=>yB (uy a [s]) (zyL a k r)
def LE(s r:SV):Prop:=∀S Pm O w v,G S Pm O w s v->G S Pm O w r v
inductive LEs:LR->LR->Prop
 |nil:LEs [] []
 |cons {a b:SV} {za bs:LR} (h:LE a b) (t:LEs za bs):LEs (a::za) (b::bs)
def rn(ks:LC)(Y j:Nat):Nat:=
 match ks[j]? with
 |some k=>k
 |none=>Y+(j-ks.length)
def vS(ks:LC)(Y:Nat):SV->SV
 |.loc k off=>.loc (rn ks Y k) off
 |.own k=>.own (rn ks Y k)
 |.eloc k sz i off=>.eloc (rn ks Y k) sz i off
 |.win k sz lo n=>.win (rn ks Y k) sz lo n
 |.agg a=>.agg (rens ks Y a)
 |.tup a=>.tup (rens ks Y a)
 |.fn f a=>.fn f (rens ks Y a)
 |.ifc t s=>.ifc t (vS ks Y s)
 |s=>s
 where
 rens (ks:LC) (Y:Nat):LR->LR
  |[]=>[]
  |c::a=>vS ks Y c::rens ks Y a
def uU(n:Nat):SV->Bool
 |.loc k _=>Nat.blt k n
 |.own k=>Nat.blt k n
 |.eloc k _ _ _=>Nat.blt k n
 |.win k _ _ _=>Nat.blt k n
 |.agg a=>lows n a
 |.tup a=>lows n a
 |.fn _ a=>lows n a
 |.ifc _ s=>uU n s
 |_=>true
 where
 lows (n:Nat):LR->Bool
  |[]=>true
  |c::a=>match uU n c with
   |true=>lows n a
   |false=>false
def zb7(n:Nat):SV->Bool
 |.loc k _=>Nat.blt k n
 |.own k=>Nat.blt k n
 |.eloc k _ _ _=>Nat.blt k n
 |.win k _ _ _=>Nat.blt k n
 |.ptr _=>false
 |.agg a=>outs n a
 |.tup a=>outs n a
 |.fn _ a=>outs n a
 |.ifc _ s=>zb7 n s
 |_=>true
 where
 outs (n:Nat):LR->Bool
  |[]=>true
  |c::a=>match zb7 n c with
   |true=>outs n a
   |false=>false
def zhX(ks:LC)(Y:Nat):Mem->Mem
 |.box T a=>.box T (vS.rens ks Y a)
 |.garr T sz xs=>.garr T sz (xs.map (vS.rens ks Y))
 |m=>m
def ub(ks:LC)(Y:Nat):LT->LT
 |[]=>[]
 |(j,m)::r=>(rn ks Y j,zhX ks Y m)::ub ks Y r
def zqk(n:Nat):Mem->Prop
 |.box _ a=>uU.lows n a=true
 |.garr _ _ xs=>∀x∈xs,uU.lows n x=true
 |_=>True
def zwH(n:Nat):Mem->Prop
 |.box _ a=>zb7.outs n a=true
 |.garr _ _ xs=>∀x∈xs,zb7.outs n x=true
 |_=>True
def zgw(b:LJ)(a:LC)(Y:Nat)(Mc:LT):Nat->LC->Prop
 |_,[]=>True
 |i,k::r=>(∃m,zW Mc i=some m/\b k=some (zhX a Y m)/\zqk a.length m)/\zgw b a Y Mc (i+1) r
def zki(n:Nat):LT->Prop
 |[]=>True
 |(j,m)::r=>(Nat.blt j n=true/\zwH n m)/\zki n r
def zmF(k:Nat):LC->Bool
 |[]=>false
 |x::r=>match Nat.beq x k with
  |true=>true
  |false=>zmF k r
def zaJ:LC->Bool
 |[]=>true
 |x::r=>match zmF x r with
  |true=>false
  |false=>zaJ r
def zkj(n:Nat):LT->Bool
 |[]=>true
 |(k,_)::r=>yB (Nat.blt k n) (zkj n r)
def zql(k:Nat):LT->Bool
 |[]=>false
 |(q,_)::r=>match Nat.beq q k with
  |true=>true
  |false=>zql k r
def zfT:LT->Bool
 |[]=>true
 |(k,_)::r=>match zql k r with
  |true=>false
  |false=>zfT r
def ztb(ks:LC)(Y nn:Nat):LT->Bool
 |[]=>true
 |(k,_)::r=>yB (zmF k ks||(Nat.ble Y k&&Nat.blt k (Y+nn))) (ztb ks Y nn r)
def zfU(k:Nat):LT->Bool
 |[]=>false
 |(q,_)::r=>match Nat.beq q k with
  |true=>true
  |false=>zfU k r
def zfV(new:LT)(Y:Nat):Nat->Bool
 |0=>true
 |n+1=>yB (zfU (Y+n) new) (zfV new Y n)
def zgx(l:LR):(LR->Prop)->Prop:=
 List.rec (motive:=λ_=>(LR->Prop)->Prop) (λK=>K []) (λc _ a K=>vT c λc=>a λr=>K (c::r)) l
def zjL(m:Mem)(K:Mem->Prop):Prop:=
 match m with
 |.box T a=>zgx a λa=>K (.box T a)
 |.arr T enc sz xs=>K (.arr T enc sz xs)
 |.garr T sz xs=>K (.garr T sz xs)
 |.map b=>K (.map b)
def zqm(n:Nat):LI->Prop:=
 Nat.rec (motive:=λ_=>LI->Prop) (λK=>K 0) (λ_ a K=>a λm=>K (m+1)) n
def zgy(l:LT):(LT->Prop)->Prop:=
 List.rec (motive:=λ_=>(LT->Prop)->Prop) (λK=>K []) (λx _ a K=>zqm x.1 λk=>zjL x.2 λm=>a λr=>K ((k,m)::r)) l
inductive zb (P:Program) (lm:LJ) (Y:Nat) (f:FuncId) (args:LR) (K:LD):Prop
 |to (r:SV) (h:qg P f (zdv lm args) [] r []) (hr:zuK lm args r=true) (k:vT r λr=>K r .none)
 |fresh (m:Mem) (r:SV) (h:qg P f (zdv lm args) [] r [(0,m)]) (hr:zbk r=true) (hm:zgv m) (hc:uy lm args=true∨zjK m) (k:vT (mv Y r) λr=>K r (.push m))
 |see (k:Nat) (r:SV) (h:qg P f (zdv lm args) [] r []) (hk:zyK (lm k)=true) (hc:zyL lm k args=true) (hr:zkf r=true) (kk:vT r λr=>K r (.drop k))
 |hand (k:Nat) (m m':Mem) (r:SV) (hk:lm k=some m) (h:qg P f (zyJ lm k args) [(0,m)] r [(0,m')])
   (hm:zgv m) (hm':zgv m') (hc:zb6 lm k args=true) (hr:zkf r=true) (k:vT r λr=>K r (.set k m'))
 |give (ks:LC) (nn:Nat) (args':LR) (Mc M':LT) (r:SV) (h:qg P f args' Mc r M') (ha:LEs args (vS.rens ks Y args')) (hl:uU.lows ks.length args'=true)
   (hn:zaJ ks=true) (hk:yB (Nat.beq Mc.length ks.length) (yB (zkj ks.length Mc) (zfT Mc))=true) (hM:zgw lm ks Y Mc 0 ks) (hr:zb7 (ks.length+nn) r=true) (hM':zki (ks.length+nn) M')
   (k:zgy (ub ks Y M') λnew=>vT (vS ks Y r) λr=>K r (.give ks new nn))
def wg{P:Program}{a:LJ}{Y:Nat}{f:FuncId}{args:LR}{K:LD}{r:SV}(h:qg P f (zdv a args) [] r [])(k:vT r λr=>K r .none)(b:zuK a args r=true:=by rfl):zb P a Y f args K:=.to r h b k
def zmZ(s:SV):Bool:=
 match s with
 |.val v=>(match v with
  |.agg _=>false
  |.tuple _=>false
  |_=>true)
 |.agg _=>false
 |.tup _=>false
 |.junk=>false
 |_=>true
def j8:LR->Bool
 |[]=>true
 |c::a=>match zmZ c with
  |true=>j8 a
  |false=>false
def jE(o:Option Operand)(l:LR)(dflt:Int)(K:Int->LR->Prop):Prop:=
 match o with
 |none=>K dflt l
 |some _=>match l with
  |.val (.int _ n)::r=>K n r
  |_=>False
def fstO(p:Option (Nat×Nat)):Nat:=
 match p with
 |some (a,_)=>a
 |none=>0
def zcP(pl:Nat->Option (Nat×Nat)):LC->LR->LR->LR
 |i::r,s::l,a=>zcP pl r l (vq a (fstO (pl i)) (kQ s))
 |_,_,a=>a
def zb8(pl:Nat->Option (Nat×Nat))(n:Nat):LC->LR->Bool
 |i::r,s::l=>(match pl i with
  |some (off,sz)=>yB (Nat.beq (kQ s).length sz) (yB (Nat.ble (off+sz) n) (yB (j8 (kQ s)) (zb8 pl n r l)))
  |none=>false)
 |[],[]=>true
 |_,_=>false
def zkk(H:LS)(fs:LM)(i:Nat):Option (Nat×Nat):=
 match zqi fs i with
 |some (off,ft)=>(match ti H ft with
  |some j=>some (off,j.sz)
  |none=>none)
 |none=>none
def zaK(sz i:Nat):Option (Nat×Nat):=some (i*sz,sz)
def rep{α:Type 1}(n:Nat)(a:List α):List α:=
 match n with
 |0=>[]
 |n+1=>a++rep n a
def zft{α:Type _}(enc:α->LR)(xs:List α):LR:=
 match xs with
 |[]=>[]
 |x::xs=>enc x++zft enc xs
def zES(a:LJ)(s:SV)(K:Int->Prop):Prop:=
 match s with
 |.sl _ xs=>xs.length<=9223372036854775807->K xs.length
 |.own k=>(match a k with
  |some (.arr _ _ _ xs)=>xs.length<=281474976710656->K xs.length
  |some (.garr _ _ xs)=>xs.length<=281474976710656->K xs.length
  |_=>False)
 |.val (.slice none 0 0)=>K 0
 |.nils=>K 0
 |.win _ _ _ n=>Ob (0<=n) (K n)
 |_=>False
def zmG(s:LR)(K:IntKind->LV->Prop):Prop:=
 match s with
 |.val (.int k m)::r=>(match r with
  |[]=>K k [m]
  |_=>zmG r λ_ l=>K k (m::l))
 |_=>False
def zb9:Int->LV->Int
 |x,[]=>x
 |x,y::r=>zb9 (min x y) r
def zdF:Int->LV->Int
 |x,[]=>x
 |x,y::r=>zdF (max x y) r
def zdN{α:Type}(a:LJ)(s:SV)(enc:α->LR)(ys:List α):Prop:=
 match s with
 |.val (.slice none 0 0)=>ys=[]
 |.own k=>zi6 a (.own k)=.sl enc ys
 |s=>s=.sl enc ys
inductive Sl (p q:Prop) (r:Prop:=False):Prop
 |see (h:p)
 |keep (h:q)
 |win (h:r)
def zjM(H:LS)(tys:List TypeId)(s x:SV)(a:LJ)(Y:Nat)(K:LD):Prop:=
 match tys with
 |[t,c]=>zR (Nat.beq t c) (k7 H t λi=>(match i.kind with
  |.slice e=>k7 H e λj=>(match s with
   |.val (.slice none 0 0)=>∃(α:Type) (enc:α->LR) (ys:List α),zdN a x enc ys/\
     Ob ((ys.length:Int)*j.bytes<=140737488355328/\ys.length<=281474976710656/\0<j.sz/\∀x∈ys,(enc x).length=j.sz) (K (.own Y) (.push (.arr e enc j.sz ys)))
   |.own k=>(match a k with
    |some (.arr b enc sz xs)=>zR (Nat.beq e b) (zR (Nat.beq sz j.sz) (∃ys,zdN a x enc ys/\
     Ob ((xs.length+ys.length:Int)*j.bytes<=140737488355328/\xs.length+ys.length<=281474976710656/\0<j.sz/\∀x∈ys,(enc x).length=j.sz)
      (K (.own Y) (.repl k (.arr e enc sz (xs++ys))))))
    |some (.garr b sz xs)=>zR (Nat.beq e b) (zR (Nat.beq sz j.sz) (∃(α:Type) (enc:α->LR) (ys:List α),zdN a x enc ys/\
     Ob ((xs.length+ys.length:Int)*j.bytes<=140737488355328/\xs.length+ys.length<=281474976710656/\0<j.sz/\∀x∈ys,(enc x).length=j.sz)
      (K (.own Y) (.repl k (.garr e sz (xs++ys.map enc))))))
    |_=>False)
   |.full enc xs=>∃ys,zdN a x enc ys/\
     Ob (ys≠[]/\(xs.length+ys.length:Int)*j.bytes<=140737488355328/\xs.length+ys.length<=281474976710656/\0<j.sz/\(∀x∈xs,(enc x).length=j.sz)/\∀x∈ys,(enc x).length=j.sz)
      (K (.own Y) (.push (.arr e enc j.sz (xs++ys))))
   |.nils=>Sl (∃(α:Type) (enc:α->LR) (ys:List α),zdN a x enc ys/\
     Ob (ys≠[]/\(ys.length:Int)*j.bytes<=140737488355328/\ys.length<=281474976710656/\0<j.sz/\∀x∈ys,(enc x).length=j.sz) (K (.own Y) (.push (.arr e enc j.sz ys))))
     (∃(α:Type) (enc:α->LR),zdN a x enc ([]:List α)/\0<j.sz/\K .nils .none)
   |_=>False)
  |_=>False))
 |_=>False
def zkl(H:LS)(tys:List TypeId)(s:SV)(b:TypeId)(a:Nat)(ys:LN)(c:LJ)(Y:Nat)(K:LD):Prop:=
 match tys with
 |[t,d]=>zR (Nat.beq t d) (k7 H t λi=>(match i.kind with
  |.slice e=>k7 H e λj=>zR (Nat.beq e b) (zR (Nat.beq a j.sz) (match s with
   |.val (.slice none 0 0)=>Ob ((ys.length:Int)*j.bytes<=140737488355328/\ys.length<=281474976710656/\0<j.sz) (K (.own Y) (.push (.garr e j.sz ys)))
   |.own k=>(match c k with
    |some (.garr e'' sz xs)=>zR (Nat.beq e e'') (zR (Nat.beq sz j.sz)
      (Ob ((xs.length+ys.length:Int)*j.bytes<=140737488355328/\xs.length+ys.length<=281474976710656/\0<j.sz) (K (.own Y) (.repl k (.garr e sz (xs++ys))))))
    |_=>False)
   |_=>False))
  |_=>False))
 |_=>False
def zuL(H:LS)(tys:List TypeId)(s:SV)(n:Int)(Y:Nat)(K:LD):Prop:=
 match tys,s with
 |[t,b],.val (.slice none 0 0)=>k7 H t λi=>k7 H b λa=>(match i.kind,a.kind with
  |.slice e,.int _=>k7 H e λj=>∃(α:Type) (enc:α->LR) (z:α),
    enc z=vals j.zero/\Ob (0<j.sz/\0<n/\n*j.bytes<=140737488355328/\n<=281474976710656) (K (.own Y) (.push (.arr e enc j.sz (List.replicate n.toNat z))))
  |_,_=>False)
 |_,_=>False
def zkm(H:LS)(b:Builtin)(tys:List TypeId)(args:LR)(c:LJ)(Y:Nat)(K:LD):Prop:=
 match b,args with
 |.len,[s]=>(match tys with
  |[t]=>k7 H t λi=>(match i.kind with
   |.slice _=>zES c s λn=>K (.val (.int .i64 n)) .none
   |_=>False)
  |_=>False)
 |.cap,[s]=>(match tys with
  |[t]=>k7 H t λi=>(match i.kind with
   |.slice _=>(match s with
    |.val (.slice none 0 0)=>K (.val (.int .i64 0)) .none
    |.nils=>K (.val (.int .i64 0)) .none
    |_=>False)
   |_=>False)
  |_=>False)
 |.min,s=>zmG s λk l=>(match l with
  |x::r=>K (.val (.int k (zb9 x r))) .none
  |[]=>False)
 |.max,s=>zmG s λk l=>(match l with
  |x::r=>K (.val (.int k (zdF x r))) .none
  |[]=>False)
 |.append,[s,x]=>(match x with
  |.val (.int _ n)=>zuL H tys s n Y K
  |.own f=>(match c f with
   |some (.garr g a ys)=>zkl H tys s g a ys c Y K
   |_=>zjM H tys s (.own f) c Y K)
  |x=>zjM H tys s x c Y K)
 |.clear,[d]=>(match tys with
  |[t]=>k7 H t λi=>(match i.kind with
   |.slice e=>k7 H e λj=>(match d with
    |.win k a lo n=>(match c k with
     |some (.arr T (α:=α) enc sz xs)=>zR (Nat.beq sz j.sz) (zR (Nat.beq a sz) (∃z:α,enc z=vals j.zero/\
       Ob (0<=lo/\0<n/\lo+n<=xs.length) (K (.val (.tuple #[])) (.set k (.arr T enc sz (xs.take lo.toNat++(List.replicate n.toNat z++xs.drop (lo.toNat+n.toNat))))))))
     |_=>False)
    |_=>False)
   |_=>False)
  |_=>False)
 |_,_=>False
def zyM(H:LS)(t:TypeId)(s:SV)(c:LJ)(K:LD):Prop:=
 k7 H t λi=>(match s with
  |.loc k off=>(match c k with
   |some (.box _ a)=>zR (Nat.ble (off+i.sz) a.length) (mkV i.kind.agg i.sz (a.drop off) λs=>K s .none)
   |_=>False)
  |.ptr a=>zR (Nat.ble i.sz a.length) (mkV i.kind.agg i.sz a λs=>K s .none)
  |.dptr a=>zR (Nat.ble i.sz a.length) (mkV i.kind.agg i.sz a λs=>K s .none)
  |.eloc k sz n off=>(match c k with
   |some (.arr _ enc b xs)=>zR (Nat.beq sz b) (zR (Nat.ble (off+i.sz) sz) (Ob (0<=n/\n<xs.length) (∀x,xs[n.toNat]?=some x->
     mkV i.kind.agg i.sz ((enc x).drop off) λs=>K s .none)))
   |some (.garr _ b xs)=>zR (Nat.beq sz b) (zR (Nat.ble (off+i.sz) sz) (Ob (0<=n/\n<xs.length) (∀x,xs[n.toNat]?=some x->
     mkV i.kind.agg i.sz (x.drop off) λs=>K s .none)))
   |_=>False)
  |_=>False)
def ztc(H:LS)(t:TypeId)(s v:SV)(c:LJ)(K:LD):Prop:=
 k7 H t λi=>zR (j8 (kQ v)) (zR (Nat.beq (kQ v).length i.sz) (match s with
  |.loc k off=>(match c k with
   |some (.box T b)=>zR (Nat.ble (off+i.sz) b.length) (K (.val undef) (.set k (.box T (vq b off (kQ v)))))
   |_=>False)
  |.eloc k sz n off=>(match c k with
   |some (.arr T (α:=α) enc a xs)=>zR (Nat.beq sz a) (zR (Nat.ble (off+i.sz) sz) (match yd.flats (kQ v) with
    |true=>(Ob (0<=n/\n<xs.length) (∀x,xs[n.toNat]?=some x->
     ∃x':α,enc x'=vq (enc x) off (kQ v)/\K (.val undef) (.set k (.arr T enc sz (xs.set n.toNat x')))))
    |false=>(Ob (0<=n/\n<xs.length) (∀x,xs[n.toNat]?=some x->
     K (.val undef) (.set k (.garr T sz ((xs.map enc).set n.toNat (vq (enc x) off (kQ v)))))))))
   |some (.garr T a xs)=>zR (Nat.beq sz a) (zR (Nat.ble (off+i.sz) sz) (Ob (0<=n/\n<xs.length) (∀x,xs[n.toNat]?=some x->
     K (.val undef) (.set k (.garr T sz (xs.set n.toNat (vq x off (kQ v))))))))
   |_=>False)
  |_=>False))
def zyN(hi mx:Option Operand):Bool:=
 match mx,hi with
 |some _,none=>false
 |_,_=>true
def zyO:Option Operand->Bool
 |some (.const (.int _ n))=>(match n with
  |.ofNat m=>Nat.beq m 0
  |_=>false)
 |_=>false
inductive zyP (p q:Prop):Prop
 |sl (h:p)
 |full (h:q)
def zca:Option Operand->Bool
 |none=>true
 |_=>false
def ztd(H:LS)(t:TypeId)(lo hi mx:Option Operand)(b:LR)(c:LJ)(Y:Nat)(K:LD):Prop:=
 zR (zyN hi mx) (match b with
 |s::rest=>k7 H t λi=>(match i.kind with
  |.slice e=>k7 H e λj=>(match s with
   |.sl enc xs=>(match yB (zyO hi) (zyO mx) with
    |true=>jE lo rest 0 λl rest=>jE hi rest 0 λh rest=>jE mx rest 0 λm _=>Ob (l=0/\h=0/\m=0) (K .nils .none)
    |false=>jE lo rest 0 λl rest=>jE hi rest xs.length λh rest=>jE mx rest xs.length λm _=>(match zca mx with
     |true=>Ob ((0<=l/\l<=h/\h<=m/\m<=xs.length)/\∀x∈xs,(enc x).length=j.sz) (K (.sl enc ((xs.drop l.toNat).take (h-l).toNat)) .none)
     |false=>zyP (Ob ((0<=l/\l<=h/\h<=m/\m<=xs.length)/\∀x∈xs,(enc x).length=j.sz) (K (.sl enc ((xs.drop l.toNat).take (h-l).toNat)) .none))
      (Ob ((0<=l/\l<=h/\h=m/\m<=xs.length)/\∀x∈xs,(enc x).length=j.sz) (K (.full enc ((xs.drop l.toNat).take (h-l).toNat)) .none))))
   |.val (.slice none 0 0)=>jE lo rest 0 λl rest=>jE hi rest 0 λh rest=>jE mx rest 0 λm _=>Ob (l=0/\h=0/\m=0) (K (.val (.slice none 0 0)) .none)
   |.own k=>(match c k with
    |some (.arr T enc sz xs)=>zR (Nat.beq sz j.sz) (jE lo rest 0 λl rest=>jE hi rest xs.length λh rest=>jE mx rest xs.length λm _=>
     Sl (Ob (0<=l/\l<=h/\h<=m/\m<=xs.length) (K (.sl enc ((xs.drop l.toNat).take (h-l).toNat)) (.drop k)))
      (zR (zca mx) (Ob (l=0/\0<=h/\h<=xs.length) (K (.own Y) (.repl k (.arr T enc sz (xs.take h.toNat))))))
      (Ob (0<=l/\l<h/\h<=m/\m<=xs.length) (K (.win k sz l (h-l)) .none)))
    |some (.garr T sz xs)=>zR (Nat.beq sz j.sz) (zR (zca mx) (jE lo rest 0 λl rest=>jE hi rest xs.length λh _=>
      (Ob (l=0/\0<=h/\h<=xs.length) (K (.own Y) (.repl k (.garr T sz (xs.take h.toNat)))))))
    |_=>False)
   |.win k sz a n=>zR (Nat.beq sz j.sz) (jE lo rest 0 λl rest=>jE hi rest n λh rest=>jE mx rest n λm _=>
     Ob (0<=a/\0<=l/\l<h/\h<=m/\m<=n) (K (.win k sz (a+l) (h-l)) .none))
   |_=>False)
  |_=>False)
 |[]=>False)
def zm0(H:LS)(t:TypeId)(lo hi mx:Option Operand)(a:LR)(K:LD):Prop:=
 zR (yB (zca lo) (yB (zca hi) (zca mx))) (k7 H t λi=>(match i.kind with
  |.arr n e=>k7 H e λj=>∃(α:Type) (enc:α->LR) (xs:List α),zft enc xs=a/\
    Ob (xs.length=n/\n<=281474976710656/\∀x∈xs,(enc x).length=j.sz) (K (.sl enc xs) .none)
  |_=>False))
def zoJ(H:LS)(t:TypeId)(lo hi mx:Option Operand)(a:LR)(c:LJ)(Y:Nat)(K:LD):Prop:=
 match a with
 |[.dptr b]=>zm0 H t lo hi mx b K
 |a=>ztd H t lo hi mx a c Y K
inductive zgz (p q:Prop):Prop
 |own (h:p)
 |data (h:q)
def boxV(H:LS)(e:TypeId)(s:SV)(Y:Nat)(K:LD):Prop:=
 zR (j8 (kQ s)) (match ti H e with
  |some i=>(match i.kind with
   |.arr _ _=>(match yd.flats (kQ s) with
    |true=>zgz (K (.loc Y 0) (.push (.box e (kQ s)))) (K (.dptr (kQ s)) .none)
    |false=>K (.loc Y 0) (.push (.box e (kQ s))))
   |_=>K (.loc Y 0) (.push (.box e (kQ s))))
  |none=>K (.loc Y 0) (.push (.box e (kQ s))))
def zfW(H:LS)(t:TypeId)(f:Nat)(s:SV)(K:LD):Prop:=
 k7 H t λi=>(match i.kind with
  |.struct fs=>(match zqi fs f with
   |some (off,ft)=>k7 H ft λj=>zR (Nat.blt 0 j.sz) (match s with
    |.loc k o'=>K (.loc k (o'+off)) .none
    |.ptr a=>K (.ptr (a.drop off)) .none
    |.dptr a=>K (.dptr (a.drop off)) .none
    |.eloc k sz i o'=>K (.eloc k sz i (o'+off)) .none
    |_=>False)
   |none=>False)
  |_=>False)
def zfX(H:LS)(t:TypeId)(s n:SV)(c:LJ)(K:LD):Prop:=
 k7 H t λi=>(match n with
  |.val (.int _ n)=>(match i.kind with
   |.slice e=>k7 H e λj=>(match s with
    |.sl enc xs=>Ob (0<=n/\n<xs.length) (∀x,xs[n.toNat]?=some x->zR (Nat.beq (enc x).length j.sz) (K (.ptr (enc x)) .none))
    |.own k=>(match c k with
     |some (.arr _ _ sz xs)=>zR (Nat.beq sz j.sz) (Ob (0<=n/\n<xs.length) (K (.eloc k sz n 0) .none))
     |some (.garr _ sz xs)=>zR (Nat.beq sz j.sz) (Ob (0<=n/\n<xs.length) (K (.eloc k sz n 0) .none))
     |_=>False)
    |.win k sz lo l=>zR (Nat.beq sz j.sz) (Ob (0<=lo/\0<=n/\n<l) (K (.eloc k sz (lo+n) 0) .none))
    |_=>False)
   |.arr len e=>k7 H e λj=>(match n with
    |.ofNat m=>zR (Nat.blt m len) (match s with
     |.loc k off=>K (.loc k (off+m*j.sz)) .none
     |.ptr a=>K (.ptr (a.drop (m*j.sz))) .none
     |.dptr a=>K (.dptr (a.drop (m*j.sz))) .none
     |.eloc k sz b o'=>K (.eloc k sz b (o'+m*j.sz)) .none
     |_=>False)
    |_=>False)
   |_=>False)
  |_=>False)
def zte(H:LS)(t:TypeId)(s n:SV)(K:LD):Prop:=
 k7 H t λi=>(match i.kind,s,n with
  |.arr len e,.agg a,.val (.int _ n)=>k7 H e λj=>(match n with
   |.ofNat m=>zR (Nat.blt m len) (zR (Nat.ble (m*j.sz+j.sz) a.length) (mkV j.kind.agg j.sz (a.drop (m*j.sz)) λs=>K s .none))
   |_=>False)
  |.str,.val (.string s),.val (.int _ n)=>Ob (0<=n/\n<s.size) (∀b:UInt8,s[n.toNat]?=some b->K (.val (.int .u8 b.toNat)) .none)
  |_,_,_=>False)
def ztf(H:LS)(t:TypeId)(ids:LC)(a:LR)(K:LD):Prop:=
 k7 H t λi=>(match i.kind with
  |.struct fs=>zR (zb8 (zkk H fs) i.sz ids a) (K (.agg (zcP (zkk H fs) ids a (vals i.zero))) .none)
  |.arr _ e=>k7 H e λj=>zR (zb8 (zaK j.sz) i.sz ids a) (K (.agg (zcP (zaK j.sz) ids a (vals i.zero))) .none)
  |_=>False)
def zFB:SV->Bool
 |.loc _ _=>false
 |.own _=>false
 |.eloc _ _ _ _=>false
 |.win _ _ _ _=>false
 |.ptr _=>false
 |.agg a=>yd.flats a
 |_=>true
def selB:LR->Bool
 |[]=>true
 |s::r=>match zFB s with
  |true=>selB r
  |false=>false
def zdO(H:LS)(t:TypeId)(n:Nat)(ids:LC)(a:LR)(Y:Nat)(K:LD):Prop:=
 k7 H t λi=>(match i.kind with
  |.slice e=>k7 H e λj=>zR (zb8 (zaK j.sz) (n*j.sz) ids a) (match selB a with
    |true=>(∃(α:Type) (enc:α->LR) (xs:List α),
     zft enc xs=zcP (zaK j.sz) ids a (rep n (vals j.zero))/\
     Ob (xs.length=n/\n<=281474976710656/\n*j.sz<=16777216/\0<j.sz/\∀x∈xs,(enc x).length=j.sz/\j8 (enc x)=true/\yd.flats (enc x)=true) (K (.own Y) (.push (.arr e enc j.sz xs))))
    |false=>zR (j8 (zcP (zaK j.sz) ids a (rep n (vals j.zero)))) (∃(xs:LN),
     zft id xs=zcP (zaK j.sz) ids a (rep n (vals j.zero))/\
     Ob (xs.length=n/\n<=281474976710656/\n*j.sz<=16777216/\0<j.sz/\∀x∈xs,x.length=j.sz) (K (.own Y) (.push (.garr e j.sz xs)))))
  |_=>False)
def zfY(H:LS)(t:TypeId)(l c:SV)(Y:Nat)(K:LD):Prop:=
 k7 H t λi=>(match i.kind,l,c with
  |.slice e,.val (.int _ n),.val (.int _ m)=>k7 H e λj=>∃(α:Type) (enc:α->LR) (z:α),
    enc z=vals j.zero/\Ob (0<j.sz/\0<=n/\n<=m/\m*j.bytes<=281474976710656/\m<=281474976710656) (K (.own Y) (.push (.arr e enc j.sz (List.replicate n.toNat z))))
  |_,_,_=>False)
def zyQ(c a b:SV)(K:LD):Prop:=
 match c with
 |.val (.bool true)=>K a .none
 |.val (.bool false)=>K b .none
 |.pr p _=>Br (p->K a .none) (¬p->K b .none)
 |_=>False
def unV(op:UnOp)(s:SV)(K:LD):Prop:=
 match op,s with
 |.not,.val (.bool true)=>K (.val (.bool false)) .none
 |.not,.val (.bool false)=>K (.val (.bool true)) .none
 |.not,.pr p i=>K (.pr (¬p) (@instDecidableNot _ i)) .none
 |.neg,.val (.int k n)=>zmE k (- n) λs=>K s .none
 |_,_=>False
def uG:Option Operand->List Operand
 |none=>[]
 |some x=>[x]
def zeN:Callee->List Operand
 |.value f=>[f]
 |.invoke r _=>[r]
 |.builtin _=>[]
def qi:Op->List Operand
 |.move x=>[x]
 |.assign x=>[x]
 |.pick c a b=>[c,a,b]
 |.box _ x=>[x]
 |.build _ d=>d.toList.map (·.2)
 |.buildSlice _ _ d=>d.toList.map (·.2)
 |.load _ a=>[a]
 |.store _ a x=>[a,x]
 |.nilCheck x=>[x]
 |.binOp _ _ x y _=>[x,y]
 |.unOp _ _ x=>[x]
 |.convert _ _ x=>[x]
 |.makeFunc _ first caps=>first.toList++caps.toList
 |.makeSlice _ l c=>[l,c]
 |.makeInterface _ x=>[x]
 |.typeAssert x _ _ _=>[x]
 |.makeMap _ r=>uG r
 |.mapUpdate _ m k x=>[m,k,x]
 |.insert _ m k x=>[m,k,x]
 |.lookup _ m k _=>[m,k]
 |.slice _ x lo hi mx=>x::(uG lo++(uG hi++uG mx))
 |.fieldAddr _ x _=>[x]
 |.field _ x _=>[x]
 |.indexAddr _ x i=>[x,i]
 |.index _ x i=>[x,i]
 |.extract x _=>[x]
 |.call c=>zeN c.callee++c.args.toList
 |_=>[]
def zyR(a:List (Int×SV))(n:Int)(K1:SV->Prop)(K0:Prop):Prop:=
 List.rec (motive:=λ_=>Prop) K0 (λx _ b=>match x with
  |(k,s)=>Br (n=k->K1 s) (¬n=k->b)) a
def zyS(a:List (Int×SV))(n:Int)(s:SV):(List (Int×SV)->Prop)->Prop:=
 List.rec (motive:=λ_=>(List (Int×SV)->Prop)->Prop) (λK=>K [(n,s)]) (λx r b K=>match x with
  |(k,s')=>Br (n=k->K ((n,s)::r)) (¬n=k->b λc=>K ((k,s')::c))) a
def zkn(H:LS)(t:TypeId)(a:LR)(Y:Nat)(K:LD):Prop:=
 k7 H t λi=>(match i.kind with
  |.map _ _=>(match a with
   |[]=>K (.own Y) (.push (.map []))
   |.val (.int _ _)::_=>K (.own Y) (.push (.map []))
   |_=>False)
  |_=>False)
def zcQ(H:LS)(t:TypeId)(m k s:SV)(d:LJ)(K:LD):Prop:=
 k7 H t λi=>(match i.kind with
  |.map kt _=>k7 H kt λj=>(match j.kind,m,k with
   |.int .i64,.own c,.val (.int .i64 n)=>(match d c with
    |some (.map b)=>zR (yd s) (zyS b n s λa=>K (.val undef) (.set c (.map a)))
    |_=>False)
   |_,_,_=>False)
  |_=>False)
def zuM(ok:Bool)(s:SV)(b:Bool)(K:LD):Prop:=
 match ok with
 |true=>K (.tup [s,.val (.bool b)]) .none
 |false=>vT s λs=>K s .none
def zoK(H:LS)(t:TypeId)(ok:Bool)(m k:SV)(d:LJ)(K:LD):Prop:=
 k7 H t λi=>(match i.kind with
  |.map kt b=>k7 H kt λj=>k7 H b λz=>(match j.kind,m,k with
   |.int .i64,.own c,.val (.int .i64 n)=>(match d c with
    |some (.map a)=>zyR a n (λs=>zuM ok s true K) (mkV z.kind.agg z.sz (vals z.zero) λs=>zuM ok s false K)
    |_=>False)
   |_,_,_=>False)
  |_=>False)
def zko(H:LS)(t:TypeId)(s:SV)(K:LD):Prop:=
 k7 H t λi=>(match i.kind with
  |.iface=>False
  |.other=>False
  |_=>K (.ifc t s) .none)
def zuN:LR->(LA->Prop)->Prop
 |[],K=>K []
 |.val v::r,K=>zuN r λvs=>K (v::vs)
 |_,_=>False
def conc(s:SV)(K:Value->Prop):Prop:=
 match s with
 |.val v=>K v
 |.agg a=>zuN a λvs=>K (.agg vs.toArray)
 |_=>False
def zuO:LR->(LA->Prop)->Prop
 |[],K=>K []
 |s::r,K=>conc s λv=>zuO r λvs=>K (v::vs)
def zyT:LR->Bool
 |[]=>true
 |.val _::r=>zyT r
 |_=>false
def zyU:LR->Bool
 |[]=>true
 |.val _::r=>zyU r
 |.agg a::r=>yB (zyT a) (zyU r)
 |_=>false
def ofV(v:Value):SV:=
 match v with
 |.agg a=>.agg (a.toList.map .val)
 |v=>.val v
def opV(P:Program)(H:LS)(op:Op)(d:LR)(g:LJ)(Y:Nat)(K:LD):Prop:=
 match op,d with
 |.move _,[s]=>K s .none
 |.assign _,[s]=>K s .none
 |.pick _ _ _,[c,a,b]=>zyQ c a b K
 |.alloc e,_=>k7 H e λi=>K (.loc Y 0) (.push (.box e (vals i.zero)))
 |.box e _,[s]=>boxV H e s Y K
 |.build t o,d=>ztf H t (o.toList.map (·.1)) d K
 |.buildSlice t n o,d=>zdO H t n (o.toList.map (·.1)) d Y K
 |.load t _,[s]=>zyM H t s g K
 |.store t _ _,[s,v]=>ztc H t s v g K
 |.nilCheck _,[s]=>(match s with
  |.loc k off=>K (.loc k off) .none
  |.ptr h=>K (.ptr h) .none
  |.dptr h=>K (.dptr h) .none
  |.eloc k sz i off=>K (.eloc k sz i off) .none
  |.ifc t s=>K (.ifc t s) .none
  |_=>False)
 |.binOp op t _ y _,[a,b]=>bin H op t y a b λs=>K s .none
 |.unOp op _ _,[s]=>unV op s K
 |.convert p t _,[s]=>k7 H p λ_=>k7 H t λi=>(match i.kind,s with
  |.int k,.val (.int _ n)=>zmE k n λs=>K s .none
  |_,_=>False)
 |.makeFunc fn first caps,d=>(match fn with
  |.func f=>(match first.isEmpty with
   |true=>K (.fn f d) .none
   |false=>zR caps.isEmpty (match zyU d with
    |true=>zuO d λvs=>K (.val (.func (.func f) vs.toArray #[])) .none
    |false=>zR (yd.flats d) (K (.bm f d) .none)))
  |_=>False)
 |.makeSlice t _ _,[l,c]=>zfY H t l c Y K
 |.slice t _ lo hi mx,d=>zoJ H t lo hi mx d g Y K
 |.fieldAddr t _ f,[s]=>zfW H t f s K
 |.field t _ f,[s]=>k7 H t λi=>(match i.kind,s with
  |.struct fs,.agg h=>(match zqi fs f with
   |some (off,ft)=>k7 H ft λj=>zR (Nat.ble (off+j.sz) h.length) (mkV j.kind.agg j.sz (h.drop off) λs=>K s .none)
   |none=>False)
  |_,_=>False)
 |.indexAddr t _ _,[s,n]=>zfX H t s n g K
 |.index t _ _,[s,n]=>zte H t s n K
 |.extract _ n,[s]=>(match s with
  |.tup vs=>(match vs.drop n with
   |v::_=>vT v λv=>K v .none
   |[]=>False)
  |_=>False)
 |.makeInterface t _,[s]=>zko H t s K
 |.makeMap t _,d=>zkn H t d Y K
 |.mapUpdate t _ _ _,[m,k,s]=>zcQ H t m k s g K
 |.insert t _ _ _,[m,k,s]=>zcQ H t m k s g K
 |.lookup t _ _ ok,[m,k]=>zoK H t ok m k g K
 |.call c,d=>(match c.callee with
  |.value _=>(match d with
   |.fn f caps::args=>zb P g Y f (args++caps) K
   |.val (.func (.func f) first ⟨[]⟩)::args=>zb P g Y f (first.toList.map ofV++args) K
   |.dfn f caps::args=>zb P g Y f (args++caps) K
   |.bm f first::args=>zb P g Y f (first++args) K
   |_=>False)
  |.invoke _ _=>False
  |.builtin b=>zkm H b c.argTypes.toList d g Y K)
 |_,_=>False
def zaZ(M:LT)(Y k:Nat):Option Mem:=
 match Nat.blt k Y with
 |true=>zW M k
 |false=>none
def zm1(d:Option Tmp)(nt:Nat)(K:Prop):Prop:=
 match d with
 |some d=>zR (Nat.blt d nt) K
 |none=>K
def zdw:Op->Bool
 |.load _ _=>true
 |.store _ _ _=>true
 |.slice _ _ _ _ _=>true
 |.indexAddr _ _ _=>true
 |.mapUpdate _ _ _ _=>true
 |.insert _ _ _ _=>true
 |.lookup _ _ _ _=>true
 |.call _=>true
 |_=>false
def zyV:Op->Bool
 |.call c=>(match c.callee with
  |.builtin .append=>true
  |.builtin .copy=>true
  |_=>false)
 |_=>false
def isW:Op->Bool
 |.store _ _ _=>true
 |.mapUpdate _ _ _ _=>true
 |.insert _ _ _ _=>true
 |o=>zyV o
def zdP:Op->Bool
 |.store _ _ _=>true
 |.alloc _=>true
 |.box _ _=>true
 |.buildSlice _ _ _=>true
 |.makeSlice _ _ _=>true
 |.makeMap _ _=>true
 |.mapUpdate _ _ _ _=>true
 |.insert _ _ _ _=>true
 |o=>zyV o
def ztg(acc:LC)(o:Oper):Nat:=o.after.toList.foldl (λs e=>if Region.binds .any e then s|||2^e.on|||acc.getD e.on 0 else s) 0
def zbT(all:List Oper):Nat->LC
 |0=>[]
 |j+1=>let acc:=zbT all j;acc++[match all[j]? with|some o=>ztg acc o|none=>0]
def zdQ:List Oper->Nat->Option Tmp
 |[],_=>none
 |o::_,0=>o.dst
 |_::r,n+1=>zdQ r n
def zhY:List Operand->LC
 |[]=>[]
 |.tmp t::r=>t::zhY r
 |_::r=>zhY r
def zcR(all:List Oper)(o:Oper):LC:=
 zhY (qi o.op)++(match o.guard with
  |some (j,_)=>(match zdQ all j with
   |some t=>[t]
   |none=>[])
  |none=>[])
def uA(o:Oper):LC:=o.dst.toList
def zdR(a b:LC):Bool:=a.any λx=>b.any λy=>Nat.beq x y
def zwI(all:List Oper)(oi oj:Oper):Bool:=
 (zdP oi.op&&zdw oj.op)||(zdw oi.op&&isW oj.op)||zdR (uA oi) (zcR all oj)||zdR (uA oi) (uA oj)||zdR (zcR all oi) (uA oj)
def zjN(ops:List Oper):Bool:=
 (List.range ops.length).all λj=>(match ops[j]? with
  |some o=>o.after.toList.all λe=>!Region.binds .any e||Nat.blt e.on j
  |none=>true)
def vt(ops:List Oper):Bool:=
 let ms:=zbT ops ops.length
 zjN ops&&(List.range ops.length).all λj=>(List.range j).all λi=>(ms.getD j 0).testBit i||!(match ops[i]?,ops[j]? with
  |some oi,some oj=>zwI ops oi oj
  |_,_=>false)
def zoL(ops:List Oper)(i:Nat):Bool:=
 let ms:=zbT ops ops.length
 (List.range ops.length).all λj=>Nat.ble j i||(ms.getD j 0).testBit i||!(match ops[j]? with
  |some oj=>zdw oj.op
  |none=>false)
def mdV(draw:Bool)(all:List Oper)(i Y:Nat)(op:Op)(a:MD)(K:Prop):Prop:=
 match draw with
 |false=>K
 |true=>(match isW op with
  |true=>(match a with
   |.drop _=>False
   |.set k _=>zR (Nat.blt k Y) K
   |.repl k _=>zR (Nat.blt k Y) K
   |.give _ _ _=>False
   |_=>K)
  |false=>(match a with
   |.none=>K
   |.push _=>(match zdP op with
    |true=>K
    |false=>Dr (zoL all i=true) K False)
   |_=>False))
def zqn(n:Nat):LI->Prop:=
 Nat.rec (motive:=λ_=>LI->Prop) (λK=>K 0) (λ_ a K=>a λm=>K (m+1)) n
def zfZ:∀{n:Nat} {K:LI},zqn n K->K n
 |0,_,h=>h
 |n+1,_,h=>zfZ (n:=n) h
def zoM(l:LR):(LR->Prop)->Prop:=
 List.rec (motive:=λ_=>(LR->Prop)->Prop) (λK=>K []) (λc _ a K=>a λr=>K (c::r)) l
def zbU:∀{l:LR} {K:LR->Prop},zoM l K->K l
 |[],_,h=>h
 |c::l,K,h=>zbU (l:=l) (K:=λr=>K (c::r)) h
def zoN(s:SV)(K:SV->Prop):Prop:=
 match s with
 |.agg a=>zoM a λa=>K (.agg a)
 |s=>K s
def zdS{s:SV}{K:SV->Prop}(h:zoN s K):K s:=by
 unfold zoN at h
 split at h
 .exact zbU (K:=λa=>K (.agg a)) h
 exact h
def zoO(b:MD)(K:MD->Prop):Prop:=
 match b with
 |.push m=>(match m with
  |.box T a=>zoM a λa=>K (.push (.box T a))
  |m=>K (.push m))
 |.set k m=>(match m with
  |.box T a=>zoM a λa=>K (.set k (.box T a))
  |m=>K (.set k m))
 |b=>K b
def zdT{b:MD}{K:MD->Prop}(h:zoO b K):K b:=by
 unfold zoO at h
 split at h
 .split at h
  .rename_i T a;exact zbU (K:=λa=>K (.push (.box T a))) h
  exact h
 .rename_i k _;split at h
  .rename_i T a;exact zbU (K:=λa=>K (.set k (.box T a))) h
  exact h
 exact h
def St.withK(Z:St)(Y:Nat):St:=⟨Z.L,Z.M,Y,Z.nt,Z.n0⟩
def zdU(P:Program)(H:LS)(draw:Bool)(all:List Oper)(i:Nat)(o:Oper)(Z:St)(K:St->Prop):Prop:=
 zqn Z.nk λY=>evs Z.L (qi o.op) λb=>opV P H o.op b (zaZ Z.M Y) Y λs a=>zoN s λs=>zoO a λa=>mdV draw all i Y o.op a (zm1 o.dst Z.nt (K ((Z.withK Y).app o.dst s a)))
def zaL(o:Oper)(Z:St)(K:St->Prop):Prop:=zm1 o.dst Z.nt (K (Z.app o.dst (.val undef) .none))
def ve(P:Program)(H:LS)(draw:Bool)(all:List Oper)(l:List Oper):Nat->St->(St->Prop)->Prop:=
 List.rec (motive:=λ_=>Nat->St->(St->Prop)->Prop) (λ_ Z K=>K Z) (λo _ a i Z K=>match o.guard with
  |none=>zdU P H draw all i o Z λZ=>a (i+1) Z K
  |some (j,want)=>(match zdQ all j with
   |none=>False
   |some t=>(match kF Z.L t with
    |some (.val (.bool true))=>(match want with
     |true=>zdU P H draw all i o Z λZ=>a (i+1) Z K
     |false=>zaL o Z λZ=>a (i+1) Z K)
    |some (.val (.bool false))=>(match want with
     |false=>zdU P H draw all i o Z λZ=>a (i+1) Z K
     |true=>zaL o Z λZ=>a (i+1) Z K)
    |some (.pr p _)=>(match want with
     |true=>Br (p->zdU P H draw all i o (Z.put (some t) (.val (.bool true))) λZ=>a (i+1) Z K)
       (¬p->zaL o (Z.put (some t) (.val (.bool false))) λZ=>a (i+1) Z K)
     |false=>Br (p->zaL o (Z.put (some t) (.val (.bool true))) λZ=>a (i+1) Z K)
       (¬p->zdU P H draw all i o (Z.put (some t) (.val (.bool false))) λZ=>a (i+1) Z K))
    |some (.val (.tuple _))=>zaL o Z λZ=>a (i+1) Z K
    |_=>False))) l
def zET:SV->LC
 |.loc k _=>[k]
 |.own k=>[k]
 |.eloc k _ _ _=>[k]
 |.win k _ _ _=>[k]
 |_=>[]
def zdV:LR->LC
 |[]=>[]
 |c::a=>zET c++zdV a
def zkp:LR->Bool
 |[]=>true
 |c::a=>(match c with
  |.val _=>zkp a
  |.pr _ _=>zkp a
  |.sl _ _=>zkp a
  |_=>false)
def zhZ:LR->Bool
 |[]=>true
 |c::a=>(match c with
  |.val _=>zhZ a
  |.pr _ _=>zhZ a
  |.sl _ _=>zhZ a
  |.agg xs=>(match zkp xs with
   |true=>zhZ a
   |false=>false)
  |.fn _ xs=>(match zkp xs with
   |true=>zhZ a
   |false=>false)
  |_=>false)
def zqo(op:Op)(a:LR):Option LC:=
 match op with
 |.call c=>(match c.callee with
  |.builtin _=>some (zdV a)
  |_=>(match zhZ a with
   |true=>some []
   |false=>none))
 |.store _ _ _=>(match a with
  |s::_=>some (zET s)
  |[]=>some [])
 |.load _ _=>some (zdV a)
 |.slice _ _ _ _ _=>some (zdV a)
 |.indexAddr _ _ _=>some (zdV a)
 |.mapUpdate _ _ _ _=>some (zdV a)
 |.insert _ _ _ _=>some (zdV a)
 |.lookup _ _ _ _=>some (zdV a)
 |_=>some []
structure Ent where
 u:Option LC
 nk:Nat
 t:LC
def zfr(k:Nat):LC->Bool
 |[]=>false
 |x::r=>match Nat.beq x k with
  |true=>true
  |false=>zfr k r
def zdx(u:Option LC)(a k:Nat):Bool:=
 match u with
 |none=>Nat.blt k a
 |some l=>zfr k l
def lmU(u:Option LC)(b:Nat)(a:LJ)(k:Nat):Option Mem:=
 match zdx u b k with
 |true=>a k
 |false=>none
def zth(Y:Nat):Nat->LC
 |0=>[]
 |n+1=>(Y+n)::zth Y n
def zh0(Y:Nat):MD->LC
 |.none=>[]
 |.push _=>[Y]
 |.set k _=>[k]
 |.drop k=>[k]
 |.repl k _=>[k,Y]
 |.give ks _ nn=>ks++zth Y nn
def zuP(e:Ent):LC->Bool
 |[]=>false
 |k::r=>match zdx e.u e.nk k with
  |true=>true
  |false=>match zfr k e.t with
   |true=>true
   |false=>zuP e r
def zuQ(x:Ent):LC->Bool
 |[]=>false
 |k::r=>match zdx x.u x.nk k with
  |true=>true
  |false=>zuQ x r
def zqp(x e:Ent):Bool:=
 match zuP e x.t with
 |true=>true
 |false=>zuQ x e.t
def prOK(m:Nat)(e:Ent):List Ent->Bool
 |[]=>true
 |x::r=>(m.testBit r.length||!zqp x e)&&prOK m e r
def zkq(ms:LC):List Ent->Bool
 |[]=>true
 |e::r=>prOK (ms.getD r.length 0) e r&&zkq ms r
def zkr(all:List Oper)(oi oj:Oper):Bool:=
 zdR (uA oi) (zcR all oj)||zdR (uA oi) (uA oj)||zdR (zcR all oi) (uA oj)
def zf0(ops:List Oper):Bool:=
 let ms:=zbT ops ops.length
 zjN ops&&(List.range ops.length).all λj=>(List.range j).all λi=>(ms.getD j 0).testBit i||!(match ops[i]?,ops[j]? with
  |some oi,some oj=>zkr ops oi oj
  |_,_=>false)
def mdD(Y:Nat)(a:MD)(K:Prop):Prop:=
 match a with
 |.drop k=>zR (Nat.blt k Y) K
 |.set k _=>zR (Nat.blt k Y) K
 |.repl k _=>zR (Nat.blt k Y) K
 |.give ks new nn=>zR (yB (ztb ks Y nn new) (zfV new Y nn)) K
 |_=>K
def zbV(P:Program)(H:LS)(o:Oper)(Z:St)(K:Ent->St->Prop):Prop:=
 zqn Z.nk λY=>evs Z.L (qi o.op) λa=>opV P H o.op a (lmU (zqo o.op a) Y (zaZ Z.M Y)) Y λs b=>zoN s λs=>zoO b λb=>mdD Y b (zm1 o.dst Z.nt (K ⟨zqo o.op a,Y,zh0 Y b⟩ ((Z.withK Y).app o.dst s b)))
def zm2:Ent:=⟨some [],0,[]⟩
def zbl(P:Program)(H:LS)(all:List Oper)(l:List Oper):Nat->List Ent->St->(St->Prop)->Prop:=
 List.rec (motive:=λ_=>Nat->List Ent->St->(St->Prop)->Prop) (λ_ acc Z K=>Ob (zkq (zbT all all.length) acc=true) (K Z)) (λo _ a i acc Z K=>match o.guard with
  |none=>zbV P H o Z λe Z=>a (i+1) (e::acc) Z K
  |some (j,want)=>(match zdQ all j with
   |none=>False
   |some t=>(match kF Z.L t with
    |some (.val (.bool true))=>(match want with
     |true=>zbV P H o Z λe Z=>a (i+1) (e::acc) Z K
     |false=>zaL o Z λZ=>a (i+1) (zm2::acc) Z K)
    |some (.val (.bool false))=>(match want with
     |false=>zbV P H o Z λe Z=>a (i+1) (e::acc) Z K
     |true=>zaL o Z λZ=>a (i+1) (zm2::acc) Z K)
    |some (.pr p _)=>(match want with
     |true=>Br (p->zbV P H o (Z.put (some t) (.val (.bool true))) λe Z=>a (i+1) (e::acc) Z K)
       (¬p->zaL o (Z.put (some t) (.val (.bool false))) λZ=>a (i+1) (zm2::acc) Z K)
     |false=>Br (p->zaL o (Z.put (some t) (.val (.bool true))) λZ=>a (i+1) (zm2::acc) Z K)
       (¬p->zbV P H o (Z.put (some t) (.val (.bool false))) λe Z=>a (i+1) (e::acc) Z K))
    |some (.val (.tuple _))=>zaL o Z λZ=>a (i+1) (zm2::acc) Z K
    |_=>False))) l
inductive Ex
 |normal
 |exit (id:Nat)
 |ret
def Sub(Z Z':St):Prop:=∀(E:Env) O a w,Rel E Z O a w->∃O',Rel E Z' O' a w
def jw(P:Program)(H:LS)(c:Code):St->(Ex->St->Prop)->Prop:=
 Code.rec (motive:=λ_=>St->(Ex->St->Prop)->Prop)
  (λZ Q=>Q .normal Z)
  (λ_ ops draw Z Q=>match draw with
   |false=>ve P H false ops.toList ops.toList 0 Z (Q .normal)
   |true=>Dr (vt ops.toList=true) (ve P H true ops.toList ops.toList 0 Z (Q .normal))
     (Ob (zf0 ops.toList=true) (zbl P H ops.toList ops.toList 0 [] Z (Q .normal))))
  (λ_ _ g h Z Q=>g Z λe Z=>(match e with
   |.normal=>h Z Q
   |.exit id=>Q (.exit id) Z
   |.ret=>Q .ret Z))
  (λc _ _ b d Z Q=>ev Z.L c λc=>(match c with
   |.val (.bool true)=>b Z Q
   |.val (.bool false)=>d Z Q
   |.pr p _=>Br (p->b Z Q) (¬p->d Z Q)
   |.anyb=>Br (b Z Q) (d Z Q)
   |_=>False))
  (λid _ a Z Q=>a Z λe Z=>(match e with
   |.normal=>Q .normal Z
   |.exit j=>(match Nat.beq j id with
    |true=>Q .normal Z
    |false=>Q (.exit j) Z)
   |.ret=>Q .ret Z))
  (λ_ a Z Q=>∃(ι:Type) (S:ι->St) (I:ι->Prop) (μ:ι->Nat) (f:ι),I f/\Sub Z (S f)/\
   ∀x,I x->a (S x) λe Z'=>(match e with
    |.normal=>∃x',I x'/\Sub Z' (S x')/\μ x'<μ x
    |.exit id=>Q (.exit id) Z'
    |.ret=>Q .ret Z'))
  (λ_ _ _ _ _ _ _ _=>False)
  (λid Z Q=>Q (.exit id) Z)
  (λ_ a Z Q=>a Z Q)
  (λ_ Z Q=>Q .normal Z)
  (λ_ _ _=>False)
  (λZ Q=>Q .ret Z)
  (λ_ _ _=>False)
  c
def zti(Z:St)(H:LS)(x:ResultVar)(K:SV->Prop):Prop:=
 match x with
 |.tmp t=>(match kF Z.L t with
  |some s=>vT s λs=>K s
  |none=>False)
 |.cell a t=>k7 H t λi=>(match kF Z.L a with
  |some (.loc k off)=>(match zW Z.M k with
   |some (.box _ b)=>zR (Nat.ble (off+i.sz) b.length) (mkV i.kind.agg i.sz (b.drop off) λs=>K s)
   |_=>False)
  |_=>False)
def zyW(Z:St)(H:LS)(xs:List ResultVar):(LR->Prop)->Prop:=
 List.rec (motive:=λ_=>(LR->Prop)->Prop) (λK=>K []) (λx _ a K=>zti Z H x λs=>a λl=>K (s::l)) xs
def zbm(Z:St)(H:LS)(rs:List ResultVar)(K:SV->Prop):Prop:=
 zyW Z H rs λl=>match l with
  |[s]=>K s
  |l=>K (.tup l)
def jm:Nat->LR->LP
 |_,[]=>[]
 |n,a::r=>(n,a)::jm (n+1) r
def zm3(a:LJ)(s:SV):SV:=
 match s with
 |.tup b=>.tup (zoI a b)
 |s=>zi6 a s
def endV(H:LS)(rs:List ResultVar)(r:SV)(e:Ex)(Z:St):Prop:=
 match e with
 |.exit _=>False
 |_=>zbm Z H rs λs=>LE (zm3 (zW Z.M) s) r
inductive zbn (k:LK):SV->SV->Prop
 |own (k':Nat) (h:k=some k'):zbn k (.own k') (.own 0)
 |loc (k' off:Nat) (h:k=some k'):zbn k (.loc k' off) (.loc 0 off)
 |nil (h:k=none):zbn k (.val (.slice none 0 0)) (.own 0)
 |le (s r:SV) (h:LE s r) (hf:yd r=true):zbn k s r
 |junk (s:SV):zbn k s .junk
 |agg (cs ds:LR) (hl:cs.length=ds.length) (h:∀(j:Nat) (s r:SV),cs[j]?=some s->ds[j]?=some r->zbn k s r):zbn k (.agg cs) (.agg ds)
 |tup (cs ds:LR) (hl:cs.length=ds.length) (h:∀(j:Nat) (s r:SV),cs[j]?=some s->ds[j]?=some r->zbn k s r):zbn k (.tup cs) (.tup ds)
 |fn (f:FuncId) (cs ds:LR) (hl:cs.length=ds.length) (h:∀(j:Nat) (s r:SV),cs[j]?=some s->ds[j]?=some r->zbn k s r):zbn k (.fn f cs) (.fn f ds)
def zyX(M:LT)(k:LK)(m:Mem):Prop:=
 match k with
 |some k=>zW M k=some m/\zgv m
 |none=>(match m with
  |.arr _ _ _ xs=>xs=[]
  |_=>False)
def ztj(H:LS)(rs:List ResultVar)(r:SV)(m:Mem)(e:Ex)(Z:St):Prop:=
 match e with
 |.exit _=>False
 |_=>zbm Z H rs λs=>∃k,zbn k s r/\zyX Z.M k m
def zFC(H:LS)(rs:List ResultVar)(r:SV)(m:Mem)(e:Ex)(Z:St):Prop:=
 match e with
 |.exit _=>False
 |_=>zbm Z H rs λs=>(zW Z.M 0=some m/\LE s r)
abbrev LH:=Ex->St->Prop
end Go.Gs
