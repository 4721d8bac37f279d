/- The conditions that an operation, a region, a piece of code leave to be shown. -/
import Derived.Test.YtkngjacccoklaaaGreatDoorMA
import Derived.Test.YtkngjacccoklaaaGreatDoorMAA
import Derived.Laws.Rows
import Derived.Laws.Tables
import Derived.RowKit3
set_option maxRecDepth 100000
set_option maxHeartbeats 8000000
set_option linter.all false
namespace Go.Gs
def zfX:Mem->Prop
 |.box _ cs=>j9.flats cs=true
 |.arr _ enc _ xs=>∀x∈xs,j9.flats (enc x)=true
 |.garr _ _ _=>False
 |.map es=>j9.flats (es.map (·.2))=true
def give(lm:Nat->Option Mem)(k:Nat)(s:SV):SV:=
 match s with
 |.loc k' off=>(match Nat.beq k' k with
  |true=>.loc 0 off
  |false=>zjh lm (.loc k' off))
 |.own k'=>(match Nat.beq k' k with
  |true=>.own 0
  |false=>zjh lm (.own k'))
 |.win k' sz lo n=>(match Nat.beq k' k with
  |true=>.win 0 sz lo n
  |false=>zjh lm (.win k' sz lo n))
 |s=>zjh lm s
def zwv(lm:Nat->Option Mem)(k:Nat):List SV->List SV
 |[]=>[]
 |c::cs=>give lm k c::zwv lm k cs
def zlP(k:Nat):List SV->Bool
 |[]=>true
 |.loc k' _::r=>(match Nat.beq k' k with
  |true=>false
  |false=>zlP k r)
 |_::r=>zlP k r
def zbJ(lm:Nat->Option Mem)(k:Nat):List SV->Bool
 |[]=>true
 |.loc k' off::r=>(match Nat.beq k' k with
  |true=>zbJ lm k r
  |false=>uw (uv lm [.loc k' off]) (zbJ lm k r))
 |.own k'::r=>(match Nat.beq k' k with
  |true=>zbJ lm k r
  |false=>false)
 |.win k' _ _ _::r=>(match Nat.beq k' k with
  |true=>zbJ lm k r
  |false=>false)
 |.fn f cs::r=>uw (zlP k cs) (uw (uv lm [.fn f cs]) (zbJ lm k r))
 |s::r=>uw (uv lm [s]) (zbJ lm k r)
def ziN:Mem->Prop
 |.box _ cs=>ux.scalars cs=true
 |.arr _ enc _ xs=>∀x∈xs,ux.scalars (enc x)=true
 |.garr _ _ _=>False
 |.map es=>ux.scalars (es.map (·.2))=true
def mv(κ:Nat):SV->SV
 |.own _=>.own κ
 |.loc _ off=>.loc κ off
 |.agg cs=>.agg (mvs κ cs)
 |.tup cs=>.tup (mvs κ cs)
 |.fn f cs=>.fn f (mvs κ cs)
 |.ifc t s=>.ifc t (mv κ s)
 |s=>s
 where
 mvs (κ:Nat):List SV->List SV
  |[]=>[]
  |c::cs=>mv κ c::mvs κ cs
def za1:SV->Bool
 |.own k=>Nat.beq k 0
 |.loc k _=>Nat.beq k 0
 |.val _=>true
 |.pr _ _=>true
 |.junk=>true
 |.agg cs=>mvOKs cs
 |.tup cs=>mvOKs cs
 |.fn _ cs=>mvOKs cs
 |.ifc _ s=>za1 s
 |_=>false
 where
 mvOKs:List SV->Bool
  |[]=>true
  |c::cs=>match za1 c with
   |true=>mvOKs cs
   |false=>false
def zww:Option Mem->Bool
 |some (.arr _ _ _ _)=>true
 |_=>false
def zwx(lm:Nat->Option Mem)(k:Nat):List SV->Bool
 |[]=>true
 |.own k'::r=>(match Nat.beq k' k with
  |true=>zwx lm k r
  |false=>false)
 |s::r=>uw (uv lm [s]) (zwx lm k r)
def LE(s r:SV):Prop:=∀S Pm ρ w v,G S Pm ρ w s v->G S Pm ρ w r v
inductive LEs:List SV->List SV->Prop
 |nil:LEs [] []
 |cons {a b:SV} {za bs:List SV} (h:LE a b) (t:LEs za bs):LEs (a::za) (b::bs)
def rn(ks:List Nat)(κ j:Nat):Nat:=
 match ks[j]? with
 |some k=>k
 |none=>κ+(j-ks.length)
def zaJ(ks:List Nat)(κ:Nat):SV->SV
 |.loc k off=>.loc (rn ks κ k) off
 |.own k=>.own (rn ks κ k)
 |.eloc k sz i off=>.eloc (rn ks κ k) sz i off
 |.win k sz lo n=>.win (rn ks κ k) sz lo n
 |.agg cs=>.agg (rens ks κ cs)
 |.tup cs=>.tup (rens ks κ cs)
 |.fn f cs=>.fn f (rens ks κ cs)
 |.ifc t s=>.ifc t (zaJ ks κ s)
 |s=>s
 where
 rens (ks:List Nat) (κ:Nat):List SV->List SV
  |[]=>[]
  |c::cs=>zaJ ks κ c::rens ks κ cs
def vH(n:Nat):SV->Bool
 |.loc k _=>Nat.blt k n
 |.own k=>Nat.blt k n
 |.eloc k _ _ _=>Nat.blt k n
 |.win k _ _ _=>Nat.blt k n
 |.agg cs=>lows n cs
 |.tup cs=>lows n cs
 |.fn _ cs=>lows n cs
 |.ifc _ s=>vH n s
 |_=>true
 where
 lows (n:Nat):List SV->Bool
  |[]=>true
  |c::cs=>match vH n c with
   |true=>lows n cs
   |false=>false
def zct(n:Nat):SV->Bool
 |.loc k _=>Nat.blt k n
 |.own k=>Nat.blt k n
 |.eloc k _ _ _=>Nat.blt k n
 |.win k _ _ _=>Nat.blt k n
 |.ptr _=>false
 |.agg cs=>outs n cs
 |.tup cs=>outs n cs
 |.fn _ cs=>outs n cs
 |.ifc _ s=>zct n s
 |_=>true
 where
 outs (n:Nat):List SV->Bool
  |[]=>true
  |c::cs=>match zct n c with
   |true=>outs n cs
   |false=>false
def zly(ks:List Nat)(κ:Nat):Mem->Mem
 |.box T cs=>.box T (zaJ.rens ks κ cs)
 |.garr T sz xs=>.garr T sz (xs.map (zaJ.rens ks κ))
 |m=>m
def zbt(ks:List Nat)(κ:Nat):List (Nat×Mem)->List (Nat×Mem)
 |[]=>[]
 |(j,m)::r=>(rn ks κ j,zly ks κ m)::zbt ks κ r
def lowM(n:Nat):Mem->Prop
 |.box _ cs=>vH.lows n cs=true
 |.garr _ _ xs=>∀x∈xs,vH.lows n x=true
 |_=>True
def outM(n:Nat):Mem->Prop
 |.box _ cs=>zct.outs n cs=true
 |.garr _ _ xs=>∀x∈xs,zct.outs n x=true
 |_=>True
def ziO(lm:Nat->Option Mem)(ks0:List Nat)(κ:Nat)(Mc:List (Nat×Mem)):Nat->List Nat->Prop
 |_,[]=>True
 |i,k::r=>(∃m,zS Mc i=some m/\lm k=some (zly ks0 κ m)/\lowM ks0.length m)/\ziO lm ks0 κ Mc (i+1) r
def znr(n:Nat):List (Nat×Mem)->Prop
 |[]=>True
 |(j,m)::r=>(Nat.blt j n=true/\outM n m)/\znr n r
def zrB(k:Nat):List Nat->Bool
 |[]=>false
 |x::r=>match Nat.beq x k with
  |true=>true
  |false=>zrB k r
def zbK:List Nat->Bool
 |[]=>true
 |x::r=>match zrB x r with
  |true=>false
  |false=>zbK r
def zo4(n:Nat):List (Nat×Mem)->Bool
 |[]=>true
 |(k,_)::r=>uw (Nat.blt k n) (zo4 n r)
def memM(k:Nat):List (Nat×Mem)->Bool
 |[]=>false
 |(q,_)::r=>match Nat.beq q k with
  |true=>true
  |false=>memM k r
def zjj:List (Nat×Mem)->Bool
 |[]=>true
 |(k,_)::r=>match memM k r with
  |true=>false
  |false=>zjj r
def newB(ks:List Nat)(κ nn:Nat):List (Nat×Mem)->Bool
 |[]=>true
 |(k,_)::r=>uw (zrB k ks||(Nat.ble κ k&&Nat.blt k (κ+nn))) (newB ks κ nn r)
def zns(k:Nat):List (Nat×Mem)->Bool
 |[]=>false
 |(q,_)::r=>match Nat.beq q k with
  |true=>true
  |false=>zns k r
def znt(new:List (Nat×Mem))(κ:Nat):Nat->Bool
 |0=>true
 |n+1=>uw (zns (κ+n) new) (znt new κ n)
def znu(l:List SV):(List SV->Prop)->Prop:=
 List.rec (motive:=λ_=>(List SV->Prop)->Prop) (λK=>K []) (λc _ ih K=>zaD c λc=>ih λr=>K (c::r)) l
def znv(m:Mem)(K:Mem->Prop):Prop:=
 match m with
 |.box T cs=>znu cs λcs=>K (.box T cs)
 |.arr T enc sz xs=>K (.arr T enc sz xs)
 |.garr T sz xs=>K (.garr T sz xs)
 |.map es=>K (.map es)
def zCh(n:Nat):(Nat->Prop)->Prop:=
 Nat.rec (motive:=λ_=>(Nat->Prop)->Prop) (λK=>K 0) (λ_ ih K=>ih λm=>K (m+1)) n
def ziP(l:List (Nat×Mem)):(List (Nat×Mem)->Prop)->Prop:=
 List.rec (motive:=λ_=>(List (Nat×Mem)->Prop)->Prop) (λK=>K []) (λx _ ih K=>zCh x.1 λk=>znv x.2 λm=>ih λr=>K ((k,m)::r)) l
inductive zb (P:Program) (lm:Nat->Option Mem) (κ:Nat) (f:FuncId) (args:List SV) (K:SV->MD->Prop):Prop
 |to (r:SV) (h:qx P f (zc2 lm args) [] r []) (hr:zs6 lm args r=true) (k:zaD r λr=>K r .none)
 |fresh (m:Mem) (r:SV) (h:qx P f (zc2 lm args) [] r [(0,m)]) (hr:za1 r=true) (hm:zfX m) (hc:uv lm args=true∨ziN m) (k:zaD (mv κ r) λr=>K r (.push m))
 |see (k:Nat) (r:SV) (h:qx P f (zc2 lm args) [] r []) (hk:zww (lm k)=true) (hc:zwx lm k args=true) (hr:zjg r=true) (kk:zaD r λr=>K r (.drop k))
 |hand (k:Nat) (m m':Mem) (r:SV) (hk:lm k=some m) (h:qx P f (zwv lm k args) [(0,m)] r [(0,m')])
   (hm:zfX m) (hm':zfX m') (hc:zbJ lm k args=true) (hr:zjg r=true) (k:zaD r λr=>K r (.set k m'))
 |give (ks:List Nat) (nn:Nat) (args':List SV) (Mc M':List (Nat×Mem)) (r:SV) (h:qx P f args' Mc r M') (ha:LEs args (zaJ.rens ks κ args')) (hl:vH.lows ks.length args'=true)
   (hn:zbK ks=true) (hk:uw (Nat.beq Mc.length ks.length) (uw (zo4 ks.length Mc) (zjj Mc))=true) (hM:ziO lm ks κ Mc 0 ks) (hr:zct (ks.length+nn) r=true) (hM':znr (ks.length+nn) M')
   (k:ziP (zbt ks κ M') λnew=>zaD (zaJ ks κ r) λr=>K r (.give ks new nn))
variable{P:Program}{f:FuncId}
def zb.t{lm:Nat->Option Mem}{κ:Nat}{args:List SV}{K:SV->MD->Prop}{r:SV}(h:qx P f (zc2 lm args) [] r [])(k:zaD r λr=>K r .none)(hr:zs6 lm args r=true:=by rfl):zb P lm κ f args K:=.to r h hr k
def zlQ(s:SV):Bool:=
 match s with
 |.val v=>(match v with
  |.agg _=>false
  |.tuple _=>false
  |_=>true)
 |.agg _=>false
 |.tup _=>false
 |.junk=>false
 |_=>true
def jX:List SV->Bool
 |[]=>true
 |c::cs=>match zlQ c with
  |true=>jX cs
  |false=>false
def jx(o:Option Operand)(l:List SV)(dflt:Int)(K:Int->List SV->Prop):Prop:=
 match o with
 |none=>K dflt l
 |some _=>match l with
  |.val (.int _ n)::r=>K n r
  |_=>False
def fstO(p:Option (Nat×Nat)):Nat:=
 match p with
 |some (a,_)=>a
 |none=>0
def zcu(pl:Nat->Option (Nat×Nat)):List Nat->List SV->List SV->List SV
 |i::r,s::l,cs=>zcu pl r l (vj cs (fstO (pl i)) (kO s))
 |_,_,cs=>cs
def zbL(pl:Nat->Option (Nat×Nat))(n:Nat):List Nat->List SV->Bool
 |i::r,s::l=>(match pl i with
  |some (off,sz)=>uw (Nat.beq (kO s).length sz) (uw (Nat.ble (off+sz) n) (uw (jX (kO s)) (zbL pl n r l)))
  |none=>false)
 |[],[]=>true
 |_,_=>false
def zjk(Γ:List (TypeId×TI))(fs:List (Nat×TypeId))(i:Nat):Option (Nat×Nat):=
 match zo2 fs i with
 |some (off,ft)=>(match ti Γ ft with
  |some j=>some (off,j.sz)
  |none=>none)
 |none=>none
def zap(sz i:Nat):Option (Nat×Nat):=some (i*sz,sz)
def rep{α:Type 1}(n:Nat)(cs:List α):List α:=
 match n with
 |0=>[]
 |n+1=>cs++rep n cs
def zeW{α:Type _}(enc:α->List SV)(xs:List α):List SV:=
 match xs with
 |[]=>[]
 |x::xs=>enc x++zeW enc xs
def zCi(lm:Nat->Option Mem)(s:SV)(K:Int->Prop):Prop:=
 match s with
 |.sl _ xs=>xs.length<=9223372036854775807->K xs.length
 |.own k=>(match lm k with
  |some (.arr _ _ _ xs)=>xs.length<=281474976710656->K xs.length
  |some (.garr _ _ xs)=>xs.length<=281474976710656->K xs.length
  |_=>False)
 |.val (.slice none 0 0)=>K 0
 |.nils=>K 0
 |.win _ _ _ n=>Ob (0<=n) (K n)
 |_=>False
def zrC(s:List SV)(K:IntKind->List Int->Prop):Prop:=
 match s with
 |.val (.int k m)::r=>(match r with
  |[]=>K k [m]
  |_=>zrC r λ_ l=>K k (m::l))
 |_=>False
def zbM:Int->List Int->Int
 |x,[]=>x
 |x,y::r=>zbM (min x y) r
def zc9:Int->List Int->Int
 |x,[]=>x
 |x,y::r=>zc9 (max x y) r
variable{α:Type}
def zcv(lm:Nat->Option Mem)(s:SV)(enc:α->List SV)(ys:List α):Prop:=
 match s with
 |.val (.slice none 0 0)=>ys=[]
 |.own k=>zh8 lm (.own k)=.sl enc ys
 |s=>s=.sl enc ys
inductive Sl (p q:Prop) (r:Prop:=False):Prop
 |see (h:p)
 |keep (h:q)
 |win (h:r)
def ziQ(Γ:List (TypeId×TI))(tys:List TypeId)(s x:SV)(lm:Nat->Option Mem)(κ:Nat)(K:SV->MD->Prop):Prop:=
 match tys with
 |[t,t']=>zN (Nat.beq t t') (kM Γ t λi=>(match i.kind with
  |.slice e=>kM Γ e λj=>(match s with
   |.val (.slice none 0 0)=>∃(α:Type) (enc:α->List SV) (ys:List α),zcv lm x enc ys/\
     Ob ((ys.length:Int)*j.bytes<=140737488355328/\ys.length<=281474976710656/\0<j.sz/\∀x∈ys,(enc x).length=j.sz) (K (.own κ) (.push (.arr e enc j.sz ys)))
   |.own k=>(match lm k with
    |some (.arr e' enc sz xs)=>zN (Nat.beq e e') (zN (Nat.beq sz j.sz) (∃ys,zcv lm x enc ys/\
     Ob ((xs.length+ys.length:Int)*j.bytes<=140737488355328/\xs.length+ys.length<=281474976710656/\0<j.sz/\∀x∈ys,(enc x).length=j.sz)
      (K (.own κ) (.repl k (.arr e enc sz (xs++ys))))))
    |some (.garr e' sz xs)=>zN (Nat.beq e e') (zN (Nat.beq sz j.sz) (∃(α:Type) (enc:α->List SV) (ys:List α),zcv lm x enc ys/\
     Ob ((xs.length+ys.length:Int)*j.bytes<=140737488355328/\xs.length+ys.length<=281474976710656/\0<j.sz/\∀x∈ys,(enc x).length=j.sz)
      (K (.own κ) (.repl k (.garr e sz (xs++ys.map enc))))))
    |_=>False)
   |.full enc xs=>∃ys,zcv lm x enc ys/\
     Ob (ys≠[]/\(xs.length+ys.length:Int)*j.bytes<=140737488355328/\xs.length+ys.length<=281474976710656/\0<j.sz/\(∀x∈xs,(enc x).length=j.sz)/\∀x∈ys,(enc x).length=j.sz)
      (K (.own κ) (.push (.arr e enc j.sz (xs++ys))))
   |.nils=>Sl (∃(α:Type) (enc:α->List SV) (ys:List α),zcv lm x enc ys/\
     Ob (ys≠[]/\(ys.length:Int)*j.bytes<=140737488355328/\ys.length<=281474976710656/\0<j.sz/\∀x∈ys,(enc x).length=j.sz) (K (.own κ) (.push (.arr e enc j.sz ys))))
     (∃(α:Type) (enc:α->List SV),zcv lm x enc ([]:List α)/\0<j.sz/\K .nils .none)
   |_=>False)
  |_=>False))
 |_=>False
def zjl(Γ:List (TypeId×TI))(tys:List TypeId)(s:SV)(e':TypeId)(sz':Nat)(ys:List (List SV))(lm:Nat->Option Mem)(κ:Nat)(K:SV->MD->Prop):Prop:=
 match tys with
 |[t,t']=>zN (Nat.beq t t') (kM Γ t λi=>(match i.kind with
  |.slice e=>kM Γ e λj=>zN (Nat.beq e e') (zN (Nat.beq sz' j.sz) (match s with
   |.val (.slice none 0 0)=>Ob ((ys.length:Int)*j.bytes<=140737488355328/\ys.length<=281474976710656/\0<j.sz) (K (.own κ) (.push (.garr e j.sz ys)))
   |.own k=>(match lm k with
    |some (.garr e'' sz xs)=>zN (Nat.beq e e'') (zN (Nat.beq sz j.sz)
      (Ob ((xs.length+ys.length:Int)*j.bytes<=140737488355328/\xs.length+ys.length<=281474976710656/\0<j.sz) (K (.own κ) (.repl k (.garr e sz (xs++ys))))))
    |_=>False)
   |_=>False))
  |_=>False))
 |_=>False
def zs7(Γ:List (TypeId×TI))(tys:List TypeId)(s:SV)(n:Int)(κ:Nat)(K:SV->MD->Prop):Prop:=
 match tys,s with
 |[t,t'],.val (.slice none 0 0)=>kM Γ t λi=>kM Γ t' λi'=>(match i.kind,i'.kind with
  |.slice e,.int _=>kM Γ e λj=>∃(α:Type) (enc:α->List SV) (z:α),
    enc z=vals j.zero/\Ob (0<j.sz/\0<n/\n*j.bytes<=140737488355328/\n<=281474976710656) (K (.own κ) (.push (.arr e enc j.sz (List.replicate n.toNat z))))
  |_,_=>False)
 |_,_=>False
def zfY(lm:Nat->Option Mem)(k:Nat)(T:TypeId)(enc:α->List SV)(sz:Nat)(xs:List α)(lo n:Int)(x:SV)(K:SV->MD->Prop):Prop:=
 ∃ys,zcv lm x enc ys/\Ob (0<sz/\0<=lo/\0<=n/\lo+n<=xs.length/\∀y∈ys,(enc y).length=sz)
  (K (.val (.int .i64 (min ys.length n.toNat:Nat))) (.set k (.arr T enc sz (xs.take lo.toNat++(ys.take n.toNat++xs.drop (lo.toNat+min ys.length n.toNat))))))
def zjm(Γ:List (TypeId×TI))(b:Builtin)(tys:List TypeId)(args:List SV)(lm:Nat->Option Mem)(κ:Nat)(K:SV->MD->Prop):Prop:=
 match b,args with
 |.len,[s]=>(match tys with
  |[t]=>kM Γ t λi=>(match i.kind with
   |.slice _=>zCi lm s λn=>K (.val (.int .i64 n)) .none
   |_=>False)
  |_=>False)
 |.cap,[s]=>(match tys with
  |[t]=>kM Γ t λi=>(match i.kind with
   |.slice _=>(match s with
    |.val (.slice none 0 0)=>K (.val (.int .i64 0)) .none
    |.nils=>K (.val (.int .i64 0)) .none
    |_=>False)
   |_=>False)
  |_=>False)
 |.min,s=>zrC s λk l=>(match l with
  |x::r=>K (.val (.int k (zbM x r))) .none
  |[]=>False)
 |.max,s=>zrC s λk l=>(match l with
  |x::r=>K (.val (.int k (zc9 x r))) .none
  |[]=>False)
 |.append,[s,x]=>(match x with
  |.val (.int _ n)=>zs7 Γ tys s n κ K
  |.own k'=>(match lm k' with
   |some (.garr e' sz' ys)=>zjl Γ tys s e' sz' ys lm κ K
   |_=>ziQ Γ tys s (.own k') lm κ K)
  |x=>ziQ Γ tys s x lm κ K)
 |.copy,[d,x]=>(match tys with
  |[t,_]=>kM Γ t λi=>(match i.kind with
   |.slice e=>kM Γ e λj=>(match d with
    |.own k=>(match lm k with
     |some (.arr T enc sz xs)=>zN (Nat.beq sz j.sz) (zfY lm k T enc sz xs 0 xs.length x K)
     |_=>False)
    |.win k sz' lo n=>(match lm k with
     |some (.arr T enc sz xs)=>zN (Nat.beq sz j.sz) (zN (Nat.beq sz' sz) (zfY lm k T enc sz xs lo n x K))
     |_=>False)
    |_=>False)
   |_=>False)
  |_=>False)
 |.clear,[d]=>(match tys with
  |[t]=>kM Γ t λi=>(match i.kind with
   |.slice e=>kM Γ e λj=>(match d with
    |.win k sz' lo n=>(match lm k with
     |some (.arr T (α:=α) enc sz xs)=>zN (Nat.beq sz j.sz) (zN (Nat.beq sz' sz) (∃z:α,enc z=vals j.zero/\
       Ob (0<=lo/\0<n/\lo+n<=xs.length) (K (.val (.tuple #[])) (.set k (.arr T enc sz (xs.take lo.toNat++(List.replicate n.toNat z++xs.drop (lo.toNat+n.toNat))))))))
     |_=>False)
    |_=>False)
   |_=>False)
  |_=>False)
 |_,_=>False
def zwy(Γ:List (TypeId×TI))(t:TypeId)(s:SV)(lm:Nat->Option Mem)(K:SV->MD->Prop):Prop:=
 kM Γ t λi=>(match s with
  |.loc k off=>(match lm k with
   |some (.box _ cs)=>zN (Nat.ble (off+i.sz) cs.length) (mkV i.kind.agg i.sz (cs.drop off) λs=>K s .none)
   |_=>False)
  |.ptr cs=>zN (Nat.ble i.sz cs.length) (mkV i.kind.agg i.sz cs λs=>K s .none)
  |.dptr cs=>zN (Nat.ble i.sz cs.length) (mkV i.kind.agg i.sz cs λs=>K s .none)
  |.eloc k sz n off=>(match lm k with
   |some (.arr _ enc sz' xs)=>zN (Nat.beq sz sz') (zN (Nat.ble (off+i.sz) sz) (Ob (0<=n/\n<xs.length) (∀x,xs[n.toNat]?=some x->
     mkV i.kind.agg i.sz ((enc x).drop off) λs=>K s .none)))
   |some (.garr _ sz' xs)=>zN (Nat.beq sz sz') (zN (Nat.ble (off+i.sz) sz) (Ob (0<=n/\n<xs.length) (∀x,xs[n.toNat]?=some x->
     mkV i.kind.agg i.sz (x.drop off) λs=>K s .none)))
   |_=>False)
  |_=>False)
def zrD(Γ:List (TypeId×TI))(t:TypeId)(s v:SV)(lm:Nat->Option Mem)(K:SV->MD->Prop):Prop:=
 kM Γ t λi=>zN (jX (kO v)) (zN (Nat.beq (kO v).length i.sz) (match s with
  |.loc k off=>(match lm k with
   |some (.box T cs)=>zN (Nat.ble (off+i.sz) cs.length) (K (.val undef) (.set k (.box T (vj cs off (kO v)))))
   |_=>False)
  |.eloc k sz n off=>(match lm k with
   |some (.arr T (α:=α) enc sz' xs)=>zN (Nat.beq sz sz') (zN (Nat.ble (off+i.sz) sz) (match j9.flats (kO v) with
    |true=>(Ob (0<=n/\n<xs.length) (∀x,xs[n.toNat]?=some x->
     ∃x':α,enc x'=vj (enc x) off (kO v)/\K (.val undef) (.set k (.arr T enc sz (xs.set n.toNat x')))))
    |false=>(Ob (0<=n/\n<xs.length) (∀x,xs[n.toNat]?=some x->
     K (.val undef) (.set k (.garr T sz ((xs.map enc).set n.toNat (vj (enc x) off (kO v)))))))))
   |some (.garr T sz' xs)=>zN (Nat.beq sz sz') (zN (Nat.ble (off+i.sz) sz) (Ob (0<=n/\n<xs.length) (∀x,xs[n.toNat]?=some x->
     K (.val undef) (.set k (.garr T sz (xs.set n.toNat (vj x off (kO v))))))))
   |_=>False)
  |_=>False))
def zwz(hi mx:Option Operand):Bool:=
 match mx,hi with
 |some _,none=>false
 |_,_=>true
def zwA:Option Operand->Bool
 |some (.const (.int _ n))=>(match n with
  |.ofNat m=>Nat.beq m 0
  |_=>false)
 |_=>false
inductive zwB (p q:Prop):Prop
 |sl (h:p)
 |full (h:q)
def zbN:Option Operand->Bool
 |none=>true
 |_=>false
def zrE(Γ:List (TypeId×TI))(t:TypeId)(lo hi mx:Option Operand)(svs:List SV)(lm:Nat->Option Mem)(κ:Nat)(K:SV->MD->Prop):Prop:=
 zN (zwz hi mx) (match svs with
 |s::rest=>kM Γ t λi=>(match i.kind with
  |.slice e=>kM Γ e λj=>(match s with
   |.sl enc xs=>(match uw (zwA hi) (zwA mx) with
    |true=>jx lo rest 0 λl rest=>jx hi rest 0 λh rest=>jx mx rest 0 λm _=>Ob (l=0/\h=0/\m=0) (K .nils .none)
    |false=>jx lo rest 0 λl rest=>jx hi rest xs.length λh rest=>jx mx rest xs.length λm _=>(match zbN mx with
     |true=>Ob ((0<=l/\l<=h/\h<=m/\m<=xs.length)/\∀x∈xs,(enc x).length=j.sz) (K (.sl enc ((xs.drop l.toNat).take (h-l).toNat)) .none)
     |false=>zwB (Ob ((0<=l/\l<=h/\h<=m/\m<=xs.length)/\∀x∈xs,(enc x).length=j.sz) (K (.sl enc ((xs.drop l.toNat).take (h-l).toNat)) .none))
      (Ob ((0<=l/\l<=h/\h=m/\m<=xs.length)/\∀x∈xs,(enc x).length=j.sz) (K (.full enc ((xs.drop l.toNat).take (h-l).toNat)) .none))))
   |.val (.slice none 0 0)=>jx lo rest 0 λl rest=>jx hi rest 0 λh rest=>jx mx rest 0 λm _=>Ob (l=0/\h=0/\m=0) (K (.val (.slice none 0 0)) .none)
   |.own k=>(match lm k with
    |some (.arr T enc sz xs)=>zN (Nat.beq sz j.sz) (jx lo rest 0 λl rest=>jx hi rest xs.length λh rest=>jx mx rest xs.length λm _=>
     Sl (Ob (0<=l/\l<=h/\h<=m/\m<=xs.length) (K (.sl enc ((xs.drop l.toNat).take (h-l).toNat)) (.drop k)))
      (zN (zbN mx) (Ob (l=0/\0<=h/\h<=xs.length) (K (.own κ) (.repl k (.arr T enc sz (xs.take h.toNat))))))
      (Ob (0<=l/\l<h/\h<=m/\m<=xs.length) (K (.win k sz l (h-l)) .none)))
    |some (.garr T sz xs)=>zN (Nat.beq sz j.sz) (zN (zbN mx) (jx lo rest 0 λl rest=>jx hi rest xs.length λh _=>
      (Ob (l=0/\0<=h/\h<=xs.length) (K (.own κ) (.repl k (.garr T sz (xs.take h.toNat)))))))
    |_=>False)
   |.win k sz at0 n=>zN (Nat.beq sz j.sz) (jx lo rest 0 λl rest=>jx hi rest n λh rest=>jx mx rest n λm _=>
     Ob (0<=at0/\0<=l/\l<h/\h<=m/\m<=n) (K (.win k sz (at0+l) (h-l)) .none))
   |_=>False)
  |_=>False)
 |[]=>False)
def zlR(Γ:List (TypeId×TI))(t:TypeId)(lo hi mx:Option Operand)(cs:List SV)(K:SV->MD->Prop):Prop:=
 zN (uw (zbN lo) (uw (zbN hi) (zbN mx))) (kM Γ t λi=>(match i.kind with
  |.arr n e=>kM Γ e λj=>∃(α:Type) (enc:α->List SV) (xs:List α),zeW enc xs=cs/\
    Ob (xs.length=n/\n<=281474976710656/\∀x∈xs,(enc x).length=j.sz) (K (.sl enc xs) .none)
  |_=>False))
def znw(Γ:List (TypeId×TI))(t:TypeId)(lo hi mx:Option Operand)(svs:List SV)(lm:Nat->Option Mem)(κ:Nat)(K:SV->MD->Prop):Prop:=
 match svs with
 |[.dptr cs]=>zlR Γ t lo hi mx cs K
 |svs=>zrE Γ t lo hi mx svs lm κ K
inductive zfZ (p q:Prop):Prop
 |own (h:p)
 |data (h:q)
def boxV(Γ:List (TypeId×TI))(e:TypeId)(s:SV)(κ:Nat)(K:SV->MD->Prop):Prop:=
 zN (jX (kO s)) (match ti Γ e with
  |some i=>(match i.kind with
   |.arr _ _=>(match j9.flats (kO s) with
    |true=>zfZ (K (.loc κ 0) (.push (.box e (kO s)))) (K (.dptr (kO s)) .none)
    |false=>K (.loc κ 0) (.push (.box e (kO s))))
   |_=>K (.loc κ 0) (.push (.box e (kO s))))
  |none=>K (.loc κ 0) (.push (.box e (kO s))))
def zfn(Γ:List (TypeId×TI))(t:TypeId)(f:Nat)(s:SV)(K:SV->MD->Prop):Prop:=
 kM Γ t λi=>(match i.kind with
  |.struct fs=>(match zo2 fs f with
   |some (off,ft)=>kM Γ ft λj=>zN (Nat.blt 0 j.sz) (match s with
    |.loc k o'=>K (.loc k (o'+off)) .none
    |.ptr cs=>K (.ptr (cs.drop off)) .none
    |.dptr cs=>K (.dptr (cs.drop off)) .none
    |.eloc k sz i o'=>K (.eloc k sz i (o'+off)) .none
    |_=>False)
   |none=>False)
  |_=>False)
def zfo(Γ:List (TypeId×TI))(t:TypeId)(s n:SV)(lm:Nat->Option Mem)(K:SV->MD->Prop):Prop:=
 kM Γ t λi=>(match n with
  |.val (.int _ n)=>(match i.kind with
   |.slice e=>kM Γ e λj=>(match s with
    |.sl enc xs=>Ob (0<=n/\n<xs.length) (∀x,xs[n.toNat]?=some x->zN (Nat.beq (enc x).length j.sz) (K (.ptr (enc x)) .none))
    |.own k=>(match lm k with
     |some (.arr _ _ sz xs)=>zN (Nat.beq sz j.sz) (Ob (0<=n/\n<xs.length) (K (.eloc k sz n 0) .none))
     |some (.garr _ sz xs)=>zN (Nat.beq sz j.sz) (Ob (0<=n/\n<xs.length) (K (.eloc k sz n 0) .none))
     |_=>False)
    |.win k sz lo l=>zN (Nat.beq sz j.sz) (Ob (0<=lo/\0<=n/\n<l) (K (.eloc k sz (lo+n) 0) .none))
    |_=>False)
   |.arr len e=>kM Γ e λj=>(match n with
    |.ofNat m=>zN (Nat.blt m len) (match s with
     |.loc k off=>K (.loc k (off+m*j.sz)) .none
     |.ptr cs=>K (.ptr (cs.drop (m*j.sz))) .none
     |.dptr cs=>K (.dptr (cs.drop (m*j.sz))) .none
     |.eloc k sz i' o'=>K (.eloc k sz i' (o'+m*j.sz)) .none
     |_=>False)
    |_=>False)
   |_=>False)
  |_=>False)
def zrF(Γ:List (TypeId×TI))(t:TypeId)(s n:SV)(K:SV->MD->Prop):Prop:=
 kM Γ t λi=>(match i.kind,s,n with
  |.arr len e,.agg cs,.val (.int _ n)=>kM Γ e λj=>(match n with
   |.ofNat m=>zN (Nat.blt m len) (zN (Nat.ble (m*j.sz+j.sz) cs.length) (mkV j.kind.agg j.sz (cs.drop (m*j.sz)) λs=>K s .none))
   |_=>False)
  |.str,.val (.string s),.val (.int _ n)=>Ob (0<=n/\n<s.size) (∀b:UInt8,s[n.toNat]?=some b->K (.val (.int .u8 b.toNat)) .none)
  |_,_,_=>False)
def zrG(Γ:List (TypeId×TI))(t:TypeId)(ids:List Nat)(svs:List SV)(K:SV->MD->Prop):Prop:=
 kM Γ t λi=>(match i.kind with
  |.struct fs=>zN (zbL (zjk Γ fs) i.sz ids svs) (K (.agg (zcu (zjk Γ fs) ids svs (vals i.zero))) .none)
  |.arr _ e=>kM Γ e λj=>zN (zbL (zap j.sz) i.sz ids svs) (K (.agg (zcu (zap j.sz) ids svs (vals i.zero))) .none)
  |_=>False)
def zC0:SV->Bool
 |.loc _ _=>false
 |.own _=>false
 |.eloc _ _ _ _=>false
 |.win _ _ _ _=>false
 |.ptr _=>false
 |.agg cs=>j9.flats cs
 |_=>true
def selB:List SV->Bool
 |[]=>true
 |s::r=>match zC0 s with
  |true=>selB r
  |false=>false
def zdg(Γ:List (TypeId×TI))(t:TypeId)(n:Nat)(ids:List Nat)(svs:List SV)(κ:Nat)(K:SV->MD->Prop):Prop:=
 kM Γ t λi=>(match i.kind with
  |.slice e=>kM Γ e λj=>zN (zbL (zap j.sz) (n*j.sz) ids svs) (match selB svs with
    |true=>(∃(α:Type) (enc:α->List SV) (xs:List α),
     zeW enc xs=zcu (zap j.sz) ids svs (rep n (vals j.zero))/\
     Ob (xs.length=n/\n<=281474976710656/\n*j.sz<=16777216/\0<j.sz/\∀x∈xs,(enc x).length=j.sz/\jX (enc x)=true/\j9.flats (enc x)=true) (K (.own κ) (.push (.arr e enc j.sz xs))))
    |false=>zN (jX (zcu (zap j.sz) ids svs (rep n (vals j.zero)))) (∃(xs:List (List SV)),
     zeW id xs=zcu (zap j.sz) ids svs (rep n (vals j.zero))/\
     Ob (xs.length=n/\n<=281474976710656/\n*j.sz<=16777216/\0<j.sz/\∀x∈xs,x.length=j.sz) (K (.own κ) (.push (.garr e j.sz xs)))))
  |_=>False)
def zfp(Γ:List (TypeId×TI))(t:TypeId)(l c:SV)(κ:Nat)(K:SV->MD->Prop):Prop:=
 kM Γ t λi=>(match i.kind,l,c with
  |.slice e,.val (.int _ n),.val (.int _ m)=>kM Γ e λj=>∃(α:Type) (enc:α->List SV) (z:α),
    enc z=vals j.zero/\Ob (0<j.sz/\0<=n/\n<=m/\m*j.bytes<=281474976710656/\m<=281474976710656) (K (.own κ) (.push (.arr e enc j.sz (List.replicate n.toNat z))))
  |_,_,_=>False)
def zwC(c a b:SV)(K:SV->MD->Prop):Prop:=
 match c with
 |.val (.bool true)=>K a .none
 |.val (.bool false)=>K b .none
 |.pr p _=>Br (p->K a .none) (¬p->K b .none)
 |_=>False
def unV(op:UnOp)(s:SV)(K:SV->MD->Prop):Prop:=
 match op,s with
 |.not,.val (.bool true)=>K (.val (.bool false)) .none
 |.not,.val (.bool false)=>K (.val (.bool true)) .none
 |.not,.pr p i=>K (.pr (¬p) (@instDecidableNot _ i)) .none
 |.neg,.val (.int k n)=>zlx k (- n) λs=>K s .none
 |_,_=>False
def uD:Option Operand->List Operand
 |none=>[]
 |some x=>[x]
def zcw:Callee->List Operand
 |.value f=>[f]
 |.invoke r _=>[r]
 |.builtin _=>[]
def k9:Op->List Operand
 |.move x=>[x]
 |.assign x=>[x]
 |.pick c a b=>[c,a,b]
 |.box _ x=>[x]
 |.build _ ps=>ps.toList.map (·.2)
 |.buildSlice _ _ ps=>ps.toList.map (·.2)
 |.load _ a=>[a]
 |.store _ a x=>[a,x]
 |.nilCheck x=>[x]
 |.binOp _ _ x y _=>[x,y]
 |.unOp _ _ x=>[x]
 |.convert _ _ x=>[x]
 |.makeFunc _ first caps=>first.toList++caps.toList
 |.makeSlice _ l c=>[l,c]
 |.makeInterface _ x=>[x]
 |.typeAssert x _ _ _=>[x]
 |.makeMap _ r=>uD r
 |.mapUpdate _ m k x=>[m,k,x]
 |.insert _ m k x=>[m,k,x]
 |.lookup _ m k _=>[m,k]
 |.slice _ x lo hi mx=>x::(uD lo++(uD hi++uD mx))
 |.fieldAddr _ x _=>[x]
 |.field _ x _=>[x]
 |.indexAddr _ x i=>[x,i]
 |.index _ x i=>[x,i]
 |.extract x _=>[x]
 |.call c=>zcw c.callee++c.args.toList
 |_=>[]
def zwD(es:List (Int×SV))(n:Int)(K1:SV->Prop)(K0:Prop):Prop:=
 List.rec (motive:=λ_=>Prop) K0 (λx _ ih=>match x with
  |(k,s)=>Br (n=k->K1 s) (¬n=k->ih)) es
def zwE(es:List (Int×SV))(n:Int)(s:SV):(List (Int×SV)->Prop)->Prop:=
 List.rec (motive:=λ_=>(List (Int×SV)->Prop)->Prop) (λK=>K [(n,s)]) (λx r ih K=>match x with
  |(k,s')=>Br (n=k->K ((n,s)::r)) (¬n=k->ih λr'=>K ((k,s')::r'))) es
def zjn(Γ:List (TypeId×TI))(t:TypeId)(svs:List SV)(κ:Nat)(K:SV->MD->Prop):Prop:=
 kM Γ t λi=>(match i.kind with
  |.map _ _=>(match svs with
   |[]=>K (.own κ) (.push (.map []))
   |.val (.int _ _)::_=>K (.own κ) (.push (.map []))
   |_=>False)
  |_=>False)
def vI(Γ:List (TypeId×TI))(t:TypeId)(m k s:SV)(lm:Nat->Option Mem)(K:SV->MD->Prop):Prop:=
 kM Γ t λi=>(match i.kind with
  |.map kt _=>kM Γ kt λj=>(match j.kind,m,k with
   |.int .i64,.own c,.val (.int .i64 n)=>(match lm c with
    |some (.map es)=>zN (j9 s) (zwE es n s λes'=>K (.val undef) (.set c (.map es')))
    |_=>False)
   |_,_,_=>False)
  |_=>False)
def zc3(ok:Bool)(s:SV)(b:Bool)(K:SV->MD->Prop):Prop:=
 match ok with
 |true=>K (.tup [s,.val (.bool b)]) .none
 |false=>zaD s λs=>K s .none
def znx(Γ:List (TypeId×TI))(t:TypeId)(ok:Bool)(m k:SV)(lm:Nat->Option Mem)(K:SV->MD->Prop):Prop:=
 kM Γ t λi=>(match i.kind with
  |.map kt et=>kM Γ kt λj=>kM Γ et λz=>(match j.kind,m,k with
   |.int .i64,.own c,.val (.int .i64 n)=>(match lm c with
    |some (.map es)=>zwD es n (λs=>zc3 ok s true K) (mkV z.kind.agg z.sz (vals z.zero) λs=>zc3 ok s false K)
    |_=>False)
   |_,_,_=>False)
  |_=>False)
def zjo(Γ:List (TypeId×TI))(t:TypeId)(s:SV)(K:SV->MD->Prop):Prop:=
 kM Γ t λi=>(match i.kind with
  |.iface=>False
  |.other=>False
  |_=>K (.ifc t s) .none)
def zny(t:TypeId)(ok:Bool)(s:SV)(Z:Prop)(K:SV->MD->Prop):Prop:=
 match s with
 |.ifc t' s'=>(match Nat.beq t' t with
  |true=>zc3 ok s' true K
  |false=>(match ok with
   |true=>Z
   |false=>False))
 |.val .nilIface=>(match ok with
  |true=>Z
  |false=>False)
 |_=>False
def znz(Γ:List (TypeId×TI))(t:TypeId)(ok:Bool)(s:SV)(K:SV->MD->Prop):Prop:=
 kM Γ t λi=>(match i.kind with
  |.iface=>False
  |.other=>False
  |_=>zny t ok s (mkV i.kind.agg i.sz (vals i.zero) λs=>zc3 true s false K) K)
def znA(P:Program)(t:TypeId)(name:String)(f:FuncId):Bool:=
 (match P.underlying t with
  |some (.struct _)=>true
  |_=>false)&&(match P.info? t with
  |some i=>(match i.methods.find? (·.name==name) with
   |some m=>m.path.isEmpty&&(match m.func with
    |some (g,p)=>Nat.beq g f&&!p
    |none=>false)
   |none=>false)
  |none=>false)
def zs8:List SV->(List Value->Prop)->Prop
 |[],K=>K []
 |.val v::r,K=>zs8 r λvs=>K (v::vs)
 |_,_=>False
def conc(s:SV)(K:Value->Prop):Prop:=
 match s with
 |.val v=>K v
 |.agg cs=>zs8 cs λvs=>K (.agg vs.toArray)
 |_=>False
def zs9:List SV->(List Value->Prop)->Prop
 |[],K=>K []
 |s::r,K=>conc s λv=>zs9 r λvs=>K (v::vs)
def zwF:List SV->Bool
 |[]=>true
 |.val _::r=>zwF r
 |_=>false
def zwG:List SV->Bool
 |[]=>true
 |.val _::r=>zwG r
 |.agg cs::r=>uw (zwF cs) (zwG r)
 |_=>false
def ofV(v:Value):SV:=
 match v with
 |.agg a=>.agg (a.toList.map .val)
 |v=>.val v
def opV(P:Program)(Γ:List (TypeId×TI))(op:Op)(svs:List SV)(lm:Nat->Option Mem)(κ:Nat)(K:SV->MD->Prop):Prop:=
 match op,svs with
 |.move _,[s]=>K s .none
 |.assign _,[s]=>K s .none
 |.pick _ _ _,[c,a,b]=>zwC c a b K
 |.alloc e,_=>kM Γ e λi=>K (.loc κ 0) (.push (.box e (vals i.zero)))
 |.box e _,[s]=>boxV Γ e s κ K
 |.build t ps,svs=>zrG Γ t (ps.toList.map (·.1)) svs K
 |.buildSlice t n ps,svs=>zdg Γ t n (ps.toList.map (·.1)) svs κ K
 |.load t _,[s]=>zwy Γ t s lm K
 |.store t _ _,[s,v]=>zrD Γ t s v lm K
 |.nilCheck _,[s]=>(match s with
  |.loc k off=>K (.loc k off) .none
  |.ptr cs=>K (.ptr cs) .none
  |.dptr cs=>K (.dptr cs) .none
  |.eloc k sz i off=>K (.eloc k sz i off) .none
  |.ifc t s=>K (.ifc t s) .none
  |_=>False)
 |.binOp op t _ y _,[a,b]=>bin Γ op t y a b λs=>K s .none
 |.unOp op _ _,[s]=>unV op s K
 |.convert s0 t _,[s]=>kM Γ s0 λ_=>kM Γ t λi=>(match i.kind,s with
  |.int k,.val (.int _ n)=>zlx k n λs=>K s .none
  |_,_=>False)
 |.makeFunc fn first caps,svs=>(match fn with
  |.func f=>(match first.isEmpty with
   |true=>K (.fn f svs) .none
   |false=>zN caps.isEmpty (match zwG svs with
    |true=>zs9 svs λvs=>K (.val (.func (.func f) vs.toArray #[])) .none
    |false=>zN (j9.flats svs) (K (.bm f svs) .none)))
  |_=>False)
 |.makeSlice t _ _,[l,c]=>zfp Γ t l c κ K
 |.slice t _ lo hi mx,svs=>znw Γ t lo hi mx svs lm κ K
 |.fieldAddr t _ f,[s]=>zfn Γ t f s K
 |.field t _ f,[s]=>kM Γ t λi=>(match i.kind,s with
  |.struct fs,.agg cs=>(match zo2 fs f with
   |some (off,ft)=>kM Γ ft λj=>zN (Nat.ble (off+j.sz) cs.length) (mkV j.kind.agg j.sz (cs.drop off) λs=>K s .none)
   |none=>False)
  |_,_=>False)
 |.indexAddr t _ _,[s,n]=>zfo Γ t s n lm K
 |.index t _ _,[s,n]=>zrF Γ t s n K
 |.extract _ n,[s]=>(match s with
  |.tup vs=>(match vs.drop n with
   |v::_=>zaD v λv=>K v .none
   |[]=>False)
  |_=>False)
 |.makeInterface t _,[s]=>zjo Γ t s K
 |.typeAssert _ _ t ok,[s]=>znz Γ t ok s K
 |.makeMap t _,svs=>zjn Γ t svs κ K
 |.mapUpdate t _ _ _,[m,k,s]=>vI Γ t m k s lm K
 |.insert t _ _ _,[m,k,s]=>vI Γ t m k s lm K
 |.lookup t _ _ ok,[m,k]=>znx Γ t ok m k lm K
 |.call c,svs=>(match c.callee with
  |.value _=>(match svs with
   |.fn f caps::args=>zb P lm κ f (args++caps) K
   |.val (.func (.func f) first ⟨[]⟩)::args=>zb P lm κ f (first.toList.map ofV++args) K
   |.dfn f caps::args=>zb P lm κ f (args++caps) K
   |.bm f first::args=>zb P lm κ f (first++args) K
   |_=>False)
  |.invoke _ name=>(match svs with
   |.ifc t s::args=>∃f,znA P t name f=true/\zb P lm κ f (s::args) K
   |_=>False)
  |.builtin b=>zjm Γ b c.argTypes.toList svs lm κ K)
 |_,_=>False
def zdh(M:List (Nat×Mem))(κ k:Nat):Option Mem:=
 match Nat.blt k κ with
 |true=>zS M k
 |false=>none
def zlS(d:Option Tmp)(nt:Nat)(K:Prop):Prop:=
 match d with
 |some d=>zN (Nat.blt d nt) K
 |none=>K
def zc4:Op->Bool
 |.load _ _=>true
 |.store _ _ _=>true
 |.slice _ _ _ _ _=>true
 |.indexAddr _ _ _=>true
 |.mapUpdate _ _ _ _=>true
 |.insert _ _ _ _=>true
 |.lookup _ _ _ _=>true
 |.call _=>true
 |_=>false
def zwH:Op->Bool
 |.call c=>(match c.callee with
  |.builtin .append=>true
  |.builtin .copy=>true
  |_=>false)
 |_=>false
def isW:Op->Bool
 |.store _ _ _=>true
 |.mapUpdate _ _ _ _=>true
 |.insert _ _ _ _=>true
 |o=>zwH o
def zdi:Op->Bool
 |.store _ _ _=>true
 |.alloc _=>true
 |.box _ _=>true
 |.buildSlice _ _ _=>true
 |.makeSlice _ _ _=>true
 |.makeMap _ _=>true
 |.mapUpdate _ _ _ _=>true
 |.insert _ _ _ _=>true
 |o=>zwH o
def zrH(acc:List Nat)(o:Oper):Nat:=o.after.toList.foldl (λs e=>if Region.binds .any e then s|||2^e.on|||acc.getD e.on 0 else s) 0
def zbu(all:List Oper):Nat->List Nat
 |0=>[]
 |j+1=>let acc:=zbu all j;acc++[match all[j]? with|some o=>zrH acc o|none=>0]
def zdj:List Oper->Nat->Option Tmp
 |[],_=>none
 |o::_,0=>o.dst
 |_::r,n+1=>zdj r n
def zhc:List Operand->List Nat
 |[]=>[]
 |.tmp t::r=>t::zhc r
 |_::r=>zhc r
def zcx(all:List Oper)(o:Oper):List Nat:=
 zhc (k9 o.op)++(match o.guard with
  |some (j,_)=>(match zdj all j with
   |some t=>[t]
   |none=>[])
  |none=>[])
def uy(o:Oper):List Nat:=o.dst.toList
def zdk(a b:List Nat):Bool:=a.any λx=>b.any λy=>Nat.beq x y
def zuH(all:List Oper)(oi oj:Oper):Bool:=
 (zdi oi.op&&zc4 oj.op)||(zc4 oi.op&&isW oj.op)||zdk (uy oi) (zcx all oj)||zdk (uy oi) (uy oj)||zdk (zcx all oi) (uy oj)
def ziR(ops:List Oper):Bool:=
 (List.range ops.length).all λj=>(match ops[j]? with
  |some o=>o.after.toList.all λe=>!Region.binds .any e||Nat.blt e.on j
  |none=>true)
def vl(ops:List Oper):Bool:=
 let ms:=zbu ops ops.length
 ziR ops&&(List.range ops.length).all λj=>(List.range j).all λi=>(ms.getD j 0).testBit i||!(match ops[i]?,ops[j]? with
  |some oi,some oj=>zuH ops oi oj
  |_,_=>false)
def znB(ops:List Oper)(i:Nat):Bool:=
 let ms:=zbu ops ops.length
 (List.range ops.length).all λj=>Nat.ble j i||(ms.getD j 0).testBit i||!(match ops[j]? with
  |some oj=>zc4 oj.op
  |none=>false)
def mdV(draw:Bool)(all:List Oper)(i κ:Nat)(op:Op)(md:MD)(K:Prop):Prop:=
 match draw with
 |false=>K
 |true=>(match isW op with
  |true=>(match md with
   |.drop _=>False
   |.set k _=>zN (Nat.blt k κ) K
   |.repl k _=>zN (Nat.blt k κ) K
   |.give _ _ _=>False
   |_=>K)
  |false=>(match md with
   |.none=>K
   |.push _=>(match zdi op with
    |true=>K
    |false=>Dr (znB all i=true) K False)
   |_=>False))
def zwI(n:Nat):(Nat->Prop)->Prop:=
 Nat.rec (motive:=λ_=>(Nat->Prop)->Prop) (λK=>K 0) (λ_ ih K=>ih λm=>K (m+1)) n
def zfq:∀{n:Nat} {K:Nat->Prop},zwI n K->K n
 |0,_,h=>h
 |n+1,_,h=>zfq (n:=n) h
def znC(l:List SV):(List SV->Prop)->Prop:=
 List.rec (motive:=λ_=>(List SV->Prop)->Prop) (λK=>K []) (λc _ ih K=>ih λr=>K (c::r)) l
def zbv:∀{l:List SV} {K:List SV->Prop},znC l K->K l
 |[],_,h=>h
 |c::l,K,h=>zbv (l:=l) (K:=λr=>K (c::r)) h
def znD(s:SV)(K:SV->Prop):Prop:=
 match s with
 |.agg cs=>znC cs λcs=>K (.agg cs)
 |s=>K s
def zdl{s:SV}{K:SV->Prop}(h:znD s K):K s:=by
 unfold znD at h
 split at h
 ·exact zbv (K:=λcs=>K (.agg cs)) h
 exact h
def znE(md:MD)(K:MD->Prop):Prop:=
 match md with
 |.push m=>(match m with
  |.box T cs=>znC cs λcs=>K (.push (.box T cs))
  |m=>K (.push m))
 |.set k m=>(match m with
  |.box T cs=>znC cs λcs=>K (.set k (.box T cs))
  |m=>K (.set k m))
 |md=>K md
def zdm{md:MD}{K:MD->Prop}(h:znE md K):K md:=by
 unfold znE at h
 split at h
 ·split at h
  ·rename_i T cs;exact zbv (K:=λcs=>K (.push (.box T cs))) h
  exact h
 ·rename_i k _;split at h
  ·rename_i T cs;exact zbv (K:=λcs=>K (.set k (.box T cs))) h
  exact h
 exact h
def St.withK(σ:St)(κ:Nat):St:=⟨σ.L,σ.M,κ,σ.nt,σ.n0⟩
def zdn(P:Program)(Γ:List (TypeId×TI))(draw:Bool)(all:List Oper)(i:Nat)(o:Oper)(σ:St)(K:St->Prop):Prop:=
 zwI σ.nk λκ=>evs σ.L (k9 o.op) λsvs=>opV P Γ o.op svs (zdh σ.M κ) κ λs md=>znD s λs=>znE md λmd=>mdV draw all i κ o.op md (zlS o.dst σ.nt (K ((σ.withK κ).app o.dst s md)))
def zaq(o:Oper)(σ:St)(K:St->Prop):Prop:=zlS o.dst σ.nt (K (σ.app o.dst (.val undef) .none))
def u6(P:Program)(Γ:List (TypeId×TI))(draw:Bool)(all:List Oper)(l:List Oper):Nat->St->(St->Prop)->Prop:=
 List.rec (motive:=λ_=>Nat->St->(St->Prop)->Prop) (λ_ σ K=>K σ) (λo _ ih i σ K=>match o.guard with
  |none=>zdn P Γ draw all i o σ λσ=>ih (i+1) σ K
  |some (j,want)=>(match zdj all j with
   |none=>False
   |some t=>(match kK σ.L t with
    |some (.val (.bool true))=>(match want with
     |true=>zdn P Γ draw all i o σ λσ=>ih (i+1) σ K
     |false=>zaq o σ λσ=>ih (i+1) σ K)
    |some (.val (.bool false))=>(match want with
     |false=>zdn P Γ draw all i o σ λσ=>ih (i+1) σ K
     |true=>zaq o σ λσ=>ih (i+1) σ K)
    |some (.pr p _)=>(match want with
     |true=>Br (p->zdn P Γ draw all i o (σ.put (some t) (.val (.bool true))) λσ=>ih (i+1) σ K)
       (¬p->zaq o (σ.put (some t) (.val (.bool false))) λσ=>ih (i+1) σ K)
     |false=>Br (p->zaq o (σ.put (some t) (.val (.bool true))) λσ=>ih (i+1) σ K)
       (¬p->zdn P Γ draw all i o (σ.put (some t) (.val (.bool false))) λσ=>ih (i+1) σ K))
    |some (.val (.tuple _))=>zaq o σ λσ=>ih (i+1) σ K
    |_=>False))) l
def zCj:SV->List Nat
 |.loc k _=>[k]
 |.own k=>[k]
 |.eloc k _ _ _=>[k]
 |.win k _ _ _=>[k]
 |_=>[]
def zdo:List SV->List Nat
 |[]=>[]
 |c::cs=>zCj c++zdo cs
def zjp:List SV->Bool
 |[]=>true
 |c::cs=>(match c with
  |.val _=>zjp cs
  |.pr _ _=>zjp cs
  |.sl _ _=>zjp cs
  |_=>false)
def zhd:List SV->Bool
 |[]=>true
 |c::cs=>(match c with
  |.val _=>zhd cs
  |.pr _ _=>zhd cs
  |.sl _ _=>zhd cs
  |.agg xs=>(match zjp xs with
   |true=>zhd cs
   |false=>false)
  |.fn _ xs=>(match zjp xs with
   |true=>zhd cs
   |false=>false)
  |_=>false)
def zo5(op:Op)(svs:List SV):Option (List Nat):=
 match op with
 |.call c=>(match c.callee with
  |.builtin _=>some (zdo svs)
  |_=>(match zhd svs with
   |true=>some []
   |false=>none))
 |.store _ _ _=>(match svs with
  |s::_=>some (zCj s)
  |[]=>some [])
 |.load _ _=>some (zdo svs)
 |.slice _ _ _ _ _=>some (zdo svs)
 |.indexAddr _ _ _=>some (zdo svs)
 |.mapUpdate _ _ _ _=>some (zdo svs)
 |.insert _ _ _ _=>some (zdo svs)
 |.lookup _ _ _ _=>some (zdo svs)
 |_=>some []
structure Ent where
 u:Option (List Nat)
 nk:Nat
 t:List Nat
def zeS(k:Nat):List Nat->Bool
 |[]=>false
 |x::r=>match Nat.beq x k with
  |true=>true
  |false=>zeS k r
def zdp(u:Option (List Nat))(nk k:Nat):Bool:=
 match u with
 |none=>Nat.blt k nk
 |some l=>zeS k l
def lmU(u:Option (List Nat))(nk:Nat)(lm:Nat->Option Mem)(k:Nat):Option Mem:=
 match zdp u nk k with
 |true=>lm k
 |false=>none
def zrI(κ:Nat):Nat->List Nat
 |0=>[]
 |n+1=>(κ+n)::zrI κ n
def zhe(κ:Nat):MD->List Nat
 |.none=>[]
 |.push _=>[κ]
 |.set k _=>[k]
 |.drop k=>[k]
 |.repl k _=>[k,κ]
 |.give ks _ nn=>ks++zrI κ nn
def zta(e:Ent):List Nat->Bool
 |[]=>false
 |k::r=>match zdp e.u e.nk k with
  |true=>true
  |false=>match zeS k e.t with
   |true=>true
   |false=>zta e r
def ztb(x:Ent):List Nat->Bool
 |[]=>false
 |k::r=>match zdp x.u x.nk k with
  |true=>true
  |false=>ztb x r
def zo6(x e:Ent):Bool:=
 match zta e x.t with
 |true=>true
 |false=>ztb x e.t
def prOK(m:Nat)(e:Ent):List Ent->Bool
 |[]=>true
 |x::r=>(m.testBit r.length||!zo6 x e)&&prOK m e r
def zjq(ms:List Nat):List Ent->Bool
 |[]=>true
 |e::r=>prOK (ms.getD r.length 0) e r&&zjq ms r
def zjr(all:List Oper)(oi oj:Oper):Bool:=
 zdk (uy oi) (zcx all oj)||zdk (uy oi) (uy oj)||zdk (zcx all oi) (uy oj)
def zfr(ops:List Oper):Bool:=
 let ms:=zbu ops ops.length
 ziR ops&&(List.range ops.length).all λj=>(List.range j).all λi=>(ms.getD j 0).testBit i||!(match ops[i]?,ops[j]? with
  |some oi,some oj=>zjr ops oi oj
  |_,_=>false)
def mdD(κ:Nat)(md:MD)(K:Prop):Prop:=
 match md with
 |.drop k=>zN (Nat.blt k κ) K
 |.set k _=>zN (Nat.blt k κ) K
 |.repl k _=>zN (Nat.blt k κ) K
 |.give ks new nn=>zN (uw (newB ks κ nn new) (znt new κ nn)) K
 |_=>K
def zbw(P:Program)(Γ:List (TypeId×TI))(o:Oper)(σ:St)(K:Ent->St->Prop):Prop:=
 zwI σ.nk λκ=>evs σ.L (k9 o.op) λsvs=>opV P Γ o.op svs (lmU (zo5 o.op svs) κ (zdh σ.M κ)) κ λs md=>znD s λs=>znE md λmd=>mdD κ md (zlS o.dst σ.nt (K ⟨zo5 o.op svs,κ,zhe κ md⟩ ((σ.withK κ).app o.dst s md)))
def zlT:Ent:=⟨some [],0,[]⟩
def za2(P:Program)(Γ:List (TypeId×TI))(all:List Oper)(l:List Oper):Nat->List Ent->St->(St->Prop)->Prop:=
 List.rec (motive:=λ_=>Nat->List Ent->St->(St->Prop)->Prop) (λ_ acc σ K=>Ob (zjq (zbu all all.length) acc=true) (K σ)) (λo _ ih i acc σ K=>match o.guard with
  |none=>zbw P Γ o σ λe σ=>ih (i+1) (e::acc) σ K
  |some (j,want)=>(match zdj all j with
   |none=>False
   |some t=>(match kK σ.L t with
    |some (.val (.bool true))=>(match want with
     |true=>zbw P Γ o σ λe σ=>ih (i+1) (e::acc) σ K
     |false=>zaq o σ λσ=>ih (i+1) (zlT::acc) σ K)
    |some (.val (.bool false))=>(match want with
     |false=>zbw P Γ o σ λe σ=>ih (i+1) (e::acc) σ K
     |true=>zaq o σ λσ=>ih (i+1) (zlT::acc) σ K)
    |some (.pr p _)=>(match want with
     |true=>Br (p->zbw P Γ o (σ.put (some t) (.val (.bool true))) λe σ=>ih (i+1) (e::acc) σ K)
       (¬p->zaq o (σ.put (some t) (.val (.bool false))) λσ=>ih (i+1) (zlT::acc) σ K)
     |false=>Br (p->zaq o (σ.put (some t) (.val (.bool true))) λσ=>ih (i+1) (zlT::acc) σ K)
       (¬p->zbw P Γ o (σ.put (some t) (.val (.bool false))) λe σ=>ih (i+1) (e::acc) σ K))
    |some (.val (.tuple _))=>zaq o σ λσ=>ih (i+1) (zlT::acc) σ K
    |_=>False))) l
inductive Ex
 |normal
 |exit (id:Nat)
 |ret
def Sub(σ σ':St):Prop:=∀(E:Env) ρ a w,Rel E σ ρ a w->∃ρ',Rel E σ' ρ' a w
def jH(P:Program)(Γ:List (TypeId×TI))(c:Code):St->(Ex->St->Prop)->Prop:=
 Code.rec (motive:=λ_=>St->(Ex->St->Prop)->Prop)
  (λσ Q=>Q .normal σ)
  (λ_ ops draw σ Q=>match draw with
   |false=>u6 P Γ false ops.toList ops.toList 0 σ (Q .normal)
   |true=>Dr (vl ops.toList=true) (u6 P Γ true ops.toList ops.toList 0 σ (Q .normal))
     (Ob (zfr ops.toList=true) (za2 P Γ ops.toList ops.toList 0 [] σ (Q .normal))))
  (λ_ _ ha hb σ Q=>ha σ λe σ=>(match e with
   |.normal=>hb σ Q
   |.exit id=>Q (.exit id) σ
   |.ret=>Q .ret σ))
  (λc _ _ hx hy σ Q=>ev σ.L c λc=>(match c with
   |.val (.bool true)=>hx σ Q
   |.val (.bool false)=>hy σ Q
   |.pr p _=>Br (p->hx σ Q) (¬p->hy σ Q)
   |.anyb=>Br (hx σ Q) (hy σ Q)
   |_=>False))
  (λid _ hc σ Q=>hc σ λe σ=>(match e with
   |.normal=>Q .normal σ
   |.exit j=>(match Nat.beq j id with
    |true=>Q .normal σ
    |false=>Q (.exit j) σ)
   |.ret=>Q .ret σ))
  (λ_ hc σ Q=>∃(ι:Type) (S:ι->St) (I:ι->Prop) (μ:ι->Nat) (x0:ι),I x0/\Sub σ (S x0)/\
   ∀x,I x->hc (S x) λe σ'=>(match e with
    |.normal=>∃x',I x'/\Sub σ' (S x')/\μ x'<μ x
    |.exit id=>Q (.exit id) σ'
    |.ret=>Q .ret σ'))
  (λ_ _ _ _ _ _ _ _=>False)
  (λid σ Q=>Q (.exit id) σ)
  (λ_ hc σ Q=>hc σ Q)
  (λ_ σ Q=>Q .normal σ)
  (λ_ _ _=>False)
  (λσ Q=>Q .ret σ)
  (λ_ _ _=>False)
  c
def zrJ(σ:St)(Γ:List (TypeId×TI))(x:ResultVar)(K:SV->Prop):Prop:=
 match x with
 |.tmp t=>(match kK σ.L t with
  |some s=>zaD s λs=>K s
  |none=>False)
 |.cell a t=>kM Γ t λi=>(match kK σ.L a with
  |some (.loc k off)=>(match zS σ.M k with
   |some (.box _ cs)=>zN (Nat.ble (off+i.sz) cs.length) (mkV i.kind.agg i.sz (cs.drop off) λs=>K s)
   |_=>False)
  |_=>False)
def zwJ(σ:St)(Γ:List (TypeId×TI))(xs:List ResultVar):(List SV->Prop)->Prop:=
 List.rec (motive:=λ_=>(List SV->Prop)->Prop) (λK=>K []) (λx _ ih K=>zrJ σ Γ x λs=>ih λl=>K (s::l)) xs
def zbV(σ:St)(Γ:List (TypeId×TI))(rs:List ResultVar)(K:SV->Prop):Prop:=
 zwJ σ Γ rs λl=>match l with
  |[s]=>K s
  |l=>K (.tup l)
def jI:Nat->List SV->List (Nat×SV)
 |_,[]=>[]
 |n,a::r=>(n,a)::jI (n+1) r
def zlU(lm:Nat->Option Mem)(s:SV):SV:=
 match s with
 |.tup cs=>.tup (znq lm cs)
 |s=>zh8 lm s
def endV(Γ:List (TypeId×TI))(rs:List ResultVar)(r:SV)(e:Ex)(σ:St):Prop:=
 match e with
 |.exit _=>False
 |_=>zbV σ Γ rs λs=>LE (zlU (zS σ.M) s) r
inductive za3 (k:Option Nat):SV->SV->Prop
 |own (k':Nat) (h:k=some k'):za3 k (.own k') (.own 0)
 |loc (k' off:Nat) (h:k=some k'):za3 k (.loc k' off) (.loc 0 off)
 |nil (h:k=none):za3 k (.val (.slice none 0 0)) (.own 0)
 |le (s r:SV) (h:LE s r) (hf:j9 r=true):za3 k s r
 |junk (s:SV):za3 k s .junk
 |agg (cs ds:List SV) (hl:cs.length=ds.length) (h:∀(j:Nat) (s r:SV),cs[j]?=some s->ds[j]?=some r->za3 k s r):za3 k (.agg cs) (.agg ds)
 |tup (cs ds:List SV) (hl:cs.length=ds.length) (h:∀(j:Nat) (s r:SV),cs[j]?=some s->ds[j]?=some r->za3 k s r):za3 k (.tup cs) (.tup ds)
 |fn (f:FuncId) (cs ds:List SV) (hl:cs.length=ds.length) (h:∀(j:Nat) (s r:SV),cs[j]?=some s->ds[j]?=some r->za3 k s r):za3 k (.fn f cs) (.fn f ds)
def zwK(M:List (Nat×Mem))(k:Option Nat)(m:Mem):Prop:=
 match k with
 |some k=>zS M k=some m/\zfX m
 |none=>(match m with
  |.arr _ _ _ xs=>xs=[]
  |_=>False)
def zrK(Γ:List (TypeId×TI))(rs:List ResultVar)(r:SV)(m:Mem)(e:Ex)(σ:St):Prop:=
 match e with
 |.exit _=>False
 |_=>zbV σ Γ rs λs=>∃k,za3 k s r/\zwK σ.M k m
def zC1(Γ:List (TypeId×TI))(rs:List ResultVar)(r:SV)(m:Mem)(e:Ex)(σ:St):Prop:=
 match e with
 |.exit _=>False
 |_=>zbV σ Γ rs λs=>(zS σ.M 0=some m/\LE s r)
variable{w':World}
def zhf{w:World}{b o:Nat}(h:w'.heap[b]?=w.heap[b]?):w'.cell? ⟨b,o,none⟩=w.cell? ⟨b,o,none⟩:=by
 simp only[World.cell?,h]
def D.mono{S S':Nat->Prop}{w:World}(hz:w.heap.size<=w'.heap.size)(hS:∀b,b<w.heap.size->¬S b->¬S' b/\w'.heap[b]?=w.heap[b]?){s:SV}{v:Value}(h:D S w s v):D S' w' s v:=by
 induction h with
 |val v=>exact .val v
 |pr p i=>exact .pr p i
 |agg cs vs hl h ih=>exact .agg cs vs hl ih
 |nil enc a=>exact .nil enc a
 |nils a=>exact .nils a
 |anyb b=>exact .anyb b
 |junk v=>exact .junk v
 |full enc xs a h ih=>exact .full enc xs a ih
 |sl enc xs sz b o cap c hb hS' hlen hcap hsz hc h ih=>
  obtain⟨h1,h2⟩:=hS b hb hS';exact .sl enc xs sz b o cap c (Xw hb hz) h1 hlen hcap hsz (λi j hi hj=>by rw[zhf h2];exact hc i j hi hj) ih
 |dptr cs b o c hb hS' hc h ih=>
  obtain⟨h1,h2⟩:=hS b hb hS';exact .dptr cs b o c (Xw hb hz) h1 (λj hj=>by rw[zhf h2];exact hc j hj) ih
 |dfn f cs vs hl h ih=>exact .dfn f cs vs hl ih
 |bm f cs vs hl h ih=>exact .bm f cs vs hl ih
 |op v h=>exact .op v h
 |ifc t s v h ih=>exact .ifc t s v ih
def G.mono{S S' Pm Pm':Nat->Prop}{ρ ρ':zi}{w w':World}(hz:w.heap.size<=w'.heap.size)(hS:∀b,b<w.heap.size->¬S b->¬S' b/\w'.heap[b]?=w.heap[b]?)(hP:∀b,b<w.heap.size->¬Pm b->¬Pm' b/\w'.heap[b]?=w.heap[b]?)(hρ:∀k v,ρ k=some v->ρ' k=some v){s:SV}{v:Value}(h:G S Pm ρ w s v):G S' Pm' ρ' w' s v:=by
 induction h with
 |d s v h=>exact .d s v (h.mono hz hS)
 |loc k off b h=>exact .loc k off b (hρ _ _ h)
 |own k v h h1=>exact .own k v (hρ _ _ h) h1
 |eloc k sz i off b len cap h=>exact .eloc k sz i off b len cap (hρ _ _ h)
 |win k sz lo n b len cap cap' h h1 h2=>exact .win k sz lo n b len cap cap' (hρ _ _ h) h1 h2
 |ptr cs b o c hb hP' hc h=>
  obtain⟨h1,h2⟩:=hP b hb hP';exact .ptr cs b o c (Xw hb hz) h1 (λj hj=>by rw[zhf h2];exact hc j hj) (λj s hs=>(h j s hs).mono hz hS)
 |agg cs vs hl h ih=>exact .agg cs vs hl ih
 |tup cs vs hl h ih=>exact .tup cs vs hl ih
 |fn f cs vs hl h ih=>exact .fn f cs vs hl ih
 |ifc t s v h ih=>exact .ifc t s v ih
def kQ.refl(w:World):kQ w w:=⟨rfl,λ_=>rfl⟩
def kQ.trans{w w' w'':World}(h:kQ w w')(k:kQ w' w''):kQ w w'':=⟨k.1.trans h.1,λa=>(k.2 a).trans (h.2 a)⟩
def kQ.cells(w:World)(c:Array Value)(t:TypeId):kQ w (w.alloc (.cells c t)):=⟨rfl,λa=>RowKit.frozen?_alloc_cells w c t a⟩
def kQ.setRow(w:World)(g:Nat)(cs:Array Value):kQ w (w.setRow g cs):=⟨rfl,λa=>by
 show World.frozen? { w with heap:=w.heap.modify g _ } a=_;unfold World.frozen?;simp only[Qu]
 by_cases h:g=a.block
 ·simp only[h,if_true]
  cases w.heap[a.block]? with
  |none=>rfl
  |some o=>cases o <;> rfl
 simp only[h,if_false]⟩
def Stp.refl{W:Nat->Prop}{ρ:zi}{w:World}:Stp W W ρ ρ w w:=⟨rfl,rfl,.refl _,Xk _,λ_ _ _=>rfl,λ_ h=>.inl h,λ_ _ h=>h⟩
def Stp.trans{W W' W'':Nat->Prop}{ρ ρ' ρ'':zi}{w w' w'':World}(h:Stp W W' ρ ρ' w w')(k:Stp W' W'' ρ' ρ'' w' w''):Stp W W'' ρ ρ'' w w'':=
 ⟨k.os.trans h.os,k.tape.trans h.tape,h.output.trans k.output,XC h.size k.size,
  λb hb hn=>(k.block b (Xw hb h.size) (λhw=>(h.own b hw).elim hn (λh2=>by omega))).trans (h.block b hb hn),
  λb hb=>(k.own b hb).elim (h.own b) (λh2=>.inr (XC h.size h2)),λk' v hv=>k.rho _ _ (h.rho _ _ hv)⟩
variable{Keep:Nat->Prop}{W:Nat->Prop}{W':Nat->Prop}{ρ:zi}{ρ':zi}
def G.stp{w:World}(h:Stp W W' ρ ρ' w w'){s:SV}{v:Value}(hg:G (λb=>Keep b∨W b) W ρ w s v):G (λb=>Keep b∨W' b) W' ρ' w' s v:=
 hg.mono h.size (λb hb hn=>⟨λhw=>hw.elim (λhk=>hn (.inl hk)) (λhw=>(h.own b hw).elim (λh1=>hn (.inr h1)) (λh2=>by omega)),h.block b hb (λhw=>hn (.inr hw))⟩)
  (λb hb hn=>⟨λhw=>(h.own b hw).elim hn (λh2=>by omega),h.block b hb hn⟩) h.rho
def D.stp{w:World}(h:Stp W W' ρ ρ' w w'){s:SV}{v:Value}(hg:D (λb=>Keep b∨W b) w s v):D (λb=>Keep b∨W' b) w' s v:=
 hg.mono h.size (λb hb hn=>⟨λhw=>hw.elim (λhk=>hn (.inl hk)) (λhw=>(h.own b hw).elim (λh1=>hn (.inr h1)) (λh2=>by omega)),h.block b hb (λhw=>hn (.inr hw))⟩)
def qw(P:Program)(o:Oper)(a:Act)(w:World)(R:Value->World->Prop):Prop:=
 o.wp P a w (λa' w'=>∃v,a'=a.put o.dst v/\R v w') (λ_ _ _=>False)
def qw.value{P:Program}{o:Oper}{a:Act}{w w':World}{R:Value->World->Prop}{v:Value}(h:(execOp a.eval o).run P w=.ok (.value v) w')(hr:R v w'):qw P o a w R:=by
 unfold qw Oper.wp;rw[h];exact⟨v,rfl,hr⟩
def qw.skip{P:Program}{o:Oper}{a:Act}{w w':World}{R:Value->World->Prop}(h:(execOp a.eval o).run P w=.ok .skip w')(hr:R undef w'):qw P o a w R:=by
 unfold qw Oper.wp;rw[h];exact⟨undef,rfl,hr⟩
def qw.call{o:Oper}{a:Act}{w:World}{R:Value->World->Prop}{args:Array Value}(h:(execOp a.eval o).run P w=.ok (.enter f args) w')(hc:Calls P f args w' λe w''=>∃v,e=.returned v/\R v w''):qw P o a w R:=by
 unfold qw Oper.wp;rw[h];refine hc.mono ?_
 rintro e w'' ⟨v,rfl,hr⟩
 exact⟨v,rfl,hr⟩
def qw.wp{P:Program}{o:Oper}{a:Act}{w:World}{R:Value->World->Prop}{K:Act->World->Prop}{Q:Exit->Act->World->Prop}(h:qw P o a w R)(hk:∀v w',R v w'->K (a.put o.dst v) w'):o.wp P a w K Q:=by
 unfold qw Oper.wp at*;generalize (execOp a.eval o).run P w=r at*
 cases r with
 |ok n w'=>
  cases n <;> simp only[Oper.upon]at h ⊢
  case value v=>obtain⟨u,e,hr⟩:=h;rw[e];exact hk u w' hr
  case skip=>obtain⟨u,e,hr⟩:=h;rw[e];exact hk u w' hr
  case defer d=>obtain⟨u,e,hr⟩:=h;rw[e];exact hk u w' hr
  case enter f args=>
   refine Calls.mono h ?_;intro e w'' he
   cases e with
   |returned v=>obtain⟨u,e,hr⟩:=he;show K (a.put o.dst v) w'';rw[e];exact hk u w'' hr
   |panicked c=>exact he.elim
   |outgrown=>obtain⟨_,_,hf⟩:=he;exact hf.elim
  case row row args=>
   exact Rows.mono h (λv w' ⟨u,e,hr⟩=>by show K (a.put o.dst v) w';rw[e];exact hk u w' hr)
 |halt x w'=>cases x <;> simp only[Oper.upon]at h
def kR(Keep:Nat->Prop)(M:List (Nat×Mem))(ρ:zi)(w:World)(κ:Nat)(s:SV)(md:MD)(v:Value)(w':World):Prop:=
 ∃ρ',Stp (Own M ρ) (Own (zcp M κ md) ρ') ρ ρ' w w'/\zK Keep (zcp M κ md) ρ' w'/\
  G (λb=>Keep b∨Own (zcp M κ md) ρ' b) (Own (zcp M κ md) ρ') ρ' w' s v/\∀k,(k<κ∨zbI κ md<=k)->ρ' k=ρ k
def zwL:MD->Bool
 |.push _=>true
 |.repl _ _=>true
 |_=>false
def yx(P:Program)(op:Op)(svs:List SV)(lm:Nat->Option Mem)(κ:Nat)(s:SV)(md:MD):Prop:=
 ∀(o:Oper),o.op=op->∀(Keep:Nat->Prop) (M:List (Nat×Mem)) (ρ:zi) (a:Act) (w:World),
  (∀k m,lm k=some m->zS M k=some m)->zK Keep M ρ w->(∀k,κ<=k->k<zbI κ md->ρ k=none)->(zwL md=true->∀m,(κ,m)∉M)->
  Gs (λb=>Keep b∨Own M ρ b) (Own M ρ) ρ w svs ((k9 op).map a.eval)->qw P o a w (kR Keep M ρ w κ s md)
def zw{M:List (Nat×Mem)}{k:Nat}{m:Mem}(h:zS M k=some m):(k,m)∈M:=by
 induction M with
 |nil=>simp[zS]at h
 |cons x r ih=>
  obtain⟨k',m'⟩:=x;simp only[zS]at h
  split at h
  ·rename_i hb;have:=Xj hb
   cases h;subst this;exact .head _
  exact .tail _ (ih h)
def kR.same{Keep:Nat->Prop}{M:List (Nat×Mem)}{ρ:zi}{w:World}{κ:Nat}{s:SV}{v:Value}(hm:zK Keep M ρ w)(hg:G (λb=>Keep b∨Own M ρ b) (Own M ρ) ρ w s v):kR Keep M ρ w κ s .none v w:=
 ⟨ρ,.refl,hm,hg,λ_ _=>rfl⟩
end Go.Gs
