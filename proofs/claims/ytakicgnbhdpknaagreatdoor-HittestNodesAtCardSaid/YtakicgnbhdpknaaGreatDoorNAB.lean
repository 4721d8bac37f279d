/- The conditions that an operation, a region, a piece of code leave to be shown. -/
import Derived.Test.YtakicgnbhdpknaaGreatDoorNAA
set_option maxRecDepth 100000
set_option maxHeartbeats 8000000
set_option linter.all false
namespace Go.Gs
def zfY:Mem->Prop
 |.box _ cs=>j9.flats cs=true
 |.arr _ enc _ xs=>∀x∈xs,j9.flats (enc x)=true
 |.garr _ _ _=>False
 |.map es=>j9.flats (es.map (·.2))=true
def give(lm:LJ)(k:Nat)(s:SV):SV:=
 match s with
 |.loc k' off=>(match Nat.beq k' k with
  |true=>.loc 0 off
  |false=>zjk lm (.loc k' off))
 |.own k'=>(match Nat.beq k' k with
  |true=>.own 0
  |false=>zjk lm (.own k'))
 |.win k' sz lo n=>(match Nat.beq k' k with
  |true=>.win 0 sz lo n
  |false=>zjk lm (.win k' sz lo n))
 |s=>zjk lm s
def zwC(lm:LJ)(k:Nat):LR->LR
 |[]=>[]
 |c::cs=>give lm k c::zwC lm k cs
def zlU(k:Nat):LR->Bool
 |[]=>true
 |.loc k' _::r=>(match Nat.beq k' k with
  |true=>false
  |false=>zlU k r)
 |_::r=>zlU k r
def zbI(lm:LJ)(k:Nat):LR->Bool
 |[]=>true
 |.loc k' off::r=>(match Nat.beq k' k with
  |true=>zbI lm k r
  |false=>uv (uu lm [.loc k' off]) (zbI lm k r))
 |.own k'::r=>(match Nat.beq k' k with
  |true=>zbI lm k r
  |false=>false)
 |.win k' _ _ _::r=>(match Nat.beq k' k with
  |true=>zbI lm k r
  |false=>false)
 |.fn f cs::r=>uv (zlU k cs) (uv (uu lm [.fn f cs]) (zbI lm k r))
 |s::r=>uv (uu lm [s]) (zbI lm k r)
def ziP:Mem->Prop
 |.box _ cs=>uw.scalars cs=true
 |.arr _ enc _ xs=>∀x∈xs,uw.scalars (enc x)=true
 |.garr _ _ _=>False
 |.map es=>uw.scalars (es.map (·.2))=true
def mv(κ:Nat):SV->SV
 |.own _=>.own κ
 |.loc _ off=>.loc κ off
 |.agg cs=>.agg (mvs κ cs)
 |.tup cs=>.tup (mvs κ cs)
 |.fn f cs=>.fn f (mvs κ cs)
 |.ifc t s=>.ifc t (mv κ s)
 |s=>s
 where
 mvs (κ:Nat):LR->LR
  |[]=>[]
  |c::cs=>mv κ c::mvs κ cs
def za1:SV->Bool
 |.own k=>Nat.beq k 0
 |.loc k _=>Nat.beq k 0
 |.val _=>true
 |.pr _ _=>true
 |.junk=>true
 |.agg cs=>mvOKs cs
 |.tup cs=>mvOKs cs
 |.fn _ cs=>mvOKs cs
 |.ifc _ s=>za1 s
 |_=>false
 where
 mvOKs:LR->Bool
  |[]=>true
  |c::cs=>match za1 c with
   |true=>mvOKs cs
   |false=>false
def zwD:Option Mem->Bool
 |some (.arr _ _ _ _)=>true
 |_=>false
def zwE(lm:LJ)(k:Nat):LR->Bool
 |[]=>true
 |.own k'::r=>(match Nat.beq k' k with
  |true=>zwE lm k r
  |false=>false)
 |s::r=>uv (uu lm [s]) (zwE lm k r)
def LE(s r:SV):Prop:=∀S Pm ρ w v,G S Pm ρ w s v->G S Pm ρ w r v
inductive LEs:LR->LR->Prop
 |nil:LEs [] []
 |cons {a b:SV} {za bs:LR} (h:LE a b) (t:LEs za bs):LEs (a::za) (b::bs)
def rn(ks:LC)(κ j:Nat):Nat:=
 match ks[j]? with
 |some k=>k
 |none=>κ+(j-ks.length)
def zaJ(ks:LC)(κ:Nat):SV->SV
 |.loc k off=>.loc (rn ks κ k) off
 |.own k=>.own (rn ks κ k)
 |.eloc k sz i off=>.eloc (rn ks κ k) sz i off
 |.win k sz lo n=>.win (rn ks κ k) sz lo n
 |.agg cs=>.agg (rens ks κ cs)
 |.tup cs=>.tup (rens ks κ cs)
 |.fn f cs=>.fn f (rens ks κ cs)
 |.ifc t s=>.ifc t (zaJ ks κ s)
 |s=>s
 where
 rens (ks:LC) (κ:Nat):LR->LR
  |[]=>[]
  |c::cs=>zaJ ks κ c::rens ks κ cs
def vG(n:Nat):SV->Bool
 |.loc k _=>Nat.blt k n
 |.own k=>Nat.blt k n
 |.eloc k _ _ _=>Nat.blt k n
 |.win k _ _ _=>Nat.blt k n
 |.agg cs=>lows n cs
 |.tup cs=>lows n cs
 |.fn _ cs=>lows n cs
 |.ifc _ s=>vG n s
 |_=>true
 where
 lows (n:Nat):LR->Bool
  |[]=>true
  |c::cs=>match vG n c with
   |true=>lows n cs
   |false=>false
def zcp(n:Nat):SV->Bool
 |.loc k _=>Nat.blt k n
 |.own k=>Nat.blt k n
 |.eloc k _ _ _=>Nat.blt k n
 |.win k _ _ _=>Nat.blt k n
 |.ptr _=>false
 |.agg cs=>outs n cs
 |.tup cs=>outs n cs
 |.fn _ cs=>outs n cs
 |.ifc _ s=>zcp n s
 |_=>true
 where
 outs (n:Nat):LR->Bool
  |[]=>true
  |c::cs=>match zcp n c with
   |true=>outs n cs
   |false=>false
def zlD(ks:LC)(κ:Nat):Mem->Mem
 |.box T cs=>.box T (zaJ.rens ks κ cs)
 |.garr T sz xs=>.garr T sz (xs.map (zaJ.rens ks κ))
 |m=>m
def zbs(ks:LC)(κ:Nat):LT->LT
 |[]=>[]
 |(j,m)::r=>(rn ks κ j,zlD ks κ m)::zbs ks κ r
def lowM(n:Nat):Mem->Prop
 |.box _ cs=>vG.lows n cs=true
 |.garr _ _ xs=>∀x∈xs,vG.lows n x=true
 |_=>True
def outM(n:Nat):Mem->Prop
 |.box _ cs=>zcp.outs n cs=true
 |.garr _ _ xs=>∀x∈xs,zcp.outs n x=true
 |_=>True
def ziQ(lm:LJ)(ks0:LC)(κ:Nat)(Mc:LT):Nat->LC->Prop
 |_,[]=>True
 |i,k::r=>(∃m,zU Mc i=some m/\lm k=some (zlD ks0 κ m)/\lowM ks0.length m)/\ziQ lm ks0 κ Mc (i+1) r
def zny(n:Nat):LT->Prop
 |[]=>True
 |(j,m)::r=>(Nat.blt j n=true/\outM n m)/\zny n r
def zrD(k:Nat):LC->Bool
 |[]=>false
 |x::r=>match Nat.beq x k with
  |true=>true
  |false=>zrD k r
def zbJ:LC->Bool
 |[]=>true
 |x::r=>match zrD x r with
  |true=>false
  |false=>zbJ r
def zo3(n:Nat):LT->Bool
 |[]=>true
 |(k,_)::r=>uv (Nat.blt k n) (zo3 n r)
def memM(k:Nat):LT->Bool
 |[]=>false
 |(q,_)::r=>match Nat.beq q k with
  |true=>true
  |false=>memM k r
def zjm:LT->Bool
 |[]=>true
 |(k,_)::r=>match memM k r with
  |true=>false
  |false=>zjm r
def newB(ks:LC)(κ nn:Nat):LT->Bool
 |[]=>true
 |(k,_)::r=>uv (zrD k ks||(Nat.ble κ k&&Nat.blt k (κ+nn))) (newB ks κ nn r)
def znz(k:Nat):LT->Bool
 |[]=>false
 |(q,_)::r=>match Nat.beq q k with
  |true=>true
  |false=>znz k r
def znA(new:LT)(κ:Nat):Nat->Bool
 |0=>true
 |n+1=>uv (znz (κ+n) new) (znA new κ n)
def znB(l:LR):(LR->Prop)->Prop:=
 List.rec (motive:=λ_=>(LR->Prop)->Prop) (λK=>K []) (λc _ ih K=>zaD c λc=>ih λr=>K (c::r)) l
def znC(m:Mem)(K:Mem->Prop):Prop:=
 match m with
 |.box T cs=>znB cs λcs=>K (.box T cs)
 |.arr T enc sz xs=>K (.arr T enc sz xs)
 |.garr T sz xs=>K (.garr T sz xs)
 |.map es=>K (.map es)
def zCj(n:Nat):LI->Prop:=
 Nat.rec (motive:=λ_=>LI->Prop) (λK=>K 0) (λ_ ih K=>ih λm=>K (m+1)) n
def ziR(l:LT):(LT->Prop)->Prop:=
 List.rec (motive:=λ_=>(LT->Prop)->Prop) (λK=>K []) (λx _ ih K=>zCj x.1 λk=>znC x.2 λm=>ih λr=>K ((k,m)::r)) l
inductive zb (P:Program) (lm:LJ) (κ:Nat) (f:FuncId) (args:LR) (K:LD):Prop
 |to (r:SV) (h:qx P f (zc0 lm args) [] r []) (hr:zta lm args r=true) (k:zaD r λr=>K r .none)
 |fresh (m:Mem) (r:SV) (h:qx P f (zc0 lm args) [] r [(0,m)]) (hr:za1 r=true) (hm:zfY m) (hc:uu lm args=true∨ziP m) (k:zaD (mv κ r) λr=>K r (.push m))
 |see (k:Nat) (r:SV) (h:qx P f (zc0 lm args) [] r []) (hk:zwD (lm k)=true) (hc:zwE lm k args=true) (hr:zjj r=true) (kk:zaD r λr=>K r (.drop k))
 |hand (k:Nat) (m m':Mem) (r:SV) (hk:lm k=some m) (h:qx P f (zwC lm k args) [(0,m)] r [(0,m')])
   (hm:zfY m) (hm':zfY m') (hc:zbI lm k args=true) (hr:zjj r=true) (k:zaD r λr=>K r (.set k m'))
 |give (ks:LC) (nn:Nat) (args':LR) (Mc M':LT) (r:SV) (h:qx P f args' Mc r M') (ha:LEs args (zaJ.rens ks κ args')) (hl:vG.lows ks.length args'=true)
   (hn:zbJ ks=true) (hk:uv (Nat.beq Mc.length ks.length) (uv (zo3 ks.length Mc) (zjm Mc))=true) (hM:ziQ lm ks κ Mc 0 ks) (hr:zcp (ks.length+nn) r=true) (hM':zny (ks.length+nn) M')
   (k:ziR (zbs ks κ M') λnew=>zaD (zaJ ks κ r) λr=>K r (.give ks new nn))
def wg{P:Program}{lm:LJ}{κ:Nat}{f:FuncId}{args:LR}{K:LD}{r:SV}(h:qx P f (zc0 lm args) [] r [])(k:zaD r λr=>K r .none)(hr:zta lm args r=true:=by rfl):zb P lm κ f args K:=.to r h hr k
def zlV(s:SV):Bool:=
 match s with
 |.val v=>(match v with
  |.agg _=>false
  |.tuple _=>false
  |_=>true)
 |.agg _=>false
 |.tup _=>false
 |.junk=>false
 |_=>true
def jY:LR->Bool
 |[]=>true
 |c::cs=>match zlV c with
  |true=>jY cs
  |false=>false
def jy(o:Option Operand)(l:LR)(dflt:Int)(K:Int->LR->Prop):Prop:=
 match o with
 |none=>K dflt l
 |some _=>match l with
  |.val (.int _ n)::r=>K n r
  |_=>False
def fstO(p:Option (Nat×Nat)):Nat:=
 match p with
 |some (a,_)=>a
 |none=>0
def zcq(pl:Nat->Option (Nat×Nat)):LC->LR->LR->LR
 |i::r,s::l,cs=>zcq pl r l (vg cs (fstO (pl i)) (kN s))
 |_,_,cs=>cs
def zbK(pl:Nat->Option (Nat×Nat))(n:Nat):LC->LR->Bool
 |i::r,s::l=>(match pl i with
  |some (off,sz)=>uv (Nat.beq (kN s).length sz) (uv (Nat.ble (off+sz) n) (uv (jY (kN s)) (zbK pl n r l)))
  |none=>false)
 |[],[]=>true
 |_,_=>false
def zjn(Γ:LS)(fs:LM)(i:Nat):Option (Nat×Nat):=
 match zo1 fs i with
 |some (off,ft)=>(match ti Γ ft with
  |some j=>some (off,j.sz)
  |none=>none)
 |none=>none
def zap(sz i:Nat):Option (Nat×Nat):=some (i*sz,sz)
def rep{α:Type 1}(n:Nat)(cs:List α):List α:=
 match n with
 |0=>[]
 |n+1=>cs++rep n cs
def zeW{α:Type _}(enc:α->LR)(xs:List α):LR:=
 match xs with
 |[]=>[]
 |x::xs=>enc x++zeW enc xs
def zCk(lm:LJ)(s:SV)(K:Int->Prop):Prop:=
 match s with
 |.sl _ xs=>xs.length<=9223372036854775807->K xs.length
 |.own k=>(match lm k with
  |some (.arr _ _ _ xs)=>xs.length<=281474976710656->K xs.length
  |some (.garr _ _ xs)=>xs.length<=281474976710656->K xs.length
  |_=>False)
 |.val (.slice none 0 0)=>K 0
 |.nils=>K 0
 |.win _ _ _ n=>Ob (0<=n) (K n)
 |_=>False
def zrE(s:LR)(K:IntKind->LV->Prop):Prop:=
 match s with
 |.val (.int k m)::r=>(match r with
  |[]=>K k [m]
  |_=>zrE r λ_ l=>K k (m::l))
 |_=>False
def zbL:Int->LV->Int
 |x,[]=>x
 |x,y::r=>zbL (min x y) r
def zcr:Int->LV->Int
 |x,[]=>x
 |x,y::r=>zcr (max x y) r
def zde{α:Type}(lm:LJ)(s:SV)(enc:α->LR)(ys:List α):Prop:=
 match s with
 |.val (.slice none 0 0)=>ys=[]
 |.own k=>zia lm (.own k)=.sl enc ys
 |s=>s=.sl enc ys
inductive Sl (p q:Prop) (r:Prop:=False):Prop
 |see (h:p)
 |keep (h:q)
 |win (h:r)
def ziS(Γ:LS)(tys:List TypeId)(s x:SV)(lm:LJ)(κ:Nat)(K:LD):Prop:=
 match tys with
 |[t,t']=>zQ (Nat.beq t t') (kX Γ t λi=>(match i.kind with
  |.slice e=>kX Γ e λj=>(match s with
   |.val (.slice none 0 0)=>∃(α:Type) (enc:α->LR) (ys:List α),zde lm x enc ys/\
     Ob ((ys.length:Int)*j.bytes<=140737488355328/\ys.length<=281474976710656/\0<j.sz/\∀x∈ys,(enc x).length=j.sz) (K (.own κ) (.push (.arr e enc j.sz ys)))
   |.own k=>(match lm k with
    |some (.arr e' enc sz xs)=>zQ (Nat.beq e e') (zQ (Nat.beq sz j.sz) (∃ys,zde lm x enc ys/\
     Ob ((xs.length+ys.length:Int)*j.bytes<=140737488355328/\xs.length+ys.length<=281474976710656/\0<j.sz/\∀x∈ys,(enc x).length=j.sz)
      (K (.own κ) (.repl k (.arr e enc sz (xs++ys))))))
    |some (.garr e' sz xs)=>zQ (Nat.beq e e') (zQ (Nat.beq sz j.sz) (∃(α:Type) (enc:α->LR) (ys:List α),zde lm x enc ys/\
     Ob ((xs.length+ys.length:Int)*j.bytes<=140737488355328/\xs.length+ys.length<=281474976710656/\0<j.sz/\∀x∈ys,(enc x).length=j.sz)
      (K (.own κ) (.repl k (.garr e sz (xs++ys.map enc))))))
    |_=>False)
   |.full enc xs=>∃ys,zde lm x enc ys/\
     Ob (ys≠[]/\(xs.length+ys.length:Int)*j.bytes<=140737488355328/\xs.length+ys.length<=281474976710656/\0<j.sz/\(∀x∈xs,(enc x).length=j.sz)/\∀x∈ys,(enc x).length=j.sz)
      (K (.own κ) (.push (.arr e enc j.sz (xs++ys))))
   |.nils=>Sl (∃(α:Type) (enc:α->LR) (ys:List α),zde lm x enc ys/\
     Ob (ys≠[]/\(ys.length:Int)*j.bytes<=140737488355328/\ys.length<=281474976710656/\0<j.sz/\∀x∈ys,(enc x).length=j.sz) (K (.own κ) (.push (.arr e enc j.sz ys))))
     (∃(α:Type) (enc:α->LR),zde lm x enc ([]:List α)/\0<j.sz/\K .nils .none)
   |_=>False)
  |_=>False))
 |_=>False
def zjo(Γ:LS)(tys:List TypeId)(s:SV)(e':TypeId)(sz':Nat)(ys:LN)(lm:LJ)(κ:Nat)(K:LD):Prop:=
 match tys with
 |[t,t']=>zQ (Nat.beq t t') (kX Γ t λi=>(match i.kind with
  |.slice e=>kX Γ e λj=>zQ (Nat.beq e e') (zQ (Nat.beq sz' j.sz) (match s with
   |.val (.slice none 0 0)=>Ob ((ys.length:Int)*j.bytes<=140737488355328/\ys.length<=281474976710656/\0<j.sz) (K (.own κ) (.push (.garr e j.sz ys)))
   |.own k=>(match lm k with
    |some (.garr e'' sz xs)=>zQ (Nat.beq e e'') (zQ (Nat.beq sz j.sz)
      (Ob ((xs.length+ys.length:Int)*j.bytes<=140737488355328/\xs.length+ys.length<=281474976710656/\0<j.sz) (K (.own κ) (.repl k (.garr e sz (xs++ys))))))
    |_=>False)
   |_=>False))
  |_=>False))
 |_=>False
def ztb(Γ:LS)(tys:List TypeId)(s:SV)(n:Int)(κ:Nat)(K:LD):Prop:=
 match tys,s with
 |[t,t'],.val (.slice none 0 0)=>kX Γ t λi=>kX Γ t' λi'=>(match i.kind,i'.kind with
  |.slice e,.int _=>kX Γ e λj=>∃(α:Type) (enc:α->LR) (z:α),
    enc z=vals j.zero/\Ob (0<j.sz/\0<n/\n*j.bytes<=140737488355328/\n<=281474976710656) (K (.own κ) (.push (.arr e enc j.sz (List.replicate n.toNat z))))
  |_,_=>False)
 |_,_=>False
def zjp(Γ:LS)(b:Builtin)(tys:List TypeId)(args:LR)(lm:LJ)(κ:Nat)(K:LD):Prop:=
 match b,args with
 |.len,[s]=>(match tys with
  |[t]=>kX Γ t λi=>(match i.kind with
   |.slice _=>zCk lm s λn=>K (.val (.int .i64 n)) .none
   |_=>False)
  |_=>False)
 |.cap,[s]=>(match tys with
  |[t]=>kX Γ t λi=>(match i.kind with
   |.slice _=>(match s with
    |.val (.slice none 0 0)=>K (.val (.int .i64 0)) .none
    |.nils=>K (.val (.int .i64 0)) .none
    |_=>False)
   |_=>False)
  |_=>False)
 |.min,s=>zrE s λk l=>(match l with
  |x::r=>K (.val (.int k (zbL x r))) .none
  |[]=>False)
 |.max,s=>zrE s λk l=>(match l with
  |x::r=>K (.val (.int k (zcr x r))) .none
  |[]=>False)
 |.append,[s,x]=>(match x with
  |.val (.int _ n)=>ztb Γ tys s n κ K
  |.own k'=>(match lm k' with
   |some (.garr e' sz' ys)=>zjo Γ tys s e' sz' ys lm κ K
   |_=>ziS Γ tys s (.own k') lm κ K)
  |x=>ziS Γ tys s x lm κ K)
 |.clear,[d]=>(match tys with
  |[t]=>kX Γ t λi=>(match i.kind with
   |.slice e=>kX Γ e λj=>(match d with
    |.win k sz' lo n=>(match lm k with
     |some (.arr T (α:=α) enc sz xs)=>zQ (Nat.beq sz j.sz) (zQ (Nat.beq sz' sz) (∃z:α,enc z=vals j.zero/\
       Ob (0<=lo/\0<n/\lo+n<=xs.length) (K (.val (.tuple #[])) (.set k (.arr T enc sz (xs.take lo.toNat++(List.replicate n.toNat z++xs.drop (lo.toNat+n.toNat))))))))
     |_=>False)
    |_=>False)
   |_=>False)
  |_=>False)
 |_,_=>False
def zwF(Γ:LS)(t:TypeId)(s:SV)(lm:LJ)(K:LD):Prop:=
 kX Γ t λi=>(match s with
  |.loc k off=>(match lm k with
   |some (.box _ cs)=>zQ (Nat.ble (off+i.sz) cs.length) (mkV i.kind.agg i.sz (cs.drop off) λs=>K s .none)
   |_=>False)
  |.ptr cs=>zQ (Nat.ble i.sz cs.length) (mkV i.kind.agg i.sz cs λs=>K s .none)
  |.dptr cs=>zQ (Nat.ble i.sz cs.length) (mkV i.kind.agg i.sz cs λs=>K s .none)
  |.eloc k sz n off=>(match lm k with
   |some (.arr _ enc sz' xs)=>zQ (Nat.beq sz sz') (zQ (Nat.ble (off+i.sz) sz) (Ob (0<=n/\n<xs.length) (∀x,xs[n.toNat]?=some x->
     mkV i.kind.agg i.sz ((enc x).drop off) λs=>K s .none)))
   |some (.garr _ sz' xs)=>zQ (Nat.beq sz sz') (zQ (Nat.ble (off+i.sz) sz) (Ob (0<=n/\n<xs.length) (∀x,xs[n.toNat]?=some x->
     mkV i.kind.agg i.sz (x.drop off) λs=>K s .none)))
   |_=>False)
  |_=>False)
def zrF(Γ:LS)(t:TypeId)(s v:SV)(lm:LJ)(K:LD):Prop:=
 kX Γ t λi=>zQ (jY (kN v)) (zQ (Nat.beq (kN v).length i.sz) (match s with
  |.loc k off=>(match lm k with
   |some (.box T cs)=>zQ (Nat.ble (off+i.sz) cs.length) (K (.val undef) (.set k (.box T (vg cs off (kN v)))))
   |_=>False)
  |.eloc k sz n off=>(match lm k with
   |some (.arr T (α:=α) enc sz' xs)=>zQ (Nat.beq sz sz') (zQ (Nat.ble (off+i.sz) sz) (match j9.flats (kN v) with
    |true=>(Ob (0<=n/\n<xs.length) (∀x,xs[n.toNat]?=some x->
     ∃x':α,enc x'=vg (enc x) off (kN v)/\K (.val undef) (.set k (.arr T enc sz (xs.set n.toNat x')))))
    |false=>(Ob (0<=n/\n<xs.length) (∀x,xs[n.toNat]?=some x->
     K (.val undef) (.set k (.garr T sz ((xs.map enc).set n.toNat (vg (enc x) off (kN v)))))))))
   |some (.garr T sz' xs)=>zQ (Nat.beq sz sz') (zQ (Nat.ble (off+i.sz) sz) (Ob (0<=n/\n<xs.length) (∀x,xs[n.toNat]?=some x->
     K (.val undef) (.set k (.garr T sz (xs.set n.toNat (vg x off (kN v))))))))
   |_=>False)
  |_=>False))
def zwG(hi mx:Option Operand):Bool:=
 match mx,hi with
 |some _,none=>false
 |_,_=>true
def zwH:Option Operand->Bool
 |some (.const (.int _ n))=>(match n with
  |.ofNat m=>Nat.beq m 0
  |_=>false)
 |_=>false
inductive zwI (p q:Prop):Prop
 |sl (h:p)
 |full (h:q)
def zbM:Option Operand->Bool
 |none=>true
 |_=>false
def zrG(Γ:LS)(t:TypeId)(lo hi mx:Option Operand)(svs:LR)(lm:LJ)(κ:Nat)(K:LD):Prop:=
 zQ (zwG hi mx) (match svs with
 |s::rest=>kX Γ t λi=>(match i.kind with
  |.slice e=>kX Γ e λj=>(match s with
   |.sl enc xs=>(match uv (zwH hi) (zwH mx) with
    |true=>jy lo rest 0 λl rest=>jy hi rest 0 λh rest=>jy mx rest 0 λm _=>Ob (l=0/\h=0/\m=0) (K .nils .none)
    |false=>jy lo rest 0 λl rest=>jy hi rest xs.length λh rest=>jy mx rest xs.length λm _=>(match zbM mx with
     |true=>Ob ((0<=l/\l<=h/\h<=m/\m<=xs.length)/\∀x∈xs,(enc x).length=j.sz) (K (.sl enc ((xs.drop l.toNat).take (h-l).toNat)) .none)
     |false=>zwI (Ob ((0<=l/\l<=h/\h<=m/\m<=xs.length)/\∀x∈xs,(enc x).length=j.sz) (K (.sl enc ((xs.drop l.toNat).take (h-l).toNat)) .none))
      (Ob ((0<=l/\l<=h/\h=m/\m<=xs.length)/\∀x∈xs,(enc x).length=j.sz) (K (.full enc ((xs.drop l.toNat).take (h-l).toNat)) .none))))
   |.val (.slice none 0 0)=>jy lo rest 0 λl rest=>jy hi rest 0 λh rest=>jy mx rest 0 λm _=>Ob (l=0/\h=0/\m=0) (K (.val (.slice none 0 0)) .none)
   |.own k=>(match lm k with
    |some (.arr T enc sz xs)=>zQ (Nat.beq sz j.sz) (jy lo rest 0 λl rest=>jy hi rest xs.length λh rest=>jy mx rest xs.length λm _=>
     Sl (Ob (0<=l/\l<=h/\h<=m/\m<=xs.length) (K (.sl enc ((xs.drop l.toNat).take (h-l).toNat)) (.drop k)))
      (zQ (zbM mx) (Ob (l=0/\0<=h/\h<=xs.length) (K (.own κ) (.repl k (.arr T enc sz (xs.take h.toNat))))))
      (Ob (0<=l/\l<h/\h<=m/\m<=xs.length) (K (.win k sz l (h-l)) .none)))
    |some (.garr T sz xs)=>zQ (Nat.beq sz j.sz) (zQ (zbM mx) (jy lo rest 0 λl rest=>jy hi rest xs.length λh _=>
      (Ob (l=0/\0<=h/\h<=xs.length) (K (.own κ) (.repl k (.garr T sz (xs.take h.toNat)))))))
    |_=>False)
   |.win k sz at0 n=>zQ (Nat.beq sz j.sz) (jy lo rest 0 λl rest=>jy hi rest n λh rest=>jy mx rest n λm _=>
     Ob (0<=at0/\0<=l/\l<h/\h<=m/\m<=n) (K (.win k sz (at0+l) (h-l)) .none))
   |_=>False)
  |_=>False)
 |[]=>False)
def zlW(Γ:LS)(t:TypeId)(lo hi mx:Option Operand)(cs:LR)(K:LD):Prop:=
 zQ (uv (zbM lo) (uv (zbM hi) (zbM mx))) (kX Γ t λi=>(match i.kind with
  |.arr n e=>kX Γ e λj=>∃(α:Type) (enc:α->LR) (xs:List α),zeW enc xs=cs/\
    Ob (xs.length=n/\n<=281474976710656/\∀x∈xs,(enc x).length=j.sz) (K (.sl enc xs) .none)
  |_=>False))
def znD(Γ:LS)(t:TypeId)(lo hi mx:Option Operand)(svs:LR)(lm:LJ)(κ:Nat)(K:LD):Prop:=
 match svs with
 |[.dptr cs]=>zlW Γ t lo hi mx cs K
 |svs=>zrG Γ t lo hi mx svs lm κ K
inductive zfZ (p q:Prop):Prop
 |own (h:p)
 |data (h:q)
def boxV(Γ:LS)(e:TypeId)(s:SV)(κ:Nat)(K:LD):Prop:=
 zQ (jY (kN s)) (match ti Γ e with
  |some i=>(match i.kind with
   |.arr _ _=>(match j9.flats (kN s) with
    |true=>zfZ (K (.loc κ 0) (.push (.box e (kN s)))) (K (.dptr (kN s)) .none)
    |false=>K (.loc κ 0) (.push (.box e (kN s))))
   |_=>K (.loc κ 0) (.push (.box e (kN s))))
  |none=>K (.loc κ 0) (.push (.box e (kN s))))
def zfn(Γ:LS)(t:TypeId)(f:Nat)(s:SV)(K:LD):Prop:=
 kX Γ t λi=>(match i.kind with
  |.struct fs=>(match zo1 fs f with
   |some (off,ft)=>kX Γ ft λj=>zQ (Nat.blt 0 j.sz) (match s with
    |.loc k o'=>K (.loc k (o'+off)) .none
    |.ptr cs=>K (.ptr (cs.drop off)) .none
    |.dptr cs=>K (.dptr (cs.drop off)) .none
    |.eloc k sz i o'=>K (.eloc k sz i (o'+off)) .none
    |_=>False)
   |none=>False)
  |_=>False)
def zfo(Γ:LS)(t:TypeId)(s n:SV)(lm:LJ)(K:LD):Prop:=
 kX Γ t λi=>(match n with
  |.val (.int _ n)=>(match i.kind with
   |.slice e=>kX Γ e λj=>(match s with
    |.sl enc xs=>Ob (0<=n/\n<xs.length) (∀x,xs[n.toNat]?=some x->zQ (Nat.beq (enc x).length j.sz) (K (.ptr (enc x)) .none))
    |.own k=>(match lm k with
     |some (.arr _ _ sz xs)=>zQ (Nat.beq sz j.sz) (Ob (0<=n/\n<xs.length) (K (.eloc k sz n 0) .none))
     |some (.garr _ sz xs)=>zQ (Nat.beq sz j.sz) (Ob (0<=n/\n<xs.length) (K (.eloc k sz n 0) .none))
     |_=>False)
    |.win k sz lo l=>zQ (Nat.beq sz j.sz) (Ob (0<=lo/\0<=n/\n<l) (K (.eloc k sz (lo+n) 0) .none))
    |_=>False)
   |.arr len e=>kX Γ e λj=>(match n with
    |.ofNat m=>zQ (Nat.blt m len) (match s with
     |.loc k off=>K (.loc k (off+m*j.sz)) .none
     |.ptr cs=>K (.ptr (cs.drop (m*j.sz))) .none
     |.dptr cs=>K (.dptr (cs.drop (m*j.sz))) .none
     |.eloc k sz i' o'=>K (.eloc k sz i' (o'+m*j.sz)) .none
     |_=>False)
    |_=>False)
   |_=>False)
  |_=>False)
def zrH(Γ:LS)(t:TypeId)(s n:SV)(K:LD):Prop:=
 kX Γ t λi=>(match i.kind,s,n with
  |.arr len e,.agg cs,.val (.int _ n)=>kX Γ e λj=>(match n with
   |.ofNat m=>zQ (Nat.blt m len) (zQ (Nat.ble (m*j.sz+j.sz) cs.length) (mkV j.kind.agg j.sz (cs.drop (m*j.sz)) λs=>K s .none))
   |_=>False)
  |.str,.val (.string s),.val (.int _ n)=>Ob (0<=n/\n<s.size) (∀b:UInt8,s[n.toNat]?=some b->K (.val (.int .u8 b.toNat)) .none)
  |_,_,_=>False)
def zrI(Γ:LS)(t:TypeId)(ids:LC)(svs:LR)(K:LD):Prop:=
 kX Γ t λi=>(match i.kind with
  |.struct fs=>zQ (zbK (zjn Γ fs) i.sz ids svs) (K (.agg (zcq (zjn Γ fs) ids svs (vals i.zero))) .none)
  |.arr _ e=>kX Γ e λj=>zQ (zbK (zap j.sz) i.sz ids svs) (K (.agg (zcq (zap j.sz) ids svs (vals i.zero))) .none)
  |_=>False)
def zC0:SV->Bool
 |.loc _ _=>false
 |.own _=>false
 |.eloc _ _ _ _=>false
 |.win _ _ _ _=>false
 |.ptr _=>false
 |.agg cs=>j9.flats cs
 |_=>true
def selB:LR->Bool
 |[]=>true
 |s::r=>match zC0 s with
  |true=>selB r
  |false=>false
def zdf(Γ:LS)(t:TypeId)(n:Nat)(ids:LC)(svs:LR)(κ:Nat)(K:LD):Prop:=
 kX Γ t λi=>(match i.kind with
  |.slice e=>kX Γ e λj=>zQ (zbK (zap j.sz) (n*j.sz) ids svs) (match selB svs with
    |true=>(∃(α:Type) (enc:α->LR) (xs:List α),
     zeW enc xs=zcq (zap j.sz) ids svs (rep n (vals j.zero))/\
     Ob (xs.length=n/\n<=281474976710656/\n*j.sz<=16777216/\0<j.sz/\∀x∈xs,(enc x).length=j.sz/\jY (enc x)=true/\j9.flats (enc x)=true) (K (.own κ) (.push (.arr e enc j.sz xs))))
    |false=>zQ (jY (zcq (zap j.sz) ids svs (rep n (vals j.zero)))) (∃(xs:LN),
     zeW id xs=zcq (zap j.sz) ids svs (rep n (vals j.zero))/\
     Ob (xs.length=n/\n<=281474976710656/\n*j.sz<=16777216/\0<j.sz/\∀x∈xs,x.length=j.sz) (K (.own κ) (.push (.garr e j.sz xs)))))
  |_=>False)
def zfp(Γ:LS)(t:TypeId)(l c:SV)(κ:Nat)(K:LD):Prop:=
 kX Γ t λi=>(match i.kind,l,c with
  |.slice e,.val (.int _ n),.val (.int _ m)=>kX Γ e λj=>∃(α:Type) (enc:α->LR) (z:α),
    enc z=vals j.zero/\Ob (0<j.sz/\0<=n/\n<=m/\m*j.bytes<=281474976710656/\m<=281474976710656) (K (.own κ) (.push (.arr e enc j.sz (List.replicate n.toNat z))))
  |_,_,_=>False)
def zwJ(c a b:SV)(K:LD):Prop:=
 match c with
 |.val (.bool true)=>K a .none
 |.val (.bool false)=>K b .none
 |.pr p _=>Br (p->K a .none) (¬p->K b .none)
 |_=>False
def unV(op:UnOp)(s:SV)(K:LD):Prop:=
 match op,s with
 |.not,.val (.bool true)=>K (.val (.bool false)) .none
 |.not,.val (.bool false)=>K (.val (.bool true)) .none
 |.not,.pr p i=>K (.pr (¬p) (@instDecidableNot _ i)) .none
 |.neg,.val (.int k n)=>zlC k (- n) λs=>K s .none
 |_,_=>False
def uC:Option Operand->List Operand
 |none=>[]
 |some x=>[x]
def zed:Callee->List Operand
 |.value f=>[f]
 |.invoke r _=>[r]
 |.builtin _=>[]
def qe:Op->List Operand
 |.move x=>[x]
 |.assign x=>[x]
 |.pick c a b=>[c,a,b]
 |.box _ x=>[x]
 |.build _ ps=>ps.toList.map (·.2)
 |.buildSlice _ _ ps=>ps.toList.map (·.2)
 |.load _ a=>[a]
 |.store _ a x=>[a,x]
 |.nilCheck x=>[x]
 |.binOp _ _ x y _=>[x,y]
 |.unOp _ _ x=>[x]
 |.convert _ _ x=>[x]
 |.makeFunc _ first caps=>first.toList++caps.toList
 |.makeSlice _ l c=>[l,c]
 |.makeInterface _ x=>[x]
 |.typeAssert x _ _ _=>[x]
 |.makeMap _ r=>uC r
 |.mapUpdate _ m k x=>[m,k,x]
 |.insert _ m k x=>[m,k,x]
 |.lookup _ m k _=>[m,k]
 |.slice _ x lo hi mx=>x::(uC lo++(uC hi++uC mx))
 |.fieldAddr _ x _=>[x]
 |.field _ x _=>[x]
 |.indexAddr _ x i=>[x,i]
 |.index _ x i=>[x,i]
 |.extract x _=>[x]
 |.call c=>zed c.callee++c.args.toList
 |_=>[]
def zwK(es:List (Int×SV))(n:Int)(K1:SV->Prop)(K0:Prop):Prop:=
 List.rec (motive:=λ_=>Prop) K0 (λx _ ih=>match x with
  |(k,s)=>Br (n=k->K1 s) (¬n=k->ih)) es
def zwL(es:List (Int×SV))(n:Int)(s:SV):(List (Int×SV)->Prop)->Prop:=
 List.rec (motive:=λ_=>(List (Int×SV)->Prop)->Prop) (λK=>K [(n,s)]) (λx r ih K=>match x with
  |(k,s')=>Br (n=k->K ((n,s)::r)) (¬n=k->ih λr'=>K ((k,s')::r'))) es
def zjq(Γ:LS)(t:TypeId)(svs:LR)(κ:Nat)(K:LD):Prop:=
 kX Γ t λi=>(match i.kind with
  |.map _ _=>(match svs with
   |[]=>K (.own κ) (.push (.map []))
   |.val (.int _ _)::_=>K (.own κ) (.push (.map []))
   |_=>False)
  |_=>False)
def zcs(Γ:LS)(t:TypeId)(m k s:SV)(lm:LJ)(K:LD):Prop:=
 kX Γ t λi=>(match i.kind with
  |.map kt _=>kX Γ kt λj=>(match j.kind,m,k with
   |.int .i64,.own c,.val (.int .i64 n)=>(match lm c with
    |some (.map es)=>zQ (j9 s) (zwL es n s λes'=>K (.val undef) (.set c (.map es')))
    |_=>False)
   |_,_,_=>False)
  |_=>False)
def ztc(ok:Bool)(s:SV)(b:Bool)(K:LD):Prop:=
 match ok with
 |true=>K (.tup [s,.val (.bool b)]) .none
 |false=>zaD s λs=>K s .none
def znE(Γ:LS)(t:TypeId)(ok:Bool)(m k:SV)(lm:LJ)(K:LD):Prop:=
 kX Γ t λi=>(match i.kind with
  |.map kt et=>kX Γ kt λj=>kX Γ et λz=>(match j.kind,m,k with
   |.int .i64,.own c,.val (.int .i64 n)=>(match lm c with
    |some (.map es)=>zwK es n (λs=>ztc ok s true K) (mkV z.kind.agg z.sz (vals z.zero) λs=>ztc ok s false K)
    |_=>False)
   |_,_,_=>False)
  |_=>False)
def zjr(Γ:LS)(t:TypeId)(s:SV)(K:LD):Prop:=
 kX Γ t λi=>(match i.kind with
  |.iface=>False
  |.other=>False
  |_=>K (.ifc t s) .none)
def ztd:LR->(LA->Prop)->Prop
 |[],K=>K []
 |.val v::r,K=>ztd r λvs=>K (v::vs)
 |_,_=>False
def conc(s:SV)(K:Value->Prop):Prop:=
 match s with
 |.val v=>K v
 |.agg cs=>ztd cs λvs=>K (.agg vs.toArray)
 |_=>False
def zte:LR->(LA->Prop)->Prop
 |[],K=>K []
 |s::r,K=>conc s λv=>zte r λvs=>K (v::vs)
def zwM:LR->Bool
 |[]=>true
 |.val _::r=>zwM r
 |_=>false
def zwN:LR->Bool
 |[]=>true
 |.val _::r=>zwN r
 |.agg cs::r=>uv (zwM cs) (zwN r)
 |_=>false
def ofV(v:Value):SV:=
 match v with
 |.agg a=>.agg (a.toList.map .val)
 |v=>.val v
def opV(P:Program)(Γ:LS)(op:Op)(svs:LR)(lm:LJ)(κ:Nat)(K:LD):Prop:=
 match op,svs with
 |.move _,[s]=>K s .none
 |.assign _,[s]=>K s .none
 |.pick _ _ _,[c,a,b]=>zwJ c a b K
 |.alloc e,_=>kX Γ e λi=>K (.loc κ 0) (.push (.box e (vals i.zero)))
 |.box e _,[s]=>boxV Γ e s κ K
 |.build t ps,svs=>zrI Γ t (ps.toList.map (·.1)) svs K
 |.buildSlice t n ps,svs=>zdf Γ t n (ps.toList.map (·.1)) svs κ K
 |.load t _,[s]=>zwF Γ t s lm K
 |.store t _ _,[s,v]=>zrF Γ t s v lm K
 |.nilCheck _,[s]=>(match s with
  |.loc k off=>K (.loc k off) .none
  |.ptr cs=>K (.ptr cs) .none
  |.dptr cs=>K (.dptr cs) .none
  |.eloc k sz i off=>K (.eloc k sz i off) .none
  |.ifc t s=>K (.ifc t s) .none
  |_=>False)
 |.binOp op t _ y _,[a,b]=>bin Γ op t y a b λs=>K s .none
 |.unOp op _ _,[s]=>unV op s K
 |.convert s0 t _,[s]=>kX Γ s0 λ_=>kX Γ t λi=>(match i.kind,s with
  |.int k,.val (.int _ n)=>zlC k n λs=>K s .none
  |_,_=>False)
 |.makeFunc fn first caps,svs=>(match fn with
  |.func f=>(match first.isEmpty with
   |true=>K (.fn f svs) .none
   |false=>zQ caps.isEmpty (match zwN svs with
    |true=>zte svs λvs=>K (.val (.func (.func f) vs.toArray #[])) .none
    |false=>zQ (j9.flats svs) (K (.bm f svs) .none)))
  |_=>False)
 |.makeSlice t _ _,[l,c]=>zfp Γ t l c κ K
 |.slice t _ lo hi mx,svs=>znD Γ t lo hi mx svs lm κ K
 |.fieldAddr t _ f,[s]=>zfn Γ t f s K
 |.field t _ f,[s]=>kX Γ t λi=>(match i.kind,s with
  |.struct fs,.agg cs=>(match zo1 fs f with
   |some (off,ft)=>kX Γ ft λj=>zQ (Nat.ble (off+j.sz) cs.length) (mkV j.kind.agg j.sz (cs.drop off) λs=>K s .none)
   |none=>False)
  |_,_=>False)
 |.indexAddr t _ _,[s,n]=>zfo Γ t s n lm K
 |.index t _ _,[s,n]=>zrH Γ t s n K
 |.extract _ n,[s]=>(match s with
  |.tup vs=>(match vs.drop n with
   |v::_=>zaD v λv=>K v .none
   |[]=>False)
  |_=>False)
 |.makeInterface t _,[s]=>zjr Γ t s K
 |.makeMap t _,svs=>zjq Γ t svs κ K
 |.mapUpdate t _ _ _,[m,k,s]=>zcs Γ t m k s lm K
 |.insert t _ _ _,[m,k,s]=>zcs Γ t m k s lm K
 |.lookup t _ _ ok,[m,k]=>znE Γ t ok m k lm K
 |.call c,svs=>(match c.callee with
  |.value _=>(match svs with
   |.fn f caps::args=>zb P lm κ f (args++caps) K
   |.val (.func (.func f) first ⟨[]⟩)::args=>zb P lm κ f (first.toList.map ofV++args) K
   |.dfn f caps::args=>zb P lm κ f (args++caps) K
   |.bm f first::args=>zb P lm κ f (first++args) K
   |_=>False)
  |.invoke _ _=>False
  |.builtin b=>zjp Γ b c.argTypes.toList svs lm κ K)
 |_,_=>False
def zdg(M:LT)(κ k:Nat):Option Mem:=
 match Nat.blt k κ with
 |true=>zU M k
 |false=>none
def zlX(d:Option Tmp)(nt:Nat)(K:Prop):Prop:=
 match d with
 |some d=>zQ (Nat.blt d nt) K
 |none=>K
def zc1:Op->Bool
 |.load _ _=>true
 |.store _ _ _=>true
 |.slice _ _ _ _ _=>true
 |.indexAddr _ _ _=>true
 |.mapUpdate _ _ _ _=>true
 |.insert _ _ _ _=>true
 |.lookup _ _ _ _=>true
 |.call _=>true
 |_=>false
def zwO:Op->Bool
 |.call c=>(match c.callee with
  |.builtin .append=>true
  |.builtin .copy=>true
  |_=>false)
 |_=>false
def isW:Op->Bool
 |.store _ _ _=>true
 |.mapUpdate _ _ _ _=>true
 |.insert _ _ _ _=>true
 |o=>zwO o
def zdh:Op->Bool
 |.store _ _ _=>true
 |.alloc _=>true
 |.box _ _=>true
 |.buildSlice _ _ _=>true
 |.makeSlice _ _ _=>true
 |.makeMap _ _=>true
 |.mapUpdate _ _ _ _=>true
 |.insert _ _ _ _=>true
 |o=>zwO o
def zrJ(acc:LC)(o:Oper):Nat:=o.after.toList.foldl (λs e=>if Region.binds .any e then s|||2^e.on|||acc.getD e.on 0 else s) 0
def zbt(all:List Oper):Nat->LC
 |0=>[]
 |j+1=>let acc:=zbt all j;acc++[match all[j]? with|some o=>zrJ acc o|none=>0]
def zdi:List Oper->Nat->Option Tmp
 |[],_=>none
 |o::_,0=>o.dst
 |_::r,n+1=>zdi r n
def zhc:List Operand->LC
 |[]=>[]
 |.tmp t::r=>t::zhc r
 |_::r=>zhc r
def zct(all:List Oper)(o:Oper):LC:=
 zhc (qe o.op)++(match o.guard with
  |some (j,_)=>(match zdi all j with
   |some t=>[t]
   |none=>[])
  |none=>[])
def ux(o:Oper):LC:=o.dst.toList
def zdj(a b:LC):Bool:=a.any λx=>b.any λy=>Nat.beq x y
def zuP(all:List Oper)(oi oj:Oper):Bool:=
 (zdh oi.op&&zc1 oj.op)||(zc1 oi.op&&isW oj.op)||zdj (ux oi) (zct all oj)||zdj (ux oi) (ux oj)||zdj (zct all oi) (ux oj)
def ziT(ops:List Oper):Bool:=
 (List.range ops.length).all λj=>(match ops[j]? with
  |some o=>o.after.toList.all λe=>!Region.binds .any e||Nat.blt e.on j
  |none=>true)
def vi(ops:List Oper):Bool:=
 let ms:=zbt ops ops.length
 ziT ops&&(List.range ops.length).all λj=>(List.range j).all λi=>(ms.getD j 0).testBit i||!(match ops[i]?,ops[j]? with
  |some oi,some oj=>zuP ops oi oj
  |_,_=>false)
def znF(ops:List Oper)(i:Nat):Bool:=
 let ms:=zbt ops ops.length
 (List.range ops.length).all λj=>Nat.ble j i||(ms.getD j 0).testBit i||!(match ops[j]? with
  |some oj=>zc1 oj.op
  |none=>false)
def mdV(draw:Bool)(all:List Oper)(i κ:Nat)(op:Op)(md:MD)(K:Prop):Prop:=
 match draw with
 |false=>K
 |true=>(match isW op with
  |true=>(match md with
   |.drop _=>False
   |.set k _=>zQ (Nat.blt k κ) K
   |.repl k _=>zQ (Nat.blt k κ) K
   |.give _ _ _=>False
   |_=>K)
  |false=>(match md with
   |.none=>K
   |.push _=>(match zdh op with
    |true=>K
    |false=>Dr (znF all i=true) K False)
   |_=>False))
def zwP(n:Nat):LI->Prop:=
 Nat.rec (motive:=λ_=>LI->Prop) (λK=>K 0) (λ_ ih K=>ih λm=>K (m+1)) n
def zfq:∀{n:Nat} {K:LI},zwP n K->K n
 |0,_,h=>h
 |n+1,_,h=>zfq (n:=n) h
def znG(l:LR):(LR->Prop)->Prop:=
 List.rec (motive:=λ_=>(LR->Prop)->Prop) (λK=>K []) (λc _ ih K=>ih λr=>K (c::r)) l
def zbu:∀{l:LR} {K:LR->Prop},znG l K->K l
 |[],_,h=>h
 |c::l,K,h=>zbu (l:=l) (K:=λr=>K (c::r)) h
def znH(s:SV)(K:SV->Prop):Prop:=
 match s with
 |.agg cs=>znG cs λcs=>K (.agg cs)
 |s=>K s
def zdk{s:SV}{K:SV->Prop}(h:znH s K):K s:=by
 unfold znH at h
 split at h
 ·exact zbu (K:=λcs=>K (.agg cs)) h
 exact h
def znI(md:MD)(K:MD->Prop):Prop:=
 match md with
 |.push m=>(match m with
  |.box T cs=>znG cs λcs=>K (.push (.box T cs))
  |m=>K (.push m))
 |.set k m=>(match m with
  |.box T cs=>znG cs λcs=>K (.set k (.box T cs))
  |m=>K (.set k m))
 |md=>K md
def zdl{md:MD}{K:MD->Prop}(h:znI md K):K md:=by
 unfold znI at h
 split at h
 ·split at h
  ·rename_i T cs;exact zbu (K:=λcs=>K (.push (.box T cs))) h
  exact h
 ·rename_i k _;split at h
  ·rename_i T cs;exact zbu (K:=λcs=>K (.set k (.box T cs))) h
  exact h
 exact h
def St.withK(σ:St)(κ:Nat):St:=⟨σ.L,σ.M,κ,σ.nt,σ.n0⟩
def zdm(P:Program)(Γ:LS)(draw:Bool)(all:List Oper)(i:Nat)(o:Oper)(σ:St)(K:St->Prop):Prop:=
 zwP σ.nk λκ=>evs σ.L (qe o.op) λsvs=>opV P Γ o.op svs (zdg σ.M κ) κ λs md=>znH s λs=>znI md λmd=>mdV draw all i κ o.op md (zlX o.dst σ.nt (K ((σ.withK κ).app o.dst s md)))
def zaq(o:Oper)(σ:St)(K:St->Prop):Prop:=zlX o.dst σ.nt (K (σ.app o.dst (.val undef) .none))
def u4(P:Program)(Γ:LS)(draw:Bool)(all:List Oper)(l:List Oper):Nat->St->(St->Prop)->Prop:=
 List.rec (motive:=λ_=>Nat->St->(St->Prop)->Prop) (λ_ σ K=>K σ) (λo _ ih i σ K=>match o.guard with
  |none=>zdm P Γ draw all i o σ λσ=>ih (i+1) σ K
  |some (j,want)=>(match zdi all j with
   |none=>False
   |some t=>(match kK σ.L t with
    |some (.val (.bool true))=>(match want with
     |true=>zdm P Γ draw all i o σ λσ=>ih (i+1) σ K
     |false=>zaq o σ λσ=>ih (i+1) σ K)
    |some (.val (.bool false))=>(match want with
     |false=>zdm P Γ draw all i o σ λσ=>ih (i+1) σ K
     |true=>zaq o σ λσ=>ih (i+1) σ K)
    |some (.pr p _)=>(match want with
     |true=>Br (p->zdm P Γ draw all i o (σ.put (some t) (.val (.bool true))) λσ=>ih (i+1) σ K)
       (¬p->zaq o (σ.put (some t) (.val (.bool false))) λσ=>ih (i+1) σ K)
     |false=>Br (p->zaq o (σ.put (some t) (.val (.bool true))) λσ=>ih (i+1) σ K)
       (¬p->zdm P Γ draw all i o (σ.put (some t) (.val (.bool false))) λσ=>ih (i+1) σ K))
    |some (.val (.tuple _))=>zaq o σ λσ=>ih (i+1) σ K
    |_=>False))) l
def zCl:SV->LC
 |.loc k _=>[k]
 |.own k=>[k]
 |.eloc k _ _ _=>[k]
 |.win k _ _ _=>[k]
 |_=>[]
def zdn:LR->LC
 |[]=>[]
 |c::cs=>zCl c++zdn cs
def zjs:LR->Bool
 |[]=>true
 |c::cs=>(match c with
  |.val _=>zjs cs
  |.pr _ _=>zjs cs
  |.sl _ _=>zjs cs
  |_=>false)
def zhd:LR->Bool
 |[]=>true
 |c::cs=>(match c with
  |.val _=>zhd cs
  |.pr _ _=>zhd cs
  |.sl _ _=>zhd cs
  |.agg xs=>(match zjs xs with
   |true=>zhd cs
   |false=>false)
  |.fn _ xs=>(match zjs xs with
   |true=>zhd cs
   |false=>false)
  |_=>false)
def zo4(op:Op)(svs:LR):Option LC:=
 match op with
 |.call c=>(match c.callee with
  |.builtin _=>some (zdn svs)
  |_=>(match zhd svs with
   |true=>some []
   |false=>none))
 |.store _ _ _=>(match svs with
  |s::_=>some (zCl s)
  |[]=>some [])
 |.load _ _=>some (zdn svs)
 |.slice _ _ _ _ _=>some (zdn svs)
 |.indexAddr _ _ _=>some (zdn svs)
 |.mapUpdate _ _ _ _=>some (zdn svs)
 |.insert _ _ _ _=>some (zdn svs)
 |.lookup _ _ _ _=>some (zdn svs)
 |_=>some []
structure Ent where
 u:Option LC
 nk:Nat
 t:LC
def zeR(k:Nat):LC->Bool
 |[]=>false
 |x::r=>match Nat.beq x k with
  |true=>true
  |false=>zeR k r
def zdo(u:Option LC)(nk k:Nat):Bool:=
 match u with
 |none=>Nat.blt k nk
 |some l=>zeR k l
def lmU(u:Option LC)(nk:Nat)(lm:LJ)(k:Nat):Option Mem:=
 match zdo u nk k with
 |true=>lm k
 |false=>none
def zrK(κ:Nat):Nat->LC
 |0=>[]
 |n+1=>(κ+n)::zrK κ n
def zhe(κ:Nat):MD->LC
 |.none=>[]
 |.push _=>[κ]
 |.set k _=>[k]
 |.drop k=>[k]
 |.repl k _=>[k,κ]
 |.give ks _ nn=>ks++zrK κ nn
def ztf(e:Ent):LC->Bool
 |[]=>false
 |k::r=>match zdo e.u e.nk k with
  |true=>true
  |false=>match zeR k e.t with
   |true=>true
   |false=>ztf e r
def ztg(x:Ent):LC->Bool
 |[]=>false
 |k::r=>match zdo x.u x.nk k with
  |true=>true
  |false=>ztg x r
def zo5(x e:Ent):Bool:=
 match ztf e x.t with
 |true=>true
 |false=>ztg x e.t
def prOK(m:Nat)(e:Ent):List Ent->Bool
 |[]=>true
 |x::r=>(m.testBit r.length||!zo5 x e)&&prOK m e r
def zjt(ms:LC):List Ent->Bool
 |[]=>true
 |e::r=>prOK (ms.getD r.length 0) e r&&zjt ms r
def zju(all:List Oper)(oi oj:Oper):Bool:=
 zdj (ux oi) (zct all oj)||zdj (ux oi) (ux oj)||zdj (zct all oi) (ux oj)
def zfr(ops:List Oper):Bool:=
 let ms:=zbt ops ops.length
 ziT ops&&(List.range ops.length).all λj=>(List.range j).all λi=>(ms.getD j 0).testBit i||!(match ops[i]?,ops[j]? with
  |some oi,some oj=>zju ops oi oj
  |_,_=>false)
def mdD(κ:Nat)(md:MD)(K:Prop):Prop:=
 match md with
 |.drop k=>zQ (Nat.blt k κ) K
 |.set k _=>zQ (Nat.blt k κ) K
 |.repl k _=>zQ (Nat.blt k κ) K
 |.give ks new nn=>zQ (uv (newB ks κ nn new) (znA new κ nn)) K
 |_=>K
def zbv(P:Program)(Γ:LS)(o:Oper)(σ:St)(K:Ent->St->Prop):Prop:=
 zwP σ.nk λκ=>evs σ.L (qe o.op) λsvs=>opV P Γ o.op svs (lmU (zo4 o.op svs) κ (zdg σ.M κ)) κ λs md=>znH s λs=>znI md λmd=>mdD κ md (zlX o.dst σ.nt (K ⟨zo4 o.op svs,κ,zhe κ md⟩ ((σ.withK κ).app o.dst s md)))
def zlY:Ent:=⟨some [],0,[]⟩
def za2(P:Program)(Γ:LS)(all:List Oper)(l:List Oper):Nat->List Ent->St->(St->Prop)->Prop:=
 List.rec (motive:=λ_=>Nat->List Ent->St->(St->Prop)->Prop) (λ_ acc σ K=>Ob (zjt (zbt all all.length) acc=true) (K σ)) (λo _ ih i acc σ K=>match o.guard with
  |none=>zbv P Γ o σ λe σ=>ih (i+1) (e::acc) σ K
  |some (j,want)=>(match zdi all j with
   |none=>False
   |some t=>(match kK σ.L t with
    |some (.val (.bool true))=>(match want with
     |true=>zbv P Γ o σ λe σ=>ih (i+1) (e::acc) σ K
     |false=>zaq o σ λσ=>ih (i+1) (zlY::acc) σ K)
    |some (.val (.bool false))=>(match want with
     |false=>zbv P Γ o σ λe σ=>ih (i+1) (e::acc) σ K
     |true=>zaq o σ λσ=>ih (i+1) (zlY::acc) σ K)
    |some (.pr p _)=>(match want with
     |true=>Br (p->zbv P Γ o (σ.put (some t) (.val (.bool true))) λe σ=>ih (i+1) (e::acc) σ K)
       (¬p->zaq o (σ.put (some t) (.val (.bool false))) λσ=>ih (i+1) (zlY::acc) σ K)
     |false=>Br (p->zaq o (σ.put (some t) (.val (.bool true))) λσ=>ih (i+1) (zlY::acc) σ K)
       (¬p->zbv P Γ o (σ.put (some t) (.val (.bool false))) λe σ=>ih (i+1) (e::acc) σ K))
    |some (.val (.tuple _))=>zaq o σ λσ=>ih (i+1) (zlY::acc) σ K
    |_=>False))) l
inductive Ex
 |normal
 |exit (id:Nat)
 |ret
def Sub(σ σ':St):Prop:=∀(E:Env) ρ a w,Rel E σ ρ a w->∃ρ',Rel E σ' ρ' a w
def jI(P:Program)(Γ:LS)(c:Code):St->(Ex->St->Prop)->Prop:=
 Code.rec (motive:=λ_=>St->(Ex->St->Prop)->Prop)
  (λσ Q=>Q .normal σ)
  (λ_ ops draw σ Q=>match draw with
   |false=>u4 P Γ false ops.toList ops.toList 0 σ (Q .normal)
   |true=>Dr (vi ops.toList=true) (u4 P Γ true ops.toList ops.toList 0 σ (Q .normal))
     (Ob (zfr ops.toList=true) (za2 P Γ ops.toList ops.toList 0 [] σ (Q .normal))))
  (λ_ _ ha hb σ Q=>ha σ λe σ=>(match e with
   |.normal=>hb σ Q
   |.exit id=>Q (.exit id) σ
   |.ret=>Q .ret σ))
  (λc _ _ hx hy σ Q=>ev σ.L c λc=>(match c with
   |.val (.bool true)=>hx σ Q
   |.val (.bool false)=>hy σ Q
   |.pr p _=>Br (p->hx σ Q) (¬p->hy σ Q)
   |.anyb=>Br (hx σ Q) (hy σ Q)
   |_=>False))
  (λid _ hc σ Q=>hc σ λe σ=>(match e with
   |.normal=>Q .normal σ
   |.exit j=>(match Nat.beq j id with
    |true=>Q .normal σ
    |false=>Q (.exit j) σ)
   |.ret=>Q .ret σ))
  (λ_ hc σ Q=>∃(ι:Type) (S:ι->St) (I:ι->Prop) (μ:ι->Nat) (x0:ι),I x0/\Sub σ (S x0)/\
   ∀x,I x->hc (S x) λe σ'=>(match e with
    |.normal=>∃x',I x'/\Sub σ' (S x')/\μ x'<μ x
    |.exit id=>Q (.exit id) σ'
    |.ret=>Q .ret σ'))
  (λ_ _ _ _ _ _ _ _=>False)
  (λid σ Q=>Q (.exit id) σ)
  (λ_ hc σ Q=>hc σ Q)
  (λ_ σ Q=>Q .normal σ)
  (λ_ _ _=>False)
  (λσ Q=>Q .ret σ)
  (λ_ _ _=>False)
  c
def zrL(σ:St)(Γ:LS)(x:ResultVar)(K:SV->Prop):Prop:=
 match x with
 |.tmp t=>(match kK σ.L t with
  |some s=>zaD s λs=>K s
  |none=>False)
 |.cell a t=>kX Γ t λi=>(match kK σ.L a with
  |some (.loc k off)=>(match zU σ.M k with
   |some (.box _ cs)=>zQ (Nat.ble (off+i.sz) cs.length) (mkV i.kind.agg i.sz (cs.drop off) λs=>K s)
   |_=>False)
  |_=>False)
def zwQ(σ:St)(Γ:LS)(xs:List ResultVar):(LR->Prop)->Prop:=
 List.rec (motive:=λ_=>(LR->Prop)->Prop) (λK=>K []) (λx _ ih K=>zrL σ Γ x λs=>ih λl=>K (s::l)) xs
def zbS(σ:St)(Γ:LS)(rs:List ResultVar)(K:SV->Prop):Prop:=
 zwQ σ Γ rs λl=>match l with
  |[s]=>K s
  |l=>K (.tup l)
def jJ:Nat->LR->LP
 |_,[]=>[]
 |n,a::r=>(n,a)::jJ (n+1) r
def zlZ(lm:LJ)(s:SV):SV:=
 match s with
 |.tup cs=>.tup (znx lm cs)
 |s=>zia lm s
def endV(Γ:LS)(rs:List ResultVar)(r:SV)(e:Ex)(σ:St):Prop:=
 match e with
 |.exit _=>False
 |_=>zbS σ Γ rs λs=>LE (zlZ (zU σ.M) s) r
inductive za3 (k:LK):SV->SV->Prop
 |own (k':Nat) (h:k=some k'):za3 k (.own k') (.own 0)
 |loc (k' off:Nat) (h:k=some k'):za3 k (.loc k' off) (.loc 0 off)
 |nil (h:k=none):za3 k (.val (.slice none 0 0)) (.own 0)
 |le (s r:SV) (h:LE s r) (hf:j9 r=true):za3 k s r
 |junk (s:SV):za3 k s .junk
 |agg (cs ds:LR) (hl:cs.length=ds.length) (h:∀(j:Nat) (s r:SV),cs[j]?=some s->ds[j]?=some r->za3 k s r):za3 k (.agg cs) (.agg ds)
 |tup (cs ds:LR) (hl:cs.length=ds.length) (h:∀(j:Nat) (s r:SV),cs[j]?=some s->ds[j]?=some r->za3 k s r):za3 k (.tup cs) (.tup ds)
 |fn (f:FuncId) (cs ds:LR) (hl:cs.length=ds.length) (h:∀(j:Nat) (s r:SV),cs[j]?=some s->ds[j]?=some r->za3 k s r):za3 k (.fn f cs) (.fn f ds)
def zwR(M:LT)(k:LK)(m:Mem):Prop:=
 match k with
 |some k=>zU M k=some m/\zfY m
 |none=>(match m with
  |.arr _ _ _ xs=>xs=[]
  |_=>False)
def zrM(Γ:LS)(rs:List ResultVar)(r:SV)(m:Mem)(e:Ex)(σ:St):Prop:=
 match e with
 |.exit _=>False
 |_=>zbS σ Γ rs λs=>∃k,za3 k s r/\zwR σ.M k m
def zC1(Γ:LS)(rs:List ResultVar)(r:SV)(m:Mem)(e:Ex)(σ:St):Prop:=
 match e with
 |.exit _=>False
 |_=>zbS σ Γ rs λs=>(zU σ.M 0=some m/\LE s r)
abbrev LH:=Ex->St->Prop
end Go.Gs
