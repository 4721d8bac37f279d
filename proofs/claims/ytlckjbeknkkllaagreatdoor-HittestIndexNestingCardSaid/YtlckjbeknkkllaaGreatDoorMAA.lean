/- The definitions of an abstract run: symbolic values, the abstract state, the conditions that one operation, one region and one piece of code leave to be shown. -/
import Derived.KernelRfl
import Derived.Test.YtlckjbeknkkllaaGreatDoorMA
import Derived.Orders
import Derived.Below
import Derived.Laws.AppendOwn
import Derived.Laws.Rows
import Derived.Laws.Tables
import Derived.RowKit3
set_option maxRecDepth 100000
set_option maxHeartbeats 8000000
set_option linter.all false
namespace Go.Gs
inductive SV:Type 1
 |val (v:Value)
 |pr (p:Prop) (i:Decidable p)
 |agg (cs:List SV)
 |sl {α:Type} (enc:α->List SV) (xs:List α)
 |ptr (cs:List SV)
 |loc (k off:Nat)
 |own (k:Nat)
 |eloc (k sz:Nat) (i:Int) (off:Nat)
 |win (k sz:Nat) (lo n:Int)
 |fn (f:FuncId) (caps:List SV)
 |tup (vs:List SV)
 |junk
 |nils
 |anyb
 |full {α:Type} (enc:α->List SV) (xs:List α)
 |dptr (cs:List SV)
 |dfn (f:FuncId) (caps:List SV)
 |ifc (t:TypeId) (s:SV)
 |bm (f:FuncId) (first:List SV)
 |op (v:Value)
inductive Mem:Type 1
 |box (T:TypeId) (cs:List SV)
 |arr (T:TypeId) {α:Type} (enc:α->List SV) (sz:Nat) (xs:List α)
 |garr (T:TypeId) (sz:Nat) (xs:List (List SV))
 |map (es:List (Int×SV))
structure St:Type 1 where
 L:List (Nat×SV)
 M:List (Nat×Mem)
 nk:Nat
 nt:Nat
 n0:Nat
inductive MD:Type 1
 |none
 |push (m:Mem)
 |set (k:Nat) (m:Mem)
 |drop (k:Nat)
 |repl (k:Nat) (m:Mem)
 |give (ks:List Nat) (new:List (Nat×Mem)) (nn:Nat)
def z6:List (Nat×SV)->Nat->Option SV
 |[],_=>none
 |(k,s)::r,t=>match Nat.beq k t with
  |true=>some s
  |false=>z6 r t
def zH:List (Nat×Mem)->Nat->Option Mem
 |[],_=>none
 |(k,s)::r,t=>match Nat.beq k t with
  |true=>some s
  |false=>zH r t
def z5:List (Nat×Mem)->Nat->List (Nat×Mem)
 |[],_=>[]
 |(k,s)::r,t=>match Nat.beq k t with
  |true=>r
  |false=>(k,s)::z5 r t
def kO:List (Nat×Mem)->Nat->Mem->List (Nat×Mem)
 |[],_,_=>[]
 |(k,s)::r,t,m=>match Nat.beq k t with
  |true=>(k,m)::r
  |false=>(k,s)::kO r t m
inductive TK
 |int (k:IntKind)
 |bool
 |str
 |ptr (t:TypeId)
 |slice (e:TypeId)
 |struct (fs:List (Nat×TypeId))
 |arr (n:Nat) (e:TypeId)
 |map (k e:TypeId)
 |iface
 |other
structure TI where
 kind:TK
 sz:Nat
 bytes:Nat
 zero:List Value
 cmp:Bool
def TK.agg:TK->Bool
 |.struct _=>true
 |.arr _ _=>true
 |_=>false
def ti:List (TypeId×TI)->TypeId->Option TI
 |[],_=>none
 |(k,s)::r,t=>match Nat.beq k t with
  |true=>some s
  |false=>ti r t
structure Ob (p q:Prop):Prop where
 ob:p
 go:q
structure Br (p q:Prop):Prop where
 yes:p
 no:q
inductive Dr (p q r:Prop):Prop
 |mk (ord:p) (go:q)
 |dyn (h:r)
inductive Ar (p q r:Prop):Prop
 |fit (h:p) (k:q)
 |wrap (k:r)
inductive Dv (p q p' q':Prop):Prop
 |pos (h:p) (k:q)
 |any (h:p') (k:q')
variable{p:Prop}{q:Prop}{r:Prop}
def wa(k:q)(h:p:=by omega):Ar p q r:=.fit h k
def wb(k:q)(h:p:=by omega):Ob p q:=.mk h k
def wc{p q r:Prop}(k:q)(h:p:=by decide +kernel):Dr p q r:=.mk h k
def wd{p q s t:Prop}(k:t)(h:s:=by decide +kernel):Dr p q (Ob s t):=.dyn (.mk h k)
def we(k:q)(h:p:=by decide):Br (p->q) (¬p->r):=⟨λ_=>k,λn=>absurd h n⟩
def wb0(k:q)(h:p:=by exact⟨rfl,dC,dC,dC,λ_ _=>⟨rfl,rfl,rfl⟩⟩):Ob p q:=.mk h k
def wb1(k:q)(h:p:=by decide):Ob p q:=.mk h k
def wb2(k:q)(h:p:=by exact⟨rfl,dC,dC,dC,λx hx=>by cases hx⟩):Ob p q:=.mk h k
def wb3(k:q)(h:p:=by exact⟨rfl,dC,dC,dC,λx hx=>by rw[Xu.1 hx];exact⟨rfl,rfl,rfl⟩⟩):Ob p q:=.mk h k
def wb4(k:q)(h:p:=by exact⟨oM,oM,oM⟩):Ob p q:=.mk h k
def wb5(k:q)(h:p:=by exact⟨dC,oM,oM,(by show _*(4:Int)<=_;omega),oM⟩):Ob p q:=.mk h k
def wb6(k:q)(h:p:=by exact⟨oM,oM⟩):Ob p q:=.mk h k
def wb7(k:q)(h:p:=by exact⟨rfl,dC,dC,dC,λx hx=>by rw[Xu.1 hx];rfl⟩):Ob p q:=.mk h k
def wb8(k:q)(h:p:=by exact⟨oM,by show _<((256:Nat):Int);omega⟩):Ob p q:=.mk h k
def wb9(k:q)(h:p:=by (try dsimp only);omega):Ob p q:=.mk h k
def wb10(k:q)(h:p:=by show _/\_<(64:Int);omega):Ob p q:=.mk h k
def wb11(k:q)(h:p:=by exact⟨rfl,dC,λ_ _=>rfl⟩):Ob p q:=.mk h k
def wb12(k:q)(h:p:=by exact⟨(by show _*(16:Int)<=_;simp only[Xq,Xt];omega),(by simp only[Xq,Xt];omega),dC,λ_ _=>rfl⟩):Ob p q:=.mk h k
def wb13(k:q)(h:p:=by exact⟨by show((2:Nat)+((1:Nat):Int))*16<=_;decide,by show 2+1<=_;decide,dC,λ_ _=>rfl⟩):Ob p q:=.mk h k
def wb14(k:q)(h:p:=by exact⟨rfl,dC,dC,dC,λx hx=>⟨rfl,rfl,rfl⟩⟩):Ob p q:=.mk h k
def wb15(k:q)(h:p:=by exact⟨(by show _*(16:Int)<=_;simp only[Xt];omega),(by simp only[Xt];omega),dC,λ_ _=>rfl⟩):Ob p q:=.mk h k
def wb16(k:q)(h:p:=by exact⟨(by show((1:Nat):Int)*(16:Int)<=140737488355328;decide),(by show 1<=281474976710656;decide),dC,λ_ _=>rfl⟩):Ob p q:=.mk h k
def wb17(k:q)(h:p:=by exact⟨(by show((1:Nat):Int)*(56:Int)<=140737488355328;decide),(by show 1<=281474976710656;decide),dC,λ_ _=>rfl⟩):Ob p q:=.mk h k
def wb18(k:q)(h:p:=by exact⟨(by show((_:Int)+((1:Nat):Int))*(16:Int)<=_;omega),(by show _+1<=_;omega),dC,λ_ _=>rfl⟩):Ob p q:=.mk h k
def wb19(k:q)(h:p:=by exact⟨(by show((_:Int)+((1:Nat):Int))*(56:Int)<=_;omega),(by show _+1<=_;omega),dC,λ_ _=>rfl⟩):Ob p q:=.mk h k
def wb20(k:q)(h:p:=by exact⟨by ((try dsimp only);omega),by ((try dsimp only);omega),by ((try dsimp only);omega)⟩):Ob p q:=.mk h k
def wb21(k:q)(h:p:=by exact⟨(by show _*(32:Int)<=_;simp only[Xz,Xq,Xt];omega),(by simp only[Xz,Xq,Xt];omega),dC,λx hx=>by rw[Xu.1 hx];rfl⟩):Ob p q:=.mk h k
def zkN(k:IntKind)(e:Int)(K:SV->Prop):Prop:=
 match k with
 |.i64=>Ar (-9223372036854775808<=e/\e<=9223372036854775807) (K (.val (.int .i64 e))) (K (.val (.int .i64 (IntKind.i64.wrap e))))
 |.i32=>Ar (-2147483648<=e/\e<=2147483647) (K (.val (.int .i32 e))) (K (.val (.int .i32 (IntKind.i32.wrap e))))
 |.i16=>Ar (-32768<=e/\e<=32767) (K (.val (.int .i16 e))) (K (.val (.int .i16 (IntKind.i16.wrap e))))
 |.i8=>Ar (-128<=e/\e<=127) (K (.val (.int .i8 e))) (K (.val (.int .i8 (IntKind.i8.wrap e))))
 |.u64=>Ar (0<=e/\e<=18446744073709551615) (K (.val (.int .u64 e))) (K (.val (.int .u64 (IntKind.u64.wrap e))))
 |.u32=>Ar (0<=e/\e<=4294967295) (K (.val (.int .u32 e))) (K (.val (.int .u32 (IntKind.u32.wrap e))))
 |.u16=>Ar (0<=e/\e<=65535) (K (.val (.int .u16 e))) (K (.val (.int .u16 (IntKind.u16.wrap e))))
 |.u8=>Ar (0<=e/\e<=255) (K (.val (.int .u8 e))) (K (.val (.int .u8 (IntKind.u8.wrap e))))
def kmax:IntKind->Int
 |.i64=>9223372036854775807
 |.i32=>2147483647
 |.i16=>32767
 |.i8=>127
 |.u64=>18446744073709551615
 |.u32=>4294967295
 |.u16=>65535
 |.u8=>255
def uW(s:SV)(K:SV->Prop):Prop:=
 match s with
 |.val v=>(match v with
  |.int k n=>K (.val (.int k n))
  |.bool b=>(match b with|true=>K (.val (.bool true))|false=>K (.val (.bool false)))
  |.slice a l c=>K (.val (.slice a l c))
  |v=>K (.val v))
 |.pr p i=>K (.pr p i)
 |.agg cs=>K (.agg cs)
 |.sl enc xs=>K (.sl enc xs)
 |.ptr cs=>K (.ptr cs)
 |.loc k off=>K (.loc k off)
 |.own k=>K (.own k)
 |.eloc k sz i off=>K (.eloc k sz i off)
 |.win k sz lo n=>K (.win k sz lo n)
 |.fn f caps=>K (.fn f caps)
 |.tup vs=>K (.tup vs)
 |.junk=>K .junk
 |.nils=>K .nils
 |.anyb=>K .anyb
 |.full enc xs=>K (.full enc xs)
 |.dptr cs=>K (.dptr cs)
 |.dfn f cs=>K (.dfn f cs)
 |.ifc t s=>K (.ifc t s)
 |.bm f cs=>K (.bm f cs)
 |.op v=>K (.op v)
def ev(L:List (Nat×SV))(x:Operand)(K:SV->Prop):Prop:=
 match x with
 |.tmp t=>(match z6 L t with
  |some s=>uW s K
  |none=>False)
 |.const v=>uW (.val v) K
 |.func f=>K (.fn f [])
 |.global _=>False
def evs(L:List (Nat×SV))(xs:List Operand):(List SV->Prop)->Prop:=
 List.rec (motive:=λ_=>(List SV->Prop)->Prop) (λK=>K []) (λx _ ih K=>ev L x λs=>ih λl=>K (s::l)) xs
def putL(L:List (Nat×SV))(d:Option Tmp)(s:SV):List (Nat×SV):=
 match d with
 |some d=>(d,s)::L
 |none=>L
def jv(M:List (Nat×Mem)):List Nat->List (Nat×Mem)
 |[]=>M
 |k::r=>jv (z5 M k) r
def zcy(M:List (Nat×Mem))(κ:Nat):MD->List (Nat×Mem)
 |.none=>M
 |.push m=>(κ,m)::M
 |.set k m=>kO M k m
 |.drop k=>z5 M k
 |.repl k m=>(κ,m)::z5 M k
 |.give ks new _=>new++jv M ks
def za8(κ:Nat):MD->Nat
 |.push _=>κ+1
 |.repl _ _=>κ+1
 |.give _ _ nn=>κ+nn
 |_=>κ
def St.app(σ:St)(d:Option Tmp)(s:SV)(m:MD):St:=⟨putL σ.L d s,zcy σ.M σ.nk m,za8 σ.nk m,σ.nt,σ.n0⟩
def St.put(σ:St)(d:Option Tmp)(s:SV):St:=⟨putL σ.L d s,σ.M,σ.nk,σ.nt,σ.n0⟩
def kq:SV->List SV
 |.agg cs=>cs
 |s=>[s]
def vals(l:List Value):List SV:=l.map .val
def uC(cs:List SV)(off:Nat)(new:List SV):List SV:=cs.take off++new++cs.drop (off+new.length)
def mkV(agg:Bool)(sz:Nat)(cs:List SV)(K:SV->Prop):Prop:=
 match agg with
 |true=>K (.agg (cs.take sz))
 |false=>(match cs with
  |c::_=>uW c K
  |[]=>False)
def zob:List (Nat×TypeId)->Nat->Option (Nat×TypeId)
 |[],_=>none
 |x::_,0=>some x
 |_::r,n+1=>zob r n
def kz(Γ:List (TypeId×TI))(t:TypeId)(K:TI->Prop):Prop:=
 match ti Γ t with
 |some i=>K i
 |none=>False
def zuD(s:SV)(K:(p:Prop)->Decidable p->Prop):Prop:=
 match s with
 |.pr p i=>K p i
 |.val (.bool true)=>K True instDecidableTrue
 |.val (.bool false)=>K False instDecidableFalse
 |_=>False
def zqX:IntKind->IntKind->Bool
 |.i64,.i64=>true
 |.i32,.i32=>true
 |.i16,.i16=>true
 |.i8,.i8=>true
 |.u64,.u64=>true
 |.u32,.u32=>true
 |.u16,.u16=>true
 |.u8,.u8=>true
 |_,_=>false
def zJ(b:Bool)(K:Prop):Prop:=
 match b with
 |true=>K
 |false=>False
def jN(a b:Bool):Bool:=
 match a with
 |true=>b
 |false=>false
def zfe:List SV->List SV->((p:Prop)->Decidable p->Prop)->Prop
 |[],[],K=>K True instDecidableTrue
 |c::cs,d::ds,K=>uW c λc=>uW d λd=>(match c,d with
  |.val (.int k m),.val (.int k' n)=>zJ (zqX k k') (zfe cs ds λp i=>K (m=n/\p) (@instDecidableAnd _ _ (inferInstance) i))
  |_,_=>False)
 |_,_,_=>False
def uX(op:BinOp)(k:IntKind)(x y:Int):Int:=
 match op with
 |.and=>k.wrap (BitVec.ofInt k.bits x&&&BitVec.ofInt k.bits y).toNat
 |.or=>k.wrap (BitVec.ofInt k.bits x|||BitVec.ofInt k.bits y).toNat
 |.xor=>k.wrap (BitVec.ofInt k.bits x ^^^ BitVec.ofInt k.bits y).toNat
 |_=>k.wrap (BitVec.ofInt k.bits x&&&~~~ (BitVec.ofInt k.bits y)).toNat
def zsH:Operand->Bool
 |.const _=>true
 |_=>false
def zis(Γ:List (TypeId×TI))(f:TypeId->Bool):List (Nat×TypeId)->Nat->Nat->Bool
 |[],at_,sz=>Nat.beq at_ sz
 |(off,t)::r,at_,sz=>match ti Γ t with
  |some j=>jN (Nat.beq off at_) (jN (f t) (zis Γ f r (at_+j.sz) sz))
  |none=>false
def zff(Γ:List (TypeId×TI)):Nat->TypeId->Bool
 |0,_=>false
 |n+1,t=>match ti Γ t with
  |some i=>(match i.kind with
   |.int _=>Nat.beq i.sz 1
   |.struct fs=>jN i.cmp (zis Γ (zff Γ n) fs 0 i.sz)
   |.arr len e=>jN i.cmp (jN (Nat.beq len 2) (jN (Nat.beq i.sz 2) (match ti Γ e with
    |some j=>jN (Nat.beq j.sz 1) (zff Γ n e)
    |none=>false)))
   |_=>false)
  |none=>false
def zqY(op:BinOp)(y:Operand)(k:IntKind)(m n:Int)(K:SV->Prop):Prop:=
 match op,zsH y with
 |.shl,true=>(match n with
  |.ofNat c=>Ob (c<k.bits) (zkN k (m*2^c) K)
  |.negSucc _=>False)
 |.shl,false=>Ob (0<=n/\n<k.bits) (zkN k (m*2^n.toNat) K)
 |.shr,true=>(match n with
  |.ofNat c=>Ob (c<k.bits) (K (.val (.int k (m/2^c))))
  |.negSucc _=>False)
 |.shr,false=>Ob (0<=n/\n<k.bits) (K (.val (.int k (m/2^n.toNat))))
 |_,_=>False
def intV(op:BinOp)(k:IntKind)(m n:Int)(K:SV->Prop):Prop:=
 match op with
 |.add=>zkN k (m+n) K
 |.sub=>zkN k (m-n) K
 |.mul=>zkN k (m*n) K
 |.quo=>Dv (0<=m/\0<n/\m<=kmax k) (K (.val (.int k (m/n)))) (n≠0) (zkN k (m.tdiv n) K)
 |.rem=>Dv (0<=m/\0<n) (K (.val (.int k (m%n)))) (n≠0) (K (.val (.int k (m.tmod n))))
 |.eql=>K (.pr (m=n) inferInstance)
 |.neq=>K (.pr (¬m=n) inferInstance)
 |.lss=>K (.pr (m<n) inferInstance)
 |.leq=>K (.pr (m<=n) inferInstance)
 |.gtr=>K (.pr (n<m) inferInstance)
 |.geq=>K (.pr (n<=m) inferInstance)
 |.and=>∃r,r=uX .and k m n/\K (.val (.int k r))
 |.or=>∃r,r=uX .or k m n/\K (.val (.int k r))
 |.xor=>∃r,r=uX .xor k m n/\K (.val (.int k r))
 |.andNot=>∃r,r=uX .andNot k m n/\K (.val (.int k r))
 |_=>False
def zsI:BinOp->Bool
 |.shl=>true
 |.shr=>true
 |_=>false
def zoc:Value->Bool
 |.nilIface=>true
 |_=>false
def ifB:Value->Bool
 |.nilIface=>true
 |.iface _ _=>true
 |_=>false
inductive zcz (p q r:Prop):Prop
 |some (h:p) (k:q)
 |any (k:r)
def zwF(t:TK)(op:BinOp)(n:Nat)(K:SV->Prop):Prop:=
 match t,op with
 |.slice _,.eql=>zcz (n≠0) (K (.val (.bool false))) (K .anyb)
 |.slice _,.neq=>zcz (n≠0) (K (.val (.bool true))) (K .anyb)
 |_,_=>False
def zsJ(op:BinOp)(b:Bool)(K:SV->Prop):Prop:=
 match op with
 |.eql=>K (.val (.bool b))
 |.neq=>K (.val (.bool (!b)))
 |_=>False
def zwG(k:TK)(lit:Bool)(a b:SV):Option Bool:=
 match a,b with
 |.val (.slice none 0 0),.val (.slice none 0 0)=>(match k with
  |.slice _=>some true
  |_=>none)
 |.dptr _,.val (.pointer none)=>(match k with
  |.ptr _=>some false
  |_=>none)
 |.ptr _,.val (.pointer none)=>(match k with
  |.ptr _=>some false
  |_=>none)
 |.loc _ _,.val (.pointer none)=>(match k with
  |.ptr _=>some false
  |_=>none)
 |.val (.pointer none),.val (.pointer none)=>(match k with
  |.ptr _=>some true
  |_=>none)
 |.ifc _ _,.val .nilIface=>(match k with
  |.iface=>some false
  |_=>none)
 |.val .nilIface,.val .nilIface=>(match k,lit with
  |.iface,true=>some true
  |_,_=>none)
 |.dfn _ _,.val .nilFunc=>(match k with
  |.other=>some false
  |_=>none)
 |_,_=>none
def bin(Γ:List (TypeId×TI))(op:BinOp)(t:TypeId)(y:Operand)(a b:SV)(K:SV->Prop):Prop:=
 match a,b with
 |.val (.int k m),.val (.int k' n)=>(match zsI op with
  |true=>zqY op y k m n K
  |false=>zJ (zqX k k') (intV op k m n K))
 |.agg cs,.agg ds=>kz Γ t λi=>zJ i.kind.agg (zJ (Nat.beq cs.length i.sz)<|zJ (zff Γ 8 t) (match op with
  |.eql=>zfe cs ds λp i=>K (.pr p i)
  |.neq=>zfe cs ds λp i=>K (.pr (¬p) (@instDecidableNot _ i))
  |_=>False))
 |.sl _ xs,.val (.slice none 0 0)=>kz Γ t λi=>zwF i.kind op xs.length K
 |.op v,.val .nilIface=>kz Γ t λi=>(match i.kind with
  |.iface=>zJ (zsH y) (match op with
   |.eql=>K (.pr (zoc v=true) inferInstance)
   |.neq=>K (.pr (¬zoc v=true) inferInstance)
   |_=>False)
  |_=>False)
 |a,b=>kz Γ t λi=>(match zwG i.kind (zsH y) a b with
  |some r=>zsJ op r K
  |none=>(match i.kind,op with
   |.bool,.eql=>zuD a λp i=>zuD b λq j=>K (.pr (p↔q) (@instDecidableIff _ _ i j))
   |.bool,.neq=>zuD a λp i=>zuD b λq j=>K (.pr (¬(p↔q)) (@instDecidableNot _ (@instDecidableIff _ _ i j)))
   |_,_=>False))
def jw:SV->Bool
 |.dptr _=>true
 |.dfn _ _=>true
 |.bm _ _=>true
 |.op _=>true
 |.ifc _ s=>jw s
 |.val _=>true
 |.pr _ _=>true
 |.sl _ _=>true
 |.nils=>true
 |.anyb=>true
 |.full _ _=>true
 |.agg cs=>flats cs
 |_=>false
 where
 flats:List SV->Bool
  |[]=>true
  |c::cs=>match jw c with
   |true=>flats cs
   |false=>false
def yH:SV->Bool
 |.ifc _ s=>yH s
 |.val _=>true
 |.pr _ _=>true
 |.nils=>true
 |.anyb=>true
 |.agg cs=>scalars cs
 |_=>false
 where
 scalars:List SV->Bool
  |[]=>true
  |c::cs=>match yH c with
   |true=>scalars cs
   |false=>false
def zit:SV->Bool
 |.tup cs=>jw.flats cs
 |s=>jw s
def zh4:SV->Bool
 |.tup cs=>yH.scalars cs
 |s=>yH s
def zsK(lm:Nat->Option Mem)(s:SV):SV:=
 match s with
 |.own k=>(match lm k with
  |some (.arr _ enc _ xs)=>.sl enc xs
  |_=>.junk)
 |.fn f []=>.val (.func (.func f) #[] #[])
 |s=>(match jw s with
  |true=>s
  |false=>.junk)
def zbJ(lm:Nat->Option Mem):List SV->List SV
 |[]=>[]
 |c::cs=>zsK lm c::zbJ lm cs
def zhm(lm:Nat->Option Mem)(s:SV):SV:=
 match s with
 |.loc k off=>(match lm k with
  |some (.box _ cs)=>.ptr ((zbJ lm cs).drop off)
  |_=>.junk)
 |.own k=>(match lm k with
  |some (.arr _ enc _ xs)=>.sl enc xs
  |_=>.junk)
 |.win k sz lo n=>(match lm k with
  |some (.arr _ enc sz' xs)=>(match Nat.beq sz sz' with
   |true=>.sl enc ((xs.drop lo.toNat).take n.toNat)
   |false=>.junk)
  |_=>.junk)
 |.agg cs=>.agg (zbJ lm cs)
 |.ptr cs=>.ptr cs
 |.fn f []=>.fn f []
 |s=>(match jw s with
  |true=>s
  |false=>.junk)
def zmQ(lm:Nat->Option Mem):List SV->List SV
 |[]=>[]
 |c::cs=>zhm lm c::zmQ lm cs
def ziu(lm:Nat->Option Mem)(s:SV):SV:=
 match s with
 |.fn f cs=>.fn f (zmQ lm cs)
 |s=>zhm lm s
def zcr(lm:Nat->Option Mem):List SV->List SV
 |[]=>[]
 |c::cs=>ziu lm c::zcr lm cs
def zbK(lm:Nat->Option Mem)(s:SV):Bool:=
 match s with
 |.loc k _=>(match lm k with
  |some (.box _ cs)=>jw.flats cs
  |_=>false)
 |.ptr _=>true
 |.agg cs=>jw.flats cs
 |s=>jw s
def zbL(lm:Nat->Option Mem):List SV->Bool
 |[]=>true
 |c::cs=>match zbK lm c with
  |true=>zbL lm cs
  |false=>false
def yE(lm:Nat->Option Mem):List SV->Bool
 |[]=>true
 |.fn _ cs::r=>(match zbL lm cs with
  |true=>yE lm r
  |false=>false)
 |c::r=>match zbK lm c with
  |true=>yE lm r
  |false=>false
def zsL(lm:Nat->Option Mem)(args:List SV)(r:SV):Bool:=
 match yE lm args with
 |true=>zit r
 |false=>zh4 r
inductive D (S:Nat->Prop) (w:World):SV->Value->Prop
 |val (v:Value):D S w (.val v) v
 |pr (p:Prop) (i:Decidable p):D S w (.pr p i) (.bool (@decide p i))
 |agg (cs:List SV) (vs:List Value) (hl:vs.length=cs.length)
   (h:∀(j:Nat) (s:SV) (v:Value),cs[j]?=some s->vs[j]?=some v->D S w s v):D S w (.agg cs) (.agg vs.toArray)
 |nil {α:Type} (enc:α->List SV) (a:Option Addr):D S w (.sl enc []) (.slice a 0 0)
 |nils (a:Option Addr):D S w .nils (.slice a 0 0)
 |anyb (b:Bool):D S w .anyb (.bool b)
 |junk (v:Value):D S w .junk v
 |full {α:Type} (enc:α->List SV) (xs:List α) (a:Option Addr) (h:D S w (.sl enc xs) (.slice a xs.length xs.length)):D S w (.full enc xs) (.slice a xs.length xs.length)
 |sl {α:Type} (enc:α->List SV) (xs:List α) (sz b o cap:Nat) (c:Nat->Nat->Value) (hb:b<w.heap.size) (hS:¬S b)
   (hlen:xs.length<=9223372036854775807) (hcap:xs.length<=cap) (hsz:∀x∈xs,(enc x).length=sz)
   (hc:∀i j,i<xs.length->j<sz->w.cell? ⟨b,o+i*sz+j,none⟩=some (c i j)/\(c i j).oneCell'=true)
   (h:∀(i j:Nat) (x:α) (s:SV),xs[i]?=some x->(enc x)[j]?=some s->D S w s (c i j)):
   D S w (.sl enc xs) (.slice (some ⟨b,o,none⟩) xs.length cap)
 |dptr (cs:List SV) (b o:Nat) (c:Nat->Value) (hb:b<w.heap.size) (hS:¬S b)
   (hc:∀j,j<cs.length->w.cell? ⟨b,o+j,none⟩=some (c j)/\(c j).oneCell'=true)
   (h:∀(j:Nat) (s:SV),cs[j]?=some s->D S w s (c j)):D S w (.dptr cs) (.pointer (some ⟨b,o,none⟩))
 |dfn (f:FuncId) (cs:List SV) (vs:List Value) (hl:vs.length=cs.length)
   (h:∀(j:Nat) (s:SV) (v:Value),cs[j]?=some s->vs[j]?=some v->D S w s v):D S w (.dfn f cs) (.func (.func f) #[] vs.toArray)
 |ifc (t:TypeId) (s:SV) (v:Value) (h:D S w s v):D S w (.ifc t s) (.iface t v)
 |bm (f:FuncId) (cs:List SV) (vs:List Value) (hl:vs.length=cs.length)
   (h:∀(j:Nat) (s:SV) (v:Value),cs[j]?=some s->vs[j]?=some v->D S w s v):D S w (.bm f cs) (.func (.func f) vs.toArray #[])
 |op (v:Value) (h:ifB v=true):D S w (.op v) v
abbrev ze:=Nat->Option Value
inductive G (S Pm:Nat->Prop) (ρ:ze) (w:World):SV->Value->Prop
 |d (s:SV) (v:Value) (h:D S w s v):G S Pm ρ w s v
 |loc (k off b:Nat) (h:ρ k=some (.pointer (some ⟨b,0,none⟩))):G S Pm ρ w (.loc k off) (.pointer (some ⟨b,off,none⟩))
 |own (k:Nat) (v:Value) (h:ρ k=some v) (h1:v.oneCell'=true):G S Pm ρ w (.own k) v
 |eloc (k sz:Nat) (i:Int) (off b len cap:Nat) (h:ρ k=some (.slice (some ⟨b,0,none⟩) len cap)):
   G S Pm ρ w (.eloc k sz i off) (.pointer (some ⟨b,i.toNat*sz+off,none⟩))
 |win (k sz:Nat) (lo n:Int) (b len cap cap':Nat) (h:ρ k=some (.slice (some ⟨b,0,none⟩) len cap)) (h1:lo.toNat+n.toNat<=len) (h2:n.toNat<=cap'):
   G S Pm ρ w (.win k sz lo n) (.slice (some ⟨b,lo.toNat*sz,none⟩) n.toNat cap')
 |ptr (cs:List SV) (b o:Nat) (c:Nat->Value) (hb:b<w.heap.size) (hP:¬Pm b)
   (hc:∀j,j<cs.length->w.cell? ⟨b,o+j,none⟩=some (c j)/\(c j).oneCell'=true)
   (h:∀(j:Nat) (s:SV),cs[j]?=some s->D S w s (c j)):G S Pm ρ w (.ptr cs) (.pointer (some ⟨b,o,none⟩))
 |agg (cs:List SV) (vs:List Value) (hl:vs.length=cs.length)
   (h:∀(j:Nat) (s:SV) (v:Value),cs[j]?=some s->vs[j]?=some v->G S Pm ρ w s v):G S Pm ρ w (.agg cs) (.agg vs.toArray)
 |tup (cs:List SV) (vs:List Value) (hl:vs.length=cs.length)
   (h:∀(j:Nat) (s:SV) (v:Value),cs[j]?=some s->vs[j]?=some v->G S Pm ρ w s v):G S Pm ρ w (.tup cs) (.tuple vs.toArray)
 |fn (f:FuncId) (cs:List SV) (vs:List Value) (hl:vs.length=cs.length)
   (h:∀(j:Nat) (s:SV) (v:Value),cs[j]?=some s->vs[j]?=some v->G S Pm ρ w s v):G S Pm ρ w (.fn f cs) (.func (.func f) #[] vs.toArray)
 |ifc (t:TypeId) (s:SV) (v:Value) (h:G S Pm ρ w s v):G S Pm ρ w (.ifc t s) (.iface t v)
def Gs(S Pm:Nat->Prop)(ρ:ze)(w:World)(cs:List SV)(vs:List Value):Prop:=
 vs.length=cs.length/\∀(j:Nat) (s:SV) (v:Value),cs[j]?=some s->vs[j]?=some v->G S Pm ρ w s v
def kI:Value->Option Nat
 |.pointer (some a)=>some a.block
 |.slice (some a) _ _=>some a.block
 |.map (some r)=>some r
 |_=>none
def Own(M:List (Nat×Mem))(ρ:ze)(b:Nat):Prop:=∃k m v,(k,m)∈M/\ρ k=some v/\kI v=some b
def je(S Pm:Nat->Prop)(ρ:ze)(w:World)(k:Nat):Mem->Prop
 |.box T cs=>∃b vs,ρ k=some (.pointer (some ⟨b,0,none⟩))/\w.heap[b]?=some (.cells (List.toArray vs) T (0,0))/\
   vs.length=cs.length/\(∀v∈vs,v.oneCell'=true)/\∀(j:Nat) (s:SV) (v:Value),cs[j]?=some s->vs[j]?=some v->G S Pm ρ w s v
 |.arr T enc sz xs=>∃v cells,ρ k=some v/\w.ownsRow 0 T sz v xs.length cells/\xs.length<=281474976710656/\(∀u∈cells,u.oneCell'=true)/\
   (∀x∈xs,(enc x).length=sz)/\
   ∀(i j:Nat) x (s:SV),xs[i]?=some x->(enc x)[j]?=some s->∃u,cells[i*sz+j]?=some u/\D S w s u
 |.garr T sz xs=>∃v cells,ρ k=some v/\w.ownsRow 0 T sz v xs.length cells/\xs.length<=281474976710656/\(∀u∈cells,u.oneCell'=true)/\
   (∀x∈xs,x.length=sz)/\
   ∀(i j:Nat) x (s:SV),xs[i]?=some x->x[j]?=some s->∃u,cells[i*sz+j]?=some u/\G S Pm ρ w s u
 |.map es=>∃r ents clock,ρ k=some (.map (some r))/\w.heap[r]?=some (.map ents clock)/\ents.size=es.length/\
   ∀(i:Nat) (n:Int) (s:SV),es[i]?=some (n,s)->∃e,ents[i]?=some e/\e.key=.int .i64 n/\D S w s e.val
def GL(g:Nat)(v:Value):Prop:=(g,v)∈([(0,.iface 301 (.agg #[.pointer (some ⟨3,171,none⟩)]))]:List (Nat×Value))
structure zB (Keep:Nat->Prop) (M:List (Nat×Mem)) (ρ:ze) (w:World):Prop where
 rel:∀k m,(k,m)∈M->je (λb=>Keep b∨Own M ρ b) (Own M ρ) ρ w k m
 keys:M.Pairwise λa b=>a.1≠b.1
 apart:∀k m k' m' v v' b,(k,m)∈M->(k',m')∈M->k≠k'->ρ k=some v->ρ k'=some v'->kI v=some b->kI v'≠some b
 old:∀b,Own M ρ b->b<w.heap.size/\¬Keep b
 kp:∀b,Keep b->b<w.heap.size
 gl:∀g v,GL g v->¬Own M ρ g/\w.cell? ⟨g,0,none⟩=some v
def kr(w w':World):Prop:=w'.output=w.output/\∀a,w'.frozen? a=w.frozen? a
structure Stp (W W':Nat->Prop) (ρ ρ':ze) (w w':World):Prop where
 os:w'.os=w.os
 tape:w'.tape=w.tape
 output:kr w w'
 size:w.heap.size<=w'.heap.size
 block:∀b,b<w.heap.size->¬W b->w'.heap[b]?=w.heap[b]?
 own:∀b,W' b->W b∨w.heap.size<=b
 rho:∀k v,ρ k=some v->ρ' k=some v
def ziv{w:World}{g:Nat}{v:Value}(h:w.cell? ⟨g,0,none⟩=some v):g<w.heap.size:=by
 rcases X7 g w.heap.size with h1|h1
 ·exact h1
 simp[World.cell?,K3 h1]at h
variable{w':World}
def zeE{w:World}{g:Nat}(h:w'.heap[g]?=w.heap[g]?):w'.cell? ⟨g,0,none⟩=w.cell? ⟨g,0,none⟩:=by
 simp only[World.cell?,h]
variable{Keep:Nat->Prop}{M:List (Nat×Mem)}{ρ:ze}
def zB.glc{w:World}(hm:zB Keep M ρ w){g:Nat}{v:Value}(h:GL g v):w.cell? ⟨g,0,none⟩=some v:=(hm.gl g v h).2
variable{M':List (Nat×Mem)}{ρ':ze}
def zB.glS{w:World}(hm:zB Keep M ρ w)(hs:Stp (Own M ρ) (Own M' ρ') ρ ρ' w w'):∀g v,GL g v->¬Own M' ρ' g/\w'.cell? ⟨g,0,none⟩=some v:=λg v h=>by
 obtain⟨h1,h2⟩:=hm.gl g v h;have hl:=ziv h2;exact⟨λho=>(hs.own g ho).elim h1 λk=>by omega,(zeE (hs.block g hl h1)).trans h2⟩
def zB.glO{w:World}(hm:zB Keep M ρ w)(hown:∀b,Own M' ρ' b->Own M ρ b):∀g v,GL g v->¬Own M' ρ' g/\w.cell? ⟨g,0,none⟩=some v:=λg v h=>
 ⟨λho=>(hm.gl g v h).1 (hown g ho),hm.glc h⟩
def zcD(P:Program)(f:FuncId):Prop:=∃fn,P.funcs[f]?=some fn/\(fn.name== "runtime.NumGoroutine")=false/\fn.body.isNone=false
def kK(P:Program)(f:FuncId)(args:List SV)(M:List (Nat×Mem))(r:SV)(M':List (Nat×Mem)):Prop:=
 zcD P f/\∀(Keep:Nat->Prop) (ρ:ze) (w:World) (vs:List Value),(∀b,Keep b->b<w.heap.size)->zB Keep M ρ w->(∀k,M.length<=k->ρ k=none)->
  Gs (λb=>Keep b∨Own M ρ b) (Own M ρ) ρ w args vs->
  Calls P f vs.toArray w λe w'=>∃v ρ',e=.returned v/\Stp (Own M ρ) (Own M' ρ') ρ ρ' w w'/\zB Keep M' ρ' w'/\
   G (λb=>Keep b∨Own M' ρ' b) (Own M' ρ') ρ' w' r v
structure Env where
 w0:World
 ρ0:ze
 Keep:Nat->Prop
 W0:Nat->Prop
 ds:List Deferred
structure Rel (E:Env) (σ:St) (ρ:ze) (a:Act) (w:World):Prop where
 size:a.tmps.size=σ.nt
 defers:a.defers=E.ds
 regs:∀t s,z6 σ.L t=some s->t<σ.nt/\G (λb=>E.Keep b∨Own σ.M ρ b) (Own σ.M ρ) ρ w s (a.tmps.getD t undef)
 mem:zB E.Keep σ.M ρ w
 fresh:∀k,σ.nk<=k->ρ k=none
 stp:Stp E.W0 (Own σ.M ρ) E.ρ0 ρ E.w0 w
 keep:∀b,E.Keep b->b<E.w0.heap.size
 low:∀k v,E.ρ0 k=some v->k<σ.n0
def zfg:Mem->Prop
 |.box _ cs=>jw.flats cs=true
 |.arr _ enc _ xs=>∀x∈xs,jw.flats (enc x)=true
 |.garr _ _ _=>False
 |.map es=>jw.flats (es.map (·.2))=true
def give(lm:Nat->Option Mem)(k:Nat)(s:SV):SV:=
 match s with
 |.loc k' off=>(match Nat.beq k' k with
  |true=>.loc 0 off
  |false=>ziu lm (.loc k' off))
 |.own k'=>(match Nat.beq k' k with
  |true=>.own 0
  |false=>ziu lm (.own k'))
 |.win k' sz lo n=>(match Nat.beq k' k with
  |true=>.win 0 sz lo n
  |false=>ziu lm (.win k' sz lo n))
 |s=>ziu lm s
def zwH(lm:Nat->Option Mem)(k:Nat):List SV->List SV
 |[]=>[]
 |c::cs=>give lm k c::zwH lm k cs
def zk7(k:Nat):List SV->Bool
 |[]=>true
 |.loc k' _::r=>(match Nat.beq k' k with
  |true=>false
  |false=>zk7 k r)
 |_::r=>zk7 k r
def za9(lm:Nat->Option Mem)(k:Nat):List SV->Bool
 |[]=>true
 |.loc k' off::r=>(match Nat.beq k' k with
  |true=>za9 lm k r
  |false=>jN (yE lm [.loc k' off]) (za9 lm k r))
 |.own k'::r=>(match Nat.beq k' k with
  |true=>za9 lm k r
  |false=>false)
 |.win k' _ _ _::r=>(match Nat.beq k' k with
  |true=>za9 lm k r
  |false=>false)
 |.fn f cs::r=>jN (zk7 k cs) (jN (yE lm [.fn f cs]) (za9 lm k r))
 |s::r=>jN (yE lm [s]) (za9 lm k r)
def zh5:Mem->Prop
 |.box _ cs=>yH.scalars cs=true
 |.arr _ enc _ xs=>∀x∈xs,yH.scalars (enc x)=true
 |.garr _ _ _=>False
 |.map es=>yH.scalars (es.map (·.2))=true
def mv(κ:Nat):SV->SV
 |.own _=>.own κ
 |.loc _ off=>.loc κ off
 |.agg cs=>.agg (mvs κ cs)
 |.tup cs=>.tup (mvs κ cs)
 |.fn f cs=>.fn f (mvs κ cs)
 |.ifc t s=>.ifc t (mv κ s)
 |s=>s
 where
 mvs (κ:Nat):List SV->List SV
  |[]=>[]
  |c::cs=>mv κ c::mvs κ cs
def zaj:SV->Bool
 |.own k=>Nat.beq k 0
 |.loc k _=>Nat.beq k 0
 |.val _=>true
 |.pr _ _=>true
 |.junk=>true
 |.agg cs=>mvOKs cs
 |.tup cs=>mvOKs cs
 |.fn _ cs=>mvOKs cs
 |.ifc _ s=>zaj s
 |_=>false
 where
 mvOKs:List SV->Bool
  |[]=>true
  |c::cs=>match zaj c with
   |true=>mvOKs cs
   |false=>false
def zwI:Option Mem->Bool
 |some (.arr _ _ _ _)=>true
 |_=>false
def zwJ(lm:Nat->Option Mem)(k:Nat):List SV->Bool
 |[]=>true
 |.own k'::r=>(match Nat.beq k' k with
  |true=>zwJ lm k r
  |false=>false)
 |s::r=>jN (yE lm [s]) (zwJ lm k r)
def LE(s r:SV):Prop:=∀S Pm ρ w v,G S Pm ρ w s v->G S Pm ρ w r v
inductive LEs:List SV->List SV->Prop
 |nil:LEs [] []
 |cons {a b:SV} {za bs:List SV} (h:LE a b) (t:LEs za bs):LEs (a::za) (b::bs)
def rn(ks:List Nat)(κ j:Nat):Nat:=
 match ks[j]? with
 |some k=>k
 |none=>κ+(j-ks.length)
def uU(ks:List Nat)(κ:Nat):SV->SV
 |.loc k off=>.loc (rn ks κ k) off
 |.own k=>.own (rn ks κ k)
 |.eloc k sz i off=>.eloc (rn ks κ k) sz i off
 |.win k sz lo n=>.win (rn ks κ k) sz lo n
 |.agg cs=>.agg (rens ks κ cs)
 |.tup cs=>.tup (rens ks κ cs)
 |.fn f cs=>.fn f (rens ks κ cs)
 |.ifc t s=>.ifc t (uU ks κ s)
 |s=>s
 where
 rens (ks:List Nat) (κ:Nat):List SV->List SV
  |[]=>[]
  |c::cs=>uU ks κ c::rens ks κ cs
def y8(n:Nat):SV->Bool
 |.loc k _=>Nat.blt k n
 |.own k=>Nat.blt k n
 |.eloc k _ _ _=>Nat.blt k n
 |.win k _ _ _=>Nat.blt k n
 |.agg cs=>lows n cs
 |.tup cs=>lows n cs
 |.fn _ cs=>lows n cs
 |.ifc _ s=>y8 n s
 |_=>true
 where
 lows (n:Nat):List SV->Bool
  |[]=>true
  |c::cs=>match y8 n c with
   |true=>lows n cs
   |false=>false
def zba(n:Nat):SV->Bool
 |.loc k _=>Nat.blt k n
 |.own k=>Nat.blt k n
 |.eloc k _ _ _=>Nat.blt k n
 |.win k _ _ _=>Nat.blt k n
 |.ptr _=>false
 |.agg cs=>outs n cs
 |.tup cs=>outs n cs
 |.fn _ cs=>outs n cs
 |.ifc _ s=>zba n s
 |_=>true
 where
 outs (n:Nat):List SV->Bool
  |[]=>true
  |c::cs=>match zba n c with
   |true=>outs n cs
   |false=>false
def zgu(ks:List Nat)(κ:Nat):Mem->Mem
 |.box T cs=>.box T (uU.rens ks κ cs)
 |.garr T sz xs=>.garr T sz (xs.map (uU.rens ks κ))
 |m=>m
def yk(ks:List Nat)(κ:Nat):List (Nat×Mem)->List (Nat×Mem)
 |[]=>[]
 |(j,m)::r=>(rn ks κ j,zgu ks κ m)::yk ks κ r
def zod(n:Nat):Mem->Prop
 |.box _ cs=>y8.lows n cs=true
 |.garr _ _ xs=>∀x∈xs,y8.lows n x=true
 |_=>True
def zuE(n:Nat):Mem->Prop
 |.box _ cs=>zba.outs n cs=true
 |.garr _ _ xs=>∀x∈xs,zba.outs n x=true
 |_=>True
def zfh(lm:Nat->Option Mem)(ks0:List Nat)(κ:Nat)(Mc:List (Nat×Mem)):Nat->List Nat->Prop
 |_,[]=>True
 |i,k::r=>(∃m,zH Mc i=some m/\lm k=some (zgu ks0 κ m)/\zod ks0.length m)/\zfh lm ks0 κ Mc (i+1) r
def ziw(n:Nat):List (Nat×Mem)->Prop
 |[]=>True
 |(j,m)::r=>(Nat.blt j n=true/\zuE n m)/\ziw n r
def zkO(k:Nat):List Nat->Bool
 |[]=>false
 |x::r=>match Nat.beq x k with
  |true=>true
  |false=>zkO k r
def vI:List Nat->Bool
 |[]=>true
 |x::r=>match zkO x r with
  |true=>false
  |false=>vI r
def zix(n:Nat):List (Nat×Mem)->Bool
 |[]=>true
 |(k,_)::r=>jN (Nat.blt k n) (zix n r)
def zoe(k:Nat):List (Nat×Mem)->Bool
 |[]=>false
 |(q,_)::r=>match Nat.beq q k with
  |true=>true
  |false=>zoe k r
def zeF:List (Nat×Mem)->Bool
 |[]=>true
 |(k,_)::r=>match zoe k r with
  |true=>false
  |false=>zeF r
def zqZ(ks:List Nat)(κ nn:Nat):List (Nat×Mem)->Bool
 |[]=>true
 |(k,_)::r=>jN (zkO k ks||(Nat.ble κ k&&Nat.blt k (κ+nn))) (zqZ ks κ nn r)
def zeG(k:Nat):List (Nat×Mem)->Bool
 |[]=>false
 |(q,_)::r=>match Nat.beq q k with
  |true=>true
  |false=>zeG k r
def zeH(new:List (Nat×Mem))(κ:Nat):Nat->Bool
 |0=>true
 |n+1=>jN (zeG (κ+n) new) (zeH new κ n)
def zfi(l:List SV):(List SV->Prop)->Prop:=
 List.rec (motive:=λ_=>(List SV->Prop)->Prop) (λK=>K []) (λc _ ih K=>uW c λc=>ih λr=>K (c::r)) l
def zh6(m:Mem)(K:Mem->Prop):Prop:=
 match m with
 |.box T cs=>zfi cs λcs=>K (.box T cs)
 |.arr T enc sz xs=>K (.arr T enc sz xs)
 |.garr T sz xs=>K (.garr T sz xs)
 |.map es=>K (.map es)
def zof(n:Nat):(Nat->Prop)->Prop:=
 Nat.rec (motive:=λ_=>(Nat->Prop)->Prop) (λK=>K 0) (λ_ ih K=>ih λm=>K (m+1)) n
def zfj(l:List (Nat×Mem)):(List (Nat×Mem)->Prop)->Prop:=
 List.rec (motive:=λ_=>(List (Nat×Mem)->Prop)->Prop) (λK=>K []) (λx _ ih K=>zof x.1 λk=>zh6 x.2 λm=>ih λr=>K ((k,m)::r)) l
inductive zb (P:Program) (lm:Nat->Option Mem) (κ:Nat) (f:FuncId) (args:List SV) (K:SV->MD->Prop):Prop
 |to (r:SV) (h:kK P f (zcr lm args) [] r []) (hr:zsL lm args r=true) (k:uW r λr=>K r .none)
 |fresh (m:Mem) (r:SV) (h:kK P f (zcr lm args) [] r [(0,m)]) (hr:zaj r=true) (hm:zfg m) (hc:yE lm args=true∨zh5 m) (k:uW (mv κ r) λr=>K r (.push m))
 |see (k:Nat) (r:SV) (h:kK P f (zcr lm args) [] r []) (hk:zwI (lm k)=true) (hc:zwJ lm k args=true) (hr:zit r=true) (kk:uW r λr=>K r (.drop k))
 |hand (k:Nat) (m m':Mem) (r:SV) (hk:lm k=some m) (h:kK P f (zwH lm k args) [(0,m)] r [(0,m')])
   (hm:zfg m) (hm':zfg m') (hc:za9 lm k args=true) (hr:zit r=true) (k:uW r λr=>K r (.set k m'))
 |give (ks:List Nat) (nn:Nat) (args':List SV) (Mc M':List (Nat×Mem)) (r:SV) (h:kK P f args' Mc r M') (ha:LEs args (uU.rens ks κ args')) (hl:y8.lows ks.length args'=true)
   (hn:vI ks=true) (hk:jN (Nat.beq Mc.length ks.length) (jN (zix ks.length Mc) (zeF Mc))=true) (hM:zfh lm ks κ Mc 0 ks) (hr:zba (ks.length+nn) r=true) (hM':ziw (ks.length+nn) M')
   (k:zfj (yk ks κ M') λnew=>uW (uU ks κ r) λr=>K r (.give ks new nn))
def wg{P:Program}{lm:Nat->Option Mem}{κ:Nat}{f:FuncId}{args:List SV}{K:SV->MD->Prop}{r:SV}(h:kK P f (zcr lm args) [] r [])(k:uW r λr=>K r .none)(hr:zsL lm args r=true:=by rfl):zb P lm κ f args K:=.to r h hr k
def zk8(s:SV):Bool:=
 match s with
 |.val v=>(match v with
  |.agg _=>false
  |.tuple _=>false
  |_=>true)
 |.agg _=>false
 |.tup _=>false
 |.junk=>false
 |_=>true
def jn:List SV->Bool
 |[]=>true
 |c::cs=>match zk8 c with
  |true=>jn cs
  |false=>false
def qX(o:Option Operand)(l:List SV)(dflt:Int)(K:Int->List SV->Prop):Prop:=
 match o with
 |none=>K dflt l
 |some _=>match l with
  |.val (.int _ n)::r=>K n r
  |_=>False
def fstO(p:Option (Nat×Nat)):Nat:=
 match p with
 |some (a,_)=>a
 |none=>0
def zbM(pl:Nat->Option (Nat×Nat)):List Nat->List SV->List SV->List SV
 |i::r,s::l,cs=>zbM pl r l (uC cs (fstO (pl i)) (kq s))
 |_,_,cs=>cs
def zbb(pl:Nat->Option (Nat×Nat))(n:Nat):List Nat->List SV->Bool
 |i::r,s::l=>(match pl i with
  |some (off,sz)=>jN (Nat.beq (kq s).length sz) (jN (Nat.ble (off+sz) n) (jN (jn (kq s)) (zbb pl n r l)))
  |none=>false)
 |[],[]=>true
 |_,_=>false
def ziy(Γ:List (TypeId×TI))(fs:List (Nat×TypeId))(i:Nat):Option (Nat×Nat):=
 match zob fs i with
 |some (off,ft)=>(match ti Γ ft with
  |some j=>some (off,j.sz)
  |none=>none)
 |none=>none
def vJ(sz i:Nat):Option (Nat×Nat):=some (i*sz,sz)
def rep{α:Type 1}(n:Nat)(cs:List α):List α:=
 match n with
 |0=>[]
 |n+1=>cs++rep n cs
def zei{α:Type _}(enc:α->List SV)(xs:List α):List SV:=
 match xs with
 |[]=>[]
 |x::xs=>enc x++zei enc xs
def zC5(lm:Nat->Option Mem)(s:SV)(K:Int->Prop):Prop:=
 match s with
 |.sl _ xs=>xs.length<=9223372036854775807->K xs.length
 |.own k=>(match lm k with
  |some (.arr _ _ _ xs)=>xs.length<=281474976710656->K xs.length
  |some (.garr _ _ xs)=>xs.length<=281474976710656->K xs.length
  |_=>False)
 |.val (.slice none 0 0)=>K 0
 |.nils=>K 0
 |.win _ _ _ n=>Ob (0<=n) (K n)
 |_=>False
def zkP(s:List SV)(K:IntKind->List Int->Prop):Prop:=
 match s with
 |.val (.int k m)::r=>(match r with
  |[]=>K k [m]
  |_=>zkP r λ_ l=>K k (m::l))
 |_=>False
def zcE:Int->List Int->Int
 |x,[]=>x
 |x,y::r=>zcE (min x y) r
def zfk:Int->List Int->Int
 |x,[]=>x
 |x,y::r=>zfk (max x y) r
def zcF{α:Type}(lm:Nat->Option Mem)(s:SV)(enc:α->List SV)(ys:List α):Prop:=
 match s with
 |.val (.slice none 0 0)=>ys=[]
 |.own k=>zhm lm (.own k)=.sl enc ys
 |s=>s=.sl enc ys
inductive Sl (p q:Prop) (r:Prop:=False):Prop
 |see (h:p)
 |keep (h:q)
 |win (h:r)
def zh7(Γ:List (TypeId×TI))(tys:List TypeId)(s x:SV)(lm:Nat->Option Mem)(κ:Nat)(K:SV->MD->Prop):Prop:=
 match tys with
 |[t,t']=>zJ (Nat.beq t t') (kz Γ t λi=>(match i.kind with
  |.slice e=>kz Γ e λj=>(match s with
   |.val (.slice none 0 0)=>∃(α:Type) (enc:α->List SV) (ys:List α),zcF lm x enc ys/\
     Ob ((ys.length:Int)*j.bytes<=140737488355328/\ys.length<=281474976710656/\0<j.sz/\∀x∈ys,(enc x).length=j.sz) (K (.own κ) (.push (.arr e enc j.sz ys)))
   |.own k=>(match lm k with
    |some (.arr e' enc sz xs)=>zJ (Nat.beq e e') (zJ (Nat.beq sz j.sz) (∃ys,zcF lm x enc ys/\
     Ob ((xs.length+ys.length:Int)*j.bytes<=140737488355328/\xs.length+ys.length<=281474976710656/\0<j.sz/\∀x∈ys,(enc x).length=j.sz)
      (K (.own κ) (.repl k (.arr e enc sz (xs++ys))))))
    |some (.garr e' sz xs)=>zJ (Nat.beq e e') (zJ (Nat.beq sz j.sz) (∃(α:Type) (enc:α->List SV) (ys:List α),zcF lm x enc ys/\
     Ob ((xs.length+ys.length:Int)*j.bytes<=140737488355328/\xs.length+ys.length<=281474976710656/\0<j.sz/\∀x∈ys,(enc x).length=j.sz)
      (K (.own κ) (.repl k (.garr e sz (xs++ys.map enc))))))
    |_=>False)
   |.full enc xs=>∃ys,zcF lm x enc ys/\
     Ob (ys≠[]/\(xs.length+ys.length:Int)*j.bytes<=140737488355328/\xs.length+ys.length<=281474976710656/\0<j.sz/\(∀x∈xs,(enc x).length=j.sz)/\∀x∈ys,(enc x).length=j.sz)
      (K (.own κ) (.push (.arr e enc j.sz (xs++ys))))
   |.nils=>Sl (∃(α:Type) (enc:α->List SV) (ys:List α),zcF lm x enc ys/\
     Ob (ys≠[]/\(ys.length:Int)*j.bytes<=140737488355328/\ys.length<=281474976710656/\0<j.sz/\∀x∈ys,(enc x).length=j.sz) (K (.own κ) (.push (.arr e enc j.sz ys))))
     (∃(α:Type) (enc:α->List SV),zcF lm x enc ([]:List α)/\0<j.sz/\K .nils .none)
   |_=>False)
  |_=>False))
 |_=>False
def ziz(Γ:List (TypeId×TI))(tys:List TypeId)(s:SV)(e':TypeId)(sz':Nat)(ys:List (List SV))(lm:Nat->Option Mem)(κ:Nat)(K:SV->MD->Prop):Prop:=
 match tys with
 |[t,t']=>zJ (Nat.beq t t') (kz Γ t λi=>(match i.kind with
  |.slice e=>kz Γ e λj=>zJ (Nat.beq e e') (zJ (Nat.beq sz' j.sz) (match s with
   |.val (.slice none 0 0)=>Ob ((ys.length:Int)*j.bytes<=140737488355328/\ys.length<=281474976710656/\0<j.sz) (K (.own κ) (.push (.garr e j.sz ys)))
   |.own k=>(match lm k with
    |some (.garr e'' sz xs)=>zJ (Nat.beq e e'') (zJ (Nat.beq sz j.sz)
      (Ob ((xs.length+ys.length:Int)*j.bytes<=140737488355328/\xs.length+ys.length<=281474976710656/\0<j.sz) (K (.own κ) (.repl k (.garr e sz (xs++ys))))))
    |_=>False)
   |_=>False))
  |_=>False))
 |_=>False
def zsM(Γ:List (TypeId×TI))(tys:List TypeId)(s:SV)(n:Int)(κ:Nat)(K:SV->MD->Prop):Prop:=
 match tys,s with
 |[t,t'],.val (.slice none 0 0)=>kz Γ t λi=>kz Γ t' λi'=>(match i.kind,i'.kind with
  |.slice e,.int _=>kz Γ e λj=>∃(α:Type) (enc:α->List SV) (z:α),
    enc z=vals j.zero/\Ob (0<j.sz/\0<n/\n*j.bytes<=140737488355328/\n<=281474976710656) (K (.own κ) (.push (.arr e enc j.sz (List.replicate n.toNat z))))
  |_,_=>False)
 |_,_=>False
def ziA(Γ:List (TypeId×TI))(b:Builtin)(tys:List TypeId)(args:List SV)(lm:Nat->Option Mem)(κ:Nat)(K:SV->MD->Prop):Prop:=
 match b,args with
 |.len,[s]=>(match tys with
  |[t]=>kz Γ t λi=>(match i.kind with
   |.slice _=>zC5 lm s λn=>K (.val (.int .i64 n)) .none
   |_=>False)
  |_=>False)
 |.cap,[s]=>(match tys with
  |[t]=>kz Γ t λi=>(match i.kind with
   |.slice _=>(match s with
    |.val (.slice none 0 0)=>K (.val (.int .i64 0)) .none
    |.nils=>K (.val (.int .i64 0)) .none
    |_=>False)
   |_=>False)
  |_=>False)
 |.min,s=>zkP s λk l=>(match l with
  |x::r=>K (.val (.int k (zcE x r))) .none
  |[]=>False)
 |.max,s=>zkP s λk l=>(match l with
  |x::r=>K (.val (.int k (zfk x r))) .none
  |[]=>False)
 |.append,[s,x]=>(match x with
  |.val (.int _ n)=>zsM Γ tys s n κ K
  |.own k'=>(match lm k' with
   |some (.garr e' sz' ys)=>ziz Γ tys s e' sz' ys lm κ K
   |_=>zh7 Γ tys s (.own k') lm κ K)
  |x=>zh7 Γ tys s x lm κ K)
 |.clear,[d]=>(match tys with
  |[t]=>kz Γ t λi=>(match i.kind with
   |.slice e=>kz Γ e λj=>(match d with
    |.win k sz' lo n=>(match lm k with
     |some (.arr T (α:=α) enc sz xs)=>zJ (Nat.beq sz j.sz) (zJ (Nat.beq sz' sz) (∃z:α,enc z=vals j.zero/\
       Ob (0<=lo/\0<n/\lo+n<=xs.length) (K (.val (.tuple #[])) (.set k (.arr T enc sz (xs.take lo.toNat++(List.replicate n.toNat z++xs.drop (lo.toNat+n.toNat))))))))
     |_=>False)
    |_=>False)
   |_=>False)
  |_=>False)
 |_,_=>False
def zwK(Γ:List (TypeId×TI))(t:TypeId)(s:SV)(lm:Nat->Option Mem)(K:SV->MD->Prop):Prop:=
 kz Γ t λi=>(match s with
  |.loc k off=>(match lm k with
   |some (.box _ cs)=>zJ (Nat.ble (off+i.sz) cs.length) (mkV i.kind.agg i.sz (cs.drop off) λs=>K s .none)
   |_=>False)
  |.ptr cs=>zJ (Nat.ble i.sz cs.length) (mkV i.kind.agg i.sz cs λs=>K s .none)
  |.dptr cs=>zJ (Nat.ble i.sz cs.length) (mkV i.kind.agg i.sz cs λs=>K s .none)
  |.eloc k sz n off=>(match lm k with
   |some (.arr _ enc sz' xs)=>zJ (Nat.beq sz sz') (zJ (Nat.ble (off+i.sz) sz) (Ob (0<=n/\n<xs.length) (∀x,xs[n.toNat]?=some x->
     mkV i.kind.agg i.sz ((enc x).drop off) λs=>K s .none)))
   |some (.garr _ sz' xs)=>zJ (Nat.beq sz sz') (zJ (Nat.ble (off+i.sz) sz) (Ob (0<=n/\n<xs.length) (∀x,xs[n.toNat]?=some x->
     mkV i.kind.agg i.sz (x.drop off) λs=>K s .none)))
   |_=>False)
  |_=>False)
def zq0(Γ:List (TypeId×TI))(t:TypeId)(s v:SV)(lm:Nat->Option Mem)(K:SV->MD->Prop):Prop:=
 kz Γ t λi=>zJ (jn (kq v)) (zJ (Nat.beq (kq v).length i.sz) (match s with
  |.loc k off=>(match lm k with
   |some (.box T cs)=>zJ (Nat.ble (off+i.sz) cs.length) (K (.val undef) (.set k (.box T (uC cs off (kq v)))))
   |_=>False)
  |.eloc k sz n off=>(match lm k with
   |some (.arr T (α:=α) enc sz' xs)=>zJ (Nat.beq sz sz') (zJ (Nat.ble (off+i.sz) sz) (match jw.flats (kq v) with
    |true=>(Ob (0<=n/\n<xs.length) (∀x,xs[n.toNat]?=some x->
     ∃x':α,enc x'=uC (enc x) off (kq v)/\K (.val undef) (.set k (.arr T enc sz (xs.set n.toNat x')))))
    |false=>(Ob (0<=n/\n<xs.length) (∀x,xs[n.toNat]?=some x->
     K (.val undef) (.set k (.garr T sz ((xs.map enc).set n.toNat (uC (enc x) off (kq v)))))))))
   |some (.garr T sz' xs)=>zJ (Nat.beq sz sz') (zJ (Nat.ble (off+i.sz) sz) (Ob (0<=n/\n<xs.length) (∀x,xs[n.toNat]?=some x->
     K (.val undef) (.set k (.garr T sz (xs.set n.toNat (uC x off (kq v))))))))
   |_=>False)
  |_=>False))
def zwL(hi mx:Option Operand):Bool:=
 match mx,hi with
 |some _,none=>false
 |_,_=>true
def zwM:Option Operand->Bool
 |some (.const (.int _ n))=>(match n with
  |.ofNat m=>Nat.beq m 0
  |_=>false)
 |_=>false
inductive zwN (p q:Prop):Prop
 |sl (h:p)
 |full (h:q)
def zbc:Option Operand->Bool
 |none=>true
 |_=>false
def zq1(Γ:List (TypeId×TI))(t:TypeId)(lo hi mx:Option Operand)(svs:List SV)(lm:Nat->Option Mem)(κ:Nat)(K:SV->MD->Prop):Prop:=
 zJ (zwL hi mx) (match svs with
 |s::rest=>kz Γ t λi=>(match i.kind with
  |.slice e=>kz Γ e λj=>(match s with
   |.sl enc xs=>(match jN (zwM hi) (zwM mx) with
    |true=>qX lo rest 0 λl rest=>qX hi rest 0 λh rest=>qX mx rest 0 λm _=>Ob (l=0/\h=0/\m=0) (K .nils .none)
    |false=>qX lo rest 0 λl rest=>qX hi rest xs.length λh rest=>qX mx rest xs.length λm _=>(match zbc mx with
     |true=>Ob ((0<=l/\l<=h/\h<=m/\m<=xs.length)/\∀x∈xs,(enc x).length=j.sz) (K (.sl enc ((xs.drop l.toNat).take (h-l).toNat)) .none)
     |false=>zwN (Ob ((0<=l/\l<=h/\h<=m/\m<=xs.length)/\∀x∈xs,(enc x).length=j.sz) (K (.sl enc ((xs.drop l.toNat).take (h-l).toNat)) .none))
      (Ob ((0<=l/\l<=h/\h=m/\m<=xs.length)/\∀x∈xs,(enc x).length=j.sz) (K (.full enc ((xs.drop l.toNat).take (h-l).toNat)) .none))))
   |.val (.slice none 0 0)=>qX lo rest 0 λl rest=>qX hi rest 0 λh rest=>qX mx rest 0 λm _=>Ob (l=0/\h=0/\m=0) (K (.val (.slice none 0 0)) .none)
   |.own k=>(match lm k with
    |some (.arr T enc sz xs)=>zJ (Nat.beq sz j.sz) (qX lo rest 0 λl rest=>qX hi rest xs.length λh rest=>qX mx rest xs.length λm _=>
     Sl (Ob (0<=l/\l<=h/\h<=m/\m<=xs.length) (K (.sl enc ((xs.drop l.toNat).take (h-l).toNat)) (.drop k)))
      (zJ (zbc mx) (Ob (l=0/\0<=h/\h<=xs.length) (K (.own κ) (.repl k (.arr T enc sz (xs.take h.toNat))))))
      (Ob (0<=l/\l<h/\h<=m/\m<=xs.length) (K (.win k sz l (h-l)) .none)))
    |some (.garr T sz xs)=>zJ (Nat.beq sz j.sz) (zJ (zbc mx) (qX lo rest 0 λl rest=>qX hi rest xs.length λh _=>
      (Ob (l=0/\0<=h/\h<=xs.length) (K (.own κ) (.repl k (.garr T sz (xs.take h.toNat)))))))
    |_=>False)
   |.win k sz at0 n=>zJ (Nat.beq sz j.sz) (qX lo rest 0 λl rest=>qX hi rest n λh rest=>qX mx rest n λm _=>
     Ob (0<=at0/\0<=l/\l<h/\h<=m/\m<=n) (K (.win k sz (at0+l) (h-l)) .none))
   |_=>False)
  |_=>False)
 |[]=>False)
def zk9(Γ:List (TypeId×TI))(t:TypeId)(lo hi mx:Option Operand)(cs:List SV)(K:SV->MD->Prop):Prop:=
 zJ (jN (zbc lo) (jN (zbc hi) (zbc mx))) (kz Γ t λi=>(match i.kind with
  |.arr n e=>kz Γ e λj=>∃(α:Type) (enc:α->List SV) (xs:List α),zei enc xs=cs/\
    Ob (xs.length=n/\n<=281474976710656/\∀x∈xs,(enc x).length=j.sz) (K (.sl enc xs) .none)
  |_=>False))
def zmR(Γ:List (TypeId×TI))(t:TypeId)(lo hi mx:Option Operand)(svs:List SV)(lm:Nat->Option Mem)(κ:Nat)(K:SV->MD->Prop):Prop:=
 match svs with
 |[.dptr cs]=>zk9 Γ t lo hi mx cs K
 |svs=>zq1 Γ t lo hi mx svs lm κ K
inductive zmS (p q:Prop):Prop
 |own (h:p)
 |data (h:q)
def boxV(Γ:List (TypeId×TI))(e:TypeId)(s:SV)(κ:Nat)(K:SV->MD->Prop):Prop:=
 zJ (jn (kq s)) (match ti Γ e with
  |some i=>(match i.kind with
   |.arr _ _=>(match jw.flats (kq s) with
    |true=>zmS (K (.loc κ 0) (.push (.box e (kq s)))) (K (.dptr (kq s)) .none)
    |false=>K (.loc κ 0) (.push (.box e (kq s))))
   |_=>K (.loc κ 0) (.push (.box e (kq s))))
  |none=>K (.loc κ 0) (.push (.box e (kq s))))
def zeI(Γ:List (TypeId×TI))(t:TypeId)(f:Nat)(s:SV)(K:SV->MD->Prop):Prop:=
 kz Γ t λi=>(match i.kind with
  |.struct fs=>(match zob fs f with
   |some (off,ft)=>kz Γ ft λj=>zJ (Nat.blt 0 j.sz) (match s with
    |.loc k o'=>K (.loc k (o'+off)) .none
    |.ptr cs=>K (.ptr (cs.drop off)) .none
    |.dptr cs=>K (.dptr (cs.drop off)) .none
    |.eloc k sz i o'=>K (.eloc k sz i (o'+off)) .none
    |_=>False)
   |none=>False)
  |_=>False)
def zeJ(Γ:List (TypeId×TI))(t:TypeId)(s n:SV)(lm:Nat->Option Mem)(K:SV->MD->Prop):Prop:=
 kz Γ t λi=>(match n with
  |.val (.int _ n)=>(match i.kind with
   |.slice e=>kz Γ e λj=>(match s with
    |.sl enc xs=>Ob (0<=n/\n<xs.length) (∀x,xs[n.toNat]?=some x->zJ (Nat.beq (enc x).length j.sz) (K (.ptr (enc x)) .none))
    |.own k=>(match lm k with
     |some (.arr _ _ sz xs)=>zJ (Nat.beq sz j.sz) (Ob (0<=n/\n<xs.length) (K (.eloc k sz n 0) .none))
     |some (.garr _ sz xs)=>zJ (Nat.beq sz j.sz) (Ob (0<=n/\n<xs.length) (K (.eloc k sz n 0) .none))
     |_=>False)
    |.win k sz lo l=>zJ (Nat.beq sz j.sz) (Ob (0<=lo/\0<=n/\n<l) (K (.eloc k sz (lo+n) 0) .none))
    |_=>False)
   |.arr len e=>kz Γ e λj=>(match n with
    |.ofNat m=>zJ (Nat.blt m len) (match s with
     |.loc k off=>K (.loc k (off+m*j.sz)) .none
     |.ptr cs=>K (.ptr (cs.drop (m*j.sz))) .none
     |.dptr cs=>K (.dptr (cs.drop (m*j.sz))) .none
     |.eloc k sz i' o'=>K (.eloc k sz i' (o'+m*j.sz)) .none
     |_=>False)
    |_=>False)
   |_=>False)
  |_=>False)
def zq2(Γ:List (TypeId×TI))(t:TypeId)(s n:SV)(K:SV->MD->Prop):Prop:=
 kz Γ t λi=>(match i.kind,s,n with
  |.arr len e,.agg cs,.val (.int _ n)=>kz Γ e λj=>(match n with
   |.ofNat m=>zJ (Nat.blt m len) (zJ (Nat.ble (m*j.sz+j.sz) cs.length) (mkV j.kind.agg j.sz (cs.drop (m*j.sz)) λs=>K s .none))
   |_=>False)
  |.str,.val (.string s),.val (.int _ n)=>Ob (0<=n/\n<s.size) (∀b:UInt8,s[n.toNat]?=some b->K (.val (.int .u8 b.toNat)) .none)
  |_,_,_=>False)
def zq3(Γ:List (TypeId×TI))(t:TypeId)(ids:List Nat)(svs:List SV)(K:SV->MD->Prop):Prop:=
 kz Γ t λi=>(match i.kind with
  |.struct fs=>zJ (zbb (ziy Γ fs) i.sz ids svs) (K (.agg (zbM (ziy Γ fs) ids svs (vals i.zero))) .none)
  |.arr _ e=>kz Γ e λj=>zJ (zbb (vJ j.sz) i.sz ids svs) (K (.agg (zbM (vJ j.sz) ids svs (vals i.zero))) .none)
  |_=>False)
def zDM:SV->Bool
 |.loc _ _=>false
 |.own _=>false
 |.eloc _ _ _ _=>false
 |.win _ _ _ _=>false
 |.ptr _=>false
 |.agg cs=>jw.flats cs
 |_=>true
def selB:List SV->Bool
 |[]=>true
 |s::r=>match zDM s with
  |true=>selB r
  |false=>false
def zcG(Γ:List (TypeId×TI))(t:TypeId)(n:Nat)(ids:List Nat)(svs:List SV)(κ:Nat)(K:SV->MD->Prop):Prop:=
 kz Γ t λi=>(match i.kind with
  |.slice e=>kz Γ e λj=>zJ (zbb (vJ j.sz) (n*j.sz) ids svs) (match selB svs with
    |true=>(∃(α:Type) (enc:α->List SV) (xs:List α),
     zei enc xs=zbM (vJ j.sz) ids svs (rep n (vals j.zero))/\
     Ob (xs.length=n/\n<=281474976710656/\n*j.sz<=16777216/\0<j.sz/\∀x∈xs,(enc x).length=j.sz/\jn (enc x)=true/\jw.flats (enc x)=true) (K (.own κ) (.push (.arr e enc j.sz xs))))
    |false=>zJ (jn (zbM (vJ j.sz) ids svs (rep n (vals j.zero)))) (∃(xs:List (List SV)),
     zei id xs=zbM (vJ j.sz) ids svs (rep n (vals j.zero))/\
     Ob (xs.length=n/\n<=281474976710656/\n*j.sz<=16777216/\0<j.sz/\∀x∈xs,x.length=j.sz) (K (.own κ) (.push (.garr e j.sz xs)))))
  |_=>False)
def zeK(Γ:List (TypeId×TI))(t:TypeId)(l c:SV)(κ:Nat)(K:SV->MD->Prop):Prop:=
 kz Γ t λi=>(match i.kind,l,c with
  |.slice e,.val (.int _ n),.val (.int _ m)=>kz Γ e λj=>∃(α:Type) (enc:α->List SV) (z:α),
    enc z=vals j.zero/\Ob (0<j.sz/\0<=n/\n<=m/\m*j.bytes<=281474976710656/\m<=281474976710656) (K (.own κ) (.push (.arr e enc j.sz (List.replicate n.toNat z))))
  |_,_,_=>False)
def zwO(c a b:SV)(K:SV->MD->Prop):Prop:=
 match c with
 |.val (.bool true)=>K a .none
 |.val (.bool false)=>K b .none
 |.pr p _=>Br (p->K a .none) (¬p->K b .none)
 |_=>False
def unV(op:UnOp)(s:SV)(K:SV->MD->Prop):Prop:=
 match op,s with
 |.not,.val (.bool true)=>K (.val (.bool false)) .none
 |.not,.val (.bool false)=>K (.val (.bool true)) .none
 |.not,.pr p i=>K (.pr (¬p) (@instDecidableNot _ i)) .none
 |.neg,.val (.int k n)=>zkN k (- n) λs=>K s .none
 |_,_=>False
def yO:Option Operand->List Operand
 |none=>[]
 |some x=>[x]
def zdC:Callee->List Operand
 |.value f=>[f]
 |.invoke r _=>[r]
 |.builtin _=>[]
def kL:Op->List Operand
 |.move x=>[x]
 |.assign x=>[x]
 |.pick c a b=>[c,a,b]
 |.box _ x=>[x]
 |.build _ ps=>ps.toList.map (·.2)
 |.buildSlice _ _ ps=>ps.toList.map (·.2)
 |.load _ a=>[a]
 |.store _ a x=>[a,x]
 |.nilCheck x=>[x]
 |.binOp _ _ x y _=>[x,y]
 |.unOp _ _ x=>[x]
 |.convert _ _ x=>[x]
 |.makeFunc _ first caps=>first.toList++caps.toList
 |.makeSlice _ l c=>[l,c]
 |.makeInterface _ x=>[x]
 |.typeAssert x _ _ _=>[x]
 |.makeMap _ r=>yO r
 |.mapUpdate _ m k x=>[m,k,x]
 |.insert _ m k x=>[m,k,x]
 |.lookup _ m k _=>[m,k]
 |.slice _ x lo hi mx=>x::(yO lo++(yO hi++yO mx))
 |.fieldAddr _ x _=>[x]
 |.field _ x _=>[x]
 |.indexAddr _ x i=>[x,i]
 |.index _ x i=>[x,i]
 |.extract x _=>[x]
 |.call c=>zdC c.callee++c.args.toList
 |_=>[]
def zwP(es:List (Int×SV))(n:Int)(K1:SV->Prop)(K0:Prop):Prop:=
 List.rec (motive:=λ_=>Prop) K0 (λx _ ih=>match x with
  |(k,s)=>Br (n=k->K1 s) (¬n=k->ih)) es
def zwQ(es:List (Int×SV))(n:Int)(s:SV):(List (Int×SV)->Prop)->Prop:=
 List.rec (motive:=λ_=>(List (Int×SV)->Prop)->Prop) (λK=>K [(n,s)]) (λx r ih K=>match x with
  |(k,s')=>Br (n=k->K ((n,s)::r)) (¬n=k->ih λr'=>K ((k,s')::r'))) es
def ziB(Γ:List (TypeId×TI))(t:TypeId)(svs:List SV)(κ:Nat)(K:SV->MD->Prop):Prop:=
 kz Γ t λi=>(match i.kind with
  |.map _ _=>(match svs with
   |[]=>K (.own κ) (.push (.map []))
   |.val (.int _ _)::_=>K (.own κ) (.push (.map []))
   |_=>False)
  |_=>False)
def zbN(Γ:List (TypeId×TI))(t:TypeId)(m k s:SV)(lm:Nat->Option Mem)(K:SV->MD->Prop):Prop:=
 kz Γ t λi=>(match i.kind with
  |.map kt _=>kz Γ kt λj=>(match j.kind,m,k with
   |.int .i64,.own c,.val (.int .i64 n)=>(match lm c with
    |some (.map es)=>zJ (jw s) (zwQ es n s λes'=>K (.val undef) (.set c (.map es')))
    |_=>False)
   |_,_,_=>False)
  |_=>False)
def zsN(ok:Bool)(s:SV)(b:Bool)(K:SV->MD->Prop):Prop:=
 match ok with
 |true=>K (.tup [s,.val (.bool b)]) .none
 |false=>uW s λs=>K s .none
def zmT(Γ:List (TypeId×TI))(t:TypeId)(ok:Bool)(m k:SV)(lm:Nat->Option Mem)(K:SV->MD->Prop):Prop:=
 kz Γ t λi=>(match i.kind with
  |.map kt et=>kz Γ kt λj=>kz Γ et λz=>(match j.kind,m,k with
   |.int .i64,.own c,.val (.int .i64 n)=>(match lm c with
    |some (.map es)=>zwP es n (λs=>zsN ok s true K) (mkV z.kind.agg z.sz (vals z.zero) λs=>zsN ok s false K)
    |_=>False)
   |_,_,_=>False)
  |_=>False)
def ziC(Γ:List (TypeId×TI))(t:TypeId)(s:SV)(K:SV->MD->Prop):Prop:=
 kz Γ t λi=>(match i.kind with
  |.iface=>False
  |.other=>False
  |_=>K (.ifc t s) .none)
def zsO:List SV->(List Value->Prop)->Prop
 |[],K=>K []
 |.val v::r,K=>zsO r λvs=>K (v::vs)
 |_,_=>False
def conc(s:SV)(K:Value->Prop):Prop:=
 match s with
 |.val v=>K v
 |.agg cs=>zsO cs λvs=>K (.agg vs.toArray)
 |_=>False
def zsP:List SV->(List Value->Prop)->Prop
 |[],K=>K []
 |s::r,K=>conc s λv=>zsP r λvs=>K (v::vs)
def zwR:List SV->Bool
 |[]=>true
 |.val _::r=>zwR r
 |_=>false
def zwS:List SV->Bool
 |[]=>true
 |.val _::r=>zwS r
 |.agg cs::r=>jN (zwR cs) (zwS r)
 |_=>false
def ofV(v:Value):SV:=
 match v with
 |.agg a=>.agg (a.toList.map .val)
 |v=>.val v
def opV(P:Program)(Γ:List (TypeId×TI))(op:Op)(svs:List SV)(lm:Nat->Option Mem)(κ:Nat)(K:SV->MD->Prop):Prop:=
 match op,svs with
 |.move _,[s]=>K s .none
 |.assign _,[s]=>K s .none
 |.pick _ _ _,[c,a,b]=>zwO c a b K
 |.alloc e,_=>kz Γ e λi=>K (.loc κ 0) (.push (.box e (vals i.zero)))
 |.box e _,[s]=>boxV Γ e s κ K
 |.build t ps,svs=>zq3 Γ t (ps.toList.map (·.1)) svs K
 |.buildSlice t n ps,svs=>zcG Γ t n (ps.toList.map (·.1)) svs κ K
 |.load t _,[s]=>zwK Γ t s lm K
 |.store t _ _,[s,v]=>zq0 Γ t s v lm K
 |.nilCheck _,[s]=>(match s with
  |.loc k off=>K (.loc k off) .none
  |.ptr cs=>K (.ptr cs) .none
  |.dptr cs=>K (.dptr cs) .none
  |.eloc k sz i off=>K (.eloc k sz i off) .none
  |.ifc t s=>K (.ifc t s) .none
  |_=>False)
 |.binOp op t _ y _,[a,b]=>bin Γ op t y a b λs=>K s .none
 |.unOp op _ _,[s]=>unV op s K
 |.convert s0 t _,[s]=>kz Γ s0 λ_=>kz Γ t λi=>(match i.kind,s with
  |.int k,.val (.int _ n)=>zkN k n λs=>K s .none
  |_,_=>False)
 |.makeFunc fn first caps,svs=>(match fn with
  |.func f=>(match first.isEmpty with
   |true=>K (.fn f svs) .none
   |false=>zJ caps.isEmpty (match zwS svs with
    |true=>zsP svs λvs=>K (.val (.func (.func f) vs.toArray #[])) .none
    |false=>zJ (jw.flats svs) (K (.bm f svs) .none)))
  |_=>False)
 |.makeSlice t _ _,[l,c]=>zeK Γ t l c κ K
 |.slice t _ lo hi mx,svs=>zmR Γ t lo hi mx svs lm κ K
 |.fieldAddr t _ f,[s]=>zeI Γ t f s K
 |.field t _ f,[s]=>kz Γ t λi=>(match i.kind,s with
  |.struct fs,.agg cs=>(match zob fs f with
   |some (off,ft)=>kz Γ ft λj=>zJ (Nat.ble (off+j.sz) cs.length) (mkV j.kind.agg j.sz (cs.drop off) λs=>K s .none)
   |none=>False)
  |_,_=>False)
 |.indexAddr t _ _,[s,n]=>zeJ Γ t s n lm K
 |.index t _ _,[s,n]=>zq2 Γ t s n K
 |.extract _ n,[s]=>(match s with
  |.tup vs=>(match vs.drop n with
   |v::_=>uW v λv=>K v .none
   |[]=>False)
  |_=>False)
 |.makeInterface t _,[s]=>ziC Γ t s K
 |.makeMap t _,svs=>ziB Γ t svs κ K
 |.mapUpdate t _ _ _,[m,k,s]=>zbN Γ t m k s lm K
 |.insert t _ _ _,[m,k,s]=>zbN Γ t m k s lm K
 |.lookup t _ _ ok,[m,k]=>zmT Γ t ok m k lm K
 |.call c,svs=>(match c.callee with
  |.value _=>(match svs with
   |.fn f caps::args=>zb P lm κ f (args++caps) K
   |.val (.func (.func f) first ⟨[]⟩)::args=>zb P lm κ f (first.toList.map ofV++args) K
   |.dfn f caps::args=>zb P lm κ f (args++caps) K
   |.bm f first::args=>zb P lm κ f (first++args) K
   |_=>False)
  |.invoke _ _=>False
  |.builtin b=>ziA Γ b c.argTypes.toList svs lm κ K)
 |_,_=>False
def vT(M:List (Nat×Mem))(κ k:Nat):Option Mem:=
 match Nat.blt k κ with
 |true=>zH M k
 |false=>none
def zla(d:Option Tmp)(nt:Nat)(K:Prop):Prop:=
 match d with
 |some d=>zJ (Nat.blt d nt) K
 |none=>K
def zcs:Op->Bool
 |.load _ _=>true
 |.store _ _ _=>true
 |.slice _ _ _ _ _=>true
 |.indexAddr _ _ _=>true
 |.mapUpdate _ _ _ _=>true
 |.insert _ _ _ _=>true
 |.lookup _ _ _ _=>true
 |.call _=>true
 |_=>false
def zwT:Op->Bool
 |.call c=>(match c.callee with
  |.builtin .append=>true
  |.builtin .copy=>true
  |_=>false)
 |_=>false
def isW:Op->Bool
 |.store _ _ _=>true
 |.mapUpdate _ _ _ _=>true
 |.insert _ _ _ _=>true
 |o=>zwT o
def zcH:Op->Bool
 |.store _ _ _=>true
 |.alloc _=>true
 |.box _ _=>true
 |.buildSlice _ _ _=>true
 |.makeSlice _ _ _=>true
 |.makeMap _ _=>true
 |.mapUpdate _ _ _ _=>true
 |.insert _ _ _ _=>true
 |o=>zwT o
def zq4(acc:List Nat)(o:Oper):Nat:=o.after.toList.foldl (λs e=>if Region.binds .any e then s|||2^e.on|||acc.getD e.on 0 else s) 0
def zaV(all:List Oper):Nat->List Nat
 |0=>[]
 |j+1=>let acc:=zaV all j;acc++[match all[j]? with|some o=>zq4 acc o|none=>0]
def zcI:List Oper->Nat->Option Tmp
 |[],_=>none
 |o::_,0=>o.dst
 |_::r,n+1=>zcI r n
def zgv:List Operand->List Nat
 |[]=>[]
 |.tmp t::r=>t::zgv r
 |_::r=>zgv r
def zbO(all:List Oper)(o:Oper):List Nat:=
 zgv (kL o.op)++(match o.guard with
  |some (j,_)=>(match zcI all j with
   |some t=>[t]
   |none=>[])
  |none=>[])
def yI(o:Oper):List Nat:=o.dst.toList
def zcJ(a b:List Nat):Bool:=a.any λx=>b.any λy=>Nat.beq x y
def zuF(all:List Oper)(oi oj:Oper):Bool:=
 (zcH oi.op&&zcs oj.op)||(zcs oi.op&&isW oj.op)||zcJ (yI oi) (zbO all oj)||zcJ (yI oi) (yI oj)||zcJ (zbO all oi) (yI oj)
def zh8(ops:List Oper):Bool:=
 (List.range ops.length).all λj=>(match ops[j]? with
  |some o=>o.after.toList.all λe=>!Region.binds .any e||Nat.blt e.on j
  |none=>true)
def uD(ops:List Oper):Bool:=
 let ms:=zaV ops ops.length
 zh8 ops&&(List.range ops.length).all λj=>(List.range j).all λi=>(ms.getD j 0).testBit i||!(match ops[i]?,ops[j]? with
  |some oi,some oj=>zuF ops oi oj
  |_,_=>false)
def zmU(ops:List Oper)(i:Nat):Bool:=
 let ms:=zaV ops ops.length
 (List.range ops.length).all λj=>Nat.ble j i||(ms.getD j 0).testBit i||!(match ops[j]? with
  |some oj=>zcs oj.op
  |none=>false)
def mdV(draw:Bool)(all:List Oper)(i κ:Nat)(op:Op)(md:MD)(K:Prop):Prop:=
 match draw with
 |false=>K
 |true=>(match isW op with
  |true=>(match md with
   |.drop _=>False
   |.set k _=>zJ (Nat.blt k κ) K
   |.repl k _=>zJ (Nat.blt k κ) K
   |.give _ _ _=>False
   |_=>K)
  |false=>(match md with
   |.none=>K
   |.push _=>(match zcH op with
    |true=>K
    |false=>Dr (zmU all i=true) K False)
   |_=>False))
def zog(n:Nat):(Nat->Prop)->Prop:=
 Nat.rec (motive:=λ_=>(Nat->Prop)->Prop) (λK=>K 0) (λ_ ih K=>ih λm=>K (m+1)) n
def zeL:∀{n:Nat} {K:Nat->Prop},zog n K->K n
 |0,_,h=>h
 |n+1,_,h=>zeL (n:=n) h
def zmV(l:List SV):(List SV->Prop)->Prop:=
 List.rec (motive:=λ_=>(List SV->Prop)->Prop) (λK=>K []) (λc _ ih K=>ih λr=>K (c::r)) l
def zaW:∀{l:List SV} {K:List SV->Prop},zmV l K->K l
 |[],_,h=>h
 |c::l,K,h=>zaW (l:=l) (K:=λr=>K (c::r)) h
def zmW(s:SV)(K:SV->Prop):Prop:=
 match s with
 |.agg cs=>zmV cs λcs=>K (.agg cs)
 |s=>K s
def zcK{s:SV}{K:SV->Prop}(h:zmW s K):K s:=by
 unfold zmW at h
 split at h
 ·exact zaW (K:=λcs=>K (.agg cs)) h
 exact h
def zmX(md:MD)(K:MD->Prop):Prop:=
 match md with
 |.push m=>(match m with
  |.box T cs=>zmV cs λcs=>K (.push (.box T cs))
  |m=>K (.push m))
 |.set k m=>(match m with
  |.box T cs=>zmV cs λcs=>K (.set k (.box T cs))
  |m=>K (.set k m))
 |md=>K md
def zcL{md:MD}{K:MD->Prop}(h:zmX md K):K md:=by
 unfold zmX at h
 split at h
 ·split at h
  ·rename_i T cs;exact zaW (K:=λcs=>K (.push (.box T cs))) h
  exact h
 ·rename_i k _;split at h
  ·rename_i T cs;exact zaW (K:=λcs=>K (.set k (.box T cs))) h
  exact h
 exact h
def St.withK(σ:St)(κ:Nat):St:=⟨σ.L,σ.M,κ,σ.nt,σ.n0⟩
def zcM(P:Program)(Γ:List (TypeId×TI))(draw:Bool)(all:List Oper)(i:Nat)(o:Oper)(σ:St)(K:St->Prop):Prop:=
 zog σ.nk λκ=>evs σ.L (kL o.op) λsvs=>opV P Γ o.op svs (vT σ.M κ) κ λs md=>zmW s λs=>zmX md λmd=>mdV draw all i κ o.op md (zla o.dst σ.nt (K ((σ.withK κ).app o.dst s md)))
def vK(o:Oper)(σ:St)(K:St->Prop):Prop:=zla o.dst σ.nt (K (σ.app o.dst (.val undef) .none))
def uu(P:Program)(Γ:List (TypeId×TI))(draw:Bool)(all:List Oper)(l:List Oper):Nat->St->(St->Prop)->Prop:=
 List.rec (motive:=λ_=>Nat->St->(St->Prop)->Prop) (λ_ σ K=>K σ) (λo _ ih i σ K=>match o.guard with
  |none=>zcM P Γ draw all i o σ λσ=>ih (i+1) σ K
  |some (j,want)=>(match zcI all j with
   |none=>False
   |some t=>(match z6 σ.L t with
    |some (.val (.bool true))=>(match want with
     |true=>zcM P Γ draw all i o σ λσ=>ih (i+1) σ K
     |false=>vK o σ λσ=>ih (i+1) σ K)
    |some (.val (.bool false))=>(match want with
     |false=>zcM P Γ draw all i o σ λσ=>ih (i+1) σ K
     |true=>vK o σ λσ=>ih (i+1) σ K)
    |some (.pr p _)=>(match want with
     |true=>Br (p->zcM P Γ draw all i o (σ.put (some t) (.val (.bool true))) λσ=>ih (i+1) σ K)
       (¬p->vK o (σ.put (some t) (.val (.bool false))) λσ=>ih (i+1) σ K)
     |false=>Br (p->vK o (σ.put (some t) (.val (.bool true))) λσ=>ih (i+1) σ K)
       (¬p->zcM P Γ draw all i o (σ.put (some t) (.val (.bool false))) λσ=>ih (i+1) σ K))
    |some (.val (.tuple _))=>vK o σ λσ=>ih (i+1) σ K
    |_=>False))) l
def zC6:SV->List Nat
 |.loc k _=>[k]
 |.own k=>[k]
 |.eloc k _ _ _=>[k]
 |.win k _ _ _=>[k]
 |_=>[]
def zcN:List SV->List Nat
 |[]=>[]
 |c::cs=>zC6 c++zcN cs
def ziD:List SV->Bool
 |[]=>true
 |c::cs=>(match c with
  |.val _=>ziD cs
  |.pr _ _=>ziD cs
  |.sl _ _=>ziD cs
  |_=>false)
def zgw:List SV->Bool
 |[]=>true
 |c::cs=>(match c with
  |.val _=>zgw cs
  |.pr _ _=>zgw cs
  |.sl _ _=>zgw cs
  |.agg xs=>(match ziD xs with
   |true=>zgw cs
   |false=>false)
  |.fn _ xs=>(match ziD xs with
   |true=>zgw cs
   |false=>false)
  |_=>false)
def zoh(op:Op)(svs:List SV):Option (List Nat):=
 match op with
 |.call c=>(match c.callee with
  |.builtin _=>some (zcN svs)
  |_=>(match zgw svs with
   |true=>some []
   |false=>none))
 |.store _ _ _=>(match svs with
  |s::_=>some (zC6 s)
  |[]=>some [])
 |.load _ _=>some (zcN svs)
 |.slice _ _ _ _ _=>some (zcN svs)
 |.indexAddr _ _ _=>some (zcN svs)
 |.mapUpdate _ _ _ _=>some (zcN svs)
 |.insert _ _ _ _=>some (zcN svs)
 |.lookup _ _ _ _=>some (zcN svs)
 |_=>some []
structure Ent where
 u:Option (List Nat)
 nk:Nat
 t:List Nat
def zeb(k:Nat):List Nat->Bool
 |[]=>false
 |x::r=>match Nat.beq x k with
  |true=>true
  |false=>zeb k r
def zct(u:Option (List Nat))(nk k:Nat):Bool:=
 match u with
 |none=>Nat.blt k nk
 |some l=>zeb k l
def lmU(u:Option (List Nat))(nk:Nat)(lm:Nat->Option Mem)(k:Nat):Option Mem:=
 match zct u nk k with
 |true=>lm k
 |false=>none
def zq5(κ:Nat):Nat->List Nat
 |0=>[]
 |n+1=>(κ+n)::zq5 κ n
def zgx(κ:Nat):MD->List Nat
 |.none=>[]
 |.push _=>[κ]
 |.set k _=>[k]
 |.drop k=>[k]
 |.repl k _=>[k,κ]
 |.give ks _ nn=>ks++zq5 κ nn
def zsQ(e:Ent):List Nat->Bool
 |[]=>false
 |k::r=>match zct e.u e.nk k with
  |true=>true
  |false=>match zeb k e.t with
   |true=>true
   |false=>zsQ e r
def zsR(x:Ent):List Nat->Bool
 |[]=>false
 |k::r=>match zct x.u x.nk k with
  |true=>true
  |false=>zsR x r
def zoi(x e:Ent):Bool:=
 match zsQ e x.t with
 |true=>true
 |false=>zsR x e.t
def prOK(m:Nat)(e:Ent):List Ent->Bool
 |[]=>true
 |x::r=>(m.testBit r.length||!zoi x e)&&prOK m e r
def ziE(ms:List Nat):List Ent->Bool
 |[]=>true
 |e::r=>prOK (ms.getD r.length 0) e r&&ziE ms r
def ziF(all:List Oper)(oi oj:Oper):Bool:=
 zcJ (yI oi) (zbO all oj)||zcJ (yI oi) (yI oj)||zcJ (zbO all oi) (yI oj)
def zeM(ops:List Oper):Bool:=
 let ms:=zaV ops ops.length
 zh8 ops&&(List.range ops.length).all λj=>(List.range j).all λi=>(ms.getD j 0).testBit i||!(match ops[i]?,ops[j]? with
  |some oi,some oj=>ziF ops oi oj
  |_,_=>false)
def mdD(κ:Nat)(md:MD)(K:Prop):Prop:=
 match md with
 |.drop k=>zJ (Nat.blt k κ) K
 |.set k _=>zJ (Nat.blt k κ) K
 |.repl k _=>zJ (Nat.blt k κ) K
 |.give ks new nn=>zJ (jN (zqZ ks κ nn new) (zeH new κ nn)) K
 |_=>K
def zaX(P:Program)(Γ:List (TypeId×TI))(o:Oper)(σ:St)(K:Ent->St->Prop):Prop:=
 zog σ.nk λκ=>evs σ.L (kL o.op) λsvs=>opV P Γ o.op svs (lmU (zoh o.op svs) κ (vT σ.M κ)) κ λs md=>zmW s λs=>zmX md λmd=>mdD κ md (zla o.dst σ.nt (K ⟨zoh o.op svs,κ,zgx κ md⟩ ((σ.withK κ).app o.dst s md)))
def zlb:Ent:=⟨some [],0,[]⟩
def zak(P:Program)(Γ:List (TypeId×TI))(all:List Oper)(l:List Oper):Nat->List Ent->St->(St->Prop)->Prop:=
 List.rec (motive:=λ_=>Nat->List Ent->St->(St->Prop)->Prop) (λ_ acc σ K=>Ob (ziE (zaV all all.length) acc=true) (K σ)) (λo _ ih i acc σ K=>match o.guard with
  |none=>zaX P Γ o σ λe σ=>ih (i+1) (e::acc) σ K
  |some (j,want)=>(match zcI all j with
   |none=>False
   |some t=>(match z6 σ.L t with
    |some (.val (.bool true))=>(match want with
     |true=>zaX P Γ o σ λe σ=>ih (i+1) (e::acc) σ K
     |false=>vK o σ λσ=>ih (i+1) (zlb::acc) σ K)
    |some (.val (.bool false))=>(match want with
     |false=>zaX P Γ o σ λe σ=>ih (i+1) (e::acc) σ K
     |true=>vK o σ λσ=>ih (i+1) (zlb::acc) σ K)
    |some (.pr p _)=>(match want with
     |true=>Br (p->zaX P Γ o (σ.put (some t) (.val (.bool true))) λe σ=>ih (i+1) (e::acc) σ K)
       (¬p->vK o (σ.put (some t) (.val (.bool false))) λσ=>ih (i+1) (zlb::acc) σ K)
     |false=>Br (p->vK o (σ.put (some t) (.val (.bool true))) λσ=>ih (i+1) (zlb::acc) σ K)
       (¬p->zaX P Γ o (σ.put (some t) (.val (.bool false))) λe σ=>ih (i+1) (e::acc) σ K))
    |some (.val (.tuple _))=>vK o σ λσ=>ih (i+1) (zlb::acc) σ K
    |_=>False))) l
inductive Ex
 |normal
 |exit (id:Nat)
 |ret
def Sub(σ σ':St):Prop:=∀(E:Env) ρ a w,Rel E σ ρ a w->∃ρ',Rel E σ' ρ' a w
def qS(P:Program)(Γ:List (TypeId×TI))(c:Code):St->(Ex->St->Prop)->Prop:=
 Code.rec (motive:=λ_=>St->(Ex->St->Prop)->Prop)
  (λσ Q=>Q .normal σ)
  (λ_ ops draw σ Q=>match draw with
   |false=>uu P Γ false ops.toList ops.toList 0 σ (Q .normal)
   |true=>Dr (uD ops.toList=true) (uu P Γ true ops.toList ops.toList 0 σ (Q .normal))
     (Ob (zeM ops.toList=true) (zak P Γ ops.toList ops.toList 0 [] σ (Q .normal))))
  (λ_ _ ha hb σ Q=>ha σ λe σ=>(match e with
   |.normal=>hb σ Q
   |.exit id=>Q (.exit id) σ
   |.ret=>Q .ret σ))
  (λc _ _ hx hy σ Q=>ev σ.L c λc=>(match c with
   |.val (.bool true)=>hx σ Q
   |.val (.bool false)=>hy σ Q
   |.pr p _=>Br (p->hx σ Q) (¬p->hy σ Q)
   |.anyb=>Br (hx σ Q) (hy σ Q)
   |_=>False))
  (λid _ hc σ Q=>hc σ λe σ=>(match e with
   |.normal=>Q .normal σ
   |.exit j=>(match Nat.beq j id with
    |true=>Q .normal σ
    |false=>Q (.exit j) σ)
   |.ret=>Q .ret σ))
  (λ_ hc σ Q=>∃(ι:Type) (S:ι->St) (I:ι->Prop) (μ:ι->Nat) (x0:ι),I x0/\Sub σ (S x0)/\
   ∀x,I x->hc (S x) λe σ'=>(match e with
    |.normal=>∃x',I x'/\Sub σ' (S x')/\μ x'<μ x
    |.exit id=>Q (.exit id) σ'
    |.ret=>Q .ret σ'))
  (λ_ _ _ _ _ _ _ _=>False)
  (λid σ Q=>Q (.exit id) σ)
  (λ_ hc σ Q=>hc σ Q)
  (λ_ σ Q=>Q .normal σ)
  (λ_ _ _=>False)
  (λσ Q=>Q .ret σ)
  (λ_ _ _=>False)
  c
def zq6(σ:St)(Γ:List (TypeId×TI))(x:ResultVar)(K:SV->Prop):Prop:=
 match x with
 |.tmp t=>(match z6 σ.L t with
  |some s=>uW s λs=>K s
  |none=>False)
 |.cell a t=>kz Γ t λi=>(match z6 σ.L a with
  |some (.loc k off)=>(match zH σ.M k with
   |some (.box _ cs)=>zJ (Nat.ble (off+i.sz) cs.length) (mkV i.kind.agg i.sz (cs.drop off) λs=>K s)
   |_=>False)
  |_=>False)
def zwU(σ:St)(Γ:List (TypeId×TI))(xs:List ResultVar):(List SV->Prop)->Prop:=
 List.rec (motive:=λ_=>(List SV->Prop)->Prop) (λK=>K []) (λx _ ih K=>zq6 σ Γ x λs=>ih λl=>K (s::l)) xs
def zal(σ:St)(Γ:List (TypeId×TI))(rs:List ResultVar)(K:SV->Prop):Prop:=
 zwU σ Γ rs λl=>match l with
  |[s]=>K s
  |l=>K (.tup l)
def qI:Nat->List SV->List (Nat×SV)
 |_,[]=>[]
 |n,a::r=>(n,a)::qI (n+1) r
def zlc(lm:Nat->Option Mem)(s:SV):SV:=
 match s with
 |.tup cs=>.tup (zmQ lm cs)
 |s=>zhm lm s
def endV(Γ:List (TypeId×TI))(rs:List ResultVar)(r:SV)(e:Ex)(σ:St):Prop:=
 match e with
 |.exit _=>False
 |_=>zal σ Γ rs λs=>LE (zlc (zH σ.M) s) r
inductive zbd (k:Option Nat):SV->SV->Prop
 |own (k':Nat) (h:k=some k'):zbd k (.own k') (.own 0)
 |loc (k' off:Nat) (h:k=some k'):zbd k (.loc k' off) (.loc 0 off)
 |nil (h:k=none):zbd k (.val (.slice none 0 0)) (.own 0)
 |le (s r:SV) (h:LE s r) (hf:jw r=true):zbd k s r
 |junk (s:SV):zbd k s .junk
 |agg (cs ds:List SV) (hl:cs.length=ds.length) (h:∀(j:Nat) (s r:SV),cs[j]?=some s->ds[j]?=some r->zbd k s r):zbd k (.agg cs) (.agg ds)
 |tup (cs ds:List SV) (hl:cs.length=ds.length) (h:∀(j:Nat) (s r:SV),cs[j]?=some s->ds[j]?=some r->zbd k s r):zbd k (.tup cs) (.tup ds)
 |fn (f:FuncId) (cs ds:List SV) (hl:cs.length=ds.length) (h:∀(j:Nat) (s r:SV),cs[j]?=some s->ds[j]?=some r->zbd k s r):zbd k (.fn f cs) (.fn f ds)
def zC7(M:List (Nat×Mem))(k:Option Nat)(m:Mem):Prop:=
 match k with
 |some k=>zH M k=some m/\zfg m
 |none=>(match m with
  |.arr _ _ _ xs=>xs=[]
  |_=>False)
def zq7(Γ:List (TypeId×TI))(rs:List ResultVar)(r:SV)(m:Mem)(e:Ex)(σ:St):Prop:=
 match e with
 |.exit _=>False
 |_=>zal σ Γ rs λs=>∃k,zbd k s r/\zC7 σ.M k m
def zDN(Γ:List (TypeId×TI))(rs:List ResultVar)(r:SV)(m:Mem)(e:Ex)(σ:St):Prop:=
 match e with
 |.exit _=>False
 |_=>zal σ Γ rs λs=>(zH σ.M 0=some m/\LE s r)
def zgy{w:World}{b o:Nat}(h:w'.heap[b]?=w.heap[b]?):w'.cell? ⟨b,o,none⟩=w.cell? ⟨b,o,none⟩:=by
 simp only[World.cell?,h]
def D.mono{S S':Nat->Prop}{w:World}(hz:w.heap.size<=w'.heap.size)(hS:∀b,b<w.heap.size->¬S b->¬S' b/\w'.heap[b]?=w.heap[b]?){s:SV}{v:Value}(h:D S w s v):D S' w' s v:=by
 induction h with
 |val v=>exact .val v
 |pr p i=>exact .pr p i
 |agg cs vs hl h ih=>exact .agg cs vs hl ih
 |nil enc a=>exact .nil enc a
 |nils a=>exact .nils a
 |anyb b=>exact .anyb b
 |junk v=>exact .junk v
 |full enc xs a h ih=>exact .full enc xs a ih
 |sl enc xs sz b o cap c hb hS' hlen hcap hsz hc h ih=>
  obtain⟨h1,h2⟩:=hS b hb hS';exact .sl enc xs sz b o cap c (Xy hb hz) h1 hlen hcap hsz (λi j hi hj=>by rw[zgy h2];exact hc i j hi hj) ih
 |dptr cs b o c hb hS' hc h ih=>
  obtain⟨h1,h2⟩:=hS b hb hS';exact .dptr cs b o c (Xy hb hz) h1 (λj hj=>by rw[zgy h2];exact hc j hj) ih
 |dfn f cs vs hl h ih=>exact .dfn f cs vs hl ih
 |bm f cs vs hl h ih=>exact .bm f cs vs hl ih
 |op v h=>exact .op v h
 |ifc t s v h ih=>exact .ifc t s v ih
def G.mono{S S' Pm Pm':Nat->Prop}{ρ ρ':ze}{w w':World}(hz:w.heap.size<=w'.heap.size)(hS:∀b,b<w.heap.size->¬S b->¬S' b/\w'.heap[b]?=w.heap[b]?)(hP:∀b,b<w.heap.size->¬Pm b->¬Pm' b/\w'.heap[b]?=w.heap[b]?)(hρ:∀k v,ρ k=some v->ρ' k=some v){s:SV}{v:Value}(h:G S Pm ρ w s v):G S' Pm' ρ' w' s v:=by
 induction h with
 |d s v h=>exact .d s v (h.mono hz hS)
 |loc k off b h=>exact .loc k off b (hρ _ _ h)
 |own k v h h1=>exact .own k v (hρ _ _ h) h1
 |eloc k sz i off b len cap h=>exact .eloc k sz i off b len cap (hρ _ _ h)
 |win k sz lo n b len cap cap' h h1 h2=>exact .win k sz lo n b len cap cap' (hρ _ _ h) h1 h2
 |ptr cs b o c hb hP' hc h=>
  obtain⟨h1,h2⟩:=hP b hb hP';exact .ptr cs b o c (Xy hb hz) h1 (λj hj=>by rw[zgy h2];exact hc j hj) (λj s hs=>(h j s hs).mono hz hS)
 |agg cs vs hl h ih=>exact .agg cs vs hl ih
 |tup cs vs hl h ih=>exact .tup cs vs hl ih
 |fn f cs vs hl h ih=>exact .fn f cs vs hl ih
 |ifc t s v h ih=>exact .ifc t s v ih
def kr.refl(w:World):kr w w:=⟨rfl,λ_=>rfl⟩
def kr.trans{w w' w'':World}(h:kr w w')(k:kr w' w''):kr w w'':=⟨k.1.trans h.1,λa=>(k.2 a).trans (h.2 a)⟩
def kr.cells(w:World)(c:Array Value)(t:TypeId):kr w (w.alloc (.cells c t)):=⟨rfl,λa=>RowKit.frozen?_alloc_cells w c t a⟩
def kr.setRow(w:World)(g:Nat)(cs:Array Value):kr w (w.setRow g cs):=⟨rfl,λa=>by
 show World.frozen? { w with heap:=w.heap.modify g _ } a=_;unfold World.frozen?;simp only[Js]
 by_cases h:g=a.block
 ·simp only[h,if_true]
  cases w.heap[a.block]? with
  |none=>rfl
  |some o=>cases o <;> rfl
 simp only[h,if_false]⟩
def Stp.refl{W:Nat->Prop}{ρ:ze}{w:World}:Stp W W ρ ρ w w:=⟨rfl,rfl,.refl _,Xi _,λ_ _ _=>rfl,λ_ h=>.inl h,λ_ _ h=>h⟩
def Stp.trans{W W' W'':Nat->Prop}{ρ ρ' ρ'':ze}{w w' w'':World}(h:Stp W W' ρ ρ' w w')(k:Stp W' W'' ρ' ρ'' w' w''):Stp W W'' ρ ρ'' w w'':=
 ⟨k.os.trans h.os,k.tape.trans h.tape,h.output.trans k.output,XE h.size k.size,
  λb hb hn=>(k.block b (Xy hb h.size) (λhw=>(h.own b hw).elim hn (λh2=>by omega))).trans (h.block b hb hn),
  λb hb=>(k.own b hb).elim (h.own b) (λh2=>.inr (XE h.size h2)),λk' v hv=>k.rho _ _ (h.rho _ _ hv)⟩
variable{W:Nat->Prop}{W':Nat->Prop}
def G.stp{w:World}(h:Stp W W' ρ ρ' w w'){s:SV}{v:Value}(hg:G (λb=>Keep b∨W b) W ρ w s v):G (λb=>Keep b∨W' b) W' ρ' w' s v:=
 hg.mono h.size (λb hb hn=>⟨λhw=>hw.elim (λhk=>hn (.inl hk)) (λhw=>(h.own b hw).elim (λh1=>hn (.inr h1)) (λh2=>by omega)),h.block b hb (λhw=>hn (.inr hw))⟩)
  (λb hb hn=>⟨λhw=>(h.own b hw).elim hn (λh2=>by omega),h.block b hb hn⟩) h.rho
def D.stp{w:World}(h:Stp W W' ρ ρ' w w'){s:SV}{v:Value}(hg:D (λb=>Keep b∨W b) w s v):D (λb=>Keep b∨W' b) w' s v:=
 hg.mono h.size (λb hb hn=>⟨λhw=>hw.elim (λhk=>hn (.inl hk)) (λhw=>(h.own b hw).elim (λh1=>hn (.inr h1)) (λh2=>by omega)),h.block b hb (λhw=>hn (.inr hw))⟩)
def qk(P:Program)(o:Oper)(a:Act)(w:World)(R:Value->World->Prop):Prop:=
 o.wp P a w (λa' w'=>∃v,a'=a.put o.dst v/\R v w') (λ_ _ _=>False)
def qk.value{P:Program}{o:Oper}{a:Act}{w w':World}{R:Value->World->Prop}{v:Value}(h:(execOp a.eval o).run P w=.ok (.value v) w')(hr:R v w'):qk P o a w R:=by
 unfold qk Oper.wp;rw[h];exact⟨v,rfl,hr⟩
def qk.skip{P:Program}{o:Oper}{a:Act}{w w':World}{R:Value->World->Prop}(h:(execOp a.eval o).run P w=.ok .skip w')(hr:R undef w'):qk P o a w R:=by
 unfold qk Oper.wp;rw[h];exact⟨undef,rfl,hr⟩
def qk.call{P:Program}{o:Oper}{a:Act}{w:World}{R:Value->World->Prop}{f:FuncId}{args:Array Value}(h:(execOp a.eval o).run P w=.ok (.enter f args) w')(hc:Calls P f args w' λe w''=>∃v,e=.returned v/\R v w''):qk P o a w R:=by
 unfold qk Oper.wp;rw[h];refine hc.mono ?_
 rintro e w'' ⟨v,rfl,hr⟩
 exact⟨v,rfl,hr⟩
def qk.wp{P:Program}{o:Oper}{a:Act}{w:World}{R:Value->World->Prop}{K:Act->World->Prop}{Q:Exit->Act->World->Prop}(h:qk P o a w R)(hk:∀v w',R v w'->K (a.put o.dst v) w'):o.wp P a w K Q:=by
 unfold qk Oper.wp at*;generalize (execOp a.eval o).run P w=r at*
 cases r with
 |ok n w'=>
  cases n <;> simp only[Oper.upon]at h ⊢
  case value v=>obtain⟨u,e,hr⟩:=h;rw[e];exact hk u w' hr
  case skip=>obtain⟨u,e,hr⟩:=h;rw[e];exact hk u w' hr
  case defer d=>obtain⟨u,e,hr⟩:=h;rw[e];exact hk u w' hr
  case enter f args=>
   refine Calls.mono h λe w'' he=>?_
   cases e with
   |returned v=>obtain⟨u,e,hr⟩:=he;show K (a.put o.dst v) w'';rw[e];exact hk u w'' hr
   |panicked c=>exact he.elim
   |outgrown=>obtain⟨_,_,hf⟩:=he;exact hf.elim
  case row row args=>
   exact Rows.mono h (λv w' ⟨u,e,hr⟩=>by show K (a.put o.dst v) w';rw[e];exact hk u w' hr)
 |halt x w'=>cases x <;> simp only[Oper.upon]at h
def kG(Keep:Nat->Prop)(M:List (Nat×Mem))(ρ:ze)(w:World)(κ:Nat)(s:SV)(md:MD)(v:Value)(w':World):Prop:=
 ∃ρ',Stp (Own M ρ) (Own (zcy M κ md) ρ') ρ ρ' w w'/\zB Keep (zcy M κ md) ρ' w'/\
  G (λb=>Keep b∨Own (zcy M κ md) ρ' b) (Own (zcy M κ md) ρ') ρ' w' s v/\∀k,(k<κ∨za8 κ md<=k)->ρ' k=ρ k
def zwV:MD->Bool
 |.push _=>true
 |.repl _ _=>true
 |_=>false
def ya(P:Program)(op:Op)(svs:List SV)(lm:Nat->Option Mem)(κ:Nat)(s:SV)(md:MD):Prop:=
 ∀(o:Oper),o.op=op->∀(Keep:Nat->Prop) (M:List (Nat×Mem)) (ρ:ze) (a:Act) (w:World),
  (∀k m,lm k=some m->zH M k=some m)->zB Keep M ρ w->(∀k,κ<=k->k<za8 κ md->ρ k=none)->(zwV md=true->∀m,(κ,m)∉M)->
  Gs (λb=>Keep b∨Own M ρ b) (Own M ρ) ρ w svs ((kL op).map a.eval)->qk P o a w (kG Keep M ρ w κ s md)
def zn{k:Nat}{m:Mem}(h:zH M k=some m):(k,m)∈M:=by
 induction M with
 |nil=>simp[zH]at h
 |cons x r ih=>
  obtain⟨k',m'⟩:=x;simp only[zH]at h
  split at h
  ·rename_i hb;have:=Xh hb
   cases h;subst this;exact .head _
  exact .tail _ (ih h)
def kG.same{Keep:Nat->Prop}{M:List (Nat×Mem)}{ρ:ze}{w:World}{κ:Nat}{s:SV}{v:Value}(hm:zB Keep M ρ w)(hg:G (λb=>Keep b∨Own M ρ b) (Own M ρ) ρ w s v):kG Keep M ρ w κ s .none v w:=
 ⟨ρ,.refl,hm,hg,λ_ _=>rfl⟩
def aR{T n}{α:Type}{e:α->List SV}{x y:List α}(h:x=y):some (Mem.arr T e n x)=some (Mem.arr T e n y):=h ▸ rfl
def bR{T}{α:Type}(f:α->List SV){x y:α}(h:x=y):some (Mem.box T (f x))=some (Mem.box T (f y)):=h ▸ rfl
def wh{p q:Prop}(k:q)(h:p:=by kernel_rfl):Ob p q:=.mk h k
abbrev LS:=List (TypeId×TI)
abbrev LT:=List (Nat×Mem)
abbrev LP:=List (Nat×SV)
abbrev LM:=List (List SV)
abbrev LQ:=List SV
abbrev LU:=List Int
abbrev LZ:=List Value
abbrev LB:=List Nat
abbrev LC:=Exit->Act->World->Prop
abbrev LD:=Act->World->Prop
abbrev LF:=Ex->St->Prop
abbrev LG:=Nat->Prop
abbrev LH:=Nat->Option Mem
abbrev LI:=Option Nat
end Go.Gs
