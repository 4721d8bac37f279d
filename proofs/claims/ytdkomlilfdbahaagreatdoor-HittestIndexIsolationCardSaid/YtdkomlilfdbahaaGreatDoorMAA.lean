/- The definitions of an abstract run: symbolic values, the abstract state, the conditions that one operation, one region and one piece of code leave to be shown. -/
import Derived.KernelRfl
import Derived.Test.YtdkomlilfdbahaaGreatDoorMA
import Derived.Orders
import Derived.Below
import Derived.Laws.AppendOwn
set_option maxRecDepth 100000
set_option maxHeartbeats 80000000
set_option linter.all false
namespace Go.Gs
inductive SV:Type 1
 |val (v:Value)
 |pr (p:Prop) (i:Decidable p)
 |agg (cs:List SV)
 |sl {α:Type} (enc:α->List SV) (xs:List α)
 |ptr (cs:List SV)
 |loc (k off:Nat)
 |own (k:Nat)
 |eloc (k sz:Nat) (i:Int) (off:Nat)
 |win (k sz:Nat) (lo n:Int)
 |fn (f:FuncId) (caps:List SV)
 |tup (vs:List SV)
 |junk
 |nils
 |anyb
 |full {α:Type} (enc:α->List SV) (xs:List α)
 |dptr (cs:List SV)
 |dfn (f:FuncId) (caps:List SV)
 |ifc (t:TypeId) (s:SV)
 |bm (f:FuncId) (first:List SV)
 |op (v:Value)
inductive Mem:Type 1
 |box (T:TypeId) (cs:List SV)
 |arr (T:TypeId) {α:Type} (enc:α->List SV) (sz:Nat) (xs:List α)
 |garr (T:TypeId) (sz:Nat) (xs:List (List SV))
 |map (es:List (Int×SV))
structure St:Type 1 where
 L:List (Nat×SV)
 M:List (Nat×Mem)
 nk:Nat
 nt:Nat
 n0:Nat
inductive MD:Type 1
 |none
 |push (m:Mem)
 |set (k:Nat) (m:Mem)
 |drop (k:Nat)
 |repl (k:Nat) (m:Mem)
 |give (ks:List Nat) (new:List (Nat×Mem)) (nn:Nat)
def kw:List (Nat×SV)->Nat->Option SV
 |[],_=>none
 |(k,s)::r,t=>match Nat.beq k t with
  |true=>some s
  |false=>kw r t
def zO:List (Nat×Mem)->Nat->Option Mem
 |[],_=>none
 |(k,s)::r,t=>match Nat.beq k t with
  |true=>some s
  |false=>zO r t
def k9:List (Nat×Mem)->Nat->List (Nat×Mem)
 |[],_=>[]
 |(k,s)::r,t=>match Nat.beq k t with
  |true=>r
  |false=>(k,s)::k9 r t
def qL:List (Nat×Mem)->Nat->Mem->List (Nat×Mem)
 |[],_,_=>[]
 |(k,s)::r,t,m=>match Nat.beq k t with
  |true=>(k,m)::r
  |false=>(k,s)::qL r t m
inductive TK
 |int (k:IntKind)
 |bool
 |str
 |ptr (t:TypeId)
 |slice (e:TypeId)
 |struct (fs:List (Nat×TypeId))
 |arr (n:Nat) (e:TypeId)
 |map (k e:TypeId)
 |iface
 |other
structure TI where
 kind:TK
 sz:Nat
 bytes:Nat
 zero:List Value
 cmp:Bool
def TK.agg:TK->Bool
 |.struct _=>true
 |.arr _ _=>true
 |_=>false
def ti:List (TypeId×TI)->TypeId->Option TI
 |[],_=>none
 |(k,s)::r,t=>match Nat.beq k t with
  |true=>some s
  |false=>ti r t
structure Ob (p q:Prop):Prop where
 ob:p
 go:q
structure Br (p q:Prop):Prop where
 yes:p
 no:q
inductive Dr (p q r:Prop):Prop
 |mk (ord:p) (go:q)
 |dyn (h:r)
inductive Ar (p q r:Prop):Prop
 |fit (h:p) (k:q)
 |wrap (k:r)
inductive Dv (p q p' q':Prop):Prop
 |pos (h:p) (k:q)
 |any (h:p') (k:q')
variable{p:Prop}{q:Prop}{r:Prop}
def wa(k:q)(h:p:=by omega):Ar p q r:=.fit h k
def wb(k:q)(h:p:=by omega):Ob p q:=.mk h k
def wc{p q r:Prop}(k:q)(h:p:=by decide +kernel):Dr p q r:=.mk h k
def wd{p q s t:Prop}(k:t)(h:s:=by decide +kernel):Dr p q (Ob s t):=.dyn (.mk h k)
def we(k:q)(h:p:=by decide):Br (p->q) (¬p->r):=⟨λ_=>k,λn=>absurd h n⟩
def wb0(k:q)(h:p:=by exact⟨rfl,dC,dC,dC,λ_ _=>⟨rfl,rfl,rfl⟩⟩):Ob p q:=.mk h k
def wb1(k:q)(h:p:=by decide):Ob p q:=.mk h k
def wb2(k:q)(h:p:=by exact⟨rfl,dC,dC,dC,λx a=>by cases a⟩):Ob p q:=.mk h k
def wb3(k:q)(h:p:=by exact⟨rfl,dC,dC,dC,λx a=>by rw[Xt.1 a];exact⟨rfl,rfl,rfl⟩⟩):Ob p q:=.mk h k
def wb4(k:q)(h:p:=by exact⟨(by show _*(16:Int)<=_;simp only[Xm,Xo];omega),(by simp only[Xm,Xo];omega),dC,λ_ _=>rfl⟩):Ob p q:=.mk h k
def wb5(k:q)(h:p:=by exact⟨oM,oM⟩):Ob p q:=.mk h k
def wb6(k:q)(h:p:=by exact⟨oM,oM,oM⟩):Ob p q:=.mk h k
def wb7(k:q)(h:p:=by exact⟨dC,oM,oM,(by show _*(4:Int)<=_;omega),oM⟩):Ob p q:=.mk h k
def wb8(k:q)(h:p:=by exact⟨rfl,dC,dC,dC,λx a=>by rw[Xt.1 a];rfl⟩):Ob p q:=.mk h k
def wb9(k:q)(h:p:=by exact⟨by show((2:Nat)+((1:Nat):Int))*16<=_;decide,by show 2+1<=_;decide,dC,λ_ _=>rfl⟩):Ob p q:=.mk h k
def wb10(k:q)(h:p:=by exact⟨oM,by show _<((256:Nat):Int);omega⟩):Ob p q:=.mk h k
def wb11(k:q)(h:p:=by (try dsimp only);omega):Ob p q:=.mk h k
def wb12(k:q)(h:p:=by show _/\_<(64:Int);omega):Ob p q:=.mk h k
def wb13(k:q)(h:p:=by exact⟨rfl,dC,λ_ _=>rfl⟩):Ob p q:=.mk h k
def wb14(k:q)(h:p:=by exact⟨(by show _*(24:Int)<=_;simp only[Xm,Xo];omega),(by simp only[Xm,Xo];omega),dC,λ_ _=>rfl⟩):Ob p q:=.mk h k
def wb15(k:q)(h:p:=by exact⟨(by show _*(16:Int)<=_;simp only[Xp,Xm,Xo];omega),(by simp only[Xp,Xm,Xo];omega),dC,λ_ _=>rfl⟩):Ob p q:=.mk h k
def wb16(k:q)(h:p:=by exact⟨rfl,dC,dC,dC,λx a=>⟨rfl,rfl,rfl⟩⟩):Ob p q:=.mk h k
def wb17(k:q)(h:p:=by exact⟨(by show _*(16:Int)<=_;simp only[Xo];omega),(by simp only[Xo];omega),dC,λ_ _=>rfl⟩):Ob p q:=.mk h k
def wb18(k:q)(h:p:=by exact⟨(by show((1:Nat):Int)*(16:Int)<=140737488355328;decide),(by show 1<=281474976710656;decide),dC,λ_ _=>rfl⟩):Ob p q:=.mk h k
def wb19(k:q)(h:p:=by exact⟨(by show((1:Nat):Int)*(56:Int)<=140737488355328;decide),(by show 1<=281474976710656;decide),dC,λ_ _=>rfl⟩):Ob p q:=.mk h k
def wb20(k:q)(h:p:=by exact⟨(by show((_:Int)+((1:Nat):Int))*(16:Int)<=_;omega),(by show _+1<=_;omega),dC,λ_ _=>rfl⟩):Ob p q:=.mk h k
def wb21(k:q)(h:p:=by exact⟨(by show((_:Int)+((1:Nat):Int))*(56:Int)<=_;omega),(by show _+1<=_;omega),dC,λ_ _=>rfl⟩):Ob p q:=.mk h k
def wb22(k:q)(h:p:=by exact⟨by show((3:Nat)+((1:Nat):Int))*16<=_;decide,by show 3+1<=_;decide,dC,λ_ _=>rfl⟩):Ob p q:=.mk h k
def wb23(k:q)(h:p:=by exact⟨by ((try dsimp only);omega),by ((try dsimp only);omega),by ((try dsimp only);omega)⟩):Ob p q:=.mk h k
def wb24(k:q)(h:p:=by exact⟨(by show _*(24:Int)<=_;simp only[Xr,Xp,Xm,Xo];omega),(by simp only[Xr,Xp,Xm,Xo];omega),dC,λ_ _=>rfl⟩):Ob p q:=.mk h k
def wb25(k:q)(h:p:=by exact⟨(by show _*(32:Int)<=_;simp only[Xv,Xm,Xo];omega),(by simp only[Xv,Xm,Xo];omega),dC,λx a=>by rw[Xt.1 a];rfl⟩):Ob p q:=.mk h k
def wb26(k:q)(h:p:=by exact⟨(by show _*(32:Int)<=_;omega),oM,dC,λ_ _=>rfl⟩):Ob p q:=.mk h k
def wb27(k:q)(h:p:=by exact⟨by show((1:Nat):Int)*24<=_;decide,by show 1<=_;decide,dC⟩):Ob p q:=.mk h k
def zm2(k:IntKind)(e:Int)(K:SV->Prop):Prop:=
 match k with
 |.i64=>Ar (-9223372036854775808<=e/\e<=9223372036854775807) (K (.val (.int .i64 e))) (K (.val (.int .i64 (IntKind.i64.wrap e))))
 |.i32=>Ar (-2147483648<=e/\e<=2147483647) (K (.val (.int .i32 e))) (K (.val (.int .i32 (IntKind.i32.wrap e))))
 |.i16=>Ar (-32768<=e/\e<=32767) (K (.val (.int .i16 e))) (K (.val (.int .i16 (IntKind.i16.wrap e))))
 |.i8=>Ar (-128<=e/\e<=127) (K (.val (.int .i8 e))) (K (.val (.int .i8 (IntKind.i8.wrap e))))
 |.u64=>Ar (0<=e/\e<=18446744073709551615) (K (.val (.int .u64 e))) (K (.val (.int .u64 (IntKind.u64.wrap e))))
 |.u32=>Ar (0<=e/\e<=4294967295) (K (.val (.int .u32 e))) (K (.val (.int .u32 (IntKind.u32.wrap e))))
 |.u16=>Ar (0<=e/\e<=65535) (K (.val (.int .u16 e))) (K (.val (.int .u16 (IntKind.u16.wrap e))))
 |.u8=>Ar (0<=e/\e<=255) (K (.val (.int .u8 e))) (K (.val (.int .u8 (IntKind.u8.wrap e))))
def kmax:IntKind->Int
 |.i64=>9223372036854775807
 |.i32=>2147483647
 |.i16=>32767
 |.i8=>127
 |.u64=>18446744073709551615
 |.u32=>4294967295
 |.u16=>65535
 |.u8=>255
def vv(s:SV)(K:SV->Prop):Prop:=
 match s with
 |.val v=>(match v with
  |.int k n=>K (.val (.int k n))
  |.bool b=>(match b with|true=>K (.val (.bool true))|false=>K (.val (.bool false)))
  |.slice a l c=>K (.val (.slice a l c))
  |v=>K (.val v))
 |.pr p i=>K (.pr p i)
 |.agg d=>K (.agg d)
 |.sl enc xs=>K (.sl enc xs)
 |.ptr d=>K (.ptr d)
 |.loc k off=>K (.loc k off)
 |.own k=>K (.own k)
 |.eloc k sz i off=>K (.eloc k sz i off)
 |.win k sz lo n=>K (.win k sz lo n)
 |.fn f caps=>K (.fn f caps)
 |.tup vs=>K (.tup vs)
 |.junk=>K .junk
 |.nils=>K .nils
 |.anyb=>K .anyb
 |.full enc xs=>K (.full enc xs)
 |.dptr d=>K (.dptr d)
 |.dfn f d=>K (.dfn f d)
 |.ifc t s=>K (.ifc t s)
 |.bm f d=>K (.bm f d)
 |.op v=>K (.op v)
def ev(L:List (Nat×SV))(x:Operand)(K:SV->Prop):Prop:=
 match x with
 |.tmp t=>(match kw L t with
  |some s=>vv s K
  |none=>False)
 |.const v=>vv (.val v) K
 |.func f=>K (.fn f [])
 |.global _=>False
def evs(L:List (Nat×SV))(xs:List Operand):(List SV->Prop)->Prop:=
 List.rec (motive:=λ_=>(List SV->Prop)->Prop) (λK=>K []) (λx _ a K=>ev L x λs=>a λl=>K (s::l)) xs
def putL(L:List (Nat×SV))(d:Option Tmp)(s:SV):List (Nat×SV):=
 match d with
 |some d=>(d,s)::L
 |none=>L
def jJ(M:List (Nat×Mem)):List Nat->List (Nat×Mem)
 |[]=>M
 |k::r=>jJ (k9 M k) r
def zcV(M:List (Nat×Mem))(Y:Nat):MD->List (Nat×Mem)
 |.none=>M
 |.push m=>(Y,m)::M
 |.set k m=>qL M k m
 |.drop k=>k9 M k
 |.repl k m=>(Y,m)::k9 M k
 |.give ks new _=>new++jJ M ks
def zcc(Y:Nat):MD->Nat
 |.push _=>Y+1
 |.repl _ _=>Y+1
 |.give _ _ nn=>Y+nn
 |_=>Y
def St.app(O:St)(d:Option Tmp)(s:SV)(m:MD):St:=⟨putL O.L d s,zcV O.M O.nk m,zcc O.nk m,O.nt,O.n0⟩
def St.put(O:St)(d:Option Tmp)(s:SV):St:=⟨putL O.L d s,O.M,O.nk,O.nt,O.n0⟩
def kT:SV->List SV
 |.agg a=>a
 |s=>[s]
def vals(l:List Value):List SV:=l.map .val
def vw(a:List SV)(off:Nat)(new:List SV):List SV:=a.take off++new++a.drop (off+new.length)
def mkV(agg:Bool)(sz:Nat)(a:List SV)(K:SV->Prop):Prop:=
 match agg with
 |true=>K (.agg (a.take sz))
 |false=>(match a with
  |c::_=>vv c K
  |[]=>False)
def zqK:List (Nat×TypeId)->Nat->Option (Nat×TypeId)
 |[],_=>none
 |x::_,0=>some x
 |_::r,n+1=>zqK r n
def qa(I:List (TypeId×TI))(t:TypeId)(K:TI->Prop):Prop:=
 match ti I t with
 |some i=>K i
 |none=>False
def zxj(s:SV)(K:(p:Prop)->Decidable p->Prop):Prop:=
 match s with
 |.pr p i=>K p i
 |.val (.bool true)=>K True instDecidableTrue
 |.val (.bool false)=>K False instDecidableFalse
 |_=>False
def ztF:IntKind->IntKind->Bool
 |.i64,.i64=>true
 |.i32,.i32=>true
 |.i16,.i16=>true
 |.i8,.i8=>true
 |.u64,.u64=>true
 |.u32,.u32=>true
 |.u16,.u16=>true
 |.u8,.u8=>true
 |_,_=>false
def zS(b:Bool)(K:Prop):Prop:=
 match b with
 |true=>K
 |false=>False
def yp(a b:Bool):Bool:=
 match a with
 |true=>b
 |false=>false
def zgK:List SV->List SV->((p:Prop)->Decidable p->Prop)->Prop
 |[],[],K=>K True instDecidableTrue
 |c::a,d::b,K=>vv c λc=>vv d λd=>(match c,d with
  |.val (.int k m),.val (.int e n)=>zS (ztF k e) (zgK a b λp i=>K (m=n/\p) (@instDecidableAnd _ _ (inferInstance) i))
  |_,_=>False)
 |_,_,_=>False
def vy(op:BinOp)(k:IntKind)(x y:Int):Int:=
 match op with
 |.and=>k.wrap (BitVec.ofInt k.bits x&&&BitVec.ofInt k.bits y).toNat
 |.or=>k.wrap (BitVec.ofInt k.bits x|||BitVec.ofInt k.bits y).toNat
 |.xor=>k.wrap (BitVec.ofInt k.bits x ^^^ BitVec.ofInt k.bits y).toNat
 |_=>k.wrap (BitVec.ofInt k.bits x&&&~~~ (BitVec.ofInt k.bits y)).toNat
def zvb:Operand->Bool
 |.const _=>true
 |_=>false
def zkB(I:List (TypeId×TI))(f:TypeId->Bool):List (Nat×TypeId)->Nat->Nat->Bool
 |[],at_,sz=>Nat.beq at_ sz
 |(off,t)::r,at_,sz=>match ti I t with
  |some j=>yp (Nat.beq off at_) (yp (f t) (zkB I f r (at_+j.sz) sz))
  |none=>false
def zgL(I:List (TypeId×TI)):Nat->TypeId->Bool
 |0,_=>false
 |n+1,t=>match ti I t with
  |some i=>(match i.kind with
   |.int _=>Nat.beq i.sz 1
   |.struct fs=>yp i.cmp (zkB I (zgL I n) fs 0 i.sz)
   |.arr len e=>yp i.cmp (yp (Nat.beq len 2) (yp (Nat.beq i.sz 2) (match ti I e with
    |some j=>yp (Nat.beq j.sz 1) (zgL I n e)
    |none=>false)))
   |_=>false)
  |none=>false
def ztG(op:BinOp)(y:Operand)(k:IntKind)(m n:Int)(K:SV->Prop):Prop:=
 match op,zvb y with
 |.shl,true=>(match n with
  |.ofNat c=>Ob (c<k.bits) (zm2 k (m*2^c) K)
  |.negSucc _=>False)
 |.shl,false=>Ob (0<=n/\n<k.bits) (zm2 k (m*2^n.toNat) K)
 |.shr,true=>(match n with
  |.ofNat c=>Ob (c<k.bits) (K (.val (.int k (m/2^c))))
  |.negSucc _=>False)
 |.shr,false=>Ob (0<=n/\n<k.bits) (K (.val (.int k (m/2^n.toNat))))
 |_,_=>False
def intV(op:BinOp)(k:IntKind)(m n:Int)(K:SV->Prop):Prop:=
 match op with
 |.add=>zm2 k (m+n) K
 |.sub=>zm2 k (m-n) K
 |.mul=>zm2 k (m*n) K
 |.quo=>Dv (0<=m/\0<n/\m<=kmax k) (K (.val (.int k (m/n)))) (n≠0) (zm2 k (m.tdiv n) K)
 |.rem=>Dv (0<=m/\0<n) (K (.val (.int k (m%n)))) (n≠0) (K (.val (.int k (m.tmod n))))
 |.eql=>K (.pr (m=n) inferInstance)
 |.neq=>K (.pr (¬m=n) inferInstance)
 |.lss=>K (.pr (m<n) inferInstance)
 |.leq=>K (.pr (m<=n) inferInstance)
 |.gtr=>K (.pr (n<m) inferInstance)
 |.geq=>K (.pr (n<=m) inferInstance)
 |.and=>∃r,r=vy .and k m n/\K (.val (.int k r))
 |.or=>∃r,r=vy .or k m n/\K (.val (.int k r))
 |.xor=>∃r,r=vy .xor k m n/\K (.val (.int k r))
 |.andNot=>∃r,r=vy .andNot k m n/\K (.val (.int k r))
 |_=>False
def zvc:BinOp->Bool
 |.shl=>true
 |.shr=>true
 |_=>false
def zqL:Value->Bool
 |.nilIface=>true
 |_=>false
def ifB:Value->Bool
 |.nilIface=>true
 |.iface _ _=>true
 |_=>false
inductive zcn (p q r:Prop):Prop
 |some (h:p) (k:q)
 |any (k:r)
def zzl(t:TK)(op:BinOp)(n:Nat)(K:SV->Prop):Prop:=
 match t,op with
 |.slice _,.eql=>zcn (n≠0) (K (.val (.bool false))) (K .anyb)
 |.slice _,.neq=>zcn (n≠0) (K (.val (.bool true))) (K .anyb)
 |_,_=>False
def zvd(op:BinOp)(b:Bool)(K:SV->Prop):Prop:=
 match op with
 |.eql=>K (.val (.bool b))
 |.neq=>K (.val (.bool (!b)))
 |_=>False
def zzm(k:TK)(lit:Bool)(a b:SV):Option Bool:=
 match a,b with
 |.val (.slice none 0 0),.val (.slice none 0 0)=>(match k with
  |.slice _=>some true
  |_=>none)
 |.dptr _,.val (.pointer none)=>(match k with
  |.ptr _=>some false
  |_=>none)
 |.ptr _,.val (.pointer none)=>(match k with
  |.ptr _=>some false
  |_=>none)
 |.loc _ _,.val (.pointer none)=>(match k with
  |.ptr _=>some false
  |_=>none)
 |.val (.pointer none),.val (.pointer none)=>(match k with
  |.ptr _=>some true
  |_=>none)
 |.ifc _ _,.val .nilIface=>(match k with
  |.iface=>some false
  |_=>none)
 |.val .nilIface,.val .nilIface=>(match k,lit with
  |.iface,true=>some true
  |_,_=>none)
 |.dfn _ _,.val .nilFunc=>(match k with
  |.other=>some false
  |_=>none)
 |_,_=>none
def bin(I:List (TypeId×TI))(op:BinOp)(t:TypeId)(y:Operand)(a b:SV)(K:SV->Prop):Prop:=
 match a,b with
 |.val (.int k m),.val (.int e n)=>(match zvc op with
  |true=>ztG op y k m n K
  |false=>zS (ztF k e) (intV op k m n K))
 |.agg c,.agg d=>qa I t λi=>zS i.kind.agg (zS (Nat.beq c.length i.sz)<|zS (zgL I 8 t) (match op with
  |.eql=>zgK c d λp i=>K (.pr p i)
  |.neq=>zgK c d λp i=>K (.pr (¬p) (@instDecidableNot _ i))
  |_=>False))
 |.sl _ xs,.val (.slice none 0 0)=>qa I t λi=>zzl i.kind op xs.length K
 |.op v,.val .nilIface=>qa I t λi=>(match i.kind with
  |.iface=>zS (zvb y) (match op with
   |.eql=>K (.pr (zqL v=true) inferInstance)
   |.neq=>K (.pr (¬zqL v=true) inferInstance)
   |_=>False)
  |_=>False)
 |a,b=>qa I t λi=>(match zzm i.kind (zvb y) a b with
  |some r=>zvd op r K
  |none=>(match i.kind,op with
   |.bool,.eql=>zxj a λp i=>zxj b λq j=>K (.pr (p↔q) (@instDecidableIff _ _ i j))
   |.bool,.neq=>zxj a λp i=>zxj b λq j=>K (.pr (¬(p↔q)) (@instDecidableNot _ (@instDecidableIff _ _ i j)))
   |_,_=>False))
def yf:SV->Bool
 |.dptr _=>true
 |.dfn _ _=>true
 |.bm _ _=>true
 |.op _=>true
 |.ifc _ s=>yf s
 |.val _=>true
 |.pr _ _=>true
 |.sl _ _=>true
 |.nils=>true
 |.anyb=>true
 |.full _ _=>true
 |.agg a=>flats a
 |_=>false
 where
 flats:List SV->Bool
  |[]=>true
  |c::a=>match yf c with
   |true=>flats a
   |false=>false
def uD:SV->Bool
 |.ifc _ s=>uD s
 |.val _=>true
 |.pr _ _=>true
 |.nils=>true
 |.anyb=>true
 |.agg a=>scalars a
 |_=>false
 where
 scalars:List SV->Bool
  |[]=>true
  |c::a=>match uD c with
   |true=>scalars a
   |false=>false
def zkC:SV->Bool
 |.tup a=>yf.flats a
 |s=>yf s
def zgM:SV->Bool
 |.tup a=>uD.scalars a
 |s=>uD s
def zve(a:Nat->Option Mem)(s:SV):SV:=
 match s with
 |.own k=>(match a k with
  |some (.arr _ enc _ xs)=>.sl enc xs
  |_=>.junk)
 |.fn f []=>.val (.func (.func f) #[] #[])
 |s=>(match yf s with
  |true=>s
  |false=>.junk)
def zcW(a:Nat->Option Mem):List SV->List SV
 |[]=>[]
 |c::b=>zve a c::zcW a b
def zjr(b:Nat->Option Mem)(s:SV):SV:=
 match s with
 |.loc k off=>(match b k with
  |some (.box _ a)=>.ptr ((zcW b a).drop off)
  |_=>.junk)
 |.own k=>(match b k with
  |some (.arr _ enc _ xs)=>.sl enc xs
  |_=>.junk)
 |.win k sz lo n=>(match b k with
  |some (.arr _ enc c xs)=>(match Nat.beq sz c with
   |true=>.sl enc ((xs.drop lo.toNat).take n.toNat)
   |false=>.junk)
  |_=>.junk)
 |.agg a=>.agg (zcW b a)
 |.ptr a=>.ptr a
 |.fn f []=>.fn f []
 |s=>(match yf s with
  |true=>s
  |false=>.junk)
def zkD(a:Nat->Option Mem):List SV->List SV
 |[]=>[]
 |c::b=>zjr a c::zkD a b
def zkE(a:Nat->Option Mem)(s:SV):SV:=
 match s with
 |.fn f b=>.fn f (zkD a b)
 |s=>zjr a s
def zdF(a:Nat->Option Mem):List SV->List SV
 |[]=>[]
 |c::b=>zkE a c::zdF a b
def zcX(b:Nat->Option Mem)(s:SV):Bool:=
 match s with
 |.loc k _=>(match b k with
  |some (.box _ a)=>yf.flats a
  |_=>false)
 |.ptr _=>true
 |.agg a=>yf.flats a
 |s=>yf s
def zcY(a:Nat->Option Mem):List SV->Bool
 |[]=>true
 |c::b=>match zcX a c with
  |true=>zcY a b
  |false=>false
def uC(a:Nat->Option Mem):List SV->Bool
 |[]=>true
 |.fn _ b::r=>(match zcY a b with
  |true=>uC a r
  |false=>false)
 |c::r=>match zcX a c with
  |true=>uC a r
  |false=>false
def zvf(a:Nat->Option Mem)(args:List SV)(r:SV):Bool:=
 match uC a args with
 |true=>zkC r
 |false=>zgM r
inductive D (S:Nat->Prop) (w:World):SV->Value->Prop
 |val (v:Value):D S w (.val v) v
 |pr (p:Prop) (i:Decidable p):D S w (.pr p i) (.bool (@decide p i))
 |agg (cs:List SV) (vs:List Value) (hl:vs.length=cs.length)
   (h:∀(j:Nat) (s:SV) (v:Value),cs[j]?=some s->vs[j]?=some v->D S w s v):D S w (.agg cs) (.agg vs.toArray)
 |nil {α:Type} (enc:α->List SV) (a:Option Addr):D S w (.sl enc []) (.slice a 0 0)
 |nils (a:Option Addr):D S w .nils (.slice a 0 0)
 |anyb (b:Bool):D S w .anyb (.bool b)
 |junk (v:Value):D S w .junk v
 |full {α:Type} (enc:α->List SV) (xs:List α) (a:Option Addr) (h:D S w (.sl enc xs) (.slice a xs.length xs.length)):D S w (.full enc xs) (.slice a xs.length xs.length)
 |sl {α:Type} (enc:α->List SV) (xs:List α) (sz b o cap:Nat) (c:Nat->Nat->Value) (hb:b<w.heap.size) (hS:¬S b)
   (hlen:xs.length<=9223372036854775807) (hcap:xs.length<=cap) (hsz:∀x∈xs,(enc x).length=sz)
   (hc:∀i j,i<xs.length->j<sz->w.cell? ⟨b,o+i*sz+j,none⟩=some (c i j)/\(c i j).oneCell'=true)
   (h:∀(i j:Nat) (x:α) (s:SV),xs[i]?=some x->(enc x)[j]?=some s->D S w s (c i j)):
   D S w (.sl enc xs) (.slice (some ⟨b,o,none⟩) xs.length cap)
 |dptr (cs:List SV) (b o:Nat) (c:Nat->Value) (hb:b<w.heap.size) (hS:¬S b)
   (hc:∀j,j<cs.length->w.cell? ⟨b,o+j,none⟩=some (c j)/\(c j).oneCell'=true)
   (h:∀(j:Nat) (s:SV),cs[j]?=some s->D S w s (c j)):D S w (.dptr cs) (.pointer (some ⟨b,o,none⟩))
 |dfn (f:FuncId) (cs:List SV) (vs:List Value) (hl:vs.length=cs.length)
   (h:∀(j:Nat) (s:SV) (v:Value),cs[j]?=some s->vs[j]?=some v->D S w s v):D S w (.dfn f cs) (.func (.func f) #[] vs.toArray)
 |ifc (t:TypeId) (s:SV) (v:Value) (h:D S w s v):D S w (.ifc t s) (.iface t v)
 |bm (f:FuncId) (cs:List SV) (vs:List Value) (hl:vs.length=cs.length)
   (h:∀(j:Nat) (s:SV) (v:Value),cs[j]?=some s->vs[j]?=some v->D S w s v):D S w (.bm f cs) (.func (.func f) vs.toArray #[])
 |op (v:Value) (h:ifB v=true):D S w (.op v) v
abbrev zh:=Nat->Option Value
inductive G (S Pm:Nat->Prop) (Z:zh) (w:World):SV->Value->Prop
 |d (s:SV) (v:Value) (h:D S w s v):G S Pm Z w s v
 |loc (k off b:Nat) (h:Z k=some (.pointer (some ⟨b,0,none⟩))):G S Pm Z w (.loc k off) (.pointer (some ⟨b,off,none⟩))
 |own (k:Nat) (v:Value) (h:Z k=some v) (h1:v.oneCell'=true):G S Pm Z w (.own k) v
 |eloc (k sz:Nat) (i:Int) (off b len cap:Nat) (h:Z k=some (.slice (some ⟨b,0,none⟩) len cap)):
   G S Pm Z w (.eloc k sz i off) (.pointer (some ⟨b,i.toNat*sz+off,none⟩))
 |win (k sz:Nat) (lo n:Int) (b len cap cap':Nat) (h:Z k=some (.slice (some ⟨b,0,none⟩) len cap)) (h1:lo.toNat+n.toNat<=len) (h2:n.toNat<=cap'):
   G S Pm Z w (.win k sz lo n) (.slice (some ⟨b,lo.toNat*sz,none⟩) n.toNat cap')
 |ptr (cs:List SV) (b o:Nat) (c:Nat->Value) (hb:b<w.heap.size) (hP:¬Pm b)
   (hc:∀j,j<cs.length->w.cell? ⟨b,o+j,none⟩=some (c j)/\(c j).oneCell'=true)
   (h:∀(j:Nat) (s:SV),cs[j]?=some s->D S w s (c j)):G S Pm Z w (.ptr cs) (.pointer (some ⟨b,o,none⟩))
 |agg (cs:List SV) (vs:List Value) (hl:vs.length=cs.length)
   (h:∀(j:Nat) (s:SV) (v:Value),cs[j]?=some s->vs[j]?=some v->G S Pm Z w s v):G S Pm Z w (.agg cs) (.agg vs.toArray)
 |tup (cs:List SV) (vs:List Value) (hl:vs.length=cs.length)
   (h:∀(j:Nat) (s:SV) (v:Value),cs[j]?=some s->vs[j]?=some v->G S Pm Z w s v):G S Pm Z w (.tup cs) (.tuple vs.toArray)
 |fn (f:FuncId) (cs:List SV) (vs:List Value) (hl:vs.length=cs.length)
   (h:∀(j:Nat) (s:SV) (v:Value),cs[j]?=some s->vs[j]?=some v->G S Pm Z w s v):G S Pm Z w (.fn f cs) (.func (.func f) #[] vs.toArray)
 |ifc (t:TypeId) (s:SV) (v:Value) (h:G S Pm Z w s v):G S Pm Z w (.ifc t s) (.iface t v)
def Gs(S Pm:Nat->Prop)(Z:zh)(w:World)(a:List SV)(vs:List Value):Prop:=
 vs.length=a.length/\∀(j:Nat) (s:SV) (v:Value),a[j]?=some s->vs[j]?=some v->G S Pm Z w s v
def qi:Value->Option Nat
 |.pointer (some a)=>some a.block
 |.slice (some a) _ _=>some a.block
 |.map (some r)=>some r
 |_=>none
def Own(M:List (Nat×Mem))(Z:zh)(b:Nat):Prop:=∃k m v,(k,m)∈M/\Z k=some v/\qi v=some b
def jD(S Pm:Nat->Prop)(Z:zh)(w:World)(k:Nat):Mem->Prop
 |.box T a=>∃b vs,Z k=some (.pointer (some ⟨b,0,none⟩))/\w.heap[b]?=some (.cells (List.toArray vs) T (0,0))/\
   vs.length=a.length/\(∀v∈vs,v.oneCell'=true)/\∀(j:Nat) (s:SV) (v:Value),a[j]?=some s->vs[j]?=some v->G S Pm Z w s v
 |.arr T enc sz xs=>∃v cells,Z k=some v/\w.ownsRow 0 T sz v xs.length cells/\xs.length<=281474976710656/\(∀u∈cells,u.oneCell'=true)/\
   (∀x∈xs,(enc x).length=sz)/\
   ∀(i j:Nat) x (s:SV),xs[i]?=some x->(enc x)[j]?=some s->∃u,cells[i*sz+j]?=some u/\D S w s u
 |.garr T sz xs=>∃v cells,Z k=some v/\w.ownsRow 0 T sz v xs.length cells/\xs.length<=281474976710656/\(∀u∈cells,u.oneCell'=true)/\
   (∀x∈xs,x.length=sz)/\
   ∀(i j:Nat) x (s:SV),xs[i]?=some x->x[j]?=some s->∃u,cells[i*sz+j]?=some u/\G S Pm Z w s u
 |.map c=>∃r ents clock,Z k=some (.map (some r))/\w.heap[r]?=some (.map ents clock)/\ents.size=c.length/\
   ∀(i:Nat) (n:Int) (s:SV),c[i]?=some (n,s)->∃e,ents[i]?=some e/\e.key=.int .i64 n/\D S w s e.val
def GL(g:Nat)(v:Value):Prop:=(g,v)∈([(0,.iface 291 (.agg #[.pointer (some ⟨3,167,none⟩)]))]:List (Nat×Value))
structure zI (Keep:Nat->Prop) (M:List (Nat×Mem)) (Z:zh) (w:World):Prop where
 rel:∀k m,(k,m)∈M->jD (λb=>Keep b∨Own M Z b) (Own M Z) Z w k m
 keys:M.Pairwise λa b=>a.1≠b.1
 apart:∀k m k' m' v v' b,(k,m)∈M->(k',m')∈M->k≠k'->Z k=some v->Z k'=some v'->qi v=some b->qi v'≠some b
 old:∀b,Own M Z b->b<w.heap.size/\¬Keep b
 kp:∀b,Keep b->b<w.heap.size
 gl:∀g v,GL g v->¬Own M Z g/\w.cell? ⟨g,0,none⟩=some v
def kU(w w':World):Prop:=w'.output=w.output/\∀a,w'.frozen? a=w.frozen? a
structure Stp (W W':Nat->Prop) (Z Z':zh) (w w':World):Prop where
 os:w'.os=w.os
 tape:w'.tape=w.tape
 output:kU w w'
 size:w.heap.size<=w'.heap.size
 block:∀b,b<w.heap.size->¬W b->w'.heap[b]?=w.heap[b]?
 own:∀b,W' b->W b∨w.heap.size<=b
 rho:∀k v,Z k=some v->Z' k=some v
def zkF{w:World}{g:Nat}{v:Value}(h:w.cell? ⟨g,0,none⟩=some v):g<w.heap.size:=by
 rcases Kf g w.heap.size with a|a
 .exact a
 simp[World.cell?,K6 a]at h
variable{w':World}
def zf8{w:World}{g:Nat}(h:w'.heap[g]?=w.heap[g]?):w'.cell? ⟨g,0,none⟩=w.cell? ⟨g,0,none⟩:=by
 simp only[World.cell?,h]
variable{Keep:Nat->Prop}{M:List (Nat×Mem)}{Z:zh}
def zI.glc{w:World}(a:zI Keep M Z w){g:Nat}{v:Value}(h:GL g v):w.cell? ⟨g,0,none⟩=some v:=(a.gl g v h).2
variable{M':List (Nat×Mem)}{Z':zh}
def zI.glS{w:World}(e:zI Keep M Z w)(c:Stp (Own M Z) (Own M' Z') Z Z' w w'):∀g v,GL g v->¬Own M' Z' g/\w'.cell? ⟨g,0,none⟩=some v:=λg v h=>by
 obtain⟨a,b⟩:=e.gl g v h;have d:=zkF b;exact⟨λf=>(c.own g f).elim a λk=>by omega,(zf8 (c.block g d a)).trans b⟩
def zI.glO{w:World}(c:zI Keep M Z w)(a:∀b,Own M' Z' b->Own M Z b):∀g v,GL g v->¬Own M' Z' g/\w.cell? ⟨g,0,none⟩=some v:=λg v h=>
 ⟨λd=>(c.gl g v h).1 (a g d),c.glc h⟩
def zdT(P:Program)(f:FuncId):Prop:=∃fn,P.funcs[f]?=some fn/\(fn.name== "runtime.NumGoroutine")=false/\fn.body.isNone=false
def kL(P:Program)(f:FuncId)(args:List SV)(M:List (Nat×Mem))(r:SV)(M':List (Nat×Mem)):Prop:=
 zdT P f/\∀(Keep:Nat->Prop) (Z:zh) (w:World) (vs:List Value),(∀b,Keep b->b<w.heap.size)->zI Keep M Z w->(∀k,M.length<=k->Z k=none)->
  Gs (λb=>Keep b∨Own M Z b) (Own M Z) Z w args vs->
  Calls P f vs.toArray w λe w'=>∃v Z',e=.returned v/\Stp (Own M Z) (Own M' Z') Z Z' w w'/\zI Keep M' Z' w'/\
   G (λb=>Keep b∨Own M' Z' b) (Own M' Z') Z' w' r v
structure Env where
 w0:World
 ρ0:zh
 Keep:Nat->Prop
 W0:Nat->Prop
 ds:List Deferred
structure Rel (E:Env) (O:St) (Z:zh) (a:Act) (w:World):Prop where
 size:a.tmps.size=O.nt
 defers:a.defers=E.ds
 regs:∀t s,kw O.L t=some s->t<O.nt/\G (λb=>E.Keep b∨Own O.M Z b) (Own O.M Z) Z w s (a.tmps.getD t undef)
 mem:zI E.Keep O.M Z w
 fresh:∀k,O.nk<=k->Z k=none
 stp:Stp E.W0 (Own O.M Z) E.ρ0 Z E.w0 w
 keep:∀b,E.Keep b->b<E.w0.heap.size
 low:∀k v,E.ρ0 k=some v->k<O.n0
def aR{T n}{α:Type}{e:α->List SV}{x y:List α}(h:x=y):some (Mem.arr T e n x)=some (Mem.arr T e n y):=h ▸ rfl
def bR{T}{α:Type}(f:α->List SV){x y:α}(h:x=y):some (Mem.box T (f x))=some (Mem.box T (f y)):=h ▸ rfl
def wh{p q:Prop}(k:q)(h:p:=by kernel_rfl):Ob p q:=.mk h k
abbrev LS:=List (TypeId×TI)
abbrev LT:=List (Nat×Mem)
abbrev LP:=List (Nat×SV)
abbrev LM:=List (Nat×TypeId)
abbrev LN:=List (List SV)
abbrev LR:=List SV
abbrev LV:=List Int
abbrev LA:=List Value
abbrev LC:=List Nat
abbrev LD:=SV->MD->Prop
abbrev LF:=Exit->Act->World->Prop
abbrev LG:=Act->World->Prop
abbrev LI:=Nat->Prop
abbrev LJ:=Nat->Option Mem
abbrev LK:=Option Nat
end Go.Gs
