/- The definitions of an abstract run: symbolic values, the abstract state, the conditions that one operation, one region and one piece of code leave to be shown. -/
import Derived.Test.YtjgadnaphffpkaaGreatDoorNA
import Derived.Calls
import Derived.Orders
import Derived.Below
import Derived.Laws.AppendOwn
import Derived.Laws.Rows
import Derived.Laws.Tables
import Derived.RowKit3
set_option maxRecDepth 100000
set_option maxHeartbeats 8000000
set_option linter.all false
namespace Go.Gs
inductive SV:Type 1
 | val (v:Value)
 | pr (p:Prop) (i:Decidable p)
 | agg (cs:List SV)
 | sl {α:Type} (enc:α->List SV) (xs:List α)
 | ptr (cs:List SV)
 | loc (k off:Nat)
 | own (k:Nat)
 | eloc (k sz:Nat) (i:Int) (off:Nat)
 | win (k sz:Nat) (lo n:Int)
 | fn (f:FuncId) (caps:List SV)
 | tup (vs:List SV)
 | junk
 | nils
 | anyb
 | full {α:Type} (enc:α->List SV) (xs:List α)
 | dptr (cs:List SV)
 | dfn (f:FuncId) (caps:List SV)
 | ifc (t:TypeId) (s:SV)
 | bm (f:FuncId) (first:List SV)
 | op (v:Value)
inductive Mem:Type 1
 | box (T:TypeId) (cs:List SV)
 | arr (T:TypeId) {α:Type} (enc:α->List SV) (sz:Nat) (xs:List α)
 | garr (T:TypeId) (sz:Nat) (xs:List (List SV))
 | map (es:List (Int×SV))
structure St:Type 1 where
 L:List (Nat×SV)
 M:List (Nat×Mem)
 nk:Nat
 nt:Nat
 n0:Nat
inductive MD:Type 1
 | none
 | push (m:Mem)
 | set (k:Nat) (m:Mem)
 | drop (k:Nat)
 | repl (k:Nat) (m:Mem)
 | give (ks:List Nat) (new:List (Nat×Mem)) (nn:Nat)
def qe:List (Nat×SV)->Nat->Option SV
 | [],_=>none
 | (k,s)::r,t=>match Nat.beq k t with
  | true=>some s
  | false=>qe r t
def zX:List (Nat×Mem)->Nat->Option Mem
 | [],_=>none
 | (k,s)::r,t=>match Nat.beq k t with
  | true=>some s
  | false=>zX r t
def qn:List (Nat×Mem)->Nat->List (Nat×Mem)
 | [],_=>[]
 | (k,s)::r,t=>match Nat.beq k t with
  | true=>r
  | false=>(k,s)::qn r t
def qM:List (Nat×Mem)->Nat->Mem->List (Nat×Mem)
 | [],_,_=>[]
 | (k,s)::r,t,m=>match Nat.beq k t with
  | true=>(k,m)::r
  | false=>(k,s)::qM r t m
inductive TK
 | int (k:IntKind)
 | bool
 | str
 | ptr (t:TypeId)
 | slice (e:TypeId)
 | struct (fs:List (Nat×TypeId))
 | arr (n:Nat) (e:TypeId)
 | map (k e:TypeId)
 | iface
 | other
structure TI where
 kind:TK
 sz:Nat
 bytes:Nat
 zero:List Value
 cmp:Bool
def TK.agg:TK->Bool
 | .struct _=>true
 | .arr _ _=>true
 | _=>false
def ti:List (TypeId×TI)->TypeId->Option TI
 | [],_=>none
 | (k,s)::r,t=>match Nat.beq k t with
  | true=>some s
  | false=>ti r t
structure Ob (p q:Prop):Prop where
 ob:p
 go:q
structure Br (p q:Prop):Prop where
 yes:p
 no:q
inductive Dr (p q r:Prop):Prop
 | mk (ord:p) (go:q)
 | dyn (h:r)
inductive Ar (p q r:Prop):Prop
 | fit (h:p) (k:q)
 | wrap (k:r)
inductive Dv (p q p' q':Prop):Prop
 | pos (h:p) (k:q)
 | any (h:p') (k:q')
variable{p:Prop}{q:Prop}{r:Prop}
theorem Ar.o(k:q)(h:p:=by omega):Ar p q r:=.fit h k
theorem Ob.o(k:q)(h:p:=by omega):Ob p q:=.mk h k
theorem Dr.k{p q r:Prop}(k:q)(h:p:=by decide +kernel):Dr p q r:=.mk h k
theorem Dr.d{p q s t:Prop}(k:t)(h:s:=by decide +kernel):Dr p q (Ob s t):=.dyn (.mk h k)
theorem Br.y(k:q)(h:p:=by decide):Br (p->q) (¬p->r):=⟨λ_=>k,λn=>absurd h n⟩
theorem Ob.o0(k:q)(h:p:=by exact⟨rfl,dC,dC,dC,λ_ _=>⟨rfl,rfl,rfl⟩⟩):Ob p q:=.mk h k
theorem Ob.o1(k:q)(h:p:=by decide):Ob p q:=.mk h k
theorem Ob.o2(k:q)(h:p:=by exact⟨rfl,dC,dC,dC,λx hx=>by cases hx⟩):Ob p q:=.mk h k
theorem Ob.o3(k:q)(h:p:=by exact⟨(by show _*(16:Int)<=_;simp only[Xl,Xs];omega),(by simp only[Xl,Xs];omega),dC,λ_ _=>rfl⟩):Ob p q:=.mk h k
theorem Ob.o4(k:q)(h:p:=by exact⟨oM,oM⟩):Ob p q:=.mk h k
theorem Ob.o5(k:q)(h:p:=by exact⟨oM,oM,oM⟩):Ob p q:=.mk h k
theorem Ob.o6(k:q)(h:p:=by exact⟨dC,oM,oM,(by show _*(4:Int)<=_;omega),oM⟩):Ob p q:=.mk h k
theorem Ob.o7(k:q)(h:p:=by exact⟨by show((2:Nat)+((1:Nat):Int))*16<=_;decide,by show 2+1<=_;decide,dC,λ_ _=>rfl⟩):Ob p q:=.mk h k
theorem Ob.o8(k:q)(h:p:=by exact⟨rfl,dC,dC,dC,λx hx=>by rw[Xq.1 hx];rfl⟩):Ob p q:=.mk h k
theorem Ob.o9(k:q)(h:p:=by (try dsimp only);omega):Ob p q:=.mk h k
theorem Ob.o10(k:q)(h:p:=by exact⟨rfl,dC,dC,dC,λx hx=>by rw[Xq.1 hx];exact⟨rfl,rfl,rfl⟩⟩):Ob p q:=.mk h k
theorem Ob.o11(k:q)(h:p:=by show _/\_ < (64:Int);omega):Ob p q:=.mk h k
theorem Ob.o12(k:q)(h:p:=by exact⟨oM,by show _ < ((256:Nat):Int);omega⟩):Ob p q:=.mk h k
theorem Ob.o13(k:q)(h:p:=by exact⟨rfl,dC,λ_ _=>rfl⟩):Ob p q:=.mk h k
theorem Ob.o14(k:q)(h:p:=by exact⟨by show((3:Nat)+((1:Nat):Int))*16<=_;decide,by show 3+1<=_;decide,dC,λ_ _=>rfl⟩):Ob p q:=.mk h k
theorem Ob.o15(k:q)(h:p:=by exact⟨(by show _*(24:Int)<=_;simp only[Xl,Xs];omega),(by simp only[Xl,Xs];omega),dC,λ_ _=>rfl⟩):Ob p q:=.mk h k
theorem Ob.o16(k:q)(h:p:=by exact⟨(by show _*(16:Int)<=_;simp only[Xk,Xl,Xs];omega),(by simp only[Xk,Xl,Xs];omega),dC,λ_ _=>rfl⟩):Ob p q:=.mk h k
theorem Ob.o17(k:q)(h:p:=by exact⟨rfl,dC,dC,dC,λx hx=>⟨rfl,rfl,rfl⟩⟩):Ob p q:=.mk h k
theorem Ob.o18(k:q)(h:p:=by exact⟨(by show _*(16:Int)<=_;simp only[Xs];omega),(by simp only[Xs];omega),dC,λ_ _=>rfl⟩):Ob p q:=.mk h k
theorem Ob.o19(k:q)(h:p:=by exact⟨(by show((1:Nat):Int)*(16:Int)<=140737488355328;decide),(by show 1<=281474976710656;decide),dC,λ_ _=>rfl⟩):Ob p q:=.mk h k
theorem Ob.o20(k:q)(h:p:=by exact⟨(by show((1:Nat):Int)*(56:Int)<=140737488355328;decide),(by show 1<=281474976710656;decide),dC,λ_ _=>rfl⟩):Ob p q:=.mk h k
theorem Ob.o21(k:q)(h:p:=by exact⟨(by show((_:Int)+((1:Nat):Int))*(16:Int)<=_;omega),(by show _+1<=_;omega),dC,λ_ _=>rfl⟩):Ob p q:=.mk h k
theorem Ob.o22(k:q)(h:p:=by exact⟨(by show((_:Int)+((1:Nat):Int))*(56:Int)<=_;omega),(by show _+1<=_;omega),dC,λ_ _=>rfl⟩):Ob p q:=.mk h k
theorem Ob.o23(k:q)(h:p:=by exact⟨by ((try dsimp only);omega),by ((try dsimp only);omega),by ((try dsimp only);omega)⟩):Ob p q:=.mk h k
theorem Ob.o24(k:q)(h:p:=by exact⟨(by show _*(24:Int)<=_;simp only[Xj,Xk,Xl,Xs];omega),(by simp only[Xj,Xk,Xl,Xs];omega),dC,λ_ _=>rfl⟩):Ob p q:=.mk h k
theorem Ob.o25(k:q)(h:p:=by exact⟨(by show _*(32:Int)<=_;simp only[Xz,Xl,Xs];omega),(by simp only[Xz,Xl,Xs];omega),dC,λx hx=>by rw[Xq.1 hx];rfl⟩):Ob p q:=.mk h k
theorem Ob.o26(k:q)(h:p:=by exact⟨(by show _*(32:Int)<=_;omega),oM,dC,λ_ _=>rfl⟩):Ob p q:=.mk h k
theorem Ob.o27(k:q)(h:p:=by exact⟨by show((1:Nat):Int)*24<=_;decide,by show 1<=_;decide,dC⟩):Ob p q:=.mk h k
def zle(k:IntKind)(e:Int)(K:SV->Prop):Prop:=
 match k with
 | .i64=>Ar (-9223372036854775808<=e/\e<=9223372036854775807) (K (.val (.int .i64 e))) (K (.val (.int .i64 (IntKind.i64.wrap e))))
 | .i32=>Ar (-2147483648<=e/\e<=2147483647) (K (.val (.int .i32 e))) (K (.val (.int .i32 (IntKind.i32.wrap e))))
 | .i16=>Ar (-32768<=e/\e<=32767) (K (.val (.int .i16 e))) (K (.val (.int .i16 (IntKind.i16.wrap e))))
 | .i8=>Ar (-128<=e/\e<=127) (K (.val (.int .i8 e))) (K (.val (.int .i8 (IntKind.i8.wrap e))))
 | .u64=>Ar (0<=e/\e<=18446744073709551615) (K (.val (.int .u64 e))) (K (.val (.int .u64 (IntKind.u64.wrap e))))
 | .u32=>Ar (0<=e/\e<=4294967295) (K (.val (.int .u32 e))) (K (.val (.int .u32 (IntKind.u32.wrap e))))
 | .u16=>Ar (0<=e/\e<=65535) (K (.val (.int .u16 e))) (K (.val (.int .u16 (IntKind.u16.wrap e))))
 | .u8=>Ar (0<=e/\e<=255) (K (.val (.int .u8 e))) (K (.val (.int .u8 (IntKind.u8.wrap e))))
def kmax:IntKind->Int
 | .i64=>9223372036854775807
 | .i32=>2147483647
 | .i16=>32767
 | .i8=>127
 | .u64=>18446744073709551615
 | .u32=>4294967295
 | .u16=>65535
 | .u8=>255
def zaz(s:SV)(K:SV->Prop):Prop:=
 match s with
 |.val v=>(match v with
  | .int k n=>K (.val (.int k n))
  | .bool b=>(match b with | true=>K (.val (.bool true)) | false=>K (.val (.bool false)))
  | .slice a l c=>K (.val (.slice a l c))
  | v=>K (.val v))
 | .pr p i=>K (.pr p i)
 | .agg cs=>K (.agg cs)
 | .sl enc xs=>K (.sl enc xs)
 | .ptr cs=>K (.ptr cs)
 | .loc k off=>K (.loc k off)
 | .own k=>K (.own k)
 | .eloc k sz i off=>K (.eloc k sz i off)
 | .win k sz lo n=>K (.win k sz lo n)
 | .fn f caps=>K (.fn f caps)
 | .tup vs=>K (.tup vs)
 | .junk=>K .junk
 | .nils=>K .nils
 | .anyb=>K .anyb
 | .full enc xs=>K (.full enc xs)
 | .dptr cs=>K (.dptr cs)
 | .dfn f cs=>K (.dfn f cs)
 | .ifc t s=>K (.ifc t s)
 | .bm f cs=>K (.bm f cs)
 | .op v=>K (.op v)
def ev(L:List (Nat×SV))(x:Operand)(K:SV->Prop):Prop:=
 match x with
 |.tmp t=>(match qe L t with
  | some s=>zaz s K
  | none=>False)
 | .const v=>zaz (.val v) K
 | .func f=>K (.fn f [])
 | .global _=>False
def evs(L:List (Nat×SV))(xs:List Operand):(List SV->Prop)->Prop:=
 List.rec (motive:=λ_=>(List SV->Prop)->Prop) (λK=>K []) (λx _ ih K=>ev L x λs=>ih λl=>K (s::l)) xs
def putL(L:List (Nat×SV))(d:Option Tmp)(s:SV):List (Nat×SV):=
 match d with
 | some d=>(d,s)::L
 | none=>L
def uW(M:List (Nat×Mem)):List Nat->List (Nat×Mem)
 | []=>M
 | k::r=>uW (qn M k) r
def zck(M:List (Nat×Mem))(κ:Nat):MD->List (Nat×Mem)
 | .none=>M
 | .push m=>(κ,m)::M
 | .set k m=>qM M k m
 | .drop k=>qn M k
 | .repl k m=>(κ,m)::qn M k
 | .give ks new _=>new++uW M ks
def zaU(κ:Nat):MD->Nat
 | .push _=>κ+1
 | .repl _ _=>κ+1
 | .give _ _ nn=>κ+nn
 | _=>κ
def St.app(σ:St)(d:Option Tmp)(s:SV)(m:MD):St:=⟨putL σ.L d s,zck σ.M σ.nk m,zaU σ.nk m,σ.nt,σ.n0⟩
def St.put(σ:St)(d:Option Tmp)(s:SV):St:=⟨putL σ.L d s,σ.M,σ.nk,σ.nt,σ.n0⟩
def kT:SV->List SV
 | .agg cs=>cs
 | s=>[s]
def vals(l:List Value):List SV:=l.map .val
def yu(cs:List SV)(off:Nat)(new:List SV):List SV:=cs.take off++new++cs.drop (off+new.length)
def mkV(agg:Bool)(sz:Nat)(cs:List SV)(K:SV->Prop):Prop:=
 match agg with
 | true=>K (.agg (cs.take sz))
 |false=>(match cs with
  | c::_=>zaz c K
  | []=>False)
def zox:List (Nat×TypeId)->Nat->Option (Nat×TypeId)
 | [],_=>none
 | x::_,0=>some x
 | _::r,n+1=>zox r n
def kH(Γ:List (TypeId×TI))(t:TypeId)(K:TI->Prop):Prop:=
 match ti Γ t with
 | some i=>K i
 | none=>False
def zue(s:SV)(K:(p:Prop)->Decidable p->Prop):Prop:=
 match s with
 | .pr p i=>K p i
 | .val (.bool true)=>K True instDecidableTrue
 | .val (.bool false)=>K False instDecidableFalse
 | _=>False
def zq8:IntKind->IntKind->Bool
 | .i64,.i64=>true
 | .i32,.i32=>true
 | .i16,.i16=>true
 | .i8,.i8=>true
 | .u64,.u64=>true
 | .u32,.u32=>true
 | .u16,.u16=>true
 | .u8,.u8=>true
 | _,_=>false
def zS(b:Bool)(K:Prop):Prop:=
 match b with
 | true=>K
 | false=>False
def uD(a b:Bool):Bool:=
 match a with
 | true=>b
 | false=>false
def zfK:List SV->List SV->((p:Prop)->Decidable p->Prop)->Prop
 | [],[],K=>K True instDecidableTrue
 |c::cs,d::ds,K=>zaz c λc=>zaz d λd=>(match c,d with
  | .val (.int k m),.val (.int k' n)=>zS (zq8 k k') (zfK cs ds λp i=>K (m=n/\p) (@instDecidableAnd _ _ (inferInstance) i))
  | _,_=>False)
 | _,_,_=>False
def zaA(op:BinOp)(k:IntKind)(x y:Int):Int:=
 match op with
 | .and=>k.wrap (BitVec.ofInt k.bits x&&&BitVec.ofInt k.bits y).toNat
 | .or=>k.wrap (BitVec.ofInt k.bits x|||BitVec.ofInt k.bits y).toNat
 | .xor=>k.wrap (BitVec.ofInt k.bits x ^^^ BitVec.ofInt k.bits y).toNat
 | _=>k.wrap (BitVec.ofInt k.bits x&&&~~~ (BitVec.ofInt k.bits y)).toNat
def zvZ:Operand->Bool
 | .const _=>true
 | _=>false
def ziX(Γ:List (TypeId×TI))(f:TypeId->Bool):List (Nat×TypeId)->Nat->Nat->Bool
 | [],at_,sz=>Nat.beq at_ sz
 | (off,t)::r,at_,sz=>match ti Γ t with
  | some j=>uD (Nat.beq off at_) (uD (f t) (ziX Γ f r (at_+j.sz) sz))
  | none=>false
def zfL(Γ:List (TypeId×TI)):Nat->TypeId->Bool
 | 0,_=>false
 | n+1,t=>match ti Γ t with
  |some i=>(match i.kind with
   | .int _=>Nat.beq i.sz 1
   | .struct fs=>uD i.cmp (ziX Γ (zfL Γ n) fs 0 i.sz)
   |.arr len e=>uD i.cmp (uD (Nat.beq len 2) (uD (Nat.beq i.sz 2) (match ti Γ e with
    | some j=>uD (Nat.beq j.sz 1) (zfL Γ n e)
    | none=>false)))
   | _=>false)
  | none=>false
def zq9(op:BinOp)(y:Operand)(k:IntKind)(m n:Int)(K:SV->Prop):Prop:=
 match op,zvZ y with
 |.shl,true=>(match n with
  | .ofNat c=>Ob (c < k.bits) (zle k (m*2 ^ c) K)
  | .negSucc _=>False)
 | .shl,false=>Ob (0<=n/\n < k.bits) (zle k (m*2 ^ n.toNat) K)
 |.shr,true=>(match n with
  | .ofNat c=>Ob (c < k.bits) (K (.val (.int k (m / 2 ^ c))))
  | .negSucc _=>False)
 | .shr,false=>Ob (0<=n/\n < k.bits) (K (.val (.int k (m / 2 ^ n.toNat))))
 | _,_=>False
def intV(op:BinOp)(k:IntKind)(m n:Int)(K:SV->Prop):Prop:=
 match op with
 | .add=>zle k (m+n) K
 | .sub=>zle k (m - n) K
 | .mul=>zle k (m*n) K
 | .quo=>Dv (0<=m/\0 < n/\m<=kmax k) (K (.val (.int k (m / n)))) (n≠0) (zle k (m.tdiv n) K)
 | .rem=>Dv (0<=m/\0 < n) (K (.val (.int k (m % n)))) (n≠0) (K (.val (.int k (m.tmod n))))
 | .eql=>K (.pr (m=n) inferInstance)
 | .neq=>K (.pr (¬m=n) inferInstance)
 | .lss=>K (.pr (m < n) inferInstance)
 | .leq=>K (.pr (m<=n) inferInstance)
 | .gtr=>K (.pr (n < m) inferInstance)
 | .geq=>K (.pr (n<=m) inferInstance)
 | .and=>∃r,r=zaA .and k m n/\K (.val (.int k r))
 | .or=>∃r,r=zaA .or k m n/\K (.val (.int k r))
 | .xor=>∃r,r=zaA .xor k m n/\K (.val (.int k r))
 | .andNot=>∃r,r=zaA .andNot k m n/\K (.val (.int k r))
 | _=>False
def zsu:BinOp->Bool
 | .shl=>true
 | .shr=>true
 | _=>false
def zoy:Value->Bool
 | .nilIface=>true
 | _=>false
def ifB:Value->Bool
 | .nilIface=>true
 | .iface _ _=>true
 | _=>false
inductive zuf (p q r:Prop):Prop
 | some (h:p) (k:q)
 | any (k:r)
def zv0(t:TK)(op:BinOp)(n:Nat)(K:SV->Prop):Prop:=
 match t,op with
 | .slice _,.eql=>zuf (n≠0) (K (.val (.bool false))) (K .anyb)
 | .slice _,.neq=>zuf (n≠0) (K (.val (.bool true))) (K .anyb)
 | _,_=>False
def uX(op:BinOp)(b:Bool)(K:SV->Prop):Prop:=
 match op with
 | .eql=>K (.val (.bool b))
 | .neq=>K (.val (.bool (!b)))
 | _=>False
def bin(Γ:List (TypeId×TI))(op:BinOp)(t:TypeId)(y:Operand)(a b:SV)(K:SV->Prop):Prop:=
 match a,b with
 |.val (.int k m),.val (.int k' n)=>(match zsu op with
  | true=>zq9 op y k m n K
  | false=>zS (zq8 k k') (intV op k m n K))
 |.agg cs,.agg ds=>kH Γ t λi=>zS i.kind.agg (zS (Nat.beq cs.length i.sz)<|zS (zfL Γ 8 t) (match op with
  | .eql=>zfK cs ds λp i=>K (.pr p i)
  | .neq=>zfK cs ds λp i=>K (.pr (¬p) (@instDecidableNot _ i))
  | _=>False))
 | .sl _ xs,.val (.slice none 0 0)=>kH Γ t λi=>zv0 i.kind op xs.length K
 |.val (.slice none 0 0),.val (.slice none 0 0)=>kH Γ t λi=>(match i.kind,op with
  | .slice _,.eql=>K (.val (.bool true))
  | .slice _,.neq=>K (.val (.bool false))
  | _,_=>False)
 |.dptr _,.val (.pointer none)=>kH Γ t λi=>(match i.kind with
  | .ptr _=>uX op false K
  | _=>False)
 |.ptr _,.val (.pointer none)=>kH Γ t λi=>(match i.kind with
  | .ptr _=>uX op false K
  | _=>False)
 |.loc _ _,.val (.pointer none)=>kH Γ t λi=>(match i.kind with
  | .ptr _=>uX op false K
  | _=>False)
 |.val (.pointer none),.val (.pointer none)=>kH Γ t λi=>(match i.kind with
  | .ptr _=>uX op true K
  | _=>False)
 |.ifc _ _,.val .nilIface=>kH Γ t λi=>(match i.kind with
  | .iface=>uX op false K
  | _=>False)
 |.val .nilIface,.val .nilIface=>kH Γ t λi=>(match i.kind with
  | .iface=>zS (zvZ y) (uX op true K)
  | _=>False)
 |.op v,.val .nilIface=>kH Γ t λi=>(match i.kind with
  |.iface=>zS (zvZ y) (match op with
   | .eql=>K (.pr (zoy v=true) inferInstance)
   | .neq=>K (.pr (¬zoy v=true) inferInstance)
   | _=>False)
  | _=>False)
 |a,b=>kH Γ t λi=>(match i.kind,op with
  | .bool,.eql=>zue a λp i=>zue b λq j=>K (.pr (p↔q) (@instDecidableIff _ _ i j))
  | .bool,.neq=>zue a λp i=>zue b λq j=>K (.pr (¬(p↔q)) (@instDecidableNot _ (@instDecidableIff _ _ i j)))
  | _,_=>False)
def ym:SV->Bool
 | .dptr _=>true
 | .dfn _ _=>true
 | .bm _ _=>true
 | .op _=>true
 | .ifc _ s=>ym s
 | .val _=>true
 | .pr _ _=>true
 | .sl _ _=>true
 | .nils=>true
 | .anyb=>true
 | .full _ _=>true
 | .agg cs=>flats cs
 | _=>false
 where
 flats:List SV->Bool
  | []=>true
  | c::cs=>match ym c with
   | true=>flats cs
   | false=>false
def uF:SV->Bool
 | .ifc _ s=>uF s
 | .val _=>true
 | .pr _ _=>true
 | .nils=>true
 | .anyb=>true
 | .agg cs=>scalars cs
 | _=>false
 where
 scalars:List SV->Bool
  | []=>true
  | c::cs=>match uF c with
   | true=>scalars cs
   | false=>false
def ziY:SV->Bool
 | .tup cs=>ym.flats cs
 | s=>ym s
def zix:SV->Bool
 | .tup cs=>uF.scalars cs
 | s=>uF s
def zsv(lm:Nat->Option Mem)(s:SV):SV:=
 match s with
 |.own k=>(match lm k with
  | some (.arr _ enc _ xs)=>.sl enc xs
  | _=>.junk)
 | .fn f []=>.val (.func (.func f) #[] #[])
 |s=>(match ym s with
  | true=>s
  | false=>.junk)
def zcl(lm:Nat->Option Mem):List SV->List SV
 | []=>[]
 | c::cs=>zsv lm c::zcl lm cs
def zhT(lm:Nat->Option Mem)(s:SV):SV:=
 match s with
 |.loc k off=>(match lm k with
  | some (.box _ cs)=>.ptr ((zcl lm cs).drop off)
  | _=>.junk)
 |.own k=>(match lm k with
  | some (.arr _ enc _ xs)=>.sl enc xs
  | _=>.junk)
 |.win k sz lo n=>(match lm k with
  |some (.arr _ enc sz' xs)=>(match Nat.beq sz sz' with
   | true=>.sl enc ((xs.drop lo.toNat).take n.toNat)
   | false=>.junk)
  | _=>.junk)
 | .agg cs=>.agg (zcl lm cs)
 | .ptr cs=>.ptr cs
 | .fn f []=>.fn f []
 |s=>(match ym s with
  | true=>s
  | false=>.junk)
def zmX(lm:Nat->Option Mem):List SV->List SV
 | []=>[]
 | c::cs=>zhT lm c::zmX lm cs
def ziZ(lm:Nat->Option Mem)(s:SV):SV:=
 match s with
 | .fn f cs=>.fn f (zmX lm cs)
 | s=>zhT lm s
def zc0(lm:Nat->Option Mem):List SV->List SV
 | []=>[]
 | c::cs=>ziZ lm c::zc0 lm cs
def zcm(lm:Nat->Option Mem)(s:SV):Bool:=
 match s with
 |.loc k _=>(match lm k with
  | some (.box _ cs)=>ym.flats cs
  | _=>false)
 | .ptr _=>true
 | .agg cs=>ym.flats cs
 | s=>ym s
def zcn(lm:Nat->Option Mem):List SV->Bool
 | []=>true
 | c::cs=>match zcm lm c with
  | true=>zcn lm cs
  | false=>false
def uB(lm:Nat->Option Mem):List SV->Bool
 | []=>true
 |.fn _ cs::r=>(match zcn lm cs with
  | true=>uB lm r
  | false=>false)
 | c::r=>match zcm lm c with
  | true=>uB lm r
  | false=>false
def zsw(lm:Nat->Option Mem)(args:List SV)(r:SV):Bool:=
 match uB lm args with
 | true=>ziY r
 | false=>zix r
inductive D (S:Nat->Prop) (w:World):SV->Value->Prop
 | val (v:Value):D S w (.val v) v
 | pr (p:Prop) (i:Decidable p):D S w (.pr p i) (.bool (@decide p i))
 | agg (cs:List SV) (vs:List Value) (hl:vs.length=cs.length)
   (h:∀(j:Nat) (s:SV) (v:Value),cs[j]? =some s->vs[j]? =some v->D S w s v):D S w (.agg cs) (.agg vs.toArray)
 | nil {α:Type} (enc:α->List SV) (a:Option Addr):D S w (.sl enc []) (.slice a 0 0)
 | nils (a:Option Addr):D S w .nils (.slice a 0 0)
 | anyb (b:Bool):D S w .anyb (.bool b)
 | junk (v:Value):D S w .junk v
 | full {α:Type} (enc:α->List SV) (xs:List α) (a:Option Addr) (h:D S w (.sl enc xs) (.slice a xs.length xs.length)):D S w (.full enc xs) (.slice a xs.length xs.length)
 | sl {α:Type} (enc:α->List SV) (xs:List α) (sz b o cap:Nat) (c:Nat->Nat->Value) (hb:b < w.heap.size) (hS:¬S b)
   (hlen:xs.length<=9223372036854775807) (hcap:xs.length<=cap) (hsz:∀x∈xs,(enc x).length=sz)
   (hc:∀i j,i < xs.length->j < sz->w.cell? ⟨b,o+i*sz+j,none⟩=some (c i j)/\(c i j).oneCell'=true)
   (h:∀(i j:Nat) (x:α) (s:SV),xs[i]? =some x->(enc x)[j]? =some s->D S w s (c i j)):
   D S w (.sl enc xs) (.slice (some ⟨b,o,none⟩) xs.length cap)
 | dptr (cs:List SV) (b o:Nat) (c:Nat->Value) (hb:b < w.heap.size) (hS:¬S b)
   (hc:∀j,j < cs.length->w.cell? ⟨b,o+j,none⟩=some (c j)/\(c j).oneCell'=true)
   (h:∀(j:Nat) (s:SV),cs[j]? =some s->D S w s (c j)):D S w (.dptr cs) (.pointer (some ⟨b,o,none⟩))
 | dfn (f:FuncId) (cs:List SV) (vs:List Value) (hl:vs.length=cs.length)
   (h:∀(j:Nat) (s:SV) (v:Value),cs[j]? =some s->vs[j]? =some v->D S w s v):D S w (.dfn f cs) (.func (.func f) #[] vs.toArray)
 | ifc (t:TypeId) (s:SV) (v:Value) (h:D S w s v):D S w (.ifc t s) (.iface t v)
 | bm (f:FuncId) (cs:List SV) (vs:List Value) (hl:vs.length=cs.length)
   (h:∀(j:Nat) (s:SV) (v:Value),cs[j]? =some s->vs[j]? =some v->D S w s v):D S w (.bm f cs) (.func (.func f) vs.toArray #[])
 | op (v:Value) (h:ifB v=true):D S w (.op v) v
abbrev zk:=Nat->Option Value
inductive G (S Pm:Nat->Prop) (ρ:zk) (w:World):SV->Value->Prop
 | d (s:SV) (v:Value) (h:D S w s v):G S Pm ρ w s v
 | loc (k off b:Nat) (h:ρ k=some (.pointer (some ⟨b,0,none⟩))):G S Pm ρ w (.loc k off) (.pointer (some ⟨b,off,none⟩))
 | own (k:Nat) (v:Value) (h:ρ k=some v) (h1:v.oneCell'=true):G S Pm ρ w (.own k) v
 | eloc (k sz:Nat) (i:Int) (off b len cap:Nat) (h:ρ k=some (.slice (some ⟨b,0,none⟩) len cap)):
   G S Pm ρ w (.eloc k sz i off) (.pointer (some ⟨b,i.toNat*sz+off,none⟩))
 | win (k sz:Nat) (lo n:Int) (b len cap cap':Nat) (h:ρ k=some (.slice (some ⟨b,0,none⟩) len cap)) (h1:lo.toNat+n.toNat<=len) (h2:n.toNat<=cap'):
   G S Pm ρ w (.win k sz lo n) (.slice (some ⟨b,lo.toNat*sz,none⟩) n.toNat cap')
 | ptr (cs:List SV) (b o:Nat) (c:Nat->Value) (hb:b < w.heap.size) (hP:¬Pm b)
   (hc:∀j,j < cs.length->w.cell? ⟨b,o+j,none⟩=some (c j)/\(c j).oneCell'=true)
   (h:∀(j:Nat) (s:SV),cs[j]? =some s->D S w s (c j)):G S Pm ρ w (.ptr cs) (.pointer (some ⟨b,o,none⟩))
 | agg (cs:List SV) (vs:List Value) (hl:vs.length=cs.length)
   (h:∀(j:Nat) (s:SV) (v:Value),cs[j]? =some s->vs[j]? =some v->G S Pm ρ w s v):G S Pm ρ w (.agg cs) (.agg vs.toArray)
 | tup (cs:List SV) (vs:List Value) (hl:vs.length=cs.length)
   (h:∀(j:Nat) (s:SV) (v:Value),cs[j]? =some s->vs[j]? =some v->G S Pm ρ w s v):G S Pm ρ w (.tup cs) (.tuple vs.toArray)
 | fn (f:FuncId) (cs:List SV) (vs:List Value) (hl:vs.length=cs.length)
   (h:∀(j:Nat) (s:SV) (v:Value),cs[j]? =some s->vs[j]? =some v->G S Pm ρ w s v):G S Pm ρ w (.fn f cs) (.func (.func f) #[] vs.toArray)
 | ifc (t:TypeId) (s:SV) (v:Value) (h:G S Pm ρ w s v):G S Pm ρ w (.ifc t s) (.iface t v)
def Gs(S Pm:Nat->Prop)(ρ:zk)(w:World)(cs:List SV)(vs:List Value):Prop:=
 vs.length=cs.length/\∀(j:Nat) (s:SV) (v:Value),cs[j]? =some s->vs[j]? =some v->G S Pm ρ w s v
def qz:Value->Option Nat
 | .pointer (some a)=>some a.block
 | .slice (some a) _ _=>some a.block
 | .map (some r)=>some r
 | _=>none
def Own(M:List (Nat×Mem))(ρ:zk)(b:Nat):Prop:=∃k m v,(k,m)∈M/\ρ k=some v/\qz v=some b
def j8(S Pm:Nat->Prop)(ρ:zk)(w:World)(k:Nat):Mem->Prop
 | .box T cs=>∃b vs,ρ k=some (.pointer (some ⟨b,0,none⟩))/\w.heap[b]? =some (.cells (List.toArray vs) T (0,0))/\
   vs.length=cs.length/\(∀v∈vs,v.oneCell'=true)/\∀(j:Nat) (s:SV) (v:Value),cs[j]? =some s->vs[j]? =some v->G S Pm ρ w s v
 | .arr T enc sz xs=>∃v cells,ρ k=some v/\w.ownsRow 0 T sz v xs.length cells/\xs.length<=281474976710656/\(∀u∈cells,u.oneCell'=true)/\
   (∀x∈xs,(enc x).length=sz)/\
   ∀(i j:Nat) x (s:SV),xs[i]? =some x->(enc x)[j]? =some s->∃u,cells[i*sz+j]? =some u/\D S w s u
 | .garr T sz xs=>∃v cells,ρ k=some v/\w.ownsRow 0 T sz v xs.length cells/\xs.length<=281474976710656/\(∀u∈cells,u.oneCell'=true)/\
   (∀x∈xs,x.length=sz)/\
   ∀(i j:Nat) x (s:SV),xs[i]? =some x->x[j]? =some s->∃u,cells[i*sz+j]? =some u/\G S Pm ρ w s u
 | .map es=>∃r ents clock,ρ k=some (.map (some r))/\w.heap[r]? =some (.map ents clock)/\ents.size=es.length/\
   ∀(i:Nat) (n:Int) (s:SV),es[i]? =some (n,s)->∃e,ents[i]? =some e/\e.key=.int .i64 n/\D S w s e.val
def GL(g:Nat)(v:Value):Prop:=(g,v)∈([(0,.iface 321 (.agg #[.pointer (some ⟨3,231,none⟩)]))]:List (Nat×Value))
structure zO (Keep:Nat->Prop) (M:List (Nat×Mem)) (ρ:zk) (w:World):Prop where
 rel:∀k m,(k,m)∈M->j8 (λb=>Keep b∨Own M ρ b) (Own M ρ) ρ w k m
 keys:M.Pairwise λa b=>a.1≠b.1
 apart:∀k m k' m' v v' b,(k,m)∈M->(k',m')∈M->k≠k'->ρ k=some v->ρ k'=some v'->qz v=some b->qz v'≠some b
 old:∀b,Own M ρ b->b < w.heap.size/\¬Keep b
 kp:∀b,Keep b->b < w.heap.size
 gl:∀g v,GL g v->¬Own M ρ g/\w.cell? ⟨g,0,none⟩=some v
def qc(w w':World):Prop:=w'.output=w.output/\∀a,w'.frozen? a=w.frozen? a
structure Stp (W W':Nat->Prop) (ρ ρ':zk) (w w':World):Prop where
 os:w'.os=w.os
 tape:w'.tape=w.tape
 output:qc w w'
 size:w.heap.size<=w'.heap.size
 block:∀b,b < w.heap.size->¬W b->w'.heap[b]? =w.heap[b]?
 own:∀b,W' b->W b∨w.heap.size<=b
 rho:∀k v,ρ k=some v->ρ' k=some v
variable{w:World}
theorem zoz{g:Nat}{v:Value}(h:w.cell? ⟨g,0,none⟩=some v):g < w.heap.size:=by
 rcases Qe g w.heap.size with h1 | h1
 ·exact h1
 ·simp[World.cell?,Kl h1]at h
variable{w':World}
theorem zi0{g:Nat}(h:w'.heap[g]? =w.heap[g]?):w'.cell? ⟨g,0,none⟩=w.cell? ⟨g,0,none⟩:=by
 simp only[World.cell?,h]
variable{Keep:Nat->Prop}{M:List (Nat×Mem)}{ρ:zk}
theorem zO.glc(hm:zO Keep M ρ w){g:Nat}{v:Value}(h:GL g v):w.cell? ⟨g,0,none⟩=some v:=(hm.gl g v h).2
variable{M':List (Nat×Mem)}{ρ':zk}
theorem zO.glS(hm:zO Keep M ρ w)(hs:Stp (Own M ρ) (Own M' ρ') ρ ρ' w w'):∀g v,GL g v->¬Own M' ρ' g/\w'.cell? ⟨g,0,none⟩=some v:=λg v h=>by
 obtain⟨h1,h2⟩:=hm.gl g v h;have hl:=zoz h2;exact⟨λho=>(hs.own g ho).elim h1 λk=>by omega,(zi0 (hs.block g hl h1)).trans h2⟩
theorem zO.glO(hm:zO Keep M ρ w)(hown:∀b,Own M' ρ' b->Own M ρ b):∀g v,GL g v->¬Own M' ρ' g/\w.cell? ⟨g,0,none⟩=some v:=λg v h=>
 ⟨λho=>(hm.gl g v h).1 (hown g ho),hm.glc h⟩
def zbP(P:Program)(f:FuncId):Prop:=∃fn,P.funcs[f]? =some fn/\(fn.name== "runtime.NumGoroutine")=false/\fn.body.isNone=false
def qI(P:Program)(f:FuncId)(args:List SV)(M:List (Nat×Mem))(r:SV)(M':List (Nat×Mem)):Prop:=
 zbP P f/\∀(Keep:Nat->Prop) (ρ:zk) (w:World) (vs:List Value),(∀b,Keep b->b < w.heap.size)->zO Keep M ρ w->(∀k,M.length<=k->ρ k=none)->
  Gs (λb=>Keep b∨Own M ρ b) (Own M ρ) ρ w args vs->
  Calls P f vs.toArray w λe w'=>∃v ρ',e=.returned v/\Stp (Own M ρ) (Own M' ρ') ρ ρ' w w'/\zO Keep M' ρ' w'/\
   G (λb=>Keep b∨Own M' ρ' b) (Own M' ρ') ρ' w' r v
structure Env where
 w0:World
 ρ0:zk
 Keep:Nat->Prop
 W0:Nat->Prop
 ds:List Deferred
structure Rel (E:Env) (σ:St) (ρ:zk) (a:Act) (w:World):Prop where
 size:a.tmps.size=σ.nt
 defers:a.defers=E.ds
 regs:∀t s,qe σ.L t=some s->t < σ.nt/\G (λb=>E.Keep b∨Own σ.M ρ b) (Own σ.M ρ) ρ w s (a.tmps.getD t undef)
 mem:zO E.Keep σ.M ρ w
 fresh:∀k,σ.nk<=k->ρ k=none
 stp:Stp E.W0 (Own σ.M ρ) E.ρ0 ρ E.w0 w
 keep:∀b,E.Keep b->b < E.w0.heap.size
 low:∀k v,E.ρ0 k=some v->k < σ.n0
def zhU:Mem->Prop
 | .box _ cs=>ym.flats cs=true
 | .arr _ enc _ xs=>∀x∈xs,ym.flats (enc x)=true
 | .garr _ _ _=>False
 | .map es=>ym.flats (es.map (·.2))=true
def give(lm:Nat->Option Mem)(k:Nat)(s:SV):SV:=
 match s with
 |.loc k' off=>(match Nat.beq k' k with
  | true=>.loc 0 off
  | false=>ziZ lm (.loc k' off))
 |.own k'=>(match Nat.beq k' k with
  | true=>.own 0
  | false=>ziZ lm (.own k'))
 |.win k' sz lo n=>(match Nat.beq k' k with
  | true=>.win 0 sz lo n
  | false=>ziZ lm (.win k' sz lo n))
 | s=>ziZ lm s
def zv1(lm:Nat->Option Mem)(k:Nat):List SV->List SV
 | []=>[]
 | c::cs=>give lm k c::zv1 lm k cs
def zlw(k:Nat):List SV->Bool
 | []=>true
 |.loc k' _::r=>(match Nat.beq k' k with
  | true=>false
  | false=>zlw k r)
 | _::r=>zlw k r
def zbH(lm:Nat->Option Mem)(k:Nat):List SV->Bool
 | []=>true
 |.loc k' off::r=>(match Nat.beq k' k with
  | true=>zbH lm k r
  | false=>uD (uB lm [.loc k' off]) (zbH lm k r))
 |.own k'::r=>(match Nat.beq k' k with
  | true=>zbH lm k r
  | false=>false)
 |.win k' _ _ _::r=>(match Nat.beq k' k with
  | true=>zbH lm k r
  | false=>false)
 | .fn f cs::r=>uD (zlw k cs) (uD (uB lm [.fn f cs]) (zbH lm k r))
 | s::r=>uD (uB lm [s]) (zbH lm k r)
def ziy:Mem->Prop
 | .box _ cs=>uF.scalars cs=true
 | .arr _ enc _ xs=>∀x∈xs,uF.scalars (enc x)=true
 | .garr _ _ _=>False
 | .map es=>uF.scalars (es.map (·.2))=true
def mv(κ:Nat):SV->SV
 | .own _=>.own κ
 | .loc _ off=>.loc κ off
 | .agg cs=>.agg (mvs κ cs)
 | .tup cs=>.tup (mvs κ cs)
 | .fn f cs=>.fn f (mvs κ cs)
 | .ifc t s=>.ifc t (mv κ s)
 | s=>s
 where
 mvs (κ:Nat):List SV->List SV
  | []=>[]
  | c::cs=>mv κ c::mvs κ cs
def zaV:SV->Bool
 | .own k=>Nat.beq k 0
 | .loc k _=>Nat.beq k 0
 | .val _=>true
 | .pr _ _=>true
 | .junk=>true
 | .agg cs=>mvOKs cs
 | .tup cs=>mvOKs cs
 | .fn _ cs=>mvOKs cs
 | .ifc _ s=>zaV s
 | _=>false
 where
 mvOKs:List SV->Bool
  | []=>true
  | c::cs=>match zaV c with
   | true=>mvOKs cs
   | false=>false
def zv2:Option Mem->Bool
 | some (.arr _ _ _ _)=>true
 | _=>false
def zv3(lm:Nat->Option Mem)(k:Nat):List SV->Bool
 | []=>true
 |.own k'::r=>(match Nat.beq k' k with
  | true=>zv3 lm k r
  | false=>false)
 | s::r=>uD (uB lm [s]) (zv3 lm k r)
def LE(s r:SV):Prop:=∀S Pm ρ w v,G S Pm ρ w s v->G S Pm ρ w r v
inductive LEs:List SV->List SV->Prop
 | nil:LEs [] []
 | cons {a b:SV} {za bs:List SV} (h:LE a b) (t:LEs za bs):LEs (a::za) (b::bs)
def rn(ks:List Nat)(κ j:Nat):Nat:=
 match ks[j]? with
 | some k=>k
 | none=>κ+(j - ks.length)
def zaD(ks:List Nat)(κ:Nat):SV->SV
 | .loc k off=>.loc (rn ks κ k) off
 | .own k=>.own (rn ks κ k)
 | .eloc k sz i off=>.eloc (rn ks κ k) sz i off
 | .win k sz lo n=>.win (rn ks κ k) sz lo n
 | .agg cs=>.agg (rens ks κ cs)
 | .tup cs=>.tup (rens ks κ cs)
 | .fn f cs=>.fn f (rens ks κ cs)
 | .ifc t s=>.ifc t (zaD ks κ s)
 | s=>s
 where
 rens (ks:List Nat) (κ:Nat):List SV->List SV
  | []=>[]
  | c::cs=>zaD ks κ c::rens ks κ cs
def vM(n:Nat):SV->Bool
 | .loc k _=>Nat.blt k n
 | .own k=>Nat.blt k n
 | .eloc k _ _ _=>Nat.blt k n
 | .win k _ _ _=>Nat.blt k n
 | .agg cs=>lows n cs
 | .tup cs=>lows n cs
 | .fn _ cs=>lows n cs
 | .ifc _ s=>vM n s
 | _=>true
 where
 lows (n:Nat):List SV->Bool
  | []=>true
  | c::cs=>match vM n c with
   | true=>lows n cs
   | false=>false
def zco(n:Nat):SV->Bool
 | .loc k _=>Nat.blt k n
 | .own k=>Nat.blt k n
 | .eloc k _ _ _=>Nat.blt k n
 | .win k _ _ _=>Nat.blt k n
 | .ptr _=>false
 | .agg cs=>outs n cs
 | .tup cs=>outs n cs
 | .fn _ cs=>outs n cs
 | .ifc _ s=>zco n s
 | _=>true
 where
 outs (n:Nat):List SV->Bool
  | []=>true
  | c::cs=>match zco n c with
   | true=>outs n cs
   | false=>false
def zlf(ks:List Nat)(κ:Nat):Mem->Mem
 | .box T cs=>.box T (zaD.rens ks κ cs)
 | .garr T sz xs=>.garr T sz (xs.map (zaD.rens ks κ))
 | m=>m
def zbq(ks:List Nat)(κ:Nat):List (Nat×Mem)->List (Nat×Mem)
 | []=>[]
 | (j,m)::r=>(rn ks κ j,zlf ks κ m)::zbq ks κ r
def lowM(n:Nat):Mem->Prop
 | .box _ cs=>vM.lows n cs=true
 | .garr _ _ xs=>∀x∈xs,vM.lows n x=true
 | _=>True
def outM(n:Nat):Mem->Prop
 | .box _ cs=>zco.outs n cs=true
 | .garr _ _ xs=>∀x∈xs,zco.outs n x=true
 | _=>True
def ziz(lm:Nat->Option Mem)(ks0:List Nat)(κ:Nat)(Mc:List (Nat×Mem)):Nat->List Nat->Prop
 | _,[]=>True
 | i,k::r=>(∃m,zX Mc i=some m/\lm k=some (zlf ks0 κ m)/\lowM ks0.length m)/\ziz lm ks0 κ Mc (i+1) r
def zmY(n:Nat):List (Nat×Mem)->Prop
 | []=>True
 | (j,m)::r=>(Nat.blt j n=true/\outM n m)/\zmY n r
def zra(k:Nat):List Nat->Bool
 | []=>false
 | x::r=>match Nat.beq x k with
  | true=>true
  | false=>zra k r
def zde:List Nat->Bool
 | []=>true
 | x::r=>match zra x r with
  | true=>false
  | false=>zde r
def zoA(n:Nat):List (Nat×Mem)->Bool
 | []=>true
 | (k,_)::r=>uD (Nat.blt k n) (zoA n r)
def memM(k:Nat):List (Nat×Mem)->Bool
 | []=>false
 | (q,_)::r=>match Nat.beq q k with
  | true=>true
  | false=>memM k r
def zi1:List (Nat×Mem)->Bool
 | []=>true
 | (k,_)::r=>match memM k r with
  | true=>false
  | false=>zi1 r
def newB(ks:List Nat)(κ nn:Nat):List (Nat×Mem)->Bool
 | []=>true
 | (k,_)::r=>uD (zra k ks||(Nat.ble κ k&&Nat.blt k (κ+nn))) (newB ks κ nn r)
def zmZ(k:Nat):List (Nat×Mem)->Bool
 | []=>false
 | (q,_)::r=>match Nat.beq q k with
  | true=>true
  | false=>zmZ k r
def zm0(new:List (Nat×Mem))(κ:Nat):Nat->Bool
 | 0=>true
 | n+1=>uD (zmZ (κ+n) new) (zm0 new κ n)
def zm1(l:List SV):(List SV->Prop)->Prop:=
 List.rec (motive:=λ_=>(List SV->Prop)->Prop) (λK=>K []) (λc _ ih K=>zaz c λc=>ih λr=>K (c::r)) l
def zm2(m:Mem)(K:Mem->Prop):Prop:=
 match m with
 | .box T cs=>zm1 cs λcs=>K (.box T cs)
 | .arr T enc sz xs=>K (.arr T enc sz xs)
 | .garr T sz xs=>K (.garr T sz xs)
 | .map es=>K (.map es)
def zA3(n:Nat):(Nat->Prop)->Prop:=
 Nat.rec (motive:=λ_=>(Nat->Prop)->Prop) (λK=>K 0) (λ_ ih K=>ih λm=>K (m+1)) n
def ziA(l:List (Nat×Mem)):(List (Nat×Mem)->Prop)->Prop:=
 List.rec (motive:=λ_=>(List (Nat×Mem)->Prop)->Prop) (λK=>K []) (λx _ ih K=>zA3 x.1 λk=>zm2 x.2 λm=>ih λr=>K ((k,m)::r)) l
inductive zb (P:Program) (lm:Nat->Option Mem) (κ:Nat) (f:FuncId) (args:List SV) (K:SV->MD->Prop):Prop
 | to (r:SV) (h:qI P f (zc0 lm args) [] r []) (hr:zsw lm args r=true) (k:zaz r λr=>K r .none)
 | fresh (m:Mem) (r:SV) (h:qI P f (zc0 lm args) [] r [(0,m)]) (hr:zaV r=true) (hm:zhU m) (hc:uB lm args=true∨ziy m) (k:zaz (mv κ r) λr=>K r (.push m))
 | see (k:Nat) (r:SV) (h:qI P f (zc0 lm args) [] r []) (hk:zv2 (lm k)=true) (hc:zv3 lm k args=true) (hr:ziY r=true) (kk:zaz r λr=>K r (.drop k))
 | hand (k:Nat) (m m':Mem) (r:SV) (hk:lm k=some m) (h:qI P f (zv1 lm k args) [(0,m)] r [(0,m')])
   (hm:zhU m) (hm':zhU m') (hc:zbH lm k args=true) (hr:ziY r=true) (k:zaz r λr=>K r (.set k m'))
 | give (ks:List Nat) (nn:Nat) (args':List SV) (Mc M':List (Nat×Mem)) (r:SV) (h:qI P f args' Mc r M') (ha:LEs args (zaD.rens ks κ args')) (hl:vM.lows ks.length args'=true)
   (hn:zde ks=true) (hk:uD (Nat.beq Mc.length ks.length) (uD (zoA ks.length Mc) (zi1 Mc))=true) (hM:ziz lm ks κ Mc 0 ks) (hr:zco (ks.length+nn) r=true) (hM':zmY (ks.length+nn) M')
   (k:ziA (zbq ks κ M') λnew=>zaz (zaD ks κ r) λr=>K r (.give ks new nn))
variable{P:Program}{f:FuncId}
theorem zb.t{lm:Nat->Option Mem}{κ:Nat}{args:List SV}{K:SV->MD->Prop}{r:SV}(h:qI P f (zc0 lm args) [] r [])(k:zaz r λr=>K r .none)(hr:zsw lm args r=true:=by rfl):zb P lm κ f args K:=.to r h hr k
def zlx(s:SV):Bool:=
 match s with
 |.val v=>(match v with
  | .agg _=>false
  | .tuple _=>false
  | _=>true)
 | .agg _=>false
 | .tup _=>false
 | .junk=>false
 | _=>true
def jO:List SV->Bool
 | []=>true
 | c::cs=>match zlx c with
  | true=>jO cs
  | false=>false
def jF(o:Option Operand)(l:List SV)(dflt:Int)(K:Int->List SV->Prop):Prop:=
 match o with
 | none=>K dflt l
 | some _=>match l with
  | .val (.int _ n)::r=>K n r
  | _=>False
def fstO(p:Option (Nat×Nat)):Nat:=
 match p with
 | some (a,_)=>a
 | none=>0
def zcp(pl:Nat->Option (Nat×Nat)):List Nat->List SV->List SV->List SV
 | i::r,s::l,cs=>zcp pl r l (yu cs (fstO (pl i)) (kT s))
 | _,_,cs=>cs
def zbI(pl:Nat->Option (Nat×Nat))(n:Nat):List Nat->List SV->Bool
 |i::r,s::l=>(match pl i with
  | some (off,sz)=>uD (Nat.beq (kT s).length sz) (uD (Nat.ble (off+sz) n) (uD (jO (kT s)) (zbI pl n r l)))
  | none=>false)
 | [],[]=>true
 | _,_=>false
def zi2(Γ:List (TypeId×TI))(fs:List (Nat×TypeId))(i:Nat):Option (Nat×Nat):=
 match zox fs i with
 |some (off,ft)=>(match ti Γ ft with
  | some j=>some (off,j.sz)
  | none=>none)
 | none=>none
def zaq(sz i:Nat):Option (Nat×Nat):=some (i*sz,sz)
def rep{α:Type 1}(n:Nat)(cs:List α):List α:=
 match n with
 | 0=>[]
 | n+1=>cs++rep n cs
def zeN{α:Type _}(enc:α->List SV)(xs:List α):List SV:=
 match xs with
 | []=>[]
 | x::xs=>enc x++zeN enc xs
def zA4(lm:Nat->Option Mem)(s:SV)(K:Int->Prop):Prop:=
 match s with
 | .sl _ xs=>xs.length<=9223372036854775807->K xs.length
 |.own k=>(match lm k with
  | some (.arr _ _ _ xs)=>xs.length<=281474976710656->K xs.length
  | some (.garr _ _ xs)=>xs.length<=281474976710656->K xs.length
  | _=>False)
 | .val (.slice none 0 0)=>K 0
 | .nils=>K 0
 | .win _ _ _ n=>Ob (0<=n) (K n)
 | _=>False
def zug(s:List SV)(K:IntKind->List Int->Prop):Prop:=
 match s with
 |.val (.int k m)::r=>(match r with
  | []=>K k [m]
  | _=>zug r λ_ l=>K k (m::l))
 | _=>False
def zbJ:Int->List Int->Int
 | x,[]=>x
 | x,y::r=>zbJ (min x y) r
def zc7:Int->List Int->Int
 | x,[]=>x
 | x,y::r=>zc7 (max x y) r
variable{α:Type}
def zcq(lm:Nat->Option Mem)(s:SV)(enc:α->List SV)(ys:List α):Prop:=
 match s with
 | .val (.slice none 0 0)=>ys=[]
 | .own k=>zhT lm (.own k)=.sl enc ys
 | s=>s=.sl enc ys
inductive Sl (p q:Prop) (r:Prop:=False):Prop
 | see (h:p)
 | keep (h:q)
 | win (h:r)
def ziB(Γ:List (TypeId×TI))(tys:List TypeId)(s x:SV)(lm:Nat->Option Mem)(κ:Nat)(K:SV->MD->Prop):Prop:=
 match tys with
 |[t,t']=>zS (Nat.beq t t') (kH Γ t λi=>(match i.kind with
  |.slice e=>kH Γ e λj=>(match s with
   | .val (.slice none 0 0)=>∃(α:Type) (enc:α->List SV) (ys:List α),zcq lm x enc ys/\
     Ob ((ys.length:Int)*j.bytes<=140737488355328/\ys.length<=281474976710656/\0 < j.sz/\∀x∈ys,(enc x).length=j.sz) (K (.own κ) (.push (.arr e enc j.sz ys)))
   |.own k=>(match lm k with
    |some (.arr e' enc sz xs)=>zS (Nat.beq e e') (zS (Nat.beq sz j.sz) (∃ys,zcq lm x enc ys/\
     Ob ((xs.length+ys.length:Int)*j.bytes<=140737488355328/\xs.length+ys.length<=281474976710656/\0 < j.sz/\∀x∈ys,(enc x).length=j.sz)
      (K (.own κ) (.repl k (.arr e enc sz (xs++ys))))))
    |some (.garr e' sz xs)=>zS (Nat.beq e e') (zS (Nat.beq sz j.sz) (∃(α:Type) (enc:α->List SV) (ys:List α),zcq lm x enc ys/\
     Ob ((xs.length+ys.length:Int)*j.bytes<=140737488355328/\xs.length+ys.length<=281474976710656/\0 < j.sz/\∀x∈ys,(enc x).length=j.sz)
      (K (.own κ) (.repl k (.garr e sz (xs++ys.map enc))))))
    | _=>False)
   | .full enc xs=>∃ys,zcq lm x enc ys/\
     Ob (ys≠[]/\(xs.length+ys.length:Int)*j.bytes<=140737488355328/\xs.length+ys.length<=281474976710656/\0 < j.sz/\(∀x∈xs,(enc x).length=j.sz)/\∀x∈ys,(enc x).length=j.sz)
      (K (.own κ) (.push (.arr e enc j.sz (xs++ys))))
   | .nils=>Sl (∃(α:Type) (enc:α->List SV) (ys:List α),zcq lm x enc ys/\
     Ob (ys≠[]/\(ys.length:Int)*j.bytes<=140737488355328/\ys.length<=281474976710656/\0 < j.sz/\∀x∈ys,(enc x).length=j.sz) (K (.own κ) (.push (.arr e enc j.sz ys))))
     (∃(α:Type) (enc:α->List SV),zcq lm x enc ([]:List α)/\0 < j.sz/\K .nils .none)
   | _=>False)
  | _=>False))
 | _=>False
def zi3(Γ:List (TypeId×TI))(tys:List TypeId)(s:SV)(e':TypeId)(sz':Nat)(ys:List (List SV))(lm:Nat->Option Mem)(κ:Nat)(K:SV->MD->Prop):Prop:=
 match tys with
 |[t,t']=>zS (Nat.beq t t') (kH Γ t λi=>(match i.kind with
  |.slice e=>kH Γ e λj=>zS (Nat.beq e e') (zS (Nat.beq sz' j.sz) (match s with
   | .val (.slice none 0 0)=>Ob ((ys.length:Int)*j.bytes<=140737488355328/\ys.length<=281474976710656/\0 < j.sz) (K (.own κ) (.push (.garr e j.sz ys)))
   |.own k=>(match lm k with
    | some (.garr e'' sz xs)=>zS (Nat.beq e e'') (zS (Nat.beq sz j.sz)
      (Ob ((xs.length+ys.length:Int)*j.bytes<=140737488355328/\xs.length+ys.length<=281474976710656/\0 < j.sz) (K (.own κ) (.repl k (.garr e sz (xs++ys))))))
    | _=>False)
   | _=>False))
  | _=>False))
 | _=>False
def zsx(Γ:List (TypeId×TI))(tys:List TypeId)(s:SV)(n:Int)(κ:Nat)(K:SV->MD->Prop):Prop:=
 match tys,s with
 |[t,t'],.val (.slice none 0 0)=>kH Γ t λi=>kH Γ t' λi'=>(match i.kind,i'.kind with
  | .slice e,.int _=>kH Γ e λj=>∃(α:Type) (enc:α->List SV) (z:α),
    enc z=vals j.zero/\Ob (0 < j.sz/\0 < n/\n*j.bytes<=140737488355328/\n<=281474976710656) (K (.own κ) (.push (.arr e enc j.sz (List.replicate n.toNat z))))
  | _,_=>False)
 | _,_=>False
def zfM(lm:Nat->Option Mem)(k:Nat)(T:TypeId)(enc:α->List SV)(sz:Nat)(xs:List α)(lo n:Int)(x:SV)(K:SV->MD->Prop):Prop:=
 ∃ys,zcq lm x enc ys/\Ob (0 < sz/\0<=lo/\0<=n/\lo+n<=xs.length/\∀y∈ys,(enc y).length=sz)
  (K (.val (.int .i64 (min ys.length n.toNat:Nat))) (.set k (.arr T enc sz (xs.take lo.toNat++(ys.take n.toNat++xs.drop (lo.toNat+min ys.length n.toNat))))))
def zi4(Γ:List (TypeId×TI))(b:Builtin)(tys:List TypeId)(args:List SV)(lm:Nat->Option Mem)(κ:Nat)(K:SV->MD->Prop):Prop:=
 match b,args with
 |.len,[s]=>(match tys with
  |[t]=>kH Γ t λi=>(match i.kind with
   | .slice _=>zA4 lm s λn=>K (.val (.int .i64 n)) .none
   | _=>False)
  | _=>False)
 |.cap,[s]=>(match tys with
  |[t]=>kH Γ t λi=>(match i.kind with
   |.slice _=>(match s with
    | .val (.slice none 0 0)=>K (.val (.int .i64 0)) .none
    | .nils=>K (.val (.int .i64 0)) .none
    | _=>False)
   | _=>False)
  | _=>False)
 |.min,s=>zug s λk l=>(match l with
  | x::r=>K (.val (.int k (zbJ x r))) .none
  | []=>False)
 |.max,s=>zug s λk l=>(match l with
  | x::r=>K (.val (.int k (zc7 x r))) .none
  | []=>False)
 |.append,[s,x]=>(match x with
  | .val (.int _ n)=>zsx Γ tys s n κ K
  |.own k'=>(match lm k' with
   | some (.garr e' sz' ys)=>zi3 Γ tys s e' sz' ys lm κ K
   | _=>ziB Γ tys s (.own k') lm κ K)
  | x=>ziB Γ tys s x lm κ K)
 |.copy,[d,x]=>(match tys with
  |[t,_]=>kH Γ t λi=>(match i.kind with
   |.slice e=>kH Γ e λj=>(match d with
    |.own k=>(match lm k with
     | some (.arr T enc sz xs)=>zS (Nat.beq sz j.sz) (zfM lm k T enc sz xs 0 xs.length x K)
     | _=>False)
    |.win k sz' lo n=>(match lm k with
     | some (.arr T enc sz xs)=>zS (Nat.beq sz j.sz) (zS (Nat.beq sz' sz) (zfM lm k T enc sz xs lo n x K))
     | _=>False)
    | _=>False)
   | _=>False)
  | _=>False)
 |.clear,[d]=>(match tys with
  |[t]=>kH Γ t λi=>(match i.kind with
   |.slice e=>kH Γ e λj=>(match d with
    |.win k sz' lo n=>(match lm k with
     | some (.arr T (α:=α) enc sz xs)=>zS (Nat.beq sz j.sz) (zS (Nat.beq sz' sz) (∃z:α,enc z=vals j.zero/\
       Ob (0<=lo/\0 < n/\lo+n<=xs.length) (K (.val (.tuple #[])) (.set k (.arr T enc sz (xs.take lo.toNat++(List.replicate n.toNat z++xs.drop (lo.toNat+n.toNat))))))))
     | _=>False)
    | _=>False)
   | _=>False)
  | _=>False)
 | _,_=>False
def zv4(Γ:List (TypeId×TI))(t:TypeId)(s:SV)(lm:Nat->Option Mem)(K:SV->MD->Prop):Prop:=
 kH Γ t λi=>(match s with
  |.loc k off=>(match lm k with
   | some (.box _ cs)=>zS (Nat.ble (off+i.sz) cs.length) (mkV i.kind.agg i.sz (cs.drop off) λs=>K s .none)
   | _=>False)
  | .ptr cs=>zS (Nat.ble i.sz cs.length) (mkV i.kind.agg i.sz cs λs=>K s .none)
  | .dptr cs=>zS (Nat.ble i.sz cs.length) (mkV i.kind.agg i.sz cs λs=>K s .none)
  |.eloc k sz n off=>(match lm k with
   | some (.arr _ enc sz' xs)=>zS (Nat.beq sz sz') (zS (Nat.ble (off+i.sz) sz) (Ob (0<=n/\n < xs.length) (∀x,xs[n.toNat]? =some x->
     mkV i.kind.agg i.sz ((enc x).drop off) λs=>K s .none)))
   | some (.garr _ sz' xs)=>zS (Nat.beq sz sz') (zS (Nat.ble (off+i.sz) sz) (Ob (0<=n/\n < xs.length) (∀x,xs[n.toNat]? =some x->
     mkV i.kind.agg i.sz (x.drop off) λs=>K s .none)))
   | _=>False)
  | _=>False)
def zrb(Γ:List (TypeId×TI))(t:TypeId)(s v:SV)(lm:Nat->Option Mem)(K:SV->MD->Prop):Prop:=
 kH Γ t λi=>zS (jO (kT v)) (zS (Nat.beq (kT v).length i.sz) (match s with
  |.loc k off=>(match lm k with
   | some (.box T cs)=>zS (Nat.ble (off+i.sz) cs.length) (K (.val undef) (.set k (.box T (yu cs off (kT v)))))
   | _=>False)
  |.eloc k sz n off=>(match lm k with
   |some (.arr T (α:=α) enc sz' xs)=>zS (Nat.beq sz sz') (zS (Nat.ble (off+i.sz) sz) (match ym.flats (kT v) with
    |true=>(Ob (0<=n/\n < xs.length) (∀x,xs[n.toNat]? =some x->
     ∃x':α,enc x'=yu (enc x) off (kT v)/\K (.val undef) (.set k (.arr T enc sz (xs.set n.toNat x')))))
    |false=>(Ob (0<=n/\n < xs.length) (∀x,xs[n.toNat]? =some x->
     K (.val undef) (.set k (.garr T sz ((xs.map enc).set n.toNat (yu (enc x) off (kT v)))))))))
   | some (.garr T sz' xs)=>zS (Nat.beq sz sz') (zS (Nat.ble (off+i.sz) sz) (Ob (0<=n/\n < xs.length) (∀x,xs[n.toNat]? =some x->
     K (.val undef) (.set k (.garr T sz (xs.set n.toNat (yu x off (kT v))))))))
   | _=>False)
  | _=>False))
def zv5(hi mx:Option Operand):Bool:=
 match mx,hi with
 | some _,none=>false
 | _,_=>true
def zv6:Option Operand->Bool
 |some (.const (.int _ n))=>(match n with
  | .ofNat m=>Nat.beq m 0
  | _=>false)
 | _=>false
inductive zv7 (p q:Prop):Prop
 | sl (h:p)
 | full (h:q)
def zbK:Option Operand->Bool
 | none=>true
 | _=>false
def zrc(Γ:List (TypeId×TI))(t:TypeId)(lo hi mx:Option Operand)(svs:List SV)(lm:Nat->Option Mem)(κ:Nat)(K:SV->MD->Prop):Prop:=
 zS (zv5 hi mx) (match svs with
 |s::rest=>kH Γ t λi=>(match i.kind with
  |.slice e=>kH Γ e λj=>(match s with
   |.sl enc xs=>(match uD (zv6 hi) (zv6 mx) with
    | true=>jF lo rest 0 λl rest=>jF hi rest 0 λh rest=>jF mx rest 0 λm _=>Ob (l=0/\h=0/\m=0) (K .nils .none)
    |false=>jF lo rest 0 λl rest=>jF hi rest xs.length λh rest=>jF mx rest xs.length λm _=>(match zbK mx with
     | true=>Ob ((0<=l/\l<=h/\h<=m/\m<=xs.length)/\∀x∈xs,(enc x).length=j.sz) (K (.sl enc ((xs.drop l.toNat).take (h - l).toNat)) .none)
     | false=>zv7 (Ob ((0<=l/\l<=h/\h<=m/\m<=xs.length)/\∀x∈xs,(enc x).length=j.sz) (K (.sl enc ((xs.drop l.toNat).take (h - l).toNat)) .none))
      (Ob ((0<=l/\l<=h/\h=m/\m<=xs.length)/\∀x∈xs,(enc x).length=j.sz) (K (.full enc ((xs.drop l.toNat).take (h - l).toNat)) .none))))
   | .val (.slice none 0 0)=>jF lo rest 0 λl rest=>jF hi rest 0 λh rest=>jF mx rest 0 λm _=>Ob (l=0/\h=0/\m=0) (K (.val (.slice none 0 0)) .none)
   |.own k=>(match lm k with
    |some (.arr T enc sz xs)=>zS (Nat.beq sz j.sz) (jF lo rest 0 λl rest=>jF hi rest xs.length λh rest=>jF mx rest xs.length λm _=>
     Sl (Ob (0<=l/\l<=h/\h<=m/\m<=xs.length) (K (.sl enc ((xs.drop l.toNat).take (h - l).toNat)) (.drop k)))
      (zS (zbK mx) (Ob (l=0/\0<=h/\h<=xs.length) (K (.own κ) (.repl k (.arr T enc sz (xs.take h.toNat))))))
      (Ob (0<=l/\l < h/\h<=m/\m<=xs.length) (K (.win k sz l (h - l)) .none)))
    | some (.garr T sz xs)=>zS (Nat.beq sz j.sz) (zS (zbK mx) (jF lo rest 0 λl rest=>jF hi rest xs.length λh _=>
      (Ob (l=0/\0<=h/\h<=xs.length) (K (.own κ) (.repl k (.garr T sz (xs.take h.toNat)))))))
    | _=>False)
   | .win k sz at0 n=>zS (Nat.beq sz j.sz) (jF lo rest 0 λl rest=>jF hi rest n λh rest=>jF mx rest n λm _=>
     Ob (0<=at0/\0<=l/\l < h/\h<=m/\m<=n) (K (.win k sz (at0+l) (h - l)) .none))
   | _=>False)
  | _=>False)
 | []=>False)
def zly(Γ:List (TypeId×TI))(t:TypeId)(lo hi mx:Option Operand)(cs:List SV)(K:SV->MD->Prop):Prop:=
 zS (uD (zbK lo) (uD (zbK hi) (zbK mx))) (kH Γ t λi=>(match i.kind with
  | .arr n e=>kH Γ e λj=>∃(α:Type) (enc:α->List SV) (xs:List α),zeN enc xs=cs/\
    Ob (xs.length=n/\n<=281474976710656/\∀x∈xs,(enc x).length=j.sz) (K (.sl enc xs) .none)
  | _=>False))
def zm3(Γ:List (TypeId×TI))(t:TypeId)(lo hi mx:Option Operand)(svs:List SV)(lm:Nat->Option Mem)(κ:Nat)(K:SV->MD->Prop):Prop:=
 match svs with
 | [.dptr cs]=>zly Γ t lo hi mx cs K
 | svs=>zrc Γ t lo hi mx svs lm κ K
inductive zfa (p q:Prop):Prop
 | own (h:p)
 | data (h:q)
def boxV(Γ:List (TypeId×TI))(e:TypeId)(s:SV)(κ:Nat)(K:SV->MD->Prop):Prop:=
 zS (jO (kT s)) (match ti Γ e with
  |some i=>(match i.kind with
   |.arr _ _=>(match ym.flats (kT s) with
    | true=>zfa (K (.loc κ 0) (.push (.box e (kT s)))) (K (.dptr (kT s)) .none)
    | false=>K (.loc κ 0) (.push (.box e (kT s))))
   | _=>K (.loc κ 0) (.push (.box e (kT s))))
  | none=>K (.loc κ 0) (.push (.box e (kT s))))
def zfb(Γ:List (TypeId×TI))(t:TypeId)(f:Nat)(s:SV)(K:SV->MD->Prop):Prop:=
 kH Γ t λi=>(match i.kind with
  |.struct fs=>(match zox fs f with
   |some (off,ft)=>kH Γ ft λj=>zS (Nat.blt 0 j.sz) (match s with
    | .loc k o'=>K (.loc k (o'+off)) .none
    | .ptr cs=>K (.ptr (cs.drop off)) .none
    | .dptr cs=>K (.dptr (cs.drop off)) .none
    | .eloc k sz i o'=>K (.eloc k sz i (o'+off)) .none
    | _=>False)
   | none=>False)
  | _=>False)
def zfc(Γ:List (TypeId×TI))(t:TypeId)(s n:SV)(lm:Nat->Option Mem)(K:SV->MD->Prop):Prop:=
 kH Γ t λi=>(match n with
  |.val (.int _ n)=>(match i.kind with
   |.slice e=>kH Γ e λj=>(match s with
    | .sl enc xs=>Ob (0<=n/\n < xs.length) (∀x,xs[n.toNat]? =some x->zS (Nat.beq (enc x).length j.sz) (K (.ptr (enc x)) .none))
    |.own k=>(match lm k with
     | some (.arr _ _ sz xs)=>zS (Nat.beq sz j.sz) (Ob (0<=n/\n < xs.length) (K (.eloc k sz n 0) .none))
     | some (.garr _ sz xs)=>zS (Nat.beq sz j.sz) (Ob (0<=n/\n < xs.length) (K (.eloc k sz n 0) .none))
     | _=>False)
    | .win k sz lo l=>zS (Nat.beq sz j.sz) (Ob (0<=lo/\0<=n/\n < l) (K (.eloc k sz (lo+n) 0) .none))
    | _=>False)
   |.arr len e=>kH Γ e λj=>(match n with
    |.ofNat m=>zS (Nat.blt m len) (match s with
     | .loc k off=>K (.loc k (off+m*j.sz)) .none
     | .ptr cs=>K (.ptr (cs.drop (m*j.sz))) .none
     | .dptr cs=>K (.dptr (cs.drop (m*j.sz))) .none
     | .eloc k sz i' o'=>K (.eloc k sz i' (o'+m*j.sz)) .none
     | _=>False)
    | _=>False)
   | _=>False)
  | _=>False)
def zrd(Γ:List (TypeId×TI))(t:TypeId)(s n:SV)(K:SV->MD->Prop):Prop:=
 kH Γ t λi=>(match i.kind,s,n with
  |.arr len e,.agg cs,.val (.int _ n)=>kH Γ e λj=>(match n with
   | .ofNat m=>zS (Nat.blt m len) (zS (Nat.ble (m*j.sz+j.sz) cs.length) (mkV j.kind.agg j.sz (cs.drop (m*j.sz)) λs=>K s .none))
   | _=>False)
  | .str,.val (.string s),.val (.int _ n)=>Ob (0<=n/\n < s.size) (∀b:UInt8,s[n.toNat]? =some b->K (.val (.int .u8 b.toNat)) .none)
  | _,_,_=>False)
def zre(Γ:List (TypeId×TI))(t:TypeId)(ids:List Nat)(svs:List SV)(K:SV->MD->Prop):Prop:=
 kH Γ t λi=>(match i.kind with
  | .struct fs=>zS (zbI (zi2 Γ fs) i.sz ids svs) (K (.agg (zcp (zi2 Γ fs) ids svs (vals i.zero))) .none)
  | .arr _ e=>kH Γ e λj=>zS (zbI (zaq j.sz) i.sz ids svs) (K (.agg (zcp (zaq j.sz) ids svs (vals i.zero))) .none)
  | _=>False)
def zBB:SV->Bool
 | .loc _ _=>false
 | .own _=>false
 | .eloc _ _ _ _=>false
 | .win _ _ _ _=>false
 | .ptr _=>false
 | .agg cs=>ym.flats cs
 | _=>true
def selB:List SV->Bool
 | []=>true
 | s::r=>match zBB s with
  | true=>selB r
  | false=>false
def zdf(Γ:List (TypeId×TI))(t:TypeId)(n:Nat)(ids:List Nat)(svs:List SV)(κ:Nat)(K:SV->MD->Prop):Prop:=
 kH Γ t λi=>(match i.kind with
  | .slice e=>kH Γ e λj=>zS (zbI (zaq j.sz) (n*j.sz) ids svs) (match selB svs with
    |true=>(∃(α:Type) (enc:α->List SV) (xs:List α),
     zeN enc xs=zcp (zaq j.sz) ids svs (rep n (vals j.zero))/\
     Ob (xs.length=n/\n<=281474976710656/\n*j.sz<=16777216/\0 < j.sz/\∀x∈xs,(enc x).length=j.sz/\jO (enc x)=true/\ym.flats (enc x)=true) (K (.own κ) (.push (.arr e enc j.sz xs))))
    |false=>zS (jO (zcp (zaq j.sz) ids svs (rep n (vals j.zero)))) (∃(xs:List (List SV)),
     zeN id xs=zcp (zaq j.sz) ids svs (rep n (vals j.zero))/\
     Ob (xs.length=n/\n<=281474976710656/\n*j.sz<=16777216/\0 < j.sz/\∀x∈xs,x.length=j.sz) (K (.own κ) (.push (.garr e j.sz xs)))))
  | _=>False)
def zfd(Γ:List (TypeId×TI))(t:TypeId)(l c:SV)(κ:Nat)(K:SV->MD->Prop):Prop:=
 kH Γ t λi=>(match i.kind,l,c with
  | .slice e,.val (.int _ n),.val (.int _ m)=>kH Γ e λj=>∃(α:Type) (enc:α->List SV) (z:α),
    enc z=vals j.zero/\Ob (0 < j.sz/\0<=n/\n<=m/\m*j.bytes<=281474976710656/\m<=281474976710656) (K (.own κ) (.push (.arr e enc j.sz (List.replicate n.toNat z))))
  | _,_,_=>False)
def zv8(c a b:SV)(K:SV->MD->Prop):Prop:=
 match c with
 | .val (.bool true)=>K a .none
 | .val (.bool false)=>K b .none
 | .pr p _=>Br (p->K a .none) (¬p->K b .none)
 | _=>False
def unV(op:UnOp)(s:SV)(K:SV->MD->Prop):Prop:=
 match op,s with
 | .not,.val (.bool true)=>K (.val (.bool false)) .none
 | .not,.val (.bool false)=>K (.val (.bool true)) .none
 | .not,.pr p i=>K (.pr (¬p) (@instDecidableNot _ i)) .none
 | .neg,.val (.int k n)=>zle k (- n) λs=>K s .none
 | _,_=>False
def uM:Option Operand->List Operand
 | none=>[]
 | some x=>[x]
def zcr:Callee->List Operand
 | .value f=>[f]
 | .invoke r _=>[r]
 | .builtin _=>[]
def qf:Op->List Operand
 | .move x=>[x]
 | .assign x=>[x]
 | .pick c a b=>[c,a,b]
 | .box _ x=>[x]
 | .build _ ps=>ps.toList.map (·.2)
 | .buildSlice _ _ ps=>ps.toList.map (·.2)
 | .load _ a=>[a]
 | .store _ a x=>[a,x]
 | .nilCheck x=>[x]
 | .binOp _ _ x y _=>[x,y]
 | .unOp _ _ x=>[x]
 | .convert _ _ x=>[x]
 | .makeFunc _ first caps=>first.toList++caps.toList
 | .makeSlice _ l c=>[l,c]
 | .makeInterface _ x=>[x]
 | .typeAssert x _ _ _=>[x]
 | .makeMap _ r=>uM r
 | .mapUpdate _ m k x=>[m,k,x]
 | .insert _ m k x=>[m,k,x]
 | .lookup _ m k _=>[m,k]
 | .slice _ x lo hi mx=>x::(uM lo++(uM hi++uM mx))
 | .fieldAddr _ x _=>[x]
 | .field _ x _=>[x]
 | .indexAddr _ x i=>[x,i]
 | .index _ x i=>[x,i]
 | .extract x _=>[x]
 | .call c=>zcr c.callee++c.args.toList
 | _=>[]
def zv9(es:List (Int×SV))(n:Int)(K1:SV->Prop)(K0:Prop):Prop:=
 List.rec (motive:=λ_=>Prop) K0 (λx _ ih=>match x with
  | (k,s)=>Br (n=k->K1 s) (¬n=k->ih)) es
def zwa(es:List (Int×SV))(n:Int)(s:SV):(List (Int×SV)->Prop)->Prop:=
 List.rec (motive:=λ_=>(List (Int×SV)->Prop)->Prop) (λK=>K [(n,s)]) (λx r ih K=>match x with
  | (k,s')=>Br (n=k->K ((n,s)::r)) (¬n=k->ih λr'=>K ((k,s')::r'))) es
def zi5(Γ:List (TypeId×TI))(t:TypeId)(svs:List SV)(κ:Nat)(K:SV->MD->Prop):Prop:=
 kH Γ t λi=>(match i.kind with
  |.map _ _=>(match svs with
   | []=>K (.own κ) (.push (.map []))
   | .val (.int _ _)::_=>K (.own κ) (.push (.map []))
   | _=>False)
  | _=>False)
def vN(Γ:List (TypeId×TI))(t:TypeId)(m k s:SV)(lm:Nat->Option Mem)(K:SV->MD->Prop):Prop:=
 kH Γ t λi=>(match i.kind with
  |.map kt _=>kH Γ kt λj=>(match j.kind,m,k with
   |.int .i64,.own c,.val (.int .i64 n)=>(match lm c with
    | some (.map es)=>zS (ym s) (zwa es n s λes'=>K (.val undef) (.set c (.map es')))
    | _=>False)
   | _,_,_=>False)
  | _=>False)
def zc1(ok:Bool)(s:SV)(b:Bool)(K:SV->MD->Prop):Prop:=
 match ok with
 | true=>K (.tup [s,.val (.bool b)]) .none
 | false=>zaz s λs=>K s .none
def zm4(Γ:List (TypeId×TI))(t:TypeId)(ok:Bool)(m k:SV)(lm:Nat->Option Mem)(K:SV->MD->Prop):Prop:=
 kH Γ t λi=>(match i.kind with
  |.map kt et=>kH Γ kt λj=>kH Γ et λz=>(match j.kind,m,k with
   |.int .i64,.own c,.val (.int .i64 n)=>(match lm c with
    | some (.map es)=>zv9 es n (λs=>zc1 ok s true K) (mkV z.kind.agg z.sz (vals z.zero) λs=>zc1 ok s false K)
    | _=>False)
   | _,_,_=>False)
  | _=>False)
def zi6(Γ:List (TypeId×TI))(t:TypeId)(s:SV)(K:SV->MD->Prop):Prop:=
 kH Γ t λi=>(match i.kind with
  | .iface=>False
  | .other=>False
  | _=>K (.ifc t s) .none)
def zm5(t:TypeId)(ok:Bool)(s:SV)(Z:Prop)(K:SV->MD->Prop):Prop:=
 match s with
 |.ifc t' s'=>(match Nat.beq t' t with
  | true=>zc1 ok s' true K
  |false=>(match ok with
   | true=>Z
   | false=>False))
 |.val .nilIface=>(match ok with
  | true=>Z
  | false=>False)
 | _=>False
def zm6(Γ:List (TypeId×TI))(t:TypeId)(ok:Bool)(s:SV)(K:SV->MD->Prop):Prop:=
 kH Γ t λi=>(match i.kind with
  | .iface=>False
  | .other=>False
  | _=>zm5 t ok s (mkV i.kind.agg i.sz (vals i.zero) λs=>zc1 true s false K) K)
def zm7(P:Program)(t:TypeId)(name:String)(f:FuncId):Bool:=
 (match P.underlying t with
  | some (.struct _)=>true
  | _=>false)&&(match P.info? t with
  |some i=>(match i.methods.find? (·.name==name) with
   |some m=>m.path.isEmpty&&(match m.func with
    | some (g,p)=>Nat.beq g f&&!p
    | none=>false)
   | none=>false)
  | none=>false)
def zsy:List SV->(List Value->Prop)->Prop
 | [],K=>K []
 | .val v::r,K=>zsy r λvs=>K (v::vs)
 | _,_=>False
def conc(s:SV)(K:Value->Prop):Prop:=
 match s with
 | .val v=>K v
 | .agg cs=>zsy cs λvs=>K (.agg vs.toArray)
 | _=>False
def zsz:List SV->(List Value->Prop)->Prop
 | [],K=>K []
 | s::r,K=>conc s λv=>zsz r λvs=>K (v::vs)
def zwb:List SV->Bool
 | []=>true
 | .val _::r=>zwb r
 | _=>false
def zwc:List SV->Bool
 | []=>true
 | .val _::r=>zwc r
 | .agg cs::r=>uD (zwb cs) (zwc r)
 | _=>false
def ofV(v:Value):SV:=
 match v with
 | .agg a=>.agg (a.toList.map .val)
 | v=>.val v
def opV(P:Program)(Γ:List (TypeId×TI))(op:Op)(svs:List SV)(lm:Nat->Option Mem)(κ:Nat)(K:SV->MD->Prop):Prop:=
 match op,svs with
 | .move _,[s]=>K s .none
 | .assign _,[s]=>K s .none
 | .pick _ _ _,[c,a,b]=>zv8 c a b K
 | .alloc e,_=>kH Γ e λi=>K (.loc κ 0) (.push (.box e (vals i.zero)))
 | .box e _,[s]=>boxV Γ e s κ K
 | .build t ps,svs=>zre Γ t (ps.toList.map (·.1)) svs K
 | .buildSlice t n ps,svs=>zdf Γ t n (ps.toList.map (·.1)) svs κ K
 | .load t _,[s]=>zv4 Γ t s lm K
 | .store t _ _,[s,v]=>zrb Γ t s v lm K
 |.nilCheck _,[s]=>(match s with
  | .loc k off=>K (.loc k off) .none
  | .ptr cs=>K (.ptr cs) .none
  | .dptr cs=>K (.dptr cs) .none
  | .eloc k sz i off=>K (.eloc k sz i off) .none
  | .ifc t s=>K (.ifc t s) .none
  | _=>False)
 | .binOp op t _ y _,[a,b]=>bin Γ op t y a b λs=>K s .none
 | .unOp op _ _,[s]=>unV op s K
 |.convert s0 t _,[s]=>kH Γ s0 λ_=>kH Γ t λi=>(match i.kind,s with
  | .int k,.val (.int _ n)=>zle k n λs=>K s .none
  | _,_=>False)
 |.makeFunc fn first caps,svs=>(match fn with
  |.func f=>(match first.isEmpty with
   | true=>K (.fn f svs) .none
   |false=>zS caps.isEmpty (match zwc svs with
    | true=>zsz svs λvs=>K (.val (.func (.func f) vs.toArray #[])) .none
    | false=>zS (ym.flats svs) (K (.bm f svs) .none)))
  | _=>False)
 | .makeSlice t _ _,[l,c]=>zfd Γ t l c κ K
 | .slice t _ lo hi mx,svs=>zm3 Γ t lo hi mx svs lm κ K
 | .fieldAddr t _ f,[s]=>zfb Γ t f s K
 |.field t _ f,[s]=>kH Γ t λi=>(match i.kind,s with
  |.struct fs,.agg cs=>(match zox fs f with
   | some (off,ft)=>kH Γ ft λj=>zS (Nat.ble (off+j.sz) cs.length) (mkV j.kind.agg j.sz (cs.drop off) λs=>K s .none)
   | none=>False)
  | _,_=>False)
 | .indexAddr t _ _,[s,n]=>zfc Γ t s n lm K
 | .index t _ _,[s,n]=>zrd Γ t s n K
 |.extract _ n,[s]=>(match s with
  |.tup vs=>(match vs.drop n with
   | v::_=>zaz v λv=>K v .none
   | []=>False)
  | _=>False)
 | .makeInterface t _,[s]=>zi6 Γ t s K
 | .typeAssert _ _ t ok,[s]=>zm6 Γ t ok s K
 | .makeMap t _,svs=>zi5 Γ t svs κ K
 | .mapUpdate t _ _ _,[m,k,s]=>vN Γ t m k s lm K
 | .insert t _ _ _,[m,k,s]=>vN Γ t m k s lm K
 | .lookup t _ _ ok,[m,k]=>zm4 Γ t ok m k lm K
 |.call c,svs=>(match c.callee with
  |.value _=>(match svs with
   | .fn f caps::args=>zb P lm κ f (args++caps) K
   | .val (.func (.func f) first ⟨[]⟩)::args=>zb P lm κ f (first.toList.map ofV++args) K
   | .dfn f caps::args=>zb P lm κ f (args++caps) K
   | .bm f first::args=>zb P lm κ f (first++args) K
   | _=>False)
  |.invoke _ name=>(match svs with
   | .ifc t s::args=>∃f,zm7 P t name f=true/\zb P lm κ f (s::args) K
   | _=>False)
  | .builtin b=>zi4 Γ b c.argTypes.toList svs lm κ K)
 | _,_=>False
def zdg(M:List (Nat×Mem))(κ k:Nat):Option Mem:=
 match Nat.blt k κ with
 | true=>zX M k
 | false=>none
def zlz(d:Option Tmp)(nt:Nat)(K:Prop):Prop:=
 match d with
 | some d=>zS (Nat.blt d nt) K
 | none=>K
def zc2:Op->Bool
 | .load _ _=>true
 | .store _ _ _=>true
 | .slice _ _ _ _ _=>true
 | .indexAddr _ _ _=>true
 | .mapUpdate _ _ _ _=>true
 | .insert _ _ _ _=>true
 | .lookup _ _ _ _=>true
 | .call _=>true
 | _=>false
def zwd:Op->Bool
 |.call c=>(match c.callee with
  | .builtin .append=>true
  | .builtin .copy=>true
  | _=>false)
 | _=>false
def isW:Op->Bool
 | .store _ _ _=>true
 | .mapUpdate _ _ _ _=>true
 | .insert _ _ _ _=>true
 | o=>zwd o
def zdh:Op->Bool
 | .store _ _ _=>true
 | .alloc _=>true
 | .box _ _=>true
 | .buildSlice _ _ _=>true
 | .makeSlice _ _ _=>true
 | .makeMap _ _=>true
 | .mapUpdate _ _ _ _=>true
 | .insert _ _ _ _=>true
 | o=>zwd o
def zrf(acc:List Nat)(o:Oper):Nat:=o.after.toList.foldl (λs e=>if Region.binds .any e then s|||2 ^ e.on|||acc.getD e.on 0 else s) 0
def zbr(all:List Oper):Nat->List Nat
 | 0=>[]
 | j+1=>let acc:=zbr all j;acc++[match all[j]? with | some o=>zrf acc o | none=>0]
def zdi:List Oper->Nat->Option Tmp
 | [],_=>none
 | o::_,0=>o.dst
 | _::r,n+1=>zdi r n
def zg0:List Operand->List Nat
 | []=>[]
 | .tmp t::r=>t::zg0 r
 | _::r=>zg0 r
def zcs(all:List Oper)(o:Oper):List Nat:=
 zg0 (qf o.op)++(match o.guard with
  |some (j,_)=>(match zdi all j with
   | some t=>[t]
   | none=>[])
  | none=>[])
def uG(o:Oper):List Nat:=o.dst.toList
def zdj(a b:List Nat):Bool:=a.any λx=>b.any λy=>Nat.beq x y
def zuh(all:List Oper)(oi oj:Oper):Bool:=
 (zdh oi.op&&zc2 oj.op)||(zc2 oi.op&&isW oj.op)||zdj (uG oi) (zcs all oj)||zdj (uG oi) (uG oj)||zdj (zcs all oi) (uG oj)
def ziC(ops:List Oper):Bool:=
 (List.range ops.length).all λj=>(match ops[j]? with
  | some o=>o.after.toList.all λe=>!Region.binds .any e||Nat.blt e.on j
  | none=>true)
def vq(ops:List Oper):Bool:=
 let ms:=zbr ops ops.length
 ziC ops&&(List.range ops.length).all λj=>(List.range j).all λi=>(ms.getD j 0).testBit i||!(match ops[i]?,ops[j]? with
  | some oi,some oj=>zuh ops oi oj
  | _,_=>false)
def zm8(ops:List Oper)(i:Nat):Bool:=
 let ms:=zbr ops ops.length
 (List.range ops.length).all λj=>Nat.ble j i||(ms.getD j 0).testBit i||!(match ops[j]? with
  | some oj=>zc2 oj.op
  | none=>false)
def mdV(draw:Bool)(all:List Oper)(i κ:Nat)(op:Op)(md:MD)(K:Prop):Prop:=
 match draw with
 | false=>K
 |true=>(match isW op with
  |true=>(match md with
   | .drop _=>False
   | .set k _=>zS (Nat.blt k κ) K
   | .repl k _=>zS (Nat.blt k κ) K
   | .give _ _ _=>False
   | _=>K)
  |false=>(match md with
   | .none=>K
   |.push _=>(match zdh op with
    | true=>K
    | false=>Dr (zm8 all i=true) K False)
   | _=>False))
def zwe(n:Nat):(Nat->Prop)->Prop:=
 Nat.rec (motive:=λ_=>(Nat->Prop)->Prop) (λK=>K 0) (λ_ ih K=>ih λm=>K (m+1)) n
theorem zfe:∀{n:Nat} {K:Nat->Prop},zwe n K->K n
 | 0,_,h=>h
 | n+1,_,h=>zfe (n:=n) h
def zm9(l:List SV):(List SV->Prop)->Prop:=
 List.rec (motive:=λ_=>(List SV->Prop)->Prop) (λK=>K []) (λc _ ih K=>ih λr=>K (c::r)) l
theorem zbs:∀{l:List SV} {K:List SV->Prop},zm9 l K->K l
 | [],_,h=>h
 | c::l,K,h=>zbs (l:=l) (K:=λr=>K (c::r)) h
def zna(s:SV)(K:SV->Prop):Prop:=
 match s with
 | .agg cs=>zm9 cs λcs=>K (.agg cs)
 | s=>K s
theorem zdk{s:SV}{K:SV->Prop}(h:zna s K):K s:=by
 unfold zna at h
 split at h
 ·exact zbs (K:=λcs=>K (.agg cs)) h
 ·exact h
def znb(md:MD)(K:MD->Prop):Prop:=
 match md with
 |.push m=>(match m with
  | .box T cs=>zm9 cs λcs=>K (.push (.box T cs))
  | m=>K (.push m))
 |.set k m=>(match m with
  | .box T cs=>zm9 cs λcs=>K (.set k (.box T cs))
  | m=>K (.set k m))
 | md=>K md
theorem zdl{md:MD}{K:MD->Prop}(h:znb md K):K md:=by
 unfold znb at h
 split at h
 ·split at h
  ·rename_i T cs;exact zbs (K:=λcs=>K (.push (.box T cs))) h
  ·exact h
 ·rename_i k _;split at h
  ·rename_i T cs;exact zbs (K:=λcs=>K (.set k (.box T cs))) h
  ·exact h
 ·exact h
def St.withK(σ:St)(κ:Nat):St:=⟨σ.L,σ.M,κ,σ.nt,σ.n0⟩
def zdm(P:Program)(Γ:List (TypeId×TI))(draw:Bool)(all:List Oper)(i:Nat)(o:Oper)(σ:St)(K:St->Prop):Prop:=
 zwe σ.nk λκ=>evs σ.L (qf o.op) λsvs=>opV P Γ o.op svs (zdg σ.M κ) κ λs md=>zna s λs=>znb md λmd=>mdV draw all i κ o.op md (zlz o.dst σ.nt (K ((σ.withK κ).app o.dst s md)))
def zar(o:Oper)(σ:St)(K:St->Prop):Prop:=zlz o.dst σ.nt (K (σ.app o.dst (.val undef) .none))
def vh(P:Program)(Γ:List (TypeId×TI))(draw:Bool)(all:List Oper)(l:List Oper):Nat->St->(St->Prop)->Prop:=
 List.rec (motive:=λ_=>Nat->St->(St->Prop)->Prop) (λ_ σ K=>K σ) (λo _ ih i σ K=>match o.guard with
  | none=>zdm P Γ draw all i o σ λσ=>ih (i+1) σ K
  |some (j,want)=>(match zdi all j with
   | none=>False
   |some t=>(match qe σ.L t with
    |some (.val (.bool true))=>(match want with
     | true=>zdm P Γ draw all i o σ λσ=>ih (i+1) σ K
     | false=>zar o σ λσ=>ih (i+1) σ K)
    |some (.val (.bool false))=>(match want with
     | false=>zdm P Γ draw all i o σ λσ=>ih (i+1) σ K
     | true=>zar o σ λσ=>ih (i+1) σ K)
    |some (.pr p _)=>(match want with
     | true=>Br (p->zdm P Γ draw all i o (σ.put (some t) (.val (.bool true))) λσ=>ih (i+1) σ K)
       (¬p->zar o (σ.put (some t) (.val (.bool false))) λσ=>ih (i+1) σ K)
     | false=>Br (p->zar o (σ.put (some t) (.val (.bool true))) λσ=>ih (i+1) σ K)
       (¬p->zdm P Γ draw all i o (σ.put (some t) (.val (.bool false))) λσ=>ih (i+1) σ K))
    | some (.val (.tuple _))=>zar o σ λσ=>ih (i+1) σ K
    | _=>False))) l
def zA5:SV->List Nat
 | .loc k _=>[k]
 | .own k=>[k]
 | .eloc k _ _ _=>[k]
 | .win k _ _ _=>[k]
 | _=>[]
def zdn:List SV->List Nat
 | []=>[]
 | c::cs=>zA5 c++zdn cs
def zi7:List SV->Bool
 | []=>true
 |c::cs=>(match c with
  | .val _=>zi7 cs
  | .pr _ _=>zi7 cs
  | .sl _ _=>zi7 cs
  | _=>false)
def zg1:List SV->Bool
 | []=>true
 |c::cs=>(match c with
  | .val _=>zg1 cs
  | .pr _ _=>zg1 cs
  | .sl _ _=>zg1 cs
  |.agg xs=>(match zi7 xs with
   | true=>zg1 cs
   | false=>false)
  |.fn _ xs=>(match zi7 xs with
   | true=>zg1 cs
   | false=>false)
  | _=>false)
def zoB(op:Op)(svs:List SV):Option (List Nat):=
 match op with
 |.call c=>(match c.callee with
  | .builtin _=>some (zdn svs)
  |_=>(match zg1 svs with
   | true=>some []
   | false=>none))
 |.store _ _ _=>(match svs with
  | s::_=>some (zA5 s)
  | []=>some [])
 | .load _ _=>some (zdn svs)
 | .slice _ _ _ _ _=>some (zdn svs)
 | .indexAddr _ _ _=>some (zdn svs)
 | .mapUpdate _ _ _ _=>some (zdn svs)
 | .insert _ _ _ _=>some (zdn svs)
 | .lookup _ _ _ _=>some (zdn svs)
 | _=>some []
structure Ent where
 u:Option (List Nat)
 nk:Nat
 t:List Nat
def zeL(k:Nat):List Nat->Bool
 | []=>false
 | x::r=>match Nat.beq x k with
  | true=>true
  | false=>zeL k r
def zdo(u:Option (List Nat))(nk k:Nat):Bool:=
 match u with
 | none=>Nat.blt k nk
 | some l=>zeL k l
def lmU(u:Option (List Nat))(nk:Nat)(lm:Nat->Option Mem)(k:Nat):Option Mem:=
 match zdo u nk k with
 | true=>lm k
 | false=>none
def zrg(κ:Nat):Nat->List Nat
 | 0=>[]
 | n+1=>(κ+n)::zrg κ n
def zg2(κ:Nat):MD->List Nat
 | .none=>[]
 | .push _=>[κ]
 | .set k _=>[k]
 | .drop k=>[k]
 | .repl k _=>[k,κ]
 | .give ks _ nn=>ks++zrg κ nn
def zsA(e:Ent):List Nat->Bool
 | []=>false
 | k::r=>match zdo e.u e.nk k with
  | true=>true
  | false=>match zeL k e.t with
   | true=>true
   | false=>zsA e r
def zsB(x:Ent):List Nat->Bool
 | []=>false
 | k::r=>match zdo x.u x.nk k with
  | true=>true
  | false=>zsB x r
def zoC(x e:Ent):Bool:=
 match zsA e x.t with
 | true=>true
 | false=>zsB x e.t
def prOK(m:Nat)(e:Ent):List Ent->Bool
 | []=>true
 | x::r=>(m.testBit r.length||!zoC x e)&&prOK m e r
def zi8(ms:List Nat):List Ent->Bool
 | []=>true
 | e::r=>prOK (ms.getD r.length 0) e r&&zi8 ms r
def zi9(all:List Oper)(oi oj:Oper):Bool:=
 zdj (uG oi) (zcs all oj)||zdj (uG oi) (uG oj)||zdj (zcs all oi) (uG oj)
def zff(ops:List Oper):Bool:=
 let ms:=zbr ops ops.length
 ziC ops&&(List.range ops.length).all λj=>(List.range j).all λi=>(ms.getD j 0).testBit i||!(match ops[i]?,ops[j]? with
  | some oi,some oj=>zi9 ops oi oj
  | _,_=>false)
def mdD(κ:Nat)(md:MD)(K:Prop):Prop:=
 match md with
 | .drop k=>zS (Nat.blt k κ) K
 | .set k _=>zS (Nat.blt k κ) K
 | .repl k _=>zS (Nat.blt k κ) K
 | .give ks new nn=>zS (uD (newB ks κ nn new) (zm0 new κ nn)) K
 | _=>K
def zbt(P:Program)(Γ:List (TypeId×TI))(o:Oper)(σ:St)(K:Ent->St->Prop):Prop:=
 zwe σ.nk λκ=>evs σ.L (qf o.op) λsvs=>opV P Γ o.op svs (lmU (zoB o.op svs) κ (zdg σ.M κ)) κ λs md=>zna s λs=>znb md λmd=>mdD κ md (zlz o.dst σ.nt (K ⟨zoB o.op svs,κ,zg2 κ md⟩ ((σ.withK κ).app o.dst s md)))
def zlA:Ent:=⟨some [],0,[]⟩
def zaW(P:Program)(Γ:List (TypeId×TI))(all:List Oper)(l:List Oper):Nat->List Ent->St->(St->Prop)->Prop:=
 List.rec (motive:=λ_=>Nat->List Ent->St->(St->Prop)->Prop) (λ_ acc σ K=>Ob (zi8 (zbr all all.length) acc=true) (K σ)) (λo _ ih i acc σ K=>match o.guard with
  | none=>zbt P Γ o σ λe σ=>ih (i+1) (e::acc) σ K
  |some (j,want)=>(match zdi all j with
   | none=>False
   |some t=>(match qe σ.L t with
    |some (.val (.bool true))=>(match want with
     | true=>zbt P Γ o σ λe σ=>ih (i+1) (e::acc) σ K
     | false=>zar o σ λσ=>ih (i+1) (zlA::acc) σ K)
    |some (.val (.bool false))=>(match want with
     | false=>zbt P Γ o σ λe σ=>ih (i+1) (e::acc) σ K
     | true=>zar o σ λσ=>ih (i+1) (zlA::acc) σ K)
    |some (.pr p _)=>(match want with
     | true=>Br (p->zbt P Γ o (σ.put (some t) (.val (.bool true))) λe σ=>ih (i+1) (e::acc) σ K)
       (¬p->zar o (σ.put (some t) (.val (.bool false))) λσ=>ih (i+1) (zlA::acc) σ K)
     | false=>Br (p->zar o (σ.put (some t) (.val (.bool true))) λσ=>ih (i+1) (zlA::acc) σ K)
       (¬p->zbt P Γ o (σ.put (some t) (.val (.bool false))) λe σ=>ih (i+1) (e::acc) σ K))
    | some (.val (.tuple _))=>zar o σ λσ=>ih (i+1) (zlA::acc) σ K
    | _=>False))) l
inductive Ex
 | normal
 | exit (id:Nat)
 | ret
def Sub(σ σ':St):Prop:=∀(E:Env) ρ a w,Rel E σ ρ a w->∃ρ',Rel E σ' ρ' a w
def jP(P:Program)(Γ:List (TypeId×TI))(c:Code):St->(Ex->St->Prop)->Prop:=
 Code.rec (motive:=λ_=>St->(Ex->St->Prop)->Prop)
  (λσ Q=>Q .normal σ)
  (λ_ ops draw σ Q=>match draw with
   | false=>vh P Γ false ops.toList ops.toList 0 σ (Q .normal)
   | true=>Dr (vq ops.toList=true) (vh P Γ true ops.toList ops.toList 0 σ (Q .normal))
     (Ob (zff ops.toList=true) (zaW P Γ ops.toList ops.toList 0 [] σ (Q .normal))))
  (λ_ _ ha hb σ Q=>ha σ λe σ=>(match e with
   | .normal=>hb σ Q
   | .exit id=>Q (.exit id) σ
   | .ret=>Q .ret σ))
  (λc _ _ hx hy σ Q=>ev σ.L c λc=>(match c with
   | .val (.bool true)=>hx σ Q
   | .val (.bool false)=>hy σ Q
   | .pr p _=>Br (p->hx σ Q) (¬p->hy σ Q)
   | .anyb=>Br (hx σ Q) (hy σ Q)
   | _=>False))
  (λid _ hc σ Q=>hc σ λe σ=>(match e with
   | .normal=>Q .normal σ
   |.exit j=>(match Nat.beq j id with
    | true=>Q .normal σ
    | false=>Q (.exit j) σ)
   | .ret=>Q .ret σ))
  (λ_ hc σ Q=>∃(ι:Type) (S:ι->St) (I:ι->Prop) (μ:ι->Nat) (x0:ι),I x0/\Sub σ (S x0)/\
   ∀x,I x->hc (S x) λe σ'=>(match e with
    | .normal=>∃x',I x'/\Sub σ' (S x')/\μ x' < μ x
    | .exit id=>Q (.exit id) σ'
    | .ret=>Q .ret σ'))
  (λ_ _ _ _ _ _ _ _=>False)
  (λid σ Q=>Q (.exit id) σ)
  (λ_ hc σ Q=>hc σ Q)
  (λ_ σ Q=>Q .normal σ)
  (λ_ _ _=>False)
  (λσ Q=>Q .ret σ)
  (λ_ _ _=>False)
  c
def zrh(σ:St)(Γ:List (TypeId×TI))(x:ResultVar)(K:SV->Prop):Prop:=
 match x with
 |.tmp t=>(match qe σ.L t with
  | some s=>zaz s λs=>K s
  | none=>False)
 |.cell a t=>kH Γ t λi=>(match qe σ.L a with
  |some (.loc k off)=>(match zX σ.M k with
   | some (.box _ cs)=>zS (Nat.ble (off+i.sz) cs.length) (mkV i.kind.agg i.sz (cs.drop off) λs=>K s)
   | _=>False)
  | _=>False)
def zwf(σ:St)(Γ:List (TypeId×TI))(xs:List ResultVar):(List SV->Prop)->Prop:=
 List.rec (motive:=λ_=>(List SV->Prop)->Prop) (λK=>K []) (λx _ ih K=>zrh σ Γ x λs=>ih λl=>K (s::l)) xs
def zbQ(σ:St)(Γ:List (TypeId×TI))(rs:List ResultVar)(K:SV->Prop):Prop:=
 zwf σ Γ rs λl=>match l with
  | [s]=>K s
  | l=>K (.tup l)
def yf:Nat->List SV->List (Nat×SV)
 | _,[]=>[]
 | n,a::r=>(n,a)::yf (n+1) r
def zlB(lm:Nat->Option Mem)(s:SV):SV:=
 match s with
 | .tup cs=>.tup (zmX lm cs)
 | s=>zhT lm s
def endV(Γ:List (TypeId×TI))(rs:List ResultVar)(r:SV)(e:Ex)(σ:St):Prop:=
 match e with
 | .exit _=>False
 | _=>zbQ σ Γ rs λs=>LE (zlB (zX σ.M) s) r
inductive zaX (k:Option Nat):SV->SV->Prop
 | own (k':Nat) (h:k=some k'):zaX k (.own k') (.own 0)
 | loc (k' off:Nat) (h:k=some k'):zaX k (.loc k' off) (.loc 0 off)
 | nil (h:k=none):zaX k (.val (.slice none 0 0)) (.own 0)
 | le (s r:SV) (h:LE s r) (hf:ym r=true):zaX k s r
 | junk (s:SV):zaX k s .junk
 | agg (cs ds:List SV) (hl:cs.length=ds.length) (h:∀(j:Nat) (s r:SV),cs[j]? =some s->ds[j]? =some r->zaX k s r):zaX k (.agg cs) (.agg ds)
 | tup (cs ds:List SV) (hl:cs.length=ds.length) (h:∀(j:Nat) (s r:SV),cs[j]? =some s->ds[j]? =some r->zaX k s r):zaX k (.tup cs) (.tup ds)
 | fn (f:FuncId) (cs ds:List SV) (hl:cs.length=ds.length) (h:∀(j:Nat) (s r:SV),cs[j]? =some s->ds[j]? =some r->zaX k s r):zaX k (.fn f cs) (.fn f ds)
def zwg(M:List (Nat×Mem))(k:Option Nat)(m:Mem):Prop:=
 match k with
 | some k=>zX M k=some m/\zhU m
 |none=>(match m with
  | .arr _ _ _ xs=>xs=[]
  | _=>False)
def zri(Γ:List (TypeId×TI))(rs:List ResultVar)(r:SV)(m:Mem)(e:Ex)(σ:St):Prop:=
 match e with
 | .exit _=>False
 | _=>zbQ σ Γ rs λs=>∃k,zaX k s r/\zwg σ.M k m
def zBC(Γ:List (TypeId×TI))(rs:List ResultVar)(r:SV)(m:Mem)(e:Ex)(σ:St):Prop:=
 match e with
 | .exit _=>False
 | _=>zbQ σ Γ rs λs=>(zX σ.M 0=some m/\LE s r)
theorem zg3{b o:Nat}(h:w'.heap[b]? =w.heap[b]?):w'.cell? ⟨b,o,none⟩=w.cell? ⟨b,o,none⟩:=by
 simp only[World.cell?,h]
theorem D.mono {S S':Nat->Prop}(hz:w.heap.size<=w'.heap.size)
  (hS:∀b,b < w.heap.size->¬S b->¬S' b/\w'.heap[b]? =w.heap[b]?) {s:SV} {v:Value} (h:D S w s v):D S' w' s v:=by
 induction h with
 | val v=>exact .val v
 | pr p i=>exact .pr p i
 | agg cs vs hl h ih=>exact .agg cs vs hl ih
 | nil enc a=>exact .nil enc a
 | nils a=>exact .nils a
 | anyb b=>exact .anyb b
 | junk v=>exact .junk v
 | full enc xs a h ih=>exact .full enc xs a ih
 | sl enc xs sz b o cap c hb hS' hlen hcap hsz hc h ih=>
  obtain⟨h1,h2⟩:=hS b hb hS';exact .sl enc xs sz b o cap c (Xr hb hz) h1 hlen hcap hsz (λi j hi hj=>by rw[zg3 h2];exact hc i j hi hj) ih
 | dptr cs b o c hb hS' hc h ih=>
  obtain⟨h1,h2⟩:=hS b hb hS';exact .dptr cs b o c (Xr hb hz) h1 (λj hj=>by rw[zg3 h2];exact hc j hj) ih
 | dfn f cs vs hl h ih=>exact .dfn f cs vs hl ih
 | bm f cs vs hl h ih=>exact .bm f cs vs hl ih
 | op v h=>exact .op v h
 | ifc t s v h ih=>exact .ifc t s v ih
theorem G.mono {S S' Pm Pm':Nat->Prop} {ρ ρ':zk} {w w':World} (hz:w.heap.size<=w'.heap.size)
  (hS:∀b,b < w.heap.size->¬S b->¬S' b/\w'.heap[b]? =w.heap[b]?)
  (hP:∀b,b < w.heap.size->¬Pm b->¬Pm' b/\w'.heap[b]? =w.heap[b]?)
  (hρ:∀k v,ρ k=some v->ρ' k=some v) {s:SV} {v:Value} (h:G S Pm ρ w s v):G S' Pm' ρ' w' s v:=by
 induction h with
 | d s v h=>exact .d s v (h.mono hz hS)
 | loc k off b h=>exact .loc k off b (hρ _ _ h)
 | own k v h h1=>exact .own k v (hρ _ _ h) h1
 | eloc k sz i off b len cap h=>exact .eloc k sz i off b len cap (hρ _ _ h)
 | win k sz lo n b len cap cap' h h1 h2=>exact .win k sz lo n b len cap cap' (hρ _ _ h) h1 h2
 | ptr cs b o c hb hP' hc h=>
  obtain⟨h1,h2⟩:=hP b hb hP';exact .ptr cs b o c (Xr hb hz) h1 (λj hj=>by rw[zg3 h2];exact hc j hj) (λj s hs=>(h j s hs).mono hz hS)
 | agg cs vs hl h ih=>exact .agg cs vs hl ih
 | tup cs vs hl h ih=>exact .tup cs vs hl ih
 | fn f cs vs hl h ih=>exact .fn f cs vs hl ih
 | ifc t s v h ih=>exact .ifc t s v ih
theorem qc.refl(w:World):qc w w:=⟨rfl,λ_=>rfl⟩
theorem qc.trans{w w' w'':World}(h:qc w w')(k:qc w' w''):qc w w'':=⟨k.1.trans h.1,λa=>(k.2 a).trans (h.2 a)⟩
theorem qc.cells(w:World)(c:Array Value)(t:TypeId):qc w (w.alloc (.cells c t)):=⟨rfl,λa=>RowKit.frozen?_alloc_cells w c t a⟩
theorem qc.setRow(w:World)(g:Nat)(cs:Array Value):qc w (w.setRow g cs):=⟨rfl,λa=>by
 show World.frozen? { w with heap:=w.heap.modify g _ } a=_;unfold World.frozen?;simp only[Qi]
 by_cases h:g=a.block
 ·simp only[h,if_true]
  cases w.heap[a.block]? with
  | none=>rfl
  | some o=>cases o <;> rfl
 ·simp only[h,if_false]⟩
theorem Stp.refl{W:Nat->Prop}{ρ:zk}{w:World}:Stp W W ρ ρ w w:=⟨rfl,rfl,.refl _,Xh _,λ_ _ _=>rfl,λ_ h=>.inl h,λ_ _ h=>h⟩
theorem Stp.trans{W W' W'':Nat->Prop}{ρ ρ' ρ'':zk}{w w' w'':World}(h:Stp W W' ρ ρ' w w')(k:Stp W' W'' ρ' ρ'' w' w''):Stp W W'' ρ ρ'' w w'':=
 ⟨k.os.trans h.os,k.tape.trans h.tape,h.output.trans k.output,XB h.size k.size,
  λb hb hn=>(k.block b (Xr hb h.size) (λhw=>(h.own b hw).elim hn (λh2=>by omega))).trans (h.block b hb hn),
  λb hb=>(k.own b hb).elim (h.own b) (λh2=>.inr (XB h.size h2)),λk' v hv=>k.rho _ _ (h.rho _ _ hv)⟩
variable{W:Nat->Prop}{W':Nat->Prop}
theorem G.stp(h:Stp W W' ρ ρ' w w') {s:SV} {v:Value}
  (hg:G (λb=>Keep b∨W b) W ρ w s v):G (λb=>Keep b∨W' b) W' ρ' w' s v:=
 hg.mono h.size (λb hb hn=>⟨λhw=>hw.elim (λhk=>hn (.inl hk)) (λhw=>(h.own b hw).elim (λh1=>hn (.inr h1)) (λh2=>by omega)),h.block b hb (λhw=>hn (.inr hw))⟩)
  (λb hb hn=>⟨λhw=>(h.own b hw).elim hn (λh2=>by omega),h.block b hb hn⟩) h.rho
theorem D.stp(h:Stp W W' ρ ρ' w w') {s:SV} {v:Value}
  (hg:D (λb=>Keep b∨W b) w s v):D (λb=>Keep b∨W' b) w' s v:=
 hg.mono h.size (λb hb hn=>⟨λhw=>hw.elim (λhk=>hn (.inl hk)) (λhw=>(h.own b hw).elim (λh1=>hn (.inr h1)) (λh2=>by omega)),h.block b hb (λhw=>hn (.inr hw))⟩)
def qH(P:Program)(o:Oper)(a:Act)(w:World)(R:Value->World->Prop):Prop:=
 o.wp P a w (λa' w'=>∃v,a'=a.put o.dst v/\R v w') (λ_ _ _=>False)
theorem qH.value {P:Program} {o:Oper} {a:Act} {w w':World} {R:Value->World->Prop} {v:Value}
  (h:(execOp a.eval o).run P w=.ok (.value v) w') (hr:R v w'):qH P o a w R:=by
 unfold qH Oper.wp;rw[h];exact⟨v,rfl,hr⟩
theorem qH.skip {P:Program} {o:Oper} {a:Act} {w w':World} {R:Value->World->Prop}
  (h:(execOp a.eval o).run P w=.ok .skip w') (hr:R undef w'):qH P o a w R:=by
 unfold qH Oper.wp;rw[h];exact⟨undef,rfl,hr⟩
theorem qH.call{o:Oper} {a:Act}{R:Value->World->Prop}{args:Array Value}
  (h:(execOp a.eval o).run P w=.ok (.enter f args) w') (hc:Calls P f args w' λe w''=>∃v,e=.returned v/\R v w''):qH P o a w R:=by
 unfold qH Oper.wp;rw[h];refine hc.mono ?_
 rintro e w'' ⟨v,rfl,hr⟩
 exact⟨v,rfl,hr⟩
theorem qH.wp {P:Program} {o:Oper} {a:Act} {w:World} {R:Value->World->Prop} {K:Act->World->Prop} {Q:Exit->Act->World->Prop}
  (h:qH P o a w R) (hk:∀v w',R v w'->K (a.put o.dst v) w'):o.wp P a w K Q:=by
 unfold qH Oper.wp at*;generalize (execOp a.eval o).run P w=r at*
 cases r with
 | ok n w'=>
  cases n <;> simp only[Oper.upon]at h ⊢
  case value v=>obtain⟨u,e,hr⟩:=h;rw[e];exact hk u w' hr
  case skip=>obtain⟨u,e,hr⟩:=h;rw[e];exact hk u w' hr
  case defer d=>obtain⟨u,e,hr⟩:=h;rw[e];exact hk u w' hr
  case enter f args=>
   refine Calls.mono h ?_;intro e w'' he
   cases e with
   | returned v=>obtain⟨u,e,hr⟩:=he;show K (a.put o.dst v) w'';rw[e];exact hk u w'' hr
   | panicked c=>exact he.elim
   | outgrown=>obtain⟨_,_,hf⟩:=he;exact hf.elim
  case row row args=>
   exact Rows.mono h (λv w' ⟨u,e,hr⟩=>by show K (a.put o.dst v) w';rw[e];exact hk u w' hr)
 | halt x w'=>cases x <;> simp only[Oper.upon]at h
def k8(Keep:Nat->Prop)(M:List (Nat×Mem))(ρ:zk)(w:World)(κ:Nat)(s:SV)(md:MD)(v:Value)(w':World):Prop:=
 ∃ρ',Stp (Own M ρ) (Own (zck M κ md) ρ') ρ ρ' w w'/\zO Keep (zck M κ md) ρ' w'/\
  G (λb=>Keep b∨Own (zck M κ md) ρ' b) (Own (zck M κ md) ρ') ρ' w' s v/\∀k,(k < κ∨zaU κ md<=k)->ρ' k=ρ k
def zwh:MD->Bool
 | .push _=>true
 | .repl _ _=>true
 | _=>false
def yK(P:Program)(op:Op)(svs:List SV)(lm:Nat->Option Mem)(κ:Nat)(s:SV)(md:MD):Prop:=
 ∀(o:Oper),o.op=op->∀(Keep:Nat->Prop) (M:List (Nat×Mem)) (ρ:zk) (a:Act) (w:World),
  (∀k m,lm k=some m->zX M k=some m)->zO Keep M ρ w->(∀k,κ<=k->k < zaU κ md->ρ k=none)->(zwh md=true->∀m,(κ,m)∉M)->
  Gs (λb=>Keep b∨Own M ρ b) (Own M ρ) ρ w svs ((qf op).map a.eval)->qH P o a w (k8 Keep M ρ w κ s md)
theorem zA{k:Nat}{m:Mem}(h:zX M k=some m):(k,m)∈M:=by
 induction M with
 | nil=>simp[zX]at h
 | cons x r ih=>
  obtain⟨k',m'⟩:=x;simp only[zX]at h
  split at h
  ·rename_i hb;have:=Xg hb
   cases h;subst this;exact .head _
  ·exact .tail _ (ih h)
theorem k8.same {Keep:Nat->Prop} {M:List (Nat×Mem)} {ρ:zk} {w:World} {κ:Nat} {s:SV} {v:Value} (hm:zO Keep M ρ w)
  (hg:G (λb=>Keep b∨Own M ρ b) (Own M ρ) ρ w s v):k8 Keep M ρ w κ s .none v w:=
 ⟨ρ,.refl,hm,hg,λ_ _=>rfl⟩
end Go.Gs
