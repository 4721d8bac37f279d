/- The definitions of an abstract run: symbolic values, the abstract state, the conditions that one operation, one region and one piece of code leave to be shown. -/
import Derived.Test.YtjgadnaphffpkaaGreatDoorMA
import Derived.Calls
import Derived.Orders
import Derived.Below
import Derived.Laws.AppendOwn
set_option maxRecDepth 100000
set_option maxHeartbeats 8000000
set_option linter.all false
namespace Go.Gs
inductive SV:Type 1
 | val (v:Value)
 | pr (p:Prop) (i:Decidable p)
 | agg (cs:List SV)
 | sl {α:Type} (enc:α->List SV) (xs:List α)
 | ptr (cs:List SV)
 | loc (k off:Nat)
 | own (k:Nat)
 | eloc (k sz:Nat) (i:Int) (off:Nat)
 | win (k sz:Nat) (lo n:Int)
 | fn (f:FuncId) (caps:List SV)
 | tup (vs:List SV)
 | junk
 | nils
 | anyb
 | full {α:Type} (enc:α->List SV) (xs:List α)
 | dptr (cs:List SV)
 | dfn (f:FuncId) (caps:List SV)
 | ifc (t:TypeId) (s:SV)
 | bm (f:FuncId) (first:List SV)
 | op (v:Value)
inductive Mem:Type 1
 | box (T:TypeId) (cs:List SV)
 | arr (T:TypeId) {α:Type} (enc:α->List SV) (sz:Nat) (xs:List α)
 | garr (T:TypeId) (sz:Nat) (xs:List (List SV))
 | map (es:List (Int×SV))
structure St:Type 1 where
 L:List (Nat×SV)
 M:List (Nat×Mem)
 nk:Nat
 nt:Nat
 n0:Nat
inductive MD:Type 1
 | none
 | push (m:Mem)
 | set (k:Nat) (m:Mem)
 | drop (k:Nat)
 | repl (k:Nat) (m:Mem)
 | give (ks:List Nat) (new:List (Nat×Mem)) (nn:Nat)
def qc:List (Nat×SV)->Nat->Option SV
 | [],_=>none
 | (k,s)::r,t=>match Nat.beq k t with
  | true=>some s
  | false=>qc r t
def zY:List (Nat×Mem)->Nat->Option Mem
 | [],_=>none
 | (k,s)::r,t=>match Nat.beq k t with
  | true=>some s
  | false=>zY r t
def qq:List (Nat×Mem)->Nat->List (Nat×Mem)
 | [],_=>[]
 | (k,s)::r,t=>match Nat.beq k t with
  | true=>r
  | false=>(k,s)::qq r t
def qL:List (Nat×Mem)->Nat->Mem->List (Nat×Mem)
 | [],_,_=>[]
 | (k,s)::r,t,m=>match Nat.beq k t with
  | true=>(k,m)::r
  | false=>(k,s)::qL r t m
inductive TK
 | int (k:IntKind)
 | bool
 | str
 | ptr (t:TypeId)
 | slice (e:TypeId)
 | struct (fs:List (Nat×TypeId))
 | arr (n:Nat) (e:TypeId)
 | map (k e:TypeId)
 | iface
 | other
structure TI where
 kind:TK
 sz:Nat
 bytes:Nat
 zero:List Value
 cmp:Bool
def TK.agg:TK->Bool
 | .struct _=>true
 | .arr _ _=>true
 | _=>false
def ti:List (TypeId×TI)->TypeId->Option TI
 | [],_=>none
 | (k,s)::r,t=>match Nat.beq k t with
  | true=>some s
  | false=>ti r t
structure Ob (p q:Prop):Prop where
 ob:p
 go:q
structure Br (p q:Prop):Prop where
 yes:p
 no:q
inductive Dr (p q r:Prop):Prop
 | mk (ord:p) (go:q)
 | dyn (h:r)
inductive Ar (p q r:Prop):Prop
 | fit (h:p) (k:q)
 | wrap (k:r)
inductive Dv (p q p' q':Prop):Prop
 | pos (h:p) (k:q)
 | any (h:p') (k:q')
variable{p:Prop}{q:Prop}{r:Prop}
theorem Ar.o(k:q)(h:p:=by omega):Ar p q r:=.fit h k
theorem Ob.o(k:q)(h:p:=by omega):Ob p q:=.mk h k
theorem Dr.k{p q r:Prop}(k:q)(h:p:=by decide +kernel):Dr p q r:=.mk h k
theorem Dr.d{p q s t:Prop}(k:t)(h:s:=by decide +kernel):Dr p q (Ob s t):=.dyn (.mk h k)
theorem Br.y(k:q)(h:p:=by decide):Br (p->q) (¬p->r):=⟨λ_=>k,λn=>absurd h n⟩
theorem Ob.o0(k:q)(h:p:=by exact⟨rfl,dC,dC,dC,λ_ _=>⟨rfl,rfl,rfl⟩⟩):Ob p q:=.mk h k
theorem Ob.o1(k:q)(h:p:=by decide):Ob p q:=.mk h k
theorem Ob.o2(k:q)(h:p:=by exact⟨rfl,dC,dC,dC,λx hx=>by cases hx⟩):Ob p q:=.mk h k
theorem Ob.o3(k:q)(h:p:=by exact⟨(by show _*(16:Int)<=_;simp only[Xl,Xs];omega),(by simp only[Xl,Xs];omega),dC,λ_ _=>rfl⟩):Ob p q:=.mk h k
theorem Ob.o4(k:q)(h:p:=by exact⟨oM,oM⟩):Ob p q:=.mk h k
theorem Ob.o5(k:q)(h:p:=by exact⟨oM,oM,oM⟩):Ob p q:=.mk h k
theorem Ob.o6(k:q)(h:p:=by exact⟨dC,oM,oM,(by show _*(4:Int)<=_;omega),oM⟩):Ob p q:=.mk h k
theorem Ob.o7(k:q)(h:p:=by exact⟨by show((2:Nat)+((1:Nat):Int))*16<=_;decide,by show 2+1<=_;decide,dC,λ_ _=>rfl⟩):Ob p q:=.mk h k
theorem Ob.o8(k:q)(h:p:=by exact⟨rfl,dC,dC,dC,λx hx=>by rw[Xr.1 hx];rfl⟩):Ob p q:=.mk h k
theorem Ob.o9(k:q)(h:p:=by (try dsimp only);omega):Ob p q:=.mk h k
theorem Ob.o10(k:q)(h:p:=by exact⟨rfl,dC,dC,dC,λx hx=>by rw[Xr.1 hx];exact⟨rfl,rfl,rfl⟩⟩):Ob p q:=.mk h k
theorem Ob.o11(k:q)(h:p:=by show _/\_ < (64:Int);omega):Ob p q:=.mk h k
theorem Ob.o12(k:q)(h:p:=by exact⟨oM,by show _ < ((256:Nat):Int);omega⟩):Ob p q:=.mk h k
theorem Ob.o13(k:q)(h:p:=by exact⟨rfl,dC,λ_ _=>rfl⟩):Ob p q:=.mk h k
theorem Ob.o14(k:q)(h:p:=by exact⟨by show((3:Nat)+((1:Nat):Int))*16<=_;decide,by show 3+1<=_;decide,dC,λ_ _=>rfl⟩):Ob p q:=.mk h k
theorem Ob.o15(k:q)(h:p:=by exact⟨(by show _*(24:Int)<=_;simp only[Xl,Xs];omega),(by simp only[Xl,Xs];omega),dC,λ_ _=>rfl⟩):Ob p q:=.mk h k
theorem Ob.o16(k:q)(h:p:=by exact⟨(by show _*(16:Int)<=_;simp only[Xk,Xl,Xs];omega),(by simp only[Xk,Xl,Xs];omega),dC,λ_ _=>rfl⟩):Ob p q:=.mk h k
theorem Ob.o17(k:q)(h:p:=by exact⟨rfl,dC,dC,dC,λx hx=>⟨rfl,rfl,rfl⟩⟩):Ob p q:=.mk h k
theorem Ob.o18(k:q)(h:p:=by exact⟨(by show _*(16:Int)<=_;simp only[Xs];omega),(by simp only[Xs];omega),dC,λ_ _=>rfl⟩):Ob p q:=.mk h k
theorem Ob.o19(k:q)(h:p:=by exact⟨(by show((1:Nat):Int)*(16:Int)<=140737488355328;decide),(by show 1<=281474976710656;decide),dC,λ_ _=>rfl⟩):Ob p q:=.mk h k
theorem Ob.o20(k:q)(h:p:=by exact⟨(by show((1:Nat):Int)*(56:Int)<=140737488355328;decide),(by show 1<=281474976710656;decide),dC,λ_ _=>rfl⟩):Ob p q:=.mk h k
theorem Ob.o21(k:q)(h:p:=by exact⟨(by show((_:Int)+((1:Nat):Int))*(16:Int)<=_;omega),(by show _+1<=_;omega),dC,λ_ _=>rfl⟩):Ob p q:=.mk h k
theorem Ob.o22(k:q)(h:p:=by exact⟨(by show((_:Int)+((1:Nat):Int))*(56:Int)<=_;omega),(by show _+1<=_;omega),dC,λ_ _=>rfl⟩):Ob p q:=.mk h k
theorem Ob.o23(k:q)(h:p:=by exact⟨by ((try dsimp only);omega),by ((try dsimp only);omega),by ((try dsimp only);omega)⟩):Ob p q:=.mk h k
theorem Ob.o24(k:q)(h:p:=by exact⟨(by show _*(24:Int)<=_;simp only[Xi,Xk,Xl,Xs];omega),(by simp only[Xi,Xk,Xl,Xs];omega),dC,λ_ _=>rfl⟩):Ob p q:=.mk h k
theorem Ob.o25(k:q)(h:p:=by exact⟨(by show _*(32:Int)<=_;simp only[XF,Xl,Xs];omega),(by simp only[XF,Xl,Xs];omega),dC,λx hx=>by rw[Xr.1 hx];rfl⟩):Ob p q:=.mk h k
theorem Ob.o26(k:q)(h:p:=by exact⟨(by show _*(32:Int)<=_;omega),oM,dC,λ_ _=>rfl⟩):Ob p q:=.mk h k
theorem Ob.o27(k:q)(h:p:=by exact⟨by show((1:Nat):Int)*24<=_;decide,by show 1<=_;decide,dC⟩):Ob p q:=.mk h k
def zkP(k:IntKind)(e:Int)(K:SV->Prop):Prop:=
 match k with
 | .i64=>Ar (-9223372036854775808<=e/\e<=9223372036854775807) (K (.val (.int .i64 e))) (K (.val (.int .i64 (IntKind.i64.wrap e))))
 | .i32=>Ar (-2147483648<=e/\e<=2147483647) (K (.val (.int .i32 e))) (K (.val (.int .i32 (IntKind.i32.wrap e))))
 | .i16=>Ar (-32768<=e/\e<=32767) (K (.val (.int .i16 e))) (K (.val (.int .i16 (IntKind.i16.wrap e))))
 | .i8=>Ar (-128<=e/\e<=127) (K (.val (.int .i8 e))) (K (.val (.int .i8 (IntKind.i8.wrap e))))
 | .u64=>Ar (0<=e/\e<=18446744073709551615) (K (.val (.int .u64 e))) (K (.val (.int .u64 (IntKind.u64.wrap e))))
 | .u32=>Ar (0<=e/\e<=4294967295) (K (.val (.int .u32 e))) (K (.val (.int .u32 (IntKind.u32.wrap e))))
 | .u16=>Ar (0<=e/\e<=65535) (K (.val (.int .u16 e))) (K (.val (.int .u16 (IntKind.u16.wrap e))))
 | .u8=>Ar (0<=e/\e<=255) (K (.val (.int .u8 e))) (K (.val (.int .u8 (IntKind.u8.wrap e))))
def kmax:IntKind->Int
 | .i64=>9223372036854775807
 | .i32=>2147483647
 | .i16=>32767
 | .i8=>127
 | .u64=>18446744073709551615
 | .u32=>4294967295
 | .u16=>65535
 | .u8=>255
def zat(s:SV)(K:SV->Prop):Prop:=
 match s with
 |.val v=>(match v with
  | .int k n=>K (.val (.int k n))
  | .bool b=>(match b with | true=>K (.val (.bool true)) | false=>K (.val (.bool false)))
  | .slice a l c=>K (.val (.slice a l c))
  | v=>K (.val v))
 | .pr p i=>K (.pr p i)
 | .agg cs=>K (.agg cs)
 | .sl enc xs=>K (.sl enc xs)
 | .ptr cs=>K (.ptr cs)
 | .loc k off=>K (.loc k off)
 | .own k=>K (.own k)
 | .eloc k sz i off=>K (.eloc k sz i off)
 | .win k sz lo n=>K (.win k sz lo n)
 | .fn f caps=>K (.fn f caps)
 | .tup vs=>K (.tup vs)
 | .junk=>K .junk
 | .nils=>K .nils
 | .anyb=>K .anyb
 | .full enc xs=>K (.full enc xs)
 | .dptr cs=>K (.dptr cs)
 | .dfn f cs=>K (.dfn f cs)
 | .ifc t s=>K (.ifc t s)
 | .bm f cs=>K (.bm f cs)
 | .op v=>K (.op v)
def ev(L:List (Nat×SV))(x:Operand)(K:SV->Prop):Prop:=
 match x with
 |.tmp t=>(match qc L t with
  | some s=>zat s K
  | none=>False)
 | .const v=>zat (.val v) K
 | .func f=>K (.fn f [])
 | .global _=>False
def evs(L:List (Nat×SV))(xs:List Operand):(List SV->Prop)->Prop:=
 List.rec (motive:=λ_=>(List SV->Prop)->Prop) (λK=>K []) (λx _ ih K=>ev L x λs=>ih λl=>K (s::l)) xs
def putL(L:List (Nat×SV))(d:Option Tmp)(s:SV):List (Nat×SV):=
 match d with
 | some d=>(d,s)::L
 | none=>L
def uR(M:List (Nat×Mem)):List Nat->List (Nat×Mem)
 | []=>M
 | k::r=>uR (qq M k) r
def zca(M:List (Nat×Mem))(κ:Nat):MD->List (Nat×Mem)
 | .none=>M
 | .push m=>(κ,m)::M
 | .set k m=>qL M k m
 | .drop k=>qq M k
 | .repl k m=>(κ,m)::qq M k
 | .give ks new _=>new++uR M ks
def zaL(κ:Nat):MD->Nat
 | .push _=>κ+1
 | .repl _ _=>κ+1
 | .give _ _ nn=>κ+nn
 | _=>κ
def St.app(σ:St)(d:Option Tmp)(s:SV)(m:MD):St:=⟨putL σ.L d s,zca σ.M σ.nk m,zaL σ.nk m,σ.nt,σ.n0⟩
def St.put(σ:St)(d:Option Tmp)(s:SV):St:=⟨putL σ.L d s,σ.M,σ.nk,σ.nt,σ.n0⟩
def kR:SV->List SV
 | .agg cs=>cs
 | s=>[s]
def vals(l:List Value):List SV:=l.map .val
def yn(cs:List SV)(off:Nat)(new:List SV):List SV:=cs.take off++new++cs.drop (off+new.length)
def mkV(agg:Bool)(sz:Nat)(cs:List SV)(K:SV->Prop):Prop:=
 match agg with
 | true=>K (.agg (cs.take sz))
 |false=>(match cs with
  | c::_=>zat c K
  | []=>False)
def znZ:List (Nat×TypeId)->Nat->Option (Nat×TypeId)
 | [],_=>none
 | x::_,0=>some x
 | _::r,n+1=>znZ r n
def kE(Γ:List (TypeId×TI))(t:TypeId)(K:TI->Prop):Prop:=
 match ti Γ t with
 | some i=>K i
 | none=>False
def ztl(s:SV)(K:(p:Prop)->Decidable p->Prop):Prop:=
 match s with
 | .pr p i=>K p i
 | .val (.bool true)=>K True instDecidableTrue
 | .val (.bool false)=>K False instDecidableFalse
 | _=>False
def zqs:IntKind->IntKind->Bool
 | .i64,.i64=>true
 | .i32,.i32=>true
 | .i16,.i16=>true
 | .i8,.i8=>true
 | .u64,.u64=>true
 | .u32,.u32=>true
 | .u16,.u16=>true
 | .u8,.u8=>true
 | _,_=>false
def zR(b:Bool)(K:Prop):Prop:=
 match b with
 | true=>K
 | false=>False
def uy(a b:Bool):Bool:=
 match a with
 | true=>b
 | false=>false
def zfw:List SV->List SV->((p:Prop)->Decidable p->Prop)->Prop
 | [],[],K=>K True instDecidableTrue
 |c::cs,d::ds,K=>zat c λc=>zat d λd=>(match c,d with
  | .val (.int k m),.val (.int k' n)=>zR (zqs k k') (zfw cs ds λp i=>K (m=n/\p) (@instDecidableAnd _ _ (inferInstance) i))
  | _,_=>False)
 | _,_,_=>False
def zau(op:BinOp)(k:IntKind)(x y:Int):Int:=
 match op with
 | .and=>k.wrap (BitVec.ofInt k.bits x&&&BitVec.ofInt k.bits y).toNat
 | .or=>k.wrap (BitVec.ofInt k.bits x|||BitVec.ofInt k.bits y).toNat
 | .xor=>k.wrap (BitVec.ofInt k.bits x ^^^ BitVec.ofInt k.bits y).toNat
 | _=>k.wrap (BitVec.ofInt k.bits x&&&~~~ (BitVec.ofInt k.bits y)).toNat
def zu1:Operand->Bool
 | .const _=>true
 | _=>false
def ziF(Γ:List (TypeId×TI))(f:TypeId->Bool):List (Nat×TypeId)->Nat->Nat->Bool
 | [],at_,sz=>Nat.beq at_ sz
 | (off,t)::r,at_,sz=>match ti Γ t with
  | some j=>uy (Nat.beq off at_) (uy (f t) (ziF Γ f r (at_+j.sz) sz))
  | none=>false
def zfx(Γ:List (TypeId×TI)):Nat->TypeId->Bool
 | 0,_=>false
 | n+1,t=>match ti Γ t with
  |some i=>(match i.kind with
   | .int _=>Nat.beq i.sz 1
   | .struct fs=>uy i.cmp (ziF Γ (zfx Γ n) fs 0 i.sz)
   |.arr len e=>uy i.cmp (uy (Nat.beq len 2) (uy (Nat.beq i.sz 2) (match ti Γ e with
    | some j=>uy (Nat.beq j.sz 1) (zfx Γ n e)
    | none=>false)))
   | _=>false)
  | none=>false
def zqt(op:BinOp)(y:Operand)(k:IntKind)(m n:Int)(K:SV->Prop):Prop:=
 match op,zu1 y with
 |.shl,true=>(match n with
  | .ofNat c=>Ob (c < k.bits) (zkP k (m*2 ^ c) K)
  | .negSucc _=>False)
 | .shl,false=>Ob (0<=n/\n < k.bits) (zkP k (m*2 ^ n.toNat) K)
 |.shr,true=>(match n with
  | .ofNat c=>Ob (c < k.bits) (K (.val (.int k (m / 2 ^ c))))
  | .negSucc _=>False)
 | .shr,false=>Ob (0<=n/\n < k.bits) (K (.val (.int k (m / 2 ^ n.toNat))))
 | _,_=>False
def intV(op:BinOp)(k:IntKind)(m n:Int)(K:SV->Prop):Prop:=
 match op with
 | .add=>zkP k (m+n) K
 | .sub=>zkP k (m - n) K
 | .mul=>zkP k (m*n) K
 | .quo=>Dv (0<=m/\0 < n/\m<=kmax k) (K (.val (.int k (m / n)))) (n≠0) (zkP k (m.tdiv n) K)
 | .rem=>Dv (0<=m/\0 < n) (K (.val (.int k (m % n)))) (n≠0) (K (.val (.int k (m.tmod n))))
 | .eql=>K (.pr (m=n) inferInstance)
 | .neq=>K (.pr (¬m=n) inferInstance)
 | .lss=>K (.pr (m < n) inferInstance)
 | .leq=>K (.pr (m<=n) inferInstance)
 | .gtr=>K (.pr (n < m) inferInstance)
 | .geq=>K (.pr (n<=m) inferInstance)
 | .and=>∃r,r=zau .and k m n/\K (.val (.int k r))
 | .or=>∃r,r=zau .or k m n/\K (.val (.int k r))
 | .xor=>∃r,r=zau .xor k m n/\K (.val (.int k r))
 | .andNot=>∃r,r=zau .andNot k m n/\K (.val (.int k r))
 | _=>False
def zrJ:BinOp->Bool
 | .shl=>true
 | .shr=>true
 | _=>false
def zn0:Value->Bool
 | .nilIface=>true
 | _=>false
def ifB:Value->Bool
 | .nilIface=>true
 | .iface _ _=>true
 | _=>false
inductive ztm (p q r:Prop):Prop
 | some (h:p) (k:q)
 | any (k:r)
def zu2(t:TK)(op:BinOp)(n:Nat)(K:SV->Prop):Prop:=
 match t,op with
 | .slice _,.eql=>ztm (n≠0) (K (.val (.bool false))) (K .anyb)
 | .slice _,.neq=>ztm (n≠0) (K (.val (.bool true))) (K .anyb)
 | _,_=>False
def uS(op:BinOp)(b:Bool)(K:SV->Prop):Prop:=
 match op with
 | .eql=>K (.val (.bool b))
 | .neq=>K (.val (.bool (!b)))
 | _=>False
def bin(Γ:List (TypeId×TI))(op:BinOp)(t:TypeId)(y:Operand)(a b:SV)(K:SV->Prop):Prop:=
 match a,b with
 |.val (.int k m),.val (.int k' n)=>(match zrJ op with
  | true=>zqt op y k m n K
  | false=>zR (zqs k k') (intV op k m n K))
 |.agg cs,.agg ds=>kE Γ t λi=>zR i.kind.agg (zR (Nat.beq cs.length i.sz)<|zR (zfx Γ 8 t) (match op with
  | .eql=>zfw cs ds λp i=>K (.pr p i)
  | .neq=>zfw cs ds λp i=>K (.pr (¬p) (@instDecidableNot _ i))
  | _=>False))
 | .sl _ xs,.val (.slice none 0 0)=>kE Γ t λi=>zu2 i.kind op xs.length K
 |.val (.slice none 0 0),.val (.slice none 0 0)=>kE Γ t λi=>(match i.kind,op with
  | .slice _,.eql=>K (.val (.bool true))
  | .slice _,.neq=>K (.val (.bool false))
  | _,_=>False)
 |.dptr _,.val (.pointer none)=>kE Γ t λi=>(match i.kind with
  | .ptr _=>uS op false K
  | _=>False)
 |.ptr _,.val (.pointer none)=>kE Γ t λi=>(match i.kind with
  | .ptr _=>uS op false K
  | _=>False)
 |.loc _ _,.val (.pointer none)=>kE Γ t λi=>(match i.kind with
  | .ptr _=>uS op false K
  | _=>False)
 |.val (.pointer none),.val (.pointer none)=>kE Γ t λi=>(match i.kind with
  | .ptr _=>uS op true K
  | _=>False)
 |.ifc _ _,.val .nilIface=>kE Γ t λi=>(match i.kind with
  | .iface=>uS op false K
  | _=>False)
 |.val .nilIface,.val .nilIface=>kE Γ t λi=>(match i.kind with
  | .iface=>zR (zu1 y) (uS op true K)
  | _=>False)
 |.op v,.val .nilIface=>kE Γ t λi=>(match i.kind with
  |.iface=>zR (zu1 y) (match op with
   | .eql=>K (.pr (zn0 v=true) inferInstance)
   | .neq=>K (.pr (¬zn0 v=true) inferInstance)
   | _=>False)
  | _=>False)
 |a,b=>kE Γ t λi=>(match i.kind,op with
  | .bool,.eql=>ztl a λp i=>ztl b λq j=>K (.pr (p↔q) (@instDecidableIff _ _ i j))
  | .bool,.neq=>ztl a λp i=>ztl b λq j=>K (.pr (¬(p↔q)) (@instDecidableNot _ (@instDecidableIff _ _ i j)))
  | _,_=>False)
def ym:SV->Bool
 | .dptr _=>true
 | .dfn _ _=>true
 | .bm _ _=>true
 | .op _=>true
 | .ifc _ s=>ym s
 | .val _=>true
 | .pr _ _=>true
 | .sl _ _=>true
 | .nils=>true
 | .anyb=>true
 | .full _ _=>true
 | .agg cs=>flats cs
 | _=>false
 where
 flats:List SV->Bool
  | []=>true
  | c::cs=>match ym c with
   | true=>flats cs
   | false=>false
def uz:SV->Bool
 | .ifc _ s=>uz s
 | .val _=>true
 | .pr _ _=>true
 | .nils=>true
 | .anyb=>true
 | .agg cs=>scalars cs
 | _=>false
 where
 scalars:List SV->Bool
  | []=>true
  | c::cs=>match uz c with
   | true=>scalars cs
   | false=>false
def ziG:SV->Bool
 | .tup cs=>ym.flats cs
 | s=>ym s
def zig:SV->Bool
 | .tup cs=>uz.scalars cs
 | s=>uz s
def zrK(lm:Nat->Option Mem)(s:SV):SV:=
 match s with
 |.own k=>(match lm k with
  | some (.arr _ enc _ xs)=>.sl enc xs
  | _=>.junk)
 | .fn f []=>.val (.func (.func f) #[] #[])
 |s=>(match ym s with
  | true=>s
  | false=>.junk)
def zcb(lm:Nat->Option Mem):List SV->List SV
 | []=>[]
 | c::cs=>zrK lm c::zcb lm cs
def zhF(lm:Nat->Option Mem)(s:SV):SV:=
 match s with
 |.loc k off=>(match lm k with
  | some (.box _ cs)=>.ptr ((zcb lm cs).drop off)
  | _=>.junk)
 |.own k=>(match lm k with
  | some (.arr _ enc _ xs)=>.sl enc xs
  | _=>.junk)
 |.win k sz lo n=>(match lm k with
  |some (.arr _ enc sz' xs)=>(match Nat.beq sz sz' with
   | true=>.sl enc ((xs.drop lo.toNat).take n.toNat)
   | false=>.junk)
  | _=>.junk)
 | .agg cs=>.agg (zcb lm cs)
 | .ptr cs=>.ptr cs
 | .fn f []=>.fn f []
 |s=>(match ym s with
  | true=>s
  | false=>.junk)
def zmr(lm:Nat->Option Mem):List SV->List SV
 | []=>[]
 | c::cs=>zhF lm c::zmr lm cs
def ziH(lm:Nat->Option Mem)(s:SV):SV:=
 match s with
 | .fn f cs=>.fn f (zmr lm cs)
 | s=>zhF lm s
def zcR(lm:Nat->Option Mem):List SV->List SV
 | []=>[]
 | c::cs=>ziH lm c::zcR lm cs
def zcc(lm:Nat->Option Mem)(s:SV):Bool:=
 match s with
 |.loc k _=>(match lm k with
  | some (.box _ cs)=>ym.flats cs
  | _=>false)
 | .ptr _=>true
 | .agg cs=>ym.flats cs
 | s=>ym s
def zcd(lm:Nat->Option Mem):List SV->Bool
 | []=>true
 | c::cs=>match zcc lm c with
  | true=>zcd lm cs
  | false=>false
def ux(lm:Nat->Option Mem):List SV->Bool
 | []=>true
 |.fn _ cs::r=>(match zcd lm cs with
  | true=>ux lm r
  | false=>false)
 | c::r=>match zcc lm c with
  | true=>ux lm r
  | false=>false
def zrL(lm:Nat->Option Mem)(args:List SV)(r:SV):Bool:=
 match ux lm args with
 | true=>ziG r
 | false=>zig r
inductive D (S:Nat->Prop) (w:World):SV->Value->Prop
 | val (v:Value):D S w (.val v) v
 | pr (p:Prop) (i:Decidable p):D S w (.pr p i) (.bool (@decide p i))
 | agg (cs:List SV) (vs:List Value) (hl:vs.length=cs.length)
   (h:∀(j:Nat) (s:SV) (v:Value),cs[j]? =some s->vs[j]? =some v->D S w s v):D S w (.agg cs) (.agg vs.toArray)
 | nil {α:Type} (enc:α->List SV) (a:Option Addr):D S w (.sl enc []) (.slice a 0 0)
 | nils (a:Option Addr):D S w .nils (.slice a 0 0)
 | anyb (b:Bool):D S w .anyb (.bool b)
 | junk (v:Value):D S w .junk v
 | full {α:Type} (enc:α->List SV) (xs:List α) (a:Option Addr) (h:D S w (.sl enc xs) (.slice a xs.length xs.length)):D S w (.full enc xs) (.slice a xs.length xs.length)
 | sl {α:Type} (enc:α->List SV) (xs:List α) (sz b o cap:Nat) (c:Nat->Nat->Value) (hb:b < w.heap.size) (hS:¬S b)
   (hlen:xs.length<=9223372036854775807) (hcap:xs.length<=cap) (hsz:∀x∈xs,(enc x).length=sz)
   (hc:∀i j,i < xs.length->j < sz->w.cell? ⟨b,o+i*sz+j,none⟩=some (c i j)/\(c i j).oneCell'=true)
   (h:∀(i j:Nat) (x:α) (s:SV),xs[i]? =some x->(enc x)[j]? =some s->D S w s (c i j)):
   D S w (.sl enc xs) (.slice (some ⟨b,o,none⟩) xs.length cap)
 | dptr (cs:List SV) (b o:Nat) (c:Nat->Value) (hb:b < w.heap.size) (hS:¬S b)
   (hc:∀j,j < cs.length->w.cell? ⟨b,o+j,none⟩=some (c j)/\(c j).oneCell'=true)
   (h:∀(j:Nat) (s:SV),cs[j]? =some s->D S w s (c j)):D S w (.dptr cs) (.pointer (some ⟨b,o,none⟩))
 | dfn (f:FuncId) (cs:List SV) (vs:List Value) (hl:vs.length=cs.length)
   (h:∀(j:Nat) (s:SV) (v:Value),cs[j]? =some s->vs[j]? =some v->D S w s v):D S w (.dfn f cs) (.func (.func f) #[] vs.toArray)
 | ifc (t:TypeId) (s:SV) (v:Value) (h:D S w s v):D S w (.ifc t s) (.iface t v)
 | bm (f:FuncId) (cs:List SV) (vs:List Value) (hl:vs.length=cs.length)
   (h:∀(j:Nat) (s:SV) (v:Value),cs[j]? =some s->vs[j]? =some v->D S w s v):D S w (.bm f cs) (.func (.func f) vs.toArray #[])
 | op (v:Value) (h:ifB v=true):D S w (.op v) v
abbrev zj:=Nat->Option Value
inductive G (S Pm:Nat->Prop) (ρ:zj) (w:World):SV->Value->Prop
 | d (s:SV) (v:Value) (h:D S w s v):G S Pm ρ w s v
 | loc (k off b:Nat) (h:ρ k=some (.pointer (some ⟨b,0,none⟩))):G S Pm ρ w (.loc k off) (.pointer (some ⟨b,off,none⟩))
 | own (k:Nat) (v:Value) (h:ρ k=some v) (h1:v.oneCell'=true):G S Pm ρ w (.own k) v
 | eloc (k sz:Nat) (i:Int) (off b len cap:Nat) (h:ρ k=some (.slice (some ⟨b,0,none⟩) len cap)):
   G S Pm ρ w (.eloc k sz i off) (.pointer (some ⟨b,i.toNat*sz+off,none⟩))
 | win (k sz:Nat) (lo n:Int) (b len cap cap':Nat) (h:ρ k=some (.slice (some ⟨b,0,none⟩) len cap)) (h1:lo.toNat+n.toNat<=len) (h2:n.toNat<=cap'):
   G S Pm ρ w (.win k sz lo n) (.slice (some ⟨b,lo.toNat*sz,none⟩) n.toNat cap')
 | ptr (cs:List SV) (b o:Nat) (c:Nat->Value) (hb:b < w.heap.size) (hP:¬Pm b)
   (hc:∀j,j < cs.length->w.cell? ⟨b,o+j,none⟩=some (c j)/\(c j).oneCell'=true)
   (h:∀(j:Nat) (s:SV),cs[j]? =some s->D S w s (c j)):G S Pm ρ w (.ptr cs) (.pointer (some ⟨b,o,none⟩))
 | agg (cs:List SV) (vs:List Value) (hl:vs.length=cs.length)
   (h:∀(j:Nat) (s:SV) (v:Value),cs[j]? =some s->vs[j]? =some v->G S Pm ρ w s v):G S Pm ρ w (.agg cs) (.agg vs.toArray)
 | tup (cs:List SV) (vs:List Value) (hl:vs.length=cs.length)
   (h:∀(j:Nat) (s:SV) (v:Value),cs[j]? =some s->vs[j]? =some v->G S Pm ρ w s v):G S Pm ρ w (.tup cs) (.tuple vs.toArray)
 | fn (f:FuncId) (cs:List SV) (vs:List Value) (hl:vs.length=cs.length)
   (h:∀(j:Nat) (s:SV) (v:Value),cs[j]? =some s->vs[j]? =some v->G S Pm ρ w s v):G S Pm ρ w (.fn f cs) (.func (.func f) #[] vs.toArray)
 | ifc (t:TypeId) (s:SV) (v:Value) (h:G S Pm ρ w s v):G S Pm ρ w (.ifc t s) (.iface t v)
def Gs(S Pm:Nat->Prop)(ρ:zj)(w:World)(cs:List SV)(vs:List Value):Prop:=
 vs.length=cs.length/\∀(j:Nat) (s:SV) (v:Value),cs[j]? =some s->vs[j]? =some v->G S Pm ρ w s v
def qu:Value->Option Nat
 | .pointer (some a)=>some a.block
 | .slice (some a) _ _=>some a.block
 | .map (some r)=>some r
 | _=>none
def Own(M:List (Nat×Mem))(ρ:zj)(b:Nat):Prop:=∃k m v,(k,m)∈M/\ρ k=some v/\qu v=some b
def jW(S Pm:Nat->Prop)(ρ:zj)(w:World)(k:Nat):Mem->Prop
 | .box T cs=>∃b vs,ρ k=some (.pointer (some ⟨b,0,none⟩))/\w.heap[b]? =some (.cells (List.toArray vs) T (0,0))/\
   vs.length=cs.length/\(∀v∈vs,v.oneCell'=true)/\∀(j:Nat) (s:SV) (v:Value),cs[j]? =some s->vs[j]? =some v->G S Pm ρ w s v
 | .arr T enc sz xs=>∃v cells,ρ k=some v/\w.ownsRow 0 T sz v xs.length cells/\xs.length<=281474976710656/\(∀u∈cells,u.oneCell'=true)/\
   (∀x∈xs,(enc x).length=sz)/\
   ∀(i j:Nat) x (s:SV),xs[i]? =some x->(enc x)[j]? =some s->∃u,cells[i*sz+j]? =some u/\D S w s u
 | .garr T sz xs=>∃v cells,ρ k=some v/\w.ownsRow 0 T sz v xs.length cells/\xs.length<=281474976710656/\(∀u∈cells,u.oneCell'=true)/\
   (∀x∈xs,x.length=sz)/\
   ∀(i j:Nat) x (s:SV),xs[i]? =some x->x[j]? =some s->∃u,cells[i*sz+j]? =some u/\G S Pm ρ w s u
 | .map es=>∃r ents clock,ρ k=some (.map (some r))/\w.heap[r]? =some (.map ents clock)/\ents.size=es.length/\
   ∀(i:Nat) (n:Int) (s:SV),es[i]? =some (n,s)->∃e,ents[i]? =some e/\e.key=.int .i64 n/\D S w s e.val
def GL(g:Nat)(v:Value):Prop:=(g,v)∈([(0,.iface 321 (.agg #[.pointer (some ⟨3,231,none⟩)]))]:List (Nat×Value))
structure zN (Keep:Nat->Prop) (M:List (Nat×Mem)) (ρ:zj) (w:World):Prop where
 rel:∀k m,(k,m)∈M->jW (λb=>Keep b∨Own M ρ b) (Own M ρ) ρ w k m
 keys:M.Pairwise λa b=>a.1≠b.1
 apart:∀k m k' m' v v' b,(k,m)∈M->(k',m')∈M->k≠k'->ρ k=some v->ρ k'=some v'->qu v=some b->qu v'≠some b
 old:∀b,Own M ρ b->b < w.heap.size/\¬Keep b
 kp:∀b,Keep b->b < w.heap.size
 gl:∀g v,GL g v->¬Own M ρ g/\w.cell? ⟨g,0,none⟩=some v
def qb(w w':World):Prop:=w'.output=w.output/\∀a,w'.frozen? a=w.frozen? a
structure Stp (W W':Nat->Prop) (ρ ρ':zj) (w w':World):Prop where
 os:w'.os=w.os
 tape:w'.tape=w.tape
 output:qb w w'
 size:w.heap.size<=w'.heap.size
 block:∀b,b < w.heap.size->¬W b->w'.heap[b]? =w.heap[b]?
 own:∀b,W' b->W b∨w.heap.size<=b
 rho:∀k v,ρ k=some v->ρ' k=some v
variable{w:World}
theorem zn1{g:Nat}{v:Value}(h:w.cell? ⟨g,0,none⟩=some v):g < w.heap.size:=by
 rcases Qa g w.heap.size with h1 | h1
 ·exact h1
 ·simp[World.cell?,Kj h1]at h
variable{w':World}
theorem ziI{g:Nat}(h:w'.heap[g]? =w.heap[g]?):w'.cell? ⟨g,0,none⟩=w.cell? ⟨g,0,none⟩:=by
 simp only[World.cell?,h]
variable{Keep:Nat->Prop}{M:List (Nat×Mem)}{ρ:zj}
theorem zN.glc(hm:zN Keep M ρ w){g:Nat}{v:Value}(h:GL g v):w.cell? ⟨g,0,none⟩=some v:=(hm.gl g v h).2
variable{M':List (Nat×Mem)}{ρ':zj}
theorem zN.glS(hm:zN Keep M ρ w)(hs:Stp (Own M ρ) (Own M' ρ') ρ ρ' w w'):∀g v,GL g v->¬Own M' ρ' g/\w'.cell? ⟨g,0,none⟩=some v:=λg v h=>by
 obtain⟨h1,h2⟩:=hm.gl g v h;have hl:=zn1 h2;exact⟨λho=>(hs.own g ho).elim h1 λk=>by omega,(ziI (hs.block g hl h1)).trans h2⟩
theorem zN.glO(hm:zN Keep M ρ w)(hown:∀b,Own M' ρ' b->Own M ρ b):∀g v,GL g v->¬Own M' ρ' g/\w.cell? ⟨g,0,none⟩=some v:=λg v h=>
 ⟨λho=>(hm.gl g v h).1 (hown g ho),hm.glc h⟩
def zbH(P:Program)(f:FuncId):Prop:=∃fn,P.funcs[f]? =some fn/\(fn.name== "runtime.NumGoroutine")=false/\fn.body.isNone=false
def qF(P:Program)(f:FuncId)(args:List SV)(M:List (Nat×Mem))(r:SV)(M':List (Nat×Mem)):Prop:=
 zbH P f/\∀(Keep:Nat->Prop) (ρ:zj) (w:World) (vs:List Value),(∀b,Keep b->b < w.heap.size)->zN Keep M ρ w->(∀k,M.length<=k->ρ k=none)->
  Gs (λb=>Keep b∨Own M ρ b) (Own M ρ) ρ w args vs->
  Calls P f vs.toArray w λe w'=>∃v ρ',e=.returned v/\Stp (Own M ρ) (Own M' ρ') ρ ρ' w w'/\zN Keep M' ρ' w'/\
   G (λb=>Keep b∨Own M' ρ' b) (Own M' ρ') ρ' w' r v
structure Env where
 w0:World
 ρ0:zj
 Keep:Nat->Prop
 W0:Nat->Prop
 ds:List Deferred
structure Rel (E:Env) (σ:St) (ρ:zj) (a:Act) (w:World):Prop where
 size:a.tmps.size=σ.nt
 defers:a.defers=E.ds
 regs:∀t s,qc σ.L t=some s->t < σ.nt/\G (λb=>E.Keep b∨Own σ.M ρ b) (Own σ.M ρ) ρ w s (a.tmps.getD t undef)
 mem:zN E.Keep σ.M ρ w
 fresh:∀k,σ.nk<=k->ρ k=none
 stp:Stp E.W0 (Own σ.M ρ) E.ρ0 ρ E.w0 w
 keep:∀b,E.Keep b->b < E.w0.heap.size
 low:∀k v,E.ρ0 k=some v->k < σ.n0
end Go.Gs
