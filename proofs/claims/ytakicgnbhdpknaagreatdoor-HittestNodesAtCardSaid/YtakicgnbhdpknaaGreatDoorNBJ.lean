/- Winding numbers and fill rules, both texts. -/
import Derived.Test.YtakicgnbhdpknaaGreatDoorNBI
import Derived.LaidEql
import Derived.Stop.Asserts
import Derived.RowKitTokens
import Derived.Test.YtakicgnbhdpknaaGreatDoorNBF
set_option maxRecDepth 100000
set_option maxHeartbeats 8000000
set_option linter.all false
namespace Go.Gs
open Proofs.Tryz
open Go.Proofs
def w_cnt(a b p:Pt)(n:Int)(hn: -1000000<=n/\n<=1000000):
  CG0 113 [wk a,wk b,.ptr (ptE p),.loc 0 0] [(0,.box 3 [i64 n])] (.tup []) [(0,.box 3 [i64 (n+zag a b p)])]:=by
 refine un tok mix func113 rfl rfl rfl rfl rfl ?_;have fin:∀{d:Int},zag a b p=d->some (Mem.box 3 [i64 (n+d)])=some (Mem.box 3 [i64 (n+zag a b p)]):=λh=>by rw[h]
 refine⟨λh1=>?_,λh1=>?_⟩;refine⟨λh2=>?_,λh2=>?_⟩;refine wg (zxH a b p)<|⟨λh3=>Ar.fit oM ⟨fin (ztL h1 h2 h3),.refl⟩,λh3=>?_⟩
 all_goals
  have h0:¬(a.y<=p.y/\p.y<b.y/\0<sgn (orP a b p)):=λh=>by first|exact h3 h.2.2|exact h2 h.2.1|exact h1 h.1
  have sec:¬(b.y<=p.y/\p.y<a.y/\0<sgn (orP b a p))->some (Mem.box 3 [i64 n])=some (Mem.box 3 [i64 (n+zag a b p)]):=λk=>by rw[←fin (ztM h0 k),J4]
  refine⟨λk1=>?_,λk1=>⟨sec λh=>k1 h.1,.refl⟩⟩;refine⟨λk2=>?_,λk2=>⟨sec λh=>k2 h.2.1,.refl⟩⟩;exact wg (zxH b a p)<|⟨λk3=>Ar.fit oM ⟨fin (zi0 h0 k1 k2 k3),.refl⟩,λk3=>⟨sec λh=>k3 h.2.2,.refl⟩⟩
def boxI{T:TypeId}{m n:Int}(h:m=n):some (Mem.box T [i64 m])=some (Mem.box T [i64 n]):=by rw[h]
def zBo(r:LU)(p:Pt)(c:Int)(hc: -4096<=c/\c<=4096)(hr:r.length<=4096):
  CG0 115 [.sl ptE r,.fn 113 [.loc 0 0,.loc 1 0]] [(0,.box 28 (ptE p)),(1,.box 3 [i64 c])] (.tup [])
   [(0,.box 28 (ptE p)),(1,.box 3 [i64 (c+zaF r p r.length)])]:=by
 refine yB tok mix func115 rfl rfl rfl λhl1=>?_
 refine⟨Nat,λi=>⟨[(8,i64 i),(7,i64 r.length),(6,.sl ptE r),(0,.sl ptE r),(1,.fn 113 [.loc 0 0,.loc 1 0])],[(0,.box 28 (ptE p)),(1,.box 3 [i64 (c+zaF r p i)])],2,25,2⟩,
  λi=>i<=r.length,λi=>r.length-i,0,Xh _,zu [0,1] ⟨rfl,boxI (J4 c).symm,tV⟩,?_⟩
 rintro i h1
 have h1:i<=r.length:=h1;refine⟨λg:(i:Int)<r.length=>?_,λg=>?_⟩
 ·refine wb λx(hx:r[i]?=some x)=>?_;refine wd<|wa λhl2=>Dv.pos ⟨oM,oM⟩ ?_;have q1:=Kb ((i:Int)+1) (b:=(r.length:Int)) oM;have q2:=X5 ((i:Int)+1) (b:=(r.length:Int)) oM;refine Ob.mk ⟨q1,q2⟩ λy hy=>?_;have hw:=zdK r p i;refine zb.hand 1 _ _ _ rfl (w_cnt x y p (c+zaF r p i) oM) rfl rfl rfl rfl<|wh<|wa ?_
  exact⟨i+1,by show i+1<=r.length;omega,zu [0,1] ⟨rfl,boxI (by rw[zmq hx hy oM,Yv]),tV⟩,oN⟩
 obtain rfl:i=r.length:=by have g:¬(i:Int)<r.length:=g;omega
 exact⟨_,.refl,rfl,.refl⟩
def zui{rs:LQ}{p:Pt}(h:¬zr p):0=zkf rs p:=(Xc λk=>h k.2).symm
def zEa(rs:LQ)(p:Pt)(hr:kL rs):CX 79 [.sl zk rs,wk p] (i64 (zkf rs p)):=by
 have hr1:qa rs<=4096:=by have:=hr.1;omega
 refine zc func79<|wg (kY p)<|⟨λh=>ze (zui h),λh=>?_⟩;refine wg (zgw rs λr hm=>by have:=vv hm;omega)<|⟨λk=>absurd hr k,λ_=>?_⟩;intro hl
 refine⟨Nat,λi=>⟨[(20,i64 i),(19,i64 rs.length),(18,.sl zk rs),(6,.fn 113 [.loc 0 0,.loc 1 0]),(5,.loc 1 0)],[(0,.box 28 (ptE p)),(1,.box 3 [i64 (zbA rs p i)])],2,29,0⟩,
  λi=>i<=rs.length,λi=>rs.length-i,0,Xh _,zf [0,1],?_⟩
 rintro i h1
 have h1:i<=rs.length:=h1;refine⟨λg:(i:Int)<rs.length=>?_,λg=>?_⟩
 ·refine wb λr(hx:rs[i]?=some r)=>?_;have hw:=zbB rs p i h1;have h2:=v7 rs i;have h3:=vv (Xf hx)
  refine zb.give [0,1] 0 [.sl ptE r,.fn 113 [.loc 0 0,.loc 1 0]] [(0,.box 28 (ptE p)),(1,.box 3 [i64 (zbA rs p i)])]
   [(0,.box 28 (ptE p)),(1,.box 3 [i64 (zbA rs p i+zaF r p r.length)])] (.tup []) (zBo r p (zbA rs p i) oM oM) LEs.refl rfl rfl rfl ⟨⟨_,rfl,rfl,rfl⟩,⟨_,rfl,rfl,rfl⟩,tV⟩ rfl ⟨⟨rfl,rfl⟩,⟨rfl,rfl⟩,tV⟩ ?_
  exact wa<|⟨i+1,by show i+1<=rs.length;omega,zu [0,1] ⟨rfl,boxI (zfA hx).symm,tV⟩,oN⟩
 obtain rfl:i=rs.length:=by have g:¬(i:Int)<rs.length:=g;omega
 exact ze (Xe ⟨hr,Xa.1 h⟩).symm
def zEb(rs:LQ)(p:Pt)(hr:kL rs):CX 124 [.sl zk rs,wk p] (i64 (zkf rs p)):=by
 have hr1:qa rs<=4096:=by have:=hr.1;omega
 refine zc func124<|wg (zkd rs)<|⟨λk=>absurd hr k,λ_=>?_⟩;refine wg (z9 p)<|⟨λh=>ze (zui h),λh=>?_⟩
 refine⟨Nat,λi=>⟨[(6,i64 i),(5,i64 (zbA rs p i)),(3,.loc 0 0),(0,.sl zk rs)],[(0,.box 28 (ptE p))],1,49,0⟩,
  λi=>i<=rs.length,λi=>rs.length-i,0,Xh _,zf [0],?_⟩
 rintro i h1
 have h1:i<=rs.length:=h1;intro hl;refine⟨λg:(i:Int)<rs.length=>?_,λg=>?_⟩
 ·obtain⟨r,hx⟩:∃r,rs[i]?=some r:=⟨_,Xb oM⟩;have get:∀z,rs[i]?=some z->z=r:=λz hz=>Xm (hz.symm.trans hx)
  have hw:=zbB rs p i h1;have h2:=v7 rs i;have h3:=vv (Xf hx)
  refine⟨Nat,λj=>⟨[(7,i64 j),(6,i64 i),(5,i64 (zbA rs p i+zaF r p j)),(3,.loc 0 0),(0,.sl zk rs)],[(0,.box 28 (ptE p))],1,49,0⟩,
   λj=>j<=r.length,λj=>r.length-j,0,Xh _,zS [0] ⟨rfl,rfl,iR (J4 _).symm,rfl,rfl,tV⟩ ⟨rfl,tV⟩,?_⟩
  rintro j k1
  have k1:j<=r.length:=k1;refine wb λz hz=>?_;rw[get z hz];intro hl2;refine⟨λg:(j:Int)<r.length=>?_,λg=>?_⟩
  ·refine wc<|wb λz hz=>?_;rw[get z hz];refine wb λx(hx2:r[j]?=some x)=>?_;refine wb λz hz=>?_;rw[get z hz];have hj:(j+1)%r.length<r.length:=Kk _ oM;obtain⟨y,hy0⟩:∃y,r[(j+1)%r.length]?=some y:=⟨_,Xb hj⟩;have hy:r[(((j:Int)+1)%(r.length:Int)).toNat]?=some y:=by rw[ziZ oM,XT];exact hy0
   refine wg (zxA r j y ⟨oM,oM⟩ hy)<|wg (zDs x y p) ?_;have hw2:=zdK r p j;have ht:=zir x y p;(iterate 2 refine wa ?_);exact⟨j+1,by show j+1<=r.length;omega,zS [0] ⟨rfl,rfl,iR (by rw[zmq hx2 hy oM,Yv]),rfl,rfl,tV⟩ ⟨rfl,tV⟩,oN⟩
  obtain rfl:j=r.length:=by have g:¬(j:Int)<r.length:=g;omega
  exact wa<|⟨i+1,by show i+1<=rs.length;omega,zS [0] ⟨rfl,iR (zfA hx).symm,rfl,rfl,tV⟩ ⟨rfl,tV⟩,oN⟩
 obtain rfl:i=rs.length:=by have g:¬(i:Int)<rs.length:=g;omega
 exact ze (Xe ⟨hr,Xa.1 h⟩).symm
def zBp{n:Int}(h: -9223372036854775808<=n/\n<=9223372036854775807):vh .and .i64 n (-1)=n:=by
 show IntKind.i64.wrap ((BitVec.ofInt 64 n&&&BitVec.ofInt 64 (-1)).toNat:Nat)=_;rw[show BitVec.ofInt 64 (-1)=BitVec.allOnes 64 from by decide,BitVec.and_allOnes,K3];simp only[IntKind.wrap,IntKind.bits,IntKind.signed];simp;omega
def zy1(n:Int):vh .and .i64 n 0=0:=by
 show IntKind.i64.wrap ((BitVec.ofInt 64 n&&&BitVec.ofInt 64 0).toNat:Nat)=_;rw[show BitVec.ofInt 64 0=0#64 from by decide,BitVec.and_zero];decide
def zBq(n rule:Int)(h: -4096<=n/\n<=4096):CX 78 [i64 n,i64 rule] (pr (zcL n rule)):=by
 refine zc func78 ?_;have e1:=zAX (q:=n) 1 dC;refine⟨λk=>absurd k dC,λ_=>?_⟩;refine⟨λk=>?_,λk=>?_⟩
 ·refine⟨_,rfl,zE ?_⟩;rw[zBp oM];unfold zcL;omega
 refine⟨λk2=>?_,λk2=>?_⟩
 ·refine⟨_,rfl,zE ?_⟩;rw[show(1:Int)=2^1-1 from rfl,e1];unfold zcL;omega
 refine⟨_,rfl,zE ?_⟩;rw[zy1];unfold zcL;omega
def zBr(n rule:Int):CX 123 [i64 n,i64 rule] (pr (zcL n rule)):=by
 refine zc func123 ?_;have e:=tm2 n;refine⟨λh1=>?_,λh1=>?_⟩;refine⟨λh2=>zH (.inl ⟨h1,h2⟩),λh2=>?_⟩
 all_goals
  refine⟨λh3=>Dv.any dC (zE ?_),λh3=>zd ?_⟩
  all_goals unfold zcL;omega
def zgX(rs:LQ)(rule:Int)(p:Pt)(hr:kL rs):CX 44 [.sl zk rs,i64 rule,wk p] (pr (uo rs rule p)):=by
 exact zc func44<|wg (zEa rs p hr)<|zb.to _ (zBq _ rule (zpP rs p)) rfl .refl
def zgY(rs:LQ)(rule:Int)(p:Pt)(hr:kL rs):CX 87 [.sl zk rs,i64 rule,wk p] (pr (uo rs rule p)):=by
 exact zc func87<|wg (zEb rs p hr)<|zb.to _ (zBr _ rule) rfl .refl
end Go.Gs
namespace Go.Gs
open Proofs.Tryz
open Go.Proofs Go.RowKit Go.Extern.Stop Go.Stop Go.Extern
def zvX(t:Value)(w:World):Calls prog 127 #[.nilIface,t] w λe w'=>e=.returned (.bool false)/\w'=w:=by
 go_enter func127,Tryz.ntmps127
 go_wp2
 go_ret
 exact⟨rfl,rfl⟩
def zqY(t:Addr)(w:World):(ReflectliteValue.unpack (.iface 157 (.pointer (some t)))).run prog w
  =.ok (.agg #[.pointer (some ⟨3,157,none⟩),.pointer (some ⟨w.heap.size,0,none⟩),.int .u64 150]) (w.alloc (.cells #[.pointer (some t)] 157)):=by kernel_rfl
def zy2(a:Addr)(w:World):(ReflectliteValue.methodAny (ReflectliteValue.valueError "reflectlite.Value.Type" 0) (λt _ _ _=>ReflectliteType.toType t) #[.agg #[.pointer (some ⟨3,157,none⟩),.pointer (some a),.int .u64 150]]).run prog w
  =.ok (.iface 288 (.agg #[.pointer (some ⟨3,157,none⟩)])) w:=by kernel_rfl
def zlO(h:Value)(w:World):(Go.method 552 288 (.agg #[h]) "Kind").run prog w=.ok (513,h) w:=by kernel_rfl
def zy3(w:World):((ReflectliteType.abiMethod λt=>(λa:Nat=>Value.int IntKind.u8 (a:Int)) <$> Rtype.kind t) #[.pointer (some ⟨3,157,none⟩)]).run prog w=.ok (.int .u8 22) w:=by kernel_rfl
def zy4(w:World):((ReflectliteType.abiMethod λt=>(λa:Nat=>Value.int IntKind.u8 (a:Int)) <$> Rtype.kind t) #[.pointer (some ⟨3,155,none⟩)]).run prog w=.ok (.int .u8 25) w:=by kernel_rfl
def zy5(z:Sem Value)(f:TypeId->Addr->Nat->Nat->Sem Value)(v:Value):
  ReflectliteValue.method z f #[v]=(do match ←ReflectliteValue.parts v with|none=>z|some (t,a,fl)=>f t a fl (fl%32)):=rfl
def zm4(a:Addr)(w:World):(ReflectliteValue.parts (.agg #[.pointer (some ⟨3,157,none⟩),.pointer (some a),.int .u64 150])).run prog w=.ok (some (157,a,150)) w:=by kernel_rfl
def zvY(a p:Addr)(W:World)(ha:W.cell? a=some (.pointer (some p))):
  (ReflectliteValue.method (ReflectliteValue.valueError "reflectlite.Value.IsNil" 0) ReflectliteValue.isNil #[.agg #[.pointer (some ⟨3,157,none⟩),.pointer (some a),.int .u64 150]]).run prog W=.ok (.bool false) W:=by
 rw[zy5];simp only[Sem.run_bind,zm4,Result.andThen];simp[ReflectliteValue.isNil,loadVar,isAgg,underlying,Tryz.underlying157,ha,Result.andThen]
def zlP(h:Value)(w:World):(Go.method 552 288 (.agg #[h]) "Elem").run prog w=.ok (524,.agg #[h]) w:=by kernel_rfl
def zeS(h:Value)(w:World):(Go.method 552 288 (.agg #[h]) "Implements").run prog w=.ok (525,.agg #[h]) w:=by kernel_rfl
def zc9(h:Value)(w:World):(Go.method 552 288 (.agg #[h]) "AssignableTo").run prog w=.ok (522,.agg #[h]) w:=by kernel_rfl
def zy6(w:World):(ReflectliteType.method ReflectliteType.elem #[.agg #[.pointer (some ⟨3,157,none⟩)]]).run prog w=.ok (.iface 288 (.agg #[.pointer (some ⟨3,155,none⟩)])) w:=by kernel_rfl
def zkZ(w:World):(ReflectliteType.relation "Implements" ReflectliteType.implements_ #[.agg #[.pointer (some ⟨3,155,none⟩)],.iface 288 (.agg #[.pointer (some ⟨3,152,none⟩)])]).run prog w=.ok (.bool true) w:=by kernel_rfl
def zsE(v:Value)(w:World):(ReflectliteType.typeOf #[.iface 155 v]).run prog w=.ok (.iface 288 (.agg #[.pointer (some ⟨3,155,none⟩)])) w:=by kernel_rfl
def zk0(w:World):(ReflectliteType.relation "AssignableTo" ReflectliteType.assignableTo #[.agg #[.pointer (some ⟨3,155,none⟩)],.iface 288 (.agg #[.pointer (some ⟨3,155,none⟩)])]).run prog w=.ok (.bool true) w:=by kernel_rfl
def zqZ(c u:Value)(w:World):(ReflectliteValue.unpack (.iface 155 (.agg #[c,u]))).run prog w
  =.ok (.agg #[.pointer (some ⟨3,155,none⟩),.pointer (some ⟨w.heap.size,0,none⟩),.int .u64 153]) (w.alloc (.cells #[c,u] 155)):=by kernel_rfl
def zsF(w:World):(Rtype.elem? 157).run prog w=.ok (some 155) w:=by kernel_rfl
def zEc(p:Addr)(w:World):(ReflectliteValue.mk 155 p ReflectliteValue.flagAddr).run prog w=.ok (.agg #[.pointer (some ⟨3,155,none⟩),.pointer (some p),.int .u64 409]) w:=by kernel_rfl
def zvZ(a p:Addr)(W:World)(ha:W.cell? a=some (.pointer (some p))):
  (ReflectliteValue.method (ReflectliteValue.valueError "reflectlite.Value.Elem" 0) ReflectliteValue.elem #[.agg #[.pointer (some ⟨3,157,none⟩),.pointer (some a),.int .u64 150]]).run prog W
   =.ok (.agg #[.pointer (some ⟨3,155,none⟩),.pointer (some p),.int .u64 409]) W:=by
 rw[zy5];simp only[Sem.run_bind,zm4,Result.andThen];simp[ReflectliteValue.elem,loadVar,isAgg,underlying,Tryz.underlying157,ha,Result.andThen,zsF,zEc]
def zEd(v x:Value):ReflectliteValue.set #[v,x]=(do
  let (some (dst,a,fl),some (src,b,_)):=(←ReflectliteValue.parts v,←ReflectliteValue.parts x)
   |unsupported (.noEntry "extern/(internal/reflectlite.Value).Set.zeroValue")
  if fl/ReflectliteValue.flagAddr%2==0 then unsupported (.noEntry "extern/(internal/reflectlite.Value).Set.unaddressable")
  let val ←loadVar src b
  if ←Rtype.directlyAssignable dst src then storeVar dst a val
  else if ←Rtype.implements dst src then
   if (←Rtype.kind src)==20 then
    match val with
    |.nilIface=>unsupported (.noEntry "extern/reflectlite: a nil value of one interface type handed on as a value of another")
    |_=>storeVar dst a val
   else storeVar dst a (.iface src val)
  else panicString ("reflectlite.Set: value of type " ++(←Rtype.spelt src)++ " is not assignable to type " ++(←Rtype.spelt dst))
  pure (.tuple #[])):=rfl
def zsG(a:Addr)(w:World):(ReflectliteValue.parts (.agg #[.pointer (some ⟨3,155,none⟩),.pointer (some a),.int .u64 409])).run prog w=.ok (some (155,a,409)) w:=by kernel_rfl
def zv0(a:Addr)(w:World):(ReflectliteValue.parts (.agg #[.pointer (some ⟨3,155,none⟩),.pointer (some a),.int .u64 153])).run prog w=.ok (some (155,a,153)) w:=by kernel_rfl
def zsH(w:World):(Rtype.directlyAssignable 155 155).run prog w=.ok true w:=by kernel_rfl
def zq0:∃i,ti tt 155=some i/\i.sz=2/\i.kind.agg=true:=⟨_,rfl,rfl,rfl⟩
def zy7(c u:Value)(s:Nat)(W:World)(h:W.heap[s]?=some (.cells #[c,u] 155 (0,0))):
  (loadVar 155 ⟨s,0,none⟩).run prog W=.ok (.agg #[c,u]) W:=by
 obtain⟨i,hi,hs,ha⟩:=zq0;have hT:=tok _ i hi
 have hl:=run_loadCells_list (P:=prog) W ⟨s,0,none⟩ [c,u] (λj v hv=>by
  rw[ya]
  match j,hv with
  |0,hv=>cases hv;simp[World.cell?,h]
  |1,hv=>cases hv;simp[World.cell?,h]
  |j+2,hv=>simp at hv)
 unfold loadVar;rw[Sem.run_bind,hT.agg W,Result.andThen_ok,ha];simp only[if_true,Sem.run_bind,hT.size,Result.andThen_ok,hs];simp at hl;simp[hl]
def zv1(c u:Value)(b:Nat)(cur:Array Value)(W:World)(hc:cur.size=2)(h:W.heap[b]?=some (.cells cur 155 (0,0)))(h1:c.oneCell'=true)(h2:u.oneCell'=true):
  (storeVar 155 ⟨b,0,none⟩ (.agg #[c,u])).run prog W=.ok () (W.setRow b #[c,u]):=by
 obtain⟨i,hi,hs,ha⟩:=zq0
 have:=vk (tok _ i hi) (v:=.agg #[c,u]) (off:=0) h (by rw[hs];rfl) (by rw[hs,hc];decide) (λx hx=>by
  have hx:x∈[c,u]:=hx;simp only[XY,XR,or_false]at hx
  rcases hx with rfl|rfl <;> assumption)
 rw[this,Kx (by simp[hs,hc]:cur.toList.length<=0+i.sz),Ys,Qx,XE];rfl
def zBs(b s:Nat)(c u:Value)(cur:Array Value)(W:World)(hs:W.heap[s]?=some (.cells #[c,u] 155 (0,0)))(hc:cur.size=2)(hb:W.heap[b]?=some (.cells cur 155 (0,0)))(h1:c.oneCell'=true)(h2:u.oneCell'=true):
  (ReflectliteValue.set #[.agg #[.pointer (some ⟨3,155,none⟩),.pointer (some ⟨b,0,none⟩),.int .u64 409],.agg #[.pointer (some ⟨3,155,none⟩),.pointer (some ⟨s,0,none⟩),.int .u64 153]]).run prog W
   =.ok (.tuple #[]) (W.setRow b #[c,u]):=by
 rw[zEd];simp only[Sem.run_bind,zsG,zv0,Result.andThen];simp[ReflectliteValue.flagAddr,zy7 c u s W hs,zsH,zv1 c u b cur W hc hb h1 h2,Result.andThen]
def zv2(b:Nat)(c u:Value)(cur:Array Value)(w:World)(hg:w.cell? ⟨0,0,none⟩=some (.iface 288 (.agg #[.pointer (some ⟨3,152,none⟩)])))(hc:cur.size=2)(hb:w.heap[b]?=some (.cells cur 155 (0,0)))(h1:c.oneCell'=true)(h2:u.oneCell'=true):
  Calls prog 127 #[.iface 155 (.agg #[c,u]),.iface 157 (.pointer (some ⟨b,0,none⟩))] w λev w'=>ev=.returned (.bool true)/\w'=((((w.alloc (.cells #[.pointer (some ⟨b,0,none⟩)] 157)).alloc (.cells #[.pointer (some ⟨3,157,none⟩),.pointer (some ⟨w.heap.size,0,none⟩),.int .u64 150] 215)).alloc (.cells #[.pointer (some ⟨3,157,none⟩),.pointer (some ⟨w.heap.size,0,none⟩),.int .u64 150] 215)).alloc (.cells #[c,u] 155)).setRow b #[c,u]:=by
 have hV:=@run_callFunc_extern prog 191 _ (λargs=>ReflectliteValue.unpack (args.getD 0 (.tuple #[]))) func191 (by kernel_rfl) (by kernel_rfl) (by kernel_rfl) (by kernel_rfl);have hTy:=@run_callFunc_extern prog 192 _ (ReflectliteValue.methodAny (ReflectliteValue.valueError "reflectlite.Value.Type" 0) (λt _ _ _=>ReflectliteType.toType t)) func192 (by kernel_rfl) (by kernel_rfl) (by kernel_rfl) (by kernel_rfl)
 have hN:=@run_callFunc_extern prog 193 _ (ReflectliteValue.method (ReflectliteValue.valueError "reflectlite.Value.IsNil" 0) ReflectliteValue.isNil) func193 (by kernel_rfl) (by kernel_rfl) (by kernel_rfl) (by kernel_rfl);have hK:=@run_callFunc_extern prog 513 _ (ReflectliteType.abiMethod λt=>do pure (.int .u8 (←Rtype.kind t))) func513 (by kernel_rfl) (by kernel_rfl) (by kernel_rfl) (by kernel_rfl)
 have hE:=@run_callFunc_extern prog 524 _ (ReflectliteType.method ReflectliteType.elem) func524 (by kernel_rfl) (by kernel_rfl) (by kernel_rfl) (by kernel_rfl);have hI:=@run_callFunc_extern prog 525 _ (ReflectliteType.relation "Implements" ReflectliteType.implements_) func525 (by kernel_rfl) (by kernel_rfl) (by kernel_rfl) (by kernel_rfl);have hO:=@run_callFunc_extern prog 271 _ ReflectliteType.typeOf func271 (by kernel_rfl) (by kernel_rfl) (by kernel_rfl) (by kernel_rfl)
 have hA:=@run_callFunc_extern prog 522 _ (ReflectliteType.relation "AssignableTo" ReflectliteType.assignableTo) func522 (by kernel_rfl) (by kernel_rfl) (by kernel_rfl) (by kernel_rfl);have hEl:=@run_callFunc_extern prog 272 _ (ReflectliteValue.method (ReflectliteValue.valueError "reflectlite.Value.Elem" 0) ReflectliteValue.elem) func272 (by kernel_rfl) (by kernel_rfl) (by kernel_rfl) (by kernel_rfl);have hS:=@run_callFunc_extern prog 273 _ ReflectliteValue.set func273 (by kernel_rfl) (by kernel_rfl) (by kernel_rfl) (by kernel_rfl);have tO:=zsE
 have mA:=zc9;have aW:=zk0;have vW:=zqZ;have f6:=zqY;have f7:=zy2;have mK:=zlO;have mE:=zlP;have mI:=zeS;have kP:=zy3;have kW:=zy4;have eP:=zy6;have iW:=zkZ;have n8:=zvY ⟨w.heap.size,0,none⟩ ⟨b,0,none⟩ ((w.alloc (.cells #[.pointer (some ⟨b,0,none⟩)] 157)).alloc (.cells #[.pointer (some ⟨3,157,none⟩),.pointer (some ⟨w.heap.size,0,none⟩),.int .u64 150] 215)) sI;have hlt:0<w.heap.size:=zjl hg
 have hg2:((w.alloc (.cells #[.pointer (some ⟨b,0,none⟩)] 157)).alloc (.cells #[.pointer (some ⟨3,157,none⟩),.pointer (some ⟨w.heap.size,0,none⟩),.int .u64 150] 215)).cell? ⟨0,0,none⟩=some (.iface 288 (.agg #[.pointer (some ⟨3,152,none⟩)])):=by
  rw[World.cell?_alloc_lt _ _ ⟨0,0,none⟩ (by first|(simp;done)|(simp;omega)),World.cell?_alloc_lt _ _ ⟨0,0,none⟩ hlt];exact hg
 have htl:b<w.heap.size:=by
  rcases Qe b w.heap.size with h|h
  ·exact h
  rw[KQ h]at hb;cases hb
 have el:=zvZ ⟨w.heap.size,0,none⟩ ⟨b,0,none⟩ (((w.alloc (.cells #[.pointer (some ⟨b,0,none⟩)] 157)).alloc (.cells #[.pointer (some ⟨3,157,none⟩),.pointer (some ⟨w.heap.size,0,none⟩),.int .u64 150] 215)).alloc (.cells #[.pointer (some ⟨3,157,none⟩),.pointer (some ⟨w.heap.size,0,none⟩),.int .u64 150] 215)) (by rw[World.cell?_alloc_lt _ _ ⟨w.heap.size,0,none⟩ (by first|(simp;done)|(simp;omega))];simp)
 have st:=zBs b (w.heap.size+1+1+1) c u cur ((((w.alloc (.cells #[.pointer (some ⟨b,0,none⟩)] 157)).alloc (.cells #[.pointer (some ⟨3,157,none⟩),.pointer (some ⟨w.heap.size,0,none⟩),.int .u64 150] 215)).alloc (.cells #[.pointer (some ⟨3,157,none⟩),.pointer (some ⟨w.heap.size,0,none⟩),.int .u64 150] 215)).alloc (.cells #[c,u] 155))
  (by have:=heap_alloc_new (((w.alloc (.cells #[.pointer (some ⟨b,0,none⟩)] 157)).alloc (.cells #[.pointer (some ⟨3,157,none⟩),.pointer (some ⟨w.heap.size,0,none⟩),.int .u64 150] 215)).alloc (.cells #[.pointer (some ⟨3,157,none⟩),.pointer (some ⟨w.heap.size,0,none⟩),.int .u64 150] 215)) (.cells #[c,u] 155);simpa using this) hc
  (by rw[heap_alloc_old _ _ (by first|(simp;done)|(simp;omega)),heap_alloc_old _ _ (by first|(simp;done)|(simp;omega)),heap_alloc_old _ _ (by first|(simp;done)|(simp;omega)),heap_alloc_old _ _ htl];exact hb) h1 h2
 go_enter func127,Tryz.ntmps127
 go_wp2
 refine wp_loop_rounds 1 ?_;rw[rounds_succ]
 go_wp2
 go_ret
 exact⟨rfl,rfl⟩
open Go.Proofs
inductive Er
 |nil
 |w (c:Int) (u:Er)
def erV:Er->Value
 |.nil=>.nilIface
 |.w c u=>.iface 155 (.agg #[.int .i64 c,erV u])
def er_if(e:Er):ifB (erV e)=true:=by cases e <;> rfl
def zza(e:Er):(erV e).oneCell'=true:=by cases e <;> rfl
def zzb(e:Er):LR:=[.op (erV e)]
def LE_er{c:Int}{u:Er}:LE (.ifc 155 (.agg [i64 c,.op (erV u)])) (.op (erV (.w c u))):=λS Pm ρ w v hg=>by
 obtain⟨x,rfl,hx⟩:=hg.ifc_inv;obtain⟨vs,rfl,hvs⟩:=hx.agg_inv;obtain⟨a,r,rfl,ha,hr⟩:=hvs.cons_inv;obtain⟨b,r',rfl,hb,hr'⟩:=hr.cons_inv;rw[hr'.nil_inv,ha.val_inv,hb.op_inv.1];exact .d _ _ (.op _ rfl)
def zEe{c:Int}:LE (.ifc 155 (.agg [i64 c,.val .nilIface])) (.op (erV (.w c .nil))):=λS Pm ρ w v hg=>by
 obtain⟨x,rfl,hx⟩:=hg.ifc_inv;obtain⟨vs,rfl,hvs⟩:=hx.agg_inv;obtain⟨a,r,rfl,ha,hr⟩:=hvs.cons_inv;obtain⟨b,r',rfl,hb,hr'⟩:=hr.cons_inv;rw[hr'.nil_inv,ha.val_inv,hb.val_inv];exact .d _ _ (.op _ rfl)
def k7(p:Prop)[Decidable p](c:Int):Er:=if p then .w c .nil else .nil
def zbo:List Er->Er
 |[]=>.nil
 |.nil::r=>zbo r
 |.w c u::_=>.w 0 (.w c u)
def zk1:∀{l:List Er},(∀e∈l,e=.nil)->zbo l=.nil
 |[],_=>rfl
 |.nil::r,h=>zk1 (l:=r) λe he=>h e (.tail _ he)
 |.w c u::_,h=>by cases h _ (.head _)
def zk2:∀{l:List Er} {i:Nat} {c:Int} {u:Er},(∀e∈l.take i,e=.nil)->l[i]?=some (.w c u)->zbo l=.w 0 (.w c u)
 |[],i,c,u,_,hx=>by simp at hx
 |e::r,0,c,u,_,hx=>by simp at hx;subst hx;rfl
 |e::r,i+1,c,u,h,hx=>by
  have he:e=.nil:=h e (by rw[Km];exact .head _);subst he;exact zk2 (l:=r) (i:=i) (λe he=>h e (by rw[Km];exact .tail _ he)) (by simpa using hx)
def yC(p:Prop)[Decidable p](c:Int):CX 183 [pr p,i64 c] (.op (erV (k7 p c))):=by
 refine zc func183<|Br.mk (λh=>?_) (λh=>?_)
 ·rw[k7,Xc h];exact ztp rfl
 rw[k7,Xe (Xa.1 h)];exact zEe
def zoI(l:List Er):CX 182 [.sl zzb l] (.op (erV (zbo l))):=by
 refine zc func182 λhl=>?_;refine⟨Nat,λi=>⟨[(7,i64 i),(6,i64 l.length),(5,.sl zzb l)],[],0,17,0⟩,λi=>i<=l.length/\∀e∈l.take i,e=.nil,λi=>l.length-i,0,⟨Xh _,λt ht=>by cases ht⟩,zB [],?_⟩
 rintro i ⟨h1,h2⟩
 refine⟨λg:(i:Int)<l.length=>?_,λg:¬(i:Int)<l.length=>?_⟩
 ·refine wb λx(hx:l[i]?=some x)=>?_;refine⟨λh=>?_,λh=>?_⟩
  ·cases x with
   |nil=>exact absurd rfl h
   |w c u=>rw[zk2 h2 hx];exact LE_er
  cases x with
  |w c u=>exact absurd (λh=>by cases h) h
  |nil=>
   refine wa<|⟨i+1,⟨oM,λe he=>?_⟩,zB [],oN⟩;rw[Xl,hx]at he
   rcases Xs.1 he with he|he
   ·exact h2 e he
   simpa using he
 rw[Xi oM]at h2;rw[zk1 h2];exact ztp rfl
def glE:GL 0 (.iface 288 (.agg #[.pointer (some ⟨3,152,none⟩)])):=.head _
def ziA:zdd prog 127:=⟨_,func127,rfl,rfl⟩
def zq1(x y:SV):CG0 127 [.op (erV .nil),.ifc 157 (.loc 0 0)] [(0,.box 155 [x,y])] (bl false) [(0,.box 155 [x,y])]:=by
 refine⟨ziA,λKeep ρ w vs _ hm hρ hg=>?_⟩;obtain⟨a,r,rfl,ha,hr⟩:=hg.cons_inv;obtain⟨b,r',rfl,hb,hr'⟩:=hr.cons_inv;obtain rfl:=hr'.nil_inv;obtain rfl:=ha.op_inv.1;refine(zvX b w).mono ?_
 rintro e w' ⟨rfl,rfl⟩
 exact⟨_,ρ,rfl,.refl,hm,.d _ _ (.val _)⟩
def zL.more{Keep:LI}{M:LT}{ρ:zh}{w:World}(hm:zL Keep M ρ w)(c:Array Value)(t:TypeId):Stp (Own M ρ) (Own M ρ) ρ ρ w (w.alloc (.cells c t))/\zL Keep M ρ (w.alloc (.cells c t)):=
 hm.same rfl rfl (.cells _ _ _) sI (λb hb=>heap_alloc_old w _ hb)
def zq2(c:Int)(u:Er)(x y:SV):CG0 127 [.op (erV (.w c u)),.ifc 157 (.loc 0 0)] [(0,.box 155 [x,y])] (bl true) [(0,.box 155 [i64 c,.op (erV u)])]:=by
 refine⟨ziA,λKeep ρ w vs _ hm hρ hg=>?_⟩;obtain⟨a,r,rfl,ha,hr⟩:=hg.cons_inv;obtain⟨b,r',rfl,hb,hr'⟩:=hr.cons_inv;obtain rfl:=hr'.nil_inv;obtain rfl:=ha.op_inv.1;obtain⟨p,rfl,hp⟩:=hb.ifc_inv;obtain⟨k,hk,rfl⟩:=hp.loc_inv;obtain⟨k',cs,hρ0,hheap,hlen,hone,hcells⟩:=hm.rel 0 _ (.head _);rw[hk]at hρ0;cases hρ0
 refine(zv2 k (.int .i64 c) (erV u) cs.toArray w (hm.glc glE) (by simp[hlen]) hheap rfl (zza u)).mono ?_
 rintro e w' ⟨rfl,rfl⟩
 obtain⟨s1,m1⟩:=hm.more #[.pointer (some ⟨k,0,none⟩)] 157;obtain⟨s2,m2⟩:=m1.more #[.pointer (some ⟨3,157,none⟩),.pointer (some ⟨w.heap.size,0,none⟩),.int .u64 150] 215;obtain⟨s3,m3⟩:=m2.more #[.pointer (some ⟨3,157,none⟩),.pointer (some ⟨w.heap.size,0,none⟩),.int .u64 150] 215;obtain⟨s4,m4⟩:=m3.more #[.int .i64 c,erV u] 155;obtain⟨k2,cs2,hρ2,hheap2,hlen2,_,_⟩:=m4.rel 0 _ (.head _);rw[hk]at hρ2;cases hρ2
 obtain⟨s5,m5⟩:=m4.write (.box 155 [i64 c,.op (erV u)]) (.head _) hk rfl #[.int .i64 c,erV u] λhs=>
  ⟨k,[.int .i64 c,erV u],hk,by simpa using setRow_heap _ k _ _ 155 _ hheap2,rfl,λv hv=>by
   simp only[XY,XR,or_false]at hv
   rcases hv with rfl|rfl
   ·rfl
   ·exact zza u,λj s v hs hv=>by
   match j with
   |0=>cases hs;cases hv;exact .d _ _ (.val _)
   |1=>cases hs;cases hv;exact .d _ _ (.op _ (er_if u))
   |j+2=>simp at hs⟩
 exact⟨_,ρ,rfl,(((s1.trans s2).trans s3).trans s4).trans s5,m5,.d _ _ (.val _)⟩
def zdb(t:AF):LU->Int
 |[]=>0
 |p::r=>if (kr t p).2≠0 then(kr t p).2 else zdb t r
def y6(t:AF)(l:LU):LU:=l.map λp=>(kr t p).1
def zdc(t:AF):LQ->Int
 |[]=>0
 |r::s=>if zdb t r≠0 then zdb t r else zdc t s
def yp(rs:LQ)(t:AF):LQ×Int:=
 if¬kL rs then([],12) else if zdc t rs≠0 then([],zdc t rs) else(rs.map (y6 t),0)
def zgZ{t:AF}:∀{l:LU},(∀p∈l,(kr t p).2=0)->zdb t l=0
 |[],_=>rfl
 |p::r,h=>by unfold zdb;rw[qH (h p (.head _))];exact zgZ λq hq=>h q (.tail _ hq)
def zg0{t:AF}:∀{l:LU} {i:Nat} {x:Pt},l[i]?=some x->(∀p∈l.take i,(kr t p).2=0)->¬(kr t x).2=0->zdb t l=(kr t x).2
 |p::r,0,x,h,_,hx=>by cases h;unfold zdb;rw[Xe hx]
 |p::r,i+1,x,h,ha,hx=>by
  unfold zdb;rw[qH (ha p (by rw[Km];exact .head _))];exact zg0 (l:=r) (i:=i) h (λq hq=>ha q (by rw[Km];exact .tail _ hq)) hx
def zoL{t:AF}:∀{l:LQ},(∀r∈l,zdb t r=0)->zdc t l=0
 |[],_=>rfl
 |p::r,h=>by unfold zdc;rw[qH (h p (.head _))];exact zoL λq hq=>h q (.tail _ hq)
def zg1{t:AF}:∀{l:LQ} {i:Nat} {x:LU},l[i]?=some x->(∀r∈l.take i,zdb t r=0)->¬zdb t x=0->zdc t l=zdb t x
 |p::r,0,x,h,_,hx=>by cases h;unfold zdc;rw[Xe hx]
 |p::r,i+1,x,h,ha,hx=>by
  unfold zdc;rw[qH (ha p (by rw[Km];exact .head _))];exact zg1 (l:=r) (i:=i) h (λq hq=>ha q (by rw[Km];exact .tail _ hq)) hx
def yq{α:Type}{P:α->Prop}{l:List α}{i:Nat}{x:α}(h:l[i]?=some x)(ha:∀p∈l.take i,P p)(hx:P x):∀p∈l.take (i+1),P p:=by
 intro p hp;rw[Xl,h]at hp
 rcases Xs.1 hp with hp|hp
 ·exact ha p hp
 simp at hp;rw[hp];exact hx
def yK(l:LQ):LN:=l.map zk
def vd(l:LQ):(yK l).length=l.length:=by unfold yK;simp
def zak{tb:List (Nat×Option Nat)}{l m:LQ}(e:l=m):
  (yK m).length=(yK l).length/\∀(j:Nat) x,(yK l)[j]?=some x->∃x',(yK m)[j]?=some x'/\ren.rens tb x=some x':=by
 subst e;refine⟨rfl,λj x hx=>⟨x,hx,?_⟩⟩;unfold yK at hx;rw[XD]at hx
 cases hy:l[j]? with
 |none=>rw[hy]at hx;cases hx
 |some y=>rw[hy]at hx;cases hx;rfl
def zg2{L:LQ}{q:LU}{a:Nat}:∀(i j:Nat) (x':LR) (s':SV),(yK (L++[q]))[i]?=some x'->x'[j]?=some s'->∃(x:LR) (s:SV),(yK L++[[.own a]])[i]?=some x/\x[j]?=some s/\(s'=s∨(s=.own a/\s'=.sl ptE q)):=by
 intro i j x' s' hx hs;have e:yK (L++[q])=yK L++[zk q]:=by unfold yK;rw[XA];rfl
 rw[e]at hx;generalize yK L=R at*
 rcases QB i R.length with h|h|h
 ·rw[XK h]at hx;exact⟨x',s',by rw[XK h];exact hx,hs,.inl rfl⟩
 ·subst h;rw[Qn]at hx
  cases hx
  match j,hs with
  |0,hs=>cases hs;exact⟨[.own a],.own a,Qn ..,rfl,.inr ⟨rfl,rfl⟩⟩
  |j+1,hs=>cases hs
 rw[XF (by simp;omega)]at hx;cases hx
def tS(rs:LQ)(t:AF):Nat->St
 |0=>⟨[(0,.sl zk rs),(3,.loc 0 0),(6,.val (.slice none 0 0)),(7,i64 ((0:Nat):Int))],[(0,.box 57 (afE t))],1,54,0⟩
 |i+1=>⟨[(0,.sl zk rs),(3,.loc 0 0),(6,.own 1),(7,i64 ((i+1:Nat):Int))],[(0,.box 57 (afE t)),(1,.garr 148 1 (yK ((rs.take (i+1)).map (y6 t))))],2,54,0⟩
def zBu(rs:LQ)(t:AF)(ht:t.le 100000)(hl:rs.length<=100000):CG0 159 [.sl zk rs,wo t] [] (.tup [.own 0,i64 (yp rs t).2]) [(0,.arr 148 zk 1 (yp rs t).1)]:=by
 refine zeZ tok mix func159 rfl rfl rfl ?_
 have bad:∀{e:Int},yp rs t=([],e)->za3 none (.tup [nS,i64 e]) (.tup [.own 0,i64 (yp rs t).2])/\(yp rs t).1=[]:=λ{e} h=>
  ⟨.tup _ _ rfl (ze2.ix (.cons (.nil rfl) (.cons (.le _ _ (ze (by rw[h])) rfl) .nil))).2,by rw[h]⟩
 refine wg (zkd rs)<|⟨λk=>?_,λk=>?_⟩
 ·have k:¬kL rs:=k;have hb:=bad (e:=12) (by unfold yp;rw[Xe k]);exact⟨_,.refl,none,hb.1,hb.2⟩
 have k:kL rs:=Xa.1 k;have es:yp rs t=if zdc t rs≠0 then([],zdc t rs) else(rs.map (y6 t),0):=by unfold yp;rw[kH k]
 have hc:qa rs<=4096:=by have:=k.1;omega
 refine⟨Nat,tS rs t,λi=>i<=rs.length/\∀r∈rs.take i,zdb t r=0,λi=>rs.length-i,0,⟨Xh _,λr hr=>by cases hr⟩,zf [0],?_⟩
 rintro(_|i) ⟨h1,h2⟩
 ·intro hl1;refine⟨λg=>?_,λg=>?_⟩;rotate_left
  ·have g:¬(((0:Nat):Int))<rs.length:=g;have e0:rs=[]:=Xp oM;have hb:=bad (e:=0) (by rw[es,e0];rfl);exact⟨_,.refl,none,hb.1,hb.2⟩
  have g:((0:Nat):Int)<rs.length:=g;obtain⟨x,hx⟩:∃x,rs[0]?=some x:=⟨_,Xb oM⟩;have hxl:=XB (vv (Xf hx)) hc;have same:∀{y:LU},rs[((0:Nat):Int).toNat]?=some y->y=x:=λh=>Xm ((show rs[0]?=some _ from h).symm.trans hx)
  refine⟨Nat,λj=>⟨[(0,.sl zk rs),(3,.loc 0 0),(6,nS),(7,i64 ((0:Nat):Int)),(8,.own 1),(9,i64 j)],[(0,.box 57 (afE t)),(1,.arr 28 ptE 2 (y6 t (x.take j)))],2,54,0⟩,λj=>j<=x.length/\∀p∈x.take j,(kr t p).2=0,λj=>x.length-j,0,⟨Xh _,λp hp=>by cases hp⟩,zB [(0,some 0),(1,none)],?_⟩
  rintro j ⟨j1,j2⟩
  have ml:(y6 t (x.take j)).length<=4096:=by unfold y6;rw[Xx,Xo];omega
  refine wb λy hy=>?_;rw[same hy];intro hl2;refine⟨λq:(j:Int)<x.length=>?_,λq:¬(j:Int)<x.length=>?_⟩
  ·obtain⟨z,hz⟩:∃z,x[j]?=some z:=⟨_,Xb oM⟩;refine wd<|wb λy' hy'=>?_;rw[same hy'];refine wb λz' hz'=>?_;have ez:z'=z:=Xm ((show x[j]?=some z' from hz').symm.trans hz);rw[ez];refine wg (zcf t z ht)<|wh<|⟨λe=>?_,λe=>?_⟩
   ·have e:¬(kr t z).2=0:=e;have eL:=zg0 hz j2 e;have eR:=zg1 hx h2 (by rw[eL];exact e);have hb:=bad (e:=(kr t z).2) (by rw[es,eR,eL,Xe e]);exact⟨_,.refl,none,hb.1,hb.2⟩
   have e:(kr t z).2=0:=Xa.1 e;refine⟨Pt,ptE,[(kr t z).1],rfl,wb0 ?_⟩;refine⟨[(kr t z).1],rfl,wb3 ?_⟩;exact wa<|⟨j+1,⟨oM,yq hz j2 e⟩,zu [0,4] ⟨rfl,aR (by unfold y6;rw[Xl,hz,XA];rfl),tV⟩,oN⟩
  have etx:x.take j=x:=Xi oM;rw[etx]at j2;refine⟨[[.own 1]],rfl,wb9 ?_⟩;refine wb27<|wa<|⟨0+1,⟨oM,yq hx h2 (zgZ j2)⟩,(zcB (sz0:=1) (T0:=148) 1 3 (enc:=ptE) (ys:=y6 t (x.take j)) rfl rfl (xs':=yK ([]++[y6 t (x.take j)])) (by rfl) (λz hz=>?_) zg2).trans (zu [0,3] ⟨rfl,⟨_,rfl,zak ?_⟩,tV⟩),oN⟩
  ·unfold yK at hz;obtain⟨b,_,rfl⟩:=XO.1 hz;rfl
  rw[etx];rw[Xl,hx];rfl
 intro hl1;refine⟨λg=>?_,λg=>?_⟩;rotate_left
 ·have g:¬((i+1:Nat):Int)<rs.length:=g;have et:rs.take (i+1)=rs:=Xi oM;rw[et]at h2;have er:yp rs t=(rs.map (y6 t),0):=by rw[es,zoL h2];rfl
  refine⟨_,zgg 1 zk ((rs.take (i+1)).map (y6 t)) rfl (λ_ _=>rfl),some 1,.tup _ _ rfl (ze2.ix (.cons (.own 1 rfl) (.cons (.le _ _ (ze (by rw[er])) rfl) .nil))).2,aR (by rw[er,et]),λ_ _=>rfl⟩
 have g:(((i+1):Nat):Int)<rs.length:=g;obtain⟨x,hx⟩:∃x,rs[(i+1)]?=some x:=⟨_,Xb oM⟩;have hxl:=XB (vv (Xf hx)) hc;have same:∀{y:LU},rs[(((i+1):Nat):Int).toNat]?=some y->y=x:=λh=>Xm ((show rs[(i+1)]?=some _ from h).symm.trans hx)
 refine⟨Nat,λj=>⟨[(0,.sl zk rs),(3,.loc 0 0),(6,.own 1),(7,i64 (((i+1):Nat):Int)),(8,.own 2),(9,i64 j)],[(0,.box 57 (afE t)),(1,.garr 148 1 (yK ((rs.take (i+1)).map (y6 t)))),(2,.arr 28 ptE 2 (y6 t (x.take j)))],3,54,0⟩,λj=>j<=x.length/\∀p∈x.take j,(kr t p).2=0,λj=>x.length-j,0,⟨Xh _,λp hp=>by cases hp⟩,zby [(0,some 0),(1,some 1),(2,none)] ⟨rfl,⟨_,rfl,zak rfl⟩,rfl,tV⟩,?_⟩
 rintro j ⟨j1,j2⟩
 have ml:(y6 t (x.take j)).length<=4096:=by unfold y6;rw[Xx,Xo];omega
 refine wb λy hy=>?_;rw[same hy];intro hl2;refine⟨λq:(j:Int)<x.length=>?_,λq:¬(j:Int)<x.length=>?_⟩
 ·obtain⟨z,hz⟩:∃z,x[j]?=some z:=⟨_,Xb oM⟩;refine wd<|wb λy' hy'=>?_;rw[same hy'];refine wb λz' hz'=>?_;have ez:z'=z:=Xm ((show x[j]?=some z' from hz').symm.trans hz);rw[ez];refine wg (zcf t z ht)<|wh<|⟨λe=>?_,λe=>?_⟩
  ·have e:¬(kr t z).2=0:=e;have eL:=zg0 hz j2 e;have eR:=zg1 hx h2 (by rw[eL];exact e);have hb:=bad (e:=(kr t z).2) (by rw[es,eR,eL,Xe e]);exact⟨_,.refl,none,hb.1,hb.2⟩
  have e:(kr t z).2=0:=Xa.1 e;refine⟨Pt,ptE,[(kr t z).1],rfl,wb0 ?_⟩;refine⟨[(kr t z).1],rfl,wb3 ?_⟩;exact wa<|⟨j+1,⟨oM,yq hz j2 e⟩,zu [0,1,5] ⟨rfl,⟨_,rfl,zak rfl⟩,aR (by unfold y6;rw[Xl,hz,XA];rfl),tV⟩,oN⟩
 have etx:x.take j=x:=Xi oM;rw[etx]at j2;refine⟨[[.own 2]],rfl,wb9 ?_⟩;refine Ob.mk ⟨by show _*(24:Int)<=_;rw[vd,Xx,Xo];simp only[Xn,Xr];omega,by rw[vd,Xx,Xo];simp only[Xn,Xr];omega,dC⟩<|wa ?_
 refine⟨(i+1)+1,⟨oM,yq hx h2 (zgZ j2)⟩,(zcB (sz0:=1) (T0:=148) 2 4 (enc:=ptE) (ys:=y6 t (x.take j)) rfl rfl (xs':=yK ((rs.take (i+1)).map (y6 t)++[y6 t (x.take j)])) (by rw[vd,Xq,Xq,vd];rfl) (λz hz=>?_) zg2).trans (zu [0,4] ⟨rfl,⟨_,rfl,zak ?_⟩,tV⟩),oN⟩
 ·unfold yK at hz;obtain⟨b,_,rfl⟩:=XO.1 hz;rfl
 rw[etx];rw[Xl (l:=rs) (i:=i+1),hx,XA];rfl
def zEg(rs:LQ)(t:AF)(ht:t.le 100000)(hl:rs.length<=100000):CX 159 [.sl zk rs,wo t] (rgE (yp rs t)):=(zBu rs t ht hl).plain rfl
def uh(l:List AF):AF:=l.foldl beh idA
def zfR{l:List AF}{i:Nat}{x:AF}(h:l[i]?=some x):uh (l.take (i+1))=beh (uh (l.take i)) x:=by
 unfold uh;rw[Xl,h,KV];rfl
def zoM(l:List AF):Prop:=(∀t∈l,t.ok)/\∀i,i<l.length->(uh (l.take (i+1))).ok
instance (l:List AF):Decidable (zoM l):=wi
def vw(l:List AF):AF×Int:=if zoM l then(uh l,0) else(qA,5)
def zBv:idA.nrm=idA:=by unfold idA AF.nrm afQ;simp only[kv]
def zk5{l:List AF}:∀{i:Nat},i<=l.length->(∀k,k<i->(uh (l.take (k+1))).ok)->(uh (l.take i)).le 8
 |0,_,_=>zzg.up dC
 |i+1,hi,h=>by
  have hk:=h i oM;have hx:l[i]?=some l[i]:=Xb oM;rw[zfR hx]at hk ⊢;exact zv5 hk
def zv6(l:List AF):(uh l).nrm=uh l:=by
 rcases Yj l with rfl|⟨q,x,rfl⟩
 ·exact zBv
 unfold uh;rw[List.concat_eq_append,KV];exact zoJ _ _
def zsK(l:List AF)(hl:∀t∈l,t.le 100):CX 170 [.sl afE l] (.tup [wo (vw l).1,i64 (vw l).2]):=by
 have bad:¬zoM l->LE (.tup [.agg uf,i64 5]) (.tup [wo (vw l).1,i64 (vw l).2]):=λh=>by
  rw[show vw l=(qA,5) from Xc h];exact zM zcg .refl
 refine zc func170<|wg zsi λhl0=>?_
 refine⟨Nat,λi=>⟨[(12,i64 i),(11,i64 l.length),(10,.sl afE l),(4,.loc 1 0),(2,.loc 0 0),(0,.sl afE l)],[(1,.box 57 (afE idA)),(0,.box 57 uf)],2,37,0⟩,
  λi=>i<=l.length/\∀t∈l.take i,t.ok,λi=>l.length-i,0,⟨Xh _,λt ht=>by cases ht⟩,zf [0,1],?_⟩
 rintro i ⟨h1,h2⟩
 refine⟨λg:(i:Int)<l.length=>?_,λg:¬(i:Int)<l.length=>?_⟩
 ·refine wb λx(hx:l[i]?=some x)=>?_;have hm:=Xf hx;refine wg (zgD x ((hl x hm).up dC))<|⟨λh=>bad λk=>h (k.1 x hm),λh=>?_⟩;exact wa<|⟨i+1,⟨oM,yq hx h2 (Xa.1 h)⟩,zf [0,1],oN⟩
 rw[Xi oM]at h2;intro hl1
 refine⟨Nat,λi=>⟨[(23,i64 i),(22,i64 l.length),(21,.sl afE l),(4,.loc 1 0),(2,.loc 0 0)],[(1,.box 57 (afE (uh (l.take i)))),(0,.box 57 uf)],2,37,0⟩,
  λi=>i<=l.length/\∀k,k<i->(uh (l.take (k+1))).ok,λi=>l.length-i,0,⟨Xh _,λk h=>by omega⟩,zf [0,1],?_⟩
 rintro j ⟨j1,j2⟩
 have lj:=zk5 j1 j2;refine⟨λg:(j:Int)<l.length=>?_,λg:¬(j:Int)<l.length=>?_⟩
 ·refine wb λx(hx:l[j]?=some x)=>?_;have hm:=Xf hx;have e:=zfR hx;refine wg (zzd (uh (l.take j)) x (lj.up dC) ((hl x hm).up dC))<|wg (zgD (beh (uh (l.take j)) x) ((zze (n:=100) (lj.up dC) (hl x hm)).up dC))<|⟨λh=>bad λk=>h (by rw[←e];exact k.2 j oM),λh=>?_⟩;have h:(beh (uh (l.take j)) x).ok:=Xa.1 h;refine wa ?_
  refine⟨j+1,⟨oM,λk hk=>?_⟩,zu [0,1] ⟨bR afE e.symm,rfl,tV⟩,oN⟩
  by_cases c:k=j
  ·rw[c,e];exact h
  exact j2 k oM
 have et:l.take j=l:=Xi oM;refine wg (zq3 (uh (l.take j)) (lj.up dC)) ?_;rw[zv6];have ef:vw l=(uh (l.take j),0):=by rw[et];exact Xe ⟨h2,λk hk=>j2 k oM⟩
 rw[ef];exact zM .refl .refl
def zoN(l:List AF)(hl:∀t∈l,t.le 100):CX 152 [.sl afE l] (.tup [wo (vw l).1,i64 (vw l).2]):=by
 have bad:¬zoM l->LE (.tup [.agg uf,i64 5]) (.tup [wo (vw l).1,i64 (vw l).2]):=λh=>by
  rw[show vw l=(qA,5) from Xc h];exact zM zcg .refl
 refine zc func152<|wg zaO ?_
 refine⟨Nat,λi=>⟨[(5,i64 i),(4,.loc 1 0),(2,.loc 0 0),(0,.sl afE l)],[(1,.box 57 (afE (uh (l.take i)))),(0,.box 57 uf)],2,31,0⟩,
  λi=>i<=l.length/\(∀t∈l.take i,t.ok)/\∀k,k<i->(uh (l.take (k+1))).ok,λi=>l.length-i,0,⟨Xh _,(λt ht=>by cases ht),λk h=>by omega⟩,zf [0,1],?_⟩
 rintro j ⟨j1,j0,j2⟩
 have lj:=zk5 j1 j2;intro hl1;refine⟨λg:(j:Int)<l.length=>?_,λg:¬(j:Int)<l.length=>?_⟩
 ·refine wb λx(hx:l[j]?=some x)=>?_;have hm:=Xf hx;have e:=zfR hx;refine wg (zce x ((hl x hm).up dC))<|⟨λh=>bad λk=>h (k.1 x hm),λh=>?_⟩;refine wc<|wb λy hy=>?_;have ey:y=x:=Xm ((show l[j]?=some y from hy).symm.trans hx);rw[ey];refine wg (zq4 (uh (l.take j)) x (lj.up dC) ((hl x hm).up dC))<|wg (zce (beh (uh (l.take j)) x) ((zze (n:=100) (lj.up dC) (hl x hm)).up dC)) ?_
  refine⟨λh=>bad λk=>h (by rw[←e];exact k.2 j oM),λh2=>?_⟩;have h2:(beh (uh (l.take j)) x).ok:=Xa.1 h2;refine wa<|⟨j+1,⟨oM,yq hx j0 (Xa.1 h),λk hk=>?_⟩,zu [0,1] ⟨bR afE e.symm,rfl,tV⟩,oN⟩
  by_cases c:k=j
  ·rw[c,e];exact h2
  exact j2 k oM
 have et:l.take j=l:=Xi oM;rw[et]at j0;have ef:vw l=(uh (l.take j),0):=by rw[et];exact Xe ⟨j0,λk hk=>j2 k oM⟩
 rw[ef];exact zM .refl .refl
end Go.Gs
