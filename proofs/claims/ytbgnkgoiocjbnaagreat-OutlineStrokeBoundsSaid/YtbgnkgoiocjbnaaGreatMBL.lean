/- Curves za points, both texts. -/
import Derived.Test.YtbgnkgoiocjbnaaGreatMA
import Derived.Test.YtbgnkgoiocjbnaaGreatMBG
import Derived.Test.YtbgnkgoiocjbnaaGreatMBJ
import Derived.Test.YtbgnkgoiocjbnaaGreatMBK
import Derived.Test.YtbgnkgoiocjbnaaGreatMAN
import Derived.Test.YtbgnkgoiocjbnaaGreatMAO
set_option maxRecDepth 100000
set_option maxHeartbeats 8000000
set_option linter.all false
namespace Go.Gs
open Go.Proofs
def ptA(p:Pt):List SV:=[.agg (ptE p)]
theorem zou(F:FuncId)(cs:List SV)(n:Int):zd Tryz.prog 194 [i64 n,.fn F [.dptr cs,.loc 0 0]] [(0,.box 3 [i64 n])]
  (.dfn 251 [.dptr [i64 n],.dptr [.dfn F [.dptr cs,.dptr [i64 n]]]]) []:=by
 refine ze9 3 tok mix Tryz.func194 rfl rfl rfl ?_;exact .refl
theorem ztD{f:Int->Pt}{n k:Nat}(h:k < n):(vE f n)[k]? =some (f ((k:Int)+1)):=by
 unfold vE;rw [List.getElem?_map,List.getElem?_range h];rfl
theorem uI(f:Int->Pt)(n:Nat):(vE f n).length=n:=by unfold vE;simp
theorem ziF(f:Int->Pt)(n:Nat):vE f (n+1)=vE f n++[f ((n:Int)+1)]:=by
 unfold vE;rw [List.range_succ,List.map_append];rfl
theorem zlU(F:FuncId)(cs:List SV)(n:Int)(f:Int->Pt)(hn:0<=n/\n<=64)(h:∀i:Nat,i < n.toNat->zd Tryz.prog F [i64 ((i:Int)+1),.dptr cs,.dptr [i64 n]] [] (.agg (ptE (f ((i:Int)+1)))) []):
  zix Tryz.prog 251 [.dptr [i64 n],.dptr [.dfn F [.dptr cs,.dptr [i64 n]]]] ptA (vE f n.toNat):=by
 refine zjW (caps:=[.dptr [i64 n],.dptr [.dfn F [.dptr cs,.dptr [i64 n]]]]) (enc:=ptA) (xs:=vE f n.toNat) tok mix Tryz.func251 rfl rfl rfl rfl (fun l=>?_);refine ⟨Nat,fun k=>⟨[(0,.val (.func (.yield l) #[] #[])),(1,.dptr [i64 n]),(2,.dptr [.dfn F [.dptr cs,.dptr [i64 n]]]),(4,i64 ((k:Int)+1))],[],0,16,0⟩,fun k=>k,fun k=>k<=n.toNat,fun k=>n.toNat - k,0,?_,?_,rfl,rfl,?_⟩
 ·exact Nat.zero_le _
 ·exact zh []
 rintro k hk
 refine Br.mk (fun g=>?_) (fun g=>?_)
 ·have g:(k:Int)+1<=n:=g;refine zb.t (h k oM) ?_;refine ⟨rfl,f ((k:Int)+1),ztD (show k < n.toNat by omega),rfl,.cons .refl .nil,(fun _ _ h=>by cases h),?_⟩;refine Br.mk ?_ ?_
  ·refine Ar.o ?_;refine ⟨k+1,oM,z0 [] ⟨rfl,rfl,rfl,congrArg (fun q=>some (i64 q)) oM,trivial⟩ trivial,rfl,rfl,by dsimp only;omega⟩
  ·exact .inl rfl
 ·have g:¬(k:Int)+1<=n:=g;exact .inr (by rw [uI];show k=n.toNat;omega)
theorem zuw(caps:List SV)(xs:List Pt)(h:zix Tryz.prog 251 caps ptA xs)(hx:xs.length<=4096):zd Tryz.prog 193 [.dfn 251 caps] [] (.sl ptE xs) []:=by
 refine zbZ 1 tok mix Tryz.func193 rfl rfl rfl ?_
 refine ⟨Pt,ptA,xs,1,[(3,.loc 0 0)],fun j=>[(0,.box 76 [.own 1]),(1,.arr 52 ptE 2 (xs.take j))],fun _=>2,h,fun _=>rfl,⟨rfl,rfl,rfl,rfl⟩,
  zh [(0,some 0),(1,none)],⟨Nat.zero_le _,rfl⟩,fun j=>?_,?_,?_⟩
 ·intro k m hm;simp only [List.mem_cons,List.not_mem_nil,or_false,Prod.mk.injEq] at hm
  rcases hm with ⟨_,rfl⟩ | ⟨_,rfl⟩
  ·rfl
  ·trivial
 ·intro j y hy;have hlt:(xs.take j).length<=4096:=by rw [List.length_take];omega
  refine ⟨Pt,ptE,[y],rfl,Ob.o0 ?_⟩;refine ⟨[y],rfl,Ob.o3 ?_⟩;exact zM [(0,some 0),(1,some 4)] ⟨rfl,congrArg (fun q=>some (Mem.arr 52 ptE 2 q)) (by rw [List.take_add_one,hy];rfl),trivial⟩
 ·refine qb ?_;exact List.take_length
theorem zpN(a b c:Pt)(i n:Int):zd Tryz.prog 195 [i64 i,.dptr (ptE a++ptE b++ptE c),.dptr [i64 n]] [] (.agg (ptE (q9 a b c i n))) []:=by
 refine zc tok mix Tryz.func195 rfl rfl rfl ?_;refine zb.t (zrV a b c i n) ?_;exact .refl
theorem zg6{a b c:Pt}{tol:Int}(h:(qj a b c tol).2=0):uY a b c tol=(vE (fun i=>q9 a b c i (qj a b c tol).1) (qj a b c tol).1.toNat,0):=by
 unfold uY;rw [kF h]
theorem zeC{a b c:Pt}{tol:Int}(h:¬(qj a b c tol).2=0):uY a b c tol=([],(qj a b c tol).2):=by
 unfold uY;rw [if_pos h]
def zlV(c:List Pt×Int):SV:=.tup [.sl ptE c.1,i64 c.2]
theorem zeD{c:List Pt×Int}{a:List Pt}{b:Int}(h:c=(a,b)):LE (.tup [.sl ptE a,i64 b]) (zlV c):=by subst h;exact .refl
theorem zfC{c:List Pt×Int}{b:Int}(h:c=([],b)):LE (.tup [.val (.slice none 0 0),i64 b]) (zlV c):=by subst h;exact zS ku .refl
theorem zvt(a b c:Pt)(tol:Int)(ha:zo a)(hb:zo b)(hc:zo c):zd Tryz.prog 129 [.agg (ptE a++ptE b++ptE c),i64 tol] [] (zlV (uY a b c tol)) []:=by
 refine zc tok mix Tryz.func129 rfl rfl rfl ?_;refine zcV.data ?_;refine zb.t (zpF a b c tol ha hb hc) ?_;refine Br.mk (fun k=>?_) (fun k=>?_)
 ·exact zfC (zeC k)
 have k:(qj a b c tol).2=0:=Decidable.not_not.1 k;have ok:=(jn (show (kr _ tol _).2=0 from k)).1;have ok:1<=(qj a b c tol).1/\(qj a b c tol).1<=64:=ok;have e:=zg6 k;generalize (qj a b c tol).1=n at*;refine zb.give [0] 0 [i64 n,.fn 195 [.dptr (ptE a++ptE b++ptE c),.loc 0 0]] [(0,.box 3 [i64 n])] [] _ (zou 195 (ptE a++ptE b++ptE c) n) LEs.refl rfl rfl rfl ⟨⟨_,rfl,rfl,rfl⟩,trivial⟩ rfl trivial ?_;refine zb.t (zuw _ _ (zlU 195 (ptE a++ptE b++ptE c) n (fun i=>q9 a b c i n) oM (fun i _=>zpN a b c ((i:Int)+1) n)) (by rw [uI];omega)) ?_
 exact zeD e
theorem zvu(a b c:Pt)(tol:Int):zd Tryz.prog 200 [.agg (ptE a++ptE b++ptE c),i64 tol] [] (zlV (uY a b c tol)) []:=by
 refine zc tok mix Tryz.func200 rfl rfl rfl ?_;refine zcV.data ?_;refine zb.t (zpG a b c tol) ?_;refine Br.mk (fun k=>?_) (fun k=>?_)
 ·exact zfC (zeC k)
 have k:(qj a b c tol).2=0:=Decidable.not_not.1 k;have ok:=(jn (show (kr _ tol _).2=0 from k)).1;have ok:1<=(qj a b c tol).1/\(qj a b c tol).1<=64:=ok;have e:=zg6 k;generalize (qj a b c tol).1=n at*;refine ⟨Pt,ptE,[],rfl,Ob.o2 ?_⟩;refine ⟨Nat,fun i=>⟨[(2,.dptr (ptE a++ptE b++ptE c)),(6,i64 n),(8,.own 0),(9,i64 ((i:Int)+1))],[(0,.arr 52 ptE 2 (vE (fun i=>q9 a b c i n) i))],1,33,0⟩,fun i=>i<=n.toNat,fun i=>n.toNat - i,0,?_,?_,?_⟩
 ·exact Nat.zero_le _
 ·exact zh [(0,some 0)]
 rintro i hi
 have hlt:=uI (fun i=>q9 a b c i n) i;refine Br.mk (fun g=>?_) (fun g=>?_)
 ·have g:(i:Int)+1<=n:=g;refine zb.t (zrW a b c ((i:Int)+1) n) ?_;refine ⟨Pt,ptE,[q9 a b c ((i:Int)+1) n],rfl,Ob.o0 ?_⟩;refine ⟨[q9 a b c ((i:Int)+1) n],rfl,Ob.mk ⟨(by show _*(16:Int)<=_;simp only [hlt,List.length_cons,List.length_nil];omega),(by simp only [hlt,List.length_cons,List.length_nil];omega),dC,fun _ _=>rfl⟩ ?_⟩;refine Ar.o ?_;refine ⟨i+1,oM,z0 [(0,some 2)] ⟨rfl,rfl,rfl,congrArg (fun q=>some (i64 q)) oM,trivial⟩ ⟨congrArg (fun q=>some (Mem.arr 52 ptE 2 q)) (ziF _ _).symm,trivial⟩,by dsimp only;omega⟩
 ·have g:¬(i:Int)+1<=n:=g;have hi:i=n.toNat:=oM;subst hi;exact zeD e
theorem zpO(a b c d:Pt)(i n:Int):zd Tryz.prog 198 [i64 i,.dptr (ptE a++ptE b++ptE c++ptE d),.dptr [i64 n]] [] (.agg (ptE (ja a b c d i n))) []:=by
 refine zc tok mix Tryz.func198 rfl rfl rfl ?_;refine zb.t (zrX a b c d i n) ?_;exact .refl
theorem zg7{a b c d:Pt}{tol:Int}(h:(qk a b c d tol).2=0):uZ a b c d tol=(vE (fun i=>ja a b c d i (qk a b c d tol).1) (qk a b c d tol).1.toNat,0):=by
 unfold uZ;rw [kF h]
theorem zeE{a b c d:Pt}{tol:Int}(h:¬(qk a b c d tol).2=0):uZ a b c d tol=([],(qk a b c d tol).2):=by
 unfold uZ;rw [if_pos h]
theorem zvv(a b c d:Pt)(tol:Int)(ha:zo a)(hb:zo b)(hc:zo c)(hd:zo d):zd Tryz.prog 130 [.agg (ptE a++ptE b++ptE c++ptE d),i64 tol] [] (zlV (uZ a b c d tol)) []:=by
 refine zc tok mix Tryz.func130 rfl rfl rfl ?_;refine zcV.data ?_;refine zb.t (zpH a b c d tol ha hb hc hd) ?_;refine Br.mk (fun k=>?_) (fun k=>?_)
 ·exact zfC (zeE k)
 have k:(qk a b c d tol).2=0:=Decidable.not_not.1 k;have ok:=(jn (show (kr _ tol _).2=0 from k)).1;have ok:1<=(qk a b c d tol).1/\(qk a b c d tol).1<=64:=ok;have e:=zg7 k;generalize (qk a b c d tol).1=n at*;refine zb.give [0] 0 [i64 n,.fn 198 [.dptr (ptE a++ptE b++ptE c++ptE d),.loc 0 0]] [(0,.box 3 [i64 n])] [] _ (zou 198 (ptE a++ptE b++ptE c++ptE d) n) LEs.refl rfl rfl rfl ⟨⟨_,rfl,rfl,rfl⟩,trivial⟩ rfl trivial ?_
 refine zb.t (zuw _ _ (zlU 198 (ptE a++ptE b++ptE c++ptE d) n (fun i=>ja a b c d i n) oM (fun i _=>zpO a b c d ((i:Int)+1) n)) (by rw [uI];omega)) ?_;exact zeD e
theorem zvw(a b c d:Pt)(tol:Int):zd Tryz.prog 201 [.agg (ptE a++ptE b++ptE c++ptE d),i64 tol] [] (zlV (uZ a b c d tol)) []:=by
 refine zc tok mix Tryz.func201 rfl rfl rfl ?_;refine zcV.data ?_;refine zb.t (zpI a b c d tol) ?_;refine Br.mk (fun k=>?_) (fun k=>?_)
 ·exact zfC (zeE k)
 have k:(qk a b c d tol).2=0:=Decidable.not_not.1 k;have ok:=(jn (show (kr _ tol _).2=0 from k)).1;have ok:1<=(qk a b c d tol).1/\(qk a b c d tol).1<=64:=ok;have e:=zg7 k;generalize (qk a b c d tol).1=n at*;refine ⟨Pt,ptE,[],rfl,Ob.o2 ?_⟩;refine ⟨Nat,fun i=>⟨[(2,.dptr (ptE a++ptE b++ptE c++ptE d)),(6,i64 n),(8,.own 0),(9,i64 ((i:Int)+1))],[(0,.arr 52 ptE 2 (vE (fun i=>ja a b c d i n) i))],1,33,0⟩,fun i=>i<=n.toNat,fun i=>n.toNat - i,0,?_,?_,?_⟩
 ·exact Nat.zero_le _
 ·exact zh [(0,some 0)]
 rintro i hi
 have hlt:=uI (fun i=>ja a b c d i n) i;refine Br.mk (fun g=>?_) (fun g=>?_)
 ·have g:(i:Int)+1<=n:=g;refine zb.t (zrY a b c d ((i:Int)+1) n) ?_;refine ⟨Pt,ptE,[ja a b c d ((i:Int)+1) n],rfl,Ob.o0 ?_⟩;refine ⟨[ja a b c d ((i:Int)+1) n],rfl,Ob.mk ⟨(by show _*(16:Int)<=_;simp only [hlt,List.length_cons,List.length_nil];omega),(by simp only [hlt,List.length_cons,List.length_nil];omega),dC,fun _ _=>rfl⟩ ?_⟩;refine Ar.o ?_;refine ⟨i+1,oM,z0 [(0,some 2)] ⟨rfl,rfl,rfl,congrArg (fun q=>some (i64 q)) oM,trivial⟩ ⟨congrArg (fun q=>some (Mem.arr 52 ptE 2 q)) (ziF _ _).symm,trivial⟩,by dsimp only;omega⟩
 ·have g:¬(i:Int)+1<=n:=g;have hi:i=n.toNat:=oM;subst hi;exact zeD e
def endG(Γ:List (TypeId×TI))(rs:List ResultVar)(r:SV)(M':List (Nat×Mem))(e:Ex)(σ:St):Prop:=
 match e with
 | .exit _=>False
 | _=>∃σ',Sub σ σ'/\σ'.M=M'/\zaS σ' Γ rs fun s=>LE s r
theorem uq {P:Program} {Γ:List (TypeId×TI)} (hT:TOK P Γ) (hm:P.follows .mixedOrders=true) {f:FuncId} {fn:Func} {c:Code} {args:List SV} {M M':List (Nat×Mem)} {r:SV}
  (hf:P.funcs[f]? =some fn) (hb:fn.body=some c) (hn:(fn.name== "runtime.NumGoroutine")=false) (hle:Nat.ble args.length fn.ntmps=true)
  (h:jB P Γ c ⟨jC 0 args,M,M.length,fn.ntmps,M.length⟩ (endG Γ fn.results.toList r M')):zd P f args M r M':=by
 refine vd hT hm hf hb hn hle h (Q':=fun e σ=>(∀id,e≠.exit id)/\σ.M=M'/\zaS σ Γ fn.results.toList fun s=>LE s r) (fun e σ hq=>?_) (fun e σ hq he=>?_) (fun id σ hq=>hq.1 id rfl)
 ·cases e with
  | exit id=>exact hq.elim
  | normal=>obtain ⟨σ',h1,h2,h3⟩:=hq;exact ⟨σ',h1,fun _=>by simp,h2,h3⟩
  | ret=>obtain ⟨σ',h1,h2,h3⟩:=hq;exact ⟨σ',h1,fun _=>by simp,h2,h3⟩
 ·obtain ⟨_,hM,hq⟩:=hq;obtain ⟨s,hle,h1⟩:=jR hT hq;refine ⟨s,h1,fun {E ρ a w v} hr hW hρ0 hg=>⟨ρ,?_,?_,?_⟩⟩
  ·have hs:=hr.stp;rw [hM] at hs;exact ⟨hs.os,hs.tape,hs.output,hs.size,fun b hb hn=>hs.block b hb fun h=>hn ((hW b).1 h),fun b hb=>(hs.own b hb).imp (hW b).1 id,hs.rho⟩
  ·have:=hr.mem
   rwa [hM] at this
  ·rw [hM] at hg;exact hle _ _ _ _ _ hg
theorem zov {σ:St} (k0:Nat) {m m':Mem} (h0:zO σ.M k0=some m)
  (hm:∀(S Pm:Nat->Prop) (ρ:zj) (w:World),ji S Pm ρ w k0 m->ji S Pm ρ w k0 m'):
  Sub σ ⟨σ.L,qA σ.M k0 m',σ.nk,σ.nt,σ.n0⟩:=by
 intro E ρ a w hr;refine ⟨ρ,?_⟩;have hkeys:(qA σ.M k0 m').map (·.1)=σ.M.map (·.1):=zal;have hown:∀b,Own (qA σ.M k0 m') ρ b->Own σ.M ρ b:=fun b hb=>vl hkeys.symm hb
 have hown':∀b,Own σ.M ρ b->Own (qA σ.M k0 m') ρ b:=fun b hb=>vl hkeys hb
 have eo:Own (qA σ.M k0 m') ρ=Own σ.M ρ:=funext fun b=>propext ⟨hown b,hown' b⟩
 refine ⟨hr.size,hr.defers,fun t s hl=>?_,⟨fun k1 m1 h1=>?_,yr hkeys hr.mem.keys,fun k1 m1 k2 m2 v1 v2 b h1 h2=>?_,fun b hb=>hr.mem.old b (hown b hb),hr.mem.kp⟩,
  hr.fresh,?_,hr.keep,hr.low⟩
 ·show t < σ.nt/\G (fun b=>E.Keep b∨Own (qA σ.M k0 m') ρ b) (Own (qA σ.M k0 m') ρ) ρ w s (a.tmps.getD t undef);rw [eo];exact hr.regs t s hl
 ·show ji (fun b=>E.Keep b∨Own (qA σ.M k0 m') ρ b) (Own (qA σ.M k0 m') ρ) ρ w k1 m1;rw [eo]
  rcases jM hr.mem.keys _ h1 with ⟨_,h2⟩ | h2
  ·exact hr.mem.rel k1 m1 h2
  ·cases h2
   exact hm _ _ _ _ (hr.mem.rel k0 m (zt h0))
 ·have back:∀k1 m1,(k1,m1)∈qA σ.M k0 m'->∃m',(k1,m')∈σ.M:=fun k1 m1 h=>by
   rcases jM hr.mem.keys _ h with ⟨_,h2⟩ | h2
   ·exact ⟨m1,h2⟩
   ·cases h2;exact ⟨_,zt h0⟩
  obtain ⟨m1',h1'⟩:=back _ _ h1;obtain ⟨m2',h2'⟩:=back _ _ h2;exact hr.mem.apart k1 m1' k2 m2' v1 v2 b h1' h2'
 ·show Stp E.W0 (Own (qA σ.M k0 m') ρ) E.ρ0 ρ E.w0 w;rw [eo];exact hr.stp
theorem LEs.ixs{za bs:List SV}(h:LEs za bs):za.length=bs.length/\∀(j:Nat) (r:SV),bs[j]? =some r->∃s,za[j]? =some s/\LE s r:=by
 induction h with
 | nil=>exact ⟨rfl,fun j r h=>by simp at h⟩
 | cons h t ih=>
  refine ⟨by simp [ih.1],fun j r hr=>?_⟩
  cases j with
  | zero=>simp at hr;subst hr;exact ⟨_,rfl,h⟩
  | succ j=>simpa using ih.2 j r (by simpa using hr)
inductive Rows:List (List SV)->List (List SV)->Prop
 | nil:Rows [] []
 | cons {x y:List SV} {xs ys:List (List SV)} (h:LEs x y) (t:Rows xs ys):Rows (x::xs) (y::ys)
theorem Rows.refl:∀{xs:List (List SV)},Rows xs xs
 | []=>.nil
 | _::_=>.cons .refl .refl
theorem Rows.app{xs ys us vs:List (List SV)}(h:Rows xs ys)(k:Rows us vs):Rows (xs++us) (ys++vs):=by
 induction h with
 | nil=>exact k
 | cons h t ih=>exact .cons h ih
theorem Rows.ix{xs ys:List (List SV)}(h:Rows xs ys):xs.length=ys.length/\∀(i:Nat) y,ys[i]? =some y->∃x,xs[i]? =some x/\LEs x y:=by
 induction h with
 | nil=>exact ⟨rfl,fun i y h=>by simp at h⟩
 | cons h t ih=>
  refine ⟨by simp [ih.1],fun i y hy=>?_⟩
  cases i with
  | zero=>simp at hy;subst hy;exact ⟨_,rfl,h⟩
  | succ i=>simpa using ih.2 i y (by simpa using hy)
theorem zd7{σ:St}(k0:Nat){T:TypeId}{sz:Nat}{xs ys:List (List SV)}(h0:zO σ.M k0=some (.garr T sz xs))(h:Rows xs ys):Sub σ ⟨σ.L,qA σ.M k0 (.garr T sz ys),σ.nk,σ.nt,σ.n0⟩:=by
 refine zov k0 h0 fun S Pm ρ w ⟨v,cells,g1,g2,g3,g4,g5,g6⟩=>⟨v,cells,g1,by rw [← h.ix.1];exact g2,by rw [← h.ix.1];exact g3,g4,fun y hy=>?_,fun i j y s hy hs=>?_⟩
 ·obtain ⟨i,hi⟩:=List.mem_iff_getElem?.1 hy;obtain ⟨x,hx,hle⟩:=h.ix.2 i y hi;rw [← hle.ixs.1];exact g5 x (List.mem_of_getElem? hx)
 ·obtain ⟨x,hx,hle⟩:=h.ix.2 i y hy;obtain ⟨s',hs',hl⟩:=hle.ixs.2 j s hs;obtain ⟨u,hu,hg⟩:=g6 i j x s' hx hs';exact ⟨u,hu,hl _ _ _ _ _ hg⟩
theorem zm7{α:Type _}{A:List α}{z y:α}{n:Nat}(h:(A++[z])[n]? =some y)(hn:n=A.length):y=z:=by
 subst hn;simp at h;exact h.symm
theorem zjX{α:Type _}{A:List α}{z w:α}{n:Nat}(hn:n=A.length):(A++[z]).set n w=A++[w]:=by
 subst hn;simp
def qW(cl:List Pl)(k:Nat)(b:SV):List (List SV):=cl.map plE++[[SV.own k,b]]
theorem uJ(cl:List Pl)(k:Nat)(b:SV):(qW cl k b).length=cl.length+1:=by unfold qW;simp
theorem zlW(ks:List Nat)(κ:Nat)(cl:List Pl)(k:Nat)(p:Prop)(i:Decidable p):(qW cl k (.pr p i)).map (u0.rens ks κ)=qW cl (rn ks κ k) (.pr p i):=by
 unfold qW;rw [List.map_append,List.map_map];rfl
theorem zr6{n k:Nat}(h:Nat.blt k n=true)(cl:List Pl)(p:Prop)(i:Decidable p):∀x∈qW cl k (.pr p i),ua.lows n x=true:=fun x hx=>by
 rcases List.mem_append.1 hx with hx | hx
 ·obtain ⟨q,_,rfl⟩:=List.mem_map.1 hx;rfl
 ·rw [List.mem_singleton.1 hx];simp only [ua.lows,ua,h]
theorem zr7{n k:Nat}(h:Nat.blt k n=true)(cl:List Pl)(p:Prop)(i:Decidable p):∀x∈qW cl k (.pr p i),zaO.outs n x=true:=fun x hx=>by
 rcases List.mem_append.1 hx with hx | hx
 ·obtain ⟨q,_,rfl⟩:=List.mem_map.1 hx;rfl
 ·rw [List.mem_singleton.1 hx];simp only [zaO.outs,zaO,h]
theorem ux{tb:List (Nat×Option Nat)}{cl:List Pl}{a b:Nat}{p:Prop}{i:Decidable p}(h:vu tb b=some (some a)):
  (qW cl a (.pr p i)).length=(qW cl b (.pr p i)).length/\∀(j:Nat) x,(qW cl b (.pr p i))[j]? =some x->∃x',(qW cl a (.pr p i))[j]? =some x'/\ren.rens tb x=some x':=by
 refine ⟨by rw [uJ,uJ],fun j x hx=>?_⟩;unfold qW at hx ⊢;rw [List.getElem?_append] at hx
 split at hx
 ·rename_i hi;rw [List.getElem?_map] at hx
  cases hy:cl[j]? with
  | none=>simp [hy] at hx
  | some y=>
   simp [hy] at hx;subst hx;exact ⟨plE y,by rw [List.getElem?_append_left hi,List.getElem?_map,hy];rfl,rfl⟩
 ·rename_i hi
  have h0:j - (cl.map plE).length=0:=by
   have:=(List.getElem?_eq_some_iff.1 hx).1;simp at this;simp at hi ⊢;omega
  rw [h0] at hx;simp at hx;subst hx;refine ⟨[.own a,.pr p i],by rw [List.getElem?_append_right oM,h0];rfl,?_⟩;simp only [ren.rens,ren,h]
theorem zjY(q:List Pt)(x:Pt):(jH q x).length<=q.length+1:=by
 unfold jH;split
 ·omega
 ·simp
theorem vJ:∀(more q:List Pt),(z6 q more).length<=q.length+more.length
 | [],q=>by simp [z6]
 | x::r,q=>by
  have h1:=vJ r (jH q x);have h2:=zjY q x;have e:z6 q (x::r)=z6 (jH q x) r:=rfl;rw [e,List.length_cons];omega
theorem zeF{q more:List Pt}{i:Nat}{x:Pt}(h:more[i]? =some x):z6 q (more.take (i+1))=jH (z6 q (more.take i)) x:=by
 unfold z6;rw [List.take_add_one,h];simp [List.foldl_append]
theorem zm8{q:List Pt}{x z:Pt}(h:q[q.length - 1]? =some z)(e:z=x):jH q x=q:=by
 unfold jH;rw [List.getLast?_eq_getElem?,h,e,if_pos rfl]
theorem zjZ{q:List Pt}{x z:Pt}(h:q[q.length - 1]? =some z)(e:¬z=x):jH q x=q++[x]:=by
 unfold jH;rw [List.getLast?_eq_getElem?,h,if_neg (fun k=>e (Option.some.inj k))]
theorem zow{q:List Pt}{x:Pt}(h:q.length=0):jH q x=q++[x]:=by
 rw [List.eq_nil_of_length_eq_zero h];rfl
theorem zvx(cl:List Pl)(q more:List Pt)(B:Prop)[iB:Decidable B](hq:q.length<=100000)(hm:more.length<=64)(hcl:cl.length<=300):
  zd Tryz.prog 76 [.eloc 0 2 (cl.length:Int) 0,.sl ptE more] [(0,.garr 85 2 (qW cl 1 (pr B))),(1,.arr 52 ptE 2 q)] (.tup [])
   [(0,.garr 85 2 (qW cl 2 (pr B))),(2,.arr 52 ptE 2 (z6 q more))]:=by
 refine uq tok mix Tryz.func76 rfl rfl rfl ?_;intro hl1
 refine ⟨Nat,fun i=>⟨[(0,.eloc 0 2 (cl.length:Int) 0),(7,.sl ptE more),(8,i64 (more.length:Int)),(9,i64 (i:Int))],
   [(0,.garr 85 2 (qW cl 2 (pr B))),(2,.arr 52 ptE 2 (z6 q (more.take i)))],3,43,2⟩,fun i=>i<=more.length,fun i=>more.length - i,0,?_,?_,?_⟩
 ·exact Nat.zero_le _
 ·exact zM [(0,some 0),(1,some 1),(2,some 1)] ⟨⟨_,rfl,ux rfl⟩,rfl,trivial⟩
 rintro i hi
 have hlen:=vJ (more.take i) q;rw [List.length_take] at hlen;have hcell:∀{y:List SV} {k:Nat} {b:SV},(qW cl k b)[(cl.length:Int).toNat]? =some y->y=[.own k,b]:=fun h=>zm7 h (by simp)
 have hcn:(cl.length:Int).toNat=(cl.map plE).length:=by simp
 have hset:∀(k:Nat) (b:SV) (w:List SV),(qW cl k b).set (cl.length:Int).toNat w=cl.map plE++[w]:=fun k b w=>by unfold qW;exact zjX hcn
 have hrow:0<=(cl.length:Int)/\(cl.length:Int) < (qW cl 2 (pr B)).length:=by rw [uJ];omega
 refine Br.mk (fun g=>?_) (fun g=>?_)
 ·have g:(i:Int) < more.length:=g;refine Ob.o ?_;intro x hx;have hx:more[i]? =some x:=hx;have e:=zeF (q:=q) hx;refine Ob.mk hrow ?_;intro y hy;obtain rfl:=hcell hy;intro hl2
  have yes:z6 q (more.take (i+1))=(z6 q (more.take i))++[x]->∀{σ:St},Sub σ ⟨[(0,.eloc 0 2 (cl.length:Int) 0),(7,.sl ptE more),(8,i64 (more.length:Int)),(9,i64 ((i+1:Nat):Int))],
    [(0,.garr 85 2 (qW cl 2 (pr B))),(2,.arr 52 ptE 2 ((z6 q (more.take i))++[x]))],3,43,2⟩->Sub σ ⟨[(0,.eloc 0 2 (cl.length:Int) 0),(7,.sl ptE more),(8,i64 (more.length:Int)),(9,i64 ((i+1:Nat):Int))],
    [(0,.garr 85 2 (qW cl 2 (pr B))),(2,.arr 52 ptE 2 (z6 q (more.take (i+1))))],3,43,2⟩:=fun h σ k=>by rw [h];exact k
  refine Dr.d ?_;refine Br.mk (fun z=>?_) (fun z=>?_)
  ·have z:((z6 q (more.take i)).length:Int)=0:=z;refine Ob.mk (by kernel_rfl) ?_;refine Dr.d ?_;refine Ob.mk hrow ?_;intro y hy;obtain rfl:=hcell hy;refine ⟨Pt,ptE,[x],rfl,Ob.o0 ?_⟩;refine ⟨[x],rfl,Ob.o3 ?_⟩;refine Ob.mk hrow ?_;intro y hy;obtain rfl:=hcell hy;refine Ob.mk (by kernel_rfl) ?_;refine Ar.o ?_;refine ⟨i+1,oM,yes (by rw [e,zow oM]) (zM [(0,some 0),(1,some 1),(2,some 5)] ⟨⟨_,congrArg (fun q=>some (Mem.garr 85 2 q)) (hset _ _ _),ux rfl⟩,rfl,trivial⟩),by dsimp only;omega⟩
  have z:¬((z6 q (more.take i)).length:Int)=0:=z;refine Ob.mk hrow ?_;intro y hy;obtain rfl:=hcell hy;refine Ar.o ?_;refine Ob.o ?_;refine Ob.o ?_;intro t ht
  have ht:(z6 q (more.take i))[(z6 q (more.take i)).length - 1]? =some t:=by
   have ht:(z6 q (more.take i))[(((z6 q (more.take i)).length:Int) - 1).toNat]? =some t:=ht
   rwa [show (((z6 q (more.take i)).length:Int) - 1).toNat=(z6 q (more.take i)).length - 1 by omega] at ht
  refine Ob.mk (by kernel_rfl) ?_;refine Br.mk (fun k=>?_) (fun k=>?_)
  ·have k:¬t=x:=fun h=>k (qx.2 h)
   refine Dr.d ?_;refine Ob.mk hrow ?_;intro y hy;obtain rfl:=hcell hy;refine ⟨Pt,ptE,[x],rfl,Ob.o0 ?_⟩;refine ⟨[x],rfl,Ob.o3 ?_⟩;refine Ob.mk hrow ?_;intro y hy;obtain rfl:=hcell hy;refine Ob.mk (by kernel_rfl) ?_;refine Ar.o ?_;refine ⟨i+1,oM,yes (by rw [e,zjZ ht k]) (zM [(0,some 0),(1,some 1),(2,some 5)] ⟨⟨_,congrArg (fun q=>some (Mem.garr 85 2 q)) (hset _ _ _),ux rfl⟩,rfl,trivial⟩),by dsimp only;omega⟩
  ·have k:t=x:=qx.1 (Decidable.not_not.1 k);refine Ar.o ?_;refine ⟨i+1,oM,zM [(0,some 0),(1,some 1),(2,some 2)] ⟨⟨_,rfl,ux rfl⟩,congrArg (fun q=>some (Mem.arr 52 ptE 2 q)) (by rw [e,zm8 ht k]),trivial⟩,by dsimp only;omega⟩
 ·have g:¬(i:Int) < more.length:=g;have e:more.take i=more:=List.take_of_length_le oM;exact ⟨_,.refl,congrArg (fun l=>[(0,Mem.garr 85 2 (qW cl 2 (pr B))),(2,Mem.arr 52 ptE 2 (z6 q l))]) e,.refl⟩
theorem zvy(q more:List Pt)(hq:q.length<=100000)(hm:more.length<=64):
  zd Tryz.prog 132 [.own 0,.sl ptE more] [(0,.arr 52 ptE 2 q)] (.own 1) [(1,.arr 52 ptE 2 (z6 q more))]:=by
 refine uq tok mix Tryz.func132 rfl rfl rfl ?_;refine ⟨Nat,fun i=>⟨[(0,.own 1),(1,.sl ptE more),(5,i64 (i:Int))],[(1,.arr 52 ptE 2 (z6 q (more.take i)))],2,36,1⟩,fun i=>i<=more.length,fun i=>more.length - i,0,?_,?_,?_⟩
 ·exact Nat.zero_le _
 ·exact zh [(0,some 0),(1,some 0)]
 rintro i hi
 have hlen:=vJ (more.take i) q;rw [List.length_take] at hlen;intro hl1;refine Br.mk (fun g=>?_) (fun g=>?_)
 ·have g:(i:Int) < more.length:=g;obtain ⟨x,hx⟩:∃x,more[i]? =some x:=⟨_,List.getElem?_eq_getElem oM⟩;have e:=zeF (q:=q) hx;have same:∀{y:Pt},more[(i:Int).toNat]? =some y->y=x:=fun h=>Option.some.inj ((show more[i]? =some _ from h).symm.trans hx)
  refine Dr.d ?_;intro hl2;refine Br.mk (fun z=>?_) (fun z=>?_)
  ·have z:((z6 q (more.take i)).length:Int)=0:=z;refine Ob.mk (by kernel_rfl) ?_;refine Ob.o ?_;intro y hy;rw [same hy];refine ⟨Pt,ptE,[x],rfl,Ob.o0 ?_⟩;refine ⟨[x],rfl,Ob.o3 ?_⟩;refine Ar.o ?_;refine ⟨i+1,oM,zM [(0,some 0),(1,some 3)] ⟨congrArg (fun q=>some (Mem.arr 52 ptE 2 q)) (by rw [e,zow oM]),trivial⟩,by dsimp only;omega⟩
  have z:¬((z6 q (more.take i)).length:Int)=0:=z;intro hl3;refine Ar.o ?_;refine Ob.o ?_;refine Ob.o ?_;intro t ht
  have ht:(z6 q (more.take i))[(z6 q (more.take i)).length - 1]? =some t:=by
   have ht:(z6 q (more.take i))[(((z6 q (more.take i)).length:Int) - 1).toNat]? =some t:=ht
   rwa [show (((z6 q (more.take i)).length:Int) - 1).toNat=(z6 q (more.take i)).length - 1 by omega] at ht
  refine Ob.o ?_;intro y hy;rw [same hy];refine Ob.mk (by kernel_rfl) ?_;refine Br.mk (fun k=>?_) (fun k=>?_)
  ·have k:¬t=x:=fun h=>k (qx.2 h)
   refine Ob.o ?_;intro y hy;rw [same hy];refine ⟨Pt,ptE,[x],rfl,Ob.o0 ?_⟩;refine ⟨[x],rfl,Ob.o3 ?_⟩;refine Ar.o ?_;refine ⟨i+1,oM,zM [(0,some 0),(1,some 3)] ⟨congrArg (fun q=>some (Mem.arr 52 ptE 2 q)) (by rw [e,zjZ ht k]),trivial⟩,by dsimp only;omega⟩
  ·have k:t=x:=qx.1 (Decidable.not_not.1 k);refine Ar.o ?_;refine ⟨i+1,oM,zM [(0,some 0),(1,some 1)] ⟨congrArg (fun q=>some (Mem.arr 52 ptE 2 q)) (by rw [e,zm8 ht k]),trivial⟩,by dsimp only;omega⟩
 ·have g:¬(i:Int) < more.length:=g;have e:more.take i=more:=List.take_of_length_le oM;exact ⟨_,.refl,congrArg (fun l=>[(1,Mem.arr 52 ptE 2 (z6 q l))]) e,.refl⟩
theorem zlX{p:Pt}{s:Sg}{tol:Int}(h:s.v=3):z5 p s tol=uY p s.a s.b tol:=by unfold z5;rw [if_pos h]
theorem zlY{p:Pt}{s:Sg}{tol:Int}(h3:¬s.v=3)(h:s.v=4):z5 p s tol=uZ p s.a s.b s.c tol:=by unfold z5;rw [if_neg h3,if_pos h]
theorem zlZ{p:Pt}{s:Sg}{tol:Int}(h3:¬s.v=3)(h:¬s.v=4):z5 p s tol=([s.a],0):=by unfold z5;rw [if_neg h3,if_neg h]
theorem p_seg(p:Pt)(s:Sg)(tol:Int)(hp:zo p)(hs:zo s.a/\zo s.b/\zo s.c):zd Tryz.prog 75 [.agg (ptE p),.agg (sgE s),i64 tol] [] (zlV (z5 p s tol)) []:=by
 refine zc tok mix Tryz.func75 rfl rfl rfl ?_;refine Br.mk (fun h3=>?_) (fun h3=>?_)
 ·have h3:s.v=3:=h3;refine zb.t (zvt p s.a s.b tol hp hs.1 hs.2.1) ?_;rw [zlX h3];exact .refl
 have h3:¬s.v=3:=h3;refine Br.mk (fun h4=>?_) (fun h4=>?_)
 ·have h4:s.v=4:=h4;refine zb.t (zvv p s.a s.b s.c tol hp hs.1 hs.2.1 hs.2.2) ?_;rw [zlY h3 h4];exact .refl
 have h4:¬s.v=4:=h4;refine ⟨Pt,ptE,[s.a],rfl,Ob.o0 ?_⟩;exact zeD (zlZ h3 h4)
theorem r_seg(p:Pt)(s:Sg)(tol:Int):zd Tryz.prog 131 [.agg (ptE p),.agg (sgE s),i64 tol] [] (zlV (z5 p s tol)) []:=by
 refine zc tok mix Tryz.func131 rfl rfl rfl ?_;refine Br.mk (fun h3=>?_) (fun h3=>?_)
 ·have h3:s.v=3:=h3;refine zb.t (zvu p s.a s.b tol) ?_;rw [zlX h3];exact .refl
 have h3:¬s.v=3:=h3;refine Br.mk (fun h4=>?_) (fun h4=>?_)
 ·have h4:s.v=4:=h4;refine zb.t (zvw p s.a s.b s.c tol) ?_;rw [zlY h3 h4];exact .refl
 have h4:¬s.v=4:=h4;refine ⟨Pt,ptE,[s.a],rfl,Ob.o0 ?_⟩;exact zeD (zlZ h3 h4)
end Go.Gs
