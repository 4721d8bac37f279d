/- Arguments laid open: slices of structs of integers. -/
import Derived.Test.YtjfbljononkmcaaMA
import Derived.Test.YtjfbljononkmcaaMBA
import Derived.Deep.Slices
import Derived.Deep.Fields
import Derived.ChangeSame
import Derived.Lib.SmallJoins
import Derived.WalkKit
import Derived.ProofKit
import Derived.OpenShut
import Derived.Carry
import Derived.Test.YtjfbljononkmcaaMAS
import Derived.Test.YtjfbljononkmcaaChecked
set_option maxRecDepth 100000
set_option maxHeartbeats 8000000
set_option linter.all false
namespace Go.Gs
open Go.ChangeShapes Go.WideShapes Go.Deep Go.Joins Go.RowKit
section
variable {H:Type} {enc:TypeId×Value->H} {P:Program} {w:World} {base:Nat} {held:Bool}
theorem zcB {t e:TypeId} {fs:Array Field} {fuel:Nat} {v:Value} {x:DataW H×List MemPlace} (ks:List IntKind) (ht:P.underlying t=some (.slice e)) (he:P.underlying e=some (.struct fs))
  (hone:oneCellFields P fs=true) (hC:P.cellsOf e=ks.length) (hk:∀(j:Nat) (k:IntKind),ks[j]? =some k->∃f,fs[j]? =some f/\P.underlying f.type=some (.int k))
  (h:DataW.trod enc P w base (fun _=>true) held fuel t [v]=some x):
  v=.slice none 0 0∨∃(a:Addr) (len cap:Nat) (R:Nat->Nat->Int),v=.slice (some a) len cap/\len<=cap/\cap<=maxLen/\
   ∀(i j:Nat) (k:IntKind),i < len->ks[j]? =some k->w.cell? (a.add (i*ks.length+j))=some (.int k (R i j))/\(Lit.int k (R i j)).wf=true:=by
 rcases open_slice ht h with ⟨h0,_⟩ | ⟨a,len,cap,m,n,D,Pl,hcs,_,hl,hm,hmm,_,hi⟩
 ·simp only [List.cons.injEq,and_true] at h0;exact .inl h0
 ·simp only [List.cons.injEq,and_true] at hcs
  refine .inr ⟨a,len,cap,fun i j=>match w.cell? (a.add (i*ks.length+j)) with
   | some (.int _ n)=>n
   | _=>0,hcs,hl,hm,fun i j k hil hjk=>?_⟩
  obtain ⟨f,hf,hu⟩:=hk j k hjk;obtain ⟨cs',hc,ht'⟩:=hi i (by simp at hmm;omega);rw [hC] at hc;obtain ⟨ys,n',hn',hy,hlen,hyl,hfl⟩:=DataW.trod_struct he ht';obtain ⟨_,hcl,hat⟩:=World.cells?_some hc;obtain ⟨ho,hk1⟩:=hone_of hone j f hf;have hjl:j < ks.length:=(List.getElem?_eq_some_iff.1 hjk).1;have hcell:=hat j hjl;have h1:=hfl j f hf;rw [ho,hk1] at h1
  have hone':(cs'.drop j).take 1=[cs'[j]'oM]:=by
   rw [List.drop_eq_getElem_cons oM];rfl
  rw [hone'] at h1;have hys:ys[j]? =some (ys[j]'(by have:=(Array.getElem?_eq_some_iff.1 hf).1;omega)):=List.getElem?_eq_getElem _;obtain ⟨q,hq,_,hw⟩:=DataW.trod_int hu (h1.trans hys);simp only [List.cons.injEq,and_true] at hq
  have hcc:w.cell? (a.add (i*ks.length+j))=some (.int k q):=by
   rw [← Go.Deep.add_add,hcell,List.getElem?_eq_getElem (show j < cs'.length by omega),hq]
  simp only [hcc];exact ⟨trivial,hw⟩
end
theorem zfI {S:Nat->Prop} {w:World} {α:Type} (enc:α->List SV) (f:Nat->α) (ks:List IntKind) (R:Nat->Nat->Int) {b o len cap:Nat} (hb:b < w.heap.size) (hS:¬S b)
  (hlen:len<=9223372036854775807) (hcap:len<=cap) (hc:∀(i j:Nat) (k:IntKind),i < len->ks[j]? =some k->w.cell? ⟨b,o+(i*ks.length+j),none⟩=some (.int k (R i j)))
  (hl:∀i,(enc (f i)).length=ks.length) (he:∀(i j:Nat) (k:IntKind),i < len->ks[j]? =some k->(enc (f i))[j]? =some (.val (.int k (R i j)))):
  D S w (.sl enc ((List.range len).map f)) (.slice (some ⟨b,o,none⟩) len cap):=by
 have h:=D.sl (S:=S) (w:=w) enc ((List.range len).map f) ks.length b o cap (fun i j=>match ks[j]? with
  | some k=>.int k (R i j)
  |none=>undef) hb hS (by simpa using hlen) (by simpa using hcap) (fun x hx=>by
   obtain ⟨i,_,rfl⟩:=List.mem_map.1 hx;exact hl i) (fun i j hi hj=>by
   have hi:i < len:=by simpa using hi
   have hk:=List.getElem?_eq_getElem hj;simp only [hk];refine ⟨?_,rfl⟩;have:=hc i j _ hi hk;rw [← Nat.add_assoc] at this
   exact this) (fun i j x s hx hs=>by
   have hi:i < len:=by have:=(List.getElem?_eq_some_iff.1 hx).1;simpa using this
   simp only [List.getElem?_map,List.getElem?_range hi,Option.map_some,Option.some.injEq] at hx;subst hx;have hj:j < ks.length:=by have:=(List.getElem?_eq_some_iff.1 hs).1;rw [hl] at this;exact this
   have hk:=List.getElem?_eq_getElem hj;have:=he i j _ hi hk;rw [hs] at this;cases this
   simp only [hk]
   exact .val _)
 simpa using h
theorem args_stay{H:Type}{enc:TypeId×Value->H}{P:Program}(hl:laidOutB P=true){W W':World}(hb:Below W.heap.size W W'){sp:Nat->Bool}:
  ∀{ts:List TypeId} {vs:List Value} {ds:List (DataW H)} {ps:List MemPlace},(ts.all fun t=>P.readableRec t&&decide (t < P.types.size))=true->
   DataW.TrodAll enc P W 0 (fun _=>true) true ts vs ds ps->(∀p∈ps,p.block < W.heap.size)->(∀p∈ps,sp p.block=true)->DataW.TrodAll enc P W' 0 sp true ts vs ds ps
 | [],[],[],_,_,h,_,_=>h
 | t::ts,v::vs,d::ds,ps,hts,⟨p,q,h1,h2,e⟩,hlt,hsp=>by
  simp only [List.all_cons,Bool.and_eq_true,decide_eq_true_eq] at hts;have e1:∀x∈p,x∈ps:=fun x hx=>by rw [e];exact List.mem_append_left _ hx
  have e2:∀x∈q,x∈ps:=fun x hx=>by rw [e];exact List.mem_append_right _ hx
  refine ⟨p,q,WideElems.Trod_stays hl hts.1.1 hts.1.2 h1 (fun x hx=>hb.same (hlt x (e1 x hx))) (fun x hx=>hsp x (e1 x hx)),args_stay hl hb (by simpa using hts.2) h2 (fun x hx=>hlt x (e2 x hx)) (fun x hx=>hsp x (e2 x hx)),e⟩
theorem g_ints{S Pm:Nat->Prop}{ρ:zd}{w:World}{cs:List SV}(l:List Value)(h:cs=l.map .val):G S Pm ρ w (.agg cs) (.agg l.toArray):=by
 subst h;refine .agg _ l (by simp) fun j s v hs hv=>?_
 simp only [List.getElem?_map,hv,Option.map_some,Option.some.injEq] at hs;subst hs;exact .d _ _ (.val v)
theorem open_arr_ints {H:Type} {enc:TypeId×Value->H} {P:Program} {w:World} {base b0:Nat} {held:Bool} {sp:Nat->Bool} {r:Reach} {t e:TypeId} {n:Nat} {k:IntKind} {v:Value} {d:DataW H} {p:List MemPlace}
  (ht:P.underlying t=some (.array n e)) (he:P.underlying e=some (.int k)) (hce:P.cellsOf e=1) (hC:P.cellsOf t=n) (hv:Value.okWide P w r b0 t v) (h:DataW.Trod enc P w base sp held t v d p):
  ∃R:Nat->Int,v=.agg ((List.range n).map fun j=>Value.int k (R j)).toArray/\∀j,j < n->(Lit.int k (R j)).wf=true:=by
 unfold Value.okWide at hv;rw [ht] at hv;obtain ⟨cs,rfl,hsz,_⟩:=hv;obtain ⟨fuel,hf⟩:=h;obtain ⟨xs,m,_,_,hlen,hxl,hi⟩:=DataW.trod_array ht hf;have hlen:cs.toList.length=n:=by simpa [Value.cells,hC] using hlen
 have key:∀j,j < n->∃q:Int,cs.toList[j]? =some (.int k q)/\(Lit.int k q).wf=true:=fun j hj=>by
  have h1:=hi j hj;rw [hce,Nat.mul_one] at h1
  have h2:((Value.agg cs).cells.toList.drop j).take 1=[cs.toList[j]'oM]:=by
   show (cs.toList.drop j).take 1=_;rw [List.drop_eq_getElem_cons oM];rfl
  rw [h2] at h1;obtain ⟨q,hq,_,hw⟩:=DataW.trod_int he (h1.trans (List.getElem?_eq_getElem (show j < xs.length by omega)));simp only [List.cons.injEq,and_true] at hq;exact ⟨q,by rw [List.getElem?_eq_getElem oM,hq],hw⟩
 obtain ⟨R,hR⟩:=choose_lt key;refine ⟨R,?_,fun j hj=>(hR j hj).2⟩;congr 1;apply Array.toList_inj.1;refine List.ext_getElem? fun j=>?_
 by_cases hj:j < n
 ·rw [(hR j hj).1];simp [hj]
 ·rw [List.getElem?_eq_none oM,List.getElem?_eq_none (by simp;omega)]
end Go.Gs
namespace Go.Gs
open Go.Proofs Go.ChangeShapes Go.WideShapes Go.Deep Go.Joins Go.RowKit
theorem laidOut:laidOutB Try.prog=true:=by kernel_rfl
theorem open_img {H:Type} {enc:TypeId×Value->H} {W:World} {b0:Nat} {held:Bool} {v:Value} {d:DataW H} {p:List MemPlace}
  (hv:Value.okWide Try.prog W .any b0 28 v) (h:DataW.Trod enc Try.prog W 0 (fun _=>true) held 28 v d p):
  ∃m:Img,R64 m.w/\R64 m.h/\(∀q∈m.px,R8 q.r/\R8 q.g/\R8 q.b/\R8 q.a)/\∀(S Pm:Nat->Prop) (ρ:zd),(∀b,¬S b)->G S Pm ρ W (.agg (kj m)) v:=by
 have hv2:=hv;obtain ⟨v0,v1,v2,y0,y1,y2,n,rfl,rfl,rfl,h0,h1,h2⟩:=open_agg3 Try.underlying28 (by kernel_rfl) (by kernel_rfl) hv h;obtain ⟨a0,e0,_,w0⟩:=DataW.trod_int Try.underlying3 h0;obtain ⟨a1,e1,_,w1⟩:=DataW.trod_int Try.underlying3 h1;simp only [List.cons.injEq,and_true] at e0 e1;subst e0;subst e1
 have mk:∀(px:List Pix),(∀q∈px,R8 q.r/\R8 q.g/\R8 q.b/\R8 q.a)->(∀(S:Nat->Prop),(∀b,¬S b)->D S W (.sl kd px) v2)->∃m:Img,R64 m.w/\R64 m.h/\(∀q∈m.px,R8 q.r/\R8 q.g/\R8 q.b/\R8 q.a)/\
   ∀(S Pm:Nat->Prop) (ρ:zd),(∀b,¬S b)->G S Pm ρ W (.agg (kj m)) (.agg #[.int .i64 a0,.int .i64 a1,v2]):=fun px hr hd=>
  ⟨⟨a0,a1,px⟩,r64 w0,r64 w1,hr,fun S Pm ρ hS=>by
   have:=Gs.cons (S:=S) (Pm:=Pm) (ρ:=ρ) (w:=W) (.d _ _ (.val (.int .i64 a0))) (.cons (.d _ _ (.val (.int .i64 a1))) (.cons (.d _ _ (hd S hS)) .nil))
   exact .agg _ [.int .i64 a0,.int .i64 a1,v2] this.1 this.2⟩
 rcases zcB (v:=v2) [.u8,.u8,.u8,.u8] Try.underlying26 Try.underlying37 (by kernel_rfl) (by kernel_rfl) (fun j k hj=>by
  match j,hj with
  | 0,hj=>cases hj;exact ⟨_,rfl,Try.underlying5⟩
  | 1,hj=>cases hj;exact ⟨_,rfl,Try.underlying5⟩
  | 2,hj=>cases hj;exact ⟨_,rfl,Try.underlying5⟩
  | 3,hj=>cases hj;exact ⟨_,rfl,Try.underlying5⟩) h2 with rfl | ⟨a,len,cap,R,rfl,hlc,hcm,hR⟩
 ·exact mk [] (fun q hq=>by cases hq) fun S _=>.nil _ _
 ·obtain ⟨b,o,sp⟩:=a
  have hcell:sp=none/\b < W.heap.size:=by
   unfold Value.okWide at hv2;rw [Try.underlying28] at hv2;obtain ⟨cs,hcs,_,ts,hts,_,hcells⟩:=hv2
   cases hcs
   have hts':Try.prog.cellTypes Try.prog.depth 28=some [3,3,26]:=by kernel_rfl
   rw [hts'] at hts;cases hts
   obtain ⟨u,hu,hc⟩:=hcells 2 _ rfl;simp at hu;subst hu;unfold Cell.okWide Cell.ok at hc;rw [Try.underlying26] at hc;obtain ⟨_,_,_,hsp,row,cells,hsh,_⟩:=hc;refine ⟨hsp,?_⟩;unfold World.shape? at hsh
   cases hb:W.heap[b]? with
   | none=>simp only [hb] at hsh;cases hsh
   | some _=>exact (Array.getElem?_eq_some_iff.1 hb).1
  obtain ⟨rfl,hb⟩:=hcell;refine mk ((List.range len).map fun i=>⟨R i 0,R i 1,R i 2,R i 3⟩) (fun q hq=>?_) (fun S hS=>?_)
  ·obtain ⟨i,hi,rfl⟩:=List.mem_map.1 hq;have hi:=List.mem_range.1 hi;exact ⟨r8 (hR i 0 _ hi rfl).2,r8 (hR i 1 _ hi rfl).2,r8 (hR i 2 _ hi rfl).2,r8 (hR i 3 _ hi rfl).2⟩
  ·refine zfI kd _ [.u8,.u8,.u8,.u8] R hb (hS b) (by unfold maxLen at hcm;omega) hlc (fun i j k hi hj=>by have:=(hR i j k hi hj).1;rwa [kA] at this) (fun _=>rfl) (fun i j k hi hj=>?_)
   match j,hj with
   | 0,hj=>cases hj;rfl
   | 1,hj=>cases hj;rfl
   | 2,hj=>cases hj;rfl
   | 3,hj=>cases hj;rfl
end Go.Gs
