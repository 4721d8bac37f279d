/- Maps of one's own, whose keys are integers. -/
import Derived.Test.YtjfbljononkmcaaMA
import Derived.Test.YtjfbljononkmcaaMAJ
import Derived.MapKept
import Derived.ChangeMaps4
set_option maxRecDepth 100000
set_option maxHeartbeats 8000000
set_option linter.all false
namespace Go.Gs
theorem ziu.block(w:World){r:Nat}{ents:Array MapEntry}{clock:Nat}(h:w.heap[r]? =some (.map ents clock))(es':Array MapEntry)(c':Nat):
  ziu w { w with heap:=w.heap.setIfInBounds r (.map es' c') }:=⟨rfl,fun a=>by
 unfold World.frozen?
 show (match (w.heap.setIfInBounds r (.map es' c'))[a.block]? with
  | some (.cells _ _ (lo,hi))=>decide (lo<=a.off)&&decide (a.off < hi)
  | _=>false)=_
 by_cases e:r=a.block
 ·subst e;have hlt:a.block < w.heap.size:=(Array.getElem?_eq_some_iff.1 h).1
  have h2:(w.heap.setIfInBounds a.block (Obj.map es' c'))[a.block]? =some (.map es' c'):=by
   rw [Array.getElem?_setIfInBounds];simp [hlt]
  rw [h2,h]
 ·rw [Array.getElem?_setIfInBounds,if_neg e]
  cases w.heap[a.block]? with
  | none=>rfl
  | some o=>cases o <;> rfl⟩
theorem ziu.map(w:World):ziu w (w.alloc (.map #[] 0)):=⟨rfl,fun a=>by
 unfold World.frozen?
 by_cases e:a.block < w.heap.size
 ·rw [heap_alloc_old w _ a.block e]
 ·have h1:w.heap[a.block]? =none:=Array.getElem?_eq_none oM
  by_cases e2:a.block=w.heap.size
  ·rw [e2,heap_alloc_new];rw [e2] at h1;rw [h1]
  ·have h2:(w.alloc (.map #[] 0)).heap[a.block]? =none:=Array.getElem?_eq_none (by simp;omega)
   rw [h1,h2]⟩
theorem zj.writeMap {Keep:Nat->Prop} {M:List (Nat×Mem)} {ρ:zd} {w:World} (hm:zj Keep M ρ w) {k:Nat} {m:Mem} (m':Mem) (hk:(k,m)∈M) {r:Nat}
  (hv:ρ k=some (.map (some r))) {ents:Array MapEntry} {clock:Nat} (hh:w.heap[r]? =some (.map ents clock)) (es':Array MapEntry) (c':Nat)
  (hrel:Stp (Own M ρ) (Own (zJ M k m') ρ) ρ ρ w { w with heap:=w.heap.setIfInBounds r (.map es' c') }->
   kL (fun b=>Keep b∨Own (zJ M k m') ρ b) (Own (zJ M k m') ρ) ρ { w with heap:=w.heap.setIfInBounds r (.map es' c') } k m'):
  Stp (Own M ρ) (Own (zJ M k m') ρ) ρ ρ w { w with heap:=w.heap.setIfInBounds r (.map es' c') }/\zj Keep (zJ M k m') ρ { w with heap:=w.heap.setIfInBounds r (.map es' c') }:=by
 have hkeys:(zJ M k m').map (·.1)=M.map (·.1):=qx;have hb:zM (.map (some r))=some r:=rfl
 have hother:∀b',b'≠r->(w.heap.setIfInBounds r (Obj.map es' c'))[b']? =w.heap[b']? :=fun b' hne=>by
  rw [Array.getElem?_setIfInBounds];simp [Ne.symm hne]
 have hs:Stp (Own M ρ) (Own (zJ M k m') ρ) ρ ρ w { w with heap:=w.heap.setIfInBounds r (.map es' c') }:=
  ⟨rfl,rfl,.block w hh _ _,by simp,fun b' _ hn=>hother b' (fun e=>hn ⟨k,m,_,hk,hv,e ▸ hb⟩),fun b' hb'=>.inl (k8 hkeys.symm hb'),fun _ _ h=>h⟩
 refine ⟨hs,zj.next k hm hs (kv hkeys hm.keys) ?_ ?_ ?_⟩
 ·intro k' m1 h1 hne
  rcases z4 hm.keys _ h1 with ⟨_,h2⟩ | h2
  ·refine ⟨h2,rfl,fun v' b' hv' hb'=>hother b' (fun e=>?_)⟩;subst e;exact hm.apart k' m1 k m v' _ b' h2 hk hne hv' hv hb' hb
  ·cases h2;exact absurd rfl hne
 ·intro m1 h1
  rcases z4 hm.keys _ h1 with ⟨h2,_⟩ | h2
  ·exact absurd rfl h2
  ·cases h2;exact hrel hs
 ·intro m1 v' b' _ hv' hb';rw [hv] at hv';cases hv'
  rw [hb] at hb';cases hb'
  refine ⟨fun k' m2 v2 h2 hne hv2 hb2=>?_,by simpa using (hm.old r ⟨k,m,_,hk,hv,hb⟩).1,(hm.old r ⟨k,m,_,hk,hv,hb⟩).2⟩
  rcases z4 hm.keys _ h2 with ⟨_,h3⟩ | h3
  ·exact hm.apart k' m2 k m v2 _ r h3 hk hne hv2 hv hb2 hb
  ·cases h3;exact absurd rfl hne
theorem zas:∀{es:List (Int×SV)} {n:Int} {K1:SV->Prop} {K0:Prop},zfS es n K1 K0->
  (∃(i:Nat) (s:SV),es[i]? =some (n,s)/\(∀(j:Nat) (m:Int) (s':SV),j < i->es[j]? =some (m,s')->n≠m)/\K1 s)∨((∀(j:Nat) (m:Int) (s':SV),es[j]? =some (m,s')->n≠m)/\K0)
 | [],n,K1,K0,h=>.inr ⟨fun j m s' h=>by simp at h,h⟩
 | (k,s)::r,n,K1,K0,h=>by
  have h:Br (n=k->K1 s) (¬n=k->zfS r n K1 K0):=h
  by_cases e:n=k
  ·exact .inl ⟨0,s,by rw [e];rfl,fun j _ _ hj=>by omega,h.yes e⟩
  ·rcases zas (h.no e) with ⟨i,s1,h1,h2,h3⟩ | ⟨h1,h2⟩
   ·refine .inl ⟨i+1,s1,h1,fun j m s' hj hs=>?_,h3⟩
    cases j with
    | zero=>simp at hs;rw [← hs.1];exact e
    | succ j=>exact h2 j m s' oM hs
   ·refine .inr ⟨fun j m s' hs=>?_,h2⟩
    cases j with
    | zero=>simp at hs;rw [← hs.1];exact e
    | succ j=>exact h1 j m s' hs
theorem vj:∀{es:List (Int×SV)} {n:Int} {s:SV} {K:List (Int×SV)->Prop},updK es n s K->
  (∃(i:Nat) (s0:SV),es[i]? =some (n,s0)/\(∀(j:Nat) (m:Int) (s':SV),j < i->es[j]? =some (m,s')->n≠m)/\K (es.set i (n,s)))∨((∀(j:Nat) (m:Int) (s':SV),es[j]? =some (m,s')->n≠m)/\K (es++[(n,s)]))
 | [],n,s,K,h=>.inr ⟨fun j m s' h=>by simp at h,h⟩
 | (k,s0)::r,n,s,K,h=>by
  have h:Br (n=k->K ((n,s)::r)) (¬n=k->updK r n s fun r'=>K ((k,s0)::r')):=h
  by_cases e:n=k
  ·exact .inl ⟨0,s0,by rw [e];rfl,fun j _ _ hj=>by omega,h.yes e⟩
  ·rcases vj (h.no e) with ⟨i,s1,h1,h2,h3⟩ | ⟨h1,h2⟩
   ·refine .inl ⟨i+1,s1,h1,fun j m s' hj hs=>?_,h3⟩
    cases j with
    | zero=>simp at hs;rw [← hs.1];exact e
    | succ j=>exact h2 j m s' oM hs
   ·refine .inr ⟨fun j m s' hs=>?_,h2⟩
    cases j with
    | zero=>simp at hs;rw [← hs.1];exact e
    | succ j=>exact h1 j m s' hs
theorem jl{n:Int}:∀{ents:List MapEntry} {i:Nat} {e:MapEntry} (c:Nat),ents[i]? =some e->e.key=.int .i64 n->(∀(j:Nat) e',j < i->ents[j]? =some e'->∃m,e'.key=.int .i64 m/\n≠m)->
  Instr.findNow (.int .i64) (.int .i64 n) ents c=some (some (c+i,e.val))
 | [],i,e,c,h,_,_=>by simp at h
 | x::r,i,e,c,h,hk,ho=>by
  cases i with
  | zero=>
   simp at h;subst h;unfold Instr.findNow;simp [Instr.sameNow,hk]
  | succ i=>
   obtain ⟨m,h1,h2⟩:=ho 0 x oM rfl;unfold Instr.findNow;rw [h1];simp only [Instr.sameNow,if_true];rw [show (n==m)=false by simpa using h2];simp only;rw [jl (c+1) (i:=i) h hk (fun j e' hj he=>ho (j+1) e' oM he)];congr 2;congr 1;omega
theorem qQ{n:Int}:∀{ents:List MapEntry} (c:Nat),(∀(j:Nat) e',ents[j]? =some e'->∃m,e'.key=.int .i64 m/\n≠m)->Instr.findNow (.int .i64) (.int .i64 n) ents c=some none
 | [],c,_=>rfl
 | x::r,c,ho=>by
  obtain ⟨m,h1,h2⟩:=ho 0 x rfl;unfold Instr.findNow;rw [h1];simp only [Instr.sameNow,if_true];rw [show (n==m)=false by simpa using h2];exact qQ (c+1) fun j e' he=>ho (j+1) e' he
theorem kW{P:Program}{w:World}{kt:TypeId}{k:IntKind}(h:P.underlying kt=some (.int k))(b:Bool)(v:Value):(Instr.checkKey b 10000 kt v).run P w=.ok () w:=by
 rw [Instr.checkKey];simp [run_underlying h]
theorem uD(n:Int):Instr.sameBits 10000 (.int .i64 n) (.int .i64 n)=true:=by
 unfold Instr.sameBits;simp
theorem za7 {P:Program} {Γ:List (TypeId×TI)} (hT:TOK P Γ) {t:TypeId} {x:Option Operand} {svs:List SV} {lm:Nat->Option Mem} {κ:Nat} {K:SV->MD->Prop}
  (h:zaf Γ t svs κ K):∃r md,K r md/\kE P (.makeMap t x) svs lm κ r md:=by
 unfold zaf at h;replace h:=zc h;obtain ⟨i,hi,h⟩:=h;have hk:=(hT t i hi).kind
 split at h
 ·rename_i kt et hkind;rw [hkind] at hk;have hk:P.underlying t=some (.map kt et):=hk
  have fin:∀(o:Oper) (Keep:Nat->Prop) (M:List (Nat×Mem)) (ρ:zd) (a:Act) (w:World),zj Keep M ρ w->ρ κ=none->(∀m,(κ,m)∉M)->
    (execOp a.eval o).run P w=.ok (.value (.map (some w.heap.size))) (w.alloc (.map #[] 0))->zO P o a w (zE Keep M ρ w κ (.own κ) (.push (.map []))):=fun o Keep M ρ a w hm hκ hκM hrun=>
   zO.value hrun (zE.push (u:=.map (some w.heap.size)) (j4 hm hκ hκM _ _ _ (.map w) rfl fun hs=>
    ⟨w.heap.size,#[],0,zn,heap_alloc_new w _,rfl,fun i n s hi=>by simp at hi⟩) (.own _ _ zn rfl))
  split at h
  ·refine ⟨_,_,h,fun o ho Keep M ρ a w _ hm hκ hκM hgs=>fin o Keep M ρ a w hm (hκ _ (Nat.le_refl _) (Nat.lt_succ_self _)) (hκM rfl) ?_⟩
   have hx:x=none:=by
    cases x with
    | none=>rfl
    | some y=>have:=hgs.1;simp [zG,k7] at this
   subst hx;simp [execOp,ho,Instr.makeMap]
  ·rename_i kk nn rest;refine ⟨_,_,h,fun o ho Keep M ρ a w _ hm hκ hκM hgs=>fin o Keep M ρ a w hm (hκ _ (Nat.le_refl _) (Nat.lt_succ_self _)) (hκM rfl) ?_⟩
   cases x with
   | none=>have:=hgs.1;simp [zG,k7] at this
   | some y=>
    have hy:a.eval y=.int kk nn:=(Gs.head hgs).val_inv;simp [execOp,ho,Instr.makeMap,hy,run_underlying hk,asInt,asIntOf]
  ·exact h.elim
 ·exact h.elim
theorem vM {P:Program} {Γ:List (TypeId×TI)} (hT:TOK P Γ) {t:TypeId} {x y z:Operand} {m k s:SV} {lm:Nat->Option Mem} {κ:Nat} {K:SV->MD->Prop}
  (h:qw Γ t m k s lm K):∃r md,K r md/\kE P (.mapUpdate t x y z) [m,k,s] lm κ r md:=by
 unfold qw at h;replace h:=zc h;obtain ⟨i,hi,h⟩:=h;have hk:=(hT t i hi).kind
 split at h
 ·rename_i kt et hkind;rw [hkind] at hk;have hk:P.underlying t=some (.map kt et):=hk;replace h:=zc h;obtain ⟨j,hj,h⟩:=h;have hkk:=(hT kt j hj).kind
  split at h
  ·rename_i c n hjk;rw [hjk] at hkk;have hkk:P.underlying kt=some (.int .i64):=hkk
   split at h
   ·rename_i es hlk;replace h:=zb h;obtain ⟨hf,h⟩:=h
    rcases vj h with ⟨i,s0,h1,h2,h3⟩ | ⟨h1,h3⟩
    ·refine ⟨_,_,h3,fun o ho Keep M ρ a w hlm hm _ _ hgs=>?_⟩;have hmem:=zg (hlm c _ hlk);obtain ⟨r,ents,clock,g1,g2,g3,g4⟩:=hm.rel c _ hmem;obtain ⟨v0,hρ,hx⟩:∃v0,ρ c=some v0/\a.eval x=v0:=⟨_,(Gs.head hgs).own_inv.1,rfl⟩;rw [g1] at hρ;cases hρ
     have hy:a.eval y=.int .i64 n:=(Gs.head (Gs.tail hgs)).val_inv;have hz:=qh hf (Gs.head (Gs.tail (Gs.tail hgs)));obtain ⟨e,he,hek,hd⟩:=g4 i n s0 h1
     have hhit:=jl (n:=n) 0 (ents:=ents.toList) (i:=i) (e:=e) (by simpa using he) hek (fun j e' hj he'=>by
      have hjl:j < es.length:=by have:=(List.getElem?_eq_some_iff.1 h1).1;omega
      obtain ⟨⟨m,s'⟩,hms⟩:∃p,es[j]? =some p:=⟨_,List.getElem?_eq_getElem hjl⟩;obtain ⟨e2,q1,q2,_⟩:=g4 j m s' hms;have he':ents[j]? =some e':=by simpa using he'
      rw [q1] at he';cases he'
      exact ⟨m,q2,h2 j m s' hj hms⟩)
     rw [Nat.zero_add] at hhit;refine zO.skip (w':={ w with heap:=w.heap.setIfInBounds r (.map (ents.modify i fun e=>{ e with key:=.int .i64 n,val:=a.eval z }) clock) }) ?_ ?_
     ·simp [execOp,ho,hx,hy,Instr.mapUpdate,run_underlying hk,run_underlying hkk,MapKept.run_getObj_map g2,kW hkk,Instr.findKey,hhit,Instr.keyThatStays,he,hek,uD,MapKept.run_setObj_map _ g2]
     ·refine zE.set (hm.writeMap _ hmem g1 g2 _ _ fun hs=>⟨r,ents.modify i fun e=>{ e with key:=.int .i64 n,val:=a.eval z },clock,g1,by rw [Array.getElem?_setIfInBounds];simp [(Array.getElem?_eq_some_iff.1 g2).1],by simp [g3],fun j m s' hjm=>?_⟩) (.d _ _ (.val _));rw [List.getElem?_set] at hjm
      by_cases eij:i=j
      ·subst eij;rw [if_pos rfl] at hjm
       split at hjm
       ·cases hjm
        exact ⟨{ e with key:=.int .i64 n,val:=a.eval z },by rw [Array.getElem?_modify,if_pos rfl,he];rfl,rfl,hz.stp hs⟩
       ·cases hjm
      ·rw [if_neg eij] at hjm;obtain ⟨e2,q1,q2,q3⟩:=g4 j m s' hjm;exact ⟨e2,by rw [Array.getElem?_modify,if_neg eij,q1],q2,q3.stp hs⟩
    ·refine ⟨_,_,h3,fun o ho Keep M ρ a w hlm hm _ _ hgs=>?_⟩;have hmem:=zg (hlm c _ hlk);obtain ⟨r,ents,clock,g1,g2,g3,g4⟩:=hm.rel c _ hmem;obtain ⟨v0,hρ,hx⟩:∃v0,ρ c=some v0/\a.eval x=v0:=⟨_,(Gs.head hgs).own_inv.1,rfl⟩;rw [g1] at hρ;cases hρ
     have hy:a.eval y=.int .i64 n:=(Gs.head (Gs.tail hgs)).val_inv;have hz:=qh hf (Gs.head (Gs.tail (Gs.tail hgs)))
     have hmiss:=qQ (n:=n) 0 (ents:=ents.toList) (fun j e' he'=>by
      have he':ents[j]? =some e':=by simpa using he'
      have hjl:j < es.length:=by have:=(Array.getElem?_eq_some_iff.1 he').1;omega
      obtain ⟨⟨m,s'⟩,hms⟩:∃p,es[j]? =some p:=⟨_,List.getElem?_eq_getElem hjl⟩;obtain ⟨e2,q1,q2,_⟩:=g4 j m s' hms;rw [q1] at he';cases he'
      exact ⟨m,q2,h1 j m s' hms⟩)
     refine zO.skip (w':={ w with heap:=w.heap.setIfInBounds r (.map (ents.push { key:=.int .i64 n,val:=a.eval z,born:=clock }) (clock+1)) }) ?_ ?_
     ·simp [execOp,ho,hx,hy,Instr.mapUpdate,run_underlying hk,run_underlying hkk,MapKept.run_getObj_map g2,kW hkk,Instr.findKey,hmiss,MapKept.run_setObj_map _ g2]
     ·refine zE.set (hm.writeMap _ hmem g1 g2 _ _ fun hs=>⟨r,ents.push { key:=.int .i64 n,val:=a.eval z,born:=clock },clock+1,g1,by rw [Array.getElem?_setIfInBounds];simp [(Array.getElem?_eq_some_iff.1 g2).1],by simp [g3],fun j m s' hjm=>?_⟩) (.d _ _ (.val _))
      by_cases hj:j < es.length
      ·rw [List.getElem?_append_left hj] at hjm;obtain ⟨e2,q1,q2,q3⟩:=g4 j m s' hjm;exact ⟨e2,by rw [Array.getElem?_push,if_neg oM,q1],q2,q3.stp hs⟩
      ·rw [List.getElem?_append_right oM] at hjm
       have hj0:j=es.length:=by
        have:=(List.getElem?_eq_some_iff.1 hjm).1;simp at this;omega
       subst hj0;simp at hjm;obtain ⟨rfl,rfl⟩:=hjm;exact ⟨_,by rw [Array.getElem?_push,if_pos g3.symm],rfl,hz.stp hs⟩
   ·exact h.elim
  ·exact h.elim
 ·exact h.elim
theorem zcc {P:Program} {Γ:List (TypeId×TI)} (hT:TOK P Γ) {t:TypeId} {x y z:Operand} {m k s:SV} {lm:Nat->Option Mem} {κ:Nat} {K:SV->MD->Prop}
  (h:qw Γ t m k s lm K):∃r md,K r md/\kE P (.insert t x y z) [m,k,s] lm κ r md:=by
 unfold qw at h;replace h:=zc h;obtain ⟨i,hi,h⟩:=h;have hk:=(hT t i hi).kind
 split at h
 ·rename_i kt et hkind;rw [hkind] at hk;have hk:P.underlying t=some (.map kt et):=hk;replace h:=zc h;obtain ⟨j,hj,h⟩:=h;have hkk:=(hT kt j hj).kind
  split at h
  ·rename_i c n hjk;rw [hjk] at hkk;have hkk:P.underlying kt=some (.int .i64):=hkk
   split at h
   ·rename_i es hlk;replace h:=zb h;obtain ⟨hf,h⟩:=h
    rcases vj h with ⟨i,s0,h1,h2,h3⟩ | ⟨h1,h3⟩
    ·refine ⟨_,_,h3,fun o ho Keep M ρ a w hlm hm _ _ hgs=>?_⟩;have hmem:=zg (hlm c _ hlk);obtain ⟨r,ents,clock,g1,g2,g3,g4⟩:=hm.rel c _ hmem;obtain ⟨v0,hρ,hx⟩:∃v0,ρ c=some v0/\a.eval x=v0:=⟨_,(Gs.head hgs).own_inv.1,rfl⟩;rw [g1] at hρ;cases hρ
     have hy:a.eval y=.int .i64 n:=(Gs.head (Gs.tail hgs)).val_inv;have hz:=qh hf (Gs.head (Gs.tail (Gs.tail hgs)));obtain ⟨e,he,hek,hd⟩:=g4 i n s0 h1
     have hhit:=jl (n:=n) 0 (ents:=ents.toList) (i:=i) (e:=e) (by simpa using he) hek (fun j e' hj he'=>by
      have hjl:j < es.length:=by have:=(List.getElem?_eq_some_iff.1 h1).1;omega
      obtain ⟨⟨m,s'⟩,hms⟩:∃p,es[j]? =some p:=⟨_,List.getElem?_eq_getElem hjl⟩;obtain ⟨e2,q1,q2,_⟩:=g4 j m s' hms;have he':ents[j]? =some e':=by simpa using he'
      rw [q1] at he';cases he'
      exact ⟨m,q2,h2 j m s' hj hms⟩)
     rw [Nat.zero_add] at hhit;refine zO.skip (w':={ w with heap:=w.heap.setIfInBounds r (.map (ents.modify i fun e=>{ e with key:=.int .i64 n,val:=a.eval z }) clock) }) ?_ ?_
     ·simp [execOp,ho,hx,hy,Instr.mapUpdate,run_underlying hk,run_underlying hkk,MapKept.run_getObj_map g2,kW hkk,Instr.findKey,hhit,Instr.keyThatStays,he,hek,uD,MapKept.run_setObj_map _ g2]
     ·refine zE.set (hm.writeMap _ hmem g1 g2 _ _ fun hs=>⟨r,ents.modify i fun e=>{ e with key:=.int .i64 n,val:=a.eval z },clock,g1,by rw [Array.getElem?_setIfInBounds];simp [(Array.getElem?_eq_some_iff.1 g2).1],by simp [g3],fun j m s' hjm=>?_⟩) (.d _ _ (.val _));rw [List.getElem?_set] at hjm
      by_cases eij:i=j
      ·subst eij;rw [if_pos rfl] at hjm
       split at hjm
       ·cases hjm
        exact ⟨{ e with key:=.int .i64 n,val:=a.eval z },by rw [Array.getElem?_modify,if_pos rfl,he];rfl,rfl,hz.stp hs⟩
       ·cases hjm
      ·rw [if_neg eij] at hjm;obtain ⟨e2,q1,q2,q3⟩:=g4 j m s' hjm;exact ⟨e2,by rw [Array.getElem?_modify,if_neg eij,q1],q2,q3.stp hs⟩
    ·refine ⟨_,_,h3,fun o ho Keep M ρ a w hlm hm _ _ hgs=>?_⟩;have hmem:=zg (hlm c _ hlk);obtain ⟨r,ents,clock,g1,g2,g3,g4⟩:=hm.rel c _ hmem;obtain ⟨v0,hρ,hx⟩:∃v0,ρ c=some v0/\a.eval x=v0:=⟨_,(Gs.head hgs).own_inv.1,rfl⟩;rw [g1] at hρ;cases hρ
     have hy:a.eval y=.int .i64 n:=(Gs.head (Gs.tail hgs)).val_inv;have hz:=qh hf (Gs.head (Gs.tail (Gs.tail hgs)))
     have hmiss:=qQ (n:=n) 0 (ents:=ents.toList) (fun j e' he'=>by
      have he':ents[j]? =some e':=by simpa using he'
      have hjl:j < es.length:=by have:=(Array.getElem?_eq_some_iff.1 he').1;omega
      obtain ⟨⟨m,s'⟩,hms⟩:∃p,es[j]? =some p:=⟨_,List.getElem?_eq_getElem hjl⟩;obtain ⟨e2,q1,q2,_⟩:=g4 j m s' hms;rw [q1] at he';cases he'
      exact ⟨m,q2,h1 j m s' hms⟩)
     refine zO.skip (w':={ w with heap:=w.heap.setIfInBounds r (.map (ents.push { key:=.int .i64 n,val:=a.eval z,born:=clock }) (clock+1)) }) ?_ ?_
     ·simp [execOp,ho,hx,hy,Instr.mapUpdate,run_underlying hk,run_underlying hkk,MapKept.run_getObj_map g2,kW hkk,Instr.findKey,hmiss,MapKept.run_setObj_map _ g2]
     ·refine zE.set (hm.writeMap _ hmem g1 g2 _ _ fun hs=>⟨r,ents.push { key:=.int .i64 n,val:=a.eval z,born:=clock },clock+1,g1,by rw [Array.getElem?_setIfInBounds];simp [(Array.getElem?_eq_some_iff.1 g2).1],by simp [g3],fun j m s' hjm=>?_⟩) (.d _ _ (.val _))
      by_cases hj:j < es.length
      ·rw [List.getElem?_append_left hj] at hjm;obtain ⟨e2,q1,q2,q3⟩:=g4 j m s' hjm;exact ⟨e2,by rw [Array.getElem?_push,if_neg oM,q1],q2,q3.stp hs⟩
      ·rw [List.getElem?_append_right oM] at hjm
       have hj0:j=es.length:=by
        have:=(List.getElem?_eq_some_iff.1 hjm).1;simp at this;omega
       subst hj0;simp at hjm;obtain ⟨rfl,rfl⟩:=hjm;exact ⟨_,by rw [Array.getElem?_push,if_pos g3.symm],rfl,hz.stp hs⟩
   ·exact h.elim
  ·exact h.elim
 ·exact h.elim
theorem zcd {P:Program} {Γ:List (TypeId×TI)} (hT:TOK P Γ) {t:TypeId} {x y:Operand} {ok:Bool} {m k:SV} {lm:Nat->Option Mem} {κ:Nat} {K:SV->MD->Prop}
  (h:zb1 Γ t ok m k lm K):∃r,K r .none/\kE P (.lookup t x y ok) [m,k] lm κ r .none:=by
 unfold zb1 at h;replace h:=zc h;obtain ⟨i,hi,h⟩:=h;have hk:=(hT t i hi).kind
 split at h
 ·rename_i kt et hkind;rw [hkind] at hk;have hk:P.underlying t=some (.map kt et):=hk;replace h:=zc h;obtain ⟨j,hj,h⟩:=h;replace h:=zc h;obtain ⟨z,hz,h⟩:=h;have hkk:=(hT kt j hj).kind
  split at h
  ·rename_i c n hjk;rw [hjk] at hkk;have hkk:P.underlying kt=some (.int .i64):=hkk
   split at h
   ·rename_i es hlk
    have lookE:∀{s:SV} {b:Bool},ye ok s b K->∃r,K r .none/\∀{S Pm:Nat->Prop} {ρ:zd} {w:World} {v:Value},G S Pm ρ w s v->G S Pm ρ w r (if ok then .tuple #[v,.bool b] else v):=fun {s b} h=>by
     unfold ye at h
     split at h
     ·exact ⟨_,h,fun hg=>.tup [s,.val (.bool b)] [_,.bool b] rfl (Gs.cons hg (.cons (.d _ _ (.val _)) .nil)).2⟩
     ·exact ⟨_,zS h,fun hg=>hg⟩
    rcases zas h with ⟨i,s0,h1,h2,h3⟩ | ⟨h1,h3⟩
    ·obtain ⟨res,hK,hres⟩:=lookE h3;refine ⟨res,hK,fun o ho Keep M ρ a w hlm hm _ _ hgs=>?_⟩;have hmem:=zg (hlm c _ hlk);obtain ⟨r,ents,clock,g1,g2,g3,g4⟩:=hm.rel c _ hmem;obtain ⟨v0,hρ,hx⟩:∃v0,ρ c=some v0/\a.eval x=v0:=⟨_,(Gs.head hgs).own_inv.1,rfl⟩;rw [g1] at hρ;cases hρ
     have hy:a.eval y=.int .i64 n:=(Gs.head (Gs.tail hgs)).val_inv;obtain ⟨e,he,hek,hd⟩:=g4 i n s0 h1
     have hhit:=jl (n:=n) 0 (ents:=ents.toList) (i:=i) (e:=e) (by simpa using he) hek (fun j e' hj he'=>by
      have hjl:j < es.length:=by have:=(List.getElem?_eq_some_iff.1 h1).1;omega
      obtain ⟨⟨m,s'⟩,hms⟩:∃p,es[j]? =some p:=⟨_,List.getElem?_eq_getElem hjl⟩;obtain ⟨e2,q1,q2,_⟩:=g4 j m s' hms;have he':ents[j]? =some e':=by simpa using he'
      rw [q1] at he';cases he'
      exact ⟨m,q2,h2 j m s' hj hms⟩)
     rw [Nat.zero_add] at hhit;refine zO.value (v:=if ok then .tuple #[e.val,.bool true] else e.val) ?_ (zE.same hm (hres (.d _ _ hd)));simp [execOp,ho,hx,hy,Instr.lookup,run_underlying hk,run_underlying hkk,MapKept.run_getObj_map g2,kW hkk,Instr.findKey,hhit]
    ·obtain ⟨s,h3,hs⟩:=k9 h3;obtain ⟨res,hK,hres⟩:=lookE h3;refine ⟨res,hK,fun o ho Keep M ρ a w hlm hm _ _ hgs=>?_⟩;have hmem:=zg (hlm c _ hlk);obtain ⟨r,ents,clock,g1,g2,g3,g4⟩:=hm.rel c _ hmem;obtain ⟨v0,hρ,hx⟩:∃v0,ρ c=some v0/\a.eval x=v0:=⟨_,(Gs.head hgs).own_inv.1,rfl⟩;rw [g1] at hρ;cases hρ
     have hy:a.eval y=.int .i64 n:=(Gs.head (Gs.tail hgs)).val_inv
     have hmiss:=qQ (n:=n) 0 (ents:=ents.toList) (fun j e' he'=>by
      have he':ents[j]? =some e':=by simpa using he'
      have hjl:j < es.length:=by have:=(Array.getElem?_eq_some_iff.1 he').1;omega
      obtain ⟨⟨m,s'⟩,hms⟩:∃p,es[j]? =some p:=⟨_,List.getElem?_eq_getElem hjl⟩;obtain ⟨e2,q1,q2,_⟩:=g4 j m s' hms;rw [q1] at he';cases he'
      exact ⟨m,q2,h1 j m s' hms⟩)
     obtain ⟨f,q1,q2,q3,zv,q4,q5,q6,q7,q8⟩:=(hT et z hz).inf;refine zO.value (v:=if ok then .tuple #[zv,.bool false] else zv) ?_ (zE.same hm (hres ?_))
     ·simp [execOp,ho,hx,hy,Instr.lookup,run_underlying hk,run_underlying hkk,MapKept.run_getObj_map g2,kW hkk,Instr.findKey,hmiss,zeroValue,typeInfo,q1,q4]
     ·rcases hs with ⟨ha,rfl⟩ | ⟨ha,l,hl⟩
      ·obtain ⟨f',p1,p2⟩:=(hT et z hz).zagg ha;rw [q1] at p1;cases p1
       rw [q4] at p2;cases p2
       have:((vals z.zero).take z.sz)=vals z.zero:=List.take_of_length_le (by simp [vals,q7]);rw [this];exact .agg _ z.zero (by simp [vals]) (Gs.vals _).2
      ·have hz1:=q6 ha;have:z.zero=[zv]:=by rw [← q5,hz1]
       rw [this] at hl
       cases hl
       exact .d _ _ (.val _)
   ·exact h.elim
  ·exact h.elim
 ·exact h.elim
theorem zdW {P:Program} {o:Oper} {c:Call} {r:Operand} {name:String} (ho:o.op=.call c) (hc:c.callee=.invoke r name) {a:Act} {w:World} {f:FuncId} {t:TypeId} {v:Value}
  (hr:a.eval r=.iface t v) (hm:zb4 P t name f=true) (hcall:ur P f):(execOp a.eval o).run P w=.ok (.enter f (List.toArray (v::c.args.toList.map a.eval))) w:=by
 obtain ⟨fn,h1,h2,h3⟩:=hcall;unfold zb4 at hm;simp only [Bool.and_eq_true] at hm;obtain ⟨hu,hm⟩:=hm
 split at hu
 ·rename_i F hF
  split at hm
  ·rename_i i hi
   split at hm
   ·rename_i m hfind;simp only [Bool.and_eq_true] at hm;obtain ⟨hp,hm⟩:=hm
    split at hm
    ·rename_i g p hfunc;simp only [Bool.and_eq_true,Bool.not_eq_true'] at hm;obtain ⟨hg,rfl⟩:=hm;have hg:=Nat.eq_of_beq_eq_true hg;subst hg;have hpath:m.path.toList=[]:=by simpa using hp
     simp only [execOp,ho,resolve,hc,hr,invoke,Sem.run_bind,Sem.run_pure,Result.andThen_ok]
     have harg:(#[Value.iface t v]++c.args.map a.eval)[0]? =some (.iface t v):=by
      rw [Array.getElem?_append_left (by simp)];rfl
     have hext:(#[Value.iface t v]++c.args.map a.eval).extract 1 (#[Value.iface t v]++c.args.map a.eval).size=c.args.map a.eval:=by
      apply Array.ext';rw [Array.toList_extract];simp;exact List.take_of_length_le (by simp)
     simp only [harg,hext,callMethod,Sem.run_bind,run_program,Result.andThen_ok]
     have hmeth:(method (P.types.size+Made.depth) t v name).run P w=.ok (g,v) w:=by
      rw [show P.types.size+Made.depth=(P.types.size+99)+1 from rfl,method];simp [typeInfo,hi,hfind,hpath,follow,hfunc,receiverAt,run_underlying hF,Place.get]
     rw [hmeth];simp only [Result.andThen_ok,callFunc,Sem.run_bind,run_program,h1,h2,h3,Bool.false_eq_true,if_false];simp
    ·cases hm
   ·cases hm
  ·cases hm
 ·cases hu
theorem za8 {P:Program} {Γ:List (TypeId×TI)} (hT:TOK P Γ) {t:TypeId} {x:Operand} {s:SV} {lm:Nat->Option Mem} {κ:Nat} {K:SV->MD->Prop}
  (h:zag Γ t s K):∃r,K r .none/\kE P (.makeInterface t x) [s] lm κ r .none:=by
 unfold zag at h;replace h:=zc h;obtain ⟨i,hi,h⟩:=h;have hk:=(hT t i hi).kind
 have key:∀d,P.underlying t=some d->(∀ms,d≠.interface ms)->∀(o:Oper) (a:Act) (w:World),o.op=.makeInterface t x->(execOp a.eval o).run P w=.ok (.value (.iface t (a.eval x))) w:=fun d hd hn o a w ho=>by
  cases d <;> first | exact absurd rfl (hn _) | simp [execOp,ho,Instr.makeInterface,run_underlying hd]
 have fin:(∃d,P.underlying t=some d/\∀ms,d≠.interface ms)->K (.ifc t s) .none->∃r,K r .none/\kE P (.makeInterface t x) [s] lm κ r .none:=fun ⟨d,hd,hn⟩ h=>
  ⟨_,h,.pure fun o ho S Pm ρ a w hgs=>⟨_,key d hd hn o a w ho,.ifc t s _ (Gs.head hgs)⟩⟩
 cases hkk:i.kind <;> rw [hkk] at hk h <;> simp only [ug] at hk
 case struct fs=>obtain ⟨F,hF,_⟩:=hk;exact fin ⟨_,hF,fun ms e=>by cases e⟩ h
 case iface=>exact h.elim
 case other=>exact h.elim
 all_goals exact fin ⟨_,hk,fun ms e=>by cases e⟩ h
theorem zc3{t t':TypeId}{ok:Bool}{s':SV}{Z:Prop}{K:SV->MD->Prop}:zb2 t ok (.ifc t' s') Z K=(if Nat.beq t' t=true then ye ok s' true K else if ok=true then Z else False):=by
 show (match Nat.beq t' t with
  | true=>ye ok s' true K
  |false=>(match ok with
   | true=>Z
   | false=>False))=_
 cases Nat.beq t' t <;> cases ok <;> simp
theorem zce {P:Program} {Γ:List (TypeId×TI)} (hT:TOK P Γ) {t xt:TypeId} {x:Operand} {ok:Bool} {s:SV} {lm:Nat->Option Mem} {κ:Nat} {K:SV->MD->Prop}
  (h:zb3 Γ t ok s K):∃r,K r .none/\kE P (.typeAssert x xt t ok) [s] lm κ r .none:=by
 unfold zb3 at h;replace h:=zc h;obtain ⟨i,hi,h⟩:=h;have hk:=(hT t i hi).kind
 have lookE:∀{ok:Bool} {s:SV} {b:Bool},ye ok s b K->∃r,K r .none/\∀{S Pm:Nat->Prop} {ρ:zd} {w:World} {v:Value},G S Pm ρ w s v->G S Pm ρ w r (if ok then .tuple #[v,.bool b] else v):=fun {ok s b} h=>by
  unfold ye at h
  split at h
  ·exact ⟨_,h,fun hg=>.tup [s,.val (.bool b)] [_,.bool b] rfl (Gs.cons hg (.cons (.d _ _ (.val _)) .nil)).2⟩
  ·exact ⟨_,zS h,fun hg=>hg⟩
 obtain ⟨f,q1,q2,q3,zv,q4,q5,q6,q7,q8⟩:=(hT t i hi).inf;have hzero:∀w:World,(zeroValue t).run P w=.ok zv w:=fun w=>by simp [zeroValue,typeInfo,q1,q4]
 have zeroE:(mkV i.kind.agg i.sz (vals i.zero) fun s=>ye true s false K)->∃r,K r .none/\∀{S Pm:Nat->Prop} {ρ:zd} {w:World},G S Pm ρ w r (.tuple #[zv,.bool false]):=fun h=>by
  obtain ⟨s,h,hs⟩:=k9 h;obtain ⟨r,hK,hr⟩:=lookE h;refine ⟨r,hK,fun {S Pm ρ w}=>?_⟩;have:=hr (S:=S) (Pm:=Pm) (ρ:=ρ) (w:=w) (v:=zv) ?_
  ·simpa using this
  ·rcases hs with ⟨ha,rfl⟩ | ⟨ha,l,hl⟩
   ·obtain ⟨f',p1,p2⟩:=(hT t i hi).zagg ha;rw [q1] at p1;cases p1
    rw [q4] at p2;cases p2
    have:((vals i.zero).take i.sz)=vals i.zero:=List.take_of_length_le (by simp [vals,q7]);rw [this];exact .agg _ i.zero (by simp [vals]) (Gs.vals _).2
   ·have hz1:=q6 ha;have:i.zero=[zv]:=by rw [← q5,hz1]
    rw [this] at hl
    cases hl
    exact .d _ _ (.val _)
 have body:(∃d,P.underlying t=some d/\∀ms,d≠.interface ms)->zb2 t ok s (mkV i.kind.agg i.sz (vals i.zero) fun s=>ye true s false K) K->∃r,K r .none/\kE P (.typeAssert x xt t ok) [s] lm κ r .none:=fun ⟨d,hd,hn⟩ h'=>by
  cases s with
  | ifc t' s'=>
   rw [zc3] at h'
   by_cases hb:Nat.beq t' t=true
   ·rw [if_pos hb] at h';have e:=Nat.eq_of_beq_eq_true hb;subst e;obtain ⟨r,hK,hr⟩:=lookE h';refine ⟨r,hK,.pure fun o ho S Pm ρ a w hgs=>?_⟩;obtain ⟨v,hx,hv⟩:=(Gs.head hgs).ifc_inv;refine ⟨_,?_,hr hv⟩
    cases d <;> first | exact absurd rfl (hn _) | (cases ok <;> simp [execOp,ho,hx,Instr.typeAssert,run_underlying hd])
   ·rw [if_neg hb] at h';have hne:¬t'=t:=fun e=>hb (by subst e;exact Nat.beq_refl _)
    cases ok with
    | true=>
     rw [if_pos rfl] at h';obtain ⟨r,hK,hr⟩:=zeroE h';refine ⟨r,hK,.pure fun o ho S Pm ρ a w hgs=>?_⟩;obtain ⟨v,hx,hv⟩:=(Gs.head hgs).ifc_inv;refine ⟨_,?_,hr⟩
     cases d <;> first | exact absurd rfl (hn _) | simp [execOp,ho,hx,Instr.typeAssert,run_underlying hd,hne,hzero]
    | false=>rw [if_neg dC] at h';exact h'.elim
  | val u=>
   cases u with
   | nilIface=>
    cases ok with
    | true=>
     obtain ⟨r,hK,hr⟩:=zeroE h';refine ⟨r,hK,.pure fun o ho S Pm ρ a w hgs=>?_⟩;have hx:=(Gs.head hgs).val_inv;refine ⟨_,?_,hr⟩
     cases d <;> first | exact absurd rfl (hn _) | simp [execOp,ho,hx,Instr.typeAssert,run_underlying hd,hzero]
    | false=>exact h'.elim
   | _=>exact h'.elim
  | _=>exact h'.elim
 cases hkk:i.kind <;> rw [hkk] at hk <;> simp only [ug] at hk
 case struct fs=>obtain ⟨F,hF,_⟩:=hk;rw [hkk] at h;exact body ⟨_,hF,fun ms e=>by cases e⟩ (by rw [hkk];exact h)
 case iface=>rw [hkk] at h;exact h.elim
 case other=>rw [hkk] at h;exact h.elim
 all_goals (rw [hkk] at h;exact body ⟨_,hk,fun ms e=>by cases e⟩ (by rw [hkk];exact h))
end Go.Gs
