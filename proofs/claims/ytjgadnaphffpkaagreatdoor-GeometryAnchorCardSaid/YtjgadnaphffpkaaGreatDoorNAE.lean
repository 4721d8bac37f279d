/- Maps of one's own, whose keys are integers. -/
import Derived.Test.YtjgadnaphffpkaaGreatDoorNA
import Derived.Test.YtjgadnaphffpkaaGreatDoorNAD
import Derived.MapKept
import Derived.ChangeMaps4
set_option maxRecDepth 100000
set_option maxHeartbeats 8000000
set_option linter.all false
namespace Go.Gs
section
theorem qc.block(w:World){r:Nat}{ents:Array MapEntry}{clock:Nat}(h:w.heap[r]? =some (.map ents clock))(es':Array MapEntry)(c':Nat):
  qc w { w with heap:=w.heap.setIfInBounds r (.map es' c') }:=⟨rfl,λa=>by
 unfold World.frozen?
 show(match (w.heap.setIfInBounds r (.map es' c'))[a.block]? with
  | some (.cells _ _ (lo,hi))=>decide (lo<=a.off)&&decide (a.off < hi)
  | _=>false)=_
 by_cases e:r=a.block
 ·subst e;have hlt:a.block < w.heap.size:=(X1.1 h).1
  have h2:(w.heap.setIfInBounds a.block (Obj.map es' c'))[a.block]? =some (.map es' c'):=by
   rw[Ku];simp[hlt]
  rw[h2,h]
 ·rw[Ku,if_neg e]
  cases w.heap[a.block]? with
  | none=>rfl
  | some o=>cases o <;> rfl⟩
theorem qc.map(w:World):qc w (w.alloc (.map #[] 0)):=⟨rfl,λa=>by
 unfold World.frozen?
 by_cases e:a.block < w.heap.size
 ·rw[heap_alloc_old w _ a.block e]
 ·have h1:w.heap[a.block]? =none:=Kl oM
  by_cases e2:a.block=w.heap.size
  ·rw[e2,heap_alloc_new];rw[e2]at h1;rw[h1]
  ·have h2:(w.alloc (.map #[] 0)).heap[a.block]? =none:=Kl (by simp;omega)
   rw[h1,h2]⟩
variable{ρ:zk}{w:World}
theorem zO.writeMap {Keep:Nat->Prop} {M:List (Nat×Mem)}(hm:zO Keep M ρ w) {k:Nat} {m:Mem} (m':Mem) (hk:(k,m)∈M) {r:Nat}
  (hv:ρ k=some (.map (some r))) {ents:Array MapEntry} {clock:Nat} (hh:w.heap[r]? =some (.map ents clock)) (es':Array MapEntry) (c':Nat)
  (hrel:Stp (Own M ρ) (Own (qM M k m') ρ) ρ ρ w { w with heap:=w.heap.setIfInBounds r (.map es' c') }->
   j8 (λb=>Keep b∨Own (qM M k m') ρ b) (Own (qM M k m') ρ) ρ { w with heap:=w.heap.setIfInBounds r (.map es' c') } k m'):
  Stp (Own M ρ) (Own (qM M k m') ρ) ρ ρ w { w with heap:=w.heap.setIfInBounds r (.map es' c') }/\zO Keep (qM M k m') ρ { w with heap:=w.heap.setIfInBounds r (.map es' c') }:=by
 have hkeys:(qM M k m').map (·.1)=M.map (·.1):=zaI;have hb:qz (.map (some r))=some r:=rfl
 have hother:∀b',b'≠r->(w.heap.setIfInBounds r (Obj.map es' c'))[b']? =w.heap[b']? :=λb' hne=>by
  rw[Ku];simp[Ne.symm hne]
 have hs:Stp (Own M ρ) (Own (qM M k m') ρ) ρ ρ w { w with heap:=w.heap.setIfInBounds r (.map es' c') }:=
  ⟨rfl,rfl,.block w hh _ _,by simp,λb' _ hn=>hother b' (λe=>hn ⟨k,m,_,hk,hv,e ▸ hb⟩),λb' hb'=>.inl (zad hkeys.symm hb'),λ_ _ h=>h⟩
 refine⟨hs,zO.next k hm hs (yS hkeys hm.keys) ?_ ?_ ?_⟩
 ·intro k' m1 h1 hne
  rcases jQ hm.keys _ h1 with⟨_,h2⟩ | h2
  ·refine⟨h2,rfl,λv' b' hv' hb'=>hother b' (λe=>?_)⟩;subst e;exact hm.apart k' m1 k m v' _ b' h2 hk hne hv' hv hb' hb
  ·cases h2;exact absurd rfl hne
 ·intro m1 h1
  rcases jQ hm.keys _ h1 with⟨h2,_⟩ | h2
  ·exact absurd rfl h2
  ·cases h2;exact hrel hs
 ·intro m1 v' b' _ hv' hb';rw[hv]at hv';cases hv'
  rw[hb]at hb';cases hb'
  refine⟨λk' m2 v2 h2 hne hv2 hb2=>?_,by simpa using (hm.old r ⟨k,m,_,hk,hv,hb⟩).1,(hm.old r ⟨k,m,_,hk,hv,hb⟩).2⟩
  rcases jQ hm.keys _ h2 with⟨_,h3⟩ | h3
  ·exact hm.apart k' m2 k m v2 _ r h3 hk hne hv2 hv hb2 hb
  ·cases h3;exact absurd rfl hne
theorem zji:∀{es:List (Int×SV)} {n:Int} {K1:SV->Prop} {K0:Prop},zv9 es n K1 K0->
  (∃(i:Nat) (s:SV),es[i]? =some (n,s)/\(∀(j:Nat) (m:Int) (s':SV),j < i->es[j]? =some (m,s')->n≠m)/\K1 s)∨((∀(j:Nat) (m:Int) (s':SV),es[j]? =some (m,s')->n≠m)/\K0)
 | [],n,K1,K0,h=>.inr ⟨λj m s' h=>by simp at h,h⟩
 | (k,s)::r,n,K1,K0,h=>by
  have h:Br (n=k->K1 s) (¬n=k->zv9 r n K1 K0):=h
  by_cases e:n=k
  ·exact .inl ⟨0,s,by rw[e];rfl,λj _ _ hj=>by omega,h.yes e⟩
  ·rcases zji (h.no e) with⟨i,s1,h1,h2,h3⟩ | ⟨h1,h2⟩
   ·refine .inl ⟨i+1,s1,h1,λj m s' hj hs=>?_,h3⟩
    cases j with
    | zero=>simp at hs;rw[← hs.1];exact e
    | succ j=>exact h2 j m s' oM hs
   ·refine .inr ⟨λj m s' hs=>?_,h2⟩
    cases j with
    | zero=>simp at hs;rw[← hs.1];exact e
    | succ j=>exact h1 j m s' hs
theorem zg9:∀{es:List (Int×SV)} {n:Int} {s:SV} {K:List (Int×SV)->Prop},zwa es n s K->
  (∃(i:Nat) (s0:SV),es[i]? =some (n,s0)/\(∀(j:Nat) (m:Int) (s':SV),j < i->es[j]? =some (m,s')->n≠m)/\K (es.set i (n,s)))∨((∀(j:Nat) (m:Int) (s':SV),es[j]? =some (m,s')->n≠m)/\K (es++[(n,s)]))
 | [],n,s,K,h=>.inr ⟨λj m s' h=>by simp at h,h⟩
 | (k,s0)::r,n,s,K,h=>by
  have h:Br (n=k->K ((n,s)::r)) (¬n=k->zwa r n s λr'=>K ((k,s0)::r')):=h
  by_cases e:n=k
  ·exact .inl ⟨0,s0,by rw[e];rfl,λj _ _ hj=>by omega,h.yes e⟩
  ·rcases zg9 (h.no e) with⟨i,s1,h1,h2,h3⟩ | ⟨h1,h2⟩
   ·refine .inl ⟨i+1,s1,h1,λj m s' hj hs=>?_,h3⟩
    cases j with
    | zero=>simp at hs;rw[← hs.1];exact e
    | succ j=>exact h2 j m s' oM hs
   ·refine .inr ⟨λj m s' hs=>?_,h2⟩
    cases j with
    | zero=>simp at hs;rw[← hs.1];exact e
    | succ j=>exact h1 j m s' hs
theorem zbv{n:Int}:∀{ents:List MapEntry} {i:Nat} {e:MapEntry} (c:Nat),ents[i]? =some e->e.key=.int .i64 n->(∀(j:Nat) e',j < i->ents[j]? =some e'->∃m,e'.key=.int .i64 m/\n≠m)->
  Instr.findNow (.int .i64) (.int .i64 n) ents c=some (some (c+i,e.val))
 | [],i,e,c,h,_,_=>by simp at h
 | x::r,i,e,c,h,hk,ho=>by
  cases i with
  | zero=>
   simp at h;subst h;unfold Instr.findNow;simp[Instr.sameNow,hk]
  | succ i=>
   obtain⟨m,h1,h2⟩:=ho 0 x oM rfl;unfold Instr.findNow;rw[h1];simp only[Instr.sameNow,if_true];rw[show(n==m)=false by simpa using h2];simp only;rw[zbv (c+1) (i:=i) h hk (λj e' hj he=>ho (j+1) e' oM he)];congr 2;congr 1;omega
theorem zaE{n:Int}:∀{ents:List MapEntry} (c:Nat),(∀(j:Nat) e',ents[j]? =some e'->∃m,e'.key=.int .i64 m/\n≠m)->Instr.findNow (.int .i64) (.int .i64 n) ents c=some none
 | [],c,_=>rfl
 | x::r,c,ho=>by
  obtain⟨m,h1,h2⟩:=ho 0 x rfl;unfold Instr.findNow;rw[h1];simp only[Instr.sameNow,if_true];rw[show(n==m)=false by simpa using h2];exact zaE (c+1) λj e' he=>ho (j+1) e' he
variable{P:Program}
theorem uu{kt:TypeId}{k:IntKind}(h:P.underlying kt=some (.int k))(b:Bool)(v:Value):(Instr.checkKey b 10000 kt v).run P w=.ok () w:=by
 rw[Instr.checkKey];simp[run_underlying h]
theorem zfU(n:Int):Instr.sameBits 10000 (.int .i64 n) (.int .i64 n)=true:=by
 unfold Instr.sameBits;simp
variable{Γ:List (TypeId×TI)}{lm:Nat->Option Mem}{κ:Nat}{K:SV->MD->Prop}
theorem zli(hT:TOK P Γ) {t:TypeId} {x:Option Operand} {svs:List SV}
  (h:zi5 Γ t svs κ K):∃r md,K r md/\yK P (.makeMap t x) svs lm κ r md:=by
 unfold zi5 at h;replace h:=zt h;obtain⟨i,hi,h⟩:=h;have hk:=(hT t i hi).kind
 split at h
 ·rename_i kt et hkind;rw[hkind]at hk;have hk:P.underlying t=some (.map kt et):=hk
  have fin:∀(o:Oper) (Keep:Nat->Prop) (M:List (Nat×Mem)) (ρ:zk) (a:Act) (w:World),zO Keep M ρ w->ρ κ=none->(∀m,(κ,m)∉M)->
    (execOp a.eval o).run P w=.ok (.value (.map (some w.heap.size))) (w.alloc (.map #[] 0))->qH P o a w (k8 Keep M ρ w κ (.own κ) (.push (.map []))):=λo Keep M ρ a w hm hκ hκM hrun=>
   qH.value hrun (k8.push (u:=.map (some w.heap.size)) (zcv hm hκ hκM _ _ _ (.map w) rfl λhs=>
    ⟨w.heap.size,#[],0,kB,heap_alloc_new w _,rfl,λi n s hi=>by simp at hi⟩) (.own _ _ kB rfl))
  split at h
  ·refine⟨_,_,h,λo ho Keep M ρ a w _ hm hκ hκM hgs=>fin o Keep M ρ a w hm (hκ _ (Xh _) (XX _)) (hκM rfl) ?_⟩
   have hx:x=none:=by
    cases x with
    | none=>rfl
    | some y=>have:=hgs.1;simp[qf,uM]at this
   subst hx;simp[execOp,ho,Instr.makeMap]
  ·rename_i kk nn rest;refine⟨_,_,h,λo ho Keep M ρ a w _ hm hκ hκM hgs=>fin o Keep M ρ a w hm (hκ _ (Xh _) (XX _)) (hκM rfl) ?_⟩
   cases x with
   | none=>have:=hgs.1;simp[qf,uM]at this
   | some y=>
    have hy:a.eval y=.int kk nn:=(Gs.head hgs).val_inv;simp[execOp,ho,Instr.makeMap,hy,run_underlying hk,asInt,asIntOf]
  ·exact h.elim
 ·exact h.elim
variable{x:Operand}{z:Operand}{m:SV}
theorem zis(hT:TOK P Γ) {t:TypeId}{y:Operand}{k s:SV}
  (h:vN Γ t m k s lm K):∃r md,K r md/\yK P (.mapUpdate t x y z) [m,k,s] lm κ r md:=by
 unfold vN at h;replace h:=zt h;obtain⟨i,hi,h⟩:=h;have hk:=(hT t i hi).kind
 split at h
 ·rename_i kt et hkind;rw[hkind]at hk;have hk:P.underlying t=some (.map kt et):=hk;replace h:=zt h;obtain⟨j,hj,h⟩:=h;have hkk:=(hT kt j hj).kind
  split at h
  ·rename_i c n hjk;rw[hjk]at hkk;have hkk:P.underlying kt=some (.int .i64):=hkk
   split at h
   ·rename_i es hlk;replace h:=zi h;obtain⟨hf,h⟩:=h
    rcases zg9 h with⟨i,s0,h1,h2,h3⟩ | ⟨h1,h3⟩
    ·refine⟨_,_,h3,λo ho Keep M ρ a w hlm hm _ _ hgs=>?_⟩;have hmem:=zA (hlm c _ hlk);obtain⟨r,ents,clock,g1,g2,g3,g4⟩:=hm.rel c _ hmem;obtain⟨v0,hρ,hx⟩:∃v0,ρ c=some v0/\a.eval x=v0:=⟨_,(Gs.head hgs).own_inv.1,rfl⟩;rw[g1]at hρ;cases hρ
     have hy:a.eval y=.int .i64 n:=(Gs.head (Gs.tail hgs)).val_inv;have hz:=uH hf (Gs.head (Gs.tail (Gs.tail hgs)));obtain⟨e,he,hek,hd⟩:=g4 i n s0 h1
     have hhit:=zbv (n:=n) 0 (ents:=ents.toList) (i:=i) (e:=e) (by simpa using he) hek (λj e' hj he'=>by
      have hjl:j < es.length:=by have:=(Xc.1 h1).1;omega
      obtain⟨⟨m,s'⟩,hms⟩:∃p,es[j]? =some p:=⟨_,Xb hjl⟩;obtain⟨e2,q1,q2,_⟩:=g4 j m s' hms;have he':ents[j]? =some e':=by simpa using he'
      rw[q1]at he';cases he'
      exact⟨m,q2,h2 j m s' hj hms⟩)
     rw[X6]at hhit;refine qH.skip (w':={ w with heap:=w.heap.setIfInBounds r (.map (ents.modify i λe=>{ e with key:=.int .i64 n,val:=a.eval z }) clock) }) ?_ ?_
     ·simp[execOp,ho,hx,hy,Instr.mapUpdate,run_underlying hk,run_underlying hkk,MapKept.run_getObj_map g2,uu hkk,Instr.findKey,hhit,Instr.keyThatStays,he,hek,zfU,MapKept.run_setObj_map _ g2]
     ·refine k8.set (hm.writeMap _ hmem g1 g2 _ _ λhs=>⟨r,ents.modify i λe=>{ e with key:=.int .i64 n,val:=a.eval z },clock,g1,by rw[Ku];simp[(X1.1 g2).1],by simp[g3],λj m s' hjm=>?_⟩) (.d _ _ (.val _));rw[Kf]at hjm
      by_cases eij:i=j
      ·subst eij;rw[if_pos rfl]at hjm
       split at hjm
       ·cases hjm
        exact⟨{ e with key:=.int .i64 n,val:=a.eval z },by rw[Qi,if_pos rfl,he];rfl,rfl,hz.stp hs⟩
       ·cases hjm
      ·rw[if_neg eij]at hjm;obtain⟨e2,q1,q2,q3⟩:=g4 j m s' hjm;exact⟨e2,by rw[Qi,if_neg eij,q1],q2,q3.stp hs⟩
    ·refine⟨_,_,h3,λo ho Keep M ρ a w hlm hm _ _ hgs=>?_⟩;have hmem:=zA (hlm c _ hlk);obtain⟨r,ents,clock,g1,g2,g3,g4⟩:=hm.rel c _ hmem;obtain⟨v0,hρ,hx⟩:∃v0,ρ c=some v0/\a.eval x=v0:=⟨_,(Gs.head hgs).own_inv.1,rfl⟩;rw[g1]at hρ;cases hρ
     have hy:a.eval y=.int .i64 n:=(Gs.head (Gs.tail hgs)).val_inv;have hz:=uH hf (Gs.head (Gs.tail (Gs.tail hgs)))
     have hmiss:=zaE (n:=n) 0 (ents:=ents.toList) (λj e' he'=>by
      have he':ents[j]? =some e':=by simpa using he'
      have hjl:j < es.length:=by have:=(X1.1 he').1;omega
      obtain⟨⟨m,s'⟩,hms⟩:∃p,es[j]? =some p:=⟨_,Xb hjl⟩;obtain⟨e2,q1,q2,_⟩:=g4 j m s' hms;rw[q1]at he';cases he'
      exact⟨m,q2,h1 j m s' hms⟩)
     refine qH.skip (w':={ w with heap:=w.heap.setIfInBounds r (.map (ents.push { key:=.int .i64 n,val:=a.eval z,born:=clock }) (clock+1)) }) ?_ ?_
     ·simp[execOp,ho,hx,hy,Instr.mapUpdate,run_underlying hk,run_underlying hkk,MapKept.run_getObj_map g2,uu hkk,Instr.findKey,hmiss,MapKept.run_setObj_map _ g2]
     ·refine k8.set (hm.writeMap _ hmem g1 g2 _ _ λhs=>⟨r,ents.push { key:=.int .i64 n,val:=a.eval z,born:=clock },clock+1,g1,by rw[Ku];simp[(X1.1 g2).1],by simp[g3],λj m s' hjm=>?_⟩) (.d _ _ (.val _))
      by_cases hj:j < es.length
      ·rw[XF hj]at hjm;obtain⟨e2,q1,q2,q3⟩:=g4 j m s' hjm;exact⟨e2,by rw[QY,if_neg oM,q1],q2,q3.stp hs⟩
      ·rw[XA oM]at hjm
       have hj0:j=es.length:=by
        have:=(Xc.1 hjm).1;simp at this;omega
       subst hj0;simp at hjm;obtain⟨rfl,rfl⟩:=hjm;exact⟨_,by rw[QY,if_pos g3.symm],rfl,hz.stp hs⟩
   ·exact h.elim
  ·exact h.elim
 ·exact h.elim
theorem znf(hT:TOK P Γ) {t:TypeId}{y:Operand}{k s:SV}
  (h:vN Γ t m k s lm K):∃r md,K r md/\yK P (.insert t x y z) [m,k,s] lm κ r md:=by
 unfold vN at h;replace h:=zt h;obtain⟨i,hi,h⟩:=h;have hk:=(hT t i hi).kind
 split at h
 ·rename_i kt et hkind;rw[hkind]at hk;have hk:P.underlying t=some (.map kt et):=hk;replace h:=zt h;obtain⟨j,hj,h⟩:=h;have hkk:=(hT kt j hj).kind
  split at h
  ·rename_i c n hjk;rw[hjk]at hkk;have hkk:P.underlying kt=some (.int .i64):=hkk
   split at h
   ·rename_i es hlk;replace h:=zi h;obtain⟨hf,h⟩:=h
    rcases zg9 h with⟨i,s0,h1,h2,h3⟩ | ⟨h1,h3⟩
    ·refine⟨_,_,h3,λo ho Keep M ρ a w hlm hm _ _ hgs=>?_⟩;have hmem:=zA (hlm c _ hlk);obtain⟨r,ents,clock,g1,g2,g3,g4⟩:=hm.rel c _ hmem;obtain⟨v0,hρ,hx⟩:∃v0,ρ c=some v0/\a.eval x=v0:=⟨_,(Gs.head hgs).own_inv.1,rfl⟩;rw[g1]at hρ;cases hρ
     have hy:a.eval y=.int .i64 n:=(Gs.head (Gs.tail hgs)).val_inv;have hz:=uH hf (Gs.head (Gs.tail (Gs.tail hgs)));obtain⟨e,he,hek,hd⟩:=g4 i n s0 h1
     have hhit:=zbv (n:=n) 0 (ents:=ents.toList) (i:=i) (e:=e) (by simpa using he) hek (λj e' hj he'=>by
      have hjl:j < es.length:=by have:=(Xc.1 h1).1;omega
      obtain⟨⟨m,s'⟩,hms⟩:∃p,es[j]? =some p:=⟨_,Xb hjl⟩;obtain⟨e2,q1,q2,_⟩:=g4 j m s' hms;have he':ents[j]? =some e':=by simpa using he'
      rw[q1]at he';cases he'
      exact⟨m,q2,h2 j m s' hj hms⟩)
     rw[X6]at hhit;refine qH.skip (w':={ w with heap:=w.heap.setIfInBounds r (.map (ents.modify i λe=>{ e with key:=.int .i64 n,val:=a.eval z }) clock) }) ?_ ?_
     ·simp[execOp,ho,hx,hy,Instr.mapUpdate,run_underlying hk,run_underlying hkk,MapKept.run_getObj_map g2,uu hkk,Instr.findKey,hhit,Instr.keyThatStays,he,hek,zfU,MapKept.run_setObj_map _ g2]
     ·refine k8.set (hm.writeMap _ hmem g1 g2 _ _ λhs=>⟨r,ents.modify i λe=>{ e with key:=.int .i64 n,val:=a.eval z },clock,g1,by rw[Ku];simp[(X1.1 g2).1],by simp[g3],λj m s' hjm=>?_⟩) (.d _ _ (.val _));rw[Kf]at hjm
      by_cases eij:i=j
      ·subst eij;rw[if_pos rfl]at hjm
       split at hjm
       ·cases hjm
        exact⟨{ e with key:=.int .i64 n,val:=a.eval z },by rw[Qi,if_pos rfl,he];rfl,rfl,hz.stp hs⟩
       ·cases hjm
      ·rw[if_neg eij]at hjm;obtain⟨e2,q1,q2,q3⟩:=g4 j m s' hjm;exact⟨e2,by rw[Qi,if_neg eij,q1],q2,q3.stp hs⟩
    ·refine⟨_,_,h3,λo ho Keep M ρ a w hlm hm _ _ hgs=>?_⟩;have hmem:=zA (hlm c _ hlk);obtain⟨r,ents,clock,g1,g2,g3,g4⟩:=hm.rel c _ hmem;obtain⟨v0,hρ,hx⟩:∃v0,ρ c=some v0/\a.eval x=v0:=⟨_,(Gs.head hgs).own_inv.1,rfl⟩;rw[g1]at hρ;cases hρ
     have hy:a.eval y=.int .i64 n:=(Gs.head (Gs.tail hgs)).val_inv;have hz:=uH hf (Gs.head (Gs.tail (Gs.tail hgs)))
     have hmiss:=zaE (n:=n) 0 (ents:=ents.toList) (λj e' he'=>by
      have he':ents[j]? =some e':=by simpa using he'
      have hjl:j < es.length:=by have:=(X1.1 he').1;omega
      obtain⟨⟨m,s'⟩,hms⟩:∃p,es[j]? =some p:=⟨_,Xb hjl⟩;obtain⟨e2,q1,q2,_⟩:=g4 j m s' hms;rw[q1]at he';cases he'
      exact⟨m,q2,h1 j m s' hms⟩)
     refine qH.skip (w':={ w with heap:=w.heap.setIfInBounds r (.map (ents.push { key:=.int .i64 n,val:=a.eval z,born:=clock }) (clock+1)) }) ?_ ?_
     ·simp[execOp,ho,hx,hy,Instr.mapUpdate,run_underlying hk,run_underlying hkk,MapKept.run_getObj_map g2,uu hkk,Instr.findKey,hmiss,MapKept.run_setObj_map _ g2]
     ·refine k8.set (hm.writeMap _ hmem g1 g2 _ _ λhs=>⟨r,ents.push { key:=.int .i64 n,val:=a.eval z,born:=clock },clock+1,g1,by rw[Ku];simp[(X1.1 g2).1],by simp[g3],λj m s' hjm=>?_⟩) (.d _ _ (.val _))
      by_cases hj:j < es.length
      ·rw[XF hj]at hjm;obtain⟨e2,q1,q2,q3⟩:=g4 j m s' hjm;exact⟨e2,by rw[QY,if_neg oM,q1],q2,q3.stp hs⟩
      ·rw[XA oM]at hjm
       have hj0:j=es.length:=by
        have:=(Xc.1 hjm).1;simp at this;omega
       subst hj0;simp at hjm;obtain⟨rfl,rfl⟩:=hjm;exact⟨_,by rw[QY,if_pos g3.symm],rfl,hz.stp hs⟩
   ·exact h.elim
  ·exact h.elim
 ·exact h.elim
theorem zng(hT:TOK P Γ) {t:TypeId}{y:Operand}{ok:Bool}{k:SV}
  (h:zm4 Γ t ok m k lm K):∃r,K r .none/\yK P (.lookup t x y ok) [m,k] lm κ r .none:=by
 unfold zm4 at h;replace h:=zt h;obtain⟨i,hi,h⟩:=h;have hk:=(hT t i hi).kind
 split at h
 ·rename_i kt et hkind;rw[hkind]at hk;have hk:P.underlying t=some (.map kt et):=hk;replace h:=zt h;obtain⟨j,hj,h⟩:=h;replace h:=zt h;obtain⟨z,hz,h⟩:=h;have hkk:=(hT kt j hj).kind
  split at h
  ·rename_i c n hjk;rw[hjk]at hkk;have hkk:P.underlying kt=some (.int .i64):=hkk
   split at h
   ·rename_i es hlk
    have lookE:∀{s:SV} {b:Bool},zc1 ok s b K->∃r,K r .none/\∀{S Pm:Nat->Prop} {ρ:zk} {w:World} {v:Value},G S Pm ρ w s v->G S Pm ρ w r (if ok then .tuple #[v,.bool b] else v):=λ{s b} h=>by
     unfold zc1 at h
     split at h
     ·exact⟨_,h,λhg=>.tup [s,.val (.bool b)] [_,.bool b] rfl (Gs.cons hg (.cons (.d _ _ (.val _)) .nil)).2⟩
     ·exact⟨_,qJ h,λhg=>hg⟩
    rcases zji h with⟨i,s0,h1,h2,h3⟩ | ⟨h1,h3⟩
    ·obtain⟨res,hK,hres⟩:=lookE h3;refine⟨res,hK,λo ho Keep M ρ a w hlm hm _ _ hgs=>?_⟩;have hmem:=zA (hlm c _ hlk);obtain⟨r,ents,clock,g1,g2,g3,g4⟩:=hm.rel c _ hmem;obtain⟨v0,hρ,hx⟩:∃v0,ρ c=some v0/\a.eval x=v0:=⟨_,(Gs.head hgs).own_inv.1,rfl⟩;rw[g1]at hρ;cases hρ
     have hy:a.eval y=.int .i64 n:=(Gs.head (Gs.tail hgs)).val_inv;obtain⟨e,he,hek,hd⟩:=g4 i n s0 h1
     have hhit:=zbv (n:=n) 0 (ents:=ents.toList) (i:=i) (e:=e) (by simpa using he) hek (λj e' hj he'=>by
      have hjl:j < es.length:=by have:=(Xc.1 h1).1;omega
      obtain⟨⟨m,s'⟩,hms⟩:∃p,es[j]? =some p:=⟨_,Xb hjl⟩;obtain⟨e2,q1,q2,_⟩:=g4 j m s' hms;have he':ents[j]? =some e':=by simpa using he'
      rw[q1]at he';cases he'
      exact⟨m,q2,h2 j m s' hj hms⟩)
     rw[X6]at hhit;refine qH.value (v:=if ok then .tuple #[e.val,.bool true] else e.val) ?_ (k8.same hm (hres (.d _ _ hd)));simp[execOp,ho,hx,hy,Instr.lookup,run_underlying hk,run_underlying hkk,MapKept.run_getObj_map g2,uu hkk,Instr.findKey,hhit]
    ·obtain⟨s,h3,hs⟩:=uN h3;obtain⟨res,hK,hres⟩:=lookE h3;refine⟨res,hK,λo ho Keep M ρ a w hlm hm _ _ hgs=>?_⟩;have hmem:=zA (hlm c _ hlk);obtain⟨r,ents,clock,g1,g2,g3,g4⟩:=hm.rel c _ hmem;obtain⟨v0,hρ,hx⟩:∃v0,ρ c=some v0/\a.eval x=v0:=⟨_,(Gs.head hgs).own_inv.1,rfl⟩;rw[g1]at hρ;cases hρ
     have hy:a.eval y=.int .i64 n:=(Gs.head (Gs.tail hgs)).val_inv
     have hmiss:=zaE (n:=n) 0 (ents:=ents.toList) (λj e' he'=>by
      have he':ents[j]? =some e':=by simpa using he'
      have hjl:j < es.length:=by have:=(X1.1 he').1;omega
      obtain⟨⟨m,s'⟩,hms⟩:∃p,es[j]? =some p:=⟨_,Xb hjl⟩;obtain⟨e2,q1,q2,_⟩:=g4 j m s' hms;rw[q1]at he';cases he'
      exact⟨m,q2,h1 j m s' hms⟩)
     obtain⟨f,q1,q2,q3,zv,q4,q5,q6,q7,q8⟩:=(hT et z hz).inf;refine qH.value (v:=if ok then .tuple #[zv,.bool false] else zv) ?_ (k8.same hm (hres ?_))
     ·simp[execOp,ho,hx,hy,Instr.lookup,run_underlying hk,run_underlying hkk,MapKept.run_getObj_map g2,uu hkk,Instr.findKey,hmiss,zeroValue,typeInfo,q1,q4]
     ·rcases hs with⟨ha,rfl⟩ | ⟨ha,l,hl⟩
      ·obtain⟨f',p1,p2⟩:=(hT et z hz).zagg ha;rw[q1]at p1;cases p1
       rw[q4]at p2;cases p2
       have:((vals z.zero).take z.sz)=vals z.zero:=Xf (by simp[vals,q7]);rw[this];exact .agg _ z.zero (by simp[vals]) (Gs.vals _).2
      ·have hz1:=q6 ha;have:z.zero=[zv]:=by rw[← q5,hz1]
       rw[this]at hl
       cases hl
       exact .d _ _ (.val _)
   ·exact h.elim
  ·exact h.elim
 ·exact h.elim
theorem zrn{o:Oper} {c:Call} {r:Operand} {name:String} (ho:o.op=.call c) (hc:c.callee=.invoke r name) {a:Act}{f:FuncId} {t:TypeId} {v:Value}
  (hr:a.eval r=.iface t v) (hm:zm7 P t name f=true) (hcall:zbP P f):(execOp a.eval o).run P w=.ok (.enter f (List.toArray (v::c.args.toList.map a.eval))) w:=by
 obtain⟨fn,h1,h2,h3⟩:=hcall;unfold zm7 at hm;simp only[Xx]at hm;obtain⟨hu,hm⟩:=hm
 split at hu
 ·rename_i F hF
  split at hm
  ·rename_i i hi
   split at hm
   ·rename_i m hfind;simp only[Xx]at hm;obtain⟨hp,hm⟩:=hm
    split at hm
    ·rename_i g p hfunc;simp only[Xx,Jf]at hm;obtain⟨hg,rfl⟩:=hm;have hg:=Xg hg;subst hg;have hpath:m.path.toList=[]:=by simpa using hp
     simp only[execOp,ho,resolve,hc,hr,invoke,Sem.run_bind,Sem.run_pure,Result.andThen_ok]
     have harg:(#[Value.iface t v]++c.args.map a.eval)[0]? =some (.iface t v):=by
      rw[JH (by simp)];rfl
     have hext:(#[Value.iface t v]++c.args.map a.eval).extract 1 (#[Value.iface t v]++c.args.map a.eval).size=c.args.map a.eval:=by
      apply QA;rw[Array.toList_extract];simp;exact Xf (by simp)
     simp only[harg,hext,callMethod,Sem.run_bind,run_program,Result.andThen_ok]
     have hmeth:(method (P.types.size+Made.depth) t v name).run P w=.ok (g,v) w:=by
      rw[show P.types.size+Made.depth=(P.types.size+99)+1 from rfl,method];simp[typeInfo,hi,hfind,hpath,follow,hfunc,receiverAt,run_underlying hF,Place.get]
     rw[hmeth];simp only[Result.andThen_ok,callFunc,Sem.run_bind,run_program,h1,h2,h3,KA,if_false];simp
    ·cases hm
   ·cases hm
  ·cases hm
 ·cases hu
theorem zlj(hT:TOK P Γ) {t:TypeId}{s:SV}
  (h:zi6 Γ t s K):∃r,K r .none/\yK P (.makeInterface t x) [s] lm κ r .none:=by
 unfold zi6 at h;replace h:=zt h;obtain⟨i,hi,h⟩:=h;have hk:=(hT t i hi).kind
 have key:∀d,P.underlying t=some d->(∀ms,d≠.interface ms)->∀(o:Oper) (a:Act) (w:World),o.op=.makeInterface t x->(execOp a.eval o).run P w=.ok (.value (.iface t (a.eval x))) w:=λd hd hn o a w ho=>by
  cases d <;> first | exact absurd rfl (hn _) | simp[execOp,ho,Instr.makeInterface,run_underlying hd]
 have fin:(∃d,P.underlying t=some d/\∀ms,d≠.interface ms)->K (.ifc t s) .none->∃r,K r .none/\yK P (.makeInterface t x) [s] lm κ r .none:=λ⟨d,hd,hn⟩ h=>
  ⟨_,h,.pure λo ho S Pm ρ a w hgs=>⟨_,key d hd hn o a w ho,.ifc t s _ (Gs.head hgs)⟩⟩
 cases hkk:i.kind <;> rw[hkk]at hk h <;> simp only[zfg]at hk
 case struct fs=>obtain⟨F,hF,_⟩:=hk;exact fin ⟨_,hF,λms e=>by cases e⟩ h
 case iface=>exact h.elim
 case other=>exact h.elim
 all_goals exact fin ⟨_,hk,λms e=>by cases e⟩ h
theorem zoX{t t':TypeId}{ok:Bool}{s':SV}{Z:Prop}:zm5 t ok (.ifc t' s') Z K=(if Nat.beq t' t=true then zc1 ok s' true K else if ok=true then Z else False):=by
 show(match Nat.beq t' t with
  | true=>zc1 ok s' true K
  |false=>(match ok with
   | true=>Z
   | false=>False))=_
 cases Nat.beq t' t <;> cases ok <;> simp
theorem znh(hT:TOK P Γ) {t xt:TypeId}{ok:Bool} {s:SV}
  (h:zm6 Γ t ok s K):∃r,K r .none/\yK P (.typeAssert x xt t ok) [s] lm κ r .none:=by
 unfold zm6 at h;replace h:=zt h;obtain⟨i,hi,h⟩:=h;have hk:=(hT t i hi).kind
 have lookE:∀{ok:Bool} {s:SV} {b:Bool},zc1 ok s b K->∃r,K r .none/\∀{S Pm:Nat->Prop} {ρ:zk} {w:World} {v:Value},G S Pm ρ w s v->G S Pm ρ w r (if ok then .tuple #[v,.bool b] else v):=λ{ok s b} h=>by
  unfold zc1 at h
  split at h
  ·exact⟨_,h,λhg=>.tup [s,.val (.bool b)] [_,.bool b] rfl (Gs.cons hg (.cons (.d _ _ (.val _)) .nil)).2⟩
  ·exact⟨_,qJ h,λhg=>hg⟩
 obtain⟨f,q1,q2,q3,zv,q4,q5,q6,q7,q8⟩:=(hT t i hi).inf;have hzero:∀w:World,(zeroValue t).run P w=.ok zv w:=λw=>by simp[zeroValue,typeInfo,q1,q4]
 have zeroE:(mkV i.kind.agg i.sz (vals i.zero) λs=>zc1 true s false K)->∃r,K r .none/\∀{S Pm:Nat->Prop} {ρ:zk} {w:World},G S Pm ρ w r (.tuple #[zv,.bool false]):=λh=>by
  obtain⟨s,h,hs⟩:=uN h;obtain⟨r,hK,hr⟩:=lookE h;refine⟨r,hK,λ{S Pm ρ w}=>?_⟩;have:=hr (S:=S) (Pm:=Pm) (ρ:=ρ) (w:=w) (v:=zv) ?_
  ·simpa using this
  ·rcases hs with⟨ha,rfl⟩ | ⟨ha,l,hl⟩
   ·obtain⟨f',p1,p2⟩:=(hT t i hi).zagg ha;rw[q1]at p1;cases p1
    rw[q4]at p2;cases p2
    have:((vals i.zero).take i.sz)=vals i.zero:=Xf (by simp[vals,q7]);rw[this];exact .agg _ i.zero (by simp[vals]) (Gs.vals _).2
   ·have hz1:=q6 ha;have:i.zero=[zv]:=by rw[← q5,hz1]
    rw[this]at hl
    cases hl
    exact .d _ _ (.val _)
 have body:(∃d,P.underlying t=some d/\∀ms,d≠.interface ms)->zm5 t ok s (mkV i.kind.agg i.sz (vals i.zero) λs=>zc1 true s false K) K->∃r,K r .none/\yK P (.typeAssert x xt t ok) [s] lm κ r .none:=λ⟨d,hd,hn⟩ h'=>by
  cases s with
  | ifc t' s'=>
   rw[zoX]at h'
   by_cases hb:Nat.beq t' t=true
   ·rw[if_pos hb]at h';have e:=Xg hb;subst e;obtain⟨r,hK,hr⟩:=lookE h';refine⟨r,hK,.pure λo ho S Pm ρ a w hgs=>?_⟩;obtain⟨v,hx,hv⟩:=(Gs.head hgs).ifc_inv;refine⟨_,?_,hr hv⟩
    cases d <;> first | exact absurd rfl (hn _) | (cases ok <;> simp[execOp,ho,hx,Instr.typeAssert,run_underlying hd])
   ·rw[if_neg hb]at h';have hne:¬t'=t:=λe=>hb (by subst e;exact KU _)
    cases ok with
    | true=>
     rw[if_pos rfl]at h';obtain⟨r,hK,hr⟩:=zeroE h';refine⟨r,hK,.pure λo ho S Pm ρ a w hgs=>?_⟩;obtain⟨v,hx,hv⟩:=(Gs.head hgs).ifc_inv;refine⟨_,?_,hr⟩
     cases d <;> first | exact absurd rfl (hn _) | simp[execOp,ho,hx,Instr.typeAssert,run_underlying hd,hne,hzero]
    | false=>rw[if_neg dC]at h';exact h'.elim
  | val u=>
   cases u with
   | nilIface=>
    cases ok with
    | true=>
     obtain⟨r,hK,hr⟩:=zeroE h';refine⟨r,hK,.pure λo ho S Pm ρ a w hgs=>?_⟩;have hx:=(Gs.head hgs).val_inv;refine⟨_,?_,hr⟩
     cases d <;> first | exact absurd rfl (hn _) | simp[execOp,ho,hx,Instr.typeAssert,run_underlying hd,hzero]
    | false=>exact h'.elim
   | _=>exact h'.elim
  | _=>exact h'.elim
 cases hkk:i.kind <;> rw[hkk]at hk <;> simp only[zfg]at hk
 case struct fs=>obtain⟨F,hF,_⟩:=hk;rw[hkk]at h;exact body ⟨_,hF,λms e=>by cases e⟩ (by rw[hkk];exact h)
 case iface=>rw[hkk]at h;exact h.elim
 case other=>rw[hkk]at h;exact h.elim
 all_goals (rw[hkk]at h;exact body ⟨_,hk,λms e=>by cases e⟩ (by rw[hkk];exact h))
theorem j8.named{S Pm:Nat->Prop}{k:Nat}{m:Mem}(h:j8 S Pm ρ w k m):∃v,ρ k=some v:=by
 cases m with
 | box T cs=>obtain⟨b,vs,h1,_⟩:=h;exact⟨_,h1⟩
 | arr T enc sz xs=>obtain⟨v,cells,h1,_⟩:=h;exact⟨_,h1⟩
 | garr T sz xs=>obtain⟨v,cells,h1,_⟩:=h;exact⟨_,h1⟩
 | map es=>obtain⟨r,ents,clock,h1,_⟩:=h;exact⟨_,h1⟩
end
section
variable {S S' Pm Pm':Nat->Prop} {ρ ρ':zk} {w:World} {ks:List Nat} {κ n:Nat}
theorem zjj(hP:∀b,Pm' b->Pm b)(hρ:∀k v,k < n->ρ (rn ks κ k)=some v->ρ' k=some v):∀(s:SV) {v:Value},vM n s=true->G S Pm ρ w (zaD ks κ s) v->G S Pm' ρ' w s v:=by
 intro s
 induction s using SV.rec (motive_2:=λcs=>∀{vs:List Value},vM.lows n cs=true->Gs S Pm ρ w (zaD.rens ks κ cs) vs->Gs S Pm' ρ' w cs vs) with
 | val v=>intro u _ hg;exact .d _ _ (hg.val_inv ▸ .val _)
 | pr p i=>intro u _ hg;rw[hg.pr_inv];exact .d _ _ (.pr p i)
 | sl enc xs=>intro u _ hg;exact .d _ _ hg.sl_inv
 | nils=>intro u _ hg;obtain⟨a,rfl⟩:=hg.nils_inv;exact .d _ _ (.nils a)
 | anyb=>intro u _ hg;obtain⟨b,rfl⟩:=hg.anyb_inv;exact .d _ _ (.anyb b)
 | full enc xs=>intro u _ hg;obtain⟨a,rfl,hd⟩:=hg.full_inv;exact .d _ _ (.full enc xs a hd)
 | dptr cs _=>intro u _ hg;cases hg with | d _ _ h=>exact .d _ _ h
 | dfn f cs _=>intro u _ hg;cases hg with | d _ _ h=>exact .d _ _ h
 | bm f cs _=>intro u _ hg;cases hg with | d _ _ h=>exact .d _ _ h
 | op v=>intro u _ hg;cases hg with | d _ _ h=>exact .d _ _ h
 | junk=>intro u _ _;exact .d _ _ (.junk u)
 | ptr cs _=>
  intro u _ hg
  cases hg with
  | d _ _ h=>cases h
  | ptr _ b o c hb hPb hc h=>exact .ptr _ b o c hb (λhp=>hPb (hP b hp)) hc h
 | agg cs ih=>
  intro u h hg;obtain⟨vs,rfl,hvs⟩:=hg.agg_inv;have:=ih h hvs;exact .agg _ vs this.1 this.2
 | tup cs ih=>
  intro u h hg;obtain⟨vs,rfl,hvs⟩:=hg.tup_inv;have:=ih h hvs;exact .tup _ vs this.1 this.2
 | fn f cs ih=>
  intro u h hg;obtain⟨vs,rfl,hvs⟩:=hg.fn_inv;have:=ih h hvs;exact .fn _ _ vs this.1 this.2
 | ifc t s ih=>
  intro u h hg;obtain⟨v,rfl,hv⟩:=hg.ifc_inv;exact .ifc t _ v (ih h hv)
 | loc k off=>
  intro u h hg;obtain⟨b,g1,rfl⟩:=hg.loc_inv;exact .loc _ _ _ (hρ k _ (by simpa[vM] using h) g1)
 | own k=>
  intro u h hg;obtain⟨g1,g2⟩:=hg.own_inv;exact .own _ _ (hρ k _ (by simpa[vM] using h) g1) g2
 | eloc k sz i off=>
  intro u h hg;obtain⟨b,len,cap,g1,rfl⟩:=hg.eloc_inv;exact .eloc _ _ _ _ b len cap (hρ k _ (by simpa[vM] using h) g1)
 | win k sz lo m=>
  intro u h hg;obtain⟨b,len,cap,cap',g1,rfl,g2,g3⟩:=hg.win_inv;exact .win _ _ _ _ b len cap cap' (hρ k _ (by simpa[vM] using h) g1) g2 g3
 | nil=>
  rename_i vs _ hg;rw[Gs.nil_inv hg];exact .nil
 | cons c cs ih1 ih2=>
  rename_i vs h hg;simp only[vM.lows]at h
  split at h
  ·rename_i h1;obtain⟨v,vs',rfl,g1,g2⟩:=hg.cons_inv;exact .cons (ih1 h1 g1) (ih2 h g2)
  ·cases h
theorem zro(hS:∀b,S b->S' b)(hρ:∀k v,k < n->ρ' k=some v->ρ (rn ks κ k)=some v):∀(s:SV) {v:Value},zco n s=true->G S' Pm' ρ' w s v->G S Pm ρ w (zaD ks κ s) v:=by
 intro s
 induction s using SV.rec (motive_2:=λcs=>∀{vs:List Value},zco.outs n cs=true->Gs S' Pm' ρ' w cs vs->Gs S Pm ρ w (zaD.rens ks κ cs) vs) with
 | val v=>intro u _ hg;exact .d _ _ (hg.val_inv ▸ .val _)
 | pr p i=>intro u _ hg;rw[hg.pr_inv];exact .d _ _ (.pr p i)
 | sl enc xs=>intro u _ hg;exact .d _ _ (hg.sl_inv.less hS)
 | nils=>intro u _ hg;obtain⟨a,rfl⟩:=hg.nils_inv;exact .d _ _ (.nils a)
 | anyb=>intro u _ hg;obtain⟨b,rfl⟩:=hg.anyb_inv;exact .d _ _ (.anyb b)
 | full enc xs=>intro u _ hg;obtain⟨a,rfl,hd⟩:=hg.full_inv;exact .d _ _ (.full enc xs a (hd.less hS))
 | dptr cs _=>intro u _ hg;cases hg with | d _ _ h=>exact .d _ _ (h.less hS)
 | dfn f cs _=>intro u _ hg;cases hg with | d _ _ h=>exact .d _ _ (h.less hS)
 | bm f cs _=>intro u _ hg;cases hg with | d _ _ h=>exact .d _ _ (h.less hS)
 | op v=>intro u _ hg;cases hg with | d _ _ h=>exact .d _ _ (h.less hS)
 | junk=>intro u _ _;exact .d _ _ (.junk u)
 | ptr cs _=>intro u h _;cases h
 | agg cs ih=>
  intro u h hg;obtain⟨vs,rfl,hvs⟩:=hg.agg_inv;have:=ih h hvs;exact .agg _ vs this.1 this.2
 | tup cs ih=>
  intro u h hg;obtain⟨vs,rfl,hvs⟩:=hg.tup_inv;have:=ih h hvs;exact .tup _ vs this.1 this.2
 | fn f cs ih=>
  intro u h hg;obtain⟨vs,rfl,hvs⟩:=hg.fn_inv;have:=ih h hvs;exact .fn _ _ vs this.1 this.2
 | ifc t s ih=>
  intro u h hg;obtain⟨v,rfl,hv⟩:=hg.ifc_inv;exact .ifc t _ v (ih h hv)
 | loc k off=>
  intro u h hg;obtain⟨b,g1,rfl⟩:=hg.loc_inv;exact .loc _ _ _ (hρ k _ (by simpa[zco] using h) g1)
 | own k=>
  intro u h hg;obtain⟨g1,g2⟩:=hg.own_inv;exact .own _ _ (hρ k _ (by simpa[zco] using h) g1) g2
 | eloc k sz i off=>
  intro u h hg;obtain⟨b,len,cap,g1,rfl⟩:=hg.eloc_inv;exact .eloc _ _ _ _ b len cap (hρ k _ (by simpa[zco] using h) g1)
 | win k sz lo m=>
  intro u h hg;obtain⟨b,len,cap,cap',g1,rfl,g2,g3⟩:=hg.win_inv;exact .win _ _ _ _ b len cap cap' (hρ k _ (by simpa[zco] using h) g1) g2 g3
 | nil=>
  rename_i vs _ hg;rw[Gs.nil_inv hg];exact .nil
 | cons c cs ih1 ih2=>
  rename_i vs h hg;simp only[zco.outs]at h
  split at h
  ·rename_i h1;obtain⟨v,vs',rfl,g1,g2⟩:=hg.cons_inv;exact .cons (ih1 h1 g1) (ih2 h g2)
  ·cases h
theorem zaJ:∀cs:List SV,(zaD.rens ks κ cs).length=cs.length
 | []=>rfl
 | c::cs=>by simp only[zaD.rens,Xl,zaJ cs]
theorem zaK:∀(cs:List SV) (j:Nat),(zaD.rens ks κ cs)[j]? =(cs[j]?).map (zaD ks κ)
 | [],j=>by simp[zaD.rens]
 | c::cs,0=>by simp[zaD.rens]
 | c::cs,j+1=>by simpa[zaD.rens] using zaK cs j
theorem zaZ:∀{cs:List SV},vM.lows n cs=true->∀(j:Nat) (s:SV),cs[j]? =some s->vM n s=true
 | [],_,j,s,h=>by simp at h
 | c::cs,hl,j,s,h=>by
  simp only[vM.lows]at hl
  split at hl
  ·rename_i h1
   cases j with
   | zero=>simp at h;subst h;exact h1
   | succ j=>exact zaZ hl j s (by simpa using h)
  ·cases hl
theorem zjk:∀{cs:List SV},zco.outs n cs=true->∀(j:Nat) (s:SV),cs[j]? =some s->zco n s=true
 | [],_,j,s,h=>by simp at h
 | c::cs,hl,j,s,h=>by
  simp only[zco.outs]at hl
  split at hl
  ·rename_i h1
   cases j with
   | zero=>simp at h;subst h;exact h1
   | succ j=>exact zjk hl j s (by simpa using h)
  ·cases hl
theorem zum(hP:∀b,Pm' b->Pm b)(hρ:∀k v,k < n->ρ (rn ks κ k)=some v->ρ' k=some v){j:Nat}(hj:j < n){m:Mem}(hl:lowM n m)(h:j8 S Pm ρ w (rn ks κ j) (zlf ks κ m)):j8 S Pm' ρ' w j m:=by
 cases m with
 | box T cs=>
  obtain⟨b,vs,h1,h2,h3,h4,h5⟩:=h;refine⟨b,vs,hρ j _ hj h1,h2,h3.trans (zaJ cs),h4,λi s v hs hv=>?_⟩;exact zjj hP hρ s (zaZ hl i s hs) (h5 i _ v (by rw[zaK,hs];rfl) hv)
 | arr T enc sz xs=>
  obtain⟨v,cells,h1,h2,h3,h4,h5,h6⟩:=h;exact⟨v,cells,hρ j _ hj h1,h2,h3,h4,h5,h6⟩
 | garr T sz xs=>
  obtain⟨v,cells,h1,h2,h3,h4,h5,h6⟩:=h;refine⟨v,cells,hρ j _ hj h1,by simpa using h2,by simpa using h3,h4,λx hx=>?_,λi q x s hx hs=>?_⟩
  ·have:=h5 _ (List.mem_map_of_mem hx)
   rwa [zaJ]at this
  ·obtain⟨u,hu,hg⟩:=h6 i q (zaD.rens ks κ x) (zaD ks κ s) (by rw[XC,hx];rfl) (by rw[zaK,hs];rfl);exact⟨u,hu,zjj hP hρ s (zaZ (hl x (Xd hx)) q s hs) hg⟩
 | map es=>
  obtain⟨r,ents,clock,h1,h2,h3,h4⟩:=h;exact⟨r,ents,clock,hρ j _ hj h1,h2,h3,h4⟩
theorem zzq(hS:∀b,S b->S' b)(hρ:∀k v,k < n->ρ' k=some v->ρ (rn ks κ k)=some v){j:Nat}(hj:j < n){m:Mem}(hl:outM n m)(h:j8 S' Pm' ρ' w j m):j8 S Pm ρ w (rn ks κ j) (zlf ks κ m):=by
 cases m with
 | box T cs=>
  obtain⟨b,vs,h1,h2,h3,h4,h5⟩:=h;refine⟨b,vs,hρ j _ hj h1,h2,h3.trans (zaJ cs).symm,h4,λi s v hs hv=>?_⟩;rw[zaK]at hs
  cases hc:cs[i]? with
  | none=>simp[hc]at hs
  | some c=>
   simp[hc]at hs;subst hs;exact zro hS hρ c (zjk hl i c hc) (h5 i c v hc hv)
 | arr T enc sz xs=>
  obtain⟨v,cells,h1,h2,h3,h4,h5,h6⟩:=h;refine⟨v,cells,hρ j _ hj h1,h2,h3,h4,h5,λi q x s hx hs=>?_⟩;obtain⟨u,hu,hd⟩:=h6 i q x s hx hs;exact⟨u,hu,hd.less hS⟩
 | garr T sz xs=>
  obtain⟨v,cells,h1,h2,h3,h4,h5,h6⟩:=h;refine⟨v,cells,hρ j _ hj h1,by simpa using h2,by simpa using h3,h4,λx hx=>?_,λi q x s hx hs=>?_⟩
  ·obtain⟨y,hy,rfl⟩:=XO.1 hx;rw[zaJ];exact h5 y hy
  ·rw[XC]at hx
   cases hy:xs[i]? with
   | none=>simp[hy]at hx
   | some y=>
    simp[hy]at hx;subst hx;rw[zaK]at hs
    cases hc:y[q]? with
    | none=>simp[hc]at hs
    | some c=>
     simp[hc]at hs;subst hs;obtain⟨u,hu,hg⟩:=h6 i q y c hy hc;exact⟨u,hu,zro hS hρ c (zjk (hl y (Xd hy)) q c hc) hg⟩
 | map es=>
  obtain⟨r,ents,clock,h1,h2,h3,h4⟩:=h;refine⟨r,ents,clock,hρ j _ hj h1,h2,h3,λi n s hi=>?_⟩;obtain⟨e,g1,g2,g3⟩:=h4 i n s hi;exact⟨e,g1,g2,g3.less hS⟩
end
section
theorem zdu{x:Nat×Mem}:∀{ks:List Nat} {M:List (Nat×Mem)},x∈uW M ks->x∈M
 | [],_,h=>h
 | k::_,M,h=>kD x (zdu (M:=qn M k) h)
theorem zbU:∀{ks:List Nat} {M:List (Nat×Mem)},M.Pairwise (λa b=>a.1≠b.1)->(uW M ks).Pairwise λa b=>a.1≠b.1
 | [],_,h=>h
 | k::ks,M,h=>zbU (ks:=ks) (M:=qn M k) (qE h)
theorem zjl{x:Nat×Mem}:∀{ks:List Nat} {M:List (Nat×Mem)},M.Pairwise (λa b=>a.1≠b.1)->x∈uW M ks->x.1∉ks
 | [],_,_,_=>by simp
 | k::r,M,hp,h=>by
  intro hk
  cases hk with
  | head=>exact yL hp x (zdu (M:=qn M x.1) h) rfl
  | tail _ hk=>exact zjl (qE hp) h hk
theorem zjm{k:Nat}:∀{l:List Nat},k∈l->zra k l=true
 | [],h=>(by cases h)
 | x::r,h=>by
  simp only[zra]
  split
  ·rfl
  ·rename_i hb
   cases h with
   | head=>simp[KU]at hb
   | tail _ h=>exact zjm h
theorem zfh:∀{l:List Nat},zde l=true->∀(i j k:Nat),l[i]? =some k->l[j]? =some k->i=j
 | [],_,i,j,k,h,_=>by simp at h
 | x::r,hn,i,j,k,hi,hj=>by
  simp only[zde]at hn
  split at hn
  ·cases hn
  ·rename_i hm
   have out:∀q:Nat,r[q]? ≠some x:=λq hq=>by
    have:=zjm (Xd hq);rw[this]at hm;cases hm
   match i,j with
   | 0,0=>rfl
   | 0,j+1=>simp at hi hj;subst hi;exact absurd hj (out j)
   | i+1,0=>simp at hi hj;subst hj;exact absurd hi (out i)
   | i+1,j+1=>rw[zfh hn i j k (by simpa using hi) (by simpa using hj)]
theorem zjn{n:Nat}:∀{l:List (Nat×Mem)},zoA n l=true->∀k m,(k,m)∈l->k < n
 | [],_,k,m,h=>(by cases h)
 | (q,y)::r,hb,k,m,h=>by
  simp only[zoA]at hb;obtain⟨h1,h2⟩:=ky hb
  cases h with
  | head=>simpa using h1
  | tail _ h=>exact zjn h2 k m h
theorem zoY{k:Nat}{m:Mem}:∀{l:List (Nat×Mem)},(k,m)∈l->memM k l=true
 | [],h=>(by cases h)
 | (q,y)::r,h=>by
  simp only[memM]
  split
  ·rfl
  ·rename_i hb
   cases h with
   | head=>simp[KU]at hb
   | tail _ h=>exact zoY h
theorem zhW:∀{l:List (Nat×Mem)},zi1 l=true->l.Pairwise λa b=>a.1≠b.1
 | [],_=>List.Pairwise.nil
 | (q,y)::r,h=>by
  simp only[zi1]at h
  split at h
  ·cases h
  ·rename_i hm;refine X4.2 ⟨λz hz e=>?_,zhW h⟩;obtain⟨k,m⟩:=z;have e:q=k:=e;subst e;rw[zoY hz]at hm;cases hm
theorem zjo:∀{n:Nat} {K:Nat->Prop},zA3 n K->K n
 | 0,_,h=>h
 | n+1,_,h=>zjo (n:=n) h
theorem zfV:∀{l:List SV} {K:List SV->Prop},zm1 l K->K l
 | [],_,h=>h
 | c::l,K,h=>zfV (l:=l) (K:=λr=>K (c::r)) (qJ (s:=c) (K:=λc=>zm1 l λr=>K (c::r)) h)
theorem zni{m:Mem}{K:Mem->Prop}(h:zm2 m K):K m:=by
 cases m with
 | box T cs=>exact zfV (K:=λcs=>K (.box T cs)) h
 | arr T enc sz xs=>exact h
 | garr T sz xs=>exact h
 | map es=>exact h
theorem zfW:∀{l:List (Nat×Mem)} {K:List (Nat×Mem)->Prop},ziA l K->K l
 | [],_,h=>h
 | (k,m)::l,K,h=>zfW (l:=l) (K:=λr=>K ((k,m)::r)) (zni (m:=m) (K:=λm=>ziA l λr=>K ((k,m)::r)) (zjo (n:=k) (K:=λk=>zm2 m λm=>ziA l λr=>K ((k,m)::r)) h))
theorem zbw{lm:Nat->Option Mem}{ks0:List Nat}{κ:Nat}{Mc:List (Nat×Mem)}:∀{ks:List Nat} {i:Nat},ziz lm ks0 κ Mc i ks->∀(q k:Nat),ks[q]? =some k->∃m,zX Mc (i+q)=some m/\lm k=some (zlf ks0 κ m)/\lowM ks0.length m
 | [],i,_,q,k,h=>by simp at h
 | x::r,i,hg,q,k,h=>by
  cases q with
  | zero=>simp at h;subst h;exact hg.1
  | succ q=>
   have:=zbw hg.2 q k (by simpa using h)
   rwa [show i+1+q=i+(q+1) by omega]at this
theorem jR{n:Nat}:∀{l:List (Nat×Mem)},zmY n l->∀j m,(j,m)∈l->j < n/\outM n m
 | [],_,j,m,h=>(by cases h)
 | (q,y)::r,hl,j,m,h=>by
  cases h with
  | head=>exact⟨by simpa using hl.1.1,hl.1.2⟩
  | tail _ h=>exact jR hl.2 j m h
theorem uv{ks:List Nat}{κ:Nat}:∀{l:List (Nat×Mem)} {k:Nat} {m:Mem},(k,m)∈zbq ks κ l->∃j m0,(j,m0)∈l/\k=rn ks κ j/\m=zlf ks κ m0
 | [],_,_,h=>(by cases h)
 | (q,y)::r,k,m,h=>by
  cases h with
  | head=>exact⟨q,y,.head _,rfl,rfl⟩
  | tail _ h=>
   obtain⟨j,m0,h1,h2⟩:=uv h;exact⟨j,m0,.tail _ h1,h2⟩
theorem zlI{ks:List Nat}{κ:Nat}:∀{l:List (Nat×Mem)} {j:Nat} {m:Mem},(j,m)∈l->(rn ks κ j,zlf ks κ m)∈zbq ks κ l
 | (q,y)::r,j,m,h=>by
  cases h with
  | head=>exact .head _
  | tail _ h=>exact .tail _ (zlI h)
variable{ks:List Nat}{κ:Nat}{j:Nat}
theorem zfX{k:Nat}(h:ks[j]? =some k):rn ks κ j=k:=by unfold rn;rw[h]
theorem zfi(h:ks.length<=j):rn ks κ j=κ+(j - ks.length):=by unfold rn;rw[XD h]
variable{P:Program}{f:FuncId}{za:List SV}{lm:Nat->Option Mem}{ρ:zk}{w:World}{vs:List Value}
theorem zrp{nn:Nat}{args':List SV} {Mc M':List (Nat×Mem)} {r:SV} (hcall:qI P f args' Mc r M')
  (ha:LEs za (zaD.rens ks κ args')) (hl:vM.lows ks.length args'=true) (hn:zde ks=true) (hk:uD (Nat.beq Mc.length ks.length) (uD (zoA ks.length Mc) (zi1 Mc))=true) (hM:ziz lm ks κ Mc 0 ks)
  (hr:zco (ks.length+nn) r=true) (hM':zmY (ks.length+nn) M') {Keep:Nat->Prop} {M:List (Nat×Mem)}(hlm:∀k m,lm k=some m->zX M k=some m) (hm:zO Keep M ρ w)
  (hκ:∀k,κ<=k->k < κ+nn->ρ k=none)(hg:Gs (λb=>Keep b∨Own M ρ b) (Own M ρ) ρ w za vs):
  Calls P f vs.toArray w λe w'=>∃v,e=.returned v/\k8 Keep M ρ w κ (zaD ks κ r) (.give ks (zbq ks κ M') nn) v w':=by
 obtain⟨hlen,hk⟩:=ky hk;obtain⟨hkb,hkd⟩:=ky hk;have hkd:=zhW hkd;have hlen:=Xg hlen;obtain⟨n,hnl⟩:∃n,n=ks.length:=⟨_,rfl⟩;rw[← hnl]at hlen hkb hl hr hM'
 -- the callee's names
 obtain⟨ρc,hρc⟩:∃ρc:zk,∀j,ρc j=(match ks[j]? with | some k=>ρ k | none=>none):=⟨_,λ_=>rfl⟩
 have given:∀j m,(j,m)∈Mc->∃k,ks[j]? =some k/\zX Mc j=some m/\lm k=some (zlf ks κ m)/\lowM n m:=λj m hj=>by
  have hjn:=zjn hkb j m hj;have hkj:=Xb (show j < ks.length by omega);obtain⟨m',h1,h2,h3⟩:=zbw hM j _ hkj;rw[X6]at h1
  have:m'=m:=by
   have h4:=zA h1
   by_cases e:(j,m')=(j,m)
   ·simpa using e
   ·exfalso
    have:=hkd;obtain⟨a,ha'⟩:=Js h4;obtain⟨b,hb'⟩:=Js hj;have hne:a≠b:=λe'=>by subst e';rw[ha']at hb';cases hb';exact e rfl
    rw[List.pairwise_iff_getElem]at this;obtain⟨al,ae⟩:=Xc.1 ha';obtain⟨bl,be⟩:=Xc.1 hb'
    rcases Nat.lt_or_gt_of_ne hne with h | h
    ·have:=this a b al bl h;rw[ae,be]at this;exact this rfl
    ·have:=this b a bl al h;rw[ae,be]at this;exact this rfl
  subst this;exact⟨_,hkj,h1,h2,by rw[hnl];exact h3⟩
 have hdown:∀k v,k < n->ρ (rn ks κ k)=some v->ρc k=some v:=λk v hkn hv=>by
  have hkj:=Xb (show k < ks.length by omega);rw[zfX hkj]at hv;rw[hρc,hkj];exact hv
 have ownc:∀b,Own Mc ρc b->∃j k m v,(j,m)∈Mc/\ks[j]? =some k/\(k,zlf ks κ m)∈M/\ρ k=some v/\qz v=some b:=by
  rintro b ⟨j,m,v,h1,h2,h3⟩
  obtain⟨k,hkj,_,hlk,_⟩:=given j m h1;rw[hρc,hkj]at h2;exact⟨j,k,m,v,h1,hkj,zA (hlm k _ hlk),h2,h3⟩
 have ownsub:∀b,Own Mc ρc b->Own M ρ b:=λb hb=>by
  obtain⟨j,k,m,v,_,_,h1,h2,h3⟩:=ownc b hb;exact⟨k,_,v,h1,h2,h3⟩
 obtain⟨R,hR⟩:∃R,R=uW M ks:=⟨_,rfl⟩;have memR:∀x,x∈R->x∈M/\x.1∉ks:=λx hx=>by subst hR;exact⟨zdu hx,zjl hm.keys hx⟩
 obtain⟨Kp,hKp⟩:∃Kp:Nat->Prop,∀b,Kp b↔(Keep b∨Own R ρ b):=⟨_,λ_=>K7⟩;have ownR:∀b,Own R ρ b->Own M ρ b:=λb ⟨k,m,v,h1,h2,h3⟩=>⟨k,m,v,(memR _ h1).1,h2,h3⟩
 have split:∀b,Keep b∨Own M ρ b->Kp b∨Own Mc ρc b:=by
  rintro b (hb | ⟨k,m,v,h1,h2,h3⟩)
  ·exact .inl ((hKp b).2 (.inl hb))
  ·by_cases hks:k∈ks
   ·obtain⟨j,hj⟩:=Js hks;obtain⟨m',g1,g2,_⟩:=zbw hM j k hj;rw[X6]at g1;exact .inr ⟨j,m',v,zA g1,by rw[hρc,hj];exact h2,h3⟩
   ·refine .inl ((hKp b).2 (.inr ⟨k,m,v,?_,h2,h3⟩));subst hR
    have hin:∀{ks:List Nat} {M:List (Nat×Mem)},(k,m)∈M->k∉ks->(k,m)∈uW M ks:=by
     intro ks
     induction ks with
     | nil=>intro M h _;exact h
     | cons q r ih=>
      intro M h hq;refine ih (M:=qn M q) ?_ (λe=>hq (.tail _ e));have hne:k≠q:=λe=>hq (e ▸ .head _)
      clear ih hq
      induction M with
      | nil=>cases h
      | cons x xs ihx=>
       obtain⟨a,y⟩:=x;simp only[qn]
       split
       ·rename_i hb;have:=Xg hb;subst this
        cases h with
        | head=>exact absurd rfl hne
        | tail _ h=>exact h
       ·cases h with
        | head=>exact .head _
        | tail _ h=>exact .tail _ (ihx h)
    exact hin h1 hks
 have unsplit:∀b,Kp b∨Own Mc ρc b->Keep b∨Own M ρ b:=λb hb=>hb.elim (λh=>((hKp b).1 h).imp id (ownR b)) λh=>.inr (ownsub b h)
 have apartR:∀b,Kp b->¬Own Mc ρc b:=λb hb ho=>by
  obtain⟨j,k,m,v,_,hkj,h1,h2,h3⟩:=ownc b ho
  rcases(hKp b).1 hb with hb | ⟨k',m',v',g1,g2,g3⟩
  ·exact(hm.old b ⟨k,_,v,h1,h2,h3⟩).2 hb
  ·have hne:k≠k':=λe=>(memR _ g1).2 (e ▸ Xd hkj)
   exact hm.apart k _ k' m' v v' b h1 (memR _ g1).1 hne h2 g2 h3 g3
 have hkp:∀b,Kp b->b < w.heap.size:=λb hb=>((hKp b).1 hb).elim (hm.kp b) λh=>(hm.old b (ownR b h)).1
 have hmc:zO Kp Mc ρc w:=by
  refine⟨λj m hj=>?_,hkd,λj m j' m' v v' b h1 h2 hne g1 g2 g3 g4=>?_,λb hb=>⟨(hm.old b (ownsub b hb)).1,λh=>apartR b h hb⟩,hkp,λg v h=>⟨λho=>(hm.gl g v h).1 (ownsub g ho),hm.glc h⟩⟩
  ·obtain⟨k,hkj,_,hlk,hlow⟩:=given j m hj;have hmem:=hm.rel k _ (zA (hlm k _ hlk))
   have hmem2:j8 (λb=>Kp b∨Own Mc ρc b) (Own M ρ) ρ w (rn ks κ j) (zlf ks κ m):=by
    rw[zfX hkj];have hS:(λb=>Kp b∨Own Mc ρc b)=λb=>Keep b∨Own M ρ b:=funext λb=>propext ⟨unsplit b,split b⟩
    rw[hS];exact hmem
   exact zum ownsub hdown (zjn hkb j m hj) hlow hmem2
  ·obtain⟨k,hkj,_,hlk,_⟩:=given j m h1;obtain⟨k',hkj',_,hlk',_⟩:=given j' m' h2;rw[hρc,hkj]at g1;rw[hρc,hkj']at g2;exact hm.apart k _ k' _ v v' b (zA (hlm k _ hlk)) (zA (hlm k' _ hlk')) (λe=>hne (zfh hn j j' k hkj (e ▸ hkj'))) g1 g2 g3 g4
 have hargs:Gs (λb=>Kp b∨Own Mc ρc b) (Own Mc ρc) ρc w args' vs:=by
  have hS:(λb=>Kp b∨Own Mc ρc b)=λb=>Keep b∨Own M ρ b:=funext λb=>propext ⟨unsplit b,split b⟩
  rw[hS]
  have h1:Gs (λb=>Keep b∨Own M ρ b) (Own M ρ) ρ w (zaD.rens ks κ args') vs:=by
   clear hl;generalize zaD.rens ks κ args'=bs at ha
   induction ha generalizing vs with
   | nil=>exact hg
   | cons h t ih=>
    obtain⟨v,vs',rfl,g1,g2⟩:=hg.cons_inv;exact .cons (h _ _ _ _ _ g1) (ih g2)
  refine⟨h1.1.trans (zaJ args'),λj s v hs hv=>?_⟩;exact zjj ownsub hdown s (zaZ hl j s hs) (h1.2 j _ v (by rw[zaK,hs];rfl) hv)
 refine(hcall.2 Kp ρc w vs hkp hmc (λk hk=>?_) hargs).mono ?_
 ·rw[hρc,XD oM]
 rintro e w' ⟨v,ρ',rfl,hs,hm',hgr⟩
 refine⟨v,rfl,?_⟩
 -- the caller's names
 obtain⟨ρ2,hρ2⟩:∃ρ2:zk,∀k,ρ2 k=if κ<=k/\k < κ+nn then ρ' (n+(k - κ)) else ρ k:=⟨_,λ_=>rfl⟩
 have named:∀j k,ks[j]? =some k->∃v,ρ k=some v/\ρ' j=some v:=λj k hj=>by
  obtain⟨m',g1,g2,_⟩:=zbw hM j k hj;obtain⟨v,hv⟩:=(hm.rel k _ (zA (hlm k _ g2))).named;exact⟨v,hv,hs.rho j v (by rw[hρc,hj];exact hv)⟩
 have hup:∀j v,j < n+nn->ρ' j=some v->ρ2 (rn ks κ j)=some v:=λj v hj hv=>by
  by_cases hjn:j < n
  ·have hkj:=Xb (show j < ks.length by omega);obtain⟨v1,h1,h2⟩:=named j _ hkj;rw[hv]at h2;cases h2
   rw[zfX hkj,hρ2,if_neg,h1]
   rintro⟨h3,h4⟩
   rw[hκ _ h3 h4]at h1;cases h1
  ·rw[zfi oM,hρ2,if_pos oM];rw[← hnl,show n+(κ+(j - n) - κ)=j by omega];exact hv
 have hrho:∀k v,ρ k=some v->ρ2 k=some v:=λk v hv=>by
  rw[hρ2,if_neg,hv]
  rintro⟨h3,h4⟩
  rw[hκ _ h3 h4]at hv;cases hv
 have back:∀j v,j < n+nn->ρ2 (rn ks κ j)=some v->ρ' j=some v:=λj v hj hv=>by
  by_cases hjn:j < n
  ·have hkj:=Xb (show j < ks.length by omega);obtain⟨v1,h1,h2⟩:=named j _ hkj;have:=hrho _ _ h1;rw[zfX hkj,this]at hv;cases hv
   exact h2
  ·rw[zfi oM,hρ2,if_pos oM,← hnl,show n+(κ+(j - n) - κ)=j by omega]at hv;exact hv
 have nameR:∀k m,(k,m)∈R->∃v,ρ k=some v/\ρ2 k=some v:=λk m hk=>by
  obtain⟨v,hv⟩:=(hm.rel k m (memR _ hk).1).named;exact⟨v,hv,hrho k v hv⟩
 have ownNew:∀b,Own (zbq ks κ M'++R) ρ2 b↔(Own M' ρ' b∨Own R ρ b):=λb=>by
  constructor
  ·rintro⟨k,m,v1,h1,h2,h3⟩
   rcases Xo.1 h1 with h1 | h1
   ·obtain⟨j,m0,g1,rfl,_⟩:=uv h1;exact .inl ⟨j,m0,v1,g1,back j v1 (jR hM' j m0 g1).1 h2,h3⟩
   ·obtain⟨v2,g1,g2⟩:=nameR k m h1;rw[h2]at g2;cases g2
    exact .inr ⟨k,m,v1,h1,g1,h3⟩
  ·rintro(⟨j,m,v1,h1,h2,h3⟩ | ⟨k,m,v1,h1,h2,h3⟩)
   ·exact⟨_,_,v1,Qn _ (zlI h1),hup j v1 (jR hM' j m h1).1 h2,h3⟩
   ·exact⟨k,m,v1,QH _ h1,hrho k v1 h2,h3⟩
 have hset:∀b,Keep b∨Own (zbq ks κ M'++R) ρ2 b->Kp b∨Own M' ρ' b:=λb hb=>by
  rcases hb with hb | hb
  ·exact .inl ((hKp b).2 (.inl hb))
  ·rcases(ownNew b).1 hb with h | h
   ·exact .inr h
   ·exact .inl ((hKp b).2 (.inr h))
 have hst:Stp (Own M ρ) (Own (zbq ks κ M'++R) ρ2) ρ ρ2 w w':=by
  refine⟨hs.os,hs.tape,hs.output,hs.size,λb hb hnb=>hs.block b hb λho=>hnb (ownsub b ho),λb hb=>?_,hrho⟩
  rcases(ownNew b).1 hb with h | h
  ·exact(hs.own b h).imp (ownsub b) id
  ·exact .inl (ownR b h)
 have keyNew:∀k m,(k,m)∈zbq ks κ M'->k∉(R.map (·.1)):=λk m hk hin=>by
  obtain⟨j,m0,g1,rfl,_⟩:=uv hk;obtain⟨⟨k2,m2⟩,h1,h2⟩:=XO.1 hin;have h2:k2=rn ks κ j:=h2
  by_cases hjn:j < n
  ·have hkj:=Xb (show j < ks.length by omega);rw[zfX hkj]at h2;exact(memR _ h1).2 (h2 ▸ Xd hkj)
  ·have:=(jR hM' j m0 g1).1;rw[zfi oM]at h2;obtain⟨v1,hv1,_⟩:=nameR k2 m2 h1;rw[hκ k2 oM oM]at hv1;cases hv1
 have rninj:∀j j',j < n+nn->j' < n+nn->rn ks κ j=rn ks κ j'->j=j':=λj j' hj hj' he=>by
  by_cases h1:j < n <;> by_cases h2:j' < n
  ·have k1:=Xb (show j < ks.length by omega);have k2:=Xb (show j' < ks.length by omega);rw[zfX k1,zfX k2]at he;exact zfh hn j j' _ k1 (by rw[k2,he])
  ·have k1:=Xb (show j < ks.length by omega);obtain⟨v1,hv1,_⟩:=named j _ k1;rw[zfX k1,zfi oM]at he;rw[hκ _ oM oM]at hv1;cases hv1
  ·have k2:=Xb (show j' < ks.length by omega);obtain⟨v1,hv1,_⟩:=named j' _ k2;rw[zfX k2,zfi oM]at he;rw[hκ _ oM oM]at hv1;cases hv1
  ·rw[zfi oM,zfi oM]at he;omega
 have hpw:(zbq ks κ M'++R).Pairwise λa b=>a.1≠b.1:=by
  rw[List.pairwise_append];refine⟨?_,by subst hR;exact zbU hm.keys,λx hx y hy e=>keyNew x.1 x.2 hx (e ▸ List.mem_map_of_mem hy)⟩
  have:∀{l:List (Nat×Mem)},l.Pairwise (λa b=>a.1≠b.1)->(∀j m,(j,m)∈l->j < n+nn)->(zbq ks κ l).Pairwise λa b=>a.1≠b.1:=by
   intro l
   induction l with
   | nil=>intro _ _;exact List.Pairwise.nil
   | cons x xs ih=>
    intro hp hlt;obtain⟨j,m⟩:=x;rw[X4]at hp;refine X4.2 ⟨λy hy e=>?_,ih hp.2 λj m h=>hlt j m (.tail _ h)⟩;obtain⟨k,m'⟩:=y;obtain⟨j',m0,g1,g2,_⟩:=uv hy;have e:rn ks κ j=k:=e;rw[g2]at e;exact hp.1 (j',m0) g1 (rninj j j' (hlt j m (.head _)) (hlt j' m0 (.tail _ g1)) e)
  exact this hm'.keys λj m h=>(jR hM' j m h).1
 have hmem:zO Keep (zbq ks κ M'++R) ρ2 w':=by
  refine⟨λk m hk=>?_,hpw,λk m k' m' v1 v2 b h1 h2 hne g1 g2 g3 g4=>?_,λb hb=>?_,λb hb=>Xr (hm.kp b hb) hs.size,λg v h=>⟨λho=>((ownNew g).1 ho).elim (hm'.gl g v h).1 λh'=>(hm.gl g v h).1 (ownR g h'),hm'.glc h⟩⟩
  ·rcases Xo.1 hk with hk | hk
   ·obtain⟨j,m0,h1,rfl,rfl⟩:=uv hk;exact zzq hset hup (jR hM' j m0 h1).1 (jR hM' j m0 h1).2 (hm'.rel j m0 h1)
   ·obtain⟨v1,h1,h2⟩:=nameR k m hk;refine j8.keep hst (h2.trans h1.symm) (λv2 b g1 g2=>?_) (hm.rel k m (memR _ hk).1);have ho:Own R ρ b:=⟨k,m,v2,hk,g1,g2⟩;exact hs.block b (hm.old b (ownR b ho)).1 λhc=>apartR b ((hKp b).2 (.inr ho)) hc
  ·rcases Xo.1 h1 with h1 | h1 <;> rcases Xo.1 h2 with h2 | h2
   ·obtain⟨j,m0,q1,rfl,_⟩:=uv h1;obtain⟨j',m0',q2,rfl,_⟩:=uv h2;exact hm'.apart j m0 j' m0' v1 v2 b q1 q2 (λe=>hne (by rw[e])) (back j v1 (jR hM' j m0 q1).1 g1) (back j' v2 (jR hM' j' m0' q2).1 g2) g3 g4
   ·obtain⟨j,m0,q1,rfl,_⟩:=uv h1;obtain⟨v3,e1,e2⟩:=nameR k' m' h2;rw[g2]at e2;cases e2
    exact(hm'.old b ⟨j,m0,v1,q1,back j v1 (jR hM' j m0 q1).1 g1,g3⟩).2 ((hKp b).2 (.inr ⟨k',m',v2,h2,e1,g4⟩))
   ·obtain⟨j,m0,q1,rfl,_⟩:=uv h2;obtain⟨v3,e1,e2⟩:=nameR k m h1;rw[g1]at e2;cases e2
    exact(hm'.old b ⟨j,m0,v2,q1,back j v2 (jR hM' j m0 q1).1 g2,g4⟩).2 ((hKp b).2 (.inr ⟨k,m,v1,h1,e1,g3⟩))
   ·obtain⟨v3,e1,e2⟩:=nameR k m h1;rw[g1]at e2;cases e2
    obtain⟨v4,e3,e4⟩:=nameR k' m' h2;rw[g2]at e4;cases e4
    exact hm.apart k m k' m' v1 v2 b (memR _ h1).1 (memR _ h2).1 hne e1 e3 g3 g4
  ·rcases(ownNew b).1 hb with h | h
   ·exact⟨(hm'.old b h).1,λhkb=>(hm'.old b h).2 ((hKp b).2 (.inl hkb))⟩
   ·exact⟨Xr (hm.old b (ownR b h)).1 hs.size,(hm.old b (ownR b h)).2⟩
 have e0:zck M κ (.give ks (zbq ks κ M') nn)=zbq ks κ M'++R:=by subst hR;rfl
 refine⟨ρ2,?_,?_,?_,λk hk=>?_⟩
 ·rw[e0];exact hst
 ·rw[e0];exact hmem
 ·rw[e0];exact zro hset hup r hr hgr
 ·have hk:k < κ∨κ+nn<=k:=hk;rw[hρ2,if_neg oM]
theorem zO.same {Keep:Nat->Prop} {M:List (Nat×Mem)} {ρ:zk} {w w':World} (hm:zO Keep M ρ w) (hos:w'.os=w.os) (htape:w'.tape=w.tape) (hout:qc w w')
  (hsize:w.heap.size<=w'.heap.size) (hblock:∀b,b < w.heap.size->w'.heap[b]? =w.heap[b]?):Stp (Own M ρ) (Own M ρ) ρ ρ w w'/\zO Keep M ρ w':=by
 have hs:Stp (Own M ρ) (Own M ρ) ρ ρ w w':=⟨hos,htape,hout,hsize,λb hb _=>hblock b hb,λb hb=>.inl hb,λ_ _ h=>h⟩
 exact⟨hs,λk m h=>(hm.rel k m h).keep hs rfl (λv b h1 h2=>hblock b (hm.old b ⟨k,m,v,h,h1,h2⟩).1),hm.keys,hm.apart,
  λb hb=>⟨Xr (hm.old b hb).1 hsize,(hm.old b hb).2⟩,λb hb=>Xr (hm.kp b hb) hsize,hm.glS hs⟩
variable{Γ:List (TypeId×TI)}{x:Operand}{K:SV->MD->Prop}
theorem zrq{e:TypeId}{s:SV}
  (h:boxV Γ e s κ K):∃r md,K r md/\yK P (.box e x) [s] lm κ r md:=by
 unfold boxV at h;replace h:=zi h;obtain⟨hc,h⟩:=h;have old:K (.loc κ 0) (.push (.box e (kT s)))->∃r md,K r md/\yK P (.box e x) [s] lm κ r md:=λh=>zuj (by unfold zS;rw[hc];exact h)
 split at h
 ·split at h
  ·split at h
   ·rename_i hf
    rcases h with h | h
    ·exact old h
    ·refine⟨_,_,h,λo ho Keep M ρ a w _ hm hκ hκM hgs=>?_⟩;obtain⟨h1,h2⟩:=vO hc (Gs.head hgs)
     have hrun:(execOp a.eval o).run P w=.ok (.value (.pointer (some ⟨w.heap.size,0,none⟩))) (w.alloc (.cells (a.eval x).cells e)):=by
      simp[execOp,ho,Instr.box,newVar,newRow]
     refine qH.value hrun ?_;obtain⟨hs,hm'⟩:=hm.same (w':=w.alloc (.cells (a.eval x).cells e)) rfl rfl (.cells _ _ _) (by simp) (λb hb=>heap_alloc_old w _ b hb);refine⟨ρ,hs,hm',.d _ _ ?_,λ_ _=>rfl⟩;have hnew:=heap_alloc_new w (.cells (a.eval x).cells e);have hn:∀b,b < w.heap.size->True:=λ_ _=>trivial
     refine .dptr _ w.heap.size 0 (λj=>((a.eval x).cells.toList[j]?).getD undef) (by simp) (λhb=>?_) (λj hj=>?_) (λj s' hs'=>?_)
     ·rcases hb with hb | hb
      ·have:=hm.kp _ hb;omega
      ·have:=(hm.old _ hb).1;omega
     ·have hj':j < (a.eval x).cells.toList.length:=by rw[h1.1];exact hj
      have hj2:j < (a.eval x).cells.size:=by simpa using hj'
      refine⟨?_,?_⟩
      ·show(w.alloc (.cells (a.eval x).cells e)).cell? ⟨w.heap.size,0+j,none⟩=_;rw[X6];simp only[World.cell?,hnew];simp[hj2]
      ·rw[Xb hj',Qf];exact h2 _ (KO hj')
     ·have hj:j < (kT s).length:=(Xc.1 hs').1;have hj':j < (a.eval x).cells.toList.length:=by rw[h1.1];exact hj
      rw[Xb hj',Qf];exact(uH (yT hf j s' hs') (h1.2 j s' _ hs' (Xb hj'))).stp hs
   ·exact old h
  ·exact old h
 ·exact old h
variable{svs:List SV}
theorem znj(hT:TOK P Γ) {t:TypeId}{lo hi mx:Option Operand}
  (h:zm3 Γ t lo hi mx svs lm κ K):∃r md,K r md/\yK P (.slice t x lo hi mx) svs lm κ r md:=by
 unfold zm3 at h
 split at h
 ·rename_i cs;unfold zly at h;replace h:=zi h;obtain⟨hn,h⟩:=h;obtain⟨n1,hn⟩:=ky hn;obtain⟨n2,n3⟩:=ky hn;have lo0:lo=none:=by cases lo with | none=>rfl | some _=>cases n1
  have hi0:hi=none:=by cases hi with | none=>rfl | some _=>cases n2
  have mx0:mx=none:=by cases mx with | none=>rfl | some _=>cases n3
  subst lo0;subst hi0;subst mx0;replace h:=zt h;obtain⟨i,hi',h⟩:=h;have hk:=(hT t i hi').kind
  split at h
  ·rename_i n e hkind;rw[hkind]at hk;have hk:P.underlying t=some (.array n e):=hk;have helem:P.elem t=e:=by simp[Program.elem,hk]
   have hlen:P.arrayLen t=n:=by simp[Program.arrayLen,hk]
   have hk':P.underlying t=some (.array (P.arrayLen t) (P.elem t)):=by rw[helem,hlen];exact hk
   replace h:=zt h;obtain⟨j,hj,h⟩:=h;have hsz:=(hT e j hj).size;obtain⟨α,enc,xs,hch,h⟩:=h;obtain⟨e1,e2,e3⟩:=h.ob;refine⟨_,_,h.go,.pure λo ho S Pm ρ a w hgs=>?_⟩;obtain⟨b,o',c,hx,hb,hS,hc,hd⟩:=(Gs.head hgs).dptr_inv
   have hrun:(execOp a.eval o).run P w=.ok (.value (.slice (some ⟨b,o',none⟩) xs.length n)) w:=by
    simp[execOp,ho,hx,run_sliceAt_array_all (ht:=hk'),slicedAt,hsz,helem,hlen,e1];intro _;simp[Addr.add]
   refine⟨_,hrun,.d _ _ ?_⟩;have hl:=zee e3;refine .sl enc xs j.sz b o' n (λp q=>c (p*j.sz+q)) hb hS oM oM e3 (λp q hp hq=>?_) (λp q x s hx hs=>?_)
   ·have hlt:p*j.sz+q < cs.length:=by
     rw[← hch,hl];have:=Xp j.sz (XT hp);rw[XU]at this;omega
    have:=hc _ hlt
    rwa [KN]
   ·have hq:q < j.sz:=by
     have:=(Xc.1 hs).1;rw[e3 x (Xd hx)]at this;exact this
    have:=zed e3 p q x hx hq;rw[hch]at this;exact hd _ s (this.trans hs)
  ·exact h.elim
 ·exact zoM hT h
theorem j8.move {S S' Pm Pm':Nat->Prop} {ρ ρ':zk} {w:World} {k k':Nat} {m:Mem} (hk:ρ' k'=ρ k) (hf:zhU m) (hd:∀s v,(ym s=true∨True)->D S w s v->D S' w s v∨False)
  (h:j8 S Pm ρ w k m):j8 S' Pm' ρ' w k' m:=by
 cases m with
 | box T cs=>
  obtain⟨b,vs,h1,h2,h3,h4,h5⟩:=h;exact⟨b,vs,hk.trans h1,h2,h3,h4,λj s v hs hv=>.d _ _ ((hd s v (.inr trivial) (uH (yT hf j s hs) (h5 j s v hs hv))).resolve_right id)⟩
 | arr T enc sz xs=>
  obtain⟨v,cells,h1,h2,h3,h4,h5,h6⟩:=h;refine⟨v,cells,hk.trans h1,h2,h3,h4,h5,λi j x s hx hs=>?_⟩;obtain⟨u,hu,hd'⟩:=h6 i j x s hx hs;exact⟨u,hu,(hd s u (.inr trivial) hd').resolve_right id⟩
 | garr T sz xs=>exact hf.elim
 | map es=>
  obtain⟨r,ents,clock,h1,h2,h3,h4⟩:=h;refine⟨r,ents,clock,hk.trans h1,h2,h3,λi n s hi=>?_⟩;obtain⟨e,g1,g2,g3⟩:=h4 i n s hi;exact⟨e,g1,g2,(hd s _ (.inr trivial) g3).resolve_right id⟩
variable{S:Nat->Prop}{S':Nat->Prop}{Pm:Nat->Prop}{Pm':Nat->Prop}{ρ':zk}{m:Mem}
theorem j8.scalar{k k':Nat}(hk:ρ' k'=ρ k)(hf:ziy m)(h:j8 S Pm ρ w k m):j8 S' Pm' ρ' w k' m:=by
 cases m with
 | box T cs=>
  obtain⟨b,vs,h1,h2,h3,h4,h5⟩:=h;exact⟨b,vs,hk.trans h1,h2,h3,h4,λj s v hs hv=>.d _ _ (vP (u0 hf j s hs) (h5 j s v hs hv))⟩
 | arr T enc sz xs=>
  obtain⟨v,cells,h1,h2,h3,h4,h5,h6⟩:=h;refine⟨v,cells,hk.trans h1,h2,h3,h4,h5,λi j x s hx hs=>?_⟩;obtain⟨u,hu,hd'⟩:=h6 i j x s hx hs;exact⟨u,hu,vP (Pm:=Pm) (ρ:=ρ) (u0 (hf x (Xd hx)) j s hs) (.d _ _ hd')⟩
 | garr T sz xs=>exact hf.elim
 | map es=>
  obtain⟨r,ents,clock,h1,h2,h3,h4⟩:=h;refine⟨r,ents,clock,hk.trans h1,h2,h3,λi n s hi=>?_⟩;obtain⟨e,g1,g2,g3⟩:=h4 i n s hi;exact⟨e,g1,g2,vP (Pm:=Pm) (ρ:=ρ) (u0 hf i s (by simp[hi])) (.d _ _ g3)⟩
def one(v:Value):zk:=λk=>if k=0 then some v else none
theorem zbx{v:Value}{b:Nat}:Own [(0,m)] (one v) b↔qz v=some b:=by
 constructor
 ·rintro⟨k,m',v',h,h1,h2⟩
  cases h with
  | head=>simp[one]at h1;subst h1;exact h2
  | tail _ h=>cases h
 ·intro h;exact⟨0,m,v,.head _,by simp[one],h⟩
theorem uO{v:Value}:one v 0=some v:=rfl
variable{cs:List SV}
theorem zun{k:Nat}(h:zlw k cs=true):∀k' off,.loc k' off∈cs->k'≠k:=by
 induction cs with
 | nil=>intro _ _ h;cases h
 | cons c cs ih=>
  intro k' off hm e;subst e
  cases hm with
  | head=>simp[zlw,KU]at h
  | tail _ hm=>
   refine ih ?_ k' off hm rfl
   cases c <;> simp only[zlw]at h <;> (try split at h) <;> simp_all
theorem zoZ(h:zcn lm cs=true):∀k off,.loc k off∈cs->∃m,lm k=some m:=by
 induction cs with
 | nil=>intro _ _ h;cases h
 | cons x xs ih=>
  intro k off hm;simp only[zcn]at h
  split at h
  ·rename_i hx
   cases hm with
   | head=>
    simp only[zcm]at hx
    cases hq:lm k with
    | none=>simp[hq]at hx
    | some m=>exact⟨m,rfl⟩
   | tail _ hm=>exact ih h k off hm
  ·cases h
theorem zsI {lm:Nat->Option Mem} {Keep:Nat->Prop} {M:List (Nat×Mem)} {ρ:zk} {w:World} (hlm:∀k m,lm k=some m->(k,m)∈M) (hm:zO Keep M ρ w)
  {k:Nat} {m:Mem} {v0:Value} (hkm:lm k=some m) (hv0:ρ k=some v0) {S' Pm':Nat->Prop} (hsub:∀b,S' b->Keep b∨Own M ρ b) (hPm:∀b,Pm' b->qz v0=some b):
  ∀{cs:List SV} {vs:List Value},Gs (λb=>Keep b∨Own M ρ b) (Own M ρ) ρ w cs vs->zbH lm k cs=true->Gs S' Pm' (one v0) w (zv1 lm k cs) vs
 | [],vs,hg,_=>by rw[hg.nil_inv];exact .nil
 | c::cs,vs,hg,hc=>by
  obtain⟨v,vs',rfl,h1,h2⟩:=hg.cons_inv;have hP:∀b,¬Own M ρ b->¬Pm' b:=λb hn hp=>hn ⟨k,m,v0,hlm k m hkm,hv0,hPm b hp⟩
  have hP2:∀k' b,(∃m',lm k'=some m')->k'≠k->ρ k'=some (.pointer (some ⟨b,0,none⟩))->¬Pm' b:=λk' b ⟨m',hm'⟩ hne hρ hp=>
   hm.apart k' m' k m _ v0 b (hlm k' m' hm') (hlm k m hkm) hne hρ hv0 rfl (hPm b hp)
  have key:G S' Pm' (one v0) w (give lm k c) v/\zbH lm k cs=true:=by
   unfold zbH at hc
   split at hc
   ·rename_i heq;cases heq
   ·rename_i k' off r heq
    cases heq
    split at hc
    ·rename_i hb;have:=Xg hb;subst this;refine⟨?_,hc⟩;simp only[give,KU];obtain⟨b,hρ,rfl⟩:=h1.loc_inv;rw[hv0]at hρ;cases hρ
     exact .loc 0 off b uO
    ·rename_i hb;obtain⟨hc1,hc2⟩:=ky hc;refine⟨?_,hc2⟩;simp only[give,hb]
     have hlk:∃m',lm k'=some m':=by
      simp only[uB,zcm]at hc1
      cases hq:lm k' with
      | none=>simp[hq]at hc1
      | some m'=>exact⟨m',rfl⟩
     exact zjg hlm hm hsub h1 (.inl hc1) hP (λk2 off2 b he hρ=>by
      rcases he with he | ⟨_,_,he,_⟩
      ·cases he;exact hP2 _ b hlk (KH hb) hρ
      ·cases he)
   ·rename_i k' r heq
    cases heq
    split at hc
    ·rename_i hb;have:=Xg hb;subst this;refine⟨?_,hc⟩;simp only[give,KU];obtain⟨hρ,h3⟩:=h1.own_inv;rw[hv0]at hρ;cases hρ
     exact .own 0 _ uO h3
    ·cases hc
   ·rename_i k' sz lo n r heq
    cases heq
    split at hc
    ·rename_i hb;have:=Xg hb;subst this;refine⟨?_,hc⟩;simp only[give,KU];obtain⟨b,len,cap,cap',hρ,rfl,h3,h4⟩:=h1.win_inv;rw[hv0]at hρ;cases hρ
     exact .win 0 sz lo n b len cap cap' uO h3 h4
    ·cases hc
   ·rename_i f caps r heq
    cases heq
    obtain⟨hc0,hc⟩:=ky hc;obtain⟨hc1,hc2⟩:=ky hc;refine⟨?_,hc2⟩;simp only[give];refine zjg hlm hm hsub h1 (.inl hc1) hP (λk2 off2 b he hρ=>?_)
    rcases he with he | ⟨f',cs',he,hmem⟩
    ·cases he
    ·cases he
     refine hP2 k2 b ?_ (zun hc0 k2 off2 hmem) hρ;simp only[uB]at hc1
     split at hc1
     ·rename_i hcl;exact zoZ hcl k2 off2 hmem
     ·cases hc1
   ·rename_i s r hn1 hn2 hn2' hn3 heq
    cases heq
    obtain⟨hc1,hc2⟩:=ky hc;refine⟨?_,hc2⟩
    have hgv:give lm k c=ziZ lm c:=by
     cases c <;> first | rfl | exact absurd rfl (hn1 _ _) | exact absurd rfl (hn2 _) | exact absurd rfl (hn2' _ _ _ _)
    rw[hgv]
    exact zjg hlm hm hsub h1 (.inl hc1) hP (λk2 off2 b he hρ=>by
     rcases he with rfl | ⟨f',cs',rfl,_⟩
     ·exact absurd rfl (hn1 _ _)
     ·exact absurd rfl (hn3 _ _))
  exact .cons key.1 (zsI hlm hm hkm hv0 hsub hPm h2 key.2)
theorem j8.name{k:Nat}(h:j8 S Pm ρ w k m):∃v,ρ k=some v:=by
 cases m with
 | box T cs=>obtain⟨b,vs,h1,_⟩:=h;exact⟨_,h1⟩
 | arr T enc sz xs=>obtain⟨v,cells,h1,_⟩:=h;exact⟨_,h1⟩
 | garr T sz xs=>obtain⟨v,cells,h1,_⟩:=h;exact⟨_,h1⟩
 | map es=>obtain⟨r,ents,clock,h1,_⟩:=h;exact⟨_,h1⟩
theorem mv_g{v0:Value}(h0:ρ' 0=some v0)(hκ:ρ κ=some v0):∀(r:SV) {v:Value},zaV r=true->G S' Pm' ρ' w r v->G S Pm ρ w (mv κ r) v:=by
 intro r
 induction r using SV.rec (motive_2:=λcs=>∀{vs:List Value},zaV.mvOKs cs=true->Gs S' Pm' ρ' w cs vs->Gs S Pm ρ w (mv.mvs κ cs) vs) with
 | val v=>intro u _ hg;exact .d _ _ (hg.val_inv ▸ .val _)
 | pr p i=>intro u _ hg;rw[hg.pr_inv];exact .d _ _ (.pr p i)
 | agg cs ih=>
  intro u h hg;simp only[zaV]at h;obtain⟨vs,rfl,hvs⟩:=hg.agg_inv;have:=ih h hvs;simp only[mv];exact .agg _ vs this.1 this.2
 | tup cs ih=>
  intro u h hg;simp only[zaV]at h;obtain⟨vs,rfl,hvs⟩:=hg.tup_inv;have:=ih h hvs;simp only[mv];exact .tup _ vs this.1 this.2
 | own k=>
  intro u h hg;simp only[zaV]at h;have:=Xg h;subst this;obtain⟨g1,g2⟩:=hg.own_inv;rw[h0]at g1;cases g1
  simp only[mv];exact .own _ _ hκ g2
 | sl _ _=>intro u h _;simp[zaV]at h
 | ptr _ _=>intro u h _;simp[zaV]at h
 | loc k off=>
  intro u h hg;simp only[zaV]at h;have:=Xg h;subst this;obtain⟨b,g1,rfl⟩:=hg.loc_inv;rw[h0]at g1;cases g1
  simp only[mv];exact .loc _ _ _ hκ
 | eloc _ _ _ _=>intro u h _;simp[zaV]at h
 | win _ _ _ _=>intro u h _;simp[zaV]at h
 | fn f cs ih=>
  intro u h hg;simp only[zaV]at h;obtain⟨vs,rfl,hvs⟩:=hg.fn_inv;have:=ih h hvs;simp only[mv];exact .fn _ _ vs this.1 this.2
 | dptr _ _=>intro u h _;simp[zaV]at h
 | dfn _ _ _=>intro u h _;simp[zaV]at h
 | bm _ _ _=>intro u h _;simp[zaV]at h
 | op _=>intro u h _;simp[zaV]at h
 | ifc t s ih=>
  intro u h hg;simp only[zaV]at h;obtain⟨v,rfl,hv⟩:=hg.ifc_inv;simp only[mv];exact .ifc t _ v (ih h hv)
 | junk=>intro u _ _;exact .d _ _ (.junk u)
 | nils=>intro u h _;simp[zaV]at h
 | anyb=>intro u h _;simp[zaV]at h
 | full _ _=>intro u h _;simp[zaV]at h
 | nil=>
  rename_i vs _ hg
  simpa[mv.mvs,hg.nil_inv] using Gs.nil
 | cons c cs ih1 ih2=>
  rename_i vs h hg;simp only[zaV.mvOKs]at h
  split at h
  ·rename_i h1;obtain⟨v,vs',rfl,g1,g2⟩:=hg.cons_inv;exact .cons (ih1 h1 g1) (ih2 h g2)
  ·cases h
theorem zrr{o:Option Mem}(h:zv2 o=true):∃(T:TypeId) (α:Type) (enc:α->List SV) (sz:Nat) (xs:List α),o=some (.arr T enc sz xs):=by
 unfold zv2 at h
 split at h
 ·exact⟨_,_,_,_,_,rfl⟩
 ·cases h
theorem zrs {lm:Nat->Option Mem} {Keep:Nat->Prop} {M:List (Nat×Mem)} {ρ:zk} {w:World} (hlm:∀k m,lm k=some m->(k,m)∈M) (hm:zO Keep M ρ w)
  {k:Nat} {T:TypeId} {α:Type} {enc:α->List SV} {sz:Nat} {xs:List α} (hkm:lm k=some (.arr T enc sz xs)) {S':Nat->Prop} (hsub:∀b,S' b->Keep b∨Own M ρ b)
  (hk:∀v b,ρ k=some v->qz v=some b->¬S' b) {Pm':Nat->Prop} (hP:∀b,¬Pm' b) {ρ':zk}:
  ∀{cs:List SV} {vs:List Value},Gs (λb=>Keep b∨Own M ρ b) (Own M ρ) ρ w cs vs->zv3 lm k cs=true->Gs S' Pm' ρ' w (zc0 lm cs) vs
 | [],vs,hg,_=>by rw[hg.nil_inv];exact .nil
 | c::cs,vs,hg,hc=>by
  obtain⟨v,vs',rfl,h1,h2⟩:=hg.cons_inv;unfold zv3 at hc
  split at hc
  ·rename_i heq;cases heq
  ·rename_i k' r heq
   cases heq
   split at hc
   ·rename_i hb;have:=Xg hb;subst this;refine .cons ?_ (zrs hlm hm hkm hsub hk hP h2 hc);simp only[ziZ,zhT,hkm];exact .d _ _ (zjb hm (hlm _ _ hkm) hsub hk h1.own_inv.1)
   ·cases hc
  ·rename_i s r hn heq
   cases heq
   obtain⟨hc1,hc2⟩:=ky hc;exact .cons (zjg hlm hm hsub h1 (.inl hc1) (λb _=>hP b) (λ_ _ b _ _=>hP b)) (zrs hlm hm hkm hsub hk hP h2 hc2)
theorem za0{c:Call}
  (open_args:∀{S Pm:Nat->Prop} {ρ:zk} {a:Act} {w:World},Gs S Pm ρ w svs ((qf (.call c)).map a.eval)->
   ∃vs0,(∀o:Oper,o.op=.call c->zbP P f->(execOp a.eval o).run P w=.ok (.enter f (List.toArray vs0)) w)/\Gs S Pm ρ w za vs0)
  (h:zb P lm κ f za K):∃r md,K r md/\yK P (.call c) svs lm κ r md:=by
 cases h with
 | to r hcall hr hk=>
  refine⟨r,.none,qJ hk,λo ho Keep M ρ a w hlm hm _ _ hgs=>?_⟩;have hlm':=λk m h=>zA (hlm k m h)
  obtain⟨vs0,hrun,hg⟩:=open_args hgs;refine qH.call (hrun o ho hcall.1) ?_
  by_cases hcl:uB lm za=true
  ·have hr:ziY r=true:=by unfold zsw at hr;rw[hcl]at hr;exact hr
   have hb:∀b,(Keep b∨Own M ρ b)->b < w.heap.size:=λb hb=>hb.elim (hm.kp b) λh=>(hm.old b h).1
   have hv:Gs (λb=>(Keep b∨Own M ρ b)∨Own [] (λ_=>none) b) (Own [] (λ_=>none)) (λ_=>none) w (zc0 lm za) vs0:=
    zfS hlm' hm (λb h=>h.resolve_right z0) (λ_=>z0) hg (.inl hcl)
   refine(hcall.2 (λb=>Keep b∨Own M ρ b) (λ_=>none) w _ hb (jj hb λ_ _ h=>hm.glc h) (λ_ _=>rfl) hv).mono ?_
   rintro e w' ⟨v,ρ',rfl,hs,_,hgr⟩
   obtain⟨hs',hm'⟩:=hm.same hs.os hs.tape hs.output hs.size λb hb=>hs.block b hb z0
   exact⟨v,rfl,ρ,hs',hm',ziD (λb h=>.inl h) hr hgr,λ_ _=>rfl⟩
  ·have hr:zix r=true:=by unfold zsw at hr;rw[Bool.eq_false_iff.2 hcl]at hr;exact hr
   have hv:Gs (λb=>False∨Own [] (λ_=>none) b) (Own [] (λ_=>none)) (λ_=>none) w (zc0 lm za) vs0:=
    zfS hlm' hm (λb h=>(h.resolve_left id |> z0).elim) (λ_=>z0) hg (.inr λb _ h=>z0 (h.resolve_left id))
   refine(hcall.2 (λ_=>False) (λ_=>none) w _ (λ_ h=>h.elim) (jj (λ_ h=>h.elim) λ_ _ h=>hm.glc h) (λ_ _=>rfl) hv).mono ?_
   rintro e w' ⟨v,ρ',rfl,hs,_,hgr⟩
   obtain⟨hs',hm'⟩:=hm.same hs.os hs.tape hs.output hs.size λb hb=>hs.block b hb z0
   exact⟨v,rfl,ρ,hs',hm',zul hr hgr,λ_ _=>rfl⟩
 | fresh m r hcall hr0 hfm hcl hk=>
  refine⟨_,_,qJ hk,λo ho Keep M ρ a w hlm hm hκ hκM hgs=>?_⟩;replace hκ:=hκ _ (Xh _) (XX _);replace hκM:=hκM rfl;have hlm':=λk m h=>zA (hlm k m h)
  obtain⟨vs0,hrun,hg⟩:=open_args hgs;refine qH.call (hrun o ho hcall.1) ?_
  have fin:∀(S0:Nat->Prop),((∀b,Keep b∨Own M ρ b->S0 b)∨ziy m)->∀(w':World) (v:Value) (ρ':zk),Stp (Own [] (λ_=>none)) (Own [(0,m)] ρ') (λ_=>none) ρ' w w'->zO S0 [(0,m)] ρ' w'->
    G (λb=>S0 b∨Own [(0,m)] ρ' b) (Own [(0,m)] ρ') ρ' w' r v->k8 Keep M ρ w κ (mv κ r) (.push m) v w':=by
   intro S0 hS0 w' v1 ρ' hs hm' hgr;obtain⟨v,hv0⟩:=(hm'.rel 0 m (.head _)).name
   have hownv:∀b,qz v=some b->w.heap.size<=b/\b < w'.heap.size:=λb hb=>
    have ho:Own [(0,m)] ρ' b:=⟨0,m,v,.head _,hv0,hb⟩
    ⟨(hs.own b ho).resolve_left z0,(hm'.old b ho).1⟩
   have hown0:∀b,Own [(0,m)] ρ' b->qz v=some b:=by
    rintro b ⟨k,m',v',h,h1,h2⟩
    cases h with
    | head=>rw[hv0]at h1;cases h1;exact h2
    | tail _ h=>cases h
   refine k8.push (u:=v) (hm.grow (λ_ h=>h) hm.keys hκ hκM v m w' hs.os hs.tape hs.output hs.size (λb hb _=>hs.block b hb z0)
    (λk m v b h1 h2 h3=>hs.block b (hm.old b ⟨k,m,v,h1,h2,h3⟩).1 z0)
    (λb hb=>⟨.inr (hownv b hb).1,(hownv b hb).2,λk m v' h1 h2 h3=>by have:=(hm.old b ⟨k,m,v',h1,h2,h3⟩).1;have:=(hownv b hb).1;omega⟩) λhst=>?_) (mv_g hv0 kB r hr0 hgr)
   rcases hS0 with hS0 | hsc
   ·refine j8.move (S:=λb=>S0 b∨Own [(0,m)] ρ' b) (Pm:=Own [(0,m)] ρ') (by rw[kB,hv0]) hfm (λs u _ hd=>.inl (hd.less λb hb=>?_)) (hm'.rel 0 m (.head _))
    rcases hb with hb | ⟨k,m',v',h1,h2,h3⟩
    ·exact .inl (hS0 b (.inl hb))
    ·cases h1 with
     | head=>rw[kB]at h2;cases h2;exact .inr ⟨0,m,v,.head _,hv0,h3⟩
     | tail _ h1=>rw[zct (λe=>by subst e;exact hκM _ h1)]at h2;exact .inl (hS0 b (.inr ⟨k,m',v',h1,h2,h3⟩))
   ·exact j8.scalar (by rw[kB,hv0]) hsc (hm'.rel 0 m (.head _))
  by_cases hcl':uB lm za=true
  ·have hb:∀b,(Keep b∨Own M ρ b)->b < w.heap.size:=λb hb=>hb.elim (hm.kp b) λh=>(hm.old b h).1
   have hv:Gs (λb=>(Keep b∨Own M ρ b)∨Own [] (λ_=>none) b) (Own [] (λ_=>none)) (λ_=>none) w (zc0 lm za) vs0:=
    zfS hlm' hm (λb h=>h.resolve_right z0) (λ_=>z0) hg (.inl hcl')
   refine(hcall.2 (λb=>Keep b∨Own M ρ b) (λ_=>none) w _ hb (jj hb λ_ _ h=>hm.glc h) (λ_ _=>rfl) hv).mono ?_
   rintro e w' ⟨v,ρ',rfl,hs,hm',hgr⟩
   exact⟨v,rfl,fin _ (.inl λb h=>h) w' v ρ' hs hm' hgr⟩
  ·have hsc:=hcl.resolve_left hcl'
   have hv:Gs (λb=>False∨Own [] (λ_=>none) b) (Own [] (λ_=>none)) (λ_=>none) w (zc0 lm za) vs0:=
    zfS hlm' hm (λb h=>(h.resolve_left id |> z0).elim) (λ_=>z0) hg (.inr λb _ h=>z0 (h.resolve_left id))
   refine(hcall.2 (λ_=>False) (λ_=>none) w _ (λ_ h=>h.elim) (jj (λ_ h=>h.elim) λ_ _ h=>hm.glc h) (λ_ _=>rfl) hv).mono ?_
   rintro e w' ⟨v,ρ',rfl,hs,hm',hgr⟩
   exact⟨v,rfl,fin _ (.inr hsc) w' v ρ' hs hm' hgr⟩
 | see k r hcall hka hcs hr hk=>
  obtain⟨T,α,enc,sz,xs,hlk⟩:=zrr hka;refine⟨r,.drop k,qJ hk,λo ho Keep M ρ a w hlm hm _ _ hgs=>?_⟩;have hlm':=λk m h=>zA (hlm k m h)
  obtain⟨vs0,hrun,hg⟩:=open_args hgs;refine qH.call (hrun o ho hcall.1) ?_;have hmem:=hlm' k _ hlk;have hsub:∀b,(Keep b∨Own (qn M k) ρ b)->Keep b∨Own M ρ b:=λb hb=>hb.imp id λ⟨k',m',v',h1,h2,h3⟩=>⟨k',m',v',kD _ h1,h2,h3⟩
  have hb:∀b,(Keep b∨Own (qn M k) ρ b)->b < w.heap.size:=λb hb=>(hsub b hb).elim (hm.kp b) λh=>(hm.old b h).1
  have hkk:∀v b,ρ k=some v->qz v=some b->¬(Keep b∨Own (qn M k) ρ b):=λv b hv' hb hSb=>by
   rcases hSb with hSb | ⟨k',m',v',h4,h5,h6⟩
   ·exact(hm.old b ⟨k,_,v,hmem,hv',hb⟩).2 hSb
   ·exact hm.apart k _ k' m' v v' b hmem (kD _ h4) (Ne.symm (yL hm.keys _ h4)) hv' h5 hb h6
  have hv:Gs (λb=>(Keep b∨Own (qn M k) ρ b)∨Own [] (λ_=>none) b) (Own [] (λ_=>none)) (λ_=>none) w (zc0 lm za) vs0:=
   zrs hlm' hm hlk (λb h=>hsub b (h.resolve_right z0)) (λv b h1 h2 h3=>hkk v b h1 h2 (h3.resolve_right z0)) (λ_=>z0) hg hcs
  refine(hcall.2 (λb=>Keep b∨Own (qn M k) ρ b) (λ_=>none) w _ hb (jj hb λ_ _ h=>hm.glc h) (λ_ _=>rfl) hv).mono ?_
  rintro e w' ⟨v,ρ',rfl,hs,_,hgr⟩
  obtain⟨hs1,hm1⟩:=hm.let_go (M1:=qn M k) (λx hx=>kD x hx) (qE hm.keys);obtain⟨hs',hm'⟩:=hm1.same hs.os hs.tape hs.output hs.size λb hb=>hs.block b hb z0
  exact⟨v,rfl,ρ,⟨hs.os,hs.tape,hs.output,hs.size,λb hb _=>hs.block b hb z0,λb ⟨k',m',v',h1,h2,h3⟩=>.inl ⟨k',m',v',kD _ h1,h2,h3⟩,λ_ _ h=>h⟩,hm',
   ziD (λb h=>.inl h) hr hgr,λ_ _=>rfl⟩
 | hand k m m' r hlk hcall hfm hfm' hcl hr hk=>
  refine⟨r,.set k m',qJ hk,λo ho Keep M ρ a w hlm hm _ _ hgs=>?_⟩;have hlm':=λk m h=>zA (hlm k m h)
  obtain⟨vs0,hrun,hg⟩:=open_args hgs;refine qH.call (hrun o ho hcall.1) ?_;have hkm:=hlm' k m hlk;obtain⟨v0,hv0⟩:=(hm.rel k m hkm).name
  have hS:∀b,((Keep b∨Own M ρ b)/\qz v0≠some b)∨Own [(0,m)] (one v0) b->Keep b∨Own M ρ b:=λb hb=>
   hb.elim (λh=>h.1) λh=>.inr ⟨k,m,v0,hkm,hv0,zbx.1 h⟩
  have hlt:∀b,(Keep b∨Own M ρ b)->b < w.heap.size:=λb hb=>hb.elim (hm.kp b) λh=>(hm.old b h).1
  have hm0:zO (λb=>(Keep b∨Own M ρ b)/\qz v0≠some b) [(0,m)] (one v0) w:=by
   refine⟨λk' m1 h=>?_,X4.2 ⟨λ_ h=>(by cases h),List.Pairwise.nil⟩,λk1 m1 k2 m2 _ _ _ h1 h2 hne=>?_,λb hb=>?_,λb hb=>hlt b hb.1,λg v h=>⟨λho=>(hm.gl g v h).1 ⟨k,m,v0,hkm,hv0,zbx.1 ho⟩,hm.glc h⟩⟩
   ·cases h with
    | head=>exact j8.move (by rw[uO,hv0]) hfm (λs u _ hd=>.inl (hd.less hS)) (hm.rel k m hkm)
    | tail _ h=>cases h
   ·cases h1 with
    | head=>cases h2 with
     | head=>exact absurd rfl hne
     | tail _ h=>cases h
    | tail _ h=>cases h
   ·have:=zbx.1 hb;exact⟨(hm.old b ⟨k,m,v0,hkm,hv0,this⟩).1,λh=>h.2 this⟩
  have hgv:=zsI (Pm':=Own [(0,m)] (one v0)) hlm' hm hlk hv0 hS (λb hb=>zbx.1 hb) hg hcl
  refine(hcall.2 _ (one v0) w _ (λb hb=>hlt b hb.1) hm0 (λk' hk'=>by
   have:k'≠0:=by simp at hk';omega
   simp[one,this]) hgv).mono ?_
  rintro e w' ⟨v,ρ',rfl,hs,hm',hgr⟩
  have hρ0:ρ' 0=some v0:=hs.rho 0 v0 uO
  have hown':∀b,Own [(0,m')] ρ' b->qz v0=some b:=by
   rintro b ⟨k1,m1,v1,h,h1,h2⟩
   cases h with
   | head=>rw[hρ0]at h1;cases h1;exact h2
   | tail _ h=>cases h
  have hkeys:(qM M k m').map (·.1)=M.map (·.1):=zaI
  have hst:Stp (Own M ρ) (Own (qM M k m') ρ) ρ ρ w w':=
   ⟨hs.os,hs.tape,hs.output,hs.size,λb hb hn=>hs.block b hb λho=>hn ⟨k,m,v0,hkm,hv0,zbx.1 ho⟩,λb hb=>.inl (zad hkeys.symm hb),λ_ _ h=>h⟩
  have hback:∀b,Keep b∨Own (qM M k m') ρ b->((Keep b∨Own M ρ b)/\qz v0≠some b)∨Own [(0,m')] ρ' b:=λb hb=>by
   by_cases hbv:qz v0=some b
   ·exact .inr ⟨0,m',v0,.head _,hρ0,hbv⟩
   ·exact .inl ⟨hb.imp id λh=>zad hkeys.symm h,hbv⟩
  refine⟨v,rfl,ρ,hst,zO.next k hm hst (yS hkeys hm.keys) ?_ ?_ ?_,ziD hback hr hgr,λ_ _=>rfl⟩
  ·intro k' m1 h1 hne
   rcases jQ hm.keys _ h1 with⟨_,h2⟩ | h2
   ·refine⟨h2,rfl,λv' b' hv' hb'=>hs.block b' (hm.old b' ⟨k',m1,v',h2,hv',hb'⟩).1 λho=>?_⟩;exact hm.apart k' m1 k m v' v0 b' h2 hkm hne hv' hv0 hb' (zbx.1 ho)
   ·cases h2;exact absurd rfl hne
  ·intro m1 h1
   rcases jQ hm.keys _ h1 with⟨h2,_⟩ | h2
   ·exact absurd rfl h2
   ·cases h2
    exact j8.move (by rw[hv0,hρ0]) hfm' (λs u _ hd=>.inl (hd.less hback)) (hm'.rel 0 m' (.head _))
  ·intro m1 v' b' _ hv' hb';rw[hv0]at hv';cases hv'
   have ho:Own M ρ b':=⟨k,m,v0,hkm,hv0,hb'⟩;refine⟨λk' m2 v2 h2 hne hv2 hb2=>?_,Xr (hm.old b' ho).1 hs.size,(hm.old b' ho).2⟩
   rcases jQ hm.keys _ h2 with⟨_,h3⟩ | h3
   ·exact hm.apart k' m2 k m v2 v0 b' h3 hkm hne hv2 hv0 hb2 hb'
   ·cases h3;exact absurd rfl hne
 | give ks nn args' Mc M' r hcall ha hl hn hk hM hr hM' hkk=>
  refine⟨_,_,qJ (zfW hkk),λo ho Keep M ρ a w hlm hm hκ _ hgs=>?_⟩;obtain⟨vs0,hrun,hg⟩:=open_args hgs;exact qH.call (hrun o ho hcall.1)<|zrp hcall ha hl hn hk hM hr hM' hlm hm hκ hg
theorem zBD{vs:List Value}{S Pm:Nat->Prop}{ρ:zk}{w:World}:Gs S Pm ρ w (vs.map .val) vs:=by
 refine⟨by simp,λj s v h1 h2=>?_⟩;rw[XC,h2]at h1
 cases h1
 exact .d _ _ (.val v)
theorem ofV_g{v:Value}:G S Pm ρ w (ofV v) v:=by
 unfold ofV
 split
 ·rename_i a;have this:=zBD (vs:=a.toList) (S:=S) (Pm:=Pm) (ρ:=ρ) (w:=w);have h:=G.agg (S:=S) (Pm:=Pm) (ρ:=ρ) (w:=w) _ _ this.1 this.2
  simpa using h
 ·exact .d _ _ (.val v)
theorem zBE:Gs S Pm ρ w (vs.map ofV) vs:=by
 refine⟨by simp,λj s v h1 h2=>?_⟩;rw[XC,h2]at h1
 cases h1
 exact ofV_g
theorem zjp:∀{cs:List SV} {K:List Value->Prop},zsy cs K->∃vs,K vs/\cs=vs.map .val
 | [],K,h=>⟨[],h,rfl⟩
 | .val v::cs,K,h=>by
  have h:zsy cs λvs=>K (v::vs):=h
  obtain⟨vs,h1,h2⟩:=zjp h;exact⟨v::vs,h1,by rw[h2];rfl⟩
theorem zuo{s:SV}{K:Value->Prop}(h:conc s K):∃v,K v/\∀{S Pm:Nat->Prop} {ρ:zk} {w:World} {u:Value},G S Pm ρ w s u->u=v:=by
 cases s with
 | val v=>exact⟨v,h,λhu=>hu.val_inv⟩
 | agg cs=>
  obtain⟨vs,h1,h2⟩:=zjp h;refine⟨_,h1,λhu=>?_⟩;obtain⟨us,rfl,hus⟩:=hu.agg_inv;subst h2
  have:us=vs:=by
   refine Ke λj=>?_
   have hl:=hus.1;rw[Xz]at hl
   rcases Qe j vs.length with hj | hj
   ·have h1:=hus.2 j (.val vs[j]) (us[j]'oM) (by simp[hj]) (by simp);rw[Xb oM,Xb hj,h1.val_inv]
   ·rw[XD oM,XD hj]
  rw[this]
 | _=>exact h.elim
theorem zjq:∀{cs:List SV} {K:List Value->Prop},zsz cs K->∃vs,K vs/\∀{S Pm:Nat->Prop} {ρ:zk} {w:World} {us:List Value},Gs S Pm ρ w cs us->us=vs
 | [],K,h=>⟨[],h,λhg=>hg.nil_inv⟩
 | c::cs,K,h=>by
  have h:conc c λv=>zsz cs λvs=>K (v::vs):=h
  obtain⟨v,h,h1⟩:=zuo h;obtain⟨vs,h,h2⟩:=zjq h;refine⟨v::vs,h,λhg=>?_⟩;obtain⟨u,us,rfl,g1,g2⟩:=hg.cons_inv;rw[h1 g1,h2 g2]
theorem zha(hT:TOK P Γ) {op:Op}(hlive:Live lm svs)
  (h:opV P Γ op svs lm κ K):∃r md,K r md/\yK P op svs lm κ r md:=by
 unfold opV at h
 split at h
 ·rename_i x s;exact⟨s,.none,h,.pure λo ho S Pm ρ a w hgs=>⟨_,by simp[execOp,ho],Gs.head hgs⟩⟩
 ·rename_i x s;exact⟨s,.none,h,.pure λo ho S Pm ρ a w hgs=>⟨_,by simp[execOp,ho],Gs.head hgs⟩⟩
 ·obtain⟨r,h1,h2⟩:=zrk h;exact⟨r,_,h1,h2⟩
 ·exact zoG hT h
 ·exact zrq h
 ·obtain⟨r,h1,h2⟩:=zoO hT h;exact⟨r,_,h1,h2⟩
 ·exact zg6 hT h
 ·obtain⟨r,h1,h2⟩:=zrl hT h;exact⟨r,_,h1,h2⟩
 ·exact zoH hT h
 ·split at h
  ·exact⟨_,_,h,.pure λo ho S Pm ρ a w hgs=>by
    obtain⟨b,hρ,hx⟩:=(Gs.head hgs).loc_inv
    exact⟨_,by simp[execOp,ho,hx],.loc _ _ b hρ⟩⟩
  ·rename_i cs
   exact⟨_,_,h,.pure λo ho S Pm ρ a w hgs=>by
    have hg:=Gs.head hgs;obtain⟨b,o',c,hx,_⟩:=hg.ptr_inv;rw[hx]at hg
    exact⟨_,by simp[execOp,ho,hx],hg⟩⟩
  ·rename_i cs
   exact⟨_,_,h,.pure λo ho S Pm ρ a w hgs=>by
    have hg:=Gs.head hgs;obtain⟨b,o',c,hx,_⟩:=hg.dptr_inv;rw[hx]at hg
    exact⟨_,by simp[execOp,ho,hx],hg⟩⟩
  ·exact⟨_,_,h,.pure λo ho S Pm ρ a w hgs=>by
    have hg:=Gs.head hgs;obtain⟨b,len,cap,_,hx⟩:=hg.eloc_inv;rw[hx]at hg
    exact⟨_,by simp[execOp,ho,hx],hg⟩⟩
  ·exact⟨_,_,h,.pure λo ho S Pm ρ a w hgs=>by
    have hg:=Gs.head hgs;obtain⟨v,hx,_⟩:=hg.ifc_inv;rw[hx]at hg
    exact⟨_,by simp[execOp,ho,hx],hg⟩⟩
  ·exact h.elim
 ·obtain⟨r,h1,h2⟩:=zui hT h;exact⟨r,_,h1,h2⟩
 ·obtain⟨r,h1,h2⟩:=zwj h;exact⟨r,_,h1,h2⟩
 ·rename_i src t x s;replace h:=zt h;obtain⟨i0,hi0,h⟩:=h;obtain⟨d0,hd0⟩:=(hT src i0 hi0).und;replace h:=zt h;obtain⟨i,hi,h⟩:=h;have hk:=(hT t i hi).kind
  split at h
  ·rename_i k k' n hkind;rw[hkind]at hk;have hk:P.underlying t=some (.int k):=hk;refine⟨_,_,vi h,.pure λo ho S Pm ρ a w hgs=>⟨.int k (k.wrap n),?_,(j9.val _).g⟩⟩;have hx:=(Gs.head hgs).val_inv;simp[execOp,ho,hx,convert,run_underlying hd0,run_underlying hk,Conv.intToInt]
  ·exact h.elim
 ·rename_i fn first caps
  split at h
  ·rename_i f
   split at h
   ·rename_i he;refine⟨_,_,h,.pure λo ho S Pm ρ a w hgs=>?_⟩;have hf:first=#[]:=by simpa using he
    subst hf;replace hgs:Gs S Pm ρ w svs (caps.toList.map a.eval):=hgs;refine⟨.func (.func f) #[] (caps.toList.map a.eval).toArray,?_,.fn f _ _ hgs.1 hgs.2⟩;have he:caps.map a.eval=(caps.toList.map a.eval).toArray:=by apply QA;simp
    rw[← he];simp[execOp,ho,Instr.makeFunc]
   ·replace h:=zi h;obtain⟨he,h⟩:=h
    split at h
    rotate_left
    ·replace h:=zi h;obtain⟨hfl,h⟩:=h;have hf:caps=#[]:=by simpa using he
     subst hf;refine⟨_,_,h,.pure λo ho S Pm ρ a w hgs=>?_⟩;have hgs:Gs S Pm ρ w svs ((first.toList++[]).map a.eval):=hgs;rw[Xy]at hgs;refine⟨.func (.func f) (first.toList.map a.eval).toArray #[],?_,.d _ _ (.bm f _ _ hgs.1 λj s v h1 h2=>uH (yT hfl j s h1) (hgs.2 j s v h1 h2))⟩;have he:first.map a.eval=(first.toList.map a.eval).toArray:=by apply QA;simp
     rw[← he];simp[execOp,ho,Instr.makeFunc]
    obtain⟨vs,h,h1⟩:=zjq h;have hf:caps=#[]:=by simpa using he
    subst hf;refine⟨_,_,h,.pure λo ho S Pm ρ a w hgs=>⟨_,?_,.d _ _ (.val _)⟩⟩;have hgs:Gs S Pm ρ w svs ((first.toList++[]).map a.eval):=hgs;rw[Xy]at hgs;have he:first.map a.eval=vs.toArray:=by apply QA;simpa using h1 hgs
    simp[execOp,ho,Instr.makeFunc,he]
  ·exact h.elim
 ·exact zir hT h
 ·exact znj hT h
 ·obtain⟨r,h1,h2⟩:=zio hT h;exact⟨r,_,h1,h2⟩
 ·obtain⟨r,h1,h2⟩:=zoK hT h;exact⟨r,_,h1,h2⟩
 ·obtain⟨r,h1,h2⟩:=ziq hT h;exact⟨r,_,h1,h2⟩
 ·obtain⟨r,h1,h2⟩:=zoL hT h;exact⟨r,_,h1,h2⟩
 ·rename_i x n s
  split at h
  ·rename_i vs
   split at h
   ·rename_i v r hd;refine⟨_,_,qJ h,.pure λo ho S Pm ρ a w hgs=>?_⟩;obtain⟨us,hx,hus⟩:=(Gs.head hgs).tup_inv;have hg:=hus.drop n;rw[hd]at hg;obtain⟨u,us',hu,h1,_⟩:=hg.cons_inv
    have hu':us[n]? =some u:=by
     have:(us.drop n)[0]? =some u:=by rw[hu];rfl
     simpa using this
    exact⟨u,by simp[execOp,ho,hx,Instr.extract,hu'],h1⟩
   ·exact h.elim
  ·exact h.elim
 ·obtain⟨r,h1,h2⟩:=zlj hT h;exact⟨r,_,h1,h2⟩
 ·obtain⟨r,h1,h2⟩:=znh hT h;exact⟨r,_,h1,h2⟩
 ·exact zli hT h
 ·exact zis hT h
 ·exact znf hT h
 ·obtain⟨r,h1,h2⟩:=zng hT h;exact⟨r,_,h1,h2⟩
 ·rename_i svs c
  split at h
  ·rename_i fx hc
   split at h
   ·rename_i f caps args;refine za0 (λ{S Pm ρ a w} hg=>?_) h;have hg:Gs S Pm ρ w (.fn f caps::args) (a.eval fx::c.args.toList.map a.eval):=by simpa[qf,hc,zcr] using hg
    obtain⟨cv,h1,h2⟩:=hg.head.fn_inv;exact⟨_,λo ho hcl=>zfT (fs:=[]) ho hc h1 rfl hcl,hg.tail.append h2⟩
   ·rename_i f first args
    refine za0 (λ{S Pm ρ a w} hg=>?_) h;have hg:Gs S Pm ρ w (.val (.func (.func f) first ⟨[]⟩)::args) (a.eval fx::c.args.toList.map a.eval):=by simpa[qf,hc,zcr] using hg
    refine⟨first.toList++(_++[]),λo ho hcl=>zfT (fs:=first.toList) (caps:=[]) ho hc hg.head.val_inv rfl hcl,zBE.append ?_⟩;rw[Xy];exact hg.tail
   ·rename_i f caps args;refine za0 (λ{S Pm ρ a w} hg=>?_) h;have hg:Gs S Pm ρ w (.dfn f caps::args) (a.eval fx::c.args.toList.map a.eval):=by simpa[qf,hc,zcr] using hg
    obtain⟨cv,h1,h2⟩:=hg.head.dfn_inv;exact⟨_,λo ho hcl=>zfT (fs:=[]) ho hc h1 rfl hcl,hg.tail.append h2⟩
   ·rename_i f first args
    refine za0 (λ{S Pm ρ a w} hg=>?_) h;have hg:Gs S Pm ρ w (.bm f first::args) (a.eval fx::c.args.toList.map a.eval):=by simpa[qf,hc,zcr] using hg
    obtain⟨fv,h1,h2⟩:=hg.head.bm_inv;refine⟨fv++(_++[]),λo ho hcl=>zfT (fs:=fv) (caps:=[]) ho hc h1 rfl hcl,h2.append ?_⟩;rw[Xy];exact hg.tail
   ·exact h.elim
  ·rename_i rx name hc
   split at h
   ·rename_i t s args;obtain⟨f,hmb,h⟩:=h;refine za0 (λ{S Pm ρ a w} hg=>?_) h;have hg:Gs S Pm ρ w (.ifc t s::args) (a.eval rx::c.args.toList.map a.eval):=by simpa[qf,hc,zcr] using hg
    obtain⟨v,h1,h2⟩:=hg.head.ifc_inv;exact⟨_,λo ho hcl=>zrn ho hc h1 hmb hcl,.cons h2 hg.tail⟩
   ·exact h.elim
  ·rename_i b hb;exact zlh hT hb hlive h
 ·exact h.elim
end
end Go.Gs
