/- The operations on numbers: what is left to be shown is enough. -/
import Derived.Test.YtjfbljononkmcaaMA
import Derived.Test.YtjfbljononkmcaaMAC
import Derived.Laws.BitsLemmas
import Derived.Laws.Small
import Derived.ChangeKeysEq
import Derived.Laws.CopyRow
import Derived.Laws.Cover3
set_option maxRecDepth 100000
set_option maxHeartbeats 8000000
set_option linter.all false
namespace Go.Gs
theorem vU{k k':IntKind}(h:zfb k k'=true):k=k':=by cases k <;> cases k' <;> first | rfl | (simp [zfb] at h)
def InK(k:IntKind)(e:Int):Prop:=
 match k with
 | .i64=> -9223372036854775808<=e/\e<=9223372036854775807
 | .i32=> -2147483648<=e/\e<=2147483647
 | .i16=> -32768<=e/\e<=32767
 | .i8=> -128<=e/\e<=127
 | .u64=>0<=e/\e<=18446744073709551615
 | .u32=>0<=e/\e<=4294967295
 | .u16=>0<=e/\e<=65535
 | .u8=>0<=e/\e<=255
theorem zcJ{k:IntKind}{e:Int}(h:InK k e):k.wrap e=e:=by
 cases k <;> simp only [InK] at h <;> simp [IntKind.wrap,IntKind.bits,IntKind.signed] <;> (try split) <;> omega
theorem qj{k:IntKind}{e:Int}{K:SV->Prop}(h:za3 k e K):K (.val (.int k (k.wrap e))):=by
 cases k <;> simp only [za3] at h <;> cases h with
 | fit h1 h2=>rw [zcJ (by exact h1)];exact h2
 | wrap h=>exact h
def kg(s:SV)(v:Value):Prop:=(∃u,s=.val u/\v=u)∨∃p i,s=.pr p i/\v=.bool (@decide p i)
theorem kg.g{s:SV}{v:Value}(h:kg s v){S Pm:Nat->Prop}{ρ:zd}{w:World}:G S Pm ρ w s v:=by
 rcases h with ⟨u,rfl,rfl⟩ | ⟨p,i,rfl,rfl⟩
 ·exact .d _ _ (.val _)
 ·exact .d _ _ (.pr p i)
theorem kg.val(v:Value):kg (.val v) v:=.inl ⟨v,rfl,rfl⟩
theorem kg.pr{p:Prop}{i:Decidable p}{b:Bool}(h:b=@decide p i):kg (.pr p i) (.bool b):=.inr ⟨p,i,rfl,by rw [h]⟩
theorem zg9{k:IntKind}{e:Int}(h0:0<=e)(h1:e<=kmax k):InK k e:=by cases k <;> simp only [kmax,InK] at*<;> omega
theorem zdS{op:BinOp}{k:IntKind}{m n:Int}{K:SV->Prop}(hs:zel op=false)(h:intV op k m n K):
  ∃s,K s/\∃v,kg s v/\∀(P:Program) (t:TypeId) (w:World),(binOp op t (.int k m) (.int k n)).run P w=.ok v w:=by
 cases op <;> simp only [intV] at h <;> try (exact h.elim)
 case add=>exact ⟨_,qj h,_,.val _,fun P t w=>by simp [binOp,Op.intArith]⟩
 case sub=>exact ⟨_,qj h,_,.val _,fun P t w=>by simp [binOp,Op.intArith]⟩
 case mul=>exact ⟨_,qj h,_,.val _,fun P t w=>by simp [binOp,Op.intArith]⟩
 case quo=>
  cases h with
  | pos h1 h2=>
   refine ⟨_,h2,_,.val _,fun P t w=>?_⟩;have h3:n≠0:=oM;have h4:m.tdiv n=m / n:=Int.tdiv_eq_ediv_of_nonneg h1.1;have h5:0<=m / n:=Int.ediv_nonneg h1.1 oM;have h6:m / n<=m:=Int.ediv_le_self n h1.1;simp [binOp,Op.intDiv,h3,h4,zcJ (zg9 h5 (Int.le_trans h6 h1.2.2))]
  | any h1 h2=>exact ⟨_,qj h2,_,.val _,fun P t w=>by simp [binOp,Op.intDiv,h1]⟩
 case rem=>
  cases h with
  | pos h1 h2=>
   refine ⟨_,h2,_,.val _,fun P t w=>?_⟩;have h3:n≠0:=oM;have h4:m.tmod n=m % n:=Int.tmod_eq_emod_of_nonneg h1.1;simp [binOp,Op.intDiv,h3,h4]
  | any h1 h2=>exact ⟨_,h2,_,.val _,fun P t w=>by simp [binOp,Op.intDiv,h1]⟩
 case eql=>exact ⟨_,h,.bool (m==n),.pr (by rw [Bool.eq_iff_iff];simp),fun P t w=>by simp [binOp,Op.intCmp]⟩
 case neq=>exact ⟨_,h,.bool (m != n),.pr (by rw [Bool.eq_iff_iff];simp),fun P t w=>by simp [binOp,Op.intCmp]⟩
 case lss=>exact ⟨_,h,.bool (decide (m < n)),.pr rfl,fun P t w=>by simp [binOp,Op.intCmp]⟩
 case leq=>exact ⟨_,h,.bool (decide (m<=n)),.pr rfl,fun P t w=>by simp [binOp,Op.intCmp]⟩
 case gtr=>exact ⟨_,h,.bool (decide (m > n)),.pr rfl,fun P t w=>by simp [binOp,Op.intCmp]⟩
 case geq=>exact ⟨_,h,.bool (decide (m≥n)),.pr rfl,fun P t w=>by simp [binOp,Op.intCmp]⟩
 case and=>
  obtain ⟨r,hr,h⟩:=h;refine ⟨_,h,.int k r,.val _,fun P t w=>?_⟩;rw [hr];simp [binOp,Op.intBits,yc]
 case or=>
  obtain ⟨r,hr,h⟩:=h;refine ⟨_,h,.int k r,.val _,fun P t w=>?_⟩;rw [hr];simp [binOp,Op.intBits,yc]
 case xor=>
  obtain ⟨r,hr,h⟩:=h;refine ⟨_,h,.int k r,.val _,fun P t w=>?_⟩;rw [hr];simp [binOp,Op.intBits,yc]
 case andNot=>
  obtain ⟨r,hr,h⟩:=h;refine ⟨_,h,.int k r,.val _,fun P t w=>?_⟩;rw [hr];simp [binOp,Op.intBits,yc]
theorem zfZ(m:Int)(c:Nat):m.fdiv (2 ^ c)=m / 2 ^ c:=Int.fdiv_eq_ediv_of_nonneg m (Int.pow_nonneg oM)
theorem zb9{op:BinOp}{y:Operand}{k k':IntKind}{m n:Int}{K:SV->Prop}(h:zdH op y k m n K):
  ∃s,K s/\∃v,kg s v/\∀(P:Program) (t:TypeId) (w:World),(binOp op t (.int k m) (.int k' n)).run P w=.ok v w:=by
 unfold zdH at h
 split at h
 ·split at h
  ·rename_i c;have hc:min c k.bits=c:=by have:=h.ob;omega
   refine ⟨_,qj h.go,_,.val _,fun P t w=>?_⟩;simp [binOp,Op.shift,hc];intro hn;omega
  ·exact h.elim
 ·obtain ⟨h0,h1⟩:=h.ob;have hc:min n.toNat k.bits=n.toNat:=oM;refine ⟨_,qj h.go,_,.val _,fun P t w=>?_⟩;simp [binOp,Op.shift,hc,show ¬n < 0 by omega]
 ·split at h
  ·rename_i c;have hc:min c k.bits=c:=by have:=h.ob;omega
   refine ⟨_,h.go,_,.val _,fun P t w=>?_⟩;simp [binOp,Op.shift,hc,zfZ];intro hn;omega
  ·exact h.elim
 ·obtain ⟨h0,h1⟩:=h.ob;have hc:min n.toNat k.bits=n.toNat:=oM;refine ⟨_,h.go,_,.val _,fun P t w=>?_⟩;simp [binOp,Op.shift,hc,show ¬n < 0 by omega,zfZ]
 ·exact h.elim
def eqB:List Value->List Value->Bool
 | .int _ m::r,.int _ n::r'=>(m==n)&&eqB r r'
 | [],[]=>true
 | _,_=>false
inductive kQ:List Value->List Value->Prop
 | nil:kQ [] []
 | cons (k:IntKind) (m n:Int) {r r':List Value} (h:kQ r r'):kQ (.int k m::r) (.int k n::r')
theorem ux{cs ds:List SV}:∀{K:(p:Prop)->Decidable p->Prop},uo cs ds K->∃p i,K p i/\
  ∀{S Pm:Nat->Prop} {ρ:zd} {w:World} {vs us:List Value},Gs S Pm ρ w cs vs->Gs S Pm ρ w ds us->kQ vs us/\eqB vs us=@decide p i:=by
 induction cs generalizing ds with
 | nil=>
  intro K h
  cases ds with
  | nil=>exact ⟨True,_,h,fun h1 h2=>by rw [h1.nil_inv,h2.nil_inv];exact ⟨.nil,rfl⟩⟩
  | cons d ds=>exact h.elim
 | cons c cs ih=>
  intro K h
  cases ds with
  | nil=>exact h.elim
  | cons d ds=>
   simp only [uo] at h;have h:=zS (zS h)
   split at h
   ·rename_i k m k' n;obtain ⟨hk,h'⟩:=zb h;obtain ⟨p,i,hK,hp⟩:=ih h';have hk:=vU hk;refine ⟨_,_,hK,fun h1 h2=>?_⟩;obtain ⟨v,vs,rfl,h3,h4⟩:=h1.cons_inv;obtain ⟨u,us,rfl,h5,h6⟩:=h2.cons_inv;subst hk;rw [h3.val_inv,h5.val_inv];obtain ⟨h7,h8⟩:=hp h4 h6;refine ⟨.cons _ _ _ h7,?_⟩;simp only [eqB,h8];rw [Bool.eq_iff_iff];simp
   ·exact h.elim
theorem kQ.length{vs us:List Value}(h:kQ vs us):vs.length=us.length:=by induction h <;> simp_all
theorem kQ.drop{vs us:List Value}(n:Nat)(h:kQ vs us):kQ (vs.drop n) (us.drop n):=by
 induction n generalizing vs us with
 | zero=>exact h
 | succ n ih=>cases h with
  | nil=>exact .nil
  | cons k m n h=>exact ih h
theorem kQ.take{vs us:List Value}(n:Nat)(h:kQ vs us):kQ (vs.take n) (us.take n):=by
 induction n generalizing vs us with
 | zero=>exact .nil
 | succ n ih=>cases h with
  | nil=>exact .nil
  | cons k m n h=>exact .cons _ _ _ (ih h)
theorem zbn{vs us:List Value}(n:Nat)(h:kQ vs us):eqB vs us=(eqB (vs.take n) (us.take n)&&eqB (vs.drop n) (us.drop n)):=by
 induction n generalizing vs us with
 | zero=>simp [eqB]
 | succ n ih=>cases h with
  | nil=>rfl
  | cons k m n h=>simp [eqB,ih h,Bool.and_assoc]
def yy(agg:Bool)(vs:List Value):Value:=if agg then .agg vs.toArray else vs.headD undef
theorem jz{P:Program}{t:TypeId}{i:TI}(hT:vI P t i)(vs:List Value)(off:Nat)(h:off+i.sz<=vs.length)(hz:i.kind.agg=false->i.sz=1)(w:World):
  (part t vs.toArray off).run P w=.ok (yy i.kind.agg ((vs.drop off).take i.sz)) w:=by
 unfold part;rw [Sem.run_bind,hT.agg w,Result.andThen_ok]
 cases hk:i.kind.agg with
 | true=>simp [hT.size,yy]
 | false=>
  have h1:=hz hk;have hlt:off < vs.length:=oM;have h2:(List.take 1 (List.drop off vs))=[vs[off]]:=by rw [List.drop_eq_getElem_cons hlt];rfl
  simp [yy,h1,hlt,h2]
theorem zcK {P:Program} {Γ:List (TypeId×TI)} (hT:TOK P Γ) (n:Nat)
  (ih:∀t i,ti Γ t=some i->uq Γ n t=true->(i.kind.agg=false->i.sz=1)/\∀(d:Nat) (vs us:List Value) (w:World),vs.length=i.sz->kQ vs us->
   (Op.equalIn (n+d) t (yy i.kind.agg vs) (yy i.kind.agg us)).run P w=.ok (eqB vs us) w) (d sz:Nat) (vs us:List Value) (hl:vs.length=sz) (hp:kQ vs us) (w:World):
  ∀(F:List Field) (at_:Nat),v7 Γ (uq Γ n) (F.map fun f=>(f.offset,f.type)) at_ sz=true->(∀f∈F,f.name≠ "_")->
   at_<=sz/\(Op.eqFields (n+d) vs.toArray us.toArray F).run P w=.ok (eqB (vs.drop at_) (us.drop at_)) w
 | [],at_,h,_=>by
  simp only [List.map_nil,v7] at h;have h:=Nat.eq_of_beq_eq_true h;subst h;have hlu:=hp.length;simp [Op.eqFields,List.drop_of_length_le (Nat.le_of_eq hl),List.drop_of_length_le (Nat.le_of_eq (hlu ▸ hl)),eqB]
 | f::F,at_,h,hn=>by
  simp only [List.map_cons,v7] at h
  split at h
  ·rename_i j hj;obtain ⟨h1,h⟩:=zu h;obtain ⟨h2,h3⟩:=zu h;have h1:=Nat.eq_of_beq_eq_true h1;obtain ⟨hz,he⟩:=ih _ _ hj h2;obtain ⟨h4,h5⟩:=zcK hT n ih d sz vs us hl hp w F (at_+j.sz) h3 (fun f hf=>hn f (.tail _ hf));have hlu:=hp.length;have p1:=jz (hT _ _ hj) vs f.offset oM hz w;have p2:=jz (hT _ _ hj) us f.offset oM hz w;have he':=he d ((vs.drop f.offset).take j.sz) ((us.drop f.offset).take j.sz) w (by simp;omega) ((hp.drop _).take _);refine ⟨oM,?_⟩;have hs:=zbn j.sz (hp.drop f.offset)
   simp only [Op.eqFields,hn f (.head _),ne_eq,not_false_eq_true,if_true,Sem.run_bind,p1,p2,Result.andThen_ok,he'];rw [← h1,hs]
   cases hb:eqB ((vs.drop f.offset).take j.sz) ((us.drop f.offset).take j.sz) with
   | true=>simp [h5,h1,List.drop_drop]
   | false=>simp
  ·cases h
theorem yz{P:Program}{Γ:List (TypeId×TI)}(hT:TOK P Γ):∀(n:Nat) (t:TypeId) (i:TI),ti Γ t=some i->uq Γ n t=true->
  (i.kind.agg=false->i.sz=1)/\∀(d:Nat) (vs us:List Value) (w:World),vs.length=i.sz->kQ vs us->
   (Op.equalIn (n+d) t (yy i.kind.agg vs) (yy i.kind.agg us)).run P w=.ok (eqB vs us) w
 | 0,t,i,hi,h=>by simp [uq] at h
 | n+1,t,i,hi,h=>by
  unfold uq at h;rw [hi] at h;simp only at h;have hK:=(hT t i hi).kind
  split at h
  ·rename_i k hk;rw [hk] at hK;have hz:=Nat.eq_of_beq_eq_true h;refine ⟨fun _=>hz,fun d vs us w hl hp=>?_⟩;rw [hz] at hl
   cases hp with
   | nil=>simp at hl
   | cons k' m m' h=>
    cases h with
    | nil=>
     rw [show n+1+d=(n+d)+1 by omega];simp only [hk,TK.agg,yy,Bool.false_eq_true,if_false,List.headD_cons,run_equalIn_int w _ t k' k m _ hK,eqB,Bool.and_true]
    | cons=>simp at hl
  ·rename_i fs hk;obtain ⟨hc,hg⟩:=zu h;rw [hk] at hK;obtain ⟨F,hF,hmap,_⟩:=hK;obtain ⟨h1,h2,h3⟩:=(hT t i hi).cmp hc;have hfo:P.fieldsOf t=F:=by simp [Program.fieldsOf,hF]
   refine ⟨fun h=>(by rw [hk] at h;cases h),fun d vs us w hl hp=>?_⟩;rw [show n+1+d=(n+d)+1 by omega];rw [← hmap] at hg;have:=(zcK hT n (yz hT n) d i.sz vs us hl hp w F.toList 0 hg (by rw [← hfo];exact h3)).2;simp only [hk,TK.agg,yy,if_true];rw [run_equalIn_struct w (n+d) t _ _ (by rw [hfo];exact hF) h1,hfo]
   simpa using this
  ·rename_i len e hk;obtain ⟨hc,g1⟩:=zu h;obtain ⟨hlen,g2⟩:=zu g1;obtain ⟨hisz,g3⟩:=zu g2;have hlen:=Nat.eq_of_beq_eq_true hlen;have hisz:=Nat.eq_of_beq_eq_true hisz;subst hlen;clear h g1 g2
   cases hj:ti Γ e with
   | some j=>
    rw [hj] at g3;obtain ⟨hjz,hje⟩:=zu g3;have hjz:=Nat.eq_of_beq_eq_true hjz;rw [hk] at hK;have hK:P.underlying t=some (.array 2 e):=hK;obtain ⟨hz,he⟩:=yz hT n e j hj hje;refine ⟨fun h=>(by rw [hk] at h;cases h),fun d vs us w hl hp=>?_⟩;rw [show n+1+d=(n+d)+1 by omega];simp only [hk,TK.agg,yy,if_true];obtain ⟨f,hf,hfs,_⟩:=(hT e j hj).inf;rw [run_equalIn_array w (n+d) _ _ hK hf];have hco:P.cellsOf e=1:=by unfold Program.cellsOf;rw [hf];simp [hfs,hjz]
    have hlu:=hp.length;have p1:=jz (hT e j hj) vs 0 oM hz w;have p2:=jz (hT e j hj) us 0 oM hz w;have p3:=jz (hT e j hj) vs 1 oM hz w;have p4:=jz (hT e j hj) us 1 oM hz w;have e1:=he d ((vs.drop 0).take j.sz) ((us.drop 0).take j.sz) w (by simp;omega) ((hp.drop 0).take _);have e2:=he d ((vs.drop 1).take j.sz) ((us.drop 1).take j.sz) w (by simp;omega) ((hp.drop 1).take _);have hs:=zbn 1 hp;have t1:(vs.drop 1).take j.sz=vs.drop 1:=List.take_of_length_le (by simp;omega);have t2:(us.drop 1).take j.sz=us.drop 1:=List.take_of_length_le (by simp;omega)
    rw [t1,t2] at e2;rw [hjz] at e1;rw [t1] at p3;rw [t2] at p4;rw [hjz] at p1 p2;rw [hs,hco];have hr2:List.range 2=[0,1]:=rfl;rw [hr2];simp only [Op.eqItems,Sem.run_bind,Nat.zero_mul,Nat.one_mul,p1,p2,p3,p4,Result.andThen_ok,e1,e2];simp only [List.drop_zero]
    cases hb:eqB (vs.take 1) (us.take 1) with
    | true=>
     rw [hb] at*
     cases hb2:eqB (vs.drop 1) (us.drop 1) with
     | true=>rw [hb2,List.drop_one,List.drop_one] at e2;simp [p3,p4,e2]
     | false=>rw [hb2,List.drop_one,List.drop_one] at e2;simp [p3,p4,e2]
    | false=>simp
   | none=>rw [hj] at g3;cases g3
  ·cases h
theorem yL{s:SV}{K:(p:Prop)->Decidable p->Prop}(h:zfa s K):∃p i,K p i/\∀{S Pm:Nat->Prop} {ρ:zd} {w:World} {v:Value},G S Pm ρ w s v->v=.bool (@decide p i):=by
 unfold zfa at h
 split at h
 ·exact ⟨_,_,h,fun hg=>hg.pr_inv⟩
 ·exact ⟨_,_,h,fun hg=>by rw [hg.val_inv];rfl⟩
 ·exact ⟨_,_,h,fun hg=>by rw [hg.val_inv];rfl⟩
 ·exact h.elim
section
variable {P:Program} {op:Op} {svs:List SV} {lm:Nat->Option Mem} {κ:Nat}
theorem kE.pure {s:SV} (h:∀(o:Oper),o.op=op->∀(S Pm:Nat->Prop) (ρ:zd) (a:Act) (w:World),Gs S Pm ρ w svs ((zG op).map a.eval)->
  ∃v,(execOp a.eval o).run P w=.ok (.value v) w/\G S Pm ρ w s v):kE P op svs lm κ s .none:=by
 intro o ho Keep M ρ a w _ hm _ _ hg;obtain ⟨v,h1,h2⟩:=h o ho _ _ ρ a w hg;exact zO.value h1 (zE.same hm h2)
theorem kE.read {s:SV} (h:∀(o:Oper),o.op=op->∀(Keep:Nat->Prop) (M:List (Nat×Mem)) (ρ:zd) (a:Act) (w:World),(∀k m,lm k=some m->(k,m)∈M)->zj Keep M ρ w->
  Gs (fun b=>Keep b∨Own M ρ b) (Own M ρ) ρ w svs ((zG op).map a.eval)->
  ∃v,(execOp a.eval o).run P w=.ok (.value v) w/\G (fun b=>Keep b∨Own M ρ b) (Own M ρ) ρ w s v):kE P op svs lm κ s .none:=by
 intro o ho Keep M ρ a w hlm hm _ _ hg;obtain ⟨v,h1,h2⟩:=h o ho Keep M ρ a w (fun k m h=>zg (hlm k m h)) hm hg;exact zO.value h1 (zE.same hm h2)
end
theorem qE{P:Program}{w:World}{t e:TypeId}{p:Option Addr}(h:P.underlying t=some (.pointer e)):(Op.equal t (.pointer p) (.pointer none)).run P w=.ok p.isNone w:=by
 have key:∀d,(Op.equalIn (d+1) t (.pointer p) (.pointer none)).run P w=.ok p.isNone w:=fun d=>by
  cases p <;> simp [Op.equalIn,run_underlying h]
 exact key 9999
theorem yM{P:Program}{w:World}{t u:TypeId}{v:Value}{ms:Array (String×TypeId)}(h:P.underlying t=some (.interface ms)):(Op.equal t (.iface u v) .nilIface).run P w=.ok false w:=by
 have key:∀d,(Op.equalIn (d+1) t (.iface u v) .nilIface).run P w=.ok false w:=fun d=>by simp [Op.equalIn,run_underlying h]
 exact key 9999
theorem j3{P:Program}{w:World}{t:TypeId}{ms:Array (String×TypeId)}(h:P.underlying t=some (.interface ms)):(Op.equal t .nilIface .nilIface).run P w=.ok true w:=by
 have key:∀d,(Op.equalIn (d+1) t .nilIface .nilIface).run P w=.ok true w:=fun d=>by simp [Op.equalIn,run_underlying h]
 exact key 9999
theorem zfe {P:Program} {Γ:List (TypeId×TI)} (hT:TOK P Γ) {op:BinOp} {t yt:TypeId} {x y:Operand} {a b:SV} {lm:Nat->Option Mem} {κ:Nat} {K:SV->Prop}
  (h:bin Γ op t y a b K):∃s,K s/\kE P (.binOp op t x y yt) [a,b] lm κ s .none:=by
 unfold bin at h
 split at h
 ·rename_i k m k' n
  have h2:∃s,K s/\∃v,kg s v/\∀(P:Program) (t:TypeId) (w:World),(binOp op t (.int k m) (.int k' n)).run P w=.ok v w:=by
   split at h
   ·exact zb9 h
   ·rename_i hs;obtain ⟨hk,h'⟩:=zb h;have:=vU hk;subst this;exact zdS hs h'
  obtain ⟨s,hK,v,hg,hr⟩:=h2;refine ⟨s,hK,.pure fun o ho S Pm ρ a w hgs=>⟨v,?_,hg.g⟩⟩;have hx:=(Gs.head hgs).val_inv;have hy:=(Gs.head (Gs.tail hgs)).val_inv;simp [execOp,ho,hx,hy,eqGuard_at_int,hr]
 ·rename_i cs ds;obtain ⟨i,hi,h⟩:=zc h;obtain ⟨hagg,h⟩:=zb h;obtain ⟨hlen,h⟩:=zb h;obtain ⟨hint,h⟩:=zb h;have hlen:=Nat.eq_of_beq_eq_true hlen;have hsound:=(yz hT 8 t i hi hint).2
  have hcmp:i.cmp=true:=by
   unfold uq at hint;rw [hi] at hint;simp only at hint
   split at hint
   ·rename_i hk;rw [hk] at hagg;cases hagg
   ·exact (zu hint).1
   ·exact (zu hint).1
   ·cases hint
  have hguard:=((hT t i hi).cmp hcmp).2.1
  have run:∀(cs ds:List Value) (w:World),cs.length=i.sz->kQ cs ds->(Op.equalIn 10000 t (.agg cs.toArray) (.agg ds.toArray)).run P w=.ok (eqB cs ds) w:=by
   intro cs ds w h1 h2;have:=hsound 9992 cs ds w h1 h2
   simpa [yy,hagg] using this
  split at h
  ·obtain ⟨p,ip,hK,hp⟩:=ux h;refine ⟨_,hK,.pure fun o ho S Pm ρ a w hgs=>?_⟩;obtain ⟨vs,hx,hvs⟩:=(Gs.head hgs).agg_inv;obtain ⟨us,hy,hus⟩:=(Gs.head (Gs.tail hgs)).agg_inv;obtain ⟨h1,h2⟩:=hp hvs hus;refine ⟨.bool (eqB vs us),?_,(kg.pr h2).g⟩;simp only [execOp,ho,hx,hy,Sem.run_bind,run_eqGuard_agg w _ t x y _ _ hguard,Result.andThen_ok,run_eql_struct,run vs us w (by rw [hvs.1,hlen]) h1,Sem.run_pure]
  ·obtain ⟨p,ip,hK,hp⟩:=ux h;refine ⟨_,hK,.pure fun o ho S Pm ρ a w hgs=>?_⟩;obtain ⟨vs,hx,hvs⟩:=(Gs.head hgs).agg_inv;obtain ⟨us,hy,hus⟩:=(Gs.head (Gs.tail hgs)).agg_inv;obtain ⟨h1,h2⟩:=hp hvs hus;refine ⟨.bool (!eqB vs us),?_,(kg.pr (by rw [h2];rw [Bool.eq_iff_iff];simp)).g⟩;simp only [execOp,ho,hx,hy,Sem.run_bind,run_eqGuard_agg w _ t x y _ _ hguard,Result.andThen_ok,run_neq_struct,run vs us w (by rw [hvs.1,hlen]) h1,Sem.run_pure]
  ·exact h.elim
 ·rename_i α enc xs;replace h:=zc h;obtain ⟨i,hi,h⟩:=h;have hk:=(hT t i hi).kind
  have key:∀{S Pm:Nat->Prop} {ρ:zd} {w:World} {v:Value},G S Pm ρ w (.sl enc xs) v->∃a c,v=.slice a xs.length c/\(xs.length≠0->a.isNone=false):=fun hg=>by
   rcases hg.sl_inv.sl_inv with ⟨rfl,a,rfl⟩ | ⟨_,b,o,cap,_,rfl,_⟩
   ·exact ⟨a,0,rfl,fun h=>absurd rfl h⟩
   ·exact ⟨_,cap,rfl,fun _=>rfl⟩
  have hguard:∀(w:World) (a b:Value),(∃x y z,a=.slice x y z)->(eqGuard op t x y a b).run P w=.ok () w:=fun w a b ⟨x,y,z,e⟩=>by subst e;simp [eqGuard]
  unfold zfK at h
  split at h
  ·rename_i e hkind;rw [hkind] at hk;have hk:P.underlying t=some (.slice e):=hk
   rcases h with ⟨hn,h⟩ | h
   ·refine ⟨_,h,.pure fun o ho S Pm ρ a w hgs=>?_⟩;obtain ⟨ad,c,hx,hz⟩:=key (Gs.head hgs);have hy:=(Gs.head (Gs.tail hgs)).val_inv;refine ⟨.bool false,?_,(kg.val _).g⟩;simp [execOp,ho,hx,hy,hguard,binOp,run_equal_slice_nil w t e ad _ c hk,hz hn]
   ·refine ⟨_,h,.pure fun o ho S Pm ρ a w hgs=>?_⟩;obtain ⟨ad,c,hx,hz⟩:=key (Gs.head hgs);have hy:=(Gs.head (Gs.tail hgs)).val_inv;refine ⟨.bool ad.isNone,?_,.d _ _ (.anyb _)⟩;simp [execOp,ho,hx,hy,hguard,binOp,run_equal_slice_nil w t e ad _ c hk]
  ·rename_i e hkind;rw [hkind] at hk;have hk:P.underlying t=some (.slice e):=hk
   rcases h with ⟨hn,h⟩ | h
   ·refine ⟨_,h,.pure fun o ho S Pm ρ a w hgs=>?_⟩;obtain ⟨ad,c,hx,hz⟩:=key (Gs.head hgs);have hy:=(Gs.head (Gs.tail hgs)).val_inv;refine ⟨.bool true,?_,(kg.val _).g⟩;simp [execOp,ho,hx,hy,hguard,binOp,run_equal_slice_nil w t e ad _ c hk,hz hn]
   ·refine ⟨_,h,.pure fun o ho S Pm ρ a w hgs=>?_⟩;obtain ⟨ad,c,hx,hz⟩:=key (Gs.head hgs);have hy:=(Gs.head (Gs.tail hgs)).val_inv;refine ⟨.bool (!ad.isNone),?_,.d _ _ (.anyb _)⟩;simp [execOp,ho,hx,hy,hguard,binOp,run_equal_slice_nil w t e ad _ c hk]
  ·exact h.elim
 ·replace h:=zc h;obtain ⟨i,hi,h⟩:=h;have hk:=(hT t i hi).kind;have hguard:∀(w:World) (a b:Value),(∃x y z,a=.slice x y z)->(eqGuard op t x y a b).run P w=.ok () w:=fun w a b ⟨x,y,z,e⟩=>by subst e;simp [eqGuard]
  split at h
  ·rename_i e hkind;rw [hkind] at hk;have hk:P.underlying t=some (.slice e):=hk;refine ⟨_,h,.pure fun o ho S Pm ρ a w hgs=>?_⟩;have hx:=(Gs.head hgs).val_inv;have hy:=(Gs.head (Gs.tail hgs)).val_inv;refine ⟨.bool true,?_,(kg.val _).g⟩;simp [execOp,ho,hx,hy,hguard,binOp,run_equal_slice_nil w t e none 0 0 hk]
  ·rename_i e hkind;rw [hkind] at hk;have hk:P.underlying t=some (.slice e):=hk;refine ⟨_,h,.pure fun o ho S Pm ρ a w hgs=>?_⟩;have hx:=(Gs.head hgs).val_inv;have hy:=(Gs.head (Gs.tail hgs)).val_inv;refine ⟨.bool false,?_,(kg.val _).g⟩;simp [execOp,ho,hx,hy,hguard,binOp,run_equal_slice_nil w t e none 0 0 hk]
  ·exact h.elim
 ·replace h:=zc h;obtain ⟨i,hi,h⟩:=h;have hk:=(hT t i hi).kind
  split at h
  ·rename_i e hkind;rw [hkind] at hk;have hk:P.underlying t=some (.pointer e):=hk;unfold qf at h
   split at h
   ·refine ⟨_,h,.pure fun o ho S Pm ρ a w hgs=>?_⟩;obtain ⟨b,o',c,hx,_⟩:=(Gs.head hgs).dptr_inv;have hy:=(Gs.head (Gs.tail hgs)).val_inv;exact ⟨.bool false,by simp [execOp,ho,hx,hy,eqGuard,binOp,qE hk],(kg.val _).g⟩
   ·refine ⟨_,h,.pure fun o ho S Pm ρ a w hgs=>?_⟩;obtain ⟨b,o',c,hx,_⟩:=(Gs.head hgs).dptr_inv;have hy:=(Gs.head (Gs.tail hgs)).val_inv;exact ⟨.bool true,by simp [execOp,ho,hx,hy,eqGuard,binOp,qE hk],(kg.val _).g⟩
   ·exact h.elim
  ·exact h.elim
 ·replace h:=zc h;obtain ⟨i,hi,h⟩:=h;have hk:=(hT t i hi).kind
  split at h
  ·rename_i e hkind;rw [hkind] at hk;have hk:P.underlying t=some (.pointer e):=hk;unfold qf at h
   split at h
   ·refine ⟨_,h,.pure fun o ho S Pm ρ a w hgs=>?_⟩;obtain ⟨b,o',c,hx,_⟩:=(Gs.head hgs).ptr_inv;have hy:=(Gs.head (Gs.tail hgs)).val_inv;exact ⟨.bool false,by simp [execOp,ho,hx,hy,eqGuard,binOp,qE hk],(kg.val _).g⟩
   ·refine ⟨_,h,.pure fun o ho S Pm ρ a w hgs=>?_⟩;obtain ⟨b,o',c,hx,_⟩:=(Gs.head hgs).ptr_inv;have hy:=(Gs.head (Gs.tail hgs)).val_inv;exact ⟨.bool true,by simp [execOp,ho,hx,hy,eqGuard,binOp,qE hk],(kg.val _).g⟩
   ·exact h.elim
  ·exact h.elim
 ·replace h:=zc h;obtain ⟨i,hi,h⟩:=h;have hk:=(hT t i hi).kind
  split at h
  ·rename_i e hkind;rw [hkind] at hk;have hk:P.underlying t=some (.pointer e):=hk;unfold qf at h
   split at h
   ·refine ⟨_,h,.pure fun o ho S Pm ρ a w hgs=>?_⟩;obtain ⟨b,_,hx⟩:=(Gs.head hgs).loc_inv;have hy:=(Gs.head (Gs.tail hgs)).val_inv;exact ⟨.bool false,by simp [execOp,ho,hx,hy,eqGuard,binOp,qE hk],(kg.val _).g⟩
   ·refine ⟨_,h,.pure fun o ho S Pm ρ a w hgs=>?_⟩;obtain ⟨b,_,hx⟩:=(Gs.head hgs).loc_inv;have hy:=(Gs.head (Gs.tail hgs)).val_inv;exact ⟨.bool true,by simp [execOp,ho,hx,hy,eqGuard,binOp,qE hk],(kg.val _).g⟩
   ·exact h.elim
  ·exact h.elim
 ·replace h:=zc h;obtain ⟨i,hi,h⟩:=h;have hk:=(hT t i hi).kind
  split at h
  ·rename_i e hkind;rw [hkind] at hk;have hk:P.underlying t=some (.pointer e):=hk;unfold qf at h
   split at h
   ·refine ⟨_,h,.pure fun o ho S Pm ρ a w hgs=>?_⟩;have hx:=(Gs.head hgs).val_inv;have hy:=(Gs.head (Gs.tail hgs)).val_inv;exact ⟨.bool true,by simp [execOp,ho,hx,hy,eqGuard,binOp,qE hk],(kg.val _).g⟩
   ·refine ⟨_,h,.pure fun o ho S Pm ρ a w hgs=>?_⟩;have hx:=(Gs.head hgs).val_inv;have hy:=(Gs.head (Gs.tail hgs)).val_inv;exact ⟨.bool false,by simp [execOp,ho,hx,hy,eqGuard,binOp,qE hk],(kg.val _).g⟩
   ·exact h.elim
  ·exact h.elim
 ·replace h:=zc h;obtain ⟨i,hi,h⟩:=h;have hk:=(hT t i hi).kind
  split at h
  ·rename_i hkind;rw [hkind] at hk;obtain ⟨ms,hk⟩:=hk;unfold qf at h
   split at h
   ·refine ⟨_,h,.pure fun o ho S Pm ρ a w hgs=>?_⟩;obtain ⟨v,hx,_⟩:=(Gs.head hgs).ifc_inv;have hy:=(Gs.head (Gs.tail hgs)).val_inv;exact ⟨.bool false,by simp [execOp,ho,hx,hy,eqGuard,binOp,yM hk],(kg.val _).g⟩
   ·refine ⟨_,h,.pure fun o ho S Pm ρ a w hgs=>?_⟩;obtain ⟨v,hx,_⟩:=(Gs.head hgs).ifc_inv;have hy:=(Gs.head (Gs.tail hgs)).val_inv;exact ⟨.bool true,by simp [execOp,ho,hx,hy,eqGuard,binOp,yM hk],(kg.val _).g⟩
   ·exact h.elim
  ·exact h.elim
 ·replace h:=zc h;obtain ⟨i,hi,h⟩:=h;have hk:=(hT t i hi).kind
  split at h
  ·rename_i hkind;rw [hkind] at hk;obtain ⟨ms,hk⟩:=hk;replace h:=zb h;obtain ⟨hlit,h⟩:=h;obtain ⟨yv,hyv⟩:∃yv,y=.const yv:=by cases y <;> first | exact ⟨_,rfl⟩ | cases hlit
   subst hyv;unfold qf at h
   split at h
   ·refine ⟨_,h,.pure fun o ho S Pm ρ a w hgs=>?_⟩;have hx:=(Gs.head hgs).val_inv;have hy:=(Gs.head (Gs.tail hgs)).val_inv;exact ⟨.bool true,by simp [execOp,ho,hx,hy,eqGuard,binOp,j3 hk],(kg.val _).g⟩
   ·refine ⟨_,h,.pure fun o ho S Pm ρ a w hgs=>?_⟩;have hx:=(Gs.head hgs).val_inv;have hy:=(Gs.head (Gs.tail hgs)).val_inv;exact ⟨.bool false,by simp [execOp,ho,hx,hy,eqGuard,binOp,j3 hk],(kg.val _).g⟩
   ·exact h.elim
  ·exact h.elim
 ·rename_i v0;replace h:=zc h;obtain ⟨i,hi,h⟩:=h;have hk:=(hT t i hi).kind
  split at h
  ·rename_i hkind;rw [hkind] at hk;obtain ⟨ms,hk⟩:=hk;replace h:=zb h;obtain ⟨hlit,h⟩:=h;obtain ⟨yv,hyv⟩:∃yv,y=.const yv:=by cases y <;> first | exact ⟨_,rfl⟩ | cases hlit
   subst hyv
   split at h
   ·refine ⟨_,h,.pure fun o ho S Pm ρ a w hgs=>?_⟩;obtain ⟨hx,hif⟩:=(Gs.head hgs).op_inv;have hy:=(Gs.head (Gs.tail hgs)).val_inv;refine ⟨.bool (zcD v0),?_,(kg.pr (by cases zcD v0 <;> simp)).g⟩
    cases v0 <;> first | (cases hif;done) | simp [execOp,ho,hx,hy,eqGuard,binOp,j3 hk,yM hk,zcD]
   ·refine ⟨_,h,.pure fun o ho S Pm ρ a w hgs=>?_⟩;obtain ⟨hx,hif⟩:=(Gs.head hgs).op_inv;have hy:=(Gs.head (Gs.tail hgs)).val_inv;refine ⟨.bool (!zcD v0),?_,(kg.pr (by cases zcD v0 <;> simp)).g⟩
    cases v0 <;> first | (cases hif;done) | simp [execOp,ho,hx,hy,eqGuard,binOp,j3 hk,yM hk,zcD]
   ·exact h.elim
  ·exact h.elim
 ·replace h:=zc h;obtain ⟨i,hi,h⟩:=h;have hk:=(hT t i hi).kind
  split at h
  ·rename_i hkind;rw [hkind] at hk;obtain ⟨p,ip,h,hp⟩:=yL h;obtain ⟨q,iq,h,hq⟩:=yL h;refine ⟨_,h,.pure fun o ho S Pm ρ a w hgs=>?_⟩;have hx:=hp (Gs.head hgs);have hy:=hq (Gs.head (Gs.tail hgs));refine ⟨.bool (@decide p ip==@decide q iq),?_,(kg.pr (by by_cases hp':p <;> by_cases hq':q <;> simp [hp',hq'])).g⟩;simp [execOp,ho,hx,hy,eqGuard_at_bool,binOp,Op.equal,Op.maxDepth,run_equalIn_bool w 9999 t _ _ hk]
  ·rename_i hkind;rw [hkind] at hk;obtain ⟨p,ip,h,hp⟩:=yL h;obtain ⟨q,iq,h,hq⟩:=yL h;refine ⟨_,h,.pure fun o ho S Pm ρ a w hgs=>?_⟩;have hx:=hp (Gs.head hgs);have hy:=hq (Gs.head (Gs.tail hgs));refine ⟨.bool (!(@decide p ip==@decide q iq)),?_,(kg.pr (by by_cases hp':p <;> by_cases hq':q <;> simp [hp',hq'])).g⟩;simp [execOp,ho,hx,hy,eqGuard_at_bool,binOp,Op.equal,Op.maxDepth,run_equalIn_bool w 9999 t _ _ hk]
  ·exact h.elim
theorem zdT{P:Program}{c a b:SV}{xc xa xb:Operand}{lm:Nat->Option Mem}{κ:Nat}{K:SV->MD->Prop}(h:zfR c a b K):
  ∃s,K s .none/\kE P (.pick xc xa xb) [c,a,b] lm κ s .none:=by
 have yes:∀(c':Bool),(∀{S Pm:Nat->Prop} {ρ:zd} {w:World} {v:Value},G S Pm ρ w c v->v=.bool c')->kE P (.pick xc xa xb) [c,a,b] lm κ (if c' then a else b) .none:=by
  intro c' hc;refine .pure fun o ho S Pm ρ e w hgs=>?_
  have h1:=hc (Gs.head hgs);have h2:=Gs.head (Gs.tail hgs);have h3:=Gs.head (Gs.tail (Gs.tail hgs))
  cases c' with
  | true=>exact ⟨_,by simp [execOp,ho,h1,asBool],h2⟩
  | false=>exact ⟨_,by simp [execOp,ho,h1,asBool],h3⟩
 unfold zfR at h
 split at h
 ·exact ⟨a,h,yes true fun hg=>hg.val_inv⟩
 ·exact ⟨b,h,yes false fun hg=>hg.val_inv⟩
 ·rename_i p i
  by_cases hp:p
  ·exact ⟨a,h.yes hp,yes true fun hg=>by rw [hg.pr_inv];simp [hp]⟩
  ·exact ⟨b,h.no hp,yes false fun hg=>by rw [hg.pr_inv];simp [hp]⟩
 ·exact h.elim
theorem zf0{P:Program}{op:UnOp}{t:TypeId}{x:Operand}{s:SV}{lm:Nat->Option Mem}{κ:Nat}{K:SV->MD->Prop}(h:unV op s K):
  ∃r,K r .none/\kE P (.unOp op t x) [s] lm κ r .none:=by
 unfold unV at h
 split at h
 ·exact ⟨_,h,.pure fun o ho S Pm ρ a w hgs=>⟨.bool false,by simp [execOp,ho,(Gs.head hgs).val_inv,Op.unary],(kg.val _).g⟩⟩
 ·exact ⟨_,h,.pure fun o ho S Pm ρ a w hgs=>⟨.bool true,by simp [execOp,ho,(Gs.head hgs).val_inv,Op.unary],(kg.val _).g⟩⟩
 ·rename_i p i;exact ⟨_,h,.pure fun o ho S Pm ρ a w hgs=>⟨.bool (!(@decide p i)),by simp [execOp,ho,(Gs.head hgs).pr_inv,Op.unary],(kg.pr (by rw [Bool.eq_iff_iff];simp)).g⟩⟩
 ·rename_i k n;exact ⟨_,qj h,.pure fun o ho S Pm ρ a w hgs=>⟨.int k (k.wrap (-n)),by simp [execOp,ho,(Gs.head hgs).val_inv,Op.unary,Op.intArith],(kg.val _).g⟩⟩
 ·exact h.elim
theorem k9{agg:Bool}{sz:Nat}{cs:List SV}{K:SV->Prop}(h:mkV agg sz cs K):∃s,K s/\((agg=true/\s=.agg (cs.take sz))∨(agg=false/\∃r,cs=s::r)):=by
 unfold mkV at h
 split at h
 ·exact ⟨_,h,.inl ⟨rfl,rfl⟩⟩
 ·split at h
  ·exact ⟨_,zS h,.inr ⟨rfl,_,rfl⟩⟩
  ·exact h.elim
theorem kA(b o n:Nat):(⟨b,o,none⟩:Addr).add n=⟨b,o+n,none⟩:=by unfold Addr.add;split <;> simp_all
theorem jA {P:Program} {t:TypeId} {i:TI} (hT:vI P t i) {S Pm:Nat->Prop} {ρ:zd} {w:World} {b o:Nat} {cs:List SV} {vs:List Value} (hg:Gs S Pm ρ w cs vs)
  (hc:∀j v,vs[j]? =some v->w.cell? ⟨b,o+j,none⟩=some v) (hle:i.sz<=cs.length) {s:SV}
  (hs:(i.kind.agg=true/\s=.agg (cs.take i.sz))∨(i.kind.agg=false/\∃r,cs=s::r)):
  ∃v,(loadVar t ⟨b,o,none⟩).run P w=.ok v w/\G S Pm ρ w s v:=by
 unfold loadVar;rw [Sem.run_bind,hT.agg w,Result.andThen_ok]
 rcases hs with ⟨h1,rfl⟩ | ⟨h1,r,rfl⟩
 ·have hl:(vs.take i.sz).length=i.sz:=by have:=hg.1;simp;omega
  have hload:=run_loadCells_list (P:=P) w ⟨b,o,none⟩ (vs.take i.sz) (fun j v hv=>by
   rw [kA];rw [List.getElem?_take] at hv
   split at hv
   ·exact hc j v hv
   ·cases hv)
  rw [hl] at hload;refine ⟨.agg (vs.take i.sz).toArray,?_,.agg _ _ (hg.take _).1 (hg.take _).2⟩;simp [h1,hT.size,hload]
 ·obtain ⟨v,vs',rfl,h2,h3⟩:=hg.cons_inv;have:=hc 0 v rfl;exact ⟨v,by simp only [h1,Bool.false_eq_true,if_false,run_load,Nat.add_zero] at this ⊢;rw [this],h2⟩
theorem zcL{s:SV}(h:zbk s=true){S Pm:Nat->Prop}{ρ:zd}{w:World}{v:Value}(hg:G S Pm ρ w s v):v.oneCell'=true:=by
 cases s with
 | val u=>rw [hg.val_inv];cases u <;> first | rfl | (simp [zbk] at h)
 | pr p i=>rw [hg.pr_inv];rfl
 | agg cs=>simp [zbk] at h
 | sl enc xs=>rcases hg.sl_inv.sl_inv with ⟨_,_,rfl⟩ | ⟨_,_,_,_,_,rfl,_⟩ <;> rfl
 | nils=>obtain ⟨_,rfl⟩:=hg.nils_inv;rfl
 | anyb=>obtain ⟨_,rfl⟩:=hg.anyb_inv;rfl
 | full enc xs=>obtain ⟨_,rfl,_⟩:=hg.full_inv;rfl
 | ptr cs=>obtain ⟨_,_,_,rfl,_⟩:=hg.ptr_inv;rfl
 | loc k off=>obtain ⟨_,_,rfl⟩:=hg.loc_inv;rfl
 | own k=>exact hg.own_inv.2
 | eloc k sz i off=>obtain ⟨_,_,_,_,rfl⟩:=hg.eloc_inv;rfl
 | win k sz lo n=>obtain ⟨_,_,_,_,_,rfl,_⟩:=hg.win_inv;rfl
 | fn f cs=>obtain ⟨_,rfl,_⟩:=hg.fn_inv;rfl
 | dptr cs=>obtain ⟨_,_,_,rfl,_⟩:=hg.dptr_inv;rfl
 | dfn f cs=>obtain ⟨_,rfl,_⟩:=hg.dfn_inv;rfl
 | bm f cs=>obtain ⟨_,rfl,_⟩:=hg.bm_inv;rfl
 | op v=>obtain ⟨rfl,h⟩:=hg.op_inv;cases v <;> first | rfl | cases h
 | ifc t s=>obtain ⟨_,rfl,_⟩:=hg.ifc_inv;rfl
 | tup cs=>simp [zbk] at h
 | junk=>simp [zbk] at h
theorem vf{cs:List SV}(h:z0 cs=true){S Pm:Nat->Prop}{ρ:zd}{w:World}{vs:List Value}(hg:Gs S Pm ρ w cs vs):∀v∈vs,v.oneCell'=true:=by
 induction cs generalizing vs with
 | nil=>rw [hg.nil_inv];simp
 | cons s cs ih=>
  obtain ⟨v,vs',rfl,h1,h2⟩:=hg.cons_inv;simp only [z0] at h
  split at h
  ·rename_i hc;intro u hu
   cases hu with
   | head=>exact zcL hc h1
   | tail _ hu=>exact ih h h2 u hu
  ·cases h
theorem zbo{v:Value}(h:v.oneCell'=true):v.cells=#[v]:=by cases v <;> first | rfl | (simp [Value.oneCell'] at h)
theorem qy{s:SV}(h:z0 (zA s)=true){S Pm:Nat->Prop}{ρ:zd}{w:World}{v:Value}(hg:G S Pm ρ w s v):
  Gs S Pm ρ w (zA s) v.cells.toList/\∀u∈v.cells.toList,u.oneCell'=true:=by
 have key:Gs S Pm ρ w (zA s) v.cells.toList:=by
  by_cases ha:∃cs,s=.agg cs
  ·obtain ⟨cs,rfl⟩:=ha;obtain ⟨vs,rfl,h1⟩:=hg.agg_inv;exact h1
  ·have hc:zA s=[s]:=by cases s <;> first | rfl | exact absurd ⟨_,rfl⟩ ha
   rw [hc] at h ⊢;simp only [z0] at h
   split at h
   ·rename_i h1;rw [zbo (zcL h1 hg)];exact .cons hg .nil
   ·cases h
 exact ⟨key,vf h key⟩
theorem yA{S Pm:Nat->Prop}{ρ:zd}{w:World}{cs new:List SV}{vs us:List Value}(off:Nat)(h:Gs S Pm ρ w cs vs)(hn:Gs S Pm ρ w new us):
  Gs S Pm ρ w (ky cs off new) (vs.take off++us++vs.drop (off+us.length)):=by
 unfold ky;rw [hn.1];exact ((h.take _).append hn).append (h.drop _)
end Go.Gs
