/- What one symbolic value says of another; integers. -/
import Derived.Test.YtakicgnbhdpknaaGreatDoorPAL
set_option maxRecDepth 100000
set_option maxHeartbeats 8000000
set_option linter.all false
namespace Go.Gs
abbrev i64(n:Int):SV:=.val (.int .i64 n)
abbrev u8(n:Int):SV:=.val (.int .u8 n)
abbrev bl(b:Bool):SV:=.val (.bool b)
abbrev pr(p:Prop)[i:Decidable p]:SV:=.pr p i
abbrev R64(n:Int):Prop:= -9223372036854775808<=n/\n<=9223372036854775807
def LE.refl{s:SV}:LE s s:=λ_ _ _ _ _ h=>h
variable{r:SV}
def ue{s:SV}(h:s=r):LE s r:=h ▸ .refl
variable{m:Int}
def ze{k:IntKind}{n:Int}(h:m=n):LE (.val (.int k m)) (.val (.int k n)):=by subst h;exact .refl
def zB{p q:Prop}{i:Decidable p}{j:Decidable q}(h:p↔q):LE (.pr p i) (.pr q j):=λS Pm O w v k=>by
 rw[k.pr_inv]
 have:@decide p i=@decide q j:=by
  by_cases e:p
  .simp[e,h.1 e]
  have g:¬q:=λg=>e (h.2 g)
  simp[e,g]
 rw[this];exact .d _ _ (.pr q j)
def zH{q:Prop}{j:Decidable q}(h:q):LE (.val (.bool true)) (.pr q j):=λS Pm O w v e=>by
 rw[e.val_inv];have:=G.d (S:=S) (Pm:=Pm) (O:=O) (w:=w) _ _ (.pr q j)
 simpa[h] using this
def zd{q:Prop}{j:Decidable q}(h:¬q):LE (.val (.bool false)) (.pr q j):=λS Pm O w v e=>by
 rw[e.val_inv];have:=G.d (S:=S) (Pm:=Pm) (O:=O) (w:=w) _ _ (.pr q j)
 simpa[h] using this
def zuZ{v:Value}(h:ifB v=true):LE (.val v) (.op v):=λS Pm O w u e=>by
 rw[e.val_inv];exact .d _ _ (.op v h)
variable{p:Prop}{i:Decidable p}
def zzb(h:p):LE (.pr p i) (.val (.bool true)):=λS Pm O w v e=>by
 rw[e.pr_inv];simp only[h,decide_true];exact .d _ _ (.val _)
variable{b:Bool}
def zu0(h:p↔b=true):LE (.pr p i) (.val (.bool b)):=λS Pm O w v e=>by
 rw[e.pr_inv];have:@decide p i=b:=by cases b <;> simp at h ⊢ <;> exact h
 rw[this];exact .d _ _ (.val _)
def zu1{j:Decidable (b=true)}:LE (.val (.bool b)) (.pr (b=true) j):=λS Pm O w v e=>by
 rw[e.val_inv];have:=G.d (S:=S) (Pm:=Pm) (O:=O) (w:=w) _ _ (.pr (b=true) j)
 cases b <;> simpa using this
variable{α:Type}{xs:List α}{ys:List α}
def z6{enc:α->LR}(h:xs=ys):LE (.sl enc xs) (.sl enc ys):=by subst h;exact .refl
def zu2{enc:α->LR}(h:xs=ys):LE (.full enc xs) (.full enc ys):=by subst h;exact .refl
def zc1{enc:α->LR}(h:xs=ys):LE (.full enc xs) (.sl enc ys):=λS Pm O w v g=>by
 subst h;obtain⟨a,rfl,e⟩:=g.full_inv;exact .d _ _ e
def zD{enc:α->LR}:LE (.val (.slice none 0 0)) (.sl enc []):=λS Pm O w v e=>by
 rw[e.val_inv];exact .d _ _ (.nil enc none)
def LEs.gs{za bs:LR}(h:LEs za bs){S Pm:LI}{O:zh}{w:World}:∀{vs:LA},Gs S Pm O w za vs->Gs S Pm O w bs vs:=by
 induction h with
 |nil=>intro vs h;exact h
 |cons h t j=>
  intro vs g;obtain⟨v,k,rfl,d,e⟩:=g.cons_inv;exact .cons (h _ _ _ _ _ d) (j e)
variable{za:LR}{bs:LR}
def jp(h:LEs za bs):LE (.agg za) (.agg bs):=λS Pm O w v e=>by
 obtain⟨vs,rfl,d⟩:=e.agg_inv;have:=h.gs d;exact .agg _ vs this.1 this.2
def zaP(h:LEs za bs):LE (.tup za) (.tup bs):=λS Pm O w v e=>by
 obtain⟨vs,rfl,d⟩:=e.tup_inv;have:=h.gs d;exact .tup _ vs this.1 this.2
variable{a:SV}{c:SV}
def zO{b d:SV}(e:LE a c)(g:LE b d):LE (.tup [a,b]) (.tup [c,d]):=zaP (.cons e (.cons g .nil))
def LE.trans{b:SV}(h:LE a b)(k:LE b c):LE a c:=λ_ _ _ _ _ g=>k _ _ _ _ _ (h _ _ _ _ _ g)
variable{f:FuncId}
def qg.le{P:Program}{args:LR}{M M':LT}{g:SV}(h:qg P f args M r M')(d:LE r g):qg P f args M g M':=
 ⟨h.1,λKeep O w vs o q hρ n=>(h.2 Keep O w vs o q hρ n).mono λ_ _ ⟨v,O',e,j,k,l⟩=>⟨v,O',e,j,k,d _ _ _ _ _ l⟩⟩
def qg.args{P:Program}{f:FuncId}{args args':LR}{M M':LT}{r:SV}(h:qg P f args' M r M')(d:LEs args args'):qg P f args M r M':=
 ⟨h.1,λKeep O w vs g j hρ e=>h.2 Keep O w vs g j hρ (d.gs e)⟩
def LEs.refl:∀{za:LR},LEs za za
 |[]=>.nil
 |_::_=>.cons .refl .refl
def LEs.C{us:LR}(t:LEs us bs):LEs (a::us) (a::bs):=.cons .refl t
inductive zfz (k:LK):LR->LR->Prop
 |nil:zfz k [] []
 |cons {a b:SV} {za bs:LR} (h:zbn k a b) (t:zfz k za bs):zfz k (a::za) (b::bs)
def zfz.ix{k:LK}(h:zfz k za bs):za.length=bs.length/\∀(j:Nat) (s r:SV),za[j]?=some s->bs[j]?=some r->zbn k s r:=by
 induction h with
 |nil=>exact⟨rfl,λj s r h=>by simp at h⟩
 |cons h t g=>
  refine⟨by simp[g.1],λj s r e d=>?_⟩
  cases j with
  |zero=>simp at e d;subst e;subst d;exact h
  |succ j=>exact g.2 j s r (by simpa using e) (by simpa using d)
def zzc{k:LK}(h:zfz k za bs):zbn k (.agg za) (.agg bs):=.agg _ _ h.ix.1 h.ix.2
def zkP{k:LK}(h:zfz k za bs):zbn k (.tup za) (.tup bs):=.tup _ _ h.ix.1 h.ix.2
def zCU{k:LK}(h:zfz k za bs):zbn k (.fn f za) (.fn f bs):=.fn _ _ _ h.ix.1 h.ix.2
def zbv{k:LK}{q:IntKind}{n:Int}(h:m=n):zbn k (.val (.int q m)) (.val (.int q n)):=.le _ _ (ze h) rfl
def tdm{m n:Int}(h:0<n):(0<=m.tmod n/\m.tmod n<n/\m.tmod n=m%n/\m.tdiv n=m/n/\(m<0->m%n=0))∨
  (m<0/\m.tmod n<0/\ -n<m.tmod n/\m.tmod n+n=m%n/\m.tdiv n-1=m/n):=by
 have l:=Yy m n;have j:=J0 m h
 have uniq:∀q r:Int,n*q+r=m->0<=r->r<n->r=m%n/\q=m/n:=λq r e t o=>by
  have:=(Qs (a:=m) (b:=n) (q:=q) (r:=r) h).2 ⟨oM,t,o⟩;exact⟨this.2.symm,this.1.symm⟩
 by_cases s:0<=m
 .have k:=Int.tmod_nonneg n s;obtain⟨d,g⟩:=uniq _ _ l k j;exact .inl ⟨k,j,d,g,λh=>by omega⟩
 have k: -n<m.tmod n:=by
  have:=J0 (-m) h;rw[Int.neg_tmod]at this;omega
 have v:m.tmod n<=0:=by
  have:=Int.tmod_nonneg n (show 0<= -m by omega);rw[Int.neg_tmod]at this;omega
 by_cases u:m.tmod n=0
 .obtain⟨d,g⟩:=uniq _ _ l oM j;exact .inl ⟨oM,j,d,g,λ_=>by omega⟩
 obtain⟨d,g⟩:=uniq (m.tdiv n-1) (m.tmod n+n) (by rw[YH];omega) oM oM;exact .inr ⟨oM,oM,k,d,g⟩
def tm2(q:Int):q.tmod 2=0↔q%2=0:=by
 rcases tdm (m:=q) (n:=2) oM with h|h <;> omega
def zkQ{m n:Int}(h:0<n)(s:R64 m):R64 (m.tdiv n)/\(n≠1-> -4611686018427387904<=m.tdiv n):=by
 have l:=Yy m n;have o:=J0 m h
 have g: -n<m.tmod n:=by
  rcases tdm (m:=m) h with g|g <;> omega
 generalize m.tdiv n=q at*;generalize m.tmod n=r at*;refine⟨⟨?_,?_⟩,λt=>?_⟩
 .rcases Qe q 0 with d|d
  .have:n*q<=1*q:=Qp oM oM
   by_cases e:n=1
   .subst e;omega
   have:n*q<=2*q:=Qp oM oM;have j:n*(q+1)=n*q+n:=by rw[Jl];omega
   have k:n*(q+1)<=2*(q+1):=by
    rcases Qe (q+1) 1 with h|h
    .exact Qp oM oM
    omega
   omega
  omega
 .rcases Qe 0 q with d|d
  .have j:n*(q-1)=n*q-n:=by rw[YH];omega
   have k:1*(q-1)<=n*(q-1):=Int.mul_le_mul_of_nonneg_right oM oM;omega
  omega
 rcases Qe q 0 with d|d
 .have j:n*(q+1)=n*q+n:=by rw[Jl];omega
  have k:n*(q+1)<=2*(q+1):=Qp oM oM;omega
 omega
def iR{x y:Int}(h:x=y):some (i64 x)=some (i64 y):=h ▸ rfl
abbrev nS:SV:=.val (.slice none 0 0)
end Go.Gs
