/- What one symbolic value says of another; integers. -/
import Derived.Test.YtakicgnbhdpknaaGreatDoorNAL
set_option maxRecDepth 100000
set_option maxHeartbeats 8000000
set_option linter.all false
namespace Go.Gs
abbrev i64(n:Int):SV:=.val (.int .i64 n)
abbrev u8(n:Int):SV:=.val (.int .u8 n)
abbrev bl(b:Bool):SV:=.val (.bool b)
abbrev pr(p:Prop)[i:Decidable p]:SV:=.pr p i
abbrev R64(n:Int):Prop:= -9223372036854775808<=n/\n<=9223372036854775807
def LE.refl{s:SV}:LE s s:=λ_ _ _ _ _ h=>h
variable{r:SV}
def ua{s:SV}(h:s=r):LE s r:=h ▸ .refl
variable{m:Int}
def ze{k:IntKind}{n:Int}(h:m=n):LE (.val (.int k m)) (.val (.int k n)):=by subst h;exact .refl
def zE{p q:Prop}{i:Decidable p}{j:Decidable q}(h:p↔q):LE (.pr p i) (.pr q j):=λS Pm ρ w v hg=>by
 rw[hg.pr_inv]
 have:@decide p i=@decide q j:=by
  by_cases hp:p
  ·simp[hp,h.1 hp]
  have hq:¬q:=λhq=>hp (h.2 hq)
  simp[hp,hq]
 rw[this];exact .d _ _ (.pr q j)
variable{q:Prop}{j:Decidable q}
def zH(h:q):LE (.val (.bool true)) (.pr q j):=λS Pm ρ w v hg=>by
 rw[hg.val_inv];have:=G.d (S:=S) (Pm:=Pm) (ρ:=ρ) (w:=w) _ _ (.pr q j)
 simpa[h] using this
def zd(h:¬q):LE (.val (.bool false)) (.pr q j):=λS Pm ρ w v hg=>by
 rw[hg.val_inv];have:=G.d (S:=S) (Pm:=Pm) (ρ:=ρ) (w:=w) _ _ (.pr q j)
 simpa[h] using this
def ztp{v:Value}(h:ifB v=true):LE (.val v) (.op v):=λS Pm ρ w u hg=>by
 rw[hg.val_inv];exact .d _ _ (.op v h)
variable{p:Prop}{i:Decidable p}
def zw5(h:p):LE (.pr p i) (.val (.bool true)):=λS Pm ρ w v hg=>by
 rw[hg.pr_inv];simp only[h,decide_true];exact .d _ _ (.val _)
variable{b:Bool}
def ztq(h:p↔b=true):LE (.pr p i) (.val (.bool b)):=λS Pm ρ w v hg=>by
 rw[hg.pr_inv];have:@decide p i=b:=by cases b <;> simp at h ⊢ <;> exact h
 rw[this];exact .d _ _ (.val _)
def ztr{j:Decidable (b=true)}:LE (.val (.bool b)) (.pr (b=true) j):=λS Pm ρ w v hg=>by
 rw[hg.val_inv];have:=G.d (S:=S) (Pm:=Pm) (ρ:=ρ) (w:=w) _ _ (.pr (b=true) j)
 cases b <;> simpa using this
variable{α:Type}{xs:List α}{ys:List α}
def zZ{enc:α->LR}(h:xs=ys):LE (.sl enc xs) (.sl enc ys):=by subst h;exact .refl
def zts{enc:α->LR}(h:xs=ys):LE (.full enc xs) (.full enc ys):=by subst h;exact .refl
def zcC{enc:α->LR}(h:xs=ys):LE (.full enc xs) (.sl enc ys):=λS Pm ρ w v hg=>by
 subst h;obtain⟨a,rfl,hd⟩:=hg.full_inv;exact .d _ _ hd
def zC{enc:α->LR}:LE (.val (.slice none 0 0)) (.sl enc []):=λS Pm ρ w v hg=>by
 rw[hg.val_inv];exact .d _ _ (.nil enc none)
def LEs.gs{za bs:LR}(h:LEs za bs){S Pm:LI}{ρ:zh}{w:World}:∀{vs:LA},Gs S Pm ρ w za vs->Gs S Pm ρ w bs vs:=by
 induction h with
 |nil=>intro vs h;exact h
 |cons h t ih=>
  intro vs hg;obtain⟨v,vs',rfl,h1,h2⟩:=hg.cons_inv;exact .cons (h _ _ _ _ _ h1) (ih h2)
variable{za:LR}{bs:LR}
def jj(h:LEs za bs):LE (.agg za) (.agg bs):=λS Pm ρ w v hg=>by
 obtain⟨vs,rfl,hvs⟩:=hg.agg_inv;have:=h.gs hvs;exact .agg _ vs this.1 this.2
def zbO(h:LEs za bs):LE (.tup za) (.tup bs):=λS Pm ρ w v hg=>by
 obtain⟨vs,rfl,hvs⟩:=hg.tup_inv;have:=h.gs hvs;exact .tup _ vs this.1 this.2
variable{a:SV}{c:SV}
def zM{b d:SV}(h1:LE a c)(h2:LE b d):LE (.tup [a,b]) (.tup [c,d]):=zbO (.cons h1 (.cons h2 .nil))
def LE.trans{b:SV}(h:LE a b)(k:LE b c):LE a c:=λ_ _ _ _ _ g=>k _ _ _ _ _ (h _ _ _ _ _ g)
variable{f:FuncId}
def qx.le{P:Program}{args:LR}{M M':LT}{r':SV}(h:qx P f args M r M')(hle:LE r r'):qx P f args M r' M':=
 ⟨h.1,λKeep ρ w vs hk hm hρ hg=>(h.2 Keep ρ w vs hk hm hρ hg).mono λ_ _ ⟨v,ρ',e,h1,h2,h3⟩=>⟨v,ρ',e,h1,h2,hle _ _ _ _ _ h3⟩⟩
def qx.args{P:Program}{f:FuncId}{args args':LR}{M M':LT}{r:SV}(h:qx P f args' M r M')(hle:LEs args args'):qx P f args M r M':=
 ⟨h.1,λKeep ρ w vs hk hm hρ hg=>h.2 Keep ρ w vs hk hm hρ (hle.gs hg)⟩
def LEs.refl:∀{za:LR},LEs za za
 |[]=>.nil
 |_::_=>.cons .refl .refl
def LEs.C{us:LR}(t:LEs us bs):LEs (a::us) (a::bs):=.cons .refl t
inductive ze2 (k:LK):LR->LR->Prop
 |nil:ze2 k [] []
 |cons {a b:SV} {za bs:LR} (h:za3 k a b) (t:ze2 k za bs):ze2 k (a::za) (b::bs)
def ze2.ix{k:LK}(h:ze2 k za bs):za.length=bs.length/\∀(j:Nat) (s r:SV),za[j]?=some s->bs[j]?=some r->za3 k s r:=by
 induction h with
 |nil=>exact⟨rfl,λj s r h=>by simp at h⟩
 |cons h t ih=>
  refine⟨by simp[ih.1],λj s r hs hr=>?_⟩
  cases j with
  |zero=>simp at hs hr;subst hs;subst hr;exact h
  |succ j=>exact ih.2 j s r (by simpa using hs) (by simpa using hr)
def zw6{k:LK}(h:ze2 k za bs):za3 k (.agg za) (.agg bs):=.agg _ _ h.ix.1 h.ix.2
def zjV{k:LK}(h:ze2 k za bs):za3 k (.tup za) (.tup bs):=.tup _ _ h.ix.1 h.ix.2
def zAt{k:LK}(h:ze2 k za bs):za3 k (.fn f za) (.fn f bs):=.fn _ _ _ h.ix.1 h.ix.2
def zba{k:LK}{q:IntKind}{n:Int}(h:m=n):za3 k (.val (.int q m)) (.val (.int q n)):=.le _ _ (ze h) rfl
def tdm{m n:Int}(h:0<n):(0<=m.tmod n/\m.tmod n<n/\m.tmod n=m%n/\m.tdiv n=m/n/\(m<0->m%n=0))∨
  (m<0/\m.tmod n<0/\ -n<m.tmod n/\m.tmod n+n=m%n/\m.tdiv n-1=m/n):=by
 have h1:=Yi m n;have h2:=JI m h
 have uniq:∀q r:Int,n*q+r=m->0<=r->r<n->r=m%n/\q=m/n:=λq r e hr hl=>by
  have:=(Qf (a:=m) (b:=n) (q:=q) (r:=r) h).2 ⟨oM,hr,hl⟩;exact⟨this.2.symm,this.1.symm⟩
 by_cases hm:0<=m
 ·have h3:=Int.tmod_nonneg n hm;obtain⟨h4,h5⟩:=uniq _ _ h1 h3 h2;exact .inl ⟨h3,h2,h4,h5,λh=>by omega⟩
 have h3: -n<m.tmod n:=by
  have:=JI (-m) h;rw[Int.neg_tmod]at this;omega
 have h6:m.tmod n<=0:=by
  have:=Int.tmod_nonneg n (show 0<= -m by omega);rw[Int.neg_tmod]at this;omega
 by_cases h0:m.tmod n=0
 ·obtain⟨h4,h5⟩:=uniq _ _ h1 oM h2;exact .inl ⟨oM,h2,h4,h5,λ_=>by omega⟩
 obtain⟨h4,h5⟩:=uniq (m.tdiv n-1) (m.tmod n+n) (by rw[Int.mul_sub];omega) oM oM;exact .inr ⟨oM,oM,h3,h4,h5⟩
def tm2(q:Int):q.tmod 2=0↔q%2=0:=by
 rcases tdm (m:=q) (n:=2) oM with h|h <;> omega
def zjW{m n:Int}(h:0<n)(hm:R64 m):R64 (m.tdiv n)/\(n≠1-> -4611686018427387904<=m.tdiv n):=by
 have h1:=Yi m n;have h2:=JI m h
 have h3: -n<m.tmod n:=by
  rcases tdm (m:=m) h with h3|h3 <;> omega
 generalize m.tdiv n=q at*;generalize m.tmod n=r at*;refine⟨⟨?_,?_⟩,λhn=>?_⟩
 ·rcases QA q 0 with hq|hq
  ·have:n*q<=1*q:=Qc oM oM
   by_cases e:n=1
   ·subst e;omega
   have:n*q<=2*q:=Qc oM oM;have h5:n*(q+1)=n*q+n:=by rw[Q9];omega
   have h6:n*(q+1)<=2*(q+1):=by
    rcases QA (q+1) 1 with h|h
    ·exact Qc oM oM
    omega
   omega
  omega
 ·rcases QA 0 q with hq|hq
  ·have h5:n*(q-1)=n*q-n:=by rw[Int.mul_sub];omega
   have h6:1*(q-1)<=n*(q-1):=Int.mul_le_mul_of_nonneg_right oM oM;omega
  omega
 rcases QA q 0 with hq|hq
 ·have h5:n*(q+1)=n*q+n:=by rw[Q9];omega
  have h6:n*(q+1)<=2*(q+1):=Qc oM oM;omega
 omega
def iR{x y:Int}(h:x=y):some (i64 x)=some (i64 y):=h ▸ rfl
abbrev nS:SV:=.val (.slice none 0 0)
end Go.Gs
