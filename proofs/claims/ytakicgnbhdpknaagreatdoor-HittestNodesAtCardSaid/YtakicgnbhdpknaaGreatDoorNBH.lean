/- Arguments laid open: slices of structs of integers. -/
import Derived.Test.YtakicgnbhdpknaaGreatDoorNBE
import Derived.Deep.Slices
import Derived.Deep.Fields
import Derived.ChangeSame
import Derived.Lib.SmallJoins
import Derived.WalkKit
import Derived.ProofKit
import Derived.OpenShut
import Derived.Carry
set_option maxRecDepth 100000
set_option maxHeartbeats 8000000
set_option linter.all false
namespace Go.Gs
open Go.ChangeShapes Go.WideShapes Go.Deep Go.Joins Go.RowKit
section
variable{H:Type}{enc:TypeId×Value->H}{P:Program}{w:World}{base:Nat}{held:Bool}
end
def args_stay{H:Type}{enc:TypeId×Value->H}{P:Program}(hl:laidOutB P=true){W W':World}(hb:Below W.heap.size W W'){sp:Nat->Bool}:
  ∀{ts:List TypeId} {vs:LA} {ds:List (DataW H)} {ps:List MemPlace},(ts.all λt=>P.readableRec t&&decide (t<P.types.size))=true->
   DataW.TrodAll enc P W 0 (λ_=>true) true ts vs ds ps->(∀p∈ps,p.block<W.heap.size)->(∀p∈ps,sp p.block=true)->DataW.TrodAll enc P W' 0 sp true ts vs ds ps
 |[],[],[],_,_,h,_,_=>h
 |t::ts,v::vs,d::ds,ps,hts,⟨p,q,h1,h2,e⟩,hlt,hsp=>by
  simp only[Yw,XC,decide_eq_true_eq]at hts;have e1:∀x∈p,x∈ps:=λx hx=>by rw[e];exact Qg _ hx
  have e2:∀x∈q,x∈ps:=λx hx=>by rw[e];exact Qu _ hx
  refine⟨p,q,WideElems.Trod_stays hl hts.1.1 hts.1.2 h1 (λx hx=>hb.same (hlt x (e1 x hx))) (λx hx=>hsp x (e1 x hx)),args_stay hl hb (by simpa using hts.2) h2 (λx hx=>hlt x (e2 x hx)) (λx hx=>hsp x (e2 x hx)),e⟩
end Go.Gs
namespace Go.Gs
open Proofs.Tryz
open Go.ChangeShapes Go.WideShapes Go.Deep Go.Joins Go.RowKit
section
inductive Sh
 |int (k:IntKind)
 |bool
 |sl (e:Sh)
 |st (fs:Sh)
 |ar (es:Sh)
 |nil
 |cons (f r:Sh)
def Sh.T:Sh->Type
 |.int _=>Int
 |.bool=>Bool
 |.sl e=>List e.T
 |.st fs=>fs.T
 |.ar es=>es.T
 |.nil=>Unit
 |.cons f r=>f.T×r.T
def Sh.dflt:(s:Sh)->s.T
 |.int _=>(0:Int)
 |.bool=>false
 |.sl _=>[]
 |.st fs=>fs.dflt
 |.ar es=>es.dflt
 |.nil=>()
 |.cons f r=>(f.dflt,r.dflt)
def Sh.n:Sh->Nat
 |.int _=>1
 |.bool=>1
 |.sl _=>1
 |.st fs=>fs.n
 |.ar es=>es.n
 |.nil=>0
 |.cons f r=>f.n+r.n
def Sh.enc:(s:Sh)->s.T->LR
 |.int k,n=>[.val (.int k n)]
 |.bool,b=>[.pr (@Eq Bool b true) (instDecidableEqBool b true)]
 |.sl e,xs=>[.sl e.enc xs]
 |.st fs,x=>fs.enc x
 |.ar es,x=>es.enc x
 |.nil,_=>[]
 |.cons f r,x=>f.enc x.1++r.enc x.2
def Sh.wf:(s:Sh)->s.T->Prop
 |.int k,n=>(Lit.int k n).wf=true
 |.bool,_=>True
 |.sl e,xs=>∀x:e.T,@Membership.mem e.T (List e.T) _ xs x->e.wf x
 |.st fs,x=>fs.wf x
 |.ar es,x=>es.wf x
 |.nil,_=>True
 |.cons f r,x=>f.wf x.1/\r.wf x.2
def Sh.fit(P:Program):Sh->(TypeId->Bool)×(List Field->Nat->Bool)×(Nat->TypeId->Bool)
 |.int k=>(λt=>match P.underlying t with
  |some (.int k')=>zrB k k'&&Nat.beq (P.cellsOf t) 1
  |_=>false,λ_ _=>false,λ_ _=>false)
 |.bool=>(λt=>match P.underlying t with
  |some .bool=>Nat.beq (P.cellsOf t) 1
  |_=>false,λ_ _=>false,λ_ _=>false)
 |.sl e=>(λt=>match P.underlying t with
  |some (.slice u)=>(e.fit P).1 u&&Nat.beq (P.cellsOf t) 1&&Nat.blt 0 e.n
  |_=>false,λ_ _=>false,λ_ _=>false)
 |.st fs=>(λt=>match P.underlying t with
  |some (.struct gs)=>(fs.fit P).2.1 gs.toList 0&&Nat.beq (P.cellsOf t) fs.n
  |_=>false,λ_ _=>false,λ_ _=>false)
 |.ar es=>(λt=>match P.underlying t with
  |some (.array n u)=>(es.fit P).2.2 n u&&Nat.beq (P.cellsOf t) es.n
  |_=>false,λ_ _=>false,λ_ _=>false)
 |.nil=>(λ_=>false,λgs _=>match gs with
  |[]=>true
  |_=>false,λn _=>match n with
  |0=>true
  |_=>false)
 |.cons f r=>(λ_=>false,λgs off=>match gs with
  |[]=>false
  |g::gs=>Nat.beq g.offset off&&(f.fit P).1 g.type&&(r.fit P).2.1 gs (off+f.n),λn u=>match n with
  |0=>false
  |n+1=>(f.fit P).1 u&&(r.fit P).2.2 n u)
def Sh.enc_len:∀(s:Sh) (x:s.T),(s.enc x).length=s.n
 |.int _,_=>rfl
 |.bool,_=>rfl
 |.sl _,_=>rfl
 |.st fs,x=>Sh.enc_len fs x
 |.ar es,x=>Sh.enc_len es x
 |.nil,_=>rfl
 |.cons f r,x=>by
  show(f.enc x.1++r.enc x.2).length=f.n+r.n;rw[Xq,Sh.enc_len f,Sh.enc_len r]
def Dc(S:LI)(w:World)(cs:LR)(vs:LA):Prop:=
 vs.length=cs.length/\∀(j:Nat) (s:SV) (v:Value),cs[j]?=some s->vs[j]?=some v->D S w s v/\v.oneCell'=true
variable{S:LI}
def Dc.nil{w:World}:Dc S w [] []:=⟨rfl,λj s v h=>by simp at h⟩
def Dc.append{w:World}{cs ds:LR}{vs us:LA}(h:Dc S w cs vs)(k:Dc S w ds us):Dc S w (cs++ds) (vs++us):=by
 refine⟨by rw[Xq,Xq,h.1,k.1],λj s v hs hv=>?_⟩
 by_cases hj:j<cs.length
 ·rw[XK hj]at hs;rw[XK (by rw[h.1];exact hj)]at hv;exact h.2 j s v hs hv
 rw[XG oM]at hs;rw[XG (by rw[h.1];omega),h.1]at hv;exact k.2 _ s v hs hv
def Dc.one{w:World}{s:SV}{v:Value}(h:D S w s v)(ho:v.oneCell'=true):Dc S w [s] [v]:=⟨rfl,λj s' v' hs hv=>by
 match j with
 |0=>simp at hs hv;subst hs;subst hv;exact⟨h,ho⟩
 |j+1=>simp at hs⟩
end
section
variable{H:Type}{enc:TypeId×Value->H}{P:Program}{W:World}{held:Bool}
def zkT(L:LA)(off a b:Nat):(L.drop off).take (a+b)=(L.drop off).take a++(L.drop (off+a)).take b:=by
 rw[List.take_add,JJ]
def zBd:∀s:Sh,
  ((∀(t:TypeId) (fuel:Nat) (L:LA) (x:DataW H×List MemPlace),(s.fit P).1 t=true->DataW.trod enc P W 0 (λ_=>true) held fuel t L=some x->
   P.cellsOf t=s.n/\L.length=s.n/\∃y:s.T,s.wf y/\∀S:LI,(∀b,¬S b)->Dc S W (s.enc y) L))/\
  (∀(gs:List Field) (off m:Nat) (L:LA),(s.fit P).2.1 gs off=true->(∀g∈gs,∃x,DataW.trod enc P W 0 (λ_=>true) held m g.type ((L.drop g.offset).take (P.cellsOf g.type))=some x)->
   ∃y:s.T,s.wf y/\∀S:LI,(∀b,¬S b)->Dc S W (s.enc y) ((L.drop off).take s.n))/\
  (∀(n i m:Nat) (u:TypeId) (L:LA),(s.fit P).2.2 n u=true->(∀j,j<n->∃x,DataW.trod enc P W 0 (λ_=>true) held m u ((L.drop ((i+j)*P.cellsOf u)).take (P.cellsOf u))=some x)->
   ∃y:s.T,s.wf y/\∀S:LI,(∀b,¬S b)->Dc S W (s.enc y) ((L.drop (i*P.cellsOf u)).take s.n)):=by
 intro s
 induction s with
 |int k=>
  refine⟨λt fuel L x hf h=>?_,λ_ _ _ _ hf _=>(by cases hf),λ_ _ _ _ _ hf _=>(by cases hf)⟩;unfold Sh.fit at hf;dsimp only at hf
  split at hf
  ·rename_i k' hk;simp only[XC]at hf;obtain⟨hk',hc⟩:=hf;have hk':=zf0 hk';subst hk';obtain⟨q,rfl,_,hw⟩:=DataW.trod_int hk h;exact⟨Xj hc,rfl,q,hw,λS _=>.one (.val _) rfl⟩
  cases hf
 |bool=>
  refine⟨λt fuel L x hf h=>?_,λ_ _ _ _ hf _=>(by cases hf),λ_ _ _ _ _ hf _=>(by cases hf)⟩;unfold Sh.fit at hf;dsimp only at hf
  split at hf
  ·rename_i hk;obtain⟨b,rfl,_⟩:=DataW.trod_bool hk h;refine⟨Xj hf,rfl,b,tV,λS _=>.one ?_ rfl⟩;have:=D.pr (S:=S) (w:=W) (b=true) inferInstance
   rwa [show decide (b=true)=b by cases b <;> rfl]at this
  cases hf
 |sl e ih=>
  refine⟨λt fuel L x hf h=>?_,λ_ _ _ _ hf _=>(by cases hf),λ_ _ _ _ _ hf _=>(by cases hf)⟩;unfold Sh.fit at hf;dsimp only at hf
  split at hf
  ·rename_i u hk;simp only[XC]at hf;obtain⟨⟨he,hc⟩,hpos⟩:=hf;have hpos:0<e.n:=by simpa using hpos
   refine⟨Xj hc,?_⟩
   obtain⟨rfl,_⟩|⟨a,len,cap,m,n,Df,Pl,rfl,_,hl,hm,hmm,_,hi⟩:=open_slice hk h
   ·exact⟨rfl,([]:List e.T),λx hx=>(by cases hx),λS _=>.one (.nil _ _) rfl⟩
   have hmc:m=cap:=by simpa using hmm
   subst hmc;refine⟨rfl,?_⟩
   have key:∀i,i<m->∃cs',P.cellsOf u=e.n/\W.cells? 0 (a.add (i*e.n)) e.n=some cs'/\∃y:e.T,e.wf y/\∀S:LI,(∀b,¬S b)->Dc S W (e.enc y) cs':=λi hi'=>by
    obtain⟨cs',h1,h2⟩:=hi i hi';obtain⟨g1,g2,g3⟩:=ih.1 u n cs' _ he h2;rw[g1]at h1;exact⟨cs',g1,h1,g3⟩
   by_cases h0:m=0
   ·subst h0;have:len=0:=oM;subst this;exact⟨([]:List e.T),λx hx=>(by cases hx),λS _=>.one (.nil _ _) rfl⟩
   have hspot:a.spot=none/\a.block<W.heap.size:=by
    obtain⟨cs',_,h1,_⟩:=key 0 oM;obtain⟨_,_,hat⟩:=World.cells?_some h1;have h2:=hat 0 hpos;have hlen:cs'.length=e.n:=by obtain⟨_,hl,_⟩:=World.cells?_some h1;exact hl
    rw[Xb oM,Jk]at h2;have:(a.add 0).add 0=a:=by unfold Addr.add;simp
    rw[this]at h2;unfold World.cell? at h2
    split at h2
    ·rename_i hb
     split at h2
     ·cases h2
     rename_i hs;refine⟨by simpa using hs,(XX.1 hb).1⟩
    cases h2
   obtain⟨b,o,sp⟩:=a;obtain⟨hs,hb⟩:=hspot;have hs:sp=none:=hs;subst hs
   haveI:Inhabited e.T:=⟨e.dflt⟩
   obtain⟨F,hF⟩:=choose_lt (α:=e.T) (n:=m) (p:=λi y=>∃cs',W.cells? 0 (Addr.add ⟨b,o,none⟩ (i*e.n)) e.n=some cs'/\e.wf y/\∀S:LI,(∀b,¬S b)->Dc S W (e.enc y) cs') (λi hi'=>by
    obtain⟨cs',_,h1,y,hy,hd⟩:=key i hi'
    exact⟨y,cs',h1,hy,hd⟩)
   refine⟨(List.range len).map F,λx hx=>?_,λS hS=>.one ?_ rfl⟩
   ·obtain⟨i,hi',rfl⟩:=XO.1 hx;obtain⟨_,_,hw,_⟩:=hF i (by have:=Kd.1 hi';omega);exact hw
   have at1:∀i j,i<m->j<e.n->∃v,W.cell? ⟨b,o+i*e.n+j,none⟩=some v/\v.oneCell'=true/\∀s,(e.enc (F i))[j]?=some s->D S W s v:=λi j hi' hj=>by
    obtain⟨cs',h1,_,hd⟩:=hF i hi';obtain⟨_,hlen,hat⟩:=World.cells?_some h1;have h2:=hat j hj;rw[Xb oM,add_add]at h2;have e1:Addr.add ⟨b,o,none⟩ (i*e.n+j)=⟨b,o+i*e.n+j,none⟩:=by rw[ya,←KB]
    rw[e1]at h2;have hd:=hd S hS;have hjl:j<(e.enc (F i)).length:=by rw[Sh.enc_len];exact hj
    have:=hd.2 j _ _ (Xb hjl) (Xb (show j<cs'.length by omega));refine⟨_,h2,this.2,λs hs=>?_⟩;exact(hd.2 j s _ hs (Xb (show j<cs'.length by omega))).1
   have hsl:=D.sl (S:=S) (w:=W) e.enc ((List.range len).map F) e.n b o m (λi j=>(W.cell? ⟨b,o+i*e.n+j,none⟩).getD undef) hb (hS b) (by simp;unfold maxLen at hm;omega) (by simpa using hl) (λx _=>Sh.enc_len e x) (λi j hi' hj=>by
    obtain⟨v,h1,h2,_⟩:=at1 i j (by simp at hi';omega) hj
    rw[h1];exact⟨rfl,h2⟩) (λi j x s hx hs=>by
    have hi':i<len:=by have:=(Xd.1 hx).1;simpa using this
    simp only[XD,Ql hi',Qb,Jl]at hx;subst hx;have hj:j<e.n:=by have:=(Xd.1 hs).1;rw[Sh.enc_len]at this;exact this
    obtain⟨v,h1,_,h3⟩:=at1 i j oM hj
    rw[h1];exact h3 s hs)
   simpa using hsl
  cases hf
 |st fs ih=>
  refine⟨λt fuel L x hf h=>?_,λ_ _ _ _ hf _=>(by cases hf),λ_ _ _ _ _ hf _=>(by cases hf)⟩;unfold Sh.fit at hf;dsimp only at hf
  split at hf
  ·rename_i gs hk;simp only[XC]at hf;obtain⟨hg,hc⟩:=hf;have hc:=Xj hc;obtain⟨xs,m,_,_,hl,hxl,hfl⟩:=DataW.trod_struct hk h
   obtain⟨y,hy,hd⟩:=ih.2.1 gs.toList 0 m L hg (λg hg'=>by
    obtain⟨i,hi,rfl⟩:=Kl hg';have hi':i<gs.size:=by simpa using hi
    have:=hfl i gs[i] (by simp[hi'])
    exact⟨xs[i]'oM,by simpa[Xb (show i<xs.length by omega)] using this⟩)
   refine⟨hc,hl.trans hc,y,hy,λS hS=>?_⟩;have:=hd S hS;rw[KY,Xi (by show L.length<=fs.n;omega)]at this;exact this
  cases hf
 |ar es ih=>
  refine⟨λt fuel L x hf h=>?_,λ_ _ _ _ hf _=>(by cases hf),λ_ _ _ _ _ hf _=>(by cases hf)⟩;unfold Sh.fit at hf;dsimp only at hf
  split at hf
  ·rename_i n u hk;simp only[XC]at hf;obtain⟨hg,hc⟩:=hf;have hc:=Xj hc;obtain⟨xs,m,_,_,hl,hxl,hfl⟩:=DataW.trod_array hk h
   obtain⟨y,hy,hd⟩:=ih.2.2 n 0 m u L hg (λj hj=>by
    have:=hfl j hj
    exact⟨xs[j]'oM,by rw[Kc,this,Xb (show j<xs.length by omega)]⟩)
   refine⟨hc,hl.trans hc,y,hy,λS hS=>?_⟩;have:=hd S hS;rw[Jk,KY,Xi (by show L.length<=es.n;omega)]at this;exact this
  cases hf
 |nil=>
  refine⟨λt fuel L x hf h=>(by cases hf),λgs off m L hf _=>⟨(),tV,λS _=>?_⟩,λn i m u L hf _=>⟨(),tV,λS _=>?_⟩⟩
  ·show Dc S W [] ((L.drop off).take 0);rw[Ys];exact .nil
  show Dc S W [] ((L.drop _).take 0);rw[Ys];exact .nil
 |cons f r ihf ihr=>
  refine⟨λt fuel L x hf h=>(by cases hf),λgs off m L hf hx=>?_,λn i m u L hf hx=>?_⟩
  ·unfold Sh.fit at hf;dsimp only at hf
   split at hf
   ·cases hf
   rename_i g gs;simp only[XC]at hf;obtain⟨⟨ho,h1⟩,h2⟩:=hf;have ho:=Xj ho;subst ho;obtain⟨x,hx0⟩:=hx g (List.mem_cons_self ..);obtain⟨g1,g2,y,hy,hd⟩:=ihf.1 g.type m _ x h1 hx0;obtain⟨z,hz,he⟩:=ihr.2.1 gs (g.offset+f.n) m L h2 (λg' hg'=>hx g' (List.mem_cons_of_mem _ hg'));refine⟨(y,z),⟨hy,hz⟩,λS hS=>?_⟩;show Dc S W (f.enc y++r.enc z) ((L.drop g.offset).take (f.n+r.n));rw[zkT];have:=hd S hS;rw[g1]at this;exact this.append (he S hS)
  unfold Sh.fit at hf;dsimp only at hf
  split at hf
  ·cases hf
  rename_i n;simp only[XC]at hf;obtain⟨h1,h2⟩:=hf;obtain⟨x,hx0⟩:=hx 0 oM;obtain⟨g1,g2,y,hy,hd⟩:=ihf.1 u m _ x h1 hx0
  obtain⟨z,hz,he⟩:=ihr.2.2 n (i+1) m u L h2 (λj hj=>by
   have:=hx (j+1) oM
   rwa [show i+(j+1)=i+1+j by omega]at this)
  refine⟨(y,z),⟨hy,hz⟩,λS hS=>?_⟩;show Dc S W (f.enc y++r.enc z) ((L.drop (i*P.cellsOf u)).take (f.n+r.n));rw[zkT];have:=hd S hS;rw[XP,g1]at this;have he:=he S hS;rw[g1,X2,Yt]at he;rw[g1];exact this.append he
def Dc.gs{S:LI}{w:World}{cs:LR}{vs:LA}(h:Dc S w cs vs){Pm:LI}{ρ:zh}:Gs S Pm ρ w cs vs:=
 ⟨h.1,λj s v hs hv=>.d _ _ (h.2 j s v hs hv).1⟩
end
def LEd(s r:SV):Prop:=∀(S:LI) (w:World) (v:Value),D S w s v->D S w r v
inductive qZ:LR->LR->Prop
 |nil:qZ [] []
 |cons {a b:SV} {us bs:LR} (h:LEd a b) (t:qZ us bs):qZ (a::us) (b::bs)
def LEd.refl{s:SV}:LEd s s:=λ_ _ _ h=>h
def qZ.refl:∀{us:LR},qZ us us
 |[]=>.nil
 |_::_=>.cons .refl .refl
def qZ.C{a:SV}{us bs:LR}(t:qZ us bs):qZ (a::us) (a::bs):=.cons .refl t
def qZ.append{us bs cs ds:LR}(h:qZ us bs)(k:qZ cs ds):qZ (us++cs) (bs++ds):=by
 induction h with
 |nil=>exact k
 |cons h _ ih=>exact .cons h ih
def qZ.ix{us bs:LR}(h:qZ us bs):us.length=bs.length/\∀(j:Nat) (s r:SV),us[j]?=some s->bs[j]?=some r->LEd s r:=by
 induction h with
 |nil=>exact⟨rfl,λj s r h=>by simp at h⟩
 |cons h t ih=>
  refine⟨by simp[ih.1],λj s r hs hr=>?_⟩
  cases j with
  |zero=>simp at hs hr;subst hs;subst hr;exact h
  |succ j=>exact ih.2 j s r (by simpa using hs) (by simpa using hr)
def LEd.sl{α β:Type}{e:α->LR}{g:β->LR}(f:α->β){xs:List α}(he:∀x∈xs,qZ (e x) (g (f x))):LEd (.sl e xs) (.sl g (xs.map f)):=λS w v h=>by
 cases h with
 |nil _ a=>exact .nil g a
 |sl _ _ sz b o cap c hb hS hlen hcap hsz hc h=>
  have:=D.sl (S:=S) (w:=w) g (xs.map f) sz b o cap c hb hS (by simpa using hlen) (by simpa using hcap) (λy hy=>by
   obtain⟨x,hx,rfl⟩:=XO.1 hy
   rw[←(he x hx).ix.1];exact hsz x hx) (λi j hi hj=>hc i j (by simpa using hi) hj) (λi j y s hy hs=>by
   rw[XD]at hy
   cases hx:xs[i]? with
   |none=>simp[hx]at hy
   |some x=>
    simp[hx]at hy;subst hy;have he:=he x (Xf hx);have hj:j<(e x).length:=by rw[he.ix.1];exact(Xd.1 hs).1
    have hs0:=Xb hj
    exact he.ix.2 j _ s hs0 hs _ _ _ (h i j x _ hx hs0))
  simpa using this
def zyM{α β:Type}{e:α->LR}{g:β->LR}(f:α->β){xs:List α}(he:∀x∈xs,qZ (e x) (g (f x))):LE (.sl e xs) (.sl g (xs.map f)):=λ_ _ _ _ _ hg=>.d _ _ (LEd.sl f he _ _ _ hg.sl_inv)
def qZ.gs{us bs:LR}(h:qZ us bs){S Pm:LI}{ρ:zh}{w:World}{vs:LA}(hd:vs.length=us.length/\∀(j:Nat) (s:SV) (v:Value),us[j]?=some s->vs[j]?=some v->D S w s v):Gs S Pm ρ w bs vs:=
 ⟨hd.1.trans h.ix.1,λj r v hr hv=>by
  have hj:j<us.length:=by rw[h.ix.1];exact(Xd.1 hr).1
  have hs:=Xb hj
  exact .d _ _ (h.ix.2 j _ r hs hr _ _ _ (hd.2 j _ v hs hv))⟩
section
variable{H:Type}{enc:TypeId×Value->H}{P:Program}{W:World}{held:Bool}
def zmY{b0:Nat}{t:TypeId}{v:Value}{d:DataW H}{p:List MemPlace}(s:Sh)(hf:(s.fit P).1 t=true)(ha:(match P.underlying t with|some (.struct _)=>true|some (.array _ _)=>true|_=>false)=true)(hv:Value.okWide P W .any b0 t v)(h:DataW.Trod enc P W 0 (λ_=>true) held t v d p):
  ∃y:s.T,s.wf y/\∀(g:LR),qZ (s.enc y) g->∀(S Pm:LI) (ρ:zh),(∀b,¬S b)->G S Pm ρ W (.agg g) v:=by
 obtain⟨fuel,hx⟩:=h;obtain⟨_,_,y,hy,hd⟩:=(zBd s).1 t fuel _ _ hf hx
 have:∃cs,v=.agg cs:=by
  unfold Value.okWide at hv
  split at ha
  ·rename_i h1;rw[h1]at hv;obtain⟨cs,rfl,_⟩:=hv;exact⟨cs,rfl⟩
  ·rename_i h1;rw[h1]at hv;obtain⟨cs,rfl,_⟩:=hv;exact⟨cs,rfl⟩
  cases ha
 obtain⟨cs,rfl⟩:=this;refine⟨y,hy,λg hg S Pm ρ hS=>?_⟩;have hd1:=hd S hS;have g1:=hg.gs (Pm:=Pm) (ρ:=ρ) ⟨hd1.1,λj s v hs hv=>(hd1.2 j s v hs hv).1⟩;have:=G.agg (S:=S) (Pm:=Pm) (ρ:=ρ) (w:=W) _ _ g1.1 g1.2
 rwa [show(Value.agg cs).cells.toList.toArray=cs from Array.toArray_toList]at this
end
open Go.Proofs
inductive Pw
 |d (q:Pl)
 |c (r:LU)
def pwE:Pw->LR
 |.d q=>plE q
 |.c r=>[.sl ptE r,.val (.bool false)]
def pwP:Pw->Pl
 |.d q=>q
 |.c r=>⟨r,false⟩
def zvI{q:Prop}{j:Decidable q}(h:¬q):LEd (.val (.bool false)) (.pr q j):=λS w v hd=>by
 cases hd
 have:=D.pr (S:=S) (w:=w) q j
 simpa[h] using this
def LE_pw(l:List Pw):LE (.sl pwE l) (.sl plE (l.map pwP)):=zyM pwP λx _=>by
 cases x with
 |d q=>exact .refl
 |c r=>exact .C (.cons (zvI (show¬(false=true) by decide)) .nil)
def zmZ(p:Pl)(q:Nat×Nat):Pw:=if p.cl=true/\q.1=0/\(q.2:Int)=zK p then .d (zt p) else .c (vf (zi p) q.1 q.2)
def zBe(p:Pl)(q:Nat×Nat):pwP (zmZ p q)=jX p q:=by
 unfold zmZ jX
 split <;> rfl
def zvJ(p:Pl)(l:List (Nat×Nat)):(l.map (zmZ p)).map pwP=l.map (jX p):=by
 rw[List.map_map];exact Qm λq _=>zBe p q
def ziz{pen:Pen}{long:Int}:∀q∈kQ pen long,q.1<q.2/\(q.2:Int)<=long/\1<=long:=by
 intro q hq;unfold kQ at hq
 split at hq
 ·cases hq
 rename_i h;have h1:¬long<1:=λk=>h (.inr (.inl k))
 split at hq
 ·have:=Xu.1 hq;subst this;dsimp only;omega
 have:=zkz q hq;omega
def zfO(p:Pl)(hp:p.pts.length<=4096):0<=zK p/\zK p<=17596481011712:=by
 have h:=vS (zi p) ((zi p).length-1);have h1:=jF (zt p);have h2:=jq p;rw[←yJ]at h1;unfold zK;omega
def zqQ{p:Pl}(h:1<=zK p):2<=(zi p).length:=by
 refine QY λk=>?_
 have:=zqh (p:=p) oM;omega
def zeI{p:Pl}{pen:Pen}{q:Nat×Nat}(hp:p.pts.length<=4096)(h:q∈kQ pen (zK p)):0<(jX p q).pts.length/\(jX p q).pts.length<=4100:=by
 obtain⟨_,_,h1⟩:=ziz q h;have h2:=zqQ h1;have ll:=jF (zt p);have dl:=jq p;rw[←yJ]at ll;unfold jX
 split
 ·rename_i k
  have:(zt p).pts.length≠0:=λe=>by
   have:=zbC (q:=zt p) oM;rw[←yJ]at this;omega
  omega
 have:=zoF (zi p) q.1 q.2;dsimp only;omega
def zgU(a b:LZ):jn (a++b)=jn a+jn b:=by unfold jn;simp
def zeJ:∀{l:LZ},(∀x∈l,0<x.pts.length)->l.length<=jn l
 |[],_=>Xh _
 |x::r,h=>by
  have h1:=h x (.head _);have h2:=zeJ (l:=r) λy hy=>h y (.tail _ hy)
  have e:jn (x::r)=x.pts.length+jn r:=by unfold jn;simp
  rw[e,Xn];omega
def zfP(p:Pl)(pen:Pen)(j:Nat):Nat:=jn (((kQ pen (zK p)).take j).map (jX p))
def zvK{p:Pl}{pen:Pen}{j:Nat}{y:Nat×Nat}(h:(kQ pen (zK p))[j]?=some y):zfP p pen (j+1)=zfP p pen j+(jX p y).pts.length:=by
 unfold zfP;rw[Xl,h,XA,zgU];show _+jn [jX p y]=_;unfold jn;simp
def zBf(p:Pl)(pen:Pen)(j:Nat):zfP p pen j<=jn ((kQ pen (zK p)).map (jX p)):=by
 have e:(kQ pen (zK p)).map (jX p)=((kQ pen (zK p)).take j).map (jX p)++((kQ pen (zK p)).drop j).map (jX p):=by
  rw[←XA,Kj]
 rw[e,zgU];exact Js _ _
def zBg{p:Pl}{pen:Pen}(hp:p.pts.length<=4096)(j:Nat):((kQ pen (zK p)).take j).length<=zfP p pen j:=by
 have:=zeJ (l:=((kQ pen (zK p)).take j).map (jX p)) λx hx=>by
  obtain⟨q,hq,rfl⟩:=XO.1 hx;exact(zeI hp (XL hq)).1
 rwa [Xx]at this
def dM(p:Pl)(pen:Pen)(j:Nat):LT:=
 [(0,.box 193 [.sl ptE p.pts,pr (p.cl=true)]),(1,.box 186 [nS]),(2,.box 42 [i64 0]),(3,.box 271 (meE (meQ (zt p)))),
  (4,.box 186 [.own 6]),(5,.box 3 [i64 (zfP p pen j:Int)]),(6,.arr 193 pwE 2 (((kQ pen (zK p)).take j).map (zmZ p)))]
def dB(p:Pl):LT:=
 [(0,.box 193 [.sl ptE p.pts,pr (p.cl=true)]),(1,.box 186 [nS]),(2,.box 42 [i64 0]),(3,.box 271 (meE (meQ (zt p)))),
  (4,.box 186 [.sl ptE (List.replicate 9223372036854775808 zp)]),(5,.box 3 [i64 4097])]
def dS(p:Pl)(pen:Pen)(j:Nat):LT:=if zfP p pen j<=4096 then dM p pen j else dB p
def zub{S Pm:LI}{ρ:zh}{w:World}{v:Value}:¬G S Pm ρ w (.sl ptE (List.replicate 9223372036854775808 zp)) v:=λhg=>by
 have key:∀{xs:LU} {u:Value},D S w (.sl ptE xs) u->xs.length<=9223372036854775807:=λhd=>by
  cases hd with
  |nil=>decide
  |sl _ _ sz b o cap c hb hS hlen=>exact hlen
 have:=key hg.sl_inv;rw[Ki]at this;omega
def zBh{a s:SV}:LE (.tup [.sl ptE (List.replicate 9223372036854775808 zp),a]) s:=λS Pm ρ w v hg=>by
 cases hg with
 |d _ _ hd=>cases hd
 |tup cs vs hl h=>
  obtain⟨u,hu⟩:∃u,vs[0]?=some u:=⟨_,Xb (by rw[hl];exact Nat.succ_pos 1)⟩;exact absurd (h 0 _ u rfl hu) zub
def dS_pf(p:Pl)(pen:Pen)(j:Nat):ziL (dS p pen j):=by
 unfold dS
 split
 ·intro k m hm;unfold dM at hm;simp only[XY,XR,or_false,Kt]at hm
  obtain⟨_,rfl⟩|⟨_,rfl⟩|⟨_,rfl⟩|⟨_,rfl⟩|⟨_,rfl⟩|⟨_,rfl⟩|⟨_,rfl⟩:=hm
  all_goals first|rfl|trivial
 intro k m hm;unfold dB at hm;simp only[XY,XR,or_false,Kt]at hm
 obtain⟨_,rfl⟩|⟨_,rfl⟩|⟨_,rfl⟩|⟨_,rfl⟩|⟨_,rfl⟩|⟨_,rfl⟩:=hm
 all_goals first|rfl|trivial
def zyN(p:Pl)(pen:Pen)(hp:p.pts.length<=4096):CX 175 [ws p,wr pen] (zov (jw p pen)):=by
 refine ug 3 tok mix func175 rfl rfl rfl ?_
 have es:jw p pen=if¬kC pen then([],13) else if¬∀q∈p.pts,zr q then([],6) else if 4096<p.pts.length then([],5)
  else if pen.d=[] then([zt p],0) else if 4096<jn ((kQ pen (zK p)).map (jX p)) then([],5) else((kQ pen (zK p)).map (jX p),0):=rfl
 refine wg (zep pen)<|⟨λk=>?_,λk=>?_⟩
 ·have k:¬kC pen:=k;exact jp (by rw[es,Xe k])
 have k:kC pen:=Xa.1 k;rw[kH k]at es
 by_cases ok:∀q∈p.pts,zr q
 rotate_left
 ·refine wg (zmV p hp)<|⟨λ_=>?_,λh=>absurd (Xa.1 h) ok⟩;exact jp (by rw[es,Xe ok])
 rw[kH ok,Xc (show¬4096<p.pts.length by omega)]at es;have hM:=zmV p hp;rw[zBc ok]at hM;refine wg hM<|Br.mk (λh=>absurd ok h) (λ_=>?_);intro hl1;refine⟨λh=>absurd (show(4096:Int)<p.pts.length from h) oM,λ_=>?_⟩;intro hl2;refine⟨λz:(pen.d.length:Int)=0=>?_,λz:¬(pen.d.length:Int)=0=>?_⟩
 ·have z:pen.d=[]:=Xp oM;refine wg (zgO p hp)<|⟨Pl,plE,[zt p],rfl,wb0 ?_⟩;rw[es,Xe z];exact .refl
 rw[Xc (λh=>z (by rw[h];rfl))]at es;have lr:=zfO p hp;refine wg (p_on pen (zK p))<|⟨Nat×Nat,runE,kQ pen (zK p),6,[(2,.loc 0 0),(4,.loc 1 0),(5,.loc 2 0),(6,.loc 3 0),(8,.loc 4 0),(9,.loc 5 0)],dS p pen,λ_=>7,zBb pen (zK p) oM,λ_=>rfl,⟨rfl,rfl,rfl,rfl⟩,?_,⟨Xh _,rfl⟩,dS_pf p pen,?_,?_⟩
 ·rw[show dS p pen 0=dM p pen 0 from Xe (Xh _)];exact zB [(0,some 0),(1,some 2),(2,some 3),(3,some 4),(4,some 5),(5,some 6),(6,none)]
 ·intro j y hy _;have hm:=Xf hy;obtain⟨y1,y2,y3⟩:=ziz y hm;have cs:=zvK hy;have cle:=zBf p pen (j+1);have dp:=zeI hp hm;have bad:4096<zfP p pen (j+1)->jw p pen=([],5):=λh=>by rw[es,Xe oM]
  have dl:=jq p;have ll:=jF (zt p);rw[←yJ]at ll;have l2:=zqQ y3;have w1:p.cl=true->(y.1:Int)=0->(y.2:Int)=zK p->zmZ p y=.d (zt p)/\(jX p y).pts=(zt p).pts:=λa b c=>⟨Xe ⟨a,oM,c⟩,Xg Pl.pts (Xe ⟨a,oM,c⟩)⟩
  have w2:¬(p.cl=true/\(y.1:Int)=0/\(y.2:Int)=zK p)->zmZ p y=.c (vf (zi p) y.1 y.2)/\(jX p y).pts=vf (zi p) y.1 y.2:=λh=>
   ⟨Xc λk=>h ⟨k.1,oM,k.2.2⟩,Xg Pl.pts (Xc λk=>h ⟨k.1,oM,k.2.2⟩)⟩
  by_cases hc:zfP p pen j<=4096
  ·rw[show dS p pen j=dM p pen j from Xe hc];have cg:=zBg (pen:=pen) hp j;refine⟨λc=>Br.mk (λc1=>Br.mk (λc2=>?_) (λc2=>?_)) (λc1=>?_),λc=>?_⟩
   ·obtain⟨e1,e2⟩:=w1 c c1 c2;rw[e2]at cs dp;refine wg (zgO p hp) λhl3=>wa<|Br.mk (λo=>?_) (λo=>?_)
    ·have o:(4096:Int)<(zfP p pen j:Int)+((zt p).pts.length:Int):=o;refine⟨[(1,.box 186 [nS]),(2,.box 42 [i64 5])],6,zf [0,1,2,3,4,5],λk m hm=>?_,jp (bad oM)⟩;simp only[XY,XR,or_false,Kt]at hm
     obtain⟨_,rfl⟩|⟨_,rfl⟩:=hm <;> rfl
    have o:¬(4096:Int)<(zfP p pen j:Int)+((zt p).pts.length:Int):=o;refine⟨Pw,pwE,[.d (zt p)],rfl,wb4 ?_⟩;refine⟨[.d (zt p)],rfl,wb25 ?_⟩;rw[show dS p pen (j+1)=dM p pen (j+1) from Xe oM];refine zu [0,1,2,3,4,5,9] ⟨rfl,rfl,rfl,rfl,rfl,Xg (λn=>some (Mem.box 3 [i64 n])) oM,aR ?_,tV⟩;rw[Xl,hy,XA,←e1];rfl
   all_goals
    have hno:¬(p.cl=true/\(y.1:Int)=0/\(y.2:Int)=zK p):=by
     first
     |exact λh=>c2 h.2.2
     |exact λh=>c1 h.2.1
     |exact λh=>c h.1
    obtain⟨e1,e2⟩:=w2 hno;rw[e2]at cs dp;have hcut:CX 253 [.agg (meE (meQ (zt p))),i64 (y.1:Int),i64 (y.2:Int)] (.sl ptE (vf (zi p) y.1 y.2)):=zCC (zt p) y.1 y.2 oM l2 ⟨oM,oM⟩ ⟨oM,oM⟩;refine wg hcut λhl3=>wa<|Br.mk (λo=>?_) (λo=>?_)
    ·have o:(4096:Int)<(zfP p pen j:Int)+((vf (zi p) y.1 y.2).length:Int):=o;refine⟨[(1,.box 186 [nS]),(2,.box 42 [i64 5])],6,zf [0,1,2,3,4,5],λk m hm=>?_,jp (bad oM)⟩;simp only[XY,XR,or_false,Kt]at hm
     obtain⟨_,rfl⟩|⟨_,rfl⟩:=hm <;> rfl
    have o:¬(4096:Int)<(zfP p pen j:Int)+((vf (zi p) y.1 y.2).length:Int):=o;refine⟨Pw,pwE,[.c (vf (zi p) y.1 y.2)],rfl,wb4 ?_⟩;refine⟨[.c (vf (zi p) y.1 y.2)],rfl,wb25 ?_⟩;rw[show dS p pen (j+1)=dM p pen (j+1) from Xe oM];refine zu [0,1,2,3,4,5,9] ⟨rfl,rfl,rfl,rfl,rfl,Xg (λn=>some (Mem.box 3 [i64 n])) oM,aR ?_,tV⟩;rw[Xl,hy,XA,←e1];rfl
  rw[show dS p pen j=dB p from Xc hc];refine⟨λc=>Br.mk (λc1=>Br.mk (λc2=>?_) (λc2=>?_)) (λc1=>?_),λc=>?_⟩
  ·obtain⟨e1,e2⟩:=w1 c c1 c2;rw[e2]at cs dp;refine wg (zgO p hp) λhl3=>wa<|Br.mk (λo=>?_) (λo=>absurd (show(4096:Int)<4097+((zt p).pts.length:Int) by omega) o);refine⟨[(1,.box 186 [nS]),(2,.box 42 [i64 5])],6,zf [0,1,2,3,4,5],λk m hm=>?_,jp (bad oM)⟩;simp only[XY,XR,or_false,Kt]at hm
   obtain⟨_,rfl⟩|⟨_,rfl⟩:=hm <;> rfl
  all_goals
   have hno:¬(p.cl=true/\(y.1:Int)=0/\(y.2:Int)=zK p):=by
    first
    |exact λh=>c2 h.2.2
    |exact λh=>c1 h.2.1
    |exact λh=>c h.1
   obtain⟨e1,e2⟩:=w2 hno;rw[e2]at cs dp;have hcut:CX 253 [.agg (meE (meQ (zt p))),i64 (y.1:Int),i64 (y.2:Int)] (.sl ptE (vf (zi p) y.1 y.2)):=zCC (zt p) y.1 y.2 oM l2 ⟨oM,oM⟩ ⟨oM,oM⟩;refine wg hcut λhl3=>wa<|Br.mk (λo=>?_) (λo=>absurd (show(4096:Int)<4097+((vf (zi p) y.1 y.2).length:Int) by omega) o);refine⟨[(1,.box 186 [nS]),(2,.box 42 [i64 5])],6,zf [0,1,2,3,4,5],λk m hm=>?_,jp (bad oM)⟩;simp only[XY,XR,or_false,Kt]at hm
   obtain⟨_,rfl⟩|⟨_,rfl⟩:=hm <;> rfl
 intro _
 by_cases hc:zfP p pen (kQ pen (zK p)).length<=4096
 ·rw[show dS p pen (kQ pen (zK p)).length=dM p pen (kQ pen (zK p)).length from Xe hc];have et:(kQ pen (zK p)).take (kQ pen (zK p)).length=kQ pen (zK p):=X1;unfold zfP at hc;rw[et]at hc;rw[es,Xc oM];refine zM ((LE_pw _).trans (zZ ?_)) .refl;rw[zvJ,et]
 rw[show dS p pen (kQ pen (zK p)).length=dB p from Xc hc];exact zBh
def zuc(l:LU):CX 228 [.sl ptE l] (pr (∀p∈l,zr p)):=by
 refine zc func228<|⟨Nat,λi=>⟨[(0,.sl ptE l),(3,i64 i)],[],0,16,0⟩,λi=>i<=l.length/\∀p∈l.take i,zr p,λi=>l.length-i,0,?_,?_,?_⟩
 ·exact⟨Xh _,λp hp=>by cases hp⟩
 ·exact zB []
 rintro i ⟨h1,h2⟩
 intro hl1;refine⟨λg:(i:Int)<l.length=>?_,λg:¬(i:Int)<l.length=>?_⟩
 ·refine wb λx(hx:l[i]?=some x)=>?_;refine wg (z9 x)<|⟨λb=>zd λk=>b (k x (Xf hx)),λb=>?_⟩;have b:=Xa.1 b;refine wa<|⟨i+1,⟨oM,λp hp=>?_⟩,zB [],oN⟩;rw[Xl,hx]at hp
  rcases Xs.1 hp with hp|hp
  ·exact h2 p hp
  simp at hp;rw[hp];exact b
 rw[Xi oM]at h2;exact zH h2
def zud(a b:Pt):CX 290 [wk a,wk b] (i64 (jd a b)):=by
 exact zc func290<|wg (zmj b a)<|wg (zxs (zad b a))<|.refl
def zyO(p:Pl)(hp:p.pts.length<=4096):CX 289 [ws p] (.sl ptE (zi p)):=by
 refine zc func289 ?_;have dl:=jq p;refine wg (zja p hp)<|⟨Pt,ptE,[],rfl,wb2 ?_⟩;refine⟨Nat,λi=>⟨[(3,.loc 0 0),(4,.own 1),(5,i64 i)],[(0,.box 193 (plE (zt p))),(1,.arr 28 ptE 2 ((zt p).pts.take i))],2,40,0⟩,λi=>i<=(zt p).pts.length,λi=>(zt p).pts.length-i,0,?_,?_,?_⟩
 ·exact Xh _
 ·exact zf [1,2]
 rintro i hi
 intro hl1;refine⟨λg:(i:Int)<(zt p).pts.length=>?_,λg:¬(i:Int)<(zt p).pts.length=>?_⟩
 ·refine wb λx(hx:(zt p).pts[i]?=some x)=>?_;refine⟨Pt,ptE,[x],rfl,wb0 ?_⟩;refine⟨[x],rfl,wb15 ?_⟩;exact wa<|⟨i+1,oM,zu [0,3] ⟨rfl,aR (by rw[Xl,hx];rfl),tV⟩,oN⟩
 have et:(zt p).pts.take i=(zt p).pts:=Xi oM;have no:¬((zt p).cl=true/\2<=(zt p).pts.length)->LE (.sl ptE ((zt p).pts.take i)) (.sl ptE (zi p)):=λh=>zZ (by rw[et,yJ,zoB h])
 refine⟨λc=>?_,λc=>no λh=>c h.1⟩;have c:(zt p).cl=true:=c;intro hl2;refine⟨λn2=>?_,λn2=>no λh=>n2 (show(2:Int)<=(zt p).pts.length by have:=h.2;omega)⟩;have n2:(2:Int)<=(zt p).pts.length:=n2;refine wb λx hx=>?_;have hx:=qn (show(zt p).pts[0]?=some x from hx);refine⟨Pt,ptE,[x],rfl,wb0 ?_⟩;refine⟨[x],rfl,wb15 ?_⟩;exact zZ (by rw[et,yJ,zgS c oM,hx])
def zqR(p:Pl)(hp:p.pts.length<=4096)(ok:∀q∈p.pts,zr q):CX 229 [ws p] (i64 (zK p)):=by
 refine zc func229 ?_;have dl:=jq p;have ll:=jF (zt p);rw[←yJ]at ll;refine wg (zyO p hp)<|⟨Nat,λi=>⟨[(1,.loc 0 0),(3,i64 (atS (zi p) i)),(4,.sl ptE (zi p)),(5,i64 ((i:Int)+1))],[(0,.box 193 [.sl ptE p.pts,pr (p.cl=true)])],1,32,0⟩,λi=>i<=(zi p).length-1,λi=>(zi p).length-i,0,?_,?_,?_⟩
 ·exact Xh _
 ·exact zf [0]
 rintro i hi
 have ar:=vS (zi p) i;intro hl1;refine⟨λg=>?_,λg=>?_⟩;rotate_left
 ·have g:¬(i:Int)+1<(zi p).length:=g;exact ze (by unfold zK;rw[show i=(zi p).length-1 by omega])
 have g:(i:Int)+1<(zi p).length:=g;refine wg (zuc p.pts)<|⟨λ_=>?_,λh=>absurd ok h⟩;refine wc<|wa<|wb λx hx=>?_
 have hx:=qn (show(zi p)[i]?=some x by
  have hx:(zi p)[((i:Int)+1-1).toNat]?=some x:=hx
  rwa [show((i:Int)+1-1).toNat=i by omega]at hx)
 refine wb λy hy=>?_;have hy:=qn (show(zi p)[i+1]?=some y from hy);refine wg (zud x y) ?_;have pc:=yw x y;(iterate 2 refine wa ?_);exact⟨i+1,oM,zS [0] ⟨rfl,iR (by rw[hx,hy];rfl),rfl,iR oM,tV⟩ ⟨rfl,tV⟩,oN⟩
def zCD(d:LV)(hd:uy d):CX 291 [.sl zN d] (.tup [i64 (qz d),i64 (drawn d)]):=by
 refine zc func291 ?_;obtain⟨d1,d2,d3,d4⟩:=yh hd;refine⟨Nat,λi=>⟨[(0,.sl zN d),(4,i64 (qw d i)),(5,i64 (256*u1 0 d i)),(6,i64 i)],[],0,32,0⟩,λi=>i<=d.length,λi=>d.length-i,0,?_,?_,?_⟩
 ·exact Xh _
 ·exact zB []
 rintro i hi
 have hpi:=zdY d1 hi;have hps:=zbD d i hi;have q0:=yg (r:=0) d1 i hi;have q1:=yg (r:=1) d1 i hi;intro hl1;refine⟨λg:(i:Int)<d.length=>?_,λg:¬(i:Int)<d.length=>?_⟩
 ·refine wb λx(hx:d[i]?=some x)=>?_;have hx1:=d1 x (Xf hx);have hx2:=d2 x (Xf hx);(iterate 2 refine wa ?_);refine Dv.pos ⟨oM,dC⟩<|⟨λev=>?_,λev=>?_⟩
  ·have ev:(i:Int)%2=0:=ev;refine wb λx' hx'=>?_;have ex:x'=x:=Xm ((show d[i]?=some x' from hx').symm.trans hx);rw[ex];(iterate 3 refine wa ?_);exact⟨i+1,oM,ji [] ⟨rfl,iR (yn hx).symm,iR (by rw[zeG hx oM];omega),rfl,tV⟩ trivial,oN⟩
  have ev:¬(i:Int)%2=0:=ev;exact wa<|⟨i+1,oM,ji [] ⟨rfl,iR (yn hx).symm,iR (by rw[zhV oM]),rfl,tV⟩ trivial,oN⟩
 have ei:i=d.length:=oM;exact zM (ze (by rw[ei,yI])) (ze (by rw[ei];rfl))
def zD5(pen:Pen)(t:Nat)(hk:kC pen)(hper:0<qz pen.d)(ht:(t:Int)<=70368744177664):CX 292 [wr pen,i64 t] (.tup [i64 ((yu pen.d (phD pen t) 0).1:Int),i64 (yu pen.d (phD pen t) 0).2]):=by
 refine zc func292 ?_;obtain⟨d1,d2,d3,d4⟩:=yh hk.2.2.2.2.1;have hph:=hk.2.2.2.2.2;refine wg (zCD pen.d hk.2.2.2.2.1) ?_;have m1:=Kb (256*pen.ph) (show qz pen.d≠0 by omega);have m2:=X5 (256*pen.ph) hper;have m3:=Kb (t:Int) (show qz pen.d≠0 by omega);have m6:=X5 (t:Int) hper;have m4:=Kb ((t:Int)%qz pen.d+256*pen.ph%qz pen.d) (show qz pen.d≠0 by omega);have m5:=X5 ((t:Int)%qz pen.d+256*pen.ph%qz pen.d) hper;refine wc ?_
 refine Dv.pos ⟨oM,oM⟩<|wa<|Dv.pos ⟨oM,oM⟩<|wa<|Dv.pos ⟨oM,oM⟩ ?_;have ek:phD pen t=((t:Int)%qz pen.d+256*pen.ph%qz pen.d)%qz pen.d:=rfl;rw[←ek]at m4 m5;refine⟨Nat,λi=>⟨[(2,.loc 0 0),(8,i64 (phD pen t-qw pen.d i)),(9,i64 i)],[(0,.box 61 (jb pen))],1,59,0⟩,λi=>i<=pen.d.length/\qw pen.d i<=phD pen t,λi=>pen.d.length-i,0,?_,?_,?_⟩
 ·exact⟨Xh _,by rw[uq];exact m4⟩
 ·exact zS [0] ⟨rfl,iR (by rw[uq,Int.sub_zero];exact ek.symm),rfl,tV⟩ ⟨rfl,tV⟩
 rintro i ⟨hi,hle⟩
 have hpi:=zdY d1 hi;intro hl1;refine⟨λg:(i:Int)<pen.d.length=>?_,λg:¬(i:Int)<pen.d.length=>?_⟩
 ·refine wb λx(hx:pen.d[i]?=some x)=>?_;have same:∀y,pen.d[(i:Int).toNat]?=some y->y=x:=λy h=>Xm ((show pen.d[i]?=some y from h).symm.trans hx)
  have hx1:=d1 x (Xf hx);have hx2:=d2 x (Xf hx);have hs:=yn hx;refine wa<|Br.mk (λc=>?_) (λc=>?_)
  ·have c:phD pen t-qw pen.d i<256*x:=c;have hp:=zey (i0:=0) d1 hx hle oM;refine wc<|wb λx' hx'=>?_;rw[same x' hx'];(iterate 2 refine wa ?_);refine zM (ze ?_) (ze ?_)
   ·rw[hp];show(i:Int)=((0+i:Nat):Int);omega
   rw[hp];dsimp only;omega
  have c:¬phD pen t-qw pen.d i<256*x:=c;refine wb λx' hx'=>?_;rw[same x' hx'];(iterate 3 refine wa ?_);exact⟨i+1,⟨oM,oM⟩,zS [0] ⟨rfl,iR (by rw[hs];omega),rfl,tV⟩ ⟨rfl,tV⟩,oN⟩
 have:qw pen.d i=qz pen.d:=by rw[show i=pen.d.length by omega,yI]
 omega
end Go.Gs
