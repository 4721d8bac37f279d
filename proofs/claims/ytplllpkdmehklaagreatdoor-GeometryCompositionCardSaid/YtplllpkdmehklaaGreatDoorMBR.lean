/- Arguments of any shape, laid open: integers, bools, slices, structs, arrays, one within the other. -/
import Derived.Test.YtplllpkdmehklaaGreatDoorMA
import Derived.Test.YtplllpkdmehklaaGreatDoorMBQ
import Derived.Test.YtplllpkdmehklaaGreatDoorMBO
set_option maxRecDepth 100000
set_option maxHeartbeats 8000000
set_option linter.all false
namespace Go.Gs
open Go.ChangeShapes Go.WideShapes Go.Deep Go.Joins Go.RowKit
inductive Sh
 | int (k:IntKind)
 | bool
 | sl (e:Sh)
 | st (fs:Sh)
 | ar (es:Sh)
 | nil
 | cons (f r:Sh)
def Sh.T:Sh->Type
 | .int _=>Int
 | .bool=>Bool
 | .sl e=>List e.T
 | .st fs=>fs.T
 | .ar es=>es.T
 | .nil=>Unit
 | .cons f r=>f.T×r.T
def Sh.dflt:(s:Sh)->s.T
 | .int _=>(0:Int)
 | .bool=>false
 | .sl _=>[]
 | .st fs=>fs.dflt
 | .ar es=>es.dflt
 | .nil=>()
 | .cons f r=>(f.dflt,r.dflt)
def Sh.n:Sh->Nat
 | .int _=>1
 | .bool=>1
 | .sl _=>1
 | .st fs=>fs.n
 | .ar es=>es.n
 | .nil=>0
 | .cons f r=>f.n+r.n
def Sh.enc:(s:Sh)->s.T->List SV
 | .int k,n=>[.val (.int k n)]
 | .bool,b=>[.pr (@Eq Bool b true) (instDecidableEqBool b true)]
 | .sl e,xs=>[.sl e.enc xs]
 | .st fs,x=>fs.enc x
 | .ar es,x=>es.enc x
 | .nil,_=>[]
 | .cons f r,x=>f.enc x.1++r.enc x.2
def Sh.wf:(s:Sh)->s.T->Prop
 | .int k,n=>(Lit.int k n).wf=true
 | .bool,_=>True
 | .sl e,xs=>∀x:e.T,@Membership.mem e.T (List e.T) _ xs x->e.wf x
 | .st fs,x=>fs.wf x
 | .ar es,x=>es.wf x
 | .nil,_=>True
 | .cons f r,x=>f.wf x.1/\r.wf x.2
def Sh.fit(P:Program):Sh->(TypeId->Bool)×(List Field->Nat->Bool)×(Nat->TypeId->Bool)
 |.int k=>(fun t=>match P.underlying t with
  | some (.int k')=>zpG k k'&&Nat.beq (P.cellsOf t) 1
  | _=>false,fun _ _=>false,fun _ _=>false)
 |.bool=>(fun t=>match P.underlying t with
  | some .bool=>Nat.beq (P.cellsOf t) 1
  | _=>false,fun _ _=>false,fun _ _=>false)
 |.sl e=>(fun t=>match P.underlying t with
  | some (.slice u)=>(e.fit P).1 u&&Nat.beq (P.cellsOf t) 1&&Nat.blt 0 e.n
  | _=>false,fun _ _=>false,fun _ _=>false)
 |.st fs=>(fun t=>match P.underlying t with
  | some (.struct gs)=>(fs.fit P).2.1 gs.toList 0&&Nat.beq (P.cellsOf t) fs.n
  | _=>false,fun _ _=>false,fun _ _=>false)
 |.ar es=>(fun t=>match P.underlying t with
  | some (.array n u)=>(es.fit P).2.2 n u&&Nat.beq (P.cellsOf t) es.n
  | _=>false,fun _ _=>false,fun _ _=>false)
 |.nil=>(fun _=>false,fun gs _=>match gs with
  | []=>true
  | _=>false,fun n _=>match n with
  | 0=>true
  | _=>false)
 |.cons f r=>(fun _=>false,fun gs off=>match gs with
  | []=>false
  | g::gs=>Nat.beq g.offset off&&(f.fit P).1 g.type&&(r.fit P).2.1 gs (off+f.n),fun n u=>match n with
  | 0=>false
  | n+1=>(f.fit P).1 u&&(r.fit P).2.2 n u)
theorem Sh.enc_len:∀(s:Sh) (x:s.T),(s.enc x).length=s.n
 | .int _,_=>rfl
 | .bool,_=>rfl
 | .sl _,_=>rfl
 | .st fs,x=>Sh.enc_len fs x
 | .ar es,x=>Sh.enc_len es x
 | .nil,_=>rfl
 | .cons f r,x=>by
  show (f.enc x.1++r.enc x.2).length=f.n+r.n;rw [List.length_append,Sh.enc_len f,Sh.enc_len r]
def Dc(S:Nat->Prop)(w:World)(cs:List SV)(vs:List Value):Prop:=
 vs.length=cs.length/\∀(j:Nat) (s:SV) (v:Value),cs[j]? =some s->vs[j]? =some v->D S w s v/\v.oneCell'=true
theorem Dc.nil{S:Nat->Prop}{w:World}:Dc S w [] []:=⟨rfl,fun j s v h=>by simp at h⟩
theorem Dc.append{S:Nat->Prop}{w:World}{cs ds:List SV}{vs us:List Value}(h:Dc S w cs vs)(k:Dc S w ds us):Dc S w (cs++ds) (vs++us):=by
 refine ⟨by rw [List.length_append,List.length_append,h.1,k.1],fun j s v hs hv=>?_⟩
 by_cases hj:j < cs.length
 ·rw [List.getElem?_append_left hj] at hs;rw [List.getElem?_append_left (by rw [h.1];exact hj)] at hv;exact h.2 j s v hs hv
 ·rw [List.getElem?_append_right oM] at hs;rw [List.getElem?_append_right (by rw [h.1];omega),h.1] at hv;exact k.2 _ s v hs hv
theorem Dc.one{S:Nat->Prop}{w:World}{s:SV}{v:Value}(h:D S w s v)(ho:v.oneCell'=true):Dc S w [s] [v]:=⟨rfl,fun j s' v' hs hv=>by
 match j with
 | 0=>simp at hs hv;subst hs;subst hv;exact ⟨h,ho⟩
 | j+1=>simp at hs⟩
section
variable {H:Type} {enc:TypeId×Value->H} {P:Program} {W:World} {held:Bool}
theorem zju(L:List Value)(off a b:Nat):(L.drop off).take (a+b)=(L.drop off).take a++(L.drop (off+a)).take b:=by
 rw [List.take_add,List.drop_drop]
theorem zzE:∀s:Sh,
  ((∀(t:TypeId) (fuel:Nat) (L:List Value) (x:DataW H×List MemPlace),(s.fit P).1 t=true->DataW.trod enc P W 0 (fun _=>true) held fuel t L=some x->
   P.cellsOf t=s.n/\L.length=s.n/\∃y:s.T,s.wf y/\∀S:Nat->Prop,(∀b,¬S b)->Dc S W (s.enc y) L))/\
  (∀(gs:List Field) (off m:Nat) (L:List Value),(s.fit P).2.1 gs off=true->(∀g∈gs,∃x,DataW.trod enc P W 0 (fun _=>true) held m g.type ((L.drop g.offset).take (P.cellsOf g.type))=some x)->
   ∃y:s.T,s.wf y/\∀S:Nat->Prop,(∀b,¬S b)->Dc S W (s.enc y) ((L.drop off).take s.n))/\
  (∀(n i m:Nat) (u:TypeId) (L:List Value),(s.fit P).2.2 n u=true->(∀j,j < n->∃x,DataW.trod enc P W 0 (fun _=>true) held m u ((L.drop ((i+j)*P.cellsOf u)).take (P.cellsOf u))=some x)->
   ∃y:s.T,s.wf y/\∀S:Nat->Prop,(∀b,¬S b)->Dc S W (s.enc y) ((L.drop (i*P.cellsOf u)).take s.n)):=by
 intro s
 induction s with
 | int k=>
  refine ⟨fun t fuel L x hf h=>?_,fun _ _ _ _ hf _=>(by cases hf),fun _ _ _ _ _ hf _=>(by cases hf)⟩;unfold Sh.fit at hf;dsimp only at hf
  split at hf
  ·rename_i k' hk;simp only [Bool.and_eq_true] at hf;obtain ⟨hk',hc⟩:=hf;have hk':=ze6 hk';subst hk';obtain ⟨q,rfl,_,hw⟩:=DataW.trod_int hk h;exact ⟨Nat.eq_of_beq_eq_true hc,rfl,q,hw,fun S _=>.one (.val _) rfl⟩
  ·cases hf
 | bool=>
  refine ⟨fun t fuel L x hf h=>?_,fun _ _ _ _ hf _=>(by cases hf),fun _ _ _ _ _ hf _=>(by cases hf)⟩;unfold Sh.fit at hf;dsimp only at hf
  split at hf
  ·rename_i hk;obtain ⟨b,rfl,_⟩:=DataW.trod_bool hk h;refine ⟨Nat.eq_of_beq_eq_true hf,rfl,b,trivial,fun S _=>.one ?_ rfl⟩;have:=D.pr (S:=S) (w:=W) (b=true) inferInstance
   rwa [show decide (b=true)=b by cases b <;> rfl] at this
  ·cases hf
 | sl e ih=>
  refine ⟨fun t fuel L x hf h=>?_,fun _ _ _ _ hf _=>(by cases hf),fun _ _ _ _ _ hf _=>(by cases hf)⟩;unfold Sh.fit at hf;dsimp only at hf
  split at hf
  ·rename_i u hk;simp only [Bool.and_eq_true] at hf;obtain ⟨⟨he,hc⟩,hpos⟩:=hf;have hpos:0 < e.n:=by simpa using hpos
   refine ⟨Nat.eq_of_beq_eq_true hc,?_⟩
   rcases open_slice hk h with ⟨rfl,_⟩ | ⟨a,len,cap,m,n,Df,Pl,rfl,_,hl,hm,hmm,_,hi⟩
   ·exact ⟨rfl,([]:List e.T),fun x hx=>(by cases hx),fun S _=>.one (.nil _ _) rfl⟩
   have hmc:m=cap:=by simpa using hmm
   subst hmc;refine ⟨rfl,?_⟩
   have key:∀i,i < m->∃cs',P.cellsOf u=e.n/\W.cells? 0 (a.add (i*e.n)) e.n=some cs'/\∃y:e.T,e.wf y/\∀S:Nat->Prop,(∀b,¬S b)->Dc S W (e.enc y) cs':=fun i hi'=>by
    obtain ⟨cs',h1,h2⟩:=hi i hi';obtain ⟨g1,g2,g3⟩:=ih.1 u n cs' _ he h2;rw [g1] at h1;exact ⟨cs',g1,h1,g3⟩
   by_cases h0:m=0
   ·subst h0;have:len=0:=oM;subst this;exact ⟨([]:List e.T),fun x hx=>(by cases hx),fun S _=>.one (.nil _ _) rfl⟩
   have hspot:a.spot=none/\a.block < W.heap.size:=by
    obtain ⟨cs',_,h1,_⟩:=key 0 oM;obtain ⟨_,_,hat⟩:=World.cells?_some h1;have h2:=hat 0 hpos;have hlen:cs'.length=e.n:=by obtain ⟨_,hl,_⟩:=World.cells?_some h1;exact hl
    rw [List.getElem?_eq_getElem oM,Nat.zero_mul] at h2;have:(a.add 0).add 0=a:=by unfold Addr.add;simp
    rw [this] at h2;unfold World.cell? at h2
    split at h2
    ·rename_i hb
     split at h2
     ·cases h2
     ·rename_i hs;refine ⟨by simpa using hs,(Array.getElem?_eq_some_iff.1 hb).1⟩
    ·cases h2
   obtain ⟨b,o,sp⟩:=a;obtain ⟨hs,hb⟩:=hspot;have hs:sp=none:=hs;subst hs
   haveI:Inhabited e.T:=⟨e.dflt⟩
   obtain ⟨F,hF⟩:=choose_lt (α:=e.T) (n:=m) (p:=fun i y=>∃cs',W.cells? 0 (Addr.add ⟨b,o,none⟩ (i*e.n)) e.n=some cs'/\e.wf y/\∀S:Nat->Prop,(∀b,¬S b)->Dc S W (e.enc y) cs') (fun i hi'=>by
    obtain ⟨cs',_,h1,y,hy,hd⟩:=key i hi'
    exact ⟨y,cs',h1,hy,hd⟩)
   refine ⟨(List.range len).map F,fun x hx=>?_,fun S hS=>.one ?_ rfl⟩
   ·obtain ⟨i,hi',rfl⟩:=List.mem_map.1 hx;obtain ⟨_,_,hw,_⟩:=hF i (by have:=List.mem_range.1 hi';omega);exact hw
   ·have at1:∀i j,i < m->j < e.n->∃v,W.cell? ⟨b,o+i*e.n+j,none⟩=some v/\v.oneCell'=true/\∀s,(e.enc (F i))[j]? =some s->D S W s v:=fun i j hi' hj=>by
     obtain ⟨cs',h1,_,hd⟩:=hF i hi';obtain ⟨_,hlen,hat⟩:=World.cells?_some h1;have h2:=hat j hj;rw [List.getElem?_eq_getElem oM,add_add] at h2;have e1:Addr.add ⟨b,o,none⟩ (i*e.n+j)=⟨b,o+i*e.n+j,none⟩:=by rw [ya,← Nat.add_assoc]
     rw [e1] at h2;have hd:=hd S hS;have hjl:j < (e.enc (F i)).length:=by rw [Sh.enc_len];exact hj
     have:=hd.2 j _ _ (List.getElem?_eq_getElem hjl) (List.getElem?_eq_getElem (show j < cs'.length by omega));refine ⟨_,h2,this.2,fun s hs=>?_⟩;exact (hd.2 j s _ hs (List.getElem?_eq_getElem (show j < cs'.length by omega))).1
    have hsl:=D.sl (S:=S) (w:=W) e.enc ((List.range len).map F) e.n b o m (fun i j=>(W.cell? ⟨b,o+i*e.n+j,none⟩).getD undef) hb (hS b) (by simp;unfold maxLen at hm;omega) (by simpa using hl) (fun x _=>Sh.enc_len e x) (fun i j hi' hj=>by
     obtain ⟨v,h1,h2,_⟩:=at1 i j (by simp at hi';omega) hj
     rw [h1];exact ⟨rfl,h2⟩) (fun i j x s hx hs=>by
     have hi':i < len:=by have:=(List.getElem?_eq_some_iff.1 hx).1;simpa using this
     simp only [List.getElem?_map,List.getElem?_range hi',Option.map_some,Option.some.injEq] at hx;subst hx;have hj:j < e.n:=by have:=(List.getElem?_eq_some_iff.1 hs).1;rw [Sh.enc_len] at this;exact this
     obtain ⟨v,h1,_,h3⟩:=at1 i j oM hj
     rw [h1];exact h3 s hs)
    simpa using hsl
  ·cases hf
 | st fs ih=>
  refine ⟨fun t fuel L x hf h=>?_,fun _ _ _ _ hf _=>(by cases hf),fun _ _ _ _ _ hf _=>(by cases hf)⟩;unfold Sh.fit at hf;dsimp only at hf
  split at hf
  ·rename_i gs hk;simp only [Bool.and_eq_true] at hf;obtain ⟨hg,hc⟩:=hf;have hc:=Nat.eq_of_beq_eq_true hc;obtain ⟨xs,m,_,_,hl,hxl,hfl⟩:=DataW.trod_struct hk h
   obtain ⟨y,hy,hd⟩:=ih.2.1 gs.toList 0 m L hg (fun g hg'=>by
    obtain ⟨i,hi,rfl⟩:=List.getElem_of_mem hg';have hi':i < gs.size:=by simpa using hi
    have:=hfl i gs[i] (by simp [hi'])
    exact ⟨xs[i]'oM,by simpa [List.getElem?_eq_getElem (show i < xs.length by omega)] using this⟩)
   refine ⟨hc,hl.trans hc,y,hy,fun S hS=>?_⟩;have:=hd S hS;rw [List.drop_zero,List.take_of_length_le (by show L.length<=fs.n;omega)] at this;exact this
  ·cases hf
 | ar es ih=>
  refine ⟨fun t fuel L x hf h=>?_,fun _ _ _ _ hf _=>(by cases hf),fun _ _ _ _ _ hf _=>(by cases hf)⟩;unfold Sh.fit at hf;dsimp only at hf
  split at hf
  ·rename_i n u hk;simp only [Bool.and_eq_true] at hf;obtain ⟨hg,hc⟩:=hf;have hc:=Nat.eq_of_beq_eq_true hc;obtain ⟨xs,m,_,_,hl,hxl,hfl⟩:=DataW.trod_array hk h
   obtain ⟨y,hy,hd⟩:=ih.2.2 n 0 m u L hg (fun j hj=>by
    have:=hfl j hj
    exact ⟨xs[j]'oM,by rw [Nat.zero_add,this,List.getElem?_eq_getElem (show j < xs.length by omega)]⟩)
   refine ⟨hc,hl.trans hc,y,hy,fun S hS=>?_⟩;have:=hd S hS;rw [Nat.zero_mul,List.drop_zero,List.take_of_length_le (by show L.length<=es.n;omega)] at this;exact this
  ·cases hf
 | nil=>
  refine ⟨fun t fuel L x hf h=>(by cases hf),fun gs off m L hf _=>⟨(),trivial,fun S _=>?_⟩,fun n i m u L hf _=>⟨(),trivial,fun S _=>?_⟩⟩
  ·show Dc S W [] ((L.drop off).take 0);rw [List.take_zero];exact .nil
  ·show Dc S W [] ((L.drop _).take 0);rw [List.take_zero];exact .nil
 | cons f r ihf ihr=>
  refine ⟨fun t fuel L x hf h=>(by cases hf),fun gs off m L hf hx=>?_,fun n i m u L hf hx=>?_⟩
  ·unfold Sh.fit at hf;dsimp only at hf
   split at hf
   ·cases hf
   ·rename_i g gs;simp only [Bool.and_eq_true] at hf;obtain ⟨⟨ho,h1⟩,h2⟩:=hf;have ho:=Nat.eq_of_beq_eq_true ho;subst ho;obtain ⟨x,hx0⟩:=hx g (List.mem_cons_self ..);obtain ⟨g1,g2,y,hy,hd⟩:=ihf.1 g.type m _ x h1 hx0;obtain ⟨z,hz,he⟩:=ihr.2.1 gs (g.offset+f.n) m L h2 (fun g' hg'=>hx g' (List.mem_cons_of_mem _ hg'));refine ⟨(y,z),⟨hy,hz⟩,fun S hS=>?_⟩;show Dc S W (f.enc y++r.enc z) ((L.drop g.offset).take (f.n+r.n));rw [zju];have:=hd S hS;rw [g1] at this;exact this.append (he S hS)
  ·unfold Sh.fit at hf;dsimp only at hf
   split at hf
   ·cases hf
   ·rename_i n;simp only [Bool.and_eq_true] at hf;obtain ⟨h1,h2⟩:=hf;obtain ⟨x,hx0⟩:=hx 0 oM;obtain ⟨g1,g2,y,hy,hd⟩:=ihf.1 u m _ x h1 hx0
    obtain ⟨z,hz,he⟩:=ihr.2.2 n (i+1) m u L h2 (fun j hj=>by
     have:=hx (j+1) oM
     rwa [show i+(j+1)=i+1+j by omega] at this)
    refine ⟨(y,z),⟨hy,hz⟩,fun S hS=>?_⟩;show Dc S W (f.enc y++r.enc z) ((L.drop (i*P.cellsOf u)).take (f.n+r.n));rw [zju];have:=hd S hS;rw [Nat.add_zero,g1] at this;have he:=he S hS;rw [g1,Nat.add_mul,Nat.one_mul] at he;rw [g1];exact this.append he
end
def LEd(s r:SV):Prop:=∀(S:Nat->Prop) (w:World) (v:Value),D S w s v->D S w r v
inductive qX:List SV->List SV->Prop
 | nil:qX [] []
 | cons {a b:SV} {us bs:List SV} (h:LEd a b) (t:qX us bs):qX (a::us) (b::bs)
theorem LEd.refl{s:SV}:LEd s s:=fun _ _ _ h=>h
theorem qX.refl:∀{us:List SV},qX us us
 | []=>.nil
 | _::_=>.cons .refl .refl
theorem qX.append{us bs cs ds:List SV}(h:qX us bs)(k:qX cs ds):qX (us++cs) (bs++ds):=by
 induction h with
 | nil=>exact k
 | cons h _ ih=>exact .cons h ih
theorem qX.ix{us bs:List SV}(h:qX us bs):us.length=bs.length/\∀(j:Nat) (s r:SV),us[j]? =some s->bs[j]? =some r->LEd s r:=by
 induction h with
 | nil=>exact ⟨rfl,fun j s r h=>by simp at h⟩
 | cons h t ih=>
  refine ⟨by simp [ih.1],fun j s r hs hr=>?_⟩
  cases j with
  | zero=>simp at hs hr;subst hs;subst hr;exact h
  | succ j=>exact ih.2 j s r (by simpa using hs) (by simpa using hr)
theorem LEd.sl{α β:Type}{e:α->List SV}{g:β->List SV}(f:α->β){xs:List α}(he:∀x∈xs,qX (e x) (g (f x))):LEd (.sl e xs) (.sl g (xs.map f)):=fun S w v h=>by
 cases h with
 | nil _ a=>exact .nil g a
 | sl _ _ sz b o cap c hb hS hlen hcap hsz hc h=>
  have:=D.sl (S:=S) (w:=w) g (xs.map f) sz b o cap c hb hS (by simpa using hlen) (by simpa using hcap) (fun y hy=>by
   obtain ⟨x,hx,rfl⟩:=List.mem_map.1 hy
   rw [← (he x hx).ix.1];exact hsz x hx) (fun i j hi hj=>hc i j (by simpa using hi) hj) (fun i j y s hy hs=>by
   rw [List.getElem?_map] at hy
   cases hx:xs[i]? with
   | none=>simp [hx] at hy
   | some x=>
    simp [hx] at hy;subst hy;have he:=he x (List.mem_of_getElem? hx);have hj:j < (e x).length:=by rw [he.ix.1];exact (List.getElem?_eq_some_iff.1 hs).1
    have hs0:=List.getElem?_eq_getElem hj
    exact he.ix.2 j _ s hs0 hs _ _ _ (h i j x _ hx hs0))
  simpa using this
theorem zxu{α β:Type}{e:α->List SV}{g:β->List SV}(f:α->β){xs:List α}(he:∀x∈xs,qX (e x) (g (f x))):LE (.sl e xs) (.sl g (xs.map f)):=fun _ _ _ _ _ hg=>.d _ _ (LEd.sl f he _ _ _ hg.sl_inv)
theorem qX.gs{us bs:List SV}(h:qX us bs){S Pm:Nat->Prop}{ρ:zi}{w:World}{vs:List Value}(hd:vs.length=us.length/\∀(j:Nat) (s:SV) (v:Value),us[j]? =some s->vs[j]? =some v->D S w s v):Gs S Pm ρ w bs vs:=
 ⟨hd.1.trans h.ix.1,fun j r v hr hv=>by
  have hj:j < us.length:=by rw [h.ix.1];exact (List.getElem?_eq_some_iff.1 hr).1
  have hs:=List.getElem?_eq_getElem hj
  exact .d _ _ (h.ix.2 j _ r hs hr _ _ _ (hd.2 j _ v hs hv))⟩
section
variable {H:Type} {enc:TypeId×Value->H} {P:Program} {W:World} {held:Bool}
theorem zgF {b0:Nat} {t:TypeId} {v:Value} {d:DataW H} {p:List MemPlace} (s:Sh) (hf:(s.fit P).1 t=true) (ha:(match P.underlying t with | some (.struct _)=>true | some (.array _ _)=>true | _=>false)=true)
  (hv:Value.okWide P W .any b0 t v) (h:DataW.Trod enc P W 0 (fun _=>true) held t v d p):
  ∃y:s.T,s.wf y/\∀(g:List SV),qX (s.enc y) g->∀(S Pm:Nat->Prop) (ρ:zi),(∀b,¬S b)->G S Pm ρ W (.agg g) v:=by
 obtain ⟨fuel,hx⟩:=h;obtain ⟨_,_,y,hy,hd⟩:=(zzE s).1 t fuel _ _ hf hx
 have:∃cs,v=.agg cs:=by
  unfold Value.okWide at hv
  split at ha
  ·rename_i h1;rw [h1] at hv;obtain ⟨cs,rfl,_⟩:=hv;exact ⟨cs,rfl⟩
  ·rename_i h1;rw [h1] at hv;obtain ⟨cs,rfl,_⟩:=hv;exact ⟨cs,rfl⟩
  ·cases ha
 obtain ⟨cs,rfl⟩:=this;refine ⟨y,hy,fun g hg S Pm ρ hS=>?_⟩;have hd1:=hd S hS;have g1:=hg.gs (Pm:=Pm) (ρ:=ρ) ⟨hd1.1,fun j s v hs hv=>(hd1.2 j s v hs hv).1⟩;have:=G.agg (S:=S) (Pm:=Pm) (ρ:=ρ) (w:=W) _ _ g1.1 g1.2
 rwa [show (Value.agg cs).cells.toList.toArray=cs from Array.toArray_toList] at this
end
open Go.Proofs
inductive Pw
 | d (q:Pl)
 | c (r:List Pt)
def pwE:Pw->List SV
 | .d q=>plE q
 | .c r=>[.sl ptE r,.val (.bool false)]
def pwP:Pw->Pl
 | .d q=>q
 | .c r=>⟨r,false⟩
theorem zue{q:Prop}{j:Decidable q}(h:¬q):LEd (.val (.bool false)) (.pr q j):=fun S w v hd=>by
 cases hd
 have:=D.pr (S:=S) (w:=w) q j
 simpa [h] using this
theorem LE_pw(l:List Pw):LE (.sl pwE l) (.sl plE (l.map pwP)):=zxu pwP fun x _=>by
 cases x with
 | d q=>exact .refl
 | c r=>exact .cons .refl (.cons (zue (show ¬(false=true) by decide)) .nil)
def zlr(p:Pl)(q:Nat×Nat):Pw:=if p.cl=true/\q.1=0/\(q.2:Int)=qr p then .d (zL p) else .c (zei (je p) q.1 q.2)
theorem zzF(p:Pl)(q:Nat×Nat):pwP (zlr p q)=y8 p q:=by
 unfold zlr y8
 split <;> rfl
theorem zuf(p:Pl)(l:List (Nat×Nat)):(l.map (zlr p)).map pwP=l.map (y8 p):=by
 rw [List.map_map];exact List.map_congr_left fun q _=>zzF p q
theorem zhm{pen:Pen}{long:Int}:∀q∈qC pen long,q.1 < q.2/\(q.2:Int)<=long/\1<=long:=by
 intro q hq;unfold qC at hq
 split at hq
 ·cases hq
 ·rename_i h;have h1:¬long < 1:=fun k=>h (.inr (.inl k))
  split at hq
  ·have:=List.mem_singleton.1 hq;subst this;dsimp only;omega
  ·have:=zqv q hq;omega
theorem zqS(p:Pl)(hp:p.pts.length<=4096):0<=qr p/\qr p<=17596481011712:=by
 have h:=zbG (je p) ((je p).length - 1);have h1:=yQ (zL p);have h2:=uH p;rw [← zbF] at h1;unfold qr;omega
theorem zo8{p:Pl}(h:1<=qr p):2<=(je p).length:=by
 refine Nat.le_of_not_lt fun k=>?_
 have:=zoG (p:=p) oM;omega
theorem zgG{p:Pl}{pen:Pen}{q:Nat×Nat}(hp:p.pts.length<=4096)(h:q∈qC pen (qr p)):0 < (y8 p q).pts.length/\(y8 p q).pts.length<=4100:=by
 obtain ⟨_,_,h1⟩:=zhm q h;have h2:=zo8 h1;have ll:=yQ (zL p);have dl:=uH p;rw [← zbF] at ll;unfold y8
 split
 ·rename_i k
  have:(zL p).pts.length≠0:=fun e=>by
   have:=za9 (q:=zL p) oM;rw [← zbF] at this;omega
  omega
 ·have:=zzD (je p) q.1 q.2;dsimp only;omega
theorem zo9(a b:List Pl):yw (a++b)=yw a+yw b:=by unfold yw;simp
theorem zhT:∀{l:List Pl},(∀x∈l,0 < x.pts.length)->l.length<=yw l
 | [],_=>Nat.zero_le _
 | x::r,h=>by
  have h1:=h x (.head _);have h2:=zhT (l:=r) fun y hy=>h y (.tail _ hy)
  have e:yw (x::r)=x.pts.length+yw r:=by unfold yw;simp
  rw [e,List.length_cons];omega
def zeT(p:Pl)(pen:Pen)(j:Nat):Nat:=yw (((qC pen (qr p)).take j).map (y8 p))
theorem zug{p:Pl}{pen:Pen}{j:Nat}{y:Nat×Nat}(h:(qC pen (qr p))[j]? =some y):zeT p pen (j+1)=zeT p pen j+(y8 p y).pts.length:=by
 unfold zeT;rw [List.take_add_one,h,List.map_append,zo9];show _+yw [y8 p y]=_;unfold yw;simp
theorem zzG(p:Pl)(pen:Pen)(j:Nat):zeT p pen j<=yw ((qC pen (qr p)).map (y8 p)):=by
 have e:(qC pen (qr p)).map (y8 p)=((qC pen (qr p)).take j).map (y8 p)++((qC pen (qr p)).drop j).map (y8 p):=by
  rw [← List.map_append,List.take_append_drop]
 rw [e,zo9];exact Nat.le_add_right _ _
theorem zzH{p:Pl}{pen:Pen}(hp:p.pts.length<=4096)(j:Nat):((qC pen (qr p)).take j).length<=zeT p pen j:=by
 have:=zhT (l:=((qC pen (qr p)).take j).map (y8 p)) fun x hx=>by
  obtain ⟨q,hq,rfl⟩:=List.mem_map.1 hx;exact (zgG hp (List.mem_of_mem_take hq)).1
 rwa [List.length_map] at this
def dM(p:Pl)(pen:Pen)(j:Nat):List (Nat×Mem):=
 [(0,.box 186 [.sl ptE p.pts,pr (p.cl=true)]),(1,.box 164 [.val (.slice none 0 0)]),(2,.box 40 [i64 0]),(3,.box 229 (meE (meQ (zL p)))),
  (4,.box 164 [.own 6]),(5,.box 3 [i64 (zeT p pen j:Int)]),(6,.arr 186 pwE 2 (((qC pen (qr p)).take j).map (zlr p)))]
def dB(p:Pl):List (Nat×Mem):=
 [(0,.box 186 [.sl ptE p.pts,pr (p.cl=true)]),(1,.box 164 [.val (.slice none 0 0)]),(2,.box 40 [i64 0]),(3,.box 229 (meE (meQ (zL p)))),
  (4,.box 164 [.sl ptE (List.replicate 9223372036854775808 zp)]),(5,.box 3 [i64 4097])]
def dS(p:Pl)(pen:Pen)(j:Nat):List (Nat×Mem):=if zeT p pen j<=4096 then dM p pen j else dB p
theorem zzI{S Pm:Nat->Prop}{ρ:zi}{w:World}{v:Value}:¬G S Pm ρ w (.sl ptE (List.replicate 9223372036854775808 zp)) v:=fun hg=>by
 have key:∀{xs:List Pt} {u:Value},D S w (.sl ptE xs) u->xs.length<=9223372036854775807:=fun hd=>by
  cases hd with
  | nil=>decide
  | sl _ _ sz b o cap c hb hS hlen=>exact hlen
 have:=key hg.sl_inv;rw [List.length_replicate] at this;omega
theorem zzJ{a s:SV}:LE (.tup [.sl ptE (List.replicate 9223372036854775808 zp),a]) s:=fun S Pm ρ w v hg=>by
 cases hg with
 | d _ _ hd=>cases hd
 | tup cs vs hl h=>
  obtain ⟨u,hu⟩:∃u,vs[0]? =some u:=⟨_,List.getElem?_eq_getElem (by rw [hl];exact Nat.succ_pos 1)⟩;exact absurd (h 0 _ u rfl hu) zzI
theorem dS_pf(p:Pl)(pen:Pen)(j:Nat):zjj (dS p pen j):=by
 unfold dS
 split
 ·intro k m hm;unfold dM at hm;simp only [List.mem_cons,List.not_mem_nil,or_false,Prod.mk.injEq] at hm
  rcases hm with ⟨_,rfl⟩ | ⟨_,rfl⟩ | ⟨_,rfl⟩ | ⟨_,rfl⟩ | ⟨_,rfl⟩ | ⟨_,rfl⟩ | ⟨_,rfl⟩
  all_goals first | rfl | trivial
 ·intro k m hm;unfold dB at hm;simp only [List.mem_cons,List.not_mem_nil,or_false,Prod.mk.injEq] at hm
  rcases hm with ⟨_,rfl⟩ | ⟨_,rfl⟩ | ⟨_,rfl⟩ | ⟨_,rfl⟩ | ⟨_,rfl⟩ | ⟨_,rfl⟩
  all_goals first | rfl | trivial
theorem zxv(p:Pl)(pen:Pen)(hp:p.pts.length<=4096):zd Tryz.prog 155 [.agg (plE p),.agg (ue pen)] [] (zt5 (yx p pen)) []:=by
 refine zdh 3 tok mix Tryz.func155 rfl rfl rfl ?_
 have es:yx p pen=if ¬qa pen then ([],13) else if ¬∀q∈p.pts,zn q then ([],6) else if 4096 < p.pts.length then ([],5)
  else if pen.d=[] then ([zL p],0) else if 4096 < yw ((qC pen (qr p)).map (y8 p)) then ([],5) else ((qC pen (qr p)).map (y8 p),0):=rfl
 refine zb.t (zd2 pen) ?_;refine Br.mk (fun k=>?_) (fun k=>?_)
 ·have k:¬qa pen:=k;exact yZ (by rw [es,if_pos k])
 have k:qa pen:=Decidable.not_not.1 k;rw [qo k] at es
 by_cases ok:∀q∈p.pts,zn q
 rotate_left
 ·refine zb.t (zln p hp) ?_;refine Br.mk (fun _=>?_) (fun h=>absurd (Decidable.not_not.1 h) ok);exact yZ (by rw [es,if_pos ok])
 rw [qo ok,if_neg (show ¬4096 < p.pts.length by omega)] at es;have hM:=zln p hp;rw [zzC ok] at hM;refine zb.t hM ?_;refine Br.mk (fun h=>absurd ok h) (fun _=>?_);intro hl1;refine Br.mk (fun h=>absurd (show (4096:Int) < p.pts.length from h) oM) (fun _=>?_);intro hl2;refine Br.mk (fun z=>?_) (fun z=>?_)
 ·have z:(pen.d.length:Int)=0:=z;have z:pen.d=[]:=List.eq_nil_of_length_eq_zero oM;refine zb.t (zfP p hp) ?_;refine ⟨Pl,plE,[zL p],rfl,Ob.o0 ?_⟩;rw [es,if_pos z];exact .refl
 have z:¬(pen.d.length:Int)=0:=z;rw [if_neg (fun h=>z (by rw [h];rfl))] at es;have lr:=zqS p hp;refine zb.t (p_on pen (qr p)) ?_;refine ⟨Nat×Nat,runE,qC pen (qr p),6,[(2,.loc 0 0),(4,.loc 1 0),(5,.loc 2 0),(6,.loc 3 0),(8,.loc 4 0),(9,.loc 5 0)],dS p pen,fun _=>7,zzB pen (qr p) oM,fun _=>rfl,⟨rfl,rfl,rfl,rfl⟩,?_,⟨Nat.zero_le _,rfl⟩,dS_pf p pen,?_,?_⟩
 ·rw [show dS p pen 0=dM p pen 0 from if_pos (Nat.zero_le _)];exact zf [(0,some 0),(1,some 2),(2,some 3),(3,some 4),(4,some 5),(5,some 6),(6,none)]
 ·intro j y hy;have hm:=List.mem_of_getElem? hy;obtain ⟨y1,y2,y3⟩:=zhm y hm;have cs:=zug hy;have cle:=zzG p pen (j+1);have dp:=zgG hp hm;have bad:4096 < zeT p pen (j+1)->yx p pen=([],5):=fun h=>by rw [es,if_pos oM]
  have dl:=uH p;have ll:=yQ (zL p);rw [← zbF] at ll;have l2:=zo8 y3;have w1:p.cl=true->(y.1:Int)=0->(y.2:Int)=qr p->zlr p y=.d (zL p)/\(y8 p y).pts=(zL p).pts:=fun a b c=>⟨if_pos ⟨a,oM,c⟩,congrArg Pl.pts (if_pos ⟨a,oM,c⟩)⟩
  have w2:¬(p.cl=true/\(y.1:Int)=0/\(y.2:Int)=qr p)->zlr p y=.c (zei (je p) y.1 y.2)/\(y8 p y).pts=zei (je p) y.1 y.2:=fun h=>
   ⟨if_neg fun k=>h ⟨k.1,oM,k.2.2⟩,congrArg Pl.pts (if_neg fun k=>h ⟨k.1,oM,k.2.2⟩)⟩
  by_cases hc:zeT p pen j<=4096
  ·rw [show dS p pen j=dM p pen j from if_pos hc];have cg:=zzH (pen:=pen) hp j;refine Br.mk (fun c=>Br.mk (fun c1=>Br.mk (fun c2=>?_) (fun c2=>?_)) (fun c1=>?_)) (fun c=>?_)
   ·obtain ⟨e1,e2⟩:=w1 c c1 c2;rw [e2] at cs dp;refine zb.t (zfP p hp) ?_;intro hl3;refine Ar.o ?_;refine Br.mk (fun o=>?_) (fun o=>?_)
    ·have o:(4096:Int) < (zeT p pen j:Int)+((zL p).pts.length:Int):=o;refine ⟨[(1,.box 164 [.val (.slice none 0 0)]),(2,.box 40 [i64 5])],6,zf [(0,some 0),(1,some 1),(2,some 2),(3,some 3),(4,some 4),(5,some 5)],fun k m hm=>?_,yZ (bad oM)⟩;simp only [List.mem_cons,List.not_mem_nil,or_false,Prod.mk.injEq] at hm
     rcases hm with ⟨_,rfl⟩ | ⟨_,rfl⟩ <;> rfl
    ·have o:¬(4096:Int) < (zeT p pen j:Int)+((zL p).pts.length:Int):=o;refine ⟨Pw,pwE,[.d (zL p)],rfl,Ob.o13 ?_⟩;refine ⟨[.d (zL p)],rfl,Ob.o22 ?_⟩;rw [show dS p pen (j+1)=dM p pen (j+1) from if_pos oM];refine zY [(0,some 0),(1,some 1),(2,some 2),(3,some 3),(4,some 4),(5,some 5),(6,some 9)] ⟨rfl,rfl,rfl,rfl,rfl,congrArg (fun n=>some (Mem.box 3 [i64 n])) oM,congrArg (fun q=>some (Mem.arr 186 pwE 2 q)) ?_,trivial⟩;rw [List.take_add_one,hy,List.map_append,← e1];rfl
   all_goals
    have hno:¬(p.cl=true/\(y.1:Int)=0/\(y.2:Int)=qr p):=by
     first
     | exact fun h=>c2 h.2.2
     | exact fun h=>c1 h.2.1
     | exact fun h=>c h.1
    obtain ⟨e1,e2⟩:=w2 hno;rw [e2] at cs dp;have hcut:zd Tryz.prog 209 [.agg (meE (meQ (zL p))),i64 (y.1:Int),i64 (y.2:Int)] [] (.sl ptE (zei (je p) y.1 y.2)) []:=zAF (zL p) y.1 y.2 oM l2 ⟨oM,oM⟩ ⟨oM,oM⟩;refine zb.t hcut ?_;intro hl3;refine Ar.o ?_;refine Br.mk (fun o=>?_) (fun o=>?_)
    ·have o:(4096:Int) < (zeT p pen j:Int)+((zei (je p) y.1 y.2).length:Int):=o;refine ⟨[(1,.box 164 [.val (.slice none 0 0)]),(2,.box 40 [i64 5])],6,zf [(0,some 0),(1,some 1),(2,some 2),(3,some 3),(4,some 4),(5,some 5)],fun k m hm=>?_,yZ (bad oM)⟩;simp only [List.mem_cons,List.not_mem_nil,or_false,Prod.mk.injEq] at hm
     rcases hm with ⟨_,rfl⟩ | ⟨_,rfl⟩ <;> rfl
    ·have o:¬(4096:Int) < (zeT p pen j:Int)+((zei (je p) y.1 y.2).length:Int):=o;refine ⟨Pw,pwE,[.c (zei (je p) y.1 y.2)],rfl,Ob.o13 ?_⟩;refine ⟨[.c (zei (je p) y.1 y.2)],rfl,Ob.o22 ?_⟩;rw [show dS p pen (j+1)=dM p pen (j+1) from if_pos oM];refine zY [(0,some 0),(1,some 1),(2,some 2),(3,some 3),(4,some 4),(5,some 5),(6,some 9)] ⟨rfl,rfl,rfl,rfl,rfl,congrArg (fun n=>some (Mem.box 3 [i64 n])) oM,congrArg (fun q=>some (Mem.arr 186 pwE 2 q)) ?_,trivial⟩;rw [List.take_add_one,hy,List.map_append,← e1];rfl
  ·rw [show dS p pen j=dB p from if_neg hc];refine Br.mk (fun c=>Br.mk (fun c1=>Br.mk (fun c2=>?_) (fun c2=>?_)) (fun c1=>?_)) (fun c=>?_)
   ·obtain ⟨e1,e2⟩:=w1 c c1 c2;rw [e2] at cs dp;refine zb.t (zfP p hp) ?_;intro hl3;refine Ar.o ?_;refine Br.mk (fun o=>?_) (fun o=>absurd (show (4096:Int) < 4097+((zL p).pts.length:Int) by omega) o);refine ⟨[(1,.box 164 [.val (.slice none 0 0)]),(2,.box 40 [i64 5])],6,zf [(0,some 0),(1,some 1),(2,some 2),(3,some 3),(4,some 4),(5,some 5)],fun k m hm=>?_,yZ (bad oM)⟩;simp only [List.mem_cons,List.not_mem_nil,or_false,Prod.mk.injEq] at hm
    rcases hm with ⟨_,rfl⟩ | ⟨_,rfl⟩ <;> rfl
   all_goals
    have hno:¬(p.cl=true/\(y.1:Int)=0/\(y.2:Int)=qr p):=by
     first
     | exact fun h=>c2 h.2.2
     | exact fun h=>c1 h.2.1
     | exact fun h=>c h.1
    obtain ⟨e1,e2⟩:=w2 hno;rw [e2] at cs dp;have hcut:zd Tryz.prog 209 [.agg (meE (meQ (zL p))),i64 (y.1:Int),i64 (y.2:Int)] [] (.sl ptE (zei (je p) y.1 y.2)) []:=zAF (zL p) y.1 y.2 oM l2 ⟨oM,oM⟩ ⟨oM,oM⟩;refine zb.t hcut ?_;intro hl3;refine Ar.o ?_;refine Br.mk (fun o=>?_) (fun o=>absurd (show (4096:Int) < 4097+((zei (je p) y.1 y.2).length:Int) by omega) o);refine ⟨[(1,.box 164 [.val (.slice none 0 0)]),(2,.box 40 [i64 5])],6,zf [(0,some 0),(1,some 1),(2,some 2),(3,some 3),(4,some 4),(5,some 5)],fun k m hm=>?_,yZ (bad oM)⟩
    simp only [List.mem_cons,List.not_mem_nil,or_false,Prod.mk.injEq] at hm
    rcases hm with ⟨_,rfl⟩ | ⟨_,rfl⟩ <;> rfl
 ·by_cases hc:zeT p pen (qC pen (qr p)).length<=4096
  ·rw [show dS p pen (qC pen (qr p)).length=dM p pen (qC pen (qr p)).length from if_pos hc];have et:(qC pen (qr p)).take (qC pen (qr p)).length=qC pen (qr p):=List.take_length;unfold zeT at hc;rw [et] at hc;rw [es,if_neg oM];refine zU ((LE_pw _).trans (qy ?_)) .refl;rw [zuf,et]
  ·rw [show dS p pen (qC pen (qr p)).length=dB p from if_neg hc];exact zzJ
def jk:List Pl->Pen->List Pl×Int
 | [],_=>([],0)
 | p::r,pen=>if (yx p pen).2≠0 then ([],(yx p pen).2)
  else if (jk r pen).2≠0 then ([],(jk r pen).2) else ((yx p pen).1++(jk r pen).1,0)
def zmV(l:List Pl)(pen:Pen):List Pl:=l.flatMap fun p=>(yx p pen).1
theorem zuh{l:List Pl}{pen:Pen}{i:Nat}{x:Pl}(h:l[i]? =some x):zmV (l.take (i+1)) pen=zmV (l.take i) pen++(yx x pen).1:=by
 unfold zmV;rw [List.take_add_one,h,List.flatMap_append];simp
theorem zpa{pen:Pen}:∀{l:List Pl},(∀p∈l,(yx p pen).2=0)->jk l pen=(zmV l pen,0)
 | [],_=>rfl
 | p::r,h=>by
  have ih:=zpa fun q hq=>h q (.tail _ hq)
  unfold jk;rw [jQ (h p (.head _)),ih];rfl
theorem zls{pen:Pen}:∀{l:List Pl} {i:Nat} {x:Pl},l[i]? =some x->(∀p∈l.take i,(yx p pen).2=0)->¬(yx x pen).2=0->jk l pen=([],(yx x pen).2)
 | p::r,0,x,h,_,hx=>by
  cases h
  unfold jk;rw [if_pos hx]
 | p::r,i+1,x,h,ha,hx=>by
  have ih:=zls (l:=r) (i:=i) h (fun q hq=>ha q (by rw [List.take_succ_cons];exact .tail _ hq)) hx;unfold jk;rw [jQ (ha p (by rw [List.take_succ_cons];exact .head _)),ih];exact if_pos hx
theorem zjv:∀{l:List Pl} {q:Pl},q∈l->q.pts.length<=yw l
 | x::r,q,h=>by
  have e:yw (x::r)=x.pts.length+yw r:=by unfold yw;simp
  rw [e]
  cases h with
  | head=>omega
  | tail _ h=>have:=zjv h;omega
theorem zdp{p:Pl}{pen:Pen}(hp:p.pts.length<=4096):(yx p pen).1.length<=4096/\∀q∈(yx p pen).1,q.pts.length<=4096:=by
 unfold yx
 split
 ·exact ⟨Nat.zero_le _,fun q hq=>by cases hq⟩
 split
 ·exact ⟨Nat.zero_le _,fun q hq=>by cases hq⟩
 split
 ·exact ⟨Nat.zero_le _,fun q hq=>by cases hq⟩
 split
 ·refine ⟨by show 1<=4096;decide,fun q hq=>?_⟩;rw [List.mem_singleton.1 hq];have:=uH p;omega
 split
 ·exact ⟨Nat.zero_le _,fun q hq=>by cases hq⟩
 ·rename_i h
  have hg:=zhT (l:=(qC pen (qr p)).map (y8 p)) fun x hx=>by
   obtain ⟨q,hq,rfl⟩:=List.mem_map.1 hx;exact (zgG hp hq).1
  refine ⟨by dsimp only;omega,fun q hq=>?_⟩;have hq:q∈(qC pen (qr p)).map (y8 p):=hq;have:=zjv hq;omega
theorem zjw{pen:Pen}:∀{l:List Pl},(∀p∈l,p.pts.length<=4096)->(zmV l pen).length<=4096*l.length/\∀q∈zmV l pen,q.pts.length<=4096
 | [],_=>⟨Nat.le_refl 0,fun q hq=>by cases hq⟩
 | p::r,hl=>by
  obtain ⟨i1,i2⟩:=zjw (pen:=pen) (l:=r) fun q hq=>hl q (.tail _ hq)
  obtain ⟨f1,f2⟩:=zdp (pen:=pen) (hl p (.head _));have e:zmV (p::r) pen=(yx p pen).1++zmV r pen:=rfl;rw [e,List.length_append,List.length_cons];refine ⟨oM,fun q hq=>?_⟩
  rcases List.mem_append.1 hq with hq | hq
  ·exact f2 q hq
  ·exact i2 q hq
theorem zBW(l:List Pl)(pen:Pen)(hl:l.length<=4096)(hp:∀q∈l,q.pts.length<=4096):zd Tryz.prog 156 [.sl plE l,.agg (ue pen)] [] (zt5 (jk l pen)) []:=by
 refine zc tok mix Tryz.func156 rfl rfl rfl ?_;intro hl1;refine ⟨Nat,fun i=>⟨[(3,.loc 0 0),(6,.own 1),(11,.sl plE l),(12,i64 (l.length:Int)),(13,i64 (i:Int))],[(0,.box 46 (ue pen)),(1,.arr 186 plE 2 (zmV (l.take i) pen))],2,31,0⟩,fun i=>i<=l.length/\∀q∈l.take i,(yx q pen).2=0,fun i=>l.length - i,0,?_,?_,?_⟩
 ·exact ⟨Nat.zero_le _,fun q hq=>by cases hq⟩
 ·exact zf [(0,some 0),(1,none)]
 rintro i ⟨h1,h2⟩
 obtain ⟨f1,_⟩:=zjw (pen:=pen) (l:=l.take i) fun q hq=>hp q (List.mem_of_mem_take hq)
 rw [List.length_take] at f1;refine Br.mk (fun g=>?_) (fun g=>?_)
 ·have g:(i:Int) < l.length:=g;refine Ob.o ?_;intro x hx;have hx:l[i]? =some x:=hx;have hpx:=hp x (List.mem_of_getElem? hx);refine zb.t (zxv x pen hpx) ?_;refine Br.mk (fun z=>?_) (fun z=>?_)
  ·have z:¬(yx x pen).2=0:=z;exact yZ (zls hx h2 z)
  have z:(yx x pen).2=0:=Decidable.not_not.1 z;obtain ⟨s1,s2⟩:=zdp (pen:=pen) hpx;refine ⟨(yx x pen).1,rfl,Ob.mk ⟨(by show _*(32:Int)<=_;omega),oM,dC,fun _ _=>rfl⟩ ?_⟩;refine Ar.o ?_;exact ⟨i+1,⟨oM,zo1 hx h2 z⟩,zY [(0,some 0),(1,some 3)] ⟨rfl,congrArg (fun q=>some (Mem.arr 186 plE 2 q)) (zuh hx).symm,trivial⟩,by dsimp only;omega⟩
 have g:¬(i:Int) < l.length:=g;have et:l.take i=l:=List.take_of_length_le oM;rw [et] at h2;rw [zpa h2];exact zU (qy (by rw [et])) .refl
end Go.Gs
