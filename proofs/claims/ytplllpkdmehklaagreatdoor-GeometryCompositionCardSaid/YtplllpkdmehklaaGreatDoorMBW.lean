/- Outlines: whole maps, rings that are moved. -/
import Derived.Test.YtplllpkdmehklaaGreatDoorMA
import Derived.Test.YtplllpkdmehklaaGreatDoorMBV
import Derived.Test.YtplllpkdmehklaaGreatDoorMBT
import Derived.Test.YtplllpkdmehklaaGreatDoorMAX
import Derived.Test.YtplllpkdmehklaaGreatDoorMBR
import Derived.Test.YtplllpkdmehklaaGreatDoorChecked
set_option maxRecDepth 100000
set_option maxHeartbeats 8000000
set_option linter.all false
namespace Go.Gs
open Go.Proofs
theorem zuz(x y:BR)(hx:x.len<=1000)(hy:y.len<=1000):zd Tryz.prog 53 [.agg (brE x),.agg (brE y)] [] (.agg (afE (afQ x.v ((0:Int):Rat) ((0:Int):Rat) y.v ((0:Int):Rat) ((0:Int):Rat)))) []:=by
 refine zc tok mix Tryz.func53 rfl rfl rfl ?_
 refine zb.to _ ((zb8 0 0 0 0 zBR zBR dC dC dC dC dC dC).args
  (.cons .refl (.cons .refl (.cons .refl (.cons .refl (.cons (qK jw) (.cons (qK jw) .nil))))))) rfl ?_
 rw [zv0];refine zb.t (ku x oM) ?_;refine zb.t (ku y oM) ?_;exact .refl
theorem LEs.d:∀{us bs:List SV},LEs us bs->jW.flats bs=true->qX us bs
 | [],[],_,_=>.nil
 | _::_,b::bs,.cons h t,hf=>by
  have hb:jW b=true/\jW.flats bs=true:=by
   have hf:(match jW b with | true=>jW.flats bs | false=>false)=true:=hf
   cases hb:jW b with
   | true=>rw [hb] at hf;exact ⟨rfl,hf⟩
   | false=>rw [hb] at hf;cases hf
  exact .cons (fun S w v hd=>uc hb.1 (h S (fun _=>False) (fun _=>none) w v (.d _ _ hd))) (LEs.d t hb.2)
def scl2:AF:=afQ ((2:Int):Rat) ((0:Int):Rat) ((0:Int):Rat) ((2:Int):Rat) ((0:Int):Rat) ((0:Int):Rat)
def nd0:Nd:={ zNd with id:=1,k:=1,t:=scl2,op:=255,mode:=1 }
def nd1:Nd:={ zNd with id:=2,k:=2,d:=1,t:=idA,path:=ve 0 0 1 1,rule:=1,fill:=[zaU 1] }
def nd1c:Nd:={ nd1 with clip:=ve 0 0 1 1 }
def nd1d:Nd:={ nd1c with cr:=2 }
def pgS:Sc:=⟨4,4,⟨0,0,0,0⟩,[nd0,nd1]⟩
def pgC:Sc:=⟨4,4,⟨0,0,0,0⟩,[nd0,nd1d]⟩
def zSc:Sc:=⟨0,0,⟨0,0,0,0⟩,[]⟩
def pc1:List SV:=i64 1::u8 0::u8 0::u8 0::u8 0::i64 0::i64 0::i64 0::i64 0::i64 0::nil1::i64 0::i64 0::i64 0::nil1::i64 0::yL
def uE(_:Unit):List SV:=pc1
def zq5:List SV:=[i64 0,i64 0,i64 0,i64 0,.val (.slice none 0 0),i64 0,.val (.slice none 0 0),i64 0,i64 0,.val (.slice none 0 0),i64 0]
def cs0:List SV:=i64 1::i64 1::i64 0::(afE scl2++([.val (.slice none 0 0),i64 0,u8 255,i64 1,bl false,bl false,.val (.slice none 0 0),i64 0,.val (.slice none 0 0)]++zq5))
def cs1(f:SV):List SV:=i64 2::i64 2::i64 1::(afE idA++([.val (.slice none 0 0),i64 0,u8 0,i64 0,bl false,bl false,.sl sgE (ve 0 0 1 1),i64 1,f]++zq5))
theorem zsN:LEs zq5 (ue ⟨0,0,0,0,[],0⟩++(.sl jb []::(zjB ⟨0,0,[]⟩++[i64 0]))):=
 .cons .refl (.cons .refl (.cons .refl (.cons .refl (.cons zC (.cons .refl (.cons zC (.cons .refl (.cons .refl (.cons zC (.cons .refl .nil))))))))))
theorem zCh:LEs cs0 (ndE nd0):=.cons .refl (.cons .refl (.cons .refl (LEs.append .refl (.cons zC (.cons .refl (.cons .refl (.cons .refl (.cons (ze dC) (.cons (ze dC) (.cons zC (.cons .refl (.cons zC zsN))))))))))))
theorem zCi:LEs pc1 (jb (zaU 1)):=
 .cons .refl (.cons .refl (.cons .refl (.cons .refl (.cons .refl (.cons .refl (.cons .refl (.cons .refl (.cons .refl (.cons .refl (.cons zC (.cons .refl (.cons .refl (.cons .refl (.cons zC (.cons .refl zjE)))))))))))))))
theorem zCj:LEs (cs1 (.sl uE [()])) (ndE nd1):=.cons .refl (.cons .refl (.cons .refl (LEs.append .refl (.cons zC (.cons .refl (.cons .refl (.cons .refl (.cons (ze dC) (.cons (ze dC) (.cons .refl (.cons .refl
 (.cons (zxu (e:=uE) (g:=jb) (fun _=>zaU 1) (xs:=[()]) fun _ _=>LEs.d zCi rfl) zsN))))))))))))
theorem zCk(f g:SV)(j:Nat)(s':SV)(h:(cs1 g)[j]? =some s'):∃s,(cs1 f)[j]? =some s/\(s'=s∨(s=f/\s'=g)):=by
 have e:cs1 g=(cs1 f).set 35 g:=rfl;have hl:(cs1 f).length=47:=rfl;rw [e,List.getElem?_set] at h
 by_cases c:35=j
 ·subst c;rw [if_pos rfl,if_pos (by rw [hl];decide)] at h;exact ⟨f,rfl,.inr ⟨rfl,(Option.some.inj h).symm⟩⟩
 ·rw [if_neg c] at h;exact ⟨s',h,.inl rfl⟩
theorem zCl:zd Tryz.prog 25 [] [] (.agg (scO pgS 0)) [(0,qQ [nd0,nd1])]:=by
 refine zbi tok mix Tryz.func25 rfl rfl rfl ?_;have r2:R64 2:=dC;have l2:=qU r2;refine zb.t (qn 2 r2) ?_;refine zb.t (qn 2 r2) ?_;refine zb.t (zuz (ofQ ((2:Int):Rat)) (ofQ ((2:Int):Rat)) oM oM) ?_;rw [zV];refine Dr.d ?_;refine zb.t zfw ?_;refine zb.t (zoq 0 0 1 1) ?_;refine ⟨Unit,uE,[()],rfl,Ob.o0 ?_⟩;refine ⟨[cs0,cs1 (.own 2)],rfl,Ob.mk ⟨rfl,dC,dC,dC,fun x hx=>?_⟩ ?_⟩
 ·rcases List.mem_cons.1 hx with rfl | hx
  ·rfl
  ·rw [List.mem_singleton.1 hx];rfl
 refine Ob.mk (by kernel_rfl) ?_
 refine ⟨_,((zb2 (sz0:=47) (T0:=51) 2 3 (enc:=uE) (ys:=[()]) (xs:=[cs0,cs1 (.own 2)]) rfl rfl (xs':=[cs0,cs1 (.sl uE [()])]) rfl (fun x hx=>?_) (fun i j x' s' hx hs=>?_)).trans
  (zdO 3 (xs:=[cs0,cs1 (.sl uE [()])]) (ys:=[nd0,nd1].map ndE) rfl (.cons zCh (.cons zCj .nil)))).trans (zcY 3 ndE [nd0,nd1] rfl (fun _ _=>rfl)),some 3,?_,rfl,fun _ _=>rfl⟩
 ·rcases List.mem_cons.1 hx with rfl | hx
  ·rfl
  ·rw [List.mem_singleton.1 hx];rfl
 ·match i,hx with
  | 0,hx=>cases hx;exact ⟨cs0,s',rfl,hs,.inl rfl⟩
  | 1,hx=>
   cases hx
   obtain ⟨s,h1,h2⟩:=zCk (.own 2) _ j s' hs;exact ⟨_,s,rfl,h1,h2⟩
  | i+2,hx=>cases hx
 ·exact znR (.cons (yc rfl) (.cons (yc rfl) (.cons (yc rfl) (.cons (yc rfl) (.cons (yc rfl) (.cons (yc rfl) (.cons (.own 3 rfl) .nil)))))))
theorem zhX(n:Nd)(h1:n.t.le 100)(h2:n.fill=[]∨n.fill=[zaU 1])(h3:n.strk=[])(h4:n.im.px=[])(h5:n.path.length<=300)(h6:n.clip.length<=300):zAN n:=by
 have hs:zdx n.strk:=by rw [h3];exact fun p hp=>by cases hp
 refine ⟨h1,⟨h1.up dC,?_,hs,by rw [h4];decide⟩,h5,h6⟩;intro p hp
 rcases h2 with h2 | h2
 ·rw [h2] at hp;cases hp
 ·rw [h2,List.mem_singleton] at hp;subst hp;exact ⟨yh _,dC⟩
theorem znb:scl2.le 100:=by decide +kernel
theorem zbc:jH pgS:=fun _ n hn=>by
 rcases List.mem_cons.1 hn with rfl | hn
 ·exact zhX _ znb (.inl rfl) rfl rfl dC dC
 ·rw [List.mem_singleton.1 hn];exact zhX _ (zmu.up dC) (.inr rfl) rfl rfl (vT 0 0 1 1) dC
theorem zjY:jH pgC:=fun _ n hn=>by
 rcases List.mem_cons.1 hn with rfl | hn
 ·exact zhX _ znb (.inl rfl) rfl rfl dC dC
 ·rw [List.mem_singleton.1 hn];exact zhX _ (zmu.up dC) (.inr rfl) rfl rfl (vT 0 0 1 1) (vT 0 0 1 1)
theorem zCm:jH zSc:=fun _ n hn=>by cases hn
theorem zx6:(kK pgS 1).map List.length=[4]/\((kK pgS 1).headD []).getD 2 zp=⟨512,512⟩:=by decide +kernel
theorem zCn:jR pgC 1=kK pgS 1/\0 < (zE pgC 1).clip.length/\¬0 < (zE pgS 1).clip.length:=by decide +kernel
theorem zAa:(zw pgS 1).1.same scl2/\(zw pgS 1).2=0/\(zw pgS 2).2=8/\(zw zSc 0).2=18:=by decide +kernel
theorem zx7:(zhB pgS 1 ⟨512,0⟩).2=0/\(zhB pgS 1 ⟨512,0⟩).1.1.v=((256:Int):Rat)/\(zhB pgS 1 ⟨512,0⟩).1.2.v=((0:Int):Rat)/\zx1 pgS 1 ⟨3,4⟩=(⟨6,8⟩,0):=by decide +kernel
theorem zCo:(zhB pgS 1 ⟨512,0⟩).1.1.len<=1000/\(zhB pgS 1 ⟨512,0⟩).1.2.len<=1000:=by decide +kernel
theorem zAb:(zE pgS 1).strk=[]/\(zE pgC 1).strk=[]/\(zE pgC 1).k=2:=by decide +kernel
theorem zAc:∀l∈jV pgS 1,qh l<=4096:=by decide +kernel
theorem zx8:zpr (zjW (jV pgS 1)) 128 128=⟨256,256⟩/\(zjW (jV pgS 1)).isSome=true:=by decide +kernel
theorem one4G{L:List (List Pt)}(h:L.map List.length=[4]):∃r,L=[r]/\r.length=4:=by
 cases L with
 | nil=>cases h
 | cons r t=>
  have h1:=List.cons.inj h;have e:t=[]:=List.map_eq_nil_iff.1 h1.2;exact ⟨r,by rw [e],h1.1⟩
theorem kD:zd Tryz.prog 8 [] [] (bl true) []:=by
 refine zc tok mix Tryz.func8 rfl rfl rfl ?_;refine zb.fresh _ _ zCl rfl (fun _ _=>rfl) (.inl rfl) ?_;refine zb.give [0] 0 [.agg (scO pgS 0),i64 1] [(0,qQ pgS.ns)] [(0,qQ pgS.ns)] (.sl zu (kK pgS 1)) (zpo pgS 1 zbc) LEs.refl rfl rfl rfl ⟨⟨_,rfl,rfl,trivial⟩,trivial⟩ rfl ⟨⟨rfl,trivial⟩,trivial⟩ ?_;refine zb.give [0] 0 [.agg (scO pgS 0),i64 1] [(0,qQ pgS.ns)] [(0,qQ pgS.ns)] (zq3 (zw pgS 1)) (zf6 pgS 1 zbc) LEs.refl rfl rfl rfl ⟨⟨_,rfl,rfl,trivial⟩,trivial⟩ rfl ⟨⟨rfl,trivial⟩,trivial⟩ ?_
 refine zb.give [0] 0 [.agg (scO pgS 0),i64 2] [(0,qQ pgS.ns)] [(0,qQ pgS.ns)] (zq3 (zw pgS 2)) (zf6 pgS 2 zbc) LEs.refl rfl rfl rfl ⟨⟨_,rfl,rfl,trivial⟩,trivial⟩ rfl ⟨⟨rfl,trivial⟩,trivial⟩ ?_;refine zb.t ((zf5 zSc 0 zCm).args (.cons (qK (.cons .refl (.cons .refl (.cons .refl (.cons .refl (.cons .refl (.cons .refl (.cons zC .nil)))))))) LEs.refl)) ?_;refine zb.give [0] 0 [.agg (scO pgS 0),i64 1] [(0,qQ pgS.ns)] [(0,qQ pgS.ns)] (zf8 pgS 1) (zjU pgS 1 zbc) LEs.refl rfl rfl rfl ⟨⟨_,rfl,rfl,trivial⟩,trivial⟩ rfl ⟨⟨rfl,trivial⟩,trivial⟩ ?_
 refine zb.give [0] 0 [.agg (scO pgS 0),i64 1,.agg (ptE ⟨512,0⟩)] [(0,qQ pgS.ns)] [(0,qQ pgS.ns)] (zx2 pgS 1 ⟨512,0⟩) (zCe pgS 1 ⟨512,0⟩ zbc) LEs.refl rfl rfl rfl ⟨⟨_,rfl,rfl,trivial⟩,trivial⟩ rfl ⟨⟨rfl,trivial⟩,trivial⟩ ?_;have hk:=zAb
 have hS:zd Tryz.prog 30 [.agg (scE pgS),i64 1] [] (.sl zu (qz pgS 1)) []:=by
  rw [zdC (.inr (by rw [hk.1];rfl))];exact (zps pgS 1 zbc (.inr (by rw [hk.1];rfl))).le zC
 refine zb.t (zgM pgS 1 128 128 zbc hS zAc) ?_;refine zb.t (w_ntp pgS 1 ⟨3,4⟩ zbc) ?_;have hc:=zx7;have hw:=zAa;have ha:=zx8;have hx:=zCn;have r256:R64 256:=dC;have r0:R64 0:=dC;refine Dr.d ?_;refine Br.mk (fun k=>absurd hc.1 k) (fun _=>?_);refine zb.t (qn 256 r256) ?_;have l256:=qU r256;have l0:=qU r0;have hl:=zCo;have q1:=zmt (zhB pgS 1 ⟨512,0⟩).1.1 (ofQ ((256:Int):Rat)) oM oM;have q2:=zmt (zhB pgS 1 ⟨512,0⟩).1.2 (ofQ ((0:Int):Rat)) oM oM;rw [hc.2.1,zV,show zgt ((256:Int):Rat) ((256:Int):Rat)=0 from qG.2 rfl] at q1
 rw [hc.2.2.1,zV,show zgt ((0:Int):Rat) ((0:Int):Rat)=0 from qG.2 rfl] at q2;refine zb.t q1 ?_;refine Br.mk (fun k=>absurd rfl k) (fun _=>?_);refine zb.t (qn 0 r0) ?_;refine zb.t q2 ?_;refine Br.mk (fun k=>absurd rfl k) (fun _=>?_);refine Br.mk (fun k=>absurd ha.2 k) (fun _=>?_);refine Br.mk (fun k=>absurd (qJ.2 ha.1) k) (fun _=>?_);refine Br.mk (fun k=>absurd (congrArg Prod.snd hc.2.2.2) k) (fun _=>?_);refine Ob.mk (by kernel_rfl) ?_;refine Br.mk (fun k=>absurd (qJ.2 (congrArg Prod.fst hc.2.2.2)) k) (fun _=>?_)
 have i1:(0:Int)<=1/\(1:Int) < (([nd0,nd1]:List Nd).length:Int):=dC;refine Dr.d ?_;refine Ob.mk i1 ?_;refine Ob.mk i1 ?_;intro y hy;have hy:y=nd1:=(Option.some.inj hy).symm;refine Ob.mk i1 ?_;refine Ob.mk i1 ?_;intro z hz;have hz:z=nd1:=(Option.some.inj hz).symm;refine ⟨nd1c,by rw [hz,hy];rfl,?_⟩;refine Ob.mk (by kernel_rfl) ?_;refine Ob.mk i1 ?_;refine Ob.mk i1 ?_;intro z2 hz2;have hz2:z2=nd1c:=(Option.some.inj hz2).symm;refine ⟨nd1d,by rw [hz2];rfl,?_⟩
 refine zb.give [0] 0 [.agg (scO pgC 0),i64 1] [(0,qQ pgC.ns)] [(0,qQ pgC.ns)] (zf8 pgC 1) (zjU pgC 1 zjY) LEs.refl rfl rfl rfl ⟨⟨_,rfl,rfl,trivial⟩,trivial⟩ rfl ⟨⟨rfl,trivial⟩,trivial⟩ ?_;obtain ⟨r,hr,hr4⟩:=one4G zx6.1;have hr2:=zx6.2;rw [hr] at hr2;have hr2:r.getD 2 zp=⟨512,512⟩:=hr2;have i0:(0:Int)<=0/\(0:Int) < (kK pgS 1).length:=by rw [hr];exact ⟨Int.le_refl _,show (0:Int) < 1 by decide⟩
 refine Dr.d ?_;intro hl0;refine Br.mk (fun _=>?_) (fun k=>absurd (by rw [hr];rfl) k);refine Ob.mk i0 ?_;intro a ha0
 have ha0:a=r:=by
  have ha0:(kK pgS 1)[0]? =some a:=ha0;rw [hr] at ha0;exact (Option.some.inj ha0).symm
 intro hl1;refine Br.mk (fun _=>?_) (fun k=>absurd (by rw [ha0,hr4];rfl) k);refine Ob.mk i0 ?_;intro b hb0
 have hb0:b=r:=by
  have hb0:(kK pgS 1)[0]? =some b:=hb0;rw [hr] at hb0;exact (Option.some.inj hb0).symm
 refine Ob.mk (by rw [hb0,hr4];decide) ?_;intro q hq
 have hq:q=⟨512,512⟩:=by
  have hq:b[2]? =some q:=hq;rw [hb0] at hq;rw [← hr2,List.getD_eq_getElem?_getD,hq];rfl
 refine Br.mk (fun _=>?_) (fun k=>absurd (qJ.2 hq) k);have j0:(0:Int)<=0/\(0:Int) < (([nd0,nd1]:List Nd).length:Int):=dC;refine Ob.mk j0 ?_;refine Ob.mk j0 ?_;intro n hn;have hn:n=nd0:=(Option.some.inj hn).symm;have he:=zd1 (zw pgS 1).1 n.t ((jz pgS 1).up dC) (by rw [hn];exact znb.up dC);refine zb.t he ?_;refine Br.mk (fun _=>?_) (fun k=>absurd (by rw [hn];exact hw.1) k);refine Br.mk (fun _=>?_) (fun k=>absurd hw.2.1 k);refine Br.mk (fun _=>?_) (fun k=>absurd hw.2.2.1 k);refine Br.mk (fun _=>?_) (fun k=>absurd hw.2.2.2 k)
 refine Br.mk (fun _=>?_) (fun k=>absurd hx.2.2 k);refine Br.mk (fun _=>?_) (fun k=>absurd hx.2.1 k);refine zb.t (vq (jR pgC 1) (kK pgS 1)) ?_;refine Br.mk (fun _=>?_) (fun k=>absurd hx.1 k);refine zb.t (zps pgC 1 zjY (.inr (by rw [hk.2.1];rfl))) ?_;refine Br.mk (fun _=>?_) (fun k=>absurd rfl k);refine zb.t (zz9 pgC 1 zjY (by rw [hk.2.2];decide)) ?_;refine Br.mk (fun _=>?_) (fun k=>absurd rfl k);refine Ob.mk (by kernel_rfl) ?_;exact .refl
def ltP(p:Pnt):Prop:=p.t.le 12/\p.st.length<=30/\p.im.px.length<=300
instance (p:Pnt):Decidable (ltP p):=inferInstanceAs (Decidable (_/\_))
def ltN(n:Nd):Prop:=(n.path.length<=24/\n.clip.length<=24/\n.pen.d.length<=20/\n.im.px.length<=300/\n.t.le 12/\n.fill.length<=3/\n.strk.length<=3)/\∀p∈n.fill++n.strk,ltP p
instance (n:Nd):Decidable (ltN n):=inferInstanceAs (Decidable (_/\_))
def ltS(s:Sc):Prop:=¬(8 < s.ns.length/\s.ns.length<=64)/\∀n∈s.ns.take 65,ltN n
instance (s:Sc):Decidable (ltS s):=inferInstanceAs (Decidable (_/\_))
theorem znc{s:Sc}(h:ltS s):jH s:=fun hl n hn=>by
 have hn:ltN n:=h.2 n (by rw [List.take_of_length_le oM];exact hn);obtain ⟨⟨h1,h2,h3,h4,h5,h6,h7⟩,h8⟩:=hn
 have hp:∀p∈n.fill++n.strk,p.t.le 1000/\p.im.px.length<=9223372036854775807:=fun p hp=>by
  obtain ⟨g1,_,g3⟩:=h8 p hp;exact ⟨g1.up dC,oM⟩
 exact ⟨h5.up dC,⟨h5.up dC,fun p q=>hp p (List.mem_append_left _ q),fun p q=>hp p (List.mem_append_right _ q),oM⟩,oM,oM⟩
theorem zjZ(s:Sc):zd Tryz.prog 6 [.agg (scE s)] [] (pr (ltS s)) []:=by
 refine zc tok mix Tryz.func6 rfl rfl rfl ?_;intro hl0;refine Br.mk (fun g1=>?_) (fun g1=>?_)
 all_goals first
  | (intro hl1;refine Br.mk (fun g2=>ze fun k=>k.1 ⟨oM,oM⟩) (fun g2=>?_);have h0:¬(8 < s.ns.length/\s.ns.length<=64):=fun k=>g2 (by have:=k.2;omega))
  | have h0:¬(8 < s.ns.length/\s.ns.length<=64):=fun k=>g1 (by have:=k.1;omega)
 all_goals
  refine ⟨Nat,fun i=>⟨[(3,i64 (i:Int)),(1,.loc 0 0)],[(0,.box 26 (scE s))],1,114,0⟩,fun i=>i<=(s.ns.take 65).length/\∀n∈(s.ns.take 65).take i,ltN n,fun i=>(s.ns.take 65).length - i,0,⟨Nat.zero_le _,fun n hn=>by cases hn⟩,?_,?_⟩
  ·exact zf [(0,some 0)]
  have htl:(s.ns.take 65).length=min 65 s.ns.length:=List.length_take
  rintro i ⟨h1,h2⟩
  have fin:¬((i:Int) < s.ns.length/\(i:Int)<=64)->LE (bl true) (pr (ltS s)):=fun h=>zP ⟨h0,fun n hn=>h2 n (by rw [List.take_of_length_le oM];exact hn)⟩
  intro hl2;refine Br.mk (fun g=>?_) (fun g=>fin fun k=>g k.1);have g:(i:Int) < s.ns.length:=g;refine Br.mk (fun g'=>?_) (fun g'=>fin fun k=>g' k.2);have g':(i:Int)<=64:=g';refine Ob.o ?_;intro x hx;have hx:s.ns[i]? =some x:=hx;have hx2:(s.ns.take 65)[i]? =some x:=by rw [List.getElem?_take,if_pos oM];exact hx
  have bad:¬ltN x->LE (bl false) (pr (ltS s)):=fun h=>ze fun k=>h (k.2 x (List.mem_of_getElem? hx2))
  intro a0;refine Br.mk (fun k=>bad fun q=>by have:=q.1.1;omega) (fun b1=>?_);intro a1;refine Br.mk (fun k=>bad fun q=>by have:=q.1.2.1;omega) (fun b2=>?_);intro a2;refine Br.mk (fun k=>bad fun q=>by have:=q.1.2.2.1;omega) (fun b3=>?_);intro a3;refine Br.mk (fun k=>bad fun q=>by have:=q.1.2.2.2.1;omega) (fun b4=>?_);refine zb.t (zsK x.t) ?_;refine Br.mk (fun k=>bad fun q=>k q.1.2.2.2.2.1) (fun b5=>?_);intro a5;refine Br.mk (fun k=>bad fun q=>by have:=q.1.2.2.2.2.2.1;omega) (fun b6=>?_);intro a6
  refine Br.mk (fun k=>bad fun q=>by have:=q.1.2.2.2.2.2.2;omega) (fun b7=>?_)
  have ok1:x.path.length<=24/\x.clip.length<=24/\x.pen.d.length<=20/\x.im.px.length<=300/\x.t.le 12/\x.fill.length<=3/\x.strk.length<=3:=
   ⟨oM,oM,oM,oM,Decidable.not_not.1 b5,oM,oM⟩
  refine Dr.d ?_;refine ⟨Pnt,jb,[],rfl,Ob.o8 ?_⟩;refine ⟨x.fill,rfl,Ob.mk ⟨by show (((0:Nat):Int)+(x.fill.length:Int))*_<=_;dsimp only;omega,by show 0+x.fill.length<=_;omega,dC,fun _ _=>rfl⟩ ?_⟩;refine ⟨x.strk,rfl,Ob.mk ⟨by show ((([]++x.fill:List Pnt).length:Int)+(x.strk.length:Int))*_<=_;rw [List.nil_append];dsimp only;omega,by rw [List.nil_append];omega,dC,fun _ _=>rfl⟩ ?_⟩;refine Ob.mk (by kernel_rfl) ?_;rw [List.nil_append];generalize hP:x.fill++x.strk=P;have hPl:P.length<=6:=by rw [← hP,List.length_append];omega
  refine ⟨Nat,fun j=>⟨[(6,i64 (j:Int)),(5,.own 2),(4,.loc 1 0),(3,i64 (i:Int)),(1,.loc 0 0)],[(2,.arr 77 jb 40 P),(1,.box 51 (ndE x)),(0,.box 26 (scE s))],3,114,0⟩,fun j=>j<=P.length/\∀p∈P.take j,ltP p,fun j=>P.length - j,0,⟨Nat.zero_le _,fun p hp=>by cases hp⟩,?_,?_⟩
  ·exact zf [(0,some 0),(1,some 1),(2,some 4)]
  rintro j ⟨j1,j2⟩
  intro c0;refine Br.mk (fun q=>?_) (fun q=>?_)
  ·have q:(j:Int) < P.length:=q;refine Ob.o ?_;refine Ob.o ?_;intro p hp;have hp:P[j]? =some p:=hp;have hm:p∈x.fill++x.strk:=by rw [hP];exact List.mem_of_getElem? hp
   have badp:¬ltP p->LE (bl false) (pr (ltS s)):=fun h=>bad fun k=>h (k.2 p hm)
   refine zb.t (zsK p.t) ?_;refine Br.mk (fun k=>badp fun w=>k w.1) (fun d1=>?_);refine Ob.o ?_;refine Ob.o ?_;intro p2 hp2;have e2:p2=p:=Option.some.inj ((show P[j]? =some p2 from hp2).symm.trans hp);rw [e2];intro c1;refine Br.mk (fun k=>badp fun w=>by have:=w.2.1;omega) (fun d2=>?_);refine Ob.o ?_;refine Ob.o ?_;intro p3 hp3;have e3:p3=p:=Option.some.inj ((show P[j]? =some p3 from hp3).symm.trans hp);rw [e3];intro c2;refine Br.mk (fun k=>badp fun w=>by have:=w.2.2;omega) (fun d3=>?_);refine Ar.o ?_
   have okp:ltP p:=⟨Decidable.not_not.1 d1,oM,oM⟩;refine ⟨j+1,⟨oM,fun w hw=>?_⟩,zf [(0,some 0),(1,some 1),(2,some 2)],by dsimp only;omega⟩;rw [List.take_add_one,hp] at hw
   rcases List.mem_append.1 hw with hw | hw
   ·exact j2 w hw
   ·rw [show w=p by simpa using hw];exact okp
  ·have q:¬(j:Int) < P.length:=q;rw [List.take_of_length_le oM] at j2;refine Ar.o ?_;refine ⟨i+1,⟨oM,fun w hw=>?_⟩,zf [(0,some 0)],by dsimp only;omega⟩;rw [List.take_add_one,hx2] at hw
   rcases List.mem_append.1 hw with hw | hw
   ·exact h2 w hw
   ·rw [show w=x by simpa using hw];exact ⟨ok1,by rw [hP];exact j2⟩
theorem zyb{rs:List (List Pt)}{t:AF}(h:(vg rs t).2≠0):(vg rs t).1=[]:=by
 unfold vg at h ⊢
 by_cases h1:¬kq rs
 ·rw [if_pos h1]
 rw [if_neg h1] at h ⊢
 by_cases h2:zej t rs≠0
 ·rw [if_pos h2]
 rw [if_neg h2] at h;exact absurd rfl h
theorem zsP{l:List Sg}{pen:Pen}{t:AF}{tol:Int}(h:(v9 l pen t tol).2≠0):(v9 l pen t tol).1=[]:=by
 unfold v9 at h ⊢
 by_cases h1:¬qa pen
 ·rw [if_pos h1]
 rw [if_neg h1] at h ⊢
 by_cases h2:(kr l tol).2≠0
 ·rw [if_pos h2]
 rw [if_neg h2] at h ⊢
 by_cases h3:(jk (kr l tol).1 pen).2≠0
 ·rw [if_pos h3]
 rw [if_neg h3] at h ⊢
 by_cases h4:(jh (jk (kr l tol).1 pen).1 pen).2≠0
 ·rw [if_pos h4]
 rw [if_neg h4] at h ⊢;exact zyb h
def vU(r:AF×Int)(l:List Sg)(pen:Pen):List (List Pt):=if r.2≠0 then [] else (v9 l pen r.1 32).1
theorem zpv(r:AF×Int)(l:List Sg)(pen:Pen)(ht:r.1.le 100):zd Tryz.prog 63 [.agg (afE r.1++[pr (r.2=0)]),.sl sgE l,.agg (ue pen)] [] (.sl zu (vU r l pen)) []:=by
 refine zc tok mix Tryz.func63 rfl rfl rfl ?_;refine Br.mk (fun h=>by rw [show vU r l pen=[] from if_pos h];exact zC) (fun h=>?_);have e:vU r l pen=(v9 l pen r.1 32).1:=if_neg h;refine zb.t (zur l pen r.1 32 (ht.up dC)) ?_;rw [e];exact Br.mk (fun k=>by rw [zsP k];exact zC) (fun _=>.refl)
theorem zne(s:Sc)(i:Int)(ht:jH s):zd Tryz.prog 30 [.agg (scE s),i64 i] [] (.sl zu (qz s i)) []:=by
 refine zc tok mix Tryz.func30 rfl rfl rfl ?_;refine zb.t (zgK s i ht) ?_;refine Br.mk (fun h=>by rw [zdC (.inl h)];exact zC) (fun h1=>?_);intro hl0;refine Br.mk (fun h=>by rw [zdC (.inr oM)];exact zC) (fun h2=>?_);refine zb.t (zpv (zw s i) (zE s i).path (zE s i).pen (jz s i)) ?_;rw [show qz s i=vU (zw s i) (zE s i).path (zE s i).pen from if_neg fun k=>k.elim h1 fun q=>h2 oM];exact .refl
theorem zuA(s:Sc)(i:Int)(ht:zcA s):zd Tryz.prog 19 [.agg (scE s),i64 i] [] (i64 (zxO s i)) []:=by
 refine zc tok mix Tryz.func19 rfl rfl rfl ?_;refine zb.t (zjS s i ht) ?_;refine Br.mk (fun h=>zj (if_neg h).symm) (fun h=>?_);have h:inS s i:=Decidable.not_not.1 h;obtain ⟨n,hn⟩:=u6 h;obtain ⟨k,rfl⟩:∃k:Nat,i=(k:Int):=⟨i.toNat,by have:=h.2.1;omega⟩;refine zb.t (zxW s.ns k n hn (vz h.1) (yV h.1)) ?_;exact zj (if_pos h).symm
def allE(s:Sc)(i:Int):SV:=.agg [.sl zu (kK s i),.sl zu (qz s i),.sl zu (yj s i),.sl zu (jR s i)]
theorem zpw(s:Sc)(i:Int)(ht:jH s):zd Tryz.prog 14 [.agg (scE s),i64 i] [] (allE s i) []:=by
 refine zc tok mix Tryz.func14 rfl rfl rfl ?_;refine zb.t (zsG s i ht) ?_;refine Dr.d ?_;refine zb.t (zsE s i ht) ?_;refine zb.t (zne s i ht) ?_;refine zb.t (zx0 s i ht) ?_;refine Ob.mk (by kernel_rfl) ?_;exact .refl
theorem zj1(a b c d e f:Rat):(afQ a b c d e f).a.v=a/\(afQ a b c d e f).b.v=b/\(afQ a b c d e f).c.v=c/\(afQ a b c d e f).d.v=d/\(afQ a b c d e f).e.v=e/\(afQ a b c d e f).f.v=f:=
 ⟨zV _,zV _,zV _,zV _,zV _,zV _⟩
theorem qH(t:AF):t.same t:=⟨rfl,rfl,rfl,rfl,rfl,rfl⟩
theorem zee{t u:AF}(h:t.same u):u.same t:=⟨h.1.symm,h.2.1.symm,h.2.2.1.symm,h.2.2.2.1.symm,h.2.2.2.2.1.symm,h.2.2.2.2.2.symm⟩
theorem qD{t u v:AF}(h:t.same u)(k:u.same v):t.same v:=
 ⟨h.1.trans k.1,h.2.1.trans k.2.1,h.2.2.1.trans k.2.2.1,h.2.2.2.1.trans k.2.2.2.1,h.2.2.2.2.1.trans k.2.2.2.2.1,h.2.2.2.2.2.trans k.2.2.2.2.2⟩
theorem zlH{t u:AF}(h:t.same u)(x y:Rat):y6 t x y=y6 u x y/\y7 t x y=y7 u x y:=by
 obtain ⟨h1,h2,h3,h4,h5,h6⟩:=h;unfold y6 y7;rw [h1,h2,h3,h4,h5,h6];exact ⟨rfl,rfl⟩
theorem y4{t t' u u':AF}(h:t.same t')(k:u.same u'):beh t u=beh t' u':=by
 have e1:=zlH k t.e.v t.f.v;obtain ⟨h1,h2,h3,h4,h5,h6⟩:=h;obtain ⟨k1,k2,k3,k4,k5,k6⟩:=k;unfold beh;rw [e1.1,e1.2,h1,h2,h3,h4,h5,h6,k1,k2,k3,k4]
theorem zaW(t u:AF):(beh t u).a.v=u.a.v*t.a.v+u.c.v*t.b.v/\(beh t u).b.v=u.b.v*t.a.v+u.d.v*t.b.v/\(beh t u).c.v=u.a.v*t.c.v+u.c.v*t.d.v/\(beh t u).d.v=u.b.v*t.c.v+u.d.v*t.d.v/\
  (beh t u).e.v=u.a.v*t.e.v+u.c.v*t.f.v+u.e.v/\(beh t u).f.v=u.b.v*t.e.v+u.d.v*t.f.v+u.f.v:=zj1 _ _ _ _ _ _
theorem zlI(t u v:AF):(beh (beh t u) v).same (beh t (beh u v)):=by
 obtain ⟨a1,a2,a3,a4,a5,a6⟩:=zaW (beh t u) v;obtain ⟨b1,b2,b3,b4,b5,b6⟩:=zaW t (beh u v);obtain ⟨c1,c2,c3,c4,c5,c6⟩:=zaW t u;obtain ⟨d1,d2,d3,d4,d5,d6⟩:=zaW u v;unfold AF.same;rw [a1,a2,a3,a4,a5,a6,b1,b2,b3,b4,b5,b6,c1,c2,c3,c4,c5,c6,d1,d2,d3,d4,d5,d6];refine ⟨?_,?_,?_,?_,?_,?_⟩ <;> grind
theorem zpx:idA.a.v=1/\idA.b.v=0/\idA.c.v=0/\idA.d.v=1/\idA.e.v=0/\idA.f.v=0:=zj1 _ _ _ _ _ _
theorem zsQ(t:AF):(beh idA t).same t:=by
 obtain ⟨a1,a2,a3,a4,a5,a6⟩:=zaW idA t;obtain ⟨c1,c2,c3,c4,c5,c6⟩:=zpx;unfold AF.same;rw [a1,a2,a3,a4,a5,a6,c1,c2,c3,c4,c5,c6];refine ⟨?_,?_,?_,?_,?_,?_⟩ <;> grind
theorem zdD(t:AF):(beh t idA).same t:=by
 obtain ⟨a1,a2,a3,a4,a5,a6⟩:=zaW t idA;obtain ⟨c1,c2,c3,c4,c5,c6⟩:=zpx;unfold AF.same;rw [a1,a2,a3,a4,a5,a6,c1,c2,c3,c4,c5,c6];refine ⟨?_,?_,?_,?_,?_,?_⟩ <;> grind
theorem zef:∀(l:List AF) (s:AF),(l.foldl beh s).same (beh s (kF l))
 | [],s=>zee (zdD s)
 | t::l,s=>by
  have h1:=zef l (beh s t);have h2:=zef l (beh idA t);have h3:kF (t::l)=l.foldl beh (beh idA t):=rfl;refine qD (u:=beh (beh s t) (kF l)) h1 (qD (zlI s t (kF l)) ?_);rw [h3];have h4:(l.foldl beh (beh idA t)).same (beh t (kF l)):=qD h2 (by rw [y4 (zsQ t) (qH (kF l))];exact qH _);rw [y4 (qH s) (zee h4)];exact qH _
theorem uK(t:AF)(l:List AF):(kF (t::l)).same (beh t (kF l)):=by
 have h:=zef l (beh idA t);refine qD (u:=beh (beh idA t) (kF l)) h ?_;rw [y4 (zsQ t) (qH (kF l))];exact qH _
theorem zaX{l:List AF}(h:(qt l).2=0):qt l=(kF l,0):=by
 unfold qt at h ⊢
 by_cases k:zjy l
 ·rw [if_pos k]
 ·rw [if_neg k] at h;exact absurd h dC
theorem zyd{t:AF}{l:List AF}(h:(qt (t::l)).2=0)(k:(qt l).2=0)(g:(qt [t,(qt l).1]).2=0):(qt [t,(qt l).1]).1.same (qt (t::l)).1:=by
 rw [zaX h,zaX g,zaX k];refine qD (uK t [kF l]) (zee (qD (uK t l) ?_));have e:(kF [kF l]).same (kF l):=qD (uK (kF l) []) (zdD _);rw [y4 (qH t) e];exact qH _
theorem zuC{t:AF}(h:(qt [t]).2=0):(qt [t]).1.same t:=by
 rw [zaX h];exact qD (uK t []) (zdD t)
theorem zye{s:Sc}{i:Int}(h:(zw s i).2≠0):kK s i=[]/\qz s i=[]/\yj s i=[]/\jR s i=[]:=by
 have hp:∀l,yH (zw s i) l=[]:=fun l=>if_pos h
 refine ⟨?_,?_,?_,?_⟩
 ·unfold kK;rw [hp];split <;> rfl
 ·unfold qz
  by_cases k:(zE s i).k≠2∨(zE s i).strk.length=0
  ·rw [if_pos k]
  ·rw [if_neg k,if_pos h]
 ·unfold yj;rw [hp];split <;> rfl
 ·unfold jR;rw [hp];split <;> rfl
theorem zuD(s:Sc)(i:Int):((zE s i).k≠2->kK s i=[]/\qz s i=[])/\((zE s i).k≠3->yj s i=[]):=
 ⟨fun h=>⟨if_pos (.inl h),if_pos (.inl h)⟩,fun h=>if_pos h⟩
theorem zpz{s:Sc}{i:Int}(h:(zw s i).2=0):inS s i:=vA.2 fun k=>by
 rcases k with k | k <;> rw [h] at k <;> cases k
theorem l_geoComposition(s:Sc)(i:Int):zd Tryz.prog 4 [.agg (scE s),i64 i] [] (bl true) []:=by
 refine zc tok mix Tryz.func4 rfl rfl rfl ?_;refine zb.t (zjZ s) ?_;refine Br.mk (fun _=>zb.to _ kD rfl .refl) (fun h=>?_);have ht:=znc (Decidable.not_not.1 h);refine zb.t (zf5 s i ht) ?_;refine Br.mk (fun e=>?_) (fun e=>?_)
 ·have e:(zw s i).2≠0:=e;obtain ⟨z1,z2,z3,z4⟩:=zye e;have hc:=zpw s i ht;rw [show allE s i=.agg [.sl zu [],.sl zu [],.sl zu [],.sl zu []] by unfold allE;rw [z1,z2,z3,z4]] at hc;refine zb.t hc ?_;intro hl1;intro hl2;refine Ar.fit dC ?_;intro hl3;refine Ar.fit dC ?_;intro hl4;refine Ar.fit dC ?_;refine Br.mk (fun _=>zb.to _ kD rfl .refl) (fun k=>absurd dC k)
 have e:(zw s i).2=0:=Decidable.not_not.1 e;have hin:=zpz e;obtain ⟨n,hn⟩:=u6 hin;obtain ⟨j,rfl⟩:∃j:Nat,i=(j:Int):=⟨i.toNat,by have:=hin.2.1;omega⟩;have hn:s.ns[j]? =some n:=hn;have hj:=(List.getElem?_eq_some_iff.1 hn).1;have hnode:=zbb hin hn;have hnt:n.t.le 100:=(ht (yV hin.1) n (List.mem_of_getElem? hn)).1;have ew:=zbL hin.1 (i:=(j:Int)) oM oM;rw [zjO hn] at ew;have ep:zxO s j=yD (zA s.ns) j:=zm9 hin.1 hj;have hpl:=zeb (zA s.ns) j;refine Br.mk (fun c=>absurd hin.2.1 oM) (fun c1=>?_);intro hl0
 refine Br.mk (fun c=>absurd hin.2.2 oM) (fun c2=>?_);refine Ob.o ?_;intro x hx;have hx:x=n:=Option.some.inj ((show s.ns[j]? =some x from hx).symm.trans hn);rw [hx];refine zb.t (zuA s j ht.tame) ?_;rw [ep];refine Br.mk (fun c=>?_) (fun c=>?_)
 ·have c:yD (zA s.ns) j < 0:=c;refine zb.t (zd1 (zw s j).1 n.t ((jz s j).up dC) (hnt.up dC)) ?_;refine Br.mk (fun _=>zb.to _ kD rfl .refl) (fun k=>absurd ?_ k);rw [zm4 c] at ew;rw [ew] at e ⊢;exact zuC e
 have c:¬yD (zA s.ns) j < 0:=c;obtain ⟨u,hu⟩:∃u:Nat,yD (zA s.ns) j=(u:Int):=⟨(yD (zA s.ns) j).toNat,oM⟩;rw [hu] at hpl ew ⊢;have eu:=zbL hin.1 (i:=(u:Int)) oM oM;refine zb.t (zf5 s u ht) ?_;refine Br.mk (fun f=>?_) (fun f=>?_);have f:(zw s u).2=0:=f;refine ⟨AF,afE,[n.t,(zw s u).1],rfl,Ob.o0 ?_⟩;refine zb.see 4 _ (zcm [n.t,(zw s u).1] fun x hx=>?_) rfl rfl rfl ?_
 ·rcases List.mem_cons.1 hx with rfl | hx
  ·exact hnt
  ·rw [List.mem_singleton.1 hx];exact jz s u
 refine Br.mk (fun g=>?_) (fun g=>?_);have g:(qt [n.t,(zw s u).1]).2=0:=g;refine zb.t (zd1 (qt [n.t,(zw s u).1]).1 (zw s j).1 (zf4.up dC) ((jz s j).up dC)) ?_;refine Br.mk (fun k=>absurd ?_ k) (fun _=>?_)
 ·rw [ew] at e ⊢;rw [eu] at f g ⊢;exact zyd e f g
 all_goals
  have fp:=zuD s j;rw [hnode] at fp;refine zb.t (zpw s j ht) ?_;refine zb.t (zsG s j ht) ?_;refine Br.mk (fun k2=>?_) (fun k2=>?_);rotate_left
  ·have k2:¬n.k=2:=k2;obtain ⟨z1,z2⟩:=fp.1 k2;intro hl1;intro hl2;refine Ar.fit (by rw [z1,z2];decide) ?_;refine Br.mk (fun _=>?_) (fun k=>absurd (by rw [z1,z2];decide) k);refine Br.mk (fun k3=>?_) (fun k3=>?_)
   ·intro hc;exact Br.mk (fun _=>zb.to _ kD rfl .refl) (fun k=>absurd (by rw [hnode];omega) k)
   ·have k3:¬n.k=3:=k3;intro hl3;refine Br.mk (fun _=>?_) (fun k=>absurd (by rw [fp.2 k3];decide) k);intro hc;exact Br.mk (fun _=>zb.to _ kD rfl .refl) (fun k=>absurd (by rw [hnode];omega) k)
  ·refine Br.mk (fun k3=>?_) (fun k3=>?_)
   ·intro hc;exact Br.mk (fun _=>zb.to _ kD rfl .refl) (fun k=>absurd (by rw [hnode];omega) k)
   ·have k3:¬n.k=3:=k3;intro hl3;refine Br.mk (fun _=>?_) (fun k=>absurd (by rw [fp.2 k3];decide) k);intro hc;exact Br.mk (fun _=>zb.to _ kD rfl .refl) (fun k=>absurd (by rw [hnode];omega) k)
end Go.Gs
namespace Go.Gs
open Go.Proofs Go.RowKit
theorem laidOut:laidOutB Tryz.prog=true:=by kernel_rfl
theorem wf32{n:Int}(h:(Lit.int .u32 n).wf=true):0<=n/\n<=4294967295:=by
 simp only [Lit.wf,Bool.and_eq_true,decide_eq_true_eq] at h;exact h
def shI:Sh:=.int .i64
def shB:Sh:=.int .u8
def zlM:Sh:=.st (.cons .bool (.cons (.sl (.int .u32)) .nil))
def zex:Sh:=.st (.cons zlM (.cons zlM .nil))
def zuN:Sh:=.st (.cons zex (.cons zex (.cons zex (.cons zex (.cons zex (.cons zex .nil))))))
def zpB(n:Int):Dig:=dof n.toNat
def toBI(y:zlM.T):BI:=⟨y.1,List.map zpB y.2.1⟩
def zra(y:zex.T):BR:=⟨toBI y.1,toBI y.2.1⟩
def toAF(y:zuN.T):AF:=⟨zra y.1,zra y.2.1,zra y.2.2.1,zra y.2.2.2.1,zra y.2.2.2.2.1,zra y.2.2.2.2.2.1⟩
theorem zAR(y:zlM.T)(h:zlM.wf y):qX (zlM.enc y) (biE (toBI y)):=by
 refine .cons .refl (.cons ?_ .nil);refine LEd.sl zpB fun n hn=>?_
 have h1:=wf32 (h.2.1 n hn)
 have e:((zpB n).val:Int)=n:=by
  unfold zpB;rw [ki];omega
 show qX [.val (.int .u32 n)] [.val (.int .u32 ((zpB n).val:Int))];rw [e];exact .refl
theorem zlN(y:zex.T)(h:zex.wf y):qX (zex.enc y) (brE (zra y)):=qX.append (zAR y.1 h.1) (qX.append (zAR y.2.1 h.2.1) .nil)
theorem zAS(y:zuN.T)(h:zuN.wf y):qX (zuN.enc y) (afE (toAF y)):=
 qX.append (zlN _ h.1) (qX.append (zlN _ h.2.1) (qX.append (zlN _ h.2.2.1) (qX.append (zlN _ h.2.2.2.1) (qX.append (zlN _ h.2.2.2.2.1) (by
  have:=qX.append (zlN _ h.2.2.2.2.2.1) .nil
  rwa [List.append_nil,List.append_nil] at this)))))
section
variable {H:Type} {enc:TypeId×Value->H} {W:World} {b0:Nat} {held:Bool}
end
end Go.Gs
namespace Go.Gs
open Go.Proofs Go.RowKit
def zuO:Sh:=.st (.cons shI (.cons shI .nil))
def zys(y:zuO.T):Pt:=⟨y.1,y.2.1⟩
def shSg:Sh:=.st (.cons shI (.cons zuO (.cons zuO (.cons zuO .nil))))
def zuP(y:shSg.T):Sg:=⟨y.1,zys y.2.1,zys y.2.2.1,zys y.2.2.2.1⟩
def toI(y:shI.T):Int:=y
def zsS:Sh:=.st (.cons shI (.cons shI (.cons shI (.cons shI (.cons (.sl shI) (.cons shI .nil))))))
def zyt(y:zsS.T):Pen:=⟨y.1,y.2.1,y.2.2.1,y.2.2.2.1,List.map toI y.2.2.2.2.1,y.2.2.2.2.2.1⟩
theorem zCr(y:zsS.T):qX (zsS.enc y) (ue (zyt y)):=.cons .refl (.cons .refl (.cons .refl (.cons .refl (.cons (LEd.sl toI fun _ _=>qX.refl) (.cons .refl .nil)))))
section
variable {H:Type} {enc:TypeId×Value->H} {W:World} {b0:Nat} {held:Bool}
end
end Go.Gs
