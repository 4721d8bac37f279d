/- Outlines: the examples. -/
import Derived.Test.YtplllpkdmehklaaGreatDoorMA
import Derived.Test.YtplllpkdmehklaaGreatDoorMBV
import Derived.Test.YtplllpkdmehklaaGreatDoorMBE
set_option maxRecDepth 100000
set_option maxHeartbeats 8000000
set_option linter.all false
namespace Go.Gs
open Go.Proofs
theorem zAP:((1:Int):Rat)=1:=rfl
theorem zx5:((0:Int):Rat)=0:=rfl
theorem zaq{t:AF}{p:Pt}(h:(kT t p).2=0):(kT t p).1=goP t p:=by
 unfold kT at h ⊢
 by_cases h1:t.ok
 ·rw [qo h1] at h ⊢
  by_cases h2:zn p
  ·rw [qo h2] at h ⊢
   by_cases h3:zn (goP t p)
   ·rw [if_pos h3]
   ·rw [if_neg h3] at h;exact absurd h dC
  ·rw [if_pos h2] at h;exact absurd h dC
 ·rw [if_pos h1] at h;exact absurd h dC
theorem zgN{t:AF}:∀{l:List Pt},zds t l=0->∀p∈l,(kT t p).2=0
 | p::r,h,q,hq=>by
  unfold zds at h
  by_cases k:(kT t p).2=0
  ·rw [jQ k] at h
   cases hq with
   | head=>exact k
   | tail _ hq=>exact zgN h q hq
  ·rw [if_pos k] at h;exact absurd h k
theorem zgO{t:AF}:∀{l:List (List Pt)},zej t l=0->∀r∈l,zds t r=0
 | p::r,h,q,hq=>by
  unfold zej at h
  by_cases k:zds t p=0
  ·rw [jQ k] at h
   cases hq with
   | head=>exact k
   | tail _ hq=>exact zgO h q hq
  ·rw [if_pos k] at h;exact absurd h k
theorem zeY{rs:List (List Pt)}{t:AF}(h:(vg rs t).2=0):(vg rs t).1=rs.map (List.map (goP t)):=by
 unfold vg at h ⊢
 by_cases k:kq rs
 ·rw [qo k] at h ⊢
  by_cases e:zej t rs=0
  ·rw [jQ e];refine List.map_congr_left fun r hr=>List.map_congr_left fun p hp=>?_
   exact zaq (zgN (zgO e r hr) p hp)
  ·rw [if_pos e] at h;exact absurd h e
 ·rw [if_pos k] at h;exact absurd h dC
theorem zuz(x y:BR)(hx:x.len<=1000)(hy:y.len<=1000):zd Tryz.prog 53 [.agg (brE x),.agg (brE y)] [] (.agg (afE (afQ x.v ((0:Int):Rat) ((0:Int):Rat) y.v ((0:Int):Rat) ((0:Int):Rat)))) []:=by
 refine zc tok mix Tryz.func53 rfl rfl rfl ?_
 refine zb.to _ ((zb8 0 0 0 0 zBR zBR dC dC dC dC dC dC).args
  (.cons .refl (.cons .refl (.cons .refl (.cons .refl (.cons (qK jw) (.cons (qK jw) .nil))))))) rfl ?_
 rw [zv0];refine zb.t (ku x oM) ?_;refine zb.t (ku y oM) ?_;exact .refl
theorem zsM{σ:St}(k0:Nat){T:TypeId}{α:Type}{enc:α->List SV}{sz:Nat}{xs:List α}(h0:zN σ.M k0=some (.arr T enc sz xs)):Sub σ ⟨σ.L,kU σ.M k0 (.garr T sz (xs.map enc)),σ.nk,σ.nt,σ.n0⟩:=by
 refine zrz k0 h0 fun S Pm ρ w ⟨v,cells,g1,g2,g3,g4,g5,g6⟩=>⟨v,cells,g1,by rw [List.length_map];exact g2,by rw [List.length_map];exact g3,g4,fun y hy=>?_,fun i j y s hy hs=>?_⟩
 ·obtain ⟨x,hx,rfl⟩:=List.mem_map.1 hy;exact g5 x hx
 ·rw [List.getElem?_map] at hy
  cases hx:xs[i]? with
  | none=>rw [hx] at hy;cases hy
  | some x=>
   rw [hx] at hy
   cases hy
   obtain ⟨u,h1,h2⟩:=g6 i j x s hx hs;exact ⟨u,h1,.d _ _ h2⟩
theorem zCg{p b:Pt}(hp:zn p)(hb:zn b):addP p b=sh b.x b.y p:=by rw [zwo hp hb];rfl
theorem zq4(rs:List (List Pt))(b:Pt)(h:kq rs)(hb:zn b)(hl:rs.length<=100000):zd Tryz.prog 17 [.sl zu rs,.agg (ptE b)] [] (.own 0) [(0,.arr 87 zu 1 (rs.map (List.map (sh b.x b.y))))]:=by
 refine zbi tok mix Tryz.func17 rfl rfl rfl ?_;have hc:qh rs<=4096:=by have:=h.1;omega
 refine ⟨List Pt,zu,[],rfl,Ob.o2 ?_⟩;refine ⟨Nat,fun i=>⟨[(0,.sl zu rs),(3,.loc 0 0),(5,.own 1),(6,i64 (i:Int))],[(0,.box 63 (ptE b)),(1,.garr 87 1 (yR ((rs.take i).map (List.map (sh b.x b.y)))))],2,47,0⟩,fun i=>i<=rs.length,fun i=>rs.length - i,0,Nat.zero_le _,?_,?_⟩
 ·exact (zsM 1 rfl).trans (zY [(0,some 0),(1,some 1)] ⟨rfl,⟨_,rfl,vR rfl⟩,trivial⟩)
 rintro i h1
 intro hl1;refine Br.mk (fun g=>?_) (fun g=>?_);rotate_left
 ·have g:¬(i:Int) < rs.length:=g;have et:rs.take i=rs:=List.take_of_length_le oM;refine ⟨_,zcY 1 zu ((rs.take i).map (List.map (sh b.x b.y))) rfl (fun _ _=>rfl),some 1,.own 1 rfl,congrArg (fun q=>some (Mem.arr 87 zu 1 q)) (by rw [et]),fun _ _=>rfl⟩
 have g:(i:Int) < rs.length:=g;refine zb.t (zwj rs) ?_;refine Br.mk (fun _=>?_) (fun k=>absurd h k);obtain ⟨x,hx⟩:∃x,rs[i]? =some x:=⟨_,List.getElem?_eq_getElem oM⟩;have hm:=List.mem_of_getElem? hx;have hxl:=Nat.le_trans (zdr hm) hc;have same:∀{y:List Pt},rs[((i:Nat):Int).toNat]? =some y->y=x:=fun h=>Option.some.inj ((show rs[i]? =some _ from h).symm.trans hx)
 refine ⟨Pt,ptE,[],rfl,Ob.o2 ?_⟩;refine ⟨Nat,fun j=>⟨[(0,.sl zu rs),(3,.loc 0 0),(5,.own 1),(6,i64 (i:Int)),(7,.own 2),(8,i64 (j:Int))],[(0,.box 63 (ptE b)),(1,.garr 87 1 (yR ((rs.take i).map (List.map (sh b.x b.y))))),(2,.arr 63 ptE 2 ((x.take j).map (sh b.x b.y)))],3,47,0⟩,fun j=>j<=x.length,fun j=>x.length - j,0,Nat.zero_le _,?_,?_⟩
 ·exact zY [(0,some 0),(1,some 1),(2,some 2)] ⟨rfl,⟨_,rfl,vR rfl⟩,rfl,trivial⟩
 rintro j j1
 have ml:((x.take j).map (sh b.x b.y)).length<=4096:=by rw [List.length_map,List.length_take];omega
 refine Ob.o ?_;intro y hy;rw [same hy];intro hl2;refine Br.mk (fun q=>?_) (fun q=>?_)
 ·have q:(j:Int) < x.length:=q;obtain ⟨z,hz⟩:∃z,x[j]? =some z:=⟨_,List.getElem?_eq_getElem oM⟩;refine Dr.d ?_;refine Ob.o ?_;intro y' hy';rw [same hy'];refine Ob.o ?_;intro z' hz';have ez:z'=z:=Option.some.inj ((show x[j]? =some z' from hz').symm.trans hz);rw [ez];refine zb.t (r_add z b) ?_;rw [zCg (h.2 x hm z (List.mem_of_getElem? hz)) hb];refine ⟨Pt,ptE,[sh b.x b.y z],rfl,Ob.o0 ?_⟩;refine ⟨[sh b.x b.y z],rfl,Ob.o8 ?_⟩;refine Ob.mk (by kernel_rfl) ?_;refine Ar.o ?_
  exact ⟨j+1,oM,zY [(0,some 0),(1,some 1),(2,some 4)] ⟨rfl,⟨_,rfl,vR rfl⟩,congrArg (fun q=>some (Mem.arr 63 ptE 2 q)) (by rw [List.take_add_one,hz,List.map_append];rfl),trivial⟩,by dsimp only;omega⟩
 have q:¬(j:Int) < x.length:=q;have etx:x.take j=x:=List.take_of_length_le oM;refine ⟨[[.own 2]],rfl,Ob.o6 ?_⟩;refine Ob.mk ⟨by show _*(24:Int)<=_;rw [uP,List.length_map,List.length_take];simp only [List.length_cons,List.length_nil];omega,by rw [uP,List.length_map,List.length_take];simp only [List.length_cons,List.length_nil];omega,dC⟩ ?_;refine Ar.o ?_
 refine ⟨i+1,oM,(zb2 (sz0:=1) (T0:=87) 2 4 (enc:=ptE) (ys:=(x.take j).map (sh b.x b.y)) rfl rfl (xs':=yR ((rs.take i).map (List.map (sh b.x b.y))++[(x.take j).map (sh b.x b.y)])) (by rw [uP,List.length_append,List.length_append,uP];rfl) (fun z hz=>?_) zjx).trans (zY [(0,some 0),(1,some 4)] ⟨rfl,⟨_,rfl,vR ?_⟩,trivial⟩),by dsimp only;omega⟩
 ·unfold yR at hz;obtain ⟨b,_,rfl⟩:=List.mem_map.1 hz;rfl
 ·rw [etx];rw [List.take_add_one (l:=rs) (i:=i),hx,List.map_append];rfl
theorem zed(rs:List (List Pt))(b:Pt)(h:kq rs)(hb:zn b)(hl:rs.length<=100000):zd Tryz.prog 17 [.sl zu rs,.agg (ptE b)] [] (.sl zu (rs.map (List.map (sh b.x b.y)))) []:=(zq4 rs b h hb hl).plain rfl
theorem LEs.d:∀{us bs:List SV},LEs us bs->jW.flats bs=true->qX us bs
 | [],[],_,_=>.nil
 | _::_,b::bs,.cons h t,hf=>by
  have hb:jW b=true/\jW.flats bs=true:=by
   have hf:(match jW b with | true=>jW.flats bs | false=>false)=true:=hf
   cases hb:jW b with
   | true=>rw [hb] at hf;exact ⟨rfl,hf⟩
   | false=>rw [hb] at hf;cases hf
  exact .cons (fun S w v hd=>uc hb.1 (h S (fun _=>False) (fun _=>none) w v (.d _ _ hd))) (LEs.d t hb.2)
def scl2:AF:=afQ ((2:Int):Rat) ((0:Int):Rat) ((0:Int):Rat) ((2:Int):Rat) ((0:Int):Rat) ((0:Int):Rat)
def nd0:Nd:={ zNd with id:=1,k:=1,t:=scl2,op:=255,mode:=1 }
def nd1:Nd:={ zNd with id:=2,k:=2,d:=1,t:=idA,path:=ve 0 0 1 1,rule:=1,fill:=[zaU 1] }
def nd1c:Nd:={ nd1 with clip:=ve 0 0 1 1 }
def nd1d:Nd:={ nd1c with cr:=2 }
def pgS:Sc:=⟨4,4,⟨0,0,0,0⟩,[nd0,nd1]⟩
def pgC:Sc:=⟨4,4,⟨0,0,0,0⟩,[nd0,nd1d]⟩
def zSc:Sc:=⟨0,0,⟨0,0,0,0⟩,[]⟩
def pc1:List SV:=i64 1::u8 0::u8 0::u8 0::u8 0::i64 0::i64 0::i64 0::i64 0::i64 0::nil1::i64 0::i64 0::i64 0::nil1::i64 0::yL
def uE(_:Unit):List SV:=pc1
def zq5:List SV:=[i64 0,i64 0,i64 0,i64 0,.val (.slice none 0 0),i64 0,.val (.slice none 0 0),i64 0,i64 0,.val (.slice none 0 0),i64 0]
def cs0:List SV:=i64 1::i64 1::i64 0::(afE scl2++([.val (.slice none 0 0),i64 0,u8 255,i64 1,bl false,bl false,.val (.slice none 0 0),i64 0,.val (.slice none 0 0)]++zq5))
def cs1(f:SV):List SV:=i64 2::i64 2::i64 1::(afE idA++([.val (.slice none 0 0),i64 0,u8 0,i64 0,bl false,bl false,.sl sgE (ve 0 0 1 1),i64 1,f]++zq5))
theorem zsN:LEs zq5 (ue ⟨0,0,0,0,[],0⟩++(.sl jb []::(zjB ⟨0,0,[]⟩++[i64 0]))):=
 .cons .refl (.cons .refl (.cons .refl (.cons .refl (.cons zC (.cons .refl (.cons zC (.cons .refl (.cons .refl (.cons zC (.cons .refl .nil))))))))))
theorem zCh:LEs cs0 (ndE nd0):=.cons .refl (.cons .refl (.cons .refl (LEs.append .refl (.cons zC (.cons .refl (.cons .refl (.cons .refl (.cons (ze dC) (.cons (ze dC) (.cons zC (.cons .refl (.cons zC zsN))))))))))))
theorem zCi:LEs pc1 (jb (zaU 1)):=
 .cons .refl (.cons .refl (.cons .refl (.cons .refl (.cons .refl (.cons .refl (.cons .refl (.cons .refl (.cons .refl (.cons .refl (.cons zC (.cons .refl (.cons .refl (.cons .refl (.cons zC (.cons .refl zjE)))))))))))))))
theorem zCj:LEs (cs1 (.sl uE [()])) (ndE nd1):=.cons .refl (.cons .refl (.cons .refl (LEs.append .refl (.cons zC (.cons .refl (.cons .refl (.cons .refl (.cons (ze dC) (.cons (ze dC) (.cons .refl (.cons .refl
 (.cons (zxu (e:=uE) (g:=jb) (fun _=>zaU 1) (xs:=[()]) fun _ _=>LEs.d zCi rfl) zsN))))))))))))
theorem zCk(f g:SV)(j:Nat)(s':SV)(h:(cs1 g)[j]? =some s'):∃s,(cs1 f)[j]? =some s/\(s'=s∨(s=f/\s'=g)):=by
 have e:cs1 g=(cs1 f).set 35 g:=rfl;have hl:(cs1 f).length=47:=rfl;rw [e,List.getElem?_set] at h
 by_cases c:35=j
 ·subst c;rw [if_pos rfl,if_pos (by rw [hl];decide)] at h;exact ⟨f,rfl,.inr ⟨rfl,(Option.some.inj h).symm⟩⟩
 ·rw [if_neg c] at h;exact ⟨s',h,.inl rfl⟩
theorem zCl:zd Tryz.prog 25 [] [] (.agg (scO pgS 0)) [(0,qQ [nd0,nd1])]:=by
 refine zbi tok mix Tryz.func25 rfl rfl rfl ?_;have r2:R64 2:=dC;have l2:=qU r2;refine zb.t (qn 2 r2) ?_;refine zb.t (qn 2 r2) ?_;refine zb.t (zuz (ofQ ((2:Int):Rat)) (ofQ ((2:Int):Rat)) oM oM) ?_;rw [zV];refine Dr.d ?_;refine zb.t zfw ?_;refine zb.t (zoq 0 0 1 1) ?_;refine ⟨Unit,uE,[()],rfl,Ob.o0 ?_⟩;refine ⟨[cs0,cs1 (.own 2)],rfl,Ob.mk ⟨rfl,dC,dC,dC,fun x hx=>?_⟩ ?_⟩
 ·rcases List.mem_cons.1 hx with rfl | hx
  ·rfl
  ·rw [List.mem_singleton.1 hx];rfl
 refine Ob.mk (by kernel_rfl) ?_
 refine ⟨_,((zb2 (sz0:=47) (T0:=51) 2 3 (enc:=uE) (ys:=[()]) (xs:=[cs0,cs1 (.own 2)]) rfl rfl (xs':=[cs0,cs1 (.sl uE [()])]) rfl (fun x hx=>?_) (fun i j x' s' hx hs=>?_)).trans
  (zdO 3 (xs:=[cs0,cs1 (.sl uE [()])]) (ys:=[nd0,nd1].map ndE) rfl (.cons zCh (.cons zCj .nil)))).trans (zcY 3 ndE [nd0,nd1] rfl (fun _ _=>rfl)),some 3,?_,rfl,fun _ _=>rfl⟩
 ·rcases List.mem_cons.1 hx with rfl | hx
  ·rfl
  ·rw [List.mem_singleton.1 hx];rfl
 ·match i,hx with
  | 0,hx=>cases hx;exact ⟨cs0,s',rfl,hs,.inl rfl⟩
  | 1,hx=>
   cases hx
   obtain ⟨s,h1,h2⟩:=zCk (.own 2) _ j s' hs;exact ⟨_,s,rfl,h1,h2⟩
  | i+2,hx=>cases hx
 ·exact znR (.cons (yc rfl) (.cons (yc rfl) (.cons (yc rfl) (.cons (yc rfl) (.cons (yc rfl) (.cons (yc rfl) (.cons (.own 3 rfl) .nil)))))))
theorem zhX(n:Nd)(h1:n.t.le 100)(h2:n.fill=[]∨n.fill=[zaU 1])(h3:n.strk=[])(h4:n.im.px=[])(h5:n.path.length<=300)(h6:n.clip.length<=300):zAN n:=by
 have hs:zdx n.strk:=by rw [h3];exact fun p hp=>by cases hp
 refine ⟨h1,⟨h1.up dC,?_,hs,by rw [h4];decide⟩,h5,h6⟩;intro p hp
 rcases h2 with h2 | h2
 ·rw [h2] at hp;cases hp
 ·rw [h2,List.mem_singleton] at hp;subst hp;exact ⟨yh _,dC⟩
theorem znb:scl2.le 100:=by decide +kernel
theorem zbc:jH pgS:=fun _ n hn=>by
 rcases List.mem_cons.1 hn with rfl | hn
 ·exact zhX _ znb (.inl rfl) rfl rfl dC dC
 ·rw [List.mem_singleton.1 hn];exact zhX _ (zmu.up dC) (.inr rfl) rfl rfl (vT 0 0 1 1) dC
theorem zjY:jH pgC:=fun _ n hn=>by
 rcases List.mem_cons.1 hn with rfl | hn
 ·exact zhX _ znb (.inl rfl) rfl rfl dC dC
 ·rw [List.mem_singleton.1 hn];exact zhX _ (zmu.up dC) (.inr rfl) rfl rfl (vT 0 0 1 1) (vT 0 0 1 1)
theorem zCm:jH zSc:=fun _ n hn=>by cases hn
theorem zx6:(kK pgS 1).map List.length=[4]/\((kK pgS 1).headD []).getD 2 zp=⟨512,512⟩:=by decide +kernel
theorem zCn:jR pgC 1=kK pgS 1/\0 < (zE pgC 1).clip.length/\¬0 < (zE pgS 1).clip.length:=by decide +kernel
theorem zAa:(zw pgS 1).1.same scl2/\(zw pgS 1).2=0/\(zw pgS 2).2=8/\(zw zSc 0).2=18:=by decide +kernel
theorem zx7:(zhB pgS 1 ⟨512,0⟩).2=0/\(zhB pgS 1 ⟨512,0⟩).1.1.v=((256:Int):Rat)/\(zhB pgS 1 ⟨512,0⟩).1.2.v=((0:Int):Rat)/\zx1 pgS 1 ⟨3,4⟩=(⟨6,8⟩,0):=by decide +kernel
theorem zCo:(zhB pgS 1 ⟨512,0⟩).1.1.len<=1000/\(zhB pgS 1 ⟨512,0⟩).1.2.len<=1000:=by decide +kernel
theorem zAb:(zE pgS 1).strk=[]/\(zE pgC 1).strk=[]/\(zE pgC 1).k=2:=by decide +kernel
theorem zAc:∀l∈jV pgS 1,qh l<=4096:=by decide +kernel
theorem zx8:zpr (zjW (jV pgS 1)) 128 128=⟨256,256⟩/\(zjW (jV pgS 1)).isSome=true:=by decide +kernel
theorem one4G{L:List (List Pt)}(h:L.map List.length=[4]):∃r,L=[r]/\r.length=4:=by
 cases L with
 | nil=>cases h
 | cons r t=>
  have h1:=List.cons.inj h;have e:t=[]:=List.map_eq_nil_iff.1 h1.2;exact ⟨r,by rw [e],h1.1⟩
theorem kD:zd Tryz.prog 8 [] [] (bl true) []:=by
 refine zc tok mix Tryz.func8 rfl rfl rfl ?_;refine zb.fresh _ _ zCl rfl (fun _ _=>rfl) (.inl rfl) ?_;refine zb.give [0] 0 [.agg (scO pgS 0),i64 1] [(0,qQ pgS.ns)] [(0,qQ pgS.ns)] (.sl zu (kK pgS 1)) (zpo pgS 1 zbc) LEs.refl rfl rfl rfl ⟨⟨_,rfl,rfl,trivial⟩,trivial⟩ rfl ⟨⟨rfl,trivial⟩,trivial⟩ ?_;refine zb.give [0] 0 [.agg (scO pgS 0),i64 1] [(0,qQ pgS.ns)] [(0,qQ pgS.ns)] (zq3 (zw pgS 1)) (zf6 pgS 1 zbc) LEs.refl rfl rfl rfl ⟨⟨_,rfl,rfl,trivial⟩,trivial⟩ rfl ⟨⟨rfl,trivial⟩,trivial⟩ ?_
 refine zb.give [0] 0 [.agg (scO pgS 0),i64 2] [(0,qQ pgS.ns)] [(0,qQ pgS.ns)] (zq3 (zw pgS 2)) (zf6 pgS 2 zbc) LEs.refl rfl rfl rfl ⟨⟨_,rfl,rfl,trivial⟩,trivial⟩ rfl ⟨⟨rfl,trivial⟩,trivial⟩ ?_;refine zb.t ((zf5 zSc 0 zCm).args (.cons (qK (.cons .refl (.cons .refl (.cons .refl (.cons .refl (.cons .refl (.cons .refl (.cons zC .nil)))))))) LEs.refl)) ?_;refine zb.give [0] 0 [.agg (scO pgS 0),i64 1] [(0,qQ pgS.ns)] [(0,qQ pgS.ns)] (zf8 pgS 1) (zjU pgS 1 zbc) LEs.refl rfl rfl rfl ⟨⟨_,rfl,rfl,trivial⟩,trivial⟩ rfl ⟨⟨rfl,trivial⟩,trivial⟩ ?_
 refine zb.give [0] 0 [.agg (scO pgS 0),i64 1,.agg (ptE ⟨512,0⟩)] [(0,qQ pgS.ns)] [(0,qQ pgS.ns)] (zx2 pgS 1 ⟨512,0⟩) (zCe pgS 1 ⟨512,0⟩ zbc) LEs.refl rfl rfl rfl ⟨⟨_,rfl,rfl,trivial⟩,trivial⟩ rfl ⟨⟨rfl,trivial⟩,trivial⟩ ?_;have hk:=zAb
 have hS:zd Tryz.prog 30 [.agg (scE pgS),i64 1] [] (.sl zu (qz pgS 1)) []:=by
  rw [zdC (.inr (by rw [hk.1];rfl))];exact (zps pgS 1 zbc (.inr (by rw [hk.1];rfl))).le zC
 refine zb.t (zgM pgS 1 128 128 zbc hS zAc) ?_;refine zb.t (w_ntp pgS 1 ⟨3,4⟩ zbc) ?_;have hc:=zx7;have hw:=zAa;have ha:=zx8;have hx:=zCn;have r256:R64 256:=dC;have r0:R64 0:=dC;refine Dr.d ?_;refine Br.mk (fun k=>absurd hc.1 k) (fun _=>?_);refine zb.t (qn 256 r256) ?_;have l256:=qU r256;have l0:=qU r0;have hl:=zCo;have q1:=zmt (zhB pgS 1 ⟨512,0⟩).1.1 (ofQ ((256:Int):Rat)) oM oM;have q2:=zmt (zhB pgS 1 ⟨512,0⟩).1.2 (ofQ ((0:Int):Rat)) oM oM;rw [hc.2.1,zV,show zgt ((256:Int):Rat) ((256:Int):Rat)=0 from qG.2 rfl] at q1
 rw [hc.2.2.1,zV,show zgt ((0:Int):Rat) ((0:Int):Rat)=0 from qG.2 rfl] at q2;refine zb.t q1 ?_;refine Br.mk (fun k=>absurd rfl k) (fun _=>?_);refine zb.t (qn 0 r0) ?_;refine zb.t q2 ?_;refine Br.mk (fun k=>absurd rfl k) (fun _=>?_);refine Br.mk (fun k=>absurd ha.2 k) (fun _=>?_);refine Br.mk (fun k=>absurd (qJ.2 ha.1) k) (fun _=>?_);refine Br.mk (fun k=>absurd (congrArg Prod.snd hc.2.2.2) k) (fun _=>?_);refine Ob.mk (by kernel_rfl) ?_;refine Br.mk (fun k=>absurd (qJ.2 (congrArg Prod.fst hc.2.2.2)) k) (fun _=>?_)
 have i1:(0:Int)<=1/\(1:Int) < (([nd0,nd1]:List Nd).length:Int):=dC;refine Dr.d ?_;refine Ob.mk i1 ?_;refine Ob.mk i1 ?_;intro y hy;have hy:y=nd1:=(Option.some.inj hy).symm;refine Ob.mk i1 ?_;refine Ob.mk i1 ?_;intro z hz;have hz:z=nd1:=(Option.some.inj hz).symm;refine ⟨nd1c,by rw [hz,hy];rfl,?_⟩;refine Ob.mk (by kernel_rfl) ?_;refine Ob.mk i1 ?_;refine Ob.mk i1 ?_;intro z2 hz2;have hz2:z2=nd1c:=(Option.some.inj hz2).symm;refine ⟨nd1d,by rw [hz2];rfl,?_⟩
 refine zb.give [0] 0 [.agg (scO pgC 0),i64 1] [(0,qQ pgC.ns)] [(0,qQ pgC.ns)] (zf8 pgC 1) (zjU pgC 1 zjY) LEs.refl rfl rfl rfl ⟨⟨_,rfl,rfl,trivial⟩,trivial⟩ rfl ⟨⟨rfl,trivial⟩,trivial⟩ ?_;obtain ⟨r,hr,hr4⟩:=one4G zx6.1;have hr2:=zx6.2;rw [hr] at hr2;have hr2:r.getD 2 zp=⟨512,512⟩:=hr2;have i0:(0:Int)<=0/\(0:Int) < (kK pgS 1).length:=by rw [hr];exact ⟨Int.le_refl _,show (0:Int) < 1 by decide⟩
 refine Dr.d ?_;intro hl0;refine Br.mk (fun _=>?_) (fun k=>absurd (by rw [hr];rfl) k);refine Ob.mk i0 ?_;intro a ha0
 have ha0:a=r:=by
  have ha0:(kK pgS 1)[0]? =some a:=ha0;rw [hr] at ha0;exact (Option.some.inj ha0).symm
 intro hl1;refine Br.mk (fun _=>?_) (fun k=>absurd (by rw [ha0,hr4];rfl) k);refine Ob.mk i0 ?_;intro b hb0
 have hb0:b=r:=by
  have hb0:(kK pgS 1)[0]? =some b:=hb0;rw [hr] at hb0;exact (Option.some.inj hb0).symm
 refine Ob.mk (by rw [hb0,hr4];decide) ?_;intro q hq
 have hq:q=⟨512,512⟩:=by
  have hq:b[2]? =some q:=hq;rw [hb0] at hq;rw [← hr2,List.getD_eq_getElem?_getD,hq];rfl
 refine Br.mk (fun _=>?_) (fun k=>absurd (qJ.2 hq) k);have j0:(0:Int)<=0/\(0:Int) < (([nd0,nd1]:List Nd).length:Int):=dC;refine Ob.mk j0 ?_;refine Ob.mk j0 ?_;intro n hn;have hn:n=nd0:=(Option.some.inj hn).symm;have he:=zd1 (zw pgS 1).1 n.t ((jz pgS 1).up dC) (by rw [hn];exact znb.up dC);refine zb.t he ?_;refine Br.mk (fun _=>?_) (fun k=>absurd (by rw [hn];exact hw.1) k);refine Br.mk (fun _=>?_) (fun k=>absurd hw.2.1 k);refine Br.mk (fun _=>?_) (fun k=>absurd hw.2.2.1 k);refine Br.mk (fun _=>?_) (fun k=>absurd hw.2.2.2 k)
 refine Br.mk (fun _=>?_) (fun k=>absurd hx.2.2 k);refine Br.mk (fun _=>?_) (fun k=>absurd hx.2.1 k);refine zb.t (vq (jR pgC 1) (kK pgS 1)) ?_;refine Br.mk (fun _=>?_) (fun k=>absurd hx.1 k);refine zb.t (zps pgC 1 zjY (.inr (by rw [hk.2.1];rfl))) ?_;refine Br.mk (fun _=>?_) (fun k=>absurd rfl k);refine zb.t (zz9 pgC 1 zjY (by rw [hk.2.2];decide)) ?_;refine Br.mk (fun _=>?_) (fun k=>absurd rfl k);refine Ob.mk (by kernel_rfl) ?_;exact .refl
def ltP(p:Pnt):Prop:=p.t.le 12/\p.st.length<=30/\p.im.px.length<=300
instance (p:Pnt):Decidable (ltP p):=inferInstanceAs (Decidable (_/\_))
def ltN(n:Nd):Prop:=(n.path.length<=24/\n.clip.length<=24/\n.pen.d.length<=20/\n.im.px.length<=300/\n.t.le 12/\n.fill.length<=3/\n.strk.length<=3)/\∀p∈n.fill++n.strk,ltP p
instance (n:Nd):Decidable (ltN n):=inferInstanceAs (Decidable (_/\_))
def ltS(s:Sc):Prop:=¬(8 < s.ns.length/\s.ns.length<=64)/\∀n∈s.ns.take 65,ltN n
instance (s:Sc):Decidable (ltS s):=inferInstanceAs (Decidable (_/\_))
theorem znc{s:Sc}(h:ltS s):jH s:=fun hl n hn=>by
 have hn:ltN n:=h.2 n (by rw [List.take_of_length_le oM];exact hn);obtain ⟨⟨h1,h2,h3,h4,h5,h6,h7⟩,h8⟩:=hn
 have hp:∀p∈n.fill++n.strk,p.t.le 1000/\p.im.px.length<=9223372036854775807:=fun p hp=>by
  obtain ⟨g1,_,g3⟩:=h8 p hp;exact ⟨g1.up dC,oM⟩
 exact ⟨h5.up dC,⟨h5.up dC,fun p q=>hp p (List.mem_append_left _ q),fun p q=>hp p (List.mem_append_right _ q),oM⟩,oM,oM⟩
theorem zjZ(s:Sc):zd Tryz.prog 6 [.agg (scE s)] [] (pr (ltS s)) []:=by
 refine zc tok mix Tryz.func6 rfl rfl rfl ?_;intro hl0;refine Br.mk (fun g1=>?_) (fun g1=>?_)
 all_goals first
  | (intro hl1;refine Br.mk (fun g2=>ze fun k=>k.1 ⟨oM,oM⟩) (fun g2=>?_);have h0:¬(8 < s.ns.length/\s.ns.length<=64):=fun k=>g2 (by have:=k.2;omega))
  | have h0:¬(8 < s.ns.length/\s.ns.length<=64):=fun k=>g1 (by have:=k.1;omega)
 all_goals
  refine ⟨Nat,fun i=>⟨[(3,i64 (i:Int)),(1,.loc 0 0)],[(0,.box 26 (scE s))],1,114,0⟩,fun i=>i<=(s.ns.take 65).length/\∀n∈(s.ns.take 65).take i,ltN n,fun i=>(s.ns.take 65).length - i,0,⟨Nat.zero_le _,fun n hn=>by cases hn⟩,?_,?_⟩
  ·exact zf [(0,some 0)]
  have htl:(s.ns.take 65).length=min 65 s.ns.length:=List.length_take
  rintro i ⟨h1,h2⟩
  have fin:¬((i:Int) < s.ns.length/\(i:Int)<=64)->LE (bl true) (pr (ltS s)):=fun h=>zP ⟨h0,fun n hn=>h2 n (by rw [List.take_of_length_le oM];exact hn)⟩
  intro hl2;refine Br.mk (fun g=>?_) (fun g=>fin fun k=>g k.1);have g:(i:Int) < s.ns.length:=g;refine Br.mk (fun g'=>?_) (fun g'=>fin fun k=>g' k.2);have g':(i:Int)<=64:=g';refine Ob.o ?_;intro x hx;have hx:s.ns[i]? =some x:=hx;have hx2:(s.ns.take 65)[i]? =some x:=by rw [List.getElem?_take,if_pos oM];exact hx
  have bad:¬ltN x->LE (bl false) (pr (ltS s)):=fun h=>ze fun k=>h (k.2 x (List.mem_of_getElem? hx2))
  intro a0;refine Br.mk (fun k=>bad fun q=>by have:=q.1.1;omega) (fun b1=>?_);intro a1;refine Br.mk (fun k=>bad fun q=>by have:=q.1.2.1;omega) (fun b2=>?_);intro a2;refine Br.mk (fun k=>bad fun q=>by have:=q.1.2.2.1;omega) (fun b3=>?_);intro a3;refine Br.mk (fun k=>bad fun q=>by have:=q.1.2.2.2.1;omega) (fun b4=>?_);refine zb.t (zsK x.t) ?_;refine Br.mk (fun k=>bad fun q=>k q.1.2.2.2.2.1) (fun b5=>?_);intro a5;refine Br.mk (fun k=>bad fun q=>by have:=q.1.2.2.2.2.2.1;omega) (fun b6=>?_);intro a6
  refine Br.mk (fun k=>bad fun q=>by have:=q.1.2.2.2.2.2.2;omega) (fun b7=>?_)
  have ok1:x.path.length<=24/\x.clip.length<=24/\x.pen.d.length<=20/\x.im.px.length<=300/\x.t.le 12/\x.fill.length<=3/\x.strk.length<=3:=
   ⟨oM,oM,oM,oM,Decidable.not_not.1 b5,oM,oM⟩
  refine Dr.d ?_;refine ⟨Pnt,jb,[],rfl,Ob.o2 ?_⟩;refine ⟨x.fill,rfl,Ob.mk ⟨by show (((0:Nat):Int)+(x.fill.length:Int))*_<=_;dsimp only;omega,by show 0+x.fill.length<=_;omega,dC,fun _ _=>rfl⟩ ?_⟩;refine ⟨x.strk,rfl,Ob.mk ⟨by show ((([]++x.fill:List Pnt).length:Int)+(x.strk.length:Int))*_<=_;rw [List.nil_append];dsimp only;omega,by rw [List.nil_append];omega,dC,fun _ _=>rfl⟩ ?_⟩;refine Ob.mk (by kernel_rfl) ?_;rw [List.nil_append];generalize hP:x.fill++x.strk=P;have hPl:P.length<=6:=by rw [← hP,List.length_append];omega
  refine ⟨Nat,fun j=>⟨[(6,i64 (j:Int)),(5,.own 2),(4,.loc 1 0),(3,i64 (i:Int)),(1,.loc 0 0)],[(2,.arr 77 jb 40 P),(1,.box 51 (ndE x)),(0,.box 26 (scE s))],3,114,0⟩,fun j=>j<=P.length/\∀p∈P.take j,ltP p,fun j=>P.length - j,0,⟨Nat.zero_le _,fun p hp=>by cases hp⟩,?_,?_⟩
  ·exact zf [(0,some 0),(1,some 1),(2,some 4)]
  rintro j ⟨j1,j2⟩
  intro c0;refine Br.mk (fun q=>?_) (fun q=>?_)
  ·have q:(j:Int) < P.length:=q;refine Ob.o ?_;refine Ob.o ?_;intro p hp;have hp:P[j]? =some p:=hp;have hm:p∈x.fill++x.strk:=by rw [hP];exact List.mem_of_getElem? hp
   have badp:¬ltP p->LE (bl false) (pr (ltS s)):=fun h=>bad fun k=>h (k.2 p hm)
   refine zb.t (zsK p.t) ?_;refine Br.mk (fun k=>badp fun w=>k w.1) (fun d1=>?_);refine Ob.o ?_;refine Ob.o ?_;intro p2 hp2;have e2:p2=p:=Option.some.inj ((show P[j]? =some p2 from hp2).symm.trans hp);rw [e2];intro c1;refine Br.mk (fun k=>badp fun w=>by have:=w.2.1;omega) (fun d2=>?_);refine Ob.o ?_;refine Ob.o ?_;intro p3 hp3;have e3:p3=p:=Option.some.inj ((show P[j]? =some p3 from hp3).symm.trans hp);rw [e3];intro c2;refine Br.mk (fun k=>badp fun w=>by have:=w.2.2;omega) (fun d3=>?_);refine Ar.o ?_
   have okp:ltP p:=⟨Decidable.not_not.1 d1,oM,oM⟩;refine ⟨j+1,⟨oM,fun w hw=>?_⟩,zf [(0,some 0),(1,some 1),(2,some 2)],by dsimp only;omega⟩;rw [List.take_add_one,hp] at hw
   rcases List.mem_append.1 hw with hw | hw
   ·exact j2 w hw
   ·rw [show w=p by simpa using hw];exact okp
  ·have q:¬(j:Int) < P.length:=q;rw [List.take_of_length_le oM] at j2;refine Ar.o ?_;refine ⟨i+1,⟨oM,fun w hw=>?_⟩,zf [(0,some 0)],by dsimp only;omega⟩;rw [List.take_add_one,hx2] at hw
   rcases List.mem_append.1 hw with hw | hw
   ·exact h2 w hw
   ·rw [show w=x by simpa using hw];exact ⟨ok1,by rw [hP];exact j2⟩
theorem zx9(a:BI)(h:a.mag.length<=1000000):zd Tryz.prog 162 [.agg (biE a)] [] (.agg (biE a)) []:=by
 refine vv 1 tok mix Tryz.func162 rfl rfl rfl ?_;refine Dr.d ?_;refine ⟨Dig,dgE,[],rfl,Ob.o2 ?_⟩;refine ⟨a.mag,rfl,Ob.mk ⟨(by show (([]:List Dig).length+a.mag.length:Int)*(4:Int)<=_;rw [List.length_nil];omega),(by rw [List.length_nil];omega),dC,fun _ _=>rfl⟩ ?_⟩;refine Ob.mk (by kernel_rfl) ?_;exact .refl
theorem zgP(a:BR)(h:a.len<=1000000):zd Tryz.prog 115 [.agg (brE a)] [] (.agg (brE a)) []:=by
 have h1:a.num.mag.length<=1000000:=by unfold BR.len at h;omega
 have h2:a.den.mag.length<=1000000:=by unfold BR.len at h;omega
 refine vv 1 tok mix Tryz.func115 rfl rfl rfl ?_;refine Dr.d ?_;refine zb.t (zx9 a.num h1) ?_;refine zb.t (zx9 a.den h2) ?_;refine Ob.mk (by kernel_rfl) ?_;exact .refl
theorem zya(t:AF)(h:t.le 1000000):zd Tryz.prog 70 [.agg (afE t)] [] (.agg (afE t)) []:=by
 obtain ⟨h1,h2,h3,h4,h5,h6⟩:=h;refine vv 1 tok mix Tryz.func70 rfl rfl rfl ?_;refine Dr.d ?_;refine zb.t (zgP t.a h1) ?_;refine zb.t (zgP t.b h2) ?_;refine zb.t (zgP t.c h3) ?_;refine zb.t (zgP t.d h4) ?_;refine zb.t (zgP t.e h5) ?_;refine zb.t (zgP t.f h6) ?_;refine Ob.mk (by kernel_rfl) ?_;exact .refl
theorem znd{row:List SV}{c k:Nat}{α:Type}{enc:α->List SV}{ys:List α}(hr:row[c]? =some (.own k))(j:Nat)(s':SV)(h:(row.set c (.sl enc ys))[j]? =some s'):
  ∃s,row[j]? =some s/\(s'=s∨(s=.own k/\s'=.sl enc ys)):=by
 rw [List.getElem?_set] at h
 by_cases e:c=j
 ·subst e;rw [if_pos rfl] at h
  by_cases q:c < row.length
  ·rw [if_pos q] at h;exact ⟨_,hr,.inr ⟨rfl,(Option.some.inj h).symm⟩⟩
  ·rw [if_neg q] at h;cases h
 ·rw [if_neg e] at h;exact ⟨s',h,.inl rfl⟩
theorem zpt {σ:St} (k k0 c:Nat) {T T0:TypeId} {α:Type} {enc:α->List SV} {sz sz0:Nat} {ys:List α} {L:List (List SV)} {row:List SV} (hk:zN σ.M k=some (.arr T enc sz ys))
  (h0:zN σ.M k0=some (.garr T0 sz0 (L++[row]))) (hr:row[c]? =some (.own k)) (hL:∀x∈L,x.length=sz0) (hw:row.length=sz0):
  Sub σ ⟨σ.L,kU (kz σ.M k) k0 (.garr T0 sz0 (L++[row.set c (.sl enc ys)])),σ.nk,σ.nt,σ.n0⟩:=by
 refine zb2 k k0 hk h0 (xs':=L++[row.set c (.sl enc ys)]) (by simp) (fun x hx=>?_) (fun i j x' s' hx hs=>?_)
 ·rcases List.mem_append.1 hx with hx | hx
  ·exact hL x hx
  ·rw [List.mem_singleton.1 hx,List.length_set];exact hw
 ·rw [List.getElem?_append] at hx
  by_cases q:i < L.length
  ·rw [if_pos q] at hx;exact ⟨x',s',by rw [List.getElem?_append,if_pos q];exact hx,hs,.inl rfl⟩
  ·rw [if_neg q] at hx
   have hi:i - L.length=0:=by
    have:=(List.getElem?_eq_some_iff.1 hx).1;simp at this;omega
   rw [hi] at hx;have hx:x'=row.set c (.sl enc ys):=(Option.some.inj hx).symm;rw [hx] at hs;obtain ⟨s,h1,h2⟩:=znd hr j s' hs;exact ⟨row,s,by rw [List.getElem?_append,if_neg q,hi];rfl,h1,h2⟩
def pntO(p:Pnt)(a b:Nat):List SV:=
 i64 p.k::u8 p.c.r::u8 p.c.g::u8 p.c.b::u8 p.c.a::i64 p.p0.x::i64 p.p0.y::i64 p.p1.x::i64 p.p1.y::i64 p.r::.own a::i64 p.sp::i64 p.im.w::i64 p.im.h::.own b::i64 p.sm::afE p.t
theorem zsO{α:Type}{enc:α->List SV}{tb:List (Nat×Option Nat)}(h:∀y,ren.rens tb (enc y)=some (enc y)){l m:List α}(e:l=m):
  (m.map enc).length=(l.map enc).length/\∀(j:Nat) x,(l.map enc)[j]? =some x->∃x',(m.map enc)[j]? =some x'/\ren.rens tb x=some x':=by
 subst e;refine ⟨rfl,fun j x hx=>⟨x,hx,?_⟩⟩;rw [List.getElem?_map] at hx
 cases hy:l[j]? with
 | none=>rw [hy] at hx;cases hx
 | some y=>rw [hy] at hx;cases hx;exact h y
theorem zq6(l:List Pnt)(hl:l.length<=1000)(hp:∀p∈l,ltP p):zd Tryz.prog 71 [.sl jb l] [] (.own 0) [(0,.arr 77 jb 40 l)]:=by
 refine zbi tok mix Tryz.func71 rfl rfl rfl ?_;refine ⟨Pnt,jb,[],rfl,Ob.o2 ?_⟩;refine ⟨Nat,fun i=>⟨[(4,i64 (i:Int)),(3,.own 0),(0,.sl jb l)],[(0,.garr 77 40 ((l.take i).map jb))],1,38,0⟩,fun i=>i<=l.length,fun i=>l.length - i,0,Nat.zero_le _,?_,?_⟩
 ·exact (zsM 0 (xs:=[]) rfl).trans (zY [(0,some 0)] ⟨⟨_,rfl,zsO (enc:=jb) (l:=[]) (m:=[]) (fun _=>rfl) rfl⟩,trivial⟩)
 intro i hi;have hi:i<=l.length:=hi;intro hl0;refine Br.mk (fun g=>?_) (fun g=>?_)
 ·have g:(i:Int) < l.length:=g;refine Ob.o ?_;intro p hx;have hx:l[i]? =some p:=hx;obtain ⟨g1,g2,g3⟩:=hp p (List.mem_of_getElem? hx);refine ⟨zgI,zcy,[],rfl,Ob.o2 ?_⟩;refine ⟨p.st,rfl,Ob.mk ⟨(by show (([]:List zgI).length+p.st.length:Int)*(16:Int)<=_;rw [List.length_nil];omega),(by rw [List.length_nil];omega),dC,fun _ _=>rfl⟩ ?_⟩;refine ⟨Pix,zdt,[],rfl,Ob.o2 ?_⟩
  refine ⟨p.im.px,rfl,Ob.mk ⟨(by show (([]:List Pix).length+p.im.px.length:Int)*(4:Int)<=_;rw [List.length_nil];omega),(by rw [List.length_nil];omega),dC,fun _ _=>rfl⟩ ?_⟩;refine zb.t (zya p.t (g1.up dC)) ?_;refine ⟨[pntO p 3 5],rfl,Ob.o6 ?_⟩;have hlen:((l.take i).map jb).length<=1000:=by rw [List.length_map,List.length_take];omega
  refine Ob.mk ⟨by show ((((l.take i).map jb).length:Int)+1)*520<=_;omega,by show ((l.take i).map jb).length+1<=_;omega,dC⟩ ?_;refine Ar.o ?_
  have hw:∀x∈(l.take i).map jb,x.length=40:=fun x hx=>by
   obtain ⟨y,_,rfl⟩:=List.mem_map.1 hx;rfl
  have en:(l.take (i+1)).map jb=(l.take i).map jb++[jb p]:=by rw [List.take_add_one,hx,List.map_append];rfl
  refine ⟨i+1,by show i+1<=_;omega,((zpt 3 7 10 (L:=(l.take i).map jb) (row:=pntO p 3 5) (enc:=zcy) (ys:=p.st) rfl rfl rfl hw rfl).trans
   ((zpt 5 7 14 (L:=(l.take i).map jb) (row:=(pntO p 3 5).set 10 (.sl zcy p.st)) (enc:=zdt) (ys:=p.im.px) rfl rfl rfl hw rfl).trans
    (zY [(0,some 7)] ⟨⟨_,rfl,?_⟩,trivial⟩))),by dsimp only;omega⟩
  show _/\∀(j:Nat) x,((l.take (i+1)).map jb)[j]? =some x->_;have:=zsO (enc:=jb) (tb:=[(0,some 7)]) (l:=l.take (i+1)) (m:=l.take (i+1)) (fun _=>rfl) rfl
  rwa [en] at this ⊢
 ·have g:¬(i:Int) < l.length:=g;refine ⟨_,zcY 0 jb (l.take i) rfl (fun _ _=>rfl),some 0,.own 0 rfl,congrArg (fun q=>some (Mem.arr 77 jb 40 q)) (List.take_of_length_le oM),fun _ _=>rfl⟩
theorem zlG(l:List Pnt)(hl:l.length<=1000)(hp:∀p∈l,ltP p):zd Tryz.prog 71 [.sl jb l] [] (.sl jb l) []:=(zq6 l hl hp).plain rfl
theorem zAd(n:Nd)(h:ltN n):zd Tryz.prog 39 [.agg (ndE n)] [] (.agg (ndE n)) []:=by
 obtain ⟨⟨h1,h2,h3,h4,h5,h6,h7⟩,h8⟩:=h;refine vv 1 tok mix Tryz.func39 rfl rfl rfl ?_;refine zb.t (zya n.t (h5.up dC)) ?_;refine ⟨Sg,sgE,[],rfl,Ob.o2 ?_⟩;refine ⟨n.clip,rfl,Ob.mk ⟨(by show (([]:List Sg).length+n.clip.length:Int)*(56:Int)<=_;rw [List.length_nil];omega),(by rw [List.length_nil];omega),dC,fun _ _=>rfl⟩ ?_⟩;refine ⟨Sg,sgE,[],rfl,Ob.o2 ?_⟩;refine ⟨n.path,rfl,Ob.mk ⟨(by show (([]:List Sg).length+n.path.length:Int)*(56:Int)<=_;rw [List.length_nil];omega),(by rw [List.length_nil];omega),dC,fun _ _=>rfl⟩ ?_⟩
 refine zb.t (zlG n.fill oM fun p hp=>h8 p (List.mem_append_left _ hp)) ?_;refine zb.t (zlG n.strk oM fun p hp=>h8 p (List.mem_append_right _ hp)) ?_;refine ⟨Int,uR,[],rfl,Ob.o2 ?_⟩;refine ⟨n.pen.d,rfl,Ob.mk ⟨(by show (([]:List Int).length+n.pen.d.length:Int)*(8:Int)<=_;rw [List.length_nil];omega),(by rw [List.length_nil];omega),dC,fun _ _=>rfl⟩ ?_⟩;refine ⟨Pix,zdt,[],rfl,Ob.o2 ?_⟩
 refine ⟨n.im.px,rfl,Ob.mk ⟨(by show (([]:List Pix).length+n.im.px.length:Int)*(4:Int)<=_;rw [List.length_nil];omega),(by rw [List.length_nil];omega),dC,fun _ _=>rfl⟩ ?_⟩;exact .refl
theorem zpu(s:Sc)(hl:s.ns.length<=1000)(h:∀n∈s.ns,ltN n):zd Tryz.prog 13 [.agg (scE s)] [] (.agg (scO s 0)) [(0,qQ s.ns)]:=by
 refine qS tok mix Tryz.func13 rfl rfl rfl ?_;refine ⟨Nd,ndE,[],rfl,Ob.o2 ?_⟩;refine ⟨Nat,fun i=>⟨[(4,i64 (i:Int)),(3,.own 2),(2,.loc 1 0),(1,.loc 0 0)],[(2,qQ (s.ns.take i)),(1,.box 26 (vals [.int .i64 0,.int .i64 0,.int .u8 0,.int .u8 0,.int .u8 0,.int .u8 0,.slice none 0 0])),(0,.box 26 (scE s))],3,30,0⟩,fun i=>i<=s.ns.length,fun i=>s.ns.length - i,0,Nat.zero_le _,?_,?_⟩
 ·exact zf [(0,some 0),(1,some 1),(2,some 2)]
 intro i hi;have hi:i<=s.ns.length:=hi;intro hl0;refine Br.mk (fun g=>?_) (fun g=>?_)
 ·have g:(i:Int) < s.ns.length:=g;refine Ob.o ?_;intro n hx;have hx:s.ns[i]? =some n:=hx;refine zb.t (zAd n (h n (List.mem_of_getElem? hx))) ?_;refine ⟨Nd,ndE,[n],rfl,Ob.o7 ?_⟩;have hlen:(s.ns.take i).length<=1000:=by rw [List.length_take];omega
  refine ⟨[n],rfl,Ob.mk ⟨by show (((s.ns.take i).length:Int)+1)*_<=_;dsimp only;omega,by show (s.ns.take i).length+1<=_;omega,dC,fun x hx=>by rw [List.mem_singleton.1 hx];rfl⟩ ?_⟩;refine Ar.o ?_;exact ⟨i+1,by show i+1<=_;omega,zY [(0,some 0),(1,some 1),(2,some 4)] ⟨congrArg (fun q=>some (qQ q)) (by rw [List.take_add_one,hx];rfl),rfl,rfl,trivial⟩,by dsimp only;omega⟩
 ·have g:¬(i:Int) < s.ns.length:=g;exact ⟨some 2,znR (.cons (yc rfl) (.cons (yc rfl) (.cons (yc rfl) (.cons (yc rfl) (.cons (yc rfl) (.cons (yc rfl) (.cons (.own 2 rfl) .nil))))))),congrArg (fun q=>some (qQ q)) (List.take_of_length_le oM),fun _ _=>rfl⟩
end Go.Gs
