/- Part Chw. -/
import Derived.Test.YtdapjaalaomghaaGreatDoorTab
import Derived.Test.YtdapjaalaomghaaGreatDoorW18
import Derived.Test.YtdapjaalaomghaaGreatDoorBytes
import Derived.Test.YtdapjaalaomghaaGreatDoorTape
import Derived.Test.YtdapjaalaomghaaGreatDoorW12
import Derived.Test.YtdapjaalaomghaaGreatDoorPik
import Derived.Test.YtdapjaalaomghaaGreatDoorLchks
import Derived.Test.YtdapjaalaomghaaGreatDoorW14
import Derived.Test.YtdapjaalaomghaaGreatDoorVst
open Go.Value renaming int→R,slice→Y,pointer→a7,agg→ba
open Go.IntKind renaming i64→O,u32→Z,u8→ae
open Go.Obj renaming cells→S
open Go.Proofs.Tryz renaming underlying26→aq,prog→bc
open List renaming length→J,getD_eq_getElem?_getD→am,length_append→aU,append_nil→a4,length_take→a5,getElem?_eq_getElem→a8,take_of_length_le→be,replicate→bk,length_cons→bl,drop_of_length_le→bt,length_nil→bw,length_singleton→bx,getElem?_append_right→bA,length_drop→bG,not_mem_nil→bR,mem_cons→bS,nil_append→b8,take_zero→cd,getElem?_drop→cf,drop_zero→co,flatMap_append→cr,append_assoc→cv,getElem?_map→cx,flatMap_cons→cA,flatMap_nil→cB,length_set→cL
open Nat renaming le_refl→ab,div_eq_of_lt→bC,min_eq_left→b9,sub_self→cc,sub_zero→ck,zero_mul→cn,lt_of_lt_of_le→ct,add_zero→cy
open Int renaming toNat_natCast→ch
open Option renaming some→aa,none→ao
open Array renaming getElem?_push→a6,getElem?_setIfInBounds→a9,size_setIfInBounds→cj,size_push→cF
open Go renaming Value→aw,World→bo
namespace Go.Proofs.YtdapjaalaomghaaGreatDoor
open Go Go.V
set_option linter.all false
set_option maxRecDepth 100000
abbrev NT(h:Hp)(v:aw)(l:List Nat):Prop:=Ts (fun x=>[nv x]) 1 h v l
theorem JY(T:bo)(h:Hp)(x n:Nat)(hx:x<4294967296)(hn:n<=32):
  Zd bc T 96 #[R Z x,R O n] h fun v' h'=>v'=R Z (rr x n:Nat)/\h'=h:=by
 refine Zd.XT [_,_] Tryz.func96 ?_;have e1:=HP x (32-n) nT;have e2:=Vc x n hn;have e3:(32:Int)-n=((32-n:Nat):Int):=nT;have e4:=Ob (x/2 ^ n) (x*2 ^ (32-n)%4294967296) (Nat.lt_of_le_of_lt (Nat.div_le_self _ _) hx) nT;have e5:¬(n:Int)<0:=nT;have e6:¬((32-n:Nat):Int)<0:=nT;have e7:=mb hx (show 32-n<=32 by omega);rw[show 32-(32-n)=n by omega,Nat.or_comm]at e7;rw[e7]at e4;unfold rr;simp +contextual -implicitDefEqProofs only[go_sem];refine VS.q mixed uj ?_;simp +contextual -implicitDefEqProofs only[go_sem,e3,e1,e2,e4,e5,e6]
theorem Zc9{a b c d:Nat}(ha:a<256)(hb:b<256)(hc:c<256)(hd:d<256):
  YN .or Z (YN .or Z (YN .or Z (Xo Z a 24) (Xo Z b 16)) (Xo Z c 8)) d=((a*16777216+b*65536+c*256+d:Nat):Int):=by
 have sb:∀{x k:Nat},x<256->k<=24->Xo Z (x:Int) (k:Int)=((x*2 ^ k:Nat):Int):=by
  intro x k hx hk;rw[HP x k nT,Nat.mod_eq_of_lt];have:2 ^ k<=2 ^ 24:=Nat.pow_le_pow_right nT hk;have h2:x*2 ^ k<=255*2 ^ 24:=Nat.mul_le_mul nT this;omega
 have e1:Xo Z (a:Int) 24=((a*16777216:Nat):Int):=sb (k:=24) ha nT;have e2:Xo Z (b:Int) 16=((b*65536:Nat):Int):=sb (k:=16) hb nT;have e3:Xo Z (c:Int) 8=((c*256:Nat):Int):=sb (k:=8) hc nT;have f1:a*16777216 ||| b*65536=a*16777216+b*65536:=Uo (k:=24) nT nT
 have f2:(a*16777216+b*65536) ||| c*256=a*16777216+b*65536+c*256:=Uo (k:=16) nT nT
 rw[e1,e2,e3,Ob _ _ nT nT,f1,Ob _ _ nT nT,f2,Ob _ _ nT nT,Uo (k:=8) nT nT]
theorem Mq(xs zs:List Nat)(i:Nat)(hi:i<(J xs))(hz:(J xs)=(J zs)):(xs.take i++zs.drop i).set i (xs.getD i 0)=xs.take (i+1)++zs.drop (i+1):=by
 rw[am,a8 hi];exact Kl xs zs i hi hz
def LD(b:List Nat)(i:Nat):List Nat:=UA b i++bk (64-i) 0
theorem Vq{b:List Nat}{i:Nat}(hi:i<=64):(LD b i).length=64:=by simp[LD,Qi];omega
theorem qD{b:List Nat}{i j:Nat}(hj:j<i):(LD b i).getD j 0=(UA b i).getD j 0:=by
 rw[LD,am,List.getElem?_append_left (by rw[Qi];exact hj),<-am]
theorem yK{b:List Nat}{i:Nat}(hi:i<64):(LD b i).set i (Bi b (UA b i))=LD b (i+1):=by
 rw[LD,List.set_append_right _ _ (by rw[Qi];exact ab _),Qi,cc,show 64-i=(64-(i+1))+1 by omega,List.replicate_succ,List.set_cons_zero,LD,UA,cv];rfl
theorem qE(b:List Nat):LD b 64=UA b 64:=by simp[LD]
theorem DP{b:List Nat}(hb:Ns b){i j:Nat}:(UA b i).getD j 0<4294967296:=(GS hb i).getD j
theorem bO(T:bo)(h:Hp)(bd:Nat)(d:List Nat)(v:aw)(b:List Nat)(hd:(J d)=8)(wd:OZ d)(sb:Bs h v b)(hb:(J b)=64)(tk:Aw 0 wv kN h)(hx:h[bd]? = aa (S (d.map wv++[]).toArray 164))(hg:0≠bd):
  Zd bc T 75 #[a7 (aa ⟨bd,0,ao⟩),v] h fun v' h'=>RM (aa bd) h h'/\h'[bd]? = aa (S ((aI d b).map wv++[]).toArray 164):=by
 obtain⟨p,c,rfl,WE⟩:=sb.VJ;obtain⟨bb,ob,rfl,T5,XI⟩:=WE (by intro e;subst e;simp at hb);have mD:Ns b:=sb.byte;refine Zd.XT [_,_] Tryz.func75 ?_;rw[hb];have iJ:=Za hx;have b0:Zj h.size h (h.push (S (Qg 64 [Value.int Z 0]).toArray 185)):=Zj.push (ab _) _;have x0:∀A:Array aw,A=((LD b 0).map wv).toArray->(h.push (S A 185))[h.size]? = aa (S ((LD b 0).map wv++[]).toArray 185):=by
  rintro _ rfl;rw[a4];exact Zc
 simp -implicitDefEqProofs only[go_sem];refine VS.Yk (fun F g=>Zj h.size h g/\F 0=a7 (aa ⟨bd,0,ao⟩)/\F 1=Y (aa ⟨bb,ob,ao⟩) 64 c/\F 4=a7 (aa ⟨h.size,0,ao⟩)/\∃i:Nat,i<=64/\F 16=R O i/\g[h.size]? = aa (S ((LD b i).map wv++[]).toArray 185))
  (fun F _=>64-(vi (F 16)).toNat) rfl ⟨b0,rfl,rfl,rfl,0,nT,rfl,by exact x0 _ (by rfl)⟩ ?_
 clear b0 x0;rintro F g ⟨mE,f0,f1,f4,i,hi,f16,hw⟩;have hws:=Za hw;by_cases ZS:i<64
 .have Z7:(i:Int)<64:=nT;have fin:∀X:Nat,X=Bi b (UA b i)->QQ g ⟨h.size,i,ao⟩ (R Z (X:Nat))=aa (g.setIfInBounds h.size (S ((LD b (i+1)).map wv++[]).toArray 185)):=by
   intro X hX;have:=Yv (f:=wv) hw (i:=i) (by rw[Vq hi];exact ZS) X rfl;rw[hX,yK ZS]at this;rw[hX];exact this
  by_cases h16:i<16
  .have Zhg:(i:Int)<16:=nT;have g0:∀j,j<64->hc g ⟨bb,ob+j,ao⟩=aa (R ae (b.getD j 0:Nat)):=fun j hj=>by rw[mE.hc (by exact T5)];exact XI j nT
   have e0:=g0 (4*i) nT;have e1:=g0 (4*i+1) nT;have e2:=g0 (4*i+2) nT;have e3:=g0 (4*i+3) nT;have y0:=Z3 mD (4*i);have y1:=Z3 mD (4*i+1);have y2:=Z3 mD (4*i+2);have y3:=Z3 mD (4*i+3);have t0:(4*(i:Int)).toNat=4*i:=nT;have t1:(4*(i:Int)+1).toNat=4*i+1:=nT;have t2:(4*(i:Int)+2).toNat=4*i+2:=nT;have t3:(4*(i:Int)+3).toNat=4*i+3:=nT;have eo:=fun (_:Unit)=>Zc9 y0 y1 y2 y3;rw[show b.getD (4*i) 0*16777216+b.getD (4*i+1) 0*65536+b.getD (4*i+2) 0*256+b.getD (4*i+3) 0=XD b (4*i) from rfl]at eo;have m0:((b.getD (4*i) 0:Nat):Int)%4294967296=(b.getD (4*i) 0:Nat):=nT;have m1:((b.getD (4*i+1) 0:Nat):Int)%4294967296=(b.getD (4*i+1) 0:Nat):=nT;have m2:((b.getD (4*i+2) 0:Nat):Int)%4294967296=(b.getD (4*i+2) 0:Nat):=nT;have m3:((b.getD (4*i+3) 0:Nat):Int)%4294967296=(b.getD (4*i+3) 0:Nat):=nT;have cs:=fin (XD b (4*i)) (by unfold Bi;rw[Qi,if_pos h16]);simp -implicitDefEqProofs only[go_sem,f0,f1,f4,f16,Z7,Zhg];refine VS.w (g.size) [35] (.q 0 (.q 1 (.q 2 (.q 3 (.q 4 (.q 5 (.q 6 (.q 7 (.q 8 (.q 9 (.q 10 (.q 11 (.q 12 (.q 13 (.q 14 (.q 15 (.q 16 (.q 17 (.q 18 (.q 19 (.q 20 (.q 21 (.q 22 (.q 23 (.q 24 (.q 25 (.q 26 (.q 27 (.q 28 (.q 29 (.q 30 (.q 31 (.q 32 (.q 33 (.q 34 (.w 35 .nil)))))))))))))))))))))))))))))))))))) mixed uj ?_;have Zt2:bb<g.size:=ct T5 mE.size;simp -implicitDefEqProofs only[go_sem,f0,f1,f4,f16,e0,e1,e2,e3,t0,t1,t2,t3,m0,m1,m2,m3,eo (),Zt2,cs];refine⟨⟨mE.Zs (ab _) _,f0,f1,f4,i+1,ZS,rfl,Yc hw⟩,?_⟩;simp only[vi,Zq,↓reduceIte,f16];omega
  .have Zhg:¬(i:Int)<16:=nT;have q1:=Z6 hw (i:=i-15) (by rw[Vq hi];omega);have q2:=Z6 hw (i:=i-2) (by rw[Vq hi];omega);have q3:=Z6 hw (i:=i-16) (by rw[Vq hi];omega);have q4:=Z6 hw (i:=i-7) (by rw[Vq hi];omega);rw[qD nT]at q1 q2 q3 q4;have eX:Bi b (UA b i)=((UA b i).getD (i-16) 0+sg0 ((UA b i).getD (i-15) 0)+(UA b i).getD (i-7) 0+sg1 ((UA b i).getD (i-2) 0))%4294967296:=by
    unfold Bi;rw[Qi,if_neg h16]
   have cs:=fin (Bi b (UA b i)) rfl;have hA:(UA b i).getD (i-15) 0<4294967296:=DP mD;have hC:(UA b i).getD (i-2) 0<4294967296:=DP mD;rw[eX]at cs;generalize (UA b i).getD (i-15) 0=A at *;generalize (UA b i).getD (i-2) 0=C at *;generalize (UA b i).getD (i-16) 0=E1 at *;generalize (UA b i).getD (i-7) 0=E2 at *;unfold wv at q1 q2 q3 q4;have t1:((i:Int)-15).toNat=i-15:=nT;have t2:((i:Int)-2).toNat=i-2:=nT;have t3:((i:Int)-16).toNat=i-16:=nT;have t4:((i:Int)-7).toNat=i-7:=nT;have s1:Unit->XA Z (A:Int) 3=((A/8:Nat):Int):=fun _=>Vc A 3 Iw;have s2:Unit->XA Z (C:Int) 10=((C/1024:Nat):Int):=fun _=>Vc C 10 Iw;have o1:=fun (_:Unit)=>Ue (rr A 7) (rr A 18) (WF hA) (WF hA);have o2:Unit->YN .xor Z ((rr A 7 ^^^ rr A 18:Nat):Int) ((A/8:Nat):Int)=((sg0 A:Nat):Int):=fun _=>Ue _ _ (Tw (WF hA) (WF hA)) (aF hA);have o3:=fun (_:Unit)=>Ue (rr C 17) (rr C 19) (WF hC) (WF hC);have o4:Unit->YN .xor Z ((rr C 17 ^^^ rr C 19:Nat):Int) ((C/1024:Nat):Int)=((sg1 C:Nat):Int):=fun _=>Ue _ _ (Tw (WF hC) (WF hC)) (aF hC);generalize sg0 A=S0 at *;generalize sg1 C=S1 at *;have e5:((((E1:Int)+(E2:Int))%4294967296+(S0:Int))%4294967296+(S1:Int))%4294967296=(((E1+S0+E2+S1)%4294967296:Nat):Int):=by clear cs fin;omega
   simp -implicitDefEqProofs only[go_sem,f0,f1,f4,f16,Z7,Zhg];refine VS.q mixed uj ?_;simp -implicitDefEqProofs only[go_sem,f0,f1,f4,f16,q1,q2,t1,t2];refine VS.w (h.size+1) [29] (.q 0 (.q 1 (.q 2 (.q 3 (.q 4 (.q 5 (.q 6 (.q 7 (.q 8 (.q 9 (.q 10 (.q 11 (.q 12 (.q 13 (.q 14 (.q 15 (.q 16 (.q 17 (.q 18 (.q 19 (.q 20 (.q 21 (.q 22 (.q 23 (.q 24 (.q 25 (.q 26 (.q 27 (.q 28 (.w 29 .nil)))))))))))))))))))))))))))))) mixed uj ?_;simp -implicitDefEqProofs only[go_sem,f0,f1,f4,f16,q3,q4,t3,t4,e5];refine UW (fun h=>JY T h A 7 hA nT) ?_;simp -implicitDefEqProofs only[go_sem,f0,f1,f4,f16,o1 (),o2 (),o3 (),o4 (),s1 (),s2 (),e5];refine UW (fun h=>JY T h A 18 hA nT) ?_;simp -implicitDefEqProofs only[go_sem,f0,f1,f4,f16,o1 (),o2 (),o3 (),o4 (),s1 (),s2 (),e5];refine UW (fun h=>JY T h C 17 hC nT) ?_;simp -implicitDefEqProofs only[go_sem,f0,f1,f4,f16,o1 (),o2 (),o3 (),o4 (),s1 (),s2 (),e5];refine UW (fun h=>JY T h C 19 hC nT) ?_;simp -implicitDefEqProofs only[go_sem,f0,f1,f4,f16,o1 (),o2 (),o3 (),o4 (),s1 (),s2 (),e5,cs];refine⟨⟨mE.Zs (ab _) _,f0,f1,f4,i+1,ZS,rfl,Yc hw⟩,?_⟩;simp only[vi,Zq,↓reduceIte,f16];omega
 .have Xv:¬(i:Int)<64:=nT;obtain rfl:i=64:=nT;rw[qE]at hw;have ut:=mE.get iJ hx;have r0:rd g ⟨bd,0,ao⟩ 8=aa (d.map wv):=by rw[a4]at ut;exact Zz ut (by simp[hd])
  have l8:(d.map wv).length=8:=by simp[hd]
  have Zhh:(d.map wv).all YD=true:=by simp[wv,YD]
  obtain⟨DV,hDV⟩:=ZN (d.map wv);rw[<-hDV]at r0 l8 Zhh;have lp:Y8 [Value.int Z 0,Value.int Z 0,Value.int Z 0,Value.int Z 0,Value.int Z 0,Value.int Z 0,Value.int Z 0,Value.int Z 0] 0 DV=DV:=Z4 l8;simp -implicitDefEqProofs only[go_sem,f0,f1,f4,f16,Xv,r0,l8,Zhh,lp];rw[hDV];have Oo:=mE.size;have hB:Zj h.size h (g.push (S (d.map wv).toArray 164)):=mE.add _;have SA:Zj g.size g (g.push (S (d.map wv).toArray 164)):=Zj.push (ab _) _;have hv0:(g.push (S (d.map wv).toArray 164))[g.size]? = aa (S ((UB b d 0).map wv++[]).toArray 164):=by
   rw[a4];exact Zc
  refine VS.Yk (fun F' g'=>Zj g.size g g'/\F' 0=a7 (aa ⟨bd,0,ao⟩)/\F' 4=a7 (aa ⟨h.size,0,ao⟩)/\F' 8=a7 (aa ⟨g.size,0,ao⟩)/\∃i:Nat,i<=64/\F' 97=R O i/\g'[g.size]? = aa (S ((UB b d i).map wv++[]).toArray 164))
   (fun F _=>64-(vi (F 97)).toNat) rfl ⟨SA,f0,f4,rfl,0,nT,rfl,hv0⟩ ?_
  clear f0 f1 f4 f16 Xv hi ZS hv0 hB SA r0 l8 Zhh lp hDV DV F;rintro F g2 ⟨WB,f0,f4,f8,i,hi,f97,hv⟩;have bP:=Za hv;obtain⟨v8,w8⟩:=Ok (b:=b) hd wd i;obtain⟨a,b',c',d',e,f,g',k',EB⟩:=eight v8;by_cases ZS:i<64
  .have Z7:(i:Int)<64:=nT;have Zda:UB b d (i+1)=[(upw e f g' k' (kN.getD i 0) ((UA b 64).getD i 0)+bg0 a+pP a b' c')%4294967296,a,b',c',(d'+upw e f g' k' (kN.getD i 0) ((UA b 64).getD i 0))%4294967296,e,f,g']:=by
    rw[show UB b d (i+1)=xz (UB b d i) (kN.getD i 0) ((UA b 64).getD i 0) from rfl,EB];rfl
   have hK:kN.getD i 0<4294967296:=ZgJ.getD i;have hW:(UA b 64).getD i 0<4294967296:=(GS mD 64).getD i;have k1:V.hc g2 ⟨0,i,ao⟩=aa (R Z (kN.getD i 0:Nat)):=by
    rw[WB.hc (by have:=tk.1;show (0:Nat)<g.size;omega),mE.hc (by exact tk.1)];exact tk.2 i ZS
   have w1:V.hc g2 ⟨h.size,i,ao⟩=aa (R Z ((UA b 64).getD i 0:Nat)):=by
    rw[WB.hc (by exact hws)];exact Z6 hw (by rw[Qi];exact ZS)
   rw[EB]at hv w8;have n0:V.hc g2 ⟨g.size,0,ao⟩=aa (R Z (a:Nat)):=Z6 hv (i:=0) uK;have n1:V.hc g2 ⟨g.size,1,ao⟩=aa (R Z (b':Nat)):=Z6 hv (i:=1) uK;have n2:V.hc g2 ⟨g.size,2,ao⟩=aa (R Z (c':Nat)):=Z6 hv (i:=2) uK;have n3:V.hc g2 ⟨g.size,3,ao⟩=aa (R Z (d':Nat)):=Z6 hv (i:=3) uK;have n4:V.hc g2 ⟨g.size,4,ao⟩=aa (R Z (e:Nat)):=Z6 hv (i:=4) uK;have n5:V.hc g2 ⟨g.size,5,ao⟩=aa (R Z (f:Nat)):=Z6 hv (i:=5) uK;have n6:V.hc g2 ⟨g.size,6,ao⟩=aa (R Z (g':Nat)):=Z6 hv (i:=6) uK;have n7:V.hc g2 ⟨g.size,7,ao⟩=aa (R Z (k':Nat)):=Z6 hv (i:=7) uK;have ha:a<4294967296:=w8 a uK;have J9:b'<4294967296:=w8 b' uK;have hc':c'<4294967296:=w8 c' uK;have hd':d'<4294967296:=w8 d' uK;have he:e<4294967296:=w8 e uK;have hf:f<4294967296:=w8 f uK;have Eu:g'<4294967296:=w8 g' uK;have NE:k'<4294967296:=w8 k' uK;generalize kN.getD i 0=K at *;generalize (UA b 64).getD i 0=W at *;have o1:=fun (_:Unit)=>Ue (rr e 6) (rr e 11) (WF he) (WF he);have o2:Unit->YN .xor Z ((rr e 6 ^^^ rr e 11:Nat):Int) ((rr e 25:Nat):Int)=((xw e:Nat):Int):=fun _=>Ue _ _ (Tw (WF he) (WF he)) (WF he);have o3:=fun (_:Unit)=>Ue (rr a 2) (rr a 13) (WF ha) (WF ha);have o4:Unit->YN .xor Z ((rr a 2 ^^^ rr a 13:Nat):Int) ((rr a 22:Nat):Int)=((bg0 a:Nat):Int):=fun _=>Ue _ _ (Tw (WF ha) (WF ha)) (WF ha);have c0:Unit->(if IntKind.u32.signed=true then (-1:Int) else IntKind.u32.max)=4294967295:=fun _=>rfl;have c1:=fun (_:Unit)=>MZ e f he hf;have c2:=fun (_:Unit)=>ZcL he;have c3:=fun (_:Unit)=>MZ (4294967295-e) g' (aG e) Eu;have c4:=fun (_:Unit)=>ZgI (f:=f) he Eu;have m1:=fun (_:Unit)=>MZ a b' ha J9;have m2:=fun (_:Unit)=>MZ a c' ha hc';have m3:=fun (_:Unit)=>MZ b' c' J9 hc';have m4:=fun (_:Unit)=>Ue (a &&& b') (a &&& c') (Wk ha) (Wk ha);have m5:=fun (_:Unit)=>ZcM (c:=c') ha J9;have eU:upw e f g' k' K W=(k'+xw e+chw e f g'+K+W)%4294967296:=rfl;generalize upw e f g' k' K W=U at *;generalize xw e=S1 at *;generalize bg0 a=S0 at *;generalize chw e f g'=CH at *;generalize pP a b' c'=MJ at *;have e1:Unit->(((((k':Int)+(S1:Int))%4294967296+(CH:Int))%4294967296+(K:Int))%4294967296+(W:Int))%4294967296=(U:Int):=fun _=>by omega
   have e2:Unit->((S0:Int)+(MJ:Int))%4294967296=(((S0+MJ)%4294967296:Nat):Int):=fun _=>by omega
   have e3:Unit->((U:Int)+(((S0+MJ)%4294967296:Nat):Int))%4294967296=(((U+S0+MJ)%4294967296:Nat):Int):=fun _=>by omega
   have e4:Unit->((d':Int)+(U:Int))%4294967296=(((d'+U)%4294967296:Nat):Int):=fun _=>by omega
   simp -implicitDefEqProofs only[go_sem,f0,f4,f8,f97,Z7];refine VS.q mixed uj ?_;simp -implicitDefEqProofs only[go_sem,f0,f4,f8,f97,n0,n4];refine VS.q mixed uj ?_;simp -implicitDefEqProofs only[go_sem,f0,f4,f8,f97,n7,n4];refine WN (JY T _ e 6 he nT) ?_;simp -implicitDefEqProofs only[go_sem,f8];refine WN (JY T _ e 11 he nT) ?_;simp -implicitDefEqProofs only[go_sem,f8];refine WN (JY T _ e 25 he nT) ?_;simp -implicitDefEqProofs only[go_sem,f4,f8,f97,Z7,o1 (),o2 (),n5,n6,c0 (),c1 (),c2 (),c3 (),c4 (),k1,w1,e1 ()];refine VS.mono (N:=fun F' g'=>g2=g'/\F' 0=a7 (aa ⟨bd,0,ao⟩)/\F' 4=a7 (aa ⟨h.size,0,ao⟩)/\F' 8=a7 (aa ⟨g.size,0,ao⟩)/\F' 97=R O i/\F' 10=R Z (a:Nat)/\F' 11=R Z (e:Nat)/\F' 12=R Z (U:Nat)/\F' 13=R Z (((S0+MJ)%4294967296:Nat):Int)) ?_ ?_ (fun _ _ _ h=>h) (fun _ _ h=>h)
   .refine VS.q mixed uj ?_;simp -implicitDefEqProofs only[go_sem,f8];refine WN (JY T _ a 2 ha nT) ?_;simp -implicitDefEqProofs only[go_sem,f8];refine WN (JY T _ a 13 ha nT) ?_;simp -implicitDefEqProofs only[go_sem,f8];refine WN (JY T _ a 22 ha nT) ?_;simp -implicitDefEqProofs only[go_sem,f0,f4,f8,f97,o3 (),o4 (),n1,n2,m1 (),m2 (),m3 (),m4 (),m5 (),e2 ()]
   clear f0 f4 f8 f97 F;rintro F _ ⟨rfl,f0,f4,f8,f97,f10,f11,f12,f13⟩;have hvE:g2[g.size]? = aa (S [Value.int Z a,R Z b',R Z c',R Z d',R Z e,R Z f,R Z g',R Z k'].toArray 164):=hv;have y2:=Yd hvE 0;obtain⟨xU,hxU⟩:∃x:Int,x=(U:Int):=⟨_,rfl⟩
   obtain⟨xD,hxD⟩:∃x:Int,x=(((S0+MJ)%4294967296:Nat):Int):=⟨_,rfl⟩
   obtain⟨x0,O3⟩:∃x:Int,x=(((U+S0+MJ)%4294967296:Nat):Int):=⟨_,rfl⟩
   obtain⟨x4,fB⟩:∃x:Int,x=(((d'+U)%4294967296:Nat):Int):=⟨_,rfl⟩
   have E3:Unit->(xU+xD)%4294967296=x0:=fun _=>by rw[hxU,hxD,O3];exact e3 ()
   have E4:Unit->((d':Int)+xU)%4294967296=x4:=fun _=>by rw[hxU,fB];exact e4 ()
   rw[<-hxU]at f12;rw[<-hxD]at f13;simp -implicitDefEqProofs only[go_sem,f0,f4,f8,f97,f10,f11,f12,f13,n1,n2,n3,n5,n6,E3 (),E4 (),y2];refine⟨⟨WB.Zs (ab _) _,f0,f4,f8,i+1,ZS,rfl,?_⟩,?_⟩
   .rw[Zda,O3,fB];exact Yc hv
   .simp only[vi,Zq,↓reduceIte,f97];omega
  .have Xv:¬(i:Int)<64:=nT;obtain rfl:i=64:=nT;have r0:rd g2 ⟨g.size,0,ao⟩ 8=aa ((UB b d 64).map wv):=by rw[a4]at hv;exact Zz hv (by simp[v8])
   have hB:RM (aa bd) h g2:=by
    have q1:=mE.trans (WB.mono mE.size);exact⟨q1.size,fun k hk _=>q1.block k hk⟩
   have ut:g2[bd]? = aa (S (((PQ d (UB b d 64)).take 0++d.drop 0).map wv++[]).toArray 164):=by
    rw[cd,co,b8];exact (mE.trans (WB.mono mE.size)).get iJ hx
   have hal:=Ol hd v8;simp -implicitDefEqProofs only[go_sem,f0,f8,f97,Xv,r0];refine VS.Yk (fun F' g'=>RM (aa bd) h g'/\F' 0=a7 (aa ⟨bd,0,ao⟩)/\F' 177=ba ((UB b d 64).map wv).toArray/\∃i:Nat,i<=8/\F' 178=R O i/\g'[bd]? = aa (S (((PQ d (UB b d 64)).take i++d.drop i).map wv++[]).toArray 164))
    (fun F _=>8-(vi (F 178)).toNat) rfl ⟨hB,f0,rfl,0,nT,rfl,ut⟩ ?_
   clear f0 f4 f8 f97 Xv hi ZS hv ut hB r0 F;rintro F g3 ⟨hB,f0,Zhj,i,hi,Zdb,ut⟩;have Zt6:=Za ut;have fF:((PQ d (UB b d 64)).take i++d.drop i).length=8:=by rw[Se _ _ _ nT nT,hal]
   by_cases ZS:i<8
   .have Z7:(i:Int)<8:=nT;have n1:nth ((UB b d 64).map wv) i=aa (R Z ((UB b d 64).getD i 0:Nat)):=by
     rw[YW,cx,am,a8 nT];rfl
    have q1:=Z6 ut (i:=i) nT;have e0:((PQ d (UB b d 64)).take i++d.drop i).getD i 0=d.getD i 0:=by
     rw[am,bA aac,a5,b9 nT,cc,cf,cy,<-am]
    rw[e0]at q1;unfold wv at q1;have eX:=pQ hd v8 ZS;have cs:=Yv (f:=wv) ut (i:=i) nT ((PQ d (UB b d 64)).getD i 0) rfl;rw[Mq _ _ i nT nT]at cs;have uS:QQ g3 ⟨bd,i,ao⟩ (R Z (((PQ d (UB b d 64)).getD i 0:Nat):Int))=_:=cs;rw[eX]at uS;generalize d.getD i 0=D at *;generalize (UB b d 64).getD i 0=V at *;have e1:((D:Int)+(V:Int))%4294967296=(((D+V)%4294967296:Nat):Int):=nT;simp -implicitDefEqProofs only[go_sem,Zhj,Zdb,Z7,n1];refine VS.w (g3.size) [9] (.q 0 (.q 1 (.q 2 (.q 3 (.q 4 (.q 5 (.q 6 (.q 7 (.q 8 (.w 9 .nil)))))))))) mixed uj ?_;simp -implicitDefEqProofs only[go_sem,f0,Zhj,Zdb,q1,e1,Zt6,uS,Z7];refine⟨⟨?_,f0,Zhj,i+1,ZS,rfl,Yc ut⟩,?_⟩
    .exact⟨by rw[cj];exact hB.size,fun k hk Y4=>by rw[a9,if_neg (by intro e;exact Y4 (by rw[e])),hB.block k hk Y4]⟩
    .simp only[vi,Zq,↓reduceIte,Zdb];omega
   .have Xv:¬(i:Int)<8:=nT;obtain rfl:i=8:=nT;have e9:(PQ d (UB b d 64)).take 8++d.drop 8=aI d b:=by
     rw[be nT,bt nT,a4];rfl
    rw[e9]at ut;simp -implicitDefEqProofs only[go_sem,Zdb,Xv];exact⟨hB,ut⟩
def jj:aw->Nat
 | Y _ n _=>n
 | _=>0
def EZ(n:Nat):List Nat:=0 :: 0 :: 0 :: 0 :: Xj (8*n)
theorem IK(n:Nat):(EZ n).length=8:=rfl
theorem qF(n:Nat):Ns (EZ n):=by
 intro x hx;simp only[EZ,bS]at hx;rcases hx with rfl|rfl|rfl|rfl|hx
 .omega
 .omega
 .omega
 .omega
 .exact UL _ x hx
theorem Zdc{n k:Nat}(hn:n<=100000)(hk:k<8):XA O ((8*n:Nat):Int) ((56-8*k:Nat):Int)%256=(((EZ n).getD k 0:Nat):Int):=by
 rw[Uf _ _ nT];rcases k with _|_|_|_|_|_|_|_|k
 .show ((8*n/2 ^ 56:Nat):Int)%256=((0:Nat):Int)
  rw[bC nT];rfl
 .show ((8*n/2 ^ 48:Nat):Int)%256=((0:Nat):Int)
  rw[bC nT];rfl
 .show ((8*n/2 ^ 40:Nat):Int)%256=((0:Nat):Int)
  rw[bC nT];rfl
 .show ((8*n/2 ^ 32:Nat):Int)%256=((0:Nat):Int)
  rw[bC nT];rfl
 .rfl
 .rfl
 .rfl
 .show ((8*n/2 ^ 0:Nat):Int)%256=((8*n%256:Nat):Int)
  rw[Nat.pow_zero,Nat.div_one];rfl
 .omega
theorem Zdd{x bp op m c:Nat}{h h':Hp}{l:List Nat}(s:Bs h (Y (aa ⟨bp,op,ao⟩) m c) l)(a:RM (aa x) h h')(Y4:bp≠x):Bs h' (Y (aa ⟨bp,op,ao⟩) m c) l:=by
 obtain⟨⟨p,cap,hv,hl,hc⟩,hb⟩:=s;simp only[Value.slice.injEq]at hv;obtain⟨rfl,hm,rfl⟩:=hv;refine⟨⟨_,_,by rw[hm],hl,fun hn=>?_⟩,hb⟩;obtain⟨b,o,hp,XI⟩:=hc hn;simp only[Option.some.injEq,Addr.mk.injEq,and_true]at hp;obtain⟨rfl,rfl⟩:=hp;refine⟨_,_,rfl,fun i hi=>?_⟩;have h1:=XI i hi;have h2:=Vj h1;unfold V.hc at h1 ⊢;rw[a.block _ h2 (by intro e;exact Y4 (Option.some.inj e).symm)];exact h1
theorem RY{bp op m c:Nat}{h:Hp}{l:List Nat}(s:Bs h (Y (aa ⟨bp,op,ao⟩) m c) l){k:Nat}(hk:k<=(J l))(hm:(J l)=m)(c':Nat):Bs h (Y (aa ⟨bp,op+k,ao⟩) (m-k) c') (l.drop k):=by
 subst hm;refine⟨?_,fun x hx=>s.byte x (List.mem_of_mem_drop hx)⟩;obtain⟨p',cap,hv,hl,hc⟩:=s.sl;simp only[Value.slice.injEq]at hv;obtain⟨rfl,_,rfl⟩:=hv;refine⟨_,c',by rw[bG],uK,fun Y4=>?_⟩;have ZS:k<(J l):=by
  rw[<-List.length_pos_iff]at Y4;simp at Y4;omega
 obtain⟨b,o,hp,XI⟩:=hc (by intro e;simp at e;subst e;simp at ZS);simp only[Option.some.injEq,Addr.mk.injEq,and_true]at hp;obtain⟨rfl,rfl⟩:=hp;refine⟨_,_,rfl,fun i hi=>?_⟩;have HN:i<(J l)-k:=by simpa using hi
 rw[show op+k+i=op+(k+i) by omega,XI (k+i) Ig];simp
abbrev Tk(h:Hp):Prop:=Aw 0 wv kN h
theorem BG(T:bo)(h:Hp)(v:aw)(l:List Nat)(s:Bs h v l)(hl:(J l)<=100000)(tk:Tk h):
  Zd bc T 56 #[v] h fun v' h'=>Yx h.size 5 h' v' (TX l)/\Zj h.size h h':=by
 obtain⟨p,cp,rfl,WE⟩:=s.open;have mD:Ns l:=s.byte;refine Zd.XT [_] Tryz.func56 ?_;simp -implicitDefEqProofs only[go_sem];obtain⟨h1,Xm⟩:=ZN (h.push (S (xH.map wv).toArray 164):Hp);have hs1:h1.size=h.size+1:=by rw[Xm];simp
 have b1:Zj h.size h h1:=by rw[Xm];exact Zj.push (ab _) _
 have x1:h1[h.size]? = aa (S (xH.map wv++[]).toArray 164):=by rw[Xm,a4];exact Zc
 change PY bc T .append _ _ _ _ _ (h.push (S (xH.map wv).toArray 164));rw[<-Xm];clear Xm;refine ZJ (E:=5) (B:=h.size+1) Xd aq Tv Si Sh (Yx.EH _ _ _ _) nT (s.Yz b1) Ig ?_;intro w h2 o2 b2 _;rw[b8]at o2;simp -implicitDefEqProofs only[go_sem];refine ZJ (E:=5) (B:=h.size+1) Xd aq Tv Si Sh (o2.push _) (by have:=b2.size;simp;omega) (Bs.one (x:=128) nT 1) Ig ?_;intro w3 h3 o3 b3 _;have B3:Zj (h.size+1) h1 h3:=(b2.YU (by have:=b2.size;omega) _).trans b3;have o3':Yx (h.size+1) 5 h3 w3 (Om l 0):=o3;clear o2 o3 b2 b3;simp -implicitDefEqProofs only[go_sem];refine VS.Yk (fun F g=>Zj (h.size+1) h1 g/\F 0=Y p (J l) cp/\F 3=a7 (aa ⟨h.size,0,ao⟩)/\∃j:Nat,j<=EO (J l)/\Yx (h.size+1) 5 g (F 4) (Om l j))
  (fun F _=>(J l)+100-jj (F 4)) rfl ⟨B3,rfl,rfl,0,nT,o3'⟩ ?_
 clear o3' B3;rintro F g ⟨hg,f0,f3,j,hj,ho⟩;obtain⟨p4,c4,f4,_⟩:=ho.open;have ml:=Lm l j;obtain⟨M,hM⟩:=ZN ((J l)+j+1);rw[ml,<-hM]at f4;have ZFJ:EO (J l)<64:=by unfold EO;omega
 have d1:(M:Int).tmod 64=((M%64:Nat):Int):=rfl;have Oo:=hg.size;by_cases hm:M%64=56
 case neg=>
  have HE:¬((M%64:Nat):Int)=56:=nT;have Y4:j≠EO (J l):=fun e=>hm (by rw[hM];exact (aK hj).2 e);simp -implicitDefEqProofs only[go_sem,f0,f3,f4,d1,HE];have uw:=ho;rw[f4]at uw;refine ZJ (E:=5) (B:=h.size+1) Xd aq Tv Si Sh (uw.push _) Ig (Bs.one (x:=0) nT 1) (by rw[ml];simp;omega) ?_;intro w' g' Me J9 _;obtain⟨p5,c5,rfl,_⟩:=Me.open;simp -implicitDefEqProofs only[go_sem,f0,f3];refine⟨⟨(hg.YU nT _).trans J9,f0,f3,j+1,nT,?_⟩,?_⟩
  .rw[ix];exact Me
  .simp only[jj,Zq,↓reduceIte,f4,aU,ml,bx];omega
 have hjn:j=EO (J l):=(aK hj).1 (by rw[<-hM];exact hm);have HE:((M%64:Nat):Int)=56:=nT;simp -implicitDefEqProofs only[go_sem,f0,f3,f4,d1,HE];refine VS.Yk (fun F g=>Zj (h.size+1) h1 g/\F 0=Y p (J l) cp/\F 3=a7 (aa ⟨h.size,0,ao⟩)/\∃k:Nat,k<=8/\F 5=R O (56-8*(k:Int))/\Yx (h.size+1) 5 g (F 4) (Om l j++(EZ (J l)).take k))
  (fun F _=>(vi (F 5)+8).toNat) rfl ⟨hg,f0,f3,0,nT,rfl,by rw[cd,a4];exact ho⟩ ?_
 clear f0 f3 f4 d1 hm HE ho hg Oo F g;rintro F g ⟨hg,f0,f3,k,hk,f5,ho⟩;have Oo:=hg.size;obtain⟨y,hy⟩:∃y:Int,y=56-8*(k:Int):=⟨_,rfl⟩
 rw[<-hy]at f5;by_cases ZS:k<8
 .have iR:0<=y:=nT;have Bw:¬y<0:=nT;obtain⟨X,hX⟩:=ZN ((EZ (J l)).getD k 0);have hXb:X<256:=by rw[hX];exact Z3 (qF _) k
  obtain⟨xL,hxL⟩:∃x:Int,x=((8*(J l):Nat):Int):=⟨_,rfl⟩
  have eL:Unit->8*((J l):Int)=xL:=fun _=>by rw[hxL];omega
  have xLb:0<=xL/\xL<=1000000:=by rw[hxL];omega
  have sh:Unit->XA O xL y%256=(X:Int):=fun _=>by
   rw[hxL,hy,show (56:Int)-8*(k:Int)=((56-8*k:Nat):Int) by omega,hX];exact Zdc hl ZS
  have ml2:(Om l j++(EZ (J l)).take k).length<=200000:=by rw[aU,ml,a5];omega
  have et:(EZ (J l)).take (k+1)=(EZ (J l)).take k++[X]:=by
   rw[Y1 _ k (by rw[IK];exact ZS),hX,am,a8 (by rw[IK];exact ZS)];rfl
  clear hX hxL;simp -implicitDefEqProofs only[go_sem,f0,f3,f5,iR,Bw,eL (),sh ()];refine ZJ (E:=5) (B:=h.size+1) Xd aq Tv Si Sh (ho.push _) Ig (Bs.one hXb 1) aah ?_;intro w' g' Me J9 _;simp -implicitDefEqProofs only[go_sem,f0,f3,f5];refine⟨⟨(hg.YU nT _).trans J9,f0,f3,k+1,ZS,?_,?_⟩,?_⟩
  .show Value.int O _=_
   congr 1;omega
  .rw[et,<-cv];exact Me
  .simp only[vi,Zq,↓reduceIte,f5];omega
 .have iR:¬0<=y:=nT;obtain rfl:k=8:=nT;have ep:Om l j++(EZ (J l)).take 8=Sj l:=by rw[hjn];rfl
  rw[ep]at ho;have pl:=Bj l;obtain⟨N,hN⟩:=ZN (pR (J l));have hN1:0<N:=by rw[hN];unfold pR;omega
  have hN2:N<=2000:=by rw[hN];unfold pR;omega
  rw[<-hN]at pl;have hgd:=hg.get nT x1;have bh:Zj h.size h g:=b1.trans (hg.mono nT);obtain⟨bp,cP,f4,hbp,hcP⟩:∃bp c,F 4=Y (aa ⟨bp,0,ao⟩) (64*N) c/\h.size+1<=bp/\64*N<=c:=by
   rcases ho.Zm with⟨_,hm,_⟩|⟨b,cap,sp,hB,hv,_,_,_,hc⟩
   .omega
   .rw[pl]at hv hc;exact⟨b,cap,hv,hB,hc⟩
  have sP:=ho.bs;rw[f4]at sP;simp -implicitDefEqProofs only[go_sem,f0,f3,f5,iR];refine VS.Yk (fun F g=>Zj h.size h g/\F 3=a7 (aa ⟨h.size,0,ao⟩)/\∃j op c:Nat,j<=N/\F 4=Y (aa ⟨bp,op,ao⟩) (64*(N-j)) c/\64*(N-j)<=c/\Bs g (Y (aa ⟨bp,op,ao⟩) (64*(N-j)) c) ((Sj l).drop (64*j))/\g[h.size]? = aa (S ((aJ (Sj l) j).map wv++[]).toArray 164))
   (fun F _=>jj (F 4)) rfl ⟨bh,f3,0,0,cP,nT,f4,hcP,by exact sP,hgd⟩ ?_
  clear f0 f3 f4 f5 hy iR ZS ho sP hgd bh hg Oo ep hcP F g;rintro F g ⟨hg,f3,j,op,c,hj,f4,hc,sP,hgd⟩;have Oo:=Za hgd;by_cases ZS:j<N
  .obtain⟨L,hL⟩:=ZN (64*(N-j));rw[<-hL]at f4 hc sP;have ZFK:64<=L:=nT;have uy:((Sj l).drop (64*j)).length=L:=by rw[bG,pl];omega
   have hL0:0<(L:Int):=nT;have Zma:(64:Int)<=(c:Int):=nT;have lJ:¬c=0:=nT;simp -implicitDefEqProofs only[go_sem,f3,f4,hL0,Zma,lJ,ck,cn];have sB:Bs g (Y (aa ⟨bp,op,ao⟩) 64 c) (((Sj l).drop (64*j)).take 64):=by
    rw[<-uy]at sP;exact Bs.Md sP nT c
   obtain⟨dl,dw⟩:=Ll (Sj l) j;refine (bO T g h.size (aJ (Sj l) j) _ (((Sj l).drop (64*j)).take 64) dl dw sB (by rw[a5,uy];omega) (tk.Qx hg) hgd (by have:=tk.1;omega)).use ?_;rintro _ g2 ⟨Mf,Mj⟩;have WB:Zj h.size h g2:=hg.trans (Mf.Yz nT (fun b e=>by have:=Option.some.inj e;omega));have sP2:=Zdd sP Mf nT;by_cases hce:c=64
   .have hLe:L=64:=nT;have Zt8:(c:Int)=64:=nT;have hLi:(L:Int)=64:=nT;subst hce hLe;simp -implicitDefEqProofs only[go_sem,f3,f4,Zt8,hLi];refine⟨⟨WB,f3,j+1,op,0,ZS,?_,nT,?_,Mj⟩,?_⟩
    .show Value.slice _ _ _=_;rw[show 64*(N-(j+1))=0 by omega]
    .rw[show 64*(N-(j+1))=0 by omega,bt (by rw[pl];omega)];exact (Yx.EH 0 5 _ _).bs
    .simp only[jj,Zq,↓reduceIte,f4];omega
   .have Zmb:(64:Int)<=(L:Int):=nT;simp -implicitDefEqProofs only[go_sem,f3,f4,Zma,Zmb,hce];refine⟨⟨WB,f3,j+1,op+64,c-64,ZS,?_,nT,?_,Mj⟩,?_⟩
    .show Value.slice _ _ _=_;rw[show L-64=64*(N-(j+1)) by omega]
    .have:=RY sP2 (k:=64) nT uy (c-64);rw[List.drop_drop,show L-64=64*(N-(j+1)) by omega,show 64*j+64=64*(j+1) by omega]at this;exact this
    .simp only[jj,Zq,↓reduceIte,f4];omega
  .obtain rfl:j=N:=nT;have eS:TX l=ZB (aJ (Sj l) j):=by rw[TX,<-hN]
   obtain⟨dl,dw⟩:=Ll (Sj l) j;obtain⟨D,hD⟩:=ZN (aJ (Sj l) j);rw[<-hD]at dl dw hgd eS;rw[eS];have r0:rd g ⟨h.size,0,ao⟩ 8=aa (D.map wv):=by rw[a4]at hgd;exact Zz hgd (by simp[dl])
   rw[cc,Nat.mul_zero]at f4;have hz:¬h.size=g.size:=nT;simp -implicitDefEqProofs only[go_sem,f3,f4,r0,hz];have hBo:Zj h.size h (g.push (S (Qg 32 [Value.int ae 0]).toArray 5)):=hg.add _;have oO:Yx h.size 5 (g.push (S (Qg 32 [Value.int ae 0]).toArray 5)) (Y (aa ⟨g.size,0,ao⟩) 0 32) (ZB (D.take 0)):=
    ⟨.inr ⟨g.size,32,Qg 32 [Value.int ae 0],hg.size,rfl,Zc,rfl,rfl,Nat.zero_le 32⟩,fun x hx=>by cases hx⟩
   refine VS.Yk (fun F g=>Zj h.size h g/\F 43=ba (D.map wv).toArray/\∃i:Nat,i<=8/\F 44=R O i/\Yx h.size 5 g (F 6) (ZB (D.take i)))
    (fun F _=>8-(vi (F 44)).toNat) rfl ⟨hBo,rfl,0,nT,rfl,oO⟩ ?_
   clear f3 f4 ZS hgd r0 hz hBo oO sP hc hg Oo g F;rintro F g ⟨hg,f43,i,hi,f44,ho⟩;have Oo:=hg.size;by_cases ZS:i<8
   .have Z7:(i:Int)<8:=nT;obtain⟨x,hx⟩:=ZN (D.getD i 0);have hxb:x<4294967296:=by rw[hx];exact dw.getD i
    have et:D.take (i+1)=D.take i++[x]:=by
     rw[Y1 _ i nT,hx,am,a8 nT];rfl
    obtain⟨yx,qG⟩:∃y:Int,y=(x:Int):=⟨_,rfl⟩
    obtain⟨z0,Au⟩:∃y:Int,y=((x/16777216%256:Nat):Int):=⟨_,rfl⟩
    obtain⟨z1,Bc⟩:∃y:Int,y=((x/65536%256:Nat):Int):=⟨_,rfl⟩
    obtain⟨z2,iS⟩:∃y:Int,y=((x/256%256:Nat):Int):=⟨_,rfl⟩
    obtain⟨z3,hz3⟩:∃y:Int,y=((x%256:Nat):Int):=⟨_,rfl⟩
    have n1:nth (D.map wv) i=aa (R Z yx):=by
     rw[YW,cx,qG,hx,am,a8 nT];rfl
    have e1:Unit->XA Z yx 24%256=z0:=fun _=>by rw[qG,Au,show (24:Int)=((24:Nat):Int) from rfl,Vc x 24 Iw];rfl
    have e2:Unit->XA Z yx 16%256=z1:=fun _=>by rw[qG,Bc,show (16:Int)=((16:Nat):Int) from rfl,Vc x 16 Iw];rfl
    have e3:Unit->XA Z yx 8%256=z2:=fun _=>by rw[qG,iS,show (8:Int)=((8:Nat):Int) from rfl,Vc x 8 Iw];rfl
    have e4:Unit->yx%256=z3:=fun _=>by rw[qG,hz3];rfl
    have JS:(ZB (D.take i)).length<=32:=by rw[ZK,a5];omega
    clear qG hx;simp -implicitDefEqProofs only[go_sem,f43,f44,Z7,n1,e1 (),e2 (),e3 (),e4 ()];subst Au Bc iS hz3;refine ZJ (E:=5) (B:=h.size) Xd aq Tv Si Sh (ho.push _) Ig (Bs.made (l:=Xj x) (UL x) 4) (by simp[Xj];omega) ?_;intro w' g' Me J9 _;simp -implicitDefEqProofs only[go_sem,f43,f44];refine⟨⟨(hg.add _).trans J9,f43,i+1,ZS,rfl,?_⟩,?_⟩
    .rw[et];unfold ZB at Me ⊢;rw[cr];simp only[cA,cB,a4];exact Me
    .simp only[vi,Zq,↓reduceIte,f44];omega
   .have Xv:¬(i:Int)<8:=nT;obtain rfl:i=8:=nT;rw[be nT]at ho;simp -implicitDefEqProofs only[go_sem,f43,f44,Xv];exact⟨ho,hg⟩
def RZ(n:Nat):Int:=if 2000<n then 1 else 0
def yL(B:Nat)(h':Hp)(v':aw)(l:List Nat):Prop:=∃w,v'=.tuple [w,R O (RZ (J l))].toArray/\Yx B 5 h' w (if RZ (J l)=0 then TX l else [])
theorem KB(T:bo)(h:Hp)(v:aw)(l:List Nat)(s:Bs h v l)(tk:Tk h):
  Zd bc T 39 #[v] h fun v' h'=>yL h.size h' v' l/\Zj h.size h h':=by
 obtain⟨p,cp,rfl,WE⟩:=s.open;refine Zd.XT [_] Tryz.func39 ?_;unfold yL RZ;by_cases hl:2000<(J l)
 .have fw:2000<((J l):Int):=nT;simp -implicitDefEqProofs only[go_sem,fw,hl];exact⟨_,rfl,Yx.nil _ _ _⟩
 .have fw:¬2000<((J l):Int):=nT;simp -implicitDefEqProofs only[go_sem,fw,hl];refine (BG T _ _ l s nT tk).use ?_;rintro w h1 ⟨o1,b1⟩;simp -implicitDefEqProofs only[go_sem,b1];exact⟨_,rfl,o1⟩
def LF(body:List Nat):List Nat:=(J body) :: body
def YR(body:List Nat):List Nat:=LF body++(TX (LF body)).take 4
theorem U1(body:List Nat):(LF body).length=(J body)+1:=rfl
theorem Vr(body:List Nat):(YR body).length=(J body)+5:=by
 rw[YR,aU,a5,Qj,U1];omega
def YX(l:List Nat)(n:Int):Prop:=(J l)<=100000/\0<=n/\n<=(J l)
instance (l:List Nat)(n:Int):Decidable (YX l n):=by unfold YX;infer_instance
def Qs(l:List Nat)(n:Int)(k:Nat):Int:=if ¬YX l n then 5 else if 100000<(J l)+(k+5) then 8 else 0
def R7(B:Nat)(h':Hp)(v':aw)(l:List Nat)(n:Int)(E:Int)(add:List Nat):Prop:=
 ∃w,v'=.tuple [ba [w,R O (if E=0 then n else 0)].toArray,R O E].toArray/\Yx B 5 h' w (if E=0 then l++add else [])
theorem RM.Zhm{h g:Hp}{b:Nat}{o:Obj}(a:RM (aa b) h g):RM (aa b) h (g.setIfInBounds b o):=
 ⟨by rw[cj];exact a.size,fun k hk Y4=>by rw[a9,if_neg (fun e=>Y4 (by rw[e])),a.block k hk Y4]⟩
theorem Rr(T:bo)(h:Hp)(v u:aw)(n:Int)(l body:List Nat)(s:Bs h v l)(hl:(J l)<=140737488355328)(sb:Bs h u body)(hb:(J body)<=255)(tk:Tk h):
  Zd bc T 126 #[ba [v,R O n].toArray,u] h fun v' h'=>R7 h.size h' v' l n (Qs l n (J body)) (YR body)/\Zj h.size h h':=by
 obtain⟨p,c,rfl,_⟩:=s.open;obtain⟨q,d,rfl,_⟩:=sb.open;refine Zd.XT [_,_] Tryz.func126 ?_;unfold R7;simp -implicitDefEqProofs only[go_sem];obtain⟨h0,Ql⟩:=ZN ((h.push (S [Y p (J l) c,R O n].toArray 99)).push (S [Y ao 0 0,R O 0].toArray 99):Hp);have b0:Zj h.size h h0:=by rw[Ql];exact ((Zj.refl _ _).add _).add _
 have s0:h0.size=h.size+1+1:=by rw[Ql];simp
 have x0:h0[h.size+1]? = aa (S [Y ao 0 0,R O 0].toArray 99):=by
  rw[Ql,a6,if_pos uK]
 rw[<-Ql];clear Ql;refine (UX T h0 _ n l (s.Yz b0) hl).use ?_;rintro _ h1 ⟨b1,o1⟩;have s1:=b1.size;by_cases ok:YX l n
 case neg=>
  have ee:Qs l n (J body)=5:=by unfold Qs;rw[if_pos ok]
  rw[if_neg (show ¬((J l)<=100000/\0<=n/\n<=(J l)) from ok)]at o1;subst o1;rw[ee];have x1:=b1.get nT x0;have y2:=Yd x1 0;have ZS:h.size+1<h1.size:=nT;have Y4:¬h.size+1=h1.size:=nT;simp -implicitDefEqProofs only[go_sem,y2,Y4,ZS];exact⟨⟨_,rfl,Yx.nil _ _ _⟩,((b0.trans (b1.mono nT)).Zs nT _).YU Ig _⟩
 have ee:Qs l n (J body)=if 100000<(J l)+((J body)+5) then 8 else 0:=by unfold Qs;rw[if_neg (fun hn=>hn ok)]
 rw[if_pos (show ((J l)<=100000/\0<=n/\n<=(J l)) from ok)]at o1;obtain⟨w,rfl,o1⟩:=o1;obtain⟨pw,cw,rfl,_⟩:=o1.open;have B1:=b0.trans (b1.mono nT);have x1:=b1.get nT x0;obtain⟨xM,C0,hn1⟩:=ok;obtain⟨h2,VZ⟩:=ZN (h1.push (S [Y pw (J l) cw,R O n].toArray 99):Hp);have b2:Zj h1.size h1 h2:=by rw[VZ];exact Zj.push (ab _) _
 have s2:h2.size=h1.size+1:=by rw[VZ];simp
 have x6:h2[h1.size]? = aa (S [Y pw (J l) cw,R O n].toArray 99):=by rw[VZ];exact Zc
 have eb:((J body):Int)%256=((J body):Int):=nT;have e2:h1.push (S #[Value.slice pw (J l) cw,R O n] 99)=h2:=VZ.symm;simp -implicitDefEqProofs only[go_sem,eb];rw[e2];clear e2 VZ;rw[<-s2];have B2:=B1.trans (b2.mono B1.size);have o2:=o1.Yz b2 (ab _);have HI:∀x∈[(J body)],x<256:=by intro x hx;rw[List.mem_singleton.1 hx];omega
 have of0:Yx h2.size 5 (h2.push (S (([(J body)]:List Nat).map bv).toArray 5)) (Y (aa ⟨h2.size,0,ao⟩) 1 1) [(J body)]:=Yx.made HI (ab _);have bp:Zj h2.size h2 (h2.push (S (([(J body)]:List Nat).map bv).toArray 5)):=Zj.push (ab _) _;refine ZJ (E:=5) (B:=h2.size) Xd aq Tv Si Sh of0 uK (sb.Yz (B2.trans (bp.mono nT))) Ig ?_;intro wf h3 of3 b3 _;have B3:Zj h2.size h2 h3:=bp.trans b3;have fG:=B2.trans (B3.mono nT);have Zmc:Yx h2.size 5 h3 wf (LF body):=of3;clear of0 bp of3 b3;have fl:=U1 body;have fsl:=Vr body;have efr:YR body=LF body++(TX (LF body)).take 4:=rfl;have shl:=Qj (LF body);simp -implicitDefEqProofs only[go_sem];refine (KB T h3 wf (LF body) Zmc.bs (tk.Qx fG)).use ?_;rintro _ h4 ⟨⟨ws,rfl,os⟩,b4⟩;have e0:RZ (LF body).length=0:=by unfold RZ;rw[if_neg nT]
 rw[e0,if_pos rfl]at os;rw[e0];generalize TX (LF body)=SH at *;obtain⟨ps,cs,rfl,XI⟩:=os.open;have sS:=os.bs;obtain⟨p',c',hv,hh⟩:=sS.VJ;simp only[Value.slice.injEq]at hv;obtain⟨rfl,_,rfl⟩:=hv;obtain⟨bb,ob,rfl,_⟩:=hh (by intro e;rw[e]at shl;cases shl);have s4:=Bs.Md sS (m:=4) nT cs;rw[shl]at XI ⊢;have h4c:(4:Int)<=(cs:Int):=nT;have Bo:¬cs=0:=nT;have of4:=Zmc.Yz b4 (ab _);have s3:=B3.size;have s4s:=b4.size;have B4:Zj h2.size h2 h4:=B3.trans (b4.mono s3);simp -implicitDefEqProofs only[go_sem,h4c,Bo,ck,cn];refine ZJ (E:=5) (B:=h2.size) Xd aq Tv Si Sh of4 nT s4 (by rw[fl,a5];omega) ?_;intro wg h5 og b5 _;rw[<-efr]at og;have B5:Zj h2.size h2 h5:=B4.trans b5;have s5:=B5.size;have Bh5:=B2.trans (B5.mono nT);obtain⟨pg,cg,rfl,_⟩:=og.open;rw[fsl];have x65:=B5.get nT x6;have r65:V.hc h5 ⟨h1.size,0,ao⟩=aa (Y pw (J l) cw):=by rw[Zl x65];rfl
 have o5:=o2.Yz B5 (ab _);have x15:h5[h.size+1]? = aa (S [Y ao 0 0,R O 0].toArray 99):=B5.get nT (b2.get nT x1);generalize YR body=FR at *;by_cases q:100000<(J l)+((J body)+5)
 .have q':100000<((J l):Int)+(((J body)+5:Nat):Int):=nT;have y2:=Yd x15 0;have ZS:h.size+1<h5.size:=nT;rw[if_pos q]at ee;rw[ee];simp -implicitDefEqProofs only[go_sem,r65,q',y2,ZS];exact⟨⟨_,rfl,Yx.nil _ _ _⟩,Bh5.Zs nT _⟩
 .have q':¬100000<((J l):Int)+(((J body)+5:Nat):Int):=nT;rw[if_neg q]at ee;rw[ee];simp -implicitDefEqProofs only[go_sem,r65,q'];have ogb:Bs h5 (Y pg ((J body)+5) cg) FR:=by rw[<-fsl];exact og.bs
  refine Ux (E:=5) (B:=h0.size) Xd aq Tv Si Sh o5 nT ogb nT ?_;intro wz h6 oz b6 bt6 bk6;have s6:=b6.size;have Bq:∀b,Yf (Value.slice pw (J l) cw)=aa b->b<h1.size:=o1.Zm.lt;have x66:h6[h1.size]? = aa (S [Y pw (J l) cw,R O n].toArray 99):=by
   rw[bt6.block _ nT (fun e=>by have:=Bq _ e;omega)];exact x65
  have x16:h6[h.size+1]? = aa (S [Y ao 0 0,R O 0].toArray 99):=b6.get nT x15;obtain⟨pz,cz,hwz,_⟩:=oz.open;have zl:(l++FR).length=(J l)+((J body)+5):=by rw[aU,fsl]
  rw[zl]at hwz;subst hwz;have w66:=Xh (v:=Y pz ((J l)+((J body)+5)) cz) x66 (o:=0);obtain⟨h7,hh7⟩:=ZN (h6.setIfInBounds h1.size (S [Y pz ((J l)+((J body)+5)) cz,R O n].toArray 99):Hp);have Zub:QQ h6 ⟨h1.size,0,ao⟩ (Y pz ((J l)+((J body)+5)) cz)=aa h7:=by rw[w66,if_pos ⟨uK,rfl⟩,hh7];rfl
  have b7:RM (aa h1.size) h6 h7:=by rw[hh7];exact RM.Zhm RM.refl
  have x77:h7[h1.size]? = aa (S [Y pz ((J l)+((J body)+5)) cz,R O n].toArray 99):=by rw[hh7,a9,if_pos rfl,if_pos nT]
  have x17:h7[h.size+1]? = aa (S [Y ao 0 0,R O 0].toArray 99):=by
   rw[b7.block _ nT (fun e=>by have:=Option.some.inj e;omega)];exact x16
  have oz7:=oz.lI b7 (fun b hb e=>by
   have e':=Option.some.inj e;rcases bk6 b hb with g1|g1
   .have:=Bq b g1;omega
   .omega)
  have r77:rd h7 ⟨h1.size,0,ao⟩ 2=aa [Y pz ((J l)+((J body)+5)) cz,R O n]:=Zz x77 rfl;have y7:=Yd x17 0;have Fi:h.size+1<h7.size:=Za x17;have Az:Zj h.size h h6:=Bh5.trans (b6.mono nT);have Ev:Zj h.size h h7:=Az.trans (b7.Yz nT (fun b e=>by have:=Option.some.inj e;omega));clear hh7 w66;simp -implicitDefEqProofs only[go_sem,Zub,r77,y7,Fi];refine⟨⟨_,rfl,?_⟩,Ev.Zs nT _⟩;exact (oz7.Z9 nT _).mono nT
theorem Tf(g:Hp)(ns:List Nat):NT (g.push (S (ns.map nv).toArray 3)) (Y (aa ⟨g.size,0,ao⟩) (J ns) (J ns)) ns:=by
 constructor
 rw[Tq nv];exact Sl.made uK _
theorem Rs(T:bo)(h:Hp)(u:aw)(ns:List Nat)(s:NT h u ns)(hl:(J ns)<=100)(hb:∀x∈ns,x<=1073741824):
  Zd bc T 127 #[u] h fun v' h'=>Yx h.size 5 h' v' (ZB ns)/\Zj h.size h h':=by
 obtain⟨p,c,rfl,XI⟩:=ZcJ s;refine Zd.XT [_] Tryz.func127 ?_;simp -implicitDefEqProofs only[go_sem];refine VS.Yk (fun F g=>Zj h.size h g/\F 6=Y p (J ns) c/\F 7=R O (J ns)/\∃i:Nat,i<=(J ns)/\F 8=R O i/\Yx h.size 5 g (F 3) (ZB (ns.take i)))
  (fun F _=>(J ns)-(vi (F 8)).toNat) rfl ⟨Zj.refl _ _,rfl,rfl,0,nT,rfl,Yx.nil _ _ _⟩ ?_
 rintro F g ⟨hg,f6,f7,i,hi,f8,ho⟩;have Oo:=hg.size;by_cases ZS:i<(J ns)
 .have Z7:(i:Int)<(J ns):=nT;obtain⟨b,o,rfl,uh,XI⟩:=XI (by intro e;rw[e]at ZS;simp at ZS);have n1:V.hc g ⟨b,o+i,ao⟩=aa (R O (ns.getD i 0:Nat)):=by rw[hg.hc (by exact uh)];exact XI i ZS
  have et:ns.take (i+1)=ns.take i++[ns.getD i 0]:=by
   rw[Y1 _ i ZS,am,a8 ZS];rfl
  have hx:ns.getD i 0<=1073741824:=by
   rw[am,a8 ZS];exact hb _ (List.getElem_mem ZS)
  generalize ns.getD i 0=x at *;obtain⟨yx,qG⟩:∃y:Int,y=(x:Int):=⟨_,rfl⟩
  obtain⟨z0,Au⟩:∃y:Int,y=((x/16777216%256:Nat):Int):=⟨_,rfl⟩
  obtain⟨z1,Bc⟩:∃y:Int,y=((x/65536%256:Nat):Int):=⟨_,rfl⟩
  obtain⟨z2,iS⟩:∃y:Int,y=((x/256%256:Nat):Int):=⟨_,rfl⟩
  obtain⟨z3,hz3⟩:∃y:Int,y=((x%256:Nat):Int):=⟨_,rfl⟩
  rw[<-qG]at n1;have e1:Unit->XA O yx 24%256=z0:=fun _=>by rw[qG,Au,show (24:Int)=((24:Nat):Int) from rfl,Uf x 24 Iw];rfl
  have e2:Unit->XA O yx 16%256=z1:=fun _=>by rw[qG,Bc,show (16:Int)=((16:Nat):Int) from rfl,Uf x 16 Iw];rfl
  have e3:Unit->XA O yx 8%256=z2:=fun _=>by rw[qG,iS,show (8:Int)=((8:Nat):Int) from rfl,Uf x 8 Iw];rfl
  have e4:Unit->yx%256=z3:=fun _=>by rw[qG,hz3];rfl
  have JS:(ZB (ns.take i)).length<=400:=by rw[ZK,a5];omega
  clear qG;simp -implicitDefEqProofs only[go_sem,f6,f7,f8,Z7,n1,e1 (),e2 (),e3 (),e4 ()];subst Au Bc iS hz3;refine ZJ (E:=5) (B:=h.size) Xd aq Tv Si Sh (ho.push _) Ig (Bs.made (l:=Xj x) (UL x) 4) (by simp[Xj];omega) ?_;intro w' g' Me J9 _;simp -implicitDefEqProofs only[go_sem,f6,f7,f8];refine⟨⟨(hg.add _).trans J9,f6,f7,i+1,ZS,rfl,?_⟩,?_⟩
  .rw[et];unfold ZB at Me ⊢;rw[cr];simp only[cA,cB,a4];exact Me
  .simp only[vi,Zq,↓reduceIte,f8];omega
 .have Xv:¬(i:Int)<(J ns):=nT;obtain rfl:i=(J ns):=nT;rw[List.take_length]at ho;simp -implicitDefEqProofs only[go_sem,f6,f7,f8,Xv];exact⟨ho,hg⟩
def Jj(l:List Nat)(n:Int)(b:Yn):Int:=if ¬YX l n then 5 else if ¬ZD b then 2 else Qs l n 9
def JQ(b:Yn):List Nat:=1 :: ZB [b.r.toNat,b.n.toNat]
theorem jk(b:Yn):YG ⟨0,0⟩ [] b=if ZD b then 0 else 2:=by
 have e:Jz ⟨0,0⟩ []=0:=rfl;unfold YG;rw[if_neg (by rw[e];decide)];by_cases q:ZD b
 .rw[if_neg (fun hn=>hn q),if_pos q,if_neg];intro hb;have q1:=q.1.1;rcases hb with hb|⟨hb,_⟩<;>simp at hb<;>omega
 .rw[if_pos q,if_neg q]
theorem IL(T:bo)(h:Hp)(v:aw)(n:Int)(l:List Nat)(b:Yn)(s:Bs h v l)(hl:(J l)<=140737488355328)(tk:Tk h):
  Zd bc T 105 #[ba [v,R O n].toArray,ba (Qz b).toArray] h fun v' h'=>R7 h.size h' v' l n (Jj l n b) (YR (JQ b))/\Zj h.size h h':=by
 obtain⟨p,c,rfl,_⟩:=s.open;refine Zd.XT [_,_] Tryz.func105 ?_;unfold R7 Qz;simp -implicitDefEqProofs only[go_sem];obtain⟨h0,Ql⟩:=ZN (((h.push (S [Y p (J l) c,R O n].toArray 99)).push (S [R O b.r,R O b.n].toArray 101)).push (S [Y ao 0 0,R O 0].toArray 99):Hp);have b0:Zj h.size h h0:=by rw[Ql];exact (((Zj.refl _ _).add _).add _).add _
 have s0:h0.size=h.size+3:=by rw[Ql];simp
 have t0:h0[h.size]? = aa (S [Y p (J l) c,R O n].toArray 99):=by
  rw[Ql,a6,if_neg Ig,a6,if_neg uK,Zc]
 have t1:h0[h.size+1]? = aa (S [R O b.r,R O b.n].toArray 101):=by
  rw[Ql,a6,if_neg uK,a6,if_pos uK]
 have x0:h0[h.size+2]? = aa (S [Y ao 0 0,R O 0].toArray 99):=by
  rw[Ql,a6,if_pos uK]
 rw[<-Ql];clear Ql;refine (UX T h0 _ n l (s.Yz b0) hl).use ?_;rintro _ h1 ⟨b1,o1⟩;have s1:=b1.size;have B1:Zj h.size h h1:=b0.trans (b1.mono nT);have x1:=b1.get nT x0;by_cases ok:YX l n
 case neg=>
  have ee:Jj l n b=5:=by unfold Jj;rw[if_pos ok]
  rw[if_neg (show ¬((J l)<=100000/\0<=n/\n<=(J l)) from ok)]at o1;subst o1;rw[ee];have y2:=Yd x1 0;have ZS:h.size+2<h1.size:=nT;have Y4:¬h.size+2=h1.size:=nT;simp -implicitDefEqProofs only[go_sem,y2,Y4,ZS];exact⟨⟨_,rfl,Yx.nil _ _ _⟩,(B1.Zs nT _).YU Ig _⟩
 rw[if_pos (show ((J l)<=100000/\0<=n/\n<=(J l)) from ok)]at o1;obtain⟨w,rfl,o1⟩:=o1;obtain⟨pw,cw,rfl,_⟩:=o1.open;have bt1:=b1.get nT t1;have r1:rd h1 ⟨h.size+1,0,ao⟩ 2=aa [R O b.r,R O b.n]:=Zz bt1 rfl;have bQ:¬h.size+1=h1.size:=nT;simp -implicitDefEqProofs only[go_sem,r1,bQ];have b2:Zj h1.size h1 (h1.push (S [Y pw (J l) cw,R O n].toArray 99)):=Zj.push (ab _) _;refine (RX T _ ⟨0,0⟩ (Y ao 0 0) [] b (Qv.nil 0 132 Zv 8 _).ts uK).use ?_;rintro _ h3 ⟨⟨w1,w2,rfl,q1,q2⟩,b3⟩;simp only[ite_self]at q1;have B3:Zj h1.size h1 h3:=b2.trans (b3.mono b2.size);rw[jk];obtain⟨p1,c1,Bq,_⟩:=q1.open;have s3:=B3.size;have x3:=B3.get nT x1;have fG:=B1.trans (B3.mono nT);by_cases may:ZD b
 case neg=>
  have ee:Jj l n b=2:=by unfold Jj;rw[if_neg (fun hn=>hn ok),if_pos may]
  rw[ee,if_neg may];obtain⟨w1',ZFY⟩:∃w,w=w1:=⟨_,rfl⟩
  subst Bq;have y2:=Yd x3 0;have ZS:h.size+2<h3.size:=nT;have Y4:¬h.size+2=h3.size:=nT;unfold Xy;simp -implicitDefEqProofs only[go_sem,y2,Y4,ZS];exact⟨⟨_,rfl,Yx.nil _ _ _⟩,(fG.Zs nT _).YU Ig _⟩
 have ee:Jj l n b=Qs l n 9:=by unfold Jj;rw[if_neg (fun hn=>hn ok),if_neg (fun hn=>hn may)]
 rw[ee,if_pos may];obtain⟨⟨m1,m2⟩,m3,m4⟩:=may;obtain⟨br,bn⟩:=b;obtain⟨r,rfl⟩:∃r:Nat,br=r:=⟨br.toNat,by simp at m1;omega⟩
 obtain⟨m,rfl⟩:∃m:Nat,bn=m:=⟨bn.toNat,by simp at m3;omega⟩
 simp only at m1 m2 m3 m4;unfold JQ;simp only[ch];subst Bq;unfold Xy;have t3:=B3.get nT (b1.get nT t0);have t13:=B3.get nT bt1;obtain⟨g,hg⟩:=ZN (h3.push (S [R O (r:Nat),R O (m:Nat),Y p1 ([]:List Vt).length c1].toArray 104):Hp);simp -implicitDefEqProofs only[go_sem];have e3:h3.push (S #[Value.int O (r:Nat),R O (m:Nat),Y p1 0 c1] 104)=g:=hg.symm;rw[e3];have bg:Zj h3.size h3 g:=by rw[hg];exact Zj.push (ab _) _
 have sg:g.size=h3.size+1:=by rw[hg];simp
 clear e3 hg;have Bg:Zj h.size h g:=fG.trans (bg.mono nT);have x4g:=bg.get nT x3;have t4:=bg.get nT t3;have t14:=bg.get nT t13;have r0:rd g ⟨h.size,0,ao⟩ 2=aa [Y p (J l) c,R O n]:=Zz t4 rfl;have c0:V.hc g ⟨h.size+1,0,ao⟩=aa (R O (r:Nat)):=by rw[Zl t14];rfl
 have c1':V.hc g ⟨h.size+1,1,ao⟩=aa (R O (m:Nat)):=by rw[Zl t14];rfl
 have k0:h.size<g.size:=nT;have k1:h.size+1<g.size:=nT;refine VS.w (g.size) [12,13] (.q 0 (.q 2 (.q 3 (.q 4 (.q 5 (.or 1 (.s 6 (.s 7 (.s 8 (.s 9 (.q 10 (.q 11 (.w 12 (.w 13 .nil)))))))) (.s 6 (.or 1 (.s 7 (.s 8 (.s 9 (.q 10 (.q 11 (.w 12 (.w 13 .nil))))))) (.s 7 (.s 1 (.s 8 (.s 9 (.q 10 (.q 11 (.w 12 (.w 13 .nil)))))))))))))))) mixed uj ?_;simp -implicitDefEqProofs only[go_sem,r0,c0,c1',k0,k1];refine⟨?_,?_,?_⟩
 .have o0:Yx g.size 5 (g.push (S (([1]:List Nat).map bv).toArray 5)) (Y (aa ⟨g.size,0,ao⟩) 1 1) [1]:=Yx.made Iw (ab _);have B0:Zj g.size g ((g.push (S (([1]:List Nat).map bv).toArray 5)).push (S (([r,m]:List Nat).map nv).toArray 3)):=(Zj.push (ab _) _).YU uK _;have o00:=o0.push (S (([r,m]:List Nat).map nv).toArray 3);have si:NT ((g.push (S (([1]:List Nat).map bv).toArray 5)).push (S (([r,m]:List Nat).map nv).toArray 3)) (Y (aa ⟨(g.push (S (([1]:List Nat).map bv).toArray 5)).size,0,ao⟩) 2 2) [r,m]:=Tf _ _;have e1:(g.push (S (([1]:List Nat).map bv).toArray 5)).size=g.size+1:=uK;rw[e1]at si;refine (Rs T _ _ [r,m] si uK (by intro x hx;simp only[bS,bR,or_false]at hx;omega)).use ?_;rintro w5 h5 ⟨o5,b5⟩;have BB:=B0.trans (b5.mono B0.size);have o1:=o00.Yz b5 (ab _);have s4:=o5.bs;simp -implicitDefEqProofs only[go_sem,BB];refine ZJ (E:=5) (B:=g.size) Xd aq Tv Si Sh o1 BB.size s4 (by rw[ZK];simp) ?_;intro w6 h6 o6 b6 _;have B6:Zj g.size g h6:=BB.trans b6;have Az:=Bg.trans (B6.mono nT);have yM:Yx g.size 5 h6 w6 (1 :: ZB [r,m]):=o6;simp -implicitDefEqProofs only[go_sem,B6];refine (Rr T h6 _ w6 n l (1 :: ZB [r,m]) (s.Yz Az) hl yM.bs (by simp only[bl,ZK,bw];omega) (tk.Qx Az)).use ?_;rintro _ h7 ⟨⟨w7,rfl,o7⟩,b7⟩;have el:(1 :: ZB [r,m]).length=9:=by simp only[bl,ZK,bw]
  rw[el]at o7 ⊢;have B7:Zj g.size g h7:=B6.trans (b7.mono B6.size);have Ev:=Az.trans (b7.mono Az.size);have x7:=B7.get nT x4g;have y7:=Yd x7 0;have Fi:h.size+2<h7.size:=Za x7;generalize YR (1 :: ZB [r,m])=FR at *;obtain⟨E,hE⟩:=ZN (Qs l n 9);rw[<-hE]at o7 ⊢;obtain⟨z,hz⟩:∃z:Int,z=if E=0 then n else 0:=⟨_,rfl⟩
  rw[<-hz];obtain⟨pz,cz,rfl,_⟩:=o7.open;have o7l:=o7;simp -implicitDefEqProofs only[go_sem,B7,y7,Fi];refine⟨⟨_,rfl,?_⟩,Ev.Zs nT _⟩;exact (o7.Z9 (by have:=B6.size;omega) _).mono (by have:=B6.size;omega)
 .have B0a:Zj g.size g (g.push (S (([r,m]:List Nat).map nv).toArray 3)):=Zj.push (ab _) _;have o0:Yx g.size 5 ((g.push (S (([r,m]:List Nat).map nv).toArray 3)).push (S (([1]:List Nat).map bv).toArray 5)) (Y (aa ⟨(g.push (S (([r,m]:List Nat).map nv).toArray 3)).size,0,ao⟩) 1 1) [1]:=(Yx.made Iw (ab _)).mono uK;have B0:Zj g.size g ((g.push (S (([r,m]:List Nat).map nv).toArray 3)).push (S (([1]:List Nat).map bv).toArray 5)):=B0a.YU uK _;have si0:NT (g.push (S (([r,m]:List Nat).map nv).toArray 3)) (Y (aa ⟨g.size,0,ao⟩) 2 2) [r,m]:=Tf _ _;have si:=si0.Yz (Zj.push (ab _) (S (([1]:List Nat).map bv).toArray 5));have e1:(g.push (S (([r,m]:List Nat).map nv).toArray 3)).size=g.size+1:=uK;rw[e1]at o0;refine (Rs T _ _ [r,m] si uK (by intro x hx;simp only[bS,bR,or_false]at hx;omega)).use ?_;rintro w5 h5 ⟨o5,b5⟩;have BB:=B0.trans (b5.mono B0.size);have o1:=o0.Yz b5 (ab _);have s4:=o5.bs;simp -implicitDefEqProofs only[go_sem,BB];refine ZJ (E:=5) (B:=g.size) Xd aq Tv Si Sh o1 BB.size s4 (by rw[ZK];simp) ?_;intro w6 h6 o6 b6 _;have B6:Zj g.size g h6:=BB.trans b6;have Az:=Bg.trans (B6.mono nT);have yM:Yx g.size 5 h6 w6 (1 :: ZB [r,m]):=o6;simp -implicitDefEqProofs only[go_sem,B6];refine (Rr T h6 _ w6 n l (1 :: ZB [r,m]) (s.Yz Az) hl yM.bs (by simp only[bl,ZK,bw];omega) (tk.Qx Az)).use ?_;rintro _ h7 ⟨⟨w7,rfl,o7⟩,b7⟩;have el:(1 :: ZB [r,m]).length=9:=by simp only[bl,ZK,bw]
  rw[el]at o7 ⊢;have B7:Zj g.size g h7:=B6.trans (b7.mono B6.size);have Ev:=Az.trans (b7.mono Az.size);have x7:=B7.get nT x4g;have y7:=Yd x7 0;have Fi:h.size+2<h7.size:=Za x7;generalize YR (1 :: ZB [r,m])=FR at *;obtain⟨E,hE⟩:=ZN (Qs l n 9);rw[<-hE]at o7 ⊢;obtain⟨z,hz⟩:∃z:Int,z=if E=0 then n else 0:=⟨_,rfl⟩
  rw[<-hz];obtain⟨pz,cz,rfl,_⟩:=o7.open;have o7l:=o7;simp -implicitDefEqProofs only[go_sem,B7,y7,Fi];refine⟨⟨_,rfl,?_⟩,Ev.Zs nT _⟩;exact (o7.Z9 (by have:=B6.size;omega) _).mono (by have:=B6.size;omega)
 .have B0a:Zj g.size g (g.push (S (([r,m]:List Nat).map nv).toArray 3)):=Zj.push (ab _) _;have si:NT (g.push (S (([r,m]:List Nat).map nv).toArray 3)) (Y (aa ⟨g.size,0,ao⟩) 2 2) [r,m]:=Tf _ _;refine (Rs T _ _ [r,m] si uK (by intro x hx;simp only[bS,bR,or_false]at hx;omega)).use ?_;rintro w5 h5 ⟨o5,b5⟩;have BB5:=B0a.trans (b5.mono B0a.size);have BB:Zj g.size g (h5.push (S (([1]:List Nat).map bv).toArray 5)):=BB5.YU BB5.size _;have o1:Yx g.size 5 (h5.push (S (([1]:List Nat).map bv).toArray 5)) (Y (aa ⟨h5.size,0,ao⟩) 1 1) [1]:=(Yx.made Iw (ab _)).mono BB5.size;have s4:=o5.bs.Yz (Zj.push (ab h5.size) (S (([1]:List Nat).map bv).toArray 5));simp -implicitDefEqProofs only[go_sem,BB5,BB];refine ZJ (E:=5) (B:=g.size) Xd aq Tv Si Sh o1 BB.size s4 (by rw[ZK];simp) ?_;intro w6 h6 o6 b6 _;have B6:Zj g.size g h6:=BB.trans b6;have Az:=Bg.trans (B6.mono nT);have yM:Yx g.size 5 h6 w6 (1 :: ZB [r,m]):=o6;simp -implicitDefEqProofs only[go_sem,B6];refine (Rr T h6 _ w6 n l (1 :: ZB [r,m]) (s.Yz Az) hl yM.bs (by simp only[bl,ZK,bw];omega) (tk.Qx Az)).use ?_;rintro _ h7 ⟨⟨w7,rfl,o7⟩,b7⟩;have el:(1 :: ZB [r,m]).length=9:=by simp only[bl,ZK,bw]
  rw[el]at o7 ⊢;have B7:Zj g.size g h7:=B6.trans (b7.mono B6.size);have Ev:=Az.trans (b7.mono Az.size);have x7:=B7.get nT x4g;have y7:=Yd x7 0;have Fi:h.size+2<h7.size:=Za x7;generalize YR (1 :: ZB [r,m])=FR at *;obtain⟨E,hE⟩:=ZN (Qs l n 9);rw[<-hE]at o7 ⊢;obtain⟨z,hz⟩:∃z:Int,z=if E=0 then n else 0:=⟨_,rfl⟩
  rw[<-hz];obtain⟨pz,cz,rfl,_⟩:=o7.open;have o7l:=o7;simp -implicitDefEqProofs only[go_sem,B7,y7,Fi];refine⟨⟨_,rfl,?_⟩,Ev.Zs nT _⟩;exact (o7.Z9 (by have:=B6.size;omega) _).mono (by have:=B6.size;omega)
theorem St(n:Nat):Qg n [Value.int ae 0]=(bk n 0).map bv:=by
 induction n with
 | zero=>rfl
 | succ n ih=>rw[Qg,ih];rfl
theorem Fj:∀(vs zs:List aw),(J vs)<=(J zs)->Y8 zs 0 vs=vs++zs.drop (J vs)
 | [],zs,_=>by cases zs<;>rfl
 | v :: vs,[],h=>by simp at h
 | v :: vs,z :: zs,h=>by
  rw[Y8,Fj vs zs (by simpa using h)];rfl
theorem bT(key:List Nat):Y8 ((bk 64 0).map bv) 0 (((Mo key).map bv).take (min (Mo key).length 64))=(VW key).map bv:=by
 have:=Sk key;rw[b9 this,be uK,Fj _ _ Ig,List.length_map,<-List.map_drop,List.drop_replicate,VW,List.map_append]
theorem yN(T:bo)(h:Hp)(v:aw)(key:List Nat)(w:Nat)(s:Bs h v key)(hk:(J key)<=100000)(hw:w<256)(tk:Tk h):
  Zd bc T 57 #[v,R ae w] h fun v' h'=>Yx h.size 5 h' v' (TY key w)/\Zj h.size h h':=by
 obtain⟨p,cp,rfl,WE⟩:=s.open;have mD:Ns key:=s.byte;refine Zd.XT [_,_] Tryz.func57 ?_;by_cases e64:64<(J key)
 .have Zho:64<((J key):Int):=nT;have hK:TX key=Mo key:=by unfold Mo;rw[if_pos e64]
  simp -implicitDefEqProofs only[go_sem,Zho];refine (BG T _ _ key s hk tk).use ?_;rintro u g ⟨ou,bg⟩;have su:=ou.bs;rw[hK]at su;simp -implicitDefEqProofs only[go_sem];have hG:Zj h.size h (g.push (S (Qg 64 [Value.int ae 0]).toArray 5)):=bg.add _;have sK':=su.Yz (Zj.push (ab g.size) (S (Qg 64 [Value.int ae 0]).toArray 5));have kl:=Sk key;refine GG (o:=0) (dl:=64) (dc:=64) (c:=Qg 64 [Value.int ae 0]) (E':=5) Xd Tv Zc sK'.sl (RP _) (by rw[St];simp;omega) ?_;rw[UT,St,bT];have md:Zj h.size h (g.push (S ((VW key).map bv).toArray 5)):=bg.add _;have O3:(g.push (S ((VW key).map bv).toArray 5))[g.size]? = aa (S (((TY key w).take 0++(VW key).drop 0).map bv++[]).toArray 5):=by
   rw[cd,co,b8,a4];exact Zc
  simp -implicitDefEqProofs only[go_sem];refine VS.Yk (fun F' g'=>Zj h.size h g'/\F' 1=R ae w/\F' 5=Y (aa ⟨g.size,0,ao⟩) 64 64/\F' 17=R O 64/\∃i:Nat,i<=64/\F' 18=R O i/\g'[g.size]? = aa (S (((TY key w).take i++(VW key).drop i).map bv++[]).toArray 5))
   (fun F _=>64-(vi (F 18)).toNat) rfl ⟨md,rfl,rfl,rfl,0,nT,rfl,O3⟩ ?_
  clear hG md O3 sK';rintro F g' ⟨hg,f1,f5,f17,i,hi,f18,hx⟩;have Oo:=Za hx;have fF:((TY key w).take i++(VW key).drop i).length=64:=by rw[aU,a5,bG,Ys,Qk];omega
  by_cases ZS:i<64
  .have Z7:(i:Int)<64:=nT;have q1:=Z6 (f:=bv) hx (i:=i) nT;have e0:((TY key w).take i++(VW key).drop i).getD i 0=(VW key).getD i 0:=by
    rw[am,bA (by rw[a5,Ys];omega),a5,Ys,b9 nT,cc,cf,cy,<-am]
   rw[e0]at q1;unfold bv at q1;have eX:=DD key w ZS;have cs:=Yv (f:=bv) hx (i:=i) nT ((TY key w).getD i 0) rfl;rw[Mq _ _ i (by rw[Ys];exact ZS) (by rw[Ys,Qk])]at cs;have hZb:=Z3 (Kt mD) i;have ox:Unit->YN .xor ae (((VW key).getD i 0:Nat):Int) (w:Int)=(((TY key w).getD i 0:Nat):Int):=fun _=>by rw[eX];exact CM _ _ hZb hw
   have uS:QQ g' ⟨g.size,i,ao⟩ (R ae (((TY key w).getD i 0:Nat):Int))=_:=cs;simp -implicitDefEqProofs only[go_sem,f1,f5,f17,f18,Z7,q1,ox (),uS];refine⟨⟨hg.Zs (bg.size) _,f1,f5,f17,i+1,ZS,rfl,Yc hx⟩,?_⟩;simp only[vi,Zq,↓reduceIte,f18];omega
  .have Xv:¬(i:Int)<64:=nT;obtain rfl:i=64:=nT;rw[be (by rw[Ys];omega),bt (by rw[Qk];omega),a4,a4]at hx;simp -implicitDefEqProofs only[go_sem,f5,f17,f18,Xv];exact⟨⟨.inr ⟨g.size,64,[],bg.size,by rw[Ys],by rw[a4];exact hx,by simp[Ys],by rw[Ys];rfl,by rw[Ys];omega⟩,DC mD hw⟩,hg⟩
 .have Zho:¬64<((J key):Int):=nT;have hK:Mo key=key:=by unfold Mo;rw[if_neg e64]
  have b0:=Zj.refl h.size h;have su:=s;have KC:Bs h (Y p (Mo key).length cp) (Mo key):=by rw[hK];exact s
  simp -implicitDefEqProofs only[go_sem,Zho];have hG:Zj h.size h (h.push (S (Qg 64 [Value.int ae 0]).toArray 5)):=b0.add _;have hkl:(J key)=(Mo key).length:=by rw[hK]
  rw[hkl];have sK':=KC.Yz (Zj.push (ab h.size) (S (Qg 64 [Value.int ae 0]).toArray 5));have kl:=Sk key;refine GG (o:=0) (dl:=64) (dc:=64) (c:=Qg 64 [Value.int ae 0]) (E':=5) Xd Tv Zc sK'.sl (RP _) (by rw[St];simp;omega) ?_;rw[UT,St,bT];have md:Zj h.size h (h.push (S ((VW key).map bv).toArray 5)):=b0.add _;have O3:(h.push (S ((VW key).map bv).toArray 5))[h.size]? = aa (S (((TY key w).take 0++(VW key).drop 0).map bv++[]).toArray 5):=by
   rw[cd,co,b8,a4];exact Zc
  simp -implicitDefEqProofs only[go_sem];refine VS.Yk (fun F' g'=>Zj h.size h g'/\F' 1=R ae w/\F' 5=Y (aa ⟨h.size,0,ao⟩) 64 64/\F' 17=R O 64/\∃i:Nat,i<=64/\F' 18=R O i/\g'[h.size]? = aa (S (((TY key w).take i++(VW key).drop i).map bv++[]).toArray 5))
   (fun F _=>64-(vi (F 18)).toNat) rfl ⟨md,rfl,rfl,rfl,0,nT,rfl,O3⟩ ?_
  clear hG md O3 sK';rintro F g' ⟨hg,f1,f5,f17,i,hi,f18,hx⟩;have Oo:=Za hx;have fF:((TY key w).take i++(VW key).drop i).length=64:=by rw[aU,a5,bG,Ys,Qk];omega
  by_cases ZS:i<64
  .have Z7:(i:Int)<64:=nT;have q1:=Z6 (f:=bv) hx (i:=i) nT;have e0:((TY key w).take i++(VW key).drop i).getD i 0=(VW key).getD i 0:=by
    rw[am,bA (by rw[a5,Ys];omega),a5,Ys,b9 nT,cc,cf,cy,<-am]
   rw[e0]at q1;unfold bv at q1;have eX:=DD key w ZS;have cs:=Yv (f:=bv) hx (i:=i) nT ((TY key w).getD i 0) rfl;rw[Mq _ _ i (by rw[Ys];exact ZS) (by rw[Ys,Qk])]at cs;have hZb:=Z3 (Kt mD) i;have ox:Unit->YN .xor ae (((VW key).getD i 0:Nat):Int) (w:Int)=(((TY key w).getD i 0:Nat):Int):=fun _=>by rw[eX];exact CM _ _ hZb hw
   have uS:QQ g' ⟨h.size,i,ao⟩ (R ae (((TY key w).getD i 0:Nat):Int))=_:=cs;simp -implicitDefEqProofs only[go_sem,f1,f5,f17,f18,Z7,q1,ox (),uS];refine⟨⟨hg.Zs (b0.size) _,f1,f5,f17,i+1,ZS,rfl,Yc hx⟩,?_⟩;simp only[vi,Zq,↓reduceIte,f18];omega
  .have Xv:¬(i:Int)<64:=nT;obtain rfl:i=64:=nT;rw[be (by rw[Ys];omega),bt (by rw[Qk];omega),a4,a4]at hx;simp -implicitDefEqProofs only[go_sem,f5,f17,f18,Xv];exact⟨⟨.inr ⟨h.size,64,[],b0.size,by rw[Ys],by rw[a4];exact hx,by simp[Ys],by rw[Ys];rfl,by rw[Ys];omega⟩,DC mD hw⟩,hg⟩
theorem jl(T:bo)(h:Hp)(v u:aw)(key b:List Nat)(s:Bs h v key)(sb:Bs h u b)(hk:(J key)<=10000)(hb:(J b)<=10000)(tk:Tk h):
  Zd bc T 42 #[v,u] h fun v' h'=>Yx h.size 5 h' v' (Lp key b)/\Zj h.size h h':=by
 have sb0:=sb;refine Zd.XT [_,_] Tryz.func42 ?_;simp -implicitDefEqProofs only[go_sem];refine (yN T h v key 92 s nT nT tk).use ?_;rintro v1 h1 ⟨o1,b1⟩;have s1:=b1.size;simp -implicitDefEqProofs only[go_sem];refine (yN T h1 v key 54 (s.Yz b1) nT nT (tk.Qx b1)).use ?_;rintro v2 h2 ⟨o2,b2⟩;have s2:=b2.size;have B2:=b1.trans (b2.mono s1);have o1':=o1.Yz b2 (ab _);have l1:=Ys key 92;have l2:=Ys key 54;simp -implicitDefEqProofs only[go_sem];refine ZJ (E:=5) (B:=h1.size) Xd aq Tv Si Sh o2 s2 (sb.Yz B2) (by rw[l2];omega) ?_;intro v3 h3 o3 b3 _;have s3:=b3.size;have B3:=B2.trans (b3.mono s1);have Zuf:=o1.Yz (b2.trans b3) (ab _);simp -implicitDefEqProofs only[go_sem];refine (BG T h3 v3 _ o3.bs (by rw[aU,l2];omega) (tk.Qx B3)).use ?_;rintro v4 h4 ⟨o4,b4⟩;have B4:=B3.trans (b4.mono nT);have o14:=Zuf.Yz b4 (ab _);simp -implicitDefEqProofs only[go_sem];refine ZJ (E:=5) (B:=h.size) Xd aq Tv Si Sh o14 B4.size o4.bs (by rw[l1,Qj];omega) ?_;intro v5 h5 o5 b5 _;have B5:=B4.trans b5;simp -implicitDefEqProofs only[go_sem];refine (BG T h5 v5 _ o5.bs (by rw[aU,l1,Qj];omega) (tk.Qx B5)).use ?_;rintro v6 h6 ⟨o6,b6⟩;simp -implicitDefEqProofs only[go_sem];exact⟨o6.mono B5.size,B5.trans (b6.mono B5.size)⟩
def Fk(m n:Nat):Int:=if 256<m\/2000<n then 1 else 0
def yO(B:Nat)(h':Hp)(v':aw)(key b:List Nat):Prop:=∃w,v'=.tuple [w,R O (Fk (J key) (J b))].toArray/\Yx B 5 h' w (if Fk (J key) (J b)=0 then Lp key b else [])
theorem qH(T:bo)(h:Hp)(v u:aw)(key b:List Nat)(s:Bs h v key)(sb:Bs h u b)(tk:Tk h):
  Zd bc T 41 #[v,u] h fun v' h'=>yO h.size h' v' key b/\Zj h.size h h':=by
 obtain⟨p,cp,rfl,WE⟩:=s.open;obtain⟨q,cq,rfl,Es⟩:=sb.open;refine Zd.XT [_,_] Tryz.func41 ?_;unfold yO Fk;by_cases e1:256<(J key)
 .have uz:256<((J key):Int):=nT;rw[if_pos (.inl e1)];simp -implicitDefEqProofs only[go_sem,uz];exact⟨_,rfl,Yx.nil _ _ _⟩
 .have uz:¬256<((J key):Int):=nT;by_cases e2:2000<(J b)
  .have e2':2000<((J b):Int):=nT;rw[if_pos (.inr e2)];simp -implicitDefEqProofs only[go_sem,uz,e2'];exact⟨_,rfl,Yx.nil _ _ _⟩
  .have e2':¬2000<((J b):Int):=nT;rw[if_neg nT];simp -implicitDefEqProofs only[go_sem,uz,e2'];refine (jl T _ _ _ key b s sb nT nT tk).use ?_;rintro w h1 ⟨o1,b1⟩;simp -implicitDefEqProofs only[go_sem,b1];exact⟨_,rfl,o1⟩
theorem bU(T:bo)(h:Hp)(v u:aw)(key b:List Nat)(s:Bs h v key)(sb:Bs h u b)(hk:(J key)<=256)(hb:(J b)<=2000)(tk:Tk h):
  Zd bc T 24 #[v,u] h fun v' h'=>(Bs h' v' ((Lp key b).take 16)/\PM v')/\Zj h.size h h':=by
 refine Zd.XT [_,_] Tryz.func24 ?_;simp -implicitDefEqProofs only[go_sem];refine (qH T _ _ _ key b s sb tk).use ?_;rintro _ h1 ⟨⟨w,rfl,o1⟩,b1⟩;have e0:Fk (J key) (J b)=0:=by unfold Fk;rw[if_neg nT]
 rw[e0,if_pos rfl]at o1;rw[e0];have ml:=Sm key b;generalize Lp key b=M at *;obtain⟨p,c,rfl,hc⟩:=o1.open;have sM:=o1.bs;obtain⟨p',c',hv,hh⟩:=sM.VJ;simp only[Value.slice.injEq]at hv;obtain⟨rfl,_,rfl⟩:=hv;obtain⟨bb,ob,rfl,_⟩:=hh (by intro e;rw[e]at ml;cases ml);have fin:=Bs.Md sM (m:=16) nT c;rw[ml]at hc ⊢;have h16:(16:Int)<=(c:Int):=nT;have lJ:¬c=0:=nT;simp -implicitDefEqProofs only[go_sem,h16,lJ,ck,cn,b1];exact⟨fin,show 16<=c by omega⟩
def bV(c r u:Nat):List Nat:=[c,r]++Xj u
def Rt(key:List Nat)(c r u:Nat):List Nat:=bV c r u++(Lp key (bV c r u)).take 16
theorem IM(c r u:Nat):(bV c r u).length=6:=rfl
theorem Qn(key:List Nat)(c r u:Nat):(Rt key c r u).length=22:=by
 rw[Rt,aU,IM,a5,Sm];rfl
def VE(kl:Nat)(c r u:Int):Int:=if kl≠32 then 1 else JM c r u
def jm(B:Nat)(h':Hp)(v':aw)(key:List Nat)(c r u:Int):Prop:=∃w,v'=.tuple [w,R O (VE (J key) c r u)].toArray/\Yx B 5 h' w (if VE (J key) c r u=0 then Rt key c.toNat r.toNat u.toNat else [])
theorem bW{c r u:Int}(h:JM c r u=0):∃c' r' u':Nat,c=c'/\r=r'/\u=u'/\c'<8/\r'<8/\u'<=1048576:=by
 unfold JM at h;split at h
 .cases h
 .exact⟨c.toNat,r.toNat,u.toNat,nT,nT,nT,nT,nT,nT⟩
theorem yP(T:bo)(h:Hp)(v:aw)(key:List Nat)(c r u:Int)(s:Bs h v key)(tk:Tk h):
  Zd bc T 12 #[v,ba (PO c r u).toArray] h fun v' h'=>jm h.size h' v' key c r u/\Zj h.size h h':=by
 obtain⟨p,cp,rfl,_⟩:=s.open;refine Zd.XT [_,_] Tryz.func12 ?_;unfold jm PO;by_cases hk:(J key)=32
 case neg=>
  have ee:VE (J key) c r u=1:=by unfold VE;rw[if_pos hk]
  have NE:¬((J key):Int)=32:=nT;rw[ee];simp -implicitDefEqProofs only[go_sem,NE];exact⟨_,rfl,Yx.nil _ _ _⟩
 have NE:((J key):Int)=32:=nT;have ee:VE (J key) c r u=JM c r u:=by unfold VE;rw[if_neg nT]
 rw[ee];simp -implicitDefEqProofs only[go_sem,NE];refine (GM T _ c r u).use ?_;rintro _ _ ⟨rfl,rfl⟩;unfold PO;by_cases q:JM c r u=0
 case neg=>
  simp -implicitDefEqProofs only[go_sem,q];exact⟨_,rfl,Yx.nil _ _ _⟩
 obtain⟨c,r,u,rfl,rfl,rfl,hc,hr,hu⟩:=bW q;rw[q];have ec:(c:Int)%256=(c:Int):=nT;have er:(r:Int)%256=(r:Int):=nT;simp only[ch];simp -implicitDefEqProofs only[go_sem,ec,er];obtain⟨h1,Xm⟩:=ZN ((h.push (S [Value.int O c,R O r,R O u].toArray 31)).push (S [Value.int O c,R O r,R O u].toArray 31):Hp);have b1:Zj h.size h h1:=by rw[Xm];exact ((Zj.refl _ _).add _).add _
 have s1:h1.size=h.size+1+1:=by rw[Xm];simp
 rw[<-s1,<-Xm];clear Xm;have HI:∀x∈[c,r],x<256:=by
  intro x hx;simp only[bS,bR,or_false]at hx;omega
 have o2:Yx h1.size 5 (h1.push (S (([c,r]:List Nat).map bv).toArray 5)) (Y (aa ⟨h1.size,0,ao⟩) 2 2) [c,r]:=Yx.made HI (ab _);have B2:Zj h1.size h1 (h1.push (S (([c,r]:List Nat).map bv).toArray 5)):=Zj.push (ab _) _;refine (l9 T _ h1.size _ [c,r] u o2 uK uK nT).use ?_;rintro w3 h3 ⟨o3,b3⟩;have B3:=B2.trans b3;have fG:Zj h.size h h3:=b1.trans (B3.mono nT);have o3':Yx h1.size 5 h3 w3 (bV c r u):=o3;have gl:=IM c r u;unfold Rt;generalize bV c r u=G at *;simp -implicitDefEqProofs only[go_sem];rw[<-NE];refine (bU T h3 _ w3 key G (s.Yz fG) o3'.bs nT nT (tk.Qx fG)).use ?_;rintro w4 h4 ⟨⟨s4,_⟩,b4⟩;have s3:=B3.size;have o34:=o3'.Yz b4 (ab _);have Bh4:=fG.trans (b4.mono fG.size);simp -implicitDefEqProofs only[go_sem];refine ZJ (E:=5) (B:=h1.size) Xd aq Tv Si Sh o34 (by have:=b4.size;omega) s4 (by rw[gl,a5];omega) ?_;intro w5 h5 o5 b5 _;have Bh5:=Bh4.trans (b5.mono nT);simp -implicitDefEqProofs only[go_sem,Bh5];exact⟨_,rfl,o5.mono nT⟩
def BH:List aw:=PO 0 0 0
def QK(key l:List Nat):Int:=if (J key)≠32\/(J l)≠22 then 1 else if (Lp key (l.take 6)).take 16≠l.drop 6 then 6 else JM (l.getD 0 0:Nat) (l.getD 1 0:Nat) (XD l 2:Nat)
def BI(key l:List Nat):List aw:=if QK key l=0 then PO (l.getD 0 0:Nat) (l.getD 1 0:Nat) (XD l 2:Nat) else BH
theorem Fl(T:bo)(h:Hp)(v u:aw)(key l:List Nat)(s:Bs h v key)(sl:Bs h u l)(cu:PM u)(tk:Tk h):
  Zd bc T 80 #[v,u] h fun v' h'=>v'=.tuple [ba (BI key l).toArray,R O (QK key l)].toArray/\Zj h.size h h':=by
 obtain⟨p,cp,rfl,_⟩:=s.open;obtain⟨q,cq,rfl,hq⟩:=sl.VJ;refine Zd.XT [_,_] Tryz.func80 ?_;by_cases hk:(J key)=32
 case neg=>
  have ee:QK key l=1:=by unfold QK;rw[if_pos (.inl hk)]
  have NE:¬((J key):Int)=32:=nT;unfold BI;rw[ee];unfold BH PO;simp +contextual -implicitDefEqProofs only[go_sem,NE]
  (repeat' (first|exact Zj.refl _ _|assumption|refine Zj.add ?_ _|refine Zj.Zs ?_ aaa _|refine Zj.trans aab ?_))
 have NE:((J key):Int)=32:=nT;by_cases hl:(J l)=22
 case neg=>
  have ee:QK key l=1:=by unfold QK;rw[if_pos (.inr hl)]
  have fw:¬((J l):Int)=22:=nT;unfold BI;rw[ee];unfold BH PO;simp +contextual -implicitDefEqProofs only[go_sem,NE,fw]
  (repeat' (first|exact Zj.refl _ _|assumption|refine Zj.add ?_ _|refine Zj.Zs ?_ aaa _|refine Zj.trans aab ?_))
 have fw:((J l):Int)=22:=nT;obtain⟨b,o,rfl,hb,XI⟩:=hq (by intro e;rw[e]at hl;cases hl);have Vk:22<=cq:=by have:(J l)<=cq:=cu;omega
 have h6c:(6:Int)<=(cq:Int):=nT;have lJ:¬cq=0:=nT;have hc6:¬cq=6:=nT;obtain⟨y0,iR⟩:∃y:Int,y=((l.getD 0 0:Nat):Int):=⟨_,rfl⟩
 obtain⟨y1',Bw⟩:∃y:Int,y=((l.getD 1 0:Nat):Int):=⟨_,rfl⟩
 obtain⟨y2',hy2⟩:∃y:Int,y=((l.getD 2 0:Nat):Int):=⟨_,rfl⟩
 obtain⟨y3,hy3⟩:∃y:Int,y=((l.getD 3 0:Nat):Int):=⟨_,rfl⟩
 obtain⟨y4,hy4⟩:∃y:Int,y=((l.getD 4 0:Nat):Int):=⟨_,rfl⟩
 obtain⟨y5,hy5⟩:∃y:Int,y=((l.getD 5 0:Nat):Int):=⟨_,rfl⟩
 obtain⟨yY,hyY⟩:∃y:Int,y=((XD l 2:Nat):Int):=⟨_,rfl⟩
 have z0:=Z3 sl.byte 0;have z1:=Z3 sl.byte 1;have z2:=Z3 sl.byte 2;have z3:=Z3 sl.byte 3;have z4:=Z3 sl.byte 4;have z5:=Z3 sl.byte 5;have eo:Unit->YN .or O (YN .or O (YN .or O (Xo O y2' 24) (Xo O y3 16)) (Xo O y4 8)) y5=yY:=fun _=>by
  rw[hy2,hy3,hy4,hy5,hyY];exact Be z2 z3 z4 z5
 have yb:(0<=y0/\y0<256)/\(0<=y1'/\y1'<256)/\(0<=y2'/\y2'<256)/\(0<=y3/\y3<256)/\(0<=y4/\y4<256)/\(0<=y5/\y5<256):=by
  rw[iR,Bw,hy2,hy3,hy4,hy5];omega
 obtain⟨⟨ya1,ya2⟩,⟨ya3,ya4⟩,⟨ya5,ya6⟩,⟨ya7,ya8⟩,⟨ya9,ZF2⟩,ZF3,ZF4⟩:=yb;have ee:QK key l=if (Lp key (l.take 6)).take 16≠l.drop 6 then 6 else JM y0 y1' yY:=by
  rw[iR,Bw,hyY];unfold QK;rw[if_neg nT]
 have eT:BI key l=if QK key l=0 then PO y0 y1' yY else BH:=by rw[iR,Bw,hyY];rfl
 have qI:∀i,i<22->V.hc h ⟨b,o+i,ao⟩=aa (R ae (l.getD i 0:Nat)):=fun i hi=>XI i nT;have q0:=qI 0 nT;have q1:=qI 1 nT;have q2:=qI 2 nT;have q3:=qI 3 nT;have q4:=qI 4 nT;have q5:=qI 5 nT;rw[<-iR]at q0;rw[<-Bw]at q1;rw[<-hy2]at q2;rw[<-hy3]at q3;rw[<-hy4]at q4;rw[<-hy5]at q5;obtain⟨h1,Xm⟩:=ZN (h.push (S BH.toArray 31):Hp);have b1:Zj h.size h h1:=by rw[Xm];exact Zj.push (ab _) _
 have s1:h1.size=h.size+1:=by rw[Xm];simp
 have x1:h1[h.size]? = aa (S BH.toArray 31):=by rw[Xm];exact Zc
 have e1:h.push (S #[Value.int O 0,R O 0,R O 0] 31)=h1:=Xm.symm;rw[hl]at sl XI ⊢;simp -implicitDefEqProofs only[go_sem,NE,fw];rw[e1];clear e1 Xm;have sl1:=sl.Yz b1;have s61:Bs h1 (Y (aa ⟨b,o,ao⟩) 6 cq) (l.take 6):=by
  rw[<-hl]at sl1;exact Bs.Md sl1 nT cq
 have t6:(l.take 6).length<=2000:=aac;obtain⟨M,hM⟩:=ZN ((Lp key (l.take 6)).take 16);have ml:(J M)<=140737488355328:=by rw[hM,a5];omega
 rw[<-hM]at ee;refine VS.mono (N:=fun F g=>Zj h1.size h1 g/\F 1=Y (aa ⟨b,o,ao⟩) 22 cq/\F 4=a7 (aa ⟨h.size,0,ao⟩)/\F 24=.bool (!decide (M=l.drop 6))) ?_ ?_ (fun _ _ _ h=>h) (fun _ _ h=>h)
 .refine VS.w (h1.size) [] (.q 0 (.q 1 (.q 2 (.q 4 (.q 5 (.s 3 (.s 6 (.q 7 .nil)))))))) mixed uj ?_;simp -implicitDefEqProofs only[go_sem,h6c,lJ,hc6,ck,cn];rw[<-NE];refine (bU T h1 _ _ key (l.take 6) (s.Yz b1) s61 nT t6 (tk.Qx b1)).use ?_;rintro w h2 ⟨⟨s2,_⟩,b2⟩;rw[<-hM]at s2;have sl2:=RY (sl1.Yz b2) (k:=6) nT hl (cq-6);simp -implicitDefEqProofs only[go_sem,b2];refine (Bd T h2 w _ M (l.drop 6) s2 sl2 ml).pure ?_;simp -implicitDefEqProofs only[go_sem,b2]
 rintro F g ⟨bg,f1,f4,f24⟩;have Bg:=b1.trans (bg.mono nT);have k0:g[h.size]? = aa (S BH.toArray 31):=bg.get nT x1;have k1:rd g ⟨h.size,0,ao⟩ 3=aa BH:=Zz k0 rfl;have k2:=Yd k0 0;have Oo:=Za k0;clear hM;unfold BH PO at *;by_cases hm:M=l.drop 6
 case neg=>
  have hd:decide (M=l.drop 6)=false:=decide_eq_false hm;rw[hd]at f24;rw[if_pos hm]at ee;rw[eT,ee];simp +contextual -implicitDefEqProofs only[go_sem,f1,f4,f24,k1,k2];exact Bg.Zs (ab _) _
 have hd:decide (M=l.drop 6)=true:=decide_eq_true hm;rw[hd]at f24;rw[if_neg (fun hn=>hn hm)]at ee;have e0:V.hc g ⟨b,o,ao⟩=aa (R ae y0):=by rw[Bg.hc (by exact hb)];exact q0
 have e1:V.hc g ⟨b,o+1,ao⟩=aa (R ae y1'):=by rw[Bg.hc (by exact hb)];exact q1
 have e2:V.hc g ⟨b,o+2,ao⟩=aa (R ae y2'):=by rw[Bg.hc (by exact hb)];exact q2
 have e3:V.hc g ⟨b,o+3,ao⟩=aa (R ae y3):=by rw[Bg.hc (by exact hb)];exact q3
 have e4:V.hc g ⟨b,o+4,ao⟩=aa (R ae y4):=by rw[Bg.hc (by exact hb)];exact q4
 have e5:V.hc g ⟨b,o+5,ao⟩=aa (R ae y5):=by rw[Bg.hc (by exact hb)];exact q5
 rw[eT,ee];clear iR Bw hy2 hy3 hy4 hy5 hyY;have DQ:b<g.size:=ct hb Bg.size;simp -implicitDefEqProofs only[go_sem,f1,f4,f24];refine VS.w (g.size) [32] (.q 0 (.q 1 (.q 2 (.q 3 (.q 4 (.q 5 (.q 6 (.q 7 (.q 8 (.q 9 (.q 10 (.q 11 (.q 12 (.q 13 (.q 14 (.q 15 (.q 16 (.q 17 (.q 18 (.q 19 (.q 20 (.q 21 (.q 22 (.q 23 (.q 24 (.q 25 (.q 26 (.q 27 (.q 28 (.q 29 (.q 30 (.s 31 (.w 32 .nil))))))))))))))))))))))))))))))))) mixed uj ?_;simp -implicitDefEqProofs only[go_sem,f1,f4,DQ,e0,e1,e2,e3,e4,e5,eo ()];refine (GM T _ y0 y1' yY).use ?_;rintro _ _ ⟨rfl,rfl⟩;unfold PO;obtain⟨E,hE⟩:=ZN (JM y0 y1' yY);rw[<-hE];by_cases q:E=0
 .rw[if_pos q];simp +contextual -implicitDefEqProofs only[go_sem,q,f1,f4,k1,k2,Oo]
  (repeat' (first|exact Zj.refl _ _|assumption|refine Zj.add ?_ _|refine Zj.Zs ?_ aaa _|refine Zj.trans aab ?_))
 .rw[if_neg q];simp +contextual -implicitDefEqProofs only[go_sem,q,f1,f4,k1,k2,Oo]
  (repeat' (first|exact Zj.refl _ _|assumption|refine Zj.add ?_ _|refine Zj.Zs ?_ aaa _|refine Zj.trans aab ?_))
def J7(s a i:Nat)(n:Int):Int:=if 256<s\/256<a\/256<i\/n<0\/512<n then 1 else 0
theorem qJ{p:Option Addr}{m c k c' b:Nat}(h:Yf (Y p m c)=aa b)(hc:c'≠0):Yf (Y p k c')=aa b:=by
 cases p with
 | none=>simp[Yf]at h
 | some a=>
  simp only[Yf]at h ⊢;split at h
  .cases h
  .rw[if_neg hc];exact h
theorem yQ{p:Option Addr}{m c b:Nat}(h:Yf (Y p m c)=aa b):c≠0:=by
 cases p with
 | none=>simp[Yf]at h
 | some a=>
  simp only[Yf]at h;split at h
  .cases h
  .assumption
def mF(B:Nat)(h':Hp)(v':aw)(JN TZ info:List Nat)(n:Int):Prop:=∃w,v'=.tuple [w,R O (J7 (J JN) (J TZ) (J info) n)].toArray/\PM w/\Bs h' w (if J7 (J JN) (J TZ) (J info) n=0 then GY JN TZ info n.toNat else [])/\∀b,Yf w=aa b->B<=b
theorem Fm(T:bo)(h:Hp)(vs va vi':aw)(JN TZ info:List Nat)(n:Int)(ss:Bs h vs JN)(sa:Bs h va TZ)(si:Bs h vi' info)(tk:Tk h):
  Zd bc T 25 #[vs,va,vi',R O n] h fun v' h'=>mF h.size h' v' JN TZ info n/\Zj h.size h h':=by
 obtain⟨p1,c1,rfl,_⟩:=ss.open;obtain⟨p2,c2,rfl,_⟩:=sa.open;obtain⟨p3,c3,rfl,_⟩:=si.open;refine Zd.XT [_,_,_,_] Tryz.func25 ?_;unfold mF;by_cases e1:256<(J JN)
 .have uz:256<((J JN):Int):=by omega
  have ee:J7 (J JN) (J TZ) (J info) n=1:=by unfold J7;rw[if_pos (.inl e1)]
  rw[ee];simp -implicitDefEqProofs only[go_sem,uz];exact⟨_,rfl,ab _,(Yx.nil 0 5 _).bs,fun b hb=>by simp[Yf]at hb⟩
 have uz:¬256<((J JN):Int):=by omega
 by_cases e2:256<(J TZ)
 .have e2':256<((J TZ):Int):=by omega
  have ee:J7 (J JN) (J TZ) (J info) n=1:=by unfold J7;rw[if_pos (.inr (.inl e2))]
  rw[ee];simp -implicitDefEqProofs only[go_sem,uz,e2'];exact⟨_,rfl,ab _,(Yx.nil 0 5 _).bs,fun b hb=>by simp[Yf]at hb⟩
 have e2':¬256<((J TZ):Int):=by omega
 by_cases e3:256<(J info)
 .have e3':256<((J info):Int):=by omega
  have ee:J7 (J JN) (J TZ) (J info) n=1:=by unfold J7;rw[if_pos (.inr (.inr (.inl e3)))]
  rw[ee];simp -implicitDefEqProofs only[go_sem,uz,e2',e3'];exact⟨_,rfl,ab _,(Yx.nil 0 5 _).bs,fun b hb=>by simp[Yf]at hb⟩
 have e3':¬256<((J info):Int):=by omega
 by_cases e4:n<0
 .have ee:J7 (J JN) (J TZ) (J info) n=1:=by unfold J7;rw[if_pos (.inr (.inr (.inr (.inl e4))))]
  rw[ee];simp -implicitDefEqProofs only[go_sem,uz,e2',e3',e4];exact⟨_,rfl,ab _,(Yx.nil 0 5 _).bs,fun b hb=>by simp[Yf]at hb⟩
 by_cases e5:512<n
 .have ee:J7 (J JN) (J TZ) (J info) n=1:=by unfold J7;rw[if_pos (.inr (.inr (.inr (.inr e5))))]
  rw[ee];simp -implicitDefEqProofs only[go_sem,uz,e2',e3',e4,e5];exact⟨_,rfl,ab _,(Yx.nil 0 5 _).bs,fun b hb=>by simp[Yf]at hb⟩
 have ee:J7 (J JN) (J TZ) (J info) n=0:=by unfold J7;rw[if_neg (by omega)]
 obtain⟨m,rfl⟩:∃m:Nat,n=m:=⟨n.toNat,by omega⟩
 rw[ee,ch];simp -implicitDefEqProofs only[go_sem,uz,e2',e3',e4,e5];refine (jl T _ _ _ TZ JN sa ss (by omega) (by omega) tk).use ?_;rintro vk h1 ⟨ok,b1⟩;have s1:=b1.size;obtain⟨key,Zdj⟩:=ZN (Lp TZ JN);rw[<-Zdj]at ok;have kl:(J key)=32:=by rw[Zdj];exact Sm _ _
 have hm:m<=512:=by omega
 have eS:GY JN TZ info m=(Sn key info 16).take m:=by rw[GY,Zdj]
 have dt:∀i,m<=32*i->i<=16->(Sn key info 16).take m=(Sn key info i).take m:=fun i h1 h2=>GX key info m i 16 h1 h2;rw[eS];clear eS Zdj;simp -implicitDefEqProofs only[go_sem];refine VS.Yk (fun F g=>Zj h1.size h1 g/\F 2=Y p3 (J info) c3/\F 3=R O m/\F 10=vk/\∃i:Nat,32*i<m+32/\F 13=R O ((i+1:Nat):Int)/\Yx h1.size 5 g (F 11) (Sn key info i)/\Yx h1.size 5 g (F 12) (NM key info i)/\∀b,Yf (F 12)=aa b->¬Yf (F 11)=aa b)
  (fun F _=>m+32-jj (F 11)) rfl ⟨Zj.refl _ _,rfl,rfl,rfl,0,by omega,rfl,Yx.nil _ _ _,Yx.nil _ _ _,fun b hb=>by cases hb⟩ ?_
 rintro F g ⟨hg,f2,f3,f10,i,hi,f13,oa,ot,Zmh⟩;have Oo:=hg.size;have Bg:=b1.trans (hg.mono s1);obtain⟨pa,ca,f11,hca⟩:=oa.open;have al:=VX key info i;rw[al]at f11 hca;by_cases ZS:32*i<m
 .have Z7:((32*i:Nat):Int)<(m:Int):=by omega
  have tl:=xP key info i;have i16:i<=16:=by omega
  have eT:NM key info (i+1)=Lp key (NM key info i++info++[(i+1)%256]):=rfl;have eA:Sn key info (i+1)=Sn key info i++NM key info (i+1):=rfl;obtain⟨lt,hlT⟩:∃x,x=NM key info i:=⟨_,rfl⟩
  rw[<-hlT]at ot tl eT;have OT:(i+1)%256<256:=Nat.mod_lt _ (by decide);obtain⟨X,hX⟩:=ZN ((i+1)%256);rw[<-hX]at eT OT;have ex:((i+1:Nat):Int)%256=(X:Int):=by rw[hX];rfl
  clear hX hlT;obtain⟨xi,hxi⟩:∃x:Int,x=((i+1:Nat):Int):=⟨_,rfl⟩
  rw[<-hxi]at ex f13;simp -implicitDefEqProofs only[go_sem,f2,f3,f10,f11,f13,Z7,ex];refine Ux (E:=5) (B:=h1.size) Xd aq Tv Si Sh ot Oo (si.Yz Bg) (by omega) ?_;intro w2 g2 o2 b2 bt2 bk2;have s2:=b2.size;have oa2:=oa.lI bt2 (fun b hb e=>Zmh b e hb);have ol2:(lt++info).length<=400:=by rw[aU];omega
  have Zui:∀b,Yf w2=aa b->¬Yf (F 11)=aa b:=fun b hb e=>by
   rcases bk2 b hb with q|q
   .exact Zmh b q e
   .have:=oa.Zm.lt b e;omega
  simp -implicitDefEqProofs only[go_sem,f2,f3,f10,f13,ex];refine Ux (E:=5) (B:=h1.size) Xd aq Tv Si Sh (o2.push _) (by simp;omega) (Bs.one OT 1) (by simp only[bx];omega) ?_;intro w3 g3 o3 b3 bt3 bk3;have s3:=b3.size;simp only[cF]at s3 bk3;have oa3:=(oa2.push (S [Value.int ae ((X:Nat):Int)].toArray 5)).lI bt3 (fun b hb e=>Zui b e hb);have Bg3:Zj h1.size h1 g3:=((hg.trans b2).YU (by omega) _).trans b3;have B3:=b1.trans (Bg3.mono s1);have ok3:=ok.Yz Bg3 (ab _);simp -implicitDefEqProofs only[go_sem,f2,f3,f10,f13];refine (jl T g3 vk w3 key _ ok3.bs o3.bs (by omega) (by rw[aU];simp only[bx];omega) (tk.Qx B3)).use ?_;rintro w4 g4 ⟨o4,b4⟩;rw[<-eT]at o4;have s4:=b4.size;have oa4:=oa3.Yz b4 (ab _);have Bg4:=Bg3.trans (b4.mono (by omega));rw[f11]at oa4;have tl1:=RU key info i;simp -implicitDefEqProofs only[go_sem,f2,f3,f10,f11,f13];refine Ux (E:=5) (B:=h1.size) Xd aq Tv Si Sh oa4 Bg4.size o4.bs (by rw[al,tl1];omega) ?_;intro w5 g5 o5 b5 bt5 bk5;have s5:=b5.size;obtain⟨p5,c5,rfl,_⟩:=o5.open;have Zhq:∀b,Yf w4=aa b->¬Yf (F 11)=aa b:=fun b hb e=>by
   have q1:=o4.Zm.ZW b hb;have q2:=oa3.Zm.lt b e;omega
  rw[f11]at Zhq;have o4':=(o4.mono (show h1.size<=g3.size by omega)).lI bt5 (fun b hb e=>Zhq b hb e);simp -implicitDefEqProofs only[go_sem,f2,f3,f10,f13];refine⟨⟨Bg4.trans b5,f2,f3,f10,i+1,by omega,?_,?_,o4',fun b hb e=>?_⟩,?_⟩
  .show Value.int O _=_;rw[hxi];rfl
  .rw[eA];exact o5
  .have e':Yf (Value.slice p5 (Sn key info i++NM key info (i+1)).length c5)=aa b:=e;rcases bk5 b e' with q|q
   .exact Zhq b hb q
   .have:=o4.Zm.lt b hb;omega
  .simp only[jj,Zq,↓reduceIte,Nat.reduceEqDiff,f11,aU,al,tl1];omega
 .have Xv:¬((32*i:Nat):Int)<(m:Int):=by omega
  have e6:=dt i (by omega) (by omega);rw[e6];have oab:=oa.bs;have oaB:=oa.Zm.ZW;rw[f11]at oab oaB;rw[<-al]at oab;have ue:(m:Int)<=(ca:Int):=by omega
  have hm0:(0:Int)<=(m:Int):=by omega
  have fin:=Bs.Md oab (m:=m) (by rw[al];omega) m;simp -implicitDefEqProofs only[go_sem,f2,f3,f11,Xv,ue,hm0,Bg];exact⟨_,rfl,ab _,fin,fun b hb=>Nat.le_trans (by omega) (oaB b (qJ hb (by have:=yQ hb;omega)))⟩
def Zfo(bf:List Nat)(k c s n v:Int)(a b:Nat):List Nat:=((bf++ZB [k.toNat,c.toNat,s.toNat,n.toNat,v.toNat])++Xj a)++Xj b
def bX(bf:List Nat)(k c s n v:Int)(a b:Nat):List Nat:=TX (Zfo bf k c s n v a b)
theorem LG(bf:List Nat)(k c s n v:Int)(a b:Nat):(bX bf k c s n v a b).length=32:=Qj _
theorem Zdk(T:bo)(h:Hp)(u:aw)(bf:List Nat)(su:Bs h u bf)(hbf:(J bf)=32)(k c s n v:Int)(he:Y0 k c s n v=0)(a b:Nat)(ha:a<=1073741824)(hb:b<=1073741824)(tk:Tk h):
  Zd bc T 20 #[u,ba (Uy k c s n v).toArray,ba [R O a,R O b].toArray] h fun v' h'=>Yx h.size 5 h' v' (bX bf k c s n v a b)/\Zj h.size h h':=by
 obtain⟨p,cp,rfl,_⟩:=su.open;refine Zd.XT [_,_,_] Tryz.func20 ?_;obtain⟨za,hza⟩:∃z:Int,z=(a:Int):=⟨_,rfl⟩
 obtain⟨zb,hzb⟩:∃z:Int,z=(b:Int):=⟨_,rfl⟩
 rw[<-hza,<-hzb];have e0:Uy k c s n v=[R O k,R O c,R O s,R O n,R O v]:=rfl;rw[e0];simp -implicitDefEqProofs only[go_sem];obtain⟨h0,Ql⟩:=ZN ((h.push (S [R O k,R O c,R O s,R O n,R O v].toArray 24)).push (S [R O za,R O zb].toArray 48):Hp);have b0:Zj h.size h h0:=by rw[Ql];exact ((Zj.refl _ _).add _).add _
 have s0:h0.size=h.size+2:=by rw[Ql];simp
 have x0:h0[h.size+1]? = aa (S [R O za,R O zb].toArray 48):=by
  rw[Ql,a6,if_pos (by simp)]
 rw[<-Ql];clear Ql;have en:=Ks T h0 k c s n v;rw[e0]at en;refine en.use ?_;rintro _ h1 ⟨⟨w1,rfl,q1⟩,b1⟩;rw[he,if_pos rfl]at q1;rw[he];have B1:=b0.trans (b1.mono b0.size);simp -implicitDefEqProofs only[go_sem];refine (Oj T h1 _ bf (su.Yz B1) (by omega)).use ?_;rintro w2 h2 ⟨o2,b2⟩;have B2:=B1.trans (b2.mono B1.size);have z1:=b1.size;have z2:=b2.size;have lc:(ZB [k.toNat,c.toNat,s.toNat,n.toNat,v.toNat]).length=20:=by rw[ZK];rfl
 simp -implicitDefEqProofs only[go_sem];refine ZJ (E:=5) (B:=h1.size) Xd aq Tv Si Sh o2 z2 (q1.Yz b2) (by omega) ?_;intro w3 h3 o3 b3 _;have B3:=B2.trans (b3.mono (by omega));have z3:=B3.size;have x3:h3[h.size+1]? = aa (S [R O za,R O zb].toArray 48):=b3.get (by omega) (b2.get (by omega) (b1.get (by omega) x0));have c0:V.hc h3 ⟨h.size+1,0,ao⟩=aa (R O za):=by rw[Zl x3];rfl
 have c1:V.hc h3 ⟨h.size+1,1,ao⟩=aa (R O zb):=by rw[Zl x3];rfl
 have mG:(bf++ZB [k.toNat,c.toNat,s.toNat,n.toNat,v.toNat]).length=52:=by rw[aU];omega
 unfold bX Zfo;generalize bf++ZB [k.toNat,c.toNat,s.toNat,n.toNat,v.toNat]=M at *;have o3':Yx h.size 5 h3 w3 M:=o3.mono (by omega);clear o3 q1 o2 en;obtain⟨a0,ha0⟩:∃y:Int,y=((a/16777216%256:Nat):Int):=⟨_,rfl⟩
 obtain⟨a1,ye⟩:∃y:Int,y=((a/65536%256:Nat):Int):=⟨_,rfl⟩
 obtain⟨a2,ha2⟩:∃y:Int,y=((a/256%256:Nat):Int):=⟨_,rfl⟩
 obtain⟨a3,ha3⟩:∃y:Int,y=((a%256:Nat):Int):=⟨_,rfl⟩
 have e1:Unit->XA O za 24%256=a0:=fun _=>by rw[hza,ha0,show (24:Int)=((24:Nat):Int) from rfl,Uf a 24 (by decide)];rfl
 have e2:Unit->XA O za 16%256=a1:=fun _=>by rw[hza,ye,show (16:Int)=((16:Nat):Int) from rfl,Uf a 16 (by decide)];rfl
 have e3:Unit->XA O za 8%256=a2:=fun _=>by rw[hza,ha2,show (8:Int)=((8:Nat):Int) from rfl,Uf a 8 (by decide)];rfl
 have e4:Unit->za%256=a3:=fun _=>by rw[hza,ha3];rfl
 obtain⟨b0',uh⟩:∃y:Int,y=((b/16777216%256:Nat):Int):=⟨_,rfl⟩
 obtain⟨b1',Gy⟩:∃y:Int,y=((b/65536%256:Nat):Int):=⟨_,rfl⟩
 obtain⟨uk,HI⟩:∃y:Int,y=((b/256%256:Nat):Int):=⟨_,rfl⟩
 obtain⟨b3',hb3⟩:∃y:Int,y=((b%256:Nat):Int):=⟨_,rfl⟩
 have f1:Unit->XA O zb 24%256=b0':=fun _=>by rw[hzb,uh,show (24:Int)=((24:Nat):Int) from rfl,Uf b 24 (by decide)];rfl
 have f2:Unit->XA O zb 16%256=b1':=fun _=>by rw[hzb,Gy,show (16:Int)=((16:Nat):Int) from rfl,Uf b 16 (by decide)];rfl
 have f3:Unit->XA O zb 8%256=uk:=fun _=>by rw[hzb,HI,show (8:Int)=((8:Nat):Int) from rfl,Uf b 8 (by decide)];rfl
 have f4:Unit->zb%256=b3':=fun _=>by rw[hzb,hb3];rfl
 have ea:([Value.int ae a0,R ae a1,R ae a2,R ae a3]:List aw)=(Xj a).map bv:=by rw[ha0,ye,ha2,ha3];rfl
 have eb:([Value.int ae b0',R ae b1',R ae uk,R ae b3']:List aw)=(Xj b).map bv:=by rw[uh,Gy,HI,hb3];rfl
 clear hza hzb ha0 ye ha2 ha3 uh Gy HI hb3;simp -implicitDefEqProofs only[go_sem,c0,c1];refine VS.rounds 3 rfl ?_;simp -implicitDefEqProofs only[go_sem,e1 (),e2 (),e3 (),e4 ()];rw[ea];have hla:(Xj a).length=4:=rfl;have hlb:(Xj b).length=4:=rfl;refine ZJ (E:=5) (B:=h.size) Xd aq Tv Si Sh (o3'.push _) (by simp;omega) (Bs.made (l:=Xj a) (UL a) 4) (by omega) ?_;intro w4 h4 o4 b4 _;have B4:=(B3.YU B3.size _).trans b4;simp -implicitDefEqProofs only[go_sem,f1 (),f2 (),f3 (),f4 ()];rw[eb];refine ZJ (E:=5) (B:=h.size) Xd aq Tv Si Sh (o4.push _) (by have:=B4.size;simp;omega) (Bs.made (l:=Xj b) (UL b) 4) (by rw[aU];omega) ?_;intro w5 h5 o5 b5 _;have B5:=(B4.YU B4.size _).trans b5;simp -implicitDefEqProofs only[go_sem];have l5:(M++Xj a++Xj b).length=60:=by rw[aU,aU];omega
 refine (KB T h5 w5 _ o5.bs (tk.Qx B5)).use ?_;rintro _ h6 ⟨⟨w6,rfl,o6⟩,b6⟩;have es:RZ (M++Xj a++Xj b).length=0:=by unfold RZ;rw[if_neg (by omega)]
 rw[es,if_pos rfl]at o6;rw[es];simp -implicitDefEqProofs only[go_sem];exact⟨o6.mono B5.size,B5.trans (b6.mono B5.size)⟩
structure Qo where
 k:Int
 c:Int
 s:Int
 n:Int
 v:Int
def Zdl(x:Qo):List aw:=[R O x.k,R O x.c,R O x.s,R O x.n,R O x.v]
structure fH where
 x:Qo
 a:Int
 b:Int
 sum:List Nat
structure bY where
 cs:List aw
 sum:List Nat
 out:List fH
def JK(cs:List aw)(x:Qo):Zlv:=QA cs x.k.toNat x.c.toNat x.s.toNat x.n.toNat x.v.toNat
def UO(cs:List aw)(x:Qo):Int:=OB cs x.k x.c x.s x.n x.v
def BJ(cs:List aw)(sum:List Nat)(x:Qo):List Nat:=bX sum x.k x.c x.s x.n x.v (JK cs x).code.toNat (JK cs x).val.toNat
def NV(st:bY)(x:Qo):bY:=⟨(JK st.cs x).cells,BJ st.cs st.sum x,st.out++[⟨x,(JK st.cs x).code,(JK st.cs x).val,BJ st.cs st.sum x⟩]⟩
def Fo:bY:=⟨Yy,bk 32 0,[]⟩
def Pa:bY->List Qo->Int × bY
 | st,[]=>(0,st)
 | st,x :: l=>if UO st.cs x=0 then Pa (NV st x) l else (UO st.cs x,st)
theorem yR(st:bY):Pa st []=(0,st):=rfl
theorem LH{st:bY}{x:Qo}{l:List Qo}(h:UO st.cs x=0):Pa st (x :: l)=Pa (NV st x) l:=by rw[Pa,if_pos h]
theorem KD{st:bY}{x:Qo}{l:List Qo}(h:¬UO st.cs x=0):Pa st (x :: l)=(UO st.cs x,st):=by rw[Pa,if_neg h]
theorem yS:∀(l:List Qo) (st:bY),(Pa st l).1=0->(Pa st l).2.out.length=(J st.out)+(J l):=by
 intro l
 induction l with
 | nil=>intro st _;rfl
 | cons y l ih=>
  intro st h;by_cases q:UO st.cs y=0
  .rw[LH q]at h ⊢;rw[ih _ h];simp[NV];omega
  .rw[KD q]at h;exact absurd h q
def yU(cs:List aw):Prop:=∀i,i<8->(0<=ci cs (16+i*2)/\ci cs (16+i*2)<=1073741824)/\(0<=ci cs (16+i*2+1)/\ci cs (16+i*2+1)<=1073741824)
theorem Su{cs:List aw}{i:Nat}(h:i<(J cs))(k:IntKind)(x:Int):ci (cs.set i (.int k x)) i=x:=by
 unfold ci;rw[YW,List.getElem?_set_self h]
theorem IN(cs:List aw)(k c n v:Nat):(Wg cs k c n v).1.length=(J cs):=by
 unfold Wg;split
 .simp
 .split
  .rfl
  .simp
theorem BK(cs:List aw)(k c n v:Nat)(hn:n<=7)(j:Nat)(h1:8<=j)(h2:j<32):ci (Wg cs k c n v).1 j=ci cs j:=by
 unfold Wg;split
 .exact Qb nT
 .split
  .rfl
  .exact Qb nT
theorem qL{cs:List aw}(h:Xq cs=false)(i:Nat)(hi:i<8):0<=ci cs i/\ci cs i<=1073741824:=by
 unfold Xq at h;rw[List.any_eq_false]at h;have:=h i (List.mem_range.2 hi);simp only[Bool.or_eq_true,not_or]at this;have h1:=this.1;simp only[Mk,decide_eq_true_eq]at h1;omega
theorem KF{cs:List aw}{x:Qo}(h:UO cs x=0):Xq cs=false/\Y0 x.k x.c x.s x.n x.v=0:=by
 unfold UO OB at h;split at h
 .cases h
 .rename_i q;exact⟨by simpa using q,h⟩
theorem qM{cs:List aw}(hl:(J cs)=40)(hb:Xq cs=false)(ho:yU cs)(k c s n v:Nat)(hn:n<=7)(hc:c<=7)(hv:v<=1073741824):
  yU (QA cs k c s n v).cells/\(0<=(QA cs k c s n v).code/\(QA cs k c s n v).code<=1073741824)/\(0<=(QA cs k c s n v).val/\(QA cs k c s n v).val<=1073741824):=by
 unfold QA;split
 .exact⟨ho,⟨(by decide:(0:Int)<=0),(by decide:(0:Int)<=1073741824)⟩,⟨(by decide:(0:Int)<=0),(by decide:(0:Int)<=1073741824)⟩⟩
 split
 .have:=ho c nT;exact⟨ho,this.1,this.2⟩
 split
 .exact⟨ho,⟨(by decide:(0:Int)<=7),(by decide:(7:Int)<=1073741824)⟩,⟨(by decide:(0:Int)<=0),(by decide:(0:Int)<=1073741824)⟩⟩
 split
 .exact⟨ho,⟨(by decide:(0:Int)<=11),(by decide:(11:Int)<=1073741824)⟩,⟨(by decide:(0:Int)<=0),(by decide:(0:Int)<=1073741824)⟩⟩
 have hA:(0<=(Wg cs k c n v).2/\(Wg cs k c n v).2<=1073741824):=by
  unfold Wg;split
  .exact⟨by simp only;omega,by simp only;omega⟩
  .split
   .exact qL hb n nT
   .exact⟨(by decide:(0:Int)<=0),(by decide:(0:Int)<=1073741824)⟩
 refine⟨?_,⟨(by decide:(0:Int)<=0),(by decide:(0:Int)<=1073741824)⟩,hA⟩;intro i hi;have hlen:=IN cs k c n v;have h1:=BK cs k c n v hn (16+i*2) nT nT;have h2:=BK cs k c n v hn (16+i*2+1) nT nT;simp only;by_cases e:i=c
 .subst e;rw[Qb nT,Su (by simp only[cL];omega),Su (by simp only[cL];omega)];exact⟨Iw,hA⟩
 .rw[Qb nT,Qb nT,Qb nT,Qb nT,Qb nT,Qb nT,h1,h2];exact ho i hi
theorem bZ:∀{ks:List (Option IntKind)} {vs:List aw} (i:Nat) {k:Option IntKind},Xa ks vs=true->ks[i]? = aa k->∃v,nth vs i=aa v/\VB k v=true:=by
 intro ks
 induction ks with
 | nil=>intro vs i k _ h;simp at h
 | cons a ks ih=>
  intro vs i k hf hk
  cases vs with
  | nil=>simp[Xa]at hf
  | cons x vs=>
   simp only[Xa,Bool.and_eq_true]at hf
   cases i with
   | zero=>simp only[List.getElem?_cons_zero,Option.some.injEq]at hk;subst hk;exact⟨x,rfl,hf.1⟩
   | succ i=>exact ih i hf.2 (by simpa using hk)
theorem Mr{cs:List aw}(hf:Xa JO cs=true):∀i,i<32->nth cs i=aa (R O (ci cs i)):=by
 intro i hi;have:∀i<32,JO[i]? = aa (aa O):=Iw;obtain⟨v,h1,h2⟩:=bZ i hf (this i hi);unfold ci;rw[h1]
 cases v<;>simp[VB]at h2
 rw[h2]
theorem OD{cs:List aw}(hf:Xa JO cs=true):∀i,32<=i->i<40->nth cs i=aa (.bool (cb cs i)):=by
 intro i h1 h2;have:∀j<8,JO[32+j]? = aa ao:=Iw;have e:=this (i-32) nT;rw[show 32+(i-32)=i by omega]at e;obtain⟨v,h1,h2⟩:=bZ i hf e;unfold cb;rw[h1]
 cases v<;>simp[VB]at h2
 rfl
structure Fp(st:bY):Prop where
 fit:Xa JO st.cs=true
 ans:yU st.cs
 sum:(J st.sum)=32
theorem HY:Fp Fo:=by
 refine⟨rfl,?_,rfl⟩;have:∀i<8,ci Yy (16+i*2)=0/\ci Yy (16+i*2+1)=0:=Iw;intro i hi;obtain⟨h1,h2⟩:=this i hi;show (0<=ci Yy (16+i*2)/\ci Yy (16+i*2)<=1073741824)/\(0<=ci Yy (16+i*2+1)/\ci Yy (16+i*2+1)<=1073741824)
 rw[h1,h2];decide
theorem H4{st:bY}(ok:Fp st){x:Qo}(h:UO st.cs x=0):Fp (NV st x)/\∃a b:Nat,(JK st.cs x).code=a/\(JK st.cs x).val=b/\a<=1073741824/\b<=1073741824:=by
 obtain⟨h1,h2⟩:=KF h;obtain⟨k,c,s,n,v,e1,e2,e3,e4,e5,y1,y2,y3,y4,y5⟩:=Jr h2;have hl:(J st.cs)=40:=YE ok.fit;have hd:JK st.cs x=QA st.cs k c s n v:=by unfold JK;rw[e1,e2,e3,e4,e5];rfl
 obtain⟨g1,g2,g3⟩:=qM hl h1 ok.ans k c s n v y4 y2 y5;have gf:=DJ ok.fit k c s n v y4 y2;rw[<-hd]at g1 g2 g3 gf;refine⟨⟨gf,g1,LG _ _ _ _ _ _ _ _⟩,(JK st.cs x).code.toNat,(JK st.cs x).val.toNat,?_,?_,?_,?_⟩<;>omega
def Pc(l:List Qo):Int:=(Pa Fo l).1
def SO(l:List Qo):List aw:=if Pc l=0 then (Pa Fo l).2.cs else Yy
def Ms(l:List Qo):List fH:=if Pc l=0 then (Pa Fo l).2.out else []
def yV(st:bY)(e:fH):Prop:=¬UO st.cs e.x=0\/¬((JK st.cs e.x).code=e.a/\(JK st.cs e.x).val=e.b)\/¬BJ st.cs st.sum e.x=e.sum
instance (st:bY)(e:fH):Decidable (yV st e):=by unfold yV;infer_instance
structure BL where
 x:Qo
 a:Int
 b:Int
 p:Option Addr
 m:Nat
 cp:Nat
def yW(e:BL):List aw:=[R O e.x.k,R O e.x.c,R O e.x.s,R O e.x.n,R O e.x.v,R O e.a,R O e.b,Y e.p e.m e.cp]
theorem yX(e:BL):(yW e).all YD=true:=rfl
def Zfp(Q:aw->List Nat->Prop)(e:BL)(t:fH):Prop:=e.x=t.x/\e.a=t.a/\e.b=t.b/\Q (Y e.p e.m e.cp) t.sum
def Hq(Q:aw->List Nat->Prop):List BL->List fH->Prop
 | [],[]=>True
 | e :: l,t :: k=>Zfp Q e t/\Hq Q l k
 | _,_=>False
variable {Q Q':aw->List Nat->Prop}
theorem Hq.mono(H:∀w s,Q w s->Q' w s):∀{l:List BL} {k:List fH},Hq Q l k->Hq Q' l k:=by
 intro l
 induction l with
 | nil=>intro k h;cases k with
  | nil=>trivial
  | cons=>exact h.elim
 | cons e l ih=>intro k h;cases k with
  | nil=>exact h.elim
  | cons t k=>exact⟨⟨h.1.1,h.1.2.1,h.1.2.2.1,H _ _ h.1.2.2.2⟩,ih h.2⟩
theorem Hq.length:∀{l:List BL} {k:List fH},Hq Q l k->(J l)=(J k):=by
 intro l
 induction l with
 | nil=>intro k h;cases k with
  | nil=>rfl
  | cons=>exact h.elim
 | cons e l ih=>intro k h;cases k with
  | nil=>exact h.elim
  | cons t k=>simp[ih h.2]
theorem Hq.snoc{e:BL}{t:fH}(h2:Zfp Q e t):∀{l:List BL} {k:List fH},Hq Q l k->Hq Q (l++[e]) (k++[t]):=by
 intro l
 induction l with
 | nil=>intro k h;cases k with
  | nil=>exact⟨h2,trivial⟩
  | cons=>exact h.elim
 | cons e l ih=>intro k h;cases k with
  | nil=>exact h.elim
  | cons t k=>exact⟨h.1,ih h.2⟩
structure UC(B:Nat)(h:Hp)(v:aw)(l:List fH):Prop where
 ex:∃es,Qv B 75 yW 8 h v es/\Hq (fun w s=>Yx B 5 h w s) es l
theorem UC.Yz{B C:Nat}{h h':Hp}{v:aw}{l:List fH}(s:UC B h v l)(a:Zj C h h')(hC:h.size<=C):UC B h' v l:=by
 obtain⟨es,s1,s2⟩:=s.ex;exact⟨es,s1.Yz a hC,s2.mono (fun w t q=>q.Yz a hC)⟩
theorem UC.mono{B B':Nat}{h:Hp}{v:aw}{l:List fH}(s:UC B h v l)(hB:B'<=B):UC B' h v l:=by
 obtain⟨es,s1,s2⟩:=s.ex;exact⟨es,s1.mono hB,s2.mono (fun w t q=>q.mono hB)⟩
theorem UC.Z9{B b:Nat}{h:Hp}{v:aw}{l:List fH}(s:UC B h v l)(hb:b<B)(o:Obj):UC B (h.setIfInBounds b o) v l:=by
 obtain⟨es,s1,s2⟩:=s.ex;exact⟨es,s1.Z9 hb o,s2.mono (fun w t q=>q.Z9 hb o)⟩
theorem UC.nil(B:Nat)(h:Hp):UC B h (Y ao 0 0) []:=⟨[],Qv.nil _ _ _ _ _,trivial⟩
theorem UC.open{B:Nat}{h:Hp}{v:aw}{l:List fH}(s:UC B h v l):∃p c,v=.slice p l.length c:=by
 obtain⟨es,s1,s2⟩:=s.ex;obtain⟨p,c,hv,_⟩:=s1.open;exact⟨p,c,by rw[hv,s2.length]⟩
end Go.Proofs.YtdapjaalaomghaaGreatDoor
namespace Go.Proofs.YtdapjaalaomghaaGreatDoor
open Go Go.V
set_option linter.all false
set_option maxRecDepth 100000
theorem qN{h:Hp}{v:aw}{l:List Qo}(s:Ts Zdl 5 h v l):∃p cap,v=Y p (J l) cap/\(l≠[]->∃b o,p=aa ⟨b,o,ao⟩/\b<h.size/\∀i (hi:i<(J l)),rd h ⟨b,o+i*5,ao⟩ 5=aa [R O l[i].k,R O l[i].c,R O l[i].s,R O l[i].n,R O l[i].v]):=by
 obtain⟨p,cap,hv,WE⟩:=Ts.open (enc:=Zdl) (n:=5) (fun _=>rfl) Iw s;refine⟨p,cap,hv,fun Y4=>?_⟩;obtain⟨b,o,hp,hb,XI⟩:=WE Y4;exact⟨b,o,hp,hb,fun i hi=>(XI i hi).rd (by simp[Zdl]) rfl⟩
theorem mH{cs:List aw}(hf:Xa JO cs=true)(x:Qo):∃(D:List aw) (a b:Int),doL cs x.k x.c x.s x.n x.v=[ba D.toArray,ba [R O a,R O b].toArray,R O (UO cs x)]/\Xa JO D=true/\(UO cs x=0->D=(JK cs x).cells/\a=(JK cs x).code/\b=(JK cs x).val):=by
 unfold doL UO JK;by_cases e:OB cs x.k x.c x.s x.n x.v=0
 .rw[if_pos e];refine⟨_,_,_,by rw[e],?_,fun _=>⟨rfl,rfl,rfl⟩⟩;have e2:Y0 x.k x.c x.s x.n x.v=0:=(KF (cs:=cs) (x:=x) e).2;obtain⟨k,c,s,n,v,e1,e2,e3,e4,e5,y1,y2,y3,y4,y5⟩:=Jr e2;rw[e1,e2,e3,e4,e5];exact DJ hf _ _ _ _ _ (by simpa using y4) (by simpa using y2)
 .rw[if_neg e];exact⟨_,_,_,rfl,rfl,fun h=>absurd h e⟩
theorem KH{B B' n n' m m':Nat}{E E':TypeId}{h:Hp}{v u:aw}{cs ds:List aw}(hE:E≠E')(s:UK B E n h v m cs)(t:UK B' E' n' h u m' ds):∀b,Yf v=aa b->Yf u≠aa b:=by
 intro b hb hc;rcases s with⟨⟨p,rfl⟩,_,_⟩|⟨b1,cap,sp,_,rfl,hx,_⟩
 .cases p<;>simp[Yf]at hb
 rcases t with⟨⟨p,rfl⟩,_,_⟩|⟨b2,Zun,sp2,_,rfl,hy,_⟩
 .cases p<;>simp[Yf]at hc
 simp only[Yf]at hb hc;split at hb
 .cases hb
 split at hc
 .cases hc
 obtain rfl:=Option.some.inj hb;obtain rfl:=Option.some.inj hc;rw[hx]at hy;simp only[Option.some.injEq,Obj.cells.injEq]at hy;exact hE hy.2.1
theorem UC.app{B:Nat}{h h':Hp}{v:aw}{es:List BL}{l:List fH}(s1:Qv B 75 yW 8 h v es)(s2:Hq (fun w s=>Yx B 5 h w s) es l)(a:RM (Yf v) h h'):Hq (fun w s=>Yx B 5 h' w s) es l:=
 s2.mono (fun w t q=>q.lI a (fun b hb=>KH Iw q.Zm s1.Zm b hb))
theorem yZ(T:bo)(h:Hp)(u:aw)(l:List Qo)(s:Ts Zdl 5 h u l)(tk:Tk h):
  Zd bc T 9 #[u] h fun v' h'=>(∃w E D,v'=.tuple [w,.agg D.toArray,.int .i64 E].toArray/\(E,D)=(if 200<l.length then (1,Yy) else (Pc l,SO l))/\UC h.size h' w (if 200<l.length then [] else Ms l))/\Zj h.size h h':=by
 obtain⟨p,cp,rfl,WE⟩:=qN s;have hZ:Yy.length=40:=rfl;have hZo:Yy.all YD=true:=rfl;refine Zd.Ld [_] Tryz.func9 ?_;by_cases big:200<l.length
 .have Zhr:(200:Int)<l.length:=nT;simp -implicitDefEqProofs only[go_sem,Zhr,big];exact⟨_,_,_,rfl,rfl,UC.nil _ _⟩
 have Zhr:¬(200:Int)<l.length:=nT;simp -implicitDefEqProofs only[go_sem,Zhr,big];have z32:Yx (h.size+2) 5 (((h.push (.cells Yy.toArray 52)).push (.cells Yy.toArray 52)).push (.cells ((bk 32 0).map bv).toArray 5)) (.slice (aa ⟨h.size+1+1,0,ao⟩) 32 32) (bk 32 0):=by
  have:=Yx.made (B:=h.size+2) (E:=5) (h:=(h.push (.cells Yy.toArray 52)).push (.cells Yy.toArray 52)) (l:=bk 32 0) Iw uK;simp only[cF,List.length_replicate]at this;exact this
 refine VS.Yk (fun F g=>Zj h.size h g/\F 0=.slice p l.length cp/\F 3=.pointer (aa ⟨h.size,0,ao⟩)/\F 5=.pointer (aa ⟨h.size+1,0,ao⟩)/\F 18=.slice p l.length cp/\F 19=.int .i64 l.length/\g[h.size]? = aa (.cells Yy.toArray 52)/\∃(i:Nat) (st:bY),i<=l.length/\F 20=.int .i64 i/\Pa Fo l=Pa st (l.drop i)/\Fp st/\st.out.length=i/\g[h.size+1]? = aa (.cells st.cs.toArray 52)/\UC (h.size+2) g (F 6) st.out/\Yx (h.size+2) 5 g (F 7) st.sum)
  (fun F _=>l.length-(vi (F 20)).toNat) rfl ⟨?_,rfl,rfl,rfl,rfl,rfl,?_,0,Fo,nT,rfl,rfl,HY,rfl,?_,UC.nil _ _,z32⟩ ?_
 ·(repeat' (first|exact Zj.refl _ _|assumption|refine Zj.add ?_ _|refine Zj.Zs ?_ aaa _|refine Zj.trans aab ?_))
 .rw[a6,if_neg Ig,a6,if_neg uK,Zc];rfl
 .rw[a6,if_neg uK,a6,if_pos uK];rfl
 clear z32;rintro F g ⟨hg,f0,f3,f5,f18,f19,x0,i,st,hi,f20,hr,ok,ho,x1,oe,os⟩;have gs:=hg.size;have g1:=Za x1;by_cases ZS:i<l.length
 .have Z7:(i:Int)<l.length:=nT;obtain⟨bb,oo,rfl,T5,XI⟩:=WE (by intro e;rw[e]at ZS;simp at ZS);have r1:=XI i ZS;obtain⟨x,hx⟩:=ZN (l[i]);rw[<-hx,<-Um hg (by exact T5)]at r1;have hdr:l.drop i=x :: l.drop (i+1):=by rw[hx];exact List.drop_eq_getElem_cons ZS
  rw[hdr]at hr;have JS:st.cs.length=40:=YE ok.fit;have tkc:=XB JS;have rs:=Zz x1 JS;have bQ:¬h.size+1=g.size:=nT;simp -implicitDefEqProofs only[go_sem,f0,f3,f5,f18,f19,f20,Z7,r1,rs,bQ,JS,tkc];refine (Fa T _ st.cs x.k x.c x.s x.n x.v ok.fit (Mr ok.fit) (OD ok.fit)).use ?_;rintro _ h1 ⟨hd,b1⟩;obtain⟨D,a,b,hL,fD,hz⟩:=mH ok.fit x;unfold yk at hd;rw[hL]at hd;subst hd;have z1:g.size+1<=h1.size:=by have:=b1.size;simp at this;omega
  have B1:Zj g.size g h1:=(Zj.push (ab _) _).trans (b1.mono uK);have y9:h1[g.size]? = aa (.cells [.int .i64 x.k,.int .i64 x.c,.int .i64 x.s,.int .i64 x.n,.int .i64 x.v].toArray 24):=b1.get uK Zc;have D40:D.length=40:=YE fD;have mo:=Re fD;have qj:=XB D40;simp -implicitDefEqProofs only[go_sem,D40,mo,Z4,qj];obtain⟨h2,VZ⟩:=ZN ((h1.push (.cells D.toArray 52)).push (.cells [.int .i64 a,.int .i64 b].toArray 48):Hp);have b2:Zj h1.size h1 h2:=by rw[VZ];exact ((Zj.refl _ _).add _).add _
  have z2:h2.size=h1.size+2:=by rw[VZ];simp
  have y10:h2[h1.size]? = aa (.cells D.toArray 52):=by rw[VZ,a6,if_neg uK,Zc]
  have y11:h2[h1.size+1]? = aa (.cells [.int .i64 a,.int .i64 b].toArray 48):=by rw[VZ,a6,if_pos uK]
  rw[<-VZ];clear VZ;have B2:Zj g.size g h2:=B1.trans (b2.mono nT);have Bh2:=hg.trans (B2.mono gs);have x02:=B2.get nT x0;have x12:=B2.get nT x1;have y92:=b2.get nT y9;by_cases e:UO st.cs x=0
  case neg=>
   have hE:Pa Fo l=(UO st.cs x,st):=by rw[hr,KD e]
   have eE:Pc l=UO st.cs x:=by unfold Pc;rw[hE]
   have eS:SO l=Yy:=by unfold SO;rw[eE,if_neg e]
   have eO:Ms l=[]:=by unfold Ms;rw[eE,if_neg e]
   have w0:=Yd x02 0 Yy;rw[if_pos ⟨uK,rfl⟩,Z4 rfl]at w0;have w0':wr h2 ⟨h.size,0,ao⟩ [.int .i64 0,.int .i64 0,.int .i64 0,.int .i64 0,.int .i64 0,.int .i64 0,.int .i64 0,.int .i64 0,.int .i64 0,.int .i64 0,.int .i64 0,.int .i64 0,.int .i64 0,.int .i64 0,.int .i64 0,.int .i64 0,.int .i64 0,.int .i64 0,.int .i64 0,.int .i64 0,.int .i64 0,.int .i64 0,.int .i64 0,.int .i64 0,.int .i64 0,.int .i64 0,.int .i64 0,.int .i64 0,.int .i64 0,.int .i64 0,.int .i64 0,.int .i64 0,.bool false,.bool false,.bool false,.bool false,.bool false,.bool false,.bool false,.bool false]=aa (h2.setIfInBounds h.size (.cells Yy.toArray 52)):=w0;have Hd:h.size<h2.size:=nT;rw[eE,eS,eO];simp -implicitDefEqProofs only[go_sem,f3,e,w0',Hd,hZ,hZo];exact⟨⟨_,_,_,rfl,rfl,UC.nil _ _⟩,Bh2.Zs (ab _) _⟩
  have r10:=Zz y10 D40;have w1:=Yd x12 0 D;rw[if_pos ⟨nT,mo⟩,Z4 nT]at w1;obtain⟨h3,Fq⟩:=ZN (h2.setIfInBounds (h.size+1) (.cells D.toArray 52):Hp);rw[<-Fq]at w1;have z3:h3.size=h2.size:=by rw[Fq];simp
  have x13:h3[h.size+1]? = aa (.cells D.toArray 52):=by rw[Fq,a9,if_pos rfl,if_pos nT]
  have n3:∀k,k≠h.size+1->h3[k]? = h2[k]?:=fun k hk=>by rw[Fq,a9,if_neg nT]
  have x03:h3[h.size]? = aa (.cells Yy.toArray 52):=by rw[n3 _ nT];exact x02
  have y93:=(n3 g.size nT).trans y92;have Zmj:=(n3 (h1.size+1) nT).trans y11;have fG:Zj h.size h h3:=by rw[Fq];exact Bh2.Zs nT _
  have os3:Yx (h.size+2) 5 h3 (F 7) st.sum:=by rw[Fq];exact (os.Yz B2 (ab _)).Z9 nT _
  have oe3:UC (h.size+2) h3 (F 6) st.out:=by rw[Fq];exact (oe.Yz B2 (ab _)).Z9 nT _
  clear Fq;obtain⟨p7,c7,hf7,_⟩:=os3.open;have r9:=Zz y93 (n:=5) rfl;have r11:=Zz Zmj (n:=2) rfl;obtain⟨ok',a',b',ea,eb,la,lb⟩:=H4 ok e;obtain⟨hD,ha,hb⟩:=hz e;rw[ea]at ha;rw[eb]at hb;have EB:BJ st.cs st.sum x=bX st.sum x.k x.c x.s x.n x.v a' b':=by unfold BJ;rw[ea,eb];rfl
  subst ha hb;rw[hf7]at os3;simp -implicitDefEqProofs only[go_sem,f5,hf7,e,r10,w1,r9,r11];refine (Zdk T h3 _ st.sum os3.bs ok.sum x.k x.c x.s x.n x.v (KF e).2 a' b' la lb (tk.Qx fG)).use ?_;rintro w4 h4 ⟨o4,b4⟩;have z4:=b4.size;have Bh4:=fG.trans (b4.mono fG.size);have x04:=b4.get nT x03;have x14:=b4.get nT x13;have y94:=b4.get nT y93;have Zuq:=b4.get nT Zmj;have r94:=Zz y94 (n:=5) rfl;have Zur:=Zz Zuq (n:=2) rfl;have oe4:=oe3.Yz b4 (ab _);obtain⟨p6,c6,hf6⟩:=oe3.open;rw[hf6]at oe4;rw[<-EB]at o4;have ls:(BJ st.cs st.sum x).length=32:=by rw[EB];exact LG _ _ _ _ _ _ _ _
  obtain⟨pw4,cw4,rfl,_⟩:=o4.open;have k1:g.size<h4.size:=nT;have k2:h1.size+1<h4.size:=nT;refine VS.w (h4.size) [7,8] (.q 0 (.q 1 (.q 2 (.q 3 (.s 4 (.q 5 (.s 6 (.w 7 (.w 8 .nil))))))))) mixed uj ?_;simp -implicitDefEqProofs only[go_sem,hf6,r94,Zur,k1,k2];refine (Oj T h4 _ _ o4.bs nT).use ?_;rintro w5 h5 ⟨o5,b5⟩;obtain⟨p5,c5,rfl,_⟩:=o5.open;have z5:=b5.size;have oe5:=oe4.Yz b5 (ab _);obtain⟨es,s1,s2⟩:=oe5.ex;have les:=s2.length;have XW:=Ts.one (E:=75) (h:=h5) (enc:=yW) (n:=8) ⟨x,a',b',p5,(BJ st.cs st.sum x).length,c5⟩ (fun _=>rfl) 1;unfold yW at XW;have k3:g.size<h5.size:=nT;simp -implicitDefEqProofs only[go_sem,b5];refine Rb (E:=75) (B:=h.size+2) (n:=8) (bytes:=80) ZkU Tryz.underlying45 Zse Zsg rfl Zsf yX (s1.push _) Ig XW aah nT ?_;intro w6 h6 o6 _ b6;have s2':=UC.app (s1.push _) (s2.mono (fun w t q=>q.push _)) b6;have b56:Zj (h.size+2) h5 h6:=(Zj.push nT _).trans (b6.Yz Ig s1.Zm.ZW);have Az:Zj h.size h h6:=(Bh4.trans (b5.mono Bh4.size)).trans (b56.mono nT);have z6:=b56.size;have x06:=b56.get nT (b5.get nT x04);have x16:=b56.get nT (b5.get nT x14);have q5:=((o5.mono (B':=h.size+2) nT).push (.cells [.int .i64 x.k,.int .i64 x.c,.int .i64 x.s,.int .i64 x.n,.int .i64 x.v,.int .i64 (a':Nat),.int .i64 (b':Nat),.slice p5 (BJ st.cs st.sum x).length c5].toArray 75)).lI b6 (fun b hb=>KH Iw o5.Zm s1.Zm b hb);have q4:=(((o4.mono (B':=h.size+2) nT).Yz b5 (ab _)).push (.cells [.int .i64 x.k,.int .i64 x.c,.int .i64 x.s,.int .i64 x.n,.int .i64 x.v,.int .i64 (a':Nat),.int .i64 (b':Nat),.slice p5 (BJ st.cs st.sum x).length c5].toArray 75)).lI b6 (fun b hb=>KH Iw (o4.Yz b5 (ab _)).Zm s1.Zm b hb);simp -implicitDefEqProofs only[go_sem,f20];refine⟨⟨Az,f0,f3,f5,f18,f19,x06,i+1,NV st x,ZS,rfl,?_,ok',?_,?_,?_,q4⟩,?_⟩
  .rw[hr,LH e]
  .simp only[NV,aU,bx];omega
  .rw[show (NV st x).cs=D from hD.symm];exact x16
  .exact⟨_,o6,s2'.snoc ⟨rfl,ea.symm,eb.symm,q5⟩⟩
  .simp only[vi,Zq,↓reduceIte,f20];omega
 .have Xv:¬(i:Int)<l.length:=nT;obtain rfl:i=l.length:=nT;rw[List.drop_length,yR]at hr;have eE:Pc l=0:=by unfold Pc;rw[hr]
  have eS:SO l=st.cs:=by unfold SO;rw[eE,if_pos rfl,hr]
  have eO:Ms l=st.out:=by unfold Ms;rw[eE,if_pos rfl,hr]
  have JS:st.cs.length=40:=YE ok.fit;have XW:=Re ok.fit;have r1:=Zz x1 JS;have w0:=Yd x0 0 st.cs;rw[if_pos ⟨nT,XW⟩,Z4 nT]at w0;have hl0:h.size<g.size:=nT;obtain⟨p6,c6,hf6⟩:=oe.open;rw[eE,eS,eO];simp -implicitDefEqProofs only[go_sem,f18,f19,f20,Xv];refine VS.w (h.size) [] (.q 0 (.q 2 (.s 1 (.s 3 (.q 4 .nil))))) mixed uj ?_;simp -implicitDefEqProofs only[go_sem,f3,f5,hf6,r1,w0,hl0,g1];have oe':=oe;rw[hf6]at oe';exact⟨⟨_,0,st.cs,by rw[XB JS],rfl,(oe'.Z9 nT _).mono nT⟩,hg.Zs (ab _) _⟩
end Go.Proofs.YtdapjaalaomghaaGreatDoor
