/- Part Chw. -/
import Derived.Test.YtdpjmhgbmhjniaaGreatDoorTab
import Derived.Test.YtdpjmhgbmhjniaaGreatDoorW18
import Derived.Test.YtdpjmhgbmhjniaaGreatDoorBytes
import Derived.Test.YtdpjmhgbmhjniaaGreatDoorTape
import Derived.Test.YtdpjmhgbmhjniaaGreatDoorW12
import Derived.Test.YtdpjmhgbmhjniaaGreatDoorPik
import Derived.Test.YtdpjmhgbmhjniaaGreatDoorShaq
import Derived.Test.YtdpjmhgbmhjniaaGreatDoorW14
import Derived.Test.YtdpjmhgbmhjniaaGreatDoorVst
open Go.Value renaming int→H,slice→R,pointer→az,agg→a4
open Go.IntKind renaming i64→J,u32→S,u8→ao
open Go.Obj renaming cells→O
open Go.Proofs.Tryz renaming underlying39→av,prog→a2
open List renaming length→t,getD_eq_getElem?_getD→aa,append_nil→aw,length_take→ay,length_append→aI,getElem?_eq_getElem→a1,take_of_length_le→a5,length_cons→a6,drop_of_length_le→a7,length_nil→a9,getElem?_append_right→ba,length_singleton→be,length_drop→bo,not_mem_nil→bw,mem_cons→bx,nil_append→bz,take_zero→bE,getElem?_drop→bG,replicate→bS,drop_zero→bT,flatMap_append→bU,append_assoc→b9,getElem?_map→cc,flatMap_cons→cf,flatMap_nil→ch
open Nat renaming le_refl→Z,div_eq_of_lt→bk,min_eq_left→bA,sub_self→bD,sub_zero→bL,zero_mul→bR,lt_of_lt_of_le→b8,add_zero→cd
open Int renaming toNat_natCast→bH
open Option renaming some→Y,none→am
open Array renaming getElem?_push→a3,getElem?_setIfInBounds→a8,size_setIfInBounds→bK
open Go renaming Value→a0,World→bc
namespace Go.Proofs.YtdpjmhgbmhjniaaGreatDoor
open Go Go.V
set_option linter.all false
set_option maxRecDepth 100000
abbrev NT(h:Hp)(v:a0)(l:List Nat):Prop:=Ts (fun x=>[nv x]) 1 h v l
theorem X9(T:bc)(h:Hp)(x n:Nat)(hx:x<4294967296)(hn:n<=32):
  Zc a2 T 140 #[H S x,H J n] h fun v' h'=>v'=H S (rr x n:Nat)/\h'=h:=by
 refine Zc.Y8 [_,_] Tryz.func140 ?_;have e1:=Ki x (32-n) gX;have e2:=UC x n hn;have e3:(32:Int)-n=((32-n:Nat):Int):=gX;have e4:=SC (x/2 ^ n) (x*2 ^ (32-n)%4294967296) (Nat.lt_of_le_of_lt (Nat.div_le_self _ _) hx) gX;have e5:¬(n:Int)<0:=gX;have e6:¬((32-n:Nat):Int)<0:=gX;have e7:=fD hx (show 32-n<=32 by omega);rw[show 32-(32-n)=n by omega,Nat.or_comm]at e7;rw[e7]at e4;unfold rr;simp +contextual -implicitDefEqProofs only[go_sem];refine VS.q mixed po ?_;simp +contextual -implicitDefEqProofs only[go_sem,e3,e1,e2,e4,e5,e6]
theorem ym{a b c d:Nat}(ha:a<256)(hb:b<256)(hc:c<256)(hd:d<256):
  Ym .or S (Ym .or S (Ym .or S (YS S a 24) (YS S b 16)) (YS S c 8)) d=((a*16777216+b*65536+c*256+d:Nat):Int):=by
 have sb:∀{x k:Nat},x<256->k<=24->YS S (x:Int) (k:Int)=((x*2 ^ k:Nat):Int):=by
  intro x k hx hk;rw[Ki x k gX,Nat.mod_eq_of_lt];have:2 ^ k<=2 ^ 24:=Nat.pow_le_pow_right gX hk;have h2:x*2 ^ k<=255*2 ^ 24:=Nat.mul_le_mul gX this;omega
 have e1:YS S (a:Int) 24=((a*16777216:Nat):Int):=sb (k:=24) ha gX;have e2:YS S (b:Int) 16=((b*65536:Nat):Int):=sb (k:=16) hb gX;have e3:YS S (c:Int) 8=((c*256:Nat):Int):=sb (k:=8) hc gX;have f1:a*16777216 ||| b*65536=a*16777216+b*65536:=Qn (k:=24) gX gX
 have f2:(a*16777216+b*65536) ||| c*256=a*16777216+b*65536+c*256:=Qn (k:=16) gX gX
 rw[e1,e2,e3,SC _ _ gX gX,f1,SC _ _ gX gX,f2,SC _ _ gX gX,Qn (k:=8) gX gX]
theorem Og(xs zs:List Nat)(i:Nat)(hi:i<(t xs))(hz:(t xs)=(t zs)):(xs.take i++zs.drop i).set i (xs.getD i 0)=xs.take (i+1)++zs.drop (i+1):=by
 rw[aa,a1 hi];exact N0 xs zs i hi hz
def Ns(b:List Nat)(i:Nat):List Nat:=Qu b i++bS (64-i) 0
theorem UT{b:List Nat}{i:Nat}(hi:i<=64):(Ns b i).length=64:=by simp[Ns,Jp];omega
theorem jV{b:List Nat}{i j:Nat}(hj:j<i):(Ns b i).getD j 0=(Qu b i).getD j 0:=by
 rw[Ns,aa,List.getElem?_append_left (by rw[Jp];exact hj),<-aa]
theorem qM{b:List Nat}{i:Nat}(hi:i<64):(Ns b i).set i (Ev b (Qu b i))=Ns b (i+1):=by
 rw[Ns,List.set_append_right _ _ (by rw[Jp];exact Z _),Jp,bD,show 64-i=(64-(i+1))+1 by omega,List.replicate_succ,List.set_cons_zero,Ns,Qu,b9];rfl
theorem jW(b:List Nat):Ns b 64=Qu b 64:=by simp[Ns]
theorem Fh{b:List Nat}(hb:Pe b){i j:Nat}:(Qu b i).getD j 0<4294967296:=(Iv hb i).getD j
theorem C0(T:bc)(h:Hp)(bd:Nat)(d:List Nat)(v:a0)(b:List Nat)(hd:(t d)=8)(wd:RH d)(sb:Bs h v b)(hb:(t b)=64)(tk:Dl 2 wv kN h)(hx:h[bd]? = Y (O (d.map wv++[]).toArray 209))(hg:2≠bd):
  Zc a2 T 110 #[az (Y ⟨bd,0,am⟩),v] h fun v' h'=>Ue (Y bd) h h'/\h'[bd]? = Y (O ((Cn d b).map wv++[]).toArray 209):=by
 obtain⟨p,c,rfl,UX⟩:=sb.UM;obtain⟨bb,ob,rfl,U9,YR⟩:=UX (by intro e;subst e;simp at hb);have jX:Pe b:=sb.byte;refine Zc.Y8 [_,_] Tryz.func110 ?_;rw[hb];have bJ:=Za hx;have b0:Zf h.size h (h.push (O (Jl 64 [Value.int S 0]).toArray 236)):=Zf.push (Z _) _;have x0:∀A:Array a0,A=((Ns b 0).map wv).toArray->(h.push (O A 236))[h.size]? = Y (O ((Ns b 0).map wv++[]).toArray 236):=by
  rintro _ rfl;rw[aw];exact Zb
 simp -implicitDefEqProofs only[go_sem];refine VS.Z9 (fun F g=>Zf h.size h g/\F 0=az (Y ⟨bd,0,am⟩)/\F 1=R (Y ⟨bb,ob,am⟩) 64 c/\F 4=az (Y ⟨h.size,0,am⟩)/\∃i:Nat,i<=64/\F 16=H J i/\g[h.size]? = Y (O ((Ns b i).map wv++[]).toArray 236))
  (fun F _=>64-(vi (F 16)).toNat) rfl ⟨b0,rfl,rfl,rfl,0,gX,rfl,by exact x0 _ (by rfl)⟩ ?_
 clear b0 x0;rintro F g ⟨fV,f0,f1,f4,i,hi,f16,hw⟩;have xp:=Za hw;by_cases ZL:i<64
 .have ZW:(i:Int)<64:=gX;have fin:∀X:Nat,X=Ev b (Qu b i)->Jb g ⟨h.size,i,am⟩ (H S (X:Nat))=Y (g.setIfInBounds h.size (O ((Ns b (i+1)).map wv++[]).toArray 236)):=by
   intro X hX;have:=Yk (f:=wv) hw (i:=i) (by rw[UT hi];exact ZL) X rfl;rw[hX,qM ZL]at this;rw[hX];exact this
  by_cases h16:i<16
  .have Zdk:(i:Int)<16:=gX;have g0:∀j,j<64->hc g ⟨bb,ob+j,am⟩=Y (H ao (b.getD j 0:Nat)):=fun j hj=>by rw[fV.hc (by exact U9)];exact YR j gX
   have e0:=g0 (4*i) gX;have e1:=g0 (4*i+1) gX;have e2:=g0 (4*i+2) gX;have e3:=g0 (4*i+3) gX;have y0:=ZT jX (4*i);have y1:=ZT jX (4*i+1);have y2:=ZT jX (4*i+2);have y3:=ZT jX (4*i+3);have t0:(4*(i:Int)).toNat=4*i:=gX;have t1:(4*(i:Int)+1).toNat=4*i+1:=gX;have t2:(4*(i:Int)+2).toNat=4*i+2:=gX;have t3:(4*(i:Int)+3).toNat=4*i+3:=gX;have eo:=fun (_:Unit)=>ym y0 y1 y2 y3;rw[show b.getD (4*i) 0*16777216+b.getD (4*i+1) 0*65536+b.getD (4*i+2) 0*256+b.getD (4*i+3) 0=XZ b (4*i) from rfl]at eo;have m0:((b.getD (4*i) 0:Nat):Int)%4294967296=(b.getD (4*i) 0:Nat):=gX;have m1:((b.getD (4*i+1) 0:Nat):Int)%4294967296=(b.getD (4*i+1) 0:Nat):=gX;have m2:((b.getD (4*i+2) 0:Nat):Int)%4294967296=(b.getD (4*i+2) 0:Nat):=gX;have m3:((b.getD (4*i+3) 0:Nat):Int)%4294967296=(b.getD (4*i+3) 0:Nat):=gX;have cs:=fin (XZ b (4*i)) (by unfold Ev;rw[Jp,if_pos h16]);simp -implicitDefEqProofs only[go_sem,f0,f1,f4,f16,ZW,Zdk];refine VS.w (g.size) [35] (.q 0 (.q 1 (.q 2 (.q 3 (.q 4 (.q 5 (.q 6 (.q 7 (.q 8 (.q 9 (.q 10 (.q 11 (.q 12 (.q 13 (.q 14 (.q 15 (.q 16 (.q 17 (.q 18 (.q 19 (.q 20 (.q 21 (.q 22 (.q 23 (.q 24 (.q 25 (.q 26 (.q 27 (.q 28 (.q 29 (.q 30 (.q 31 (.q 32 (.q 33 (.q 34 (.w 35 .nil)))))))))))))))))))))))))))))))))))) mixed po ?_;have ZhY:bb<g.size:=b8 U9 fV.size;simp -implicitDefEqProofs only[go_sem,f0,f1,f4,f16,e0,e1,e2,e3,t0,t1,t2,t3,m0,m1,m2,m3,eo (),ZhY,cs];refine⟨⟨fV.Zj (Z _) _,f0,f1,f4,i+1,ZL,rfl,Z1 hw⟩,?_⟩;simp only[vi,Zk,↓reduceIte,f16];omega
  .have Zdk:¬(i:Int)<16:=gX;have q1:=ZX hw (i:=i-15) (by rw[UT hi];omega);have q2:=ZX hw (i:=i-2) (by rw[UT hi];omega);have q3:=ZX hw (i:=i-16) (by rw[UT hi];omega);have q4:=ZX hw (i:=i-7) (by rw[UT hi];omega);rw[jV gX]at q1 q2 q3 q4;have eX:Ev b (Qu b i)=((Qu b i).getD (i-16) 0+sg0 ((Qu b i).getD (i-15) 0)+(Qu b i).getD (i-7) 0+sg1 ((Qu b i).getD (i-2) 0))%4294967296:=by
    unfold Ev;rw[Jp,if_neg h16]
   have cs:=fin (Ev b (Qu b i)) rfl;have hA:(Qu b i).getD (i-15) 0<4294967296:=Fh jX;have hC:(Qu b i).getD (i-2) 0<4294967296:=Fh jX;rw[eX]at cs;generalize (Qu b i).getD (i-15) 0=A at *;generalize (Qu b i).getD (i-2) 0=C at *;generalize (Qu b i).getD (i-16) 0=E1 at *;generalize (Qu b i).getD (i-7) 0=E2 at *;unfold wv at q1 q2 q3 q4;have t1:((i:Int)-15).toNat=i-15:=gX;have t2:((i:Int)-2).toNat=i-2:=gX;have t3:((i:Int)-16).toNat=i-16:=gX;have t4:((i:Int)-7).toNat=i-7:=gX;have s1:Unit->Xw S (A:Int) 3=((A/8:Nat):Int):=fun _=>UC A 3 MZ;have s2:Unit->Xw S (C:Int) 10=((C/1024:Nat):Int):=fun _=>UC C 10 MZ;have o1:=fun (_:Unit)=>Qf (rr A 7) (rr A 18) (Uo hA) (Uo hA);have o2:Unit->Ym .xor S ((rr A 7 ^^^ rr A 18:Nat):Int) ((A/8:Nat):Int)=((sg0 A:Nat):Int):=fun _=>Qf _ _ (Wy (Uo hA) (Uo hA)) (Cj hA);have o3:=fun (_:Unit)=>Qf (rr C 17) (rr C 19) (Uo hC) (Uo hC);have o4:Unit->Ym .xor S ((rr C 17 ^^^ rr C 19:Nat):Int) ((C/1024:Nat):Int)=((sg1 C:Nat):Int):=fun _=>Qf _ _ (Wy (Uo hC) (Uo hC)) (Cj hC);generalize sg0 A=S0 at *;generalize sg1 C=S1 at *;have e5:((((E1:Int)+(E2:Int))%4294967296+(S0:Int))%4294967296+(S1:Int))%4294967296=(((E1+S0+E2+S1)%4294967296:Nat):Int):=by clear cs fin;omega
   simp -implicitDefEqProofs only[go_sem,f0,f1,f4,f16,ZW,Zdk];refine VS.q mixed po ?_;simp -implicitDefEqProofs only[go_sem,f0,f1,f4,f16,q1,q2,t1,t2];refine VS.w (h.size+1) [29] (.q 0 (.q 1 (.q 2 (.q 3 (.q 4 (.q 5 (.q 6 (.q 7 (.q 8 (.q 9 (.q 10 (.q 11 (.q 12 (.q 13 (.q 14 (.q 15 (.q 16 (.q 17 (.q 18 (.q 19 (.q 20 (.q 21 (.q 22 (.q 23 (.q 24 (.q 25 (.q 26 (.q 27 (.q 28 (.w 29 .nil)))))))))))))))))))))))))))))) mixed po ?_;simp -implicitDefEqProofs only[go_sem,f0,f1,f4,f16,q3,q4,t3,t4,e5];refine Qg (fun h=>X9 T h A 7 hA gX) ?_;simp -implicitDefEqProofs only[go_sem,f0,f1,f4,f16,o1 (),o2 (),o3 (),o4 (),s1 (),s2 (),e5];refine Qg (fun h=>X9 T h A 18 hA gX) ?_;simp -implicitDefEqProofs only[go_sem,f0,f1,f4,f16,o1 (),o2 (),o3 (),o4 (),s1 (),s2 (),e5];refine Qg (fun h=>X9 T h C 17 hC gX) ?_;simp -implicitDefEqProofs only[go_sem,f0,f1,f4,f16,o1 (),o2 (),o3 (),o4 (),s1 (),s2 (),e5];refine Qg (fun h=>X9 T h C 19 hC gX) ?_;simp -implicitDefEqProofs only[go_sem,f0,f1,f4,f16,o1 (),o2 (),o3 (),o4 (),s1 (),s2 (),e5,cs];refine⟨⟨fV.Zj (Z _) _,f0,f1,f4,i+1,ZL,rfl,Z1 hw⟩,?_⟩;simp only[vi,Zk,↓reduceIte,f16];omega
 .have YU:¬(i:Int)<64:=gX;obtain rfl:i=64:=gX;rw[jW]at hw;have mL:=fV.get bJ hx;have r0:rd g ⟨bd,0,am⟩ 8=Y (d.map wv):=by rw[aw]at mL;exact Zs mL (by simp[hd])
  have l8:(d.map wv).length=8:=by simp[hd]
  have Zdl:(d.map wv).all Yq=true:=by simp[wv,Yq]
  obtain⟨DV,hDV⟩:=ZD (d.map wv);rw[<-hDV]at r0 l8 Zdl;have lp:YJ [Value.int S 0,Value.int S 0,Value.int S 0,Value.int S 0,Value.int S 0,Value.int S 0,Value.int S 0,Value.int S 0] 0 DV=DV:=ZZ l8;simp -implicitDefEqProofs only[go_sem,f0,f1,f4,f16,YU,r0,l8,Zdl,lp];rw[hDV];have Pd:=fV.size;have hB:Zf h.size h (g.push (O (d.map wv).toArray 209)):=fV.add _;have Sw:Zf g.size g (g.push (O (d.map wv).toArray 209)):=Zf.push (Z _) _;have hv0:(g.push (O (d.map wv).toArray 209))[g.size]? = Y (O ((Qv b d 0).map wv++[]).toArray 209):=by
   rw[aw];exact Zb
  refine VS.Z9 (fun F' g'=>Zf g.size g g'/\F' 0=az (Y ⟨bd,0,am⟩)/\F' 4=az (Y ⟨h.size,0,am⟩)/\F' 8=az (Y ⟨g.size,0,am⟩)/\∃i:Nat,i<=64/\F' 97=H J i/\g'[g.size]? = Y (O ((Qv b d i).map wv++[]).toArray 209))
   (fun F _=>64-(vi (F 97)).toNat) rfl ⟨Sw,f0,f4,rfl,0,gX,rfl,hv0⟩ ?_
  clear f0 f1 f4 f16 YU hi ZL hv0 hB Sw r0 l8 Zdl lp hDV DV F;rintro F g2 ⟨JK,f0,f4,f8,i,hi,f97,hv⟩;have qN:=Za hv;obtain⟨v8,w8⟩:=SO (b:=b) hd wd i;obtain⟨a,b',c',d',e,f,g',k',mC⟩:=eight v8;by_cases ZL:i<64
  .have ZW:(i:Int)<64:=gX;have yn:Qv b d (i+1)=[(upw e f g' k' (kN.getD i 0) ((Qu b 64).getD i 0)+bg0 a+jl a b' c')%4294967296,a,b',c',(d'+upw e f g' k' (kN.getD i 0) ((Qu b 64).getD i 0))%4294967296,e,f,g']:=by
    rw[show Qv b d (i+1)=pS (Qv b d i) (kN.getD i 0) ((Qu b 64).getD i 0) from rfl,mC];rfl
   have hK:kN.getD i 0<4294967296:=ZcP.getD i;have hW:(Qu b 64).getD i 0<4294967296:=(Iv jX 64).getD i;have k1:V.hc g2 ⟨2,i,am⟩=Y (H S (kN.getD i 0:Nat)):=by
    rw[JK.hc (by have:=tk.1;show (2:Nat)<g.size;omega),fV.hc (by exact tk.1)];exact tk.2 i ZL
   have w1:V.hc g2 ⟨h.size,i,am⟩=Y (H S ((Qu b 64).getD i 0:Nat)):=by
    rw[JK.hc (by exact xp)];exact ZX hw (by rw[Jp];exact ZL)
   rw[mC]at hv w8;have n0:V.hc g2 ⟨g.size,0,am⟩=Y (H S (a:Nat)):=ZX hv (i:=0) Dq;have n1:V.hc g2 ⟨g.size,1,am⟩=Y (H S (b':Nat)):=ZX hv (i:=1) Dq;have n2:V.hc g2 ⟨g.size,2,am⟩=Y (H S (c':Nat)):=ZX hv (i:=2) Dq;have n3:V.hc g2 ⟨g.size,3,am⟩=Y (H S (d':Nat)):=ZX hv (i:=3) Dq;have n4:V.hc g2 ⟨g.size,4,am⟩=Y (H S (e:Nat)):=ZX hv (i:=4) Dq;have n5:V.hc g2 ⟨g.size,5,am⟩=Y (H S (f:Nat)):=ZX hv (i:=5) Dq;have n6:V.hc g2 ⟨g.size,6,am⟩=Y (H S (g':Nat)):=ZX hv (i:=6) Dq;have n7:V.hc g2 ⟨g.size,7,am⟩=Y (H S (k':Nat)):=ZX hv (i:=7) Dq;have ha:a<4294967296:=w8 a Dq;have Jc:b'<4294967296:=w8 b' Dq;have yo:c'<4294967296:=w8 c' Dq;have hd':d'<4294967296:=w8 d' Dq;have he:e<4294967296:=w8 e Dq;have hf:f<4294967296:=w8 f Dq;have Ij:g'<4294967296:=w8 g' Dq;have PV:k'<4294967296:=w8 k' Dq;generalize kN.getD i 0=K at *;generalize (Qu b 64).getD i 0=W at *;have o1:=fun (_:Unit)=>Qf (rr e 6) (rr e 11) (Uo he) (Uo he);have o2:Unit->Ym .xor S ((rr e 6 ^^^ rr e 11:Nat):Int) ((rr e 25:Nat):Int)=((bg1 e:Nat):Int):=fun _=>Qf _ _ (Wy (Uo he) (Uo he)) (Uo he);have o3:=fun (_:Unit)=>Qf (rr a 2) (rr a 13) (Uo ha) (Uo ha);have o4:Unit->Ym .xor S ((rr a 2 ^^^ rr a 13:Nat):Int) ((rr a 22:Nat):Int)=((bg0 a:Nat):Int):=fun _=>Qf _ _ (Wy (Uo ha) (Uo ha)) (Uo ha);have c0:Unit->(if IntKind.u32.signed=true then (-1:Int) else IntKind.u32.max)=4294967295:=fun _=>rfl;have c1:=fun (_:Unit)=>ON e f he hf;have c2:=fun (_:Unit)=>xy he;have c3:=fun (_:Unit)=>ON (4294967295-e) g' (Ck e) Ij;have c4:=fun (_:Unit)=>ZcO (f:=f) he Ij;have m1:=fun (_:Unit)=>ON a b' ha Jc;have m2:=fun (_:Unit)=>ON a c' ha yo;have m3:=fun (_:Unit)=>ON b' c' Jc yo;have m4:=fun (_:Unit)=>Qf (a &&& b') (a &&& c') (Q3 ha) (Q3 ha);have m5:=fun (_:Unit)=>xz (c:=c') ha Jc;have eU:upw e f g' k' K W=(k'+bg1 e+chw e f g'+K+W)%4294967296:=rfl;generalize upw e f g' k' K W=U at *;generalize bg1 e=S1 at *;generalize bg0 a=S0 at *;generalize chw e f g'=CH at *;generalize jl a b' c'=MJ at *;have e1:Unit->(((((k':Int)+(S1:Int))%4294967296+(CH:Int))%4294967296+(K:Int))%4294967296+(W:Int))%4294967296=(U:Int):=fun _=>by omega
   have e2:Unit->((S0:Int)+(MJ:Int))%4294967296=(((S0+MJ)%4294967296:Nat):Int):=fun _=>by omega
   have e3:Unit->((U:Int)+(((S0+MJ)%4294967296:Nat):Int))%4294967296=(((U+S0+MJ)%4294967296:Nat):Int):=fun _=>by omega
   have e4:Unit->((d':Int)+(U:Int))%4294967296=(((d'+U)%4294967296:Nat):Int):=fun _=>by omega
   simp -implicitDefEqProofs only[go_sem,f0,f4,f8,f97,ZW];refine VS.q mixed po ?_;simp -implicitDefEqProofs only[go_sem,f0,f4,f8,f97,n0,n4];refine VS.q mixed po ?_;simp -implicitDefEqProofs only[go_sem,f0,f4,f8,f97,n7,n4];refine Ut (X9 T _ e 6 he gX) ?_;simp -implicitDefEqProofs only[go_sem,f8];refine Ut (X9 T _ e 11 he gX) ?_;simp -implicitDefEqProofs only[go_sem,f8];refine Ut (X9 T _ e 25 he gX) ?_;simp -implicitDefEqProofs only[go_sem,f4,f8,f97,ZW,o1 (),o2 (),n5,n6,c0 (),c1 (),c2 (),c3 (),c4 (),k1,w1,e1 ()];refine VS.mono (N:=fun F' g'=>g2=g'/\F' 0=az (Y ⟨bd,0,am⟩)/\F' 4=az (Y ⟨h.size,0,am⟩)/\F' 8=az (Y ⟨g.size,0,am⟩)/\F' 97=H J i/\F' 10=H S (a:Nat)/\F' 11=H S (e:Nat)/\F' 12=H S (U:Nat)/\F' 13=H S (((S0+MJ)%4294967296:Nat):Int)) ?_ ?_ (fun _ _ _ h=>h) (fun _ _ h=>h)
   .refine VS.q mixed po ?_;simp -implicitDefEqProofs only[go_sem,f8];refine Ut (X9 T _ a 2 ha gX) ?_;simp -implicitDefEqProofs only[go_sem,f8];refine Ut (X9 T _ a 13 ha gX) ?_;simp -implicitDefEqProofs only[go_sem,f8];refine Ut (X9 T _ a 22 ha gX) ?_;simp -implicitDefEqProofs only[go_sem,f0,f4,f8,f97,o3 (),o4 (),n1,n2,m1 (),m2 (),m3 (),m4 (),m5 (),e2 ()]
   clear f0 f4 f8 f97 F;rintro F _ ⟨rfl,f0,f4,f8,f97,f10,f11,f12,f13⟩;have hvE:g2[g.size]? = Y (O [Value.int S a,H S b',H S c',H S d',H S e,H S f,H S g',H S k'].toArray 209):=hv;have y2:=Z2 hvE 0;obtain⟨xU,hxU⟩:∃x:Int,x=(U:Int):=⟨_,rfl⟩
   obtain⟨xD,hxD⟩:∃x:Int,x=(((S0+MJ)%4294967296:Nat):Int):=⟨_,rfl⟩
   obtain⟨x0,So⟩:∃x:Int,x=(((U+S0+MJ)%4294967296:Nat):Int):=⟨_,rfl⟩
   obtain⟨x4,Aw⟩:∃x:Int,x=(((d'+U)%4294967296:Nat):Int):=⟨_,rfl⟩
   have E3:Unit->(xU+xD)%4294967296=x0:=fun _=>by rw[hxU,hxD,So];exact e3 ()
   have E4:Unit->((d':Int)+xU)%4294967296=x4:=fun _=>by rw[hxU,Aw];exact e4 ()
   rw[<-hxU]at f12;rw[<-hxD]at f13;simp -implicitDefEqProofs only[go_sem,f0,f4,f8,f97,f10,f11,f12,f13,n1,n2,n3,n5,n6,E3 (),E4 (),y2];refine⟨⟨JK.Zj (Z _) _,f0,f4,f8,i+1,ZL,rfl,?_⟩,?_⟩
   .rw[yn,So,Aw];exact Z1 hv
   .simp only[vi,Zk,↓reduceIte,f97];omega
  .have YU:¬(i:Int)<64:=gX;obtain rfl:i=64:=gX;have r0:rd g2 ⟨g.size,0,am⟩ 8=Y ((Qv b d 64).map wv):=by rw[aw]at hv;exact Zs hv (by simp[v8])
   have hB:Ue (Y bd) h g2:=by
    have q1:=fV.trans (JK.mono fV.size);exact⟨q1.size,fun k hk _=>q1.block k hk⟩
   have mL:g2[bd]? = Y (O (((Oc d (Qv b d 64)).take 0++d.drop 0).map wv++[]).toArray 209):=by
    rw[bE,bT,bz];exact (fV.trans (JK.mono fV.size)).get bJ hx
   have hal:=SP hd v8;simp -implicitDefEqProofs only[go_sem,f0,f8,f97,YU,r0];refine VS.Z9 (fun F' g'=>Ue (Y bd) h g'/\F' 0=az (Y ⟨bd,0,am⟩)/\F' 177=a4 ((Qv b d 64).map wv).toArray/\∃i:Nat,i<=8/\F' 178=H J i/\g'[bd]? = Y (O (((Oc d (Qv b d 64)).take i++d.drop i).map wv++[]).toArray 209))
    (fun F _=>8-(vi (F 178)).toNat) rfl ⟨hB,f0,rfl,0,gX,rfl,mL⟩ ?_
   clear f0 f4 f8 f97 YU hi ZL hv mL hB r0 F;rintro F g3 ⟨hB,f0,f177,i,hi,f178,mL⟩;have Zqb:=Za mL;have yp:((Oc d (Qv b d 64)).take i++d.drop i).length=8:=by rw[Vf _ _ _ gX gX,hal]
   by_cases ZL:i<8
   .have ZW:(i:Int)<8:=gX;have n1:nth ((Qv b d 64).map wv) i=Y (H S ((Qv b d 64).getD i 0:Nat)):=by
     rw[YE,cc,aa,a1 gX];rfl
    have q1:=ZX mL (i:=i) gX;have e0:((Oc d (Qv b d 64)).take i++d.drop i).getD i 0=d.getD i 0:=by
     rw[aa,ba aac,ay,bA gX,bD,bG,cd,<-aa]
    rw[e0]at q1;unfold wv at q1;have eX:=jm hd v8 ZL;have cs:=Yk (f:=wv) mL (i:=i) gX ((Oc d (Qv b d 64)).getD i 0) rfl;rw[Og _ _ i gX gX]at cs;have nt:Jb g3 ⟨bd,i,am⟩ (H S (((Oc d (Qv b d 64)).getD i 0:Nat):Int))=_:=cs;rw[eX]at nt;generalize d.getD i 0=D at *;generalize (Qv b d 64).getD i 0=V at *;have e1:((D:Int)+(V:Int))%4294967296=(((D+V)%4294967296:Nat):Int):=gX;simp -implicitDefEqProofs only[go_sem,f177,f178,ZW,n1];refine VS.w (g3.size) [9] (.q 0 (.q 1 (.q 2 (.q 3 (.q 4 (.q 5 (.q 6 (.q 7 (.q 8 (.w 9 .nil)))))))))) mixed po ?_;simp -implicitDefEqProofs only[go_sem,f0,f177,f178,q1,e1,Zqb,nt,ZW];refine⟨⟨?_,f0,f177,i+1,ZL,rfl,Z1 mL⟩,?_⟩
    .exact⟨by rw[bK];exact hB.size,fun k hk Ys=>by rw[a8,if_neg (by intro e;exact Ys (by rw[e])),hB.block k hk Ys]⟩
    .simp only[vi,Zk,↓reduceIte,f178];omega
   .have YU:¬(i:Int)<8:=gX;obtain rfl:i=8:=gX;have e9:(Oc d (Qv b d 64)).take 8++d.drop 8=Cn d b:=by
     rw[a5 gX,a7 gX,aw];rfl
    rw[e9]at mL;simp -implicitDefEqProofs only[go_sem,f178,YU];exact⟨hB,mL⟩
def cK:a0->Nat
 | R _ n _=>n
 | _=>0
def Gk(n:Nat):List Nat:=0 :: 0 :: 0 :: 0 :: Un (8*n)
theorem Ll(n:Nat):(Gk n).length=8:=rfl
theorem jY(n:Nat):Pe (Gk n):=by
 intro x hx;simp only[Gk,bx]at hx;rcases hx with rfl|rfl|rfl|rfl|hx
 .omega
 .omega
 .omega
 .omega
 .exact Wx _ x hx
theorem yq{n k:Nat}(hn:n<=100000)(hk:k<8):Xw J ((8*n:Nat):Int) ((56-8*k:Nat):Int)%256=(((Gk n).getD k 0:Nat):Int):=by
 rw[TS _ _ gX];rcases k with _|_|_|_|_|_|_|_|k
 .show ((8*n/2 ^ 56:Nat):Int)%256=((0:Nat):Int)
  rw[bk gX];rfl
 .show ((8*n/2 ^ 48:Nat):Int)%256=((0:Nat):Int)
  rw[bk gX];rfl
 .show ((8*n/2 ^ 40:Nat):Int)%256=((0:Nat):Int)
  rw[bk gX];rfl
 .show ((8*n/2 ^ 32:Nat):Int)%256=((0:Nat):Int)
  rw[bk gX];rfl
 .rfl
 .rfl
 .rfl
 .show ((8*n/2 ^ 0:Nat):Int)%256=((8*n%256:Nat):Int)
  rw[Nat.pow_zero,Nat.div_one];rfl
 .omega
theorem yu{x bp op m c:Nat}{h h':Hp}{l:List Nat}(s:Bs h (R (Y ⟨bp,op,am⟩) m c) l)(a:Ue (Y x) h h')(Ys:bp≠x):Bs h' (R (Y ⟨bp,op,am⟩) m c) l:=by
 obtain⟨⟨p,cap,hv,hl,hc⟩,hb⟩:=s;simp only[Value.slice.injEq]at hv;obtain⟨rfl,hm,rfl⟩:=hv;refine⟨⟨_,_,by rw[hm],hl,fun hn=>?_⟩,hb⟩;obtain⟨b,o,hp,YR⟩:=hc hn;simp only[Option.some.injEq,Addr.mk.injEq,and_true]at hp;obtain⟨rfl,rfl⟩:=hp;refine⟨_,_,rfl,fun i hi=>?_⟩;have h1:=YR i hi;have h2:=UJ h1;unfold V.hc at h1 ⊢;rw[a.block _ h2 (by intro e;exact Ys (Option.some.inj e).symm)];exact h1
theorem TZ{bp op m c:Nat}{h:Hp}{l:List Nat}(s:Bs h (R (Y ⟨bp,op,am⟩) m c) l){k:Nat}(hk:k<=(t l))(hm:(t l)=m)(c':Nat):Bs h (R (Y ⟨bp,op+k,am⟩) (m-k) c') (l.drop k):=by
 subst hm;refine⟨?_,fun x hx=>s.byte x (List.mem_of_mem_drop hx)⟩;obtain⟨p',cap,hv,hl,hc⟩:=s.sl;simp only[Value.slice.injEq]at hv;obtain⟨rfl,_,rfl⟩:=hv;refine⟨_,c',by rw[bo],Dq,fun Ys=>?_⟩;have ZL:k<(t l):=by
  rw[<-List.length_pos_iff]at Ys;simp at Ys;omega
 obtain⟨b,o,hp,YR⟩:=hc (by intro e;simp at e;subst e;simp at ZL);simp only[Option.some.injEq,Addr.mk.injEq,and_true]at hp;obtain⟨rfl,rfl⟩:=hp;refine⟨_,_,rfl,fun i hi=>?_⟩;have Av:i<(t l)-k:=by simpa using hi
 rw[show op+k+i=op+(k+i) by omega,YR (k+i) L6];simp
abbrev Tk(h:Hp):Prop:=Dl 2 wv kN h
theorem EN(T:bc)(h:Hp)(v:a0)(l:List Nat)(s:Bs h v l)(hl:(t l)<=100000)(tk:Tk h):
  Zc a2 T 84 #[v] h fun v' h'=>Yd h.size 5 h' v' (SR l)/\Zf h.size h h':=by
 obtain⟨p,cp,rfl,UX⟩:=s.open;have jX:Pe l:=s.byte;refine Zc.Y8 [_] Tryz.func84 ?_;simp -implicitDefEqProofs only[go_sem];obtain⟨h1,YX⟩:=ZD (h.push (O (pX.map wv).toArray 209):Hp);have yv:h1.size=h.size+1:=by rw[YX];simp
 have b1:Zf h.size h h1:=by rw[YX];exact Zf.push (Z _) _
 have x1:h1[h.size]? = Y (O (pX.map wv++[]).toArray 209):=by rw[YX,aw];exact Zb
 change Sa a2 T .append _ _ _ _ _ (h.push (O (pX.map wv).toArray 209));rw[<-YX];clear YX;refine ZF (E:=5) (B:=h.size+1) YN av WS VC VB (Yd.HX _ _ _ _) gX (s.Yb b1) L6 ?_;intro w h2 o2 b2 _;rw[bz]at o2;simp -implicitDefEqProofs only[go_sem];refine ZF (E:=5) (B:=h.size+1) YN av WS VC VB (o2.push _) (by have:=b2.size;simp;omega) (Bs.one (x:=128) gX 1) L6 ?_;intro w3 h3 o3 b3 _;have B3:Zf (h.size+1) h1 h3:=(b2.Yx (by have:=b2.size;omega) _).trans b3;have o3':Yd (h.size+1) 5 h3 w3 (SQ l 0):=o3;clear o2 o3 b2 b3;simp -implicitDefEqProofs only[go_sem];refine VS.Z9 (fun F g=>Zf (h.size+1) h1 g/\F 0=R p (t l) cp/\F 3=az (Y ⟨h.size,0,am⟩)/\∃j:Nat,j<=Gc (t l)/\Yd (h.size+1) 5 g (F 4) (SQ l j))
  (fun F _=>(t l)+100-cK (F 4)) rfl ⟨B3,rfl,rfl,0,gX,o3'⟩ ?_
 clear o3' B3;rintro F g ⟨hg,f0,f3,j,hj,ho⟩;obtain⟨p4,c4,f4,_⟩:=ho.open;have ml:=O3 l j;obtain⟨M,hM⟩:=ZD ((t l)+j+1);rw[ml,<-hM]at f4;have ZCt:Gc (t l)<64:=by unfold Gc;omega
 have d1:(M:Int).tmod 64=((M%64:Nat):Int):=rfl;have Pd:=hg.size;by_cases hm:M%64=56
 case neg=>
  have Pv:¬((M%64:Nat):Int)=56:=gX;have Ys:j≠Gc (t l):=fun e=>hm (by rw[hM];exact (Cp hj).2 e);simp -implicitDefEqProofs only[go_sem,f0,f3,f4,d1,Pv];have vd:=ho;rw[f4]at vd;refine ZF (E:=5) (B:=h.size+1) YN av WS VC VB (vd.push _) L6 (Bs.one (x:=0) gX 1) (by rw[ml];simp;omega) ?_;intro w' g' PW Jc _;obtain⟨p5,c5,rfl,_⟩:=PW.open;simp -implicitDefEqProofs only[go_sem,f0,f3];refine⟨⟨(hg.Yx gX _).trans Jc,f0,f3,j+1,gX,?_⟩,?_⟩
  .rw[bt];exact PW
  .simp only[cK,Zk,↓reduceIte,f4,aI,ml,be];omega
 have hjn:j=Gc (t l):=(Cp hj).1 (by rw[<-hM];exact hm);have Pv:((M%64:Nat):Int)=56:=gX;simp -implicitDefEqProofs only[go_sem,f0,f3,f4,d1,Pv];refine VS.Z9 (fun F g=>Zf (h.size+1) h1 g/\F 0=R p (t l) cp/\F 3=az (Y ⟨h.size,0,am⟩)/\∃k:Nat,k<=8/\F 5=H J (56-8*(k:Int))/\Yd (h.size+1) 5 g (F 4) (SQ l j++(Gk (t l)).take k))
  (fun F _=>(vi (F 5)+8).toNat) rfl ⟨hg,f0,f3,0,gX,rfl,by rw[bE,aw];exact ho⟩ ?_
 clear f0 f3 f4 d1 hm Pv ho hg Pd F g;rintro F g ⟨hg,f0,f3,k,hk,f5,ho⟩;have Pd:=hg.size;obtain⟨y,hy⟩:∃y:Int,y=56-8*(k:Int):=⟨_,rfl⟩
 rw[<-hy]at f5;by_cases ZL:k<8
 .have jA:0<=y:=gX;have EE:¬y<0:=gX;obtain⟨X,hX⟩:=ZD ((Gk (t l)).getD k 0);have hXb:X<256:=by rw[hX];exact ZT (jY _) k
  obtain⟨xL,hxL⟩:∃x:Int,x=((8*(t l):Nat):Int):=⟨_,rfl⟩
  have eL:Unit->8*((t l):Int)=xL:=fun _=>by rw[hxL];omega
  have xLb:0<=xL/\xL<=1000000:=by rw[hxL];omega
  have sh:Unit->Xw J xL y%256=(X:Int):=fun _=>by
   rw[hxL,hy,show (56:Int)-8*(k:Int)=((56-8*k:Nat):Int) by omega,hX];exact yq hl ZL
  have ml2:(SQ l j++(Gk (t l)).take k).length<=200000:=by rw[aI,ml,ay];omega
  have et:(Gk (t l)).take (k+1)=(Gk (t l)).take k++[X]:=by
   rw[Yp _ k (by rw[Ll];exact ZL),hX,aa,a1 (by rw[Ll];exact ZL)];rfl
  clear hX hxL;simp -implicitDefEqProofs only[go_sem,f0,f3,f5,jA,EE,eL (),sh ()];refine ZF (E:=5) (B:=h.size+1) YN av WS VC VB (ho.push _) L6 (Bs.one hXb 1) aah ?_;intro w' g' PW Jc _;simp -implicitDefEqProofs only[go_sem,f0,f3,f5];refine⟨⟨(hg.Yx gX _).trans Jc,f0,f3,k+1,ZL,?_,?_⟩,?_⟩
  .show Value.int J _=_
   congr 1;omega
  .rw[et,<-b9];exact PW
  .simp only[vi,Zk,↓reduceIte,f5];omega
 .have jA:¬0<=y:=gX;obtain rfl:k=8:=gX;have ep:SQ l j++(Gk (t l)).take 8=Vk l:=by rw[hjn];rfl
  rw[ep]at ho;have pl:=Ew l;obtain⟨N,hN⟩:=ZD (jn (t l));have hN1:0<N:=by rw[hN];unfold jn;omega
  have hN2:N<=2000:=by rw[hN];unfold jn;omega
  rw[<-hN]at pl;have yw:=hg.get gX x1;have bh:Zf h.size h g:=b1.trans (hg.mono gX);obtain⟨bp,cP,f4,hbp,hcP⟩:∃bp c,F 4=R (Y ⟨bp,0,am⟩) (64*N) c/\h.size+1<=bp/\64*N<=c:=by
   rcases ho.Zy with⟨_,hm,_⟩|⟨b,cap,sp,hB,hv,_,_,_,hc⟩
   .omega
   .rw[pl]at hv hc;exact⟨b,cap,hv,hB,hc⟩
  have sP:=ho.bs;rw[f4]at sP;simp -implicitDefEqProofs only[go_sem,f0,f3,f5,jA];refine VS.Z9 (fun F g=>Zf h.size h g/\F 3=az (Y ⟨h.size,0,am⟩)/\∃j op c:Nat,j<=N/\F 4=R (Y ⟨bp,op,am⟩) (64*(N-j)) c/\64*(N-j)<=c/\Bs g (R (Y ⟨bp,op,am⟩) (64*(N-j)) c) ((Vk l).drop (64*j))/\g[h.size]? = Y (O ((Co (Vk l) j).map wv++[]).toArray 209))
   (fun F _=>cK (F 4)) rfl ⟨bh,f3,0,0,cP,gX,f4,hcP,by exact sP,yw⟩ ?_
  clear f0 f3 f4 f5 hy jA ZL ho sP yw bh hg Pd ep hcP F g;rintro F g ⟨hg,f3,j,op,c,hj,f4,hc,sP,yw⟩;have Pd:=Za yw;by_cases ZL:j<N
  .obtain⟨L,hL⟩:=ZD (64*(N-j));rw[<-hL]at f4 hc sP;have ZCu:64<=L:=gX;have mM:((Vk l).drop (64*j)).length=L:=by rw[bo,pl];omega
   have hL0:0<(L:Int):=gX;have Zh1:(64:Int)<=(c:Int):=gX;have At:¬c=0:=gX;simp -implicitDefEqProofs only[go_sem,f3,f4,hL0,Zh1,At,bL,bR];have sB:Bs g (R (Y ⟨bp,op,am⟩) 64 c) (((Vk l).drop (64*j)).take 64):=by
    rw[<-mM]at sP;exact Bs.Pb sP gX c
   obtain⟨dl,dw⟩:=O1 (Vk l) j;refine (C0 T g h.size (Co (Vk l) j) _ (((Vk l).drop (64*j)).take 64) dl dw sB (by rw[ay,mM];omega) (tk.JT hg) yw (by have:=tk.1;omega)).use ?_;rintro _ g2 ⟨PY,PA⟩;have JK:Zf h.size h g2:=hg.trans (PY.Yb gX (fun b e=>by have:=Option.some.inj e;omega));have sP2:=yu sP PY gX;by_cases oP:c=64
   .have hLe:L=64:=gX;have Zqd:(c:Int)=64:=gX;have hLi:(L:Int)=64:=gX;subst oP hLe;simp -implicitDefEqProofs only[go_sem,f3,f4,Zqd,hLi];refine⟨⟨JK,f3,j+1,op,0,ZL,?_,gX,?_,PA⟩,?_⟩
    .show Value.slice _ _ _=_;rw[show 64*(N-(j+1))=0 by omega]
    .rw[show 64*(N-(j+1))=0 by omega,a7 (by rw[pl];omega)];exact (Yd.HX 0 5 _ _).bs
    .simp only[cK,Zk,↓reduceIte,f4];omega
   .have Zh2:(64:Int)<=(L:Int):=gX;simp -implicitDefEqProofs only[go_sem,f3,f4,Zh1,Zh2,oP];refine⟨⟨JK,f3,j+1,op+64,c-64,ZL,?_,gX,?_,PA⟩,?_⟩
    .show Value.slice _ _ _=_;rw[show L-64=64*(N-(j+1)) by omega]
    .have:=TZ sP2 (k:=64) gX mM (c-64);rw[List.drop_drop,show L-64=64*(N-(j+1)) by omega,show 64*j+64=64*(j+1) by omega]at this;exact this
    .simp only[cK,Zk,↓reduceIte,f4];omega
  .obtain rfl:j=N:=gX;have eS:SR l=ZG (Co (Vk l) j):=by rw[SR,<-hN]
   obtain⟨dl,dw⟩:=O1 (Vk l) j;obtain⟨D,hD⟩:=ZD (Co (Vk l) j);rw[<-hD]at dl dw yw eS;rw[eS];have r0:rd g ⟨h.size,0,am⟩ 8=Y (D.map wv):=by rw[aw]at yw;exact Zs yw (by simp[dl])
   rw[bD,Nat.mul_zero]at f4;have hz:¬h.size=g.size:=gX;simp -implicitDefEqProofs only[go_sem,f3,f4,r0,hz];have hBo:Zf h.size h (g.push (O (Jl 32 [Value.int ao 0]).toArray 5)):=hg.add _;have oO:Yd h.size 5 (g.push (O (Jl 32 [Value.int ao 0]).toArray 5)) (R (Y ⟨g.size,0,am⟩) 0 32) (ZG (D.take 0)):=
    ⟨.inr ⟨g.size,32,Jl 32 [Value.int ao 0],hg.size,rfl,Zb,rfl,rfl,Nat.zero_le 32⟩,fun x hx=>by cases hx⟩
   refine VS.Z9 (fun F g=>Zf h.size h g/\F 43=a4 (D.map wv).toArray/\∃i:Nat,i<=8/\F 44=H J i/\Yd h.size 5 g (F 6) (ZG (D.take i)))
    (fun F _=>8-(vi (F 44)).toNat) rfl ⟨hBo,rfl,0,gX,rfl,oO⟩ ?_
   clear f3 f4 ZL yw r0 hz hBo oO sP hc hg Pd g F;rintro F g ⟨hg,f43,i,hi,f44,ho⟩;have Pd:=hg.size;by_cases ZL:i<8
   .have ZW:(i:Int)<8:=gX;obtain⟨x,hx⟩:=ZD (D.getD i 0);have hxb:x<4294967296:=by rw[hx];exact dw.getD i
    have et:D.take (i+1)=D.take i++[x]:=by
     rw[Yp _ i gX,hx,aa,a1 gX];rfl
    obtain⟨yx,jZ⟩:∃y:Int,y=(x:Int):=⟨_,rfl⟩
    obtain⟨z0,GH⟩:∃y:Int,y=((x/16777216%256:Nat):Int):=⟨_,rfl⟩
    obtain⟨z1,Ej⟩:∃y:Int,y=((x/65536%256:Nat):Int):=⟨_,rfl⟩
    obtain⟨z2,bV⟩:∃y:Int,y=((x/256%256:Nat):Int):=⟨_,rfl⟩
    obtain⟨z3,yE⟩:∃y:Int,y=((x%256:Nat):Int):=⟨_,rfl⟩
    have n1:nth (D.map wv) i=Y (H S yx):=by
     rw[YE,cc,jZ,hx,aa,a1 gX];rfl
    have e1:Unit->Xw S yx 24%256=z0:=fun _=>by rw[jZ,GH,show (24:Int)=((24:Nat):Int) from rfl,UC x 24 MZ];rfl
    have e2:Unit->Xw S yx 16%256=z1:=fun _=>by rw[jZ,Ej,show (16:Int)=((16:Nat):Int) from rfl,UC x 16 MZ];rfl
    have e3:Unit->Xw S yx 8%256=z2:=fun _=>by rw[jZ,bV,show (8:Int)=((8:Nat):Int) from rfl,UC x 8 MZ];rfl
    have e4:Unit->yx%256=z3:=fun _=>by rw[jZ,yE];rfl
    have Jm:(ZG (D.take i)).length<=32:=by rw[ZO,ay];omega
    clear jZ hx;simp -implicitDefEqProofs only[go_sem,f43,f44,ZW,n1,e1 (),e2 (),e3 (),e4 ()];subst GH Ej bV yE;refine ZF (E:=5) (B:=h.size) YN av WS VC VB (ho.push _) L6 (Bs.made (l:=Un x) (Wx x) 4) (by simp[Un];omega) ?_;intro w' g' PW Jc _;simp -implicitDefEqProofs only[go_sem,f43,f44];refine⟨⟨(hg.add _).trans Jc,f43,i+1,ZL,rfl,?_⟩,?_⟩
    .rw[et];unfold ZG at PW ⊢;rw[bU];simp only[cf,ch,aw];exact PW
    .simp only[vi,Zk,↓reduceIte,f44];omega
   .have YU:¬(i:Int)<8:=gX;obtain rfl:i=8:=gX;rw[a5 gX]at ho;simp -implicitDefEqProofs only[go_sem,f43,f44,YU];exact⟨ho,hg⟩
def Oh(n:Nat):Int:=if 2000<n then 1 else 0
def qO(B:Nat)(h':Hp)(v':a0)(l:List Nat):Prop:=∃w,v'=.tuple [w,H J (Oh (t l))].toArray/\Yd B 5 h' w (if Oh (t l)=0 then SR l else [])
theorem Fi(T:bc)(h:Hp)(v:a0)(l:List Nat)(s:Bs h v l)(tk:Tk h):
  Zc a2 T 56 #[v] h fun v' h'=>qO h.size h' v' l/\Zf h.size h h':=by
 obtain⟨p,cp,rfl,UX⟩:=s.open;refine Zc.Y8 [_] Tryz.func56 ?_;unfold qO Oh;by_cases hl:2000<(t l)
 .have Ar:2000<((t l):Int):=gX;simp -implicitDefEqProofs only[go_sem,Ar,hl];exact⟨_,rfl,Yd.nil _ _ _⟩
 .have Ar:¬2000<((t l):Int):=gX;simp -implicitDefEqProofs only[go_sem,Ar,hl];refine (EN T _ _ l s gX tk).use ?_;rintro w h1 ⟨o1,b1⟩;simp -implicitDefEqProofs only[go_sem,b1];exact⟨_,rfl,o1⟩
def Gl(body:List Nat):List Nat:=(t body) :: body
def Xt(body:List Nat):List Nat:=Gl body++(SR (Gl body)).take 4
theorem Lm(body:List Nat):(Gl body).length=(t body)+1:=rfl
theorem S7(body:List Nat):(Xt body).length=(t body)+5:=by
 rw[Xt,aI,ay,JY,Lm];omega
def Xu(l:List Nat)(n:Int):Prop:=(t l)<=100000/\0<=n/\n<=(t l)
instance (l:List Nat)(n:Int):Decidable (Xu l n):=by unfold Xu;infer_instance
def J7(l:List Nat)(n:Int)(k:Nat):Int:=if ¬Xu l n then 5 else if 100000<(t l)+(k+5) then 8 else 0
def T1(B:Nat)(h':Hp)(v':a0)(l:List Nat)(n:Int)(E:Int)(add:List Nat):Prop:=
 ∃w,v'=.tuple [a4 [w,H J (if E=0 then n else 0)].toArray,H J E].toArray/\Yd B 5 h' w (if E=0 then l++add else [])
theorem Ue.Zdm{h g:Hp}{b:Nat}{o:Obj}(a:Ue (Y b) h g):Ue (Y b) h (g.setIfInBounds b o):=
 ⟨by rw[bK];exact a.size,fun k hk Ys=>by rw[a8,if_neg (fun e=>Ys (by rw[e])),a.block k hk Ys]⟩
theorem Tq(T:bc)(h:Hp)(v u:a0)(n:Int)(l body:List Nat)(s:Bs h v l)(hl:(t l)<=140737488355328)(sb:Bs h u body)(hb:(t body)<=255)(tk:Tk h):
  Zc a2 T 188 #[a4 [v,H J n].toArray,u] h fun v' h'=>T1 h.size h' v' l n (J7 l n (t body)) (Xt body)/\Zf h.size h h':=by
 obtain⟨p,c,rfl,_⟩:=s.open;obtain⟨q,d,rfl,_⟩:=sb.open;refine Zc.Y8 [_,_] Tryz.func188 ?_;unfold T1;simp -implicitDefEqProofs only[go_sem];obtain⟨h0,Jk⟩:=ZD ((h.push (O [R p (t l) c,H J n].toArray 114)).push (O [R am 0 0,H J 0].toArray 114):Hp);have b0:Zf h.size h h0:=by rw[Jk];exact ((Zf.refl _ _).add _).add _
 have s0:h0.size=h.size+1+1:=by rw[Jk];simp
 have x0:h0[h.size+1]? = Y (O [R am 0 0,H J 0].toArray 114):=by
  rw[Jk,a3,if_pos Dq]
 rw[<-Jk];clear Jk;refine (QG T h0 _ n l (s.Yb b0) hl).use ?_;rintro _ h1 ⟨b1,o1⟩;have s1:=b1.size;by_cases ok:Xu l n
 case neg=>
  have ee:J7 l n (t body)=5:=by unfold J7;rw[if_pos ok]
  rw[if_neg (show ¬((t l)<=100000/\0<=n/\n<=(t l)) from ok)]at o1;subst o1;rw[ee];have x1:=b1.get gX x0;have y2:=Z2 x1 0;have ZL:h.size+1<h1.size:=gX;have Ys:¬h.size+1=h1.size:=gX;simp -implicitDefEqProofs only[go_sem,y2,Ys,ZL];exact⟨⟨_,rfl,Yd.nil _ _ _⟩,((b0.trans (b1.mono gX)).Zj gX _).Yx L6 _⟩
 have ee:J7 l n (t body)=if 100000<(t l)+((t body)+5) then 8 else 0:=by unfold J7;rw[if_neg (fun hn=>hn ok)]
 rw[if_pos (show ((t l)<=100000/\0<=n/\n<=(t l)) from ok)]at o1;obtain⟨w,rfl,o1⟩:=o1;obtain⟨pw,cw,rfl,_⟩:=o1.open;have B1:=b0.trans (b1.mono gX);have x1:=b1.get gX x0;obtain⟨qa,RC,hn1⟩:=ok;obtain⟨h2,WT⟩:=ZD (h1.push (O [R pw (t l) cw,H J n].toArray 114):Hp);have b2:Zf h1.size h1 h2:=by rw[WT];exact Zf.push (Z _) _
 have s2:h2.size=h1.size+1:=by rw[WT];simp
 have x6:h2[h1.size]? = Y (O [R pw (t l) cw,H J n].toArray 114):=by rw[WT];exact Zb
 have eb:((t body):Int)%256=((t body):Int):=gX;have e2:h1.push (O #[Value.slice pw (t l) cw,H J n] 114)=h2:=WT.symm;simp -implicitDefEqProofs only[go_sem,eb];rw[e2];clear e2 WT;rw[<-s2];have B2:=B1.trans (b2.mono B1.size);have o2:=o1.Yb b2 (Z _);have KA:∀x∈[(t body)],x<256:=by intro x hx;rw[List.mem_singleton.1 hx];omega
 have of0:Yd h2.size 5 (h2.push (O (([(t body)]:List Nat).map bv).toArray 5)) (R (Y ⟨h2.size,0,am⟩) 1 1) [(t body)]:=Yd.made KA (Z _);have bp:Zf h2.size h2 (h2.push (O (([(t body)]:List Nat).map bv).toArray 5)):=Zf.push (Z _) _;refine ZF (E:=5) (B:=h2.size) YN av WS VC VB of0 Dq (sb.Yb (B2.trans (bp.mono gX))) L6 ?_;intro wf h3 of3 b3 _;have B3:Zf h2.size h2 h3:=bp.trans b3;have mN:=B2.trans (B3.mono gX);have Zh3:Yd h2.size 5 h3 wf (Gl body):=of3;clear of0 bp of3 b3;have fl:=Lm body;have fsl:=S7 body;have efr:Xt body=Gl body++(SR (Gl body)).take 4:=rfl;have shl:=JY (Gl body);simp -implicitDefEqProofs only[go_sem];refine (Fi T h3 wf (Gl body) Zh3.bs (tk.JT mN)).use ?_;rintro _ h4 ⟨⟨ws,rfl,os⟩,b4⟩;have e0:Oh (Gl body).length=0:=by unfold Oh;rw[if_neg gX]
 rw[e0,if_pos rfl]at os;rw[e0];generalize SR (Gl body)=SH at *;obtain⟨ps,cs,rfl,YR⟩:=os.open;have sS:=os.bs;obtain⟨p',c',hv,hh⟩:=sS.UM;simp only[Value.slice.injEq]at hv;obtain⟨rfl,_,rfl⟩:=hv;obtain⟨bb,ob,rfl,_⟩:=hh (by intro e;rw[e]at shl;cases shl);have s4:=Bs.Pb sS (m:=4) gX cs;rw[shl]at YR ⊢;have h4c:(4:Int)<=(cs:Int):=gX;have IC:¬cs=0:=gX;have of4:=Zh3.Yb b4 (Z _);have s3:=B3.size;have s4s:=b4.size;have B4:Zf h2.size h2 h4:=B3.trans (b4.mono s3);simp -implicitDefEqProofs only[go_sem,h4c,IC,bL,bR];refine ZF (E:=5) (B:=h2.size) YN av WS VC VB of4 gX s4 (by rw[fl,ay];omega) ?_;intro wg h5 og b5 _;rw[<-efr]at og;have B5:Zf h2.size h2 h5:=B4.trans b5;have s5:=B5.size;have Bh5:=B2.trans (B5.mono gX);obtain⟨pg,cg,rfl,_⟩:=og.open;rw[fsl];have x65:=B5.get gX x6;have r65:V.hc h5 ⟨h1.size,0,am⟩=Y (R pw (t l) cw):=by rw[Zg x65];rfl
 have o5:=o2.Yb B5 (Z _);have x15:h5[h.size+1]? = Y (O [R am 0 0,H J 0].toArray 114):=B5.get gX (b2.get gX x1);generalize Xt body=FR at *;by_cases q:100000<(t l)+((t body)+5)
 .have q':100000<((t l):Int)+(((t body)+5:Nat):Int):=gX;have y2:=Z2 x15 0;have ZL:h.size+1<h5.size:=gX;rw[if_pos q]at ee;rw[ee];simp -implicitDefEqProofs only[go_sem,r65,q',y2,ZL];exact⟨⟨_,rfl,Yd.nil _ _ _⟩,Bh5.Zj gX _⟩
 .have q':¬100000<((t l):Int)+(((t body)+5:Nat):Int):=gX;rw[if_neg q]at ee;rw[ee];simp -implicitDefEqProofs only[go_sem,r65,q'];have ogb:Bs h5 (R pg ((t body)+5) cg) FR:=by rw[<-fsl];exact og.bs
  refine JJ (E:=5) (B:=h0.size) YN av WS VC VB o5 gX ogb gX ?_;intro wz h6 oz b6 bt6 bk6;have s6:=b6.size;have bP:∀b,ZJ (Value.slice pw (t l) cw)=Y b->b<h1.size:=o1.Zy.lt;have x66:h6[h1.size]? = Y (O [R pw (t l) cw,H J n].toArray 114):=by
   rw[bt6.block _ gX (fun e=>by have:=bP _ e;omega)];exact x65
  have x16:h6[h.size+1]? = Y (O [R am 0 0,H J 0].toArray 114):=b6.get gX x15;obtain⟨pz,cz,hwz,_⟩:=oz.open;have zl:(l++FR).length=(t l)+((t body)+5):=by rw[aI,fsl]
  rw[zl]at hwz;subst hwz;have w66:=Ye (v:=R pz ((t l)+((t body)+5)) cz) x66 (o:=0);obtain⟨h7,yF⟩:=ZD (h6.setIfInBounds h1.size (O [R pz ((t l)+((t body)+5)) cz,H J n].toArray 114):Hp);have Zqf:Jb h6 ⟨h1.size,0,am⟩ (R pz ((t l)+((t body)+5)) cz)=Y h7:=by rw[w66,if_pos ⟨Dq,rfl⟩,yF];rfl
  have b7:Ue (Y h1.size) h6 h7:=by rw[yF];exact Ue.Zdm Ue.refl
  have x77:h7[h1.size]? = Y (O [R pz ((t l)+((t body)+5)) cz,H J n].toArray 114):=by rw[yF,a8,if_pos rfl,if_pos gX]
  have x17:h7[h.size+1]? = Y (O [R am 0 0,H J 0].toArray 114):=by
   rw[b7.block _ gX (fun e=>by have:=Option.some.inj e;omega)];exact x16
  have oz7:=oz.SA b7 (fun b hb e=>by
   have e':=Option.some.inj e;rcases bk6 b hb with g1|g1
   .have:=bP b g1;omega
   .omega)
  have r77:rd h7 ⟨h1.size,0,am⟩ 2=Y [R pz ((t l)+((t body)+5)) cz,H J n]:=Zs x77 rfl;have y7:=Z2 x17 0;have IN:h.size+1<h7.size:=Za x17;have Ay:Zf h.size h h6:=Bh5.trans (b6.mono gX);have HF:Zf h.size h h7:=Ay.trans (b7.Yb gX (fun b e=>by have:=Option.some.inj e;omega));clear yF w66;simp -implicitDefEqProofs only[go_sem,Zqf,r77,y7,IN];refine⟨⟨_,rfl,?_⟩,HF.Zj gX _⟩;exact (oz7.Z3 gX _).mono gX
theorem Wp(g:Hp)(ns:List Nat):NT (g.push (O (ns.map nv).toArray 3)) (R (Y ⟨g.size,0,am⟩) (t ns) (t ns)) ns:=by
 constructor
 rw[UL nv];exact Sl.made Dq _
theorem Tt(T:bc)(h:Hp)(u:a0)(ns:List Nat)(s:NT h u ns)(hl:(t ns)<=100)(hb:∀x∈ns,x<=1073741824):
  Zc a2 T 189 #[u] h fun v' h'=>Yd h.size 5 h' v' (ZG ns)/\Zf h.size h h':=by
 obtain⟨p,c,rfl,YR⟩:=xw s;refine Zc.Y8 [_] Tryz.func189 ?_;simp -implicitDefEqProofs only[go_sem];refine VS.Z9 (fun F g=>Zf h.size h g/\F 6=R p (t ns) c/\F 7=H J (t ns)/\∃i:Nat,i<=(t ns)/\F 8=H J i/\Yd h.size 5 g (F 3) (ZG (ns.take i)))
  (fun F _=>(t ns)-(vi (F 8)).toNat) rfl ⟨Zf.refl _ _,rfl,rfl,0,gX,rfl,Yd.nil _ _ _⟩ ?_
 rintro F g ⟨hg,f6,f7,i,hi,f8,ho⟩;have Pd:=hg.size;by_cases ZL:i<(t ns)
 .have ZW:(i:Int)<(t ns):=gX;obtain⟨b,o,rfl,Dm,YR⟩:=YR (by intro e;rw[e]at ZL;simp at ZL);have n1:V.hc g ⟨b,o+i,am⟩=Y (H J (ns.getD i 0:Nat)):=by rw[hg.hc (by exact Dm)];exact YR i ZL
  have et:ns.take (i+1)=ns.take i++[ns.getD i 0]:=by
   rw[Yp _ i ZL,aa,a1 ZL];rfl
  have hx:ns.getD i 0<=1073741824:=by
   rw[aa,a1 ZL];exact hb _ (List.getElem_mem ZL)
  generalize ns.getD i 0=x at *;obtain⟨yx,jZ⟩:∃y:Int,y=(x:Int):=⟨_,rfl⟩
  obtain⟨z0,GH⟩:∃y:Int,y=((x/16777216%256:Nat):Int):=⟨_,rfl⟩
  obtain⟨z1,Ej⟩:∃y:Int,y=((x/65536%256:Nat):Int):=⟨_,rfl⟩
  obtain⟨z2,bV⟩:∃y:Int,y=((x/256%256:Nat):Int):=⟨_,rfl⟩
  obtain⟨z3,yE⟩:∃y:Int,y=((x%256:Nat):Int):=⟨_,rfl⟩
  rw[<-jZ]at n1;have e1:Unit->Xw J yx 24%256=z0:=fun _=>by rw[jZ,GH,show (24:Int)=((24:Nat):Int) from rfl,TS x 24 MZ];rfl
  have e2:Unit->Xw J yx 16%256=z1:=fun _=>by rw[jZ,Ej,show (16:Int)=((16:Nat):Int) from rfl,TS x 16 MZ];rfl
  have e3:Unit->Xw J yx 8%256=z2:=fun _=>by rw[jZ,bV,show (8:Int)=((8:Nat):Int) from rfl,TS x 8 MZ];rfl
  have e4:Unit->yx%256=z3:=fun _=>by rw[jZ,yE];rfl
  have Jm:(ZG (ns.take i)).length<=400:=by rw[ZO,ay];omega
  clear jZ;simp -implicitDefEqProofs only[go_sem,f6,f7,f8,ZW,n1,e1 (),e2 (),e3 (),e4 ()];subst GH Ej bV yE;refine ZF (E:=5) (B:=h.size) YN av WS VC VB (ho.push _) L6 (Bs.made (l:=Un x) (Wx x) 4) (by simp[Un];omega) ?_;intro w' g' PW Jc _;simp -implicitDefEqProofs only[go_sem,f6,f7,f8];refine⟨⟨(hg.add _).trans Jc,f6,f7,i+1,ZL,rfl,?_⟩,?_⟩
  .rw[et];unfold ZG at PW ⊢;rw[bU];simp only[cf,ch,aw];exact PW
  .simp only[vi,Zk,↓reduceIte,f8];omega
 .have YU:¬(i:Int)<(t ns):=gX;obtain rfl:i=(t ns):=gX;rw[List.take_length]at ho;simp -implicitDefEqProofs only[go_sem,f6,f7,f8,YU];exact⟨ho,hg⟩
def Q6(l:List Nat)(n:Int)(b:Ji):Int:=if ¬Xu l n then 5 else if ¬Z6 b then 2 else J7 l n 9
def Q7(b:Ji):List Nat:=1 :: ZG [b.r.toNat,b.n.toNat]
theorem cL(b:Ji):YT ⟨0,0⟩ [] b=if Z6 b then 0 else 2:=by
 have e:X8 ⟨0,0⟩ []=0:=rfl;unfold YT;rw[if_neg (by rw[e];decide)];by_cases q:Z6 b
 .rw[if_neg (fun hn=>hn q),if_pos q,if_neg];intro hb;have q1:=q.1.1;rcases hb with hb|⟨hb,_⟩<;>simp at hb<;>omega
 .rw[if_pos q,if_neg q]
theorem Ln(T:bc)(h:Hp)(v:a0)(n:Int)(l:List Nat)(b:Ji)(s:Bs h v l)(hl:(t l)<=140737488355328)(tk:Tk h):
  Zc a2 T 153 #[a4 [v,H J n].toArray,a4 (JF b).toArray] h fun v' h'=>T1 h.size h' v' l n (Q6 l n b) (Xt (Q7 b))/\Zf h.size h h':=by
 obtain⟨p,c,rfl,_⟩:=s.open;refine Zc.Y8 [_,_] Tryz.func153 ?_;unfold T1 JF;simp -implicitDefEqProofs only[go_sem];obtain⟨h0,Jk⟩:=ZD (((h.push (O [R p (t l) c,H J n].toArray 114)).push (O [H J b.r,H J b.n].toArray 116)).push (O [R am 0 0,H J 0].toArray 114):Hp);have b0:Zf h.size h h0:=by rw[Jk];exact (((Zf.refl _ _).add _).add _).add _
 have s0:h0.size=h.size+3:=by rw[Jk];simp
 have t0:h0[h.size]? = Y (O [R p (t l) c,H J n].toArray 114):=by
  rw[Jk,a3,if_neg L6,a3,if_neg Dq,Zb]
 have t1:h0[h.size+1]? = Y (O [H J b.r,H J b.n].toArray 116):=by
  rw[Jk,a3,if_neg Dq,a3,if_pos Dq]
 have x0:h0[h.size+2]? = Y (O [R am 0 0,H J 0].toArray 114):=by
  rw[Jk,a3,if_pos Dq]
 rw[<-Jk];clear Jk;refine (QG T h0 _ n l (s.Yb b0) hl).use ?_;rintro _ h1 ⟨b1,o1⟩;have s1:=b1.size;have B1:Zf h.size h h1:=b0.trans (b1.mono gX);have x1:=b1.get gX x0;by_cases ok:Xu l n
 case neg=>
  have ee:Q6 l n b=5:=by unfold Q6;rw[if_pos ok]
  rw[if_neg (show ¬((t l)<=100000/\0<=n/\n<=(t l)) from ok)]at o1;subst o1;rw[ee];have y2:=Z2 x1 0;have ZL:h.size+2<h1.size:=gX;have Ys:¬h.size+2=h1.size:=gX;simp -implicitDefEqProofs only[go_sem,y2,Ys,ZL];exact⟨⟨_,rfl,Yd.nil _ _ _⟩,(B1.Zj gX _).Yx L6 _⟩
 rw[if_pos (show ((t l)<=100000/\0<=n/\n<=(t l)) from ok)]at o1;obtain⟨w,rfl,o1⟩:=o1;obtain⟨pw,cw,rfl,_⟩:=o1.open;have bt1:=b1.get gX t1;have r1:rd h1 ⟨h.size+1,0,am⟩ 2=Y [H J b.r,H J b.n]:=Zs bt1 rfl;have C1:¬h.size+1=h1.size:=gX;simp -implicitDefEqProofs only[go_sem,r1,C1];have b2:Zf h1.size h1 (h1.push (O [R pw (t l) cw,H J n].toArray 114)):=Zf.push (Z _) _;refine (TX T _ ⟨0,0⟩ (R am 0 0) [] b (JD.nil 0 168 Zn 8 _).ts Dq).use ?_;rintro _ h3 ⟨⟨w1,w2,rfl,q1,q2⟩,b3⟩;simp only[ite_self]at q1;have B3:Zf h1.size h1 h3:=b2.trans (b3.mono b2.size);rw[cL];obtain⟨p1,c1,bP,_⟩:=q1.open;have s3:=B3.size;have x3:=B3.get gX x1;have mN:=B1.trans (B3.mono gX);by_cases may:Z6 b
 case neg=>
  have ee:Q6 l n b=2:=by unfold Q6;rw[if_neg (fun hn=>hn ok),if_pos may]
  rw[ee,if_neg may];obtain⟨w1',ZCJ⟩:∃w,w=w1:=⟨_,rfl⟩
  subst bP;have y2:=Z2 x3 0;have ZL:h.size+2<h3.size:=gX;have Ys:¬h.size+2=h3.size:=gX;unfold Y0;simp -implicitDefEqProofs only[go_sem,y2,Ys,ZL];exact⟨⟨_,rfl,Yd.nil _ _ _⟩,(mN.Zj gX _).Yx L6 _⟩
 have ee:Q6 l n b=J7 l n 9:=by unfold Q6;rw[if_neg (fun hn=>hn ok),if_neg (fun hn=>hn may)]
 rw[ee,if_pos may];obtain⟨⟨m1,m2⟩,m3,m4⟩:=may;obtain⟨br,bn⟩:=b;obtain⟨r,rfl⟩:∃r:Nat,br=r:=⟨br.toNat,by simp at m1;omega⟩
 obtain⟨m,rfl⟩:∃m:Nat,bn=m:=⟨bn.toNat,by simp at m3;omega⟩
 simp only at m1 m2 m3 m4;unfold Q7;simp only[bH];subst bP;unfold Y0;have t3:=B3.get gX (b1.get gX t0);have t13:=B3.get gX bt1;obtain⟨g,hg⟩:=ZD (h3.push (O [H J (r:Nat),H J (m:Nat),R p1 ([]:List Vt).length c1].toArray 119):Hp);simp -implicitDefEqProofs only[go_sem];have e3:h3.push (O #[Value.int J (r:Nat),H J (m:Nat),R p1 0 c1] 119)=g:=hg.symm;rw[e3];have bg:Zf h3.size h3 g:=by rw[hg];exact Zf.push (Z _) _
 have sg:g.size=h3.size+1:=by rw[hg];simp
 clear e3 hg;have Bg:Zf h.size h g:=mN.trans (bg.mono gX);have x4g:=bg.get gX x3;have t4:=bg.get gX t3;have t14:=bg.get gX t13;have r0:rd g ⟨h.size,0,am⟩ 2=Y [R p (t l) c,H J n]:=Zs t4 rfl;have c0:V.hc g ⟨h.size+1,0,am⟩=Y (H J (r:Nat)):=by rw[Zg t14];rfl
 have c1':V.hc g ⟨h.size+1,1,am⟩=Y (H J (m:Nat)):=by rw[Zg t14];rfl
 have k0:h.size<g.size:=gX;have k1:h.size+1<g.size:=gX;refine VS.w (g.size) [12,13] (.q 0 (.q 2 (.q 3 (.q 4 (.q 5 (.or 1 (.s 6 (.s 7 (.s 8 (.s 9 (.q 10 (.q 11 (.w 12 (.w 13 .nil)))))))) (.s 6 (.or 1 (.s 7 (.s 8 (.s 9 (.q 10 (.q 11 (.w 12 (.w 13 .nil))))))) (.s 7 (.s 1 (.s 8 (.s 9 (.q 10 (.q 11 (.w 12 (.w 13 .nil)))))))))))))))) mixed po ?_;simp -implicitDefEqProofs only[go_sem,r0,c0,c1',k0,k1];refine⟨?_,?_,?_⟩
 .have o0:Yd g.size 5 (g.push (O (([1]:List Nat).map bv).toArray 5)) (R (Y ⟨g.size,0,am⟩) 1 1) [1]:=Yd.made MZ (Z _);have B0:Zf g.size g ((g.push (O (([1]:List Nat).map bv).toArray 5)).push (O (([r,m]:List Nat).map nv).toArray 3)):=(Zf.push (Z _) _).Yx Dq _;have o00:=o0.push (O (([r,m]:List Nat).map nv).toArray 3);have si:NT ((g.push (O (([1]:List Nat).map bv).toArray 5)).push (O (([r,m]:List Nat).map nv).toArray 3)) (R (Y ⟨(g.push (O (([1]:List Nat).map bv).toArray 5)).size,0,am⟩) 2 2) [r,m]:=Wp _ _;have e1:(g.push (O (([1]:List Nat).map bv).toArray 5)).size=g.size+1:=Dq;rw[e1]at si;refine (Tt T _ _ [r,m] si Dq (by intro x hx;simp only[bx,bw,or_false]at hx;omega)).use ?_;rintro w5 h5 ⟨o5,b5⟩;have BB:=B0.trans (b5.mono B0.size);have o1:=o00.Yb b5 (Z _);have s4:=o5.bs;simp -implicitDefEqProofs only[go_sem,BB];refine ZF (E:=5) (B:=g.size) YN av WS VC VB o1 BB.size s4 (by rw[ZO];simp) ?_;intro w6 h6 o6 b6 _;have B6:Zf g.size g h6:=BB.trans b6;have Ay:=Bg.trans (B6.mono gX);have qP:Yd g.size 5 h6 w6 (1 :: ZG [r,m]):=o6;simp -implicitDefEqProofs only[go_sem,B6];refine (Tq T h6 _ w6 n l (1 :: ZG [r,m]) (s.Yb Ay) hl qP.bs (by simp only[a6,ZO,a9];omega) (tk.JT Ay)).use ?_;rintro _ h7 ⟨⟨w7,rfl,o7⟩,b7⟩;have el:(1 :: ZG [r,m]).length=9:=by simp only[a6,ZO,a9]
  rw[el]at o7 ⊢;have B7:Zf g.size g h7:=B6.trans (b7.mono B6.size);have HF:=Ay.trans (b7.mono Ay.size);have x7:=B7.get gX x4g;have y7:=Z2 x7 0;have IN:h.size+2<h7.size:=Za x7;generalize Xt (1 :: ZG [r,m])=FR at *;obtain⟨E,hE⟩:=ZD (J7 l n 9);rw[<-hE]at o7 ⊢;obtain⟨z,hz⟩:∃z:Int,z=if E=0 then n else 0:=⟨_,rfl⟩
  rw[<-hz];obtain⟨pz,cz,rfl,_⟩:=o7.open;have o7l:=o7;simp -implicitDefEqProofs only[go_sem,B7,y7,IN];refine⟨⟨_,rfl,?_⟩,HF.Zj gX _⟩;exact (o7.Z3 (by have:=B6.size;omega) _).mono (by have:=B6.size;omega)
 .have yG:Zf g.size g (g.push (O (([r,m]:List Nat).map nv).toArray 3)):=Zf.push (Z _) _;have o0:Yd g.size 5 ((g.push (O (([r,m]:List Nat).map nv).toArray 3)).push (O (([1]:List Nat).map bv).toArray 5)) (R (Y ⟨(g.push (O (([r,m]:List Nat).map nv).toArray 3)).size,0,am⟩) 1 1) [1]:=(Yd.made MZ (Z _)).mono Dq;have B0:Zf g.size g ((g.push (O (([r,m]:List Nat).map nv).toArray 3)).push (O (([1]:List Nat).map bv).toArray 5)):=yG.Yx Dq _;have si0:NT (g.push (O (([r,m]:List Nat).map nv).toArray 3)) (R (Y ⟨g.size,0,am⟩) 2 2) [r,m]:=Wp _ _;have si:=si0.Yb (Zf.push (Z _) (O (([1]:List Nat).map bv).toArray 5));have e1:(g.push (O (([r,m]:List Nat).map nv).toArray 3)).size=g.size+1:=Dq;rw[e1]at o0;refine (Tt T _ _ [r,m] si Dq (by intro x hx;simp only[bx,bw,or_false]at hx;omega)).use ?_;rintro w5 h5 ⟨o5,b5⟩;have BB:=B0.trans (b5.mono B0.size);have o1:=o0.Yb b5 (Z _);have s4:=o5.bs;simp -implicitDefEqProofs only[go_sem,BB];refine ZF (E:=5) (B:=g.size) YN av WS VC VB o1 BB.size s4 (by rw[ZO];simp) ?_;intro w6 h6 o6 b6 _;have B6:Zf g.size g h6:=BB.trans b6;have Ay:=Bg.trans (B6.mono gX);have qP:Yd g.size 5 h6 w6 (1 :: ZG [r,m]):=o6;simp -implicitDefEqProofs only[go_sem,B6];refine (Tq T h6 _ w6 n l (1 :: ZG [r,m]) (s.Yb Ay) hl qP.bs (by simp only[a6,ZO,a9];omega) (tk.JT Ay)).use ?_;rintro _ h7 ⟨⟨w7,rfl,o7⟩,b7⟩;have el:(1 :: ZG [r,m]).length=9:=by simp only[a6,ZO,a9]
  rw[el]at o7 ⊢;have B7:Zf g.size g h7:=B6.trans (b7.mono B6.size);have HF:=Ay.trans (b7.mono Ay.size);have x7:=B7.get gX x4g;have y7:=Z2 x7 0;have IN:h.size+2<h7.size:=Za x7;generalize Xt (1 :: ZG [r,m])=FR at *;obtain⟨E,hE⟩:=ZD (J7 l n 9);rw[<-hE]at o7 ⊢;obtain⟨z,hz⟩:∃z:Int,z=if E=0 then n else 0:=⟨_,rfl⟩
  rw[<-hz];obtain⟨pz,cz,rfl,_⟩:=o7.open;have o7l:=o7;simp -implicitDefEqProofs only[go_sem,B7,y7,IN];refine⟨⟨_,rfl,?_⟩,HF.Zj gX _⟩;exact (o7.Z3 (by have:=B6.size;omega) _).mono (by have:=B6.size;omega)
 .have yG:Zf g.size g (g.push (O (([r,m]:List Nat).map nv).toArray 3)):=Zf.push (Z _) _;have si:NT (g.push (O (([r,m]:List Nat).map nv).toArray 3)) (R (Y ⟨g.size,0,am⟩) 2 2) [r,m]:=Wp _ _;refine (Tt T _ _ [r,m] si Dq (by intro x hx;simp only[bx,bw,or_false]at hx;omega)).use ?_;rintro w5 h5 ⟨o5,b5⟩;have yH:=yG.trans (b5.mono yG.size);have BB:Zf g.size g (h5.push (O (([1]:List Nat).map bv).toArray 5)):=yH.Yx yH.size _;have o1:Yd g.size 5 (h5.push (O (([1]:List Nat).map bv).toArray 5)) (R (Y ⟨h5.size,0,am⟩) 1 1) [1]:=(Yd.made MZ (Z _)).mono yH.size;have s4:=o5.bs.Yb (Zf.push (Z h5.size) (O (([1]:List Nat).map bv).toArray 5));simp -implicitDefEqProofs only[go_sem,yH,BB];refine ZF (E:=5) (B:=g.size) YN av WS VC VB o1 BB.size s4 (by rw[ZO];simp) ?_;intro w6 h6 o6 b6 _;have B6:Zf g.size g h6:=BB.trans b6;have Ay:=Bg.trans (B6.mono gX);have qP:Yd g.size 5 h6 w6 (1 :: ZG [r,m]):=o6;simp -implicitDefEqProofs only[go_sem,B6];refine (Tq T h6 _ w6 n l (1 :: ZG [r,m]) (s.Yb Ay) hl qP.bs (by simp only[a6,ZO,a9];omega) (tk.JT Ay)).use ?_;rintro _ h7 ⟨⟨w7,rfl,o7⟩,b7⟩;have el:(1 :: ZG [r,m]).length=9:=by simp only[a6,ZO,a9]
  rw[el]at o7 ⊢;have B7:Zf g.size g h7:=B6.trans (b7.mono B6.size);have HF:=Ay.trans (b7.mono Ay.size);have x7:=B7.get gX x4g;have y7:=Z2 x7 0;have IN:h.size+2<h7.size:=Za x7;generalize Xt (1 :: ZG [r,m])=FR at *;obtain⟨E,hE⟩:=ZD (J7 l n 9);rw[<-hE]at o7 ⊢;obtain⟨z,hz⟩:∃z:Int,z=if E=0 then n else 0:=⟨_,rfl⟩
  rw[<-hz];obtain⟨pz,cz,rfl,_⟩:=o7.open;have o7l:=o7;simp -implicitDefEqProofs only[go_sem,B7,y7,IN];refine⟨⟨_,rfl,?_⟩,HF.Zj gX _⟩;exact (o7.Z3 (by have:=B6.size;omega) _).mono (by have:=B6.size;omega)
theorem Vs(n:Nat):Jl n [Value.int ao 0]=(bS n 0).map bv:=by
 induction n with
 | zero=>rfl
 | succ n ih=>rw[Jl,ih];rfl
theorem IP:∀(vs zs:List a0),(t vs)<=(t zs)->YJ zs 0 vs=vs++zs.drop (t vs)
 | [],zs,_=>by cases zs<;>rfl
 | v :: vs,[],h=>by simp at h
 | v :: vs,z :: zs,h=>by
  rw[YJ,IP vs zs (by simpa using h)];rfl
theorem C2(key:List Nat):YJ ((bS 64 0).map bv) 0 (((Oe key).map bv).take (min (Oe key).length 64))=(Wh key).map bv:=by
 have:=Vl key;rw[bA this,a5 Dq,IP _ _ L6,List.length_map,<-List.map_drop,List.drop_replicate,Wh,List.map_append]
theorem qQ(T:bc)(h:Hp)(v:a0)(key:List Nat)(w:Nat)(s:Bs h v key)(hk:(t key)<=100000)(hw:w<256)(tk:Tk h):
  Zc a2 T 103 #[v,H ao w] h fun v' h'=>Yd h.size 5 h' v' (WX key w)/\Zf h.size h h':=by
 obtain⟨p,cp,rfl,UX⟩:=s.open;have jX:Pe key:=s.byte;refine Zc.Y8 [_,_] Tryz.func103 ?_;by_cases e64:64<(t key)
 .have Zdo:64<((t key):Int):=gX;have hK:SR key=Oe key:=by unfold Oe;rw[if_pos e64]
  simp -implicitDefEqProofs only[go_sem,Zdo];refine (EN T _ _ key s hk tk).use ?_;rintro u g ⟨ou,bg⟩;have su:=ou.bs;rw[hK]at su;simp -implicitDefEqProofs only[go_sem];have hG:Zf h.size h (g.push (O (Jl 64 [Value.int ao 0]).toArray 5)):=bg.add _;have sK':=su.Yb (Zf.push (Z g.size) (O (Jl 64 [Value.int ao 0]).toArray 5));have kl:=Vl key;refine KZ (o:=0) (dl:=64) (dc:=64) (c:=Jl 64 [Value.int ao 0]) (E':=5) YN WS Zb sK'.sl (Vz _) (by rw[Vs];simp;omega) ?_;rw[UI,Vs,C2];have fE:Zf h.size h (g.push (O ((Wh key).map bv).toArray 5)):=bg.add _;have So:(g.push (O ((Wh key).map bv).toArray 5))[g.size]? = Y (O (((WX key w).take 0++(Wh key).drop 0).map bv++[]).toArray 5):=by
   rw[bE,bT,bz,aw];exact Zb
  simp -implicitDefEqProofs only[go_sem];refine VS.Z9 (fun F' g'=>Zf h.size h g'/\F' 1=H ao w/\F' 5=R (Y ⟨g.size,0,am⟩) 64 64/\F' 17=H J 64/\∃i:Nat,i<=64/\F' 18=H J i/\g'[g.size]? = Y (O (((WX key w).take i++(Wh key).drop i).map bv++[]).toArray 5))
   (fun F _=>64-(vi (F 18)).toNat) rfl ⟨fE,rfl,rfl,rfl,0,gX,rfl,So⟩ ?_
  clear hG fE So sK';rintro F g' ⟨hg,f1,f5,f17,i,hi,f18,hx⟩;have Pd:=Za hx;have yp:((WX key w).take i++(Wh key).drop i).length=64:=by rw[aI,ay,bo,Yg,Jq];omega
  by_cases ZL:i<64
  .have ZW:(i:Int)<64:=gX;have q1:=ZX (f:=bv) hx (i:=i) gX;have e0:((WX key w).take i++(Wh key).drop i).getD i 0=(Wh key).getD i 0:=by
    rw[aa,ba (by rw[ay,Yg];omega),ay,Yg,bA gX,bD,bG,cd,<-aa]
   rw[e0]at q1;unfold bv at q1;have eX:=G6 key w ZL;have cs:=Yk (f:=bv) hx (i:=i) gX ((WX key w).getD i 0) rfl;rw[Og _ _ i (by rw[Yg];exact ZL) (by rw[Yg,Jq])]at cs;have hZb:=ZT (Mi jX) i;have ox:Unit->Ym .xor ao (((Wh key).getD i 0:Nat):Int) (w:Int)=(((WX key w).getD i 0:Nat):Int):=fun _=>by rw[eX];exact FV _ _ hZb hw
   have nt:Jb g' ⟨g.size,i,am⟩ (H ao (((WX key w).getD i 0:Nat):Int))=_:=cs;simp -implicitDefEqProofs only[go_sem,f1,f5,f17,f18,ZW,q1,ox (),nt];refine⟨⟨hg.Zj (bg.size) _,f1,f5,f17,i+1,ZL,rfl,Z1 hx⟩,?_⟩;simp only[vi,Zk,↓reduceIte,f18];omega
  .have YU:¬(i:Int)<64:=gX;obtain rfl:i=64:=gX;rw[a5 (by rw[Yg];omega),a7 (by rw[Jq];omega),aw,aw]at hx;simp -implicitDefEqProofs only[go_sem,f5,f17,f18,YU];exact⟨⟨.inr ⟨g.size,64,[],bg.size,by rw[Yg],by rw[aw];exact hx,by simp[Yg],by rw[Yg];rfl,by rw[Yg];omega⟩,G0 jX hw⟩,hg⟩
 .have Zdo:¬64<((t key):Int):=gX;have hK:Oe key=key:=by unfold Oe;rw[if_neg e64]
  have b0:=Zf.refl h.size h;have su:=s;have S8:Bs h (R p (Oe key).length cp) (Oe key):=by rw[hK];exact s
  simp -implicitDefEqProofs only[go_sem,Zdo];have hG:Zf h.size h (h.push (O (Jl 64 [Value.int ao 0]).toArray 5)):=b0.add _;have ve:(t key)=(Oe key).length:=by rw[hK]
  rw[ve];have sK':=S8.Yb (Zf.push (Z h.size) (O (Jl 64 [Value.int ao 0]).toArray 5));have kl:=Vl key;refine KZ (o:=0) (dl:=64) (dc:=64) (c:=Jl 64 [Value.int ao 0]) (E':=5) YN WS Zb sK'.sl (Vz _) (by rw[Vs];simp;omega) ?_;rw[UI,Vs,C2];have fE:Zf h.size h (h.push (O ((Wh key).map bv).toArray 5)):=b0.add _;have So:(h.push (O ((Wh key).map bv).toArray 5))[h.size]? = Y (O (((WX key w).take 0++(Wh key).drop 0).map bv++[]).toArray 5):=by
   rw[bE,bT,bz,aw];exact Zb
  simp -implicitDefEqProofs only[go_sem];refine VS.Z9 (fun F' g'=>Zf h.size h g'/\F' 1=H ao w/\F' 5=R (Y ⟨h.size,0,am⟩) 64 64/\F' 17=H J 64/\∃i:Nat,i<=64/\F' 18=H J i/\g'[h.size]? = Y (O (((WX key w).take i++(Wh key).drop i).map bv++[]).toArray 5))
   (fun F _=>64-(vi (F 18)).toNat) rfl ⟨fE,rfl,rfl,rfl,0,gX,rfl,So⟩ ?_
  clear hG fE So sK';rintro F g' ⟨hg,f1,f5,f17,i,hi,f18,hx⟩;have Pd:=Za hx;have yp:((WX key w).take i++(Wh key).drop i).length=64:=by rw[aI,ay,bo,Yg,Jq];omega
  by_cases ZL:i<64
  .have ZW:(i:Int)<64:=gX;have q1:=ZX (f:=bv) hx (i:=i) gX;have e0:((WX key w).take i++(Wh key).drop i).getD i 0=(Wh key).getD i 0:=by
    rw[aa,ba (by rw[ay,Yg];omega),ay,Yg,bA gX,bD,bG,cd,<-aa]
   rw[e0]at q1;unfold bv at q1;have eX:=G6 key w ZL;have cs:=Yk (f:=bv) hx (i:=i) gX ((WX key w).getD i 0) rfl;rw[Og _ _ i (by rw[Yg];exact ZL) (by rw[Yg,Jq])]at cs;have hZb:=ZT (Mi jX) i;have ox:Unit->Ym .xor ao (((Wh key).getD i 0:Nat):Int) (w:Int)=(((WX key w).getD i 0:Nat):Int):=fun _=>by rw[eX];exact FV _ _ hZb hw
   have nt:Jb g' ⟨h.size,i,am⟩ (H ao (((WX key w).getD i 0:Nat):Int))=_:=cs;simp -implicitDefEqProofs only[go_sem,f1,f5,f17,f18,ZW,q1,ox (),nt];refine⟨⟨hg.Zj (b0.size) _,f1,f5,f17,i+1,ZL,rfl,Z1 hx⟩,?_⟩;simp only[vi,Zk,↓reduceIte,f18];omega
  .have YU:¬(i:Int)<64:=gX;obtain rfl:i=64:=gX;rw[a5 (by rw[Yg];omega),a7 (by rw[Jq];omega),aw,aw]at hx;simp -implicitDefEqProofs only[go_sem,f5,f17,f18,YU];exact⟨⟨.inr ⟨h.size,64,[],b0.size,by rw[Yg],by rw[aw];exact hx,by simp[Yg],by rw[Yg];rfl,by rw[Yg];omega⟩,G0 jX hw⟩,hg⟩
theorem cM(T:bc)(h:Hp)(v u:a0)(key b:List Nat)(s:Bs h v key)(sb:Bs h u b)(hk:(t key)<=10000)(hb:(t b)<=10000)(tk:Tk h):
  Zc a2 T 76 #[v,u] h fun v' h'=>Yd h.size 5 h' v' (Mj key b)/\Zf h.size h h':=by
 have sb0:=sb;refine Zc.Y8 [_,_] Tryz.func76 ?_;simp -implicitDefEqProofs only[go_sem];refine (qQ T h v key 92 s gX gX tk).use ?_;rintro v1 h1 ⟨o1,b1⟩;have s1:=b1.size;simp -implicitDefEqProofs only[go_sem];refine (qQ T h1 v key 54 (s.Yb b1) gX gX (tk.JT b1)).use ?_;rintro v2 h2 ⟨o2,b2⟩;have s2:=b2.size;have B2:=b1.trans (b2.mono s1);have o1':=o1.Yb b2 (Z _);have l1:=Yg key 92;have l2:=Yg key 54;simp -implicitDefEqProofs only[go_sem];refine ZF (E:=5) (B:=h1.size) YN av WS VC VB o2 s2 (sb.Yb B2) (by rw[l2];omega) ?_;intro v3 h3 o3 b3 _;have s3:=b3.size;have B3:=B2.trans (b3.mono s1);have Zqj:=o1.Yb (b2.trans b3) (Z _);simp -implicitDefEqProofs only[go_sem];refine (EN T h3 v3 _ o3.bs (by rw[aI,l2];omega) (tk.JT B3)).use ?_;rintro v4 h4 ⟨o4,b4⟩;have B4:=B3.trans (b4.mono gX);have o14:=Zqj.Yb b4 (Z _);simp -implicitDefEqProofs only[go_sem];refine ZF (E:=5) (B:=h.size) YN av WS VC VB o14 B4.size o4.bs (by rw[l1,JY];omega) ?_;intro v5 h5 o5 b5 _;have B5:=B4.trans b5;simp -implicitDefEqProofs only[go_sem];refine (EN T h5 v5 _ o5.bs (by rw[aI,l1,JY];omega) (tk.JT B5)).use ?_;rintro v6 h6 ⟨o6,b6⟩;simp -implicitDefEqProofs only[go_sem];exact⟨o6.mono B5.size,B5.trans (b6.mono B5.size)⟩
def IQ(m n:Nat):Int:=if 256<m\/2000<n then 1 else 0
def qS(B:Nat)(h':Hp)(v':a0)(key b:List Nat):Prop:=∃w,v'=.tuple [w,H J (IQ (t key) (t b))].toArray/\Yd B 5 h' w (if IQ (t key) (t b)=0 then Mj key b else [])
theorem j0(T:bc)(h:Hp)(v u:a0)(key b:List Nat)(s:Bs h v key)(sb:Bs h u b)(tk:Tk h):
  Zc a2 T 81 #[v,u] h fun v' h'=>qS h.size h' v' key b/\Zf h.size h h':=by
 obtain⟨p,cp,rfl,UX⟩:=s.open;obtain⟨q,cq,rfl,MR⟩:=sb.open;refine Zc.Y8 [_,_] Tryz.func81 ?_;unfold qS IQ;by_cases e1:256<(t key)
 .have mO:256<((t key):Int):=gX;rw[if_pos (.inl e1)];simp -implicitDefEqProofs only[go_sem,mO];exact⟨_,rfl,Yd.nil _ _ _⟩
 .have mO:¬256<((t key):Int):=gX;by_cases e2:2000<(t b)
  .have vf:2000<((t b):Int):=gX;rw[if_pos (.inr e2)];simp -implicitDefEqProofs only[go_sem,mO,vf];exact⟨_,rfl,Yd.nil _ _ _⟩
  .have vf:¬2000<((t b):Int):=gX;rw[if_neg gX];simp -implicitDefEqProofs only[go_sem,mO,vf];refine (cM T _ _ _ key b s sb gX gX tk).use ?_;rintro w h1 ⟨o1,b1⟩;simp -implicitDefEqProofs only[go_sem,b1];exact⟨_,rfl,o1⟩
theorem C3(T:bc)(h:Hp)(v u:a0)(key b:List Nat)(s:Bs h v key)(sb:Bs h u b)(hk:(t key)<=256)(hb:(t b)<=2000)(tk:Tk h):
  Zc a2 T 49 #[v,u] h fun v' h'=>(Bs h' v' ((Mj key b).take 16)/\Sn v')/\Zf h.size h h':=by
 refine Zc.Y8 [_,_] Tryz.func49 ?_;simp -implicitDefEqProofs only[go_sem];refine (j0 T _ _ _ key b s sb tk).use ?_;rintro _ h1 ⟨⟨w,rfl,o1⟩,b1⟩;have e0:IQ (t key) (t b)=0:=by unfold IQ;rw[if_neg gX]
 rw[e0,if_pos rfl]at o1;rw[e0];have ml:=Vm key b;generalize Mj key b=M at *;obtain⟨p,c,rfl,hc⟩:=o1.open;have sM:=o1.bs;obtain⟨p',c',hv,hh⟩:=sM.UM;simp only[Value.slice.injEq]at hv;obtain⟨rfl,_,rfl⟩:=hv;obtain⟨bb,ob,rfl,_⟩:=hh (by intro e;rw[e]at ml;cases ml);have fin:=Bs.Pb sM (m:=16) gX c;rw[ml]at hc ⊢;have h16:(16:Int)<=(c:Int):=gX;have At:¬c=0:=gX;simp -implicitDefEqProofs only[go_sem,h16,At,bL,bR,b1];exact⟨fin,show 16<=c by omega⟩
def qU(c r u:Nat):List Nat:=[c,r]++Un u
def C4(key:List Nat)(c r u:Nat):List Nat:=qU c r u++(Mj key (qU c r u)).take 16
theorem Lo(c r u:Nat):(qU c r u).length=6:=rfl
theorem Lp(key:List Nat)(c r u:Nat):(C4 key c r u).length=22:=by
 rw[C4,aI,Lo,ay,Vm];rfl
def WF(kl:Nat)(c r u:Int):Int:=if kl≠32 then 1 else Ju c r u
def cN(B:Nat)(h':Hp)(v':a0)(key:List Nat)(c r u:Int):Prop:=∃w,v'=.tuple [w,H J (WF (t key) c r u)].toArray/\Yd B 5 h' w (if WF (t key) c r u=0 then C4 key c.toNat r.toNat u.toNat else [])
theorem C6{c r u:Int}(h:Ju c r u=0):∃c' r' u':Nat,c=c'/\r=r'/\u=u'/\c'<8/\r'<8/\u'<=1048576:=by
 unfold Ju at h;split at h
 .cases h
 .exact⟨c.toNat,r.toNat,u.toNat,gX,gX,gX,gX,gX,gX⟩
theorem qW(T:bc)(h:Hp)(v:a0)(key:List Nat)(c r u:Int)(s:Bs h v key)(tk:Tk h):
  Zc a2 T 92 #[v,a4 (TQ c r u).toArray] h fun v' h'=>cN h.size h' v' key c r u/\Zf h.size h h':=by
 obtain⟨p,cp,rfl,_⟩:=s.open;refine Zc.Y8 [_,_] Tryz.func92 ?_;unfold cN TQ;by_cases hk:(t key)=32
 case neg=>
  have ee:WF (t key) c r u=1:=by unfold WF;rw[if_pos hk]
  have PV:¬((t key):Int)=32:=gX;rw[ee];simp -implicitDefEqProofs only[go_sem,PV];exact⟨_,rfl,Yd.nil _ _ _⟩
 have PV:((t key):Int)=32:=gX;have ee:WF (t key) c r u=Ju c r u:=by unfold WF;rw[if_neg gX]
 rw[ee];simp -implicitDefEqProofs only[go_sem,PV];refine (Ik T _ c r u).use ?_;rintro _ _ ⟨rfl,rfl⟩;unfold TQ;by_cases q:Ju c r u=0
 case neg=>
  simp -implicitDefEqProofs only[go_sem,q];exact⟨_,rfl,Yd.nil _ _ _⟩
 obtain⟨c,r,u,rfl,rfl,rfl,hc,hr,hu⟩:=C6 q;rw[q];have ec:(c:Int)%256=(c:Int):=gX;have er:(r:Int)%256=(r:Int):=gX;simp only[bH];simp -implicitDefEqProofs only[go_sem,ec,er];obtain⟨h1,YX⟩:=ZD ((h.push (O [Value.int J c,H J r,H J u].toArray 80)).push (O [Value.int J c,H J r,H J u].toArray 80):Hp);have b1:Zf h.size h h1:=by rw[YX];exact ((Zf.refl _ _).add _).add _
 have s1:h1.size=h.size+1+1:=by rw[YX];simp
 rw[<-s1,<-YX];clear YX;have KA:∀x∈[c,r],x<256:=by
  intro x hx;simp only[bx,bw,or_false]at hx;omega
 have o2:Yd h1.size 5 (h1.push (O (([c,r]:List Nat).map bv).toArray 5)) (R (Y ⟨h1.size,0,am⟩) 2 2) [c,r]:=Yd.made KA (Z _);have B2:Zf h1.size h1 (h1.push (O (([c,r]:List Nat).map bv).toArray 5)):=Zf.push (Z _) _;refine (fy T _ h1.size _ [c,r] u o2 Dq Dq gX).use ?_;rintro w3 h3 ⟨o3,b3⟩;have B3:=B2.trans b3;have mN:Zf h.size h h3:=b1.trans (B3.mono gX);have o3':Yd h1.size 5 h3 w3 (qU c r u):=o3;have gl:=Lo c r u;unfold C4;generalize qU c r u=G at *;simp -implicitDefEqProofs only[go_sem];rw[<-PV];refine (C3 T h3 _ w3 key G (s.Yb mN) o3'.bs gX gX (tk.JT mN)).use ?_;rintro w4 h4 ⟨⟨s4,_⟩,b4⟩;have s3:=B3.size;have o34:=o3'.Yb b4 (Z _);have Bh4:=mN.trans (b4.mono mN.size);simp -implicitDefEqProofs only[go_sem];refine ZF (E:=5) (B:=h1.size) YN av WS VC VB o34 (by have:=b4.size;omega) s4 (by rw[gl,ay];omega) ?_;intro w5 h5 o5 b5 _;have Bh5:=Bh4.trans (b5.mono gX);simp -implicitDefEqProofs only[go_sem,Bh5];exact⟨_,rfl,o5.mono gX⟩
def EO:List a0:=TQ 0 0 0
def Qz(key l:List Nat):Int:=if (t key)≠32\/(t l)≠22 then 1 else if (Mj key (l.take 6)).take 16≠l.drop 6 then 6 else Ju (l.getD 0 0:Nat) (l.getD 1 0:Nat) (XZ l 2:Nat)
def EP(key l:List Nat):List a0:=if Qz key l=0 then TQ (l.getD 0 0:Nat) (l.getD 1 0:Nat) (XZ l 2:Nat) else EO
theorem IR(T:bc)(h:Hp)(v u:a0)(key l:List Nat)(s:Bs h v key)(sl:Bs h u l)(cu:Sn u)(tk:Tk h):
  Zc a2 T 25 #[v,u] h fun v' h'=>v'=.tuple [a4 (EP key l).toArray,H J (Qz key l)].toArray/\Zf h.size h h':=by
 obtain⟨p,cp,rfl,_⟩:=s.open;obtain⟨q,cq,rfl,hq⟩:=sl.UM;refine Zc.Y8 [_,_] Tryz.func25 ?_;by_cases hk:(t key)=32
 case neg=>
  have ee:Qz key l=1:=by unfold Qz;rw[if_pos (.inl hk)]
  have PV:¬((t key):Int)=32:=gX;unfold EP;rw[ee];unfold EO TQ;simp +contextual -implicitDefEqProofs only[go_sem,PV]
  (repeat' (first|exact Zf.refl _ _|assumption|refine Zf.add ?_ _|refine Zf.Zj ?_ aaa _|refine Zf.trans aab ?_))
 have PV:((t key):Int)=32:=gX;by_cases hl:(t l)=22
 case neg=>
  have ee:Qz key l=1:=by unfold Qz;rw[if_pos (.inr hl)]
  have Ar:¬((t l):Int)=22:=gX;unfold EP;rw[ee];unfold EO TQ;simp +contextual -implicitDefEqProofs only[go_sem,PV,Ar]
  (repeat' (first|exact Zf.refl _ _|assumption|refine Zf.add ?_ _|refine Zf.Zj ?_ aaa _|refine Zf.trans aab ?_))
 have Ar:((t l):Int)=22:=gX;obtain⟨b,o,rfl,hb,YR⟩:=hq (by intro e;rw[e]at hl;cases hl);have QQ:22<=cq:=by have:(t l)<=cq:=cu;omega
 have h6c:(6:Int)<=(cq:Int):=gX;have At:¬cq=0:=gX;have hc6:¬cq=6:=gX;obtain⟨y0,jA⟩:∃y:Int,y=((l.getD 0 0:Nat):Int):=⟨_,rfl⟩
 obtain⟨y1',EE⟩:∃y:Int,y=((l.getD 1 0:Nat):Int):=⟨_,rfl⟩
 obtain⟨y2',hy2⟩:∃y:Int,y=((l.getD 2 0:Nat):Int):=⟨_,rfl⟩
 obtain⟨y3,hy3⟩:∃y:Int,y=((l.getD 3 0:Nat):Int):=⟨_,rfl⟩
 obtain⟨y4,hy4⟩:∃y:Int,y=((l.getD 4 0:Nat):Int):=⟨_,rfl⟩
 obtain⟨y5,hy5⟩:∃y:Int,y=((l.getD 5 0:Nat):Int):=⟨_,rfl⟩
 obtain⟨yY,hyY⟩:∃y:Int,y=((XZ l 2:Nat):Int):=⟨_,rfl⟩
 have z0:=ZT sl.byte 0;have z1:=ZT sl.byte 1;have z2:=ZT sl.byte 2;have z3:=ZT sl.byte 3;have z4:=ZT sl.byte 4;have z5:=ZT sl.byte 5;have eo:Unit->Ym .or J (Ym .or J (Ym .or J (YS J y2' 24) (YS J y3 16)) (YS J y4 8)) y5=yY:=fun _=>by
  rw[hy2,hy3,hy4,hy5,hyY];exact Es z2 z3 z4 z5
 have yb:(0<=y0/\y0<256)/\(0<=y1'/\y1'<256)/\(0<=y2'/\y2'<256)/\(0<=y3/\y3<256)/\(0<=y4/\y4<256)/\(0<=y5/\y5<256):=by
  rw[jA,EE,hy2,hy3,hy4,hy5];omega
 obtain⟨⟨ya1,ya2⟩,⟨ya3,ya4⟩,⟨ya5,ya6⟩,⟨ya7,ya8⟩,⟨ya9,ZCO⟩,ZCP,ZCQ⟩:=yb;have ee:Qz key l=if (Mj key (l.take 6)).take 16≠l.drop 6 then 6 else Ju y0 y1' yY:=by
  rw[jA,EE,hyY];unfold Qz;rw[if_neg gX]
 have eT:EP key l=if Qz key l=0 then TQ y0 y1' yY else EO:=by rw[jA,EE,hyY];rfl
 have j1:∀i,i<22->V.hc h ⟨b,o+i,am⟩=Y (H ao (l.getD i 0:Nat)):=fun i hi=>YR i gX;have q0:=j1 0 gX;have q1:=j1 1 gX;have q2:=j1 2 gX;have q3:=j1 3 gX;have q4:=j1 4 gX;have q5:=j1 5 gX;rw[<-jA]at q0;rw[<-EE]at q1;rw[<-hy2]at q2;rw[<-hy3]at q3;rw[<-hy4]at q4;rw[<-hy5]at q5;obtain⟨h1,YX⟩:=ZD (h.push (O EO.toArray 80):Hp);have b1:Zf h.size h h1:=by rw[YX];exact Zf.push (Z _) _
 have s1:h1.size=h.size+1:=by rw[YX];simp
 have x1:h1[h.size]? = Y (O EO.toArray 80):=by rw[YX];exact Zb
 have e1:h.push (O #[Value.int J 0,H J 0,H J 0] 80)=h1:=YX.symm;rw[hl]at sl YR ⊢;simp -implicitDefEqProofs only[go_sem,PV,Ar];rw[e1];clear e1 YX;have sl1:=sl.Yb b1;have s61:Bs h1 (R (Y ⟨b,o,am⟩) 6 cq) (l.take 6):=by
  rw[<-hl]at sl1;exact Bs.Pb sl1 gX cq
 have t6:(l.take 6).length<=2000:=aac;obtain⟨M,hM⟩:=ZD ((Mj key (l.take 6)).take 16);have ml:(t M)<=140737488355328:=by rw[hM,ay];omega
 rw[<-hM]at ee;refine VS.mono (N:=fun F g=>Zf h1.size h1 g/\F 1=R (Y ⟨b,o,am⟩) 22 cq/\F 4=az (Y ⟨h.size,0,am⟩)/\F 24=.bool (!decide (M=l.drop 6))) ?_ ?_ (fun _ _ _ h=>h) (fun _ _ h=>h)
 .refine VS.w (h1.size) [] (.q 0 (.q 1 (.q 2 (.q 4 (.q 5 (.s 3 (.s 6 (.q 7 .nil)))))))) mixed po ?_;simp -implicitDefEqProofs only[go_sem,h6c,At,hc6,bL,bR];rw[<-PV];refine (C3 T h1 _ _ key (l.take 6) (s.Yb b1) s61 gX t6 (tk.JT b1)).use ?_;rintro w h2 ⟨⟨s2,_⟩,b2⟩;rw[<-hM]at s2;have sl2:=TZ (sl1.Yb b2) (k:=6) gX hl (cq-6);simp -implicitDefEqProofs only[go_sem,b2];refine (Ep T h2 w _ M (l.drop 6) s2 sl2 ml).pure ?_;simp -implicitDefEqProofs only[go_sem,b2]
 rintro F g ⟨bg,f1,f4,f24⟩;have Bg:=b1.trans (bg.mono gX);have k0:g[h.size]? = Y (O EO.toArray 80):=bg.get gX x1;have k1:rd g ⟨h.size,0,am⟩ 3=Y EO:=Zs k0 rfl;have k2:=Z2 k0 0;have Pd:=Za k0;clear hM;unfold EO TQ at *;by_cases hm:M=l.drop 6
 case neg=>
  have hd:decide (M=l.drop 6)=false:=decide_eq_false hm;rw[hd]at f24;rw[if_pos hm]at ee;rw[eT,ee];simp +contextual -implicitDefEqProofs only[go_sem,f1,f4,f24,k1,k2];exact Bg.Zj (Z _) _
 have hd:decide (M=l.drop 6)=true:=decide_eq_true hm;rw[hd]at f24;rw[if_neg (fun hn=>hn hm)]at ee;have e0:V.hc g ⟨b,o,am⟩=Y (H ao y0):=by rw[Bg.hc (by exact hb)];exact q0
 have e1:V.hc g ⟨b,o+1,am⟩=Y (H ao y1'):=by rw[Bg.hc (by exact hb)];exact q1
 have e2:V.hc g ⟨b,o+2,am⟩=Y (H ao y2'):=by rw[Bg.hc (by exact hb)];exact q2
 have e3:V.hc g ⟨b,o+3,am⟩=Y (H ao y3):=by rw[Bg.hc (by exact hb)];exact q3
 have e4:V.hc g ⟨b,o+4,am⟩=Y (H ao y4):=by rw[Bg.hc (by exact hb)];exact q4
 have e5:V.hc g ⟨b,o+5,am⟩=Y (H ao y5):=by rw[Bg.hc (by exact hb)];exact q5
 rw[eT,ee];clear jA EE hy2 hy3 hy4 hy5 hyY;have hbg:b<g.size:=b8 hb Bg.size;simp -implicitDefEqProofs only[go_sem,f1,f4,f24];refine VS.w (g.size) [32] (.q 0 (.q 1 (.q 2 (.q 3 (.q 4 (.q 5 (.q 6 (.q 7 (.q 8 (.q 9 (.q 10 (.q 11 (.q 12 (.q 13 (.q 14 (.q 15 (.q 16 (.q 17 (.q 18 (.q 19 (.q 20 (.q 21 (.q 22 (.q 23 (.q 24 (.q 25 (.q 26 (.q 27 (.q 28 (.q 29 (.q 30 (.s 31 (.w 32 .nil))))))))))))))))))))))))))))))))) mixed po ?_;simp -implicitDefEqProofs only[go_sem,f1,f4,hbg,e0,e1,e2,e3,e4,e5,eo ()];refine (Ik T _ y0 y1' yY).use ?_;rintro _ _ ⟨rfl,rfl⟩;unfold TQ;obtain⟨E,hE⟩:=ZD (Ju y0 y1' yY);rw[<-hE];by_cases q:E=0
 .rw[if_pos q];simp +contextual -implicitDefEqProofs only[go_sem,q,f1,f4,k1,k2,Pd]
  (repeat' (first|exact Zf.refl _ _|assumption|refine Zf.add ?_ _|refine Zf.Zj ?_ aaa _|refine Zf.trans aab ?_))
 .rw[if_neg q];simp +contextual -implicitDefEqProofs only[go_sem,q,f1,f4,k1,k2,Pd]
  (repeat' (first|exact Zf.refl _ _|assumption|refine Zf.add ?_ _|refine Zf.Zj ?_ aaa _|refine Zf.trans aab ?_))
def Jd(s a i:Nat)(n:Int):Int:=if 256<s\/256<a\/256<i\/n<0\/512<n then 1 else 0
theorem j2{p:Option Addr}{m c k c' b:Nat}(h:ZJ (R p m c)=Y b)(hc:c'≠0):ZJ (R p k c')=Y b:=by
 cases p with
 | none=>simp[ZJ]at h
 | some a=>
  simp only[ZJ]at h ⊢;split at h
  .cases h
  .rw[if_neg hc];exact h
theorem qX{p:Option Addr}{m c b:Nat}(h:ZJ (R p m c)=Y b):c≠0:=by
 cases p with
 | none=>simp[ZJ]at h
 | some a=>
  simp only[ZJ]at h;split at h
  .cases h
  .assumption
def fW(B:Nat)(h':Hp)(v':a0)(X0 WY info:List Nat)(n:Int):Prop:=∃w,v'=.tuple [w,H J (Jd (t X0) (t WY) (t info) n)].toArray/\Sn w/\Bs h' w (if Jd (t X0) (t WY) (t info) n=0 then IA X0 WY info n.toNat else [])/\∀b,ZJ w=Y b->B<=b
theorem IS(T:bc)(h:Hp)(vs va vi':a0)(X0 WY info:List Nat)(n:Int)(ss:Bs h vs X0)(sa:Bs h va WY)(si:Bs h vi' info)(tk:Tk h):
  Zc a2 T 42 #[vs,va,vi',H J n] h fun v' h'=>fW h.size h' v' X0 WY info n/\Zf h.size h h':=by
 obtain⟨p1,c1,rfl,_⟩:=ss.open;obtain⟨p2,c2,rfl,_⟩:=sa.open;obtain⟨p3,c3,rfl,_⟩:=si.open;refine Zc.Y8 [_,_,_,_] Tryz.func42 ?_;unfold fW;by_cases e1:256<(t X0)
 .have mO:256<((t X0):Int):=by omega
  have ee:Jd (t X0) (t WY) (t info) n=1:=by unfold Jd;rw[if_pos (.inl e1)]
  rw[ee];simp -implicitDefEqProofs only[go_sem,mO];exact⟨_,rfl,Z _,(Yd.nil 0 5 _).bs,fun b hb=>by simp[ZJ]at hb⟩
 have mO:¬256<((t X0):Int):=by omega
 by_cases e2:256<(t WY)
 .have vf:256<((t WY):Int):=by omega
  have ee:Jd (t X0) (t WY) (t info) n=1:=by unfold Jd;rw[if_pos (.inr (.inl e2))]
  rw[ee];simp -implicitDefEqProofs only[go_sem,mO,vf];exact⟨_,rfl,Z _,(Yd.nil 0 5 _).bs,fun b hb=>by simp[ZJ]at hb⟩
 have vf:¬256<((t WY):Int):=by omega
 by_cases e3:256<(t info)
 .have e3':256<((t info):Int):=by omega
  have ee:Jd (t X0) (t WY) (t info) n=1:=by unfold Jd;rw[if_pos (.inr (.inr (.inl e3)))]
  rw[ee];simp -implicitDefEqProofs only[go_sem,mO,vf,e3'];exact⟨_,rfl,Z _,(Yd.nil 0 5 _).bs,fun b hb=>by simp[ZJ]at hb⟩
 have e3':¬256<((t info):Int):=by omega
 by_cases e4:n<0
 .have ee:Jd (t X0) (t WY) (t info) n=1:=by unfold Jd;rw[if_pos (.inr (.inr (.inr (.inl e4))))]
  rw[ee];simp -implicitDefEqProofs only[go_sem,mO,vf,e3',e4];exact⟨_,rfl,Z _,(Yd.nil 0 5 _).bs,fun b hb=>by simp[ZJ]at hb⟩
 by_cases e5:512<n
 .have ee:Jd (t X0) (t WY) (t info) n=1:=by unfold Jd;rw[if_pos (.inr (.inr (.inr (.inr e5))))]
  rw[ee];simp -implicitDefEqProofs only[go_sem,mO,vf,e3',e4,e5];exact⟨_,rfl,Z _,(Yd.nil 0 5 _).bs,fun b hb=>by simp[ZJ]at hb⟩
 have ee:Jd (t X0) (t WY) (t info) n=0:=by unfold Jd;rw[if_neg (by omega)]
 obtain⟨m,rfl⟩:∃m:Nat,n=m:=⟨n.toNat,by omega⟩
 rw[ee,bH];simp -implicitDefEqProofs only[go_sem,mO,vf,e3',e4,e5];refine (cM T _ _ _ WY X0 sa ss (by omega) (by omega) tk).use ?_;rintro vk h1 ⟨ok,b1⟩;have s1:=b1.size;obtain⟨key,yI⟩:=ZD (Mj WY X0);rw[<-yI]at ok;have kl:(t key)=32:=by rw[yI];exact Vm _ _
 have hm:m<=512:=by omega
 have eS:IA X0 WY info m=(Vn key info 16).take m:=by rw[IA,yI]
 have dt:∀i,m<=32*i->i<=16->(Vn key info 16).take m=(Vn key info i).take m:=fun i h1 h2=>Iz key info m i 16 h1 h2;rw[eS];clear eS yI;simp -implicitDefEqProofs only[go_sem];refine VS.Z9 (fun F g=>Zf h1.size h1 g/\F 2=R p3 (t info) c3/\F 3=H J m/\F 10=vk/\∃i:Nat,32*i<m+32/\F 13=H J ((i+1:Nat):Int)/\Yd h1.size 5 g (F 11) (Vn key info i)/\Yd h1.size 5 g (F 12) (PG key info i)/\∀b,ZJ (F 12)=Y b->¬ZJ (F 11)=Y b)
  (fun F _=>m+32-cK (F 11)) rfl ⟨Zf.refl _ _,rfl,rfl,rfl,0,by omega,rfl,Yd.nil _ _ _,Yd.nil _ _ _,fun b hb=>by cases hb⟩ ?_
 rintro F g ⟨hg,f2,f3,f10,i,hi,f13,oa,ot,Zh8⟩;have Pd:=hg.size;have Bg:=b1.trans (hg.mono s1);obtain⟨pa,ca,f11,hca⟩:=oa.open;have al:=Wi key info i;rw[al]at f11 hca;by_cases ZL:32*i<m
 .have ZW:((32*i:Nat):Int)<(m:Int):=by omega
  have tl:=qe key info i;have i16:i<=16:=by omega
  have eT:PG key info (i+1)=Mj key (PG key info i++info++[(i+1)%256]):=rfl;have eA:Vn key info (i+1)=Vn key info i++PG key info (i+1):=rfl;obtain⟨lt,hlT⟩:∃x,x=PG key info i:=⟨_,rfl⟩
  rw[<-hlT]at ot tl eT;have WR:(i+1)%256<256:=Nat.mod_lt _ (by decide);obtain⟨X,hX⟩:=ZD ((i+1)%256);rw[<-hX]at eT WR;have ex:((i+1:Nat):Int)%256=(X:Int):=by rw[hX];rfl
  clear hX hlT;obtain⟨xi,hxi⟩:∃x:Int,x=((i+1:Nat):Int):=⟨_,rfl⟩
  rw[<-hxi]at ex f13;simp -implicitDefEqProofs only[go_sem,f2,f3,f10,f11,f13,ZW,ex];refine JJ (E:=5) (B:=h1.size) YN av WS VC VB ot Pd (si.Yb Bg) (by omega) ?_;intro w2 g2 o2 b2 bt2 bk2;have s2:=b2.size;have oa2:=oa.SA bt2 (fun b hb e=>Zh8 b e hb);have ol2:(lt++info).length<=400:=by rw[aI];omega
  have Zqm:∀b,ZJ w2=Y b->¬ZJ (F 11)=Y b:=fun b hb e=>by
   rcases bk2 b hb with q|q
   .exact Zh8 b q e
   .have:=oa.Zy.lt b e;omega
  simp -implicitDefEqProofs only[go_sem,f2,f3,f10,f13,ex];refine JJ (E:=5) (B:=h1.size) YN av WS VC VB (o2.push _) (by simp;omega) (Bs.one WR 1) (by simp only[be];omega) ?_;intro w3 g3 o3 b3 bt3 bk3;have s3:=b3.size;simp only[Array.size_push]at s3 bk3;have oa3:=(oa2.push (O [Value.int ao ((X:Nat):Int)].toArray 5)).SA bt3 (fun b hb e=>Zqm b e hb);have Bg3:Zf h1.size h1 g3:=((hg.trans b2).Yx (by omega) _).trans b3;have B3:=b1.trans (Bg3.mono s1);have ok3:=ok.Yb Bg3 (Z _);simp -implicitDefEqProofs only[go_sem,f2,f3,f10,f13];refine (cM T g3 vk w3 key _ ok3.bs o3.bs (by omega) (by rw[aI];simp only[be];omega) (tk.JT B3)).use ?_;rintro w4 g4 ⟨o4,b4⟩;rw[<-eT]at o4;have s4:=b4.size;have oa4:=oa3.Yb b4 (Z _);have Bg4:=Bg3.trans (b4.mono (by omega));rw[f11]at oa4;have tl1:=TW key info i;simp -implicitDefEqProofs only[go_sem,f2,f3,f10,f11,f13];refine JJ (E:=5) (B:=h1.size) YN av WS VC VB oa4 Bg4.size o4.bs (by rw[al,tl1];omega) ?_;intro w5 g5 o5 b5 bt5 bk5;have s5:=b5.size;obtain⟨p5,c5,rfl,_⟩:=o5.open;have Zdr:∀b,ZJ w4=Y b->¬ZJ (F 11)=Y b:=fun b hb e=>by
   have q1:=o4.Zy.ZQ b hb;have q2:=oa3.Zy.lt b e;omega
  rw[f11]at Zdr;have o4':=(o4.mono (show h1.size<=g3.size by omega)).SA bt5 (fun b hb e=>Zdr b hb e);simp -implicitDefEqProofs only[go_sem,f2,f3,f10,f13];refine⟨⟨Bg4.trans b5,f2,f3,f10,i+1,by omega,?_,?_,o4',fun b hb e=>?_⟩,?_⟩
  .show Value.int J _=_;rw[hxi];rfl
  .rw[eA];exact o5
  .have e':ZJ (Value.slice p5 (Vn key info i++PG key info (i+1)).length c5)=Y b:=e;rcases bk5 b e' with q|q
   .exact Zdr b hb q
   .have:=o4.Zy.lt b hb;omega
  .simp only[cK,Zk,↓reduceIte,Nat.reduceEqDiff,f11,aI,al,tl1];omega
 .have YU:¬((32*i:Nat):Int)<(m:Int):=by omega
  have e6:=dt i (by omega) (by omega);rw[e6];have oab:=oa.bs;have oaB:=oa.Zy.ZQ;rw[f11]at oab oaB;rw[<-al]at oab;have As:(m:Int)<=(ca:Int):=by omega
  have vg:(0:Int)<=(m:Int):=by omega
  have fin:=Bs.Pb oab (m:=m) (by rw[al];omega) m;simp -implicitDefEqProofs only[go_sem,f2,f3,f11,YU,As,vg,Bg];exact⟨_,rfl,Z _,fin,fun b hb=>Nat.le_trans (by omega) (oaB b (j2 hb (by have:=qX hb;omega)))⟩
def Zid(bf:List Nat)(k c s n v:Int)(a b:Nat):List Nat:=((bf++ZG [k.toNat,c.toNat,s.toNat,n.toNat,v.toNat])++Un a)++Un b
def Zie(bf:List Nat)(k c s n v:Int)(a b:Nat):List Nat:=SR (Zid bf k c s n v a b)
structure QA where
 k:Int
 c:Int
 s:Int
 n:Int
 v:Int
structure Etv where
 x:QA
 a:Int
 b:Int
 sum:List Nat
structure Chn where
 cs:List a0
 sum:List Nat
 out:List Etv
def Tu(cs:List a0)(x:QA):Zhj:=WD cs x.k.toNat x.c.toNat x.s.toNat x.n.toNat x.v.toNat
def Nt(cs:List a0)(x:QA):Int:=Le cs x.k x.c x.s x.n x.v
def Zqr(cs:List a0)(sum:List Nat)(x:QA):List Nat:=Zie sum x.k x.c x.s x.n x.v (Tu cs x).code.toNat (Tu cs x).val.toNat
theorem j3{cs:List a0}{x:QA}(h:Nt cs x=0):Q2 cs=false/\Y9 x.k x.c x.s x.n x.v=0:=by
 unfold Nt Le at h;split at h
 .cases h
 .rename_i q;exact⟨by simpa using q,h⟩
theorem C7:∀{ks:List (Option IntKind)} {vs:List a0} (i:Nat) {k:Option IntKind},YM ks vs=true->ks[i]? = Y k->∃v,nth vs i=Y v/\U1 k v=true:=by
 intro ks
 induction ks with
 | nil=>intro vs i k _ h;simp at h
 | cons a ks ih=>
  intro vs i k hf hk
  cases vs with
  | nil=>simp[YM]at hf
  | cons x vs=>
   simp only[YM,Bool.and_eq_true]at hf
   cases i with
   | zero=>simp only[List.getElem?_cons_zero,Option.some.injEq]at hk;subst hk;exact⟨x,rfl,hf.1⟩
   | succ i=>exact ih i hf.2 (by simpa using hk)
theorem cO{cs:List a0}(hf:YM Jw cs=true):∀i,i<32->nth cs i=Y (H J (ci cs i)):=by
 intro i hi;have:∀i<32,Jw[i]? = Y (Y J):=MZ;obtain⟨v,h1,h2⟩:=C7 i hf (this i hi);unfold ci;rw[h1]
 cases v<;>simp[U1]at h2
 rw[h2]
theorem C8{cs:List a0}(hf:YM Jw cs=true):∀i,32<=i->i<40->nth cs i=Y (.bool (cb cs i)):=by
 intro i h1 h2;have:∀j<8,Jw[32+j]? = Y am:=MZ;have e:=this (i-32) gX;rw[show 32+(i-32)=i by omega]at e;obtain⟨v,h1,h2⟩:=C7 i hf e;unfold cb;rw[h1]
 cases v<;>simp[U1]at h2
 rfl
def qY(st:Chn)(e:Etv):Prop:=¬Nt st.cs e.x=0\/¬((Tu st.cs e.x).code=e.a/\(Tu st.cs e.x).val=e.b)\/¬Zqr st.cs st.sum e.x=e.sum
instance (st:Chn)(e:Etv):Decidable (qY st e):=by unfold qY;infer_instance
variable {Q Q':a0->List Nat->Prop}
end Go.Proofs.YtdpjmhgbmhjniaaGreatDoor
namespace Go.Proofs.YtdpjmhgbmhjniaaGreatDoor
open Go Go.V
set_option linter.all false
set_option maxRecDepth 100000
theorem yJ{cs:List a0}(hf:YM Jw cs=true)(x:QA):∃(D:List a0) (a b:Int),doL cs x.k x.c x.s x.n x.v=[a4 D.toArray,a4 [H J a,H J b].toArray,H J (Nt cs x)]/\YM Jw D=true/\(Nt cs x=0->D=(Tu cs x).cells/\a=(Tu cs x).code/\b=(Tu cs x).val):=by
 unfold doL Nt Tu;by_cases e:Le cs x.k x.c x.s x.n x.v=0
 .rw[if_pos e];refine⟨_,_,_,by rw[e],?_,fun _=>⟨rfl,rfl,rfl⟩⟩;have e2:Y9 x.k x.c x.s x.n x.v=0:=(j3 (cs:=cs) (x:=x) e).2;obtain⟨k,c,s,n,v,e1,e2,e3,e4,e5,y1,y2,y3,y4,y5⟩:=Nj e2;rw[e1,e2,e3,e4,e5];exact jC hf _ _ _ _ _ (by simpa using y4) (by simpa using y2)
 .rw[if_neg e];exact⟨_,_,_,rfl,rfl,fun h=>absurd h e⟩
end Go.Proofs.YtdpjmhgbmhjniaaGreatDoor
