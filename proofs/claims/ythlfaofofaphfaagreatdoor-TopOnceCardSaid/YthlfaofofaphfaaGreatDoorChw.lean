/- Part Chw. -/
import Derived.Test.YthlfaofofaphfaaGreatDoorTab
import Derived.Test.YthlfaofofaphfaaGreatDoorW18
import Derived.Test.YthlfaofofaphfaaGreatDoorBytes
import Derived.Test.YthlfaofofaphfaaGreatDoorTape
import Derived.Test.YthlfaofofaphfaaGreatDoorW12
import Derived.Test.YthlfaofofaphfaaGreatDoorPik
import Derived.Test.YthlfaofofaphfaaGreatDoorLchks
import Derived.Test.YthlfaofofaphfaaGreatDoorW14
import Derived.Test.YthlfaofofaphfaaGreatDoorVst
open Go.Value renaming int→R,slice→Y,pointer→a7,agg→ba
open Go.IntKind renaming i64→O,u32→Z,u8→ae
open Go.Obj renaming cells→S
open Go.Proofs.Tryz renaming underlying28→aD,prog→bc
open List renaming length→J,getD_eq_getElem?_getD→am,length_append→aO,append_nil→a4,length_take→a5,getElem?_eq_getElem→a8,take_of_length_le→be,replicate→bk,length_cons→bl,drop_of_length_le→bw,length_nil→bx,length_singleton→bz,getElem?_append_right→bA,length_drop→bG,not_mem_nil→bN,mem_cons→bR,nil_append→bS,take_zero→cc,getElem?_drop→cd,drop_zero→co,flatMap_append→cr,append_assoc→cv,getElem?_map→cx,flatMap_cons→cA,flatMap_nil→cB,length_set→cR
open Nat renaming le_refl→ab,div_eq_of_lt→bB,min_eq_left→b8,sub_self→b9,sub_zero→ck,zero_mul→cn,lt_of_lt_of_le→ct,add_zero→cy
open Int renaming toNat_natCast→cf
open Option renaming some→aa,none→aw
open Array renaming getElem?_push→a6,getElem?_setIfInBounds→a9,size_setIfInBounds→ch,size_push→cC
open Go renaming Value→aN,World→bo
namespace Go.Proofs.YthlfaofofaphfaaGreatDoor
open Go Go.V
set_option linter.unusedSimpArgs false
set_option linter.unusedVariables false
set_option maxRecDepth 100000
abbrev NT(h:Hp)(v:aN)(l:List Nat):Prop:=Ts (fun x=>[nv x]) 1 h v l
theorem J2(T:bo)(h:Hp)(x n:Nat)(hx:x<4294967296)(hn:n<=32):
  Zd bc T 98 #[R Z x,R O n] h fun v' h'=>v'=R Z (rr x n:Nat)/\h'=h:=by
 refine Zd.XS [_,_] Tryz.func98 ?_;have e1:=Gf x (32-n) pA;have e2:=Vb x n hn;have e3:(32:Int)-n=((32-n:Nat):Int):=pA;have e4:=Og (x/2 ^ n) (x*2 ^ (32-n)%4294967296) (Nat.lt_of_le_of_lt (Nat.div_le_self _ _) hx) pA;have e5:¬(n:Int)<0:=pA;have e6:¬((32-n:Nat):Int)<0:=pA;have e7:=mS hx (show 32-n<=32 by omega);rw[show 32-(32-n)=n by omega,Nat.or_comm]at e7;rw[e7]at e4;unfold rr;simp +contextual -implicitDefEqProofs only[go_sem];refine VS.q mixed vM ?_;simp +contextual -implicitDefEqProofs only[go_sem,e3,e1,e2,e4,e5,e6]
theorem ZdD{a b c d:Nat}(ha:a<256)(hb:b<256)(hc:c<256)(hd:d<256):
  YO .or Z (YO .or Z (YO .or Z (Xr Z a 24) (Xr Z b 16)) (Xr Z c 8)) d=((a*16777216+b*65536+c*256+d:Nat):Int):=by
 have sb:∀{x k:Nat},x<256->k<=24->Xr Z (x:Int) (k:Int)=((x*2 ^ k:Nat):Int):=by
  intro x k hx hk;rw[Gf x k pA,Nat.mod_eq_of_lt];have:2 ^ k<=2 ^ 24:=Nat.pow_le_pow_right pA hk;have h2:x*2 ^ k<=255*2 ^ 24:=Nat.mul_le_mul pA this;omega
 have e1:Xr Z (a:Int) 24=((a*16777216:Nat):Int):=sb (k:=24) ha pA;have e2:Xr Z (b:Int) 16=((b*65536:Nat):Int):=sb (k:=16) hb pA;have e3:Xr Z (c:Int) 8=((c*256:Nat):Int):=sb (k:=8) hc pA;have f1:a*16777216 ||| b*65536=a*16777216+b*65536:=Uw (k:=24) pA pA
 have f2:(a*16777216+b*65536) ||| c*256=a*16777216+b*65536+c*256:=Uw (k:=16) pA pA
 rw[e1,e2,e3,Og _ _ pA pA,f1,Og _ _ pA pA,f2,Og _ _ pA pA,Uw (k:=8) pA pA]
theorem MD(xs zs:List Nat)(i:Nat)(hi:i<(J xs))(hz:(J xs)=(J zs)):(xs.take i++zs.drop i).set i (xs.getD i 0)=xs.take (i+1)++zs.drop (i+1):=by
 rw[am,a8 hi];exact KB xs zs i hi hz
def LX(b:List Nat)(i:Nat):List Nat:=UH b i++bk (64-i) 0
theorem Vo{b:List Nat}{i:Nat}(hi:i<=64):(LX b i).length=64:=by simp[LX,Qu];omega
theorem rT{b:List Nat}{i j:Nat}(hj:j<i):(LX b i).getD j 0=(UH b i).getD j 0:=by
 rw[LX,am,List.getElem?_append_left (by rw[Qu];exact hj),<-am]
theorem zN{b:List Nat}{i:Nat}(hi:i<64):(LX b i).set i (BA b (UH b i))=LX b (i+1):=by
 rw[LX,List.set_append_right _ _ (by rw[Qu];exact ab _),Qu,b9,show 64-i=(64-(i+1))+1 by omega,List.replicate_succ,List.set_cons_zero,LX,UH,cv];rfl
theorem rU(b:List Nat):LX b 64=UH b 64:=by simp[LX]
theorem Ca{b:List Nat}(hb:NH b){i j:Nat}:(UH b i).getD j 0<4294967296:=(Fg hb i).getD j
theorem cN(T:bo)(h:Hp)(bd:Nat)(d:List Nat)(v:aN)(b:List Nat)(hd:(J d)=8)(wd:Nf d)(sb:Bs h v b)(hb:(J b)=64)(tk:AP 0 wv kN h)(hx:h[bd]? = aa (S (d.map wv++[]).toArray 166))(hg:0≠bd):
  Zd bc T 77 #[a7 (aa ⟨bd,0,aw⟩),v] h fun v' h'=>RT (aa bd) h h'/\h'[bd]? = aa (S ((bt d b).map wv++[]).toArray 166):=by
 obtain⟨p,c,rfl,WB⟩:=sb.VM;obtain⟨bb,ob,rfl,TC,XL⟩:=WB (by intro e;subst e;simp at hb);have rW:NH b:=sb.byte;refine Zd.XS [_,_] Tryz.func77 ?_;rw[hb];have jg:=Za hx;have b0:Zj h.size h (h.push (S (Qr 64 [Value.int Z 0]).toArray 187)):=Zj.push (ab _) _;have x0:∀A:Array aN,A=((LX b 0).map wv).toArray->(h.push (S A 187))[h.size]? = aa (S ((LX b 0).map wv++[]).toArray 187):=by
  rintro _ rfl;rw[a4];exact Zc
 simp -implicitDefEqProofs only[go_sem];refine VS.Yk (fun F g=>Zj h.size h g/\F 0=a7 (aa ⟨bd,0,aw⟩)/\F 1=Y (aa ⟨bb,ob,aw⟩) 64 c/\F 4=a7 (aa ⟨h.size,0,aw⟩)/\∃i:Nat,i<=64/\F 16=R O i/\g[h.size]? = aa (S ((LX b i).map wv++[]).toArray 187))
  (fun F _=>64-(vi (F 16)).toNat) rfl ⟨b0,rfl,rfl,rfl,0,pA,rfl,by exact x0 _ (by rfl)⟩ ?_
 clear b0 x0;rintro F g ⟨nz,f0,f1,f4,i,hi,f16,hw⟩;have hws:=Za hw;by_cases ZT:i<64
 .have Z7:(i:Int)<64:=pA;have fin:∀X:Nat,X=BA b (UH b i)->QX g ⟨h.size,i,aw⟩ (R Z (X:Nat))=aa (g.setIfInBounds h.size (S ((LX b (i+1)).map wv++[]).toArray 187)):=by
   intro X hX;have:=Yx (f:=wv) hw (i:=i) (by rw[Vo hi];exact ZT) X rfl;rw[hX,zN ZT]at this;rw[hX];exact this
  by_cases h16:i<16
  .have ZhD:(i:Int)<16:=pA;have g0:∀j,j<64->hc g ⟨bb,ob+j,aw⟩=aa (R ae (b.getD j 0:Nat)):=fun j hj=>by rw[nz.hc (by exact TC)];exact XL j pA
   have e0:=g0 (4*i) pA;have e1:=g0 (4*i+1) pA;have e2:=g0 (4*i+2) pA;have e3:=g0 (4*i+3) pA;have y0:=Z4 rW (4*i);have y1:=Z4 rW (4*i+1);have y2:=Z4 rW (4*i+2);have y3:=Z4 rW (4*i+3);have t0:(4*(i:Int)).toNat=4*i:=pA;have t1:(4*(i:Int)+1).toNat=4*i+1:=pA;have t2:(4*(i:Int)+2).toNat=4*i+2:=pA;have t3:(4*(i:Int)+3).toNat=4*i+3:=pA;have eo:=fun (_:Unit)=>ZdD y0 y1 y2 y3;rw[show b.getD (4*i) 0*16777216+b.getD (4*i+1) 0*65536+b.getD (4*i+2) 0*256+b.getD (4*i+3) 0=XH b (4*i) from rfl]at eo;have m0:((b.getD (4*i) 0:Nat):Int)%4294967296=(b.getD (4*i) 0:Nat):=pA;have m1:((b.getD (4*i+1) 0:Nat):Int)%4294967296=(b.getD (4*i+1) 0:Nat):=pA;have m2:((b.getD (4*i+2) 0:Nat):Int)%4294967296=(b.getD (4*i+2) 0:Nat):=pA;have m3:((b.getD (4*i+3) 0:Nat):Int)%4294967296=(b.getD (4*i+3) 0:Nat):=pA;have cs:=fin (XH b (4*i)) (by unfold BA;rw[Qu,if_pos h16]);simp -implicitDefEqProofs only[go_sem,f0,f1,f4,f16,Z7,ZhD];refine VS.w (g.size) [35] (.q 0 (.q 1 (.q 2 (.q 3 (.q 4 (.q 5 (.q 6 (.q 7 (.q 8 (.q 9 (.q 10 (.q 11 (.q 12 (.q 13 (.q 14 (.q 15 (.q 16 (.q 17 (.q 18 (.q 19 (.q 20 (.q 21 (.q 22 (.q 23 (.q 24 (.q 25 (.q 26 (.q 27 (.q 28 (.q 29 (.q 30 (.q 31 (.q 32 (.q 33 (.q 34 (.w 35 .nil)))))))))))))))))))))))))))))))))))) mixed vM ?_;have Zut:bb<g.size:=ct TC nz.size;simp -implicitDefEqProofs only[go_sem,f0,f1,f4,f16,e0,e1,e2,e3,t0,t1,t2,t3,m0,m1,m2,m3,eo (),Zut,cs];refine⟨⟨nz.Zt (ab _) _,f0,f1,f4,i+1,ZT,rfl,Yd hw⟩,?_⟩;simp only[vi,Zr,↓reduceIte,f16];omega
  .have ZhD:¬(i:Int)<16:=pA;have q1:=Z8 hw (i:=i-15) (by rw[Vo hi];omega);have q2:=Z8 hw (i:=i-2) (by rw[Vo hi];omega);have q3:=Z8 hw (i:=i-16) (by rw[Vo hi];omega);have q4:=Z8 hw (i:=i-7) (by rw[Vo hi];omega);rw[rT pA]at q1 q2 q3 q4;have eX:BA b (UH b i)=((UH b i).getD (i-16) 0+sg0 ((UH b i).getD (i-15) 0)+(UH b i).getD (i-7) 0+sg1 ((UH b i).getD (i-2) 0))%4294967296:=by
    unfold BA;rw[Qu,if_neg h16]
   have cs:=fin (BA b (UH b i)) rfl;have hA:(UH b i).getD (i-15) 0<4294967296:=Ca rW;have hC:(UH b i).getD (i-2) 0<4294967296:=Ca rW;rw[eX]at cs;generalize (UH b i).getD (i-15) 0=A at *;generalize (UH b i).getD (i-2) 0=C at *;generalize (UH b i).getD (i-16) 0=E1 at *;generalize (UH b i).getD (i-7) 0=E2 at *;unfold wv at q1 q2 q3 q4;have t1:((i:Int)-15).toNat=i-15:=pA;have t2:((i:Int)-2).toNat=i-2:=pA;have t3:((i:Int)-16).toNat=i-16:=pA;have t4:((i:Int)-7).toNat=i-7:=pA;have s1:Unit->XF Z (A:Int) 3=((A/8:Nat):Int):=fun _=>Vb A 3 aaa;have s2:Unit->XF Z (C:Int) 10=((C/1024:Nat):Int):=fun _=>Vb C 10 aaa;have o1:=fun (_:Unit)=>Uo (rr A 7) (rr A 18) (WC hA) (WC hA);have o2:Unit->YO .xor Z ((rr A 7 ^^^ rr A 18:Nat):Int) ((A/8:Nat):Int)=((sg0 A:Nat):Int):=fun _=>Uo _ _ (TB (WC hA) (WC hA)) (bj hA);have o3:=fun (_:Unit)=>Uo (rr C 17) (rr C 19) (WC hC) (WC hC);have o4:Unit->YO .xor Z ((rr C 17 ^^^ rr C 19:Nat):Int) ((C/1024:Nat):Int)=((sg1 C:Nat):Int):=fun _=>Uo _ _ (TB (WC hC) (WC hC)) (bj hC);generalize sg0 A=S0 at *;generalize sg1 C=S1 at *;have e5:((((E1:Int)+(E2:Int))%4294967296+(S0:Int))%4294967296+(S1:Int))%4294967296=(((E1+S0+E2+S1)%4294967296:Nat):Int):=by clear cs fin;omega
   simp -implicitDefEqProofs only[go_sem,f0,f1,f4,f16,Z7,ZhD];refine VS.q mixed vM ?_;simp -implicitDefEqProofs only[go_sem,f0,f1,f4,f16,q1,q2,t1,t2];refine VS.w (h.size+1) [29] (.q 0 (.q 1 (.q 2 (.q 3 (.q 4 (.q 5 (.q 6 (.q 7 (.q 8 (.q 9 (.q 10 (.q 11 (.q 12 (.q 13 (.q 14 (.q 15 (.q 16 (.q 17 (.q 18 (.q 19 (.q 20 (.q 21 (.q 22 (.q 23 (.q 24 (.q 25 (.q 26 (.q 27 (.q 28 (.w 29 .nil)))))))))))))))))))))))))))))) mixed vM ?_;simp -implicitDefEqProofs only[go_sem,f0,f1,f4,f16,q3,q4,t3,t4,e5];refine Up (fun h=>J2 T h A 7 hA pA) ?_;simp -implicitDefEqProofs only[go_sem,f0,f1,f4,f16,o1 (),o2 (),o3 (),o4 (),s1 (),s2 (),e5];refine Up (fun h=>J2 T h A 18 hA pA) ?_;simp -implicitDefEqProofs only[go_sem,f0,f1,f4,f16,o1 (),o2 (),o3 (),o4 (),s1 (),s2 (),e5];refine Up (fun h=>J2 T h C 17 hC pA) ?_;simp -implicitDefEqProofs only[go_sem,f0,f1,f4,f16,o1 (),o2 (),o3 (),o4 (),s1 (),s2 (),e5];refine Up (fun h=>J2 T h C 19 hC pA) ?_;simp -implicitDefEqProofs only[go_sem,f0,f1,f4,f16,o1 (),o2 (),o3 (),o4 (),s1 (),s2 (),e5,cs];refine⟨⟨nz.Zt (ab _) _,f0,f1,f4,i+1,ZT,rfl,Yd hw⟩,?_⟩;simp only[vi,Zr,↓reduceIte,f16];omega
 .have Xv:¬(i:Int)<64:=pA;obtain rfl:i=64:=pA;rw[rU]at hw;have vz:=nz.get jg hx;have r0:rd g ⟨bd,0,aw⟩ 8=aa (d.map wv):=by rw[a4]at vz;exact Zy vz (by simp[hd])
  have l8:(d.map wv).length=8:=by simp[hd]
  have ZhE:(d.map wv).all YE=true:=by simp[wv,YE]
  obtain⟨DV,hDV⟩:=ZL (d.map wv);rw[<-hDV]at r0 l8 ZhE;have lp:Xd [Value.int Z 0,Value.int Z 0,Value.int Z 0,Value.int Z 0,Value.int Z 0,Value.int Z 0,Value.int Z 0,Value.int Z 0] 0 DV=DV:=ZW l8;simp -implicitDefEqProofs only[go_sem,f0,f1,f4,f16,Xv,r0,l8,ZhE,lp];rw[hDV];have Ov:=nz.size;have hB:Zj h.size h (g.push (S (d.map wv).toArray 166)):=nz.add _;have Oe:Zj g.size g (g.push (S (d.map wv).toArray 166)):=Zj.push (ab _) _;have hv0:(g.push (S (d.map wv).toArray 166))[g.size]? = aa (S ((UI b d 0).map wv++[]).toArray 166):=by
   rw[a4];exact Zc
  refine VS.Yk (fun F' g'=>Zj g.size g g'/\F' 0=a7 (aa ⟨bd,0,aw⟩)/\F' 4=a7 (aa ⟨h.size,0,aw⟩)/\F' 8=a7 (aa ⟨g.size,0,aw⟩)/\∃i:Nat,i<=64/\F' 97=R O i/\g'[g.size]? = aa (S ((UI b d i).map wv++[]).toArray 166))
   (fun F _=>64-(vi (F 97)).toNat) rfl ⟨Oe,f0,f4,rfl,0,pA,rfl,hv0⟩ ?_
  clear f0 f1 f4 f16 Xv hi ZT hv0 hB Oe r0 l8 ZhE lp hDV DV F;rintro F g2 ⟨Wv,f0,f4,f8,i,hi,f97,hv⟩;have jG:=Za hv;obtain⟨v8,w8⟩:=Oo (b:=b) hd wd i;obtain⟨a,b',c',d',e,f,g',k',ag⟩:=eight v8;by_cases ZT:i<64
  .have Z7:(i:Int)<64:=pA;have ZdE:UI b d (i+1)=[(upw e f g' k' (kN.getD i 0) ((UH b 64).getD i 0)+bg0 a+qL a b' c')%4294967296,a,b',c',(d'+upw e f g' k' (kN.getD i 0) ((UH b 64).getD i 0))%4294967296,e,f,g']:=by
    rw[show UI b d (i+1)=yJ (UI b d i) (kN.getD i 0) ((UH b 64).getD i 0) from rfl,ag];rfl
   have hK:kN.getD i 0<4294967296:=Zg8.getD i;have hW:(UH b 64).getD i 0<4294967296:=(Fg rW 64).getD i;have k1:V.hc g2 ⟨0,i,aw⟩=aa (R Z (kN.getD i 0:Nat)):=by
    rw[Wv.hc (by have:=tk.1;show (0:Nat)<g.size;omega),nz.hc (by exact tk.1)];exact tk.2 i ZT
   have w1:V.hc g2 ⟨h.size,i,aw⟩=aa (R Z ((UH b 64).getD i 0:Nat)):=by
    rw[Wv.hc (by exact hws)];exact Z8 hw (by rw[Qu];exact ZT)
   rw[ag]at hv w8;have n0:V.hc g2 ⟨g.size,0,aw⟩=aa (R Z (a:Nat)):=Z8 hv (i:=0) IQ;have n1:V.hc g2 ⟨g.size,1,aw⟩=aa (R Z (b':Nat)):=Z8 hv (i:=1) IQ;have n2:V.hc g2 ⟨g.size,2,aw⟩=aa (R Z (c':Nat)):=Z8 hv (i:=2) IQ;have n3:V.hc g2 ⟨g.size,3,aw⟩=aa (R Z (d':Nat)):=Z8 hv (i:=3) IQ;have n4:V.hc g2 ⟨g.size,4,aw⟩=aa (R Z (e:Nat)):=Z8 hv (i:=4) IQ;have n5:V.hc g2 ⟨g.size,5,aw⟩=aa (R Z (f:Nat)):=Z8 hv (i:=5) IQ;have n6:V.hc g2 ⟨g.size,6,aw⟩=aa (R Z (g':Nat)):=Z8 hv (i:=6) IQ;have n7:V.hc g2 ⟨g.size,7,aw⟩=aa (R Z (k':Nat)):=Z8 hv (i:=7) IQ;have ha:a<4294967296:=w8 a IQ;have Qi:b'<4294967296:=w8 b' IQ;have hc':c'<4294967296:=w8 c' IQ;have hd':d'<4294967296:=w8 d' IQ;have he:e<4294967296:=w8 e IQ;have hf:f<4294967296:=w8 f IQ;have EL:g'<4294967296:=w8 g' IQ;have Ln:k'<4294967296:=w8 k' IQ;generalize kN.getD i 0=K at *;generalize (UH b 64).getD i 0=W at *;have o1:=fun (_:Unit)=>Uo (rr e 6) (rr e 11) (WC he) (WC he);have o2:Unit->YO .xor Z ((rr e 6 ^^^ rr e 11:Nat):Int) ((rr e 25:Nat):Int)=((qI e:Nat):Int):=fun _=>Uo _ _ (TB (WC he) (WC he)) (WC he);have o3:=fun (_:Unit)=>Uo (rr a 2) (rr a 13) (WC ha) (WC ha);have o4:Unit->YO .xor Z ((rr a 2 ^^^ rr a 13:Nat):Int) ((rr a 22:Nat):Int)=((bg0 a:Nat):Int):=fun _=>Uo _ _ (TB (WC ha) (WC ha)) (WC ha);have c0:Unit->(if IntKind.u32.signed=true then (-1:Int) else IntKind.u32.max)=4294967295:=fun _=>rfl;have c1:=fun (_:Unit)=>Ll e f he hf;have c2:=fun (_:Unit)=>Zde he;have c3:=fun (_:Unit)=>Ll (4294967295-e) g' (bm e) EL;have c4:=fun (_:Unit)=>Zg7 (f:=f) he EL;have m1:=fun (_:Unit)=>Ll a b' ha Qi;have m2:=fun (_:Unit)=>Ll a c' ha hc';have m3:=fun (_:Unit)=>Ll b' c' Qi hc';have m4:=fun (_:Unit)=>Uo (a &&& b') (a &&& c') (Wi ha) (Wi ha);have m5:=fun (_:Unit)=>Zdf (c:=c') ha Qi;have eU:upw e f g' k' K W=(k'+qI e+chw e f g'+K+W)%4294967296:=rfl;generalize upw e f g' k' K W=U at *;generalize qI e=S1 at *;generalize bg0 a=S0 at *;generalize chw e f g'=CH at *;generalize qL a b' c'=MJ at *;have e1:Unit->(((((k':Int)+(S1:Int))%4294967296+(CH:Int))%4294967296+(K:Int))%4294967296+(W:Int))%4294967296=(U:Int):=fun _=>by omega
   have e2:Unit->((S0:Int)+(MJ:Int))%4294967296=(((S0+MJ)%4294967296:Nat):Int):=fun _=>by omega
   have e3:Unit->((U:Int)+(((S0+MJ)%4294967296:Nat):Int))%4294967296=(((U+S0+MJ)%4294967296:Nat):Int):=fun _=>by omega
   have e4:Unit->((d':Int)+(U:Int))%4294967296=(((d'+U)%4294967296:Nat):Int):=fun _=>by omega
   simp -implicitDefEqProofs only[go_sem,f0,f4,f8,f97,Z7];refine VS.q mixed vM ?_;simp -implicitDefEqProofs only[go_sem,f0,f4,f8,f97,n0,n4];refine VS.q mixed vM ?_;simp -implicitDefEqProofs only[go_sem,f0,f4,f8,f97,n7,n4];refine WL (J2 T _ e 6 he pA) ?_;simp -implicitDefEqProofs only[go_sem,f8];refine WL (J2 T _ e 11 he pA) ?_;simp -implicitDefEqProofs only[go_sem,f8];refine WL (J2 T _ e 25 he pA) ?_;simp -implicitDefEqProofs only[go_sem,f4,f8,f97,Z7,o1 (),o2 (),n5,n6,c0 (),c1 (),c2 (),c3 (),c4 (),k1,w1,e1 ()];refine VS.mono (N:=fun F' g'=>g2=g'/\F' 0=a7 (aa ⟨bd,0,aw⟩)/\F' 4=a7 (aa ⟨h.size,0,aw⟩)/\F' 8=a7 (aa ⟨g.size,0,aw⟩)/\F' 97=R O i/\F' 10=R Z (a:Nat)/\F' 11=R Z (e:Nat)/\F' 12=R Z (U:Nat)/\F' 13=R Z (((S0+MJ)%4294967296:Nat):Int)) ?_ ?_ (fun _ _ _ h=>h) (fun _ _ h=>h)
   .refine VS.q mixed vM ?_;simp -implicitDefEqProofs only[go_sem,f8];refine WL (J2 T _ a 2 ha pA) ?_;simp -implicitDefEqProofs only[go_sem,f8];refine WL (J2 T _ a 13 ha pA) ?_;simp -implicitDefEqProofs only[go_sem,f8];refine WL (J2 T _ a 22 ha pA) ?_;simp -implicitDefEqProofs only[go_sem,f0,f4,f8,f97,o3 (),o4 (),n1,n2,m1 (),m2 (),m3 (),m4 (),m5 (),e2 ()]
   clear f0 f4 f8 f97 F;rintro F _ ⟨rfl,f0,f4,f8,f97,f10,f11,f12,f13⟩;have hvE:g2[g.size]? = aa (S [Value.int Z a,R Z b',R Z c',R Z d',R Z e,R Z f,R Z g',R Z k'].toArray 166):=hv;have y2:=Ye hvE 0;obtain⟨xU,hxU⟩:∃x:Int,x=(U:Int):=⟨_,rfl⟩
   obtain⟨xD,hxD⟩:∃x:Int,x=(((S0+MJ)%4294967296:Nat):Int):=⟨_,rfl⟩
   obtain⟨x0,P9⟩:∃x:Int,x=(((U+S0+MJ)%4294967296:Nat):Int):=⟨_,rfl⟩
   obtain⟨x4,fW⟩:∃x:Int,x=(((d'+U)%4294967296:Nat):Int):=⟨_,rfl⟩
   have E3:Unit->(xU+xD)%4294967296=x0:=fun _=>by rw[hxU,hxD,P9];exact e3 ()
   have E4:Unit->((d':Int)+xU)%4294967296=x4:=fun _=>by rw[hxU,fW];exact e4 ()
   rw[<-hxU]at f12;rw[<-hxD]at f13;simp -implicitDefEqProofs only[go_sem,f0,f4,f8,f97,f10,f11,f12,f13,n1,n2,n3,n5,n6,E3 (),E4 (),y2];refine⟨⟨Wv.Zt (ab _) _,f0,f4,f8,i+1,ZT,rfl,?_⟩,?_⟩
   .rw[ZdE,P9,fW];exact Yd hv
   .simp only[vi,Zr,↓reduceIte,f97];omega
  .have Xv:¬(i:Int)<64:=pA;obtain rfl:i=64:=pA;have r0:rd g2 ⟨g.size,0,aw⟩ 8=aa ((UI b d 64).map wv):=by rw[a4]at hv;exact Zy hv (by simp[v8])
   have hB:RT (aa bd) h g2:=by
    have q1:=nz.trans (Wv.mono nz.size);exact⟨q1.size,fun k hk _=>q1.block k hk⟩
   have vz:g2[bd]? = aa (S (((PT d (UI b d 64)).take 0++d.drop 0).map wv++[]).toArray 166):=by
    rw[cc,co,bS];exact (nz.trans (Wv.mono nz.size)).get jg hx
   have hal:=Oq hd v8;simp -implicitDefEqProofs only[go_sem,f0,f8,f97,Xv,r0];refine VS.Yk (fun F' g'=>RT (aa bd) h g'/\F' 0=a7 (aa ⟨bd,0,aw⟩)/\F' 177=ba ((UI b d 64).map wv).toArray/\∃i:Nat,i<=8/\F' 178=R O i/\g'[bd]? = aa (S (((PT d (UI b d 64)).take i++d.drop i).map wv++[]).toArray 166))
    (fun F _=>8-(vi (F 178)).toNat) rfl ⟨hB,f0,rfl,0,pA,rfl,vz⟩ ?_
   clear f0 f4 f8 f97 Xv hi ZT hv vz hB r0 F;rintro F g3 ⟨hB,f0,ZhG,i,hi,ZdF,vz⟩;have Zux:=Za vz;have hfl:((PT d (UI b d 64)).take i++d.drop i).length=8:=by rw[Si _ _ _ pA pA,hal]
   by_cases ZT:i<8
   .have Z7:(i:Int)<8:=pA;have n1:nth ((UI b d 64).map wv) i=aa (R Z ((UI b d 64).getD i 0:Nat)):=by
     rw[YU,cx,am,a8 pA];rfl
    have q1:=Z8 vz (i:=i) pA;have e0:((PT d (UI b d 64)).take i++d.drop i).getD i 0=d.getD i 0:=by
     rw[am,bA aad,a5,b8 pA,b9,cd,cy,<-am]
    rw[e0]at q1;unfold wv at q1;have eX:=qM hd v8 ZT;have cs:=Yx (f:=wv) vz (i:=i) pA ((PT d (UI b d 64)).getD i 0) rfl;rw[MD _ _ i pA pA]at cs;have vX:QX g3 ⟨bd,i,aw⟩ (R Z (((PT d (UI b d 64)).getD i 0:Nat):Int))=_:=cs;rw[eX]at vX;generalize d.getD i 0=D at *;generalize (UI b d 64).getD i 0=V at *;have e1:((D:Int)+(V:Int))%4294967296=(((D+V)%4294967296:Nat):Int):=pA;simp -implicitDefEqProofs only[go_sem,ZhG,ZdF,Z7,n1];refine VS.w (g3.size) [9] (.q 0 (.q 1 (.q 2 (.q 3 (.q 4 (.q 5 (.q 6 (.q 7 (.q 8 (.w 9 .nil)))))))))) mixed vM ?_;simp -implicitDefEqProofs only[go_sem,f0,ZhG,ZdF,q1,e1,Zux,vX,Z7];refine⟨⟨?_,f0,ZhG,i+1,ZT,rfl,Yd vz⟩,?_⟩
    .exact⟨by rw[ch];exact hB.size,fun k hk Y7=>by rw[a9,if_neg (by intro e;exact Y7 (by rw[e])),hB.block k hk Y7]⟩
    .simp only[vi,Zr,↓reduceIte,ZdF];omega
   .have Xv:¬(i:Int)<8:=pA;obtain rfl:i=8:=pA;have e9:(PT d (UI b d 64)).take 8++d.drop 8=bt d b:=by
     rw[be pA,bw pA,a4];rfl
    rw[e9]at vz;simp -implicitDefEqProofs only[go_sem,ZdF,Xv];exact⟨hB,vz⟩
def jH:aN->Nat
 | Y _ n _=>n
 | _=>0
def Dm(n:Nat):List Nat:=0 :: 0 :: 0 :: 0 :: Xq (8*n)
theorem I5(n:Nat):(Dm n).length=8:=rfl
theorem rY(n:Nat):NH (Dm n):=by
 intro x hx;simp only[Dm,bR]at hx;rcases hx with rfl|rfl|rfl|rfl|hx
 .omega
 .omega
 .omega
 .omega
 .exact US _ x hx
theorem ZdH{n k:Nat}(hn:n<=100000)(hk:k<8):XF O ((8*n:Nat):Int) ((56-8*k:Nat):Int)%256=(((Dm n).getD k 0:Nat):Int):=by
 rw[Uq _ _ pA];rcases k with _|_|_|_|_|_|_|_|k
 .show ((8*n/2 ^ 56:Nat):Int)%256=((0:Nat):Int)
  rw[bB pA];rfl
 .show ((8*n/2 ^ 48:Nat):Int)%256=((0:Nat):Int)
  rw[bB pA];rfl
 .show ((8*n/2 ^ 40:Nat):Int)%256=((0:Nat):Int)
  rw[bB pA];rfl
 .show ((8*n/2 ^ 32:Nat):Int)%256=((0:Nat):Int)
  rw[bB pA];rfl
 .rfl
 .rfl
 .rfl
 .show ((8*n/2 ^ 0:Nat):Int)%256=((8*n%256:Nat):Int)
  rw[Nat.pow_zero,Nat.div_one];rfl
 .omega
theorem ZdI{x bp op m c:Nat}{h h':Hp}{l:List Nat}(s:Bs h (Y (aa ⟨bp,op,aw⟩) m c) l)(a:RT (aa x) h h')(Y7:bp≠x):Bs h' (Y (aa ⟨bp,op,aw⟩) m c) l:=by
 obtain⟨⟨p,cap,hv,hl,hc⟩,hb⟩:=s;simp only[Value.slice.injEq]at hv;obtain⟨rfl,hm,rfl⟩:=hv;refine⟨⟨_,_,by rw[hm],hl,fun hn=>?_⟩,hb⟩;obtain⟨b,o,hp,XL⟩:=hc hn;simp only[Option.some.injEq,Addr.mk.injEq,and_true]at hp;obtain⟨rfl,rfl⟩:=hp;refine⟨_,_,rfl,fun i hi=>?_⟩;have h1:=XL i hi;have h2:=Vj h1;unfold V.hc at h1 ⊢;rw[a.block _ h2 (by intro e;exact Y7 (Option.some.inj e).symm)];exact h1
theorem Ph{bp op m c:Nat}{h:Hp}{l:List Nat}(s:Bs h (Y (aa ⟨bp,op,aw⟩) m c) l){k:Nat}(hk:k<=(J l))(hm:(J l)=m)(c':Nat):Bs h (Y (aa ⟨bp,op+k,aw⟩) (m-k) c') (l.drop k):=by
 subst hm;refine⟨?_,fun x hx=>s.byte x (List.mem_of_mem_drop hx)⟩;obtain⟨p',cap,hv,hl,hc⟩:=s.sl;simp only[Value.slice.injEq]at hv;obtain⟨rfl,_,rfl⟩:=hv;refine⟨_,c',by rw[bG],IQ,fun Y7=>?_⟩;have ZT:k<(J l):=by
  rw[<-List.length_pos_iff]at Y7;simp at Y7;omega
 obtain⟨b,o,hp,XL⟩:=hc (by intro e;simp at e;subst e;simp at ZT);simp only[Option.some.injEq,Addr.mk.injEq,and_true]at hp;obtain⟨rfl,rfl⟩:=hp;refine⟨_,_,rfl,fun i hi=>?_⟩;have mF:i<(J l)-k:=by simpa using hi
 rw[show op+k+i=op+(k+i) by omega,XL (k+i) VL];simp
abbrev Tk(h:Hp):Prop:=AP 0 wv kN h
theorem BW(T:bo)(h:Hp)(v:aN)(l:List Nat)(s:Bs h v l)(hl:(J l)<=100000)(tk:Tk h):
  Zd bc T 58 #[v] h fun v' h'=>YB h.size 5 h' v' (T6 l)/\Zj h.size h h':=by
 obtain⟨p,cp,rfl,WB⟩:=s.open;have rW:NH l:=s.byte;refine Zd.XS [_] Tryz.func58 ?_;simp -implicitDefEqProofs only[go_sem];obtain⟨h1,Xp⟩:=ZL (h.push (S (yN.map wv).toArray 166):Hp);have hs1:h1.size=h.size+1:=by rw[Xp];simp
 have b1:Zj h.size h h1:=by rw[Xp];exact Zj.push (ab _) _
 have x1:h1[h.size]? = aa (S (yN.map wv++[]).toArray 166):=by rw[Xp,a4];exact Zc
 change PZ bc T .append _ _ _ _ _ (h.push (S (yN.map wv).toArray 166));rw[<-Xp];clear Xp;refine ZK (E:=5) (B:=h.size+1) Xl aD TA Sn Sm (YB.EX _ _ _ _) pA (s.Yz b1) VL ?_;intro w h2 o2 b2 _;rw[bS]at o2;simp -implicitDefEqProofs only[go_sem];refine ZK (E:=5) (B:=h.size+1) Xl aD TA Sn Sm (o2.push _) (by have:=b2.size;simp;omega) (Bs.one (x:=128) pA 1) VL ?_;intro w3 h3 o3 b3 _;have B3:Zj (h.size+1) h1 h3:=(b2.YX (by have:=b2.size;omega) _).trans b3;have o3':YB (h.size+1) 5 h3 w3 (Ot l 0):=o3;clear o2 o3 b2 b3;simp -implicitDefEqProofs only[go_sem];refine VS.Yk (fun F g=>Zj (h.size+1) h1 g/\F 0=Y p (J l) cp/\F 3=a7 (aa ⟨h.size,0,aw⟩)/\∃j:Nat,j<=Db (J l)/\YB (h.size+1) 5 g (F 4) (Ot l j))
  (fun F _=>(J l)+100-jH (F 4)) rfl ⟨B3,rfl,rfl,0,pA,o3'⟩ ?_
 clear o3' B3;rintro F g ⟨hg,f0,f3,j,hj,ho⟩;obtain⟨p4,c4,f4,_⟩:=ho.open;have ml:=LB l j;obtain⟨M,hM⟩:=ZL ((J l)+j+1);rw[ml,<-hM]at f4;have ZGD:Db (J l)<64:=by unfold Db;omega
 have d1:(M:Int).tmod 64=((M%64:Nat):Int):=rfl;have Ov:=hg.size;by_cases hm:M%64=56
 case neg=>
  have H6:¬((M%64:Nat):Int)=56:=pA;have Y7:j≠Db (J l):=fun e=>hm (by rw[hM];exact (bC hj).2 e);simp -implicitDefEqProofs only[go_sem,f0,f3,f4,d1,H6];have vA:=ho;rw[f4]at vA;refine ZK (E:=5) (B:=h.size+1) Xl aD TA Sn Sm (vA.push _) VL (Bs.one (x:=0) pA 1) (by rw[ml];simp;omega) ?_;intro w' g' Mr Qi _;obtain⟨p5,c5,rfl,_⟩:=Mr.open;simp -implicitDefEqProofs only[go_sem,f0,f3];refine⟨⟨(hg.YX pA _).trans Qi,f0,f3,j+1,pA,?_⟩,?_⟩
  .rw[iW];exact Mr
  .simp only[jH,Zr,↓reduceIte,f4,aO,ml,bz];omega
 have hjn:j=Db (J l):=(bC hj).1 (by rw[<-hM];exact hm);have H6:((M%64:Nat):Int)=56:=pA;simp -implicitDefEqProofs only[go_sem,f0,f3,f4,d1,H6];refine VS.Yk (fun F g=>Zj (h.size+1) h1 g/\F 0=Y p (J l) cp/\F 3=a7 (aa ⟨h.size,0,aw⟩)/\∃k:Nat,k<=8/\F 5=R O (56-8*(k:Int))/\YB (h.size+1) 5 g (F 4) (Ot l j++(Dm (J l)).take k))
  (fun F _=>(vi (F 5)+8).toNat) rfl ⟨hg,f0,f3,0,pA,rfl,by rw[cc,a4];exact ho⟩ ?_
 clear f0 f3 f4 d1 hm H6 ho hg Ov F g;rintro F g ⟨hg,f0,f3,k,hk,f5,ho⟩;have Ov:=hg.size;obtain⟨y,hy⟩:∃y:Int,y=56-8*(k:Int):=⟨_,rfl⟩
 rw[<-hy]at f5;by_cases ZT:k<8
 .have jp:0<=y:=pA;have BM:¬y<0:=pA;obtain⟨X,hX⟩:=ZL ((Dm (J l)).getD k 0);have hXb:X<256:=by rw[hX];exact Z4 (rY _) k
  obtain⟨xL,hxL⟩:∃x:Int,x=((8*(J l):Nat):Int):=⟨_,rfl⟩
  have eL:Unit->8*((J l):Int)=xL:=fun _=>by rw[hxL];omega
  have xLb:0<=xL/\xL<=1000000:=by rw[hxL];omega
  have sh:Unit->XF O xL y%256=(X:Int):=fun _=>by
   rw[hxL,hy,show (56:Int)-8*(k:Int)=((56-8*k:Nat):Int) by omega,hX];exact ZdH hl ZT
  have ml2:(Ot l j++(Dm (J l)).take k).length<=200000:=by rw[aO,ml,a5];omega
  have et:(Dm (J l)).take (k+1)=(Dm (J l)).take k++[X]:=by
   rw[Y8 _ k (by rw[I5];exact ZT),hX,am,a8 (by rw[I5];exact ZT)];rfl
  clear hX hxL;simp -implicitDefEqProofs only[go_sem,f0,f3,f5,jp,BM,eL (),sh ()];refine ZK (E:=5) (B:=h.size+1) Xl aD TA Sn Sm (ho.push _) VL (Bs.one hXb 1) aai ?_;intro w' g' Mr Qi _;simp -implicitDefEqProofs only[go_sem,f0,f3,f5];refine⟨⟨(hg.YX pA _).trans Qi,f0,f3,k+1,ZT,?_,?_⟩,?_⟩
  .show Value.int O _=_
   congr 1;omega
  .rw[et,<-cv];exact Mr
  .simp only[vi,Zr,↓reduceIte,f5];omega
 .have jp:¬0<=y:=pA;obtain rfl:k=8:=pA;have ep:Ot l j++(Dm (J l)).take 8=So l:=by rw[hjn];rfl
  rw[ep]at ho;have pl:=BC l;obtain⟨N,hN⟩:=ZL (qN (J l));have hN1:0<N:=by rw[hN];unfold qN;omega
  have hN2:N<=2000:=by rw[hN];unfold qN;omega
  rw[<-hN]at pl;have hgd:=hg.get pA x1;have bh:Zj h.size h g:=b1.trans (hg.mono pA);obtain⟨bp,cP,f4,hbp,hcP⟩:∃bp c,F 4=Y (aa ⟨bp,0,aw⟩) (64*N) c/\h.size+1<=bp/\64*N<=c:=by
   rcases ho.Zq with⟨_,hm,_⟩|⟨b,cap,sp,hB,hv,_,_,_,hc⟩
   .omega
   .rw[pl]at hv hc;exact⟨b,cap,hv,hB,hc⟩
  have sP:=ho.bs;rw[f4]at sP;simp -implicitDefEqProofs only[go_sem,f0,f3,f5,jp];refine VS.Yk (fun F g=>Zj h.size h g/\F 3=a7 (aa ⟨h.size,0,aw⟩)/\∃j op c:Nat,j<=N/\F 4=Y (aa ⟨bp,op,aw⟩) (64*(N-j)) c/\64*(N-j)<=c/\Bs g (Y (aa ⟨bp,op,aw⟩) (64*(N-j)) c) ((So l).drop (64*j))/\g[h.size]? = aa (S ((bu (So l) j).map wv++[]).toArray 166))
   (fun F _=>jH (F 4)) rfl ⟨bh,f3,0,0,cP,pA,f4,hcP,by exact sP,hgd⟩ ?_
  clear f0 f3 f4 f5 hy jp ZT ho sP hgd bh hg Ov ep hcP F g;rintro F g ⟨hg,f3,j,op,c,hj,f4,hc,sP,hgd⟩;have Ov:=Za hgd;by_cases ZT:j<N
  .obtain⟨L,hL⟩:=ZL (64*(N-j));rw[<-hL]at f4 hc sP;have ZGE:64<=L:=pA;have vB:((So l).drop (64*j)).length=L:=by rw[bG,pl];omega
   have hL0:0<(L:Int):=pA;have Zmx:(64:Int)<=(c:Int):=pA;have mE:¬c=0:=pA;simp -implicitDefEqProofs only[go_sem,f3,f4,hL0,Zmx,mE,ck,cn];have sB:Bs g (Y (aa ⟨bp,op,aw⟩) 64 c) (((So l).drop (64*j)).take 64):=by
    rw[<-vB]at sP;exact Bs.Mq sP pA c
   obtain⟨dl,dw⟩:=LA (So l) j;refine (cN T g h.size (bu (So l) j) _ (((So l).drop (64*j)).take 64) dl dw sB (by rw[a5,vB];omega) (tk.Qj hg) hgd (by have:=tk.1;omega)).use ?_;rintro _ g2 ⟨Ms,Mw⟩;have Wv:Zj h.size h g2:=hg.trans (Ms.Yz pA (fun b e=>by have:=Option.some.inj e;omega));have sP2:=ZdI sP Ms pA;by_cases hce:c=64
   .have hLe:L=64:=pA;have Zuz:(c:Int)=64:=pA;have hLi:(L:Int)=64:=pA;subst hce hLe;simp -implicitDefEqProofs only[go_sem,f3,f4,Zuz,hLi];refine⟨⟨Wv,f3,j+1,op,0,ZT,?_,pA,?_,Mw⟩,?_⟩
    .show Value.slice _ _ _=_;rw[show 64*(N-(j+1))=0 by omega]
    .rw[show 64*(N-(j+1))=0 by omega,bw (by rw[pl];omega)];exact (YB.EX 0 5 _ _).bs
    .simp only[jH,Zr,↓reduceIte,f4];omega
   .have Zmy:(64:Int)<=(L:Int):=pA;simp -implicitDefEqProofs only[go_sem,f3,f4,Zmx,Zmy,hce];refine⟨⟨Wv,f3,j+1,op+64,c-64,ZT,?_,pA,?_,Mw⟩,?_⟩
    .show Value.slice _ _ _=_;rw[show L-64=64*(N-(j+1)) by omega]
    .have:=Ph sP2 (k:=64) pA vB (c-64);rw[List.drop_drop,show L-64=64*(N-(j+1)) by omega,show 64*j+64=64*(j+1) by omega]at this;exact this
    .simp only[jH,Zr,↓reduceIte,f4];omega
  .obtain rfl:j=N:=pA;have eS:T6 l=ZC (bu (So l) j):=by rw[T6,<-hN]
   obtain⟨dl,dw⟩:=LA (So l) j;obtain⟨D,hD⟩:=ZL (bu (So l) j);rw[<-hD]at dl dw hgd eS;rw[eS];have r0:rd g ⟨h.size,0,aw⟩ 8=aa (D.map wv):=by rw[a4]at hgd;exact Zy hgd (by simp[dl])
   rw[b9,Nat.mul_zero]at f4;have hz:¬h.size=g.size:=pA;simp -implicitDefEqProofs only[go_sem,f3,f4,r0,hz];have hBo:Zj h.size h (g.push (S (Qr 32 [Value.int ae 0]).toArray 5)):=hg.add _;have oO:YB h.size 5 (g.push (S (Qr 32 [Value.int ae 0]).toArray 5)) (Y (aa ⟨g.size,0,aw⟩) 0 32) (ZC (D.take 0)):=
    ⟨.inr ⟨g.size,32,Qr 32 [Value.int ae 0],hg.size,rfl,Zc,rfl,rfl,Nat.zero_le 32⟩,fun x hx=>by cases hx⟩
   refine VS.Yk (fun F g=>Zj h.size h g/\F 43=ba (D.map wv).toArray/\∃i:Nat,i<=8/\F 44=R O i/\YB h.size 5 g (F 6) (ZC (D.take i)))
    (fun F _=>8-(vi (F 44)).toNat) rfl ⟨hBo,rfl,0,pA,rfl,oO⟩ ?_
   clear f3 f4 ZT hgd r0 hz hBo oO sP hc hg Ov g F;rintro F g ⟨hg,f43,i,hi,f44,ho⟩;have Ov:=hg.size;by_cases ZT:i<8
   .have Z7:(i:Int)<8:=pA;obtain⟨x,hx⟩:=ZL (D.getD i 0);have hxb:x<4294967296:=by rw[hx];exact dw.getD i
    have et:D.take (i+1)=D.take i++[x]:=by
     rw[Y8 _ i pA,hx,am,a8 pA];rfl
    obtain⟨yx,fY⟩:∃y:Int,y=(x:Int):=⟨_,rfl⟩
    obtain⟨z0,AN⟩:∃y:Int,y=((x/16777216%256:Nat):Int):=⟨_,rfl⟩
    obtain⟨z1,Bw⟩:∃y:Int,y=((x/65536%256:Nat):Int):=⟨_,rfl⟩
    obtain⟨z2,jq⟩:∃y:Int,y=((x/256%256:Nat):Int):=⟨_,rfl⟩
    obtain⟨z3,hz3⟩:∃y:Int,y=((x%256:Nat):Int):=⟨_,rfl⟩
    have n1:nth (D.map wv) i=aa (R Z yx):=by
     rw[YU,cx,fY,hx,am,a8 pA];rfl
    have e1:Unit->XF Z yx 24%256=z0:=fun _=>by rw[fY,AN,show (24:Int)=((24:Nat):Int) from rfl,Vb x 24 aaa];rfl
    have e2:Unit->XF Z yx 16%256=z1:=fun _=>by rw[fY,Bw,show (16:Int)=((16:Nat):Int) from rfl,Vb x 16 aaa];rfl
    have e3:Unit->XF Z yx 8%256=z2:=fun _=>by rw[fY,jq,show (8:Int)=((8:Nat):Int) from rfl,Vb x 8 aaa];rfl
    have e4:Unit->yx%256=z3:=fun _=>by rw[fY,hz3];rfl
    have J9:(ZC (D.take i)).length<=32:=by rw[ZN,a5];omega
    clear fY hx;simp -implicitDefEqProofs only[go_sem,f43,f44,Z7,n1,e1 (),e2 (),e3 (),e4 ()];subst AN Bw jq hz3;refine ZK (E:=5) (B:=h.size) Xl aD TA Sn Sm (ho.push _) VL (Bs.made (l:=Xq x) (US x) 4) (by simp[Xq];omega) ?_;intro w' g' Mr Qi _;simp -implicitDefEqProofs only[go_sem,f43,f44];refine⟨⟨(hg.add _).trans Qi,f43,i+1,ZT,rfl,?_⟩,?_⟩
    .rw[et];unfold ZC at Mr ⊢;rw[cr];simp only[cA,cB,a4];exact Mr
    .simp only[vi,Zr,↓reduceIte,f44];omega
   .have Xv:¬(i:Int)<8:=pA;obtain rfl:i=8:=pA;rw[be pA]at ho;simp -implicitDefEqProofs only[go_sem,f43,f44,Xv];exact⟨ho,hg⟩
def Pj(n:Nat):Int:=if 2000<n then 1 else 0
def zO(B:Nat)(h':Hp)(v':aN)(l:List Nat):Prop:=∃w,v'=.tuple [w,R O (Pj (J l))].toArray/\YB B 5 h' w (if Pj (J l)=0 then T6 l else [])
theorem KV(T:bo)(h:Hp)(v:aN)(l:List Nat)(s:Bs h v l)(tk:Tk h):
  Zd bc T 41 #[v] h fun v' h'=>zO h.size h' v' l/\Zj h.size h h':=by
 obtain⟨p,cp,rfl,WB⟩:=s.open;refine Zd.XS [_] Tryz.func41 ?_;unfold zO Pj;by_cases hl:2000<(J l)
 .have fU:2000<((J l):Int):=pA;simp -implicitDefEqProofs only[go_sem,fU,hl];exact⟨_,rfl,YB.nil _ _ _⟩
 .have fU:¬2000<((J l):Int):=pA;simp -implicitDefEqProofs only[go_sem,fU,hl];refine (BW T _ _ l s pA tk).use ?_;rintro w h1 ⟨o1,b1⟩;simp -implicitDefEqProofs only[go_sem,b1];exact⟨_,rfl,o1⟩
def LY(body:List Nat):List Nat:=(J body) :: body
def YV(body:List Nat):List Nat:=LY body++(T6 (LY body)).take 4
theorem U6(body:List Nat):(LY body).length=(J body)+1:=rfl
theorem Vp(body:List Nat):(YV body).length=(J body)+5:=by
 rw[YV,aO,a5,Qv,U6];omega
def Y0(l:List Nat)(n:Int):Prop:=(J l)<=100000/\0<=n/\n<=(J l)
instance (l:List Nat)(n:Int):Decidable (Y0 l n):=by unfold Y0;infer_instance
def QC(l:List Nat)(n:Int)(k:Nat):Int:=if ¬Y0 l n then 5 else if 100000<(J l)+(k+5) then 8 else 0
def Pk(B:Nat)(h':Hp)(v':aN)(l:List Nat)(n:Int)(E:Int)(add:List Nat):Prop:=
 ∃w,v'=.tuple [ba [w,R O (if E=0 then n else 0)].toArray,R O E].toArray/\YB B 5 h' w (if E=0 then l++add else [])
theorem RT.ZhJ{h g:Hp}{b:Nat}{o:Obj}(a:RT (aa b) h g):RT (aa b) h (g.setIfInBounds b o):=
 ⟨by rw[ch];exact a.size,fun k hk Y7=>by rw[a9,if_neg (fun e=>Y7 (by rw[e])),a.block k hk Y7]⟩
theorem Rw(T:bo)(h:Hp)(v u:aN)(n:Int)(l body:List Nat)(s:Bs h v l)(hl:(J l)<=140737488355328)(sb:Bs h u body)(hb:(J body)<=255)(tk:Tk h):
  Zd bc T 128 #[ba [v,R O n].toArray,u] h fun v' h'=>Pk h.size h' v' l n (QC l n (J body)) (YV body)/\Zj h.size h h':=by
 obtain⟨p,c,rfl,_⟩:=s.open;obtain⟨q,d,rfl,_⟩:=sb.open;refine Zd.XS [_,_] Tryz.func128 ?_;unfold Pk;simp -implicitDefEqProofs only[go_sem];obtain⟨h0,Qe⟩:=ZL ((h.push (S [Y p (J l) c,R O n].toArray 100)).push (S [Y aw 0 0,R O 0].toArray 100):Hp);have b0:Zj h.size h h0:=by rw[Qe];exact ((Zj.refl _ _).add _).add _
 have s0:h0.size=h.size+1+1:=by rw[Qe];simp
 have x0:h0[h.size+1]? = aa (S [Y aw 0 0,R O 0].toArray 100):=by
  rw[Qe,a6,if_pos IQ]
 rw[<-Qe];clear Qe;refine (U0 T h0 _ n l (s.Yz b0) hl).use ?_;rintro _ h1 ⟨b1,o1⟩;have s1:=b1.size;by_cases ok:Y0 l n
 case neg=>
  have ee:QC l n (J body)=5:=by unfold QC;rw[if_pos ok]
  rw[if_neg (show ¬((J l)<=100000/\0<=n/\n<=(J l)) from ok)]at o1;subst o1;rw[ee];have x1:=b1.get pA x0;have y2:=Ye x1 0;have ZT:h.size+1<h1.size:=pA;have Y7:¬h.size+1=h1.size:=pA;simp -implicitDefEqProofs only[go_sem,y2,Y7,ZT];exact⟨⟨_,rfl,YB.nil _ _ _⟩,((b0.trans (b1.mono pA)).Zt pA _).YX VL _⟩
 have ee:QC l n (J body)=if 100000<(J l)+((J body)+5) then 8 else 0:=by unfold QC;rw[if_neg (fun hn=>hn ok)]
 rw[if_pos (show ((J l)<=100000/\0<=n/\n<=(J l)) from ok)]at o1;obtain⟨w,rfl,o1⟩:=o1;obtain⟨pw,cw,rfl,_⟩:=o1.open;have B1:=b0.trans (b1.mono pA);have x1:=b1.get pA x0;obtain⟨mX,DK,hn1⟩:=ok;obtain⟨h2,Vq⟩:=ZL (h1.push (S [Y pw (J l) cw,R O n].toArray 100):Hp);have b2:Zj h1.size h1 h2:=by rw[Vq];exact Zj.push (ab _) _
 have s2:h2.size=h1.size+1:=by rw[Vq];simp
 have x6:h2[h1.size]? = aa (S [Y pw (J l) cw,R O n].toArray 100):=by rw[Vq];exact Zc
 have eb:((J body):Int)%256=((J body):Int):=pA;have e2:h1.push (S #[Value.slice pw (J l) cw,R O n] 100)=h2:=Vq.symm;simp -implicitDefEqProofs only[go_sem,eb];rw[e2];clear e2 Vq;rw[<-s2];have B2:=B1.trans (b2.mono B1.size);have o2:=o1.Yz b2 (ab _);have Ga:∀x∈[(J body)],x<256:=by intro x hx;rw[List.mem_singleton.1 hx];omega
 have of0:YB h2.size 5 (h2.push (S (([(J body)]:List Nat).map bv).toArray 5)) (Y (aa ⟨h2.size,0,aw⟩) 1 1) [(J body)]:=YB.made Ga (ab _);have bp:Zj h2.size h2 (h2.push (S (([(J body)]:List Nat).map bv).toArray 5)):=Zj.push (ab _) _;refine ZK (E:=5) (B:=h2.size) Xl aD TA Sn Sm of0 IQ (sb.Yz (B2.trans (bp.mono pA))) VL ?_;intro wf h3 of3 b3 _;have B3:Zj h2.size h2 h3:=bp.trans b3;have fZ:=B2.trans (B3.mono pA);have Zmz:YB h2.size 5 h3 wf (LY body):=of3;clear of0 bp of3 b3;have fl:=U6 body;have fsl:=Vp body;have efr:YV body=LY body++(T6 (LY body)).take 4:=rfl;have shl:=Qv (LY body);simp -implicitDefEqProofs only[go_sem];refine (KV T h3 wf (LY body) Zmz.bs (tk.Qj fZ)).use ?_;rintro _ h4 ⟨⟨ws,rfl,os⟩,b4⟩;have e0:Pj (LY body).length=0:=by unfold Pj;rw[if_neg pA]
 rw[e0,if_pos rfl]at os;rw[e0];generalize T6 (LY body)=SH at *;obtain⟨ps,cs,rfl,XL⟩:=os.open;have sS:=os.bs;obtain⟨p',c',hv,hh⟩:=sS.VM;simp only[Value.slice.injEq]at hv;obtain⟨rfl,_,rfl⟩:=hv;obtain⟨bb,ob,rfl,_⟩:=hh (by intro e;rw[e]at shl;cases shl);have s4:=Bs.Mq sS (m:=4) pA cs;rw[shl]at XL ⊢;have h4c:(4:Int)<=(cs:Int):=pA;have Fo:¬cs=0:=pA;have of4:=Zmz.Yz b4 (ab _);have s3:=B3.size;have s4s:=b4.size;have B4:Zj h2.size h2 h4:=B3.trans (b4.mono s3);simp -implicitDefEqProofs only[go_sem,h4c,Fo,ck,cn];refine ZK (E:=5) (B:=h2.size) Xl aD TA Sn Sm of4 pA s4 (by rw[fl,a5];omega) ?_;intro wg h5 og b5 _;rw[<-efr]at og;have B5:Zj h2.size h2 h5:=B4.trans b5;have s5:=B5.size;have Bh5:=B2.trans (B5.mono pA);obtain⟨pg,cg,rfl,_⟩:=og.open;rw[fsl];have x65:=B5.get pA x6;have r65:V.hc h5 ⟨h1.size,0,aw⟩=aa (Y pw (J l) cw):=by rw[Zn x65];rfl
 have o5:=o2.Yz B5 (ab _);have x15:h5[h.size+1]? = aa (S [Y aw 0 0,R O 0].toArray 100):=B5.get pA (b2.get pA x1);generalize YV body=FR at *;by_cases q:100000<(J l)+((J body)+5)
 .have q':100000<((J l):Int)+(((J body)+5:Nat):Int):=pA;have y2:=Ye x15 0;have ZT:h.size+1<h5.size:=pA;rw[if_pos q]at ee;rw[ee];simp -implicitDefEqProofs only[go_sem,r65,q',y2,ZT];exact⟨⟨_,rfl,YB.nil _ _ _⟩,Bh5.Zt pA _⟩
 .have q':¬100000<((J l):Int)+(((J body)+5:Nat):Int):=pA;rw[if_neg q]at ee;rw[ee];simp -implicitDefEqProofs only[go_sem,r65,q'];have ogb:Bs h5 (Y pg ((J body)+5) cg) FR:=by rw[<-fsl];exact og.bs
  refine UF (E:=5) (B:=h0.size) Xl aD TA Sn Sm o5 pA ogb pA ?_;intro wz h6 oz b6 bt6 bk6;have s6:=b6.size;have BH:∀b,Yf (Value.slice pw (J l) cw)=aa b->b<h1.size:=o1.Zq.lt;have x66:h6[h1.size]? = aa (S [Y pw (J l) cw,R O n].toArray 100):=by
   rw[bt6.block _ pA (fun e=>by have:=BH _ e;omega)];exact x65
  have x16:h6[h.size+1]? = aa (S [Y aw 0 0,R O 0].toArray 100):=b6.get pA x15;obtain⟨pz,cz,hwz,_⟩:=oz.open;have zl:(l++FR).length=(J l)+((J body)+5):=by rw[aO,fsl]
  rw[zl]at hwz;subst hwz;have w66:=Xj (v:=Y pz ((J l)+((J body)+5)) cz) x66 (o:=0);obtain⟨h7,hh7⟩:=ZL (h6.setIfInBounds h1.size (S [Y pz ((J l)+((J body)+5)) cz,R O n].toArray 100):Hp);have ZuC:QX h6 ⟨h1.size,0,aw⟩ (Y pz ((J l)+((J body)+5)) cz)=aa h7:=by rw[w66,if_pos ⟨IQ,rfl⟩,hh7];rfl
  have b7:RT (aa h1.size) h6 h7:=by rw[hh7];exact RT.ZhJ RT.refl
  have x77:h7[h1.size]? = aa (S [Y pz ((J l)+((J body)+5)) cz,R O n].toArray 100):=by rw[hh7,a9,if_pos rfl,if_pos pA]
  have x17:h7[h.size+1]? = aa (S [Y aw 0 0,R O 0].toArray 100):=by
   rw[b7.block _ pA (fun e=>by have:=Option.some.inj e;omega)];exact x16
  have oz7:=oz.mD b7 (fun b hb e=>by
   have e':=Option.some.inj e;rcases bk6 b hb with g1|g1
   .have:=BH b g1;omega
   .omega)
  have r77:rd h7 ⟨h1.size,0,aw⟩ 2=aa [Y pz ((J l)+((J body)+5)) cz,R O n]:=Zy x77 rfl;have y7:=Ye x17 0;have FB:h.size+1<h7.size:=Za x17;have AT:Zj h.size h h6:=Bh5.trans (b6.mono pA);have EM:Zj h.size h h7:=AT.trans (b7.Yz pA (fun b e=>by have:=Option.some.inj e;omega));clear hh7 w66;simp -implicitDefEqProofs only[go_sem,ZuC,r77,y7,FB];refine⟨⟨_,rfl,?_⟩,EM.Zt pA _⟩;exact (oz7.Ya pA _).mono pA
theorem Ti(g:Hp)(ns:List Nat):NT (g.push (S (ns.map nv).toArray 3)) (Y (aa ⟨g.size,0,aw⟩) (J ns) (J ns)) ns:=by
 constructor
 rw[Tu nv];exact Sl.made IQ _
theorem Rx(T:bo)(h:Hp)(u:aN)(ns:List Nat)(s:NT h u ns)(hl:(J ns)<=100)(hb:∀x∈ns,x<=1073741824):
  Zd bc T 129 #[u] h fun v' h'=>YB h.size 5 h' v' (ZC ns)/\Zj h.size h h':=by
 obtain⟨p,c,rfl,XL⟩:=Zdc s;refine Zd.XS [_] Tryz.func129 ?_;simp -implicitDefEqProofs only[go_sem];refine VS.Yk (fun F g=>Zj h.size h g/\F 6=Y p (J ns) c/\F 7=R O (J ns)/\∃i:Nat,i<=(J ns)/\F 8=R O i/\YB h.size 5 g (F 3) (ZC (ns.take i)))
  (fun F _=>(J ns)-(vi (F 8)).toNat) rfl ⟨Zj.refl _ _,rfl,rfl,0,pA,rfl,YB.nil _ _ _⟩ ?_
 rintro F g ⟨hg,f6,f7,i,hi,f8,ho⟩;have Ov:=hg.size;by_cases ZT:i<(J ns)
 .have Z7:(i:Int)<(J ns):=pA;obtain⟨b,o,rfl,vq,XL⟩:=XL (by intro e;rw[e]at ZT;simp at ZT);have n1:V.hc g ⟨b,o+i,aw⟩=aa (R O (ns.getD i 0:Nat)):=by rw[hg.hc (by exact vq)];exact XL i ZT
  have et:ns.take (i+1)=ns.take i++[ns.getD i 0]:=by
   rw[Y8 _ i ZT,am,a8 ZT];rfl
  have hx:ns.getD i 0<=1073741824:=by
   rw[am,a8 ZT];exact hb _ (List.getElem_mem ZT)
  generalize ns.getD i 0=x at *;obtain⟨yx,fY⟩:∃y:Int,y=(x:Int):=⟨_,rfl⟩
  obtain⟨z0,AN⟩:∃y:Int,y=((x/16777216%256:Nat):Int):=⟨_,rfl⟩
  obtain⟨z1,Bw⟩:∃y:Int,y=((x/65536%256:Nat):Int):=⟨_,rfl⟩
  obtain⟨z2,jq⟩:∃y:Int,y=((x/256%256:Nat):Int):=⟨_,rfl⟩
  obtain⟨z3,hz3⟩:∃y:Int,y=((x%256:Nat):Int):=⟨_,rfl⟩
  rw[<-fY]at n1;have e1:Unit->XF O yx 24%256=z0:=fun _=>by rw[fY,AN,show (24:Int)=((24:Nat):Int) from rfl,Uq x 24 aaa];rfl
  have e2:Unit->XF O yx 16%256=z1:=fun _=>by rw[fY,Bw,show (16:Int)=((16:Nat):Int) from rfl,Uq x 16 aaa];rfl
  have e3:Unit->XF O yx 8%256=z2:=fun _=>by rw[fY,jq,show (8:Int)=((8:Nat):Int) from rfl,Uq x 8 aaa];rfl
  have e4:Unit->yx%256=z3:=fun _=>by rw[fY,hz3];rfl
  have J9:(ZC (ns.take i)).length<=400:=by rw[ZN,a5];omega
  clear fY;simp -implicitDefEqProofs only[go_sem,f6,f7,f8,Z7,n1,e1 (),e2 (),e3 (),e4 ()];subst AN Bw jq hz3;refine ZK (E:=5) (B:=h.size) Xl aD TA Sn Sm (ho.push _) VL (Bs.made (l:=Xq x) (US x) 4) (by simp[Xq];omega) ?_;intro w' g' Mr Qi _;simp -implicitDefEqProofs only[go_sem,f6,f7,f8];refine⟨⟨(hg.add _).trans Qi,f6,f7,i+1,ZT,rfl,?_⟩,?_⟩
  .rw[et];unfold ZC at Mr ⊢;rw[cr];simp only[cA,cB,a4];exact Mr
  .simp only[vi,Zr,↓reduceIte,f8];omega
 .have Xv:¬(i:Int)<(J ns):=pA;obtain rfl:i=(J ns):=pA;rw[List.take_length]at ho;simp -implicitDefEqProofs only[go_sem,f6,f7,f8,Xv];exact⟨ho,hg⟩
def Jp(l:List Nat)(n:Int)(b:YA):Int:=if ¬Y0 l n then 5 else if ¬ZF b then 2 else QC l n 9
def JT(b:YA):List Nat:=1 :: ZC [b.r.toNat,b.n.toNat]
theorem jI(b:YA):YI ⟨0,0⟩ [] b=if ZF b then 0 else 2:=by
 have e:JG ⟨0,0⟩ []=0:=rfl;unfold YI;rw[if_neg (by rw[e];decide)];by_cases q:ZF b
 .rw[if_neg (fun hn=>hn q),if_pos q,if_neg];intro hb;have q1:=q.1.1;rcases hb with hb|⟨hb,_⟩<;>simp at hb<;>omega
 .rw[if_pos q,if_neg q]
theorem I6(T:bo)(h:Hp)(v:aN)(n:Int)(l:List Nat)(b:YA)(s:Bs h v l)(hl:(J l)<=140737488355328)(tk:Tk h):
  Zd bc T 107 #[ba [v,R O n].toArray,ba (QI b).toArray] h fun v' h'=>Pk h.size h' v' l n (Jp l n b) (YV (JT b))/\Zj h.size h h':=by
 obtain⟨p,c,rfl,_⟩:=s.open;refine Zd.XS [_,_] Tryz.func107 ?_;unfold Pk QI;simp -implicitDefEqProofs only[go_sem];obtain⟨h0,Qe⟩:=ZL (((h.push (S [Y p (J l) c,R O n].toArray 100)).push (S [R O b.r,R O b.n].toArray 102)).push (S [Y aw 0 0,R O 0].toArray 100):Hp);have b0:Zj h.size h h0:=by rw[Qe];exact (((Zj.refl _ _).add _).add _).add _
 have s0:h0.size=h.size+3:=by rw[Qe];simp
 have t0:h0[h.size]? = aa (S [Y p (J l) c,R O n].toArray 100):=by
  rw[Qe,a6,if_neg VL,a6,if_neg IQ,Zc]
 have t1:h0[h.size+1]? = aa (S [R O b.r,R O b.n].toArray 102):=by
  rw[Qe,a6,if_neg IQ,a6,if_pos IQ]
 have x0:h0[h.size+2]? = aa (S [Y aw 0 0,R O 0].toArray 100):=by
  rw[Qe,a6,if_pos IQ]
 rw[<-Qe];clear Qe;refine (U0 T h0 _ n l (s.Yz b0) hl).use ?_;rintro _ h1 ⟨b1,o1⟩;have s1:=b1.size;have B1:Zj h.size h h1:=b0.trans (b1.mono pA);have x1:=b1.get pA x0;by_cases ok:Y0 l n
 case neg=>
  have ee:Jp l n b=5:=by unfold Jp;rw[if_pos ok]
  rw[if_neg (show ¬((J l)<=100000/\0<=n/\n<=(J l)) from ok)]at o1;subst o1;rw[ee];have y2:=Ye x1 0;have ZT:h.size+2<h1.size:=pA;have Y7:¬h.size+2=h1.size:=pA;simp -implicitDefEqProofs only[go_sem,y2,Y7,ZT];exact⟨⟨_,rfl,YB.nil _ _ _⟩,(B1.Zt pA _).YX VL _⟩
 rw[if_pos (show ((J l)<=100000/\0<=n/\n<=(J l)) from ok)]at o1;obtain⟨w,rfl,o1⟩:=o1;obtain⟨pw,cw,rfl,_⟩:=o1.open;have bt1:=b1.get pA t1;have r1:rd h1 ⟨h.size+1,0,aw⟩ 2=aa [R O b.r,R O b.n]:=Zy bt1 rfl;have cO:¬h.size+1=h1.size:=pA;simp -implicitDefEqProofs only[go_sem,r1,cO];have b2:Zj h1.size h1 (h1.push (S [Y pw (J l) cw,R O n].toArray 100)):=Zj.push (ab _) _;refine (Pg T _ ⟨0,0⟩ (Y aw 0 0) [] b (QF.nil 0 133 Zv 8 _).ts IQ).use ?_;rintro _ h3 ⟨⟨w1,w2,rfl,q1,q2⟩,b3⟩;simp only[ite_self]at q1;have B3:Zj h1.size h1 h3:=b2.trans (b3.mono b2.size);rw[jI];obtain⟨p1,c1,BH,_⟩:=q1.open;have s3:=B3.size;have x3:=B3.get pA x1;have fZ:=B1.trans (B3.mono pA);by_cases may:ZF b
 case neg=>
  have ee:Jp l n b=2:=by unfold Jp;rw[if_neg (fun hn=>hn ok),if_pos may]
  rw[ee,if_neg may];obtain⟨w1',ZGS⟩:∃w,w=w1:=⟨_,rfl⟩
  subst BH;have y2:=Ye x3 0;have ZT:h.size+2<h3.size:=pA;have Y7:¬h.size+2=h3.size:=pA;unfold XC;simp -implicitDefEqProofs only[go_sem,y2,Y7,ZT];exact⟨⟨_,rfl,YB.nil _ _ _⟩,(fZ.Zt pA _).YX VL _⟩
 have ee:Jp l n b=QC l n 9:=by unfold Jp;rw[if_neg (fun hn=>hn ok),if_neg (fun hn=>hn may)]
 rw[ee,if_pos may];obtain⟨⟨m1,m2⟩,m3,m4⟩:=may;obtain⟨br,bn⟩:=b;obtain⟨r,rfl⟩:∃r:Nat,br=r:=⟨br.toNat,by simp at m1;omega⟩
 obtain⟨m,rfl⟩:∃m:Nat,bn=m:=⟨bn.toNat,by simp at m3;omega⟩
 simp only at m1 m2 m3 m4;unfold JT;simp only[cf];subst BH;unfold XC;have t3:=B3.get pA (b1.get pA t0);have t13:=B3.get pA bt1;obtain⟨g,hg⟩:=ZL (h3.push (S [R O (r:Nat),R O (m:Nat),Y p1 ([]:List Vt).length c1].toArray 105):Hp);simp -implicitDefEqProofs only[go_sem];have e3:h3.push (S #[Value.int O (r:Nat),R O (m:Nat),Y p1 0 c1] 105)=g:=hg.symm;rw[e3];have bg:Zj h3.size h3 g:=by rw[hg];exact Zj.push (ab _) _
 have sg:g.size=h3.size+1:=by rw[hg];simp
 clear e3 hg;have Bg:Zj h.size h g:=fZ.trans (bg.mono pA);have x4g:=bg.get pA x3;have t4:=bg.get pA t3;have t14:=bg.get pA t13;have r0:rd g ⟨h.size,0,aw⟩ 2=aa [Y p (J l) c,R O n]:=Zy t4 rfl;have c0:V.hc g ⟨h.size+1,0,aw⟩=aa (R O (r:Nat)):=by rw[Zn t14];rfl
 have yU:V.hc g ⟨h.size+1,1,aw⟩=aa (R O (m:Nat)):=by rw[Zn t14];rfl
 have k0:h.size<g.size:=pA;have k1:h.size+1<g.size:=pA;refine VS.w (g.size) [12,13] (.q 0 (.q 2 (.q 3 (.q 4 (.q 5 (.or 1 (.s 6 (.s 7 (.s 8 (.s 9 (.q 10 (.q 11 (.w 12 (.w 13 .nil)))))))) (.s 6 (.or 1 (.s 7 (.s 8 (.s 9 (.q 10 (.q 11 (.w 12 (.w 13 .nil))))))) (.s 7 (.s 1 (.s 8 (.s 9 (.q 10 (.q 11 (.w 12 (.w 13 .nil)))))))))))))))) mixed vM ?_;simp -implicitDefEqProofs only[go_sem,r0,c0,yU,k0,k1];refine⟨?_,?_,?_⟩
 .have o0:YB g.size 5 (g.push (S (([1]:List Nat).map bv).toArray 5)) (Y (aa ⟨g.size,0,aw⟩) 1 1) [1]:=YB.made aaa (ab _);have B0:Zj g.size g ((g.push (S (([1]:List Nat).map bv).toArray 5)).push (S (([r,m]:List Nat).map nv).toArray 3)):=(Zj.push (ab _) _).YX IQ _;have o00:=o0.push (S (([r,m]:List Nat).map nv).toArray 3);have si:NT ((g.push (S (([1]:List Nat).map bv).toArray 5)).push (S (([r,m]:List Nat).map nv).toArray 3)) (Y (aa ⟨(g.push (S (([1]:List Nat).map bv).toArray 5)).size,0,aw⟩) 2 2) [r,m]:=Ti _ _;have e1:(g.push (S (([1]:List Nat).map bv).toArray 5)).size=g.size+1:=IQ;rw[e1]at si;refine (Rx T _ _ [r,m] si IQ (by intro x hx;simp only[bR,bN,or_false]at hx;omega)).use ?_;rintro w5 h5 ⟨o5,b5⟩;have BB:=B0.trans (b5.mono B0.size);have o1:=o00.Yz b5 (ab _);have s4:=o5.bs;simp -implicitDefEqProofs only[go_sem,BB];refine ZK (E:=5) (B:=g.size) Xl aD TA Sn Sm o1 BB.size s4 (by rw[ZN];simp) ?_;intro w6 h6 o6 b6 _;have B6:Zj g.size g h6:=BB.trans b6;have AT:=Bg.trans (B6.mono pA);have zQ:YB g.size 5 h6 w6 (1 :: ZC [r,m]):=o6;simp -implicitDefEqProofs only[go_sem,B6];refine (Rw T h6 _ w6 n l (1 :: ZC [r,m]) (s.Yz AT) hl zQ.bs (by simp only[bl,ZN,bx];omega) (tk.Qj AT)).use ?_;rintro _ h7 ⟨⟨w7,rfl,o7⟩,b7⟩;have el:(1 :: ZC [r,m]).length=9:=by simp only[bl,ZN,bx]
  rw[el]at o7 ⊢;have B7:Zj g.size g h7:=B6.trans (b7.mono B6.size);have EM:=AT.trans (b7.mono AT.size);have x7:=B7.get pA x4g;have y7:=Ye x7 0;have FB:h.size+2<h7.size:=Za x7;generalize YV (1 :: ZC [r,m])=FR at *;obtain⟨E,hE⟩:=ZL (QC l n 9);rw[<-hE]at o7 ⊢;obtain⟨z,hz⟩:∃z:Int,z=if E=0 then n else 0:=⟨_,rfl⟩
  rw[<-hz];obtain⟨pz,cz,rfl,_⟩:=o7.open;have o7l:=o7;simp -implicitDefEqProofs only[go_sem,B7,y7,FB];refine⟨⟨_,rfl,?_⟩,EM.Zt pA _⟩;exact (o7.Ya (by have:=B6.size;omega) _).mono (by have:=B6.size;omega)
 .have B0a:Zj g.size g (g.push (S (([r,m]:List Nat).map nv).toArray 3)):=Zj.push (ab _) _;have o0:YB g.size 5 ((g.push (S (([r,m]:List Nat).map nv).toArray 3)).push (S (([1]:List Nat).map bv).toArray 5)) (Y (aa ⟨(g.push (S (([r,m]:List Nat).map nv).toArray 3)).size,0,aw⟩) 1 1) [1]:=(YB.made aaa (ab _)).mono IQ;have B0:Zj g.size g ((g.push (S (([r,m]:List Nat).map nv).toArray 3)).push (S (([1]:List Nat).map bv).toArray 5)):=B0a.YX IQ _;have si0:NT (g.push (S (([r,m]:List Nat).map nv).toArray 3)) (Y (aa ⟨g.size,0,aw⟩) 2 2) [r,m]:=Ti _ _;have si:=si0.Yz (Zj.push (ab _) (S (([1]:List Nat).map bv).toArray 5));have e1:(g.push (S (([r,m]:List Nat).map nv).toArray 3)).size=g.size+1:=IQ;rw[e1]at o0;refine (Rx T _ _ [r,m] si IQ (by intro x hx;simp only[bR,bN,or_false]at hx;omega)).use ?_;rintro w5 h5 ⟨o5,b5⟩;have BB:=B0.trans (b5.mono B0.size);have o1:=o0.Yz b5 (ab _);have s4:=o5.bs;simp -implicitDefEqProofs only[go_sem,BB];refine ZK (E:=5) (B:=g.size) Xl aD TA Sn Sm o1 BB.size s4 (by rw[ZN];simp) ?_;intro w6 h6 o6 b6 _;have B6:Zj g.size g h6:=BB.trans b6;have AT:=Bg.trans (B6.mono pA);have zQ:YB g.size 5 h6 w6 (1 :: ZC [r,m]):=o6;simp -implicitDefEqProofs only[go_sem,B6];refine (Rw T h6 _ w6 n l (1 :: ZC [r,m]) (s.Yz AT) hl zQ.bs (by simp only[bl,ZN,bx];omega) (tk.Qj AT)).use ?_;rintro _ h7 ⟨⟨w7,rfl,o7⟩,b7⟩;have el:(1 :: ZC [r,m]).length=9:=by simp only[bl,ZN,bx]
  rw[el]at o7 ⊢;have B7:Zj g.size g h7:=B6.trans (b7.mono B6.size);have EM:=AT.trans (b7.mono AT.size);have x7:=B7.get pA x4g;have y7:=Ye x7 0;have FB:h.size+2<h7.size:=Za x7;generalize YV (1 :: ZC [r,m])=FR at *;obtain⟨E,hE⟩:=ZL (QC l n 9);rw[<-hE]at o7 ⊢;obtain⟨z,hz⟩:∃z:Int,z=if E=0 then n else 0:=⟨_,rfl⟩
  rw[<-hz];obtain⟨pz,cz,rfl,_⟩:=o7.open;have o7l:=o7;simp -implicitDefEqProofs only[go_sem,B7,y7,FB];refine⟨⟨_,rfl,?_⟩,EM.Zt pA _⟩;exact (o7.Ya (by have:=B6.size;omega) _).mono (by have:=B6.size;omega)
 .have B0a:Zj g.size g (g.push (S (([r,m]:List Nat).map nv).toArray 3)):=Zj.push (ab _) _;have si:NT (g.push (S (([r,m]:List Nat).map nv).toArray 3)) (Y (aa ⟨g.size,0,aw⟩) 2 2) [r,m]:=Ti _ _;refine (Rx T _ _ [r,m] si IQ (by intro x hx;simp only[bR,bN,or_false]at hx;omega)).use ?_;rintro w5 h5 ⟨o5,b5⟩;have BB5:=B0a.trans (b5.mono B0a.size);have BB:Zj g.size g (h5.push (S (([1]:List Nat).map bv).toArray 5)):=BB5.YX BB5.size _;have o1:YB g.size 5 (h5.push (S (([1]:List Nat).map bv).toArray 5)) (Y (aa ⟨h5.size,0,aw⟩) 1 1) [1]:=(YB.made aaa (ab _)).mono BB5.size;have s4:=o5.bs.Yz (Zj.push (ab h5.size) (S (([1]:List Nat).map bv).toArray 5));simp -implicitDefEqProofs only[go_sem,BB5,BB];refine ZK (E:=5) (B:=g.size) Xl aD TA Sn Sm o1 BB.size s4 (by rw[ZN];simp) ?_;intro w6 h6 o6 b6 _;have B6:Zj g.size g h6:=BB.trans b6;have AT:=Bg.trans (B6.mono pA);have zQ:YB g.size 5 h6 w6 (1 :: ZC [r,m]):=o6;simp -implicitDefEqProofs only[go_sem,B6];refine (Rw T h6 _ w6 n l (1 :: ZC [r,m]) (s.Yz AT) hl zQ.bs (by simp only[bl,ZN,bx];omega) (tk.Qj AT)).use ?_;rintro _ h7 ⟨⟨w7,rfl,o7⟩,b7⟩;have el:(1 :: ZC [r,m]).length=9:=by simp only[bl,ZN,bx]
  rw[el]at o7 ⊢;have B7:Zj g.size g h7:=B6.trans (b7.mono B6.size);have EM:=AT.trans (b7.mono AT.size);have x7:=B7.get pA x4g;have y7:=Ye x7 0;have FB:h.size+2<h7.size:=Za x7;generalize YV (1 :: ZC [r,m])=FR at *;obtain⟨E,hE⟩:=ZL (QC l n 9);rw[<-hE]at o7 ⊢;obtain⟨z,hz⟩:∃z:Int,z=if E=0 then n else 0:=⟨_,rfl⟩
  rw[<-hz];obtain⟨pz,cz,rfl,_⟩:=o7.open;have o7l:=o7;simp -implicitDefEqProofs only[go_sem,B7,y7,FB];refine⟨⟨_,rfl,?_⟩,EM.Zt pA _⟩;exact (o7.Ya (by have:=B6.size;omega) _).mono (by have:=B6.size;omega)
theorem Sx(n:Nat):Qr n [Value.int ae 0]=(bk n 0).map bv:=by
 induction n with
 | zero=>rfl
 | succ n ih=>rw[Qr,ih];rfl
theorem FC:∀(vs zs:List aN),(J vs)<=(J zs)->Xd zs 0 vs=vs++zs.drop (J vs)
 | [],zs,_=>by cases zs<;>rfl
 | v :: vs,[],h=>by simp at h
 | v :: vs,z :: zs,h=>by
  rw[Xd,FC vs zs (by simpa using h)];rfl
theorem cQ(key:List Nat):Xd ((bk 64 0).map bv) 0 (((MB key).map bv).take (min (MB key).length 64))=(VZ key).map bv:=by
 have:=Sp key;rw[b8 this,be IQ,FC _ _ VL,List.length_map,<-List.map_drop,List.drop_replicate,VZ,List.map_append]
theorem zR(T:bo)(h:Hp)(v:aN)(key:List Nat)(w:Nat)(s:Bs h v key)(hk:(J key)<=100000)(hw:w<256)(tk:Tk h):
  Zd bc T 59 #[v,R ae w] h fun v' h'=>YB h.size 5 h' v' (T7 key w)/\Zj h.size h h':=by
 obtain⟨p,cp,rfl,WB⟩:=s.open;have rW:NH key:=s.byte;refine Zd.XS [_,_] Tryz.func59 ?_;by_cases e64:64<(J key)
 .have ZhL:64<((J key):Int):=pA;have hK:T6 key=MB key:=by unfold MB;rw[if_pos e64]
  simp -implicitDefEqProofs only[go_sem,ZhL];refine (BW T _ _ key s hk tk).use ?_;rintro u g ⟨ou,bg⟩;have su:=ou.bs;rw[hK]at su;simp -implicitDefEqProofs only[go_sem];have hG:Zj h.size h (g.push (S (Qr 64 [Value.int ae 0]).toArray 5)):=bg.add _;have sK':=su.Yz (Zj.push (ab g.size) (S (Qr 64 [Value.int ae 0]).toArray 5));have kl:=Sp key;refine GX (o:=0) (dl:=64) (dc:=64) (c:=Qr 64 [Value.int ae 0]) (E':=5) Xl TA Zc sK'.sl (RW _) (by rw[Sx];simp;omega) ?_;rw[Q2,Sx,cQ];have mT:Zj h.size h (g.push (S ((VZ key).map bv).toArray 5)):=bg.add _;have P9:(g.push (S ((VZ key).map bv).toArray 5))[g.size]? = aa (S (((T7 key w).take 0++(VZ key).drop 0).map bv++[]).toArray 5):=by
   rw[cc,co,bS,a4];exact Zc
  simp -implicitDefEqProofs only[go_sem];refine VS.Yk (fun F' g'=>Zj h.size h g'/\F' 1=R ae w/\F' 5=Y (aa ⟨g.size,0,aw⟩) 64 64/\F' 17=R O 64/\∃i:Nat,i<=64/\F' 18=R O i/\g'[g.size]? = aa (S (((T7 key w).take i++(VZ key).drop i).map bv++[]).toArray 5))
   (fun F _=>64-(vi (F 18)).toNat) rfl ⟨mT,rfl,rfl,rfl,0,pA,rfl,P9⟩ ?_
  clear hG mT P9 sK';rintro F g' ⟨hg,f1,f5,f17,i,hi,f18,hx⟩;have Ov:=Za hx;have hfl:((T7 key w).take i++(VZ key).drop i).length=64:=by rw[aO,a5,bG,Yt,Qw];omega
  by_cases ZT:i<64
  .have Z7:(i:Int)<64:=pA;have q1:=Z8 (f:=bv) hx (i:=i) pA;have e0:((T7 key w).take i++(VZ key).drop i).getD i 0=(VZ key).getD i 0:=by
    rw[am,bA (by rw[a5,Yt];omega),a5,Yt,b8 pA,b9,cd,cy,<-am]
   rw[e0]at q1;unfold bv at q1;have eX:=DZ key w ZT;have cs:=Yx (f:=bv) hx (i:=i) pA ((T7 key w).getD i 0) rfl;rw[MD _ _ i (by rw[Yt];exact ZT) (by rw[Yt,Qw])]at cs;have hZb:=Z4 (KM rW) i;have ox:Unit->YO .xor ae (((VZ key).getD i 0:Nat):Int) (w:Int)=(((T7 key w).getD i 0:Nat):Int):=fun _=>by rw[eX];exact Bd _ _ hZb hw
   have vX:QX g' ⟨g.size,i,aw⟩ (R ae (((T7 key w).getD i 0:Nat):Int))=_:=cs;simp -implicitDefEqProofs only[go_sem,f1,f5,f17,f18,Z7,q1,ox (),vX];refine⟨⟨hg.Zt (bg.size) _,f1,f5,f17,i+1,ZT,rfl,Yd hx⟩,?_⟩;simp only[vi,Zr,↓reduceIte,f18];omega
  .have Xv:¬(i:Int)<64:=pA;obtain rfl:i=64:=pA;rw[be (by rw[Yt];omega),bw (by rw[Qw];omega),a4,a4]at hx;simp -implicitDefEqProofs only[go_sem,f5,f17,f18,Xv];exact⟨⟨.inr ⟨g.size,64,[],bg.size,by rw[Yt],by rw[a4];exact hx,by simp[Yt],by rw[Yt];rfl,by rw[Yt];omega⟩,DW rW hw⟩,hg⟩
 .have ZhL:¬64<((J key):Int):=pA;have hK:MB key=key:=by unfold MB;rw[if_neg e64]
  have b0:=Zj.refl h.size h;have su:=s;have KW:Bs h (Y p (MB key).length cp) (MB key):=by rw[hK];exact s
  simp -implicitDefEqProofs only[go_sem,ZhL];have hG:Zj h.size h (h.push (S (Qr 64 [Value.int ae 0]).toArray 5)):=b0.add _;have hkl:(J key)=(MB key).length:=by rw[hK]
  rw[hkl];have sK':=KW.Yz (Zj.push (ab h.size) (S (Qr 64 [Value.int ae 0]).toArray 5));have kl:=Sp key;refine GX (o:=0) (dl:=64) (dc:=64) (c:=Qr 64 [Value.int ae 0]) (E':=5) Xl TA Zc sK'.sl (RW _) (by rw[Sx];simp;omega) ?_;rw[Q2,Sx,cQ];have mT:Zj h.size h (h.push (S ((VZ key).map bv).toArray 5)):=b0.add _;have P9:(h.push (S ((VZ key).map bv).toArray 5))[h.size]? = aa (S (((T7 key w).take 0++(VZ key).drop 0).map bv++[]).toArray 5):=by
   rw[cc,co,bS,a4];exact Zc
  simp -implicitDefEqProofs only[go_sem];refine VS.Yk (fun F' g'=>Zj h.size h g'/\F' 1=R ae w/\F' 5=Y (aa ⟨h.size,0,aw⟩) 64 64/\F' 17=R O 64/\∃i:Nat,i<=64/\F' 18=R O i/\g'[h.size]? = aa (S (((T7 key w).take i++(VZ key).drop i).map bv++[]).toArray 5))
   (fun F _=>64-(vi (F 18)).toNat) rfl ⟨mT,rfl,rfl,rfl,0,pA,rfl,P9⟩ ?_
  clear hG mT P9 sK';rintro F g' ⟨hg,f1,f5,f17,i,hi,f18,hx⟩;have Ov:=Za hx;have hfl:((T7 key w).take i++(VZ key).drop i).length=64:=by rw[aO,a5,bG,Yt,Qw];omega
  by_cases ZT:i<64
  .have Z7:(i:Int)<64:=pA;have q1:=Z8 (f:=bv) hx (i:=i) pA;have e0:((T7 key w).take i++(VZ key).drop i).getD i 0=(VZ key).getD i 0:=by
    rw[am,bA (by rw[a5,Yt];omega),a5,Yt,b8 pA,b9,cd,cy,<-am]
   rw[e0]at q1;unfold bv at q1;have eX:=DZ key w ZT;have cs:=Yx (f:=bv) hx (i:=i) pA ((T7 key w).getD i 0) rfl;rw[MD _ _ i (by rw[Yt];exact ZT) (by rw[Yt,Qw])]at cs;have hZb:=Z4 (KM rW) i;have ox:Unit->YO .xor ae (((VZ key).getD i 0:Nat):Int) (w:Int)=(((T7 key w).getD i 0:Nat):Int):=fun _=>by rw[eX];exact Bd _ _ hZb hw
   have vX:QX g' ⟨h.size,i,aw⟩ (R ae (((T7 key w).getD i 0:Nat):Int))=_:=cs;simp -implicitDefEqProofs only[go_sem,f1,f5,f17,f18,Z7,q1,ox (),vX];refine⟨⟨hg.Zt (b0.size) _,f1,f5,f17,i+1,ZT,rfl,Yd hx⟩,?_⟩;simp only[vi,Zr,↓reduceIte,f18];omega
  .have Xv:¬(i:Int)<64:=pA;obtain rfl:i=64:=pA;rw[be (by rw[Yt];omega),bw (by rw[Qw];omega),a4,a4]at hx;simp -implicitDefEqProofs only[go_sem,f5,f17,f18,Xv];exact⟨⟨.inr ⟨h.size,64,[],b0.size,by rw[Yt],by rw[a4];exact hx,by simp[Yt],by rw[Yt];rfl,by rw[Yt];omega⟩,DW rW hw⟩,hg⟩
theorem jJ(T:bo)(h:Hp)(v u:aN)(key b:List Nat)(s:Bs h v key)(sb:Bs h u b)(hk:(J key)<=10000)(hb:(J b)<=10000)(tk:Tk h):
  Zd bc T 44 #[v,u] h fun v' h'=>YB h.size 5 h' v' (LD key b)/\Zj h.size h h':=by
 have sb0:=sb;refine Zd.XS [_,_] Tryz.func44 ?_;simp -implicitDefEqProofs only[go_sem];refine (zR T h v key 92 s pA pA tk).use ?_;rintro v1 h1 ⟨o1,b1⟩;have s1:=b1.size;simp -implicitDefEqProofs only[go_sem];refine (zR T h1 v key 54 (s.Yz b1) pA pA (tk.Qj b1)).use ?_;rintro v2 h2 ⟨o2,b2⟩;have s2:=b2.size;have B2:=b1.trans (b2.mono s1);have o1':=o1.Yz b2 (ab _);have l1:=Yt key 92;have l2:=Yt key 54;simp -implicitDefEqProofs only[go_sem];refine ZK (E:=5) (B:=h1.size) Xl aD TA Sn Sm o2 s2 (sb.Yz B2) (by rw[l2];omega) ?_;intro v3 h3 o3 b3 _;have s3:=b3.size;have B3:=B2.trans (b3.mono s1);have ZuG:=o1.Yz (b2.trans b3) (ab _);simp -implicitDefEqProofs only[go_sem];refine (BW T h3 v3 _ o3.bs (by rw[aO,l2];omega) (tk.Qj B3)).use ?_;rintro v4 h4 ⟨o4,b4⟩;have B4:=B3.trans (b4.mono pA);have o14:=ZuG.Yz b4 (ab _);simp -implicitDefEqProofs only[go_sem];refine ZK (E:=5) (B:=h.size) Xl aD TA Sn Sm o14 B4.size o4.bs (by rw[l1,Qv];omega) ?_;intro v5 h5 o5 b5 _;have B5:=B4.trans b5;simp -implicitDefEqProofs only[go_sem];refine (BW T h5 v5 _ o5.bs (by rw[aO,l1,Qv];omega) (tk.Qj B5)).use ?_;rintro v6 h6 ⟨o6,b6⟩;simp -implicitDefEqProofs only[go_sem];exact⟨o6.mono B5.size,B5.trans (b6.mono B5.size)⟩
def FD(m n:Nat):Int:=if 256<m\/2000<n then 1 else 0
def zS(B:Nat)(h':Hp)(v':aN)(key b:List Nat):Prop:=∃w,v'=.tuple [w,R O (FD (J key) (J b))].toArray/\YB B 5 h' w (if FD (J key) (J b)=0 then LD key b else [])
theorem rZ(T:bo)(h:Hp)(v u:aN)(key b:List Nat)(s:Bs h v key)(sb:Bs h u b)(tk:Tk h):
  Zd bc T 43 #[v,u] h fun v' h'=>zS h.size h' v' key b/\Zj h.size h h':=by
 obtain⟨p,cp,rfl,WB⟩:=s.open;obtain⟨q,cq,rfl,EJ⟩:=sb.open;refine Zd.XS [_,_] Tryz.func43 ?_;unfold zS FD;by_cases e1:256<(J key)
 .have vC:256<((J key):Int):=pA;rw[if_pos (.inl e1)];simp -implicitDefEqProofs only[go_sem,vC];exact⟨_,rfl,YB.nil _ _ _⟩
 .have vC:¬256<((J key):Int):=pA;by_cases e2:2000<(J b)
  .have e2':2000<((J b):Int):=pA;rw[if_pos (.inr e2)];simp -implicitDefEqProofs only[go_sem,vC,e2'];exact⟨_,rfl,YB.nil _ _ _⟩
  .have e2':¬2000<((J b):Int):=pA;rw[if_neg pA];simp -implicitDefEqProofs only[go_sem,vC,e2'];refine (jJ T _ _ _ key b s sb pA pA tk).use ?_;rintro w h1 ⟨o1,b1⟩;simp -implicitDefEqProofs only[go_sem,b1];exact⟨_,rfl,o1⟩
theorem cU(T:bo)(h:Hp)(v u:aN)(key b:List Nat)(s:Bs h v key)(sb:Bs h u b)(hk:(J key)<=256)(hb:(J b)<=2000)(tk:Tk h):
  Zd bc T 26 #[v,u] h fun v' h'=>(Bs h' v' ((LD key b).take 16)/\RY v')/\Zj h.size h h':=by
 refine Zd.XS [_,_] Tryz.func26 ?_;simp -implicitDefEqProofs only[go_sem];refine (rZ T _ _ _ key b s sb tk).use ?_;rintro _ h1 ⟨⟨w,rfl,o1⟩,b1⟩;have e0:FD (J key) (J b)=0:=by unfold FD;rw[if_neg pA]
 rw[e0,if_pos rfl]at o1;rw[e0];have ml:=Sq key b;generalize LD key b=M at *;obtain⟨p,c,rfl,hc⟩:=o1.open;have sM:=o1.bs;obtain⟨p',c',hv,hh⟩:=sM.VM;simp only[Value.slice.injEq]at hv;obtain⟨rfl,_,rfl⟩:=hv;obtain⟨bb,ob,rfl,_⟩:=hh (by intro e;rw[e]at ml;cases ml);have fin:=Bs.Mq sM (m:=16) pA c;rw[ml]at hc ⊢;have h16:(16:Int)<=(c:Int):=pA;have mE:¬c=0:=pA;simp -implicitDefEqProofs only[go_sem,h16,mE,ck,cn,b1];exact⟨fin,show 16<=c by omega⟩
def cV(c r u:Nat):List Nat:=[c,r]++Xq u
def Ry(key:List Nat)(c r u:Nat):List Nat:=cV c r u++(LD key (cV c r u)).take 16
theorem I7(c r u:Nat):(cV c r u).length=6:=rfl
theorem Qx(key:List Nat)(c r u:Nat):(Ry key c r u).length=22:=by
 rw[Ry,aO,I7,a5,Sq];rfl
def VE(kl:Nat)(c r u:Int):Int:=if kl≠32 then 1 else JP c r u
def jK(B:Nat)(h':Hp)(v':aN)(key:List Nat)(c r u:Int):Prop:=∃w,v'=.tuple [w,R O (VE (J key) c r u)].toArray/\YB B 5 h' w (if VE (J key) c r u=0 then Ry key c.toNat r.toNat u.toNat else [])
theorem cW{c r u:Int}(h:JP c r u=0):∃c' r' u':Nat,c=c'/\r=r'/\u=u'/\c'<8/\r'<8/\u'<=1048576:=by
 unfold JP at h;split at h
 .cases h
 .exact⟨c.toNat,r.toNat,u.toNat,pA,pA,pA,pA,pA,pA⟩
theorem zT(T:bo)(h:Hp)(v:aN)(key:List Nat)(c r u:Int)(s:Bs h v key)(tk:Tk h):
  Zd bc T 14 #[v,ba (PS c r u).toArray] h fun v' h'=>jK h.size h' v' key c r u/\Zj h.size h h':=by
 obtain⟨p,cp,rfl,_⟩:=s.open;refine Zd.XS [_,_] Tryz.func14 ?_;unfold jK PS;by_cases hk:(J key)=32
 case neg=>
  have ee:VE (J key) c r u=1:=by unfold VE;rw[if_pos hk]
  have Ln:¬((J key):Int)=32:=pA;rw[ee];simp -implicitDefEqProofs only[go_sem,Ln];exact⟨_,rfl,YB.nil _ _ _⟩
 have Ln:((J key):Int)=32:=pA;have ee:VE (J key) c r u=JP c r u:=by unfold VE;rw[if_neg pA]
 rw[ee];simp -implicitDefEqProofs only[go_sem,Ln];refine (G9 T _ c r u).use ?_;rintro _ _ ⟨rfl,rfl⟩;unfold PS;by_cases q:JP c r u=0
 case neg=>
  simp -implicitDefEqProofs only[go_sem,q];exact⟨_,rfl,YB.nil _ _ _⟩
 obtain⟨c,r,u,rfl,rfl,rfl,hc,hr,hu⟩:=cW q;rw[q];have ec:(c:Int)%256=(c:Int):=pA;have er:(r:Int)%256=(r:Int):=pA;simp only[cf];simp -implicitDefEqProofs only[go_sem,ec,er];obtain⟨h1,Xp⟩:=ZL ((h.push (S [Value.int O c,R O r,R O u].toArray 33)).push (S [Value.int O c,R O r,R O u].toArray 33):Hp);have b1:Zj h.size h h1:=by rw[Xp];exact ((Zj.refl _ _).add _).add _
 have s1:h1.size=h.size+1+1:=by rw[Xp];simp
 rw[<-s1,<-Xp];clear Xp;have Ga:∀x∈[c,r],x<256:=by
  intro x hx;simp only[bR,bN,or_false]at hx;omega
 have o2:YB h1.size 5 (h1.push (S (([c,r]:List Nat).map bv).toArray 5)) (Y (aa ⟨h1.size,0,aw⟩) 2 2) [c,r]:=YB.made Ga (ab _);have B2:Zj h1.size h1 (h1.push (S (([c,r]:List Nat).map bv).toArray 5)):=Zj.push (ab _) _;refine (mQ T _ h1.size _ [c,r] u o2 IQ IQ pA).use ?_;rintro w3 h3 ⟨o3,b3⟩;have B3:=B2.trans b3;have fZ:Zj h.size h h3:=b1.trans (B3.mono pA);have o3':YB h1.size 5 h3 w3 (cV c r u):=o3;have gl:=I7 c r u;unfold Ry;generalize cV c r u=G at *;simp -implicitDefEqProofs only[go_sem];rw[<-Ln];refine (cU T h3 _ w3 key G (s.Yz fZ) o3'.bs pA pA (tk.Qj fZ)).use ?_;rintro w4 h4 ⟨⟨s4,_⟩,b4⟩;have s3:=B3.size;have o34:=o3'.Yz b4 (ab _);have Bh4:=fZ.trans (b4.mono fZ.size);simp -implicitDefEqProofs only[go_sem];refine ZK (E:=5) (B:=h1.size) Xl aD TA Sn Sm o34 (by have:=b4.size;omega) s4 (by rw[gl,a5];omega) ?_;intro w5 h5 o5 b5 _;have Bh5:=Bh4.trans (b5.mono pA);simp -implicitDefEqProofs only[go_sem,Bh5];exact⟨_,rfl,o5.mono pA⟩
def BX:List aN:=PS 0 0 0
def QS(key l:List Nat):Int:=if (J key)≠32\/(J l)≠22 then 1 else if (LD key (l.take 6)).take 16≠l.drop 6 then 6 else JP (l.getD 0 0:Nat) (l.getD 1 0:Nat) (XH l 2:Nat)
def BY(key l:List Nat):List aN:=if QS key l=0 then PS (l.getD 0 0:Nat) (l.getD 1 0:Nat) (XH l 2:Nat) else BX
theorem FE(T:bo)(h:Hp)(v u:aN)(key l:List Nat)(s:Bs h v key)(sl:Bs h u l)(cu:RY u)(tk:Tk h):
  Zd bc T 82 #[v,u] h fun v' h'=>v'=.tuple [ba (BY key l).toArray,R O (QS key l)].toArray/\Zj h.size h h':=by
 obtain⟨p,cp,rfl,_⟩:=s.open;obtain⟨q,cq,rfl,hq⟩:=sl.VM;refine Zd.XS [_,_] Tryz.func82 ?_;by_cases hk:(J key)=32
 case neg=>
  have ee:QS key l=1:=by unfold QS;rw[if_pos (.inl hk)]
  have Ln:¬((J key):Int)=32:=pA;unfold BY;rw[ee];unfold BX PS;simp +contextual -implicitDefEqProofs only[go_sem,Ln]
  (repeat' (first|exact Zj.refl _ _|assumption|refine Zj.add ?_ _|refine Zj.Zt ?_ aab _|refine Zj.trans aac ?_))
 have Ln:((J key):Int)=32:=pA;by_cases hl:(J l)=22
 case neg=>
  have ee:QS key l=1:=by unfold QS;rw[if_pos (.inr hl)]
  have fU:¬((J l):Int)=22:=pA;unfold BY;rw[ee];unfold BX PS;simp +contextual -implicitDefEqProofs only[go_sem,Ln,fU]
  (repeat' (first|exact Zj.refl _ _|assumption|refine Zj.add ?_ _|refine Zj.Zt ?_ aab _|refine Zj.trans aac ?_))
 have fU:((J l):Int)=22:=pA;obtain⟨b,o,rfl,hb,XL⟩:=hq (by intro e;rw[e]at hl;cases hl);have Wx:22<=cq:=by have:(J l)<=cq:=cu;omega
 have h6c:(6:Int)<=(cq:Int):=pA;have mE:¬cq=0:=pA;have hc6:¬cq=6:=pA;obtain⟨y0,jp⟩:∃y:Int,y=((l.getD 0 0:Nat):Int):=⟨_,rfl⟩
 obtain⟨y1',BM⟩:∃y:Int,y=((l.getD 1 0:Nat):Int):=⟨_,rfl⟩
 obtain⟨y2',hy2⟩:∃y:Int,y=((l.getD 2 0:Nat):Int):=⟨_,rfl⟩
 obtain⟨y3,hy3⟩:∃y:Int,y=((l.getD 3 0:Nat):Int):=⟨_,rfl⟩
 obtain⟨y4,hy4⟩:∃y:Int,y=((l.getD 4 0:Nat):Int):=⟨_,rfl⟩
 obtain⟨y5,hy5⟩:∃y:Int,y=((l.getD 5 0:Nat):Int):=⟨_,rfl⟩
 obtain⟨yY,hyY⟩:∃y:Int,y=((XH l 2:Nat):Int):=⟨_,rfl⟩
 have z0:=Z4 sl.byte 0;have z1:=Z4 sl.byte 1;have z2:=Z4 sl.byte 2;have z3:=Z4 sl.byte 3;have z4:=Z4 sl.byte 4;have z5:=Z4 sl.byte 5;have eo:Unit->YO .or O (YO .or O (YO .or O (Xr O y2' 24) (Xr O y3 16)) (Xr O y4 8)) y5=yY:=fun _=>by
  rw[hy2,hy3,hy4,hy5,hyY];exact By z2 z3 z4 z5
 have yb:(0<=y0/\y0<256)/\(0<=y1'/\y1'<256)/\(0<=y2'/\y2'<256)/\(0<=y3/\y3<256)/\(0<=y4/\y4<256)/\(0<=y5/\y5<256):=by
  rw[jp,BM,hy2,hy3,hy4,hy5];omega
 obtain⟨⟨ya1,ya2⟩,⟨ya3,ya4⟩,⟨ya5,ya6⟩,⟨ya7,ya8⟩,⟨ya9,ZGW⟩,ZGX,ZGY⟩:=yb;have ee:QS key l=if (LD key (l.take 6)).take 16≠l.drop 6 then 6 else JP y0 y1' yY:=by
  rw[jp,BM,hyY];unfold QS;rw[if_neg pA]
 have eT:BY key l=if QS key l=0 then PS y0 y1' yY else BX:=by rw[jp,BM,hyY];rfl
 have sc:∀i,i<22->V.hc h ⟨b,o+i,aw⟩=aa (R ae (l.getD i 0:Nat)):=fun i hi=>XL i pA;have q0:=sc 0 pA;have q1:=sc 1 pA;have q2:=sc 2 pA;have q3:=sc 3 pA;have q4:=sc 4 pA;have q5:=sc 5 pA;rw[<-jp]at q0;rw[<-BM]at q1;rw[<-hy2]at q2;rw[<-hy3]at q3;rw[<-hy4]at q4;rw[<-hy5]at q5;obtain⟨h1,Xp⟩:=ZL (h.push (S BX.toArray 33):Hp);have b1:Zj h.size h h1:=by rw[Xp];exact Zj.push (ab _) _
 have s1:h1.size=h.size+1:=by rw[Xp];simp
 have x1:h1[h.size]? = aa (S BX.toArray 33):=by rw[Xp];exact Zc
 have e1:h.push (S #[Value.int O 0,R O 0,R O 0] 33)=h1:=Xp.symm;rw[hl]at sl XL ⊢;simp -implicitDefEqProofs only[go_sem,Ln,fU];rw[e1];clear e1 Xp;have sl1:=sl.Yz b1;have s61:Bs h1 (Y (aa ⟨b,o,aw⟩) 6 cq) (l.take 6):=by
  rw[<-hl]at sl1;exact Bs.Mq sl1 pA cq
 have t6:(l.take 6).length<=2000:=aad;obtain⟨M,hM⟩:=ZL ((LD key (l.take 6)).take 16);have ml:(J M)<=140737488355328:=by rw[hM,a5];omega
 rw[<-hM]at ee;refine VS.mono (N:=fun F g=>Zj h1.size h1 g/\F 1=Y (aa ⟨b,o,aw⟩) 22 cq/\F 4=a7 (aa ⟨h.size,0,aw⟩)/\F 24=.bool (!decide (M=l.drop 6))) ?_ ?_ (fun _ _ _ h=>h) (fun _ _ h=>h)
 .refine VS.w (h1.size) [] (.q 0 (.q 1 (.q 2 (.q 4 (.q 5 (.s 3 (.s 6 (.q 7 .nil)))))))) mixed vM ?_;simp -implicitDefEqProofs only[go_sem,h6c,mE,hc6,ck,cn];rw[<-Ln];refine (cU T h1 _ _ key (l.take 6) (s.Yz b1) s61 pA t6 (tk.Qj b1)).use ?_;rintro w h2 ⟨⟨s2,_⟩,b2⟩;rw[<-hM]at s2;have sl2:=Ph (sl1.Yz b2) (k:=6) pA hl (cq-6);simp -implicitDefEqProofs only[go_sem,b2];refine (Bx T h2 w _ M (l.drop 6) s2 sl2 ml).pure ?_;simp -implicitDefEqProofs only[go_sem,b2]
 rintro F g ⟨bg,f1,f4,f24⟩;have Bg:=b1.trans (bg.mono pA);have k0:g[h.size]? = aa (S BX.toArray 33):=bg.get pA x1;have k1:rd g ⟨h.size,0,aw⟩ 3=aa BX:=Zy k0 rfl;have k2:=Ye k0 0;have Ov:=Za k0;clear hM;unfold BX PS at *;by_cases hm:M=l.drop 6
 case neg=>
  have hd:decide (M=l.drop 6)=false:=decide_eq_false hm;rw[hd]at f24;rw[if_pos hm]at ee;rw[eT,ee];simp +contextual -implicitDefEqProofs only[go_sem,f1,f4,f24,k1,k2];exact Bg.Zt (ab _) _
 have hd:decide (M=l.drop 6)=true:=decide_eq_true hm;rw[hd]at f24;rw[if_neg (fun hn=>hn hm)]at ee;have e0:V.hc g ⟨b,o,aw⟩=aa (R ae y0):=by rw[Bg.hc (by exact hb)];exact q0
 have e1:V.hc g ⟨b,o+1,aw⟩=aa (R ae y1'):=by rw[Bg.hc (by exact hb)];exact q1
 have e2:V.hc g ⟨b,o+2,aw⟩=aa (R ae y2'):=by rw[Bg.hc (by exact hb)];exact q2
 have e3:V.hc g ⟨b,o+3,aw⟩=aa (R ae y3):=by rw[Bg.hc (by exact hb)];exact q3
 have e4:V.hc g ⟨b,o+4,aw⟩=aa (R ae y4):=by rw[Bg.hc (by exact hb)];exact q4
 have e5:V.hc g ⟨b,o+5,aw⟩=aa (R ae y5):=by rw[Bg.hc (by exact hb)];exact q5
 rw[eT,ee];clear jp BM hy2 hy3 hy4 hy5 hyY;have jL:b<g.size:=ct hb Bg.size;simp -implicitDefEqProofs only[go_sem,f1,f4,f24];refine VS.w (g.size) [32] (.q 0 (.q 1 (.q 2 (.q 3 (.q 4 (.q 5 (.q 6 (.q 7 (.q 8 (.q 9 (.q 10 (.q 11 (.q 12 (.q 13 (.q 14 (.q 15 (.q 16 (.q 17 (.q 18 (.q 19 (.q 20 (.q 21 (.q 22 (.q 23 (.q 24 (.q 25 (.q 26 (.q 27 (.q 28 (.q 29 (.q 30 (.s 31 (.w 32 .nil))))))))))))))))))))))))))))))))) mixed vM ?_;simp -implicitDefEqProofs only[go_sem,f1,f4,jL,e0,e1,e2,e3,e4,e5,eo ()];refine (G9 T _ y0 y1' yY).use ?_;rintro _ _ ⟨rfl,rfl⟩;unfold PS;obtain⟨E,hE⟩:=ZL (JP y0 y1' yY);rw[<-hE];by_cases q:E=0
 .rw[if_pos q];simp +contextual -implicitDefEqProofs only[go_sem,q,f1,f4,k1,k2,Ov]
  (repeat' (first|exact Zj.refl _ _|assumption|refine Zj.add ?_ _|refine Zj.Zt ?_ aab _|refine Zj.trans aac ?_))
 .rw[if_neg q];simp +contextual -implicitDefEqProofs only[go_sem,q,f1,f4,k1,k2,Ov]
  (repeat' (first|exact Zj.refl _ _|assumption|refine Zj.add ?_ _|refine Zj.Zt ?_ aab _|refine Zj.trans aac ?_))
def Qf(s a i:Nat)(n:Int):Int:=if 256<s\/256<a\/256<i\/n<0\/512<n then 1 else 0
theorem sf{p:Option Addr}{m c k c' b:Nat}(h:Yf (Y p m c)=aa b)(hc:c'≠0):Yf (Y p k c')=aa b:=by
 cases p with
 | none=>simp[Yf]at h
 | some a=>
  simp only[Yf]at h ⊢;split at h
  .cases h
  .rw[if_neg hc];exact h
theorem zU{p:Option Addr}{m c b:Nat}(h:Yf (Y p m c)=aa b):c≠0:=by
 cases p with
 | none=>simp[Yf]at h
 | some a=>
  simp only[Yf]at h;split at h
  .cases h
  .assumption
def nA(B:Nat)(h':Hp)(v':aN)(JQ T8 info:List Nat)(n:Int):Prop:=∃w,v'=.tuple [w,R O (Qf (J JQ) (J T8) (J info) n)].toArray/\RY w/\Bs h' w (if Qf (J JQ) (J T8) (J info) n=0 then Fl JQ T8 info n.toNat else [])/\∀b,Yf w=aa b->B<=b
theorem FF(T:bo)(h:Hp)(vs va vi':aN)(JQ T8 info:List Nat)(n:Int)(ss:Bs h vs JQ)(sa:Bs h va T8)(si:Bs h vi' info)(tk:Tk h):
  Zd bc T 27 #[vs,va,vi',R O n] h fun v' h'=>nA h.size h' v' JQ T8 info n/\Zj h.size h h':=by
 obtain⟨p1,c1,rfl,_⟩:=ss.open;obtain⟨p2,c2,rfl,_⟩:=sa.open;obtain⟨p3,c3,rfl,_⟩:=si.open;refine Zd.XS [_,_,_,_] Tryz.func27 ?_;unfold nA;by_cases e1:256<(J JQ)
 .have vC:256<((J JQ):Int):=by omega
  have ee:Qf (J JQ) (J T8) (J info) n=1:=by unfold Qf;rw[if_pos (.inl e1)]
  rw[ee];simp -implicitDefEqProofs only[go_sem,vC];exact⟨_,rfl,ab _,(YB.nil 0 5 _).bs,fun b hb=>by simp[Yf]at hb⟩
 have vC:¬256<((J JQ):Int):=by omega
 by_cases e2:256<(J T8)
 .have e2':256<((J T8):Int):=by omega
  have ee:Qf (J JQ) (J T8) (J info) n=1:=by unfold Qf;rw[if_pos (.inr (.inl e2))]
  rw[ee];simp -implicitDefEqProofs only[go_sem,vC,e2'];exact⟨_,rfl,ab _,(YB.nil 0 5 _).bs,fun b hb=>by simp[Yf]at hb⟩
 have e2':¬256<((J T8):Int):=by omega
 by_cases e3:256<(J info)
 .have e3':256<((J info):Int):=by omega
  have ee:Qf (J JQ) (J T8) (J info) n=1:=by unfold Qf;rw[if_pos (.inr (.inr (.inl e3)))]
  rw[ee];simp -implicitDefEqProofs only[go_sem,vC,e2',e3'];exact⟨_,rfl,ab _,(YB.nil 0 5 _).bs,fun b hb=>by simp[Yf]at hb⟩
 have e3':¬256<((J info):Int):=by omega
 by_cases e4:n<0
 .have ee:Qf (J JQ) (J T8) (J info) n=1:=by unfold Qf;rw[if_pos (.inr (.inr (.inr (.inl e4))))]
  rw[ee];simp -implicitDefEqProofs only[go_sem,vC,e2',e3',e4];exact⟨_,rfl,ab _,(YB.nil 0 5 _).bs,fun b hb=>by simp[Yf]at hb⟩
 by_cases e5:512<n
 .have ee:Qf (J JQ) (J T8) (J info) n=1:=by unfold Qf;rw[if_pos (.inr (.inr (.inr (.inr e5))))]
  rw[ee];simp -implicitDefEqProofs only[go_sem,vC,e2',e3',e4,e5];exact⟨_,rfl,ab _,(YB.nil 0 5 _).bs,fun b hb=>by simp[Yf]at hb⟩
 have ee:Qf (J JQ) (J T8) (J info) n=0:=by unfold Qf;rw[if_neg (by omega)]
 obtain⟨m,rfl⟩:∃m:Nat,n=m:=⟨n.toNat,by omega⟩
 rw[ee,cf];simp -implicitDefEqProofs only[go_sem,vC,e2',e3',e4,e5];refine (jJ T _ _ _ T8 JQ sa ss (by omega) (by omega) tk).use ?_;rintro vk h1 ⟨ok,b1⟩;have s1:=b1.size;obtain⟨key,ZdO⟩:=ZL (LD T8 JQ);rw[<-ZdO]at ok;have kl:(J key)=32:=by rw[ZdO];exact Sq _ _
 have hm:m<=512:=by omega
 have eS:Fl JQ T8 info m=(Sr key info 16).take m:=by rw[Fl,ZdO]
 have dt:∀i,m<=32*i->i<=16->(Sr key info 16).take m=(Sr key info i).take m:=fun i h1 h2=>Fk key info m i 16 h1 h2;rw[eS];clear eS ZdO;simp -implicitDefEqProofs only[go_sem];refine VS.Yk (fun F g=>Zj h1.size h1 g/\F 2=Y p3 (J info) c3/\F 3=R O m/\F 10=vk/\∃i:Nat,32*i<m+32/\F 13=R O ((i+1:Nat):Int)/\YB h1.size 5 g (F 11) (Sr key info i)/\YB h1.size 5 g (F 12) (Ma key info i)/\∀b,Yf (F 12)=aa b->¬Yf (F 11)=aa b)
  (fun F _=>m+32-jH (F 11)) rfl ⟨Zj.refl _ _,rfl,rfl,rfl,0,by omega,rfl,YB.nil _ _ _,YB.nil _ _ _,fun b hb=>by cases hb⟩ ?_
 rintro F g ⟨hg,f2,f3,f10,i,hi,f13,oa,ot,ZmE⟩;have Ov:=hg.size;have Bg:=b1.trans (hg.mono s1);obtain⟨pa,ca,f11,hca⟩:=oa.open;have al:=V0 key info i;rw[al]at f11 hca;by_cases ZT:32*i<m
 .have Z7:((32*i:Nat):Int)<(m:Int):=by omega
  have tl:=yS key info i;have i16:i<=16:=by omega
  have eT:Ma key info (i+1)=LD key (Ma key info i++info++[(i+1)%256]):=rfl;have eA:Sr key info (i+1)=Sr key info i++Ma key info (i+1):=rfl;obtain⟨lt,hlT⟩:∃x,x=Ma key info i:=⟨_,rfl⟩
  rw[<-hlT]at ot tl eT;have O1:(i+1)%256<256:=Nat.mod_lt _ (by decide);obtain⟨X,hX⟩:=ZL ((i+1)%256);rw[<-hX]at eT O1;have ex:((i+1:Nat):Int)%256=(X:Int):=by rw[hX];rfl
  clear hX hlT;obtain⟨xi,hxi⟩:∃x:Int,x=((i+1:Nat):Int):=⟨_,rfl⟩
  rw[<-hxi]at ex f13;simp -implicitDefEqProofs only[go_sem,f2,f3,f10,f11,f13,Z7,ex];refine UF (E:=5) (B:=h1.size) Xl aD TA Sn Sm ot Ov (si.Yz Bg) (by omega) ?_;intro w2 g2 o2 b2 bt2 bk2;have s2:=b2.size;have oa2:=oa.mD bt2 (fun b hb e=>ZmE b e hb);have ol2:(lt++info).length<=400:=by rw[aO];omega
  have ZuJ:∀b,Yf w2=aa b->¬Yf (F 11)=aa b:=fun b hb e=>by
   rcases bk2 b hb with q|q
   .exact ZmE b q e
   .have:=oa.Zq.lt b e;omega
  simp -implicitDefEqProofs only[go_sem,f2,f3,f10,f13,ex];refine UF (E:=5) (B:=h1.size) Xl aD TA Sn Sm (o2.push _) (by simp;omega) (Bs.one O1 1) (by simp only[bz];omega) ?_;intro w3 g3 o3 b3 bt3 bk3;have s3:=b3.size;simp only[cC]at s3 bk3;have oa3:=(oa2.push (S [Value.int ae ((X:Nat):Int)].toArray 5)).mD bt3 (fun b hb e=>ZuJ b e hb);have Bg3:Zj h1.size h1 g3:=((hg.trans b2).YX (by omega) _).trans b3;have B3:=b1.trans (Bg3.mono s1);have ok3:=ok.Yz Bg3 (ab _);simp -implicitDefEqProofs only[go_sem,f2,f3,f10,f13];refine (jJ T g3 vk w3 key _ ok3.bs o3.bs (by omega) (by rw[aO];simp only[bz];omega) (tk.Qj B3)).use ?_;rintro w4 g4 ⟨o4,b4⟩;rw[<-eT]at o4;have s4:=b4.size;have oa4:=oa3.Yz b4 (ab _);have Bg4:=Bg3.trans (b4.mono (by omega));rw[f11]at oa4;have tl1:=Pc key info i;simp -implicitDefEqProofs only[go_sem,f2,f3,f10,f11,f13];refine UF (E:=5) (B:=h1.size) Xl aD TA Sn Sm oa4 Bg4.size o4.bs (by rw[al,tl1];omega) ?_;intro w5 g5 o5 b5 bt5 bk5;have s5:=b5.size;obtain⟨p5,c5,rfl,_⟩:=o5.open;have ZhN:∀b,Yf w4=aa b->¬Yf (F 11)=aa b:=fun b hb e=>by
   have q1:=o4.Zq.ZZ b hb;have q2:=oa3.Zq.lt b e;omega
  rw[f11]at ZhN;have o4':=(o4.mono (show h1.size<=g3.size by omega)).mD bt5 (fun b hb e=>ZhN b hb e);simp -implicitDefEqProofs only[go_sem,f2,f3,f10,f13];refine⟨⟨Bg4.trans b5,f2,f3,f10,i+1,by omega,?_,?_,o4',fun b hb e=>?_⟩,?_⟩
  .show Value.int O _=_;rw[hxi];rfl
  .rw[eA];exact o5
  .have e':Yf (Value.slice p5 (Sr key info i++Ma key info (i+1)).length c5)=aa b:=e;rcases bk5 b e' with q|q
   .exact ZhN b hb q
   .have:=o4.Zq.lt b hb;omega
  .simp only[jH,Zr,↓reduceIte,Nat.reduceEqDiff,f11,aO,al,tl1];omega
 .have Xv:¬((32*i:Nat):Int)<(m:Int):=by omega
  have e6:=dt i (by omega) (by omega);rw[e6];have oab:=oa.bs;have oaB:=oa.Zq.ZZ;rw[f11]at oab oaB;rw[<-al]at oab;have vf:(m:Int)<=(ca:Int):=by omega
  have hm0:(0:Int)<=(m:Int):=by omega
  have fin:=Bs.Mq oab (m:=m) (by rw[al];omega) m;simp -implicitDefEqProofs only[go_sem,f2,f3,f11,Xv,vf,hm0,Bg];exact⟨_,rfl,ab _,fin,fun b hb=>Nat.le_trans (by omega) (oaB b (sf hb (by have:=zU hb;omega)))⟩
def ZfM(bf:List Nat)(k c s n v:Int)(a b:Nat):List Nat:=((bf++ZC [k.toNat,c.toNat,s.toNat,n.toNat,v.toNat])++Xq a)++Xq b
def cX(bf:List Nat)(k c s n v:Int)(a b:Nat):List Nat:=T6 (ZfM bf k c s n v a b)
theorem LZ(bf:List Nat)(k c s n v:Int)(a b:Nat):(cX bf k c s n v a b).length=32:=Qv _
theorem ZdP(T:bo)(h:Hp)(u:aN)(bf:List Nat)(su:Bs h u bf)(hbf:(J bf)=32)(k c s n v:Int)(he:YC k c s n v=0)(a b:Nat)(ha:a<=1073741824)(hb:b<=1073741824)(tk:Tk h):
  Zd bc T 22 #[u,ba (Ua k c s n v).toArray,ba [R O a,R O b].toArray] h fun v' h'=>YB h.size 5 h' v' (cX bf k c s n v a b)/\Zj h.size h h':=by
 obtain⟨p,cp,rfl,_⟩:=su.open;refine Zd.XS [_,_,_] Tryz.func22 ?_;obtain⟨za,hza⟩:∃z:Int,z=(a:Int):=⟨_,rfl⟩
 obtain⟨zb,zW⟩:∃z:Int,z=(b:Int):=⟨_,rfl⟩
 rw[<-hza,<-zW];have e0:Ua k c s n v=[R O k,R O c,R O s,R O n,R O v]:=rfl;rw[e0];simp -implicitDefEqProofs only[go_sem];obtain⟨h0,Qe⟩:=ZL ((h.push (S [R O k,R O c,R O s,R O n,R O v].toArray 25)).push (S [R O za,R O zb].toArray 51):Hp);have b0:Zj h.size h h0:=by rw[Qe];exact ((Zj.refl _ _).add _).add _
 have s0:h0.size=h.size+2:=by rw[Qe];simp
 have x0:h0[h.size+1]? = aa (S [R O za,R O zb].toArray 51):=by
  rw[Qe,a6,if_pos (by simp)]
 rw[<-Qe];clear Qe;have en:=KL T h0 k c s n v;rw[e0]at en;refine en.use ?_;rintro _ h1 ⟨⟨w1,rfl,q1⟩,b1⟩;rw[he,if_pos rfl]at q1;rw[he];have B1:=b0.trans (b1.mono b0.size);simp -implicitDefEqProofs only[go_sem];refine (On T h1 _ bf (su.Yz B1) (by omega)).use ?_;rintro w2 h2 ⟨o2,b2⟩;have B2:=B1.trans (b2.mono B1.size);have z1:=b1.size;have z2:=b2.size;have lc:(ZC [k.toNat,c.toNat,s.toNat,n.toNat,v.toNat]).length=20:=by rw[ZN];rfl
 simp -implicitDefEqProofs only[go_sem];refine ZK (E:=5) (B:=h1.size) Xl aD TA Sn Sm o2 z2 (q1.Yz b2) (by omega) ?_;intro w3 h3 o3 b3 _;have B3:=B2.trans (b3.mono (by omega));have z3:=B3.size;have x3:h3[h.size+1]? = aa (S [R O za,R O zb].toArray 51):=b3.get (by omega) (b2.get (by omega) (b1.get (by omega) x0));have c0:V.hc h3 ⟨h.size+1,0,aw⟩=aa (R O za):=by rw[Zn x3];rfl
 have c1:V.hc h3 ⟨h.size+1,1,aw⟩=aa (R O zb):=by rw[Zn x3];rfl
 have nC:(bf++ZC [k.toNat,c.toNat,s.toNat,n.toNat,v.toNat]).length=52:=by rw[aO];omega
 unfold cX ZfM;generalize bf++ZC [k.toNat,c.toNat,s.toNat,n.toNat,v.toNat]=M at *;have o3':YB h.size 5 h3 w3 M:=o3.mono (by omega);clear o3 q1 o2 en;obtain⟨a0,ha0⟩:∃y:Int,y=((a/16777216%256:Nat):Int):=⟨_,rfl⟩
 obtain⟨a1,ha1⟩:∃y:Int,y=((a/65536%256:Nat):Int):=⟨_,rfl⟩
 obtain⟨a2,ha2⟩:∃y:Int,y=((a/256%256:Nat):Int):=⟨_,rfl⟩
 obtain⟨a3,ha3⟩:∃y:Int,y=((a%256:Nat):Int):=⟨_,rfl⟩
 have e1:Unit->XF O za 24%256=a0:=fun _=>by rw[hza,ha0,show (24:Int)=((24:Nat):Int) from rfl,Uq a 24 (by decide)];rfl
 have e2:Unit->XF O za 16%256=a1:=fun _=>by rw[hza,ha1,show (16:Int)=((16:Nat):Int) from rfl,Uq a 16 (by decide)];rfl
 have e3:Unit->XF O za 8%256=a2:=fun _=>by rw[hza,ha2,show (8:Int)=((8:Nat):Int) from rfl,Uq a 8 (by decide)];rfl
 have e4:Unit->za%256=a3:=fun _=>by rw[hza,ha3];rfl
 obtain⟨b0',vq⟩:∃y:Int,y=((b/16777216%256:Nat):Int):=⟨_,rfl⟩
 obtain⟨b1',GO⟩:∃y:Int,y=((b/65536%256:Nat):Int):=⟨_,rfl⟩
 obtain⟨vr,Ga⟩:∃y:Int,y=((b/256%256:Nat):Int):=⟨_,rfl⟩
 obtain⟨b3',hb3⟩:∃y:Int,y=((b%256:Nat):Int):=⟨_,rfl⟩
 have f1:Unit->XF O zb 24%256=b0':=fun _=>by rw[zW,vq,show (24:Int)=((24:Nat):Int) from rfl,Uq b 24 (by decide)];rfl
 have f2:Unit->XF O zb 16%256=b1':=fun _=>by rw[zW,GO,show (16:Int)=((16:Nat):Int) from rfl,Uq b 16 (by decide)];rfl
 have f3:Unit->XF O zb 8%256=vr:=fun _=>by rw[zW,Ga,show (8:Int)=((8:Nat):Int) from rfl,Uq b 8 (by decide)];rfl
 have f4:Unit->zb%256=b3':=fun _=>by rw[zW,hb3];rfl
 have ea:([Value.int ae a0,R ae a1,R ae a2,R ae a3]:List aN)=(Xq a).map bv:=by rw[ha0,ha1,ha2,ha3];rfl
 have eb:([Value.int ae b0',R ae b1',R ae vr,R ae b3']:List aN)=(Xq b).map bv:=by rw[vq,GO,Ga,hb3];rfl
 clear hza zW ha0 ha1 ha2 ha3 vq GO Ga hb3;simp -implicitDefEqProofs only[go_sem,c0,c1];refine VS.rounds 3 rfl ?_;simp -implicitDefEqProofs only[go_sem,e1 (),e2 (),e3 (),e4 ()];rw[ea];have hla:(Xq a).length=4:=rfl;have hlb:(Xq b).length=4:=rfl;refine ZK (E:=5) (B:=h.size) Xl aD TA Sn Sm (o3'.push _) (by simp;omega) (Bs.made (l:=Xq a) (US a) 4) (by omega) ?_;intro w4 h4 o4 b4 _;have B4:=(B3.YX B3.size _).trans b4;simp -implicitDefEqProofs only[go_sem,f1 (),f2 (),f3 (),f4 ()];rw[eb];refine ZK (E:=5) (B:=h.size) Xl aD TA Sn Sm (o4.push _) (by have:=B4.size;simp;omega) (Bs.made (l:=Xq b) (US b) 4) (by rw[aO];omega) ?_;intro w5 h5 o5 b5 _;have B5:=(B4.YX B4.size _).trans b5;simp -implicitDefEqProofs only[go_sem];have l5:(M++Xq a++Xq b).length=60:=by rw[aO,aO];omega
 refine (KV T h5 w5 _ o5.bs (tk.Qj B5)).use ?_;rintro _ h6 ⟨⟨w6,rfl,o6⟩,b6⟩;have es:Pj (M++Xq a++Xq b).length=0:=by unfold Pj;rw[if_neg (by omega)]
 rw[es,if_pos rfl]at o6;rw[es];simp -implicitDefEqProofs only[go_sem];exact⟨o6.mono B5.size,B5.trans (b6.mono B5.size)⟩
structure JZ where
 k:Int
 c:Int
 s:Int
 n:Int
 v:Int
def jM(x:JZ):List aN:=[R O x.k,R O x.c,R O x.s,R O x.n,R O x.v]
structure gg where
 x:JZ
 a:Int
 b:Int
 sum:List Nat
structure AU where
 cs:List aN
 sum:List Nat
 out:List gg
def YT(cs:List aN)(x:JZ):ZlS:=Qb cs x.k.toNat x.c.toNat x.s.toNat x.n.toNat x.v.toNat
def UU(cs:List aN)(x:JZ):Int:=OF cs x.k x.c x.s x.n x.v
def BZ(cs:List aN)(sum:List Nat)(x:JZ):List Nat:=cX sum x.k x.c x.s x.n x.v (YT cs x).code.toNat (YT cs x).val.toNat
def OH(st:AU)(x:JZ):AU:=⟨(YT st.cs x).cells,BZ st.cs st.sum x,st.out++[⟨x,(YT st.cs x).code,(YT st.cs x).val,BZ st.cs st.sum x⟩]⟩
def KX:AU:=⟨Yj,bk 32 0,[]⟩
def T9:AU->List JZ->Int × AU
 | st,[]=>(0,st)
 | st,x :: l=>if UU st.cs x=0 then T9 (OH st x) l else (UU st.cs x,st)
theorem zX(st:AU):T9 st []=(0,st):=rfl
theorem Np{st:AU}{x:JZ}{l:List JZ}(h:UU st.cs x=0):T9 st (x :: l)=T9 (OH st x) l:=by rw[T9,if_pos h]
theorem KY{st:AU}{x:JZ}{l:List JZ}(h:¬UU st.cs x=0):T9 st (x :: l)=(UU st.cs x,st):=by rw[T9,if_neg h]
theorem zY:∀(l:List JZ) (st:AU),(T9 st l).1=0->(T9 st l).2.out.length=(J st.out)+(J l):=by
 intro l
 induction l with
 | nil=>intro st _;rfl
 | cons y l ih=>
  intro st h;by_cases q:UU st.cs y=0
  .rw[Np q]at h ⊢;rw[ih _ h];simp[OH];omega
  .rw[KY q]at h;exact absurd h q
def zZ(cs:List aN):Prop:=∀i,i<8->(0<=ci cs (16+i*2)/\ci cs (16+i*2)<=1073741824)/\(0<=ci cs (16+i*2+1)/\ci cs (16+i*2+1)<=1073741824)
theorem Ud{cs:List aN}{i:Nat}(h:i<(J cs))(k:IntKind)(x:Int):ci (cs.set i (.int k x)) i=x:=by
 unfold ci;rw[YU,List.getElem?_set_self h]
theorem OI(cs:List aN)(k c n v:Nat):(Ur cs k c n v).1.length=(J cs):=by
 unfold Ur;split
 .simp
 .split
  .rfl
  .simp
theorem Aa(cs:List aN)(k c n v:Nat)(hn:n<=7)(j:Nat)(h1:8<=j)(h2:j<32):ci (Ur cs k c n v).1 j=ci cs j:=by
 unfold Ur;split
 .exact Ql pA
 .split
  .rfl
  .exact Ql pA
theorem sj{cs:List aN}(h:Xm cs=false)(i:Nat)(hi:i<8):0<=ci cs i/\ci cs i<=1073741824:=by
 unfold Xm at h;rw[List.any_eq_false]at h;have:=h i (List.mem_range.2 hi);simp only[Bool.or_eq_true,not_or]at this;have h1:=this.1;simp only[Mx,decide_eq_true_eq]at h1;omega
theorem KZ{cs:List aN}{x:JZ}(h:UU cs x=0):Xm cs=false/\YC x.k x.c x.s x.n x.v=0:=by
 unfold UU OF at h;split at h
 .cases h
 .rename_i q;exact⟨by simpa using q,h⟩
theorem sq{cs:List aN}(hl:(J cs)=40)(hb:Xm cs=false)(ho:zZ cs)(k c s n v:Nat)(hn:n<=7)(hc:c<=7)(hv:v<=1073741824):
  zZ (Qb cs k c s n v).cells/\(0<=(Qb cs k c s n v).code/\(Qb cs k c s n v).code<=1073741824)/\(0<=(Qb cs k c s n v).val/\(Qb cs k c s n v).val<=1073741824):=by
 unfold Qb;split
 .exact⟨ho,⟨(by decide:(0:Int)<=0),(by decide:(0:Int)<=1073741824)⟩,⟨(by decide:(0:Int)<=0),(by decide:(0:Int)<=1073741824)⟩⟩
 split
 .have:=ho c pA;exact⟨ho,this.1,this.2⟩
 split
 .exact⟨ho,⟨(by decide:(0:Int)<=7),(by decide:(7:Int)<=1073741824)⟩,⟨(by decide:(0:Int)<=0),(by decide:(0:Int)<=1073741824)⟩⟩
 split
 .exact⟨ho,⟨(by decide:(0:Int)<=11),(by decide:(11:Int)<=1073741824)⟩,⟨(by decide:(0:Int)<=0),(by decide:(0:Int)<=1073741824)⟩⟩
 have hA:(0<=(Ur cs k c n v).2/\(Ur cs k c n v).2<=1073741824):=by
  unfold Ur;split
  .exact⟨by simp only;omega,by simp only;omega⟩
  .split
   .exact sj hb n pA
   .exact⟨(by decide:(0:Int)<=0),(by decide:(0:Int)<=1073741824)⟩
 refine⟨?_,⟨(by decide:(0:Int)<=0),(by decide:(0:Int)<=1073741824)⟩,hA⟩;intro i hi;have hlen:=OI cs k c n v;have h1:=Aa cs k c n v hn (16+i*2) pA pA;have h2:=Aa cs k c n v hn (16+i*2+1) pA pA;simp only;by_cases e:i=c
 .subst e;rw[Ql pA,Ud (by simp only[cR];omega),Ud (by simp only[cR];omega)];exact⟨aaa,hA⟩
 .rw[Ql pA,Ql pA,Ql pA,Ql pA,Ql pA,Ql pA,h1,h2];exact ho i hi
theorem cY:∀{ks:List (Option IntKind)} {vs:List aN} (i:Nat) {k:Option IntKind},Xe ks vs=true->ks[i]? = aa k->∃v,nth vs i=aa v/\WK k v=true:=by
 intro ks
 induction ks with
 | nil=>intro vs i k _ h;simp at h
 | cons a ks ih=>
  intro vs i k hf hk
  cases vs with
  | nil=>simp[Xe]at hf
  | cons x vs=>
   simp only[Xe,Bool.and_eq_true]at hf
   cases i with
   | zero=>simp only[List.getElem?_cons_zero,Option.some.injEq]at hk;subst hk;exact⟨x,rfl,hf.1⟩
   | succ i=>exact ih i hf.2 (by simpa using hk)
theorem ME{cs:List aN}(hf:Xe JR cs=true):∀i,i<32->nth cs i=aa (R O (ci cs i)):=by
 intro i hi;have:∀i<32,JR[i]? = aa (aa O):=aaa;obtain⟨v,h1,h2⟩:=cY i hf (this i hi);unfold ci;rw[h1]
 cases v<;>simp[WK]at h2
 rw[h2]
theorem I8{cs:List aN}(hf:Xe JR cs=true):∀i,32<=i->i<40->nth cs i=aa (.bool (cb cs i)):=by
 intro i h1 h2;have:∀j<8,JR[32+j]? = aa aw:=aaa;have e:=this (i-32) pA;rw[show 32+(i-32)=i by omega]at e;obtain⟨v,h1,h2⟩:=cY i hf e;unfold cb;rw[h1]
 cases v<;>simp[WK]at h2
 rfl
structure I9(st:AU):Prop where
 fit:Xe JR st.cs=true
 ans:zZ st.cs
 sum:(J st.sum)=32
theorem L0:I9 KX:=by
 refine⟨rfl,?_,rfl⟩;have:∀i<8,ci Yj (16+i*2)=0/\ci Yj (16+i*2+1)=0:=aaa;intro i hi;obtain⟨h1,h2⟩:=this i hi;show (0<=ci Yj (16+i*2)/\ci Yj (16+i*2)<=1073741824)/\(0<=ci Yj (16+i*2+1)/\ci Yj (16+i*2+1)<=1073741824)
 rw[h1,h2];decide
theorem L1{st:AU}(ok:I9 st){x:JZ}(h:UU st.cs x=0):I9 (OH st x)/\∃a b:Nat,(YT st.cs x).code=a/\(YT st.cs x).val=b/\a<=1073741824/\b<=1073741824:=by
 obtain⟨h1,h2⟩:=KZ h;obtain⟨k,c,s,n,v,e1,e2,e3,e4,e5,y1,y2,y3,y4,y5⟩:=YY h2;have hl:(J st.cs)=40:=Ys ok.fit;have hd:YT st.cs x=Qb st.cs k c s n v:=by unfold YT;rw[e1,e2,e3,e4,e5];rfl
 obtain⟨g1,g2,g3⟩:=sq hl h1 ok.ans k c s n v y4 y2 y5;have gf:=D4 ok.fit k c s n v y4 y2;rw[<-hd]at g1 g2 g3 gf;refine⟨⟨gf,g1,LZ _ _ _ _ _ _ _ _⟩,(YT st.cs x).code.toNat,(YT st.cs x).val.toNat,?_,?_,?_,?_⟩<;>omega
def VF(l:List JZ):Int:=(T9 KX l).1
def JJ(l:List JZ):List aN:=if VF l=0 then (T9 KX l).2.cs else Yj
def MF(l:List JZ):List gg:=if VF l=0 then (T9 KX l).2.out else []
def Zaa(st:AU)(e:gg):Prop:=¬UU st.cs e.x=0\/¬((YT st.cs e.x).code=e.a/\(YT st.cs e.x).val=e.b)\/¬BZ st.cs st.sum e.x=e.sum
instance (st:AU)(e:gg):Decidable (Zaa st e):=by unfold Zaa;infer_instance
structure Ab where
 x:JZ
 a:Int
 b:Int
 p:Option Addr
 m:Nat
 cp:Nat
def Zab(e:Ab):List aN:=[R O e.x.k,R O e.x.c,R O e.x.s,R O e.x.n,R O e.x.v,R O e.a,R O e.b,Y e.p e.m e.cp]
theorem Zac(e:Ab):(Zab e).all YE=true:=rfl
def ZfN(Q:aN->List Nat->Prop)(e:Ab)(t:gg):Prop:=e.x=t.x/\e.a=t.a/\e.b=t.b/\Q (Y e.p e.m e.cp) t.sum
def HS(Q:aN->List Nat->Prop):List Ab->List gg->Prop
 | [],[]=>True
 | e :: l,t :: k=>ZfN Q e t/\HS Q l k
 | _,_=>False
variable {Q Q':aN->List Nat->Prop}
theorem HS.mono(H:∀w s,Q w s->Q' w s):∀{l:List Ab} {k:List gg},HS Q l k->HS Q' l k:=by
 intro l
 induction l with
 | nil=>intro k h;cases k with
  | nil=>trivial
  | cons=>exact h.elim
 | cons e l ih=>intro k h;cases k with
  | nil=>exact h.elim
  | cons t k=>exact⟨⟨h.1.1,h.1.2.1,h.1.2.2.1,H _ _ h.1.2.2.2⟩,ih h.2⟩
theorem HS.length:∀{l:List Ab} {k:List gg},HS Q l k->(J l)=(J k):=by
 intro l
 induction l with
 | nil=>intro k h;cases k with
  | nil=>rfl
  | cons=>exact h.elim
 | cons e l ih=>intro k h;cases k with
  | nil=>exact h.elim
  | cons t k=>simp[ih h.2]
theorem HS.snoc{e:Ab}{t:gg}(h2:ZfN Q e t):∀{l:List Ab} {k:List gg},HS Q l k->HS Q (l++[e]) (k++[t]):=by
 intro l
 induction l with
 | nil=>intro k h;cases k with
  | nil=>exact⟨h2,trivial⟩
  | cons=>exact h.elim
 | cons e l ih=>intro k h;cases k with
  | nil=>exact h.elim
  | cons t k=>exact⟨h.1,ih h.2⟩
structure UK(B:Nat)(h:Hp)(v:aN)(l:List gg):Prop where
 ex:∃es,QF B 76 Zab 8 h v es/\HS (fun w s=>YB B 5 h w s) es l
theorem UK.Yz{B C:Nat}{h h':Hp}{v:aN}{l:List gg}(s:UK B h v l)(a:Zj C h h')(hC:h.size<=C):UK B h' v l:=by
 obtain⟨es,s1,s2⟩:=s.ex;exact⟨es,s1.Yz a hC,s2.mono (fun w t q=>q.Yz a hC)⟩
theorem UK.mono{B B':Nat}{h:Hp}{v:aN}{l:List gg}(s:UK B h v l)(hB:B'<=B):UK B' h v l:=by
 obtain⟨es,s1,s2⟩:=s.ex;exact⟨es,s1.mono hB,s2.mono (fun w t q=>q.mono hB)⟩
theorem UK.Ya{B b:Nat}{h:Hp}{v:aN}{l:List gg}(s:UK B h v l)(hb:b<B)(o:Obj):UK B (h.setIfInBounds b o) v l:=by
 obtain⟨es,s1,s2⟩:=s.ex;exact⟨es,s1.Ya hb o,s2.mono (fun w t q=>q.Ya hb o)⟩
theorem UK.nil(B:Nat)(h:Hp):UK B h (Y aw 0 0) []:=⟨[],QF.nil _ _ _ _ _,trivial⟩
theorem UK.open{B:Nat}{h:Hp}{v:aN}{l:List gg}(s:UK B h v l):∃p c,v=.slice p l.length c:=by
 obtain⟨es,s1,s2⟩:=s.ex;obtain⟨p,c,hv,_⟩:=s1.open;exact⟨p,c,by rw[hv,s2.length]⟩
end Go.Proofs.YthlfaofofaphfaaGreatDoor
namespace Go.Proofs.YthlfaofofaphfaaGreatDoor
open Go Go.V
set_option linter.unusedSimpArgs false
set_option linter.unusedVariables false
set_option maxRecDepth 100000
theorem sr{h:Hp}{v:aN}{l:List JZ}(s:Ts jM 5 h v l):∃p cap,v=Y p (J l) cap/\(l≠[]->∃b o,p=aa ⟨b,o,aw⟩/\b<h.size/\∀i (hi:i<(J l)),rd h ⟨b,o+i*5,aw⟩ 5=aa [R O l[i].k,R O l[i].c,R O l[i].s,R O l[i].n,R O l[i].v]):=by
 obtain⟨p,cap,hv,WB⟩:=Ts.open (enc:=jM) (n:=5) (fun _=>rfl) aaa s;refine⟨p,cap,hv,fun Y7=>?_⟩;obtain⟨b,o,hp,hb,XL⟩:=WB Y7;exact⟨b,o,hp,hb,fun i hi=>(XL i hi).rd (by simp[jM]) rfl⟩
theorem nE{cs:List aN}(hf:Xe JR cs=true)(x:JZ):∃(D:List aN) (a b:Int),doL cs x.k x.c x.s x.n x.v=[ba D.toArray,ba [R O a,R O b].toArray,R O (UU cs x)]/\Xe JR D=true/\(UU cs x=0->D=(YT cs x).cells/\a=(YT cs x).code/\b=(YT cs x).val):=by
 unfold doL UU YT;by_cases e:OF cs x.k x.c x.s x.n x.v=0
 .rw[if_pos e];refine⟨_,_,_,by rw[e],?_,fun _=>⟨rfl,rfl,rfl⟩⟩;have e2:YC x.k x.c x.s x.n x.v=0:=(KZ (cs:=cs) (x:=x) e).2;obtain⟨k,c,s,n,v,e1,e2,e3,e4,e5,y1,y2,y3,y4,y5⟩:=YY e2;rw[e1,e2,e3,e4,e5];exact D4 hf _ _ _ _ _ (by simpa using y4) (by simpa using y2)
 .rw[if_neg e];exact⟨_,_,_,rfl,rfl,fun h=>absurd h e⟩
theorem Ia{B B' n n' m m':Nat}{E E':TypeId}{h:Hp}{v u:aN}{cs ds:List aN}(hE:E≠E')(s:UO B E n h v m cs)(t:UO B' E' n' h u m' ds):∀b,Yf v=aa b->Yf u≠aa b:=by
 intro b hb hc;rcases s with⟨⟨p,rfl⟩,_,_⟩|⟨b1,cap,sp,_,rfl,hx,_⟩
 .cases p<;>simp[Yf]at hb
 rcases t with⟨⟨p,rfl⟩,_,_⟩|⟨b2,ZuQ,sp2,_,rfl,hy,_⟩
 .cases p<;>simp[Yf]at hc
 simp only[Yf]at hb hc;split at hb
 .cases hb
 split at hc
 .cases hc
 obtain rfl:=Option.some.inj hb;obtain rfl:=Option.some.inj hc;rw[hx]at hy;simp only[Option.some.injEq,Obj.cells.injEq]at hy;exact hE hy.2.1
theorem UK.app{B:Nat}{h h':Hp}{v:aN}{es:List Ab}{l:List gg}(s1:QF B 76 Zab 8 h v es)(s2:HS (fun w s=>YB B 5 h w s) es l)(a:RT (Yf v) h h'):HS (fun w s=>YB B 5 h' w s) es l:=
 s2.mono (fun w t q=>q.mD a (fun b hb=>Ia aaa q.Zq s1.Zq b hb))
theorem FG(T:bo)(h:Hp)(u:aN)(l:List JZ)(s:Ts jM 5 h u l)(tk:Tk h):
  Zd bc T 11 #[u] h fun v' h'=>(∃w E D,v'=.tuple [w,.agg D.toArray,.int .i64 E].toArray/\(E,D)=(if 200<l.length then (1,Yj) else (VF l,JJ l))/\UK h.size h' w (if 200<l.length then [] else MF l))/\Zj h.size h h':=by
 obtain⟨p,cp,rfl,WB⟩:=sr s;have hZ:Yj.length=40:=rfl;have hZo:Yj.all YE=true:=rfl;refine Zd.Lt [_] Tryz.func11 ?_;by_cases big:200<l.length
 .have ZhP:(200:Int)<l.length:=pA;simp -implicitDefEqProofs only[go_sem,ZhP,big];exact⟨_,_,_,rfl,rfl,UK.nil _ _⟩
 have ZhP:¬(200:Int)<l.length:=pA;simp -implicitDefEqProofs only[go_sem,ZhP,big];have z32:YB (h.size+2) 5 (((h.push (.cells Yj.toArray 55)).push (.cells Yj.toArray 55)).push (.cells ((bk 32 0).map bv).toArray 5)) (.slice (aa ⟨h.size+1+1,0,aw⟩) 32 32) (bk 32 0):=by
  have:=YB.made (B:=h.size+2) (E:=5) (h:=(h.push (.cells Yj.toArray 55)).push (.cells Yj.toArray 55)) (l:=bk 32 0) aaa IQ;simp only[cC,List.length_replicate]at this;exact this
 refine VS.Yk (fun F g=>Zj h.size h g/\F 0=.slice p l.length cp/\F 3=.pointer (aa ⟨h.size,0,aw⟩)/\F 5=.pointer (aa ⟨h.size+1,0,aw⟩)/\F 18=.slice p l.length cp/\F 19=.int .i64 l.length/\g[h.size]? = aa (.cells Yj.toArray 55)/\∃(i:Nat) (st:AU),i<=l.length/\F 20=.int .i64 i/\T9 KX l=T9 st (l.drop i)/\I9 st/\st.out.length=i/\g[h.size+1]? = aa (.cells st.cs.toArray 55)/\UK (h.size+2) g (F 6) st.out/\YB (h.size+2) 5 g (F 7) st.sum)
  (fun F _=>l.length-(vi (F 20)).toNat) rfl ⟨?_,rfl,rfl,rfl,rfl,rfl,?_,0,KX,pA,rfl,rfl,L0,rfl,?_,UK.nil _ _,z32⟩ ?_
 ·(repeat' (first|exact Zj.refl _ _|assumption|refine Zj.add ?_ _|refine Zj.Zt ?_ aab _|refine Zj.trans aac ?_))
 .rw[a6,if_neg VL,a6,if_neg IQ,Zc];rfl
 .rw[a6,if_neg IQ,a6,if_pos IQ];rfl
 clear z32;rintro F g ⟨hg,f0,f3,f5,f18,f19,x0,i,st,hi,f20,hr,ok,ho,x1,oe,os⟩;have gs:=hg.size;have g1:=Za x1;by_cases ZT:i<l.length
 .have Z7:(i:Int)<l.length:=pA;obtain⟨bb,oo,rfl,TC,XL⟩:=WB (by intro e;rw[e]at ZT;simp at ZT);have r1:=XL i ZT;obtain⟨x,hx⟩:=ZL (l[i]);rw[<-hx,<-Q3 hg (by exact TC)]at r1;have hdr:l.drop i=x :: l.drop (i+1):=by rw[hx];exact List.drop_eq_getElem_cons ZT
  rw[hdr]at hr;have J9:st.cs.length=40:=Ys ok.fit;have tkc:=Xt J9;have rs:=Zy x1 J9;have cO:¬h.size+1=g.size:=pA;simp -implicitDefEqProofs only[go_sem,f0,f3,f5,f18,f19,f20,Z7,r1,rs,cO,J9,tkc];refine (Ft T _ st.cs x.k x.c x.s x.n x.v ok.fit (ME ok.fit) (I8 ok.fit)).use ?_;rintro _ h1 ⟨hd,b1⟩;obtain⟨D,a,b,hL,fD,hz⟩:=nE ok.fit x;unfold zp at hd;rw[hL]at hd;subst hd;have z1:g.size+1<=h1.size:=by have:=b1.size;simp at this;omega
  have B1:Zj g.size g h1:=(Zj.push (ab _) _).trans (b1.mono IQ);have y9:h1[g.size]? = aa (.cells [.int .i64 x.k,.int .i64 x.c,.int .i64 x.s,.int .i64 x.n,.int .i64 x.v].toArray 25):=b1.get IQ Zc;have cZ:D.length=40:=Ys fD;have ng:=Tv fD;have BN:=Xt cZ;simp -implicitDefEqProofs only[go_sem,cZ,ng,ZW,BN];obtain⟨h2,Vq⟩:=ZL ((h1.push (.cells D.toArray 55)).push (.cells [.int .i64 a,.int .i64 b].toArray 51):Hp);have b2:Zj h1.size h1 h2:=by rw[Vq];exact ((Zj.refl _ _).add _).add _
  have z2:h2.size=h1.size+2:=by rw[Vq];simp
  have y10:h2[h1.size]? = aa (.cells D.toArray 55):=by rw[Vq,a6,if_neg IQ,Zc]
  have y11:h2[h1.size+1]? = aa (.cells [.int .i64 a,.int .i64 b].toArray 51):=by rw[Vq,a6,if_pos IQ]
  rw[<-Vq];clear Vq;have B2:Zj g.size g h2:=B1.trans (b2.mono pA);have Bh2:=hg.trans (B2.mono gs);have x02:=B2.get pA x0;have x12:=B2.get pA x1;have y92:=b2.get pA y9;by_cases e:UU st.cs x=0
  case neg=>
   have hE:T9 KX l=(UU st.cs x,st):=by rw[hr,KY e]
   have eE:VF l=UU st.cs x:=by unfold VF;rw[hE]
   have eS:JJ l=Yj:=by unfold JJ;rw[eE,if_neg e]
   have eO:MF l=[]:=by unfold MF;rw[eE,if_neg e]
   have w0:=Ye x02 0 Yj;rw[if_pos ⟨IQ,rfl⟩,ZW rfl]at w0;have w0':wr h2 ⟨h.size,0,aw⟩ [.int .i64 0,.int .i64 0,.int .i64 0,.int .i64 0,.int .i64 0,.int .i64 0,.int .i64 0,.int .i64 0,.int .i64 0,.int .i64 0,.int .i64 0,.int .i64 0,.int .i64 0,.int .i64 0,.int .i64 0,.int .i64 0,.int .i64 0,.int .i64 0,.int .i64 0,.int .i64 0,.int .i64 0,.int .i64 0,.int .i64 0,.int .i64 0,.int .i64 0,.int .i64 0,.int .i64 0,.int .i64 0,.int .i64 0,.int .i64 0,.int .i64 0,.int .i64 0,.bool false,.bool false,.bool false,.bool false,.bool false,.bool false,.bool false,.bool false]=aa (h2.setIfInBounds h.size (.cells Yj.toArray 55)):=w0;have HG:h.size<h2.size:=pA;rw[eE,eS,eO];simp -implicitDefEqProofs only[go_sem,f3,e,w0',HG,hZ,hZo];exact⟨⟨_,_,_,rfl,rfl,UK.nil _ _⟩,Bh2.Zt (ab _) _⟩
  have r10:=Zy y10 cZ;have w1:=Ye x12 0 D;rw[if_pos ⟨pA,ng⟩,ZW pA]at w1;obtain⟨h3,FH⟩:=ZL (h2.setIfInBounds (h.size+1) (.cells D.toArray 55):Hp);rw[<-FH]at w1;have z3:h3.size=h2.size:=by rw[FH];simp
  have x13:h3[h.size+1]? = aa (.cells D.toArray 55):=by rw[FH,a9,if_pos rfl,if_pos pA]
  have n3:∀k,k≠h.size+1->h3[k]? = h2[k]?:=fun k hk=>by rw[FH,a9,if_neg pA]
  have x03:h3[h.size]? = aa (.cells Yj.toArray 55):=by rw[n3 _ pA];exact x02
  have y93:=(n3 g.size pA).trans y92;have ZmF:=(n3 (h1.size+1) pA).trans y11;have fZ:Zj h.size h h3:=by rw[FH];exact Bh2.Zt pA _
  have os3:YB (h.size+2) 5 h3 (F 7) st.sum:=by rw[FH];exact (os.Yz B2 (ab _)).Ya pA _
  have oe3:UK (h.size+2) h3 (F 6) st.out:=by rw[FH];exact (oe.Yz B2 (ab _)).Ya pA _
  clear FH;obtain⟨p7,c7,hf7,_⟩:=os3.open;have r9:=Zy y93 (n:=5) rfl;have r11:=Zy ZmF (n:=2) rfl;obtain⟨ok',a',b',ea,eb,la,lb⟩:=L1 ok e;obtain⟨hD,ha,hb⟩:=hz e;rw[ea]at ha;rw[eb]at hb;have ag:BZ st.cs st.sum x=cX st.sum x.k x.c x.s x.n x.v a' b':=by unfold BZ;rw[ea,eb];rfl
  subst ha hb;rw[hf7]at os3;simp -implicitDefEqProofs only[go_sem,f5,hf7,e,r10,w1,r9,r11];refine (ZdP T h3 _ st.sum os3.bs ok.sum x.k x.c x.s x.n x.v (KZ e).2 a' b' la lb (tk.Qj fZ)).use ?_;rintro w4 h4 ⟨o4,b4⟩;have z4:=b4.size;have Bh4:=fZ.trans (b4.mono fZ.size);have x04:=b4.get pA x03;have x14:=b4.get pA x13;have y94:=b4.get pA y93;have ZuT:=b4.get pA ZmF;have r94:=Zy y94 (n:=5) rfl;have ZuU:=Zy ZuT (n:=2) rfl;have oe4:=oe3.Yz b4 (ab _);obtain⟨p6,c6,hf6⟩:=oe3.open;rw[hf6]at oe4;rw[<-ag]at o4;have ls:(BZ st.cs st.sum x).length=32:=by rw[ag];exact LZ _ _ _ _ _ _ _ _
  obtain⟨pw4,cw4,rfl,_⟩:=o4.open;have k1:g.size<h4.size:=pA;have k2:h1.size+1<h4.size:=pA;refine VS.w (h4.size) [7,8] (.q 0 (.q 1 (.q 2 (.q 3 (.s 4 (.q 5 (.s 6 (.w 7 (.w 8 .nil))))))))) mixed vM ?_;simp -implicitDefEqProofs only[go_sem,hf6,r94,ZuU,k1,k2];refine (On T h4 _ _ o4.bs pA).use ?_;rintro w5 h5 ⟨o5,b5⟩;obtain⟨p5,c5,rfl,_⟩:=o5.open;have z5:=b5.size;have oe5:=oe4.Yz b5 (ab _);obtain⟨es,s1,s2⟩:=oe5.ex;have les:=s2.length;have X3:=Ts.one (E:=76) (h:=h5) (enc:=Zab) (n:=8) ⟨x,a',b',p5,(BZ st.cs st.sum x).length,c5⟩ (fun _=>rfl) 1;unfold Zab at X3;have k3:g.size<h5.size:=pA;simp -implicitDefEqProofs only[go_sem,b5];refine Rj (E:=76) (B:=h.size+2) (n:=8) (bytes:=80) Zlf Tryz.underlying48 ZsI ZsK rfl ZsJ Zac (s1.push _) VL X3 aai pA ?_;intro w6 h6 o6 _ b6;have s2':=UK.app (s1.push _) (s2.mono (fun w t q=>q.push _)) b6;have b56:Zj (h.size+2) h5 h6:=(Zj.push pA _).trans (b6.Yz VL s1.Zq.ZZ);have AT:Zj h.size h h6:=(Bh4.trans (b5.mono Bh4.size)).trans (b56.mono pA);have z6:=b56.size;have x06:=b56.get pA (b5.get pA x04);have x16:=b56.get pA (b5.get pA x14);have q5:=((o5.mono (B':=h.size+2) pA).push (.cells [.int .i64 x.k,.int .i64 x.c,.int .i64 x.s,.int .i64 x.n,.int .i64 x.v,.int .i64 (a':Nat),.int .i64 (b':Nat),.slice p5 (BZ st.cs st.sum x).length c5].toArray 76)).mD b6 (fun b hb=>Ia aaa o5.Zq s1.Zq b hb);have q4:=(((o4.mono (B':=h.size+2) pA).Yz b5 (ab _)).push (.cells [.int .i64 x.k,.int .i64 x.c,.int .i64 x.s,.int .i64 x.n,.int .i64 x.v,.int .i64 (a':Nat),.int .i64 (b':Nat),.slice p5 (BZ st.cs st.sum x).length c5].toArray 76)).mD b6 (fun b hb=>Ia aaa (o4.Yz b5 (ab _)).Zq s1.Zq b hb);simp -implicitDefEqProofs only[go_sem,f20];refine⟨⟨AT,f0,f3,f5,f18,f19,x06,i+1,OH st x,ZT,rfl,?_,ok',?_,?_,?_,q4⟩,?_⟩
  .rw[hr,Np e]
  .simp only[OH,aO,bz];omega
  .rw[show (OH st x).cs=D from hD.symm];exact x16
  .exact⟨_,o6,s2'.snoc ⟨rfl,ea.symm,eb.symm,q5⟩⟩
  .simp only[vi,Zr,↓reduceIte,f20];omega
 .have Xv:¬(i:Int)<l.length:=pA;obtain rfl:i=l.length:=pA;rw[List.drop_length,zX]at hr;have eE:VF l=0:=by unfold VF;rw[hr]
  have eS:JJ l=st.cs:=by unfold JJ;rw[eE,if_pos rfl,hr]
  have eO:MF l=st.out:=by unfold MF;rw[eE,if_pos rfl,hr]
  have J9:st.cs.length=40:=Ys ok.fit;have X3:=Tv ok.fit;have r1:=Zy x1 J9;have w0:=Ye x0 0 st.cs;rw[if_pos ⟨pA,X3⟩,ZW pA]at w0;have hl0:h.size<g.size:=pA;obtain⟨p6,c6,hf6⟩:=oe.open;rw[eE,eS,eO];simp -implicitDefEqProofs only[go_sem,f18,f19,f20,Xv];refine VS.w (h.size) [] (.q 0 (.q 2 (.s 1 (.s 3 (.q 4 .nil))))) mixed vM ?_;simp -implicitDefEqProofs only[go_sem,f3,f5,hf6,r1,w0,hl0,g1];have oe':=oe;rw[hf6]at oe';exact⟨⟨_,0,st.cs,by rw[Xt J9],rfl,(oe'.Ya pA _).mono pA⟩,hg.Zt (ab _) _⟩
end Go.Proofs.YthlfaofofaphfaaGreatDoor
