/- One block of the digest: what the document computes; no condition but those in the statements. -/
import Derived.Test.YtboeoomhjbcecaaGreatDoorTab
import Derived.Test.YtboeoomhjbcecaaGreatDoorW18
import Derived.Test.YtboeoomhjbcecaaGreatDoorBytes
import Derived.Test.YtboeoomhjbcecaaGreatDoorTape
import Derived.Test.YtboeoomhjbcecaaGreatDoorW12
import Derived.Test.YtboeoomhjbcecaaGreatDoorPik
import Derived.Test.YtboeoomhjbcecaaGreatDoorLchks
import Derived.Test.YtboeoomhjbcecaaGreatDoorW14
import Derived.Test.YtboeoomhjbcecaaGreatDoorVst
namespace Go.Proofs.YtboeoomhjbcecaaGreatDoor
open Go Go.V
set_option linter.unusedSimpArgs false
set_option linter.unusedVariables false
set_option maxRecDepth 100000
abbrev NT (h:Hp) (v:Value) (l:List Nat):Prop:=Ts (fun x=>[nv x]) 1 h v l
theorem XS (T:World) (h:Hp) (x n:Nat) (hx:x<4294967296) (hn:n≤32) :
  Zc Tryz.prog T 85 #[.int .u32 x,.int .i64 n] h fun v' h'=>v'=.int .u32 (rr x n:Nat)∧h'=h:=by
 refine Zc.Zk (args:=[_,_]) Tryz.func85 rfl rfl rfl rfl ?_;have e1:=Lw x (32-n) (by omega);have e2:=Ui x n hn;have e3:(32:Int)-n=((32-n:Nat):Int):=by omega
 have e4:=Sc (x/2 ^ n) (x*2 ^ (32-n)%4294967296) (Nat.lt_of_le_of_lt (Nat.div_le_self _ _) hx) (by omega);have e5:¬(n:Int)<0:=by omega
 have e6:¬((32-n:Nat):Int)<0:=by omega
 have e7:=dI hx (show 32-n≤32 by omega);rw[show 32-(32-n)=n by omega,Nat.or_comm]at e7;rw[e7]at e4;unfold rr;simp +contextual -implicitDefEqProofs only[go_sem,↓reduceIte];refine VS.q mixed (by kernel_rfl) ?_;simp +contextual -implicitDefEqProofs only[go_sem,↓reduceIte,e3,e1,e2,e4,e5,e6]
theorem vW {a b c d:Nat} (ha:a<256) (hb:b<256) (hc:c<256) (hd:d<256) :
  Yc .or .u32 (Yc .or .u32 (Yc .or .u32 (YL .u32 a 24) (YL .u32 b 16)) (YL .u32 c 8)) d=((a*16777216+b*65536+c*256+d:Nat):Int):=by
 have sb:∀{x k:Nat},x<256→k≤24→YL .u32 (x:Int) (k:Int)=((x*2 ^ k:Nat):Int):=by
  intro x k hx hk;rw[Lw x k (by omega),Nat.mod_eq_of_lt];have:2 ^ k≤2 ^ 24:=Nat.pow_le_pow_right (by omega) hk;have h2:x*2 ^ k≤255*2 ^ 24:=Nat.mul_le_mul (by omega) this;omega
 have e1:YL .u32 (a:Int) 24=((a*16777216:Nat):Int):=sb (k:=24) ha (by omega);have e2:YL .u32 (b:Int) 16=((b*65536:Nat):Int):=sb (k:=16) hb (by omega);have e3:YL .u32 (c:Int) 8=((c*256:Nat):Int):=sb (k:=8) hc (by omega);have f1:a*16777216 ||| b*65536=a*16777216+b*65536:=Qf (k:=24) (by omega) (by omega)
 have f2:(a*16777216+b*65536) ||| c*256=a*16777216+b*65536+c*256:=Qf (k:=16) (by omega) (by omega)
 rw[e1,e2,e3,Sc _ _ (by omega) (by omega),f1,Sc _ _ (by omega) (by omega),f2,Sc _ _ (by omega) (by omega),Qf (k:=8) (by omega) (by omega)]
theorem Pq (xs zs:List Nat) (i:Nat) (hi:i<xs.length) (hz:xs.length=zs.length):(xs.take i++zs.drop i).set i (xs.getD i 0)=xs.take (i+1)++zs.drop (i+1):=by
 rw[List.getD_eq_getElem?_getD,List.getElem?_eq_getElem hi];exact Np xs zs i hi hz
def OO (b:List Nat) (i:Nat):List Nat:=Qr b i++List.replicate (64-i) 0
theorem Ux {b:List Nat} {i:Nat} (hi:i≤64):(OO b i).length=64:=by simp[OO,X8];omega
theorem ja {b:List Nat} {i j:Nat} (hj:j<i):(OO b i).getD j 0=(Qr b i).getD j 0:=by
 rw[OO,List.getD_eq_getElem?_getD,List.getElem?_append_left (by rw[X8];exact hj),←List.getD_eq_getElem?_getD]
theorem pK {b:List Nat} {i:Nat} (hi:i<64):(OO b i).set i (Fy b (Qr b i))=OO b (i+1):=by
 rw[OO,List.set_append_right _ _ (by rw[X8];exact Nat.le_refl _),X8,Nat.sub_self,show 64-i=(64-(i+1))+1 by omega,List.replicate_succ,List.set_cons_zero,OO,Qr,List.append_assoc];rfl
theorem jc (b:List Nat):OO b 64=Qr b 64:=by simp[OO]
theorem Gq {b:List Nat} (hb:Ro b) {i j:Nat}:(Qr b i).getD j 0<4294967296:=(KB hb i).getD j
theorem D9 (T:World) (h:Hp) (bd:Nat) (d:List Nat) (v:Value) (b:List Nat) (hd:d.length=8) (wd:S3 d) (sb:Bs h v b) (hb:b.length=64) (tk:Dh 0 wv kN h)
  (hx:h[bd]? = some (.cells (d.map wv++[]).toArray 155)) (hg:0≠bd) :
  Zc Tryz.prog T 59 #[.pointer (some ⟨bd,0,none⟩),v] h fun v' h'=>Tv (some bd) h h'∧h'[bd]? = some (.cells ((Dw d b).map wv++[]).toArray 155):=by
 obtain⟨p,c,rfl,Us⟩:=sb.UL;obtain⟨bb,ob,rfl,Wi,YS⟩:=Us (by intro e;subst e;simp at hb);have jd:Ro b:=sb.byte;refine Zc.Zk (args:=[_,_]) Tryz.func59 rfl rfl rfl rfl ?_;rw[hb];have ai:=Za hx;have b0:Zf h.size h (h.push (.cells (X2 64 [Value.int .u32 0]).toArray 179)):=Zf.push (Nat.le_refl _) _;have x0:∀A:Array Value,A=((OO b 0).map wv).toArray→(h.push (.cells A 179))[h.size]? = some (.cells ((OO b 0).map wv++[]).toArray 179):=by
  rintro _ rfl;rw[List.append_nil];exact Zb
 simp -implicitDefEqProofs only[go_sem,↓reduceIte];refine VS.ZW (fun F g=>Zf h.size h g∧F 0=.pointer (some ⟨bd,0,none⟩)∧F 1=.slice (some ⟨bb,ob,none⟩) 64 c∧F 4=.pointer (some ⟨h.size,0,none⟩)∧∃i:Nat,i≤64∧F 16=.int .i64 i∧g[h.size]? = some (.cells ((OO b i).map wv++[]).toArray 179))
  (fun F _=>64-(vi (F 16)).toNat) rfl ⟨b0,rfl,rfl,rfl,0,by omega,rfl,by exact x0 _ (by rfl)⟩ ?_
 clear b0 x0;rintro F g ⟨ew,f0,f1,f4,i,hi,f16,hw⟩;have hws:=Za hw;by_cases ZD:i<64
 ·have ZL:(i:Int)<64:=by omega
  have fin:∀X:Nat,X=Fy b (Qr b i)→JJ g ⟨h.size,i,none⟩ (.int .u32 (X:Nat))=some (g.setIfInBounds h.size (.cells ((OO b (i+1)).map wv++[]).toArray 179)):=by
   intro X hX;have:=Z1 (f:=wv) hw (i:=i) (by rw[Ux hi];exact ZD) X rfl;rw[hX,pK ZD]at this;rw[hX];exact this
  by_cases h16:i<16
  ·have ZbX:(i:Int)<16:=by omega
   have g0:∀j,j<64→hc g ⟨bb,ob+j,none⟩=some (.int .u8 (b.getD j 0:Nat)):=fun j hj=>by rw[ew.hc (by exact Wi)];exact YS j (by omega)
   have e0:=g0 (4*i) (by omega);have e1:=g0 (4*i+1) (by omega);have e2:=g0 (4*i+2) (by omega);have e3:=g0 (4*i+3) (by omega);have y0:=ZI jd (4*i);have y1:=ZI jd (4*i+1);have y2:=ZI jd (4*i+2);have y3:=ZI jd (4*i+3);have t0:(4*(i:Int)).toNat=4*i:=by omega
   have t1:(4*(i:Int)+1).toNat=4*i+1:=by omega
   have t2:(4*(i:Int)+2).toNat=4*i+2:=by omega
   have t3:(4*(i:Int)+3).toNat=4*i+3:=by omega
   have eo:=fun (_:Unit)=>vW y0 y1 y2 y3;rw[show b.getD (4*i) 0*16777216+b.getD (4*i+1) 0*65536+b.getD (4*i+2) 0*256+b.getD (4*i+3) 0=Xf b (4*i) from rfl]at eo;have m0:((b.getD (4*i) 0:Nat):Int)%4294967296=(b.getD (4*i) 0:Nat):=by omega
   have m1:((b.getD (4*i+1) 0:Nat):Int)%4294967296=(b.getD (4*i+1) 0:Nat):=by omega
   have m2:((b.getD (4*i+2) 0:Nat):Int)%4294967296=(b.getD (4*i+2) 0:Nat):=by omega
   have m3:((b.getD (4*i+3) 0:Nat):Int)%4294967296=(b.getD (4*i+3) 0:Nat):=by omega
   have cs:=fin (Xf b (4*i)) (by unfold Fy;rw[X8,if_pos h16]);simp -implicitDefEqProofs only[go_sem,↓reduceIte,f0,f1,f4,f16,ZL,ZbX];refine VS.w (g.size) [35] (.q 0 (.q 1 (.q 2 (.q 3 (.q 4 (.q 5 (.q 6 (.q 7 (.q 8 (.q 9 (.q 10 (.q 11 (.q 12 (.q 13 (.q 14 (.q 15 (.q 16 (.q 17 (.q 18 (.q 19 (.q 20 (.q 21 (.q 22 (.q 23 (.q 24 (.q 25 (.q 26 (.q 27 (.q 28 (.q 29 (.q 30 (.q 31 (.q 32 (.q 33 (.q 34 (.w 35 .nil)))))))))))))))))))))))))))))))))))) mixed (by kernel_rfl) ?_;have ZoK:bb<g.size:=Nat.lt_of_lt_of_le Wi ew.size;simp -implicitDefEqProofs only[go_sem,↓reduceIte,f0,f1,f4,f16,e0,e1,e2,e3,t0,t1,t2,t3,m0,m1,m2,m3,eo (),ZoK,cs];refine⟨⟨ew.Zm (Nat.le_refl _) _,f0,f1,f4,i+1,ZD,rfl,ZT hw⟩,?_⟩;simp only[vi,Zi,↓reduceIte,f16];omega
  ·have ZbX:¬(i:Int)<16:=by omega
   have q1:=ZN hw (i:=i-15) (by rw[Ux hi];omega);have q2:=ZN hw (i:=i-2) (by rw[Ux hi];omega);have q3:=ZN hw (i:=i-16) (by rw[Ux hi];omega);have q4:=ZN hw (i:=i-7) (by rw[Ux hi];omega);rw[ja (by omega)]at q1 q2 q3 q4;have eX:Fy b (Qr b i)=((Qr b i).getD (i-16) 0+sg0 ((Qr b i).getD (i-15) 0)+(Qr b i).getD (i-7) 0+sg1 ((Qr b i).getD (i-2) 0))%4294967296:=by
    unfold Fy;rw[X8,if_neg h16]
   have cs:=fin (Fy b (Qr b i)) rfl;have hA:(Qr b i).getD (i-15) 0<4294967296:=Gq jd;have hC:(Qr b i).getD (i-2) 0<4294967296:=Gq jd;rw[eX]at cs;generalize (Qr b i).getD (i-15) 0=A at *;generalize (Qr b i).getD (i-2) 0=C at *;generalize (Qr b i).getD (i-16) 0=E1 at *;generalize (Qr b i).getD (i-7) 0=E2 at *;unfold wv at q1 q2 q3 q4;have t1:((i:Int)-15).toNat=i-15:=by omega
   have t2:((i:Int)-2).toNat=i-2:=by omega
   have t3:((i:Int)-16).toNat=i-16:=by omega
   have t4:((i:Int)-7).toNat=i-7:=by omega
   have s1:Unit→YV .u32 (A:Int) 3=((A/8:Nat):Int):=fun _=>Ui A 3 (by decide);have s2:Unit→YV .u32 (C:Int) 10=((C/1024:Nat):Int):=fun _=>Ui C 10 (by decide);have o1:=fun (_:Unit)=>J6 (rr A 7) (rr A 18) (QZ hA) (QZ hA);have o2:Unit→Yc .xor .u32 ((rr A 7 ^^^ rr A 18:Nat):Int) ((A/8:Nat):Int)=((sg0 A:Nat):Int):=fun _=>J6 _ _ (Wh (QZ hA) (QZ hA)) (Dt hA);have o3:=fun (_:Unit)=>J6 (rr C 17) (rr C 19) (QZ hC) (QZ hC);have o4:Unit→Yc .xor .u32 ((rr C 17 ^^^ rr C 19:Nat):Int) ((C/1024:Nat):Int)=((sg1 C:Nat):Int):=fun _=>J6 _ _ (Wh (QZ hC) (QZ hC)) (Dt hC);generalize sg0 A=S0 at *;generalize sg1 C=S1 at *;have e5:((((E1:Int)+(E2:Int))%4294967296+(S0:Int))%4294967296+(S1:Int))%4294967296=(((E1+S0+E2+S1)%4294967296:Nat):Int):=by clear cs fin;omega
   simp -implicitDefEqProofs only[go_sem,↓reduceIte,f0,f1,f4,f16,ZL,ZbX];refine VS.q mixed (by kernel_rfl) ?_;simp -implicitDefEqProofs only[go_sem,↓reduceIte,f0,f1,f4,f16,q1,q2,t1,t2];refine VS.w (h.size+1) [29] (.q 0 (.q 1 (.q 2 (.q 3 (.q 4 (.q 5 (.q 6 (.q 7 (.q 8 (.q 9 (.q 10 (.q 11 (.q 12 (.q 13 (.q 14 (.q 15 (.q 16 (.q 17 (.q 18 (.q 19 (.q 20 (.q 21 (.q 22 (.q 23 (.q 24 (.q 25 (.q 26 (.q 27 (.q 28 (.w 29 .nil)))))))))))))))))))))))))))))) mixed (by kernel_rfl) ?_;simp -implicitDefEqProofs only[go_sem,↓reduceIte,f0,f1,f4,f16,q3,q4,t3,t4,e5];refine J7 (fun h=>XS T h A 7 hA (by omega)) ?_;simp -implicitDefEqProofs only[go_sem,↓reduceIte,f0,f1,f4,f16,o1 (),o2 (),o3 (),o4 (),s1 (),s2 (),e5];refine J7 (fun h=>XS T h A 18 hA (by omega)) ?_;simp -implicitDefEqProofs only[go_sem,↓reduceIte,f0,f1,f4,f16,o1 (),o2 (),o3 (),o4 (),s1 (),s2 (),e5];refine J7 (fun h=>XS T h C 17 hC (by omega)) ?_;simp -implicitDefEqProofs only[go_sem,↓reduceIte,f0,f1,f4,f16,o1 (),o2 (),o3 (),o4 (),s1 (),s2 (),e5];refine J7 (fun h=>XS T h C 19 hC (by omega)) ?_;simp -implicitDefEqProofs only[go_sem,↓reduceIte,f0,f1,f4,f16,o1 (),o2 (),o3 (),o4 (),s1 (),s2 (),e5,cs];refine⟨⟨ew.Zm (Nat.le_refl _) _,f0,f1,f4,i+1,ZD,rfl,ZT hw⟩,?_⟩;simp only[vi,Zi,↓reduceIte,f16];omega
 ·have YJ:¬(i:Int)<64:=by omega
  obtain rfl:i=64:=by omega
  rw[jc]at hw;have kZ:=ew.get ai hx;have r0:rd g ⟨bd,0,none⟩ 8=some (d.map wv):=by rw[List.append_nil]at kZ;exact Zq kZ (by simp[hd])
  have l8:(d.map wv).length=8:=by simp[hd]
  have ZbY:(d.map wv).all Z7=true:=by simp[wv,Z7]
  obtain⟨DV,hDV⟩:=Zx (d.map wv);rw[←hDV]at r0 l8 ZbY;have lp:Yw [Value.int .u32 0,Value.int .u32 0,Value.int .u32 0,Value.int .u32 0,Value.int .u32 0,Value.int .u32 0,Value.int .u32 0,Value.int .u32 0] 0 DV=DV:=ZJ l8;simp -implicitDefEqProofs only[go_sem,↓reduceIte,f0,f1,f4,f16,YJ,r0,l8,ZbY,lp];rw[hDV];have T7:=ew.size;have hB:Zf h.size h (g.push (.cells (d.map wv).toArray 155)):=ew.add _;have Sa:Zf g.size g (g.push (.cells (d.map wv).toArray 155)):=Zf.push (Nat.le_refl _) _;have hv0:(g.push (.cells (d.map wv).toArray 155))[g.size]? = some (.cells ((Qs b d 0).map wv++[]).toArray 155):=by
   rw[List.append_nil];exact Zb
  refine VS.ZW (fun F' g'=>Zf g.size g g'∧F' 0=.pointer (some ⟨bd,0,none⟩)∧F' 4=.pointer (some ⟨h.size,0,none⟩)∧F' 8=.pointer (some ⟨g.size,0,none⟩)∧∃i:Nat,i≤64∧F' 97=.int .i64 i∧g'[g.size]? = some (.cells ((Qs b d i).map wv++[]).toArray 155))
   (fun F _=>64-(vi (F 97)).toNat) rfl ⟨Sa,f0,f4,rfl,0,by omega,rfl,hv0⟩ ?_
  clear f0 f1 f4 f16 YJ hi ZD hv0 hB Sa r0 l8 ZbY lp hDV DV F;rintro F g2 ⟨QW,f0,f4,f8,i,hi,f97,hv⟩;have pL:=Za hv;obtain⟨v8,w8⟩:=Sm (b:=b) hd wd i;obtain⟨a,b',c',d',e,f,g',k',Bq⟩:=eight v8;by_cases ZD:i<64
  ·have ZL:(i:Int)<64:=by omega
   have vX:Qs b d (i+1)=[(upw e f g' k' (kN.getD i 0) ((Qr b 64).getD i 0)+bg0 a+ie a b' c')%4294967296,a,b',c',(d'+upw e f g' k' (kN.getD i 0) ((Qr b 64).getD i 0))%4294967296,e,f,g']:=by
    rw[show Qs b d (i+1)=nX (Qs b d i) (kN.getD i 0) ((Qr b 64).getD i 0) from rfl,Bq];rfl
   have hK:kN.getD i 0<4294967296:=Zbs.getD i;have hW:(Qr b 64).getD i 0<4294967296:=(KB jd 64).getD i;have k1:V.hc g2 ⟨0,i,none⟩=some (.int .u32 (kN.getD i 0:Nat)):=by
    rw[QW.hc (by have:=tk.1;show (0:Nat)<g.size;omega),ew.hc (by exact tk.1)];exact tk.2 i ZD
   have w1:V.hc g2 ⟨h.size,i,none⟩=some (.int .u32 ((Qr b 64).getD i 0:Nat)):=by
    rw[QW.hc (by exact hws)];exact ZN hw (by rw[X8];exact ZD)
   rw[Bq]at hv w8;have n0:V.hc g2 ⟨g.size,0,none⟩=some (.int .u32 (a:Nat)):=ZN hv (i:=0) (by simp);have n1:V.hc g2 ⟨g.size,1,none⟩=some (.int .u32 (b':Nat)):=ZN hv (i:=1) (by simp);have n2:V.hc g2 ⟨g.size,2,none⟩=some (.int .u32 (c':Nat)):=ZN hv (i:=2) (by simp);have n3:V.hc g2 ⟨g.size,3,none⟩=some (.int .u32 (d':Nat)):=ZN hv (i:=3) (by simp);have n4:V.hc g2 ⟨g.size,4,none⟩=some (.int .u32 (e:Nat)):=ZN hv (i:=4) (by simp);have n5:V.hc g2 ⟨g.size,5,none⟩=some (.int .u32 (f:Nat)):=ZN hv (i:=5) (by simp);have n6:V.hc g2 ⟨g.size,6,none⟩=some (.int .u32 (g':Nat)):=ZN hv (i:=6) (by simp);have n7:V.hc g2 ⟨g.size,7,none⟩=some (.int .u32 (k':Nat)):=ZN hv (i:=7) (by simp);have ha:a<4294967296:=w8 a (by simp);have XH:b'<4294967296:=w8 b' (by simp);have zN:c'<4294967296:=w8 c' (by simp);have hd':d'<4294967296:=w8 d' (by simp);have he:e<4294967296:=w8 e (by simp);have hf:f<4294967296:=w8 f (by simp);have IU:g'<4294967296:=w8 g' (by simp);have Oh:k'<4294967296:=w8 k' (by simp);generalize kN.getD i 0=K at *;generalize (Qr b 64).getD i 0=W at *;have o1:=fun (_:Unit)=>J6 (rr e 6) (rr e 11) (QZ he) (QZ he);have o2:Unit→Yc .xor .u32 ((rr e 6 ^^^ rr e 11:Nat):Int) ((rr e 25:Nat):Int)=((bg1 e:Nat):Int):=fun _=>J6 _ _ (Wh (QZ he) (QZ he)) (QZ he);have o3:=fun (_:Unit)=>J6 (rr a 2) (rr a 13) (QZ ha) (QZ ha);have o4:Unit→Yc .xor .u32 ((rr a 2 ^^^ rr a 13:Nat):Int) ((rr a 22:Nat):Int)=((bg0 a:Nat):Int):=fun _=>J6 _ _ (Wh (QZ ha) (QZ ha)) (QZ ha);have c0:Unit→(if IntKind.u32.signed=true then (-1:Int) else IntKind.u32.max)=4294967295:=fun _=>rfl;have c1:=fun (_:Unit)=>Of e f he hf;have c2:=fun (_:Unit)=>vu he;have c3:=fun (_:Unit)=>Of (4294967295-e) g' (Du e) IU;have c4:=fun (_:Unit)=>Zbr (f:=f) he IU;have m1:=fun (_:Unit)=>Of a b' ha XH;have m2:=fun (_:Unit)=>Of a c' ha zN;have m3:=fun (_:Unit)=>Of b' c' XH zN;have m4:=fun (_:Unit)=>J6 (a &&& b') (a &&& c') (QP ha) (QP ha);have m5:=fun (_:Unit)=>vw (c:=c') ha XH;have eU:upw e f g' k' K W=(k'+bg1 e+chw e f g'+K+W)%4294967296:=rfl;generalize upw e f g' k' K W=U at *;generalize bg1 e=S1 at *;generalize bg0 a=S0 at *;generalize chw e f g'=CH at *;generalize ie a b' c'=MJ at *;have e1:Unit→(((((k':Int)+(S1:Int))%4294967296+(CH:Int))%4294967296+(K:Int))%4294967296+(W:Int))%4294967296=(U:Int):=fun _=>by omega
   have e2:Unit→((S0:Int)+(MJ:Int))%4294967296=(((S0+MJ)%4294967296:Nat):Int):=fun _=>by omega
   have e3:Unit→((U:Int)+(((S0+MJ)%4294967296:Nat):Int))%4294967296=(((U+S0+MJ)%4294967296:Nat):Int):=fun _=>by omega
   have e4:Unit→((d':Int)+(U:Int))%4294967296=(((d'+U)%4294967296:Nat):Int):=fun _=>by omega
   simp -implicitDefEqProofs only[go_sem,↓reduceIte,f0,f4,f8,f97,ZL];refine VS.q mixed (by kernel_rfl) ?_;simp -implicitDefEqProofs only[go_sem,↓reduceIte,f0,f4,f8,f97,n0,n4];refine VS.q mixed (by kernel_rfl) ?_;simp -implicitDefEqProofs only[go_sem,↓reduceIte,f0,f4,f8,f97,n7,n4];refine Q4 (XS T _ e 6 he (by omega)) ?_;simp -implicitDefEqProofs only[go_sem,↓reduceIte,f8];refine Q4 (XS T _ e 11 he (by omega)) ?_;simp -implicitDefEqProofs only[go_sem,↓reduceIte,f8];refine Q4 (XS T _ e 25 he (by omega)) ?_;simp -implicitDefEqProofs only[go_sem,↓reduceIte,f4,f8,f97,ZL,o1 (),o2 (),n5,n6,c0 (),c1 (),c2 (),c3 (),c4 (),k1,w1,e1 ()];refine VS.mono (N:=fun F' g'=>g2=g'∧F' 0=.pointer (some ⟨bd,0,none⟩)∧F' 4=.pointer (some ⟨h.size,0,none⟩)∧F' 8=.pointer (some ⟨g.size,0,none⟩)∧F' 97=.int .i64 i∧F' 10=.int .u32 (a:Nat)∧F' 11=.int .u32 (e:Nat)∧F' 12=.int .u32 (U:Nat)∧F' 13=.int .u32 (((S0+MJ)%4294967296:Nat):Int)) ?_ ?_ (fun _ _ _ h=>h) (fun _ _ h=>h)
   ·refine VS.q mixed (by kernel_rfl) ?_;simp -implicitDefEqProofs only[go_sem,↓reduceIte,f8];refine Q4 (XS T _ a 2 ha (by omega)) ?_;simp -implicitDefEqProofs only[go_sem,↓reduceIte,f8];refine Q4 (XS T _ a 13 ha (by omega)) ?_;simp -implicitDefEqProofs only[go_sem,↓reduceIte,f8];refine Q4 (XS T _ a 22 ha (by omega)) ?_;simp -implicitDefEqProofs only[go_sem,↓reduceIte,f0,f4,f8,f97,o3 (),o4 (),n1,n2,m1 (),m2 (),m3 (),m4 (),m5 (),e2 ()]
   clear f0 f4 f8 f97 F;rintro F _ ⟨rfl,f0,f4,f8,f97,f10,f11,f12,f13⟩;have hvE:g2[g.size]? = some (.cells [Value.int .u32 a,.int .u32 b',.int .u32 c',.int .u32 d',.int .u32 e,.int .u32 f,.int .u32 g',.int .u32 k'].toArray 155):=hv;have y2:=ZU hvE 0;obtain⟨xU,hxU⟩:∃x:Int,x=(U:Int):=⟨_,rfl⟩
   obtain⟨xD,hxD⟩:∃x:Int,x=(((S0+MJ)%4294967296:Nat):Int):=⟨_,rfl⟩
   obtain⟨x0,S6⟩:∃x:Int,x=(((U+S0+MJ)%4294967296:Nat):Int):=⟨_,rfl⟩
   obtain⟨x4,Bu⟩:∃x:Int,x=(((d'+U)%4294967296:Nat):Int):=⟨_,rfl⟩
   have E3:Unit→(xU+xD)%4294967296=x0:=fun _=>by rw[hxU,hxD,S6];exact e3 ()
   have E4:Unit→((d':Int)+xU)%4294967296=x4:=fun _=>by rw[hxU,Bu];exact e4 ()
   rw[←hxU]at f12;rw[←hxD]at f13;simp -implicitDefEqProofs only[go_sem,↓reduceIte,f0,f4,f8,f97,f10,f11,f12,f13,n1,n2,n3,n5,n6,E3 (),E4 (),y2];refine⟨⟨QW.Zm (Nat.le_refl _) _,f0,f4,f8,i+1,ZD,rfl,?_⟩,?_⟩
   ·rw[vX,S6,Bu];exact ZT hv
   ·simp only[vi,Zi,↓reduceIte,f97];omega
  ·have YJ:¬(i:Int)<64:=by omega
   obtain rfl:i=64:=by omega
   have r0:rd g2 ⟨g.size,0,none⟩ 8=some ((Qs b d 64).map wv):=by rw[List.append_nil]at hv;exact Zq hv (by simp[v8])
   have hB:Tv (some bd) h g2:=by
    have q1:=ew.trans (QW.mono ew.size);exact⟨q1.size,fun k hk _=>q1.block k hk⟩
   have kZ:g2[bd]? = some (.cells (((Sn d (Qs b d 64)).take 0++d.drop 0).map wv++[]).toArray 155):=by
    rw[List.take_zero,List.drop_zero,List.nil_append];exact (ew.trans (QW.mono ew.size)).get ai hx
   have zO:=So hd v8;simp -implicitDefEqProofs only[go_sem,↓reduceIte,f0,f8,f97,YJ,r0];refine VS.ZW (fun F' g'=>Tv (some bd) h g'∧F' 0=.pointer (some ⟨bd,0,none⟩)∧F' 177=.agg ((Qs b d 64).map wv).toArray∧∃i:Nat,i≤8∧F' 178=.int .i64 i∧g'[bd]? = some (.cells (((Sn d (Qs b d 64)).take i++d.drop i).map wv++[]).toArray 155))
    (fun F _=>8-(vi (F 178)).toNat) rfl ⟨hB,f0,rfl,0,by omega,rfl,kZ⟩ ?_
   clear f0 f4 f8 f97 YJ hi ZD hv kZ hB r0 F;rintro F g3 ⟨hB,f0,ZbZ,i,hi,vY,kZ⟩;have ZoN:=Za kZ;have vZ:((Sn d (Qs b d 64)).take i++d.drop i).length=8:=by rw[WU _ _ _ (by omega) (by omega),zO]
   by_cases ZD:i<8
   ·have ZL:(i:Int)<8:=by omega
    have n1:nth ((Qs b d 64).map wv) i=some (.int .u32 ((Qs b d 64).getD i 0:Nat)):=by
     rw[Yh,List.getElem?_map,List.getD_eq_getElem?_getD,List.getElem?_eq_getElem (by omega)];rfl
    have q1:=ZN kZ (i:=i) (by omega);have e0:((Sn d (Qs b d 64)).take i++d.drop i).getD i 0=d.getD i 0:=by
     rw[List.getD_eq_getElem?_getD,List.getElem?_append_right (by rw[List.length_take];omega),List.length_take,Nat.min_eq_left (by omega),Nat.sub_self,List.getElem?_drop,Nat.add_zero,←List.getD_eq_getElem?_getD]
    rw[e0]at q1;unfold wv at q1;have eX:=ig hd v8 ZD;have cs:=Z1 (f:=wv) kZ (i:=i) (by omega) ((Sn d (Qs b d 64)).getD i 0) rfl;rw[Pq _ _ i (by omega) (by omega)]at cs;have l9:JJ g3 ⟨bd,i,none⟩ (.int .u32 (((Sn d (Qs b d 64)).getD i 0:Nat):Int))=_:=cs;rw[eX]at l9;generalize d.getD i 0=D at *;generalize (Qs b d 64).getD i 0=V at *;have e1:((D:Int)+(V:Int))%4294967296=(((D+V)%4294967296:Nat):Int):=by omega
    simp -implicitDefEqProofs only[go_sem,↓reduceIte,ZbZ,vY,ZL,n1];refine VS.w (g3.size) [9] (.q 0 (.q 1 (.q 2 (.q 3 (.q 4 (.q 5 (.q 6 (.q 7 (.q 8 (.w 9 .nil)))))))))) mixed (by kernel_rfl) ?_;simp -implicitDefEqProofs only[go_sem,↓reduceIte,f0,ZbZ,vY,q1,e1,ZoN,l9,ZL];refine⟨⟨?_,f0,ZbZ,i+1,ZD,rfl,ZT kZ⟩,?_⟩
    ·exact⟨by rw[Array.size_setIfInBounds];exact hB.size,fun k hk YA=>by rw[Array.getElem?_setIfInBounds,if_neg (by intro e;exact YA (by rw[e])),hB.block k hk YA]⟩
    ·simp only[vi,Zi,↓reduceIte,vY];omega
   ·have YJ:¬(i:Int)<8:=by omega
    obtain rfl:i=8:=by omega
    have e9:(Sn d (Qs b d 64)).take 8++d.drop 8=Dw d b:=by
     rw[List.take_of_length_le (by omega),List.drop_of_length_le (by omega),List.append_nil];rfl
    rw[e9]at kZ;simp -implicitDefEqProofs only[go_sem,↓reduceIte,vY,YJ];exact⟨hB,kZ⟩
def aQ:Value→Nat
 | .slice _ n _=>n
 | _=>0
def Hv (n:Nat):List Nat:=0 :: 0 :: 0 :: 0 :: Xb (8*n)
theorem MF (n:Nat):(Hv n).length=8:=rfl
theorem je (n:Nat):Ro (Hv n):=by
 intro x hx;simp only[Hv,List.mem_cons]at hx;rcases hx with rfl|rfl|rfl|rfl|hx
 ·omega
 ·omega
 ·omega
 ·omega
 ·exact Qx _ x hx
theorem wh {n k:Nat} (hn:n≤100000) (hk:k<8):YV .i64 ((8*n:Nat):Int) ((56-8*k:Nat):Int)%256=(((Hv n).getD k 0:Nat):Int):=by
 rw[J8 _ _ (by omega)];rcases k with _|_|_|_|_|_|_|_|k
 ·show ((8*n/2 ^ 56:Nat):Int)%256=((0:Nat):Int)
  rw[Nat.div_eq_of_lt (by omega)];rfl
 ·show ((8*n/2 ^ 48:Nat):Int)%256=((0:Nat):Int)
  rw[Nat.div_eq_of_lt (by omega)];rfl
 ·show ((8*n/2 ^ 40:Nat):Int)%256=((0:Nat):Int)
  rw[Nat.div_eq_of_lt (by omega)];rfl
 ·show ((8*n/2 ^ 32:Nat):Int)%256=((0:Nat):Int)
  rw[Nat.div_eq_of_lt (by omega)];rfl
 ·rfl
 ·rfl
 ·rfl
 ·show ((8*n/2 ^ 0:Nat):Int)%256=((8*n%256:Nat):Int)
  rw[Nat.pow_zero,Nat.div_one];rfl
 ·omega
theorem wm {x bp op m c:Nat} {h h':Hp} {l:List Nat} (s:Bs h (.slice (some ⟨bp,op,none⟩) m c) l) (a:Tv (some x) h h') (YA:bp≠x):Bs h' (.slice (some ⟨bp,op,none⟩) m c) l:=by
 obtain⟨⟨p,cap,hv,hl,hc⟩,hb⟩:=s;simp only[Value.slice.injEq]at hv;obtain⟨rfl,hm,rfl⟩:=hv;refine⟨⟨_,_,by rw[hm],hl,fun hn=>?_⟩,hb⟩;obtain⟨b,o,hp,YS⟩:=hc hn;simp only[Option.some.injEq,Addr.mk.injEq,and_true]at hp;obtain⟨rfl,rfl⟩:=hp;refine⟨_,_,rfl,fun i hi=>?_⟩;have h1:=YS i hi;have h2:=Uq h1;unfold V.hc at h1 ⊢;rw[a.block _ h2 (by intro e;exact YA (Option.some.inj e).symm)];exact h1
theorem TH {bp op m c:Nat} {h:Hp} {l:List Nat} (s:Bs h (.slice (some ⟨bp,op,none⟩) m c) l) {k:Nat} (hk:k≤l.length) (hm:l.length=m) (c':Nat):Bs h (.slice (some ⟨bp,op+k,none⟩) (m-k) c') (l.drop k):=by
 subst hm;refine⟨?_,fun x hx=>s.byte x (List.mem_of_mem_drop hx)⟩;obtain⟨p',cap,hv,hl,hc⟩:=s.sl;simp only[Value.slice.injEq]at hv;obtain⟨rfl,_,rfl⟩:=hv;refine⟨_,c',by rw[List.length_drop],by simp,fun YA=>?_⟩;have ZD:k<l.length:=by
  rw[←List.length_pos_iff]at YA;simp at YA;omega
 obtain⟨b,o,hp,YS⟩:=hc (by intro e;simp at e;subst e;simp at ZD);simp only[Option.some.injEq,Addr.mk.injEq,and_true]at hp;obtain⟨rfl,rfl⟩:=hp;refine⟨_,_,rfl,fun i hi=>?_⟩;have Da:i<l.length-k:=by simpa using hi
 rw[show op+k+i=op+(k+i) by omega,YS (k+i) (by simp;omega)];simp
abbrev Tk (h:Hp):Prop:=Dh 0 wv kN h
theorem FV (T:World) (h:Hp) (v:Value) (l:List Nat) (s:Bs h v l) (hl:l.length≤100000) (tk:Tk h) :
  Zc Tryz.prog T 43 #[v] h fun v' h'=>Z0 h.size 5 h' v' (WH l)∧Zf h.size h h':=by
 obtain⟨p,cp,rfl,Us⟩:=s.open;have jd:Ro l:=s.byte;refine Zc.Zk (args:=[_]) Tryz.func43 rfl rfl rfl rfl ?_;simp -implicitDefEqProofs only[go_sem,↓reduceIte];obtain⟨h1,YK⟩:=Zx (h.push (.cells (oq.map wv).toArray 155):Hp);have hs1:h1.size=h.size+1:=by rw[YK];simp
 have b1:Zf h.size h h1:=by rw[YK];exact Zf.push (Nat.le_refl _) _
 have x1:h1[h.size]? = some (.cells (oq.map wv++[]).toArray 155):=by rw[YK,List.append_nil];exact Zb
 change T9 Tryz.prog T .append _ _ _ _ _ (h.push (.cells (oq.map wv).toArray 155));rw[←YK];clear YK;refine Zv (E:=5) (B:=h.size+1) YD Tryz.underlying48 Wg WY WX (Z0.I9 _ _ _ _) (by omega) (s.Z2 b1) (by simp;omega) ?_;intro w h2 o2 b2 _;rw[List.nil_append]at o2;simp -implicitDefEqProofs only[go_sem,↓reduceIte];refine Zv (E:=5) (B:=h.size+1) YD Tryz.underlying48 Wg WY WX (o2.push _) (by have:=b2.size;simp;omega) (Bs.one (x:=128) (by omega) 1) (by simp;omega) ?_;intro w3 h3 o3 b3 _;have B3:Zf (h.size+1) h1 h3:=(b2.Yi (by have:=b2.size;omega) _).trans b3;have o3':Z0 (h.size+1) 5 h3 w3 (Sp l 0):=o3;clear o2 o3 b2 b3;simp -implicitDefEqProofs only[go_sem,↓reduceIte];refine VS.ZW (fun F g=>Zf (h.size+1) h1 g∧F 0=.slice p l.length cp∧F 3=.pointer (some ⟨h.size,0,none⟩)∧∃j:Nat,j≤Hg l.length∧Z0 (h.size+1) 5 g (F 4) (Sp l j))
  (fun F _=>l.length+100-aQ (F 4)) rfl ⟨B3,rfl,rfl,0,by omega,o3'⟩ ?_
 clear o3' B3;rintro F g ⟨hg,f0,f3,j,hj,ho⟩;obtain⟨p4,c4,f4,_⟩:=ho.open;have ml:=Ov l j;obtain⟨M,hM⟩:=Zx (l.length+j+1);rw[ml,←hM]at f4;have ZAh:Hg l.length<64:=by unfold Hg;omega
 have d1:(M:Int).tmod 64=((M%64:Nat):Int):=rfl;have T7:=hg.size;by_cases hm:M%64=56
 case neg=>
  have Ln:¬((M%64:Nat):Int)=56:=by omega
  have YA:j≠Hg l.length:=fun e=>hm (by rw[hM];exact (Dy hj).2 e);simp -implicitDefEqProofs only[go_sem,↓reduceIte,f0,f3,f4,d1,Ln];have tM:=ho;rw[f4]at tM;refine Zv (E:=5) (B:=h.size+1) YD Tryz.underlying48 Wg WY WX (tM.push _) (by simp;omega) (Bs.one (x:=0) (by omega) 1) (by rw[ml];simp;omega) ?_;intro w' g' R7 XH _;obtain⟨p5,c5,rfl,_⟩:=R7.open;simp -implicitDefEqProofs only[go_sem,↓reduceIte,f0,f3];refine⟨⟨(hg.Yi (by omega) _).trans XH,f0,f3,j+1,by omega,?_⟩,?_⟩
  ·rw[AY];exact R7
  ·simp only[aQ,Zi,↓reduceIte,f4,List.length_append,ml,List.length_singleton];omega
 have hjn:j=Hg l.length:=(Dy hj).1 (by rw[←hM];exact hm);have Ln:((M%64:Nat):Int)=56:=by omega
 simp -implicitDefEqProofs only[go_sem,↓reduceIte,f0,f3,f4,d1,Ln];refine VS.ZW (fun F g=>Zf (h.size+1) h1 g∧F 0=.slice p l.length cp∧F 3=.pointer (some ⟨h.size,0,none⟩)∧∃k:Nat,k≤8∧F 5=.int .i64 (56-8*(k:Int))∧Z0 (h.size+1) 5 g (F 4) (Sp l j++(Hv l.length).take k))
  (fun F _=>(vi (F 5)+8).toNat) rfl ⟨hg,f0,f3,0,by omega,rfl,by rw[List.take_zero,List.append_nil];exact ho⟩ ?_
 clear f0 f3 f4 d1 hm Ln ho hg T7 F g;rintro F g ⟨hg,f0,f3,k,hk,f5,ho⟩;have T7:=hg.size;obtain⟨y,hy⟩:∃y:Int,y=56-8*(k:Int):=⟨_,rfl⟩
 rw[←hy]at f5;by_cases ZD:k<8
 ·have iF:0≤y:=by omega
  have FJ:¬y<0:=by omega
  obtain⟨X,hX⟩:=Zx ((Hv l.length).getD k 0);have hXb:X<256:=by rw[hX];exact ZI (je _) k
  obtain⟨xL,hxL⟩:∃x:Int,x=((8*l.length:Nat):Int):=⟨_,rfl⟩
  have eL:Unit→8*(l.length:Int)=xL:=fun _=>by rw[hxL];omega
  have xLb:0≤xL∧xL≤1000000:=by rw[hxL];omega
  have sh:Unit→YV .i64 xL y%256=(X:Int):=fun _=>by
   rw[hxL,hy,show (56:Int)-8*(k:Int)=((56-8*k:Nat):Int) by omega,hX];exact wh hl ZD
  have ml2:(Sp l j++(Hv l.length).take k).length≤200000:=by rw[List.length_append,ml,List.length_take];omega
  have et:(Hv l.length).take (k+1)=(Hv l.length).take k++[X]:=by
   rw[Yl _ k (by rw[MF];exact ZD),hX,List.getD_eq_getElem?_getD,List.getElem?_eq_getElem (by rw[MF];exact ZD)];rfl
  clear hX hxL;simp -implicitDefEqProofs only[go_sem,↓reduceIte,f0,f3,f5,iF,FJ,eL (),sh ()];refine Zv (E:=5) (B:=h.size+1) YD Tryz.underlying48 Wg WY WX (ho.push _) (by simp;omega) (Bs.one hXb 1) (by simp only[List.length_singleton];omega) ?_;intro w' g' R7 XH _;simp -implicitDefEqProofs only[go_sem,↓reduceIte,f0,f3,f5];refine⟨⟨(hg.Yi (by omega) _).trans XH,f0,f3,k+1,ZD,?_,?_⟩,?_⟩
  ·show Value.int .i64 _=_
   congr 1;omega
  ·rw[et,←List.append_assoc];exact R7
  ·simp only[vi,Zi,↓reduceIte,f5];omega
 ·have iF:¬0≤y:=by omega
  obtain rfl:k=8:=by omega
  have ep:Sp l j++(Hv l.length).take 8=WZ l:=by rw[hjn];rfl
  rw[ep]at ho;have pl:=Fz l;obtain⟨N,hN⟩:=Zx (ij l.length);have hN1:0<N:=by rw[hN];unfold ij;omega
  have hN2:N≤2000:=by rw[hN];unfold ij;omega
  rw[←hN]at pl;have wo:=hg.get (by omega) x1;have bh:Zf h.size h g:=b1.trans (hg.mono (by omega));obtain⟨bp,cP,f4,hbp,hcP⟩:∃bp c,F 4=.slice (some ⟨bp,0,none⟩) (64*N) c∧h.size+1≤bp∧64*N≤c:=by
   rcases ho.own with⟨_,hm,_⟩|⟨b,cap,sp,hB,hv,_,_,_,hc⟩
   ·omega
   ·rw[pl]at hv hc;exact⟨b,cap,hv,hB,hc⟩
  have sP:=ho.bs;rw[f4]at sP;simp -implicitDefEqProofs only[go_sem,↓reduceIte,f0,f3,f5,iF];refine VS.ZW (fun F g=>Zf h.size h g∧F 3=.pointer (some ⟨h.size,0,none⟩)∧∃j op c:Nat,j≤N∧F 4=.slice (some ⟨bp,op,none⟩) (64*(N-j)) c∧64*(N-j)≤c∧Bs g (.slice (some ⟨bp,op,none⟩) (64*(N-j)) c) ((WZ l).drop (64*j))∧g[h.size]? = some (.cells ((Dx (WZ l) j).map wv++[]).toArray 155))
   (fun F _=>aQ (F 4)) rfl ⟨bh,f3,0,0,cP,by omega,f4,hcP,by exact sP,wo⟩ ?_
  clear f0 f3 f4 f5 hy iF ZD ho sP wo bh hg T7 ep hcP F g;rintro F g ⟨hg,f3,j,op,c,hj,f4,hc,sP,wo⟩;have T7:=Za wo;by_cases ZD:j<N
  ·obtain⟨L,hL⟩:=Zx (64*(N-j));rw[←hL]at f4 hc sP;have ZAi:64≤L:=by omega
   have lj:((WZ l).drop (64*j)).length=L:=by rw[List.length_drop,pl];omega
   have hL0:0<(L:Int):=by omega
   have Zgt:(64:Int)≤(c:Int):=by omega
   have dm:¬c=0:=by omega
   simp -implicitDefEqProofs only[go_sem,↓reduceIte,f3,f4,hL0,Zgt,dm,Nat.sub_zero,Nat.zero_mul];have sB:Bs g (.slice (some ⟨bp,op,none⟩) 64 c) (((WZ l).drop (64*j)).take 64):=by
    rw[←lj]at sP;exact Bs.Rl sP (by omega) c
   obtain⟨dl,dw⟩:=Ou (WZ l) j;refine (D9 T g h.size (Dx (WZ l) j) _ (((WZ l).drop (64*j)).take 64) dl dw sB (by rw[List.length_take,lj];omega) (tk.Je hg) wo (by have:=tk.1;omega)).use ?_;rintro _ g2 ⟨Pa,Pe⟩;have QW:Zf h.size h g2:=hg.trans (Pa.Z2 (by omega) (fun b e=>by have:=Option.some.inj e;omega));have sP2:=wm sP Pa (by omega);by_cases hce:c=64
   ·have hLe:L=64:=by omega
    have ZoP:(c:Int)=64:=by omega
    have zH:(L:Int)=64:=by omega
    subst hce hLe;simp -implicitDefEqProofs only[go_sem,↓reduceIte,f3,f4,ZoP,zH];refine⟨⟨QW,f3,j+1,op,0,ZD,?_,by omega,?_,Pe⟩,?_⟩
    ·show Value.slice _ _ _=_;rw[show 64*(N-(j+1))=0 by omega]
    ·rw[show 64*(N-(j+1))=0 by omega,List.drop_of_length_le (by rw[pl];omega)];exact (Z0.I9 0 5 _ _).bs
    ·simp only[aQ,Zi,↓reduceIte,f4];omega
   ·have Zgu:(64:Int)≤(L:Int):=by omega
    simp -implicitDefEqProofs only[go_sem,↓reduceIte,f3,f4,Zgt,Zgu,hce];refine⟨⟨QW,f3,j+1,op+64,c-64,ZD,?_,by omega,?_,Pe⟩,?_⟩
    ·show Value.slice _ _ _=_;rw[show L-64=64*(N-(j+1)) by omega]
    ·have:=TH sP2 (k:=64) (by omega) lj (c-64);rw[List.drop_drop,show L-64=64*(N-(j+1)) by omega,show 64*j+64=64*(j+1) by omega]at this;exact this
    ·simp only[aQ,Zi,↓reduceIte,f4];omega
  ·obtain rfl:j=N:=by omega
   have eS:WH l=Zr (Dx (WZ l) j):=by rw[WH,←hN]
   obtain⟨dl,dw⟩:=Ou (WZ l) j;obtain⟨D,hD⟩:=Zx (Dx (WZ l) j);rw[←hD]at dl dw wo eS;rw[eS];have r0:rd g ⟨h.size,0,none⟩ 8=some (D.map wv):=by rw[List.append_nil]at wo;exact Zq wo (by simp[dl])
   rw[Nat.sub_self,Nat.mul_zero]at f4;have hz:¬h.size=g.size:=by omega
   simp -implicitDefEqProofs only[go_sem,↓reduceIte,f3,f4,r0,hz];have hBo:Zf h.size h (g.push (.cells (X2 32 [Value.int .u8 0]).toArray 5)):=hg.add _;have oO:Z0 h.size 5 (g.push (.cells (X2 32 [Value.int .u8 0]).toArray 5)) (.slice (some ⟨g.size,0,none⟩) 0 32) (Zr (D.take 0)):=
    ⟨.inr ⟨g.size,32,X2 32 [Value.int .u8 0],hg.size,rfl,Zb,rfl,rfl,Nat.zero_le 32⟩,fun x hx=>by cases hx⟩
   refine VS.ZW (fun F g=>Zf h.size h g∧F 43=.agg (D.map wv).toArray∧∃i:Nat,i≤8∧F 44=.int .i64 i∧Z0 h.size 5 g (F 6) (Zr (D.take i)))
    (fun F _=>8-(vi (F 44)).toNat) rfl ⟨hBo,rfl,0,by omega,rfl,oO⟩ ?_
   clear f3 f4 ZD wo r0 hz hBo oO sP hc hg T7 g F;rintro F g ⟨hg,f43,i,hi,f44,ho⟩;have T7:=hg.size;by_cases ZD:i<8
   ·have ZL:(i:Int)<8:=by omega
    obtain⟨x,hx⟩:=Zx (D.getD i 0);have hxb:x<4294967296:=by rw[hx];exact dw.getD i
    have et:D.take (i+1)=D.take i++[x]:=by
     rw[Yl _ i (by omega),hx,List.getD_eq_getElem?_getD,List.getElem?_eq_getElem (by omega)];rfl
    obtain⟨yx,jf⟩:∃y:Int,y=(x:Int):=⟨_,rfl⟩
    obtain⟨z0,Et⟩:∃y:Int,y=((x/16777216%256:Nat):Int):=⟨_,rfl⟩
    obtain⟨z1,Fu⟩:∃y:Int,y=((x/65536%256:Nat):Int):=⟨_,rfl⟩
    obtain⟨z2,az⟩:∃y:Int,y=((x/256%256:Nat):Int):=⟨_,rfl⟩
    obtain⟨z3,wq⟩:∃y:Int,y=((x%256:Nat):Int):=⟨_,rfl⟩
    have n1:nth (D.map wv) i=some (.int .u32 yx):=by
     rw[Yh,List.getElem?_map,jf,hx,List.getD_eq_getElem?_getD,List.getElem?_eq_getElem (by omega)];rfl
    have e1:Unit→YV .u32 yx 24%256=z0:=fun _=>by rw[jf,Et,show (24:Int)=((24:Nat):Int) from rfl,Ui x 24 (by decide)];rfl
    have e2:Unit→YV .u32 yx 16%256=z1:=fun _=>by rw[jf,Fu,show (16:Int)=((16:Nat):Int) from rfl,Ui x 16 (by decide)];rfl
    have e3:Unit→YV .u32 yx 8%256=z2:=fun _=>by rw[jf,az,show (8:Int)=((8:Nat):Int) from rfl,Ui x 8 (by decide)];rfl
    have e4:Unit→yx%256=z3:=fun _=>by rw[jf,wq];rfl
    have XW:(Zr (D.take i)).length≤32:=by rw[ZC,List.length_take];omega
    clear jf hx;simp -implicitDefEqProofs only[go_sem,↓reduceIte,f43,f44,ZL,n1,e1 (),e2 (),e3 (),e4 ()];subst Et Fu az wq;refine Zv (E:=5) (B:=h.size) YD Tryz.underlying48 Wg WY WX (ho.push _) (by simp;omega) (Bs.made (l:=Xb x) (Qx x) 4) (by simp[Xb];omega) ?_;intro w' g' R7 XH _;simp -implicitDefEqProofs only[go_sem,↓reduceIte,f43,f44];refine⟨⟨(hg.add _).trans XH,f43,i+1,ZD,rfl,?_⟩,?_⟩
    ·rw[et];unfold Zr at R7 ⊢;rw[List.flatMap_append];simp only[List.flatMap_cons,List.flatMap_nil,List.append_nil];exact R7
    ·simp only[vi,Zi,↓reduceIte,f44];omega
   ·have YJ:¬(i:Int)<8:=by omega
    obtain rfl:i=8:=by omega
    rw[List.take_of_length_le (by omega)]at ho;simp -implicitDefEqProofs only[go_sem,↓reduceIte,f43,f44,YJ];exact⟨ho,hg⟩
def TJ (n:Nat):Int:=if 2000<n then 1 else 0
def pM (B:Nat) (h':Hp) (v':Value) (l:List Nat):Prop:=∃w,v'=.tuple [w,.int .i64 (TJ l.length)].toArray∧Z0 B 5 h' w (if TJ l.length=0 then WH l else [])
theorem NJ (T:World) (h:Hp) (v:Value) (l:List Nat) (s:Bs h v l) (tk:Tk h) :
  Zc Tryz.prog T 27 #[v] h fun v' h'=>pM h.size h' v' l∧Zf h.size h h':=by
 obtain⟨p,cp,rfl,Us⟩:=s.open;refine Zc.Zk (args:=[_]) Tryz.func27 rfl rfl rfl rfl ?_;unfold pM TJ;by_cases hl:2000<l.length
 ·have Br:2000<(l.length:Int):=by omega
  simp -implicitDefEqProofs only[go_sem,↓reduceIte,Br,hl];exact⟨_,rfl,Z0.nil _ _ _⟩
 ·have Br:¬2000<(l.length:Int):=by omega
  simp -implicitDefEqProofs only[go_sem,↓reduceIte,Br,hl];refine (FV T _ _ l s (by omega) tk).use ?_;rintro w h1 ⟨o1,b1⟩;simp -implicitDefEqProofs only[go_sem,↓reduceIte,b1];exact⟨_,rfl,o1⟩
def OP (body:List Nat):List Nat:=body.length :: body
def Yo (body:List Nat):List Nat:=OP body++(WH (OP body)).take 4
theorem QE (body:List Nat):(OP body).length=body.length+1:=rfl
theorem Uy (body:List Nat):(Yo body).length=body.length+5:=by
 rw[Yo,List.length_append,List.length_take,X9,QE];omega
def YU (l:List Nat) (n:Int):Prop:=l.length≤100000∧0≤n∧n≤l.length
instance (l:List Nat) (n:Int):Decidable (YU l n):=by unfold YU;infer_instance
def JU (l:List Nat) (n:Int) (k:Nat):Int:=if ¬YU l n then 5 else if 100000<l.length+(k+5) then 8 else 0
def TK (B:Nat) (h':Hp) (v':Value) (l:List Nat) (n:Int) (E:Int) (add:List Nat):Prop:=
 ∃w,v'=.tuple [.agg [w,.int .i64 (if E=0 then n else 0)].toArray,.int .i64 E].toArray∧Z0 B 5 h' w (if E=0 then l++add else [])
theorem Tv.Zb2 {h g:Hp} {b:Nat} {o:Obj} (a:Tv (some b) h g):Tv (some b) h (g.setIfInBounds b o):=
 ⟨by rw[Array.size_setIfInBounds];exact a.size,fun k hk YA=>by rw[Array.getElem?_setIfInBounds,if_neg (fun e=>YA (by rw[e])),a.block k hk YA]⟩
theorem Tb (T:World) (h:Hp) (v u:Value) (n:Int) (l body:List Nat) (s:Bs h v l) (hl:l.length≤140737488355328) (sb:Bs h u body) (hb:body.length≤255) (tk:Tk h) :
  Zc Tryz.prog T 115 #[.agg [v,.int .i64 n].toArray,u] h fun v' h'=>TK h.size h' v' l n (JU l n body.length) (Yo body)∧Zf h.size h h':=by
 obtain⟨p,c,rfl,_⟩:=s.open;obtain⟨q,d,rfl,_⟩:=sb.open;refine Zc.Zk (args:=[_,_]) Tryz.func115 rfl rfl rfl rfl ?_;unfold TK;simp -implicitDefEqProofs only[go_sem,↓reduceIte];obtain⟨h0,XR⟩:=Zx ((h.push (.cells [.slice p l.length c,.int .i64 n].toArray 76)).push (.cells [.slice none 0 0,.int .i64 0].toArray 76):Hp);have b0:Zf h.size h h0:=by rw[XR];exact ((Zf.refl _ _).add _).add _
 have s0:h0.size=h.size+1+1:=by rw[XR];simp
 have x0:h0[h.size+1]? = some (.cells [.slice none 0 0,.int .i64 0].toArray 76):=by
  rw[XR,Array.getElem?_push,if_pos (by simp)]
 rw[←XR];clear XR;refine (QB T h0 _ n l (s.Z2 b0) hl).use ?_;rintro _ h1 ⟨b1,o1⟩;have s1:=b1.size;by_cases ok:YU l n
 case neg=>
  have ee:JU l n body.length=5:=by unfold JU;rw[if_pos ok]
  rw[if_neg (show ¬(l.length≤100000∧0≤n∧n≤l.length) from ok)]at o1;subst o1;rw[ee];have x1:=b1.get (by omega) x0;have y2:=ZU x1 0;have ZD:h.size+1<h1.size:=by omega
  have YA:¬h.size+1=h1.size:=by omega
  simp -implicitDefEqProofs only[go_sem,↓reduceIte,y2,YA,ZD];exact⟨⟨_,rfl,Z0.nil _ _ _⟩,((b0.trans (b1.mono (by omega))).Zm (by omega) _).Yi (by simp;omega) _⟩
 have ee:JU l n body.length=if 100000<l.length+(body.length+5) then 8 else 0:=by unfold JU;rw[if_neg (fun hn=>hn ok)]
 rw[if_pos (show (l.length≤100000∧0≤n∧n≤l.length) from ok)]at o1;obtain⟨w,rfl,o1⟩:=o1;obtain⟨pw,cw,rfl,_⟩:=o1.open;have B1:=b0.trans (b1.mono (by omega));have x1:=b1.get (by omega) x0;obtain⟨oB,HS,hn1⟩:=ok;obtain⟨h2,Uz⟩:=Zx (h1.push (.cells [.slice pw l.length cw,.int .i64 n].toArray 76):Hp);have b2:Zf h1.size h1 h2:=by rw[Uz];exact Zf.push (Nat.le_refl _) _
 have s2:h2.size=h1.size+1:=by rw[Uz];simp
 have x6:h2[h1.size]? = some (.cells [.slice pw l.length cw,.int .i64 n].toArray 76):=by rw[Uz];exact Zb
 have eb:(body.length:Int)%256=(body.length:Int):=by omega
 have e2:h1.push (.cells #[Value.slice pw l.length cw,.int .i64 n] 76)=h2:=Uz.symm;simp -implicitDefEqProofs only[go_sem,↓reduceIte,eb];rw[e2];clear e2 Uz;rw[←s2];have B2:=B1.trans (b2.mono B1.size);have o2:=o1.Z2 b2 (Nat.le_refl _);have Lr:∀x∈[body.length],x<256:=by intro x hx;rw[List.mem_singleton.1 hx];omega
 have of0:Z0 h2.size 5 (h2.push (.cells (([body.length]:List Nat).map bv).toArray 5)) (.slice (some ⟨h2.size,0,none⟩) 1 1) [body.length]:=Z0.made Lr (Nat.le_refl _);have bp:Zf h2.size h2 (h2.push (.cells (([body.length]:List Nat).map bv).toArray 5)):=Zf.push (Nat.le_refl _) _;refine Zv (E:=5) (B:=h2.size) YD Tryz.underlying48 Wg WY WX of0 (by simp) (sb.Z2 (B2.trans (bp.mono (by omega)))) (by simp;omega) ?_;intro wf h3 of3 b3 _;have B3:Zf h2.size h2 h3:=bp.trans b3;have Bw:=B2.trans (B3.mono (by omega));have Zgv:Z0 h2.size 5 h3 wf (OP body):=of3;clear of0 bp of3 b3;have fl:=QE body;have fsl:=Uy body;have efr:Yo body=OP body++(WH (OP body)).take 4:=rfl;have shl:=X9 (OP body);simp -implicitDefEqProofs only[go_sem,↓reduceIte];refine (NJ T h3 wf (OP body) Zgv.bs (tk.Je Bw)).use ?_;rintro _ h4 ⟨⟨ws,rfl,os⟩,b4⟩;have e0:TJ (OP body).length=0:=by unfold TJ;rw[if_neg (by omega)]
 rw[e0,if_pos rfl]at os;rw[e0];generalize WH (OP body)=SH at *;obtain⟨ps,cs,rfl,YS⟩:=os.open;have sS:=os.bs;obtain⟨p',c',hv,hh⟩:=sS.UL;simp only[Value.slice.injEq]at hv;obtain⟨rfl,_,rfl⟩:=hv;obtain⟨bb,ob,rfl,_⟩:=hh (by intro e;rw[e]at shl;cases shl);have s4:=Bs.Rl sS (m:=4) (by omega) cs;rw[shl]at YS ⊢;have h4c:(4:Int)≤(cs:Int):=by omega
 have FD:¬cs=0:=by omega
 have of4:=Zgv.Z2 b4 (Nat.le_refl _);have s3:=B3.size;have s4s:=b4.size;have B4:Zf h2.size h2 h4:=B3.trans (b4.mono s3);simp -implicitDefEqProofs only[go_sem,↓reduceIte,h4c,FD,Nat.sub_zero,Nat.zero_mul];refine Zv (E:=5) (B:=h2.size) YD Tryz.underlying48 Wg WY WX of4 (by omega) s4 (by rw[fl,List.length_take];omega) ?_;intro wg h5 og b5 _;rw[←efr]at og;have B5:Zf h2.size h2 h5:=B4.trans b5;have s5:=B5.size;have Bh5:=B2.trans (B5.mono (by omega));obtain⟨pg,cg,rfl,_⟩:=og.open;rw[fsl];have x65:=B5.get (by omega) x6;have r65:V.hc h5 ⟨h1.size,0,none⟩=some (.slice pw l.length cw):=by rw[Zh x65];rfl
 have o5:=o2.Z2 B5 (Nat.le_refl _);have x15:h5[h.size+1]? = some (.cells [.slice none 0 0,.int .i64 0].toArray 76):=B5.get (by omega) (b2.get (by omega) x1);generalize Yo body=FR at *;by_cases q:100000<l.length+(body.length+5)
 ·have q':100000<(l.length:Int)+((body.length+5:Nat):Int):=by omega
  have y2:=ZU x15 0;have ZD:h.size+1<h5.size:=by omega
  rw[if_pos q]at ee;rw[ee];simp -implicitDefEqProofs only[go_sem,↓reduceIte,r65,q',y2,ZD];exact⟨⟨_,rfl,Z0.nil _ _ _⟩,Bh5.Zm (by omega) _⟩
 ·have q':¬100000<(l.length:Int)+((body.length+5:Nat):Int):=by omega
  rw[if_neg q]at ee;rw[ee];simp -implicitDefEqProofs only[go_sem,↓reduceIte,r65,q'];have ogb:Bs h5 (.slice pg (body.length+5) cg) FR:=by rw[←fsl];exact og.bs
  refine Qo (E:=5) (B:=h0.size) YD Tryz.underlying48 Wg WY WX o5 (by omega) ogb (by omega) ?_;intro wz h6 oz b6 bt6 bk6;have s6:=b6.size;have au:∀b,ZO (Value.slice pw l.length cw)=some b→b<h1.size:=o1.own.lt;have x66:h6[h1.size]? = some (.cells [.slice pw l.length cw,.int .i64 n].toArray 76):=by
   rw[bt6.block _ (by omega) (fun e=>by have:=au _ e;omega)];exact x65
  have x16:h6[h.size+1]? = some (.cells [.slice none 0 0,.int .i64 0].toArray 76):=b6.get (by omega) x15;obtain⟨pz,cz,hwz,_⟩:=oz.open;have zl:(l++FR).length=l.length+(body.length+5):=by rw[List.length_append,fsl]
  rw[zl]at hwz;subst hwz;have w66:=YC (v:=.slice pz (l.length+(body.length+5)) cz) x66 (o:=0);obtain⟨h7,wu⟩:=Zx (h6.setIfInBounds h1.size (.cells [.slice pz (l.length+(body.length+5)) cz,.int .i64 n].toArray 76):Hp);have ZoS:JJ h6 ⟨h1.size,0,none⟩ (.slice pz (l.length+(body.length+5)) cz)=some h7:=by rw[w66,if_pos ⟨by simp,rfl⟩,wu];rfl
  have b7:Tv (some h1.size) h6 h7:=by rw[wu];exact Tv.Zb2 Tv.refl
  have x77:h7[h1.size]? = some (.cells [.slice pz (l.length+(body.length+5)) cz,.int .i64 n].toArray 76):=by rw[wu,Array.getElem?_setIfInBounds,if_pos rfl,if_pos (by omega)]
  have x17:h7[h.size+1]? = some (.cells [.slice none 0 0,.int .i64 0].toArray 76):=by
   rw[b7.block _ (by omega) (fun e=>by have:=Option.some.inj e;omega)];exact x16
  have oz7:=oz.M0 b7 (fun b hb e=>by
   have e':=Option.some.inj e;rcases bk6 b hb with g1|g1
   ·have:=au b g1;omega
   ·omega)
  have r77:rd h7 ⟨h1.size,0,none⟩ 2=some [.slice pz (l.length+(body.length+5)) cz,.int .i64 n]:=Zq x77 rfl;have y7:=ZU x17 0;have KW:h.size+1<h7.size:=Za x17;have Ew:Zf h.size h h6:=Bh5.trans (b6.mono (by omega));have IV:Zf h.size h h7:=Ew.trans (b7.Z2 (by omega) (fun b e=>by have:=Option.some.inj e;omega));clear wu w66;simp -implicitDefEqProofs only[go_sem,↓reduceIte,ZoS,r77,y7,KW];refine⟨⟨_,rfl,?_⟩,IV.Zm (by omega) _⟩;exact (oz7.ZP (by omega) _).mono (by omega)
theorem U3 (g:Hp) (ns:List Nat):NT (g.push (.cells (ns.map nv).toArray 3)) (.slice (some ⟨g.size,0,none⟩) ns.length ns.length) ns:=by
 constructor
 rw[Ur nv];exact Sl.made (by simp) _
theorem Tc (T:World) (h:Hp) (u:Value) (ns:List Nat) (s:NT h u ns) (hl:ns.length≤100) (hb:∀x∈ns,x≤1073741824) :
  Zc Tryz.prog T 116 #[u] h fun v' h'=>Z0 h.size 5 h' v' (Zr ns)∧Zf h.size h h':=by
 obtain⟨p,c,rfl,YS⟩:=vq s;refine Zc.Zk (args:=[_]) Tryz.func116 rfl rfl rfl rfl ?_;simp -implicitDefEqProofs only[go_sem,↓reduceIte];refine VS.ZW (fun F g=>Zf h.size h g∧F 6=.slice p ns.length c∧F 7=.int .i64 ns.length∧∃i:Nat,i≤ns.length∧F 8=.int .i64 i∧Z0 h.size 5 g (F 3) (Zr (ns.take i)))
  (fun F _=>ns.length-(vi (F 8)).toNat) rfl ⟨Zf.refl _ _,rfl,rfl,0,by omega,rfl,Z0.nil _ _ _⟩ ?_
 rintro F g ⟨hg,f6,f7,i,hi,f8,ho⟩;have T7:=hg.size;by_cases ZD:i<ns.length
 ·have ZL:(i:Int)<ns.length:=by omega
  obtain⟨b,o,rfl,kU,YS⟩:=YS (by intro e;rw[e]at ZD;simp at ZD);have n1:V.hc g ⟨b,o+i,none⟩=some (.int .i64 (ns.getD i 0:Nat)):=by rw[hg.hc (by exact kU)];exact YS i ZD
  have et:ns.take (i+1)=ns.take i++[ns.getD i 0]:=by
   rw[Yl _ i ZD,List.getD_eq_getElem?_getD,List.getElem?_eq_getElem ZD];rfl
  have hx:ns.getD i 0≤1073741824:=by
   rw[List.getD_eq_getElem?_getD,List.getElem?_eq_getElem ZD];exact hb _ (List.getElem_mem ZD)
  generalize ns.getD i 0=x at *;obtain⟨yx,jf⟩:∃y:Int,y=(x:Int):=⟨_,rfl⟩
  obtain⟨z0,Et⟩:∃y:Int,y=((x/16777216%256:Nat):Int):=⟨_,rfl⟩
  obtain⟨z1,Fu⟩:∃y:Int,y=((x/65536%256:Nat):Int):=⟨_,rfl⟩
  obtain⟨z2,az⟩:∃y:Int,y=((x/256%256:Nat):Int):=⟨_,rfl⟩
  obtain⟨z3,wq⟩:∃y:Int,y=((x%256:Nat):Int):=⟨_,rfl⟩
  rw[←jf]at n1;have e1:Unit→YV .i64 yx 24%256=z0:=fun _=>by rw[jf,Et,show (24:Int)=((24:Nat):Int) from rfl,J8 x 24 (by decide)];rfl
  have e2:Unit→YV .i64 yx 16%256=z1:=fun _=>by rw[jf,Fu,show (16:Int)=((16:Nat):Int) from rfl,J8 x 16 (by decide)];rfl
  have e3:Unit→YV .i64 yx 8%256=z2:=fun _=>by rw[jf,az,show (8:Int)=((8:Nat):Int) from rfl,J8 x 8 (by decide)];rfl
  have e4:Unit→yx%256=z3:=fun _=>by rw[jf,wq];rfl
  have XW:(Zr (ns.take i)).length≤400:=by rw[ZC,List.length_take];omega
  clear jf;simp -implicitDefEqProofs only[go_sem,↓reduceIte,f6,f7,f8,ZL,n1,e1 (),e2 (),e3 (),e4 ()];subst Et Fu az wq;refine Zv (E:=5) (B:=h.size) YD Tryz.underlying48 Wg WY WX (ho.push _) (by simp;omega) (Bs.made (l:=Xb x) (Qx x) 4) (by simp[Xb];omega) ?_;intro w' g' R7 XH _;simp -implicitDefEqProofs only[go_sem,↓reduceIte,f6,f7,f8];refine⟨⟨(hg.add _).trans XH,f6,f7,i+1,ZD,rfl,?_⟩,?_⟩
  ·rw[et];unfold Zr at R7 ⊢;rw[List.flatMap_append];simp only[List.flatMap_cons,List.flatMap_nil,List.append_nil];exact R7
  ·simp only[vi,Zi,↓reduceIte,f8];omega
 ·have YJ:¬(i:Int)<ns.length:=by omega
  obtain rfl:i=ns.length:=by omega
  rw[List.take_length]at ho;simp -implicitDefEqProofs only[go_sem,↓reduceIte,f6,f7,f8,YJ];exact⟨ho,hg⟩
def Qi (l:List Nat) (n:Int) (b:YN):Int:=if ¬YU l n then 5 else if ¬ZQ b then 2 else JU l n 9
def X3 (b:YN):List Nat:=1 :: Zr [b.r.toNat,b.n.toNat]
theorem aR (b:YN):Yu ⟨0,0⟩ [] b=if ZQ b then 0 else 2:=by
 have e:XD ⟨0,0⟩ []=0:=rfl;unfold Yu;rw[if_neg (by rw[e];decide)];by_cases q:ZQ b
 ·rw[if_neg (fun hn=>hn q),if_pos q,if_neg];intro hb;have q1:=q.1.1;rcases hb with hb|⟨hb,_⟩<;>simp at hb<;>omega
 ·rw[if_pos q,if_neg q]
theorem MG (T:World) (h:Hp) (v:Value) (n:Int) (l:List Nat) (b:YN) (s:Bs h v l) (hl:l.length≤140737488355328) (tk:Tk h) :
  Zc Tryz.prog T 90 #[.agg [v,.int .i64 n].toArray,.agg (Jr b).toArray] h fun v' h'=>TK h.size h' v' l n (Qi l n b) (Yo (X3 b))∧Zf h.size h h':=by
 obtain⟨p,c,rfl,_⟩:=s.open;refine Zc.Zk (args:=[_,_]) Tryz.func90 rfl rfl rfl rfl ?_;unfold TK Jr;simp -implicitDefEqProofs only[go_sem,↓reduceIte];obtain⟨h0,XR⟩:=Zx (((h.push (.cells [.slice p l.length c,.int .i64 n].toArray 76)).push (.cells [.int .i64 b.r,.int .i64 b.n].toArray 78)).push (.cells [.slice none 0 0,.int .i64 0].toArray 76):Hp);have b0:Zf h.size h h0:=by rw[XR];exact (((Zf.refl _ _).add _).add _).add _
 have s0:h0.size=h.size+3:=by rw[XR];simp
 have t0:h0[h.size]? = some (.cells [.slice p l.length c,.int .i64 n].toArray 76):=by
  rw[XR,Array.getElem?_push,if_neg (by simp;omega),Array.getElem?_push,if_neg (by simp),Zb]
 have t1:h0[h.size+1]? = some (.cells [.int .i64 b.r,.int .i64 b.n].toArray 78):=by
  rw[XR,Array.getElem?_push,if_neg (by simp),Array.getElem?_push,if_pos (by simp)]
 have x0:h0[h.size+2]? = some (.cells [.slice none 0 0,.int .i64 0].toArray 76):=by
  rw[XR,Array.getElem?_push,if_pos (by simp)]
 rw[←XR];clear XR;refine (QB T h0 _ n l (s.Z2 b0) hl).use ?_;rintro _ h1 ⟨b1,o1⟩;have s1:=b1.size;have B1:Zf h.size h h1:=b0.trans (b1.mono (by omega));have x1:=b1.get (by omega) x0;by_cases ok:YU l n
 case neg=>
  have ee:Qi l n b=5:=by unfold Qi;rw[if_pos ok]
  rw[if_neg (show ¬(l.length≤100000∧0≤n∧n≤l.length) from ok)]at o1;subst o1;rw[ee];have y2:=ZU x1 0;have ZD:h.size+2<h1.size:=by omega
  have YA:¬h.size+2=h1.size:=by omega
  simp -implicitDefEqProofs only[go_sem,↓reduceIte,y2,YA,ZD];exact⟨⟨_,rfl,Z0.nil _ _ _⟩,(B1.Zm (by omega) _).Yi (by simp;omega) _⟩
 rw[if_pos (show (l.length≤100000∧0≤n∧n≤l.length) from ok)]at o1;obtain⟨w,rfl,o1⟩:=o1;obtain⟨pw,cw,rfl,_⟩:=o1.open;have bt1:=b1.get (by omega) t1;have r1:rd h1 ⟨h.size+1,0,none⟩ 2=some [.int .i64 b.r,.int .i64 b.n]:=Zq bt1 rfl;have Hw:¬h.size+1=h1.size:=by omega
 simp -implicitDefEqProofs only[go_sem,↓reduceIte,r1,Hw];have b2:Zf h1.size h1 (h1.push (.cells [.slice pw l.length cw,.int .i64 n].toArray 76)):=Zf.push (Nat.le_refl _) _;refine (TG T _ ⟨0,0⟩ (.slice none 0 0) [] b (Jn.nil 0 109 Zo 8 _).ts (by simp)).use ?_;rintro _ h3 ⟨⟨w1,w2,rfl,q1,q2⟩,b3⟩;simp only[ite_self]at q1;have B3:Zf h1.size h1 h3:=b2.trans (b3.mono b2.size);rw[aR];obtain⟨p1,c1,au,_⟩:=q1.open;have s3:=B3.size;have x3:=B3.get (by omega) x1;have Bw:=B1.trans (B3.mono (by omega));by_cases may:ZQ b
 case neg=>
  have ee:Qi l n b=2:=by unfold Qi;rw[if_neg (fun hn=>hn ok),if_pos may]
  rw[ee,if_neg may];obtain⟨w1',ZAw⟩:∃w,w=w1:=⟨_,rfl⟩
  subst au;have y2:=ZU x3 0;have ZD:h.size+2<h3.size:=by omega
  have YA:¬h.size+2=h3.size:=by omega
  unfold YT;simp -implicitDefEqProofs only[go_sem,↓reduceIte,y2,YA,ZD];exact⟨⟨_,rfl,Z0.nil _ _ _⟩,(Bw.Zm (by omega) _).Yi (by simp;omega) _⟩
 have ee:Qi l n b=JU l n 9:=by unfold Qi;rw[if_neg (fun hn=>hn ok),if_neg (fun hn=>hn may)]
 rw[ee,if_pos may];obtain⟨⟨m1,m2⟩,m3,m4⟩:=may;obtain⟨br,bn⟩:=b;obtain⟨r,rfl⟩:∃r:Nat,br=r:=⟨br.toNat,by simp at m1;omega⟩
 obtain⟨m,rfl⟩:∃m:Nat,bn=m:=⟨bn.toNat,by simp at m3;omega⟩
 simp only at m1 m2 m3 m4;unfold X3;simp only[Int.toNat_natCast];subst au;unfold YT;have t3:=B3.get (by omega) (b1.get (by omega) t0);have t13:=B3.get (by omega) bt1;obtain⟨g,hg⟩:=Zx (h3.push (.cells [.int .i64 (r:Nat),.int .i64 (m:Nat),.slice p1 ([]:List Vt).length c1].toArray 81):Hp);simp -implicitDefEqProofs only[go_sem,↓reduceIte];have e3:h3.push (.cells #[Value.int .i64 (r:Nat),.int .i64 (m:Nat),.slice p1 0 c1] 81)=g:=hg.symm;rw[e3];have bg:Zf h3.size h3 g:=by rw[hg];exact Zf.push (Nat.le_refl _) _
 have sg:g.size=h3.size+1:=by rw[hg];simp
 clear e3 hg;have Bg:Zf h.size h g:=Bw.trans (bg.mono (by omega));have x4g:=bg.get (by omega) x3;have t4:=bg.get (by omega) t3;have t14:=bg.get (by omega) t13;have r0:rd g ⟨h.size,0,none⟩ 2=some [.slice p l.length c,.int .i64 n]:=Zq t4 rfl;have c0:V.hc g ⟨h.size+1,0,none⟩=some (.int .i64 (r:Nat)):=by rw[Zh t14];rfl
 have c1':V.hc g ⟨h.size+1,1,none⟩=some (.int .i64 (m:Nat)):=by rw[Zh t14];rfl
 have k0:h.size<g.size:=by omega
 have k1:h.size+1<g.size:=by omega
 refine VS.w (g.size) [12,13] (.q 0 (.q 2 (.q 3 (.q 4 (.q 5 (.or 1 (.s 6 (.s 7 (.s 8 (.s 9 (.q 10 (.q 11 (.w 12 (.w 13 .nil)))))))) (.s 6 (.or 1 (.s 7 (.s 8 (.s 9 (.q 10 (.q 11 (.w 12 (.w 13 .nil))))))) (.s 7 (.s 1 (.s 8 (.s 9 (.q 10 (.q 11 (.w 12 (.w 13 .nil)))))))))))))))) mixed (by kernel_rfl) ?_;simp -implicitDefEqProofs only[go_sem,↓reduceIte,r0,c0,c1',k0,k1];refine⟨?_,?_,?_⟩
 ·have o0:Z0 g.size 5 (g.push (.cells (([1]:List Nat).map bv).toArray 5)) (.slice (some ⟨g.size,0,none⟩) 1 1) [1]:=Z0.made (by decide) (Nat.le_refl _);have B0:Zf g.size g ((g.push (.cells (([1]:List Nat).map bv).toArray 5)).push (.cells (([r,m]:List Nat).map nv).toArray 3)):=(Zf.push (Nat.le_refl _) _).Yi (by simp) _;have o00:=o0.push (.cells (([r,m]:List Nat).map nv).toArray 3);have si:NT ((g.push (.cells (([1]:List Nat).map bv).toArray 5)).push (.cells (([r,m]:List Nat).map nv).toArray 3)) (.slice (some ⟨(g.push (.cells (([1]:List Nat).map bv).toArray 5)).size,0,none⟩) 2 2) [r,m]:=U3 _ _;have e1:(g.push (.cells (([1]:List Nat).map bv).toArray 5)).size=g.size+1:=by simp
  rw[e1]at si;refine (Tc T _ _ [r,m] si (by simp) (by intro x hx;simp only[List.mem_cons,List.not_mem_nil,or_false]at hx;omega)).use ?_;rintro w5 h5 ⟨o5,b5⟩;have BB:=B0.trans (b5.mono B0.size);have o1:=o00.Z2 b5 (Nat.le_refl _);have s4:=o5.bs;simp -implicitDefEqProofs only[go_sem,↓reduceIte,BB];refine Zv (E:=5) (B:=g.size) YD Tryz.underlying48 Wg WY WX o1 BB.size s4 (by rw[ZC];simp) ?_;intro w6 h6 o6 b6 _;have B6:Zf g.size g h6:=BB.trans b6;have Ew:=Bg.trans (B6.mono (by omega));have pN:Z0 g.size 5 h6 w6 (1 :: Zr [r,m]):=o6;simp -implicitDefEqProofs only[go_sem,↓reduceIte,B6];refine (Tb T h6 _ w6 n l (1 :: Zr [r,m]) (s.Z2 Ew) hl pN.bs (by simp only[List.length_cons,ZC,List.length_nil];omega) (tk.Je Ew)).use ?_;rintro _ h7 ⟨⟨w7,rfl,o7⟩,b7⟩;have el:(1 :: Zr [r,m]).length=9:=by simp only[List.length_cons,ZC,List.length_nil]
  rw[el]at o7 ⊢;have B7:Zf g.size g h7:=B6.trans (b7.mono B6.size);have IV:=Ew.trans (b7.mono Ew.size);have x7:=B7.get (by omega) x4g;have y7:=ZU x7 0;have KW:h.size+2<h7.size:=Za x7;generalize Yo (1 :: Zr [r,m])=FR at *;obtain⟨E,hE⟩:=Zx (JU l n 9);rw[←hE]at o7 ⊢;obtain⟨z,hz⟩:∃z:Int,z=if E=0 then n else 0:=⟨_,rfl⟩
  rw[←hz];obtain⟨pz,cz,rfl,_⟩:=o7.open;have o7l:=o7;simp -implicitDefEqProofs only[go_sem,↓reduceIte,B7,y7,KW];refine⟨⟨_,rfl,?_⟩,IV.Zm (by omega) _⟩;exact (o7.ZP (by have:=B6.size;omega) _).mono (by have:=B6.size;omega)
 ·have wy:Zf g.size g (g.push (.cells (([r,m]:List Nat).map nv).toArray 3)):=Zf.push (Nat.le_refl _) _;have o0:Z0 g.size 5 ((g.push (.cells (([r,m]:List Nat).map nv).toArray 3)).push (.cells (([1]:List Nat).map bv).toArray 5)) (.slice (some ⟨(g.push (.cells (([r,m]:List Nat).map nv).toArray 3)).size,0,none⟩) 1 1) [1]:=(Z0.made (by decide) (Nat.le_refl _)).mono (by simp);have B0:Zf g.size g ((g.push (.cells (([r,m]:List Nat).map nv).toArray 3)).push (.cells (([1]:List Nat).map bv).toArray 5)):=wy.Yi (by simp) _;have si0:NT (g.push (.cells (([r,m]:List Nat).map nv).toArray 3)) (.slice (some ⟨g.size,0,none⟩) 2 2) [r,m]:=U3 _ _;have si:=si0.Z2 (Zf.push (Nat.le_refl _) (.cells (([1]:List Nat).map bv).toArray 5));have e1:(g.push (.cells (([r,m]:List Nat).map nv).toArray 3)).size=g.size+1:=by simp
  rw[e1]at o0;refine (Tc T _ _ [r,m] si (by simp) (by intro x hx;simp only[List.mem_cons,List.not_mem_nil,or_false]at hx;omega)).use ?_;rintro w5 h5 ⟨o5,b5⟩;have BB:=B0.trans (b5.mono B0.size);have o1:=o0.Z2 b5 (Nat.le_refl _);have s4:=o5.bs;simp -implicitDefEqProofs only[go_sem,↓reduceIte,BB];refine Zv (E:=5) (B:=g.size) YD Tryz.underlying48 Wg WY WX o1 BB.size s4 (by rw[ZC];simp) ?_;intro w6 h6 o6 b6 _;have B6:Zf g.size g h6:=BB.trans b6;have Ew:=Bg.trans (B6.mono (by omega));have pN:Z0 g.size 5 h6 w6 (1 :: Zr [r,m]):=o6;simp -implicitDefEqProofs only[go_sem,↓reduceIte,B6];refine (Tb T h6 _ w6 n l (1 :: Zr [r,m]) (s.Z2 Ew) hl pN.bs (by simp only[List.length_cons,ZC,List.length_nil];omega) (tk.Je Ew)).use ?_;rintro _ h7 ⟨⟨w7,rfl,o7⟩,b7⟩;have el:(1 :: Zr [r,m]).length=9:=by simp only[List.length_cons,ZC,List.length_nil]
  rw[el]at o7 ⊢;have B7:Zf g.size g h7:=B6.trans (b7.mono B6.size);have IV:=Ew.trans (b7.mono Ew.size);have x7:=B7.get (by omega) x4g;have y7:=ZU x7 0;have KW:h.size+2<h7.size:=Za x7;generalize Yo (1 :: Zr [r,m])=FR at *;obtain⟨E,hE⟩:=Zx (JU l n 9);rw[←hE]at o7 ⊢;obtain⟨z,hz⟩:∃z:Int,z=if E=0 then n else 0:=⟨_,rfl⟩
  rw[←hz];obtain⟨pz,cz,rfl,_⟩:=o7.open;have o7l:=o7;simp -implicitDefEqProofs only[go_sem,↓reduceIte,B7,y7,KW];refine⟨⟨_,rfl,?_⟩,IV.Zm (by omega) _⟩;exact (o7.ZP (by have:=B6.size;omega) _).mono (by have:=B6.size;omega)
 ·have wy:Zf g.size g (g.push (.cells (([r,m]:List Nat).map nv).toArray 3)):=Zf.push (Nat.le_refl _) _;have si:NT (g.push (.cells (([r,m]:List Nat).map nv).toArray 3)) (.slice (some ⟨g.size,0,none⟩) 2 2) [r,m]:=U3 _ _;refine (Tc T _ _ [r,m] si (by simp) (by intro x hx;simp only[List.mem_cons,List.not_mem_nil,or_false]at hx;omega)).use ?_;rintro w5 h5 ⟨o5,b5⟩;have wC:=wy.trans (b5.mono wy.size);have BB:Zf g.size g (h5.push (.cells (([1]:List Nat).map bv).toArray 5)):=wC.Yi wC.size _;have o1:Z0 g.size 5 (h5.push (.cells (([1]:List Nat).map bv).toArray 5)) (.slice (some ⟨h5.size,0,none⟩) 1 1) [1]:=(Z0.made (by decide) (Nat.le_refl _)).mono wC.size;have s4:=o5.bs.Z2 (Zf.push (Nat.le_refl h5.size) (.cells (([1]:List Nat).map bv).toArray 5));simp -implicitDefEqProofs only[go_sem,↓reduceIte,wC,BB];refine Zv (E:=5) (B:=g.size) YD Tryz.underlying48 Wg WY WX o1 BB.size s4 (by rw[ZC];simp) ?_;intro w6 h6 o6 b6 _;have B6:Zf g.size g h6:=BB.trans b6;have Ew:=Bg.trans (B6.mono (by omega));have pN:Z0 g.size 5 h6 w6 (1 :: Zr [r,m]):=o6;simp -implicitDefEqProofs only[go_sem,↓reduceIte,B6];refine (Tb T h6 _ w6 n l (1 :: Zr [r,m]) (s.Z2 Ew) hl pN.bs (by simp only[List.length_cons,ZC,List.length_nil];omega) (tk.Je Ew)).use ?_;rintro _ h7 ⟨⟨w7,rfl,o7⟩,b7⟩;have el:(1 :: Zr [r,m]).length=9:=by simp only[List.length_cons,ZC,List.length_nil]
  rw[el]at o7 ⊢;have B7:Zf g.size g h7:=B6.trans (b7.mono B6.size);have IV:=Ew.trans (b7.mono Ew.size);have x7:=B7.get (by omega) x4g;have y7:=ZU x7 0;have KW:h.size+2<h7.size:=Za x7;generalize Yo (1 :: Zr [r,m])=FR at *;obtain⟨E,hE⟩:=Zx (JU l n 9);rw[←hE]at o7 ⊢;obtain⟨z,hz⟩:∃z:Int,z=if E=0 then n else 0:=⟨_,rfl⟩
  rw[←hz];obtain⟨pz,cz,rfl,_⟩:=o7.open;have o7l:=o7;simp -implicitDefEqProofs only[go_sem,↓reduceIte,B7,y7,KW];refine⟨⟨_,rfl,?_⟩,IV.Zm (by omega) _⟩;exact (o7.ZP (by have:=B6.size;omega) _).mono (by have:=B6.size;omega)
theorem Vh (n:Nat):X2 n [Value.int .u8 0]=(List.replicate n 0).map bv:=by
 induction n with
 | zero=>rfl
 | succ n ih=>rw[X2,ih];rfl
theorem KX:∀(vs zs:List Value),vs.length≤zs.length→Yw zs 0 vs=vs++zs.drop vs.length
 | [],zs,_=>by cases zs<;>rfl
 | v :: vs,[],h=>by simp at h
 | v :: vs,z :: zs,h=>by
  rw[Yw,KX vs zs (by simpa using h)];rfl
theorem Ca (key:List Nat):Yw ((List.replicate 64 0).map bv) 0 (((Pk key).map bv).take (min (Pk key).length 64))=(UT key).map bv:=by
 have:=W0 key;rw[Nat.min_eq_left this,List.take_of_length_le (by simp),KX _ _ (by simp;omega),List.length_map,←List.map_drop,List.drop_replicate,UT,List.map_append]
theorem pO (T:World) (h:Hp) (v:Value) (key:List Nat) (w:Nat) (s:Bs h v key) (hk:key.length≤100000) (hw:w<256) (tk:Tk h) :
  Zc Tryz.prog T 127 #[v,.int .u8 w] h fun v' h'=>Z0 h.size 5 h' v' (WJ key w)∧Zf h.size h h':=by
 obtain⟨p,cp,rfl,Us⟩:=s.open;have jd:Ro key:=s.byte;refine Zc.Zk (args:=[_,_]) Tryz.func127 rfl rfl rfl rfl ?_;by_cases e64:64<key.length
 ·have Zb4:64<(key.length:Int):=by omega
  have hK:WH key=Pk key:=by unfold Pk;rw[if_pos e64]
  simp -implicitDefEqProofs only[go_sem,↓reduceIte,Zb4];refine (FV T _ _ key s hk tk).use ?_;rintro u g ⟨ou,bg⟩;have su:=ou.bs;rw[hK]at su;simp -implicitDefEqProofs only[go_sem,↓reduceIte];have hG:Zf h.size h (g.push (.cells (X2 64 [Value.int .u8 0]).toArray 5)):=bg.add _;have sK':=su.Z2 (Zf.push (Nat.le_refl g.size) (.cells (X2 64 [Value.int .u8 0]).toArray 5));have kl:=W0 key;refine Ko (o:=0) (dl:=64) (dc:=64) (c:=X2 64 [Value.int .u8 0]) (E':=5) YD Wg Zb sK'.sl (TA _) (by rw[Vh];simp;omega) ?_;rw[WR,Vh,Ca];have dJ:Zf h.size h (g.push (.cells ((UT key).map bv).toArray 5)):=bg.add _;have S6:(g.push (.cells ((UT key).map bv).toArray 5))[g.size]? = some (.cells (((WJ key w).take 0++(UT key).drop 0).map bv++[]).toArray 5):=by
   rw[List.take_zero,List.drop_zero,List.nil_append,List.append_nil];exact Zb
  simp -implicitDefEqProofs only[go_sem,↓reduceIte];refine VS.ZW (fun F' g'=>Zf h.size h g'∧F' 1=.int .u8 w∧F' 5=.slice (some ⟨g.size,0,none⟩) 64 64∧F' 17=.int .i64 64∧∃i:Nat,i≤64∧F' 18=.int .i64 i∧g'[g.size]? = some (.cells (((WJ key w).take i++(UT key).drop i).map bv++[]).toArray 5))
   (fun F _=>64-(vi (F 18)).toNat) rfl ⟨dJ,rfl,rfl,rfl,0,by omega,rfl,S6⟩ ?_
  clear hG dJ S6 sK';rintro F g' ⟨hg,f1,f5,f17,i,hi,f18,hx⟩;have T7:=Za hx;have vZ:((WJ key w).take i++(UT key).drop i).length=64:=by rw[List.length_append,List.length_take,List.length_drop,ZZ,Ja];omega
  by_cases ZD:i<64
  ·have ZL:(i:Int)<64:=by omega
   have q1:=ZN (f:=bv) hx (i:=i) (by omega);have e0:((WJ key w).take i++(UT key).drop i).getD i 0=(UT key).getD i 0:=by
    rw[List.getD_eq_getElem?_getD,List.getElem?_append_right (by rw[List.length_take,ZZ];omega),List.length_take,ZZ,Nat.min_eq_left (by omega),Nat.sub_self,List.getElem?_drop,Nat.add_zero,←List.getD_eq_getElem?_getD]
   rw[e0]at q1;unfold bv at q1;have eX:=Gd key w ZD;have cs:=Z1 (f:=bv) hx (i:=i) (by omega) ((WJ key w).getD i 0) rfl;rw[Pq _ _ i (by rw[ZZ];exact ZD) (by rw[ZZ,Ja])]at cs;have hZb:=ZI (Nx jd) i;have ox:Unit→Yc .xor .u8 (((UT key).getD i 0:Nat):Int) (w:Int)=(((WJ key w).getD i 0:Nat):Int):=fun _=>by rw[eX];exact Fb _ _ hZb hw
   have l9:JJ g' ⟨g.size,i,none⟩ (.int .u8 (((WJ key w).getD i 0:Nat):Int))=_:=cs;simp -implicitDefEqProofs only[go_sem,↓reduceIte,f1,f5,f17,f18,ZL,q1,ox (),l9];refine⟨⟨hg.Zm (bg.size) _,f1,f5,f17,i+1,ZD,rfl,ZT hx⟩,?_⟩;simp only[vi,Zi,↓reduceIte,f18];omega
  ·have YJ:¬(i:Int)<64:=by omega
   obtain rfl:i=64:=by omega
   rw[List.take_of_length_le (by rw[ZZ];omega),List.drop_of_length_le (by rw[Ja];omega),List.append_nil,List.append_nil]at hx;simp -implicitDefEqProofs only[go_sem,↓reduceIte,f5,f17,f18,YJ];exact⟨⟨.inr ⟨g.size,64,[],bg.size,by rw[ZZ],by rw[List.append_nil];exact hx,by simp[ZZ],by rw[ZZ];rfl,by rw[ZZ];omega⟩,Gc jd hw⟩,hg⟩
 ·have Zb4:¬64<(key.length:Int):=by omega
  have hK:Pk key=key:=by unfold Pk;rw[if_neg e64]
  have b0:=Zf.refl h.size h;have su:=s;have NK:Bs h (.slice p (Pk key).length cp) (Pk key):=by rw[hK];exact s
  simp -implicitDefEqProofs only[go_sem,↓reduceIte,Zb4];have hG:Zf h.size h (h.push (.cells (X2 64 [Value.int .u8 0]).toArray 5)):=b0.add _;have hkl:key.length=(Pk key).length:=by rw[hK]
  rw[hkl];have sK':=NK.Z2 (Zf.push (Nat.le_refl h.size) (.cells (X2 64 [Value.int .u8 0]).toArray 5));have kl:=W0 key;refine Ko (o:=0) (dl:=64) (dc:=64) (c:=X2 64 [Value.int .u8 0]) (E':=5) YD Wg Zb sK'.sl (TA _) (by rw[Vh];simp;omega) ?_;rw[WR,Vh,Ca];have dJ:Zf h.size h (h.push (.cells ((UT key).map bv).toArray 5)):=b0.add _;have S6:(h.push (.cells ((UT key).map bv).toArray 5))[h.size]? = some (.cells (((WJ key w).take 0++(UT key).drop 0).map bv++[]).toArray 5):=by
   rw[List.take_zero,List.drop_zero,List.nil_append,List.append_nil];exact Zb
  simp -implicitDefEqProofs only[go_sem,↓reduceIte];refine VS.ZW (fun F' g'=>Zf h.size h g'∧F' 1=.int .u8 w∧F' 5=.slice (some ⟨h.size,0,none⟩) 64 64∧F' 17=.int .i64 64∧∃i:Nat,i≤64∧F' 18=.int .i64 i∧g'[h.size]? = some (.cells (((WJ key w).take i++(UT key).drop i).map bv++[]).toArray 5))
   (fun F _=>64-(vi (F 18)).toNat) rfl ⟨dJ,rfl,rfl,rfl,0,by omega,rfl,S6⟩ ?_
  clear hG dJ S6 sK';rintro F g' ⟨hg,f1,f5,f17,i,hi,f18,hx⟩;have T7:=Za hx;have vZ:((WJ key w).take i++(UT key).drop i).length=64:=by rw[List.length_append,List.length_take,List.length_drop,ZZ,Ja];omega
  by_cases ZD:i<64
  ·have ZL:(i:Int)<64:=by omega
   have q1:=ZN (f:=bv) hx (i:=i) (by omega);have e0:((WJ key w).take i++(UT key).drop i).getD i 0=(UT key).getD i 0:=by
    rw[List.getD_eq_getElem?_getD,List.getElem?_append_right (by rw[List.length_take,ZZ];omega),List.length_take,ZZ,Nat.min_eq_left (by omega),Nat.sub_self,List.getElem?_drop,Nat.add_zero,←List.getD_eq_getElem?_getD]
   rw[e0]at q1;unfold bv at q1;have eX:=Gd key w ZD;have cs:=Z1 (f:=bv) hx (i:=i) (by omega) ((WJ key w).getD i 0) rfl;rw[Pq _ _ i (by rw[ZZ];exact ZD) (by rw[ZZ,Ja])]at cs;have hZb:=ZI (Nx jd) i;have ox:Unit→Yc .xor .u8 (((UT key).getD i 0:Nat):Int) (w:Int)=(((WJ key w).getD i 0:Nat):Int):=fun _=>by rw[eX];exact Fb _ _ hZb hw
   have l9:JJ g' ⟨h.size,i,none⟩ (.int .u8 (((WJ key w).getD i 0:Nat):Int))=_:=cs;simp -implicitDefEqProofs only[go_sem,↓reduceIte,f1,f5,f17,f18,ZL,q1,ox (),l9];refine⟨⟨hg.Zm (b0.size) _,f1,f5,f17,i+1,ZD,rfl,ZT hx⟩,?_⟩;simp only[vi,Zi,↓reduceIte,f18];omega
  ·have YJ:¬(i:Int)<64:=by omega
   obtain rfl:i=64:=by omega
   rw[List.take_of_length_le (by rw[ZZ];omega),List.drop_of_length_le (by rw[Ja];omega),List.append_nil,List.append_nil]at hx;simp -implicitDefEqProofs only[go_sem,↓reduceIte,f5,f17,f18,YJ];exact⟨⟨.inr ⟨h.size,64,[],b0.size,by rw[ZZ],by rw[List.append_nil];exact hx,by simp[ZZ],by rw[ZZ];rfl,by rw[ZZ];omega⟩,Gc jd hw⟩,hg⟩
theorem aS (T:World) (h:Hp) (v u:Value) (key b:List Nat) (s:Bs h v key) (sb:Bs h u b) (hk:key.length≤10000) (hb:b.length≤10000) (tk:Tk h) :
  Zc Tryz.prog T 111 #[v,u] h fun v' h'=>Z0 h.size 5 h' v' (Ny key b)∧Zf h.size h h':=by
 have sb0:=sb;refine Zc.Zk (args:=[_,_]) Tryz.func111 rfl rfl rfl rfl ?_;simp -implicitDefEqProofs only[go_sem,↓reduceIte];refine (pO T h v key 92 s (by omega) (by omega) tk).use ?_;rintro v1 h1 ⟨o1,b1⟩;have s1:=b1.size;simp -implicitDefEqProofs only[go_sem,↓reduceIte];refine (pO T h1 v key 54 (s.Z2 b1) (by omega) (by omega) (tk.Je b1)).use ?_;rintro v2 h2 ⟨o2,b2⟩;have s2:=b2.size;have B2:=b1.trans (b2.mono s1);have o1':=o1.Z2 b2 (Nat.le_refl _);have l1:=ZZ key 92;have l2:=ZZ key 54;simp -implicitDefEqProofs only[go_sem,↓reduceIte];refine Zv (E:=5) (B:=h1.size) YD Tryz.underlying48 Wg WY WX o2 s2 (sb.Z2 B2) (by rw[l2];omega) ?_;intro v3 h3 o3 b3 _;have s3:=b3.size;have B3:=B2.trans (b3.mono s1);have ZoW:=o1.Z2 (b2.trans b3) (Nat.le_refl _);simp -implicitDefEqProofs only[go_sem,↓reduceIte];refine (FV T h3 v3 _ o3.bs (by rw[List.length_append,l2];omega) (tk.Je B3)).use ?_;rintro v4 h4 ⟨o4,b4⟩;have B4:=B3.trans (b4.mono (by omega));have o14:=ZoW.Z2 b4 (Nat.le_refl _);simp -implicitDefEqProofs only[go_sem,↓reduceIte];refine Zv (E:=5) (B:=h.size) YD Tryz.underlying48 Wg WY WX o14 B4.size o4.bs (by rw[l1,X9];omega) ?_;intro v5 h5 o5 b5 _;have B5:=B4.trans b5;simp -implicitDefEqProofs only[go_sem,↓reduceIte];refine (FV T h5 v5 _ o5.bs (by rw[List.length_append,l1,X9];omega) (tk.Je B5)).use ?_;rintro v6 h6 ⟨o6,b6⟩;simp -implicitDefEqProofs only[go_sem,↓reduceIte];exact⟨o6.mono B5.size,B5.trans (b6.mono B5.size)⟩
def KY (m n:Nat):Int:=if 256<m∨2000<n then 1 else 0
def pP (B:Nat) (h':Hp) (v':Value) (key b:List Nat):Prop:=∃w,v'=.tuple [w,.int .i64 (KY key.length b.length)].toArray∧Z0 B 5 h' w (if KY key.length b.length=0 then Ny key b else [])
theorem jg (T:World) (h:Hp) (v u:Value) (key b:List Nat) (s:Bs h v key) (sb:Bs h u b) (tk:Tk h) :
  Zc Tryz.prog T 110 #[v,u] h fun v' h'=>pP h.size h' v' key b∧Zf h.size h h':=by
 obtain⟨p,cp,rfl,Us⟩:=s.open;obtain⟨q,cq,rfl,HU⟩:=sb.open;refine Zc.Zk (args:=[_,_]) Tryz.func110 rfl rfl rfl rfl ?_;unfold pP KY;by_cases e1:256<key.length
 ·have ln:256<(key.length:Int):=by omega
  rw[if_pos (.inl e1)];simp -implicitDefEqProofs only[go_sem,↓reduceIte,ln];exact⟨_,rfl,Z0.nil _ _ _⟩
 ·have ln:¬256<(key.length:Int):=by omega
  by_cases e2:2000<b.length
  ·have tO:2000<(b.length:Int):=by omega
   rw[if_pos (.inr e2)];simp -implicitDefEqProofs only[go_sem,↓reduceIte,ln,tO];exact⟨_,rfl,Z0.nil _ _ _⟩
  ·have tO:¬2000<(b.length:Int):=by omega
   rw[if_neg (by omega)];simp -implicitDefEqProofs only[go_sem,↓reduceIte,ln,tO];refine (aS T _ _ _ key b s sb (by omega) (by omega) tk).use ?_;rintro w h1 ⟨o1,b1⟩;simp -implicitDefEqProofs only[go_sem,↓reduceIte,b1];exact⟨_,rfl,o1⟩
theorem Cb (T:World) (h:Hp) (v u:Value) (key b:List Nat) (s:Bs h v key) (sb:Bs h u b) (hk:key.length≤256) (hb:b.length≤2000) (tk:Tk h) :
  Zc Tryz.prog T 78 #[v,u] h fun v' h'=>(Bs h' v' ((Ny key b).take 16)∧VR v')∧Zf h.size h h':=by
 refine Zc.Zk (args:=[_,_]) Tryz.func78 rfl rfl rfl rfl ?_;simp -implicitDefEqProofs only[go_sem,↓reduceIte];refine (jg T _ _ _ key b s sb tk).use ?_;rintro _ h1 ⟨⟨w,rfl,o1⟩,b1⟩;have e0:KY key.length b.length=0:=by unfold KY;rw[if_neg (by omega)]
 rw[e0,if_pos rfl]at o1;rw[e0];have ml:=Va key b;generalize Ny key b=M at *;obtain⟨p,c,rfl,hc⟩:=o1.open;have sM:=o1.bs;obtain⟨p',c',hv,hh⟩:=sM.UL;simp only[Value.slice.injEq]at hv;obtain⟨rfl,_,rfl⟩:=hv;obtain⟨bb,ob,rfl,_⟩:=hh (by intro e;rw[e]at ml;cases ml);have fin:=Bs.Rl sM (m:=16) (by omega) c;rw[ml]at hc ⊢;have h16:(16:Int)≤(c:Int):=by omega
 have dm:¬c=0:=by omega
 simp -implicitDefEqProofs only[go_sem,↓reduceIte,h16,dm,Nat.sub_zero,Nat.zero_mul,b1];exact⟨fin,show 16≤c by omega⟩
def pQ (c r u:Nat):List Nat:=[c,r]++Xb u
def Cc (key:List Nat) (c r u:Nat):List Nat:=pQ c r u++(Ny key (pQ c r u)).take 16
theorem MH (c r u:Nat):(pQ c r u).length=6:=rfl
theorem MI (key:List Nat) (c r u:Nat):(Cc key c r u).length=22:=by
 rw[Cc,List.length_append,MH,List.length_take,Va];rfl
def Wm (kl:Nat) (c r u:Int):Int:=if kl≠32 then 1 else X0 c r u
def aT (B:Nat) (h':Hp) (v':Value) (key:List Nat) (c r u:Int):Prop:=∃w,v'=.tuple [w,.int .i64 (Wm key.length c r u)].toArray∧Z0 B 5 h' w (if Wm key.length c r u=0 then Cc key c.toNat r.toNat u.toNat else [])
theorem Cd {c r u:Int} (h:X0 c r u=0):∃c' r' u':Nat,c=c'∧r=r'∧u=u'∧c'<8∧r'<8∧u'≤1048576:=by
 unfold X0 at h;split at h
 ·cases h
 ·exact⟨c.toNat,r.toNat,u.toNat,by omega,by omega,by omega,by omega,by omega,by omega⟩
theorem pR (T:World) (h:Hp) (v:Value) (key:List Nat) (c r u:Int) (s:Bs h v key) (tk:Tk h) :
  Zc Tryz.prog T 55 #[v,.agg (TC c r u).toArray] h fun v' h'=>aT h.size h' v' key c r u∧Zf h.size h h':=by
 obtain⟨p,cp,rfl,_⟩:=s.open;refine Zc.Zk (args:=[_,_]) Tryz.func55 rfl rfl rfl rfl ?_;unfold aT TC;by_cases hk:key.length=32
 case neg=>
  have ee:Wm key.length c r u=1:=by unfold Wm;rw[if_pos hk]
  have Oh:¬(key.length:Int)=32:=by omega
  rw[ee];simp -implicitDefEqProofs only[go_sem,↓reduceIte,Oh];exact⟨_,rfl,Z0.nil _ _ _⟩
 have Oh:(key.length:Int)=32:=by omega
 have ee:Wm key.length c r u=X0 c r u:=by unfold Wm;rw[if_neg (by omega)]
 rw[ee];simp -implicitDefEqProofs only[go_sem,↓reduceIte,Oh];refine (Kv T _ c r u).use ?_;rintro _ _ ⟨rfl,rfl⟩;unfold TC;by_cases q:X0 c r u=0
 case neg=>
  simp -implicitDefEqProofs only[go_sem,↓reduceIte,q];exact⟨_,rfl,Z0.nil _ _ _⟩
 obtain⟨c,r,u,rfl,rfl,rfl,hc,hr,hu⟩:=Cd q;rw[q];have ec:(c:Int)%256=(c:Int):=by omega
 have er:(r:Int)%256=(r:Int):=by omega
 simp only[Int.toNat_natCast];simp -implicitDefEqProofs only[go_sem,↓reduceIte,ec,er];obtain⟨h1,YK⟩:=Zx ((h.push (.cells [Value.int .i64 c,.int .i64 r,.int .i64 u].toArray 121)).push (.cells [Value.int .i64 c,.int .i64 r,.int .i64 u].toArray 121):Hp);have b1:Zf h.size h h1:=by rw[YK];exact ((Zf.refl _ _).add _).add _
 have s1:h1.size=h.size+1+1:=by rw[YK];simp
 rw[←s1,←YK];clear YK;have Lr:∀x∈[c,r],x<256:=by
  intro x hx;simp only[List.mem_cons,List.not_mem_nil,or_false]at hx;omega
 have o2:Z0 h1.size 5 (h1.push (.cells (([c,r]:List Nat).map bv).toArray 5)) (.slice (some ⟨h1.size,0,none⟩) 2 2) [c,r]:=Z0.made Lr (Nat.le_refl _);have B2:Zf h1.size h1 (h1.push (.cells (([c,r]:List Nat).map bv).toArray 5)):=Zf.push (Nat.le_refl _) _;refine (dG T _ h1.size _ [c,r] u o2 (by simp) (by simp) (by omega)).use ?_;rintro w3 h3 ⟨o3,b3⟩;have B3:=B2.trans b3;have Bw:Zf h.size h h3:=b1.trans (B3.mono (by omega));have o3':Z0 h1.size 5 h3 w3 (pQ c r u):=o3;have gl:=MH c r u;unfold Cc;generalize pQ c r u=G at *;simp -implicitDefEqProofs only[go_sem,↓reduceIte];rw[←Oh];refine (Cb T h3 _ w3 key G (s.Z2 Bw) o3'.bs (by omega) (by omega) (tk.Je Bw)).use ?_;rintro w4 h4 ⟨⟨s4,_⟩,b4⟩;have s3:=B3.size;have o34:=o3'.Z2 b4 (Nat.le_refl _);have Bh4:=Bw.trans (b4.mono Bw.size);simp -implicitDefEqProofs only[go_sem,↓reduceIte];refine Zv (E:=5) (B:=h1.size) YD Tryz.underlying48 Wg WY WX o34 (by have:=b4.size;omega) s4 (by rw[gl,List.length_take];omega) ?_;intro w5 h5 o5 b5 _;have Bh5:=Bh4.trans (b5.mono (by omega));simp -implicitDefEqProofs only[go_sem,↓reduceIte,Bh5];exact⟨_,rfl,o5.mono (by omega)⟩
def FW:List Value:=TC 0 0 0
def JV (key l:List Nat):Int:=if key.length≠32∨l.length≠22 then 1 else if (Ny key (l.take 6)).take 16≠l.drop 6 then 6 else X0 (l.getD 0 0:Nat) (l.getD 1 0:Nat) (Xf l 2:Nat)
def FX (key l:List Nat):List Value:=if JV key l=0 then TC (l.getD 0 0:Nat) (l.getD 1 0:Nat) (Xf l 2:Nat) else FW
theorem KZ (T:World) (h:Hp) (v u:Value) (key l:List Nat) (s:Bs h v key) (sl:Bs h u l) (cu:VR u) (tk:Tk h) :
  Zc Tryz.prog T 61 #[v,u] h fun v' h'=>v'=.tuple [.agg (FX key l).toArray,.int .i64 (JV key l)].toArray∧Zf h.size h h':=by
 obtain⟨p,cp,rfl,_⟩:=s.open;obtain⟨q,cq,rfl,hq⟩:=sl.UL;refine Zc.Zk (args:=[_,_]) Tryz.func61 rfl rfl rfl rfl ?_;by_cases hk:key.length=32
 case neg=>
  have ee:JV key l=1:=by unfold JV;rw[if_pos (.inl hk)]
  have Oh:¬(key.length:Int)=32:=by omega
  unfold FX;rw[ee];unfold FW TC;simp +contextual -implicitDefEqProofs only[go_sem,↓reduceIte,Oh]
  (repeat' (first|exact Zf.refl _ _|assumption|refine Zf.add ?_ _|refine Zf.Zm ?_ (by first|omega|(simp;omega)) _|refine Zf.trans (by assumption) ?_))
 have Oh:(key.length:Int)=32:=by omega
 by_cases hl:l.length=22
 case neg=>
  have ee:JV key l=1:=by unfold JV;rw[if_pos (.inr hl)]
  have Br:¬(l.length:Int)=22:=by omega
  unfold FX;rw[ee];unfold FW TC;simp +contextual -implicitDefEqProofs only[go_sem,↓reduceIte,Oh,Br]
  (repeat' (first|exact Zf.refl _ _|assumption|refine Zf.add ?_ _|refine Zf.Zm ?_ (by first|omega|(simp;omega)) _|refine Zf.trans (by assumption) ?_))
 have Br:(l.length:Int)=22:=by omega
 obtain⟨b,o,rfl,hb,YS⟩:=hq (by intro e;rw[e]at hl;cases hl);have QO:22≤cq:=by have:l.length≤cq:=cu;omega
 have h6c:(6:Int)≤(cq:Int):=by omega
 have dm:¬cq=0:=by omega
 have hc6:¬cq=6:=by omega
 obtain⟨y0,iF⟩:∃y:Int,y=((l.getD 0 0:Nat):Int):=⟨_,rfl⟩
 obtain⟨y1',FJ⟩:∃y:Int,y=((l.getD 1 0:Nat):Int):=⟨_,rfl⟩
 obtain⟨y2',hy2⟩:∃y:Int,y=((l.getD 2 0:Nat):Int):=⟨_,rfl⟩
 obtain⟨y3,hy3⟩:∃y:Int,y=((l.getD 3 0:Nat):Int):=⟨_,rfl⟩
 obtain⟨y4,hy4⟩:∃y:Int,y=((l.getD 4 0:Nat):Int):=⟨_,rfl⟩
 obtain⟨y5,hy5⟩:∃y:Int,y=((l.getD 5 0:Nat):Int):=⟨_,rfl⟩
 obtain⟨yY,hyY⟩:∃y:Int,y=((Xf l 2:Nat):Int):=⟨_,rfl⟩
 have z0:=ZI sl.byte 0;have z1:=ZI sl.byte 1;have z2:=ZI sl.byte 2;have z3:=ZI sl.byte 3;have z4:=ZI sl.byte 4;have z5:=ZI sl.byte 5;have eo:Unit→Yc .or .i64 (Yc .or .i64 (Yc .or .i64 (YL .i64 y2' 24) (YL .i64 y3 16)) (YL .i64 y4 8)) y5=yY:=fun _=>by
  rw[hy2,hy3,hy4,hy5,hyY];exact Fw z2 z3 z4 z5
 have yb:(0≤y0∧y0<256)∧(0≤y1'∧y1'<256)∧(0≤y2'∧y2'<256)∧(0≤y3∧y3<256)∧(0≤y4∧y4<256)∧(0≤y5∧y5<256):=by
  rw[iF,FJ,hy2,hy3,hy4,hy5];omega
 obtain⟨⟨ya1,ya2⟩,⟨ya3,ya4⟩,⟨ya5,ya6⟩,⟨ya7,ya8⟩,⟨ya9,ZAA⟩,ZAB,ZAC⟩:=yb;have ee:JV key l=if (Ny key (l.take 6)).take 16≠l.drop 6 then 6 else X0 y0 y1' yY:=by
  rw[iF,FJ,hyY];unfold JV;rw[if_neg (by omega)]
 have eT:FX key l=if JV key l=0 then TC y0 y1' yY else FW:=by rw[iF,FJ,hyY];rfl
 have jh:∀i,i<22→V.hc h ⟨b,o+i,none⟩=some (.int .u8 (l.getD i 0:Nat)):=fun i hi=>YS i (by omega);have q0:=jh 0 (by omega);have q1:=jh 1 (by omega);have q2:=jh 2 (by omega);have q3:=jh 3 (by omega);have q4:=jh 4 (by omega);have q5:=jh 5 (by omega);rw[←iF]at q0;rw[←FJ]at q1;rw[←hy2]at q2;rw[←hy3]at q3;rw[←hy4]at q4;rw[←hy5]at q5;obtain⟨h1,YK⟩:=Zx (h.push (.cells FW.toArray 121):Hp);have b1:Zf h.size h h1:=by rw[YK];exact Zf.push (Nat.le_refl _) _
 have s1:h1.size=h.size+1:=by rw[YK];simp
 have x1:h1[h.size]? = some (.cells FW.toArray 121):=by rw[YK];exact Zb
 have e1:h.push (.cells #[Value.int .i64 0,.int .i64 0,.int .i64 0] 121)=h1:=YK.symm;rw[hl]at sl YS ⊢;simp -implicitDefEqProofs only[go_sem,↓reduceIte,Oh,Br];rw[e1];clear e1 YK;have sl1:=sl.Z2 b1;have s61:Bs h1 (.slice (some ⟨b,o,none⟩) 6 cq) (l.take 6):=by
  rw[←hl]at sl1;exact Bs.Rl sl1 (by omega) cq
 have t6:(l.take 6).length≤2000:=by rw[List.length_take];omega
 obtain⟨M,hM⟩:=Zx ((Ny key (l.take 6)).take 16);have ml:M.length≤140737488355328:=by rw[hM,List.length_take];omega
 rw[←hM]at ee;refine VS.mono (N:=fun F g=>Zf h1.size h1 g∧F 1=.slice (some ⟨b,o,none⟩) 22 cq∧F 4=.pointer (some ⟨h.size,0,none⟩)∧F 24=.bool (!decide (M=l.drop 6))) ?_ ?_ (fun _ _ _ h=>h) (fun _ _ h=>h)
 ·refine VS.w (h1.size) [] (.q 0 (.q 1 (.q 2 (.q 4 (.q 5 (.s 3 (.s 6 (.q 7 .nil)))))))) mixed (by kernel_rfl) ?_;simp -implicitDefEqProofs only[go_sem,↓reduceIte,h6c,dm,hc6,Nat.sub_zero,Nat.zero_mul];rw[←Oh];refine (Cb T h1 _ _ key (l.take 6) (s.Z2 b1) s61 (by omega) t6 (tk.Je b1)).use ?_;rintro w h2 ⟨⟨s2,_⟩,b2⟩;rw[←hM]at s2;have sl2:=TH (sl1.Z2 b2) (k:=6) (by omega) hl (cq-6);simp -implicitDefEqProofs only[go_sem,↓reduceIte,b2];refine (Fv T h2 w _ M (l.drop 6) s2 sl2 ml).pure ?_;simp -implicitDefEqProofs only[go_sem,↓reduceIte,b2]
 rintro F g ⟨bg,f1,f4,f24⟩;have Bg:=b1.trans (bg.mono (by omega));have k0:g[h.size]? = some (.cells FW.toArray 121):=bg.get (by omega) x1;have k1:rd g ⟨h.size,0,none⟩ 3=some FW:=Zq k0 rfl;have k2:=ZU k0 0;have T7:=Za k0;clear hM;unfold FW TC at *;by_cases hm:M=l.drop 6
 case neg=>
  have hd:decide (M=l.drop 6)=false:=decide_eq_false hm;rw[hd]at f24;rw[if_pos hm]at ee;rw[eT,ee];simp +contextual -implicitDefEqProofs only[go_sem,↓reduceIte,f1,f4,f24,k1,k2];exact Bg.Zm (Nat.le_refl _) _
 have hd:decide (M=l.drop 6)=true:=decide_eq_true hm;rw[hd]at f24;rw[if_neg (fun hn=>hn hm)]at ee;have e0:V.hc g ⟨b,o,none⟩=some (.int .u8 y0):=by rw[Bg.hc (by exact hb)];exact q0
 have e1:V.hc g ⟨b,o+1,none⟩=some (.int .u8 y1'):=by rw[Bg.hc (by exact hb)];exact q1
 have e2:V.hc g ⟨b,o+2,none⟩=some (.int .u8 y2'):=by rw[Bg.hc (by exact hb)];exact q2
 have e3:V.hc g ⟨b,o+3,none⟩=some (.int .u8 y3):=by rw[Bg.hc (by exact hb)];exact q3
 have e4:V.hc g ⟨b,o+4,none⟩=some (.int .u8 y4):=by rw[Bg.hc (by exact hb)];exact q4
 have e5:V.hc g ⟨b,o+5,none⟩=some (.int .u8 y5):=by rw[Bg.hc (by exact hb)];exact q5
 rw[eT,ee];clear iF FJ hy2 hy3 hy4 hy5 hyY;have hbg:b<g.size:=Nat.lt_of_lt_of_le hb Bg.size;simp -implicitDefEqProofs only[go_sem,↓reduceIte,f1,f4,f24];refine VS.w (g.size) [32] (.q 0 (.q 1 (.q 2 (.q 3 (.q 4 (.q 5 (.q 6 (.q 7 (.q 8 (.q 9 (.q 10 (.q 11 (.q 12 (.q 13 (.q 14 (.q 15 (.q 16 (.q 17 (.q 18 (.q 19 (.q 20 (.q 21 (.q 22 (.q 23 (.q 24 (.q 25 (.q 26 (.q 27 (.q 28 (.q 29 (.q 30 (.s 31 (.w 32 .nil))))))))))))))))))))))))))))))))) mixed (by kernel_rfl) ?_;simp -implicitDefEqProofs only[go_sem,↓reduceIte,f1,f4,hbg,e0,e1,e2,e3,e4,e5,eo ()];refine (Kv T _ y0 y1' yY).use ?_;rintro _ _ ⟨rfl,rfl⟩;unfold TC;obtain⟨E,hE⟩:=Zx (X0 y0 y1' yY);rw[←hE];by_cases q:E=0
 ·rw[if_pos q];simp +contextual -implicitDefEqProofs only[go_sem,↓reduceIte,q,f1,f4,k1,k2,T7]
  (repeat' (first|exact Zf.refl _ _|assumption|refine Zf.add ?_ _|refine Zf.Zm ?_ (by first|omega|(simp;omega)) _|refine Zf.trans (by assumption) ?_))
 ·rw[if_neg q];simp +contextual -implicitDefEqProofs only[go_sem,↓reduceIte,q,f1,f4,k1,k2,T7]
  (repeat' (first|exact Zf.refl _ _|assumption|refine Zf.add ?_ _|refine Zf.Zm ?_ (by first|omega|(simp;omega)) _|refine Zf.trans (by assumption) ?_))
def XX (s a i:Nat) (n:Int):Int:=if 256<s∨256<a∨256<i∨n<0∨512<n then 1 else 0
theorem ji {p:Option Addr} {m c k c' b:Nat} (h:ZO (.slice p m c)=some b) (hc:c'≠0):ZO (.slice p k c')=some b:=by
 cases p with
 | none=>simp[ZO]at h
 | some a=>
  simp only[ZO]at h ⊢;split at h
  ·cases h
  ·rw[if_neg hc];exact h
theorem pS {p:Option Addr} {m c b:Nat} (h:ZO (.slice p m c)=some b):c≠0:=by
 cases p with
 | none=>simp[ZO]at h
 | some a=>
  simp only[ZO]at h;split at h
  ·cases h
  ·assumption
def ey (B:Nat) (h':Hp) (v':Value) (XJ WK info:List Nat) (n:Int):Prop:=∃w,v'=.tuple [w,.int .i64 (XX XJ.length WK.length info.length n)].toArray∧VR w∧Bs h' w (if XX XJ.length WK.length info.length n=0 then KJ XJ WK info n.toNat else [])∧∀b,ZO w=some b→B≤b
theorem K0 (T:World) (h:Hp) (vs va vi':Value) (XJ WK info:List Nat) (n:Int) (ss:Bs h vs XJ) (sa:Bs h va WK) (si:Bs h vi' info) (tk:Tk h) :
  Zc Tryz.prog T 79 #[vs,va,vi',.int .i64 n] h fun v' h'=>ey h.size h' v' XJ WK info n∧Zf h.size h h':=by
 obtain⟨p1,c1,rfl,_⟩:=ss.open;obtain⟨p2,c2,rfl,_⟩:=sa.open;obtain⟨p3,c3,rfl,_⟩:=si.open;refine Zc.Zk (args:=[_,_,_,_]) Tryz.func79 rfl rfl rfl rfl ?_;unfold ey;by_cases e1:256<XJ.length
 ·have ln:256<(XJ.length:Int):=by omega
  have ee:XX XJ.length WK.length info.length n=1:=by unfold XX;rw[if_pos (.inl e1)]
  rw[ee];simp -implicitDefEqProofs only[go_sem,↓reduceIte,ln];exact⟨_,rfl,Nat.le_refl _,(Z0.nil 0 5 _).bs,fun b hb=>by simp[ZO]at hb⟩
 have ln:¬256<(XJ.length:Int):=by omega
 by_cases e2:256<WK.length
 ·have tO:256<(WK.length:Int):=by omega
  have ee:XX XJ.length WK.length info.length n=1:=by unfold XX;rw[if_pos (.inr (.inl e2))]
  rw[ee];simp -implicitDefEqProofs only[go_sem,↓reduceIte,ln,tO];exact⟨_,rfl,Nat.le_refl _,(Z0.nil 0 5 _).bs,fun b hb=>by simp[ZO]at hb⟩
 have tO:¬256<(WK.length:Int):=by omega
 by_cases e3:256<info.length
 ·have e3':256<(info.length:Int):=by omega
  have ee:XX XJ.length WK.length info.length n=1:=by unfold XX;rw[if_pos (.inr (.inr (.inl e3)))]
  rw[ee];simp -implicitDefEqProofs only[go_sem,↓reduceIte,ln,tO,e3'];exact⟨_,rfl,Nat.le_refl _,(Z0.nil 0 5 _).bs,fun b hb=>by simp[ZO]at hb⟩
 have e3':¬256<(info.length:Int):=by omega
 by_cases e4:n<0
 ·have ee:XX XJ.length WK.length info.length n=1:=by unfold XX;rw[if_pos (.inr (.inr (.inr (.inl e4))))]
  rw[ee];simp -implicitDefEqProofs only[go_sem,↓reduceIte,ln,tO,e3',e4];exact⟨_,rfl,Nat.le_refl _,(Z0.nil 0 5 _).bs,fun b hb=>by simp[ZO]at hb⟩
 by_cases e5:512<n
 ·have ee:XX XJ.length WK.length info.length n=1:=by unfold XX;rw[if_pos (.inr (.inr (.inr (.inr e5))))]
  rw[ee];simp -implicitDefEqProofs only[go_sem,↓reduceIte,ln,tO,e3',e4,e5];exact⟨_,rfl,Nat.le_refl _,(Z0.nil 0 5 _).bs,fun b hb=>by simp[ZO]at hb⟩
 have ee:XX XJ.length WK.length info.length n=0:=by unfold XX;rw[if_neg (by omega)]
 obtain⟨m,rfl⟩:∃m:Nat,n=m:=⟨n.toNat,by omega⟩
 rw[ee,Int.toNat_natCast];simp -implicitDefEqProofs only[go_sem,↓reduceIte,ln,tO,e3',e4,e5];refine (aS T _ _ _ WK XJ sa ss (by omega) (by omega) tk).use ?_;rintro vk h1 ⟨ok,b1⟩;have s1:=b1.size;obtain⟨key,wE⟩:=Zx (Ny WK XJ);rw[←wE]at ok;have kl:key.length=32:=by rw[wE];exact Va _ _
 have hm:m≤512:=by omega
 have eS:KJ XJ WK info m=(Vb key info 16).take m:=by rw[KJ,wE]
 have dt:∀i,m≤32*i→i≤16→(Vb key info 16).take m=(Vb key info i).take m:=fun i h1 h2=>KH key info m i 16 h1 h2;rw[eS];clear eS wE;simp -implicitDefEqProofs only[go_sem,↓reduceIte];refine VS.ZW (fun F g=>Zf h1.size h1 g∧F 2=.slice p3 info.length c3∧F 3=.int .i64 m∧F 10=vk∧∃i:Nat,32*i<m+32∧F 13=.int .i64 ((i+1:Nat):Int)∧Z0 h1.size 5 g (F 11) (Vb key info i)∧Z0 h1.size 5 g (F 12) (RK key info i)∧∀b,ZO (F 12)=some b→¬ZO (F 11)=some b)
  (fun F _=>m+32-aQ (F 11)) rfl ⟨Zf.refl _ _,rfl,rfl,rfl,0,by omega,rfl,Z0.nil _ _ _,Z0.nil _ _ _,fun b hb=>by cases hb⟩ ?_
 rintro F g ⟨hg,f2,f3,f10,i,hi,f13,oa,ot,ZgB⟩;have T7:=hg.size;have Bg:=b1.trans (hg.mono s1);obtain⟨pa,ca,f11,hca⟩:=oa.open;have al:=UU key info i;rw[al]at f11 hca;by_cases ZD:32*i<m
 ·have ZL:((32*i:Nat):Int)<(m:Int):=by omega
  have tl:=oF key info i;have i16:i≤16:=by omega
  have eT:RK key info (i+1)=Ny key (RK key info i++info++[(i+1)%256]):=rfl;have eA:Vb key info (i+1)=Vb key info i++RK key info (i+1):=rfl;obtain⟨lt,hlT⟩:∃x,x=RK key info i:=⟨_,rfl⟩
  rw[←hlT]at ot tl eT;have SQ:(i+1)%256<256:=Nat.mod_lt _ (by decide);obtain⟨X,hX⟩:=Zx ((i+1)%256);rw[←hX]at eT SQ;have ex:((i+1:Nat):Int)%256=(X:Int):=by rw[hX];rfl
  clear hX hlT;obtain⟨xi,zr⟩:∃x:Int,x=((i+1:Nat):Int):=⟨_,rfl⟩
  rw[←zr]at ex f13;simp -implicitDefEqProofs only[go_sem,↓reduceIte,f2,f3,f10,f11,f13,ZL,ex];refine Qo (E:=5) (B:=h1.size) YD Tryz.underlying48 Wg WY WX ot T7 (si.Z2 Bg) (by omega) ?_;intro w2 g2 o2 b2 bt2 bk2;have s2:=b2.size;have oa2:=oa.M0 bt2 (fun b hb e=>ZgB b e hb);have ol2:(lt++info).length≤400:=by rw[List.length_append];omega
  have ZoZ:∀b,ZO w2=some b→¬ZO (F 11)=some b:=fun b hb e=>by
   rcases bk2 b hb with q|q
   ·exact ZgB b q e
   ·have:=oa.own.lt b e;omega
  simp -implicitDefEqProofs only[go_sem,↓reduceIte,f2,f3,f10,f13,ex];refine Qo (E:=5) (B:=h1.size) YD Tryz.underlying48 Wg WY WX (o2.push _) (by simp;omega) (Bs.one SQ 1) (by simp only[List.length_singleton];omega) ?_;intro w3 g3 o3 b3 bt3 bk3;have s3:=b3.size;simp only[Array.size_push]at s3 bk3;have oa3:=(oa2.push (.cells [Value.int .u8 ((X:Nat):Int)].toArray 5)).M0 bt3 (fun b hb e=>ZoZ b e hb);have Bg3:Zf h1.size h1 g3:=((hg.trans b2).Yi (by omega) _).trans b3;have B3:=b1.trans (Bg3.mono s1);have ok3:=ok.Z2 Bg3 (Nat.le_refl _);simp -implicitDefEqProofs only[go_sem,↓reduceIte,f2,f3,f10,f13];refine (aS T g3 vk w3 key _ ok3.bs o3.bs (by omega) (by rw[List.length_append];simp only[List.length_singleton];omega) (tk.Je B3)).use ?_;rintro w4 g4 ⟨o4,b4⟩;rw[←eT]at o4;have s4:=b4.size;have oa4:=oa3.Z2 b4 (Nat.le_refl _);have Bg4:=Bg3.trans (b4.mono (by omega));rw[f11]at oa4;have tl1:=TE key info i;simp -implicitDefEqProofs only[go_sem,↓reduceIte,f2,f3,f10,f11,f13];refine Qo (E:=5) (B:=h1.size) YD Tryz.underlying48 Wg WY WX oa4 Bg4.size o4.bs (by rw[al,tl1];omega) ?_;intro w5 g5 o5 b5 bt5 bk5;have s5:=b5.size;obtain⟨p5,c5,rfl,_⟩:=o5.open;have Zb6:∀b,ZO w4=some b→¬ZO (F 11)=some b:=fun b hb e=>by
   have q1:=o4.own.ZG b hb;have q2:=oa3.own.lt b e;omega
  rw[f11]at Zb6;have o4':=(o4.mono (show h1.size≤g3.size by omega)).M0 bt5 (fun b hb e=>Zb6 b hb e);simp -implicitDefEqProofs only[go_sem,↓reduceIte,f2,f3,f10,f13];refine⟨⟨Bg4.trans b5,f2,f3,f10,i+1,by omega,?_,?_,o4',fun b hb e=>?_⟩,?_⟩
  ·show Value.int .i64 _=_;rw[zr];rfl
  ·rw[eA];exact o5
  ·have e':ZO (Value.slice p5 (Vb key info i++RK key info (i+1)).length c5)=some b:=e;rcases bk5 b e' with q|q
   ·exact Zb6 b hb q
   ·have:=o4.own.lt b hb;omega
  ·simp only[aQ,Zi,↓reduceIte,Nat.reduceEqDiff,f11,List.length_append,al,tl1];omega
 ·have YJ:¬((32*i:Nat):Int)<(m:Int):=by omega
  have e6:=dt i (by omega) (by omega);rw[e6];have oab:=oa.bs;have oaB:=oa.own.ZG;rw[f11]at oab oaB;rw[←al]at oab;have kR:(m:Int)≤(ca:Int):=by omega
  have hm0:(0:Int)≤(m:Int):=by omega
  have fin:=Bs.Rl oab (m:=m) (by rw[al];omega) m;simp -implicitDefEqProofs only[go_sem,↓reduceIte,f2,f3,f11,YJ,kR,hm0,Bg];exact⟨_,rfl,Nat.le_refl _,fin,fun b hb=>Nat.le_trans (by omega) (oaB b (ji hb (by have:=pS hb;omega)))⟩
def zQ (bf:List Nat) (k c s n v:Int) (a b:Nat):List Nat:=((bf++Zr [k.toNat,c.toNat,s.toNat,n.toNat,v.toNat])++Xb a)++Xb b
def Ce (bf:List Nat) (k c s n v:Int) (a b:Nat):List Nat:=WH (zQ bf k c s n v a b)
theorem OQ (bf:List Nat) (k c s n v:Int) (a b:Nat):(Ce bf k c s n v a b).length=32:=X9 _
theorem wF (T:World) (h:Hp) (u:Value) (bf:List Nat) (su:Bs h u bf) (hbf:bf.length=32) (k c s n v:Int) (he:Yx k c s n v=0) (a b:Nat) (ha:a≤1073741824) (hb:b≤1073741824) (tk:Tk h) :
  Zc Tryz.prog T 15 #[u,.agg (Qp k c s n v).toArray,.agg [.int .i64 a,.int .i64 b].toArray] h fun v' h'=>Z0 h.size 5 h' v' (Ce bf k c s n v a b)∧Zf h.size h h':=by
 obtain⟨p,cp,rfl,_⟩:=su.open;refine Zc.Zk (args:=[_,_,_]) Tryz.func15 rfl rfl rfl rfl ?_;obtain⟨za,hza⟩:∃z:Int,z=(a:Int):=⟨_,rfl⟩
 obtain⟨zb,hzb⟩:∃z:Int,z=(b:Int):=⟨_,rfl⟩
 rw[←hza,←hzb];have e0:Qp k c s n v=[.int .i64 k,.int .i64 c,.int .i64 s,.int .i64 n,.int .i64 v]:=rfl;rw[e0];simp -implicitDefEqProofs only[go_sem,↓reduceIte];obtain⟨h0,XR⟩:=Zx ((h.push (.cells [.int .i64 k,.int .i64 c,.int .i64 s,.int .i64 n,.int .i64 v].toArray 47)).push (.cells [.int .i64 za,.int .i64 zb].toArray 39):Hp);have b0:Zf h.size h h0:=by rw[XR];exact ((Zf.refl _ _).add _).add _
 have s0:h0.size=h.size+2:=by rw[XR];simp
 have x0:h0[h.size+1]? = some (.cells [.int .i64 za,.int .i64 zb].toArray 39):=by
  rw[XR,Array.getElem?_push,if_pos (by simp)]
 rw[←XR];clear XR;have en:=Nv T h0 k c s n v;rw[e0]at en;refine en.use ?_;rintro _ h1 ⟨⟨w1,rfl,q1⟩,b1⟩;rw[he,if_pos rfl]at q1;rw[he];have B1:=b0.trans (b1.mono b0.size);simp -implicitDefEqProofs only[go_sem,↓reduceIte];refine (Sk T h1 _ bf (su.Z2 B1) (by omega)).use ?_;rintro w2 h2 ⟨o2,b2⟩;have B2:=B1.trans (b2.mono B1.size);have z1:=b1.size;have z2:=b2.size;have lc:(Zr [k.toNat,c.toNat,s.toNat,n.toNat,v.toNat]).length=20:=by rw[ZC];rfl
 simp -implicitDefEqProofs only[go_sem,↓reduceIte];refine Zv (E:=5) (B:=h1.size) YD Tryz.underlying48 Wg WY WX o2 z2 (q1.Z2 b2) (by omega) ?_;intro w3 h3 o3 b3 _;have B3:=B2.trans (b3.mono (by omega));have z3:=B3.size;have x3:h3[h.size+1]? = some (.cells [.int .i64 za,.int .i64 zb].toArray 39):=b3.get (by omega) (b2.get (by omega) (b1.get (by omega) x0));have c0:V.hc h3 ⟨h.size+1,0,none⟩=some (.int .i64 za):=by rw[Zh x3];rfl
 have c1:V.hc h3 ⟨h.size+1,1,none⟩=some (.int .i64 zb):=by rw[Zh x3];rfl
 have eG:(bf++Zr [k.toNat,c.toNat,s.toNat,n.toNat,v.toNat]).length=52:=by rw[List.length_append];omega
 unfold Ce zQ;generalize bf++Zr [k.toNat,c.toNat,s.toNat,n.toNat,v.toNat]=M at *;have o3':Z0 h.size 5 h3 w3 M:=o3.mono (by omega);clear o3 q1 o2 en;obtain⟨a0,ha0⟩:∃y:Int,y=((a/16777216%256:Nat):Int):=⟨_,rfl⟩
 obtain⟨a1,vD⟩:∃y:Int,y=((a/65536%256:Nat):Int):=⟨_,rfl⟩
 obtain⟨a2,ha2⟩:∃y:Int,y=((a/256%256:Nat):Int):=⟨_,rfl⟩
 obtain⟨a3,ha3⟩:∃y:Int,y=((a%256:Nat):Int):=⟨_,rfl⟩
 have e1:Unit→YV .i64 za 24%256=a0:=fun _=>by rw[hza,ha0,show (24:Int)=((24:Nat):Int) from rfl,J8 a 24 (by decide)];rfl
 have e2:Unit→YV .i64 za 16%256=a1:=fun _=>by rw[hza,vD,show (16:Int)=((16:Nat):Int) from rfl,J8 a 16 (by decide)];rfl
 have e3:Unit→YV .i64 za 8%256=a2:=fun _=>by rw[hza,ha2,show (8:Int)=((8:Nat):Int) from rfl,J8 a 8 (by decide)];rfl
 have e4:Unit→za%256=a3:=fun _=>by rw[hza,ha3];rfl
 obtain⟨b0',kU⟩:∃y:Int,y=((b/16777216%256:Nat):Int):=⟨_,rfl⟩
 obtain⟨vo,Kf⟩:∃y:Int,y=((b/65536%256:Nat):Int):=⟨_,rfl⟩
 obtain⟨kW,Lr⟩:∃y:Int,y=((b/256%256:Nat):Int):=⟨_,rfl⟩
 obtain⟨b3',hb3⟩:∃y:Int,y=((b%256:Nat):Int):=⟨_,rfl⟩
 have f1:Unit→YV .i64 zb 24%256=b0':=fun _=>by rw[hzb,kU,show (24:Int)=((24:Nat):Int) from rfl,J8 b 24 (by decide)];rfl
 have f2:Unit→YV .i64 zb 16%256=vo:=fun _=>by rw[hzb,Kf,show (16:Int)=((16:Nat):Int) from rfl,J8 b 16 (by decide)];rfl
 have f3:Unit→YV .i64 zb 8%256=kW:=fun _=>by rw[hzb,Lr,show (8:Int)=((8:Nat):Int) from rfl,J8 b 8 (by decide)];rfl
 have f4:Unit→zb%256=b3':=fun _=>by rw[hzb,hb3];rfl
 have ea:([Value.int .u8 a0,.int .u8 a1,.int .u8 a2,.int .u8 a3]:List Value)=(Xb a).map bv:=by rw[ha0,vD,ha2,ha3];rfl
 have eb:([Value.int .u8 b0',.int .u8 vo,.int .u8 kW,.int .u8 b3']:List Value)=(Xb b).map bv:=by rw[kU,Kf,Lr,hb3];rfl
 clear hza hzb ha0 vD ha2 ha3 kU Kf Lr hb3;simp -implicitDefEqProofs only[go_sem,↓reduceIte,c0,c1];refine VS.rounds 3 rfl ?_;simp -implicitDefEqProofs only[go_sem,↓reduceIte,e1 (),e2 (),e3 (),e4 ()];rw[ea];have hla:(Xb a).length=4:=rfl;have hlb:(Xb b).length=4:=rfl;refine Zv (E:=5) (B:=h.size) YD Tryz.underlying48 Wg WY WX (o3'.push _) (by simp;omega) (Bs.made (l:=Xb a) (Qx a) 4) (by omega) ?_;intro w4 h4 o4 b4 _;have B4:=(B3.Yi B3.size _).trans b4;simp -implicitDefEqProofs only[go_sem,↓reduceIte,f1 (),f2 (),f3 (),f4 ()];rw[eb];refine Zv (E:=5) (B:=h.size) YD Tryz.underlying48 Wg WY WX (o4.push _) (by have:=B4.size;simp;omega) (Bs.made (l:=Xb b) (Qx b) 4) (by rw[List.length_append];omega) ?_;intro w5 h5 o5 b5 _;have B5:=(B4.Yi B4.size _).trans b5;simp -implicitDefEqProofs only[go_sem,↓reduceIte];have l5:(M++Xb a++Xb b).length=60:=by rw[List.length_append,List.length_append];omega
 refine (NJ T h5 w5 _ o5.bs (tk.Je B5)).use ?_;rintro _ h6 ⟨⟨w6,rfl,o6⟩,b6⟩;have es:TJ (M++Xb a++Xb b).length=0:=by unfold TJ;rw[if_neg (by omega)]
 rw[es,if_pos rfl]at o6;rw[es];simp -implicitDefEqProofs only[go_sem,↓reduceIte];exact⟨o6.mono B5.size,B5.trans (b6.mono B5.size)⟩
structure Js where
 k:Int
 c:Int
 s:Int
 n:Int
 v:Int
def wG (x:Js):List Value:=[.int .i64 x.k,.int .i64 x.c,.int .i64 x.s,.int .i64 x.n,.int .i64 x.v]
structure Td where
 x:Js
 a:Int
 b:Int
 sum:List Nat
structure FY where
 cs:List Value
 sum:List Nat
 out:List Td
def Y5 (cs:List Value) (x:Js):ZfN:=Jb cs x.k.toNat x.c.toNat x.s.toNat x.n.toNat x.v.toNat
def QI (cs:List Value) (x:Js):Int:=RN cs x.k x.c x.s x.n x.v
def NL (cs:List Value) (sum:List Nat) (x:Js):List Nat:=Ce sum x.k x.c x.s x.n x.v (Y5 cs x).code.toNat (Y5 cs x).val.toNat
def Te (st:FY) (x:Js):FY:=⟨(Y5 st.cs x).cells,NL st.cs st.sum x,st.out++[⟨x,(Y5 st.cs x).code,(Y5 st.cs x).val,NL st.cs st.sum x⟩]⟩
def NM:FY:=⟨Yn,List.replicate 32 0,[]⟩
def Vw:FY→List Js→Int × FY
 | st,[]=>(0,st)
 | st,x :: l=>if QI st.cs x=0 then Vw (Te st x) l else (QI st.cs x,st)
theorem pT (st:FY):Vw st []=(0,st):=rfl
theorem OR {st:FY} {x:Js} {l:List Js} (h:QI st.cs x=0):Vw st (x :: l)=Vw (Te st x) l:=by rw[Vw,if_pos h]
theorem NN {st:FY} {x:Js} {l:List Js} (h:¬QI st.cs x=0):Vw st (x :: l)=(QI st.cs x,st):=by rw[Vw,if_neg h]
theorem Cf:∀(l:List Js) (st:FY),(Vw st l).1=0→(Vw st l).2.out.length=st.out.length+l.length:=by
 intro l
 induction l with
 | nil=>intro st _;rfl
 | cons y l ih=>
  intro st h;by_cases q:QI st.cs y=0
  ·rw[OR q]at h ⊢;rw[ih _ h];simp[Te];omega
  ·rw[NN q]at h;exact absurd h q
def pU (cs:List Value):Prop:=∀i,i<8→(0≤ci cs (16+i*2)∧ci cs (16+i*2)≤1073741824)∧(0≤ci cs (16+i*2+1)∧ci cs (16+i*2+1)≤1073741824)
theorem Jc {cs:List Value} {i:Nat} (h:i<cs.length) (k:IntKind) (x:Int):ci (cs.set i (.int k x)) i=x:=by
 unfold ci;rw[Yh,List.getElem?_set_self h]
theorem Sz (cs:List Value) (k c n v:Nat):(JS cs k c n v).1.length=cs.length:=by
 unfold JS;split
 ·simp
 ·split
  ·rfl
  ·simp
theorem LC (cs:List Value) (k c n v:Nat) (hn:n≤7) (j:Nat) (h1:8≤j) (h2:j<32):ci (JS cs k c n v).1 j=ci cs j:=by
 unfold JS;split
 ·exact X1 (by omega)
 ·split
  ·rfl
  ·exact X1 (by omega)
theorem jj {cs:List Value} (h:Xi cs=false) (i:Nat) (hi:i<8):0≤ci cs i∧ci cs i≤1073741824:=by
 unfold Xi at h;rw[List.any_eq_false]at h;have:=h i (List.mem_range.2 hi);simp only[Bool.or_eq_true,not_or]at this;have h1:=this.1;simp only[Pf,decide_eq_true_eq]at h1;omega
theorem NO {cs:List Value} {x:Js} (h:QI cs x=0):Xi cs=false∧Yx x.k x.c x.s x.n x.v=0:=by
 unfold QI RN at h;split at h
 ·cases h
 ·rename_i q;exact⟨by simpa using q,h⟩
theorem jk {cs:List Value} (hl:cs.length=40) (hb:Xi cs=false) (ho:pU cs) (k c s n v:Nat) (hn:n≤7) (hc:c≤7) (hv:v≤1073741824) :
  pU (Jb cs k c s n v).cells∧(0≤(Jb cs k c s n v).code∧(Jb cs k c s n v).code≤1073741824)∧(0≤(Jb cs k c s n v).val∧(Jb cs k c s n v).val≤1073741824):=by
 unfold Jb;split
 ·exact⟨ho,⟨(by decide:(0:Int)≤0),(by decide:(0:Int)≤1073741824)⟩,⟨(by decide:(0:Int)≤0),(by decide:(0:Int)≤1073741824)⟩⟩
 split
 ·have:=ho c (by omega);exact⟨ho,this.1,this.2⟩
 split
 ·exact⟨ho,⟨(by decide:(0:Int)≤7),(by decide:(7:Int)≤1073741824)⟩,⟨(by decide:(0:Int)≤0),(by decide:(0:Int)≤1073741824)⟩⟩
 split
 ·exact⟨ho,⟨(by decide:(0:Int)≤11),(by decide:(11:Int)≤1073741824)⟩,⟨(by decide:(0:Int)≤0),(by decide:(0:Int)≤1073741824)⟩⟩
 have hA:(0≤(JS cs k c n v).2∧(JS cs k c n v).2≤1073741824):=by
  unfold JS;split
  ·exact⟨by simp only;omega,by simp only;omega⟩
  ·split
   ·exact jj hb n (by omega)
   ·exact⟨(by decide:(0:Int)≤0),(by decide:(0:Int)≤1073741824)⟩
 refine⟨?_,⟨(by decide:(0:Int)≤0),(by decide:(0:Int)≤1073741824)⟩,hA⟩;intro i hi;have hlen:=Sz cs k c n v;have h1:=LC cs k c n v hn (16+i*2) (by omega) (by omega);have h2:=LC cs k c n v hn (16+i*2+1) (by omega) (by omega);simp only;by_cases e:i=c
 ·subst e;rw[X1 (by omega),Jc (by simp only[List.length_set];omega),Jc (by simp only[List.length_set];omega)];exact⟨by decide,hA⟩
 ·rw[X1 (by omega),X1 (by omega),X1 (by omega),X1 (by omega),X1 (by omega),X1 (by omega),h1,h2];exact ho i hi
theorem Cg:∀{ks:List (Option IntKind)} {vs:List Value} (i:Nat) {k:Option IntKind},YB ks vs=true→ks[i]? = some k→∃v,nth vs i=some v∧UI k v=true:=by
 intro ks
 induction ks with
 | nil=>intro vs i k _ h;simp at h
 | cons a ks ih=>
  intro vs i k hf hk
  cases vs with
  | nil=>simp[YB]at hf
  | cons x vs=>
   simp only[YB,Bool.and_eq_true]at hf
   cases i with
   | zero=>simp only[List.getElem?_cons_zero,Option.some.injEq]at hk;subst hk;exact⟨x,rfl,hf.1⟩
   | succ i=>exact ih i hf.2 (by simpa using hk)
theorem Ia {cs:List Value} (hf:YB XK cs=true):∀i,i<32→nth cs i=some (.int .i64 (ci cs i)):=by
 intro i hi;have:∀i<32,XK[i]? = some (some .i64):=by decide
 obtain⟨v,h1,h2⟩:=Cg i hf (this i hi);unfold ci;rw[h1]
 cases v<;>simp[UI]at h2
 rw[h2]
theorem MK {cs:List Value} (hf:YB XK cs=true):∀i,32≤i→i<40→nth cs i=some (.bool (cb cs i)):=by
 intro i h1 h2;have:∀j<8,XK[32+j]? = some none:=by decide
 have e:=this (i-32) (by omega);rw[show 32+(i-32)=i by omega]at e;obtain⟨v,h1,h2⟩:=Cg i hf e;unfold cb;rw[h1]
 cases v<;>simp[UI]at h2
 rfl
structure ML (st:FY):Prop where
 fit:YB XK st.cs=true
 ans:pU st.cs
 sum:st.sum.length=32
theorem LD:ML NM:=by
 refine⟨rfl,?_,rfl⟩;have:∀i<8,ci Yn (16+i*2)=0∧ci Yn (16+i*2+1)=0:=by decide
 intro i hi;obtain⟨h1,h2⟩:=this i hi;show (0≤ci Yn (16+i*2)∧ci Yn (16+i*2)≤1073741824)∧(0≤ci Yn (16+i*2+1)∧ci Yn (16+i*2+1)≤1073741824)
 rw[h1,h2];decide
theorem LF {st:FY} (ok:ML st) {x:Js} (h:QI st.cs x=0):ML (Te st x)∧∃a b:Nat,(Y5 st.cs x).code=a∧(Y5 st.cs x).val=b∧a≤1073741824∧b≤1073741824:=by
 obtain⟨h1,h2⟩:=NO h;obtain⟨k,c,s,n,v,e1,e2,e3,e4,e5,y1,y2,y3,y4,y5⟩:=XO h2;have hl:st.cs.length=40:=Z6 ok.fit;have hd:Y5 st.cs x=Jb st.cs k c s n v:=by unfold Y5;rw[e1,e2,e3,e4,e5];rfl
 obtain⟨g1,g2,g3⟩:=jk hl h1 ok.ans k c s n v y4 y2 y5;have gf:=Gj ok.fit k c s n v y4 y2;rw[←hd]at g1 g2 g3 gf;refine⟨⟨gf,g1,OQ _ _ _ _ _ _ _ _⟩,(Y5 st.cs x).code.toNat,(Y5 st.cs x).val.toNat,?_,?_,?_,?_⟩<;>omega
def Wn (l:List Js):Int:=(Vw NM l).1
def Wo (l:List Js):List Value:=if Wn l=0 then (Vw NM l).2.cs else Yn
def Ub (l:List Js):List Td:=if Wn l=0 then (Vw NM l).2.out else []
def pV (st:FY) (e:Td):Prop:=¬QI st.cs e.x=0∨¬((Y5 st.cs e.x).code=e.a∧(Y5 st.cs e.x).val=e.b)∨¬NL st.cs st.sum e.x=e.sum
instance (st:FY) (e:Td):Decidable (pV st e):=by unfold pV;infer_instance
structure Hx where
 x:Js
 a:Int
 b:Int
 p:Option Addr
 m:Nat
 cp:Nat
def Ch (e:Hx):List Value:=[.int .i64 e.x.k,.int .i64 e.x.c,.int .i64 e.x.s,.int .i64 e.x.n,.int .i64 e.x.v,.int .i64 e.a,.int .i64 e.b,.slice e.p e.m e.cp]
theorem pW (e:Hx):(Ch e).all Z7=true:=rfl
def pX (Q:Value→List Nat→Prop) (e:Hx) (t:Td):Prop:=e.x=t.x∧e.a=t.a∧e.b=t.b∧Q (.slice e.p e.m e.cp) t.sum
def Ps (Q:Value→List Nat→Prop):List Hx→List Td→Prop
 | [],[]=>True
 | e :: l,t :: k=>pX Q e t∧Ps Q l k
 | _,_=>False
variable {Q Q':Value→List Nat→Prop}
theorem Ps.mono (H:∀w s,Q w s→Q' w s):∀{l:List Hx} {k:List Td},Ps Q l k→Ps Q' l k:=by
 intro l
 induction l with
 | nil=>intro k h;cases k with
  | nil=>trivial
  | cons=>exact h.elim
 | cons e l ih=>intro k h;cases k with
  | nil=>exact h.elim
  | cons t k=>exact⟨⟨h.1.1,h.1.2.1,h.1.2.2.1,H _ _ h.1.2.2.2⟩,ih h.2⟩
theorem Ps.length:∀{l:List Hx} {k:List Td},Ps Q l k→l.length=k.length:=by
 intro l
 induction l with
 | nil=>intro k h;cases k with
  | nil=>rfl
  | cons=>exact h.elim
 | cons e l ih=>intro k h;cases k with
  | nil=>exact h.elim
  | cons t k=>simp[ih h.2]
theorem Ps.snoc {e:Hx} {t:Td} (h2:pX Q e t):∀{l:List Hx} {k:List Td},Ps Q l k→Ps Q (l++[e]) (k++[t]):=by
 intro l
 induction l with
 | nil=>intro k h;cases k with
  | nil=>exact⟨h2,trivial⟩
  | cons=>exact h.elim
 | cons e l ih=>intro k h;cases k with
  | nil=>exact h.elim
  | cons t k=>exact⟨h.1,ih h.2⟩
theorem Ps.get:∀{l:List Hx} {k:List Td},Ps Q l k→∀i (hi:i<l.length) (hk:i<k.length),pX Q l[i] k[i]:=by
 intro l
 induction l with
 | nil=>intro k h i hi;simp at hi
 | cons e l ih=>intro k h;cases k with
  | nil=>exact h.elim
  | cons t k=>
   intro i hi hk
   cases i with
   | zero=>exact h.1
   | succ i=>exact ih h.2 i (by simpa using hi) (by simpa using hk)
structure JW (B:Nat) (h:Hp) (v:Value) (l:List Td):Prop where
 ex:∃es,Jn B 50 Ch 8 h v es∧Ps (fun w s=>Z0 B 5 h w s) es l
structure Gs (h:Hp) (v:Value) (l:List Td):Prop where
 ex:∃es,Ts Ch 8 h v es∧Ps (fun w s=>Bs h w s) es l
theorem JW.Z2 {B C:Nat} {h h':Hp} {v:Value} {l:List Td} (s:JW B h v l) (a:Zf C h h') (hC:h.size≤C):JW B h' v l:=by
 obtain⟨es,s1,s2⟩:=s.ex;exact⟨es,s1.Z2 a hC,s2.mono (fun w t q=>q.Z2 a hC)⟩
theorem JW.mono {B B':Nat} {h:Hp} {v:Value} {l:List Td} (s:JW B h v l) (hB:B'≤B):JW B' h v l:=by
 obtain⟨es,s1,s2⟩:=s.ex;exact⟨es,s1.mono hB,s2.mono (fun w t q=>q.mono hB)⟩
theorem JW.ZP {B b:Nat} {h:Hp} {v:Value} {l:List Td} (s:JW B h v l) (hb:b<B) (o:Obj):JW B (h.setIfInBounds b o) v l:=by
 obtain⟨es,s1,s2⟩:=s.ex;exact⟨es,s1.ZP hb o,s2.mono (fun w t q=>q.ZP hb o)⟩
theorem JW.nil (B:Nat) (h:Hp):JW B h (.slice none 0 0) []:=⟨[],Jn.nil _ _ _ _ _,trivial⟩
theorem JW.ts {B:Nat} {h:Hp} {v:Value} {l:List Td} (s:JW B h v l):Gs h v l:=by
 obtain⟨es,s1,s2⟩:=s.ex;exact⟨es,s1.ts,s2.mono (fun w t q=>q.bs)⟩
theorem Gs.Z2 {h h':Hp} {v:Value} {l:List Td} (s:Gs h v l) (a:Zf h.size h h'):Gs h' v l:=by
 obtain⟨es,s1,s2⟩:=s.ex;exact⟨es,s1.Z2 a,s2.mono (fun w t q=>q.Z2 a)⟩
theorem JW.open {B:Nat} {h:Hp} {v:Value} {l:List Td} (s:JW B h v l):∃p c,v=.slice p l.length c:=by
 obtain⟨es,s1,s2⟩:=s.ex;obtain⟨p,c,hv,_⟩:=s1.open;exact⟨p,c,by rw[hv,s2.length]⟩
theorem Gs.open {h:Hp} {v:Value} {l:List Td} (s:Gs h v l):∃p c,v=.slice p l.length c∧(l≠[]→∃b o,p=some ⟨b,o,none⟩∧b<h.size∧∀i (hi:i<l.length),∃q m cp,YY h b (o+i*8) [.int .i64 l[i].x.k,.int .i64 l[i].x.c,.int .i64 l[i].x.s,.int .i64 l[i].x.n,.int .i64 l[i].x.v,.int .i64 l[i].a,.int .i64 l[i].b,.slice q m cp]∧Bs h (.slice q m cp) l[i].sum):=by
 obtain⟨es,s1,s2⟩:=s.ex;have hlen:=s2.length;obtain⟨p,c,hv,hh⟩:=Ts.open (enc:=Ch) (n:=8) (fun _=>rfl) (by decide) s1;refine⟨p,c,by rw[hv,hlen],fun YA=>?_⟩;have uX:es≠[]:=by
  intro e;rw[e]at hlen;exact YA (List.length_eq_zero_iff.1 hlen.symm)
 obtain⟨b,o,hp,hb,YS⟩:=hh uX;refine⟨b,o,hp,hb,fun i hi=>?_⟩;have Da:i<es.length:=by omega
 obtain⟨g1,g2,g3,g4⟩:=s2.get i Da hi;have:=YS i Da;refine⟨es[i].p,es[i].m,es[i].cp,?_,g4⟩;unfold Ch at this;rw[g1,g2,g3]at this;exact this
end Go.Proofs.YtboeoomhjbcecaaGreatDoor
namespace Go.Proofs.YtboeoomhjbcecaaGreatDoor
open Go Go.V
set_option linter.unusedSimpArgs false
set_option linter.unusedVariables false
set_option maxRecDepth 100000
theorem jl {h:Hp} {v:Value} {l:List Js} (s:Ts wG 5 h v l):∃p cap,v=.slice p l.length cap∧(l≠[]→∃b o,p=some ⟨b,o,none⟩∧b<h.size∧∀i (hi:i<l.length),rd h ⟨b,o+i*5,none⟩ 5=some [.int .i64 l[i].k,.int .i64 l[i].c,.int .i64 l[i].s,.int .i64 l[i].n,.int .i64 l[i].v]):=by
 obtain⟨p,cap,hv,Us⟩:=Ts.open (enc:=wG) (n:=5) (fun _=>rfl) (by decide) s;refine⟨p,cap,hv,fun YA=>?_⟩;obtain⟨b,o,hp,hb,YS⟩:=Us YA;exact⟨b,o,hp,hb,fun i hi=>(YS i hi).rd (by simp[wG]) rfl⟩
theorem eH {cs:List Value} (hf:YB XK cs=true) (x:Js):∃(D:List Value) (a b:Int),doL cs x.k x.c x.s x.n x.v=[.agg D.toArray,.agg [.int .i64 a,.int .i64 b].toArray,.int .i64 (QI cs x)]∧YB XK D=true∧(QI cs x=0→D=(Y5 cs x).cells∧a=(Y5 cs x).code∧b=(Y5 cs x).val):=by
 unfold doL QI Y5;by_cases e:RN cs x.k x.c x.s x.n x.v=0
 ·rw[if_pos e];refine⟨_,_,_,by rw[e],?_,fun _=>⟨rfl,rfl,rfl⟩⟩;have e2:Yx x.k x.c x.s x.n x.v=0:=(NO (cs:=cs) (x:=x) e).2;obtain⟨k,c,s,n,v,e1,e2,e3,e4,e5,y1,y2,y3,y4,y5⟩:=XO e2;rw[e1,e2,e3,e4,e5];exact Gj hf _ _ _ _ _ (by simpa using y4) (by simpa using y2)
 ·rw[if_neg e];exact⟨_,_,_,rfl,rfl,fun h=>absurd h e⟩
theorem NP {B B' n n' m m':Nat} {E E':TypeId} {h:Hp} {v u:Value} {cs ds:List Value} (hE:E≠E') (s:Qv B E n h v m cs) (t:Qv B' E' n' h u m' ds):∀b,ZO v=some b→ZO u≠some b:=by
 intro b hb hc;rcases s with⟨⟨p,rfl⟩,_,_⟩|⟨b1,cap,sp,_,rfl,hx,_⟩
 ·cases p<;>simp[ZO]at hb
 rcases t with⟨⟨p,rfl⟩,_,_⟩|⟨b2,Zo6,wH,_,rfl,hy,_⟩
 ·cases p<;>simp[ZO]at hc
 simp only[ZO]at hb hc;split at hb
 ·cases hb
 split at hc
 ·cases hc
 obtain rfl:=Option.some.inj hb;obtain rfl:=Option.some.inj hc;rw[hx]at hy;simp only[Option.some.injEq,Obj.cells.injEq]at hy;exact hE hy.2.1
theorem JW.app {B:Nat} {h h':Hp} {v:Value} {es:List Hx} {l:List Td} (s1:Jn B 50 Ch 8 h v es) (s2:Ps (fun w s=>Z0 B 5 h w s) es l) (a:Tv (ZO v) h h'):Ps (fun w s=>Z0 B 5 h' w s) es l:=
 s2.mono (fun w t q=>q.M0 a (fun b hb=>NP (by decide) q.own s1.own b hb))
theorem pY (T:World) (h:Hp) (u:Value) (l:List Js) (s:Ts wG 5 h u l) (tk:Tk h) :
  Zc Tryz.prog T 8 #[u] h fun v' h'=>(∃w E D,v'=.tuple [w,.agg D.toArray,.int .i64 E].toArray∧(E,D)=(if 200<l.length then (1,Yn) else (Wn l,Wo l))∧JW h.size h' w (if 200<l.length then [] else Ub l))∧Zf h.size h h':=by
 obtain⟨p,cp,rfl,Us⟩:=jl s;have hZ:Yn.length=40:=rfl;have hZo:Yn.all Z7=true:=rfl;refine Zc.XM (args:=[_]) Tryz.func8 rfl rfl rfl rfl ?_;by_cases big:200<l.length
 ·have Zb7:(200:Int)<l.length:=by omega
  simp -implicitDefEqProofs only[go_sem,↓reduceIte,Zb7,big];exact⟨_,_,_,rfl,rfl,JW.nil _ _⟩
 have Zb7:¬(200:Int)<l.length:=by omega
 simp -implicitDefEqProofs only[go_sem,↓reduceIte,Zb7,big];have z32:Z0 (h.size+2) 5 (((h.push (.cells Yn.toArray 43)).push (.cells Yn.toArray 43)).push (.cells ((List.replicate 32 0).map bv).toArray 5)) (.slice (some ⟨h.size+1+1,0,none⟩) 32 32) (List.replicate 32 0):=by
  have:=Z0.made (B:=h.size+2) (E:=5) (h:=(h.push (.cells Yn.toArray 43)).push (.cells Yn.toArray 43)) (l:=List.replicate 32 0) (by decide) (by simp);simp only[Array.size_push,List.length_replicate]at this;exact this
 refine VS.ZW (fun F g=>Zf h.size h g∧F 0=.slice p l.length cp∧F 3=.pointer (some ⟨h.size,0,none⟩)∧F 5=.pointer (some ⟨h.size+1,0,none⟩)∧F 18=.slice p l.length cp∧F 19=.int .i64 l.length∧g[h.size]? = some (.cells Yn.toArray 43)∧∃(i:Nat) (st:FY),i≤l.length∧F 20=.int .i64 i∧Vw NM l=Vw st (l.drop i)∧ML st∧st.out.length=i∧g[h.size+1]? = some (.cells st.cs.toArray 43)∧JW (h.size+2) g (F 6) st.out∧Z0 (h.size+2) 5 g (F 7) st.sum)
  (fun F _=>l.length-(vi (F 20)).toNat) rfl ⟨?_,rfl,rfl,rfl,rfl,rfl,?_,0,NM,by omega,rfl,rfl,LD,rfl,?_,JW.nil _ _,z32⟩ ?_
 ·(repeat' (first|exact Zf.refl _ _|assumption|refine Zf.add ?_ _|refine Zf.Zm ?_ (by first|omega|(simp;omega)) _|refine Zf.trans (by assumption) ?_))
 ·rw[Array.getElem?_push,if_neg (by simp;omega),Array.getElem?_push,if_neg (by simp),Zb];rfl
 ·rw[Array.getElem?_push,if_neg (by simp),Array.getElem?_push,if_pos (by simp)];rfl
 clear z32;rintro F g ⟨hg,f0,f3,f5,f18,f19,x0,i,st,hi,f20,hr,ok,ho,x1,oe,os⟩;have gs:=hg.size;have g1:=Za x1;by_cases ZD:i<l.length
 ·have ZL:(i:Int)<l.length:=by omega
  obtain⟨bb,oo,rfl,Wi,YS⟩:=Us (by intro e;rw[e]at ZD;simp at ZD);have r1:=YS i ZD;obtain⟨x,hx⟩:=Zx (l[i]);rw[←hx,←JQ hg (by exact Wi)]at r1;have hdr:l.drop i=x :: l.drop (i+1):=by rw[hx];exact List.drop_eq_getElem_cons ZD
  rw[hdr]at hr;have XW:st.cs.length=40:=Z6 ok.fit;have tkc:=YW XW;have rs:=Zq x1 XW;have Hw:¬h.size+1=g.size:=by omega
  simp -implicitDefEqProofs only[go_sem,↓reduceIte,f0,f3,f5,f18,f19,f20,ZL,r1,rs,Hw,XW,tkc];refine (KO T _ st.cs x.k x.c x.s x.n x.v ok.fit (Ia ok.fit) (MK ok.fit)).use ?_;rintro _ h1 ⟨hd,b1⟩;obtain⟨D,a,b,hL,fD,hz⟩:=eH ok.fit x;unfold oX at hd;rw[hL]at hd;subst hd;have z1:g.size+1≤h1.size:=by have:=b1.size;simp at this;omega
  have B1:Zf g.size g h1:=(Zf.push (Nat.le_refl _) _).trans (b1.mono (by simp));have y9:h1[g.size]? = some (.cells [.int .i64 x.k,.int .i64 x.c,.int .i64 x.s,.int .i64 x.n,.int .i64 x.v].toArray 47):=b1.get (by simp) Zb;have D40:D.length=40:=Z6 fD;have dU:=VV fD;have iI:=YW D40;simp -implicitDefEqProofs only[go_sem,↓reduceIte,D40,dU,ZJ,iI];obtain⟨h2,Uz⟩:=Zx ((h1.push (.cells D.toArray 43)).push (.cells [.int .i64 a,.int .i64 b].toArray 39):Hp);have b2:Zf h1.size h1 h2:=by rw[Uz];exact ((Zf.refl _ _).add _).add _
  have z2:h2.size=h1.size+2:=by rw[Uz];simp
  have y10:h2[h1.size]? = some (.cells D.toArray 43):=by rw[Uz,Array.getElem?_push,if_neg (by simp),Zb]
  have y11:h2[h1.size+1]? = some (.cells [.int .i64 a,.int .i64 b].toArray 39):=by rw[Uz,Array.getElem?_push,if_pos (by simp)]
  rw[←Uz];clear Uz;have B2:Zf g.size g h2:=B1.trans (b2.mono (by omega));have Bh2:=hg.trans (B2.mono gs);have x02:=B2.get (by omega) x0;have x12:=B2.get (by omega) x1;have y92:=b2.get (by omega) y9;by_cases e:QI st.cs x=0
  case neg=>
   have hE:Vw NM l=(QI st.cs x,st):=by rw[hr,NN e]
   have eE:Wn l=QI st.cs x:=by unfold Wn;rw[hE]
   have eS:Wo l=Yn:=by unfold Wo;rw[eE,if_neg e]
   have eO:Ub l=[]:=by unfold Ub;rw[eE,if_neg e]
   have w0:=ZU x02 0 Yn;rw[if_pos ⟨by simp,rfl⟩,ZJ rfl]at w0;have w0':wr h2 ⟨h.size,0,none⟩ [.int .i64 0,.int .i64 0,.int .i64 0,.int .i64 0,.int .i64 0,.int .i64 0,.int .i64 0,.int .i64 0,.int .i64 0,.int .i64 0,.int .i64 0,.int .i64 0,.int .i64 0,.int .i64 0,.int .i64 0,.int .i64 0,.int .i64 0,.int .i64 0,.int .i64 0,.int .i64 0,.int .i64 0,.int .i64 0,.int .i64 0,.int .i64 0,.int .i64 0,.int .i64 0,.int .i64 0,.int .i64 0,.int .i64 0,.int .i64 0,.int .i64 0,.int .i64 0,.bool false,.bool false,.bool false,.bool false,.bool false,.bool false,.bool false,.bool false]=some (h2.setIfInBounds h.size (.cells Yn.toArray 43)):=w0;have I3:h.size<h2.size:=by omega
   rw[eE,eS,eO];simp -implicitDefEqProofs only[go_sem,↓reduceIte,f3,e,w0',I3,hZ,hZo];exact⟨⟨_,_,_,rfl,rfl,JW.nil _ _⟩,Bh2.Zm (Nat.le_refl _) _⟩
  have r10:=Zq y10 D40;have w1:=ZU x12 0 D;rw[if_pos ⟨by omega,dU⟩,ZJ (by omega)]at w1;obtain⟨h3,FZ⟩:=Zx (h2.setIfInBounds (h.size+1) (.cells D.toArray 43):Hp);rw[←FZ]at w1;have z3:h3.size=h2.size:=by rw[FZ];simp
  have zR:h3[h.size+1]? = some (.cells D.toArray 43):=by rw[FZ,Array.getElem?_setIfInBounds,if_pos rfl,if_pos (by omega)]
  have n3:∀k,k≠h.size+1→h3[k]? = h2[k]?:=fun k hk=>by rw[FZ,Array.getElem?_setIfInBounds,if_neg (by omega)]
  have x03:h3[h.size]? = some (.cells Yn.toArray 43):=by rw[n3 _ (by omega)];exact x02
  have y93:=(n3 g.size (by omega)).trans y92;have ZgC:=(n3 (h1.size+1) (by omega)).trans y11;have Bw:Zf h.size h h3:=by rw[FZ];exact Bh2.Zm (by omega) _
  have os3:Z0 (h.size+2) 5 h3 (F 7) st.sum:=by rw[FZ];exact (os.Z2 B2 (Nat.le_refl _)).ZP (by omega) _
  have oe3:JW (h.size+2) h3 (F 6) st.out:=by rw[FZ];exact (oe.Z2 B2 (Nat.le_refl _)).ZP (by omega) _
  clear FZ;obtain⟨p7,c7,hf7,_⟩:=os3.open;have r9:=Zq y93 (n:=5) rfl;have r11:=Zq ZgC (n:=2) rfl;obtain⟨ok',a',b',ea,eb,la,lb⟩:=LF ok e;obtain⟨hD,ha,hb⟩:=hz e;rw[ea]at ha;rw[eb]at hb;have Bq:NL st.cs st.sum x=Ce st.sum x.k x.c x.s x.n x.v a' b':=by unfold NL;rw[ea,eb];rfl
  subst ha hb;rw[hf7]at os3;simp -implicitDefEqProofs only[go_sem,↓reduceIte,f5,hf7,e,r10,w1,r9,r11];refine (wF T h3 _ st.sum os3.bs ok.sum x.k x.c x.s x.n x.v (NO e).2 a' b' la lb (tk.Je Bw)).use ?_;rintro w4 h4 ⟨o4,b4⟩;have z4:=b4.size;have Bh4:=Bw.trans (b4.mono Bw.size);have x04:=b4.get (by omega) x03;have x14:=b4.get (by omega) zR;have y94:=b4.get (by omega) y93;have Zo9:=b4.get (by omega) ZgC;have r94:=Zq y94 (n:=5) rfl;have Zpa:=Zq Zo9 (n:=2) rfl;have oe4:=oe3.Z2 b4 (Nat.le_refl _);obtain⟨p6,c6,hf6⟩:=oe3.open;rw[hf6]at oe4;rw[←Bq]at o4;have ls:(NL st.cs st.sum x).length=32:=by rw[Bq];exact OQ _ _ _ _ _ _ _ _
  obtain⟨pw4,cw4,rfl,_⟩:=o4.open;have k1:g.size<h4.size:=by omega
  have k2:h1.size+1<h4.size:=by omega
  refine VS.w (h4.size) [7,8] (.q 0 (.q 1 (.q 2 (.q 3 (.s 4 (.q 5 (.s 6 (.w 7 (.w 8 .nil))))))))) mixed (by kernel_rfl) ?_;simp -implicitDefEqProofs only[go_sem,↓reduceIte,hf6,r94,Zpa,k1,k2];refine (Sk T h4 _ _ o4.bs (by omega)).use ?_;rintro w5 h5 ⟨o5,b5⟩;obtain⟨p5,c5,rfl,_⟩:=o5.open;have z5:=b5.size;have oe5:=oe4.Z2 b5 (Nat.le_refl _);obtain⟨es,s1,s2⟩:=oe5.ex;have les:=s2.length;have Xc:=Ts.one (E:=50) (h:=h5) (enc:=Ch) (n:=8) ⟨x,a',b',p5,(NL st.cs st.sum x).length,c5⟩ (fun _=>rfl) 1;unfold Ch at Xc;have k3:g.size<h5.size:=by omega
  simp -implicitDefEqProofs only[go_sem,↓reduceIte,b5];refine VT (E:=50) (B:=h.size+2) (n:=8) (bytes:=80) Zff Tryz.underlying35 Zmg Zmi rfl Zmh pW (s1.push _) (by simp;omega) Xc (by simp only[List.length_singleton];omega) (by omega) ?_;intro w6 h6 o6 _ b6;have s2':=JW.app (s1.push _) (s2.mono (fun w t q=>q.push _)) b6;have b56:Zf (h.size+2) h5 h6:=(Zf.push (by omega) _).trans (b6.Z2 (by simp;omega) s1.own.ZG);have Ew:Zf h.size h h6:=(Bh4.trans (b5.mono Bh4.size)).trans (b56.mono (by omega));have z6:=b56.size;have x06:=b56.get (by omega) (b5.get (by omega) x04);have x16:=b56.get (by omega) (b5.get (by omega) x14);have q5:=((o5.mono (B':=h.size+2) (by omega)).push (.cells [.int .i64 x.k,.int .i64 x.c,.int .i64 x.s,.int .i64 x.n,.int .i64 x.v,.int .i64 (a':Nat),.int .i64 (b':Nat),.slice p5 (NL st.cs st.sum x).length c5].toArray 50)).M0 b6 (fun b hb=>NP (by decide) o5.own s1.own b hb);have q4:=(((o4.mono (B':=h.size+2) (by omega)).Z2 b5 (Nat.le_refl _)).push (.cells [.int .i64 x.k,.int .i64 x.c,.int .i64 x.s,.int .i64 x.n,.int .i64 x.v,.int .i64 (a':Nat),.int .i64 (b':Nat),.slice p5 (NL st.cs st.sum x).length c5].toArray 50)).M0 b6 (fun b hb=>NP (by decide) (o4.Z2 b5 (Nat.le_refl _)).own s1.own b hb);simp -implicitDefEqProofs only[go_sem,↓reduceIte,f20];refine⟨⟨Ew,f0,f3,f5,f18,f19,x06,i+1,Te st x,ZD,rfl,?_,ok',?_,?_,?_,q4⟩,?_⟩
  ·rw[hr,OR e]
  ·simp only[Te,List.length_append,List.length_singleton];omega
  ·rw[show (Te st x).cs=D from hD.symm];exact x16
  ·exact⟨_,o6,s2'.snoc ⟨rfl,ea.symm,eb.symm,q5⟩⟩
  ·simp only[vi,Zi,↓reduceIte,f20];omega
 ·have YJ:¬(i:Int)<l.length:=by omega
  obtain rfl:i=l.length:=by omega
  rw[List.drop_length,pT]at hr;have eE:Wn l=0:=by unfold Wn;rw[hr]
  have eS:Wo l=st.cs:=by unfold Wo;rw[eE,if_pos rfl,hr]
  have eO:Ub l=st.out:=by unfold Ub;rw[eE,if_pos rfl,hr]
  have XW:st.cs.length=40:=Z6 ok.fit;have Xc:=VV ok.fit;have r1:=Zq x1 XW;have w0:=ZU x0 0 st.cs;rw[if_pos ⟨by omega,Xc⟩,ZJ (by omega)]at w0;have hl0:h.size<g.size:=by omega
  obtain⟨p6,c6,hf6⟩:=oe.open;rw[eE,eS,eO];simp -implicitDefEqProofs only[go_sem,↓reduceIte,f18,f19,f20,YJ];refine VS.w (h.size) [] (.q 0 (.q 2 (.s 1 (.s 3 (.q 4 .nil))))) mixed (by kernel_rfl) ?_;simp -implicitDefEqProofs only[go_sem,↓reduceIte,f3,f5,hf6,r1,w0,hl0,g1];have oe':=oe;rw[hf6]at oe';exact⟨⟨_,0,st.cs,by rw[YW XW],rfl,(oe'.ZP (by omega) _).mono (by omega)⟩,hg.Zm (Nat.le_refl _) _⟩
end Go.Proofs.YtboeoomhjbcecaaGreatDoor
