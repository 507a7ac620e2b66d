/- One block of the digest: what the document computes; no condition but those in the statements. -/
import Derived.Test.YtnhbpmoeaodmnaaGreatDoorTab
import Derived.Test.YtnhbpmoeaodmnaaGreatDoorW18
import Derived.Test.YtnhbpmoeaodmnaaGreatDoorBytes
import Derived.Test.YtnhbpmoeaodmnaaGreatDoorTape
import Derived.Test.YtnhbpmoeaodmnaaGreatDoorW12
import Derived.Test.YtnhbpmoeaodmnaaGreatDoorPik
import Derived.Test.YtnhbpmoeaodmnaaGreatDoorLchks
import Derived.Test.YtnhbpmoeaodmnaaGreatDoorW14
import Derived.Test.YtnhbpmoeaodmnaaGreatDoorVst
namespace Go.Proofs.YtnhbpmoeaodmnaaGreatDoor
open Go Go.V
set_option linter.unusedSimpArgs false
set_option linter.unusedVariables false
set_option maxRecDepth 100000
abbrev NT (h:Hp) (v:Value) (l:List Nat):Prop:=Ts (fun x=>[nv x]) 1 h v l
theorem XF (T:World) (h:Hp) (x n:Nat) (hx:x<4294967296) (hn:n≤32) :
  Zd Tryz.prog T 127 #[.int .u32 x,.int .i64 n] h fun v' h'=>v'=.int .u32 (rr x n:Nat)∧h'=h:=by
 refine Zd.Zi (args:=[_,_]) Tryz.func127 rfl rfl rfl rfl ?_
 have e1:=ZfH x (32-n) (by omega)
 have e2:=QY x n hn
 have e3:(32:Int)-n=((32-n:Nat):Int):=by omega
 have e4:=ZbK (x/2 ^ n) (x*2 ^ (32-n)%4294967296) (Nat.lt_of_le_of_lt (Nat.div_le_self _ _) hx) (by omega)
 have e5:¬(n:Int)<0:=by omega
 have e6:¬((32-n:Nat):Int)<0:=by omega
 have e7:=Zoo hx (show 32-n≤32 by omega)
 rw[show 32-(32-n)=n by omega,Nat.or_comm]at e7
 rw[e7]at e4
 unfold rr
 simp +contextual -implicitDefEqProofs only[go_sem,↓reduceIte]
 refine VS.q mixed (by kernel_rfl) ?_
 simp +contextual -implicitDefEqProofs only[go_sem,↓reduceIte,e3,e1,e2,e4,e5,e6]
theorem ZvO {a b c d:Nat} (ha:a<256) (hb:b<256) (hc:c<256) (hd:d<256) :
  Z7 .or .u32 (Z7 .or .u32 (Z7 .or .u32 (YC .u32 a 24) (YC .u32 b 16)) (YC .u32 c 8)) d=((a*16777216+b*65536+c*256+d:Nat):Int):=by
 have sb:∀{x k:Nat},x<256→k≤24→YC .u32 (x:Int) (k:Int)=((x*2 ^ k:Nat):Int):=by
  intro x k hx hk
  rw[ZfH x k (by omega),Nat.mod_eq_of_lt]
  have:2 ^ k≤2 ^ 24:=Nat.pow_le_pow_right (by omega) hk
  have h2:x*2 ^ k≤255*2 ^ 24:=Nat.mul_le_mul (by omega) this
  omega
 have e1:YC .u32 (a:Int) 24=((a*16777216:Nat):Int):=sb (k:=24) ha (by omega)
 have e2:YC .u32 (b:Int) 16=((b*65536:Nat):Int):=sb (k:=16) hb (by omega)
 have e3:YC .u32 (c:Int) 8=((c*256:Nat):Int):=sb (k:=8) hc (by omega)
 have f1:a*16777216 ||| b*65536=a*16777216+b*65536:=JQ (k:=24) (by omega) (by omega)
 have f2:(a*16777216+b*65536) ||| c*256=a*16777216+b*65536+c*256:=JQ (k:=16) (by omega) (by omega)
 rw[e1,e2,e3,ZbK _ _ (by omega) (by omega),f1,ZbK _ _ (by omega) (by omega),f2,ZbK _ _ (by omega) (by omega),JQ (k:=8) (by omega) (by omega)]
theorem Zc4 (xs zs:List Nat) (i:Nat) (hi:i<xs.length) (hz:xs.length=zs.length):(xs.take i++zs.drop i).set i (xs.getD i 0)=xs.take (i+1)++zs.drop (i+1):=by
 rw[List.getD_eq_getElem?_getD,List.getElem?_eq_getElem hi]
 exact Zej xs zs i hi hz
def Zd1 (b:List Nat) (i:Nat):List Nat:=J2 b i++List.replicate (64-i) 0
theorem Ue {b:List Nat} {i:Nat} (hi:i≤64):(Zd1 b i).length=64:=by simp[Zd1,XS];omega
theorem Zqm {b:List Nat} {i j:Nat} (hj:j<i):(Zd1 b i).getD j 0=(J2 b i).getD j 0:=by
 rw[Zd1,List.getD_eq_getElem?_getD,List.getElem?_append_left (by rw[XS];exact hj),←List.getD_eq_getElem?_getD]
theorem Ztb {b:List Nat} {i:Nat} (hi:i<64):(Zd1 b i).set i (Zjd b (J2 b i))=Zd1 b (i+1):=by
 rw[Zd1,List.set_append_right _ _ (by rw[XS];exact Nat.le_refl _),XS,Nat.sub_self,show 64-i=(64-(i+1))+1 by omega,List.replicate_succ,List.set_cons_zero,Zd1,J2,List.append_assoc]
 rfl
theorem Zqn (b:List Nat):Zd1 b 64=J2 b 64:=by simp[Zd1]
theorem Ziq {b:List Nat} (hb:Zcz b) {i j:Nat}:(J2 b i).getD j 0<4294967296:=(Zgv hb i).getD j
theorem Zk5 (T:World) (h:Hp) (bd:Nat) (d:List Nat) (v:Value) (b:List Nat) (hd:d.length=8) (wd:W32 d) (sb:Bs h v b) (hb:b.length=64) (tk:Tab 1 wv kN h)
  (hx:h[bd]? = some (.cells (d.map wv++[]).toArray 189)) (hg:1≠bd) :
  Zd Tryz.prog T 100 #[.pointer (some ⟨bd,0,none⟩),v] h fun v' h'=>But (some bd) h h'∧h'[bd]? = some (.cells ((Zku d b).map wv++[]).toArray 189):=by
 obtain⟨p,c,rfl,hc1⟩:=sb.Up
 obtain⟨bb,ob,rfl,hbb,YR⟩:=hc1 (by intro e;subst e;simp at hb)
 have hbt:Zcz b:=sb.byte
 refine Zd.Zi (args:=[_,_]) Tryz.func100 rfl rfl rfl rfl ?_
 rw[hb]
 have hbd:=Za hx
 have b0:Zf h.size h (h.push (.cells (XP 64 [Value.int .u32 0]).toArray 217)):=Zf.push (Nat.le_refl _) _
 have x0:∀A:Array Value,A=((Zd1 b 0).map wv).toArray→(h.push (.cells A 217))[h.size]? = some (.cells ((Zd1 b 0).map wv++[]).toArray 217):=by
  rintro _ rfl;rw[List.append_nil];exact Zb
 simp -implicitDefEqProofs only[go_sem,↓reduceIte]
 refine VS.ZW (fun F g=>Zf h.size h g∧F 0=.pointer (some ⟨bd,0,none⟩)∧F 1=.slice (some ⟨bb,ob,none⟩) 64 c∧F 4=.pointer (some ⟨h.size,0,none⟩)∧∃i:Nat,i≤64∧F 16=.int .i64 i∧g[h.size]? = some (.cells ((Zd1 b i).map wv++[]).toArray 217))
  (fun F _=>64-(vi (F 16)).toNat) rfl ⟨b0,rfl,rfl,rfl,0,by omega,rfl,by exact x0 _ (by rfl)⟩ ?_
 clear b0 x0
 rintro F g ⟨hgb,f0,f1,f4,i,hi,f16,hw⟩
 have hws:=Za hw
 by_cases ZD:i<64
 ·have ZL:(i:Int)<64:=by omega
  have fin:∀X:Nat,X=Zjd b (J2 b i)→Jp g ⟨h.size,i,none⟩ (.int .u32 (X:Nat))=some (g.setIfInBounds h.size (.cells ((Zd1 b (i+1)).map wv++[]).toArray 217)):=by
   intro X hX
   have:=ZY (f:=wv) hw (i:=i) (by rw[Ue hi];exact ZD) X rfl
   rw[hX,Ztb ZD]at this
   rw[hX];exact this
  by_cases h16:i<16
  ·have Zyl:(i:Int)<16:=by omega
   have g0:∀j,j<64→hc g ⟨bb,ob+j,none⟩=some (.int .u8 (b.getD j 0:Nat)):=fun j hj=>by rw[hgb.hc (by exact hbb)];exact YR j (by omega)
   have e0:=g0 (4*i) (by omega)
   have e1:=g0 (4*i+1) (by omega)
   have e2:=g0 (4*i+2) (by omega)
   have e3:=g0 (4*i+3) (by omega)
   have y0:=ZG hbt (4*i)
   have y1:=ZG hbt (4*i+1)
   have y2:=ZG hbt (4*i+2)
   have y3:=ZG hbt (4*i+3)
   have t0:(4*(i:Int)).toNat=4*i:=by omega
   have t1:(4*(i:Int)+1).toNat=4*i+1:=by omega
   have t2:(4*(i:Int)+2).toNat=4*i+2:=by omega
   have t3:(4*(i:Int)+3).toNat=4*i+3:=by omega
   have eo:=fun (_:Unit)=>ZvO y0 y1 y2 y3
   rw[show b.getD (4*i) 0*16777216+b.getD (4*i+1) 0*65536+b.getD (4*i+2) 0*256+b.getD (4*i+3) 0=Y3 b (4*i) from rfl]at eo
   have m0:((b.getD (4*i) 0:Nat):Int)%4294967296=(b.getD (4*i) 0:Nat):=by omega
   have m1:((b.getD (4*i+1) 0:Nat):Int)%4294967296=(b.getD (4*i+1) 0:Nat):=by omega
   have m2:((b.getD (4*i+2) 0:Nat):Int)%4294967296=(b.getD (4*i+2) 0:Nat):=by omega
   have m3:((b.getD (4*i+3) 0:Nat):Int)%4294967296=(b.getD (4*i+3) 0:Nat):=by omega
   have cs:=fin (Y3 b (4*i)) (by unfold Zjd;rw[XS,if_pos h16])
   simp -implicitDefEqProofs only[go_sem,↓reduceIte,f0,f1,f4,f16,ZL,Zyl]
   refine VS.w (g.size) [35] (.q 0 (.q 1 (.q 2 (.q 3 (.q 4 (.q 5 (.q 6 (.q 7 (.q 8 (.q 9 (.q 10 (.q 11 (.q 12 (.q 13 (.q 14 (.q 15 (.q 16 (.q 17 (.q 18 (.q 19 (.q 20 (.q 21 (.q 22 (.q 23 (.q 24 (.q 25 (.q 26 (.q 27 (.q 28 (.q 29 (.q 30 (.q 31 (.q 32 (.q 33 (.q 34 (.w 35 .nil)))))))))))))))))))))))))))))))))))) mixed (by kernel_rfl) ?_
   have ZBc:bb<g.size:=Nat.lt_of_lt_of_le hbb hgb.size
   simp -implicitDefEqProofs only[go_sem,↓reduceIte,f0,f1,f4,f16,e0,e1,e2,e3,t0,t1,t2,t3,m0,m1,m2,m3,eo (),ZBc,cs]
   refine⟨⟨hgb.Zj (Nat.le_refl _) _,f0,f1,f4,i+1,ZD,rfl,ZP hw⟩,?_⟩
   simp only[vi,Zk,↓reduceIte,f16];omega
  ·have Zyl:¬(i:Int)<16:=by omega
   have q1:=ZK hw (i:=i-15) (by rw[Ue hi];omega)
   have q2:=ZK hw (i:=i-2) (by rw[Ue hi];omega)
   have q3:=ZK hw (i:=i-16) (by rw[Ue hi];omega)
   have q4:=ZK hw (i:=i-7) (by rw[Ue hi];omega)
   rw[Zqm (by omega)]at q1 q2 q3 q4
   have eX:Zjd b (J2 b i)=((J2 b i).getD (i-16) 0+sg0 ((J2 b i).getD (i-15) 0)+(J2 b i).getD (i-7) 0+sg1 ((J2 b i).getD (i-2) 0))%4294967296:=by
    unfold Zjd;rw[XS,if_neg h16]
   have cs:=fin (Zjd b (J2 b i)) rfl
   have hA:(J2 b i).getD (i-15) 0<4294967296:=Ziq hbt
   have hC:(J2 b i).getD (i-2) 0<4294967296:=Ziq hbt
   rw[eX]at cs
   generalize (J2 b i).getD (i-15) 0=A at *
   generalize (J2 b i).getD (i-2) 0=C at *
   generalize (J2 b i).getD (i-16) 0=E1 at *
   generalize (J2 b i).getD (i-7) 0=E2 at *
   unfold wv at q1 q2 q3 q4
   have t1:((i:Int)-15).toNat=i-15:=by omega
   have t2:((i:Int)-2).toNat=i-2:=by omega
   have t3:((i:Int)-16).toNat=i-16:=by omega
   have t4:((i:Int)-7).toNat=i-7:=by omega
   have s1:Unit→Xe .u32 (A:Int) 3=((A/8:Nat):Int):=fun _=>QY A 3 (by decide)
   have s2:Unit→Xe .u32 (C:Int) 10=((C/1024:Nat):Int):=fun _=>QY C 10 (by decide)
   have o1:=fun (_:Unit)=>JF (rr A 7) (rr A 18) (QI hA) (QI hA)
   have o2:Unit→Z7 .xor .u32 ((rr A 7 ^^^ rr A 18:Nat):Int) ((A/8:Nat):Int)=((sg0 A:Nat):Int):=fun _=>JF _ _ (UQ (QI hA) (QI hA)) (Zkr hA)
   have o3:=fun (_:Unit)=>JF (rr C 17) (rr C 19) (QI hC) (QI hC)
   have o4:Unit→Z7 .xor .u32 ((rr C 17 ^^^ rr C 19:Nat):Int) ((C/1024:Nat):Int)=((sg1 C:Nat):Int):=fun _=>JF _ _ (UQ (QI hC) (QI hC)) (Zkr hC)
   generalize sg0 A=S0 at *
   generalize sg1 C=S1 at *
   have e5:((((E1:Int)+(E2:Int))%4294967296+(S0:Int))%4294967296+(S1:Int))%4294967296=(((E1+S0+E2+S1)%4294967296:Nat):Int):=by clear cs fin;omega
   simp -implicitDefEqProofs only[go_sem,↓reduceIte,f0,f1,f4,f16,ZL,Zyl]
   refine VS.q mixed (by kernel_rfl) ?_
   simp -implicitDefEqProofs only[go_sem,↓reduceIte,f0,f1,f4,f16,q1,q2,t1,t2]
   refine VS.w (h.size+1) [29] (.q 0 (.q 1 (.q 2 (.q 3 (.q 4 (.q 5 (.q 6 (.q 7 (.q 8 (.q 9 (.q 10 (.q 11 (.q 12 (.q 13 (.q 14 (.q 15 (.q 16 (.q 17 (.q 18 (.q 19 (.q 20 (.q 21 (.q 22 (.q 23 (.q 24 (.q 25 (.q 26 (.q 27 (.q 28 (.w 29 .nil)))))))))))))))))))))))))))))) mixed (by kernel_rfl) ?_
   simp -implicitDefEqProofs only[go_sem,↓reduceIte,f0,f1,f4,f16,q3,q4,t3,t4,e5]
   refine JG (fun h=>XF T h A 7 hA (by omega)) ?_
   simp -implicitDefEqProofs only[go_sem,↓reduceIte,f0,f1,f4,f16,o1 (),o2 (),o3 (),o4 (),s1 (),s2 (),e5]
   refine JG (fun h=>XF T h A 18 hA (by omega)) ?_
   simp -implicitDefEqProofs only[go_sem,↓reduceIte,f0,f1,f4,f16,o1 (),o2 (),o3 (),o4 (),s1 (),s2 (),e5]
   refine JG (fun h=>XF T h C 17 hC (by omega)) ?_
   simp -implicitDefEqProofs only[go_sem,↓reduceIte,f0,f1,f4,f16,o1 (),o2 (),o3 (),o4 (),s1 (),s2 (),e5]
   refine JG (fun h=>XF T h C 19 hC (by omega)) ?_
   simp -implicitDefEqProofs only[go_sem,↓reduceIte,f0,f1,f4,f16,o1 (),o2 (),o3 (),o4 (),s1 (),s2 (),e5,cs]
   refine⟨⟨hgb.Zj (Nat.le_refl _) _,f0,f1,f4,i+1,ZD,rfl,ZP hw⟩,?_⟩
   simp only[vi,Zk,↓reduceIte,f16];omega
 ·have YK:¬(i:Int)<64:=by omega
  obtain rfl:i=64:=by omega
  rw[Zqn]at hw
  have hxg:=hgb.get hbd hx
  have r0:rd g ⟨bd,0,none⟩ 8=some (d.map wv):=by rw[List.append_nil]at hxg;exact Zo hxg (by simp[hd])
  have l8:(d.map wv).length=8:=by simp[hd]
  have Zym:(d.map wv).all Z8=true:=by simp[wv,Z8]
  obtain⟨DV,hDV⟩:=Zx (d.map wv)
  rw[←hDV]at r0 l8 Zym
  have lp:Yq [Value.int .u32 0,Value.int .u32 0,Value.int .u32 0,Value.int .u32 0,Value.int .u32 0,Value.int .u32 0,Value.int .u32 0,Value.int .u32 0] 0 DV=DV:=ZN l8
  simp -implicitDefEqProofs only[go_sem,↓reduceIte,f0,f1,f4,f16,YK,r0,l8,Zym,lp]
  rw[hDV]
  have hgs:=hgb.size
  have hB:Zf h.size h (g.push (.cells (d.map wv).toArray 189)):=hgb.add _
  have hB2:Zf g.size g (g.push (.cells (d.map wv).toArray 189)):=Zf.push (Nat.le_refl _) _
  have hv0:(g.push (.cells (d.map wv).toArray 189))[g.size]? = some (.cells ((J4 b d 0).map wv++[]).toArray 189):=by
   rw[List.append_nil];exact Zb
  refine VS.ZW (fun F' g'=>Zf g.size g g'∧F' 0=.pointer (some ⟨bd,0,none⟩)∧F' 4=.pointer (some ⟨h.size,0,none⟩)∧F' 8=.pointer (some ⟨g.size,0,none⟩)∧∃i:Nat,i≤64∧F' 97=.int .i64 i∧g'[g.size]? = some (.cells ((J4 b d i).map wv++[]).toArray 189))
   (fun F _=>64-(vi (F 97)).toNat) rfl ⟨hB2,f0,f4,rfl,0,by omega,rfl,hv0⟩ ?_
  clear f0 f1 f4 f16 YK hi ZD hv0 hB hB2 r0 l8 Zym lp hDV DV F
  rintro F g2 ⟨QF,f0,f4,f8,i,hi,f97,hv⟩
  have hv2:=Za hv
  obtain⟨v8,w8⟩:=ZbS (b:=b) hd wd i
  obtain⟨a,b',c',d',e,f,g',k',hst⟩:=eight v8
  by_cases ZD:i<64
  ·have ZL:(i:Int)<64:=by omega
   have ZvP:J4 b d (i+1)=[(upw e f g' k' (kN.getD i 0) ((J2 b 64).getD i 0)+bg0 a+ZpP a b' c')%4294967296,a,b',c',(d'+upw e f g' k' (kN.getD i 0) ((J2 b 64).getD i 0))%4294967296,e,f,g']:=by
    rw[show J4 b d (i+1)=ZsB (J4 b d i) (kN.getD i 0) ((J2 b 64).getD i 0) from rfl,hst];rfl
   have hK:kN.getD i 0<4294967296:=Zx6.getD i
   have hW:(J2 b 64).getD i 0<4294967296:=(Zgv hbt 64).getD i
   have k1:V.hc g2 ⟨1,i,none⟩=some (.int .u32 (kN.getD i 0:Nat)):=by
    rw[QF.hc (by have:=tk.1;show (1:Nat)<g.size;omega),hgb.hc (by exact tk.1)];exact tk.2 i ZD
   have w1:V.hc g2 ⟨h.size,i,none⟩=some (.int .u32 ((J2 b 64).getD i 0:Nat)):=by
    rw[QF.hc (by exact hws)];exact ZK hw (by rw[XS];exact ZD)
   rw[hst]at hv w8
   have n0:V.hc g2 ⟨g.size,0,none⟩=some (.int .u32 (a:Nat)):=ZK hv (i:=0) (by simp)
   have n1:V.hc g2 ⟨g.size,1,none⟩=some (.int .u32 (b':Nat)):=ZK hv (i:=1) (by simp)
   have n2:V.hc g2 ⟨g.size,2,none⟩=some (.int .u32 (c':Nat)):=ZK hv (i:=2) (by simp)
   have n3:V.hc g2 ⟨g.size,3,none⟩=some (.int .u32 (d':Nat)):=ZK hv (i:=3) (by simp)
   have n4:V.hc g2 ⟨g.size,4,none⟩=some (.int .u32 (e:Nat)):=ZK hv (i:=4) (by simp)
   have n5:V.hc g2 ⟨g.size,5,none⟩=some (.int .u32 (f:Nat)):=ZK hv (i:=5) (by simp)
   have n6:V.hc g2 ⟨g.size,6,none⟩=some (.int .u32 (g':Nat)):=ZK hv (i:=6) (by simp)
   have n7:V.hc g2 ⟨g.size,7,none⟩=some (.int .u32 (k':Nat)):=ZK hv (i:=7) (by simp)
   have ha:a<4294967296:=w8 a (by simp)
   have XL:b'<4294967296:=w8 b' (by simp)
   have hc':c'<4294967296:=w8 c' (by simp)
   have hd':d'<4294967296:=w8 d' (by simp)
   have he:e<4294967296:=w8 e (by simp)
   have hf:f<4294967296:=w8 f (by simp)
   have hg':g'<4294967296:=w8 g' (by simp)
   have hk':k'<4294967296:=w8 k' (by simp)
   generalize kN.getD i 0=K at *
   generalize (J2 b 64).getD i 0=W at *
   have o1:=fun (_:Unit)=>JF (rr e 6) (rr e 11) (QI he) (QI he)
   have o2:Unit→Z7 .xor .u32 ((rr e 6 ^^^ rr e 11:Nat):Int) ((rr e 25:Nat):Int)=((bg1 e:Nat):Int):=fun _=>JF _ _ (UQ (QI he) (QI he)) (QI he)
   have o3:=fun (_:Unit)=>JF (rr a 2) (rr a 13) (QI ha) (QI ha)
   have o4:Unit→Z7 .xor .u32 ((rr a 2 ^^^ rr a 13:Nat):Int) ((rr a 22:Nat):Int)=((bg0 a:Nat):Int):=fun _=>JF _ _ (UQ (QI ha) (QI ha)) (QI ha)
   have c0:Unit→(if IntKind.u32.signed=true then (-1:Int) else IntKind.u32.max)=4294967295:=fun _=>rfl
   have c1:=fun (_:Unit)=>Zdz e f he hf
   have c2:=fun (_:Unit)=>Zvu he
   have c3:=fun (_:Unit)=>Zdz (4294967295-e) g' (Zks e) hg'
   have c4:=fun (_:Unit)=>Zx5 (f:=f) he hg'
   have m1:=fun (_:Unit)=>Zdz a b' ha XL
   have m2:=fun (_:Unit)=>Zdz a c' ha hc'
   have m3:=fun (_:Unit)=>Zdz b' c' XL hc'
   have m4:=fun (_:Unit)=>JF (a &&& b') (a &&& c') (Qx ha) (Qx ha)
   have m5:=fun (_:Unit)=>Zvv (c:=c') ha XL
   have eU:upw e f g' k' K W=(k'+bg1 e+chw e f g'+K+W)%4294967296:=rfl
   generalize upw e f g' k' K W=U at *
   generalize bg1 e=S1 at *
   generalize bg0 a=S0 at *
   generalize chw e f g'=CH at *
   generalize ZpP a b' c'=MJ at *
   have e1:Unit→(((((k':Int)+(S1:Int))%4294967296+(CH:Int))%4294967296+(K:Int))%4294967296+(W:Int))%4294967296=(U:Int):=fun _=>by omega
   have e2:Unit→((S0:Int)+(MJ:Int))%4294967296=(((S0+MJ)%4294967296:Nat):Int):=fun _=>by omega
   have e3:Unit→((U:Int)+(((S0+MJ)%4294967296:Nat):Int))%4294967296=(((U+S0+MJ)%4294967296:Nat):Int):=fun _=>by omega
   have e4:Unit→((d':Int)+(U:Int))%4294967296=(((d'+U)%4294967296:Nat):Int):=fun _=>by omega
   simp -implicitDefEqProofs only[go_sem,↓reduceIte,f0,f4,f8,f97,ZL]
   refine VS.q mixed (by kernel_rfl) ?_
   simp -implicitDefEqProofs only[go_sem,↓reduceIte,f0,f4,f8,f97,n0,n4]
   refine VS.q mixed (by kernel_rfl) ?_
   simp -implicitDefEqProofs only[go_sem,↓reduceIte,f0,f4,f8,f97,n7,n4]
   refine QN (XF T _ e 6 he (by omega)) ?_
   simp -implicitDefEqProofs only[go_sem,↓reduceIte,f8]
   refine QN (XF T _ e 11 he (by omega)) ?_
   simp -implicitDefEqProofs only[go_sem,↓reduceIte,f8]
   refine QN (XF T _ e 25 he (by omega)) ?_
   simp -implicitDefEqProofs only[go_sem,↓reduceIte,f4,f8,f97,ZL,o1 (),o2 (),n5,n6,c0 (),c1 (),c2 (),c3 (),c4 (),k1,w1,e1 ()]
   refine VS.mono (N:=fun F' g'=>g2=g'∧F' 0=.pointer (some ⟨bd,0,none⟩)∧F' 4=.pointer (some ⟨h.size,0,none⟩)∧F' 8=.pointer (some ⟨g.size,0,none⟩)∧F' 97=.int .i64 i∧F' 10=.int .u32 (a:Nat)∧F' 11=.int .u32 (e:Nat)∧F' 12=.int .u32 (U:Nat)∧F' 13=.int .u32 (((S0+MJ)%4294967296:Nat):Int)) ?_ ?_ (fun _ _ _ h=>h) (fun _ _ h=>h)
   ·refine VS.q mixed (by kernel_rfl) ?_
    simp -implicitDefEqProofs only[go_sem,↓reduceIte,f8]
    refine QN (XF T _ a 2 ha (by omega)) ?_
    simp -implicitDefEqProofs only[go_sem,↓reduceIte,f8]
    refine QN (XF T _ a 13 ha (by omega)) ?_
    simp -implicitDefEqProofs only[go_sem,↓reduceIte,f8]
    refine QN (XF T _ a 22 ha (by omega)) ?_
    simp -implicitDefEqProofs only[go_sem,↓reduceIte,f0,f4,f8,f97,o3 (),o4 (),n1,n2,m1 (),m2 (),m3 (),m4 (),m5 (),e2 ()]
   clear f0 f4 f8 f97 F
   rintro F _ ⟨rfl,f0,f4,f8,f97,f10,f11,f12,f13⟩
   have hvE:g2[g.size]? = some (.cells [Value.int .u32 a,.int .u32 b',.int .u32 c',.int .u32 d',.int .u32 e,.int .u32 f,.int .u32 g',.int .u32 k'].toArray 189):=hv
   have y2:=ZQ hvE 0
   obtain⟨xU,hxU⟩:∃x:Int,x=(U:Int):=⟨_,rfl⟩
   obtain⟨xD,hxD⟩:∃x:Int,x=(((S0+MJ)%4294967296:Nat):Int):=⟨_,rfl⟩
   obtain⟨x0,hx0⟩:∃x:Int,x=(((U+S0+MJ)%4294967296:Nat):Int):=⟨_,rfl⟩
   obtain⟨x4,hx4⟩:∃x:Int,x=(((d'+U)%4294967296:Nat):Int):=⟨_,rfl⟩
   have E3:Unit→(xU+xD)%4294967296=x0:=fun _=>by rw[hxU,hxD,hx0];exact e3 ()
   have E4:Unit→((d':Int)+xU)%4294967296=x4:=fun _=>by rw[hxU,hx4];exact e4 ()
   rw[←hxU]at f12
   rw[←hxD]at f13
   simp -implicitDefEqProofs only[go_sem,↓reduceIte,f0,f4,f8,f97,f10,f11,f12,f13,n1,n2,n3,n5,n6,E3 (),E4 (),y2]
   refine⟨⟨QF.Zj (Nat.le_refl _) _,f0,f4,f8,i+1,ZD,rfl,?_⟩,?_⟩
   ·rw[ZvP,hx0,hx4];exact ZP hv
   ·simp only[vi,Zk,↓reduceIte,f97];omega
  ·have YK:¬(i:Int)<64:=by omega
   obtain rfl:i=64:=by omega
   have r0:rd g2 ⟨g.size,0,none⟩ 8=some ((J4 b d 64).map wv):=by rw[List.append_nil]at hv;exact Zo hv (by simp[v8])
   have hB:But (some bd) h g2:=by
    have q1:=hgb.trans (QF.mono hgb.size)
    exact⟨q1.size,fun k hk _=>q1.block k hk⟩
   have hxg:g2[bd]? = some (.cells (((Zc0 d (J4 b d 64)).take 0++d.drop 0).map wv++[]).toArray 189):=by
    rw[List.take_zero,List.drop_zero,List.nil_append]
    exact (hgb.trans (QF.mono hgb.size)).get hbd hx
   have hal:=ZbT hd v8
   simp -implicitDefEqProofs only[go_sem,↓reduceIte,f0,f8,f97,YK,r0]
   refine VS.ZW (fun F' g'=>But (some bd) h g'∧F' 0=.pointer (some ⟨bd,0,none⟩)∧F' 177=.agg ((J4 b d 64).map wv).toArray∧∃i:Nat,i≤8∧F' 178=.int .i64 i∧g'[bd]? = some (.cells (((Zc0 d (J4 b d 64)).take i++d.drop i).map wv++[]).toArray 189))
    (fun F _=>8-(vi (F 178)).toNat) rfl ⟨hB,f0,rfl,0,by omega,rfl,hxg⟩ ?_
   clear f0 f4 f8 f97 YK hi ZD hv hxg hB r0 F
   rintro F g3 ⟨hB,f0,Zyn,i,hi,ZvQ,hxg⟩
   have ZGf:=Za hxg
   have hfl:((Zc0 d (J4 b d 64)).take i++d.drop i).length=8:=by rw[Zag _ _ _ (by omega) (by omega),hal]
   by_cases ZD:i<8
   ·have ZL:(i:Int)<8:=by omega
    have n1:nth ((J4 b d 64).map wv) i=some (.int .u32 ((J4 b d 64).getD i 0:Nat)):=by
     rw[Yl,List.getElem?_map,List.getD_eq_getElem?_getD,List.getElem?_eq_getElem (by omega)];rfl
    have q1:=ZK hxg (i:=i) (by omega)
    have e0:((Zc0 d (J4 b d 64)).take i++d.drop i).getD i 0=d.getD i 0:=by
     rw[List.getD_eq_getElem?_getD,List.getElem?_append_right (by rw[List.length_take];omega),List.length_take,Nat.min_eq_left (by omega),Nat.sub_self,List.getElem?_drop,Nat.add_zero,←List.getD_eq_getElem?_getD]
    rw[e0]at q1
    unfold wv at q1
    have eX:=ZpQ hd v8 ZD
    have cs:=ZY (f:=wv) hxg (i:=i) (by omega) ((Zc0 d (J4 b d 64)).getD i 0) rfl
    rw[Zc4 _ _ i (by omega) (by omega)]at cs
    have cs':Jp g3 ⟨bd,i,none⟩ (.int .u32 (((Zc0 d (J4 b d 64)).getD i 0:Nat):Int))=_:=cs
    rw[eX]at cs'
    generalize d.getD i 0=D at *
    generalize (J4 b d 64).getD i 0=V at *
    have e1:((D:Int)+(V:Int))%4294967296=(((D+V)%4294967296:Nat):Int):=by omega
    simp -implicitDefEqProofs only[go_sem,↓reduceIte,Zyn,ZvQ,ZL,n1]
    refine VS.w (g3.size) [9] (.q 0 (.q 1 (.q 2 (.q 3 (.q 4 (.q 5 (.q 6 (.q 7 (.q 8 (.w 9 .nil)))))))))) mixed (by kernel_rfl) ?_
    simp -implicitDefEqProofs only[go_sem,↓reduceIte,f0,Zyn,ZvQ,q1,e1,ZGf,cs',ZL]
    refine⟨⟨?_,f0,Zyn,i+1,ZD,rfl,ZP hxg⟩,?_⟩
    ·exact⟨by rw[Array.size_setIfInBounds];exact hB.size,fun k hk Ys=>by rw[Array.getElem?_setIfInBounds,if_neg (by intro e;exact Ys (by rw[e])),hB.block k hk Ys]⟩
    ·simp only[vi,Zk,↓reduceIte,ZvQ];omega
   ·have YK:¬(i:Int)<8:=by omega
    obtain rfl:i=8:=by omega
    have e9:(Zc0 d (J4 b d 64)).take 8++d.drop 8=Zku d b:=by
     rw[List.take_of_length_le (by omega),List.drop_of_length_le (by omega),List.append_nil];rfl
    rw[e9]at hxg
    simp -implicitDefEqProofs only[go_sem,↓reduceIte,ZvQ,YK]
    exact⟨hB,hxg⟩
def Znp:Value→Nat
 | .slice _ n _=>n
 | _=>0
def ZhM (n:Nat):List Nat:=0 :: 0 :: 0 :: 0 :: XI (8*n)
theorem Zfa (n:Nat):(ZhM n).length=8:=rfl
theorem Zqo (n:Nat):Zcz (ZhM n):=by
 intro x hx
 simp only[ZhM,List.mem_cons]at hx
 rcases hx with rfl|rfl|rfl|rfl|hx
 ·omega
 ·omega
 ·omega
 ·omega
 ·exact UP _ x hx
theorem ZvR {n k:Nat} (hn:n≤100000) (hk:k<8):Xe .i64 ((8*n:Nat):Int) ((56-8*k:Nat):Int)%256=(((ZhM n).getD k 0:Nat):Int):=by
 rw[Zbm _ _ (by omega)]
 rcases k with _|_|_|_|_|_|_|_|k
 ·show ((8*n/2 ^ 56:Nat):Int)%256=((0:Nat):Int)
  rw[Nat.div_eq_of_lt (by omega)];rfl
 ·show ((8*n/2 ^ 48:Nat):Int)%256=((0:Nat):Int)
  rw[Nat.div_eq_of_lt (by omega)];rfl
 ·show ((8*n/2 ^ 40:Nat):Int)%256=((0:Nat):Int)
  rw[Nat.div_eq_of_lt (by omega)];rfl
 ·show ((8*n/2 ^ 32:Nat):Int)%256=((0:Nat):Int)
  rw[Nat.div_eq_of_lt (by omega)];rfl
 ·rfl
 ·rfl
 ·rfl
 ·show ((8*n/2 ^ 0:Nat):Int)%256=((8*n%256:Nat):Int)
  rw[Nat.pow_zero,Nat.div_one];rfl
 ·omega
theorem ZvS {x bp op m c:Nat} {h h':Hp} {l:List Nat} (s:Bs h (.slice (some ⟨bp,op,none⟩) m c) l) (a:But (some x) h h') (Ys:bp≠x):Bs h' (.slice (some ⟨bp,op,none⟩) m c) l:=by
 obtain⟨⟨p,cap,hv,hl,hc⟩,hb⟩:=s
 simp only[Value.slice.injEq]at hv
 obtain⟨rfl,hm,rfl⟩:=hv
 refine⟨⟨_,_,by rw[hm],hl,fun hn=>?_⟩,hb⟩
 obtain⟨b,o,hp,YR⟩:=hc hn
 simp only[Option.some.injEq,Addr.mk.injEq,and_true]at hp
 obtain⟨rfl,rfl⟩:=hp
 refine⟨_,_,rfl,fun i hi=>?_⟩
 have h1:=YR i hi
 have h2:=Q8 h1
 unfold V.hc at h1 ⊢
 rw[a.block _ h2 (by intro e;exact Ys (Option.some.inj e).symm)]
 exact h1
theorem Zbu {bp op m c:Nat} {h:Hp} {l:List Nat} (s:Bs h (.slice (some ⟨bp,op,none⟩) m c) l) {k:Nat} (hk:k≤l.length) (hm:l.length=m) (c':Nat):Bs h (.slice (some ⟨bp,op+k,none⟩) (m-k) c') (l.drop k):=by
 subst hm
 refine⟨?_,fun x hx=>s.byte x (List.mem_of_mem_drop hx)⟩
 obtain⟨p',cap,hv,hl,hc⟩:=s.sl
 simp only[Value.slice.injEq]at hv
 obtain⟨rfl,_,rfl⟩:=hv
 refine⟨_,c',by rw[List.length_drop],by simp,fun Ys=>?_⟩
 have ZD:k<l.length:=by
  rw[←List.length_pos_iff]at Ys
  simp at Ys;omega
 obtain⟨b,o,hp,YR⟩:=hc (by intro e;simp at e;subst e;simp at ZD)
 simp only[Option.some.injEq,Addr.mk.injEq,and_true]at hp
 obtain⟨rfl,rfl⟩:=hp
 refine⟨_,_,rfl,fun i hi=>?_⟩
 have hi':i<l.length-k:=by simpa using hi
 rw[show op+k+i=op+(k+i) by omega,YR (k+i) (by simp;omega)]
 simp
abbrev Tk (h:Hp):Prop:=Tab 1 wv kN h
theorem Zjv (T:World) (h:Hp) (v:Value) (l:List Nat) (s:Bs h v l) (hl:l.length≤100000) (tk:Tk h) :
  Zd Tryz.prog T 71 #[v] h fun v' h'=>ZZ h.size 5 h' v' (U8 l)∧Zf h.size h h':=by
 obtain⟨p,cp,rfl,hc1⟩:=s.open
 have hbt:Zcz l:=s.byte
 refine Zd.Zi (args:=[_]) Tryz.func71 rfl rfl rfl rfl ?_
 simp -implicitDefEqProofs only[go_sem,↓reduceIte]
 obtain⟨h1,YF⟩:=Zx (h.push (.cells (ZsF.map wv).toArray 189):Hp)
 have hs1:h1.size=h.size+1:=by rw[YF];simp
 have b1:Zf h.size h h1:=by rw[YF];exact Zf.push (Nat.le_refl _) _
 have x1:h1[h.size]? = some (.cells (ZsF.map wv++[]).toArray 189):=by rw[YF,List.append_nil];exact Zb
 change vBi Tryz.prog T .append _ _ _ _ _ (h.push (.cells (ZsF.map wv).toArray 189))
 rw[←YF]
 clear YF
 refine Zv (E:=5) (B:=h.size+1) Yx Tryz.underlying44 tn5 tz5 tb5 (ZZ.Zhw _ _ _ _) (by omega) (s.Z9 b1) (by simp;omega) ?_
 intro w h2 o2 b2 _
 rw[List.nil_append]at o2
 simp -implicitDefEqProofs only[go_sem,↓reduceIte]
 refine Zv (E:=5) (B:=h.size+1) Yx Tryz.underlying44 tn5 tz5 tb5 (o2.push _) (by have:=b2.size;simp;omega) (Bs.one (x:=128) (by omega) 1) (by simp;omega) ?_
 intro w3 h3 o3 b3 _
 have B3:Zf (h.size+1) h1 h3:=(b2.Ye (by have:=b2.size;omega) _).trans b3
 have o3':ZZ (h.size+1) 5 h3 w3 (ZbU l 0):=o3
 clear o2 o3 b2 b3
 simp -implicitDefEqProofs only[go_sem,↓reduceIte]
 refine VS.ZW (fun F g=>Zf (h.size+1) h1 g∧F 0=.slice p l.length cp∧F 3=.pointer (some ⟨h.size,0,none⟩)∧∃j:Nat,j≤ZhD l.length∧ZZ (h.size+1) 5 g (F 4) (ZbU l j))
  (fun F _=>l.length+100-Znp (F 4)) rfl ⟨B3,rfl,rfl,0,by omega,o3'⟩ ?_
 clear o3' B3
 rintro F g ⟨hg,f0,f3,j,hj,ho⟩
 obtain⟨p4,c4,f4,_⟩:=ho.open
 have ml:=ZdJ l j
 obtain⟨M,hM⟩:=Zx (l.length+j+1)
 rw[ml,←hM]at f4
 have ZLJ:ZhD l.length<64:=by unfold ZhD;omega
 have d1:(M:Int).tmod 64=((M%64:Nat):Int):=rfl
 have hgs:=hg.size
 by_cases hm:M%64=56
 case neg=>
  have hm':¬((M%64:Nat):Int)=56:=by omega
  have Ys:j≠ZhD l.length:=fun e=>hm (by rw[hM];exact (Zkw hj).2 e)
  simp -implicitDefEqProofs only[go_sem,↓reduceIte,f0,f3,f4,d1,hm']
  have ho2:=ho
  rw[f4]at ho2
  refine Zv (E:=5) (B:=h.size+1) Yx Tryz.underlying44 tn5 tz5 tb5 (ho2.push _) (by simp;omega) (Bs.one (x:=0) (by omega) 1) (by rw[ml];simp;omega) ?_
  intro w' g' ho' XL _
  obtain⟨p5,c5,rfl,_⟩:=ho'.open
  simp -implicitDefEqProofs only[go_sem,↓reduceIte,f0,f3]
  refine⟨⟨(hg.Ye (by omega) _).trans XL,f0,f3,j+1,by omega,?_⟩,?_⟩
  ·rw[ZmU];exact ho'
  ·simp only[Znp,Zk,↓reduceIte,f4,List.length_append,ml,List.length_singleton];omega
 have hjn:j=ZhD l.length:=(Zkw hj).1 (by rw[←hM];exact hm)
 have hm':((M%64:Nat):Int)=56:=by omega
 simp -implicitDefEqProofs only[go_sem,↓reduceIte,f0,f3,f4,d1,hm']
 refine VS.ZW (fun F g=>Zf (h.size+1) h1 g∧F 0=.slice p l.length cp∧F 3=.pointer (some ⟨h.size,0,none⟩)∧∃k:Nat,k≤8∧F 5=.int .i64 (56-8*(k:Int))∧ZZ (h.size+1) 5 g (F 4) (ZbU l j++(ZhM l.length).take k))
  (fun F _=>(vi (F 5)+8).toNat) rfl ⟨hg,f0,f3,0,by omega,rfl,by rw[List.take_zero,List.append_nil];exact ho⟩ ?_
 clear f0 f3 f4 d1 hm hm' ho hg hgs F g
 rintro F g ⟨hg,f0,f3,k,hk,f5,ho⟩
 have hgs:=hg.size
 obtain⟨y,hy⟩:∃y:Int,y=56-8*(k:Int):=⟨_,rfl⟩
 rw[←hy]at f5
 by_cases ZD:k<8
 ·have hy0:0≤y:=by omega
  have hy1:¬y<0:=by omega
  obtain⟨X,hX⟩:=Zx ((ZhM l.length).getD k 0)
  have hXb:X<256:=by rw[hX];exact ZG (Zqo _) k
  obtain⟨xL,hxL⟩:∃x:Int,x=((8*l.length:Nat):Int):=⟨_,rfl⟩
  have eL:Unit→8*(l.length:Int)=xL:=fun _=>by rw[hxL];omega
  have xLb:0≤xL∧xL≤1000000:=by rw[hxL];omega
  have sh:Unit→Xe .i64 xL y%256=(X:Int):=fun _=>by
   rw[hxL,hy,show (56:Int)-8*(k:Int)=((56-8*k:Nat):Int) by omega,hX];exact ZvR hl ZD
  have ml2:(ZbU l j++(ZhM l.length).take k).length≤200000:=by rw[List.length_append,ml,List.length_take];omega
  have et:(ZhM l.length).take (k+1)=(ZhM l.length).take k++[X]:=by
   rw[Yi _ k (by rw[Zfa];exact ZD),hX,List.getD_eq_getElem?_getD,List.getElem?_eq_getElem (by rw[Zfa];exact ZD)];rfl
  clear hX hxL
  simp -implicitDefEqProofs only[go_sem,↓reduceIte,f0,f3,f5,hy0,hy1,eL (),sh ()]
  refine Zv (E:=5) (B:=h.size+1) Yx Tryz.underlying44 tn5 tz5 tb5 (ho.push _) (by simp;omega) (Bs.one hXb 1) (by simp only[List.length_singleton];omega) ?_
  intro w' g' ho' XL _
  simp -implicitDefEqProofs only[go_sem,↓reduceIte,f0,f3,f5]
  refine⟨⟨(hg.Ye (by omega) _).trans XL,f0,f3,k+1,ZD,?_,?_⟩,?_⟩
  ·show Value.int .i64 _=_
   congr 1;omega
  ·rw[et,←List.append_assoc];exact ho'
  ·simp only[vi,Zk,↓reduceIte,f5];omega
 ·have hy0:¬0≤y:=by omega
  obtain rfl:k=8:=by omega
  have ep:ZbU l j++(ZhM l.length).take 8=Zaj l:=by rw[hjn];rfl
  rw[ep]at ho
  have pl:=Zje l
  obtain⟨N,hN⟩:=Zx (ZpR l.length)
  have hN1:0<N:=by rw[hN];unfold ZpR;omega
  have hN2:N≤2000:=by rw[hN];unfold ZpR;omega
  rw[←hN]at pl
  have hgd:=hg.get (by omega) x1
  have bh:Zf h.size h g:=b1.trans (hg.mono (by omega))
  obtain⟨bp,cP,f4,hbp,hcP⟩:∃bp c,F 4=.slice (some ⟨bp,0,none⟩) (64*N) c∧h.size+1≤bp∧64*N≤c:=by
   rcases ho.own with⟨_,hm,_⟩|⟨b,cap,sp,hB,hv,_,_,_,hc⟩
   ·omega
   ·rw[pl]at hv hc;exact⟨b,cap,hv,hB,hc⟩
  have sP:=ho.bs
  rw[f4]at sP
  simp -implicitDefEqProofs only[go_sem,↓reduceIte,f0,f3,f5,hy0]
  refine VS.ZW (fun F g=>Zf h.size h g∧F 3=.pointer (some ⟨h.size,0,none⟩)∧∃j op c:Nat,j≤N∧F 4=.slice (some ⟨bp,op,none⟩) (64*(N-j)) c∧64*(N-j)≤c∧Bs g (.slice (some ⟨bp,op,none⟩) (64*(N-j)) c) ((Zaj l).drop (64*j))∧g[h.size]? = some (.cells ((Zkv (Zaj l) j).map wv++[]).toArray 189))
   (fun F _=>Znp (F 4)) rfl ⟨bh,f3,0,0,cP,by omega,f4,hcP,by exact sP,hgd⟩ ?_
  clear f0 f3 f4 f5 hy hy0 ZD ho sP hgd bh hg hgs ep hcP F g
  rintro F g ⟨hg,f3,j,op,c,hj,f4,hc,sP,hgd⟩
  have hgs:=Za hgd
  by_cases ZD:j<N
  ·obtain⟨L,hL⟩:=Zx (64*(N-j))
   rw[←hL]at f4 hc sP
   have ZLK:64≤L:=by omega
   have hdl:((Zaj l).drop (64*j)).length=L:=by rw[List.length_drop,pl];omega
   have hL0:0<(L:Int):=by omega
   have ZBd:(64:Int)≤(c:Int):=by omega
   have hc0:¬c=0:=by omega
   simp -implicitDefEqProofs only[go_sem,↓reduceIte,f3,f4,hL0,ZBd,hc0,Nat.sub_zero,Nat.zero_mul]
   have sB:Bs g (.slice (some ⟨bp,op,none⟩) 64 c) (((Zaj l).drop (64*j)).take 64):=by
    rw[←hdl]at sP;exact Bs.Zcy sP (by omega) c
   obtain⟨dl,dw⟩:=ZdI (Zaj l) j
   refine (Zk5 T g h.size (Zkv (Zaj l) j) _ (((Zaj l).drop (64*j)).take 64) dl dw sB (by rw[List.length_take,hdl];omega) (tk.Jq hg) hgd (by have:=tk.1;omega)).use ?_
   rintro _ g2 ⟨ZcV,hx2⟩
   have QF:Zf h.size h g2:=hg.trans (ZcV.Z9 (by omega) (fun b e=>by have:=Option.some.inj e;omega))
   have sP2:=ZvS sP ZcV (by omega)
   by_cases hce:c=64
   ·have hLe:L=64:=by omega
    have ZGg:(c:Int)=64:=by omega
    have hLi:(L:Int)=64:=by omega
    subst hce hLe
    simp -implicitDefEqProofs only[go_sem,↓reduceIte,f3,f4,ZGg,hLi]
    refine⟨⟨QF,f3,j+1,op,0,ZD,?_,by omega,?_,hx2⟩,?_⟩
    ·show Value.slice _ _ _=_
     rw[show 64*(N-(j+1))=0 by omega]
    ·rw[show 64*(N-(j+1))=0 by omega,List.drop_of_length_le (by rw[pl];omega)]
     exact (ZZ.Zhw 0 5 _ _).bs
    ·simp only[Znp,Zk,↓reduceIte,f4];omega
   ·have ZBe:(64:Int)≤(L:Int):=by omega
    simp -implicitDefEqProofs only[go_sem,↓reduceIte,f3,f4,ZBd,ZBe,hce]
    refine⟨⟨QF,f3,j+1,op+64,c-64,ZD,?_,by omega,?_,hx2⟩,?_⟩
    ·show Value.slice _ _ _=_
     rw[show L-64=64*(N-(j+1)) by omega]
    ·have:=Zbu sP2 (k:=64) (by omega) hdl (c-64)
     rw[List.drop_drop,show L-64=64*(N-(j+1)) by omega,show 64*j+64=64*(j+1) by omega]at this
     exact this
    ·simp only[Znp,Zk,↓reduceIte,f4];omega
  ·obtain rfl:j=N:=by omega
   have eS:U8 l=Zr (Zkv (Zaj l) j):=by rw[U8,←hN]
   obtain⟨dl,dw⟩:=ZdI (Zaj l) j
   obtain⟨D,hD⟩:=Zx (Zkv (Zaj l) j)
   rw[←hD]at dl dw hgd eS
   rw[eS]
   have r0:rd g ⟨h.size,0,none⟩ 8=some (D.map wv):=by rw[List.append_nil]at hgd;exact Zo hgd (by simp[dl])
   rw[Nat.sub_self,Nat.mul_zero]at f4
   have hz:¬h.size=g.size:=by omega
   simp -implicitDefEqProofs only[go_sem,↓reduceIte,f3,f4,r0,hz]
   have hBo:Zf h.size h (g.push (.cells (XP 32 [Value.int .u8 0]).toArray 5)):=hg.add _
   have oO:ZZ h.size 5 (g.push (.cells (XP 32 [Value.int .u8 0]).toArray 5)) (.slice (some ⟨g.size,0,none⟩) 0 32) (Zr (D.take 0)):=
    ⟨.inr ⟨g.size,32,XP 32 [Value.int .u8 0],hg.size,rfl,Zb,rfl,rfl,Nat.zero_le 32⟩,fun x hx=>by cases hx⟩
   refine VS.ZW (fun F g=>Zf h.size h g∧F 43=.agg (D.map wv).toArray∧∃i:Nat,i≤8∧F 44=.int .i64 i∧ZZ h.size 5 g (F 6) (Zr (D.take i)))
    (fun F _=>8-(vi (F 44)).toNat) rfl ⟨hBo,rfl,0,by omega,rfl,oO⟩ ?_
   clear f3 f4 ZD hgd r0 hz hBo oO sP hc hg hgs g F
   rintro F g ⟨hg,f43,i,hi,f44,ho⟩
   have hgs:=hg.size
   by_cases ZD:i<8
   ·have ZL:(i:Int)<8:=by omega
    obtain⟨x,hx⟩:=Zx (D.getD i 0)
    have hxb:x<4294967296:=by rw[hx];exact dw.getD i
    have et:D.take (i+1)=D.take i++[x]:=by
     rw[Yi _ i (by omega),hx,List.getD_eq_getElem?_getD,List.getElem?_eq_getElem (by omega)];rfl
    obtain⟨yx,hyx⟩:∃y:Int,y=(x:Int):=⟨_,rfl⟩
    obtain⟨z0,hz0⟩:∃y:Int,y=((x/16777216%256:Nat):Int):=⟨_,rfl⟩
    obtain⟨z1,hz1⟩:∃y:Int,y=((x/65536%256:Nat):Int):=⟨_,rfl⟩
    obtain⟨z2,hz2⟩:∃y:Int,y=((x/256%256:Nat):Int):=⟨_,rfl⟩
    obtain⟨z3,hz3⟩:∃y:Int,y=((x%256:Nat):Int):=⟨_,rfl⟩
    have n1:nth (D.map wv) i=some (.int .u32 yx):=by
     rw[Yl,List.getElem?_map,hyx,hx,List.getD_eq_getElem?_getD,List.getElem?_eq_getElem (by omega)];rfl
    have e1:Unit→Xe .u32 yx 24%256=z0:=fun _=>by rw[hyx,hz0,show (24:Int)=((24:Nat):Int) from rfl,QY x 24 (by decide)];rfl
    have e2:Unit→Xe .u32 yx 16%256=z1:=fun _=>by rw[hyx,hz1,show (16:Int)=((16:Nat):Int) from rfl,QY x 16 (by decide)];rfl
    have e3:Unit→Xe .u32 yx 8%256=z2:=fun _=>by rw[hyx,hz2,show (8:Int)=((8:Nat):Int) from rfl,QY x 8 (by decide)];rfl
    have e4:Unit→yx%256=z3:=fun _=>by rw[hyx,hz3];rfl
    have XU:(Zr (D.take i)).length≤32:=by rw[ZA,List.length_take];omega
    clear hyx hx
    simp -implicitDefEqProofs only[go_sem,↓reduceIte,f43,f44,ZL,n1,e1 (),e2 (),e3 (),e4 ()]
    subst hz0 hz1 hz2 hz3
    refine Zv (E:=5) (B:=h.size) Yx Tryz.underlying44 tn5 tz5 tb5 (ho.push _) (by simp;omega) (Bs.made (l:=XI x) (UP x) 4) (by simp[XI];omega) ?_
    intro w' g' ho' XL _
    simp -implicitDefEqProofs only[go_sem,↓reduceIte,f43,f44]
    refine⟨⟨(hg.add _).trans XL,f43,i+1,ZD,rfl,?_⟩,?_⟩
    ·rw[et]
     unfold Zr at ho' ⊢
     rw[List.flatMap_append]
     simp only[List.flatMap_cons,List.flatMap_nil,List.append_nil]
     exact ho'
    ·simp only[vi,Zk,↓reduceIte,f44];omega
   ·have YK:¬(i:Int)<8:=by omega
    obtain rfl:i=8:=by omega
    rw[List.take_of_length_le (by omega)]at ho
    simp -implicitDefEqProofs only[go_sem,↓reduceIte,f43,f44,YK]
    exact⟨ho,hg⟩
def Zc5 (n:Nat):Int:=if 2000<n then 1 else 0
def Ztc (B:Nat) (h':Hp) (v':Value) (l:List Nat):Prop:=∃w,v'=.tuple [w,.int .i64 (Zc5 l.length)].toArray∧ZZ B 5 h' w (if Zc5 l.length=0 then U8 l else [])
theorem Zir (T:World) (h:Hp) (v:Value) (l:List Nat) (s:Bs h v l) (tk:Tk h) :
  Zd Tryz.prog T 46 #[v] h fun v' h'=>Ztc h.size h' v' l∧Zf h.size h h':=by
 obtain⟨p,cp,rfl,hc1⟩:=s.open
 refine Zd.Zi (args:=[_]) Tryz.func46 rfl rfl rfl rfl ?_
 unfold Ztc Zc5
 by_cases hl:2000<l.length
 ·have hl':2000<(l.length:Int):=by omega
  simp -implicitDefEqProofs only[go_sem,↓reduceIte,hl',hl]
  exact⟨_,rfl,ZZ.nil _ _ _⟩
 ·have hl':¬2000<(l.length:Int):=by omega
  simp -implicitDefEqProofs only[go_sem,↓reduceIte,hl',hl]
  refine (Zjv T _ _ l s (by omega) tk).use ?_
  rintro w h1 ⟨o1,b1⟩
  simp -implicitDefEqProofs only[go_sem,↓reduceIte,b1]
  exact⟨_,rfl,o1⟩
def Zd2 (body:List Nat):List Nat:=body.length :: body
def Yj (body:List Nat):List Nat:=Zd2 body++(U8 (Zd2 body)).take 4
theorem Qm (body:List Nat):(Zd2 body).length=body.length+1:=rfl
theorem Uf (body:List Nat):(Yj body).length=body.length+5:=by
 rw[Yj,List.length_append,List.length_take,Jv,Qm];omega
def YJ (l:List Nat) (n:Int):Prop:=l.length≤100000∧0≤n∧n≤l.length
instance (l:List Nat) (n:Int):Decidable (YJ l n):=by unfold YJ;infer_instance
def JA (l:List Nat) (n:Int) (k:Nat):Int:=if ¬YJ l n then 5 else if 100000<l.length+(k+5) then 8 else 0
def Zbv (B:Nat) (h':Hp) (v':Value) (l:List Nat) (n:Int) (E:Int) (add:List Nat):Prop:=
 ∃w,v'=.tuple [.agg [w,.int .i64 (if E=0 then n else 0)].toArray,.int .i64 E].toArray∧ZZ B 5 h' w (if E=0 then l++add else [])
theorem But.Zyo {h g:Hp} {b:Nat} {o:Obj} (a:But (some b) h g):But (some b) h (g.setIfInBounds b o):=
 ⟨by rw[Array.size_setIfInBounds];exact a.size,fun k hk Ys=>by rw[Array.getElem?_setIfInBounds,if_neg (fun e=>Ys (by rw[e])),a.block k hk Ys]⟩
theorem Za3 (T:World) (h:Hp) (v u:Value) (n:Int) (l body:List Nat) (s:Bs h v l) (hl:l.length≤140737488355328) (sb:Bs h u body) (hb:body.length≤255) (tk:Tk h) :
  Zd Tryz.prog T 119 #[.agg [v,.int .i64 n].toArray,u] h fun v' h'=>Zbv h.size h' v' l n (JA l n body.length) (Yj body)∧Zf h.size h h':=by
 obtain⟨p,c,rfl,_⟩:=s.open
 obtain⟨q,d,rfl,_⟩:=sb.open
 refine Zd.Zi (args:=[_,_]) Tryz.func119 rfl rfl rfl rfl ?_
 unfold Zbv
 simp -implicitDefEqProofs only[go_sem,↓reduceIte]
 obtain⟨h0,XO⟩:=Zx ((h.push (.cells [.slice p l.length c,.int .i64 n].toArray 58)).push (.cells [.slice none 0 0,.int .i64 0].toArray 58):Hp)
 have b0:Zf h.size h h0:=by rw[XO];exact ((Zf.refl _ _).add _).add _
 have s0:h0.size=h.size+1+1:=by rw[XO];simp
 have x0:h0[h.size+1]? = some (.cells [.slice none 0 0,.int .i64 0].toArray 58):=by
  rw[XO,Array.getElem?_push,if_pos (by simp)]
 rw[←XO]
 clear XO
 refine (Qj T h0 _ n l (s.Z9 b0) hl).use ?_
 rintro _ h1 ⟨b1,o1⟩
 have s1:=b1.size
 by_cases ok:YJ l n
 case neg=>
  have ee:JA l n body.length=5:=by unfold JA;rw[if_pos ok]
  rw[if_neg (show ¬(l.length≤100000∧0≤n∧n≤l.length) from ok)]at o1
  subst o1
  rw[ee]
  have x1:=b1.get (by omega) x0
  have y2:=ZQ x1 0
  have ZD:h.size+1<h1.size:=by omega
  have Ys:¬h.size+1=h1.size:=by omega
  simp -implicitDefEqProofs only[go_sem,↓reduceIte,y2,Ys,ZD]
  exact⟨⟨_,rfl,ZZ.nil _ _ _⟩,((b0.trans (b1.mono (by omega))).Zj (by omega) _).Ye (by simp;omega) _⟩
 have ee:JA l n body.length=if 100000<l.length+(body.length+5) then 8 else 0:=by unfold JA;rw[if_neg (fun hn=>hn ok)]
 rw[if_pos (show (l.length≤100000∧0≤n∧n≤l.length) from ok)]at o1
 obtain⟨w,rfl,o1⟩:=o1
 obtain⟨pw,cw,rfl,_⟩:=o1.open
 have B1:=b0.trans (b1.mono (by omega))
 have x1:=b1.get (by omega) x0
 obtain⟨hl1,hn0,hn1⟩:=ok
 obtain⟨h2,hh2⟩:=Zx (h1.push (.cells [.slice pw l.length cw,.int .i64 n].toArray 58):Hp)
 have b2:Zf h1.size h1 h2:=by rw[hh2];exact Zf.push (Nat.le_refl _) _
 have s2:h2.size=h1.size+1:=by rw[hh2];simp
 have x6:h2[h1.size]? = some (.cells [.slice pw l.length cw,.int .i64 n].toArray 58):=by rw[hh2];exact Zb
 have eb:(body.length:Int)%256=(body.length:Int):=by omega
 have e2:h1.push (.cells #[Value.slice pw l.length cw,.int .i64 n] 58)=h2:=hh2.symm
 simp -implicitDefEqProofs only[go_sem,↓reduceIte,eb]
 rw[e2]
 clear e2 hh2
 rw[←s2]
 have B2:=B1.trans (b2.mono B1.size)
 have o2:=o1.Z9 b2 (Nat.le_refl _)
 have hb2:∀x∈[body.length],x<256:=by intro x hx;rw[List.mem_singleton.1 hx];omega
 have of0:ZZ h2.size 5 (h2.push (.cells (([body.length]:List Nat).map bv).toArray 5)) (.slice (some ⟨h2.size,0,none⟩) 1 1) [body.length]:=ZZ.made hb2 (Nat.le_refl _)
 have bp:Zf h2.size h2 (h2.push (.cells (([body.length]:List Nat).map bv).toArray 5)):=Zf.push (Nat.le_refl _) _
 refine Zv (E:=5) (B:=h2.size) Yx Tryz.underlying44 tn5 tz5 tb5 of0 (by simp) (sb.Z9 (B2.trans (bp.mono (by omega)))) (by simp;omega) ?_
 intro wf h3 of3 b3 _
 have B3:Zf h2.size h2 h3:=bp.trans b3
 have Bh3:=B2.trans (B3.mono (by omega))
 have ZBf:ZZ h2.size 5 h3 wf (Zd2 body):=of3
 clear of0 bp of3 b3
 have fl:=Qm body
 have fsl:=Uf body
 have efr:Yj body=Zd2 body++(U8 (Zd2 body)).take 4:=rfl
 have shl:=Jv (Zd2 body)
 simp -implicitDefEqProofs only[go_sem,↓reduceIte]
 refine (Zir T h3 wf (Zd2 body) ZBf.bs (tk.Jq Bh3)).use ?_
 rintro _ h4 ⟨⟨ws,rfl,os⟩,b4⟩
 have e0:Zc5 (Zd2 body).length=0:=by unfold Zc5;rw[if_neg (by omega)]
 rw[e0,if_pos rfl]at os
 rw[e0]
 generalize U8 (Zd2 body)=SH at *
 obtain⟨ps,cs,rfl,YR⟩:=os.open
 have sS:=os.bs
 obtain⟨p',c',hv,hh⟩:=sS.Up
 simp only[Value.slice.injEq]at hv
 obtain⟨rfl,_,rfl⟩:=hv
 obtain⟨bb,ob,rfl,_⟩:=hh (by intro e;rw[e]at shl;cases shl)
 have s4:=Bs.Zcy sS (m:=4) (by omega) cs
 rw[shl]at YR ⊢
 have h4c:(4:Int)≤(cs:Int):=by omega
 have ZgC:¬cs=0:=by omega
 have of4:=ZBf.Z9 b4 (Nat.le_refl _)
 have s3:=B3.size
 have s4s:=b4.size
 have B4:Zf h2.size h2 h4:=B3.trans (b4.mono s3)
 simp -implicitDefEqProofs only[go_sem,↓reduceIte,h4c,ZgC,Nat.sub_zero,Nat.zero_mul]
 refine Zv (E:=5) (B:=h2.size) Yx Tryz.underlying44 tn5 tz5 tb5 of4 (by omega) s4 (by rw[fl,List.length_take];omega) ?_
 intro wg h5 og b5 _
 rw[←efr]at og
 have B5:Zf h2.size h2 h5:=B4.trans b5
 have s5:=B5.size
 have Bh5:=B2.trans (B5.mono (by omega))
 obtain⟨pg,cg,rfl,_⟩:=og.open
 rw[fsl]
 have x65:=B5.get (by omega) x6
 have r65:V.hc h5 ⟨h1.size,0,none⟩=some (.slice pw l.length cw):=by rw[Zg x65];rfl
 have o5:=o2.Z9 B5 (Nat.le_refl _)
 have x15:h5[h.size+1]? = some (.cells [.slice none 0 0,.int .i64 0].toArray 58):=B5.get (by omega) (b2.get (by omega) x1)
 generalize Yj body=FR at *
 by_cases q:100000<l.length+(body.length+5)
 ·have q':100000<(l.length:Int)+((body.length+5:Nat):Int):=by omega
  have y2:=ZQ x15 0
  have ZD:h.size+1<h5.size:=by omega
  rw[if_pos q]at ee
  rw[ee]
  simp -implicitDefEqProofs only[go_sem,↓reduceIte,r65,q',y2,ZD]
  exact⟨⟨_,rfl,ZZ.nil _ _ _⟩,Bh5.Zj (by omega) _⟩
 ·have q':¬100000<(l.length:Int)+((body.length+5:Nat):Int):=by omega
  rw[if_neg q]at ee
  rw[ee]
  simp -implicitDefEqProofs only[go_sem,↓reduceIte,r65,q']
  have ogb:Bs h5 (.slice pg (body.length+5) cg) FR:=by rw[←fsl];exact og.bs
  refine JY (E:=5) (B:=h0.size) Yx Tryz.underlying44 tn5 tz5 tb5 o5 (by omega) ogb (by omega) ?_
  intro wz h6 oz b6 bt6 bk6
  have s6:=b6.size
  have hw1:∀b,ZT (Value.slice pw l.length cw)=some b→b<h1.size:=o1.own.lt
  have x66:h6[h1.size]? = some (.cells [.slice pw l.length cw,.int .i64 n].toArray 58):=by
   rw[bt6.block _ (by omega) (fun e=>by have:=hw1 _ e;omega)];exact x65
  have x16:h6[h.size+1]? = some (.cells [.slice none 0 0,.int .i64 0].toArray 58):=b6.get (by omega) x15
  obtain⟨pz,cz,hwz,_⟩:=oz.open
  have zl:(l++FR).length=l.length+(body.length+5):=by rw[List.length_append,fsl]
  rw[zl]at hwz
  subst hwz
  have w66:=Yu (v:=.slice pz (l.length+(body.length+5)) cz) x66 (o:=0)
  obtain⟨h7,hh7⟩:=Zx (h6.setIfInBounds h1.size (.cells [.slice pz (l.length+(body.length+5)) cz,.int .i64 n].toArray 58):Hp)
  have ZGh:Jp h6 ⟨h1.size,0,none⟩ (.slice pz (l.length+(body.length+5)) cz)=some h7:=by rw[w66,if_pos ⟨by simp,rfl⟩,hh7];rfl
  have b7:But (some h1.size) h6 h7:=by rw[hh7];exact But.Zyo But.refl
  have x77:h7[h1.size]? = some (.cells [.slice pz (l.length+(body.length+5)) cz,.int .i64 n].toArray 58):=by rw[hh7,Array.getElem?_setIfInBounds,if_pos rfl,if_pos (by omega)]
  have x17:h7[h.size+1]? = some (.cells [.slice none 0 0,.int .i64 0].toArray 58):=by
   rw[b7.block _ (by omega) (fun e=>by have:=Option.some.inj e;omega)];exact x16
  have oz7:=oz.but b7 (fun b hb e=>by
   have e':=Option.some.inj e
   rcases bk6 b hb with g1|g1
   ·have:=hw1 b g1;omega
   ·omega)
  have r77:rd h7 ⟨h1.size,0,none⟩ 2=some [.slice pz (l.length+(body.length+5)) cz,.int .i64 n]:=Zo x77 rfl
  have y7:=ZQ x17 0
  have ZgM:h.size+1<h7.size:=Za x17
  have Bh6:Zf h.size h h6:=Bh5.trans (b6.mono (by omega))
  have Bh7:Zf h.size h h7:=Bh6.trans (b7.Z9 (by omega) (fun b e=>by have:=Option.some.inj e;omega))
  clear hh7 w66
  simp -implicitDefEqProofs only[go_sem,↓reduceIte,ZGh,r77,y7,ZgM]
  refine⟨⟨_,rfl,?_⟩,Bh7.Zj (by omega) _⟩
  exact (oz7.ZR (by omega) _).mono (by omega)
theorem UE (g:Hp) (ns:List Nat):NT (g.push (.cells (ns.map nv).toArray 3)) (.slice (some ⟨g.size,0,none⟩) ns.length ns.length) ns:=by
 constructor
 rw[Q9 nv]
 exact Sl.made (by simp) _
theorem Za4 (T:World) (h:Hp) (u:Value) (ns:List Nat) (s:NT h u ns) (hl:ns.length≤100) (hb:∀x∈ns,x≤1073741824) :
  Zd Tryz.prog T 120 #[u] h fun v' h'=>ZZ h.size 5 h' v' (Zr ns)∧Zf h.size h h':=by
 obtain⟨p,c,rfl,YR⟩:=Zvs s
 refine Zd.Zi (args:=[_]) Tryz.func120 rfl rfl rfl rfl ?_
 simp -implicitDefEqProofs only[go_sem,↓reduceIte]
 refine VS.ZW (fun F g=>Zf h.size h g∧F 6=.slice p ns.length c∧F 7=.int .i64 ns.length∧∃i:Nat,i≤ns.length∧F 8=.int .i64 i∧ZZ h.size 5 g (F 3) (Zr (ns.take i)))
  (fun F _=>ns.length-(vi (F 8)).toNat) rfl ⟨Zf.refl _ _,rfl,rfl,0,by omega,rfl,ZZ.nil _ _ _⟩ ?_
 rintro F g ⟨hg,f6,f7,i,hi,f8,ho⟩
 have hgs:=hg.size
 by_cases ZD:i<ns.length
 ·have ZL:(i:Int)<ns.length:=by omega
  obtain⟨b,o,rfl,hb0,YR⟩:=YR (by intro e;rw[e]at ZD;simp at ZD)
  have n1:V.hc g ⟨b,o+i,none⟩=some (.int .i64 (ns.getD i 0:Nat)):=by rw[hg.hc (by exact hb0)];exact YR i ZD
  have et:ns.take (i+1)=ns.take i++[ns.getD i 0]:=by
   rw[Yi _ i ZD,List.getD_eq_getElem?_getD,List.getElem?_eq_getElem ZD];rfl
  have hx:ns.getD i 0≤1073741824:=by
   rw[List.getD_eq_getElem?_getD,List.getElem?_eq_getElem ZD];exact hb _ (List.getElem_mem ZD)
  generalize ns.getD i 0=x at *
  obtain⟨yx,hyx⟩:∃y:Int,y=(x:Int):=⟨_,rfl⟩
  obtain⟨z0,hz0⟩:∃y:Int,y=((x/16777216%256:Nat):Int):=⟨_,rfl⟩
  obtain⟨z1,hz1⟩:∃y:Int,y=((x/65536%256:Nat):Int):=⟨_,rfl⟩
  obtain⟨z2,hz2⟩:∃y:Int,y=((x/256%256:Nat):Int):=⟨_,rfl⟩
  obtain⟨z3,hz3⟩:∃y:Int,y=((x%256:Nat):Int):=⟨_,rfl⟩
  rw[←hyx]at n1
  have e1:Unit→Xe .i64 yx 24%256=z0:=fun _=>by rw[hyx,hz0,show (24:Int)=((24:Nat):Int) from rfl,Zbm x 24 (by decide)];rfl
  have e2:Unit→Xe .i64 yx 16%256=z1:=fun _=>by rw[hyx,hz1,show (16:Int)=((16:Nat):Int) from rfl,Zbm x 16 (by decide)];rfl
  have e3:Unit→Xe .i64 yx 8%256=z2:=fun _=>by rw[hyx,hz2,show (8:Int)=((8:Nat):Int) from rfl,Zbm x 8 (by decide)];rfl
  have e4:Unit→yx%256=z3:=fun _=>by rw[hyx,hz3];rfl
  have XU:(Zr (ns.take i)).length≤400:=by rw[ZA,List.length_take];omega
  clear hyx
  simp -implicitDefEqProofs only[go_sem,↓reduceIte,f6,f7,f8,ZL,n1,e1 (),e2 (),e3 (),e4 ()]
  subst hz0 hz1 hz2 hz3
  refine Zv (E:=5) (B:=h.size) Yx Tryz.underlying44 tn5 tz5 tb5 (ho.push _) (by simp;omega) (Bs.made (l:=XI x) (UP x) 4) (by simp[XI];omega) ?_
  intro w' g' ho' XL _
  simp -implicitDefEqProofs only[go_sem,↓reduceIte,f6,f7,f8]
  refine⟨⟨(hg.add _).trans XL,f6,f7,i+1,ZD,rfl,?_⟩,?_⟩
  ·rw[et]
   unfold Zr at ho' ⊢
   rw[List.flatMap_append]
   simp only[List.flatMap_cons,List.flatMap_nil,List.append_nil]
   exact ho'
  ·simp only[vi,Zk,↓reduceIte,f8];omega
 ·have YK:¬(i:Int)<ns.length:=by omega
  obtain rfl:i=ns.length:=by omega
  rw[List.take_length]at ho
  simp -implicitDefEqProofs only[go_sem,↓reduceIte,f6,f7,f8,YK]
  exact⟨ho,hg⟩
def JS (l:List Nat) (n:Int) (b:Yw):Int:=if ¬YJ l n then 5 else if ¬ZI b then 2 else JA l n 9
def XQ (b:Yw):List Nat:=1 :: Zr [b.r.toNat,b.n.toNat]
theorem Znq (b:Yw):Yo ⟨0,0⟩ [] b=if ZI b then 0 else 2:=by
 have e:Xt ⟨0,0⟩ []=0:=rfl
 unfold Yo
 rw[if_neg (by rw[e];decide)]
 by_cases q:ZI b
 ·rw[if_neg (fun hn=>hn q),if_pos q,if_neg]
  intro hb
  have q1:=q.1.1
  rcases hb with hb|⟨hb,_⟩<;>simp at hb<;>omega
 ·rw[if_pos q,if_neg q]
theorem Zfb (T:World) (h:Hp) (v:Value) (n:Int) (l:List Nat) (b:Yw) (s:Bs h v l) (hl:l.length≤140737488355328) (tk:Tk h) :
  Zd Tryz.prog T 89 #[.agg [v,.int .i64 n].toArray,.agg (X6 b).toArray] h fun v' h'=>Zbv h.size h' v' l n (JS l n b) (Yj (XQ b))∧Zf h.size h h':=by
 obtain⟨p,c,rfl,_⟩:=s.open
 refine Zd.Zi (args:=[_,_]) Tryz.func89 rfl rfl rfl rfl ?_
 unfold Zbv X6
 simp -implicitDefEqProofs only[go_sem,↓reduceIte]
 obtain⟨h0,XO⟩:=Zx (((h.push (.cells [.slice p l.length c,.int .i64 n].toArray 58)).push (.cells [.int .i64 b.r,.int .i64 b.n].toArray 60)).push (.cells [.slice none 0 0,.int .i64 0].toArray 58):Hp)
 have b0:Zf h.size h h0:=by rw[XO];exact (((Zf.refl _ _).add _).add _).add _
 have s0:h0.size=h.size+3:=by rw[XO];simp
 have t0:h0[h.size]? = some (.cells [.slice p l.length c,.int .i64 n].toArray 58):=by
  rw[XO,Array.getElem?_push,if_neg (by simp;omega),Array.getElem?_push,if_neg (by simp),Zb]
 have t1:h0[h.size+1]? = some (.cells [.int .i64 b.r,.int .i64 b.n].toArray 60):=by
  rw[XO,Array.getElem?_push,if_neg (by simp),Array.getElem?_push,if_pos (by simp)]
 have x0:h0[h.size+2]? = some (.cells [.slice none 0 0,.int .i64 0].toArray 58):=by
  rw[XO,Array.getElem?_push,if_pos (by simp)]
 rw[←XO]
 clear XO
 refine (Qj T h0 _ n l (s.Z9 b0) hl).use ?_
 rintro _ h1 ⟨b1,o1⟩
 have s1:=b1.size
 have B1:Zf h.size h h1:=b0.trans (b1.mono (by omega))
 have x1:=b1.get (by omega) x0
 by_cases ok:YJ l n
 case neg=>
  have ee:JS l n b=5:=by unfold JS;rw[if_pos ok]
  rw[if_neg (show ¬(l.length≤100000∧0≤n∧n≤l.length) from ok)]at o1
  subst o1
  rw[ee]
  have y2:=ZQ x1 0
  have ZD:h.size+2<h1.size:=by omega
  have Ys:¬h.size+2=h1.size:=by omega
  simp -implicitDefEqProofs only[go_sem,↓reduceIte,y2,Ys,ZD]
  exact⟨⟨_,rfl,ZZ.nil _ _ _⟩,(B1.Zj (by omega) _).Ye (by simp;omega) _⟩
 rw[if_pos (show (l.length≤100000∧0≤n∧n≤l.length) from ok)]at o1
 obtain⟨w,rfl,o1⟩:=o1
 obtain⟨pw,cw,rfl,_⟩:=o1.open
 have bt1:=b1.get (by omega) t1
 have r1:rd h1 ⟨h.size+1,0,none⟩ 2=some [.int .i64 b.r,.int .i64 b.n]:=Zo bt1 rfl
 have Zk6:¬h.size+1=h1.size:=by omega
 simp -implicitDefEqProofs only[go_sem,↓reduceIte,r1,Zk6]
 have b2:Zf h1.size h1 (h1.push (.cells [.slice pw l.length cw,.int .i64 n].toArray 58)):=Zf.push (Nat.le_refl _) _
 refine (Zbr T _ ⟨0,0⟩ (.slice none 0 0) [] b (Jc.nil 0 96 Zm 8 _).ts (by simp)).use ?_
 rintro _ h3 ⟨⟨w1,w2,rfl,q1,q2⟩,b3⟩
 simp only[ite_self]at q1
 have B3:Zf h1.size h1 h3:=b2.trans (b3.mono b2.size)
 rw[Znq]
 obtain⟨p1,c1,hw1,_⟩:=q1.open
 have s3:=B3.size
 have x3:=B3.get (by omega) x1
 have Bh3:=B1.trans (B3.mono (by omega))
 by_cases may:ZI b
 case neg=>
  have ee:JS l n b=2:=by unfold JS;rw[if_neg (fun hn=>hn ok),if_pos may]
  rw[ee,if_neg may]
  obtain⟨w1',ZLL⟩:∃w,w=w1:=⟨_,rfl⟩
  subst hw1
  have y2:=ZQ x3 0
  have ZD:h.size+2<h3.size:=by omega
  have Ys:¬h.size+2=h3.size:=by omega
  unfold YI
  simp -implicitDefEqProofs only[go_sem,↓reduceIte,y2,Ys,ZD]
  exact⟨⟨_,rfl,ZZ.nil _ _ _⟩,(Bh3.Zj (by omega) _).Ye (by simp;omega) _⟩
 have ee:JS l n b=JA l n 9:=by unfold JS;rw[if_neg (fun hn=>hn ok),if_neg (fun hn=>hn may)]
 rw[ee,if_pos may]
 obtain⟨⟨m1,m2⟩,m3,m4⟩:=may
 obtain⟨br,bn⟩:=b
 obtain⟨r,rfl⟩:∃r:Nat,br=r:=⟨br.toNat,by simp at m1;omega⟩
 obtain⟨m,rfl⟩:∃m:Nat,bn=m:=⟨bn.toNat,by simp at m3;omega⟩
 simp only at m1 m2 m3 m4
 unfold XQ
 simp only[Int.toNat_natCast]
 subst hw1
 unfold YI
 have t3:=B3.get (by omega) (b1.get (by omega) t0)
 have t13:=B3.get (by omega) bt1
 obtain⟨g,hg⟩:=Zx (h3.push (.cells [.int .i64 (r:Nat),.int .i64 (m:Nat),.slice p1 ([]:List Vt).length c1].toArray 63):Hp)
 simp -implicitDefEqProofs only[go_sem,↓reduceIte]
 have e3:h3.push (.cells #[Value.int .i64 (r:Nat),.int .i64 (m:Nat),.slice p1 0 c1] 63)=g:=hg.symm
 rw[e3]
 have bg:Zf h3.size h3 g:=by rw[hg];exact Zf.push (Nat.le_refl _) _
 have sg:g.size=h3.size+1:=by rw[hg];simp
 clear e3 hg
 have Bg:Zf h.size h g:=Bh3.trans (bg.mono (by omega))
 have x4g:=bg.get (by omega) x3
 have t4:=bg.get (by omega) t3
 have t14:=bg.get (by omega) t13
 have r0:rd g ⟨h.size,0,none⟩ 2=some [.slice p l.length c,.int .i64 n]:=Zo t4 rfl
 have c0:V.hc g ⟨h.size+1,0,none⟩=some (.int .i64 (r:Nat)):=by rw[Zg t14];rfl
 have c1':V.hc g ⟨h.size+1,1,none⟩=some (.int .i64 (m:Nat)):=by rw[Zg t14];rfl
 have k0:h.size<g.size:=by omega
 have k1:h.size+1<g.size:=by omega
 refine VS.w (g.size) [12,13] (.q 0 (.q 2 (.q 3 (.q 4 (.q 5 (.or 1 (.s 6 (.s 7 (.s 8 (.s 9 (.q 10 (.q 11 (.w 12 (.w 13 .nil)))))))) (.s 6 (.or 1 (.s 7 (.s 8 (.s 9 (.q 10 (.q 11 (.w 12 (.w 13 .nil))))))) (.s 7 (.s 1 (.s 8 (.s 9 (.q 10 (.q 11 (.w 12 (.w 13 .nil)))))))))))))))) mixed (by kernel_rfl) ?_
 simp -implicitDefEqProofs only[go_sem,↓reduceIte,r0,c0,c1',k0,k1]
 refine⟨?_,?_,?_⟩
 ·have o0:ZZ g.size 5 (g.push (.cells (([1]:List Nat).map bv).toArray 5)) (.slice (some ⟨g.size,0,none⟩) 1 1) [1]:=ZZ.made (by decide) (Nat.le_refl _)
  have B0:Zf g.size g ((g.push (.cells (([1]:List Nat).map bv).toArray 5)).push (.cells (([r,m]:List Nat).map nv).toArray 3)):=(Zf.push (Nat.le_refl _) _).Ye (by simp) _
  have o00:=o0.push (.cells (([r,m]:List Nat).map nv).toArray 3)
  have si:NT ((g.push (.cells (([1]:List Nat).map bv).toArray 5)).push (.cells (([r,m]:List Nat).map nv).toArray 3)) (.slice (some ⟨(g.push (.cells (([1]:List Nat).map bv).toArray 5)).size,0,none⟩) 2 2) [r,m]:=UE _ _
  have e1:(g.push (.cells (([1]:List Nat).map bv).toArray 5)).size=g.size+1:=by simp
  rw[e1]at si
  refine (Za4 T _ _ [r,m] si (by simp) (by intro x hx;simp only[List.mem_cons,List.not_mem_nil,or_false]at hx;omega)).use ?_
  rintro w5 h5 ⟨o5,b5⟩
  have BB:=B0.trans (b5.mono B0.size)
  have o1:=o00.Z9 b5 (Nat.le_refl _)
  have s4:=o5.bs
  simp -implicitDefEqProofs only[go_sem,↓reduceIte,BB]
  refine Zv (E:=5) (B:=g.size) Yx Tryz.underlying44 tn5 tz5 tb5 o1 BB.size s4 (by rw[ZA];simp) ?_
  intro w6 h6 o6 b6 _
  have B6:Zf g.size g h6:=BB.trans b6
  have Bh6:=Bg.trans (B6.mono (by omega))
  have o6':ZZ g.size 5 h6 w6 (1 :: Zr [r,m]):=o6
  simp -implicitDefEqProofs only[go_sem,↓reduceIte,B6]
  refine (Za3 T h6 _ w6 n l (1 :: Zr [r,m]) (s.Z9 Bh6) hl o6'.bs (by simp only[List.length_cons,ZA,List.length_nil];omega) (tk.Jq Bh6)).use ?_
  rintro _ h7 ⟨⟨w7,rfl,o7⟩,b7⟩
  have el:(1 :: Zr [r,m]).length=9:=by simp only[List.length_cons,ZA,List.length_nil]
  rw[el]at o7 ⊢
  have B7:Zf g.size g h7:=B6.trans (b7.mono B6.size)
  have Bh7:=Bh6.trans (b7.mono Bh6.size)
  have x7:=B7.get (by omega) x4g
  have y7:=ZQ x7 0
  have ZgM:h.size+2<h7.size:=Za x7
  generalize Yj (1 :: Zr [r,m])=FR at *
  obtain⟨E,hE⟩:=Zx (JA l n 9)
  rw[←hE]at o7 ⊢
  obtain⟨z,hz⟩:∃z:Int,z=if E=0 then n else 0:=⟨_,rfl⟩
  rw[←hz]
  obtain⟨pz,cz,rfl,_⟩:=o7.open
  have o7l:=o7
  simp -implicitDefEqProofs only[go_sem,↓reduceIte,B7,y7,ZgM]
  refine⟨⟨_,rfl,?_⟩,Bh7.Zj (by omega) _⟩
  exact (o7.ZR (by have:=B6.size;omega) _).mono (by have:=B6.size;omega)
 ·have B0a:Zf g.size g (g.push (.cells (([r,m]:List Nat).map nv).toArray 3)):=Zf.push (Nat.le_refl _) _
  have o0:ZZ g.size 5 ((g.push (.cells (([r,m]:List Nat).map nv).toArray 3)).push (.cells (([1]:List Nat).map bv).toArray 5)) (.slice (some ⟨(g.push (.cells (([r,m]:List Nat).map nv).toArray 3)).size,0,none⟩) 1 1) [1]:=(ZZ.made (by decide) (Nat.le_refl _)).mono (by simp)
  have B0:Zf g.size g ((g.push (.cells (([r,m]:List Nat).map nv).toArray 3)).push (.cells (([1]:List Nat).map bv).toArray 5)):=B0a.Ye (by simp) _
  have si0:NT (g.push (.cells (([r,m]:List Nat).map nv).toArray 3)) (.slice (some ⟨g.size,0,none⟩) 2 2) [r,m]:=UE _ _
  have si:=si0.Z9 (Zf.push (Nat.le_refl _) (.cells (([1]:List Nat).map bv).toArray 5))
  have e1:(g.push (.cells (([r,m]:List Nat).map nv).toArray 3)).size=g.size+1:=by simp
  rw[e1]at o0
  refine (Za4 T _ _ [r,m] si (by simp) (by intro x hx;simp only[List.mem_cons,List.not_mem_nil,or_false]at hx;omega)).use ?_
  rintro w5 h5 ⟨o5,b5⟩
  have BB:=B0.trans (b5.mono B0.size)
  have o1:=o0.Z9 b5 (Nat.le_refl _)
  have s4:=o5.bs
  simp -implicitDefEqProofs only[go_sem,↓reduceIte,BB]
  refine Zv (E:=5) (B:=g.size) Yx Tryz.underlying44 tn5 tz5 tb5 o1 BB.size s4 (by rw[ZA];simp) ?_
  intro w6 h6 o6 b6 _
  have B6:Zf g.size g h6:=BB.trans b6
  have Bh6:=Bg.trans (B6.mono (by omega))
  have o6':ZZ g.size 5 h6 w6 (1 :: Zr [r,m]):=o6
  simp -implicitDefEqProofs only[go_sem,↓reduceIte,B6]
  refine (Za3 T h6 _ w6 n l (1 :: Zr [r,m]) (s.Z9 Bh6) hl o6'.bs (by simp only[List.length_cons,ZA,List.length_nil];omega) (tk.Jq Bh6)).use ?_
  rintro _ h7 ⟨⟨w7,rfl,o7⟩,b7⟩
  have el:(1 :: Zr [r,m]).length=9:=by simp only[List.length_cons,ZA,List.length_nil]
  rw[el]at o7 ⊢
  have B7:Zf g.size g h7:=B6.trans (b7.mono B6.size)
  have Bh7:=Bh6.trans (b7.mono Bh6.size)
  have x7:=B7.get (by omega) x4g
  have y7:=ZQ x7 0
  have ZgM:h.size+2<h7.size:=Za x7
  generalize Yj (1 :: Zr [r,m])=FR at *
  obtain⟨E,hE⟩:=Zx (JA l n 9)
  rw[←hE]at o7 ⊢
  obtain⟨z,hz⟩:∃z:Int,z=if E=0 then n else 0:=⟨_,rfl⟩
  rw[←hz]
  obtain⟨pz,cz,rfl,_⟩:=o7.open
  have o7l:=o7
  simp -implicitDefEqProofs only[go_sem,↓reduceIte,B7,y7,ZgM]
  refine⟨⟨_,rfl,?_⟩,Bh7.Zj (by omega) _⟩
  exact (o7.ZR (by have:=B6.size;omega) _).mono (by have:=B6.size;omega)
 ·have B0a:Zf g.size g (g.push (.cells (([r,m]:List Nat).map nv).toArray 3)):=Zf.push (Nat.le_refl _) _
  have si:NT (g.push (.cells (([r,m]:List Nat).map nv).toArray 3)) (.slice (some ⟨g.size,0,none⟩) 2 2) [r,m]:=UE _ _
  refine (Za4 T _ _ [r,m] si (by simp) (by intro x hx;simp only[List.mem_cons,List.not_mem_nil,or_false]at hx;omega)).use ?_
  rintro w5 h5 ⟨o5,b5⟩
  have BB5:=B0a.trans (b5.mono B0a.size)
  have BB:Zf g.size g (h5.push (.cells (([1]:List Nat).map bv).toArray 5)):=BB5.Ye BB5.size _
  have o1:ZZ g.size 5 (h5.push (.cells (([1]:List Nat).map bv).toArray 5)) (.slice (some ⟨h5.size,0,none⟩) 1 1) [1]:=(ZZ.made (by decide) (Nat.le_refl _)).mono BB5.size
  have s4:=o5.bs.Z9 (Zf.push (Nat.le_refl h5.size) (.cells (([1]:List Nat).map bv).toArray 5))
  simp -implicitDefEqProofs only[go_sem,↓reduceIte,BB5,BB]
  refine Zv (E:=5) (B:=g.size) Yx Tryz.underlying44 tn5 tz5 tb5 o1 BB.size s4 (by rw[ZA];simp) ?_
  intro w6 h6 o6 b6 _
  have B6:Zf g.size g h6:=BB.trans b6
  have Bh6:=Bg.trans (B6.mono (by omega))
  have o6':ZZ g.size 5 h6 w6 (1 :: Zr [r,m]):=o6
  simp -implicitDefEqProofs only[go_sem,↓reduceIte,B6]
  refine (Za3 T h6 _ w6 n l (1 :: Zr [r,m]) (s.Z9 Bh6) hl o6'.bs (by simp only[List.length_cons,ZA,List.length_nil];omega) (tk.Jq Bh6)).use ?_
  rintro _ h7 ⟨⟨w7,rfl,o7⟩,b7⟩
  have el:(1 :: Zr [r,m]).length=9:=by simp only[List.length_cons,ZA,List.length_nil]
  rw[el]at o7 ⊢
  have B7:Zf g.size g h7:=B6.trans (b7.mono B6.size)
  have Bh7:=Bh6.trans (b7.mono Bh6.size)
  have x7:=B7.get (by omega) x4g
  have y7:=ZQ x7 0
  have ZgM:h.size+2<h7.size:=Za x7
  generalize Yj (1 :: Zr [r,m])=FR at *
  obtain⟨E,hE⟩:=Zx (JA l n 9)
  rw[←hE]at o7 ⊢
  obtain⟨z,hz⟩:∃z:Int,z=if E=0 then n else 0:=⟨_,rfl⟩
  rw[←hz]
  obtain⟨pz,cz,rfl,_⟩:=o7.open
  have o7l:=o7
  simp -implicitDefEqProofs only[go_sem,↓reduceIte,B7,y7,ZgM]
  refine⟨⟨_,rfl,?_⟩,Bh7.Zj (by omega) _⟩
  exact (o7.ZR (by have:=B6.size;omega) _).mono (by have:=B6.size;omega)
theorem Zas (n:Nat):XP n [Value.int .u8 0]=(List.replicate n 0).map bv:=by
 induction n with
 | zero=>rfl
 | succ n ih=>rw[XP,ih];rfl
theorem ZgN:∀(vs zs:List Value),vs.length≤zs.length→Yq zs 0 vs=vs++zs.drop vs.length
 | [],zs,_=>by cases zs<;>rfl
 | v :: vs,[],h=>by simp at h
 | v :: vs,z :: zs,h=>by
  rw[Yq,ZgN vs zs (by simpa using h)]
  rfl
theorem Zk7 (key:List Nat):Yq ((List.replicate 64 0).map bv) 0 (((Zc2 key).map bv).take (min (Zc2 key).length 64))=(Uw key).map bv:=by
 have:=Zak key
 rw[Nat.min_eq_left this,List.take_of_length_le (by simp),ZgN _ _ (by simp;omega),List.length_map,←List.map_drop,List.drop_replicate,Uw,List.map_append]
theorem Ztd (T:World) (h:Hp) (v:Value) (key:List Nat) (w:Nat) (s:Bs h v key) (hk:key.length≤100000) (hw:w<256) (tk:Tk h) :
  Zd Tryz.prog T 132 #[v,.int .u8 w] h fun v' h'=>ZZ h.size 5 h' v' (U9 key w)∧Zf h.size h h':=by
 obtain⟨p,cp,rfl,hc1⟩:=s.open
 have hbt:Zcz key:=s.byte
 refine Zd.Zi (args:=[_,_]) Tryz.func132 rfl rfl rfl rfl ?_
 by_cases e64:64<key.length
 ·have Zyp:64<(key.length:Int):=by omega
  have hK:U8 key=Zc2 key:=by unfold Zc2;rw[if_pos e64]
  simp -implicitDefEqProofs only[go_sem,↓reduceIte,Zyp]
  refine (Zjv T _ _ key s hk tk).use ?_
  rintro u g ⟨ou,bg⟩
  have su:=ou.bs
  rw[hK]at su
  simp -implicitDefEqProofs only[go_sem,↓reduceIte]
  have hG:Zf h.size h (g.push (.cells (XP 64 [Value.int .u8 0]).toArray 5)):=bg.add _
  have sK':=su.Z9 (Zf.push (Nat.le_refl g.size) (.cells (XP 64 [Value.int .u8 0]).toArray 5))
  have kl:=Zak key
  refine Zgi (o:=0) (dl:=64) (dc:=64) (c:=XP 64 [Value.int .u8 0]) (E':=5) Yx tn5 Zb sK'.sl (Zbj _) (by rw[Zas];simp;omega) ?_
  rw[Zad,Zas,Zk7]
  have hG2:Zf h.size h (g.push (.cells ((Uw key).map bv).toArray 5)):=bg.add _
  have hx0:(g.push (.cells ((Uw key).map bv).toArray 5))[g.size]? = some (.cells (((U9 key w).take 0++(Uw key).drop 0).map bv++[]).toArray 5):=by
   rw[List.take_zero,List.drop_zero,List.nil_append,List.append_nil];exact Zb
  simp -implicitDefEqProofs only[go_sem,↓reduceIte]
  refine VS.ZW (fun F' g'=>Zf h.size h g'∧F' 1=.int .u8 w∧F' 5=.slice (some ⟨g.size,0,none⟩) 64 64∧F' 17=.int .i64 64∧∃i:Nat,i≤64∧F' 18=.int .i64 i∧g'[g.size]? = some (.cells (((U9 key w).take i++(Uw key).drop i).map bv++[]).toArray 5))
   (fun F _=>64-(vi (F 18)).toNat) rfl ⟨hG2,rfl,rfl,rfl,0,by omega,rfl,hx0⟩ ?_
  clear hG hG2 hx0 sK'
  rintro F g' ⟨hg,f1,f5,f17,i,hi,f18,hx⟩
  have hgs:=Za hx
  have hfl:((U9 key w).take i++(Uw key).drop i).length=64:=by rw[List.length_append,List.length_take,List.length_drop,ZX,XT];omega
  by_cases ZD:i<64
  ·have ZL:(i:Int)<64:=by omega
   have q1:=ZK (f:=bv) hx (i:=i) (by omega)
   have e0:((U9 key w).take i++(Uw key).drop i).getD i 0=(Uw key).getD i 0:=by
    rw[List.getD_eq_getElem?_getD,List.getElem?_append_right (by rw[List.length_take,ZX];omega),List.length_take,ZX,Nat.min_eq_left (by omega),Nat.sub_self,List.getElem?_drop,Nat.add_zero,←List.getD_eq_getElem?_getD]
   rw[e0]at q1
   unfold bv at q1
   have eX:=Zie key w ZD
   have cs:=ZY (f:=bv) hx (i:=i) (by omega) ((U9 key w).getD i 0) rfl
   rw[Zc4 _ _ i (by rw[ZX];exact ZD) (by rw[ZX,XT])]at cs
   have hZb:=ZG (Zer hbt) i
   have ox:Unit→Z7 .xor .u8 (((Uw key).getD i 0:Nat):Int) (w:Int)=(((U9 key w).getD i 0:Nat):Int):=fun _=>by rw[eX];exact ZiT _ _ hZb hw
   have cs':Jp g' ⟨g.size,i,none⟩ (.int .u8 (((U9 key w).getD i 0:Nat):Int))=_:=cs
   simp -implicitDefEqProofs only[go_sem,↓reduceIte,f1,f5,f17,f18,ZL,q1,ox (),cs']
   refine⟨⟨hg.Zj (bg.size) _,f1,f5,f17,i+1,ZD,rfl,ZP hx⟩,?_⟩
   simp only[vi,Zk,↓reduceIte,f18];omega
  ·have YK:¬(i:Int)<64:=by omega
   obtain rfl:i=64:=by omega
   rw[List.take_of_length_le (by rw[ZX];omega),List.drop_of_length_le (by rw[XT];omega),List.append_nil,List.append_nil]at hx
   simp -implicitDefEqProofs only[go_sem,↓reduceIte,f5,f17,f18,YK]
   exact⟨⟨.inr ⟨g.size,64,[],bg.size,by rw[ZX],by rw[List.append_nil];exact hx,by simp[ZX],by rw[ZX];rfl,by rw[ZX];omega⟩,Zid hbt hw⟩,hg⟩
 ·have Zyp:¬64<(key.length:Int):=by omega
  have hK:Zc2 key=key:=by unfold Zc2;rw[if_neg e64]
  have b0:=Zf.refl h.size h
  have su:=s
  have hkk:Bs h (.slice p (Zc2 key).length cp) (Zc2 key):=by rw[hK];exact s
  simp -implicitDefEqProofs only[go_sem,↓reduceIte,Zyp]
  have hG:Zf h.size h (h.push (.cells (XP 64 [Value.int .u8 0]).toArray 5)):=b0.add _
  have hkl:key.length=(Zc2 key).length:=by rw[hK]
  rw[hkl]
  have sK':=hkk.Z9 (Zf.push (Nat.le_refl h.size) (.cells (XP 64 [Value.int .u8 0]).toArray 5))
  have kl:=Zak key
  refine Zgi (o:=0) (dl:=64) (dc:=64) (c:=XP 64 [Value.int .u8 0]) (E':=5) Yx tn5 Zb sK'.sl (Zbj _) (by rw[Zas];simp;omega) ?_
  rw[Zad,Zas,Zk7]
  have hG2:Zf h.size h (h.push (.cells ((Uw key).map bv).toArray 5)):=b0.add _
  have hx0:(h.push (.cells ((Uw key).map bv).toArray 5))[h.size]? = some (.cells (((U9 key w).take 0++(Uw key).drop 0).map bv++[]).toArray 5):=by
   rw[List.take_zero,List.drop_zero,List.nil_append,List.append_nil];exact Zb
  simp -implicitDefEqProofs only[go_sem,↓reduceIte]
  refine VS.ZW (fun F' g'=>Zf h.size h g'∧F' 1=.int .u8 w∧F' 5=.slice (some ⟨h.size,0,none⟩) 64 64∧F' 17=.int .i64 64∧∃i:Nat,i≤64∧F' 18=.int .i64 i∧g'[h.size]? = some (.cells (((U9 key w).take i++(Uw key).drop i).map bv++[]).toArray 5))
   (fun F _=>64-(vi (F 18)).toNat) rfl ⟨hG2,rfl,rfl,rfl,0,by omega,rfl,hx0⟩ ?_
  clear hG hG2 hx0 sK'
  rintro F g' ⟨hg,f1,f5,f17,i,hi,f18,hx⟩
  have hgs:=Za hx
  have hfl:((U9 key w).take i++(Uw key).drop i).length=64:=by rw[List.length_append,List.length_take,List.length_drop,ZX,XT];omega
  by_cases ZD:i<64
  ·have ZL:(i:Int)<64:=by omega
   have q1:=ZK (f:=bv) hx (i:=i) (by omega)
   have e0:((U9 key w).take i++(Uw key).drop i).getD i 0=(Uw key).getD i 0:=by
    rw[List.getD_eq_getElem?_getD,List.getElem?_append_right (by rw[List.length_take,ZX];omega),List.length_take,ZX,Nat.min_eq_left (by omega),Nat.sub_self,List.getElem?_drop,Nat.add_zero,←List.getD_eq_getElem?_getD]
   rw[e0]at q1
   unfold bv at q1
   have eX:=Zie key w ZD
   have cs:=ZY (f:=bv) hx (i:=i) (by omega) ((U9 key w).getD i 0) rfl
   rw[Zc4 _ _ i (by rw[ZX];exact ZD) (by rw[ZX,XT])]at cs
   have hZb:=ZG (Zer hbt) i
   have ox:Unit→Z7 .xor .u8 (((Uw key).getD i 0:Nat):Int) (w:Int)=(((U9 key w).getD i 0:Nat):Int):=fun _=>by rw[eX];exact ZiT _ _ hZb hw
   have cs':Jp g' ⟨h.size,i,none⟩ (.int .u8 (((U9 key w).getD i 0:Nat):Int))=_:=cs
   simp -implicitDefEqProofs only[go_sem,↓reduceIte,f1,f5,f17,f18,ZL,q1,ox (),cs']
   refine⟨⟨hg.Zj (b0.size) _,f1,f5,f17,i+1,ZD,rfl,ZP hx⟩,?_⟩
   simp only[vi,Zk,↓reduceIte,f18];omega
  ·have YK:¬(i:Int)<64:=by omega
   obtain rfl:i=64:=by omega
   rw[List.take_of_length_le (by rw[ZX];omega),List.drop_of_length_le (by rw[XT];omega),List.append_nil,List.append_nil]at hx
   simp -implicitDefEqProofs only[go_sem,↓reduceIte,f5,f17,f18,YK]
   exact⟨⟨.inr ⟨h.size,64,[],b0.size,by rw[ZX],by rw[List.append_nil];exact hx,by simp[ZX],by rw[ZX];rfl,by rw[ZX];omega⟩,Zid hbt hw⟩,hg⟩
theorem Znr (T:World) (h:Hp) (v u:Value) (key b:List Nat) (s:Bs h v key) (sb:Bs h u b) (hk:key.length≤10000) (hb:b.length≤10000) (tk:Tk h) :
  Zd Tryz.prog T 114 #[v,u] h fun v' h'=>ZZ h.size 5 h' v' (Zes key b)∧Zf h.size h h':=by
 have sb0:=sb
 refine Zd.Zi (args:=[_,_]) Tryz.func114 rfl rfl rfl rfl ?_
 simp -implicitDefEqProofs only[go_sem,↓reduceIte]
 refine (Ztd T h v key 92 s (by omega) (by omega) tk).use ?_
 rintro v1 h1 ⟨o1,b1⟩
 have s1:=b1.size
 simp -implicitDefEqProofs only[go_sem,↓reduceIte]
 refine (Ztd T h1 v key 54 (s.Z9 b1) (by omega) (by omega) (tk.Jq b1)).use ?_
 rintro v2 h2 ⟨o2,b2⟩
 have s2:=b2.size
 have B2:=b1.trans (b2.mono s1)
 have o1':=o1.Z9 b2 (Nat.le_refl _)
 have l1:=ZX key 92
 have l2:=ZX key 54
 simp -implicitDefEqProofs only[go_sem,↓reduceIte]
 refine Zv (E:=5) (B:=h1.size) Yx Tryz.underlying44 tn5 tz5 tb5 o2 s2 (sb.Z9 B2) (by rw[l2];omega) ?_
 intro v3 h3 o3 b3 _
 have s3:=b3.size
 have B3:=B2.trans (b3.mono s1)
 have ZGi:=o1.Z9 (b2.trans b3) (Nat.le_refl _)
 simp -implicitDefEqProofs only[go_sem,↓reduceIte]
 refine (Zjv T h3 v3 _ o3.bs (by rw[List.length_append,l2];omega) (tk.Jq B3)).use ?_
 rintro v4 h4 ⟨o4,b4⟩
 have B4:=B3.trans (b4.mono (by omega))
 have o14:=ZGi.Z9 b4 (Nat.le_refl _)
 simp -implicitDefEqProofs only[go_sem,↓reduceIte]
 refine Zv (E:=5) (B:=h.size) Yx Tryz.underlying44 tn5 tz5 tb5 o14 B4.size o4.bs (by rw[l1,Jv];omega) ?_
 intro v5 h5 o5 b5 _
 have B5:=B4.trans b5
 simp -implicitDefEqProofs only[go_sem,↓reduceIte]
 refine (Zjv T h5 v5 _ o5.bs (by rw[List.length_append,l1,Jv];omega) (tk.Jq B5)).use ?_
 rintro v6 h6 ⟨o6,b6⟩
 simp -implicitDefEqProofs only[go_sem,↓reduceIte]
 exact⟨o6.mono B5.size,B5.trans (b6.mono B5.size)⟩
def ZgO (m n:Nat):Int:=if 256<m∨2000<n then 1 else 0
def Zte (B:Nat) (h':Hp) (v':Value) (key b:List Nat):Prop:=∃w,v'=.tuple [w,.int .i64 (ZgO key.length b.length)].toArray∧ZZ B 5 h' w (if ZgO key.length b.length=0 then Zes key b else [])
theorem Zqp (T:World) (h:Hp) (v u:Value) (key b:List Nat) (s:Bs h v key) (sb:Bs h u b) (tk:Tk h) :
  Zd Tryz.prog T 118 #[v,u] h fun v' h'=>Zte h.size h' v' key b∧Zf h.size h h':=by
 obtain⟨p,cp,rfl,hc1⟩:=s.open
 obtain⟨q,cq,rfl,hc2⟩:=sb.open
 refine Zd.Zi (args:=[_,_]) Tryz.func118 rfl rfl rfl rfl ?_
 unfold Zte ZgO
 by_cases e1:256<key.length
 ·have e1':256<(key.length:Int):=by omega
  rw[if_pos (.inl e1)]
  simp -implicitDefEqProofs only[go_sem,↓reduceIte,e1']
  exact⟨_,rfl,ZZ.nil _ _ _⟩
 ·have e1':¬256<(key.length:Int):=by omega
  by_cases e2:2000<b.length
  ·have e2':2000<(b.length:Int):=by omega
   rw[if_pos (.inr e2)]
   simp -implicitDefEqProofs only[go_sem,↓reduceIte,e1',e2']
   exact⟨_,rfl,ZZ.nil _ _ _⟩
  ·have e2':¬2000<(b.length:Int):=by omega
   rw[if_neg (by omega)]
   simp -implicitDefEqProofs only[go_sem,↓reduceIte,e1',e2']
   refine (Znr T _ _ _ key b s sb (by omega) (by omega) tk).use ?_
   rintro w h1 ⟨o1,b1⟩
   simp -implicitDefEqProofs only[go_sem,↓reduceIte,b1]
   exact⟨_,rfl,o1⟩
theorem Zk8 (T:World) (h:Hp) (v u:Value) (key b:List Nat) (s:Bs h v key) (sb:Bs h u b) (hk:key.length≤256) (hb:b.length≤2000) (tk:Tk h) :
  Zd Tryz.prog T 84 #[v,u] h fun v' h'=>(Bs h' v' ((Zes key b).take 16)∧Cap v')∧Zf h.size h h':=by
 refine Zd.Zi (args:=[_,_]) Tryz.func84 rfl rfl rfl rfl ?_
 simp -implicitDefEqProofs only[go_sem,↓reduceIte]
 refine (Zqp T _ _ _ key b s sb tk).use ?_
 rintro _ h1 ⟨⟨w,rfl,o1⟩,b1⟩
 have e0:ZgO key.length b.length=0:=by unfold ZgO;rw[if_neg (by omega)]
 rw[e0,if_pos rfl]at o1
 rw[e0]
 have ml:=Zal key b
 generalize Zes key b=M at *
 obtain⟨p,c,rfl,hc⟩:=o1.open
 have sM:=o1.bs
 obtain⟨p',c',hv,hh⟩:=sM.Up
 simp only[Value.slice.injEq]at hv
 obtain⟨rfl,_,rfl⟩:=hv
 obtain⟨bb,ob,rfl,_⟩:=hh (by intro e;rw[e]at ml;cases ml)
 have fin:=Bs.Zcy sM (m:=16) (by omega) c
 rw[ml]at hc ⊢
 have h16:(16:Int)≤(c:Int):=by omega
 have hc0:¬c=0:=by omega
 simp -implicitDefEqProofs only[go_sem,↓reduceIte,h16,hc0,Nat.sub_zero,Nat.zero_mul,b1]
 exact⟨fin,show 16≤c by omega⟩
def Ztf (c r u:Nat):List Nat:=[c,r]++XI u
def Zk9 (key:List Nat) (c r u:Nat):List Nat:=Ztf c r u++(Zes key (Ztf c r u)).take 16
theorem Zfc (c r u:Nat):(Ztf c r u).length=6:=rfl
theorem Zfd (key:List Nat) (c r u:Nat):(Zk9 key c r u).length=22:=by
 rw[Zk9,List.length_append,Zfc,List.length_take,Zal];rfl
def UU (kl:Nat) (c r u:Int):Int:=if kl≠32 then 1 else XW c r u
def Zns (B:Nat) (h':Hp) (v':Value) (key:List Nat) (c r u:Int):Prop:=∃w,v'=.tuple [w,.int .i64 (UU key.length c r u)].toArray∧ZZ B 5 h' w (if UU key.length c r u=0 then Zk9 key c.toNat r.toNat u.toNat else [])
theorem Zla {c r u:Int} (h:XW c r u=0):∃c' r' u':Nat,c=c'∧r=r'∧u=u'∧c'<8∧r'<8∧u'≤1048576:=by
 unfold XW at h
 split at h
 ·cases h
 ·exact⟨c.toNat,r.toNat,u.toNat,by omega,by omega,by omega,by omega,by omega,by omega⟩
theorem Ztg (T:World) (h:Hp) (v:Value) (key:List Nat) (c r u:Int) (s:Bs h v key) (tk:Tk h) :
  Zd Tryz.prog T 75 #[v,.agg (Zbl c r u).toArray] h fun v' h'=>Zns h.size h' v' key c r u∧Zf h.size h h':=by
 obtain⟨p,cp,rfl,_⟩:=s.open
 refine Zd.Zi (args:=[_,_]) Tryz.func75 rfl rfl rfl rfl ?_
 unfold Zns Zbl
 by_cases hk:key.length=32
 case neg=>
  have ee:UU key.length c r u=1:=by unfold UU;rw[if_pos hk]
  have hk':¬(key.length:Int)=32:=by omega
  rw[ee]
  simp -implicitDefEqProofs only[go_sem,↓reduceIte,hk']
  exact⟨_,rfl,ZZ.nil _ _ _⟩
 have hk':(key.length:Int)=32:=by omega
 have ee:UU key.length c r u=XW c r u:=by unfold UU;rw[if_neg (by omega)]
 rw[ee]
 simp -implicitDefEqProofs only[go_sem,↓reduceIte,hk']
 refine (Zgo T _ c r u).use ?_
 rintro _ _ ⟨rfl,rfl⟩
 unfold Zbl
 by_cases q:XW c r u=0
 case neg=>
  simp -implicitDefEqProofs only[go_sem,↓reduceIte,q]
  exact⟨_,rfl,ZZ.nil _ _ _⟩
 obtain⟨c,r,u,rfl,rfl,rfl,hc,hr,hu⟩:=Zla q
 rw[q]
 have ec:(c:Int)%256=(c:Int):=by omega
 have er:(r:Int)%256=(r:Int):=by omega
 simp only[Int.toNat_natCast]
 simp -implicitDefEqProofs only[go_sem,↓reduceIte,ec,er]
 obtain⟨h1,YF⟩:=Zx ((h.push (.cells [Value.int .i64 c,.int .i64 r,.int .i64 u].toArray 134)).push (.cells [Value.int .i64 c,.int .i64 r,.int .i64 u].toArray 134):Hp)
 have b1:Zf h.size h h1:=by rw[YF];exact ((Zf.refl _ _).add _).add _
 have s1:h1.size=h.size+1+1:=by rw[YF];simp
 rw[←s1,←YF]
 clear YF
 have hb2:∀x∈[c,r],x<256:=by
  intro x hx
  simp only[List.mem_cons,List.not_mem_nil,or_false]at hx
  omega
 have o2:ZZ h1.size 5 (h1.push (.cells (([c,r]:List Nat).map bv).toArray 5)) (.slice (some ⟨h1.size,0,none⟩) 2 2) [c,r]:=ZZ.made hb2 (Nat.le_refl _)
 have B2:Zf h1.size h1 (h1.push (.cells (([c,r]:List Nat).map bv).toArray 5)):=Zf.push (Nat.le_refl _) _
 refine (Zom T _ h1.size _ [c,r] u o2 (by simp) (by simp) (by omega)).use ?_
 rintro w3 h3 ⟨o3,b3⟩
 have B3:=B2.trans b3
 have Bh3:Zf h.size h h3:=b1.trans (B3.mono (by omega))
 have o3':ZZ h1.size 5 h3 w3 (Ztf c r u):=o3
 have gl:=Zfc c r u
 unfold Zk9
 generalize Ztf c r u=G at *
 simp -implicitDefEqProofs only[go_sem,↓reduceIte]
 rw[←hk']
 refine (Zk8 T h3 _ w3 key G (s.Z9 Bh3) o3'.bs (by omega) (by omega) (tk.Jq Bh3)).use ?_
 rintro w4 h4 ⟨⟨s4,_⟩,b4⟩
 have s3:=B3.size
 have o34:=o3'.Z9 b4 (Nat.le_refl _)
 have Bh4:=Bh3.trans (b4.mono Bh3.size)
 simp -implicitDefEqProofs only[go_sem,↓reduceIte]
 refine Zv (E:=5) (B:=h1.size) Yx Tryz.underlying44 tn5 tz5 tb5 o34 (by have:=b4.size;omega) s4 (by rw[gl,List.length_take];omega) ?_
 intro w5 h5 o5 b5 _
 have Bh5:=Bh4.trans (b5.mono (by omega))
 simp -implicitDefEqProofs only[go_sem,↓reduceIte,Bh5]
 exact⟨_,rfl,o5.mono (by omega)⟩
def Zjw:List Value:=Zbl 0 0 0
def Qe (key l:List Nat):Int:=if key.length≠32∨l.length≠22 then 1 else if (Zes key (l.take 6)).take 16≠l.drop 6 then 6 else XW (l.getD 0 0:Nat) (l.getD 1 0:Nat) (Y3 l 2:Nat)
def Zjx (key l:List Nat):List Value:=if Qe key l=0 then Zbl (l.getD 0 0:Nat) (l.getD 1 0:Nat) (Y3 l 2:Nat) else Zjw
theorem ZgP (T:World) (h:Hp) (v u:Value) (key l:List Nat) (s:Bs h v key) (sl:Bs h u l) (cu:Cap u) (tk:Tk h) :
  Zd Tryz.prog T 54 #[v,u] h fun v' h'=>v'=.tuple [.agg (Zjx key l).toArray,.int .i64 (Qe key l)].toArray∧Zf h.size h h':=by
 obtain⟨p,cp,rfl,_⟩:=s.open
 obtain⟨q,cq,rfl,hq⟩:=sl.Up
 refine Zd.Zi (args:=[_,_]) Tryz.func54 rfl rfl rfl rfl ?_
 by_cases hk:key.length=32
 case neg=>
  have ee:Qe key l=1:=by unfold Qe;rw[if_pos (.inl hk)]
  have hk':¬(key.length:Int)=32:=by omega
  unfold Zjx
  rw[ee]
  unfold Zjw Zbl
  simp +contextual -implicitDefEqProofs only[go_sem,↓reduceIte,hk']
  (repeat' (first|exact Zf.refl _ _|assumption|refine Zf.add ?_ _|refine Zf.Zj ?_ (by first|omega|(simp;omega)) _|refine Zf.trans (by assumption) ?_))
 have hk':(key.length:Int)=32:=by omega
 by_cases hl:l.length=22
 case neg=>
  have ee:Qe key l=1:=by unfold Qe;rw[if_pos (.inr hl)]
  have hl':¬(l.length:Int)=22:=by omega
  unfold Zjx
  rw[ee]
  unfold Zjw Zbl
  simp +contextual -implicitDefEqProofs only[go_sem,↓reduceIte,hk',hl']
  (repeat' (first|exact Zf.refl _ _|assumption|refine Zf.add ?_ _|refine Zf.Zj ?_ (by first|omega|(simp;omega)) _|refine Zf.trans (by assumption) ?_))
 have hl':(l.length:Int)=22:=by omega
 obtain⟨b,o,rfl,hb,YR⟩:=hq (by intro e;rw[e]at hl;cases hl)
 have JO:22≤cq:=by have:l.length≤cq:=cu;omega
 have h6c:(6:Int)≤(cq:Int):=by omega
 have hc0:¬cq=0:=by omega
 have hc6:¬cq=6:=by omega
 obtain⟨y0,hy0⟩:∃y:Int,y=((l.getD 0 0:Nat):Int):=⟨_,rfl⟩
 obtain⟨y1',hy1⟩:∃y:Int,y=((l.getD 1 0:Nat):Int):=⟨_,rfl⟩
 obtain⟨y2',hy2⟩:∃y:Int,y=((l.getD 2 0:Nat):Int):=⟨_,rfl⟩
 obtain⟨y3,hy3⟩:∃y:Int,y=((l.getD 3 0:Nat):Int):=⟨_,rfl⟩
 obtain⟨y4,hy4⟩:∃y:Int,y=((l.getD 4 0:Nat):Int):=⟨_,rfl⟩
 obtain⟨y5,hy5⟩:∃y:Int,y=((l.getD 5 0:Nat):Int):=⟨_,rfl⟩
 obtain⟨yY,hyY⟩:∃y:Int,y=((Y3 l 2:Nat):Int):=⟨_,rfl⟩
 have z0:=ZG sl.byte 0
 have z1:=ZG sl.byte 1
 have z2:=ZG sl.byte 2
 have z3:=ZG sl.byte 3
 have z4:=ZG sl.byte 4
 have z5:=ZG sl.byte 5
 have eo:Unit→Z7 .or .i64 (Z7 .or .i64 (Z7 .or .i64 (YC .i64 y2' 24) (YC .i64 y3 16)) (YC .i64 y4 8)) y5=yY:=fun _=>by
  rw[hy2,hy3,hy4,hy5,hyY];exact Zjb z2 z3 z4 z5
 have yb:(0≤y0∧y0<256)∧(0≤y1'∧y1'<256)∧(0≤y2'∧y2'<256)∧(0≤y3∧y3<256)∧(0≤y4∧y4<256)∧(0≤y5∧y5<256):=by
  rw[hy0,hy1,hy2,hy3,hy4,hy5];omega
 obtain⟨⟨ya1,ya2⟩,⟨ya3,ya4⟩,⟨ya5,ya6⟩,⟨ya7,ya8⟩,⟨ya9,ZLM⟩,ZLN,ZLO⟩:=yb
 have ee:Qe key l=if (Zes key (l.take 6)).take 16≠l.drop 6 then 6 else XW y0 y1' yY:=by
  rw[hy0,hy1,hyY];unfold Qe;rw[if_neg (by omega)]
 have eT:Zjx key l=if Qe key l=0 then Zbl y0 y1' yY else Zjw:=by rw[hy0,hy1,hyY];rfl
 have Zqq:∀i,i<22→V.hc h ⟨b,o+i,none⟩=some (.int .u8 (l.getD i 0:Nat)):=fun i hi=>YR i (by omega)
 have q0:=Zqq 0 (by omega)
 have q1:=Zqq 1 (by omega)
 have q2:=Zqq 2 (by omega)
 have q3:=Zqq 3 (by omega)
 have q4:=Zqq 4 (by omega)
 have q5:=Zqq 5 (by omega)
 rw[←hy0]at q0
 rw[←hy1]at q1
 rw[←hy2]at q2
 rw[←hy3]at q3
 rw[←hy4]at q4
 rw[←hy5]at q5
 obtain⟨h1,YF⟩:=Zx (h.push (.cells Zjw.toArray 134):Hp)
 have b1:Zf h.size h h1:=by rw[YF];exact Zf.push (Nat.le_refl _) _
 have s1:h1.size=h.size+1:=by rw[YF];simp
 have x1:h1[h.size]? = some (.cells Zjw.toArray 134):=by rw[YF];exact Zb
 have e1:h.push (.cells #[Value.int .i64 0,.int .i64 0,.int .i64 0] 134)=h1:=YF.symm
 rw[hl]at sl YR ⊢
 simp -implicitDefEqProofs only[go_sem,↓reduceIte,hk',hl']
 rw[e1]
 clear e1 YF
 have sl1:=sl.Z9 b1
 have s61:Bs h1 (.slice (some ⟨b,o,none⟩) 6 cq) (l.take 6):=by
  rw[←hl]at sl1;exact Bs.Zcy sl1 (by omega) cq
 have t6:(l.take 6).length≤2000:=by rw[List.length_take];omega
 obtain⟨M,hM⟩:=Zx ((Zes key (l.take 6)).take 16)
 have ml:M.length≤140737488355328:=by rw[hM,List.length_take];omega
 rw[←hM]at ee
 refine VS.mono (N:=fun F g=>Zf h1.size h1 g∧F 1=.slice (some ⟨b,o,none⟩) 22 cq∧F 4=.pointer (some ⟨h.size,0,none⟩)∧F 24=.bool (!decide (M=l.drop 6))) ?_ ?_ (fun _ _ _ h=>h) (fun _ _ h=>h)
 ·refine VS.w (h1.size) [] (.q 0 (.q 1 (.q 2 (.q 4 (.q 5 (.s 3 (.s 6 (.q 7 .nil)))))))) mixed (by kernel_rfl) ?_
  simp -implicitDefEqProofs only[go_sem,↓reduceIte,h6c,hc0,hc6,Nat.sub_zero,Nat.zero_mul]
  rw[←hk']
  refine (Zk8 T h1 _ _ key (l.take 6) (s.Z9 b1) s61 (by omega) t6 (tk.Jq b1)).use ?_
  rintro w h2 ⟨⟨s2,_⟩,b2⟩
  rw[←hM]at s2
  have sl2:=Zbu (sl1.Z9 b2) (k:=6) (by omega) hl (cq-6)
  simp -implicitDefEqProofs only[go_sem,↓reduceIte,b2]
  refine (Zi9 T h2 w _ M (l.drop 6) s2 sl2 ml).pure ?_
  simp -implicitDefEqProofs only[go_sem,↓reduceIte,b2]
 rintro F g ⟨bg,f1,f4,f24⟩
 have Bg:=b1.trans (bg.mono (by omega))
 have k0:g[h.size]? = some (.cells Zjw.toArray 134):=bg.get (by omega) x1
 have k1:rd g ⟨h.size,0,none⟩ 3=some Zjw:=Zo k0 rfl
 have k2:=ZQ k0 0
 have hgs:=Za k0
 clear hM
 unfold Zjw Zbl at *
 by_cases hm:M=l.drop 6
 case neg=>
  have hd:decide (M=l.drop 6)=false:=decide_eq_false hm
  rw[hd]at f24
  rw[if_pos hm]at ee
  rw[eT,ee]
  simp +contextual -implicitDefEqProofs only[go_sem,↓reduceIte,f1,f4,f24,k1,k2]
  exact Bg.Zj (Nat.le_refl _) _
 have hd:decide (M=l.drop 6)=true:=decide_eq_true hm
 rw[hd]at f24
 rw[if_neg (fun hn=>hn hm)]at ee
 have e0:V.hc g ⟨b,o,none⟩=some (.int .u8 y0):=by rw[Bg.hc (by exact hb)];exact q0
 have e1:V.hc g ⟨b,o+1,none⟩=some (.int .u8 y1'):=by rw[Bg.hc (by exact hb)];exact q1
 have e2:V.hc g ⟨b,o+2,none⟩=some (.int .u8 y2'):=by rw[Bg.hc (by exact hb)];exact q2
 have e3:V.hc g ⟨b,o+3,none⟩=some (.int .u8 y3):=by rw[Bg.hc (by exact hb)];exact q3
 have e4:V.hc g ⟨b,o+4,none⟩=some (.int .u8 y4):=by rw[Bg.hc (by exact hb)];exact q4
 have e5:V.hc g ⟨b,o+5,none⟩=some (.int .u8 y5):=by rw[Bg.hc (by exact hb)];exact q5
 rw[eT,ee]
 clear hy0 hy1 hy2 hy3 hy4 hy5 hyY
 have hbg:b<g.size:=Nat.lt_of_lt_of_le hb Bg.size
 simp -implicitDefEqProofs only[go_sem,↓reduceIte,f1,f4,f24]
 refine VS.w (g.size) [32] (.q 0 (.q 1 (.q 2 (.q 3 (.q 4 (.q 5 (.q 6 (.q 7 (.q 8 (.q 9 (.q 10 (.q 11 (.q 12 (.q 13 (.q 14 (.q 15 (.q 16 (.q 17 (.q 18 (.q 19 (.q 20 (.q 21 (.q 22 (.q 23 (.q 24 (.q 25 (.q 26 (.q 27 (.q 28 (.q 29 (.q 30 (.s 31 (.w 32 .nil))))))))))))))))))))))))))))))))) mixed (by kernel_rfl) ?_
 simp -implicitDefEqProofs only[go_sem,↓reduceIte,f1,f4,hbg,e0,e1,e2,e3,e4,e5,eo ()]
 refine (Zgo T _ y0 y1' yY).use ?_
 rintro _ _ ⟨rfl,rfl⟩
 unfold Zbl
 obtain⟨E,hE⟩:=Zx (XW y0 y1' yY)
 rw[←hE]
 by_cases q:E=0
 ·rw[if_pos q]
  simp +contextual -implicitDefEqProofs only[go_sem,↓reduceIte,q,f1,f4,k1,k2,hgs]
  (repeat' (first|exact Zf.refl _ _|assumption|refine Zf.add ?_ _|refine Zf.Zj ?_ (by first|omega|(simp;omega)) _|refine Zf.trans (by assumption) ?_))
 ·rw[if_neg q]
  simp +contextual -implicitDefEqProofs only[go_sem,↓reduceIte,q,f1,f4,k1,k2,hgs]
  (repeat' (first|exact Zf.refl _ _|assumption|refine Zf.add ?_ _|refine Zf.Zj ?_ (by first|omega|(simp;omega)) _|refine Zf.trans (by assumption) ?_))
def XJ (s a i:Nat) (n:Int):Int:=if 256<s∨256<a∨256<i∨n<0∨512<n then 1 else 0
theorem Zqr {p:Option Addr} {m c k c' b:Nat} (h:ZT (.slice p m c)=some b) (hc:c'≠0):ZT (.slice p k c')=some b:=by
 cases p with
 | none=>simp[ZT]at h
 | some a=>
  simp only[ZT]at h ⊢
  split at h
  ·cases h
  ·rw[if_neg hc];exact h
theorem Zth {p:Option Addr} {m c b:Nat} (h:ZT (.slice p m c)=some b):c≠0:=by
 cases p with
 | none=>simp[ZT]at h
 | some a=>
  simp only[ZT]at h
  split at h
  ·cases h
  ·assumption
def ZoA (B:Nat) (h':Hp) (v':Value) (Xy Zaa info:List Nat) (n:Int):Prop:=∃w,v'=.tuple [w,.int .i64 (XJ Xy.length Zaa.length info.length n)].toArray∧Cap w∧Bs h' w (if XJ Xy.length Zaa.length info.length n=0 then ZgA Xy Zaa info n.toNat else [])∧∀b,ZT w=some b→B≤b
theorem ZgQ (T:World) (h:Hp) (vs va vi':Value) (Xy Zaa info:List Nat) (n:Int) (ss:Bs h vs Xy) (sa:Bs h va Zaa) (si:Bs h vi' info) (tk:Tk h) :
  Zd Tryz.prog T 78 #[vs,va,vi',.int .i64 n] h fun v' h'=>ZoA h.size h' v' Xy Zaa info n∧Zf h.size h h':=by
 obtain⟨p1,c1,rfl,_⟩:=ss.open
 obtain⟨p2,c2,rfl,_⟩:=sa.open
 obtain⟨p3,c3,rfl,_⟩:=si.open
 refine Zd.Zi (args:=[_,_,_,_]) Tryz.func78 rfl rfl rfl rfl ?_
 unfold ZoA
 by_cases e1:256<Xy.length
 ·have e1':256<(Xy.length:Int):=by omega
  have ee:XJ Xy.length Zaa.length info.length n=1:=by unfold XJ;rw[if_pos (.inl e1)]
  rw[ee]
  simp -implicitDefEqProofs only[go_sem,↓reduceIte,e1']
  exact⟨_,rfl,Nat.le_refl _,(ZZ.nil 0 5 _).bs,fun b hb=>by simp[ZT]at hb⟩
 have e1':¬256<(Xy.length:Int):=by omega
 by_cases e2:256<Zaa.length
 ·have e2':256<(Zaa.length:Int):=by omega
  have ee:XJ Xy.length Zaa.length info.length n=1:=by unfold XJ;rw[if_pos (.inr (.inl e2))]
  rw[ee]
  simp -implicitDefEqProofs only[go_sem,↓reduceIte,e1',e2']
  exact⟨_,rfl,Nat.le_refl _,(ZZ.nil 0 5 _).bs,fun b hb=>by simp[ZT]at hb⟩
 have e2':¬256<(Zaa.length:Int):=by omega
 by_cases e3:256<info.length
 ·have e3':256<(info.length:Int):=by omega
  have ee:XJ Xy.length Zaa.length info.length n=1:=by unfold XJ;rw[if_pos (.inr (.inr (.inl e3)))]
  rw[ee]
  simp -implicitDefEqProofs only[go_sem,↓reduceIte,e1',e2',e3']
  exact⟨_,rfl,Nat.le_refl _,(ZZ.nil 0 5 _).bs,fun b hb=>by simp[ZT]at hb⟩
 have e3':¬256<(info.length:Int):=by omega
 by_cases e4:n<0
 ·have ee:XJ Xy.length Zaa.length info.length n=1:=by unfold XJ;rw[if_pos (.inr (.inr (.inr (.inl e4))))]
  rw[ee]
  simp -implicitDefEqProofs only[go_sem,↓reduceIte,e1',e2',e3',e4]
  exact⟨_,rfl,Nat.le_refl _,(ZZ.nil 0 5 _).bs,fun b hb=>by simp[ZT]at hb⟩
 by_cases e5:512<n
 ·have ee:XJ Xy.length Zaa.length info.length n=1:=by unfold XJ;rw[if_pos (.inr (.inr (.inr (.inr e5))))]
  rw[ee]
  simp -implicitDefEqProofs only[go_sem,↓reduceIte,e1',e2',e3',e4,e5]
  exact⟨_,rfl,Nat.le_refl _,(ZZ.nil 0 5 _).bs,fun b hb=>by simp[ZT]at hb⟩
 have ee:XJ Xy.length Zaa.length info.length n=0:=by unfold XJ;rw[if_neg (by omega)]
 obtain⟨m,rfl⟩:∃m:Nat,n=m:=⟨n.toNat,by omega⟩
 rw[ee,Int.toNat_natCast]
 simp -implicitDefEqProofs only[go_sem,↓reduceIte,e1',e2',e3',e4,e5]
 refine (Znr T _ _ _ Zaa Xy sa ss (by omega) (by omega) tk).use ?_
 rintro vk h1 ⟨ok,b1⟩
 have s1:=b1.size
 obtain⟨key,ZvT⟩:=Zx (Zes Zaa Xy)
 rw[←ZvT]at ok
 have kl:key.length=32:=by rw[ZvT];exact Zal _ _
 have hm:m≤512:=by omega
 have eS:ZgA Xy Zaa info m=(Zam key info 16).take m:=by rw[ZgA,ZvT]
 have dt:∀i,m≤32*i→i≤16→(Zam key info 16).take m=(Zam key info i).take m:=fun i h1 h2=>Zgz key info m i 16 h1 h2
 rw[eS]
 clear eS ZvT
 simp -implicitDefEqProofs only[go_sem,↓reduceIte]
 refine VS.ZW (fun F g=>Zf h1.size h1 g∧F 2=.slice p3 info.length c3∧F 3=.int .i64 m∧F 10=vk∧∃i:Nat,32*i<m+32∧F 13=.int .i64 ((i+1:Nat):Int)∧ZZ h1.size 5 g (F 11) (Zam key info i)∧ZZ h1.size 5 g (F 12) (ZcJ key info i)∧∀b,ZT (F 12)=some b→¬ZT (F 11)=some b)
  (fun F _=>m+32-Znp (F 11)) rfl ⟨Zf.refl _ _,rfl,rfl,rfl,0,by omega,rfl,ZZ.nil _ _ _,ZZ.nil _ _ _,fun b hb=>by cases hb⟩ ?_
 rintro F g ⟨hg,f2,f3,f10,i,hi,f13,oa,ot,ZBg⟩
 have hgs:=hg.size
 have Bg:=b1.trans (hg.mono s1)
 obtain⟨pa,ca,f11,hca⟩:=oa.open
 have al:=Ux key info i
 rw[al]at f11 hca
 by_cases ZD:32*i<m
 ·have ZL:((32*i:Nat):Int)<(m:Int):=by omega
  have tl:=ZsJ key info i
  have i16:i≤16:=by omega
  have eT:ZcJ key info (i+1)=Zes key (ZcJ key info i++info++[(i+1)%256]):=rfl
  have eA:Zam key info (i+1)=Zam key info i++ZcJ key info (i+1):=rfl
  obtain⟨lt,hlT⟩:∃x,x=ZcJ key info i:=⟨_,rfl⟩
  rw[←hlT]at ot tl eT
  have hby:(i+1)%256<256:=Nat.mod_lt _ (by decide)
  obtain⟨X,hX⟩:=Zx ((i+1)%256)
  rw[←hX]at eT hby
  have ex:((i+1:Nat):Int)%256=(X:Int):=by rw[hX];rfl
  clear hX hlT
  obtain⟨xi,hxi⟩:∃x:Int,x=((i+1:Nat):Int):=⟨_,rfl⟩
  rw[←hxi]at ex f13
  simp -implicitDefEqProofs only[go_sem,↓reduceIte,f2,f3,f10,f11,f13,ZL,ex]
  refine JY (E:=5) (B:=h1.size) Yx Tryz.underlying44 tn5 tz5 tb5 ot hgs (si.Z9 Bg) (by omega) ?_
  intro w2 g2 o2 b2 bt2 bk2
  have s2:=b2.size
  have oa2:=oa.but bt2 (fun b hb e=>ZBg b e hb)
  have ol2:(lt++info).length≤400:=by rw[List.length_append];omega
  have ZGj:∀b,ZT w2=some b→¬ZT (F 11)=some b:=fun b hb e=>by
   rcases bk2 b hb with q|q
   ·exact ZBg b q e
   ·have:=oa.own.lt b e;omega
  simp -implicitDefEqProofs only[go_sem,↓reduceIte,f2,f3,f10,f13,ex]
  refine JY (E:=5) (B:=h1.size) Yx Tryz.underlying44 tn5 tz5 tb5 (o2.push _) (by simp;omega) (Bs.one hby 1) (by simp only[List.length_singleton];omega) ?_
  intro w3 g3 o3 b3 bt3 bk3
  have s3:=b3.size
  simp only[Array.size_push]at s3 bk3
  have oa3:=(oa2.push (.cells [Value.int .u8 ((X:Nat):Int)].toArray 5)).but bt3 (fun b hb e=>ZGj b e hb)
  have Bg3:Zf h1.size h1 g3:=((hg.trans b2).Ye (by omega) _).trans b3
  have B3:=b1.trans (Bg3.mono s1)
  have ok3:=ok.Z9 Bg3 (Nat.le_refl _)
  simp -implicitDefEqProofs only[go_sem,↓reduceIte,f2,f3,f10,f13]
  refine (Znr T g3 vk w3 key _ ok3.bs o3.bs (by omega) (by rw[List.length_append];simp only[List.length_singleton];omega) (tk.Jq B3)).use ?_
  rintro w4 g4 ⟨o4,b4⟩
  rw[←eT]at o4
  have s4:=b4.size
  have oa4:=oa3.Z9 b4 (Nat.le_refl _)
  have Bg4:=Bg3.trans (b4.mono (by omega))
  rw[f11]at oa4
  have tl1:=Zbo key info i
  simp -implicitDefEqProofs only[go_sem,↓reduceIte,f2,f3,f10,f11,f13]
  refine JY (E:=5) (B:=h1.size) Yx Tryz.underlying44 tn5 tz5 tb5 oa4 Bg4.size o4.bs (by rw[al,tl1];omega) ?_
  intro w5 g5 o5 b5 bt5 bk5
  have s5:=b5.size
  obtain⟨p5,c5,rfl,_⟩:=o5.open
  have Zyq:∀b,ZT w4=some b→¬ZT (F 11)=some b:=fun b hb e=>by
   have q1:=o4.own.ZE b hb
   have q2:=oa3.own.lt b e
   omega
  rw[f11]at Zyq
  have o4':=(o4.mono (show h1.size≤g3.size by omega)).but bt5 (fun b hb e=>Zyq b hb e)
  simp -implicitDefEqProofs only[go_sem,↓reduceIte,f2,f3,f10,f13]
  refine⟨⟨Bg4.trans b5,f2,f3,f10,i+1,by omega,?_,?_,o4',fun b hb e=>?_⟩,?_⟩
  ·show Value.int .i64 _=_
   rw[hxi];rfl
  ·rw[eA];exact o5
  ·have e':ZT (Value.slice p5 (Zam key info i++ZcJ key info (i+1)).length c5)=some b:=e
   rcases bk5 b e' with q|q
   ·exact Zyq b hb q
   ·have:=o4.own.lt b hb;omega
  ·simp only[Znp,Zk,↓reduceIte,Nat.reduceEqDiff,f11,List.length_append,al,tl1];omega
 ·have YK:¬((32*i:Nat):Int)<(m:Int):=by omega
  have e6:=dt i (by omega) (by omega)
  rw[e6]
  have oab:=oa.bs
  have oaB:=oa.own.ZE
  rw[f11]at oab oaB
  rw[←al]at oab
  have hmc:(m:Int)≤(ca:Int):=by omega
  have hm0:(0:Int)≤(m:Int):=by omega
  have fin:=Bs.Zcy oab (m:=m) (by rw[al];omega) m
  simp -implicitDefEqProofs only[go_sem,↓reduceIte,f2,f3,f11,YK,hmc,hm0,Bg]
  exact⟨_,rfl,Nat.le_refl _,fin,fun b hb=>Nat.le_trans (by omega) (oaB b (Zqr hb (by have:=Zth hb;omega)))⟩
def ZBh (bf:List Nat) (k c s n v:Int) (a b:Nat):List Nat:=((bf++Zr [k.toNat,c.toNat,s.toNat,n.toNat,v.toNat])++XI a)++XI b
def ZBi (bf:List Nat) (k c s n v:Int) (a b:Nat):List Nat:=U8 (ZBh bf k c s n v a b)
structure J7 where
 k:Int
 c:Int
 s:Int
 n:Int
 v:Int
structure Etv where
 x:J7
 a:Int
 b:Int
 sum:List Nat
structure Chn where
 cs:List Value
 sum:List Nat
 out:List Etv
def Za5 (cs:List Value) (x:J7):ZAL:=UT cs x.k.toNat x.c.toNat x.s.toNat x.n.toNat x.v.toNat
def Zd3 (cs:List Value) (x:J7):Int:=Ze4 cs x.k x.c x.s x.n x.v
def ZGk (cs:List Value) (sum:List Nat) (x:J7):List Nat:=ZBi sum x.k x.c x.s x.n x.v (Za5 cs x).code.toNat (Za5 cs x).val.toNat
theorem Zqs {cs:List Value} {x:J7} (h:Zd3 cs x=0):Qw cs=false∧YQ x.k x.c x.s x.n x.v=0:=by
 unfold Zd3 Ze4 at h
 split at h
 ·cases h
 ·rename_i q
  exact⟨by simpa using q,h⟩
theorem Zlb:∀{ks:List (Option IntKind)} {vs:List Value} (i:Nat) {k:Option IntKind},Yt ks vs=true→ks[i]? = some k→∃v,nth vs i=some v∧Un k v=true:=by
 intro ks
 induction ks with
 | nil=>intro vs i k _ h;simp at h
 | cons a ks ih=>
  intro vs i k hf hk
  cases vs with
  | nil=>simp[Yt]at hf
  | cons x vs=>
   simp only[Yt,Bool.and_eq_true]at hf
   cases i with
   | zero=>simp only[List.getElem?_cons_zero,Option.some.injEq]at hk;subst hk;exact⟨x,rfl,hf.1⟩
   | succ i=>exact ih i hf.2 (by simpa using hk)
theorem Znt {cs:List Value} (hf:Yt XY cs=true):∀i,i<32→nth cs i=some (.int .i64 (ci cs i)):=by
 intro i hi
 have:∀i<32,XY[i]? = some (some .i64):=by decide
 obtain⟨v,h1,h2⟩:=Zlb i hf (this i hi)
 unfold ci
 rw[h1]
 cases v<;>simp[Un]at h2
 rw[h2]
theorem Zlc {cs:List Value} (hf:Yt XY cs=true):∀i,32≤i→i<40→nth cs i=some (.bool (cb cs i)):=by
 intro i h1 h2
 have:∀j<8,XY[32+j]? = some none:=by decide
 have e:=this (i-32) (by omega)
 rw[show 32+(i-32)=i by omega]at e
 obtain⟨v,h1,h2⟩:=Zlb i hf e
 unfold cb
 rw[h1]
 cases v<;>simp[Un]at h2
 rfl
def Zti (st:Chn) (e:Etv):Prop:=¬Zd3 st.cs e.x=0∨¬((Za5 st.cs e.x).code=e.a∧(Za5 st.cs e.x).val=e.b)∨¬ZGk st.cs st.sum e.x=e.sum
instance (st:Chn) (e:Etv):Decidable (Zti st e):=by unfold Zti;infer_instance
variable {Q Q':Value→List Nat→Prop}
end Go.Proofs.YtnhbpmoeaodmnaaGreatDoor
namespace Go.Proofs.YtnhbpmoeaodmnaaGreatDoor
open Go Go.V
set_option linter.unusedSimpArgs false
set_option linter.unusedVariables false
set_option maxRecDepth 100000
theorem ZvU {cs:List Value} (hf:Yt XY cs=true) (x:J7):∃(D:List Value) (a b:Int),doL cs x.k x.c x.s x.n x.v=[.agg D.toArray,.agg [.int .i64 a,.int .i64 b].toArray,.int .i64 (Zd3 cs x)]∧Yt XY D=true∧(Zd3 cs x=0→D=(Za5 cs x).cells∧a=(Za5 cs x).code∧b=(Za5 cs x).val):=by
 unfold doL Zd3 Za5
 by_cases e:Ze4 cs x.k x.c x.s x.n x.v=0
 ·rw[if_pos e]
  refine⟨_,_,_,by rw[e],?_,fun _=>⟨rfl,rfl,rfl⟩⟩
  have e2:YQ x.k x.c x.s x.n x.v=0:=(Zqs (cs:=cs) (x:=x) e).2
  obtain⟨k,c,s,n,v,e1,e2,e3,e4,e5,y1,y2,y3,y4,y5⟩:=Zbs e2
  rw[e1,e2,e3,e4,e5]
  exact Zp5 hf _ _ _ _ _ (by simpa using y4) (by simpa using y2)
 ·rw[if_neg e]
  exact⟨_,_,_,rfl,rfl,fun h=>absurd h e⟩
end Go.Proofs.YtnhbpmoeaodmnaaGreatDoor
