/- One block of the digest: what the document computes; no condition but those in the statements. -/
import Derived.Test.YtpomedigibbeeaaGreatDoorTab
import Derived.Test.YtpomedigibbeeaaGreatDoorW18
import Derived.Test.YtpomedigibbeeaaGreatDoorBytes
import Derived.Test.YtpomedigibbeeaaGreatDoorTape
import Derived.Test.YtpomedigibbeeaaGreatDoorW12
import Derived.Test.YtpomedigibbeeaaGreatDoorPik
import Derived.Test.YtpomedigibbeeaaGreatDoorLchks
import Derived.Test.YtpomedigibbeeaaGreatDoorW14
import Derived.Test.YtpomedigibbeeaaGreatDoorVst
namespace Go.Proofs.YtpomedigibbeeaaGreatDoor
open Go Go.V
set_option linter.unusedSimpArgs false
set_option linter.unusedVariables false
set_option maxRecDepth 100000
abbrev NT (h:Hp) (v:Value) (l:List Nat):Prop:=Ts (fun x=>[nv x]) 1 h v l
theorem XI (T:World) (h:Hp) (x n:Nat) (hx:x<4294967296) (hn:n≤32) :
  Zd Tryz.prog T 109 #[.int .u32 x,.int .i64 n] h fun v' h'=>v'=.int .u32 (rr x n:Nat)∧h'=h:=by
 refine Zd.Zj (args:=[_,_]) Tryz.func109 rfl rfl rfl rfl ?_
 have e1:=MT x (32-n) (by omega)
 have e2:=Q4 x n hn
 have e3:(32:Int)-n=((32-n:Nat):Int):=by omega
 have e4:=TQ (x/2 ^ n) (x*2 ^ (32-n)%4294967296) (Nat.lt_of_le_of_lt (Nat.div_le_self _ _) hx) (by omega)
 have e5:¬(n:Int)<0:=by omega
 have e6:¬((32-n:Nat):Int)<0:=by omega
 have e7:=bW hx (show 32-n≤32 by omega)
 rw[show 32-(32-n)=n by omega,Nat.or_comm]at e7
 rw[e7]at e4
 unfold rr
 simp +contextual -implicitDefEqProofs only[go_sem,↓reduceIte]
 refine VS.q mixed (by kernel_rfl) ?_
 simp +contextual -implicitDefEqProofs only[go_sem,↓reduceIte,e3,e1,e2,e4,e5,e6]
theorem ub {a b c d:Nat} (ha:a<256) (hb:b<256) (hc:c<256) (hd:d<256) :
  Z9 .or .u32 (Z9 .or .u32 (Z9 .or .u32 (YE .u32 a 24) (YE .u32 b 16)) (YE .u32 c 8)) d=((a*16777216+b*65536+c*256+d:Nat):Int):=by
 have sb:∀{x k:Nat},x<256→k≤24→YE .u32 (x:Int) (k:Int)=((x*2 ^ k:Nat):Int):=by
  intro x k hx hk
  rw[MT x k (by omega),Nat.mod_eq_of_lt]
  have:2 ^ k≤2 ^ 24:=Nat.pow_le_pow_right (by omega) hk
  have h2:x*2 ^ k≤255*2 ^ 24:=Nat.mul_le_mul (by omega) this
  omega
 have e1:YE .u32 (a:Int) 24=((a*16777216:Nat):Int):=sb (k:=24) ha (by omega)
 have e2:YE .u32 (b:Int) 16=((b*65536:Nat):Int):=sb (k:=16) hb (by omega)
 have e3:YE .u32 (c:Int) 8=((c*256:Nat):Int):=sb (k:=8) hc (by omega)
 have f1:a*16777216 ||| b*65536=a*16777216+b*65536:=JY (k:=24) (by omega) (by omega)
 have f2:(a*16777216+b*65536) ||| c*256=a*16777216+b*65536+c*256:=JY (k:=16) (by omega) (by omega)
 rw[e1,e2,e3,TQ _ _ (by omega) (by omega),f1,TQ _ _ (by omega) (by omega),f2,TQ _ _ (by omega) (by omega),JY (k:=8) (by omega) (by omega)]
theorem RT (xs zs:List Nat) (i:Nat) (hi:i<xs.length) (hz:xs.length=zs.length):(xs.take i++zs.drop i).set i (xs.getD i 0)=xs.take (i+1)++zs.drop (i+1):=by
 rw[List.getD_eq_getElem?_getD,List.getElem?_eq_getElem hi]
 exact OV xs zs i hi hz
def Ov (b:List Nat) (i:Nat):List Nat:=Qc b i++List.replicate (64-i) 0
theorem Uj {b:List Nat} {i:Nat} (hi:i≤64):(Ov b i).length=64:=by simp[Ov,XV];omega
theorem gx {b:List Nat} {i j:Nat} (hj:j<i):(Ov b i).getD j 0=(Qc b i).getD j 0:=by
 rw[Ov,List.getD_eq_getElem?_getD,List.getElem?_append_left (by rw[XV];exact hj),←List.getD_eq_getElem?_getD]
theorem ny {b:List Nat} {i:Nat} (hi:i<64):(Ov b i).set i (GR b (Qc b i))=Ov b (i+1):=by
 rw[Ov,List.set_append_right _ _ (by rw[XV];exact Nat.le_refl _),XV,Nat.sub_self,show 64-i=(64-(i+1))+1 by omega,List.replicate_succ,List.set_cons_zero,Ov,Qc,List.append_assoc]
 rfl
theorem gy (b:List Nat):Ov b 64=Qc b 64:=by simp[Ov]
theorem HF {b:List Nat} (hb:S6 b) {i j:Nat}:(Qc b i).getD j 0<4294967296:=(LY hb i).getD j
theorem Ds (T:World) (h:Hp) (bd:Nat) (d:List Nat) (v:Value) (b:List Nat) (hd:d.length=8) (wd:SK d) (sb:Bs h v b) (hb:b.length=64) (tk:Ev 1 wv kN h)
  (hx:h[bd]? = some (.cells (d.map wv++[]).toArray 184)) (hg:1≠bd) :
  Zd Tryz.prog T 90 #[.pointer (some ⟨bd,0,none⟩),v] h fun v' h'=>VZ (some bd) h h'∧h'[bd]? = some (.cells ((EI d b).map wv++[]).toArray 184):=by
 obtain⟨p,c,rfl,UF⟩:=sb.Uz
 obtain⟨bb,ob,rfl,U6,YV⟩:=UF (by intro e;subst e;simp at hb)
 have gz:S6 b:=sb.byte
 refine Zd.Zj (args:=[_,_]) Tryz.func90 rfl rfl rfl rfl ?_
 rw[hb]
 have Ai:=Za hx
 have b0:Zg h.size h (h.push (.cells (XS 64 [Value.int .u32 0]).toArray 201)):=Zg.push (Nat.le_refl _) _
 have x0:∀A:Array Value,A=((Ov b 0).map wv).toArray→(h.push (.cells A 201))[h.size]? = some (.cells ((Ov b 0).map wv++[]).toArray 201):=by
  rintro _ rfl;rw[List.append_nil];exact Zb
 simp -implicitDefEqProofs only[go_sem,↓reduceIte]
 refine VS.ZV (fun F g=>Zg h.size h g∧F 0=.pointer (some ⟨bd,0,none⟩)∧F 1=.slice (some ⟨bb,ob,none⟩) 64 c∧F 4=.pointer (some ⟨h.size,0,none⟩)∧∃i:Nat,i≤64∧F 16=.int .i64 i∧g[h.size]? = some (.cells ((Ov b i).map wv++[]).toArray 201))
  (fun F _=>64-(vi (F 16)).toNat) rfl ⟨b0,rfl,rfl,rfl,0,by omega,rfl,by exact x0 _ (by rfl)⟩ ?_
 clear b0 x0
 rintro F g ⟨cN,f0,f1,f4,i,hi,f16,hw⟩
 have hws:=Za hw
 by_cases ZD:i<64
 ·have ZL:(i:Int)<64:=by omega
  have fin:∀X:Nat,X=GR b (Qc b i)→Jx g ⟨h.size,i,none⟩ (.int .u32 (X:Nat))=some (g.setIfInBounds h.size (.cells ((Ov b (i+1)).map wv++[]).toArray 201)):=by
   intro X hX
   have:=ZZ (f:=wv) hw (i:=i) (by rw[Uj hi];exact ZD) X rfl
   rw[hX,ny ZD]at this
   rw[hX];exact this
  by_cases h16:i<16
  ·have Zaz:(i:Int)<16:=by omega
   have g0:∀j,j<64→hc g ⟨bb,ob+j,none⟩=some (.int .u8 (b.getD j 0:Nat)):=fun j hj=>by rw[cN.hc (by exact U6)];exact YV j (by omega)
   have e0:=g0 (4*i) (by omega)
   have e1:=g0 (4*i+1) (by omega)
   have e2:=g0 (4*i+2) (by omega)
   have e3:=g0 (4*i+3) (by omega)
   have y0:=ZI gz (4*i)
   have y1:=ZI gz (4*i+1)
   have y2:=ZI gz (4*i+2)
   have y3:=ZI gz (4*i+3)
   have t0:(4*(i:Int)).toNat=4*i:=by omega
   have t1:(4*(i:Int)+1).toNat=4*i+1:=by omega
   have t2:(4*(i:Int)+2).toNat=4*i+2:=by omega
   have t3:(4*(i:Int)+3).toNat=4*i+3:=by omega
   have eo:=fun (_:Unit)=>ub y0 y1 y2 y3
   rw[show b.getD (4*i) 0*16777216+b.getD (4*i+1) 0*65536+b.getD (4*i+2) 0*256+b.getD (4*i+3) 0=Y8 b (4*i) from rfl]at eo
   have m0:((b.getD (4*i) 0:Nat):Int)%4294967296=(b.getD (4*i) 0:Nat):=by omega
   have m1:((b.getD (4*i+1) 0:Nat):Int)%4294967296=(b.getD (4*i+1) 0:Nat):=by omega
   have m2:((b.getD (4*i+2) 0:Nat):Int)%4294967296=(b.getD (4*i+2) 0:Nat):=by omega
   have m3:((b.getD (4*i+3) 0:Nat):Int)%4294967296=(b.getD (4*i+3) 0:Nat):=by omega
   have cs:=fin (Y8 b (4*i)) (by unfold GR;rw[XV,if_pos h16])
   simp -implicitDefEqProofs only[go_sem,↓reduceIte,f0,f1,f4,f16,ZL,Zaz]
   refine VS.w (g.size) [35] (.q 0 (.q 1 (.q 2 (.q 3 (.q 4 (.q 5 (.q 6 (.q 7 (.q 8 (.q 9 (.q 10 (.q 11 (.q 12 (.q 13 (.q 14 (.q 15 (.q 16 (.q 17 (.q 18 (.q 19 (.q 20 (.q 21 (.q 22 (.q 23 (.q 24 (.q 25 (.q 26 (.q 27 (.q 28 (.q 29 (.q 30 (.q 31 (.q 32 (.q 33 (.q 34 (.w 35 .nil)))))))))))))))))))))))))))))))))))) mixed (by kernel_rfl) ?_
   have Zm3:bb<g.size:=Nat.lt_of_lt_of_le U6 cN.size
   simp -implicitDefEqProofs only[go_sem,↓reduceIte,f0,f1,f4,f16,e0,e1,e2,e3,t0,t1,t2,t3,m0,m1,m2,m3,eo (),Zm3,cs]
   refine⟨⟨cN.Zl (Nat.le_refl _) _,f0,f1,f4,i+1,ZD,rfl,ZR hw⟩,?_⟩
   simp only[vi,Zk,↓reduceIte,f16];omega
  ·have Zaz:¬(i:Int)<16:=by omega
   have q1:=ZK hw (i:=i-15) (by rw[Uj hi];omega)
   have q2:=ZK hw (i:=i-2) (by rw[Uj hi];omega)
   have q3:=ZK hw (i:=i-16) (by rw[Uj hi];omega)
   have q4:=ZK hw (i:=i-7) (by rw[Uj hi];omega)
   rw[gx (by omega)]at q1 q2 q3 q4
   have eX:GR b (Qc b i)=((Qc b i).getD (i-16) 0+sg0 ((Qc b i).getD (i-15) 0)+(Qc b i).getD (i-7) 0+sg1 ((Qc b i).getD (i-2) 0))%4294967296:=by
    unfold GR;rw[XV,if_neg h16]
   have cs:=fin (GR b (Qc b i)) rfl
   have hA:(Qc b i).getD (i-15) 0<4294967296:=HF gz
   have hC:(Qc b i).getD (i-2) 0<4294967296:=HF gz
   rw[eX]at cs
   generalize (Qc b i).getD (i-15) 0=A at *
   generalize (Qc b i).getD (i-2) 0=C at *
   generalize (Qc b i).getD (i-16) 0=E1 at *
   generalize (Qc b i).getD (i-7) 0=E2 at *
   unfold wv at q1 q2 q3 q4
   have t1:((i:Int)-15).toNat=i-15:=by omega
   have t2:((i:Int)-2).toNat=i-2:=by omega
   have t3:((i:Int)-16).toNat=i-16:=by omega
   have t4:((i:Int)-7).toNat=i-7:=by omega
   have s1:Unit→Xh .u32 (A:Int) 3=((A/8:Nat):Int):=fun _=>Q4 A 3 (by decide)
   have s2:Unit→Xh .u32 (C:Int) 10=((C/1024:Nat):Int):=fun _=>Q4 C 10 (by decide)
   have o1:=fun (_:Unit)=>JO (rr A 7) (rr A 18) (QN hA) (QN hA)
   have o2:Unit→Z9 .xor .u32 ((rr A 7 ^^^ rr A 18:Nat):Int) ((A/8:Nat):Int)=((sg0 A:Nat):Int):=fun _=>JO _ _ (U3 (QN hA) (QN hA)) (EF hA)
   have o3:=fun (_:Unit)=>JO (rr C 17) (rr C 19) (QN hC) (QN hC)
   have o4:Unit→Z9 .xor .u32 ((rr C 17 ^^^ rr C 19:Nat):Int) ((C/1024:Nat):Int)=((sg1 C:Nat):Int):=fun _=>JO _ _ (U3 (QN hC) (QN hC)) (EF hC)
   generalize sg0 A=S0 at *
   generalize sg1 C=S1 at *
   have e5:((((E1:Int)+(E2:Int))%4294967296+(S0:Int))%4294967296+(S1:Int))%4294967296=(((E1+S0+E2+S1)%4294967296:Nat):Int):=by clear cs fin;omega
   simp -implicitDefEqProofs only[go_sem,↓reduceIte,f0,f1,f4,f16,ZL,Zaz]
   refine VS.q mixed (by kernel_rfl) ?_
   simp -implicitDefEqProofs only[go_sem,↓reduceIte,f0,f1,f4,f16,q1,q2,t1,t2]
   refine VS.w (h.size+1) [29] (.q 0 (.q 1 (.q 2 (.q 3 (.q 4 (.q 5 (.q 6 (.q 7 (.q 8 (.q 9 (.q 10 (.q 11 (.q 12 (.q 13 (.q 14 (.q 15 (.q 16 (.q 17 (.q 18 (.q 19 (.q 20 (.q 21 (.q 22 (.q 23 (.q 24 (.q 25 (.q 26 (.q 27 (.q 28 (.w 29 .nil)))))))))))))))))))))))))))))) mixed (by kernel_rfl) ?_
   simp -implicitDefEqProofs only[go_sem,↓reduceIte,f0,f1,f4,f16,q3,q4,t3,t4,e5]
   refine JP (fun h=>XI T h A 7 hA (by omega)) ?_
   simp -implicitDefEqProofs only[go_sem,↓reduceIte,f0,f1,f4,f16,o1 (),o2 (),o3 (),o4 (),s1 (),s2 (),e5]
   refine JP (fun h=>XI T h A 18 hA (by omega)) ?_
   simp -implicitDefEqProofs only[go_sem,↓reduceIte,f0,f1,f4,f16,o1 (),o2 (),o3 (),o4 (),s1 (),s2 (),e5]
   refine JP (fun h=>XI T h C 17 hC (by omega)) ?_
   simp -implicitDefEqProofs only[go_sem,↓reduceIte,f0,f1,f4,f16,o1 (),o2 (),o3 (),o4 (),s1 (),s2 (),e5]
   refine JP (fun h=>XI T h C 19 hC (by omega)) ?_
   simp -implicitDefEqProofs only[go_sem,↓reduceIte,f0,f1,f4,f16,o1 (),o2 (),o3 (),o4 (),s1 (),s2 (),e5,cs]
   refine⟨⟨cN.Zl (Nat.le_refl _) _,f0,f1,f4,i+1,ZD,rfl,ZR hw⟩,?_⟩
   simp only[vi,Zk,↓reduceIte,f16];omega
 ·have YJ:¬(i:Int)<64:=by omega
  obtain rfl:i=64:=by omega
  rw[gy]at hw
  have jA:=cN.get Ai hx
  have r0:rd g ⟨bd,0,none⟩ 8=some (d.map wv):=by rw[List.append_nil]at jA;exact Zp jA (by simp[hd])
  have l8:(d.map wv).length=8:=by simp[hd]
  have ZaA:(d.map wv).all Z7=true:=by simp[wv,Z7]
  obtain⟨DV,hDV⟩:=Zy (d.map wv)
  rw[←hDV]at r0 l8 ZaA
  have lp:Ys [Value.int .u32 0,Value.int .u32 0,Value.int .u32 0,Value.int .u32 0,Value.int .u32 0,Value.int .u32 0,Value.int .u32 0,Value.int .u32 0] 0 DV=DV:=ZP l8
  simp -implicitDefEqProofs only[go_sem,↓reduceIte,f0,f1,f4,f16,YJ,r0,l8,ZaA,lp]
  rw[hDV]
  have T9:=cN.size
  have hB:Zg h.size h (g.push (.cells (d.map wv).toArray 184)):=cN.add _
  have TN:Zg g.size g (g.push (.cells (d.map wv).toArray 184)):=Zg.push (Nat.le_refl _) _
  have hv0:(g.push (.cells (d.map wv).toArray 184))[g.size]? = some (.cells ((Qd b d 0).map wv++[]).toArray 184):=by
   rw[List.append_nil];exact Zb
  refine VS.ZV (fun F' g'=>Zg g.size g g'∧F' 0=.pointer (some ⟨bd,0,none⟩)∧F' 4=.pointer (some ⟨h.size,0,none⟩)∧F' 8=.pointer (some ⟨g.size,0,none⟩)∧∃i:Nat,i≤64∧F' 97=.int .i64 i∧g'[g.size]? = some (.cells ((Qd b d i).map wv++[]).toArray 184))
   (fun F _=>64-(vi (F 97)).toNat) rfl ⟨TN,f0,f4,rfl,0,by omega,rfl,hv0⟩ ?_
  clear f0 f1 f4 f16 YJ hi ZD hv0 hB TN r0 l8 ZaA lp hDV DV F
  rintro F g2 ⟨QL,f0,f4,f8,i,hi,f97,hv⟩
  have nz:=Za hv
  obtain⟨v8,w8⟩:=T4 (b:=b) hd wd i
  obtain⟨a,b',c',d',e,f,g',k',qw⟩:=eight v8
  by_cases ZD:i<64
  ·have ZL:(i:Int)<64:=by omega
   have uc:Qd b d (i+1)=[(upw e f g' k' (kN.getD i 0) ((Qc b 64).getD i 0)+bg0 a+fD a b' c')%4294967296,a,b',c',(d'+upw e f g' k' (kN.getD i 0) ((Qc b 64).getD i 0))%4294967296,e,f,g']:=by
    rw[show Qd b d (i+1)=mz (Qd b d i) (kN.getD i 0) ((Qc b 64).getD i 0) from rfl,qw];rfl
   have hK:kN.getD i 0<4294967296:=zU.getD i
   have hW:(Qc b 64).getD i 0<4294967296:=(LY gz 64).getD i
   have k1:V.hc g2 ⟨1,i,none⟩=some (.int .u32 (kN.getD i 0:Nat)):=by
    rw[QL.hc (by have:=tk.1;show (1:Nat)<g.size;omega),cN.hc (by exact tk.1)];exact tk.2 i ZD
   have w1:V.hc g2 ⟨h.size,i,none⟩=some (.int .u32 ((Qc b 64).getD i 0:Nat)):=by
    rw[QL.hc (by exact hws)];exact ZK hw (by rw[XV];exact ZD)
   rw[qw]at hv w8
   have n0:V.hc g2 ⟨g.size,0,none⟩=some (.int .u32 (a:Nat)):=ZK hv (i:=0) (by simp)
   have n1:V.hc g2 ⟨g.size,1,none⟩=some (.int .u32 (b':Nat)):=ZK hv (i:=1) (by simp)
   have n2:V.hc g2 ⟨g.size,2,none⟩=some (.int .u32 (c':Nat)):=ZK hv (i:=2) (by simp)
   have n3:V.hc g2 ⟨g.size,3,none⟩=some (.int .u32 (d':Nat)):=ZK hv (i:=3) (by simp)
   have n4:V.hc g2 ⟨g.size,4,none⟩=some (.int .u32 (e:Nat)):=ZK hv (i:=4) (by simp)
   have n5:V.hc g2 ⟨g.size,5,none⟩=some (.int .u32 (f:Nat)):=ZK hv (i:=5) (by simp)
   have n6:V.hc g2 ⟨g.size,6,none⟩=some (.int .u32 (g':Nat)):=ZK hv (i:=6) (by simp)
   have n7:V.hc g2 ⟨g.size,7,none⟩=some (.int .u32 (k':Nat)):=ZK hv (i:=7) (by simp)
   have ha:a<4294967296:=w8 a (by simp)
   have XN:b'<4294967296:=w8 b' (by simp)
   have hc':c'<4294967296:=w8 c' (by simp)
   have hd':d'<4294967296:=w8 d' (by simp)
   have he:e<4294967296:=w8 e (by simp)
   have hf:f<4294967296:=w8 f (by simp)
   have Ih:g'<4294967296:=w8 g' (by simp)
   have PS:k'<4294967296:=w8 k' (by simp)
   generalize kN.getD i 0=K at *
   generalize (Qc b 64).getD i 0=W at *
   have o1:=fun (_:Unit)=>JO (rr e 6) (rr e 11) (QN he) (QN he)
   have o2:Unit→Z9 .xor .u32 ((rr e 6 ^^^ rr e 11:Nat):Int) ((rr e 25:Nat):Int)=((zS e:Nat):Int):=fun _=>JO _ _ (U3 (QN he) (QN he)) (QN he)
   have o3:=fun (_:Unit)=>JO (rr a 2) (rr a 13) (QN ha) (QN ha)
   have o4:Unit→Z9 .xor .u32 ((rr a 2 ^^^ rr a 13:Nat):Int) ((rr a 22:Nat):Int)=((bg0 a:Nat):Int):=fun _=>JO _ _ (U3 (QN ha) (QN ha)) (QN ha)
   have c0:Unit→(if IntKind.u32.signed=true then (-1:Int) else IntKind.u32.max)=4294967295:=fun _=>rfl
   have c1:=fun (_:Unit)=>PO e f he hf
   have c2:=fun (_:Unit)=>tj he
   have c3:=fun (_:Unit)=>PO (4294967295-e) g' (EG e) Ih
   have c4:=fun (_:Unit)=>zT (f:=f) he Ih
   have m1:=fun (_:Unit)=>PO a b' ha XN
   have m2:=fun (_:Unit)=>PO a c' ha hc'
   have m3:=fun (_:Unit)=>PO b' c' XN hc'
   have m4:=fun (_:Unit)=>JO (a &&& b') (a &&& c') (QD ha) (QD ha)
   have m5:=fun (_:Unit)=>tp (c:=c') ha XN
   have eU:upw e f g' k' K W=(k'+zS e+chw e f g'+K+W)%4294967296:=rfl
   generalize upw e f g' k' K W=U at *
   generalize zS e=S1 at *
   generalize bg0 a=S0 at *
   generalize chw e f g'=CH at *
   generalize fD a b' c'=MJ at *
   have e1:Unit→(((((k':Int)+(S1:Int))%4294967296+(CH:Int))%4294967296+(K:Int))%4294967296+(W:Int))%4294967296=(U:Int):=fun _=>by omega
   have e2:Unit→((S0:Int)+(MJ:Int))%4294967296=(((S0+MJ)%4294967296:Nat):Int):=fun _=>by omega
   have e3:Unit→((U:Int)+(((S0+MJ)%4294967296:Nat):Int))%4294967296=(((U+S0+MJ)%4294967296:Nat):Int):=fun _=>by omega
   have e4:Unit→((d':Int)+(U:Int))%4294967296=(((d'+U)%4294967296:Nat):Int):=fun _=>by omega
   simp -implicitDefEqProofs only[go_sem,↓reduceIte,f0,f4,f8,f97,ZL]
   refine VS.q mixed (by kernel_rfl) ?_
   simp -implicitDefEqProofs only[go_sem,↓reduceIte,f0,f4,f8,f97,n0,n4]
   refine VS.q mixed (by kernel_rfl) ?_
   simp -implicitDefEqProofs only[go_sem,↓reduceIte,f0,f4,f8,f97,n7,n4]
   refine QS (XI T _ e 6 he (by omega)) ?_
   simp -implicitDefEqProofs only[go_sem,↓reduceIte,f8]
   refine QS (XI T _ e 11 he (by omega)) ?_
   simp -implicitDefEqProofs only[go_sem,↓reduceIte,f8]
   refine QS (XI T _ e 25 he (by omega)) ?_
   simp -implicitDefEqProofs only[go_sem,↓reduceIte,f4,f8,f97,ZL,o1 (),o2 (),n5,n6,c0 (),c1 (),c2 (),c3 (),c4 (),k1,w1,e1 ()]
   refine VS.mono (N:=fun F' g'=>g2=g'∧F' 0=.pointer (some ⟨bd,0,none⟩)∧F' 4=.pointer (some ⟨h.size,0,none⟩)∧F' 8=.pointer (some ⟨g.size,0,none⟩)∧F' 97=.int .i64 i∧F' 10=.int .u32 (a:Nat)∧F' 11=.int .u32 (e:Nat)∧F' 12=.int .u32 (U:Nat)∧F' 13=.int .u32 (((S0+MJ)%4294967296:Nat):Int)) ?_ ?_ (fun _ _ _ h=>h) (fun _ _ h=>h)
   ·refine VS.q mixed (by kernel_rfl) ?_
    simp -implicitDefEqProofs only[go_sem,↓reduceIte,f8]
    refine QS (XI T _ a 2 ha (by omega)) ?_
    simp -implicitDefEqProofs only[go_sem,↓reduceIte,f8]
    refine QS (XI T _ a 13 ha (by omega)) ?_
    simp -implicitDefEqProofs only[go_sem,↓reduceIte,f8]
    refine QS (XI T _ a 22 ha (by omega)) ?_
    simp -implicitDefEqProofs only[go_sem,↓reduceIte,f0,f4,f8,f97,o3 (),o4 (),n1,n2,m1 (),m2 (),m3 (),m4 (),m5 (),e2 ()]
   clear f0 f4 f8 f97 F
   rintro F _ ⟨rfl,f0,f4,f8,f97,f10,f11,f12,f13⟩
   have hvE:g2[g.size]? = some (.cells [Value.int .u32 a,.int .u32 b',.int .u32 c',.int .u32 d',.int .u32 e,.int .u32 f,.int .u32 g',.int .u32 k'].toArray 184):=hv
   have y2:=ZS hvE 0
   obtain⟨xU,hxU⟩:∃x:Int,x=(U:Int):=⟨_,rfl⟩
   obtain⟨xD,hxD⟩:∃x:Int,x=(((S0+MJ)%4294967296:Nat):Int):=⟨_,rfl⟩
   obtain⟨x0,Sc⟩:∃x:Int,x=(((U+S0+MJ)%4294967296:Nat):Int):=⟨_,rfl⟩
   obtain⟨x4,CA⟩:∃x:Int,x=(((d'+U)%4294967296:Nat):Int):=⟨_,rfl⟩
   have E3:Unit→(xU+xD)%4294967296=x0:=fun _=>by rw[hxU,hxD,Sc];exact e3 ()
   have E4:Unit→((d':Int)+xU)%4294967296=x4:=fun _=>by rw[hxU,CA];exact e4 ()
   rw[←hxU]at f12
   rw[←hxD]at f13
   simp -implicitDefEqProofs only[go_sem,↓reduceIte,f0,f4,f8,f97,f10,f11,f12,f13,n1,n2,n3,n5,n6,E3 (),E4 (),y2]
   refine⟨⟨QL.Zl (Nat.le_refl _) _,f0,f4,f8,i+1,ZD,rfl,?_⟩,?_⟩
   ·rw[uc,Sc,CA];exact ZR hv
   ·simp only[vi,Zk,↓reduceIte,f97];omega
  ·have YJ:¬(i:Int)<64:=by omega
   obtain rfl:i=64:=by omega
   have r0:rd g2 ⟨g.size,0,none⟩ 8=some ((Qd b d 64).map wv):=by rw[List.append_nil]at hv;exact Zp hv (by simp[v8])
   have hB:VZ (some bd) h g2:=by
    have q1:=cN.trans (QL.mono cN.size)
    exact⟨q1.size,fun k hk _=>q1.block k hk⟩
   have jA:g2[bd]? = some (.cells (((T5 d (Qd b d 64)).take 0++d.drop 0).map wv++[]).toArray 184):=by
    rw[List.take_zero,List.drop_zero,List.nil_append]
    exact (cN.trans (QL.mono cN.size)).get Ai hx
   have hal:=T6 hd v8
   simp -implicitDefEqProofs only[go_sem,↓reduceIte,f0,f8,f97,YJ,r0]
   refine VS.ZV (fun F' g'=>VZ (some bd) h g'∧F' 0=.pointer (some ⟨bd,0,none⟩)∧F' 177=.agg ((Qd b d 64).map wv).toArray∧∃i:Nat,i≤8∧F' 178=.int .i64 i∧g'[bd]? = some (.cells (((T5 d (Qd b d 64)).take i++d.drop i).map wv++[]).toArray 184))
    (fun F _=>8-(vi (F 178)).toNat) rfl ⟨hB,f0,rfl,0,by omega,rfl,jA⟩ ?_
   clear f0 f4 f8 f97 YJ hi ZD hv jA hB r0 F
   rintro F g3 ⟨hB,f0,ZaB,i,hi,ud,jA⟩
   have Zm7:=Za jA
   have ue:((T5 d (Qd b d 64)).take i++d.drop i).length=8:=by rw[WC _ _ _ (by omega) (by omega),hal]
   by_cases ZD:i<8
   ·have ZL:(i:Int)<8:=by omega
    have n1:nth ((Qd b d 64).map wv) i=some (.int .u32 ((Qd b d 64).getD i 0:Nat)):=by
     rw[Ym,List.getElem?_map,List.getD_eq_getElem?_getD,List.getElem?_eq_getElem (by omega)];rfl
    have q1:=ZK jA (i:=i) (by omega)
    have e0:((T5 d (Qd b d 64)).take i++d.drop i).getD i 0=d.getD i 0:=by
     rw[List.getD_eq_getElem?_getD,List.getElem?_append_right (by rw[List.length_take];omega),List.length_take,Nat.min_eq_left (by omega),Nat.sub_self,List.getElem?_drop,Nat.add_zero,←List.getD_eq_getElem?_getD]
    rw[e0]at q1
    unfold wv at q1
    have eX:=fE hd v8 ZD
    have cs:=ZZ (f:=wv) jA (i:=i) (by omega) ((T5 d (Qd b d 64)).getD i 0) rfl
    rw[RT _ _ i (by omega) (by omega)]at cs
    have jW:Jx g3 ⟨bd,i,none⟩ (.int .u32 (((T5 d (Qd b d 64)).getD i 0:Nat):Int))=_:=cs
    rw[eX]at jW
    generalize d.getD i 0=D at *
    generalize (Qd b d 64).getD i 0=V at *
    have e1:((D:Int)+(V:Int))%4294967296=(((D+V)%4294967296:Nat):Int):=by omega
    simp -implicitDefEqProofs only[go_sem,↓reduceIte,ZaB,ud,ZL,n1]
    refine VS.w (g3.size) [9] (.q 0 (.q 1 (.q 2 (.q 3 (.q 4 (.q 5 (.q 6 (.q 7 (.q 8 (.w 9 .nil)))))))))) mixed (by kernel_rfl) ?_
    simp -implicitDefEqProofs only[go_sem,↓reduceIte,f0,ZaB,ud,q1,e1,Zm7,jW,ZL]
    refine⟨⟨?_,f0,ZaB,i+1,ZD,rfl,ZR jA⟩,?_⟩
    ·exact⟨by rw[Array.size_setIfInBounds];exact hB.size,fun k hk Yw=>by rw[Array.getElem?_setIfInBounds,if_neg (by intro e;exact Yw (by rw[e])),hB.block k hk Yw]⟩
    ·simp only[vi,Zk,↓reduceIte,ud];omega
   ·have YJ:¬(i:Int)<8:=by omega
    obtain rfl:i=8:=by omega
    have e9:(T5 d (Qd b d 64)).take 8++d.drop 8=EI d b:=by
     rw[List.take_of_length_le (by omega),List.drop_of_length_le (by omega),List.append_nil];rfl
    rw[e9]at jA
    simp -implicitDefEqProofs only[go_sem,↓reduceIte,ud,YJ]
    exact⟨hB,jA⟩
def AL:Value→Nat
 | .slice _ n _=>n
 | _=>0
def IN (n:Nat):List Nat:=0 :: 0 :: 0 :: 0 :: XK (8*n)
theorem Mc (n:Nat):(IN n).length=8:=rfl
theorem gC (n:Nat):S6 (IN n):=by
 intro x hx
 simp only[IN,List.mem_cons]at hx
 rcases hx with rfl|rfl|rfl|rfl|hx
 ·omega
 ·omega
 ·omega
 ·omega
 ·exact U2 _ x hx
theorem uf {n k:Nat} (hn:n≤100000) (hk:k<8):Xh .i64 ((8*n:Nat):Int) ((56-8*k:Nat):Int)%256=(((IN n).getD k 0:Nat):Int):=by
 rw[Td _ _ (by omega)]
 rcases k with _|_|_|_|_|_|_|_|k
 ·show ((8*n/2 ^ 56:Nat):Int)%256=((0:Nat):Int)
  rw[Nat.div_eq_of_lt (by omega)];rfl
 ·show ((8*n/2 ^ 48:Nat):Int)%256=((0:Nat):Int)
  rw[Nat.div_eq_of_lt (by omega)];rfl
 ·show ((8*n/2 ^ 40:Nat):Int)%256=((0:Nat):Int)
  rw[Nat.div_eq_of_lt (by omega)];rfl
 ·show ((8*n/2 ^ 32:Nat):Int)%256=((0:Nat):Int)
  rw[Nat.div_eq_of_lt (by omega)];rfl
 ·rfl
 ·rfl
 ·rfl
 ·show ((8*n/2 ^ 0:Nat):Int)%256=((8*n%256:Nat):Int)
  rw[Nat.pow_zero,Nat.div_one];rfl
 ·omega
theorem ug {x bp op m c:Nat} {h h':Hp} {l:List Nat} (s:Bs h (.slice (some ⟨bp,op,none⟩) m c) l) (a:VZ (some x) h h') (Yw:bp≠x):Bs h' (.slice (some ⟨bp,op,none⟩) m c) l:=by
 obtain⟨⟨p,cap,hv,hl,hc⟩,hb⟩:=s
 simp only[Value.slice.injEq]at hv
 obtain⟨rfl,hm,rfl⟩:=hv
 refine⟨⟨_,_,by rw[hm],hl,fun hn=>?_⟩,hb⟩
 obtain⟨b,o,hp,YV⟩:=hc hn
 simp only[Option.some.injEq,Addr.mk.injEq,and_true]at hp
 obtain⟨rfl,rfl⟩:=hp
 refine⟨_,_,rfl,fun i hi=>?_⟩
 have h1:=YV i hi
 have h2:=Uc h1
 unfold V.hc at h1 ⊢
 rw[a.block _ h2 (by intro e;exact Yw (Option.some.inj e).symm)]
 exact h1
theorem Tn {bp op m c:Nat} {h:Hp} {l:List Nat} (s:Bs h (.slice (some ⟨bp,op,none⟩) m c) l) {k:Nat} (hk:k≤l.length) (hm:l.length=m) (c':Nat):Bs h (.slice (some ⟨bp,op+k,none⟩) (m-k) c') (l.drop k):=by
 subst hm
 refine⟨?_,fun x hx=>s.byte x (List.mem_of_mem_drop hx)⟩
 obtain⟨p',cap,hv,hl,hc⟩:=s.sl
 simp only[Value.slice.injEq]at hv
 obtain⟨rfl,_,rfl⟩:=hv
 refine⟨_,c',by rw[List.length_drop],by simp,fun Yw=>?_⟩
 have ZD:k<l.length:=by
  rw[←List.length_pos_iff]at Yw
  simp at Yw;omega
 obtain⟨b,o,hp,YV⟩:=hc (by intro e;simp at e;subst e;simp at ZD)
 simp only[Option.some.injEq,Addr.mk.injEq,and_true]at hp
 obtain⟨rfl,rfl⟩:=hp
 refine⟨_,_,rfl,fun i hi=>?_⟩
 have bH:i<l.length-k:=by simpa using hi
 rw[show op+k+i=op+(k+i) by omega,YV (k+i) (by simp;omega)]
 simp
abbrev Tk (h:Hp):Prop:=Ev 1 wv kN h
theorem Fi (T:World) (h:Hp) (v:Value) (l:List Nat) (s:Bs h v l) (hl:l.length≤100000) (tk:Tk h) :
  Zd Tryz.prog T 71 #[v] h fun v' h'=>Z0 h.size 5 h' v' (Wq l)∧Zg h.size h h':=by
 obtain⟨p,cp,rfl,UF⟩:=s.open
 have gz:S6 l:=s.byte
 refine Zd.Zj (args:=[_]) Tryz.func71 rfl rfl rfl rfl ?_
 simp -implicitDefEqProofs only[go_sem,↓reduceIte]
 obtain⟨h1,YD⟩:=Zy (h.push (.cells (mD.map wv).toArray 184):Hp)
 have hs1:h1.size=h.size+1:=by rw[YD];simp
 have b1:Zg h.size h h1:=by rw[YD];exact Zg.push (Nat.le_refl _) _
 have x1:h1[h.size]? = some (.cells (mD.map wv++[]).toArray 184):=by rw[YD,List.append_nil];exact Zb
 change TL Tryz.prog T .append _ _ _ _ _ (h.push (.cells (mD.map wv).toArray 184))
 rw[←YD]
 clear YD
 refine Zw (E:=5) (B:=h.size+1) YC Tryz.underlying34 WH VA Vz (Z0.Iw _ _ _ _) (by omega) (s.Ya b1) (by simp;omega) ?_
 intro w h2 o2 b2 _
 rw[List.nil_append]at o2
 simp -implicitDefEqProofs only[go_sem,↓reduceIte]
 refine Zw (E:=5) (B:=h.size+1) YC Tryz.underlying34 WH VA Vz (o2.push _) (by have:=b2.size;simp;omega) (Bs.one (x:=128) (by omega) 1) (by simp;omega) ?_
 intro w3 h3 o3 b3 _
 have B3:Zg (h.size+1) h1 h3:=(b2.Yh (by have:=b2.size;omega) _).trans b3
 have o3':Z0 (h.size+1) 5 h3 w3 (T7 l 0):=o3
 clear o2 o3 b2 b3
 simp -implicitDefEqProofs only[go_sem,↓reduceIte]
 refine VS.ZV (fun F g=>Zg (h.size+1) h1 g∧F 0=.slice p l.length cp∧F 3=.pointer (some ⟨h.size,0,none⟩)∧∃j:Nat,j≤ID l.length∧Z0 (h.size+1) 5 g (F 4) (T7 l j))
  (fun F _=>l.length+100-AL (F 4)) rfl ⟨B3,rfl,rfl,0,by omega,o3'⟩ ?_
 clear o3' B3
 rintro F g ⟨hg,f0,f3,j,hj,ho⟩
 obtain⟨p4,c4,f4,_⟩:=ho.open
 have ml:=Oc l j
 obtain⟨M,hM⟩:=Zy (l.length+j+1)
 rw[ml,←hM]at f4
 have Zx4:ID l.length<64:=by unfold ID;omega
 have d1:(M:Int).tmod 64=((M%64:Nat):Int):=rfl
 have T9:=hg.size
 by_cases hm:M%64=56
 case neg=>
  have ML:¬((M%64:Nat):Int)=56:=by omega
  have Yw:j≠ID l.length:=fun e=>hm (by rw[hM];exact (EK hj).2 e)
  simp -implicitDefEqProofs only[go_sem,↓reduceIte,f0,f3,f4,d1,ML]
  have qI:=ho
  rw[f4]at qI
  refine Zw (E:=5) (B:=h.size+1) YC Tryz.underlying34 WH VA Vz (qI.push _) (by simp;omega) (Bs.one (x:=0) (by omega) 1) (by rw[ml];simp;omega) ?_
  intro w' g' RH XN _
  obtain⟨p5,c5,rfl,_⟩:=RH.open
  simp -implicitDefEqProofs only[go_sem,↓reduceIte,f0,f3]
  refine⟨⟨(hg.Yh (by omega) _).trans XN,f0,f3,j+1,by omega,?_⟩,?_⟩
  ·rw[BV];exact RH
  ·simp only[AL,Zk,↓reduceIte,f4,List.length_append,ml,List.length_singleton];omega
 have hjn:j=ID l.length:=(EK hj).1 (by rw[←hM];exact hm)
 have ML:((M%64:Nat):Int)=56:=by omega
 simp -implicitDefEqProofs only[go_sem,↓reduceIte,f0,f3,f4,d1,ML]
 refine VS.ZV (fun F g=>Zg (h.size+1) h1 g∧F 0=.slice p l.length cp∧F 3=.pointer (some ⟨h.size,0,none⟩)∧∃k:Nat,k≤8∧F 5=.int .i64 (56-8*(k:Int))∧Z0 (h.size+1) 5 g (F 4) (T7 l j++(IN l.length).take k))
  (fun F _=>(vi (F 5)+8).toNat) rfl ⟨hg,f0,f3,0,by omega,rfl,by rw[List.take_zero,List.append_nil];exact ho⟩ ?_
 clear f0 f3 f4 d1 hm ML ho hg T9 F g
 rintro F g ⟨hg,f0,f3,k,hk,f5,ho⟩
 have T9:=hg.size
 obtain⟨y,hy⟩:∃y:Int,y=56-8*(k:Int):=⟨_,rfl⟩
 rw[←hy]at f5
 by_cases ZD:k<8
 ·have fS:0≤y:=by omega
  have G8:¬y<0:=by omega
  obtain⟨X,hX⟩:=Zy ((IN l.length).getD k 0)
  have hXb:X<256:=by rw[hX];exact ZI (gC _) k
  obtain⟨xL,hxL⟩:∃x:Int,x=((8*l.length:Nat):Int):=⟨_,rfl⟩
  have eL:Unit→8*(l.length:Int)=xL:=fun _=>by rw[hxL];omega
  have xLb:0≤xL∧xL≤1000000:=by rw[hxL];omega
  have sh:Unit→Xh .i64 xL y%256=(X:Int):=fun _=>by
   rw[hxL,hy,show (56:Int)-8*(k:Int)=((56-8*k:Nat):Int) by omega,hX];exact uf hl ZD
  have ml2:(T7 l j++(IN l.length).take k).length≤200000:=by rw[List.length_append,ml,List.length_take];omega
  have et:(IN l.length).take (k+1)=(IN l.length).take k++[X]:=by
   rw[Yg _ k (by rw[Mc];exact ZD),hX,List.getD_eq_getElem?_getD,List.getElem?_eq_getElem (by rw[Mc];exact ZD)];rfl
  clear hX hxL
  simp -implicitDefEqProofs only[go_sem,↓reduceIte,f0,f3,f5,fS,G8,eL (),sh ()]
  refine Zw (E:=5) (B:=h.size+1) YC Tryz.underlying34 WH VA Vz (ho.push _) (by simp;omega) (Bs.one hXb 1) (by simp only[List.length_singleton];omega) ?_
  intro w' g' RH XN _
  simp -implicitDefEqProofs only[go_sem,↓reduceIte,f0,f3,f5]
  refine⟨⟨(hg.Yh (by omega) _).trans XN,f0,f3,k+1,ZD,?_,?_⟩,?_⟩
  ·show Value.int .i64 _=_
   congr 1;omega
  ·rw[et,←List.append_assoc];exact RH
  ·simp only[vi,Zk,↓reduceIte,f5];omega
 ·have fS:¬0≤y:=by omega
  obtain rfl:k=8:=by omega
  have ep:T7 l j++(IN l.length).take 8=WJ l:=by rw[hjn];rfl
  rw[ep]at ho
  have pl:=GS l
  obtain⟨N,hN⟩:=Zy (fF l.length)
  have hN1:0<N:=by rw[hN];unfold fF;omega
  have hN2:N≤2000:=by rw[hN];unfold fF;omega
  rw[←hN]at pl
  have uh:=hg.get (by omega) x1
  have bh:Zg h.size h g:=b1.trans (hg.mono (by omega))
  obtain⟨bp,cP,f4,hbp,hcP⟩:∃bp c,F 4=.slice (some ⟨bp,0,none⟩) (64*N) c∧h.size+1≤bp∧64*N≤c:=by
   rcases ho.own with⟨_,hm,_⟩|⟨b,cap,sp,hB,hv,_,_,_,hc⟩
   ·omega
   ·rw[pl]at hv hc;exact⟨b,cap,hv,hB,hc⟩
  have sP:=ho.bs
  rw[f4]at sP
  simp -implicitDefEqProofs only[go_sem,↓reduceIte,f0,f3,f5,fS]
  refine VS.ZV (fun F g=>Zg h.size h g∧F 3=.pointer (some ⟨h.size,0,none⟩)∧∃j op c:Nat,j≤N∧F 4=.slice (some ⟨bp,op,none⟩) (64*(N-j)) c∧64*(N-j)≤c∧Bs g (.slice (some ⟨bp,op,none⟩) (64*(N-j)) c) ((WJ l).drop (64*j))∧g[h.size]? = some (.cells ((EJ (WJ l) j).map wv++[]).toArray 184))
   (fun F _=>AL (F 4)) rfl ⟨bh,f3,0,0,cP,by omega,f4,hcP,by exact sP,uh⟩ ?_
  clear f0 f3 f4 f5 hy fS ZD ho sP uh bh hg T9 ep hcP F g
  rintro F g ⟨hg,f3,j,op,c,hj,f4,hc,sP,uh⟩
  have T9:=Za uh
  by_cases ZD:j<N
  ·obtain⟨L,hL⟩:=Zy (64*(N-j))
   rw[←hL]at f4 hc sP
   have Zx5:64≤L:=by omega
   have jB:((WJ l).drop (64*j)).length=L:=by rw[List.length_drop,pl];omega
   have hL0:0<(L:Int):=by omega
   have Ze6:(64:Int)≤(c:Int):=by omega
   have bF:¬c=0:=by omega
   simp -implicitDefEqProofs only[go_sem,↓reduceIte,f3,f4,hL0,Ze6,bF,Nat.sub_zero,Nat.zero_mul]
   have sB:Bs g (.slice (some ⟨bp,op,none⟩) 64 c) (((WJ l).drop (64*j)).take 64):=by
    rw[←jB]at sP;exact Bs.S4 sP (by omega) c
   obtain⟨dl,dw⟩:=Ob (WJ l) j
   refine (Ds T g h.size (EJ (WJ l) j) _ (((WJ l).drop (64*j)).take 64) dl dw sB (by rw[List.length_take,jB];omega) (tk.Jy hg) uh (by have:=tk.1;omega)).use ?_
   rintro _ g2 ⟨RJ,RN⟩
   have QL:Zg h.size h g2:=hg.trans (RJ.Ya (by omega) (fun b e=>by have:=Option.some.inj e;omega))
   have sP2:=ug sP RJ (by omega)
   by_cases hce:c=64
   ·have hLe:L=64:=by omega
    have Zm9:(c:Int)=64:=by omega
    have xF:(L:Int)=64:=by omega
    subst hce hLe
    simp -implicitDefEqProofs only[go_sem,↓reduceIte,f3,f4,Zm9,xF]
    refine⟨⟨QL,f3,j+1,op,0,ZD,?_,by omega,?_,RN⟩,?_⟩
    ·show Value.slice _ _ _=_
     rw[show 64*(N-(j+1))=0 by omega]
    ·rw[show 64*(N-(j+1))=0 by omega,List.drop_of_length_le (by rw[pl];omega)]
     exact (Z0.Iw 0 5 _ _).bs
    ·simp only[AL,Zk,↓reduceIte,f4];omega
   ·have Ze7:(64:Int)≤(L:Int):=by omega
    simp -implicitDefEqProofs only[go_sem,↓reduceIte,f3,f4,Ze6,Ze7,hce]
    refine⟨⟨QL,f3,j+1,op+64,c-64,ZD,?_,by omega,?_,RN⟩,?_⟩
    ·show Value.slice _ _ _=_
     rw[show L-64=64*(N-(j+1)) by omega]
    ·have:=Tn sP2 (k:=64) (by omega) jB (c-64)
     rw[List.drop_drop,show L-64=64*(N-(j+1)) by omega,show 64*j+64=64*(j+1) by omega]at this
     exact this
    ·simp only[AL,Zk,↓reduceIte,f4];omega
  ·obtain rfl:j=N:=by omega
   have eS:Wq l=Zs (EJ (WJ l) j):=by rw[Wq,←hN]
   obtain⟨dl,dw⟩:=Ob (WJ l) j
   obtain⟨D,hD⟩:=Zy (EJ (WJ l) j)
   rw[←hD]at dl dw uh eS
   rw[eS]
   have r0:rd g ⟨h.size,0,none⟩ 8=some (D.map wv):=by rw[List.append_nil]at uh;exact Zp uh (by simp[dl])
   rw[Nat.sub_self,Nat.mul_zero]at f4
   have hz:¬h.size=g.size:=by omega
   simp -implicitDefEqProofs only[go_sem,↓reduceIte,f3,f4,r0,hz]
   have hBo:Zg h.size h (g.push (.cells (XS 32 [Value.int .u8 0]).toArray 5)):=hg.add _
   have oO:Z0 h.size 5 (g.push (.cells (XS 32 [Value.int .u8 0]).toArray 5)) (.slice (some ⟨g.size,0,none⟩) 0 32) (Zs (D.take 0)):=
    ⟨.inr ⟨g.size,32,XS 32 [Value.int .u8 0],hg.size,rfl,Zb,rfl,rfl,Nat.zero_le 32⟩,fun x hx=>by cases hx⟩
   refine VS.ZV (fun F g=>Zg h.size h g∧F 43=.agg (D.map wv).toArray∧∃i:Nat,i≤8∧F 44=.int .i64 i∧Z0 h.size 5 g (F 6) (Zs (D.take i)))
    (fun F _=>8-(vi (F 44)).toNat) rfl ⟨hBo,rfl,0,by omega,rfl,oO⟩ ?_
   clear f3 f4 ZD uh r0 hz hBo oO sP hc hg T9 g F
   rintro F g ⟨hg,f43,i,hi,f44,ho⟩
   have T9:=hg.size
   by_cases ZD:i<8
   ·have ZL:(i:Int)<8:=by omega
    obtain⟨x,hx⟩:=Zy (D.getD i 0)
    have hxb:x<4294967296:=by rw[hx];exact dw.getD i
    have et:D.take (i+1)=D.take i++[x]:=by
     rw[Yg _ i (by omega),hx,List.getD_eq_getElem?_getD,List.getElem?_eq_getElem (by omega)];rfl
    obtain⟨yx,gD⟩:∃y:Int,y=(x:Int):=⟨_,rfl⟩
    obtain⟨z0,FI⟩:∃y:Int,y=((x/16777216%256:Nat):Int):=⟨_,rfl⟩
    obtain⟨z1,GM⟩:∃y:Int,y=((x/65536%256:Nat):Int):=⟨_,rfl⟩
    obtain⟨z2,As⟩:∃y:Int,y=((x/256%256:Nat):Int):=⟨_,rfl⟩
    obtain⟨z3,ui⟩:∃y:Int,y=((x%256:Nat):Int):=⟨_,rfl⟩
    have n1:nth (D.map wv) i=some (.int .u32 yx):=by
     rw[Ym,List.getElem?_map,gD,hx,List.getD_eq_getElem?_getD,List.getElem?_eq_getElem (by omega)];rfl
    have e1:Unit→Xh .u32 yx 24%256=z0:=fun _=>by rw[gD,FI,show (24:Int)=((24:Nat):Int) from rfl,Q4 x 24 (by decide)];rfl
    have e2:Unit→Xh .u32 yx 16%256=z1:=fun _=>by rw[gD,GM,show (16:Int)=((16:Nat):Int) from rfl,Q4 x 16 (by decide)];rfl
    have e3:Unit→Xh .u32 yx 8%256=z2:=fun _=>by rw[gD,As,show (8:Int)=((8:Nat):Int) from rfl,Q4 x 8 (by decide)];rfl
    have e4:Unit→yx%256=z3:=fun _=>by rw[gD,ui];rfl
    have XY:(Zs (D.take i)).length≤32:=by rw[ZB,List.length_take];omega
    clear gD hx
    simp -implicitDefEqProofs only[go_sem,↓reduceIte,f43,f44,ZL,n1,e1 (),e2 (),e3 (),e4 ()]
    subst FI GM As ui
    refine Zw (E:=5) (B:=h.size) YC Tryz.underlying34 WH VA Vz (ho.push _) (by simp;omega) (Bs.made (l:=XK x) (U2 x) 4) (by simp[XK];omega) ?_
    intro w' g' RH XN _
    simp -implicitDefEqProofs only[go_sem,↓reduceIte,f43,f44]
    refine⟨⟨(hg.add _).trans XN,f43,i+1,ZD,rfl,?_⟩,?_⟩
    ·rw[et]
     unfold Zs at RH ⊢
     rw[List.flatMap_append]
     simp only[List.flatMap_cons,List.flatMap_nil,List.append_nil]
     exact RH
    ·simp only[vi,Zk,↓reduceIte,f44];omega
   ·have YJ:¬(i:Int)<8:=by omega
    obtain rfl:i=8:=by omega
    rw[List.take_of_length_le (by omega)]at ho
    simp -implicitDefEqProofs only[go_sem,↓reduceIte,f43,f44,YJ]
    exact⟨ho,hg⟩
def RU (n:Nat):Int:=if 2000<n then 1 else 0
def nA (B:Nat) (h':Hp) (v':Value) (l:List Nat):Prop:=∃w,v'=.tuple [w,.int .i64 (RU l.length)].toArray∧Z0 B 5 h' w (if RU l.length=0 then Wq l else [])
theorem HG (T:World) (h:Hp) (v:Value) (l:List Nat) (s:Bs h v l) (tk:Tk h) :
  Zd Tryz.prog T 50 #[v] h fun v' h'=>nA h.size h' v' l∧Zg h.size h h':=by
 obtain⟨p,cp,rfl,UF⟩:=s.open
 refine Zd.Zj (args:=[_]) Tryz.func50 rfl rfl rfl rfl ?_
 unfold nA RU
 by_cases hl:2000<l.length
 ·have Cx:2000<(l.length:Int):=by omega
  simp -implicitDefEqProofs only[go_sem,↓reduceIte,Cx,hl]
  exact⟨_,rfl,Z0.nil _ _ _⟩
 ·have Cx:¬2000<(l.length:Int):=by omega
  simp -implicitDefEqProofs only[go_sem,↓reduceIte,Cx,hl]
  refine (Fi T _ _ l s (by omega) tk).use ?_
  rintro w h1 ⟨o1,b1⟩
  simp -implicitDefEqProofs only[go_sem,↓reduceIte,b1]
  exact⟨_,rfl,o1⟩
def Ox (body:List Nat):List Nat:=body.length :: body
def Yk (body:List Nat):List Nat:=Ox body++(Wq (Ox body)).take 4
theorem Qp (body:List Nat):(Ox body).length=body.length+1:=rfl
theorem Uk (body:List Nat):(Yk body).length=body.length+5:=by
 rw[Yk,List.length_append,List.length_take,JF,Qp];omega
def YO (l:List Nat) (n:Int):Prop:=l.length≤100000∧0≤n∧n≤l.length
instance (l:List Nat) (n:Int):Decidable (YO l n):=by unfold YO;infer_instance
def JJ (l:List Nat) (n:Int) (k:Nat):Int:=if ¬YO l n then 5 else if 100000<l.length+(k+5) then 8 else 0
def To (B:Nat) (h':Hp) (v':Value) (l:List Nat) (n:Int) (E:Int) (add:List Nat):Prop:=
 ∃w,v'=.tuple [.agg [w,.int .i64 (if E=0 then n else 0)].toArray,.int .i64 E].toArray∧Z0 B 5 h' w (if E=0 then l++add else [])
theorem VZ.ZaD {h g:Hp} {b:Nat} {o:Obj} (a:VZ (some b) h g):VZ (some b) h (g.setIfInBounds b o):=
 ⟨by rw[Array.size_setIfInBounds];exact a.size,fun k hk Yw=>by rw[Array.getElem?_setIfInBounds,if_neg (fun e=>Yw (by rw[e])),a.block k hk Yw]⟩
theorem VJ (T:World) (h:Hp) (v u:Value) (n:Int) (l body:List Nat) (s:Bs h v l) (hl:l.length≤140737488355328) (sb:Bs h u body) (hb:body.length≤255) (tk:Tk h) :
  Zd Tryz.prog T 135 #[.agg [v,.int .i64 n].toArray,u] h fun v' h'=>To h.size h' v' l n (JJ l n body.length) (Yk body)∧Zg h.size h h':=by
 obtain⟨p,c,rfl,_⟩:=s.open
 obtain⟨q,d,rfl,_⟩:=sb.open
 refine Zd.Zj (args:=[_,_]) Tryz.func135 rfl rfl rfl rfl ?_
 unfold To
 simp -implicitDefEqProofs only[go_sem,↓reduceIte]
 obtain⟨h0,XR⟩:=Zy ((h.push (.cells [.slice p l.length c,.int .i64 n].toArray 100)).push (.cells [.slice none 0 0,.int .i64 0].toArray 100):Hp)
 have b0:Zg h.size h h0:=by rw[XR];exact ((Zg.refl _ _).add _).add _
 have s0:h0.size=h.size+1+1:=by rw[XR];simp
 have x0:h0[h.size+1]? = some (.cells [.slice none 0 0,.int .i64 0].toArray 100):=by
  rw[XR,Array.getElem?_push,if_pos (by simp)]
 rw[←XR]
 clear XR
 refine (Qm T h0 _ n l (s.Ya b0) hl).use ?_
 rintro _ h1 ⟨b1,o1⟩
 have s1:=b1.size
 by_cases ok:YO l n
 case neg=>
  have ee:JJ l n body.length=5:=by unfold JJ;rw[if_pos ok]
  rw[if_neg (show ¬(l.length≤100000∧0≤n∧n≤l.length) from ok)]at o1
  subst o1
  rw[ee]
  have x1:=b1.get (by omega) x0
  have y2:=ZS x1 0
  have ZD:h.size+1<h1.size:=by omega
  have Yw:¬h.size+1=h1.size:=by omega
  simp -implicitDefEqProofs only[go_sem,↓reduceIte,y2,Yw,ZD]
  exact⟨⟨_,rfl,Z0.nil _ _ _⟩,((b0.trans (b1.mono (by omega))).Zl (by omega) _).Yh (by simp;omega) _⟩
 have ee:JJ l n body.length=if 100000<l.length+(body.length+5) then 8 else 0:=by unfold JJ;rw[if_neg (fun hn=>hn ok)]
 rw[if_pos (show (l.length≤100000∧0≤n∧n≤l.length) from ok)]at o1
 obtain⟨w,rfl,o1⟩:=o1
 obtain⟨pw,cw,rfl,_⟩:=o1.open
 have B1:=b0.trans (b1.mono (by omega))
 have x1:=b1.get (by omega) x0
 obtain⟨mG,I8,hn1⟩:=ok
 obtain⟨h2,Wl⟩:=Zy (h1.push (.cells [.slice pw l.length cw,.int .i64 n].toArray 100):Hp)
 have b2:Zg h1.size h1 h2:=by rw[Wl];exact Zg.push (Nat.le_refl _) _
 have s2:h2.size=h1.size+1:=by rw[Wl];simp
 have x6:h2[h1.size]? = some (.cells [.slice pw l.length cw,.int .i64 n].toArray 100):=by rw[Wl];exact Zb
 have eb:(body.length:Int)%256=(body.length:Int):=by omega
 have e2:h1.push (.cells #[Value.slice pw l.length cw,.int .i64 n] 100)=h2:=Wl.symm
 simp -implicitDefEqProofs only[go_sem,↓reduceIte,eb]
 rw[e2]
 clear e2 Wl
 rw[←s2]
 have B2:=B1.trans (b2.mono B1.size)
 have o2:=o1.Ya b2 (Nat.le_refl _)
 have I0:∀x∈[body.length],x<256:=by intro x hx;rw[List.mem_singleton.1 hx];omega
 have of0:Z0 h2.size 5 (h2.push (.cells (([body.length]:List Nat).map bv).toArray 5)) (.slice (some ⟨h2.size,0,none⟩) 1 1) [body.length]:=Z0.made I0 (Nat.le_refl _)
 have bp:Zg h2.size h2 (h2.push (.cells (([body.length]:List Nat).map bv).toArray 5)):=Zg.push (Nat.le_refl _) _
 refine Zw (E:=5) (B:=h2.size) YC Tryz.underlying34 WH VA Vz of0 (by simp) (sb.Ya (B2.trans (bp.mono (by omega)))) (by simp;omega) ?_
 intro wf h3 of3 b3 _
 have B3:Zg h2.size h2 h3:=bp.trans b3
 have jC:=B2.trans (B3.mono (by omega))
 have Ze8:Z0 h2.size 5 h3 wf (Ox body):=of3
 clear of0 bp of3 b3
 have fl:=Qp body
 have fsl:=Uk body
 have efr:Yk body=Ox body++(Wq (Ox body)).take 4:=rfl
 have shl:=JF (Ox body)
 simp -implicitDefEqProofs only[go_sem,↓reduceIte]
 refine (HG T h3 wf (Ox body) Ze8.bs (tk.Jy jC)).use ?_
 rintro _ h4 ⟨⟨ws,rfl,os⟩,b4⟩
 have e0:RU (Ox body).length=0:=by unfold RU;rw[if_neg (by omega)]
 rw[e0,if_pos rfl]at os
 rw[e0]
 generalize Wq (Ox body)=SH at *
 obtain⟨ps,cs,rfl,YV⟩:=os.open
 have sS:=os.bs
 obtain⟨p',c',hv,hh⟩:=sS.Uz
 simp only[Value.slice.injEq]at hv
 obtain⟨rfl,_,rfl⟩:=hv
 obtain⟨bb,ob,rfl,_⟩:=hh (by intro e;rw[e]at shl;cases shl)
 have s4:=Bs.S4 sS (m:=4) (by omega) cs
 rw[shl]at YV ⊢
 have h4c:(4:Int)≤(cs:Int):=by omega
 have GX:¬cs=0:=by omega
 have of4:=Ze8.Ya b4 (Nat.le_refl _)
 have s3:=B3.size
 have s4s:=b4.size
 have B4:Zg h2.size h2 h4:=B3.trans (b4.mono s3)
 simp -implicitDefEqProofs only[go_sem,↓reduceIte,h4c,GX,Nat.sub_zero,Nat.zero_mul]
 refine Zw (E:=5) (B:=h2.size) YC Tryz.underlying34 WH VA Vz of4 (by omega) s4 (by rw[fl,List.length_take];omega) ?_
 intro wg h5 og b5 _
 rw[←efr]at og
 have B5:Zg h2.size h2 h5:=B4.trans b5
 have s5:=B5.size
 have Bh5:=B2.trans (B5.mono (by omega))
 obtain⟨pg,cg,rfl,_⟩:=og.open
 rw[fsl]
 have x65:=B5.get (by omega) x6
 have r65:V.hc h5 ⟨h1.size,0,none⟩=some (.slice pw l.length cw):=by rw[Zh x65];rfl
 have o5:=o2.Ya B5 (Nat.le_refl _)
 have x15:h5[h.size+1]? = some (.cells [.slice none 0 0,.int .i64 0].toArray 100):=B5.get (by omega) (b2.get (by omega) x1)
 generalize Yk body=FR at *
 by_cases q:100000<l.length+(body.length+5)
 ·have q':100000<(l.length:Int)+((body.length+5:Nat):Int):=by omega
  have y2:=ZS x15 0
  have ZD:h.size+1<h5.size:=by omega
  rw[if_pos q]at ee
  rw[ee]
  simp -implicitDefEqProofs only[go_sem,↓reduceIte,r65,q',y2,ZD]
  exact⟨⟨_,rfl,Z0.nil _ _ _⟩,Bh5.Zl (by omega) _⟩
 ·have q':¬100000<(l.length:Int)+((body.length+5:Nat):Int):=by omega
  rw[if_neg q]at ee
  rw[ee]
  simp -implicitDefEqProofs only[go_sem,↓reduceIte,r65,q']
  have ogb:Bs h5 (.slice pg (body.length+5) cg) FR:=by rw[←fsl];exact og.bs
  refine Qa (E:=5) (B:=h0.size) YC Tryz.underlying34 WH VA Vz o5 (by omega) ogb (by omega) ?_
  intro wz h6 oz b6 bt6 bk6
  have s6:=b6.size
  have Ap:∀b,ZO (Value.slice pw l.length cw)=some b→b<h1.size:=o1.own.lt
  have x66:h6[h1.size]? = some (.cells [.slice pw l.length cw,.int .i64 n].toArray 100):=by
   rw[bt6.block _ (by omega) (fun e=>by have:=Ap _ e;omega)];exact x65
  have x16:h6[h.size+1]? = some (.cells [.slice none 0 0,.int .i64 0].toArray 100):=b6.get (by omega) x15
  obtain⟨pz,cz,hwz,_⟩:=oz.open
  have zl:(l++FR).length=l.length+(body.length+5):=by rw[List.length_append,fsl]
  rw[zl]at hwz
  subst hwz
  have w66:=Yz (v:=.slice pz (l.length+(body.length+5)) cz) x66 (o:=0)
  obtain⟨h7,uj⟩:=Zy (h6.setIfInBounds h1.size (.cells [.slice pz (l.length+(body.length+5)) cz,.int .i64 n].toArray 100):Hp)
  have Znb:Jx h6 ⟨h1.size,0,none⟩ (.slice pz (l.length+(body.length+5)) cz)=some h7:=by rw[w66,if_pos ⟨by simp,rfl⟩,uj];rfl
  have b7:VZ (some h1.size) h6 h7:=by rw[uj];exact VZ.ZaD VZ.refl
  have x77:h7[h1.size]? = some (.cells [.slice pz (l.length+(body.length+5)) cz,.int .i64 n].toArray 100):=by rw[uj,Array.getElem?_setIfInBounds,if_pos rfl,if_pos (by omega)]
  have x17:h7[h.size+1]? = some (.cells [.slice none 0 0,.int .i64 0].toArray 100):=by
   rw[b7.block _ (by omega) (fun e=>by have:=Option.some.inj e;omega)];exact x16
  have oz7:=oz.Lv b7 (fun b hb e=>by
   have e':=Option.some.inj e
   rcases bk6 b hb with g1|g1
   ·have:=Ap b g1;omega
   ·omega)
  have r77:rd h7 ⟨h1.size,0,none⟩ 2=some [.slice pz (l.length+(body.length+5)) cz,.int .i64 n]:=Zp x77 rfl
  have y7:=ZS x17 0
  have Ki:h.size+1<h7.size:=Za x17
  have CF:Zg h.size h h6:=Bh5.trans (b6.mono (by omega))
  have Ii:Zg h.size h h7:=CF.trans (b7.Ya (by omega) (fun b e=>by have:=Option.some.inj e;omega))
  clear uj w66
  simp -implicitDefEqProofs only[go_sem,↓reduceIte,Znb,r77,y7,Ki]
  refine⟨⟨_,rfl,?_⟩,Ii.Zl (by omega) _⟩
  exact (oz7.ZT (by omega) _).mono (by omega)
theorem UQ (g:Hp) (ns:List Nat):NT (g.push (.cells (ns.map nv).toArray 3)) (.slice (some ⟨g.size,0,none⟩) ns.length ns.length) ns:=by
 constructor
 rw[Ud nv]
 exact Sl.made (by simp) _
theorem VK (T:World) (h:Hp) (u:Value) (ns:List Nat) (s:NT h u ns) (hl:ns.length≤100) (hb:∀x∈ns,x≤1073741824) :
  Zd Tryz.prog T 136 #[u] h fun v' h'=>Z0 h.size 5 h' v' (Zs ns)∧Zg h.size h h':=by
 obtain⟨p,c,rfl,YV⟩:=th s
 refine Zd.Zj (args:=[_]) Tryz.func136 rfl rfl rfl rfl ?_
 simp -implicitDefEqProofs only[go_sem,↓reduceIte]
 refine VS.ZV (fun F g=>Zg h.size h g∧F 6=.slice p ns.length c∧F 7=.int .i64 ns.length∧∃i:Nat,i≤ns.length∧F 8=.int .i64 i∧Z0 h.size 5 g (F 3) (Zs (ns.take i)))
  (fun F _=>ns.length-(vi (F 8)).toNat) rfl ⟨Zg.refl _ _,rfl,rfl,0,by omega,rfl,Z0.nil _ _ _⟩ ?_
 rintro F g ⟨hg,f6,f7,i,hi,f8,ho⟩
 have T9:=hg.size
 by_cases ZD:i<ns.length
 ·have ZL:(i:Int)<ns.length:=by omega
  obtain⟨b,o,rfl,wZ,YV⟩:=YV (by intro e;rw[e]at ZD;simp at ZD)
  have n1:V.hc g ⟨b,o+i,none⟩=some (.int .i64 (ns.getD i 0:Nat)):=by rw[hg.hc (by exact wZ)];exact YV i ZD
  have et:ns.take (i+1)=ns.take i++[ns.getD i 0]:=by
   rw[Yg _ i ZD,List.getD_eq_getElem?_getD,List.getElem?_eq_getElem ZD];rfl
  have hx:ns.getD i 0≤1073741824:=by
   rw[List.getD_eq_getElem?_getD,List.getElem?_eq_getElem ZD];exact hb _ (List.getElem_mem ZD)
  generalize ns.getD i 0=x at *
  obtain⟨yx,gD⟩:∃y:Int,y=(x:Int):=⟨_,rfl⟩
  obtain⟨z0,FI⟩:∃y:Int,y=((x/16777216%256:Nat):Int):=⟨_,rfl⟩
  obtain⟨z1,GM⟩:∃y:Int,y=((x/65536%256:Nat):Int):=⟨_,rfl⟩
  obtain⟨z2,As⟩:∃y:Int,y=((x/256%256:Nat):Int):=⟨_,rfl⟩
  obtain⟨z3,ui⟩:∃y:Int,y=((x%256:Nat):Int):=⟨_,rfl⟩
  rw[←gD]at n1
  have e1:Unit→Xh .i64 yx 24%256=z0:=fun _=>by rw[gD,FI,show (24:Int)=((24:Nat):Int) from rfl,Td x 24 (by decide)];rfl
  have e2:Unit→Xh .i64 yx 16%256=z1:=fun _=>by rw[gD,GM,show (16:Int)=((16:Nat):Int) from rfl,Td x 16 (by decide)];rfl
  have e3:Unit→Xh .i64 yx 8%256=z2:=fun _=>by rw[gD,As,show (8:Int)=((8:Nat):Int) from rfl,Td x 8 (by decide)];rfl
  have e4:Unit→yx%256=z3:=fun _=>by rw[gD,ui];rfl
  have XY:(Zs (ns.take i)).length≤400:=by rw[ZB,List.length_take];omega
  clear gD
  simp -implicitDefEqProofs only[go_sem,↓reduceIte,f6,f7,f8,ZL,n1,e1 (),e2 (),e3 (),e4 ()]
  subst FI GM As ui
  refine Zw (E:=5) (B:=h.size) YC Tryz.underlying34 WH VA Vz (ho.push _) (by simp;omega) (Bs.made (l:=XK x) (U2 x) 4) (by simp[XK];omega) ?_
  intro w' g' RH XN _
  simp -implicitDefEqProofs only[go_sem,↓reduceIte,f6,f7,f8]
  refine⟨⟨(hg.add _).trans XN,f6,f7,i+1,ZD,rfl,?_⟩,?_⟩
  ·rw[et]
   unfold Zs at RH ⊢
   rw[List.flatMap_append]
   simp only[List.flatMap_cons,List.flatMap_nil,List.append_nil]
   exact RH
  ·simp only[vi,Zk,↓reduceIte,f8];omega
 ·have YJ:¬(i:Int)<ns.length:=by omega
  obtain rfl:i=ns.length:=by omega
  rw[List.take_length]at ho
  simp -implicitDefEqProofs only[go_sem,↓reduceIte,f6,f7,f8,YJ]
  exact⟨ho,hg⟩
def J2 (l:List Nat) (n:Int) (b:YG):Int:=if ¬YO l n then 5 else if ¬ZM b then 2 else JJ l n 9
def XT (b:YG):List Nat:=1 :: Zs [b.r.toNat,b.n.toNat]
theorem AM (b:YG):Yq ⟨0,0⟩ [] b=if ZM b then 0 else 2:=by
 have e:Xx ⟨0,0⟩ []=0:=rfl
 unfold Yq
 rw[if_neg (by rw[e];decide)]
 by_cases q:ZM b
 ·rw[if_neg (fun hn=>hn q),if_pos q,if_neg]
  intro hb
  have q1:=q.1.1
  rcases hb with hb|⟨hb,_⟩<;>simp at hb<;>omega
 ·rw[if_pos q,if_neg q]
theorem Md (T:World) (h:Hp) (v:Value) (n:Int) (l:List Nat) (b:YG) (s:Bs h v l) (hl:l.length≤140737488355328) (tk:Tk h) :
  Zd Tryz.prog T 111 #[.agg [v,.int .i64 n].toArray,.agg (Je b).toArray] h fun v' h'=>To h.size h' v' l n (J2 l n b) (Yk (XT b))∧Zg h.size h h':=by
 obtain⟨p,c,rfl,_⟩:=s.open
 refine Zd.Zj (args:=[_,_]) Tryz.func111 rfl rfl rfl rfl ?_
 unfold To Je
 simp -implicitDefEqProofs only[go_sem,↓reduceIte]
 obtain⟨h0,XR⟩:=Zy (((h.push (.cells [.slice p l.length c,.int .i64 n].toArray 100)).push (.cells [.int .i64 b.r,.int .i64 b.n].toArray 102)).push (.cells [.slice none 0 0,.int .i64 0].toArray 100):Hp)
 have b0:Zg h.size h h0:=by rw[XR];exact (((Zg.refl _ _).add _).add _).add _
 have s0:h0.size=h.size+3:=by rw[XR];simp
 have t0:h0[h.size]? = some (.cells [.slice p l.length c,.int .i64 n].toArray 100):=by
  rw[XR,Array.getElem?_push,if_neg (by simp;omega),Array.getElem?_push,if_neg (by simp),Zb]
 have t1:h0[h.size+1]? = some (.cells [.int .i64 b.r,.int .i64 b.n].toArray 102):=by
  rw[XR,Array.getElem?_push,if_neg (by simp),Array.getElem?_push,if_pos (by simp)]
 have x0:h0[h.size+2]? = some (.cells [.slice none 0 0,.int .i64 0].toArray 100):=by
  rw[XR,Array.getElem?_push,if_pos (by simp)]
 rw[←XR]
 clear XR
 refine (Qm T h0 _ n l (s.Ya b0) hl).use ?_
 rintro _ h1 ⟨b1,o1⟩
 have s1:=b1.size
 have B1:Zg h.size h h1:=b0.trans (b1.mono (by omega))
 have x1:=b1.get (by omega) x0
 by_cases ok:YO l n
 case neg=>
  have ee:J2 l n b=5:=by unfold J2;rw[if_pos ok]
  rw[if_neg (show ¬(l.length≤100000∧0≤n∧n≤l.length) from ok)]at o1
  subst o1
  rw[ee]
  have y2:=ZS x1 0
  have ZD:h.size+2<h1.size:=by omega
  have Yw:¬h.size+2=h1.size:=by omega
  simp -implicitDefEqProofs only[go_sem,↓reduceIte,y2,Yw,ZD]
  exact⟨⟨_,rfl,Z0.nil _ _ _⟩,(B1.Zl (by omega) _).Yh (by simp;omega) _⟩
 rw[if_pos (show (l.length≤100000∧0≤n∧n≤l.length) from ok)]at o1
 obtain⟨w,rfl,o1⟩:=o1
 obtain⟨pw,cw,rfl,_⟩:=o1.open
 have bt1:=b1.get (by omega) t1
 have r1:rd h1 ⟨h.size+1,0,none⟩ 2=some [.int .i64 b.r,.int .i64 b.n]:=Zp bt1 rfl
 have Dt:¬h.size+1=h1.size:=by omega
 simp -implicitDefEqProofs only[go_sem,↓reduceIte,r1,Dt]
 have b2:Zg h1.size h1 (h1.push (.cells [.slice pw l.length cw,.int .i64 n].toArray 100)):=Zg.push (Nat.le_refl _) _
 refine (Tj T _ ⟨0,0⟩ (.slice none 0 0) [] b (Jk.nil 0 146 Zn 8 _).ts (by simp)).use ?_
 rintro _ h3 ⟨⟨w1,w2,rfl,q1,q2⟩,b3⟩
 simp only[ite_self]at q1
 have B3:Zg h1.size h1 h3:=b2.trans (b3.mono b2.size)
 rw[AM]
 obtain⟨p1,c1,Ap,_⟩:=q1.open
 have s3:=B3.size
 have x3:=B3.get (by omega) x1
 have jC:=B1.trans (B3.mono (by omega))
 by_cases may:ZM b
 case neg=>
  have ee:J2 l n b=2:=by unfold J2;rw[if_neg (fun hn=>hn ok),if_pos may]
  rw[ee,if_neg may]
  obtain⟨w1',Zyk⟩:∃w,w=w1:=⟨_,rfl⟩
  subst Ap
  have y2:=ZS x3 0
  have ZD:h.size+2<h3.size:=by omega
  have Yw:¬h.size+2=h3.size:=by omega
  unfold YN
  simp -implicitDefEqProofs only[go_sem,↓reduceIte,y2,Yw,ZD]
  exact⟨⟨_,rfl,Z0.nil _ _ _⟩,(jC.Zl (by omega) _).Yh (by simp;omega) _⟩
 have ee:J2 l n b=JJ l n 9:=by unfold J2;rw[if_neg (fun hn=>hn ok),if_neg (fun hn=>hn may)]
 rw[ee,if_pos may]
 obtain⟨⟨m1,m2⟩,m3,m4⟩:=may
 obtain⟨br,bn⟩:=b
 obtain⟨r,rfl⟩:∃r:Nat,br=r:=⟨br.toNat,by simp at m1;omega⟩
 obtain⟨m,rfl⟩:∃m:Nat,bn=m:=⟨bn.toNat,by simp at m3;omega⟩
 simp only at m1 m2 m3 m4
 unfold XT
 simp only[Int.toNat_natCast]
 subst Ap
 unfold YN
 have t3:=B3.get (by omega) (b1.get (by omega) t0)
 have t13:=B3.get (by omega) bt1
 obtain⟨g,hg⟩:=Zy (h3.push (.cells [.int .i64 (r:Nat),.int .i64 (m:Nat),.slice p1 ([]:List Vt).length c1].toArray 105):Hp)
 simp -implicitDefEqProofs only[go_sem,↓reduceIte]
 have e3:h3.push (.cells #[Value.int .i64 (r:Nat),.int .i64 (m:Nat),.slice p1 0 c1] 105)=g:=hg.symm
 rw[e3]
 have bg:Zg h3.size h3 g:=by rw[hg];exact Zg.push (Nat.le_refl _) _
 have sg:g.size=h3.size+1:=by rw[hg];simp
 clear e3 hg
 have Bg:Zg h.size h g:=jC.trans (bg.mono (by omega))
 have x4g:=bg.get (by omega) x3
 have t4:=bg.get (by omega) t3
 have t14:=bg.get (by omega) t13
 have r0:rd g ⟨h.size,0,none⟩ 2=some [.slice p l.length c,.int .i64 n]:=Zp t4 rfl
 have c0:V.hc g ⟨h.size+1,0,none⟩=some (.int .i64 (r:Nat)):=by rw[Zh t14];rfl
 have zZ:V.hc g ⟨h.size+1,1,none⟩=some (.int .i64 (m:Nat)):=by rw[Zh t14];rfl
 have k0:h.size<g.size:=by omega
 have k1:h.size+1<g.size:=by omega
 refine VS.w (g.size) [12,13] (.q 0 (.q 2 (.q 3 (.q 4 (.q 5 (.or 1 (.s 6 (.s 7 (.s 8 (.s 9 (.q 10 (.q 11 (.w 12 (.w 13 .nil)))))))) (.s 6 (.or 1 (.s 7 (.s 8 (.s 9 (.q 10 (.q 11 (.w 12 (.w 13 .nil))))))) (.s 7 (.s 1 (.s 8 (.s 9 (.q 10 (.q 11 (.w 12 (.w 13 .nil)))))))))))))))) mixed (by kernel_rfl) ?_
 simp -implicitDefEqProofs only[go_sem,↓reduceIte,r0,c0,zZ,k0,k1]
 refine⟨?_,?_,?_⟩
 ·have o0:Z0 g.size 5 (g.push (.cells (([1]:List Nat).map bv).toArray 5)) (.slice (some ⟨g.size,0,none⟩) 1 1) [1]:=Z0.made (by decide) (Nat.le_refl _)
  have B0:Zg g.size g ((g.push (.cells (([1]:List Nat).map bv).toArray 5)).push (.cells (([r,m]:List Nat).map nv).toArray 3)):=(Zg.push (Nat.le_refl _) _).Yh (by simp) _
  have o00:=o0.push (.cells (([r,m]:List Nat).map nv).toArray 3)
  have si:NT ((g.push (.cells (([1]:List Nat).map bv).toArray 5)).push (.cells (([r,m]:List Nat).map nv).toArray 3)) (.slice (some ⟨(g.push (.cells (([1]:List Nat).map bv).toArray 5)).size,0,none⟩) 2 2) [r,m]:=UQ _ _
  have e1:(g.push (.cells (([1]:List Nat).map bv).toArray 5)).size=g.size+1:=by simp
  rw[e1]at si
  refine (VK T _ _ [r,m] si (by simp) (by intro x hx;simp only[List.mem_cons,List.not_mem_nil,or_false]at hx;omega)).use ?_
  rintro w5 h5 ⟨o5,b5⟩
  have BB:=B0.trans (b5.mono B0.size)
  have o1:=o00.Ya b5 (Nat.le_refl _)
  have s4:=o5.bs
  simp -implicitDefEqProofs only[go_sem,↓reduceIte,BB]
  refine Zw (E:=5) (B:=g.size) YC Tryz.underlying34 WH VA Vz o1 BB.size s4 (by rw[ZB];simp) ?_
  intro w6 h6 o6 b6 _
  have B6:Zg g.size g h6:=BB.trans b6
  have CF:=Bg.trans (B6.mono (by omega))
  have nC:Z0 g.size 5 h6 w6 (1 :: Zs [r,m]):=o6
  simp -implicitDefEqProofs only[go_sem,↓reduceIte,B6]
  refine (VJ T h6 _ w6 n l (1 :: Zs [r,m]) (s.Ya CF) hl nC.bs (by simp only[List.length_cons,ZB,List.length_nil];omega) (tk.Jy CF)).use ?_
  rintro _ h7 ⟨⟨w7,rfl,o7⟩,b7⟩
  have el:(1 :: Zs [r,m]).length=9:=by simp only[List.length_cons,ZB,List.length_nil]
  rw[el]at o7 ⊢
  have B7:Zg g.size g h7:=B6.trans (b7.mono B6.size)
  have Ii:=CF.trans (b7.mono CF.size)
  have x7:=B7.get (by omega) x4g
  have y7:=ZS x7 0
  have Ki:h.size+2<h7.size:=Za x7
  generalize Yk (1 :: Zs [r,m])=FR at *
  obtain⟨E,hE⟩:=Zy (JJ l n 9)
  rw[←hE]at o7 ⊢
  obtain⟨z,hz⟩:∃z:Int,z=if E=0 then n else 0:=⟨_,rfl⟩
  rw[←hz]
  obtain⟨pz,cz,rfl,_⟩:=o7.open
  have o7l:=o7
  simp -implicitDefEqProofs only[go_sem,↓reduceIte,B7,y7,Ki]
  refine⟨⟨_,rfl,?_⟩,Ii.Zl (by omega) _⟩
  exact (o7.ZT (by have:=B6.size;omega) _).mono (by have:=B6.size;omega)
 ·have uk:Zg g.size g (g.push (.cells (([r,m]:List Nat).map nv).toArray 3)):=Zg.push (Nat.le_refl _) _
  have o0:Z0 g.size 5 ((g.push (.cells (([r,m]:List Nat).map nv).toArray 3)).push (.cells (([1]:List Nat).map bv).toArray 5)) (.slice (some ⟨(g.push (.cells (([r,m]:List Nat).map nv).toArray 3)).size,0,none⟩) 1 1) [1]:=(Z0.made (by decide) (Nat.le_refl _)).mono (by simp)
  have B0:Zg g.size g ((g.push (.cells (([r,m]:List Nat).map nv).toArray 3)).push (.cells (([1]:List Nat).map bv).toArray 5)):=uk.Yh (by simp) _
  have si0:NT (g.push (.cells (([r,m]:List Nat).map nv).toArray 3)) (.slice (some ⟨g.size,0,none⟩) 2 2) [r,m]:=UQ _ _
  have si:=si0.Ya (Zg.push (Nat.le_refl _) (.cells (([1]:List Nat).map bv).toArray 5))
  have e1:(g.push (.cells (([r,m]:List Nat).map nv).toArray 3)).size=g.size+1:=by simp
  rw[e1]at o0
  refine (VK T _ _ [r,m] si (by simp) (by intro x hx;simp only[List.mem_cons,List.not_mem_nil,or_false]at hx;omega)).use ?_
  rintro w5 h5 ⟨o5,b5⟩
  have BB:=B0.trans (b5.mono B0.size)
  have o1:=o0.Ya b5 (Nat.le_refl _)
  have s4:=o5.bs
  simp -implicitDefEqProofs only[go_sem,↓reduceIte,BB]
  refine Zw (E:=5) (B:=g.size) YC Tryz.underlying34 WH VA Vz o1 BB.size s4 (by rw[ZB];simp) ?_
  intro w6 h6 o6 b6 _
  have B6:Zg g.size g h6:=BB.trans b6
  have CF:=Bg.trans (B6.mono (by omega))
  have nC:Z0 g.size 5 h6 w6 (1 :: Zs [r,m]):=o6
  simp -implicitDefEqProofs only[go_sem,↓reduceIte,B6]
  refine (VJ T h6 _ w6 n l (1 :: Zs [r,m]) (s.Ya CF) hl nC.bs (by simp only[List.length_cons,ZB,List.length_nil];omega) (tk.Jy CF)).use ?_
  rintro _ h7 ⟨⟨w7,rfl,o7⟩,b7⟩
  have el:(1 :: Zs [r,m]).length=9:=by simp only[List.length_cons,ZB,List.length_nil]
  rw[el]at o7 ⊢
  have B7:Zg g.size g h7:=B6.trans (b7.mono B6.size)
  have Ii:=CF.trans (b7.mono CF.size)
  have x7:=B7.get (by omega) x4g
  have y7:=ZS x7 0
  have Ki:h.size+2<h7.size:=Za x7
  generalize Yk (1 :: Zs [r,m])=FR at *
  obtain⟨E,hE⟩:=Zy (JJ l n 9)
  rw[←hE]at o7 ⊢
  obtain⟨z,hz⟩:∃z:Int,z=if E=0 then n else 0:=⟨_,rfl⟩
  rw[←hz]
  obtain⟨pz,cz,rfl,_⟩:=o7.open
  have o7l:=o7
  simp -implicitDefEqProofs only[go_sem,↓reduceIte,B7,y7,Ki]
  refine⟨⟨_,rfl,?_⟩,Ii.Zl (by omega) _⟩
  exact (o7.ZT (by have:=B6.size;omega) _).mono (by have:=B6.size;omega)
 ·have uk:Zg g.size g (g.push (.cells (([r,m]:List Nat).map nv).toArray 3)):=Zg.push (Nat.le_refl _) _
  have si:NT (g.push (.cells (([r,m]:List Nat).map nv).toArray 3)) (.slice (some ⟨g.size,0,none⟩) 2 2) [r,m]:=UQ _ _
  refine (VK T _ _ [r,m] si (by simp) (by intro x hx;simp only[List.mem_cons,List.not_mem_nil,or_false]at hx;omega)).use ?_
  rintro w5 h5 ⟨o5,b5⟩
  have um:=uk.trans (b5.mono uk.size)
  have BB:Zg g.size g (h5.push (.cells (([1]:List Nat).map bv).toArray 5)):=um.Yh um.size _
  have o1:Z0 g.size 5 (h5.push (.cells (([1]:List Nat).map bv).toArray 5)) (.slice (some ⟨h5.size,0,none⟩) 1 1) [1]:=(Z0.made (by decide) (Nat.le_refl _)).mono um.size
  have s4:=o5.bs.Ya (Zg.push (Nat.le_refl h5.size) (.cells (([1]:List Nat).map bv).toArray 5))
  simp -implicitDefEqProofs only[go_sem,↓reduceIte,um,BB]
  refine Zw (E:=5) (B:=g.size) YC Tryz.underlying34 WH VA Vz o1 BB.size s4 (by rw[ZB];simp) ?_
  intro w6 h6 o6 b6 _
  have B6:Zg g.size g h6:=BB.trans b6
  have CF:=Bg.trans (B6.mono (by omega))
  have nC:Z0 g.size 5 h6 w6 (1 :: Zs [r,m]):=o6
  simp -implicitDefEqProofs only[go_sem,↓reduceIte,B6]
  refine (VJ T h6 _ w6 n l (1 :: Zs [r,m]) (s.Ya CF) hl nC.bs (by simp only[List.length_cons,ZB,List.length_nil];omega) (tk.Jy CF)).use ?_
  rintro _ h7 ⟨⟨w7,rfl,o7⟩,b7⟩
  have el:(1 :: Zs [r,m]).length=9:=by simp only[List.length_cons,ZB,List.length_nil]
  rw[el]at o7 ⊢
  have B7:Zg g.size g h7:=B6.trans (b7.mono B6.size)
  have Ii:=CF.trans (b7.mono CF.size)
  have x7:=B7.get (by omega) x4g
  have y7:=ZS x7 0
  have Ki:h.size+2<h7.size:=Za x7
  generalize Yk (1 :: Zs [r,m])=FR at *
  obtain⟨E,hE⟩:=Zy (JJ l n 9)
  rw[←hE]at o7 ⊢
  obtain⟨z,hz⟩:∃z:Int,z=if E=0 then n else 0:=⟨_,rfl⟩
  rw[←hz]
  obtain⟨pz,cz,rfl,_⟩:=o7.open
  have o7l:=o7
  simp -implicitDefEqProofs only[go_sem,↓reduceIte,B7,y7,Ki]
  refine⟨⟨_,rfl,?_⟩,Ii.Zl (by omega) _⟩
  exact (o7.ZT (by have:=B6.size;omega) _).mono (by have:=B6.size;omega)
theorem WT (n:Nat):XS n [Value.int .u8 0]=(List.replicate n 0).map bv:=by
 induction n with
 | zero=>rfl
 | succ n ih=>rw[XS,ih];rfl
theorem Kj:∀(vs zs:List Value),vs.length≤zs.length→Ys zs 0 vs=vs++zs.drop vs.length
 | [],zs,_=>by cases zs<;>rfl
 | v :: vs,[],h=>by simp at h
 | v :: vs,z :: zs,h=>by
  rw[Ys,Kj vs zs (by simpa using h)]
  rfl
theorem Du (key:List Nat):Ys ((List.replicate 64 0).map bv) 0 (((RQ key).map bv).take (min (RQ key).length 64))=(UI key).map bv:=by
 have:=WK key
 rw[Nat.min_eq_left this,List.take_of_length_le (by simp),Kj _ _ (by simp;omega),List.length_map,←List.map_drop,List.drop_replicate,UI,List.map_append]
theorem nE (T:World) (h:Hp) (v:Value) (key:List Nat) (w:Nat) (s:Bs h v key) (hk:key.length≤100000) (hw:w<256) (tk:Tk h) :
  Zd Tryz.prog T 83 #[v,.int .u8 w] h fun v' h'=>Z0 h.size 5 h' v' (Wr key w)∧Zg h.size h h':=by
 obtain⟨p,cp,rfl,UF⟩:=s.open
 have gz:S6 key:=s.byte
 refine Zd.Zj (args:=[_,_]) Tryz.func83 rfl rfl rfl rfl ?_
 by_cases e64:64<key.length
 ·have ZaF:64<(key.length:Int):=by omega
  have hK:Wq key=RQ key:=by unfold RQ;rw[if_pos e64]
  simp -implicitDefEqProofs only[go_sem,↓reduceIte,ZaF]
  refine (Fi T _ _ key s hk tk).use ?_
  rintro u g ⟨ou,bg⟩
  have su:=ou.bs
  rw[hK]at su
  simp -implicitDefEqProofs only[go_sem,↓reduceIte]
  have hG:Zg h.size h (g.push (.cells (XS 64 [Value.int .u8 0]).toArray 5)):=bg.add _
  have sK':=su.Ya (Zg.push (Nat.le_refl g.size) (.cells (XS 64 [Value.int .u8 0]).toArray 5))
  have kl:=WK key
  refine LG (o:=0) (dl:=64) (dc:=64) (c:=XS 64 [Value.int .u8 0]) (E':=5) YC WH Zb sK'.sl (V3 _) (by rw[WT];simp;omega) ?_
  rw[Wy,WT,Du]
  have bX:Zg h.size h (g.push (.cells ((UI key).map bv).toArray 5)):=bg.add _
  have Sc:(g.push (.cells ((UI key).map bv).toArray 5))[g.size]? = some (.cells (((Wr key w).take 0++(UI key).drop 0).map bv++[]).toArray 5):=by
   rw[List.take_zero,List.drop_zero,List.nil_append,List.append_nil];exact Zb
  simp -implicitDefEqProofs only[go_sem,↓reduceIte]
  refine VS.ZV (fun F' g'=>Zg h.size h g'∧F' 1=.int .u8 w∧F' 5=.slice (some ⟨g.size,0,none⟩) 64 64∧F' 17=.int .i64 64∧∃i:Nat,i≤64∧F' 18=.int .i64 i∧g'[g.size]? = some (.cells (((Wr key w).take i++(UI key).drop i).map bv++[]).toArray 5))
   (fun F _=>64-(vi (F 18)).toNat) rfl ⟨bX,rfl,rfl,rfl,0,by omega,rfl,Sc⟩ ?_
  clear hG bX Sc sK'
  rintro F g' ⟨hg,f1,f5,f17,i,hi,f18,hx⟩
  have T9:=Za hx
  have ue:((Wr key w).take i++(UI key).drop i).length=64:=by rw[List.length_append,List.length_take,List.length_drop,ZY,XW];omega
  by_cases ZD:i<64
  ·have ZL:(i:Int)<64:=by omega
   have q1:=ZK (f:=bv) hx (i:=i) (by omega)
   have e0:((Wr key w).take i++(UI key).drop i).getD i 0=(UI key).getD i 0:=by
    rw[List.getD_eq_getElem?_getD,List.getElem?_append_right (by rw[List.length_take,ZY];omega),List.length_take,ZY,Nat.min_eq_left (by omega),Nat.sub_self,List.getElem?_drop,Nat.add_zero,←List.getD_eq_getElem?_getD]
   rw[e0]at q1
   unfold bv at q1
   have eX:=Hq key w ZD
   have cs:=ZZ (f:=bv) hx (i:=i) (by omega) ((Wr key w).getD i 0) rfl
   rw[RT _ _ i (by rw[ZY];exact ZD) (by rw[ZY,XW])]at cs
   have hZb:=ZI (O9 gz) i
   have ox:Unit→Z9 .xor .u8 (((UI key).getD i 0:Nat):Int) (w:Int)=(((Wr key w).getD i 0:Nat):Int):=fun _=>by rw[eX];exact Gu _ _ hZb hw
   have jW:Jx g' ⟨g.size,i,none⟩ (.int .u8 (((Wr key w).getD i 0:Nat):Int))=_:=cs
   simp -implicitDefEqProofs only[go_sem,↓reduceIte,f1,f5,f17,f18,ZL,q1,ox (),jW]
   refine⟨⟨hg.Zl (bg.size) _,f1,f5,f17,i+1,ZD,rfl,ZR hx⟩,?_⟩
   simp only[vi,Zk,↓reduceIte,f18];omega
  ·have YJ:¬(i:Int)<64:=by omega
   obtain rfl:i=64:=by omega
   rw[List.take_of_length_le (by rw[ZY];omega),List.drop_of_length_le (by rw[XW];omega),List.append_nil,List.append_nil]at hx
   simp -implicitDefEqProofs only[go_sem,↓reduceIte,f5,f17,f18,YJ]
   exact⟨⟨.inr ⟨g.size,64,[],bg.size,by rw[ZY],by rw[List.append_nil];exact hx,by simp[ZY],by rw[ZY];rfl,by rw[ZY];omega⟩,Ho gz hw⟩,hg⟩
 ·have ZaF:¬64<(key.length:Int):=by omega
  have hK:RQ key=key:=by unfold RQ;rw[if_neg e64]
  have b0:=Zg.refl h.size h
  have su:=s
  have Oy:Bs h (.slice p (RQ key).length cp) (RQ key):=by rw[hK];exact s
  simp -implicitDefEqProofs only[go_sem,↓reduceIte,ZaF]
  have hG:Zg h.size h (h.push (.cells (XS 64 [Value.int .u8 0]).toArray 5)):=b0.add _
  have Dv:key.length=(RQ key).length:=by rw[hK]
  rw[Dv]
  have sK':=Oy.Ya (Zg.push (Nat.le_refl h.size) (.cells (XS 64 [Value.int .u8 0]).toArray 5))
  have kl:=WK key
  refine LG (o:=0) (dl:=64) (dc:=64) (c:=XS 64 [Value.int .u8 0]) (E':=5) YC WH Zb sK'.sl (V3 _) (by rw[WT];simp;omega) ?_
  rw[Wy,WT,Du]
  have bX:Zg h.size h (h.push (.cells ((UI key).map bv).toArray 5)):=b0.add _
  have Sc:(h.push (.cells ((UI key).map bv).toArray 5))[h.size]? = some (.cells (((Wr key w).take 0++(UI key).drop 0).map bv++[]).toArray 5):=by
   rw[List.take_zero,List.drop_zero,List.nil_append,List.append_nil];exact Zb
  simp -implicitDefEqProofs only[go_sem,↓reduceIte]
  refine VS.ZV (fun F' g'=>Zg h.size h g'∧F' 1=.int .u8 w∧F' 5=.slice (some ⟨h.size,0,none⟩) 64 64∧F' 17=.int .i64 64∧∃i:Nat,i≤64∧F' 18=.int .i64 i∧g'[h.size]? = some (.cells (((Wr key w).take i++(UI key).drop i).map bv++[]).toArray 5))
   (fun F _=>64-(vi (F 18)).toNat) rfl ⟨bX,rfl,rfl,rfl,0,by omega,rfl,Sc⟩ ?_
  clear hG bX Sc sK'
  rintro F g' ⟨hg,f1,f5,f17,i,hi,f18,hx⟩
  have T9:=Za hx
  have ue:((Wr key w).take i++(UI key).drop i).length=64:=by rw[List.length_append,List.length_take,List.length_drop,ZY,XW];omega
  by_cases ZD:i<64
  ·have ZL:(i:Int)<64:=by omega
   have q1:=ZK (f:=bv) hx (i:=i) (by omega)
   have e0:((Wr key w).take i++(UI key).drop i).getD i 0=(UI key).getD i 0:=by
    rw[List.getD_eq_getElem?_getD,List.getElem?_append_right (by rw[List.length_take,ZY];omega),List.length_take,ZY,Nat.min_eq_left (by omega),Nat.sub_self,List.getElem?_drop,Nat.add_zero,←List.getD_eq_getElem?_getD]
   rw[e0]at q1
   unfold bv at q1
   have eX:=Hq key w ZD
   have cs:=ZZ (f:=bv) hx (i:=i) (by omega) ((Wr key w).getD i 0) rfl
   rw[RT _ _ i (by rw[ZY];exact ZD) (by rw[ZY,XW])]at cs
   have hZb:=ZI (O9 gz) i
   have ox:Unit→Z9 .xor .u8 (((UI key).getD i 0:Nat):Int) (w:Int)=(((Wr key w).getD i 0:Nat):Int):=fun _=>by rw[eX];exact Gu _ _ hZb hw
   have jW:Jx g' ⟨h.size,i,none⟩ (.int .u8 (((Wr key w).getD i 0:Nat):Int))=_:=cs
   simp -implicitDefEqProofs only[go_sem,↓reduceIte,f1,f5,f17,f18,ZL,q1,ox (),jW]
   refine⟨⟨hg.Zl (b0.size) _,f1,f5,f17,i+1,ZD,rfl,ZR hx⟩,?_⟩
   simp only[vi,Zk,↓reduceIte,f18];omega
  ·have YJ:¬(i:Int)<64:=by omega
   obtain rfl:i=64:=by omega
   rw[List.take_of_length_le (by rw[ZY];omega),List.drop_of_length_le (by rw[XW];omega),List.append_nil,List.append_nil]at hx
   simp -implicitDefEqProofs only[go_sem,↓reduceIte,f5,f17,f18,YJ]
   exact⟨⟨.inr ⟨h.size,64,[],b0.size,by rw[ZY],by rw[List.append_nil];exact hx,by simp[ZY],by rw[ZY];rfl,by rw[ZY];omega⟩,Ho gz hw⟩,hg⟩
theorem AN (T:World) (h:Hp) (v u:Value) (key b:List Nat) (s:Bs h v key) (sb:Bs h u b) (hk:key.length≤10000) (hb:b.length≤10000) (tk:Tk h) :
  Zd Tryz.prog T 63 #[v,u] h fun v' h'=>Z0 h.size 5 h' v' (Na key b)∧Zg h.size h h':=by
 have sb0:=sb
 refine Zd.Zj (args:=[_,_]) Tryz.func63 rfl rfl rfl rfl ?_
 simp -implicitDefEqProofs only[go_sem,↓reduceIte]
 refine (nE T h v key 92 s (by omega) (by omega) tk).use ?_
 rintro v1 h1 ⟨o1,b1⟩
 have s1:=b1.size
 simp -implicitDefEqProofs only[go_sem,↓reduceIte]
 refine (nE T h1 v key 54 (s.Ya b1) (by omega) (by omega) (tk.Jy b1)).use ?_
 rintro v2 h2 ⟨o2,b2⟩
 have s2:=b2.size
 have B2:=b1.trans (b2.mono s1)
 have o1':=o1.Ya b2 (Nat.le_refl _)
 have l1:=ZY key 92
 have l2:=ZY key 54
 simp -implicitDefEqProofs only[go_sem,↓reduceIte]
 refine Zw (E:=5) (B:=h1.size) YC Tryz.underlying34 WH VA Vz o2 s2 (sb.Ya B2) (by rw[l2];omega) ?_
 intro v3 h3 o3 b3 _
 have s3:=b3.size
 have B3:=B2.trans (b3.mono s1)
 have Znf:=o1.Ya (b2.trans b3) (Nat.le_refl _)
 simp -implicitDefEqProofs only[go_sem,↓reduceIte]
 refine (Fi T h3 v3 _ o3.bs (by rw[List.length_append,l2];omega) (tk.Jy B3)).use ?_
 rintro v4 h4 ⟨o4,b4⟩
 have B4:=B3.trans (b4.mono (by omega))
 have o14:=Znf.Ya b4 (Nat.le_refl _)
 simp -implicitDefEqProofs only[go_sem,↓reduceIte]
 refine Zw (E:=5) (B:=h.size) YC Tryz.underlying34 WH VA Vz o14 B4.size o4.bs (by rw[l1,JF];omega) ?_
 intro v5 h5 o5 b5 _
 have B5:=B4.trans b5
 simp -implicitDefEqProofs only[go_sem,↓reduceIte]
 refine (Fi T h5 v5 _ o5.bs (by rw[List.length_append,l1,JF];omega) (tk.Jy B5)).use ?_
 rintro v6 h6 ⟨o6,b6⟩
 simp -implicitDefEqProofs only[go_sem,↓reduceIte]
 exact⟨o6.mono B5.size,B5.trans (b6.mono B5.size)⟩
def Kk (m n:Nat):Int:=if 256<m∨2000<n then 1 else 0
def nF (B:Nat) (h':Hp) (v':Value) (key b:List Nat):Prop:=∃w,v'=.tuple [w,.int .i64 (Kk key.length b.length)].toArray∧Z0 B 5 h' w (if Kk key.length b.length=0 then Na key b else [])
theorem gE (T:World) (h:Hp) (v u:Value) (key b:List Nat) (s:Bs h v key) (sb:Bs h u b) (tk:Tk h) :
  Zd Tryz.prog T 68 #[v,u] h fun v' h'=>nF h.size h' v' key b∧Zg h.size h h':=by
 obtain⟨p,cp,rfl,UF⟩:=s.open
 obtain⟨q,cq,rfl,Ha⟩:=sb.open
 refine Zd.Zj (args:=[_,_]) Tryz.func68 rfl rfl rfl rfl ?_
 unfold nF Kk
 by_cases e1:256<key.length
 ·have jD:256<(key.length:Int):=by omega
  rw[if_pos (.inl e1)]
  simp -implicitDefEqProofs only[go_sem,↓reduceIte,jD]
  exact⟨_,rfl,Z0.nil _ _ _⟩
 ·have jD:¬256<(key.length:Int):=by omega
  by_cases e2:2000<b.length
  ·have qJ:2000<(b.length:Int):=by omega
   rw[if_pos (.inr e2)]
   simp -implicitDefEqProofs only[go_sem,↓reduceIte,jD,qJ]
   exact⟨_,rfl,Z0.nil _ _ _⟩
  ·have qJ:¬2000<(b.length:Int):=by omega
   rw[if_neg (by omega)]
   simp -implicitDefEqProofs only[go_sem,↓reduceIte,jD,qJ]
   refine (AN T _ _ _ key b s sb (by omega) (by omega) tk).use ?_
   rintro w h1 ⟨o1,b1⟩
   simp -implicitDefEqProofs only[go_sem,↓reduceIte,b1]
   exact⟨_,rfl,o1⟩
theorem Dw (T:World) (h:Hp) (v u:Value) (key b:List Nat) (s:Bs h v key) (sb:Bs h u b) (hk:key.length≤256) (hb:b.length≤2000) (tk:Tk h) :
  Zd Tryz.prog T 43 #[v,u] h fun v' h'=>(Bs h' v' ((Na key b).take 16)∧Ta v')∧Zg h.size h h':=by
 refine Zd.Zj (args:=[_,_]) Tryz.func43 rfl rfl rfl rfl ?_
 simp -implicitDefEqProofs only[go_sem,↓reduceIte]
 refine (gE T _ _ _ key b s sb tk).use ?_
 rintro _ h1 ⟨⟨w,rfl,o1⟩,b1⟩
 have e0:Kk key.length b.length=0:=by unfold Kk;rw[if_neg (by omega)]
 rw[e0,if_pos rfl]at o1
 rw[e0]
 have ml:=WL key b
 generalize Na key b=M at *
 obtain⟨p,c,rfl,hc⟩:=o1.open
 have sM:=o1.bs
 obtain⟨p',c',hv,hh⟩:=sM.Uz
 simp only[Value.slice.injEq]at hv
 obtain⟨rfl,_,rfl⟩:=hv
 obtain⟨bb,ob,rfl,_⟩:=hh (by intro e;rw[e]at ml;cases ml)
 have fin:=Bs.S4 sM (m:=16) (by omega) c
 rw[ml]at hc ⊢
 have h16:(16:Int)≤(c:Int):=by omega
 have bF:¬c=0:=by omega
 simp -implicitDefEqProofs only[go_sem,↓reduceIte,h16,bF,Nat.sub_zero,Nat.zero_mul,b1]
 exact⟨fin,show 16≤c by omega⟩
def nG (c r u:Nat):List Nat:=[c,r]++XK u
def Dx (key:List Nat) (c r u:Nat):List Nat:=nG c r u++(Na key (nG c r u)).take 16
theorem Me (c r u:Nat):(nG c r u).length=6:=rfl
theorem Mf (key:List Nat) (c r u:Nat):(Dx key c r u).length=22:=by
 rw[Dx,List.length_append,Me,List.length_take,WL];rfl
def Wa (kl:Nat) (c r u:Int):Int:=if kl≠32 then 1 else XQ c r u
def AO (B:Nat) (h':Hp) (v':Value) (key:List Nat) (c r u:Int):Prop:=∃w,v'=.tuple [w,.int .i64 (Wa key.length c r u)].toArray∧Z0 B 5 h' w (if Wa key.length c r u=0 then Dx key c.toNat r.toNat u.toNat else [])
theorem Dy {c r u:Int} (h:XQ c r u=0):∃c' r' u':Nat,c=c'∧r=r'∧u=u'∧c'<8∧r'<8∧u'≤1048576:=by
 unfold XQ at h
 split at h
 ·cases h
 ·exact⟨c.toNat,r.toNat,u.toNat,by omega,by omega,by omega,by omega,by omega,by omega⟩
theorem nH (T:World) (h:Hp) (v:Value) (key:List Nat) (c r u:Int) (s:Bs h v key) (tk:Tk h) :
  Zd Tryz.prog T 72 #[v,.agg (Tc c r u).toArray] h fun v' h'=>AO h.size h' v' key c r u∧Zg h.size h h':=by
 obtain⟨p,cp,rfl,_⟩:=s.open
 refine Zd.Zj (args:=[_,_]) Tryz.func72 rfl rfl rfl rfl ?_
 unfold AO Tc
 by_cases hk:key.length=32
 case neg=>
  have ee:Wa key.length c r u=1:=by unfold Wa;rw[if_pos hk]
  have PS:¬(key.length:Int)=32:=by omega
  rw[ee]
  simp -implicitDefEqProofs only[go_sem,↓reduceIte,PS]
  exact⟨_,rfl,Z0.nil _ _ _⟩
 have PS:(key.length:Int)=32:=by omega
 have ee:Wa key.length c r u=XQ c r u:=by unfold Wa;rw[if_neg (by omega)]
 rw[ee]
 simp -implicitDefEqProofs only[go_sem,↓reduceIte,PS]
 refine (LP T _ c r u).use ?_
 rintro _ _ ⟨rfl,rfl⟩
 unfold Tc
 by_cases q:XQ c r u=0
 case neg=>
  simp -implicitDefEqProofs only[go_sem,↓reduceIte,q]
  exact⟨_,rfl,Z0.nil _ _ _⟩
 obtain⟨c,r,u,rfl,rfl,rfl,hc,hr,hu⟩:=Dy q
 rw[q]
 have ec:(c:Int)%256=(c:Int):=by omega
 have er:(r:Int)%256=(r:Int):=by omega
 simp only[Int.toNat_natCast]
 simp -implicitDefEqProofs only[go_sem,↓reduceIte,ec,er]
 obtain⟨h1,YD⟩:=Zy ((h.push (.cells [Value.int .i64 c,.int .i64 r,.int .i64 u].toArray 79)).push (.cells [Value.int .i64 c,.int .i64 r,.int .i64 u].toArray 79):Hp)
 have b1:Zg h.size h h1:=by rw[YD];exact ((Zg.refl _ _).add _).add _
 have s1:h1.size=h.size+1+1:=by rw[YD];simp
 rw[←s1,←YD]
 clear YD
 have I0:∀x∈[c,r],x<256:=by
  intro x hx
  simp only[List.mem_cons,List.not_mem_nil,or_false]at hx
  omega
 have o2:Z0 h1.size 5 (h1.push (.cells (([c,r]:List Nat).map bv).toArray 5)) (.slice (some ⟨h1.size,0,none⟩) 2 2) [c,r]:=Z0.made I0 (Nat.le_refl _)
 have B2:Zg h1.size h1 (h1.push (.cells (([c,r]:List Nat).map bv).toArray 5)):=Zg.push (Nat.le_refl _) _
 refine (bU T _ h1.size _ [c,r] u o2 (by simp) (by simp) (by omega)).use ?_
 rintro w3 h3 ⟨o3,b3⟩
 have B3:=B2.trans b3
 have jC:Zg h.size h h3:=b1.trans (B3.mono (by omega))
 have o3':Z0 h1.size 5 h3 w3 (nG c r u):=o3
 have gl:=Me c r u
 unfold Dx
 generalize nG c r u=G at *
 simp -implicitDefEqProofs only[go_sem,↓reduceIte]
 rw[←PS]
 refine (Dw T h3 _ w3 key G (s.Ya jC) o3'.bs (by omega) (by omega) (tk.Jy jC)).use ?_
 rintro w4 h4 ⟨⟨s4,_⟩,b4⟩
 have s3:=B3.size
 have o34:=o3'.Ya b4 (Nat.le_refl _)
 have Bh4:=jC.trans (b4.mono jC.size)
 simp -implicitDefEqProofs only[go_sem,↓reduceIte]
 refine Zw (E:=5) (B:=h1.size) YC Tryz.underlying34 WH VA Vz o34 (by have:=b4.size;omega) s4 (by rw[gl,List.length_take];omega) ?_
 intro w5 h5 o5 b5 _
 have Bh5:=Bh4.trans (b5.mono (by omega))
 simp -implicitDefEqProofs only[go_sem,↓reduceIte,Bh5]
 exact⟨_,rfl,o5.mono (by omega)⟩
def Fj:List Value:=Tc 0 0 0
def JK (key l:List Nat):Int:=if key.length≠32∨l.length≠22 then 1 else if (Na key (l.take 6)).take 16≠l.drop 6 then 6 else XQ (l.getD 0 0:Nat) (l.getD 1 0:Nat) (Y8 l 2:Nat)
def Fk (key l:List Nat):List Value:=if JK key l=0 then Tc (l.getD 0 0:Nat) (l.getD 1 0:Nat) (Y8 l 2:Nat) else Fj
theorem Kl (T:World) (h:Hp) (v u:Value) (key l:List Nat) (s:Bs h v key) (sl:Bs h u l) (cu:Ta u) (tk:Tk h) :
  Zd Tryz.prog T 23 #[v,u] h fun v' h'=>v'=.tuple [.agg (Fk key l).toArray,.int .i64 (JK key l)].toArray∧Zg h.size h h':=by
 obtain⟨p,cp,rfl,_⟩:=s.open
 obtain⟨q,cq,rfl,hq⟩:=sl.Uz
 refine Zd.Zj (args:=[_,_]) Tryz.func23 rfl rfl rfl rfl ?_
 by_cases hk:key.length=32
 case neg=>
  have ee:JK key l=1:=by unfold JK;rw[if_pos (.inl hk)]
  have PS:¬(key.length:Int)=32:=by omega
  unfold Fk
  rw[ee]
  unfold Fj Tc
  simp +contextual -implicitDefEqProofs only[go_sem,↓reduceIte,PS]
  (repeat' (first|exact Zg.refl _ _|assumption|refine Zg.add ?_ _|refine Zg.Zl ?_ (by first|omega|(simp;omega)) _|refine Zg.trans (by assumption) ?_))
 have PS:(key.length:Int)=32:=by omega
 by_cases hl:l.length=22
 case neg=>
  have ee:JK key l=1:=by unfold JK;rw[if_pos (.inr hl)]
  have Cx:¬(l.length:Int)=22:=by omega
  unfold Fk
  rw[ee]
  unfold Fj Tc
  simp +contextual -implicitDefEqProofs only[go_sem,↓reduceIte,PS,Cx]
  (repeat' (first|exact Zg.refl _ _|assumption|refine Zg.add ?_ _|refine Zg.Zl ?_ (by first|omega|(simp;omega)) _|refine Zg.trans (by assumption) ?_))
 have Cx:(l.length:Int)=22:=by omega
 obtain⟨b,o,rfl,hb,YV⟩:=hq (by intro e;rw[e]at hl;cases hl)
 have QB:22≤cq:=by have:l.length≤cq:=cu;omega
 have h6c:(6:Int)≤(cq:Int):=by omega
 have bF:¬cq=0:=by omega
 have hc6:¬cq=6:=by omega
 obtain⟨y0,fS⟩:∃y:Int,y=((l.getD 0 0:Nat):Int):=⟨_,rfl⟩
 obtain⟨y1',G8⟩:∃y:Int,y=((l.getD 1 0:Nat):Int):=⟨_,rfl⟩
 obtain⟨y2',hy2⟩:∃y:Int,y=((l.getD 2 0:Nat):Int):=⟨_,rfl⟩
 obtain⟨y3,hy3⟩:∃y:Int,y=((l.getD 3 0:Nat):Int):=⟨_,rfl⟩
 obtain⟨y4,hy4⟩:∃y:Int,y=((l.getD 4 0:Nat):Int):=⟨_,rfl⟩
 obtain⟨y5,hy5⟩:∃y:Int,y=((l.getD 5 0:Nat):Int):=⟨_,rfl⟩
 obtain⟨yY,hyY⟩:∃y:Int,y=((Y8 l 2:Nat):Int):=⟨_,rfl⟩
 have z0:=ZI sl.byte 0
 have z1:=ZI sl.byte 1
 have z2:=ZI sl.byte 2
 have z3:=ZI sl.byte 3
 have z4:=ZI sl.byte 4
 have z5:=ZI sl.byte 5
 have eo:Unit→Z9 .or .i64 (Z9 .or .i64 (Z9 .or .i64 (YE .i64 y2' 24) (YE .i64 y3 16)) (YE .i64 y4 8)) y5=yY:=fun _=>by
  rw[hy2,hy3,hy4,hy5,hyY];exact GP z2 z3 z4 z5
 have yb:(0≤y0∧y0<256)∧(0≤y1'∧y1'<256)∧(0≤y2'∧y2'<256)∧(0≤y3∧y3<256)∧(0≤y4∧y4<256)∧(0≤y5∧y5<256):=by
  rw[fS,G8,hy2,hy3,hy4,hy5];omega
 obtain⟨⟨ya1,ya2⟩,⟨ya3,ya4⟩,⟨ya5,ya6⟩,⟨ya7,ya8⟩,⟨ya9,Zyp⟩,Zyq,Zyr⟩:=yb
 have ee:JK key l=if (Na key (l.take 6)).take 16≠l.drop 6 then 6 else XQ y0 y1' yY:=by
  rw[fS,G8,hyY];unfold JK;rw[if_neg (by omega)]
 have eT:Fk key l=if JK key l=0 then Tc y0 y1' yY else Fj:=by rw[fS,G8,hyY];rfl
 have gF:∀i,i<22→V.hc h ⟨b,o+i,none⟩=some (.int .u8 (l.getD i 0:Nat)):=fun i hi=>YV i (by omega)
 have q0:=gF 0 (by omega)
 have q1:=gF 1 (by omega)
 have q2:=gF 2 (by omega)
 have q3:=gF 3 (by omega)
 have q4:=gF 4 (by omega)
 have q5:=gF 5 (by omega)
 rw[←fS]at q0
 rw[←G8]at q1
 rw[←hy2]at q2
 rw[←hy3]at q3
 rw[←hy4]at q4
 rw[←hy5]at q5
 obtain⟨h1,YD⟩:=Zy (h.push (.cells Fj.toArray 79):Hp)
 have b1:Zg h.size h h1:=by rw[YD];exact Zg.push (Nat.le_refl _) _
 have s1:h1.size=h.size+1:=by rw[YD];simp
 have x1:h1[h.size]? = some (.cells Fj.toArray 79):=by rw[YD];exact Zb
 have e1:h.push (.cells #[Value.int .i64 0,.int .i64 0,.int .i64 0] 79)=h1:=YD.symm
 rw[hl]at sl YV ⊢
 simp -implicitDefEqProofs only[go_sem,↓reduceIte,PS,Cx]
 rw[e1]
 clear e1 YD
 have sl1:=sl.Ya b1
 have s61:Bs h1 (.slice (some ⟨b,o,none⟩) 6 cq) (l.take 6):=by
  rw[←hl]at sl1;exact Bs.S4 sl1 (by omega) cq
 have t6:(l.take 6).length≤2000:=by rw[List.length_take];omega
 obtain⟨M,hM⟩:=Zy ((Na key (l.take 6)).take 16)
 have ml:M.length≤140737488355328:=by rw[hM,List.length_take];omega
 rw[←hM]at ee
 refine VS.mono (N:=fun F g=>Zg h1.size h1 g∧F 1=.slice (some ⟨b,o,none⟩) 22 cq∧F 4=.pointer (some ⟨h.size,0,none⟩)∧F 24=.bool (!decide (M=l.drop 6))) ?_ ?_ (fun _ _ _ h=>h) (fun _ _ h=>h)
 ·refine VS.w (h1.size) [] (.q 0 (.q 1 (.q 2 (.q 4 (.q 5 (.s 3 (.s 6 (.q 7 .nil)))))))) mixed (by kernel_rfl) ?_
  simp -implicitDefEqProofs only[go_sem,↓reduceIte,h6c,bF,hc6,Nat.sub_zero,Nat.zero_mul]
  rw[←PS]
  refine (Dw T h1 _ _ key (l.take 6) (s.Ya b1) s61 (by omega) t6 (tk.Jy b1)).use ?_
  rintro w h2 ⟨⟨s2,_⟩,b2⟩
  rw[←hM]at s2
  have sl2:=Tn (sl1.Ya b2) (k:=6) (by omega) hl (cq-6)
  simp -implicitDefEqProofs only[go_sem,↓reduceIte,b2]
  refine (GN T h2 w _ M (l.drop 6) s2 sl2 ml).pure ?_
  simp -implicitDefEqProofs only[go_sem,↓reduceIte,b2]
 rintro F g ⟨bg,f1,f4,f24⟩
 have Bg:=b1.trans (bg.mono (by omega))
 have k0:g[h.size]? = some (.cells Fj.toArray 79):=bg.get (by omega) x1
 have k1:rd g ⟨h.size,0,none⟩ 3=some Fj:=Zp k0 rfl
 have k2:=ZS k0 0
 have T9:=Za k0
 clear hM
 unfold Fj Tc at *
 by_cases hm:M=l.drop 6
 case neg=>
  have hd:decide (M=l.drop 6)=false:=decide_eq_false hm
  rw[hd]at f24
  rw[if_pos hm]at ee
  rw[eT,ee]
  simp +contextual -implicitDefEqProofs only[go_sem,↓reduceIte,f1,f4,f24,k1,k2]
  exact Bg.Zl (Nat.le_refl _) _
 have hd:decide (M=l.drop 6)=true:=decide_eq_true hm
 rw[hd]at f24
 rw[if_neg (fun hn=>hn hm)]at ee
 have e0:V.hc g ⟨b,o,none⟩=some (.int .u8 y0):=by rw[Bg.hc (by exact hb)];exact q0
 have e1:V.hc g ⟨b,o+1,none⟩=some (.int .u8 y1'):=by rw[Bg.hc (by exact hb)];exact q1
 have e2:V.hc g ⟨b,o+2,none⟩=some (.int .u8 y2'):=by rw[Bg.hc (by exact hb)];exact q2
 have e3:V.hc g ⟨b,o+3,none⟩=some (.int .u8 y3):=by rw[Bg.hc (by exact hb)];exact q3
 have e4:V.hc g ⟨b,o+4,none⟩=some (.int .u8 y4):=by rw[Bg.hc (by exact hb)];exact q4
 have e5:V.hc g ⟨b,o+5,none⟩=some (.int .u8 y5):=by rw[Bg.hc (by exact hb)];exact q5
 rw[eT,ee]
 clear fS G8 hy2 hy3 hy4 hy5 hyY
 have hbg:b<g.size:=Nat.lt_of_lt_of_le hb Bg.size
 simp -implicitDefEqProofs only[go_sem,↓reduceIte,f1,f4,f24]
 refine VS.w (g.size) [32] (.q 0 (.q 1 (.q 2 (.q 3 (.q 4 (.q 5 (.q 6 (.q 7 (.q 8 (.q 9 (.q 10 (.q 11 (.q 12 (.q 13 (.q 14 (.q 15 (.q 16 (.q 17 (.q 18 (.q 19 (.q 20 (.q 21 (.q 22 (.q 23 (.q 24 (.q 25 (.q 26 (.q 27 (.q 28 (.q 29 (.q 30 (.s 31 (.w 32 .nil))))))))))))))))))))))))))))))))) mixed (by kernel_rfl) ?_
 simp -implicitDefEqProofs only[go_sem,↓reduceIte,f1,f4,hbg,e0,e1,e2,e3,e4,e5,eo ()]
 refine (LP T _ y0 y1' yY).use ?_
 rintro _ _ ⟨rfl,rfl⟩
 unfold Tc
 obtain⟨E,hE⟩:=Zy (XQ y0 y1' yY)
 rw[←hE]
 by_cases q:E=0
 ·rw[if_pos q]
  simp +contextual -implicitDefEqProofs only[go_sem,↓reduceIte,q,f1,f4,k1,k2,T9]
  (repeat' (first|exact Zg.refl _ _|assumption|refine Zg.add ?_ _|refine Zg.Zl ?_ (by first|omega|(simp;omega)) _|refine Zg.trans (by assumption) ?_))
 ·rw[if_neg q]
  simp +contextual -implicitDefEqProofs only[go_sem,↓reduceIte,q,f1,f4,k1,k2,T9]
  (repeat' (first|exact Zg.refl _ _|assumption|refine Zg.add ?_ _|refine Zg.Zl ?_ (by first|omega|(simp;omega)) _|refine Zg.trans (by assumption) ?_))
def XL (s a i:Nat) (n:Int):Int:=if 256<s∨256<a∨256<i∨n<0∨512<n then 1 else 0
theorem gG {p:Option Addr} {m c k c' b:Nat} (h:ZO (.slice p m c)=some b) (hc:c'≠0):ZO (.slice p k c')=some b:=by
 cases p with
 | none=>simp[ZO]at h
 | some a=>
  simp only[ZO]at h ⊢
  split at h
  ·cases h
  ·rw[if_neg hc];exact h
theorem nI {p:Option Addr} {m c b:Nat} (h:ZO (.slice p m c)=some b):c≠0:=by
 cases p with
 | none=>simp[ZO]at h
 | some a=>
  simp only[ZO]at h
  split at h
  ·cases h
  ·assumption
def cO (B:Nat) (h':Hp) (v':Value) (XB Ws info:List Nat) (n:Int):Prop:=∃w,v'=.tuple [w,.int .i64 (XL XB.length Ws.length info.length n)].toArray∧Ta w∧Bs h' w (if XL XB.length Ws.length info.length n=0 then L5 XB Ws info n.toNat else [])∧∀b,ZO w=some b→B≤b
theorem Km (T:World) (h:Hp) (vs va vi':Value) (XB Ws info:List Nat) (n:Int) (ss:Bs h vs XB) (sa:Bs h va Ws) (si:Bs h vi' info) (tk:Tk h) :
  Zd Tryz.prog T 36 #[vs,va,vi',.int .i64 n] h fun v' h'=>cO h.size h' v' XB Ws info n∧Zg h.size h h':=by
 obtain⟨p1,c1,rfl,_⟩:=ss.open
 obtain⟨p2,c2,rfl,_⟩:=sa.open
 obtain⟨p3,c3,rfl,_⟩:=si.open
 refine Zd.Zj (args:=[_,_,_,_]) Tryz.func36 rfl rfl rfl rfl ?_
 unfold cO
 by_cases e1:256<XB.length
 ·have jD:256<(XB.length:Int):=by omega
  have ee:XL XB.length Ws.length info.length n=1:=by unfold XL;rw[if_pos (.inl e1)]
  rw[ee]
  simp -implicitDefEqProofs only[go_sem,↓reduceIte,jD]
  exact⟨_,rfl,Nat.le_refl _,(Z0.nil 0 5 _).bs,fun b hb=>by simp[ZO]at hb⟩
 have jD:¬256<(XB.length:Int):=by omega
 by_cases e2:256<Ws.length
 ·have qJ:256<(Ws.length:Int):=by omega
  have ee:XL XB.length Ws.length info.length n=1:=by unfold XL;rw[if_pos (.inr (.inl e2))]
  rw[ee]
  simp -implicitDefEqProofs only[go_sem,↓reduceIte,jD,qJ]
  exact⟨_,rfl,Nat.le_refl _,(Z0.nil 0 5 _).bs,fun b hb=>by simp[ZO]at hb⟩
 have qJ:¬256<(Ws.length:Int):=by omega
 by_cases e3:256<info.length
 ·have e3':256<(info.length:Int):=by omega
  have ee:XL XB.length Ws.length info.length n=1:=by unfold XL;rw[if_pos (.inr (.inr (.inl e3)))]
  rw[ee]
  simp -implicitDefEqProofs only[go_sem,↓reduceIte,jD,qJ,e3']
  exact⟨_,rfl,Nat.le_refl _,(Z0.nil 0 5 _).bs,fun b hb=>by simp[ZO]at hb⟩
 have e3':¬256<(info.length:Int):=by omega
 by_cases e4:n<0
 ·have ee:XL XB.length Ws.length info.length n=1:=by unfold XL;rw[if_pos (.inr (.inr (.inr (.inl e4))))]
  rw[ee]
  simp -implicitDefEqProofs only[go_sem,↓reduceIte,jD,qJ,e3',e4]
  exact⟨_,rfl,Nat.le_refl _,(Z0.nil 0 5 _).bs,fun b hb=>by simp[ZO]at hb⟩
 by_cases e5:512<n
 ·have ee:XL XB.length Ws.length info.length n=1:=by unfold XL;rw[if_pos (.inr (.inr (.inr (.inr e5))))]
  rw[ee]
  simp -implicitDefEqProofs only[go_sem,↓reduceIte,jD,qJ,e3',e4,e5]
  exact⟨_,rfl,Nat.le_refl _,(Z0.nil 0 5 _).bs,fun b hb=>by simp[ZO]at hb⟩
 have ee:XL XB.length Ws.length info.length n=0:=by unfold XL;rw[if_neg (by omega)]
 obtain⟨m,rfl⟩:∃m:Nat,n=m:=⟨n.toNat,by omega⟩
 rw[ee,Int.toNat_natCast]
 simp -implicitDefEqProofs only[go_sem,↓reduceIte,jD,qJ,e3',e4,e5]
 refine (AN T _ _ _ Ws XB sa ss (by omega) (by omega) tk).use ?_
 rintro vk h1 ⟨ok,b1⟩
 have s1:=b1.size
 obtain⟨key,uo⟩:=Zy (Na Ws XB)
 rw[←uo]at ok
 have kl:key.length=32:=by rw[uo];exact WL _ _
 have hm:m≤512:=by omega
 have eS:L5 XB Ws info m=(WM key info 16).take m:=by rw[L5,uo]
 have dt:∀i,m≤32*i→i≤16→(WM key info 16).take m=(WM key info i).take m:=fun i h1 h2=>L4 key info m i 16 h1 h2
 rw[eS]
 clear eS uo
 simp -implicitDefEqProofs only[go_sem,↓reduceIte]
 refine VS.ZV (fun F g=>Zg h1.size h1 g∧F 2=.slice p3 info.length c3∧F 3=.int .i64 m∧F 10=vk∧∃i:Nat,32*i<m+32∧F 13=.int .i64 ((i+1:Nat):Int)∧Z0 h1.size 5 g (F 11) (WM key info i)∧Z0 h1.size 5 g (F 12) (Ro key info i)∧∀b,ZO (F 12)=some b→¬ZO (F 11)=some b)
  (fun F _=>m+32-AL (F 11)) rfl ⟨Zg.refl _ _,rfl,rfl,rfl,0,by omega,rfl,Z0.nil _ _ _,Z0.nil _ _ _,fun b hb=>by cases hb⟩ ?_
 rintro F g ⟨hg,f2,f3,f10,i,hi,f13,oa,ot,Zfd⟩
 have T9:=hg.size
 have Bg:=b1.trans (hg.mono s1)
 obtain⟨pa,ca,f11,hca⟩:=oa.open
 have al:=UJ key info i
 rw[al]at f11 hca
 by_cases ZD:32*i<m
 ·have ZL:((32*i:Nat):Int)<(m:Int):=by omega
  have tl:=mJ key info i
  have i16:i≤16:=by omega
  have eT:Ro key info (i+1)=Na key (Ro key info i++info++[(i+1)%256]):=rfl
  have eA:WM key info (i+1)=WM key info i++Ro key info (i+1):=rfl
  obtain⟨lt,hlT⟩:∃x,x=Ro key info i:=⟨_,rfl⟩
  rw[←hlT]at ot tl eT
  have SA:(i+1)%256<256:=Nat.mod_lt _ (by decide)
  obtain⟨X,hX⟩:=Zy ((i+1)%256)
  rw[←hX]at eT SA
  have ex:((i+1:Nat):Int)%256=(X:Int):=by rw[hX];rfl
  clear hX hlT
  obtain⟨xi,xp⟩:∃x:Int,x=((i+1:Nat):Int):=⟨_,rfl⟩
  rw[←xp]at ex f13
  simp -implicitDefEqProofs only[go_sem,↓reduceIte,f2,f3,f10,f11,f13,ZL,ex]
  refine Qa (E:=5) (B:=h1.size) YC Tryz.underlying34 WH VA Vz ot T9 (si.Ya Bg) (by omega) ?_
  intro w2 g2 o2 b2 bt2 bk2
  have s2:=b2.size
  have oa2:=oa.Lv bt2 (fun b hb e=>Zfd b e hb)
  have ol2:(lt++info).length≤400:=by rw[List.length_append];omega
  have Zni:∀b,ZO w2=some b→¬ZO (F 11)=some b:=fun b hb e=>by
   rcases bk2 b hb with q|q
   ·exact Zfd b q e
   ·have:=oa.own.lt b e;omega
  simp -implicitDefEqProofs only[go_sem,↓reduceIte,f2,f3,f10,f13,ex]
  refine Qa (E:=5) (B:=h1.size) YC Tryz.underlying34 WH VA Vz (o2.push _) (by simp;omega) (Bs.one SA 1) (by simp only[List.length_singleton];omega) ?_
  intro w3 g3 o3 b3 bt3 bk3
  have s3:=b3.size
  simp only[Array.size_push]at s3 bk3
  have oa3:=(oa2.push (.cells [Value.int .u8 ((X:Nat):Int)].toArray 5)).Lv bt3 (fun b hb e=>Zni b e hb)
  have Bg3:Zg h1.size h1 g3:=((hg.trans b2).Yh (by omega) _).trans b3
  have B3:=b1.trans (Bg3.mono s1)
  have ok3:=ok.Ya Bg3 (Nat.le_refl _)
  simp -implicitDefEqProofs only[go_sem,↓reduceIte,f2,f3,f10,f13]
  refine (AN T g3 vk w3 key _ ok3.bs o3.bs (by omega) (by rw[List.length_append];simp only[List.length_singleton];omega) (tk.Jy B3)).use ?_
  rintro w4 g4 ⟨o4,b4⟩
  rw[←eT]at o4
  have s4:=b4.size
  have oa4:=oa3.Ya b4 (Nat.le_refl _)
  have Bg4:=Bg3.trans (b4.mono (by omega))
  rw[f11]at oa4
  have tl1:=Tf key info i
  simp -implicitDefEqProofs only[go_sem,↓reduceIte,f2,f3,f10,f11,f13]
  refine Qa (E:=5) (B:=h1.size) YC Tryz.underlying34 WH VA Vz oa4 Bg4.size o4.bs (by rw[al,tl1];omega) ?_
  intro w5 g5 o5 b5 bt5 bk5
  have s5:=b5.size
  obtain⟨p5,c5,rfl,_⟩:=o5.open
  have ZaH:∀b,ZO w4=some b→¬ZO (F 11)=some b:=fun b hb e=>by
   have q1:=o4.own.ZF b hb
   have q2:=oa3.own.lt b e
   omega
  rw[f11]at ZaH
  have o4':=(o4.mono (show h1.size≤g3.size by omega)).Lv bt5 (fun b hb e=>ZaH b hb e)
  simp -implicitDefEqProofs only[go_sem,↓reduceIte,f2,f3,f10,f13]
  refine⟨⟨Bg4.trans b5,f2,f3,f10,i+1,by omega,?_,?_,o4',fun b hb e=>?_⟩,?_⟩
  ·show Value.int .i64 _=_
   rw[xp];rfl
  ·rw[eA];exact o5
  ·have e':ZO (Value.slice p5 (WM key info i++Ro key info (i+1)).length c5)=some b:=e
   rcases bk5 b e' with q|q
   ·exact ZaH b hb q
   ·have:=o4.own.lt b hb;omega
  ·simp only[AL,Zk,↓reduceIte,Nat.reduceEqDiff,f11,List.length_append,al,tl1];omega
 ·have YJ:¬((32*i:Nat):Int)<(m:Int):=by omega
  have e6:=dt i (by omega) (by omega)
  rw[e6]
  have oab:=oa.bs
  have oaB:=oa.own.ZF
  rw[f11]at oab oaB
  rw[←al]at oab
  have jt:(m:Int)≤(ca:Int):=by omega
  have hm0:(0:Int)≤(m:Int):=by omega
  have fin:=Bs.S4 oab (m:=m) (by rw[al];omega) m
  simp -implicitDefEqProofs only[go_sem,↓reduceIte,f2,f3,f11,YJ,jt,hm0,Bg]
  exact⟨_,rfl,Nat.le_refl _,fin,fun b hb=>Nat.le_trans (by omega) (oaB b (gG hb (by have:=nI hb;omega)))⟩
def Zfe (bf:List Nat) (k c s n v:Int) (a b:Nat):List Nat:=((bf++Zs [k.toNat,c.toNat,s.toNat,n.toNat,v.toNat])++XK a)++XK b
def Zff (bf:List Nat) (k c s n v:Int) (a b:Nat):List Nat:=Wq (Zfe bf k c s n v a b)
structure Qu where
 k:Int
 c:Int
 s:Int
 n:Int
 v:Int
structure Etv where
 x:Qu
 a:Int
 b:Int
 sum:List Nat
structure Chn where
 cs:List Value
 sum:List Nat
 out:List Etv
def VL (cs:List Value) (x:Qu):Zep:=U9 cs x.k.toNat x.c.toNat x.s.toNat x.n.toNat x.v.toNat
def Oz (cs:List Value) (x:Qu):Int:=NY cs x.k x.c x.s x.n x.v
def Znn (cs:List Value) (sum:List Nat) (x:Qu):List Nat:=Zff sum x.k x.c x.s x.n x.v (VL cs x).code.toNat (VL cs x).val.toNat
theorem gH {cs:List Value} {x:Qu} (h:Oz cs x=0):QC cs=false∧YM x.k x.c x.s x.n x.v=0:=by
 unfold Oz NY at h
 split at h
 ·cases h
 ·rename_i q
  exact⟨by simpa using q,h⟩
theorem Dz:∀{ks:List (Option IntKind)} {vs:List Value} (i:Nat) {k:Option IntKind},Yy ks vs=true→ks[i]? = some k→∃v,nth vs i=some v∧Uv k v=true:=by
 intro ks
 induction ks with
 | nil=>intro vs i k _ h;simp at h
 | cons a ks ih=>
  intro vs i k hf hk
  cases vs with
  | nil=>simp[Yy]at hf
  | cons x vs=>
   simp only[Yy,Bool.and_eq_true]at hf
   cases i with
   | zero=>simp only[List.getElem?_cons_zero,Option.some.injEq]at hk;subst hk;exact⟨x,rfl,hf.1⟩
   | succ i=>exact ih i hf.2 (by simpa using hk)
theorem AP {cs:List Value} (hf:Yy X2 cs=true):∀i,i<32→nth cs i=some (.int .i64 (ci cs i)):=by
 intro i hi
 have:∀i<32,X2[i]? = some (some .i64):=by decide
 obtain⟨v,h1,h2⟩:=Dz i hf (this i hi)
 unfold ci
 rw[h1]
 cases v<;>simp[Uv]at h2
 rw[h2]
theorem DA {cs:List Value} (hf:Yy X2 cs=true):∀i,32≤i→i<40→nth cs i=some (.bool (cb cs i)):=by
 intro i h1 h2
 have:∀j<8,X2[32+j]? = some none:=by decide
 have e:=this (i-32) (by omega)
 rw[show 32+(i-32)=i by omega]at e
 obtain⟨v,h1,h2⟩:=Dz i hf e
 unfold cb
 rw[h1]
 cases v<;>simp[Uv]at h2
 rfl
def nJ (st:Chn) (e:Etv):Prop:=¬Oz st.cs e.x=0∨¬((VL st.cs e.x).code=e.a∧(VL st.cs e.x).val=e.b)∨¬Znn st.cs st.sum e.x=e.sum
instance (st:Chn) (e:Etv):Decidable (nJ st e):=by unfold nJ;infer_instance
variable {Q Q':Value→List Nat→Prop}
end Go.Proofs.YtpomedigibbeeaaGreatDoor
namespace Go.Proofs.YtpomedigibbeeaaGreatDoor
open Go Go.V
set_option linter.unusedSimpArgs false
set_option linter.unusedVariables false
set_option maxRecDepth 100000
theorem uq {cs:List Value} (hf:Yy X2 cs=true) (x:Qu):∃(D:List Value) (a b:Int),doL cs x.k x.c x.s x.n x.v=[.agg D.toArray,.agg [.int .i64 a,.int .i64 b].toArray,.int .i64 (Oz cs x)]∧Yy X2 D=true∧(Oz cs x=0→D=(VL cs x).cells∧a=(VL cs x).code∧b=(VL cs x).val):=by
 unfold doL Oz VL
 by_cases e:NY cs x.k x.c x.s x.n x.v=0
 ·rw[if_pos e]
  refine⟨_,_,_,by rw[e],?_,fun _=>⟨rfl,rfl,rfl⟩⟩
  have e2:YM x.k x.c x.s x.n x.v=0:=(gH (cs:=cs) (x:=x) e).2
  obtain⟨k,c,s,n,v,e1,e2,e3,e4,e5,y1,y2,y3,y4,y5⟩:=Tm e2
  rw[e1,e2,e3,e4,e5]
  exact fV hf _ _ _ _ _ (by simpa using y4) (by simpa using y2)
 ·rw[if_neg e]
  exact⟨_,_,_,rfl,rfl,fun h=>absurd h e⟩
end Go.Proofs.YtpomedigibbeeaaGreatDoor
