/- One block of the digest: what the document computes; no condition but those in the statements. -/
import Derived.Test.YtkfhncfkagcamaaGreatDoorTab
import Derived.Test.YtkfhncfkagcamaaGreatDoorW18
import Derived.Test.YtkfhncfkagcamaaGreatDoorBytes
import Derived.Test.YtkfhncfkagcamaaGreatDoorTape
import Derived.Test.YtkfhncfkagcamaaGreatDoorW12
import Derived.Test.YtkfhncfkagcamaaGreatDoorPik
import Derived.Test.YtkfhncfkagcamaaGreatDoorLchks
import Derived.Test.YtkfhncfkagcamaaGreatDoorW14
import Derived.Test.YtkfhncfkagcamaaGreatDoorVst
namespace Go.Proofs.YtkfhncfkagcamaaGreatDoor
open Go Go.V
set_option linter.unusedSimpArgs false
set_option linter.unusedVariables false
set_option maxRecDepth 100000
abbrev NT (h:Hp) (v:Value) (l:List Nat):Prop:=Ts (fun x=>[nv x]) 1 h v l
theorem XD (T:World) (h:Hp) (x n:Nat) (hx:x<4294967296) (hn:n≤32) :
  Zc Tryz.prog T 117 #[.int .u32 x,.int .i64 n] h fun v' h'=>v'=.int .u32 (rr x n:Nat)∧h'=h:=by
 refine Zc.Zi (args:=[_,_]) Tryz.func117 rfl rfl rfl rfl ?_
 have e1:=Mr x (32-n) (by omega)
 have e2:=QO x n hn
 have e3:(32:Int)-n=((32-n:Nat):Int):=by omega
 have e4:=Tq (x/2 ^ n) (x*2 ^ (32-n)%4294967296) (Nat.lt_of_le_of_lt (Nat.div_le_self _ _) hx) (by omega)
 have e5:¬(n:Int)<0:=by omega
 have e6:¬((32-n:Nat):Int)<0:=by omega
 have e7:=aq hx (show 32-n≤32 by omega)
 rw[show 32-(32-n)=n by omega,Nat.or_comm]at e7
 rw[e7]at e4
 unfold rr
 simp +contextual -implicitDefEqProofs only[go_sem,↓reduceIte]
 refine VS.q mixed (by kernel_rfl) ?_
 simp +contextual -implicitDefEqProofs only[go_sem,↓reduceIte,e3,e1,e2,e4,e5,e6]
theorem qU {a b c d:Nat} (ha:a<256) (hb:b<256) (hc:c<256) (hd:d<256) :
  Z7 .or .u32 (Z7 .or .u32 (Z7 .or .u32 (Yx .u32 a 24) (Yx .u32 b 16)) (Yx .u32 c 8)) d=((a*16777216+b*65536+c*256+d:Nat):Int):=by
 have sb:∀{x k:Nat},x<256→k≤24→Yx .u32 (x:Int) (k:Int)=((x*2 ^ k:Nat):Int):=by
  intro x k hx hk
  rw[Mr x k (by omega),Nat.mod_eq_of_lt]
  have:2 ^ k≤2 ^ 24:=Nat.pow_le_pow_right (by omega) hk
  have h2:x*2 ^ k≤255*2 ^ 24:=Nat.mul_le_mul (by omega) this
  omega
 have e1:Yx .u32 (a:Int) 24=((a*16777216:Nat):Int):=sb (k:=24) ha (by omega)
 have e2:Yx .u32 (b:Int) 16=((b*65536:Nat):Int):=sb (k:=16) hb (by omega)
 have e3:Yx .u32 (c:Int) 8=((c*256:Nat):Int):=sb (k:=8) hc (by omega)
 have f1:a*16777216 ||| b*65536=a*16777216+b*65536:=JJ (k:=24) (by omega) (by omega)
 have f2:(a*16777216+b*65536) ||| c*256=a*16777216+b*65536+c*256:=JJ (k:=16) (by omega) (by omega)
 rw[e1,e2,e3,Tq _ _ (by omega) (by omega),f1,Tq _ _ (by omega) (by omega),f2,Tq _ _ (by omega) (by omega),JJ (k:=8) (by omega) (by omega)]
theorem Rp (xs zs:List Nat) (i:Nat) (hi:i<xs.length) (hz:xs.length=zs.length):(xs.take i++zs.drop i).set i (xs.getD i 0)=xs.take (i+1)++zs.drop (i+1):=by
 rw[List.getD_eq_getElem?_getD,List.getElem?_eq_getElem hi]
 exact Oh xs zs i hi hz
def PJ (b:List Nat) (i:Nat):List Nat:=JR b i++List.replicate (64-i) 0
theorem Q3 {b:List Nat} {i:Nat} (hi:i≤64):(PJ b i).length=64:=by simp[PJ,XN];omega
theorem eG {b:List Nat} {i j:Nat} (hj:j<i):(PJ b i).getD j 0=(JR b i).getD j 0:=by
 rw[PJ,List.getD_eq_getElem?_getD,List.getElem?_append_left (by rw[XN];exact hj),←List.getD_eq_getElem?_getD]
theorem ln {b:List Nat} {i:Nat} (hi:i<64):(PJ b i).set i (H5 b (JR b i))=PJ b (i+1):=by
 rw[PJ,List.set_append_right _ _ (by rw[XN];exact Nat.le_refl _),XN,Nat.sub_self,show 64-i=(64-(i+1))+1 by omega,List.replicate_succ,List.set_cons_zero,PJ,JR,List.append_assoc]
 rfl
theorem eH (b:List Nat):PJ b 64=JR b 64:=by simp[PJ]
theorem IU {b:List Nat} (hb:Sz b) {i j:Nat}:(JR b i).getD j 0<4294967296:=(Lo hb i).getD j
theorem EE (T:World) (h:Hp) (bd:Nat) (d:List Nat) (v:Value) (b:List Nat) (hd:d.length=8) (wd:Sj d) (sb:Bs h v b) (hb:b.length=64) (tk:FE 1 wv kN h)
  (hx:h[bd]? = some (.cells (d.map wv++[]).toArray 189)) (hg:1≠bd) :
  Zc Tryz.prog T 100 #[.pointer (some ⟨bd,0,none⟩),v] h fun v' h'=>VB (some bd) h h'∧h'[bd]? = some (.cells ((FU d b).map wv++[]).toArray 189):=by
 obtain⟨p,c,rfl,Ur⟩:=sb.Uk
 obtain⟨bb,ob,rfl,UP,YO⟩:=Ur (by intro e;subst e;simp at hb)
 have eI:Sz b:=sb.byte
 refine Zc.Zi (args:=[_,_]) Tryz.func100 rfl rfl rfl rfl ?_
 rw[hb]
 have Bc:=Za hx
 have b0:Zg h.size h (h.push (.cells (XM 64 [Value.int .u32 0]).toArray 206)):=Zg.push (Nat.le_refl _) _
 have x0:∀A:Array Value,A=((PJ b 0).map wv).toArray→(h.push (.cells A 206))[h.size]? = some (.cells ((PJ b 0).map wv++[]).toArray 206):=by
  rintro _ rfl;rw[List.append_nil];exact Zb
 simp -implicitDefEqProofs only[go_sem,↓reduceIte]
 refine VS.ZW (fun F g=>Zg h.size h g∧F 0=.pointer (some ⟨bd,0,none⟩)∧F 1=.slice (some ⟨bb,ob,none⟩) 64 c∧F 4=.pointer (some ⟨h.size,0,none⟩)∧∃i:Nat,i≤64∧F 16=.int .i64 i∧g[h.size]? = some (.cells ((PJ b i).map wv++[]).toArray 206))
  (fun F _=>64-(vi (F 16)).toNat) rfl ⟨b0,rfl,rfl,rfl,0,by omega,rfl,by exact x0 _ (by rfl)⟩ ?_
 clear b0 x0
 rintro F g ⟨aK,f0,f1,f4,i,hi,f16,hw⟩
 have hws:=Za hw
 by_cases ZC:i<64
 ·have ZL:(i:Int)<64:=by omega
  have fin:∀X:Nat,X=H5 b (JR b i)→Jh g ⟨h.size,i,none⟩ (.int .u32 (X:Nat))=some (g.setIfInBounds h.size (.cells ((PJ b (i+1)).map wv++[]).toArray 206)):=by
   intro X hX
   have:=Z0 (f:=wv) hw (i:=i) (by rw[Q3 hi];exact ZC) X rfl
   rw[hX,ln ZC]at this
   rw[hX];exact this
  by_cases xY:i<16
  ·have yj:(i:Int)<16:=by omega
   have g0:∀j,j<64→hc g ⟨bb,ob+j,none⟩=some (.int .u8 (b.getD j 0:Nat)):=fun j hj=>by rw[aK.hc (by exact UP)];exact YO j (by omega)
   have e0:=g0 (4*i) (by omega)
   have e1:=g0 (4*i+1) (by omega)
   have e2:=g0 (4*i+2) (by omega)
   have e3:=g0 (4*i+3) (by omega)
   have y0:=ZH eI (4*i)
   have y1:=ZH eI (4*i+1)
   have y2:=ZH eI (4*i+2)
   have y3:=ZH eI (4*i+3)
   have t0:(4*(i:Int)).toNat=4*i:=by omega
   have t1:(4*(i:Int)+1).toNat=4*i+1:=by omega
   have t2:(4*(i:Int)+2).toNat=4*i+2:=by omega
   have t3:(4*(i:Int)+3).toNat=4*i+3:=by omega
   have eo:=fun (_:Unit)=>qU y0 y1 y2 y3
   rw[show b.getD (4*i) 0*16777216+b.getD (4*i+1) 0*65536+b.getD (4*i+2) 0*256+b.getD (4*i+3) 0=Xu b (4*i) from rfl]at eo
   have m0:((b.getD (4*i) 0:Nat):Int)%4294967296=(b.getD (4*i) 0:Nat):=by omega
   have m1:((b.getD (4*i+1) 0:Nat):Int)%4294967296=(b.getD (4*i+1) 0:Nat):=by omega
   have m2:((b.getD (4*i+2) 0:Nat):Int)%4294967296=(b.getD (4*i+2) 0:Nat):=by omega
   have m3:((b.getD (4*i+3) 0:Nat):Int)%4294967296=(b.getD (4*i+3) 0:Nat):=by omega
   have cs:=fin (Xu b (4*i)) (by unfold H5;rw[XN,if_pos xY])
   simp -implicitDefEqProofs only[go_sem,↓reduceIte,f0,f1,f4,f16,ZL,yj]
   refine VS.w (g.size) [35] (.q 0 (.q 1 (.q 2 (.q 3 (.q 4 (.q 5 (.q 6 (.q 7 (.q 8 (.q 9 (.q 10 (.q 11 (.q 12 (.q 13 (.q 14 (.q 15 (.q 16 (.q 17 (.q 18 (.q 19 (.q 20 (.q 21 (.q 22 (.q 23 (.q 24 (.q 25 (.q 26 (.q 27 (.q 28 (.q 29 (.q 30 (.q 31 (.q 32 (.q 33 (.q 34 (.w 35 .nil)))))))))))))))))))))))))))))))))))) mixed (by kernel_rfl) ?_
   have Zlm:bb<g.size:=Nat.lt_of_lt_of_le UP aK.size
   simp -implicitDefEqProofs only[go_sem,↓reduceIte,f0,f1,f4,f16,e0,e1,e2,e3,t0,t1,t2,t3,m0,m1,m2,m3,eo (),Zlm,cs]
   refine⟨⟨aK.Zm (Nat.le_refl _) _,f0,f1,f4,i+1,ZC,rfl,ZQ hw⟩,?_⟩
   simp only[vi,Zl,↓reduceIte,f16];omega
  ·have yj:¬(i:Int)<16:=by omega
   have q1:=ZK hw (i:=i-15) (by rw[Q3 hi];omega)
   have q2:=ZK hw (i:=i-2) (by rw[Q3 hi];omega)
   have q3:=ZK hw (i:=i-16) (by rw[Q3 hi];omega)
   have q4:=ZK hw (i:=i-7) (by rw[Q3 hi];omega)
   rw[eG (by omega)]at q1 q2 q3 q4
   have eX:H5 b (JR b i)=((JR b i).getD (i-16) 0+sg0 ((JR b i).getD (i-15) 0)+(JR b i).getD (i-7) 0+sg1 ((JR b i).getD (i-2) 0))%4294967296:=by
    unfold H5;rw[XN,if_neg xY]
   have cs:=fin (H5 b (JR b i)) rfl
   have hA:(JR b i).getD (i-15) 0<4294967296:=IU eI
   have hC:(JR b i).getD (i-2) 0<4294967296:=IU eI
   rw[eX]at cs
   generalize (JR b i).getD (i-15) 0=A at *
   generalize (JR b i).getD (i-2) 0=C at *
   generalize (JR b i).getD (i-16) 0=E1 at *
   generalize (JR b i).getD (i-7) 0=E2 at *
   unfold wv at q1 q2 q3 q4
   have t1:((i:Int)-15).toNat=i-15:=by omega
   have t2:((i:Int)-2).toNat=i-2:=by omega
   have t3:((i:Int)-16).toNat=i-16:=by omega
   have t4:((i:Int)-7).toNat=i-7:=by omega
   have s1:Unit→Xa .u32 (A:Int) 3=((A/8:Nat):Int):=fun _=>QO A 3 (by decide)
   have s2:Unit→Xa .u32 (C:Int) 10=((C/1024:Nat):Int):=fun _=>QO C 10 (by decide)
   have o1:=fun (_:Unit)=>Jy (rr A 7) (rr A 18) (Qy hA) (Qy hA)
   have o2:Unit→Z7 .xor .u32 ((rr A 7 ^^^ rr A 18:Nat):Int) ((A/8:Nat):Int)=((sg0 A:Nat):Int):=fun _=>Jy _ _ (UO (Qy hA) (Qy hA)) (FP hA)
   have o3:=fun (_:Unit)=>Jy (rr C 17) (rr C 19) (Qy hC) (Qy hC)
   have o4:Unit→Z7 .xor .u32 ((rr C 17 ^^^ rr C 19:Nat):Int) ((C/1024:Nat):Int)=((sg1 C:Nat):Int):=fun _=>Jy _ _ (UO (Qy hC) (Qy hC)) (FP hC)
   generalize sg0 A=S0 at *
   generalize sg1 C=S1 at *
   have e5:((((E1:Int)+(E2:Int))%4294967296+(S0:Int))%4294967296+(S1:Int))%4294967296=(((E1+S0+E2+S1)%4294967296:Nat):Int):=by clear cs fin;omega
   simp -implicitDefEqProofs only[go_sem,↓reduceIte,f0,f1,f4,f16,ZL,yj]
   refine VS.q mixed (by kernel_rfl) ?_
   simp -implicitDefEqProofs only[go_sem,↓reduceIte,f0,f1,f4,f16,q1,q2,t1,t2]
   refine VS.w (h.size+1) [29] (.q 0 (.q 1 (.q 2 (.q 3 (.q 4 (.q 5 (.q 6 (.q 7 (.q 8 (.q 9 (.q 10 (.q 11 (.q 12 (.q 13 (.q 14 (.q 15 (.q 16 (.q 17 (.q 18 (.q 19 (.q 20 (.q 21 (.q 22 (.q 23 (.q 24 (.q 25 (.q 26 (.q 27 (.q 28 (.w 29 .nil)))))))))))))))))))))))))))))) mixed (by kernel_rfl) ?_
   simp -implicitDefEqProofs only[go_sem,↓reduceIte,f0,f1,f4,f16,q3,q4,t3,t4,e5]
   refine Jz (fun h=>XD T h A 7 hA (by omega)) ?_
   simp -implicitDefEqProofs only[go_sem,↓reduceIte,f0,f1,f4,f16,o1 (),o2 (),o3 (),o4 (),s1 (),s2 (),e5]
   refine Jz (fun h=>XD T h A 18 hA (by omega)) ?_
   simp -implicitDefEqProofs only[go_sem,↓reduceIte,f0,f1,f4,f16,o1 (),o2 (),o3 (),o4 (),s1 (),s2 (),e5]
   refine Jz (fun h=>XD T h C 17 hC (by omega)) ?_
   simp -implicitDefEqProofs only[go_sem,↓reduceIte,f0,f1,f4,f16,o1 (),o2 (),o3 (),o4 (),s1 (),s2 (),e5]
   refine Jz (fun h=>XD T h C 19 hC (by omega)) ?_
   simp -implicitDefEqProofs only[go_sem,↓reduceIte,f0,f1,f4,f16,o1 (),o2 (),o3 (),o4 (),s1 (),s2 (),e5,cs]
   refine⟨⟨aK.Zm (Nat.le_refl _) _,f0,f1,f4,i+1,ZC,rfl,ZQ hw⟩,?_⟩
   simp only[vi,Zl,↓reduceIte,f16];omega
 ·have YF:¬(i:Int)<64:=by omega
  obtain rfl:i=64:=by omega
  rw[eH]at hw
  have gQ:=aK.get Bc hx
  have r0:rd g ⟨bd,0,none⟩ 8=some (d.map wv):=by rw[List.append_nil]at gQ;exact Zq gQ (by simp[hd])
  have l8:(d.map wv).length=8:=by simp[hd]
  have yk:(d.map wv).all Z8=true:=by simp[wv,Z8]
  obtain⟨DV,hDV⟩:=ZA (d.map wv)
  rw[←hDV]at r0 l8 yk
  have lp:Yn [Value.int .u32 0,Value.int .u32 0,Value.int .u32 0,Value.int .u32 0,Value.int .u32 0,Value.int .u32 0,Value.int .u32 0,Value.int .u32 0] 0 DV=DV:=ZO l8
  simp -implicitDefEqProofs only[go_sem,↓reduceIte,f0,f1,f4,f16,YF,r0,l8,yk,lp]
  rw[hDV]
  have SU:=aK.size
  have hB:Zg h.size h (g.push (.cells (d.map wv).toArray 189)):=aK.add _
  have To:Zg g.size g (g.push (.cells (d.map wv).toArray 189)):=Zg.push (Nat.le_refl _) _
  have hv0:(g.push (.cells (d.map wv).toArray 189))[g.size]? = some (.cells ((JS b d 0).map wv++[]).toArray 189):=by
   rw[List.append_nil];exact Zb
  refine VS.ZW (fun F' g'=>Zg g.size g g'∧F' 0=.pointer (some ⟨bd,0,none⟩)∧F' 4=.pointer (some ⟨h.size,0,none⟩)∧F' 8=.pointer (some ⟨g.size,0,none⟩)∧∃i:Nat,i≤64∧F' 97=.int .i64 i∧g'[g.size]? = some (.cells ((JS b d i).map wv++[]).toArray 189))
   (fun F _=>64-(vi (F 97)).toNat) rfl ⟨To,f0,f4,rfl,0,by omega,rfl,hv0⟩ ?_
  clear f0 f1 f4 f16 YF hi ZC hv0 hB To r0 l8 yk lp hDV DV F
  rintro F g2 ⟨Qt,f0,f4,f8,i,hi,f97,hv⟩
  have lq:=Za hv
  obtain⟨v8,w8⟩:=TC (b:=b) hd wd i
  obtain⟨a,b',c',d',e,f,g',k',nQ⟩:=eight v8
  by_cases ZC:i<64
  ·have ZL:(i:Int)<64:=by omega
   have qV:JS b d (i+1)=[(upw e f g' k' (kN.getD i 0) ((JR b 64).getD i 0)+bg0 a+dx a b' c')%4294967296,a,b',c',(d'+upw e f g' k' (kN.getD i 0) ((JR b 64).getD i 0))%4294967296,e,f,g']:=by
    rw[show JS b d (i+1)=j5 (JS b d i) (kN.getD i 0) ((JR b 64).getD i 0) from rfl,nQ];rfl
   have hK:kN.getD i 0<4294967296:=xt.getD i
   have hW:(JR b 64).getD i 0<4294967296:=(Lo eI 64).getD i
   have k1:V.hc g2 ⟨1,i,none⟩=some (.int .u32 (kN.getD i 0:Nat)):=by
    rw[Qt.hc (by have:=tk.1;show (1:Nat)<g.size;omega),aK.hc (by exact tk.1)];exact tk.2 i ZC
   have w1:V.hc g2 ⟨h.size,i,none⟩=some (.int .u32 ((JR b 64).getD i 0:Nat)):=by
    rw[Qt.hc (by exact hws)];exact ZK hw (by rw[XN];exact ZC)
   rw[nQ]at hv w8
   have n0:V.hc g2 ⟨g.size,0,none⟩=some (.int .u32 (a:Nat)):=ZK hv (i:=0) (by simp)
   have n1:V.hc g2 ⟨g.size,1,none⟩=some (.int .u32 (b':Nat)):=ZK hv (i:=1) (by simp)
   have n2:V.hc g2 ⟨g.size,2,none⟩=some (.int .u32 (c':Nat)):=ZK hv (i:=2) (by simp)
   have n3:V.hc g2 ⟨g.size,3,none⟩=some (.int .u32 (d':Nat)):=ZK hv (i:=3) (by simp)
   have n4:V.hc g2 ⟨g.size,4,none⟩=some (.int .u32 (e:Nat)):=ZK hv (i:=4) (by simp)
   have n5:V.hc g2 ⟨g.size,5,none⟩=some (.int .u32 (f:Nat)):=ZK hv (i:=5) (by simp)
   have n6:V.hc g2 ⟨g.size,6,none⟩=some (.int .u32 (g':Nat)):=ZK hv (i:=6) (by simp)
   have n7:V.hc g2 ⟨g.size,7,none⟩=some (.int .u32 (k':Nat)):=ZK hv (i:=7) (by simp)
   have ha:a<4294967296:=w8 a (by simp)
   have XZ:b'<4294967296:=w8 b' (by simp)
   have hc':c'<4294967296:=w8 c' (by simp)
   have hd':d'<4294967296:=w8 d' (by simp)
   have he:e<4294967296:=w8 e (by simp)
   have hf:f<4294967296:=w8 f (by simp)
   have Er:g'<4294967296:=w8 g' (by simp)
   have RX:k'<4294967296:=w8 k' (by simp)
   generalize kN.getD i 0=K at *
   generalize (JR b 64).getD i 0=W at *
   have o1:=fun (_:Unit)=>Jy (rr e 6) (rr e 11) (Qy he) (Qy he)
   have o2:Unit→Z7 .xor .u32 ((rr e 6 ^^^ rr e 11:Nat):Int) ((rr e 25:Nat):Int)=((xq e:Nat):Int):=fun _=>Jy _ _ (UO (Qy he) (Qy he)) (Qy he)
   have o3:=fun (_:Unit)=>Jy (rr a 2) (rr a 13) (Qy ha) (Qy ha)
   have o4:Unit→Z7 .xor .u32 ((rr a 2 ^^^ rr a 13:Nat):Int) ((rr a 22:Nat):Int)=((bg0 a:Nat):Int):=fun _=>Jy _ _ (UO (Qy ha) (Qy ha)) (Qy ha)
   have c0:Unit→(if IntKind.u32.signed=true then (-1:Int) else IntKind.u32.max)=4294967295:=fun _=>rfl
   have c1:=fun (_:Unit)=>RV e f he hf
   have c2:=fun (_:Unit)=>qp he
   have c3:=fun (_:Unit)=>RV (4294967295-e) g' (FQ e) Er
   have c4:=fun (_:Unit)=>xr (f:=f) he Er
   have m1:=fun (_:Unit)=>RV a b' ha XZ
   have m2:=fun (_:Unit)=>RV a c' ha hc'
   have m3:=fun (_:Unit)=>RV b' c' XZ hc'
   have m4:=fun (_:Unit)=>Jy (a &&& b') (a &&& c') (Qm ha) (Qm ha)
   have m5:=fun (_:Unit)=>qq (c:=c') ha XZ
   have eU:upw e f g' k' K W=(k'+xq e+chw e f g'+K+W)%4294967296:=rfl
   generalize upw e f g' k' K W=U at *
   generalize xq e=S1 at *
   generalize bg0 a=S0 at *
   generalize chw e f g'=CH at *
   generalize dx a b' c'=MJ at *
   have e1:Unit→(((((k':Int)+(S1:Int))%4294967296+(CH:Int))%4294967296+(K:Int))%4294967296+(W:Int))%4294967296=(U:Int):=fun _=>by omega
   have e2:Unit→((S0:Int)+(MJ:Int))%4294967296=(((S0+MJ)%4294967296:Nat):Int):=fun _=>by omega
   have e3:Unit→((U:Int)+(((S0+MJ)%4294967296:Nat):Int))%4294967296=(((U+S0+MJ)%4294967296:Nat):Int):=fun _=>by omega
   have e4:Unit→((d':Int)+(U:Int))%4294967296=(((d'+U)%4294967296:Nat):Int):=fun _=>by omega
   simp -implicitDefEqProofs only[go_sem,↓reduceIte,f0,f4,f8,f97,ZL]
   refine VS.q mixed (by kernel_rfl) ?_
   simp -implicitDefEqProofs only[go_sem,↓reduceIte,f0,f4,f8,f97,n0,n4]
   refine VS.q mixed (by kernel_rfl) ?_
   simp -implicitDefEqProofs only[go_sem,↓reduceIte,f0,f4,f8,f97,n7,n4]
   refine QD (XD T _ e 6 he (by omega)) ?_
   simp -implicitDefEqProofs only[go_sem,↓reduceIte,f8]
   refine QD (XD T _ e 11 he (by omega)) ?_
   simp -implicitDefEqProofs only[go_sem,↓reduceIte,f8]
   refine QD (XD T _ e 25 he (by omega)) ?_
   simp -implicitDefEqProofs only[go_sem,↓reduceIte,f4,f8,f97,ZL,o1 (),o2 (),n5,n6,c0 (),c1 (),c2 (),c3 (),c4 (),k1,w1,e1 ()]
   refine VS.mono (N:=fun F' g'=>g2=g'∧F' 0=.pointer (some ⟨bd,0,none⟩)∧F' 4=.pointer (some ⟨h.size,0,none⟩)∧F' 8=.pointer (some ⟨g.size,0,none⟩)∧F' 97=.int .i64 i∧F' 10=.int .u32 (a:Nat)∧F' 11=.int .u32 (e:Nat)∧F' 12=.int .u32 (U:Nat)∧F' 13=.int .u32 (((S0+MJ)%4294967296:Nat):Int)) ?_ ?_ (fun _ _ _ h=>h) (fun _ _ h=>h)
   ·refine VS.q mixed (by kernel_rfl) ?_
    simp -implicitDefEqProofs only[go_sem,↓reduceIte,f8]
    refine QD (XD T _ a 2 ha (by omega)) ?_
    simp -implicitDefEqProofs only[go_sem,↓reduceIte,f8]
    refine QD (XD T _ a 13 ha (by omega)) ?_
    simp -implicitDefEqProofs only[go_sem,↓reduceIte,f8]
    refine QD (XD T _ a 22 ha (by omega)) ?_
    simp -implicitDefEqProofs only[go_sem,↓reduceIte,f0,f4,f8,f97,o3 (),o4 (),n1,n2,m1 (),m2 (),m3 (),m4 (),m5 (),e2 ()]
   clear f0 f4 f8 f97 F
   rintro F _ ⟨rfl,f0,f4,f8,f97,f10,f11,f12,f13⟩
   have hvE:g2[g.size]? = some (.cells [Value.int .u32 a,.int .u32 b',.int .u32 c',.int .u32 d',.int .u32 e,.int .u32 f,.int .u32 g',.int .u32 k'].toArray 189):=hv
   have y2:=ZR hvE 0
   obtain⟨xU,hxU⟩:∃x:Int,x=(U:Int):=⟨_,rfl⟩
   obtain⟨xD,hxD⟩:∃x:Int,x=(((S0+MJ)%4294967296:Nat):Int):=⟨_,rfl⟩
   obtain⟨x0,TJ⟩:∃x:Int,x=(((U+S0+MJ)%4294967296:Nat):Int):=⟨_,rfl⟩
   obtain⟨x4,DK⟩:∃x:Int,x=(((d'+U)%4294967296:Nat):Int):=⟨_,rfl⟩
   have E3:Unit→(xU+xD)%4294967296=x0:=fun _=>by rw[hxU,hxD,TJ];exact e3 ()
   have E4:Unit→((d':Int)+xU)%4294967296=x4:=fun _=>by rw[hxU,DK];exact e4 ()
   rw[←hxU]at f12
   rw[←hxD]at f13
   simp -implicitDefEqProofs only[go_sem,↓reduceIte,f0,f4,f8,f97,f10,f11,f12,f13,n1,n2,n3,n5,n6,E3 (),E4 (),y2]
   refine⟨⟨Qt.Zm (Nat.le_refl _) _,f0,f4,f8,i+1,ZC,rfl,?_⟩,?_⟩
   ·rw[qV,TJ,DK];exact ZQ hv
   ·simp only[vi,Zl,↓reduceIte,f97];omega
  ·have YF:¬(i:Int)<64:=by omega
   obtain rfl:i=64:=by omega
   have r0:rd g2 ⟨g.size,0,none⟩ 8=some ((JS b d 64).map wv):=by rw[List.append_nil]at hv;exact Zq hv (by simp[v8])
   have hB:VB (some bd) h g2:=by
    have q1:=aK.trans (Qt.mono aK.size)
    exact⟨q1.size,fun k hk _=>q1.block k hk⟩
   have gQ:g2[bd]? = some (.cells (((Ti d (JS b d 64)).take 0++d.drop 0).map wv++[]).toArray 189):=by
    rw[List.take_zero,List.drop_zero,List.nil_append]
    exact (aK.trans (Qt.mono aK.size)).get Bc hx
   have hal:=TD hd v8
   simp -implicitDefEqProofs only[go_sem,↓reduceIte,f0,f8,f97,YF,r0]
   refine VS.ZW (fun F' g'=>VB (some bd) h g'∧F' 0=.pointer (some ⟨bd,0,none⟩)∧F' 177=.agg ((JS b d 64).map wv).toArray∧∃i:Nat,i≤8∧F' 178=.int .i64 i∧g'[bd]? = some (.cells (((Ti d (JS b d 64)).take i++d.drop i).map wv++[]).toArray 189))
    (fun F _=>8-(vi (F 178)).toNat) rfl ⟨hB,f0,rfl,0,by omega,rfl,gQ⟩ ?_
   clear f0 f4 f8 f97 YF hi ZC hv gQ hB r0 F
   rintro F g3 ⟨hB,f0,f177,i,hi,f178,gQ⟩
   have Zlq:=Za gQ
   have qW:((Ti d (JS b d 64)).take i++d.drop i).length=8:=by rw[Wj _ _ _ (by omega) (by omega),hal]
   by_cases ZC:i<8
   ·have ZL:(i:Int)<8:=by omega
    have n1:nth ((JS b d 64).map wv) i=some (.int .u32 ((JS b d 64).getD i 0:Nat)):=by
     rw[Yk,List.getElem?_map,List.getD_eq_getElem?_getD,List.getElem?_eq_getElem (by omega)];rfl
    have q1:=ZK gQ (i:=i) (by omega)
    have e0:((Ti d (JS b d 64)).take i++d.drop i).getD i 0=d.getD i 0:=by
     rw[List.getD_eq_getElem?_getD,List.getElem?_append_right (by rw[List.length_take];omega),List.length_take,Nat.min_eq_left (by omega),Nat.sub_self,List.getElem?_drop,Nat.add_zero,←List.getD_eq_getElem?_getD]
    rw[e0]at q1
    unfold wv at q1
    have eX:=dy hd v8 ZC
    have cs:=Z0 (f:=wv) gQ (i:=i) (by omega) ((Ti d (JS b d 64)).getD i 0) rfl
    rw[Rp _ _ i (by omega) (by omega)]at cs
    have iy:Jh g3 ⟨bd,i,none⟩ (.int .u32 (((Ti d (JS b d 64)).getD i 0:Nat):Int))=_:=cs
    rw[eX]at iy
    generalize d.getD i 0=D at *
    generalize (JS b d 64).getD i 0=V at *
    have e1:((D:Int)+(V:Int))%4294967296=(((D+V)%4294967296:Nat):Int):=by omega
    simp -implicitDefEqProofs only[go_sem,↓reduceIte,f177,f178,ZL,n1]
    refine VS.w (g3.size) [9] (.q 0 (.q 1 (.q 2 (.q 3 (.q 4 (.q 5 (.q 6 (.q 7 (.q 8 (.w 9 .nil)))))))))) mixed (by kernel_rfl) ?_
    simp -implicitDefEqProofs only[go_sem,↓reduceIte,f0,f177,f178,q1,e1,Zlq,iy,ZL]
    refine⟨⟨?_,f0,f177,i+1,ZC,rfl,ZQ gQ⟩,?_⟩
    ·exact⟨by rw[Array.size_setIfInBounds];exact hB.size,fun k hk Ys=>by rw[Array.getElem?_setIfInBounds,if_neg (by intro e;exact Ys (by rw[e])),hB.block k hk Ys]⟩
    ·simp only[vi,Zl,↓reduceIte,f178];omega
   ·have YF:¬(i:Int)<8:=by omega
    obtain rfl:i=8:=by omega
    have e9:(Ti d (JS b d 64)).take 8++d.drop 8=FU d b:=by
     rw[List.take_of_length_le (by omega),List.drop_of_length_le (by omega),List.append_nil];rfl
    rw[e9]at gQ
    simp -implicitDefEqProofs only[go_sem,↓reduceIte,f178,YF]
    exact⟨hB,gQ⟩
def BK:Value→Nat
 | .slice _ n _=>n
 | _=>0
def KZ (n:Nat):List Nat:=0 :: 0 :: 0 :: 0 :: Qx (8*n)
theorem Nt (n:Nat):(KZ n).length=8:=rfl
theorem eJ (n:Nat):Sz (KZ n):=by
 intro x hx
 simp only[KZ,List.mem_cons]at hx
 rcases hx with rfl|rfl|rfl|rfl|hx
 ·omega
 ·omega
 ·omega
 ·omega
 ·exact UN _ x hx
theorem qX {n k:Nat} (hn:n≤100000) (hk:k<8):Xa .i64 ((8*n:Nat):Int) ((56-8*k:Nat):Int)%256=(((KZ n).getD k 0:Nat):Int):=by
 rw[VI _ _ (by omega)]
 rcases k with _|_|_|_|_|_|_|_|k
 ·show ((8*n/2 ^ 56:Nat):Int)%256=((0:Nat):Int)
  rw[Nat.div_eq_of_lt (by omega)];rfl
 ·show ((8*n/2 ^ 48:Nat):Int)%256=((0:Nat):Int)
  rw[Nat.div_eq_of_lt (by omega)];rfl
 ·show ((8*n/2 ^ 40:Nat):Int)%256=((0:Nat):Int)
  rw[Nat.div_eq_of_lt (by omega)];rfl
 ·show ((8*n/2 ^ 32:Nat):Int)%256=((0:Nat):Int)
  rw[Nat.div_eq_of_lt (by omega)];rfl
 ·rfl
 ·rfl
 ·rfl
 ·show ((8*n/2 ^ 0:Nat):Int)%256=((8*n%256:Nat):Int)
  rw[Nat.pow_zero,Nat.div_one];rfl
 ·omega
theorem qY {x bp op m c:Nat} {h h':Hp} {l:List Nat} (s:Bs h (.slice (some ⟨bp,op,none⟩) m c) l) (a:VB (some x) h h') (Ys:bp≠x):Bs h' (.slice (some ⟨bp,op,none⟩) m c) l:=by
 obtain⟨⟨p,cap,hv,hl,hc⟩,hb⟩:=s
 simp only[Value.slice.injEq]at hv
 obtain⟨rfl,hm,rfl⟩:=hv
 refine⟨⟨_,_,by rw[hm],hl,fun hn=>?_⟩,hb⟩
 obtain⟨b,o,hp,YO⟩:=hc hn
 simp only[Option.some.injEq,Addr.mk.injEq,and_true]at hp
 obtain⟨rfl,rfl⟩:=hp
 refine⟨_,_,rfl,fun i hi=>?_⟩
 have h1:=YO i hi
 have h2:=QU h1
 unfold V.hc at h1 ⊢
 rw[a.block _ h2 (by intro e;exact Ys (Option.some.inj e).symm)]
 exact h1
theorem VP {bp op m c:Nat} {h:Hp} {l:List Nat} (s:Bs h (.slice (some ⟨bp,op,none⟩) m c) l) {k:Nat} (hk:k≤l.length) (hm:l.length=m) (c':Nat):Bs h (.slice (some ⟨bp,op+k,none⟩) (m-k) c') (l.drop k):=by
 subst hm
 refine⟨?_,fun x hx=>s.byte x (List.mem_of_mem_drop hx)⟩
 obtain⟨p',cap,hv,hl,hc⟩:=s.sl
 simp only[Value.slice.injEq]at hv
 obtain⟨rfl,_,rfl⟩:=hv
 refine⟨_,c',by rw[List.length_drop],by simp,fun Ys=>?_⟩
 have ZC:k<l.length:=by
  rw[←List.length_pos_iff]at Ys
  simp at Ys;omega
 obtain⟨b,o,hp,YO⟩:=hc (by intro e;simp at e;subst e;simp at ZC)
 simp only[Option.some.injEq,Addr.mk.injEq,and_true]at hp
 obtain⟨rfl,rfl⟩:=hp
 refine⟨_,_,rfl,fun i hi=>?_⟩
 have A0:i<l.length-k:=by simpa using hi
 rw[show op+k+i=op+(k+i) by omega,YO (k+i) (by simp;omega)]
 simp
abbrev Tk (h:Hp):Prop:=FE 1 wv kN h
theorem Gs (T:World) (h:Hp) (v:Value) (l:List Nat) (s:Bs h v l) (hl:l.length≤100000) (tk:Tk h) :
  Zc Tryz.prog T 83 #[v] h fun v' h'=>Z1 h.size 5 h' v' (TF l)∧Zg h.size h h':=by
 obtain⟨p,cp,rfl,Ur⟩:=s.open
 have eI:Sz l:=s.byte
 refine Zc.Zi (args:=[_]) Tryz.func83 rfl rfl rfl rfl ?_
 simp -implicitDefEqProofs only[go_sem,↓reduceIte]
 obtain⟨h1,Yw⟩:=ZA (h.push (.cells (j9.map wv).toArray 189):Hp)
 have hs1:h1.size=h.size+1:=by rw[Yw];simp
 have b1:Zg h.size h h1:=by rw[Yw];exact Zg.push (Nat.le_refl _) _
 have x1:h1[h.size]? = some (.cells (j9.map wv++[]).toArray 189):=by rw[Yw,List.append_nil];exact Zb
 change Tn Tryz.prog T .append _ _ _ _ _ (h.push (.cells (j9.map wv).toArray 189))
 rw[←Yw]
 clear Yw
 refine Zw (E:=5) (B:=h.size+1) Yu Tryz.underlying34 Wm Vf Ve (Z1.KI _ _ _ _) (by omega) (s.Z9 b1) (by simp;omega) ?_
 intro w h2 o2 b2 _
 rw[List.nil_append]at o2
 simp -implicitDefEqProofs only[go_sem,↓reduceIte]
 refine Zw (E:=5) (B:=h.size+1) Yu Tryz.underlying34 Wm Vf Ve (o2.push _) (by have:=b2.size;simp;omega) (Bs.one (x:=128) (by omega) 1) (by simp;omega) ?_
 intro w3 h3 o3 b3 _
 have B3:Zg (h.size+1) h1 h3:=(b2.Yh (by have:=b2.size;omega) _).trans b3
 have o3':Z1 (h.size+1) 5 h3 w3 (TE l 0):=o3
 clear o2 o3 b2 b3
 simp -implicitDefEqProofs only[go_sem,↓reduceIte]
 refine VS.ZW (fun F g=>Zg (h.size+1) h1 g∧F 0=.slice p l.length cp∧F 3=.pointer (some ⟨h.size,0,none⟩)∧∃j:Nat,j≤KP l.length∧Z1 (h.size+1) 5 g (F 4) (TE l j))
  (fun F _=>l.length+100-BK (F 4)) rfl ⟨B3,rfl,rfl,0,by omega,o3'⟩ ?_
 clear o3' B3
 rintro F g ⟨hg,f0,f3,j,hj,ho⟩
 obtain⟨p4,c4,f4,_⟩:=ho.open
 have ml:=Ph l j
 obtain⟨M,hM⟩:=ZA (l.length+j+1)
 rw[ml,←hM]at f4
 have Zwg:KP l.length<64:=by unfold KP;omega
 have d1:(M:Int).tmod 64=((M%64:Nat):Int):=rfl
 have SU:=hg.size
 by_cases hm:M%64=56
 case neg=>
  have Mi:¬((M%64:Nat):Int)=56:=by omega
  have Ys:j≠KP l.length:=fun e=>hm (by rw[hM];exact (FW hj).2 e)
  simp -implicitDefEqProofs only[go_sem,↓reduceIte,f0,f3,f4,d1,Mi]
  have om:=ho
  rw[f4]at om
  refine Zw (E:=5) (B:=h.size+1) Yu Tryz.underlying34 Wm Vf Ve (om.push _) (by simp;omega) (Bs.one (x:=0) (by omega) 1) (by rw[ml];simp;omega) ?_
  intro w' g' Rd XZ _
  obtain⟨p5,c5,rfl,_⟩:=Rd.open
  simp -implicitDefEqProofs only[go_sem,↓reduceIte,f0,f3]
  refine⟨⟨(hg.Yh (by omega) _).trans XZ,f0,f3,j+1,by omega,?_⟩,?_⟩
  ·rw[C0];exact Rd
  ·simp only[BK,Zl,↓reduceIte,f4,List.length_append,ml,List.length_singleton];omega
 have hjn:j=KP l.length:=(FW hj).1 (by rw[←hM];exact hm)
 have Mi:((M%64:Nat):Int)=56:=by omega
 simp -implicitDefEqProofs only[go_sem,↓reduceIte,f0,f3,f4,d1,Mi]
 refine VS.ZW (fun F g=>Zg (h.size+1) h1 g∧F 0=.slice p l.length cp∧F 3=.pointer (some ⟨h.size,0,none⟩)∧∃k:Nat,k≤8∧F 5=.int .i64 (56-8*(k:Int))∧Z1 (h.size+1) 5 g (F 4) (TE l j++(KZ l.length).take k))
  (fun F _=>(vi (F 5)+8).toNat) rfl ⟨hg,f0,f3,0,by omega,rfl,by rw[List.take_zero,List.append_nil];exact ho⟩ ?_
 clear f0 f3 f4 d1 hm Mi ho hg SU F g
 rintro F g ⟨hg,f0,f3,k,hk,f5,ho⟩
 have SU:=hg.size
 obtain⟨y,hy⟩:∃y:Int,y=56-8*(k:Int):=⟨_,rfl⟩
 rw[←hy]at f5
 by_cases ZC:k<8
 ·have dM:0≤y:=by omega
  have Gg:¬y<0:=by omega
  obtain⟨X,hX⟩:=ZA ((KZ l.length).getD k 0)
  have hXb:X<256:=by rw[hX];exact ZH (eJ _) k
  obtain⟨xL,hxL⟩:∃x:Int,x=((8*l.length:Nat):Int):=⟨_,rfl⟩
  have eL:Unit→8*(l.length:Int)=xL:=fun _=>by rw[hxL];omega
  have xLb:0≤xL∧xL≤1000000:=by rw[hxL];omega
  have sh:Unit→Xa .i64 xL y%256=(X:Int):=fun _=>by
   rw[hxL,hy,show (56:Int)-8*(k:Int)=((56-8*k:Nat):Int) by omega,hX];exact qX hl ZC
  have ml2:(TE l j++(KZ l.length).take k).length≤200000:=by rw[List.length_append,ml,List.length_take];omega
  have et:(KZ l.length).take (k+1)=(KZ l.length).take k++[X]:=by
   rw[Yd _ k (by rw[Nt];exact ZC),hX,List.getD_eq_getElem?_getD,List.getElem?_eq_getElem (by rw[Nt];exact ZC)];rfl
  clear hX hxL
  simp -implicitDefEqProofs only[go_sem,↓reduceIte,f0,f3,f5,dM,Gg,eL (),sh ()]
  refine Zw (E:=5) (B:=h.size+1) Yu Tryz.underlying34 Wm Vf Ve (ho.push _) (by simp;omega) (Bs.one hXb 1) (by simp only[List.length_singleton];omega) ?_
  intro w' g' Rd XZ _
  simp -implicitDefEqProofs only[go_sem,↓reduceIte,f0,f3,f5]
  refine⟨⟨(hg.Yh (by omega) _).trans XZ,f0,f3,k+1,ZC,?_,?_⟩,?_⟩
  ·show Value.int .i64 _=_
   congr 1;omega
  ·rw[et,←List.append_assoc];exact Rd
  ·simp only[vi,Zl,↓reduceIte,f5];omega
 ·have dM:¬0≤y:=by omega
  obtain rfl:k=8:=by omega
  have ep:TE l j++(KZ l.length).take 8=Wn l:=by rw[hjn];rfl
  rw[ep]at ho
  have pl:=H6 l
  obtain⟨N,hN⟩:=ZA (dz l.length)
  have hN1:0<N:=by rw[hN];unfold dz;omega
  have hN2:N≤2000:=by rw[hN];unfold dz;omega
  rw[←hN]at pl
  have qZ:=hg.get (by omega) x1
  have bh:Zg h.size h g:=b1.trans (hg.mono (by omega))
  obtain⟨bp,cP,f4,hbp,hcP⟩:∃bp c,F 4=.slice (some ⟨bp,0,none⟩) (64*N) c∧h.size+1≤bp∧64*N≤c:=by
   rcases ho.own with⟨_,hm,_⟩|⟨b,cap,sp,hB,hv,_,_,_,hc⟩
   ·omega
   ·rw[pl]at hv hc;exact⟨b,cap,hv,hB,hc⟩
  have sP:=ho.bs
  rw[f4]at sP
  simp -implicitDefEqProofs only[go_sem,↓reduceIte,f0,f3,f5,dM]
  refine VS.ZW (fun F g=>Zg h.size h g∧F 3=.pointer (some ⟨h.size,0,none⟩)∧∃j op c:Nat,j≤N∧F 4=.slice (some ⟨bp,op,none⟩) (64*(N-j)) c∧64*(N-j)≤c∧Bs g (.slice (some ⟨bp,op,none⟩) (64*(N-j)) c) ((Wn l).drop (64*j))∧g[h.size]? = some (.cells ((FV (Wn l) j).map wv++[]).toArray 189))
   (fun F _=>BK (F 4)) rfl ⟨bh,f3,0,0,cP,by omega,f4,hcP,by exact sP,qZ⟩ ?_
  clear f0 f3 f4 f5 hy dM ZC ho sP qZ bh hg SU ep hcP F g
  rintro F g ⟨hg,f3,j,op,c,hj,f4,hc,sP,qZ⟩
  have SU:=Za qZ
  by_cases ZC:j<N
  ·obtain⟨L,hL⟩:=ZA (64*(N-j))
   rw[←hL]at f4 hc sP
   have Zwh:64≤L:=by omega
   have lu:((Wn l).drop (64*j)).length=L:=by rw[List.length_drop,pl];omega
   have hL0:0<(L:Int):=by omega
   have Zdt:(64:Int)≤(c:Int):=by omega
   have AZ:¬c=0:=by omega
   simp -implicitDefEqProofs only[go_sem,↓reduceIte,f3,f4,hL0,Zdt,AZ,Nat.sub_zero,Nat.zero_mul]
   have sB:Bs g (.slice (some ⟨bp,op,none⟩) 64 c) (((Wn l).drop (64*j)).take 64):=by
    rw[←lu]at sP;exact Bs.Sx sP (by omega) c
   obtain⟨dl,dw⟩:=Pg (Wn l) j
   refine (EE T g h.size (FV (Wn l) j) _ (((Wn l).drop (64*j)).take 64) dl dw sB (by rw[List.length_take,lu];omega) (tk.Ji hg) qZ (by have:=tk.1;omega)).use ?_
   rintro _ g2 ⟨Re,Rj⟩
   have Qt:Zg h.size h g2:=hg.trans (Re.Z9 (by omega) (fun b e=>by have:=Option.some.inj e;omega))
   have sP2:=qY sP Re (by omega)
   by_cases hce:c=64
   ·have hLe:L=64:=by omega
    have Zls:(c:Int)=64:=by omega
    have uI:(L:Int)=64:=by omega
    subst hce hLe
    simp -implicitDefEqProofs only[go_sem,↓reduceIte,f3,f4,Zls,uI]
    refine⟨⟨Qt,f3,j+1,op,0,ZC,?_,by omega,?_,Rj⟩,?_⟩
    ·show Value.slice _ _ _=_
     rw[show 64*(N-(j+1))=0 by omega]
    ·rw[show 64*(N-(j+1))=0 by omega,List.drop_of_length_le (by rw[pl];omega)]
     exact (Z1.KI 0 5 _ _).bs
    ·simp only[BK,Zl,↓reduceIte,f4];omega
   ·have Zdu:(64:Int)≤(L:Int):=by omega
    simp -implicitDefEqProofs only[go_sem,↓reduceIte,f3,f4,Zdt,Zdu,hce]
    refine⟨⟨Qt,f3,j+1,op+64,c-64,ZC,?_,by omega,?_,Rj⟩,?_⟩
    ·show Value.slice _ _ _=_
     rw[show L-64=64*(N-(j+1)) by omega]
    ·have:=VP sP2 (k:=64) (by omega) lu (c-64)
     rw[List.drop_drop,show L-64=64*(N-(j+1)) by omega,show 64*j+64=64*(j+1) by omega]at this
     exact this
    ·simp only[BK,Zl,↓reduceIte,f4];omega
  ·obtain rfl:j=N:=by omega
   have eS:TF l=Zx (FV (Wn l) j):=by rw[TF,←hN]
   obtain⟨dl,dw⟩:=Pg (Wn l) j
   obtain⟨D,hD⟩:=ZA (FV (Wn l) j)
   rw[←hD]at dl dw qZ eS
   rw[eS]
   have r0:rd g ⟨h.size,0,none⟩ 8=some (D.map wv):=by rw[List.append_nil]at qZ;exact Zq qZ (by simp[dl])
   rw[Nat.sub_self,Nat.mul_zero]at f4
   have hz:¬h.size=g.size:=by omega
   simp -implicitDefEqProofs only[go_sem,↓reduceIte,f3,f4,r0,hz]
   have hBo:Zg h.size h (g.push (.cells (XM 32 [Value.int .u8 0]).toArray 5)):=hg.add _
   have oO:Z1 h.size 5 (g.push (.cells (XM 32 [Value.int .u8 0]).toArray 5)) (.slice (some ⟨g.size,0,none⟩) 0 32) (Zx (D.take 0)):=
    ⟨.inr ⟨g.size,32,XM 32 [Value.int .u8 0],hg.size,rfl,Zb,rfl,rfl,Nat.zero_le 32⟩,fun x hx=>by cases hx⟩
   refine VS.ZW (fun F g=>Zg h.size h g∧F 43=.agg (D.map wv).toArray∧∃i:Nat,i≤8∧F 44=.int .i64 i∧Z1 h.size 5 g (F 6) (Zx (D.take i)))
    (fun F _=>8-(vi (F 44)).toNat) rfl ⟨hBo,rfl,0,by omega,rfl,oO⟩ ?_
   clear f3 f4 ZC qZ r0 hz hBo oO sP hc hg SU g F
   rintro F g ⟨hg,f43,i,hi,f44,ho⟩
   have SU:=hg.size
   by_cases ZC:i<8
   ·have ZL:(i:Int)<8:=by omega
    obtain⟨x,hx⟩:=ZA (D.getD i 0)
    have hxb:x<4294967296:=by rw[hx];exact dw.getD i
    have et:D.take (i+1)=D.take i++[x]:=by
     rw[Yd _ i (by omega),hx,List.getD_eq_getElem?_getD,List.getElem?_eq_getElem (by omega)];rfl
    obtain⟨yx,eK⟩:∃y:Int,y=(x:Int):=⟨_,rfl⟩
    obtain⟨z0,GR⟩:∃y:Int,y=((x/16777216%256:Nat):Int):=⟨_,rfl⟩
    obtain⟨z1,HT⟩:∃y:Int,y=((x/65536%256:Nat):Int):=⟨_,rfl⟩
    obtain⟨z2,Bq⟩:∃y:Int,y=((x/256%256:Nat):Int):=⟨_,rfl⟩
    obtain⟨z3,rh⟩:∃y:Int,y=((x%256:Nat):Int):=⟨_,rfl⟩
    have n1:nth (D.map wv) i=some (.int .u32 yx):=by
     rw[Yk,List.getElem?_map,eK,hx,List.getD_eq_getElem?_getD,List.getElem?_eq_getElem (by omega)];rfl
    have e1:Unit→Xa .u32 yx 24%256=z0:=fun _=>by rw[eK,GR,show (24:Int)=((24:Nat):Int) from rfl,QO x 24 (by decide)];rfl
    have e2:Unit→Xa .u32 yx 16%256=z1:=fun _=>by rw[eK,HT,show (16:Int)=((16:Nat):Int) from rfl,QO x 16 (by decide)];rfl
    have e3:Unit→Xa .u32 yx 8%256=z2:=fun _=>by rw[eK,Bq,show (8:Int)=((8:Nat):Int) from rfl,QO x 8 (by decide)];rfl
    have e4:Unit→yx%256=z3:=fun _=>by rw[eK,rh];rfl
    have X0:(Zx (D.take i)).length≤32:=by rw[ZB,List.length_take];omega
    clear eK hx
    simp -implicitDefEqProofs only[go_sem,↓reduceIte,f43,f44,ZL,n1,e1 (),e2 (),e3 (),e4 ()]
    subst GR HT Bq rh
    refine Zw (E:=5) (B:=h.size) Yu Tryz.underlying34 Wm Vf Ve (ho.push _) (by simp;omega) (Bs.made (l:=Qx x) (UN x) 4) (by simp[Qx];omega) ?_
    intro w' g' Rd XZ _
    simp -implicitDefEqProofs only[go_sem,↓reduceIte,f43,f44]
    refine⟨⟨(hg.add _).trans XZ,f43,i+1,ZC,rfl,?_⟩,?_⟩
    ·rw[et]
     unfold Zx at Rd ⊢
     rw[List.flatMap_append]
     simp only[List.flatMap_cons,List.flatMap_nil,List.append_nil]
     exact Rd
    ·simp only[vi,Zl,↓reduceIte,f44];omega
   ·have YF:¬(i:Int)<8:=by omega
    obtain rfl:i=8:=by omega
    rw[List.take_of_length_le (by omega)]at ho
    simp -implicitDefEqProofs only[go_sem,↓reduceIte,f43,f44,YF]
    exact⟨ho,hg⟩
def Rq (n:Nat):Int:=if 2000<n then 1 else 0
def lD (B:Nat) (h':Hp) (v':Value) (l:List Nat):Prop:=∃w,v'=.tuple [w,.int .i64 (Rq l.length)].toArray∧Z1 B 5 h' w (if Rq l.length=0 then TF l else [])
theorem IV (T:World) (h:Hp) (v:Value) (l:List Nat) (s:Bs h v l) (tk:Tk h) :
  Zc Tryz.prog T 62 #[v] h fun v' h'=>lD h.size h' v' l∧Zg h.size h h':=by
 obtain⟨p,cp,rfl,Ur⟩:=s.open
 refine Zc.Zi (args:=[_]) Tryz.func62 rfl rfl rfl rfl ?_
 unfold lD Rq
 by_cases hl:2000<l.length
 ·have DI:2000<(l.length:Int):=by omega
  simp -implicitDefEqProofs only[go_sem,↓reduceIte,DI,hl]
  exact⟨_,rfl,Z1.nil _ _ _⟩
 ·have DI:¬2000<(l.length:Int):=by omega
  simp -implicitDefEqProofs only[go_sem,↓reduceIte,DI,hl]
  refine (Gs T _ _ l s (by omega) tk).use ?_
  rintro w h1 ⟨o1,b1⟩
  simp -implicitDefEqProofs only[go_sem,↓reduceIte,b1]
  exact⟨_,rfl,o1⟩
def K0 (body:List Nat):List Nat:=body.length :: body
def Y5 (body:List Nat):List Nat:=K0 body++(TF (K0 body)).take 4
theorem Nu (body:List Nat):(K0 body).length=body.length+1:=rfl
theorem TT (body:List Nat):(Y5 body).length=body.length+5:=by
 rw[Y5,List.length_append,List.length_take,Jp,Nu];omega
def YX (l:List Nat) (n:Int):Prop:=l.length≤100000∧0≤n∧n≤l.length
instance (l:List Nat) (n:Int):Decidable (YX l n):=by unfold YX;infer_instance
def Ju (l:List Nat) (n:Int) (k:Nat):Int:=if ¬YX l n then 5 else if 100000<l.length+(k+5) then 8 else 0
def VQ (B:Nat) (h':Hp) (v':Value) (l:List Nat) (n:Int) (E:Int) (add:List Nat):Prop:=
 ∃w,v'=.tuple [.agg [w,.int .i64 (if E=0 then n else 0)].toArray,.int .i64 E].toArray∧Z1 B 5 h' w (if E=0 then l++add else [])
theorem VB.ym {h g:Hp} {b:Nat} {o:Obj} (a:VB (some b) h g):VB (some b) h (g.setIfInBounds b o):=
 ⟨by rw[Array.size_setIfInBounds];exact a.size,fun k hk Ys=>by rw[Array.getElem?_setIfInBounds,if_neg (fun e=>Ys (by rw[e])),a.block k hk Ys]⟩
theorem Vo (T:World) (h:Hp) (v u:Value) (n:Int) (l body:List Nat) (s:Bs h v l) (hl:l.length≤140737488355328) (sb:Bs h u body) (hb:body.length≤255) (tk:Tk h) :
  Zc Tryz.prog T 144 #[.agg [v,.int .i64 n].toArray,u] h fun v' h'=>VQ h.size h' v' l n (Ju l n body.length) (Y5 body)∧Zg h.size h h':=by
 obtain⟨p,c,rfl,_⟩:=s.open
 obtain⟨q,d,rfl,_⟩:=sb.open
 refine Zc.Zi (args:=[_,_]) Tryz.func144 rfl rfl rfl rfl ?_
 unfold VQ
 simp -implicitDefEqProofs only[go_sem,↓reduceIte]
 obtain⟨h0,XL⟩:=ZA ((h.push (.cells [.slice p l.length c,.int .i64 n].toArray 126)).push (.cells [.slice none 0 0,.int .i64 0].toArray 126):Hp)
 have b0:Zg h.size h h0:=by rw[XL];exact ((Zg.refl _ _).add _).add _
 have s0:h0.size=h.size+1+1:=by rw[XL];simp
 have x0:h0[h.size+1]? = some (.cells [.slice none 0 0,.int .i64 0].toArray 126):=by
  rw[XL,Array.getElem?_push,if_pos (by simp)]
 rw[←XL]
 clear XL
 refine (J4 T h0 _ n l (s.Z9 b0) hl).use ?_
 rintro _ h1 ⟨b1,o1⟩
 have s1:=b1.size
 by_cases ok:YX l n
 case neg=>
  have ee:Ju l n body.length=5:=by unfold Ju;rw[if_pos ok]
  rw[if_neg (show ¬(l.length≤100000∧0≤n∧n≤l.length) from ok)]at o1
  subst o1
  rw[ee]
  have x1:=b1.get (by omega) x0
  have y2:=ZR x1 0
  have ZC:h.size+1<h1.size:=by omega
  have Ys:¬h.size+1=h1.size:=by omega
  simp -implicitDefEqProofs only[go_sem,↓reduceIte,y2,Ys,ZC]
  exact⟨⟨_,rfl,Z1.nil _ _ _⟩,((b0.trans (b1.mono (by omega))).Zm (by omega) _).Yh (by simp;omega) _⟩
 have ee:Ju l n body.length=if 100000<l.length+(body.length+5) then 8 else 0:=by unfold Ju;rw[if_neg (fun hn=>hn ok)]
 rw[if_pos (show (l.length≤100000∧0≤n∧n≤l.length) from ok)]at o1
 obtain⟨w,rfl,o1⟩:=o1
 obtain⟨pw,cw,rfl,_⟩:=o1.open
 have B1:=b0.trans (b1.mono (by omega))
 have x1:=b1.get (by omega) x0
 obtain⟨ki,Is,hn1⟩:=ok
 obtain⟨h2,U3⟩:=ZA (h1.push (.cells [.slice pw l.length cw,.int .i64 n].toArray 126):Hp)
 have b2:Zg h1.size h1 h2:=by rw[U3];exact Zg.push (Nat.le_refl _) _
 have s2:h2.size=h1.size+1:=by rw[U3];simp
 have x6:h2[h1.size]? = some (.cells [.slice pw l.length cw,.int .i64 n].toArray 126):=by rw[U3];exact Zb
 have eb:(body.length:Int)%256=(body.length:Int):=by omega
 have e2:h1.push (.cells #[Value.slice pw l.length cw,.int .i64 n] 126)=h2:=U3.symm
 simp -implicitDefEqProofs only[go_sem,↓reduceIte,eb]
 rw[e2]
 clear e2 U3
 rw[←s2]
 have B2:=B1.trans (b2.mono B1.size)
 have o2:=o1.Z9 b2 (Nat.le_refl _)
 have Ij:∀x∈[body.length],x<256:=by intro x hx;rw[List.mem_singleton.1 hx];omega
 have of0:Z1 h2.size 5 (h2.push (.cells (([body.length]:List Nat).map bv).toArray 5)) (.slice (some ⟨h2.size,0,none⟩) 1 1) [body.length]:=Z1.made Ij (Nat.le_refl _)
 have bp:Zg h2.size h2 (h2.push (.cells (([body.length]:List Nat).map bv).toArray 5)):=Zg.push (Nat.le_refl _) _
 refine Zw (E:=5) (B:=h2.size) Yu Tryz.underlying34 Wm Vf Ve of0 (by simp) (sb.Z9 (B2.trans (bp.mono (by omega)))) (by simp;omega) ?_
 intro wf h3 of3 b3 _
 have B3:Zg h2.size h2 h3:=bp.trans b3
 have gS:=B2.trans (B3.mono (by omega))
 have Zdv:Z1 h2.size 5 h3 wf (K0 body):=of3
 clear of0 bp of3 b3
 have fl:=Nu body
 have fsl:=TT body
 have efr:Y5 body=K0 body++(TF (K0 body)).take 4:=rfl
 have shl:=Jp (K0 body)
 simp -implicitDefEqProofs only[go_sem,↓reduceIte]
 refine (IV T h3 wf (K0 body) Zdv.bs (tk.Ji gS)).use ?_
 rintro _ h4 ⟨⟨ws,rfl,os⟩,b4⟩
 have e0:Rq (K0 body).length=0:=by unfold Rq;rw[if_neg (by omega)]
 rw[e0,if_pos rfl]at os
 rw[e0]
 generalize TF (K0 body)=SH at *
 obtain⟨ps,cs,rfl,YO⟩:=os.open
 have sS:=os.bs
 obtain⟨p',c',hv,hh⟩:=sS.Uk
 simp only[Value.slice.injEq]at hv
 obtain⟨rfl,_,rfl⟩:=hv
 obtain⟨bb,ob,rfl,_⟩:=hh (by intro e;rw[e]at shl;cases shl)
 have s4:=Bs.Sx sS (m:=4) (by omega) cs
 rw[shl]at YO ⊢
 have h4c:(4:Int)≤(cs:Int):=by omega
 have Ga:¬cs=0:=by omega
 have of4:=Zdv.Z9 b4 (Nat.le_refl _)
 have s3:=B3.size
 have s4s:=b4.size
 have B4:Zg h2.size h2 h4:=B3.trans (b4.mono s3)
 simp -implicitDefEqProofs only[go_sem,↓reduceIte,h4c,Ga,Nat.sub_zero,Nat.zero_mul]
 refine Zw (E:=5) (B:=h2.size) Yu Tryz.underlying34 Wm Vf Ve of4 (by omega) s4 (by rw[fl,List.length_take];omega) ?_
 intro wg h5 og b5 _
 rw[←efr]at og
 have B5:Zg h2.size h2 h5:=B4.trans b5
 have s5:=B5.size
 have Bh5:=B2.trans (B5.mono (by omega))
 obtain⟨pg,cg,rfl,_⟩:=og.open
 rw[fsl]
 have x65:=B5.get (by omega) x6
 have r65:V.hc h5 ⟨h1.size,0,none⟩=some (.slice pw l.length cw):=by rw[Zh x65];rfl
 have o5:=o2.Z9 B5 (Nat.le_refl _)
 have x15:h5[h.size+1]? = some (.cells [.slice none 0 0,.int .i64 0].toArray 126):=B5.get (by omega) (b2.get (by omega) x1)
 generalize Y5 body=FR at *
 by_cases q:100000<l.length+(body.length+5)
 ·have q':100000<(l.length:Int)+((body.length+5:Nat):Int):=by omega
  have y2:=ZR x15 0
  have ZC:h.size+1<h5.size:=by omega
  rw[if_pos q]at ee
  rw[ee]
  simp -implicitDefEqProofs only[go_sem,↓reduceIte,r65,q',y2,ZC]
  exact⟨⟨_,rfl,Z1.nil _ _ _⟩,Bh5.Zm (by omega) _⟩
 ·have q':¬100000<(l.length:Int)+((body.length+5:Nat):Int):=by omega
  rw[if_neg q]at ee
  rw[ee]
  simp -implicitDefEqProofs only[go_sem,↓reduceIte,r65,q']
  have ogb:Bs h5 (.slice pg (body.length+5) cg) FR:=by rw[←fsl];exact og.bs
  refine JP (E:=5) (B:=h0.size) Yu Tryz.underlying34 Wm Vf Ve o5 (by omega) ogb (by omega) ?_
  intro wz h6 oz b6 bt6 bk6
  have s6:=b6.size
  have Bn:∀b,ZN (Value.slice pw l.length cw)=some b→b<h1.size:=o1.own.lt
  have x66:h6[h1.size]? = some (.cells [.slice pw l.length cw,.int .i64 n].toArray 126):=by
   rw[bt6.block _ (by omega) (fun e=>by have:=Bn _ e;omega)];exact x65
  have x16:h6[h.size+1]? = some (.cells [.slice none 0 0,.int .i64 0].toArray 126):=b6.get (by omega) x15
  obtain⟨pz,cz,hwz,_⟩:=oz.open
  have zl:(l++FR).length=l.length+(body.length+5):=by rw[List.length_append,fsl]
  rw[zl]at hwz
  subst hwz
  have w66:=Yr (v:=.slice pz (l.length+(body.length+5)) cz) x66 (o:=0)
  obtain⟨h7,rn⟩:=ZA (h6.setIfInBounds h1.size (.cells [.slice pz (l.length+(body.length+5)) cz,.int .i64 n].toArray 126):Hp)
  have Zlu:Jh h6 ⟨h1.size,0,none⟩ (.slice pz (l.length+(body.length+5)) cz)=some h7:=by rw[w66,if_pos ⟨by simp,rfl⟩,rn];rfl
  have b7:VB (some h1.size) h6 h7:=by rw[rn];exact VB.ym VB.refl
  have x77:h7[h1.size]? = some (.cells [.slice pz (l.length+(body.length+5)) cz,.int .i64 n].toArray 126):=by rw[rn,Array.getElem?_setIfInBounds,if_pos rfl,if_pos (by omega)]
  have x17:h7[h.size+1]? = some (.cells [.slice none 0 0,.int .i64 0].toArray 126):=by
   rw[b7.block _ (by omega) (fun e=>by have:=Option.some.inj e;omega)];exact x16
  have oz7:=oz.MV b7 (fun b hb e=>by
   have e':=Option.some.inj e
   rcases bk6 b hb with g1|g1
   ·have:=Bn b g1;omega
   ·omega)
  have r77:rd h7 ⟨h1.size,0,none⟩ 2=some [.slice pz (l.length+(body.length+5)) cz,.int .i64 n]:=Zq x77 rfl
  have y7:=ZR x17 0
  have LG:h.size+1<h7.size:=Za x17
  have DM:Zg h.size h h6:=Bh5.trans (b6.mono (by omega))
  have Ku:Zg h.size h h7:=DM.trans (b7.Z9 (by omega) (fun b e=>by have:=Option.some.inj e;omega))
  clear rn w66
  simp -implicitDefEqProofs only[go_sem,↓reduceIte,Zlu,r77,y7,LG]
  refine⟨⟨_,rfl,?_⟩,Ku.Zm (by omega) _⟩
  exact (oz7.ZT (by omega) _).mono (by omega)
theorem UC (g:Hp) (ns:List Nat):NT (g.push (.cells (ns.map nv).toArray 3)) (.slice (some ⟨g.size,0,none⟩) ns.length ns.length) ns:=by
 constructor
 rw[QV nv]
 exact Sl.made (by simp) _
theorem Vp (T:World) (h:Hp) (u:Value) (ns:List Nat) (s:NT h u ns) (hl:ns.length≤100) (hb:∀x∈ns,x≤1073741824) :
  Zc Tryz.prog T 145 #[u] h fun v' h'=>Z1 h.size 5 h' v' (Zx ns)∧Zg h.size h h':=by
 obtain⟨p,c,rfl,YO⟩:=qn s
 refine Zc.Zi (args:=[_]) Tryz.func145 rfl rfl rfl rfl ?_
 simp -implicitDefEqProofs only[go_sem,↓reduceIte]
 refine VS.ZW (fun F g=>Zg h.size h g∧F 6=.slice p ns.length c∧F 7=.int .i64 ns.length∧∃i:Nat,i≤ns.length∧F 8=.int .i64 i∧Z1 h.size 5 g (F 3) (Zx (ns.take i)))
  (fun F _=>ns.length-(vi (F 8)).toNat) rfl ⟨Zg.refl _ _,rfl,rfl,0,by omega,rfl,Z1.nil _ _ _⟩ ?_
 rintro F g ⟨hg,f6,f7,i,hi,f8,ho⟩
 have SU:=hg.size
 by_cases ZC:i<ns.length
 ·have ZL:(i:Int)<ns.length:=by omega
  obtain⟨b,o,rfl,hb0,YO⟩:=YO (by intro e;rw[e]at ZC;simp at ZC)
  have n1:V.hc g ⟨b,o+i,none⟩=some (.int .i64 (ns.getD i 0:Nat)):=by rw[hg.hc (by exact hb0)];exact YO i ZC
  have et:ns.take (i+1)=ns.take i++[ns.getD i 0]:=by
   rw[Yd _ i ZC,List.getD_eq_getElem?_getD,List.getElem?_eq_getElem ZC];rfl
  have hx:ns.getD i 0≤1073741824:=by
   rw[List.getD_eq_getElem?_getD,List.getElem?_eq_getElem ZC];exact hb _ (List.getElem_mem ZC)
  generalize ns.getD i 0=x at *
  obtain⟨yx,eK⟩:∃y:Int,y=(x:Int):=⟨_,rfl⟩
  obtain⟨z0,GR⟩:∃y:Int,y=((x/16777216%256:Nat):Int):=⟨_,rfl⟩
  obtain⟨z1,HT⟩:∃y:Int,y=((x/65536%256:Nat):Int):=⟨_,rfl⟩
  obtain⟨z2,Bq⟩:∃y:Int,y=((x/256%256:Nat):Int):=⟨_,rfl⟩
  obtain⟨z3,rh⟩:∃y:Int,y=((x%256:Nat):Int):=⟨_,rfl⟩
  rw[←eK]at n1
  have e1:Unit→Xa .i64 yx 24%256=z0:=fun _=>by rw[eK,GR,show (24:Int)=((24:Nat):Int) from rfl,VI x 24 (by decide)];rfl
  have e2:Unit→Xa .i64 yx 16%256=z1:=fun _=>by rw[eK,HT,show (16:Int)=((16:Nat):Int) from rfl,VI x 16 (by decide)];rfl
  have e3:Unit→Xa .i64 yx 8%256=z2:=fun _=>by rw[eK,Bq,show (8:Int)=((8:Nat):Int) from rfl,VI x 8 (by decide)];rfl
  have e4:Unit→yx%256=z3:=fun _=>by rw[eK,rh];rfl
  have X0:(Zx (ns.take i)).length≤400:=by rw[ZB,List.length_take];omega
  clear eK
  simp -implicitDefEqProofs only[go_sem,↓reduceIte,f6,f7,f8,ZL,n1,e1 (),e2 (),e3 (),e4 ()]
  subst GR HT Bq rh
  refine Zw (E:=5) (B:=h.size) Yu Tryz.underlying34 Wm Vf Ve (ho.push _) (by simp;omega) (Bs.made (l:=Qx x) (UN x) 4) (by simp[Qx];omega) ?_
  intro w' g' Rd XZ _
  simp -implicitDefEqProofs only[go_sem,↓reduceIte,f6,f7,f8]
  refine⟨⟨(hg.add _).trans XZ,f6,f7,i+1,ZC,rfl,?_⟩,?_⟩
  ·rw[et]
   unfold Zx at Rd ⊢
   rw[List.flatMap_append]
   simp only[List.flatMap_cons,List.flatMap_nil,List.append_nil]
   exact Rd
  ·simp only[vi,Zl,↓reduceIte,f8];omega
 ·have YF:¬(i:Int)<ns.length:=by omega
  obtain rfl:i=ns.length:=by omega
  rw[List.take_length]at ho
  simp -implicitDefEqProofs only[go_sem,↓reduceIte,f6,f7,f8,YF]
  exact⟨ho,hg⟩
def Qp (l:List Nat) (n:Int) (b:XK):Int:=if ¬YX l n then 5 else if ¬ZU b then 2 else Ju l n 9
def Qq (b:XK):List Nat:=1 :: Zx [b.r.toNat,b.n.toNat]
theorem BL (b:XK):Yv ⟨0,0⟩ [] b=if ZU b then 0 else 2:=by
 have e:XC ⟨0,0⟩ []=0:=rfl
 unfold Yv
 rw[if_neg (by rw[e];decide)]
 by_cases q:ZU b
 ·rw[if_neg (fun hn=>hn q),if_pos q,if_neg]
  intro hb
  have q1:=q.1.1
  rcases hb with hb|⟨hb,_⟩<;>simp at hb<;>omega
 ·rw[if_pos q,if_neg q]
theorem Nv (T:World) (h:Hp) (v:Value) (n:Int) (l:List Nat) (b:XK) (s:Bs h v l) (hl:l.length≤140737488355328) (tk:Tk h) :
  Zc Tryz.prog T 123 #[.agg [v,.int .i64 n].toArray,.agg (X3 b).toArray] h fun v' h'=>VQ h.size h' v' l n (Qp l n b) (Y5 (Qq b))∧Zg h.size h h':=by
 obtain⟨p,c,rfl,_⟩:=s.open
 refine Zc.Zi (args:=[_,_]) Tryz.func123 rfl rfl rfl rfl ?_
 unfold VQ X3
 simp -implicitDefEqProofs only[go_sem,↓reduceIte]
 obtain⟨h0,XL⟩:=ZA (((h.push (.cells [.slice p l.length c,.int .i64 n].toArray 126)).push (.cells [.int .i64 b.r,.int .i64 b.n].toArray 128)).push (.cells [.slice none 0 0,.int .i64 0].toArray 126):Hp)
 have b0:Zg h.size h h0:=by rw[XL];exact (((Zg.refl _ _).add _).add _).add _
 have s0:h0.size=h.size+3:=by rw[XL];simp
 have t0:h0[h.size]? = some (.cells [.slice p l.length c,.int .i64 n].toArray 126):=by
  rw[XL,Array.getElem?_push,if_neg (by simp;omega),Array.getElem?_push,if_neg (by simp),Zb]
 have t1:h0[h.size+1]? = some (.cells [.int .i64 b.r,.int .i64 b.n].toArray 128):=by
  rw[XL,Array.getElem?_push,if_neg (by simp),Array.getElem?_push,if_pos (by simp)]
 have x0:h0[h.size+2]? = some (.cells [.slice none 0 0,.int .i64 0].toArray 126):=by
  rw[XL,Array.getElem?_push,if_pos (by simp)]
 rw[←XL]
 clear XL
 refine (J4 T h0 _ n l (s.Z9 b0) hl).use ?_
 rintro _ h1 ⟨b1,o1⟩
 have s1:=b1.size
 have B1:Zg h.size h h1:=b0.trans (b1.mono (by omega))
 have x1:=b1.get (by omega) x0
 by_cases ok:YX l n
 case neg=>
  have ee:Qp l n b=5:=by unfold Qp;rw[if_pos ok]
  rw[if_neg (show ¬(l.length≤100000∧0≤n∧n≤l.length) from ok)]at o1
  subst o1
  rw[ee]
  have y2:=ZR x1 0
  have ZC:h.size+2<h1.size:=by omega
  have Ys:¬h.size+2=h1.size:=by omega
  simp -implicitDefEqProofs only[go_sem,↓reduceIte,y2,Ys,ZC]
  exact⟨⟨_,rfl,Z1.nil _ _ _⟩,(B1.Zm (by omega) _).Yh (by simp;omega) _⟩
 rw[if_pos (show (l.length≤100000∧0≤n∧n≤l.length) from ok)]at o1
 obtain⟨w,rfl,o1⟩:=o1
 obtain⟨pw,cw,rfl,_⟩:=o1.open
 have bt1:=b1.get (by omega) t1
 have r1:rd h1 ⟨h.size+1,0,none⟩ 2=some [.int .i64 b.r,.int .i64 b.n]:=Zq bt1 rfl
 have EF:¬h.size+1=h1.size:=by omega
 simp -implicitDefEqProofs only[go_sem,↓reduceIte,r1,EF]
 have b2:Zg h1.size h1 (h1.push (.cells [.slice pw l.length cw,.int .i64 n].toArray 126)):=Zg.push (Nat.le_refl _) _
 refine (VN T _ ⟨0,0⟩ (.slice none 0 0) [] b (X9.nil 0 161 Zo 8 _).ts (by simp)).use ?_
 rintro _ h3 ⟨⟨w1,w2,rfl,q1,q2⟩,b3⟩
 simp only[ite_self]at q1
 have B3:Zg h1.size h1 h3:=b2.trans (b3.mono b2.size)
 rw[BL]
 obtain⟨p1,c1,Bn,_⟩:=q1.open
 have s3:=B3.size
 have x3:=B3.get (by omega) x1
 have gS:=B1.trans (B3.mono (by omega))
 by_cases may:ZU b
 case neg=>
  have ee:Qp l n b=2:=by unfold Qp;rw[if_neg (fun hn=>hn ok),if_pos may]
  rw[ee,if_neg may]
  obtain⟨w1',Zww⟩:∃w,w=w1:=⟨_,rfl⟩
  subst Bn
  have y2:=ZR x3 0
  have ZC:h.size+2<h3.size:=by omega
  have Ys:¬h.size+2=h3.size:=by omega
  unfold YD
  simp -implicitDefEqProofs only[go_sem,↓reduceIte,y2,Ys,ZC]
  exact⟨⟨_,rfl,Z1.nil _ _ _⟩,(gS.Zm (by omega) _).Yh (by simp;omega) _⟩
 have ee:Qp l n b=Ju l n 9:=by unfold Qp;rw[if_neg (fun hn=>hn ok),if_neg (fun hn=>hn may)]
 rw[ee,if_pos may]
 obtain⟨⟨m1,m2⟩,m3,m4⟩:=may
 obtain⟨br,bn⟩:=b
 obtain⟨r,rfl⟩:∃r:Nat,br=r:=⟨br.toNat,by simp at m1;omega⟩
 obtain⟨m,rfl⟩:∃m:Nat,bn=m:=⟨bn.toNat,by simp at m3;omega⟩
 simp only at m1 m2 m3 m4
 unfold Qq
 simp only[Int.toNat_natCast]
 subst Bn
 unfold YD
 have t3:=B3.get (by omega) (b1.get (by omega) t0)
 have t13:=B3.get (by omega) bt1
 obtain⟨g,hg⟩:=ZA (h3.push (.cells [.int .i64 (r:Nat),.int .i64 (m:Nat),.slice p1 ([]:List Vt).length c1].toArray 131):Hp)
 simp -implicitDefEqProofs only[go_sem,↓reduceIte]
 have e3:h3.push (.cells #[Value.int .i64 (r:Nat),.int .i64 (m:Nat),.slice p1 0 c1] 131)=g:=hg.symm
 rw[e3]
 have bg:Zg h3.size h3 g:=by rw[hg];exact Zg.push (Nat.le_refl _) _
 have sg:g.size=h3.size+1:=by rw[hg];simp
 clear e3 hg
 have Bg:Zg h.size h g:=gS.trans (bg.mono (by omega))
 have yn:=bg.get (by omega) x3
 have t4:=bg.get (by omega) t3
 have t14:=bg.get (by omega) t13
 have r0:rd g ⟨h.size,0,none⟩ 2=some [.slice p l.length c,.int .i64 n]:=Zq t4 rfl
 have c0:V.hc g ⟨h.size+1,0,none⟩=some (.int .i64 (r:Nat)):=by rw[Zh t14];rfl
 have xy:V.hc g ⟨h.size+1,1,none⟩=some (.int .i64 (m:Nat)):=by rw[Zh t14];rfl
 have k0:h.size<g.size:=by omega
 have k1:h.size+1<g.size:=by omega
 refine VS.w (g.size) [12,13] (.q 0 (.q 2 (.q 3 (.q 4 (.q 5 (.or 1 (.s 6 (.s 7 (.s 8 (.s 9 (.q 10 (.q 11 (.w 12 (.w 13 .nil)))))))) (.s 6 (.or 1 (.s 7 (.s 8 (.s 9 (.q 10 (.q 11 (.w 12 (.w 13 .nil))))))) (.s 7 (.s 1 (.s 8 (.s 9 (.q 10 (.q 11 (.w 12 (.w 13 .nil)))))))))))))))) mixed (by kernel_rfl) ?_
 simp -implicitDefEqProofs only[go_sem,↓reduceIte,r0,c0,xy,k0,k1]
 refine⟨?_,?_,?_⟩
 ·have o0:Z1 g.size 5 (g.push (.cells (([1]:List Nat).map bv).toArray 5)) (.slice (some ⟨g.size,0,none⟩) 1 1) [1]:=Z1.made (by decide) (Nat.le_refl _)
  have B0:Zg g.size g ((g.push (.cells (([1]:List Nat).map bv).toArray 5)).push (.cells (([r,m]:List Nat).map nv).toArray 3)):=(Zg.push (Nat.le_refl _) _).Yh (by simp) _
  have o00:=o0.push (.cells (([r,m]:List Nat).map nv).toArray 3)
  have si:NT ((g.push (.cells (([1]:List Nat).map bv).toArray 5)).push (.cells (([r,m]:List Nat).map nv).toArray 3)) (.slice (some ⟨(g.push (.cells (([1]:List Nat).map bv).toArray 5)).size,0,none⟩) 2 2) [r,m]:=UC _ _
  have e1:(g.push (.cells (([1]:List Nat).map bv).toArray 5)).size=g.size+1:=by simp
  rw[e1]at si
  refine (Vp T _ _ [r,m] si (by simp) (by intro x hx;simp only[List.mem_cons,List.not_mem_nil,or_false]at hx;omega)).use ?_
  rintro w5 h5 ⟨o5,b5⟩
  have BB:=B0.trans (b5.mono B0.size)
  have o1:=o00.Z9 b5 (Nat.le_refl _)
  have s4:=o5.bs
  simp -implicitDefEqProofs only[go_sem,↓reduceIte,BB]
  refine Zw (E:=5) (B:=g.size) Yu Tryz.underlying34 Wm Vf Ve o1 BB.size s4 (by rw[ZB];simp) ?_
  intro w6 h6 o6 b6 _
  have B6:Zg g.size g h6:=BB.trans b6
  have DM:=Bg.trans (B6.mono (by omega))
  have lF:Z1 g.size 5 h6 w6 (1 :: Zx [r,m]):=o6
  simp -implicitDefEqProofs only[go_sem,↓reduceIte,B6]
  refine (Vo T h6 _ w6 n l (1 :: Zx [r,m]) (s.Z9 DM) hl lF.bs (by simp only[List.length_cons,ZB,List.length_nil];omega) (tk.Ji DM)).use ?_
  rintro _ h7 ⟨⟨w7,rfl,o7⟩,b7⟩
  have el:(1 :: Zx [r,m]).length=9:=by simp only[List.length_cons,ZB,List.length_nil]
  rw[el]at o7 ⊢
  have B7:Zg g.size g h7:=B6.trans (b7.mono B6.size)
  have Ku:=DM.trans (b7.mono DM.size)
  have x7:=B7.get (by omega) yn
  have y7:=ZR x7 0
  have LG:h.size+2<h7.size:=Za x7
  generalize Y5 (1 :: Zx [r,m])=FR at *
  obtain⟨E,hE⟩:=ZA (Ju l n 9)
  rw[←hE]at o7 ⊢
  obtain⟨z,hz⟩:∃z:Int,z=if E=0 then n else 0:=⟨_,rfl⟩
  rw[←hz]
  obtain⟨pz,cz,rfl,_⟩:=o7.open
  have o7l:=o7
  simp -implicitDefEqProofs only[go_sem,↓reduceIte,B7,y7,LG]
  refine⟨⟨_,rfl,?_⟩,Ku.Zm (by omega) _⟩
  exact (o7.ZT (by have:=B6.size;omega) _).mono (by have:=B6.size;omega)
 ·have rq:Zg g.size g (g.push (.cells (([r,m]:List Nat).map nv).toArray 3)):=Zg.push (Nat.le_refl _) _
  have o0:Z1 g.size 5 ((g.push (.cells (([r,m]:List Nat).map nv).toArray 3)).push (.cells (([1]:List Nat).map bv).toArray 5)) (.slice (some ⟨(g.push (.cells (([r,m]:List Nat).map nv).toArray 3)).size,0,none⟩) 1 1) [1]:=(Z1.made (by decide) (Nat.le_refl _)).mono (by simp)
  have B0:Zg g.size g ((g.push (.cells (([r,m]:List Nat).map nv).toArray 3)).push (.cells (([1]:List Nat).map bv).toArray 5)):=rq.Yh (by simp) _
  have si0:NT (g.push (.cells (([r,m]:List Nat).map nv).toArray 3)) (.slice (some ⟨g.size,0,none⟩) 2 2) [r,m]:=UC _ _
  have si:=si0.Z9 (Zg.push (Nat.le_refl _) (.cells (([1]:List Nat).map bv).toArray 5))
  have e1:(g.push (.cells (([r,m]:List Nat).map nv).toArray 3)).size=g.size+1:=by simp
  rw[e1]at o0
  refine (Vp T _ _ [r,m] si (by simp) (by intro x hx;simp only[List.mem_cons,List.not_mem_nil,or_false]at hx;omega)).use ?_
  rintro w5 h5 ⟨o5,b5⟩
  have BB:=B0.trans (b5.mono B0.size)
  have o1:=o0.Z9 b5 (Nat.le_refl _)
  have s4:=o5.bs
  simp -implicitDefEqProofs only[go_sem,↓reduceIte,BB]
  refine Zw (E:=5) (B:=g.size) Yu Tryz.underlying34 Wm Vf Ve o1 BB.size s4 (by rw[ZB];simp) ?_
  intro w6 h6 o6 b6 _
  have B6:Zg g.size g h6:=BB.trans b6
  have DM:=Bg.trans (B6.mono (by omega))
  have lF:Z1 g.size 5 h6 w6 (1 :: Zx [r,m]):=o6
  simp -implicitDefEqProofs only[go_sem,↓reduceIte,B6]
  refine (Vo T h6 _ w6 n l (1 :: Zx [r,m]) (s.Z9 DM) hl lF.bs (by simp only[List.length_cons,ZB,List.length_nil];omega) (tk.Ji DM)).use ?_
  rintro _ h7 ⟨⟨w7,rfl,o7⟩,b7⟩
  have el:(1 :: Zx [r,m]).length=9:=by simp only[List.length_cons,ZB,List.length_nil]
  rw[el]at o7 ⊢
  have B7:Zg g.size g h7:=B6.trans (b7.mono B6.size)
  have Ku:=DM.trans (b7.mono DM.size)
  have x7:=B7.get (by omega) yn
  have y7:=ZR x7 0
  have LG:h.size+2<h7.size:=Za x7
  generalize Y5 (1 :: Zx [r,m])=FR at *
  obtain⟨E,hE⟩:=ZA (Ju l n 9)
  rw[←hE]at o7 ⊢
  obtain⟨z,hz⟩:∃z:Int,z=if E=0 then n else 0:=⟨_,rfl⟩
  rw[←hz]
  obtain⟨pz,cz,rfl,_⟩:=o7.open
  have o7l:=o7
  simp -implicitDefEqProofs only[go_sem,↓reduceIte,B7,y7,LG]
  refine⟨⟨_,rfl,?_⟩,Ku.Zm (by omega) _⟩
  exact (o7.ZT (by have:=B6.size;omega) _).mono (by have:=B6.size;omega)
 ·have rq:Zg g.size g (g.push (.cells (([r,m]:List Nat).map nv).toArray 3)):=Zg.push (Nat.le_refl _) _
  have si:NT (g.push (.cells (([r,m]:List Nat).map nv).toArray 3)) (.slice (some ⟨g.size,0,none⟩) 2 2) [r,m]:=UC _ _
  refine (Vp T _ _ [r,m] si (by simp) (by intro x hx;simp only[List.mem_cons,List.not_mem_nil,or_false]at hx;omega)).use ?_
  rintro w5 h5 ⟨o5,b5⟩
  have ru:=rq.trans (b5.mono rq.size)
  have BB:Zg g.size g (h5.push (.cells (([1]:List Nat).map bv).toArray 5)):=ru.Yh ru.size _
  have o1:Z1 g.size 5 (h5.push (.cells (([1]:List Nat).map bv).toArray 5)) (.slice (some ⟨h5.size,0,none⟩) 1 1) [1]:=(Z1.made (by decide) (Nat.le_refl _)).mono ru.size
  have s4:=o5.bs.Z9 (Zg.push (Nat.le_refl h5.size) (.cells (([1]:List Nat).map bv).toArray 5))
  simp -implicitDefEqProofs only[go_sem,↓reduceIte,ru,BB]
  refine Zw (E:=5) (B:=g.size) Yu Tryz.underlying34 Wm Vf Ve o1 BB.size s4 (by rw[ZB];simp) ?_
  intro w6 h6 o6 b6 _
  have B6:Zg g.size g h6:=BB.trans b6
  have DM:=Bg.trans (B6.mono (by omega))
  have lF:Z1 g.size 5 h6 w6 (1 :: Zx [r,m]):=o6
  simp -implicitDefEqProofs only[go_sem,↓reduceIte,B6]
  refine (Vo T h6 _ w6 n l (1 :: Zx [r,m]) (s.Z9 DM) hl lF.bs (by simp only[List.length_cons,ZB,List.length_nil];omega) (tk.Ji DM)).use ?_
  rintro _ h7 ⟨⟨w7,rfl,o7⟩,b7⟩
  have el:(1 :: Zx [r,m]).length=9:=by simp only[List.length_cons,ZB,List.length_nil]
  rw[el]at o7 ⊢
  have B7:Zg g.size g h7:=B6.trans (b7.mono B6.size)
  have Ku:=DM.trans (b7.mono DM.size)
  have x7:=B7.get (by omega) yn
  have y7:=ZR x7 0
  have LG:h.size+2<h7.size:=Za x7
  generalize Y5 (1 :: Zx [r,m])=FR at *
  obtain⟨E,hE⟩:=ZA (Ju l n 9)
  rw[←hE]at o7 ⊢
  obtain⟨z,hz⟩:∃z:Int,z=if E=0 then n else 0:=⟨_,rfl⟩
  rw[←hz]
  obtain⟨pz,cz,rfl,_⟩:=o7.open
  have o7l:=o7
  simp -implicitDefEqProofs only[go_sem,↓reduceIte,B7,y7,LG]
  refine⟨⟨_,rfl,?_⟩,Ku.Zm (by omega) _⟩
  exact (o7.ZT (by have:=B6.size;omega) _).mono (by have:=B6.size;omega)
theorem Wv (n:Nat):XM n [Value.int .u8 0]=(List.replicate n 0).map bv:=by
 induction n with
 | zero=>rfl
 | succ n ih=>rw[XM,ih];rfl
theorem LH:∀(vs zs:List Value),vs.length≤zs.length→Yn zs 0 vs=vs++zs.drop vs.length
 | [],zs,_=>by cases zs<;>rfl
 | v :: vs,[],h=>by simp at h
 | v :: vs,z :: zs,h=>by
  rw[Yn,LH vs zs (by simpa using h)]
  rfl
theorem EG (key:List Nat):Yn ((List.replicate 64 0).map bv) 0 (((Rm key).map bv).take (min (Rm key).length 64))=(Uu key).map bv:=by
 have:=Wo key
 rw[Nat.min_eq_left this,List.take_of_length_le (by simp),LH _ _ (by simp;omega),List.length_map,←List.map_drop,List.drop_replicate,Uu,List.map_append]
theorem lG (T:World) (h:Hp) (v:Value) (key:List Nat) (w:Nat) (s:Bs h v key) (hk:key.length≤100000) (hw:w<256) (tk:Tk h) :
  Zc Tryz.prog T 84 #[v,.int .u8 w] h fun v' h'=>Z1 h.size 5 h' v' (U9 key w)∧Zg h.size h h':=by
 obtain⟨p,cp,rfl,Ur⟩:=s.open
 have eI:Sz key:=s.byte
 refine Zc.Zi (args:=[_,_]) Tryz.func84 rfl rfl rfl rfl ?_
 by_cases e64:64<key.length
 ·have yo:64<(key.length:Int):=by omega
  have hK:TF key=Rm key:=by unfold Rm;rw[if_pos e64]
  simp -implicitDefEqProofs only[go_sem,↓reduceIte,yo]
  refine (Gs T _ _ key s hk tk).use ?_
  rintro u g ⟨ou,bg⟩
  have su:=ou.bs
  rw[hK]at su
  simp -implicitDefEqProofs only[go_sem,↓reduceIte]
  have hG:Zg h.size h (g.push (.cells (XM 64 [Value.int .u8 0]).toArray 5)):=bg.add _
  have sK':=su.Z9 (Zg.push (Nat.le_refl g.size) (.cells (XM 64 [Value.int .u8 0]).toArray 5))
  have kl:=Wo key
  refine Lb (o:=0) (dl:=64) (dc:=64) (c:=XM 64 [Value.int .u8 0]) (E':=5) Yu Wm Zb sK'.sl (VD _) (by rw[Wv];simp;omega) ?_
  rw[Wg,Wv,EG]
  have ar:Zg h.size h (g.push (.cells ((Uu key).map bv).toArray 5)):=bg.add _
  have TJ:(g.push (.cells ((Uu key).map bv).toArray 5))[g.size]? = some (.cells (((U9 key w).take 0++(Uu key).drop 0).map bv++[]).toArray 5):=by
   rw[List.take_zero,List.drop_zero,List.nil_append,List.append_nil];exact Zb
  simp -implicitDefEqProofs only[go_sem,↓reduceIte]
  refine VS.ZW (fun F' g'=>Zg h.size h g'∧F' 1=.int .u8 w∧F' 5=.slice (some ⟨g.size,0,none⟩) 64 64∧F' 17=.int .i64 64∧∃i:Nat,i≤64∧F' 18=.int .i64 i∧g'[g.size]? = some (.cells (((U9 key w).take i++(Uu key).drop i).map bv++[]).toArray 5))
   (fun F _=>64-(vi (F 18)).toNat) rfl ⟨ar,rfl,rfl,rfl,0,by omega,rfl,TJ⟩ ?_
  clear hG ar TJ sK'
  rintro F g' ⟨hg,f1,f5,f17,i,hi,f18,hx⟩
  have SU:=Za hx
  have qW:((U9 key w).take i++(Uu key).drop i).length=64:=by rw[List.length_append,List.length_take,List.length_drop,ZZ,XO];omega
  by_cases ZC:i<64
  ·have ZL:(i:Int)<64:=by omega
   have q1:=ZK (f:=bv) hx (i:=i) (by omega)
   have e0:((U9 key w).take i++(Uu key).drop i).getD i 0=(Uu key).getD i 0:=by
    rw[List.getD_eq_getElem?_getD,List.getElem?_append_right (by rw[List.length_take,ZZ];omega),List.length_take,ZZ,Nat.min_eq_left (by omega),Nat.sub_self,List.getElem?_drop,Nat.add_zero,←List.getD_eq_getElem?_getD]
   rw[e0]at q1
   unfold bv at q1
   have eX:=IH key w ZC
   have cs:=Z0 (f:=bv) hx (i:=i) (by omega) ((U9 key w).getD i 0) rfl
   rw[Rp _ _ i (by rw[ZZ];exact ZC) (by rw[ZZ,XO])]at cs
   have hZb:=ZH (Oq eI) i
   have ox:Unit→Z7 .xor .u8 (((Uu key).getD i 0:Nat):Int) (w:Int)=(((U9 key w).getD i 0:Nat):Int):=fun _=>by rw[eX];exact Hz _ _ hZb hw
   have iy:Jh g' ⟨g.size,i,none⟩ (.int .u8 (((U9 key w).getD i 0:Nat):Int))=_:=cs
   simp -implicitDefEqProofs only[go_sem,↓reduceIte,f1,f5,f17,f18,ZL,q1,ox (),iy]
   refine⟨⟨hg.Zm (bg.size) _,f1,f5,f17,i+1,ZC,rfl,ZQ hx⟩,?_⟩
   simp only[vi,Zl,↓reduceIte,f18];omega
  ·have YF:¬(i:Int)<64:=by omega
   obtain rfl:i=64:=by omega
   rw[List.take_of_length_le (by rw[ZZ];omega),List.drop_of_length_le (by rw[XO];omega),List.append_nil,List.append_nil]at hx
   simp -implicitDefEqProofs only[go_sem,↓reduceIte,f5,f17,f18,YF]
   exact⟨⟨.inr ⟨g.size,64,[],bg.size,by rw[ZZ],by rw[List.append_nil];exact hx,by simp[ZZ],by rw[ZZ];rfl,by rw[ZZ];omega⟩,IG eI hw⟩,hg⟩
 ·have yo:¬64<(key.length:Int):=by omega
  have hK:Rm key=key:=by unfold Rm;rw[if_neg e64]
  have b0:=Zg.refl h.size h
  have su:=s
  have OC:Bs h (.slice p (Rm key).length cp) (Rm key):=by rw[hK];exact s
  simp -implicitDefEqProofs only[go_sem,↓reduceIte,yo]
  have hG:Zg h.size h (h.push (.cells (XM 64 [Value.int .u8 0]).toArray 5)):=b0.add _
  have hkl:key.length=(Rm key).length:=by rw[hK]
  rw[hkl]
  have sK':=OC.Z9 (Zg.push (Nat.le_refl h.size) (.cells (XM 64 [Value.int .u8 0]).toArray 5))
  have kl:=Wo key
  refine Lb (o:=0) (dl:=64) (dc:=64) (c:=XM 64 [Value.int .u8 0]) (E':=5) Yu Wm Zb sK'.sl (VD _) (by rw[Wv];simp;omega) ?_
  rw[Wg,Wv,EG]
  have ar:Zg h.size h (h.push (.cells ((Uu key).map bv).toArray 5)):=b0.add _
  have TJ:(h.push (.cells ((Uu key).map bv).toArray 5))[h.size]? = some (.cells (((U9 key w).take 0++(Uu key).drop 0).map bv++[]).toArray 5):=by
   rw[List.take_zero,List.drop_zero,List.nil_append,List.append_nil];exact Zb
  simp -implicitDefEqProofs only[go_sem,↓reduceIte]
  refine VS.ZW (fun F' g'=>Zg h.size h g'∧F' 1=.int .u8 w∧F' 5=.slice (some ⟨h.size,0,none⟩) 64 64∧F' 17=.int .i64 64∧∃i:Nat,i≤64∧F' 18=.int .i64 i∧g'[h.size]? = some (.cells (((U9 key w).take i++(Uu key).drop i).map bv++[]).toArray 5))
   (fun F _=>64-(vi (F 18)).toNat) rfl ⟨ar,rfl,rfl,rfl,0,by omega,rfl,TJ⟩ ?_
  clear hG ar TJ sK'
  rintro F g' ⟨hg,f1,f5,f17,i,hi,f18,hx⟩
  have SU:=Za hx
  have qW:((U9 key w).take i++(Uu key).drop i).length=64:=by rw[List.length_append,List.length_take,List.length_drop,ZZ,XO];omega
  by_cases ZC:i<64
  ·have ZL:(i:Int)<64:=by omega
   have q1:=ZK (f:=bv) hx (i:=i) (by omega)
   have e0:((U9 key w).take i++(Uu key).drop i).getD i 0=(Uu key).getD i 0:=by
    rw[List.getD_eq_getElem?_getD,List.getElem?_append_right (by rw[List.length_take,ZZ];omega),List.length_take,ZZ,Nat.min_eq_left (by omega),Nat.sub_self,List.getElem?_drop,Nat.add_zero,←List.getD_eq_getElem?_getD]
   rw[e0]at q1
   unfold bv at q1
   have eX:=IH key w ZC
   have cs:=Z0 (f:=bv) hx (i:=i) (by omega) ((U9 key w).getD i 0) rfl
   rw[Rp _ _ i (by rw[ZZ];exact ZC) (by rw[ZZ,XO])]at cs
   have hZb:=ZH (Oq eI) i
   have ox:Unit→Z7 .xor .u8 (((Uu key).getD i 0:Nat):Int) (w:Int)=(((U9 key w).getD i 0:Nat):Int):=fun _=>by rw[eX];exact Hz _ _ hZb hw
   have iy:Jh g' ⟨h.size,i,none⟩ (.int .u8 (((U9 key w).getD i 0:Nat):Int))=_:=cs
   simp -implicitDefEqProofs only[go_sem,↓reduceIte,f1,f5,f17,f18,ZL,q1,ox (),iy]
   refine⟨⟨hg.Zm (b0.size) _,f1,f5,f17,i+1,ZC,rfl,ZQ hx⟩,?_⟩
   simp only[vi,Zl,↓reduceIte,f18];omega
  ·have YF:¬(i:Int)<64:=by omega
   obtain rfl:i=64:=by omega
   rw[List.take_of_length_le (by rw[ZZ];omega),List.drop_of_length_le (by rw[XO];omega),List.append_nil,List.append_nil]at hx
   simp -implicitDefEqProofs only[go_sem,↓reduceIte,f5,f17,f18,YF]
   exact⟨⟨.inr ⟨h.size,64,[],b0.size,by rw[ZZ],by rw[List.append_nil];exact hx,by simp[ZZ],by rw[ZZ];rfl,by rw[ZZ];omega⟩,IG eI hw⟩,hg⟩
theorem BM (T:World) (h:Hp) (v u:Value) (key b:List Nat) (s:Bs h v key) (sb:Bs h u b) (hk:key.length≤10000) (hb:b.length≤10000) (tk:Tk h) :
  Zc Tryz.prog T 67 #[v,u] h fun v' h'=>Z1 h.size 5 h' v' (Ot key b)∧Zg h.size h h':=by
 have sb0:=sb
 refine Zc.Zi (args:=[_,_]) Tryz.func67 rfl rfl rfl rfl ?_
 simp -implicitDefEqProofs only[go_sem,↓reduceIte]
 refine (lG T h v key 92 s (by omega) (by omega) tk).use ?_
 rintro v1 h1 ⟨o1,b1⟩
 have s1:=b1.size
 simp -implicitDefEqProofs only[go_sem,↓reduceIte]
 refine (lG T h1 v key 54 (s.Z9 b1) (by omega) (by omega) (tk.Ji b1)).use ?_
 rintro v2 h2 ⟨o2,b2⟩
 have s2:=b2.size
 have B2:=b1.trans (b2.mono s1)
 have o1':=o1.Z9 b2 (Nat.le_refl _)
 have l1:=ZZ key 92
 have l2:=ZZ key 54
 simp -implicitDefEqProofs only[go_sem,↓reduceIte]
 refine Zw (E:=5) (B:=h1.size) Yu Tryz.underlying34 Wm Vf Ve o2 s2 (sb.Z9 B2) (by rw[l2];omega) ?_
 intro v3 h3 o3 b3 _
 have s3:=b3.size
 have B3:=B2.trans (b3.mono s1)
 have Zly:=o1.Z9 (b2.trans b3) (Nat.le_refl _)
 simp -implicitDefEqProofs only[go_sem,↓reduceIte]
 refine (Gs T h3 v3 _ o3.bs (by rw[List.length_append,l2];omega) (tk.Ji B3)).use ?_
 rintro v4 h4 ⟨o4,b4⟩
 have B4:=B3.trans (b4.mono (by omega))
 have o14:=Zly.Z9 b4 (Nat.le_refl _)
 simp -implicitDefEqProofs only[go_sem,↓reduceIte]
 refine Zw (E:=5) (B:=h.size) Yu Tryz.underlying34 Wm Vf Ve o14 B4.size o4.bs (by rw[l1,Jp];omega) ?_
 intro v5 h5 o5 b5 _
 have B5:=B4.trans b5
 simp -implicitDefEqProofs only[go_sem,↓reduceIte]
 refine (Gs T h5 v5 _ o5.bs (by rw[List.length_append,l1,Jp];omega) (tk.Ji B5)).use ?_
 rintro v6 h6 ⟨o6,b6⟩
 simp -implicitDefEqProofs only[go_sem,↓reduceIte]
 exact⟨o6.mono B5.size,B5.trans (b6.mono B5.size)⟩
def LJ (m n:Nat):Int:=if 256<m∨2000<n then 1 else 0
def lH (B:Nat) (h':Hp) (v':Value) (key b:List Nat):Prop:=∃w,v'=.tuple [w,.int .i64 (LJ key.length b.length)].toArray∧Z1 B 5 h' w (if LJ key.length b.length=0 then Ot key b else [])
theorem eO (T:World) (h:Hp) (v u:Value) (key b:List Nat) (s:Bs h v key) (sb:Bs h u b) (tk:Tk h) :
  Zc Tryz.prog T 71 #[v,u] h fun v' h'=>lH h.size h' v' key b∧Zg h.size h h':=by
 obtain⟨p,cp,rfl,Ur⟩:=s.open
 obtain⟨q,cq,rfl,Iu⟩:=sb.open
 refine Zc.Zi (args:=[_,_]) Tryz.func71 rfl rfl rfl rfl ?_
 unfold lH LJ
 by_cases e1:256<key.length
 ·have gT:256<(key.length:Int):=by omega
  rw[if_pos (.inl e1)]
  simp -implicitDefEqProofs only[go_sem,↓reduceIte,gT]
  exact⟨_,rfl,Z1.nil _ _ _⟩
 ·have gT:¬256<(key.length:Int):=by omega
  by_cases e2:2000<b.length
  ·have oq:2000<(b.length:Int):=by omega
   rw[if_pos (.inr e2)]
   simp -implicitDefEqProofs only[go_sem,↓reduceIte,gT,oq]
   exact⟨_,rfl,Z1.nil _ _ _⟩
  ·have oq:¬2000<(b.length:Int):=by omega
   rw[if_neg (by omega)]
   simp -implicitDefEqProofs only[go_sem,↓reduceIte,gT,oq]
   refine (BM T _ _ _ key b s sb (by omega) (by omega) tk).use ?_
   rintro w h1 ⟨o1,b1⟩
   simp -implicitDefEqProofs only[go_sem,↓reduceIte,b1]
   exact⟨_,rfl,o1⟩
theorem EH (T:World) (h:Hp) (v u:Value) (key b:List Nat) (s:Bs h v key) (sb:Bs h u b) (hk:key.length≤256) (hb:b.length≤2000) (tk:Tk h) :
  Zc Tryz.prog T 52 #[v,u] h fun v' h'=>(Bs h' v' ((Ot key b).take 16)∧VF v')∧Zg h.size h h':=by
 refine Zc.Zi (args:=[_,_]) Tryz.func52 rfl rfl rfl rfl ?_
 simp -implicitDefEqProofs only[go_sem,↓reduceIte]
 refine (eO T _ _ _ key b s sb tk).use ?_
 rintro _ h1 ⟨⟨w,rfl,o1⟩,b1⟩
 have e0:LJ key.length b.length=0:=by unfold LJ;rw[if_neg (by omega)]
 rw[e0,if_pos rfl]at o1
 rw[e0]
 have ml:=Wp key b
 generalize Ot key b=M at *
 obtain⟨p,c,rfl,hc⟩:=o1.open
 have sM:=o1.bs
 obtain⟨p',c',hv,hh⟩:=sM.Uk
 simp only[Value.slice.injEq]at hv
 obtain⟨rfl,_,rfl⟩:=hv
 obtain⟨bb,ob,rfl,_⟩:=hh (by intro e;rw[e]at ml;cases ml)
 have fin:=Bs.Sx sM (m:=16) (by omega) c
 rw[ml]at hc ⊢
 have xY:(16:Int)≤(c:Int):=by omega
 have AZ:¬c=0:=by omega
 simp -implicitDefEqProofs only[go_sem,↓reduceIte,xY,AZ,Nat.sub_zero,Nat.zero_mul,b1]
 exact⟨fin,show 16≤c by omega⟩
def lI (c r u:Nat):List Nat:=[c,r]++Qx u
def EI (key:List Nat) (c r u:Nat):List Nat:=lI c r u++(Ot key (lI c r u)).take 16
theorem Nw (c r u:Nat):(lI c r u).length=6:=rfl
theorem Nx (key:List Nat) (c r u:Nat):(EI key c r u).length=22:=by
 rw[EI,List.length_append,Nw,List.length_take,Wp];rfl
def UU (kl:Nat) (c r u:Int):Int:=if kl≠32 then 1 else XR c r u
def BN (B:Nat) (h':Hp) (v':Value) (key:List Nat) (c r u:Int):Prop:=∃w,v'=.tuple [w,.int .i64 (UU key.length c r u)].toArray∧Z1 B 5 h' w (if UU key.length c r u=0 then EI key c.toNat r.toNat u.toNat else [])
theorem EJ {c r u:Int} (h:XR c r u=0):∃c' r' u':Nat,c=c'∧r=r'∧u=u'∧c'<8∧r'<8∧u'≤1048576:=by
 unfold XR at h
 split at h
 ·cases h
 ·exact⟨c.toNat,r.toNat,u.toNat,by omega,by omega,by omega,by omega,by omega,by omega⟩
theorem lJ (T:World) (h:Hp) (v:Value) (key:List Nat) (c r u:Int) (s:Bs h v key) (tk:Tk h) :
  Zc Tryz.prog T 41 #[v,.agg (VH c r u).toArray] h fun v' h'=>BN h.size h' v' key c r u∧Zg h.size h h':=by
 obtain⟨p,cp,rfl,_⟩:=s.open
 refine Zc.Zi (args:=[_,_]) Tryz.func41 rfl rfl rfl rfl ?_
 unfold BN VH
 by_cases hk:key.length=32
 case neg=>
  have ee:UU key.length c r u=1:=by unfold UU;rw[if_pos hk]
  have RX:¬(key.length:Int)=32:=by omega
  rw[ee]
  simp -implicitDefEqProofs only[go_sem,↓reduceIte,RX]
  exact⟨_,rfl,Z1.nil _ _ _⟩
 have RX:(key.length:Int)=32:=by omega
 have ee:UU key.length c r u=XR c r u:=by unfold UU;rw[if_neg (by omega)]
 rw[ee]
 simp -implicitDefEqProofs only[go_sem,↓reduceIte,RX]
 refine (Lh T _ c r u).use ?_
 rintro _ _ ⟨rfl,rfl⟩
 unfold VH
 by_cases q:XR c r u=0
 case neg=>
  simp -implicitDefEqProofs only[go_sem,↓reduceIte,q]
  exact⟨_,rfl,Z1.nil _ _ _⟩
 obtain⟨c,r,u,rfl,rfl,rfl,hc,hr,hu⟩:=EJ q
 rw[q]
 have ec:(c:Int)%256=(c:Int):=by omega
 have er:(r:Int)%256=(r:Int):=by omega
 simp only[Int.toNat_natCast]
 simp -implicitDefEqProofs only[go_sem,↓reduceIte,ec,er]
 obtain⟨h1,Yw⟩:=ZA ((h.push (.cells [Value.int .i64 c,.int .i64 r,.int .i64 u].toArray 75)).push (.cells [Value.int .i64 c,.int .i64 r,.int .i64 u].toArray 75):Hp)
 have b1:Zg h.size h h1:=by rw[Yw];exact ((Zg.refl _ _).add _).add _
 have s1:h1.size=h.size+1+1:=by rw[Yw];simp
 rw[←s1,←Yw]
 clear Yw
 have Ij:∀x∈[c,r],x<256:=by
  intro x hx
  simp only[List.mem_cons,List.not_mem_nil,or_false]at hx
  omega
 have o2:Z1 h1.size 5 (h1.push (.cells (([c,r]:List Nat).map bv).toArray 5)) (.slice (some ⟨h1.size,0,none⟩) 2 2) [c,r]:=Z1.made Ij (Nat.le_refl _)
 have B2:Zg h1.size h1 (h1.push (.cells (([c,r]:List Nat).map bv).toArray 5)):=Zg.push (Nat.le_refl _) _
 refine (ak T _ h1.size _ [c,r] u o2 (by simp) (by simp) (by omega)).use ?_
 rintro w3 h3 ⟨o3,b3⟩
 have B3:=B2.trans b3
 have gS:Zg h.size h h3:=b1.trans (B3.mono (by omega))
 have o3':Z1 h1.size 5 h3 w3 (lI c r u):=o3
 have gl:=Nw c r u
 unfold EI
 generalize lI c r u=G at *
 simp -implicitDefEqProofs only[go_sem,↓reduceIte]
 rw[←RX]
 refine (EH T h3 _ w3 key G (s.Z9 gS) o3'.bs (by omega) (by omega) (tk.Ji gS)).use ?_
 rintro w4 h4 ⟨⟨s4,_⟩,b4⟩
 have s3:=B3.size
 have o34:=o3'.Z9 b4 (Nat.le_refl _)
 have Bh4:=gS.trans (b4.mono gS.size)
 simp -implicitDefEqProofs only[go_sem,↓reduceIte]
 refine Zw (E:=5) (B:=h1.size) Yu Tryz.underlying34 Wm Vf Ve o34 (by have:=b4.size;omega) s4 (by rw[gl,List.length_take];omega) ?_
 intro w5 h5 o5 b5 _
 have Bh5:=Bh4.trans (b5.mono (by omega))
 simp -implicitDefEqProofs only[go_sem,↓reduceIte,Bh5]
 exact⟨_,rfl,o5.mono (by omega)⟩
def Gt:List Value:=VH 0 0 0
def JX (key l:List Nat):Int:=if key.length≠32∨l.length≠22 then 1 else if (Ot key (l.take 6)).take 16≠l.drop 6 then 6 else XR (l.getD 0 0:Nat) (l.getD 1 0:Nat) (Xu l 2:Nat)
def Gu (key l:List Nat):List Value:=if JX key l=0 then VH (l.getD 0 0:Nat) (l.getD 1 0:Nat) (Xu l 2:Nat) else Gt
theorem LM (T:World) (h:Hp) (v u:Value) (key l:List Nat) (s:Bs h v key) (sl:Bs h u l) (cu:VF u) (tk:Tk h) :
  Zc Tryz.prog T 33 #[v,u] h fun v' h'=>v'=.tuple [.agg (Gu key l).toArray,.int .i64 (JX key l)].toArray∧Zg h.size h h':=by
 obtain⟨p,cp,rfl,_⟩:=s.open
 obtain⟨q,cq,rfl,hq⟩:=sl.Uk
 refine Zc.Zi (args:=[_,_]) Tryz.func33 rfl rfl rfl rfl ?_
 by_cases hk:key.length=32
 case neg=>
  have ee:JX key l=1:=by unfold JX;rw[if_pos (.inl hk)]
  have RX:¬(key.length:Int)=32:=by omega
  unfold Gu
  rw[ee]
  unfold Gt VH
  simp +contextual -implicitDefEqProofs only[go_sem,↓reduceIte,RX]
  (repeat' (first|exact Zg.refl _ _|assumption|refine Zg.add ?_ _|refine Zg.Zm ?_ (by first|omega|(simp;omega)) _|refine Zg.trans (by assumption) ?_))
 have RX:(key.length:Int)=32:=by omega
 by_cases hl:l.length=22
 case neg=>
  have ee:JX key l=1:=by unfold JX;rw[if_pos (.inr hl)]
  have DI:¬(l.length:Int)=22:=by omega
  unfold Gu
  rw[ee]
  unfold Gt VH
  simp +contextual -implicitDefEqProofs only[go_sem,↓reduceIte,RX,DI]
  (repeat' (first|exact Zg.refl _ _|assumption|refine Zg.add ?_ _|refine Zg.Zm ?_ (by first|omega|(simp;omega)) _|refine Zg.trans (by assumption) ?_))
 have DI:(l.length:Int)=22:=by omega
 obtain⟨b,o,rfl,hb,YO⟩:=hq (by intro e;rw[e]at hl;cases hl)
 have Qk:22≤cq:=by have:l.length≤cq:=cu;omega
 have h6c:(6:Int)≤(cq:Int):=by omega
 have AZ:¬cq=0:=by omega
 have hc6:¬cq=6:=by omega
 obtain⟨y0,dM⟩:∃y:Int,y=((l.getD 0 0:Nat):Int):=⟨_,rfl⟩
 obtain⟨yp,Gg⟩:∃y:Int,y=((l.getD 1 0:Nat):Int):=⟨_,rfl⟩
 obtain⟨y2',hy2⟩:∃y:Int,y=((l.getD 2 0:Nat):Int):=⟨_,rfl⟩
 obtain⟨y3,hy3⟩:∃y:Int,y=((l.getD 3 0:Nat):Int):=⟨_,rfl⟩
 obtain⟨y4,hy4⟩:∃y:Int,y=((l.getD 4 0:Nat):Int):=⟨_,rfl⟩
 obtain⟨y5,hy5⟩:∃y:Int,y=((l.getD 5 0:Nat):Int):=⟨_,rfl⟩
 obtain⟨yY,hyY⟩:∃y:Int,y=((Xu l 2:Nat):Int):=⟨_,rfl⟩
 have z0:=ZH sl.byte 0
 have z1:=ZH sl.byte 1
 have z2:=ZH sl.byte 2
 have z3:=ZH sl.byte 3
 have z4:=ZH sl.byte 4
 have z5:=ZH sl.byte 5
 have eo:Unit→Z7 .or .i64 (Z7 .or .i64 (Z7 .or .i64 (Yx .i64 y2' 24) (Yx .i64 y3 16)) (Yx .i64 y4 8)) y5=yY:=fun _=>by
  rw[hy2,hy3,hy4,hy5,hyY];exact HY z2 z3 z4 z5
 have yb:(0≤y0∧y0<256)∧(0≤yp∧yp<256)∧(0≤y2'∧y2'<256)∧(0≤y3∧y3<256)∧(0≤y4∧y4<256)∧(0≤y5∧y5<256):=by
  rw[dM,Gg,hy2,hy3,hy4,hy5];omega
 obtain⟨⟨ya1,ya2⟩,⟨ya3,ya4⟩,⟨ya5,ya6⟩,⟨ya7,ya8⟩,⟨ya9,ZwB⟩,ZwC,ZwD⟩:=yb
 have ee:JX key l=if (Ot key (l.take 6)).take 16≠l.drop 6 then 6 else XR y0 yp yY:=by
  rw[dM,Gg,hyY];unfold JX;rw[if_neg (by omega)]
 have eT:Gu key l=if JX key l=0 then VH y0 yp yY else Gt:=by rw[dM,Gg,hyY];rfl
 have eQ:∀i,i<22→V.hc h ⟨b,o+i,none⟩=some (.int .u8 (l.getD i 0:Nat)):=fun i hi=>YO i (by omega)
 have q0:=eQ 0 (by omega)
 have q1:=eQ 1 (by omega)
 have q2:=eQ 2 (by omega)
 have q3:=eQ 3 (by omega)
 have q4:=eQ 4 (by omega)
 have q5:=eQ 5 (by omega)
 rw[←dM]at q0
 rw[←Gg]at q1
 rw[←hy2]at q2
 rw[←hy3]at q3
 rw[←hy4]at q4
 rw[←hy5]at q5
 obtain⟨h1,Yw⟩:=ZA (h.push (.cells Gt.toArray 75):Hp)
 have b1:Zg h.size h h1:=by rw[Yw];exact Zg.push (Nat.le_refl _) _
 have s1:h1.size=h.size+1:=by rw[Yw];simp
 have x1:h1[h.size]? = some (.cells Gt.toArray 75):=by rw[Yw];exact Zb
 have e1:h.push (.cells #[Value.int .i64 0,.int .i64 0,.int .i64 0] 75)=h1:=Yw.symm
 rw[hl]at sl YO ⊢
 simp -implicitDefEqProofs only[go_sem,↓reduceIte,RX,DI]
 rw[e1]
 clear e1 Yw
 have sl1:=sl.Z9 b1
 have s61:Bs h1 (.slice (some ⟨b,o,none⟩) 6 cq) (l.take 6):=by
  rw[←hl]at sl1;exact Bs.Sx sl1 (by omega) cq
 have t6:(l.take 6).length≤2000:=by rw[List.length_take];omega
 obtain⟨M,hM⟩:=ZA ((Ot key (l.take 6)).take 16)
 have ml:M.length≤140737488355328:=by rw[hM,List.length_take];omega
 rw[←hM]at ee
 refine VS.mono (N:=fun F g=>Zg h1.size h1 g∧F 1=.slice (some ⟨b,o,none⟩) 22 cq∧F 4=.pointer (some ⟨h.size,0,none⟩)∧F 24=.bool (!decide (M=l.drop 6))) ?_ ?_ (fun _ _ _ h=>h) (fun _ _ h=>h)
 ·refine VS.w (h1.size) [] (.q 0 (.q 1 (.q 2 (.q 4 (.q 5 (.s 3 (.s 6 (.q 7 .nil)))))))) mixed (by kernel_rfl) ?_
  simp -implicitDefEqProofs only[go_sem,↓reduceIte,h6c,AZ,hc6,Nat.sub_zero,Nat.zero_mul]
  rw[←RX]
  refine (EH T h1 _ _ key (l.take 6) (s.Z9 b1) s61 (by omega) t6 (tk.Ji b1)).use ?_
  rintro w h2 ⟨⟨s2,_⟩,b2⟩
  rw[←hM]at s2
  have sl2:=VP (sl1.Z9 b2) (k:=6) (by omega) hl (cq-6)
  simp -implicitDefEqProofs only[go_sem,↓reduceIte,b2]
  refine (HW T h2 w _ M (l.drop 6) s2 sl2 ml).pure ?_
  simp -implicitDefEqProofs only[go_sem,↓reduceIte,b2]
 rintro F g ⟨bg,f1,f4,f24⟩
 have Bg:=b1.trans (bg.mono (by omega))
 have k0:g[h.size]? = some (.cells Gt.toArray 75):=bg.get (by omega) x1
 have k1:rd g ⟨h.size,0,none⟩ 3=some Gt:=Zq k0 rfl
 have k2:=ZR k0 0
 have SU:=Za k0
 clear hM
 unfold Gt VH at *
 by_cases hm:M=l.drop 6
 case neg=>
  have hd:decide (M=l.drop 6)=false:=decide_eq_false hm
  rw[hd]at f24
  rw[if_pos hm]at ee
  rw[eT,ee]
  simp +contextual -implicitDefEqProofs only[go_sem,↓reduceIte,f1,f4,f24,k1,k2]
  exact Bg.Zm (Nat.le_refl _) _
 have hd:decide (M=l.drop 6)=true:=decide_eq_true hm
 rw[hd]at f24
 rw[if_neg (fun hn=>hn hm)]at ee
 have e0:V.hc g ⟨b,o,none⟩=some (.int .u8 y0):=by rw[Bg.hc (by exact hb)];exact q0
 have e1:V.hc g ⟨b,o+1,none⟩=some (.int .u8 yp):=by rw[Bg.hc (by exact hb)];exact q1
 have e2:V.hc g ⟨b,o+2,none⟩=some (.int .u8 y2'):=by rw[Bg.hc (by exact hb)];exact q2
 have e3:V.hc g ⟨b,o+3,none⟩=some (.int .u8 y3):=by rw[Bg.hc (by exact hb)];exact q3
 have e4:V.hc g ⟨b,o+4,none⟩=some (.int .u8 y4):=by rw[Bg.hc (by exact hb)];exact q4
 have e5:V.hc g ⟨b,o+5,none⟩=some (.int .u8 y5):=by rw[Bg.hc (by exact hb)];exact q5
 rw[eT,ee]
 clear dM Gg hy2 hy3 hy4 hy5 hyY
 have hbg:b<g.size:=Nat.lt_of_lt_of_le hb Bg.size
 simp -implicitDefEqProofs only[go_sem,↓reduceIte,f1,f4,f24]
 refine VS.w (g.size) [32] (.q 0 (.q 1 (.q 2 (.q 3 (.q 4 (.q 5 (.q 6 (.q 7 (.q 8 (.q 9 (.q 10 (.q 11 (.q 12 (.q 13 (.q 14 (.q 15 (.q 16 (.q 17 (.q 18 (.q 19 (.q 20 (.q 21 (.q 22 (.q 23 (.q 24 (.q 25 (.q 26 (.q 27 (.q 28 (.q 29 (.q 30 (.s 31 (.w 32 .nil))))))))))))))))))))))))))))))))) mixed (by kernel_rfl) ?_
 simp -implicitDefEqProofs only[go_sem,↓reduceIte,f1,f4,hbg,e0,e1,e2,e3,e4,e5,eo ()]
 refine (Lh T _ y0 yp yY).use ?_
 rintro _ _ ⟨rfl,rfl⟩
 unfold VH
 obtain⟨E,hE⟩:=ZA (XR y0 yp yY)
 rw[←hE]
 by_cases q:E=0
 ·rw[if_pos q]
  simp +contextual -implicitDefEqProofs only[go_sem,↓reduceIte,q,f1,f4,k1,k2,SU]
  (repeat' (first|exact Zg.refl _ _|assumption|refine Zg.add ?_ _|refine Zg.Zm ?_ (by first|omega|(simp;omega)) _|refine Zg.trans (by assumption) ?_))
 ·rw[if_neg q]
  simp +contextual -implicitDefEqProofs only[go_sem,↓reduceIte,q,f1,f4,k1,k2,SU]
  (repeat' (first|exact Zg.refl _ _|assumption|refine Zg.add ?_ _|refine Zg.Zm ?_ (by first|omega|(simp;omega)) _|refine Zg.trans (by assumption) ?_))
def XF (s a i:Nat) (n:Int):Int:=if 256<s∨256<a∨256<i∨n<0∨512<n then 1 else 0
theorem eW {p:Option Addr} {m c k c' b:Nat} (h:ZN (.slice p m c)=some b) (hc:c'≠0):ZN (.slice p k c')=some b:=by
 cases p with
 | none=>simp[ZN]at h
 | some a=>
  simp only[ZN]at h ⊢
  split at h
  ·cases h
  ·rw[if_neg hc];exact h
theorem lK {p:Option Addr} {m c b:Nat} (h:ZN (.slice p m c)=some b):c≠0:=by
 cases p with
 | none=>simp[ZN]at h
 | some a=>
  simp only[ZN]at h
  split at h
  ·cases h
  ·assumption
def aL (B:Nat) (h':Hp) (v':Value) (Xv Wa info:List Nat) (n:Int):Prop:=∃w,v'=.tuple [w,.int .i64 (XF Xv.length Wa.length info.length n)].toArray∧VF w∧Bs h' w (if XF Xv.length Wa.length info.length n=0 then Lt Xv Wa info n.toNat else [])∧∀b,ZN w=some b→B≤b
theorem LN (T:World) (h:Hp) (vs va vi':Value) (Xv Wa info:List Nat) (n:Int) (ss:Bs h vs Xv) (sa:Bs h va Wa) (si:Bs h vi' info) (tk:Tk h) :
  Zc Tryz.prog T 45 #[vs,va,vi',.int .i64 n] h fun v' h'=>aL h.size h' v' Xv Wa info n∧Zg h.size h h':=by
 obtain⟨p1,c1,rfl,_⟩:=ss.open
 obtain⟨p2,c2,rfl,_⟩:=sa.open
 obtain⟨p3,c3,rfl,_⟩:=si.open
 refine Zc.Zi (args:=[_,_,_,_]) Tryz.func45 rfl rfl rfl rfl ?_
 unfold aL
 by_cases e1:256<Xv.length
 ·have gT:256<(Xv.length:Int):=by omega
  have ee:XF Xv.length Wa.length info.length n=1:=by unfold XF;rw[if_pos (.inl e1)]
  rw[ee]
  simp -implicitDefEqProofs only[go_sem,↓reduceIte,gT]
  exact⟨_,rfl,Nat.le_refl _,(Z1.nil 0 5 _).bs,fun b hb=>by simp[ZN]at hb⟩
 have gT:¬256<(Xv.length:Int):=by omega
 by_cases e2:256<Wa.length
 ·have oq:256<(Wa.length:Int):=by omega
  have ee:XF Xv.length Wa.length info.length n=1:=by unfold XF;rw[if_pos (.inr (.inl e2))]
  rw[ee]
  simp -implicitDefEqProofs only[go_sem,↓reduceIte,gT,oq]
  exact⟨_,rfl,Nat.le_refl _,(Z1.nil 0 5 _).bs,fun b hb=>by simp[ZN]at hb⟩
 have oq:¬256<(Wa.length:Int):=by omega
 by_cases e3:256<info.length
 ·have e3':256<(info.length:Int):=by omega
  have ee:XF Xv.length Wa.length info.length n=1:=by unfold XF;rw[if_pos (.inr (.inr (.inl e3)))]
  rw[ee]
  simp -implicitDefEqProofs only[go_sem,↓reduceIte,gT,oq,e3']
  exact⟨_,rfl,Nat.le_refl _,(Z1.nil 0 5 _).bs,fun b hb=>by simp[ZN]at hb⟩
 have e3':¬256<(info.length:Int):=by omega
 by_cases e4:n<0
 ·have ee:XF Xv.length Wa.length info.length n=1:=by unfold XF;rw[if_pos (.inr (.inr (.inr (.inl e4))))]
  rw[ee]
  simp -implicitDefEqProofs only[go_sem,↓reduceIte,gT,oq,e3',e4]
  exact⟨_,rfl,Nat.le_refl _,(Z1.nil 0 5 _).bs,fun b hb=>by simp[ZN]at hb⟩
 by_cases e5:512<n
 ·have ee:XF Xv.length Wa.length info.length n=1:=by unfold XF;rw[if_pos (.inr (.inr (.inr (.inr e5))))]
  rw[ee]
  simp -implicitDefEqProofs only[go_sem,↓reduceIte,gT,oq,e3',e4,e5]
  exact⟨_,rfl,Nat.le_refl _,(Z1.nil 0 5 _).bs,fun b hb=>by simp[ZN]at hb⟩
 have ee:XF Xv.length Wa.length info.length n=0:=by unfold XF;rw[if_neg (by omega)]
 obtain⟨m,rfl⟩:∃m:Nat,n=m:=⟨n.toNat,by omega⟩
 rw[ee,Int.toNat_natCast]
 simp -implicitDefEqProofs only[go_sem,↓reduceIte,gT,oq,e3',e4,e5]
 refine (BM T _ _ _ Wa Xv sa ss (by omega) (by omega) tk).use ?_
 rintro vk h1 ⟨ok,b1⟩
 have s1:=b1.size
 obtain⟨key,rD⟩:=ZA (Ot Wa Xv)
 rw[←rD]at ok
 have kl:key.length=32:=by rw[rD];exact Wp _ _
 have hm:m≤512:=by omega
 have eS:Lt Xv Wa info m=(Wq key info 16).take m:=by rw[Lt,rD]
 have dt:∀i,m≤32*i→i≤16→(Wq key info 16).take m=(Wq key info i).take m:=fun i h1 h2=>Ls key info m i 16 h1 h2
 rw[eS]
 clear eS rD
 simp -implicitDefEqProofs only[go_sem,↓reduceIte]
 refine VS.ZW (fun F g=>Zg h1.size h1 g∧F 2=.slice p3 info.length c3∧F 3=.int .i64 m∧F 10=vk∧∃i:Nat,32*i<m+32∧F 13=.int .i64 ((i+1:Nat):Int)∧Z1 h1.size 5 g (F 11) (Wq key info i)∧Z1 h1.size 5 g (F 12) (SV key info i)∧∀b,ZN (F 12)=some b→¬ZN (F 11)=some b)
  (fun F _=>m+32-BK (F 11)) rfl ⟨Zg.refl _ _,rfl,rfl,rfl,0,by omega,rfl,Z1.nil _ _ _,Z1.nil _ _ _,fun b hb=>by cases hb⟩ ?_
 rintro F g ⟨hg,f2,f3,f10,i,hi,f13,oa,ot,ZdB⟩
 have SU:=hg.size
 have Bg:=b1.trans (hg.mono s1)
 obtain⟨pa,ca,f11,hca⟩:=oa.open
 have al:=Uv key info i
 rw[al]at f11 hca
 by_cases ZC:32*i<m
 ·have ZL:((32*i:Nat):Int)<(m:Int):=by omega
  have tl:=kq key info i
  have i16:i≤16:=by omega
  have eT:SV key info (i+1)=Ot key (SV key info i++info++[(i+1)%256]):=rfl
  have eA:Wq key info (i+1)=Wq key info i++SV key info (i+1):=rfl
  obtain⟨lt,hlT⟩:∃x,x=SV key info i:=⟨_,rfl⟩
  rw[←hlT]at ot tl eT
  have Sc:(i+1)%256<256:=Nat.mod_lt _ (by decide)
  obtain⟨X,hX⟩:=ZA ((i+1)%256)
  rw[←hX]at eT Sc
  have ex:((i+1:Nat):Int)%256=(X:Int):=by rw[hX];rfl
  clear hX hlT
  obtain⟨xi,uw⟩:∃x:Int,x=((i+1:Nat):Int):=⟨_,rfl⟩
  rw[←uw]at ex f13
  simp -implicitDefEqProofs only[go_sem,↓reduceIte,f2,f3,f10,f11,f13,ZL,ex]
  refine JP (E:=5) (B:=h1.size) Yu Tryz.underlying34 Wm Vf Ve ot SU (si.Z9 Bg) (by omega) ?_
  intro w2 g2 o2 b2 bt2 bk2
  have s2:=b2.size
  have oa2:=oa.MV bt2 (fun b hb e=>ZdB b e hb)
  have ol2:(lt++info).length≤400:=by rw[List.length_append];omega
  have ZlB:∀b,ZN w2=some b→¬ZN (F 11)=some b:=fun b hb e=>by
   rcases bk2 b hb with q|q
   ·exact ZdB b q e
   ·have:=oa.own.lt b e;omega
  simp -implicitDefEqProofs only[go_sem,↓reduceIte,f2,f3,f10,f13,ex]
  refine JP (E:=5) (B:=h1.size) Yu Tryz.underlying34 Wm Vf Ve (o2.push _) (by simp;omega) (Bs.one Sc 1) (by simp only[List.length_singleton];omega) ?_
  intro w3 g3 o3 b3 bt3 bk3
  have s3:=b3.size
  simp only[Array.size_push]at s3 bk3
  have oa3:=(oa2.push (.cells [Value.int .u8 ((X:Nat):Int)].toArray 5)).MV bt3 (fun b hb e=>ZlB b e hb)
  have Bg3:Zg h1.size h1 g3:=((hg.trans b2).Yh (by omega) _).trans b3
  have B3:=b1.trans (Bg3.mono s1)
  have ok3:=ok.Z9 Bg3 (Nat.le_refl _)
  simp -implicitDefEqProofs only[go_sem,↓reduceIte,f2,f3,f10,f13]
  refine (BM T g3 vk w3 key _ ok3.bs o3.bs (by omega) (by rw[List.length_append];simp only[List.length_singleton];omega) (tk.Ji B3)).use ?_
  rintro w4 g4 ⟨o4,b4⟩
  rw[←eT]at o4
  have s4:=b4.size
  have oa4:=oa3.Z9 b4 (Nat.le_refl _)
  have Bg4:=Bg3.trans (b4.mono (by omega))
  rw[f11]at oa4
  have tl1:=VK key info i
  simp -implicitDefEqProofs only[go_sem,↓reduceIte,f2,f3,f10,f11,f13]
  refine JP (E:=5) (B:=h1.size) Yu Tryz.underlying34 Wm Vf Ve oa4 Bg4.size o4.bs (by rw[al,tl1];omega) ?_
  intro w5 g5 o5 b5 bt5 bk5
  have s5:=b5.size
  obtain⟨p5,c5,rfl,_⟩:=o5.open
  have yq:∀b,ZN w4=some b→¬ZN (F 11)=some b:=fun b hb e=>by
   have q1:=o4.own.ZE b hb
   have q2:=oa3.own.lt b e
   omega
  rw[f11]at yq
  have o4':=(o4.mono (show h1.size≤g3.size by omega)).MV bt5 (fun b hb e=>yq b hb e)
  simp -implicitDefEqProofs only[go_sem,↓reduceIte,f2,f3,f10,f13]
  refine⟨⟨Bg4.trans b5,f2,f3,f10,i+1,by omega,?_,?_,o4',fun b hb e=>?_⟩,?_⟩
  ·show Value.int .i64 _=_
   rw[uw];rfl
  ·rw[eA];exact o5
  ·have e':ZN (Value.slice p5 (Wq key info i++SV key info (i+1)).length c5)=some b:=e
   rcases bk5 b e' with q|q
   ·exact yq b hb q
   ·have:=o4.own.lt b hb;omega
  ·simp only[BK,Zl,↓reduceIte,Nat.reduceEqDiff,f11,List.length_append,al,tl1];omega
 ·have YF:¬((32*i:Nat):Int)<(m:Int):=by omega
  have e6:=dt i (by omega) (by omega)
  rw[e6]
  have oab:=oa.bs
  have oaB:=oa.own.ZE
  rw[f11]at oab oaB
  rw[←al]at oab
  have gK:(m:Int)≤(ca:Int):=by omega
  have hm0:(0:Int)≤(m:Int):=by omega
  have fin:=Bs.Sx oab (m:=m) (by rw[al];omega) m
  simp -implicitDefEqProofs only[go_sem,↓reduceIte,f2,f3,f11,YF,gK,hm0,Bg]
  exact⟨_,rfl,Nat.le_refl _,fin,fun b hb=>Nat.le_trans (by omega) (oaB b (eW hb (by have:=lK hb;omega)))⟩
def ZdC (bf:List Nat) (k c s n v:Int) (a b:Nat):List Nat:=((bf++Zx [k.toNat,c.toNat,s.toNat,n.toNat,v.toNat])++Qx a)++Qx b
def ZdD (bf:List Nat) (k c s n v:Int) (a b:Nat):List Nat:=TF (ZdC bf k c s n v a b)
structure Qd where
 k:Int
 c:Int
 s:Int
 n:Int
 v:Int
structure Etv where
 x:Qd
 a:Int
 b:Int
 sum:List Nat
structure Chn where
 cs:List Value
 sum:List Nat
 out:List Etv
def Vq (cs:List Value) (x:Qd):ZcM:=US cs x.k.toNat x.c.toNat x.s.toNat x.n.toNat x.v.toNat
def PK (cs:List Value) (x:Qd):Int:=Nm cs x.k x.c x.s x.n x.v
def ZlG (cs:List Value) (sum:List Nat) (x:Qd):List Nat:=ZdD sum x.k x.c x.s x.n x.v (Vq cs x).code.toNat (Vq cs x).val.toNat
theorem eY {cs:List Value} {x:Qd} (h:PK cs x=0):Ql cs=false∧YL x.k x.c x.s x.n x.v=0:=by
 unfold PK Nm at h
 split at h
 ·cases h
 ·rename_i q
  exact⟨by simpa using q,h⟩
theorem EK:∀{ks:List (Option IntKind)} {vs:List Value} (i:Nat) {k:Option IntKind},Yq ks vs=true→ks[i]? = some k→∃v,nth vs i=some v∧Ud k v=true:=by
 intro ks
 induction ks with
 | nil=>intro vs i k _ h;simp at h
 | cons a ks ih=>
  intro vs i k hf hk
  cases vs with
  | nil=>simp[Yq]at hf
  | cons x vs=>
   simp only[Yq,Bool.and_eq_true]at hf
   cases i with
   | zero=>simp only[List.getElem?_cons_zero,Option.some.injEq]at hk;subst hk;exact⟨x,rfl,hf.1⟩
   | succ i=>exact ih i hf.2 (by simpa using hk)
theorem BO {cs:List Value} (hf:Yq XT cs=true):∀i,i<32→nth cs i=some (.int .i64 (ci cs i)):=by
 intro i hi
 have:∀i<32,XT[i]? = some (some .i64):=by decide
 obtain⟨v,h1,h2⟩:=EK i hf (this i hi)
 unfold ci
 rw[h1]
 cases v<;>simp[Ud]at h2
 rw[h2]
theorem EL {cs:List Value} (hf:Yq XT cs=true):∀i,32≤i→i<40→nth cs i=some (.bool (cb cs i)):=by
 intro i h1 h2
 have:∀j<8,XT[32+j]? = some none:=by decide
 have e:=this (i-32) (by omega)
 rw[show 32+(i-32)=i by omega]at e
 obtain⟨v,h1,h2⟩:=EK i hf e
 unfold cb
 rw[h1]
 cases v<;>simp[Ud]at h2
 rfl
def lL (st:Chn) (e:Etv):Prop:=¬PK st.cs e.x=0∨¬((Vq st.cs e.x).code=e.a∧(Vq st.cs e.x).val=e.b)∨¬ZlG st.cs st.sum e.x=e.sum
instance (st:Chn) (e:Etv):Decidable (lL st e):=by unfold lL;infer_instance
variable {Q Q':Value→List Nat→Prop}
end Go.Proofs.YtkfhncfkagcamaaGreatDoor
namespace Go.Proofs.YtkfhncfkagcamaaGreatDoor
open Go Go.V
set_option linter.unusedSimpArgs false
set_option linter.unusedVariables false
set_option maxRecDepth 100000
theorem rE {cs:List Value} (hf:Yq XT cs=true) (x:Qd):∃(D:List Value) (a b:Int),doL cs x.k x.c x.s x.n x.v=[.agg D.toArray,.agg [.int .i64 a,.int .i64 b].toArray,.int .i64 (PK cs x)]∧Yq XT D=true∧(PK cs x=0→D=(Vq cs x).cells∧a=(Vq cs x).code∧b=(Vq cs x).val):=by
 unfold doL PK Vq
 by_cases e:Nm cs x.k x.c x.s x.n x.v=0
 ·rw[if_pos e]
  refine⟨_,_,_,by rw[e],?_,fun _=>⟨rfl,rfl,rfl⟩⟩
  have e2:YL x.k x.c x.s x.n x.v=0:=(eY (cs:=cs) (x:=x) e).2
  obtain⟨k,c,s,n,v,e1,e2,e3,e4,e5,y1,y2,y3,y4,y5⟩:=Py e2
  rw[e1,e2,e3,e4,e5]
  exact dO hf _ _ _ _ _ (by simpa using y4) (by simpa using y2)
 ·rw[if_neg e]
  exact⟨_,_,_,rfl,rfl,fun h=>absurd h e⟩
end Go.Proofs.YtkfhncfkagcamaaGreatDoor
