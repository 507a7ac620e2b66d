/- One block of the digest: what the document computes; no condition but those in the statements. -/
import Derived.Test.YtkfhncfkagcamaaGreatDoorTab
import Derived.Test.YtkfhncfkagcamaaGreatDoorW18
import Derived.Test.YtkfhncfkagcamaaGreatDoorBytes
import Derived.Test.YtkfhncfkagcamaaGreatDoorTape
import Derived.Test.YtkfhncfkagcamaaGreatDoorW12
import Derived.Test.YtkfhncfkagcamaaGreatDoorPik
import Derived.Test.YtkfhncfkagcamaaGreatDoorLchks
import Derived.Test.YtkfhncfkagcamaaGreatDoorW14
import Derived.Test.YtkfhncfkagcamaaGreatDoorVst
namespace Go.Proofs.YtkfhncfkagcamaaGreatDoor
open Go Go.V
set_option linter.unusedSimpArgs false
set_option linter.unusedVariables false
set_option maxRecDepth 100000
abbrev NT (h:Hp) (v:Value) (l:List Nat):Prop:=Ts (fun x=>[nv x]) 1 h v l
theorem XF (T:World) (h:Hp) (x n:Nat) (hx:x<4294967296) (hn:n≤32) :
  Zd Tryz.prog T 117 #[.int .u32 x,.int .i64 n] h fun v' h'=>v'=.int .u32 (rr x n:Nat)∧h'=h:=by
 refine Zd.Zi (args:=[_,_]) Tryz.func117 rfl rfl rfl rfl ?_
 have e1:=MH x (32-n) (by omega)
 have e2:=QZ x n hn
 have e3:(32:Int)-n=((32-n:Nat):Int):=by omega
 have e4:=TI (x/2 ^ n) (x*2 ^ (32-n)%4294967296) (Nat.lt_of_le_of_lt (Nat.div_le_self _ _) hx) (by omega)
 have e5:¬(n:Int)<0:=by omega
 have e6:¬((32-n:Nat):Int)<0:=by omega
 have e7:=bY hx (show 32-n≤32 by omega)
 rw[show 32-(32-n)=n by omega,Nat.or_comm]at e7
 rw[e7]at e4
 unfold rr
 simp +contextual -implicitDefEqProofs only[go_sem,↓reduceIte]
 refine VS.q mixed (by kernel_rfl) ?_
 simp +contextual -implicitDefEqProofs only[go_sem,↓reduceIte,e3,e1,e2,e4,e5,e6]
theorem tZ {a b c d:Nat} (ha:a<256) (hb:b<256) (hc:c<256) (hd:d<256) :
  Z8 .or .u32 (Z8 .or .u32 (Z8 .or .u32 (Yz .u32 a 24) (Yz .u32 b 16)) (Yz .u32 c 8)) d=((a*16777216+b*65536+c*256+d:Nat):Int):=by
 have sb:∀{x k:Nat},x<256→k≤24→Yz .u32 (x:Int) (k:Int)=((x*2 ^ k:Nat):Int):=by
  intro x k hx hk
  rw[MH x k (by omega),Nat.mod_eq_of_lt]
  have:2 ^ k≤2 ^ 24:=Nat.pow_le_pow_right (by omega) hk
  have h2:x*2 ^ k≤255*2 ^ 24:=Nat.mul_le_mul (by omega) this
  omega
 have e1:Yz .u32 (a:Int) 24=((a*16777216:Nat):Int):=sb (k:=24) ha (by omega)
 have e2:Yz .u32 (b:Int) 16=((b*65536:Nat):Int):=sb (k:=16) hb (by omega)
 have e3:Yz .u32 (c:Int) 8=((c*256:Nat):Int):=sb (k:=8) hc (by omega)
 have f1:a*16777216 ||| b*65536=a*16777216+b*65536:=JP (k:=24) (by omega) (by omega)
 have f2:(a*16777216+b*65536) ||| c*256=a*16777216+b*65536+c*256:=JP (k:=16) (by omega) (by omega)
 rw[e1,e2,e3,TI _ _ (by omega) (by omega),f1,TI _ _ (by omega) (by omega),f2,TI _ _ (by omega) (by omega),JP (k:=8) (by omega) (by omega)]
theorem RI (xs zs:List Nat) (i:Nat) (hi:i<xs.length) (hz:xs.length=zs.length):(xs.take i++zs.drop i).set i (xs.getD i 0)=xs.take (i+1)++zs.drop (i+1):=by
 rw[List.getD_eq_getElem?_getD,List.getElem?_eq_getElem hi]
 exact Ox xs zs i hi hz
def PZ (b:List Nat) (i:Nat):List Nat:=JY b i++List.replicate (64-i) 0
theorem Ue {b:List Nat} {i:Nat} (hi:i≤64):(PZ b i).length=64:=by simp[PZ,XT];omega
theorem gz {b:List Nat} {i j:Nat} (hj:j<i):(PZ b i).getD j 0=(JY b i).getD j 0:=by
 rw[PZ,List.getD_eq_getElem?_getD,List.getElem?_append_left (by rw[XT];exact hj),←List.getD_eq_getElem?_getD]
theorem nf {b:List Nat} {i:Nat} (hi:i<64):(PZ b i).set i (GD b (JY b i))=PZ b (i+1):=by
 rw[PZ,List.set_append_right _ _ (by rw[XT];exact Nat.le_refl _),XT,Nat.sub_self,show 64-i=(64-(i+1))+1 by omega,List.replicate_succ,List.set_cons_zero,PZ,JY,List.append_assoc]
 rfl
theorem gC (b:List Nat):PZ b 64=JY b 64:=by simp[PZ]
theorem Hu {b:List Nat} (hb:SP b) {i j:Nat}:(JY b i).getD j 0<4294967296:=(LH hb i).getD j
theorem Dr (T:World) (h:Hp) (bd:Nat) (d:List Nat) (v:Value) (b:List Nat) (hd:d.length=8) (wd:SC d) (sb:Bs h v b) (hb:b.length=64) (tk:En 1 wv kN h)
  (hx:h[bd]? = some (.cells (d.map wv++[]).toArray 189)) (hg:1≠bd) :
  Zd Tryz.prog T 100 #[.pointer (some ⟨bd,0,none⟩),v] h fun v' h'=>VT (some bd) h h'∧h'[bd]? = some (.cells ((EC d b).map wv++[]).toArray 189):=by
 obtain⟨p,c,rfl,UA⟩:=sb.Us
 obtain⟨bb,ob,rfl,Ut,Yx⟩:=UA (by intro e;subst e;simp at hb)
 have AL:SP b:=sb.byte
 refine Zd.Zi (args:=[_,_]) Tryz.func100 rfl rfl rfl rfl ?_
 rw[hb]
 have Ak:=Za hx
 have b0:Ze h.size h (h.push (.cells (XS 64 [Value.int .u32 0]).toArray 206)):=Ze.push (Nat.le_refl _) _
 have x0:∀A:Array Value,A=((PZ b 0).map wv).toArray→(h.push (.cells A 206))[h.size]? = some (.cells ((PZ b 0).map wv++[]).toArray 206):=by
  rintro _ rfl;rw[List.append_nil];exact Zb
 simp -implicitDefEqProofs only[go_sem,↓reduceIte]
 refine VS.ZU (fun F g=>Ze h.size h g∧F 0=.pointer (some ⟨bd,0,none⟩)∧F 1=.slice (some ⟨bb,ob,none⟩) 64 c∧F 4=.pointer (some ⟨h.size,0,none⟩)∧∃i:Nat,i≤64∧F 16=.int .i64 i∧g[h.size]? = some (.cells ((PZ b i).map wv++[]).toArray 206))
  (fun F _=>64-(vi (F 16)).toNat) rfl ⟨b0,rfl,rfl,rfl,0,by omega,rfl,by exact x0 _ (by rfl)⟩ ?_
 clear b0 x0
 rintro F g ⟨cR,f0,f1,f4,i,hi,f16,hw⟩
 have hws:=Za hw
 by_cases ZA:i<64
 ·have ZH:(i:Int)<64:=by omega
  have fin:∀X:Nat,X=GD b (JY b i)→Jn g ⟨h.size,i,none⟩ (.int .u32 (X:Nat))=some (g.setIfInBounds h.size (.cells ((PZ b (i+1)).map wv++[]).toArray 206)):=by
   intro X hX
   have:=ZZ (f:=wv) hw (i:=i) (by rw[Ue hi];exact ZA) X rfl
   rw[hX,nf ZA]at this
   rw[hX];exact this
  by_cases h16:i<16
  ·have Zap:(i:Int)<16:=by omega
   have g0:∀j,j<64→hc g ⟨bb,ob+j,none⟩=some (.int .u8 (b.getD j 0:Nat)):=fun j hj=>by rw[cR.hc (by exact Ut)];exact Yx j (by omega)
   have e0:=g0 (4*i) (by omega)
   have e1:=g0 (4*i+1) (by omega)
   have e2:=g0 (4*i+2) (by omega)
   have e3:=g0 (4*i+3) (by omega)
   have y0:=ZF AL (4*i)
   have y1:=ZF AL (4*i+1)
   have y2:=ZF AL (4*i+2)
   have y3:=ZF AL (4*i+3)
   have t0:(4*(i:Int)).toNat=4*i:=by omega
   have t1:(4*(i:Int)+1).toNat=4*i+1:=by omega
   have t2:(4*(i:Int)+2).toNat=4*i+2:=by omega
   have t3:(4*(i:Int)+3).toNat=4*i+3:=by omega
   have eo:=fun (_:Unit)=>tZ y0 y1 y2 y3
   rw[show b.getD (4*i) 0*16777216+b.getD (4*i+1) 0*65536+b.getD (4*i+2) 0*256+b.getD (4*i+3) 0=Xp b (4*i) from rfl]at eo
   have m0:((b.getD (4*i) 0:Nat):Int)%4294967296=(b.getD (4*i) 0:Nat):=by omega
   have m1:((b.getD (4*i+1) 0:Nat):Int)%4294967296=(b.getD (4*i+1) 0:Nat):=by omega
   have m2:((b.getD (4*i+2) 0:Nat):Int)%4294967296=(b.getD (4*i+2) 0:Nat):=by omega
   have m3:((b.getD (4*i+3) 0:Nat):Int)%4294967296=(b.getD (4*i+3) 0:Nat):=by omega
   have cs:=fin (Xp b (4*i)) (by unfold GD;rw[XT,if_pos h16])
   simp -implicitDefEqProofs only[go_sem,↓reduceIte,f0,f1,f4,f16,ZH,Zap]
   refine VS.w (g.size) [35] (.q 0 (.q 1 (.q 2 (.q 3 (.q 4 (.q 5 (.q 6 (.q 7 (.q 8 (.q 9 (.q 10 (.q 11 (.q 12 (.q 13 (.q 14 (.q 15 (.q 16 (.q 17 (.q 18 (.q 19 (.q 20 (.q 21 (.q 22 (.q 23 (.q 24 (.q 25 (.q 26 (.q 27 (.q 28 (.q 29 (.q 30 (.q 31 (.q 32 (.q 33 (.q 34 (.w 35 .nil)))))))))))))))))))))))))))))))))))) mixed (by kernel_rfl) ?_
   have ZeU:bb<g.size:=Nat.lt_of_lt_of_le Ut cR.size
   simp -implicitDefEqProofs only[go_sem,↓reduceIte,f0,f1,f4,f16,e0,e1,e2,e3,t0,t1,t2,t3,m0,m1,m2,m3,eo (),ZeU,cs]
   refine⟨⟨cR.Zk (Nat.le_refl _) _,f0,f1,f4,i+1,ZA,rfl,ZO hw⟩,?_⟩
   simp only[vi,Zh,↓reduceIte,f16];omega
  ·have Zap:¬(i:Int)<16:=by omega
   have q1:=ZJ hw (i:=i-15) (by rw[Ue hi];omega)
   have q2:=ZJ hw (i:=i-2) (by rw[Ue hi];omega)
   have q3:=ZJ hw (i:=i-16) (by rw[Ue hi];omega)
   have q4:=ZJ hw (i:=i-7) (by rw[Ue hi];omega)
   rw[gz (by omega)]at q1 q2 q3 q4
   have eX:GD b (JY b i)=((JY b i).getD (i-16) 0+sg0 ((JY b i).getD (i-15) 0)+(JY b i).getD (i-7) 0+sg1 ((JY b i).getD (i-2) 0))%4294967296:=by
    unfold GD;rw[XT,if_neg h16]
   have cs:=fin (GD b (JY b i)) rfl
   have hA:(JY b i).getD (i-15) 0<4294967296:=Hu AL
   have hC:(JY b i).getD (i-2) 0<4294967296:=Hu AL
   rw[eX]at cs
   generalize (JY b i).getD (i-15) 0=A at *
   generalize (JY b i).getD (i-2) 0=C at *
   generalize (JY b i).getD (i-16) 0=E1 at *
   generalize (JY b i).getD (i-7) 0=E2 at *
   unfold wv at q1 q2 q3 q4
   have t1:((i:Int)-15).toNat=i-15:=by omega
   have t2:((i:Int)-2).toNat=i-2:=by omega
   have t3:((i:Int)-16).toNat=i-16:=by omega
   have t4:((i:Int)-7).toNat=i-7:=by omega
   have s1:Unit→Xa .u32 (A:Int) 3=((A/8:Nat):Int):=fun _=>QZ A 3 (by decide)
   have s2:Unit→Xa .u32 (C:Int) 10=((C/1024:Nat):Int):=fun _=>QZ C 10 (by decide)
   have o1:=fun (_:Unit)=>JG (rr A 7) (rr A 18) (QI hA) (QI hA)
   have o2:Unit→Z8 .xor .u32 ((rr A 7 ^^^ rr A 18:Nat):Int) ((A/8:Nat):Int)=((sg0 A:Nat):Int):=fun _=>JG _ _ (UY (QI hA) (QI hA)) (Ez hA)
   have o3:=fun (_:Unit)=>JG (rr C 17) (rr C 19) (QI hC) (QI hC)
   have o4:Unit→Z8 .xor .u32 ((rr C 17 ^^^ rr C 19:Nat):Int) ((C/1024:Nat):Int)=((sg1 C:Nat):Int):=fun _=>JG _ _ (UY (QI hC) (QI hC)) (Ez hC)
   generalize sg0 A=S0 at *
   generalize sg1 C=S1 at *
   have e5:((((E1:Int)+(E2:Int))%4294967296+(S0:Int))%4294967296+(S1:Int))%4294967296=(((E1+S0+E2+S1)%4294967296:Nat):Int):=by clear cs fin;omega
   simp -implicitDefEqProofs only[go_sem,↓reduceIte,f0,f1,f4,f16,ZH,Zap]
   refine VS.q mixed (by kernel_rfl) ?_
   simp -implicitDefEqProofs only[go_sem,↓reduceIte,f0,f1,f4,f16,q1,q2,t1,t2]
   refine VS.w (h.size+1) [29] (.q 0 (.q 1 (.q 2 (.q 3 (.q 4 (.q 5 (.q 6 (.q 7 (.q 8 (.q 9 (.q 10 (.q 11 (.q 12 (.q 13 (.q 14 (.q 15 (.q 16 (.q 17 (.q 18 (.q 19 (.q 20 (.q 21 (.q 22 (.q 23 (.q 24 (.q 25 (.q 26 (.q 27 (.q 28 (.w 29 .nil)))))))))))))))))))))))))))))) mixed (by kernel_rfl) ?_
   simp -implicitDefEqProofs only[go_sem,↓reduceIte,f0,f1,f4,f16,q3,q4,t3,t4,e5]
   refine JH (fun h=>XF T h A 7 hA (by omega)) ?_
   simp -implicitDefEqProofs only[go_sem,↓reduceIte,f0,f1,f4,f16,o1 (),o2 (),o3 (),o4 (),s1 (),s2 (),e5]
   refine JH (fun h=>XF T h A 18 hA (by omega)) ?_
   simp -implicitDefEqProofs only[go_sem,↓reduceIte,f0,f1,f4,f16,o1 (),o2 (),o3 (),o4 (),s1 (),s2 (),e5]
   refine JH (fun h=>XF T h C 17 hC (by omega)) ?_
   simp -implicitDefEqProofs only[go_sem,↓reduceIte,f0,f1,f4,f16,o1 (),o2 (),o3 (),o4 (),s1 (),s2 (),e5]
   refine JH (fun h=>XF T h C 19 hC (by omega)) ?_
   simp -implicitDefEqProofs only[go_sem,↓reduceIte,f0,f1,f4,f16,o1 (),o2 (),o3 (),o4 (),s1 (),s2 (),e5,cs]
   refine⟨⟨cR.Zk (Nat.le_refl _) _,f0,f1,f4,i+1,ZA,rfl,ZO hw⟩,?_⟩
   simp only[vi,Zh,↓reduceIte,f16];omega
 ·have YE:¬(i:Int)<64:=by omega
  obtain rfl:i=64:=by omega
  rw[gC]at hw
  have jr:=cR.get Ak hx
  have r0:rd g ⟨bd,0,none⟩ 8=some (d.map wv):=by rw[List.append_nil]at jr;exact Zo jr (by simp[hd])
  have l8:(d.map wv).length=8:=by simp[hd]
  have Zaq:(d.map wv).all Z5=true:=by simp[wv,Z5]
  obtain⟨DV,hDV⟩:=Zu (d.map wv)
  rw[←hDV]at r0 l8 Zaq
  have lp:Yl [Value.int .u32 0,Value.int .u32 0,Value.int .u32 0,Value.int .u32 0,Value.int .u32 0,Value.int .u32 0,Value.int .u32 0,Value.int .u32 0] 0 DV=DV:=ZK l8
  simp -implicitDefEqProofs only[go_sem,↓reduceIte,f0,f1,f4,f16,YE,r0,l8,Zaq,lp]
  rw[hDV]
  have S8:=cR.size
  have hB:Ze h.size h (g.push (.cells (d.map wv).toArray 189)):=cR.add _
  have TG:Ze g.size g (g.push (.cells (d.map wv).toArray 189)):=Ze.push (Nat.le_refl _) _
  have hv0:(g.push (.cells (d.map wv).toArray 189))[g.size]? = some (.cells ((JZ b d 0).map wv++[]).toArray 189):=by
   rw[List.append_nil];exact Zb
  refine VS.ZU (fun F' g'=>Ze g.size g g'∧F' 0=.pointer (some ⟨bd,0,none⟩)∧F' 4=.pointer (some ⟨h.size,0,none⟩)∧F' 8=.pointer (some ⟨g.size,0,none⟩)∧∃i:Nat,i≤64∧F' 97=.int .i64 i∧g'[g.size]? = some (.cells ((JZ b d i).map wv++[]).toArray 189))
   (fun F _=>64-(vi (F 97)).toNat) rfl ⟨TG,f0,f4,rfl,0,by omega,rfl,hv0⟩ ?_
  clear f0 f1 f4 f16 YE hi ZA hv0 hB TG r0 l8 Zaq lp hDV DV F
  rintro F g2 ⟨QD,f0,f4,f8,i,hi,f97,hv⟩
  have ng:=Za hv
  obtain⟨v8,w8⟩:=TW (b:=b) hd wd i
  obtain⟨a,b',c',d',e,f,g',k',qk⟩:=eight v8
  by_cases ZA:i<64
  ·have ZH:(i:Int)<64:=by omega
   have ua:JZ b d (i+1)=[(upw e f g' k' (kN.getD i 0) ((JY b 64).getD i 0)+bg0 a+fF a b' c')%4294967296,a,b',c',(d'+upw e f g' k' (kN.getD i 0) ((JY b 64).getD i 0))%4294967296,e,f,g']:=by
    rw[show JZ b d (i+1)=mf (JZ b d i) (kN.getD i 0) ((JY b 64).getD i 0) from rfl,qk];rfl
   have hK:kN.getD i 0<4294967296:=zL.getD i
   have hW:(JY b 64).getD i 0<4294967296:=(LH AL 64).getD i
   have k1:V.hc g2 ⟨1,i,none⟩=some (.int .u32 (kN.getD i 0:Nat)):=by
    rw[QD.hc (by have:=tk.1;show (1:Nat)<g.size;omega),cR.hc (by exact tk.1)];exact tk.2 i ZA
   have w1:V.hc g2 ⟨h.size,i,none⟩=some (.int .u32 ((JY b 64).getD i 0:Nat)):=by
    rw[QD.hc (by exact hws)];exact ZJ hw (by rw[XT];exact ZA)
   rw[qk]at hv w8
   have n0:V.hc g2 ⟨g.size,0,none⟩=some (.int .u32 (a:Nat)):=ZJ hv (i:=0) (by simp)
   have n1:V.hc g2 ⟨g.size,1,none⟩=some (.int .u32 (b':Nat)):=ZJ hv (i:=1) (by simp)
   have n2:V.hc g2 ⟨g.size,2,none⟩=some (.int .u32 (c':Nat)):=ZJ hv (i:=2) (by simp)
   have n3:V.hc g2 ⟨g.size,3,none⟩=some (.int .u32 (d':Nat)):=ZJ hv (i:=3) (by simp)
   have n4:V.hc g2 ⟨g.size,4,none⟩=some (.int .u32 (e:Nat)):=ZJ hv (i:=4) (by simp)
   have n5:V.hc g2 ⟨g.size,5,none⟩=some (.int .u32 (f:Nat)):=ZJ hv (i:=5) (by simp)
   have n6:V.hc g2 ⟨g.size,6,none⟩=some (.int .u32 (g':Nat)):=ZJ hv (i:=6) (by simp)
   have n7:V.hc g2 ⟨g.size,7,none⟩=some (.int .u32 (k':Nat)):=ZJ hv (i:=7) (by simp)
   have ha:a<4294967296:=w8 a (by simp)
   have X3:b'<4294967296:=w8 b' (by simp)
   have hc':c'<4294967296:=w8 c' (by simp)
   have hd':d'<4294967296:=w8 d' (by simp)
   have he:e<4294967296:=w8 e (by simp)
   have hf:f<4294967296:=w8 f (by simp)
   have Db:g'<4294967296:=w8 g' (by simp)
   have Pv:k'<4294967296:=w8 k' (by simp)
   generalize kN.getD i 0=K at *
   generalize (JY b 64).getD i 0=W at *
   have o1:=fun (_:Unit)=>JG (rr e 6) (rr e 11) (QI he) (QI he)
   have o2:Unit→Z8 .xor .u32 ((rr e 6 ^^^ rr e 11:Nat):Int) ((rr e 25:Nat):Int)=((zI e:Nat):Int):=fun _=>JG _ _ (UY (QI he) (QI he)) (QI he)
   have o3:=fun (_:Unit)=>JG (rr a 2) (rr a 13) (QI ha) (QI ha)
   have o4:Unit→Z8 .xor .u32 ((rr a 2 ^^^ rr a 13:Nat):Int) ((rr a 22:Nat):Int)=((bg0 a:Nat):Int):=fun _=>JG _ _ (UY (QI ha) (QI ha)) (QI ha)
   have c0:Unit→(if IntKind.u32.signed=true then (-1:Int) else IntKind.u32.max)=4294967295:=fun _=>rfl
   have c1:=fun (_:Unit)=>Pq e f he hf
   have c2:=fun (_:Unit)=>sY he
   have c3:=fun (_:Unit)=>Pq (4294967295-e) g' (EA e) Db
   have c4:=fun (_:Unit)=>zK (f:=f) he Db
   have m1:=fun (_:Unit)=>Pq a b' ha X3
   have m2:=fun (_:Unit)=>Pq a c' ha hc'
   have m3:=fun (_:Unit)=>Pq b' c' X3 hc'
   have m4:=fun (_:Unit)=>JG (a &&& b') (a &&& c') (Qu ha) (Qu ha)
   have m5:=fun (_:Unit)=>sZ (c:=c') ha X3
   have eU:upw e f g' k' K W=(k'+zI e+chw e f g'+K+W)%4294967296:=rfl
   generalize upw e f g' k' K W=U at *
   generalize zI e=S1 at *
   generalize bg0 a=S0 at *
   generalize chw e f g'=CH at *
   generalize fF a b' c'=MJ at *
   have e1:Unit→(((((k':Int)+(S1:Int))%4294967296+(CH:Int))%4294967296+(K:Int))%4294967296+(W:Int))%4294967296=(U:Int):=fun _=>by omega
   have e2:Unit→((S0:Int)+(MJ:Int))%4294967296=(((S0+MJ)%4294967296:Nat):Int):=fun _=>by omega
   have e3:Unit→((U:Int)+(((S0+MJ)%4294967296:Nat):Int))%4294967296=(((U+S0+MJ)%4294967296:Nat):Int):=fun _=>by omega
   have e4:Unit→((d':Int)+(U:Int))%4294967296=(((d'+U)%4294967296:Nat):Int):=fun _=>by omega
   simp -implicitDefEqProofs only[go_sem,↓reduceIte,f0,f4,f8,f97,ZH]
   refine VS.q mixed (by kernel_rfl) ?_
   simp -implicitDefEqProofs only[go_sem,↓reduceIte,f0,f4,f8,f97,n0,n4]
   refine VS.q mixed (by kernel_rfl) ?_
   simp -implicitDefEqProofs only[go_sem,↓reduceIte,f0,f4,f8,f97,n7,n4]
   refine QO (XF T _ e 6 he (by omega)) ?_
   simp -implicitDefEqProofs only[go_sem,↓reduceIte,f8]
   refine QO (XF T _ e 11 he (by omega)) ?_
   simp -implicitDefEqProofs only[go_sem,↓reduceIte,f8]
   refine QO (XF T _ e 25 he (by omega)) ?_
   simp -implicitDefEqProofs only[go_sem,↓reduceIte,f4,f8,f97,ZH,o1 (),o2 (),n5,n6,c0 (),c1 (),c2 (),c3 (),c4 (),k1,w1,e1 ()]
   refine VS.mono (N:=fun F' g'=>g2=g'∧F' 0=.pointer (some ⟨bd,0,none⟩)∧F' 4=.pointer (some ⟨h.size,0,none⟩)∧F' 8=.pointer (some ⟨g.size,0,none⟩)∧F' 97=.int .i64 i∧F' 10=.int .u32 (a:Nat)∧F' 11=.int .u32 (e:Nat)∧F' 12=.int .u32 (U:Nat)∧F' 13=.int .u32 (((S0+MJ)%4294967296:Nat):Int)) ?_ ?_ (fun _ _ _ h=>h) (fun _ _ h=>h)
   ·refine VS.q mixed (by kernel_rfl) ?_
    simp -implicitDefEqProofs only[go_sem,↓reduceIte,f8]
    refine QO (XF T _ a 2 ha (by omega)) ?_
    simp -implicitDefEqProofs only[go_sem,↓reduceIte,f8]
    refine QO (XF T _ a 13 ha (by omega)) ?_
    simp -implicitDefEqProofs only[go_sem,↓reduceIte,f8]
    refine QO (XF T _ a 22 ha (by omega)) ?_
    simp -implicitDefEqProofs only[go_sem,↓reduceIte,f0,f4,f8,f97,o3 (),o4 (),n1,n2,m1 (),m2 (),m3 (),m4 (),m5 (),e2 ()]
   clear f0 f4 f8 f97 F
   rintro F _ ⟨rfl,f0,f4,f8,f97,f10,f11,f12,f13⟩
   have hvE:g2[g.size]? = some (.cells [Value.int .u32 a,.int .u32 b',.int .u32 c',.int .u32 d',.int .u32 e,.int .u32 f,.int .u32 g',.int .u32 k'].toArray 189):=hv
   have y2:=ZP hvE 0
   obtain⟨xU,hxU⟩:∃x:Int,x=(U:Int):=⟨_,rfl⟩
   obtain⟨xD,hxD⟩:∃x:Int,x=(((S0+MJ)%4294967296:Nat):Int):=⟨_,rfl⟩
   obtain⟨x0,Tb⟩:∃x:Int,x=(((U+S0+MJ)%4294967296:Nat):Int):=⟨_,rfl⟩
   obtain⟨x4,CJ⟩:∃x:Int,x=(((d'+U)%4294967296:Nat):Int):=⟨_,rfl⟩
   have E3:Unit→(xU+xD)%4294967296=x0:=fun _=>by rw[hxU,hxD,Tb];exact e3 ()
   have E4:Unit→((d':Int)+xU)%4294967296=x4:=fun _=>by rw[hxU,CJ];exact e4 ()
   rw[←hxU]at f12
   rw[←hxD]at f13
   simp -implicitDefEqProofs only[go_sem,↓reduceIte,f0,f4,f8,f97,f10,f11,f12,f13,n1,n2,n3,n5,n6,E3 (),E4 (),y2]
   refine⟨⟨QD.Zk (Nat.le_refl _) _,f0,f4,f8,i+1,ZA,rfl,?_⟩,?_⟩
   ·rw[ua,Tb,CJ];exact ZO hv
   ·simp only[vi,Zh,↓reduceIte,f97];omega
  ·have YE:¬(i:Int)<64:=by omega
   obtain rfl:i=64:=by omega
   have r0:rd g2 ⟨g.size,0,none⟩ 8=some ((JZ b d 64).map wv):=by rw[List.append_nil]at hv;exact Zo hv (by simp[v8])
   have hB:VT (some bd) h g2:=by
    have q1:=cR.trans (QD.mono cR.size)
    exact⟨q1.size,fun k hk _=>q1.block k hk⟩
   have jr:g2[bd]? = some (.cells (((Vv d (JZ b d 64)).take 0++d.drop 0).map wv++[]).toArray 189):=by
    rw[List.take_zero,List.drop_zero,List.nil_append]
    exact (cR.trans (QD.mono cR.size)).get Ak hx
   have hal:=TX hd v8
   simp -implicitDefEqProofs only[go_sem,↓reduceIte,f0,f8,f97,YE,r0]
   refine VS.ZU (fun F' g'=>VT (some bd) h g'∧F' 0=.pointer (some ⟨bd,0,none⟩)∧F' 177=.agg ((JZ b d 64).map wv).toArray∧∃i:Nat,i≤8∧F' 178=.int .i64 i∧g'[bd]? = some (.cells (((Vv d (JZ b d 64)).take i++d.drop i).map wv++[]).toArray 189))
    (fun F _=>8-(vi (F 178)).toNat) rfl ⟨hB,f0,rfl,0,by omega,rfl,jr⟩ ?_
   clear f0 f4 f8 f97 YE hi ZA hv jr hB r0 F
   rintro F g3 ⟨hB,f0,f177,i,hi,f178,jr⟩
   have Znd:=Za jr
   have ub:((Vv d (JZ b d 64)).take i++d.drop i).length=8:=by rw[Ws _ _ _ (by omega) (by omega),hal]
   by_cases ZA:i<8
   ·have ZH:(i:Int)<8:=by omega
    have n1:nth ((JZ b d 64).map wv) i=some (.int .u32 ((JZ b d 64).getD i 0:Nat)):=by
     rw[Yj,List.getElem?_map,List.getD_eq_getElem?_getD,List.getElem?_eq_getElem (by omega)];rfl
    have q1:=ZJ jr (i:=i) (by omega)
    have e0:((Vv d (JZ b d 64)).take i++d.drop i).getD i 0=d.getD i 0:=by
     rw[List.getD_eq_getElem?_getD,List.getElem?_append_right (by rw[List.length_take];omega),List.length_take,Nat.min_eq_left (by omega),Nat.sub_self,List.getElem?_drop,Nat.add_zero,←List.getD_eq_getElem?_getD]
    rw[e0]at q1
    unfold wv at q1
    have eX:=fG hd v8 ZA
    have cs:=ZZ (f:=wv) jr (i:=i) (by omega) ((Vv d (JZ b d 64)).getD i 0) rfl
    rw[RI _ _ i (by omega) (by omega)]at cs
    have jP:Jn g3 ⟨bd,i,none⟩ (.int .u32 (((Vv d (JZ b d 64)).getD i 0:Nat):Int))=_:=cs
    rw[eX]at jP
    generalize d.getD i 0=D at *
    generalize (JZ b d 64).getD i 0=V at *
    have e1:((D:Int)+(V:Int))%4294967296=(((D+V)%4294967296:Nat):Int):=by omega
    simp -implicitDefEqProofs only[go_sem,↓reduceIte,f177,f178,ZH,n1]
    refine VS.w (g3.size) [9] (.q 0 (.q 1 (.q 2 (.q 3 (.q 4 (.q 5 (.q 6 (.q 7 (.q 8 (.w 9 .nil)))))))))) mixed (by kernel_rfl) ?_
    simp -implicitDefEqProofs only[go_sem,↓reduceIte,f0,f177,f178,q1,e1,Znd,jP,ZH]
    refine⟨⟨?_,f0,f177,i+1,ZA,rfl,ZO jr⟩,?_⟩
    ·exact⟨by rw[Array.size_setIfInBounds];exact hB.size,fun k hk Yr=>by rw[Array.getElem?_setIfInBounds,if_neg (by intro e;exact Yr (by rw[e])),hB.block k hk Yr]⟩
    ·simp only[vi,Zh,↓reduceIte,f178];omega
   ·have YE:¬(i:Int)<8:=by omega
    obtain rfl:i=8:=by omega
    have e9:(Vv d (JZ b d 64)).take 8++d.drop 8=EC d b:=by
     rw[List.take_of_length_le (by omega),List.drop_of_length_le (by omega),List.append_nil];rfl
    rw[e9]at jr
    simp -implicitDefEqProofs only[go_sem,↓reduceIte,f178,YE]
    exact⟨hB,jr⟩
def AM:Value→Nat
 | .slice _ n _=>n
 | _=>0
def IH (n:Nat):List Nat:=0 :: 0 :: 0 :: 0 :: Qs (8*n)
theorem NP (n:Nat):(IH n).length=8:=rfl
theorem gD (n:Nat):SP (IH n):=by
 intro x hx
 simp only[IH,List.mem_cons]at hx
 rcases hx with rfl|rfl|rfl|rfl|hx
 ·omega
 ·omega
 ·omega
 ·omega
 ·exact UX _ x hx
theorem uc {n k:Nat} (hn:n≤100000) (hk:k<8):Xa .i64 ((8*n:Nat):Int) ((56-8*k:Nat):Int)%256=(((IH n).getD k 0:Nat):Int):=by
 rw[VZ _ _ (by omega)]
 rcases k with _|_|_|_|_|_|_|_|k
 ·show ((8*n/2 ^ 56:Nat):Int)%256=((0:Nat):Int)
  rw[Nat.div_eq_of_lt (by omega)];rfl
 ·show ((8*n/2 ^ 48:Nat):Int)%256=((0:Nat):Int)
  rw[Nat.div_eq_of_lt (by omega)];rfl
 ·show ((8*n/2 ^ 40:Nat):Int)%256=((0:Nat):Int)
  rw[Nat.div_eq_of_lt (by omega)];rfl
 ·show ((8*n/2 ^ 32:Nat):Int)%256=((0:Nat):Int)
  rw[Nat.div_eq_of_lt (by omega)];rfl
 ·rfl
 ·rfl
 ·rfl
 ·show ((8*n/2 ^ 0:Nat):Int)%256=((8*n%256:Nat):Int)
  rw[Nat.pow_zero,Nat.div_one];rfl
 ·omega
theorem ud {x bp op m c:Nat} {h h':Hp} {l:List Nat} (s:Bs h (.slice (some ⟨bp,op,none⟩) m c) l) (a:VT (some x) h h') (Yr:bp≠x):Bs h' (.slice (some ⟨bp,op,none⟩) m c) l:=by
 obtain⟨⟨p,cap,hv,hl,hc⟩,hb⟩:=s
 simp only[Value.slice.injEq]at hv
 obtain⟨rfl,hm,rfl⟩:=hv
 refine⟨⟨_,_,by rw[hm],hl,fun hn=>?_⟩,hb⟩
 obtain⟨b,o,hp,Yx⟩:=hc hn
 simp only[Option.some.injEq,Addr.mk.injEq,and_true]at hp
 obtain⟨rfl,rfl⟩:=hp
 refine⟨_,_,rfl,fun i hi=>?_⟩
 have h1:=Yx i hi
 have h2:=Q9 h1
 unfold V.hc at h1 ⊢
 rw[a.block _ h2 (by intro e;exact Yr (Option.some.inj e).symm)]
 exact h1
theorem Td {bp op m c:Nat} {h:Hp} {l:List Nat} (s:Bs h (.slice (some ⟨bp,op,none⟩) m c) l) {k:Nat} (hk:k≤l.length) (hm:l.length=m) (c':Nat):Bs h (.slice (some ⟨bp,op+k,none⟩) (m-k) c') (l.drop k):=by
 subst hm
 refine⟨?_,fun x hx=>s.byte x (List.mem_of_mem_drop hx)⟩
 obtain⟨p',cap,hv,hl,hc⟩:=s.sl
 simp only[Value.slice.injEq]at hv
 obtain⟨rfl,_,rfl⟩:=hv
 refine⟨_,c',by rw[List.length_drop],by simp,fun Yr=>?_⟩
 have ZA:k<l.length:=by
  rw[←List.length_pos_iff]at Yr
  simp at Yr;omega
 obtain⟨b,o,hp,Yx⟩:=hc (by intro e;simp at e;subst e;simp at ZA)
 simp only[Option.some.injEq,Addr.mk.injEq,and_true]at hp
 obtain⟨rfl,rfl⟩:=hp
 refine⟨_,_,rfl,fun i hi=>?_⟩
 have bJ:i<l.length-k:=by simpa using hi
 rw[show op+k+i=op+(k+i) by omega,Yx (k+i) (by simp;omega)]
 simp
abbrev Tk (h:Hp):Prop:=En 1 wv kN h
theorem GX (T:World) (h:Hp) (v:Value) (l:List Nat) (s:Bs h v l) (hl:l.length≤100000) (tk:Tk h) :
  Zd Tryz.prog T 83 #[v] h fun v' h'=>Z1 h.size 5 h' v' (TZ l)∧Ze h.size h h':=by
 obtain⟨p,cp,rfl,UA⟩:=s.open
 have AL:SP l:=s.byte
 refine Zd.Zi (args:=[_]) Tryz.func83 rfl rfl rfl rfl ?_
 simp -implicitDefEqProofs only[go_sem,↓reduceIte]
 obtain⟨h1,YF⟩:=Zu (h.push (.cells (mj.map wv).toArray 189):Hp)
 have hs1:h1.size=h.size+1:=by rw[YF];simp
 have b1:Ze h.size h h1:=by rw[YF];exact Ze.push (Nat.le_refl _) _
 have x1:h1[h.size]? = some (.cells (mj.map wv++[]).toArray 189):=by rw[YF,List.append_nil];exact Zb
 change Sq Tryz.prog T .append _ _ _ _ _ (h.push (.cells (mj.map wv).toArray 189))
 rw[←YF]
 clear YF
 refine Zv (E:=5) (B:=h.size+1) Yt Tryz.underlying34 Wf Vh Vg (Z1.Ip _ _ _ _) (by omega) (s.Z4 b1) (by simp;omega) ?_
 intro w h2 o2 b2 _
 rw[List.nil_append]at o2
 simp -implicitDefEqProofs only[go_sem,↓reduceIte]
 refine Zv (E:=5) (B:=h.size+1) Yt Tryz.underlying34 Wf Vh Vg (o2.push _) (by have:=b2.size;simp;omega) (Bs.one (x:=128) (by omega) 1) (by simp;omega) ?_
 intro w3 h3 o3 b3 _
 have B3:Ze (h.size+1) h1 h3:=(b2.Yg (by have:=b2.size;omega) _).trans b3
 have o3':Z1 (h.size+1) 5 h3 w3 (TY l 0):=o3
 clear o2 o3 b2 b3
 simp -implicitDefEqProofs only[go_sem,↓reduceIte]
 refine VS.ZU (fun F g=>Ze (h.size+1) h1 g∧F 0=.slice p l.length cp∧F 3=.pointer (some ⟨h.size,0,none⟩)∧∃j:Nat,j≤Ix l.length∧Z1 (h.size+1) 5 g (F 4) (TY l j))
  (fun F _=>l.length+100-AM (F 4)) rfl ⟨B3,rfl,rfl,0,by omega,o3'⟩ ?_
 clear o3' B3
 rintro F g ⟨hg,f0,f3,j,hj,ho⟩
 obtain⟨p4,c4,f4,_⟩:=ho.open
 have ml:=PH l j
 obtain⟨M,hM⟩:=Zu (l.length+j+1)
 rw[ml,←hM]at f4
 have Zyy:Ix l.length<64:=by unfold Ix;omega
 have d1:(M:Int).tmod 64=((M%64:Nat):Int):=rfl
 have S8:=hg.size
 by_cases hm:M%64=56
 case neg=>
  have My:¬((M%64:Nat):Int)=56:=by omega
  have Yr:j≠Ix l.length:=fun e=>hm (by rw[hM];exact (EE hj).2 e)
  simp -implicitDefEqProofs only[go_sem,↓reduceIte,f0,f3,f4,d1,My]
  have qw:=ho
  rw[f4]at qw
  refine Zv (E:=5) (B:=h.size+1) Yt Tryz.underlying34 Wf Vh Vg (qw.push _) (by simp;omega) (Bs.one (x:=0) (by omega) 1) (by rw[ml];simp;omega) ?_
  intro w' g' Rt X3 _
  obtain⟨p5,c5,rfl,_⟩:=Rt.open
  simp -implicitDefEqProofs only[go_sem,↓reduceIte,f0,f3]
  refine⟨⟨(hg.Yg (by omega) _).trans X3,f0,f3,j+1,by omega,?_⟩,?_⟩
  ·rw[BX];exact Rt
  ·simp only[AM,Zh,↓reduceIte,f4,List.length_append,ml,List.length_singleton];omega
 have hjn:j=Ix l.length:=(EE hj).1 (by rw[←hM];exact hm)
 have My:((M%64:Nat):Int)=56:=by omega
 simp -implicitDefEqProofs only[go_sem,↓reduceIte,f0,f3,f4,d1,My]
 refine VS.ZU (fun F g=>Ze (h.size+1) h1 g∧F 0=.slice p l.length cp∧F 3=.pointer (some ⟨h.size,0,none⟩)∧∃k:Nat,k≤8∧F 5=.int .i64 (56-8*(k:Int))∧Z1 (h.size+1) 5 g (F 4) (TY l j++(IH l.length).take k))
  (fun F _=>(vi (F 5)+8).toNat) rfl ⟨hg,f0,f3,0,by omega,rfl,by rw[List.take_zero,List.append_nil];exact ho⟩ ?_
 clear f0 f3 f4 d1 hm My ho hg S8 F g
 rintro F g ⟨hg,f0,f3,k,hk,f5,ho⟩
 have S8:=hg.size
 obtain⟨y,hy⟩:∃y:Int,y=56-8*(k:Int):=⟨_,rfl⟩
 rw[←hy]at f5
 by_cases ZA:k<8
 ·have fV:0≤y:=by omega
  have GO:¬y<0:=by omega
  obtain⟨X,hX⟩:=Zu ((IH l.length).getD k 0)
  have hXb:X<256:=by rw[hX];exact ZF (gD _) k
  obtain⟨xL,hxL⟩:∃x:Int,x=((8*l.length:Nat):Int):=⟨_,rfl⟩
  have eL:Unit→8*(l.length:Int)=xL:=fun _=>by rw[hxL];omega
  have xLb:0≤xL∧xL≤1000000:=by rw[hxL];omega
  have sh:Unit→Xa .i64 xL y%256=(X:Int):=fun _=>by
   rw[hxL,hy,show (56:Int)-8*(k:Int)=((56-8*k:Nat):Int) by omega,hX];exact uc hl ZA
  have ml2:(TY l j++(IH l.length).take k).length≤200000:=by rw[List.length_append,ml,List.length_take];omega
  have et:(IH l.length).take (k+1)=(IH l.length).take k++[X]:=by
   rw[Z9 _ k (by rw[NP];exact ZA),hX,List.getD_eq_getElem?_getD,List.getElem?_eq_getElem (by rw[NP];exact ZA)];rfl
  clear hX hxL
  simp -implicitDefEqProofs only[go_sem,↓reduceIte,f0,f3,f5,fV,GO,eL (),sh ()]
  refine Zv (E:=5) (B:=h.size+1) Yt Tryz.underlying34 Wf Vh Vg (ho.push _) (by simp;omega) (Bs.one hXb 1) (by simp only[List.length_singleton];omega) ?_
  intro w' g' Rt X3 _
  simp -implicitDefEqProofs only[go_sem,↓reduceIte,f0,f3,f5]
  refine⟨⟨(hg.Yg (by omega) _).trans X3,f0,f3,k+1,ZA,?_,?_⟩,?_⟩
  ·show Value.int .i64 _=_
   congr 1;omega
  ·rw[et,←List.append_assoc];exact Rt
  ·simp only[vi,Zh,↓reduceIte,f5];omega
 ·have fV:¬0≤y:=by omega
  obtain rfl:k=8:=by omega
  have ep:TY l j++(IH l.length).take 8=Wv l:=by rw[hjn];rfl
  rw[ep]at ho
  have pl:=GF l
  obtain⟨N,hN⟩:=Zu (fH l.length)
  have hN1:0<N:=by rw[hN];unfold fH;omega
  have hN2:N≤2000:=by rw[hN];unfold fH;omega
  rw[←hN]at pl
  have ue:=hg.get (by omega) x1
  have bh:Ze h.size h g:=b1.trans (hg.mono (by omega))
  obtain⟨bp,cP,f4,hbp,hcP⟩:∃bp c,F 4=.slice (some ⟨bp,0,none⟩) (64*N) c∧h.size+1≤bp∧64*N≤c:=by
   rcases ho.own with⟨_,hm,_⟩|⟨b,cap,sp,hB,hv,_,_,_,hc⟩
   ·omega
   ·rw[pl]at hv hc;exact⟨b,cap,hv,hB,hc⟩
  have sP:=ho.bs
  rw[f4]at sP
  simp -implicitDefEqProofs only[go_sem,↓reduceIte,f0,f3,f5,fV]
  refine VS.ZU (fun F g=>Ze h.size h g∧F 3=.pointer (some ⟨h.size,0,none⟩)∧∃j op c:Nat,j≤N∧F 4=.slice (some ⟨bp,op,none⟩) (64*(N-j)) c∧64*(N-j)≤c∧Bs g (.slice (some ⟨bp,op,none⟩) (64*(N-j)) c) ((Wv l).drop (64*j))∧g[h.size]? = some (.cells ((ED (Wv l) j).map wv++[]).toArray 189))
   (fun F _=>AM (F 4)) rfl ⟨bh,f3,0,0,cP,by omega,f4,hcP,by exact sP,ue⟩ ?_
  clear f0 f3 f4 f5 hy fV ZA ho sP ue bh hg S8 ep hcP F g
  rintro F g ⟨hg,f3,j,op,c,hj,f4,hc,sP,ue⟩
  have S8:=Za ue
  by_cases ZA:j<N
  ·obtain⟨L,hL⟩:=Zu (64*(N-j))
   rw[←hL]at f4 hc sP
   have Zyz:64≤L:=by omega
   have gE:((Wv l).drop (64*j)).length=L:=by rw[List.length_drop,pl];omega
   have hL0:0<(L:Int):=by omega
   have ZeX:(64:Int)≤(c:Int):=by omega
   have bH:¬c=0:=by omega
   simp -implicitDefEqProofs only[go_sem,↓reduceIte,f3,f4,hL0,ZeX,bH,Nat.sub_zero,Nat.zero_mul]
   have sB:Bs g (.slice (some ⟨bp,op,none⟩) 64 c) (((Wv l).drop (64*j)).take 64):=by
    rw[←gE]at sP;exact Bs.TN sP (by omega) c
   obtain⟨dl,dw⟩:=PG (Wv l) j
   refine (Dr T g h.size (ED (Wv l) j) _ (((Wv l).drop (64*j)).take 64) dl dw sB (by rw[List.length_take,gE];omega) (tk.Js hg) ue (by have:=tk.1;omega)).use ?_
   rintro _ g2 ⟨Ru,Rz⟩
   have QD:Ze h.size h g2:=hg.trans (Ru.Z4 (by omega) (fun b e=>by have:=Option.some.inj e;omega))
   have sP2:=ud sP Ru (by omega)
   by_cases hce:c=64
   ·have hLe:L=64:=by omega
    have Znf:(c:Int)=64:=by omega
    have xy:(L:Int)=64:=by omega
    subst hce hLe
    simp -implicitDefEqProofs only[go_sem,↓reduceIte,f3,f4,Znf,xy]
    refine⟨⟨QD,f3,j+1,op,0,ZA,?_,by omega,?_,Rz⟩,?_⟩
    ·show Value.slice _ _ _=_
     rw[show 64*(N-(j+1))=0 by omega]
    ·rw[show 64*(N-(j+1))=0 by omega,List.drop_of_length_le (by rw[pl];omega)]
     exact (Z1.Ip 0 5 _ _).bs
    ·simp only[AM,Zh,↓reduceIte,f4];omega
   ·have ZeY:(64:Int)≤(L:Int):=by omega
    simp -implicitDefEqProofs only[go_sem,↓reduceIte,f3,f4,ZeX,ZeY,hce]
    refine⟨⟨QD,f3,j+1,op+64,c-64,ZA,?_,by omega,?_,Rz⟩,?_⟩
    ·show Value.slice _ _ _=_
     rw[show L-64=64*(N-(j+1)) by omega]
    ·have:=Td sP2 (k:=64) (by omega) gE (c-64)
     rw[List.drop_drop,show L-64=64*(N-(j+1)) by omega,show 64*j+64=64*(j+1) by omega]at this
     exact this
    ·simp only[AM,Zh,↓reduceIte,f4];omega
  ·obtain rfl:j=N:=by omega
   have eS:TZ l=Zx (ED (Wv l) j):=by rw[TZ,←hN]
   obtain⟨dl,dw⟩:=PG (Wv l) j
   obtain⟨D,hD⟩:=Zu (ED (Wv l) j)
   rw[←hD]at dl dw ue eS
   rw[eS]
   have r0:rd g ⟨h.size,0,none⟩ 8=some (D.map wv):=by rw[List.append_nil]at ue;exact Zo ue (by simp[dl])
   rw[Nat.sub_self,Nat.mul_zero]at f4
   have hz:¬h.size=g.size:=by omega
   simp -implicitDefEqProofs only[go_sem,↓reduceIte,f3,f4,r0,hz]
   have hBo:Ze h.size h (g.push (.cells (XS 32 [Value.int .u8 0]).toArray 5)):=hg.add _
   have oO:Z1 h.size 5 (g.push (.cells (XS 32 [Value.int .u8 0]).toArray 5)) (.slice (some ⟨g.size,0,none⟩) 0 32) (Zx (D.take 0)):=
    ⟨.inr ⟨g.size,32,XS 32 [Value.int .u8 0],hg.size,rfl,Zb,rfl,rfl,Nat.zero_le 32⟩,fun x hx=>by cases hx⟩
   refine VS.ZU (fun F g=>Ze h.size h g∧F 43=.agg (D.map wv).toArray∧∃i:Nat,i≤8∧F 44=.int .i64 i∧Z1 h.size 5 g (F 6) (Zx (D.take i)))
    (fun F _=>8-(vi (F 44)).toNat) rfl ⟨hBo,rfl,0,by omega,rfl,oO⟩ ?_
   clear f3 f4 ZA ue r0 hz hBo oO sP hc hg S8 g F
   rintro F g ⟨hg,f43,i,hi,f44,ho⟩
   have S8:=hg.size
   by_cases ZA:i<8
   ·have ZH:(i:Int)<8:=by omega
    obtain⟨x,hx⟩:=Zu (D.getD i 0)
    have hxb:x<4294967296:=by rw[hx];exact dw.getD i
    have et:D.take (i+1)=D.take i++[x]:=by
     rw[Z9 _ i (by omega),hx,List.getD_eq_getElem?_getD,List.getElem?_eq_getElem (by omega)];rfl
    obtain⟨yx,gF⟩:∃y:Int,y=(x:Int):=⟨_,rfl⟩
    obtain⟨z0,FC⟩:∃y:Int,y=((x/16777216%256:Nat):Int):=⟨_,rfl⟩
    obtain⟨z1,Gx⟩:∃y:Int,y=((x/65536%256:Nat):Int):=⟨_,rfl⟩
    obtain⟨z2,At⟩:∃y:Int,y=((x/256%256:Nat):Int):=⟨_,rfl⟩
    obtain⟨z3,uf⟩:∃y:Int,y=((x%256:Nat):Int):=⟨_,rfl⟩
    have n1:nth (D.map wv) i=some (.int .u32 yx):=by
     rw[Yj,List.getElem?_map,gF,hx,List.getD_eq_getElem?_getD,List.getElem?_eq_getElem (by omega)];rfl
    have e1:Unit→Xa .u32 yx 24%256=z0:=fun _=>by rw[gF,FC,show (24:Int)=((24:Nat):Int) from rfl,QZ x 24 (by decide)];rfl
    have e2:Unit→Xa .u32 yx 16%256=z1:=fun _=>by rw[gF,Gx,show (16:Int)=((16:Nat):Int) from rfl,QZ x 16 (by decide)];rfl
    have e3:Unit→Xa .u32 yx 8%256=z2:=fun _=>by rw[gF,At,show (8:Int)=((8:Nat):Int) from rfl,QZ x 8 (by decide)];rfl
    have e4:Unit→yx%256=z3:=fun _=>by rw[gF,uf];rfl
    have X4:(Zx (D.take i)).length≤32:=by rw[ZB,List.length_take];omega
    clear gF hx
    simp -implicitDefEqProofs only[go_sem,↓reduceIte,f43,f44,ZH,n1,e1 (),e2 (),e3 (),e4 ()]
    subst FC Gx At uf
    refine Zv (E:=5) (B:=h.size) Yt Tryz.underlying34 Wf Vh Vg (ho.push _) (by simp;omega) (Bs.made (l:=Qs x) (UX x) 4) (by simp[Qs];omega) ?_
    intro w' g' Rt X3 _
    simp -implicitDefEqProofs only[go_sem,↓reduceIte,f43,f44]
    refine⟨⟨(hg.add _).trans X3,f43,i+1,ZA,rfl,?_⟩,?_⟩
    ·rw[et]
     unfold Zx at Rt ⊢
     rw[List.flatMap_append]
     simp only[List.flatMap_cons,List.flatMap_nil,List.append_nil]
     exact Rt
    ·simp only[vi,Zh,↓reduceIte,f44];omega
   ·have YE:¬(i:Int)<8:=by omega
    obtain rfl:i=8:=by omega
    rw[List.take_of_length_le (by omega)]at ho
    simp -implicitDefEqProofs only[go_sem,↓reduceIte,f43,f44,YE]
    exact⟨ho,hg⟩
def RJ (n:Nat):Int:=if 2000<n then 1 else 0
def nh (B:Nat) (h':Hp) (v':Value) (l:List Nat):Prop:=∃w,v'=.tuple [w,.int .i64 (RJ l.length)].toArray∧Z1 B 5 h' w (if RJ l.length=0 then TZ l else [])
theorem Hv (T:World) (h:Hp) (v:Value) (l:List Nat) (s:Bs h v l) (tk:Tk h) :
  Zd Tryz.prog T 62 #[v] h fun v' h'=>nh h.size h' v' l∧Ze h.size h h':=by
 obtain⟨p,cp,rfl,UA⟩:=s.open
 refine Zd.Zi (args:=[_]) Tryz.func62 rfl rfl rfl rfl ?_
 unfold nh RJ
 by_cases hl:2000<l.length
 ·have CE:2000<(l.length:Int):=by omega
  simp -implicitDefEqProofs only[go_sem,↓reduceIte,CE,hl]
  exact⟨_,rfl,Z1.nil _ _ _⟩
 ·have CE:¬2000<(l.length:Int):=by omega
  simp -implicitDefEqProofs only[go_sem,↓reduceIte,CE,hl]
  refine (GX T _ _ l s (by omega) tk).use ?_
  rintro w h1 ⟨o1,b1⟩
  simp -implicitDefEqProofs only[go_sem,↓reduceIte,b1]
  exact⟨_,rfl,o1⟩
def II (body:List Nat):List Nat:=body.length :: body
def Y4 (body:List Nat):List Nat:=II body++(TZ (II body)).take 4
theorem NQ (body:List Nat):(II body).length=body.length+1:=rfl
theorem Sb (body:List Nat):(Y4 body).length=body.length+5:=by
 rw[Y4,List.length_append,List.length_take,Jx,NQ];omega
def Y5 (l:List Nat) (n:Int):Prop:=l.length≤100000∧0≤n∧n≤l.length
instance (l:List Nat) (n:Int):Decidable (Y5 l n):=by unfold Y5;infer_instance
def JD (l:List Nat) (n:Int) (k:Nat):Int:=if ¬Y5 l n then 5 else if 100000<l.length+(k+5) then 8 else 0
def Te (B:Nat) (h':Hp) (v':Value) (l:List Nat) (n:Int) (E:Int) (add:List Nat):Prop:=
 ∃w,v'=.tuple [.agg [w,.int .i64 (if E=0 then n else 0)].toArray,.int .i64 E].toArray∧Z1 B 5 h' w (if E=0 then l++add else [])
theorem VT.Zar {h g:Hp} {b:Nat} {o:Obj} (a:VT (some b) h g):VT (some b) h (g.setIfInBounds b o):=
 ⟨by rw[Array.size_setIfInBounds];exact a.size,fun k hk Yr=>by rw[Array.getElem?_setIfInBounds,if_neg (fun e=>Yr (by rw[e])),a.block k hk Yr]⟩
theorem VE (T:World) (h:Hp) (v u:Value) (n:Int) (l body:List Nat) (s:Bs h v l) (hl:l.length≤140737488355328) (sb:Bs h u body) (hb:body.length≤255) (tk:Tk h) :
  Zd Tryz.prog T 144 #[.agg [v,.int .i64 n].toArray,u] h fun v' h'=>Te h.size h' v' l n (JD l n body.length) (Y4 body)∧Ze h.size h h':=by
 obtain⟨p,c,rfl,_⟩:=s.open
 obtain⟨q,d,rfl,_⟩:=sb.open
 refine Zd.Zi (args:=[_,_]) Tryz.func144 rfl rfl rfl rfl ?_
 unfold Te
 simp -implicitDefEqProofs only[go_sem,↓reduceIte]
 obtain⟨h0,XR⟩:=Zu ((h.push (.cells [.slice p l.length c,.int .i64 n].toArray 126)).push (.cells [.slice none 0 0,.int .i64 0].toArray 126):Hp)
 have b0:Ze h.size h h0:=by rw[XR];exact ((Ze.refl _ _).add _).add _
 have s0:h0.size=h.size+1+1:=by rw[XR];simp
 have x0:h0[h.size+1]? = some (.cells [.slice none 0 0,.int .i64 0].toArray 126):=by
  rw[XR,Array.getElem?_push,if_pos (by simp)]
 rw[←XR]
 clear XR
 refine (Qc T h0 _ n l (s.Z4 b0) hl).use ?_
 rintro _ h1 ⟨b1,o1⟩
 have s1:=b1.size
 by_cases ok:Y5 l n
 case neg=>
  have ee:JD l n body.length=5:=by unfold JD;rw[if_pos ok]
  rw[if_neg (show ¬(l.length≤100000∧0≤n∧n≤l.length) from ok)]at o1
  subst o1
  rw[ee]
  have x1:=b1.get (by omega) x0
  have y2:=ZP x1 0
  have ZA:h.size+1<h1.size:=by omega
  have Yr:¬h.size+1=h1.size:=by omega
  simp -implicitDefEqProofs only[go_sem,↓reduceIte,y2,Yr,ZA]
  exact⟨⟨_,rfl,Z1.nil _ _ _⟩,((b0.trans (b1.mono (by omega))).Zk (by omega) _).Yg (by simp;omega) _⟩
 have ee:JD l n body.length=if 100000<l.length+(body.length+5) then 8 else 0:=by unfold JD;rw[if_neg (fun hn=>hn ok)]
 rw[if_pos (show (l.length≤100000∧0≤n∧n≤l.length) from ok)]at o1
 obtain⟨w,rfl,o1⟩:=o1
 obtain⟨pw,cw,rfl,_⟩:=o1.open
 have B1:=b0.trans (b1.mono (by omega))
 have x1:=b1.get (by omega) x0
 obtain⟨mq,I1,hn1⟩:=ok
 obtain⟨h2,Wb⟩:=Zu (h1.push (.cells [.slice pw l.length cw,.int .i64 n].toArray 126):Hp)
 have b2:Ze h1.size h1 h2:=by rw[Wb];exact Ze.push (Nat.le_refl _) _
 have s2:h2.size=h1.size+1:=by rw[Wb];simp
 have x6:h2[h1.size]? = some (.cells [.slice pw l.length cw,.int .i64 n].toArray 126):=by rw[Wb];exact Zb
 have eb:(body.length:Int)%256=(body.length:Int):=by omega
 have e2:h1.push (.cells #[Value.slice pw l.length cw,.int .i64 n] 126)=h2:=Wb.symm
 simp -implicitDefEqProofs only[go_sem,↓reduceIte,eb]
 rw[e2]
 clear e2 Wb
 rw[←s2]
 have B2:=B1.trans (b2.mono B1.size)
 have o2:=o1.Z4 b2 (Nat.le_refl _)
 have Ie:∀x∈[body.length],x<256:=by intro x hx;rw[List.mem_singleton.1 hx];omega
 have of0:Z1 h2.size 5 (h2.push (.cells (([body.length]:List Nat).map bv).toArray 5)) (.slice (some ⟨h2.size,0,none⟩) 1 1) [body.length]:=Z1.made Ie (Nat.le_refl _)
 have bp:Ze h2.size h2 (h2.push (.cells (([body.length]:List Nat).map bv).toArray 5)):=Ze.push (Nat.le_refl _) _
 refine Zv (E:=5) (B:=h2.size) Yt Tryz.underlying34 Wf Vh Vg of0 (by simp) (sb.Z4 (B2.trans (bp.mono (by omega)))) (by simp;omega) ?_
 intro wf h3 of3 b3 _
 have B3:Ze h2.size h2 h3:=bp.trans b3
 have jt:=B2.trans (B3.mono (by omega))
 have ZeZ:Z1 h2.size 5 h3 wf (II body):=of3
 clear of0 bp of3 b3
 have fl:=NQ body
 have fsl:=Sb body
 have efr:Y4 body=II body++(TZ (II body)).take 4:=rfl
 have shl:=Jx (II body)
 simp -implicitDefEqProofs only[go_sem,↓reduceIte]
 refine (Hv T h3 wf (II body) ZeZ.bs (tk.Js jt)).use ?_
 rintro _ h4 ⟨⟨ws,rfl,os⟩,b4⟩
 have e0:RJ (II body).length=0:=by unfold RJ;rw[if_neg (by omega)]
 rw[e0,if_pos rfl]at os
 rw[e0]
 generalize TZ (II body)=SH at *
 obtain⟨ps,cs,rfl,Yx⟩:=os.open
 have sS:=os.bs
 obtain⟨p',c',hv,hh⟩:=sS.Us
 simp only[Value.slice.injEq]at hv
 obtain⟨rfl,_,rfl⟩:=hv
 obtain⟨bb,ob,rfl,_⟩:=hh (by intro e;rw[e]at shl;cases shl)
 have s4:=Bs.TN sS (m:=4) (by omega) cs
 rw[shl]at Yx ⊢
 have h4c:(4:Int)≤(cs:Int):=by omega
 have LU:¬cs=0:=by omega
 have of4:=ZeZ.Z4 b4 (Nat.le_refl _)
 have s3:=B3.size
 have s4s:=b4.size
 have B4:Ze h2.size h2 h4:=B3.trans (b4.mono s3)
 simp -implicitDefEqProofs only[go_sem,↓reduceIte,h4c,LU,Nat.sub_zero,Nat.zero_mul]
 refine Zv (E:=5) (B:=h2.size) Yt Tryz.underlying34 Wf Vh Vg of4 (by omega) s4 (by rw[fl,List.length_take];omega) ?_
 intro wg h5 og b5 _
 rw[←efr]at og
 have B5:Ze h2.size h2 h5:=B4.trans b5
 have s5:=B5.size
 have Bh5:=B2.trans (B5.mono (by omega))
 obtain⟨pg,cg,rfl,_⟩:=og.open
 rw[fsl]
 have x65:=B5.get (by omega) x6
 have r65:V.hc h5 ⟨h1.size,0,none⟩=some (.slice pw l.length cw):=by rw[Zg x65];rfl
 have o5:=o2.Z4 B5 (Nat.le_refl _)
 have x15:h5[h.size+1]? = some (.cells [.slice none 0 0,.int .i64 0].toArray 126):=B5.get (by omega) (b2.get (by omega) x1)
 generalize Y4 body=FR at *
 by_cases q:100000<l.length+(body.length+5)
 ·have q':100000<(l.length:Int)+((body.length+5:Nat):Int):=by omega
  have y2:=ZP x15 0
  have ZA:h.size+1<h5.size:=by omega
  rw[if_pos q]at ee
  rw[ee]
  simp -implicitDefEqProofs only[go_sem,↓reduceIte,r65,q',y2,ZA]
  exact⟨⟨_,rfl,Z1.nil _ _ _⟩,Bh5.Zk (by omega) _⟩
 ·have q':¬100000<(l.length:Int)+((body.length+5:Nat):Int):=by omega
  rw[if_neg q]at ee
  rw[ee]
  simp -implicitDefEqProofs only[go_sem,↓reduceIte,r65,q']
  have ogb:Bs h5 (.slice pg (body.length+5) cg) FR:=by rw[←fsl];exact og.bs
  refine JW (E:=5) (B:=h0.size) Yt Tryz.underlying34 Wf Vh Vg o5 (by omega) ogb (by omega) ?_
  intro wz h6 oz b6 bt6 bk6
  have s6:=b6.size
  have ER:∀b,ZM (Value.slice pw l.length cw)=some b→b<h1.size:=o1.own.lt
  have x66:h6[h1.size]? = some (.cells [.slice pw l.length cw,.int .i64 n].toArray 126):=by
   rw[bt6.block _ (by omega) (fun e=>by have:=ER _ e;omega)];exact x65
  have x16:h6[h.size+1]? = some (.cells [.slice none 0 0,.int .i64 0].toArray 126):=b6.get (by omega) x15
  obtain⟨pz,cz,hwz,_⟩:=oz.open
  have zl:(l++FR).length=l.length+(body.length+5):=by rw[List.length_append,fsl]
  rw[zl]at hwz
  subst hwz
  have w66:=Yq (v:=.slice pz (l.length+(body.length+5)) cz) x66 (o:=0)
  obtain⟨h7,ug⟩:=Zu (h6.setIfInBounds h1.size (.cells [.slice pz (l.length+(body.length+5)) cz,.int .i64 n].toArray 126):Hp)
  have Znh:Jn h6 ⟨h1.size,0,none⟩ (.slice pz (l.length+(body.length+5)) cz)=some h7:=by rw[w66,if_pos ⟨by simp,rfl⟩,ug];rfl
  have b7:VT (some h1.size) h6 h7:=by rw[ug];exact VT.Zar VT.refl
  have x77:h7[h1.size]? = some (.cells [.slice pz (l.length+(body.length+5)) cz,.int .i64 n].toArray 126):=by rw[ug,Array.getElem?_setIfInBounds,if_pos rfl,if_pos (by omega)]
  have x17:h7[h.size+1]? = some (.cells [.slice none 0 0,.int .i64 0].toArray 126):=by
   rw[b7.block _ (by omega) (fun e=>by have:=Option.some.inj e;omega)];exact x16
  have oz7:=oz.Mh b7 (fun b hb e=>by
   have e':=Option.some.inj e
   rcases bk6 b hb with g1|g1
   ·have:=ER b g1;omega
   ·omega)
  have r77:rd h7 ⟨h1.size,0,none⟩ 2=some [.slice pz (l.length+(body.length+5)) cz,.int .i64 n]:=Zo x77 rfl
  have y7:=ZP x17 0
  have L9:h.size+1<h7.size:=Za x17
  have CL:Ze h.size h h6:=Bh5.trans (b6.mono (by omega))
  have KY:Ze h.size h h7:=CL.trans (b7.Z4 (by omega) (fun b e=>by have:=Option.some.inj e;omega))
  clear ug w66
  simp -implicitDefEqProofs only[go_sem,↓reduceIte,Znh,r77,y7,L9]
  refine⟨⟨_,rfl,?_⟩,KY.Zk (by omega) _⟩
  exact (oz7.ZQ (by omega) _).mono (by omega)
theorem UN (g:Hp) (ns:List Nat):NT (g.push (.cells (ns.map nv).toArray 3)) (.slice (some ⟨g.size,0,none⟩) ns.length ns.length) ns:=by
 constructor
 rw[JV nv]
 exact Sl.made (by simp) _
theorem VF (T:World) (h:Hp) (u:Value) (ns:List Nat) (s:NT h u ns) (hl:ns.length≤100) (hb:∀x∈ns,x≤1073741824) :
  Zd Tryz.prog T 145 #[u] h fun v' h'=>Z1 h.size 5 h' v' (Zx ns)∧Ze h.size h h':=by
 obtain⟨p,c,rfl,Yx⟩:=sW s
 refine Zd.Zi (args:=[_]) Tryz.func145 rfl rfl rfl rfl ?_
 simp -implicitDefEqProofs only[go_sem,↓reduceIte]
 refine VS.ZU (fun F g=>Ze h.size h g∧F 6=.slice p ns.length c∧F 7=.int .i64 ns.length∧∃i:Nat,i≤ns.length∧F 8=.int .i64 i∧Z1 h.size 5 g (F 3) (Zx (ns.take i)))
  (fun F _=>ns.length-(vi (F 8)).toNat) rfl ⟨Ze.refl _ _,rfl,rfl,0,by omega,rfl,Z1.nil _ _ _⟩ ?_
 rintro F g ⟨hg,f6,f7,i,hi,f8,ho⟩
 have S8:=hg.size
 by_cases ZA:i<ns.length
 ·have ZH:(i:Int)<ns.length:=by omega
  obtain⟨b,o,rfl,hb0,Yx⟩:=Yx (by intro e;rw[e]at ZA;simp at ZA)
  have n1:V.hc g ⟨b,o+i,none⟩=some (.int .i64 (ns.getD i 0:Nat)):=by rw[hg.hc (by exact hb0)];exact Yx i ZA
  have et:ns.take (i+1)=ns.take i++[ns.getD i 0]:=by
   rw[Z9 _ i ZA,List.getD_eq_getElem?_getD,List.getElem?_eq_getElem ZA];rfl
  have hx:ns.getD i 0≤1073741824:=by
   rw[List.getD_eq_getElem?_getD,List.getElem?_eq_getElem ZA];exact hb _ (List.getElem_mem ZA)
  generalize ns.getD i 0=x at *
  obtain⟨yx,gF⟩:∃y:Int,y=(x:Int):=⟨_,rfl⟩
  obtain⟨z0,FC⟩:∃y:Int,y=((x/16777216%256:Nat):Int):=⟨_,rfl⟩
  obtain⟨z1,Gx⟩:∃y:Int,y=((x/65536%256:Nat):Int):=⟨_,rfl⟩
  obtain⟨z2,At⟩:∃y:Int,y=((x/256%256:Nat):Int):=⟨_,rfl⟩
  obtain⟨z3,uf⟩:∃y:Int,y=((x%256:Nat):Int):=⟨_,rfl⟩
  rw[←gF]at n1
  have e1:Unit→Xa .i64 yx 24%256=z0:=fun _=>by rw[gF,FC,show (24:Int)=((24:Nat):Int) from rfl,VZ x 24 (by decide)];rfl
  have e2:Unit→Xa .i64 yx 16%256=z1:=fun _=>by rw[gF,Gx,show (16:Int)=((16:Nat):Int) from rfl,VZ x 16 (by decide)];rfl
  have e3:Unit→Xa .i64 yx 8%256=z2:=fun _=>by rw[gF,At,show (8:Int)=((8:Nat):Int) from rfl,VZ x 8 (by decide)];rfl
  have e4:Unit→yx%256=z3:=fun _=>by rw[gF,uf];rfl
  have X4:(Zx (ns.take i)).length≤400:=by rw[ZB,List.length_take];omega
  clear gF
  simp -implicitDefEqProofs only[go_sem,↓reduceIte,f6,f7,f8,ZH,n1,e1 (),e2 (),e3 (),e4 ()]
  subst FC Gx At uf
  refine Zv (E:=5) (B:=h.size) Yt Tryz.underlying34 Wf Vh Vg (ho.push _) (by simp;omega) (Bs.made (l:=Qs x) (UX x) 4) (by simp[Qs];omega) ?_
  intro w' g' Rt X3 _
  simp -implicitDefEqProofs only[go_sem,↓reduceIte,f6,f7,f8]
  refine⟨⟨(hg.add _).trans X3,f6,f7,i+1,ZA,rfl,?_⟩,?_⟩
  ·rw[et]
   unfold Zx at Rt ⊢
   rw[List.flatMap_append]
   simp only[List.flatMap_cons,List.flatMap_nil,List.append_nil]
   exact Rt
  ·simp only[vi,Zh,↓reduceIte,f8];omega
 ·have YE:¬(i:Int)<ns.length:=by omega
  obtain rfl:i=ns.length:=by omega
  rw[List.take_length]at ho
  simp -implicitDefEqProofs only[go_sem,↓reduceIte,f6,f7,f8,YE]
  exact⟨ho,hg⟩
def Qv (l:List Nat) (n:Int) (b:XO):Int:=if ¬Y5 l n then 5 else if ¬ZR b then 2 else JD l n 9
def Qw (b:XO):List Nat:=1 :: Zx [b.r.toNat,b.n.toNat]
theorem AN (b:XO):Yv ⟨0,0⟩ [] b=if ZR b then 0 else 2:=by
 have e:XE ⟨0,0⟩ []=0:=rfl
 unfold Yv
 rw[if_neg (by rw[e];decide)]
 by_cases q:ZR b
 ·rw[if_neg (fun hn=>hn q),if_pos q,if_neg]
  intro hb
  have q1:=q.1.1
  rcases hb with hb|⟨hb,_⟩<;>simp at hb<;>omega
 ·rw[if_pos q,if_neg q]
theorem NS (T:World) (h:Hp) (v:Value) (n:Int) (l:List Nat) (b:XO) (s:Bs h v l) (hl:l.length≤140737488355328) (tk:Tk h) :
  Zd Tryz.prog T 123 #[.agg [v,.int .i64 n].toArray,.agg (X9 b).toArray] h fun v' h'=>Te h.size h' v' l n (Qv l n b) (Y4 (Qw b))∧Ze h.size h h':=by
 obtain⟨p,c,rfl,_⟩:=s.open
 refine Zd.Zi (args:=[_,_]) Tryz.func123 rfl rfl rfl rfl ?_
 unfold Te X9
 simp -implicitDefEqProofs only[go_sem,↓reduceIte]
 obtain⟨h0,XR⟩:=Zu (((h.push (.cells [.slice p l.length c,.int .i64 n].toArray 126)).push (.cells [.int .i64 b.r,.int .i64 b.n].toArray 128)).push (.cells [.slice none 0 0,.int .i64 0].toArray 126):Hp)
 have b0:Ze h.size h h0:=by rw[XR];exact (((Ze.refl _ _).add _).add _).add _
 have s0:h0.size=h.size+3:=by rw[XR];simp
 have t0:h0[h.size]? = some (.cells [.slice p l.length c,.int .i64 n].toArray 126):=by
  rw[XR,Array.getElem?_push,if_neg (by simp;omega),Array.getElem?_push,if_neg (by simp),Zb]
 have t1:h0[h.size+1]? = some (.cells [.int .i64 b.r,.int .i64 b.n].toArray 128):=by
  rw[XR,Array.getElem?_push,if_neg (by simp),Array.getElem?_push,if_pos (by simp)]
 have x0:h0[h.size+2]? = some (.cells [.slice none 0 0,.int .i64 0].toArray 126):=by
  rw[XR,Array.getElem?_push,if_pos (by simp)]
 rw[←XR]
 clear XR
 refine (Qc T h0 _ n l (s.Z4 b0) hl).use ?_
 rintro _ h1 ⟨b1,o1⟩
 have s1:=b1.size
 have B1:Ze h.size h h1:=b0.trans (b1.mono (by omega))
 have x1:=b1.get (by omega) x0
 by_cases ok:Y5 l n
 case neg=>
  have ee:Qv l n b=5:=by unfold Qv;rw[if_pos ok]
  rw[if_neg (show ¬(l.length≤100000∧0≤n∧n≤l.length) from ok)]at o1
  subst o1
  rw[ee]
  have y2:=ZP x1 0
  have ZA:h.size+2<h1.size:=by omega
  have Yr:¬h.size+2=h1.size:=by omega
  simp -implicitDefEqProofs only[go_sem,↓reduceIte,y2,Yr,ZA]
  exact⟨⟨_,rfl,Z1.nil _ _ _⟩,(B1.Zk (by omega) _).Yg (by simp;omega) _⟩
 rw[if_pos (show (l.length≤100000∧0≤n∧n≤l.length) from ok)]at o1
 obtain⟨w,rfl,o1⟩:=o1
 obtain⟨pw,cw,rfl,_⟩:=o1.open
 have bt1:=b1.get (by omega) t1
 have r1:rd h1 ⟨h.size+1,0,none⟩ 2=some [.int .i64 b.r,.int .i64 b.n]:=Zo bt1 rfl
 have Ds:¬h.size+1=h1.size:=by omega
 simp -implicitDefEqProofs only[go_sem,↓reduceIte,r1,Ds]
 have b2:Ze h1.size h1 (h1.push (.cells [.slice pw l.length cw,.int .i64 n].toArray 126)):=Ze.push (Nat.le_refl _) _
 refine (Tc T _ ⟨0,0⟩ (.slice none 0 0) [] b (Jh.nil 0 161 Zm 8 _).ts (by simp)).use ?_
 rintro _ h3 ⟨⟨w1,w2,rfl,q1,q2⟩,b3⟩
 simp only[ite_self]at q1
 have B3:Ze h1.size h1 h3:=b2.trans (b3.mono b2.size)
 rw[AN]
 obtain⟨p1,c1,ER,_⟩:=q1.open
 have s3:=B3.size
 have x3:=B3.get (by omega) x1
 have jt:=B1.trans (B3.mono (by omega))
 by_cases may:ZR b
 case neg=>
  have ee:Qv l n b=2:=by unfold Qv;rw[if_neg (fun hn=>hn ok),if_pos may]
  rw[ee,if_neg may]
  obtain⟨w1',ZyO⟩:∃w,w=w1:=⟨_,rfl⟩
  subst ER
  have y2:=ZP x3 0
  have ZA:h.size+2<h3.size:=by omega
  have Yr:¬h.size+2=h3.size:=by omega
  unfold YJ
  simp -implicitDefEqProofs only[go_sem,↓reduceIte,y2,Yr,ZA]
  exact⟨⟨_,rfl,Z1.nil _ _ _⟩,(jt.Zk (by omega) _).Yg (by simp;omega) _⟩
 have ee:Qv l n b=JD l n 9:=by unfold Qv;rw[if_neg (fun hn=>hn ok),if_neg (fun hn=>hn may)]
 rw[ee,if_pos may]
 obtain⟨⟨m1,m2⟩,m3,m4⟩:=may
 obtain⟨br,bn⟩:=b
 obtain⟨r,rfl⟩:∃r:Nat,br=r:=⟨br.toNat,by simp at m1;omega⟩
 obtain⟨m,rfl⟩:∃m:Nat,bn=m:=⟨bn.toNat,by simp at m3;omega⟩
 simp only at m1 m2 m3 m4
 unfold Qw
 simp only[Int.toNat_natCast]
 subst ER
 unfold YJ
 have t3:=B3.get (by omega) (b1.get (by omega) t0)
 have t13:=B3.get (by omega) bt1
 obtain⟨g,hg⟩:=Zu (h3.push (.cells [.int .i64 (r:Nat),.int .i64 (m:Nat),.slice p1 ([]:List Vt).length c1].toArray 131):Hp)
 simp -implicitDefEqProofs only[go_sem,↓reduceIte]
 have e3:h3.push (.cells #[Value.int .i64 (r:Nat),.int .i64 (m:Nat),.slice p1 0 c1] 131)=g:=hg.symm
 rw[e3]
 have bg:Ze h3.size h3 g:=by rw[hg];exact Ze.push (Nat.le_refl _) _
 have sg:g.size=h3.size+1:=by rw[hg];simp
 clear e3 hg
 have Bg:Ze h.size h g:=jt.trans (bg.mono (by omega))
 have x4g:=bg.get (by omega) x3
 have t4:=bg.get (by omega) t3
 have t14:=bg.get (by omega) t13
 have r0:rd g ⟨h.size,0,none⟩ 2=some [.slice p l.length c,.int .i64 n]:=Zo t4 rfl
 have c0:V.hc g ⟨h.size+1,0,none⟩=some (.int .i64 (r:Nat)):=by rw[Zg t14];rfl
 have zQ:V.hc g ⟨h.size+1,1,none⟩=some (.int .i64 (m:Nat)):=by rw[Zg t14];rfl
 have k0:h.size<g.size:=by omega
 have k1:h.size+1<g.size:=by omega
 refine VS.w (g.size) [12,13] (.q 0 (.q 2 (.q 3 (.q 4 (.q 5 (.or 1 (.s 6 (.s 7 (.s 8 (.s 9 (.q 10 (.q 11 (.w 12 (.w 13 .nil)))))))) (.s 6 (.or 1 (.s 7 (.s 8 (.s 9 (.q 10 (.q 11 (.w 12 (.w 13 .nil))))))) (.s 7 (.s 1 (.s 8 (.s 9 (.q 10 (.q 11 (.w 12 (.w 13 .nil)))))))))))))))) mixed (by kernel_rfl) ?_
 simp -implicitDefEqProofs only[go_sem,↓reduceIte,r0,c0,zQ,k0,k1]
 refine⟨?_,?_,?_⟩
 ·have o0:Z1 g.size 5 (g.push (.cells (([1]:List Nat).map bv).toArray 5)) (.slice (some ⟨g.size,0,none⟩) 1 1) [1]:=Z1.made (by decide) (Nat.le_refl _)
  have B0:Ze g.size g ((g.push (.cells (([1]:List Nat).map bv).toArray 5)).push (.cells (([r,m]:List Nat).map nv).toArray 3)):=(Ze.push (Nat.le_refl _) _).Yg (by simp) _
  have o00:=o0.push (.cells (([r,m]:List Nat).map nv).toArray 3)
  have si:NT ((g.push (.cells (([1]:List Nat).map bv).toArray 5)).push (.cells (([r,m]:List Nat).map nv).toArray 3)) (.slice (some ⟨(g.push (.cells (([1]:List Nat).map bv).toArray 5)).size,0,none⟩) 2 2) [r,m]:=UN _ _
  have e1:(g.push (.cells (([1]:List Nat).map bv).toArray 5)).size=g.size+1:=by simp
  rw[e1]at si
  refine (VF T _ _ [r,m] si (by simp) (by intro x hx;simp only[List.mem_cons,List.not_mem_nil,or_false]at hx;omega)).use ?_
  rintro w5 h5 ⟨o5,b5⟩
  have BB:=B0.trans (b5.mono B0.size)
  have o1:=o00.Z4 b5 (Nat.le_refl _)
  have s4:=o5.bs
  simp -implicitDefEqProofs only[go_sem,↓reduceIte,BB]
  refine Zv (E:=5) (B:=g.size) Yt Tryz.underlying34 Wf Vh Vg o1 BB.size s4 (by rw[ZB];simp) ?_
  intro w6 h6 o6 b6 _
  have B6:Ze g.size g h6:=BB.trans b6
  have CL:=Bg.trans (B6.mono (by omega))
  have nj:Z1 g.size 5 h6 w6 (1 :: Zx [r,m]):=o6
  simp -implicitDefEqProofs only[go_sem,↓reduceIte,B6]
  refine (VE T h6 _ w6 n l (1 :: Zx [r,m]) (s.Z4 CL) hl nj.bs (by simp only[List.length_cons,ZB,List.length_nil];omega) (tk.Js CL)).use ?_
  rintro _ h7 ⟨⟨w7,rfl,o7⟩,b7⟩
  have el:(1 :: Zx [r,m]).length=9:=by simp only[List.length_cons,ZB,List.length_nil]
  rw[el]at o7 ⊢
  have B7:Ze g.size g h7:=B6.trans (b7.mono B6.size)
  have KY:=CL.trans (b7.mono CL.size)
  have x7:=B7.get (by omega) x4g
  have y7:=ZP x7 0
  have L9:h.size+2<h7.size:=Za x7
  generalize Y4 (1 :: Zx [r,m])=FR at *
  obtain⟨E,hE⟩:=Zu (JD l n 9)
  rw[←hE]at o7 ⊢
  obtain⟨z,hz⟩:∃z:Int,z=if E=0 then n else 0:=⟨_,rfl⟩
  rw[←hz]
  obtain⟨pz,cz,rfl,_⟩:=o7.open
  have o7l:=o7
  simp -implicitDefEqProofs only[go_sem,↓reduceIte,B7,y7,L9]
  refine⟨⟨_,rfl,?_⟩,KY.Zk (by omega) _⟩
  exact (o7.ZQ (by have:=B6.size;omega) _).mono (by have:=B6.size;omega)
 ·have uh:Ze g.size g (g.push (.cells (([r,m]:List Nat).map nv).toArray 3)):=Ze.push (Nat.le_refl _) _
  have o0:Z1 g.size 5 ((g.push (.cells (([r,m]:List Nat).map nv).toArray 3)).push (.cells (([1]:List Nat).map bv).toArray 5)) (.slice (some ⟨(g.push (.cells (([r,m]:List Nat).map nv).toArray 3)).size,0,none⟩) 1 1) [1]:=(Z1.made (by decide) (Nat.le_refl _)).mono (by simp)
  have B0:Ze g.size g ((g.push (.cells (([r,m]:List Nat).map nv).toArray 3)).push (.cells (([1]:List Nat).map bv).toArray 5)):=uh.Yg (by simp) _
  have si0:NT (g.push (.cells (([r,m]:List Nat).map nv).toArray 3)) (.slice (some ⟨g.size,0,none⟩) 2 2) [r,m]:=UN _ _
  have si:=si0.Z4 (Ze.push (Nat.le_refl _) (.cells (([1]:List Nat).map bv).toArray 5))
  have e1:(g.push (.cells (([r,m]:List Nat).map nv).toArray 3)).size=g.size+1:=by simp
  rw[e1]at o0
  refine (VF T _ _ [r,m] si (by simp) (by intro x hx;simp only[List.mem_cons,List.not_mem_nil,or_false]at hx;omega)).use ?_
  rintro w5 h5 ⟨o5,b5⟩
  have BB:=B0.trans (b5.mono B0.size)
  have o1:=o0.Z4 b5 (Nat.le_refl _)
  have s4:=o5.bs
  simp -implicitDefEqProofs only[go_sem,↓reduceIte,BB]
  refine Zv (E:=5) (B:=g.size) Yt Tryz.underlying34 Wf Vh Vg o1 BB.size s4 (by rw[ZB];simp) ?_
  intro w6 h6 o6 b6 _
  have B6:Ze g.size g h6:=BB.trans b6
  have CL:=Bg.trans (B6.mono (by omega))
  have nj:Z1 g.size 5 h6 w6 (1 :: Zx [r,m]):=o6
  simp -implicitDefEqProofs only[go_sem,↓reduceIte,B6]
  refine (VE T h6 _ w6 n l (1 :: Zx [r,m]) (s.Z4 CL) hl nj.bs (by simp only[List.length_cons,ZB,List.length_nil];omega) (tk.Js CL)).use ?_
  rintro _ h7 ⟨⟨w7,rfl,o7⟩,b7⟩
  have el:(1 :: Zx [r,m]).length=9:=by simp only[List.length_cons,ZB,List.length_nil]
  rw[el]at o7 ⊢
  have B7:Ze g.size g h7:=B6.trans (b7.mono B6.size)
  have KY:=CL.trans (b7.mono CL.size)
  have x7:=B7.get (by omega) x4g
  have y7:=ZP x7 0
  have L9:h.size+2<h7.size:=Za x7
  generalize Y4 (1 :: Zx [r,m])=FR at *
  obtain⟨E,hE⟩:=Zu (JD l n 9)
  rw[←hE]at o7 ⊢
  obtain⟨z,hz⟩:∃z:Int,z=if E=0 then n else 0:=⟨_,rfl⟩
  rw[←hz]
  obtain⟨pz,cz,rfl,_⟩:=o7.open
  have o7l:=o7
  simp -implicitDefEqProofs only[go_sem,↓reduceIte,B7,y7,L9]
  refine⟨⟨_,rfl,?_⟩,KY.Zk (by omega) _⟩
  exact (o7.ZQ (by have:=B6.size;omega) _).mono (by have:=B6.size;omega)
 ·have uh:Ze g.size g (g.push (.cells (([r,m]:List Nat).map nv).toArray 3)):=Ze.push (Nat.le_refl _) _
  have si:NT (g.push (.cells (([r,m]:List Nat).map nv).toArray 3)) (.slice (some ⟨g.size,0,none⟩) 2 2) [r,m]:=UN _ _
  refine (VF T _ _ [r,m] si (by simp) (by intro x hx;simp only[List.mem_cons,List.not_mem_nil,or_false]at hx;omega)).use ?_
  rintro w5 h5 ⟨o5,b5⟩
  have ui:=uh.trans (b5.mono uh.size)
  have BB:Ze g.size g (h5.push (.cells (([1]:List Nat).map bv).toArray 5)):=ui.Yg ui.size _
  have o1:Z1 g.size 5 (h5.push (.cells (([1]:List Nat).map bv).toArray 5)) (.slice (some ⟨h5.size,0,none⟩) 1 1) [1]:=(Z1.made (by decide) (Nat.le_refl _)).mono ui.size
  have s4:=o5.bs.Z4 (Ze.push (Nat.le_refl h5.size) (.cells (([1]:List Nat).map bv).toArray 5))
  simp -implicitDefEqProofs only[go_sem,↓reduceIte,ui,BB]
  refine Zv (E:=5) (B:=g.size) Yt Tryz.underlying34 Wf Vh Vg o1 BB.size s4 (by rw[ZB];simp) ?_
  intro w6 h6 o6 b6 _
  have B6:Ze g.size g h6:=BB.trans b6
  have CL:=Bg.trans (B6.mono (by omega))
  have nj:Z1 g.size 5 h6 w6 (1 :: Zx [r,m]):=o6
  simp -implicitDefEqProofs only[go_sem,↓reduceIte,B6]
  refine (VE T h6 _ w6 n l (1 :: Zx [r,m]) (s.Z4 CL) hl nj.bs (by simp only[List.length_cons,ZB,List.length_nil];omega) (tk.Js CL)).use ?_
  rintro _ h7 ⟨⟨w7,rfl,o7⟩,b7⟩
  have el:(1 :: Zx [r,m]).length=9:=by simp only[List.length_cons,ZB,List.length_nil]
  rw[el]at o7 ⊢
  have B7:Ze g.size g h7:=B6.trans (b7.mono B6.size)
  have KY:=CL.trans (b7.mono CL.size)
  have x7:=B7.get (by omega) x4g
  have y7:=ZP x7 0
  have L9:h.size+2<h7.size:=Za x7
  generalize Y4 (1 :: Zx [r,m])=FR at *
  obtain⟨E,hE⟩:=Zu (JD l n 9)
  rw[←hE]at o7 ⊢
  obtain⟨z,hz⟩:∃z:Int,z=if E=0 then n else 0:=⟨_,rfl⟩
  rw[←hz]
  obtain⟨pz,cz,rfl,_⟩:=o7.open
  have o7l:=o7
  simp -implicitDefEqProofs only[go_sem,↓reduceIte,B7,y7,L9]
  refine⟨⟨_,rfl,?_⟩,KY.Zk (by omega) _⟩
  exact (o7.ZQ (by have:=B6.size;omega) _).mono (by have:=B6.size;omega)
theorem WD (n:Nat):XS n [Value.int .u8 0]=(List.replicate n 0).map bv:=by
 induction n with
 | zero=>rfl
 | succ n ih=>rw[XS,ih];rfl
theorem Ka:∀(vs zs:List Value),vs.length≤zs.length→Yl zs 0 vs=vs++zs.drop vs.length
 | [],zs,_=>by cases zs<;>rfl
 | v :: vs,[],h=>by simp at h
 | v :: vs,z :: zs,h=>by
  rw[Yl,Ka vs zs (by simpa using h)]
  rfl
theorem Dt (key:List Nat):Yl ((List.replicate 64 0).map bv) 0 (((RE key).map bv).take (min (RE key).length 64))=(UD key).map bv:=by
 have:=Ww key
 rw[Nat.min_eq_left this,List.take_of_length_le (by simp),Ka _ _ (by simp;omega),List.length_map,←List.map_drop,List.drop_replicate,UD,List.map_append]
theorem nk (T:World) (h:Hp) (v:Value) (key:List Nat) (w:Nat) (s:Bs h v key) (hk:key.length≤100000) (hw:w<256) (tk:Tk h) :
  Zd Tryz.prog T 84 #[v,.int .u8 w] h fun v' h'=>Z1 h.size 5 h' v' (Wh key w)∧Ze h.size h h':=by
 obtain⟨p,cp,rfl,UA⟩:=s.open
 have AL:SP key:=s.byte
 refine Zd.Zi (args:=[_,_]) Tryz.func84 rfl rfl rfl rfl ?_
 by_cases e64:64<key.length
 ·have Zat:64<(key.length:Int):=by omega
  have hK:TZ key=RE key:=by unfold RE;rw[if_pos e64]
  simp -implicitDefEqProofs only[go_sem,↓reduceIte,Zat]
  refine (GX T _ _ key s hk tk).use ?_
  rintro u g ⟨ou,bg⟩
  have su:=ou.bs
  rw[hK]at su
  simp -implicitDefEqProofs only[go_sem,↓reduceIte]
  have hG:Ze h.size h (g.push (.cells (XS 64 [Value.int .u8 0]).toArray 5)):=bg.add _
  have sK':=su.Z4 (Ze.push (Nat.le_refl g.size) (.cells (XS 64 [Value.int .u8 0]).toArray 5))
  have kl:=Ww key
  refine Lq (o:=0) (dl:=64) (dc:=64) (c:=XS 64 [Value.int .u8 0]) (E':=5) Yt Wf Zb sK'.sl (VV _) (by rw[WD];simp;omega) ?_
  rw[Wp,WD,Dt]
  have bZ:Ze h.size h (g.push (.cells ((UD key).map bv).toArray 5)):=bg.add _
  have Tb:(g.push (.cells ((UD key).map bv).toArray 5))[g.size]? = some (.cells (((Wh key w).take 0++(UD key).drop 0).map bv++[]).toArray 5):=by
   rw[List.take_zero,List.drop_zero,List.nil_append,List.append_nil];exact Zb
  simp -implicitDefEqProofs only[go_sem,↓reduceIte]
  refine VS.ZU (fun F' g'=>Ze h.size h g'∧F' 1=.int .u8 w∧F' 5=.slice (some ⟨g.size,0,none⟩) 64 64∧F' 17=.int .i64 64∧∃i:Nat,i≤64∧F' 18=.int .i64 i∧g'[g.size]? = some (.cells (((Wh key w).take i++(UD key).drop i).map bv++[]).toArray 5))
   (fun F _=>64-(vi (F 18)).toNat) rfl ⟨bZ,rfl,rfl,rfl,0,by omega,rfl,Tb⟩ ?_
  clear hG bZ Tb sK'
  rintro F g' ⟨hg,f1,f5,f17,i,hi,f18,hx⟩
  have S8:=Za hx
  have ub:((Wh key w).take i++(UD key).drop i).length=64:=by rw[List.length_append,List.length_take,List.length_drop,ZY,XU];omega
  by_cases ZA:i<64
  ·have ZH:(i:Int)<64:=by omega
   have q1:=ZJ (f:=bv) hx (i:=i) (by omega)
   have e0:((Wh key w).take i++(UD key).drop i).getD i 0=(UD key).getD i 0:=by
    rw[List.getD_eq_getElem?_getD,List.getElem?_append_right (by rw[List.length_take,ZY];omega),List.length_take,ZY,Nat.min_eq_left (by omega),Nat.sub_self,List.getElem?_drop,Nat.add_zero,←List.getD_eq_getElem?_getD]
   rw[e0]at q1
   unfold bv at q1
   have eX:=Hh key w ZA
   have cs:=ZZ (f:=bv) hx (i:=i) (by omega) ((Wh key w).getD i 0) rfl
   rw[RI _ _ i (by rw[ZY];exact ZA) (by rw[ZY,XU])]at cs
   have hZb:=ZF (OF AL) i
   have ox:Unit→Z8 .xor .u8 (((UD key).getD i 0:Nat):Int) (w:Int)=(((Wh key w).getD i 0:Nat):Int):=fun _=>by rw[eX];exact Gd _ _ hZb hw
   have jP:Jn g' ⟨g.size,i,none⟩ (.int .u8 (((Wh key w).getD i 0:Nat):Int))=_:=cs
   simp -implicitDefEqProofs only[go_sem,↓reduceIte,f1,f5,f17,f18,ZH,q1,ox (),jP]
   refine⟨⟨hg.Zk (bg.size) _,f1,f5,f17,i+1,ZA,rfl,ZO hx⟩,?_⟩
   simp only[vi,Zh,↓reduceIte,f18];omega
  ·have YE:¬(i:Int)<64:=by omega
   obtain rfl:i=64:=by omega
   rw[List.take_of_length_le (by rw[ZY];omega),List.drop_of_length_le (by rw[XU];omega),List.append_nil,List.append_nil]at hx
   simp -implicitDefEqProofs only[go_sem,↓reduceIte,f5,f17,f18,YE]
   exact⟨⟨.inr ⟨g.size,64,[],bg.size,by rw[ZY],by rw[List.append_nil];exact hx,by simp[ZY],by rw[ZY];rfl,by rw[ZY];omega⟩,Hg AL hw⟩,hg⟩
 ·have Zat:¬64<(key.length:Int):=by omega
  have hK:RE key=key:=by unfold RE;rw[if_neg e64]
  have b0:=Ze.refl h.size h
  have su:=s
  have ON:Bs h (.slice p (RE key).length cp) (RE key):=by rw[hK];exact s
  simp -implicitDefEqProofs only[go_sem,↓reduceIte,Zat]
  have hG:Ze h.size h (h.push (.cells (XS 64 [Value.int .u8 0]).toArray 5)):=b0.add _
  have qx:key.length=(RE key).length:=by rw[hK]
  rw[qx]
  have sK':=ON.Z4 (Ze.push (Nat.le_refl h.size) (.cells (XS 64 [Value.int .u8 0]).toArray 5))
  have kl:=Ww key
  refine Lq (o:=0) (dl:=64) (dc:=64) (c:=XS 64 [Value.int .u8 0]) (E':=5) Yt Wf Zb sK'.sl (VV _) (by rw[WD];simp;omega) ?_
  rw[Wp,WD,Dt]
  have bZ:Ze h.size h (h.push (.cells ((UD key).map bv).toArray 5)):=b0.add _
  have Tb:(h.push (.cells ((UD key).map bv).toArray 5))[h.size]? = some (.cells (((Wh key w).take 0++(UD key).drop 0).map bv++[]).toArray 5):=by
   rw[List.take_zero,List.drop_zero,List.nil_append,List.append_nil];exact Zb
  simp -implicitDefEqProofs only[go_sem,↓reduceIte]
  refine VS.ZU (fun F' g'=>Ze h.size h g'∧F' 1=.int .u8 w∧F' 5=.slice (some ⟨h.size,0,none⟩) 64 64∧F' 17=.int .i64 64∧∃i:Nat,i≤64∧F' 18=.int .i64 i∧g'[h.size]? = some (.cells (((Wh key w).take i++(UD key).drop i).map bv++[]).toArray 5))
   (fun F _=>64-(vi (F 18)).toNat) rfl ⟨bZ,rfl,rfl,rfl,0,by omega,rfl,Tb⟩ ?_
  clear hG bZ Tb sK'
  rintro F g' ⟨hg,f1,f5,f17,i,hi,f18,hx⟩
  have S8:=Za hx
  have ub:((Wh key w).take i++(UD key).drop i).length=64:=by rw[List.length_append,List.length_take,List.length_drop,ZY,XU];omega
  by_cases ZA:i<64
  ·have ZH:(i:Int)<64:=by omega
   have q1:=ZJ (f:=bv) hx (i:=i) (by omega)
   have e0:((Wh key w).take i++(UD key).drop i).getD i 0=(UD key).getD i 0:=by
    rw[List.getD_eq_getElem?_getD,List.getElem?_append_right (by rw[List.length_take,ZY];omega),List.length_take,ZY,Nat.min_eq_left (by omega),Nat.sub_self,List.getElem?_drop,Nat.add_zero,←List.getD_eq_getElem?_getD]
   rw[e0]at q1
   unfold bv at q1
   have eX:=Hh key w ZA
   have cs:=ZZ (f:=bv) hx (i:=i) (by omega) ((Wh key w).getD i 0) rfl
   rw[RI _ _ i (by rw[ZY];exact ZA) (by rw[ZY,XU])]at cs
   have hZb:=ZF (OF AL) i
   have ox:Unit→Z8 .xor .u8 (((UD key).getD i 0:Nat):Int) (w:Int)=(((Wh key w).getD i 0:Nat):Int):=fun _=>by rw[eX];exact Gd _ _ hZb hw
   have jP:Jn g' ⟨h.size,i,none⟩ (.int .u8 (((Wh key w).getD i 0:Nat):Int))=_:=cs
   simp -implicitDefEqProofs only[go_sem,↓reduceIte,f1,f5,f17,f18,ZH,q1,ox (),jP]
   refine⟨⟨hg.Zk (b0.size) _,f1,f5,f17,i+1,ZA,rfl,ZO hx⟩,?_⟩
   simp only[vi,Zh,↓reduceIte,f18];omega
  ·have YE:¬(i:Int)<64:=by omega
   obtain rfl:i=64:=by omega
   rw[List.take_of_length_le (by rw[ZY];omega),List.drop_of_length_le (by rw[XU];omega),List.append_nil,List.append_nil]at hx
   simp -implicitDefEqProofs only[go_sem,↓reduceIte,f5,f17,f18,YE]
   exact⟨⟨.inr ⟨h.size,64,[],b0.size,by rw[ZY],by rw[List.append_nil];exact hx,by simp[ZY],by rw[ZY];rfl,by rw[ZY];omega⟩,Hg AL hw⟩,hg⟩
theorem AO (T:World) (h:Hp) (v u:Value) (key b:List Nat) (s:Bs h v key) (sb:Bs h u b) (hk:key.length≤10000) (hb:b.length≤10000) (tk:Tk h) :
  Zd Tryz.prog T 67 #[v,u] h fun v' h'=>Z1 h.size 5 h' v' (OG key b)∧Ze h.size h h':=by
 have sb0:=sb
 refine Zd.Zi (args:=[_,_]) Tryz.func67 rfl rfl rfl rfl ?_
 simp -implicitDefEqProofs only[go_sem,↓reduceIte]
 refine (nk T h v key 92 s (by omega) (by omega) tk).use ?_
 rintro v1 h1 ⟨o1,b1⟩
 have s1:=b1.size
 simp -implicitDefEqProofs only[go_sem,↓reduceIte]
 refine (nk T h1 v key 54 (s.Z4 b1) (by omega) (by omega) (tk.Js b1)).use ?_
 rintro v2 h2 ⟨o2,b2⟩
 have s2:=b2.size
 have B2:=b1.trans (b2.mono s1)
 have o1':=o1.Z4 b2 (Nat.le_refl _)
 have l1:=ZY key 92
 have l2:=ZY key 54
 simp -implicitDefEqProofs only[go_sem,↓reduceIte]
 refine Zv (E:=5) (B:=h1.size) Yt Tryz.underlying34 Wf Vh Vg o2 s2 (sb.Z4 B2) (by rw[l2];omega) ?_
 intro v3 h3 o3 b3 _
 have s3:=b3.size
 have B3:=B2.trans (b3.mono s1)
 have Znl:=o1.Z4 (b2.trans b3) (Nat.le_refl _)
 simp -implicitDefEqProofs only[go_sem,↓reduceIte]
 refine (GX T h3 v3 _ o3.bs (by rw[List.length_append,l2];omega) (tk.Js B3)).use ?_
 rintro v4 h4 ⟨o4,b4⟩
 have B4:=B3.trans (b4.mono (by omega))
 have o14:=Znl.Z4 b4 (Nat.le_refl _)
 simp -implicitDefEqProofs only[go_sem,↓reduceIte]
 refine Zv (E:=5) (B:=h.size) Yt Tryz.underlying34 Wf Vh Vg o14 B4.size o4.bs (by rw[l1,Jx];omega) ?_
 intro v5 h5 o5 b5 _
 have B5:=B4.trans b5
 simp -implicitDefEqProofs only[go_sem,↓reduceIte]
 refine (GX T h5 v5 _ o5.bs (by rw[List.length_append,l1,Jx];omega) (tk.Js B5)).use ?_
 rintro v6 h6 ⟨o6,b6⟩
 simp -implicitDefEqProofs only[go_sem,↓reduceIte]
 exact⟨o6.mono B5.size,B5.trans (b6.mono B5.size)⟩
def Kb (m n:Nat):Int:=if 256<m∨2000<n then 1 else 0
def np (B:Nat) (h':Hp) (v':Value) (key b:List Nat):Prop:=∃w,v'=.tuple [w,.int .i64 (Kb key.length b.length)].toArray∧Z1 B 5 h' w (if Kb key.length b.length=0 then OG key b else [])
theorem gG (T:World) (h:Hp) (v u:Value) (key b:List Nat) (s:Bs h v key) (sb:Bs h u b) (tk:Tk h) :
  Zd Tryz.prog T 71 #[v,u] h fun v' h'=>np h.size h' v' key b∧Ze h.size h h':=by
 obtain⟨p,cp,rfl,UA⟩:=s.open
 obtain⟨q,cq,rfl,I4⟩:=sb.open
 refine Zd.Zi (args:=[_,_]) Tryz.func71 rfl rfl rfl rfl ?_
 unfold np Kb
 by_cases e1:256<key.length
 ·have ju:256<(key.length:Int):=by omega
  rw[if_pos (.inl e1)]
  simp -implicitDefEqProofs only[go_sem,↓reduceIte,ju]
  exact⟨_,rfl,Z1.nil _ _ _⟩
 ·have ju:¬256<(key.length:Int):=by omega
  by_cases e2:2000<b.length
  ·have qA:2000<(b.length:Int):=by omega
   rw[if_pos (.inr e2)]
   simp -implicitDefEqProofs only[go_sem,↓reduceIte,ju,qA]
   exact⟨_,rfl,Z1.nil _ _ _⟩
  ·have qA:¬2000<(b.length:Int):=by omega
   rw[if_neg (by omega)]
   simp -implicitDefEqProofs only[go_sem,↓reduceIte,ju,qA]
   refine (AO T _ _ _ key b s sb (by omega) (by omega) tk).use ?_
   rintro w h1 ⟨o1,b1⟩
   simp -implicitDefEqProofs only[go_sem,↓reduceIte,b1]
   exact⟨_,rfl,o1⟩
theorem Du (T:World) (h:Hp) (v u:Value) (key b:List Nat) (s:Bs h v key) (sb:Bs h u b) (hk:key.length≤256) (hb:b.length≤2000) (tk:Tk h) :
  Zd Tryz.prog T 52 #[v,u] h fun v' h'=>(Bs h' v' ((OG key b).take 16)∧WO v')∧Ze h.size h h':=by
 refine Zd.Zi (args:=[_,_]) Tryz.func52 rfl rfl rfl rfl ?_
 simp -implicitDefEqProofs only[go_sem,↓reduceIte]
 refine (gG T _ _ _ key b s sb tk).use ?_
 rintro _ h1 ⟨⟨w,rfl,o1⟩,b1⟩
 have e0:Kb key.length b.length=0:=by unfold Kb;rw[if_neg (by omega)]
 rw[e0,if_pos rfl]at o1
 rw[e0]
 have ml:=Wx key b
 generalize OG key b=M at *
 obtain⟨p,c,rfl,hc⟩:=o1.open
 have sM:=o1.bs
 obtain⟨p',c',hv,hh⟩:=sM.Us
 simp only[Value.slice.injEq]at hv
 obtain⟨rfl,_,rfl⟩:=hv
 obtain⟨bb,ob,rfl,_⟩:=hh (by intro e;rw[e]at ml;cases ml)
 have fin:=Bs.TN sM (m:=16) (by omega) c
 rw[ml]at hc ⊢
 have h16:(16:Int)≤(c:Int):=by omega
 have bH:¬c=0:=by omega
 simp -implicitDefEqProofs only[go_sem,↓reduceIte,h16,bH,Nat.sub_zero,Nat.zero_mul,b1]
 exact⟨fin,show 16≤c by omega⟩
def gH (c r u:Nat):List Nat:=[c,r]++Qs u
def Kc (key:List Nat) (c r u:Nat):List Nat:=gH c r u++(OG key (gH c r u)).take 16
theorem NU (c r u:Nat):(gH c r u).length=6:=rfl
theorem WE (key:List Nat) (c r u:Nat):(Kc key c r u).length=22:=by
 rw[Kc,List.length_append,NU,List.length_take,Wx];rfl
def U3 (kl:Nat) (c r u:Int):Int:=if kl≠32 then 1 else XC c r u
def AP (B:Nat) (h':Hp) (v':Value) (key:List Nat) (c r u:Int):Prop:=∃w,v'=.tuple [w,.int .i64 (U3 key.length c r u)].toArray∧Z1 B 5 h' w (if U3 key.length c r u=0 then Kc key c.toNat r.toNat u.toNat else [])
theorem Dv {c r u:Int} (h:XC c r u=0):∃c' r' u':Nat,c=c'∧r=r'∧u=u'∧c'<8∧r'<8∧u'≤1048576:=by
 unfold XC at h
 split at h
 ·cases h
 ·exact⟨c.toNat,r.toNat,u.toNat,by omega,by omega,by omega,by omega,by omega,by omega⟩
theorem nq (T:World) (h:Hp) (v:Value) (key:List Nat) (c r u:Int) (s:Bs h v key) (tk:Tk h) :
  Zd Tryz.prog T 41 #[v,.agg (VY c r u).toArray] h fun v' h'=>AP h.size h' v' key c r u∧Ze h.size h h':=by
 obtain⟨p,cp,rfl,_⟩:=s.open
 refine Zd.Zi (args:=[_,_]) Tryz.func41 rfl rfl rfl rfl ?_
 unfold AP VY
 by_cases hk:key.length=32
 case neg=>
  have ee:U3 key.length c r u=1:=by unfold U3;rw[if_pos hk]
  have Pv:¬(key.length:Int)=32:=by omega
  rw[ee]
  simp -implicitDefEqProofs only[go_sem,↓reduceIte,Pv]
  exact⟨_,rfl,Z1.nil _ _ _⟩
 have Pv:(key.length:Int)=32:=by omega
 have ee:U3 key.length c r u=XC c r u:=by unfold U3;rw[if_neg (by omega)]
 rw[ee]
 simp -implicitDefEqProofs only[go_sem,↓reduceIte,Pv]
 refine (Lz T _ c r u).use ?_
 rintro _ _ ⟨rfl,rfl⟩
 unfold VY
 by_cases q:XC c r u=0
 case neg=>
  simp -implicitDefEqProofs only[go_sem,↓reduceIte,q]
  exact⟨_,rfl,Z1.nil _ _ _⟩
 obtain⟨c,r,u,rfl,rfl,rfl,hc,hr,hu⟩:=Dv q
 rw[q]
 have ec:(c:Int)%256=(c:Int):=by omega
 have er:(r:Int)%256=(r:Int):=by omega
 simp only[Int.toNat_natCast]
 simp -implicitDefEqProofs only[go_sem,↓reduceIte,ec,er]
 obtain⟨h1,YF⟩:=Zu ((h.push (.cells [Value.int .i64 c,.int .i64 r,.int .i64 u].toArray 75)).push (.cells [Value.int .i64 c,.int .i64 r,.int .i64 u].toArray 75):Hp)
 have b1:Ze h.size h h1:=by rw[YF];exact ((Ze.refl _ _).add _).add _
 have s1:h1.size=h.size+1+1:=by rw[YF];simp
 rw[←s1,←YF]
 clear YF
 have Ie:∀x∈[c,r],x<256:=by
  intro x hx
  simp only[List.mem_cons,List.not_mem_nil,or_false]at hx
  omega
 have o2:Z1 h1.size 5 (h1.push (.cells (([c,r]:List Nat).map bv).toArray 5)) (.slice (some ⟨h1.size,0,none⟩) 2 2) [c,r]:=Z1.made Ie (Nat.le_refl _)
 have B2:Ze h1.size h1 (h1.push (.cells (([c,r]:List Nat).map bv).toArray 5)):=Ze.push (Nat.le_refl _) _
 refine (bW T _ h1.size _ [c,r] u o2 (by simp) (by simp) (by omega)).use ?_
 rintro w3 h3 ⟨o3,b3⟩
 have B3:=B2.trans b3
 have jt:Ze h.size h h3:=b1.trans (B3.mono (by omega))
 have o3':Z1 h1.size 5 h3 w3 (gH c r u):=o3
 have gl:=NU c r u
 unfold Kc
 generalize gH c r u=G at *
 simp -implicitDefEqProofs only[go_sem,↓reduceIte]
 rw[←Pv]
 refine (Du T h3 _ w3 key G (s.Z4 jt) o3'.bs (by omega) (by omega) (tk.Js jt)).use ?_
 rintro w4 h4 ⟨⟨s4,_⟩,b4⟩
 have s3:=B3.size
 have o34:=o3'.Z4 b4 (Nat.le_refl _)
 have Bh4:=jt.trans (b4.mono jt.size)
 simp -implicitDefEqProofs only[go_sem,↓reduceIte]
 refine Zv (E:=5) (B:=h1.size) Yt Tryz.underlying34 Wf Vh Vg o34 (by have:=b4.size;omega) s4 (by rw[gl,List.length_take];omega) ?_
 intro w5 h5 o5 b5 _
 have Bh5:=Bh4.trans (b5.mono (by omega))
 simp -implicitDefEqProofs only[go_sem,↓reduceIte,Bh5]
 exact⟨_,rfl,o5.mono (by omega)⟩
def GY:List Value:=VY 0 0 0
def JE (key l:List Nat):Int:=if key.length≠32∨l.length≠22 then 1 else if (OG key (l.take 6)).take 16≠l.drop 6 then 6 else XC (l.getD 0 0:Nat) (l.getD 1 0:Nat) (Xp l 2:Nat)
def GZ (key l:List Nat):List Value:=if JE key l=0 then VY (l.getD 0 0:Nat) (l.getD 1 0:Nat) (Xp l 2:Nat) else GY
theorem Kd (T:World) (h:Hp) (v u:Value) (key l:List Nat) (s:Bs h v key) (sl:Bs h u l) (cu:WO u) (tk:Tk h) :
  Zd Tryz.prog T 33 #[v,u] h fun v' h'=>v'=.tuple [.agg (GZ key l).toArray,.int .i64 (JE key l)].toArray∧Ze h.size h h':=by
 obtain⟨p,cp,rfl,_⟩:=s.open
 obtain⟨q,cq,rfl,hq⟩:=sl.Us
 refine Zd.Zi (args:=[_,_]) Tryz.func33 rfl rfl rfl rfl ?_
 by_cases hk:key.length=32
 case neg=>
  have ee:JE key l=1:=by unfold JE;rw[if_pos (.inl hk)]
  have Pv:¬(key.length:Int)=32:=by omega
  unfold GZ
  rw[ee]
  unfold GY VY
  simp +contextual -implicitDefEqProofs only[go_sem,↓reduceIte,Pv]
  (repeat' (first|exact Ze.refl _ _|assumption|refine Ze.add ?_ _|refine Ze.Zk ?_ (by first|omega|(simp;omega)) _|refine Ze.trans (by assumption) ?_))
 have Pv:(key.length:Int)=32:=by omega
 by_cases hl:l.length=22
 case neg=>
  have ee:JE key l=1:=by unfold JE;rw[if_pos (.inr hl)]
  have CE:¬(l.length:Int)=22:=by omega
  unfold GZ
  rw[ee]
  unfold GY VY
  simp +contextual -implicitDefEqProofs only[go_sem,↓reduceIte,Pv,CE]
  (repeat' (first|exact Ze.refl _ _|assumption|refine Ze.add ?_ _|refine Ze.Zk ?_ (by first|omega|(simp;omega)) _|refine Ze.trans (by assumption) ?_))
 have CE:(l.length:Int)=22:=by omega
 obtain⟨b,o,rfl,hb,Yx⟩:=hq (by intro e;rw[e]at hl;cases hl)
 have Jg:22≤cq:=by have:l.length≤cq:=cu;omega
 have h6c:(6:Int)≤(cq:Int):=by omega
 have bH:¬cq=0:=by omega
 have hc6:¬cq=6:=by omega
 obtain⟨y0,fV⟩:∃y:Int,y=((l.getD 0 0:Nat):Int):=⟨_,rfl⟩
 obtain⟨y1',GO⟩:∃y:Int,y=((l.getD 1 0:Nat):Int):=⟨_,rfl⟩
 obtain⟨y2',hy2⟩:∃y:Int,y=((l.getD 2 0:Nat):Int):=⟨_,rfl⟩
 obtain⟨y3,hy3⟩:∃y:Int,y=((l.getD 3 0:Nat):Int):=⟨_,rfl⟩
 obtain⟨y4,hy4⟩:∃y:Int,y=((l.getD 4 0:Nat):Int):=⟨_,rfl⟩
 obtain⟨y5,hy5⟩:∃y:Int,y=((l.getD 5 0:Nat):Int):=⟨_,rfl⟩
 obtain⟨yY,hyY⟩:∃y:Int,y=((Xp l 2:Nat):Int):=⟨_,rfl⟩
 have z0:=ZF sl.byte 0
 have z1:=ZF sl.byte 1
 have z2:=ZF sl.byte 2
 have z3:=ZF sl.byte 3
 have z4:=ZF sl.byte 4
 have z5:=ZF sl.byte 5
 have eo:Unit→Z8 .or .i64 (Z8 .or .i64 (Z8 .or .i64 (Yz .i64 y2' 24) (Yz .i64 y3 16)) (Yz .i64 y4 8)) y5=yY:=fun _=>by
  rw[hy2,hy3,hy4,hy5,hyY];exact GB z2 z3 z4 z5
 have yb:(0≤y0∧y0<256)∧(0≤y1'∧y1'<256)∧(0≤y2'∧y2'<256)∧(0≤y3∧y3<256)∧(0≤y4∧y4<256)∧(0≤y5∧y5<256):=by
  rw[fV,GO,hy2,hy3,hy4,hy5];omega
 obtain⟨⟨ya1,ya2⟩,⟨ya3,ya4⟩,⟨ya5,ya6⟩,⟨ya7,ya8⟩,⟨ya9,ZyT⟩,ZyU,ZyV⟩:=yb
 have ee:JE key l=if (OG key (l.take 6)).take 16≠l.drop 6 then 6 else XC y0 y1' yY:=by
  rw[fV,GO,hyY];unfold JE;rw[if_neg (by omega)]
 have eT:GZ key l=if JE key l=0 then VY y0 y1' yY else GY:=by rw[fV,GO,hyY];rfl
 have gI:∀i,i<22→V.hc h ⟨b,o+i,none⟩=some (.int .u8 (l.getD i 0:Nat)):=fun i hi=>Yx i (by omega)
 have q0:=gI 0 (by omega)
 have q1:=gI 1 (by omega)
 have q2:=gI 2 (by omega)
 have q3:=gI 3 (by omega)
 have q4:=gI 4 (by omega)
 have q5:=gI 5 (by omega)
 rw[←fV]at q0
 rw[←GO]at q1
 rw[←hy2]at q2
 rw[←hy3]at q3
 rw[←hy4]at q4
 rw[←hy5]at q5
 obtain⟨h1,YF⟩:=Zu (h.push (.cells GY.toArray 75):Hp)
 have b1:Ze h.size h h1:=by rw[YF];exact Ze.push (Nat.le_refl _) _
 have s1:h1.size=h.size+1:=by rw[YF];simp
 have x1:h1[h.size]? = some (.cells GY.toArray 75):=by rw[YF];exact Zb
 have e1:h.push (.cells #[Value.int .i64 0,.int .i64 0,.int .i64 0] 75)=h1:=YF.symm
 rw[hl]at sl Yx ⊢
 simp -implicitDefEqProofs only[go_sem,↓reduceIte,Pv,CE]
 rw[e1]
 clear e1 YF
 have sl1:=sl.Z4 b1
 have s61:Bs h1 (.slice (some ⟨b,o,none⟩) 6 cq) (l.take 6):=by
  rw[←hl]at sl1;exact Bs.TN sl1 (by omega) cq
 have t6:(l.take 6).length≤2000:=by rw[List.length_take];omega
 obtain⟨M,hM⟩:=Zu ((OG key (l.take 6)).take 16)
 have ml:M.length≤140737488355328:=by rw[hM,List.length_take];omega
 rw[←hM]at ee
 refine VS.mono (N:=fun F g=>Ze h1.size h1 g∧F 1=.slice (some ⟨b,o,none⟩) 22 cq∧F 4=.pointer (some ⟨h.size,0,none⟩)∧F 24=.bool (!decide (M=l.drop 6))) ?_ ?_ (fun _ _ _ h=>h) (fun _ _ h=>h)
 ·refine VS.w (h1.size) [] (.q 0 (.q 1 (.q 2 (.q 4 (.q 5 (.s 3 (.s 6 (.q 7 .nil)))))))) mixed (by kernel_rfl) ?_
  simp -implicitDefEqProofs only[go_sem,↓reduceIte,h6c,bH,hc6,Nat.sub_zero,Nat.zero_mul]
  rw[←Pv]
  refine (Du T h1 _ _ key (l.take 6) (s.Z4 b1) s61 (by omega) t6 (tk.Js b1)).use ?_
  rintro w h2 ⟨⟨s2,_⟩,b2⟩
  rw[←hM]at s2
  have sl2:=Td (sl1.Z4 b2) (k:=6) (by omega) hl (cq-6)
  simp -implicitDefEqProofs only[go_sem,↓reduceIte,b2]
  refine (Gz T h2 w _ M (l.drop 6) s2 sl2 ml).pure ?_
  simp -implicitDefEqProofs only[go_sem,↓reduceIte,b2]
 rintro F g ⟨bg,f1,f4,f24⟩
 have Bg:=b1.trans (bg.mono (by omega))
 have k0:g[h.size]? = some (.cells GY.toArray 75):=bg.get (by omega) x1
 have k1:rd g ⟨h.size,0,none⟩ 3=some GY:=Zo k0 rfl
 have k2:=ZP k0 0
 have S8:=Za k0
 clear hM
 unfold GY VY at *
 by_cases hm:M=l.drop 6
 case neg=>
  have hd:decide (M=l.drop 6)=false:=decide_eq_false hm
  rw[hd]at f24
  rw[if_pos hm]at ee
  rw[eT,ee]
  simp +contextual -implicitDefEqProofs only[go_sem,↓reduceIte,f1,f4,f24,k1,k2]
  exact Bg.Zk (Nat.le_refl _) _
 have hd:decide (M=l.drop 6)=true:=decide_eq_true hm
 rw[hd]at f24
 rw[if_neg (fun hn=>hn hm)]at ee
 have e0:V.hc g ⟨b,o,none⟩=some (.int .u8 y0):=by rw[Bg.hc (by exact hb)];exact q0
 have e1:V.hc g ⟨b,o+1,none⟩=some (.int .u8 y1'):=by rw[Bg.hc (by exact hb)];exact q1
 have e2:V.hc g ⟨b,o+2,none⟩=some (.int .u8 y2'):=by rw[Bg.hc (by exact hb)];exact q2
 have e3:V.hc g ⟨b,o+3,none⟩=some (.int .u8 y3):=by rw[Bg.hc (by exact hb)];exact q3
 have e4:V.hc g ⟨b,o+4,none⟩=some (.int .u8 y4):=by rw[Bg.hc (by exact hb)];exact q4
 have e5:V.hc g ⟨b,o+5,none⟩=some (.int .u8 y5):=by rw[Bg.hc (by exact hb)];exact q5
 rw[eT,ee]
 clear fV GO hy2 hy3 hy4 hy5 hyY
 have hbg:b<g.size:=Nat.lt_of_lt_of_le hb Bg.size
 simp -implicitDefEqProofs only[go_sem,↓reduceIte,f1,f4,f24]
 refine VS.w (g.size) [32] (.q 0 (.q 1 (.q 2 (.q 3 (.q 4 (.q 5 (.q 6 (.q 7 (.q 8 (.q 9 (.q 10 (.q 11 (.q 12 (.q 13 (.q 14 (.q 15 (.q 16 (.q 17 (.q 18 (.q 19 (.q 20 (.q 21 (.q 22 (.q 23 (.q 24 (.q 25 (.q 26 (.q 27 (.q 28 (.q 29 (.q 30 (.s 31 (.w 32 .nil))))))))))))))))))))))))))))))))) mixed (by kernel_rfl) ?_
 simp -implicitDefEqProofs only[go_sem,↓reduceIte,f1,f4,hbg,e0,e1,e2,e3,e4,e5,eo ()]
 refine (Lz T _ y0 y1' yY).use ?_
 rintro _ _ ⟨rfl,rfl⟩
 unfold VY
 obtain⟨E,hE⟩:=Zu (XC y0 y1' yY)
 rw[←hE]
 by_cases q:E=0
 ·rw[if_pos q]
  simp +contextual -implicitDefEqProofs only[go_sem,↓reduceIte,q,f1,f4,k1,k2,S8]
  (repeat' (first|exact Ze.refl _ _|assumption|refine Ze.add ?_ _|refine Ze.Zk ?_ (by first|omega|(simp;omega)) _|refine Ze.trans (by assumption) ?_))
 ·rw[if_neg q]
  simp +contextual -implicitDefEqProofs only[go_sem,↓reduceIte,q,f1,f4,k1,k2,S8]
  (repeat' (first|exact Ze.refl _ _|assumption|refine Ze.add ?_ _|refine Ze.Zk ?_ (by first|omega|(simp;omega)) _|refine Ze.trans (by assumption) ?_))
def XK (s a i:Nat) (n:Int):Int:=if 256<s∨256<a∨256<i∨n<0∨512<n then 1 else 0
theorem gJ {p:Option Addr} {m c k c' b:Nat} (h:ZM (.slice p m c)=some b) (hc:c'≠0):ZM (.slice p k c')=some b:=by
 cases p with
 | none=>simp[ZM]at h
 | some a=>
  simp only[ZM]at h ⊢
  split at h
  ·cases h
  ·rw[if_neg hc];exact h
theorem nr {p:Option Addr} {m c b:Nat} (h:ZM (.slice p m c)=some b):c≠0:=by
 cases p with
 | none=>simp[ZM]at h
 | some a=>
  simp only[ZM]at h
  split at h
  ·cases h
  ·assumption
def cU (B:Nat) (h':Hp) (v':Value) (Xu Wi info:List Nat) (n:Int):Prop:=∃w,v'=.tuple [w,.int .i64 (XK Xu.length Wi.length info.length n)].toArray∧WO w∧Bs h' w (if XK Xu.length Wi.length info.length n=0 then LP Xu Wi info n.toNat else [])∧∀b,ZM w=some b→B≤b
theorem Ke (T:World) (h:Hp) (vs va vi':Value) (Xu Wi info:List Nat) (n:Int) (ss:Bs h vs Xu) (sa:Bs h va Wi) (si:Bs h vi' info) (tk:Tk h) :
  Zd Tryz.prog T 45 #[vs,va,vi',.int .i64 n] h fun v' h'=>cU h.size h' v' Xu Wi info n∧Ze h.size h h':=by
 obtain⟨p1,c1,rfl,_⟩:=ss.open
 obtain⟨p2,c2,rfl,_⟩:=sa.open
 obtain⟨p3,c3,rfl,_⟩:=si.open
 refine Zd.Zi (args:=[_,_,_,_]) Tryz.func45 rfl rfl rfl rfl ?_
 unfold cU
 by_cases e1:256<Xu.length
 ·have ju:256<(Xu.length:Int):=by omega
  have ee:XK Xu.length Wi.length info.length n=1:=by unfold XK;rw[if_pos (.inl e1)]
  rw[ee]
  simp -implicitDefEqProofs only[go_sem,↓reduceIte,ju]
  exact⟨_,rfl,Nat.le_refl _,(Z1.nil 0 5 _).bs,fun b hb=>by simp[ZM]at hb⟩
 have ju:¬256<(Xu.length:Int):=by omega
 by_cases e2:256<Wi.length
 ·have qA:256<(Wi.length:Int):=by omega
  have ee:XK Xu.length Wi.length info.length n=1:=by unfold XK;rw[if_pos (.inr (.inl e2))]
  rw[ee]
  simp -implicitDefEqProofs only[go_sem,↓reduceIte,ju,qA]
  exact⟨_,rfl,Nat.le_refl _,(Z1.nil 0 5 _).bs,fun b hb=>by simp[ZM]at hb⟩
 have qA:¬256<(Wi.length:Int):=by omega
 by_cases e3:256<info.length
 ·have e3':256<(info.length:Int):=by omega
  have ee:XK Xu.length Wi.length info.length n=1:=by unfold XK;rw[if_pos (.inr (.inr (.inl e3)))]
  rw[ee]
  simp -implicitDefEqProofs only[go_sem,↓reduceIte,ju,qA,e3']
  exact⟨_,rfl,Nat.le_refl _,(Z1.nil 0 5 _).bs,fun b hb=>by simp[ZM]at hb⟩
 have e3':¬256<(info.length:Int):=by omega
 by_cases e4:n<0
 ·have ee:XK Xu.length Wi.length info.length n=1:=by unfold XK;rw[if_pos (.inr (.inr (.inr (.inl e4))))]
  rw[ee]
  simp -implicitDefEqProofs only[go_sem,↓reduceIte,ju,qA,e3',e4]
  exact⟨_,rfl,Nat.le_refl _,(Z1.nil 0 5 _).bs,fun b hb=>by simp[ZM]at hb⟩
 by_cases e5:512<n
 ·have ee:XK Xu.length Wi.length info.length n=1:=by unfold XK;rw[if_pos (.inr (.inr (.inr (.inr e5))))]
  rw[ee]
  simp -implicitDefEqProofs only[go_sem,↓reduceIte,ju,qA,e3',e4,e5]
  exact⟨_,rfl,Nat.le_refl _,(Z1.nil 0 5 _).bs,fun b hb=>by simp[ZM]at hb⟩
 have ee:XK Xu.length Wi.length info.length n=0:=by unfold XK;rw[if_neg (by omega)]
 obtain⟨m,rfl⟩:∃m:Nat,n=m:=⟨n.toNat,by omega⟩
 rw[ee,Int.toNat_natCast]
 simp -implicitDefEqProofs only[go_sem,↓reduceIte,ju,qA,e3',e4,e5]
 refine (AO T _ _ _ Wi Xu sa ss (by omega) (by omega) tk).use ?_
 rintro vk h1 ⟨ok,b1⟩
 have s1:=b1.size
 obtain⟨key,uj⟩:=Zu (OG Wi Xu)
 rw[←uj]at ok
 have kl:key.length=32:=by rw[uj];exact Wx _ _
 have hm:m≤512:=by omega
 have eS:LP Xu Wi info m=(Wy key info 16).take m:=by rw[LP,uj]
 have dt:∀i,m≤32*i→i≤16→(Wy key info 16).take m=(Wy key info i).take m:=fun i h1 h2=>LO key info m i 16 h1 h2
 rw[eS]
 clear eS uj
 simp -implicitDefEqProofs only[go_sem,↓reduceIte]
 refine VS.ZU (fun F g=>Ze h1.size h1 g∧F 2=.slice p3 info.length c3∧F 3=.int .i64 m∧F 10=vk∧∃i:Nat,32*i<m+32∧F 13=.int .i64 ((i+1:Nat):Int)∧Z1 h1.size 5 g (F 11) (Wy key info i)∧Z1 h1.size 5 g (F 12) (S9 key info i)∧∀b,ZM (F 12)=some b→¬ZM (F 11)=some b)
  (fun F _=>m+32-AM (F 11)) rfl ⟨Ze.refl _ _,rfl,rfl,rfl,0,by omega,rfl,Z1.nil _ _ _,Z1.nil _ _ _,fun b hb=>by cases hb⟩ ?_
 rintro F g ⟨hg,f2,f3,f10,i,hi,f13,oa,ot,Ze4⟩
 have S8:=hg.size
 have Bg:=b1.trans (hg.mono s1)
 obtain⟨pa,ca,f11,hca⟩:=oa.open
 have al:=UE key info i
 rw[al]at f11 hca
 by_cases ZA:32*i<m
 ·have ZH:((32*i:Nat):Int)<(m:Int):=by omega
  have tl:=mz key info i
  have i16:i≤16:=by omega
  have eT:S9 key info (i+1)=OG key (S9 key info i++info++[(i+1)%256]):=rfl
  have eA:Wy key info (i+1)=Wy key info i++S9 key info (i+1):=rfl
  obtain⟨lt,hlT⟩:∃x,x=S9 key info i:=⟨_,rfl⟩
  rw[←hlT]at ot tl eT
  have St:(i+1)%256<256:=Nat.mod_lt _ (by decide)
  obtain⟨X,hX⟩:=Zu ((i+1)%256)
  rw[←hX]at eT St
  have ex:((i+1:Nat):Int)%256=(X:Int):=by rw[hX];rfl
  clear hX hlT
  obtain⟨xi,jm⟩:∃x:Int,x=((i+1:Nat):Int):=⟨_,rfl⟩
  rw[←jm]at ex f13
  simp -implicitDefEqProofs only[go_sem,↓reduceIte,f2,f3,f10,f11,f13,ZH,ex]
  refine JW (E:=5) (B:=h1.size) Yt Tryz.underlying34 Wf Vh Vg ot S8 (si.Z4 Bg) (by omega) ?_
  intro w2 g2 o2 b2 bt2 bk2
  have s2:=b2.size
  have oa2:=oa.Mh bt2 (fun b hb e=>Ze4 b e hb)
  have ol2:(lt++info).length≤400:=by rw[List.length_append];omega
  have Zno:∀b,ZM w2=some b→¬ZM (F 11)=some b:=fun b hb e=>by
   rcases bk2 b hb with q|q
   ·exact Ze4 b q e
   ·have:=oa.own.lt b e;omega
  simp -implicitDefEqProofs only[go_sem,↓reduceIte,f2,f3,f10,f13,ex]
  refine JW (E:=5) (B:=h1.size) Yt Tryz.underlying34 Wf Vh Vg (o2.push _) (by simp;omega) (Bs.one St 1) (by simp only[List.length_singleton];omega) ?_
  intro w3 g3 o3 b3 bt3 bk3
  have s3:=b3.size
  simp only[Array.size_push]at s3 bk3
  have oa3:=(oa2.push (.cells [Value.int .u8 ((X:Nat):Int)].toArray 5)).Mh bt3 (fun b hb e=>Zno b e hb)
  have Bg3:Ze h1.size h1 g3:=((hg.trans b2).Yg (by omega) _).trans b3
  have B3:=b1.trans (Bg3.mono s1)
  have ok3:=ok.Z4 Bg3 (Nat.le_refl _)
  simp -implicitDefEqProofs only[go_sem,↓reduceIte,f2,f3,f10,f13]
  refine (AO T g3 vk w3 key _ ok3.bs o3.bs (by omega) (by rw[List.length_append];simp only[List.length_singleton];omega) (tk.Js B3)).use ?_
  rintro w4 g4 ⟨o4,b4⟩
  rw[←eT]at o4
  have s4:=b4.size
  have oa4:=oa3.Z4 b4 (Nat.le_refl _)
  have Bg4:=Bg3.trans (b4.mono (by omega))
  rw[f11]at oa4
  have tl1:=V3 key info i
  simp -implicitDefEqProofs only[go_sem,↓reduceIte,f2,f3,f10,f11,f13]
  refine JW (E:=5) (B:=h1.size) Yt Tryz.underlying34 Wf Vh Vg oa4 Bg4.size o4.bs (by rw[al,tl1];omega) ?_
  intro w5 g5 o5 b5 bt5 bk5
  have s5:=b5.size
  obtain⟨p5,c5,rfl,_⟩:=o5.open
  have Zav:∀b,ZM w4=some b→¬ZM (F 11)=some b:=fun b hb e=>by
   have q1:=o4.own.ZD b hb
   have q2:=oa3.own.lt b e
   omega
  rw[f11]at Zav
  have o4':=(o4.mono (show h1.size≤g3.size by omega)).Mh bt5 (fun b hb e=>Zav b hb e)
  simp -implicitDefEqProofs only[go_sem,↓reduceIte,f2,f3,f10,f13]
  refine⟨⟨Bg4.trans b5,f2,f3,f10,i+1,by omega,?_,?_,o4',fun b hb e=>?_⟩,?_⟩
  ·show Value.int .i64 _=_
   rw[jm];rfl
  ·rw[eA];exact o5
  ·have e':ZM (Value.slice p5 (Wy key info i++S9 key info (i+1)).length c5)=some b:=e
   rcases bk5 b e' with q|q
   ·exact Zav b hb q
   ·have:=o4.own.lt b hb;omega
  ·simp only[AM,Zh,↓reduceIte,Nat.reduceEqDiff,f11,List.length_append,al,tl1];omega
 ·have YE:¬((32*i:Nat):Int)<(m:Int):=by omega
  have e6:=dt i (by omega) (by omega)
  rw[e6]
  have oab:=oa.bs
  have oaB:=oa.own.ZD
  rw[f11]at oab oaB
  rw[←al]at oab
  have bF:(m:Int)≤(ca:Int):=by omega
  have hm0:(0:Int)≤(m:Int):=by omega
  have fin:=Bs.TN oab (m:=m) (by rw[al];omega) m
  simp -implicitDefEqProofs only[go_sem,↓reduceIte,f2,f3,f11,YE,bF,hm0,Bg]
  exact⟨_,rfl,Nat.le_refl _,fin,fun b hb=>Nat.le_trans (by omega) (oaB b (gJ hb (by have:=nr hb;omega)))⟩
def Ze6 (bf:List Nat) (k c s n v:Int) (a b:Nat):List Nat:=((bf++Zx [k.toNat,c.toNat,s.toNat,n.toNat,v.toNat])++Qs a)++Qs b
def Ze7 (bf:List Nat) (k c s n v:Int) (a b:Nat):List Nat:=TZ (Ze6 bf k c s n v a b)
structure J8 where
 k:Int
 c:Int
 s:Int
 n:Int
 v:Int
structure Etv where
 x:J8
 a:Int
 b:Int
 sum:List Nat
structure Chn where
 cs:List Value
 sum:List Nat
 out:List Etv
def VG (cs:List Value) (x:J8):Zeg:=U1 cs x.k.toNat x.c.toNat x.s.toNat x.n.toNat x.v.toNat
def P9 (cs:List Value) (x:J8):Int:=NC cs x.k x.c x.s x.n x.v
def Znt (cs:List Value) (sum:List Nat) (x:J8):List Nat:=Ze7 sum x.k x.c x.s x.n x.v (VG cs x).code.toNat (VG cs x).val.toNat
theorem gK {cs:List Value} {x:J8} (h:P9 cs x=0):Qr cs=false∧YI x.k x.c x.s x.n x.v=0:=by
 unfold P9 NC at h
 split at h
 ·cases h
 ·rename_i q
  exact⟨by simpa using q,h⟩
theorem Dw:∀{ks:List (Option IntKind)} {vs:List Value} (i:Nat) {k:Option IntKind},Yp ks vs=true→ks[i]? = some k→∃v,nth vs i=some v∧Uk k v=true:=by
 intro ks
 induction ks with
 | nil=>intro vs i k _ h;simp at h
 | cons a ks ih=>
  intro vs i k hf hk
  cases vs with
  | nil=>simp[Yp]at hf
  | cons x vs=>
   simp only[Yp,Bool.and_eq_true]at hf
   cases i with
   | zero=>simp only[List.getElem?_cons_zero,Option.some.injEq]at hk;subst hk;exact⟨x,rfl,hf.1⟩
   | succ i=>exact ih i hf.2 (by simpa using hk)
theorem AQ {cs:List Value} (hf:Yp XY cs=true):∀i,i<32→nth cs i=some (.int .i64 (ci cs i)):=by
 intro i hi
 have:∀i<32,XY[i]? = some (some .i64):=by decide
 obtain⟨v,h1,h2⟩:=Dw i hf (this i hi)
 unfold ci
 rw[h1]
 cases v<;>simp[Uk]at h2
 rw[h2]
theorem Dx {cs:List Value} (hf:Yp XY cs=true):∀i,32≤i→i<40→nth cs i=some (.bool (cb cs i)):=by
 intro i h1 h2
 have:∀j<8,XY[32+j]? = some none:=by decide
 have e:=this (i-32) (by omega)
 rw[show 32+(i-32)=i by omega]at e
 obtain⟨v,h1,h2⟩:=Dw i hf e
 unfold cb
 rw[h1]
 cases v<;>simp[Uk]at h2
 rfl
def nt (st:Chn) (e:Etv):Prop:=¬P9 st.cs e.x=0∨¬((VG st.cs e.x).code=e.a∧(VG st.cs e.x).val=e.b)∨¬Znt st.cs st.sum e.x=e.sum
instance (st:Chn) (e:Etv):Decidable (nt st e):=by unfold nt;infer_instance
variable {Q Q':Value→List Nat→Prop}
end Go.Proofs.YtkfhncfkagcamaaGreatDoor
namespace Go.Proofs.YtkfhncfkagcamaaGreatDoor
open Go Go.V
set_option linter.unusedSimpArgs false
set_option linter.unusedVariables false
set_option maxRecDepth 100000
theorem uk {cs:List Value} (hf:Yp XY cs=true) (x:J8):∃(D:List Value) (a b:Int),doL cs x.k x.c x.s x.n x.v=[.agg D.toArray,.agg [.int .i64 a,.int .i64 b].toArray,.int .i64 (P9 cs x)]∧Yp XY D=true∧(P9 cs x=0→D=(VG cs x).cells∧a=(VG cs x).code∧b=(VG cs x).val):=by
 unfold doL P9 VG
 by_cases e:NC cs x.k x.c x.s x.n x.v=0
 ·rw[if_pos e]
  refine⟨_,_,_,by rw[e],?_,fun _=>⟨rfl,rfl,rfl⟩⟩
  have e2:YI x.k x.c x.s x.n x.v=0:=(gK (cs:=cs) (x:=x) e).2
  obtain⟨k,c,s,n,v,e1,e2,e3,e4,e5,y1,y2,y3,y4,y5⟩:=PQ e2
  rw[e1,e2,e3,e4,e5]
  exact fX hf _ _ _ _ _ (by simpa using y4) (by simpa using y2)
 ·rw[if_neg e]
  exact⟨_,_,_,rfl,rfl,fun h=>absurd h e⟩
end Go.Proofs.YtkfhncfkagcamaaGreatDoor
