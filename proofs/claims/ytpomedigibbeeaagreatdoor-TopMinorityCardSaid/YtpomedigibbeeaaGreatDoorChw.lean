/- One block of the digest: what the document computes; no condition but those in the statements. -/
import Derived.Test.YtpomedigibbeeaaGreatDoorTab
import Derived.Test.YtpomedigibbeeaaGreatDoorW18
import Derived.Test.YtpomedigibbeeaaGreatDoorBytes
import Derived.Test.YtpomedigibbeeaaGreatDoorTape
import Derived.Test.YtpomedigibbeeaaGreatDoorW12
import Derived.Test.YtpomedigibbeeaaGreatDoorPik
import Derived.Test.YtpomedigibbeeaaGreatDoorLchks
import Derived.Test.YtpomedigibbeeaaGreatDoorW14
import Derived.Test.YtpomedigibbeeaaGreatDoorVst
namespace Go.Proofs.YtpomedigibbeeaaGreatDoor
open Go Go.V
set_option linter.unusedSimpArgs false
set_option linter.unusedVariables false
set_option maxRecDepth 100000
abbrev NT (h:Hp) (v:Value) (l:List Nat):Prop:=Ts (fun x=>[nv x]) 1 h v l
theorem XD (T:World) (h:Hp) (x n:Nat) (hx:x<4294967296) (hn:n≤32) :
  Zc Tryz.prog T 109 #[.int .u32 x,.int .i64 n] h fun v' h'=>v'=.int .u32 (rr x n:Nat)∧h'=h:=by
 refine Zc.Zh (args:=[_,_]) Tryz.func109 rfl rfl rfl rfl ?_
 have e1:=Mk x (32-n) (by omega)
 have e2:=QN x n hn
 have e3:(32:Int)-n=((32-n:Nat):Int):=by omega
 have e4:=Tp (x/2 ^ n) (x*2 ^ (32-n)%4294967296) (Nat.lt_of_le_of_lt (Nat.div_le_self _ _) hx) (by omega)
 have e5:¬(n:Int)<0:=by omega
 have e6:¬((32-n:Nat):Int)<0:=by omega
 have e7:=ay hx (show 32-n≤32 by omega)
 rw[show 32-(32-n)=n by omega,Nat.or_comm]at e7
 rw[e7]at e4
 unfold rr
 simp +contextual -implicitDefEqProofs only[go_sem,↓reduceIte]
 refine VS.q mixed (by kernel_rfl) ?_
 simp +contextual -implicitDefEqProofs only[go_sem,↓reduceIte,e3,e1,e2,e4,e5,e6]
theorem qW {a b c d:Nat} (ha:a<256) (hb:b<256) (hc:c<256) (hd:d<256) :
  Z5 .or .u32 (Z5 .or .u32 (Z5 .or .u32 (Yw .u32 a 24) (Yw .u32 b 16)) (Yw .u32 c 8)) d=((a*16777216+b*65536+c*256+d:Nat):Int):=by
 have sb:∀{x k:Nat},x<256→k≤24→Yw .u32 (x:Int) (k:Int)=((x*2 ^ k:Nat):Int):=by
  intro x k hx hk
  rw[Mk x k (by omega),Nat.mod_eq_of_lt]
  have:2 ^ k≤2 ^ 24:=Nat.pow_le_pow_right (by omega) hk
  have h2:x*2 ^ k≤255*2 ^ 24:=Nat.mul_le_mul (by omega) this
  omega
 have e1:Yw .u32 (a:Int) 24=((a*16777216:Nat):Int):=sb (k:=24) ha (by omega)
 have e2:Yw .u32 (b:Int) 16=((b*65536:Nat):Int):=sb (k:=16) hb (by omega)
 have e3:Yw .u32 (c:Int) 8=((c*256:Nat):Int):=sb (k:=8) hc (by omega)
 have f1:a*16777216 ||| b*65536=a*16777216+b*65536:=JI (k:=24) (by omega) (by omega)
 have f2:(a*16777216+b*65536) ||| c*256=a*16777216+b*65536+c*256:=JI (k:=16) (by omega) (by omega)
 rw[e1,e2,e3,Tp _ _ (by omega) (by omega),f1,Tp _ _ (by omega) (by omega),f2,Tp _ _ (by omega) (by omega),JI (k:=8) (by omega) (by omega)]
theorem Rg (xs zs:List Nat) (i:Nat) (hi:i<xs.length) (hz:xs.length=zs.length):(xs.take i++zs.drop i).set i (xs.getD i 0)=xs.take (i+1)++zs.drop (i+1):=by
 rw[List.getD_eq_getElem?_getD,List.getElem?_eq_getElem hi]
 exact Oe xs zs i hi hz
def PA (b:List Nat) (i:Nat):List Nat:=JP b i++List.replicate (64-i) 0
theorem Q0 {b:List Nat} {i:Nat} (hi:i≤64):(PA b i).length=64:=by simp[PA,XN];omega
theorem eQ {b:List Nat} {i j:Nat} (hj:j<i):(PA b i).getD j 0=(JP b i).getD j 0:=by
 rw[PA,List.getD_eq_getElem?_getD,List.getElem?_append_left (by rw[XN];exact hj),←List.getD_eq_getElem?_getD]
theorem lq {b:List Nat} {i:Nat} (hi:i<64):(PA b i).set i (H9 b (JP b i))=PA b (i+1):=by
 rw[PA,List.set_append_right _ _ (by rw[XN];exact Nat.le_refl _),XN,Nat.sub_self,show 64-i=(64-(i+1))+1 by omega,List.replicate_succ,List.set_cons_zero,PA,JP,List.append_assoc]
 rfl
theorem eW (b:List Nat):PA b 64=JP b 64:=by simp[PA]
theorem IX {b:List Nat} (hb:St b) {i j:Nat}:(JP b i).getD j 0<4294967296:=(Lp hb i).getD j
theorem EF (T:World) (h:Hp) (bd:Nat) (d:List Nat) (v:Value) (b:List Nat) (hd:d.length=8) (wd:Sd d) (sb:Bs h v b) (hb:b.length=64) (tk:FF 1 wv kN h)
  (hx:h[bd]? = some (.cells (d.map wv++[]).toArray 184)) (hg:1≠bd) :
  Zc Tryz.prog T 90 #[.pointer (some ⟨bd,0,none⟩),v] h fun v' h'=>Vy (some bd) h h'∧h'[bd]? = some (.cells ((FU d b).map wv++[]).toArray 184):=by
 obtain⟨p,c,rfl,Uo⟩:=sb.Uh
 obtain⟨bb,ob,rfl,UX,YL⟩:=Uo (by intro e;subst e;simp at hb)
 have eY:St b:=sb.byte
 refine Zc.Zh (args:=[_,_]) Tryz.func90 rfl rfl rfl rfl ?_
 rw[hb]
 have Bj:=Za hx
 have b0:Zf h.size h (h.push (.cells (XI 64 [Value.int .u32 0]).toArray 201)):=Zf.push (Nat.le_refl _) _
 have x0:∀A:Array Value,A=((PA b 0).map wv).toArray→(h.push (.cells A 201))[h.size]? = some (.cells ((PA b 0).map wv++[]).toArray 201):=by
  rintro _ rfl;rw[List.append_nil];exact Zb
 simp -implicitDefEqProofs only[go_sem,↓reduceIte]
 refine VS.ZV (fun F g=>Zf h.size h g∧F 0=.pointer (some ⟨bd,0,none⟩)∧F 1=.slice (some ⟨bb,ob,none⟩) 64 c∧F 4=.pointer (some ⟨h.size,0,none⟩)∧∃i:Nat,i≤64∧F 16=.int .i64 i∧g[h.size]? = some (.cells ((PA b i).map wv++[]).toArray 201))
  (fun F _=>64-(vi (F 16)).toNat) rfl ⟨b0,rfl,rfl,rfl,0,by omega,rfl,by exact x0 _ (by rfl)⟩ ?_
 clear b0 x0
 rintro F g ⟨aP,f0,f1,f4,i,hi,f16,hw⟩
 have hws:=Za hw
 by_cases ZA:i<64
 ·have ZI:(i:Int)<64:=by omega
  have fin:∀X:Nat,X=H9 b (JP b i)→Jg g ⟨h.size,i,none⟩ (.int .u32 (X:Nat))=some (g.setIfInBounds h.size (.cells ((PA b (i+1)).map wv++[]).toArray 201)):=by
   intro X hX
   have:=ZY (f:=wv) hw (i:=i) (by rw[Q0 hi];exact ZA) X rfl
   rw[hX,lq ZA]at this
   rw[hX];exact this
  by_cases yk:i<16
  ·have yw:(i:Int)<16:=by omega
   have g0:∀j,j<64→hc g ⟨bb,ob+j,none⟩=some (.int .u8 (b.getD j 0:Nat)):=fun j hj=>by rw[aP.hc (by exact UX)];exact YL j (by omega)
   have e0:=g0 (4*i) (by omega)
   have e1:=g0 (4*i+1) (by omega)
   have e2:=g0 (4*i+2) (by omega)
   have e3:=g0 (4*i+3) (by omega)
   have y0:=ZF eY (4*i)
   have y1:=ZF eY (4*i+1)
   have y2:=ZF eY (4*i+2)
   have y3:=ZF eY (4*i+3)
   have t0:(4*(i:Int)).toNat=4*i:=by omega
   have t1:(4*(i:Int)+1).toNat=4*i+1:=by omega
   have t2:(4*(i:Int)+2).toNat=4*i+2:=by omega
   have t3:(4*(i:Int)+3).toNat=4*i+3:=by omega
   have eo:=fun (_:Unit)=>qW y0 y1 y2 y3
   rw[show b.getD (4*i) 0*16777216+b.getD (4*i+1) 0*65536+b.getD (4*i+2) 0*256+b.getD (4*i+3) 0=Xs b (4*i) from rfl]at eo
   have m0:((b.getD (4*i) 0:Nat):Int)%4294967296=(b.getD (4*i) 0:Nat):=by omega
   have m1:((b.getD (4*i+1) 0:Nat):Int)%4294967296=(b.getD (4*i+1) 0:Nat):=by omega
   have m2:((b.getD (4*i+2) 0:Nat):Int)%4294967296=(b.getD (4*i+2) 0:Nat):=by omega
   have m3:((b.getD (4*i+3) 0:Nat):Int)%4294967296=(b.getD (4*i+3) 0:Nat):=by omega
   have cs:=fin (Xs b (4*i)) (by unfold H9;rw[XN,if_pos yk])
   simp -implicitDefEqProofs only[go_sem,↓reduceIte,f0,f1,f4,f16,ZI,yw]
   refine VS.w (g.size) [35] (.q 0 (.q 1 (.q 2 (.q 3 (.q 4 (.q 5 (.q 6 (.q 7 (.q 8 (.q 9 (.q 10 (.q 11 (.q 12 (.q 13 (.q 14 (.q 15 (.q 16 (.q 17 (.q 18 (.q 19 (.q 20 (.q 21 (.q 22 (.q 23 (.q 24 (.q 25 (.q 26 (.q 27 (.q 28 (.q 29 (.q 30 (.q 31 (.q 32 (.q 33 (.q 34 (.w 35 .nil)))))))))))))))))))))))))))))))))))) mixed (by kernel_rfl) ?_
   have Zlz:bb<g.size:=Nat.lt_of_lt_of_le UX aP.size
   simp -implicitDefEqProofs only[go_sem,↓reduceIte,f0,f1,f4,f16,e0,e1,e2,e3,t0,t1,t2,t3,m0,m1,m2,m3,eo (),Zlz,cs]
   refine⟨⟨aP.Zk (Nat.le_refl _) _,f0,f1,f4,i+1,ZA,rfl,ZO hw⟩,?_⟩
   simp only[vi,Zj,↓reduceIte,f16];omega
  ·have yw:¬(i:Int)<16:=by omega
   have q1:=ZJ hw (i:=i-15) (by rw[Q0 hi];omega)
   have q2:=ZJ hw (i:=i-2) (by rw[Q0 hi];omega)
   have q3:=ZJ hw (i:=i-16) (by rw[Q0 hi];omega)
   have q4:=ZJ hw (i:=i-7) (by rw[Q0 hi];omega)
   rw[eQ (by omega)]at q1 q2 q3 q4
   have eX:H9 b (JP b i)=((JP b i).getD (i-16) 0+sg0 ((JP b i).getD (i-15) 0)+(JP b i).getD (i-7) 0+sg1 ((JP b i).getD (i-2) 0))%4294967296:=by
    unfold H9;rw[XN,if_neg yk]
   have cs:=fin (H9 b (JP b i)) rfl
   have hA:(JP b i).getD (i-15) 0<4294967296:=IX eY
   have hC:(JP b i).getD (i-2) 0<4294967296:=IX eY
   rw[eX]at cs
   generalize (JP b i).getD (i-15) 0=A at *
   generalize (JP b i).getD (i-2) 0=C at *
   generalize (JP b i).getD (i-16) 0=E1 at *
   generalize (JP b i).getD (i-7) 0=E2 at *
   unfold wv at q1 q2 q3 q4
   have t1:((i:Int)-15).toNat=i-15:=by omega
   have t2:((i:Int)-2).toNat=i-2:=by omega
   have t3:((i:Int)-16).toNat=i-16:=by omega
   have t4:((i:Int)-7).toNat=i-7:=by omega
   have s1:Unit→Y7 .u32 (A:Int) 3=((A/8:Nat):Int):=fun _=>QN A 3 (by decide)
   have s2:Unit→Y7 .u32 (C:Int) 10=((C/1024:Nat):Int):=fun _=>QN C 10 (by decide)
   have o1:=fun (_:Unit)=>Jw (rr A 7) (rr A 18) (Qy hA) (Qy hA)
   have o2:Unit→Z5 .xor .u32 ((rr A 7 ^^^ rr A 18:Nat):Int) ((A/8:Nat):Int)=((sg0 A:Nat):Int):=fun _=>Jw _ _ (UK (Qy hA) (Qy hA)) (FP hA)
   have o3:=fun (_:Unit)=>Jw (rr C 17) (rr C 19) (Qy hC) (Qy hC)
   have o4:Unit→Z5 .xor .u32 ((rr C 17 ^^^ rr C 19:Nat):Int) ((C/1024:Nat):Int)=((sg1 C:Nat):Int):=fun _=>Jw _ _ (UK (Qy hC) (Qy hC)) (FP hC)
   generalize sg0 A=S0 at *
   generalize sg1 C=S1 at *
   have e5:((((E1:Int)+(E2:Int))%4294967296+(S0:Int))%4294967296+(S1:Int))%4294967296=(((E1+S0+E2+S1)%4294967296:Nat):Int):=by clear cs fin;omega
   simp -implicitDefEqProofs only[go_sem,↓reduceIte,f0,f1,f4,f16,ZI,yw]
   refine VS.q mixed (by kernel_rfl) ?_
   simp -implicitDefEqProofs only[go_sem,↓reduceIte,f0,f1,f4,f16,q1,q2,t1,t2]
   refine VS.w (h.size+1) [29] (.q 0 (.q 1 (.q 2 (.q 3 (.q 4 (.q 5 (.q 6 (.q 7 (.q 8 (.q 9 (.q 10 (.q 11 (.q 12 (.q 13 (.q 14 (.q 15 (.q 16 (.q 17 (.q 18 (.q 19 (.q 20 (.q 21 (.q 22 (.q 23 (.q 24 (.q 25 (.q 26 (.q 27 (.q 28 (.w 29 .nil)))))))))))))))))))))))))))))) mixed (by kernel_rfl) ?_
   simp -implicitDefEqProofs only[go_sem,↓reduceIte,f0,f1,f4,f16,q3,q4,t3,t4,e5]
   refine Jx (fun h=>XD T h A 7 hA (by omega)) ?_
   simp -implicitDefEqProofs only[go_sem,↓reduceIte,f0,f1,f4,f16,o1 (),o2 (),o3 (),o4 (),s1 (),s2 (),e5]
   refine Jx (fun h=>XD T h A 18 hA (by omega)) ?_
   simp -implicitDefEqProofs only[go_sem,↓reduceIte,f0,f1,f4,f16,o1 (),o2 (),o3 (),o4 (),s1 (),s2 (),e5]
   refine Jx (fun h=>XD T h C 17 hC (by omega)) ?_
   simp -implicitDefEqProofs only[go_sem,↓reduceIte,f0,f1,f4,f16,o1 (),o2 (),o3 (),o4 (),s1 (),s2 (),e5]
   refine Jx (fun h=>XD T h C 19 hC (by omega)) ?_
   simp -implicitDefEqProofs only[go_sem,↓reduceIte,f0,f1,f4,f16,o1 (),o2 (),o3 (),o4 (),s1 (),s2 (),e5,cs]
   refine⟨⟨aP.Zk (Nat.le_refl _) _,f0,f1,f4,i+1,ZA,rfl,ZO hw⟩,?_⟩
   simp only[vi,Zj,↓reduceIte,f16];omega
 ·have YF:¬(i:Int)<64:=by omega
  obtain rfl:i=64:=by omega
  rw[eW]at hw
  have gT:=aP.get Bj hx
  have r0:rd g ⟨bd,0,none⟩ 8=some (d.map wv):=by rw[List.append_nil]at gT;exact Zo gT (by simp[hd])
  have l8:(d.map wv).length=8:=by simp[hd]
  have yD:(d.map wv).all Z6=true:=by simp[wv,Z6]
  obtain⟨DV,hDV⟩:=Zy (d.map wv)
  rw[←hDV]at r0 l8 yD
  have lp:Ym [Value.int .u32 0,Value.int .u32 0,Value.int .u32 0,Value.int .u32 0,Value.int .u32 0,Value.int .u32 0,Value.int .u32 0,Value.int .u32 0] 0 DV=DV:=ZM l8
  simp -implicitDefEqProofs only[go_sem,↓reduceIte,f0,f1,f4,f16,YF,r0,l8,yD,lp]
  rw[hDV]
  have SI:=aP.size
  have hB:Zf h.size h (g.push (.cells (d.map wv).toArray 184)):=aP.add _
  have Tn:Zf g.size g (g.push (.cells (d.map wv).toArray 184)):=Zf.push (Nat.le_refl _) _
  have hv0:(g.push (.cells (d.map wv).toArray 184))[g.size]? = some (.cells ((JQ b d 0).map wv++[]).toArray 184):=by
   rw[List.append_nil];exact Zb
  refine VS.ZV (fun F' g'=>Zf g.size g g'∧F' 0=.pointer (some ⟨bd,0,none⟩)∧F' 4=.pointer (some ⟨h.size,0,none⟩)∧F' 8=.pointer (some ⟨g.size,0,none⟩)∧∃i:Nat,i≤64∧F' 97=.int .i64 i∧g'[g.size]? = some (.cells ((JQ b d i).map wv++[]).toArray 184))
   (fun F _=>64-(vi (F 97)).toNat) rfl ⟨Tn,f0,f4,rfl,0,by omega,rfl,hv0⟩ ?_
  clear f0 f1 f4 f16 YF hi ZA hv0 hB Tn r0 l8 yD lp hDV DV F
  rintro F g2 ⟨Qt,f0,f4,f8,i,hi,f97,hv⟩
  have lu:=Za hv
  obtain⟨v8,w8⟩:=TB (b:=b) hd wd i
  obtain⟨a,b',c',d',e,f,g',k',nV⟩:=eight v8
  by_cases ZA:i<64
  ·have ZI:(i:Int)<64:=by omega
   have qX:JQ b d (i+1)=[(upw e f g' k' (kN.getD i 0) ((JP b 64).getD i 0)+bg0 a+dD a b' c')%4294967296,a,b',c',(d'+upw e f g' k' (kN.getD i 0) ((JP b 64).getD i 0))%4294967296,e,f,g']:=by
    rw[show JQ b d (i+1)=j6 (JQ b d i) (kN.getD i 0) ((JP b 64).getD i 0) from rfl,nV];rfl
   have hK:kN.getD i 0<4294967296:=xF.getD i
   have hW:(JP b 64).getD i 0<4294967296:=(Lp eY 64).getD i
   have k1:V.hc g2 ⟨1,i,none⟩=some (.int .u32 (kN.getD i 0:Nat)):=by
    rw[Qt.hc (by have:=tk.1;show (1:Nat)<g.size;omega),aP.hc (by exact tk.1)];exact tk.2 i ZA
   have w1:V.hc g2 ⟨h.size,i,none⟩=some (.int .u32 ((JP b 64).getD i 0:Nat)):=by
    rw[Qt.hc (by exact hws)];exact ZJ hw (by rw[XN];exact ZA)
   rw[nV]at hv w8
   have n0:V.hc g2 ⟨g.size,0,none⟩=some (.int .u32 (a:Nat)):=ZJ hv (i:=0) (by simp)
   have n1:V.hc g2 ⟨g.size,1,none⟩=some (.int .u32 (b':Nat)):=ZJ hv (i:=1) (by simp)
   have n2:V.hc g2 ⟨g.size,2,none⟩=some (.int .u32 (c':Nat)):=ZJ hv (i:=2) (by simp)
   have n3:V.hc g2 ⟨g.size,3,none⟩=some (.int .u32 (d':Nat)):=ZJ hv (i:=3) (by simp)
   have n4:V.hc g2 ⟨g.size,4,none⟩=some (.int .u32 (e:Nat)):=ZJ hv (i:=4) (by simp)
   have n5:V.hc g2 ⟨g.size,5,none⟩=some (.int .u32 (f:Nat)):=ZJ hv (i:=5) (by simp)
   have n6:V.hc g2 ⟨g.size,6,none⟩=some (.int .u32 (g':Nat)):=ZJ hv (i:=6) (by simp)
   have n7:V.hc g2 ⟨g.size,7,none⟩=some (.int .u32 (k':Nat)):=ZJ hv (i:=7) (by simp)
   have ha:a<4294967296:=w8 a (by simp)
   have XX:b'<4294967296:=w8 b' (by simp)
   have hc':c'<4294967296:=w8 c' (by simp)
   have hd':d'<4294967296:=w8 d' (by simp)
   have he:e<4294967296:=w8 e (by simp)
   have hf:f<4294967296:=w8 f (by simp)
   have Es:g'<4294967296:=w8 g' (by simp)
   have RP:k'<4294967296:=w8 k' (by simp)
   generalize kN.getD i 0=K at *
   generalize (JP b 64).getD i 0=W at *
   have o1:=fun (_:Unit)=>Jw (rr e 6) (rr e 11) (Qy he) (Qy he)
   have o2:Unit→Z5 .xor .u32 ((rr e 6 ^^^ rr e 11:Nat):Int) ((rr e 25:Nat):Int)=((xC e:Nat):Int):=fun _=>Jw _ _ (UK (Qy he) (Qy he)) (Qy he)
   have o3:=fun (_:Unit)=>Jw (rr a 2) (rr a 13) (Qy ha) (Qy ha)
   have o4:Unit→Z5 .xor .u32 ((rr a 2 ^^^ rr a 13:Nat):Int) ((rr a 22:Nat):Int)=((bg0 a:Nat):Int):=fun _=>Jw _ _ (UK (Qy ha) (Qy ha)) (Qy ha)
   have c0:Unit→(if IntKind.u32.signed=true then (-1:Int) else IntKind.u32.max)=4294967295:=fun _=>rfl
   have c1:=fun (_:Unit)=>RN e f he hf
   have c2:=fun (_:Unit)=>qs he
   have c3:=fun (_:Unit)=>RN (4294967295-e) g' (FQ e) Es
   have c4:=fun (_:Unit)=>xE (f:=f) he Es
   have m1:=fun (_:Unit)=>RN a b' ha XX
   have m2:=fun (_:Unit)=>RN a c' ha hc'
   have m3:=fun (_:Unit)=>RN b' c' XX hc'
   have m4:=fun (_:Unit)=>Jw (a &&& b') (a &&& c') (Qk ha) (Qk ha)
   have m5:=fun (_:Unit)=>qt (c:=c') ha XX
   have eU:upw e f g' k' K W=(k'+xC e+chw e f g'+K+W)%4294967296:=rfl
   generalize upw e f g' k' K W=U at *
   generalize xC e=S1 at *
   generalize bg0 a=S0 at *
   generalize chw e f g'=CH at *
   generalize dD a b' c'=MJ at *
   have e1:Unit→(((((k':Int)+(S1:Int))%4294967296+(CH:Int))%4294967296+(K:Int))%4294967296+(W:Int))%4294967296=(U:Int):=fun _=>by omega
   have e2:Unit→((S0:Int)+(MJ:Int))%4294967296=(((S0+MJ)%4294967296:Nat):Int):=fun _=>by omega
   have e3:Unit→((U:Int)+(((S0+MJ)%4294967296:Nat):Int))%4294967296=(((U+S0+MJ)%4294967296:Nat):Int):=fun _=>by omega
   have e4:Unit→((d':Int)+(U:Int))%4294967296=(((d'+U)%4294967296:Nat):Int):=fun _=>by omega
   simp -implicitDefEqProofs only[go_sem,↓reduceIte,f0,f4,f8,f97,ZI]
   refine VS.q mixed (by kernel_rfl) ?_
   simp -implicitDefEqProofs only[go_sem,↓reduceIte,f0,f4,f8,f97,n0,n4]
   refine VS.q mixed (by kernel_rfl) ?_
   simp -implicitDefEqProofs only[go_sem,↓reduceIte,f0,f4,f8,f97,n7,n4]
   refine QD (XD T _ e 6 he (by omega)) ?_
   simp -implicitDefEqProofs only[go_sem,↓reduceIte,f8]
   refine QD (XD T _ e 11 he (by omega)) ?_
   simp -implicitDefEqProofs only[go_sem,↓reduceIte,f8]
   refine QD (XD T _ e 25 he (by omega)) ?_
   simp -implicitDefEqProofs only[go_sem,↓reduceIte,f4,f8,f97,ZI,o1 (),o2 (),n5,n6,c0 (),c1 (),c2 (),c3 (),c4 (),k1,w1,e1 ()]
   refine VS.mono (N:=fun F' g'=>g2=g'∧F' 0=.pointer (some ⟨bd,0,none⟩)∧F' 4=.pointer (some ⟨h.size,0,none⟩)∧F' 8=.pointer (some ⟨g.size,0,none⟩)∧F' 97=.int .i64 i∧F' 10=.int .u32 (a:Nat)∧F' 11=.int .u32 (e:Nat)∧F' 12=.int .u32 (U:Nat)∧F' 13=.int .u32 (((S0+MJ)%4294967296:Nat):Int)) ?_ ?_ (fun _ _ _ h=>h) (fun _ _ h=>h)
   ·refine VS.q mixed (by kernel_rfl) ?_
    simp -implicitDefEqProofs only[go_sem,↓reduceIte,f8]
    refine QD (XD T _ a 2 ha (by omega)) ?_
    simp -implicitDefEqProofs only[go_sem,↓reduceIte,f8]
    refine QD (XD T _ a 13 ha (by omega)) ?_
    simp -implicitDefEqProofs only[go_sem,↓reduceIte,f8]
    refine QD (XD T _ a 22 ha (by omega)) ?_
    simp -implicitDefEqProofs only[go_sem,↓reduceIte,f0,f4,f8,f97,o3 (),o4 (),n1,n2,m1 (),m2 (),m3 (),m4 (),m5 (),e2 ()]
   clear f0 f4 f8 f97 F
   rintro F _ ⟨rfl,f0,f4,f8,f97,f10,f11,f12,f13⟩
   have hvE:g2[g.size]? = some (.cells [Value.int .u32 a,.int .u32 b',.int .u32 c',.int .u32 d',.int .u32 e,.int .u32 f,.int .u32 g',.int .u32 k'].toArray 184):=hv
   have y2:=ZP hvE 0
   obtain⟨xU,hxU⟩:∃x:Int,x=(U:Int):=⟨_,rfl⟩
   obtain⟨xD,hxD⟩:∃x:Int,x=(((S0+MJ)%4294967296:Nat):Int):=⟨_,rfl⟩
   obtain⟨x0,Rd⟩:∃x:Int,x=(((U+S0+MJ)%4294967296:Nat):Int):=⟨_,rfl⟩
   obtain⟨x4,DO⟩:∃x:Int,x=(((d'+U)%4294967296:Nat):Int):=⟨_,rfl⟩
   have E3:Unit→(xU+xD)%4294967296=x0:=fun _=>by rw[hxU,hxD,Rd];exact e3 ()
   have E4:Unit→((d':Int)+xU)%4294967296=x4:=fun _=>by rw[hxU,DO];exact e4 ()
   rw[←hxU]at f12
   rw[←hxD]at f13
   simp -implicitDefEqProofs only[go_sem,↓reduceIte,f0,f4,f8,f97,f10,f11,f12,f13,n1,n2,n3,n5,n6,E3 (),E4 (),y2]
   refine⟨⟨Qt.Zk (Nat.le_refl _) _,f0,f4,f8,i+1,ZA,rfl,?_⟩,?_⟩
   ·rw[qX,Rd,DO];exact ZO hv
   ·simp only[vi,Zj,↓reduceIte,f97];omega
  ·have YF:¬(i:Int)<64:=by omega
   obtain rfl:i=64:=by omega
   have r0:rd g2 ⟨g.size,0,none⟩ 8=some ((JQ b d 64).map wv):=by rw[List.append_nil]at hv;exact Zo hv (by simp[v8])
   have hB:Vy (some bd) h g2:=by
    have q1:=aP.trans (Qt.mono aP.size)
    exact⟨q1.size,fun k hk _=>q1.block k hk⟩
   have gT:g2[bd]? = some (.cells (((Te d (JQ b d 64)).take 0++d.drop 0).map wv++[]).toArray 184):=by
    rw[List.take_zero,List.drop_zero,List.nil_append]
    exact (aP.trans (Qt.mono aP.size)).get Bj hx
   have hal:=TC hd v8
   simp -implicitDefEqProofs only[go_sem,↓reduceIte,f0,f8,f97,YF,r0]
   refine VS.ZV (fun F' g'=>Vy (some bd) h g'∧F' 0=.pointer (some ⟨bd,0,none⟩)∧F' 177=.agg ((JQ b d 64).map wv).toArray∧∃i:Nat,i≤8∧F' 178=.int .i64 i∧g'[bd]? = some (.cells (((Te d (JQ b d 64)).take i++d.drop i).map wv++[]).toArray 184))
    (fun F _=>8-(vi (F 178)).toNat) rfl ⟨hB,f0,rfl,0,by omega,rfl,gT⟩ ?_
   clear f0 f4 f8 f97 YF hi ZA hv gT hB r0 F
   rintro F g3 ⟨hB,f0,yE,i,hi,qY,gT⟩
   have ZlD:=Za gT
   have qZ:((Te d (JQ b d 64)).take i++d.drop i).length=8:=by rw[We _ _ _ (by omega) (by omega),hal]
   by_cases ZA:i<8
   ·have ZI:(i:Int)<8:=by omega
    have n1:nth ((JQ b d 64).map wv) i=some (.int .u32 ((JQ b d 64).getD i 0:Nat)):=by
     rw[Yi,List.getElem?_map,List.getD_eq_getElem?_getD,List.getElem?_eq_getElem (by omega)];rfl
    have q1:=ZJ gT (i:=i) (by omega)
    have e0:((Te d (JQ b d 64)).take i++d.drop i).getD i 0=d.getD i 0:=by
     rw[List.getD_eq_getElem?_getD,List.getElem?_append_right (by rw[List.length_take];omega),List.length_take,Nat.min_eq_left (by omega),Nat.sub_self,List.getElem?_drop,Nat.add_zero,←List.getD_eq_getElem?_getD]
    rw[e0]at q1
    unfold wv at q1
    have eX:=dE hd v8 ZA
    have cs:=ZY (f:=wv) gT (i:=i) (by omega) ((Te d (JQ b d 64)).getD i 0) rfl
    rw[Rg _ _ i (by omega) (by omega)]at cs
    have iA:Jg g3 ⟨bd,i,none⟩ (.int .u32 (((Te d (JQ b d 64)).getD i 0:Nat):Int))=_:=cs
    rw[eX]at iA
    generalize d.getD i 0=D at *
    generalize (JQ b d 64).getD i 0=V at *
    have e1:((D:Int)+(V:Int))%4294967296=(((D+V)%4294967296:Nat):Int):=by omega
    simp -implicitDefEqProofs only[go_sem,↓reduceIte,yE,qY,ZI,n1]
    refine VS.w (g3.size) [9] (.q 0 (.q 1 (.q 2 (.q 3 (.q 4 (.q 5 (.q 6 (.q 7 (.q 8 (.w 9 .nil)))))))))) mixed (by kernel_rfl) ?_
    simp -implicitDefEqProofs only[go_sem,↓reduceIte,f0,yE,qY,q1,e1,ZlD,iA,ZI]
    refine⟨⟨?_,f0,yE,i+1,ZA,rfl,ZO gT⟩,?_⟩
    ·exact⟨by rw[Array.size_setIfInBounds];exact hB.size,fun k hk Yq=>by rw[Array.getElem?_setIfInBounds,if_neg (by intro e;exact Yq (by rw[e])),hB.block k hk Yq]⟩
    ·simp only[vi,Zj,↓reduceIte,qY];omega
   ·have YF:¬(i:Int)<8:=by omega
    obtain rfl:i=8:=by omega
    have e9:(Te d (JQ b d 64)).take 8++d.drop 8=FU d b:=by
     rw[List.take_of_length_le (by omega),List.drop_of_length_le (by omega),List.append_nil];rfl
    rw[e9]at gT
    simp -implicitDefEqProofs only[go_sem,↓reduceIte,qY,YF]
    exact⟨hB,gT⟩
def BN:Value→Nat
 | .slice _ n _=>n
 | _=>0
def Ib (n:Nat):List Nat:=0 :: 0 :: 0 :: 0 :: Qx (8*n)
theorem Np (n:Nat):(Ib n).length=8:=rfl
theorem fa (n:Nat):St (Ib n):=by
 intro x hx
 simp only[Ib,List.mem_cons]at hx
 rcases hx with rfl|rfl|rfl|rfl|hx
 ·omega
 ·omega
 ·omega
 ·omega
 ·exact UJ _ x hx
theorem rh {n k:Nat} (hn:n≤100000) (hk:k<8):Y7 .i64 ((8*n:Nat):Int) ((56-8*k:Nat):Int)%256=(((Ib n).getD k 0:Nat):Int):=by
 rw[VE _ _ (by omega)]
 rcases k with _|_|_|_|_|_|_|_|k
 ·show ((8*n/2 ^ 56:Nat):Int)%256=((0:Nat):Int)
  rw[Nat.div_eq_of_lt (by omega)];rfl
 ·show ((8*n/2 ^ 48:Nat):Int)%256=((0:Nat):Int)
  rw[Nat.div_eq_of_lt (by omega)];rfl
 ·show ((8*n/2 ^ 40:Nat):Int)%256=((0:Nat):Int)
  rw[Nat.div_eq_of_lt (by omega)];rfl
 ·show ((8*n/2 ^ 32:Nat):Int)%256=((0:Nat):Int)
  rw[Nat.div_eq_of_lt (by omega)];rfl
 ·rfl
 ·rfl
 ·rfl
 ·show ((8*n/2 ^ 0:Nat):Int)%256=((8*n%256:Nat):Int)
  rw[Nat.pow_zero,Nat.div_one];rfl
 ·omega
theorem rn {x bp op m c:Nat} {h h':Hp} {l:List Nat} (s:Bs h (.slice (some ⟨bp,op,none⟩) m c) l) (a:Vy (some x) h h') (Yq:bp≠x):Bs h' (.slice (some ⟨bp,op,none⟩) m c) l:=by
 obtain⟨⟨p,cap,hv,hl,hc⟩,hb⟩:=s
 simp only[Value.slice.injEq]at hv
 obtain⟨rfl,hm,rfl⟩:=hv
 refine⟨⟨_,_,by rw[hm],hl,fun hn=>?_⟩,hb⟩
 obtain⟨b,o,hp,YL⟩:=hc hn
 simp only[Option.some.injEq,Addr.mk.injEq,and_true]at hp
 obtain⟨rfl,rfl⟩:=hp
 refine⟨_,_,rfl,fun i hi=>?_⟩
 have h1:=YL i hi
 have h2:=QT h1
 unfold V.hc at h1 ⊢
 rw[a.block _ h2 (by intro e;exact Yq (Option.some.inj e).symm)]
 exact h1
theorem VL {bp op m c:Nat} {h:Hp} {l:List Nat} (s:Bs h (.slice (some ⟨bp,op,none⟩) m c) l) {k:Nat} (hk:k≤l.length) (hm:l.length=m) (c':Nat):Bs h (.slice (some ⟨bp,op+k,none⟩) (m-k) c') (l.drop k):=by
 subst hm
 refine⟨?_,fun x hx=>s.byte x (List.mem_of_mem_drop hx)⟩
 obtain⟨p',cap,hv,hl,hc⟩:=s.sl
 simp only[Value.slice.injEq]at hv
 obtain⟨rfl,_,rfl⟩:=hv
 refine⟨_,c',by rw[List.length_drop],by simp,fun Yq=>?_⟩
 have ZA:k<l.length:=by
  rw[←List.length_pos_iff]at Yq
  simp at Yq;omega
 obtain⟨b,o,hp,YL⟩:=hc (by intro e;simp at e;subst e;simp at ZA)
 simp only[Option.some.injEq,Addr.mk.injEq,and_true]at hp
 obtain⟨rfl,rfl⟩:=hp
 refine⟨_,_,rfl,fun i hi=>?_⟩
 have ad:i<l.length-k:=by simpa using hi
 rw[show op+k+i=op+(k+i) by omega,YL (k+i) (by simp;omega)]
 simp
abbrev Tk (h:Hp):Prop:=FF 1 wv kN h
theorem Gw (T:World) (h:Hp) (v:Value) (l:List Nat) (s:Bs h v l) (hl:l.length≤100000) (tk:Tk h) :
  Zc Tryz.prog T 71 #[v] h fun v' h'=>ZZ h.size 5 h' v' (TE l)∧Zf h.size h h':=by
 obtain⟨p,cp,rfl,Uo⟩:=s.open
 have eY:St l:=s.byte
 refine Zc.Zh (args:=[_]) Tryz.func71 rfl rfl rfl rfl ?_
 simp -implicitDefEqProofs only[go_sem,↓reduceIte]
 obtain⟨h1,Yv⟩:=Zy (h.push (.cells (kf.map wv).toArray 184):Hp)
 have hs1:h1.size=h.size+1:=by rw[Yv];simp
 have b1:Zf h.size h h1:=by rw[Yv];exact Zf.push (Nat.le_refl _) _
 have x1:h1[h.size]? = some (.cells (kf.map wv++[]).toArray 184):=by rw[Yv,List.append_nil];exact Zb
 change Tj Tryz.prog T .append _ _ _ _ _ (h.push (.cells (kf.map wv).toArray 184))
 rw[←Yv]
 clear Yv
 refine Zv (E:=5) (B:=h.size+1) Yt Tryz.underlying34 Wh Vb Va (ZZ.KL _ _ _ _) (by omega) (s.Z7 b1) (by simp;omega) ?_
 intro w h2 o2 b2 _
 rw[List.nil_append]at o2
 simp -implicitDefEqProofs only[go_sem,↓reduceIte]
 refine Zv (E:=5) (B:=h.size+1) Yt Tryz.underlying34 Wh Vb Va (o2.push _) (by have:=b2.size;simp;omega) (Bs.one (x:=128) (by omega) 1) (by simp;omega) ?_
 intro w3 h3 o3 b3 _
 have B3:Zf (h.size+1) h1 h3:=(b2.Yf (by have:=b2.size;omega) _).trans b3
 have o3':ZZ (h.size+1) 5 h3 w3 (TD l 0):=o3
 clear o2 o3 b2 b3
 simp -implicitDefEqProofs only[go_sem,↓reduceIte]
 refine VS.ZV (fun F g=>Zf (h.size+1) h1 g∧F 0=.slice p l.length cp∧F 3=.pointer (some ⟨h.size,0,none⟩)∧∃j:Nat,j≤KT l.length∧ZZ (h.size+1) 5 g (F 4) (TD l j))
  (fun F _=>l.length+100-BN (F 4)) rfl ⟨B3,rfl,rfl,0,by omega,o3'⟩ ?_
 clear o3' B3
 rintro F g ⟨hg,f0,f3,j,hj,ho⟩
 obtain⟨p4,c4,f4,_⟩:=ho.open
 have ml:=Pa l j
 obtain⟨M,hM⟩:=Zy (l.length+j+1)
 rw[ml,←hM]at f4
 have Zwx:KT l.length<64:=by unfold KT;omega
 have d1:(M:Int).tmod 64=((M%64:Nat):Int):=rfl
 have SI:=hg.size
 by_cases hm:M%64=56
 case neg=>
  have Ma:¬((M%64:Nat):Int)=56:=by omega
  have Yq:j≠KT l.length:=fun e=>hm (by rw[hM];exact (FW hj).2 e)
  simp -implicitDefEqProofs only[go_sem,↓reduceIte,f0,f3,f4,d1,Ma]
  have oB:=ho
  rw[f4]at oB
  refine Zv (E:=5) (B:=h.size+1) Yt Tryz.underlying34 Wh Vb Va (oB.push _) (by simp;omega) (Bs.one (x:=0) (by omega) 1) (by rw[ml];simp;omega) ?_
  intro w' g' S4 XX _
  obtain⟨p5,c5,rfl,_⟩:=S4.open
  simp -implicitDefEqProofs only[go_sem,↓reduceIte,f0,f3]
  refine⟨⟨(hg.Yf (by omega) _).trans XX,f0,f3,j+1,by omega,?_⟩,?_⟩
  ·rw[C6];exact S4
  ·simp only[BN,Zj,↓reduceIte,f4,List.length_append,ml,List.length_singleton];omega
 have hjn:j=KT l.length:=(FW hj).1 (by rw[←hM];exact hm)
 have Ma:((M%64:Nat):Int)=56:=by omega
 simp -implicitDefEqProofs only[go_sem,↓reduceIte,f0,f3,f4,d1,Ma]
 refine VS.ZV (fun F g=>Zf (h.size+1) h1 g∧F 0=.slice p l.length cp∧F 3=.pointer (some ⟨h.size,0,none⟩)∧∃k:Nat,k≤8∧F 5=.int .i64 (56-8*(k:Int))∧ZZ (h.size+1) 5 g (F 4) (TD l j++(Ib l.length).take k))
  (fun F _=>(vi (F 5)+8).toNat) rfl ⟨hg,f0,f3,0,by omega,rfl,by rw[List.take_zero,List.append_nil];exact ho⟩ ?_
 clear f0 f3 f4 d1 hm Ma ho hg SI F g
 rintro F g ⟨hg,f0,f3,k,hk,f5,ho⟩
 have SI:=hg.size
 obtain⟨y,hy⟩:∃y:Int,y=56-8*(k:Int):=⟨_,rfl⟩
 rw[←hy]at f5
 by_cases ZA:k<8
 ·have dS:0≤y:=by omega
  have Gl:¬y<0:=by omega
  obtain⟨X,hX⟩:=Zy ((Ib l.length).getD k 0)
  have hXb:X<256:=by rw[hX];exact ZF (fa _) k
  obtain⟨xL,hxL⟩:∃x:Int,x=((8*l.length:Nat):Int):=⟨_,rfl⟩
  have eL:Unit→8*(l.length:Int)=xL:=fun _=>by rw[hxL];omega
  have xLb:0≤xL∧xL≤1000000:=by rw[hxL];omega
  have sh:Unit→Y7 .i64 xL y%256=(X:Int):=fun _=>by
   rw[hxL,hy,show (56:Int)-8*(k:Int)=((56-8*k:Nat):Int) by omega,hX];exact rh hl ZA
  have ml2:(TD l j++(Ib l.length).take k).length≤200000:=by rw[List.length_append,ml,List.length_take];omega
  have et:(Ib l.length).take (k+1)=(Ib l.length).take k++[X]:=by
   rw[Ye _ k (by rw[Np];exact ZA),hX,List.getD_eq_getElem?_getD,List.getElem?_eq_getElem (by rw[Np];exact ZA)];rfl
  clear hX hxL
  simp -implicitDefEqProofs only[go_sem,↓reduceIte,f0,f3,f5,dS,Gl,eL (),sh ()]
  refine Zv (E:=5) (B:=h.size+1) Yt Tryz.underlying34 Wh Vb Va (ho.push _) (by simp;omega) (Bs.one hXb 1) (by simp only[List.length_singleton];omega) ?_
  intro w' g' S4 XX _
  simp -implicitDefEqProofs only[go_sem,↓reduceIte,f0,f3,f5]
  refine⟨⟨(hg.Yf (by omega) _).trans XX,f0,f3,k+1,ZA,?_,?_⟩,?_⟩
  ·show Value.int .i64 _=_
   congr 1;omega
  ·rw[et,←List.append_assoc];exact S4
  ·simp only[vi,Zj,↓reduceIte,f5];omega
 ·have dS:¬0≤y:=by omega
  obtain rfl:k=8:=by omega
  have ep:TD l j++(Ib l.length).take 8=Wi l:=by rw[hjn];rfl
  rw[ep]at ho
  have pl:=Ga l
  obtain⟨N,hN⟩:=Zy (dF l.length)
  have hN1:0<N:=by rw[hN];unfold dF;omega
  have hN2:N≤2000:=by rw[hN];unfold dF;omega
  rw[←hN]at pl
  have rq:=hg.get (by omega) x1
  have bh:Zf h.size h g:=b1.trans (hg.mono (by omega))
  obtain⟨bp,cP,f4,hbp,hcP⟩:∃bp c,F 4=.slice (some ⟨bp,0,none⟩) (64*N) c∧h.size+1≤bp∧64*N≤c:=by
   rcases ho.own with⟨_,hm,_⟩|⟨b,cap,sp,hB,hv,_,_,_,hc⟩
   ·omega
   ·rw[pl]at hv hc;exact⟨b,cap,hv,hB,hc⟩
  have sP:=ho.bs
  rw[f4]at sP
  simp -implicitDefEqProofs only[go_sem,↓reduceIte,f0,f3,f5,dS]
  refine VS.ZV (fun F g=>Zf h.size h g∧F 3=.pointer (some ⟨h.size,0,none⟩)∧∃j op c:Nat,j≤N∧F 4=.slice (some ⟨bp,op,none⟩) (64*(N-j)) c∧64*(N-j)≤c∧Bs g (.slice (some ⟨bp,op,none⟩) (64*(N-j)) c) ((Wi l).drop (64*j))∧g[h.size]? = some (.cells ((FV (Wi l) j).map wv++[]).toArray 184))
   (fun F _=>BN (F 4)) rfl ⟨bh,f3,0,0,cP,by omega,f4,hcP,by exact sP,rq⟩ ?_
  clear f0 f3 f4 f5 hy dS ZA ho sP rq bh hg SI ep hcP F g
  rintro F g ⟨hg,f3,j,op,c,hj,f4,hc,sP,rq⟩
  have SI:=Za rq
  by_cases ZA:j<N
  ·obtain⟨L,hL⟩:=Zy (64*(N-j))
   rw[←hL]at f4 hc sP
   have Zwy:64≤L:=by omega
   have lD:((Wi l).drop (64*j)).length=L:=by rw[List.length_drop,pl];omega
   have hL0:0<(L:Int):=by omega
   have ZdD:(64:Int)≤(c:Int):=by omega
   have ab:¬c=0:=by omega
   simp -implicitDefEqProofs only[go_sem,↓reduceIte,f3,f4,hL0,ZdD,ab,Nat.sub_zero,Nat.zero_mul]
   have sB:Bs g (.slice (some ⟨bp,op,none⟩) 64 c) (((Wi l).drop (64*j)).take 64):=by
    rw[←lD]at sP;exact Bs.Sr sP (by omega) c
   obtain⟨dl,dw⟩:=R7 (Wi l) j
   refine (EF T g h.size (FV (Wi l) j) _ (((Wi l).drop (64*j)).take 64) dl dw sB (by rw[List.length_take,lD];omega) (tk.X9 hg) rq (by have:=tk.1;omega)).use ?_
   rintro _ g2 ⟨S5,S9⟩
   have Qt:Zf h.size h g2:=hg.trans (S5.Z7 (by omega) (fun b e=>by have:=Option.some.inj e;omega))
   have sP2:=rn sP S5 (by omega)
   by_cases hce:c=64
   ·have hLe:L=64:=by omega
    have ZlF:(c:Int)=64:=by omega
    have uP:(L:Int)=64:=by omega
    subst hce hLe
    simp -implicitDefEqProofs only[go_sem,↓reduceIte,f3,f4,ZlF,uP]
    refine⟨⟨Qt,f3,j+1,op,0,ZA,?_,by omega,?_,S9⟩,?_⟩
    ·show Value.slice _ _ _=_
     rw[show 64*(N-(j+1))=0 by omega]
    ·rw[show 64*(N-(j+1))=0 by omega,List.drop_of_length_le (by rw[pl];omega)]
     exact (ZZ.KL 0 5 _ _).bs
    ·simp only[BN,Zj,↓reduceIte,f4];omega
   ·have ZdE:(64:Int)≤(L:Int):=by omega
    simp -implicitDefEqProofs only[go_sem,↓reduceIte,f3,f4,ZdD,ZdE,hce]
    refine⟨⟨Qt,f3,j+1,op+64,c-64,ZA,?_,by omega,?_,S9⟩,?_⟩
    ·show Value.slice _ _ _=_
     rw[show L-64=64*(N-(j+1)) by omega]
    ·have:=VL sP2 (k:=64) (by omega) lD (c-64)
     rw[List.drop_drop,show L-64=64*(N-(j+1)) by omega,show 64*j+64=64*(j+1) by omega]at this
     exact this
    ·simp only[BN,Zj,↓reduceIte,f4];omega
  ·obtain rfl:j=N:=by omega
   have eS:TE l=Zw (FV (Wi l) j):=by rw[TE,←hN]
   obtain⟨dl,dw⟩:=R7 (Wi l) j
   obtain⟨D,hD⟩:=Zy (FV (Wi l) j)
   rw[←hD]at dl dw rq eS
   rw[eS]
   have r0:rd g ⟨h.size,0,none⟩ 8=some (D.map wv):=by rw[List.append_nil]at rq;exact Zo rq (by simp[dl])
   rw[Nat.sub_self,Nat.mul_zero]at f4
   have hz:¬h.size=g.size:=by omega
   simp -implicitDefEqProofs only[go_sem,↓reduceIte,f3,f4,r0,hz]
   have hBo:Zf h.size h (g.push (.cells (XI 32 [Value.int .u8 0]).toArray 5)):=hg.add _
   have oO:ZZ h.size 5 (g.push (.cells (XI 32 [Value.int .u8 0]).toArray 5)) (.slice (some ⟨g.size,0,none⟩) 0 32) (Zw (D.take 0)):=
    ⟨.inr ⟨g.size,32,XI 32 [Value.int .u8 0],hg.size,rfl,Zb,rfl,rfl,Nat.zero_le 32⟩,fun x hx=>by cases hx⟩
   refine VS.ZV (fun F g=>Zf h.size h g∧F 43=.agg (D.map wv).toArray∧∃i:Nat,i≤8∧F 44=.int .i64 i∧ZZ h.size 5 g (F 6) (Zw (D.take i)))
    (fun F _=>8-(vi (F 44)).toNat) rfl ⟨hBo,rfl,0,by omega,rfl,oO⟩ ?_
   clear f3 f4 ZA rq r0 hz hBo oO sP hc hg SI g F
   rintro F g ⟨hg,f43,i,hi,f44,ho⟩
   have SI:=hg.size
   by_cases ZA:i<8
   ·have ZI:(i:Int)<8:=by omega
    obtain⟨x,hx⟩:=Zy (D.getD i 0)
    have hxb:x<4294967296:=by rw[hx];exact dw.getD i
    have et:D.take (i+1)=D.take i++[x]:=by
     rw[Ye _ i (by omega),hx,List.getD_eq_getElem?_getD,List.getElem?_eq_getElem (by omega)];rfl
    obtain⟨yx,fb⟩:∃y:Int,y=(x:Int):=⟨_,rfl⟩
    obtain⟨z0,GU⟩:∃y:Int,y=((x/16777216%256:Nat):Int):=⟨_,rfl⟩
    obtain⟨z1,H4⟩:∃y:Int,y=((x/65536%256:Nat):Int):=⟨_,rfl⟩
    obtain⟨z2,Bt⟩:∃y:Int,y=((x/256%256:Nat):Int):=⟨_,rfl⟩
    obtain⟨z3,ru⟩:∃y:Int,y=((x%256:Nat):Int):=⟨_,rfl⟩
    have n1:nth (D.map wv) i=some (.int .u32 yx):=by
     rw[Yi,List.getElem?_map,fb,hx,List.getD_eq_getElem?_getD,List.getElem?_eq_getElem (by omega)];rfl
    have e1:Unit→Y7 .u32 yx 24%256=z0:=fun _=>by rw[fb,GU,show (24:Int)=((24:Nat):Int) from rfl,QN x 24 (by decide)];rfl
    have e2:Unit→Y7 .u32 yx 16%256=z1:=fun _=>by rw[fb,H4,show (16:Int)=((16:Nat):Int) from rfl,QN x 16 (by decide)];rfl
    have e3:Unit→Y7 .u32 yx 8%256=z2:=fun _=>by rw[fb,Bt,show (8:Int)=((8:Nat):Int) from rfl,QN x 8 (by decide)];rfl
    have e4:Unit→yx%256=z3:=fun _=>by rw[fb,ru];rfl
    have XY:(Zw (D.take i)).length≤32:=by rw[Zz,List.length_take];omega
    clear fb hx
    simp -implicitDefEqProofs only[go_sem,↓reduceIte,f43,f44,ZI,n1,e1 (),e2 (),e3 (),e4 ()]
    subst GU H4 Bt ru
    refine Zv (E:=5) (B:=h.size) Yt Tryz.underlying34 Wh Vb Va (ho.push _) (by simp;omega) (Bs.made (l:=Qx x) (UJ x) 4) (by simp[Qx];omega) ?_
    intro w' g' S4 XX _
    simp -implicitDefEqProofs only[go_sem,↓reduceIte,f43,f44]
    refine⟨⟨(hg.add _).trans XX,f43,i+1,ZA,rfl,?_⟩,?_⟩
    ·rw[et]
     unfold Zw at S4 ⊢
     rw[List.flatMap_append]
     simp only[List.flatMap_cons,List.flatMap_nil,List.append_nil]
     exact S4
    ·simp only[vi,Zj,↓reduceIte,f44];omega
   ·have YF:¬(i:Int)<8:=by omega
    obtain rfl:i=8:=by omega
    rw[List.take_of_length_le (by omega)]at ho
    simp -implicitDefEqProofs only[go_sem,↓reduceIte,f43,f44,YF]
    exact⟨ho,hg⟩
def Rh (n:Nat):Int:=if 2000<n then 1 else 0
def lF (B:Nat) (h':Hp) (v':Value) (l:List Nat):Prop:=∃w,v'=.tuple [w,.int .i64 (Rh l.length)].toArray∧ZZ B 5 h' w (if Rh l.length=0 then TE l else [])
theorem IY (T:World) (h:Hp) (v:Value) (l:List Nat) (s:Bs h v l) (tk:Tk h) :
  Zc Tryz.prog T 50 #[v] h fun v' h'=>lF h.size h' v' l∧Zf h.size h h':=by
 obtain⟨p,cp,rfl,Uo⟩:=s.open
 refine Zc.Zh (args:=[_]) Tryz.func50 rfl rfl rfl rfl ?_
 unfold lF Rh
 by_cases hl:2000<l.length
 ·have DL:2000<(l.length:Int):=by omega
  simp -implicitDefEqProofs only[go_sem,↓reduceIte,DL,hl]
  exact⟨_,rfl,ZZ.nil _ _ _⟩
 ·have DL:¬2000<(l.length:Int):=by omega
  simp -implicitDefEqProofs only[go_sem,↓reduceIte,DL,hl]
  refine (Gw T _ _ l s (by omega) tk).use ?_
  rintro w h1 ⟨o1,b1⟩
  simp -implicitDefEqProofs only[go_sem,↓reduceIte,b1]
  exact⟨_,rfl,o1⟩
def Ic (body:List Nat):List Nat:=body.length :: body
def Y0 (body:List Nat):List Nat:=Ic body++(TE (Ic body)).take 4
theorem Nq (body:List Nat):(Ic body).length=body.length+1:=rfl
theorem TO (body:List Nat):(Y0 body).length=body.length+5:=by
 rw[Y0,List.length_append,List.length_take,Jm,Nq];omega
def Y1 (l:List Nat) (n:Int):Prop:=l.length≤100000∧0≤n∧n≤l.length
instance (l:List Nat) (n:Int):Decidable (Y1 l n):=by unfold Y1;infer_instance
def Js (l:List Nat) (n:Int) (k:Nat):Int:=if ¬Y1 l n then 5 else if 100000<l.length+(k+5) then 8 else 0
def VM (B:Nat) (h':Hp) (v':Value) (l:List Nat) (n:Int) (E:Int) (add:List Nat):Prop:=
 ∃w,v'=.tuple [.agg [w,.int .i64 (if E=0 then n else 0)].toArray,.int .i64 E].toArray∧ZZ B 5 h' w (if E=0 then l++add else [])
theorem Vy.yF {h g:Hp} {b:Nat} {o:Obj} (a:Vy (some b) h g):Vy (some b) h (g.setIfInBounds b o):=
 ⟨by rw[Array.size_setIfInBounds];exact a.size,fun k hk Yq=>by rw[Array.getElem?_setIfInBounds,if_neg (fun e=>Yq (by rw[e])),a.block k hk Yq]⟩
theorem Vk (T:World) (h:Hp) (v u:Value) (n:Int) (l body:List Nat) (s:Bs h v l) (hl:l.length≤140737488355328) (sb:Bs h u body) (hb:body.length≤255) (tk:Tk h) :
  Zc Tryz.prog T 135 #[.agg [v,.int .i64 n].toArray,u] h fun v' h'=>VM h.size h' v' l n (Js l n body.length) (Y0 body)∧Zf h.size h h':=by
 obtain⟨p,c,rfl,_⟩:=s.open
 obtain⟨q,d,rfl,_⟩:=sb.open
 refine Zc.Zh (args:=[_,_]) Tryz.func135 rfl rfl rfl rfl ?_
 unfold VM
 simp -implicitDefEqProofs only[go_sem,↓reduceIte]
 obtain⟨h0,XM⟩:=Zy ((h.push (.cells [.slice p l.length c,.int .i64 n].toArray 100)).push (.cells [.slice none 0 0,.int .i64 0].toArray 100):Hp)
 have b0:Zf h.size h h0:=by rw[XM];exact ((Zf.refl _ _).add _).add _
 have s0:h0.size=h.size+1+1:=by rw[XM];simp
 have x0:h0[h.size+1]? = some (.cells [.slice none 0 0,.int .i64 0].toArray 100):=by
  rw[XM,Array.getElem?_push,if_pos (by simp)]
 rw[←XM]
 clear XM
 refine (JY T h0 _ n l (s.Z7 b0) hl).use ?_
 rintro _ h1 ⟨b1,o1⟩
 have s1:=b1.size
 by_cases ok:Y1 l n
 case neg=>
  have ee:Js l n body.length=5:=by unfold Js;rw[if_pos ok]
  rw[if_neg (show ¬(l.length≤100000∧0≤n∧n≤l.length) from ok)]at o1
  subst o1
  rw[ee]
  have x1:=b1.get (by omega) x0
  have y2:=ZP x1 0
  have ZA:h.size+1<h1.size:=by omega
  have Yq:¬h.size+1=h1.size:=by omega
  simp -implicitDefEqProofs only[go_sem,↓reduceIte,y2,Yq,ZA]
  exact⟨⟨_,rfl,ZZ.nil _ _ _⟩,((b0.trans (b1.mono (by omega))).Zk (by omega) _).Yf (by simp;omega) _⟩
 have ee:Js l n body.length=if 100000<l.length+(body.length+5) then 8 else 0:=by unfold Js;rw[if_neg (fun hn=>hn ok)]
 rw[if_pos (show (l.length≤100000∧0≤n∧n≤l.length) from ok)]at o1
 obtain⟨w,rfl,o1⟩:=o1
 obtain⟨pw,cw,rfl,_⟩:=o1.open
 have B1:=b0.trans (b1.mono (by omega))
 have x1:=b1.get (by omega) x0
 obtain⟨kj,Iv,hn1⟩:=ok
 obtain⟨h2,UY⟩:=Zy (h1.push (.cells [.slice pw l.length cw,.int .i64 n].toArray 100):Hp)
 have b2:Zf h1.size h1 h2:=by rw[UY];exact Zf.push (Nat.le_refl _) _
 have s2:h2.size=h1.size+1:=by rw[UY];simp
 have x6:h2[h1.size]? = some (.cells [.slice pw l.length cw,.int .i64 n].toArray 100):=by rw[UY];exact Zb
 have eb:(body.length:Int)%256=(body.length:Int):=by omega
 have e2:h1.push (.cells #[Value.slice pw l.length cw,.int .i64 n] 100)=h2:=UY.symm
 simp -implicitDefEqProofs only[go_sem,↓reduceIte,eb]
 rw[e2]
 clear e2 UY
 rw[←s2]
 have B2:=B1.trans (b2.mono B1.size)
 have o2:=o1.Z7 b2 (Nat.le_refl _)
 have Io:∀x∈[body.length],x<256:=by intro x hx;rw[List.mem_singleton.1 hx];omega
 have of0:ZZ h2.size 5 (h2.push (.cells (([body.length]:List Nat).map bv).toArray 5)) (.slice (some ⟨h2.size,0,none⟩) 1 1) [body.length]:=ZZ.made Io (Nat.le_refl _)
 have bp:Zf h2.size h2 (h2.push (.cells (([body.length]:List Nat).map bv).toArray 5)):=Zf.push (Nat.le_refl _) _
 refine Zv (E:=5) (B:=h2.size) Yt Tryz.underlying34 Wh Vb Va of0 (by simp) (sb.Z7 (B2.trans (bp.mono (by omega)))) (by simp;omega) ?_
 intro wf h3 of3 b3 _
 have B3:Zf h2.size h2 h3:=bp.trans b3
 have gU:=B2.trans (B3.mono (by omega))
 have ZdF:ZZ h2.size 5 h3 wf (Ic body):=of3
 clear of0 bp of3 b3
 have fl:=Nq body
 have fsl:=TO body
 have efr:Y0 body=Ic body++(TE (Ic body)).take 4:=rfl
 have shl:=Jm (Ic body)
 simp -implicitDefEqProofs only[go_sem,↓reduceIte]
 refine (IY T h3 wf (Ic body) ZdF.bs (tk.X9 gU)).use ?_
 rintro _ h4 ⟨⟨ws,rfl,os⟩,b4⟩
 have e0:Rh (Ic body).length=0:=by unfold Rh;rw[if_neg (by omega)]
 rw[e0,if_pos rfl]at os
 rw[e0]
 generalize TE (Ic body)=SH at *
 obtain⟨ps,cs,rfl,YL⟩:=os.open
 have sS:=os.bs
 obtain⟨p',c',hv,hh⟩:=sS.Uh
 simp only[Value.slice.injEq]at hv
 obtain⟨rfl,_,rfl⟩:=hv
 obtain⟨bb,ob,rfl,_⟩:=hh (by intro e;rw[e]at shl;cases shl)
 have s4:=Bs.Sr sS (m:=4) (by omega) cs
 rw[shl]at YL ⊢
 have h4c:(4:Int)≤(cs:Int):=by omega
 have Ge:¬cs=0:=by omega
 have of4:=ZdF.Z7 b4 (Nat.le_refl _)
 have s3:=B3.size
 have s4s:=b4.size
 have B4:Zf h2.size h2 h4:=B3.trans (b4.mono s3)
 simp -implicitDefEqProofs only[go_sem,↓reduceIte,h4c,Ge,Nat.sub_zero,Nat.zero_mul]
 refine Zv (E:=5) (B:=h2.size) Yt Tryz.underlying34 Wh Vb Va of4 (by omega) s4 (by rw[fl,List.length_take];omega) ?_
 intro wg h5 og b5 _
 rw[←efr]at og
 have B5:Zf h2.size h2 h5:=B4.trans b5
 have s5:=B5.size
 have Bh5:=B2.trans (B5.mono (by omega))
 obtain⟨pg,cg,rfl,_⟩:=og.open
 rw[fsl]
 have x65:=B5.get (by omega) x6
 have r65:V.hc h5 ⟨h1.size,0,none⟩=some (.slice pw l.length cw):=by rw[Zg x65];rfl
 have o5:=o2.Z7 B5 (Nat.le_refl _)
 have x15:h5[h.size+1]? = some (.cells [.slice none 0 0,.int .i64 0].toArray 100):=B5.get (by omega) (b2.get (by omega) x1)
 generalize Y0 body=FR at *
 by_cases q:100000<l.length+(body.length+5)
 ·have q':100000<(l.length:Int)+((body.length+5:Nat):Int):=by omega
  have y2:=ZP x15 0
  have ZA:h.size+1<h5.size:=by omega
  rw[if_pos q]at ee
  rw[ee]
  simp -implicitDefEqProofs only[go_sem,↓reduceIte,r65,q',y2,ZA]
  exact⟨⟨_,rfl,ZZ.nil _ _ _⟩,Bh5.Zk (by omega) _⟩
 ·have q':¬100000<(l.length:Int)+((body.length+5:Nat):Int):=by omega
  rw[if_neg q]at ee
  rw[ee]
  simp -implicitDefEqProofs only[go_sem,↓reduceIte,r65,q']
  have ogb:Bs h5 (.slice pg (body.length+5) cg) FR:=by rw[←fsl];exact og.bs
  refine JN (E:=5) (B:=h0.size) Yt Tryz.underlying34 Wh Vb Va o5 (by omega) ogb (by omega) ?_
  intro wz h6 oz b6 bt6 bk6
  have s6:=b6.size
  have Bp:∀b,ZL (Value.slice pw l.length cw)=some b→b<h1.size:=o1.own.lt
  have x66:h6[h1.size]? = some (.cells [.slice pw l.length cw,.int .i64 n].toArray 100):=by
   rw[bt6.block _ (by omega) (fun e=>by have:=Bp _ e;omega)];exact x65
  have x16:h6[h.size+1]? = some (.cells [.slice none 0 0,.int .i64 0].toArray 100):=b6.get (by omega) x15
  obtain⟨pz,cz,hwz,_⟩:=oz.open
  have zl:(l++FR).length=l.length+(body.length+5):=by rw[List.length_append,fsl]
  rw[zl]at hwz
  subst hwz
  have w66:=Yp (v:=.slice pz (l.length+(body.length+5)) cz) x66 (o:=0)
  obtain⟨h7,rD⟩:=Zy (h6.setIfInBounds h1.size (.cells [.slice pz (l.length+(body.length+5)) cz,.int .i64 n].toArray 100):Hp)
  have ZlH:Jg h6 ⟨h1.size,0,none⟩ (.slice pz (l.length+(body.length+5)) cz)=some h7:=by rw[w66,if_pos ⟨by simp,rfl⟩,rD];rfl
  have b7:Vy (some h1.size) h6 h7:=by rw[rD];exact Vy.yF Vy.refl
  have x77:h7[h1.size]? = some (.cells [.slice pz (l.length+(body.length+5)) cz,.int .i64 n].toArray 100):=by rw[rD,Array.getElem?_setIfInBounds,if_pos rfl,if_pos (by omega)]
  have x17:h7[h.size+1]? = some (.cells [.slice none 0 0,.int .i64 0].toArray 100):=by
   rw[b7.block _ (by omega) (fun e=>by have:=Option.some.inj e;omega)];exact x16
  have oz7:=oz.MT b7 (fun b hb e=>by
   have e':=Option.some.inj e
   rcases bk6 b hb with g1|g1
   ·have:=Bp b g1;omega
   ·omega)
  have r77:rd h7 ⟨h1.size,0,none⟩ 2=some [.slice pz (l.length+(body.length+5)) cz,.int .i64 n]:=Zo x77 rfl
  have y7:=ZP x17 0
  have LG:h.size+1<h7.size:=Za x17
  have DQ:Zf h.size h h6:=Bh5.trans (b6.mono (by omega))
  have Kw:Zf h.size h h7:=DQ.trans (b7.Z7 (by omega) (fun b e=>by have:=Option.some.inj e;omega))
  clear rD w66
  simp -implicitDefEqProofs only[go_sem,↓reduceIte,ZlH,r77,y7,LG]
  refine⟨⟨_,rfl,?_⟩,Kw.Zk (by omega) _⟩
  exact (oz7.ZR (by omega) _).mono (by omega)
theorem Uz (g:Hp) (ns:List Nat):NT (g.push (.cells (ns.map nv).toArray 3)) (.slice (some ⟨g.size,0,none⟩) ns.length ns.length) ns:=by
 constructor
 rw[QU nv]
 exact Sl.made (by simp) _
theorem Vl (T:World) (h:Hp) (u:Value) (ns:List Nat) (s:NT h u ns) (hl:ns.length≤100) (hb:∀x∈ns,x≤1073741824) :
  Zc Tryz.prog T 136 #[u] h fun v' h'=>ZZ h.size 5 h' v' (Zw ns)∧Zf h.size h h':=by
 obtain⟨p,c,rfl,YL⟩:=qp s
 refine Zc.Zh (args:=[_]) Tryz.func136 rfl rfl rfl rfl ?_
 simp -implicitDefEqProofs only[go_sem,↓reduceIte]
 refine VS.ZV (fun F g=>Zf h.size h g∧F 6=.slice p ns.length c∧F 7=.int .i64 ns.length∧∃i:Nat,i≤ns.length∧F 8=.int .i64 i∧ZZ h.size 5 g (F 3) (Zw (ns.take i)))
  (fun F _=>ns.length-(vi (F 8)).toNat) rfl ⟨Zf.refl _ _,rfl,rfl,0,by omega,rfl,ZZ.nil _ _ _⟩ ?_
 rintro F g ⟨hg,f6,f7,i,hi,f8,ho⟩
 have SI:=hg.size
 by_cases ZA:i<ns.length
 ·have ZI:(i:Int)<ns.length:=by omega
  obtain⟨b,o,rfl,hb0,YL⟩:=YL (by intro e;rw[e]at ZA;simp at ZA)
  have n1:V.hc g ⟨b,o+i,none⟩=some (.int .i64 (ns.getD i 0:Nat)):=by rw[hg.hc (by exact hb0)];exact YL i ZA
  have et:ns.take (i+1)=ns.take i++[ns.getD i 0]:=by
   rw[Ye _ i ZA,List.getD_eq_getElem?_getD,List.getElem?_eq_getElem ZA];rfl
  have hx:ns.getD i 0≤1073741824:=by
   rw[List.getD_eq_getElem?_getD,List.getElem?_eq_getElem ZA];exact hb _ (List.getElem_mem ZA)
  generalize ns.getD i 0=x at *
  obtain⟨yx,fb⟩:∃y:Int,y=(x:Int):=⟨_,rfl⟩
  obtain⟨z0,GU⟩:∃y:Int,y=((x/16777216%256:Nat):Int):=⟨_,rfl⟩
  obtain⟨z1,H4⟩:∃y:Int,y=((x/65536%256:Nat):Int):=⟨_,rfl⟩
  obtain⟨z2,Bt⟩:∃y:Int,y=((x/256%256:Nat):Int):=⟨_,rfl⟩
  obtain⟨z3,ru⟩:∃y:Int,y=((x%256:Nat):Int):=⟨_,rfl⟩
  rw[←fb]at n1
  have e1:Unit→Y7 .i64 yx 24%256=z0:=fun _=>by rw[fb,GU,show (24:Int)=((24:Nat):Int) from rfl,VE x 24 (by decide)];rfl
  have e2:Unit→Y7 .i64 yx 16%256=z1:=fun _=>by rw[fb,H4,show (16:Int)=((16:Nat):Int) from rfl,VE x 16 (by decide)];rfl
  have e3:Unit→Y7 .i64 yx 8%256=z2:=fun _=>by rw[fb,Bt,show (8:Int)=((8:Nat):Int) from rfl,VE x 8 (by decide)];rfl
  have e4:Unit→yx%256=z3:=fun _=>by rw[fb,ru];rfl
  have XY:(Zw (ns.take i)).length≤400:=by rw[Zz,List.length_take];omega
  clear fb
  simp -implicitDefEqProofs only[go_sem,↓reduceIte,f6,f7,f8,ZI,n1,e1 (),e2 (),e3 (),e4 ()]
  subst GU H4 Bt ru
  refine Zv (E:=5) (B:=h.size) Yt Tryz.underlying34 Wh Vb Va (ho.push _) (by simp;omega) (Bs.made (l:=Qx x) (UJ x) 4) (by simp[Qx];omega) ?_
  intro w' g' S4 XX _
  simp -implicitDefEqProofs only[go_sem,↓reduceIte,f6,f7,f8]
  refine⟨⟨(hg.add _).trans XX,f6,f7,i+1,ZA,rfl,?_⟩,?_⟩
  ·rw[et]
   unfold Zw at S4 ⊢
   rw[List.flatMap_append]
   simp only[List.flatMap_cons,List.flatMap_nil,List.append_nil]
   exact S4
  ·simp only[vi,Zj,↓reduceIte,f8];omega
 ·have YF:¬(i:Int)<ns.length:=by omega
  obtain rfl:i=ns.length:=by omega
  rw[List.take_length]at ho
  simp -implicitDefEqProofs only[go_sem,↓reduceIte,f6,f7,f8,YF]
  exact⟨ho,hg⟩
def Qn (l:List Nat) (n:Int) (b:XL):Int:=if ¬Y1 l n then 5 else if ¬ZS b then 2 else Js l n 9
def Qo (b:XL):List Nat:=1 :: Zw [b.r.toNat,b.n.toNat]
theorem BO (b:XL):Yu ⟨0,0⟩ [] b=if ZS b then 0 else 2:=by
 have e:XC ⟨0,0⟩ []=0:=rfl
 unfold Yu
 rw[if_neg (by rw[e];decide)]
 by_cases q:ZS b
 ·rw[if_neg (fun hn=>hn q),if_pos q,if_neg]
  intro hb
  have q1:=q.1.1
  rcases hb with hb|⟨hb,_⟩<;>simp at hb<;>omega
 ·rw[if_pos q,if_neg q]
theorem Nr (T:World) (h:Hp) (v:Value) (n:Int) (l:List Nat) (b:XL) (s:Bs h v l) (hl:l.length≤140737488355328) (tk:Tk h) :
  Zc Tryz.prog T 111 #[.agg [v,.int .i64 n].toArray,.agg (X1 b).toArray] h fun v' h'=>VM h.size h' v' l n (Qn l n b) (Y0 (Qo b))∧Zf h.size h h':=by
 obtain⟨p,c,rfl,_⟩:=s.open
 refine Zc.Zh (args:=[_,_]) Tryz.func111 rfl rfl rfl rfl ?_
 unfold VM X1
 simp -implicitDefEqProofs only[go_sem,↓reduceIte]
 obtain⟨h0,XM⟩:=Zy (((h.push (.cells [.slice p l.length c,.int .i64 n].toArray 100)).push (.cells [.int .i64 b.r,.int .i64 b.n].toArray 102)).push (.cells [.slice none 0 0,.int .i64 0].toArray 100):Hp)
 have b0:Zf h.size h h0:=by rw[XM];exact (((Zf.refl _ _).add _).add _).add _
 have s0:h0.size=h.size+3:=by rw[XM];simp
 have t0:h0[h.size]? = some (.cells [.slice p l.length c,.int .i64 n].toArray 100):=by
  rw[XM,Array.getElem?_push,if_neg (by simp;omega),Array.getElem?_push,if_neg (by simp),Zb]
 have t1:h0[h.size+1]? = some (.cells [.int .i64 b.r,.int .i64 b.n].toArray 102):=by
  rw[XM,Array.getElem?_push,if_neg (by simp),Array.getElem?_push,if_pos (by simp)]
 have x0:h0[h.size+2]? = some (.cells [.slice none 0 0,.int .i64 0].toArray 100):=by
  rw[XM,Array.getElem?_push,if_pos (by simp)]
 rw[←XM]
 clear XM
 refine (JY T h0 _ n l (s.Z7 b0) hl).use ?_
 rintro _ h1 ⟨b1,o1⟩
 have s1:=b1.size
 have B1:Zf h.size h h1:=b0.trans (b1.mono (by omega))
 have x1:=b1.get (by omega) x0
 by_cases ok:Y1 l n
 case neg=>
  have ee:Qn l n b=5:=by unfold Qn;rw[if_pos ok]
  rw[if_neg (show ¬(l.length≤100000∧0≤n∧n≤l.length) from ok)]at o1
  subst o1
  rw[ee]
  have y2:=ZP x1 0
  have ZA:h.size+2<h1.size:=by omega
  have Yq:¬h.size+2=h1.size:=by omega
  simp -implicitDefEqProofs only[go_sem,↓reduceIte,y2,Yq,ZA]
  exact⟨⟨_,rfl,ZZ.nil _ _ _⟩,(B1.Zk (by omega) _).Yf (by simp;omega) _⟩
 rw[if_pos (show (l.length≤100000∧0≤n∧n≤l.length) from ok)]at o1
 obtain⟨w,rfl,o1⟩:=o1
 obtain⟨pw,cw,rfl,_⟩:=o1.open
 have bt1:=b1.get (by omega) t1
 have r1:rd h1 ⟨h.size+1,0,none⟩ 2=some [.int .i64 b.r,.int .i64 b.n]:=Zo bt1 rfl
 have EG:¬h.size+1=h1.size:=by omega
 simp -implicitDefEqProofs only[go_sem,↓reduceIte,r1,EG]
 have b2:Zf h1.size h1 (h1.push (.cells [.slice pw l.length cw,.int .i64 n].toArray 100)):=Zf.push (Nat.le_refl _) _
 refine (VJ T _ ⟨0,0⟩ (.slice none 0 0) [] b (X7.nil 0 146 Zm 8 _).ts (by simp)).use ?_
 rintro _ h3 ⟨⟨w1,w2,rfl,q1,q2⟩,b3⟩
 simp only[ite_self]at q1
 have B3:Zf h1.size h1 h3:=b2.trans (b3.mono b2.size)
 rw[BO]
 obtain⟨p1,c1,Bp,_⟩:=q1.open
 have s3:=B3.size
 have x3:=B3.get (by omega) x1
 have gU:=B1.trans (B3.mono (by omega))
 by_cases may:ZS b
 case neg=>
  have ee:Qn l n b=2:=by unfold Qn;rw[if_neg (fun hn=>hn ok),if_pos may]
  rw[ee,if_neg may]
  obtain⟨w1',ZwN⟩:∃w,w=w1:=⟨_,rfl⟩
  subst Bp
  have y2:=ZP x3 0
  have ZA:h.size+2<h3.size:=by omega
  have Yq:¬h.size+2=h3.size:=by omega
  unfold YB
  simp -implicitDefEqProofs only[go_sem,↓reduceIte,y2,Yq,ZA]
  exact⟨⟨_,rfl,ZZ.nil _ _ _⟩,(gU.Zk (by omega) _).Yf (by simp;omega) _⟩
 have ee:Qn l n b=Js l n 9:=by unfold Qn;rw[if_neg (fun hn=>hn ok),if_neg (fun hn=>hn may)]
 rw[ee,if_pos may]
 obtain⟨⟨m1,m2⟩,m3,m4⟩:=may
 obtain⟨br,bn⟩:=b
 obtain⟨r,rfl⟩:∃r:Nat,br=r:=⟨br.toNat,by simp at m1;omega⟩
 obtain⟨m,rfl⟩:∃m:Nat,bn=m:=⟨bn.toNat,by simp at m3;omega⟩
 simp only at m1 m2 m3 m4
 unfold Qo
 simp only[Int.toNat_natCast]
 subst Bp
 unfold YB
 have t3:=B3.get (by omega) (b1.get (by omega) t0)
 have t13:=B3.get (by omega) bt1
 obtain⟨g,hg⟩:=Zy (h3.push (.cells [.int .i64 (r:Nat),.int .i64 (m:Nat),.slice p1 ([]:List Vt).length c1].toArray 105):Hp)
 simp -implicitDefEqProofs only[go_sem,↓reduceIte]
 have e3:h3.push (.cells #[Value.int .i64 (r:Nat),.int .i64 (m:Nat),.slice p1 0 c1] 105)=g:=hg.symm
 rw[e3]
 have bg:Zf h3.size h3 g:=by rw[hg];exact Zf.push (Nat.le_refl _) _
 have sg:g.size=h3.size+1:=by rw[hg];simp
 clear e3 hg
 have Bg:Zf h.size h g:=gU.trans (bg.mono (by omega))
 have yG:=bg.get (by omega) x3
 have t4:=bg.get (by omega) t3
 have t14:=bg.get (by omega) t13
 have r0:rd g ⟨h.size,0,none⟩ 2=some [.slice p l.length c,.int .i64 n]:=Zo t4 rfl
 have c0:V.hc g ⟨h.size+1,0,none⟩=some (.int .i64 (r:Nat)):=by rw[Zg t14];rfl
 have xM:V.hc g ⟨h.size+1,1,none⟩=some (.int .i64 (m:Nat)):=by rw[Zg t14];rfl
 have k0:h.size<g.size:=by omega
 have k1:h.size+1<g.size:=by omega
 refine VS.w (g.size) [12,13] (.q 0 (.q 2 (.q 3 (.q 4 (.q 5 (.or 1 (.s 6 (.s 7 (.s 8 (.s 9 (.q 10 (.q 11 (.w 12 (.w 13 .nil)))))))) (.s 6 (.or 1 (.s 7 (.s 8 (.s 9 (.q 10 (.q 11 (.w 12 (.w 13 .nil))))))) (.s 7 (.s 1 (.s 8 (.s 9 (.q 10 (.q 11 (.w 12 (.w 13 .nil)))))))))))))))) mixed (by kernel_rfl) ?_
 simp -implicitDefEqProofs only[go_sem,↓reduceIte,r0,c0,xM,k0,k1]
 refine⟨?_,?_,?_⟩
 ·have o0:ZZ g.size 5 (g.push (.cells (([1]:List Nat).map bv).toArray 5)) (.slice (some ⟨g.size,0,none⟩) 1 1) [1]:=ZZ.made (by decide) (Nat.le_refl _)
  have B0:Zf g.size g ((g.push (.cells (([1]:List Nat).map bv).toArray 5)).push (.cells (([r,m]:List Nat).map nv).toArray 3)):=(Zf.push (Nat.le_refl _) _).Yf (by simp) _
  have o00:=o0.push (.cells (([r,m]:List Nat).map nv).toArray 3)
  have si:NT ((g.push (.cells (([1]:List Nat).map bv).toArray 5)).push (.cells (([r,m]:List Nat).map nv).toArray 3)) (.slice (some ⟨(g.push (.cells (([1]:List Nat).map bv).toArray 5)).size,0,none⟩) 2 2) [r,m]:=Uz _ _
  have e1:(g.push (.cells (([1]:List Nat).map bv).toArray 5)).size=g.size+1:=by simp
  rw[e1]at si
  refine (Vl T _ _ [r,m] si (by simp) (by intro x hx;simp only[List.mem_cons,List.not_mem_nil,or_false]at hx;omega)).use ?_
  rintro w5 h5 ⟨o5,b5⟩
  have BB:=B0.trans (b5.mono B0.size)
  have o1:=o00.Z7 b5 (Nat.le_refl _)
  have s4:=o5.bs
  simp -implicitDefEqProofs only[go_sem,↓reduceIte,BB]
  refine Zv (E:=5) (B:=g.size) Yt Tryz.underlying34 Wh Vb Va o1 BB.size s4 (by rw[Zz];simp) ?_
  intro w6 h6 o6 b6 _
  have B6:Zf g.size g h6:=BB.trans b6
  have DQ:=Bg.trans (B6.mono (by omega))
  have lG:ZZ g.size 5 h6 w6 (1 :: Zw [r,m]):=o6
  simp -implicitDefEqProofs only[go_sem,↓reduceIte,B6]
  refine (Vk T h6 _ w6 n l (1 :: Zw [r,m]) (s.Z7 DQ) hl lG.bs (by simp only[List.length_cons,Zz,List.length_nil];omega) (tk.X9 DQ)).use ?_
  rintro _ h7 ⟨⟨w7,rfl,o7⟩,b7⟩
  have el:(1 :: Zw [r,m]).length=9:=by simp only[List.length_cons,Zz,List.length_nil]
  rw[el]at o7 ⊢
  have B7:Zf g.size g h7:=B6.trans (b7.mono B6.size)
  have Kw:=DQ.trans (b7.mono DQ.size)
  have x7:=B7.get (by omega) yG
  have y7:=ZP x7 0
  have LG:h.size+2<h7.size:=Za x7
  generalize Y0 (1 :: Zw [r,m])=FR at *
  obtain⟨E,hE⟩:=Zy (Js l n 9)
  rw[←hE]at o7 ⊢
  obtain⟨z,hz⟩:∃z:Int,z=if E=0 then n else 0:=⟨_,rfl⟩
  rw[←hz]
  obtain⟨pz,cz,rfl,_⟩:=o7.open
  have o7l:=o7
  simp -implicitDefEqProofs only[go_sem,↓reduceIte,B7,y7,LG]
  refine⟨⟨_,rfl,?_⟩,Kw.Zk (by omega) _⟩
  exact (o7.ZR (by have:=B6.size;omega) _).mono (by have:=B6.size;omega)
 ·have rE:Zf g.size g (g.push (.cells (([r,m]:List Nat).map nv).toArray 3)):=Zf.push (Nat.le_refl _) _
  have o0:ZZ g.size 5 ((g.push (.cells (([r,m]:List Nat).map nv).toArray 3)).push (.cells (([1]:List Nat).map bv).toArray 5)) (.slice (some ⟨(g.push (.cells (([r,m]:List Nat).map nv).toArray 3)).size,0,none⟩) 1 1) [1]:=(ZZ.made (by decide) (Nat.le_refl _)).mono (by simp)
  have B0:Zf g.size g ((g.push (.cells (([r,m]:List Nat).map nv).toArray 3)).push (.cells (([1]:List Nat).map bv).toArray 5)):=rE.Yf (by simp) _
  have si0:NT (g.push (.cells (([r,m]:List Nat).map nv).toArray 3)) (.slice (some ⟨g.size,0,none⟩) 2 2) [r,m]:=Uz _ _
  have si:=si0.Z7 (Zf.push (Nat.le_refl _) (.cells (([1]:List Nat).map bv).toArray 5))
  have e1:(g.push (.cells (([r,m]:List Nat).map nv).toArray 3)).size=g.size+1:=by simp
  rw[e1]at o0
  refine (Vl T _ _ [r,m] si (by simp) (by intro x hx;simp only[List.mem_cons,List.not_mem_nil,or_false]at hx;omega)).use ?_
  rintro w5 h5 ⟨o5,b5⟩
  have BB:=B0.trans (b5.mono B0.size)
  have o1:=o0.Z7 b5 (Nat.le_refl _)
  have s4:=o5.bs
  simp -implicitDefEqProofs only[go_sem,↓reduceIte,BB]
  refine Zv (E:=5) (B:=g.size) Yt Tryz.underlying34 Wh Vb Va o1 BB.size s4 (by rw[Zz];simp) ?_
  intro w6 h6 o6 b6 _
  have B6:Zf g.size g h6:=BB.trans b6
  have DQ:=Bg.trans (B6.mono (by omega))
  have lG:ZZ g.size 5 h6 w6 (1 :: Zw [r,m]):=o6
  simp -implicitDefEqProofs only[go_sem,↓reduceIte,B6]
  refine (Vk T h6 _ w6 n l (1 :: Zw [r,m]) (s.Z7 DQ) hl lG.bs (by simp only[List.length_cons,Zz,List.length_nil];omega) (tk.X9 DQ)).use ?_
  rintro _ h7 ⟨⟨w7,rfl,o7⟩,b7⟩
  have el:(1 :: Zw [r,m]).length=9:=by simp only[List.length_cons,Zz,List.length_nil]
  rw[el]at o7 ⊢
  have B7:Zf g.size g h7:=B6.trans (b7.mono B6.size)
  have Kw:=DQ.trans (b7.mono DQ.size)
  have x7:=B7.get (by omega) yG
  have y7:=ZP x7 0
  have LG:h.size+2<h7.size:=Za x7
  generalize Y0 (1 :: Zw [r,m])=FR at *
  obtain⟨E,hE⟩:=Zy (Js l n 9)
  rw[←hE]at o7 ⊢
  obtain⟨z,hz⟩:∃z:Int,z=if E=0 then n else 0:=⟨_,rfl⟩
  rw[←hz]
  obtain⟨pz,cz,rfl,_⟩:=o7.open
  have o7l:=o7
  simp -implicitDefEqProofs only[go_sem,↓reduceIte,B7,y7,LG]
  refine⟨⟨_,rfl,?_⟩,Kw.Zk (by omega) _⟩
  exact (o7.ZR (by have:=B6.size;omega) _).mono (by have:=B6.size;omega)
 ·have rE:Zf g.size g (g.push (.cells (([r,m]:List Nat).map nv).toArray 3)):=Zf.push (Nat.le_refl _) _
  have si:NT (g.push (.cells (([r,m]:List Nat).map nv).toArray 3)) (.slice (some ⟨g.size,0,none⟩) 2 2) [r,m]:=Uz _ _
  refine (Vl T _ _ [r,m] si (by simp) (by intro x hx;simp only[List.mem_cons,List.not_mem_nil,or_false]at hx;omega)).use ?_
  rintro w5 h5 ⟨o5,b5⟩
  have rF:=rE.trans (b5.mono rE.size)
  have BB:Zf g.size g (h5.push (.cells (([1]:List Nat).map bv).toArray 5)):=rF.Yf rF.size _
  have o1:ZZ g.size 5 (h5.push (.cells (([1]:List Nat).map bv).toArray 5)) (.slice (some ⟨h5.size,0,none⟩) 1 1) [1]:=(ZZ.made (by decide) (Nat.le_refl _)).mono rF.size
  have s4:=o5.bs.Z7 (Zf.push (Nat.le_refl h5.size) (.cells (([1]:List Nat).map bv).toArray 5))
  simp -implicitDefEqProofs only[go_sem,↓reduceIte,rF,BB]
  refine Zv (E:=5) (B:=g.size) Yt Tryz.underlying34 Wh Vb Va o1 BB.size s4 (by rw[Zz];simp) ?_
  intro w6 h6 o6 b6 _
  have B6:Zf g.size g h6:=BB.trans b6
  have DQ:=Bg.trans (B6.mono (by omega))
  have lG:ZZ g.size 5 h6 w6 (1 :: Zw [r,m]):=o6
  simp -implicitDefEqProofs only[go_sem,↓reduceIte,B6]
  refine (Vk T h6 _ w6 n l (1 :: Zw [r,m]) (s.Z7 DQ) hl lG.bs (by simp only[List.length_cons,Zz,List.length_nil];omega) (tk.X9 DQ)).use ?_
  rintro _ h7 ⟨⟨w7,rfl,o7⟩,b7⟩
  have el:(1 :: Zw [r,m]).length=9:=by simp only[List.length_cons,Zz,List.length_nil]
  rw[el]at o7 ⊢
  have B7:Zf g.size g h7:=B6.trans (b7.mono B6.size)
  have Kw:=DQ.trans (b7.mono DQ.size)
  have x7:=B7.get (by omega) yG
  have y7:=ZP x7 0
  have LG:h.size+2<h7.size:=Za x7
  generalize Y0 (1 :: Zw [r,m])=FR at *
  obtain⟨E,hE⟩:=Zy (Js l n 9)
  rw[←hE]at o7 ⊢
  obtain⟨z,hz⟩:∃z:Int,z=if E=0 then n else 0:=⟨_,rfl⟩
  rw[←hz]
  obtain⟨pz,cz,rfl,_⟩:=o7.open
  have o7l:=o7
  simp -implicitDefEqProofs only[go_sem,↓reduceIte,B7,y7,LG]
  refine⟨⟨_,rfl,?_⟩,Kw.Zk (by omega) _⟩
  exact (o7.ZR (by have:=B6.size;omega) _).mono (by have:=B6.size;omega)
theorem Wq (n:Nat):XI n [Value.int .u8 0]=(List.replicate n 0).map bv:=by
 induction n with
 | zero=>rfl
 | succ n ih=>rw[XI,ih];rfl
theorem LH:∀(vs zs:List Value),vs.length≤zs.length→Ym zs 0 vs=vs++zs.drop vs.length
 | [],zs,_=>by cases zs<;>rfl
 | v :: vs,[],h=>by simp at h
 | v :: vs,z :: zs,h=>by
  rw[Ym,LH vs zs (by simpa using h)]
  rfl
theorem EH (key:List Nat):Ym ((List.replicate 64 0).map bv) 0 (((Rc key).map bv).take (min (Rc key).length 64))=(Ur key).map bv:=by
 have:=Wj key
 rw[Nat.min_eq_left this,List.take_of_length_le (by simp),LH _ _ (by simp;omega),List.length_map,←List.map_drop,List.drop_replicate,Ur,List.map_append]
theorem lH (T:World) (h:Hp) (v:Value) (key:List Nat) (w:Nat) (s:Bs h v key) (hk:key.length≤100000) (hw:w<256) (tk:Tk h) :
  Zc Tryz.prog T 83 #[v,.int .u8 w] h fun v' h'=>ZZ h.size 5 h' v' (U2 key w)∧Zf h.size h h':=by
 obtain⟨p,cp,rfl,Uo⟩:=s.open
 have eY:St key:=s.byte
 refine Zc.Zh (args:=[_,_]) Tryz.func83 rfl rfl rfl rfl ?_
 by_cases e64:64<key.length
 ·have yH:64<(key.length:Int):=by omega
  have hK:TE key=Rc key:=by unfold Rc;rw[if_pos e64]
  simp -implicitDefEqProofs only[go_sem,↓reduceIte,yH]
  refine (Gw T _ _ key s hk tk).use ?_
  rintro u g ⟨ou,bg⟩
  have su:=ou.bs
  rw[hK]at su
  simp -implicitDefEqProofs only[go_sem,↓reduceIte]
  have hG:Zf h.size h (g.push (.cells (XI 64 [Value.int .u8 0]).toArray 5)):=bg.add _
  have sK':=su.Z7 (Zf.push (Nat.le_refl g.size) (.cells (XI 64 [Value.int .u8 0]).toArray 5))
  have kl:=Wj key
  refine Lc (o:=0) (dl:=64) (dc:=64) (c:=XI 64 [Value.int .u8 0]) (E':=5) Yt Wh Zb sK'.sl (VA _) (by rw[Wq];simp;omega) ?_
  rw[Wa,Wq,EH]
  have az:Zf h.size h (g.push (.cells ((Ur key).map bv).toArray 5)):=bg.add _
  have Rd:(g.push (.cells ((Ur key).map bv).toArray 5))[g.size]? = some (.cells (((U2 key w).take 0++(Ur key).drop 0).map bv++[]).toArray 5):=by
   rw[List.take_zero,List.drop_zero,List.nil_append,List.append_nil];exact Zb
  simp -implicitDefEqProofs only[go_sem,↓reduceIte]
  refine VS.ZV (fun F' g'=>Zf h.size h g'∧F' 1=.int .u8 w∧F' 5=.slice (some ⟨g.size,0,none⟩) 64 64∧F' 17=.int .i64 64∧∃i:Nat,i≤64∧F' 18=.int .i64 i∧g'[g.size]? = some (.cells (((U2 key w).take i++(Ur key).drop i).map bv++[]).toArray 5))
   (fun F _=>64-(vi (F 18)).toNat) rfl ⟨az,rfl,rfl,rfl,0,by omega,rfl,Rd⟩ ?_
  clear hG az Rd sK'
  rintro F g' ⟨hg,f1,f5,f17,i,hi,f18,hx⟩
  have SI:=Za hx
  have qZ:((U2 key w).take i++(Ur key).drop i).length=64:=by rw[List.length_append,List.length_take,List.length_drop,ZX,XO];omega
  by_cases ZA:i<64
  ·have ZI:(i:Int)<64:=by omega
   have q1:=ZJ (f:=bv) hx (i:=i) (by omega)
   have e0:((U2 key w).take i++(Ur key).drop i).getD i 0=(Ur key).getD i 0:=by
    rw[List.getD_eq_getElem?_getD,List.getElem?_append_right (by rw[List.length_take,ZX];omega),List.length_take,ZX,Nat.min_eq_left (by omega),Nat.sub_self,List.getElem?_drop,Nat.add_zero,←List.getD_eq_getElem?_getD]
   rw[e0]at q1
   unfold bv at q1
   have eX:=IK key w ZA
   have cs:=ZY (f:=bv) hx (i:=i) (by omega) ((U2 key w).getD i 0) rfl
   rw[Rg _ _ i (by rw[ZX];exact ZA) (by rw[ZX,XO])]at cs
   have hZb:=ZF (Om eY) i
   have ox:Unit→Z5 .xor .u8 (((Ur key).getD i 0:Nat):Int) (w:Int)=(((U2 key w).getD i 0:Nat):Int):=fun _=>by rw[eX];exact HF _ _ hZb hw
   have iA:Jg g' ⟨g.size,i,none⟩ (.int .u8 (((U2 key w).getD i 0:Nat):Int))=_:=cs
   simp -implicitDefEqProofs only[go_sem,↓reduceIte,f1,f5,f17,f18,ZI,q1,ox (),iA]
   refine⟨⟨hg.Zk (bg.size) _,f1,f5,f17,i+1,ZA,rfl,ZO hx⟩,?_⟩
   simp only[vi,Zj,↓reduceIte,f18];omega
  ·have YF:¬(i:Int)<64:=by omega
   obtain rfl:i=64:=by omega
   rw[List.take_of_length_le (by rw[ZX];omega),List.drop_of_length_le (by rw[XO];omega),List.append_nil,List.append_nil]at hx
   simp -implicitDefEqProofs only[go_sem,↓reduceIte,f5,f17,f18,YF]
   exact⟨⟨.inr ⟨g.size,64,[],bg.size,by rw[ZX],by rw[List.append_nil];exact hx,by simp[ZX],by rw[ZX];rfl,by rw[ZX];omega⟩,IJ eY hw⟩,hg⟩
 ·have yH:¬64<(key.length:Int):=by omega
  have hK:Rc key=key:=by unfold Rc;rw[if_neg e64]
  have b0:=Zf.refl h.size h
  have su:=s
  have Oz:Bs h (.slice p (Rc key).length cp) (Rc key):=by rw[hK];exact s
  simp -implicitDefEqProofs only[go_sem,↓reduceIte,yH]
  have hG:Zf h.size h (h.push (.cells (XI 64 [Value.int .u8 0]).toArray 5)):=b0.add _
  have hkl:key.length=(Rc key).length:=by rw[hK]
  rw[hkl]
  have sK':=Oz.Z7 (Zf.push (Nat.le_refl h.size) (.cells (XI 64 [Value.int .u8 0]).toArray 5))
  have kl:=Wj key
  refine Lc (o:=0) (dl:=64) (dc:=64) (c:=XI 64 [Value.int .u8 0]) (E':=5) Yt Wh Zb sK'.sl (VA _) (by rw[Wq];simp;omega) ?_
  rw[Wa,Wq,EH]
  have az:Zf h.size h (h.push (.cells ((Ur key).map bv).toArray 5)):=b0.add _
  have Rd:(h.push (.cells ((Ur key).map bv).toArray 5))[h.size]? = some (.cells (((U2 key w).take 0++(Ur key).drop 0).map bv++[]).toArray 5):=by
   rw[List.take_zero,List.drop_zero,List.nil_append,List.append_nil];exact Zb
  simp -implicitDefEqProofs only[go_sem,↓reduceIte]
  refine VS.ZV (fun F' g'=>Zf h.size h g'∧F' 1=.int .u8 w∧F' 5=.slice (some ⟨h.size,0,none⟩) 64 64∧F' 17=.int .i64 64∧∃i:Nat,i≤64∧F' 18=.int .i64 i∧g'[h.size]? = some (.cells (((U2 key w).take i++(Ur key).drop i).map bv++[]).toArray 5))
   (fun F _=>64-(vi (F 18)).toNat) rfl ⟨az,rfl,rfl,rfl,0,by omega,rfl,Rd⟩ ?_
  clear hG az Rd sK'
  rintro F g' ⟨hg,f1,f5,f17,i,hi,f18,hx⟩
  have SI:=Za hx
  have qZ:((U2 key w).take i++(Ur key).drop i).length=64:=by rw[List.length_append,List.length_take,List.length_drop,ZX,XO];omega
  by_cases ZA:i<64
  ·have ZI:(i:Int)<64:=by omega
   have q1:=ZJ (f:=bv) hx (i:=i) (by omega)
   have e0:((U2 key w).take i++(Ur key).drop i).getD i 0=(Ur key).getD i 0:=by
    rw[List.getD_eq_getElem?_getD,List.getElem?_append_right (by rw[List.length_take,ZX];omega),List.length_take,ZX,Nat.min_eq_left (by omega),Nat.sub_self,List.getElem?_drop,Nat.add_zero,←List.getD_eq_getElem?_getD]
   rw[e0]at q1
   unfold bv at q1
   have eX:=IK key w ZA
   have cs:=ZY (f:=bv) hx (i:=i) (by omega) ((U2 key w).getD i 0) rfl
   rw[Rg _ _ i (by rw[ZX];exact ZA) (by rw[ZX,XO])]at cs
   have hZb:=ZF (Om eY) i
   have ox:Unit→Z5 .xor .u8 (((Ur key).getD i 0:Nat):Int) (w:Int)=(((U2 key w).getD i 0:Nat):Int):=fun _=>by rw[eX];exact HF _ _ hZb hw
   have iA:Jg g' ⟨h.size,i,none⟩ (.int .u8 (((U2 key w).getD i 0:Nat):Int))=_:=cs
   simp -implicitDefEqProofs only[go_sem,↓reduceIte,f1,f5,f17,f18,ZI,q1,ox (),iA]
   refine⟨⟨hg.Zk (b0.size) _,f1,f5,f17,i+1,ZA,rfl,ZO hx⟩,?_⟩
   simp only[vi,Zj,↓reduceIte,f18];omega
  ·have YF:¬(i:Int)<64:=by omega
   obtain rfl:i=64:=by omega
   rw[List.take_of_length_le (by rw[ZX];omega),List.drop_of_length_le (by rw[XO];omega),List.append_nil,List.append_nil]at hx
   simp -implicitDefEqProofs only[go_sem,↓reduceIte,f5,f17,f18,YF]
   exact⟨⟨.inr ⟨h.size,64,[],b0.size,by rw[ZX],by rw[List.append_nil];exact hx,by simp[ZX],by rw[ZX];rfl,by rw[ZX];omega⟩,IJ eY hw⟩,hg⟩
theorem BP (T:World) (h:Hp) (v u:Value) (key b:List Nat) (s:Bs h v key) (sb:Bs h u b) (hk:key.length≤10000) (hb:b.length≤10000) (tk:Tk h) :
  Zc Tryz.prog T 63 #[v,u] h fun v' h'=>ZZ h.size 5 h' v' (On key b)∧Zf h.size h h':=by
 have sb0:=sb
 refine Zc.Zh (args:=[_,_]) Tryz.func63 rfl rfl rfl rfl ?_
 simp -implicitDefEqProofs only[go_sem,↓reduceIte]
 refine (lH T h v key 92 s (by omega) (by omega) tk).use ?_
 rintro v1 h1 ⟨o1,b1⟩
 have s1:=b1.size
 simp -implicitDefEqProofs only[go_sem,↓reduceIte]
 refine (lH T h1 v key 54 (s.Z7 b1) (by omega) (by omega) (tk.X9 b1)).use ?_
 rintro v2 h2 ⟨o2,b2⟩
 have s2:=b2.size
 have B2:=b1.trans (b2.mono s1)
 have o1':=o1.Z7 b2 (Nat.le_refl _)
 have l1:=ZX key 92
 have l2:=ZX key 54
 simp -implicitDefEqProofs only[go_sem,↓reduceIte]
 refine Zv (E:=5) (B:=h1.size) Yt Tryz.underlying34 Wh Vb Va o2 s2 (sb.Z7 B2) (by rw[l2];omega) ?_
 intro v3 h3 o3 b3 _
 have s3:=b3.size
 have B3:=B2.trans (b3.mono s1)
 have ZlL:=o1.Z7 (b2.trans b3) (Nat.le_refl _)
 simp -implicitDefEqProofs only[go_sem,↓reduceIte]
 refine (Gw T h3 v3 _ o3.bs (by rw[List.length_append,l2];omega) (tk.X9 B3)).use ?_
 rintro v4 h4 ⟨o4,b4⟩
 have B4:=B3.trans (b4.mono (by omega))
 have o14:=ZlL.Z7 b4 (Nat.le_refl _)
 simp -implicitDefEqProofs only[go_sem,↓reduceIte]
 refine Zv (E:=5) (B:=h.size) Yt Tryz.underlying34 Wh Vb Va o14 B4.size o4.bs (by rw[l1,Jm];omega) ?_
 intro v5 h5 o5 b5 _
 have B5:=B4.trans b5
 simp -implicitDefEqProofs only[go_sem,↓reduceIte]
 refine (Gw T h5 v5 _ o5.bs (by rw[List.length_append,l1,Jm];omega) (tk.X9 B5)).use ?_
 rintro v6 h6 ⟨o6,b6⟩
 simp -implicitDefEqProofs only[go_sem,↓reduceIte]
 exact⟨o6.mono B5.size,B5.trans (b6.mono B5.size)⟩
def LJ (m n:Nat):Int:=if 256<m∨2000<n then 1 else 0
def lI (B:Nat) (h':Hp) (v':Value) (key b:List Nat):Prop:=∃w,v'=.tuple [w,.int .i64 (LJ key.length b.length)].toArray∧ZZ B 5 h' w (if LJ key.length b.length=0 then On key b else [])
theorem fc (T:World) (h:Hp) (v u:Value) (key b:List Nat) (s:Bs h v key) (sb:Bs h u b) (tk:Tk h) :
  Zc Tryz.prog T 68 #[v,u] h fun v' h'=>lI h.size h' v' key b∧Zf h.size h h':=by
 obtain⟨p,cp,rfl,Uo⟩:=s.open
 obtain⟨q,cq,rfl,Ix⟩:=sb.open
 refine Zc.Zh (args:=[_,_]) Tryz.func68 rfl rfl rfl rfl ?_
 unfold lI LJ
 by_cases e1:256<key.length
 ·have gW:256<(key.length:Int):=by omega
  rw[if_pos (.inl e1)]
  simp -implicitDefEqProofs only[go_sem,↓reduceIte,gW]
  exact⟨_,rfl,ZZ.nil _ _ _⟩
 ·have gW:¬256<(key.length:Int):=by omega
  by_cases e2:2000<b.length
  ·have oC:2000<(b.length:Int):=by omega
   rw[if_pos (.inr e2)]
   simp -implicitDefEqProofs only[go_sem,↓reduceIte,gW,oC]
   exact⟨_,rfl,ZZ.nil _ _ _⟩
  ·have oC:¬2000<(b.length:Int):=by omega
   rw[if_neg (by omega)]
   simp -implicitDefEqProofs only[go_sem,↓reduceIte,gW,oC]
   refine (BP T _ _ _ key b s sb (by omega) (by omega) tk).use ?_
   rintro w h1 ⟨o1,b1⟩
   simp -implicitDefEqProofs only[go_sem,↓reduceIte,b1]
   exact⟨_,rfl,o1⟩
theorem EI (T:World) (h:Hp) (v u:Value) (key b:List Nat) (s:Bs h v key) (sb:Bs h u b) (hk:key.length≤256) (hb:b.length≤2000) (tk:Tk h) :
  Zc Tryz.prog T 43 #[v,u] h fun v' h'=>(Bs h' v' ((On key b).take 16)∧Td v')∧Zf h.size h h':=by
 refine Zc.Zh (args:=[_,_]) Tryz.func43 rfl rfl rfl rfl ?_
 simp -implicitDefEqProofs only[go_sem,↓reduceIte]
 refine (fc T _ _ _ key b s sb tk).use ?_
 rintro _ h1 ⟨⟨w,rfl,o1⟩,b1⟩
 have e0:LJ key.length b.length=0:=by unfold LJ;rw[if_neg (by omega)]
 rw[e0,if_pos rfl]at o1
 rw[e0]
 have ml:=Wk key b
 generalize On key b=M at *
 obtain⟨p,c,rfl,hc⟩:=o1.open
 have sM:=o1.bs
 obtain⟨p',c',hv,hh⟩:=sM.Uh
 simp only[Value.slice.injEq]at hv
 obtain⟨rfl,_,rfl⟩:=hv
 obtain⟨bb,ob,rfl,_⟩:=hh (by intro e;rw[e]at ml;cases ml)
 have fin:=Bs.Sr sM (m:=16) (by omega) c
 rw[ml]at hc ⊢
 have yk:(16:Int)≤(c:Int):=by omega
 have ab:¬c=0:=by omega
 simp -implicitDefEqProofs only[go_sem,↓reduceIte,yk,ab,Nat.sub_zero,Nat.zero_mul,b1]
 exact⟨fin,show 16≤c by omega⟩
def lJ (c r u:Nat):List Nat:=[c,r]++Qx u
def EJ (key:List Nat) (c r u:Nat):List Nat:=lJ c r u++(On key (lJ c r u)).take 16
theorem Ns (c r u:Nat):(lJ c r u).length=6:=rfl
theorem Nt (key:List Nat) (c r u:Nat):(EJ key c r u).length=22:=by
 rw[EJ,List.length_append,Ns,List.length_take,Wk];rfl
def UP (kl:Nat) (c r u:Int):Int:=if kl≠32 then 1 else XR c r u
def BQ (B:Nat) (h':Hp) (v':Value) (key:List Nat) (c r u:Int):Prop:=∃w,v'=.tuple [w,.int .i64 (UP key.length c r u)].toArray∧ZZ B 5 h' w (if UP key.length c r u=0 then EJ key c.toNat r.toNat u.toNat else [])
theorem EK {c r u:Int} (h:XR c r u=0):∃c' r' u':Nat,c=c'∧r=r'∧u=u'∧c'<8∧r'<8∧u'≤1048576:=by
 unfold XR at h
 split at h
 ·cases h
 ·exact⟨c.toNat,r.toNat,u.toNat,by omega,by omega,by omega,by omega,by omega,by omega⟩
theorem lK (T:World) (h:Hp) (v:Value) (key:List Nat) (c r u:Int) (s:Bs h v key) (tk:Tk h) :
  Zc Tryz.prog T 72 #[v,.agg (VD c r u).toArray] h fun v' h'=>BQ h.size h' v' key c r u∧Zf h.size h h':=by
 obtain⟨p,cp,rfl,_⟩:=s.open
 refine Zc.Zh (args:=[_,_]) Tryz.func72 rfl rfl rfl rfl ?_
 unfold BQ VD
 by_cases hk:key.length=32
 case neg=>
  have ee:UP key.length c r u=1:=by unfold UP;rw[if_pos hk]
  have RP:¬(key.length:Int)=32:=by omega
  rw[ee]
  simp -implicitDefEqProofs only[go_sem,↓reduceIte,RP]
  exact⟨_,rfl,ZZ.nil _ _ _⟩
 have RP:(key.length:Int)=32:=by omega
 have ee:UP key.length c r u=XR c r u:=by unfold UP;rw[if_neg (by omega)]
 rw[ee]
 simp -implicitDefEqProofs only[go_sem,↓reduceIte,RP]
 refine (Li T _ c r u).use ?_
 rintro _ _ ⟨rfl,rfl⟩
 unfold VD
 by_cases q:XR c r u=0
 case neg=>
  simp -implicitDefEqProofs only[go_sem,↓reduceIte,q]
  exact⟨_,rfl,ZZ.nil _ _ _⟩
 obtain⟨c,r,u,rfl,rfl,rfl,hc,hr,hu⟩:=EK q
 rw[q]
 have ec:(c:Int)%256=(c:Int):=by omega
 have er:(r:Int)%256=(r:Int):=by omega
 simp only[Int.toNat_natCast]
 simp -implicitDefEqProofs only[go_sem,↓reduceIte,ec,er]
 obtain⟨h1,Yv⟩:=Zy ((h.push (.cells [Value.int .i64 c,.int .i64 r,.int .i64 u].toArray 79)).push (.cells [Value.int .i64 c,.int .i64 r,.int .i64 u].toArray 79):Hp)
 have b1:Zf h.size h h1:=by rw[Yv];exact ((Zf.refl _ _).add _).add _
 have s1:h1.size=h.size+1+1:=by rw[Yv];simp
 rw[←s1,←Yv]
 clear Yv
 have Io:∀x∈[c,r],x<256:=by
  intro x hx
  simp only[List.mem_cons,List.not_mem_nil,or_false]at hx
  omega
 have o2:ZZ h1.size 5 (h1.push (.cells (([c,r]:List Nat).map bv).toArray 5)) (.slice (some ⟨h1.size,0,none⟩) 2 2) [c,r]:=ZZ.made Io (Nat.le_refl _)
 have B2:Zf h1.size h1 (h1.push (.cells (([c,r]:List Nat).map bv).toArray 5)):=Zf.push (Nat.le_refl _) _
 refine (av T _ h1.size _ [c,r] u o2 (by simp) (by simp) (by omega)).use ?_
 rintro w3 h3 ⟨o3,b3⟩
 have B3:=B2.trans b3
 have gU:Zf h.size h h3:=b1.trans (B3.mono (by omega))
 have o3':ZZ h1.size 5 h3 w3 (lJ c r u):=o3
 have gl:=Ns c r u
 unfold EJ
 generalize lJ c r u=G at *
 simp -implicitDefEqProofs only[go_sem,↓reduceIte]
 rw[←RP]
 refine (EI T h3 _ w3 key G (s.Z7 gU) o3'.bs (by omega) (by omega) (tk.X9 gU)).use ?_
 rintro w4 h4 ⟨⟨s4,_⟩,b4⟩
 have s3:=B3.size
 have o34:=o3'.Z7 b4 (Nat.le_refl _)
 have Bh4:=gU.trans (b4.mono gU.size)
 simp -implicitDefEqProofs only[go_sem,↓reduceIte]
 refine Zv (E:=5) (B:=h1.size) Yt Tryz.underlying34 Wh Vb Va o34 (by have:=b4.size;omega) s4 (by rw[gl,List.length_take];omega) ?_
 intro w5 h5 o5 b5 _
 have Bh5:=Bh4.trans (b5.mono (by omega))
 simp -implicitDefEqProofs only[go_sem,↓reduceIte,Bh5]
 exact⟨_,rfl,o5.mono (by omega)⟩
def Gx:List Value:=VD 0 0 0
def JT (key l:List Nat):Int:=if key.length≠32∨l.length≠22 then 1 else if (On key (l.take 6)).take 16≠l.drop 6 then 6 else XR (l.getD 0 0:Nat) (l.getD 1 0:Nat) (Xs l 2:Nat)
def Gy (key l:List Nat):List Value:=if JT key l=0 then VD (l.getD 0 0:Nat) (l.getD 1 0:Nat) (Xs l 2:Nat) else Gx
theorem LM (T:World) (h:Hp) (v u:Value) (key l:List Nat) (s:Bs h v key) (sl:Bs h u l) (cu:Td u) (tk:Tk h) :
  Zc Tryz.prog T 23 #[v,u] h fun v' h'=>v'=.tuple [.agg (Gy key l).toArray,.int .i64 (JT key l)].toArray∧Zf h.size h h':=by
 obtain⟨p,cp,rfl,_⟩:=s.open
 obtain⟨q,cq,rfl,hq⟩:=sl.Uh
 refine Zc.Zh (args:=[_,_]) Tryz.func23 rfl rfl rfl rfl ?_
 by_cases hk:key.length=32
 case neg=>
  have ee:JT key l=1:=by unfold JT;rw[if_pos (.inl hk)]
  have RP:¬(key.length:Int)=32:=by omega
  unfold Gy
  rw[ee]
  unfold Gx VD
  simp +contextual -implicitDefEqProofs only[go_sem,↓reduceIte,RP]
  (repeat' (first|exact Zf.refl _ _|assumption|refine Zf.add ?_ _|refine Zf.Zk ?_ (by first|omega|(simp;omega)) _|refine Zf.trans (by assumption) ?_))
 have RP:(key.length:Int)=32:=by omega
 by_cases hl:l.length=22
 case neg=>
  have ee:JT key l=1:=by unfold JT;rw[if_pos (.inr hl)]
  have DL:¬(l.length:Int)=22:=by omega
  unfold Gy
  rw[ee]
  unfold Gx VD
  simp +contextual -implicitDefEqProofs only[go_sem,↓reduceIte,RP,DL]
  (repeat' (first|exact Zf.refl _ _|assumption|refine Zf.add ?_ _|refine Zf.Zk ?_ (by first|omega|(simp;omega)) _|refine Zf.trans (by assumption) ?_))
 have DL:(l.length:Int)=22:=by omega
 obtain⟨b,o,rfl,hb,YL⟩:=hq (by intro e;rw[e]at hl;cases hl)
 have Qa:22≤cq:=by have:l.length≤cq:=cu;omega
 have h6c:(6:Int)≤(cq:Int):=by omega
 have ab:¬cq=0:=by omega
 have hc6:¬cq=6:=by omega
 obtain⟨y0,dS⟩:∃y:Int,y=((l.getD 0 0:Nat):Int):=⟨_,rfl⟩
 obtain⟨yI,Gl⟩:∃y:Int,y=((l.getD 1 0:Nat):Int):=⟨_,rfl⟩
 obtain⟨y2',hy2⟩:∃y:Int,y=((l.getD 2 0:Nat):Int):=⟨_,rfl⟩
 obtain⟨y3,hy3⟩:∃y:Int,y=((l.getD 3 0:Nat):Int):=⟨_,rfl⟩
 obtain⟨y4,hy4⟩:∃y:Int,y=((l.getD 4 0:Nat):Int):=⟨_,rfl⟩
 obtain⟨y5,hy5⟩:∃y:Int,y=((l.getD 5 0:Nat):Int):=⟨_,rfl⟩
 obtain⟨yY,hyY⟩:∃y:Int,y=((Xs l 2:Nat):Int):=⟨_,rfl⟩
 have z0:=ZF sl.byte 0
 have z1:=ZF sl.byte 1
 have z2:=ZF sl.byte 2
 have z3:=ZF sl.byte 3
 have z4:=ZF sl.byte 4
 have z5:=ZF sl.byte 5
 have eo:Unit→Z5 .or .i64 (Z5 .or .i64 (Z5 .or .i64 (Yw .i64 y2' 24) (Yw .i64 y3 16)) (Yw .i64 y4 8)) y5=yY:=fun _=>by
  rw[hy2,hy3,hy4,hy5,hyY];exact H7 z2 z3 z4 z5
 have yb:(0≤y0∧y0<256)∧(0≤yI∧yI<256)∧(0≤y2'∧y2'<256)∧(0≤y3∧y3<256)∧(0≤y4∧y4<256)∧(0≤y5∧y5<256):=by
  rw[dS,Gl,hy2,hy3,hy4,hy5];omega
 obtain⟨⟨ya1,ya2⟩,⟨ya3,ya4⟩,⟨ya5,ya6⟩,⟨ya7,ya8⟩,⟨ya9,ZwS⟩,ZwT,ZwU⟩:=yb
 have ee:JT key l=if (On key (l.take 6)).take 16≠l.drop 6 then 6 else XR y0 yI yY:=by
  rw[dS,Gl,hyY];unfold JT;rw[if_neg (by omega)]
 have eT:Gy key l=if JT key l=0 then VD y0 yI yY else Gx:=by rw[dS,Gl,hyY];rfl
 have fe:∀i,i<22→V.hc h ⟨b,o+i,none⟩=some (.int .u8 (l.getD i 0:Nat)):=fun i hi=>YL i (by omega)
 have q0:=fe 0 (by omega)
 have q1:=fe 1 (by omega)
 have q2:=fe 2 (by omega)
 have q3:=fe 3 (by omega)
 have q4:=fe 4 (by omega)
 have q5:=fe 5 (by omega)
 rw[←dS]at q0
 rw[←Gl]at q1
 rw[←hy2]at q2
 rw[←hy3]at q3
 rw[←hy4]at q4
 rw[←hy5]at q5
 obtain⟨h1,Yv⟩:=Zy (h.push (.cells Gx.toArray 79):Hp)
 have b1:Zf h.size h h1:=by rw[Yv];exact Zf.push (Nat.le_refl _) _
 have s1:h1.size=h.size+1:=by rw[Yv];simp
 have x1:h1[h.size]? = some (.cells Gx.toArray 79):=by rw[Yv];exact Zb
 have e1:h.push (.cells #[Value.int .i64 0,.int .i64 0,.int .i64 0] 79)=h1:=Yv.symm
 rw[hl]at sl YL ⊢
 simp -implicitDefEqProofs only[go_sem,↓reduceIte,RP,DL]
 rw[e1]
 clear e1 Yv
 have sl1:=sl.Z7 b1
 have s61:Bs h1 (.slice (some ⟨b,o,none⟩) 6 cq) (l.take 6):=by
  rw[←hl]at sl1;exact Bs.Sr sl1 (by omega) cq
 have t6:(l.take 6).length≤2000:=by rw[List.length_take];omega
 obtain⟨M,hM⟩:=Zy ((On key (l.take 6)).take 16)
 have ml:M.length≤140737488355328:=by rw[hM,List.length_take];omega
 rw[←hM]at ee
 refine VS.mono (N:=fun F g=>Zf h1.size h1 g∧F 1=.slice (some ⟨b,o,none⟩) 22 cq∧F 4=.pointer (some ⟨h.size,0,none⟩)∧F 24=.bool (!decide (M=l.drop 6))) ?_ ?_ (fun _ _ _ h=>h) (fun _ _ h=>h)
 ·refine VS.w (h1.size) [] (.q 0 (.q 1 (.q 2 (.q 4 (.q 5 (.s 3 (.s 6 (.q 7 .nil)))))))) mixed (by kernel_rfl) ?_
  simp -implicitDefEqProofs only[go_sem,↓reduceIte,h6c,ab,hc6,Nat.sub_zero,Nat.zero_mul]
  rw[←RP]
  refine (EI T h1 _ _ key (l.take 6) (s.Z7 b1) s61 (by omega) t6 (tk.X9 b1)).use ?_
  rintro w h2 ⟨⟨s2,_⟩,b2⟩
  rw[←hM]at s2
  have sl2:=VL (sl1.Z7 b2) (k:=6) (by omega) hl (cq-6)
  simp -implicitDefEqProofs only[go_sem,↓reduceIte,b2]
  refine (H5 T h2 w _ M (l.drop 6) s2 sl2 ml).pure ?_
  simp -implicitDefEqProofs only[go_sem,↓reduceIte,b2]
 rintro F g ⟨bg,f1,f4,f24⟩
 have Bg:=b1.trans (bg.mono (by omega))
 have k0:g[h.size]? = some (.cells Gx.toArray 79):=bg.get (by omega) x1
 have k1:rd g ⟨h.size,0,none⟩ 3=some Gx:=Zo k0 rfl
 have k2:=ZP k0 0
 have SI:=Za k0
 clear hM
 unfold Gx VD at *
 by_cases hm:M=l.drop 6
 case neg=>
  have hd:decide (M=l.drop 6)=false:=decide_eq_false hm
  rw[hd]at f24
  rw[if_pos hm]at ee
  rw[eT,ee]
  simp +contextual -implicitDefEqProofs only[go_sem,↓reduceIte,f1,f4,f24,k1,k2]
  exact Bg.Zk (Nat.le_refl _) _
 have hd:decide (M=l.drop 6)=true:=decide_eq_true hm
 rw[hd]at f24
 rw[if_neg (fun hn=>hn hm)]at ee
 have e0:V.hc g ⟨b,o,none⟩=some (.int .u8 y0):=by rw[Bg.hc (by exact hb)];exact q0
 have e1:V.hc g ⟨b,o+1,none⟩=some (.int .u8 yI):=by rw[Bg.hc (by exact hb)];exact q1
 have e2:V.hc g ⟨b,o+2,none⟩=some (.int .u8 y2'):=by rw[Bg.hc (by exact hb)];exact q2
 have e3:V.hc g ⟨b,o+3,none⟩=some (.int .u8 y3):=by rw[Bg.hc (by exact hb)];exact q3
 have e4:V.hc g ⟨b,o+4,none⟩=some (.int .u8 y4):=by rw[Bg.hc (by exact hb)];exact q4
 have e5:V.hc g ⟨b,o+5,none⟩=some (.int .u8 y5):=by rw[Bg.hc (by exact hb)];exact q5
 rw[eT,ee]
 clear dS Gl hy2 hy3 hy4 hy5 hyY
 have hbg:b<g.size:=Nat.lt_of_lt_of_le hb Bg.size
 simp -implicitDefEqProofs only[go_sem,↓reduceIte,f1,f4,f24]
 refine VS.w (g.size) [32] (.q 0 (.q 1 (.q 2 (.q 3 (.q 4 (.q 5 (.q 6 (.q 7 (.q 8 (.q 9 (.q 10 (.q 11 (.q 12 (.q 13 (.q 14 (.q 15 (.q 16 (.q 17 (.q 18 (.q 19 (.q 20 (.q 21 (.q 22 (.q 23 (.q 24 (.q 25 (.q 26 (.q 27 (.q 28 (.q 29 (.q 30 (.s 31 (.w 32 .nil))))))))))))))))))))))))))))))))) mixed (by kernel_rfl) ?_
 simp -implicitDefEqProofs only[go_sem,↓reduceIte,f1,f4,hbg,e0,e1,e2,e3,e4,e5,eo ()]
 refine (Li T _ y0 yI yY).use ?_
 rintro _ _ ⟨rfl,rfl⟩
 unfold VD
 obtain⟨E,hE⟩:=Zy (XR y0 yI yY)
 rw[←hE]
 by_cases q:E=0
 ·rw[if_pos q]
  simp +contextual -implicitDefEqProofs only[go_sem,↓reduceIte,q,f1,f4,k1,k2,SI]
  (repeat' (first|exact Zf.refl _ _|assumption|refine Zf.add ?_ _|refine Zf.Zk ?_ (by first|omega|(simp;omega)) _|refine Zf.trans (by assumption) ?_))
 ·rw[if_neg q]
  simp +contextual -implicitDefEqProofs only[go_sem,↓reduceIte,q,f1,f4,k1,k2,SI]
  (repeat' (first|exact Zf.refl _ _|assumption|refine Zf.add ?_ _|refine Zf.Zk ?_ (by first|omega|(simp;omega)) _|refine Zf.trans (by assumption) ?_))
def XF (s a i:Nat) (n:Int):Int:=if 256<s∨256<a∨256<i∨n<0∨512<n then 1 else 0
theorem ff {p:Option Addr} {m c k c' b:Nat} (h:ZL (.slice p m c)=some b) (hc:c'≠0):ZL (.slice p k c')=some b:=by
 cases p with
 | none=>simp[ZL]at h
 | some a=>
  simp only[ZL]at h ⊢
  split at h
  ·cases h
  ·rw[if_neg hc];exact h
theorem lL {p:Option Addr} {m c b:Nat} (h:ZL (.slice p m c)=some b):c≠0:=by
 cases p with
 | none=>simp[ZL]at h
 | some a=>
  simp only[ZL]at h
  split at h
  ·cases h
  ·assumption
def aQ (B:Nat) (h':Hp) (v':Value) (Xt U3 info:List Nat) (n:Int):Prop:=∃w,v'=.tuple [w,.int .i64 (XF Xt.length U3.length info.length n)].toArray∧Td w∧Bs h' w (if XF Xt.length U3.length info.length n=0 then Lu Xt U3 info n.toNat else [])∧∀b,ZL w=some b→B≤b
theorem LN (T:World) (h:Hp) (vs va vi':Value) (Xt U3 info:List Nat) (n:Int) (ss:Bs h vs Xt) (sa:Bs h va U3) (si:Bs h vi' info) (tk:Tk h) :
  Zc Tryz.prog T 36 #[vs,va,vi',.int .i64 n] h fun v' h'=>aQ h.size h' v' Xt U3 info n∧Zf h.size h h':=by
 obtain⟨p1,c1,rfl,_⟩:=ss.open
 obtain⟨p2,c2,rfl,_⟩:=sa.open
 obtain⟨p3,c3,rfl,_⟩:=si.open
 refine Zc.Zh (args:=[_,_,_,_]) Tryz.func36 rfl rfl rfl rfl ?_
 unfold aQ
 by_cases e1:256<Xt.length
 ·have gW:256<(Xt.length:Int):=by omega
  have ee:XF Xt.length U3.length info.length n=1:=by unfold XF;rw[if_pos (.inl e1)]
  rw[ee]
  simp -implicitDefEqProofs only[go_sem,↓reduceIte,gW]
  exact⟨_,rfl,Nat.le_refl _,(ZZ.nil 0 5 _).bs,fun b hb=>by simp[ZL]at hb⟩
 have gW:¬256<(Xt.length:Int):=by omega
 by_cases e2:256<U3.length
 ·have oC:256<(U3.length:Int):=by omega
  have ee:XF Xt.length U3.length info.length n=1:=by unfold XF;rw[if_pos (.inr (.inl e2))]
  rw[ee]
  simp -implicitDefEqProofs only[go_sem,↓reduceIte,gW,oC]
  exact⟨_,rfl,Nat.le_refl _,(ZZ.nil 0 5 _).bs,fun b hb=>by simp[ZL]at hb⟩
 have oC:¬256<(U3.length:Int):=by omega
 by_cases e3:256<info.length
 ·have e3':256<(info.length:Int):=by omega
  have ee:XF Xt.length U3.length info.length n=1:=by unfold XF;rw[if_pos (.inr (.inr (.inl e3)))]
  rw[ee]
  simp -implicitDefEqProofs only[go_sem,↓reduceIte,gW,oC,e3']
  exact⟨_,rfl,Nat.le_refl _,(ZZ.nil 0 5 _).bs,fun b hb=>by simp[ZL]at hb⟩
 have e3':¬256<(info.length:Int):=by omega
 by_cases e4:n<0
 ·have ee:XF Xt.length U3.length info.length n=1:=by unfold XF;rw[if_pos (.inr (.inr (.inr (.inl e4))))]
  rw[ee]
  simp -implicitDefEqProofs only[go_sem,↓reduceIte,gW,oC,e3',e4]
  exact⟨_,rfl,Nat.le_refl _,(ZZ.nil 0 5 _).bs,fun b hb=>by simp[ZL]at hb⟩
 by_cases e5:512<n
 ·have ee:XF Xt.length U3.length info.length n=1:=by unfold XF;rw[if_pos (.inr (.inr (.inr (.inr e5))))]
  rw[ee]
  simp -implicitDefEqProofs only[go_sem,↓reduceIte,gW,oC,e3',e4,e5]
  exact⟨_,rfl,Nat.le_refl _,(ZZ.nil 0 5 _).bs,fun b hb=>by simp[ZL]at hb⟩
 have ee:XF Xt.length U3.length info.length n=0:=by unfold XF;rw[if_neg (by omega)]
 obtain⟨m,rfl⟩:∃m:Nat,n=m:=⟨n.toNat,by omega⟩
 rw[ee,Int.toNat_natCast]
 simp -implicitDefEqProofs only[go_sem,↓reduceIte,gW,oC,e3',e4,e5]
 refine (BP T _ _ _ U3 Xt sa ss (by omega) (by omega) tk).use ?_
 rintro vk h1 ⟨ok,b1⟩
 have s1:=b1.size
 obtain⟨key,rG⟩:=Zy (On U3 Xt)
 rw[←rG]at ok
 have kl:key.length=32:=by rw[rG];exact Wk _ _
 have hm:m≤512:=by omega
 have eS:Lu Xt U3 info m=(Wl key info 16).take m:=by rw[Lu,rG]
 have dt:∀i,m≤32*i→i≤16→(Wl key info 16).take m=(Wl key info i).take m:=fun i h1 h2=>Lt key info m i 16 h1 h2
 rw[eS]
 clear eS rG
 simp -implicitDefEqProofs only[go_sem,↓reduceIte]
 refine VS.ZV (fun F g=>Zf h1.size h1 g∧F 2=.slice p3 info.length c3∧F 3=.int .i64 m∧F 10=vk∧∃i:Nat,32*i<m+32∧F 13=.int .i64 ((i+1:Nat):Int)∧ZZ h1.size 5 g (F 11) (Wl key info i)∧ZZ h1.size 5 g (F 12) (SJ key info i)∧∀b,ZL (F 12)=some b→¬ZL (F 11)=some b)
  (fun F _=>m+32-BN (F 11)) rfl ⟨Zf.refl _ _,rfl,rfl,rfl,0,by omega,rfl,ZZ.nil _ _ _,ZZ.nil _ _ _,fun b hb=>by cases hb⟩ ?_
 rintro F g ⟨hg,f2,f3,f10,i,hi,f13,oa,ot,ZdM⟩
 have SI:=hg.size
 have Bg:=b1.trans (hg.mono s1)
 obtain⟨pa,ca,f11,hca⟩:=oa.open
 have al:=Us key info i
 rw[al]at f11 hca
 by_cases ZA:32*i<m
 ·have ZI:((32*i:Nat):Int)<(m:Int):=by omega
  have tl:=kr key info i
  have i16:i≤16:=by omega
  have eT:SJ key info (i+1)=On key (SJ key info i++info++[(i+1)%256]):=rfl
  have eA:Wl key info (i+1)=Wl key info i++SJ key info (i+1):=rfl
  obtain⟨lt,hlT⟩:∃x,x=SJ key info i:=⟨_,rfl⟩
  rw[←hlT]at ot tl eT
  have T6:(i+1)%256<256:=Nat.mod_lt _ (by decide)
  obtain⟨X,hX⟩:=Zy ((i+1)%256)
  rw[←hX]at eT T6
  have ex:((i+1:Nat):Int)%256=(X:Int):=by rw[hX];rfl
  clear hX hlT
  obtain⟨xi,uD⟩:∃x:Int,x=((i+1:Nat):Int):=⟨_,rfl⟩
  rw[←uD]at ex f13
  simp -implicitDefEqProofs only[go_sem,↓reduceIte,f2,f3,f10,f11,f13,ZI,ex]
  refine JN (E:=5) (B:=h1.size) Yt Tryz.underlying34 Wh Vb Va ot SI (si.Z7 Bg) (by omega) ?_
  intro w2 g2 o2 b2 bt2 bk2
  have s2:=b2.size
  have oa2:=oa.MT bt2 (fun b hb e=>ZdM b e hb)
  have ol2:(lt++info).length≤400:=by rw[List.length_append];omega
  have ZlO:∀b,ZL w2=some b→¬ZL (F 11)=some b:=fun b hb e=>by
   rcases bk2 b hb with q|q
   ·exact ZdM b q e
   ·have:=oa.own.lt b e;omega
  simp -implicitDefEqProofs only[go_sem,↓reduceIte,f2,f3,f10,f13,ex]
  refine JN (E:=5) (B:=h1.size) Yt Tryz.underlying34 Wh Vb Va (o2.push _) (by simp;omega) (Bs.one T6 1) (by simp only[List.length_singleton];omega) ?_
  intro w3 g3 o3 b3 bt3 bk3
  have s3:=b3.size
  simp only[Array.size_push]at s3 bk3
  have oa3:=(oa2.push (.cells [Value.int .u8 ((X:Nat):Int)].toArray 5)).MT bt3 (fun b hb e=>ZlO b e hb)
  have Bg3:Zf h1.size h1 g3:=((hg.trans b2).Yf (by omega) _).trans b3
  have B3:=b1.trans (Bg3.mono s1)
  have ok3:=ok.Z7 Bg3 (Nat.le_refl _)
  simp -implicitDefEqProofs only[go_sem,↓reduceIte,f2,f3,f10,f13]
  refine (BP T g3 vk w3 key _ ok3.bs o3.bs (by omega) (by rw[List.length_append];simp only[List.length_singleton];omega) (tk.X9 B3)).use ?_
  rintro w4 g4 ⟨o4,b4⟩
  rw[←eT]at o4
  have s4:=b4.size
  have oa4:=oa3.Z7 b4 (Nat.le_refl _)
  have Bg4:=Bg3.trans (b4.mono (by omega))
  rw[f11]at oa4
  have tl1:=VG key info i
  simp -implicitDefEqProofs only[go_sem,↓reduceIte,f2,f3,f10,f11,f13]
  refine JN (E:=5) (B:=h1.size) Yt Tryz.underlying34 Wh Vb Va oa4 Bg4.size o4.bs (by rw[al,tl1];omega) ?_
  intro w5 g5 o5 b5 bt5 bk5
  have s5:=b5.size
  obtain⟨p5,c5,rfl,_⟩:=o5.open
  have yJ:∀b,ZL w4=some b→¬ZL (F 11)=some b:=fun b hb e=>by
   have q1:=o4.own.ZD b hb
   have q2:=oa3.own.lt b e
   omega
  rw[f11]at yJ
  have o4':=(o4.mono (show h1.size≤g3.size by omega)).MT bt5 (fun b hb e=>yJ b hb e)
  simp -implicitDefEqProofs only[go_sem,↓reduceIte,f2,f3,f10,f13]
  refine⟨⟨Bg4.trans b5,f2,f3,f10,i+1,by omega,?_,?_,o4',fun b hb e=>?_⟩,?_⟩
  ·show Value.int .i64 _=_
   rw[uD];rfl
  ·rw[eA];exact o5
  ·have e':ZL (Value.slice p5 (Wl key info i++SJ key info (i+1)).length c5)=some b:=e
   rcases bk5 b e' with q|q
   ·exact yJ b hb q
   ·have:=o4.own.lt b hb;omega
  ·simp only[BN,Zj,↓reduceIte,Nat.reduceEqDiff,f11,List.length_append,al,tl1];omega
 ·have YF:¬((32*i:Nat):Int)<(m:Int):=by omega
  have e6:=dt i (by omega) (by omega)
  rw[e6]
  have oab:=oa.bs
  have oaB:=oa.own.ZD
  rw[f11]at oab oaB
  rw[←al]at oab
  have gM:(m:Int)≤(ca:Int):=by omega
  have hm0:(0:Int)≤(m:Int):=by omega
  have fin:=Bs.Sr oab (m:=m) (by rw[al];omega) m
  simp -implicitDefEqProofs only[go_sem,↓reduceIte,f2,f3,f11,YF,gM,hm0,Bg]
  exact⟨_,rfl,Nat.le_refl _,fin,fun b hb=>Nat.le_trans (by omega) (oaB b (ff hb (by have:=lL hb;omega)))⟩
def ZdN (bf:List Nat) (k c s n v:Int) (a b:Nat):List Nat:=((bf++Zw [k.toNat,c.toNat,s.toNat,n.toNat,v.toNat])++Qx a)++Qx b
def ZdO (bf:List Nat) (k c s n v:Int) (a b:Nat):List Nat:=TE (ZdN bf k c s n v a b)
structure Qc where
 k:Int
 c:Int
 s:Int
 n:Int
 v:Int
structure Etv where
 x:Qc
 a:Int
 b:Int
 sum:List Nat
structure Chn where
 cs:List Value
 sum:List Nat
 out:List Etv
def Vm (cs:List Value) (x:Qc):ZcW:=UN cs x.k.toNat x.c.toNat x.s.toNat x.n.toNat x.v.toNat
def PB (cs:List Value) (x:Qc):Int:=Ni cs x.k x.c x.s x.n x.v
def ZlT (cs:List Value) (sum:List Nat) (x:Qc):List Nat:=ZdO sum x.k x.c x.s x.n x.v (Vm cs x).code.toNat (Vm cs x).val.toNat
theorem fg {cs:List Value} {x:Qc} (h:PB cs x=0):Qj cs=false∧YJ x.k x.c x.s x.n x.v=0:=by
 unfold PB Ni at h
 split at h
 ·cases h
 ·rename_i q
  exact⟨by simpa using q,h⟩
theorem EL:∀{ks:List (Option IntKind)} {vs:List Value} (i:Nat) {k:Option IntKind},Yo ks vs=true→ks[i]? = some k→∃v,nth vs i=some v∧Q9 k v=true:=by
 intro ks
 induction ks with
 | nil=>intro vs i k _ h;simp at h
 | cons a ks ih=>
  intro vs i k hf hk
  cases vs with
  | nil=>simp[Yo]at hf
  | cons x vs=>
   simp only[Yo,Bool.and_eq_true]at hf
   cases i with
   | zero=>simp only[List.getElem?_cons_zero,Option.some.injEq]at hk;subst hk;exact⟨x,rfl,hf.1⟩
   | succ i=>exact ih i hf.2 (by simpa using hk)
theorem BR {cs:List Value} (hf:Yo XT cs=true):∀i,i<32→nth cs i=some (.int .i64 (ci cs i)):=by
 intro i hi
 have:∀i<32,XT[i]? = some (some .i64):=by decide
 obtain⟨v,h1,h2⟩:=EL i hf (this i hi)
 unfold ci
 rw[h1]
 cases v<;>simp[Q9]at h2
 rw[h2]
theorem EM {cs:List Value} (hf:Yo XT cs=true):∀i,32≤i→i<40→nth cs i=some (.bool (cb cs i)):=by
 intro i h1 h2
 have:∀j<8,XT[32+j]? = some none:=by decide
 have e:=this (i-32) (by omega)
 rw[show 32+(i-32)=i by omega]at e
 obtain⟨v,h1,h2⟩:=EL i hf e
 unfold cb
 rw[h1]
 cases v<;>simp[Q9]at h2
 rfl
def lP (st:Chn) (e:Etv):Prop:=¬PB st.cs e.x=0∨¬((Vm st.cs e.x).code=e.a∧(Vm st.cs e.x).val=e.b)∨¬ZlT st.cs st.sum e.x=e.sum
instance (st:Chn) (e:Etv):Decidable (lP st e):=by unfold lP;infer_instance
variable {Q Q':Value→List Nat→Prop}
end Go.Proofs.YtpomedigibbeeaaGreatDoor
namespace Go.Proofs.YtpomedigibbeeaaGreatDoor
open Go Go.V
set_option linter.unusedSimpArgs false
set_option linter.unusedVariables false
set_option maxRecDepth 100000
theorem rH {cs:List Value} (hf:Yo XT cs=true) (x:Qc):∃(D:List Value) (a b:Int),doL cs x.k x.c x.s x.n x.v=[.agg D.toArray,.agg [.int .i64 a,.int .i64 b].toArray,.int .i64 (PB cs x)]∧Yo XT D=true∧(PB cs x=0→D=(Vm cs x).cells∧a=(Vm cs x).code∧b=(Vm cs x).val):=by
 unfold doL PB Vm
 by_cases e:Ni cs x.k x.c x.s x.n x.v=0
 ·rw[if_pos e]
  refine⟨_,_,_,by rw[e],?_,fun _=>⟨rfl,rfl,rfl⟩⟩
  have e2:YJ x.k x.c x.s x.n x.v=0:=(fg (cs:=cs) (x:=x) e).2
  obtain⟨k,c,s,n,v,e1,e2,e3,e4,e5,y1,y2,y3,y4,y5⟩:=Pk e2
  rw[e1,e2,e3,e4,e5]
  exact dV hf _ _ _ _ _ (by simpa using y4) (by simpa using y2)
 ·rw[if_neg e]
  exact⟨_,_,_,rfl,rfl,fun h=>absurd h e⟩
end Go.Proofs.YtpomedigibbeeaaGreatDoor
