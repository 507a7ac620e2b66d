/- Part Chw. -/
import Derived.Test.YtnhfdnlcpdbjlaaGreatDoorTab
import Derived.Test.YtnhfdnlcpdbjlaaGreatDoorW18
import Derived.Test.YtnhfdnlcpdbjlaaGreatDoorBytes
import Derived.Test.YtnhfdnlcpdbjlaaGreatDoorLchks
import Derived.Test.YtnhfdnlcpdbjlaaGreatDoorW12
import Derived.Test.YtnhfdnlcpdbjlaaGreatDoorPik
import Derived.Test.YtnhfdnlcpdbjlaaGreatDoorW14
import Derived.Test.YtnhfdnlcpdbjlaaGreatDoorVst
open Go.Value renaming int→H,slice→R,pointer→aF,agg→a2
open Go.IntKind renaming i64→J,u32→S,u8→am
open Go.Obj renaming cells→O
open Go.Proofs.Tryz renaming underlying34→an,prog→a0
open List renaming length→t,getD_eq_getElem?_getD→aa,append_nil→au,length_take→aw,length_append→aI,getElem?_eq_getElem→aX,take_of_length_le→a3,length_cons→a4,drop_of_length_le→a5,length_nil→a7,getElem?_append_right→a8,length_singleton→ba,length_drop→bj,not_mem_nil→bk,mem_cons→bl,nil_append→bo,take_zero→bz,getElem?_drop→bA,replicate→b8,drop_zero→b9,flatMap_append→cc,append_assoc→cf,getElem?_map→ck,flatMap_cons→co,flatMap_nil→cr
open Nat renaming le_refl→Z,div_eq_of_lt→bc,min_eq_left→bw,sub_self→bx,sub_zero→bR,zero_mul→bS,lt_of_lt_of_le→cd,add_zero→cn
open Int renaming toNat_natCast→bD
open Option renaming some→Y,none→ak
open Array renaming getElem?_push→a1,getElem?_setIfInBounds→a6,size_setIfInBounds→bG
open Go renaming Value→aU,World→a9
namespace Go.Proofs.YtnhfdnlcpdbjlaaGreatDoor
open Go Go.V
set_option linter.all false
set_option maxRecDepth 100000
abbrev NT(h:Hp)(v:aU)(l:List Nat):Prop:=Ts (fun x=>[nv x]) 1 h v l
theorem JN(T:a9)(h:Hp)(x n:Nat)(hx:x<4294967296)(hn:n<=32):
  Zg a0 T 127 #[H S x,H J n] h fun v' h'=>v'=H S (rr x n:Nat)/\h'=h:=by
 refine Zg.XK [_,_] Tryz.func127 ?_;have e1:=Hb x (32-n) mD;have e2:=Wy x n hn;have e3:(32:Int)-n=((32-n:Nat):Int):=mD;have e4:=PA (x/2 ^ n) (x*2 ^ (32-n)%4294967296) (Nat.lt_of_le_of_lt (Nat.div_le_self _ _) hx) mD;have e5:¬(n:Int)<0:=mD;have e6:¬((32-n:Nat):Int)<0:=mD;have e7:=kw hx (show 32-n<=32 by omega);rw[show 32-(32-n)=n by omega,Nat.or_comm]at e7;rw[e7]at e4;unfold rr;simp +contextual -implicitDefEqProofs only[go_sem];refine VS.q mixed sV ?_;simp +contextual -implicitDefEqProofs only[go_sem,e3,e1,e2,e4,e5,e6]
theorem Zcz{a b c d:Nat}(ha:a<256)(hb:b<256)(hc:c<256)(hd:d<256):
  YL .or S (YL .or S (YL .or S (Xq S a 24) (Xq S b 16)) (Xq S c 8)) d=((a*16777216+b*65536+c*256+d:Nat):Int):=by
 have sb:∀{x k:Nat},x<256->k<=24->Xq S (x:Int) (k:Int)=((x*2 ^ k:Nat):Int):=by
  intro x k hx hk;rw[Hb x k mD,Nat.mod_eq_of_lt];have:2 ^ k<=2 ^ 24:=Nat.pow_le_pow_right mD hk;have h2:x*2 ^ k<=255*2 ^ 24:=Nat.mul_le_mul mD this;omega
 have e1:Xq S (a:Int) 24=((a*16777216:Nat):Int):=sb (k:=24) ha mD;have e2:Xq S (b:Int) 16=((b*65536:Nat):Int):=sb (k:=16) hb mD;have e3:Xq S (c:Int) 8=((c*256:Nat):Int):=sb (k:=8) hc mD;have f1:a*16777216 ||| b*65536=a*16777216+b*65536:=Ua (k:=24) mD mD
 have f2:(a*16777216+b*65536) ||| c*256=a*16777216+b*65536+c*256:=Ua (k:=16) mD mD
 rw[e1,e2,e3,PA _ _ mD mD,f1,PA _ _ mD mD,f2,PA _ _ mD mD,Ua (k:=8) mD mD]
theorem Mb(xs zs:List Nat)(i:Nat)(hi:i<(t xs))(hz:(t xs)=(t zs)):(xs.take i++zs.drop i).set i (xs.getD i 0)=xs.take (i+1)++zs.drop (i+1):=by
 rw[aa,aX hi];exact LW xs zs i hi hz
def Lj(b:List Nat)(i:Nat):List Nat:=Ul b i++b8 (64-i) 0
theorem WM{b:List Nat}{i:Nat}(hi:i<=64):(Lj b i).length=64:=by simp[Lj,Qc];omega
theorem pD{b:List Nat}{i j:Nat}(hj:j<i):(Lj b i).getD j 0=(Ul b i).getD j 0:=by
 rw[Lj,aa,List.getElem?_append_left (by rw[Qc];exact hj),<-aa]
theorem xM{b:List Nat}{i:Nat}(hi:i<64):(Lj b i).set i (Cv b (Ul b i))=Lj b (i+1):=by
 rw[Lj,List.set_append_right _ _ (by rw[Qc];exact Z _),Qc,bx,show 64-i=(64-(i+1))+1 by omega,List.replicate_succ,List.set_cons_zero,Lj,Ul,cf];rfl
theorem pE(b:List Nat):Lj b 64=Ul b 64:=by simp[Lj]
theorem Dk{b:List Nat}(hb:Nb b){i j:Nat}:(Ul b i).getD j 0<4294967296:=(Gj hb i).getD j
theorem aJ(T:a9)(h:Hp)(bd:Nat)(d:List Nat)(v:aU)(b:List Nat)(hd:(t d)=8)(wd:OJ d)(sb:Bs h v b)(hb:(t b)=64)(tk:BE 1 wv kN h)(hx:h[bd]? = Y (O (d.map wv++[]).toArray 189))(hg:1≠bd):
  Zg a0 T 102 #[aF (Y ⟨bd,0,ak⟩),v] h fun v' h'=>Rs (Y bd) h h'/\h'[bd]? = Y (O ((AO d b).map wv++[]).toArray 189):=by
 obtain⟨p,c,rfl,Vx⟩:=sb.Vn;obtain⟨bb,ob,rfl,Tu,XH⟩:=Vx (by intro e;subst e;simp at hb);have pF:Nb b:=sb.byte;refine Zg.XK [_,_] Tryz.func102 ?_;rw[hb];have gO:=Za hx;have b0:Zk h.size h (h.push (O (Qa 64 [Value.int S 0]).toArray 215)):=Zk.push (Z _) _;have x0:∀A:Array aU,A=((Lj b 0).map wv).toArray->(h.push (O A 215))[h.size]? = Y (O ((Lj b 0).map wv++[]).toArray 215):=by
  rintro _ rfl;rw[au];exact Zd
 simp -implicitDefEqProofs only[go_sem];refine VS.Yq (fun F g=>Zk h.size h g/\F 0=aF (Y ⟨bd,0,ak⟩)/\F 1=R (Y ⟨bb,ob,ak⟩) 64 c/\F 4=aF (Y ⟨h.size,0,ak⟩)/\∃i:Nat,i<=64/\F 16=H J i/\g[h.size]? = Y (O ((Lj b i).map wv++[]).toArray 215))
  (fun F _=>64-(vi (F 16)).toNat) rfl ⟨b0,rfl,rfl,rfl,0,mD,rfl,by exact x0 _ (by rfl)⟩ ?_
 clear b0 x0;rintro F g ⟨kR,f0,f1,f4,i,hi,f16,hw⟩;have hws:=Za hw;by_cases ZV:i<64
 .have Z4:(i:Int)<64:=mD;have fin:∀X:Nat,X=Cv b (Ul b i)->QF g ⟨h.size,i,ak⟩ (H S (X:Nat))=Y (g.setIfInBounds h.size (O ((Lj b (i+1)).map wv++[]).toArray 215)):=by
   intro X hX;have:=Yz (f:=wv) hw (i:=i) (by rw[WM hi];exact ZV) X rfl;rw[hX,xM ZV]at this;rw[hX];exact this
  by_cases h16:i<16
  .have ZgE:(i:Int)<16:=mD;have g0:∀j,j<64->hc g ⟨bb,ob+j,ak⟩=Y (H am (b.getD j 0:Nat)):=fun j hj=>by rw[kR.hc (by exact Tu)];exact XH j mD
   have e0:=g0 (4*i) mD;have e1:=g0 (4*i+1) mD;have e2:=g0 (4*i+2) mD;have e3:=g0 (4*i+3) mD;have y0:=Z3 pF (4*i);have y1:=Z3 pF (4*i+1);have y2:=Z3 pF (4*i+2);have y3:=Z3 pF (4*i+3);have t0:(4*(i:Int)).toNat=4*i:=mD;have t1:(4*(i:Int)+1).toNat=4*i+1:=mD;have t2:(4*(i:Int)+2).toNat=4*i+2:=mD;have t3:(4*(i:Int)+3).toNat=4*i+3:=mD;have eo:=fun (_:Unit)=>Zcz y0 y1 y2 y3;rw[show b.getD (4*i) 0*16777216+b.getD (4*i+1) 0*65536+b.getD (4*i+2) 0*256+b.getD (4*i+3) 0=XZ b (4*i) from rfl]at eo;have m0:((b.getD (4*i) 0:Nat):Int)%4294967296=(b.getD (4*i) 0:Nat):=mD;have m1:((b.getD (4*i+1) 0:Nat):Int)%4294967296=(b.getD (4*i+1) 0:Nat):=mD;have m2:((b.getD (4*i+2) 0:Nat):Int)%4294967296=(b.getD (4*i+2) 0:Nat):=mD;have m3:((b.getD (4*i+3) 0:Nat):Int)%4294967296=(b.getD (4*i+3) 0:Nat):=mD;have cs:=fin (XZ b (4*i)) (by unfold Cv;rw[Qc,if_pos h16]);simp -implicitDefEqProofs only[go_sem,f0,f1,f4,f16,Z4,ZgE];refine VS.z (g.size) [35] (.p 0 (.p 1 (.p 2 (.p 3 (.p 4 (.q 5 (.p 6 (.p 7 (.p 8 (.p 9 (.p 10 (.p 11 (.p 12 (.q 13 (.p 14 (.p 15 (.p 16 (.p 17 (.p 18 (.p 19 (.p 20 (.p 21 (.q 22 (.p 23 (.p 24 (.p 25 (.p 26 (.p 27 (.p 28 (.p 29 (.p 30 (.q 31 (.p 32 (.p 33 (.p 34 (.w 35 .nil)))))))))))))))))))))))))))))))))))) mixed sV ?_;have Zk9:bb<g.size:=cd Tu kR.size;simp -implicitDefEqProofs only[go_sem,f0,f1,f4,f16,e0,e1,e2,e3,t0,t1,t2,t3,m0,m1,m2,m3,eo (),Zk9,cs];refine⟨⟨kR.Zu (Z _) _,f0,f1,f4,i+1,ZV,rfl,Yd hw⟩,?_⟩;simp only[vi,Zt,↓reduceIte,f16];omega
  .have ZgE:¬(i:Int)<16:=mD;have q1:=Z7 hw (i:=i-15) (by rw[WM hi];omega);have q2:=Z7 hw (i:=i-2) (by rw[WM hi];omega);have q3:=Z7 hw (i:=i-16) (by rw[WM hi];omega);have q4:=Z7 hw (i:=i-7) (by rw[WM hi];omega);rw[pD mD]at q1 q2 q3 q4;have eX:Cv b (Ul b i)=((Ul b i).getD (i-16) 0+sg0 ((Ul b i).getD (i-15) 0)+(Ul b i).getD (i-7) 0+sg1 ((Ul b i).getD (i-2) 0))%4294967296:=by
    unfold Cv;rw[Qc,if_neg h16]
   have cs:=fin (Cv b (Ul b i)) rfl;have hA:(Ul b i).getD (i-15) 0<4294967296:=Dk pF;have hC:(Ul b i).getD (i-2) 0<4294967296:=Dk pF;rw[eX]at cs;generalize (Ul b i).getD (i-15) 0=A at *;generalize (Ul b i).getD (i-2) 0=C at *;generalize (Ul b i).getD (i-16) 0=E1 at *;generalize (Ul b i).getD (i-7) 0=E2 at *;unfold wv at q1 q2 q3 q4;have t1:((i:Int)-15).toNat=i-15:=mD;have t2:((i:Int)-2).toNat=i-2:=mD;have t3:((i:Int)-16).toNat=i-16:=mD;have t4:((i:Int)-7).toNat=i-7:=mD;have s1:Unit->Jc S (A:Int) 3=((A/8:Nat):Int):=fun _=>Wy A 3 KC;have s2:Unit->Jc S (C:Int) 10=((C/1024:Nat):Int):=fun _=>Wy C 10 KC;have o1:=fun (_:Unit)=>Q0 (rr A 7) (rr A 18) (U7 hA) (U7 hA);have o2:Unit->YL .xor S ((rr A 7 ^^^ rr A 18:Nat):Int) ((A/8:Nat):Int)=((sg0 A:Nat):Int):=fun _=>Q0 _ _ (VW (U7 hA) (U7 hA)) (AL hA);have o3:=fun (_:Unit)=>Q0 (rr C 17) (rr C 19) (U7 hC) (U7 hC);have o4:Unit->YL .xor S ((rr C 17 ^^^ rr C 19:Nat):Int) ((C/1024:Nat):Int)=((sg1 C:Nat):Int):=fun _=>Q0 _ _ (VW (U7 hC) (U7 hC)) (AL hC);generalize sg0 A=S0 at *;generalize sg1 C=S1 at *;have e5:((((E1:Int)+(E2:Int))%4294967296+(S0:Int))%4294967296+(S1:Int))%4294967296=(((E1+S0+E2+S1)%4294967296:Nat):Int):=by clear cs fin;omega
   simp -implicitDefEqProofs only[go_sem,f0,f1,f4,f16,Z4,ZgE];refine VS.q mixed sV ?_;simp -implicitDefEqProofs only[go_sem,f0,f1,f4,f16,q1,q2,t1,t2];refine VS.z (h.size+1) [29] (.p 0 (.p 1 (.p 2 (.p 3 (.q 4 (.p 5 (.p 6 (.p 7 (.q 8 (.p 9 (.p 10 (.p 11 (.p 12 (.p 13 (.p 14 (.p 15 (.p 16 (.p 17 (.p 18 (.p 19 (.p 20 (.p 21 (.p 22 (.p 23 (.p 24 (.p 25 (.p 26 (.p 27 (.p 28 (.w 29 .nil)))))))))))))))))))))))))))))) mixed sV ?_;simp -implicitDefEqProofs only[go_sem,f0,f1,f4,f16,q3,q4,t3,t4,e5];refine Q2 (fun h=>JN T h A 7 hA mD) ?_;simp -implicitDefEqProofs only[go_sem,f0,f1,f4,f16,o1 (),o2 (),o3 (),o4 (),s1 (),s2 (),e5];refine Q2 (fun h=>JN T h A 18 hA mD) ?_;simp -implicitDefEqProofs only[go_sem,f0,f1,f4,f16,o1 (),o2 (),o3 (),o4 (),s1 (),s2 (),e5];refine Q2 (fun h=>JN T h C 17 hC mD) ?_;simp -implicitDefEqProofs only[go_sem,f0,f1,f4,f16,o1 (),o2 (),o3 (),o4 (),s1 (),s2 (),e5];refine Q2 (fun h=>JN T h C 19 hC mD) ?_;simp -implicitDefEqProofs only[go_sem,f0,f1,f4,f16,o1 (),o2 (),o3 (),o4 (),s1 (),s2 (),e5,cs];refine⟨⟨kR.Zu (Z _) _,f0,f1,f4,i+1,ZV,rfl,Yd hw⟩,?_⟩;simp only[vi,Zt,↓reduceIte,f16];omega
 .have Xw:¬(i:Int)<64:=mD;obtain rfl:i=64:=mD;rw[pE]at hw;have sZ:=kR.get gO hx;have r0:rd g ⟨bd,0,ak⟩ 8=Y (d.map wv):=by rw[au]at sZ;exact ZA sZ (by simp[hd])
  have l8:(d.map wv).length=8:=by simp[hd]
  have ZgF:(d.map wv).all YN=true:=by simp[wv,YN]
  obtain⟨DV,hDV⟩:=ZP (d.map wv);rw[<-hDV]at r0 l8 ZgF;have lp:Xd [Value.int S 0,Value.int S 0,Value.int S 0,Value.int S 0,Value.int S 0,Value.int S 0,Value.int S 0,Value.int S 0] 0 DV=DV:=Yb l8;simp -implicitDefEqProofs only[go_sem,f0,f1,f4,f16,Xw,r0,l8,ZgF,lp];rw[hDV];have PQ:=kR.size;have hB:Zk h.size h (g.push (O (d.map wv).toArray 189)):=kR.add _;have Py:Zk g.size g (g.push (O (d.map wv).toArray 189)):=Zk.push (Z _) _;have hv0:(g.push (O (d.map wv).toArray 189))[g.size]? = Y (O ((Um b d 0).map wv++[]).toArray 189):=by
   rw[au];exact Zd
  refine VS.Yq (fun F' g'=>Zk g.size g g'/\F' 0=aF (Y ⟨bd,0,ak⟩)/\F' 4=aF (Y ⟨h.size,0,ak⟩)/\F' 8=aF (Y ⟨g.size,0,ak⟩)/\∃i:Nat,i<=64/\F' 97=H J i/\g'[g.size]? = Y (O ((Um b d i).map wv++[]).toArray 189))
   (fun F _=>64-(vi (F 97)).toNat) rfl ⟨Py,f0,f4,rfl,0,mD,rfl,hv0⟩ ?_
  clear f0 f1 f4 f16 Xw hi ZV hv0 hB Py r0 l8 ZgF lp hDV DV F;rintro F g2 ⟨U1,f0,f4,f8,i,hi,f97,hv⟩;have xN:=Za hv;obtain⟨v8,w8⟩:=PK (b:=b) hd wd i;obtain⟨a,b',c',d',e,f,g',k',hst⟩:=eight v8;by_cases ZV:i<64
  .have Z4:(i:Int)<64:=mD;have ZcA:Um b d (i+1)=[(upw e f g' k' (kN.getD i 0) ((Ul b 64).getD i 0)+bg0 a+nW a b' c')%4294967296,a,b',c',(d'+upw e f g' k' (kN.getD i 0) ((Ul b 64).getD i 0))%4294967296,e,f,g']:=by
    rw[show Um b d (i+1)=wh (Um b d i) (kN.getD i 0) ((Ul b 64).getD i 0) from rfl,hst];rfl
   have hK:kN.getD i 0<4294967296:=Zf8.getD i;have hW:(Ul b 64).getD i 0<4294967296:=(Gj pF 64).getD i;have k1:V.hc g2 ⟨1,i,ak⟩=Y (H S (kN.getD i 0:Nat)):=by
    rw[U1.hc (by have:=tk.1;show (1:Nat)<g.size;omega),kR.hc (by exact tk.1)];exact tk.2 i ZV
   have w1:V.hc g2 ⟨h.size,i,ak⟩=Y (H S ((Ul b 64).getD i 0:Nat)):=by
    rw[U1.hc (by exact hws)];exact Z7 hw (by rw[Qc];exact ZV)
   rw[hst]at hv w8;have n0:V.hc g2 ⟨g.size,0,ak⟩=Y (H S (a:Nat)):=Z7 hv (i:=0) sW;have n1:V.hc g2 ⟨g.size,1,ak⟩=Y (H S (b':Nat)):=Z7 hv (i:=1) sW;have n2:V.hc g2 ⟨g.size,2,ak⟩=Y (H S (c':Nat)):=Z7 hv (i:=2) sW;have n3:V.hc g2 ⟨g.size,3,ak⟩=Y (H S (d':Nat)):=Z7 hv (i:=3) sW;have n4:V.hc g2 ⟨g.size,4,ak⟩=Y (H S (e:Nat)):=Z7 hv (i:=4) sW;have n5:V.hc g2 ⟨g.size,5,ak⟩=Y (H S (f:Nat)):=Z7 hv (i:=5) sW;have n6:V.hc g2 ⟨g.size,6,ak⟩=Y (H S (g':Nat)):=Z7 hv (i:=6) sW;have n7:V.hc g2 ⟨g.size,7,ak⟩=Y (H S (k':Nat)):=Z7 hv (i:=7) sW;have ha:a<4294967296:=w8 a sW;have JU:b'<4294967296:=w8 b' sW;have hc':c'<4294967296:=w8 c' sW;have hd':d'<4294967296:=w8 d' sW;have he:e<4294967296:=w8 e sW;have hf:f<4294967296:=w8 f sW;have FV:g'<4294967296:=w8 g' sW;have O9:k'<4294967296:=w8 k' sW;generalize kN.getD i 0=K at *;generalize (Ul b 64).getD i 0=W at *;have o1:=fun (_:Unit)=>Q0 (rr e 6) (rr e 11) (U7 he) (U7 he);have o2:Unit->YL .xor S ((rr e 6 ^^^ rr e 11:Nat):Int) ((rr e 25:Nat):Int)=((bg1 e:Nat):Int):=fun _=>Q0 _ _ (VW (U7 he) (U7 he)) (U7 he);have o3:=fun (_:Unit)=>Q0 (rr a 2) (rr a 13) (U7 ha) (U7 ha);have o4:Unit->YL .xor S ((rr a 2 ^^^ rr a 13:Nat):Int) ((rr a 22:Nat):Int)=((bg0 a:Nat):Int):=fun _=>Q0 _ _ (VW (U7 ha) (U7 ha)) (U7 ha);have c0:Unit->(if IntKind.u32.signed=true then (-1:Int) else IntKind.u32.max)=4294967295:=fun _=>rfl;have c1:=fun (_:Unit)=>ML e f he hf;have c2:=fun (_:Unit)=>Zb9 he;have c3:=fun (_:Unit)=>ML (4294967295-e) g' (AM e) FV;have c4:=fun (_:Unit)=>Zf7 (f:=f) he FV;have m1:=fun (_:Unit)=>ML a b' ha JU;have m2:=fun (_:Unit)=>ML a c' ha hc';have m3:=fun (_:Unit)=>ML b' c' JU hc';have m4:=fun (_:Unit)=>Q0 (a &&& b') (a &&& c') (UQ ha) (UQ ha);have m5:=fun (_:Unit)=>Zca (c:=c') ha JU;have eU:upw e f g' k' K W=(k'+bg1 e+chw e f g'+K+W)%4294967296:=rfl;generalize upw e f g' k' K W=U at *;generalize bg1 e=S1 at *;generalize bg0 a=S0 at *;generalize chw e f g'=CH at *;generalize nW a b' c'=MJ at *;have e1:Unit->(((((k':Int)+(S1:Int))%4294967296+(CH:Int))%4294967296+(K:Int))%4294967296+(W:Int))%4294967296=(U:Int):=fun _=>by omega
   have e2:Unit->((S0:Int)+(MJ:Int))%4294967296=(((S0+MJ)%4294967296:Nat):Int):=fun _=>by omega
   have e3:Unit->((U:Int)+(((S0+MJ)%4294967296:Nat):Int))%4294967296=(((U+S0+MJ)%4294967296:Nat):Int):=fun _=>by omega
   have e4:Unit->((d':Int)+(U:Int))%4294967296=(((d'+U)%4294967296:Nat):Int):=fun _=>by omega
   simp -implicitDefEqProofs only[go_sem,f0,f4,f8,f97,Z4];refine VS.q mixed sV ?_;simp -implicitDefEqProofs only[go_sem,f0,f4,f8,f97,n0,n4];refine VS.q mixed sV ?_;simp -implicitDefEqProofs only[go_sem,f0,f4,f8,f97,n7,n4];refine Wi (JN T _ e 6 he mD) ?_;simp -implicitDefEqProofs only[go_sem,f8];refine Wi (JN T _ e 11 he mD) ?_;simp -implicitDefEqProofs only[go_sem,f8];refine Wi (JN T _ e 25 he mD) ?_;simp -implicitDefEqProofs only[go_sem,f4,f8,f97,Z4,o1 (),o2 (),n5,n6,c0 (),c1 (),c2 (),c3 (),c4 (),k1,w1,e1 ()];refine VS.mono (N:=fun F' g'=>g2=g'/\F' 0=aF (Y ⟨bd,0,ak⟩)/\F' 4=aF (Y ⟨h.size,0,ak⟩)/\F' 8=aF (Y ⟨g.size,0,ak⟩)/\F' 97=H J i/\F' 10=H S (a:Nat)/\F' 11=H S (e:Nat)/\F' 12=H S (U:Nat)/\F' 13=H S (((S0+MJ)%4294967296:Nat):Int)) ?_ ?_ (fun _ _ _ h=>h) (fun _ _ h=>h)
   .refine VS.q mixed sV ?_;simp -implicitDefEqProofs only[go_sem,f8];refine Wi (JN T _ a 2 ha mD) ?_;simp -implicitDefEqProofs only[go_sem,f8];refine Wi (JN T _ a 13 ha mD) ?_;simp -implicitDefEqProofs only[go_sem,f8];refine Wi (JN T _ a 22 ha mD) ?_;simp -implicitDefEqProofs only[go_sem,f0,f4,f8,f97,o3 (),o4 (),n1,n2,m1 (),m2 (),m3 (),m4 (),m5 (),e2 ()]
   clear f0 f4 f8 f97 F;rintro F _ ⟨rfl,f0,f4,f8,f97,f10,f11,f12,f13⟩;have hvE:g2[g.size]? = Y (O [Value.int S a,H S b',H S c',H S d',H S e,H S f,H S g',H S k'].toArray 189):=hv;have y2:=Yh hvE 0;obtain⟨xU,hxU⟩:∃x:Int,x=(U:Int):=⟨_,rfl⟩
   obtain⟨xD,hxD⟩:∃x:Int,x=(((S0+MJ)%4294967296:Nat):Int):=⟨_,rfl⟩
   obtain⟨x0,OM⟩:∃x:Int,x=(((U+S0+MJ)%4294967296:Nat):Int):=⟨_,rfl⟩
   obtain⟨x4,dL⟩:∃x:Int,x=(((d'+U)%4294967296:Nat):Int):=⟨_,rfl⟩
   have E3:Unit->(xU+xD)%4294967296=x0:=fun _=>by rw[hxU,hxD,OM];exact e3 ()
   have E4:Unit->((d':Int)+xU)%4294967296=x4:=fun _=>by rw[hxU,dL];exact e4 ()
   rw[<-hxU]at f12;rw[<-hxD]at f13;simp -implicitDefEqProofs only[go_sem,f0,f4,f8,f97,f10,f11,f12,f13,n1,n2,n3,n5,n6,E3 (),E4 (),y2];refine⟨⟨U1.Zu (Z _) _,f0,f4,f8,i+1,ZV,rfl,?_⟩,?_⟩
   .rw[ZcA,OM,dL];exact Yd hv
   .simp only[vi,Zt,↓reduceIte,f97];omega
  .have Xw:¬(i:Int)<64:=mD;obtain rfl:i=64:=mD;have r0:rd g2 ⟨g.size,0,ak⟩ 8=Y ((Um b d 64).map wv):=by rw[au]at hv;exact ZA hv (by simp[v8])
   have hB:Rs (Y bd) h g2:=by
    have q1:=kR.trans (U1.mono kR.size);exact⟨q1.size,fun k hk _=>q1.block k hk⟩
   have sZ:g2[bd]? = Y (O (((Pk d (Um b d 64)).take 0++d.drop 0).map wv++[]).toArray 189):=by
    rw[bz,b9,bo];exact (kR.trans (U1.mono kR.size)).get gO hx
   have hal:=PM hd v8;simp -implicitDefEqProofs only[go_sem,f0,f8,f97,Xw,r0];refine VS.Yq (fun F' g'=>Rs (Y bd) h g'/\F' 0=aF (Y ⟨bd,0,ak⟩)/\F' 177=a2 ((Um b d 64).map wv).toArray/\∃i:Nat,i<=8/\F' 178=H J i/\g'[bd]? = Y (O (((Pk d (Um b d 64)).take i++d.drop i).map wv++[]).toArray 189))
    (fun F _=>8-(vi (F 178)).toNat) rfl ⟨hB,f0,rfl,0,mD,rfl,sZ⟩ ?_
   clear f0 f4 f8 f97 Xw hi ZV hv sZ hB r0 F;rintro F g3 ⟨hB,f0,ZgG,i,hi,ZcB,sZ⟩;have Ztm:=Za sZ;have pG:((Pk d (Um b d 64)).take i++d.drop i).length=8:=by rw[TQ _ _ _ mD mD,hal]
   by_cases ZV:i<8
   .have Z4:(i:Int)<8:=mD;have n1:nth ((Um b d 64).map wv) i=Y (H S ((Um b d 64).getD i 0:Nat)):=by
     rw[Y7,ck,aa,aX mD];rfl
    have q1:=Z7 sZ (i:=i) mD;have e0:((Pk d (Um b d 64)).take i++d.drop i).getD i 0=d.getD i 0:=by
     rw[aa,a8 aaa,aw,bw mD,bx,bA,cn,<-aa]
    rw[e0]at q1;unfold wv at q1;have eX:=nX hd v8 ZV;have cs:=Yz (f:=wv) sZ (i:=i) mD ((Pk d (Um b d 64)).getD i 0) rfl;rw[Mb _ _ i mD mD]at cs;have uc:QF g3 ⟨bd,i,ak⟩ (H S (((Pk d (Um b d 64)).getD i 0:Nat):Int))=_:=cs;rw[eX]at uc;generalize d.getD i 0=D at *;generalize (Um b d 64).getD i 0=V at *;have e1:((D:Int)+(V:Int))%4294967296=(((D+V)%4294967296:Nat):Int):=mD;simp -implicitDefEqProofs only[go_sem,ZgG,ZcB,Z4,n1];refine VS.z (g3.size) [9] (.p 0 (.p 1 (.p 2 (.p 3 (.q 4 (.p 5 (.p 6 (.p 7 (.p 8 (.w 9 .nil)))))))))) mixed sV ?_;simp -implicitDefEqProofs only[go_sem,f0,ZgG,ZcB,q1,e1,Ztm,uc,Z4];refine⟨⟨?_,f0,ZgG,i+1,ZV,rfl,Yd sZ⟩,?_⟩
    .exact⟨by rw[bG];exact hB.size,fun k hk Xb=>by rw[a6,if_neg (by intro e;exact Xb (by rw[e])),hB.block k hk Xb]⟩
    .simp only[vi,Zt,↓reduceIte,ZcB];omega
   .have Xw:¬(i:Int)<8:=mD;obtain rfl:i=8:=mD;have e9:(Pk d (Um b d 64)).take 8++d.drop 8=AO d b:=by
     rw[a3 mD,a5 mD,au];rfl
    rw[e9]at sZ;simp -implicitDefEqProofs only[go_sem,ZcB,Xw];exact⟨hB,sZ⟩
def iB:aU->Nat
 | R _ n _=>n
 | _=>0
def Et(n:Nat):List Nat:=0 :: 0 :: 0 :: 0 :: JR (8*n)
theorem Ih(n:Nat):(Et n).length=8:=rfl
theorem pH(n:Nat):Nb (Et n):=by
 intro x hx;simp only[Et,bl]at hx;rcases hx with rfl|rfl|rfl|rfl|hx
 .omega
 .omega
 .omega
 .omega
 .exact VX _ x hx
theorem ZcC{n k:Nat}(hn:n<=100000)(hk:k<8):Jc J ((8*n:Nat):Int) ((56-8*k:Nat):Int)%256=(((Et n).getD k 0:Nat):Int):=by
 rw[Rz _ _ mD];rcases k with _|_|_|_|_|_|_|_|k
 .show ((8*n/2 ^ 56:Nat):Int)%256=((0:Nat):Int)
  rw[bc mD];rfl
 .show ((8*n/2 ^ 48:Nat):Int)%256=((0:Nat):Int)
  rw[bc mD];rfl
 .show ((8*n/2 ^ 40:Nat):Int)%256=((0:Nat):Int)
  rw[bc mD];rfl
 .show ((8*n/2 ^ 32:Nat):Int)%256=((0:Nat):Int)
  rw[bc mD];rfl
 .rfl
 .rfl
 .rfl
 .show ((8*n/2 ^ 0:Nat):Int)%256=((8*n%256:Nat):Int)
  rw[Nat.pow_zero,Nat.div_one];rfl
 .omega
theorem ZcD{x bp op m c:Nat}{h h':Hp}{l:List Nat}(s:Bs h (R (Y ⟨bp,op,ak⟩) m c) l)(a:Rs (Y x) h h')(Xb:bp≠x):Bs h' (R (Y ⟨bp,op,ak⟩) m c) l:=by
 obtain⟨⟨p,cap,hv,hl,hc⟩,hb⟩:=s;simp only[Value.slice.injEq]at hv;obtain⟨rfl,hm,rfl⟩:=hv;refine⟨⟨_,_,by rw[hm],hl,fun hn=>?_⟩,hb⟩;obtain⟨b,o,hp,XH⟩:=hc hn;simp only[Option.some.injEq,Addr.mk.injEq,and_true]at hp;obtain⟨rfl,rfl⟩:=hp;refine⟨_,_,rfl,fun i hi=>?_⟩;have h1:=XH i hi;have h2:=WF h1;unfold V.hc at h1 ⊢;rw[a.block _ h2 (by intro e;exact Xb (Option.some.inj e).symm)];exact h1
theorem RJ{bp op m c:Nat}{h:Hp}{l:List Nat}(s:Bs h (R (Y ⟨bp,op,ak⟩) m c) l){k:Nat}(hk:k<=(t l))(hm:(t l)=m)(c':Nat):Bs h (R (Y ⟨bp,op+k,ak⟩) (m-k) c') (l.drop k):=by
 subst hm;refine⟨?_,fun x hx=>s.byte x (List.mem_of_mem_drop hx)⟩;obtain⟨p',cap,hv,hl,hc⟩:=s.sl;simp only[Value.slice.injEq]at hv;obtain⟨rfl,_,rfl⟩:=hv;refine⟨_,c',by rw[bj],sW,fun Xb=>?_⟩;have ZV:k<(t l):=by
  rw[<-List.length_pos_iff]at Xb;simp at Xb;omega
 obtain⟨b,o,hp,XH⟩:=hc (by intro e;simp at e;subst e;simp at ZV);simp only[Option.some.injEq,Addr.mk.injEq,and_true]at hp;obtain⟨rfl,rfl⟩:=hp;refine⟨_,_,rfl,fun i hi=>?_⟩;have ki:i<(t l)-k:=by simpa using hi
 rw[show op+k+i=op+(k+i) by omega,XH (k+i) vI];simp
abbrev Tk(h:Hp):Prop:=BE 1 wv kN h
theorem CT(T:a9)(h:Hp)(v:aU)(l:List Nat)(s:Bs h v l)(hl:(t l)<=100000)(tk:Tk h):
  Zg a0 T 77 #[v] h fun v' h'=>YB h.size 5 h' v' (TC l)/\Zk h.size h h':=by
 obtain⟨p,cp,rfl,Vx⟩:=s.open;have pF:Nb l:=s.byte;refine Zg.XK [_] Tryz.func77 ?_;simp -implicitDefEqProofs only[go_sem];obtain⟨h1,Xp⟩:=ZP (h.push (O (wq.map wv).toArray 189):Hp);have hs1:h1.size=h.size+1:=by rw[Xp];simp
 have b1:Zk h.size h h1:=by rw[Xp];exact Zk.push (Z _) _
 have x1:h1[h.size]? = Y (O (wq.map wv++[]).toArray 189):=by rw[Xp,au];exact Zd
 change Ps a0 T .append _ _ _ _ _ (h.push (O (wq.map wv).toArray 189));rw[<-Xp];clear Xp;refine ZR (E:=5) (B:=h.size+1) Xn an TX SN SM (YB.Ec _ _ _ _) mD (s.YJ b1) vI ?_;intro w h2 o2 b2 _;rw[bo]at o2;simp -implicitDefEqProofs only[go_sem];refine ZR (E:=5) (B:=h.size+1) Xn an TX SN SM (o2.push _) (by have:=b2.size;simp;omega) (Bs.one (x:=128) mD 1) vI ?_;intro w3 h3 o3 b3 _;have B3:Zk (h.size+1) h1 h3:=(b2.Y1 (by have:=b2.size;omega) _).trans b3;have o3':YB (h.size+1) 5 h3 w3 (PO l 0):=o3;clear o2 o3 b2 b3;simp -implicitDefEqProofs only[go_sem];refine VS.Yq (fun F g=>Zk (h.size+1) h1 g/\F 0=R p (t l) cp/\F 3=aF (Y ⟨h.size,0,ak⟩)/\∃j:Nat,j<=Ei (t l)/\YB (h.size+1) 5 g (F 4) (PO l j))
  (fun F _=>(t l)+100-iB (F 4)) rfl ⟨B3,rfl,rfl,0,mD,o3'⟩ ?_
 clear o3' B3;rintro F g ⟨hg,f0,f3,j,hj,ho⟩;obtain⟨p4,c4,f4,_⟩:=ho.open;have ml:=MT l j;obtain⟨M,hM⟩:=ZP ((t l)+j+1);rw[ml,<-hM]at f4;have ZEZ:Ei (t l)<64:=by unfold Ei;omega
 have d1:(M:Int).tmod 64=((M%64:Nat):Int):=rfl;have PQ:=hg.size;by_cases hm:M%64=56
 case neg=>
  have I3:¬((M%64:Nat):Int)=56:=mD;have Xb:j≠Ei (t l):=fun e=>hm (by rw[hM];exact (AQ hj).2 e);simp -implicitDefEqProofs only[go_sem,f0,f3,f4,d1,I3];have ho2:=ho;rw[f4]at ho2;refine ZR (E:=5) (B:=h.size+1) Xn an TX SN SM (ho2.push _) vI (Bs.one (x:=0) mD 1) (by rw[ml];simp;omega) ?_;intro w' g' NP JU _;obtain⟨p5,c5,rfl,_⟩:=NP.open;simp -implicitDefEqProofs only[go_sem,f0,f3];refine⟨⟨(hg.Y1 mD _).trans JU,f0,f3,j+1,mD,?_⟩,?_⟩
  .rw[gD];exact NP
  .simp only[iB,Zt,↓reduceIte,f4,aI,ml,ba];omega
 have hjn:j=Ei (t l):=(AQ hj).1 (by rw[<-hM];exact hm);have I3:((M%64:Nat):Int)=56:=mD;simp -implicitDefEqProofs only[go_sem,f0,f3,f4,d1,I3];refine VS.Yq (fun F g=>Zk (h.size+1) h1 g/\F 0=R p (t l) cp/\F 3=aF (Y ⟨h.size,0,ak⟩)/\∃k:Nat,k<=8/\F 5=H J (56-8*(k:Int))/\YB (h.size+1) 5 g (F 4) (PO l j++(Et (t l)).take k))
  (fun F _=>(vi (F 5)+8).toNat) rfl ⟨hg,f0,f3,0,mD,rfl,by rw[bz,au];exact ho⟩ ?_
 clear f0 f3 f4 d1 hm I3 ho hg PQ F g;rintro F g ⟨hg,f0,f3,k,hk,f5,ho⟩;have PQ:=hg.size;obtain⟨y,hy⟩:∃y:Int,y=56-8*(k:Int):=⟨_,rfl⟩
 rw[<-hy]at f5;by_cases ZV:k<8
 .have oJ:0<=y:=mD;have CJ:¬y<0:=mD;obtain⟨X,hX⟩:=ZP ((Et (t l)).getD k 0);have hXb:X<256:=by rw[hX];exact Z3 (pH _) k
  obtain⟨xL,hxL⟩:∃x:Int,x=((8*(t l):Nat):Int):=⟨_,rfl⟩
  have eL:Unit->8*((t l):Int)=xL:=fun _=>by rw[hxL];omega
  have xLb:0<=xL/\xL<=1000000:=by rw[hxL];omega
  have sh:Unit->Jc J xL y%256=(X:Int):=fun _=>by
   rw[hxL,hy,show (56:Int)-8*(k:Int)=((56-8*k:Nat):Int) by omega,hX];exact ZcC hl ZV
  have ml2:(PO l j++(Et (t l)).take k).length<=200000:=by rw[aI,ml,aw];omega
  have et:(Et (t l)).take (k+1)=(Et (t l)).take k++[X]:=by
   rw[Y0 _ k (by rw[Ih];exact ZV),hX,aa,aX (by rw[Ih];exact ZV)];rfl
  clear hX hxL;simp -implicitDefEqProofs only[go_sem,f0,f3,f5,oJ,CJ,eL (),sh ()];refine ZR (E:=5) (B:=h.size+1) Xn an TX SN SM (ho.push _) vI (Bs.one hXb 1) aaf ?_;intro w' g' NP JU _;simp -implicitDefEqProofs only[go_sem,f0,f3,f5];refine⟨⟨(hg.Y1 mD _).trans JU,f0,f3,k+1,ZV,?_,?_⟩,?_⟩
  .show Value.int J _=_
   congr 1;omega
  .rw[et,<-cf];exact NP
  .simp only[vi,Zt,↓reduceIte,f5];omega
 .have oJ:¬0<=y:=mD;obtain rfl:k=8:=mD;have ep:PO l j++(Et (t l)).take 8=TY l:=by rw[hjn];rfl
  rw[ep]at ho;have pl:=Cw l;obtain⟨N,hN⟩:=ZP (nY (t l));have hN1:0<N:=by rw[hN];unfold nY;omega
  have hN2:N<=2000:=by rw[hN];unfold nY;omega
  rw[<-hN]at pl;have hgd:=hg.get mD x1;have bh:Zk h.size h g:=b1.trans (hg.mono mD);obtain⟨bp,cP,f4,hbp,hcP⟩:∃bp c,F 4=R (Y ⟨bp,0,ak⟩) (64*N) c/\h.size+1<=bp/\64*N<=c:=by
   rcases ho.Zr with⟨_,hm,_⟩|⟨b,cap,sp,hB,hv,_,_,_,hc⟩
   .omega
   .rw[pl]at hv hc;exact⟨b,cap,hv,hB,hc⟩
  have sP:=ho.bs;rw[f4]at sP;simp -implicitDefEqProofs only[go_sem,f0,f3,f5,oJ];refine VS.Yq (fun F g=>Zk h.size h g/\F 3=aF (Y ⟨h.size,0,ak⟩)/\∃j op c:Nat,j<=N/\F 4=R (Y ⟨bp,op,ak⟩) (64*(N-j)) c/\64*(N-j)<=c/\Bs g (R (Y ⟨bp,op,ak⟩) (64*(N-j)) c) ((TY l).drop (64*j))/\g[h.size]? = Y (O ((AP (TY l) j).map wv++[]).toArray 189))
   (fun F _=>iB (F 4)) rfl ⟨bh,f3,0,0,cP,mD,f4,hcP,by exact sP,hgd⟩ ?_
  clear f0 f3 f4 f5 hy oJ ZV ho sP hgd bh hg PQ ep hcP F g;rintro F g ⟨hg,f3,j,op,c,hj,f4,hc,sP,hgd⟩;have PQ:=Za hgd;by_cases ZV:j<N
  .obtain⟨L,hL⟩:=ZP (64*(N-j));rw[<-hL]at f4 hc sP;have ZE0:64<=L:=mD;have td:((TY l).drop (64*j)).length=L:=by rw[bj,pl];omega
   have hL0:0<(L:Int):=mD;have Zlc:(64:Int)<=(c:Int):=mD;have Ca:¬c=0:=mD;simp -implicitDefEqProofs only[go_sem,f3,f4,hL0,Zlc,Ca,bR,bS];have sB:Bs g (R (Y ⟨bp,op,ak⟩) 64 c) (((TY l).drop (64*j)).take 64):=by
    rw[<-td]at sP;exact Bs.Na sP mD c
   obtain⟨dl,dw⟩:=MS (TY l) j;refine (aJ T g h.size (AP (TY l) j) _ (((TY l).drop (64*j)).take 64) dl dw sB (by rw[aw,td];omega) (tk.QH hg) hgd (by have:=tk.1;omega)).use ?_;rintro _ g2 ⟨NQ,NX⟩;have U1:Zk h.size h g2:=hg.trans (NQ.YJ mD (fun b e=>by have:=Option.some.inj e;omega));have sP2:=ZcD sP NQ mD;by_cases hce:c=64
   .have hLe:L=64:=mD;have Zto:(c:Int)=64:=mD;have hLi:(L:Int)=64:=mD;subst hce hLe;simp -implicitDefEqProofs only[go_sem,f3,f4,Zto,hLi];refine⟨⟨U1,f3,j+1,op,0,ZV,?_,mD,?_,NX⟩,?_⟩
    .show Value.slice _ _ _=_;rw[show 64*(N-(j+1))=0 by omega]
    .rw[show 64*(N-(j+1))=0 by omega,a5 (by rw[pl];omega)];exact (YB.Ec 0 5 _ _).bs
    .simp only[iB,Zt,↓reduceIte,f4];omega
   .have Zld:(64:Int)<=(L:Int):=mD;simp -implicitDefEqProofs only[go_sem,f3,f4,Zlc,Zld,hce];refine⟨⟨U1,f3,j+1,op+64,c-64,ZV,?_,mD,?_,NX⟩,?_⟩
    .show Value.slice _ _ _=_;rw[show L-64=64*(N-(j+1)) by omega]
    .have:=RJ sP2 (k:=64) mD td (c-64);rw[List.drop_drop,show L-64=64*(N-(j+1)) by omega,show 64*j+64=64*(j+1) by omega]at this;exact this
    .simp only[iB,Zt,↓reduceIte,f4];omega
  .obtain rfl:j=N:=mD;have eS:TC l=ZK (AP (TY l) j):=by rw[TC,<-hN]
   obtain⟨dl,dw⟩:=MS (TY l) j;obtain⟨D,hD⟩:=ZP (AP (TY l) j);rw[<-hD]at dl dw hgd eS;rw[eS];have r0:rd g ⟨h.size,0,ak⟩ 8=Y (D.map wv):=by rw[au]at hgd;exact ZA hgd (by simp[dl])
   rw[bx,Nat.mul_zero]at f4;have hz:¬h.size=g.size:=mD;simp -implicitDefEqProofs only[go_sem,f3,f4,r0,hz];have hBo:Zk h.size h (g.push (O (Qa 32 [Value.int am 0]).toArray 5)):=hg.add _;have oO:YB h.size 5 (g.push (O (Qa 32 [Value.int am 0]).toArray 5)) (R (Y ⟨g.size,0,ak⟩) 0 32) (ZK (D.take 0)):=
    ⟨.inr ⟨g.size,32,Qa 32 [Value.int am 0],hg.size,rfl,Zd,rfl,rfl,Nat.zero_le 32⟩,fun x hx=>by cases hx⟩
   refine VS.Yq (fun F g=>Zk h.size h g/\F 43=a2 (D.map wv).toArray/\∃i:Nat,i<=8/\F 44=H J i/\YB h.size 5 g (F 6) (ZK (D.take i)))
    (fun F _=>8-(vi (F 44)).toNat) rfl ⟨hBo,rfl,0,mD,rfl,oO⟩ ?_
   clear f3 f4 ZV hgd r0 hz hBo oO sP hc hg PQ g F;rintro F g ⟨hg,f43,i,hi,f44,ho⟩;have PQ:=hg.size;by_cases ZV:i<8
   .have Z4:(i:Int)<8:=mD;obtain⟨x,hx⟩:=ZP (D.getD i 0);have hxb:x<4294967296:=by rw[hx];exact dw.getD i
    have et:D.take (i+1)=D.take i++[x]:=by
     rw[Y0 _ i mD,hx,aa,aX mD];rfl
    obtain⟨yx,pI⟩:∃y:Int,y=(x:Int):=⟨_,rfl⟩
    obtain⟨z0,Bz⟩:∃y:Int,y=((x/16777216%256:Nat):Int):=⟨_,rfl⟩
    obtain⟨z1,Co⟩:∃y:Int,y=((x/65536%256:Nat):Int):=⟨_,rfl⟩
    obtain⟨z2,ic⟩:∃y:Int,y=((x/256%256:Nat):Int):=⟨_,rfl⟩
    obtain⟨z3,hz3⟩:∃y:Int,y=((x%256:Nat):Int):=⟨_,rfl⟩
    have n1:nth (D.map wv) i=Y (H S yx):=by
     rw[Y7,ck,pI,hx,aa,aX mD];rfl
    have e1:Unit->Jc S yx 24%256=z0:=fun _=>by rw[pI,Bz,show (24:Int)=((24:Nat):Int) from rfl,Wy x 24 KC];rfl
    have e2:Unit->Jc S yx 16%256=z1:=fun _=>by rw[pI,Co,show (16:Int)=((16:Nat):Int) from rfl,Wy x 16 KC];rfl
    have e3:Unit->Jc S yx 8%256=z2:=fun _=>by rw[pI,ic,show (8:Int)=((8:Nat):Int) from rfl,Wy x 8 KC];rfl
    have e4:Unit->yx%256=z3:=fun _=>by rw[pI,hz3];rfl
    have Vb:(ZK (D.take i)).length<=32:=by rw[ZW,aw];omega
    clear pI hx;simp -implicitDefEqProofs only[go_sem,f43,f44,Z4,n1,e1 (),e2 (),e3 (),e4 ()];subst Bz Co ic hz3;refine ZR (E:=5) (B:=h.size) Xn an TX SN SM (ho.push _) vI (Bs.made (l:=JR x) (VX x) 4) (by simp[JR];omega) ?_;intro w' g' NP JU _;simp -implicitDefEqProofs only[go_sem,f43,f44];refine⟨⟨(hg.add _).trans JU,f43,i+1,ZV,rfl,?_⟩,?_⟩
    .rw[et];unfold ZK at NP ⊢;rw[cc];simp only[co,cr,au];exact NP
    .simp only[vi,Zt,↓reduceIte,f44];omega
   .have Xw:¬(i:Int)<8:=mD;obtain rfl:i=8:=mD;rw[a3 mD]at ho;simp -implicitDefEqProofs only[go_sem,f43,f44,Xw];exact⟨ho,hg⟩
def Mc(n:Nat):Int:=if 2000<n then 1 else 0
def xO(B:Nat)(h':Hp)(v':aU)(l:List Nat):Prop:=∃w,v'=.tuple [w,H J (Mc (t l))].toArray/\YB B 5 h' w (if Mc (t l)=0 then TC l else [])
theorem Dl(T:a9)(h:Hp)(v:aU)(l:List Nat)(s:Bs h v l)(tk:Tk h):
  Zg a0 T 47 #[v] h fun v' h'=>xO h.size h' v' l/\Zk h.size h h':=by
 obtain⟨p,cp,rfl,Vx⟩:=s.open;refine Zg.XK [_] Tryz.func47 ?_;unfold xO Mc;by_cases hl:2000<(t l)
 .have dI:2000<((t l):Int):=mD;simp -implicitDefEqProofs only[go_sem,dI,hl];exact⟨_,rfl,YB.nil _ _ _⟩
 .have dI:¬2000<((t l):Int):=mD;simp -implicitDefEqProofs only[go_sem,dI,hl];refine (CT T _ _ l s mD tk).use ?_;rintro w h1 ⟨o1,b1⟩;simp -implicitDefEqProofs only[go_sem,b1];exact⟨_,rfl,o1⟩
def Lk(body:List Nat):List Nat:=(t body) :: body
def YS(body:List Nat):List Nat:=Lk body++(TC (Lk body)).take 4
theorem UD(body:List Nat):(Lk body).length=(t body)+1:=rfl
theorem WN(body:List Nat):(YS body).length=(t body)+5:=by
 rw[YS,aI,aw,QM,UD];omega
def YT(l:List Nat)(n:Int):Prop:=(t l)<=100000/\0<=n/\n<=(t l)
instance (l:List Nat)(n:Int):Decidable (YT l n):=by unfold YT;infer_instance
def JX(l:List Nat)(n:Int)(k:Nat):Int:=if ¬YT l n then 5 else if 100000<(t l)+(k+5) then 8 else 0
def RK(B:Nat)(h':Hp)(v':aU)(l:List Nat)(n:Int)(E:Int)(add:List Nat):Prop:=
 ∃w,v'=.tuple [a2 [w,H J (if E=0 then n else 0)].toArray,H J E].toArray/\YB B 5 h' w (if E=0 then l++add else [])
theorem Rs.ZgI{h g:Hp}{b:Nat}{o:Obj}(a:Rs (Y b) h g):Rs (Y b) h (g.setIfInBounds b o):=
 ⟨by rw[bG];exact a.size,fun k hk Xb=>by rw[a6,if_neg (fun e=>Xb (by rw[e])),a.block k hk Xb]⟩
theorem S4(T:a9)(h:Hp)(v u:aU)(n:Int)(l body:List Nat)(s:Bs h v l)(hl:(t l)<=140737488355328)(sb:Bs h u body)(hb:(t body)<=255)(tk:Tk h):
  Zg a0 T 119 #[a2 [v,H J n].toArray,u] h fun v' h'=>RK h.size h' v' l n (JX l n (t body)) (YS body)/\Zk h.size h h':=by
 obtain⟨p,c,rfl,_⟩:=s.open;obtain⟨q,d,rfl,_⟩:=sb.open;refine Zg.XK [_,_] Tryz.func119 ?_;unfold RK;simp -implicitDefEqProofs only[go_sem];obtain⟨h0,J9⟩:=ZP ((h.push (O [R p (t l) c,H J n].toArray 61)).push (O [R ak 0 0,H J 0].toArray 61):Hp);have b0:Zk h.size h h0:=by rw[J9];exact ((Zk.refl _ _).add _).add _
 have s0:h0.size=h.size+1+1:=by rw[J9];simp
 have x0:h0[h.size+1]? = Y (O [R ak 0 0,H J 0].toArray 61):=by
  rw[J9,a1,if_pos sW]
 rw[<-J9];clear J9;refine (UB T h0 _ n l (s.YJ b0) hl).use ?_;rintro _ h1 ⟨b1,o1⟩;have s1:=b1.size;by_cases ok:YT l n
 case neg=>
  have ee:JX l n (t body)=5:=by unfold JX;rw[if_pos ok]
  rw[if_neg (show ¬((t l)<=100000/\0<=n/\n<=(t l)) from ok)]at o1;subst o1;rw[ee];have x1:=b1.get mD x0;have y2:=Yh x1 0;have ZV:h.size+1<h1.size:=mD;have Xb:¬h.size+1=h1.size:=mD;simp -implicitDefEqProofs only[go_sem,y2,Xb,ZV];exact⟨⟨_,rfl,YB.nil _ _ _⟩,((b0.trans (b1.mono mD)).Zu mD _).Y1 vI _⟩
 have ee:JX l n (t body)=if 100000<(t l)+((t body)+5) then 8 else 0:=by unfold JX;rw[if_neg (fun hn=>hn ok)]
 rw[if_pos (show ((t l)<=100000/\0<=n/\n<=(t l)) from ok)]at o1;obtain⟨w,rfl,o1⟩:=o1;obtain⟨pw,cw,rfl,_⟩:=o1.open;have B1:=b0.trans (b1.mono mD);have x1:=b1.get mD x0;obtain⟨wy,EM,hn1⟩:=ok;obtain⟨h2,Tv⟩:=ZP (h1.push (O [R pw (t l) cw,H J n].toArray 61):Hp);have b2:Zk h1.size h1 h2:=by rw[Tv];exact Zk.push (Z _) _
 have s2:h2.size=h1.size+1:=by rw[Tv];simp
 have x6:h2[h1.size]? = Y (O [R pw (t l) cw,H J n].toArray 61):=by rw[Tv];exact Zd
 have eb:((t body):Int)%256=((t body):Int):=mD;have e2:h1.push (O #[Value.slice pw (t l) cw,H J n] 61)=h2:=Tv.symm;simp -implicitDefEqProofs only[go_sem,eb];rw[e2];clear e2 Tv;rw[<-s2];have B2:=B1.trans (b2.mono B1.size);have o2:=o1.YJ b2 (Z _);have EF:∀x∈[(t body)],x<256:=by intro x hx;rw[List.mem_singleton.1 hx];omega
 have of0:YB h2.size 5 (h2.push (O (([(t body)]:List Nat).map bv).toArray 5)) (R (Y ⟨h2.size,0,ak⟩) 1 1) [(t body)]:=YB.made EF (Z _);have bp:Zk h2.size h2 (h2.push (O (([(t body)]:List Nat).map bv).toArray 5)):=Zk.push (Z _) _;refine ZR (E:=5) (B:=h2.size) Xn an TX SN SM of0 sW (sb.YJ (B2.trans (bp.mono mD))) vI ?_;intro wf h3 of3 b3 _;have B3:Zk h2.size h2 h3:=bp.trans b3;have th:=B2.trans (B3.mono mD);have Zle:YB h2.size 5 h3 wf (Lk body):=of3;clear of0 bp of3 b3;have fl:=UD body;have fsl:=WN body;have efr:YS body=Lk body++(TC (Lk body)).take 4:=rfl;have shl:=QM (Lk body);simp -implicitDefEqProofs only[go_sem];refine (Dl T h3 wf (Lk body) Zle.bs (tk.QH th)).use ?_;rintro _ h4 ⟨⟨ws,rfl,os⟩,b4⟩;have e0:Mc (Lk body).length=0:=by unfold Mc;rw[if_neg mD]
 rw[e0,if_pos rfl]at os;rw[e0];generalize TC (Lk body)=SH at *;obtain⟨ps,cs,rfl,XH⟩:=os.open;have sS:=os.bs;obtain⟨p',c',hv,hh⟩:=sS.Vn;simp only[Value.slice.injEq]at hv;obtain⟨rfl,_,rfl⟩:=hv;obtain⟨bb,ob,rfl,_⟩:=hh (by intro e;rw[e]at shl;cases shl);have s4:=Bs.Na sS (m:=4) mD cs;rw[shl]at XH ⊢;have h4c:(4:Int)<=(cs:Int):=mD;have Gs:¬cs=0:=mD;have of4:=Zle.YJ b4 (Z _);have s3:=B3.size;have s4s:=b4.size;have B4:Zk h2.size h2 h4:=B3.trans (b4.mono s3);simp -implicitDefEqProofs only[go_sem,h4c,Gs,bR,bS];refine ZR (E:=5) (B:=h2.size) Xn an TX SN SM of4 mD s4 (by rw[fl,aw];omega) ?_;intro wg h5 og b5 _;rw[<-efr]at og;have B5:Zk h2.size h2 h5:=B4.trans b5;have s5:=B5.size;have Bh5:=B2.trans (B5.mono mD);obtain⟨pg,cg,rfl,_⟩:=og.open;rw[fsl];have x65:=B5.get mD x6;have r65:V.hc h5 ⟨h1.size,0,ak⟩=Y (R pw (t l) cw):=by rw[Zn x65];rfl
 have o5:=o2.YJ B5 (Z _);have x15:h5[h.size+1]? = Y (O [R ak 0 0,H J 0].toArray 61):=B5.get mD (b2.get mD x1);generalize YS body=FR at *;by_cases q:100000<(t l)+((t body)+5)
 .have q':100000<((t l):Int)+(((t body)+5:Nat):Int):=mD;have y2:=Yh x15 0;have ZV:h.size+1<h5.size:=mD;rw[if_pos q]at ee;rw[ee];simp -implicitDefEqProofs only[go_sem,r65,q',y2,ZV];exact⟨⟨_,rfl,YB.nil _ _ _⟩,Bh5.Zu mD _⟩
 .have q':¬100000<((t l):Int)+(((t body)+5:Nat):Int):=mD;rw[if_neg q]at ee;rw[ee];simp -implicitDefEqProofs only[go_sem,r65,q'];have ogb:Bs h5 (R pg ((t body)+5) cg) FR:=by rw[<-fsl];exact og.bs
  refine Uj (E:=5) (B:=h0.size) Xn an TX SN SM o5 mD ogb mD ?_;intro wz h6 oz b6 bt6 bk6;have s6:=b6.size;have gX:∀b,Ya (Value.slice pw (t l) cw)=Y b->b<h1.size:=o1.Zr.lt;have x66:h6[h1.size]? = Y (O [R pw (t l) cw,H J n].toArray 61):=by
   rw[bt6.block _ mD (fun e=>by have:=gX _ e;omega)];exact x65
  have x16:h6[h.size+1]? = Y (O [R ak 0 0,H J 0].toArray 61):=b6.get mD x15;obtain⟨pz,cz,hwz,_⟩:=oz.open;have zl:(l++FR).length=(t l)+((t body)+5):=by rw[aI,fsl]
  rw[zl]at hwz;subst hwz;have w66:=Xk (v:=R pz ((t l)+((t body)+5)) cz) x66 (o:=0);obtain⟨h7,hh7⟩:=ZP (h6.setIfInBounds h1.size (O [R pz ((t l)+((t body)+5)) cz,H J n].toArray 61):Hp);have Ztq:QF h6 ⟨h1.size,0,ak⟩ (R pz ((t l)+((t body)+5)) cz)=Y h7:=by rw[w66,if_pos ⟨sW,rfl⟩,hh7];rfl
  have b7:Rs (Y h1.size) h6 h7:=by rw[hh7];exact Rs.ZgI Rs.refl
  have x77:h7[h1.size]? = Y (O [R pz ((t l)+((t body)+5)) cz,H J n].toArray 61):=by rw[hh7,a6,if_pos rfl,if_pos mD]
  have x17:h7[h.size+1]? = Y (O [R ak 0 0,H J 0].toArray 61):=by
   rw[b7.block _ mD (fun e=>by have:=Option.some.inj e;omega)];exact x16
  have oz7:=oz.ve b7 (fun b hb e=>by
   have e':=Option.some.inj e;rcases bk6 b hb with g1|g1
   .have:=gX b g1;omega
   .omega)
  have r77:rd h7 ⟨h1.size,0,ak⟩ 2=Y [R pz ((t l)+((t body)+5)) cz,H J n]:=ZA x77 rfl;have y7:=Yh x17 0;have GC:h.size+1<h7.size:=Za x17;have dN:Zk h.size h h6:=Bh5.trans (b6.mono mD);have FW:Zk h.size h h7:=dN.trans (b7.YJ mD (fun b e=>by have:=Option.some.inj e;omega));clear hh7 w66;simp -implicitDefEqProofs only[go_sem,Ztq,r77,y7,GC];refine⟨⟨_,rfl,?_⟩,FW.Zu mD _⟩;exact (oz7.Yi mD _).mono mD
theorem VM(g:Hp)(ns:List Nat):NT (g.push (O (ns.map nv).toArray 3)) (R (Y ⟨g.size,0,ak⟩) (t ns) (t ns)) ns:=by
 constructor
 rw[WH nv];exact Sl.made sW _
theorem S5(T:a9)(h:Hp)(u:aU)(ns:List Nat)(s:NT h u ns)(hl:(t ns)<=100)(hb:∀x∈ns,x<=1073741824):
  Zg a0 T 120 #[u] h fun v' h'=>YB h.size 5 h' v' (ZK ns)/\Zk h.size h h':=by
 obtain⟨p,c,rfl,XH⟩:=Zb6 s;refine Zg.XK [_] Tryz.func120 ?_;simp -implicitDefEqProofs only[go_sem];refine VS.Yq (fun F g=>Zk h.size h g/\F 6=R p (t ns) c/\F 7=H J (t ns)/\∃i:Nat,i<=(t ns)/\F 8=H J i/\YB h.size 5 g (F 3) (ZK (ns.take i)))
  (fun F _=>(t ns)-(vi (F 8)).toNat) rfl ⟨Zk.refl _ _,rfl,rfl,0,mD,rfl,YB.nil _ _ _⟩ ?_
 rintro F g ⟨hg,f6,f7,i,hi,f8,ho⟩;have PQ:=hg.size;by_cases ZV:i<(t ns)
 .have Z4:(i:Int)<(t ns):=mD;obtain⟨b,o,rfl,hb0,XH⟩:=XH (by intro e;rw[e]at ZV;simp at ZV);have n1:V.hc g ⟨b,o+i,ak⟩=Y (H J (ns.getD i 0:Nat)):=by rw[hg.hc (by exact hb0)];exact XH i ZV
  have et:ns.take (i+1)=ns.take i++[ns.getD i 0]:=by
   rw[Y0 _ i ZV,aa,aX ZV];rfl
  have hx:ns.getD i 0<=1073741824:=by
   rw[aa,aX ZV];exact hb _ (List.getElem_mem ZV)
  generalize ns.getD i 0=x at *;obtain⟨yx,pI⟩:∃y:Int,y=(x:Int):=⟨_,rfl⟩
  obtain⟨z0,Bz⟩:∃y:Int,y=((x/16777216%256:Nat):Int):=⟨_,rfl⟩
  obtain⟨z1,Co⟩:∃y:Int,y=((x/65536%256:Nat):Int):=⟨_,rfl⟩
  obtain⟨z2,ic⟩:∃y:Int,y=((x/256%256:Nat):Int):=⟨_,rfl⟩
  obtain⟨z3,hz3⟩:∃y:Int,y=((x%256:Nat):Int):=⟨_,rfl⟩
  rw[<-pI]at n1;have e1:Unit->Jc J yx 24%256=z0:=fun _=>by rw[pI,Bz,show (24:Int)=((24:Nat):Int) from rfl,Rz x 24 KC];rfl
  have e2:Unit->Jc J yx 16%256=z1:=fun _=>by rw[pI,Co,show (16:Int)=((16:Nat):Int) from rfl,Rz x 16 KC];rfl
  have e3:Unit->Jc J yx 8%256=z2:=fun _=>by rw[pI,ic,show (8:Int)=((8:Nat):Int) from rfl,Rz x 8 KC];rfl
  have e4:Unit->yx%256=z3:=fun _=>by rw[pI,hz3];rfl
  have Vb:(ZK (ns.take i)).length<=400:=by rw[ZW,aw];omega
  clear pI;simp -implicitDefEqProofs only[go_sem,f6,f7,f8,Z4,n1,e1 (),e2 (),e3 (),e4 ()];subst Bz Co ic hz3;refine ZR (E:=5) (B:=h.size) Xn an TX SN SM (ho.push _) vI (Bs.made (l:=JR x) (VX x) 4) (by simp[JR];omega) ?_;intro w' g' NP JU _;simp -implicitDefEqProofs only[go_sem,f6,f7,f8];refine⟨⟨(hg.add _).trans JU,f6,f7,i+1,ZV,rfl,?_⟩,?_⟩
  .rw[et];unfold ZK at NP ⊢;rw[cc];simp only[co,cr,au];exact NP
  .simp only[vi,Zt,↓reduceIte,f8];omega
 .have Xw:¬(i:Int)<(t ns):=mD;obtain rfl:i=(t ns):=mD;rw[List.take_length]at ho;simp -implicitDefEqProofs only[go_sem,f6,f7,f8,Xw];exact⟨ho,hg⟩
def Jn(l:List Nat)(n:Int)(b:Yg):Int:=if ¬YT l n then 5 else if ¬ZC b then 2 else JX l n 9
def JF(b:Yg):List Nat:=1 :: ZK [b.r.toNat,b.n.toNat]
theorem iC(b:Yg):YF ⟨0,0⟩ [] b=if ZC b then 0 else 2:=by
 have e:Jw ⟨0,0⟩ []=0:=rfl;unfold YF;rw[if_neg (by rw[e];decide)];by_cases q:ZC b
 .rw[if_neg (fun hn=>hn q),if_pos q,if_neg];intro hb;have q1:=q.1.1;rcases hb with hb|⟨hb,_⟩<;>simp at hb<;>omega
 .rw[if_pos q,if_neg q]
theorem Ii(T:a9)(h:Hp)(v:aU)(n:Int)(l:List Nat)(b:Yg)(s:Bs h v l)(hl:(t l)<=140737488355328)(tk:Tk h):
  Zg a0 T 91 #[a2 [v,H J n].toArray,a2 (Qu b).toArray] h fun v' h'=>RK h.size h' v' l n (Jn l n b) (YS (JF b))/\Zk h.size h h':=by
 obtain⟨p,c,rfl,_⟩:=s.open;refine Zg.XK [_,_] Tryz.func91 ?_;unfold RK Qu;simp -implicitDefEqProofs only[go_sem];obtain⟨h0,J9⟩:=ZP (((h.push (O [R p (t l) c,H J n].toArray 61)).push (O [H J b.r,H J b.n].toArray 63)).push (O [R ak 0 0,H J 0].toArray 61):Hp);have b0:Zk h.size h h0:=by rw[J9];exact (((Zk.refl _ _).add _).add _).add _
 have s0:h0.size=h.size+3:=by rw[J9];simp
 have t0:h0[h.size]? = Y (O [R p (t l) c,H J n].toArray 61):=by
  rw[J9,a1,if_neg vI,a1,if_neg sW,Zd]
 have t1:h0[h.size+1]? = Y (O [H J b.r,H J b.n].toArray 63):=by
  rw[J9,a1,if_neg sW,a1,if_pos sW]
 have x0:h0[h.size+2]? = Y (O [R ak 0 0,H J 0].toArray 61):=by
  rw[J9,a1,if_pos sW]
 rw[<-J9];clear J9;refine (UB T h0 _ n l (s.YJ b0) hl).use ?_;rintro _ h1 ⟨b1,o1⟩;have s1:=b1.size;have B1:Zk h.size h h1:=b0.trans (b1.mono mD);have x1:=b1.get mD x0;by_cases ok:YT l n
 case neg=>
  have ee:Jn l n b=5:=by unfold Jn;rw[if_pos ok]
  rw[if_neg (show ¬((t l)<=100000/\0<=n/\n<=(t l)) from ok)]at o1;subst o1;rw[ee];have y2:=Yh x1 0;have ZV:h.size+2<h1.size:=mD;have Xb:¬h.size+2=h1.size:=mD;simp -implicitDefEqProofs only[go_sem,y2,Xb,ZV];exact⟨⟨_,rfl,YB.nil _ _ _⟩,(B1.Zu mD _).Y1 vI _⟩
 rw[if_pos (show ((t l)<=100000/\0<=n/\n<=(t l)) from ok)]at o1;obtain⟨w,rfl,o1⟩:=o1;obtain⟨pw,cw,rfl,_⟩:=o1.open;have bt1:=b1.get mD t1;have r1:rd h1 ⟨h.size+1,0,ak⟩ 2=Y [H J b.r,H J b.n]:=ZA bt1 rfl;have aK:¬h.size+1=h1.size:=mD;simp -implicitDefEqProofs only[go_sem,r1,aK];have b2:Zk h1.size h1 (h1.push (O [R pw (t l) cw,H J n].toArray 61)):=Zk.push (Z _) _;refine (RF T _ ⟨0,0⟩ (R ak 0 0) [] b (Qw.nil 0 97 Zv 8 _).ts sW).use ?_;rintro _ h3 ⟨⟨w1,w2,rfl,q1,q2⟩,b3⟩;simp only[ite_self]at q1;have B3:Zk h1.size h1 h3:=b2.trans (b3.mono b2.size);rw[iC];obtain⟨p1,c1,gX,_⟩:=q1.open;have s3:=B3.size;have x3:=B3.get mD x1;have th:=B1.trans (B3.mono mD);by_cases may:ZC b
 case neg=>
  have ee:Jn l n b=2:=by unfold Jn;rw[if_neg (fun hn=>hn ok),if_pos may]
  rw[ee,if_neg may];obtain⟨w1',ZFf⟩:∃w,w=w1:=⟨_,rfl⟩
  subst gX;have y2:=Yh x3 0;have ZV:h.size+2<h3.size:=mD;have Xb:¬h.size+2=h3.size:=mD;unfold XC;simp -implicitDefEqProofs only[go_sem,y2,Xb,ZV];exact⟨⟨_,rfl,YB.nil _ _ _⟩,(th.Zu mD _).Y1 vI _⟩
 have ee:Jn l n b=JX l n 9:=by unfold Jn;rw[if_neg (fun hn=>hn ok),if_neg (fun hn=>hn may)]
 rw[ee,if_pos may];obtain⟨⟨m1,m2⟩,m3,m4⟩:=may;obtain⟨br,bn⟩:=b;obtain⟨r,rfl⟩:∃r:Nat,br=r:=⟨br.toNat,by simp at m1;omega⟩
 obtain⟨m,rfl⟩:∃m:Nat,bn=m:=⟨bn.toNat,by simp at m3;omega⟩
 simp only at m1 m2 m3 m4;unfold JF;simp only[bD];subst gX;unfold XC;have t3:=B3.get mD (b1.get mD t0);have t13:=B3.get mD bt1;obtain⟨g,hg⟩:=ZP (h3.push (O [H J (r:Nat),H J (m:Nat),R p1 ([]:List Vt).length c1].toArray 66):Hp);simp -implicitDefEqProofs only[go_sem];have e3:h3.push (O #[Value.int J (r:Nat),H J (m:Nat),R p1 0 c1] 66)=g:=hg.symm;rw[e3];have bg:Zk h3.size h3 g:=by rw[hg];exact Zk.push (Z _) _
 have sg:g.size=h3.size+1:=by rw[hg];simp
 clear e3 hg;have Bg:Zk h.size h g:=th.trans (bg.mono mD);have x4g:=bg.get mD x3;have t4:=bg.get mD t3;have t14:=bg.get mD t13;have r0:rd g ⟨h.size,0,ak⟩ 2=Y [R p (t l) c,H J n]:=ZA t4 rfl;have c0:V.hc g ⟨h.size+1,0,ak⟩=Y (H J (r:Nat)):=by rw[Zn t14];rfl
 have c1':V.hc g ⟨h.size+1,1,ak⟩=Y (H J (m:Nat)):=by rw[Zn t14];rfl
 have k0:h.size<g.size:=mD;have k1:h.size+1<g.size:=mD;refine VS.z (g.size) [12,13] (.q 0 (.p 2 (.q 3 (.p 4 (.q 5 (.or 1 (.s 6 (.s 7 (.s 8 (.s 9 (.p 10 (.p 11 (.w 12 (.w 13 .nil)))))))) (.s 6 (.or 1 (.s 7 (.s 8 (.s 9 (.p 10 (.p 11 (.w 12 (.w 13 .nil))))))) (.s 7 (.s 1 (.s 8 (.s 9 (.p 10 (.p 11 (.w 12 (.w 13 .nil)))))))))))))))) mixed sV ?_;simp -implicitDefEqProofs only[go_sem,r0,c0,c1',k0,k1];refine⟨?_,?_,?_⟩
 .have o0:YB g.size 5 (g.push (O (([1]:List Nat).map bv).toArray 5)) (R (Y ⟨g.size,0,ak⟩) 1 1) [1]:=YB.made KC (Z _);have B0:Zk g.size g ((g.push (O (([1]:List Nat).map bv).toArray 5)).push (O (([r,m]:List Nat).map nv).toArray 3)):=(Zk.push (Z _) _).Y1 sW _;have o00:=o0.push (O (([r,m]:List Nat).map nv).toArray 3);have si:NT ((g.push (O (([1]:List Nat).map bv).toArray 5)).push (O (([r,m]:List Nat).map nv).toArray 3)) (R (Y ⟨(g.push (O (([1]:List Nat).map bv).toArray 5)).size,0,ak⟩) 2 2) [r,m]:=VM _ _;have e1:(g.push (O (([1]:List Nat).map bv).toArray 5)).size=g.size+1:=sW;rw[e1]at si;refine (S5 T _ _ [r,m] si sW (by intro x hx;simp only[bl,bk,or_false]at hx;omega)).use ?_;rintro w5 h5 ⟨o5,b5⟩;have BB:=B0.trans (b5.mono B0.size);have o1:=o00.YJ b5 (Z _);have s4:=o5.bs;simp -implicitDefEqProofs only[go_sem,BB];refine ZR (E:=5) (B:=g.size) Xn an TX SN SM o1 BB.size s4 (by rw[ZW];simp) ?_;intro w6 h6 o6 b6 _;have B6:Zk g.size g h6:=BB.trans b6;have dN:=Bg.trans (B6.mono mD);have xP:YB g.size 5 h6 w6 (1 :: ZK [r,m]):=o6;simp -implicitDefEqProofs only[go_sem,B6];refine (S4 T h6 _ w6 n l (1 :: ZK [r,m]) (s.YJ dN) hl xP.bs (by simp only[a4,ZW,a7];omega) (tk.QH dN)).use ?_;rintro _ h7 ⟨⟨w7,rfl,o7⟩,b7⟩;have el:(1 :: ZK [r,m]).length=9:=by simp only[a4,ZW,a7]
  rw[el]at o7 ⊢;have B7:Zk g.size g h7:=B6.trans (b7.mono B6.size);have FW:=dN.trans (b7.mono dN.size);have x7:=B7.get mD x4g;have y7:=Yh x7 0;have GC:h.size+2<h7.size:=Za x7;generalize YS (1 :: ZK [r,m])=FR at *;obtain⟨E,hE⟩:=ZP (JX l n 9);rw[<-hE]at o7 ⊢;obtain⟨z,hz⟩:∃z:Int,z=if E=0 then n else 0:=⟨_,rfl⟩
  rw[<-hz];obtain⟨pz,cz,rfl,_⟩:=o7.open;have o7l:=o7;simp -implicitDefEqProofs only[go_sem,B7,y7,GC];refine⟨⟨_,rfl,?_⟩,FW.Zu mD _⟩;exact (o7.Yi (by have:=B6.size;omega) _).mono (by have:=B6.size;omega)
 .have B0a:Zk g.size g (g.push (O (([r,m]:List Nat).map nv).toArray 3)):=Zk.push (Z _) _;have o0:YB g.size 5 ((g.push (O (([r,m]:List Nat).map nv).toArray 3)).push (O (([1]:List Nat).map bv).toArray 5)) (R (Y ⟨(g.push (O (([r,m]:List Nat).map nv).toArray 3)).size,0,ak⟩) 1 1) [1]:=(YB.made KC (Z _)).mono sW;have B0:Zk g.size g ((g.push (O (([r,m]:List Nat).map nv).toArray 3)).push (O (([1]:List Nat).map bv).toArray 5)):=B0a.Y1 sW _;have si0:NT (g.push (O (([r,m]:List Nat).map nv).toArray 3)) (R (Y ⟨g.size,0,ak⟩) 2 2) [r,m]:=VM _ _;have si:=si0.YJ (Zk.push (Z _) (O (([1]:List Nat).map bv).toArray 5));have e1:(g.push (O (([r,m]:List Nat).map nv).toArray 3)).size=g.size+1:=sW;rw[e1]at o0;refine (S5 T _ _ [r,m] si sW (by intro x hx;simp only[bl,bk,or_false]at hx;omega)).use ?_;rintro w5 h5 ⟨o5,b5⟩;have BB:=B0.trans (b5.mono B0.size);have o1:=o0.YJ b5 (Z _);have s4:=o5.bs;simp -implicitDefEqProofs only[go_sem,BB];refine ZR (E:=5) (B:=g.size) Xn an TX SN SM o1 BB.size s4 (by rw[ZW];simp) ?_;intro w6 h6 o6 b6 _;have B6:Zk g.size g h6:=BB.trans b6;have dN:=Bg.trans (B6.mono mD);have xP:YB g.size 5 h6 w6 (1 :: ZK [r,m]):=o6;simp -implicitDefEqProofs only[go_sem,B6];refine (S4 T h6 _ w6 n l (1 :: ZK [r,m]) (s.YJ dN) hl xP.bs (by simp only[a4,ZW,a7];omega) (tk.QH dN)).use ?_;rintro _ h7 ⟨⟨w7,rfl,o7⟩,b7⟩;have el:(1 :: ZK [r,m]).length=9:=by simp only[a4,ZW,a7]
  rw[el]at o7 ⊢;have B7:Zk g.size g h7:=B6.trans (b7.mono B6.size);have FW:=dN.trans (b7.mono dN.size);have x7:=B7.get mD x4g;have y7:=Yh x7 0;have GC:h.size+2<h7.size:=Za x7;generalize YS (1 :: ZK [r,m])=FR at *;obtain⟨E,hE⟩:=ZP (JX l n 9);rw[<-hE]at o7 ⊢;obtain⟨z,hz⟩:∃z:Int,z=if E=0 then n else 0:=⟨_,rfl⟩
  rw[<-hz];obtain⟨pz,cz,rfl,_⟩:=o7.open;have o7l:=o7;simp -implicitDefEqProofs only[go_sem,B7,y7,GC];refine⟨⟨_,rfl,?_⟩,FW.Zu mD _⟩;exact (o7.Yi (by have:=B6.size;omega) _).mono (by have:=B6.size;omega)
 .have B0a:Zk g.size g (g.push (O (([r,m]:List Nat).map nv).toArray 3)):=Zk.push (Z _) _;have si:NT (g.push (O (([r,m]:List Nat).map nv).toArray 3)) (R (Y ⟨g.size,0,ak⟩) 2 2) [r,m]:=VM _ _;refine (S5 T _ _ [r,m] si sW (by intro x hx;simp only[bl,bk,or_false]at hx;omega)).use ?_;rintro w5 h5 ⟨o5,b5⟩;have BB5:=B0a.trans (b5.mono B0a.size);have BB:Zk g.size g (h5.push (O (([1]:List Nat).map bv).toArray 5)):=BB5.Y1 BB5.size _;have o1:YB g.size 5 (h5.push (O (([1]:List Nat).map bv).toArray 5)) (R (Y ⟨h5.size,0,ak⟩) 1 1) [1]:=(YB.made KC (Z _)).mono BB5.size;have s4:=o5.bs.YJ (Zk.push (Z h5.size) (O (([1]:List Nat).map bv).toArray 5));simp -implicitDefEqProofs only[go_sem,BB5,BB];refine ZR (E:=5) (B:=g.size) Xn an TX SN SM o1 BB.size s4 (by rw[ZW];simp) ?_;intro w6 h6 o6 b6 _;have B6:Zk g.size g h6:=BB.trans b6;have dN:=Bg.trans (B6.mono mD);have xP:YB g.size 5 h6 w6 (1 :: ZK [r,m]):=o6;simp -implicitDefEqProofs only[go_sem,B6];refine (S4 T h6 _ w6 n l (1 :: ZK [r,m]) (s.YJ dN) hl xP.bs (by simp only[a4,ZW,a7];omega) (tk.QH dN)).use ?_;rintro _ h7 ⟨⟨w7,rfl,o7⟩,b7⟩;have el:(1 :: ZK [r,m]).length=9:=by simp only[a4,ZW,a7]
  rw[el]at o7 ⊢;have B7:Zk g.size g h7:=B6.trans (b7.mono B6.size);have FW:=dN.trans (b7.mono dN.size);have x7:=B7.get mD x4g;have y7:=Yh x7 0;have GC:h.size+2<h7.size:=Za x7;generalize YS (1 :: ZK [r,m])=FR at *;obtain⟨E,hE⟩:=ZP (JX l n 9);rw[<-hE]at o7 ⊢;obtain⟨z,hz⟩:∃z:Int,z=if E=0 then n else 0:=⟨_,rfl⟩
  rw[<-hz];obtain⟨pz,cz,rfl,_⟩:=o7.open;have o7l:=o7;simp -implicitDefEqProofs only[go_sem,B7,y7,GC];refine⟨⟨_,rfl,?_⟩,FW.Zu mD _⟩;exact (o7.Yi (by have:=B6.size;omega) _).mono (by have:=B6.size;omega)
theorem Sb(n:Nat):Qa n [Value.int am 0]=(b8 n 0).map bv:=by
 induction n with
 | zero=>rfl
 | succ n ih=>rw[Qa,ih];rfl
theorem GD:∀(vs zs:List aU),(t vs)<=(t zs)->Xd zs 0 vs=vs++zs.drop (t vs)
 | [],zs,_=>by cases zs<;>rfl
 | v :: vs,[],h=>by simp at h
 | v :: vs,z :: zs,h=>by
  rw[Xd,GD vs zs (by simpa using h)];rfl
theorem aL(key:List Nat):Xd ((b8 64 0).map bv) 0 (((N0 key).map bv).take (min (N0 key).length 64))=(VA key).map bv:=by
 have:=TZ key;rw[bw this,a3 sW,GD _ _ vI,List.length_map,<-List.map_drop,List.drop_replicate,VA,List.map_append]
theorem xQ(T:a9)(h:Hp)(v:aU)(key:List Nat)(w:Nat)(s:Bs h v key)(hk:(t key)<=100000)(hw:w<256)(tk:Tk h):
  Zg a0 T 112 #[v,H am w] h fun v' h'=>YB h.size 5 h' v' (TD key w)/\Zk h.size h h':=by
 obtain⟨p,cp,rfl,Vx⟩:=s.open;have pF:Nb key:=s.byte;refine Zg.XK [_,_] Tryz.func112 ?_;by_cases e64:64<(t key)
 .have ZgK:64<((t key):Int):=mD;have hK:TC key=N0 key:=by unfold N0;rw[if_pos e64]
  simp -implicitDefEqProofs only[go_sem,ZgK];refine (CT T _ _ key s hk tk).use ?_;rintro u g ⟨ou,bg⟩;have su:=ou.bs;rw[hK]at su;simp -implicitDefEqProofs only[go_sem];have hG:Zk h.size h (g.push (O (Qa 64 [Value.int am 0]).toArray 5)):=bg.add _;have sK':=su.YJ (Zk.push (Z g.size) (O (Qa 64 [Value.int am 0]).toArray 5));have kl:=TZ key;refine H5 (o:=0) (dl:=64) (dc:=64) (c:=Qa 64 [Value.int am 0]) (E':=5) Xn TX Zd sK'.sl (Ru _) (by rw[Sb];simp;omega) ?_;rw[TM,Sb,aL];have ky:Zk h.size h (g.push (O ((VA key).map bv).toArray 5)):=bg.add _;have OM:(g.push (O ((VA key).map bv).toArray 5))[g.size]? = Y (O (((TD key w).take 0++(VA key).drop 0).map bv++[]).toArray 5):=by
   rw[bz,b9,bo,au];exact Zd
  simp -implicitDefEqProofs only[go_sem];refine VS.Yq (fun F' g'=>Zk h.size h g'/\F' 1=H am w/\F' 5=R (Y ⟨g.size,0,ak⟩) 64 64/\F' 17=H J 64/\∃i:Nat,i<=64/\F' 18=H J i/\g'[g.size]? = Y (O (((TD key w).take i++(VA key).drop i).map bv++[]).toArray 5))
   (fun F _=>64-(vi (F 18)).toNat) rfl ⟨ky,rfl,rfl,rfl,0,mD,rfl,OM⟩ ?_
  clear hG ky OM sK';rintro F g' ⟨hg,f1,f5,f17,i,hi,f18,hx⟩;have PQ:=Za hx;have pG:((TD key w).take i++(VA key).drop i).length=64:=by rw[aI,aw,bj,Yy,Qd];omega
  by_cases ZV:i<64
  .have Z4:(i:Int)<64:=mD;have q1:=Z7 (f:=bv) hx (i:=i) mD;have e0:((TD key w).take i++(VA key).drop i).getD i 0=(VA key).getD i 0:=by
    rw[aa,a8 (by rw[aw,Yy];omega),aw,Yy,bw mD,bx,bA,cn,<-aa]
   rw[e0]at q1;unfold bv at q1;have eX:=E8 key w ZV;have cs:=Yz (f:=bv) hx (i:=i) mD ((TD key w).getD i 0) rfl;rw[Mb _ _ i (by rw[Yy];exact ZV) (by rw[Yy,Qd])]at cs;have hZb:=Z3 (Ka pF) i;have ox:Unit->YL .xor am (((VA key).getD i 0:Nat):Int) (w:Int)=(((TD key w).getD i 0:Nat):Int):=fun _=>by rw[eX];exact D7 _ _ hZb hw
   have uc:QF g' ⟨g.size,i,ak⟩ (H am (((TD key w).getD i 0:Nat):Int))=_:=cs;simp -implicitDefEqProofs only[go_sem,f1,f5,f17,f18,Z4,q1,ox (),uc];refine⟨⟨hg.Zu (bg.size) _,f1,f5,f17,i+1,ZV,rfl,Yd hx⟩,?_⟩;simp only[vi,Zt,↓reduceIte,f18];omega
  .have Xw:¬(i:Int)<64:=mD;obtain rfl:i=64:=mD;rw[a3 (by rw[Yy];omega),a5 (by rw[Qd];omega),au,au]at hx;simp -implicitDefEqProofs only[go_sem,f5,f17,f18,Xw];exact⟨⟨.inr ⟨g.size,64,[],bg.size,by rw[Yy],by rw[au];exact hx,by simp[Yy],by rw[Yy];rfl,by rw[Yy];omega⟩,E7 pF hw⟩,hg⟩
 .have ZgK:¬64<((t key):Int):=mD;have hK:N0 key=key:=by unfold N0;rw[if_neg e64]
  have b0:=Zk.refl h.size h;have su:=s;have Ll:Bs h (R p (N0 key).length cp) (N0 key):=by rw[hK];exact s
  simp -implicitDefEqProofs only[go_sem,ZgK];have hG:Zk h.size h (h.push (O (Qa 64 [Value.int am 0]).toArray 5)):=b0.add _;have hkl:(t key)=(N0 key).length:=by rw[hK]
  rw[hkl];have sK':=Ll.YJ (Zk.push (Z h.size) (O (Qa 64 [Value.int am 0]).toArray 5));have kl:=TZ key;refine H5 (o:=0) (dl:=64) (dc:=64) (c:=Qa 64 [Value.int am 0]) (E':=5) Xn TX Zd sK'.sl (Ru _) (by rw[Sb];simp;omega) ?_;rw[TM,Sb,aL];have ky:Zk h.size h (h.push (O ((VA key).map bv).toArray 5)):=b0.add _;have OM:(h.push (O ((VA key).map bv).toArray 5))[h.size]? = Y (O (((TD key w).take 0++(VA key).drop 0).map bv++[]).toArray 5):=by
   rw[bz,b9,bo,au];exact Zd
  simp -implicitDefEqProofs only[go_sem];refine VS.Yq (fun F' g'=>Zk h.size h g'/\F' 1=H am w/\F' 5=R (Y ⟨h.size,0,ak⟩) 64 64/\F' 17=H J 64/\∃i:Nat,i<=64/\F' 18=H J i/\g'[h.size]? = Y (O (((TD key w).take i++(VA key).drop i).map bv++[]).toArray 5))
   (fun F _=>64-(vi (F 18)).toNat) rfl ⟨ky,rfl,rfl,rfl,0,mD,rfl,OM⟩ ?_
  clear hG ky OM sK';rintro F g' ⟨hg,f1,f5,f17,i,hi,f18,hx⟩;have PQ:=Za hx;have pG:((TD key w).take i++(VA key).drop i).length=64:=by rw[aI,aw,bj,Yy,Qd];omega
  by_cases ZV:i<64
  .have Z4:(i:Int)<64:=mD;have q1:=Z7 (f:=bv) hx (i:=i) mD;have e0:((TD key w).take i++(VA key).drop i).getD i 0=(VA key).getD i 0:=by
    rw[aa,a8 (by rw[aw,Yy];omega),aw,Yy,bw mD,bx,bA,cn,<-aa]
   rw[e0]at q1;unfold bv at q1;have eX:=E8 key w ZV;have cs:=Yz (f:=bv) hx (i:=i) mD ((TD key w).getD i 0) rfl;rw[Mb _ _ i (by rw[Yy];exact ZV) (by rw[Yy,Qd])]at cs;have hZb:=Z3 (Ka pF) i;have ox:Unit->YL .xor am (((VA key).getD i 0:Nat):Int) (w:Int)=(((TD key w).getD i 0:Nat):Int):=fun _=>by rw[eX];exact D7 _ _ hZb hw
   have uc:QF g' ⟨h.size,i,ak⟩ (H am (((TD key w).getD i 0:Nat):Int))=_:=cs;simp -implicitDefEqProofs only[go_sem,f1,f5,f17,f18,Z4,q1,ox (),uc];refine⟨⟨hg.Zu (b0.size) _,f1,f5,f17,i+1,ZV,rfl,Yd hx⟩,?_⟩;simp only[vi,Zt,↓reduceIte,f18];omega
  .have Xw:¬(i:Int)<64:=mD;obtain rfl:i=64:=mD;rw[a3 (by rw[Yy];omega),a5 (by rw[Qd];omega),au,au]at hx;simp -implicitDefEqProofs only[go_sem,f5,f17,f18,Xw];exact⟨⟨.inr ⟨h.size,64,[],b0.size,by rw[Yy],by rw[au];exact hx,by simp[Yy],by rw[Yy];rfl,by rw[Yy];omega⟩,E7 pF hw⟩,hg⟩
theorem iE(T:a9)(h:Hp)(v u:aU)(key b:List Nat)(s:Bs h v key)(sb:Bs h u b)(hk:(t key)<=10000)(hb:(t b)<=10000)(tk:Tk h):
  Zg a0 T 83 #[v,u] h fun v' h'=>YB h.size 5 h' v' (Kb key b)/\Zk h.size h h':=by
 have sb0:=sb;refine Zg.XK [_,_] Tryz.func83 ?_;simp -implicitDefEqProofs only[go_sem];refine (xQ T h v key 92 s mD mD tk).use ?_;rintro v1 h1 ⟨o1,b1⟩;have s1:=b1.size;simp -implicitDefEqProofs only[go_sem];refine (xQ T h1 v key 54 (s.YJ b1) mD mD (tk.QH b1)).use ?_;rintro v2 h2 ⟨o2,b2⟩;have s2:=b2.size;have B2:=b1.trans (b2.mono s1);have o1':=o1.YJ b2 (Z _);have l1:=Yy key 92;have l2:=Yy key 54;simp -implicitDefEqProofs only[go_sem];refine ZR (E:=5) (B:=h1.size) Xn an TX SN SM o2 s2 (sb.YJ B2) (by rw[l2];omega) ?_;intro v3 h3 o3 b3 _;have s3:=b3.size;have B3:=B2.trans (b3.mono s1);have Ztu:=o1.YJ (b2.trans b3) (Z _);simp -implicitDefEqProofs only[go_sem];refine (CT T h3 v3 _ o3.bs (by rw[aI,l2];omega) (tk.QH B3)).use ?_;rintro v4 h4 ⟨o4,b4⟩;have B4:=B3.trans (b4.mono mD);have o14:=Ztu.YJ b4 (Z _);simp -implicitDefEqProofs only[go_sem];refine ZR (E:=5) (B:=h.size) Xn an TX SN SM o14 B4.size o4.bs (by rw[l1,QM];omega) ?_;intro v5 h5 o5 b5 _;have B5:=B4.trans b5;simp -implicitDefEqProofs only[go_sem];refine (CT T h5 v5 _ o5.bs (by rw[aI,l1,QM];omega) (tk.QH B5)).use ?_;rintro v6 h6 ⟨o6,b6⟩;simp -implicitDefEqProofs only[go_sem];exact⟨o6.mono B5.size,B5.trans (b6.mono B5.size)⟩
def GF(m n:Nat):Int:=if 256<m\/2000<n then 1 else 0
def xR(B:Nat)(h':Hp)(v':aU)(key b:List Nat):Prop:=∃w,v'=.tuple [w,H J (GF (t key) (t b))].toArray/\YB B 5 h' w (if GF (t key) (t b)=0 then Kb key b else [])
theorem pJ(T:a9)(h:Hp)(v u:aU)(key b:List Nat)(s:Bs h v key)(sb:Bs h u b)(tk:Tk h):
  Zg a0 T 82 #[v,u] h fun v' h'=>xR h.size h' v' key b/\Zk h.size h h':=by
 obtain⟨p,cp,rfl,Vx⟩:=s.open;obtain⟨q,cq,rfl,EO⟩:=sb.open;refine Zg.XK [_,_] Tryz.func82 ?_;unfold xR GF;by_cases e1:256<(t key)
 .have tj:256<((t key):Int):=mD;rw[if_pos (.inl e1)];simp -implicitDefEqProofs only[go_sem,tj];exact⟨_,rfl,YB.nil _ _ _⟩
 .have tj:¬256<((t key):Int):=mD;by_cases e2:2000<(t b)
  .have e2':2000<((t b):Int):=mD;rw[if_pos (.inr e2)];simp -implicitDefEqProofs only[go_sem,tj,e2'];exact⟨_,rfl,YB.nil _ _ _⟩
  .have e2':¬2000<((t b):Int):=mD;rw[if_neg mD];simp -implicitDefEqProofs only[go_sem,tj,e2'];refine (iE T _ _ _ key b s sb mD mD tk).use ?_;rintro w h1 ⟨o1,b1⟩;simp -implicitDefEqProofs only[go_sem,b1];exact⟨_,rfl,o1⟩
theorem aM(T:a9)(h:Hp)(v u:aU)(key b:List Nat)(s:Bs h v key)(sb:Bs h u b)(hk:(t key)<=256)(hb:(t b)<=2000)(tk:Tk h):
  Zg a0 T 52 #[v,u] h fun v' h'=>(Bs h' v' ((Kb key b).take 16)/\Pj v')/\Zk h.size h h':=by
 refine Zg.XK [_,_] Tryz.func52 ?_;simp -implicitDefEqProofs only[go_sem];refine (pJ T _ _ _ key b s sb tk).use ?_;rintro _ h1 ⟨⟨w,rfl,o1⟩,b1⟩;have e0:GF (t key) (t b)=0:=by unfold GF;rw[if_neg mD]
 rw[e0,if_pos rfl]at o1;rw[e0];have ml:=T3 key b;generalize Kb key b=M at *;obtain⟨p,c,rfl,hc⟩:=o1.open;have sM:=o1.bs;obtain⟨p',c',hv,hh⟩:=sM.Vn;simp only[Value.slice.injEq]at hv;obtain⟨rfl,_,rfl⟩:=hv;obtain⟨bb,ob,rfl,_⟩:=hh (by intro e;rw[e]at ml;cases ml);have fin:=Bs.Na sM (m:=16) mD c;rw[ml]at hc ⊢;have h16:(16:Int)<=(c:Int):=mD;have Ca:¬c=0:=mD;simp -implicitDefEqProofs only[go_sem,h16,Ca,bR,bS,b1];exact⟨fin,show 16<=c by omega⟩
def xS(c r u:Nat):List Nat:=[c,r]++JR u
def aN(key:List Nat)(c r u:Nat):List Nat:=xS c r u++(Kb key (xS c r u)).take 16
theorem Ij(c r u:Nat):(xS c r u).length=6:=rfl
theorem Ik(key:List Nat)(c r u:Nat):(aN key c r u).length=22:=by
 rw[aN,aI,Ij,aw,T3];rfl
def V7(kl:Nat)(c r u:Int):Int:=if kl≠32 then 1 else JW c r u
def iF(B:Nat)(h':Hp)(v':aU)(key:List Nat)(c r u:Int):Prop:=∃w,v'=.tuple [w,H J (V7 (t key) c r u)].toArray/\YB B 5 h' w (if V7 (t key) c r u=0 then aN key c.toNat r.toNat u.toNat else [])
theorem aO{c r u:Int}(h:JW c r u=0):∃c' r' u':Nat,c=c'/\r=r'/\u=u'/\c'<8/\r'<8/\u'<=1048576:=by
 unfold JW at h;split at h
 .cases h
 .exact⟨c.toNat,r.toNat,u.toNat,mD,mD,mD,mD,mD,mD⟩
theorem xV(T:a9)(h:Hp)(v:aU)(key:List Nat)(c r u:Int)(s:Bs h v key)(tk:Tk h):
  Zg a0 T 31 #[v,a2 (Rx c r u).toArray] h fun v' h'=>iF h.size h' v' key c r u/\Zk h.size h h':=by
 obtain⟨p,cp,rfl,_⟩:=s.open;refine Zg.XK [_,_] Tryz.func31 ?_;unfold iF Rx;by_cases hk:(t key)=32
 case neg=>
  have ee:V7 (t key) c r u=1:=by unfold V7;rw[if_pos hk]
  have O9:¬((t key):Int)=32:=mD;rw[ee];simp -implicitDefEqProofs only[go_sem,O9];exact⟨_,rfl,YB.nil _ _ _⟩
 have O9:((t key):Int)=32:=mD;have ee:V7 (t key) c r u=JW c r u:=by unfold V7;rw[if_neg mD]
 rw[ee];simp -implicitDefEqProofs only[go_sem,O9];refine (Gb T _ c r u).use ?_;rintro _ _ ⟨rfl,rfl⟩;unfold Rx;by_cases q:JW c r u=0
 case neg=>
  simp -implicitDefEqProofs only[go_sem,q];exact⟨_,rfl,YB.nil _ _ _⟩
 obtain⟨c,r,u,rfl,rfl,rfl,hc,hr,hu⟩:=aO q;rw[q];have ec:(c:Int)%256=(c:Int):=mD;have er:(r:Int)%256=(r:Int):=mD;simp only[bD];simp -implicitDefEqProofs only[go_sem,ec,er];obtain⟨h1,Xp⟩:=ZP ((h.push (O [Value.int J c,H J r,H J u].toArray 82)).push (O [Value.int J c,H J r,H J u].toArray 82):Hp);have b1:Zk h.size h h1:=by rw[Xp];exact ((Zk.refl _ _).add _).add _
 have s1:h1.size=h.size+1+1:=by rw[Xp];simp
 rw[<-s1,<-Xp];clear Xp;have EF:∀x∈[c,r],x<256:=by
  intro x hx;simp only[bl,bk,or_false]at hx;omega
 have o2:YB h1.size 5 (h1.push (O (([c,r]:List Nat).map bv).toArray 5)) (R (Y ⟨h1.size,0,ak⟩) 2 2) [c,r]:=YB.made EF (Z _);have B2:Zk h1.size h1 (h1.push (O (([c,r]:List Nat).map bv).toArray 5)):=Zk.push (Z _) _;refine (kA T _ h1.size _ [c,r] u o2 sW sW mD).use ?_;rintro w3 h3 ⟨o3,b3⟩;have B3:=B2.trans b3;have th:Zk h.size h h3:=b1.trans (B3.mono mD);have o3':YB h1.size 5 h3 w3 (xS c r u):=o3;have gl:=Ij c r u;unfold aN;generalize xS c r u=G at *;simp -implicitDefEqProofs only[go_sem];rw[<-O9];refine (aM T h3 _ w3 key G (s.YJ th) o3'.bs mD mD (tk.QH th)).use ?_;rintro w4 h4 ⟨⟨s4,_⟩,b4⟩;have s3:=B3.size;have o34:=o3'.YJ b4 (Z _);have Bh4:=th.trans (b4.mono th.size);simp -implicitDefEqProofs only[go_sem];refine ZR (E:=5) (B:=h1.size) Xn an TX SN SM o34 (by have:=b4.size;omega) s4 (by rw[gl,aw];omega) ?_;intro w5 h5 o5 b5 _;have Bh5:=Bh4.trans (b5.mono mD);simp -implicitDefEqProofs only[go_sem,Bh5];exact⟨_,rfl,o5.mono mD⟩
def CU:List aU:=Rx 0 0 0
def QQ(key l:List Nat):Int:=if (t key)≠32\/(t l)≠22 then 1 else if (Kb key (l.take 6)).take 16≠l.drop 6 then 6 else JW (l.getD 0 0:Nat) (l.getD 1 0:Nat) (XZ l 2:Nat)
def CV(key l:List Nat):List aU:=if QQ key l=0 then Rx (l.getD 0 0:Nat) (l.getD 1 0:Nat) (XZ l 2:Nat) else CU
theorem GG(T:a9)(h:Hp)(v u:aU)(key l:List Nat)(s:Bs h v key)(sl:Bs h u l)(cu:Pj u)(tk:Tk h):
  Zg a0 T 62 #[v,u] h fun v' h'=>v'=.tuple [a2 (CV key l).toArray,H J (QQ key l)].toArray/\Zk h.size h h':=by
 obtain⟨p,cp,rfl,_⟩:=s.open;obtain⟨q,cq,rfl,hq⟩:=sl.Vn;refine Zg.XK [_,_] Tryz.func62 ?_;by_cases hk:(t key)=32
 case neg=>
  have ee:QQ key l=1:=by unfold QQ;rw[if_pos (.inl hk)]
  have O9:¬((t key):Int)=32:=mD;unfold CV;rw[ee];unfold CU Rx;simp +contextual -implicitDefEqProofs only[go_sem,O9]
  (repeat' (first|exact Zk.refl _ _|assumption|refine Zk.add ?_ _|refine Zk.Zu ?_ IX _|refine Zk.trans KO ?_))
 have O9:((t key):Int)=32:=mD;by_cases hl:(t l)=22
 case neg=>
  have ee:QQ key l=1:=by unfold QQ;rw[if_pos (.inr hl)]
  have dI:¬((t l):Int)=22:=mD;unfold CV;rw[ee];unfold CU Rx;simp +contextual -implicitDefEqProofs only[go_sem,O9,dI]
  (repeat' (first|exact Zk.refl _ _|assumption|refine Zk.add ?_ _|refine Zk.Zu ?_ IX _|refine Zk.trans KO ?_))
 have dI:((t l):Int)=22:=mD;obtain⟨b,o,rfl,hb,XH⟩:=hq (by intro e;rw[e]at hl;cases hl);have U3:22<=cq:=by have:(t l)<=cq:=cu;omega
 have h6c:(6:Int)<=(cq:Int):=mD;have Ca:¬cq=0:=mD;have hc6:¬cq=6:=mD;obtain⟨y0,oJ⟩:∃y:Int,y=((l.getD 0 0:Nat):Int):=⟨_,rfl⟩
 obtain⟨y1',CJ⟩:∃y:Int,y=((l.getD 1 0:Nat):Int):=⟨_,rfl⟩
 obtain⟨y2',hy2⟩:∃y:Int,y=((l.getD 2 0:Nat):Int):=⟨_,rfl⟩
 obtain⟨y3,hy3⟩:∃y:Int,y=((l.getD 3 0:Nat):Int):=⟨_,rfl⟩
 obtain⟨y4,hy4⟩:∃y:Int,y=((l.getD 4 0:Nat):Int):=⟨_,rfl⟩
 obtain⟨y5,hy5⟩:∃y:Int,y=((l.getD 5 0:Nat):Int):=⟨_,rfl⟩
 obtain⟨yY,hyY⟩:∃y:Int,y=((XZ l 2:Nat):Int):=⟨_,rfl⟩
 have z0:=Z3 sl.byte 0;have z1:=Z3 sl.byte 1;have z2:=Z3 sl.byte 2;have z3:=Z3 sl.byte 3;have z4:=Z3 sl.byte 4;have z5:=Z3 sl.byte 5;have eo:Unit->YL .or J (YL .or J (YL .or J (Xq J y2' 24) (Xq J y3 16)) (Xq J y4 8)) y5=yY:=fun _=>by
  rw[hy2,hy3,hy4,hy5,hyY];exact Cu z2 z3 z4 z5
 have yb:(0<=y0/\y0<256)/\(0<=y1'/\y1'<256)/\(0<=y2'/\y2'<256)/\(0<=y3/\y3<256)/\(0<=y4/\y4<256)/\(0<=y5/\y5<256):=by
  rw[oJ,CJ,hy2,hy3,hy4,hy5];omega
 obtain⟨⟨ya1,ya2⟩,⟨ya3,ya4⟩,⟨ya5,ya6⟩,⟨ya7,ya8⟩,⟨ya9,ZFk⟩,ZFl,ZFm⟩:=yb;have ee:QQ key l=if (Kb key (l.take 6)).take 16≠l.drop 6 then 6 else JW y0 y1' yY:=by
  rw[oJ,CJ,hyY];unfold QQ;rw[if_neg mD]
 have eT:CV key l=if QQ key l=0 then Rx y0 y1' yY else CU:=by rw[oJ,CJ,hyY];rfl
 have pK:∀i,i<22->V.hc h ⟨b,o+i,ak⟩=Y (H am (l.getD i 0:Nat)):=fun i hi=>XH i mD;have q0:=pK 0 mD;have q1:=pK 1 mD;have q2:=pK 2 mD;have q3:=pK 3 mD;have q4:=pK 4 mD;have q5:=pK 5 mD;rw[<-oJ]at q0;rw[<-CJ]at q1;rw[<-hy2]at q2;rw[<-hy3]at q3;rw[<-hy4]at q4;rw[<-hy5]at q5;obtain⟨h1,Xp⟩:=ZP (h.push (O CU.toArray 82):Hp);have b1:Zk h.size h h1:=by rw[Xp];exact Zk.push (Z _) _
 have s1:h1.size=h.size+1:=by rw[Xp];simp
 have x1:h1[h.size]? = Y (O CU.toArray 82):=by rw[Xp];exact Zd
 have e1:h.push (O #[Value.int J 0,H J 0,H J 0] 82)=h1:=Xp.symm;rw[hl]at sl XH ⊢;simp -implicitDefEqProofs only[go_sem,O9,dI];rw[e1];clear e1 Xp;have sl1:=sl.YJ b1;have s61:Bs h1 (R (Y ⟨b,o,ak⟩) 6 cq) (l.take 6):=by
  rw[<-hl]at sl1;exact Bs.Na sl1 mD cq
 have t6:(l.take 6).length<=2000:=aaa;obtain⟨M,hM⟩:=ZP ((Kb key (l.take 6)).take 16);have ml:(t M)<=140737488355328:=by rw[hM,aw];omega
 rw[<-hM]at ee;refine VS.mono (N:=fun F g=>Zk h1.size h1 g/\F 1=R (Y ⟨b,o,ak⟩) 22 cq/\F 4=aF (Y ⟨h.size,0,ak⟩)/\F 24=.bool (!decide (M=l.drop 6))) ?_ ?_ (fun _ _ _ h=>h) (fun _ _ h=>h)
 .refine VS.z (h1.size) [] (.p 0 (.p 1 (.p 2 (.p 4 (.p 5 (.s 3 (.s 6 (.p 7 .nil)))))))) mixed sV ?_;simp -implicitDefEqProofs only[go_sem,h6c,Ca,hc6,bR,bS];rw[<-O9];refine (aM T h1 _ _ key (l.take 6) (s.YJ b1) s61 mD t6 (tk.QH b1)).use ?_;rintro w h2 ⟨⟨s2,_⟩,b2⟩;rw[<-hM]at s2;have sl2:=RJ (sl1.YJ b2) (k:=6) mD hl (cq-6);simp -implicitDefEqProofs only[go_sem,b2];refine (Cq T h2 w _ M (l.drop 6) s2 sl2 ml).pure ?_;simp -implicitDefEqProofs only[go_sem,b2]
 rintro F g ⟨bg,f1,f4,f24⟩;have Bg:=b1.trans (bg.mono mD);have k0:g[h.size]? = Y (O CU.toArray 82):=bg.get mD x1;have k1:rd g ⟨h.size,0,ak⟩ 3=Y CU:=ZA k0 rfl;have k2:=Yh k0 0;have PQ:=Za k0;clear hM;unfold CU Rx at *;by_cases hm:M=l.drop 6
 case neg=>
  have hd:decide (M=l.drop 6)=false:=decide_eq_false hm;rw[hd]at f24;rw[if_pos hm]at ee;rw[eT,ee];simp +contextual -implicitDefEqProofs only[go_sem,f1,f4,f24,k1,k2];exact Bg.Zu (Z _) _
 have hd:decide (M=l.drop 6)=true:=decide_eq_true hm;rw[hd]at f24;rw[if_neg (fun hn=>hn hm)]at ee;have e0:V.hc g ⟨b,o,ak⟩=Y (H am y0):=by rw[Bg.hc (by exact hb)];exact q0
 have e1:V.hc g ⟨b,o+1,ak⟩=Y (H am y1'):=by rw[Bg.hc (by exact hb)];exact q1
 have e2:V.hc g ⟨b,o+2,ak⟩=Y (H am y2'):=by rw[Bg.hc (by exact hb)];exact q2
 have e3:V.hc g ⟨b,o+3,ak⟩=Y (H am y3):=by rw[Bg.hc (by exact hb)];exact q3
 have e4:V.hc g ⟨b,o+4,ak⟩=Y (H am y4):=by rw[Bg.hc (by exact hb)];exact q4
 have e5:V.hc g ⟨b,o+5,ak⟩=Y (H am y5):=by rw[Bg.hc (by exact hb)];exact q5
 rw[eT,ee];clear oJ CJ hy2 hy3 hy4 hy5 hyY;have dO:b<g.size:=cd hb Bg.size;simp -implicitDefEqProofs only[go_sem,f1,f4,f24];refine VS.z (g.size) [32] (.p 0 (.p 1 (.q 2 (.p 3 (.p 4 (.p 5 (.q 6 (.p 7 (.p 8 (.p 9 (.q 10 (.p 11 (.p 12 (.p 13 (.p 14 (.q 15 (.p 16 (.p 17 (.p 18 (.p 19 (.p 20 (.q 21 (.p 22 (.p 23 (.p 24 (.p 25 (.p 26 (.q 27 (.p 28 (.p 29 (.p 30 (.s 31 (.w 32 .nil))))))))))))))))))))))))))))))))) mixed sV ?_;simp -implicitDefEqProofs only[go_sem,f1,f4,dO,e0,e1,e2,e3,e4,e5,eo ()];refine (Gb T _ y0 y1' yY).use ?_;rintro _ _ ⟨rfl,rfl⟩;unfold Rx;obtain⟨E,hE⟩:=ZP (JW y0 y1' yY);rw[<-hE];by_cases q:E=0
 .rw[if_pos q];simp +contextual -implicitDefEqProofs only[go_sem,q,f1,f4,k1,k2,PQ]
  (repeat' (first|exact Zk.refl _ _|assumption|refine Zk.add ?_ _|refine Zk.Zu ?_ IX _|refine Zk.trans KO ?_))
 .rw[if_neg q];simp +contextual -implicitDefEqProofs only[go_sem,q,f1,f4,k1,k2,PQ]
  (repeat' (first|exact Zk.refl _ _|assumption|refine Zk.add ?_ _|refine Zk.Zu ?_ IX _|refine Zk.trans KO ?_))
def JS(s a i:Nat)(n:Int):Int:=if 256<s\/256<a\/256<i\/n<0\/512<n then 1 else 0
theorem pL{p:Option Addr}{m c k c' b:Nat}(h:Ya (R p m c)=Y b)(hc:c'≠0):Ya (R p k c')=Y b:=by
 cases p with
 | none=>simp[Ya]at h
 | some a=>
  simp only[Ya]at h ⊢;split at h
  .cases h
  .rw[if_neg hc];exact h
theorem xW{p:Option Addr}{m c b:Nat}(h:Ya (R p m c)=Y b):c≠0:=by
 cases p with
 | none=>simp[Ya]at h
 | some a=>
  simp only[Ya]at h;split at h
  .cases h
  .assumption
def kS(B:Nat)(h':Hp)(v':aU)(JE TE info:List Nat)(n:Int):Prop:=∃w,v'=.tuple [w,H J (JS (t JE) (t TE) (t info) n)].toArray/\Pj w/\Bs h' w (if JS (t JE) (t TE) (t info) n=0 then Gp JE TE info n.toNat else [])/\∀b,Ya w=Y b->B<=b
theorem GH(T:a9)(h:Hp)(vs va vi':aU)(JE TE info:List Nat)(n:Int)(ss:Bs h vs JE)(sa:Bs h va TE)(si:Bs h vi' info)(tk:Tk h):
  Zg a0 T 53 #[vs,va,vi',H J n] h fun v' h'=>kS h.size h' v' JE TE info n/\Zk h.size h h':=by
 obtain⟨p1,c1,rfl,_⟩:=ss.open;obtain⟨p2,c2,rfl,_⟩:=sa.open;obtain⟨p3,c3,rfl,_⟩:=si.open;refine Zg.XK [_,_,_,_] Tryz.func53 ?_;unfold kS;by_cases e1:256<(t JE)
 .have tj:256<((t JE):Int):=by omega
  have ee:JS (t JE) (t TE) (t info) n=1:=by unfold JS;rw[if_pos (.inl e1)]
  rw[ee];simp -implicitDefEqProofs only[go_sem,tj];exact⟨_,rfl,Z _,(YB.nil 0 5 _).bs,fun b hb=>by simp[Ya]at hb⟩
 have tj:¬256<((t JE):Int):=by omega
 by_cases e2:256<(t TE)
 .have e2':256<((t TE):Int):=by omega
  have ee:JS (t JE) (t TE) (t info) n=1:=by unfold JS;rw[if_pos (.inr (.inl e2))]
  rw[ee];simp -implicitDefEqProofs only[go_sem,tj,e2'];exact⟨_,rfl,Z _,(YB.nil 0 5 _).bs,fun b hb=>by simp[Ya]at hb⟩
 have e2':¬256<((t TE):Int):=by omega
 by_cases e3:256<(t info)
 .have e3':256<((t info):Int):=by omega
  have ee:JS (t JE) (t TE) (t info) n=1:=by unfold JS;rw[if_pos (.inr (.inr (.inl e3)))]
  rw[ee];simp -implicitDefEqProofs only[go_sem,tj,e2',e3'];exact⟨_,rfl,Z _,(YB.nil 0 5 _).bs,fun b hb=>by simp[Ya]at hb⟩
 have e3':¬256<((t info):Int):=by omega
 by_cases e4:n<0
 .have ee:JS (t JE) (t TE) (t info) n=1:=by unfold JS;rw[if_pos (.inr (.inr (.inr (.inl e4))))]
  rw[ee];simp -implicitDefEqProofs only[go_sem,tj,e2',e3',e4];exact⟨_,rfl,Z _,(YB.nil 0 5 _).bs,fun b hb=>by simp[Ya]at hb⟩
 by_cases e5:512<n
 .have ee:JS (t JE) (t TE) (t info) n=1:=by unfold JS;rw[if_pos (.inr (.inr (.inr (.inr e5))))]
  rw[ee];simp -implicitDefEqProofs only[go_sem,tj,e2',e3',e4,e5];exact⟨_,rfl,Z _,(YB.nil 0 5 _).bs,fun b hb=>by simp[Ya]at hb⟩
 have ee:JS (t JE) (t TE) (t info) n=0:=by unfold JS;rw[if_neg (by omega)]
 obtain⟨m,rfl⟩:∃m:Nat,n=m:=⟨n.toNat,by omega⟩
 rw[ee,bD];simp -implicitDefEqProofs only[go_sem,tj,e2',e3',e4,e5];refine (iE T _ _ _ TE JE sa ss (by omega) (by omega) tk).use ?_;rintro vk h1 ⟨ok,b1⟩;have s1:=b1.size;obtain⟨key,ZcJ⟩:=ZP (Kb TE JE);rw[<-ZcJ]at ok;have kl:(t key)=32:=by rw[ZcJ];exact T3 _ _
 have hm:m<=512:=by omega
 have eS:Gp JE TE info m=(T4 key info 16).take m:=by rw[Gp,ZcJ]
 have dt:∀i,m<=32*i->i<=16->(T4 key info 16).take m=(T4 key info i).take m:=fun i h1 h2=>Gn key info m i 16 h1 h2;rw[eS];clear eS ZcJ;simp -implicitDefEqProofs only[go_sem];refine VS.Yq (fun F g=>Zk h1.size h1 g/\F 2=R p3 (t info) c3/\F 3=H J m/\F 10=vk/\∃i:Nat,32*i<m+32/\F 13=H J ((i+1:Nat):Int)/\YB h1.size 5 g (F 11) (T4 key info i)/\YB h1.size 5 g (F 12) (Nu key info i)/\∀b,Ya (F 12)=Y b->¬Ya (F 11)=Y b)
  (fun F _=>m+32-iB (F 11)) rfl ⟨Zk.refl _ _,rfl,rfl,rfl,0,by omega,rfl,YB.nil _ _ _,YB.nil _ _ _,fun b hb=>by cases hb⟩ ?_
 rintro F g ⟨hg,f2,f3,f10,i,hi,f13,oa,ot,Zlj⟩;have PQ:=hg.size;have Bg:=b1.trans (hg.mono s1);obtain⟨pa,ca,f11,hca⟩:=oa.open;have al:=VB key info i;rw[al]at f11 hca;by_cases ZV:32*i<m
 .have Z4:((32*i:Nat):Int)<(m:Int):=by omega
  have tl:=wF key info i;have i16:i<=16:=by omega
  have eT:Nu key info (i+1)=Kb key (Nu key info i++info++[(i+1)%256]):=rfl;have eA:T4 key info (i+1)=T4 key info i++Nu key info (i+1):=rfl;obtain⟨lt,hlT⟩:∃x,x=Nu key info i:=⟨_,rfl⟩
  rw[<-hlT]at ot tl eT;have OB:(i+1)%256<256:=Nat.mod_lt _ (by decide);obtain⟨X,hX⟩:=ZP ((i+1)%256);rw[<-hX]at eT OB;have ex:((i+1:Nat):Int)%256=(X:Int):=by rw[hX];rfl
  clear hX hlT;obtain⟨xi,hxi⟩:∃x:Int,x=((i+1:Nat):Int):=⟨_,rfl⟩
  rw[<-hxi]at ex f13;simp -implicitDefEqProofs only[go_sem,f2,f3,f10,f11,f13,Z4,ex];refine Uj (E:=5) (B:=h1.size) Xn an TX SN SM ot PQ (si.YJ Bg) (by omega) ?_;intro w2 g2 o2 b2 bt2 bk2;have s2:=b2.size;have oa2:=oa.ve bt2 (fun b hb e=>Zlj b e hb);have ol2:(lt++info).length<=400:=by rw[aI];omega
  have Zty:∀b,Ya w2=Y b->¬Ya (F 11)=Y b:=fun b hb e=>by
   rcases bk2 b hb with q|q
   .exact Zlj b q e
   .have:=oa.Zr.lt b e;omega
  simp -implicitDefEqProofs only[go_sem,f2,f3,f10,f13,ex];refine Uj (E:=5) (B:=h1.size) Xn an TX SN SM (o2.push _) (by simp;omega) (Bs.one OB 1) (by simp only[ba];omega) ?_;intro w3 g3 o3 b3 bt3 bk3;have s3:=b3.size;simp only[Array.size_push]at s3 bk3;have oa3:=(oa2.push (O [Value.int am ((X:Nat):Int)].toArray 5)).ve bt3 (fun b hb e=>Zty b e hb);have Bg3:Zk h1.size h1 g3:=((hg.trans b2).Y1 (by omega) _).trans b3;have B3:=b1.trans (Bg3.mono s1);have ok3:=ok.YJ Bg3 (Z _);simp -implicitDefEqProofs only[go_sem,f2,f3,f10,f13];refine (iE T g3 vk w3 key _ ok3.bs o3.bs (by omega) (by rw[aI];simp only[ba];omega) (tk.QH B3)).use ?_;rintro w4 g4 ⟨o4,b4⟩;rw[<-eT]at o4;have s4:=b4.size;have oa4:=oa3.YJ b4 (Z _);have Bg4:=Bg3.trans (b4.mono (by omega));rw[f11]at oa4;have tl1:=RC key info i;simp -implicitDefEqProofs only[go_sem,f2,f3,f10,f11,f13];refine Uj (E:=5) (B:=h1.size) Xn an TX SN SM oa4 Bg4.size o4.bs (by rw[al,tl1];omega) ?_;intro w5 g5 o5 b5 bt5 bk5;have s5:=b5.size;obtain⟨p5,c5,rfl,_⟩:=o5.open;have ZgM:∀b,Ya w4=Y b->¬Ya (F 11)=Y b:=fun b hb e=>by
   have q1:=o4.Zr.ZZ b hb;have q2:=oa3.Zr.lt b e;omega
  rw[f11]at ZgM;have o4':=(o4.mono (show h1.size<=g3.size by omega)).ve bt5 (fun b hb e=>ZgM b hb e);simp -implicitDefEqProofs only[go_sem,f2,f3,f10,f13];refine⟨⟨Bg4.trans b5,f2,f3,f10,i+1,by omega,?_,?_,o4',fun b hb e=>?_⟩,?_⟩
  .show Value.int J _=_;rw[hxi];rfl
  .rw[eA];exact o5
  .have e':Ya (Value.slice p5 (T4 key info i++Nu key info (i+1)).length c5)=Y b:=e;rcases bk5 b e' with q|q
   .exact ZgM b hb q
   .have:=o4.Zr.lt b hb;omega
  .simp only[iB,Zt,↓reduceIte,Nat.reduceEqDiff,f11,aI,al,tl1];omega
 .have Xw:¬((32*i:Nat):Int)<(m:Int):=by omega
  have e6:=dt i (by omega) (by omega);rw[e6];have oab:=oa.bs;have oaB:=oa.Zr.ZZ;rw[f11]at oab oaB;rw[<-al]at oab;have sO:(m:Int)<=(ca:Int):=by omega
  have hm0:(0:Int)<=(m:Int):=by omega
  have fin:=Bs.Na oab (m:=m) (by rw[al];omega) m;simp -implicitDefEqProofs only[go_sem,f2,f3,f11,Xw,sO,hm0,Bg];exact⟨_,rfl,Z _,fin,fun b hb=>Nat.le_trans (by omega) (oaB b (pL hb (by have:=xW hb;omega)))⟩
def Zlk(bf:List Nat)(k c s n v:Int)(a b:Nat):List Nat:=((bf++ZK [k.toNat,c.toNat,s.toNat,n.toNat,v.toNat])++JR a)++JR b
def Zll(bf:List Nat)(k c s n v:Int)(a b:Nat):List Nat:=TC (Zlk bf k c s n v a b)
structure Un where
 k:Int
 c:Int
 s:Int
 n:Int
 v:Int
structure Etv where
 x:Un
 a:Int
 b:Int
 sum:List Nat
structure Chn where
 cs:List aU
 sum:List Nat
 out:List Etv
def S6(cs:List aU)(x:Un):Zkv:=V0 cs x.k.toNat x.c.toNat x.s.toNat x.n.toNat x.v.toNat
def Lm(cs:List aU)(x:Un):Int:=Ia cs x.k x.c x.s x.n x.v
def ZtD(cs:List aU)(sum:List Nat)(x:Un):List Nat:=Zll sum x.k x.c x.s x.n x.v (S6 cs x).code.toNat (S6 cs x).val.toNat
theorem pM{cs:List aU}{x:Un}(h:Lm cs x=0):UP cs=false/\XB x.k x.c x.s x.n x.v=0:=by
 unfold Lm Ia at h;split at h
 .cases h
 .rename_i q;exact⟨by simpa using q,h⟩
theorem aP:∀{ks:List (Option IntKind)} {vs:List aU} (i:Nat) {k:Option IntKind},Xj ks vs=true->ks[i]? = Y k->∃v,nth vs i=Y v/\Ve k v=true:=by
 intro ks
 induction ks with
 | nil=>intro vs i k _ h;simp at h
 | cons a ks ih=>
  intro vs i k hf hk
  cases vs with
  | nil=>simp[Xj]at hf
  | cons x vs=>
   simp only[Xj,Bool.and_eq_true]at hf
   cases i with
   | zero=>simp only[List.getElem?_cons_zero,Option.some.injEq]at hk;subst hk;exact⟨x,rfl,hf.1⟩
   | succ i=>exact ih i hf.2 (by simpa using hk)
theorem iG{cs:List aU}(hf:Xj Qi cs=true):∀i,i<32->nth cs i=Y (H J (ci cs i)):=by
 intro i hi;have:∀i<32,Qi[i]? = Y (Y J):=KC;obtain⟨v,h1,h2⟩:=aP i hf (this i hi);unfold ci;rw[h1]
 cases v<;>simp[Ve]at h2
 rw[h2]
theorem aQ{cs:List aU}(hf:Xj Qi cs=true):∀i,32<=i->i<40->nth cs i=Y (.bool (cb cs i)):=by
 intro i h1 h2;have:∀j<8,Qi[32+j]? = Y ak:=KC;have e:=this (i-32) mD;rw[show 32+(i-32)=i by omega]at e;obtain⟨v,h1,h2⟩:=aP i hf e;unfold cb;rw[h1]
 cases v<;>simp[Ve]at h2
 rfl
def xX(st:Chn)(e:Etv):Prop:=¬Lm st.cs e.x=0\/¬((S6 st.cs e.x).code=e.a/\(S6 st.cs e.x).val=e.b)\/¬ZtD st.cs st.sum e.x=e.sum
instance (st:Chn)(e:Etv):Decidable (xX st e):=by unfold xX;infer_instance
variable {Q Q':aU->List Nat->Prop}
end Go.Proofs.YtnhfdnlcpdbjlaaGreatDoor
namespace Go.Proofs.YtnhfdnlcpdbjlaaGreatDoor
open Go Go.V
set_option linter.all false
set_option maxRecDepth 100000
theorem ZcK{cs:List aU}(hf:Xj Qi cs=true)(x:Un):∃(D:List aU) (a b:Int),doL cs x.k x.c x.s x.n x.v=[a2 D.toArray,a2 [H J a,H J b].toArray,H J (Lm cs x)]/\Xj Qi D=true/\(Lm cs x=0->D=(S6 cs x).cells/\a=(S6 cs x).code/\b=(S6 cs x).val):=by
 unfold doL Lm S6;by_cases e:Ia cs x.k x.c x.s x.n x.v=0
 .rw[if_pos e];refine⟨_,_,_,by rw[e],?_,fun _=>⟨rfl,rfl,rfl⟩⟩;have e2:XB x.k x.c x.s x.n x.v=0:=(pM (cs:=cs) (x:=x) e).2;obtain⟨k,c,s,n,v,e1,e2,e3,e4,e5,y1,y2,y3,y4,y5⟩:=RH e2;rw[e1,e2,e3,e4,e5];exact oM hf _ _ _ _ _ (by simpa using y4) (by simpa using y2)
 .rw[if_neg e];exact⟨_,_,_,rfl,rfl,fun h=>absurd h e⟩
end Go.Proofs.YtnhfdnlcpdbjlaaGreatDoor
