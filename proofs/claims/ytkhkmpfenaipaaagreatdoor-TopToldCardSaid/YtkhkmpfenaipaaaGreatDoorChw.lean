/- Part Chw. -/
import Derived.Test.YtkhkmpfenaipaaaGreatDoorTab
import Derived.Test.YtkhkmpfenaipaaaGreatDoorW18
import Derived.Test.YtkhkmpfenaipaaaGreatDoorBytes
import Derived.Test.YtkhkmpfenaipaaaGreatDoorLchks
import Derived.Test.YtkhkmpfenaipaaaGreatDoorW12
import Derived.Test.YtkhkmpfenaipaaaGreatDoorPik
import Derived.Test.YtkhkmpfenaipaaaGreatDoorW14
import Derived.Test.YtkhkmpfenaipaaaGreatDoorVst
open Go.Value renaming int→R,slice→Y,pointer→aF,agg→aS
open Go.IntKind renaming i64→O,u32→Z,u8→ak
open Go.Obj renaming cells→S
open Go.Proofs.Tryz renaming underlying39→ao,prog→aV
open List renaming length→J,getD_eq_getElem?_getD→aq,append_nil→aC,length_append→aH,getElem?_eq_getElem→aI,length_take→aL,take_of_length_le→aX,replicate→a4,drop_of_length_le→a6,getElem?_append_right→a8,length_drop→ba,nil_append→bc,take_zero→bo,getElem?_drop→bt,length_cons→bE,toArray→bS,length_nil→bT,drop_zero→bV,flatMap_append→bW,append_assoc→b8,getElem?_map→b9,flatMap_cons→cd,flatMap_nil→cf,mem_cons→cn
open Nat renaming le_refl→ae,min_eq_left→bk,sub_self→bl,sub_zero→bG,zero_mul→bR,lt_of_lt_of_le→bY,add_zero→cc
open Int renaming toNat_natCast→bw
open Option renaming some→aa,none→am
open Array renaming getElem?_push→aw,getElem?_setIfInBounds→a7,setIfInBounds→a9,size_setIfInBounds→bA,size_push→ck
open Go renaming Value→an,World→a5
namespace Go.Proofs.YtkhkmpfenaipaaaGreatDoor
open Go Go.V
set_option linter.all false
set_option maxRecDepth 100000
abbrev NT(h:Hp)(v:an)(l:List Nat):Prop:=Ts (fun x=>[nv x]) 1 h v l
theorem Qr(T:a5)(h:Hp)(x n:Nat)(a:x<4294967296)(e:n<=32):
  Zg aV T 106 #[R Z x,R O n] h fun d h'=>d=R Z (rr x n:Nat)/\h'=h:=by
 refine Zg.X8 [_,_] Tryz.func106 ?_;have k:=FA x (32-n) uh;have j:=Vu x n e;have i:(32:Int)-n=((32-n:Nat):Int):=uh;have c:=Na (x/2 ^ n) (x*2 ^ (32-n)%4294967296) (Nat.lt_of_le_of_lt (Nat.div_le_self _ _) a) uh;have g:¬(n:Int)<0:=uh;have f:¬((32-n:Nat):Int)<0:=uh;have b:=rh a (show 32-n<=32 by omega);rw[show 32-(32-n)=n by omega,Nat.or_comm]at b;rw[b]at c;unfold rr;simp +contextual -implicitDefEqProofs only[go_sem];refine VS.q mixed zI ?_;simp +contextual -implicitDefEqProofs only[go_sem,i,k,j,c,g,f]
theorem ZgF{a b c d:Nat}(f:a<256)(hb:b<256)(hc:c<256)(l:d<256):
  Y1 .or Z (Y1 .or Z (Y1 .or Z (XV Z a 24) (XV Z b 16)) (XV Z c 8)) d=((a*16777216+b*65536+c*256+d:Nat):Int):=by
 have sb:∀{x k:Nat},x<256->k<=24->XV Z (x:Int) (k:Int)=((x*2 ^ k:Nat):Int):=by
  intro x k j e;rw[FA x k uh,Nat.mod_eq_of_lt];have:2 ^ k<=2 ^ 24:=Nat.pow_le_pow_right uh e;have m:x*2 ^ k<=255*2 ^ 24:=Nat.mul_le_mul uh this;omega
 have i:XV Z (a:Int) 24=((a*16777216:Nat):Int):=sb (k:=24) f uh;have h:XV Z (b:Int) 16=((b*65536:Nat):Int):=sb (k:=16) hb uh;have g:XV Z (c:Int) 8=((c*256:Nat):Int):=sb (k:=8) hc uh;have f1:a*16777216 ||| b*65536=a*16777216+b*65536:=UT (k:=24) uh uh
 have f2:(a*16777216+b*65536) ||| c*256=a*16777216+b*65536+c*256:=UT (k:=16) uh uh
 rw[i,h,g,Na _ _ uh uh,f1,Na _ _ uh uh,f2,Na _ _ uh uh,UT (k:=8) uh uh]
theorem Lv(xs zs:List Nat)(i:Nat)(hi:i<(J xs))(a:(J xs)=(J zs)):(xs.take i++zs.drop i).set i (xs.getD i 0)=xs.take (i+1)++zs.drop (i+1):=by
 grind [IJ]
def KY(b:List Nat)(i:Nat):List Nat:=Wa b i++a4 (64-i) 0
theorem VM{b:List Nat}{i:Nat}(hi:i<=64):(KY b i).length=64:=by simp[KY,Uw];omega
theorem wM{b:List Nat}{i j:Nat}(a:j<i):(KY b i).getD j 0=(Wa b i).getD j 0:=by
 grind [KY.eq_1]
theorem Zch{b:List Nat}{i:Nat}(hi:i<64):(KY b i).set i (aQ b (Wa b i))=KY b (i+1):=by
 rw[KY,List.set_append_right _ _ (by rw[Uw];grind),Uw,bl,show 64-i=(64-(i+1))+1 by omega,List.replicate_succ,List.set_cons_zero,KY,Wa,b8];rfl
theorem wP(b:List Nat):KY b 64=Wa b 64:=by simp[KY]
theorem BZ{b:List Nat}(hb:MG b){i j:Nat}:(Wa b i).getD j 0<4294967296:=(Ew hb i).getD j
theorem gK(T:a5)(h:Hp)(t:Nat)(d:List Nat)(v:an)(b:List Nat)(hd:(J d)=8)(wd:OW d)(sb:Bs h v b)(hb:(J b)=64)(tk:aD 1 wv kN h)(hx:h[t]? = aa (S (d.map wv++[]).toArray 178))(hg:1≠t):
  Zg aV T 87 #[aF (aa ⟨t,0,am⟩),v] h fun v' h'=>SK (aa t) h h'/\h'[t]? = aa (S ((fH d b).map wv++[]).toArray 178):=by
 obtain⟨p,c,rfl,TZ⟩:=sb.Th;obtain⟨bb,ob,rfl,Sb,Jx⟩:=TZ zK;have P:MG b:=sb.byte;refine Zg.X8 [_,_] Tryz.func87 ?_;rw[hb];have mJ:=Zb hx;have b0:Zm h.size h (h.push (S (Ug 64 [Value.int Z 0]).toArray 195)):=Zm.push (ae _) _;have x0:∀A:Array an,A=((KY b 0).map wv).toArray->(h.push (S A 195))[h.size]? = aa (S ((KY b 0).map wv++[]).toArray 195):=by
  rintro _ rfl;rw[aC];exact Zf
 simp -implicitDefEqProofs only[go_sem];refine VS.YC (fun F g=>Zm h.size h g/\F 0=aF (aa ⟨t,0,am⟩)/\F 1=Y (aa ⟨bb,ob,am⟩) 64 c/\F 4=aF (aa ⟨h.size,0,am⟩)/\∃i:Nat,i<=64/\F 16=R O i/\g[h.size]? = aa (S ((KY b i).map wv++[]).toArray 195))
  (fun F _=>64-(vi (F 16)).toNat) rfl ⟨b0,rfl,rfl,rfl,0,uh,rfl,by exact x0 _ (by rfl)⟩ ?_
 clear b0 x0;rintro F g ⟨y,l,f1,m,i,hi,f16,hw⟩;have b5:=Zb hw;by_cases w:i<64
 .have M:(i:Int)<64:=uh;have fin:∀X:Nat,X=aQ b (Wa b i)->Uf g ⟨h.size,i,am⟩ (R Z (X:Nat))=aa (a9 g h.size (S ((KY b (i+1)).map wv++[]).toArray 195)):=by
   intro X hX;have:=YN (f:=wv) hw (i:=i) (by rw[VM hi];exact w) X rfl;rw[hX,Zch w]at this;rw[hX];exact this
  by_cases b1:i<16
  .have a3:(i:Int)<16:=uh;have g0:∀j,j<64->hc g ⟨bb,ob+j,am⟩=aa (R ak (b.getD j 0:Nat)):=fun j hj=>by rw[y.hc (by exact Sb)];grind
   have e0:=g0 (4*i) uh;have e1:=g0 (4*i+1) uh;have e2:=g0 (4*i+2) uh;have e3:=g0 (4*i+3) uh;have y0:=Yn P (4*i);have y1:=Yn P (4*i+1);have y2:=Yn P (4*i+2);have y3:=Yn P (4*i+3);have t0:(4*(i:Int)).toNat=4*i:=uh;have t1:(4*(i:Int)+1).toNat=4*i+1:=uh;have t2:(4*(i:Int)+2).toNat=4*i+2:=uh;have t3:(4*(i:Int)+3).toNat=4*i+3:=uh;have eo:=fun (_:Unit)=>ZgF y0 y1 y2 y3;rw[show b.getD (4*i) 0*16777216+b.getD (4*i+1) 0*65536+b.getD (4*i+2) 0*256+b.getD (4*i+3) 0=JE b (4*i) from rfl]at eo;have m0:((b.getD (4*i) 0:Nat):Int)%4294967296=(b.getD (4*i) 0:Nat):=uh;have m1:((b.getD (4*i+1) 0:Nat):Int)%4294967296=(b.getD (4*i+1) 0:Nat):=uh;have m2:((b.getD (4*i+2) 0:Nat):Int)%4294967296=(b.getD (4*i+2) 0:Nat):=uh;have m3:((b.getD (4*i+3) 0:Nat):Int)%4294967296=(b.getD (4*i+3) 0:Nat):=uh;have cs:=fin (JE b (4*i)) (by unfold aQ;rw[Uw,if_pos b1]);simp -implicitDefEqProofs only[go_sem,l,f1,m,f16,M,a3];refine VS.z (g.size) [35] (.p 0 (.p 1 (.p 2 (.p 3 (.p 4 (.q 5 (.p 6 (.p 7 (.p 8 (.p 9 (.p 10 (.p 11 (.p 12 (.q 13 (.p 14 (.p 15 (.p 16 (.p 17 (.p 18 (.p 19 (.p 20 (.p 21 (.q 22 (.p 23 (.p 24 (.p 25 (.p 26 (.p 27 (.p 28 (.p 29 (.p 30 (.q 31 (.p 32 (.p 33 (.p 34 (.w 35 .nil)))))))))))))))))))))))))))))))))))) mixed zI ?_;have bh:bb<g.size:=bY Sb y.size;simp -implicitDefEqProofs only[go_sem,l,f1,m,f16,e0,e1,e2,e3,t0,t1,t2,t3,m0,m1,m2,m3,eo (),bh,cs];refine⟨⟨y.ZA (ae _) _,l,f1,m,i+1,w,rfl,YB hw⟩,?_⟩;simp only[vi,Zu,↓reduceIte,f16];omega
  .have a3:¬(i:Int)<16:=uh;have B:=Yk hw (i:=i-15) (by rw[VM hi];omega);have q2:=Yk hw (i:=i-2) (by rw[VM hi];omega);have q3:=Yk hw (i:=i-16) (by rw[VM hi];omega);have q4:=Yk hw (i:=i-7) (by rw[VM hi];omega);rw[wM uh]at B q2 q3 q4;have eX:aQ b (Wa b i)=((Wa b i).getD (i-16) 0+sg0 ((Wa b i).getD (i-15) 0)+(Wa b i).getD (i-7) 0+sg1 ((Wa b i).getD (i-2) 0))%4294967296:=by
    unfold aQ;rw[Uw,if_neg b1]
   have cs:=fin (aQ b (Wa b i)) rfl;have hA:(Wa b i).getD (i-15) 0<4294967296:=BZ P;have hC:(Wa b i).getD (i-2) 0<4294967296:=BZ P;rw[eX]at cs;generalize (Wa b i).getD (i-15) 0=A at *;generalize (Wa b i).getD (i-2) 0=C at *;generalize (Wa b i).getD (i-16) 0=E1 at *;generalize (Wa b i).getD (i-7) 0=E2 at *;unfold wv at B q2 q3 q4;have t1:((i:Int)-15).toNat=i-15:=uh;have t2:((i:Int)-2).toNat=i-2:=uh;have t3:((i:Int)-16).toNat=i-16:=uh;have t4:((i:Int)-7).toNat=i-7:=uh;have s1:Unit->Xn Z (A:Int) 3=((A/8:Nat):Int):=fun _=>Vu A 3 HE;have s2:Unit->Xn Z (C:Int) 10=((C/1024:Nat):Int):=fun _=>Vu C 10 HE;have o1:=fun (_:Unit)=>UL (rr A 7) (rr A 18) (Vd hA) (Vd hA);have o2:Unit->Y1 .xor Z ((rr A 7 ^^^ rr A 18:Nat):Int) ((A/8:Nat):Int)=((sg0 A:Nat):Int):=fun _=>UL _ _ (T9 (Vd hA) (Vd hA)) (fF hA);have o3:=fun (_:Unit)=>UL (rr C 17) (rr C 19) (Vd hC) (Vd hC);have o4:Unit->Y1 .xor Z ((rr C 17 ^^^ rr C 19:Nat):Int) ((C/1024:Nat):Int)=((sg1 C:Nat):Int):=fun _=>UL _ _ (T9 (Vd hC) (Vd hC)) (fF hC);generalize sg0 A=G at *;generalize sg1 C=S1 at *;have e5:((((E1:Int)+(E2:Int))%4294967296+(G:Int))%4294967296+(S1:Int))%4294967296=(((E1+G+E2+S1)%4294967296:Nat):Int):=by clear cs fin;omega
   simp -implicitDefEqProofs only[go_sem,l,f1,m,f16,M,a3];refine VS.q mixed zI ?_;simp -implicitDefEqProofs only[go_sem,l,f1,m,f16,B,q2,t1,t2];refine VS.z (h.size+1) [29] (.p 0 (.p 1 (.p 2 (.p 3 (.q 4 (.p 5 (.p 6 (.p 7 (.q 8 (.p 9 (.p 10 (.p 11 (.p 12 (.p 13 (.p 14 (.p 15 (.p 16 (.p 17 (.p 18 (.p 19 (.p 20 (.p 21 (.p 22 (.p 23 (.p 24 (.p 25 (.p 26 (.p 27 (.p 28 (.w 29 .nil)))))))))))))))))))))))))))))) mixed zI ?_;simp -implicitDefEqProofs only[go_sem,l,f1,m,f16,q3,q4,t3,t4,e5];refine UM (fun h=>Qr T h A 7 hA uh) ?_;simp -implicitDefEqProofs only[go_sem,l,f1,m,f16,o1 (),o2 (),o3 (),o4 (),s1 (),s2 (),e5];refine UM (fun h=>Qr T h A 18 hA uh) ?_;simp -implicitDefEqProofs only[go_sem,l,f1,m,f16,o1 (),o2 (),o3 (),o4 (),s1 (),s2 (),e5];refine UM (fun h=>Qr T h C 17 hC uh) ?_;simp -implicitDefEqProofs only[go_sem,l,f1,m,f16,o1 (),o2 (),o3 (),o4 (),s1 (),s2 (),e5];refine UM (fun h=>Qr T h C 19 hC uh) ?_;simp -implicitDefEqProofs only[go_sem,l,f1,m,f16,o1 (),o2 (),o3 (),o4 (),s1 (),s2 (),e5,cs];refine⟨⟨y.ZA (ae _) _,l,f1,m,i+1,w,rfl,YB hw⟩,?_⟩;simp only[vi,Zu,↓reduceIte,f16];omega
 .have XX:¬(i:Int)<64:=uh;obtain rfl:i=64:=uh;rw[wP]at hw;have n:=y.get mJ hx;have r0:rd g ⟨t,0,am⟩ 8=aa (d.map wv):=by rw[aC]at n;exact ZB n (by simp[hd])
  have l8:(d.map wv).length=8:=by simp[hd]
  have a2:(d.map wv).all YV=true:=by simp[wv,YV]
  let⟨DV,a0⟩:=ZO (d.map wv);rw[<-a0]at r0 l8 a2;have lp:XB [Value.int Z 0,Value.int Z 0,Value.int Z 0,Value.int Z 0,Value.int Z 0,Value.int Z 0,Value.int Z 0,Value.int Z 0] 0 DV=DV:=Yf l8;simp -implicitDefEqProofs only[go_sem,l,f1,m,f16,XX,r0,l8,a2,lp];rw[a0];have Mm:=y.size;have hB:Zm h.size h (g.push (S (d.map wv).toArray 178)):=y.add _;have Od:Zm g.size g (g.push (S (d.map wv).toArray 178)):=Zm.push (ae _) _;have ax:(g.push (S (d.map wv).toArray 178))[g.size]? = aa (S ((Wb b d 0).map wv++[]).toArray 178):=by
   rw[aC];exact Zf
  refine VS.YC (fun o g'=>Zm g.size g g'/\o 0=aF (aa ⟨t,0,am⟩)/\o 4=aF (aa ⟨h.size,0,am⟩)/\o 8=aF (aa ⟨g.size,0,am⟩)/\∃i:Nat,i<=64/\o 97=R O i/\g'[g.size]? = aa (S ((Wb b d i).map wv++[]).toArray 178))
   (fun F _=>64-(vi (F 97)).toNat) rfl ⟨Od,l,m,rfl,0,uh,rfl,ax⟩ ?_
  clear l f1 m f16 XX hi w ax hB Od r0 l8 a2 lp a0 DV F;rintro F s ⟨VJ,l,m,q,i,hi,f97,r⟩;have bp:=Zb r;let⟨v8,H⟩:=Nl (b:=b) hd wd i;let⟨a,E,c',I,e,f,g',k',jW⟩:=eight v8;by_cases w:i<64
  .have M:(i:Int)<64:=uh;have bn:Wb b d (i+1)=[(upw e f g' k' (kN.getD i 0) ((Wa b 64).getD i 0)+bg0 a+vC a E c')%4294967296,a,E,c',(I+upw e f g' k' (kN.getD i 0) ((Wa b 64).getD i 0))%4294967296,e,f,g']:=by
    rw[show Wb b d (i+1)=Zby (Wb b d i) (kN.getD i 0) ((Wa b 64).getD i 0) from rfl,jW];rfl
   have hK:kN.getD i 0<4294967296:=Zko.getD i;have hW:(Wa b 64).getD i 0<4294967296:=(Ew P 64).getD i;have k1:V.hc s ⟨1,i,am⟩=aa (R Z (kN.getD i 0:Nat)):=by
    rw[VJ.hc zK,y.hc (by exact tk.1)];exact tk.2 i w
   have w1:V.hc s ⟨h.size,i,am⟩=aa (R Z ((Wa b 64).getD i 0:Nat)):=by
    rw[VJ.hc (by exact b5)];exact Yk hw (by rw[Uw];exact w)
   rw[jW]at r H;have n0:V.hc s ⟨g.size,0,am⟩=aa (R Z (a:Nat)):=Yk r (i:=0) zX;have n1:V.hc s ⟨g.size,1,am⟩=aa (R Z (E:Nat)):=Yk r (i:=1) zX;have n2:V.hc s ⟨g.size,2,am⟩=aa (R Z (c':Nat)):=Yk r (i:=2) zX;have n3:V.hc s ⟨g.size,3,am⟩=aa (R Z (I:Nat)):=Yk r (i:=3) zX;have n4:V.hc s ⟨g.size,4,am⟩=aa (R Z (e:Nat)):=Yk r (i:=4) zX;have n5:V.hc s ⟨g.size,5,am⟩=aa (R Z (f:Nat)):=Yk r (i:=5) zX;have n6:V.hc s ⟨g.size,6,am⟩=aa (R Z (g':Nat)):=Yk r (i:=6) zX;have n7:V.hc s ⟨g.size,7,am⟩=aa (R Z (k':Nat)):=Yk r (i:=7) zX;have u:a<4294967296:=H a zX;have QW:E<4294967296:=H E zX;have aW:c'<4294967296:=H c' zX;have bq:I<4294967296:=H I zX;have z:e<4294967296:=H e zX;have hf:f<4294967296:=H f zX;have CT:g'<4294967296:=H g' zX;have Fz:k'<4294967296:=H k' zX;generalize kN.getD i 0=K at *;generalize (Wa b 64).getD i 0=W at *;have o1:=fun (_:Unit)=>UL (rr e 6) (rr e 11) (Vd z) (Vd z);have o2:Unit->Y1 .xor Z ((rr e 6 ^^^ rr e 11:Nat):Int) ((rr e 25:Nat):Int)=((bg1 e:Nat):Int):=fun _=>UL _ _ (T9 (Vd z) (Vd z)) (Vd z);have o3:=fun (_:Unit)=>UL (rr a 2) (rr a 13) (Vd u) (Vd u);have o4:Unit->Y1 .xor Z ((rr a 2 ^^^ rr a 13:Nat):Int) ((rr a 22:Nat):Int)=((bg0 a:Nat):Int):=fun _=>UL _ _ (T9 (Vd u) (Vd u)) (Vd u);have c0:Unit->(if IntKind.u32.signed=true then (-1:Int) else IntKind.u32.max)=4294967295:=fun _=>rfl;have c1:=fun (_:Unit)=>Kl e f z hf;have c2:=fun (_:Unit)=>Zgg z;have c3:=fun (_:Unit)=>Kl (4294967295-e) g' (Zbx e) CT;have c4:=fun (_:Unit)=>Zkn (f:=f) z CT;have m1:=fun (_:Unit)=>Kl a E u QW;have m2:=fun (_:Unit)=>Kl a c' u aW;have m3:=fun (_:Unit)=>Kl E c' QW aW;have m4:=fun (_:Unit)=>UL (a &&& E) (a &&& c') (Pg u) (Pg u);have m5:=fun (_:Unit)=>Zgh (c:=c') u QW;have eU:upw e f g' k' K W=(k'+bg1 e+chw e f g'+K+W)%4294967296:=rfl;generalize upw e f g' k' K W=U at *;generalize bg1 e=S1 at *;generalize bg0 a=G at *;generalize chw e f g'=CH at *;generalize vC a E c'=MJ at *;have e1:Unit->(((((k':Int)+(S1:Int))%4294967296+(CH:Int))%4294967296+(K:Int))%4294967296+(W:Int))%4294967296=(U:Int):=fun _=>by omega
   have e2:Unit->((G:Int)+(MJ:Int))%4294967296=(((G+MJ)%4294967296:Nat):Int):=fun _=>by omega
   have e3:Unit->((U:Int)+(((G+MJ)%4294967296:Nat):Int))%4294967296=(((U+G+MJ)%4294967296:Nat):Int):=fun _=>by omega
   have e4:Unit->((I:Int)+(U:Int))%4294967296=(((I+U)%4294967296:Nat):Int):=fun _=>by omega
   simp -implicitDefEqProofs only[go_sem,l,m,q,f97,M];refine VS.q mixed zI ?_;simp -implicitDefEqProofs only[go_sem,l,m,q,f97,n0,n4];refine VS.q mixed zI ?_;simp -implicitDefEqProofs only[go_sem,l,m,q,f97,n7,n4];refine Vi (Qr T _ e 6 z uh) ?_;simp -implicitDefEqProofs only[go_sem,q];refine Vi (Qr T _ e 11 z uh) ?_;simp -implicitDefEqProofs only[go_sem,q];refine Vi (Qr T _ e 25 z uh) ?_;simp -implicitDefEqProofs only[go_sem,m,q,f97,M,o1 (),o2 (),n5,n6,c0 (),c1 (),c2 (),c3 (),c4 (),k1,w1,e1 ()];refine VS.mono (N:=fun o g'=>s=g'/\o 0=aF (aa ⟨t,0,am⟩)/\o 4=aF (aa ⟨h.size,0,am⟩)/\o 8=aF (aa ⟨g.size,0,am⟩)/\o 97=R O i/\o 10=R Z (a:Nat)/\o 11=R Z (e:Nat)/\o 12=R Z (U:Nat)/\o 13=R Z (((G+MJ)%4294967296:Nat):Int)) ?_ ?_ (fun _ _ _ h=>h) (fun _ _ h=>h)
   .refine VS.q mixed zI ?_;simp -implicitDefEqProofs only[go_sem,q];refine Vi (Qr T _ a 2 u uh) ?_;simp -implicitDefEqProofs only[go_sem,q];refine Vi (Qr T _ a 13 u uh) ?_;simp -implicitDefEqProofs only[go_sem,q];refine Vi (Qr T _ a 22 u uh) ?_;simp -implicitDefEqProofs only[go_sem,l,m,q,f97,o3 (),o4 (),n1,n2,m1 (),m2 (),m3 (),m4 (),m5 (),e2 ()]
   clear l m q f97 F;rintro F _ ⟨rfl,l,m,q,f97,f10,f11,f12,f13⟩;have b6:s[g.size]? = aa (S [Value.int Z a,R Z E,R Z c',R Z I,R Z e,R Z f,R Z g',R Z k'].toArray 178):=r;have y2:=Yr b6 0;obtain⟨xU,b3⟩:∃x:Int,x=(U:Int):=⟨_,rfl⟩
   obtain⟨xD,b4⟩:∃x:Int,x=(((G+MJ)%4294967296:Nat):Int):=⟨_,rfl⟩
   obtain⟨x0,LW⟩:∃x:Int,x=(((U+G+MJ)%4294967296:Nat):Int):=⟨_,rfl⟩
   obtain⟨x4,mR⟩:∃x:Int,x=(((I+U)%4294967296:Nat):Int):=⟨_,rfl⟩
   have E3:Unit->(xU+xD)%4294967296=x0:=fun _=>by grind
   have E4:Unit->((I:Int)+xU)%4294967296=x4:=fun _=>by grind
   rw[<-b3]at f12;rw[<-b4]at f13;simp -implicitDefEqProofs only[go_sem,l,m,q,f97,f10,f11,f12,f13,n1,n2,n3,n5,n6,E3 (),E4 (),y2];refine⟨⟨VJ.ZA (ae _) _,l,m,q,i+1,w,rfl,?_⟩,?_⟩
   .rw[bn,LW,mR];exact YB r
   .simp only[vi,Zu,↓reduceIte,f97];omega
  .have XX:¬(i:Int)<64:=uh;obtain rfl:i=64:=uh;have r0:rd s ⟨g.size,0,am⟩ 8=aa ((Wb b d 64).map wv):=by rw[aC]at r;exact ZB r (by simp[v8])
   have hB:SK (aa t) h s:=by
    have B:=y.trans (VJ.mono y.size);exact⟨B.size,fun k hk _=>B.block k hk⟩
   have n:s[t]? = aa (S (((MH d (Wb b d 64)).take 0++d.drop 0).map wv++[]).toArray 178):=by
    rw[bo,bV,bc];exact (y.trans (VJ.mono y.size)).get mJ hx
   have b7:=HX hd v8;simp -implicitDefEqProofs only[go_sem,l,q,f97,XX,r0];refine VS.YC (fun o g'=>SK (aa t) h g'/\o 0=aF (aa ⟨t,0,am⟩)/\o 177=aS ((Wb b d 64).map wv).toArray/\∃i:Nat,i<=8/\o 178=R O i/\g'[t]? = aa (S (((MH d (Wb b d 64)).take i++d.drop i).map wv++[]).toArray 178))
    (fun F _=>8-(vi (F 178)).toNat) rfl ⟨hB,l,rfl,0,uh,rfl,n⟩ ?_
   clear l m q f97 XX hi w r n hB r0 F;rintro F g3 ⟨hB,l,a1,i,hi,L,n⟩;have bf:=Zb n;have wU:((MH d (Wb b d 64)).take i++d.drop i).length=8:=by rw[Ng _ _ _ uh uh,b7]
   by_cases w:i<8
   .have M:(i:Int)<8:=uh;have n1:nth ((Wb b d 64).map wv) i=aa (R Z ((Wb b d 64).getD i 0:Nat)):=by
     rw[X2,b9,aq,aI uh];rfl
    have B:=Yk n (i:=i) uh;have e0:((MH d (Wb b d 64)).take i++d.drop i).getD i 0=d.getD i 0:=by
     rw[aq,a8 aac,aL,bk uh,bl,bt,cc,<-aq]
    rw[e0]at B;unfold wv at B;have eX:=vD hd v8 w;have cs:=YN (f:=wv) n (i:=i) uh ((MH d (Wb b d 64)).getD i 0) rfl;rw[Lv _ _ i uh uh]at cs;have b2:Uf g3 ⟨t,i,am⟩ (R Z (((MH d (Wb b d 64)).getD i 0:Nat):Int))=_:=cs;rw[eX]at b2;generalize d.getD i 0=D at *;generalize (Wb b d 64).getD i 0=V at *;have e1:((D:Int)+(V:Int))%4294967296=(((D+V)%4294967296:Nat):Int):=uh;simp -implicitDefEqProofs only[go_sem,a1,L,M,n1];refine VS.z (g3.size) [9] (.p 0 (.p 1 (.p 2 (.p 3 (.q 4 (.p 5 (.p 6 (.p 7 (.p 8 (.w 9 .nil)))))))))) mixed zI ?_;simp -implicitDefEqProofs only[go_sem,l,a1,L,B,e1,bf,b2,M];refine⟨⟨?_,l,a1,i+1,w,rfl,YB n⟩,?_⟩
    .exact⟨by rw[bA];exact hB.size,fun k hk XU=>by rw[a7,if_neg zK,hB.block k hk XU]⟩
    .simp only[vi,Zu,↓reduceIte,L];omega
   .have XX:¬(i:Int)<8:=uh;obtain rfl:i=8:=uh;have e9:(MH d (Wb b d 64)).take 8++d.drop 8=fH d b:=by
     rw[aX uh,a6 uh,aC];rfl
    rw[e9]at n;simp -implicitDefEqProofs only[go_sem,L,XX]
    grind
def nq:an->Nat
 | Y _ n _=>n
 | _=>0
def KZ(n:Nat):List Nat:=0 :: 0 :: 0 :: 0 :: X7 (8*n)
theorem Gg(n:Nat):(KZ n).length=8:=rfl
theorem wX(n:Nat):MG (KZ n):=by
 intro x a;simp only[KZ,cn]at a
 grind [X7]
theorem ZgI{n k:Nat}(a:n<=100000)(b:k<8):Xn O ((8*n:Nat):Int) ((56-8*k:Nat):Int)%256=(((KZ n).getD k 0:Nat):Int):=by
 rw[UN _ _ uh];rcases k with _|_|_|_|_|_|_|_|k
 .grind [KZ]
 .grind [KZ]
 .grind [KZ]
 .grind [KZ,Nat.div_eq_of_lt]
 .rfl
 .rfl
 .rfl
 .show ((8*n/2 ^ 0:Nat):Int)%256=((8*n%256:Nat):Int)
  grind
 .omega
theorem ZgJ{x d e m c:Nat}{h h':Hp}{l:List Nat}(s:Bs h (Y (aa ⟨d,e,am⟩) m c) l)(a:SK (aa x) h h')(n:d≠x):Bs h' (Y (aa ⟨d,e,am⟩) m c) l:=by
 let⟨⟨p,cap,f,j,hc⟩,hb⟩:=s;simp only[Value.slice.injEq]at f;obtain⟨rfl,i,rfl⟩:=f;refine⟨⟨_,_,by rw[i],j,fun g=>?_⟩,hb⟩;let⟨b,o,k,q⟩:=hc g
 grind [YU,hc,SK.block,aag]
theorem Om{f a m c:Nat}{h:Hp}{l:List Nat}(s:Bs h (Y (aa ⟨f,a,am⟩) m c) l){k:Nat}(u:k<=(J l))(n:(J l)=m)(c':Nat):Bs h (Y (aa ⟨f,a+k,am⟩) (m-k) c') (l.drop k):=by
 subst n;refine⟨?_,fun x j=>s.byte x (List.mem_of_mem_drop j)⟩;let⟨r,cap,d,t,hc⟩:=s.sl;simp only[Value.slice.injEq]at d;obtain⟨rfl,_,rfl⟩:=d;refine⟨_,c',by rw[ba],zX,fun g=>?_⟩;have v:k<(J l):=by
  rw[<-List.length_pos_iff]at g;simp at g;omega
 let⟨b,o,e,q⟩:=hc zK;simp only[Option.some.injEq,Addr.mk.injEq,and_true]at e;obtain⟨rfl,rfl⟩:=e;refine⟨_,_,rfl,fun i hi=>?_⟩;have p:i<(J l)-k:=by simpa using hi
 rw[show a+k+i=a+(k+i) by omega,q (k+i) Fo];simp
abbrev Tk(h:Hp):Prop:=aD 1 wv kN h
theorem bJ(T:a5)(h:Hp)(v:an)(l:List Nat)(s:Bs h v l)(hl:(J l)<=100000)(tk:Tk h):
  Zg aV T 68 #[v] h fun v' h'=>YL h.size 5 h' v' (Ro l)/\Zm h.size h h':=by
 obtain⟨p,cp,rfl,TZ⟩:=s.open;have rX:MG l:=s.byte;refine Zg.X8 [_] Tryz.func68 ?_;simp -implicitDefEqProofs only[go_sem];let⟨C,Jt⟩:=ZO (h.push (S (ZbC.map wv).toArray 178):Hp);have bK:C.size=h.size+1:=by rw[Jt];simp
 have b1:Zm h.size h C:=by rw[Jt];exact Zm.push (ae _) _
 have x1:C[h.size]? = aa (S (ZbC.map wv++[]).toArray 178):=by rw[Jt,aC];exact Zf
 change OV aV T .append _ _ _ _ _ (h.push (S (ZbC.map wv).toArray 178));rw[<-Jt];clear Jt;refine ZP (E:=5) (B:=h.size+1) XD ao T8 SU SQ (YL.CE _ _ _ _) uh (s.YQ b1) Fo ?_;intro w h2 o2 b2 _;rw[bc]at o2;simp -implicitDefEqProofs only[go_sem];refine ZP (E:=5) (B:=h.size+1) XD ao T8 SU SQ (o2.push _) (by have:=b2.size;simp;omega) (Bs.one (x:=128) uh 1) Fo ?_;intro w3 h3 o3 b3 _;have B3:Zm (h.size+1) C h3:=(b2.Xj (by have:=b2.size;omega) _).trans b3;have P:YL (h.size+1) 5 h3 w3 (Nm l 0):=o3;clear o2 o3 b2 b3;simp -implicitDefEqProofs only[go_sem];refine VS.YC (fun F g=>Zm (h.size+1) C g/\F 0=Y p (J l) cp/\F 3=aF (aa ⟨h.size,0,am⟩)/\∃j:Nat,j<=CK (J l)/\YL (h.size+1) 5 g (F 4) (Nm l j))
  (fun F _=>(J l)+100-nq (F 4)) rfl ⟨B3,rfl,rfl,0,uh,P⟩ ?_
 clear P B3;rintro F g ⟨m,o,a,j,hj,n⟩;let⟨p4,c4,d,_⟩:=n.open;have ml:=KC l j;let⟨M,hM⟩:=ZO ((J l)+j+1);rw[ml,<-hM]at d;have c3:CK (J l)<64:=by unfold CK;omega
 have d1:(M:Int).tmod 64=((M%64:Nat):Int):=rfl;have I:=m.size;by_cases hm:M%64=56
 case neg=>
  have LS:¬((M%64:Nat):Int)=56:=uh;have XU:j≠CK (J l):=fun e=>hm (by rw[hM];exact (fJ hj).2 e);simp -implicitDefEqProofs only[go_sem,o,a,d,d1,LS];have V:=n;rw[d]at V;refine ZP (E:=5) (B:=h.size+1) XD ao T8 SU SQ (V.push _) Fo (Bs.one (x:=0) uh 1) zK ?_;intro w' g' u QW _;obtain⟨p5,c5,rfl,_⟩:=u.open;simp -implicitDefEqProofs only[go_sem,o,a];refine⟨⟨(m.Xj uh _).trans QW,o,a,j+1,uh,?_⟩,?_⟩
  .rw[mo];exact u
  .simp only[nq,Zu,↓reduceIte,d,aH,ml,List.length_singleton];omega
 have b0:j=CK (J l):=(fJ hj).1 zK;have LS:((M%64:Nat):Int)=56:=uh;simp -implicitDefEqProofs only[go_sem,o,a,d,d1,LS];refine VS.YC (fun F g=>Zm (h.size+1) C g/\F 0=Y p (J l) cp/\F 3=aF (aa ⟨h.size,0,am⟩)/\∃k:Nat,k<=8/\F 5=R O (56-8*(k:Int))/\YL (h.size+1) 5 g (F 4) (Nm l j++(KZ (J l)).take k))
  (fun F _=>(vi (F 5)+8).toNat) rfl ⟨m,o,a,0,uh,rfl,by rw[bo,aC];exact n⟩ ?_
 clear o a d d1 hm LS n m I F g;rintro F g ⟨m,o,a,k,hk,G,n⟩;have I:=m.size;obtain⟨y,hy⟩:∃y:Int,y=56-8*(k:Int):=⟨_,rfl⟩
 rw[<-hy]at G;by_cases q:k<8
 .have vW:0<=y:=uh;have bq:¬y<0:=uh;let⟨X,hX⟩:=ZO ((KZ (J l)).getD k 0);have b4:X<256:=by rw[hX];exact Yn (wX _) k
  obtain⟨xL,t⟩:∃x:Int,x=((8*(J l):Nat):Int):=⟨_,rfl⟩
  have eL:Unit->8*((J l):Int)=xL:=fun _=>by grind
  have bf:0<=xL/\xL<=1000000:=by rw[t];omega
  have sh:Unit->Xn O xL y%256=(X:Int):=fun _=>by
   rw[t,hy,show (56:Int)-8*(k:Int)=((56-8*k:Nat):Int) by omega,hX];exact ZgI hl q
  have bn:(Nm l j++(KZ (J l)).take k).length<=200000:=by rw[aH,ml,aL];omega
  have et:(KZ (J l)).take (k+1)=(KZ (J l)).take k++[X]:=by
   rw[Xg _ k (by rw[Gg];exact q),hX,aq,aI (by rw[Gg];exact q)];rfl
  clear hX t;simp -implicitDefEqProofs only[go_sem,o,a,G,vW,bq,eL (),sh ()];refine ZP (E:=5) (B:=h.size+1) XD ao T8 SU SQ (n.push _) Fo (Bs.one b4 1) zK ?_;intro w' g' u QW _;simp -implicitDefEqProofs only[go_sem,o,a,G];refine⟨⟨(m.Xj uh _).trans QW,o,a,k+1,q,?_,?_⟩,?_⟩
  .show Value.int O _=_
   grind
  .rw[et,<-b8];exact u
  .simp only[vi,Zu,↓reduceIte,G];omega
 .have vW:¬0<=y:=uh;obtain rfl:k=8:=uh;have ep:Nm l j++(KZ (J l)).take 8=SW l:=by rw[b0];rfl
  rw[ep]at n;have pl:=aR l;let⟨N,hN⟩:=ZO (vE (J l));have c1:0<N:=by rw[hN];unfold vE;omega
  have c0:N<=2000:=by rw[hN];unfold vE;omega
  rw[<-hN]at pl;have f:=m.get uh x1;have bh:Zm h.size h g:=b1.trans (m.mono uh);obtain⟨H,cP,d,bN,a1⟩:∃H c,F 4=Y (aa ⟨H,0,am⟩) (64*N) c/\h.size+1<=H/\64*N<=c:=by
   rcases n.Zn with⟨_,hm,_⟩|⟨b,cap,sp,hB,hv,_,_,_,hc⟩
   .omega
   grind
  have r:=n.bs;rw[d]at r;simp -implicitDefEqProofs only[go_sem,o,a,G,vW];refine VS.YC (fun F g=>Zm h.size h g/\F 3=aF (aa ⟨h.size,0,am⟩)/\∃j z c:Nat,j<=N/\F 4=Y (aa ⟨H,z,am⟩) (64*(N-j)) c/\64*(N-j)<=c/\Bs g (Y (aa ⟨H,z,am⟩) (64*(N-j)) c) ((SW l).drop (64*j))/\g[h.size]? = aa (S ((fI (SW l) j).map wv++[]).toArray 178))
   (fun F _=>nq (F 4)) rfl ⟨bh,a,0,0,cP,uh,d,a1,by exact r,f⟩ ?_
  clear o a d G hy vW q n r f bh m I ep a1 F g;rintro F g ⟨m,a,j,z,c,hj,d,hc,r,f⟩;have I:=Zb f;by_cases q:j<N
  .let⟨L,hL⟩:=ZO (64*(N-j));rw[<-hL]at d hc r;have c2:64<=L:=uh;have W:((SW l).drop (64*j)).length=L:=by rw[ba,pl];omega
   have b7:0<(L:Int):=uh;have a3:(64:Int)<=(c:Int):=uh;have HK:¬c=0:=uh;simp -implicitDefEqProofs only[go_sem,a,d,b7,a3,HK,bG,bR];have sB:Bs g (Y (aa ⟨H,z,am⟩) 64 c) (((SW l).drop (64*j)).take 64):=by
    rw[<-W]at r;exact Bs.MF r uh c
   let⟨dl,dw⟩:=KA (SW l) j;refine (gK T g h.size (fI (SW l) j) _ (((SW l).drop (64*j)).take 64) dl dw sB zK (tk.QL m) f (by have:=tk.1;omega)).use ?_;rintro _ g2 ⟨Ll,LU⟩;have VJ:Zm h.size h g2:=m.trans (Ll.YQ uh (fun b e=>by grind));have ax:=ZgJ r Ll uh;by_cases a0:c=64
   .have b6:L=64:=uh;have bb:(c:Int)=64:=uh;have b5:(L:Int)=64:=uh;subst a0 b6;simp -implicitDefEqProofs only[go_sem,a,d,bb,b5];refine⟨⟨VJ,a,j+1,z,0,q,?_,uh,?_,LU⟩,?_⟩
    .show Value.slice _ _ _=_
     grind
    .rw[show 64*(N-(j+1))=0 by omega,a6 zK];exact (YL.CE 0 5 _ _).bs
    .simp only[nq,Zu,↓reduceIte,d];omega
   .have bd:(64:Int)<=(L:Int):=uh;simp -implicitDefEqProofs only[go_sem,a,d,a3,bd,a0];refine⟨⟨VJ,a,j+1,z+64,c-64,q,?_,uh,?_,LU⟩,?_⟩
    .show Value.slice _ _ _=_
     grind
    .have:=Om ax (k:=64) uh W (c-64)
     grind [List.drop_drop]
    .simp only[nq,Zu,↓reduceIte,d];omega
  .obtain rfl:j=N:=uh;have eS:Ro l=ZI (fI (SW l) j):=by rw[Ro,<-hN]
   let⟨dl,dw⟩:=KA (SW l) j;let⟨D,hD⟩:=ZO (fI (SW l) j);rw[<-hD]at dl dw f eS;rw[eS];have r0:rd g ⟨h.size,0,am⟩ 8=aa (D.map wv):=by rw[aC]at f;exact ZB f (by simp[dl])
   rw[bl,Nat.mul_zero]at d;have hz:¬h.size=g.size:=uh;simp -implicitDefEqProofs only[go_sem,a,d,r0,hz];have a2:Zm h.size h (g.push (S (Ug 32 [Value.int ak 0]).toArray 5)):=m.add _;have oO:YL h.size 5 (g.push (S (Ug 32 [Value.int ak 0]).toArray 5)) (Y (aa ⟨g.size,0,am⟩) 0 32) (ZI (D.take 0)):=
    ⟨.inr ⟨g.size,32,Ug 32 [Value.int ak 0],m.size,rfl,Zf,rfl,rfl,Nat.zero_le 32⟩,fun x A=>by cases A⟩
   refine VS.YC (fun F g=>Zm h.size h g/\F 43=aS (D.map wv).toArray/\∃i:Nat,i<=8/\F 44=R O i/\YL h.size 5 g (F 6) (ZI (D.take i)))
    (fun F _=>8-(vi (F 44)).toNat) rfl ⟨a2,rfl,0,uh,rfl,oO⟩ ?_
   clear a d q f r0 hz a2 oO r hc m I g F;rintro F g ⟨m,f43,i,hi,f44,n⟩;have I:=m.size;by_cases q:i<8
   .have Yh:(i:Int)<8:=uh;let⟨x,A⟩:=ZO (D.getD i 0);have br:x<4294967296:=by rw[A];exact dw.getD i
    have et:D.take (i+1)=D.take i++[x]:=by
     rw[Xg _ i uh,A,aq,aI uh];rfl
    obtain⟨K,U⟩:∃y:Int,y=(x:Int):=⟨_,rfl⟩
    obtain⟨z0,Bt⟩:∃y:Int,y=((x/16777216%256:Nat):Int):=⟨_,rfl⟩
    obtain⟨z1,jY⟩:∃y:Int,y=((x/65536%256:Nat):Int):=⟨_,rfl⟩
    obtain⟨z2,vX⟩:∃y:Int,y=((x/256%256:Nat):Int):=⟨_,rfl⟩
    obtain⟨z3,aW⟩:∃y:Int,y=((x%256:Nat):Int):=⟨_,rfl⟩
    have n1:nth (D.map wv) i=aa (R Z K):=by
     rw[X2,b9,U,A,aq,aI uh];rfl
    have e1:Unit->Xn Z K 24%256=z0:=fun _=>by grind [Xn,Vu]
    have e2:Unit->Xn Z K 16%256=z1:=fun _=>by grind [Xn,Vu]
    have e3:Unit->Xn Z K 8%256=z2:=fun _=>by grind [Vu]
    have e4:Unit->K%256=z3:=fun _=>by grind
    have Ri:(ZI (D.take i)).length<=32:=by rw[ZV,aL];omega
    clear U A;simp -implicitDefEqProofs only[go_sem,f43,f44,Yh,n1,e1 (),e2 (),e3 (),e4 ()];subst Bt jY vX aW;refine ZP (E:=5) (B:=h.size) XD ao T8 SU SQ (n.push _) Fo (Bs.made (l:=X7 x) (Sa x) 4) (by simp[X7];omega) ?_;intro w' g' u QW _;simp -implicitDefEqProofs only[go_sem,f43,f44];refine⟨⟨(m.add _).trans QW,f43,i+1,q,rfl,?_⟩,?_⟩
    .rw[et];unfold ZI at u ⊢;rw[bW];simp only[cd,cf,aC];exact u
    .simp only[vi,Zu,↓reduceIte,f44];omega
   .have XX:¬(i:Int)<8:=uh;obtain rfl:i=8:=uh;rw[aX uh]at n;simp -implicitDefEqProofs only[go_sem,f43,f44,XX]
    grind
def On(n:Nat):Int:=if 2000<n then 1 else 0
def Zcl(B:Nat)(h':Hp)(a:an)(l:List Nat):Prop:=∃w,a=.tuple [w,R O (On (J l))].toArray/\YL B 5 h' w (if On (J l)=0 then Ro l else [])
theorem I6(T:a5)(h:Hp)(v:an)(l:List Nat)(s:Bs h v l)(tk:Tk h):
  Zg aV T 47 #[v] h fun c h'=>Zcl h.size h' c l/\Zm h.size h h':=by
 obtain⟨p,cp,rfl,g⟩:=s.open;refine Zg.X8 [_] Tryz.func47 ?_;unfold Zcl On;by_cases b:2000<(J l)
 .have a:2000<((J l):Int):=uh;simp -implicitDefEqProofs only[go_sem,a,b];exact⟨_,rfl,YL.nil _ _ _⟩
 .have a:¬2000<((J l):Int):=uh;simp -implicitDefEqProofs only[go_sem,a,b];refine (bJ T _ _ l s uh tk).use ?_;rintro w f ⟨e,d⟩;simp -implicitDefEqProofs only[go_sem,d]
  grind
def Ia(body:List Nat):List Nat:=(J body) :: body
def Xm(body:List Nat):List Nat:=Ia body++(Ro (Ia body)).take 4
theorem S9(body:List Nat):(Ia body).length=(J body)+1:=rfl
theorem VN(body:List Nat):(Xm body).length=(J body)+5:=by
 grind [Xm.eq_1,QH,S9]
def Xo(l:List Nat)(n:Int):Prop:=(J l)<=100000/\0<=n/\n<=(J l)
instance (l:List Nat)(n:Int):Decidable (Xo l n):=by unfold Xo;infer_instance
def Qz(l:List Nat)(n:Int)(k:Nat):Int:=if ¬Xo l n then 5 else if 100000<(J l)+(k+5) then 8 else 0
def Oo(B:Nat)(h':Hp)(a:an)(l:List Nat)(n:Int)(E:Int)(add:List Nat):Prop:=
 ∃w,a=.tuple [aS [w,R O (if E=0 then n else 0)].toArray,R O E].toArray/\YL B 5 h' w (if E=0 then l++add else [])
theorem SK.Zk2{h g:Hp}{b:Nat}{o:Obj}(a:SK (aa b) h g):SK (aa b) h (a9 g b o):=
 ⟨by rw[bA];exact a.size,fun k c d=>by grind [SK.block]⟩
theorem Py(T:a5)(h:Hp)(v u:an)(n:Int)(l body:List Nat)(s:Bs h v l)(hl:(J l)<=140737488355328)(sb:Bs h u body)(hb:(J body)<=255)(tk:Tk h):
  Zg aV T 132 #[aS [v,R O n].toArray,u] h fun v' h'=>Oo h.size h' v' l n (Qz l n (J body)) (Xm body)/\Zm h.size h h':=by
 obtain⟨p,c,rfl,_⟩:=s.open;obtain⟨q,d,rfl,_⟩:=sb.open;refine Zg.X8 [_,_] Tryz.func132 ?_;unfold Oo;simp -implicitDefEqProofs only[go_sem];let⟨M,W⟩:=ZO ((h.push (S [Y p (J l) c,R O n].toArray 95)).push (S [Y am 0 0,R O 0].toArray 95):Hp);have b0:Zm h.size h M:=by rw[W];exact ((Zm.refl _ _).add _).add _
 have s0:M.size=h.size+1+1:=by rw[W];simp
 have x0:M[h.size+1]? = aa (S [Y am 0 0,R O 0].toArray 95):=by
  rw[W,aw,if_pos zX]
 rw[<-W];clear W;refine (Wp T M _ n l (s.YQ b0) hl).use ?_;rintro _ f ⟨b1,i⟩;have s1:=b1.size;by_cases ok:Xo l n
 case neg=>
  have t:Qz l n (J body)=5:=by unfold Qz;rw[if_pos ok]
  rw[if_neg (show ¬((J l)<=100000/\0<=n/\n<=(J l)) from ok)]at i;subst i;rw[t];have x1:=b1.get uh x0;have y2:=Yr x1 0;have Ye:h.size+1<f.size:=uh;have XU:¬h.size+1=f.size:=uh;simp -implicitDefEqProofs only[go_sem,y2,XU,Ye]
  grind [YL.nil,Zm.Xj,Zm.ZA,Zm.trans,Zm.mono]
 have t:Qz l n (J body)=if 100000<(J l)+((J body)+5) then 8 else 0:=by unfold Qz;rw[if_neg (fun hn=>hn ok)]
 rw[if_pos (show ((J l)<=100000/\0<=n/\n<=(J l)) from ok)]at i;obtain⟨w,rfl,i⟩:=i;obtain⟨pw,y,rfl,_⟩:=i.open;have B1:=b0.trans (b1.mono uh);have x1:=b1.get uh x0;let⟨c1,jX,c0⟩:=ok;let⟨a,U⟩:=ZO (f.push (S [Y pw (J l) y,R O n].toArray 95):Hp);have b2:Zm f.size f a:=by rw[U];exact Zm.push (ae _) _
 have s2:a.size=f.size+1:=by rw[U];simp
 have x6:a[f.size]? = aa (S [Y pw (J l) y,R O n].toArray 95):=by rw[U];exact Zf
 have eb:((J body):Int)%256=((J body):Int):=uh;have e2:f.push (S #[Value.slice pw (J l) y,R O n] 95)=a:=U.symm;simp -implicitDefEqProofs only[go_sem,eb];rw[e2];clear e2 U;rw[<-s2];have B2:=B1.trans (b2.mono B1.size);have o2:=i.YQ b2 (ae _);have Fv:∀x∈[(J body)],x<256:=by intro x hx;rw[List.mem_singleton.1 hx];omega
 have I:YL a.size 5 (a.push (S (([(J body)]:List Nat).map bv).toArray 5)) (Y (aa ⟨a.size,0,am⟩) 1 1) [(J body)]:=YL.made Fv (ae _);have bp:Zm a.size a (a.push (S (([(J body)]:List Nat).map bv).toArray 5)):=Zm.push (ae _) _;refine ZP (E:=5) (B:=a.size) XD ao T8 SU SQ I zX (sb.YQ (B2.trans (bp.mono uh))) Fo ?_;intro wf h3 H b3 _;have B3:Zm a.size a h3:=bp.trans b3;have sc:=B2.trans (B3.mono uh);have P:YL a.size 5 h3 wf (Ia body):=H;clear I bp H b3;have fl:=S9 body;have k:=VN body;have bn:Xm body=Ia body++(Ro (Ia body)).take 4:=rfl;have shl:=QH (Ia body);simp -implicitDefEqProofs only[go_sem];refine (I6 T h3 wf (Ia body) P.bs (tk.QL sc)).use ?_;rintro _ h4 ⟨⟨ws,rfl,os⟩,b4⟩;have e0:On (Ia body).length=0:=by unfold On;rw[if_neg uh]
 rw[e0,if_pos rfl]at os;rw[e0];generalize Ro (Ia body)=SH at *;obtain⟨ps,cs,rfl,Jx⟩:=os.open;have sS:=os.bs;let⟨p',c',hv,hh⟩:=sS.Th;simp only[Value.slice.injEq]at hv;obtain⟨rfl,_,rfl⟩:=hv;obtain⟨bb,ob,rfl,_⟩:=hh zK;have s4:=Bs.MF sS (m:=4) uh cs;rw[shl]at Jx ⊢;have bh:(4:Int)<=(cs:Int):=uh;have aW:¬cs=0:=uh;have bf:=P.YQ b4 (ae _);have s3:=B3.size;have bN:=b4.size;have B4:Zm a.size a h4:=B3.trans (b4.mono s3);simp -implicitDefEqProofs only[go_sem,bh,aW,bG,bR];refine ZP (E:=5) (B:=a.size) XD ao T8 SU SQ bf uh s4 zK ?_;intro wg L og b5 _;rw[<-bn]at og;have X:Zm a.size a L:=B4.trans b5;have s5:=X.size;have bK:=B2.trans (X.mono uh);obtain⟨pg,cg,rfl,_⟩:=og.open;rw[k];have z:=X.get uh x6;have F:V.hc L ⟨f.size,0,am⟩=aa (Y pw (J l) y):=by rw[Zr z];rfl
 have o5:=o2.YQ X (ae _);have C:L[h.size+1]? = aa (S [Y am 0 0,R O 0].toArray 95):=X.get uh (b2.get uh x1);generalize Xm body=FR at *;by_cases q:100000<(J l)+((J body)+5)
 .have q':100000<((J l):Int)+(((J body)+5:Nat):Int):=uh;have y2:=Yr C 0;have Ye:h.size+1<L.size:=uh;rw[if_pos q]at t;rw[t];simp -implicitDefEqProofs only[go_sem,F,q',y2,Ye]
  grind [YL.nil,Zm.ZA]
 .have q':¬100000<((J l):Int)+(((J body)+5:Nat):Int):=uh;rw[if_neg q]at t;rw[t];simp -implicitDefEqProofs only[go_sem,F,q'];have bd:Bs L (Y pg ((J body)+5) cg) FR:=by rw[<-k];exact og.bs
  refine U8 (E:=5) (B:=M.size) XD ao T8 SU SQ o5 uh bd uh ?_;intro wz r oz b6 bq c2;have s6:=b6.size;have vS:∀b,Yq (Value.slice pw (J l) y)=aa b->b<f.size:=i.Zn.lt;have a1:r[f.size]? = aa (S [Y pw (J l) y,R O n].toArray 95):=by
   rw[bq.block _ uh (fun e=>by grind)];exact z
  have a2:r[h.size+1]? = aa (S [Y am 0 0,R O 0].toArray 95):=b6.get uh C;let⟨G,N,K,_⟩:=oz.open;have zl:(l++FR).length=(J l)+((J body)+5):=by rw[aH,k]
  rw[zl]at K;subst K;have D:=XZ (v:=Y G ((J l)+((J body)+5)) N) a1 (o:=0);let⟨j,g⟩:=ZO (a9 r f.size (S [Y G ((J l)+((J body)+5)) N,R O n].toArray 95):Hp);have br:Uf r ⟨f.size,0,am⟩ (Y G ((J l)+((J body)+5)) N)=aa j:=by rw[D,if_pos ⟨zX,rfl⟩,g];rfl
  have b7:SK (aa f.size) r j:=by rw[g];exact SK.Zk2 SK.refl
  have a0:j[f.size]? = aa (S [Y G ((J l)+((J body)+5)) N,R O n].toArray 95):=by rw[g,a7,if_pos rfl,if_pos uh]
  have A:j[h.size+1]? = aa (S [Y am 0 0,R O 0].toArray 95):=by
   rw[b7.block _ uh (fun e=>by grind)];exact a2
  have ax:=oz.kY b7 (fun b hb e=>by
   grind)
  have a3:rd j ⟨f.size,0,am⟩ 2=aa [Y G ((J l)+((J body)+5)) N,R O n]:=ZB a0 rfl;have y7:=Yr A 0;have EN:h.size+1<j.size:=Zb A;have dq:Zm h.size h r:=bK.trans (b6.mono uh);have Cn:Zm h.size h j:=dq.trans (b7.YQ uh (fun b e=>by grind));clear g D;simp -implicitDefEqProofs only[go_sem,br,a3,y7,EN];refine⟨⟨_,rfl,?_⟩,Cn.ZA uh _⟩;exact (ax.Ym uh _).mono uh
theorem TK(g:Hp)(a:List Nat):NT (g.push (S (a.map nv).toArray 3)) (Y (aa ⟨g.size,0,am⟩) (J a) (J a)) a:=by
 constructor
 rw[VH nv];exact Sl.made zX _
theorem Pz(T:a5)(h:Hp)(u:an)(a:List Nat)(s:NT h u a)(hl:(J a)<=100)(hb:∀x∈a,x<=1073741824):
  Zg aV T 133 #[u] h fun C h'=>YL h.size 5 h' C (ZI a)/\Zm h.size h h':=by
 obtain⟨p,c,rfl,r⟩:=Zgb s;refine Zg.X8 [_] Tryz.func133 ?_;simp -implicitDefEqProofs only[go_sem];refine VS.YC (fun F g=>Zm h.size h g/\F 6=Y p (J a) c/\F 7=R O (J a)/\∃i:Nat,i<=(J a)/\F 8=R O i/\YL h.size 5 g (F 3) (ZI (a.take i)))
  (fun F _=>(J a)-(vi (F 8)).toNat) rfl ⟨Zm.refl _ _,rfl,rfl,0,uh,rfl,YL.nil _ _ _⟩ ?_
 rintro F g ⟨q,m,k,i,hi,j,v⟩;have Mm:=q.size;by_cases d:i<(J a)
 .have N:(i:Int)<(J a):=uh;obtain⟨b,o,rfl,D,r⟩:=r zK;have t:V.hc g ⟨b,o+i,am⟩=aa (R O (a.getD i 0:Nat)):=by rw[q.hc (by exact D)];exact r i d
  have H:a.take (i+1)=a.take i++[a.getD i 0]:=by
   rw[Xg _ i d,aq,aI d];rfl
  have hx:a.getD i 0<=1073741824:=by
   rw[aq,aI d];exact hb _ (List.getElem_mem d)
  generalize a.getD i 0=x at *;obtain⟨f,e⟩:∃y:Int,y=(x:Int):=⟨_,rfl⟩
  obtain⟨z,W⟩:∃y:Int,y=((x/16777216%256:Nat):Int):=⟨_,rfl⟩
  obtain⟨z1,G⟩:∃y:Int,y=((x/65536%256:Nat):Int):=⟨_,rfl⟩
  obtain⟨z2,A⟩:∃y:Int,y=((x/256%256:Nat):Int):=⟨_,rfl⟩
  obtain⟨z3,n⟩:∃y:Int,y=((x%256:Nat):Int):=⟨_,rfl⟩
  rw[<-e]at t;have M:Unit->Xn O f 24%256=z:=fun _=>by grind [Xn,UN]
  have L:Unit->Xn O f 16%256=z1:=fun _=>by grind [Xn,UN]
  have K:Unit->Xn O f 8%256=z2:=fun _=>by grind [UN]
  have I:Unit->f%256=z3:=fun _=>by grind
  have Ri:(ZI (a.take i)).length<=400:=by rw[ZV,aL];omega
  clear e;simp -implicitDefEqProofs only[go_sem,m,k,j,N,t,M (),L (),K (),I ()];subst W G A n;refine ZP (E:=5) (B:=h.size) XD ao T8 SU SQ (v.push _) Fo (Bs.made (l:=X7 x) (Sa x) 4) (by simp[X7];omega) ?_;intro X g' w U _;simp -implicitDefEqProofs only[go_sem,m,k,j];refine⟨⟨(q.add _).trans U,m,k,i+1,d,rfl,?_⟩,?_⟩
  .rw[H];unfold ZI at w ⊢;rw[bW];simp only[cd,cf,aC];exact w
  .simp only[vi,Zu,↓reduceIte,j];omega
 .have P:¬(i:Int)<(J a):=uh;obtain rfl:i=(J a):=uh;rw[List.take_length]at v;simp -implicitDefEqProofs only[go_sem,m,k,j,P]
  grind
def JS(l:List Nat)(n:Int)(b:ZN):Int:=if ¬Xo l n then 5 else if ¬Zv b then 2 else Qz l n 9
def QA(b:ZN):List Nat:=1 :: ZI [b.r.toNat,b.n.toNat]
theorem nr(b:ZN):YX ⟨0,0⟩ [] b=if Zv b then 0 else 2:=by
 grind [Qq,YX,Zv,Zj]
theorem Gi(T:a5)(h:Hp)(v:an)(n:Int)(l:List Nat)(b:ZN)(s:Bs h v l)(hl:(J l)<=140737488355328)(tk:Tk h):
  Zg aV T 108 #[aS [v,R O n].toArray,aS (Q0 b).toArray] h fun v' h'=>Oo h.size h' v' l n (JS l n b) (Xm (QA b))/\Zm h.size h h':=by
 obtain⟨p,c,rfl,_⟩:=s.open;refine Zg.X8 [_,_] Tryz.func108 ?_;unfold Oo Q0;simp -implicitDefEqProofs only[go_sem];let⟨L,H⟩:=ZO (((h.push (S [Y p (J l) c,R O n].toArray 95)).push (S [R O b.r,R O b.n].toArray 97)).push (S [Y am 0 0,R O 0].toArray 95):Hp);have b0:Zm h.size h L:=by rw[H];exact (((Zm.refl _ _).add _).add _).add _
 have s0:L.size=h.size+3:=by rw[H];simp
 have t0:L[h.size]? = aa (S [Y p (J l) c,R O n].toArray 95):=by
  rw[H,aw,if_neg Fo,aw,if_neg zX,Zf]
 have t1:L[h.size+1]? = aa (S [R O b.r,R O b.n].toArray 97):=by
  rw[H,aw,if_neg zX,aw,if_pos zX]
 have x0:L[h.size+2]? = aa (S [Y am 0 0,R O 0].toArray 95):=by
  rw[H,aw,if_pos zX]
 rw[<-H];clear H;refine (Wp T L _ n l (s.YQ b0) hl).use ?_;rintro _ o ⟨b1,f⟩;have s1:=b1.size;have B1:Zm h.size h o:=b0.trans (b1.mono uh);have x1:=b1.get uh x0;by_cases ok:Xo l n
 case neg=>
  have ee:JS l n b=5:=by unfold JS;rw[if_pos ok]
  rw[if_neg (show ¬((J l)<=100000/\0<=n/\n<=(J l)) from ok)]at f;subst f;rw[ee];have y2:=Yr x1 0;have Ye:h.size+2<o.size:=uh;have XU:¬h.size+2=o.size:=uh;simp -implicitDefEqProofs only[go_sem,y2,XU,Ye]
  grind [YL.nil,Zm.Xj,Zm.ZA]
 rw[if_pos (show ((J l)<=100000/\0<=n/\n<=(J l)) from ok)]at f;obtain⟨w,rfl,f⟩:=f;obtain⟨pw,cw,rfl,_⟩:=f.open;have a0:=b1.get uh t1;have r1:rd o ⟨h.size+1,0,am⟩ 2=aa [R O b.r,R O b.n]:=ZB a0 rfl;have bK:¬h.size+1=o.size:=uh;simp -implicitDefEqProofs only[go_sem,r1,bK];have b2:Zm o.size o (o.push (S [Y pw (J l) cw,R O n].toArray 95)):=Zm.push (ae _) _;refine (Ol T _ ⟨0,0⟩ (Y am 0 0) [] b (QY.nil 0 141 Zz 8 _).ts zX).use ?_;rintro _ A ⟨⟨w1,w2,rfl,q1,q2⟩,b3⟩;simp only[ite_self]at q1;have B3:Zm o.size o A:=b2.trans (b3.mono b2.size);rw[nr];let⟨p1,c1,vS,_⟩:=q1.open;have s3:=B3.size;have x3:=B3.get uh x1;have sc:=B1.trans (B3.mono uh);by_cases may:Zv b
 case neg=>
  have ee:JS l n b=2:=by unfold JS;rw[if_neg (fun hn=>hn ok),if_pos may]
  rw[ee,if_neg may];obtain⟨ax,aW⟩:∃w,w=w1:=⟨_,rfl⟩
  subst vS;have y2:=Yr x3 0;have Ye:h.size+2<A.size:=uh;have XU:¬h.size+2=A.size:=uh;unfold XO;simp -implicitDefEqProofs only[go_sem,y2,XU,Ye]
  grind [YL.nil,Zm.Xj,Zm.ZA]
 have ee:JS l n b=Qz l n 9:=by unfold JS;rw[if_neg (fun hn=>hn ok),if_neg (fun hn=>hn may)]
 rw[ee,if_pos may];let⟨⟨m1,m2⟩,m3,m4⟩:=may;let⟨br,bn⟩:=b;obtain⟨r,rfl⟩:∃r:Nat,br=r:=⟨br.toNat,zK⟩
 obtain⟨m,rfl⟩:∃m:Nat,bn=m:=⟨bn.toNat,zK⟩
 simp only at m1 m2 m3 m4;unfold QA;simp only[bw];subst vS;unfold XO;have t3:=B3.get uh (b1.get uh t0);have t13:=B3.get uh a0;let⟨g,hg⟩:=ZO (A.push (S [R O (r:Nat),R O (m:Nat),Y p1 ([]:List Vt).length c1].toArray 100):Hp);simp -implicitDefEqProofs only[go_sem];have e3:A.push (S #[Value.int O (r:Nat),R O (m:Nat),Y p1 0 c1] 100)=g:=hg.symm;rw[e3];have bg:Zm A.size A g:=by rw[hg];exact Zm.push (ae _) _
 have sg:g.size=A.size+1:=by rw[hg];simp
 clear e3 hg;have Bg:Zm h.size h g:=sc.trans (bg.mono uh);have F:=bg.get uh x3;have t4:=bg.get uh t3;have t14:=bg.get uh t13;have r0:rd g ⟨h.size,0,am⟩ 2=aa [Y p (J l) c,R O n]:=ZB t4 rfl;have c0:V.hc g ⟨h.size+1,0,am⟩=aa (R O (r:Nat)):=by rw[Zr t14];rfl
 have a3:V.hc g ⟨h.size+1,1,am⟩=aa (R O (m:Nat)):=by rw[Zr t14];rfl
 have k0:h.size<g.size:=uh;have k1:h.size+1<g.size:=uh;refine VS.z (g.size) [12,13] (.q 0 (.p 2 (.q 3 (.p 4 (.q 5 (.or 1 (.s 6 (.s 7 (.s 8 (.s 9 (.p 10 (.p 11 (.w 12 (.w 13 .nil)))))))) (.s 6 (.or 1 (.s 7 (.s 8 (.s 9 (.p 10 (.p 11 (.w 12 (.w 13 .nil))))))) (.s 7 (.s 1 (.s 8 (.s 9 (.p 10 (.p 11 (.w 12 (.w 13 .nil)))))))))))))))) mixed zI ?_;simp -implicitDefEqProofs only[go_sem,r0,c0,a3,k0,k1];refine⟨?_,?_,?_⟩
 .have o0:YL g.size 5 (g.push (S (([1]:List Nat).map bv).toArray 5)) (Y (aa ⟨g.size,0,am⟩) 1 1) [1]:=YL.made HE (ae _);have B0:Zm g.size g ((g.push (S (([1]:List Nat).map bv).toArray 5)).push (S (([r,m]:List Nat).map nv).toArray 3)):=(Zm.push (ae _) _).Xj zX _;have a2:=o0.push (S (([r,m]:List Nat).map nv).toArray 3);have I:NT ((g.push (S (([1]:List Nat).map bv).toArray 5)).push (S (([r,m]:List Nat).map nv).toArray 3)) (Y (aa ⟨(g.push (S (([1]:List Nat).map bv).toArray 5)).size,0,am⟩) 2 2) [r,m]:=TK _ _;have e1:(g.push (S (([1]:List Nat).map bv).toArray 5)).size=g.size+1:=zX;rw[e1]at I;refine (Pz T _ _ [r,m] I zX zK).use ?_;rintro w5 K ⟨W,G⟩;have k:=B0.trans (G.mono B0.size);have f:=a2.YQ G (ae _);have N:=W.bs;simp -implicitDefEqProofs only[go_sem,k];refine ZP (E:=5) (B:=g.size) XD ao T8 SU SQ f k.size N (by rw[ZV];simp) ?_;intro x j U b6 _;have a:Zm g.size g j:=k.trans b6;have e:=Bg.trans (a.mono uh);have i:YL g.size 5 j x (1 :: ZI [r,m]):=U;simp -implicitDefEqProofs only[go_sem,a];refine (Py T j _ x n l (1 :: ZI [r,m]) (s.YQ e) hl i.bs (by grind [ZV]) (tk.QL e)).use ?_;rintro _ y ⟨⟨w7,rfl,d⟩,C⟩;have el:(1 :: ZI [r,m]).length=9:=by simp only[bE,ZV,bT]
  rw[el]at d ⊢;have D:Zm g.size g y:=a.trans (C.mono a.size);have Cn:=e.trans (C.mono e.size);have u:=D.get uh F;have M:=Yr u 0;have EN:h.size+2<y.size:=Zb u;generalize Xm (1 :: ZI [r,m])=FR at *;let⟨E,hE⟩:=ZO (Qz l n 9);rw[<-hE]at d ⊢;obtain⟨z,X⟩:∃z:Int,z=if E=0 then n else 0:=⟨_,rfl⟩
  rw[<-X];obtain⟨pz,cz,rfl,_⟩:=d.open;have P:=d;simp -implicitDefEqProofs only[go_sem,D,M,EN];refine⟨⟨_,rfl,?_⟩,Cn.ZA uh _⟩;exact (d.Ym (by have:=a.size;omega) _).mono (by have:=a.size;omega)
 .have t:Zm g.size g (g.push (S (([r,m]:List Nat).map nv).toArray 3)):=Zm.push (ae _) _;have o0:YL g.size 5 ((g.push (S (([r,m]:List Nat).map nv).toArray 3)).push (S (([1]:List Nat).map bv).toArray 5)) (Y (aa ⟨(g.push (S (([r,m]:List Nat).map nv).toArray 3)).size,0,am⟩) 1 1) [1]:=(YL.made HE (ae _)).mono zX;have B0:Zm g.size g ((g.push (S (([r,m]:List Nat).map nv).toArray 3)).push (S (([1]:List Nat).map bv).toArray 5)):=t.Xj zX _;have a1:NT (g.push (S (([r,m]:List Nat).map nv).toArray 3)) (Y (aa ⟨g.size,0,am⟩) 2 2) [r,m]:=TK _ _;have I:=a1.YQ (Zm.push (ae _) (S (([1]:List Nat).map bv).toArray 5));have e1:(g.push (S (([r,m]:List Nat).map nv).toArray 3)).size=g.size+1:=zX;rw[e1]at o0;refine (Pz T _ _ [r,m] I zX zK).use ?_;rintro w5 K ⟨W,G⟩;have k:=B0.trans (G.mono B0.size);have f:=o0.YQ G (ae _);have N:=W.bs;simp -implicitDefEqProofs only[go_sem,k];refine ZP (E:=5) (B:=g.size) XD ao T8 SU SQ f k.size N (by rw[ZV];simp) ?_;intro x j U b6 _;have a:Zm g.size g j:=k.trans b6;have e:=Bg.trans (a.mono uh);have i:YL g.size 5 j x (1 :: ZI [r,m]):=U;simp -implicitDefEqProofs only[go_sem,a];refine (Py T j _ x n l (1 :: ZI [r,m]) (s.YQ e) hl i.bs (by grind [ZV]) (tk.QL e)).use ?_;rintro _ y ⟨⟨w7,rfl,d⟩,C⟩;have el:(1 :: ZI [r,m]).length=9:=by simp only[bE,ZV,bT]
  rw[el]at d ⊢;have D:Zm g.size g y:=a.trans (C.mono a.size);have Cn:=e.trans (C.mono e.size);have u:=D.get uh F;have M:=Yr u 0;have EN:h.size+2<y.size:=Zb u;generalize Xm (1 :: ZI [r,m])=FR at *;let⟨E,hE⟩:=ZO (Qz l n 9);rw[<-hE]at d ⊢;obtain⟨z,X⟩:∃z:Int,z=if E=0 then n else 0:=⟨_,rfl⟩
  rw[<-X];obtain⟨pz,cz,rfl,_⟩:=d.open;have P:=d;simp -implicitDefEqProofs only[go_sem,D,M,EN];refine⟨⟨_,rfl,?_⟩,Cn.ZA uh _⟩;exact (d.Ym (by have:=a.size;omega) _).mono (by have:=a.size;omega)
 .have t:Zm g.size g (g.push (S (([r,m]:List Nat).map nv).toArray 3)):=Zm.push (ae _) _;have I:NT (g.push (S (([r,m]:List Nat).map nv).toArray 3)) (Y (aa ⟨g.size,0,am⟩) 2 2) [r,m]:=TK _ _;refine (Pz T _ _ [r,m] I zX zK).use ?_;rintro w5 K ⟨W,G⟩;have q:=t.trans (G.mono t.size);have k:Zm g.size g (K.push (S (([1]:List Nat).map bv).toArray 5)):=q.Xj q.size _;have f:YL g.size 5 (K.push (S (([1]:List Nat).map bv).toArray 5)) (Y (aa ⟨K.size,0,am⟩) 1 1) [1]:=(YL.made HE (ae _)).mono q.size;have N:=W.bs.YQ (Zm.push (ae K.size) (S (([1]:List Nat).map bv).toArray 5));simp -implicitDefEqProofs only[go_sem,q,k];refine ZP (E:=5) (B:=g.size) XD ao T8 SU SQ f k.size N (by rw[ZV];simp) ?_;intro x j U b6 _;have a:Zm g.size g j:=k.trans b6;have e:=Bg.trans (a.mono uh);have i:YL g.size 5 j x (1 :: ZI [r,m]):=U;simp -implicitDefEqProofs only[go_sem,a];refine (Py T j _ x n l (1 :: ZI [r,m]) (s.YQ e) hl i.bs (by grind [ZV]) (tk.QL e)).use ?_;rintro _ y ⟨⟨w7,rfl,d⟩,C⟩;have el:(1 :: ZI [r,m]).length=9:=by simp only[bE,ZV,bT]
  rw[el]at d ⊢;have D:Zm g.size g y:=a.trans (C.mono a.size);have Cn:=e.trans (C.mono e.size);have u:=D.get uh F;have M:=Yr u 0;have EN:h.size+2<y.size:=Zb u;generalize Xm (1 :: ZI [r,m])=FR at *;let⟨E,hE⟩:=ZO (Qz l n 9);rw[<-hE]at d ⊢;obtain⟨z,X⟩:∃z:Int,z=if E=0 then n else 0:=⟨_,rfl⟩
  rw[<-X];obtain⟨pz,cz,rfl,_⟩:=d.open;have P:=d;simp -implicitDefEqProofs only[go_sem,D,M,EN];refine⟨⟨_,rfl,?_⟩,Cn.ZA uh _⟩;exact (d.Ym (by have:=a.size;omega) _).mono (by have:=a.size;omega)
theorem Ra(n:Nat):Ug n [Value.int ak 0]=(a4 n 0).map bv:=by
 induction n with
 | zero=>rfl
 | succ n a=>rw[Ug,a];rfl
theorem EO:∀(vs zs:List an),(J vs)<=(J zs)->XB zs 0 vs=vs++zs.drop (J vs)
 | [],zs,_=>by cases zs<;>rfl
 | v :: vs,[],h=>by simp at h
 | v :: vs,z :: zs,h=>by
  rw[XB,EO vs zs (by simpa using h)];rfl
theorem gL(key:List Nat):XB ((a4 64 0).map bv) 0 (((Ls key).map bv).take (min (Ls key).length 64))=(Tq key).map bv:=by
 have:=SY key;rw[bk this,aX zX,EO _ _ Fo,List.length_map,<-List.map_drop,List.drop_replicate,Tq,List.map_append]
theorem Zcn(T:a5)(h:Hp)(v:an)(key:List Nat)(w:Nat)(s:Bs h v key)(N:(J key)<=100000)(hw:w<256)(tk:Tk h):
  Zg aV T 80 #[v,R ak w] h fun L h'=>YL h.size 5 h' L (Sz key w)/\Zm h.size h h':=by
 obtain⟨p,cp,rfl,V⟩:=s.open;have y:MG key:=s.byte;refine Zg.X8 [_,_] Tryz.func80 ?_;by_cases t:64<(J key)
 .have m:64<((J key):Int):=uh;have hK:Ro key=Ls key:=by unfold Ls;rw[if_pos t]
  simp -implicitDefEqProofs only[go_sem,m];refine (bJ T _ _ key s N tk).use ?_;rintro u g ⟨M,bg⟩;have A:=M.bs;rw[hK]at A;simp -implicitDefEqProofs only[go_sem];have D:Zm h.size h (g.push (S (Ug 64 [Value.int ak 0]).toArray 5)):=bg.add _;have a:=A.YQ (Zm.push (ae g.size) (S (Ug 64 [Value.int ak 0]).toArray 5));have kl:=SY key;refine Ek (o:=0) (dl:=64) (dc:=64) (c:=Ug 64 [Value.int ak 0]) (E':=5) XD T8 Zf a.sl (Oe _) (by rw[Ra];simp;omega) ?_;rw[SJ,Ra,gL];have q:Zm h.size h (g.push (S ((Tq key).map bv).toArray 5)):=bg.add _;have x:(g.push (S ((Tq key).map bv).toArray 5))[g.size]? = aa (S (((Sz key w).take 0++(Tq key).drop 0).map bv++[]).toArray 5):=by
   rw[bo,bV,bc,aC];exact Zf
  simp -implicitDefEqProofs only[go_sem];refine VS.YC (fun d g'=>Zm h.size h g'/\d 1=R ak w/\d 5=Y (aa ⟨g.size,0,am⟩) 64 64/\d 17=R O 64/\∃i:Nat,i<=64/\d 18=R O i/\g'[g.size]? = aa (S (((Sz key w).take i++(Tq key).drop i).map bv++[]).toArray 5))
   (fun F _=>64-(vi (F 18)).toNat) rfl ⟨q,rfl,rfl,rfl,0,uh,rfl,x⟩ ?_
  clear D q x a;rintro F g' ⟨r,f1,k,f17,i,hi,f18,b⟩;have P:=Zb b;have K:((Sz key w).take i++(Tq key).drop i).length=64:=by rw[aH,aL,ba,Xe,QI];omega
  by_cases n:i<64
  .have H:(i:Int)<64:=uh;have e:=Yk (f:=bv) b (i:=i) uh;have G:((Sz key w).take i++(Tq key).drop i).getD i 0=(Tq key).getD i 0:=by
    rw[aq,a8 zK,aL,Xe,bk uh,bl,bt,cc,<-aq]
   rw[G]at e;unfold bv at e;have E:=BP key w n;have cs:=YN (f:=bv) b (i:=i) uh ((Sz key w).getD i 0) rfl;rw[Lv _ _ i (by rw[Xe];exact n) (by rw[Xe,QI])]at cs;have j:=Yn (IU y) i;have B:Unit->Y1 .xor ak (((Tq key).getD i 0:Nat):Int) (w:Int)=(((Sz key w).getD i 0:Nat):Int):=fun _=>by rw[E];exact ar _ _ j hw
   have l:Uf g' ⟨g.size,i,am⟩ (R ak (((Sz key w).getD i 0:Nat):Int))=_:=cs;simp -implicitDefEqProofs only[go_sem,f1,k,f17,f18,H,e,B (),l];refine⟨⟨r.ZA (bg.size) _,f1,k,f17,i+1,n,rfl,YB b⟩,?_⟩;simp only[vi,Zu,↓reduceIte,f18];omega
  .have I:¬(i:Int)<64:=uh;obtain rfl:i=64:=uh;rw[aX (by rw[Xe];omega),a6 (by rw[QI];omega),aC,aC]at b;simp -implicitDefEqProofs only[go_sem,k,f17,f18,I];exact⟨⟨.inr ⟨g.size,64,[],bg.size,by rw[Xe],zK,zK,by rw[Xe];rfl,by rw[Xe];omega⟩,BO y hw⟩,r⟩
 .have m:¬64<((J key):Int):=uh;have hK:Ls key=key:=by unfold Ls;rw[if_neg t]
  have z:=Zm.refl h.size h;have A:=s;have U:Bs h (Y p (Ls key).length cp) (Ls key):=by rw[hK];exact s
  simp -implicitDefEqProofs only[go_sem,m];have D:Zm h.size h (h.push (S (Ug 64 [Value.int ak 0]).toArray 5)):=z.add _;have C:(J key)=(Ls key).length:=by rw[hK]
  rw[C];have a:=U.YQ (Zm.push (ae h.size) (S (Ug 64 [Value.int ak 0]).toArray 5));have kl:=SY key;refine Ek (o:=0) (dl:=64) (dc:=64) (c:=Ug 64 [Value.int ak 0]) (E':=5) XD T8 Zf a.sl (Oe _) (by rw[Ra];simp;omega) ?_;rw[SJ,Ra,gL];have q:Zm h.size h (h.push (S ((Tq key).map bv).toArray 5)):=z.add _;have x:(h.push (S ((Tq key).map bv).toArray 5))[h.size]? = aa (S (((Sz key w).take 0++(Tq key).drop 0).map bv++[]).toArray 5):=by
   rw[bo,bV,bc,aC];exact Zf
  simp -implicitDefEqProofs only[go_sem];refine VS.YC (fun d g'=>Zm h.size h g'/\d 1=R ak w/\d 5=Y (aa ⟨h.size,0,am⟩) 64 64/\d 17=R O 64/\∃i:Nat,i<=64/\d 18=R O i/\g'[h.size]? = aa (S (((Sz key w).take i++(Tq key).drop i).map bv++[]).toArray 5))
   (fun F _=>64-(vi (F 18)).toNat) rfl ⟨q,rfl,rfl,rfl,0,uh,rfl,x⟩ ?_
  clear D q x a;rintro F g' ⟨r,f1,k,f17,i,hi,f18,b⟩;have P:=Zb b;have K:((Sz key w).take i++(Tq key).drop i).length=64:=by rw[aH,aL,ba,Xe,QI];omega
  by_cases n:i<64
  .have H:(i:Int)<64:=uh;have e:=Yk (f:=bv) b (i:=i) uh;have G:((Sz key w).take i++(Tq key).drop i).getD i 0=(Tq key).getD i 0:=by
    rw[aq,a8 zK,aL,Xe,bk uh,bl,bt,cc,<-aq]
   rw[G]at e;unfold bv at e;have E:=BP key w n;have cs:=YN (f:=bv) b (i:=i) uh ((Sz key w).getD i 0) rfl;rw[Lv _ _ i (by rw[Xe];exact n) (by rw[Xe,QI])]at cs;have j:=Yn (IU y) i;have B:Unit->Y1 .xor ak (((Tq key).getD i 0:Nat):Int) (w:Int)=(((Sz key w).getD i 0:Nat):Int):=fun _=>by rw[E];exact ar _ _ j hw
   have l:Uf g' ⟨h.size,i,am⟩ (R ak (((Sz key w).getD i 0:Nat):Int))=_:=cs;simp -implicitDefEqProofs only[go_sem,f1,k,f17,f18,H,e,B (),l];refine⟨⟨r.ZA (z.size) _,f1,k,f17,i+1,n,rfl,YB b⟩,?_⟩;simp only[vi,Zu,↓reduceIte,f18];omega
  .have I:¬(i:Int)<64:=uh;obtain rfl:i=64:=uh;rw[aX (by rw[Xe];omega),a6 (by rw[QI];omega),aC,aC]at b;simp -implicitDefEqProofs only[go_sem,k,f17,f18,I];exact⟨⟨.inr ⟨h.size,64,[],z.size,by rw[Xe],zK,zK,by rw[Xe];rfl,by rw[Xe];omega⟩,BO y hw⟩,r⟩
theorem nt(T:a5)(h:Hp)(v u:an)(key b:List Nat)(s:Bs h v key)(sb:Bs h u b)(V:(J key)<=10000)(hb:(J b)<=10000)(tk:Tk h):
  Zg aV T 60 #[v,u] h fun t h'=>YL h.size 5 h' t (IV key b)/\Zm h.size h h':=by
 have w:=sb;refine Zg.X8 [_,_] Tryz.func60 ?_;simp -implicitDefEqProofs only[go_sem];refine (Zcn T h v key 92 s uh uh tk).use ?_;rintro v1 l ⟨j,c⟩;have i:=c.size;simp -implicitDefEqProofs only[go_sem];refine (Zcn T l v key 54 (s.YQ c) uh uh (tk.QL c)).use ?_;rintro N h2 ⟨D,a⟩;have x:=a.size;have p:=c.trans (a.mono i);have F:=j.YQ a (ae _);have k:=Xe key 92;have U:=Xe key 54;simp -implicitDefEqProofs only[go_sem];refine ZP (E:=5) (B:=l.size) XD ao T8 SU SQ D x (sb.YQ p) zK ?_;intro r H C f _;have P:=f.size;have o:=p.trans (f.mono i);have g:=j.YQ (a.trans f) (ae _);simp -implicitDefEqProofs only[go_sem];refine (bJ T H r _ C.bs zK (tk.QL o)).use ?_;rintro M X ⟨A,m⟩;have n:=o.trans (m.mono uh);have e:=g.YQ m (ae _);simp -implicitDefEqProofs only[go_sem];refine ZP (E:=5) (B:=h.size) XD ao T8 SU SQ e n.size A.bs (by rw[k,QH];omega) ?_;intro q G z K _;have d:=n.trans K;simp -implicitDefEqProofs only[go_sem];refine (bJ T G q _ z.bs (by rw[aH,k,QH];omega) (tk.QL d)).use ?_;rintro L W ⟨y,I⟩;simp -implicitDefEqProofs only[go_sem];exact⟨y.mono d.size,d.trans (I.mono d.size)⟩
def EP(m n:Nat):Int:=if 256<m\/2000<n then 1 else 0
def Zco(B:Nat)(h':Hp)(a:an)(key b:List Nat):Prop:=∃w,a=.tuple [w,R O (EP (J key) (J b))].toArray/\YL B 5 h' w (if EP (J key) (J b)=0 then IV key b else [])
theorem wZ(T:a5)(h:Hp)(v u:an)(key b:List Nat)(s:Bs h v key)(sb:Bs h u b)(tk:Tk h):
  Zg aV T 65 #[v,u] h fun d h'=>Zco h.size h' d key b/\Zm h.size h h':=by
 obtain⟨p,cp,rfl,m⟩:=s.open;obtain⟨q,k,rfl,l⟩:=sb.open;refine Zg.X8 [_,_] Tryz.func65 ?_;unfold Zco EP;by_cases f:256<(J key)
 .have c:256<((J key):Int):=uh;rw[if_pos (.inl f)];simp -implicitDefEqProofs only[go_sem,c];exact⟨_,rfl,YL.nil _ _ _⟩
 .have c:¬256<((J key):Int):=uh;by_cases e:2000<(J b)
  .have a:2000<((J b):Int):=uh;rw[if_pos (.inr e)];simp -implicitDefEqProofs only[go_sem,c,a];exact⟨_,rfl,YL.nil _ _ _⟩
  .have a:¬2000<((J b):Int):=uh;rw[if_neg uh];simp -implicitDefEqProofs only[go_sem,c,a];refine (nt T _ _ _ key b s sb uh uh tk).use ?_;rintro w j ⟨i,g⟩;simp -implicitDefEqProofs only[go_sem,g]
   grind
theorem gM(T:a5)(h:Hp)(v u:an)(key b:List Nat)(s:Bs h v key)(sb:Bs h u b)(q:(J key)<=256)(hb:(J b)<=2000)(tk:Tk h):
  Zg aV T 40 #[v,u] h fun e h'=>(Bs h' e ((IV key b).take 16)/\RT e)/\Zm h.size h h':=by
 refine Zg.X8 [_,_] Tryz.func40 ?_;simp -implicitDefEqProofs only[go_sem];refine (wZ T _ _ _ key b s sb tk).use ?_;rintro _ r ⟨⟨w,rfl,a⟩,k⟩;have i:EP (J key) (J b)=0:=by unfold EP;rw[if_neg uh]
 rw[i,if_pos rfl]at a;rw[i];have j:=SZ key b;generalize IV key b=M at *;obtain⟨p,c,rfl,hc⟩:=a.open;have f:=a.bs;let⟨n,c',g,hh⟩:=f.Th;simp only[Value.slice.injEq]at g;obtain⟨rfl,_,rfl⟩:=g;obtain⟨t,o,rfl,_⟩:=hh zK;have fin:=Bs.MF f (m:=16) uh c;rw[j]at hc ⊢;have d:(16:Int)<=(c:Int):=uh;have l:¬c=0:=uh;simp -implicitDefEqProofs only[go_sem,d,l,bG,bR,k];exact⟨fin,show 16<=c by omega⟩
def Zcp(c r u:Nat):List Nat:=[c,r]++X7 u
def gN(key:List Nat)(c r u:Nat):List Nat:=Zcp c r u++(IV key (Zcp c r u)).take 16
theorem Gj(c r u:Nat):(Zcp c r u).length=6:=rfl
theorem Gk(key:List Nat)(c r u:Nat):(gN key c r u).length=22:=by
 grind [gN.eq_1,Gj,SZ]
def Se(kl:Nat)(c r u:Int):Int:=if kl≠32 then 1 else QN c r u
def ny(B:Nat)(h':Hp)(a:an)(key:List Nat)(c r u:Int):Prop:=∃w,a=.tuple [w,R O (Se (J key) c r u)].toArray/\YL B 5 h' w (if Se (J key) c r u=0 then gN key c.toNat r.toNat u.toNat else [])
theorem gO{c r u:Int}(h:QN c r u=0):∃c' r' a:Nat,c=c'/\r=r'/\u=a/\c'<8/\r'<8/\a<=1048576:=by
 unfold QN at h;split at h
 .cases h
 .exact⟨c.toNat,r.toNat,u.toNat,uh,uh,uh,uh,uh,uh⟩
theorem Zcq(T:a5)(h:Hp)(v:an)(key:List Nat)(c r u:Int)(s:Bs h v key)(tk:Tk h):
  Zg aV T 69 #[v,aS (Oi c r u).toArray] h fun t h'=>ny h.size h' t key c r u/\Zm h.size h h':=by
 obtain⟨p,cp,rfl,_⟩:=s.open;refine Zg.X8 [_,_] Tryz.func69 ?_;unfold ny Oi;by_cases F:(J key)=32
 case neg=>
  have j:Se (J key) c r u=1:=by unfold Se;rw[if_pos F]
  have f:¬((J key):Int)=32:=uh;rw[j];simp -implicitDefEqProofs only[go_sem,f];exact⟨_,rfl,YL.nil _ _ _⟩
 have f:((J key):Int)=32:=uh;have j:Se (J key) c r u=QN c r u:=by unfold Se;rw[if_neg uh]
 rw[j];simp -implicitDefEqProofs only[go_sem,f];refine (Ep T _ c r u).use ?_;rintro _ _ ⟨rfl,rfl⟩;unfold Oi;by_cases q:QN c r u=0
 case neg=>
  simp -implicitDefEqProofs only[go_sem,q];exact⟨_,rfl,YL.nil _ _ _⟩
 obtain⟨c,r,u,rfl,rfl,rfl,hc,hr,X⟩:=gO q;rw[q];have I:(c:Int)%256=(c:Int):=uh;have H:(r:Int)%256=(r:Int):=uh;simp only[bw];simp -implicitDefEqProofs only[go_sem,I,H];let⟨a,e⟩:=ZO ((h.push (S [Value.int O c,R O r,R O u].toArray 74)).push (S [Value.int O c,R O r,R O u].toArray 74):Hp);have M:Zm h.size h a:=by rw[e];exact ((Zm.refl _ _).add _).add _
 have y:a.size=h.size+1+1:=by rw[e];simp
 rw[<-y,<-e];clear e;have N:∀x∈[c,r],x<256:=by
  intro x D;simp only[cn,List.not_mem_nil,or_false]at D;omega
 have C:YL a.size 5 (a.push (S (([c,r]:List Nat).map bv).toArray 5)) (Y (aa ⟨a.size,0,am⟩) 2 2) [c,r]:=YL.made N (ae _);have P:Zm a.size a (a.push (S (([c,r]:List Nat).map bv).toArray 5)):=Zm.push (ae _) _;refine (rn T _ a.size _ [c,r] u C zX zX uh).use ?_;rintro n i ⟨A,L⟩;have o:=P.trans L;have d:Zm h.size h i:=M.trans (o.mono uh);have b:YL a.size 5 i n (Zcp c r u):=A;have gl:=Gj c r u;unfold gN;generalize Zcp c r u=G at *;simp -implicitDefEqProofs only[go_sem];rw[<-f];refine (gM T i _ n key G (s.YQ d) b.bs uh uh (tk.QL d)).use ?_;rintro V h4 ⟨⟨w,_⟩,k⟩;have W:=o.size;have g:=b.YQ k (ae _);have m:=d.trans (k.mono d.size);simp -implicitDefEqProofs only[go_sem];refine ZP (E:=5) (B:=a.size) XD ao T8 SU SQ g (by have:=k.size;omega) w zK ?_;intro U h5 z K _;have l:=m.trans (K.mono uh);simp -implicitDefEqProofs only[go_sem,l];exact⟨_,rfl,z.mono uh⟩
def bL:List an:=Oi 0 0 0
def UV(key l:List Nat):Int:=if (J key)≠32\/(J l)≠22 then 1 else if (IV key (l.take 6)).take 16≠l.drop 6 then 6 else QN (l.getD 0 0:Nat) (l.getD 1 0:Nat) (JE l 2:Nat)
def bM(key l:List Nat):List an:=if UV key l=0 then Oi (l.getD 0 0:Nat) (l.getD 1 0:Nat) (JE l 2:Nat) else bL
theorem ER(T:a5)(h:Hp)(v u:an)(key l:List Nat)(s:Bs h v key)(sl:Bs h u l)(cu:RT u)(tk:Tk h):
  Zg aV T 21 #[v,u] h fun v' h'=>v'=.tuple [aS (bM key l).toArray,R O (UV key l)].toArray/\Zm h.size h h':=by
 obtain⟨p,cp,rfl,_⟩:=s.open;obtain⟨q,t,rfl,hq⟩:=sl.Th;refine Zg.X8 [_,_] Tryz.func21 ?_;by_cases hk:(J key)=32
 case neg=>
  have r:UV key l=1:=by unfold UV;rw[if_pos (.inl hk)]
  have K:¬((J key):Int)=32:=uh;unfold bM;rw[r];unfold bL Oi;simp +contextual -implicitDefEqProofs only[go_sem,K]
  all_goals exact aaf
 have K:((J key):Int)=32:=uh;by_cases X:(J l)=22
 case neg=>
  have r:UV key l=1:=by unfold UV;rw[if_pos (.inr X)]
  have A:¬((J l):Int)=22:=uh;unfold bM;rw[r];unfold bL Oi;simp +contextual -implicitDefEqProofs only[go_sem,K,A]
  all_goals exact aaf
 have A:((J l):Int)=22:=uh;obtain⟨b,o,rfl,hb,Jx⟩:=hq zK;have WF:22<=t:=by have:(J l)<=t:=cu;omega
 have a3:(6:Int)<=(t:Int):=uh;have HK:¬t=0:=uh;have a2:¬t=6:=uh;obtain⟨x,D⟩:∃y:Int,y=((l.getD 0 0:Nat):Int):=⟨_,rfl⟩
 obtain⟨a,H⟩:∃y:Int,y=((l.getD 1 0:Nat):Int):=⟨_,rfl⟩
 obtain⟨c,m⟩:∃y:Int,y=((l.getD 2 0:Nat):Int):=⟨_,rfl⟩
 obtain⟨U,j⟩:∃y:Int,y=((l.getD 3 0:Nat):Int):=⟨_,rfl⟩
 obtain⟨P,f⟩:∃y:Int,y=((l.getD 4 0:Nat):Int):=⟨_,rfl⟩
 obtain⟨L,e⟩:∃y:Int,y=((l.getD 5 0:Nat):Int):=⟨_,rfl⟩
 obtain⟨C,d⟩:∃y:Int,y=((JE l 2:Nat):Int):=⟨_,rfl⟩
 have z0:=Yn sl.byte 0;have z1:=Yn sl.byte 1;have z2:=Yn sl.byte 2;have z3:=Yn sl.byte 3;have z4:=Yn sl.byte 4;have z5:=Yn sl.byte 5;have eo:Unit->Y1 .or O (Y1 .or O (Y1 .or O (XV O c 24) (XV O U 16)) (XV O P 8)) L=C:=fun _=>by
  rw[m,j,f,e,d];exact aP z2 z3 z4 z5
 have yb:(0<=x/\x<256)/\(0<=a/\a<256)/\(0<=c/\c<256)/\(0<=U/\U<256)/\(0<=P/\P<256)/\(0<=L/\L<256):=by
  rw[D,H,m,j,f,e];omega
 let⟨⟨aW,ax⟩,⟨ya3,ya4⟩,⟨ya5,ya6⟩,⟨ya7,ya8⟩,⟨ya9,ZK6⟩,ZK7,ZK8⟩:=yb;have r:UV key l=if (IV key (l.take 6)).take 16≠l.drop 6 then 6 else QN x a C:=by
  rw[D,H,d];unfold UV;rw[if_neg uh]
 have eT:bM key l=if UV key l=0 then Oi x a C else bL:=by rw[D,H,d];rfl
 have B:∀i,i<22->V.hc h ⟨b,o+i,am⟩=aa (R ak (l.getD i 0:Nat)):=fun i hi=>Jx i uh;have q0:=B 0 uh;have q1:=B 1 uh;have q2:=B 2 uh;have q3:=B 3 uh;have q4:=B 4 uh;have q5:=B 5 uh;rw[<-D]at q0;rw[<-H]at q1;rw[<-m]at q2;rw[<-j]at q3;rw[<-f]at q4;rw[<-e]at q5;let⟨n,I⟩:=ZO (h.push (S (bS bL) 74):Hp);have b1:Zm h.size h n:=by rw[I];exact Zm.push (ae _) _
 have s1:n.size=h.size+1:=by rw[I];simp
 have x1:n[h.size]? = aa (S (bS bL) 74):=by rw[I];exact Zf
 have e1:h.push (S #[Value.int O 0,R O 0,R O 0] 74)=n:=I.symm;rw[X]at sl Jx ⊢;simp -implicitDefEqProofs only[go_sem,K,A];rw[e1];clear e1 I;have z:=sl.YQ b1;have a1:Bs n (Y (aa ⟨b,o,am⟩) 6 t) (l.take 6):=by
  rw[<-X]at z;exact Bs.MF z uh t
 have t6:(l.take 6).length<=2000:=aac;let⟨M,hM⟩:=ZO ((IV key (l.take 6)).take 16);have ml:(J M)<=140737488355328:=by rw[hM,aL];omega
 rw[<-hM]at r;refine VS.mono (N:=fun F g=>Zm n.size n g/\F 1=Y (aa ⟨b,o,am⟩) 22 t/\F 4=aF (aa ⟨h.size,0,am⟩)/\F 24=.bool (!decide (M=l.drop 6))) ?_ ?_ (fun _ _ _ h=>h) (fun _ _ h=>h)
 .refine VS.z (n.size) [] (.p 0 (.p 1 (.p 2 (.p 4 (.p 5 (.s 3 (.s 6 (.p 7 .nil)))))))) mixed zI ?_;simp -implicitDefEqProofs only[go_sem,a3,HK,a2,bG,bR];rw[<-K];refine (gM T n _ _ key (l.take 6) (s.YQ b1) a1 uh t6 (tk.QL b1)).use ?_;rintro w h2 ⟨⟨s2,_⟩,b2⟩;rw[<-hM]at s2;have a0:=Om (z.YQ b2) (k:=6) uh X (t-6);simp -implicitDefEqProofs only[go_sem,b2];refine (aN T h2 w _ M (l.drop 6) s2 a0 ml).pure ?_;simp -implicitDefEqProofs only[go_sem,b2]
 rintro F g ⟨bg,f1,G,f24⟩;have Bg:=b1.trans (bg.mono uh);have k0:g[h.size]? = aa (S (bS bL) 74):=bg.get uh x1;have k1:rd g ⟨h.size,0,am⟩ 3=aa bL:=ZB k0 rfl;have k2:=Yr k0 0;have Mm:=Zb k0;clear hM;unfold bL Oi at *;by_cases W:M=l.drop 6
 case neg=>
  have hd:decide (M=l.drop 6)=false:=decide_eq_false W;rw[hd]at f24;rw[if_pos W]at r;rw[eT,r];simp +contextual -implicitDefEqProofs only[go_sem,f1,G,f24,k1,k2];exact Bg.ZA (ae _) _
 have hd:decide (M=l.drop 6)=true:=decide_eq_true W;rw[hd]at f24;rw[if_neg (fun hn=>hn W)]at r;have e0:V.hc g ⟨b,o,am⟩=aa (R ak x):=by rw[Bg.hc (by exact hb)];exact q0
 have e1:V.hc g ⟨b,o+1,am⟩=aa (R ak a):=by rw[Bg.hc (by exact hb)];exact q1
 have e2:V.hc g ⟨b,o+2,am⟩=aa (R ak c):=by rw[Bg.hc (by exact hb)];exact q2
 have e3:V.hc g ⟨b,o+3,am⟩=aa (R ak U):=by rw[Bg.hc (by exact hb)];exact q3
 have e4:V.hc g ⟨b,o+4,am⟩=aa (R ak P):=by rw[Bg.hc (by exact hb)];exact q4
 have e5:V.hc g ⟨b,o+5,am⟩=aa (R ak L):=by rw[Bg.hc (by exact hb)];exact q5
 rw[eT,r];clear D H m j f e d;have bN:b<g.size:=bY hb Bg.size;simp -implicitDefEqProofs only[go_sem,f1,G,f24];refine VS.z (g.size) [32] (.p 0 (.p 1 (.q 2 (.p 3 (.p 4 (.p 5 (.q 6 (.p 7 (.p 8 (.p 9 (.q 10 (.p 11 (.p 12 (.p 13 (.p 14 (.q 15 (.p 16 (.p 17 (.p 18 (.p 19 (.p 20 (.q 21 (.p 22 (.p 23 (.p 24 (.p 25 (.p 26 (.q 27 (.p 28 (.p 29 (.p 30 (.s 31 (.w 32 .nil))))))))))))))))))))))))))))))))) mixed zI ?_;simp -implicitDefEqProofs only[go_sem,f1,G,bN,e0,e1,e2,e3,e4,e5,eo ()];refine (Ep T _ x a C).use ?_;rintro _ _ ⟨rfl,rfl⟩;unfold Oi;let⟨E,hE⟩:=ZO (QN x a C);rw[<-hE];by_cases q:E=0
 .rw[if_pos q];simp +contextual -implicitDefEqProofs only[go_sem,q,f1,G,k1,k2,Mm]
  grind [Zm.add,Zm.ZA]
 .rw[if_neg q];simp +contextual -implicitDefEqProofs only[go_sem,q,f1,G,k1,k2,Mm]
  grind [Zm.add,Zm.ZA]
def Qx(s a i:Nat)(n:Int):Int:=if 256<s\/256<a\/256<i\/n<0\/512<n then 1 else 0
theorem xe{p:Option Addr}{m c k c' b:Nat}(h:Yq (Y p m c)=aa b)(hc:c'≠0):Yq (Y p k c')=aa b:=by
 cases p with
 | none=>simp[Yq]at h
 | some a=>
  grind [Yq]
def sf(B:Nat)(h':Hp)(d:an)(c a info:List Nat)(n:Int):Prop:=∃w,d=.tuple [w,R O (Qx (J c) (J a) (J info) n)].toArray/\RT w/\Bs h' w (if Qx (J c) (J a) (J info) n=0 then Ez c a info n.toNat else [])/\∀b,Yq w=aa b->B<=b
theorem ES(T:a5)(h:Hp)(vs va u:an)(c a info:List Nat)(n:Int)(ss:Bs h vs c)(sa:Bs h va a)(si:Bs h u info)(tk:Tk h):
  Zg aV T 33 #[vs,va,u,R O n] h fun v' h'=>sf h.size h' v' c a info n/\Zm h.size h h':=by
 obtain⟨p1,c1,rfl,_⟩:=ss.open;obtain⟨p2,c2,rfl,_⟩:=sa.open;obtain⟨p3,c3,rfl,_⟩:=si.open;refine Zg.X8 [_,_,_,_] Tryz.func33 ?_;unfold sf;by_cases e1:256<(J c)
 .have o:256<((J c):Int):=by omega
  have j:Qx (J c) (J a) (J info) n=1:=by unfold Qx;rw[if_pos (.inl e1)]
  rw[j];simp -implicitDefEqProofs only[go_sem,o];exact⟨_,rfl,ae _,(YL.nil 0 5 _).bs,fun b hb=>by simp[Yq]at hb⟩
 have o:¬256<((J c):Int):=by omega
 by_cases e2:256<(J a)
 .have d:256<((J a):Int):=by omega
  have j:Qx (J c) (J a) (J info) n=1:=by unfold Qx;rw[if_pos (.inr (.inl e2))]
  rw[j];simp -implicitDefEqProofs only[go_sem,o,d];exact⟨_,rfl,ae _,(YL.nil 0 5 _).bs,fun b hb=>by simp[Yq]at hb⟩
 have d:¬256<((J a):Int):=by omega
 by_cases e3:256<(J info)
 .have k:256<((J info):Int):=by omega
  have j:Qx (J c) (J a) (J info) n=1:=by unfold Qx;rw[if_pos (.inr (.inr (.inl e3)))]
  rw[j];simp -implicitDefEqProofs only[go_sem,o,d,k];exact⟨_,rfl,ae _,(YL.nil 0 5 _).bs,fun b hb=>by simp[Yq]at hb⟩
 have k:¬256<((J info):Int):=by omega
 by_cases G:n<0
 .have j:Qx (J c) (J a) (J info) n=1:=by unfold Qx;rw[if_pos (.inr (.inr (.inr (.inl G))))]
  rw[j];simp -implicitDefEqProofs only[go_sem,o,d,k,G];exact⟨_,rfl,ae _,(YL.nil 0 5 _).bs,fun b hb=>by simp[Yq]at hb⟩
 by_cases e5:512<n
 .have j:Qx (J c) (J a) (J info) n=1:=by unfold Qx;rw[if_pos (.inr (.inr (.inr (.inr e5))))]
  rw[j];simp -implicitDefEqProofs only[go_sem,o,d,k,G,e5];exact⟨_,rfl,ae _,(YL.nil 0 5 _).bs,fun b hb=>by simp[Yq]at hb⟩
 have j:Qx (J c) (J a) (J info) n=0:=by unfold Qx;rw[if_neg (by omega)]
 obtain⟨m,rfl⟩:∃m:Nat,n=m:=⟨n.toNat,by omega⟩
 rw[j,bw];simp -implicitDefEqProofs only[go_sem,o,d,k,G,e5];refine (nt T _ _ _ a c sa ss (by omega) (by omega) tk).use ?_;rintro vk f ⟨ok,b1⟩;have s1:=b1.size;let⟨key,l⟩:=ZO (IV a c);rw[<-l]at ok;have kl:(J key)=32:=by rw[l];exact SZ _ _
 have hm:m<=512:=by omega
 have eS:Ez c a info m=(S3 key info 16).take m:=by rw[Ez,l]
 have dt:∀i,m<=32*i->i<=16->(S3 key info 16).take m=(S3 key info i).take m:=fun i f h2=>Ey key info m i 16 f h2;rw[eS];clear eS l;simp -implicitDefEqProofs only[go_sem];refine VS.YC (fun F g=>Zm f.size f g/\F 2=Y p3 (J info) c3/\F 3=R O m/\F 10=vk/\∃i:Nat,32*i<m+32/\F 13=R O ((i+1:Nat):Int)/\YL f.size 5 g (F 11) (S3 key info i)/\YL f.size 5 g (F 12) (MW key info i)/\∀b,Yq (F 12)=aa b->¬Yq (F 11)=aa b)
  (fun F _=>m+32-nq (F 11)) rfl ⟨Zm.refl _ _,rfl,rfl,rfl,0,by omega,rfl,YL.nil _ _ _,YL.nil _ _ _,fun b hb=>by cases hb⟩ ?_
 rintro F g ⟨P,f2,r,f10,i,hi,f13,y,ot,b6⟩;have Mm:=P.size;have Bg:=b1.trans (P.mono s1);let⟨pa,ca,f11,U⟩:=y.open;have al:=Tt key info i;rw[al]at f11 U;by_cases Ye:32*i<m
 .have Yh:((32*i:Nat):Int)<(m:Int):=by omega
  have tl:=ZbJ key info i;have i16:i<=16:=by omega
  have eT:MW key info (i+1)=IV key (MW key info i++info++[(i+1)%256]):=rfl;have eA:S3 key info (i+1)=S3 key info i++MW key info (i+1):=rfl;obtain⟨lt,C⟩:∃x,x=MW key info i:=⟨_,rfl⟩
  rw[<-C]at ot tl eT;have Mg:(i+1)%256<256:=Nat.mod_lt _ (by decide);let⟨X,V⟩:=ZO ((i+1)%256);rw[<-V]at eT Mg;have ex:((i+1:Nat):Int)%256=(X:Int):=by rw[V];rfl
  clear V C;obtain⟨xi,A⟩:∃x:Int,x=((i+1:Nat):Int):=⟨_,rfl⟩
  rw[<-A]at ex f13;simp -implicitDefEqProofs only[go_sem,f2,r,f10,f11,f13,Yh,ex];refine U8 (E:=5) (B:=f.size) XD ao T8 SU SQ ot Mm (si.YQ Bg) (by omega) ?_;intro w2 g2 o2 b2 a2 aW;have s2:=b2.size;have L:=y.kY a2 (fun b hb e=>b6 b e hb);have b7:(lt++info).length<=400:=by rw[aH];omega
  have b0:∀b,Yq w2=aa b->¬Yq (F 11)=aa b:=fun b hb e=>by
   rcases aW b hb with q|q
   .grind
   .have:=y.Zn.lt b e;omega
  simp -implicitDefEqProofs only[go_sem,f2,r,f10,f13,ex];refine U8 (E:=5) (B:=f.size) XD ao T8 SU SQ (o2.push _) (by simp;omega) (Bs.one Mg 1) (by grind) ?_;intro w3 W o3 b3 a1 ax;have s3:=b3.size;simp only[ck]at s3 ax;have w:=(L.push (S [Value.int ak ((X:Nat):Int)].toArray 5)).kY a1 (fun b hb e=>b0 b e hb);have t:Zm f.size f W:=((P.trans b2).Xj (by omega) _).trans b3;have B3:=b1.trans (t.mono s1);have I:=ok.YQ t (ae _);simp -implicitDefEqProofs only[go_sem,f2,r,f10,f13];refine (nt T W vk w3 key _ I.bs o3.bs (by omega) (by grind) (tk.QL B3)).use ?_;rintro w4 g4 ⟨z,b4⟩;rw[<-eT]at z;have s4:=b4.size;have v:=w.YQ b4 (ae _);have D:=t.trans (b4.mono (by omega));rw[f11]at v;have H:=Ok key info i;simp -implicitDefEqProofs only[go_sem,f2,r,f10,f11,f13];refine U8 (E:=5) (B:=f.size) XD ao T8 SU SQ v D.size z.bs (by grind) ?_;intro w5 g5 o5 b5 a0 a3;have s5:=b5.size;obtain⟨p5,c5,rfl,_⟩:=o5.open;have s:∀b,Yq w4=aa b->¬Yq (F 11)=aa b:=fun b hb e=>by
   have q1:=z.Zn.Yb b hb;have q2:=w.Zn.lt b e;omega
  rw[f11]at s;have M:=(z.mono (show f.size<=W.size by omega)).kY a0 (fun b hb e=>s b hb e);simp -implicitDefEqProofs only[go_sem,f2,r,f10,f13];refine⟨⟨D.trans b5,f2,r,f10,i+1,by omega,?_,?_,M,fun b hb e=>?_⟩,?_⟩
  .show Value.int O _=_;rw[A];rfl
  .rw[eA];exact o5
  .have e':Yq (Value.slice p5 (S3 key info i++MW key info (i+1)).length c5)=aa b:=e;rcases a3 b e' with q|q
   .exact s b hb q
   .have:=z.Zn.lt b hb;omega
  .simp only[nq,Zu,↓reduceIte,Nat.reduceEqDiff,f11,aH,al,H];omega
 .have XX:¬((32*i:Nat):Int)<(m:Int):=by omega
  have e6:=dt i (by omega) (by omega);rw[e6];have p:=y.bs;have K:=y.Zn.Yb;rw[f11]at p K;rw[<-al]at p;have zE:(m:Int)<=(ca:Int):=by omega
  have N:(0:Int)<=(m:Int):=by omega
  have fin:=Bs.MF p (m:=m) (by grind) m;simp -implicitDefEqProofs only[go_sem,f2,r,f11,XX,zE,N,Bg]
  grind [RT,xe]
def Zi9(d:List Nat)(k c s n v:Int)(a b:Nat):List Nat:=((d++ZI [k.toNat,c.toNat,s.toNat,n.toNat,v.toNat])++X7 a)++X7 b
def gQ(d:List Nat)(k c s n v:Int)(a b:Nat):List Nat:=Ro (Zi9 d k c s n v a b)
theorem Ic(d:List Nat)(k c s n v:Int)(a b:Nat):(gQ d k c s n v a b).length=32:=QH _
theorem ZgP(T:a5)(h:Hp)(u:an)(f:List Nat)(su:Bs h u f)(aW:(J f)=32)(k c s n v:Int)(he:Xy k c s n v=0)(a b:Nat)(ha:a<=1073741824)(hb:b<=1073741824)(tk:Tk h):
  Zg aV T 26 #[u,aS (Wg k c s n v).toArray,aS [R O a,R O b].toArray] h fun v' h'=>YL h.size 5 h' v' (gQ f k c s n v a b)/\Zm h.size h h':=by
 obtain⟨p,cp,rfl,_⟩:=su.open;refine Zg.X8 [_,_,_] Tryz.func26 ?_;obtain⟨e,i⟩:∃z:Int,z=(a:Int):=⟨_,rfl⟩
 obtain⟨d,g⟩:∃z:Int,z=(b:Int):=⟨_,rfl⟩
 rw[<-i,<-g];have e0:Wg k c s n v=[R O k,R O c,R O s,R O n,R O v]:=rfl;rw[e0];simp -implicitDefEqProofs only[go_sem];let⟨D,A⟩:=ZO ((h.push (S [R O k,R O c,R O s,R O n,R O v].toArray 43)).push (S [R O e,R O d].toArray 48):Hp);have b0:Zm h.size h D:=by rw[A];exact ((Zm.refl _ _).add _).add _
 have s0:D.size=h.size+2:=by rw[A];simp
 have x0:D[h.size+1]? = aa (S [R O e,R O d].toArray 48):=by
  rw[A,aw,if_pos (by simp)]
 rw[<-A];clear A;have K:=IT T D k c s n v;rw[e0]at K;refine K.use ?_;rintro _ h1 ⟨⟨w1,rfl,H⟩,L⟩;rw[he,if_pos rfl]at H;rw[he];have U:=b0.trans (L.mono b0.size);simp -implicitDefEqProofs only[go_sem];refine (Nk T h1 _ f (su.YQ U) (by omega)).use ?_;rintro w2 h2 ⟨o2,F⟩;have B2:=U.trans (F.mono U.size);have z1:=L.size;have z2:=F.size;have lc:(ZI [k.toNat,c.toNat,s.toNat,n.toNat,v.toNat]).length=20:=by rw[ZV];rfl
 simp -implicitDefEqProofs only[go_sem];refine ZP (E:=5) (B:=h1.size) XD ao T8 SU SQ o2 z2 (H.YQ F) (by omega) ?_;intro w3 C o3 b3 _;have P:=B2.trans (b3.mono (by omega));have z3:=P.size;have X:C[h.size+1]? = aa (S [R O e,R O d].toArray 48):=b3.get (by omega) (F.get (by omega) (L.get (by omega) x0));have c0:V.hc C ⟨h.size+1,0,am⟩=aa (R O e):=by rw[Zr X];rfl
 have c1:V.hc C ⟨h.size+1,1,am⟩=aa (R O d):=by rw[Zr X];rfl
 have zN:(f++ZI [k.toNat,c.toNat,s.toNat,n.toNat,v.toNat]).length=52:=by rw[aH];omega
 unfold gQ Zi9;generalize f++ZI [k.toNat,c.toNat,s.toNat,n.toNat,v.toNat]=M at *;have I:YL h.size 5 C w3 M:=o3.mono (by omega);clear o3 H o2 K;obtain⟨a0,r⟩:∃y:Int,y=((a/16777216%256:Nat):Int):=⟨_,rfl⟩
 obtain⟨a1,q⟩:∃y:Int,y=((a/65536%256:Nat):Int):=⟨_,rfl⟩
 obtain⟨a2,o⟩:∃y:Int,y=((a/256%256:Nat):Int):=⟨_,rfl⟩
 obtain⟨a3,m⟩:∃y:Int,y=((a%256:Nat):Int):=⟨_,rfl⟩
 have e1:Unit->Xn O e 24%256=a0:=fun _=>by grind [Xn,UN]
 have e2:Unit->Xn O e 16%256=a1:=fun _=>by grind [Xn,UN]
 have e3:Unit->Xn O e 8%256=a2:=fun _=>by grind [Xn,UN]
 have e4:Unit->e%256=a3:=fun _=>by grind
 obtain⟨x,qN⟩:∃y:Int,y=((b/16777216%256:Nat):Int):=⟨_,rfl⟩
 obtain⟨w,Ck⟩:∃y:Int,y=((b/65536%256:Nat):Int):=⟨_,rfl⟩
 obtain⟨W,Fv⟩:∃y:Int,y=((b/256%256:Nat):Int):=⟨_,rfl⟩
 obtain⟨t,j⟩:∃y:Int,y=((b%256:Nat):Int):=⟨_,rfl⟩
 have f1:Unit->Xn O d 24%256=x:=fun _=>by grind [Xn,UN]
 have f2:Unit->Xn O d 16%256=w:=fun _=>by grind [Xn,UN]
 have f3:Unit->Xn O d 8%256=W:=fun _=>by grind [Xn,UN]
 have f4:Unit->d%256=t:=fun _=>by grind
 have ea:([Value.int ak a0,R ak a1,R ak a2,R ak a3]:List an)=(X7 a).map bv:=by rw[r,q,o,m];rfl
 have eb:([Value.int ak x,R ak w,R ak W,R ak t]:List an)=(X7 b).map bv:=by rw[qN,Ck,Fv,j];rfl
 clear i g r q o m qN Ck Fv j;simp -implicitDefEqProofs only[go_sem,c0,c1];refine VS.rounds 3 rfl ?_;simp -implicitDefEqProofs only[go_sem,e1 (),e2 (),e3 (),e4 ()];rw[ea];have ax:(X7 a).length=4:=rfl;have BN:(X7 b).length=4:=rfl;refine ZP (E:=5) (B:=h.size) XD ao T8 SU SQ (I.push _) (by simp;omega) (Bs.made (l:=X7 a) (Sa a) 4) (by omega) ?_;intro w4 h4 o4 b4 _;have N:=(P.Xj P.size _).trans b4;simp -implicitDefEqProofs only[go_sem,f1 (),f2 (),f3 (),f4 ()];rw[eb];refine ZP (E:=5) (B:=h.size) XD ao T8 SU SQ (o4.push _) (by have:=N.size;simp;omega) (Bs.made (l:=X7 b) (Sa b) 4) (by grind) ?_;intro w5 h5 o5 b5 _;have G:=(N.Xj N.size _).trans b5;simp -implicitDefEqProofs only[go_sem];have l5:(M++X7 a++X7 b).length=60:=by rw[aH,aH];omega
 refine (I6 T h5 w5 _ o5.bs (tk.QL G)).use ?_;rintro _ h6 ⟨⟨w6,rfl,o6⟩,b6⟩;have es:On (M++X7 a++X7 b).length=0:=by unfold On;rw[if_neg (by omega)]
 rw[es,if_pos rfl]at o6;rw[es];simp -implicitDefEqProofs only[go_sem];exact⟨o6.mono G.size,G.trans (b6.mono G.size)⟩
structure Q9 where
 k:Int
 c:Int
 s:Int
 n:Int
 v:Int
def ZgQ(x:Q9):List an:=[R O x.k,R O x.c,R O x.s,R O x.n,R O x.v]
structure ET where
 x:Q9
 a:Int
 b:Int
 sum:List Nat
structure gS where
 cs:List an
 sum:List Nat
 out:List ET
def JA(cs:List an)(x:Q9):Zo7:=JH cs x.k.toNat x.c.toNat x.s.toNat x.n.toNat x.v.toNat
def VO(cs:List an)(x:Q9):Int:=H9 cs x.k x.c x.s x.n x.v
def CW(cs:List an)(sum:List Nat)(x:Q9):List Nat:=gQ sum x.k x.c x.s x.n x.v (JA cs x).code.toNat (JA cs x).val.toNat
def Ny(st:gS)(x:Q9):gS:=⟨(JA st.cs x).cells,CW st.cs st.sum x,st.out++[⟨x,(JA st.cs x).code,(JA st.cs x).val,CW st.cs st.sum x⟩]⟩
def Fj:gS:=⟨XE,a4 32 0,[]⟩
def PA:gS->List Q9->Int × gS
 | st,[]=>(0,st)
 | st,x :: l=>if VO st.cs x=0 then PA (Ny st x) l else (VO st.cs x,st)
theorem Zcr(st:gS):PA st []=(0,st):=rfl
theorem Ie{st:gS}{x:Q9}{l:List Q9}(h:VO st.cs x=0):PA st (x :: l)=PA (Ny st x) l:=by rw[PA,if_pos h]
theorem I7{st:gS}{x:Q9}{l:List Q9}(h:¬VO st.cs x=0):PA st (x :: l)=(VO st.cs x,st):=by rw[PA,if_neg h]
theorem Zcs:∀(l:List Q9) (st:gS),(PA st l).1=0->(PA st l).2.out.length=(J st.out)+(J l):=by
 intro l
 induction l with
 | nil=>intro st _;rfl
 | cons y l a=>
  grind [Ny,Ie,I7]
def Zct(cs:List an):Prop:=∀i,i<8->(0<=ci cs (16+i*2)/\ci cs (16+i*2)<=1073741824)/\(0<=ci cs (16+i*2+1)/\ci cs (16+i*2+1)<=1073741824)
theorem Uz{cs:List an}{i:Nat}(h:i<(J cs))(k:IntKind)(x:Int):ci (cs.set i (.int k x)) i=x:=by
 unfold ci;rw[X2,List.getElem?_set_self h]
theorem Nz(cs:List an)(k c n v:Nat):(Q2 cs k c n v).1.length=(J cs):=by
 grind [Q2]
theorem FF(cs:List an)(k c n v:Nat)(a:n<=7)(j:Nat)(d:8<=j)(b:j<32):ci (Q2 cs k c n v).1 j=ci cs j:=by
 grind [Q2,UO]
theorem xf{cs:List an}(h:XK cs=false)(i:Nat)(hi:i<8):0<=ci cs i/\ci cs i<=1073741824:=by
 unfold XK at h;rw[List.any_eq_false]at h;have:=h i (List.mem_range.2 hi)
 grind [Ff]
theorem I8{cs:List an}{x:Q9}(h:VO cs x=0):XK cs=false/\Xy x.k x.c x.s x.n x.v=0:=by
 unfold VO H9 at h
 grind
theorem xh{cs:List an}(j:(J cs)=40)(hb:XK cs=false)(a:Zct cs)(k c s n v:Nat)(b:n<=7)(hc:c<=7)(h:v<=1073741824):
  Zct (JH cs k c s n v).cells/\(0<=(JH cs k c s n v).code/\(JH cs k c s n v).code<=1073741824)/\(0<=(JH cs k c s n v).val/\(JH cs k c s n v).val<=1073741824):=by
 unfold JH;split
 .grind
 split
 .have:=a c uh
  grind
 split
 .grind
 split
 .grind
 have d:(0<=(Q2 cs k c n v).2/\(Q2 cs k c n v).2<=1073741824):=by
  unfold Q2;split
  .grind
  .split
   .exact xf hb n uh
   grind
 refine⟨?_,⟨(by decide:(0:Int)<=0),(by decide:(0:Int)<=1073741824)⟩,d⟩;intro i hi;have hlen:=Nz cs k c n v;have g:=FF cs k c n v b (16+i*2) uh uh;have f:=FF cs k c n v b (16+i*2+1) uh uh;simp only;by_cases e:i=c
 .subst e;rw[UO uh,Uz zK,Uz zK]
  grind
 .rw[UO uh,UO uh,UO uh,UO uh,UO uh,UO uh,g,f];exact a i hi
theorem gU:∀{b:List (Option IntKind)} {vs:List an} (i:Nat) {k:Option IntKind},XC b vs=true->b[i]? = aa k->∃v,nth vs i=aa v/\WO k v=true:=by
 intro b
 induction b with
 | nil=>grind
 | cons a b d=>
  intro vs i k c e
  cases vs with
  | nil=>simp[XC]at c
  | cons x vs=>
   simp only[XC,Bool.and_eq_true]at c
   cases i with
   | zero=>grind [nth]
   | succ i=>exact d i c.2 zK
theorem EU{cs:List an}(b:XC J6 cs=true):∀i,i<32->nth cs i=aa (R O (ci cs i)):=by
 intro i hi;have:∀i<32,J6[i]? = aa (aa O):=HE;let⟨v,c,a⟩:=gU i b (this i hi);unfold ci;rw[c]
 cases v<;>simp[WO]at a
 rw[a]
theorem Gl{cs:List an}(c:XC J6 cs=true):∀i,32<=i->i<40->nth cs i=aa (.bool (cb cs i)):=by
 intro i b a;have:∀j<8,J6[32+j]? = aa am:=HE;have e:=this (i-32) uh;rw[show 32+(i-32)=i by omega]at e;let⟨v,b,a⟩:=gU i c e;unfold cb;rw[b]
 cases v<;>simp[WO]at a
 rfl
structure EV(st:gS):Prop where
 fit:XC J6 st.cs=true
 ans:Zct st.cs
 sum:(J st.sum)=32
theorem FG:EV Fj:=by
 refine⟨rfl,?_,rfl⟩;have:∀i<8,ci XE (16+i*2)=0/\ci XE (16+i*2+1)=0:=HE;intro i hi
 grind [Fj]
theorem FH{st:gS}(ok:EV st){x:Q9}(h:VO st.cs x=0):EV (Ny st x)/\∃a b:Nat,(JA st.cs x).code=a/\(JA st.cs x).val=b/\a<=1073741824/\b<=1073741824:=by
 let⟨m,l⟩:=I8 h;let⟨k,c,s,n,v,w,u,t,r,q,z,e,y,d,g⟩:=JR l;have i:(J st.cs)=40:=YR ok.fit;have j:JA st.cs x=JH st.cs k c s n v:=by unfold JA;rw[w,u,t,r,q];rfl
 let⟨g1,p,o⟩:=xh i m ok.ans k c s n v d e g;have f:=I4 ok.fit k c s n v d e;rw[<-j]at g1 p o f;refine⟨⟨f,g1,Ic _ _ _ _ _ _ _ _⟩,(JA st.cs x).code.toNat,(JA st.cs x).val.toNat,?_,?_,?_,?_⟩<;>omega
def RD(l:List Q9):Int:=(PA Fj l).1
def Sf(l:List Q9):List an:=if RD l=0 then (PA Fj l).2.cs else XE
def Sg(l:List Q9):List ET:=if RD l=0 then (PA Fj l).2.out else []
def Zcu(st:gS)(e:ET):Prop:=¬VO st.cs e.x=0\/¬((JA st.cs e.x).code=e.a/\(JA st.cs e.x).val=e.b)\/¬CW st.cs st.sum e.x=e.sum
instance (st:gS)(e:ET):Decidable (Zcu st e):=by unfold Zcu;infer_instance
structure CX where
 x:Q9
 a:Int
 b:Int
 p:Option Addr
 m:Nat
 cp:Nat
def gW(e:CX):List an:=[R O e.x.k,R O e.x.c,R O e.x.s,R O e.x.n,R O e.x.v,R O e.a,R O e.b,Y e.p e.m e.cp]
theorem Zcv(e:CX):(gW e).all YV=true:=rfl
def sj(Q:an->List Nat->Prop)(e:CX)(t:ET):Prop:=e.x=t.x/\e.a=t.a/\e.b=t.b/\Q (Y e.p e.m e.cp) t.sum
def RE(Q:an->List Nat->Prop):List CX->List ET->Prop
 | [],[]=>True
 | e :: l,t :: k=>sj Q e t/\RE Q l k
 | _,_=>False
variable {Q Q':an->List Nat->Prop}
theorem RE.mono(H:∀w s,Q w s->Q' w s):∀{l:List CX} {k:List ET},RE Q l k->RE Q' l k:=by
 intro l
 induction l with
 | nil=>grind [RE]
 | cons e l a=>intro k h;cases k with
  | nil=>exact h.elim
  | cons t k=>grind [sj,RE]
theorem RE.length:∀{l:List CX} {k:List ET},RE Q l k->(J l)=(J k):=by
 intro l
 induction l with
 | nil=>grind [RE]
 | cons e l a=>intro k h;cases k with
  | nil=>exact h.elim
  | cons t k=>simp[a h.2]
theorem RE.snoc{e:CX}{t:ET}(b:sj Q e t):∀{l:List CX} {k:List ET},RE Q l k->RE Q (l++[e]) (k++[t]):=by
 intro l
 induction l with
 | nil=>grind [RE]
 | cons e l a=>intro k h;cases k with
  | nil=>exact h.elim
  | cons t k=>exact⟨h.1,a h.2⟩
theorem RE.get:∀{l:List CX} {k:List ET},RE Q l k->∀i (hi:i<(J l)) (b:i<(J k)),sj Q l[i] k[i]:=by
 intro l
 induction l with
 | nil=>grind
 | cons e l a=>intro k h;cases k with
  | nil=>exact h.elim
  | cons t k=>
   grind [RE]
structure Uo(B:Nat)(h:Hp)(v:an)(l:List ET):Prop where
 ex:∃es,QY B 61 gW 8 h v es/\RE (fun w s=>YL B 5 h w s) es l
structure Aa(h:Hp)(v:an)(l:List ET):Prop where
 ex:∃es,Ts gW 8 h v es/\RE (fun w s=>Bs h w s) es l
theorem Uo.YQ{B C:Nat}{h h':Hp}{v:an}{l:List ET}(s:Uo B h v l)(a:Zm C h h')(hC:h.size<=C):Uo B h' v l:=by
 let⟨es,c,b⟩:=s.ex;exact⟨es,c.YQ a hC,b.mono (fun w t q=>q.YQ a hC)⟩
theorem Uo.mono{B B':Nat}{h:Hp}{v:an}{l:List ET}(s:Uo B h v l)(a:B'<=B):Uo B' h v l:=by
 let⟨es,c,b⟩:=s.ex;exact⟨es,c.mono a,b.mono (fun w t q=>q.mono a)⟩
theorem Uo.Ym{B b:Nat}{h:Hp}{v:an}{l:List ET}(s:Uo B h v l)(hb:b<B)(o:Obj):Uo B (a9 h b o) v l:=by
 let⟨es,c,a⟩:=s.ex;exact⟨es,c.Ym hb o,a.mono (fun w t q=>q.Ym hb o)⟩
theorem Uo.nil(B:Nat)(h:Hp):Uo B h (Y am 0 0) []:=⟨[],QY.nil _ _ _ _ _,trivial⟩
theorem Uo.ts{B:Nat}{h:Hp}{v:an}{l:List ET}(s:Uo B h v l):Aa h v l:=by
 let⟨es,b,a⟩:=s.ex;exact⟨es,b.ts,a.mono (fun w t q=>q.bs)⟩
theorem Aa.YQ{h h':Hp}{v:an}{l:List ET}(s:Aa h v l)(a:Zm h.size h h'):Aa h' v l:=by
 let⟨es,c,b⟩:=s.ex;exact⟨es,c.YQ a,b.mono (fun w t q=>q.YQ a)⟩
theorem Uo.open{B:Nat}{h:Hp}{v:an}{l:List ET}(s:Uo B h v l):∃p c,v=.slice p l.length c:=by
 grind [Uo.ex,QY.open,RE.length]
theorem Aa.open{h:Hp}{v:an}{l:List ET}(s:Aa h v l):∃p c,v=.slice p l.length c/\(l≠[]->∃b o,p=aa ⟨b,o,am⟩/\b<h.size/\∀i (hi:i<l.length),∃q m cp,YU h b (o+i*8) [.int .i64 l[i].x.k,.int .i64 l[i].x.c,.int .i64 l[i].x.s,.int .i64 l[i].x.n,.int .i64 l[i].x.v,.int .i64 l[i].a,.int .i64 l[i].b,.slice q m cp]/\Bs h (.slice q m cp) l[i].sum):=by
 let⟨es,g,f⟩:=s.ex;have hlen:=f.length;let⟨p,c,j,hh⟩:=Ts.open (enc:=gW) (n:=8) (fun _=>rfl) HE g;refine⟨p,c,by rw[j,hlen],fun r=>?_⟩;have d:es≠[]:=by
  intro e;rw[e]at hlen;exact r (List.length_eq_zero_iff.1 hlen.symm)
 let⟨b,o,k,hb,x⟩:=hh d;refine⟨b,o,k,hb,fun i hi=>?_⟩;have a:i<es.length:=uh;let⟨g1,w,u,t⟩:=f.get i a hi
 grind [gW]
end Go.Proofs.YtkhkmpfenaipaaaGreatDoor
namespace Go.Proofs.YtkhkmpfenaipaaaGreatDoor
open Go Go.V
set_option linter.all false
set_option maxRecDepth 100000
theorem xj{h:Hp}{v:an}{l:List Q9}(s:Ts ZgQ 5 h v l):∃p cap,v=Y p (J l) cap/\(l≠[]->∃b o,p=aa ⟨b,o,am⟩/\b<h.size/\∀i (hi:i<(J l)),rd h ⟨b,o+i*5,am⟩ 5=aa [R O l[i].k,R O l[i].c,R O l[i].s,R O l[i].n,R O l[i].v]):=by
 let⟨p,cap,a,c⟩:=Ts.open (enc:=ZgQ) (n:=5) (fun _=>rfl) HE s
 grind [ZgQ,YU.rd]
theorem sr{cs:List an}(c:XC J6 cs=true)(x:Q9):∃(D:List an) (a b:Int),doL cs x.k x.c x.s x.n x.v=[aS (bS D),aS [R O a,R O b].toArray,R O (VO cs x)]/\XC J6 D=true/\(VO cs x=0->D=(JA cs x).cells/\a=(JA cs x).code/\b=(JA cs x).val):=by
 unfold doL VO JA;by_cases e:H9 cs x.k x.c x.s x.n x.v=0
 .rw[if_pos e];refine⟨_,_,_,by rw[e],?_,fun _=>⟨rfl,rfl,rfl⟩⟩;have d:Xy x.k x.c x.s x.n x.v=0:=(I8 (cs:=cs) (x:=x) e).2
  grind [JR,I4]
 .rw[if_neg e];exact⟨_,_,_,rfl,rfl,fun h=>absurd h e⟩
theorem I9{B B' n n' m c:Nat}{E E':TypeId}{h:Hp}{v u:an}{cs d:List an}(i:E≠E')(s:QU B E n h v m cs)(t:QU B' E' n' h u c d):∀b,Yq v=aa b->Yq u≠aa b:=by
 intro b hb hc;rcases s with⟨⟨p,rfl⟩,_,_⟩|⟨k,cap,sp,_,rfl,g,_⟩
 .cases p<;>simp[Yq]at hb
 rcases t with⟨⟨p,rfl⟩,_,_⟩|⟨j,e,a,_,rfl,f,_⟩
 .cases p<;>simp[Yq]at hc
 grind [Yq]
theorem Uo.app{B:Nat}{h h':Hp}{v:an}{es:List CX}{l:List ET}(d:QY B 61 gW 8 h v es)(c:RE (fun w s=>YL B 5 h w s) es l)(a:SK (Yq v) h h'):RE (fun w s=>YL B 5 h' w s) es l:=
 c.mono (fun w t q=>q.kY a (fun b hb=>I9 HE q.Zn d.Zn b hb))
theorem Zcw(T:a5)(h:Hp)(u:an)(l:List Q9)(s:Ts ZgQ 5 h u l)(tk:Tk h):
  Zg aV T 14 #[u] h fun v' h'=>(∃w E D,v'=.tuple [w,.agg D.toArray,.int .i64 E].toArray/\(E,D)=(if 200<l.length then (1,XE) else (RD l,Sf l))/\Uo h.size h' w (if 200<l.length then [] else Sg l))/\Zm h.size h h':=by
 obtain⟨p,cp,rfl,TZ⟩:=xj s;have hZ:XE.length=40:=rfl;have c9:XE.all YV=true:=rfl;refine Zg.Kq [_] Tryz.func14 ?_;by_cases X:200<l.length
 .have A:(200:Int)<l.length:=uh;simp -implicitDefEqProofs only[go_sem,A,X];exact⟨_,_,_,rfl,rfl,Uo.nil _ _⟩
 have A:¬(200:Int)<l.length:=uh;simp -implicitDefEqProofs only[go_sem,A,X];have H:YL (h.size+2) 5 (((h.push (.cells XE.toArray 57)).push (.cells XE.toArray 57)).push (.cells ((a4 32 0).map bv).toArray 5)) (.slice (aa ⟨h.size+1+1,0,am⟩) 32 32) (a4 32 0):=by
  have:=YL.made (B:=h.size+2) (E:=5) (h:=(h.push (.cells XE.toArray 57)).push (.cells XE.toArray 57)) (l:=a4 32 0) HE zX;simp only[ck,List.length_replicate]at this;exact this
 refine VS.YC (fun F g=>Zm h.size h g/\F 0=.slice p l.length cp/\F 3=.pointer (aa ⟨h.size,0,am⟩)/\F 5=.pointer (aa ⟨h.size+1,0,am⟩)/\F 18=.slice p l.length cp/\F 19=.int .i64 l.length/\g[h.size]? = aa (.cells XE.toArray 57)/\∃(i:Nat) (st:gS),i<=l.length/\F 20=.int .i64 i/\PA Fj l=PA st (l.drop i)/\EV st/\st.out.length=i/\g[h.size+1]? = aa (.cells st.cs.toArray 57)/\Uo (h.size+2) g (F 6) st.out/\YL (h.size+2) 5 g (F 7) st.sum)
  (fun F _=>l.length-(vi (F 20)).toNat) rfl ⟨?_,rfl,rfl,rfl,rfl,rfl,?_,0,Fj,uh,rfl,rfl,FG,rfl,?_,Uo.nil _ _,H⟩ ?_
 .grind [Zm.add,Zm.refl]
 .rw[aw,if_neg Fo,aw,if_neg zX,Zf];rfl
 .rw[aw,if_neg zX,aw,if_pos zX];rfl
 clear H;rintro F g ⟨hg,f0,f3,f5,f18,f19,x0,i,st,hi,f20,hr,ok,ho,x1,oe,os⟩;have gs:=hg.size;have g1:=Zb x1;by_cases Ye:i<l.length
 .have Yh:(i:Int)<l.length:=uh;obtain⟨bb,oo,rfl,Sb,Jx⟩:=TZ zK;have r1:=Jx i Ye;let⟨x,hx⟩:=ZO (l[i]);rw[<-hx,<-Ut hg (by exact Sb)]at r1;have c8:l.drop i=x :: l.drop (i+1):=by rw[hx];exact List.drop_eq_getElem_cons Ye
  rw[c8]at hr;have Ri:st.cs.length=40:=YR ok.fit;have bq:=Ja Ri;have rs:=ZB x1 Ri;have bK:¬h.size+1=g.size:=uh;simp -implicitDefEqProofs only[go_sem,f0,f3,f5,f18,f19,f20,Yh,r1,rs,bK,Ri,bq];refine (EG T _ st.cs x.k x.c x.s x.n x.v ok.fit (EU ok.fit) (Gl ok.fit)).use ?_;rintro _ f ⟨hd,b1⟩;let⟨D,a,b,hL,fD,hz⟩:=sr ok.fit x;unfold rK at hd;rw[hL]at hd;subst hd;have z1:g.size+1<=f.size:=by have:=b1.size;simp at this;omega
  have B1:Zm g.size g f:=(Zm.push (ae _) _).trans (b1.mono zX);have y9:f[g.size]? = aa (.cells [.int .i64 x.k,.int .i64 x.c,.int .i64 x.s,.int .i64 x.n,.int .i64 x.v].toArray 43):=b1.get zX Zf;have C:D.length=40:=YR fD;have rM:=Pa fD;have vZ:=Ja C;simp -implicitDefEqProofs only[go_sem,C,rM,Yf,vZ];let⟨d,G⟩:=ZO ((f.push (.cells D.toArray 57)).push (.cells [.int .i64 a,.int .i64 b].toArray 48):Hp);have b2:Zm f.size f d:=by rw[G];exact ((Zm.refl _ _).add _).add _
  have z2:d.size=f.size+2:=by rw[G];simp
  have aW:d[f.size]? = aa (.cells D.toArray 57):=by rw[G,aw,if_neg zX,Zf]
  have ax:d[f.size+1]? = aa (.cells [.int .i64 a,.int .i64 b].toArray 48):=by rw[G,aw,if_pos zX]
  rw[<-G];clear G;have B2:Zm g.size g d:=B1.trans (b2.mono uh);have cq:=hg.trans (B2.mono gs);have K:=B2.get uh x0;have bd:=B2.get uh x1;have a3:=b2.get uh y9;by_cases e:VO st.cs x=0
  case neg=>
   have hE:PA Fj l=(VO st.cs x,st):=by rw[hr,I7 e]
   have y:RD l=VO st.cs x:=by unfold RD;rw[hE]
   have eS:Sf l=XE:=by unfold Sf;rw[y,if_neg e]
   have eO:Sg l=[]:=by unfold Sg;rw[y,if_neg e]
   have L:=Yr K 0 XE;rw[if_pos ⟨zX,rfl⟩,Yf rfl]at L;have bp:wr d ⟨h.size,0,am⟩ [.int .i64 0,.int .i64 0,.int .i64 0,.int .i64 0,.int .i64 0,.int .i64 0,.int .i64 0,.int .i64 0,.int .i64 0,.int .i64 0,.int .i64 0,.int .i64 0,.int .i64 0,.int .i64 0,.int .i64 0,.int .i64 0,.int .i64 0,.int .i64 0,.int .i64 0,.int .i64 0,.int .i64 0,.int .i64 0,.int .i64 0,.int .i64 0,.int .i64 0,.int .i64 0,.int .i64 0,.int .i64 0,.int .i64 0,.int .i64 0,.int .i64 0,.int .i64 0,.bool false,.bool false,.bool false,.bool false,.bool false,.bool false,.bool false,.bool false]=aa (d.setIfInBounds h.size (.cells XE.toArray 57)):=L;have Cj:h.size<d.size:=uh;rw[y,eS,eO];simp -implicitDefEqProofs only[go_sem,f3,e,bp,Cj,hZ,c9]
   grind [Uo.nil,Zm.ZA]
  have c1:=ZB aW C;have w1:=Yr bd 0 D;rw[if_pos ⟨uh,rM⟩,Yf uh]at w1;let⟨m,v⟩:=ZO (d.setIfInBounds (h.size+1) (.cells D.toArray 57):Hp);rw[<-v]at w1;have z3:m.size=d.size:=by rw[v];simp
  have b7:m[h.size+1]? = aa (.cells D.toArray 57):=by rw[v,a7,if_pos rfl,if_pos uh]
  have n3:∀k,k≠h.size+1->m[k]? = d[k]?:=fun k hk=>by grind
  have bn:m[h.size]? = aa (.cells XE.toArray 57):=by rw[n3 _ uh];exact K
  have I:=(n3 g.size uh).trans a3;have a0:=(n3 (f.size+1) uh).trans ax;have sc:Zm h.size h m:=by rw[v];exact cq.ZA uh _
  have r:YL (h.size+2) 5 m (F 7) st.sum:=by rw[v];exact (os.YQ B2 (ae _)).Ym uh _
  have P:Uo (h.size+2) m (F 6) st.out:=by rw[v];exact (oe.YQ B2 (ae _)).Ym uh _
  clear v;let⟨p7,c7,W,_⟩:=r.open;have r9:=ZB I (n:=5) rfl;have c0:=ZB a0 (n:=2) rfl;let⟨c2,a',b',ea,eb,la,lb⟩:=FH ok e;let⟨hD,ha,hb⟩:=hz e;rw[ea]at ha;rw[eb]at hb;have jW:CW st.cs st.sum x=gQ st.sum x.k x.c x.s x.n x.v a' b':=by unfold CW;rw[ea,eb];rfl
  subst ha hb;rw[W]at r;simp -implicitDefEqProofs only[go_sem,f5,W,e,c1,w1,r9,c0];refine (ZgP T m _ st.sum r.bs ok.sum x.k x.c x.s x.n x.v (I8 e).2 a' b' la lb (tk.QL sc)).use ?_;rintro w4 h4 ⟨V,z⟩;have z4:=z.size;have a1:=sc.trans (z.mono sc.size);have bh:=z.get uh bn;have b3:=z.get uh b7;have a2:=z.get uh I;have cg:=z.get uh a0;have bN:=ZB a2 (n:=5) rfl;have ca:=ZB cg (n:=2) rfl;have N:=P.YQ z (ae _);let⟨p6,c6,c⟩:=P.open;rw[c]at N;rw[<-jW]at V;have ls:(CW st.cs st.sum x).length=32:=by rw[jW];exact Ic _ _ _ _ _ _ _ _
  obtain⟨cr,cu,rfl,_⟩:=V.open;have k1:g.size<h4.size:=uh;have k2:f.size+1<h4.size:=uh;refine VS.z (h4.size) [7,8] (.p 0 (.q 1 (.q 2 (.p 3 (.s 4 (.p 5 (.s 6 (.w 7 (.w 8 .nil))))))))) mixed zI ?_;simp -implicitDefEqProofs only[go_sem,c,bN,ca,k1,k2];refine (Nk T h4 _ _ V.bs uh).use ?_;rintro w5 h5 ⟨o5,o⟩;obtain⟨p5,c5,rfl,_⟩:=o5.open;have z5:=o.size;have c3:=N.YQ o (ae _);let⟨es,M,s2⟩:=c3.ex;have ct:=s2.length;have JD:=Ts.one (E:=61) (h:=h5) (enc:=gW) (n:=8) ⟨x,a',b',p5,(CW st.cs st.sum x).length,c5⟩ (fun _=>rfl) 1;unfold gW at JD;have k3:g.size<h5.size:=uh;simp -implicitDefEqProofs only[go_sem,o];refine RZ (E:=61) (B:=h.size+2) (n:=8) (bytes:=80) ZoB Tryz.underlying52 Zwb Zwd rfl Zwc Zcv (M.push _) Fo JD zK uh ?_;intro w6 h6 o6 _ b6;have br:=Uo.app (M.push _) (s2.mono (fun w t q=>q.push _)) b6;have j:Zm (h.size+2) h5 h6:=(Zm.push uh _).trans (b6.YQ Fo M.Zn.Yb);have dq:Zm h.size h h6:=(a1.trans (o.mono a1.size)).trans (j.mono uh);have z6:=j.size;have bf:=j.get uh (o.get uh bh);have b0:=j.get uh (o.get uh b3);have q5:=((o5.mono (B':=h.size+2) uh).push (.cells [.int .i64 x.k,.int .i64 x.c,.int .i64 x.s,.int .i64 x.n,.int .i64 x.v,.int .i64 (a':Nat),.int .i64 (b':Nat),.slice p5 (CW st.cs st.sum x).length c5].toArray 61)).kY b6 (fun b hb=>I9 HE o5.Zn M.Zn b hb);have q4:=(((V.mono (B':=h.size+2) uh).YQ o (ae _)).push (.cells [.int .i64 x.k,.int .i64 x.c,.int .i64 x.s,.int .i64 x.n,.int .i64 x.v,.int .i64 (a':Nat),.int .i64 (b':Nat),.slice p5 (CW st.cs st.sum x).length c5].toArray 61)).kY b6 (fun b hb=>I9 HE (V.YQ o (ae _)).Zn M.Zn b hb);simp -implicitDefEqProofs only[go_sem,f20];refine⟨⟨dq,f0,f3,f5,f18,f19,bf,i+1,Ny st x,Ye,rfl,?_,c2,?_,?_,?_,q4⟩,?_⟩
  .rw[hr,Ie e]
  .grind [Ny]
  .rw[show (Ny st x).cs=D from hD.symm];exact b0
  .exact⟨_,o6,br.snoc ⟨rfl,ea.symm,eb.symm,q5⟩⟩
  .simp only[vi,Zu,↓reduceIte,f20];omega
 .have XX:¬(i:Int)<l.length:=uh;obtain rfl:i=l.length:=uh;rw[List.drop_length,Zcr]at hr;have y:RD l=0:=by unfold RD;rw[hr]
  have eS:Sf l=st.cs:=by unfold Sf;rw[y,if_pos rfl,hr]
  have eO:Sg l=st.out:=by unfold Sg;rw[y,if_pos rfl,hr]
  have Ri:st.cs.length=40:=YR ok.fit;have JD:=Pa ok.fit;have r1:=ZB x1 Ri;have L:=Yr x0 0 st.cs;rw[if_pos ⟨uh,JD⟩,Yf uh]at L;have c4:h.size<g.size:=uh;let⟨p6,c6,c⟩:=oe.open;rw[y,eS,eO];simp -implicitDefEqProofs only[go_sem,f18,f19,f20,XX];refine VS.z (h.size) [] (.p 0 (.p 2 (.s 1 (.s 3 (.p 4 .nil))))) mixed zI ?_;simp -implicitDefEqProofs only[go_sem,f3,f5,c,r1,L,c4,g1];have U:=oe;rw[c]at U;exact⟨⟨_,0,st.cs,zK,rfl,(U.Ym uh _).mono uh⟩,hg.ZA (ae _) _⟩
end Go.Proofs.YtkhkmpfenaipaaaGreatDoor
