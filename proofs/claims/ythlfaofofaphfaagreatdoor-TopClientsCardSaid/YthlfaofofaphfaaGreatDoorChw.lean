/- Part Chw. -/
import Derived.Test.YthlfaofofaphfaaGreatDoorTab
import Derived.Test.YthlfaofofaphfaaGreatDoorW18
import Derived.Test.YthlfaofofaphfaaGreatDoorBytes
import Derived.Test.YthlfaofofaphfaaGreatDoorTape
import Derived.Test.YthlfaofofaphfaaGreatDoorW12
import Derived.Test.YthlfaofofaphfaaGreatDoorPik
import Derived.Test.YthlfaofofaphfaaGreatDoorLchks
import Derived.Test.YthlfaofofaphfaaGreatDoorW14
import Derived.Test.YthlfaofofaphfaaGreatDoorVst
open Go.Value renaming int→R,slice→Y,pointer→ba,agg→bk
open Go.IntKind renaming i64→O,u32→Z,u8→au
open Go.Obj renaming cells→S
open Go.Proofs.Tryz renaming underlying28→a4,prog→bl
open List renaming length→J,getD_eq_getElem?_getD→aw,length_append→a6,append_nil→a7,length_take→a8,getElem?_eq_getElem→bc,take_of_length_le→bo,replicate→bw,length_cons→bx,drop_of_length_le→bA,length_nil→bB,length_singleton→bC,getElem?_append_right→bG,length_drop→bR,not_mem_nil→bS,mem_cons→bT,nil_append→b8,take_zero→cd,getElem?_drop→cf,drop_zero→cr,flatMap_append→ct,append_assoc→cx,getElem?_map→cy,flatMap_cons→cB,flatMap_nil→cR,length_set→cT
open Nat renaming le_refl→am,div_eq_of_lt→bK,min_eq_left→b9,sub_self→cc,sub_zero→cn,zero_mul→co,lt_of_lt_of_le→cv,add_zero→cA
open Int renaming toNat_natCast→ch
open Option renaming some→aa,none→aI
open Array renaming getElem?_push→a9,getElem?_setIfInBounds→be,size_setIfInBounds→ck,size_push→cS
open Go renaming Value→a5,World→bz
namespace Go.Proofs.YthlfaofofaphfaaGreatDoor
open Go Go.V
set_option linter.unusedSimpArgs false
set_option linter.unusedVariables false
set_option maxRecDepth 100000
abbrev NT(h:Hp)(v:a5)(l:List Nat):Prop:=Ts (fun x=>[nv x]) 1 h v l
theorem JT(T:bz)(h:Hp)(x n:Nat)(hx:x<4294967296)(hn:n<=32):
  Zd bl T 98 #[R Z x,R O n] h fun v' h'=>v'=R Z (rr x n:Nat)/\h'=h:=by
 refine Zd.XS [_,_] Tryz.func98 ?_;have e1:=Hy x (32-n) nc;have e2:=WQ x n hn;have e3:(32:Int)-n=((32-n:Nat):Int):=nc;have e4:=PA (x/2 ^ n) (x*2 ^ (32-n)%4294967296) (Nat.lt_of_le_of_lt (Nat.div_le_self _ _) hx) nc;have e5:¬(n:Int)<0:=nc;have e6:¬((32-n:Nat):Int)<0:=nc;have e7:=kX hx (show 32-n<=32 by omega);rw[show 32-(32-n)=n by omega,Nat.or_comm]at e7;rw[e7]at e4;unfold rr;simp +contextual -implicitDefEqProofs only[go_sem];refine VS.q mixed uf ?_;simp +contextual -implicitDefEqProofs only[go_sem,e3,e1,e2,e4,e5,e6]
theorem Zcy{a b c d:Nat}(ha:a<256)(hb:b<256)(hc:c<256)(hd:d<256):
  YM .or Z (YM .or Z (YM .or Z (Xm Z a 24) (Xm Z b 16)) (Xm Z c 8)) d=((a*16777216+b*65536+c*256+d:Nat):Int):=by
 have sb:∀{x k:Nat},x<256->k<=24->Xm Z (x:Int) (k:Int)=((x*2 ^ k:Nat):Int):=by
  intro x k hx hk;rw[Hy x k nc,Nat.mod_eq_of_lt];have:2 ^ k<=2 ^ 24:=Nat.pow_le_pow_right nc hk;have h2:x*2 ^ k<=255*2 ^ 24:=Nat.mul_le_mul nc this;omega
 have e1:Xm Z (a:Int) 24=((a*16777216:Nat):Int):=sb (k:=24) ha nc;have e2:Xm Z (b:Int) 16=((b*65536:Nat):Int):=sb (k:=16) hb nc;have e3:Xm Z (c:Int) 8=((c*256:Nat):Int):=sb (k:=8) hc nc;have f1:a*16777216 ||| b*65536=a*16777216+b*65536:=Um (k:=24) nc nc
 have f2:(a*16777216+b*65536) ||| c*256=a*16777216+b*65536+c*256:=Um (k:=16) nc nc
 rw[e1,e2,e3,PA _ _ nc nc,f1,PA _ _ nc nc,f2,PA _ _ nc nc,Um (k:=8) nc nc]
theorem Ma(xs zs:List Nat)(i:Nat)(hi:i<(J xs))(hz:(J xs)=(J zs)):(xs.take i++zs.drop i).set i (xs.getD i 0)=xs.take (i+1)++zs.drop (i+1):=by
 rw[aw,bc hi];exact L1 xs zs i hi hz
def Ln(b:List Nat)(i:Nat):List Nat:=Uw b i++bw (64-i) 0
theorem Vf{b:List Nat}{i:Nat}(hi:i<=64):(Ln b i).length=64:=by simp[Ln,Qi];omega
theorem qa{b:List Nat}{i j:Nat}(hj:j<i):(Ln b i).getD j 0=(Uw b i).getD j 0:=by
 rw[Ln,aw,List.getElem?_append_left (by rw[Qi];exact hj),<-aw]
theorem yc{b:List Nat}{i:Nat}(hi:i<64):(Ln b i).set i (CR b (Uw b i))=Ln b (i+1):=by
 rw[Ln,List.set_append_right _ _ (by rw[Qi];exact am _),Qi,cc,show 64-i=(64-(i+1))+1 by omega,List.replicate_succ,List.set_cons_zero,Ln,Uw,cx];rfl
theorem qc(b:List Nat):Ln b 64=Uw b 64:=by simp[Ln]
theorem Dw{b:List Nat}(hb:O9 b){i j:Nat}:(Uw b i).getD j 0<4294967296:=(GA hb i).getD j
theorem aT(T:bz)(h:Hp)(bd:Nat)(d:List Nat)(v:a5)(b:List Nat)(hd:(J d)=8)(wd:OI d)(sb:Bs h v b)(hb:(J b)=64)(tk:BX 0 wv kN h)(hx:h[bd]? = aa (S (d.map wv++[]).toArray 166))(hg:0≠bd):
  Zd bl T 77 #[ba (aa ⟨bd,0,aI⟩),v] h fun v' h'=>Rt (aa bd) h h'/\h'[bd]? = aa (S ((ad d b).map wv++[]).toArray 166):=by
 obtain⟨p,c,rfl,Wr⟩:=sb.VA;obtain⟨bb,ob,rfl,Tm,XE⟩:=Wr (by intro e;subst e;simp at hb);have qd:O9 b:=sb.byte;refine Zd.XS [_,_] Tryz.func77 ?_;rw[hb];have gT:=Za hx;have b0:Zk h.size h (h.push (S (Qf 64 [Value.int Z 0]).toArray 187)):=Zk.push (am _) _;have x0:∀A:Array a5,A=((Ln b 0).map wv).toArray->(h.push (S A 187))[h.size]? = aa (S ((Ln b 0).map wv++[]).toArray 187):=by
  rintro _ rfl;rw[a7];exact Zc
 simp -implicitDefEqProofs only[go_sem];refine VS.Yj (fun F g=>Zk h.size h g/\F 0=ba (aa ⟨bd,0,aI⟩)/\F 1=Y (aa ⟨bb,ob,aI⟩) 64 c/\F 4=ba (aa ⟨h.size,0,aI⟩)/\∃i:Nat,i<=64/\F 16=R O i/\g[h.size]? = aa (S ((Ln b i).map wv++[]).toArray 187))
  (fun F _=>64-(vi (F 16)).toNat) rfl ⟨b0,rfl,rfl,rfl,0,nc,rfl,by exact x0 _ (by rfl)⟩ ?_
 clear b0 x0;rintro F g ⟨lT,f0,f1,f4,i,hi,f16,hw⟩;have hws:=Za hw;by_cases ZU:i<64
 .have Z8:(i:Int)<64:=nc;have fin:∀X:Nat,X=CR b (Uw b i)->QP g ⟨h.size,i,aI⟩ (R Z (X:Nat))=aa (g.setIfInBounds h.size (S ((Ln b (i+1)).map wv++[]).toArray 187)):=by
   intro X hX;have:=Yu (f:=wv) hw (i:=i) (by rw[Vf hi];exact ZU) X rfl;rw[hX,yc ZU]at this;rw[hX];exact this
  by_cases h16:i<16
  .have ZgA:(i:Int)<16:=nc;have g0:∀j,j<64->hc g ⟨bb,ob+j,aI⟩=aa (R au (b.getD j 0:Nat)):=fun j hj=>by rw[lT.hc (by exact Tm)];exact XE j nc
   have e0:=g0 (4*i) nc;have e1:=g0 (4*i+1) nc;have e2:=g0 (4*i+2) nc;have e3:=g0 (4*i+3) nc;have y0:=Z2 qd (4*i);have y1:=Z2 qd (4*i+1);have y2:=Z2 qd (4*i+2);have y3:=Z2 qd (4*i+3);have t0:(4*(i:Int)).toNat=4*i:=nc;have t1:(4*(i:Int)+1).toNat=4*i+1:=nc;have t2:(4*(i:Int)+2).toNat=4*i+2:=nc;have t3:(4*(i:Int)+3).toNat=4*i+3:=nc;have eo:=fun (_:Unit)=>Zcy y0 y1 y2 y3;rw[show b.getD (4*i) 0*16777216+b.getD (4*i+1) 0*65536+b.getD (4*i+2) 0*256+b.getD (4*i+3) 0=XB b (4*i) from rfl]at eo;have m0:((b.getD (4*i) 0:Nat):Int)%4294967296=(b.getD (4*i) 0:Nat):=nc;have m1:((b.getD (4*i+1) 0:Nat):Int)%4294967296=(b.getD (4*i+1) 0:Nat):=nc;have m2:((b.getD (4*i+2) 0:Nat):Int)%4294967296=(b.getD (4*i+2) 0:Nat):=nc;have m3:((b.getD (4*i+3) 0:Nat):Int)%4294967296=(b.getD (4*i+3) 0:Nat):=nc;have cs:=fin (XB b (4*i)) (by unfold CR;rw[Qi,if_pos h16]);simp -implicitDefEqProofs only[go_sem,f0,f1,f4,f16,Z8,ZgA];refine VS.w (g.size) [35] (.q 0 (.q 1 (.q 2 (.q 3 (.q 4 (.q 5 (.q 6 (.q 7 (.q 8 (.q 9 (.q 10 (.q 11 (.q 12 (.q 13 (.q 14 (.q 15 (.q 16 (.q 17 (.q 18 (.q 19 (.q 20 (.q 21 (.q 22 (.q 23 (.q 24 (.q 25 (.q 26 (.q 27 (.q 28 (.q 29 (.q 30 (.q 31 (.q 32 (.q 33 (.q 34 (.w 35 .nil)))))))))))))))))))))))))))))))))))) mixed uf ?_;have Ztc:bb<g.size:=cv Tm lT.size;simp -implicitDefEqProofs only[go_sem,f0,f1,f4,f16,e0,e1,e2,e3,t0,t1,t2,t3,m0,m1,m2,m3,eo (),Ztc,cs];refine⟨⟨lT.Zt (am _) _,f0,f1,f4,i+1,ZU,rfl,Yd hw⟩,?_⟩;simp only[vi,Zr,↓reduceIte,f16];omega
  .have ZgA:¬(i:Int)<16:=nc;have q1:=Z6 hw (i:=i-15) (by rw[Vf hi];omega);have q2:=Z6 hw (i:=i-2) (by rw[Vf hi];omega);have q3:=Z6 hw (i:=i-16) (by rw[Vf hi];omega);have q4:=Z6 hw (i:=i-7) (by rw[Vf hi];omega);rw[qa nc]at q1 q2 q3 q4;have eX:CR b (Uw b i)=((Uw b i).getD (i-16) 0+sg0 ((Uw b i).getD (i-15) 0)+(Uw b i).getD (i-7) 0+sg1 ((Uw b i).getD (i-2) 0))%4294967296:=by
    unfold CR;rw[Qi,if_neg h16]
   have cs:=fin (CR b (Uw b i)) rfl;have hA:(Uw b i).getD (i-15) 0<4294967296:=Dw qd;have hC:(Uw b i).getD (i-2) 0<4294967296:=Dw qd;rw[eX]at cs;generalize (Uw b i).getD (i-15) 0=A at *;generalize (Uw b i).getD (i-2) 0=C at *;generalize (Uw b i).getD (i-16) 0=E1 at *;generalize (Uw b i).getD (i-7) 0=E2 at *;unfold wv at q1 q2 q3 q4;have t1:((i:Int)-15).toNat=i-15:=nc;have t2:((i:Int)-2).toNat=i-2:=nc;have t3:((i:Int)-16).toNat=i-16:=nc;have t4:((i:Int)-7).toNat=i-7:=nc;have s1:Unit->Xx Z (A:Int) 3=((A/8:Nat):Int):=fun _=>WQ A 3 aaa;have s2:Unit->Xx Z (C:Int) 10=((C/1024:Nat):Int):=fun _=>WQ C 10 aaa;have o1:=fun (_:Unit)=>Uf (rr A 7) (rr A 18) (Ws hA) (Ws hA);have o2:Unit->YM .xor Z ((rr A 7 ^^^ rr A 18:Nat):Int) ((A/8:Nat):Int)=((sg0 A:Nat):Int):=fun _=>Uf _ _ (Tj (Ws hA) (Ws hA)) (A7 hA);have o3:=fun (_:Unit)=>Uf (rr C 17) (rr C 19) (Ws hC) (Ws hC);have o4:Unit->YM .xor Z ((rr C 17 ^^^ rr C 19:Nat):Int) ((C/1024:Nat):Int)=((sg1 C:Nat):Int):=fun _=>Uf _ _ (Tj (Ws hC) (Ws hC)) (A7 hC);generalize sg0 A=S0 at *;generalize sg1 C=S1 at *;have e5:((((E1:Int)+(E2:Int))%4294967296+(S0:Int))%4294967296+(S1:Int))%4294967296=(((E1+S0+E2+S1)%4294967296:Nat):Int):=by clear cs fin;omega
   simp -implicitDefEqProofs only[go_sem,f0,f1,f4,f16,Z8,ZgA];refine VS.q mixed uf ?_;simp -implicitDefEqProofs only[go_sem,f0,f1,f4,f16,q1,q2,t1,t2];refine VS.w (h.size+1) [29] (.q 0 (.q 1 (.q 2 (.q 3 (.q 4 (.q 5 (.q 6 (.q 7 (.q 8 (.q 9 (.q 10 (.q 11 (.q 12 (.q 13 (.q 14 (.q 15 (.q 16 (.q 17 (.q 18 (.q 19 (.q 20 (.q 21 (.q 22 (.q 23 (.q 24 (.q 25 (.q 26 (.q 27 (.q 28 (.w 29 .nil)))))))))))))))))))))))))))))) mixed uf ?_;simp -implicitDefEqProofs only[go_sem,f0,f1,f4,f16,q3,q4,t3,t4,e5];refine Ug (fun h=>JT T h A 7 hA nc) ?_;simp -implicitDefEqProofs only[go_sem,f0,f1,f4,f16,o1 (),o2 (),o3 (),o4 (),s1 (),s2 (),e5];refine Ug (fun h=>JT T h A 18 hA nc) ?_;simp -implicitDefEqProofs only[go_sem,f0,f1,f4,f16,o1 (),o2 (),o3 (),o4 (),s1 (),s2 (),e5];refine Ug (fun h=>JT T h C 17 hC nc) ?_;simp -implicitDefEqProofs only[go_sem,f0,f1,f4,f16,o1 (),o2 (),o3 (),o4 (),s1 (),s2 (),e5];refine Ug (fun h=>JT T h C 19 hC nc) ?_;simp -implicitDefEqProofs only[go_sem,f0,f1,f4,f16,o1 (),o2 (),o3 (),o4 (),s1 (),s2 (),e5,cs];refine⟨⟨lT.Zt (am _) _,f0,f1,f4,i+1,ZU,rfl,Yd hw⟩,?_⟩;simp only[vi,Zr,↓reduceIte,f16];omega
 .have Xp:¬(i:Int)<64:=nc;obtain rfl:i=64:=nc;rw[qc]at hw;have tO:=lT.get gT hx;have r0:rd g ⟨bd,0,aI⟩ 8=aa (d.map wv):=by rw[a7]at tO;exact Zy tO (by simp[hd])
  have l8:(d.map wv).length=8:=by simp[hd]
  have ZgB:(d.map wv).all YC=true:=by simp[wv,YC]
  obtain⟨DV,hDV⟩:=ZQ (d.map wv);rw[<-hDV]at r0 l8 ZgB;have lp:Y9 [Value.int Z 0,Value.int Z 0,Value.int Z 0,Value.int Z 0,Value.int Z 0,Value.int Z 0,Value.int Z 0,Value.int Z 0] 0 DV=DV:=Z3 l8;simp -implicitDefEqProofs only[go_sem,f0,f1,f4,f16,Xp,r0,l8,ZgB,lp];rw[hDV];have PU:=lT.size;have hB:Zk h.size h (g.push (S (d.map wv).toArray 166)):=lT.add _;have Py:Zk g.size g (g.push (S (d.map wv).toArray 166)):=Zk.push (am _) _;have hv0:(g.push (S (d.map wv).toArray 166))[g.size]? = aa (S ((Ux b d 0).map wv++[]).toArray 166):=by
   rw[a7];exact Zc
  refine VS.Yj (fun F' g'=>Zk g.size g g'/\F' 0=ba (aa ⟨bd,0,aI⟩)/\F' 4=ba (aa ⟨h.size,0,aI⟩)/\F' 8=ba (aa ⟨g.size,0,aI⟩)/\∃i:Nat,i<=64/\F' 97=R O i/\g'[g.size]? = aa (S ((Ux b d i).map wv++[]).toArray 166))
   (fun F _=>64-(vi (F 97)).toNat) rfl ⟨Py,f0,f4,rfl,0,nc,rfl,hv0⟩ ?_
  clear f0 f1 f4 f16 Xp hi ZU hv0 hB Py r0 l8 ZgB lp hDV DV F;rintro F g2 ⟨Wn,f0,f4,f8,i,hi,f97,hv⟩;have iE:=Za hv;obtain⟨v8,w8⟩:=PO (b:=b) hd wd i;obtain⟨a,b',c',d',e,f,g',k',Ap⟩:=eight v8;by_cases ZU:i<64
  .have Z8:(i:Int)<64:=nc;have Zcz:Ux b d (i+1)=[(upw e f g' k' (kN.getD i 0) ((Uw b 64).getD i 0)+bg0 a+oU a b' c')%4294967296,a,b',c',(d'+upw e f g' k' (kN.getD i 0) ((Uw b 64).getD i 0))%4294967296,e,f,g']:=by
    rw[show Ux b d (i+1)=wH (Ux b d i) (kN.getD i 0) ((Uw b 64).getD i 0) from rfl,Ap];rfl
   have hK:kN.getD i 0<4294967296:=Zf5.getD i;have hW:(Uw b 64).getD i 0<4294967296:=(GA qd 64).getD i;have k1:V.hc g2 ⟨0,i,aI⟩=aa (R Z (kN.getD i 0:Nat)):=by
    rw[Wn.hc (by have:=tk.1;show (0:Nat)<g.size;omega),lT.hc (by exact tk.1)];exact tk.2 i ZU
   have w1:V.hc g2 ⟨h.size,i,aI⟩=aa (R Z ((Uw b 64).getD i 0:Nat)):=by
    rw[Wn.hc (by exact hws)];exact Z6 hw (by rw[Qi];exact ZU)
   rw[Ap]at hv w8;have n0:V.hc g2 ⟨g.size,0,aI⟩=aa (R Z (a:Nat)):=Z6 hv (i:=0) Hg;have n1:V.hc g2 ⟨g.size,1,aI⟩=aa (R Z (b':Nat)):=Z6 hv (i:=1) Hg;have n2:V.hc g2 ⟨g.size,2,aI⟩=aa (R Z (c':Nat)):=Z6 hv (i:=2) Hg;have n3:V.hc g2 ⟨g.size,3,aI⟩=aa (R Z (d':Nat)):=Z6 hv (i:=3) Hg;have n4:V.hc g2 ⟨g.size,4,aI⟩=aa (R Z (e:Nat)):=Z6 hv (i:=4) Hg;have n5:V.hc g2 ⟨g.size,5,aI⟩=aa (R Z (f:Nat)):=Z6 hv (i:=5) Hg;have n6:V.hc g2 ⟨g.size,6,aI⟩=aa (R Z (g':Nat)):=Z6 hv (i:=6) Hg;have n7:V.hc g2 ⟨g.size,7,aI⟩=aa (R Z (k':Nat)):=Z6 hv (i:=7) Hg;have ha:a<4294967296:=w8 a Hg;have Qa:b'<4294967296:=w8 b' Hg;have hc':c'<4294967296:=w8 c' Hg;have hd':d'<4294967296:=w8 d' Hg;have he:e<4294967296:=w8 e Hg;have hf:f<4294967296:=w8 f Hg;have Ec:g'<4294967296:=w8 g' Hg;have ML:k'<4294967296:=w8 k' Hg;generalize kN.getD i 0=K at *;generalize (Uw b 64).getD i 0=W at *;have o1:=fun (_:Unit)=>Uf (rr e 6) (rr e 11) (Ws he) (Ws he);have o2:Unit->YM .xor Z ((rr e 6 ^^^ rr e 11:Nat):Int) ((rr e 25:Nat):Int)=((oR e:Nat):Int):=fun _=>Uf _ _ (Tj (Ws he) (Ws he)) (Ws he);have o3:=fun (_:Unit)=>Uf (rr a 2) (rr a 13) (Ws ha) (Ws ha);have o4:Unit->YM .xor Z ((rr a 2 ^^^ rr a 13:Nat):Int) ((rr a 22:Nat):Int)=((bg0 a:Nat):Int):=fun _=>Uf _ _ (Tj (Ws ha) (Ws ha)) (Ws ha);have c0:Unit->(if IntKind.u32.signed=true then (-1:Int) else IntKind.u32.max)=4294967295:=fun _=>rfl;have c1:=fun (_:Unit)=>MG e f he hf;have c2:=fun (_:Unit)=>Zca he;have c3:=fun (_:Unit)=>MG (4294967295-e) g' (A9 e) Ec;have c4:=fun (_:Unit)=>Zf4 (f:=f) he Ec;have m1:=fun (_:Unit)=>MG a b' ha Qa;have m2:=fun (_:Unit)=>MG a c' ha hc';have m3:=fun (_:Unit)=>MG b' c' Qa hc';have m4:=fun (_:Unit)=>Uf (a &&& b') (a &&& c') (U1 ha) (U1 ha);have m5:=fun (_:Unit)=>Zcb (c:=c') ha Qa;have eU:upw e f g' k' K W=(k'+oR e+chw e f g'+K+W)%4294967296:=rfl;generalize upw e f g' k' K W=U at *;generalize oR e=S1 at *;generalize bg0 a=S0 at *;generalize chw e f g'=CH at *;generalize oU a b' c'=MJ at *;have e1:Unit->(((((k':Int)+(S1:Int))%4294967296+(CH:Int))%4294967296+(K:Int))%4294967296+(W:Int))%4294967296=(U:Int):=fun _=>by omega
   have e2:Unit->((S0:Int)+(MJ:Int))%4294967296=(((S0+MJ)%4294967296:Nat):Int):=fun _=>by omega
   have e3:Unit->((U:Int)+(((S0+MJ)%4294967296:Nat):Int))%4294967296=(((U+S0+MJ)%4294967296:Nat):Int):=fun _=>by omega
   have e4:Unit->((d':Int)+(U:Int))%4294967296=(((d'+U)%4294967296:Nat):Int):=fun _=>by omega
   simp -implicitDefEqProofs only[go_sem,f0,f4,f8,f97,Z8];refine VS.q mixed uf ?_;simp -implicitDefEqProofs only[go_sem,f0,f4,f8,f97,n0,n4];refine VS.q mixed uf ?_;simp -implicitDefEqProofs only[go_sem,f0,f4,f8,f97,n7,n4];refine WB (JT T _ e 6 he nc) ?_;simp -implicitDefEqProofs only[go_sem,f8];refine WB (JT T _ e 11 he nc) ?_;simp -implicitDefEqProofs only[go_sem,f8];refine WB (JT T _ e 25 he nc) ?_;simp -implicitDefEqProofs only[go_sem,f4,f8,f97,Z8,o1 (),o2 (),n5,n6,c0 (),c1 (),c2 (),c3 (),c4 (),k1,w1,e1 ()];refine VS.mono (N:=fun F' g'=>g2=g'/\F' 0=ba (aa ⟨bd,0,aI⟩)/\F' 4=ba (aa ⟨h.size,0,aI⟩)/\F' 8=ba (aa ⟨g.size,0,aI⟩)/\F' 97=R O i/\F' 10=R Z (a:Nat)/\F' 11=R Z (e:Nat)/\F' 12=R Z (U:Nat)/\F' 13=R Z (((S0+MJ)%4294967296:Nat):Int)) ?_ ?_ (fun _ _ _ h=>h) (fun _ _ h=>h)
   .refine VS.q mixed uf ?_;simp -implicitDefEqProofs only[go_sem,f8];refine WB (JT T _ a 2 ha nc) ?_;simp -implicitDefEqProofs only[go_sem,f8];refine WB (JT T _ a 13 ha nc) ?_;simp -implicitDefEqProofs only[go_sem,f8];refine WB (JT T _ a 22 ha nc) ?_;simp -implicitDefEqProofs only[go_sem,f0,f4,f8,f97,o3 (),o4 (),n1,n2,m1 (),m2 (),m3 (),m4 (),m5 (),e2 ()]
   clear f0 f4 f8 f97 F;rintro F _ ⟨rfl,f0,f4,f8,f97,f10,f11,f12,f13⟩;have hvE:g2[g.size]? = aa (S [Value.int Z a,R Z b',R Z c',R Z d',R Z e,R Z f,R Z g',R Z k'].toArray 166):=hv;have y2:=Ye hvE 0;obtain⟨xU,hxU⟩:∃x:Int,x=(U:Int):=⟨_,rfl⟩
   obtain⟨xD,hxD⟩:∃x:Int,x=(((S0+MJ)%4294967296:Nat):Int):=⟨_,rfl⟩
   obtain⟨x0,Pq⟩:∃x:Int,x=(((U+S0+MJ)%4294967296:Nat):Int):=⟨_,rfl⟩
   obtain⟨x4,dZ⟩:∃x:Int,x=(((d'+U)%4294967296:Nat):Int):=⟨_,rfl⟩
   have E3:Unit->(xU+xD)%4294967296=x0:=fun _=>by rw[hxU,hxD,Pq];exact e3 ()
   have E4:Unit->((d':Int)+xU)%4294967296=x4:=fun _=>by rw[hxU,dZ];exact e4 ()
   rw[<-hxU]at f12;rw[<-hxD]at f13;simp -implicitDefEqProofs only[go_sem,f0,f4,f8,f97,f10,f11,f12,f13,n1,n2,n3,n5,n6,E3 (),E4 (),y2];refine⟨⟨Wn.Zt (am _) _,f0,f4,f8,i+1,ZU,rfl,?_⟩,?_⟩
   .rw[Zcz,Pq,dZ];exact Yd hv
   .simp only[vi,Zr,↓reduceIte,f97];omega
  .have Xp:¬(i:Int)<64:=nc;obtain rfl:i=64:=nc;have r0:rd g2 ⟨g.size,0,aI⟩ 8=aa ((Ux b d 64).map wv):=by rw[a7]at hv;exact Zy hv (by simp[v8])
   have hB:Rt (aa bd) h g2:=by
    have q1:=lT.trans (Wn.mono lT.size);exact⟨q1.size,fun k hk _=>q1.block k hk⟩
   have tO:g2[bd]? = aa (S (((PP d (Ux b d 64)).take 0++d.drop 0).map wv++[]).toArray 166):=by
    rw[cd,cr,b8];exact (lT.trans (Wn.mono lT.size)).get gT hx
   have hal:=PQ hd v8;simp -implicitDefEqProofs only[go_sem,f0,f8,f97,Xp,r0];refine VS.Yj (fun F' g'=>Rt (aa bd) h g'/\F' 0=ba (aa ⟨bd,0,aI⟩)/\F' 177=bk ((Ux b d 64).map wv).toArray/\∃i:Nat,i<=8/\F' 178=R O i/\g'[bd]? = aa (S (((PP d (Ux b d 64)).take i++d.drop i).map wv++[]).toArray 166))
    (fun F _=>8-(vi (F 178)).toNat) rfl ⟨hB,f0,rfl,0,nc,rfl,tO⟩ ?_
   clear f0 f4 f8 f97 Xp hi ZU hv tO hB r0 F;rintro F g3 ⟨hB,f0,ZgD,i,hi,ZcA,tO⟩;have Ztg:=Za tO;have hfl:((PP d (Ux b d 64)).take i++d.drop i).length=8:=by rw[TX _ _ _ nc nc,hal]
   by_cases ZU:i<8
   .have Z8:(i:Int)<8:=nc;have n1:nth ((Ux b d 64).map wv) i=aa (R Z ((Ux b d 64).getD i 0:Nat)):=by
     rw[YR,cy,aw,bc nc];rfl
    have q1:=Z6 tO (i:=i) nc;have e0:((PP d (Ux b d 64)).take i++d.drop i).getD i 0=d.getD i 0:=by
     rw[aw,bG aad,a8,b9 nc,cc,cf,cA,<-aw]
    rw[e0]at q1;unfold wv at q1;have eX:=oV hd v8 ZU;have cs:=Yu (f:=wv) tO (i:=i) nc ((PP d (Ux b d 64)).getD i 0) rfl;rw[Ma _ _ i nc nc]at cs;have uo:QP g3 ⟨bd,i,aI⟩ (R Z (((PP d (Ux b d 64)).getD i 0:Nat):Int))=_:=cs;rw[eX]at uo;generalize d.getD i 0=D at *;generalize (Ux b d 64).getD i 0=V at *;have e1:((D:Int)+(V:Int))%4294967296=(((D+V)%4294967296:Nat):Int):=nc;simp -implicitDefEqProofs only[go_sem,ZgD,ZcA,Z8,n1];refine VS.w (g3.size) [9] (.q 0 (.q 1 (.q 2 (.q 3 (.q 4 (.q 5 (.q 6 (.q 7 (.q 8 (.w 9 .nil)))))))))) mixed uf ?_;simp -implicitDefEqProofs only[go_sem,f0,ZgD,ZcA,q1,e1,Ztg,uo,Z8];refine⟨⟨?_,f0,ZgD,i+1,ZU,rfl,Yd tO⟩,?_⟩
    .exact⟨by rw[ck];exact hB.size,fun k hk Y4=>by rw[be,if_neg (by intro e;exact Y4 (by rw[e])),hB.block k hk Y4]⟩
    .simp only[vi,Zr,↓reduceIte,ZcA];omega
   .have Xp:¬(i:Int)<8:=nc;obtain rfl:i=8:=nc;have e9:(PP d (Ux b d 64)).take 8++d.drop 8=ad d b:=by
     rw[bo nc,bA nc,a7];rfl
    rw[e9]at tO;simp -implicitDefEqProofs only[go_sem,ZcA,Xp];exact⟨hB,tO⟩
def iF:a5->Nat
 | Y _ n _=>n
 | _=>0
def EG(n:Nat):List Nat:=0 :: 0 :: 0 :: 0 :: Xl (8*n)
theorem Iw(n:Nat):(EG n).length=8:=rfl
theorem qe(n:Nat):O9 (EG n):=by
 intro x hx;simp only[EG,bT]at hx;rcases hx with rfl|rfl|rfl|rfl|hx
 .omega
 .omega
 .omega
 .omega
 .exact UF _ x hx
theorem ZcC{n k:Nat}(hn:n<=100000)(hk:k<8):Xx O ((8*n:Nat):Int) ((56-8*k:Nat):Int)%256=(((EG n).getD k 0:Nat):Int):=by
 rw[Uh _ _ nc];rcases k with _|_|_|_|_|_|_|_|k
 .show ((8*n/2 ^ 56:Nat):Int)%256=((0:Nat):Int)
  rw[bK nc];rfl
 .show ((8*n/2 ^ 48:Nat):Int)%256=((0:Nat):Int)
  rw[bK nc];rfl
 .show ((8*n/2 ^ 40:Nat):Int)%256=((0:Nat):Int)
  rw[bK nc];rfl
 .show ((8*n/2 ^ 32:Nat):Int)%256=((0:Nat):Int)
  rw[bK nc];rfl
 .rfl
 .rfl
 .rfl
 .show ((8*n/2 ^ 0:Nat):Int)%256=((8*n%256:Nat):Int)
  rw[Nat.pow_zero,Nat.div_one];rfl
 .omega
theorem ZcD{x bp op m c:Nat}{h h':Hp}{l:List Nat}(s:Bs h (Y (aa ⟨bp,op,aI⟩) m c) l)(a:Rt (aa x) h h')(Y4:bp≠x):Bs h' (Y (aa ⟨bp,op,aI⟩) m c) l:=by
 obtain⟨⟨p,cap,hv,hl,hc⟩,hb⟩:=s;simp only[Value.slice.injEq]at hv;obtain⟨rfl,hm,rfl⟩:=hv;refine⟨⟨_,_,by rw[hm],hl,fun hn=>?_⟩,hb⟩;obtain⟨b,o,hp,XE⟩:=hc hn;simp only[Option.some.injEq,Addr.mk.injEq,and_true]at hp;obtain⟨rfl,rfl⟩:=hp;refine⟨_,_,rfl,fun i hi=>?_⟩;have h1:=XE i hi;have h2:=WZ h1;unfold V.hc at h1 ⊢;rw[a.block _ h2 (by intro e;exact Y4 (Option.some.inj e).symm)];exact h1
theorem RH{bp op m c:Nat}{h:Hp}{l:List Nat}(s:Bs h (Y (aa ⟨bp,op,aI⟩) m c) l){k:Nat}(hk:k<=(J l))(hm:(J l)=m)(c':Nat):Bs h (Y (aa ⟨bp,op+k,aI⟩) (m-k) c') (l.drop k):=by
 subst hm;refine⟨?_,fun x hx=>s.byte x (List.mem_of_mem_drop hx)⟩;obtain⟨p',cap,hv,hl,hc⟩:=s.sl;simp only[Value.slice.injEq]at hv;obtain⟨rfl,_,rfl⟩:=hv;refine⟨_,c',by rw[bR],Hg,fun Y4=>?_⟩;have ZU:k<(J l):=by
  rw[<-List.length_pos_iff]at Y4;simp at Y4;omega
 obtain⟨b,o,hp,XE⟩:=hc (by intro e;simp at e;subst e;simp at ZU);simp only[Option.some.injEq,Addr.mk.injEq,and_true]at hp;obtain⟨rfl,rfl⟩:=hp;refine⟨_,_,rfl,fun i hi=>?_⟩;have kK:i<(J l)-k:=by simpa using hi
 rw[show op+k+i=op+(k+i) by omega,XE (k+i) KQ];simp
abbrev Tk(h:Hp):Prop:=BX 0 wv kN h
theorem Bi(T:bz)(h:Hp)(v:a5)(l:List Nat)(s:Bs h v l)(hl:(J l)<=100000)(tk:Tk h):
  Zd bl T 58 #[v] h fun v' h'=>Yx h.size 5 h' v' (TH l)/\Zk h.size h h':=by
 obtain⟨p,cp,rfl,Wr⟩:=s.open;have qd:O9 l:=s.byte;refine Zd.XS [_] Tryz.func58 ?_;simp -implicitDefEqProofs only[go_sem];obtain⟨h1,Xk⟩:=ZQ (h.push (S (wP.map wv).toArray 166):Hp);have hs1:h1.size=h.size+1:=by rw[Xk];simp
 have b1:Zk h.size h h1:=by rw[Xk];exact Zk.push (am _) _
 have x1:h1[h.size]? = aa (S (wP.map wv++[]).toArray 166):=by rw[Xk,a7];exact Zc
 change Pm bl T .append _ _ _ _ _ (h.push (S (wP.map wv).toArray 166));rw[<-Xk];clear Xk;refine ZK (E:=5) (B:=h.size+1) Xg a4 Ti T4 T3 (Yx.Eo _ _ _ _) nc (s.Yy b1) KQ ?_;intro w h2 o2 b2 _;rw[b8]at o2;simp -implicitDefEqProofs only[go_sem];refine ZK (E:=5) (B:=h.size+1) Xg a4 Ti T4 T3 (o2.push _) (by have:=b2.size;simp;omega) (Bs.one (x:=128) nc 1) KQ ?_;intro w3 h3 o3 b3 _;have B3:Zk (h.size+1) h1 h3:=(b2.YU (by have:=b2.size;omega) _).trans b3;have o3':Yx (h.size+1) 5 h3 w3 (PS l 0):=o3;clear o2 o3 b2 b3;simp -implicitDefEqProofs only[go_sem];refine VS.Yj (fun F g=>Zk (h.size+1) h1 g/\F 0=Y p (J l) cp/\F 3=ba (aa ⟨h.size,0,aI⟩)/\∃j:Nat,j<=Ew (J l)/\Yx (h.size+1) 5 g (F 4) (PS l j))
  (fun F _=>(J l)+100-iF (F 4)) rfl ⟨B3,rfl,rfl,0,nc,o3'⟩ ?_
 clear o3' B3;rintro F g ⟨hg,f0,f3,j,hj,ho⟩;obtain⟨p4,c4,f4,_⟩:=ho.open;have ml:=MY l j;obtain⟨M,hM⟩:=ZQ ((J l)+j+1);rw[ml,<-hM]at f4;have ZE4:Ew (J l)<64:=by unfold Ew;omega
 have d1:(M:Int).tmod 64=((M%64:Nat):Int):=rfl;have PU:=hg.size;by_cases hm:M%64=56
 case neg=>
  have Hl:¬((M%64:Nat):Int)=56:=nc;have Y4:j≠Ew (J l):=fun e=>hm (by rw[hM];exact (af hj).2 e);simp -implicitDefEqProofs only[go_sem,f0,f3,f4,d1,Hl];have tP:=ho;rw[f4]at tP;refine ZK (E:=5) (B:=h.size+1) Xg a4 Ti T4 T3 (tP.push _) KQ (Bs.one (x:=0) nc 1) (by rw[ml];simp;omega) ?_;intro w' g' NM Qa _;obtain⟨p5,c5,rfl,_⟩:=NM.open;simp -implicitDefEqProofs only[go_sem,f0,f3];refine⟨⟨(hg.YU nc _).trans Qa,f0,f3,j+1,nc,?_⟩,?_⟩
  .rw[gH];exact NM
  .simp only[iF,Zr,↓reduceIte,f4,a6,ml,bC];omega
 have hjn:j=Ew (J l):=(af hj).1 (by rw[<-hM];exact hm);have Hl:((M%64:Nat):Int)=56:=nc;simp -implicitDefEqProofs only[go_sem,f0,f3,f4,d1,Hl];refine VS.Yj (fun F g=>Zk (h.size+1) h1 g/\F 0=Y p (J l) cp/\F 3=ba (aa ⟨h.size,0,aI⟩)/\∃k:Nat,k<=8/\F 5=R O (56-8*(k:Int))/\Yx (h.size+1) 5 g (F 4) (PS l j++(EG (J l)).take k))
  (fun F _=>(vi (F 5)+8).toNat) rfl ⟨hg,f0,f3,0,nc,rfl,by rw[cd,a7];exact ho⟩ ?_
 clear f0 f3 f4 d1 hm Hl ho hg PU F g;rintro F g ⟨hg,f0,f3,k,hk,f5,ho⟩;have PU:=hg.size;obtain⟨y,hy⟩:∃y:Int,y=56-8*(k:Int):=⟨_,rfl⟩
 rw[<-hy]at f5;by_cases ZU:k<8
 .have ie:0<=y:=nc;have C7:¬y<0:=nc;obtain⟨X,hX⟩:=ZQ ((EG (J l)).getD k 0);have hXb:X<256:=by rw[hX];exact Z2 (qe _) k
  obtain⟨xL,hxL⟩:∃x:Int,x=((8*(J l):Nat):Int):=⟨_,rfl⟩
  have eL:Unit->8*((J l):Int)=xL:=fun _=>by rw[hxL];omega
  have xLb:0<=xL/\xL<=1000000:=by rw[hxL];omega
  have sh:Unit->Xx O xL y%256=(X:Int):=fun _=>by
   rw[hxL,hy,show (56:Int)-8*(k:Int)=((56-8*k:Nat):Int) by omega,hX];exact ZcC hl ZU
  have ml2:(PS l j++(EG (J l)).take k).length<=200000:=by rw[a6,ml,a8];omega
  have et:(EG (J l)).take (k+1)=(EG (J l)).take k++[X]:=by
   rw[Y2 _ k (by rw[Iw];exact ZU),hX,aw,bc (by rw[Iw];exact ZU)];rfl
  clear hX hxL;simp -implicitDefEqProofs only[go_sem,f0,f3,f5,ie,C7,eL (),sh ()];refine ZK (E:=5) (B:=h.size+1) Xg a4 Ti T4 T3 (ho.push _) KQ (Bs.one hXb 1) aai ?_;intro w' g' NM Qa _;simp -implicitDefEqProofs only[go_sem,f0,f3,f5];refine⟨⟨(hg.YU nc _).trans Qa,f0,f3,k+1,ZU,?_,?_⟩,?_⟩
  .show Value.int O _=_
   congr 1;omega
  .rw[et,<-cx];exact NM
  .simp only[vi,Zr,↓reduceIte,f5];omega
 .have ie:¬0<=y:=nc;obtain rfl:k=8:=nc;have ep:PS l j++(EG (J l)).take 8=T5 l:=by rw[hjn];rfl
  rw[ep]at ho;have pl:=CS l;obtain⟨N,hN⟩:=ZQ (oW (J l));have hN1:0<N:=by rw[hN];unfold oW;omega
  have hN2:N<=2000:=by rw[hN];unfold oW;omega
  rw[<-hN]at pl;have hgd:=hg.get nc x1;have bh:Zk h.size h g:=b1.trans (hg.mono nc);obtain⟨bp,cP,f4,hbp,hcP⟩:∃bp c,F 4=Y (aa ⟨bp,0,aI⟩) (64*N) c/\h.size+1<=bp/\64*N<=c:=by
   rcases ho.Zq with⟨_,hm,_⟩|⟨b,cap,sp,hB,hv,_,_,_,hc⟩
   .omega
   .rw[pl]at hv hc;exact⟨b,cap,hv,hB,hc⟩
  have sP:=ho.bs;rw[f4]at sP;simp -implicitDefEqProofs only[go_sem,f0,f3,f5,ie];refine VS.Yj (fun F g=>Zk h.size h g/\F 3=ba (aa ⟨h.size,0,aI⟩)/\∃j op c:Nat,j<=N/\F 4=Y (aa ⟨bp,op,aI⟩) (64*(N-j)) c/\64*(N-j)<=c/\Bs g (Y (aa ⟨bp,op,aI⟩) (64*(N-j)) c) ((T5 l).drop (64*j))/\g[h.size]? = aa (S ((ae (T5 l) j).map wv++[]).toArray 166))
   (fun F _=>iF (F 4)) rfl ⟨bh,f3,0,0,cP,nc,f4,hcP,by exact sP,hgd⟩ ?_
  clear f0 f3 f4 f5 hy ie ZU ho sP hgd bh hg PU ep hcP F g;rintro F g ⟨hg,f3,j,op,c,hj,f4,hc,sP,hgd⟩;have PU:=Za hgd;by_cases ZU:j<N
  .obtain⟨L,hL⟩:=ZQ (64*(N-j));rw[<-hL]at f4 hc sP;have ZE5:64<=L:=nc;have tT:((T5 l).drop (64*j)).length=L:=by rw[bR,pl];omega
   have hL0:0<(L:Int):=nc;have Zlm:(64:Int)<=(c:Int):=nc;have kJ:¬c=0:=nc;simp -implicitDefEqProofs only[go_sem,f3,f4,hL0,Zlm,kJ,cn,co];have sB:Bs g (Y (aa ⟨bp,op,aI⟩) 64 c) (((T5 l).drop (64*j)).take 64):=by
    rw[<-tT]at sP;exact Bs.NL sP nc c
   obtain⟨dl,dw⟩:=MX (T5 l) j;refine (aT T g h.size (ae (T5 l) j) _ (((T5 l).drop (64*j)).take 64) dl dw sB (by rw[a8,tT];omega) (tk.Qx hg) hgd (by have:=tk.1;omega)).use ?_;rintro _ g2 ⟨NN,NV⟩;have Wn:Zk h.size h g2:=hg.trans (NN.Yy nc (fun b e=>by have:=Option.some.inj e;omega));have sP2:=ZcD sP NN nc;by_cases hce:c=64
   .have hLe:L=64:=nc;have Zti:(c:Int)=64:=nc;have hLi:(L:Int)=64:=nc;subst hce hLe;simp -implicitDefEqProofs only[go_sem,f3,f4,Zti,hLi];refine⟨⟨Wn,f3,j+1,op,0,ZU,?_,nc,?_,NV⟩,?_⟩
    .show Value.slice _ _ _=_;rw[show 64*(N-(j+1))=0 by omega]
    .rw[show 64*(N-(j+1))=0 by omega,bA (by rw[pl];omega)];exact (Yx.Eo 0 5 _ _).bs
    .simp only[iF,Zr,↓reduceIte,f4];omega
   .have Zln:(64:Int)<=(L:Int):=nc;simp -implicitDefEqProofs only[go_sem,f3,f4,Zlm,Zln,hce];refine⟨⟨Wn,f3,j+1,op+64,c-64,ZU,?_,nc,?_,NV⟩,?_⟩
    .show Value.slice _ _ _=_;rw[show L-64=64*(N-(j+1)) by omega]
    .have:=RH sP2 (k:=64) nc tT (c-64);rw[List.drop_drop,show L-64=64*(N-(j+1)) by omega,show 64*j+64=64*(j+1) by omega]at this;exact this
    .simp only[iF,Zr,↓reduceIte,f4];omega
  .obtain rfl:j=N:=nc;have eS:TH l=ZC (ae (T5 l) j):=by rw[TH,<-hN]
   obtain⟨dl,dw⟩:=MX (T5 l) j;obtain⟨D,hD⟩:=ZQ (ae (T5 l) j);rw[<-hD]at dl dw hgd eS;rw[eS];have r0:rd g ⟨h.size,0,aI⟩ 8=aa (D.map wv):=by rw[a7]at hgd;exact Zy hgd (by simp[dl])
   rw[cc,Nat.mul_zero]at f4;have hz:¬h.size=g.size:=nc;simp -implicitDefEqProofs only[go_sem,f3,f4,r0,hz];have hBo:Zk h.size h (g.push (S (Qf 32 [Value.int au 0]).toArray 5)):=hg.add _;have oO:Yx h.size 5 (g.push (S (Qf 32 [Value.int au 0]).toArray 5)) (Y (aa ⟨g.size,0,aI⟩) 0 32) (ZC (D.take 0)):=
    ⟨.inr ⟨g.size,32,Qf 32 [Value.int au 0],hg.size,rfl,Zc,rfl,rfl,Nat.zero_le 32⟩,fun x hx=>by cases hx⟩
   refine VS.Yj (fun F g=>Zk h.size h g/\F 43=bk (D.map wv).toArray/\∃i:Nat,i<=8/\F 44=R O i/\Yx h.size 5 g (F 6) (ZC (D.take i)))
    (fun F _=>8-(vi (F 44)).toNat) rfl ⟨hBo,rfl,0,nc,rfl,oO⟩ ?_
   clear f3 f4 ZU hgd r0 hz hBo oO sP hc hg PU g F;rintro F g ⟨hg,f43,i,hi,f44,ho⟩;have PU:=hg.size;by_cases ZU:i<8
   .have Z8:(i:Int)<8:=nc;obtain⟨x,hx⟩:=ZQ (D.getD i 0);have hxb:x<4294967296:=by rw[hx];exact dw.getD i
    have et:D.take (i+1)=D.take i++[x]:=by
     rw[Y2 _ i nc,hx,aw,bc nc];rfl
    obtain⟨yx,qf⟩:∃y:Int,y=(x:Int):=⟨_,rfl⟩
    obtain⟨z0,BV⟩:∃y:Int,y=((x/16777216%256:Nat):Int):=⟨_,rfl⟩
    obtain⟨z1,CL⟩:∃y:Int,y=((x/65536%256:Nat):Int):=⟨_,rfl⟩
    obtain⟨z2,ig⟩:∃y:Int,y=((x/256%256:Nat):Int):=⟨_,rfl⟩
    obtain⟨z3,hz3⟩:∃y:Int,y=((x%256:Nat):Int):=⟨_,rfl⟩
    have n1:nth (D.map wv) i=aa (R Z yx):=by
     rw[YR,cy,qf,hx,aw,bc nc];rfl
    have e1:Unit->Xx Z yx 24%256=z0:=fun _=>by rw[qf,BV,show (24:Int)=((24:Nat):Int) from rfl,WQ x 24 aaa];rfl
    have e2:Unit->Xx Z yx 16%256=z1:=fun _=>by rw[qf,CL,show (16:Int)=((16:Nat):Int) from rfl,WQ x 16 aaa];rfl
    have e3:Unit->Xx Z yx 8%256=z2:=fun _=>by rw[qf,ig,show (8:Int)=((8:Nat):Int) from rfl,WQ x 8 aaa];rfl
    have e4:Unit->yx%256=z3:=fun _=>by rw[qf,hz3];rfl
    have JZ:(ZC (D.take i)).length<=32:=by rw[ZM,a8];omega
    clear qf hx;simp -implicitDefEqProofs only[go_sem,f43,f44,Z8,n1,e1 (),e2 (),e3 (),e4 ()];subst BV CL ig hz3;refine ZK (E:=5) (B:=h.size) Xg a4 Ti T4 T3 (ho.push _) KQ (Bs.made (l:=Xl x) (UF x) 4) (by simp[Xl];omega) ?_;intro w' g' NM Qa _;simp -implicitDefEqProofs only[go_sem,f43,f44];refine⟨⟨(hg.add _).trans Qa,f43,i+1,ZU,rfl,?_⟩,?_⟩
    .rw[et];unfold ZC at NM ⊢;rw[ct];simp only[cB,cR,a7];exact NM
    .simp only[vi,Zr,↓reduceIte,f44];omega
   .have Xp:¬(i:Int)<8:=nc;obtain rfl:i=8:=nc;rw[bo nc]at ho;simp -implicitDefEqProofs only[go_sem,f43,f44,Xp];exact⟨ho,hg⟩
def RJ(n:Nat):Int:=if 2000<n then 1 else 0
def yd(B:Nat)(h':Hp)(v':a5)(l:List Nat):Prop:=∃w,v'=.tuple [w,R O (RJ (J l))].toArray/\Yx B 5 h' w (if RJ (J l)=0 then TH l else [])
theorem Kl(T:bz)(h:Hp)(v:a5)(l:List Nat)(s:Bs h v l)(tk:Tk h):
  Zd bl T 41 #[v] h fun v' h'=>yd h.size h' v' l/\Zk h.size h h':=by
 obtain⟨p,cp,rfl,Wr⟩:=s.open;refine Zd.XS [_] Tryz.func41 ?_;unfold yd RJ;by_cases hl:2000<(J l)
 .have dX:2000<((J l):Int):=nc;simp -implicitDefEqProofs only[go_sem,dX,hl];exact⟨_,rfl,Yx.nil _ _ _⟩
 .have dX:¬2000<((J l):Int):=nc;simp -implicitDefEqProofs only[go_sem,dX,hl];refine (Bi T _ _ l s nc tk).use ?_;rintro w h1 ⟨o1,b1⟩;simp -implicitDefEqProofs only[go_sem,b1];exact⟨_,rfl,o1⟩
def Lp(body:List Nat):List Nat:=(J body) :: body
def YS(body:List Nat):List Nat:=Lp body++(TH (Lp body)).take 4
theorem UT(body:List Nat):(Lp body).length=(J body)+1:=rfl
theorem Vg(body:List Nat):(YS body).length=(J body)+5:=by
 rw[YS,a6,a8,Qj,UT];omega
def YW(l:List Nat)(n:Int):Prop:=(J l)<=100000/\0<=n/\n<=(J l)
instance (l:List Nat)(n:Int):Decidable (YW l n):=by unfold YW;infer_instance
def Qt(l:List Nat)(n:Int)(k:Nat):Int:=if ¬YW l n then 5 else if 100000<(J l)+(k+5) then 8 else 0
def RK(B:Nat)(h':Hp)(v':a5)(l:List Nat)(n:Int)(E:Int)(add:List Nat):Prop:=
 ∃w,v'=.tuple [bk [w,R O (if E=0 then n else 0)].toArray,R O E].toArray/\Yx B 5 h' w (if E=0 then l++add else [])
theorem Rt.ZgG{h g:Hp}{b:Nat}{o:Obj}(a:Rt (aa b) h g):Rt (aa b) h (g.setIfInBounds b o):=
 ⟨by rw[ck];exact a.size,fun k hk Y4=>by rw[be,if_neg (fun e=>Y4 (by rw[e])),a.block k hk Y4]⟩
theorem S8(T:bz)(h:Hp)(v u:a5)(n:Int)(l body:List Nat)(s:Bs h v l)(hl:(J l)<=140737488355328)(sb:Bs h u body)(hb:(J body)<=255)(tk:Tk h):
  Zd bl T 128 #[bk [v,R O n].toArray,u] h fun v' h'=>RK h.size h' v' l n (Qt l n (J body)) (YS body)/\Zk h.size h h':=by
 obtain⟨p,c,rfl,_⟩:=s.open;obtain⟨q,d,rfl,_⟩:=sb.open;refine Zd.XS [_,_] Tryz.func128 ?_;unfold RK;simp -implicitDefEqProofs only[go_sem];obtain⟨h0,Qn⟩:=ZQ ((h.push (S [Y p (J l) c,R O n].toArray 100)).push (S [Y aI 0 0,R O 0].toArray 100):Hp);have b0:Zk h.size h h0:=by rw[Qn];exact ((Zk.refl _ _).add _).add _
 have s0:h0.size=h.size+1+1:=by rw[Qn];simp
 have x0:h0[h.size+1]? = aa (S [Y aI 0 0,R O 0].toArray 100):=by
  rw[Qn,a9,if_pos Hg]
 rw[<-Qn];clear Qn;refine (UP T h0 _ n l (s.Yy b0) hl).use ?_;rintro _ h1 ⟨b1,o1⟩;have s1:=b1.size;by_cases ok:YW l n
 case neg=>
  have ee:Qt l n (J body)=5:=by unfold Qt;rw[if_pos ok]
  rw[if_neg (show ¬((J l)<=100000/\0<=n/\n<=(J l)) from ok)]at o1;subst o1;rw[ee];have x1:=b1.get nc x0;have y2:=Ye x1 0;have ZU:h.size+1<h1.size:=nc;have Y4:¬h.size+1=h1.size:=nc;simp -implicitDefEqProofs only[go_sem,y2,Y4,ZU];exact⟨⟨_,rfl,Yx.nil _ _ _⟩,((b0.trans (b1.mono nc)).Zt nc _).YU KQ _⟩
 have ee:Qt l n (J body)=if 100000<(J l)+((J body)+5) then 8 else 0:=by unfold Qt;rw[if_neg (fun hn=>hn ok)]
 rw[if_pos (show ((J l)<=100000/\0<=n/\n<=(J l)) from ok)]at o1;obtain⟨w,rfl,o1⟩:=o1;obtain⟨pw,cw,rfl,_⟩:=o1.open;have B1:=b0.trans (b1.mono nc);have x1:=b1.get nc x0;obtain⟨wZ,CA,hn1⟩:=ok;obtain⟨h2,VQ⟩:=ZQ (h1.push (S [Y pw (J l) cw,R O n].toArray 100):Hp);have b2:Zk h1.size h1 h2:=by rw[VQ];exact Zk.push (am _) _
 have s2:h2.size=h1.size+1:=by rw[VQ];simp
 have x6:h2[h1.size]? = aa (S [Y pw (J l) cw,R O n].toArray 100):=by rw[VQ];exact Zc
 have eb:((J body):Int)%256=((J body):Int):=nc;have e2:h1.push (S #[Value.slice pw (J l) cw,R O n] 100)=h2:=VQ.symm;simp -implicitDefEqProofs only[go_sem,eb];rw[e2];clear e2 VQ;rw[<-s2];have B2:=B1.trans (b2.mono B1.size);have o2:=o1.Yy b2 (am _);have Hr:∀x∈[(J body)],x<256:=by intro x hx;rw[List.mem_singleton.1 hx];omega
 have of0:Yx h2.size 5 (h2.push (S (([(J body)]:List Nat).map bv).toArray 5)) (Y (aa ⟨h2.size,0,aI⟩) 1 1) [(J body)]:=Yx.made Hr (am _);have bp:Zk h2.size h2 (h2.push (S (([(J body)]:List Nat).map bv).toArray 5)):=Zk.push (am _) _;refine ZK (E:=5) (B:=h2.size) Xg a4 Ti T4 T3 of0 Hg (sb.Yy (B2.trans (bp.mono nc))) KQ ?_;intro wf h3 of3 b3 _;have B3:Zk h2.size h2 h3:=bp.trans b3;have d8:=B2.trans (B3.mono nc);have Zlo:Yx h2.size 5 h3 wf (Lp body):=of3;clear of0 bp of3 b3;have fl:=UT body;have fsl:=Vg body;have efr:YS body=Lp body++(TH (Lp body)).take 4:=rfl;have shl:=Qj (Lp body);simp -implicitDefEqProofs only[go_sem];refine (Kl T h3 wf (Lp body) Zlo.bs (tk.Qx d8)).use ?_;rintro _ h4 ⟨⟨ws,rfl,os⟩,b4⟩;have e0:RJ (Lp body).length=0:=by unfold RJ;rw[if_neg nc]
 rw[e0,if_pos rfl]at os;rw[e0];generalize TH (Lp body)=SH at *;obtain⟨ps,cs,rfl,XE⟩:=os.open;have sS:=os.bs;obtain⟨p',c',hv,hh⟩:=sS.VA;simp only[Value.slice.injEq]at hv;obtain⟨rfl,_,rfl⟩:=hv;obtain⟨bb,ob,rfl,_⟩:=hh (by intro e;rw[e]at shl;cases shl);have s4:=Bs.NL sS (m:=4) nc cs;rw[shl]at XE ⊢;have h4c:(4:Int)<=(cs:Int):=nc;have GJ:¬cs=0:=nc;have of4:=Zlo.Yy b4 (am _);have s3:=B3.size;have s4s:=b4.size;have B4:Zk h2.size h2 h4:=B3.trans (b4.mono s3);simp -implicitDefEqProofs only[go_sem,h4c,GJ,cn,co];refine ZK (E:=5) (B:=h2.size) Xg a4 Ti T4 T3 of4 nc s4 (by rw[fl,a8];omega) ?_;intro wg h5 og b5 _;rw[<-efr]at og;have B5:Zk h2.size h2 h5:=B4.trans b5;have s5:=B5.size;have Bh5:=B2.trans (B5.mono nc);obtain⟨pg,cg,rfl,_⟩:=og.open;rw[fsl];have x65:=B5.get nc x6;have r65:V.hc h5 ⟨h1.size,0,aI⟩=aa (Y pw (J l) cw):=by rw[Zn x65];rfl
 have o5:=o2.Yy B5 (am _);have x15:h5[h.size+1]? = aa (S [Y aI 0 0,R O 0].toArray 100):=B5.get nc (b2.get nc x1);generalize YS body=FR at *;by_cases q:100000<(J l)+((J body)+5)
 .have q':100000<((J l):Int)+(((J body)+5:Nat):Int):=nc;have y2:=Ye x15 0;have ZU:h.size+1<h5.size:=nc;rw[if_pos q]at ee;rw[ee];simp -implicitDefEqProofs only[go_sem,r65,q',y2,ZU];exact⟨⟨_,rfl,Yx.nil _ _ _⟩,Bh5.Zt nc _⟩
 .have q':¬100000<((J l):Int)+(((J body)+5:Nat):Int):=nc;rw[if_neg q]at ee;rw[ee];simp -implicitDefEqProofs only[go_sem,r65,q'];have ogb:Bs h5 (Y pg ((J body)+5) cg) FR:=by rw[<-fsl];exact og.bs
  refine Uu (E:=5) (B:=h0.size) Xg a4 Ti T4 T3 o5 nc ogb nc ?_;intro wz h6 oz b6 bt6 bk6;have s6:=b6.size;have hU:∀b,Yf (Value.slice pw (J l) cw)=aa b->b<h1.size:=o1.Zq.lt;have x66:h6[h1.size]? = aa (S [Y pw (J l) cw,R O n].toArray 100):=by
   rw[bt6.block _ nc (fun e=>by have:=hU _ e;omega)];exact x65
  have x16:h6[h.size+1]? = aa (S [Y aI 0 0,R O 0].toArray 100):=b6.get nc x15;obtain⟨pz,cz,hwz,_⟩:=oz.open;have zl:(l++FR).length=(J l)+((J body)+5):=by rw[a6,fsl]
  rw[zl]at hwz;subst hwz;have w66:=Xe (v:=Y pz ((J l)+((J body)+5)) cz) x66 (o:=0);obtain⟨h7,hh7⟩:=ZQ (h6.setIfInBounds h1.size (S [Y pz ((J l)+((J body)+5)) cz,R O n].toArray 100):Hp);have Ztl:QP h6 ⟨h1.size,0,aI⟩ (Y pz ((J l)+((J body)+5)) cz)=aa h7:=by rw[w66,if_pos ⟨Hg,rfl⟩,hh7];rfl
  have b7:Rt (aa h1.size) h6 h7:=by rw[hh7];exact Rt.ZgG Rt.refl
  have x77:h7[h1.size]? = aa (S [Y pz ((J l)+((J body)+5)) cz,R O n].toArray 100):=by rw[hh7,be,if_pos rfl,if_pos nc]
  have x17:h7[h.size+1]? = aa (S [Y aI 0 0,R O 0].toArray 100):=by
   rw[b7.block _ nc (fun e=>by have:=Option.some.inj e;omega)];exact x16
  have oz7:=oz.kI b7 (fun b hb e=>by
   have e':=Option.some.inj e;rcases bk6 b hb with g1|g1
   .have:=hU b g1;omega
   .omega)
  have r77:rd h7 ⟨h1.size,0,aI⟩ 2=aa [Y pz ((J l)+((J body)+5)) cz,R O n]:=Zy x77 rfl;have y7:=Ye x17 0;have GW:h.size+1<h7.size:=Za x17;have Aa:Zk h.size h h6:=Bh5.trans (b6.mono nc);have Ed:Zk h.size h h7:=Aa.trans (b7.Yy nc (fun b e=>by have:=Option.some.inj e;omega));clear hh7 w66;simp -implicitDefEqProofs only[go_sem,Ztl,r77,y7,GW];refine⟨⟨_,rfl,?_⟩,Ed.Zt nc _⟩;exact (oz7.Ya nc _).mono nc
theorem V0(g:Hp)(ns:List Nat):NT (g.push (S (ns.map nv).toArray 3)) (Y (aa ⟨g.size,0,aI⟩) (J ns) (J ns)) ns:=by
 constructor
 rw[Te nv];exact Sl.made Hg _
theorem S9(T:bz)(h:Hp)(u:a5)(ns:List Nat)(s:NT h u ns)(hl:(J ns)<=100)(hb:∀x∈ns,x<=1073741824):
  Zd bl T 129 #[u] h fun v' h'=>Yx h.size 5 h' v' (ZC ns)/\Zk h.size h h':=by
 obtain⟨p,c,rfl,XE⟩:=Zb8 s;refine Zd.XS [_] Tryz.func129 ?_;simp -implicitDefEqProofs only[go_sem];refine VS.Yj (fun F g=>Zk h.size h g/\F 6=Y p (J ns) c/\F 7=R O (J ns)/\∃i:Nat,i<=(J ns)/\F 8=R O i/\Yx h.size 5 g (F 3) (ZC (ns.take i)))
  (fun F _=>(J ns)-(vi (F 8)).toNat) rfl ⟨Zk.refl _ _,rfl,rfl,0,nc,rfl,Yx.nil _ _ _⟩ ?_
 rintro F g ⟨hg,f6,f7,i,hi,f8,ho⟩;have PU:=hg.size;by_cases ZU:i<(J ns)
 .have Z8:(i:Int)<(J ns):=nc;obtain⟨b,o,rfl,tF,XE⟩:=XE (by intro e;rw[e]at ZU;simp at ZU);have n1:V.hc g ⟨b,o+i,aI⟩=aa (R O (ns.getD i 0:Nat)):=by rw[hg.hc (by exact tF)];exact XE i ZU
  have et:ns.take (i+1)=ns.take i++[ns.getD i 0]:=by
   rw[Y2 _ i ZU,aw,bc ZU];rfl
  have hx:ns.getD i 0<=1073741824:=by
   rw[aw,bc ZU];exact hb _ (List.getElem_mem ZU)
  generalize ns.getD i 0=x at *;obtain⟨yx,qf⟩:∃y:Int,y=(x:Int):=⟨_,rfl⟩
  obtain⟨z0,BV⟩:∃y:Int,y=((x/16777216%256:Nat):Int):=⟨_,rfl⟩
  obtain⟨z1,CL⟩:∃y:Int,y=((x/65536%256:Nat):Int):=⟨_,rfl⟩
  obtain⟨z2,ig⟩:∃y:Int,y=((x/256%256:Nat):Int):=⟨_,rfl⟩
  obtain⟨z3,hz3⟩:∃y:Int,y=((x%256:Nat):Int):=⟨_,rfl⟩
  rw[<-qf]at n1;have e1:Unit->Xx O yx 24%256=z0:=fun _=>by rw[qf,BV,show (24:Int)=((24:Nat):Int) from rfl,Uh x 24 aaa];rfl
  have e2:Unit->Xx O yx 16%256=z1:=fun _=>by rw[qf,CL,show (16:Int)=((16:Nat):Int) from rfl,Uh x 16 aaa];rfl
  have e3:Unit->Xx O yx 8%256=z2:=fun _=>by rw[qf,ig,show (8:Int)=((8:Nat):Int) from rfl,Uh x 8 aaa];rfl
  have e4:Unit->yx%256=z3:=fun _=>by rw[qf,hz3];rfl
  have JZ:(ZC (ns.take i)).length<=400:=by rw[ZM,a8];omega
  clear qf;simp -implicitDefEqProofs only[go_sem,f6,f7,f8,Z8,n1,e1 (),e2 (),e3 (),e4 ()];subst BV CL ig hz3;refine ZK (E:=5) (B:=h.size) Xg a4 Ti T4 T3 (ho.push _) KQ (Bs.made (l:=Xl x) (UF x) 4) (by simp[Xl];omega) ?_;intro w' g' NM Qa _;simp -implicitDefEqProofs only[go_sem,f6,f7,f8];refine⟨⟨(hg.add _).trans Qa,f6,f7,i+1,ZU,rfl,?_⟩,?_⟩
  .rw[et];unfold ZC at NM ⊢;rw[ct];simp only[cB,cR,a7];exact NM
  .simp only[vi,Zr,↓reduceIte,f8];omega
 .have Xp:¬(i:Int)<(J ns):=nc;obtain rfl:i=(J ns):=nc;rw[List.take_length]at ho;simp -implicitDefEqProofs only[go_sem,f6,f7,f8,Xp];exact⟨ho,hg⟩
def Ji(l:List Nat)(n:Int)(b:Yw):Int:=if ¬YW l n then 5 else if ¬ZF b then 2 else Qt l n 9
def JL(b:Yw):List Nat:=1 :: ZC [b.r.toNat,b.n.toNat]
theorem iG(b:Yw):YG ⟨0,0⟩ [] b=if ZF b then 0 else 2:=by
 have e:Jy ⟨0,0⟩ []=0:=rfl;unfold YG;rw[if_neg (by rw[e];decide)];by_cases q:ZF b
 .rw[if_neg (fun hn=>hn q),if_pos q,if_neg];intro hb;have q1:=q.1.1;rcases hb with hb|⟨hb,_⟩<;>simp at hb<;>omega
 .rw[if_pos q,if_neg q]
theorem Ix(T:bz)(h:Hp)(v:a5)(n:Int)(l:List Nat)(b:Yw)(s:Bs h v l)(hl:(J l)<=140737488355328)(tk:Tk h):
  Zd bl T 107 #[bk [v,R O n].toArray,bk (Qz b).toArray] h fun v' h'=>RK h.size h' v' l n (Ji l n b) (YS (JL b))/\Zk h.size h h':=by
 obtain⟨p,c,rfl,_⟩:=s.open;refine Zd.XS [_,_] Tryz.func107 ?_;unfold RK Qz;simp -implicitDefEqProofs only[go_sem];obtain⟨h0,Qn⟩:=ZQ (((h.push (S [Y p (J l) c,R O n].toArray 100)).push (S [R O b.r,R O b.n].toArray 102)).push (S [Y aI 0 0,R O 0].toArray 100):Hp);have b0:Zk h.size h h0:=by rw[Qn];exact (((Zk.refl _ _).add _).add _).add _
 have s0:h0.size=h.size+3:=by rw[Qn];simp
 have t0:h0[h.size]? = aa (S [Y p (J l) c,R O n].toArray 100):=by
  rw[Qn,a9,if_neg KQ,a9,if_neg Hg,Zc]
 have t1:h0[h.size+1]? = aa (S [R O b.r,R O b.n].toArray 102):=by
  rw[Qn,a9,if_neg Hg,a9,if_pos Hg]
 have x0:h0[h.size+2]? = aa (S [Y aI 0 0,R O 0].toArray 100):=by
  rw[Qn,a9,if_pos Hg]
 rw[<-Qn];clear Qn;refine (UP T h0 _ n l (s.Yy b0) hl).use ?_;rintro _ h1 ⟨b1,o1⟩;have s1:=b1.size;have B1:Zk h.size h h1:=b0.trans (b1.mono nc);have x1:=b1.get nc x0;by_cases ok:YW l n
 case neg=>
  have ee:Ji l n b=5:=by unfold Ji;rw[if_pos ok]
  rw[if_neg (show ¬((J l)<=100000/\0<=n/\n<=(J l)) from ok)]at o1;subst o1;rw[ee];have y2:=Ye x1 0;have ZU:h.size+2<h1.size:=nc;have Y4:¬h.size+2=h1.size:=nc;simp -implicitDefEqProofs only[go_sem,y2,Y4,ZU];exact⟨⟨_,rfl,Yx.nil _ _ _⟩,(B1.Zt nc _).YU KQ _⟩
 rw[if_pos (show ((J l)<=100000/\0<=n/\n<=(J l)) from ok)]at o1;obtain⟨w,rfl,o1⟩:=o1;obtain⟨pw,cw,rfl,_⟩:=o1.open;have bt1:=b1.get nc t1;have r1:rd h1 ⟨h.size+1,0,aI⟩ 2=aa [R O b.r,R O b.n]:=Zy bt1 rfl;have aU:¬h.size+1=h1.size:=nc;simp -implicitDefEqProofs only[go_sem,r1,aU];have b2:Zk h1.size h1 (h1.push (S [Y pw (J l) cw,R O n].toArray 100)):=Zk.push (am _) _;refine (RF T _ ⟨0,0⟩ (Y aI 0 0) [] b (Qv.nil 0 133 Zv 8 _).ts Hg).use ?_;rintro _ h3 ⟨⟨w1,w2,rfl,q1,q2⟩,b3⟩;simp only[ite_self]at q1;have B3:Zk h1.size h1 h3:=b2.trans (b3.mono b2.size);rw[iG];obtain⟨p1,c1,hU,_⟩:=q1.open;have s3:=B3.size;have x3:=B3.get nc x1;have d8:=B1.trans (B3.mono nc);by_cases may:ZF b
 case neg=>
  have ee:Ji l n b=2:=by unfold Ji;rw[if_neg (fun hn=>hn ok),if_pos may]
  rw[ee,if_neg may];obtain⟨w1',ZFj⟩:∃w,w=w1:=⟨_,rfl⟩
  subst hU;have y2:=Ye x3 0;have ZU:h.size+2<h3.size:=nc;have Y4:¬h.size+2=h3.size:=nc;unfold Xu;simp -implicitDefEqProofs only[go_sem,y2,Y4,ZU];exact⟨⟨_,rfl,Yx.nil _ _ _⟩,(d8.Zt nc _).YU KQ _⟩
 have ee:Ji l n b=Qt l n 9:=by unfold Ji;rw[if_neg (fun hn=>hn ok),if_neg (fun hn=>hn may)]
 rw[ee,if_pos may];obtain⟨⟨m1,m2⟩,m3,m4⟩:=may;obtain⟨br,bn⟩:=b;obtain⟨r,rfl⟩:∃r:Nat,br=r:=⟨br.toNat,by simp at m1;omega⟩
 obtain⟨m,rfl⟩:∃m:Nat,bn=m:=⟨bn.toNat,by simp at m3;omega⟩
 simp only at m1 m2 m3 m4;unfold JL;simp only[ch];subst hU;unfold Xu;have t3:=B3.get nc (b1.get nc t0);have t13:=B3.get nc bt1;obtain⟨g,hg⟩:=ZQ (h3.push (S [R O (r:Nat),R O (m:Nat),Y p1 ([]:List Vt).length c1].toArray 105):Hp);simp -implicitDefEqProofs only[go_sem];have e3:h3.push (S #[Value.int O (r:Nat),R O (m:Nat),Y p1 0 c1] 105)=g:=hg.symm;rw[e3];have bg:Zk h3.size h3 g:=by rw[hg];exact Zk.push (am _) _
 have sg:g.size=h3.size+1:=by rw[hg];simp
 clear e3 hg;have Bg:Zk h.size h g:=d8.trans (bg.mono nc);have x4g:=bg.get nc x3;have t4:=bg.get nc t3;have t14:=bg.get nc t13;have r0:rd g ⟨h.size,0,aI⟩ 2=aa [Y p (J l) c,R O n]:=Zy t4 rfl;have c0:V.hc g ⟨h.size+1,0,aI⟩=aa (R O (r:Nat)):=by rw[Zn t14];rfl
 have c1':V.hc g ⟨h.size+1,1,aI⟩=aa (R O (m:Nat)):=by rw[Zn t14];rfl
 have k0:h.size<g.size:=nc;have k1:h.size+1<g.size:=nc;refine VS.w (g.size) [12,13] (.q 0 (.q 2 (.q 3 (.q 4 (.q 5 (.or 1 (.s 6 (.s 7 (.s 8 (.s 9 (.q 10 (.q 11 (.w 12 (.w 13 .nil)))))))) (.s 6 (.or 1 (.s 7 (.s 8 (.s 9 (.q 10 (.q 11 (.w 12 (.w 13 .nil))))))) (.s 7 (.s 1 (.s 8 (.s 9 (.q 10 (.q 11 (.w 12 (.w 13 .nil)))))))))))))))) mixed uf ?_;simp -implicitDefEqProofs only[go_sem,r0,c0,c1',k0,k1];refine⟨?_,?_,?_⟩
 .have o0:Yx g.size 5 (g.push (S (([1]:List Nat).map bv).toArray 5)) (Y (aa ⟨g.size,0,aI⟩) 1 1) [1]:=Yx.made aaa (am _);have B0:Zk g.size g ((g.push (S (([1]:List Nat).map bv).toArray 5)).push (S (([r,m]:List Nat).map nv).toArray 3)):=(Zk.push (am _) _).YU Hg _;have o00:=o0.push (S (([r,m]:List Nat).map nv).toArray 3);have si:NT ((g.push (S (([1]:List Nat).map bv).toArray 5)).push (S (([r,m]:List Nat).map nv).toArray 3)) (Y (aa ⟨(g.push (S (([1]:List Nat).map bv).toArray 5)).size,0,aI⟩) 2 2) [r,m]:=V0 _ _;have e1:(g.push (S (([1]:List Nat).map bv).toArray 5)).size=g.size+1:=Hg;rw[e1]at si;refine (S9 T _ _ [r,m] si Hg (by intro x hx;simp only[bT,bS,or_false]at hx;omega)).use ?_;rintro w5 h5 ⟨o5,b5⟩;have BB:=B0.trans (b5.mono B0.size);have o1:=o00.Yy b5 (am _);have s4:=o5.bs;simp -implicitDefEqProofs only[go_sem,BB];refine ZK (E:=5) (B:=g.size) Xg a4 Ti T4 T3 o1 BB.size s4 (by rw[ZM];simp) ?_;intro w6 h6 o6 b6 _;have B6:Zk g.size g h6:=BB.trans b6;have Aa:=Bg.trans (B6.mono nc);have ye:Yx g.size 5 h6 w6 (1 :: ZC [r,m]):=o6;simp -implicitDefEqProofs only[go_sem,B6];refine (S8 T h6 _ w6 n l (1 :: ZC [r,m]) (s.Yy Aa) hl ye.bs (by simp only[bx,ZM,bB];omega) (tk.Qx Aa)).use ?_;rintro _ h7 ⟨⟨w7,rfl,o7⟩,b7⟩;have el:(1 :: ZC [r,m]).length=9:=by simp only[bx,ZM,bB]
  rw[el]at o7 ⊢;have B7:Zk g.size g h7:=B6.trans (b7.mono B6.size);have Ed:=Aa.trans (b7.mono Aa.size);have x7:=B7.get nc x4g;have y7:=Ye x7 0;have GW:h.size+2<h7.size:=Za x7;generalize YS (1 :: ZC [r,m])=FR at *;obtain⟨E,hE⟩:=ZQ (Qt l n 9);rw[<-hE]at o7 ⊢;obtain⟨z,hz⟩:∃z:Int,z=if E=0 then n else 0:=⟨_,rfl⟩
  rw[<-hz];obtain⟨pz,cz,rfl,_⟩:=o7.open;have o7l:=o7;simp -implicitDefEqProofs only[go_sem,B7,y7,GW];refine⟨⟨_,rfl,?_⟩,Ed.Zt nc _⟩;exact (o7.Ya (by have:=B6.size;omega) _).mono (by have:=B6.size;omega)
 .have B0a:Zk g.size g (g.push (S (([r,m]:List Nat).map nv).toArray 3)):=Zk.push (am _) _;have o0:Yx g.size 5 ((g.push (S (([r,m]:List Nat).map nv).toArray 3)).push (S (([1]:List Nat).map bv).toArray 5)) (Y (aa ⟨(g.push (S (([r,m]:List Nat).map nv).toArray 3)).size,0,aI⟩) 1 1) [1]:=(Yx.made aaa (am _)).mono Hg;have B0:Zk g.size g ((g.push (S (([r,m]:List Nat).map nv).toArray 3)).push (S (([1]:List Nat).map bv).toArray 5)):=B0a.YU Hg _;have si0:NT (g.push (S (([r,m]:List Nat).map nv).toArray 3)) (Y (aa ⟨g.size,0,aI⟩) 2 2) [r,m]:=V0 _ _;have si:=si0.Yy (Zk.push (am _) (S (([1]:List Nat).map bv).toArray 5));have e1:(g.push (S (([r,m]:List Nat).map nv).toArray 3)).size=g.size+1:=Hg;rw[e1]at o0;refine (S9 T _ _ [r,m] si Hg (by intro x hx;simp only[bT,bS,or_false]at hx;omega)).use ?_;rintro w5 h5 ⟨o5,b5⟩;have BB:=B0.trans (b5.mono B0.size);have o1:=o0.Yy b5 (am _);have s4:=o5.bs;simp -implicitDefEqProofs only[go_sem,BB];refine ZK (E:=5) (B:=g.size) Xg a4 Ti T4 T3 o1 BB.size s4 (by rw[ZM];simp) ?_;intro w6 h6 o6 b6 _;have B6:Zk g.size g h6:=BB.trans b6;have Aa:=Bg.trans (B6.mono nc);have ye:Yx g.size 5 h6 w6 (1 :: ZC [r,m]):=o6;simp -implicitDefEqProofs only[go_sem,B6];refine (S8 T h6 _ w6 n l (1 :: ZC [r,m]) (s.Yy Aa) hl ye.bs (by simp only[bx,ZM,bB];omega) (tk.Qx Aa)).use ?_;rintro _ h7 ⟨⟨w7,rfl,o7⟩,b7⟩;have el:(1 :: ZC [r,m]).length=9:=by simp only[bx,ZM,bB]
  rw[el]at o7 ⊢;have B7:Zk g.size g h7:=B6.trans (b7.mono B6.size);have Ed:=Aa.trans (b7.mono Aa.size);have x7:=B7.get nc x4g;have y7:=Ye x7 0;have GW:h.size+2<h7.size:=Za x7;generalize YS (1 :: ZC [r,m])=FR at *;obtain⟨E,hE⟩:=ZQ (Qt l n 9);rw[<-hE]at o7 ⊢;obtain⟨z,hz⟩:∃z:Int,z=if E=0 then n else 0:=⟨_,rfl⟩
  rw[<-hz];obtain⟨pz,cz,rfl,_⟩:=o7.open;have o7l:=o7;simp -implicitDefEqProofs only[go_sem,B7,y7,GW];refine⟨⟨_,rfl,?_⟩,Ed.Zt nc _⟩;exact (o7.Ya (by have:=B6.size;omega) _).mono (by have:=B6.size;omega)
 .have B0a:Zk g.size g (g.push (S (([r,m]:List Nat).map nv).toArray 3)):=Zk.push (am _) _;have si:NT (g.push (S (([r,m]:List Nat).map nv).toArray 3)) (Y (aa ⟨g.size,0,aI⟩) 2 2) [r,m]:=V0 _ _;refine (S9 T _ _ [r,m] si Hg (by intro x hx;simp only[bT,bS,or_false]at hx;omega)).use ?_;rintro w5 h5 ⟨o5,b5⟩;have BB5:=B0a.trans (b5.mono B0a.size);have BB:Zk g.size g (h5.push (S (([1]:List Nat).map bv).toArray 5)):=BB5.YU BB5.size _;have o1:Yx g.size 5 (h5.push (S (([1]:List Nat).map bv).toArray 5)) (Y (aa ⟨h5.size,0,aI⟩) 1 1) [1]:=(Yx.made aaa (am _)).mono BB5.size;have s4:=o5.bs.Yy (Zk.push (am h5.size) (S (([1]:List Nat).map bv).toArray 5));simp -implicitDefEqProofs only[go_sem,BB5,BB];refine ZK (E:=5) (B:=g.size) Xg a4 Ti T4 T3 o1 BB.size s4 (by rw[ZM];simp) ?_;intro w6 h6 o6 b6 _;have B6:Zk g.size g h6:=BB.trans b6;have Aa:=Bg.trans (B6.mono nc);have ye:Yx g.size 5 h6 w6 (1 :: ZC [r,m]):=o6;simp -implicitDefEqProofs only[go_sem,B6];refine (S8 T h6 _ w6 n l (1 :: ZC [r,m]) (s.Yy Aa) hl ye.bs (by simp only[bx,ZM,bB];omega) (tk.Qx Aa)).use ?_;rintro _ h7 ⟨⟨w7,rfl,o7⟩,b7⟩;have el:(1 :: ZC [r,m]).length=9:=by simp only[bx,ZM,bB]
  rw[el]at o7 ⊢;have B7:Zk g.size g h7:=B6.trans (b7.mono B6.size);have Ed:=Aa.trans (b7.mono Aa.size);have x7:=B7.get nc x4g;have y7:=Ye x7 0;have GW:h.size+2<h7.size:=Za x7;generalize YS (1 :: ZC [r,m])=FR at *;obtain⟨E,hE⟩:=ZQ (Qt l n 9);rw[<-hE]at o7 ⊢;obtain⟨z,hz⟩:∃z:Int,z=if E=0 then n else 0:=⟨_,rfl⟩
  rw[<-hz];obtain⟨pz,cz,rfl,_⟩:=o7.open;have o7l:=o7;simp -implicitDefEqProofs only[go_sem,B7,y7,GW];refine⟨⟨_,rfl,?_⟩,Ed.Zt nc _⟩;exact (o7.Ya (by have:=B6.size;omega) _).mono (by have:=B6.size;omega)
theorem Sf(n:Nat):Qf n [Value.int au 0]=(bw n 0).map bv:=by
 induction n with
 | zero=>rfl
 | succ n ih=>rw[Qf,ih];rfl
theorem GX:∀(vs zs:List a5),(J vs)<=(J zs)->Y9 zs 0 vs=vs++zs.drop (J vs)
 | [],zs,_=>by cases zs<;>rfl
 | v :: vs,[],h=>by simp at h
 | v :: vs,z :: zs,h=>by
  rw[Y9,GX vs zs (by simpa using h)];rfl
theorem aV(key:List Nat):Y9 ((bw 64 0).map bv) 0 (((N0 key).map bv).take (min (N0 key).length 64))=(VN key).map bv:=by
 have:=T6 key;rw[b9 this,bo Hg,GX _ _ KQ,List.length_map,<-List.map_drop,List.drop_replicate,VN,List.map_append]
theorem yf(T:bz)(h:Hp)(v:a5)(key:List Nat)(w:Nat)(s:Bs h v key)(hk:(J key)<=100000)(hw:w<256)(tk:Tk h):
  Zd bl T 59 #[v,R au w] h fun v' h'=>Yx h.size 5 h' v' (TJ key w)/\Zk h.size h h':=by
 obtain⟨p,cp,rfl,Wr⟩:=s.open;have qd:O9 key:=s.byte;refine Zd.XS [_,_] Tryz.func59 ?_;by_cases e64:64<(J key)
 .have ZgI:64<((J key):Int):=nc;have hK:TH key=N0 key:=by unfold N0;rw[if_pos e64]
  simp -implicitDefEqProofs only[go_sem,ZgI];refine (Bi T _ _ key s hk tk).use ?_;rintro u g ⟨ou,bg⟩;have su:=ou.bs;rw[hK]at su;simp -implicitDefEqProofs only[go_sem];have hG:Zk h.size h (g.push (S (Qf 64 [Value.int au 0]).toArray 5)):=bg.add _;have sK':=su.Yy (Zk.push (am g.size) (S (Qf 64 [Value.int au 0]).toArray 5));have kl:=T6 key;refine Gn (o:=0) (dl:=64) (dc:=64) (c:=Qf 64 [Value.int au 0]) (E':=5) Xg Ti Zc sK'.sl (Rw _) (by rw[Sf];simp;omega) ?_;rw[QT,Sf,aV];have kY:Zk h.size h (g.push (S ((VN key).map bv).toArray 5)):=bg.add _;have Pq:(g.push (S ((VN key).map bv).toArray 5))[g.size]? = aa (S (((TJ key w).take 0++(VN key).drop 0).map bv++[]).toArray 5):=by
   rw[cd,cr,b8,a7];exact Zc
  simp -implicitDefEqProofs only[go_sem];refine VS.Yj (fun F' g'=>Zk h.size h g'/\F' 1=R au w/\F' 5=Y (aa ⟨g.size,0,aI⟩) 64 64/\F' 17=R O 64/\∃i:Nat,i<=64/\F' 18=R O i/\g'[g.size]? = aa (S (((TJ key w).take i++(VN key).drop i).map bv++[]).toArray 5))
   (fun F _=>64-(vi (F 18)).toNat) rfl ⟨kY,rfl,rfl,rfl,0,nc,rfl,Pq⟩ ?_
  clear hG kY Pq sK';rintro F g' ⟨hg,f1,f5,f17,i,hi,f18,hx⟩;have PU:=Za hx;have hfl:((TJ key w).take i++(VN key).drop i).length=64:=by rw[a6,a8,bR,Yq,Qk];omega
  by_cases ZU:i<64
  .have Z8:(i:Int)<64:=nc;have q1:=Z6 (f:=bv) hx (i:=i) nc;have e0:((TJ key w).take i++(VN key).drop i).getD i 0=(VN key).getD i 0:=by
    rw[aw,bG (by rw[a8,Yq];omega),a8,Yq,b9 nc,cc,cf,cA,<-aw]
   rw[e0]at q1;unfold bv at q1;have eX:=Dl key w ZU;have cs:=Yu (f:=bv) hx (i:=i) nc ((TJ key w).getD i 0) rfl;rw[Ma _ _ i (by rw[Yq];exact ZU) (by rw[Yq,Qk])]at cs;have hZb:=Z2 (Kd qd) i;have ox:Unit->YM .xor au (((VN key).getD i 0:Nat):Int) (w:Int)=(((TJ key w).getD i 0:Nat):Int):=fun _=>by rw[eX];exact Cp _ _ hZb hw
   have uo:QP g' ⟨g.size,i,aI⟩ (R au (((TJ key w).getD i 0:Nat):Int))=_:=cs;simp -implicitDefEqProofs only[go_sem,f1,f5,f17,f18,Z8,q1,ox (),uo];refine⟨⟨hg.Zt (bg.size) _,f1,f5,f17,i+1,ZU,rfl,Yd hx⟩,?_⟩;simp only[vi,Zr,↓reduceIte,f18];omega
  .have Xp:¬(i:Int)<64:=nc;obtain rfl:i=64:=nc;rw[bo (by rw[Yq];omega),bA (by rw[Qk];omega),a7,a7]at hx;simp -implicitDefEqProofs only[go_sem,f5,f17,f18,Xp];exact⟨⟨.inr ⟨g.size,64,[],bg.size,by rw[Yq],by rw[a7];exact hx,by simp[Yq],by rw[Yq];rfl,by rw[Yq];omega⟩,Dk qd hw⟩,hg⟩
 .have ZgI:¬64<((J key):Int):=nc;have hK:N0 key=key:=by unfold N0;rw[if_neg e64]
  have b0:=Zk.refl h.size h;have su:=s;have Km:Bs h (Y p (N0 key).length cp) (N0 key):=by rw[hK];exact s
  simp -implicitDefEqProofs only[go_sem,ZgI];have hG:Zk h.size h (h.push (S (Qf 64 [Value.int au 0]).toArray 5)):=b0.add _;have hkl:(J key)=(N0 key).length:=by rw[hK]
  rw[hkl];have sK':=Km.Yy (Zk.push (am h.size) (S (Qf 64 [Value.int au 0]).toArray 5));have kl:=T6 key;refine Gn (o:=0) (dl:=64) (dc:=64) (c:=Qf 64 [Value.int au 0]) (E':=5) Xg Ti Zc sK'.sl (Rw _) (by rw[Sf];simp;omega) ?_;rw[QT,Sf,aV];have kY:Zk h.size h (h.push (S ((VN key).map bv).toArray 5)):=b0.add _;have Pq:(h.push (S ((VN key).map bv).toArray 5))[h.size]? = aa (S (((TJ key w).take 0++(VN key).drop 0).map bv++[]).toArray 5):=by
   rw[cd,cr,b8,a7];exact Zc
  simp -implicitDefEqProofs only[go_sem];refine VS.Yj (fun F' g'=>Zk h.size h g'/\F' 1=R au w/\F' 5=Y (aa ⟨h.size,0,aI⟩) 64 64/\F' 17=R O 64/\∃i:Nat,i<=64/\F' 18=R O i/\g'[h.size]? = aa (S (((TJ key w).take i++(VN key).drop i).map bv++[]).toArray 5))
   (fun F _=>64-(vi (F 18)).toNat) rfl ⟨kY,rfl,rfl,rfl,0,nc,rfl,Pq⟩ ?_
  clear hG kY Pq sK';rintro F g' ⟨hg,f1,f5,f17,i,hi,f18,hx⟩;have PU:=Za hx;have hfl:((TJ key w).take i++(VN key).drop i).length=64:=by rw[a6,a8,bR,Yq,Qk];omega
  by_cases ZU:i<64
  .have Z8:(i:Int)<64:=nc;have q1:=Z6 (f:=bv) hx (i:=i) nc;have e0:((TJ key w).take i++(VN key).drop i).getD i 0=(VN key).getD i 0:=by
    rw[aw,bG (by rw[a8,Yq];omega),a8,Yq,b9 nc,cc,cf,cA,<-aw]
   rw[e0]at q1;unfold bv at q1;have eX:=Dl key w ZU;have cs:=Yu (f:=bv) hx (i:=i) nc ((TJ key w).getD i 0) rfl;rw[Ma _ _ i (by rw[Yq];exact ZU) (by rw[Yq,Qk])]at cs;have hZb:=Z2 (Kd qd) i;have ox:Unit->YM .xor au (((VN key).getD i 0:Nat):Int) (w:Int)=(((TJ key w).getD i 0:Nat):Int):=fun _=>by rw[eX];exact Cp _ _ hZb hw
   have uo:QP g' ⟨h.size,i,aI⟩ (R au (((TJ key w).getD i 0:Nat):Int))=_:=cs;simp -implicitDefEqProofs only[go_sem,f1,f5,f17,f18,Z8,q1,ox (),uo];refine⟨⟨hg.Zt (b0.size) _,f1,f5,f17,i+1,ZU,rfl,Yd hx⟩,?_⟩;simp only[vi,Zr,↓reduceIte,f18];omega
  .have Xp:¬(i:Int)<64:=nc;obtain rfl:i=64:=nc;rw[bo (by rw[Yq];omega),bA (by rw[Qk];omega),a7,a7]at hx;simp -implicitDefEqProofs only[go_sem,f5,f17,f18,Xp];exact⟨⟨.inr ⟨h.size,64,[],b0.size,by rw[Yq],by rw[a7];exact hx,by simp[Yq],by rw[Yq];rfl,by rw[Yq];omega⟩,Dk qd hw⟩,hg⟩
theorem iH(T:bz)(h:Hp)(v u:a5)(key b:List Nat)(s:Bs h v key)(sb:Bs h u b)(hk:(J key)<=10000)(hb:(J b)<=10000)(tk:Tk h):
  Zd bl T 44 #[v,u] h fun v' h'=>Yx h.size 5 h' v' (M3 key b)/\Zk h.size h h':=by
 have sb0:=sb;refine Zd.XS [_,_] Tryz.func44 ?_;simp -implicitDefEqProofs only[go_sem];refine (yf T h v key 92 s nc nc tk).use ?_;rintro v1 h1 ⟨o1,b1⟩;have s1:=b1.size;simp -implicitDefEqProofs only[go_sem];refine (yf T h1 v key 54 (s.Yy b1) nc nc (tk.Qx b1)).use ?_;rintro v2 h2 ⟨o2,b2⟩;have s2:=b2.size;have B2:=b1.trans (b2.mono s1);have o1':=o1.Yy b2 (am _);have l1:=Yq key 92;have l2:=Yq key 54;simp -implicitDefEqProofs only[go_sem];refine ZK (E:=5) (B:=h1.size) Xg a4 Ti T4 T3 o2 s2 (sb.Yy B2) (by rw[l2];omega) ?_;intro v3 h3 o3 b3 _;have s3:=b3.size;have B3:=B2.trans (b3.mono s1);have Ztp:=o1.Yy (b2.trans b3) (am _);simp -implicitDefEqProofs only[go_sem];refine (Bi T h3 v3 _ o3.bs (by rw[a6,l2];omega) (tk.Qx B3)).use ?_;rintro v4 h4 ⟨o4,b4⟩;have B4:=B3.trans (b4.mono nc);have o14:=Ztp.Yy b4 (am _);simp -implicitDefEqProofs only[go_sem];refine ZK (E:=5) (B:=h.size) Xg a4 Ti T4 T3 o14 B4.size o4.bs (by rw[l1,Qj];omega) ?_;intro v5 h5 o5 b5 _;have B5:=B4.trans b5;simp -implicitDefEqProofs only[go_sem];refine (Bi T h5 v5 _ o5.bs (by rw[a6,l1,Qj];omega) (tk.Qx B5)).use ?_;rintro v6 h6 ⟨o6,b6⟩;simp -implicitDefEqProofs only[go_sem];exact⟨o6.mono B5.size,B5.trans (b6.mono B5.size)⟩
def GY(m n:Nat):Int:=if 256<m\/2000<n then 1 else 0
def yg(B:Nat)(h':Hp)(v':a5)(key b:List Nat):Prop:=∃w,v'=.tuple [w,R O (GY (J key) (J b))].toArray/\Yx B 5 h' w (if GY (J key) (J b)=0 then M3 key b else [])
theorem qg(T:bz)(h:Hp)(v u:a5)(key b:List Nat)(s:Bs h v key)(sb:Bs h u b)(tk:Tk h):
  Zd bl T 43 #[v,u] h fun v' h'=>yg h.size h' v' key b/\Zk h.size h h':=by
 obtain⟨p,cp,rfl,Wr⟩:=s.open;obtain⟨q,cq,rfl,F9⟩:=sb.open;refine Zd.XS [_,_] Tryz.func43 ?_;unfold yg GY;by_cases e1:256<(J key)
 .have tU:256<((J key):Int):=nc;rw[if_pos (.inl e1)];simp -implicitDefEqProofs only[go_sem,tU];exact⟨_,rfl,Yx.nil _ _ _⟩
 .have tU:¬256<((J key):Int):=nc;by_cases e2:2000<(J b)
  .have e2':2000<((J b):Int):=nc;rw[if_pos (.inr e2)];simp -implicitDefEqProofs only[go_sem,tU,e2'];exact⟨_,rfl,Yx.nil _ _ _⟩
  .have e2':¬2000<((J b):Int):=nc;rw[if_neg nc];simp -implicitDefEqProofs only[go_sem,tU,e2'];refine (iH T _ _ _ key b s sb nc nc tk).use ?_;rintro w h1 ⟨o1,b1⟩;simp -implicitDefEqProofs only[go_sem,b1];exact⟨_,rfl,o1⟩
theorem aW(T:bz)(h:Hp)(v u:a5)(key b:List Nat)(s:Bs h v key)(sb:Bs h u b)(hk:(J key)<=256)(hb:(J b)<=2000)(tk:Tk h):
  Zd bl T 26 #[v,u] h fun v' h'=>(Bs h' v' ((M3 key b).take 16)/\Ph v')/\Zk h.size h h':=by
 refine Zd.XS [_,_] Tryz.func26 ?_;simp -implicitDefEqProofs only[go_sem];refine (qg T _ _ _ key b s sb tk).use ?_;rintro _ h1 ⟨⟨w,rfl,o1⟩,b1⟩;have e0:GY (J key) (J b)=0:=by unfold GY;rw[if_neg nc]
 rw[e0,if_pos rfl]at o1;rw[e0];have ml:=T7 key b;generalize M3 key b=M at *;obtain⟨p,c,rfl,hc⟩:=o1.open;have sM:=o1.bs;obtain⟨p',c',hv,hh⟩:=sM.VA;simp only[Value.slice.injEq]at hv;obtain⟨rfl,_,rfl⟩:=hv;obtain⟨bb,ob,rfl,_⟩:=hh (by intro e;rw[e]at ml;cases ml);have fin:=Bs.NL sM (m:=16) nc c;rw[ml]at hc ⊢;have h16:(16:Int)<=(c:Int):=nc;have kJ:¬c=0:=nc;simp -implicitDefEqProofs only[go_sem,h16,kJ,cn,co,b1];exact⟨fin,show 16<=c by omega⟩
def aX(c r u:Nat):List Nat:=[c,r]++Xl u
def Ra(key:List Nat)(c r u:Nat):List Nat:=aX c r u++(M3 key (aX c r u)).take 16
theorem Iy(c r u:Nat):(aX c r u).length=6:=rfl
theorem Qo(key:List Nat)(c r u:Nat):(Ra key c r u).length=22:=by
 rw[Ra,a6,Iy,a8,T7];rfl
def Vw(kl:Nat)(c r u:Int):Int:=if kl≠32 then 1 else JG c r u
def iI(B:Nat)(h':Hp)(v':a5)(key:List Nat)(c r u:Int):Prop:=∃w,v'=.tuple [w,R O (Vw (J key) c r u)].toArray/\Yx B 5 h' w (if Vw (J key) c r u=0 then Ra key c.toNat r.toNat u.toNat else [])
theorem aY{c r u:Int}(h:JG c r u=0):∃c' r' u':Nat,c=c'/\r=r'/\u=u'/\c'<8/\r'<8/\u'<=1048576:=by
 unfold JG at h;split at h
 .cases h
 .exact⟨c.toNat,r.toNat,u.toNat,nc,nc,nc,nc,nc,nc⟩
theorem yh(T:bz)(h:Hp)(v:a5)(key:List Nat)(c r u:Int)(s:Bs h v key)(tk:Tk h):
  Zd bl T 14 #[v,bk (Pj c r u).toArray] h fun v' h'=>iI h.size h' v' key c r u/\Zk h.size h h':=by
 obtain⟨p,cp,rfl,_⟩:=s.open;refine Zd.XS [_,_] Tryz.func14 ?_;unfold iI Pj;by_cases hk:(J key)=32
 case neg=>
  have ee:Vw (J key) c r u=1:=by unfold Vw;rw[if_pos hk]
  have ML:¬((J key):Int)=32:=nc;rw[ee];simp -implicitDefEqProofs only[go_sem,ML];exact⟨_,rfl,Yx.nil _ _ _⟩
 have ML:((J key):Int)=32:=nc;have ee:Vw (J key) c r u=JG c r u:=by unfold Vw;rw[if_neg nc]
 rw[ee];simp -implicitDefEqProofs only[go_sem,ML];refine (Gu T _ c r u).use ?_;rintro _ _ ⟨rfl,rfl⟩;unfold Pj;by_cases q:JG c r u=0
 case neg=>
  simp -implicitDefEqProofs only[go_sem,q];exact⟨_,rfl,Yx.nil _ _ _⟩
 obtain⟨c,r,u,rfl,rfl,rfl,hc,hr,hu⟩:=aY q;rw[q];have ec:(c:Int)%256=(c:Int):=nc;have er:(r:Int)%256=(r:Int):=nc;simp only[ch];simp -implicitDefEqProofs only[go_sem,ec,er];obtain⟨h1,Xk⟩:=ZQ ((h.push (S [Value.int O c,R O r,R O u].toArray 33)).push (S [Value.int O c,R O r,R O u].toArray 33):Hp);have b1:Zk h.size h h1:=by rw[Xk];exact ((Zk.refl _ _).add _).add _
 have s1:h1.size=h.size+1+1:=by rw[Xk];simp
 rw[<-s1,<-Xk];clear Xk;have Hr:∀x∈[c,r],x<256:=by
  intro x hx;simp only[bT,bS,or_false]at hx;omega
 have o2:Yx h1.size 5 (h1.push (S (([c,r]:List Nat).map bv).toArray 5)) (Y (aa ⟨h1.size,0,aI⟩) 2 2) [c,r]:=Yx.made Hr (am _);have B2:Zk h1.size h1 (h1.push (S (([c,r]:List Nat).map bv).toArray 5)):=Zk.push (am _) _;refine (kV T _ h1.size _ [c,r] u o2 Hg Hg nc).use ?_;rintro w3 h3 ⟨o3,b3⟩;have B3:=B2.trans b3;have d8:Zk h.size h h3:=b1.trans (B3.mono nc);have o3':Yx h1.size 5 h3 w3 (aX c r u):=o3;have gl:=Iy c r u;unfold Ra;generalize aX c r u=G at *;simp -implicitDefEqProofs only[go_sem];rw[<-ML];refine (aW T h3 _ w3 key G (s.Yy d8) o3'.bs nc nc (tk.Qx d8)).use ?_;rintro w4 h4 ⟨⟨s4,_⟩,b4⟩;have s3:=B3.size;have o34:=o3'.Yy b4 (am _);have Bh4:=d8.trans (b4.mono d8.size);simp -implicitDefEqProofs only[go_sem];refine ZK (E:=5) (B:=h1.size) Xg a4 Ti T4 T3 o34 (by have:=b4.size;omega) s4 (by rw[gl,a8];omega) ?_;intro w5 h5 o5 b5 _;have Bh5:=Bh4.trans (b5.mono nc);simp -implicitDefEqProofs only[go_sem,Bh5];exact⟨_,rfl,o5.mono nc⟩
def Bj:List a5:=Pj 0 0 0
def QJ(key l:List Nat):Int:=if (J key)≠32\/(J l)≠22 then 1 else if (M3 key (l.take 6)).take 16≠l.drop 6 then 6 else JG (l.getD 0 0:Nat) (l.getD 1 0:Nat) (XB l 2:Nat)
def Bl(key l:List Nat):List a5:=if QJ key l=0 then Pj (l.getD 0 0:Nat) (l.getD 1 0:Nat) (XB l 2:Nat) else Bj
theorem GZ(T:bz)(h:Hp)(v u:a5)(key l:List Nat)(s:Bs h v key)(sl:Bs h u l)(cu:Ph u)(tk:Tk h):
  Zd bl T 82 #[v,u] h fun v' h'=>v'=.tuple [bk (Bl key l).toArray,R O (QJ key l)].toArray/\Zk h.size h h':=by
 obtain⟨p,cp,rfl,_⟩:=s.open;obtain⟨q,cq,rfl,hq⟩:=sl.VA;refine Zd.XS [_,_] Tryz.func82 ?_;by_cases hk:(J key)=32
 case neg=>
  have ee:QJ key l=1:=by unfold QJ;rw[if_pos (.inl hk)]
  have ML:¬((J key):Int)=32:=nc;unfold Bl;rw[ee];unfold Bj Pj;simp +contextual -implicitDefEqProofs only[go_sem,ML]
  (repeat' (first|exact Zk.refl _ _|assumption|refine Zk.add ?_ _|refine Zk.Zt ?_ aab _|refine Zk.trans aac ?_))
 have ML:((J key):Int)=32:=nc;by_cases hl:(J l)=22
 case neg=>
  have ee:QJ key l=1:=by unfold QJ;rw[if_pos (.inr hl)]
  have dX:¬((J l):Int)=22:=nc;unfold Bl;rw[ee];unfold Bj Pj;simp +contextual -implicitDefEqProofs only[go_sem,ML,dX]
  (repeat' (first|exact Zk.refl _ _|assumption|refine Zk.add ?_ _|refine Zk.Zt ?_ aab _|refine Zk.trans aac ?_))
 have dX:((J l):Int)=22:=nc;obtain⟨b,o,rfl,hb,XE⟩:=hq (by intro e;rw[e]at hl;cases hl);have W0:22<=cq:=by have:(J l)<=cq:=cu;omega
 have h6c:(6:Int)<=(cq:Int):=nc;have kJ:¬cq=0:=nc;have hc6:¬cq=6:=nc;obtain⟨y0,ie⟩:∃y:Int,y=((l.getD 0 0:Nat):Int):=⟨_,rfl⟩
 obtain⟨y1',C7⟩:∃y:Int,y=((l.getD 1 0:Nat):Int):=⟨_,rfl⟩
 obtain⟨y2',hy2⟩:∃y:Int,y=((l.getD 2 0:Nat):Int):=⟨_,rfl⟩
 obtain⟨y3,hy3⟩:∃y:Int,y=((l.getD 3 0:Nat):Int):=⟨_,rfl⟩
 obtain⟨y4,hy4⟩:∃y:Int,y=((l.getD 4 0:Nat):Int):=⟨_,rfl⟩
 obtain⟨y5,hy5⟩:∃y:Int,y=((l.getD 5 0:Nat):Int):=⟨_,rfl⟩
 obtain⟨yY,hyY⟩:∃y:Int,y=((XB l 2:Nat):Int):=⟨_,rfl⟩
 have z0:=Z2 sl.byte 0;have z1:=Z2 sl.byte 1;have z2:=Z2 sl.byte 2;have z3:=Z2 sl.byte 3;have z4:=Z2 sl.byte 4;have z5:=Z2 sl.byte 5;have eo:Unit->YM .or O (YM .or O (YM .or O (Xm O y2' 24) (Xm O y3 16)) (Xm O y4 8)) y5=yY:=fun _=>by
  rw[hy2,hy3,hy4,hy5,hyY];exact CO z2 z3 z4 z5
 have yb:(0<=y0/\y0<256)/\(0<=y1'/\y1'<256)/\(0<=y2'/\y2'<256)/\(0<=y3/\y3<256)/\(0<=y4/\y4<256)/\(0<=y5/\y5<256):=by
  rw[ie,C7,hy2,hy3,hy4,hy5];omega
 obtain⟨⟨ya1,ya2⟩,⟨ya3,ya4⟩,⟨ya5,ya6⟩,⟨ya7,ya8⟩,⟨ya9,ZFn⟩,ZFo,ZFp⟩:=yb;have ee:QJ key l=if (M3 key (l.take 6)).take 16≠l.drop 6 then 6 else JG y0 y1' yY:=by
  rw[ie,C7,hyY];unfold QJ;rw[if_neg nc]
 have eT:Bl key l=if QJ key l=0 then Pj y0 y1' yY else Bj:=by rw[ie,C7,hyY];rfl
 have qh:∀i,i<22->V.hc h ⟨b,o+i,aI⟩=aa (R au (l.getD i 0:Nat)):=fun i hi=>XE i nc;have q0:=qh 0 nc;have q1:=qh 1 nc;have q2:=qh 2 nc;have q3:=qh 3 nc;have q4:=qh 4 nc;have q5:=qh 5 nc;rw[<-ie]at q0;rw[<-C7]at q1;rw[<-hy2]at q2;rw[<-hy3]at q3;rw[<-hy4]at q4;rw[<-hy5]at q5;obtain⟨h1,Xk⟩:=ZQ (h.push (S Bj.toArray 33):Hp);have b1:Zk h.size h h1:=by rw[Xk];exact Zk.push (am _) _
 have s1:h1.size=h.size+1:=by rw[Xk];simp
 have x1:h1[h.size]? = aa (S Bj.toArray 33):=by rw[Xk];exact Zc
 have e1:h.push (S #[Value.int O 0,R O 0,R O 0] 33)=h1:=Xk.symm;rw[hl]at sl XE ⊢;simp -implicitDefEqProofs only[go_sem,ML,dX];rw[e1];clear e1 Xk;have sl1:=sl.Yy b1;have s61:Bs h1 (Y (aa ⟨b,o,aI⟩) 6 cq) (l.take 6):=by
  rw[<-hl]at sl1;exact Bs.NL sl1 nc cq
 have t6:(l.take 6).length<=2000:=aad;obtain⟨M,hM⟩:=ZQ ((M3 key (l.take 6)).take 16);have ml:(J M)<=140737488355328:=by rw[hM,a8];omega
 rw[<-hM]at ee;refine VS.mono (N:=fun F g=>Zk h1.size h1 g/\F 1=Y (aa ⟨b,o,aI⟩) 22 cq/\F 4=ba (aa ⟨h.size,0,aI⟩)/\F 24=.bool (!decide (M=l.drop 6))) ?_ ?_ (fun _ _ _ h=>h) (fun _ _ h=>h)
 .refine VS.w (h1.size) [] (.q 0 (.q 1 (.q 2 (.q 4 (.q 5 (.s 3 (.s 6 (.q 7 .nil)))))))) mixed uf ?_;simp -implicitDefEqProofs only[go_sem,h6c,kJ,hc6,cn,co];rw[<-ML];refine (aW T h1 _ _ key (l.take 6) (s.Yy b1) s61 nc t6 (tk.Qx b1)).use ?_;rintro w h2 ⟨⟨s2,_⟩,b2⟩;rw[<-hM]at s2;have sl2:=RH (sl1.Yy b2) (k:=6) nc hl (cq-6);simp -implicitDefEqProofs only[go_sem,b2];refine (CM T h2 w _ M (l.drop 6) s2 sl2 ml).pure ?_;simp -implicitDefEqProofs only[go_sem,b2]
 rintro F g ⟨bg,f1,f4,f24⟩;have Bg:=b1.trans (bg.mono nc);have k0:g[h.size]? = aa (S Bj.toArray 33):=bg.get nc x1;have k1:rd g ⟨h.size,0,aI⟩ 3=aa Bj:=Zy k0 rfl;have k2:=Ye k0 0;have PU:=Za k0;clear hM;unfold Bj Pj at *;by_cases hm:M=l.drop 6
 case neg=>
  have hd:decide (M=l.drop 6)=false:=decide_eq_false hm;rw[hd]at f24;rw[if_pos hm]at ee;rw[eT,ee];simp +contextual -implicitDefEqProofs only[go_sem,f1,f4,f24,k1,k2];exact Bg.Zt (am _) _
 have hd:decide (M=l.drop 6)=true:=decide_eq_true hm;rw[hd]at f24;rw[if_neg (fun hn=>hn hm)]at ee;have e0:V.hc g ⟨b,o,aI⟩=aa (R au y0):=by rw[Bg.hc (by exact hb)];exact q0
 have e1:V.hc g ⟨b,o+1,aI⟩=aa (R au y1'):=by rw[Bg.hc (by exact hb)];exact q1
 have e2:V.hc g ⟨b,o+2,aI⟩=aa (R au y2'):=by rw[Bg.hc (by exact hb)];exact q2
 have e3:V.hc g ⟨b,o+3,aI⟩=aa (R au y3):=by rw[Bg.hc (by exact hb)];exact q3
 have e4:V.hc g ⟨b,o+4,aI⟩=aa (R au y4):=by rw[Bg.hc (by exact hb)];exact q4
 have e5:V.hc g ⟨b,o+5,aI⟩=aa (R au y5):=by rw[Bg.hc (by exact hb)];exact q5
 rw[eT,ee];clear ie C7 hy2 hy3 hy4 hy5 hyY;have iJ:b<g.size:=cv hb Bg.size;simp -implicitDefEqProofs only[go_sem,f1,f4,f24];refine VS.w (g.size) [32] (.q 0 (.q 1 (.q 2 (.q 3 (.q 4 (.q 5 (.q 6 (.q 7 (.q 8 (.q 9 (.q 10 (.q 11 (.q 12 (.q 13 (.q 14 (.q 15 (.q 16 (.q 17 (.q 18 (.q 19 (.q 20 (.q 21 (.q 22 (.q 23 (.q 24 (.q 25 (.q 26 (.q 27 (.q 28 (.q 29 (.q 30 (.s 31 (.w 32 .nil))))))))))))))))))))))))))))))))) mixed uf ?_;simp -implicitDefEqProofs only[go_sem,f1,f4,iJ,e0,e1,e2,e3,e4,e5,eo ()];refine (Gu T _ y0 y1' yY).use ?_;rintro _ _ ⟨rfl,rfl⟩;unfold Pj;obtain⟨E,hE⟩:=ZQ (JG y0 y1' yY);rw[<-hE];by_cases q:E=0
 .rw[if_pos q];simp +contextual -implicitDefEqProofs only[go_sem,q,f1,f4,k1,k2,PU]
  (repeat' (first|exact Zk.refl _ _|assumption|refine Zk.add ?_ _|refine Zk.Zt ?_ aab _|refine Zk.trans aac ?_))
 .rw[if_neg q];simp +contextual -implicitDefEqProofs only[go_sem,q,f1,f4,k1,k2,PU]
  (repeat' (first|exact Zk.refl _ _|assumption|refine Zk.add ?_ _|refine Zk.Zt ?_ aab _|refine Zk.trans aac ?_))
def J7(s a i:Nat)(n:Int):Int:=if 256<s\/256<a\/256<i\/n<0\/512<n then 1 else 0
theorem qi{p:Option Addr}{m c k c' b:Nat}(h:Yf (Y p m c)=aa b)(hc:c'≠0):Yf (Y p k c')=aa b:=by
 cases p with
 | none=>simp[Yf]at h
 | some a=>
  simp only[Yf]at h ⊢;split at h
  .cases h
  .rw[if_neg hc];exact h
theorem yi{p:Option Addr}{m c b:Nat}(h:Yf (Y p m c)=aa b):c≠0:=by
 cases p with
 | none=>simp[Yf]at h
 | some a=>
  simp only[Yf]at h;split at h
  .cases h
  .assumption
def lU(B:Nat)(h':Hp)(v':a5)(JH TK info:List Nat)(n:Int):Prop:=∃w,v'=.tuple [w,R O (J7 (J JH) (J TK) (J info) n)].toArray/\Ph w/\Bs h' w (if J7 (J JH) (J TK) (J info) n=0 then GG JH TK info n.toNat else [])/\∀b,Yf w=aa b->B<=b
theorem G6(T:bz)(h:Hp)(vs va vi':a5)(JH TK info:List Nat)(n:Int)(ss:Bs h vs JH)(sa:Bs h va TK)(si:Bs h vi' info)(tk:Tk h):
  Zd bl T 27 #[vs,va,vi',R O n] h fun v' h'=>lU h.size h' v' JH TK info n/\Zk h.size h h':=by
 obtain⟨p1,c1,rfl,_⟩:=ss.open;obtain⟨p2,c2,rfl,_⟩:=sa.open;obtain⟨p3,c3,rfl,_⟩:=si.open;refine Zd.XS [_,_,_,_] Tryz.func27 ?_;unfold lU;by_cases e1:256<(J JH)
 .have tU:256<((J JH):Int):=by omega
  have ee:J7 (J JH) (J TK) (J info) n=1:=by unfold J7;rw[if_pos (.inl e1)]
  rw[ee];simp -implicitDefEqProofs only[go_sem,tU];exact⟨_,rfl,am _,(Yx.nil 0 5 _).bs,fun b hb=>by simp[Yf]at hb⟩
 have tU:¬256<((J JH):Int):=by omega
 by_cases e2:256<(J TK)
 .have e2':256<((J TK):Int):=by omega
  have ee:J7 (J JH) (J TK) (J info) n=1:=by unfold J7;rw[if_pos (.inr (.inl e2))]
  rw[ee];simp -implicitDefEqProofs only[go_sem,tU,e2'];exact⟨_,rfl,am _,(Yx.nil 0 5 _).bs,fun b hb=>by simp[Yf]at hb⟩
 have e2':¬256<((J TK):Int):=by omega
 by_cases e3:256<(J info)
 .have e3':256<((J info):Int):=by omega
  have ee:J7 (J JH) (J TK) (J info) n=1:=by unfold J7;rw[if_pos (.inr (.inr (.inl e3)))]
  rw[ee];simp -implicitDefEqProofs only[go_sem,tU,e2',e3'];exact⟨_,rfl,am _,(Yx.nil 0 5 _).bs,fun b hb=>by simp[Yf]at hb⟩
 have e3':¬256<((J info):Int):=by omega
 by_cases e4:n<0
 .have ee:J7 (J JH) (J TK) (J info) n=1:=by unfold J7;rw[if_pos (.inr (.inr (.inr (.inl e4))))]
  rw[ee];simp -implicitDefEqProofs only[go_sem,tU,e2',e3',e4];exact⟨_,rfl,am _,(Yx.nil 0 5 _).bs,fun b hb=>by simp[Yf]at hb⟩
 by_cases e5:512<n
 .have ee:J7 (J JH) (J TK) (J info) n=1:=by unfold J7;rw[if_pos (.inr (.inr (.inr (.inr e5))))]
  rw[ee];simp -implicitDefEqProofs only[go_sem,tU,e2',e3',e4,e5];exact⟨_,rfl,am _,(Yx.nil 0 5 _).bs,fun b hb=>by simp[Yf]at hb⟩
 have ee:J7 (J JH) (J TK) (J info) n=0:=by unfold J7;rw[if_neg (by omega)]
 obtain⟨m,rfl⟩:∃m:Nat,n=m:=⟨n.toNat,by omega⟩
 rw[ee,ch];simp -implicitDefEqProofs only[go_sem,tU,e2',e3',e4,e5];refine (iH T _ _ _ TK JH sa ss (by omega) (by omega) tk).use ?_;rintro vk h1 ⟨ok,b1⟩;have s1:=b1.size;obtain⟨key,ZcJ⟩:=ZQ (M3 TK JH);rw[<-ZcJ]at ok;have kl:(J key)=32:=by rw[ZcJ];exact T7 _ _
 have hm:m<=512:=by omega
 have eS:GG JH TK info m=(T8 key info 16).take m:=by rw[GG,ZcJ]
 have dt:∀i,m<=32*i->i<=16->(T8 key info 16).take m=(T8 key info i).take m:=fun i h1 h2=>GF key info m i 16 h1 h2;rw[eS];clear eS ZcJ;simp -implicitDefEqProofs only[go_sem];refine VS.Yj (fun F g=>Zk h1.size h1 g/\F 2=Y p3 (J info) c3/\F 3=R O m/\F 10=vk/\∃i:Nat,32*i<m+32/\F 13=R O ((i+1:Nat):Int)/\Yx h1.size 5 g (F 11) (T8 key info i)/\Yx h1.size 5 g (F 12) (Nq key info i)/\∀b,Yf (F 12)=aa b->¬Yf (F 11)=aa b)
  (fun F _=>m+32-iF (F 11)) rfl ⟨Zk.refl _ _,rfl,rfl,rfl,0,by omega,rfl,Yx.nil _ _ _,Yx.nil _ _ _,fun b hb=>by cases hb⟩ ?_
 rintro F g ⟨hg,f2,f3,f10,i,hi,f13,oa,ot,Zlt⟩;have PU:=hg.size;have Bg:=b1.trans (hg.mono s1);obtain⟨pa,ca,f11,hca⟩:=oa.open;have al:=VO key info i;rw[al]at f11 hca;by_cases ZU:32*i<m
 .have Z8:((32*i:Nat):Int)<(m:Int):=by omega
  have tl:=xf key info i;have i16:i<=16:=by omega
  have eT:Nq key info (i+1)=M3 key (Nq key info i++info++[(i+1)%256]):=rfl;have eA:T8 key info (i+1)=T8 key info i++Nq key info (i+1):=rfl;obtain⟨lt,hlT⟩:∃x,x=Nq key info i:=⟨_,rfl⟩
  rw[<-hlT]at ot tl eT;have OC:(i+1)%256<256:=Nat.mod_lt _ (by decide);obtain⟨X,hX⟩:=ZQ ((i+1)%256);rw[<-hX]at eT OC;have ex:((i+1:Nat):Int)%256=(X:Int):=by rw[hX];rfl
  clear hX hlT;obtain⟨xi,hxi⟩:∃x:Int,x=((i+1:Nat):Int):=⟨_,rfl⟩
  rw[<-hxi]at ex f13;simp -implicitDefEqProofs only[go_sem,f2,f3,f10,f11,f13,Z8,ex];refine Uu (E:=5) (B:=h1.size) Xg a4 Ti T4 T3 ot PU (si.Yy Bg) (by omega) ?_;intro w2 g2 o2 b2 bt2 bk2;have s2:=b2.size;have oa2:=oa.kI bt2 (fun b hb e=>Zlt b e hb);have ol2:(lt++info).length<=400:=by rw[a6];omega
  have Zts:∀b,Yf w2=aa b->¬Yf (F 11)=aa b:=fun b hb e=>by
   rcases bk2 b hb with q|q
   .exact Zlt b q e
   .have:=oa.Zq.lt b e;omega
  simp -implicitDefEqProofs only[go_sem,f2,f3,f10,f13,ex];refine Uu (E:=5) (B:=h1.size) Xg a4 Ti T4 T3 (o2.push _) (by simp;omega) (Bs.one OC 1) (by simp only[bC];omega) ?_;intro w3 g3 o3 b3 bt3 bk3;have s3:=b3.size;simp only[cS]at s3 bk3;have oa3:=(oa2.push (S [Value.int au ((X:Nat):Int)].toArray 5)).kI bt3 (fun b hb e=>Zts b e hb);have Bg3:Zk h1.size h1 g3:=((hg.trans b2).YU (by omega) _).trans b3;have B3:=b1.trans (Bg3.mono s1);have ok3:=ok.Yy Bg3 (am _);simp -implicitDefEqProofs only[go_sem,f2,f3,f10,f13];refine (iH T g3 vk w3 key _ ok3.bs o3.bs (by omega) (by rw[a6];simp only[bC];omega) (tk.Qx B3)).use ?_;rintro w4 g4 ⟨o4,b4⟩;rw[<-eT]at o4;have s4:=b4.size;have oa4:=oa3.Yy b4 (am _);have Bg4:=Bg3.trans (b4.mono (by omega));rw[f11]at oa4;have tl1:=RC key info i;simp -implicitDefEqProofs only[go_sem,f2,f3,f10,f11,f13];refine Uu (E:=5) (B:=h1.size) Xg a4 Ti T4 T3 oa4 Bg4.size o4.bs (by rw[al,tl1];omega) ?_;intro w5 g5 o5 b5 bt5 bk5;have s5:=b5.size;obtain⟨p5,c5,rfl,_⟩:=o5.open;have ZgK:∀b,Yf w4=aa b->¬Yf (F 11)=aa b:=fun b hb e=>by
   have q1:=o4.Zq.ZX b hb;have q2:=oa3.Zq.lt b e;omega
  rw[f11]at ZgK;have o4':=(o4.mono (show h1.size<=g3.size by omega)).kI bt5 (fun b hb e=>ZgK b hb e);simp -implicitDefEqProofs only[go_sem,f2,f3,f10,f13];refine⟨⟨Bg4.trans b5,f2,f3,f10,i+1,by omega,?_,?_,o4',fun b hb e=>?_⟩,?_⟩
  .show Value.int O _=_;rw[hxi];rfl
  .rw[eA];exact o5
  .have e':Yf (Value.slice p5 (T8 key info i++Nq key info (i+1)).length c5)=aa b:=e;rcases bk5 b e' with q|q
   .exact ZgK b hb q
   .have:=o4.Zq.lt b hb;omega
  .simp only[iF,Zr,↓reduceIte,Nat.reduceEqDiff,f11,a6,al,tl1];omega
 .have Xp:¬((32*i:Nat):Int)<(m:Int):=by omega
  have e6:=dt i (by omega) (by omega);rw[e6];have oab:=oa.bs;have oaB:=oa.Zq.ZX;rw[f11]at oab oaB;rw[<-al]at oab;have tC:(m:Int)<=(ca:Int):=by omega
  have hm0:(0:Int)<=(m:Int):=by omega
  have fin:=Bs.NL oab (m:=m) (by rw[al];omega) m;simp -implicitDefEqProofs only[go_sem,f2,f3,f11,Xp,tC,hm0,Bg];exact⟨_,rfl,am _,fin,fun b hb=>Nat.le_trans (by omega) (oaB b (qi hb (by have:=yi hb;omega)))⟩
def ZeO(bf:List Nat)(k c s n v:Int)(a b:Nat):List Nat:=((bf++ZC [k.toNat,c.toNat,s.toNat,n.toNat,v.toNat])++Xl a)++Xl b
def aZ(bf:List Nat)(k c s n v:Int)(a b:Nat):List Nat:=TH (ZeO bf k c s n v a b)
theorem Lq(bf:List Nat)(k c s n v:Int)(a b:Nat):(aZ bf k c s n v a b).length=32:=Qj _
theorem ZcK(T:bz)(h:Hp)(u:a5)(bf:List Nat)(su:Bs h u bf)(hbf:(J bf)=32)(k c s n v:Int)(he:YE k c s n v=0)(a b:Nat)(ha:a<=1073741824)(hb:b<=1073741824)(tk:Tk h):
  Zd bl T 22 #[u,bk (QW k c s n v).toArray,bk [R O a,R O b].toArray] h fun v' h'=>Yx h.size 5 h' v' (aZ bf k c s n v a b)/\Zk h.size h h':=by
 obtain⟨p,cp,rfl,_⟩:=su.open;refine Zd.XS [_,_,_] Tryz.func22 ?_;obtain⟨za,hza⟩:∃z:Int,z=(a:Int):=⟨_,rfl⟩
 obtain⟨zb,hzb⟩:∃z:Int,z=(b:Int):=⟨_,rfl⟩
 rw[<-hza,<-hzb];have e0:QW k c s n v=[R O k,R O c,R O s,R O n,R O v]:=rfl;rw[e0];simp -implicitDefEqProofs only[go_sem];obtain⟨h0,Qn⟩:=ZQ ((h.push (S [R O k,R O c,R O s,R O n,R O v].toArray 25)).push (S [R O za,R O zb].toArray 51):Hp);have b0:Zk h.size h h0:=by rw[Qn];exact ((Zk.refl _ _).add _).add _
 have s0:h0.size=h.size+2:=by rw[Qn];simp
 have x0:h0[h.size+1]? = aa (S [R O za,R O zb].toArray 51):=by
  rw[Qn,a9,if_pos (by simp)]
 rw[<-Qn];clear Qn;have en:=Kc T h0 k c s n v;rw[e0]at en;refine en.use ?_;rintro _ h1 ⟨⟨w1,rfl,q1⟩,b1⟩;rw[he,if_pos rfl]at q1;rw[he];have B1:=b0.trans (b1.mono b0.size);simp -implicitDefEqProofs only[go_sem];refine (PM T h1 _ bf (su.Yy B1) (by omega)).use ?_;rintro w2 h2 ⟨o2,b2⟩;have B2:=B1.trans (b2.mono B1.size);have z1:=b1.size;have z2:=b2.size;have lc:(ZC [k.toNat,c.toNat,s.toNat,n.toNat,v.toNat]).length=20:=by rw[ZM];rfl
 simp -implicitDefEqProofs only[go_sem];refine ZK (E:=5) (B:=h1.size) Xg a4 Ti T4 T3 o2 z2 (q1.Yy b2) (by omega) ?_;intro w3 h3 o3 b3 _;have B3:=B2.trans (b3.mono (by omega));have z3:=B3.size;have x3:h3[h.size+1]? = aa (S [R O za,R O zb].toArray 51):=b3.get (by omega) (b2.get (by omega) (b1.get (by omega) x0));have c0:V.hc h3 ⟨h.size+1,0,aI⟩=aa (R O za):=by rw[Zn x3];rfl
 have c1:V.hc h3 ⟨h.size+1,1,aI⟩=aa (R O zb):=by rw[Zn x3];rfl
 have lV:(bf++ZC [k.toNat,c.toNat,s.toNat,n.toNat,v.toNat]).length=52:=by rw[a6];omega
 unfold aZ ZeO;generalize bf++ZC [k.toNat,c.toNat,s.toNat,n.toNat,v.toNat]=M at *;have o3':Yx h.size 5 h3 w3 M:=o3.mono (by omega);clear o3 q1 o2 en;obtain⟨a0,ha0⟩:∃y:Int,y=((a/16777216%256:Nat):Int):=⟨_,rfl⟩
 obtain⟨a1,ha1⟩:∃y:Int,y=((a/65536%256:Nat):Int):=⟨_,rfl⟩
 obtain⟨a2,ha2⟩:∃y:Int,y=((a/256%256:Nat):Int):=⟨_,rfl⟩
 obtain⟨a3,ha3⟩:∃y:Int,y=((a%256:Nat):Int):=⟨_,rfl⟩
 have e1:Unit->Xx O za 24%256=a0:=fun _=>by rw[hza,ha0,show (24:Int)=((24:Nat):Int) from rfl,Uh a 24 (by decide)];rfl
 have e2:Unit->Xx O za 16%256=a1:=fun _=>by rw[hza,ha1,show (16:Int)=((16:Nat):Int) from rfl,Uh a 16 (by decide)];rfl
 have e3:Unit->Xx O za 8%256=a2:=fun _=>by rw[hza,ha2,show (8:Int)=((8:Nat):Int) from rfl,Uh a 8 (by decide)];rfl
 have e4:Unit->za%256=a3:=fun _=>by rw[hza,ha3];rfl
 obtain⟨b0',tF⟩:∃y:Int,y=((b/16777216%256:Nat):Int):=⟨_,rfl⟩
 obtain⟨b1',Gf⟩:∃y:Int,y=((b/65536%256:Nat):Int):=⟨_,rfl⟩
 obtain⟨tI,Hr⟩:∃y:Int,y=((b/256%256:Nat):Int):=⟨_,rfl⟩
 obtain⟨b3',hb3⟩:∃y:Int,y=((b%256:Nat):Int):=⟨_,rfl⟩
 have f1:Unit->Xx O zb 24%256=b0':=fun _=>by rw[hzb,tF,show (24:Int)=((24:Nat):Int) from rfl,Uh b 24 (by decide)];rfl
 have f2:Unit->Xx O zb 16%256=b1':=fun _=>by rw[hzb,Gf,show (16:Int)=((16:Nat):Int) from rfl,Uh b 16 (by decide)];rfl
 have f3:Unit->Xx O zb 8%256=tI:=fun _=>by rw[hzb,Hr,show (8:Int)=((8:Nat):Int) from rfl,Uh b 8 (by decide)];rfl
 have f4:Unit->zb%256=b3':=fun _=>by rw[hzb,hb3];rfl
 have ea:([Value.int au a0,R au a1,R au a2,R au a3]:List a5)=(Xl a).map bv:=by rw[ha0,ha1,ha2,ha3];rfl
 have eb:([Value.int au b0',R au b1',R au tI,R au b3']:List a5)=(Xl b).map bv:=by rw[tF,Gf,Hr,hb3];rfl
 clear hza hzb ha0 ha1 ha2 ha3 tF Gf Hr hb3;simp -implicitDefEqProofs only[go_sem,c0,c1];refine VS.rounds 3 rfl ?_;simp -implicitDefEqProofs only[go_sem,e1 (),e2 (),e3 (),e4 ()];rw[ea];have hla:(Xl a).length=4:=rfl;have hlb:(Xl b).length=4:=rfl;refine ZK (E:=5) (B:=h.size) Xg a4 Ti T4 T3 (o3'.push _) (by simp;omega) (Bs.made (l:=Xl a) (UF a) 4) (by omega) ?_;intro w4 h4 o4 b4 _;have B4:=(B3.YU B3.size _).trans b4;simp -implicitDefEqProofs only[go_sem,f1 (),f2 (),f3 (),f4 ()];rw[eb];refine ZK (E:=5) (B:=h.size) Xg a4 Ti T4 T3 (o4.push _) (by have:=B4.size;simp;omega) (Bs.made (l:=Xl b) (UF b) 4) (by rw[a6];omega) ?_;intro w5 h5 o5 b5 _;have B5:=(B4.YU B4.size _).trans b5;simp -implicitDefEqProofs only[go_sem];have l5:(M++Xl a++Xl b).length=60:=by rw[a6,a6];omega
 refine (Kl T h5 w5 _ o5.bs (tk.Qx B5)).use ?_;rintro _ h6 ⟨⟨w6,rfl,o6⟩,b6⟩;have es:RJ (M++Xl a++Xl b).length=0:=by unfold RJ;rw[if_neg (by omega)]
 rw[es,if_pos rfl]at o6;rw[es];simp -implicitDefEqProofs only[go_sem];exact⟨o6.mono B5.size,B5.trans (b6.mono B5.size)⟩
structure J2 where
 k:Int
 c:Int
 s:Int
 n:Int
 v:Int
def ZcM(x:J2):List a5:=[R O x.k,R O x.c,R O x.s,R O x.n,R O x.v]
structure eh where
 x:J2
 a:Int
 b:Int
 sum:List Nat
structure bi where
 cs:List a5
 sum:List Nat
 out:List eh
def X1(cs:List a5)(x:J2):ZkH:=Ql cs x.k.toNat x.c.toNat x.s.toNat x.n.toNat x.v.toNat
def U7(cs:List a5)(x:J2):Int:=Nu cs x.k x.c x.s x.n x.v
def Bm(cs:List a5)(sum:List Nat)(x:J2):List Nat:=aZ sum x.k x.c x.s x.n x.v (X1 cs x).code.toNat (X1 cs x).val.toNat
def Lr(st:bi)(x:J2):bi:=⟨(X1 st.cs x).cells,Bm st.cs st.sum x,st.out++[⟨x,(X1 st.cs x).code,(X1 st.cs x).val,Bm st.cs st.sum x⟩]⟩
def I9:bi:=⟨Y1,bw 32 0,[]⟩
def Rb:bi->List J2->Int × bi
 | st,[]=>(0,st)
 | st,x :: l=>if U7 st.cs x=0 then Rb (Lr st x) l else (U7 st.cs x,st)
theorem yj(st:bi):Rb st []=(0,st):=rfl
theorem Ls{st:bi}{x:J2}{l:List J2}(h:U7 st.cs x=0):Rb st (x :: l)=Rb (Lr st x) l:=by rw[Rb,if_pos h]
theorem Kn{st:bi}{x:J2}{l:List J2}(h:¬U7 st.cs x=0):Rb st (x :: l)=(U7 st.cs x,st):=by rw[Rb,if_neg h]
theorem yk:∀(l:List J2) (st:bi),(Rb st l).1=0->(Rb st l).2.out.length=(J st.out)+(J l):=by
 intro l
 induction l with
 | nil=>intro st _;rfl
 | cons y l ih=>
  intro st h;by_cases q:U7 st.cs y=0
  .rw[Ls q]at h ⊢;rw[ih _ h];simp[Lr];omega
  .rw[Kn q]at h;exact absurd h q
def ym(cs:List a5):Prop:=∀i,i<8->(0<=ci cs (16+i*2)/\ci cs (16+i*2)<=1073741824)/\(0<=ci cs (16+i*2+1)/\ci cs (16+i*2+1)<=1073741824)
theorem UU{cs:List a5}{i:Nat}(h:i<(J cs))(k:IntKind)(x:Int):ci (cs.set i (.int k x)) i=x:=by
 unfold ci;rw[YR,List.getElem?_set_self h]
theorem Iz(cs:List a5)(k c n v:Nat):(UH cs k c n v).1.length=(J cs):=by
 unfold UH;split
 .simp
 .split
  .rfl
  .simp
theorem Bn(cs:List a5)(k c n v:Nat)(hn:n<=7)(j:Nat)(h1:8<=j)(h2:j<32):ci (UH cs k c n v).1 j=ci cs j:=by
 unfold UH;split
 .exact Qc nc
 .split
  .rfl
  .exact Qc nc
theorem qj{cs:List a5}(h:XA cs=false)(i:Nat)(hi:i<8):0<=ci cs i/\ci cs i<=1073741824:=by
 unfold XA at h;rw[List.any_eq_false]at h;have:=h i (List.mem_range.2 hi);simp only[Bool.or_eq_true,not_or]at this;have h1:=this.1;simp only[NW,decide_eq_true_eq]at h1;omega
theorem Ko{cs:List a5}{x:J2}(h:U7 cs x=0):XA cs=false/\YE x.k x.c x.s x.n x.v=0:=by
 unfold U7 Nu at h;split at h
 .cases h
 .rename_i q;exact⟨by simpa using q,h⟩
theorem qk{cs:List a5}(hl:(J cs)=40)(hb:XA cs=false)(ho:ym cs)(k c s n v:Nat)(hn:n<=7)(hc:c<=7)(hv:v<=1073741824):
  ym (Ql cs k c s n v).cells/\(0<=(Ql cs k c s n v).code/\(Ql cs k c s n v).code<=1073741824)/\(0<=(Ql cs k c s n v).val/\(Ql cs k c s n v).val<=1073741824):=by
 unfold Ql;split
 .exact⟨ho,⟨(by decide:(0:Int)<=0),(by decide:(0:Int)<=1073741824)⟩,⟨(by decide:(0:Int)<=0),(by decide:(0:Int)<=1073741824)⟩⟩
 split
 .have:=ho c nc;exact⟨ho,this.1,this.2⟩
 split
 .exact⟨ho,⟨(by decide:(0:Int)<=7),(by decide:(7:Int)<=1073741824)⟩,⟨(by decide:(0:Int)<=0),(by decide:(0:Int)<=1073741824)⟩⟩
 split
 .exact⟨ho,⟨(by decide:(0:Int)<=11),(by decide:(11:Int)<=1073741824)⟩,⟨(by decide:(0:Int)<=0),(by decide:(0:Int)<=1073741824)⟩⟩
 have hA:(0<=(UH cs k c n v).2/\(UH cs k c n v).2<=1073741824):=by
  unfold UH;split
  .exact⟨by simp only;omega,by simp only;omega⟩
  .split
   .exact qj hb n nc
   .exact⟨(by decide:(0:Int)<=0),(by decide:(0:Int)<=1073741824)⟩
 refine⟨?_,⟨(by decide:(0:Int)<=0),(by decide:(0:Int)<=1073741824)⟩,hA⟩;intro i hi;have hlen:=Iz cs k c n v;have h1:=Bn cs k c n v hn (16+i*2) nc nc;have h2:=Bn cs k c n v hn (16+i*2+1) nc nc;simp only;by_cases e:i=c
 .subst e;rw[Qc nc,UU (by simp only[cT];omega),UU (by simp only[cT];omega)];exact⟨aaa,hA⟩
 .rw[Qc nc,Qc nc,Qc nc,Qc nc,Qc nc,Qc nc,h1,h2];exact ho i hi
theorem bj:∀{ks:List (Option IntKind)} {vs:List a5} (i:Nat) {k:Option IntKind},Xd ks vs=true->ks[i]? = aa k->∃v,nth vs i=aa v/\Vs k v=true:=by
 intro ks
 induction ks with
 | nil=>intro vs i k _ h;simp at h
 | cons a ks ih=>
  intro vs i k hf hk
  cases vs with
  | nil=>simp[Xd]at hf
  | cons x vs=>
   simp only[Xd,Bool.and_eq_true]at hf
   cases i with
   | zero=>simp only[List.getElem?_cons_zero,Option.some.injEq]at hk;subst hk;exact⟨x,rfl,hf.1⟩
   | succ i=>exact ih i hf.2 (by simpa using hk)
theorem Mb{cs:List a5}(hf:Xd JJ cs=true):∀i,i<32->nth cs i=aa (R O (ci cs i)):=by
 intro i hi;have:∀i<32,JJ[i]? = aa (aa O):=aaa;obtain⟨v,h1,h2⟩:=bj i hf (this i hi);unfold ci;rw[h1]
 cases v<;>simp[Vs]at h2
 rw[h2]
theorem IA{cs:List a5}(hf:Xd JJ cs=true):∀i,32<=i->i<40->nth cs i=aa (.bool (cb cs i)):=by
 intro i h1 h2;have:∀j<8,JJ[32+j]? = aa aI:=aaa;have e:=this (i-32) nc;rw[show 32+(i-32)=i by omega]at e;obtain⟨v,h1,h2⟩:=bj i hf e;unfold cb;rw[h1]
 cases v<;>simp[Vs]at h2
 rfl
structure G7(st:bi):Prop where
 fit:Xd JJ st.cs=true
 ans:ym st.cs
 sum:(J st.sum)=32
theorem HG:G7 I9:=by
 refine⟨rfl,?_,rfl⟩;have:∀i<8,ci Y1 (16+i*2)=0/\ci Y1 (16+i*2+1)=0:=aaa;intro i hi;obtain⟨h1,h2⟩:=this i hi;show (0<=ci Y1 (16+i*2)/\ci Y1 (16+i*2)<=1073741824)/\(0<=ci Y1 (16+i*2+1)/\ci Y1 (16+i*2+1)<=1073741824)
 rw[h1,h2];decide
theorem HH{st:bi}(ok:G7 st){x:J2}(h:U7 st.cs x=0):G7 (Lr st x)/\∃a b:Nat,(X1 st.cs x).code=a/\(X1 st.cs x).val=b/\a<=1073741824/\b<=1073741824:=by
 obtain⟨h1,h2⟩:=Ko h;obtain⟨k,c,s,n,v,e1,e2,e3,e4,e5,y1,y2,y3,y4,y5⟩:=Xb h2;have hl:(J st.cs)=40:=YD ok.fit;have hd:X1 st.cs x=Ql st.cs k c s n v:=by unfold X1;rw[e1,e2,e3,e4,e5];rfl
 obtain⟨g1,g2,g3⟩:=qk hl h1 ok.ans k c s n v y4 y2 y5;have gf:=Dq ok.fit k c s n v y4 y2;rw[<-hd]at g1 g2 g3 gf;refine⟨⟨gf,g1,Lq _ _ _ _ _ _ _ _⟩,(X1 st.cs x).code.toNat,(X1 st.cs x).val.toNat,?_,?_,?_,?_⟩<;>omega
def RL(l:List J2):Int:=(Rb I9 l).1
def U8(l:List J2):List a5:=if RL l=0 then (Rb I9 l).2.cs else Y1
def Mc(l:List J2):List eh:=if RL l=0 then (Rb I9 l).2.out else []
def yn(st:bi)(e:eh):Prop:=¬U7 st.cs e.x=0\/¬((X1 st.cs e.x).code=e.a/\(X1 st.cs e.x).val=e.b)\/¬Bm st.cs st.sum e.x=e.sum
instance (st:bi)(e:eh):Decidable (yn st e):=by unfold yn;infer_instance
structure Bo where
 x:J2
 a:Int
 b:Int
 p:Option Addr
 m:Nat
 cp:Nat
def yo(e:Bo):List a5:=[R O e.x.k,R O e.x.c,R O e.x.s,R O e.x.n,R O e.x.v,R O e.a,R O e.b,Y e.p e.m e.cp]
theorem yp(e:Bo):(yo e).all YC=true:=rfl
def ZeP(Q:a5->List Nat->Prop)(e:Bo)(t:eh):Prop:=e.x=t.x/\e.a=t.a/\e.b=t.b/\Q (Y e.p e.m e.cp) t.sum
def Ha(Q:a5->List Nat->Prop):List Bo->List eh->Prop
 | [],[]=>True
 | e :: l,t :: k=>ZeP Q e t/\Ha Q l k
 | _,_=>False
variable {Q Q':a5->List Nat->Prop}
theorem Ha.mono(H:∀w s,Q w s->Q' w s):∀{l:List Bo} {k:List eh},Ha Q l k->Ha Q' l k:=by
 intro l
 induction l with
 | nil=>intro k h;cases k with
  | nil=>trivial
  | cons=>exact h.elim
 | cons e l ih=>intro k h;cases k with
  | nil=>exact h.elim
  | cons t k=>exact⟨⟨h.1.1,h.1.2.1,h.1.2.2.1,H _ _ h.1.2.2.2⟩,ih h.2⟩
theorem Ha.length:∀{l:List Bo} {k:List eh},Ha Q l k->(J l)=(J k):=by
 intro l
 induction l with
 | nil=>intro k h;cases k with
  | nil=>rfl
  | cons=>exact h.elim
 | cons e l ih=>intro k h;cases k with
  | nil=>exact h.elim
  | cons t k=>simp[ih h.2]
theorem Ha.snoc{e:Bo}{t:eh}(h2:ZeP Q e t):∀{l:List Bo} {k:List eh},Ha Q l k->Ha Q (l++[e]) (k++[t]):=by
 intro l
 induction l with
 | nil=>intro k h;cases k with
  | nil=>exact⟨h2,trivial⟩
  | cons=>exact h.elim
 | cons e l ih=>intro k h;cases k with
  | nil=>exact h.elim
  | cons t k=>exact⟨h.1,ih h.2⟩
structure Uy(B:Nat)(h:Hp)(v:a5)(l:List eh):Prop where
 ex:∃es,Qv B 76 yo 8 h v es/\Ha (fun w s=>Yx B 5 h w s) es l
theorem Uy.Yy{B C:Nat}{h h':Hp}{v:a5}{l:List eh}(s:Uy B h v l)(a:Zk C h h')(hC:h.size<=C):Uy B h' v l:=by
 obtain⟨es,s1,s2⟩:=s.ex;exact⟨es,s1.Yy a hC,s2.mono (fun w t q=>q.Yy a hC)⟩
theorem Uy.mono{B B':Nat}{h:Hp}{v:a5}{l:List eh}(s:Uy B h v l)(hB:B'<=B):Uy B' h v l:=by
 obtain⟨es,s1,s2⟩:=s.ex;exact⟨es,s1.mono hB,s2.mono (fun w t q=>q.mono hB)⟩
theorem Uy.Ya{B b:Nat}{h:Hp}{v:a5}{l:List eh}(s:Uy B h v l)(hb:b<B)(o:Obj):Uy B (h.setIfInBounds b o) v l:=by
 obtain⟨es,s1,s2⟩:=s.ex;exact⟨es,s1.Ya hb o,s2.mono (fun w t q=>q.Ya hb o)⟩
theorem Uy.nil(B:Nat)(h:Hp):Uy B h (Y aI 0 0) []:=⟨[],Qv.nil _ _ _ _ _,trivial⟩
theorem Uy.open{B:Nat}{h:Hp}{v:a5}{l:List eh}(s:Uy B h v l):∃p c,v=.slice p l.length c:=by
 obtain⟨es,s1,s2⟩:=s.ex;obtain⟨p,c,hv,_⟩:=s1.open;exact⟨p,c,by rw[hv,s2.length]⟩
end Go.Proofs.YthlfaofofaphfaaGreatDoor
namespace Go.Proofs.YthlfaofofaphfaaGreatDoor
open Go Go.V
set_option linter.unusedSimpArgs false
set_option linter.unusedVariables false
set_option maxRecDepth 100000
theorem qm{h:Hp}{v:a5}{l:List J2}(s:Ts ZcM 5 h v l):∃p cap,v=Y p (J l) cap/\(l≠[]->∃b o,p=aa ⟨b,o,aI⟩/\b<h.size/\∀i (hi:i<(J l)),rd h ⟨b,o+i*5,aI⟩ 5=aa [R O l[i].k,R O l[i].c,R O l[i].s,R O l[i].n,R O l[i].v]):=by
 obtain⟨p,cap,hv,Wr⟩:=Ts.open (enc:=ZcM) (n:=5) (fun _=>rfl) aaa s;refine⟨p,cap,hv,fun Y4=>?_⟩;obtain⟨b,o,hp,hb,XE⟩:=Wr Y4;exact⟨b,o,hp,hb,fun i hi=>(XE i hi).rd (by simp[ZcM]) rfl⟩
theorem lW{cs:List a5}(hf:Xd JJ cs=true)(x:J2):∃(D:List a5) (a b:Int),doL cs x.k x.c x.s x.n x.v=[bk D.toArray,bk [R O a,R O b].toArray,R O (U7 cs x)]/\Xd JJ D=true/\(U7 cs x=0->D=(X1 cs x).cells/\a=(X1 cs x).code/\b=(X1 cs x).val):=by
 unfold doL U7 X1;by_cases e:Nu cs x.k x.c x.s x.n x.v=0
 .rw[if_pos e];refine⟨_,_,_,by rw[e],?_,fun _=>⟨rfl,rfl,rfl⟩⟩;have e2:YE x.k x.c x.s x.n x.v=0:=(Ko (cs:=cs) (x:=x) e).2;obtain⟨k,c,s,n,v,e1,e2,e3,e4,e5,y1,y2,y3,y4,y5⟩:=Xb e2;rw[e1,e2,e3,e4,e5];exact Dq hf _ _ _ _ _ (by simpa using y4) (by simpa using y2)
 .rw[if_neg e];exact⟨_,_,_,rfl,rfl,fun h=>absurd h e⟩
theorem Kq{B B' n n' m m':Nat}{E E':TypeId}{h:Hp}{v u:a5}{cs ds:List a5}(hE:E≠E')(s:UE B E n h v m cs)(t:UE B' E' n' h u m' ds):∀b,Yf v=aa b->Yf u≠aa b:=by
 intro b hb hc;rcases s with⟨⟨p,rfl⟩,_,_⟩|⟨b1,cap,sp,_,rfl,hx,_⟩
 .cases p<;>simp[Yf]at hb
 rcases t with⟨⟨p,rfl⟩,_,_⟩|⟨b2,Ztz,sp2,_,rfl,hy,_⟩
 .cases p<;>simp[Yf]at hc
 simp only[Yf]at hb hc;split at hb
 .cases hb
 split at hc
 .cases hc
 obtain rfl:=Option.some.inj hb;obtain rfl:=Option.some.inj hc;rw[hx]at hy;simp only[Option.some.injEq,Obj.cells.injEq]at hy;exact hE hy.2.1
theorem Uy.app{B:Nat}{h h':Hp}{v:a5}{es:List Bo}{l:List eh}(s1:Qv B 76 yo 8 h v es)(s2:Ha (fun w s=>Yx B 5 h w s) es l)(a:Rt (Yf v) h h'):Ha (fun w s=>Yx B 5 h' w s) es l:=
 s2.mono (fun w t q=>q.kI a (fun b hb=>Kq aaa q.Zq s1.Zq b hb))
theorem yq(T:bz)(h:Hp)(u:a5)(l:List J2)(s:Ts ZcM 5 h u l)(tk:Tk h):
  Zd bl T 11 #[u] h fun v' h'=>(∃w E D,v'=.tuple [w,.agg D.toArray,.int .i64 E].toArray/\(E,D)=(if 200<l.length then (1,Y1) else (RL l,U8 l))/\Uy h.size h' w (if 200<l.length then [] else Mc l))/\Zk h.size h h':=by
 obtain⟨p,cp,rfl,Wr⟩:=qm s;have hZ:Y1.length=40:=rfl;have hZo:Y1.all YC=true:=rfl;refine Zd.MQ [_] Tryz.func11 ?_;by_cases big:200<l.length
 .have ZgM:(200:Int)<l.length:=nc;simp -implicitDefEqProofs only[go_sem,ZgM,big];exact⟨_,_,_,rfl,rfl,Uy.nil _ _⟩
 have ZgM:¬(200:Int)<l.length:=nc;simp -implicitDefEqProofs only[go_sem,ZgM,big];have z32:Yx (h.size+2) 5 (((h.push (.cells Y1.toArray 55)).push (.cells Y1.toArray 55)).push (.cells ((bw 32 0).map bv).toArray 5)) (.slice (aa ⟨h.size+1+1,0,aI⟩) 32 32) (bw 32 0):=by
  have:=Yx.made (B:=h.size+2) (E:=5) (h:=(h.push (.cells Y1.toArray 55)).push (.cells Y1.toArray 55)) (l:=bw 32 0) aaa Hg;simp only[cS,List.length_replicate]at this;exact this
 refine VS.Yj (fun F g=>Zk h.size h g/\F 0=.slice p l.length cp/\F 3=.pointer (aa ⟨h.size,0,aI⟩)/\F 5=.pointer (aa ⟨h.size+1,0,aI⟩)/\F 18=.slice p l.length cp/\F 19=.int .i64 l.length/\g[h.size]? = aa (.cells Y1.toArray 55)/\∃(i:Nat) (st:bi),i<=l.length/\F 20=.int .i64 i/\Rb I9 l=Rb st (l.drop i)/\G7 st/\st.out.length=i/\g[h.size+1]? = aa (.cells st.cs.toArray 55)/\Uy (h.size+2) g (F 6) st.out/\Yx (h.size+2) 5 g (F 7) st.sum)
  (fun F _=>l.length-(vi (F 20)).toNat) rfl ⟨?_,rfl,rfl,rfl,rfl,rfl,?_,0,I9,nc,rfl,rfl,HG,rfl,?_,Uy.nil _ _,z32⟩ ?_
 ·(repeat' (first|exact Zk.refl _ _|assumption|refine Zk.add ?_ _|refine Zk.Zt ?_ aab _|refine Zk.trans aac ?_))
 .rw[a9,if_neg KQ,a9,if_neg Hg,Zc];rfl
 .rw[a9,if_neg Hg,a9,if_pos Hg];rfl
 clear z32;rintro F g ⟨hg,f0,f3,f5,f18,f19,x0,i,st,hi,f20,hr,ok,ho,x1,oe,os⟩;have gs:=hg.size;have g1:=Za x1;by_cases ZU:i<l.length
 .have Z8:(i:Int)<l.length:=nc;obtain⟨bb,oo,rfl,Tm,XE⟩:=Wr (by intro e;rw[e]at ZU;simp at ZU);have r1:=XE i ZU;obtain⟨x,hx⟩:=ZQ (l[i]);rw[<-hx,<-QU hg (by exact Tm)]at r1;have hdr:l.drop i=x :: l.drop (i+1):=by rw[hx];exact List.drop_eq_getElem_cons ZU
  rw[hdr]at hr;have JZ:st.cs.length=40:=YD ok.fit;have tkc:=Xy JZ;have rs:=Zy x1 JZ;have aU:¬h.size+1=g.size:=nc;simp -implicitDefEqProofs only[go_sem,f0,f3,f5,f18,f19,f20,Z8,r1,rs,aU,JZ,tkc];refine (GO T _ st.cs x.k x.c x.s x.n x.v ok.fit (Mb ok.fit) (IA ok.fit)).use ?_;rintro _ h1 ⟨hd,b1⟩;obtain⟨D,a,b,hL,fD,hz⟩:=lW ok.fit x;unfold xE at hd;rw[hL]at hd;subst hd;have z1:g.size+1<=h1.size:=by have:=b1.size;simp at this;omega
  have B1:Zk g.size g h1:=(Zk.push (am _) _).trans (b1.mono Hg);have y9:h1[g.size]? = aa (.cells [.int .i64 x.k,.int .i64 x.c,.int .i64 x.s,.int .i64 x.n,.int .i64 x.v].toArray 25):=b1.get Hg Zc;have D40:D.length=40:=YD fD;have lG:=SU fD;have pI:=Xy D40;simp -implicitDefEqProofs only[go_sem,D40,lG,Z3,pI];obtain⟨h2,VQ⟩:=ZQ ((h1.push (.cells D.toArray 55)).push (.cells [.int .i64 a,.int .i64 b].toArray 51):Hp);have b2:Zk h1.size h1 h2:=by rw[VQ];exact ((Zk.refl _ _).add _).add _
  have z2:h2.size=h1.size+2:=by rw[VQ];simp
  have y10:h2[h1.size]? = aa (.cells D.toArray 55):=by rw[VQ,a9,if_neg Hg,Zc]
  have y11:h2[h1.size+1]? = aa (.cells [.int .i64 a,.int .i64 b].toArray 51):=by rw[VQ,a9,if_pos Hg]
  rw[<-VQ];clear VQ;have B2:Zk g.size g h2:=B1.trans (b2.mono nc);have Bh2:=hg.trans (B2.mono gs);have x02:=B2.get nc x0;have x12:=B2.get nc x1;have y92:=b2.get nc y9;by_cases e:U7 st.cs x=0
  case neg=>
   have hE:Rb I9 l=(U7 st.cs x,st):=by rw[hr,Kn e]
   have eE:RL l=U7 st.cs x:=by unfold RL;rw[hE]
   have eS:U8 l=Y1:=by unfold U8;rw[eE,if_neg e]
   have eO:Mc l=[]:=by unfold Mc;rw[eE,if_neg e]
   have w0:=Ye x02 0 Y1;rw[if_pos ⟨Hg,rfl⟩,Z3 rfl]at w0;have w0':wr h2 ⟨h.size,0,aI⟩ [.int .i64 0,.int .i64 0,.int .i64 0,.int .i64 0,.int .i64 0,.int .i64 0,.int .i64 0,.int .i64 0,.int .i64 0,.int .i64 0,.int .i64 0,.int .i64 0,.int .i64 0,.int .i64 0,.int .i64 0,.int .i64 0,.int .i64 0,.int .i64 0,.int .i64 0,.int .i64 0,.int .i64 0,.int .i64 0,.int .i64 0,.int .i64 0,.int .i64 0,.int .i64 0,.int .i64 0,.int .i64 0,.int .i64 0,.int .i64 0,.int .i64 0,.int .i64 0,.bool false,.bool false,.bool false,.bool false,.bool false,.bool false,.bool false,.bool false]=aa (h2.setIfInBounds h.size (.cells Y1.toArray 55)):=w0;have I0:h.size<h2.size:=nc;rw[eE,eS,eO];simp -implicitDefEqProofs only[go_sem,f3,e,w0',I0,hZ,hZo];exact⟨⟨_,_,_,rfl,rfl,Uy.nil _ _⟩,Bh2.Zt (am _) _⟩
  have r10:=Zy y10 D40;have w1:=Ye x12 0 D;rw[if_pos ⟨nc,lG⟩,Z3 nc]at w1;obtain⟨h3,G8⟩:=ZQ (h2.setIfInBounds (h.size+1) (.cells D.toArray 55):Hp);rw[<-G8]at w1;have z3:h3.size=h2.size:=by rw[G8];simp
  have x13:h3[h.size+1]? = aa (.cells D.toArray 55):=by rw[G8,be,if_pos rfl,if_pos nc]
  have n3:∀k,k≠h.size+1->h3[k]? = h2[k]?:=fun k hk=>by rw[G8,be,if_neg nc]
  have x03:h3[h.size]? = aa (.cells Y1.toArray 55):=by rw[n3 _ nc];exact x02
  have y93:=(n3 g.size nc).trans y92;have Zlu:=(n3 (h1.size+1) nc).trans y11;have d8:Zk h.size h h3:=by rw[G8];exact Bh2.Zt nc _
  have os3:Yx (h.size+2) 5 h3 (F 7) st.sum:=by rw[G8];exact (os.Yy B2 (am _)).Ya nc _
  have oe3:Uy (h.size+2) h3 (F 6) st.out:=by rw[G8];exact (oe.Yy B2 (am _)).Ya nc _
  clear G8;obtain⟨p7,c7,hf7,_⟩:=os3.open;have r9:=Zy y93 (n:=5) rfl;have r11:=Zy Zlu (n:=2) rfl;obtain⟨ok',a',b',ea,eb,la,lb⟩:=HH ok e;obtain⟨hD,ha,hb⟩:=hz e;rw[ea]at ha;rw[eb]at hb;have Ap:Bm st.cs st.sum x=aZ st.sum x.k x.c x.s x.n x.v a' b':=by unfold Bm;rw[ea,eb];rfl
  subst ha hb;rw[hf7]at os3;simp -implicitDefEqProofs only[go_sem,f5,hf7,e,r10,w1,r9,r11];refine (ZcK T h3 _ st.sum os3.bs ok.sum x.k x.c x.s x.n x.v (Ko e).2 a' b' la lb (tk.Qx d8)).use ?_;rintro w4 h4 ⟨o4,b4⟩;have z4:=b4.size;have Bh4:=d8.trans (b4.mono d8.size);have x04:=b4.get nc x03;have x14:=b4.get nc x13;have y94:=b4.get nc y93;have ZtC:=b4.get nc Zlu;have r94:=Zy y94 (n:=5) rfl;have ZtD:=Zy ZtC (n:=2) rfl;have oe4:=oe3.Yy b4 (am _);obtain⟨p6,c6,hf6⟩:=oe3.open;rw[hf6]at oe4;rw[<-Ap]at o4;have ls:(Bm st.cs st.sum x).length=32:=by rw[Ap];exact Lq _ _ _ _ _ _ _ _
  obtain⟨pw4,cw4,rfl,_⟩:=o4.open;have k1:g.size<h4.size:=nc;have k2:h1.size+1<h4.size:=nc;refine VS.w (h4.size) [7,8] (.q 0 (.q 1 (.q 2 (.q 3 (.s 4 (.q 5 (.s 6 (.w 7 (.w 8 .nil))))))))) mixed uf ?_;simp -implicitDefEqProofs only[go_sem,hf6,r94,ZtD,k1,k2];refine (PM T h4 _ _ o4.bs nc).use ?_;rintro w5 h5 ⟨o5,b5⟩;obtain⟨p5,c5,rfl,_⟩:=o5.open;have z5:=b5.size;have oe5:=oe4.Yy b5 (am _);obtain⟨es,s1,s2⟩:=oe5.ex;have les:=s2.length;have XV:=Ts.one (E:=76) (h:=h5) (enc:=yo) (n:=8) ⟨x,a',b',p5,(Bm st.cs st.sum x).length,c5⟩ (fun _=>rfl) 1;unfold yo at XV;have k3:g.size<h5.size:=nc;simp -implicitDefEqProofs only[go_sem,b5];refine SP (E:=76) (B:=h.size+2) (n:=8) (bytes:=80) Zj4 Tryz.underlying48 Zrq Zrs rfl Zrr yp (s1.push _) KQ XV aai nc ?_;intro w6 h6 o6 _ b6;have s2':=Uy.app (s1.push _) (s2.mono (fun w t q=>q.push _)) b6;have b56:Zk (h.size+2) h5 h6:=(Zk.push nc _).trans (b6.Yy KQ s1.Zq.ZX);have Aa:Zk h.size h h6:=(Bh4.trans (b5.mono Bh4.size)).trans (b56.mono nc);have z6:=b56.size;have x06:=b56.get nc (b5.get nc x04);have x16:=b56.get nc (b5.get nc x14);have q5:=((o5.mono (B':=h.size+2) nc).push (.cells [.int .i64 x.k,.int .i64 x.c,.int .i64 x.s,.int .i64 x.n,.int .i64 x.v,.int .i64 (a':Nat),.int .i64 (b':Nat),.slice p5 (Bm st.cs st.sum x).length c5].toArray 76)).kI b6 (fun b hb=>Kq aaa o5.Zq s1.Zq b hb);have q4:=(((o4.mono (B':=h.size+2) nc).Yy b5 (am _)).push (.cells [.int .i64 x.k,.int .i64 x.c,.int .i64 x.s,.int .i64 x.n,.int .i64 x.v,.int .i64 (a':Nat),.int .i64 (b':Nat),.slice p5 (Bm st.cs st.sum x).length c5].toArray 76)).kI b6 (fun b hb=>Kq aaa (o4.Yy b5 (am _)).Zq s1.Zq b hb);simp -implicitDefEqProofs only[go_sem,f20];refine⟨⟨Aa,f0,f3,f5,f18,f19,x06,i+1,Lr st x,ZU,rfl,?_,ok',?_,?_,?_,q4⟩,?_⟩
  .rw[hr,Ls e]
  .simp only[Lr,a6,bC];omega
  .rw[show (Lr st x).cs=D from hD.symm];exact x16
  .exact⟨_,o6,s2'.snoc ⟨rfl,ea.symm,eb.symm,q5⟩⟩
  .simp only[vi,Zr,↓reduceIte,f20];omega
 .have Xp:¬(i:Int)<l.length:=nc;obtain rfl:i=l.length:=nc;rw[List.drop_length,yj]at hr;have eE:RL l=0:=by unfold RL;rw[hr]
  have eS:U8 l=st.cs:=by unfold U8;rw[eE,if_pos rfl,hr]
  have eO:Mc l=st.out:=by unfold Mc;rw[eE,if_pos rfl,hr]
  have JZ:st.cs.length=40:=YD ok.fit;have XV:=SU ok.fit;have r1:=Zy x1 JZ;have w0:=Ye x0 0 st.cs;rw[if_pos ⟨nc,XV⟩,Z3 nc]at w0;have hl0:h.size<g.size:=nc;obtain⟨p6,c6,hf6⟩:=oe.open;rw[eE,eS,eO];simp -implicitDefEqProofs only[go_sem,f18,f19,f20,Xp];refine VS.w (h.size) [] (.q 0 (.q 2 (.s 1 (.s 3 (.q 4 .nil))))) mixed uf ?_;simp -implicitDefEqProofs only[go_sem,f3,f5,hf6,r1,w0,hl0,g1];have oe':=oe;rw[hf6]at oe';exact⟨⟨_,0,st.cs,by rw[Xy JZ],rfl,(oe'.Ya nc _).mono nc⟩,hg.Zt (am _) _⟩
end Go.Proofs.YthlfaofofaphfaaGreatDoor
