/- Part Pik. -/
import Derived.Test.YthlfaofofaphfaaGreatDoorVst
import Derived.Test.YthlfaofofaphfaaGreatDoorW13
import Derived.Test.YthlfaofofaphfaaGreatDoorLchks
open Go.Value renaming int→N,slice→X,pointer→ab,bool→ae,agg→al
open Go.IntKind renaming i64→O,u64→S
open Go.Obj renaming cells→R
open Go.Proofs.Tryz renaming prog→a7
open List renaming length→Q,getD_eq_getElem?_getD→aa,getElem?_eq_getElem→a4,append_nil→a5,length_set→a8,mem_iff_getElem→a9,length_drop→bc,take_of_length_le→bd,getElem?_set_ne→be,length_take→bf,take_append_drop→bl,getD_cons_zero→bn,getD_cons_succ→bp,mem_or_eq_of_mem_set→bx,all_eq_true→bA,length_cons→bB,getElem_mem→bG,filter_eq_nil_iff→bS,drop_of_length_le→b5,getElem?_set_self→b6,getElem?_eq_none→b7,mem_range→b8,mem_cons_of_mem→b9,filter_eq_self→cf,filter_append→cg,mem_cons_self→ch,set_cons_zero→co,set_cons_succ→cp,getElem_drop→cq,getElem_take→cr,take_length→cA,range→cC,take_zero→cO,set_comm→cP
open Nat renaming le_refl→a0,mul_assoc→a6,zero_add→ba,mul_comm→bg,add_mul_mod_self_left→bh,add_sub_cancel→bw,add_assoc→bz,pow_succ→b0,mul_add→ca,add_mod→cd,lt_of_lt_of_le→ck,mod_lt→cn,zero_mul→ct,add_zero→cx,le_of_lt_succ→cy,mod_eq_of_lt→cz
open Int renaming toNat_natCast→aN,natCast_mul→cB
open Option renaming some→W,none→Y
open Array renaming getElem?_setIfInBounds→U,size_push→ag,getElem?_push→am,size_setIfInBounds→a3
open Bool renaming and_eq_true→bR
open Go.IntWalk renaming iteOmega→aO
open Go renaming Value→aw
namespace Go.Proofs.YthlfaofofaphfaaGreatDoor
open Go Go.V
set_option linter.unusedSimpArgs false
set_option linter.unusedVariables false
set_option maxRecDepth 100000
variable(T:World){i:Nat}{l:List Nat}
structure YA where
 r:Int
 n:Int
structure Vt where
 Zu:Int
 b:YA
 k:Int
 c:Int
 s:Int
 nm:Int
 v:Int
def QI(b:YA):List aw:=[N O b.r,N O b.n]
def Zv(v:Vt):List aw:=[N O v.Zu,N O v.b.r,N O v.b.n,N O v.k,N O v.c,N O v.s,N O v.nm,N O v.v]
def ZF(b:YA):Prop:=(1<=b.r/\b.r<=65536)/\(0<=b.n/\b.n<=4)
instance (b:YA):Decidable (ZF b):=by unfold ZF;infer_instance
def Yo(v:Vt):Prop:=(0<=v.Zu/\v.Zu<=39)/\ZF v.b/\YC v.k v.c v.s v.nm v.v=0
instance (v:Vt):Decidable (Yo v):=by unfold Yo;infer_instance
def ZM(a b:YA):Prop:=a.r<b.r\/(a.r=b.r/\a.n<b.n)
instance (a b:YA):Decidable (ZM a b):=by unfold ZM;infer_instance
def NJ(a b:Int):Int:=if a<b then -1 else if b<a then 1 else 0
def KN(a b:YA):Int:=if NJ a.r b.r=0 then NJ a.n b.n else NJ a.r b.r
theorem Ro(a b:YA):0<KN a b↔ZM b a:=by
 unfold KN NJ ZM
 repeat' split
 all_goals omega
theorem LG(a b:YA):KN a b<0↔ZM a b:=by
 unfold KN NJ ZM
 repeat' split
 all_goals omega
theorem bL(h:Hp)(a:Int):Zd a7 T 137 #[N O a] h fun v' h'=>v'=ae false/\h'=h:=by
 refine Zd.XS [_] Tryz.func137 ?_;simp -implicitDefEqProofs only[go_sem]
theorem SN(h:Hp)(a b:Int):Zd a7 T 125 #[N O a,N O b] h fun v' h'=>v'=N O (NJ a b)/\h'=h:=by
 refine Zd.XS [_,_] Tryz.func125 ?_;simp -implicitDefEqProofs only[go_sem];refine (bL T _ _).pure ?_;simp -implicitDefEqProofs only[go_sem];refine (bL T _ _).pure ?_;unfold NJ;by_cases q1:a<b
 .simp -implicitDefEqProofs only[go_sem,q1]
 .by_cases q2:b<a
  .simp -implicitDefEqProofs only[go_sem,q1,q2]
  .simp -implicitDefEqProofs only[go_sem,q1,q2]
theorem zd(h:Hp)(b:Nat)(x y:Int)(h0:hc h ⟨b,0,Y⟩=W (N O x))(h1:hc h ⟨b,1,Y⟩=W (N O y)):Zd a7 T 136 #[X (W ⟨b,0,Y⟩) 2 2] h fun v' h'=>v'=N O (if x=0 then y else x)/\h'=h:=by
 refine Zd.XS [_] Tryz.func136 ?_;simp -implicitDefEqProofs only[go_sem];refine VS.rounds 3 rfl ?_;by_cases q1:x=0
 .by_cases q2:y=0
  .simp -implicitDefEqProofs only[go_sem,h0,h1,q1,q2,Int.reduceAdd]
  .simp -implicitDefEqProofs only[go_sem,h0,h1,q1,q2,Int.reduceAdd]
 .simp -implicitDefEqProofs only[go_sem,h0,h1,q1]
theorem Rp(h:Hp)(b:YA):Zd a7 T 119 #[al (QI b).toArray] h fun v' h'=>v'=ae (decide (ZF b))/\h'=h.push (R (QI b).toArray 102):=by
 refine Zd.XS [_] Tryz.func119 ?_;unfold QI;by_cases q1:1<=b.r
 .by_cases q2:b.r<=65536
  .by_cases q3:0<=b.n
   .by_cases q4:b.n<5
    .have e:ZF b:=⟨⟨q1,q2⟩,q3,pA⟩
     simp -implicitDefEqProofs only[go_sem,q1,q2,q3,q4,e]
    .have e:¬ZF b:=by unfold ZF;omega
     simp -implicitDefEqProofs only[go_sem,q1,q2,q3,q4,e]
   .have e:¬ZF b:=by unfold ZF;omega
    simp -implicitDefEqProofs only[go_sem,q1,q2,q3,e]
  .have e:¬ZF b:=by unfold ZF;omega
   simp -implicitDefEqProofs only[go_sem,q1,q2,e]
 .have e:¬ZF b:=by unfold ZF;omega
  simp -implicitDefEqProofs only[go_sem,q1,e]
theorem TD(h:Hp)(a b:YA):Zd a7 T 120 #[al (QI a).toArray,al (QI b).toArray] h fun v' h'=>v'=N O (KN a b)/\Zj h.size h h':=by
 refine Zd.XS [_,_] Tryz.func120 ?_;unfold QI;simp -implicitDefEqProofs only[go_sem];refine VS.w (h.size+2) [] (.q 0 (.q 1 (.q 2 (.q 3 (.q 5 (.q 6 (.q 7 (.q 8 (.s 4 (.s 9 (.s 10 (.s 11 (.q 12 .nil))))))))))))) mixed vM ?_;simp -implicitDefEqProofs only[go_sem];refine (SN T _ _ _).pure ?_;simp -implicitDefEqProofs only[go_sem];refine (SN T _ _ _).pure ?_;simp -implicitDefEqProofs only[go_sem];refine⟨(Zj.refl _ _).YX IQ _,?_⟩;refine (zd T _ _ (NJ a.r b.r) (NJ a.n b.n) ?_ ?_).pure ?_
 .simp -implicitDefEqProofs only[go_sem]
 .simp -implicitDefEqProofs only[go_sem]
 unfold KN;simp -implicitDefEqProofs only[go_sem];refine⟨(Zj.refl _ _).YX IQ _,?_⟩
 (repeat' (first|exact Zj.refl _ _|assumption|refine Zj.add ?_ _|refine Zj.Zt ?_ aab _|refine Zj.trans aac ?_))
theorem Gi(h:Hp)(v:Vt):Zd a7 T 122 #[al (Zv v).toArray] h fun v' h'=>v'=ae (decide (Yo v))/\Zj h.size h h':=by
 refine Zd.XS [_] Tryz.func122 ?_;unfold Zv;by_cases q1:0<=v.Zu
 .by_cases q2:v.Zu<40
  .simp -implicitDefEqProofs only[go_sem,q1,q2];refine (Rp T _ v.b).use ?_;rintro _ _ ⟨rfl,rfl⟩;unfold QI;by_cases q3:ZF v.b
   .simp -implicitDefEqProofs only[go_sem,q3];refine (UG T _ v.k v.c v.s v.nm v.v).use ?_;rintro _ _ ⟨rfl,rfl⟩;by_cases q4:YC v.k v.c v.s v.nm v.v=0
    .have e:Yo v:=⟨⟨q1,pA⟩,q3,q4⟩
     simp -implicitDefEqProofs only[go_sem,q4,e]
     (repeat' (first|exact Zj.refl _ _|assumption|refine Zj.add ?_ _|refine Zj.Zt ?_ aab _|refine Zj.trans aac ?_))
    .have e:¬Yo v:=fun h=>q4 h.2.2;simp -implicitDefEqProofs only[go_sem,q4,e]
     (repeat' (first|exact Zj.refl _ _|assumption|refine Zj.add ?_ _|refine Zj.Zt ?_ aab _|refine Zj.trans aac ?_))
   .have e:¬Yo v:=fun h=>q3 h.2.1;simp -implicitDefEqProofs only[go_sem,q3,e]
  .have e:¬Yo v:=by unfold Yo;omega
   simp -implicitDefEqProofs only[go_sem,q1,q2,e]
 .have e:¬Yo v:=by unfold Yo;omega
  simp -implicitDefEqProofs only[go_sem,q1,e]
theorem WN{h:Hp}{v:aw}{l:List Vt}(s:Ts Zv 8 h v l):∃p cap,v=X p (Q l) cap/\(l≠[]->∃b o,p=W ⟨b,o,Y⟩/\b<h.size/\(∀i (hi:i<(Q l)),hc h ⟨b,o+i*8,Y⟩=W (N O l[i].Zu))/\∀i (hi:i<(Q l)),rd h ⟨b,o+i*8,Y⟩ 8=W (Zv l[i])):=by
 obtain⟨p,cap,hv,WB⟩:=Ts.open (enc:=Zv) (n:=8) (fun _=>rfl) aaa s;refine⟨p,cap,hv,fun Y7=>?_⟩;obtain⟨b,o,hp,hb,XL⟩:=WB Y7;exact⟨b,o,hp,hb,fun i hi=>(XL i hi).hc (i:=0) rfl,fun i hi=>(XL i hi).rd (by simp[Zv]) rfl⟩
def KO(l:List Vt)(j:Nat):Int:=((l[j]?).map (·.Zu)).getD (-1)
def SO(l:List Vt)(i:Nat):Int:=if i=0 then -1 else KO l (i-1)
def Pf(p:YA)(l:List Vt)(i:Nat):Bool:=match l[i]? with
 | some v=>decide (Yo v/\¬ZM p v.b/\(i=0\/KO l (i-1)<v.Zu))
 | none=>true
def JG(p:YA)(l:List Vt):Int:=if ¬ZF p/\¬(p.r=0/\p.n=0) then 5 else if (cC (Q l)).all (Pf p l)=true then 0 else 5
theorem Ni{l:List Vt}{j:Nat}(hj:j<(Q l)):KO l j=l[j].Zu:=by
 unfold KO;rw[a4 hj];rfl
theorem LH{p:YA}{l:List Vt}(hi:i<(Q l)):Pf p l i=true↔Yo l[i]/\¬ZM p l[i].b/\(i=0\/KO l (i-1)<l[i].Zu):=by
 unfold Pf;rw[a4 hi];simp only[decide_eq_true_eq]
theorem D1{p:YA}{l:List Vt}(hi:i<(Q l)):Pf p l i=true↔Yo l[i]/\¬ZM p l[i].b/\SO l i<l[i].Zu:=by
 rw[LH hi];unfold SO;by_cases h0:i=0
 .rw[if_pos h0]
  constructor
  .rintro⟨h1,h2,_⟩;exact⟨h1,h2,by have:=h1.1.1;omega⟩
  .rintro⟨h1,h2,_⟩;exact⟨h1,h2,.inl h0⟩
 .rw[if_neg h0]
  constructor
  .rintro⟨h1,h2,h3⟩;exact⟨h1,h2,h3.resolve_left h0⟩
  .rintro⟨h1,h2,h3⟩;exact⟨h1,h2,.inr h3⟩
theorem Oz{p:YA}{l:List Vt}(hp:¬(¬ZF p/\¬(p.r=0/\p.n=0)))(hg:∀j,j<(Q l)->Pf p l j=true):JG p l=0:=by
 unfold JG;rw[if_neg hp,if_pos (bA.2 fun i hi=>hg i (b8.1 hi))]
theorem WO{p:YA}{l:List Vt}(hi:i<(Q l))(hb:Pf p l i=false):JG p l=5:=by
 unfold JG;split
 .rfl
 .rw[if_neg];intro h;have:=bA.1 h i (b8.2 hi);rw[hb]at this;cases this
def XC(p:YA)(v:aw):List aw:=[N O p.r,N O p.n,v]
theorem Mb(h:Hp)(p:YA)(u:aw)(l:List Vt)(s:Ts Zv 8 h u l)(hlen:(Q l)<=4611686018427387904):
  Zd a7 T 118 #[al (XC p u).toArray] h fun v' h'=>v'=N O (JG p l)/\Zj h.size h h':=by
 obtain⟨pv,cv,rfl,XL⟩:=WN s;refine Zd.XS [_] Tryz.func118 ?_;unfold XC;by_cases z:p.r=0/\p.n=0
 .obtain⟨z1,z2⟩:=z;have CY:¬(¬ZF p/\¬(p.r=0/\p.n=0)):=fun h=>h.2 ⟨z1,z2⟩;simp -implicitDefEqProofs only[go_sem,z1,z2];obtain⟨H,hH⟩:=ZL (h.push (R [N O 0,N O 0,X pv (Q l) cv].toArray 105):Hp);have x0:H[h.size]? = W (R (XC p (X pv (Q l) cv)).toArray 105):=by rw[hH];unfold XC;rw[z1,z2];exact Zc
  have jh:Zj h.size h H:=by rw[hH];(repeat' (first|exact Zj.refl _ _|assumption|refine Zj.add ?_ _|refine Zj.Zt ?_ aab _|refine Zj.trans aac ?_))
  rw[<-hH];clear hH;have hz:=Za x0;refine VS.Yk (fun F g=>Zj H.size H g/\F 1=ab (W ⟨h.size,0,Y⟩)/\F 17=X pv (Q l) cv/\F 18=N O (Q l)/\∃i:Nat,i<=(Q l)/\F 19=N O i/\F 3=N O (SO l i)/\∀j,j<i->Pf p l j=true)
   (fun F _=>(Q l)-(vi (F 19)).toNat) rfl ⟨Zj.refl _ _,rfl,rfl,rfl,0,pA,rfl,rfl,fun j hj=>by omega⟩ ?_
  rintro F g ⟨hg,f1,f17,f18,i,hi,f19,f3,XO⟩;have Ov:=hg.size;have BF:Zj h.size h g:=jh.trans (hg.mono pA);by_cases ZT:i<(Q l)
  .have Z7:(i:Int)<(Q l):=pA;obtain⟨bb,oo,rfl,TC,Fo,XL⟩:=XL (by intro e;rw[e]at ZT;simp at ZT);have Ztz:bb<H.size:=by have:=jh.size;omega
   have r1:rd g ⟨bb,oo+i*8,Y⟩ 8=W (Zv l[i]):=by
    rw[Q3 BF (by exact TC)];exact XL i ZT
   have rp:rd g ⟨h.size,0,Y⟩ 2=W [N O p.r,N O p.n]:=by rw[Q3 hg (by exact hz),YL x0 (by simp[XC])];rfl
   have hsl:=Ni ZT;have gl:=D1 (p:=p) ZT;obtain⟨v,hv⟩:=ZL (l[i]);rw[<-hv]at r1 gl hsl;unfold Zv at r1;have XI:SO l (i+1)=v.Zu:=by unfold SO;rw[if_neg pA,bw];exact hsl
   simp -implicitDefEqProofs only[go_sem,f1,f17,f18,f19,Z7,r1];refine (Gi T _ v).use ?_;rintro _ g1 ⟨rfl,b1⟩;have b1s:=b1.size;simp only[ag]at b1s;have y0:g1[g.size]? = W (R [N O v.Zu,N O v.b.r,N O v.b.n,N O v.k,N O v.c,N O v.s,N O v.nm,N O v.v].toArray 133):=b1.get IQ Zc;have y1:hc g1 ⟨g.size,0,Y⟩=W (N O v.Zu):=by rw[Zn y0];rfl
   have y2:rd g1 ⟨g.size,1,Y⟩ 2=W [N O v.b.r,N O v.b.n]:=by rw[YL y0 IQ];rfl
   have AS:Zj g.size g g1:=(Zj.push (a0 _) _).trans (b1.mono IQ);have y3:rd g1 ⟨h.size,0,Y⟩ 2=W [N O p.r,N O p.n]:=by rw[Q3 AS (by show h.size<g.size;omega)];exact rp
   have Ve:Zj h.size h g1:=BF.trans (AS.mono pA);have Mc:Zj H.size H g1:=hg.trans (AS.mono pA);by_cases c1:Yo v
   .by_cases c2:v.Zu<=SO l i
    .have e:=WO (p:=p) ZT (by cases aD:Pf p l i with|false=>rfl|true=>exact absurd (gl.1 aD).2.2 pA);simp -implicitDefEqProofs only[go_sem,f1,f3,c1,c2,y1,e,Ve]
    .simp -implicitDefEqProofs only[go_sem,f1,f3,c1,c2,y1,y2,y3];refine (TD T _ v.b p).use ?_;rintro _ g2 ⟨rfl,b2⟩;have y4:hc g2 ⟨g.size,0,Y⟩=W (N O v.Zu):=by rw[b2.hc (by show g.size<g1.size;omega)];exact y1
     have Oe:Zj h.size h g2:=Ve.trans (b2.mono (by have:=Ve.size;omega));have Wv:Zj H.size H g2:=Mc.trans (b2.mono (by have:=Mc.size;omega));by_cases c3:ZM p v.b
     .have e:=WO (p:=p) ZT (by cases aD:Pf p l i with|false=>rfl|true=>exact absurd c3 (gl.1 aD).2.1);have ze:=(Ro v.b p).2 c3;simp -implicitDefEqProofs only[go_sem,ze,e,Oe]
     .have ze:¬0<KN v.b p:=fun h=>c3 ((Ro v.b p).1 h);simp -implicitDefEqProofs only[go_sem,ze,f1,f17,f18,f19,y4];refine⟨⟨Wv,f1,f17,f18,i+1,ZT,rfl,by rw[XI];rfl,fun j hj=>?_⟩,?_⟩
      .by_cases Sd:j=i
       .subst Sd;exact gl.2 ⟨c1,c3,pA⟩
       .exact XO j pA
      .simp only[vi,Zr,↓reduceIte,f19];omega
   .have e:=WO (p:=p) ZT (by cases aD:Pf p l i with|false=>rfl|true=>exact absurd (gl.1 aD).1 c1);simp -implicitDefEqProofs only[go_sem,c1,e,Ve]
  .have Xv:¬(i:Int)<(Q l):=pA;obtain rfl:i=(Q l):=pA;have e:=Oz CY XO;simp -implicitDefEqProofs only[go_sem,f17,f18,f19,Xv,e,BF]
 .have z':¬p.r=0\/¬p.n=0:=pA;by_cases q:ZF p
  .have CY:¬(¬ZF p/\¬(p.r=0/\p.n=0)):=fun h=>h.1 q;have zz:(p.r=0/\p.n=0)=False:=eq_false z;by_cases z1:p.r=0
   .have z2:¬p.n=0:=fun e=>z ⟨z1,e⟩;exact absurd q.1.1 pA
   .simp -implicitDefEqProofs only[go_sem,z1];refine (Rp T _ p).use ?_;rintro _ _ ⟨rfl,rfl⟩;simp -implicitDefEqProofs only[go_sem,q];obtain⟨H,hH⟩:=ZL ((h.push (R [N O p.r,N O p.n,X pv (Q l) cv].toArray 105)).push (R (QI p).toArray 102):Hp);have x0:H[h.size]? = W (R (XC p (X pv (Q l) cv)).toArray 105):=by rw[hH];simp only[am,ag,aO,↓reduceIte];rfl
    have jh:Zj h.size h H:=by rw[hH];(repeat' (first|exact Zj.refl _ _|assumption|refine Zj.add ?_ _|refine Zj.Zt ?_ aab _|refine Zj.trans aac ?_))
    rw[<-hH];clear hH;have hz:=Za x0;refine VS.Yk (fun F g=>Zj H.size H g/\F 1=ab (W ⟨h.size,0,Y⟩)/\F 17=X pv (Q l) cv/\F 18=N O (Q l)/\∃i:Nat,i<=(Q l)/\F 19=N O i/\F 3=N O (SO l i)/\∀j,j<i->Pf p l j=true)
     (fun F _=>(Q l)-(vi (F 19)).toNat) rfl ⟨Zj.refl _ _,rfl,rfl,rfl,0,pA,rfl,rfl,fun j hj=>by omega⟩ ?_
    rintro F g ⟨hg,f1,f17,f18,i,hi,f19,f3,XO⟩;have Ov:=hg.size;have BF:Zj h.size h g:=jh.trans (hg.mono pA);by_cases ZT:i<(Q l)
    .have Z7:(i:Int)<(Q l):=pA;obtain⟨bb,oo,rfl,TC,Fo,XL⟩:=XL (by intro e;rw[e]at ZT;simp at ZT);have Ztz:bb<H.size:=by have:=jh.size;omega
     have r1:rd g ⟨bb,oo+i*8,Y⟩ 8=W (Zv l[i]):=by
      rw[Q3 BF (by exact TC)];exact XL i ZT
     have rp:rd g ⟨h.size,0,Y⟩ 2=W [N O p.r,N O p.n]:=by rw[Q3 hg (by exact hz),YL x0 (by simp[XC])];rfl
     have hsl:=Ni ZT;have gl:=D1 (p:=p) ZT;obtain⟨v,hv⟩:=ZL (l[i]);rw[<-hv]at r1 gl hsl;unfold Zv at r1;have XI:SO l (i+1)=v.Zu:=by unfold SO;rw[if_neg pA,bw];exact hsl
     simp -implicitDefEqProofs only[go_sem,f1,f17,f18,f19,Z7,r1];refine (Gi T _ v).use ?_;rintro _ g1 ⟨rfl,b1⟩;have b1s:=b1.size;simp only[ag]at b1s;have y0:g1[g.size]? = W (R [N O v.Zu,N O v.b.r,N O v.b.n,N O v.k,N O v.c,N O v.s,N O v.nm,N O v.v].toArray 133):=b1.get IQ Zc;have y1:hc g1 ⟨g.size,0,Y⟩=W (N O v.Zu):=by rw[Zn y0];rfl
     have y2:rd g1 ⟨g.size,1,Y⟩ 2=W [N O v.b.r,N O v.b.n]:=by rw[YL y0 IQ];rfl
     have AS:Zj g.size g g1:=(Zj.push (a0 _) _).trans (b1.mono IQ);have y3:rd g1 ⟨h.size,0,Y⟩ 2=W [N O p.r,N O p.n]:=by rw[Q3 AS (by show h.size<g.size;omega)];exact rp
     have Ve:Zj h.size h g1:=BF.trans (AS.mono pA);have Mc:Zj H.size H g1:=hg.trans (AS.mono pA);by_cases c1:Yo v
     .by_cases c2:v.Zu<=SO l i
      .have e:=WO (p:=p) ZT (by cases aD:Pf p l i with|false=>rfl|true=>exact absurd (gl.1 aD).2.2 pA);simp -implicitDefEqProofs only[go_sem,f1,f3,c1,c2,y1,e,Ve]
      .simp -implicitDefEqProofs only[go_sem,f1,f3,c1,c2,y1,y2,y3];refine (TD T _ v.b p).use ?_;rintro _ g2 ⟨rfl,b2⟩;have y4:hc g2 ⟨g.size,0,Y⟩=W (N O v.Zu):=by rw[b2.hc (by show g.size<g1.size;omega)];exact y1
       have Oe:Zj h.size h g2:=Ve.trans (b2.mono (by have:=Ve.size;omega));have Wv:Zj H.size H g2:=Mc.trans (b2.mono (by have:=Mc.size;omega));by_cases c3:ZM p v.b
       .have e:=WO (p:=p) ZT (by cases aD:Pf p l i with|false=>rfl|true=>exact absurd c3 (gl.1 aD).2.1);have ze:=(Ro v.b p).2 c3;simp -implicitDefEqProofs only[go_sem,ze,e,Oe]
       .have ze:¬0<KN v.b p:=fun h=>c3 ((Ro v.b p).1 h);simp -implicitDefEqProofs only[go_sem,ze,f1,f17,f18,f19,y4];refine⟨⟨Wv,f1,f17,f18,i+1,ZT,rfl,by rw[XI];rfl,fun j hj=>?_⟩,?_⟩
        .by_cases Sd:j=i
         .subst Sd;exact gl.2 ⟨c1,c3,pA⟩
         .exact XO j pA
        .simp only[vi,Zr,↓reduceIte,f19];omega
     .have e:=WO (p:=p) ZT (by cases aD:Pf p l i with|false=>rfl|true=>exact absurd (gl.1 aD).1 c1);simp -implicitDefEqProofs only[go_sem,c1,e,Ve]
    .have Xv:¬(i:Int)<(Q l):=pA;obtain rfl:i=(Q l):=pA;have e:=Oz CY XO;simp -implicitDefEqProofs only[go_sem,f17,f18,f19,Xv,e,BF]
  .have e:JG p l=5:=by unfold JG;rw[if_pos ⟨q,z⟩]
   by_cases z1:p.r=0
   .have z2:¬p.n=0:=fun e=>z ⟨z1,e⟩;have hb:=Rp T (h.push (R [N O 0,N O p.n,X pv (Q l) cv].toArray 105)) p;simp -implicitDefEqProofs only[go_sem,z1,z2];unfold QI at hb;rw[z1]at hb;refine hb.use ?_;rintro _ _ ⟨rfl,rfl⟩;simp -implicitDefEqProofs only[go_sem,q,e]
   .simp -implicitDefEqProofs only[go_sem,z1];refine (Rp T _ p).use ?_;rintro _ _ ⟨rfl,rfl⟩;simp -implicitDefEqProofs only[go_sem,q,e]
theorem SP(h:Hp)(u:aw)(l:List Vt)(s:Ts Zv 8 h u l)(hl:(Q l)<=2199023255552):
  Zd a7 T 121 #[u] h fun v' h'=>QF h.size 133 Zv 8 h' v' l/\Zj h.size h h':=by
 obtain⟨p,c,rfl,WB⟩:=WN s;refine Zd.XS [_] Tryz.func121 ?_
 cases p with
 | none=>
  have:l=[]:=by
   cases l with
   | nil=>rfl
   | cons x l=>obtain⟨b,o,hp,_⟩:=WB IQ;cases hp
  subst this;simp -implicitDefEqProofs only[go_sem];exact QF.nil _ _ _ _ _
 | some a=>
  simp -implicitDefEqProofs only[go_sem];refine Rj (E:=133) (B:=h.size) (n:=8) (bytes:=64) Om Tryz.underlying103 Lw mN rfl mM (fun _=>rfl) (QF.EX _ _ Zv 8 _ _) IQ (s.Yz (Zj.push (a0 _) _)) VL pA ?_;intro v' h' ho hb _;simp -implicitDefEqProofs only[go_sem];exact⟨by simpa using ho,(Zj.push (a0 _) _).trans hb⟩
def YI(p:YA)(l:List Vt)(b:YA):Int:=if JG p l≠0 then 5 else if ¬ZF b then 2 else if ZM b p then 7 else 0
theorem IX(p:YA)(l:List Vt):JG p l=0\/JG p l=5:=by
 unfold JG
 repeat' split
 all_goals simp
def bM(B:Nat)(h':Hp)(v':aw)(p:YA)(l:List Vt)(b:YA):Prop:=∃w1 w2,v'=.tuple [al (XC (if YI p l b=0 then b else ⟨0,0⟩) w1).toArray,w2,N O (YI p l b)].toArray /\
 QF B 133 Zv 8 h' w1 (if YI p l b=0 then l else [])/\QF B 133 Zv 8 h' w2 (if YI p l b=0 then l else [])
theorem Pg(h:Hp)(p:YA)(u:aw)(l:List Vt)(b:YA)(s:Ts Zv 8 h u l)(hl:(Q l)<=2199023255552):
  Zd a7 T 95 #[al (XC p u).toArray,al (QI b).toArray] h fun v' h'=>bM h.size h' v' p l b/\Zj h.size h h':=by
 obtain⟨pu,cu,rfl,WB⟩:=WN s;refine Zd.Lt [_,_] Tryz.func95 ?_;unfold XC QI;simp -implicitDefEqProofs only[go_sem];have Rq:Zj h.size h ((((h.push (R [N O p.r,N O p.n,X pu (Q l) cu].toArray 105)).push (R [N O b.r,N O b.n].toArray 102)).push (R [N O 0,N O 0,X Y 0 0].toArray 105))):=by (repeat' (first|exact Zj.refl _ _|assumption|refine Zj.add ?_ _|refine Zj.Zt ?_ (by first|omega|(simp;omega)) _|refine Zj.trans (by assumption) ?_))
 refine (Mb T _ p _ l (s.Yz Rq) (by omega)).use ?_;rintro _ g1 ⟨rfl,b1⟩;have x0:g1[h.size]? = W (R (XC p (X pu (Q l) cu)).toArray 105):=b1.get (by simp only[ag];omega) (by simp only[am,ag,aO,↓reduceIte,XC]);have x1:g1[h.size+1]? = W (R [N O b.r,N O b.n].toArray 102):=b1.get (by simp only[ag];omega) (by simp only[am,ag,aO,↓reduceIte]);have x2:g1[h.size+2]? = W (R [N O 0,N O 0,X Y 0 0].toArray 105):=b1.get (by simp only[ag];omega) (by simp only[am,ag,aO,↓reduceIte]);have Ve:Zj h.size h g1:=Rq.trans (b1.mono (by simp;omega));have z1:=Za x2;clear b1 Rq;have fin:∀(G:Hp) (w:List aw),(Q w)=3->w.all YE=true->G[h.size+2]? = W (R [N O 0,N O 0,X Y 0 0].toArray 105)->wr G ⟨h.size+1+1,0,Y⟩ w=W (G.setIfInBounds (h.size+1+1) (R w.toArray 105)):=by
  intro G w h3 h1 hx;rw[Ye (b:=h.size+1+1) hx 0 w,ZW (by rw[h3];rfl),if_pos ⟨by rw[h3];simp,h1⟩]
 unfold bM;rcases IX p l with e0|e0
 .have r1:=Zy x1 (n:=2) rfl;simp -implicitDefEqProofs only[go_sem,e0,r1];refine (Rp T _ b).use ?_;rintro _ _ ⟨rfl,rfl⟩;by_cases q1:ZF b
  .have rp:rd g1 ⟨h.size,0,Y⟩ 2=W [N O p.r,N O p.n]:=by rw[YL x0 (by simp[XC])];rfl
   have z2:h.size<g1.size:=by omega
   have z3:h.size+1<g1.size:=by omega
   unfold QI;simp -implicitDefEqProofs only[go_sem,q1,r1,rp,z2,z3];refine (TD T _ b p).use ?_;rintro _ g2 ⟨rfl,b2⟩;have bN:Zj g1.size g1 g2:=(Zj.push (a0 _) _).trans (b2.mono (by simp));have x0':=bN.get z2 x0;have x1':=bN.get z3 x1;have x2':=bN.get z1 x2;have Oe:=Ve.trans (bN.mono Ve.size);have z5:=Za x2';by_cases q2:ZM b p
   .have e:YI p l b=7:=by unfold YI;rw[if_neg (by rw[e0];decide),if_neg (fun h=>h q1),if_pos q2]
    have w2:=fin g2 [N O 0,N O 0,X Y 0 0] rfl rfl x2';have zf:KN b p<0:=(LG b p).2 q2;simp -implicitDefEqProofs only[go_sem,zf,e,w2,z5];refine⟨⟨_,_,rfl,QF.nil _ _ _ _ _,QF.nil _ _ _ _ _⟩,?_⟩;exact Oe.Zt (by omega) _
   .have e:YI p l b=0:=by unfold YI;rw[if_neg (by rw[e0];decide),if_neg (fun h=>h q1),if_neg q2]
    have r1':=Zy x1' (n:=2) rfl;have rv:hc g2 ⟨h.size,2,Y⟩=W (X pu (Q l) cu):=by rw[Zn x0'];rfl
    have zf:¬KN b p<0:=fun h=>q2 ((LG b p).1 h);simp -implicitDefEqProofs only[go_sem,zf];refine VS.w (h.size+2) [] (.q 0 (.q 1 (.q 2 (.q 5 (.q 6 (.s 3 (.q 4 (.s 7 (.s 8 (.q 9 (.q 10 .nil))))))))))) mixed (by kernel_rfl) ?_;have z6:h.size<h.size+2:=by omega
    have z7:h.size+1<h.size+2:=by omega
    simp -implicitDefEqProofs only[go_sem,r1',rv,z6,z7];refine (SP T _ _ l (s.Yz Oe) hl).use ?_;rintro w1 g3 ⟨o1,b3⟩;obtain⟨p1,c1,rfl,_⟩:=o1.open;have b3':Zj (h.size+2) g2 g3:=b3.mono (by omega);simp -implicitDefEqProofs only[go_sem];refine⟨b3',?_⟩;refine (SP T _ _ l ((s.Yz Oe).Yz b3) hl).use ?_;rintro w2 g4 ⟨o2,b4⟩;have b3s:=b3.size;have b4s:=b4.size;have jj:Zj (h.size+2) g2 g4:=b3'.trans (b4.mono (by omega));have ZlJ:g4[h.size+2]? = W (R [N O 0,N O 0,X Y 0 0].toArray 105):=b4.get (by omega) (b3.get z5 x2');have z8:=Za ZlJ;have wf:=fin g4 [N O b.r,N O b.n,X p1 (Q l) c1] rfl rfl ZlJ;have mZ:=Oe.trans ((b3.trans (b4.mono b3s)).mono Oe.size);simp -implicitDefEqProofs only[go_sem,e,wf,z8];refine⟨jj,jj.Zt (by omega) _,⟨_,_,rfl,?_,?_⟩,?_⟩
    .exact (((o1.Yz b4 (a0 _)).mono (B':=h.size+1+1+1) (by omega)).Ya (by omega) _).mono (by omega)
    .exact ((o2.mono (B':=h.size+1+1+1) (by omega)).Ya (by omega) _).mono (by omega)
    .exact mZ.Zt (by omega) _
  .have e:YI p l b=2:=by unfold YI;rw[if_neg (by rw[e0];decide),if_pos q1]
   have w2:=fin g1 [N O 0,N O 0,X Y 0 0] rfl rfl x2;simp -implicitDefEqProofs only[go_sem,q1,e,w2,z1];exact⟨⟨_,_,rfl,QF.nil _ _ _ _ _,QF.nil _ _ _ _ _⟩,(Ve.Zt (by omega) _).YX (by simp;omega) _⟩
 .have e:YI p l b=5:=by unfold YI;rw[if_pos (by rw[e0];decide)]
  have w2:=fin g1 [N O 0,N O 0,X Y 0 0] rfl rfl x2;simp -implicitDefEqProofs only[go_sem,e0,e,w2,z1];exact⟨⟨_,_,rfl,QF.nil _ _ _ _ _,QF.nil _ _ _ _ _⟩,Ve.Zt (by omega) _⟩
def Srt(l:List Vt):Prop:=∀i j (hi:i<(Q l)) (hj:j<(Q l)),i<j->l[i].Zu<l[j].Zu
theorem LJ{p:YA}{l:List Vt}(h:JG p l=0):∀j,j<(Q l)->Pf p l j=true:=by
 intro j hj;unfold JG at h;split at h
 .cases h
 .split at h
  .rename_i XO;exact bA.1 XO j (b8.2 hj)
  .cases h
theorem Fp{p:YA}{l:List Vt}(h:JG p l=0):Srt l:=by
 have hg:=LJ h;intro i j
 induction j with
 | zero=>intro _ _ h;omega
 | succ j ih=>
  intro hi hj vd;have h1:=(LH hj).1 (hg _ hj);have h2:KO l j<l[j+1].Zu:=by
   rcases h1.2.2 with h|h
   .omega
   .simpa using h
  rw[Ni pA]at h2;by_cases e:i=j
  .subst e;exact h2
  .exact Int.lt_trans (ih hi pA pA) h2
theorem jk{p:YA}{l:List Vt}(h:JG p l=0):∀x∈l,Yo x:=by
 intro x hx;obtain⟨j,hj,rfl⟩:=a9.1 hx;exact ((LH hj).1 (LJ h j hj)).1
def JH(l:List Vt)(v:Vt):List Vt:=l.filter (fun x=>decide (x.Zu<v.Zu))++v :: l.filter (fun x=>decide (v.Zu<x.Zu))
theorem IY{α:Type}(q:α->Bool)(l:List α)(i:Nat)(h1:∀j (hj:j<(Q l)),j<i->q l[j]=true)(h2:∀j (hj:j<(Q l)),i<=j->q l[j]=false):l.filter q=l.take i:=by
 conv=>lhs;rw[<-bl i l]
 rw[cg,cf.2,bS.2,a5]
 .intro x hx;obtain⟨j,hj,rfl⟩:=a9.1 hx;rw[cq];rw[h2 _ (by rw[bc]at hj;omega) pA];decide
 .intro x hx;obtain⟨j,hj,rfl⟩:=a9.1 hx;rw[bf]at hj;rw[cr];exact h1 _ pA pA
theorem IZ{α:Type}(q:α->Bool)(l:List α)(i:Nat)(h1:∀j (hj:j<(Q l)),j<i->q l[j]=false)(h2:∀j (hj:j<(Q l)),i<=j->q l[j]=true):l.filter q=l.drop i:=by
 conv=>lhs;rw[<-bl i l]
 rw[cg,bS.2,cf.2,List.nil_append]
 .intro x hx;obtain⟨j,hj,rfl⟩:=a9.1 hx;rw[cq];exact h2 _ (by rw[bc]at hj;omega) pA
 .intro x hx;obtain⟨j,hj,rfl⟩:=a9.1 hx;rw[bf]at hj;rw[cr,h1 _ pA pA];decide
theorem zh{l:List Vt}(hs:Srt l){v:Vt}(hi:i<(Q l))(he:l[i].Zu=v.Zu):JH l v=l.set i v:=by
 have a1:l.filter (fun x=>decide (x.Zu<v.Zu))=l.take i:=IY _ _ _
  (fun j hj Sd=>decide_eq_true (by have:=hs j i hj hi Sd;omega))
  (fun j hj vd=>decide_eq_false (by
    by_cases e:i=j
    .subst e;omega
    .have:=hs i j hi hj pA;omega))
 have a2:l.filter (fun x=>decide (v.Zu<x.Zu))=l.drop (i+1):=IZ _ _ _
  (fun j hj Sd=>decide_eq_false (by
    by_cases e:j=i
    .subst e;omega
    .have:=hs j i hj hi pA;omega))
  (fun j hj vd=>decide_eq_true (by have:=hs i j hi hj pA;omega))
 rw[JH,a1,a2,List.set_eq_take_append_cons_drop,if_pos hi]
theorem zi{l:List Vt}(hs:Srt l){v:Vt}(hi:i<=(Q l))(h1:∀j (hj:j<(Q l)),j<i->l[j].Zu<v.Zu)(h2:∀j (hj:j<(Q l)),i<=j->v.Zu<l[j].Zu):JH l v=l.take i++v :: l.drop i:=by
 have a1:l.filter (fun x=>decide (x.Zu<v.Zu))=l.take i:=IY _ _ _ (fun j hj Sd=>decide_eq_true (h1 j hj Sd)) (fun j hj vd=>decide_eq_false (by have:=h2 j hj vd;omega));have a2:l.filter (fun x=>decide (v.Zu<x.Zu))=l.drop i:=IZ _ _ _ (fun j hj Sd=>decide_eq_false (by have:=h1 j hj Sd;omega)) (fun j hj vd=>decide_eq_true (h2 j hj vd));rw[JH,a1,a2]
def X4:List Nat->Nat
 | []=>0
 | x :: l=>x+256*X4 l
def Dg(l:List Nat):Prop:=∀x∈l,x<256
theorem Dg.getD(w:Dg l)(i:Nat):l.getD i 0<256:=Z4 w i
theorem Dg.set{x:Nat}(w:Dg l)(i:Nat)(hx:x<256):Dg (l.set i x):=by
 intro y hy;rcases bx hy with h|h
 .exact w y h
 .rw[h];exact hx
theorem Zdl(w:Dg l):X4 l<256 ^ (Q l):=by
 induction l with
 | nil=>simp[X4]
 | cons x l ih=>
  have h1:=ih fun y hy=>w y (b9 _ hy);have h2:=w x ch;simp only[X4,bB,b0];omega
theorem jl(w:Dg l)(i:Nat):l.getD i 0=X4 l/256 ^ i%256:=by
 induction l generalizing i with
 | nil=>simp[X4]
 | cons x l ih=>
  have hx:=w x ch
  cases i with
  | zero=>simp only[bn,X4,Nat.pow_zero,Nat.div_one];omega
  | succ i=>
   rw[bp,ih (fun y hy=>w y (b9 _ hy)) i,X4,b0,bg (256 ^ i) 256,<-Nat.div_div_eq_div_mul]
   congr 2
   omega
theorem getD_none(hi:¬i<(Q l)):l.getD i 0=0:=by
 rw[aa,b7 pA];rfl
def uv(x:Nat):aw:=N S (x:Nat)
def W26:Nat:=67108864
def BG(n Z5:Nat):List Nat:=[n%67108864,n/67108864%67108864,n/4503599627370496%67108864,n/302231454903657293676544%67108864,n/20282409603651670423947251286016+Z5*16777216]
theorem Gj(x n:Nat)(hn:n<=64):Xr S (x:Int) (n:Int)=((x*2 ^ n%18446744073709551616:Nat):Int):=by
 rw[Be S x n (by show n<=64;omega),Lj];rfl
theorem Nj(x n:Nat)(hn:n<=64):XF S (x:Int) (n:Int)=((x/2 ^ n:Nat):Int):=by
 rw[Nb S x n (by show n<=64;omega),Nat.shiftRight_eq_div_pow]
theorem OB(x:Nat)(hx:x<18446744073709551616):YO .and S (x:Int) 67108863=((x%67108864:Nat):Int):=by
 have h:=ZcY x 67108863 hx aaa;have e:x &&& 67108863=x%67108864:=Nat.and_two_pow_sub_one_eq_mod x 26;rw[e]at h;exact h
theorem m7(L b:Nat)(hL:L<72057594037927936)(hb:b<256):YO .or S ((L*256:Nat):Int) (b:Int)=((L*256+b:Nat):Int):=by
 rw[ix _ _ pA pA,Uw (k:=8) pA pA]
theorem ZlK(L:Nat)(hL:L<72057594037927936):Xr S (L:Int) 8=((L*256:Nat):Int):=by
 have h:=Gj L 8 aaa;rw[show L*2 ^ 8%18446744073709551616=L*256 by omega]at h;exact h
theorem bO{m:Nat}(hm:m<(Q l)):X4 (l.drop m)=l.getD m 0+256*X4 (l.drop (m+1)):=by
 rw[List.drop_eq_getElem_cons hm];have e:l.getD m 0=l[m]:=by rw[aa,a4 hm];rfl
 rw[e];rfl
theorem Dg.drop(w:Dg l)(i:Nat):Dg (l.drop i):=fun x hx=>w x (List.mem_of_mem_drop hx)
theorem TE(w:Dg l){n:Nat}(hn:(Q l)<=n):X4 l<256 ^ n:=ck (Zdl w) (Nat.pow_le_pow_right pA hn)
set_option maxHeartbeats 1000000 in
theorem KP(h:Hp)(v:aw)(l:List Nat)(Z5:Nat)(s:Bs h v l)(hl:(Q l)=16)(ht:Z5<=1):
  Zd a7 T 100 #[v,N S Z5] h fun v' h'=>v'=al ((BG (X4 l) Z5).map uv).toArray/\Zj h.size h h':=by
 have wb:=s.byte;obtain⟨p,c,rfl,hc⟩:=s.VM;obtain⟨bb,oo,rfl,TC,hc⟩:=hc (by intro e;subst e;simp at hl);obtain⟨lo,hi,rfl,hlo,hhi⟩:∃lo hi:List Nat,l=lo++hi/\(Q lo)=8/\(Q hi)=8:=⟨l.take 8,l.drop 8,(bl 8 l).symm,by rw[bf];omega,by rw[bc];omega⟩
 have wlo:Dg lo:=fun x hx=>wb x (List.mem_append_left _ hx);have whi:Dg hi:=fun x hx=>wb x (List.mem_append_right _ hx);refine Zd.XS [_,_] Tryz.func100 ?_;simp -implicitDefEqProofs only[go_sem];obtain⟨Z,hZ⟩:∃Z:Obj,Z=R #[N S 0,N S 0,N S 0,N S 0,N S 0] 194:=⟨_,rfl⟩
 refine VS.Yk (fun F g=>g=h.push (R #[N S 0,N S 0,N S 0,N S 0,N S 0] 194)/\F 0=X (W ⟨bb,oo,Y⟩) (lo++hi).length c/\F 1=N S Z5/\F 4=ab (W ⟨h.size,0,Y⟩)/\∃j:Nat,j<=8/\F 7=N O ((j:Int)-1)/\F 5=N S (X4 (lo.drop j):Nat)/\F 6=N S (X4 (hi.drop j):Nat))
  (fun F _=>(vi (F 7)+1).toNat) rfl ⟨rfl,rfl,rfl,rfl,8,by omega,rfl,by rw[b5 (by omega)];rfl,by rw[b5 (by omega)];rfl⟩ ?_
 rintro F g ⟨rfl,f0,f1,f4,j,hj,f7,f5,f6⟩;by_cases ZT:0<j
 .obtain⟨m,rfl⟩:∃m,j=m+1:=⟨j-1,by omega⟩
  have e1:((m+1:Nat):Int)-1=(m:Nat):=by omega
  rw[e1]at f7;have g1:=hc m (by omega);have g2:=hc (8+m) (by omega);have d1:(lo++hi).getD m 0=lo.getD m 0:=by rw[aa,List.getElem?_append_left (by omega),aa]
  have d2:(lo++hi).getD (8+m) 0=hi.getD m 0:=by rw[aa,List.getElem?_append_right (by omega),hlo,Nat.add_sub_cancel_left,aa]
  rw[d1]at g1;rw[d2]at g2;have x1:=wlo.getD m;have x2:=whi.getD m;have n1:X4 (lo.drop m)=X4 (lo.drop (m+1))*256+lo.getD m 0:=by rw[bO (l:=lo) (by omega)];omega
  have n2:X4 (hi.drop m)=X4 (hi.drop (m+1))*256+hi.getD m 0:=by rw[bO (l:=hi) (by omega)];omega
  have b1:=TE (wlo.drop (m+1)) (n:=7) (by rw[bc];omega);have b2:=TE (whi.drop (m+1)) (n:=7) (by rw[bc];omega);rw[show 256 ^ 7=72057594037927936 from rfl]at b1 b2;have s1:=ZlK _ b1;have s2:=ZlK _ b2;have o1:=m7 _ _ b1 x1;have o2:=m7 _ _ b2 x2;have em:(8:Int)+(m:Int)=((8+m:Nat):Int):=by omega
  have k1:(m:Int)<(lo++hi).length:=by omega
  have k2:((8+m:Nat):Int)<(lo++hi).length:=by omega
  have k0:(0:Int)<=m:=by omega
  have ZtC:bb<h.size:=TC;have m1:((lo.getD m 0:Nat):Int)%18446744073709551616=(lo.getD m 0:Nat):=by omega
  have m2:((hi.getD m 0:Nat):Int)%18446744073709551616=(hi.getD m 0:Nat):=by omega
  simp -implicitDefEqProofs only[go_sem,f0,f1,f4,f5,f6,f7,m1,m2,k0,k1,k2,em,aN,ZtC,g1,g2,s1,s2,o1,o2];refine⟨⟨rfl,f0,f1,f4,m,by omega,rfl,?_,?_⟩,?_⟩
  .rw[n1];rfl
  .rw[n2];rfl
  .simp only[vi,Zr,↓reduceIte,f7];omega
 .obtain rfl:j=0:=by omega
  rw[List.drop_zero]at f5 f6;have k0:¬(0:Int)<=((0:Nat):Int)-1:=by omega
  have b1:=TE wlo (n:=8) (by omega);have b2:=TE whi (n:=8) (by omega);rw[show 256 ^ 8=18446744073709551616 from rfl]at b1 b2;have HJ:X4 (lo++hi)=X4 lo+18446744073709551616*X4 hi:=by
   have:∀a b:List Nat,X4 (a++b)=X4 a+256 ^ (Q a)*X4 b:=by
    intro a b
    induction a with
    | nil=>simp[X4]
    | cons x a ih=>simp only[List.cons_append,X4,ih,bB,b0,ca,bz];congr 2;rw[<-a6,bg 256]
   rw[this,hlo]
  rw[HJ];generalize X4 lo=L at *;generalize X4 hi=M at *;have q1:=OB L b1;have q2:XF S (L:Int) 26=((L/2 ^ 26:Nat):Int):=Nj L 26 (by decide);have q3:=OB (L/2 ^ 26) (by omega);have q4:XF S (L:Int) 52=((L/2 ^ 52:Nat):Int):=Nj L 52 (by decide);have q5:Xr S (M:Int) 12=((M*2 ^ 12%18446744073709551616:Nat):Int):=Gj M 12 (by decide);have q6:=ix (L/2 ^ 52) (M*2 ^ 12%18446744073709551616) (by omega) (by omega);rw[Nat.or_comm,Uw (k:=12) (by omega) (by omega)]at q6;have q7:=OB (M*2 ^ 12%18446744073709551616+L/2 ^ 52) (by omega);have q8:XF S (M:Int) 14=((M/2 ^ 14:Nat):Int):=Nj M 14 (by decide);have q9:=OB (M/2 ^ 14) (by omega);have q10:XF S (M:Int) 40=((M/2 ^ 40:Nat):Int):=Nj M 40 (by decide);have q11:Xr S (Z5:Int) 24=((Z5*2 ^ 24%18446744073709551616:Nat):Int):=Gj Z5 24 (by decide);have q12:=ix (M/2 ^ 40) (Z5*2 ^ 24%18446744073709551616) (by omega) (by omega);rw[Nat.or_comm,Uw (k:=24) (by omega) (by omega)]at q12;simp -implicitDefEqProofs only[go_sem,f0,f1,f4,f5,f6,f7,k0,q1,q2,q3,q4,q5,q6,q7,q8,q9,q10,q11,q12];have w1:L%67108864=(L+18446744073709551616*M)%67108864:=by omega
  have w2:L/2 ^ 26%67108864=(L+18446744073709551616*M)/67108864%67108864:=by omega
  have w3:(M*2 ^ 12%18446744073709551616+L/2 ^ 52)%67108864=(L+18446744073709551616*M)/4503599627370496%67108864:=by omega
  have w4:M/2 ^ 14%67108864=(L+18446744073709551616*M)/302231454903657293676544%67108864:=by omega
  have w5:Z5*2 ^ 24%18446744073709551616+M/2 ^ 40=(L+18446744073709551616*M)/20282409603651670423947251286016+Z5*16777216:=by omega
  rw[w1,w2,w3,w4,w5];rfl
def MC(l:List Nat)(i:Nat):List Nat:=
 if i<4 then (l.set i (l.getD i 0%67108864)).set (i+1) ((l.set i (l.getD i 0%67108864)).getD (i+1) 0+l.getD i 0/67108864)
 else (l.set i (l.getD i 0%67108864)).set 0 ((l.set i (l.getD i 0%67108864)).getD 0 0+5*(l.getD i 0/67108864))
def QQ(l:List Nat):Nat->List Nat
 | 0=>l
 | i+1=>MC (QQ l i) i
def Y5(K:Nat)(l:List Nat):Prop:=∀x∈l,x<K
theorem Y5.getD{K:Nat}(w:Y5 K l)(hK:0<K)(i:Nat):l.getD i 0<K:=by
 by_cases hi:i<(Q l)
 .have e:l.getD i 0=l[i]:=by rw[aa,a4 hi];rfl
  rw[e];exact w _ (bG hi)
 .rw[getD_none hi];exact hK
theorem Y5.set{K:Nat}(w:Y5 K l)(i x:Nat)(hx:x<K):Y5 K (l.set i x):=by
 intro y hy;rcases bx hy with h|h
 .exact w y h
 .rw[h];exact hx
theorem Y5.mono{K K':Nat}(w:Y5 K l)(h:K<=K'):Y5 K' l:=fun x hx=>ck (w x hx) h
theorem Di(l:List Nat)(i:Nat):(MC l i).length=(Q l):=by
 unfold MC;split<;>simp
theorem Md(l:List Nat):∀i,(QQ l i).length=(Q l)
 | 0=>rfl
 | i+1=>by rw[QQ,Di,Md l i]
theorem qZ{K:Nat}(w:Y5 K l)(h0:67108864<=K)(hK:K<=2 ^ 62):Y5 (K+2 ^ 39) (MC l i):=by
 have hx:=w.getD pA i;have w1:Y5 K (l.set i (l.getD i 0%67108864)):=w.set i _ pA;have hy:=w1.getD pA (i+1);have hz:=w1.getD pA 0;unfold MC;split
 .exact (w1.mono pA).set _ _ pA
 .exact (w1.mono pA).set _ _ pA
theorem D2{K:Nat}(w:Y5 K l)(h0:67108864<=K)(hK:K<=2 ^ 61):∀i,i<=5->Y5 (K+i*2 ^ 39) (QQ l i)
 | 0,_=>by rw[ct,cx];exact w
 | i+1,hi=>by
  have:=qZ (i:=i) (D2 w h0 hK i pA) pA pA;rw[QQ];exact this.mono pA
theorem LM{j x:Nat}(h:i≠j):(l.set i x).getD j 0=l.getD j 0:=by
 rw[aa,aa,be h]
def YW(l:List Nat):Obj:=R (l.map uv++[]).toArray 194
theorem nc(x:Nat):XF S (x:Int) 26=((x/67108864:Nat):Int):=Nj x 26 aaa
set_option maxHeartbeats 1000000 in
theorem jm(h:Hp)(bk:Nat)(l:List Nat)(hl:(Q l)=5)(w:Y5 (2 ^ 61) l)(hb:h[bk]? = W (YW l)):
  Zd a7 T 127 #[ab (W ⟨bk,0,Y⟩)] h fun v' h'=>∃a,a=QQ l 5/\h'=h.setIfInBounds bk (YW ((a.set 1 (a.getD 1 0+a.getD 0 0/67108864)).set 0 (a.getD 0 0%67108864))):=by
 refine Zd.XS [_] Tryz.func127 ?_;simp -implicitDefEqProofs only[go_sem];refine VS.Yk (fun F g=>F 0=ab (W ⟨bk,0,Y⟩)/\∃i:Nat,i<=5/\F 4=N O i/\g=h.setIfInBounds bk (YW (QQ l i)))
  (fun F _=>5-(vi (F 4)).toNat) rfl ⟨rfl,0,pA,rfl,(Vm hb).symm⟩ ?_
 rintro F g ⟨f0,i,hi,f4,rfl⟩;have hx:=Yd (o:=YW (QQ l i)) hb;have hw:=D2 w aaa aaa i hi;have hw2:=hw.getD pA i;have hln:(QQ l i).length=5:=by rw[Md,hl]
 by_cases ZT:i<5
 .have Z7:(i:Int)<5:=pA;have XI:QQ l (i+1)=MC (QQ l i) i:=rfl;obtain⟨a,ha⟩:=ZL (QQ l i);rw[<-ha]at hx hw hw2 hln XI ⊢;obtain⟨G,hG⟩:=ZL (h.setIfInBounds bk (YW a));rw[<-hG]at hx ⊢;have g1:=Z8 hx (i:=i) pA;unfold uv at g1;obtain⟨x,hxx⟩:=ZL (a.getD i 0);rw[<-hxx]at g1 hw2;have e1:=nc x;have e2:=OB x pA;simp -implicitDefEqProofs only[go_sem,f0,f4,Z7,aN,ba,g1,e1];refine VS.w (bk+1) [8] (.q 0 (.q 1 (.q 2 (.q 3 (.q 4 (.q 5 (.q 6 (.q 7 (.w 8 .nil))))))))) mixed vM ?_;have c1:QX _ ⟨bk,i,Y⟩ (N S (x%67108864:Nat))=_:=Yx (f:=uv) hx (i:=i) pA (x%67108864) rfl;have Wf:=Yd (o:=R ((a.set i (x%67108864)).map uv++[]).toArray 194) hx;have BH:=hw.set i (x%67108864) pA;have WB:MC a i=if i<4 then (a.set i (x%67108864)).set (i+1) ((a.set i (x%67108864)).getD (i+1) 0+x/67108864) else (a.set i (x%67108864)).set 0 ((a.set i (x%67108864)).getD 0 0+5*(x/67108864)):=by rw[hxx];rfl
  have mX:(a.set i (x%67108864)).length=5:=by rw[a8,hln]
  obtain⟨a1,ha1⟩:=ZL (a.set i (x%67108864));rw[<-ha1]at Wf BH WB mX c1;obtain⟨G1,vu⟩:=ZL (G.setIfInBounds bk (R (a1.map uv++[]).toArray 194));rw[<-vu]at Wf c1;by_cases h4:i<4
  .have h4':(i:Int)<4:=pA;rw[if_pos h4]at WB;simp -implicitDefEqProofs only[go_sem,f0,f4,Z7,aN,ba,g1,e1,e2,c1,h4'];refine VS.w (bk+1) [10] (.q 0 (.q 1 (.q 2 (.q 3 (.q 4 (.q 5 (.q 6 (.q 7 (.q 8 (.q 9 (.w 10 .nil))))))))))) mixed vM ?_;have g2:=Z8 Wf (i:=i+1) pA;unfold uv at g2;have hy:=BH.getD pA (i+1);obtain⟨y,hyy⟩:=ZL (a1.getD (i+1) 0);rw[<-hyy]at g2 hy WB;have e3:(y:Int)+((x/67108864:Nat):Int)=((y+x/67108864:Nat):Int):=pA;have e4:((y+x/67108864:Nat):Int)%18446744073709551616=((y+x/67108864:Nat):Int):=pA;have ei:(i:Int)+1=((i+1:Nat):Int):=rfl;have hi1:((i+1:Nat):Int)<5:=pA;have c2:QX G1 ⟨bk,i+1,Y⟩ (N S (y+x/67108864:Nat))=_:=Yx (f:=uv) Wf (i:=i+1) pA (y+x/67108864) rfl;simp -implicitDefEqProofs only[go_sem,f0,f4,Z7,ei,hi1,aN,ba,g2,e3,e4,c2];refine⟨⟨f0,i+1,ZT,rfl,?_⟩,?_⟩
   .rw[vu,set_set,hG,set_set,XI,WB];rfl
   .simp only[vi,Zr,↓reduceIte,f4];omega
  .have h4':¬(i:Int)<4:=pA;rw[if_neg h4]at WB;simp -implicitDefEqProofs only[go_sem,f0,f4,Z7,aN,ba,g1,e1,e2,c1,h4'];refine VS.w (bk+1) [9] (.q 0 (.q 1 (.q 2 (.q 3 (.q 4 (.q 5 (.q 6 (.q 7 (.q 8 (.w 9 .nil)))))))))) mixed vM ?_;have g2:=Z8 Wf (i:=0) pA;unfold uv at g2;have hy:=BH.getD pA 0;obtain⟨y,hyy⟩:=ZL (a1.getD 0 0);rw[<-hyy]at g2 hy WB;have e5:(5:Int)*((x/67108864:Nat):Int)=((5*(x/67108864):Nat):Int):=pA;have e6:((5*(x/67108864):Nat):Int)%18446744073709551616=((5*(x/67108864):Nat):Int):=pA;have e3:(y:Int)+((5*(x/67108864):Nat):Int)=((y+5*(x/67108864):Nat):Int):=pA;have e4:((y+5*(x/67108864):Nat):Int)%18446744073709551616=((y+5*(x/67108864):Nat):Int):=pA;have c2:QX G1 ⟨bk,0,Y⟩ (N S (y+5*(x/67108864):Nat))=_:=Yx (f:=uv) Wf (i:=0) pA (y+5*(x/67108864)) rfl;simp -implicitDefEqProofs only[go_sem,f0,f4,Z7,aN,ba,g2,e3,e4,e5,e6,c2];refine⟨⟨f0,i+1,ZT,rfl,?_⟩,?_⟩
   .rw[vu,set_set,hG,set_set,XI,WB];rfl
   .simp only[vi,Zr,↓reduceIte,f4];omega
 .have Xv:¬(i:Int)<5:=pA;obtain rfl:i=5:=pA;obtain⟨a,ha⟩:=ZL (QQ l 5);rw[<-ha]at hx hw hw2 hln ⊢;obtain⟨G,hG⟩:=ZL (h.setIfInBounds bk (YW a));rw[<-hG]at hx ⊢;have g0:=Z8 hx (i:=0) pA;have g1:=Z8 hx (i:=1) pA;have y0:=hw.getD pA 0;have y1:=hw.getD pA 1;unfold uv at g0 g1;obtain⟨x,hxx⟩:=ZL (a.getD 0 0);obtain⟨y,hyy⟩:=ZL (a.getD 1 0);rw[<-hxx]at g0 y0;rw[<-hyy]at g1 y1;have e1:=nc x;have e2:=OB x pA;have e3:(y:Int)+((x/67108864:Nat):Int)=((y+x/67108864:Nat):Int):=pA;have e4:((y+x/67108864:Nat):Int)%18446744073709551616=((y+x/67108864:Nat):Int):=pA;have c5:((5:Nat):Int)=5:=rfl;rw[c5]at f4 Xv;simp -implicitDefEqProofs only[go_sem,f0,f4,Xv];refine VS.w (bk+1) [12] (.q 0 (.q 1 (.q 2 (.q 3 (.q 4 (.q 5 (.q 6 (.q 7 (.q 8 (.q 9 (.q 10 (.q 11 (.w 12 .nil))))))))))))) mixed vM ?_;have c1:QX G ⟨bk,1,Y⟩ (N S (y+x/67108864:Nat))=_:=Yx (f:=uv) hx (i:=1) pA (y+x/67108864) rfl;have Wf:=Yd (o:=R ((a.set 1 (y+x/67108864)).map uv++[]).toArray 194) hx;have mX:(a.set 1 (y+x/67108864)).length=5:=by rw[a8,hln]
  obtain⟨a1,ha1⟩:=ZL (a.set 1 (y+x/67108864));rw[<-ha1]at Wf mX c1;obtain⟨G1,vu⟩:=ZL (G.setIfInBounds bk (R (a1.map uv++[]).toArray 194));rw[<-vu]at Wf c1;have g2:=Z8 Wf (i:=0) pA;unfold uv at g2;have g2e:a1.getD 0 0=x:=by rw[ha1,LM aaa,<-hxx]
  rw[g2e]at g2;simp -implicitDefEqProofs only[go_sem,f0,ba,g0,g1,e1,e3,e4,c1];refine VS.w (bk+1) [7] (.q 0 (.q 1 (.q 2 (.q 3 (.q 4 (.q 5 (.q 6 (.w 7 .nil)))))))) mixed vM ?_;have c2:QX G1 ⟨bk,0,Y⟩ (N S (x%67108864:Nat))=_:=Yx (f:=uv) Wf (i:=0) pA (x%67108864) rfl;simp -implicitDefEqProofs only[go_sem,f0,ba,g2,e2,c2];rw[vu,set_set,hG,set_set,ha1];exact⟨a,rfl,by rw[<-hxx,<-hyy];rfl⟩
theorem getD_set_ne{j x:Nat}(h:i≠j):(l.set i x).getD j 0=l.getD j 0:=by
 rw[aa,aa,be h]
def H16:Nat:=256 ^ 16
def Rr:Nat:=4*256 ^ 16-5
def Xc:List Nat->Nat
 | []=>0
 | x :: l=>x+67108864*Xc l
theorem LN:Rr=1361129467683753853853498429727072845819:=rfl
theorem jn{a b c d e:Nat}:∃q r0 r1 r2 r3 r4:Nat,QQ [a,b,c,d,e] 5=[r0,r1,r2,r3,r4]/\Xc [a,b,c,d,e]=Xc [r0,r1,r2,r3,r4]+Rr*q/\r1<67108864/\r2<67108864/\r3<67108864/\r4<67108864/\r0<=67108863+5*q/\q<=(e+(d+(c+(b+a/67108864)/67108864)/67108864)/67108864)/67108864:=by
 refine⟨(e+(d+(c+(b+a/67108864)/67108864)/67108864)/67108864)/67108864,a%67108864+5*((e+(d+(c+(b+a/67108864)/67108864)/67108864)/67108864)/67108864),(b+a/67108864)%67108864,(c+(b+a/67108864)/67108864)%67108864,(d+(c+(b+a/67108864)/67108864)/67108864)%67108864,(e+(d+(c+(b+a/67108864)/67108864)/67108864)/67108864)%67108864,?_,?_,cn _ aaa,cn _ aaa,cn _ aaa,cn _ aaa,pA,a0 _⟩
 .rfl
 .simp only[Xc,LN];omega
theorem HN(h:(Q l)=5):∃a b c d e,l=[a,b,c,d,e]:=by
 match l,h with
 | [a,b,c,d,e],_=>exact⟨a,b,c,d,e,rfl⟩
def Jc(l:List Nat):List Nat:=((QQ l 5).set 1 ((QQ l 5).getD 1 0+(QQ l 5).getD 0 0/67108864)).set 0 ((QQ l 5).getD 0 0%67108864)
theorem Y5.HN{K a b c d e:Nat}(ha:a<K)(hb:b<K)(hc:c<K)(hd:d<K)(he:e<K):Y5 K [a,b,c,d,e]:=by
 intro x hx;simp only[List.mem_cons,List.not_mem_nil,or_false]at hx;rcases hx with rfl|rfl|rfl|rfl|rfl<;>assumption
theorem Y5.Zdn{K a b c d e:Nat}(w:Y5 K [a,b,c,d,e]):a<K/\b<K/\c<K/\d<K/\e<K:=
 ⟨w a IQ,w b IQ,w c IQ,w d IQ,w e IQ⟩
theorem Nk(hl:(Q l)=5)(w:Y5 (2 ^ 61) l):(Jc l).length=5/\Y5 134217728 (Jc l)/\Xc (Jc l)%Rr=Xc l%Rr/\Xc (Jc l)<4*H16+2 ^ 44:=by
 obtain⟨a,b,c,d,e,rfl⟩:=HN hl;obtain⟨wa,wb,wc,wd,we⟩:=w.Zdn;obtain⟨q,r0,r1,r2,r3,r4,hc,hv,h1,h2,h3,h4,h0,hq⟩:=@jn a b c d e;have hL:Jc [a,b,c,d,e]=[r0%67108864,r1+r0/67108864,r2,r3,r4]:=by unfold Jc;rw[hc];rfl
 have hq':q<2 ^ 36:=pA;have hr:r0/67108864<8192:=pA;have HJ:Xc [r0%67108864,r1+r0/67108864,r2,r3,r4]=Xc [r0,r1,r2,r3,r4]:=by simp only[Xc];omega
 rw[hL];refine⟨rfl,Y5.HN pA pA pA pA pA,?_,?_⟩
 .rw[HJ,hv,bh]
 .rw[HJ];have e16:H16=340282366920938463463374607431768211456:=rfl;rw[e16];have h0':r0<549755813888:=pA;clear hv hc hq hq' hL HJ h0;simp only[Xc];omega
def PI(a b:Nat)(out:List Nat)(i k:Nat):List Nat:=if i+k<5 then out.set (i+k) (out.getD (i+k) 0+a*b) else out.set (i+k-5) (out.getD (i+k-5) 0+5*a*b)
def OC(a:Nat)(bs out:List Nat)(i:Nat):Nat->List Nat
 | 0=>out
 | k+1=>PI a (bs.getD k 0) (OC a bs out i k) i k
def V1(xs bs:List Nat):Nat->List Nat
 | 0=>[0,0,0,0,0]
 | i+1=>OC (xs.getD i 0) bs (V1 xs bs i) i 5
theorem BI(a b:Nat)(out:List Nat)(i k:Nat):(PI a b out i k).length=(Q out):=by unfold PI;split<;>simp
theorem Ss(a:Nat)(bs out:List Nat)(i:Nat):∀k,(OC a bs out i k).length=(Q out)
 | 0=>rfl
 | k+1=>by rw[OC,BI,Ss a bs out i k]
theorem St(xs bs:List Nat):∀i,(V1 xs bs i).length=5
 | 0=>rfl
 | i+1=>by rw[V1,Ss,St xs bs i]
theorem KQ{a b:Nat}(ha:a<268435456)(hb:b<67108864):a*b<18014398509481984:=
 Nat.lt_of_le_of_lt (Nat.mul_le_mul (cy (show a<268435455+1 from ha)) (cy (show b<67108863+1 from hb))) aaa
theorem Fq{a b:Nat}(ha:a<268435456)(hb:b<67108864):5*a*b<90071992547409920:=by
 have:=KQ ha hb;rw[a6];omega
theorem zj{K a b:Nat}{out:List Nat}{k:Nat}(w:Y5 K out)(hK:0<K)(ha:a<268435456)(hb:b<67108864):Y5 (K+90071992547409920) (PI a b out i k):=by
 have h1:=KQ ha hb;have h2:=Fq ha hb;have q1:=w.getD hK (i+k);have q2:=w.getD hK (i+k-5);unfold PI;split
 .exact (w.mono pA).set _ _ pA
 .exact (w.mono pA).set _ _ pA
theorem BJ{K a:Nat}{bs out:List Nat}(w:Y5 K out)(hK:0<K)(ha:a<268435456)(hb:Y5 67108864 bs):∀k,Y5 (K+k*90071992547409920) (OC a bs out i k)
 | 0=>by rw[ct];exact w
 | k+1=>by
  rw[OC,Nat.add_mul,Nat.one_mul,<-bz];exact zj (BJ w hK ha hb k) pA ha (hb.getD pA k)
theorem BK{xs bs:List Nat}(ha:Y5 268435456 xs)(hb:Y5 67108864 bs):∀i,Y5 (1+i*450359962737049600) (V1 xs bs i)
 | 0=>Y5.HN pA pA pA pA pA
 | i+1=>by
  rw[V1];exact (BJ (BK ha hb i) pA (ha.getD pA i) hb 5).mono pA
theorem KR:∀{l:List Nat} {i x:Nat},i<(Q l)->Xc (l.set i (l.getD i 0+x))=Xc l+x*67108864 ^ i
 | y :: l,0,x,_=>by simp only[co,bn,Xc,Nat.pow_zero,Nat.mul_one];omega
 | y :: l,i+1,x,h=>by
  simp only[cp,bp,Xc];rw[KR (l:=l) (i:=i) (x:=x) (by simpa using h),b0,<-a6];omega
theorem X5:67108864 ^ 5=Rr+5:=rfl
theorem ZlN(v a b y P:Nat):(v+5*a*b*y)%P=(v+a*b*(y*(P+5)))%P:=by
 have e:a*b*(y*(P+5))=5*a*b*y+P*(a*b*y):=by
  rw[ca,ca,Nat.add_comm]
  congr 1
  .rw[bg y 5,<-a6,bg (a*b) 5,<-a6 5 a b]
  .rw[bg y P,<-a6,bg (a*b) P,a6]
 rw[e,<-bz,bh]
theorem rh{a b:Nat}{out:List Nat}{k:Nat}(hl:(Q out)=5)(hi:i<5)(hk:k<5):Xc (PI a b out i k)%Rr=(Xc out+a*b*67108864 ^ (i+k))%Rr:=by
 unfold PI;split
 .rename_i h;rw[KR pA]
 .rename_i h;rw[KR pA];obtain⟨j,hj⟩:∃j,i+k=j+5:=⟨i+k-5,pA⟩
  rw[hj,bw,Nat.pow_add,X5];exact ZlN _ _ _ _ _
def pvn(bs:List Nat):Nat->Nat
 | 0=>0
 | k+1=>pvn bs k+bs.getD k 0*67108864 ^ k
theorem bP{bs:List Nat}(h:(Q bs)=5):pvn bs 5=Xc bs:=by
 obtain⟨a,b,c,d,e,rfl⟩:=HN h;simp only[pvn,Xc,bn,bp];omega
theorem bQ{a:Nat}{bs out:List Nat}(hl:(Q out)=5)(hi:i<5):∀k,k<=5->Xc (OC a bs out i k)%Rr=(Xc out+a*67108864 ^ i*pvn bs k)%Rr
 | 0,_=>by rw[OC,pvn,Nat.mul_zero,cx]
 | k+1,hk=>by
  rw[OC,rh (by rw[Ss,hl]) hi pA,cd,bQ hl hi k pA,<-cd,pvn,ca,<-bz,Nat.pow_add]
  congr 2
  rw[a6,a6 a]
  congr 1
  rw[<-a6,bg (bs.getD k 0),a6]
theorem bT{xs bs:List Nat}(hb:(Q bs)=5):∀i,i<=5->Xc (V1 xs bs i)%Rr=(pvn xs i*Xc bs)%Rr
 | 0,_=>by rw[pvn,ct];rfl
 | i+1,hi=>by
  rw[V1,bQ (St xs bs i) pA 5 pA,cd,bT hb i pA,<-cd,bP hb,pvn,Nat.add_mul]
theorem D3{xs bs:List Nat}(ha:(Q xs)=5)(hb:(Q bs)=5)(wa:Y5 268435456 xs)(wb:Y5 67108864 bs):
  Y5 (2 ^ 61) (V1 xs bs 5)/\(V1 xs bs 5).length=5/\Xc (V1 xs bs 5)%Rr=Xc xs*Xc bs%Rr:=
 ⟨(BK wa wb 5).mono aaa,St xs bs 5,by rw[bT hb 5 pA,bP ha]⟩
def NK(m:List Nat):Nat->List Nat
 | 0=>m.set 0 (m.getD 0 0+5)
 | i+1=>((NK m i).set (i+1) ((NK m i).getD (i+1) 0+(NK m i).getD i 0/67108864)).set i ((NK m i).getD i 0%67108864)
theorem Fr(m:List Nat):∀i,(NK m i).length=(Q m)
 | 0=>by simp[NK]
 | i+1=>by rw[NK,a8,a8,Fr m i]
theorem zk{m:List Nat}(w:Y5 134217728 m):∀i,i<=10->Y5 (134217728+6+i*8) (NK m i)
 | 0,_=>(w.mono pA).set _ _ (by have:=w.getD pA 0;omega)
 | i+1,hi=>by
  have h:=zk w i pA;have q1:=h.getD pA (i+1);have q2:=h.getD pA i;rw[NK];exact ((h.mono pA).set _ _ pA).set _ _ pA
def OD(m:List Nat):List Nat:=if (NK m 4).getD 4 0/67108864=0 then m else (NK m 4).set 4 ((NK m 4).getD 4 0%67108864)
theorem ZtF{A B C P:Nat}(h1:A+5=B)(h2:B=C)(h3:C<P+5):A<P:=pA
theorem ZtG{A B C q:Nat}(h1:A+5=B)(h2:B=C+1361129467683753853853498429727072845824*q)(hv:A<1361129467683753853853498429727072845824+2 ^ 44)(h0:¬q=0):q=1:=pA
theorem ZtH{A B C P:Nat}(h1:A+5=B)(h2:B=C+(P+5))(hv:A<P+5+2 ^ 44)(hP:2 ^ 45<P):A=C+P*1/\C<P:=pA
theorem rn{m:List Nat}(hl:(Q m)=5)(w:Y5 134217728 m)(hv:Xc m<4*H16+2 ^ 44):(OD m).length=5/\Y5 134217728 (OD m)/\Xc (OD m)=Xc m%Rr:=by
 obtain⟨a,b,c,d,e,rfl⟩:=HN hl;obtain⟨wa,wb,wc,wd,we⟩:=w.Zdn;obtain⟨t0,ht0⟩:∃t,t=a+5:=⟨_,rfl⟩
 obtain⟨t1,ht1⟩:∃t,t=b+t0/67108864:=⟨_,rfl⟩
 obtain⟨t2,ht2⟩:∃t,t=c+t1/67108864:=⟨_,rfl⟩
 obtain⟨t3,ht3⟩:∃t,t=d+t2/67108864:=⟨_,rfl⟩
 obtain⟨t4,ht4⟩:∃t,t=e+t3/67108864:=⟨_,rfl⟩
 have hY:NK [a,b,c,d,e] 4=[t0%67108864,t1%67108864,t2%67108864,t3%67108864,t4]:=by rw[ht4,ht3,ht2,ht1,ht0];rfl
 have hW:OD [a,b,c,d,e]=if t4/67108864=0 then [a,b,c,d,e] else [t0%67108864,t1%67108864,t2%67108864,t3%67108864,t4%67108864]:=by unfold OD;rw[hY];rfl
 have e16:H16=340282366920938463463374607431768211456:=rfl;rw[hW];have hs:Xc [a,b,c,d,e]+5=Xc [t0%67108864,t1%67108864,t2%67108864,t3%67108864,t4]:=by simp only[Xc];omega
 have hx:Xc [t0%67108864,t1%67108864,t2%67108864,t3%67108864,t4]=Xc [t0%67108864,t1%67108864,t2%67108864,t3%67108864,t4%67108864]+(Rr+5)*(t4/67108864):=by rw[LN];simp only[Xc];omega
 have hb4:Xc [t0%67108864,t1%67108864,t2%67108864,t3%67108864,t4%67108864]<Rr+5:=by rw[LN];simp only[Xc];omega
 have hH:4*H16=Rr+5:=rfl;rw[hH]at hv;split
 .rename_i h0;refine⟨rfl,w,?_⟩;rw[h0,Nat.mul_zero,cx]at hx;rw[cz (ZtF hs hx hb4)]
 .rename_i h0;refine⟨rfl,Y5.HN pA pA pA pA pA,?_⟩;have h1:t4/67108864=1:=by
   rw[LN]at hx hv;exact ZtG hs hx hv h0
  rw[h1,Nat.mul_one]at hx;obtain⟨hk,hC⟩:=ZtH hs hx hv (by rw[LN];decide);rw[hk,bh,cz hC]
theorem bU(h:Hp)(bk:Nat)(l:List Nat)(hl:(Q l)=5)(w:Y5 (2 ^ 61) l)(hb:h[bk]? = W (YW l)):
  Zd a7 T 127 #[ab (W ⟨bk,0,Y⟩)] h fun v' h'=>h'=h.setIfInBounds bk (YW (Jc l)):=
 (jm T h bk l hl w hb).mono fun v' h' ⟨a,ha,hh⟩=>by subst ha;exact hh
theorem BL(hi:i<(Q l)):nth (l.map uv) i=W (N S (l.getD i 0:Nat)):=by
 rw[YU,List.getElem?_map,a4 hi,aa,a4 hi];rfl
theorem OE{g:Hp}{b:Nat}(hl:(Q l)=5)(hx:g[b]? = W (YW l)):rd g ⟨b,0,Y⟩ 5=W (l.map uv):=by
 unfold YW at hx;rw[a5]at hx;exact Zy hx (by simpa using hl)
set_option maxHeartbeats 1000000 in
theorem bV(h:Hp)(xs bs:List Nat)(ha:(Q xs)=5)(hb:(Q bs)=5)(wa:Y5 268435456 xs)(wb:Y5 67108864 bs):
  Zd a7 T 101 #[al (xs.map uv).toArray,al (bs.map uv).toArray] h fun v' h'=>v'=al ((Jc (V1 xs bs 5)).map uv).toArray/\Zj h.size h h':=by
 have la:(xs.map uv).length=5:=by simpa using ha
 have lb:(bs.map uv).length=5:=by simpa using hb
 have ta:(xs.map uv).take 5=xs.map uv:=bd pA;refine Zd.XS [_,_] Tryz.func101 ?_;simp -implicitDefEqProofs only[go_sem,la,lb,ta];obtain⟨H,hH⟩:=ZL (((((h.push (R (xs.map uv).toArray 194)).push (R (bs.map uv).toArray 194)).push (R #[N S 0,N S 0,N S 0,N S 0,N S 0] 194)).push (R #[N S 0,N S 0,N S 0,N S 0,N S 0] 194)):Hp);have HB:Zj h.size h H:=by rw[hH];exact (((Zj.push (a0 _) _).YX IQ _).YX VL _).YX VL _
 have Hs:H.size=h.size+1+1+1+1:=by rw[hH];simp
 have H1:H[h.size+1]? = W (YW bs):=by
  rw[hH,ZJ IQ,ZJ IQ];have:=Zc (h:=h.push (R (xs.map uv).toArray 194)) (o:=R (bs.map uv).toArray 194);rw[ag]at this;rw[this];unfold YW;rw[a5]
 have H3:H[h.size+1+1+1]? = W (YW (V1 xs bs 0)):=by
  have:=Zc (h:=(((h.push (R (xs.map uv).toArray 194)).push (R (bs.map uv).toArray 194)).push (R #[N S 0,N S 0,N S 0,N S 0,N S 0] 194))) (o:=R #[N S 0,N S 0,N S 0,N S 0,N S 0] 194);rw[ag,ag,ag]at this;rw[hH,this];rfl
 have H2:H[h.size+1+1]? = W (YW [0,0,0,0,0]):=by
  have:=Zc (h:=((h.push (R (xs.map uv).toArray 194)).push (R (bs.map uv).toArray 194))) (o:=R #[N S 0,N S 0,N S 0,N S 0,N S 0] 194);rw[ag,ag]at this;rw[hH,ZJ IQ,this];rfl
 rw[<-hH];clear hH;obtain⟨bo,hbo⟩:=ZL (h.size+1+1+1);obtain⟨br,hbr⟩:=ZL (h.size+1+1);obtain⟨bb,TC⟩:=ZL (h.size+1);rw[<-hbo]at H3 ⊢;rw[<-hbr]at H2 ⊢;rw[<-TC]at H1 ⊢;refine VS.Yk (fun F g=>F 3=ab (W ⟨bb,0,Y⟩)/\F 4=ab (W ⟨br,0,Y⟩)/\F 5=ab (W ⟨bo,0,Y⟩)/\F 10=al (xs.map uv).toArray/\∃i:Nat,i<=5/\F 11=N O i/\g=H.setIfInBounds bo (YW (V1 xs bs i)))
  (fun F _=>5-(vi (F 11)).toNat) rfl ⟨rfl,rfl,rfl,rfl,0,pA,rfl,(Vm H3).symm⟩ ?_
 rintro F g ⟨f3,f4,f5,f10,i,hi,f11,rfl⟩;by_cases ZT:i<5
 .have Z7:(i:Int)<5:=pA;have n1:=BL (l:=xs) (i:=i) pA;have H1':(H.setIfInBounds bo (YW (V1 xs bs i)))[bb]? = W (YW bs):=by rw[U,if_neg pA];exact H1
  have r1:=OE hb H1';have wA:=wa.getD pA i;have Zhi:V1 xs bs (i+1)=OC (xs.getD i 0) bs (V1 xs bs i) i 5:=rfl;obtain⟨a,hax⟩:=ZL (xs.getD i 0);rw[<-hax]at n1 wA Zhi;simp -implicitDefEqProofs only[go_sem,f3,f4,f5,f10,f11,Z7,aN,n1,r1];have wO:Y5 (1+i*450359962737049600) (V1 xs bs i):=BK wa wb i;have lO:=St xs bs i;obtain⟨o,ho⟩:=ZL (V1 xs bs i);rw[<-ho]at Zhi wO lO ⊢;refine VS.Yk (fun F g=>F 3=ab (W ⟨bb,0,Y⟩)/\F 4=ab (W ⟨br,0,Y⟩)/\F 5=ab (W ⟨bo,0,Y⟩)/\F 10=al (xs.map uv).toArray/\F 11=N O i/\F 6=N O i/\F 7=N S a/\F 15=al (bs.map uv).toArray/\∃k:Nat,k<=5/\F 16=N O k/\g=H.setIfInBounds bo (YW (OC a bs o i k)))
   (fun F _=>5-(vi (F 16)).toNat) rfl ⟨f3,f4,f5,f10,f11,rfl,rfl,rfl,0,pA,rfl,rfl⟩ ?_
  clear f3 f4 f5 f10 f11 F;rintro F g ⟨f3,f4,f5,f10,f11,f6,f7,f15,k,hk,f16,rfl⟩;by_cases hlk:k<5
  .have ZlP:(k:Int)<5:=pA;have n2:=BL (l:=bs) (i:=k) pA;have wB:=wb.getD pA k;have PK:OC a bs o i (k+1)=PI a (bs.getD k 0) (OC a bs o i k) i k:=rfl;obtain⟨b,hbx⟩:=ZL (bs.getD k 0);rw[<-hbx]at n2 wB PK;have wR:=BJ wO pA wA wb (i:=i) k;have lR:(OC a bs o i k).length=5:=by rw[Ss,lO]
   have hx:(H.setIfInBounds bo (YW (OC a bs o i k)))[bo]? = W (YW (OC a bs o i k)):=Yd H3;have hp:=KQ wA wB;have hp5:=Fq wA wB;obtain⟨r,hr⟩:=ZL (OC a bs o i k);rw[<-hr]at PK wR lR hx ⊢;obtain⟨G,hG⟩:=ZL (H.setIfInBounds bo (YW r));rw[<-hG]at hx ⊢;have eik:(i:Int)+(k:Int)=((i+k:Nat):Int):=rfl;by_cases h5:i+k<5
   .have h5':((i+k:Nat):Int)<5:=pA;have g1:=Z8 hx (i:=i+k) pA;have y1:=wR.getD pA (i+k);unfold uv at g1;have hs:PI a b r i k=r.set (i+k) (r.getD (i+k) 0+a*b):=by unfold PI;rw[if_pos h5]
    rw[hs]at PK;obtain⟨y,hy⟩:=ZL (r.getD (i+k) 0);rw[<-hy]at g1 y1 PK;have e1:(a:Int)*(b:Int)=((a*b:Nat):Int):=(cB a b).symm;have e2:((a*b:Nat):Int)%18446744073709551616=((a*b:Nat):Int):=pA;obtain⟨p,hp'⟩:=ZL (a*b);rw[<-hp']at e1 e2 hp PK;have e3:(y:Int)+(p:Int)=((y+p:Nat):Int):=rfl;have e4:((y+p:Nat):Int)%18446744073709551616=((y+p:Nat):Int):=pA;have c1:QX G ⟨bo,i+k,Y⟩ (N S (y+p:Nat))=_:=Yx (f:=uv) hx (i:=i+k) pA (y+p) rfl;simp -implicitDefEqProofs only[go_sem,f3,f4,f5,f6,f7,f10,f11,f15,f16,ZlP,aN,n2,eik,h5',g1,e1,e2,e3,e4,c1];refine⟨⟨f3,f4,f5,f10,f11,f6,f7,f15,k+1,hlk,rfl,?_⟩,?_⟩
    .rw[hG,set_set,PK];rfl
    .simp only[vi,Zr,↓reduceIte,f16];omega
   .have h5':¬((i+k:Nat):Int)<5:=pA;have g1:=Z8 hx (i:=i+k-5) pA;have y1:=wR.getD pA (i+k-5);unfold uv at g1;have hs:PI a b r i k=r.set (i+k-5) (r.getD (i+k-5) 0+5*a*b):=by unfold PI;rw[if_neg h5]
    rw[hs]at PK;obtain⟨y,hy⟩:=ZL (r.getD (i+k-5) 0);rw[<-hy]at g1 y1 PK;have e0:(5:Int)*(a:Int)=((5*a:Nat):Int):=rfl;have e0':((5*a:Nat):Int)%18446744073709551616=((5*a:Nat):Int):=pA;have e1:((5*a:Nat):Int)*(b:Int)=((5*a*b:Nat):Int):=(cB (5*a) b).symm;have e2:((5*a*b:Nat):Int)%18446744073709551616=((5*a*b:Nat):Int):=pA;obtain⟨p,hp'⟩:=ZL (5*a*b);rw[<-hp']at e1 e2 hp5 PK;have e3:(y:Int)+(p:Int)=((y+p:Nat):Int):=rfl;have e4:((y+p:Nat):Int)%18446744073709551616=((y+p:Nat):Int):=pA;have e5:((i+k:Nat):Int)-5=((i+k-5:Nat):Int):=pA;have e6:((i+k-5:Nat):Int)<5:=pA;have c1:QX G ⟨bo,i+k-5,Y⟩ (N S (y+p:Nat))=_:=Yx (f:=uv) hx (i:=i+k-5) pA (y+p) rfl;simp -implicitDefEqProofs only[go_sem,f3,f4,f5,f6,f7,f10,f11,f15,f16,ZlP,aN,n2,eik,h5',g1,e0,e0',e1,e2,e3,e4,e5,e6,c1];refine⟨⟨f3,f4,f5,f10,f11,f6,f7,f15,k+1,hlk,rfl,?_⟩,?_⟩
    .rw[hG,set_set,PK];rfl
    .simp only[vi,Zr,↓reduceIte,f16];omega
  .have Xv:¬(k:Int)<5:=pA;obtain rfl:k=5:=pA;have c5:((5:Nat):Int)=5:=rfl;rw[c5]at f16 Xv;simp -implicitDefEqProofs only[go_sem,f3,f4,f5,f10,f11,f16,Xv];refine⟨⟨f3,f4,f5,f10,i+1,ZT,rfl,?_⟩,?_⟩
   .rw[Zhi]
   .simp only[vi,Zr,↓reduceIte,f11];omega
 .have Xv:¬(i:Int)<5:=pA;obtain rfl:i=5:=pA;have c5:((5:Nat):Int)=5:=rfl;rw[c5]at f11 Xv;have hx:(H.setIfInBounds bo (YW (V1 xs bs 5)))[bo]? = W (YW (V1 xs bs 5)):=Yd H3;have Mw:(H.setIfInBounds bo (YW (V1 xs bs 5)))[br]? = W (YW [0,0,0,0,0]):=by rw[U,if_neg pA];exact H2
  have HB2:Zj h.size h (H.setIfInBounds bo (YW (V1 xs bs 5))):=HB.Zt pA _;obtain⟨w1,w2,w3⟩:=D3 ha hb wa wb;obtain⟨o,ho⟩:=ZL (V1 xs bs 5);rw[<-ho]at hx Mw HB2 w1 w2 ⊢;generalize H.setIfInBounds bo (YW o)=G at *;simp -implicitDefEqProofs only[go_sem,f3,f4,f5,f10,f11,Xv];refine (bU T G bo o w2 w1 hx).use ?_;rintro _ _ rfl;obtain⟨m1,m2,m3⟩:=Nk w2 w1;have jo:(G.setIfInBounds bo (YW (Jc o)))[bo]? = W (YW (Jc o)):=Yd hx;have fW:(G.setIfInBounds bo (YW (Jc o)))[br]? = W (YW [0,0,0,0,0]):=by rw[U,if_neg pA];exact Mw
  have HB3:Zj h.size h (G.setIfInBounds bo (YW (Jc o))):=HB2.Zt pA _;generalize G.setIfInBounds bo (YW (Jc o))=G2 at *;have r3:=OE m1 jo;have lc:((Jc o).map uv).length=5:=by simpa using m1
  have w4:=Ye (h:=G2) (b:=br) (l:=([0,0,0,0,0].map uv)) (by unfold YW at fW;rw[a5]at fW;exact fW) 0 ((Jc o).map uv);have ho4:((Jc o).map uv).all YE=true:=by simp[uv,YE]
  rw[if_pos ⟨by simp[lc],ho4⟩,ZW (by simp[lc])]at w4;have tc:((Jc o).map uv).take 5=(Jc o).map uv:=bd pA;have hlr:=Za fW;simp -implicitDefEqProofs only[go_sem,f3,f4,f5,r3,w4,lc,tc,hlr];exact HB3.Zt pA _
theorem bW(h:Hp)(xs:List Nat)(ha:(Q xs)=5)(wa:Y5 268435456 xs):
  Zd a7 T 102 #[al (xs.map uv).toArray] h fun v' h'=>v'=al ((OD (Jc xs)).map uv).toArray/\Zj h.size h h':=by
 have la:(xs.map uv).length=5:=by simpa using ha
 refine Zd.XS [_] Tryz.func102 ?_;simp -implicitDefEqProofs only[go_sem,la];obtain⟨H,hH⟩:=ZL (((h.push (R (xs.map uv).toArray 194)).push (R #[N S 0,N S 0,N S 0,N S 0,N S 0] 194)):Hp);have HB:Zj h.size h H:=by rw[hH];exact ((Zj.push (a0 _) _).YX IQ _)
 have Hs:H.size=h.size+1+1:=by rw[hH];simp
 have H0:H[h.size]? = W (YW xs):=by
  rw[hH,ZJ IQ,Zc];unfold YW;rw[a5]
 have H1:H[h.size+1]? = W (YW [0,0,0,0,0]):=by
  have:=Zc (h:=(h.push (R (xs.map uv).toArray 194))) (o:=R #[N S 0,N S 0,N S 0,N S 0,N S 0] 194);rw[ag]at this;rw[hH,this];rfl
 rw[<-hH];clear hH;refine (bU T H h.size xs ha (wa.mono aaa) H0).use ?_;rintro _ _ rfl;obtain⟨m1,m2,m3,m4⟩:=Nk ha (wa.mono aaa);have P9:(H.setIfInBounds h.size (YW (Jc xs)))[h.size]? = W (YW (Jc xs)):=Yd H0;have Wf:(H.setIfInBounds h.size (YW (Jc xs)))[h.size+1]? = W (YW [0,0,0,0,0]):=by rw[U,if_neg pA];exact H1
 have HB2:Zj h.size h (H.setIfInBounds h.size (YW (Jc xs))):=HB.Zt (a0 _) _;have Hs2:(H.setIfInBounds h.size (YW (Jc xs))).size=h.size+1+1:=by rw[a3];exact Hs
 obtain⟨m,hm⟩:=ZL (Jc xs);rw[<-hm]at P9 Wf HB2 Hs2 m1 m2 m3 m4 ⊢;generalize H.setIfInBounds h.size (YW m)=G at *;have r0:=OE m1 P9;have lm:(m.map uv).length=5:=by simpa using m1
 have hom:(m.map uv).all YE=true:=by simp[uv,YE]
 have lp:Xd [Value.int S 0,N S 0,N S 0,N S 0,N S 0] 0 (m.map uv)=m.map uv:=ZW lm;have n0:=BL (l:=m) (i:=0) pA;have y0:=m2.getD pA 0;have hw0:NK m 0=m.set 0 (m.getD 0 0+5):=rfl;obtain⟨y,hy⟩:=ZL (m.getD 0 0);rw[<-hy]at n0 y0 hw0;have e1:(y:Int)+5=((y+5:Nat):Int):=rfl;have e2:((y+5:Nat):Int)%18446744073709551616=((y+5:Nat):Int):=pA;simp -implicitDefEqProofs only[go_sem,r0,lm,hom,Hs2,lp,n0,e1,e2];have hms:(m.map uv).set 0 (N S (y+5:Nat))=(m.set 0 (y+5)).map uv:=by rw[List.map_set];rfl
 rw[hms,<-hw0];obtain⟨J,hJ⟩:=ZL (G.push (R ((NK m 0).map uv).toArray 194));have J3:J[h.size+1+1]? = W (YW (NK m 0)):=by
  rw[hJ,<-Hs2,Zc];unfold YW;rw[a5]
 have J0:J[h.size]? = W (YW m):=by rw[hJ,ZJ pA];exact P9
 have J1:J[h.size+1]? = W (YW [0,0,0,0,0]):=by rw[hJ,ZJ pA];exact Wf
 have JB:Zj h.size h J:=by rw[hJ];exact HB2.YX pA _
 rw[<-hJ];clear hJ;obtain⟨b3,hb3⟩:∃b,b=h.size+1+1:=⟨_,rfl⟩
 obtain⟨b2,Ga⟩:∃b,b=h.size+1:=⟨_,rfl⟩
 rw[<-hb3]at J3 ⊢;rw[<-Ga]at J1 ⊢;refine VS.Yk (fun F g=>F 1=ab (W ⟨h.size,0,Y⟩)/\F 2=ab (W ⟨b2,0,Y⟩)/\F 3=ab (W ⟨b3,0,Y⟩)/\∃i:Nat,i<=4/\F 11=N O i/\g=J.setIfInBounds b3 (YW (NK m i)))
  (fun F _=>4-(vi (F 11)).toNat) rfl ⟨rfl,rfl,rfl,0,pA,rfl,(Vm J3).symm⟩ ?_
 rintro F g ⟨f1,f2,f3,i,hi,f11,rfl⟩;have hx:(J.setIfInBounds b3 (YW (NK m i)))[b3]? = W (YW (NK m i)):=Yd J3;have wY:=zk m2 i pA;have lY:(NK m i).length=5:=by rw[Fr,m1]
 by_cases ZT:i<4
 .have Z7:(i:Int)<4:=pA;have XI:NK m (i+1)=((NK m i).set (i+1) ((NK m i).getD (i+1) 0+(NK m i).getD i 0/67108864)).set i ((NK m i).getD i 0%67108864):=rfl;obtain⟨r,hr⟩:=ZL (NK m i);rw[<-hr]at hx wY lY XI ⊢;obtain⟨G1,vu⟩:=ZL (J.setIfInBounds b3 (YW r));rw[<-vu]at hx ⊢;have g1:=Z8 hx (i:=i+1) pA;have g0:=Z8 hx (i:=i) pA;have q1:=wY.getD pA (i+1);have q0:=wY.getD pA i;unfold uv at g0 g1;obtain⟨a,hax⟩:=ZL (r.getD i 0);obtain⟨b,hbx⟩:=ZL (r.getD (i+1) 0);rw[<-hax]at g0 q0 XI;rw[<-hbx]at g1 q1 XI;have s1:=nc a;have s2:=OB a pA;have t1:(b:Int)+((a/67108864:Nat):Int)=((b+a/67108864:Nat):Int):=rfl;have t2:((b+a/67108864:Nat):Int)%18446744073709551616=((b+a/67108864:Nat):Int):=pA;have ei:(i:Int)+1=((i+1:Nat):Int):=rfl;have KT:((i+1:Nat):Int)<5:=pA;have ZtL:(i:Int)<5:=pA;have c1:QX G1 ⟨b3,i+1,Y⟩ (N S (b+a/67108864:Nat))=_:=Yx (f:=uv) hx (i:=i+1) pA (b+a/67108864) rfl;have BM:=Yd (o:=R ((r.set (i+1) (b+a/67108864)).map uv++[]).toArray 194) hx;have l1:(r.set (i+1) (b+a/67108864)).length=5:=by rw[a8,lY]
  have v1:(r.set (i+1) (b+a/67108864)).getD i 0=a:=by rw[LM pA,<-hax]
  obtain⟨r1,HP⟩:=ZL (r.set (i+1) (b+a/67108864));rw[<-HP]at c1 BM l1 v1 XI;obtain⟨G2,mT⟩:=ZL (G1.setIfInBounds b3 (R (r1.map uv++[]).toArray 194));rw[<-mT]at c1 BM;have g2:=Z8 BM (i:=i) pA;unfold uv at g2;rw[v1]at g2;have c2:QX G2 ⟨b3,i,Y⟩ (N S (a%67108864:Nat))=_:=Yx (f:=uv) BM (i:=i) pA (a%67108864) rfl;simp -implicitDefEqProofs only[go_sem,f1,f2,f3,f11,Z7];refine VS.w (b3+1) [10] (.q 0 (.q 1 (.q 2 (.q 3 (.q 4 (.q 5 (.q 6 (.q 7 (.q 8 (.q 9 (.w 10 .nil))))))))))) mixed vM ?_;simp -implicitDefEqProofs only[go_sem,f1,f2,f3,f11,ei,KT,ZtL,aN,ba,g0,g1,s1,t1,t2,c1,g2,s2,c2];refine⟨⟨f1,f2,f3,i+1,ZT,rfl,?_⟩,?_⟩
  .rw[mT,set_set,vu,set_set,XI];rfl
  .simp only[vi,Zr,↓reduceIte,f11];omega
 .have Xv:¬(i:Int)<4:=pA;obtain rfl:i=4:=pA;have c4:((4:Nat):Int)=4:=rfl;rw[c4]at f11 Xv;have hW:OD m=if (NK m 4).getD 4 0/67108864=0 then m else (NK m 4).set 4 ((NK m 4).getD 4 0%67108864):=rfl
  have jp:(J.setIfInBounds b3 (YW (NK m 4)))[h.size]? = W (YW m):=by rw[U,if_neg pA];exact J0
  have BM:(J.setIfInBounds b3 (YW (NK m 4)))[b2]? = W (YW [0,0,0,0,0]):=by rw[U,if_neg pA];exact J1
  have HB3:Zj h.size h (J.setIfInBounds b3 (YW (NK m 4))):=JB.Zt pA _;obtain⟨r,hr⟩:=ZL (NK m 4);rw[<-hr]at hx wY lY jp BM HB3 hW ⊢;generalize J.setIfInBounds b3 (YW r)=G1 at *;have g4:=Z8 hx (i:=4) pA;have q4:=wY.getD pA 4;unfold uv at g4;obtain⟨a,hax⟩:=ZL (r.getD 4 0);rw[<-hax]at g4 q4 hW;have s1:=nc a;have s2:=OB a pA;have w4:=fun (k:List Nat) (hk:(Q k)=5)=>Ye (h:=G1) (b:=b2) (l:=([0,0,0,0,0].map uv)) (by unfold YW at BM;rw[a5]at BM;exact BM) 0 (k.map uv);have h2s:=Za BM;by_cases h0:a/67108864=0
  .have h0':((a/67108864:Nat):Int)=0:=pA;rw[if_pos h0]at hW;have w5:=w4 m m1;rw[if_pos ⟨by simp[lm],hom⟩,ZW (by simp[lm])]at w5;have r1:=OE m1 jp;have tm:(m.map uv).take 5=m.map uv:=bd pA;simp -implicitDefEqProofs only[go_sem,f1,f2,f3,f11,Xv,g4,s1,h0',r1,w5,lm,tm,h2s];exact⟨by rw[hW],HB3.Zt pA _⟩
  .have h0':¬((a/67108864:Nat):Int)=0:=pA;rw[if_neg h0]at hW;have c1:QX G1 ⟨b3,4,Y⟩ (N S (a%67108864:Nat))=_:=Yx (f:=uv) hx (i:=4) pA (a%67108864) rfl;have hz:=Yd (o:=R ((r.set 4 (a%67108864)).map uv++[]).toArray 194) hx;have l1:(r.set 4 (a%67108864)).length=5:=by rw[a8,lY]
   have HB4:Zj h.size h (G1.setIfInBounds b3 (R ((r.set 4 (a%67108864)).map uv++[]).toArray 194)):=HB3.Zt pA _;have jq:(G1.setIfInBounds b3 (R ((r.set 4 (a%67108864)).map uv++[]).toArray 194))[b2]? = W (YW [0,0,0,0,0]):=by rw[U,if_neg pA];exact BM
   rw[hW];obtain⟨r1,HP⟩:=ZL (r.set 4 (a%67108864));rw[<-HP]at c1 hz l1 HB4 jq ⊢;generalize G1.setIfInBounds b3 (R (r1.map uv++[]).toArray 194)=G2 at *;have r4:=OE l1 hz;have lr:(r1.map uv).length=5:=by simpa using l1
   have hor:(r1.map uv).all YE=true:=by simp[uv,YE]
   have w5:=Ye (h:=G2) (b:=b2) (l:=([0,0,0,0,0].map uv)) (by unfold YW at jq;rw[a5]at jq;exact jq) 0 (r1.map uv);rw[if_pos ⟨by simp[lr],hor⟩,ZW (by simp[lr])]at w5;have tm:(r1.map uv).take 5=r1.map uv:=bd pA;have ZtM:=Za jq;simp -implicitDefEqProofs only[go_sem,f1,f2,f3,f11,Xv,g4,s1,s2,h0',ba,c1,r4,w5,lr,tm,ZtM];exact HB4.Zt pA _
def zm(key:List Nat)(i:Nat):Nat:=if i%4=3 then key.getD i 0%16 else if i%4=0/\0<i then key.getD i 0/4*4 else key.getD i 0
def QB(key:List Nat):List Nat:=(cC 16).map (zm key)
def ZlR(data:List Nat)(k:Nat):List Nat:=(data.drop (16*k)).take 16++[1]
def zn(r:Nat)(data:List Nat):Nat->Nat
 | 0=>0
 | k+1=>(zn r data k+X4 (ZlR data k))*r%Rr
def Zdp(key data:List Nat):Nat:=zn (X4 (QB key)) data (((Q data)+15)/16)+X4 ((key.drop 16).take 16)
def jr(key data:List Nat):List Nat:=(cC 16).map fun i=>Zdp key data/256 ^ i%256
theorem Dj(key:List Nat):(QB key).length=16:=by simp[QB]
theorem Su(key data:List Nat):(jr key data).length=16:=by simp[jr]
theorem Nl{h:Hp}{p:Option Addr}{c n:Nat}(s:Bs h (X p n c) l){m:Nat}(hm:m<=(Q l))(c':Nat):Bs h (X p m c') (l.take m):=by
 refine⟨?_,fun x hx=>s.byte x (List.mem_of_mem_take hx)⟩;obtain⟨p',cap,hv,hl,hc⟩:=s.sl;simp only[Value.slice.injEq]at hv;obtain⟨rfl,_,rfl⟩:=hv;refine⟨_,c',by rw[bf,Nat.min_eq_left hm],IQ,fun Y7=>?_⟩;obtain⟨b,o,rfl,XL⟩:=hc (by intro e;simp at e;subst e;simp at Y7);refine⟨b,o,rfl,fun i hi=>?_⟩;have mF:i<m/\i<(Q l):=by rw[List.length_map,bf]at hi;omega
 rw[XL i VL];simp
theorem Zhm{h:Hp}{p:Option Addr}{c n:Nat}(s:Bs h (X p n c) l)(hn:(Q l)=n){k m:Nat}(hk:k+m<=n)(Wx:n<=c)(c':Nat):Bs h (X (iY p 1 c k) m c') ((l.drop k).take m):=
 Nl (Ng s hn (k:=k) (by omega) Wx c') (by rw[bc];omega) c'
def SQ(key data:List Nat):Int:=if (Q key)≠32\/4000<(Q data) then 1 else 0
def zo(B:Nat)(h:Hp)(v:aw)(key data:List Nat):Prop:=∃w,v=.tuple #[w,N O (SQ key data)]/\YB B 5 h w (if SQ key data=0 then jr key data else [])
def JR:List (Option IntKind):=rep 32 [W O]++rep 8 [Y]
theorem Vn:∀{ks:List (Option IntKind)} {vs:List aw} (i:Nat) (v:aw),Xe ks vs=true->(∀k,ks[i]? = W k->WK k v=true)->Xe ks (vs.set i v)=true:=by
 intro ks
 induction ks with
 | nil=>intro vs i v h _;cases vs<;>simp[Xe]at h ⊢
 | cons k ks ih=>
  intro vs i v h hk
  cases vs with
  | nil=>simp[Xe]at h
  | cons x vs=>
   simp only[Xe,bR]at h
   cases i with
   | zero=>simp only[co,Xe,bR];exact⟨hk k rfl,h.2⟩
   | succ i=>simp only[cp,Xe,bR];exact⟨h.1,ih i v h.2 (fun k' Ln=>hk k' (by simpa using Ln))⟩
theorem UT(hi:i<32)(n:Int):∀k,JR[i]? = W k->WK k (N O n)=true:=by
 intro k hk;have:∀i<32,JR[i]? = W (W O):=aaa;rw[this i hi]at hk;obtain rfl:=Option.some.inj hk;rfl
theorem bX(h1:32<=i)(b:Bool):∀k,JR[i]? = W k->WK k (ae b)=true:=by
 intro k hk;have:∀j<8,JR[32+j]? = W Y:=aaa;by_cases h2:i<40
 .have:=this (i-32) pA;rw[show 32+(i-32)=i by omega]at this;rw[this]at hk;obtain rfl:=Option.some.inj hk;rfl
 .rw[b7 (by show 40<=i;omega)]at hk;cases hk
theorem Fs{g:Hp}{b:Nat}{o:Obj}(hx:g[b]? = W o):g.setIfInBounds b o=g:=by
 apply Array.ext_getElem?;intro i;rw[U];by_cases hb:b=i
 .subst hb;rw[if_pos rfl,if_pos (Za hx),hx]
 .rw[if_neg hb]
structure ZlS where
 cells:List aw
 code:Int
 val:Int
def Ur(cs:List aw)(k c n v:Nat):List aw × Int:=
 if k=1 then (cs.set n (N O v),v) else if k=2 then (cs,ci cs n) else (cs.set (32+n) (ae true),0)
def Qb(cs:List aw)(k c s n v:Nat):ZlS:=
 if k=0 then ⟨cs,0,0⟩ else
 if (s:Int)+1=ci cs (8+c) then ⟨cs,ci cs (16+c*2),ci cs (16+c*2+1)⟩ else
 if (s:Int)<ci cs (8+c) then ⟨cs,7,0⟩ else
 if cb cs (32+c)=true then ⟨cs,11,0⟩ else
 ⟨((((Ur cs k c n v).1.set (8+c) (N O ((s:Int)+1))).set (16+c*2) (N O 0)).set (16+c*2+1) (N O (Ur cs k c n v).2)),0,(Ur cs k c n v).2⟩
def OF(cs:List aw)(k c s n v:Int):Int:=if Xm cs=true then 5 else YC k c s n v
def Yj:List aw:=rep 32 [Value.int O 0]++rep 8 [Value.bool false]
def doL(cs:List aw)(k c s n v:Int):List aw:=
 if OF cs k c s n v=0 then [al (Qb cs k.toNat c.toNat s.toNat n.toNat v.toNat).cells.toArray,al [N O (Qb cs k.toNat c.toNat s.toNat n.toNat v.toNat).code,N O (Qb cs k.toNat c.toNat s.toNat n.toNat v.toNat).val].toArray,N O 0]
  else [al Yj.toArray,al [N O 0,N O 0].toArray,N O (OF cs k c s n v)]
def zp(v':aw)(cs:List aw)(k c s n v:Int):Prop:=v'=.tuple (doL cs k c s n v).toArray
theorem YY{k c s n v:Int}(h:YC k c s n v=0):∃k' c' s' n' v':Nat,k=k'/\c=c'/\s=s'/\n=n'/\v=v'/\k'<=3/\c'<=7/\s'<=1048576/\n'<=7/\v'<=1073741824:=by
 have:0<=k/\k<=3/\0<=c/\c<=7/\0<=s/\s<=1048576/\0<=n/\n<=7/\0<=v/\v<=1073741824:=by
  unfold YC at h
  repeat' split at h
  all_goals omega
 exact⟨k.toNat,c.toNat,s.toNat,n.toNat,v.toNat,pA,pA,pA,pA,pA,pA,pA,pA,pA,pA⟩
theorem Ql{cs:List aw}{j:Nat}{x:aw}(h:i≠j):ci (cs.set i x) j=ci cs j:=by
 unfold ci;rw[YU,YU,be h]
theorem ints_set{cs:List aw}{j:Nat}(hj:j<(Q cs))(x:Int)(hi:∀i,i<32->nth cs i=W (N O (ci cs i))):∀i,i<32->nth (cs.set j (N O x)) i=W (N O (ci (cs.set j (N O x)) i)):=by
 intro i h32;by_cases e:j=i
 .subst e;have:nth (cs.set j (N O x)) j=W (N O x):=by rw[YU,b6 hj]
  unfold ci;rw[this]
 .rw[Ql e,YU,be e,<-YU];exact hi i h32
theorem rq(cs:List aw)(k c n v:Nat)(x:aw)(hn:n<=7)(hc:c<=7):Ur (cs.set (8+c) x) k c n v=((Ur cs k c n v).1.set (8+c) x,(Ur cs k c n v).2):=by
 unfold Ur;by_cases k1:k=1
 .rw[if_pos k1,if_pos k1,cP _ _ pA]
 .rw[if_neg k1,if_neg k1];by_cases k2:k=2
  .rw[if_pos k2,if_pos k2,Ql pA]
  .rw[if_neg k2,if_neg k2,cP _ _ pA]
theorem bY{cs:List aw}(hf:Xe JR cs=true)(k c n v:Nat)(hn:n<=7):Xe JR (Ur cs k c n v).1=true:=by
 unfold Ur;by_cases k1:k=1
 .rw[if_pos k1];exact Vn n _ hf (UT pA _)
 .rw[if_neg k1];by_cases k2:k=2
  .rw[if_pos k2];exact hf
  .rw[if_neg k2];exact Vn (32+n) _ hf (bX pA _)
theorem D4{cs:List aw}(hf:Xe JR cs=true)(k c s n v:Nat)(hn:n<=7)(hc:c<=7):Xe JR (Qb cs k c s n v).cells=true:=by
 unfold Qb
 repeat' split
 all_goals first|exact hf|skip
 exact Vn _ _ (Vn _ _ (Vn _ _ (bY hf k c n v hn) (UT pA _)) (UT pA _)) (UT pA _)
theorem bZ(h:Hp)(b:Nat)(cs:List aw)(k c s n v:Nat)(hl:(Q cs)=40)(hi:∀i,i<32->nth cs i=W (N O (ci cs i)))(hn:n<=7)(hk:1<=k)(hk3:k<=3)(hx:h[b]? = W (R cs.toArray 55)):
  Zd a7 T 40 #[ab (W ⟨b,0,Y⟩),al (Ua k c s n v).toArray] h fun v' h'=>v'=al [N O 0,N O (Ur cs k c n v).2].toArray/\Zj h.size (h.setIfInBounds b (R (Ur cs k c n v).1.toArray 55)) h':=by
 refine Zd.XS [_,_] Tryz.func40 ?_;have hb:=Za hx;have hn8:(n:Int)<8:=pA;unfold Ua Ur;by_cases k1:k=1
 .subst k1;simp +contextual -implicitDefEqProofs only[go_sem];refine VS.w (h.size+2) [8] (.q 0 (.q 1 (.q 2 (.q 3 (.q 4 (.q 5 (.q 6 (.q 7 (.w 8 .nil))))))))) mixed vM ?_;have w1:=Xj hx n (N O v);rw[if_pos ⟨pA,rfl⟩]at w1;have nn:nth (cs.set n (N O (v:Int))) n=W (N O v):=by rw[YU,b6 pA]
  simp +contextual -implicitDefEqProofs only[go_sem,hn8,w1,hb];refine VS.w (h.size+2) [8] (.q 0 (.q 1 (.q 2 (.q 3 (.q 4 (.q 5 (.q 6 (.q 7 (.w 8 .nil))))))))) mixed vM ?_;simp +contextual -implicitDefEqProofs only[go_sem,hn8,hb,nn]
  try exact ((Zj.push IQ _).YX IQ _)
 .by_cases k2:k=2
  .subst k2;have nn:=hi n pA;have x1:hc h ⟨b,n,Y⟩=W (N O (ci cs n)):=by rw[Zn hx];exact nn
   have hsb:=Fs hx;simp +contextual -implicitDefEqProofs only[go_sem,hsb];refine VS.w (h.size+2) [8] (.q 0 (.q 1 (.q 2 (.q 3 (.q 4 (.q 5 (.q 6 (.q 7 (.w 8 .nil))))))))) mixed vM ?_;simp +contextual -implicitDefEqProofs only[go_sem,hn8,hb,x1]
  .have k3:k=3:=pA;subst k3;have w1:=Xj hx (32+n) (ae true);rw[if_pos ⟨pA,rfl⟩]at w1;simp +contextual -implicitDefEqProofs only[go_sem];refine VS.w (h.size+2) [6] (.q 0 (.q 1 (.q 2 (.q 3 (.q 4 (.q 5 (.w 6 .nil))))))) mixed vM ?_;simp +contextual -implicitDefEqProofs only[go_sem,hn8,w1,hb]
   try exact ((Zj.push IQ _).YX IQ _)
theorem Ft(h:Hp)(cs:List aw)(k c s n v:Int)(hf:Xe JR cs=true)(hi:∀i,i<32->nth cs i=W (N O (ci cs i)))(hb:∀i,32<=i->i<40->nth cs i=W (ae (cb cs i))):
  Zd a7 T 21 #[al cs.toArray,al (Ua k c s n v).toArray] h fun v' h'=>zp v' cs k c s n v/\Zj h.size h h':=by
 have hl:(Q cs)=40:=Ys hf;have tk:=Xt hl;have X3:=Tv hf;refine Zd.Lt [_,_] Tryz.func21 ?_;unfold Ua;simp +contextual -implicitDefEqProofs only[go_sem,hl,tk];refine (qF T _ cs hl hi).use ?_;rintro _ _ ⟨rfl,rfl⟩;unfold zp doL OF;by_cases e1:Xm cs=true
 .simp +contextual -implicitDefEqProofs only[go_sem,e1];refine⟨rfl,?_⟩
  (repeat' (first|exact Zj.refl _ _|assumption|refine Zj.add ?_ _|refine Zj.Zt ?_ aab _|refine Zj.trans aac ?_))
 .have e1:Xm cs=false:=by simpa using e1
  simp +contextual -implicitDefEqProofs only[go_sem,e1];refine (UG T _ k c s n v).use ?_;rintro _ _ ⟨rfl,rfl⟩;unfold Ua;by_cases e2:YC k c s n v=0
  .obtain⟨k,c,s,n,v,rfl,rfl,rfl,rfl,rfl,y1,y2,y3,y4,y5⟩:=YY e2;simp only[aN];have J9:Yj=[N O 0,N O 0,N O 0,N O 0,N O 0,N O 0,N O 0,N O 0,N O 0,N O 0,N O 0,N O 0,N O 0,N O 0,N O 0,N O 0,N O 0,N O 0,N O 0,N O 0,N O 0,N O 0,N O 0,N O 0,N O 0,N O 0,N O 0,N O 0,N O 0,N O 0,N O 0,N O 0,ae false,ae false,ae false,ae false,ae false,ae false,ae false,ae false]:=rfl;obtain⟨H,hH⟩:=ZL (((((((h.push (R cs.toArray 55)).push (R [N O k,N O c,N O s,N O n,N O v].toArray 25)).push (R [N O 0,N O 0,N O 0,N O 0,N O 0,N O 0,N O 0,N O 0,N O 0,N O 0,N O 0,N O 0,N O 0,N O 0,N O 0,N O 0,N O 0,N O 0,N O 0,N O 0,N O 0,N O 0,N O 0,N O 0,N O 0,N O 0,N O 0,N O 0,N O 0,N O 0,N O 0,N O 0,ae false,ae false,ae false,ae false,ae false,ae false,ae false,ae false].toArray 55)).push (R [N O 0,N O 0].toArray 51)).push (R cs.toArray 55)).push (R [N O k,N O c,N O s,N O n,N O v].toArray 25)):Hp);have x0:H[h.size]? = W (R cs.toArray 55):=by rw[hH];simp only[am,ag,aO,↓reduceIte]
   have x1:H[h.size+1]? = W (R [N O k,N O c,N O s,N O n,N O v].toArray 25):=by rw[hH];simp only[am,ag,aO,↓reduceIte]
   have x2:H[h.size+2]? = W (R Yj.toArray 55):=by rw[hH,J9];simp only[am,ag,aO,↓reduceIte]
   have x3:H[h.size+3]? = W (R [N O 0,N O 0].toArray 51):=by rw[hH];simp only[am,ag,aO,↓reduceIte]
   have hHs:H.size=h.size+6:=by rw[hH];simp
   have jh:Zj h.size h H:=by rw[hH];(repeat' (first|exact Zj.refl _ _|assumption|refine Zj.add ?_ _|refine Zj.Zt ?_ aab _|refine Zj.trans aac ?_))
   rw[<-hH];clear hH J9;have c1:hc H ⟨h.size+1,0,Y⟩=W (N O k):=by rw[Zn x1];rfl
   have c2:hc H ⟨h.size+1,1,Y⟩=W (N O c):=by rw[Zn x1];rfl
   have c3:hc H ⟨h.size+1,2,Y⟩=W (N O s):=by rw[Zn x1];rfl
   have cc:(c:Int)<8:=pA;have ZlU:=hi (8+c) pA;have lx:hc H ⟨h.size,8+c,Y⟩=W (N O (ci cs (8+c))):=by rw[Zn x0];exact ZlU
   have fin:∀(G:Hp) (D:List aw) (a b:Int),(Q D)=40->D.all YE=true->G[h.size+2]? = W (R Yj.toArray 55)->G[h.size+3]? = W (R [N O 0,N O 0].toArray 51) ->
     wr G ⟨h.size+1+1,0,Y⟩ D=W (G.setIfInBounds (h.size+1+1) (R D.toArray 55)) /\
     wr (G.setIfInBounds (h.size+1+1) (R D.toArray 55)) ⟨h.size+1+1+1,0,Y⟩ [N O a,N O b]=W ((G.setIfInBounds (h.size+1+1) (R D.toArray 55)).setIfInBounds (h.size+1+1+1) (R [N O a,N O b].toArray 51)):=by
    intro G D a b d1 d2 g2 g3;refine⟨?_,?_⟩
    .rw[Ye (b:=h.size+1+1) g2 0 D,ZW (by rw[d1];rfl),if_pos ⟨by rw[d1];exact a0 _,d2⟩]
    .rw[Ye (b:=h.size+1+1+1) (l:=[N O 0,N O 0]) (t:=51) (by rw[U,if_neg pA];exact g3),if_pos ⟨IQ,rfl⟩];rfl
   have r0:=Zy x0 hl;have ru:∀(G:Hp) (o o':Obj),Zj h.size h G->Zj h.size h ((G.setIfInBounds (h.size+1+1) o).setIfInBounds (h.size+1+1+1) o'):=fun G o o' hG=>(hG.Zt pA _).Zt pA _;by_cases k0:k=0
   .subst k0;have ed:Qb cs 0 c s n v=⟨cs,0,0⟩:=rfl;obtain⟨w2,w3⟩:=fin H cs 0 0 hl X3 x2 x3;simp -implicitDefEqProofs only[go_sem,e2,c1,c2,cc,ed,r0,w2,w3,hl,hHs,tk,jh];exact ru H _ _ jh
   .have k0':¬(k:Int)=0:=pA;simp -implicitDefEqProofs only[go_sem,e2,c1,c2,cc,k0'];refine VS.q mixed vM ?_;by_cases q1:(s:Int)+1=ci cs (8+c)
    .have ed:Qb cs k c s n v=⟨cs,ci cs (16+c*2),ci cs (16+c*2+1)⟩:=by unfold Qb;rw[if_neg k0,if_pos q1]
     obtain⟨w2,w3⟩:=fin H cs (ci cs (16+c*2)) (ci cs (16+c*2+1)) hl X3 x2 x3;have ra:rd H ⟨h.size,16+c*2,Y⟩ 2=W [N O (ci cs (16+c*2)),N O (ci cs (16+c*2+1))]:=by
      rw[YL x0 pA,aG (hi _ pA) (hi _ pA)]
     simp -implicitDefEqProofs only[go_sem,c3,lx,q1];refine VS.w (h.size+1+1) [] (.q 0 (.q 1 (.q 2 (.q 3 (.q 4 (.q 5 (.s 6 (.s 7 (.q 8 .nil))))))))) mixed vM ?_;simp -implicitDefEqProofs only[go_sem,e2,c2,cc,ed,r0,ra,w2,w3,hl,hHs,tk,jh];exact ru H _ _ jh
    .simp -implicitDefEqProofs only[go_sem,c3,lx,q1];refine VS.q mixed vM ?_;by_cases q2:(s:Int)<ci cs (8+c)
     .have ed:Qb cs k c s n v=⟨cs,7,0⟩:=by unfold Qb;rw[if_neg k0,if_neg q1,if_pos q2]
      obtain⟨w2,w3⟩:=fin H cs 7 0 hl X3 x2 x3;simp -implicitDefEqProofs only[go_sem,c3,lx,q2,e2,ed,r0,w2,w3,hl,hHs,tk,jh];exact ru H _ _ jh
     .have rv:hc H ⟨h.size,32+c,Y⟩=W (ae (cb cs (32+c))):=by rw[Zn x0];exact hb _ pA pA
      by_cases q3:cb cs (32+c)=true
      .have ed:Qb cs k c s n v=⟨cs,11,0⟩:=by unfold Qb;rw[if_neg k0,if_neg q1,if_neg q2,if_pos q3]
       obtain⟨w2,w3⟩:=fin H cs 11 0 hl X3 x2 x3;rw[q3]at rv;simp -implicitDefEqProofs only[go_sem,c3,lx,q2,c2,cc,rv,e2,ed,r0,w2,w3,hl,hHs,tk,jh];exact ru H _ _ jh
      .have q3':cb cs (32+c)=false:=by simpa using q3
       rw[q3']at rv;have w1:=Xj x0 (8+c) (N O ((s:Int)+1));rw[if_pos ⟨pA,rfl⟩]at w1;have rc:=Zy x1 (n:=5) rfl;have x1':(H.setIfInBounds h.size (R (cs.set (8+c) (N O ((s:Int)+1))).toArray 55))[h.size+1]? = W (R [N O k,N O c,N O s,N O n,N O v].toArray 25):=by rw[U,if_neg pA];exact x1
       have rc':=Zy x1' (n:=5) rfl;simp -implicitDefEqProofs only[go_sem,c3,lx,q2,c2,cc,rv,w1,rc'];have x0':(H.setIfInBounds h.size (R (cs.set (8+c) (N O ((s:Int)+1))).toArray 55))[h.size]? = W (R (cs.set (8+c) (N O ((s:Int)+1))).toArray 55):=by rw[U,if_pos rfl,if_pos pA]
       have Ve:Zj h.size h (H.setIfInBounds h.size (R (cs.set (8+c) (N O ((s:Int)+1))).toArray 55)):=jh.Zt (a0 _) _;have x2':(H.setIfInBounds h.size (R (cs.set (8+c) (N O ((s:Int)+1))).toArray 55))[h.size+2]? = W (R Yj.toArray 55):=by rw[U,if_neg pA];exact x2
       have x3':(H.setIfInBounds h.size (R (cs.set (8+c) (N O ((s:Int)+1))).toArray 55))[h.size+3]? = W (R [N O 0,N O 0].toArray 51):=by rw[U,if_neg pA];exact x3
       have hGs:(H.setIfInBounds h.size (R (cs.set (8+c) (N O ((s:Int)+1))).toArray 55)).size=h.size+6:=by rw[a3];exact hHs
       refine (bZ T _ h.size (cs.set (8+c) (N O ((s:Int)+1))) k c s n v (by rw[a8];exact hl) (ints_set pA _ hi) pA pA pA x0').use ?_;rintro _ g1 ⟨rfl,b1⟩;rw[rq cs k c n v _ pA pA]at b1 ⊢;have hfA:=bY hf k c n v pA;have ed:Qb cs k c s n v=⟨((((Ur cs k c n v).1.set (8+c) (N O ((s:Int)+1))).set (16+c*2) (N O 0)).set (16+c*2+1) (N O (Ur cs k c n v).2)),0,(Ur cs k c n v).2⟩:=by unfold Qb;rw[if_neg k0,if_neg q1,if_neg q2,if_neg q3]
       obtain⟨A,hA⟩:=ZL ((Ur cs k c n v).1.set (8+c) (N O ((s:Int)+1)));obtain⟨a,ha⟩:=ZL ((Ur cs k c n v).2);rw[<-hA,<-ha]at ed;simp only[<-hA,<-ha]at b1 ⊢;have ZlV:Xe JR A=true:=by rw[hA];exact Vn _ _ hfA (UT pA _)
       have ZFX:(Q A)=40:=Ys ZlV;obtain⟨G,hG⟩:=ZL (H.setIfInBounds h.size (R (cs.set (8+c) (N O ((s:Int)+1))).toArray 55):Hp);rw[<-hG]at b1 x1' x2' x3' Ve hGs;clear x0' rc' hG;rw[hGs]at b1;have g0:g1[h.size]? = W (R A.toArray 55):=b1.get pA (by rw[U,if_pos rfl,if_pos pA]);have g1c:=b1.get (k:=h.size+1) pA (by rw[U,if_neg pA];exact x1');have g2:=b1.get (k:=h.size+2) pA (by rw[U,if_neg pA];exact x2');have g3:=b1.get (k:=h.size+3) pA (by rw[U,if_neg pA];exact x3');have gs:h.size+6<=g1.size:=by have:=b1.size;rw[a3,hGs]at this;exact this
       have gB:Zj h.size h g1:=(Ve.Zt (a0 _) _).trans (b1.mono pA);clear b1 Ve x1' x2' x3' hGs;have gc:hc g1 ⟨h.size+1,1,Y⟩=W (N O c):=by rw[Zn g1c];rfl
       have wa:=Ye g0 (16+c*2) [N O 0,N O a];rw[if_pos ⟨by simp only[bB,List.length_nil];omega,rfl⟩,Rb,Rb]at wa;have wa:wr g1 ⟨h.size,16+c*2,Y⟩ [N O 0,N O a]=W (g1.setIfInBounds h.size (R ((A.set (16+c*2) (N O 0)).set (16+c*2+1) (N O a)).toArray 55)):=by rw[wa];simp[Xd]
       simp -implicitDefEqProofs only[go_sem,gc,cc,wa];obtain⟨D,hD⟩:=ZL ((A.set (16+c*2) (N O 0)).set (16+c*2+1) (N O a));have hfD:Xe JR D=true:=by rw[hD];exact Vn _ _ (Vn _ _ ZlV (UT pA _)) (UT pA _)
       have Zdq:(Q D)=40:=Ys hfD;have ng:=Tv hfD;have BN:=Xt Zdq;rw[<-hD]at ed ⊢;obtain⟨G,hG⟩:=ZL ((g1.setIfInBounds h.size (R D.toArray 55)).push (R [N O 0,N O a].toArray 51):Hp);have n0:G[h.size]? = W (R D.toArray 55):=by rw[hG];simp only[am,a3,U,aO,↓reduceIte]
       have n2:G[h.size+2]? = W (R Yj.toArray 55):=by rw[hG];simp only[am,a3,U,aO,↓reduceIte];exact g2
       have n3:G[h.size+3]? = W (R [N O 0,N O 0].toArray 51):=by rw[hG];simp only[am,a3,U,aO,↓reduceIte];exact g3
       have n6:G[g1.size]? = W (R [N O 0,N O a].toArray 51):=by rw[hG];simp only[am,a3,aO,↓reduceIte]
       have nB:Zj h.size h G:=by rw[hG];exact (gB.Zt (a0 _) _).YX VL _
       have nS:G.size=g1.size+1:=by rw[hG];simp
       rw[<-hG];have rA:=Zy n0 Zdq;have rB:=Zy n6 (n:=2) rfl;obtain⟨w2,w3⟩:=fin G D 0 a Zdq ng n2 n3;refine VS.w (h.size+1) [2,3,4] (.q 0 (.or 1 (.w 2 (.w 3 (.w 4 .nil))) (.s 2 (.s 1 (.w 3 (.w 4 .nil)))))) mixed vM ?_;have z1:h.size<h.size+1:=pA;have z2:h.size+1+1<G.size:=pA;have z3:h.size+1+1+1<G.size:=pA;simp -implicitDefEqProofs only[go_sem,rA,rB,w2,w3,Zdq,BN,z1,z2,z3,ed];exact⟨ru G _ _ nB,ru G _ _ nB⟩
  .simp +contextual -implicitDefEqProofs only[go_sem,e2];refine⟨rfl,?_⟩
   (repeat' (first|exact Zj.refl _ _|assumption|refine Zj.add ?_ _|refine Zj.Zt ?_ aab _|refine Zj.trans aac ?_))
theorem zq{g:Hp}{b:Nat}{o o':Obj}(hx:g[b]? = W o'):(g.setIfInBounds b o)[b]? = W o:=by rw[U,if_pos rfl,if_pos (Za hx)]
def SU:Vt:=⟨0,⟨0,0⟩,0,0,0,0,0⟩
def BO(v:Vt):List aw:=[N O v.k,N O v.c,N O v.s,N O v.nm,N O v.v]
def U3(Zu:Int)(ZlW v:Vt):Vt:=if v.Zu=Zu/\ZM ZlW.b v.b then v else ZlW
def WP(Zu:Int)(l:List Vt):Vt:=l.foldl (U3 Zu) SU
def WQ(l:List Vt):Bool:=l.all fun v=>decide (Yo v)
def Sv(Zu:Int)(l:List Vt):Int:=if Zu<0\/39<Zu then 2 else if WQ l=true then 0 else 5
def BP(v':aw)(Zu:Int)(l:List Vt):Prop:=
 v'=.tuple [al (BO (if Sv Zu l=0 then WP Zu l else SU)).toArray,ae (if Sv Zu l=0 then decide (0<(WP Zu l).b.r) else false),N O (Sv Zu l)].toArray
def Vss(h:Hp)(v:aw)(LL:List (List Vt)):Prop:=∃p c,v=X p (Q LL) c/\(LL≠[]->∃b o,p=W ⟨b,o,Y⟩/\b<h.size/\∀i (hi:i<(Q LL)),∃w,hc h ⟨b,o+i,Y⟩=W w/\Ts Zv 8 h w LL[i]/\LL[i].length<=2199023255552)
theorem ry(LL:List (List Vt))(i:Nat)(hi:i<(Q LL)):(LL.take (i+1)).flatten=(LL.take i).flatten++LL[i]:=by
 rw[Y8 LL i hi,List.flatten_append,List.flatten_singleton]
theorem jt(a b:List Vt):WQ (a++b)=(WQ a&&WQ b):=by simp[WQ]
theorem BQ{l:List Vt}{v:Vt}(hv:v∈l)(hm:¬Yo v):WQ l=false:=by
 rw[WQ,List.all_eq_false];exact⟨v,hv,by simpa using hm⟩
set_option maxHeartbeats 1000000 in
theorem Zdr(h:Hp)(u:aw)(LL:List (List Vt))(Zu:Int)(s:Vss h u LL)(hL:(Q LL)<=4611686018427387904):
  Zd a7 T 135 #[u,N O Zu] h fun v' h'=>BP v' Zu LL.flatten/\Zj h.size h h':=by
 have zr:Sv Zu LL.flatten=if Zu<0\/39<Zu then 2 else if WQ LL.flatten=true then 0 else 5:=rfl
 obtain⟨p,c,rfl,XL⟩:=s;refine Zd.Lt [_,_] Tryz.func135 ?_;unfold BP;by_cases q1:Zu<0
 .rw[if_pos (.inl q1)]at zr;simp -implicitDefEqProofs only[go_sem,q1,zr];rfl
 .by_cases q2:39<Zu
  .rw[if_pos (.inr q2)]at zr;have q2':40<=Zu:=pA;simp -implicitDefEqProofs only[go_sem,q1,q2',zr];rfl
  .rw[if_neg pA]at zr;have q2':¬40<=Zu:=pA;simp -implicitDefEqProofs only[go_sem,q1,q2'];obtain⟨H,hH⟩:=ZL ((h.push (R #[N O 0,N O 0,N O 0,N O 0,N O 0] 25)).push (R #[N O 0,N O 0,N O 0,N O 0,N O 0,N O 0,N O 0,N O 0] 133):Hp);have HB:Zj h.size h H:=by rw[hH];(repeat' (first|exact Zj.refl _ _|assumption|refine Zj.add ?_ _|refine Zj.Zt ?_ aab _|refine Zj.trans aac ?_))
   have HZ:H[h.size]? = W (R (BO SU).toArray 25):=by rw[hH,ZJ IQ,Zc];rfl
   have HV:H[h.size+1]? = W (R (Zv SU).toArray 133):=by
    have:=Zc (h:=h.push (R #[N O 0,N O 0,N O 0,N O 0,N O 0] 25)) (o:=R #[N O 0,N O 0,N O 0,N O 0,N O 0,N O 0,N O 0,N O 0] 133);rw[ag]at this;rw[hH,this];rfl
   rw[<-hH];clear hH;have wz:∀g:Hp,g[h.size]? = W (R (BO SU).toArray 25)->∀w:List aw,(Q w)=5->w.all YE=true->wr g ⟨h.size,0,Y⟩ w=W (g.setIfInBounds h.size (R w.toArray 25)):=by
    intro g hg w h5 h1;rw[Ye hg 0 w,ZW (by rw[h5];rfl),if_pos ⟨by rw[h5];exact a0 _,h1⟩]
   refine VS.Yk (fun F g=>F 1=N O Zu/\F 4=ab (W ⟨h.size,0,Y⟩)/\F 7=ab (W ⟨h.size+1,0,Y⟩)/\F 19=X p (Q LL) c/\F 20=N O (Q LL)/\Zj h.size h g/\g[h.size]? = W (R (BO SU).toArray 25)/\∃i:Nat,i<=(Q LL)/\F 21=N O i/\g[h.size+1]? = W (R (Zv (WP Zu (LL.take i).flatten)).toArray 133)/\WQ (LL.take i).flatten=true)
    (fun F _=>(Q LL)-(vi (F 21)).toNat) rfl ⟨rfl,rfl,rfl,rfl,rfl,HB,HZ,0,pA,rfl,HV,rfl⟩ ?_
   clear HB HZ HV H;rintro F g ⟨f1,f4,f7,f19,f20,hg,gZ,i,hi,f21,gV,XO⟩;have zV:=Za gV;by_cases ZT:i<(Q LL)
   .have Z7:(i:Int)<(Q LL):=pA;obtain⟨bb,oo,rfl,TC,XL⟩:=XL (by intro e;rw[e]at ZT;simp at ZT);obtain⟨w,hw,tw,hwl⟩:=XL i ZT;have hw':V.hc g ⟨bb,oo+i,Y⟩=W w:=by rw[hg.hc (by exact TC)];exact hw
    have ZfF:=ry LL i ZT;have zu:LL[i]∈LL:=bG ZT;obtain⟨L,hLi⟩:=ZL (LL[i]);rw[<-hLi]at tw hwl ZfF zu;obtain⟨pw,cw,rfl,hwc⟩:=WN tw;simp -implicitDefEqProofs only[go_sem,f1,f4,f7,f19,f20,f21,Z7,aN,hw'];refine VS.Yk (fun F g=>F 1=N O Zu/\F 4=ab (W ⟨h.size,0,Y⟩)/\F 7=ab (W ⟨h.size+1,0,Y⟩)/\F 19=X (W ⟨bb,oo,Y⟩) (Q LL) c/\F 20=N O (Q LL)/\F 21=N O i/\F 25=X pw (Q L) cw/\F 26=N O (Q L)/\Zj h.size h g/\g[h.size]? = W (R (BO SU).toArray 25)/\∃j:Nat,j<=(Q L)/\F 27=N O j/\g[h.size+1]? = W (R (Zv (WP Zu ((LL.take i).flatten++L.take j))).toArray 133)/\WQ ((LL.take i).flatten++L.take j)=true)
     (fun F _=>(Q L)-(vi (F 27)).toNat) rfl ⟨f1,f4,f7,f19,f20,f21,rfl,rfl,hg,gZ,0,pA,rfl,by rw[cO,a5];exact gV,by rw[cO,a5];exact XO⟩ ?_
    clear f1 f4 f7 f19 f20 f21 F hg gZ gV XO zV hw';rintro F g ⟨f1,f4,f7,f19,f20,f21,f25,f26,hg,gZ,j,hj,f27,gV,XO⟩;have zV:=Za gV;by_cases hlj:j<(Q L)
    .have ZtP:(j:Int)<(Q L):=pA;obtain⟨b2,o2,rfl,Ga,_,hwc⟩:=hwc (by intro e;rw[e]at hlj;simp at hlj);have r1:rd g ⟨b2,o2+j*8,Y⟩ 8=W (Zv L[j]):=by rw[Q3 hg (by exact Ga)];exact hwc j hlj
     have ju:(LL.take i).flatten++L.take (j+1)=((LL.take i).flatten++L.take j)++[L[j]]:=by rw[Y8 L j hlj,List.append_assoc]
     have ZfI:L[j]∈LL.flatten:=List.mem_flatten.2 ⟨L,zu,bG hlj⟩;obtain⟨v,hv⟩:=ZL (L[j]);rw[<-hv]at r1 ju ZfI;have Qi:WP Zu ((LL.take i).flatten++L.take (j+1))=U3 Zu (WP Zu ((LL.take i).flatten++L.take j)) v:=by
      rw[ju];unfold WP;rw[List.foldl_append];rfl
     have H6:WQ ((LL.take i).flatten++L.take (j+1))=decide (Yo v):=by rw[ju,jt,XO,Bool.true_and];simp[WQ]
     obtain⟨B,hB⟩:=ZL (WP Zu ((LL.take i).flatten++L.take j));rw[<-hB]at gV Qi;unfold Zv at r1;simp -implicitDefEqProofs only[go_sem,f1,f4,f7,f19,f20,f21,f25,f26,f27,ZtP,aN,r1];refine (Gi T _ v).use ?_;rintro _ g1 ⟨rfl,b1⟩;have AS:Zj g.size g g1:=(Zj.push (a0 _) _).trans (b1.mono IQ);have y0:g1[g.size]? = W (R (Zv v).toArray 133):=b1.get IQ Zc;have z1:=AS.size;have Mc:=hg.trans (AS.mono hg.size);have gZ1:=AS.get (Za gZ) gZ;have gV1:=AS.get zV gV;have z0:=Za y0;by_cases c1:Yo v
     .rw[decide_eq_true c1]at H6;have y1:V.hc g1 ⟨g.size,0,Y⟩=W (N O v.Zu):=by rw[Zn y0];rfl
      have y2:rd g1 ⟨g.size,1,Y⟩ 2=W (QI v.b):=by rw[YL y0 (by simp[Zv])];rfl
      have y3:rd g1 ⟨h.size+1,1,Y⟩ 2=W (QI B.b):=by rw[YL gV1 (by simp[Zv])];rfl
      by_cases c2:v.Zu=Zu
      .simp -implicitDefEqProofs only[go_sem,f1,f4,f7,f19,f20,f21,f25,f26,f27,c1,y1,c2,y2,y3];refine (TD T _ v.b B.b).use ?_;rintro _ g2 ⟨rfl,vr⟩;have z2:=vr.size;have Wv:=Mc.trans (vr.mono Mc.size);have gZ2:=vr.get (Za gZ1) gZ1;have gV2:=vr.get (Za gV1) gV1;have y02:=vr.get z0 y0;by_cases c3:ZM B.b v.b
       .have ze:=(Ro v.b B.b).2 c3;have rV:=Zy y02 (n:=8) rfl;have wV:=Ye gV2 0 (Zv v);rw[ZW (by simp[Zv]),if_pos ⟨by simp[Zv],rfl⟩]at wV;have hpk:U3 Zu B v=v:=by unfold U3;rw[if_pos ⟨c2,c3⟩]
        rw[hpk]at Qi;unfold Zv at rV wV;simp -implicitDefEqProofs only[go_sem,f1,f4,f7,f19,f20,f21,f25,f26,f27,ze,rV,wV];refine⟨⟨f1,f4,f7,f19,f20,f21,f25,f26,Wv.Zt pA _,?_,j+1,hlj,rfl,?_,H6⟩,?_⟩
        .rw[U,if_neg pA];exact gZ2
        .rw[Qi];exact zq gV2
        .simp only[vi,Zr,↓reduceIte,f27];omega
       .have ze:¬0<KN v.b B.b:=fun h=>c3 ((Ro v.b B.b).1 h);have hpk:U3 Zu B v=B:=by unfold U3;rw[if_neg (fun h=>c3 h.2)]
        rw[hpk]at Qi;simp -implicitDefEqProofs only[go_sem,f1,f4,f7,f19,f20,f21,f25,f26,f27,ze];refine⟨⟨f1,f4,f7,f19,f20,f21,f25,f26,Wv,gZ2,j+1,hlj,rfl,?_,H6⟩,?_⟩
        .rw[Qi];exact gV2
        .simp only[vi,Zr,↓reduceIte,f27];omega
      .have hpk:U3 Zu B v=B:=by unfold U3;rw[if_neg (fun h=>c2 h.1)]
       rw[hpk]at Qi;simp -implicitDefEqProofs only[go_sem,f1,f4,f7,f19,f20,f21,f25,f26,f27,c1,y1,c2];refine⟨⟨f1,f4,f7,f19,f20,f21,f25,f26,Mc,gZ1,j+1,hlj,rfl,?_,H6⟩,?_⟩
       .rw[Qi];exact gV1
       .simp only[vi,Zr,↓reduceIte,f27];omega
     .have hf:=BQ ZfI c1;rw[hf,if_neg aaa]at zr;have wz1:=wz g1 gZ1 [N O 0,N O 0,N O 0,N O 0,N O 0] rfl rfl;have zl:=Za gZ1;simp -implicitDefEqProofs only[go_sem,f1,f4,f7,c1,wz1,zl,zr];exact⟨rfl,Mc.Zt (a0 _) _⟩
    .have ZtR:¬(j:Int)<(Q L):=pA;obtain rfl:j=(Q L):=pA;rw[cA,<-ZfF]at gV XO;simp -implicitDefEqProofs only[go_sem,f1,f4,f7,f19,f20,f21,f25,f26,f27,ZtR];refine⟨⟨f1,f4,f7,f19,f20,hg,gZ,i+1,ZT,rfl,gV,XO⟩,?_⟩;simp only[vi,Zr,↓reduceIte,f21];omega
   .have Xv:¬(i:Int)<(Q LL):=pA;obtain rfl:i=(Q LL):=pA;rw[cA]at gV XO;rw[XO,if_pos rfl]at zr;rw[zr,if_pos rfl,if_pos rfl];obtain⟨B,hB⟩:=ZL (WP Zu LL.flatten);rw[<-hB]at gV ⊢;have r1:rd g ⟨h.size+1,3,Y⟩ 5=W (BO B):=by rw[YL gV (by simp[Zv])];rfl
    have r2:V.hc g ⟨h.size+1,1,Y⟩=W (N O B.b.r):=by rw[Zn gV];rfl
    have wB:=wz g gZ (BO B) rfl rfl;have zl:=Za gZ;unfold BO at r1 wB ⊢;simp -implicitDefEqProofs only[go_sem,f1,f4,f7,f19,f20,f21,Xv];refine VS.w (h.size) [] (.q 0 (.q 2 (.q 3 (.or 1 (.or 4 (.q 5 (.s 6 (.q 7 (.q 8 .nil)))) (.s 6 (.s 4 (.q 5 (.q 7 (.q 8 .nil)))))) (.s 4 (.q 5 (.s 1 (.s 6 (.q 7 (.q 8 .nil)))))))))) mixed vM ?_;simp -implicitDefEqProofs only[go_sem,f4,f7,r1,r2,wB,zl];have jv:=hg.Zt (a0 _) (R #[N O B.k,N O B.c,N O B.s,N O B.nm,N O B.v] 25);exact⟨⟨jv,jv⟩,jv⟩
end Go.Proofs.YthlfaofofaphfaaGreatDoor
