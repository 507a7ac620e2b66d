/- Part Pik. -/
import Derived.Test.YtdpjmhgbmhjniaaGreatDoorVst
import Derived.Test.YtdpjmhgbmhjniaaGreatDoorW13
import Derived.Test.YtdpjmhgbmhjniaaGreatDoorShaq
open Go.Value renaming int→N,slice→X,pointer→al,bool→am,agg→av
open Go.IntKind renaming i64→O,u64→S
open Go.Obj renaming cells→R
open Go.Proofs.Tryz renaming prog→a7
open List renaming length→Q,getD_eq_getElem?_getD→aa,getElem?_eq_getElem→a4,append_nil→a5,length_set→a8,mem_iff_getElem→a9,length_drop→bc,take_of_length_le→bd,getElem?_set_ne→be,length_take→bf,take_append_drop→bn,getD_cons_zero→bp,getD_cons_succ→bw,mem_or_eq_of_mem_set→bz,all_eq_true→bD,length_cons→bE,getElem_mem→bG,filter_eq_nil_iff→bJ,drop_of_length_le→bS,getElem?_set_self→bT,getElem?_eq_none→b0,mem_range→b5,mem_cons_of_mem→b6,filter_eq_self→b9,filter_append→ca,mem_cons_self→cd,set_cons_zero→ch,set_cons_succ→ck,getElem_drop→cn,getElem_take→co,take_length→cx,range→cz,take_zero→cA,set_comm→cB
open Nat renaming le_refl→a0,mul_assoc→a6,zero_add→ba,mul_comm→bg,add_mul_mod_self_left→bh,add_sub_cancel→bx,add_assoc→bA,pow_succ→bR,mul_add→b7,add_mod→b8,lt_of_lt_of_le→cf,mod_lt→cg,zero_mul→cp,add_zero→cq,le_of_lt_succ→cr,mod_eq_of_lt→ct
open Int renaming toNat_natCast→az,natCast_mul→cy
open Option renaming some→W,none→Y
open Array renaming getElem?_setIfInBounds→U,size_push→ao,getElem?_push→aw,size_setIfInBounds→a3
open Bool renaming and_eq_true→bH
open Go.IntWalk renaming iteOmega→aI
open Go renaming Value→ay
namespace Go.Proofs.YtdpjmhgbmhjniaaGreatDoor
open Go Go.V
set_option linter.all false
set_option maxRecDepth 100000
variable(T:World){i:Nat}{l:List Nat}
structure Ji where
 r:Int
 n:Int
structure Vt where
 ZA:Int
 b:Ji
 k:Int
 c:Int
 s:Int
 nm:Int
 v:Int
def JF(b:Ji):List ay:=[N O b.r,N O b.n]
def Zn(v:Vt):List ay:=[N O v.ZA,N O v.b.r,N O v.b.n,N O v.k,N O v.c,N O v.s,N O v.nm,N O v.v]
def Z6(b:Ji):Prop:=(1<=b.r/\b.r<=65536)/\(0<=b.n/\b.n<=4)
instance (b:Ji):Decidable (Z6 b):=by unfold Z6;infer_instance
def Yv(v:Vt):Prop:=(0<=v.ZA/\v.ZA<=39)/\Z6 v.b/\Y9 v.k v.c v.s v.nm v.v=0
instance (v:Vt):Decidable (Yv v):=by unfold Yv;infer_instance
def Y4(a b:Ji):Prop:=a.r<b.r\/(a.r=b.r/\a.n<b.n)
instance (a b:Ji):Decidable (Y4 a b):=by unfold Y4;infer_instance
def Pf(a b:Int):Int:=if a<b then -1 else if b<a then 1 else 0
def Mk(a b:Ji):Int:=if Pf a.r b.r=0 then Pf a.n b.n else Pf a.r b.r
theorem Ti(a b:Ji):0<Mk a b↔Y4 b a:=by
 unfold Mk Pf Y4
 repeat' split
 all_goals omega
theorem Nc(a b:Ji):Mk a b<0↔Y4 a b:=by
 unfold Mk Pf Y4
 repeat' split
 all_goals omega
theorem Cu(h:Hp)(a:Int):Zc a7 T 197 #[N O a] h fun v' h'=>v'=am false/\h'=h:=by
 refine Zc.Y8 [_] Tryz.func197 ?_;simp -implicitDefEqProofs only[go_sem]
theorem VH(h:Hp)(a b:Int):Zc a7 T 171 #[N O a,N O b] h fun v' h'=>v'=N O (Pf a b)/\h'=h:=by
 refine Zc.Y8 [_,_] Tryz.func171 ?_;simp -implicitDefEqProofs only[go_sem];refine (Cu T _ _).pure ?_;simp -implicitDefEqProofs only[go_sem];refine (Cu T _ _).pure ?_;unfold Pf;by_cases q1:a<b
 .simp -implicitDefEqProofs only[go_sem,q1]
 .by_cases q2:b<a
  .simp -implicitDefEqProofs only[go_sem,q1,q2]
  .simp -implicitDefEqProofs only[go_sem,q1,q2]
theorem qk(h:Hp)(b:Nat)(x y:Int)(h0:hc h ⟨b,0,Y⟩=W (N O x))(h1:hc h ⟨b,1,Y⟩=W (N O y)):Zc a7 T 196 #[X (W ⟨b,0,Y⟩) 2 2] h fun v' h'=>v'=N O (if x=0 then y else x)/\h'=h:=by
 refine Zc.Y8 [_] Tryz.func196 ?_;simp -implicitDefEqProofs only[go_sem];refine VS.rounds 3 rfl ?_;by_cases q1:x=0
 .by_cases q2:y=0
  .simp -implicitDefEqProofs only[go_sem,h0,h1,q1,q2,Int.reduceAdd]
  .simp -implicitDefEqProofs only[go_sem,h0,h1,q1,q2,Int.reduceAdd]
 .simp -implicitDefEqProofs only[go_sem,h0,h1,q1]
theorem Tj(h:Hp)(b:Ji):Zc a7 T 165 #[av (JF b).toArray] h fun v' h'=>v'=am (decide (Z6 b))/\h'=h.push (R (JF b).toArray 116):=by
 refine Zc.Y8 [_] Tryz.func165 ?_;unfold JF;by_cases q1:1<=b.r
 .by_cases q2:b.r<=65536
  .by_cases q3:0<=b.n
   .by_cases q4:b.n<5
    .have e:Z6 b:=⟨⟨q1,q2⟩,q3,gX⟩
     simp -implicitDefEqProofs only[go_sem,q1,q2,q3,q4,e]
    .have e:¬Z6 b:=by unfold Z6;omega
     simp -implicitDefEqProofs only[go_sem,q1,q2,q3,q4,e]
   .have e:¬Z6 b:=by unfold Z6;omega
    simp -implicitDefEqProofs only[go_sem,q1,q2,q3,e]
  .have e:¬Z6 b:=by unfold Z6;omega
   simp -implicitDefEqProofs only[go_sem,q1,q2,e]
 .have e:¬Z6 b:=by unfold Z6;omega
  simp -implicitDefEqProofs only[go_sem,q1,e]
theorem Wz(h:Hp)(a b:Ji):Zc a7 T 166 #[av (JF a).toArray,av (JF b).toArray] h fun v' h'=>v'=N O (Mk a b)/\Zf h.size h h':=by
 refine Zc.Y8 [_,_] Tryz.func166 ?_;unfold JF;simp -implicitDefEqProofs only[go_sem];refine VS.w (h.size+2) [] (.q 0 (.q 1 (.q 2 (.q 3 (.q 5 (.q 6 (.q 7 (.q 8 (.s 4 (.s 9 (.s 10 (.s 11 (.q 12 .nil))))))))))))) mixed po ?_;simp -implicitDefEqProofs only[go_sem];refine (VH T _ _ _).pure ?_;simp -implicitDefEqProofs only[go_sem];refine (VH T _ _ _).pure ?_;simp -implicitDefEqProofs only[go_sem];refine⟨(Zf.refl _ _).Yx Dq _,?_⟩;refine (qk T _ _ (Pf a.r b.r) (Pf a.n b.n) ?_ ?_).pure ?_
 .simp -implicitDefEqProofs only[go_sem]
 .simp -implicitDefEqProofs only[go_sem]
 unfold Mk;simp -implicitDefEqProofs only[go_sem];refine⟨(Zf.refl _ _).Yx Dq _,?_⟩
 (repeat' (first|exact Zf.refl _ _|assumption|refine Zf.add ?_ _|refine Zf.Zj ?_ aaa _|refine Zf.trans aab ?_))
theorem Kk(h:Hp)(v:Vt):Zc a7 T 168 #[av (Zn v).toArray] h fun v' h'=>v'=am (decide (Yv v))/\Zf h.size h h':=by
 refine Zc.Y8 [_] Tryz.func168 ?_;unfold Zn;by_cases q1:0<=v.ZA
 .by_cases q2:v.ZA<40
  .simp -implicitDefEqProofs only[go_sem,q1,q2];refine (Tj T _ v.b).use ?_;rintro _ _ ⟨rfl,rfl⟩;unfold JF;by_cases q3:Z6 v.b
   .simp -implicitDefEqProofs only[go_sem,q3];refine (Qt T _ v.k v.c v.s v.nm v.v).use ?_;rintro _ _ ⟨rfl,rfl⟩;by_cases q4:Y9 v.k v.c v.s v.nm v.v=0
    .have e:Yv v:=⟨⟨q1,gX⟩,q3,q4⟩
     simp -implicitDefEqProofs only[go_sem,q4,e]
     (repeat' (first|exact Zf.refl _ _|assumption|refine Zf.add ?_ _|refine Zf.Zj ?_ aaa _|refine Zf.trans aab ?_))
    .have e:¬Yv v:=fun h=>q4 h.2.2;simp -implicitDefEqProofs only[go_sem,q4,e]
     (repeat' (first|exact Zf.refl _ _|assumption|refine Zf.add ?_ _|refine Zf.Zj ?_ aaa _|refine Zf.trans aab ?_))
   .have e:¬Yv v:=fun h=>q3 h.2.1;simp -implicitDefEqProofs only[go_sem,q3,e]
  .have e:¬Yv v:=by unfold Yv;omega
   simp -implicitDefEqProofs only[go_sem,q1,q2,e]
 .have e:¬Yv v:=by unfold Yv;omega
  simp -implicitDefEqProofs only[go_sem,q1,e]
theorem Uw{h:Hp}{v:ay}{l:List Vt}(s:Ts Zn 8 h v l):∃p cap,v=X p (Q l) cap/\(l≠[]->∃b o,p=W ⟨b,o,Y⟩/\b<h.size/\(∀i (hi:i<(Q l)),hc h ⟨b,o+i*8,Y⟩=W (N O l[i].ZA))/\∀i (hi:i<(Q l)),rd h ⟨b,o+i*8,Y⟩ 8=W (Zn l[i])):=by
 obtain⟨p,cap,hv,UX⟩:=Ts.open (enc:=Zn) (n:=8) (fun _=>rfl) MZ s;refine⟨p,cap,hv,fun Ys=>?_⟩;obtain⟨b,o,hp,hb,YR⟩:=UX Ys;exact⟨b,o,hp,hb,fun i hi=>(YR i hi).hc (i:=0) rfl,fun i hi=>(YR i hi).rd (by simp[Zn]) rfl⟩
def Ml(l:List Vt)(j:Nat):Int:=((l[j]?).map (·.ZA)).getD (-1)
def VI(l:List Vt)(i:Nat):Int:=if i=0 then -1 else Ml l (i-1)
def TV(p:Ji)(l:List Vt)(i:Nat):Bool:=match l[i]? with
 | some v=>decide (Yv v/\¬Y4 p v.b/\(i=0\/Ml l (i-1)<v.ZA))
 | none=>true
def X8(p:Ji)(l:List Vt):Int:=if ¬Z6 p/\¬(p.r=0/\p.n=0) then 5 else if (cz (Q l)).all (TV p l)=true then 0 else 5
theorem Mm{l:List Vt}{j:Nat}(hj:j<(Q l)):Ml l j=l[j].ZA:=by
 unfold Ml;rw[a4 hj];rfl
theorem IB{p:Ji}{l:List Vt}(hi:i<(Q l)):TV p l i=true↔Yv l[i]/\¬Y4 p l[i].b/\(i=0\/Ml l (i-1)<l[i].ZA):=by
 unfold TV;rw[a4 hi];simp only[decide_eq_true_eq]
theorem G7{p:Ji}{l:List Vt}(hi:i<(Q l)):TV p l i=true↔Yv l[i]/\¬Y4 p l[i].b/\VI l i<l[i].ZA:=by
 rw[IB hi];unfold VI;by_cases h0:i=0
 .rw[if_pos h0]
  constructor
  .rintro⟨h1,h2,_⟩;exact⟨h1,h2,by have:=h1.1.1;omega⟩
  .rintro⟨h1,h2,_⟩;exact⟨h1,h2,.inl h0⟩
 .rw[if_neg h0]
  constructor
  .rintro⟨h1,h2,h3⟩;exact⟨h1,h2,h3.resolve_left h0⟩
  .rintro⟨h1,h2,h3⟩;exact⟨h1,h2,.inr h3⟩
theorem La{p:Ji}{l:List Vt}(hp:¬(¬Z6 p/\¬(p.r=0/\p.n=0)))(hg:∀j,j<(Q l)->TV p l j=true):X8 p l=0:=by
 unfold X8;rw[if_neg hp,if_pos (bD.2 fun i hi=>hg i (b5.1 hi))]
theorem Ux{p:Ji}{l:List Vt}(hi:i<(Q l))(hb:TV p l i=false):X8 p l=5:=by
 unfold X8;split
 .rfl
 .rw[if_neg];intro h;have:=bD.1 h i (b5.2 hi);rw[hb]at this;cases this
def Y0(p:Ji)(v:ay):List ay:=[N O p.r,N O p.n,v]
theorem PH(h:Hp)(p:Ji)(u:ay)(l:List Vt)(s:Ts Zn 8 h u l)(hlen:(Q l)<=4611686018427387904):
  Zc a7 T 164 #[av (Y0 p u).toArray] h fun v' h'=>v'=N O (X8 p l)/\Zf h.size h h':=by
 obtain⟨pv,cv,rfl,YR⟩:=Uw s;refine Zc.Y8 [_] Tryz.func164 ?_;unfold Y0;by_cases z:p.r=0/\p.n=0
 .obtain⟨z1,z2⟩:=z;have FH:¬(¬Z6 p/\¬(p.r=0/\p.n=0)):=fun h=>h.2 ⟨z1,z2⟩;simp -implicitDefEqProofs only[go_sem,z1,z2];obtain⟨H,hH⟩:=ZD (h.push (R [N O 0,N O 0,X pv (Q l) cv].toArray 119):Hp);have x0:H[h.size]? = W (R (Y0 p (X pv (Q l) cv)).toArray 119):=by rw[hH];unfold Y0;rw[z1,z2];exact Zb
  have bK:Zf h.size h H:=by rw[hH];(repeat' (first|exact Zf.refl _ _|assumption|refine Zf.add ?_ _|refine Zf.Zj ?_ aaa _|refine Zf.trans aab ?_))
  rw[<-hH];clear hH;have hz:=Za x0;refine VS.Z9 (fun F g=>Zf H.size H g/\F 1=al (W ⟨h.size,0,Y⟩)/\F 17=X pv (Q l) cv/\F 18=N O (Q l)/\∃i:Nat,i<=(Q l)/\F 19=N O i/\F 3=N O (VI l i)/\∀j,j<i->TV p l j=true)
   (fun F _=>(Q l)-(vi (F 19)).toNat) rfl ⟨Zf.refl _ _,rfl,rfl,rfl,0,gX,rfl,rfl,fun j hj=>by omega⟩ ?_
  rintro F g ⟨hg,f1,f17,f18,i,hi,f19,f3,Xc⟩;have Pd:=hg.size;have Eu:Zf h.size h g:=bK.trans (hg.mono gX);by_cases ZL:i<(Q l)
  .have ZW:(i:Int)<(Q l):=gX;obtain⟨bb,oo,rfl,U9,IC,YR⟩:=YR (by intro e;rw[e]at ZL;simp at ZL);have Zpj:bb<H.size:=by have:=bK.size;omega
   have r1:rd g ⟨bb,oo+i*8,Y⟩ 8=W (Zn l[i]):=by
    rw[JW Eu (by exact U9)];exact YR i ZL
   have rp:rd g ⟨h.size,0,Y⟩ 2=W [N O p.r,N O p.n]:=by rw[JW hg (by exact hz),Yh x0 (by simp[Y0])];rfl
   have hsl:=Mm ZL;have gl:=G7 (p:=p) ZL;obtain⟨v,hv⟩:=ZD (l[i]);rw[<-hv]at r1 gl hsl;unfold Zn at r1;have Y5:VI l (i+1)=v.ZA:=by unfold VI;rw[if_neg gX,bx];exact hsl
   simp -implicitDefEqProofs only[go_sem,f1,f17,f18,f19,ZW,r1];refine (Kk T _ v).use ?_;rintro _ g1 ⟨rfl,b1⟩;have b1s:=b1.size;simp only[ao]at b1s;have y0:g1[g.size]? = W (R [N O v.ZA,N O v.b.r,N O v.b.n,N O v.k,N O v.c,N O v.s,N O v.nm,N O v.v].toArray 168):=b1.get Dq Zb;have y1:hc g1 ⟨g.size,0,Y⟩=W (N O v.ZA):=by rw[Zg y0];rfl
   have y2:rd g1 ⟨g.size,1,Y⟩ 2=W [N O v.b.r,N O v.b.n]:=by rw[Yh y0 Dq];rfl
   have mI:Zf g.size g g1:=(Zf.push (a0 _) _).trans (b1.mono Dq);have y3:rd g1 ⟨h.size,0,Y⟩ 2=W [N O p.r,N O p.n]:=by rw[JW mI (by show h.size<g.size;omega)];exact rp
   have UE:Zf h.size h g1:=Eu.trans (mI.mono gX);have WB:Zf H.size H g1:=hg.trans (mI.mono gX);by_cases c1:Yv v
   .by_cases c2:v.ZA<=VI l i
    .have e:=Ux (p:=p) ZL (by cases DT:TV p l i with|false=>rfl|true=>exact absurd (gl.1 DT).2.2 gX);simp -implicitDefEqProofs only[go_sem,f1,f3,c1,c2,y1,e,UE]
    .simp -implicitDefEqProofs only[go_sem,f1,f3,c1,c2,y1,y2,y3];refine (Wz T _ v.b p).use ?_;rintro _ g2 ⟨rfl,b2⟩;have y4:hc g2 ⟨g.size,0,Y⟩=W (N O v.ZA):=by rw[b2.hc (by show g.size<g1.size;omega)];exact y1
     have Sw:Zf h.size h g2:=UE.trans (b2.mono (by have:=UE.size;omega));have JK:Zf H.size H g2:=WB.trans (b2.mono (by have:=WB.size;omega));by_cases c3:Y4 p v.b
     .have e:=Ux (p:=p) ZL (by cases DT:TV p l i with|false=>rfl|true=>exact absurd c3 (gl.1 DT).2.1);have qm:=(Ti v.b p).2 c3;simp -implicitDefEqProofs only[go_sem,qm,e,Sw]
     .have qm:¬0<Mk v.b p:=fun h=>c3 ((Ti v.b p).1 h);simp -implicitDefEqProofs only[go_sem,qm,f1,f17,f18,f19,y4];refine⟨⟨JK,f1,f17,f18,i+1,ZL,rfl,by rw[Y5];rfl,fun j hj=>?_⟩,?_⟩
      .by_cases Vb:j=i
       .subst Vb;exact gl.2 ⟨c1,c3,gX⟩
       .exact Xc j gX
      .simp only[vi,Zk,↓reduceIte,f19];omega
   .have e:=Ux (p:=p) ZL (by cases DT:TV p l i with|false=>rfl|true=>exact absurd (gl.1 DT).1 c1);simp -implicitDefEqProofs only[go_sem,c1,e,UE]
  .have YU:¬(i:Int)<(Q l):=gX;obtain rfl:i=(Q l):=gX;have e:=La FH Xc;simp -implicitDefEqProofs only[go_sem,f17,f18,f19,YU,e,Eu]
 .have z':¬p.r=0\/¬p.n=0:=gX;by_cases q:Z6 p
  .have FH:¬(¬Z6 p/\¬(p.r=0/\p.n=0)):=fun h=>h.1 q;have zz:(p.r=0/\p.n=0)=False:=eq_false z;by_cases z1:p.r=0
   .have z2:¬p.n=0:=fun e=>z ⟨z1,e⟩;exact absurd q.1.1 gX
   .simp -implicitDefEqProofs only[go_sem,z1];refine (Tj T _ p).use ?_;rintro _ _ ⟨rfl,rfl⟩;simp -implicitDefEqProofs only[go_sem,q];obtain⟨H,hH⟩:=ZD ((h.push (R [N O p.r,N O p.n,X pv (Q l) cv].toArray 119)).push (R (JF p).toArray 116):Hp);have x0:H[h.size]? = W (R (Y0 p (X pv (Q l) cv)).toArray 119):=by rw[hH];simp only[aw,ao,aI,↓reduceIte];rfl
    have bK:Zf h.size h H:=by rw[hH];(repeat' (first|exact Zf.refl _ _|assumption|refine Zf.add ?_ _|refine Zf.Zj ?_ aaa _|refine Zf.trans aab ?_))
    rw[<-hH];clear hH;have hz:=Za x0;refine VS.Z9 (fun F g=>Zf H.size H g/\F 1=al (W ⟨h.size,0,Y⟩)/\F 17=X pv (Q l) cv/\F 18=N O (Q l)/\∃i:Nat,i<=(Q l)/\F 19=N O i/\F 3=N O (VI l i)/\∀j,j<i->TV p l j=true)
     (fun F _=>(Q l)-(vi (F 19)).toNat) rfl ⟨Zf.refl _ _,rfl,rfl,rfl,0,gX,rfl,rfl,fun j hj=>by omega⟩ ?_
    rintro F g ⟨hg,f1,f17,f18,i,hi,f19,f3,Xc⟩;have Pd:=hg.size;have Eu:Zf h.size h g:=bK.trans (hg.mono gX);by_cases ZL:i<(Q l)
    .have ZW:(i:Int)<(Q l):=gX;obtain⟨bb,oo,rfl,U9,IC,YR⟩:=YR (by intro e;rw[e]at ZL;simp at ZL);have Zpj:bb<H.size:=by have:=bK.size;omega
     have r1:rd g ⟨bb,oo+i*8,Y⟩ 8=W (Zn l[i]):=by
      rw[JW Eu (by exact U9)];exact YR i ZL
     have rp:rd g ⟨h.size,0,Y⟩ 2=W [N O p.r,N O p.n]:=by rw[JW hg (by exact hz),Yh x0 (by simp[Y0])];rfl
     have hsl:=Mm ZL;have gl:=G7 (p:=p) ZL;obtain⟨v,hv⟩:=ZD (l[i]);rw[<-hv]at r1 gl hsl;unfold Zn at r1;have Y5:VI l (i+1)=v.ZA:=by unfold VI;rw[if_neg gX,bx];exact hsl
     simp -implicitDefEqProofs only[go_sem,f1,f17,f18,f19,ZW,r1];refine (Kk T _ v).use ?_;rintro _ g1 ⟨rfl,b1⟩;have b1s:=b1.size;simp only[ao]at b1s;have y0:g1[g.size]? = W (R [N O v.ZA,N O v.b.r,N O v.b.n,N O v.k,N O v.c,N O v.s,N O v.nm,N O v.v].toArray 168):=b1.get Dq Zb;have y1:hc g1 ⟨g.size,0,Y⟩=W (N O v.ZA):=by rw[Zg y0];rfl
     have y2:rd g1 ⟨g.size,1,Y⟩ 2=W [N O v.b.r,N O v.b.n]:=by rw[Yh y0 Dq];rfl
     have mI:Zf g.size g g1:=(Zf.push (a0 _) _).trans (b1.mono Dq);have y3:rd g1 ⟨h.size,0,Y⟩ 2=W [N O p.r,N O p.n]:=by rw[JW mI (by show h.size<g.size;omega)];exact rp
     have UE:Zf h.size h g1:=Eu.trans (mI.mono gX);have WB:Zf H.size H g1:=hg.trans (mI.mono gX);by_cases c1:Yv v
     .by_cases c2:v.ZA<=VI l i
      .have e:=Ux (p:=p) ZL (by cases DT:TV p l i with|false=>rfl|true=>exact absurd (gl.1 DT).2.2 gX);simp -implicitDefEqProofs only[go_sem,f1,f3,c1,c2,y1,e,UE]
      .simp -implicitDefEqProofs only[go_sem,f1,f3,c1,c2,y1,y2,y3];refine (Wz T _ v.b p).use ?_;rintro _ g2 ⟨rfl,b2⟩;have y4:hc g2 ⟨g.size,0,Y⟩=W (N O v.ZA):=by rw[b2.hc (by show g.size<g1.size;omega)];exact y1
       have Sw:Zf h.size h g2:=UE.trans (b2.mono (by have:=UE.size;omega));have JK:Zf H.size H g2:=WB.trans (b2.mono (by have:=WB.size;omega));by_cases c3:Y4 p v.b
       .have e:=Ux (p:=p) ZL (by cases DT:TV p l i with|false=>rfl|true=>exact absurd c3 (gl.1 DT).2.1);have qm:=(Ti v.b p).2 c3;simp -implicitDefEqProofs only[go_sem,qm,e,Sw]
       .have qm:¬0<Mk v.b p:=fun h=>c3 ((Ti v.b p).1 h);simp -implicitDefEqProofs only[go_sem,qm,f1,f17,f18,f19,y4];refine⟨⟨JK,f1,f17,f18,i+1,ZL,rfl,by rw[Y5];rfl,fun j hj=>?_⟩,?_⟩
        .by_cases Vb:j=i
         .subst Vb;exact gl.2 ⟨c1,c3,gX⟩
         .exact Xc j gX
        .simp only[vi,Zk,↓reduceIte,f19];omega
     .have e:=Ux (p:=p) ZL (by cases DT:TV p l i with|false=>rfl|true=>exact absurd (gl.1 DT).1 c1);simp -implicitDefEqProofs only[go_sem,c1,e,UE]
    .have YU:¬(i:Int)<(Q l):=gX;obtain rfl:i=(Q l):=gX;have e:=La FH Xc;simp -implicitDefEqProofs only[go_sem,f17,f18,f19,YU,e,Eu]
  .have e:X8 p l=5:=by unfold X8;rw[if_pos ⟨q,z⟩]
   by_cases z1:p.r=0
   .have z2:¬p.n=0:=fun e=>z ⟨z1,e⟩;have hb:=Tj T (h.push (R [N O 0,N O p.n,X pv (Q l) cv].toArray 119)) p;simp -implicitDefEqProofs only[go_sem,z1,z2];unfold JF at hb;rw[z1]at hb;refine hb.use ?_;rintro _ _ ⟨rfl,rfl⟩;simp -implicitDefEqProofs only[go_sem,q,e]
   .simp -implicitDefEqProofs only[go_sem,z1];refine (Tj T _ p).use ?_;rintro _ _ ⟨rfl,rfl⟩;simp -implicitDefEqProofs only[go_sem,q,e]
theorem VJ(h:Hp)(u:ay)(l:List Vt)(s:Ts Zn 8 h u l)(hl:(Q l)<=2199023255552):
  Zc a7 T 167 #[u] h fun v' h'=>JD h.size 168 Zn 8 h' v' l/\Zf h.size h h':=by
 obtain⟨p,c,rfl,UX⟩:=Uw s;refine Zc.Y8 [_] Tryz.func167 ?_
 cases p with
 | none=>
  have:l=[]:=by
   cases l with
   | nil=>rfl
   | cons x l=>obtain⟨b,o,hp,_⟩:=UX Dq;cases hp
  subst this;simp -implicitDefEqProofs only[go_sem];exact JD.nil _ _ _ _ _
 | some a=>
  simp -implicitDefEqProofs only[go_sem];refine RD (E:=168) (B:=h.size) (n:=8) (bytes:=64) SM Tryz.underlying117 OY fu rfl fq (fun _=>rfl) (JD.HX _ _ Zn 8 _ _) Dq (s.Yb (Zf.push (a0 _) _)) L6 gX ?_;intro v' h' ho hb _;simp -implicitDefEqProofs only[go_sem];exact⟨by simpa using ho,(Zf.push (a0 _) _).trans hb⟩
def YT(p:Ji)(l:List Vt)(b:Ji):Int:=if X8 p l≠0 then 5 else if ¬Z6 b then 2 else if Y4 b p then 7 else 0
theorem Lb(p:Ji)(l:List Vt):X8 p l=0\/X8 p l=5:=by
 unfold X8
 repeat' split
 all_goals simp
def Cv(B:Nat)(h':Hp)(v':ay)(p:Ji)(l:List Vt)(b:Ji):Prop:=∃w1 w2,v'=.tuple [av (Y0 (if YT p l b=0 then b else ⟨0,0⟩) w1).toArray,w2,N O (YT p l b)].toArray /\
 JD B 168 Zn 8 h' w1 (if YT p l b=0 then l else [])/\JD B 168 Zn 8 h' w2 (if YT p l b=0 then l else [])
theorem TX(h:Hp)(p:Ji)(u:ay)(l:List Vt)(b:Ji)(s:Ts Zn 8 h u l)(hl:(Q l)<=2199023255552):
  Zc a7 T 134 #[av (Y0 p u).toArray,av (JF b).toArray] h fun v' h'=>Cv h.size h' v' p l b/\Zf h.size h h':=by
 obtain⟨pu,cu,rfl,UX⟩:=Uw s;refine Zc.PX [_,_] Tryz.func134 ?_;unfold Y0 JF;simp -implicitDefEqProofs only[go_sem];have Tm:Zf h.size h ((((h.push (R [N O p.r,N O p.n,X pu (Q l) cu].toArray 119)).push (R [N O b.r,N O b.n].toArray 116)).push (R [N O 0,N O 0,X Y 0 0].toArray 119))):=by (repeat' (first|exact Zf.refl _ _|assumption|refine Zf.add ?_ _|refine Zf.Zj ?_ (by first|omega|(simp;omega)) _|refine Zf.trans (by assumption) ?_))
 refine (PH T _ p _ l (s.Yb Tm) (by omega)).use ?_;rintro _ g1 ⟨rfl,b1⟩;have x0:g1[h.size]? = W (R (Y0 p (X pu (Q l) cu)).toArray 119):=b1.get (by simp only[ao];omega) (by simp only[aw,ao,aI,↓reduceIte,Y0]);have x1:g1[h.size+1]? = W (R [N O b.r,N O b.n].toArray 116):=b1.get (by simp only[ao];omega) (by simp only[aw,ao,aI,↓reduceIte]);have x2:g1[h.size+2]? = W (R [N O 0,N O 0,X Y 0 0].toArray 119):=b1.get (by simp only[ao];omega) (by simp only[aw,ao,aI,↓reduceIte]);have UE:Zf h.size h g1:=Tm.trans (b1.mono (by simp;omega));have z1:=Za x2;clear b1 Tm;have fin:∀(G:Hp) (w:List ay),(Q w)=3->w.all Yq=true->G[h.size+2]? = W (R [N O 0,N O 0,X Y 0 0].toArray 119)->wr G ⟨h.size+1+1,0,Y⟩ w=W (G.setIfInBounds (h.size+1+1) (R w.toArray 119)):=by
  intro G w h3 h1 hx;rw[Z2 (b:=h.size+1+1) hx 0 w,ZZ (by rw[h3];rfl),if_pos ⟨by rw[h3];simp,h1⟩]
 unfold Cv;rcases Lb p l with e0|e0
 .have r1:=Zs x1 (n:=2) rfl;simp -implicitDefEqProofs only[go_sem,e0,r1];refine (Tj T _ b).use ?_;rintro _ _ ⟨rfl,rfl⟩;by_cases q1:Z6 b
  .have rp:rd g1 ⟨h.size,0,Y⟩ 2=W [N O p.r,N O p.n]:=by rw[Yh x0 (by simp[Y0])];rfl
   have z2:h.size<g1.size:=by omega
   have z3:h.size+1<g1.size:=by omega
   unfold JF;simp -implicitDefEqProofs only[go_sem,q1,r1,rp,z2,z3];refine (Wz T _ b p).use ?_;rintro _ g2 ⟨rfl,b2⟩;have Cw:Zf g1.size g1 g2:=(Zf.push (a0 _) _).trans (b2.mono (by simp));have x0':=Cw.get z2 x0;have x1':=Cw.get z3 x1;have x2':=Cw.get z1 x2;have Sw:=UE.trans (Cw.mono UE.size);have z5:=Za x2';by_cases q2:Y4 b p
   .have e:YT p l b=7:=by unfold YT;rw[if_neg (by rw[e0];decide),if_neg (fun h=>h q1),if_pos q2]
    have w2:=fin g2 [N O 0,N O 0,X Y 0 0] rfl rfl x2';have xI:Mk b p<0:=(Nc b p).2 q2;simp -implicitDefEqProofs only[go_sem,xI,e,w2,z5];refine⟨⟨_,_,rfl,JD.nil _ _ _ _ _,JD.nil _ _ _ _ _⟩,?_⟩;exact Sw.Zj (by omega) _
   .have e:YT p l b=0:=by unfold YT;rw[if_neg (by rw[e0];decide),if_neg (fun h=>h q1),if_neg q2]
    have r1':=Zs x1' (n:=2) rfl;have rv:hc g2 ⟨h.size,2,Y⟩=W (X pu (Q l) cu):=by rw[Zg x0'];rfl
    have xI:¬Mk b p<0:=fun h=>q2 ((Nc b p).1 h);simp -implicitDefEqProofs only[go_sem,xI];refine VS.w (h.size+2) [] (.q 0 (.q 1 (.q 2 (.q 5 (.q 6 (.s 3 (.q 4 (.s 7 (.s 8 (.q 9 (.q 10 .nil))))))))))) mixed (by kernel_rfl) ?_;have z6:h.size<h.size+2:=by omega
    have z7:h.size+1<h.size+2:=by omega
    simp -implicitDefEqProofs only[go_sem,r1',rv,z6,z7];refine (VJ T _ _ l (s.Yb Sw) hl).use ?_;rintro w1 g3 ⟨o1,b3⟩;obtain⟨p1,c1,rfl,_⟩:=o1.open;have b3':Zf (h.size+2) g2 g3:=b3.mono (by omega);simp -implicitDefEqProofs only[go_sem];refine⟨b3',?_⟩;refine (VJ T _ _ l ((s.Yb Sw).Yb b3) hl).use ?_;rintro w2 g4 ⟨o2,b4⟩;have b3s:=b3.size;have b4s:=b4.size;have bL:Zf (h.size+2) g2 g4:=b3'.trans (b4.mono (by omega));have Zg9:g4[h.size+2]? = W (R [N O 0,N O 0,X Y 0 0].toArray 119):=b4.get (by omega) (b3.get z5 x2');have z8:=Za Zg9;have wf:=fin g4 [N O b.r,N O b.n,X p1 (Q l) c1] rfl rfl Zg9;have fJ:=Sw.trans ((b3.trans (b4.mono b3s)).mono Sw.size);simp -implicitDefEqProofs only[go_sem,e,wf,z8];refine⟨bL,bL.Zj (by omega) _,⟨_,_,rfl,?_,?_⟩,?_⟩
    .exact (((o1.Yb b4 (a0 _)).mono (B':=h.size+1+1+1) (by omega)).Z3 (by omega) _).mono (by omega)
    .exact ((o2.mono (B':=h.size+1+1+1) (by omega)).Z3 (by omega) _).mono (by omega)
    .exact fJ.Zj (by omega) _
  .have e:YT p l b=2:=by unfold YT;rw[if_neg (by rw[e0];decide),if_pos q1]
   have w2:=fin g1 [N O 0,N O 0,X Y 0 0] rfl rfl x2;simp -implicitDefEqProofs only[go_sem,q1,e,w2,z1];exact⟨⟨_,_,rfl,JD.nil _ _ _ _ _,JD.nil _ _ _ _ _⟩,(UE.Zj (by omega) _).Yx (by simp;omega) _⟩
 .have e:YT p l b=5:=by unfold YT;rw[if_pos (by rw[e0];decide)]
  have w2:=fin g1 [N O 0,N O 0,X Y 0 0] rfl rfl x2;simp -implicitDefEqProofs only[go_sem,e0,e,w2,z1];exact⟨⟨_,_,rfl,JD.nil _ _ _ _ _,JD.nil _ _ _ _ _⟩,UE.Zj (by omega) _⟩
def Srt(l:List Vt):Prop:=∀i j (hi:i<(Q l)) (hj:j<(Q l)),i<j->l[i].ZA<l[j].ZA
theorem Nf{p:Ji}{l:List Vt}(h:X8 p l=0):∀j,j<(Q l)->TV p l j=true:=by
 intro j hj;unfold X8 at h;split at h
 .cases h
 .split at h
  .rename_i Xc;exact bD.1 Xc j (b5.2 hj)
  .cases h
theorem ID{p:Ji}{l:List Vt}(h:X8 p l=0):Srt l:=by
 have hg:=Nf h;intro i j
 induction j with
 | zero=>intro _ _ h;omega
 | succ j ih=>
  intro hi hj HI;have h1:=(IB hj).1 (hg _ hj);have h2:Ml l j<l[j+1].ZA:=by
   rcases h1.2.2 with h|h
   .omega
   .simpa using h
  rw[Mm gX]at h2;by_cases e:i=j
  .subst e;exact h2
  .exact Int.lt_trans (ih hi gX gX) h2
theorem bM{p:Ji}{l:List Vt}(h:X8 p l=0):∀x∈l,Yv x:=by
 intro x hx;obtain⟨j,hj,rfl⟩:=a9.1 hx;exact ((IB hj).1 (Nf h j hj)).1
def Ui(l:List Vt)(v:Vt):List Vt:=l.filter (fun x=>decide (x.ZA<v.ZA))++v :: l.filter (fun x=>decide (v.ZA<x.ZA))
theorem Lc{α:Type}(q:α->Bool)(l:List α)(i:Nat)(h1:∀j (hj:j<(Q l)),j<i->q l[j]=true)(h2:∀j (hj:j<(Q l)),i<=j->q l[j]=false):l.filter q=l.take i:=by
 conv=>lhs;rw[<-bn i l]
 rw[ca,b9.2,bJ.2,a5]
 .intro x hx;obtain⟨j,hj,rfl⟩:=a9.1 hx;rw[cn];rw[h2 _ (by rw[bc]at hj;omega) gX];decide
 .intro x hx;obtain⟨j,hj,rfl⟩:=a9.1 hx;rw[bf]at hj;rw[co];exact h1 _ gX gX
theorem Ld{α:Type}(q:α->Bool)(l:List α)(i:Nat)(h1:∀j (hj:j<(Q l)),j<i->q l[j]=false)(h2:∀j (hj:j<(Q l)),i<=j->q l[j]=true):l.filter q=l.drop i:=by
 conv=>lhs;rw[<-bn i l]
 rw[ca,bJ.2,b9.2,List.nil_append]
 .intro x hx;obtain⟨j,hj,rfl⟩:=a9.1 hx;rw[cn];exact h2 _ (by rw[bc]at hj;omega) gX
 .intro x hx;obtain⟨j,hj,rfl⟩:=a9.1 hx;rw[bf]at hj;rw[co,h1 _ gX gX];decide
theorem qo{l:List Vt}(hs:Srt l){v:Vt}(hi:i<(Q l))(he:l[i].ZA=v.ZA):Ui l v=l.set i v:=by
 have a1:l.filter (fun x=>decide (x.ZA<v.ZA))=l.take i:=Lc _ _ _
  (fun j hj Vb=>decide_eq_true (by have:=hs j i hj hi Vb;omega))
  (fun j hj HI=>decide_eq_false (by
    by_cases e:i=j
    .subst e;omega
    .have:=hs i j hi hj gX;omega))
 have a2:l.filter (fun x=>decide (v.ZA<x.ZA))=l.drop (i+1):=Ld _ _ _
  (fun j hj Vb=>decide_eq_false (by
    by_cases e:j=i
    .subst e;omega
    .have:=hs j i hj hi gX;omega))
  (fun j hj HI=>decide_eq_true (by have:=hs i j hi hj gX;omega))
 rw[Ui,a1,a2,List.set_eq_take_append_cons_drop,if_pos hi]
theorem qp{l:List Vt}(hs:Srt l){v:Vt}(hi:i<=(Q l))(h1:∀j (hj:j<(Q l)),j<i->l[j].ZA<v.ZA)(h2:∀j (hj:j<(Q l)),i<=j->v.ZA<l[j].ZA):Ui l v=l.take i++v :: l.drop i:=by
 have a1:l.filter (fun x=>decide (x.ZA<v.ZA))=l.take i:=Lc _ _ _ (fun j hj Vb=>decide_eq_true (h1 j hj Vb)) (fun j hj HI=>decide_eq_false (by have:=h2 j hj HI;omega));have a2:l.filter (fun x=>decide (v.ZA<x.ZA))=l.drop i:=Ld _ _ _ (fun j hj Vb=>decide_eq_false (by have:=h1 j hj Vb;omega)) (fun j hj HI=>decide_eq_true (h2 j hj HI));rw[Ui,a1,a2]
def Xl:List Nat->Nat
 | []=>0
 | x :: l=>x+256*Xl l
def Dg(l:List Nat):Prop:=∀x∈l,x<256
theorem Dg.getD(w:Dg l)(i:Nat):l.getD i 0<256:=ZT w i
theorem Dg.set{x:Nat}(w:Dg l)(i:Nat)(hx:x<256):Dg (l.set i x):=by
 intro y hy;rcases bz hy with h|h
 .exact w y h
 .rw[h];exact hx
theorem xK(w:Dg l):Xl l<256 ^ (Q l):=by
 induction l with
 | nil=>simp[Xl]
 | cons x l ih=>
  have h1:=ih fun y hy=>w y (b6 _ hy);have h2:=w x cd;simp only[Xl,bE,bR];omega
theorem bN(w:Dg l)(i:Nat):l.getD i 0=Xl l/256 ^ i%256:=by
 induction l generalizing i with
 | nil=>simp[Xl]
 | cons x l ih=>
  have hx:=w x cd
  cases i with
  | zero=>simp only[bp,Xl,Nat.pow_zero,Nat.div_one];omega
  | succ i=>
   rw[bw,ih (fun y hy=>w y (b6 _ hy)) i,Xl,bR,bg (256 ^ i) 256,<-Nat.div_div_eq_div_mul]
   congr 2
   omega
theorem getD_none(hi:¬i<(Q l)):l.getD i 0=0:=by
 rw[aa,b0 gX];rfl
def uv(x:Nat):ay:=N S (x:Nat)
def W26:Nat:=67108864
def Ez(n Z4:Nat):List Nat:=[n%67108864,n/67108864%67108864,n/4503599627370496%67108864,n/302231454903657293676544%67108864,n/20282409603651670423947251286016+Z4*16777216]
theorem Kl(x n:Nat)(hn:n<=64):YS S (x:Int) (n:Int)=((x*2 ^ n%18446744073709551616:Nat):Int):=by
 rw[FW S x n (by show n<=64;omega),OL];rfl
theorem RL(x n:Nat)(hn:n<=64):Xw S (x:Int) (n:Int)=((x/2 ^ n:Nat):Int):=by
 rw[RB S x n (by show n<=64;omega),Nat.shiftRight_eq_div_pow]
theorem SW(x:Nat)(hx:x<18446744073709551616):Ym .and S (x:Int) 67108863=((x%67108864:Nat):Int):=by
 have h:=wH x 67108863 hx MZ;have e:x &&& 67108863=x%67108864:=Nat.and_two_pow_sub_one_eq_mod x 26;rw[e]at h;exact h
theorem fK(L b:Nat)(hL:L<72057594037927936)(hb:b<256):Ym .or S ((L*256:Nat):Int) (b:Int)=((L*256+b:Nat):Int):=by
 rw[aB _ _ gX gX,Qn (k:=8) gX gX]
theorem Zha(L:Nat)(hL:L<72057594037927936):YS S (L:Int) 8=((L*256:Nat):Int):=by
 have h:=Kl L 8 MZ;rw[show L*2 ^ 8%18446744073709551616=L*256 by omega]at h;exact h
theorem Cx{m:Nat}(hm:m<(Q l)):Xl (l.drop m)=l.getD m 0+256*Xl (l.drop (m+1)):=by
 rw[List.drop_eq_getElem_cons hm];have e:l.getD m 0=l[m]:=by rw[aa,a4 hm];rfl
 rw[e];rfl
theorem Dg.drop(w:Dg l)(i:Nat):Dg (l.drop i):=fun x hx=>w x (List.mem_of_mem_drop hx)
theorem WC(w:Dg l){n:Nat}(hn:(Q l)<=n):Xl l<256 ^ n:=cf (xK w) (Nat.pow_le_pow_right gX hn)
set_option maxHeartbeats 1000000 in
theorem Mn(h:Hp)(v:ay)(l:List Nat)(Z4:Nat)(s:Bs h v l)(hl:(Q l)=16)(ht:Z4<=1):
  Zc a7 T 173 #[v,N S Z4] h fun v' h'=>v'=av ((Ez (Xl l) Z4).map uv).toArray/\Zf h.size h h':=by
 have wb:=s.byte;obtain⟨p,c,rfl,hc⟩:=s.UM;obtain⟨bb,oo,rfl,U9,hc⟩:=hc (by intro e;subst e;simp at hl);obtain⟨lo,hi,rfl,hlo,hhi⟩:∃lo hi:List Nat,l=lo++hi/\(Q lo)=8/\(Q hi)=8:=⟨l.take 8,l.drop 8,(bn 8 l).symm,by rw[bf];omega,by rw[bc];omega⟩
 have wlo:Dg lo:=fun x hx=>wb x (List.mem_append_left _ hx);have whi:Dg hi:=fun x hx=>wb x (List.mem_append_right _ hx);refine Zc.Y8 [_,_] Tryz.func173 ?_;simp -implicitDefEqProofs only[go_sem];obtain⟨Z,hZ⟩:∃Z:Obj,Z=R #[N S 0,N S 0,N S 0,N S 0,N S 0] 276:=⟨_,rfl⟩
 refine VS.Z9 (fun F g=>g=h.push (R #[N S 0,N S 0,N S 0,N S 0,N S 0] 276)/\F 0=X (W ⟨bb,oo,Y⟩) (lo++hi).length c/\F 1=N S Z4/\F 4=al (W ⟨h.size,0,Y⟩)/\∃j:Nat,j<=8/\F 7=N O ((j:Int)-1)/\F 5=N S (Xl (lo.drop j):Nat)/\F 6=N S (Xl (hi.drop j):Nat))
  (fun F _=>(vi (F 7)+1).toNat) rfl ⟨rfl,rfl,rfl,rfl,8,by omega,rfl,by rw[bS (by omega)];rfl,by rw[bS (by omega)];rfl⟩ ?_
 rintro F g ⟨rfl,f0,f1,f4,j,hj,f7,f5,f6⟩;by_cases ZL:0<j
 .obtain⟨m,rfl⟩:∃m,j=m+1:=⟨j-1,by omega⟩
  have e1:((m+1:Nat):Int)-1=(m:Nat):=by omega
  rw[e1]at f7;have g1:=hc m (by omega);have g2:=hc (8+m) (by omega);have d1:(lo++hi).getD m 0=lo.getD m 0:=by rw[aa,List.getElem?_append_left (by omega),aa]
  have d2:(lo++hi).getD (8+m) 0=hi.getD m 0:=by rw[aa,List.getElem?_append_right (by omega),hlo,Nat.add_sub_cancel_left,aa]
  rw[d1]at g1;rw[d2]at g2;have x1:=wlo.getD m;have x2:=whi.getD m;have n1:Xl (lo.drop m)=Xl (lo.drop (m+1))*256+lo.getD m 0:=by rw[Cx (l:=lo) (by omega)];omega
  have n2:Xl (hi.drop m)=Xl (hi.drop (m+1))*256+hi.getD m 0:=by rw[Cx (l:=hi) (by omega)];omega
  have b1:=WC (wlo.drop (m+1)) (n:=7) (by rw[bc];omega);have b2:=WC (whi.drop (m+1)) (n:=7) (by rw[bc];omega);rw[show 256 ^ 7=72057594037927936 from rfl]at b1 b2;have s1:=Zha _ b1;have s2:=Zha _ b2;have o1:=fK _ _ b1 x1;have o2:=fK _ _ b2 x2;have em:(8:Int)+(m:Int)=((8+m:Nat):Int):=by omega
  have k1:(m:Int)<(lo++hi).length:=by omega
  have k2:((8+m:Nat):Int)<(lo++hi).length:=by omega
  have k0:(0:Int)<=m:=by omega
  have Zpm:bb<h.size:=U9;have m1:((lo.getD m 0:Nat):Int)%18446744073709551616=(lo.getD m 0:Nat):=by omega
  have m2:((hi.getD m 0:Nat):Int)%18446744073709551616=(hi.getD m 0:Nat):=by omega
  simp -implicitDefEqProofs only[go_sem,f0,f1,f4,f5,f6,f7,m1,m2,k0,k1,k2,em,az,Zpm,g1,g2,s1,s2,o1,o2];refine⟨⟨rfl,f0,f1,f4,m,by omega,rfl,?_,?_⟩,?_⟩
  .rw[n1];rfl
  .rw[n2];rfl
  .simp only[vi,Zk,↓reduceIte,f7];omega
 .obtain rfl:j=0:=by omega
  rw[List.drop_zero]at f5 f6;have k0:¬(0:Int)<=((0:Nat):Int)-1:=by omega
  have b1:=WC wlo (n:=8) (by omega);have b2:=WC whi (n:=8) (by omega);rw[show 256 ^ 8=18446744073709551616 from rfl]at b1 b2;have OU:Xl (lo++hi)=Xl lo+18446744073709551616*Xl hi:=by
   have:∀a b:List Nat,Xl (a++b)=Xl a+256 ^ (Q a)*Xl b:=by
    intro a b
    induction a with
    | nil=>simp[Xl]
    | cons x a ih=>simp only[List.cons_append,Xl,ih,bE,bR,b7,bA];congr 2;rw[<-a6,bg 256]
   rw[this,hlo]
  rw[OU];generalize Xl lo=L at *;generalize Xl hi=M at *;have q1:=SW L b1;have q2:Xw S (L:Int) 26=((L/2 ^ 26:Nat):Int):=RL L 26 (by decide);have q3:=SW (L/2 ^ 26) (by omega);have q4:Xw S (L:Int) 52=((L/2 ^ 52:Nat):Int):=RL L 52 (by decide);have q5:YS S (M:Int) 12=((M*2 ^ 12%18446744073709551616:Nat):Int):=Kl M 12 (by decide);have q6:=aB (L/2 ^ 52) (M*2 ^ 12%18446744073709551616) (by omega) (by omega);rw[Nat.or_comm,Qn (k:=12) (by omega) (by omega)]at q6;have q7:=SW (M*2 ^ 12%18446744073709551616+L/2 ^ 52) (by omega);have q8:Xw S (M:Int) 14=((M/2 ^ 14:Nat):Int):=RL M 14 (by decide);have q9:=SW (M/2 ^ 14) (by omega);have q10:Xw S (M:Int) 40=((M/2 ^ 40:Nat):Int):=RL M 40 (by decide);have q11:YS S (Z4:Int) 24=((Z4*2 ^ 24%18446744073709551616:Nat):Int):=Kl Z4 24 (by decide);have q12:=aB (M/2 ^ 40) (Z4*2 ^ 24%18446744073709551616) (by omega) (by omega);rw[Nat.or_comm,Qn (k:=24) (by omega) (by omega)]at q12;simp -implicitDefEqProofs only[go_sem,f0,f1,f4,f5,f6,f7,k0,q1,q2,q3,q4,q5,q6,q7,q8,q9,q10,q11,q12];have w1:L%67108864=(L+18446744073709551616*M)%67108864:=by omega
  have w2:L/2 ^ 26%67108864=(L+18446744073709551616*M)/67108864%67108864:=by omega
  have w3:(M*2 ^ 12%18446744073709551616+L/2 ^ 52)%67108864=(L+18446744073709551616*M)/4503599627370496%67108864:=by omega
  have w4:M/2 ^ 14%67108864=(L+18446744073709551616*M)/302231454903657293676544%67108864:=by omega
  have w5:Z4*2 ^ 24%18446744073709551616+M/2 ^ 40=(L+18446744073709551616*M)/20282409603651670423947251286016+Z4*16777216:=by omega
  rw[w1,w2,w3,w4,w5];rfl
def Of(l:List Nat)(i:Nat):List Nat:=
 if i<4 then (l.set i (l.getD i 0%67108864)).set (i+1) ((l.set i (l.getD i 0%67108864)).getD (i+1) 0+l.getD i 0/67108864)
 else (l.set i (l.getD i 0%67108864)).set 0 ((l.set i (l.getD i 0%67108864)).getD 0 0+5*(l.getD i 0/67108864))
def JN(l:List Nat):Nat->List Nat
 | 0=>l
 | i+1=>Of (JN l i) i
def YC(K:Nat)(l:List Nat):Prop:=∀x∈l,x<K
theorem YC.getD{K:Nat}(w:YC K l)(hK:0<K)(i:Nat):l.getD i 0<K:=by
 by_cases hi:i<(Q l)
 .have e:l.getD i 0=l[i]:=by rw[aa,a4 hi];rfl
  rw[e];exact w _ (bG hi)
 .rw[getD_none hi];exact hK
theorem YC.set{K:Nat}(w:YC K l)(i x:Nat)(hx:x<K):YC K (l.set i x):=by
 intro y hy;rcases bz hy with h|h
 .exact w y h
 .rw[h];exact hx
theorem YC.mono{K K':Nat}(w:YC K l)(h:K<=K'):YC K' l:=fun x hx=>cf (w x hx) h
theorem Gg(l:List Nat)(i:Nat):(Of l i).length=(Q l):=by
 unfold Of;split<;>simp
theorem PI(l:List Nat):∀i,(JN l i).length=(Q l)
 | 0=>rfl
 | i+1=>by rw[JN,Gg,PI l i]
theorem jx{K:Nat}(w:YC K l)(h0:67108864<=K)(hK:K<=2 ^ 62):YC (K+2 ^ 39) (Of l i):=by
 have hx:=w.getD gX i;have w1:YC K (l.set i (l.getD i 0%67108864)):=w.set i _ gX;have hy:=w1.getD gX (i+1);have hz:=w1.getD gX 0;unfold Of;split
 .exact (w1.mono gX).set _ _ gX
 .exact (w1.mono gX).set _ _ gX
theorem G8{K:Nat}(w:YC K l)(h0:67108864<=K)(hK:K<=2 ^ 61):∀i,i<=5->YC (K+i*2 ^ 39) (JN l i)
 | 0,_=>by rw[cp,cq];exact w
 | i+1,hi=>by
  have:=jx (i:=i) (G8 w h0 hK i gX) gX gX;rw[JN];exact this.mono gX
theorem Ng{j x:Nat}(h:i≠j):(l.set i x).getD j 0=l.getD j 0:=by
 rw[aa,aa,be h]
def Yz(l:List Nat):Obj:=R (l.map uv++[]).toArray 276
theorem fL(x:Nat):Xw S (x:Int) 26=((x/67108864:Nat):Int):=RL x 26 MZ
set_option maxHeartbeats 1000000 in
theorem bO(h:Hp)(bk:Nat)(l:List Nat)(hl:(Q l)=5)(w:YC (2 ^ 61) l)(hb:h[bk]? = W (Yz l)):
  Zc a7 T 200 #[al (W ⟨bk,0,Y⟩)] h fun v' h'=>∃a,a=JN l 5/\h'=h.setIfInBounds bk (Yz ((a.set 1 (a.getD 1 0+a.getD 0 0/67108864)).set 0 (a.getD 0 0%67108864))):=by
 refine Zc.Y8 [_] Tryz.func200 ?_;simp -implicitDefEqProofs only[go_sem];refine VS.Z9 (fun F g=>F 0=al (W ⟨bk,0,Y⟩)/\∃i:Nat,i<=5/\F 4=N O i/\g=h.setIfInBounds bk (Yz (JN l i)))
  (fun F _=>5-(vi (F 4)).toNat) rfl ⟨rfl,0,gX,rfl,(UR hb).symm⟩ ?_
 rintro F g ⟨f0,i,hi,f4,rfl⟩;have hx:=Z1 (o:=Yz (JN l i)) hb;have hw:=G8 w MZ MZ i hi;have hw2:=hw.getD gX i;have mJ:(JN l i).length=5:=by rw[PI,hl]
 by_cases ZL:i<5
 .have ZW:(i:Int)<5:=gX;have Y5:JN l (i+1)=Of (JN l i) i:=rfl;obtain⟨a,ha⟩:=ZD (JN l i);rw[<-ha]at hx hw hw2 mJ Y5 ⊢;obtain⟨G,hG⟩:=ZD (h.setIfInBounds bk (Yz a));rw[<-hG]at hx ⊢;have g1:=ZX hx (i:=i) gX;unfold uv at g1;obtain⟨x,uT⟩:=ZD (a.getD i 0);rw[<-uT]at g1 hw2;have e1:=fL x;have e2:=SW x gX;simp -implicitDefEqProofs only[go_sem,f0,f4,ZW,az,ba,g1,e1];refine VS.w (bk+1) [8] (.q 0 (.q 1 (.q 2 (.q 3 (.q 4 (.q 5 (.q 6 (.q 7 (.w 8 .nil))))))))) mixed po ?_;have c1:Jb _ ⟨bk,i,Y⟩ (N S (x%67108864:Nat))=_:=Yk (f:=uv) hx (i:=i) gX (x%67108864) rfl;have QH:=Z1 (o:=R ((a.set i (x%67108864)).map uv++[]).toArray 276) hx;have bP:=hw.set i (x%67108864) gX;have UX:Of a i=if i<4 then (a.set i (x%67108864)).set (i+1) ((a.set i (x%67108864)).getD (i+1) 0+x/67108864) else (a.set i (x%67108864)).set 0 ((a.set i (x%67108864)).getD 0 0+5*(x/67108864)):=by rw[uT];rfl
  have qa:(a.set i (x%67108864)).length=5:=by rw[a8,mJ]
  obtain⟨a1,ha1⟩:=ZD (a.set i (x%67108864));rw[<-ha1]at QH bP UX qa c1;obtain⟨G1,mK⟩:=ZD (G.setIfInBounds bk (R (a1.map uv++[]).toArray 276));rw[<-mK]at QH c1;by_cases h4:i<4
  .have h4':(i:Int)<4:=gX;rw[if_pos h4]at UX;simp -implicitDefEqProofs only[go_sem,f0,f4,ZW,az,ba,g1,e1,e2,c1,h4'];refine VS.w (bk+1) [10] (.q 0 (.q 1 (.q 2 (.q 3 (.q 4 (.q 5 (.q 6 (.q 7 (.q 8 (.q 9 (.w 10 .nil))))))))))) mixed po ?_;have g2:=ZX QH (i:=i+1) gX;unfold uv at g2;have hy:=bP.getD gX (i+1);obtain⟨y,hyy⟩:=ZD (a1.getD (i+1) 0);rw[<-hyy]at g2 hy UX;have e3:(y:Int)+((x/67108864:Nat):Int)=((y+x/67108864:Nat):Int):=gX;have e4:((y+x/67108864:Nat):Int)%18446744073709551616=((y+x/67108864:Nat):Int):=gX;have ei:(i:Int)+1=((i+1:Nat):Int):=rfl;have hi1:((i+1:Nat):Int)<5:=gX;have c2:Jb G1 ⟨bk,i+1,Y⟩ (N S (y+x/67108864:Nat))=_:=Yk (f:=uv) QH (i:=i+1) gX (y+x/67108864) rfl;simp -implicitDefEqProofs only[go_sem,f0,f4,ZW,ei,hi1,az,ba,g2,e3,e4,c2];refine⟨⟨f0,i+1,ZL,rfl,?_⟩,?_⟩
   .rw[mK,set_set,hG,set_set,Y5,UX];rfl
   .simp only[vi,Zk,↓reduceIte,f4];omega
  .have h4':¬(i:Int)<4:=gX;rw[if_neg h4]at UX;simp -implicitDefEqProofs only[go_sem,f0,f4,ZW,az,ba,g1,e1,e2,c1,h4'];refine VS.w (bk+1) [9] (.q 0 (.q 1 (.q 2 (.q 3 (.q 4 (.q 5 (.q 6 (.q 7 (.q 8 (.w 9 .nil)))))))))) mixed po ?_;have g2:=ZX QH (i:=0) gX;unfold uv at g2;have hy:=bP.getD gX 0;obtain⟨y,hyy⟩:=ZD (a1.getD 0 0);rw[<-hyy]at g2 hy UX;have e5:(5:Int)*((x/67108864:Nat):Int)=((5*(x/67108864):Nat):Int):=gX;have e6:((5*(x/67108864):Nat):Int)%18446744073709551616=((5*(x/67108864):Nat):Int):=gX;have e3:(y:Int)+((5*(x/67108864):Nat):Int)=((y+5*(x/67108864):Nat):Int):=gX;have e4:((y+5*(x/67108864):Nat):Int)%18446744073709551616=((y+5*(x/67108864):Nat):Int):=gX;have c2:Jb G1 ⟨bk,0,Y⟩ (N S (y+5*(x/67108864):Nat))=_:=Yk (f:=uv) QH (i:=0) gX (y+5*(x/67108864)) rfl;simp -implicitDefEqProofs only[go_sem,f0,f4,ZW,az,ba,g2,e3,e4,e5,e6,c2];refine⟨⟨f0,i+1,ZL,rfl,?_⟩,?_⟩
   .rw[mK,set_set,hG,set_set,Y5,UX];rfl
   .simp only[vi,Zk,↓reduceIte,f4];omega
 .have YU:¬(i:Int)<5:=gX;obtain rfl:i=5:=gX;obtain⟨a,ha⟩:=ZD (JN l 5);rw[<-ha]at hx hw hw2 mJ ⊢;obtain⟨G,hG⟩:=ZD (h.setIfInBounds bk (Yz a));rw[<-hG]at hx ⊢;have g0:=ZX hx (i:=0) gX;have g1:=ZX hx (i:=1) gX;have y0:=hw.getD gX 0;have y1:=hw.getD gX 1;unfold uv at g0 g1;obtain⟨x,uT⟩:=ZD (a.getD 0 0);obtain⟨y,hyy⟩:=ZD (a.getD 1 0);rw[<-uT]at g0 y0;rw[<-hyy]at g1 y1;have e1:=fL x;have e2:=SW x gX;have e3:(y:Int)+((x/67108864:Nat):Int)=((y+x/67108864:Nat):Int):=gX;have e4:((y+x/67108864:Nat):Int)%18446744073709551616=((y+x/67108864:Nat):Int):=gX;have c5:((5:Nat):Int)=5:=rfl;rw[c5]at f4 YU;simp -implicitDefEqProofs only[go_sem,f0,f4,YU];refine VS.w (bk+1) [12] (.q 0 (.q 1 (.q 2 (.q 3 (.q 4 (.q 5 (.q 6 (.q 7 (.q 8 (.q 9 (.q 10 (.q 11 (.w 12 .nil))))))))))))) mixed po ?_;have c1:Jb G ⟨bk,1,Y⟩ (N S (y+x/67108864:Nat))=_:=Yk (f:=uv) hx (i:=1) gX (y+x/67108864) rfl;have QH:=Z1 (o:=R ((a.set 1 (y+x/67108864)).map uv++[]).toArray 276) hx;have qa:(a.set 1 (y+x/67108864)).length=5:=by rw[a8,mJ]
  obtain⟨a1,ha1⟩:=ZD (a.set 1 (y+x/67108864));rw[<-ha1]at QH qa c1;obtain⟨G1,mK⟩:=ZD (G.setIfInBounds bk (R (a1.map uv++[]).toArray 276));rw[<-mK]at QH c1;have g2:=ZX QH (i:=0) gX;unfold uv at g2;have g2e:a1.getD 0 0=x:=by rw[ha1,Ng MZ,<-uT]
  rw[g2e]at g2;simp -implicitDefEqProofs only[go_sem,f0,ba,g0,g1,e1,e3,e4,c1];refine VS.w (bk+1) [7] (.q 0 (.q 1 (.q 2 (.q 3 (.q 4 (.q 5 (.q 6 (.w 7 .nil)))))))) mixed po ?_;have c2:Jb G1 ⟨bk,0,Y⟩ (N S (x%67108864:Nat))=_:=Yk (f:=uv) QH (i:=0) gX (x%67108864) rfl;simp -implicitDefEqProofs only[go_sem,f0,ba,g2,e2,c2];rw[mK,set_set,hG,set_set,ha1];exact⟨a,rfl,by rw[<-uT,<-hyy];rfl⟩
theorem getD_set_ne{j x:Nat}(h:i≠j):(l.set i x).getD j 0=l.getD j 0:=by
 rw[aa,aa,be h]
def H16:Nat:=256 ^ 16
def Tn:Nat:=4*256 ^ 16-5
def YG:List Nat->Nat
 | []=>0
 | x :: l=>x+67108864*YG l
theorem Nh:Tn=1361129467683753853853498429727072845819:=rfl
theorem bQ{a b c d e:Nat}:∃q r0 r1 r2 r3 r4:Nat,JN [a,b,c,d,e] 5=[r0,r1,r2,r3,r4]/\YG [a,b,c,d,e]=YG [r0,r1,r2,r3,r4]+Tn*q/\r1<67108864/\r2<67108864/\r3<67108864/\r4<67108864/\r0<=67108863+5*q/\q<=(e+(d+(c+(b+a/67108864)/67108864)/67108864)/67108864)/67108864:=by
 refine⟨(e+(d+(c+(b+a/67108864)/67108864)/67108864)/67108864)/67108864,a%67108864+5*((e+(d+(c+(b+a/67108864)/67108864)/67108864)/67108864)/67108864),(b+a/67108864)%67108864,(c+(b+a/67108864)/67108864)%67108864,(d+(c+(b+a/67108864)/67108864)/67108864)%67108864,(e+(d+(c+(b+a/67108864)/67108864)/67108864)/67108864)%67108864,?_,?_,cg _ MZ,cg _ MZ,cg _ MZ,cg _ MZ,gX,a0 _⟩
 .rfl
 .simp only[YG,Nh];omega
theorem LV(h:(Q l)=5):∃a b c d e,l=[a,b,c,d,e]:=by
 match l,h with
 | [a,b,c,d,e],_=>exact⟨a,b,c,d,e,rfl⟩
def Xs(l:List Nat):List Nat:=((JN l 5).set 1 ((JN l 5).getD 1 0+(JN l 5).getD 0 0/67108864)).set 0 ((JN l 5).getD 0 0%67108864)
theorem YC.LV{K a b c d e:Nat}(ha:a<K)(hb:b<K)(hc:c<K)(hd:d<K)(he:e<K):YC K [a,b,c,d,e]:=by
 intro x hx;simp only[List.mem_cons,List.not_mem_nil,or_false]at hx;rcases hx with rfl|rfl|rfl|rfl|rfl<;>assumption
theorem YC.xM{K a b c d e:Nat}(w:YC K [a,b,c,d,e]):a<K/\b<K/\c<K/\d<K/\e<K:=
 ⟨w a Dq,w b Dq,w c Dq,w d Dq,w e Dq⟩
theorem RM(hl:(Q l)=5)(w:YC (2 ^ 61) l):(Xs l).length=5/\YC 134217728 (Xs l)/\YG (Xs l)%Tn=YG l%Tn/\YG (Xs l)<4*H16+2 ^ 44:=by
 obtain⟨a,b,c,d,e,rfl⟩:=LV hl;obtain⟨wa,wb,wc,wd,we⟩:=w.xM;obtain⟨q,r0,r1,r2,r3,r4,hc,hv,h1,h2,h3,h4,h0,hq⟩:=@bQ a b c d e;have hL:Xs [a,b,c,d,e]=[r0%67108864,r1+r0/67108864,r2,r3,r4]:=by unfold Xs;rw[hc];rfl
 have hq':q<2 ^ 36:=gX;have hr:r0/67108864<8192:=gX;have OU:YG [r0%67108864,r1+r0/67108864,r2,r3,r4]=YG [r0,r1,r2,r3,r4]:=by simp only[YG];omega
 rw[hL];refine⟨rfl,YC.LV gX gX gX gX gX,?_,?_⟩
 .rw[OU,hv,bh]
 .rw[OU];have e16:H16=340282366920938463463374607431768211456:=rfl;rw[e16];have h0':r0<549755813888:=gX;clear hv hc hq hq' hL OU h0;simp only[YG];omega
def Sd(a b:Nat)(out:List Nat)(i k:Nat):List Nat:=if i+k<5 then out.set (i+k) (out.getD (i+k) 0+a*b) else out.set (i+k-5) (out.getD (i+k-5) 0+5*a*b)
def SX(a:Nat)(bs out:List Nat)(i:Nat):Nat->List Nat
 | 0=>out
 | k+1=>Sd a (bs.getD k 0) (SX a bs out i k) i k
def Wj(xs bs:List Nat):Nat->List Nat
 | 0=>[0,0,0,0,0]
 | i+1=>SX (xs.getD i 0) bs (Wj xs bs i) i 5
theorem EA(a b:Nat)(out:List Nat)(i k:Nat):(Sd a b out i k).length=(Q out):=by unfold Sd;split<;>simp
theorem Vp(a:Nat)(bs out:List Nat)(i:Nat):∀k,(SX a bs out i k).length=(Q out)
 | 0=>rfl
 | k+1=>by rw[SX,EA,Vp a bs out i k]
theorem Vq(xs bs:List Nat):∀i,(Wj xs bs i).length=5
 | 0=>rfl
 | i+1=>by rw[Wj,Vp,Vq xs bs i]
theorem Mo{a b:Nat}(ha:a<268435456)(hb:b<67108864):a*b<18014398509481984:=
 Nat.lt_of_le_of_lt (Nat.mul_le_mul (cr (show a<268435455+1 from ha)) (cr (show b<67108863+1 from hb))) MZ
theorem IE{a b:Nat}(ha:a<268435456)(hb:b<67108864):5*a*b<90071992547409920:=by
 have:=Mo ha hb;rw[a6];omega
theorem qq{K a b:Nat}{out:List Nat}{k:Nat}(w:YC K out)(hK:0<K)(ha:a<268435456)(hb:b<67108864):YC (K+90071992547409920) (Sd a b out i k):=by
 have h1:=Mo ha hb;have h2:=IE ha hb;have q1:=w.getD hK (i+k);have q2:=w.getD hK (i+k-5);unfold Sd;split
 .exact (w.mono gX).set _ _ gX
 .exact (w.mono gX).set _ _ gX
theorem EB{K a:Nat}{bs out:List Nat}(w:YC K out)(hK:0<K)(ha:a<268435456)(hb:YC 67108864 bs):∀k,YC (K+k*90071992547409920) (SX a bs out i k)
 | 0=>by rw[cp];exact w
 | k+1=>by
  rw[SX,Nat.add_mul,Nat.one_mul,<-bA];exact qq (EB w hK ha hb k) gX ha (hb.getD gX k)
theorem EC{xs bs:List Nat}(ha:YC 268435456 xs)(hb:YC 67108864 bs):∀i,YC (1+i*450359962737049600) (Wj xs bs i)
 | 0=>YC.LV gX gX gX gX gX
 | i+1=>by
  rw[Wj];exact (EB (EC ha hb i) gX (ha.getD gX i) hb 5).mono gX
theorem Mp:∀{l:List Nat} {i x:Nat},i<(Q l)->YG (l.set i (l.getD i 0+x))=YG l+x*67108864 ^ i
 | y :: l,0,x,_=>by simp only[ch,bp,YG,Nat.pow_zero,Nat.mul_one];omega
 | y :: l,i+1,x,h=>by
  simp only[ck,bw,YG];rw[Mp (l:=l) (i:=i) (x:=x) (by simpa using h),bR,<-a6];omega
theorem X5:67108864 ^ 5=Tn+5:=rfl
theorem Zhe(v a b y P:Nat):(v+5*a*b*y)%P=(v+a*b*(y*(P+5)))%P:=by
 have e:a*b*(y*(P+5))=5*a*b*y+P*(a*b*y):=by
  rw[b7,b7,Nat.add_comm]
  congr 1
  .rw[bg y 5,<-a6,bg (a*b) 5,<-a6 5 a b]
  .rw[bg y P,<-a6,bg (a*b) P,a6]
 rw[e,<-bA,bh]
theorem jy{a b:Nat}{out:List Nat}{k:Nat}(hl:(Q out)=5)(hi:i<5)(hk:k<5):YG (Sd a b out i k)%Tn=(YG out+a*b*67108864 ^ (i+k))%Tn:=by
 unfold Sd;split
 .rename_i h;rw[Mp gX]
 .rename_i h;rw[Mp gX];obtain⟨j,hj⟩:∃j,i+k=j+5:=⟨i+k-5,gX⟩
  rw[hj,bx,Nat.pow_add,X5];exact Zhe _ _ _ _ _
def xN(bs:List Nat):Nat->Nat
 | 0=>0
 | k+1=>xN bs k+bs.getD k 0*67108864 ^ k
theorem Cy{bs:List Nat}(h:(Q bs)=5):xN bs 5=YG bs:=by
 obtain⟨a,b,c,d,e,rfl⟩:=LV h;simp only[xN,YG,bp,bw];omega
theorem Cz{a:Nat}{bs out:List Nat}(hl:(Q out)=5)(hi:i<5):∀k,k<=5->YG (SX a bs out i k)%Tn=(YG out+a*67108864 ^ i*xN bs k)%Tn
 | 0,_=>by rw[SX,xN,Nat.mul_zero,cq]
 | k+1,hk=>by
  rw[SX,jy (by rw[Vp,hl]) hi gX,b8,Cz hl hi k gX,<-b8,xN,b7,<-bA,Nat.pow_add]
  congr 2
  rw[a6,a6 a]
  congr 1
  rw[<-a6,bg (bs.getD k 0),a6]
theorem CA{xs bs:List Nat}(hb:(Q bs)=5):∀i,i<=5->YG (Wj xs bs i)%Tn=(xN xs i*YG bs)%Tn
 | 0,_=>by rw[xN,cp];rfl
 | i+1,hi=>by
  rw[Wj,Cz (Vq xs bs i) gX 5 gX,b8,CA hb i gX,<-b8,Cy hb,xN,Nat.add_mul]
theorem G9{xs bs:List Nat}(ha:(Q xs)=5)(hb:(Q bs)=5)(wa:YC 268435456 xs)(wb:YC 67108864 bs):
  YC (2 ^ 61) (Wj xs bs 5)/\(Wj xs bs 5).length=5/\YG (Wj xs bs 5)%Tn=YG xs*YG bs%Tn:=
 ⟨(EC wa wb 5).mono MZ,Vq xs bs 5,by rw[CA hb 5 gX,Cy ha]⟩
def Pg(m:List Nat):Nat->List Nat
 | 0=>m.set 0 (m.getD 0 0+5)
 | i+1=>((Pg m i).set (i+1) ((Pg m i).getD (i+1) 0+(Pg m i).getD i 0/67108864)).set i ((Pg m i).getD i 0%67108864)
theorem IF(m:List Nat):∀i,(Pg m i).length=(Q m)
 | 0=>by simp[Pg]
 | i+1=>by rw[Pg,a8,a8,IF m i]
theorem qr{m:List Nat}(w:YC 134217728 m):∀i,i<=10->YC (134217728+6+i*8) (Pg m i)
 | 0,_=>(w.mono gX).set _ _ (by have:=w.getD gX 0;omega)
 | i+1,hi=>by
  have h:=qr w i gX;have q1:=h.getD gX (i+1);have q2:=h.getD gX i;rw[Pg];exact ((h.mono gX).set _ _ gX).set _ _ gX
def SY(m:List Nat):List Nat:=if (Pg m 4).getD 4 0/67108864=0 then m else (Pg m 4).set 4 ((Pg m 4).getD 4 0%67108864)
theorem Zpp{A B C P:Nat}(h1:A+5=B)(h2:B=C)(h3:C<P+5):A<P:=gX
theorem Zpq{A B C q:Nat}(h1:A+5=B)(h2:B=C+1361129467683753853853498429727072845824*q)(hv:A<1361129467683753853853498429727072845824+2 ^ 44)(h0:¬q=0):q=1:=gX
theorem Zpr{A B C P:Nat}(h1:A+5=B)(h2:B=C+(P+5))(hv:A<P+5+2 ^ 44)(hP:2 ^ 45<P):A=C+P*1/\C<P:=gX
theorem jz{m:List Nat}(hl:(Q m)=5)(w:YC 134217728 m)(hv:YG m<4*H16+2 ^ 44):(SY m).length=5/\YC 134217728 (SY m)/\YG (SY m)=YG m%Tn:=by
 obtain⟨a,b,c,d,e,rfl⟩:=LV hl;obtain⟨wa,wb,wc,wd,we⟩:=w.xM;obtain⟨t0,ht0⟩:∃t,t=a+5:=⟨_,rfl⟩
 obtain⟨t1,ht1⟩:∃t,t=b+t0/67108864:=⟨_,rfl⟩
 obtain⟨t2,ht2⟩:∃t,t=c+t1/67108864:=⟨_,rfl⟩
 obtain⟨t3,ht3⟩:∃t,t=d+t2/67108864:=⟨_,rfl⟩
 obtain⟨t4,ht4⟩:∃t,t=e+t3/67108864:=⟨_,rfl⟩
 have hY:Pg [a,b,c,d,e] 4=[t0%67108864,t1%67108864,t2%67108864,t3%67108864,t4]:=by rw[ht4,ht3,ht2,ht1,ht0];rfl
 have hW:SY [a,b,c,d,e]=if t4/67108864=0 then [a,b,c,d,e] else [t0%67108864,t1%67108864,t2%67108864,t3%67108864,t4%67108864]:=by unfold SY;rw[hY];rfl
 have e16:H16=340282366920938463463374607431768211456:=rfl;rw[hW];have hs:YG [a,b,c,d,e]+5=YG [t0%67108864,t1%67108864,t2%67108864,t3%67108864,t4]:=by simp only[YG];omega
 have hx:YG [t0%67108864,t1%67108864,t2%67108864,t3%67108864,t4]=YG [t0%67108864,t1%67108864,t2%67108864,t3%67108864,t4%67108864]+(Tn+5)*(t4/67108864):=by rw[Nh];simp only[YG];omega
 have hb4:YG [t0%67108864,t1%67108864,t2%67108864,t3%67108864,t4%67108864]<Tn+5:=by rw[Nh];simp only[YG];omega
 have hH:4*H16=Tn+5:=rfl;rw[hH]at hv;split
 .rename_i h0;refine⟨rfl,w,?_⟩;rw[h0,Nat.mul_zero,cq]at hx;rw[ct (Zpp hs hx hb4)]
 .rename_i h0;refine⟨rfl,YC.LV gX gX gX gX gX,?_⟩;have h1:t4/67108864=1:=by
   rw[Nh]at hx hv;exact Zpq hs hx hv h0
  rw[h1,Nat.mul_one]at hx;obtain⟨hk,hC⟩:=Zpr hs hx hv (by rw[Nh];decide);rw[hk,bh,ct hC]
theorem CD(h:Hp)(bk:Nat)(l:List Nat)(hl:(Q l)=5)(w:YC (2 ^ 61) l)(hb:h[bk]? = W (Yz l)):
  Zc a7 T 200 #[al (W ⟨bk,0,Y⟩)] h fun v' h'=>h'=h.setIfInBounds bk (Yz (Xs l)):=
 (bO T h bk l hl w hb).mono fun v' h' ⟨a,ha,hh⟩=>by subst ha;exact hh
theorem ED(hi:i<(Q l)):nth (l.map uv) i=W (N S (l.getD i 0:Nat)):=by
 rw[YE,List.getElem?_map,a4 hi,aa,a4 hi];rfl
theorem SZ{g:Hp}{b:Nat}(hl:(Q l)=5)(hx:g[b]? = W (Yz l)):rd g ⟨b,0,Y⟩ 5=W (l.map uv):=by
 unfold Yz at hx;rw[a5]at hx;exact Zs hx (by simpa using hl)
set_option maxHeartbeats 1000000 in
theorem CE(h:Hp)(xs bs:List Nat)(ha:(Q xs)=5)(hb:(Q bs)=5)(wa:YC 268435456 xs)(wb:YC 67108864 bs):
  Zc a7 T 174 #[av (xs.map uv).toArray,av (bs.map uv).toArray] h fun v' h'=>v'=av ((Xs (Wj xs bs 5)).map uv).toArray/\Zf h.size h h':=by
 have la:(xs.map uv).length=5:=by simpa using ha
 have lb:(bs.map uv).length=5:=by simpa using hb
 have ta:(xs.map uv).take 5=xs.map uv:=bd gX;refine Zc.Y8 [_,_] Tryz.func174 ?_;simp -implicitDefEqProofs only[go_sem,la,lb,ta];obtain⟨H,hH⟩:=ZD (((((h.push (R (xs.map uv).toArray 276)).push (R (bs.map uv).toArray 276)).push (R #[N S 0,N S 0,N S 0,N S 0,N S 0] 276)).push (R #[N S 0,N S 0,N S 0,N S 0,N S 0] 276)):Hp);have HB:Zf h.size h H:=by rw[hH];exact (((Zf.push (a0 _) _).Yx Dq _).Yx L6 _).Yx L6 _
 have Hs:H.size=h.size+1+1+1+1:=by rw[hH];simp
 have H1:H[h.size+1]? = W (Yz bs):=by
  rw[hH,Zl Dq,Zl Dq];have:=Zb (h:=h.push (R (xs.map uv).toArray 276)) (o:=R (bs.map uv).toArray 276);rw[ao]at this;rw[this];unfold Yz;rw[a5]
 have H3:H[h.size+1+1+1]? = W (Yz (Wj xs bs 0)):=by
  have:=Zb (h:=(((h.push (R (xs.map uv).toArray 276)).push (R (bs.map uv).toArray 276)).push (R #[N S 0,N S 0,N S 0,N S 0,N S 0] 276))) (o:=R #[N S 0,N S 0,N S 0,N S 0,N S 0] 276);rw[ao,ao,ao]at this;rw[hH,this];rfl
 have H2:H[h.size+1+1]? = W (Yz [0,0,0,0,0]):=by
  have:=Zb (h:=((h.push (R (xs.map uv).toArray 276)).push (R (bs.map uv).toArray 276))) (o:=R #[N S 0,N S 0,N S 0,N S 0,N S 0] 276);rw[ao,ao]at this;rw[hH,Zl Dq,this];rfl
 rw[<-hH];clear hH;obtain⟨bo,hbo⟩:=ZD (h.size+1+1+1);obtain⟨br,hbr⟩:=ZD (h.size+1+1);obtain⟨bb,U9⟩:=ZD (h.size+1);rw[<-hbo]at H3 ⊢;rw[<-hbr]at H2 ⊢;rw[<-U9]at H1 ⊢;refine VS.Z9 (fun F g=>F 3=al (W ⟨bb,0,Y⟩)/\F 4=al (W ⟨br,0,Y⟩)/\F 5=al (W ⟨bo,0,Y⟩)/\F 10=av (xs.map uv).toArray/\∃i:Nat,i<=5/\F 11=N O i/\g=H.setIfInBounds bo (Yz (Wj xs bs i)))
  (fun F _=>5-(vi (F 11)).toNat) rfl ⟨rfl,rfl,rfl,rfl,0,gX,rfl,(UR H3).symm⟩ ?_
 rintro F g ⟨f3,f4,f5,f10,i,hi,f11,rfl⟩;by_cases ZL:i<5
 .have ZW:(i:Int)<5:=gX;have n1:=ED (l:=xs) (i:=i) gX;have H1':(H.setIfInBounds bo (Yz (Wj xs bs i)))[bb]? = W (Yz bs):=by rw[U,if_neg gX];exact H1
  have r1:=SZ hb H1';have wA:=wa.getD gX i;have ZcY:Wj xs bs (i+1)=SX (xs.getD i 0) bs (Wj xs bs i) i 5:=rfl;obtain⟨a,hax⟩:=ZD (xs.getD i 0);rw[<-hax]at n1 wA ZcY;simp -implicitDefEqProofs only[go_sem,f3,f4,f5,f10,f11,ZW,az,n1,r1];have wO:YC (1+i*450359962737049600) (Wj xs bs i):=EC wa wb i;have lO:=Vq xs bs i;obtain⟨o,ho⟩:=ZD (Wj xs bs i);rw[<-ho]at ZcY wO lO ⊢;refine VS.Z9 (fun F g=>F 3=al (W ⟨bb,0,Y⟩)/\F 4=al (W ⟨br,0,Y⟩)/\F 5=al (W ⟨bo,0,Y⟩)/\F 10=av (xs.map uv).toArray/\F 11=N O i/\F 6=N O i/\F 7=N S a/\F 15=av (bs.map uv).toArray/\∃k:Nat,k<=5/\F 16=N O k/\g=H.setIfInBounds bo (Yz (SX a bs o i k)))
   (fun F _=>5-(vi (F 16)).toNat) rfl ⟨f3,f4,f5,f10,f11,rfl,rfl,rfl,0,gX,rfl,rfl⟩ ?_
  clear f3 f4 f5 f10 f11 F;rintro F g ⟨f3,f4,f5,f10,f11,f6,f7,f15,k,hk,f16,rfl⟩;by_cases hlk:k<5
  .have Zhg:(k:Int)<5:=gX;have n2:=ED (l:=bs) (i:=k) gX;have wB:=wb.getD gX k;have Se:SX a bs o i (k+1)=Sd a (bs.getD k 0) (SX a bs o i k) i k:=rfl;obtain⟨b,hbx⟩:=ZD (bs.getD k 0);rw[<-hbx]at n2 wB Se;have wR:=EB wO gX wA wb (i:=i) k;have lR:(SX a bs o i k).length=5:=by rw[Vp,lO]
   have hx:(H.setIfInBounds bo (Yz (SX a bs o i k)))[bo]? = W (Yz (SX a bs o i k)):=Z1 H3;have hp:=Mo wA wB;have hp5:=IE wA wB;obtain⟨r,hr⟩:=ZD (SX a bs o i k);rw[<-hr]at Se wR lR hx ⊢;obtain⟨G,hG⟩:=ZD (H.setIfInBounds bo (Yz r));rw[<-hG]at hx ⊢;have eik:(i:Int)+(k:Int)=((i+k:Nat):Int):=rfl;by_cases h5:i+k<5
   .have h5':((i+k:Nat):Int)<5:=gX;have g1:=ZX hx (i:=i+k) gX;have y1:=wR.getD gX (i+k);unfold uv at g1;have hs:Sd a b r i k=r.set (i+k) (r.getD (i+k) 0+a*b):=by unfold Sd;rw[if_pos h5]
    rw[hs]at Se;obtain⟨y,hy⟩:=ZD (r.getD (i+k) 0);rw[<-hy]at g1 y1 Se;have e1:(a:Int)*(b:Int)=((a*b:Nat):Int):=(cy a b).symm;have e2:((a*b:Nat):Int)%18446744073709551616=((a*b:Nat):Int):=gX;obtain⟨p,hp'⟩:=ZD (a*b);rw[<-hp']at e1 e2 hp Se;have e3:(y:Int)+(p:Int)=((y+p:Nat):Int):=rfl;have e4:((y+p:Nat):Int)%18446744073709551616=((y+p:Nat):Int):=gX;have c1:Jb G ⟨bo,i+k,Y⟩ (N S (y+p:Nat))=_:=Yk (f:=uv) hx (i:=i+k) gX (y+p) rfl;simp -implicitDefEqProofs only[go_sem,f3,f4,f5,f6,f7,f10,f11,f15,f16,Zhg,az,n2,eik,h5',g1,e1,e2,e3,e4,c1];refine⟨⟨f3,f4,f5,f10,f11,f6,f7,f15,k+1,hlk,rfl,?_⟩,?_⟩
    .rw[hG,set_set,Se];rfl
    .simp only[vi,Zk,↓reduceIte,f16];omega
   .have h5':¬((i+k:Nat):Int)<5:=gX;have g1:=ZX hx (i:=i+k-5) gX;have y1:=wR.getD gX (i+k-5);unfold uv at g1;have hs:Sd a b r i k=r.set (i+k-5) (r.getD (i+k-5) 0+5*a*b):=by unfold Sd;rw[if_neg h5]
    rw[hs]at Se;obtain⟨y,hy⟩:=ZD (r.getD (i+k-5) 0);rw[<-hy]at g1 y1 Se;have e0:(5:Int)*(a:Int)=((5*a:Nat):Int):=rfl;have uU:((5*a:Nat):Int)%18446744073709551616=((5*a:Nat):Int):=gX;have e1:((5*a:Nat):Int)*(b:Int)=((5*a*b:Nat):Int):=(cy (5*a) b).symm;have e2:((5*a*b:Nat):Int)%18446744073709551616=((5*a*b:Nat):Int):=gX;obtain⟨p,hp'⟩:=ZD (5*a*b);rw[<-hp']at e1 e2 hp5 Se;have e3:(y:Int)+(p:Int)=((y+p:Nat):Int):=rfl;have e4:((y+p:Nat):Int)%18446744073709551616=((y+p:Nat):Int):=gX;have e5:((i+k:Nat):Int)-5=((i+k-5:Nat):Int):=gX;have e6:((i+k-5:Nat):Int)<5:=gX;have c1:Jb G ⟨bo,i+k-5,Y⟩ (N S (y+p:Nat))=_:=Yk (f:=uv) hx (i:=i+k-5) gX (y+p) rfl;simp -implicitDefEqProofs only[go_sem,f3,f4,f5,f6,f7,f10,f11,f15,f16,Zhg,az,n2,eik,h5',g1,e0,uU,e1,e2,e3,e4,e5,e6,c1];refine⟨⟨f3,f4,f5,f10,f11,f6,f7,f15,k+1,hlk,rfl,?_⟩,?_⟩
    .rw[hG,set_set,Se];rfl
    .simp only[vi,Zk,↓reduceIte,f16];omega
  .have YU:¬(k:Int)<5:=gX;obtain rfl:k=5:=gX;have c5:((5:Nat):Int)=5:=rfl;rw[c5]at f16 YU;simp -implicitDefEqProofs only[go_sem,f3,f4,f5,f10,f11,f16,YU];refine⟨⟨f3,f4,f5,f10,i+1,ZL,rfl,?_⟩,?_⟩
   .rw[ZcY]
   .simp only[vi,Zk,↓reduceIte,f11];omega
 .have YU:¬(i:Int)<5:=gX;obtain rfl:i=5:=gX;have c5:((5:Nat):Int)=5:=rfl;rw[c5]at f11 YU;have hx:(H.setIfInBounds bo (Yz (Wj xs bs 5)))[bo]? = W (Yz (Wj xs bs 5)):=Z1 H3;have PA:(H.setIfInBounds bo (Yz (Wj xs bs 5)))[br]? = W (Yz [0,0,0,0,0]):=by rw[U,if_neg gX];exact H2
  have HB2:Zf h.size h (H.setIfInBounds bo (Yz (Wj xs bs 5))):=HB.Zj gX _;obtain⟨w1,w2,w3⟩:=G9 ha hb wa wb;obtain⟨o,ho⟩:=ZD (Wj xs bs 5);rw[<-ho]at hx PA HB2 w1 w2 ⊢;generalize H.setIfInBounds bo (Yz o)=G at *;simp -implicitDefEqProofs only[go_sem,f3,f4,f5,f10,f11,YU];refine (CD T G bo o w2 w1 hx).use ?_;rintro _ _ rfl;obtain⟨m1,m2,m3⟩:=RM w2 w1;have bU:(G.setIfInBounds bo (Yz (Xs o)))[bo]? = W (Yz (Xs o)):=Z1 hx;have Aw:(G.setIfInBounds bo (Yz (Xs o)))[br]? = W (Yz [0,0,0,0,0]):=by rw[U,if_neg gX];exact PA
  have HB3:Zf h.size h (G.setIfInBounds bo (Yz (Xs o))):=HB2.Zj gX _;generalize G.setIfInBounds bo (Yz (Xs o))=G2 at *;have r3:=SZ m1 bU;have lc:((Xs o).map uv).length=5:=by simpa using m1
  have w4:=Z2 (h:=G2) (b:=br) (l:=([0,0,0,0,0].map uv)) (by unfold Yz at Aw;rw[a5]at Aw;exact Aw) 0 ((Xs o).map uv);have ho4:((Xs o).map uv).all Yq=true:=by simp[uv,Yq]
  rw[if_pos ⟨by simp[lc],ho4⟩,ZZ (by simp[lc])]at w4;have tc:((Xs o).map uv).take 5=(Xs o).map uv:=bd gX;have hlr:=Za Aw;simp -implicitDefEqProofs only[go_sem,f3,f4,f5,r3,w4,lc,tc,hlr];exact HB3.Zj gX _
theorem CF(h:Hp)(xs:List Nat)(ha:(Q xs)=5)(wa:YC 268435456 xs):
  Zc a7 T 175 #[av (xs.map uv).toArray] h fun v' h'=>v'=av ((SY (Xs xs)).map uv).toArray/\Zf h.size h h':=by
 have la:(xs.map uv).length=5:=by simpa using ha
 refine Zc.Y8 [_] Tryz.func175 ?_;simp -implicitDefEqProofs only[go_sem,la];obtain⟨H,hH⟩:=ZD (((h.push (R (xs.map uv).toArray 276)).push (R #[N S 0,N S 0,N S 0,N S 0,N S 0] 276)):Hp);have HB:Zf h.size h H:=by rw[hH];exact ((Zf.push (a0 _) _).Yx Dq _)
 have Hs:H.size=h.size+1+1:=by rw[hH];simp
 have H0:H[h.size]? = W (Yz xs):=by
  rw[hH,Zl Dq,Zb];unfold Yz;rw[a5]
 have H1:H[h.size+1]? = W (Yz [0,0,0,0,0]):=by
  have:=Zb (h:=(h.push (R (xs.map uv).toArray 276))) (o:=R #[N S 0,N S 0,N S 0,N S 0,N S 0] 276);rw[ao]at this;rw[hH,this];rfl
 rw[<-hH];clear hH;refine (CD T H h.size xs ha (wa.mono MZ) H0).use ?_;rintro _ _ rfl;obtain⟨m1,m2,m3,m4⟩:=RM ha (wa.mono MZ);have So:(H.setIfInBounds h.size (Yz (Xs xs)))[h.size]? = W (Yz (Xs xs)):=Z1 H0;have QH:(H.setIfInBounds h.size (Yz (Xs xs)))[h.size+1]? = W (Yz [0,0,0,0,0]):=by rw[U,if_neg gX];exact H1
 have HB2:Zf h.size h (H.setIfInBounds h.size (Yz (Xs xs))):=HB.Zj (a0 _) _;have Hs2:(H.setIfInBounds h.size (Yz (Xs xs))).size=h.size+1+1:=by rw[a3];exact Hs
 obtain⟨m,hm⟩:=ZD (Xs xs);rw[<-hm]at So QH HB2 Hs2 m1 m2 m3 m4 ⊢;generalize H.setIfInBounds h.size (Yz m)=G at *;have r0:=SZ m1 So;have lm:(m.map uv).length=5:=by simpa using m1
 have hom:(m.map uv).all Yq=true:=by simp[uv,Yq]
 have lp:YJ [Value.int S 0,N S 0,N S 0,N S 0,N S 0] 0 (m.map uv)=m.map uv:=ZZ lm;have n0:=ED (l:=m) (i:=0) gX;have y0:=m2.getD gX 0;have uV:Pg m 0=m.set 0 (m.getD 0 0+5):=rfl;obtain⟨y,hy⟩:=ZD (m.getD 0 0);rw[<-hy]at n0 y0 uV;have e1:(y:Int)+5=((y+5:Nat):Int):=rfl;have e2:((y+5:Nat):Int)%18446744073709551616=((y+5:Nat):Int):=gX;simp -implicitDefEqProofs only[go_sem,r0,lm,hom,Hs2,lp,n0,e1,e2];have hms:(m.map uv).set 0 (N S (y+5:Nat))=(m.set 0 (y+5)).map uv:=by rw[List.map_set];rfl
 rw[hms,<-uV];obtain⟨J,hJ⟩:=ZD (G.push (R ((Pg m 0).map uv).toArray 276));have J3:J[h.size+1+1]? = W (Yz (Pg m 0)):=by
  rw[hJ,<-Hs2,Zb];unfold Yz;rw[a5]
 have J0:J[h.size]? = W (Yz m):=by rw[hJ,Zl gX];exact So
 have J1:J[h.size+1]? = W (Yz [0,0,0,0,0]):=by rw[hJ,Zl gX];exact QH
 have JB:Zf h.size h J:=by rw[hJ];exact HB2.Yx gX _
 rw[<-hJ];clear hJ;obtain⟨b3,hb3⟩:∃b,b=h.size+1+1:=⟨_,rfl⟩
 obtain⟨b2,KA⟩:∃b,b=h.size+1:=⟨_,rfl⟩
 rw[<-hb3]at J3 ⊢;rw[<-KA]at J1 ⊢;refine VS.Z9 (fun F g=>F 1=al (W ⟨h.size,0,Y⟩)/\F 2=al (W ⟨b2,0,Y⟩)/\F 3=al (W ⟨b3,0,Y⟩)/\∃i:Nat,i<=4/\F 11=N O i/\g=J.setIfInBounds b3 (Yz (Pg m i)))
  (fun F _=>4-(vi (F 11)).toNat) rfl ⟨rfl,rfl,rfl,0,gX,rfl,(UR J3).symm⟩ ?_
 rintro F g ⟨f1,f2,f3,i,hi,f11,rfl⟩;have hx:(J.setIfInBounds b3 (Yz (Pg m i)))[b3]? = W (Yz (Pg m i)):=Z1 J3;have wY:=qr m2 i gX;have lY:(Pg m i).length=5:=by rw[IF,m1]
 by_cases ZL:i<4
 .have ZW:(i:Int)<4:=gX;have Y5:Pg m (i+1)=((Pg m i).set (i+1) ((Pg m i).getD (i+1) 0+(Pg m i).getD i 0/67108864)).set i ((Pg m i).getD i 0%67108864):=rfl;obtain⟨r,hr⟩:=ZD (Pg m i);rw[<-hr]at hx wY lY Y5 ⊢;obtain⟨G1,mK⟩:=ZD (J.setIfInBounds b3 (Yz r));rw[<-mK]at hx ⊢;have g1:=ZX hx (i:=i+1) gX;have g0:=ZX hx (i:=i) gX;have q1:=wY.getD gX (i+1);have q0:=wY.getD gX i;unfold uv at g0 g1;obtain⟨a,hax⟩:=ZD (r.getD i 0);obtain⟨b,hbx⟩:=ZD (r.getD (i+1) 0);rw[<-hax]at g0 q0 Y5;rw[<-hbx]at g1 q1 Y5;have s1:=fL a;have s2:=SW a gX;have t1:(b:Int)+((a/67108864:Nat):Int)=((b+a/67108864:Nat):Int):=rfl;have t2:((b+a/67108864:Nat):Int)%18446744073709551616=((b+a/67108864:Nat):Int):=gX;have ei:(i:Int)+1=((i+1:Nat):Int):=rfl;have fM:((i+1:Nat):Int)<5:=gX;have Zpu:(i:Int)<5:=gX;have c1:Jb G1 ⟨b3,i+1,Y⟩ (N S (b+a/67108864:Nat))=_:=Yk (f:=uv) hx (i:=i+1) gX (b+a/67108864) rfl;have EE:=Z1 (o:=R ((r.set (i+1) (b+a/67108864)).map uv++[]).toArray 276) hx;have l1:(r.set (i+1) (b+a/67108864)).length=5:=by rw[a8,lY]
  have v1:(r.set (i+1) (b+a/67108864)).getD i 0=a:=by rw[Ng gX,<-hax]
  obtain⟨r1,fo⟩:=ZD (r.set (i+1) (b+a/67108864));rw[<-fo]at c1 EE l1 v1 Y5;obtain⟨G2,fE⟩:=ZD (G1.setIfInBounds b3 (R (r1.map uv++[]).toArray 276));rw[<-fE]at c1 EE;have g2:=ZX EE (i:=i) gX;unfold uv at g2;rw[v1]at g2;have c2:Jb G2 ⟨b3,i,Y⟩ (N S (a%67108864:Nat))=_:=Yk (f:=uv) EE (i:=i) gX (a%67108864) rfl;simp -implicitDefEqProofs only[go_sem,f1,f2,f3,f11,ZW];refine VS.w (b3+1) [10] (.q 0 (.q 1 (.q 2 (.q 3 (.q 4 (.q 5 (.q 6 (.q 7 (.q 8 (.q 9 (.w 10 .nil))))))))))) mixed po ?_;simp -implicitDefEqProofs only[go_sem,f1,f2,f3,f11,ei,fM,Zpu,az,ba,g0,g1,s1,t1,t2,c1,g2,s2,c2];refine⟨⟨f1,f2,f3,i+1,ZL,rfl,?_⟩,?_⟩
  .rw[fE,set_set,mK,set_set,Y5];rfl
  .simp only[vi,Zk,↓reduceIte,f11];omega
 .have YU:¬(i:Int)<4:=gX;obtain rfl:i=4:=gX;have c4:((4:Nat):Int)=4:=rfl;rw[c4]at f11 YU;have hW:SY m=if (Pg m 4).getD 4 0/67108864=0 then m else (Pg m 4).set 4 ((Pg m 4).getD 4 0%67108864):=rfl
  have jA:(J.setIfInBounds b3 (Yz (Pg m 4)))[h.size]? = W (Yz m):=by rw[U,if_neg gX];exact J0
  have EE:(J.setIfInBounds b3 (Yz (Pg m 4)))[b2]? = W (Yz [0,0,0,0,0]):=by rw[U,if_neg gX];exact J1
  have HB3:Zf h.size h (J.setIfInBounds b3 (Yz (Pg m 4))):=JB.Zj gX _;obtain⟨r,hr⟩:=ZD (Pg m 4);rw[<-hr]at hx wY lY jA EE HB3 hW ⊢;generalize J.setIfInBounds b3 (Yz r)=G1 at *;have g4:=ZX hx (i:=4) gX;have q4:=wY.getD gX 4;unfold uv at g4;obtain⟨a,hax⟩:=ZD (r.getD 4 0);rw[<-hax]at g4 q4 hW;have s1:=fL a;have s2:=SW a gX;have w4:=fun (k:List Nat) (hk:(Q k)=5)=>Z2 (h:=G1) (b:=b2) (l:=([0,0,0,0,0].map uv)) (by unfold Yz at EE;rw[a5]at EE;exact EE) 0 (k.map uv);have h2s:=Za EE;by_cases h0:a/67108864=0
  .have h0':((a/67108864:Nat):Int)=0:=gX;rw[if_pos h0]at hW;have w5:=w4 m m1;rw[if_pos ⟨by simp[lm],hom⟩,ZZ (by simp[lm])]at w5;have r1:=SZ m1 jA;have tm:(m.map uv).take 5=m.map uv:=bd gX;simp -implicitDefEqProofs only[go_sem,f1,f2,f3,f11,YU,g4,s1,h0',r1,w5,lm,tm,h2s];exact⟨by rw[hW],HB3.Zj gX _⟩
  .have h0':¬((a/67108864:Nat):Int)=0:=gX;rw[if_neg h0]at hW;have c1:Jb G1 ⟨b3,4,Y⟩ (N S (a%67108864:Nat))=_:=Yk (f:=uv) hx (i:=4) gX (a%67108864) rfl;have hz:=Z1 (o:=R ((r.set 4 (a%67108864)).map uv++[]).toArray 276) hx;have l1:(r.set 4 (a%67108864)).length=5:=by rw[a8,lY]
   have HB4:Zf h.size h (G1.setIfInBounds b3 (R ((r.set 4 (a%67108864)).map uv++[]).toArray 276)):=HB3.Zj gX _;have bV:(G1.setIfInBounds b3 (R ((r.set 4 (a%67108864)).map uv++[]).toArray 276))[b2]? = W (Yz [0,0,0,0,0]):=by rw[U,if_neg gX];exact EE
   rw[hW];obtain⟨r1,fo⟩:=ZD (r.set 4 (a%67108864));rw[<-fo]at c1 hz l1 HB4 bV ⊢;generalize G1.setIfInBounds b3 (R (r1.map uv++[]).toArray 276)=G2 at *;have r4:=SZ l1 hz;have lr:(r1.map uv).length=5:=by simpa using l1
   have hor:(r1.map uv).all Yq=true:=by simp[uv,Yq]
   have w5:=Z2 (h:=G2) (b:=b2) (l:=([0,0,0,0,0].map uv)) (by unfold Yz at bV;rw[a5]at bV;exact bV) 0 (r1.map uv);rw[if_pos ⟨by simp[lr],hor⟩,ZZ (by simp[lr])]at w5;have tm:(r1.map uv).take 5=r1.map uv:=bd gX;have Zpv:=Za bV;simp -implicitDefEqProofs only[go_sem,f1,f2,f3,f11,YU,g4,s1,s2,h0',ba,c1,r4,w5,lr,tm,Zpv];exact HB4.Zj gX _
def qs(key:List Nat)(i:Nat):Nat:=if i%4=3 then key.getD i 0%16 else if i%4=0/\0<i then key.getD i 0/4*4 else key.getD i 0
def Jv(key:List Nat):List Nat:=(cz 16).map (qs key)
def Zhi(data:List Nat)(k:Nat):List Nat:=(data.drop (16*k)).take 16++[1]
def qt(r:Nat)(data:List Nat):Nat->Nat
 | 0=>0
 | k+1=>(qt r data k+Xl (Zhi data k))*r%Tn
def xO(key data:List Nat):Nat:=qt (Xl (Jv key)) data (((Q data)+15)/16)+Xl ((key.drop 16).take 16)
def bW(key data:List Nat):List Nat:=(cz 16).map fun i=>xO key data/256 ^ i%256
theorem Gi(key:List Nat):(Jv key).length=16:=by simp[Jv]
theorem CG(key data:List Nat):(bW key data).length=16:=by simp[bW]
theorem RN{h:Hp}{p:Option Addr}{c n:Nat}(s:Bs h (X p n c) l){m:Nat}(hm:m<=(Q l))(c':Nat):Bs h (X p m c') (l.take m):=by
 refine⟨?_,fun x hx=>s.byte x (List.mem_of_mem_take hx)⟩;obtain⟨p',cap,hv,hl,hc⟩:=s.sl;simp only[Value.slice.injEq]at hv;obtain⟨rfl,_,rfl⟩:=hv;refine⟨_,c',by rw[bf,Nat.min_eq_left hm],Dq,fun Ys=>?_⟩;obtain⟨b,o,rfl,YR⟩:=hc (by intro e;simp at e;subst e;simp at Ys);refine⟨b,o,rfl,fun i hi=>?_⟩;have Av:i<m/\i<(Q l):=by rw[List.length_map,bf]at hi;omega
 rw[YR i L6];simp
theorem Zc2{h:Hp}{p:Option Addr}{c n:Nat}(s:Bs h (X p n c) l)(hn:(Q l)=n){k m:Nat}(hk:k+m<=n)(QQ:n<=c)(c':Nat):Bs h (X (bB p 1 c k) m c') ((l.drop k).take m):=
 RN (RI s hn (k:=k) (by omega) QQ c') (by rw[bc];omega) c'
def VK(key data:List Nat):Int:=if (Q key)≠32\/4000<(Q data) then 1 else 0
def qu(B:Nat)(h:Hp)(v:ay)(key data:List Nat):Prop:=∃w,v=.tuple #[w,N O (VK key data)]/\Yd B 5 h w (if VK key data=0 then bW key data else [])
def Jw:List (Option IntKind):=rep 32 [W O]++rep 8 [Y]
theorem US:∀{ks:List (Option IntKind)} {vs:List ay} (i:Nat) (v:ay),YM ks vs=true->(∀k,ks[i]? = W k->U1 k v=true)->YM ks (vs.set i v)=true:=by
 intro ks
 induction ks with
 | nil=>intro vs i v h _;cases vs<;>simp[YM]at h ⊢
 | cons k ks ih=>
  intro vs i v h hk
  cases vs with
  | nil=>simp[YM]at h
  | cons x vs=>
   simp only[YM,bH]at h
   cases i with
   | zero=>simp only[ch,YM,bH];exact⟨hk k rfl,h.2⟩
   | succ i=>simp only[ck,YM,bH];exact⟨h.1,ih i v h.2 (fun k' PV=>hk k' (by simpa using PV))⟩
theorem Qy(hi:i<32)(n:Int):∀k,Jw[i]? = W k->U1 k (N O n)=true:=by
 intro k hk;have:∀i<32,Jw[i]? = W (W O):=MZ;rw[this i hi]at hk;obtain rfl:=Option.some.inj hk;rfl
theorem CI(h1:32<=i)(b:Bool):∀k,Jw[i]? = W k->U1 k (am b)=true:=by
 intro k hk;have:∀j<8,Jw[32+j]? = W Y:=MZ;by_cases h2:i<40
 .have:=this (i-32) gX;rw[show 32+(i-32)=i by omega]at this;rw[this]at hk;obtain rfl:=Option.some.inj hk;rfl
 .rw[b0 (by show 40<=i;omega)]at hk;cases hk
theorem Ni{g:Hp}{b:Nat}{o:Obj}(hx:g[b]? = W o):g.setIfInBounds b o=g:=by
 apply Array.ext_getElem?;intro i;rw[U];by_cases hb:b=i
 .subst hb;rw[if_pos rfl,if_pos (Za hx),hx]
 .rw[if_neg hb]
structure Zhj where
 cells:List ay
 code:Int
 val:Int
def S3(cs:List ay)(k c n v:Nat):List ay × Int:=
 if k=1 then (cs.set n (N O v),v) else if k=2 then (cs,ci cs n) else (cs.set (32+n) (am true),0)
def WD(cs:List ay)(k c s n v:Nat):Zhj:=
 if k=0 then ⟨cs,0,0⟩ else
 if (s:Int)+1=ci cs (8+c) then ⟨cs,ci cs (16+c*2),ci cs (16+c*2+1)⟩ else
 if (s:Int)<ci cs (8+c) then ⟨cs,7,0⟩ else
 if cb cs (32+c)=true then ⟨cs,11,0⟩ else
 ⟨((((S3 cs k c n v).1.set (8+c) (N O ((s:Int)+1))).set (16+c*2) (N O 0)).set (16+c*2+1) (N O (S3 cs k c n v).2)),0,(S3 cs k c n v).2⟩
def Le(cs:List ay)(k c s n v:Int):Int:=if Q2 cs=true then 5 else Y9 k c s n v
def J2:List ay:=rep 32 [Value.int O 0]++rep 8 [Value.bool false]
def doL(cs:List ay)(k c s n v:Int):List ay:=
 if Le cs k c s n v=0 then [av (WD cs k.toNat c.toNat s.toNat n.toNat v.toNat).cells.toArray,av [N O (WD cs k.toNat c.toNat s.toNat n.toNat v.toNat).code,N O (WD cs k.toNat c.toNat s.toNat n.toNat v.toNat).val].toArray,N O 0]
  else [av J2.toArray,av [N O 0,N O 0].toArray,N O (Le cs k c s n v)]
def Zbk(v':ay)(cs:List ay)(k c s n v:Int):Prop:=v'=.tuple (doL cs k c s n v).toArray
theorem Nj{k c s n v:Int}(h:Y9 k c s n v=0):∃k' c' s' n' v':Nat,k=k'/\c=c'/\s=s'/\n=n'/\v=v'/\k'<=3/\c'<=7/\s'<=1048576/\n'<=7/\v'<=1073741824:=by
 have:0<=k/\k<=3/\0<=c/\c<=7/\0<=s/\s<=1048576/\0<=n/\n<=7/\0<=v/\v<=1073741824:=by
  unfold Y9 at h
  repeat' split at h
  all_goals omega
 exact⟨k.toNat,c.toNat,s.toNat,n.toNat,v.toNat,gX,gX,gX,gX,gX,gX,gX,gX,gX,gX⟩
theorem Fa{cs:List ay}{j:Nat}{x:ay}(h:i≠j):ci (cs.set i x) j=ci cs j:=by
 unfold ci;rw[YE,YE,be h]
theorem ints_set{cs:List ay}{j:Nat}(hj:j<(Q cs))(x:Int)(hi:∀i,i<32->nth cs i=W (N O (ci cs i))):∀i,i<32->nth (cs.set j (N O x)) i=W (N O (ci (cs.set j (N O x)) i)):=by
 intro i h32;by_cases e:j=i
 .subst e;have:nth (cs.set j (N O x)) j=W (N O x):=by rw[YE,bT hj]
  unfold ci;rw[this]
 .rw[Fa e,YE,be e,<-YE];exact hi i h32
theorem jB(cs:List ay)(k c n v:Nat)(x:ay)(hn:n<=7)(hc:c<=7):S3 (cs.set (8+c) x) k c n v=((S3 cs k c n v).1.set (8+c) x,(S3 cs k c n v).2):=by
 unfold S3;by_cases k1:k=1
 .rw[if_pos k1,if_pos k1,cB _ _ gX]
 .rw[if_neg k1,if_neg k1];by_cases k2:k=2
  .rw[if_pos k2,if_pos k2,Fa gX]
  .rw[if_neg k2,if_neg k2,cB _ _ gX]
theorem CJ{cs:List ay}(hf:YM Jw cs=true)(k c n v:Nat)(hn:n<=7):YM Jw (S3 cs k c n v).1=true:=by
 unfold S3;by_cases k1:k=1
 .rw[if_pos k1];exact US n _ hf (Qy gX _)
 .rw[if_neg k1];by_cases k2:k=2
  .rw[if_pos k2];exact hf
  .rw[if_neg k2];exact US (32+n) _ hf (CI gX _)
theorem jC{cs:List ay}(hf:YM Jw cs=true)(k c s n v:Nat)(hn:n<=7)(hc:c<=7):YM Jw (WD cs k c s n v).cells=true:=by
 unfold WD
 repeat' split
 all_goals first|exact hf|skip
 exact US _ _ (US _ _ (US _ _ (CJ hf k c n v hn) (Qy gX _)) (Qy gX _)) (Qy gX _)
theorem CK(h:Hp)(b:Nat)(cs:List ay)(k c s n v:Nat)(hl:(Q cs)=40)(hi:∀i,i<32->nth cs i=W (N O (ci cs i)))(hn:n<=7)(hk:1<=k)(hk3:k<=3)(hx:h[b]? = W (R cs.toArray 58)):
  Zc a7 T 54 #[al (W ⟨b,0,Y⟩),av (QR k c s n v).toArray] h fun v' h'=>v'=av [N O 0,N O (S3 cs k c n v).2].toArray/\Zf h.size (h.setIfInBounds b (R (S3 cs k c n v).1.toArray 58)) h':=by
 refine Zc.Y8 [_,_] Tryz.func54 ?_;have hb:=Za hx;have hn8:(n:Int)<8:=gX;unfold QR S3;by_cases k1:k=1
 .subst k1;simp +contextual -implicitDefEqProofs only[go_sem];refine VS.w (h.size+2) [8] (.q 0 (.q 1 (.q 2 (.q 3 (.q 4 (.q 5 (.q 6 (.q 7 (.w 8 .nil))))))))) mixed po ?_;have w1:=Ye hx n (N O v);rw[if_pos ⟨gX,rfl⟩]at w1;have nn:nth (cs.set n (N O (v:Int))) n=W (N O v):=by rw[YE,bT gX]
  simp +contextual -implicitDefEqProofs only[go_sem,hn8,w1,hb];refine VS.w (h.size+2) [8] (.q 0 (.q 1 (.q 2 (.q 3 (.q 4 (.q 5 (.q 6 (.q 7 (.w 8 .nil))))))))) mixed po ?_;simp +contextual -implicitDefEqProofs only[go_sem,hn8,hb,nn]
  try exact ((Zf.push Dq _).Yx Dq _)
 .by_cases k2:k=2
  .subst k2;have nn:=hi n gX;have x1:hc h ⟨b,n,Y⟩=W (N O (ci cs n)):=by rw[Zg hx];exact nn
   have hsb:=Ni hx;simp +contextual -implicitDefEqProofs only[go_sem,hsb];refine VS.w (h.size+2) [8] (.q 0 (.q 1 (.q 2 (.q 3 (.q 4 (.q 5 (.q 6 (.q 7 (.w 8 .nil))))))))) mixed po ?_;simp +contextual -implicitDefEqProofs only[go_sem,hn8,hb,x1]
  .have k3:k=3:=gX;subst k3;have w1:=Ye hx (32+n) (am true);rw[if_pos ⟨gX,rfl⟩]at w1;simp +contextual -implicitDefEqProofs only[go_sem];refine VS.w (h.size+2) [6] (.q 0 (.q 1 (.q 2 (.q 3 (.q 4 (.q 5 (.w 6 .nil))))))) mixed po ?_;simp +contextual -implicitDefEqProofs only[go_sem,hn8,w1,hb]
   try exact ((Zf.push Dq _).Yx Dq _)
theorem bX(h:Hp)(cs:List ay)(k c s n v:Int)(hf:YM Jw cs=true)(hi:∀i,i<32->nth cs i=W (N O (ci cs i)))(hb:∀i,32<=i->i<40->nth cs i=W (am (cb cs i))):
  Zc a7 T 29 #[av cs.toArray,av (QR k c s n v).toArray] h fun v' h'=>Zbk v' cs k c s n v/\Zf h.size h h':=by
 have hl:(Q cs)=40:=Y3 hf;have tk:=XH hl;have Xz:=KV hf;refine Zc.PX [_,_] Tryz.func29 ?_;unfold QR;simp +contextual -implicitDefEqProofs only[go_sem,hl,tk];refine (jg T _ cs hl hi).use ?_;rintro _ _ ⟨rfl,rfl⟩;unfold Zbk doL Le;by_cases e1:Q2 cs=true
 .simp +contextual -implicitDefEqProofs only[go_sem,e1];refine⟨rfl,?_⟩
  (repeat' (first|exact Zf.refl _ _|assumption|refine Zf.add ?_ _|refine Zf.Zj ?_ aaa _|refine Zf.trans aab ?_))
 .have e1:Q2 cs=false:=by simpa using e1
  simp +contextual -implicitDefEqProofs only[go_sem,e1];refine (Qt T _ k c s n v).use ?_;rintro _ _ ⟨rfl,rfl⟩;unfold QR;by_cases e2:Y9 k c s n v=0
  .obtain⟨k,c,s,n,v,rfl,rfl,rfl,rfl,rfl,y1,y2,y3,y4,y5⟩:=Nj e2;simp only[az];have Jm:J2=[N O 0,N O 0,N O 0,N O 0,N O 0,N O 0,N O 0,N O 0,N O 0,N O 0,N O 0,N O 0,N O 0,N O 0,N O 0,N O 0,N O 0,N O 0,N O 0,N O 0,N O 0,N O 0,N O 0,N O 0,N O 0,N O 0,N O 0,N O 0,N O 0,N O 0,N O 0,N O 0,am false,am false,am false,am false,am false,am false,am false,am false]:=rfl;obtain⟨H,hH⟩:=ZD (((((((h.push (R cs.toArray 58)).push (R [N O k,N O c,N O s,N O n,N O v].toArray 43)).push (R [N O 0,N O 0,N O 0,N O 0,N O 0,N O 0,N O 0,N O 0,N O 0,N O 0,N O 0,N O 0,N O 0,N O 0,N O 0,N O 0,N O 0,N O 0,N O 0,N O 0,N O 0,N O 0,N O 0,N O 0,N O 0,N O 0,N O 0,N O 0,N O 0,N O 0,N O 0,N O 0,am false,am false,am false,am false,am false,am false,am false,am false].toArray 58)).push (R [N O 0,N O 0].toArray 48)).push (R cs.toArray 58)).push (R [N O k,N O c,N O s,N O n,N O v].toArray 43)):Hp);have x0:H[h.size]? = W (R cs.toArray 58):=by rw[hH];simp only[aw,ao,aI,↓reduceIte]
   have x1:H[h.size+1]? = W (R [N O k,N O c,N O s,N O n,N O v].toArray 43):=by rw[hH];simp only[aw,ao,aI,↓reduceIte]
   have x2:H[h.size+2]? = W (R J2.toArray 58):=by rw[hH,Jm];simp only[aw,ao,aI,↓reduceIte]
   have x3:H[h.size+3]? = W (R [N O 0,N O 0].toArray 48):=by rw[hH];simp only[aw,ao,aI,↓reduceIte]
   have hHs:H.size=h.size+6:=by rw[hH];simp
   have bK:Zf h.size h H:=by rw[hH];(repeat' (first|exact Zf.refl _ _|assumption|refine Zf.add ?_ _|refine Zf.Zj ?_ aaa _|refine Zf.trans aab ?_))
   rw[<-hH];clear hH Jm;have c1:hc H ⟨h.size+1,0,Y⟩=W (N O k):=by rw[Zg x1];rfl
   have c2:hc H ⟨h.size+1,1,Y⟩=W (N O c):=by rw[Zg x1];rfl
   have c3:hc H ⟨h.size+1,2,Y⟩=W (N O s):=by rw[Zg x1];rfl
   have cc:(c:Int)<8:=gX;have Zhl:=hi (8+c) gX;have lx:hc H ⟨h.size,8+c,Y⟩=W (N O (ci cs (8+c))):=by rw[Zg x0];exact Zhl
   have fin:∀(G:Hp) (D:List ay) (a b:Int),(Q D)=40->D.all Yq=true->G[h.size+2]? = W (R J2.toArray 58)->G[h.size+3]? = W (R [N O 0,N O 0].toArray 48) ->
     wr G ⟨h.size+1+1,0,Y⟩ D=W (G.setIfInBounds (h.size+1+1) (R D.toArray 58)) /\
     wr (G.setIfInBounds (h.size+1+1) (R D.toArray 58)) ⟨h.size+1+1+1,0,Y⟩ [N O a,N O b]=W ((G.setIfInBounds (h.size+1+1) (R D.toArray 58)).setIfInBounds (h.size+1+1+1) (R [N O a,N O b].toArray 48)):=by
    intro G D a b d1 d2 g2 g3;refine⟨?_,?_⟩
    .rw[Z2 (b:=h.size+1+1) g2 0 D,ZZ (by rw[d1];rfl),if_pos ⟨by rw[d1];exact a0 _,d2⟩]
    .rw[Z2 (b:=h.size+1+1+1) (l:=[N O 0,N O 0]) (t:=48) (by rw[U,if_neg gX];exact g3),if_pos ⟨Dq,rfl⟩];rfl
   have r0:=Zs x0 hl;have Mq:∀(G:Hp) (o o':Obj),Zf h.size h G->Zf h.size h ((G.setIfInBounds (h.size+1+1) o).setIfInBounds (h.size+1+1+1) o'):=fun G o o' hG=>(hG.Zj gX _).Zj gX _;by_cases k0:k=0
   .subst k0;have ed:WD cs 0 c s n v=⟨cs,0,0⟩:=rfl;obtain⟨w2,w3⟩:=fin H cs 0 0 hl Xz x2 x3;simp -implicitDefEqProofs only[go_sem,e2,c1,c2,cc,ed,r0,w2,w3,hl,hHs,tk,bK];exact Mq H _ _ bK
   .have k0':¬(k:Int)=0:=gX;simp -implicitDefEqProofs only[go_sem,e2,c1,c2,cc,k0'];refine VS.q mixed po ?_;by_cases q1:(s:Int)+1=ci cs (8+c)
    .have ed:WD cs k c s n v=⟨cs,ci cs (16+c*2),ci cs (16+c*2+1)⟩:=by unfold WD;rw[if_neg k0,if_pos q1]
     obtain⟨w2,w3⟩:=fin H cs (ci cs (16+c*2)) (ci cs (16+c*2+1)) hl Xz x2 x3;have ra:rd H ⟨h.size,16+c*2,Y⟩ 2=W [N O (ci cs (16+c*2)),N O (ci cs (16+c*2+1))]:=by
      rw[Yh x0 gX,DU (hi _ gX) (hi _ gX)]
     simp -implicitDefEqProofs only[go_sem,c3,lx,q1];refine VS.w (h.size+1+1) [] (.q 0 (.q 1 (.q 2 (.q 3 (.q 4 (.q 5 (.s 6 (.s 7 (.q 8 .nil))))))))) mixed po ?_;simp -implicitDefEqProofs only[go_sem,e2,c2,cc,ed,r0,ra,w2,w3,hl,hHs,tk,bK];exact Mq H _ _ bK
    .simp -implicitDefEqProofs only[go_sem,c3,lx,q1];refine VS.q mixed po ?_;by_cases q2:(s:Int)<ci cs (8+c)
     .have ed:WD cs k c s n v=⟨cs,7,0⟩:=by unfold WD;rw[if_neg k0,if_neg q1,if_pos q2]
      obtain⟨w2,w3⟩:=fin H cs 7 0 hl Xz x2 x3;simp -implicitDefEqProofs only[go_sem,c3,lx,q2,e2,ed,r0,w2,w3,hl,hHs,tk,bK];exact Mq H _ _ bK
     .have rv:hc H ⟨h.size,32+c,Y⟩=W (am (cb cs (32+c))):=by rw[Zg x0];exact hb _ gX gX
      by_cases q3:cb cs (32+c)=true
      .have ed:WD cs k c s n v=⟨cs,11,0⟩:=by unfold WD;rw[if_neg k0,if_neg q1,if_neg q2,if_pos q3]
       obtain⟨w2,w3⟩:=fin H cs 11 0 hl Xz x2 x3;rw[q3]at rv;simp -implicitDefEqProofs only[go_sem,c3,lx,q2,c2,cc,rv,e2,ed,r0,w2,w3,hl,hHs,tk,bK];exact Mq H _ _ bK
      .have q3':cb cs (32+c)=false:=by simpa using q3
       rw[q3']at rv;have w1:=Ye x0 (8+c) (N O ((s:Int)+1));rw[if_pos ⟨gX,rfl⟩]at w1;have rc:=Zs x1 (n:=5) rfl;have x1':(H.setIfInBounds h.size (R (cs.set (8+c) (N O ((s:Int)+1))).toArray 58))[h.size+1]? = W (R [N O k,N O c,N O s,N O n,N O v].toArray 43):=by rw[U,if_neg gX];exact x1
       have rc':=Zs x1' (n:=5) rfl;simp -implicitDefEqProofs only[go_sem,c3,lx,q2,c2,cc,rv,w1,rc'];have x0':(H.setIfInBounds h.size (R (cs.set (8+c) (N O ((s:Int)+1))).toArray 58))[h.size]? = W (R (cs.set (8+c) (N O ((s:Int)+1))).toArray 58):=by rw[U,if_pos rfl,if_pos gX]
       have UE:Zf h.size h (H.setIfInBounds h.size (R (cs.set (8+c) (N O ((s:Int)+1))).toArray 58)):=bK.Zj (a0 _) _;have x2':(H.setIfInBounds h.size (R (cs.set (8+c) (N O ((s:Int)+1))).toArray 58))[h.size+2]? = W (R J2.toArray 58):=by rw[U,if_neg gX];exact x2
       have x3':(H.setIfInBounds h.size (R (cs.set (8+c) (N O ((s:Int)+1))).toArray 58))[h.size+3]? = W (R [N O 0,N O 0].toArray 48):=by rw[U,if_neg gX];exact x3
       have hGs:(H.setIfInBounds h.size (R (cs.set (8+c) (N O ((s:Int)+1))).toArray 58)).size=h.size+6:=by rw[a3];exact hHs
       refine (CK T _ h.size (cs.set (8+c) (N O ((s:Int)+1))) k c s n v (by rw[a8];exact hl) (ints_set gX _ hi) gX gX gX x0').use ?_;rintro _ g1 ⟨rfl,b1⟩;rw[jB cs k c n v _ gX gX]at b1 ⊢;have hfA:=CJ hf k c n v gX;have ed:WD cs k c s n v=⟨((((S3 cs k c n v).1.set (8+c) (N O ((s:Int)+1))).set (16+c*2) (N O 0)).set (16+c*2+1) (N O (S3 cs k c n v).2)),0,(S3 cs k c n v).2⟩:=by unfold WD;rw[if_neg k0,if_neg q1,if_neg q2,if_neg q3]
       obtain⟨A,hA⟩:=ZD ((S3 cs k c n v).1.set (8+c) (N O ((s:Int)+1)));obtain⟨a,ha⟩:=ZD ((S3 cs k c n v).2);rw[<-hA,<-ha]at ed;simp only[<-hA,<-ha]at b1 ⊢;have Zhm:YM Jw A=true:=by rw[hA];exact US _ _ hfA (Qy gX _)
       have ZBM:(Q A)=40:=Y3 Zhm;obtain⟨G,hG⟩:=ZD (H.setIfInBounds h.size (R (cs.set (8+c) (N O ((s:Int)+1))).toArray 58):Hp);rw[<-hG]at b1 x1' x2' x3' UE hGs;clear x0' rc' hG;rw[hGs]at b1;have g0:g1[h.size]? = W (R A.toArray 58):=b1.get gX (by rw[U,if_pos rfl,if_pos gX]);have g1c:=b1.get (k:=h.size+1) gX (by rw[U,if_neg gX];exact x1');have g2:=b1.get (k:=h.size+2) gX (by rw[U,if_neg gX];exact x2');have g3:=b1.get (k:=h.size+3) gX (by rw[U,if_neg gX];exact x3');have gs:h.size+6<=g1.size:=by have:=b1.size;rw[a3,hGs]at this;exact this
       have gB:Zf h.size h g1:=(UE.Zj (a0 _) _).trans (b1.mono gX);clear b1 UE x1' x2' x3' hGs;have gc:hc g1 ⟨h.size+1,1,Y⟩=W (N O c):=by rw[Zg g1c];rfl
       have wa:=Z2 g0 (16+c*2) [N O 0,N O a];rw[if_pos ⟨by simp only[bE,List.length_nil];omega,rfl⟩,Ta,Ta]at wa;have wa:wr g1 ⟨h.size,16+c*2,Y⟩ [N O 0,N O a]=W (g1.setIfInBounds h.size (R ((A.set (16+c*2) (N O 0)).set (16+c*2+1) (N O a)).toArray 58)):=by rw[wa];simp[YJ]
       simp -implicitDefEqProofs only[go_sem,gc,cc,wa];obtain⟨D,hD⟩:=ZD ((A.set (16+c*2) (N O 0)).set (16+c*2+1) (N O a));have hfD:YM Jw D=true:=by rw[hD];exact US _ _ (US _ _ Zhm (Qy gX _)) (Qy gX _)
       have xP:(Q D)=40:=Y3 hfD;have Zhn:=KV hfD;have tkD:=XH xP;rw[<-hD]at ed ⊢;obtain⟨G,hG⟩:=ZD ((g1.setIfInBounds h.size (R D.toArray 58)).push (R [N O 0,N O a].toArray 48):Hp);have n0:G[h.size]? = W (R D.toArray 58):=by rw[hG];simp only[aw,a3,U,aI,↓reduceIte]
       have n2:G[h.size+2]? = W (R J2.toArray 58):=by rw[hG];simp only[aw,a3,U,aI,↓reduceIte];exact g2
       have n3:G[h.size+3]? = W (R [N O 0,N O 0].toArray 48):=by rw[hG];simp only[aw,a3,U,aI,↓reduceIte];exact g3
       have n6:G[g1.size]? = W (R [N O 0,N O a].toArray 48):=by rw[hG];simp only[aw,a3,aI,↓reduceIte]
       have nB:Zf h.size h G:=by rw[hG];exact (gB.Zj (a0 _) _).Yx L6 _
       have nS:G.size=g1.size+1:=by rw[hG];simp
       rw[<-hG];have rA:=Zs n0 xP;have rB:=Zs n6 (n:=2) rfl;obtain⟨w2,w3⟩:=fin G D 0 a xP Zhn n2 n3;refine VS.w (h.size+1) [2,3,4] (.q 0 (.or 1 (.w 2 (.w 3 (.w 4 .nil))) (.s 2 (.s 1 (.w 3 (.w 4 .nil)))))) mixed po ?_;have z1:h.size<h.size+1:=gX;have z2:h.size+1+1<G.size:=gX;have z3:h.size+1+1+1<G.size:=gX;simp -implicitDefEqProofs only[go_sem,rA,rB,w2,w3,xP,tkD,z1,z2,z3,ed];exact⟨Mq G _ _ nB,Mq G _ _ nB⟩
  .simp +contextual -implicitDefEqProofs only[go_sem,e2];refine⟨rfl,?_⟩
   (repeat' (first|exact Zf.refl _ _|assumption|refine Zf.add ?_ _|refine Zf.Zj ?_ aaa _|refine Zf.trans aab ?_))
theorem qv{g:Hp}{b:Nat}{o o':Obj}(hx:g[b]? = W o'):(g.setIfInBounds b o)[b]? = W o:=by rw[U,if_pos rfl,if_pos (Za hx)]
def S5:Vt:=⟨0,⟨0,0⟩,0,0,0,0,0⟩
def EF(v:Vt):List ay:=[N O v.k,N O v.c,N O v.s,N O v.nm,N O v.v]
def Lf(ZA:Int)(Zho v:Vt):Vt:=if v.ZA=ZA/\Y4 Zho.b v.b then v else Zho
def WE(ZA:Int)(l:List Vt):Vt:=l.foldl (Lf ZA) S5
def U3(l:List Vt):Bool:=l.all fun v=>decide (Yv v)
def RO(ZA:Int)(l:List Vt):Int:=if ZA<0\/39<ZA then 2 else if U3 l=true then 0 else 5
def EG(v':ay)(ZA:Int)(l:List Vt):Prop:=
 v'=.tuple [av (EF (if RO ZA l=0 then WE ZA l else S5)).toArray,am (if RO ZA l=0 then decide (0<(WE ZA l).b.r) else false),N O (RO ZA l)].toArray
def Vss(h:Hp)(v:ay)(LL:List (List Vt)):Prop:=∃p c,v=X p (Q LL) c/\(LL≠[]->∃b o,p=W ⟨b,o,Y⟩/\b<h.size/\∀i (hi:i<(Q LL)),∃w,hc h ⟨b,o+i,Y⟩=W w/\Ts Zn 8 h w LL[i]/\LL[i].length<=2199023255552)
theorem jD(LL:List (List Vt))(i:Nat)(hi:i<(Q LL)):(LL.take (i+1)).flatten=(LL.take i).flatten++LL[i]:=by
 rw[Yp LL i hi,List.flatten_append,List.flatten_singleton]
theorem bY(a b:List Vt):U3 (a++b)=(U3 a&&U3 b):=by simp[U3]
theorem EH{l:List Vt}{v:Vt}(hv:v∈l)(hm:¬Yv v):U3 l=false:=by
 rw[U3,List.all_eq_false];exact⟨v,hv,by simpa using hm⟩
set_option maxHeartbeats 1000000 in
theorem xQ(h:Hp)(u:ay)(LL:List (List Vt))(ZA:Int)(s:Vss h u LL)(hL:(Q LL)<=4611686018427387904):
  Zc a7 T 195 #[u,N O ZA] h fun v' h'=>EG v' ZA LL.flatten/\Zf h.size h h':=by
 have xR:RO ZA LL.flatten=if ZA<0\/39<ZA then 2 else if U3 LL.flatten=true then 0 else 5:=rfl
 obtain⟨p,c,rfl,YR⟩:=s;refine Zc.PX [_,_] Tryz.func195 ?_;unfold EG;by_cases q1:ZA<0
 .rw[if_pos (.inl q1)]at xR;simp -implicitDefEqProofs only[go_sem,q1,xR];rfl
 .by_cases q2:39<ZA
  .rw[if_pos (.inr q2)]at xR;have q2':40<=ZA:=gX;simp -implicitDefEqProofs only[go_sem,q1,q2',xR];rfl
  .rw[if_neg gX]at xR;have q2':¬40<=ZA:=gX;simp -implicitDefEqProofs only[go_sem,q1,q2'];obtain⟨H,hH⟩:=ZD ((h.push (R #[N O 0,N O 0,N O 0,N O 0,N O 0] 43)).push (R #[N O 0,N O 0,N O 0,N O 0,N O 0,N O 0,N O 0,N O 0] 168):Hp);have HB:Zf h.size h H:=by rw[hH];(repeat' (first|exact Zf.refl _ _|assumption|refine Zf.add ?_ _|refine Zf.Zj ?_ aaa _|refine Zf.trans aab ?_))
   have HZ:H[h.size]? = W (R (EF S5).toArray 43):=by rw[hH,Zl Dq,Zb];rfl
   have HV:H[h.size+1]? = W (R (Zn S5).toArray 168):=by
    have:=Zb (h:=h.push (R #[N O 0,N O 0,N O 0,N O 0,N O 0] 43)) (o:=R #[N O 0,N O 0,N O 0,N O 0,N O 0,N O 0,N O 0,N O 0] 168);rw[ao]at this;rw[hH,this];rfl
   rw[<-hH];clear hH;have wz:∀g:Hp,g[h.size]? = W (R (EF S5).toArray 43)->∀w:List ay,(Q w)=5->w.all Yq=true->wr g ⟨h.size,0,Y⟩ w=W (g.setIfInBounds h.size (R w.toArray 43)):=by
    intro g hg w h5 h1;rw[Z2 hg 0 w,ZZ (by rw[h5];rfl),if_pos ⟨by rw[h5];exact a0 _,h1⟩]
   refine VS.Z9 (fun F g=>F 1=N O ZA/\F 4=al (W ⟨h.size,0,Y⟩)/\F 7=al (W ⟨h.size+1,0,Y⟩)/\F 19=X p (Q LL) c/\F 20=N O (Q LL)/\Zf h.size h g/\g[h.size]? = W (R (EF S5).toArray 43)/\∃i:Nat,i<=(Q LL)/\F 21=N O i/\g[h.size+1]? = W (R (Zn (WE ZA (LL.take i).flatten)).toArray 168)/\U3 (LL.take i).flatten=true)
    (fun F _=>(Q LL)-(vi (F 21)).toNat) rfl ⟨rfl,rfl,rfl,rfl,rfl,HB,HZ,0,gX,rfl,HV,rfl⟩ ?_
   clear HB HZ HV H;rintro F g ⟨f1,f4,f7,f19,f20,hg,gZ,i,hi,f21,gV,Xc⟩;have zV:=Za gV;by_cases ZL:i<(Q LL)
   .have ZW:(i:Int)<(Q LL):=gX;obtain⟨bb,oo,rfl,U9,YR⟩:=YR (by intro e;rw[e]at ZL;simp at ZL);obtain⟨w,hw,tw,hwl⟩:=YR i ZL;have xS:V.hc g ⟨bb,oo+i,Y⟩=W w:=by rw[hg.hc (by exact U9)];exact hw
    have Zbn:=jD LL i ZL;have qw:LL[i]∈LL:=bG ZL;obtain⟨L,hLi⟩:=ZD (LL[i]);rw[<-hLi]at tw hwl Zbn qw;obtain⟨pw,cw,rfl,hwc⟩:=Uw tw;simp -implicitDefEqProofs only[go_sem,f1,f4,f7,f19,f20,f21,ZW,az,xS];refine VS.Z9 (fun F g=>F 1=N O ZA/\F 4=al (W ⟨h.size,0,Y⟩)/\F 7=al (W ⟨h.size+1,0,Y⟩)/\F 19=X (W ⟨bb,oo,Y⟩) (Q LL) c/\F 20=N O (Q LL)/\F 21=N O i/\F 25=X pw (Q L) cw/\F 26=N O (Q L)/\Zf h.size h g/\g[h.size]? = W (R (EF S5).toArray 43)/\∃j:Nat,j<=(Q L)/\F 27=N O j/\g[h.size+1]? = W (R (Zn (WE ZA ((LL.take i).flatten++L.take j))).toArray 168)/\U3 ((LL.take i).flatten++L.take j)=true)
     (fun F _=>(Q L)-(vi (F 27)).toNat) rfl ⟨f1,f4,f7,f19,f20,f21,rfl,rfl,hg,gZ,0,gX,rfl,by rw[cA,a5];exact gV,by rw[cA,a5];exact Xc⟩ ?_
    clear f1 f4 f7 f19 f20 f21 F hg gZ gV Xc zV xS;rintro F g ⟨f1,f4,f7,f19,f20,f21,f25,f26,hg,gZ,j,hj,f27,gV,Xc⟩;have zV:=Za gV;by_cases hlj:j<(Q L)
    .have Zpy:(j:Int)<(Q L):=gX;obtain⟨b2,o2,rfl,KA,_,hwc⟩:=hwc (by intro e;rw[e]at hlj;simp at hlj);have r1:rd g ⟨b2,o2+j*8,Y⟩ 8=W (Zn L[j]):=by rw[JW hg (by exact KA)];exact hwc j hlj
     have IG:(LL.take i).flatten++L.take (j+1)=((LL.take i).flatten++L.take j)++[L[j]]:=by rw[Yp L j hlj,List.append_assoc]
     have Zbq:L[j]∈LL.flatten:=List.mem_flatten.2 ⟨L,qw,bG hlj⟩;obtain⟨v,hv⟩:=ZD (L[j]);rw[<-hv]at r1 IG Zbq;have Jc:WE ZA ((LL.take i).flatten++L.take (j+1))=Lf ZA (WE ZA ((LL.take i).flatten++L.take j)) v:=by
      rw[IG];unfold WE;rw[List.foldl_append];rfl
     have Pv:U3 ((LL.take i).flatten++L.take (j+1))=decide (Yv v):=by rw[IG,bY,Xc,Bool.true_and];simp[U3]
     obtain⟨B,hB⟩:=ZD (WE ZA ((LL.take i).flatten++L.take j));rw[<-hB]at gV Jc;unfold Zn at r1;simp -implicitDefEqProofs only[go_sem,f1,f4,f7,f19,f20,f21,f25,f26,f27,Zpy,az,r1];refine (Kk T _ v).use ?_;rintro _ g1 ⟨rfl,b1⟩;have mI:Zf g.size g g1:=(Zf.push (a0 _) _).trans (b1.mono Dq);have y0:g1[g.size]? = W (R (Zn v).toArray 168):=b1.get Dq Zb;have z1:=mI.size;have WB:=hg.trans (mI.mono hg.size);have gZ1:=mI.get (Za gZ) gZ;have gV1:=mI.get zV gV;have z0:=Za y0;by_cases c1:Yv v
     .rw[decide_eq_true c1]at Pv;have y1:V.hc g1 ⟨g.size,0,Y⟩=W (N O v.ZA):=by rw[Zg y0];rfl
      have y2:rd g1 ⟨g.size,1,Y⟩ 2=W (JF v.b):=by rw[Yh y0 (by simp[Zn])];rfl
      have y3:rd g1 ⟨h.size+1,1,Y⟩ 2=W (JF B.b):=by rw[Yh gV1 (by simp[Zn])];rfl
      by_cases c2:v.ZA=ZA
      .simp -implicitDefEqProofs only[go_sem,f1,f4,f7,f19,f20,f21,f25,f26,f27,c1,y1,c2,y2,y3];refine (Wz T _ v.b B.b).use ?_;rintro _ g2 ⟨rfl,xt⟩;have z2:=xt.size;have JK:=WB.trans (xt.mono WB.size);have gZ2:=xt.get (Za gZ1) gZ1;have gV2:=xt.get (Za gV1) gV1;have y02:=xt.get z0 y0;by_cases c3:Y4 B.b v.b
       .have qm:=(Ti v.b B.b).2 c3;have rV:=Zs y02 (n:=8) rfl;have wV:=Z2 gV2 0 (Zn v);rw[ZZ (by simp[Zn]),if_pos ⟨by simp[Zn],rfl⟩]at wV;have xV:Lf ZA B v=v:=by unfold Lf;rw[if_pos ⟨c2,c3⟩]
        rw[xV]at Jc;unfold Zn at rV wV;simp -implicitDefEqProofs only[go_sem,f1,f4,f7,f19,f20,f21,f25,f26,f27,qm,rV,wV];refine⟨⟨f1,f4,f7,f19,f20,f21,f25,f26,JK.Zj gX _,?_,j+1,hlj,rfl,?_,Pv⟩,?_⟩
        .rw[U,if_neg gX];exact gZ2
        .rw[Jc];exact qv gV2
        .simp only[vi,Zk,↓reduceIte,f27];omega
       .have qm:¬0<Mk v.b B.b:=fun h=>c3 ((Ti v.b B.b).1 h);have xV:Lf ZA B v=B:=by unfold Lf;rw[if_neg (fun h=>c3 h.2)]
        rw[xV]at Jc;simp -implicitDefEqProofs only[go_sem,f1,f4,f7,f19,f20,f21,f25,f26,f27,qm];refine⟨⟨f1,f4,f7,f19,f20,f21,f25,f26,JK,gZ2,j+1,hlj,rfl,?_,Pv⟩,?_⟩
        .rw[Jc];exact gV2
        .simp only[vi,Zk,↓reduceIte,f27];omega
      .have xV:Lf ZA B v=B:=by unfold Lf;rw[if_neg (fun h=>c2 h.1)]
       rw[xV]at Jc;simp -implicitDefEqProofs only[go_sem,f1,f4,f7,f19,f20,f21,f25,f26,f27,c1,y1,c2];refine⟨⟨f1,f4,f7,f19,f20,f21,f25,f26,WB,gZ1,j+1,hlj,rfl,?_,Pv⟩,?_⟩
       .rw[Jc];exact gV1
       .simp only[vi,Zk,↓reduceIte,f27];omega
     .have hf:=EH Zbq c1;rw[hf,if_neg MZ]at xR;have wz1:=wz g1 gZ1 [N O 0,N O 0,N O 0,N O 0,N O 0] rfl rfl;have zl:=Za gZ1;simp -implicitDefEqProofs only[go_sem,f1,f4,f7,c1,wz1,zl,xR];exact⟨rfl,WB.Zj (a0 _) _⟩
    .have ZpA:¬(j:Int)<(Q L):=gX;obtain rfl:j=(Q L):=gX;rw[cx,<-Zbn]at gV Xc;simp -implicitDefEqProofs only[go_sem,f1,f4,f7,f19,f20,f21,f25,f26,f27,ZpA];refine⟨⟨f1,f4,f7,f19,f20,hg,gZ,i+1,ZL,rfl,gV,Xc⟩,?_⟩;simp only[vi,Zk,↓reduceIte,f21];omega
   .have YU:¬(i:Int)<(Q LL):=gX;obtain rfl:i=(Q LL):=gX;rw[cx]at gV Xc;rw[Xc,if_pos rfl]at xR;rw[xR,if_pos rfl,if_pos rfl];obtain⟨B,hB⟩:=ZD (WE ZA LL.flatten);rw[<-hB]at gV ⊢;have r1:rd g ⟨h.size+1,3,Y⟩ 5=W (EF B):=by rw[Yh gV (by simp[Zn])];rfl
    have r2:V.hc g ⟨h.size+1,1,Y⟩=W (N O B.b.r):=by rw[Zg gV];rfl
    have wB:=wz g gZ (EF B) rfl rfl;have zl:=Za gZ;unfold EF at r1 wB ⊢;simp -implicitDefEqProofs only[go_sem,f1,f4,f7,f19,f20,f21,YU];refine VS.w (h.size) [] (.q 0 (.q 2 (.q 3 (.or 1 (.or 4 (.q 5 (.s 6 (.q 7 (.q 8 .nil)))) (.s 6 (.s 4 (.q 5 (.q 7 (.q 8 .nil)))))) (.s 4 (.q 5 (.s 1 (.s 6 (.q 7 (.q 8 .nil)))))))))) mixed po ?_;simp -implicitDefEqProofs only[go_sem,f4,f7,r1,r2,wB,zl];have LW:=hg.Zj (a0 _) (R #[N O B.k,N O B.c,N O B.s,N O B.nm,N O B.v] 43);exact⟨⟨LW,LW⟩,LW⟩
end Go.Proofs.YtdpjmhgbmhjniaaGreatDoor
