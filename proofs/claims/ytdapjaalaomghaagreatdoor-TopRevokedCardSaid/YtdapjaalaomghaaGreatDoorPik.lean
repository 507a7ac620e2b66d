/- Part Pik. -/
import Derived.Test.YtdapjaalaomghaaGreatDoorVst
import Derived.Test.YtdapjaalaomghaaGreatDoorW13
import Derived.Test.YtdapjaalaomghaaGreatDoorLchks
open Go.Value renaming int→N,slice→X,pointer→ab,bool→al,agg→ao
open Go.IntKind renaming i64→O,u64→S
open Go.Obj renaming cells→R
open Go.Proofs.Tryz renaming prog→a9
open List renaming length→Q,getD_eq_getElem?_getD→aa,getElem?_eq_getElem→a6,append_nil→a7,length_set→ba,mem_iff_getElem→bc,length_drop→be,take_of_length_le→bf,getElem?_set_ne→bg,length_take→bh,take_append_drop→bp,getD_cons_zero→bt,getD_cons_succ→bw,mem_or_eq_of_mem_set→bA,all_eq_true→bG,length_cons→bP,getElem_mem→bQ,filter_eq_nil_iff→bS,drop_of_length_le→b5,getElem?_set_self→b6,getElem?_eq_none→b7,mem_range→b8,mem_cons_of_mem→b9,filter_eq_self→cf,filter_append→cg,mem_cons_self→ch,set_cons_zero→cn,set_cons_succ→co,getElem_drop→cp,getElem_take→cq,take_length→cz,range→cB,take_zero→cF,set_comm→cL
open Nat renaming le_refl→a4,mul_assoc→a8,zero_add→bd,mul_comm→bl,add_mul_mod_self_left→bn,add_sub_cancel→bx,add_assoc→bC,pow_succ→b0,mul_add→ca,add_mod→cd,lt_of_lt_of_le→cj,mod_lt→ck,zero_mul→cr,add_zero→ct,le_of_lt_succ→cx,mod_eq_of_lt→cy
open Int renaming toNat_natCast→a0,natCast_mul→cA
open Option renaming some→W,none→Y
open Array renaming getElem?_setIfInBounds→U,size_push→am,getElem?_push→aq,size_setIfInBounds→a5
open Bool renaming and_eq_true→bR
open Go.IntWalk renaming iteOmega→a3
open Go renaming Value→aw
namespace Go.Proofs.YtdapjaalaomghaaGreatDoor
open Go Go.V
set_option linter.all false
set_option maxRecDepth 100000
variable(T:World){i:Nat}{l:List Nat}
structure Yn where
 r:Int
 n:Int
structure Vt where
 Zt:Int
 b:Yn
 k:Int
 c:Int
 s:Int
 nm:Int
 v:Int
def Qz(b:Yn):List aw:=[N O b.r,N O b.n]
def Zv(v:Vt):List aw:=[N O v.Zt,N O v.b.r,N O v.b.n,N O v.k,N O v.c,N O v.s,N O v.nm,N O v.v]
def ZD(b:Yn):Prop:=(1<=b.r/\b.r<=65536)/\(0<=b.n/\b.n<=4)
instance (b:Yn):Decidable (ZD b):=by unfold ZD;infer_instance
def Yo(v:Vt):Prop:=(0<=v.Zt/\v.Zt<=39)/\ZD v.b/\Y0 v.k v.c v.s v.nm v.v=0
instance (v:Vt):Decidable (Yo v):=by unfold Yo;infer_instance
def ZE(a b:Yn):Prop:=a.r<b.r\/(a.r=b.r/\a.n<b.n)
instance (a b:Yn):Decidable (ZE a b):=by unfold ZE;infer_instance
def Nt(a b:Int):Int:=if a<b then -1 else if b<a then 1 else 0
def Ku(a b:Yn):Int:=if Nt a.r b.r=0 then Nt a.n b.n else Nt a.r b.r
theorem Ri(a b:Yn):0<Ku a b↔ZE b a:=by
 unfold Ku Nt ZE
 repeat' split
 all_goals omega
theorem Lr(a b:Yn):Ku a b<0↔ZE a b:=by
 unfold Ku Nt ZE
 repeat' split
 all_goals omega
theorem aS(h:Hp)(a:Int):Zd a9 T 135 #[N O a] h fun v' h'=>v'=al false/\h'=h:=by
 refine Zd.XT [_] Tryz.func135 ?_;simp -implicitDefEqProofs only[go_sem]
theorem SI(h:Hp)(a b:Int):Zd a9 T 123 #[N O a,N O b] h fun v' h'=>v'=N O (Nt a b)/\h'=h:=by
 refine Zd.XT [_,_] Tryz.func123 ?_;simp -implicitDefEqProofs only[go_sem];refine (aS T _ _).pure ?_;simp -implicitDefEqProofs only[go_sem];refine (aS T _ _).pure ?_;unfold Nt;by_cases q1:a<b
 .simp -implicitDefEqProofs only[go_sem,q1]
 .by_cases q2:b<a
  .simp -implicitDefEqProofs only[go_sem,q1,q2]
  .simp -implicitDefEqProofs only[go_sem,q1,q2]
theorem xY(h:Hp)(b:Nat)(x y:Int)(h0:hc h ⟨b,0,Y⟩=W (N O x))(h1:hc h ⟨b,1,Y⟩=W (N O y)):Zd a9 T 134 #[X (W ⟨b,0,Y⟩) 2 2] h fun v' h'=>v'=N O (if x=0 then y else x)/\h'=h:=by
 refine Zd.XT [_] Tryz.func134 ?_;simp -implicitDefEqProofs only[go_sem];refine VS.rounds 3 rfl ?_;by_cases q1:x=0
 .by_cases q2:y=0
  .simp -implicitDefEqProofs only[go_sem,h0,h1,q1,q2,Int.reduceAdd]
  .simp -implicitDefEqProofs only[go_sem,h0,h1,q1,q2,Int.reduceAdd]
 .simp -implicitDefEqProofs only[go_sem,h0,h1,q1]
theorem Rj(h:Hp)(b:Yn):Zd a9 T 117 #[ao (Qz b).toArray] h fun v' h'=>v'=al (decide (ZD b))/\h'=h.push (R (Qz b).toArray 101):=by
 refine Zd.XT [_] Tryz.func117 ?_;unfold Qz;by_cases q1:1<=b.r
 .by_cases q2:b.r<=65536
  .by_cases q3:0<=b.n
   .by_cases q4:b.n<5
    .have e:ZD b:=⟨⟨q1,q2⟩,q3,nT⟩
     simp -implicitDefEqProofs only[go_sem,q1,q2,q3,q4,e]
    .have e:¬ZD b:=by unfold ZD;omega
     simp -implicitDefEqProofs only[go_sem,q1,q2,q3,q4,e]
   .have e:¬ZD b:=by unfold ZD;omega
    simp -implicitDefEqProofs only[go_sem,q1,q2,q3,e]
  .have e:¬ZD b:=by unfold ZD;omega
   simp -implicitDefEqProofs only[go_sem,q1,q2,e]
 .have e:¬ZD b:=by unfold ZD;omega
  simp -implicitDefEqProofs only[go_sem,q1,e]
theorem Tx(h:Hp)(a b:Yn):Zd a9 T 118 #[ao (Qz a).toArray,ao (Qz b).toArray] h fun v' h'=>v'=N O (Ku a b)/\Zj h.size h h':=by
 refine Zd.XT [_,_] Tryz.func118 ?_;unfold Qz;simp -implicitDefEqProofs only[go_sem];refine VS.w (h.size+2) [] (.q 0 (.q 1 (.q 2 (.q 3 (.q 5 (.q 6 (.q 7 (.q 8 (.s 4 (.s 9 (.s 10 (.s 11 (.q 12 .nil))))))))))))) mixed uj ?_;simp -implicitDefEqProofs only[go_sem];refine (SI T _ _ _).pure ?_;simp -implicitDefEqProofs only[go_sem];refine (SI T _ _ _).pure ?_;simp -implicitDefEqProofs only[go_sem];refine⟨(Zj.refl _ _).YU uK _,?_⟩;refine (xY T _ _ (Nt a.r b.r) (Nt a.n b.n) ?_ ?_).pure ?_
 .simp -implicitDefEqProofs only[go_sem]
 .simp -implicitDefEqProofs only[go_sem]
 unfold Ku;simp -implicitDefEqProofs only[go_sem];refine⟨(Zj.refl _ _).YU uK _,?_⟩
 (repeat' (first|exact Zj.refl _ _|assumption|refine Zj.add ?_ _|refine Zj.Zs ?_ aaa _|refine Zj.trans aab ?_))
theorem HS(h:Hp)(v:Vt):Zd a9 T 120 #[ao (Zv v).toArray] h fun v' h'=>v'=al (decide (Yo v))/\Zj h.size h h':=by
 refine Zd.XT [_] Tryz.func120 ?_;unfold Zv;by_cases q1:0<=v.Zt
 .by_cases q2:v.Zt<40
  .simp -implicitDefEqProofs only[go_sem,q1,q2];refine (Rj T _ v.b).use ?_;rintro _ _ ⟨rfl,rfl⟩;unfold Qz;by_cases q3:ZD v.b
   .simp -implicitDefEqProofs only[go_sem,q3];refine (Uz T _ v.k v.c v.s v.nm v.v).use ?_;rintro _ _ ⟨rfl,rfl⟩;by_cases q4:Y0 v.k v.c v.s v.nm v.v=0
    .have e:Yo v:=⟨⟨q1,nT⟩,q3,q4⟩
     simp -implicitDefEqProofs only[go_sem,q4,e]
     (repeat' (first|exact Zj.refl _ _|assumption|refine Zj.add ?_ _|refine Zj.Zs ?_ aaa _|refine Zj.trans aab ?_))
    .have e:¬Yo v:=fun h=>q4 h.2.2;simp -implicitDefEqProofs only[go_sem,q4,e]
     (repeat' (first|exact Zj.refl _ _|assumption|refine Zj.add ?_ _|refine Zj.Zs ?_ aaa _|refine Zj.trans aab ?_))
   .have e:¬Yo v:=fun h=>q3 h.2.1;simp -implicitDefEqProofs only[go_sem,q3,e]
  .have e:¬Yo v:=by unfold Yo;omega
   simp -implicitDefEqProofs only[go_sem,q1,q2,e]
 .have e:¬Yo v:=by unfold Yo;omega
  simp -implicitDefEqProofs only[go_sem,q1,e]
theorem WP{h:Hp}{v:aw}{l:List Vt}(s:Ts Zv 8 h v l):∃p cap,v=X p (Q l) cap/\(l≠[]->∃b o,p=W ⟨b,o,Y⟩/\b<h.size/\(∀i (hi:i<(Q l)),hc h ⟨b,o+i*8,Y⟩=W (N O l[i].Zt))/\∀i (hi:i<(Q l)),rd h ⟨b,o+i*8,Y⟩ 8=W (Zv l[i])):=by
 obtain⟨p,cap,hv,WE⟩:=Ts.open (enc:=Zv) (n:=8) (fun _=>rfl) Iw s;refine⟨p,cap,hv,fun Y4=>?_⟩;obtain⟨b,o,hp,hb,XI⟩:=WE Y4;exact⟨b,o,hp,hb,fun i hi=>(XI i hi).hc (i:=0) rfl,fun i hi=>(XI i hi).rd (by simp[Zv]) rfl⟩
def Kv(l:List Vt)(j:Nat):Int:=((l[j]?).map (·.Zt)).getD (-1)
def SJ(l:List Vt)(i:Nat):Int:=if i=0 then -1 else Kv l (i-1)
def RW(p:Yn)(l:List Vt)(i:Nat):Bool:=match l[i]? with
 | some v=>decide (Yo v/\¬ZE p v.b/\(i=0\/Kv l (i-1)<v.Zt))
 | none=>true
def Jz(p:Yn)(l:List Vt):Int:=if ¬ZD p/\¬(p.r=0/\p.n=0) then 5 else if (cB (Q l)).all (RW p l)=true then 0 else 5
theorem O9{l:List Vt}{j:Nat}(hj:j<(Q l)):Kv l j=l[j].Zt:=by
 unfold Kv;rw[a6 hj];rfl
theorem Ls{p:Yn}{l:List Vt}(hi:i<(Q l)):RW p l i=true↔Yo l[i]/\¬ZE p l[i].b/\(i=0\/Kv l (i-1)<l[i].Zt):=by
 unfold RW;rw[a6 hi];simp only[decide_eq_true_eq]
theorem DG{p:Yn}{l:List Vt}(hi:i<(Q l)):RW p l i=true↔Yo l[i]/\¬ZE p l[i].b/\SJ l i<l[i].Zt:=by
 rw[Ls hi];unfold SJ;by_cases h0:i=0
 .rw[if_pos h0]
  constructor
  .rintro⟨h1,h2,_⟩;exact⟨h1,h2,by have:=h1.1.1;omega⟩
  .rintro⟨h1,h2,_⟩;exact⟨h1,h2,.inl h0⟩
 .rw[if_neg h0]
  constructor
  .rintro⟨h1,h2,h3⟩;exact⟨h1,h2,h3.resolve_left h0⟩
  .rintro⟨h1,h2,h3⟩;exact⟨h1,h2,.inr h3⟩
theorem Ou{p:Yn}{l:List Vt}(hp:¬(¬ZD p/\¬(p.r=0/\p.n=0)))(hg:∀j,j<(Q l)->RW p l j=true):Jz p l=0:=by
 unfold Jz;rw[if_neg hp,if_pos (bG.2 fun i hi=>hg i (b8.1 hi))]
theorem WQ{p:Yn}{l:List Vt}(hi:i<(Q l))(hb:RW p l i=false):Jz p l=5:=by
 unfold Jz;split
 .rfl
 .rw[if_neg];intro h;have:=bG.1 h i (b8.2 hi);rw[hb]at this;cases this
def Xy(p:Yn)(v:aw):List aw:=[N O p.r,N O p.n,v]
theorem NN(h:Hp)(p:Yn)(u:aw)(l:List Vt)(s:Ts Zv 8 h u l)(hlen:(Q l)<=4611686018427387904):
  Zd a9 T 116 #[ao (Xy p u).toArray] h fun v' h'=>v'=N O (Jz p l)/\Zj h.size h h':=by
 obtain⟨pv,cv,rfl,XI⟩:=WP s;refine Zd.XT [_] Tryz.func116 ?_;unfold Xy;by_cases z:p.r=0/\p.n=0
 .obtain⟨z1,z2⟩:=z;have Cx:¬(¬ZD p/\¬(p.r=0/\p.n=0)):=fun h=>h.2 ⟨z1,z2⟩;simp -implicitDefEqProofs only[go_sem,z1,z2];obtain⟨H,hH⟩:=ZN (h.push (R [N O 0,N O 0,X pv (Q l) cv].toArray 104):Hp);have x0:H[h.size]? = W (R (Xy p (X pv (Q l) cv)).toArray 104):=by rw[hH];unfold Xy;rw[z1,z2];exact Zc
  have iK:Zj h.size h H:=by rw[hH];(repeat' (first|exact Zj.refl _ _|assumption|refine Zj.add ?_ _|refine Zj.Zs ?_ aaa _|refine Zj.trans aab ?_))
  rw[<-hH];clear hH;have hz:=Za x0;refine VS.Yk (fun F g=>Zj H.size H g/\F 1=ab (W ⟨h.size,0,Y⟩)/\F 17=X pv (Q l) cv/\F 18=N O (Q l)/\∃i:Nat,i<=(Q l)/\F 19=N O i/\F 3=N O (SJ l i)/\∀j,j<i->RW p l j=true)
   (fun F _=>(Q l)-(vi (F 19)).toNat) rfl ⟨Zj.refl _ _,rfl,rfl,rfl,0,nT,rfl,rfl,fun j hj=>by omega⟩ ?_
  rintro F g ⟨hg,f1,f17,f18,i,hi,f19,f3,Jc⟩;have Oo:=hg.size;have Bn:Zj h.size h g:=iK.trans (hg.mono nT);by_cases ZS:i<(Q l)
  .have Z7:(i:Int)<(Q l):=nT;obtain⟨bb,oo,rfl,T5,Bo,XI⟩:=XI (by intro e;rw[e]at ZS;simp at ZS);have Zs8:bb<H.size:=by have:=iK.size;omega
   have r1:rd g ⟨bb,oo+i*8,Y⟩ 8=W (Zv l[i]):=by
    rw[Um Bn (by exact T5)];exact XI i ZS
   have rp:rd g ⟨h.size,0,Y⟩ 2=W [N O p.r,N O p.n]:=by rw[Um hg (by exact hz),YJ x0 (by simp[Xy])];rfl
   have hsl:=O9 ZS;have gl:=DG (p:=p) ZS;obtain⟨v,hv⟩:=ZN (l[i]);rw[<-hv]at r1 gl hsl;unfold Zv at r1;have XE:SJ l (i+1)=v.Zt:=by unfold SJ;rw[if_neg nT,bx];exact hsl
   simp -implicitDefEqProofs only[go_sem,f1,f17,f18,f19,Z7,r1];refine (HS T _ v).use ?_;rintro _ g1 ⟨rfl,b1⟩;have b1s:=b1.size;simp only[am]at b1s;have y0:g1[g.size]? = W (R [N O v.Zt,N O v.b.r,N O v.b.n,N O v.k,N O v.c,N O v.s,N O v.nm,N O v.v].toArray 132):=b1.get uK Zc;have y1:hc g1 ⟨g.size,0,Y⟩=W (N O v.Zt):=by rw[Zl y0];rfl
   have y2:rd g1 ⟨g.size,1,Y⟩ 2=W [N O v.b.r,N O v.b.n]:=by rw[YJ y0 uK];rfl
   have Ay:Zj g.size g g1:=(Zj.push (a4 _) _).trans (b1.mono uK);have y3:rd g1 ⟨h.size,0,Y⟩ 2=W [N O p.r,N O p.n]:=by rw[Um Ay (by show h.size<g.size;omega)];exact rp
   have Wf:Zj h.size h g1:=Bn.trans (Ay.mono nT);have NO:Zj H.size H g1:=hg.trans (Ay.mono nT);by_cases c1:Yo v
   .by_cases c2:v.Zt<=SJ l i
    .have e:=WQ (p:=p) ZS (by cases ae:RW p l i with|false=>rfl|true=>exact absurd (gl.1 ae).2.2 nT);simp -implicitDefEqProofs only[go_sem,f1,f3,c1,c2,y1,e,Wf]
    .simp -implicitDefEqProofs only[go_sem,f1,f3,c1,c2,y1,y2,y3];refine (Tx T _ v.b p).use ?_;rintro _ g2 ⟨rfl,b2⟩;have y4:hc g2 ⟨g.size,0,Y⟩=W (N O v.Zt):=by rw[b2.hc (by show g.size<g1.size;omega)];exact y1
     have SA:Zj h.size h g2:=Wf.trans (b2.mono (by have:=Wf.size;omega));have WB:Zj H.size H g2:=NO.trans (b2.mono (by have:=NO.size;omega));by_cases c3:ZE p v.b
     .have e:=WQ (p:=p) ZS (by cases ae:RW p l i with|false=>rfl|true=>exact absurd c3 (gl.1 ae).2.1);have ya:=(Ri v.b p).2 c3;simp -implicitDefEqProofs only[go_sem,ya,e,SA]
     .have ya:¬0<Ku v.b p:=fun h=>c3 ((Ri v.b p).1 h);simp -implicitDefEqProofs only[go_sem,ya,f1,f17,f18,f19,y4];refine⟨⟨WB,f1,f17,f18,i+1,ZS,rfl,by rw[XE];rfl,fun j hj=>?_⟩,?_⟩
      .by_cases Sa:j=i
       .subst Sa;exact gl.2 ⟨c1,c3,nT⟩
       .exact Jc j nT
      .simp only[vi,Zq,↓reduceIte,f19];omega
   .have e:=WQ (p:=p) ZS (by cases ae:RW p l i with|false=>rfl|true=>exact absurd (gl.1 ae).1 c1);simp -implicitDefEqProofs only[go_sem,c1,e,Wf]
  .have Xv:¬(i:Int)<(Q l):=nT;obtain rfl:i=(Q l):=nT;have e:=Ou Cx Jc;simp -implicitDefEqProofs only[go_sem,f17,f18,f19,Xv,e,Bn]
 .have z':¬p.r=0\/¬p.n=0:=nT;by_cases q:ZD p
  .have Cx:¬(¬ZD p/\¬(p.r=0/\p.n=0)):=fun h=>h.1 q;have zz:(p.r=0/\p.n=0)=False:=eq_false z;by_cases z1:p.r=0
   .have z2:¬p.n=0:=fun e=>z ⟨z1,e⟩;exact absurd q.1.1 nT
   .simp -implicitDefEqProofs only[go_sem,z1];refine (Rj T _ p).use ?_;rintro _ _ ⟨rfl,rfl⟩;simp -implicitDefEqProofs only[go_sem,q];obtain⟨H,hH⟩:=ZN ((h.push (R [N O p.r,N O p.n,X pv (Q l) cv].toArray 104)).push (R (Qz p).toArray 101):Hp);have x0:H[h.size]? = W (R (Xy p (X pv (Q l) cv)).toArray 104):=by rw[hH];simp only[aq,am,a3,↓reduceIte];rfl
    have iK:Zj h.size h H:=by rw[hH];(repeat' (first|exact Zj.refl _ _|assumption|refine Zj.add ?_ _|refine Zj.Zs ?_ aaa _|refine Zj.trans aab ?_))
    rw[<-hH];clear hH;have hz:=Za x0;refine VS.Yk (fun F g=>Zj H.size H g/\F 1=ab (W ⟨h.size,0,Y⟩)/\F 17=X pv (Q l) cv/\F 18=N O (Q l)/\∃i:Nat,i<=(Q l)/\F 19=N O i/\F 3=N O (SJ l i)/\∀j,j<i->RW p l j=true)
     (fun F _=>(Q l)-(vi (F 19)).toNat) rfl ⟨Zj.refl _ _,rfl,rfl,rfl,0,nT,rfl,rfl,fun j hj=>by omega⟩ ?_
    rintro F g ⟨hg,f1,f17,f18,i,hi,f19,f3,Jc⟩;have Oo:=hg.size;have Bn:Zj h.size h g:=iK.trans (hg.mono nT);by_cases ZS:i<(Q l)
    .have Z7:(i:Int)<(Q l):=nT;obtain⟨bb,oo,rfl,T5,Bo,XI⟩:=XI (by intro e;rw[e]at ZS;simp at ZS);have Zs8:bb<H.size:=by have:=iK.size;omega
     have r1:rd g ⟨bb,oo+i*8,Y⟩ 8=W (Zv l[i]):=by
      rw[Um Bn (by exact T5)];exact XI i ZS
     have rp:rd g ⟨h.size,0,Y⟩ 2=W [N O p.r,N O p.n]:=by rw[Um hg (by exact hz),YJ x0 (by simp[Xy])];rfl
     have hsl:=O9 ZS;have gl:=DG (p:=p) ZS;obtain⟨v,hv⟩:=ZN (l[i]);rw[<-hv]at r1 gl hsl;unfold Zv at r1;have XE:SJ l (i+1)=v.Zt:=by unfold SJ;rw[if_neg nT,bx];exact hsl
     simp -implicitDefEqProofs only[go_sem,f1,f17,f18,f19,Z7,r1];refine (HS T _ v).use ?_;rintro _ g1 ⟨rfl,b1⟩;have b1s:=b1.size;simp only[am]at b1s;have y0:g1[g.size]? = W (R [N O v.Zt,N O v.b.r,N O v.b.n,N O v.k,N O v.c,N O v.s,N O v.nm,N O v.v].toArray 132):=b1.get uK Zc;have y1:hc g1 ⟨g.size,0,Y⟩=W (N O v.Zt):=by rw[Zl y0];rfl
     have y2:rd g1 ⟨g.size,1,Y⟩ 2=W [N O v.b.r,N O v.b.n]:=by rw[YJ y0 uK];rfl
     have Ay:Zj g.size g g1:=(Zj.push (a4 _) _).trans (b1.mono uK);have y3:rd g1 ⟨h.size,0,Y⟩ 2=W [N O p.r,N O p.n]:=by rw[Um Ay (by show h.size<g.size;omega)];exact rp
     have Wf:Zj h.size h g1:=Bn.trans (Ay.mono nT);have NO:Zj H.size H g1:=hg.trans (Ay.mono nT);by_cases c1:Yo v
     .by_cases c2:v.Zt<=SJ l i
      .have e:=WQ (p:=p) ZS (by cases ae:RW p l i with|false=>rfl|true=>exact absurd (gl.1 ae).2.2 nT);simp -implicitDefEqProofs only[go_sem,f1,f3,c1,c2,y1,e,Wf]
      .simp -implicitDefEqProofs only[go_sem,f1,f3,c1,c2,y1,y2,y3];refine (Tx T _ v.b p).use ?_;rintro _ g2 ⟨rfl,b2⟩;have y4:hc g2 ⟨g.size,0,Y⟩=W (N O v.Zt):=by rw[b2.hc (by show g.size<g1.size;omega)];exact y1
       have SA:Zj h.size h g2:=Wf.trans (b2.mono (by have:=Wf.size;omega));have WB:Zj H.size H g2:=NO.trans (b2.mono (by have:=NO.size;omega));by_cases c3:ZE p v.b
       .have e:=WQ (p:=p) ZS (by cases ae:RW p l i with|false=>rfl|true=>exact absurd c3 (gl.1 ae).2.1);have ya:=(Ri v.b p).2 c3;simp -implicitDefEqProofs only[go_sem,ya,e,SA]
       .have ya:¬0<Ku v.b p:=fun h=>c3 ((Ri v.b p).1 h);simp -implicitDefEqProofs only[go_sem,ya,f1,f17,f18,f19,y4];refine⟨⟨WB,f1,f17,f18,i+1,ZS,rfl,by rw[XE];rfl,fun j hj=>?_⟩,?_⟩
        .by_cases Sa:j=i
         .subst Sa;exact gl.2 ⟨c1,c3,nT⟩
         .exact Jc j nT
        .simp only[vi,Zq,↓reduceIte,f19];omega
     .have e:=WQ (p:=p) ZS (by cases ae:RW p l i with|false=>rfl|true=>exact absurd (gl.1 ae).1 c1);simp -implicitDefEqProofs only[go_sem,c1,e,Wf]
    .have Xv:¬(i:Int)<(Q l):=nT;obtain rfl:i=(Q l):=nT;have e:=Ou Cx Jc;simp -implicitDefEqProofs only[go_sem,f17,f18,f19,Xv,e,Bn]
  .have e:Jz p l=5:=by unfold Jz;rw[if_pos ⟨q,z⟩]
   by_cases z1:p.r=0
   .have z2:¬p.n=0:=fun e=>z ⟨z1,e⟩;have hb:=Rj T (h.push (R [N O 0,N O p.n,X pv (Q l) cv].toArray 104)) p;simp -implicitDefEqProofs only[go_sem,z1,z2];unfold Qz at hb;rw[z1]at hb;refine hb.use ?_;rintro _ _ ⟨rfl,rfl⟩;simp -implicitDefEqProofs only[go_sem,q,e]
   .simp -implicitDefEqProofs only[go_sem,z1];refine (Rj T _ p).use ?_;rintro _ _ ⟨rfl,rfl⟩;simp -implicitDefEqProofs only[go_sem,q,e]
theorem SK(h:Hp)(u:aw)(l:List Vt)(s:Ts Zv 8 h u l)(hl:(Q l)<=2199023255552):
  Zd a9 T 119 #[u] h fun v' h'=>Qv h.size 132 Zv 8 h' v' l/\Zj h.size h h':=by
 obtain⟨p,c,rfl,WE⟩:=WP s;refine Zd.XT [_] Tryz.func119 ?_
 cases p with
 | none=>
  have:l=[]:=by
   cases l with
   | nil=>rfl
   | cons x l=>obtain⟨b,o,hp,_⟩:=WE uK;cases hp
  subst this;simp -implicitDefEqProofs only[go_sem];exact Qv.nil _ _ _ _ _
 | some a=>
  simp -implicitDefEqProofs only[go_sem];refine Rb (E:=132) (B:=h.size) (n:=8) (bytes:=64) Oi Tryz.underlying102 Lh lV rfl lU (fun _=>rfl) (Qv.EH _ _ Zv 8 _ _) uK (s.Yz (Zj.push (a4 _) _)) Ig nT ?_;intro v' h' ho hb _;simp -implicitDefEqProofs only[go_sem];exact⟨by simpa using ho,(Zj.push (a4 _) _).trans hb⟩
def YG(p:Yn)(l:List Vt)(b:Yn):Int:=if Jz p l≠0 then 5 else if ¬ZD b then 2 else if ZE b p then 7 else 0
theorem IC(p:Yn)(l:List Vt):Jz p l=0\/Jz p l=5:=by
 unfold Jz
 repeat' split
 all_goals simp
def aT(B:Nat)(h':Hp)(v':aw)(p:Yn)(l:List Vt)(b:Yn):Prop:=∃w1 w2,v'=.tuple [ao (Xy (if YG p l b=0 then b else ⟨0,0⟩) w1).toArray,w2,N O (YG p l b)].toArray /\
 Qv B 132 Zv 8 h' w1 (if YG p l b=0 then l else [])/\Qv B 132 Zv 8 h' w2 (if YG p l b=0 then l else [])
theorem RX(h:Hp)(p:Yn)(u:aw)(l:List Vt)(b:Yn)(s:Ts Zv 8 h u l)(hl:(Q l)<=2199023255552):
  Zd a9 T 93 #[ao (Xy p u).toArray,ao (Qz b).toArray] h fun v' h'=>aT h.size h' v' p l b/\Zj h.size h h':=by
 obtain⟨pu,cu,rfl,WE⟩:=WP s;refine Zd.Ld [_,_] Tryz.func93 ?_;unfold Xy Qz;simp -implicitDefEqProofs only[go_sem];have Rk:Zj h.size h ((((h.push (R [N O p.r,N O p.n,X pu (Q l) cu].toArray 104)).push (R [N O b.r,N O b.n].toArray 101)).push (R [N O 0,N O 0,X Y 0 0].toArray 104))):=by (repeat' (first|exact Zj.refl _ _|assumption|refine Zj.add ?_ _|refine Zj.Zs ?_ (by first|omega|(simp;omega)) _|refine Zj.trans (by assumption) ?_))
 refine (NN T _ p _ l (s.Yz Rk) (by omega)).use ?_;rintro _ g1 ⟨rfl,b1⟩;have x0:g1[h.size]? = W (R (Xy p (X pu (Q l) cu)).toArray 104):=b1.get (by simp only[am];omega) (by simp only[aq,am,a3,↓reduceIte,Xy]);have x1:g1[h.size+1]? = W (R [N O b.r,N O b.n].toArray 101):=b1.get (by simp only[am];omega) (by simp only[aq,am,a3,↓reduceIte]);have x2:g1[h.size+2]? = W (R [N O 0,N O 0,X Y 0 0].toArray 104):=b1.get (by simp only[am];omega) (by simp only[aq,am,a3,↓reduceIte]);have Wf:Zj h.size h g1:=Rk.trans (b1.mono (by simp;omega));have z1:=Za x2;clear b1 Rk;have fin:∀(G:Hp) (w:List aw),(Q w)=3->w.all YD=true->G[h.size+2]? = W (R [N O 0,N O 0,X Y 0 0].toArray 104)->wr G ⟨h.size+1+1,0,Y⟩ w=W (G.setIfInBounds (h.size+1+1) (R w.toArray 104)):=by
  intro G w h3 h1 hx;rw[Yd (b:=h.size+1+1) hx 0 w,Z4 (by rw[h3];rfl),if_pos ⟨by rw[h3];simp,h1⟩]
 unfold aT;rcases IC p l with e0|e0
 .have r1:=Zz x1 (n:=2) rfl;simp -implicitDefEqProofs only[go_sem,e0,r1];refine (Rj T _ b).use ?_;rintro _ _ ⟨rfl,rfl⟩;by_cases q1:ZD b
  .have rp:rd g1 ⟨h.size,0,Y⟩ 2=W [N O p.r,N O p.n]:=by rw[YJ x0 (by simp[Xy])];rfl
   have z2:h.size<g1.size:=by omega
   have z3:h.size+1<g1.size:=by omega
   unfold Qz;simp -implicitDefEqProofs only[go_sem,q1,r1,rp,z2,z3];refine (Tx T _ b p).use ?_;rintro _ g2 ⟨rfl,b2⟩;have aU:Zj g1.size g1 g2:=(Zj.push (a4 _) _).trans (b2.mono (by simp));have x0':=aU.get z2 x0;have x1':=aU.get z3 x1;have x2':=aU.get z1 x2;have SA:=Wf.trans (aU.mono Wf.size);have z5:=Za x2';by_cases q2:ZE b p
   .have e:YG p l b=7:=by unfold YG;rw[if_neg (by rw[e0];decide),if_neg (fun h=>h q1),if_pos q2]
    have w2:=fin g2 [N O 0,N O 0,X Y 0 0] rfl rfl x2';have c2':Ku b p<0:=(Lr b p).2 q2;simp -implicitDefEqProofs only[go_sem,c2',e,w2,z5];refine⟨⟨_,_,rfl,Qv.nil _ _ _ _ _,Qv.nil _ _ _ _ _⟩,?_⟩;exact SA.Zs (by omega) _
   .have e:YG p l b=0:=by unfold YG;rw[if_neg (by rw[e0];decide),if_neg (fun h=>h q1),if_neg q2]
    have r1':=Zz x1' (n:=2) rfl;have rv:hc g2 ⟨h.size,2,Y⟩=W (X pu (Q l) cu):=by rw[Zl x0'];rfl
    have c2':¬Ku b p<0:=fun h=>q2 ((Lr b p).1 h);simp -implicitDefEqProofs only[go_sem,c2'];refine VS.w (h.size+2) [] (.q 0 (.q 1 (.q 2 (.q 5 (.q 6 (.s 3 (.q 4 (.s 7 (.s 8 (.q 9 (.q 10 .nil))))))))))) mixed (by kernel_rfl) ?_;have z6:h.size<h.size+2:=by omega
    have z7:h.size+1<h.size+2:=by omega
    simp -implicitDefEqProofs only[go_sem,r1',rv,z6,z7];refine (SK T _ _ l (s.Yz SA) hl).use ?_;rintro w1 g3 ⟨o1,b3⟩;obtain⟨p1,c1,rfl,_⟩:=o1.open;have b3':Zj (h.size+2) g2 g3:=b3.mono (by omega);simp -implicitDefEqProofs only[go_sem];refine⟨b3',?_⟩;refine (SK T _ _ l ((s.Yz SA).Yz b3) hl).use ?_;rintro w2 g4 ⟨o2,b4⟩;have b3s:=b3.size;have b4s:=b4.size;have iL:Zj (h.size+2) g2 g4:=b3'.trans (b4.mono (by omega));have Zll:g4[h.size+2]? = W (R [N O 0,N O 0,X Y 0 0].toArray 104):=b4.get (by omega) (b3.get z5 x2');have z8:=Za Zll;have wf:=fin g4 [N O b.r,N O b.n,X p1 (Q l) c1] rfl rfl Zll;have EU:=SA.trans ((b3.trans (b4.mono b3s)).mono SA.size);simp -implicitDefEqProofs only[go_sem,e,wf,z8];refine⟨iL,iL.Zs (by omega) _,⟨_,_,rfl,?_,?_⟩,?_⟩
    .exact (((o1.Yz b4 (a4 _)).mono (B':=h.size+1+1+1) (by omega)).Z9 (by omega) _).mono (by omega)
    .exact ((o2.mono (B':=h.size+1+1+1) (by omega)).Z9 (by omega) _).mono (by omega)
    .exact EU.Zs (by omega) _
  .have e:YG p l b=2:=by unfold YG;rw[if_neg (by rw[e0];decide),if_pos q1]
   have w2:=fin g1 [N O 0,N O 0,X Y 0 0] rfl rfl x2;simp -implicitDefEqProofs only[go_sem,q1,e,w2,z1];exact⟨⟨_,_,rfl,Qv.nil _ _ _ _ _,Qv.nil _ _ _ _ _⟩,(Wf.Zs (by omega) _).YU (by simp;omega) _⟩
 .have e:YG p l b=5:=by unfold YG;rw[if_pos (by rw[e0];decide)]
  have w2:=fin g1 [N O 0,N O 0,X Y 0 0] rfl rfl x2;simp -implicitDefEqProofs only[go_sem,e0,e,w2,z1];exact⟨⟨_,_,rfl,Qv.nil _ _ _ _ _,Qv.nil _ _ _ _ _⟩,Wf.Zs (by omega) _⟩
def Srt(l:List Vt):Prop:=∀i j (hi:i<(Q l)) (hj:j<(Q l)),i<j->l[i].Zt<l[j].Zt
theorem Lt{p:Yn}{l:List Vt}(h:Jz p l=0):∀j,j<(Q l)->RW p l j=true:=by
 intro j hj;unfold Jz at h;split at h
 .cases h
 .split at h
  .rename_i Jc;exact bG.1 Jc j (b8.2 hj)
  .cases h
theorem G6{p:Yn}{l:List Vt}(h:Jz p l=0):Srt l:=by
 have hg:=Lt h;intro i j
 induction j with
 | zero=>intro _ _ h;omega
 | succ j ih=>
  intro hi hj uc;have h1:=(Ls hj).1 (hg _ hj);have h2:Kv l j<l[j+1].Zt:=by
   rcases h1.2.2 with h|h
   .omega
   .simpa using h
  rw[O9 nT]at h2;by_cases e:i=j
  .subst e;exact h2
  .exact Int.lt_trans (ih hi nT nT) h2
theorem iM{p:Yn}{l:List Vt}(h:Jz p l=0):∀x∈l,Yo x:=by
 intro x hx;obtain⟨j,hj,rfl⟩:=bc.1 hx;exact ((Ls hj).1 (Lt h j hj)).1
def JA(l:List Vt)(v:Vt):List Vt:=l.filter (fun x=>decide (x.Zt<v.Zt))++v :: l.filter (fun x=>decide (v.Zt<x.Zt))
theorem ID{α:Type}(q:α->Bool)(l:List α)(i:Nat)(h1:∀j (hj:j<(Q l)),j<i->q l[j]=true)(h2:∀j (hj:j<(Q l)),i<=j->q l[j]=false):l.filter q=l.take i:=by
 conv=>lhs;rw[<-bp i l]
 rw[cg,cf.2,bS.2,a7]
 .intro x hx;obtain⟨j,hj,rfl⟩:=bc.1 hx;rw[cp];rw[h2 _ (by rw[be]at hj;omega) nT];decide
 .intro x hx;obtain⟨j,hj,rfl⟩:=bc.1 hx;rw[bh]at hj;rw[cq];exact h1 _ nT nT
theorem IE{α:Type}(q:α->Bool)(l:List α)(i:Nat)(h1:∀j (hj:j<(Q l)),j<i->q l[j]=false)(h2:∀j (hj:j<(Q l)),i<=j->q l[j]=true):l.filter q=l.drop i:=by
 conv=>lhs;rw[<-bp i l]
 rw[cg,bS.2,cf.2,List.nil_append]
 .intro x hx;obtain⟨j,hj,rfl⟩:=bc.1 hx;rw[cp];exact h2 _ (by rw[be]at hj;omega) nT
 .intro x hx;obtain⟨j,hj,rfl⟩:=bc.1 hx;rw[bh]at hj;rw[cq,h1 _ nT nT];decide
theorem yc{l:List Vt}(hs:Srt l){v:Vt}(hi:i<(Q l))(he:l[i].Zt=v.Zt):JA l v=l.set i v:=by
 have a1:l.filter (fun x=>decide (x.Zt<v.Zt))=l.take i:=ID _ _ _
  (fun j hj Sa=>decide_eq_true (by have:=hs j i hj hi Sa;omega))
  (fun j hj uc=>decide_eq_false (by
    by_cases e:i=j
    .subst e;omega
    .have:=hs i j hi hj nT;omega))
 have a2:l.filter (fun x=>decide (v.Zt<x.Zt))=l.drop (i+1):=IE _ _ _
  (fun j hj Sa=>decide_eq_false (by
    by_cases e:j=i
    .subst e;omega
    .have:=hs j i hj hi nT;omega))
  (fun j hj uc=>decide_eq_true (by have:=hs i j hi hj nT;omega))
 rw[JA,a1,a2,List.set_eq_take_append_cons_drop,if_pos hi]
theorem yd{l:List Vt}(hs:Srt l){v:Vt}(hi:i<=(Q l))(h1:∀j (hj:j<(Q l)),j<i->l[j].Zt<v.Zt)(h2:∀j (hj:j<(Q l)),i<=j->v.Zt<l[j].Zt):JA l v=l.take i++v :: l.drop i:=by
 have a1:l.filter (fun x=>decide (x.Zt<v.Zt))=l.take i:=ID _ _ _ (fun j hj Sa=>decide_eq_true (h1 j hj Sa)) (fun j hj uc=>decide_eq_false (by have:=h2 j hj uc;omega));have a2:l.filter (fun x=>decide (v.Zt<x.Zt))=l.drop i:=IE _ _ _ (fun j hj Sa=>decide_eq_false (by have:=h1 j hj Sa;omega)) (fun j hj uc=>decide_eq_true (h2 j hj uc));rw[JA,a1,a2]
def XX:List Nat->Nat
 | []=>0
 | x :: l=>x+256*XX l
def Dg(l:List Nat):Prop:=∀x∈l,x<256
theorem Dg.getD(w:Dg l)(i:Nat):l.getD i 0<256:=Z3 w i
theorem Dg.set{x:Nat}(w:Dg l)(i:Nat)(hx:x<256):Dg (l.set i x):=by
 intro y hy;rcases bA hy with h|h
 .exact w y h
 .rw[h];exact hx
theorem ZcS(w:Dg l):XX l<256 ^ (Q l):=by
 induction l with
 | nil=>simp[XX]
 | cons x l ih=>
  have h1:=ih fun y hy=>w y (b9 _ hy);have h2:=w x ch;simp only[XX,bP,b0];omega
theorem iN(w:Dg l)(i:Nat):l.getD i 0=XX l/256 ^ i%256:=by
 induction l generalizing i with
 | nil=>simp[XX]
 | cons x l ih=>
  have hx:=w x ch
  cases i with
  | zero=>simp only[bt,XX,Nat.pow_zero,Nat.div_one];omega
  | succ i=>
   rw[bw,ih (fun y hy=>w y (b9 _ hy)) i,XX,b0,bl (256 ^ i) 256,<-Nat.div_div_eq_div_mul]
   congr 2
   omega
theorem getD_none(hi:¬i<(Q l)):l.getD i 0=0:=by
 rw[aa,b7 nT];rfl
def uv(x:Nat):aw:=N S (x:Nat)
def W26:Nat:=67108864
def Bp(n Z1:Nat):List Nat:=[n%67108864,n/67108864%67108864,n/4503599627370496%67108864,n/302231454903657293676544%67108864,n/20282409603651670423947251286016+Z1*16777216]
theorem HT(x n:Nat)(hn:n<=64):Xo S (x:Int) (n:Int)=((x*2 ^ n%18446744073709551616:Nat):Int):=by
 rw[CO S x n (by show n<=64;omega),MX];rfl
theorem Na(x n:Nat)(hn:n<=64):XA S (x:Int) (n:Int)=((x/2 ^ n:Nat):Int):=by
 rw[OX S x n (by show n<=64;omega),Nat.shiftRight_eq_div_pow]
theorem Ov(x:Nat)(hx:x<18446744073709551616):YN .and S (x:Int) 67108863=((x%67108864:Nat):Int):=by
 have h:=Zcw x 67108863 hx Iw;have e:x &&& 67108863=x%67108864:=Nat.and_two_pow_sub_one_eq_mod x 26;rw[e]at h;exact h
theorem mj(L b:Nat)(hL:L<72057594037927936)(hb:b<256):YN .or S ((L*256:Nat):Int) (b:Int)=((L*256+b:Nat):Int):=by
 rw[gQ _ _ nT nT,Uo (k:=8) nT nT]
theorem Zlm(L:Nat)(hL:L<72057594037927936):Xo S (L:Int) 8=((L*256:Nat):Int):=by
 have h:=HT L 8 Iw;rw[show L*2 ^ 8%18446744073709551616=L*256 by omega]at h;exact h
theorem aV{m:Nat}(hm:m<(Q l)):XX (l.drop m)=l.getD m 0+256*XX (l.drop (m+1)):=by
 rw[List.drop_eq_getElem_cons hm];have e:l.getD m 0=l[m]:=by rw[aa,a6 hm];rfl
 rw[e];rfl
theorem Dg.drop(w:Dg l)(i:Nat):Dg (l.drop i):=fun x hx=>w x (List.mem_of_mem_drop hx)
theorem TA(w:Dg l){n:Nat}(hn:(Q l)<=n):XX l<256 ^ n:=cj (ZcS w) (Nat.pow_le_pow_right nT hn)
set_option maxHeartbeats 1000000 in
theorem Kw(h:Hp)(v:aw)(l:List Nat)(Z1:Nat)(s:Bs h v l)(hl:(Q l)=16)(ht:Z1<=1):
  Zd a9 T 98 #[v,N S Z1] h fun v' h'=>v'=ao ((Bp (XX l) Z1).map uv).toArray/\Zj h.size h h':=by
 have wb:=s.byte;obtain⟨p,c,rfl,hc⟩:=s.VJ;obtain⟨bb,oo,rfl,T5,hc⟩:=hc (by intro e;subst e;simp at hl);obtain⟨lo,hi,rfl,hlo,hhi⟩:∃lo hi:List Nat,l=lo++hi/\(Q lo)=8/\(Q hi)=8:=⟨l.take 8,l.drop 8,(bp 8 l).symm,by rw[bh];omega,by rw[be];omega⟩
 have wlo:Dg lo:=fun x hx=>wb x (List.mem_append_left _ hx);have whi:Dg hi:=fun x hx=>wb x (List.mem_append_right _ hx);refine Zd.XT [_,_] Tryz.func98 ?_;simp -implicitDefEqProofs only[go_sem];obtain⟨Z,hZ⟩:∃Z:Obj,Z=R #[N S 0,N S 0,N S 0,N S 0,N S 0] 192:=⟨_,rfl⟩
 refine VS.Yk (fun F g=>g=h.push (R #[N S 0,N S 0,N S 0,N S 0,N S 0] 192)/\F 0=X (W ⟨bb,oo,Y⟩) (lo++hi).length c/\F 1=N S Z1/\F 4=ab (W ⟨h.size,0,Y⟩)/\∃j:Nat,j<=8/\F 7=N O ((j:Int)-1)/\F 5=N S (XX (lo.drop j):Nat)/\F 6=N S (XX (hi.drop j):Nat))
  (fun F _=>(vi (F 7)+1).toNat) rfl ⟨rfl,rfl,rfl,rfl,8,by omega,rfl,by rw[b5 (by omega)];rfl,by rw[b5 (by omega)];rfl⟩ ?_
 rintro F g ⟨rfl,f0,f1,f4,j,hj,f7,f5,f6⟩;by_cases ZS:0<j
 .obtain⟨m,rfl⟩:∃m,j=m+1:=⟨j-1,by omega⟩
  have e1:((m+1:Nat):Int)-1=(m:Nat):=by omega
  rw[e1]at f7;have g1:=hc m (by omega);have g2:=hc (8+m) (by omega);have d1:(lo++hi).getD m 0=lo.getD m 0:=by rw[aa,List.getElem?_append_left (by omega),aa]
  have d2:(lo++hi).getD (8+m) 0=hi.getD m 0:=by rw[aa,List.getElem?_append_right (by omega),hlo,Nat.add_sub_cancel_left,aa]
  rw[d1]at g1;rw[d2]at g2;have x1:=wlo.getD m;have x2:=whi.getD m;have n1:XX (lo.drop m)=XX (lo.drop (m+1))*256+lo.getD m 0:=by rw[aV (l:=lo) (by omega)];omega
  have n2:XX (hi.drop m)=XX (hi.drop (m+1))*256+hi.getD m 0:=by rw[aV (l:=hi) (by omega)];omega
  have b1:=TA (wlo.drop (m+1)) (n:=7) (by rw[be];omega);have b2:=TA (whi.drop (m+1)) (n:=7) (by rw[be];omega);rw[show 256 ^ 7=72057594037927936 from rfl]at b1 b2;have s1:=Zlm _ b1;have s2:=Zlm _ b2;have o1:=mj _ _ b1 x1;have o2:=mj _ _ b2 x2;have em:(8:Int)+(m:Int)=((8+m:Nat):Int):=by omega
  have k1:(m:Int)<(lo++hi).length:=by omega
  have k2:((8+m:Nat):Int)<(lo++hi).length:=by omega
  have k0:(0:Int)<=m:=by omega
  have Ztb:bb<h.size:=T5;have m1:((lo.getD m 0:Nat):Int)%18446744073709551616=(lo.getD m 0:Nat):=by omega
  have m2:((hi.getD m 0:Nat):Int)%18446744073709551616=(hi.getD m 0:Nat):=by omega
  simp -implicitDefEqProofs only[go_sem,f0,f1,f4,f5,f6,f7,m1,m2,k0,k1,k2,em,a0,Ztb,g1,g2,s1,s2,o1,o2];refine⟨⟨rfl,f0,f1,f4,m,by omega,rfl,?_,?_⟩,?_⟩
  .rw[n1];rfl
  .rw[n2];rfl
  .simp only[vi,Zq,↓reduceIte,f7];omega
 .obtain rfl:j=0:=by omega
  rw[List.drop_zero]at f5 f6;have k0:¬(0:Int)<=((0:Nat):Int)-1:=by omega
  have b1:=TA wlo (n:=8) (by omega);have b2:=TA whi (n:=8) (by omega);rw[show 256 ^ 8=18446744073709551616 from rfl]at b1 b2;have Hg:XX (lo++hi)=XX lo+18446744073709551616*XX hi:=by
   have:∀a b:List Nat,XX (a++b)=XX a+256 ^ (Q a)*XX b:=by
    intro a b
    induction a with
    | nil=>simp[XX]
    | cons x a ih=>simp only[List.cons_append,XX,ih,bP,b0,ca,bC];congr 2;rw[<-a8,bl 256]
   rw[this,hlo]
  rw[Hg];generalize XX lo=L at *;generalize XX hi=M at *;have q1:=Ov L b1;have q2:XA S (L:Int) 26=((L/2 ^ 26:Nat):Int):=Na L 26 (by decide);have q3:=Ov (L/2 ^ 26) (by omega);have q4:XA S (L:Int) 52=((L/2 ^ 52:Nat):Int):=Na L 52 (by decide);have q5:Xo S (M:Int) 12=((M*2 ^ 12%18446744073709551616:Nat):Int):=HT M 12 (by decide);have q6:=gQ (L/2 ^ 52) (M*2 ^ 12%18446744073709551616) (by omega) (by omega);rw[Nat.or_comm,Uo (k:=12) (by omega) (by omega)]at q6;have q7:=Ov (M*2 ^ 12%18446744073709551616+L/2 ^ 52) (by omega);have q8:XA S (M:Int) 14=((M/2 ^ 14:Nat):Int):=Na M 14 (by decide);have q9:=Ov (M/2 ^ 14) (by omega);have q10:XA S (M:Int) 40=((M/2 ^ 40:Nat):Int):=Na M 40 (by decide);have q11:Xo S (Z1:Int) 24=((Z1*2 ^ 24%18446744073709551616:Nat):Int):=HT Z1 24 (by decide);have q12:=gQ (M/2 ^ 40) (Z1*2 ^ 24%18446744073709551616) (by omega) (by omega);rw[Nat.or_comm,Uo (k:=24) (by omega) (by omega)]at q12;simp -implicitDefEqProofs only[go_sem,f0,f1,f4,f5,f6,f7,k0,q1,q2,q3,q4,q5,q6,q7,q8,q9,q10,q11,q12];have w1:L%67108864=(L+18446744073709551616*M)%67108864:=by omega
  have w2:L/2 ^ 26%67108864=(L+18446744073709551616*M)/67108864%67108864:=by omega
  have w3:(M*2 ^ 12%18446744073709551616+L/2 ^ 52)%67108864=(L+18446744073709551616*M)/4503599627370496%67108864:=by omega
  have w4:M/2 ^ 14%67108864=(L+18446744073709551616*M)/302231454903657293676544%67108864:=by omega
  have w5:Z1*2 ^ 24%18446744073709551616+M/2 ^ 40=(L+18446744073709551616*M)/20282409603651670423947251286016+Z1*16777216:=by omega
  rw[w1,w2,w3,w4,w5];rfl
def Mp(l:List Nat)(i:Nat):List Nat:=
 if i<4 then (l.set i (l.getD i 0%67108864)).set (i+1) ((l.set i (l.getD i 0%67108864)).getD (i+1) 0+l.getD i 0/67108864)
 else (l.set i (l.getD i 0%67108864)).set 0 ((l.set i (l.getD i 0%67108864)).getD 0 0+5*(l.getD i 0/67108864))
def QI(l:List Nat):Nat->List Nat
 | 0=>l
 | i+1=>Mp (QI l i) i
def YY(K:Nat)(l:List Nat):Prop:=∀x∈l,x<K
theorem YY.getD{K:Nat}(w:YY K l)(hK:0<K)(i:Nat):l.getD i 0<K:=by
 by_cases hi:i<(Q l)
 .have e:l.getD i 0=l[i]:=by rw[aa,a6 hi];rfl
  rw[e];exact w _ (bQ hi)
 .rw[getD_none hi];exact hK
theorem YY.set{K:Nat}(w:YY K l)(i x:Nat)(hx:x<K):YY K (l.set i x):=by
 intro y hy;rcases bA hy with h|h
 .exact w y h
 .rw[h];exact hx
theorem YY.mono{K K':Nat}(w:YY K l)(h:K<=K'):YY K' l:=fun x hx=>cj (w x hx) h
theorem EV(l:List Nat)(i:Nat):(Mp l i).length=(Q l):=by
 unfold Mp;split<;>simp
theorem NS(l:List Nat):∀i,(QI l i).length=(Q l)
 | 0=>rfl
 | i+1=>by rw[QI,EV,NS l i]
theorem qe{K:Nat}(w:YY K l)(h0:67108864<=K)(hK:K<=2 ^ 62):YY (K+2 ^ 39) (Mp l i):=by
 have hx:=w.getD nT i;have w1:YY K (l.set i (l.getD i 0%67108864)):=w.set i _ nT;have hy:=w1.getD nT (i+1);have hz:=w1.getD nT 0;unfold Mp;split
 .exact (w1.mono nT).set _ _ nT
 .exact (w1.mono nT).set _ _ nT
theorem DH{K:Nat}(w:YY K l)(h0:67108864<=K)(hK:K<=2 ^ 61):∀i,i<=5->YY (K+i*2 ^ 39) (QI l i)
 | 0,_=>by rw[cr,ct];exact w
 | i+1,hi=>by
  have:=qe (i:=i) (DH w h0 hK i nT) nT nT;rw[QI];exact this.mono nT
theorem Lu{j x:Nat}(h:i≠j):(l.set i x).getD j 0=l.getD j 0:=by
 rw[aa,aa,bg h]
def YT(l:List Nat):Obj:=R (l.map uv++[]).toArray 192
theorem mm(x:Nat):XA S (x:Int) 26=((x/67108864:Nat):Int):=Na x 26 Iw
set_option maxHeartbeats 1000000 in
theorem iO(h:Hp)(bk:Nat)(l:List Nat)(hl:(Q l)=5)(w:YY (2 ^ 61) l)(hb:h[bk]? = W (YT l)):
  Zd a9 T 125 #[ab (W ⟨bk,0,Y⟩)] h fun v' h'=>∃a,a=QI l 5/\h'=h.setIfInBounds bk (YT ((a.set 1 (a.getD 1 0+a.getD 0 0/67108864)).set 0 (a.getD 0 0%67108864))):=by
 refine Zd.XT [_] Tryz.func125 ?_;simp -implicitDefEqProofs only[go_sem];refine VS.Yk (fun F g=>F 0=ab (W ⟨bk,0,Y⟩)/\∃i:Nat,i<=5/\F 4=N O i/\g=h.setIfInBounds bk (YT (QI l i)))
  (fun F _=>5-(vi (F 4)).toNat) rfl ⟨rfl,0,nT,rfl,(Vo hb).symm⟩ ?_
 rintro F g ⟨f0,i,hi,f4,rfl⟩;have hx:=Yc (o:=YT (QI l i)) hb;have hw:=DH w Iw Iw i hi;have hw2:=hw.getD nT i;have hln:(QI l i).length=5:=by rw[NS,hl]
 by_cases ZS:i<5
 .have Z7:(i:Int)<5:=nT;have XE:QI l (i+1)=Mp (QI l i) i:=rfl;obtain⟨a,ha⟩:=ZN (QI l i);rw[<-ha]at hx hw hw2 hln XE ⊢;obtain⟨G,hG⟩:=ZN (h.setIfInBounds bk (YT a));rw[<-hG]at hx ⊢;have g1:=Z6 hx (i:=i) nT;unfold uv at g1;obtain⟨x,hxx⟩:=ZN (a.getD i 0);rw[<-hxx]at g1 hw2;have e1:=mm x;have e2:=Ov x nT;simp -implicitDefEqProofs only[go_sem,f0,f4,Z7,a0,bd,g1,e1];refine VS.w (bk+1) [8] (.q 0 (.q 1 (.q 2 (.q 3 (.q 4 (.q 5 (.q 6 (.q 7 (.w 8 .nil))))))))) mixed uj ?_;have c1:QQ _ ⟨bk,i,Y⟩ (N S (x%67108864:Nat))=_:=Yv (f:=uv) hx (i:=i) nT (x%67108864) rfl;have Wi:=Yc (o:=R ((a.set i (x%67108864)).map uv++[]).toArray 192) hx;have Bq:=hw.set i (x%67108864) nT;have WE:Mp a i=if i<4 then (a.set i (x%67108864)).set (i+1) ((a.set i (x%67108864)).getD (i+1) 0+x/67108864) else (a.set i (x%67108864)).set 0 ((a.set i (x%67108864)).getD 0 0+5*(x/67108864)):=by rw[hxx];rfl
  have xM:(a.set i (x%67108864)).length=5:=by rw[ba,hln]
  obtain⟨a1,ye⟩:=ZN (a.set i (x%67108864));rw[<-ye]at Wi Bq WE xM c1;obtain⟨G1,um⟩:=ZN (G.setIfInBounds bk (R (a1.map uv++[]).toArray 192));rw[<-um]at Wi c1;by_cases h4:i<4
  .have h4':(i:Int)<4:=nT;rw[if_pos h4]at WE;simp -implicitDefEqProofs only[go_sem,f0,f4,Z7,a0,bd,g1,e1,e2,c1,h4'];refine VS.w (bk+1) [10] (.q 0 (.q 1 (.q 2 (.q 3 (.q 4 (.q 5 (.q 6 (.q 7 (.q 8 (.q 9 (.w 10 .nil))))))))))) mixed uj ?_;have g2:=Z6 Wi (i:=i+1) nT;unfold uv at g2;have hy:=Bq.getD nT (i+1);obtain⟨y,hyy⟩:=ZN (a1.getD (i+1) 0);rw[<-hyy]at g2 hy WE;have e3:(y:Int)+((x/67108864:Nat):Int)=((y+x/67108864:Nat):Int):=nT;have e4:((y+x/67108864:Nat):Int)%18446744073709551616=((y+x/67108864:Nat):Int):=nT;have ei:(i:Int)+1=((i+1:Nat):Int):=rfl;have hi1:((i+1:Nat):Int)<5:=nT;have c2:QQ G1 ⟨bk,i+1,Y⟩ (N S (y+x/67108864:Nat))=_:=Yv (f:=uv) Wi (i:=i+1) nT (y+x/67108864) rfl;simp -implicitDefEqProofs only[go_sem,f0,f4,Z7,ei,hi1,a0,bd,g2,e3,e4,c2];refine⟨⟨f0,i+1,ZS,rfl,?_⟩,?_⟩
   .rw[um,set_set,hG,set_set,XE,WE];rfl
   .simp only[vi,Zq,↓reduceIte,f4];omega
  .have h4':¬(i:Int)<4:=nT;rw[if_neg h4]at WE;simp -implicitDefEqProofs only[go_sem,f0,f4,Z7,a0,bd,g1,e1,e2,c1,h4'];refine VS.w (bk+1) [9] (.q 0 (.q 1 (.q 2 (.q 3 (.q 4 (.q 5 (.q 6 (.q 7 (.q 8 (.w 9 .nil)))))))))) mixed uj ?_;have g2:=Z6 Wi (i:=0) nT;unfold uv at g2;have hy:=Bq.getD nT 0;obtain⟨y,hyy⟩:=ZN (a1.getD 0 0);rw[<-hyy]at g2 hy WE;have e5:(5:Int)*((x/67108864:Nat):Int)=((5*(x/67108864):Nat):Int):=nT;have e6:((5*(x/67108864):Nat):Int)%18446744073709551616=((5*(x/67108864):Nat):Int):=nT;have e3:(y:Int)+((5*(x/67108864):Nat):Int)=((y+5*(x/67108864):Nat):Int):=nT;have e4:((y+5*(x/67108864):Nat):Int)%18446744073709551616=((y+5*(x/67108864):Nat):Int):=nT;have c2:QQ G1 ⟨bk,0,Y⟩ (N S (y+5*(x/67108864):Nat))=_:=Yv (f:=uv) Wi (i:=0) nT (y+5*(x/67108864)) rfl;simp -implicitDefEqProofs only[go_sem,f0,f4,Z7,a0,bd,g2,e3,e4,e5,e6,c2];refine⟨⟨f0,i+1,ZS,rfl,?_⟩,?_⟩
   .rw[um,set_set,hG,set_set,XE,WE];rfl
   .simp only[vi,Zq,↓reduceIte,f4];omega
 .have Xv:¬(i:Int)<5:=nT;obtain rfl:i=5:=nT;obtain⟨a,ha⟩:=ZN (QI l 5);rw[<-ha]at hx hw hw2 hln ⊢;obtain⟨G,hG⟩:=ZN (h.setIfInBounds bk (YT a));rw[<-hG]at hx ⊢;have g0:=Z6 hx (i:=0) nT;have g1:=Z6 hx (i:=1) nT;have y0:=hw.getD nT 0;have y1:=hw.getD nT 1;unfold uv at g0 g1;obtain⟨x,hxx⟩:=ZN (a.getD 0 0);obtain⟨y,hyy⟩:=ZN (a.getD 1 0);rw[<-hxx]at g0 y0;rw[<-hyy]at g1 y1;have e1:=mm x;have e2:=Ov x nT;have e3:(y:Int)+((x/67108864:Nat):Int)=((y+x/67108864:Nat):Int):=nT;have e4:((y+x/67108864:Nat):Int)%18446744073709551616=((y+x/67108864:Nat):Int):=nT;have c5:((5:Nat):Int)=5:=rfl;rw[c5]at f4 Xv;simp -implicitDefEqProofs only[go_sem,f0,f4,Xv];refine VS.w (bk+1) [12] (.q 0 (.q 1 (.q 2 (.q 3 (.q 4 (.q 5 (.q 6 (.q 7 (.q 8 (.q 9 (.q 10 (.q 11 (.w 12 .nil))))))))))))) mixed uj ?_;have c1:QQ G ⟨bk,1,Y⟩ (N S (y+x/67108864:Nat))=_:=Yv (f:=uv) hx (i:=1) nT (y+x/67108864) rfl;have Wi:=Yc (o:=R ((a.set 1 (y+x/67108864)).map uv++[]).toArray 192) hx;have xM:(a.set 1 (y+x/67108864)).length=5:=by rw[ba,hln]
  obtain⟨a1,ye⟩:=ZN (a.set 1 (y+x/67108864));rw[<-ye]at Wi xM c1;obtain⟨G1,um⟩:=ZN (G.setIfInBounds bk (R (a1.map uv++[]).toArray 192));rw[<-um]at Wi c1;have g2:=Z6 Wi (i:=0) nT;unfold uv at g2;have g2e:a1.getD 0 0=x:=by rw[ye,Lu Iw,<-hxx]
  rw[g2e]at g2;simp -implicitDefEqProofs only[go_sem,f0,bd,g0,g1,e1,e3,e4,c1];refine VS.w (bk+1) [7] (.q 0 (.q 1 (.q 2 (.q 3 (.q 4 (.q 5 (.q 6 (.w 7 .nil)))))))) mixed uj ?_;have c2:QQ G1 ⟨bk,0,Y⟩ (N S (x%67108864:Nat))=_:=Yv (f:=uv) Wi (i:=0) nT (x%67108864) rfl;simp -implicitDefEqProofs only[go_sem,f0,bd,g2,e2,c2];rw[um,set_set,hG,set_set,ye];exact⟨a,rfl,by rw[<-hxx,<-hyy];rfl⟩
theorem getD_set_ne{j x:Nat}(h:i≠j):(l.set i x).getD j 0=l.getD j 0:=by
 rw[aa,aa,bg h]
def H16:Nat:=256 ^ 16
def Rl:Nat:=4*256 ^ 16-5
def Y3:List Nat->Nat
 | []=>0
 | x :: l=>x+67108864*Y3 l
theorem Lv:Rl=1361129467683753853853498429727072845819:=rfl
theorem iP{a b c d e:Nat}:∃q r0 r1 r2 r3 r4:Nat,QI [a,b,c,d,e] 5=[r0,r1,r2,r3,r4]/\Y3 [a,b,c,d,e]=Y3 [r0,r1,r2,r3,r4]+Rl*q/\r1<67108864/\r2<67108864/\r3<67108864/\r4<67108864/\r0<=67108863+5*q/\q<=(e+(d+(c+(b+a/67108864)/67108864)/67108864)/67108864)/67108864:=by
 refine⟨(e+(d+(c+(b+a/67108864)/67108864)/67108864)/67108864)/67108864,a%67108864+5*((e+(d+(c+(b+a/67108864)/67108864)/67108864)/67108864)/67108864),(b+a/67108864)%67108864,(c+(b+a/67108864)/67108864)%67108864,(d+(c+(b+a/67108864)/67108864)/67108864)%67108864,(e+(d+(c+(b+a/67108864)/67108864)/67108864)/67108864)%67108864,?_,?_,ck _ Iw,ck _ Iw,ck _ Iw,ck _ Iw,nT,a4 _⟩
 .rfl
 .simp only[Y3,Lv];omega
theorem Hm(h:(Q l)=5):∃a b c d e,l=[a,b,c,d,e]:=by
 match l,h with
 | [a,b,c,d,e],_=>exact⟨a,b,c,d,e,rfl⟩
def X3(l:List Nat):List Nat:=((QI l 5).set 1 ((QI l 5).getD 1 0+(QI l 5).getD 0 0/67108864)).set 0 ((QI l 5).getD 0 0%67108864)
theorem YY.Hm{K a b c d e:Nat}(ha:a<K)(hb:b<K)(hc:c<K)(hd:d<K)(he:e<K):YY K [a,b,c,d,e]:=by
 intro x hx;simp only[List.mem_cons,List.not_mem_nil,or_false]at hx;rcases hx with rfl|rfl|rfl|rfl|rfl<;>assumption
theorem YY.ZcT{K a b c d e:Nat}(w:YY K [a,b,c,d,e]):a<K/\b<K/\c<K/\d<K/\e<K:=
 ⟨w a uK,w b uK,w c uK,w d uK,w e uK⟩
theorem Nb(hl:(Q l)=5)(w:YY (2 ^ 61) l):(X3 l).length=5/\YY 134217728 (X3 l)/\Y3 (X3 l)%Rl=Y3 l%Rl/\Y3 (X3 l)<4*H16+2 ^ 44:=by
 obtain⟨a,b,c,d,e,rfl⟩:=Hm hl;obtain⟨wa,wb,wc,wd,we⟩:=w.ZcT;obtain⟨q,r0,r1,r2,r3,r4,hc,hv,h1,h2,h3,h4,h0,hq⟩:=@iP a b c d e;have hL:X3 [a,b,c,d,e]=[r0%67108864,r1+r0/67108864,r2,r3,r4]:=by unfold X3;rw[hc];rfl
 have hq':q<2 ^ 36:=nT;have hr:r0/67108864<8192:=nT;have Hg:Y3 [r0%67108864,r1+r0/67108864,r2,r3,r4]=Y3 [r0,r1,r2,r3,r4]:=by simp only[Y3];omega
 rw[hL];refine⟨rfl,YY.Hm nT nT nT nT nT,?_,?_⟩
 .rw[Hg,hv,bn]
 .rw[Hg];have e16:H16=340282366920938463463374607431768211456:=rfl;rw[e16];have h0':r0<549755813888:=nT;clear hv hc hq hq' hL Hg h0;simp only[Y3];omega
def PA(a b:Nat)(out:List Nat)(i k:Nat):List Nat:=if i+k<5 then out.set (i+k) (out.getD (i+k) 0+a*b) else out.set (i+k-5) (out.getD (i+k-5) 0+5*a*b)
def Ox(a:Nat)(bs out:List Nat)(i:Nat):Nat->List Nat
 | 0=>out
 | k+1=>PA a (bs.getD k 0) (Ox a bs out i k) i k
def VY(xs bs:List Nat):Nat->List Nat
 | 0=>[0,0,0,0,0]
 | i+1=>Ox (xs.getD i 0) bs (VY xs bs i) i 5
theorem Br(a b:Nat)(out:List Nat)(i k:Nat):(PA a b out i k).length=(Q out):=by unfold PA;split<;>simp
theorem So(a:Nat)(bs out:List Nat)(i:Nat):∀k,(Ox a bs out i k).length=(Q out)
 | 0=>rfl
 | k+1=>by rw[Ox,Br,So a bs out i k]
theorem Sp(xs bs:List Nat):∀i,(VY xs bs i).length=5
 | 0=>rfl
 | i+1=>by rw[VY,So,Sp xs bs i]
theorem Kx{a b:Nat}(ha:a<268435456)(hb:b<67108864):a*b<18014398509481984:=
 Nat.lt_of_le_of_lt (Nat.mul_le_mul (cx (show a<268435455+1 from ha)) (cx (show b<67108863+1 from hb))) Iw
theorem G7{a b:Nat}(ha:a<268435456)(hb:b<67108864):5*a*b<90071992547409920:=by
 have:=Kx ha hb;rw[a8];omega
theorem yf{K a b:Nat}{out:List Nat}{k:Nat}(w:YY K out)(hK:0<K)(ha:a<268435456)(hb:b<67108864):YY (K+90071992547409920) (PA a b out i k):=by
 have h1:=Kx ha hb;have h2:=G7 ha hb;have q1:=w.getD hK (i+k);have q2:=w.getD hK (i+k-5);unfold PA;split
 .exact (w.mono nT).set _ _ nT
 .exact (w.mono nT).set _ _ nT
theorem Bt{K a:Nat}{bs out:List Nat}(w:YY K out)(hK:0<K)(ha:a<268435456)(hb:YY 67108864 bs):∀k,YY (K+k*90071992547409920) (Ox a bs out i k)
 | 0=>by rw[cr];exact w
 | k+1=>by
  rw[Ox,Nat.add_mul,Nat.one_mul,<-bC];exact yf (Bt w hK ha hb k) nT ha (hb.getD nT k)
theorem Bu{xs bs:List Nat}(ha:YY 268435456 xs)(hb:YY 67108864 bs):∀i,YY (1+i*450359962737049600) (VY xs bs i)
 | 0=>YY.Hm nT nT nT nT nT
 | i+1=>by
  rw[VY];exact (Bt (Bu ha hb i) nT (ha.getD nT i) hb 5).mono nT
theorem Ky:∀{l:List Nat} {i x:Nat},i<(Q l)->Y3 (l.set i (l.getD i 0+x))=Y3 l+x*67108864 ^ i
 | y :: l,0,x,_=>by simp only[cn,bt,Y3,Nat.pow_zero,Nat.mul_one];omega
 | y :: l,i+1,x,h=>by
  simp only[co,bw,Y3];rw[Ky (l:=l) (i:=i) (x:=x) (by simpa using h),b0,<-a8];omega
theorem X5:67108864 ^ 5=Rl+5:=rfl
theorem Zlq(v a b y P:Nat):(v+5*a*b*y)%P=(v+a*b*(y*(P+5)))%P:=by
 have e:a*b*(y*(P+5))=5*a*b*y+P*(a*b*y):=by
  rw[ca,ca,Nat.add_comm]
  congr 1
  .rw[bl y 5,<-a8,bl (a*b) 5,<-a8 5 a b]
  .rw[bl y P,<-a8,bl (a*b) P,a8]
 rw[e,<-bC,bn]
theorem qf{a b:Nat}{out:List Nat}{k:Nat}(hl:(Q out)=5)(hi:i<5)(hk:k<5):Y3 (PA a b out i k)%Rl=(Y3 out+a*b*67108864 ^ (i+k))%Rl:=by
 unfold PA;split
 .rename_i h;rw[Ky nT]
 .rename_i h;rw[Ky nT];obtain⟨j,hj⟩:∃j,i+k=j+5:=⟨i+k-5,nT⟩
  rw[hj,bx,Nat.pow_add,X5];exact Zlq _ _ _ _ _
def pvn(bs:List Nat):Nat->Nat
 | 0=>0
 | k+1=>pvn bs k+bs.getD k 0*67108864 ^ k
theorem aW{bs:List Nat}(h:(Q bs)=5):pvn bs 5=Y3 bs:=by
 obtain⟨a,b,c,d,e,rfl⟩:=Hm h;simp only[pvn,Y3,bt,bw];omega
theorem aX{a:Nat}{bs out:List Nat}(hl:(Q out)=5)(hi:i<5):∀k,k<=5->Y3 (Ox a bs out i k)%Rl=(Y3 out+a*67108864 ^ i*pvn bs k)%Rl
 | 0,_=>by rw[Ox,pvn,Nat.mul_zero,ct]
 | k+1,hk=>by
  rw[Ox,qf (by rw[So,hl]) hi nT,cd,aX hl hi k nT,<-cd,pvn,ca,<-bC,Nat.pow_add]
  congr 2
  rw[a8,a8 a]
  congr 1
  rw[<-a8,bl (bs.getD k 0),a8]
theorem aY{xs bs:List Nat}(hb:(Q bs)=5):∀i,i<=5->Y3 (VY xs bs i)%Rl=(pvn xs i*Y3 bs)%Rl
 | 0,_=>by rw[pvn,cr];rfl
 | i+1,hi=>by
  rw[VY,aX (Sp xs bs i) nT 5 nT,cd,aY hb i nT,<-cd,aW hb,pvn,Nat.add_mul]
theorem DI{xs bs:List Nat}(ha:(Q xs)=5)(hb:(Q bs)=5)(wa:YY 268435456 xs)(wb:YY 67108864 bs):
  YY (2 ^ 61) (VY xs bs 5)/\(VY xs bs 5).length=5/\Y3 (VY xs bs 5)%Rl=Y3 xs*Y3 bs%Rl:=
 ⟨(Bu wa wb 5).mono Iw,Sp xs bs 5,by rw[aY hb 5 nT,aW ha]⟩
def Nu(m:List Nat):Nat->List Nat
 | 0=>m.set 0 (m.getD 0 0+5)
 | i+1=>((Nu m i).set (i+1) ((Nu m i).getD (i+1) 0+(Nu m i).getD i 0/67108864)).set i ((Nu m i).getD i 0%67108864)
theorem G8(m:List Nat):∀i,(Nu m i).length=(Q m)
 | 0=>by simp[Nu]
 | i+1=>by rw[Nu,ba,ba,G8 m i]
theorem yg{m:List Nat}(w:YY 134217728 m):∀i,i<=10->YY (134217728+6+i*8) (Nu m i)
 | 0,_=>(w.mono nT).set _ _ (by have:=w.getD nT 0;omega)
 | i+1,hi=>by
  have h:=yg w i nT;have q1:=h.getD nT (i+1);have q2:=h.getD nT i;rw[Nu];exact ((h.mono nT).set _ _ nT).set _ _ nT
def Oy(m:List Nat):List Nat:=if (Nu m 4).getD 4 0/67108864=0 then m else (Nu m 4).set 4 ((Nu m 4).getD 4 0%67108864)
theorem Ztf{A B C P:Nat}(h1:A+5=B)(h2:B=C)(h3:C<P+5):A<P:=nT
theorem Ztg{A B C q:Nat}(h1:A+5=B)(h2:B=C+1361129467683753853853498429727072845824*q)(hv:A<1361129467683753853853498429727072845824+2 ^ 44)(h0:¬q=0):q=1:=nT
theorem Zth{A B C P:Nat}(h1:A+5=B)(h2:B=C+(P+5))(hv:A<P+5+2 ^ 44)(hP:2 ^ 45<P):A=C+P*1/\C<P:=nT
theorem qg{m:List Nat}(hl:(Q m)=5)(w:YY 134217728 m)(hv:Y3 m<4*H16+2 ^ 44):(Oy m).length=5/\YY 134217728 (Oy m)/\Y3 (Oy m)=Y3 m%Rl:=by
 obtain⟨a,b,c,d,e,rfl⟩:=Hm hl;obtain⟨wa,wb,wc,wd,we⟩:=w.ZcT;obtain⟨t0,ht0⟩:∃t,t=a+5:=⟨_,rfl⟩
 obtain⟨t1,ht1⟩:∃t,t=b+t0/67108864:=⟨_,rfl⟩
 obtain⟨t2,ht2⟩:∃t,t=c+t1/67108864:=⟨_,rfl⟩
 obtain⟨t3,ht3⟩:∃t,t=d+t2/67108864:=⟨_,rfl⟩
 obtain⟨t4,ht4⟩:∃t,t=e+t3/67108864:=⟨_,rfl⟩
 have hY:Nu [a,b,c,d,e] 4=[t0%67108864,t1%67108864,t2%67108864,t3%67108864,t4]:=by rw[ht4,ht3,ht2,ht1,ht0];rfl
 have hW:Oy [a,b,c,d,e]=if t4/67108864=0 then [a,b,c,d,e] else [t0%67108864,t1%67108864,t2%67108864,t3%67108864,t4%67108864]:=by unfold Oy;rw[hY];rfl
 have e16:H16=340282366920938463463374607431768211456:=rfl;rw[hW];have hs:Y3 [a,b,c,d,e]+5=Y3 [t0%67108864,t1%67108864,t2%67108864,t3%67108864,t4]:=by simp only[Y3];omega
 have hx:Y3 [t0%67108864,t1%67108864,t2%67108864,t3%67108864,t4]=Y3 [t0%67108864,t1%67108864,t2%67108864,t3%67108864,t4%67108864]+(Rl+5)*(t4/67108864):=by rw[Lv];simp only[Y3];omega
 have hb4:Y3 [t0%67108864,t1%67108864,t2%67108864,t3%67108864,t4%67108864]<Rl+5:=by rw[Lv];simp only[Y3];omega
 have hH:4*H16=Rl+5:=rfl;rw[hH]at hv;split
 .rename_i h0;refine⟨rfl,w,?_⟩;rw[h0,Nat.mul_zero,ct]at hx;rw[cy (Ztf hs hx hb4)]
 .rename_i h0;refine⟨rfl,YY.Hm nT nT nT nT nT,?_⟩;have h1:t4/67108864=1:=by
   rw[Lv]at hx hv;exact Ztg hs hx hv h0
  rw[h1,Nat.mul_one]at hx;obtain⟨hk,hC⟩:=Zth hs hx hv (by rw[Lv];decide);rw[hk,bn,cy hC]
theorem aZ(h:Hp)(bk:Nat)(l:List Nat)(hl:(Q l)=5)(w:YY (2 ^ 61) l)(hb:h[bk]? = W (YT l)):
  Zd a9 T 125 #[ab (W ⟨bk,0,Y⟩)] h fun v' h'=>h'=h.setIfInBounds bk (YT (X3 l)):=
 (iO T h bk l hl w hb).mono fun v' h' ⟨a,ha,hh⟩=>by subst ha;exact hh
theorem Bv(hi:i<(Q l)):nth (l.map uv) i=W (N S (l.getD i 0:Nat)):=by
 rw[YW,List.getElem?_map,a6 hi,aa,a6 hi];rfl
theorem Oz{g:Hp}{b:Nat}(hl:(Q l)=5)(hx:g[b]? = W (YT l)):rd g ⟨b,0,Y⟩ 5=W (l.map uv):=by
 unfold YT at hx;rw[a7]at hx;exact Zz hx (by simpa using hl)
set_option maxHeartbeats 1000000 in
theorem bi(h:Hp)(xs bs:List Nat)(ha:(Q xs)=5)(hb:(Q bs)=5)(wa:YY 268435456 xs)(wb:YY 67108864 bs):
  Zd a9 T 99 #[ao (xs.map uv).toArray,ao (bs.map uv).toArray] h fun v' h'=>v'=ao ((X3 (VY xs bs 5)).map uv).toArray/\Zj h.size h h':=by
 have la:(xs.map uv).length=5:=by simpa using ha
 have lb:(bs.map uv).length=5:=by simpa using hb
 have ta:(xs.map uv).take 5=xs.map uv:=bf nT;refine Zd.XT [_,_] Tryz.func99 ?_;simp -implicitDefEqProofs only[go_sem,la,lb,ta];obtain⟨H,hH⟩:=ZN (((((h.push (R (xs.map uv).toArray 192)).push (R (bs.map uv).toArray 192)).push (R #[N S 0,N S 0,N S 0,N S 0,N S 0] 192)).push (R #[N S 0,N S 0,N S 0,N S 0,N S 0] 192)):Hp);have HB:Zj h.size h H:=by rw[hH];exact (((Zj.push (a4 _) _).YU uK _).YU Ig _).YU Ig _
 have Hs:H.size=h.size+1+1+1+1:=by rw[hH];simp
 have H1:H[h.size+1]? = W (YT bs):=by
  rw[hH,ZI uK,ZI uK];have:=Zc (h:=h.push (R (xs.map uv).toArray 192)) (o:=R (bs.map uv).toArray 192);rw[am]at this;rw[this];unfold YT;rw[a7]
 have H3:H[h.size+1+1+1]? = W (YT (VY xs bs 0)):=by
  have:=Zc (h:=(((h.push (R (xs.map uv).toArray 192)).push (R (bs.map uv).toArray 192)).push (R #[N S 0,N S 0,N S 0,N S 0,N S 0] 192))) (o:=R #[N S 0,N S 0,N S 0,N S 0,N S 0] 192);rw[am,am,am]at this;rw[hH,this];rfl
 have H2:H[h.size+1+1]? = W (YT [0,0,0,0,0]):=by
  have:=Zc (h:=((h.push (R (xs.map uv).toArray 192)).push (R (bs.map uv).toArray 192))) (o:=R #[N S 0,N S 0,N S 0,N S 0,N S 0] 192);rw[am,am]at this;rw[hH,ZI uK,this];rfl
 rw[<-hH];clear hH;obtain⟨bo,hbo⟩:=ZN (h.size+1+1+1);obtain⟨br,hbr⟩:=ZN (h.size+1+1);obtain⟨bb,T5⟩:=ZN (h.size+1);rw[<-hbo]at H3 ⊢;rw[<-hbr]at H2 ⊢;rw[<-T5]at H1 ⊢;refine VS.Yk (fun F g=>F 3=ab (W ⟨bb,0,Y⟩)/\F 4=ab (W ⟨br,0,Y⟩)/\F 5=ab (W ⟨bo,0,Y⟩)/\F 10=ao (xs.map uv).toArray/\∃i:Nat,i<=5/\F 11=N O i/\g=H.setIfInBounds bo (YT (VY xs bs i)))
  (fun F _=>5-(vi (F 11)).toNat) rfl ⟨rfl,rfl,rfl,rfl,0,nT,rfl,(Vo H3).symm⟩ ?_
 rintro F g ⟨f3,f4,f5,f10,i,hi,f11,rfl⟩;by_cases ZS:i<5
 .have Z7:(i:Int)<5:=nT;have n1:=Bv (l:=xs) (i:=i) nT;have H1':(H.setIfInBounds bo (YT (VY xs bs i)))[bb]? = W (YT bs):=by rw[U,if_neg nT];exact H1
  have r1:=Oz hb H1';have wA:=wa.getD nT i;have ZgV:VY xs bs (i+1)=Ox (xs.getD i 0) bs (VY xs bs i) i 5:=rfl;obtain⟨a,hax⟩:=ZN (xs.getD i 0);rw[<-hax]at n1 wA ZgV;simp -implicitDefEqProofs only[go_sem,f3,f4,f5,f10,f11,Z7,a0,n1,r1];have wO:YY (1+i*450359962737049600) (VY xs bs i):=Bu wa wb i;have lO:=Sp xs bs i;obtain⟨o,ho⟩:=ZN (VY xs bs i);rw[<-ho]at ZgV wO lO ⊢;refine VS.Yk (fun F g=>F 3=ab (W ⟨bb,0,Y⟩)/\F 4=ab (W ⟨br,0,Y⟩)/\F 5=ab (W ⟨bo,0,Y⟩)/\F 10=ao (xs.map uv).toArray/\F 11=N O i/\F 6=N O i/\F 7=N S a/\F 15=ao (bs.map uv).toArray/\∃k:Nat,k<=5/\F 16=N O k/\g=H.setIfInBounds bo (YT (Ox a bs o i k)))
   (fun F _=>5-(vi (F 16)).toNat) rfl ⟨f3,f4,f5,f10,f11,rfl,rfl,rfl,0,nT,rfl,rfl⟩ ?_
  clear f3 f4 f5 f10 f11 F;rintro F g ⟨f3,f4,f5,f10,f11,f6,f7,f15,k,hk,f16,rfl⟩;by_cases hlk:k<5
  .have Zls:(k:Int)<5:=nT;have n2:=Bv (l:=bs) (i:=k) nT;have wB:=wb.getD nT k;have PB:Ox a bs o i (k+1)=PA a (bs.getD k 0) (Ox a bs o i k) i k:=rfl;obtain⟨b,hbx⟩:=ZN (bs.getD k 0);rw[<-hbx]at n2 wB PB;have wR:=Bt wO nT wA wb (i:=i) k;have lR:(Ox a bs o i k).length=5:=by rw[So,lO]
   have hx:(H.setIfInBounds bo (YT (Ox a bs o i k)))[bo]? = W (YT (Ox a bs o i k)):=Yc H3;have hp:=Kx wA wB;have hp5:=G7 wA wB;obtain⟨r,hr⟩:=ZN (Ox a bs o i k);rw[<-hr]at PB wR lR hx ⊢;obtain⟨G,hG⟩:=ZN (H.setIfInBounds bo (YT r));rw[<-hG]at hx ⊢;have eik:(i:Int)+(k:Int)=((i+k:Nat):Int):=rfl;by_cases h5:i+k<5
   .have h5':((i+k:Nat):Int)<5:=nT;have g1:=Z6 hx (i:=i+k) nT;have y1:=wR.getD nT (i+k);unfold uv at g1;have hs:PA a b r i k=r.set (i+k) (r.getD (i+k) 0+a*b):=by unfold PA;rw[if_pos h5]
    rw[hs]at PB;obtain⟨y,hy⟩:=ZN (r.getD (i+k) 0);rw[<-hy]at g1 y1 PB;have e1:(a:Int)*(b:Int)=((a*b:Nat):Int):=(cA a b).symm;have e2:((a*b:Nat):Int)%18446744073709551616=((a*b:Nat):Int):=nT;obtain⟨p,hp'⟩:=ZN (a*b);rw[<-hp']at e1 e2 hp PB;have e3:(y:Int)+(p:Int)=((y+p:Nat):Int):=rfl;have e4:((y+p:Nat):Int)%18446744073709551616=((y+p:Nat):Int):=nT;have c1:QQ G ⟨bo,i+k,Y⟩ (N S (y+p:Nat))=_:=Yv (f:=uv) hx (i:=i+k) nT (y+p) rfl;simp -implicitDefEqProofs only[go_sem,f3,f4,f5,f6,f7,f10,f11,f15,f16,Zls,a0,n2,eik,h5',g1,e1,e2,e3,e4,c1];refine⟨⟨f3,f4,f5,f10,f11,f6,f7,f15,k+1,hlk,rfl,?_⟩,?_⟩
    .rw[hG,set_set,PB];rfl
    .simp only[vi,Zq,↓reduceIte,f16];omega
   .have h5':¬((i+k:Nat):Int)<5:=nT;have g1:=Z6 hx (i:=i+k-5) nT;have y1:=wR.getD nT (i+k-5);unfold uv at g1;have hs:PA a b r i k=r.set (i+k-5) (r.getD (i+k-5) 0+5*a*b):=by unfold PA;rw[if_neg h5]
    rw[hs]at PB;obtain⟨y,hy⟩:=ZN (r.getD (i+k-5) 0);rw[<-hy]at g1 y1 PB;have e0:(5:Int)*(a:Int)=((5*a:Nat):Int):=rfl;have e0':((5*a:Nat):Int)%18446744073709551616=((5*a:Nat):Int):=nT;have e1:((5*a:Nat):Int)*(b:Int)=((5*a*b:Nat):Int):=(cA (5*a) b).symm;have e2:((5*a*b:Nat):Int)%18446744073709551616=((5*a*b:Nat):Int):=nT;obtain⟨p,hp'⟩:=ZN (5*a*b);rw[<-hp']at e1 e2 hp5 PB;have e3:(y:Int)+(p:Int)=((y+p:Nat):Int):=rfl;have e4:((y+p:Nat):Int)%18446744073709551616=((y+p:Nat):Int):=nT;have e5:((i+k:Nat):Int)-5=((i+k-5:Nat):Int):=nT;have e6:((i+k-5:Nat):Int)<5:=nT;have c1:QQ G ⟨bo,i+k-5,Y⟩ (N S (y+p:Nat))=_:=Yv (f:=uv) hx (i:=i+k-5) nT (y+p) rfl;simp -implicitDefEqProofs only[go_sem,f3,f4,f5,f6,f7,f10,f11,f15,f16,Zls,a0,n2,eik,h5',g1,e0,e0',e1,e2,e3,e4,e5,e6,c1];refine⟨⟨f3,f4,f5,f10,f11,f6,f7,f15,k+1,hlk,rfl,?_⟩,?_⟩
    .rw[hG,set_set,PB];rfl
    .simp only[vi,Zq,↓reduceIte,f16];omega
  .have Xv:¬(k:Int)<5:=nT;obtain rfl:k=5:=nT;have c5:((5:Nat):Int)=5:=rfl;rw[c5]at f16 Xv;simp -implicitDefEqProofs only[go_sem,f3,f4,f5,f10,f11,f16,Xv];refine⟨⟨f3,f4,f5,f10,i+1,ZS,rfl,?_⟩,?_⟩
   .rw[ZgV]
   .simp only[vi,Zq,↓reduceIte,f11];omega
 .have Xv:¬(i:Int)<5:=nT;obtain rfl:i=5:=nT;have c5:((5:Nat):Int)=5:=rfl;rw[c5]at f11 Xv;have hx:(H.setIfInBounds bo (YT (VY xs bs 5)))[bo]? = W (YT (VY xs bs 5)):=Yc H3;have Mj:(H.setIfInBounds bo (YT (VY xs bs 5)))[br]? = W (YT [0,0,0,0,0]):=by rw[U,if_neg nT];exact H2
  have HB2:Zj h.size h (H.setIfInBounds bo (YT (VY xs bs 5))):=HB.Zs nT _;obtain⟨w1,w2,w3⟩:=DI ha hb wa wb;obtain⟨o,ho⟩:=ZN (VY xs bs 5);rw[<-ho]at hx Mj HB2 w1 w2 ⊢;generalize H.setIfInBounds bo (YT o)=G at *;simp -implicitDefEqProofs only[go_sem,f3,f4,f5,f10,f11,Xv];refine (aZ T G bo o w2 w1 hx).use ?_;rintro _ _ rfl;obtain⟨m1,m2,m3⟩:=Nb w2 w1;have iQ:(G.setIfInBounds bo (YT (X3 o)))[bo]? = W (YT (X3 o)):=Yc hx;have fB:(G.setIfInBounds bo (YT (X3 o)))[br]? = W (YT [0,0,0,0,0]):=by rw[U,if_neg nT];exact Mj
  have HB3:Zj h.size h (G.setIfInBounds bo (YT (X3 o))):=HB2.Zs nT _;generalize G.setIfInBounds bo (YT (X3 o))=G2 at *;have r3:=Oz m1 iQ;have lc:((X3 o).map uv).length=5:=by simpa using m1
  have w4:=Yd (h:=G2) (b:=br) (l:=([0,0,0,0,0].map uv)) (by unfold YT at fB;rw[a7]at fB;exact fB) 0 ((X3 o).map uv);have ho4:((X3 o).map uv).all YD=true:=by simp[uv,YD]
  rw[if_pos ⟨by simp[lc],ho4⟩,Z4 (by simp[lc])]at w4;have tc:((X3 o).map uv).take 5=(X3 o).map uv:=bf nT;have hlr:=Za fB;simp -implicitDefEqProofs only[go_sem,f3,f4,f5,r3,w4,lc,tc,hlr];exact HB3.Zs nT _
theorem bj(h:Hp)(xs:List Nat)(ha:(Q xs)=5)(wa:YY 268435456 xs):
  Zd a9 T 100 #[ao (xs.map uv).toArray] h fun v' h'=>v'=ao ((Oy (X3 xs)).map uv).toArray/\Zj h.size h h':=by
 have la:(xs.map uv).length=5:=by simpa using ha
 refine Zd.XT [_] Tryz.func100 ?_;simp -implicitDefEqProofs only[go_sem,la];obtain⟨H,hH⟩:=ZN (((h.push (R (xs.map uv).toArray 192)).push (R #[N S 0,N S 0,N S 0,N S 0,N S 0] 192)):Hp);have HB:Zj h.size h H:=by rw[hH];exact ((Zj.push (a4 _) _).YU uK _)
 have Hs:H.size=h.size+1+1:=by rw[hH];simp
 have H0:H[h.size]? = W (YT xs):=by
  rw[hH,ZI uK,Zc];unfold YT;rw[a7]
 have H1:H[h.size+1]? = W (YT [0,0,0,0,0]):=by
  have:=Zc (h:=(h.push (R (xs.map uv).toArray 192))) (o:=R #[N S 0,N S 0,N S 0,N S 0,N S 0] 192);rw[am]at this;rw[hH,this];rfl
 rw[<-hH];clear hH;refine (aZ T H h.size xs ha (wa.mono Iw) H0).use ?_;rintro _ _ rfl;obtain⟨m1,m2,m3,m4⟩:=Nb ha (wa.mono Iw);have O3:(H.setIfInBounds h.size (YT (X3 xs)))[h.size]? = W (YT (X3 xs)):=Yc H0;have Wi:(H.setIfInBounds h.size (YT (X3 xs)))[h.size+1]? = W (YT [0,0,0,0,0]):=by rw[U,if_neg nT];exact H1
 have HB2:Zj h.size h (H.setIfInBounds h.size (YT (X3 xs))):=HB.Zs (a4 _) _;have Hs2:(H.setIfInBounds h.size (YT (X3 xs))).size=h.size+1+1:=by rw[a5];exact Hs
 obtain⟨m,hm⟩:=ZN (X3 xs);rw[<-hm]at O3 Wi HB2 Hs2 m1 m2 m3 m4 ⊢;generalize H.setIfInBounds h.size (YT m)=G at *;have r0:=Oz m1 O3;have lm:(m.map uv).length=5:=by simpa using m1
 have hom:(m.map uv).all YD=true:=by simp[uv,YD]
 have lp:Y8 [Value.int S 0,N S 0,N S 0,N S 0,N S 0] 0 (m.map uv)=m.map uv:=Z4 lm;have n0:=Bv (l:=m) (i:=0) nT;have y0:=m2.getD nT 0;have hw0:Nu m 0=m.set 0 (m.getD 0 0+5):=rfl;obtain⟨y,hy⟩:=ZN (m.getD 0 0);rw[<-hy]at n0 y0 hw0;have e1:(y:Int)+5=((y+5:Nat):Int):=rfl;have e2:((y+5:Nat):Int)%18446744073709551616=((y+5:Nat):Int):=nT;simp -implicitDefEqProofs only[go_sem,r0,lm,hom,Hs2,lp,n0,e1,e2];have hms:(m.map uv).set 0 (N S (y+5:Nat))=(m.set 0 (y+5)).map uv:=by rw[List.map_set];rfl
 rw[hms,<-hw0];obtain⟨J,hJ⟩:=ZN (G.push (R ((Nu m 0).map uv).toArray 192));have J3:J[h.size+1+1]? = W (YT (Nu m 0)):=by
  rw[hJ,<-Hs2,Zc];unfold YT;rw[a7]
 have J0:J[h.size]? = W (YT m):=by rw[hJ,ZI nT];exact O3
 have J1:J[h.size+1]? = W (YT [0,0,0,0,0]):=by rw[hJ,ZI nT];exact Wi
 have JB:Zj h.size h J:=by rw[hJ];exact HB2.YU nT _
 rw[<-hJ];clear hJ;obtain⟨b3,hb3⟩:∃b,b=h.size+1+1:=⟨_,rfl⟩
 obtain⟨b2,HI⟩:∃b,b=h.size+1:=⟨_,rfl⟩
 rw[<-hb3]at J3 ⊢;rw[<-HI]at J1 ⊢;refine VS.Yk (fun F g=>F 1=ab (W ⟨h.size,0,Y⟩)/\F 2=ab (W ⟨b2,0,Y⟩)/\F 3=ab (W ⟨b3,0,Y⟩)/\∃i:Nat,i<=4/\F 11=N O i/\g=J.setIfInBounds b3 (YT (Nu m i)))
  (fun F _=>4-(vi (F 11)).toNat) rfl ⟨rfl,rfl,rfl,0,nT,rfl,(Vo J3).symm⟩ ?_
 rintro F g ⟨f1,f2,f3,i,hi,f11,rfl⟩;have hx:(J.setIfInBounds b3 (YT (Nu m i)))[b3]? = W (YT (Nu m i)):=Yc J3;have wY:=yg m2 i nT;have lY:(Nu m i).length=5:=by rw[G8,m1]
 by_cases ZS:i<4
 .have Z7:(i:Int)<4:=nT;have XE:Nu m (i+1)=((Nu m i).set (i+1) ((Nu m i).getD (i+1) 0+(Nu m i).getD i 0/67108864)).set i ((Nu m i).getD i 0%67108864):=rfl;obtain⟨r,hr⟩:=ZN (Nu m i);rw[<-hr]at hx wY lY XE ⊢;obtain⟨G1,um⟩:=ZN (J.setIfInBounds b3 (YT r));rw[<-um]at hx ⊢;have g1:=Z6 hx (i:=i+1) nT;have g0:=Z6 hx (i:=i) nT;have q1:=wY.getD nT (i+1);have q0:=wY.getD nT i;unfold uv at g0 g1;obtain⟨a,hax⟩:=ZN (r.getD i 0);obtain⟨b,hbx⟩:=ZN (r.getD (i+1) 0);rw[<-hax]at g0 q0 XE;rw[<-hbx]at g1 q1 XE;have s1:=mm a;have s2:=Ov a nT;have t1:(b:Int)+((a/67108864:Nat):Int)=((b+a/67108864:Nat):Int):=rfl;have t2:((b+a/67108864:Nat):Int)%18446744073709551616=((b+a/67108864:Nat):Int):=nT;have ei:(i:Int)+1=((i+1:Nat):Int):=rfl;have Kz:((i+1:Nat):Int)<5:=nT;have Ztl:(i:Int)<5:=nT;have c1:QQ G1 ⟨b3,i+1,Y⟩ (N S (b+a/67108864:Nat))=_:=Yv (f:=uv) hx (i:=i+1) nT (b+a/67108864) rfl;have Bw:=Yc (o:=R ((r.set (i+1) (b+a/67108864)).map uv++[]).toArray 192) hx;have l1:(r.set (i+1) (b+a/67108864)).length=5:=by rw[ba,lY]
  have v1:(r.set (i+1) (b+a/67108864)).getD i 0=a:=by rw[Lu nT,<-hax]
  obtain⟨r1,HU⟩:=ZN (r.set (i+1) (b+a/67108864));rw[<-HU]at c1 Bw l1 v1 XE;obtain⟨G2,md⟩:=ZN (G1.setIfInBounds b3 (R (r1.map uv++[]).toArray 192));rw[<-md]at c1 Bw;have g2:=Z6 Bw (i:=i) nT;unfold uv at g2;rw[v1]at g2;have c2:QQ G2 ⟨b3,i,Y⟩ (N S (a%67108864:Nat))=_:=Yv (f:=uv) Bw (i:=i) nT (a%67108864) rfl;simp -implicitDefEqProofs only[go_sem,f1,f2,f3,f11,Z7];refine VS.w (b3+1) [10] (.q 0 (.q 1 (.q 2 (.q 3 (.q 4 (.q 5 (.q 6 (.q 7 (.q 8 (.q 9 (.w 10 .nil))))))))))) mixed uj ?_;simp -implicitDefEqProofs only[go_sem,f1,f2,f3,f11,ei,Kz,Ztl,a0,bd,g0,g1,s1,t1,t2,c1,g2,s2,c2];refine⟨⟨f1,f2,f3,i+1,ZS,rfl,?_⟩,?_⟩
  .rw[md,set_set,um,set_set,XE];rfl
  .simp only[vi,Zq,↓reduceIte,f11];omega
 .have Xv:¬(i:Int)<4:=nT;obtain rfl:i=4:=nT;have c4:((4:Nat):Int)=4:=rfl;rw[c4]at f11 Xv;have hW:Oy m=if (Nu m 4).getD 4 0/67108864=0 then m else (Nu m 4).set 4 ((Nu m 4).getD 4 0%67108864):=rfl
  have iR:(J.setIfInBounds b3 (YT (Nu m 4)))[h.size]? = W (YT m):=by rw[U,if_neg nT];exact J0
  have Bw:(J.setIfInBounds b3 (YT (Nu m 4)))[b2]? = W (YT [0,0,0,0,0]):=by rw[U,if_neg nT];exact J1
  have HB3:Zj h.size h (J.setIfInBounds b3 (YT (Nu m 4))):=JB.Zs nT _;obtain⟨r,hr⟩:=ZN (Nu m 4);rw[<-hr]at hx wY lY iR Bw HB3 hW ⊢;generalize J.setIfInBounds b3 (YT r)=G1 at *;have g4:=Z6 hx (i:=4) nT;have q4:=wY.getD nT 4;unfold uv at g4;obtain⟨a,hax⟩:=ZN (r.getD 4 0);rw[<-hax]at g4 q4 hW;have s1:=mm a;have s2:=Ov a nT;have w4:=fun (k:List Nat) (hk:(Q k)=5)=>Yd (h:=G1) (b:=b2) (l:=([0,0,0,0,0].map uv)) (by unfold YT at Bw;rw[a7]at Bw;exact Bw) 0 (k.map uv);have h2s:=Za Bw;by_cases h0:a/67108864=0
  .have h0':((a/67108864:Nat):Int)=0:=nT;rw[if_pos h0]at hW;have w5:=w4 m m1;rw[if_pos ⟨by simp[lm],hom⟩,Z4 (by simp[lm])]at w5;have r1:=Oz m1 iR;have tm:(m.map uv).take 5=m.map uv:=bf nT;simp -implicitDefEqProofs only[go_sem,f1,f2,f3,f11,Xv,g4,s1,h0',r1,w5,lm,tm,h2s];exact⟨by rw[hW],HB3.Zs nT _⟩
  .have h0':¬((a/67108864:Nat):Int)=0:=nT;rw[if_neg h0]at hW;have c1:QQ G1 ⟨b3,4,Y⟩ (N S (a%67108864:Nat))=_:=Yv (f:=uv) hx (i:=4) nT (a%67108864) rfl;have hz:=Yc (o:=R ((r.set 4 (a%67108864)).map uv++[]).toArray 192) hx;have l1:(r.set 4 (a%67108864)).length=5:=by rw[ba,lY]
   have HB4:Zj h.size h (G1.setIfInBounds b3 (R ((r.set 4 (a%67108864)).map uv++[]).toArray 192)):=HB3.Zs nT _;have iS:(G1.setIfInBounds b3 (R ((r.set 4 (a%67108864)).map uv++[]).toArray 192))[b2]? = W (YT [0,0,0,0,0]):=by rw[U,if_neg nT];exact Bw
   rw[hW];obtain⟨r1,HU⟩:=ZN (r.set 4 (a%67108864));rw[<-HU]at c1 hz l1 HB4 iS ⊢;generalize G1.setIfInBounds b3 (R (r1.map uv++[]).toArray 192)=G2 at *;have r4:=Oz l1 hz;have lr:(r1.map uv).length=5:=by simpa using l1
   have hor:(r1.map uv).all YD=true:=by simp[uv,YD]
   have w5:=Yd (h:=G2) (b:=b2) (l:=([0,0,0,0,0].map uv)) (by unfold YT at iS;rw[a7]at iS;exact iS) 0 (r1.map uv);rw[if_pos ⟨by simp[lr],hor⟩,Z4 (by simp[lr])]at w5;have tm:(r1.map uv).take 5=r1.map uv:=bf nT;have Ztm:=Za iS;simp -implicitDefEqProofs only[go_sem,f1,f2,f3,f11,Xv,g4,s1,s2,h0',bd,c1,r4,w5,lr,tm,Ztm];exact HB4.Zs nT _
def yh(key:List Nat)(i:Nat):Nat:=if i%4=3 then key.getD i 0%16 else if i%4=0/\0<i then key.getD i 0/4*4 else key.getD i 0
def Qr(key:List Nat):List Nat:=(cB 16).map (yh key)
def Zlu(data:List Nat)(k:Nat):List Nat:=(data.drop (16*k)).take 16++[1]
def yi(r:Nat)(data:List Nat):Nat->Nat
 | 0=>0
 | k+1=>(yi r data k+XX (Zlu data k))*r%Rl
def ZcV(key data:List Nat):Nat:=yi (XX (Qr key)) data (((Q data)+15)/16)+XX ((key.drop 16).take 16)
def iU(key data:List Nat):List Nat:=(cB 16).map fun i=>ZcV key data/256 ^ i%256
theorem EW(key:List Nat):(Qr key).length=16:=by simp[Qr]
theorem Sq(key data:List Nat):(iU key data).length=16:=by simp[iU]
theorem Nc{h:Hp}{p:Option Addr}{c n:Nat}(s:Bs h (X p n c) l){m:Nat}(hm:m<=(Q l))(c':Nat):Bs h (X p m c') (l.take m):=by
 refine⟨?_,fun x hx=>s.byte x (List.mem_of_mem_take hx)⟩;obtain⟨p',cap,hv,hl,hc⟩:=s.sl;simp only[Value.slice.injEq]at hv;obtain⟨rfl,_,rfl⟩:=hv;refine⟨_,c',by rw[bh,Nat.min_eq_left hm],uK,fun Y4=>?_⟩;obtain⟨b,o,rfl,XI⟩:=hc (by intro e;simp at e;subst e;simp at Y4);refine⟨b,o,rfl,fun i hi=>?_⟩;have HN:i<m/\i<(Q l):=by rw[List.length_map,bh]at hi;omega
 rw[XI i Ig];simp
theorem ZgY{h:Hp}{p:Option Addr}{c n:Nat}(s:Bs h (X p n c) l)(hn:(Q l)=n){k m:Nat}(hk:k+m<=n)(Vk:n<=c)(c':Nat):Bs h (X (iz p 1 c k) m c') ((l.drop k).take m):=
 Nc (O0 s hn (k:=k) (by omega) Vk c') (by rw[be];omega) c'
def SL(key data:List Nat):Int:=if (Q key)≠32\/4000<(Q data) then 1 else 0
def yj(B:Nat)(h:Hp)(v:aw)(key data:List Nat):Prop:=∃w,v=.tuple #[w,N O (SL key data)]/\Yx B 5 h w (if SL key data=0 then iU key data else [])
def JO:List (Option IntKind):=rep 32 [W O]++rep 8 [Y]
theorem Vp:∀{ks:List (Option IntKind)} {vs:List aw} (i:Nat) (v:aw),Xa ks vs=true->(∀k,ks[i]? = W k->VB k v=true)->Xa ks (vs.set i v)=true:=by
 intro ks
 induction ks with
 | nil=>intro vs i v h _;cases vs<;>simp[Xa]at h ⊢
 | cons k ks ih=>
  intro vs i v h hk
  cases vs with
  | nil=>simp[Xa]at h
  | cons x vs=>
   simp only[Xa,bR]at h
   cases i with
   | zero=>simp only[cn,Xa,bR];exact⟨hk k rfl,h.2⟩
   | succ i=>simp only[co,Xa,bR];exact⟨h.1,ih i v h.2 (fun k' NE=>hk k' (by simpa using NE))⟩
theorem UM(hi:i<32)(n:Int):∀k,JO[i]? = W k->VB k (N O n)=true:=by
 intro k hk;have:∀i<32,JO[i]? = W (W O):=Iw;rw[this i hi]at hk;obtain rfl:=Option.some.inj hk;rfl
theorem bm(h1:32<=i)(b:Bool):∀k,JO[i]? = W k->VB k (al b)=true:=by
 intro k hk;have:∀j<8,JO[32+j]? = W Y:=Iw;by_cases h2:i<40
 .have:=this (i-32) nT;rw[show 32+(i-32)=i by omega]at this;rw[this]at hk;obtain rfl:=Option.some.inj hk;rfl
 .rw[b7 (by show 40<=i;omega)]at hk;cases hk
theorem G9{g:Hp}{b:Nat}{o:Obj}(hx:g[b]? = W o):g.setIfInBounds b o=g:=by
 apply Array.ext_getElem?;intro i;rw[U];by_cases hb:b=i
 .subst hb;rw[if_pos rfl,if_pos (Za hx),hx]
 .rw[if_neg hb]
structure Zlv where
 cells:List aw
 code:Int
 val:Int
def Wg(cs:List aw)(k c n v:Nat):List aw × Int:=
 if k=1 then (cs.set n (N O v),v) else if k=2 then (cs,ci cs n) else (cs.set (32+n) (al true),0)
def QA(cs:List aw)(k c s n v:Nat):Zlv:=
 if k=0 then ⟨cs,0,0⟩ else
 if (s:Int)+1=ci cs (8+c) then ⟨cs,ci cs (16+c*2),ci cs (16+c*2+1)⟩ else
 if (s:Int)<ci cs (8+c) then ⟨cs,7,0⟩ else
 if cb cs (32+c)=true then ⟨cs,11,0⟩ else
 ⟨((((Wg cs k c n v).1.set (8+c) (N O ((s:Int)+1))).set (16+c*2) (N O 0)).set (16+c*2+1) (N O (Wg cs k c n v).2)),0,(Wg cs k c n v).2⟩
def OB(cs:List aw)(k c s n v:Int):Int:=if Xq cs=true then 5 else Y0 k c s n v
def Yy:List aw:=rep 32 [Value.int O 0]++rep 8 [Value.bool false]
def doL(cs:List aw)(k c s n v:Int):List aw:=
 if OB cs k c s n v=0 then [ao (QA cs k.toNat c.toNat s.toNat n.toNat v.toNat).cells.toArray,ao [N O (QA cs k.toNat c.toNat s.toNat n.toNat v.toNat).code,N O (QA cs k.toNat c.toNat s.toNat n.toNat v.toNat).val].toArray,N O 0]
  else [ao Yy.toArray,ao [N O 0,N O 0].toArray,N O (OB cs k c s n v)]
def yk(v':aw)(cs:List aw)(k c s n v:Int):Prop:=v'=.tuple (doL cs k c s n v).toArray
theorem Jr{k c s n v:Int}(h:Y0 k c s n v=0):∃k' c' s' n' v':Nat,k=k'/\c=c'/\s=s'/\n=n'/\v=v'/\k'<=3/\c'<=7/\s'<=1048576/\n'<=7/\v'<=1073741824:=by
 have:0<=k/\k<=3/\0<=c/\c<=7/\0<=s/\s<=1048576/\0<=n/\n<=7/\0<=v/\v<=1073741824:=by
  unfold Y0 at h
  repeat' split at h
  all_goals omega
 exact⟨k.toNat,c.toNat,s.toNat,n.toNat,v.toNat,nT,nT,nT,nT,nT,nT,nT,nT,nT,nT⟩
theorem Qb{cs:List aw}{j:Nat}{x:aw}(h:i≠j):ci (cs.set i x) j=ci cs j:=by
 unfold ci;rw[YW,YW,bg h]
theorem ints_set{cs:List aw}{j:Nat}(hj:j<(Q cs))(x:Int)(hi:∀i,i<32->nth cs i=W (N O (ci cs i))):∀i,i<32->nth (cs.set j (N O x)) i=W (N O (ci (cs.set j (N O x)) i)):=by
 intro i h32;by_cases e:j=i
 .subst e;have:nth (cs.set j (N O x)) j=W (N O x):=by rw[YW,b6 hj]
  unfold ci;rw[this]
 .rw[Qb e,YW,bg e,<-YW];exact hi i h32
theorem qh(cs:List aw)(k c n v:Nat)(x:aw)(hn:n<=7)(hc:c<=7):Wg (cs.set (8+c) x) k c n v=((Wg cs k c n v).1.set (8+c) x,(Wg cs k c n v).2):=by
 unfold Wg;by_cases k1:k=1
 .rw[if_pos k1,if_pos k1,cL _ _ nT]
 .rw[if_neg k1,if_neg k1];by_cases k2:k=2
  .rw[if_pos k2,if_pos k2,Qb nT]
  .rw[if_neg k2,if_neg k2,cL _ _ nT]
theorem bq{cs:List aw}(hf:Xa JO cs=true)(k c n v:Nat)(hn:n<=7):Xa JO (Wg cs k c n v).1=true:=by
 unfold Wg;by_cases k1:k=1
 .rw[if_pos k1];exact Vp n _ hf (UM nT _)
 .rw[if_neg k1];by_cases k2:k=2
  .rw[if_pos k2];exact hf
  .rw[if_neg k2];exact Vp (32+n) _ hf (bm nT _)
theorem DJ{cs:List aw}(hf:Xa JO cs=true)(k c s n v:Nat)(hn:n<=7)(hc:c<=7):Xa JO (QA cs k c s n v).cells=true:=by
 unfold QA
 repeat' split
 all_goals first|exact hf|skip
 exact Vp _ _ (Vp _ _ (Vp _ _ (bq hf k c n v hn) (UM nT _)) (UM nT _)) (UM nT _)
theorem bu(h:Hp)(b:Nat)(cs:List aw)(k c s n v:Nat)(hl:(Q cs)=40)(hi:∀i,i<32->nth cs i=W (N O (ci cs i)))(hn:n<=7)(hk:1<=k)(hk3:k<=3)(hx:h[b]? = W (R cs.toArray 52)):
  Zd a9 T 38 #[ab (W ⟨b,0,Y⟩),ao (Uy k c s n v).toArray] h fun v' h'=>v'=ao [N O 0,N O (Wg cs k c n v).2].toArray/\Zj h.size (h.setIfInBounds b (R (Wg cs k c n v).1.toArray 52)) h':=by
 refine Zd.XT [_,_] Tryz.func38 ?_;have hb:=Za hx;have hn8:(n:Int)<8:=nT;unfold Uy Wg;by_cases k1:k=1
 .subst k1;simp +contextual -implicitDefEqProofs only[go_sem];refine VS.w (h.size+2) [8] (.q 0 (.q 1 (.q 2 (.q 3 (.q 4 (.q 5 (.q 6 (.q 7 (.w 8 .nil))))))))) mixed uj ?_;have w1:=Xh hx n (N O v);rw[if_pos ⟨nT,rfl⟩]at w1;have nn:nth (cs.set n (N O (v:Int))) n=W (N O v):=by rw[YW,b6 nT]
  simp +contextual -implicitDefEqProofs only[go_sem,hn8,w1,hb];refine VS.w (h.size+2) [8] (.q 0 (.q 1 (.q 2 (.q 3 (.q 4 (.q 5 (.q 6 (.q 7 (.w 8 .nil))))))))) mixed uj ?_;simp +contextual -implicitDefEqProofs only[go_sem,hn8,hb,nn]
  try exact ((Zj.push uK _).YU uK _)
 .by_cases k2:k=2
  .subst k2;have nn:=hi n nT;have x1:hc h ⟨b,n,Y⟩=W (N O (ci cs n)):=by rw[Zl hx];exact nn
   have hsb:=G9 hx;simp +contextual -implicitDefEqProofs only[go_sem,hsb];refine VS.w (h.size+2) [8] (.q 0 (.q 1 (.q 2 (.q 3 (.q 4 (.q 5 (.q 6 (.q 7 (.w 8 .nil))))))))) mixed uj ?_;simp +contextual -implicitDefEqProofs only[go_sem,hn8,hb,x1]
  .have k3:k=3:=nT;subst k3;have w1:=Xh hx (32+n) (al true);rw[if_pos ⟨nT,rfl⟩]at w1;simp +contextual -implicitDefEqProofs only[go_sem];refine VS.w (h.size+2) [6] (.q 0 (.q 1 (.q 2 (.q 3 (.q 4 (.q 5 (.w 6 .nil))))))) mixed uj ?_;simp +contextual -implicitDefEqProofs only[go_sem,hn8,w1,hb]
   try exact ((Zj.push uK _).YU uK _)
theorem Fa(h:Hp)(cs:List aw)(k c s n v:Int)(hf:Xa JO cs=true)(hi:∀i,i<32->nth cs i=W (N O (ci cs i)))(hb:∀i,32<=i->i<40->nth cs i=W (al (cb cs i))):
  Zd a9 T 19 #[ao cs.toArray,ao (Uy k c s n v).toArray] h fun v' h'=>yk v' cs k c s n v/\Zj h.size h h':=by
 have hl:(Q cs)=40:=YE hf;have tk:=XB hl;have XW:=Re hf;refine Zd.Ld [_,_] Tryz.func19 ?_;unfold Uy;simp +contextual -implicitDefEqProofs only[go_sem,hl,tk];refine (pL T _ cs hl hi).use ?_;rintro _ _ ⟨rfl,rfl⟩;unfold yk doL OB;by_cases e1:Xq cs=true
 .simp +contextual -implicitDefEqProofs only[go_sem,e1];refine⟨rfl,?_⟩
  (repeat' (first|exact Zj.refl _ _|assumption|refine Zj.add ?_ _|refine Zj.Zs ?_ aaa _|refine Zj.trans aab ?_))
 .have e1:Xq cs=false:=by simpa using e1
  simp +contextual -implicitDefEqProofs only[go_sem,e1];refine (Uz T _ k c s n v).use ?_;rintro _ _ ⟨rfl,rfl⟩;unfold Uy;by_cases e2:Y0 k c s n v=0
  .obtain⟨k,c,s,n,v,rfl,rfl,rfl,rfl,rfl,y1,y2,y3,y4,y5⟩:=Jr e2;simp only[a0];have JS:Yy=[N O 0,N O 0,N O 0,N O 0,N O 0,N O 0,N O 0,N O 0,N O 0,N O 0,N O 0,N O 0,N O 0,N O 0,N O 0,N O 0,N O 0,N O 0,N O 0,N O 0,N O 0,N O 0,N O 0,N O 0,N O 0,N O 0,N O 0,N O 0,N O 0,N O 0,N O 0,N O 0,al false,al false,al false,al false,al false,al false,al false,al false]:=rfl;obtain⟨H,hH⟩:=ZN (((((((h.push (R cs.toArray 52)).push (R [N O k,N O c,N O s,N O n,N O v].toArray 24)).push (R [N O 0,N O 0,N O 0,N O 0,N O 0,N O 0,N O 0,N O 0,N O 0,N O 0,N O 0,N O 0,N O 0,N O 0,N O 0,N O 0,N O 0,N O 0,N O 0,N O 0,N O 0,N O 0,N O 0,N O 0,N O 0,N O 0,N O 0,N O 0,N O 0,N O 0,N O 0,N O 0,al false,al false,al false,al false,al false,al false,al false,al false].toArray 52)).push (R [N O 0,N O 0].toArray 48)).push (R cs.toArray 52)).push (R [N O k,N O c,N O s,N O n,N O v].toArray 24)):Hp);have x0:H[h.size]? = W (R cs.toArray 52):=by rw[hH];simp only[aq,am,a3,↓reduceIte]
   have x1:H[h.size+1]? = W (R [N O k,N O c,N O s,N O n,N O v].toArray 24):=by rw[hH];simp only[aq,am,a3,↓reduceIte]
   have x2:H[h.size+2]? = W (R Yy.toArray 52):=by rw[hH,JS];simp only[aq,am,a3,↓reduceIte]
   have x3:H[h.size+3]? = W (R [N O 0,N O 0].toArray 48):=by rw[hH];simp only[aq,am,a3,↓reduceIte]
   have hHs:H.size=h.size+6:=by rw[hH];simp
   have iK:Zj h.size h H:=by rw[hH];(repeat' (first|exact Zj.refl _ _|assumption|refine Zj.add ?_ _|refine Zj.Zs ?_ aaa _|refine Zj.trans aab ?_))
   rw[<-hH];clear hH JS;have c1:hc H ⟨h.size+1,0,Y⟩=W (N O k):=by rw[Zl x1];rfl
   have c2:hc H ⟨h.size+1,1,Y⟩=W (N O c):=by rw[Zl x1];rfl
   have c3:hc H ⟨h.size+1,2,Y⟩=W (N O s):=by rw[Zl x1];rfl
   have cc:(c:Int)<8:=nT;have Zlx:=hi (8+c) nT;have lx:hc H ⟨h.size,8+c,Y⟩=W (N O (ci cs (8+c))):=by rw[Zl x0];exact Zlx
   have fin:∀(G:Hp) (D:List aw) (a b:Int),(Q D)=40->D.all YD=true->G[h.size+2]? = W (R Yy.toArray 52)->G[h.size+3]? = W (R [N O 0,N O 0].toArray 48) ->
     wr G ⟨h.size+1+1,0,Y⟩ D=W (G.setIfInBounds (h.size+1+1) (R D.toArray 52)) /\
     wr (G.setIfInBounds (h.size+1+1) (R D.toArray 52)) ⟨h.size+1+1+1,0,Y⟩ [N O a,N O b]=W ((G.setIfInBounds (h.size+1+1) (R D.toArray 52)).setIfInBounds (h.size+1+1+1) (R [N O a,N O b].toArray 48)):=by
    intro G D a b d1 d2 g2 g3;refine⟨?_,?_⟩
    .rw[Yd (b:=h.size+1+1) g2 0 D,Z4 (by rw[d1];rfl),if_pos ⟨by rw[d1];exact a4 _,d2⟩]
    .rw[Yd (b:=h.size+1+1+1) (l:=[N O 0,N O 0]) (t:=48) (by rw[U,if_neg nT];exact g3),if_pos ⟨uK,rfl⟩];rfl
   have r0:=Zz x0 hl;have qi:∀(G:Hp) (o o':Obj),Zj h.size h G->Zj h.size h ((G.setIfInBounds (h.size+1+1) o).setIfInBounds (h.size+1+1+1) o'):=fun G o o' hG=>(hG.Zs nT _).Zs nT _;by_cases k0:k=0
   .subst k0;have ed:QA cs 0 c s n v=⟨cs,0,0⟩:=rfl;obtain⟨w2,w3⟩:=fin H cs 0 0 hl XW x2 x3;simp -implicitDefEqProofs only[go_sem,e2,c1,c2,cc,ed,r0,w2,w3,hl,hHs,tk,iK];exact qi H _ _ iK
   .have k0':¬(k:Int)=0:=nT;simp -implicitDefEqProofs only[go_sem,e2,c1,c2,cc,k0'];refine VS.q mixed uj ?_;by_cases q1:(s:Int)+1=ci cs (8+c)
    .have ed:QA cs k c s n v=⟨cs,ci cs (16+c*2),ci cs (16+c*2+1)⟩:=by unfold QA;rw[if_neg k0,if_pos q1]
     obtain⟨w2,w3⟩:=fin H cs (ci cs (16+c*2)) (ci cs (16+c*2+1)) hl XW x2 x3;have ra:rd H ⟨h.size,16+c*2,Y⟩ 2=W [N O (ci cs (16+c*2)),N O (ci cs (16+c*2+1))]:=by
      rw[YJ x0 nT,ag (hi _ nT) (hi _ nT)]
     simp -implicitDefEqProofs only[go_sem,c3,lx,q1];refine VS.w (h.size+1+1) [] (.q 0 (.q 1 (.q 2 (.q 3 (.q 4 (.q 5 (.s 6 (.s 7 (.q 8 .nil))))))))) mixed uj ?_;simp -implicitDefEqProofs only[go_sem,e2,c2,cc,ed,r0,ra,w2,w3,hl,hHs,tk,iK];exact qi H _ _ iK
    .simp -implicitDefEqProofs only[go_sem,c3,lx,q1];refine VS.q mixed uj ?_;by_cases q2:(s:Int)<ci cs (8+c)
     .have ed:QA cs k c s n v=⟨cs,7,0⟩:=by unfold QA;rw[if_neg k0,if_neg q1,if_pos q2]
      obtain⟨w2,w3⟩:=fin H cs 7 0 hl XW x2 x3;simp -implicitDefEqProofs only[go_sem,c3,lx,q2,e2,ed,r0,w2,w3,hl,hHs,tk,iK];exact qi H _ _ iK
     .have rv:hc H ⟨h.size,32+c,Y⟩=W (al (cb cs (32+c))):=by rw[Zl x0];exact hb _ nT nT
      by_cases q3:cb cs (32+c)=true
      .have ed:QA cs k c s n v=⟨cs,11,0⟩:=by unfold QA;rw[if_neg k0,if_neg q1,if_neg q2,if_pos q3]
       obtain⟨w2,w3⟩:=fin H cs 11 0 hl XW x2 x3;rw[q3]at rv;simp -implicitDefEqProofs only[go_sem,c3,lx,q2,c2,cc,rv,e2,ed,r0,w2,w3,hl,hHs,tk,iK];exact qi H _ _ iK
      .have q3':cb cs (32+c)=false:=by simpa using q3
       rw[q3']at rv;have w1:=Xh x0 (8+c) (N O ((s:Int)+1));rw[if_pos ⟨nT,rfl⟩]at w1;have rc:=Zz x1 (n:=5) rfl;have x1':(H.setIfInBounds h.size (R (cs.set (8+c) (N O ((s:Int)+1))).toArray 52))[h.size+1]? = W (R [N O k,N O c,N O s,N O n,N O v].toArray 24):=by rw[U,if_neg nT];exact x1
       have rc':=Zz x1' (n:=5) rfl;simp -implicitDefEqProofs only[go_sem,c3,lx,q2,c2,cc,rv,w1,rc'];have x0':(H.setIfInBounds h.size (R (cs.set (8+c) (N O ((s:Int)+1))).toArray 52))[h.size]? = W (R (cs.set (8+c) (N O ((s:Int)+1))).toArray 52):=by rw[U,if_pos rfl,if_pos nT]
       have Wf:Zj h.size h (H.setIfInBounds h.size (R (cs.set (8+c) (N O ((s:Int)+1))).toArray 52)):=iK.Zs (a4 _) _;have x2':(H.setIfInBounds h.size (R (cs.set (8+c) (N O ((s:Int)+1))).toArray 52))[h.size+2]? = W (R Yy.toArray 52):=by rw[U,if_neg nT];exact x2
       have x3':(H.setIfInBounds h.size (R (cs.set (8+c) (N O ((s:Int)+1))).toArray 52))[h.size+3]? = W (R [N O 0,N O 0].toArray 48):=by rw[U,if_neg nT];exact x3
       have hGs:(H.setIfInBounds h.size (R (cs.set (8+c) (N O ((s:Int)+1))).toArray 52)).size=h.size+6:=by rw[a5];exact hHs
       refine (bu T _ h.size (cs.set (8+c) (N O ((s:Int)+1))) k c s n v (by rw[ba];exact hl) (ints_set nT _ hi) nT nT nT x0').use ?_;rintro _ g1 ⟨rfl,b1⟩;rw[qh cs k c n v _ nT nT]at b1 ⊢;have hfA:=bq hf k c n v nT;have ed:QA cs k c s n v=⟨((((Wg cs k c n v).1.set (8+c) (N O ((s:Int)+1))).set (16+c*2) (N O 0)).set (16+c*2+1) (N O (Wg cs k c n v).2)),0,(Wg cs k c n v).2⟩:=by unfold QA;rw[if_neg k0,if_neg q1,if_neg q2,if_neg q3]
       obtain⟨A,hA⟩:=ZN ((Wg cs k c n v).1.set (8+c) (N O ((s:Int)+1)));obtain⟨a,ha⟩:=ZN ((Wg cs k c n v).2);rw[<-hA,<-ha]at ed;simp only[<-hA,<-ha]at b1 ⊢;have Zly:Xa JO A=true:=by rw[hA];exact Vp _ _ hfA (UM nT _)
       have ZE2:(Q A)=40:=YE Zly;obtain⟨G,hG⟩:=ZN (H.setIfInBounds h.size (R (cs.set (8+c) (N O ((s:Int)+1))).toArray 52):Hp);rw[<-hG]at b1 x1' x2' x3' Wf hGs;clear x0' rc' hG;rw[hGs]at b1;have g0:g1[h.size]? = W (R A.toArray 52):=b1.get nT (by rw[U,if_pos rfl,if_pos nT]);have g1c:=b1.get (k:=h.size+1) nT (by rw[U,if_neg nT];exact x1');have g2:=b1.get (k:=h.size+2) nT (by rw[U,if_neg nT];exact x2');have g3:=b1.get (k:=h.size+3) nT (by rw[U,if_neg nT];exact x3');have gs:h.size+6<=g1.size:=by have:=b1.size;rw[a5,hGs]at this;exact this
       have gB:Zj h.size h g1:=(Wf.Zs (a4 _) _).trans (b1.mono nT);clear b1 Wf x1' x2' x3' hGs;have gc:hc g1 ⟨h.size+1,1,Y⟩=W (N O c):=by rw[Zl g1c];rfl
       have wa:=Yd g0 (16+c*2) [N O 0,N O a];rw[if_pos ⟨by simp only[bP,List.length_nil];omega,rfl⟩,S6,S6]at wa;have wa:wr g1 ⟨h.size,16+c*2,Y⟩ [N O 0,N O a]=W (g1.setIfInBounds h.size (R ((A.set (16+c*2) (N O 0)).set (16+c*2+1) (N O a)).toArray 52)):=by rw[wa];simp[Y8]
       simp -implicitDefEqProofs only[go_sem,gc,cc,wa];obtain⟨D,hD⟩:=ZN ((A.set (16+c*2) (N O 0)).set (16+c*2+1) (N O a));have hfD:Xa JO D=true:=by rw[hD];exact Vp _ _ (Vp _ _ Zly (UM nT _)) (UM nT _)
       have ZcW:(Q D)=40:=YE hfD;have mo:=Re hfD;have qj:=XB ZcW;rw[<-hD]at ed ⊢;obtain⟨G,hG⟩:=ZN ((g1.setIfInBounds h.size (R D.toArray 52)).push (R [N O 0,N O a].toArray 48):Hp);have n0:G[h.size]? = W (R D.toArray 52):=by rw[hG];simp only[aq,a5,U,a3,↓reduceIte]
       have n2:G[h.size+2]? = W (R Yy.toArray 52):=by rw[hG];simp only[aq,a5,U,a3,↓reduceIte];exact g2
       have n3:G[h.size+3]? = W (R [N O 0,N O 0].toArray 48):=by rw[hG];simp only[aq,a5,U,a3,↓reduceIte];exact g3
       have n6:G[g1.size]? = W (R [N O 0,N O a].toArray 48):=by rw[hG];simp only[aq,a5,a3,↓reduceIte]
       have nB:Zj h.size h G:=by rw[hG];exact (gB.Zs (a4 _) _).YU Ig _
       have nS:G.size=g1.size+1:=by rw[hG];simp
       rw[<-hG];have rA:=Zz n0 ZcW;have rB:=Zz n6 (n:=2) rfl;obtain⟨w2,w3⟩:=fin G D 0 a ZcW mo n2 n3;refine VS.w (h.size+1) [2,3,4] (.q 0 (.or 1 (.w 2 (.w 3 (.w 4 .nil))) (.s 2 (.s 1 (.w 3 (.w 4 .nil)))))) mixed uj ?_;have z1:h.size<h.size+1:=nT;have z2:h.size+1+1<G.size:=nT;have z3:h.size+1+1+1<G.size:=nT;simp -implicitDefEqProofs only[go_sem,rA,rB,w2,w3,ZcW,qj,z1,z2,z3,ed];exact⟨qi G _ _ nB,qi G _ _ nB⟩
  .simp +contextual -implicitDefEqProofs only[go_sem,e2];refine⟨rfl,?_⟩
   (repeat' (first|exact Zj.refl _ _|assumption|refine Zj.add ?_ _|refine Zj.Zs ?_ aaa _|refine Zj.trans aab ?_))
theorem ym{g:Hp}{b:Nat}{o o':Obj}(hx:g[b]? = W o'):(g.setIfInBounds b o)[b]? = W o:=by rw[U,if_pos rfl,if_pos (Za hx)]
def SM:Vt:=⟨0,⟨0,0⟩,0,0,0,0,0⟩
def Bx(v:Vt):List aw:=[N O v.k,N O v.c,N O v.s,N O v.nm,N O v.v]
def U0(Zt:Int)(Zlz v:Vt):Vt:=if v.Zt=Zt/\ZE Zlz.b v.b then v else Zlz
def WR(Zt:Int)(l:List Vt):Vt:=l.foldl (U0 Zt) SM
def WS(l:List Vt):Bool:=l.all fun v=>decide (Yo v)
def Sr(Zt:Int)(l:List Vt):Int:=if Zt<0\/39<Zt then 2 else if WS l=true then 0 else 5
def By(v':aw)(Zt:Int)(l:List Vt):Prop:=
 v'=.tuple [ao (Bx (if Sr Zt l=0 then WR Zt l else SM)).toArray,al (if Sr Zt l=0 then decide (0<(WR Zt l).b.r) else false),N O (Sr Zt l)].toArray
def Vss(h:Hp)(v:aw)(LL:List (List Vt)):Prop:=∃p c,v=X p (Q LL) c/\(LL≠[]->∃b o,p=W ⟨b,o,Y⟩/\b<h.size/\∀i (hi:i<(Q LL)),∃w,hc h ⟨b,o+i,Y⟩=W w/\Ts Zv 8 h w LL[i]/\LL[i].length<=2199023255552)
theorem qk(LL:List (List Vt))(i:Nat)(hi:i<(Q LL)):(LL.take (i+1)).flatten=(LL.take i).flatten++LL[i]:=by
 rw[Y1 LL i hi,List.flatten_append,List.flatten_singleton]
theorem iW(a b:List Vt):WS (a++b)=(WS a&&WS b):=by simp[WS]
theorem Bz{l:List Vt}{v:Vt}(hv:v∈l)(hm:¬Yo v):WS l=false:=by
 rw[WS,List.all_eq_false];exact⟨v,hv,by simpa using hm⟩
set_option maxHeartbeats 1000000 in
theorem ZcX(h:Hp)(u:aw)(LL:List (List Vt))(Zt:Int)(s:Vss h u LL)(hL:(Q LL)<=4611686018427387904):
  Zd a9 T 133 #[u,N O Zt] h fun v' h'=>By v' Zt LL.flatten/\Zj h.size h h':=by
 have yn:Sr Zt LL.flatten=if Zt<0\/39<Zt then 2 else if WS LL.flatten=true then 0 else 5:=rfl
 obtain⟨p,c,rfl,XI⟩:=s;refine Zd.Ld [_,_] Tryz.func133 ?_;unfold By;by_cases q1:Zt<0
 .rw[if_pos (.inl q1)]at yn;simp -implicitDefEqProofs only[go_sem,q1,yn];rfl
 .by_cases q2:39<Zt
  .rw[if_pos (.inr q2)]at yn;have q2':40<=Zt:=nT;simp -implicitDefEqProofs only[go_sem,q1,q2',yn];rfl
  .rw[if_neg nT]at yn;have q2':¬40<=Zt:=nT;simp -implicitDefEqProofs only[go_sem,q1,q2'];obtain⟨H,hH⟩:=ZN ((h.push (R #[N O 0,N O 0,N O 0,N O 0,N O 0] 24)).push (R #[N O 0,N O 0,N O 0,N O 0,N O 0,N O 0,N O 0,N O 0] 132):Hp);have HB:Zj h.size h H:=by rw[hH];(repeat' (first|exact Zj.refl _ _|assumption|refine Zj.add ?_ _|refine Zj.Zs ?_ aaa _|refine Zj.trans aab ?_))
   have HZ:H[h.size]? = W (R (Bx SM).toArray 24):=by rw[hH,ZI uK,Zc];rfl
   have HV:H[h.size+1]? = W (R (Zv SM).toArray 132):=by
    have:=Zc (h:=h.push (R #[N O 0,N O 0,N O 0,N O 0,N O 0] 24)) (o:=R #[N O 0,N O 0,N O 0,N O 0,N O 0,N O 0,N O 0,N O 0] 132);rw[am]at this;rw[hH,this];rfl
   rw[<-hH];clear hH;have wz:∀g:Hp,g[h.size]? = W (R (Bx SM).toArray 24)->∀w:List aw,(Q w)=5->w.all YD=true->wr g ⟨h.size,0,Y⟩ w=W (g.setIfInBounds h.size (R w.toArray 24)):=by
    intro g hg w h5 h1;rw[Yd hg 0 w,Z4 (by rw[h5];rfl),if_pos ⟨by rw[h5];exact a4 _,h1⟩]
   refine VS.Yk (fun F g=>F 1=N O Zt/\F 4=ab (W ⟨h.size,0,Y⟩)/\F 7=ab (W ⟨h.size+1,0,Y⟩)/\F 19=X p (Q LL) c/\F 20=N O (Q LL)/\Zj h.size h g/\g[h.size]? = W (R (Bx SM).toArray 24)/\∃i:Nat,i<=(Q LL)/\F 21=N O i/\g[h.size+1]? = W (R (Zv (WR Zt (LL.take i).flatten)).toArray 132)/\WS (LL.take i).flatten=true)
    (fun F _=>(Q LL)-(vi (F 21)).toNat) rfl ⟨rfl,rfl,rfl,rfl,rfl,HB,HZ,0,nT,rfl,HV,rfl⟩ ?_
   clear HB HZ HV H;rintro F g ⟨f1,f4,f7,f19,f20,hg,gZ,i,hi,f21,gV,Jc⟩;have zV:=Za gV;by_cases ZS:i<(Q LL)
   .have Z7:(i:Int)<(Q LL):=nT;obtain⟨bb,oo,rfl,T5,XI⟩:=XI (by intro e;rw[e]at ZS;simp at ZS);obtain⟨w,hw,tw,hwl⟩:=XI i ZS;have hw':V.hc g ⟨bb,oo+i,Y⟩=W w:=by rw[hg.hc (by exact T5)];exact hw
    have Zfi:=qk LL i ZS;have yo:LL[i]∈LL:=bQ ZS;obtain⟨L,hLi⟩:=ZN (LL[i]);rw[<-hLi]at tw hwl Zfi yo;obtain⟨pw,cw,rfl,hwc⟩:=WP tw;simp -implicitDefEqProofs only[go_sem,f1,f4,f7,f19,f20,f21,Z7,a0,hw'];refine VS.Yk (fun F g=>F 1=N O Zt/\F 4=ab (W ⟨h.size,0,Y⟩)/\F 7=ab (W ⟨h.size+1,0,Y⟩)/\F 19=X (W ⟨bb,oo,Y⟩) (Q LL) c/\F 20=N O (Q LL)/\F 21=N O i/\F 25=X pw (Q L) cw/\F 26=N O (Q L)/\Zj h.size h g/\g[h.size]? = W (R (Bx SM).toArray 24)/\∃j:Nat,j<=(Q L)/\F 27=N O j/\g[h.size+1]? = W (R (Zv (WR Zt ((LL.take i).flatten++L.take j))).toArray 132)/\WS ((LL.take i).flatten++L.take j)=true)
     (fun F _=>(Q L)-(vi (F 27)).toNat) rfl ⟨f1,f4,f7,f19,f20,f21,rfl,rfl,hg,gZ,0,nT,rfl,by rw[cF,a7];exact gV,by rw[cF,a7];exact Jc⟩ ?_
    clear f1 f4 f7 f19 f20 f21 F hg gZ gV Jc zV hw';rintro F g ⟨f1,f4,f7,f19,f20,f21,f25,f26,hg,gZ,j,hj,f27,gV,Jc⟩;have zV:=Za gV;by_cases hlj:j<(Q L)
    .have Ztp:(j:Int)<(Q L):=nT;obtain⟨b2,o2,rfl,HI,_,hwc⟩:=hwc (by intro e;rw[e]at hlj;simp at hlj);have r1:rd g ⟨b2,o2+j*8,Y⟩ 8=W (Zv L[j]):=by rw[Um hg (by exact HI)];exact hwc j hlj
     have iX:(LL.take i).flatten++L.take (j+1)=((LL.take i).flatten++L.take j)++[L[j]]:=by rw[Y1 L j hlj,List.append_assoc]
     have Zfl:L[j]∈LL.flatten:=List.mem_flatten.2 ⟨L,yo,bQ hlj⟩;obtain⟨v,hv⟩:=ZN (L[j]);rw[<-hv]at r1 iX Zfl;have J9:WR Zt ((LL.take i).flatten++L.take (j+1))=U0 Zt (WR Zt ((LL.take i).flatten++L.take j)) v:=by
      rw[iX];unfold WR;rw[List.foldl_append];rfl
     have HE:WS ((LL.take i).flatten++L.take (j+1))=decide (Yo v):=by rw[iX,iW,Jc,Bool.true_and];simp[WS]
     obtain⟨B,hB⟩:=ZN (WR Zt ((LL.take i).flatten++L.take j));rw[<-hB]at gV J9;unfold Zv at r1;simp -implicitDefEqProofs only[go_sem,f1,f4,f7,f19,f20,f21,f25,f26,f27,Ztp,a0,r1];refine (HS T _ v).use ?_;rintro _ g1 ⟨rfl,b1⟩;have Ay:Zj g.size g g1:=(Zj.push (a4 _) _).trans (b1.mono uK);have y0:g1[g.size]? = W (R (Zv v).toArray 132):=b1.get uK Zc;have z1:=Ay.size;have NO:=hg.trans (Ay.mono hg.size);have gZ1:=Ay.get (Za gZ) gZ;have gV1:=Ay.get zV gV;have z0:=Za y0;by_cases c1:Yo v
     .rw[decide_eq_true c1]at HE;have y1:V.hc g1 ⟨g.size,0,Y⟩=W (N O v.Zt):=by rw[Zl y0];rfl
      have y2:rd g1 ⟨g.size,1,Y⟩ 2=W (Qz v.b):=by rw[YJ y0 (by simp[Zv])];rfl
      have y3:rd g1 ⟨h.size+1,1,Y⟩ 2=W (Qz B.b):=by rw[YJ gV1 (by simp[Zv])];rfl
      by_cases c2:v.Zt=Zt
      .simp -implicitDefEqProofs only[go_sem,f1,f4,f7,f19,f20,f21,f25,f26,f27,c1,y1,c2,y2,y3];refine (Tx T _ v.b B.b).use ?_;rintro _ g2 ⟨rfl,uk⟩;have z2:=uk.size;have WB:=NO.trans (uk.mono NO.size);have gZ2:=uk.get (Za gZ1) gZ1;have gV2:=uk.get (Za gV1) gV1;have y02:=uk.get z0 y0;by_cases c3:ZE B.b v.b
       .have ya:=(Ri v.b B.b).2 c3;have rV:=Zz y02 (n:=8) rfl;have wV:=Yd gV2 0 (Zv v);rw[Z4 (by simp[Zv]),if_pos ⟨by simp[Zv],rfl⟩]at wV;have hpk:U0 Zt B v=v:=by unfold U0;rw[if_pos ⟨c2,c3⟩]
        rw[hpk]at J9;unfold Zv at rV wV;simp -implicitDefEqProofs only[go_sem,f1,f4,f7,f19,f20,f21,f25,f26,f27,ya,rV,wV];refine⟨⟨f1,f4,f7,f19,f20,f21,f25,f26,WB.Zs nT _,?_,j+1,hlj,rfl,?_,HE⟩,?_⟩
        .rw[U,if_neg nT];exact gZ2
        .rw[J9];exact ym gV2
        .simp only[vi,Zq,↓reduceIte,f27];omega
       .have ya:¬0<Ku v.b B.b:=fun h=>c3 ((Ri v.b B.b).1 h);have hpk:U0 Zt B v=B:=by unfold U0;rw[if_neg (fun h=>c3 h.2)]
        rw[hpk]at J9;simp -implicitDefEqProofs only[go_sem,f1,f4,f7,f19,f20,f21,f25,f26,f27,ya];refine⟨⟨f1,f4,f7,f19,f20,f21,f25,f26,WB,gZ2,j+1,hlj,rfl,?_,HE⟩,?_⟩
        .rw[J9];exact gV2
        .simp only[vi,Zq,↓reduceIte,f27];omega
      .have hpk:U0 Zt B v=B:=by unfold U0;rw[if_neg (fun h=>c2 h.1)]
       rw[hpk]at J9;simp -implicitDefEqProofs only[go_sem,f1,f4,f7,f19,f20,f21,f25,f26,f27,c1,y1,c2];refine⟨⟨f1,f4,f7,f19,f20,f21,f25,f26,NO,gZ1,j+1,hlj,rfl,?_,HE⟩,?_⟩
       .rw[J9];exact gV1
       .simp only[vi,Zq,↓reduceIte,f27];omega
     .have hf:=Bz Zfl c1;rw[hf,if_neg Iw]at yn;have wz1:=wz g1 gZ1 [N O 0,N O 0,N O 0,N O 0,N O 0] rfl rfl;have zl:=Za gZ1;simp -implicitDefEqProofs only[go_sem,f1,f4,f7,c1,wz1,zl,yn];exact⟨rfl,NO.Zs (a4 _) _⟩
    .have Ztr:¬(j:Int)<(Q L):=nT;obtain rfl:j=(Q L):=nT;rw[cz,<-Zfi]at gV Jc;simp -implicitDefEqProofs only[go_sem,f1,f4,f7,f19,f20,f21,f25,f26,f27,Ztr];refine⟨⟨f1,f4,f7,f19,f20,hg,gZ,i+1,ZS,rfl,gV,Jc⟩,?_⟩;simp only[vi,Zq,↓reduceIte,f21];omega
   .have Xv:¬(i:Int)<(Q LL):=nT;obtain rfl:i=(Q LL):=nT;rw[cz]at gV Jc;rw[Jc,if_pos rfl]at yn;rw[yn,if_pos rfl,if_pos rfl];obtain⟨B,hB⟩:=ZN (WR Zt LL.flatten);rw[<-hB]at gV ⊢;have r1:rd g ⟨h.size+1,3,Y⟩ 5=W (Bx B):=by rw[YJ gV (by simp[Zv])];rfl
    have r2:V.hc g ⟨h.size+1,1,Y⟩=W (N O B.b.r):=by rw[Zl gV];rfl
    have wB:=wz g gZ (Bx B) rfl rfl;have zl:=Za gZ;unfold Bx at r1 wB ⊢;simp -implicitDefEqProofs only[go_sem,f1,f4,f7,f19,f20,f21,Xv];refine VS.w (h.size) [] (.q 0 (.q 2 (.q 3 (.or 1 (.or 4 (.q 5 (.s 6 (.q 7 (.q 8 .nil)))) (.s 6 (.s 4 (.q 5 (.q 7 (.q 8 .nil)))))) (.s 4 (.q 5 (.s 1 (.s 6 (.q 7 (.q 8 .nil)))))))))) mixed uj ?_;simp -implicitDefEqProofs only[go_sem,f4,f7,r1,r2,wB,zl];have iY:=hg.Zs (a4 _) (R #[N O B.k,N O B.c,N O B.s,N O B.nm,N O B.v] 24);exact⟨⟨iY,iY⟩,iY⟩
end Go.Proofs.YtdapjaalaomghaaGreatDoor
