/- Part Pik. -/
import Derived.Test.YthlfaofofaphfaaGreatDoorVst
import Derived.Test.YthlfaofofaphfaaGreatDoorW13
import Derived.Test.YthlfaofofaphfaaGreatDoorLchks
open Go.Value renaming int→N,slice→X,pointer→al,bool→am,agg→aI
open Go.IntKind renaming i64→O,u64→S
open Go.Obj renaming cells→R
open Go.Proofs.Tryz renaming prog→ba
open List renaming length→Q,getD_eq_getElem?_getD→aa,getElem?_eq_getElem→a7,append_nil→a8,length_set→bc,mem_iff_getElem→bd,length_drop→bf,take_of_length_le→bg,getElem?_set_ne→bh,length_take→bl,take_append_drop→bw,getD_cons_zero→bx,getD_cons_succ→bz,mem_or_eq_of_mem_set→bB,all_eq_true→bG,length_cons→bK,getElem_mem→bR,filter_eq_nil_iff→bT,drop_of_length_le→b5,getElem?_set_self→b6,getElem?_eq_none→b7,mem_range→b8,mem_cons_of_mem→b9,filter_eq_self→cf,filter_append→cg,mem_cons_self→ch,set_cons_zero→co,set_cons_succ→cp,getElem_drop→cq,getElem_take→cr,take_length→cA,range→cP,take_zero→cR,set_comm→cS
open Nat renaming le_refl→a5,mul_assoc→a9,zero_add→be,mul_comm→bn,add_mul_mod_self_left→bp,add_sub_cancel→bA,add_assoc→bC,pow_succ→b0,mul_add→ca,add_mod→cd,lt_of_lt_of_le→ck,mod_lt→cn,zero_mul→ct,add_zero→cx,le_of_lt_succ→cy,mod_eq_of_lt→cz
open Int renaming toNat_natCast→a3,natCast_mul→cB
open Option renaming some→W,none→Y
open Array renaming getElem?_setIfInBounds→U,size_push→aw,getElem?_push→aU,size_setIfInBounds→a6
open Bool renaming and_eq_true→bS
open Go.IntWalk renaming iteOmega→a4
open Go renaming Value→a0
namespace Go.Proofs.YthlfaofofaphfaaGreatDoor
open Go Go.V
set_option linter.unusedSimpArgs false
set_option linter.unusedVariables false
set_option maxRecDepth 100000
variable(T:World){i:Nat}{l:List Nat}
structure Yw where
 r:Int
 n:Int
structure Vt where
 Zu:Int
 b:Yw
 k:Int
 c:Int
 s:Int
 nm:Int
 v:Int
def Qz(b:Yw):List a0:=[N O b.r,N O b.n]
def Zv(v:Vt):List a0:=[N O v.Zu,N O v.b.r,N O v.b.n,N O v.k,N O v.c,N O v.s,N O v.nm,N O v.v]
def ZF(b:Yw):Prop:=(1<=b.r/\b.r<=65536)/\(0<=b.n/\b.n<=4)
instance (b:Yw):Decidable (ZF b):=by unfold ZF;infer_instance
def Ym(v:Vt):Prop:=(0<=v.Zu/\v.Zu<=39)/\ZF v.b/\YE v.k v.c v.s v.nm v.v=0
instance (v:Vt):Decidable (Ym v):=by unfold Ym;infer_instance
def ZL(a b:Yw):Prop:=a.r<b.r\/(a.r=b.r/\a.n<b.n)
instance (a b:Yw):Decidable (ZL a b):=by unfold ZL;infer_instance
def Na(a b:Int):Int:=if a<b then -1 else if b<a then 1 else 0
def Ke(a b:Yw):Int:=if Na a.r b.r=0 then Na a.n b.n else Na a.r b.r
theorem SX(a b:Yw):0<Ke a b↔ZL b a:=by
 unfold Ke Na ZL
 repeat' split
 all_goals omega
theorem La(a b:Yw):Ke a b<0↔ZL a b:=by
 unfold Ke Na ZL
 repeat' split
 all_goals omega
theorem aq(h:Hp)(a:Int):Zd ba T 137 #[N O a] h fun v' h'=>v'=am false/\h'=h:=by
 refine Zd.XS [_] Tryz.func137 ?_;simp -implicitDefEqProofs only[go_sem]
theorem Sp(h:Hp)(a b:Int):Zd ba T 125 #[N O a,N O b] h fun v' h'=>v'=N O (Na a b)/\h'=h:=by
 refine Zd.XS [_,_] Tryz.func125 ?_;simp -implicitDefEqProofs only[go_sem];refine (aq T _ _).pure ?_;simp -implicitDefEqProofs only[go_sem];refine (aq T _ _).pure ?_;unfold Na;by_cases q1:a<b
 .simp -implicitDefEqProofs only[go_sem,q1]
 .by_cases q2:b<a
  .simp -implicitDefEqProofs only[go_sem,q1,q2]
  .simp -implicitDefEqProofs only[go_sem,q1,q2]
theorem xq(h:Hp)(b:Nat)(x y:Int)(h0:hc h ⟨b,0,Y⟩=W (N O x))(h1:hc h ⟨b,1,Y⟩=W (N O y)):Zd ba T 136 #[X (W ⟨b,0,Y⟩) 2 2] h fun v' h'=>v'=N O (if x=0 then y else x)/\h'=h:=by
 refine Zd.XS [_] Tryz.func136 ?_;simp -implicitDefEqProofs only[go_sem];refine VS.rounds 3 rfl ?_;by_cases q1:x=0
 .by_cases q2:y=0
  .simp -implicitDefEqProofs only[go_sem,h0,h1,q1,q2,Int.reduceAdd]
  .simp -implicitDefEqProofs only[go_sem,h0,h1,q1,q2,Int.reduceAdd]
 .simp -implicitDefEqProofs only[go_sem,h0,h1,q1]
theorem SY(h:Hp)(b:Yw):Zd ba T 119 #[aI (Qz b).toArray] h fun v' h'=>v'=am (decide (ZF b))/\h'=h.push (R (Qz b).toArray 102):=by
 refine Zd.XS [_] Tryz.func119 ?_;unfold Qz;by_cases q1:1<=b.r
 .by_cases q2:b.r<=65536
  .by_cases q3:0<=b.n
   .by_cases q4:b.n<5
    .have e:ZF b:=⟨⟨q1,q2⟩,q3,nc⟩
     simp -implicitDefEqProofs only[go_sem,q1,q2,q3,q4,e]
    .have e:¬ZF b:=by unfold ZF;omega
     simp -implicitDefEqProofs only[go_sem,q1,q2,q3,q4,e]
   .have e:¬ZF b:=by unfold ZF;omega
    simp -implicitDefEqProofs only[go_sem,q1,q2,q3,e]
  .have e:¬ZF b:=by unfold ZF;omega
   simp -implicitDefEqProofs only[go_sem,q1,q2,e]
 .have e:¬ZF b:=by unfold ZF;omega
  simp -implicitDefEqProofs only[go_sem,q1,e]
theorem Tn(h:Hp)(a b:Yw):Zd ba T 120 #[aI (Qz a).toArray,aI (Qz b).toArray] h fun v' h'=>v'=N O (Ke a b)/\Zk h.size h h':=by
 refine Zd.XS [_,_] Tryz.func120 ?_;unfold Qz;simp -implicitDefEqProofs only[go_sem];refine VS.w (h.size+2) [] (.q 0 (.q 1 (.q 2 (.q 3 (.q 5 (.q 6 (.q 7 (.q 8 (.s 4 (.s 9 (.s 10 (.s 11 (.q 12 .nil))))))))))))) mixed uf ?_;simp -implicitDefEqProofs only[go_sem];refine (Sp T _ _ _).pure ?_;simp -implicitDefEqProofs only[go_sem];refine (Sp T _ _ _).pure ?_;simp -implicitDefEqProofs only[go_sem];refine⟨(Zk.refl _ _).YU Hg _,?_⟩;refine (xq T _ _ (Na a.r b.r) (Na a.n b.n) ?_ ?_).pure ?_
 .simp -implicitDefEqProofs only[go_sem]
 .simp -implicitDefEqProofs only[go_sem]
 unfold Ke;simp -implicitDefEqProofs only[go_sem];refine⟨(Zk.refl _ _).YU Hg _,?_⟩
 (repeat' (first|exact Zk.refl _ _|assumption|refine Zk.add ?_ _|refine Zk.Zt ?_ aab _|refine Zk.trans aac ?_))
theorem HC(h:Hp)(v:Vt):Zd ba T 122 #[aI (Zv v).toArray] h fun v' h'=>v'=am (decide (Ym v))/\Zk h.size h h':=by
 refine Zd.XS [_] Tryz.func122 ?_;unfold Zv;by_cases q1:0<=v.Zu
 .by_cases q2:v.Zu<40
  .simp -implicitDefEqProofs only[go_sem,q1,q2];refine (SY T _ v.b).use ?_;rintro _ _ ⟨rfl,rfl⟩;unfold Qz;by_cases q3:ZF v.b
   .simp -implicitDefEqProofs only[go_sem,q3];refine (Uv T _ v.k v.c v.s v.nm v.v).use ?_;rintro _ _ ⟨rfl,rfl⟩;by_cases q4:YE v.k v.c v.s v.nm v.v=0
    .have e:Ym v:=⟨⟨q1,nc⟩,q3,q4⟩
     simp -implicitDefEqProofs only[go_sem,q4,e]
     (repeat' (first|exact Zk.refl _ _|assumption|refine Zk.add ?_ _|refine Zk.Zt ?_ aab _|refine Zk.trans aac ?_))
    .have e:¬Ym v:=fun h=>q4 h.2.2;simp -implicitDefEqProofs only[go_sem,q4,e]
     (repeat' (first|exact Zk.refl _ _|assumption|refine Zk.add ?_ _|refine Zk.Zt ?_ aab _|refine Zk.trans aac ?_))
   .have e:¬Ym v:=fun h=>q3 h.2.1;simp -implicitDefEqProofs only[go_sem,q3,e]
  .have e:¬Ym v:=by unfold Ym;omega
   simp -implicitDefEqProofs only[go_sem,q1,q2,e]
 .have e:¬Ym v:=by unfold Ym;omega
  simp -implicitDefEqProofs only[go_sem,q1,e]
theorem WD{h:Hp}{v:a0}{l:List Vt}(s:Ts Zv 8 h v l):∃p cap,v=X p (Q l) cap/\(l≠[]->∃b o,p=W ⟨b,o,Y⟩/\b<h.size/\(∀i (hi:i<(Q l)),hc h ⟨b,o+i*8,Y⟩=W (N O l[i].Zu))/\∀i (hi:i<(Q l)),rd h ⟨b,o+i*8,Y⟩ 8=W (Zv l[i])):=by
 obtain⟨p,cap,hv,Wr⟩:=Ts.open (enc:=Zv) (n:=8) (fun _=>rfl) aaa s;refine⟨p,cap,hv,fun Y4=>?_⟩;obtain⟨b,o,hp,hb,XE⟩:=Wr Y4;exact⟨b,o,hp,hb,fun i hi=>(XE i hi).hc (i:=0) rfl,fun i hi=>(XE i hi).rd (by simp[Zv]) rfl⟩
def Kf(l:List Vt)(j:Nat):Int:=((l[j]?).map (·.Zu)).getD (-1)
def Sq(l:List Vt)(i:Nat):Int:=if i=0 then -1 else Kf l (i-1)
def RE(p:Yw)(l:List Vt)(i:Nat):Bool:=match l[i]? with
 | some v=>decide (Ym v/\¬ZL p v.b/\(i=0\/Kf l (i-1)<v.Zu))
 | none=>true
def Jy(p:Yw)(l:List Vt):Int:=if ¬ZF p/\¬(p.r=0/\p.n=0) then 5 else if (cP (Q l)).all (RE p l)=true then 0 else 5
theorem OL{l:List Vt}{j:Nat}(hj:j<(Q l)):Kf l j=l[j].Zu:=by
 unfold Kf;rw[a7 hj];rfl
theorem Lb{p:Yw}{l:List Vt}(hi:i<(Q l)):RE p l i=true↔Ym l[i]/\¬ZL p l[i].b/\(i=0\/Kf l (i-1)<l[i].Zu):=by
 unfold RE;rw[a7 hi];simp only[decide_eq_true_eq]
theorem Dn{p:Yw}{l:List Vt}(hi:i<(Q l)):RE p l i=true↔Ym l[i]/\¬ZL p l[i].b/\Sq l i<l[i].Zu:=by
 rw[Lb hi];unfold Sq;by_cases h0:i=0
 .rw[if_pos h0]
  constructor
  .rintro⟨h1,h2,_⟩;exact⟨h1,h2,by have:=h1.1.1;omega⟩
  .rintro⟨h1,h2,_⟩;exact⟨h1,h2,.inl h0⟩
 .rw[if_neg h0]
  constructor
  .rintro⟨h1,h2,h3⟩;exact⟨h1,h2,h3.resolve_left h0⟩
  .rintro⟨h1,h2,h3⟩;exact⟨h1,h2,.inr h3⟩
theorem P9{p:Yw}{l:List Vt}(hp:¬(¬ZF p/\¬(p.r=0/\p.n=0)))(hg:∀j,j<(Q l)->RE p l j=true):Jy p l=0:=by
 unfold Jy;rw[if_neg hp,if_pos (bG.2 fun i hi=>hg i (b8.1 hi))]
theorem WE{p:Yw}{l:List Vt}(hi:i<(Q l))(hb:RE p l i=false):Jy p l=5:=by
 unfold Jy;split
 .rfl
 .rw[if_neg];intro h;have:=bG.1 h i (b8.2 hi);rw[hb]at this;cases this
def Xu(p:Yw)(v:a0):List a0:=[N O p.r,N O p.n,v]
theorem Nr(h:Hp)(p:Yw)(u:a0)(l:List Vt)(s:Ts Zv 8 h u l)(hlen:(Q l)<=4611686018427387904):
  Zd ba T 118 #[aI (Xu p u).toArray] h fun v' h'=>v'=N O (Jy p l)/\Zk h.size h h':=by
 obtain⟨pv,cv,rfl,XE⟩:=WD s;refine Zd.XS [_] Tryz.func118 ?_;unfold Xu;by_cases z:p.r=0/\p.n=0
 .obtain⟨z1,z2⟩:=z;have Ce:¬(¬ZF p/\¬(p.r=0/\p.n=0)):=fun h=>h.2 ⟨z1,z2⟩;simp -implicitDefEqProofs only[go_sem,z1,z2];obtain⟨H,hH⟩:=ZQ (h.push (R [N O 0,N O 0,X pv (Q l) cv].toArray 105):Hp);have x0:H[h.size]? = W (R (Xu p (X pv (Q l) cv)).toArray 105):=by rw[hH];unfold Xu;rw[z1,z2];exact Zc
  have gU:Zk h.size h H:=by rw[hH];(repeat' (first|exact Zk.refl _ _|assumption|refine Zk.add ?_ _|refine Zk.Zt ?_ aab _|refine Zk.trans aac ?_))
  rw[<-hH];clear hH;have hz:=Za x0;refine VS.Yj (fun F g=>Zk H.size H g/\F 1=al (W ⟨h.size,0,Y⟩)/\F 17=X pv (Q l) cv/\F 18=N O (Q l)/\∃i:Nat,i<=(Q l)/\F 19=N O i/\F 3=N O (Sq l i)/\∀j,j<i->RE p l j=true)
   (fun F _=>(Q l)-(vi (F 19)).toNat) rfl ⟨Zk.refl _ _,rfl,rfl,rfl,0,nc,rfl,rfl,fun j hj=>by omega⟩ ?_
  rintro F g ⟨hg,f1,f17,f18,i,hi,f19,f3,XY⟩;have PU:=hg.size;have CV:Zk h.size h g:=gU.trans (hg.mono nc);by_cases ZU:i<(Q l)
  .have Z8:(i:Int)<(Q l):=nc;obtain⟨bb,oo,rfl,Tm,GJ,XE⟩:=XE (by intro e;rw[e]at ZU;simp at ZU);have Zsh:bb<H.size:=by have:=gU.size;omega
   have r1:rd g ⟨bb,oo+i*8,Y⟩ 8=W (Zv l[i]):=by
    rw[QU CV (by exact Tm)];exact XE i ZU
   have rp:rd g ⟨h.size,0,Y⟩ 2=W [N O p.r,N O p.n]:=by rw[QU hg (by exact hz),YJ x0 (by simp[Xu])];rfl
   have hsl:=OL ZU;have gl:=Dn (p:=p) ZU;obtain⟨v,hv⟩:=ZQ (l[i]);rw[<-hv]at r1 gl hsl;unfold Zv at r1;have XC:Sq l (i+1)=v.Zu:=by unfold Sq;rw[if_neg nc,bA];exact hsl
   simp -implicitDefEqProofs only[go_sem,f1,f17,f18,f19,Z8,r1];refine (HC T _ v).use ?_;rintro _ g1 ⟨rfl,b1⟩;have b1s:=b1.size;simp only[aw]at b1s;have y0:g1[g.size]? = W (R [N O v.Zu,N O v.b.r,N O v.b.n,N O v.k,N O v.c,N O v.s,N O v.nm,N O v.v].toArray 133):=b1.get Hg Zc;have y1:hc g1 ⟨g.size,0,Y⟩=W (N O v.Zu):=by rw[Zn y0];rfl
   have y2:rd g1 ⟨g.size,1,Y⟩ 2=W [N O v.b.r,N O v.b.n]:=by rw[YJ y0 Hg];rfl
   have BZ:Zk g.size g g1:=(Zk.push (a5 _) _).trans (b1.mono Hg);have y3:rd g1 ⟨h.size,0,Y⟩ 2=W [N O p.r,N O p.n]:=by rw[QU BZ (by show h.size<g.size;omega)];exact rp
   have WT:Zk h.size h g1:=CV.trans (BZ.mono nc);have Ns:Zk H.size H g1:=hg.trans (BZ.mono nc);by_cases c1:Ym v
   .by_cases c2:v.Zu<=Sq l i
    .have e:=WE (p:=p) ZU (by cases AG:RE p l i with|false=>rfl|true=>exact absurd (gl.1 AG).2.2 nc);simp -implicitDefEqProofs only[go_sem,f1,f3,c1,c2,y1,e,WT]
    .simp -implicitDefEqProofs only[go_sem,f1,f3,c1,c2,y1,y2,y3];refine (Tn T _ v.b p).use ?_;rintro _ g2 ⟨rfl,b2⟩;have y4:hc g2 ⟨g.size,0,Y⟩=W (N O v.Zu):=by rw[b2.hc (by show g.size<g1.size;omega)];exact y1
     have Py:Zk h.size h g2:=WT.trans (b2.mono (by have:=WT.size;omega));have Wn:Zk H.size H g2:=Ns.trans (b2.mono (by have:=Ns.size;omega));by_cases c3:ZL p v.b
     .have e:=WE (p:=p) ZU (by cases AG:RE p l i with|false=>rfl|true=>exact absurd c3 (gl.1 AG).2.1);have xr:=(SX v.b p).2 c3;simp -implicitDefEqProofs only[go_sem,xr,e,Py]
     .have xr:¬0<Ke v.b p:=fun h=>c3 ((SX v.b p).1 h);simp -implicitDefEqProofs only[go_sem,xr,f1,f17,f18,f19,y4];refine⟨⟨Wn,f1,f17,f18,i+1,ZU,rfl,by rw[XC];rfl,fun j hj=>?_⟩,?_⟩
      .by_cases TO:j=i
       .subst TO;exact gl.2 ⟨c1,c3,nc⟩
       .exact XY j nc
      .simp only[vi,Zr,↓reduceIte,f19];omega
   .have e:=WE (p:=p) ZU (by cases AG:RE p l i with|false=>rfl|true=>exact absurd (gl.1 AG).1 c1);simp -implicitDefEqProofs only[go_sem,c1,e,WT]
  .have Xp:¬(i:Int)<(Q l):=nc;obtain rfl:i=(Q l):=nc;have e:=P9 Ce XY;simp -implicitDefEqProofs only[go_sem,f17,f18,f19,Xp,e,CV]
 .have z':¬p.r=0\/¬p.n=0:=nc;by_cases q:ZF p
  .have Ce:¬(¬ZF p/\¬(p.r=0/\p.n=0)):=fun h=>h.1 q;have zz:(p.r=0/\p.n=0)=False:=eq_false z;by_cases z1:p.r=0
   .have z2:¬p.n=0:=fun e=>z ⟨z1,e⟩;exact absurd q.1.1 nc
   .simp -implicitDefEqProofs only[go_sem,z1];refine (SY T _ p).use ?_;rintro _ _ ⟨rfl,rfl⟩;simp -implicitDefEqProofs only[go_sem,q];obtain⟨H,hH⟩:=ZQ ((h.push (R [N O p.r,N O p.n,X pv (Q l) cv].toArray 105)).push (R (Qz p).toArray 102):Hp);have x0:H[h.size]? = W (R (Xu p (X pv (Q l) cv)).toArray 105):=by rw[hH];simp only[aU,aw,a4,↓reduceIte];rfl
    have gU:Zk h.size h H:=by rw[hH];(repeat' (first|exact Zk.refl _ _|assumption|refine Zk.add ?_ _|refine Zk.Zt ?_ aab _|refine Zk.trans aac ?_))
    rw[<-hH];clear hH;have hz:=Za x0;refine VS.Yj (fun F g=>Zk H.size H g/\F 1=al (W ⟨h.size,0,Y⟩)/\F 17=X pv (Q l) cv/\F 18=N O (Q l)/\∃i:Nat,i<=(Q l)/\F 19=N O i/\F 3=N O (Sq l i)/\∀j,j<i->RE p l j=true)
     (fun F _=>(Q l)-(vi (F 19)).toNat) rfl ⟨Zk.refl _ _,rfl,rfl,rfl,0,nc,rfl,rfl,fun j hj=>by omega⟩ ?_
    rintro F g ⟨hg,f1,f17,f18,i,hi,f19,f3,XY⟩;have PU:=hg.size;have CV:Zk h.size h g:=gU.trans (hg.mono nc);by_cases ZU:i<(Q l)
    .have Z8:(i:Int)<(Q l):=nc;obtain⟨bb,oo,rfl,Tm,GJ,XE⟩:=XE (by intro e;rw[e]at ZU;simp at ZU);have Zsh:bb<H.size:=by have:=gU.size;omega
     have r1:rd g ⟨bb,oo+i*8,Y⟩ 8=W (Zv l[i]):=by
      rw[QU CV (by exact Tm)];exact XE i ZU
     have rp:rd g ⟨h.size,0,Y⟩ 2=W [N O p.r,N O p.n]:=by rw[QU hg (by exact hz),YJ x0 (by simp[Xu])];rfl
     have hsl:=OL ZU;have gl:=Dn (p:=p) ZU;obtain⟨v,hv⟩:=ZQ (l[i]);rw[<-hv]at r1 gl hsl;unfold Zv at r1;have XC:Sq l (i+1)=v.Zu:=by unfold Sq;rw[if_neg nc,bA];exact hsl
     simp -implicitDefEqProofs only[go_sem,f1,f17,f18,f19,Z8,r1];refine (HC T _ v).use ?_;rintro _ g1 ⟨rfl,b1⟩;have b1s:=b1.size;simp only[aw]at b1s;have y0:g1[g.size]? = W (R [N O v.Zu,N O v.b.r,N O v.b.n,N O v.k,N O v.c,N O v.s,N O v.nm,N O v.v].toArray 133):=b1.get Hg Zc;have y1:hc g1 ⟨g.size,0,Y⟩=W (N O v.Zu):=by rw[Zn y0];rfl
     have y2:rd g1 ⟨g.size,1,Y⟩ 2=W [N O v.b.r,N O v.b.n]:=by rw[YJ y0 Hg];rfl
     have BZ:Zk g.size g g1:=(Zk.push (a5 _) _).trans (b1.mono Hg);have y3:rd g1 ⟨h.size,0,Y⟩ 2=W [N O p.r,N O p.n]:=by rw[QU BZ (by show h.size<g.size;omega)];exact rp
     have WT:Zk h.size h g1:=CV.trans (BZ.mono nc);have Ns:Zk H.size H g1:=hg.trans (BZ.mono nc);by_cases c1:Ym v
     .by_cases c2:v.Zu<=Sq l i
      .have e:=WE (p:=p) ZU (by cases AG:RE p l i with|false=>rfl|true=>exact absurd (gl.1 AG).2.2 nc);simp -implicitDefEqProofs only[go_sem,f1,f3,c1,c2,y1,e,WT]
      .simp -implicitDefEqProofs only[go_sem,f1,f3,c1,c2,y1,y2,y3];refine (Tn T _ v.b p).use ?_;rintro _ g2 ⟨rfl,b2⟩;have y4:hc g2 ⟨g.size,0,Y⟩=W (N O v.Zu):=by rw[b2.hc (by show g.size<g1.size;omega)];exact y1
       have Py:Zk h.size h g2:=WT.trans (b2.mono (by have:=WT.size;omega));have Wn:Zk H.size H g2:=Ns.trans (b2.mono (by have:=Ns.size;omega));by_cases c3:ZL p v.b
       .have e:=WE (p:=p) ZU (by cases AG:RE p l i with|false=>rfl|true=>exact absurd c3 (gl.1 AG).2.1);have xr:=(SX v.b p).2 c3;simp -implicitDefEqProofs only[go_sem,xr,e,Py]
       .have xr:¬0<Ke v.b p:=fun h=>c3 ((SX v.b p).1 h);simp -implicitDefEqProofs only[go_sem,xr,f1,f17,f18,f19,y4];refine⟨⟨Wn,f1,f17,f18,i+1,ZU,rfl,by rw[XC];rfl,fun j hj=>?_⟩,?_⟩
        .by_cases TO:j=i
         .subst TO;exact gl.2 ⟨c1,c3,nc⟩
         .exact XY j nc
        .simp only[vi,Zr,↓reduceIte,f19];omega
     .have e:=WE (p:=p) ZU (by cases AG:RE p l i with|false=>rfl|true=>exact absurd (gl.1 AG).1 c1);simp -implicitDefEqProofs only[go_sem,c1,e,WT]
    .have Xp:¬(i:Int)<(Q l):=nc;obtain rfl:i=(Q l):=nc;have e:=P9 Ce XY;simp -implicitDefEqProofs only[go_sem,f17,f18,f19,Xp,e,CV]
  .have e:Jy p l=5:=by unfold Jy;rw[if_pos ⟨q,z⟩]
   by_cases z1:p.r=0
   .have z2:¬p.n=0:=fun e=>z ⟨z1,e⟩;have hb:=SY T (h.push (R [N O 0,N O p.n,X pv (Q l) cv].toArray 105)) p;simp -implicitDefEqProofs only[go_sem,z1,z2];unfold Qz at hb;rw[z1]at hb;refine hb.use ?_;rintro _ _ ⟨rfl,rfl⟩;simp -implicitDefEqProofs only[go_sem,q,e]
   .simp -implicitDefEqProofs only[go_sem,z1];refine (SY T _ p).use ?_;rintro _ _ ⟨rfl,rfl⟩;simp -implicitDefEqProofs only[go_sem,q,e]
theorem Sr(h:Hp)(u:a0)(l:List Vt)(s:Ts Zv 8 h u l)(hl:(Q l)<=2199023255552):
  Zd ba T 121 #[u] h fun v' h'=>Qv h.size 133 Zv 8 h' v' l/\Zk h.size h h':=by
 obtain⟨p,c,rfl,Wr⟩:=WD s;refine Zd.XS [_] Tryz.func121 ?_
 cases p with
 | none=>
  have:l=[]:=by
   cases l with
   | nil=>rfl
   | cons x l=>obtain⟨b,o,hp,_⟩:=Wr Hg;cases hp
  subst this;simp -implicitDefEqProofs only[go_sem];exact Qv.nil _ _ _ _ _
 | some a=>
  simp -implicitDefEqProofs only[go_sem];refine SP (E:=133) (B:=h.size) (n:=8) (bytes:=64) PK Tryz.underlying103 MT kS rfl kR (fun _=>rfl) (Qv.Eo _ _ Zv 8 _ _) Hg (s.Yy (Zk.push (a5 _) _)) KQ nc ?_;intro v' h' ho hb _;simp -implicitDefEqProofs only[go_sem];exact⟨by simpa using ho,(Zk.push (a5 _) _).trans hb⟩
def YG(p:Yw)(l:List Vt)(b:Yw):Int:=if Jy p l≠0 then 5 else if ¬ZF b then 2 else if ZL b p then 7 else 0
theorem Io(p:Yw)(l:List Vt):Jy p l=0\/Jy p l=5:=by
 unfold Jy
 repeat' split
 all_goals simp
def ar(B:Nat)(h':Hp)(v':a0)(p:Yw)(l:List Vt)(b:Yw):Prop:=∃w1 w2,v'=.tuple [aI (Xu (if YG p l b=0 then b else ⟨0,0⟩) w1).toArray,w2,N O (YG p l b)].toArray /\
 Qv B 133 Zv 8 h' w1 (if YG p l b=0 then l else [])/\Qv B 133 Zv 8 h' w2 (if YG p l b=0 then l else [])
theorem RF(h:Hp)(p:Yw)(u:a0)(l:List Vt)(b:Yw)(s:Ts Zv 8 h u l)(hl:(Q l)<=2199023255552):
  Zd ba T 95 #[aI (Xu p u).toArray,aI (Qz b).toArray] h fun v' h'=>ar h.size h' v' p l b/\Zk h.size h h':=by
 obtain⟨pu,cu,rfl,Wr⟩:=WD s;refine Zd.MQ [_,_] Tryz.func95 ?_;unfold Xu Qz;simp -implicitDefEqProofs only[go_sem];have SZ:Zk h.size h ((((h.push (R [N O p.r,N O p.n,X pu (Q l) cu].toArray 105)).push (R [N O b.r,N O b.n].toArray 102)).push (R [N O 0,N O 0,X Y 0 0].toArray 105))):=by (repeat' (first|exact Zk.refl _ _|assumption|refine Zk.add ?_ _|refine Zk.Zt ?_ (by first|omega|(simp;omega)) _|refine Zk.trans (by assumption) ?_))
 refine (Nr T _ p _ l (s.Yy SZ) (by omega)).use ?_;rintro _ g1 ⟨rfl,b1⟩;have x0:g1[h.size]? = W (R (Xu p (X pu (Q l) cu)).toArray 105):=b1.get (by simp only[aw];omega) (by simp only[aU,aw,a4,↓reduceIte,Xu]);have x1:g1[h.size+1]? = W (R [N O b.r,N O b.n].toArray 102):=b1.get (by simp only[aw];omega) (by simp only[aU,aw,a4,↓reduceIte]);have x2:g1[h.size+2]? = W (R [N O 0,N O 0,X Y 0 0].toArray 105):=b1.get (by simp only[aw];omega) (by simp only[aU,aw,a4,↓reduceIte]);have WT:Zk h.size h g1:=SZ.trans (b1.mono (by simp;omega));have z1:=Za x2;clear b1 SZ;have fin:∀(G:Hp) (w:List a0),(Q w)=3->w.all YC=true->G[h.size+2]? = W (R [N O 0,N O 0,X Y 0 0].toArray 105)->wr G ⟨h.size+1+1,0,Y⟩ w=W (G.setIfInBounds (h.size+1+1) (R w.toArray 105)):=by
  intro G w h3 h1 hx;rw[Ye (b:=h.size+1+1) hx 0 w,Z3 (by rw[h3];rfl),if_pos ⟨by rw[h3];simp,h1⟩]
 unfold ar;rcases Io p l with e0|e0
 .have r1:=Zy x1 (n:=2) rfl;simp -implicitDefEqProofs only[go_sem,e0,r1];refine (SY T _ b).use ?_;rintro _ _ ⟨rfl,rfl⟩;by_cases q1:ZF b
  .have rp:rd g1 ⟨h.size,0,Y⟩ 2=W [N O p.r,N O p.n]:=by rw[YJ x0 (by simp[Xu])];rfl
   have z2:h.size<g1.size:=by omega
   have z3:h.size+1<g1.size:=by omega
   unfold Qz;simp -implicitDefEqProofs only[go_sem,q1,r1,rp,z2,z3];refine (Tn T _ b p).use ?_;rintro _ g2 ⟨rfl,b2⟩;have au:Zk g1.size g1 g2:=(Zk.push (a5 _) _).trans (b2.mono (by simp));have x0':=au.get z2 x0;have x1':=au.get z3 x1;have x2':=au.get z1 x2;have Py:=WT.trans (au.mono WT.size);have z5:=Za x2';by_cases q2:ZL b p
   .have e:YG p l b=7:=by unfold YG;rw[if_neg (by rw[e0];decide),if_neg (fun h=>h q1),if_pos q2]
    have w2:=fin g2 [N O 0,N O 0,X Y 0 0] rfl rfl x2';have c2':Ke b p<0:=(La b p).2 q2;simp -implicitDefEqProofs only[go_sem,c2',e,w2,z5];refine⟨⟨_,_,rfl,Qv.nil _ _ _ _ _,Qv.nil _ _ _ _ _⟩,?_⟩;exact Py.Zt (by omega) _
   .have e:YG p l b=0:=by unfold YG;rw[if_neg (by rw[e0];decide),if_neg (fun h=>h q1),if_neg q2]
    have r1':=Zy x1' (n:=2) rfl;have rv:hc g2 ⟨h.size,2,Y⟩=W (X pu (Q l) cu):=by rw[Zn x0'];rfl
    have c2':¬Ke b p<0:=fun h=>q2 ((La b p).1 h);simp -implicitDefEqProofs only[go_sem,c2'];refine VS.w (h.size+2) [] (.q 0 (.q 1 (.q 2 (.q 5 (.q 6 (.s 3 (.q 4 (.s 7 (.s 8 (.q 9 (.q 10 .nil))))))))))) mixed (by kernel_rfl) ?_;have z6:h.size<h.size+2:=by omega
    have z7:h.size+1<h.size+2:=by omega
    simp -implicitDefEqProofs only[go_sem,r1',rv,z6,z7];refine (Sr T _ _ l (s.Yy Py) hl).use ?_;rintro w1 g3 ⟨o1,b3⟩;obtain⟨p1,c1,rfl,_⟩:=o1.open;have b3':Zk (h.size+2) g2 g3:=b3.mono (by omega);simp -implicitDefEqProofs only[go_sem];refine⟨b3',?_⟩;refine (Sr T _ _ l ((s.Yy Py).Yy b3) hl).use ?_;rintro w2 g4 ⟨o2,b4⟩;have b3s:=b3.size;have b4s:=b4.size;have gW:Zk (h.size+2) g2 g4:=b3'.trans (b4.mono (by omega));have Zky:g4[h.size+2]? = W (R [N O 0,N O 0,X Y 0 0].toArray 105):=b4.get (by omega) (b3.get z5 x2');have z8:=Za Zky;have wf:=fin g4 [N O b.r,N O b.n,X p1 (Q l) c1] rfl rfl Zky;have lu:=Py.trans ((b3.trans (b4.mono b3s)).mono Py.size);simp -implicitDefEqProofs only[go_sem,e,wf,z8];refine⟨gW,gW.Zt (by omega) _,⟨_,_,rfl,?_,?_⟩,?_⟩
    .exact (((o1.Yy b4 (a5 _)).mono (B':=h.size+1+1+1) (by omega)).Ya (by omega) _).mono (by omega)
    .exact ((o2.mono (B':=h.size+1+1+1) (by omega)).Ya (by omega) _).mono (by omega)
    .exact lu.Zt (by omega) _
  .have e:YG p l b=2:=by unfold YG;rw[if_neg (by rw[e0];decide),if_pos q1]
   have w2:=fin g1 [N O 0,N O 0,X Y 0 0] rfl rfl x2;simp -implicitDefEqProofs only[go_sem,q1,e,w2,z1];exact⟨⟨_,_,rfl,Qv.nil _ _ _ _ _,Qv.nil _ _ _ _ _⟩,(WT.Zt (by omega) _).YU (by simp;omega) _⟩
 .have e:YG p l b=5:=by unfold YG;rw[if_pos (by rw[e0];decide)]
  have w2:=fin g1 [N O 0,N O 0,X Y 0 0] rfl rfl x2;simp -implicitDefEqProofs only[go_sem,e0,e,w2,z1];exact⟨⟨_,_,rfl,Qv.nil _ _ _ _ _,Qv.nil _ _ _ _ _⟩,WT.Zt (by omega) _⟩
def Srt(l:List Vt):Prop:=∀i j (hi:i<(Q l)) (hj:j<(Q l)),i<j->l[i].Zu<l[j].Zu
theorem Lc{p:Yw}{l:List Vt}(h:Jy p l=0):∀j,j<(Q l)->RE p l j=true:=by
 intro j hj;unfold Jy at h;split at h
 .cases h
 .split at h
  .rename_i XY;exact bG.1 XY j (b8.2 hj)
  .cases h
theorem GK{p:Yw}{l:List Vt}(h:Jy p l=0):Srt l:=by
 have hg:=Lc h;intro i j
 induction j with
 | zero=>intro _ _ h;omega
 | succ j ih=>
  intro hi hj tp;have h1:=(Lb hj).1 (hg _ hj);have h2:Kf l j<l[j+1].Zu:=by
   rcases h1.2.2 with h|h
   .omega
   .simpa using h
  rw[OL nc]at h2;by_cases e:i=j
  .subst e;exact h2
  .exact Int.lt_trans (ih hi nc nc) h2
theorem gX{p:Yw}{l:List Vt}(h:Jy p l=0):∀x∈l,Ym x:=by
 intro x hx;obtain⟨j,hj,rfl⟩:=bd.1 hx;exact ((Lb hj).1 (Lc h j hj)).1
def Jz(l:List Vt)(v:Vt):List Vt:=l.filter (fun x=>decide (x.Zu<v.Zu))++v :: l.filter (fun x=>decide (v.Zu<x.Zu))
theorem Ip{α:Type}(q:α->Bool)(l:List α)(i:Nat)(h1:∀j (hj:j<(Q l)),j<i->q l[j]=true)(h2:∀j (hj:j<(Q l)),i<=j->q l[j]=false):l.filter q=l.take i:=by
 conv=>lhs;rw[<-bw i l]
 rw[cg,cf.2,bT.2,a8]
 .intro x hx;obtain⟨j,hj,rfl⟩:=bd.1 hx;rw[cq];rw[h2 _ (by rw[bf]at hj;omega) nc];decide
 .intro x hx;obtain⟨j,hj,rfl⟩:=bd.1 hx;rw[bl]at hj;rw[cr];exact h1 _ nc nc
theorem Iq{α:Type}(q:α->Bool)(l:List α)(i:Nat)(h1:∀j (hj:j<(Q l)),j<i->q l[j]=false)(h2:∀j (hj:j<(Q l)),i<=j->q l[j]=true):l.filter q=l.drop i:=by
 conv=>lhs;rw[<-bw i l]
 rw[cg,bT.2,cf.2,List.nil_append]
 .intro x hx;obtain⟨j,hj,rfl⟩:=bd.1 hx;rw[cq];exact h2 _ (by rw[bf]at hj;omega) nc
 .intro x hx;obtain⟨j,hj,rfl⟩:=bd.1 hx;rw[bl]at hj;rw[cr,h1 _ nc nc];decide
theorem xt{l:List Vt}(hs:Srt l){v:Vt}(hi:i<(Q l))(he:l[i].Zu=v.Zu):Jz l v=l.set i v:=by
 have a1:l.filter (fun x=>decide (x.Zu<v.Zu))=l.take i:=Ip _ _ _
  (fun j hj TO=>decide_eq_true (by have:=hs j i hj hi TO;omega))
  (fun j hj tp=>decide_eq_false (by
    by_cases e:i=j
    .subst e;omega
    .have:=hs i j hi hj nc;omega))
 have a2:l.filter (fun x=>decide (v.Zu<x.Zu))=l.drop (i+1):=Iq _ _ _
  (fun j hj TO=>decide_eq_false (by
    by_cases e:j=i
    .subst e;omega
    .have:=hs j i hj hi nc;omega))
  (fun j hj tp=>decide_eq_true (by have:=hs i j hi hj nc;omega))
 rw[Jz,a1,a2,List.set_eq_take_append_cons_drop,if_pos hi]
theorem xu{l:List Vt}(hs:Srt l){v:Vt}(hi:i<=(Q l))(h1:∀j (hj:j<(Q l)),j<i->l[j].Zu<v.Zu)(h2:∀j (hj:j<(Q l)),i<=j->v.Zu<l[j].Zu):Jz l v=l.take i++v :: l.drop i:=by
 have a1:l.filter (fun x=>decide (x.Zu<v.Zu))=l.take i:=Ip _ _ _ (fun j hj TO=>decide_eq_true (h1 j hj TO)) (fun j hj tp=>decide_eq_false (by have:=h2 j hj tp;omega));have a2:l.filter (fun x=>decide (v.Zu<x.Zu))=l.drop i:=Iq _ _ _ (fun j hj TO=>decide_eq_false (by have:=h1 j hj TO;omega)) (fun j hj tp=>decide_eq_true (h2 j hj tp));rw[Jz,a1,a2]
def XW:List Nat->Nat
 | []=>0
 | x :: l=>x+256*XW l
def Dg(l:List Nat):Prop:=∀x∈l,x<256
theorem Dg.getD(w:Dg l)(i:Nat):l.getD i 0<256:=Z2 w i
theorem Dg.set{x:Nat}(w:Dg l)(i:Nat)(hx:x<256):Dg (l.set i x):=by
 intro y hy;rcases bB hy with h|h
 .exact w y h
 .rw[h];exact hx
theorem Zch(w:Dg l):XW l<256 ^ (Q l):=by
 induction l with
 | nil=>simp[XW]
 | cons x l ih=>
  have h1:=ih fun y hy=>w y (b9 _ hy);have h2:=w x ch;simp only[XW,bK,b0];omega
theorem gY(w:Dg l)(i:Nat):l.getD i 0=XW l/256 ^ i%256:=by
 induction l generalizing i with
 | nil=>simp[XW]
 | cons x l ih=>
  have hx:=w x ch
  cases i with
  | zero=>simp only[bx,XW,Nat.pow_zero,Nat.div_one];omega
  | succ i=>
   rw[bz,ih (fun y hy=>w y (b9 _ hy)) i,XW,b0,bn (256 ^ i) 256,<-Nat.div_div_eq_div_mul]
   congr 2
   omega
theorem getD_none(hi:¬i<(Q l)):l.getD i 0=0:=by
 rw[aa,b7 nc];rfl
def uv(x:Nat):a0:=N S (x:Nat)
def W26:Nat:=67108864
def CW(n Z4:Nat):List Nat:=[n%67108864,n/67108864%67108864,n/4503599627370496%67108864,n/302231454903657293676544%67108864,n/20282409603651670423947251286016+Z4*16777216]
theorem HD(x n:Nat)(hn:n<=64):Xm S (x:Int) (n:Int)=((x*2 ^ n%18446744073709551616:Nat):Int):=by
 rw[Cq S x n (by show n<=64;omega),ME];rfl
theorem OM(x n:Nat)(hn:n<=64):Xx S (x:Int) (n:Int)=((x/2 ^ n:Nat):Int):=by
 rw[OG S x n (by show n<=64;omega),Nat.shiftRight_eq_div_pow]
theorem Oa(x:Nat)(hx:x<18446744073709551616):YM .and S (x:Int) 67108863=((x%67108864:Nat):Int):=by
 have h:=ZbV x 67108863 hx aaa;have e:x &&& 67108863=x%67108864:=Nat.and_two_pow_sub_one_eq_mod x 26;rw[e]at h;exact h
theorem lw(L b:Nat)(hL:L<72057594037927936)(hb:b<256):YM .or S ((L*256:Nat):Int) (b:Int)=((L*256+b:Nat):Int):=by
 rw[fW _ _ nc nc,Um (k:=8) nc nc]
theorem Zkz(L:Nat)(hL:L<72057594037927936):Xm S (L:Int) 8=((L*256:Nat):Int):=by
 have h:=HD L 8 aaa;rw[show L*2 ^ 8%18446744073709551616=L*256 by omega]at h;exact h
theorem av{m:Nat}(hm:m<(Q l)):XW (l.drop m)=l.getD m 0+256*XW (l.drop (m+1)):=by
 rw[List.drop_eq_getElem_cons hm];have e:l.getD m 0=l[m]:=by rw[aa,a7 hm];rfl
 rw[e];rfl
theorem Dg.drop(w:Dg l)(i:Nat):Dg (l.drop i):=fun x hx=>w x (List.mem_of_mem_drop hx)
theorem To(w:Dg l){n:Nat}(hn:(Q l)<=n):XW l<256 ^ n:=ck (Zch w) (Nat.pow_le_pow_right nc hn)
set_option maxHeartbeats 1000000 in
theorem Kg(h:Hp)(v:a0)(l:List Nat)(Z4:Nat)(s:Bs h v l)(hl:(Q l)=16)(ht:Z4<=1):
  Zd ba T 100 #[v,N S Z4] h fun v' h'=>v'=aI ((CW (XW l) Z4).map uv).toArray/\Zk h.size h h':=by
 have wb:=s.byte;obtain⟨p,c,rfl,hc⟩:=s.VA;obtain⟨bb,oo,rfl,Tm,hc⟩:=hc (by intro e;subst e;simp at hl);obtain⟨lo,hi,rfl,hlo,hhi⟩:∃lo hi:List Nat,l=lo++hi/\(Q lo)=8/\(Q hi)=8:=⟨l.take 8,l.drop 8,(bw 8 l).symm,by rw[bl];omega,by rw[bf];omega⟩
 have wlo:Dg lo:=fun x hx=>wb x (List.mem_append_left _ hx);have whi:Dg hi:=fun x hx=>wb x (List.mem_append_right _ hx);refine Zd.XS [_,_] Tryz.func100 ?_;simp -implicitDefEqProofs only[go_sem];obtain⟨Z,hZ⟩:∃Z:Obj,Z=R #[N S 0,N S 0,N S 0,N S 0,N S 0] 194:=⟨_,rfl⟩
 refine VS.Yj (fun F g=>g=h.push (R #[N S 0,N S 0,N S 0,N S 0,N S 0] 194)/\F 0=X (W ⟨bb,oo,Y⟩) (lo++hi).length c/\F 1=N S Z4/\F 4=al (W ⟨h.size,0,Y⟩)/\∃j:Nat,j<=8/\F 7=N O ((j:Int)-1)/\F 5=N S (XW (lo.drop j):Nat)/\F 6=N S (XW (hi.drop j):Nat))
  (fun F _=>(vi (F 7)+1).toNat) rfl ⟨rfl,rfl,rfl,rfl,8,by omega,rfl,by rw[b5 (by omega)];rfl,by rw[b5 (by omega)];rfl⟩ ?_
 rintro F g ⟨rfl,f0,f1,f4,j,hj,f7,f5,f6⟩;by_cases ZU:0<j
 .obtain⟨m,rfl⟩:∃m,j=m+1:=⟨j-1,by omega⟩
  have e1:((m+1:Nat):Int)-1=(m:Nat):=by omega
  rw[e1]at f7;have g1:=hc m (by omega);have g2:=hc (8+m) (by omega);have d1:(lo++hi).getD m 0=lo.getD m 0:=by rw[aa,List.getElem?_append_left (by omega),aa]
  have d2:(lo++hi).getD (8+m) 0=hi.getD m 0:=by rw[aa,List.getElem?_append_right (by omega),hlo,Nat.add_sub_cancel_left,aa]
  rw[d1]at g1;rw[d2]at g2;have x1:=wlo.getD m;have x2:=whi.getD m;have n1:XW (lo.drop m)=XW (lo.drop (m+1))*256+lo.getD m 0:=by rw[av (l:=lo) (by omega)];omega
  have n2:XW (hi.drop m)=XW (hi.drop (m+1))*256+hi.getD m 0:=by rw[av (l:=hi) (by omega)];omega
  have b1:=To (wlo.drop (m+1)) (n:=7) (by rw[bf];omega);have b2:=To (whi.drop (m+1)) (n:=7) (by rw[bf];omega);rw[show 256 ^ 7=72057594037927936 from rfl]at b1 b2;have s1:=Zkz _ b1;have s2:=Zkz _ b2;have o1:=lw _ _ b1 x1;have o2:=lw _ _ b2 x2;have em:(8:Int)+(m:Int)=((8+m:Nat):Int):=by omega
  have k1:(m:Int)<(lo++hi).length:=by omega
  have k2:((8+m:Nat):Int)<(lo++hi).length:=by omega
  have k0:(0:Int)<=m:=by omega
  have Zsk:bb<h.size:=Tm;have m1:((lo.getD m 0:Nat):Int)%18446744073709551616=(lo.getD m 0:Nat):=by omega
  have m2:((hi.getD m 0:Nat):Int)%18446744073709551616=(hi.getD m 0:Nat):=by omega
  simp -implicitDefEqProofs only[go_sem,f0,f1,f4,f5,f6,f7,m1,m2,k0,k1,k2,em,a3,Zsk,g1,g2,s1,s2,o1,o2];refine⟨⟨rfl,f0,f1,f4,m,by omega,rfl,?_,?_⟩,?_⟩
  .rw[n1];rfl
  .rw[n2];rfl
  .simp only[vi,Zr,↓reduceIte,f7];omega
 .obtain rfl:j=0:=by omega
  rw[List.drop_zero]at f5 f6;have k0:¬(0:Int)<=((0:Nat):Int)-1:=by omega
  have b1:=To wlo (n:=8) (by omega);have b2:=To whi (n:=8) (by omega);rw[show 256 ^ 8=18446744073709551616 from rfl]at b1 b2;have I3:XW (lo++hi)=XW lo+18446744073709551616*XW hi:=by
   have:∀a b:List Nat,XW (a++b)=XW a+256 ^ (Q a)*XW b:=by
    intro a b
    induction a with
    | nil=>simp[XW]
    | cons x a ih=>simp only[List.cons_append,XW,ih,bK,b0,ca,bC];congr 2;rw[<-a9,bn 256]
   rw[this,hlo]
  rw[I3];generalize XW lo=L at *;generalize XW hi=M at *;have q1:=Oa L b1;have q2:Xx S (L:Int) 26=((L/2 ^ 26:Nat):Int):=OM L 26 (by decide);have q3:=Oa (L/2 ^ 26) (by omega);have q4:Xx S (L:Int) 52=((L/2 ^ 52:Nat):Int):=OM L 52 (by decide);have q5:Xm S (M:Int) 12=((M*2 ^ 12%18446744073709551616:Nat):Int):=HD M 12 (by decide);have q6:=fW (L/2 ^ 52) (M*2 ^ 12%18446744073709551616) (by omega) (by omega);rw[Nat.or_comm,Um (k:=12) (by omega) (by omega)]at q6;have q7:=Oa (M*2 ^ 12%18446744073709551616+L/2 ^ 52) (by omega);have q8:Xx S (M:Int) 14=((M/2 ^ 14:Nat):Int):=OM M 14 (by decide);have q9:=Oa (M/2 ^ 14) (by omega);have q10:Xx S (M:Int) 40=((M/2 ^ 40:Nat):Int):=OM M 40 (by decide);have q11:Xm S (Z4:Int) 24=((Z4*2 ^ 24%18446744073709551616:Nat):Int):=HD Z4 24 (by decide);have q12:=fW (M/2 ^ 40) (Z4*2 ^ 24%18446744073709551616) (by omega) (by omega);rw[Nat.or_comm,Um (k:=24) (by omega) (by omega)]at q12;simp -implicitDefEqProofs only[go_sem,f0,f1,f4,f5,f6,f7,k0,q1,q2,q3,q4,q5,q6,q7,q8,q9,q10,q11,q12];have w1:L%67108864=(L+18446744073709551616*M)%67108864:=by omega
  have w2:L/2 ^ 26%67108864=(L+18446744073709551616*M)/67108864%67108864:=by omega
  have w3:(M*2 ^ 12%18446744073709551616+L/2 ^ 52)%67108864=(L+18446744073709551616*M)/4503599627370496%67108864:=by omega
  have w4:M/2 ^ 14%67108864=(L+18446744073709551616*M)/302231454903657293676544%67108864:=by omega
  have w5:Z4*2 ^ 24%18446744073709551616+M/2 ^ 40=(L+18446744073709551616*M)/20282409603651670423947251286016+Z4*16777216:=by omega
  rw[w1,w2,w3,w4,w5];rfl
def N9(l:List Nat)(i:Nat):List Nat:=
 if i<4 then (l.set i (l.getD i 0%67108864)).set (i+1) ((l.set i (l.getD i 0%67108864)).getD (i+1) 0+l.getD i 0/67108864)
 else (l.set i (l.getD i 0%67108864)).set 0 ((l.set i (l.getD i 0%67108864)).getD 0 0+5*(l.getD i 0/67108864))
def QH(l:List Nat):Nat->List Nat
 | 0=>l
 | i+1=>N9 (QH l i) i
def Y0(K:Nat)(l:List Nat):Prop:=∀x∈l,x<K
theorem Y0.getD{K:Nat}(w:Y0 K l)(hK:0<K)(i:Nat):l.getD i 0<K:=by
 by_cases hi:i<(Q l)
 .have e:l.getD i 0=l[i]:=by rw[aa,a7 hi];rfl
  rw[e];exact w _ (bR hi)
 .rw[getD_none hi];exact hK
theorem Y0.set{K:Nat}(w:Y0 K l)(i x:Nat)(hx:x<K):Y0 K (l.set i x):=by
 intro y hy;rcases bB hy with h|h
 .exact w y h
 .rw[h];exact hx
theorem Y0.mono{K K':Nat}(w:Y0 K l)(h:K<=K'):Y0 K' l:=fun x hx=>ck (w x hx) h
theorem EC(l:List Nat)(i:Nat):(N9 l i).length=(Q l):=by
 unfold N9;split<;>simp
theorem Nt(l:List Nat):∀i,(QH l i).length=(Q l)
 | 0=>rfl
 | i+1=>by rw[QH,EC,Nt l i]
theorem pD{K:Nat}(w:Y0 K l)(h0:67108864<=K)(hK:K<=2 ^ 62):Y0 (K+2 ^ 39) (N9 l i):=by
 have hx:=w.getD nc i;have w1:Y0 K (l.set i (l.getD i 0%67108864)):=w.set i _ nc;have hy:=w1.getD nc (i+1);have hz:=w1.getD nc 0;unfold N9;split
 .exact (w1.mono nc).set _ _ nc
 .exact (w1.mono nc).set _ _ nc
theorem Do{K:Nat}(w:Y0 K l)(h0:67108864<=K)(hK:K<=2 ^ 61):∀i,i<=5->Y0 (K+i*2 ^ 39) (QH l i)
 | 0,_=>by rw[ct,cx];exact w
 | i+1,hi=>by
  have:=pD (i:=i) (Do w h0 hK i nc) nc nc;rw[QH];exact this.mono nc
theorem Ld{j x:Nat}(h:i≠j):(l.set i x).getD j 0=l.getD j 0:=by
 rw[aa,aa,bh h]
def YT(l:List Nat):Obj:=R (l.map uv++[]).toArray 194
theorem lF(x:Nat):Xx S (x:Int) 26=((x/67108864:Nat):Int):=OM x 26 aaa
set_option maxHeartbeats 1000000 in
theorem hO(h:Hp)(bk:Nat)(l:List Nat)(hl:(Q l)=5)(w:Y0 (2 ^ 61) l)(hb:h[bk]? = W (YT l)):
  Zd ba T 127 #[al (W ⟨bk,0,Y⟩)] h fun v' h'=>∃a,a=QH l 5/\h'=h.setIfInBounds bk (YT ((a.set 1 (a.getD 1 0+a.getD 0 0/67108864)).set 0 (a.getD 0 0%67108864))):=by
 refine Zd.XS [_] Tryz.func127 ?_;simp -implicitDefEqProofs only[go_sem];refine VS.Yj (fun F g=>F 0=al (W ⟨bk,0,Y⟩)/\∃i:Nat,i<=5/\F 4=N O i/\g=h.setIfInBounds bk (YT (QH l i)))
  (fun F _=>5-(vi (F 4)).toNat) rfl ⟨rfl,0,nc,rfl,(Vd hb).symm⟩ ?_
 rintro F g ⟨f0,i,hi,f4,rfl⟩;have hx:=Yd (o:=YT (QH l i)) hb;have hw:=Do w aaa aaa i hi;have hw2:=hw.getD nc i;have hln:(QH l i).length=5:=by rw[Nt,hl]
 by_cases ZU:i<5
 .have Z8:(i:Int)<5:=nc;have XC:QH l (i+1)=N9 (QH l i) i:=rfl;obtain⟨a,ha⟩:=ZQ (QH l i);rw[<-ha]at hx hw hw2 hln XC ⊢;obtain⟨G,hG⟩:=ZQ (h.setIfInBounds bk (YT a));rw[<-hG]at hx ⊢;have g1:=Z6 hx (i:=i) nc;unfold uv at g1;obtain⟨x,hxx⟩:=ZQ (a.getD i 0);rw[<-hxx]at g1 hw2;have e1:=lF x;have e2:=Oa x nc;simp -implicitDefEqProofs only[go_sem,f0,f4,Z8,a3,be,g1,e1];refine VS.w (bk+1) [8] (.q 0 (.q 1 (.q 2 (.q 3 (.q 4 (.q 5 (.q 6 (.q 7 (.w 8 .nil))))))))) mixed uf ?_;have c1:QP _ ⟨bk,i,Y⟩ (N S (x%67108864:Nat))=_:=Yu (f:=uv) hx (i:=i) nc (x%67108864) rfl;have UY:=Yd (o:=R ((a.set i (x%67108864)).map uv++[]).toArray 194) hx;have hU:=hw.set i (x%67108864) nc;have Wr:N9 a i=if i<4 then (a.set i (x%67108864)).set (i+1) ((a.set i (x%67108864)).getD (i+1) 0+x/67108864) else (a.set i (x%67108864)).set 0 ((a.set i (x%67108864)).getD 0 0+5*(x/67108864)):=by rw[hxx];rfl
  have wZ:(a.set i (x%67108864)).length=5:=by rw[bc,hln]
  obtain⟨a1,ha1⟩:=ZQ (a.set i (x%67108864));rw[<-ha1]at UY hU Wr wZ c1;obtain⟨G1,tJ⟩:=ZQ (G.setIfInBounds bk (R (a1.map uv++[]).toArray 194));rw[<-tJ]at UY c1;by_cases h4:i<4
  .have h4':(i:Int)<4:=nc;rw[if_pos h4]at Wr;simp -implicitDefEqProofs only[go_sem,f0,f4,Z8,a3,be,g1,e1,e2,c1,h4'];refine VS.w (bk+1) [10] (.q 0 (.q 1 (.q 2 (.q 3 (.q 4 (.q 5 (.q 6 (.q 7 (.q 8 (.q 9 (.w 10 .nil))))))))))) mixed uf ?_;have g2:=Z6 UY (i:=i+1) nc;unfold uv at g2;have hy:=hU.getD nc (i+1);obtain⟨y,hyy⟩:=ZQ (a1.getD (i+1) 0);rw[<-hyy]at g2 hy Wr;have e3:(y:Int)+((x/67108864:Nat):Int)=((y+x/67108864:Nat):Int):=nc;have e4:((y+x/67108864:Nat):Int)%18446744073709551616=((y+x/67108864:Nat):Int):=nc;have ei:(i:Int)+1=((i+1:Nat):Int):=rfl;have hi1:((i+1:Nat):Int)<5:=nc;have c2:QP G1 ⟨bk,i+1,Y⟩ (N S (y+x/67108864:Nat))=_:=Yu (f:=uv) UY (i:=i+1) nc (y+x/67108864) rfl;simp -implicitDefEqProofs only[go_sem,f0,f4,Z8,ei,hi1,a3,be,g2,e3,e4,c2];refine⟨⟨f0,i+1,ZU,rfl,?_⟩,?_⟩
   .rw[tJ,set_set,hG,set_set,XC,Wr];rfl
   .simp only[vi,Zr,↓reduceIte,f4];omega
  .have h4':¬(i:Int)<4:=nc;rw[if_neg h4]at Wr;simp -implicitDefEqProofs only[go_sem,f0,f4,Z8,a3,be,g1,e1,e2,c1,h4'];refine VS.w (bk+1) [9] (.q 0 (.q 1 (.q 2 (.q 3 (.q 4 (.q 5 (.q 6 (.q 7 (.q 8 (.w 9 .nil)))))))))) mixed uf ?_;have g2:=Z6 UY (i:=0) nc;unfold uv at g2;have hy:=hU.getD nc 0;obtain⟨y,hyy⟩:=ZQ (a1.getD 0 0);rw[<-hyy]at g2 hy Wr;have e5:(5:Int)*((x/67108864:Nat):Int)=((5*(x/67108864):Nat):Int):=nc;have e6:((5*(x/67108864):Nat):Int)%18446744073709551616=((5*(x/67108864):Nat):Int):=nc;have e3:(y:Int)+((5*(x/67108864):Nat):Int)=((y+5*(x/67108864):Nat):Int):=nc;have e4:((y+5*(x/67108864):Nat):Int)%18446744073709551616=((y+5*(x/67108864):Nat):Int):=nc;have c2:QP G1 ⟨bk,0,Y⟩ (N S (y+5*(x/67108864):Nat))=_:=Yu (f:=uv) UY (i:=0) nc (y+5*(x/67108864)) rfl;simp -implicitDefEqProofs only[go_sem,f0,f4,Z8,a3,be,g2,e3,e4,e5,e6,c2];refine⟨⟨f0,i+1,ZU,rfl,?_⟩,?_⟩
   .rw[tJ,set_set,hG,set_set,XC,Wr];rfl
   .simp only[vi,Zr,↓reduceIte,f4];omega
 .have Xp:¬(i:Int)<5:=nc;obtain rfl:i=5:=nc;obtain⟨a,ha⟩:=ZQ (QH l 5);rw[<-ha]at hx hw hw2 hln ⊢;obtain⟨G,hG⟩:=ZQ (h.setIfInBounds bk (YT a));rw[<-hG]at hx ⊢;have g0:=Z6 hx (i:=0) nc;have g1:=Z6 hx (i:=1) nc;have y0:=hw.getD nc 0;have y1:=hw.getD nc 1;unfold uv at g0 g1;obtain⟨x,hxx⟩:=ZQ (a.getD 0 0);obtain⟨y,hyy⟩:=ZQ (a.getD 1 0);rw[<-hxx]at g0 y0;rw[<-hyy]at g1 y1;have e1:=lF x;have e2:=Oa x nc;have e3:(y:Int)+((x/67108864:Nat):Int)=((y+x/67108864:Nat):Int):=nc;have e4:((y+x/67108864:Nat):Int)%18446744073709551616=((y+x/67108864:Nat):Int):=nc;have c5:((5:Nat):Int)=5:=rfl;rw[c5]at f4 Xp;simp -implicitDefEqProofs only[go_sem,f0,f4,Xp];refine VS.w (bk+1) [12] (.q 0 (.q 1 (.q 2 (.q 3 (.q 4 (.q 5 (.q 6 (.q 7 (.q 8 (.q 9 (.q 10 (.q 11 (.w 12 .nil))))))))))))) mixed uf ?_;have c1:QP G ⟨bk,1,Y⟩ (N S (y+x/67108864:Nat))=_:=Yu (f:=uv) hx (i:=1) nc (y+x/67108864) rfl;have UY:=Yd (o:=R ((a.set 1 (y+x/67108864)).map uv++[]).toArray 194) hx;have wZ:(a.set 1 (y+x/67108864)).length=5:=by rw[bc,hln]
  obtain⟨a1,ha1⟩:=ZQ (a.set 1 (y+x/67108864));rw[<-ha1]at UY wZ c1;obtain⟨G1,tJ⟩:=ZQ (G.setIfInBounds bk (R (a1.map uv++[]).toArray 194));rw[<-tJ]at UY c1;have g2:=Z6 UY (i:=0) nc;unfold uv at g2;have g2e:a1.getD 0 0=x:=by rw[ha1,Ld aaa,<-hxx]
  rw[g2e]at g2;simp -implicitDefEqProofs only[go_sem,f0,be,g0,g1,e1,e3,e4,c1];refine VS.w (bk+1) [7] (.q 0 (.q 1 (.q 2 (.q 3 (.q 4 (.q 5 (.q 6 (.w 7 .nil)))))))) mixed uf ?_;have c2:QP G1 ⟨bk,0,Y⟩ (N S (x%67108864:Nat))=_:=Yu (f:=uv) UY (i:=0) nc (x%67108864) rfl;simp -implicitDefEqProofs only[go_sem,f0,be,g2,e2,c2];rw[tJ,set_set,hG,set_set,ha1];exact⟨a,rfl,by rw[<-hxx,<-hyy];rfl⟩
theorem getD_set_ne{j x:Nat}(h:i≠j):(l.set i x).getD j 0=l.getD j 0:=by
 rw[aa,aa,bh h]
def H16:Nat:=256 ^ 16
def S3:Nat:=4*256 ^ 16-5
def Y6:List Nat->Nat
 | []=>0
 | x :: l=>x+67108864*Y6 l
theorem Le:S3=1361129467683753853853498429727072845819:=rfl
theorem ib{a b c d e:Nat}:∃q r0 r1 r2 r3 r4:Nat,QH [a,b,c,d,e] 5=[r0,r1,r2,r3,r4]/\Y6 [a,b,c,d,e]=Y6 [r0,r1,r2,r3,r4]+S3*q/\r1<67108864/\r2<67108864/\r3<67108864/\r4<67108864/\r0<=67108863+5*q/\q<=(e+(d+(c+(b+a/67108864)/67108864)/67108864)/67108864)/67108864:=by
 refine⟨(e+(d+(c+(b+a/67108864)/67108864)/67108864)/67108864)/67108864,a%67108864+5*((e+(d+(c+(b+a/67108864)/67108864)/67108864)/67108864)/67108864),(b+a/67108864)%67108864,(c+(b+a/67108864)/67108864)%67108864,(d+(c+(b+a/67108864)/67108864)/67108864)%67108864,(e+(d+(c+(b+a/67108864)/67108864)/67108864)/67108864)%67108864,?_,?_,cn _ aaa,cn _ aaa,cn _ aaa,cn _ aaa,nc,a5 _⟩
 .rfl
 .simp only[Y6,Le];omega
theorem I7(h:(Q l)=5):∃a b c d e,l=[a,b,c,d,e]:=by
 match l,h with
 | [a,b,c,d,e],_=>exact⟨a,b,c,d,e,rfl⟩
def X6(l:List Nat):List Nat:=((QH l 5).set 1 ((QH l 5).getD 1 0+(QH l 5).getD 0 0/67108864)).set 0 ((QH l 5).getD 0 0%67108864)
theorem Y0.I7{K a b c d e:Nat}(ha:a<K)(hb:b<K)(hc:c<K)(hd:d<K)(he:e<K):Y0 K [a,b,c,d,e]:=by
 intro x hx;simp only[List.mem_cons,List.not_mem_nil,or_false]at hx;rcases hx with rfl|rfl|rfl|rfl|rfl<;>assumption
theorem Y0.Zcj{K a b c d e:Nat}(w:Y0 K [a,b,c,d,e]):a<K/\b<K/\c<K/\d<K/\e<K:=
 ⟨w a Hg,w b Hg,w c Hg,w d Hg,w e Hg⟩
theorem ON(hl:(Q l)=5)(w:Y0 (2 ^ 61) l):(X6 l).length=5/\Y0 134217728 (X6 l)/\Y6 (X6 l)%S3=Y6 l%S3/\Y6 (X6 l)<4*H16+2 ^ 44:=by
 obtain⟨a,b,c,d,e,rfl⟩:=I7 hl;obtain⟨wa,wb,wc,wd,we⟩:=w.Zcj;obtain⟨q,r0,r1,r2,r3,r4,hc,hv,h1,h2,h3,h4,h0,hq⟩:=@ib a b c d e;have hL:X6 [a,b,c,d,e]=[r0%67108864,r1+r0/67108864,r2,r3,r4]:=by unfold X6;rw[hc];rfl
 have hq':q<2 ^ 36:=nc;have hr:r0/67108864<8192:=nc;have I3:Y6 [r0%67108864,r1+r0/67108864,r2,r3,r4]=Y6 [r0,r1,r2,r3,r4]:=by simp only[Y6];omega
 rw[hL];refine⟨rfl,Y0.I7 nc nc nc nc nc,?_,?_⟩
 .rw[I3,hv,bp]
 .rw[I3];have e16:H16=340282366920938463463374607431768211456:=rfl;rw[e16];have h0':r0<549755813888:=nc;clear hv hc hq hq' hL I3 h0;simp only[Y6];omega
def R7(a b:Nat)(out:List Nat)(i k:Nat):List Nat:=if i+k<5 then out.set (i+k) (out.getD (i+k) 0+a*b) else out.set (i+k-5) (out.getD (i+k-5) 0+5*a*b)
def Ob(a:Nat)(bs out:List Nat)(i:Nat):Nat->List Nat
 | 0=>out
 | k+1=>R7 a (bs.getD k 0) (Ob a bs out i k) i k
def VP(xs bs:List Nat):Nat->List Nat
 | 0=>[0,0,0,0,0]
 | i+1=>Ob (xs.getD i 0) bs (VP xs bs i) i 5
theorem CY(a b:Nat)(out:List Nat)(i k:Nat):(R7 a b out i k).length=(Q out):=by unfold R7;split<;>simp
theorem T9(a:Nat)(bs out:List Nat)(i:Nat):∀k,(Ob a bs out i k).length=(Q out)
 | 0=>rfl
 | k+1=>by rw[Ob,CY,T9 a bs out i k]
theorem Sa(xs bs:List Nat):∀i,(VP xs bs i).length=5
 | 0=>rfl
 | i+1=>by rw[VP,T9,Sa xs bs i]
theorem Kh{a b:Nat}(ha:a<268435456)(hb:b<67108864):a*b<18014398509481984:=
 Nat.lt_of_le_of_lt (Nat.mul_le_mul (cy (show a<268435455+1 from ha)) (cy (show b<67108863+1 from hb))) aaa
theorem GL{a b:Nat}(ha:a<268435456)(hb:b<67108864):5*a*b<90071992547409920:=by
 have:=Kh ha hb;rw[a9];omega
theorem xw{K a b:Nat}{out:List Nat}{k:Nat}(w:Y0 K out)(hK:0<K)(ha:a<268435456)(hb:b<67108864):Y0 (K+90071992547409920) (R7 a b out i k):=by
 have h1:=Kh ha hb;have h2:=GL ha hb;have q1:=w.getD hK (i+k);have q2:=w.getD hK (i+k-5);unfold R7;split
 .exact (w.mono nc).set _ _ nc
 .exact (w.mono nc).set _ _ nc
theorem CZ{K a:Nat}{bs out:List Nat}(w:Y0 K out)(hK:0<K)(ha:a<268435456)(hb:Y0 67108864 bs):∀k,Y0 (K+k*90071992547409920) (Ob a bs out i k)
 | 0=>by rw[ct];exact w
 | k+1=>by
  rw[Ob,Nat.add_mul,Nat.one_mul,<-bC];exact xw (CZ w hK ha hb k) nc ha (hb.getD nc k)
theorem C0{xs bs:List Nat}(ha:Y0 268435456 xs)(hb:Y0 67108864 bs):∀i,Y0 (1+i*450359962737049600) (VP xs bs i)
 | 0=>Y0.I7 nc nc nc nc nc
 | i+1=>by
  rw[VP];exact (CZ (C0 ha hb i) nc (ha.getD nc i) hb 5).mono nc
theorem Ki:∀{l:List Nat} {i x:Nat},i<(Q l)->Y6 (l.set i (l.getD i 0+x))=Y6 l+x*67108864 ^ i
 | y :: l,0,x,_=>by simp only[co,bx,Y6,Nat.pow_zero,Nat.mul_one];omega
 | y :: l,i+1,x,h=>by
  simp only[cp,bz,Y6];rw[Ki (l:=l) (i:=i) (x:=x) (by simpa using h),b0,<-a9];omega
theorem X5:67108864 ^ 5=S3+5:=rfl
theorem ZkC(v a b y P:Nat):(v+5*a*b*y)%P=(v+a*b*(y*(P+5)))%P:=by
 have e:a*b*(y*(P+5))=5*a*b*y+P*(a*b*y):=by
  rw[ca,ca,Nat.add_comm]
  congr 1
  .rw[bn y 5,<-a9,bn (a*b) 5,<-a9 5 a b]
  .rw[bn y P,<-a9,bn (a*b) P,a9]
 rw[e,<-bC,bp]
theorem pE{a b:Nat}{out:List Nat}{k:Nat}(hl:(Q out)=5)(hi:i<5)(hk:k<5):Y6 (R7 a b out i k)%S3=(Y6 out+a*b*67108864 ^ (i+k))%S3:=by
 unfold R7;split
 .rename_i h;rw[Ki nc]
 .rename_i h;rw[Ki nc];obtain⟨j,hj⟩:∃j,i+k=j+5:=⟨i+k-5,nc⟩
  rw[hj,bA,Nat.pow_add,X5];exact ZkC _ _ _ _ _
def pvn(bs:List Nat):Nat->Nat
 | 0=>0
 | k+1=>pvn bs k+bs.getD k 0*67108864 ^ k
theorem ax{bs:List Nat}(h:(Q bs)=5):pvn bs 5=Y6 bs:=by
 obtain⟨a,b,c,d,e,rfl⟩:=I7 h;simp only[pvn,Y6,bx,bz];omega
theorem ay{a:Nat}{bs out:List Nat}(hl:(Q out)=5)(hi:i<5):∀k,k<=5->Y6 (Ob a bs out i k)%S3=(Y6 out+a*67108864 ^ i*pvn bs k)%S3
 | 0,_=>by rw[Ob,pvn,Nat.mul_zero,cx]
 | k+1,hk=>by
  rw[Ob,pE (by rw[T9,hl]) hi nc,cd,ay hl hi k nc,<-cd,pvn,ca,<-bC,Nat.pow_add]
  congr 2
  rw[a9,a9 a]
  congr 1
  rw[<-a9,bn (bs.getD k 0),a9]
theorem az{xs bs:List Nat}(hb:(Q bs)=5):∀i,i<=5->Y6 (VP xs bs i)%S3=(pvn xs i*Y6 bs)%S3
 | 0,_=>by rw[pvn,ct];rfl
 | i+1,hi=>by
  rw[VP,ay (Sa xs bs i) nc 5 nc,cd,az hb i nc,<-cd,ax hb,pvn,Nat.add_mul]
theorem Dp{xs bs:List Nat}(ha:(Q xs)=5)(hb:(Q bs)=5)(wa:Y0 268435456 xs)(wb:Y0 67108864 bs):
  Y0 (2 ^ 61) (VP xs bs 5)/\(VP xs bs 5).length=5/\Y6 (VP xs bs 5)%S3=Y6 xs*Y6 bs%S3:=
 ⟨(C0 wa wb 5).mono aaa,Sa xs bs 5,by rw[az hb 5 nc,ax ha]⟩
def Nb(m:List Nat):Nat->List Nat
 | 0=>m.set 0 (m.getD 0 0+5)
 | i+1=>((Nb m i).set (i+1) ((Nb m i).getD (i+1) 0+(Nb m i).getD i 0/67108864)).set i ((Nb m i).getD i 0%67108864)
theorem GM(m:List Nat):∀i,(Nb m i).length=(Q m)
 | 0=>by simp[Nb]
 | i+1=>by rw[Nb,bc,bc,GM m i]
theorem xx{m:List Nat}(w:Y0 134217728 m):∀i,i<=10->Y0 (134217728+6+i*8) (Nb m i)
 | 0,_=>(w.mono nc).set _ _ (by have:=w.getD nc 0;omega)
 | i+1,hi=>by
  have h:=xx w i nc;have q1:=h.getD nc (i+1);have q2:=h.getD nc i;rw[Nb];exact ((h.mono nc).set _ _ nc).set _ _ nc
def Oc(m:List Nat):List Nat:=if (Nb m 4).getD 4 0/67108864=0 then m else (Nb m 4).set 4 ((Nb m 4).getD 4 0%67108864)
theorem Zso{A B C P:Nat}(h1:A+5=B)(h2:B=C)(h3:C<P+5):A<P:=nc
theorem Zsp{A B C q:Nat}(h1:A+5=B)(h2:B=C+1361129467683753853853498429727072845824*q)(hv:A<1361129467683753853853498429727072845824+2 ^ 44)(h0:¬q=0):q=1:=nc
theorem Zsq{A B C P:Nat}(h1:A+5=B)(h2:B=C+(P+5))(hv:A<P+5+2 ^ 44)(hP:2 ^ 45<P):A=C+P*1/\C<P:=nc
theorem pF{m:List Nat}(hl:(Q m)=5)(w:Y0 134217728 m)(hv:Y6 m<4*H16+2 ^ 44):(Oc m).length=5/\Y0 134217728 (Oc m)/\Y6 (Oc m)=Y6 m%S3:=by
 obtain⟨a,b,c,d,e,rfl⟩:=I7 hl;obtain⟨wa,wb,wc,wd,we⟩:=w.Zcj;obtain⟨t0,ht0⟩:∃t,t=a+5:=⟨_,rfl⟩
 obtain⟨t1,ht1⟩:∃t,t=b+t0/67108864:=⟨_,rfl⟩
 obtain⟨t2,ht2⟩:∃t,t=c+t1/67108864:=⟨_,rfl⟩
 obtain⟨t3,ht3⟩:∃t,t=d+t2/67108864:=⟨_,rfl⟩
 obtain⟨t4,ht4⟩:∃t,t=e+t3/67108864:=⟨_,rfl⟩
 have hY:Nb [a,b,c,d,e] 4=[t0%67108864,t1%67108864,t2%67108864,t3%67108864,t4]:=by rw[ht4,ht3,ht2,ht1,ht0];rfl
 have hW:Oc [a,b,c,d,e]=if t4/67108864=0 then [a,b,c,d,e] else [t0%67108864,t1%67108864,t2%67108864,t3%67108864,t4%67108864]:=by unfold Oc;rw[hY];rfl
 have e16:H16=340282366920938463463374607431768211456:=rfl;rw[hW];have hs:Y6 [a,b,c,d,e]+5=Y6 [t0%67108864,t1%67108864,t2%67108864,t3%67108864,t4]:=by simp only[Y6];omega
 have hx:Y6 [t0%67108864,t1%67108864,t2%67108864,t3%67108864,t4]=Y6 [t0%67108864,t1%67108864,t2%67108864,t3%67108864,t4%67108864]+(S3+5)*(t4/67108864):=by rw[Le];simp only[Y6];omega
 have hb4:Y6 [t0%67108864,t1%67108864,t2%67108864,t3%67108864,t4%67108864]<S3+5:=by rw[Le];simp only[Y6];omega
 have hH:4*H16=S3+5:=rfl;rw[hH]at hv;split
 .rename_i h0;refine⟨rfl,w,?_⟩;rw[h0,Nat.mul_zero,cx]at hx;rw[cz (Zso hs hx hb4)]
 .rename_i h0;refine⟨rfl,Y0.I7 nc nc nc nc nc,?_⟩;have h1:t4/67108864=1:=by
   rw[Le]at hx hv;exact Zsp hs hx hv h0
  rw[h1,Nat.mul_one]at hx;obtain⟨hk,hC⟩:=Zsq hs hx hv (by rw[Le];decide);rw[hk,bp,cz hC]
theorem aA(h:Hp)(bk:Nat)(l:List Nat)(hl:(Q l)=5)(w:Y0 (2 ^ 61) l)(hb:h[bk]? = W (YT l)):
  Zd ba T 127 #[al (W ⟨bk,0,Y⟩)] h fun v' h'=>h'=h.setIfInBounds bk (YT (X6 l)):=
 (hO T h bk l hl w hb).mono fun v' h' ⟨a,ha,hh⟩=>by subst ha;exact hh
theorem C6(hi:i<(Q l)):nth (l.map uv) i=W (N S (l.getD i 0:Nat)):=by
 rw[YR,List.getElem?_map,a7 hi,aa,a7 hi];rfl
theorem Od{g:Hp}{b:Nat}(hl:(Q l)=5)(hx:g[b]? = W (YT l)):rd g ⟨b,0,Y⟩ 5=W (l.map uv):=by
 unfold YT at hx;rw[a8]at hx;exact Zy hx (by simpa using hl)
set_option maxHeartbeats 1000000 in
theorem aB(h:Hp)(xs bs:List Nat)(ha:(Q xs)=5)(hb:(Q bs)=5)(wa:Y0 268435456 xs)(wb:Y0 67108864 bs):
  Zd ba T 101 #[aI (xs.map uv).toArray,aI (bs.map uv).toArray] h fun v' h'=>v'=aI ((X6 (VP xs bs 5)).map uv).toArray/\Zk h.size h h':=by
 have la:(xs.map uv).length=5:=by simpa using ha
 have lb:(bs.map uv).length=5:=by simpa using hb
 have ta:(xs.map uv).take 5=xs.map uv:=bg nc;refine Zd.XS [_,_] Tryz.func101 ?_;simp -implicitDefEqProofs only[go_sem,la,lb,ta];obtain⟨H,hH⟩:=ZQ (((((h.push (R (xs.map uv).toArray 194)).push (R (bs.map uv).toArray 194)).push (R #[N S 0,N S 0,N S 0,N S 0,N S 0] 194)).push (R #[N S 0,N S 0,N S 0,N S 0,N S 0] 194)):Hp);have HB:Zk h.size h H:=by rw[hH];exact (((Zk.push (a5 _) _).YU Hg _).YU KQ _).YU KQ _
 have Hs:H.size=h.size+1+1+1+1:=by rw[hH];simp
 have H1:H[h.size+1]? = W (YT bs):=by
  rw[hH,ZJ Hg,ZJ Hg];have:=Zc (h:=h.push (R (xs.map uv).toArray 194)) (o:=R (bs.map uv).toArray 194);rw[aw]at this;rw[this];unfold YT;rw[a8]
 have H3:H[h.size+1+1+1]? = W (YT (VP xs bs 0)):=by
  have:=Zc (h:=(((h.push (R (xs.map uv).toArray 194)).push (R (bs.map uv).toArray 194)).push (R #[N S 0,N S 0,N S 0,N S 0,N S 0] 194))) (o:=R #[N S 0,N S 0,N S 0,N S 0,N S 0] 194);rw[aw,aw,aw]at this;rw[hH,this];rfl
 have H2:H[h.size+1+1]? = W (YT [0,0,0,0,0]):=by
  have:=Zc (h:=((h.push (R (xs.map uv).toArray 194)).push (R (bs.map uv).toArray 194))) (o:=R #[N S 0,N S 0,N S 0,N S 0,N S 0] 194);rw[aw,aw]at this;rw[hH,ZJ Hg,this];rfl
 rw[<-hH];clear hH;obtain⟨bo,hbo⟩:=ZQ (h.size+1+1+1);obtain⟨br,hbr⟩:=ZQ (h.size+1+1);obtain⟨bb,Tm⟩:=ZQ (h.size+1);rw[<-hbo]at H3 ⊢;rw[<-hbr]at H2 ⊢;rw[<-Tm]at H1 ⊢;refine VS.Yj (fun F g=>F 3=al (W ⟨bb,0,Y⟩)/\F 4=al (W ⟨br,0,Y⟩)/\F 5=al (W ⟨bo,0,Y⟩)/\F 10=aI (xs.map uv).toArray/\∃i:Nat,i<=5/\F 11=N O i/\g=H.setIfInBounds bo (YT (VP xs bs i)))
  (fun F _=>5-(vi (F 11)).toNat) rfl ⟨rfl,rfl,rfl,rfl,0,nc,rfl,(Vd H3).symm⟩ ?_
 rintro F g ⟨f3,f4,f5,f10,i,hi,f11,rfl⟩;by_cases ZU:i<5
 .have Z8:(i:Int)<5:=nc;have n1:=C6 (l:=xs) (i:=i) nc;have H1':(H.setIfInBounds bo (YT (VP xs bs i)))[bb]? = W (YT bs):=by rw[U,if_neg nc];exact H1
  have r1:=Od hb H1';have wA:=wa.getD nc i;have Zgg:VP xs bs (i+1)=Ob (xs.getD i 0) bs (VP xs bs i) i 5:=rfl;obtain⟨a,hax⟩:=ZQ (xs.getD i 0);rw[<-hax]at n1 wA Zgg;simp -implicitDefEqProofs only[go_sem,f3,f4,f5,f10,f11,Z8,a3,n1,r1];have wO:Y0 (1+i*450359962737049600) (VP xs bs i):=C0 wa wb i;have lO:=Sa xs bs i;obtain⟨o,ho⟩:=ZQ (VP xs bs i);rw[<-ho]at Zgg wO lO ⊢;refine VS.Yj (fun F g=>F 3=al (W ⟨bb,0,Y⟩)/\F 4=al (W ⟨br,0,Y⟩)/\F 5=al (W ⟨bo,0,Y⟩)/\F 10=aI (xs.map uv).toArray/\F 11=N O i/\F 6=N O i/\F 7=N S a/\F 15=aI (bs.map uv).toArray/\∃k:Nat,k<=5/\F 16=N O k/\g=H.setIfInBounds bo (YT (Ob a bs o i k)))
   (fun F _=>5-(vi (F 16)).toNat) rfl ⟨f3,f4,f5,f10,f11,rfl,rfl,rfl,0,nc,rfl,rfl⟩ ?_
  clear f3 f4 f5 f10 f11 F;rintro F g ⟨f3,f4,f5,f10,f11,f6,f7,f15,k,hk,f16,rfl⟩;by_cases hlk:k<5
  .have ZkE:(k:Int)<5:=nc;have n2:=C6 (l:=bs) (i:=k) nc;have wB:=wb.getD nc k;have Pa:Ob a bs o i (k+1)=R7 a (bs.getD k 0) (Ob a bs o i k) i k:=rfl;obtain⟨b,hbx⟩:=ZQ (bs.getD k 0);rw[<-hbx]at n2 wB Pa;have wR:=CZ wO nc wA wb (i:=i) k;have lR:(Ob a bs o i k).length=5:=by rw[T9,lO]
   have hx:(H.setIfInBounds bo (YT (Ob a bs o i k)))[bo]? = W (YT (Ob a bs o i k)):=Yd H3;have hp:=Kh wA wB;have hp5:=GL wA wB;obtain⟨r,hr⟩:=ZQ (Ob a bs o i k);rw[<-hr]at Pa wR lR hx ⊢;obtain⟨G,hG⟩:=ZQ (H.setIfInBounds bo (YT r));rw[<-hG]at hx ⊢;have eik:(i:Int)+(k:Int)=((i+k:Nat):Int):=rfl;by_cases h5:i+k<5
   .have h5':((i+k:Nat):Int)<5:=nc;have g1:=Z6 hx (i:=i+k) nc;have y1:=wR.getD nc (i+k);unfold uv at g1;have hs:R7 a b r i k=r.set (i+k) (r.getD (i+k) 0+a*b):=by unfold R7;rw[if_pos h5]
    rw[hs]at Pa;obtain⟨y,hy⟩:=ZQ (r.getD (i+k) 0);rw[<-hy]at g1 y1 Pa;have e1:(a:Int)*(b:Int)=((a*b:Nat):Int):=(cB a b).symm;have e2:((a*b:Nat):Int)%18446744073709551616=((a*b:Nat):Int):=nc;obtain⟨p,hp'⟩:=ZQ (a*b);rw[<-hp']at e1 e2 hp Pa;have e3:(y:Int)+(p:Int)=((y+p:Nat):Int):=rfl;have e4:((y+p:Nat):Int)%18446744073709551616=((y+p:Nat):Int):=nc;have c1:QP G ⟨bo,i+k,Y⟩ (N S (y+p:Nat))=_:=Yu (f:=uv) hx (i:=i+k) nc (y+p) rfl;simp -implicitDefEqProofs only[go_sem,f3,f4,f5,f6,f7,f10,f11,f15,f16,ZkE,a3,n2,eik,h5',g1,e1,e2,e3,e4,c1];refine⟨⟨f3,f4,f5,f10,f11,f6,f7,f15,k+1,hlk,rfl,?_⟩,?_⟩
    .rw[hG,set_set,Pa];rfl
    .simp only[vi,Zr,↓reduceIte,f16];omega
   .have h5':¬((i+k:Nat):Int)<5:=nc;have g1:=Z6 hx (i:=i+k-5) nc;have y1:=wR.getD nc (i+k-5);unfold uv at g1;have hs:R7 a b r i k=r.set (i+k-5) (r.getD (i+k-5) 0+5*a*b):=by unfold R7;rw[if_neg h5]
    rw[hs]at Pa;obtain⟨y,hy⟩:=ZQ (r.getD (i+k-5) 0);rw[<-hy]at g1 y1 Pa;have e0:(5:Int)*(a:Int)=((5*a:Nat):Int):=rfl;have e0':((5*a:Nat):Int)%18446744073709551616=((5*a:Nat):Int):=nc;have e1:((5*a:Nat):Int)*(b:Int)=((5*a*b:Nat):Int):=(cB (5*a) b).symm;have e2:((5*a*b:Nat):Int)%18446744073709551616=((5*a*b:Nat):Int):=nc;obtain⟨p,hp'⟩:=ZQ (5*a*b);rw[<-hp']at e1 e2 hp5 Pa;have e3:(y:Int)+(p:Int)=((y+p:Nat):Int):=rfl;have e4:((y+p:Nat):Int)%18446744073709551616=((y+p:Nat):Int):=nc;have e5:((i+k:Nat):Int)-5=((i+k-5:Nat):Int):=nc;have e6:((i+k-5:Nat):Int)<5:=nc;have c1:QP G ⟨bo,i+k-5,Y⟩ (N S (y+p:Nat))=_:=Yu (f:=uv) hx (i:=i+k-5) nc (y+p) rfl;simp -implicitDefEqProofs only[go_sem,f3,f4,f5,f6,f7,f10,f11,f15,f16,ZkE,a3,n2,eik,h5',g1,e0,e0',e1,e2,e3,e4,e5,e6,c1];refine⟨⟨f3,f4,f5,f10,f11,f6,f7,f15,k+1,hlk,rfl,?_⟩,?_⟩
    .rw[hG,set_set,Pa];rfl
    .simp only[vi,Zr,↓reduceIte,f16];omega
  .have Xp:¬(k:Int)<5:=nc;obtain rfl:k=5:=nc;have c5:((5:Nat):Int)=5:=rfl;rw[c5]at f16 Xp;simp -implicitDefEqProofs only[go_sem,f3,f4,f5,f10,f11,f16,Xp];refine⟨⟨f3,f4,f5,f10,i+1,ZU,rfl,?_⟩,?_⟩
   .rw[Zgg]
   .simp only[vi,Zr,↓reduceIte,f11];omega
 .have Xp:¬(i:Int)<5:=nc;obtain rfl:i=5:=nc;have c5:((5:Nat):Int)=5:=rfl;rw[c5]at f11 Xp;have hx:(H.setIfInBounds bo (YT (VP xs bs 5)))[bo]? = W (YT (VP xs bs 5)):=Yd H3;have NV:(H.setIfInBounds bo (YT (VP xs bs 5)))[br]? = W (YT [0,0,0,0,0]):=by rw[U,if_neg nc];exact H2
  have HB2:Zk h.size h (H.setIfInBounds bo (YT (VP xs bs 5))):=HB.Zt nc _;obtain⟨w1,w2,w3⟩:=Dp ha hb wa wb;obtain⟨o,ho⟩:=ZQ (VP xs bs 5);rw[<-ho]at hx NV HB2 w1 w2 ⊢;generalize H.setIfInBounds bo (YT o)=G at *;simp -implicitDefEqProofs only[go_sem,f3,f4,f5,f10,f11,Xp];refine (aA T G bo o w2 w1 hx).use ?_;rintro _ _ rfl;obtain⟨m1,m2,m3⟩:=ON w2 w1;have ic:(G.setIfInBounds bo (YT (X6 o)))[bo]? = W (YT (X6 o)):=Yd hx;have dZ:(G.setIfInBounds bo (YT (X6 o)))[br]? = W (YT [0,0,0,0,0]):=by rw[U,if_neg nc];exact NV
  have HB3:Zk h.size h (G.setIfInBounds bo (YT (X6 o))):=HB2.Zt nc _;generalize G.setIfInBounds bo (YT (X6 o))=G2 at *;have r3:=Od m1 ic;have lc:((X6 o).map uv).length=5:=by simpa using m1
  have w4:=Ye (h:=G2) (b:=br) (l:=([0,0,0,0,0].map uv)) (by unfold YT at dZ;rw[a8]at dZ;exact dZ) 0 ((X6 o).map uv);have ho4:((X6 o).map uv).all YC=true:=by simp[uv,YC]
  rw[if_pos ⟨by simp[lc],ho4⟩,Z3 (by simp[lc])]at w4;have tc:((X6 o).map uv).take 5=(X6 o).map uv:=bg nc;have hlr:=Za dZ;simp -implicitDefEqProofs only[go_sem,f3,f4,f5,r3,w4,lc,tc,hlr];exact HB3.Zt nc _
theorem aC(h:Hp)(xs:List Nat)(ha:(Q xs)=5)(wa:Y0 268435456 xs):
  Zd ba T 102 #[aI (xs.map uv).toArray] h fun v' h'=>v'=aI ((Oc (X6 xs)).map uv).toArray/\Zk h.size h h':=by
 have la:(xs.map uv).length=5:=by simpa using ha
 refine Zd.XS [_] Tryz.func102 ?_;simp -implicitDefEqProofs only[go_sem,la];obtain⟨H,hH⟩:=ZQ (((h.push (R (xs.map uv).toArray 194)).push (R #[N S 0,N S 0,N S 0,N S 0,N S 0] 194)):Hp);have HB:Zk h.size h H:=by rw[hH];exact ((Zk.push (a5 _) _).YU Hg _)
 have Hs:H.size=h.size+1+1:=by rw[hH];simp
 have H0:H[h.size]? = W (YT xs):=by
  rw[hH,ZJ Hg,Zc];unfold YT;rw[a8]
 have H1:H[h.size+1]? = W (YT [0,0,0,0,0]):=by
  have:=Zc (h:=(h.push (R (xs.map uv).toArray 194))) (o:=R #[N S 0,N S 0,N S 0,N S 0,N S 0] 194);rw[aw]at this;rw[hH,this];rfl
 rw[<-hH];clear hH;refine (aA T H h.size xs ha (wa.mono aaa) H0).use ?_;rintro _ _ rfl;obtain⟨m1,m2,m3,m4⟩:=ON ha (wa.mono aaa);have Pq:(H.setIfInBounds h.size (YT (X6 xs)))[h.size]? = W (YT (X6 xs)):=Yd H0;have UY:(H.setIfInBounds h.size (YT (X6 xs)))[h.size+1]? = W (YT [0,0,0,0,0]):=by rw[U,if_neg nc];exact H1
 have HB2:Zk h.size h (H.setIfInBounds h.size (YT (X6 xs))):=HB.Zt (a5 _) _;have Hs2:(H.setIfInBounds h.size (YT (X6 xs))).size=h.size+1+1:=by rw[a6];exact Hs
 obtain⟨m,hm⟩:=ZQ (X6 xs);rw[<-hm]at Pq UY HB2 Hs2 m1 m2 m3 m4 ⊢;generalize H.setIfInBounds h.size (YT m)=G at *;have r0:=Od m1 Pq;have lm:(m.map uv).length=5:=by simpa using m1
 have hom:(m.map uv).all YC=true:=by simp[uv,YC]
 have lp:Y9 [Value.int S 0,N S 0,N S 0,N S 0,N S 0] 0 (m.map uv)=m.map uv:=Z3 lm;have n0:=C6 (l:=m) (i:=0) nc;have y0:=m2.getD nc 0;have hw0:Nb m 0=m.set 0 (m.getD 0 0+5):=rfl;obtain⟨y,hy⟩:=ZQ (m.getD 0 0);rw[<-hy]at n0 y0 hw0;have e1:(y:Int)+5=((y+5:Nat):Int):=rfl;have e2:((y+5:Nat):Int)%18446744073709551616=((y+5:Nat):Int):=nc;simp -implicitDefEqProofs only[go_sem,r0,lm,hom,Hs2,lp,n0,e1,e2];have hms:(m.map uv).set 0 (N S (y+5:Nat))=(m.set 0 (y+5)).map uv:=by rw[List.map_set];rfl
 rw[hms,<-hw0];obtain⟨J,hJ⟩:=ZQ (G.push (R ((Nb m 0).map uv).toArray 194));have J3:J[h.size+1+1]? = W (YT (Nb m 0)):=by
  rw[hJ,<-Hs2,Zc];unfold YT;rw[a8]
 have J0:J[h.size]? = W (YT m):=by rw[hJ,ZJ nc];exact Pq
 have J1:J[h.size+1]? = W (YT [0,0,0,0,0]):=by rw[hJ,ZJ nc];exact UY
 have JB:Zk h.size h J:=by rw[hJ];exact HB2.YU nc _
 rw[<-hJ];clear hJ;obtain⟨b3,hb3⟩:∃b,b=h.size+1+1:=⟨_,rfl⟩
 obtain⟨b2,Hr⟩:∃b,b=h.size+1:=⟨_,rfl⟩
 rw[<-hb3]at J3 ⊢;rw[<-Hr]at J1 ⊢;refine VS.Yj (fun F g=>F 1=al (W ⟨h.size,0,Y⟩)/\F 2=al (W ⟨b2,0,Y⟩)/\F 3=al (W ⟨b3,0,Y⟩)/\∃i:Nat,i<=4/\F 11=N O i/\g=J.setIfInBounds b3 (YT (Nb m i)))
  (fun F _=>4-(vi (F 11)).toNat) rfl ⟨rfl,rfl,rfl,0,nc,rfl,(Vd J3).symm⟩ ?_
 rintro F g ⟨f1,f2,f3,i,hi,f11,rfl⟩;have hx:(J.setIfInBounds b3 (YT (Nb m i)))[b3]? = W (YT (Nb m i)):=Yd J3;have wY:=xx m2 i nc;have lY:(Nb m i).length=5:=by rw[GM,m1]
 by_cases ZU:i<4
 .have Z8:(i:Int)<4:=nc;have XC:Nb m (i+1)=((Nb m i).set (i+1) ((Nb m i).getD (i+1) 0+(Nb m i).getD i 0/67108864)).set i ((Nb m i).getD i 0%67108864):=rfl;obtain⟨r,hr⟩:=ZQ (Nb m i);rw[<-hr]at hx wY lY XC ⊢;obtain⟨G1,tJ⟩:=ZQ (J.setIfInBounds b3 (YT r));rw[<-tJ]at hx ⊢;have g1:=Z6 hx (i:=i+1) nc;have g0:=Z6 hx (i:=i) nc;have q1:=wY.getD nc (i+1);have q0:=wY.getD nc i;unfold uv at g0 g1;obtain⟨a,hax⟩:=ZQ (r.getD i 0);obtain⟨b,hbx⟩:=ZQ (r.getD (i+1) 0);rw[<-hax]at g0 q0 XC;rw[<-hbx]at g1 q1 XC;have s1:=lF a;have s2:=Oa a nc;have t1:(b:Int)+((a/67108864:Nat):Int)=((b+a/67108864:Nat):Int):=rfl;have t2:((b+a/67108864:Nat):Int)%18446744073709551616=((b+a/67108864:Nat):Int):=nc;have ei:(i:Int)+1=((i+1:Nat):Int):=rfl;have Kj:((i+1:Nat):Int)<5:=nc;have Zsu:(i:Int)<5:=nc;have c1:QP G1 ⟨b3,i+1,Y⟩ (N S (b+a/67108864:Nat))=_:=Yu (f:=uv) hx (i:=i+1) nc (b+a/67108864) rfl;have C7:=Yd (o:=R ((r.set (i+1) (b+a/67108864)).map uv++[]).toArray 194) hx;have l1:(r.set (i+1) (b+a/67108864)).length=5:=by rw[bc,lY]
  have v1:(r.set (i+1) (b+a/67108864)).getD i 0=a:=by rw[Ld nc,<-hax]
  obtain⟨r1,Eb⟩:=ZQ (r.set (i+1) (b+a/67108864));rw[<-Eb]at c1 C7 l1 v1 XC;obtain⟨G2,kY⟩:=ZQ (G1.setIfInBounds b3 (R (r1.map uv++[]).toArray 194));rw[<-kY]at c1 C7;have g2:=Z6 C7 (i:=i) nc;unfold uv at g2;rw[v1]at g2;have c2:QP G2 ⟨b3,i,Y⟩ (N S (a%67108864:Nat))=_:=Yu (f:=uv) C7 (i:=i) nc (a%67108864) rfl;simp -implicitDefEqProofs only[go_sem,f1,f2,f3,f11,Z8];refine VS.w (b3+1) [10] (.q 0 (.q 1 (.q 2 (.q 3 (.q 4 (.q 5 (.q 6 (.q 7 (.q 8 (.q 9 (.w 10 .nil))))))))))) mixed uf ?_;simp -implicitDefEqProofs only[go_sem,f1,f2,f3,f11,ei,Kj,Zsu,a3,be,g0,g1,s1,t1,t2,c1,g2,s2,c2];refine⟨⟨f1,f2,f3,i+1,ZU,rfl,?_⟩,?_⟩
  .rw[kY,set_set,tJ,set_set,XC];rfl
  .simp only[vi,Zr,↓reduceIte,f11];omega
 .have Xp:¬(i:Int)<4:=nc;obtain rfl:i=4:=nc;have c4:((4:Nat):Int)=4:=rfl;rw[c4]at f11 Xp;have hW:Oc m=if (Nb m 4).getD 4 0/67108864=0 then m else (Nb m 4).set 4 ((Nb m 4).getD 4 0%67108864):=rfl
  have ie:(J.setIfInBounds b3 (YT (Nb m 4)))[h.size]? = W (YT m):=by rw[U,if_neg nc];exact J0
  have C7:(J.setIfInBounds b3 (YT (Nb m 4)))[b2]? = W (YT [0,0,0,0,0]):=by rw[U,if_neg nc];exact J1
  have HB3:Zk h.size h (J.setIfInBounds b3 (YT (Nb m 4))):=JB.Zt nc _;obtain⟨r,hr⟩:=ZQ (Nb m 4);rw[<-hr]at hx wY lY ie C7 HB3 hW ⊢;generalize J.setIfInBounds b3 (YT r)=G1 at *;have g4:=Z6 hx (i:=4) nc;have q4:=wY.getD nc 4;unfold uv at g4;obtain⟨a,hax⟩:=ZQ (r.getD 4 0);rw[<-hax]at g4 q4 hW;have s1:=lF a;have s2:=Oa a nc;have w4:=fun (k:List Nat) (hk:(Q k)=5)=>Ye (h:=G1) (b:=b2) (l:=([0,0,0,0,0].map uv)) (by unfold YT at C7;rw[a8]at C7;exact C7) 0 (k.map uv);have h2s:=Za C7;by_cases h0:a/67108864=0
  .have h0':((a/67108864:Nat):Int)=0:=nc;rw[if_pos h0]at hW;have w5:=w4 m m1;rw[if_pos ⟨by simp[lm],hom⟩,Z3 (by simp[lm])]at w5;have r1:=Od m1 ie;have tm:(m.map uv).take 5=m.map uv:=bg nc;simp -implicitDefEqProofs only[go_sem,f1,f2,f3,f11,Xp,g4,s1,h0',r1,w5,lm,tm,h2s];exact⟨by rw[hW],HB3.Zt nc _⟩
  .have h0':¬((a/67108864:Nat):Int)=0:=nc;rw[if_neg h0]at hW;have c1:QP G1 ⟨b3,4,Y⟩ (N S (a%67108864:Nat))=_:=Yu (f:=uv) hx (i:=4) nc (a%67108864) rfl;have hz:=Yd (o:=R ((r.set 4 (a%67108864)).map uv++[]).toArray 194) hx;have l1:(r.set 4 (a%67108864)).length=5:=by rw[bc,lY]
   have HB4:Zk h.size h (G1.setIfInBounds b3 (R ((r.set 4 (a%67108864)).map uv++[]).toArray 194)):=HB3.Zt nc _;have ig:(G1.setIfInBounds b3 (R ((r.set 4 (a%67108864)).map uv++[]).toArray 194))[b2]? = W (YT [0,0,0,0,0]):=by rw[U,if_neg nc];exact C7
   rw[hW];obtain⟨r1,Eb⟩:=ZQ (r.set 4 (a%67108864));rw[<-Eb]at c1 hz l1 HB4 ig ⊢;generalize G1.setIfInBounds b3 (R (r1.map uv++[]).toArray 194)=G2 at *;have r4:=Od l1 hz;have lr:(r1.map uv).length=5:=by simpa using l1
   have hor:(r1.map uv).all YC=true:=by simp[uv,YC]
   have w5:=Ye (h:=G2) (b:=b2) (l:=([0,0,0,0,0].map uv)) (by unfold YT at ig;rw[a8]at ig;exact ig) 0 (r1.map uv);rw[if_pos ⟨by simp[lr],hor⟩,Z3 (by simp[lr])]at w5;have tm:(r1.map uv).take 5=r1.map uv:=bg nc;have Zsv:=Za ig;simp -implicitDefEqProofs only[go_sem,f1,f2,f3,f11,Xp,g4,s1,s2,h0',be,c1,r4,w5,lr,tm,Zsv];exact HB4.Zt nc _
def xy(key:List Nat)(i:Nat):Nat:=if i%4=3 then key.getD i 0%16 else if i%4=0/\0<i then key.getD i 0/4*4 else key.getD i 0
def Qs(key:List Nat):List Nat:=(cP 16).map (xy key)
def ZkG(data:List Nat)(k:Nat):List Nat:=(data.drop (16*k)).take 16++[1]
def xz(r:Nat)(data:List Nat):Nat->Nat
 | 0=>0
 | k+1=>(xz r data k+XW (ZkG data k))*r%S3
def Zcl(key data:List Nat):Nat:=xz (XW (Qs key)) data (((Q data)+15)/16)+XW ((key.drop 16).take 16)
def ii(key data:List Nat):List Nat:=(cP 16).map fun i=>Zcl key data/256 ^ i%256
theorem ED(key:List Nat):(Qs key).length=16:=by simp[Qs]
theorem Sb(key data:List Nat):(ii key data).length=16:=by simp[ii]
theorem OO{h:Hp}{p:Option Addr}{c n:Nat}(s:Bs h (X p n c) l){m:Nat}(hm:m<=(Q l))(c':Nat):Bs h (X p m c') (l.take m):=by
 refine⟨?_,fun x hx=>s.byte x (List.mem_of_mem_take hx)⟩;obtain⟨p',cap,hv,hl,hc⟩:=s.sl;simp only[Value.slice.injEq]at hv;obtain⟨rfl,_,rfl⟩:=hv;refine⟨_,c',by rw[bl,Nat.min_eq_left hm],Hg,fun Y4=>?_⟩;obtain⟨b,o,rfl,XE⟩:=hc (by intro e;simp at e;subst e;simp at Y4);refine⟨b,o,rfl,fun i hi=>?_⟩;have kK:i<m/\i<(Q l):=by rw[List.length_map,bl]at hi;omega
 rw[XE i KQ];simp
theorem Zgj{h:Hp}{p:Option Addr}{c n:Nat}(s:Bs h (X p n c) l)(hn:(Q l)=n){k m:Nat}(hk:k+m<=n)(W0:n<=c)(c':Nat):Bs h (X (gJ p 1 c k) m c') ((l.drop k).take m):=
 OO (OJ s hn (k:=k) (by omega) W0 c') (by rw[bf];omega) c'
def Ss(key data:List Nat):Int:=if (Q key)≠32\/4000<(Q data) then 1 else 0
def xC(B:Nat)(h:Hp)(v:a0)(key data:List Nat):Prop:=∃w,v=.tuple #[w,N O (Ss key data)]/\Yx B 5 h w (if Ss key data=0 then ii key data else [])
def JJ:List (Option IntKind):=rep 32 [W O]++rep 8 [Y]
theorem Ve:∀{ks:List (Option IntKind)} {vs:List a0} (i:Nat) (v:a0),Xd ks vs=true->(∀k,ks[i]? = W k->Vs k v=true)->Xd ks (vs.set i v)=true:=by
 intro ks
 induction ks with
 | nil=>intro vs i v h _;cases vs<;>simp[Xd]at h ⊢
 | cons k ks ih=>
  intro vs i v h hk
  cases vs with
  | nil=>simp[Xd]at h
  | cons x vs=>
   simp only[Xd,bS]at h
   cases i with
   | zero=>simp only[co,Xd,bS];exact⟨hk k rfl,h.2⟩
   | succ i=>simp only[cp,Xd,bS];exact⟨h.1,ih i v h.2 (fun k' ML=>hk k' (by simpa using ML))⟩
theorem UG(hi:i<32)(n:Int):∀k,JJ[i]? = W k->Vs k (N O n)=true:=by
 intro k hk;have:∀i<32,JJ[i]? = W (W O):=aaa;rw[this i hi]at hk;obtain rfl:=Option.some.inj hk;rfl
theorem aD(h1:32<=i)(b:Bool):∀k,JJ[i]? = W k->Vs k (am b)=true:=by
 intro k hk;have:∀j<8,JJ[32+j]? = W Y:=aaa;by_cases h2:i<40
 .have:=this (i-32) nc;rw[show 32+(i-32)=i by omega]at this;rw[this]at hk;obtain rfl:=Option.some.inj hk;rfl
 .rw[b7 (by show 40<=i;omega)]at hk;cases hk
theorem GN{g:Hp}{b:Nat}{o:Obj}(hx:g[b]? = W o):g.setIfInBounds b o=g:=by
 apply Array.ext_getElem?;intro i;rw[U];by_cases hb:b=i
 .subst hb;rw[if_pos rfl,if_pos (Za hx),hx]
 .rw[if_neg hb]
structure ZkH where
 cells:List a0
 code:Int
 val:Int
def UH(cs:List a0)(k c n v:Nat):List a0 × Int:=
 if k=1 then (cs.set n (N O v),v) else if k=2 then (cs,ci cs n) else (cs.set (32+n) (am true),0)
def Ql(cs:List a0)(k c s n v:Nat):ZkH:=
 if k=0 then ⟨cs,0,0⟩ else
 if (s:Int)+1=ci cs (8+c) then ⟨cs,ci cs (16+c*2),ci cs (16+c*2+1)⟩ else
 if (s:Int)<ci cs (8+c) then ⟨cs,7,0⟩ else
 if cb cs (32+c)=true then ⟨cs,11,0⟩ else
 ⟨((((UH cs k c n v).1.set (8+c) (N O ((s:Int)+1))).set (16+c*2) (N O 0)).set (16+c*2+1) (N O (UH cs k c n v).2)),0,(UH cs k c n v).2⟩
def Nu(cs:List a0)(k c s n v:Int):Int:=if XA cs=true then 5 else YE k c s n v
def Y1:List a0:=rep 32 [Value.int O 0]++rep 8 [Value.bool false]
def doL(cs:List a0)(k c s n v:Int):List a0:=
 if Nu cs k c s n v=0 then [aI (Ql cs k.toNat c.toNat s.toNat n.toNat v.toNat).cells.toArray,aI [N O (Ql cs k.toNat c.toNat s.toNat n.toNat v.toNat).code,N O (Ql cs k.toNat c.toNat s.toNat n.toNat v.toNat).val].toArray,N O 0]
  else [aI Y1.toArray,aI [N O 0,N O 0].toArray,N O (Nu cs k c s n v)]
def xE(v':a0)(cs:List a0)(k c s n v:Int):Prop:=v'=.tuple (doL cs k c s n v).toArray
theorem Xb{k c s n v:Int}(h:YE k c s n v=0):∃k' c' s' n' v':Nat,k=k'/\c=c'/\s=s'/\n=n'/\v=v'/\k'<=3/\c'<=7/\s'<=1048576/\n'<=7/\v'<=1073741824:=by
 have:0<=k/\k<=3/\0<=c/\c<=7/\0<=s/\s<=1048576/\0<=n/\n<=7/\0<=v/\v<=1073741824:=by
  unfold YE at h
  repeat' split at h
  all_goals omega
 exact⟨k.toNat,c.toNat,s.toNat,n.toNat,v.toNat,nc,nc,nc,nc,nc,nc,nc,nc,nc,nc⟩
theorem Qc{cs:List a0}{j:Nat}{x:a0}(h:i≠j):ci (cs.set i x) j=ci cs j:=by
 unfold ci;rw[YR,YR,bh h]
theorem ints_set{cs:List a0}{j:Nat}(hj:j<(Q cs))(x:Int)(hi:∀i,i<32->nth cs i=W (N O (ci cs i))):∀i,i<32->nth (cs.set j (N O x)) i=W (N O (ci (cs.set j (N O x)) i)):=by
 intro i h32;by_cases e:j=i
 .subst e;have:nth (cs.set j (N O x)) j=W (N O x):=by rw[YR,b6 hj]
  unfold ci;rw[this]
 .rw[Qc e,YR,bh e,<-YR];exact hi i h32
theorem pG(cs:List a0)(k c n v:Nat)(x:a0)(hn:n<=7)(hc:c<=7):UH (cs.set (8+c) x) k c n v=((UH cs k c n v).1.set (8+c) x,(UH cs k c n v).2):=by
 unfold UH;by_cases k1:k=1
 .rw[if_pos k1,if_pos k1,cS _ _ nc]
 .rw[if_neg k1,if_neg k1];by_cases k2:k=2
  .rw[if_pos k2,if_pos k2,Qc nc]
  .rw[if_neg k2,if_neg k2,cS _ _ nc]
theorem aE{cs:List a0}(hf:Xd JJ cs=true)(k c n v:Nat)(hn:n<=7):Xd JJ (UH cs k c n v).1=true:=by
 unfold UH;by_cases k1:k=1
 .rw[if_pos k1];exact Ve n _ hf (UG nc _)
 .rw[if_neg k1];by_cases k2:k=2
  .rw[if_pos k2];exact hf
  .rw[if_neg k2];exact Ve (32+n) _ hf (aD nc _)
theorem Dq{cs:List a0}(hf:Xd JJ cs=true)(k c s n v:Nat)(hn:n<=7)(hc:c<=7):Xd JJ (Ql cs k c s n v).cells=true:=by
 unfold Ql
 repeat' split
 all_goals first|exact hf|skip
 exact Ve _ _ (Ve _ _ (Ve _ _ (aE hf k c n v hn) (UG nc _)) (UG nc _)) (UG nc _)
theorem aF(h:Hp)(b:Nat)(cs:List a0)(k c s n v:Nat)(hl:(Q cs)=40)(hi:∀i,i<32->nth cs i=W (N O (ci cs i)))(hn:n<=7)(hk:1<=k)(hk3:k<=3)(hx:h[b]? = W (R cs.toArray 55)):
  Zd ba T 40 #[al (W ⟨b,0,Y⟩),aI (QW k c s n v).toArray] h fun v' h'=>v'=aI [N O 0,N O (UH cs k c n v).2].toArray/\Zk h.size (h.setIfInBounds b (R (UH cs k c n v).1.toArray 55)) h':=by
 refine Zd.XS [_,_] Tryz.func40 ?_;have hb:=Za hx;have hn8:(n:Int)<8:=nc;unfold QW UH;by_cases k1:k=1
 .subst k1;simp +contextual -implicitDefEqProofs only[go_sem];refine VS.w (h.size+2) [8] (.q 0 (.q 1 (.q 2 (.q 3 (.q 4 (.q 5 (.q 6 (.q 7 (.w 8 .nil))))))))) mixed uf ?_;have w1:=Xe hx n (N O v);rw[if_pos ⟨nc,rfl⟩]at w1;have nn:nth (cs.set n (N O (v:Int))) n=W (N O v):=by rw[YR,b6 nc]
  simp +contextual -implicitDefEqProofs only[go_sem,hn8,w1,hb];refine VS.w (h.size+2) [8] (.q 0 (.q 1 (.q 2 (.q 3 (.q 4 (.q 5 (.q 6 (.q 7 (.w 8 .nil))))))))) mixed uf ?_;simp +contextual -implicitDefEqProofs only[go_sem,hn8,hb,nn]
  try exact ((Zk.push Hg _).YU Hg _)
 .by_cases k2:k=2
  .subst k2;have nn:=hi n nc;have x1:hc h ⟨b,n,Y⟩=W (N O (ci cs n)):=by rw[Zn hx];exact nn
   have hsb:=GN hx;simp +contextual -implicitDefEqProofs only[go_sem,hsb];refine VS.w (h.size+2) [8] (.q 0 (.q 1 (.q 2 (.q 3 (.q 4 (.q 5 (.q 6 (.q 7 (.w 8 .nil))))))))) mixed uf ?_;simp +contextual -implicitDefEqProofs only[go_sem,hn8,hb,x1]
  .have k3:k=3:=nc;subst k3;have w1:=Xe hx (32+n) (am true);rw[if_pos ⟨nc,rfl⟩]at w1;simp +contextual -implicitDefEqProofs only[go_sem];refine VS.w (h.size+2) [6] (.q 0 (.q 1 (.q 2 (.q 3 (.q 4 (.q 5 (.w 6 .nil))))))) mixed uf ?_;simp +contextual -implicitDefEqProofs only[go_sem,hn8,w1,hb]
   try exact ((Zk.push Hg _).YU Hg _)
theorem GO(h:Hp)(cs:List a0)(k c s n v:Int)(hf:Xd JJ cs=true)(hi:∀i,i<32->nth cs i=W (N O (ci cs i)))(hb:∀i,32<=i->i<40->nth cs i=W (am (cb cs i))):
  Zd ba T 21 #[aI cs.toArray,aI (QW k c s n v).toArray] h fun v' h'=>xE v' cs k c s n v/\Zk h.size h h':=by
 have hl:(Q cs)=40:=YD hf;have tk:=Xy hl;have XV:=SU hf;refine Zd.MQ [_,_] Tryz.func21 ?_;unfold QW;simp +contextual -implicitDefEqProofs only[go_sem,hl,tk];refine (oN T _ cs hl hi).use ?_;rintro _ _ ⟨rfl,rfl⟩;unfold xE doL Nu;by_cases e1:XA cs=true
 .simp +contextual -implicitDefEqProofs only[go_sem,e1];refine⟨rfl,?_⟩
  (repeat' (first|exact Zk.refl _ _|assumption|refine Zk.add ?_ _|refine Zk.Zt ?_ aab _|refine Zk.trans aac ?_))
 .have e1:XA cs=false:=by simpa using e1
  simp +contextual -implicitDefEqProofs only[go_sem,e1];refine (Uv T _ k c s n v).use ?_;rintro _ _ ⟨rfl,rfl⟩;unfold QW;by_cases e2:YE k c s n v=0
  .obtain⟨k,c,s,n,v,rfl,rfl,rfl,rfl,rfl,y1,y2,y3,y4,y5⟩:=Xb e2;simp only[a3];have JZ:Y1=[N O 0,N O 0,N O 0,N O 0,N O 0,N O 0,N O 0,N O 0,N O 0,N O 0,N O 0,N O 0,N O 0,N O 0,N O 0,N O 0,N O 0,N O 0,N O 0,N O 0,N O 0,N O 0,N O 0,N O 0,N O 0,N O 0,N O 0,N O 0,N O 0,N O 0,N O 0,N O 0,am false,am false,am false,am false,am false,am false,am false,am false]:=rfl;obtain⟨H,hH⟩:=ZQ (((((((h.push (R cs.toArray 55)).push (R [N O k,N O c,N O s,N O n,N O v].toArray 25)).push (R [N O 0,N O 0,N O 0,N O 0,N O 0,N O 0,N O 0,N O 0,N O 0,N O 0,N O 0,N O 0,N O 0,N O 0,N O 0,N O 0,N O 0,N O 0,N O 0,N O 0,N O 0,N O 0,N O 0,N O 0,N O 0,N O 0,N O 0,N O 0,N O 0,N O 0,N O 0,N O 0,am false,am false,am false,am false,am false,am false,am false,am false].toArray 55)).push (R [N O 0,N O 0].toArray 51)).push (R cs.toArray 55)).push (R [N O k,N O c,N O s,N O n,N O v].toArray 25)):Hp);have x0:H[h.size]? = W (R cs.toArray 55):=by rw[hH];simp only[aU,aw,a4,↓reduceIte]
   have x1:H[h.size+1]? = W (R [N O k,N O c,N O s,N O n,N O v].toArray 25):=by rw[hH];simp only[aU,aw,a4,↓reduceIte]
   have x2:H[h.size+2]? = W (R Y1.toArray 55):=by rw[hH,JZ];simp only[aU,aw,a4,↓reduceIte]
   have x3:H[h.size+3]? = W (R [N O 0,N O 0].toArray 51):=by rw[hH];simp only[aU,aw,a4,↓reduceIte]
   have hHs:H.size=h.size+6:=by rw[hH];simp
   have gU:Zk h.size h H:=by rw[hH];(repeat' (first|exact Zk.refl _ _|assumption|refine Zk.add ?_ _|refine Zk.Zt ?_ aab _|refine Zk.trans aac ?_))
   rw[<-hH];clear hH JZ;have c1:hc H ⟨h.size+1,0,Y⟩=W (N O k):=by rw[Zn x1];rfl
   have c2:hc H ⟨h.size+1,1,Y⟩=W (N O c):=by rw[Zn x1];rfl
   have c3:hc H ⟨h.size+1,2,Y⟩=W (N O s):=by rw[Zn x1];rfl
   have cc:(c:Int)<8:=nc;have ZkJ:=hi (8+c) nc;have lx:hc H ⟨h.size,8+c,Y⟩=W (N O (ci cs (8+c))):=by rw[Zn x0];exact ZkJ
   have fin:∀(G:Hp) (D:List a0) (a b:Int),(Q D)=40->D.all YC=true->G[h.size+2]? = W (R Y1.toArray 55)->G[h.size+3]? = W (R [N O 0,N O 0].toArray 51) ->
     wr G ⟨h.size+1+1,0,Y⟩ D=W (G.setIfInBounds (h.size+1+1) (R D.toArray 55)) /\
     wr (G.setIfInBounds (h.size+1+1) (R D.toArray 55)) ⟨h.size+1+1+1,0,Y⟩ [N O a,N O b]=W ((G.setIfInBounds (h.size+1+1) (R D.toArray 55)).setIfInBounds (h.size+1+1+1) (R [N O a,N O b].toArray 51)):=by
    intro G D a b d1 d2 g2 g3;refine⟨?_,?_⟩
    .rw[Ye (b:=h.size+1+1) g2 0 D,Z3 (by rw[d1];rfl),if_pos ⟨by rw[d1];exact a5 _,d2⟩]
    .rw[Ye (b:=h.size+1+1+1) (l:=[N O 0,N O 0]) (t:=51) (by rw[U,if_neg nc];exact g3),if_pos ⟨Hg,rfl⟩];rfl
   have r0:=Zy x0 hl;have pH:∀(G:Hp) (o o':Obj),Zk h.size h G->Zk h.size h ((G.setIfInBounds (h.size+1+1) o).setIfInBounds (h.size+1+1+1) o'):=fun G o o' hG=>(hG.Zt nc _).Zt nc _;by_cases k0:k=0
   .subst k0;have ed:Ql cs 0 c s n v=⟨cs,0,0⟩:=rfl;obtain⟨w2,w3⟩:=fin H cs 0 0 hl XV x2 x3;simp -implicitDefEqProofs only[go_sem,e2,c1,c2,cc,ed,r0,w2,w3,hl,hHs,tk,gU];exact pH H _ _ gU
   .have k0':¬(k:Int)=0:=nc;simp -implicitDefEqProofs only[go_sem,e2,c1,c2,cc,k0'];refine VS.q mixed uf ?_;by_cases q1:(s:Int)+1=ci cs (8+c)
    .have ed:Ql cs k c s n v=⟨cs,ci cs (16+c*2),ci cs (16+c*2+1)⟩:=by unfold Ql;rw[if_neg k0,if_pos q1]
     obtain⟨w2,w3⟩:=fin H cs (ci cs (16+c*2)) (ci cs (16+c*2+1)) hl XV x2 x3;have ra:rd H ⟨h.size,16+c*2,Y⟩ 2=W [N O (ci cs (16+c*2)),N O (ci cs (16+c*2+1))]:=by
      rw[YJ x0 nc,AH (hi _ nc) (hi _ nc)]
     simp -implicitDefEqProofs only[go_sem,c3,lx,q1];refine VS.w (h.size+1+1) [] (.q 0 (.q 1 (.q 2 (.q 3 (.q 4 (.q 5 (.s 6 (.s 7 (.q 8 .nil))))))))) mixed uf ?_;simp -implicitDefEqProofs only[go_sem,e2,c2,cc,ed,r0,ra,w2,w3,hl,hHs,tk,gU];exact pH H _ _ gU
    .simp -implicitDefEqProofs only[go_sem,c3,lx,q1];refine VS.q mixed uf ?_;by_cases q2:(s:Int)<ci cs (8+c)
     .have ed:Ql cs k c s n v=⟨cs,7,0⟩:=by unfold Ql;rw[if_neg k0,if_neg q1,if_pos q2]
      obtain⟨w2,w3⟩:=fin H cs 7 0 hl XV x2 x3;simp -implicitDefEqProofs only[go_sem,c3,lx,q2,e2,ed,r0,w2,w3,hl,hHs,tk,gU];exact pH H _ _ gU
     .have rv:hc H ⟨h.size,32+c,Y⟩=W (am (cb cs (32+c))):=by rw[Zn x0];exact hb _ nc nc
      by_cases q3:cb cs (32+c)=true
      .have ed:Ql cs k c s n v=⟨cs,11,0⟩:=by unfold Ql;rw[if_neg k0,if_neg q1,if_neg q2,if_pos q3]
       obtain⟨w2,w3⟩:=fin H cs 11 0 hl XV x2 x3;rw[q3]at rv;simp -implicitDefEqProofs only[go_sem,c3,lx,q2,c2,cc,rv,e2,ed,r0,w2,w3,hl,hHs,tk,gU];exact pH H _ _ gU
      .have q3':cb cs (32+c)=false:=by simpa using q3
       rw[q3']at rv;have w1:=Xe x0 (8+c) (N O ((s:Int)+1));rw[if_pos ⟨nc,rfl⟩]at w1;have rc:=Zy x1 (n:=5) rfl;have x1':(H.setIfInBounds h.size (R (cs.set (8+c) (N O ((s:Int)+1))).toArray 55))[h.size+1]? = W (R [N O k,N O c,N O s,N O n,N O v].toArray 25):=by rw[U,if_neg nc];exact x1
       have rc':=Zy x1' (n:=5) rfl;simp -implicitDefEqProofs only[go_sem,c3,lx,q2,c2,cc,rv,w1,rc'];have x0':(H.setIfInBounds h.size (R (cs.set (8+c) (N O ((s:Int)+1))).toArray 55))[h.size]? = W (R (cs.set (8+c) (N O ((s:Int)+1))).toArray 55):=by rw[U,if_pos rfl,if_pos nc]
       have WT:Zk h.size h (H.setIfInBounds h.size (R (cs.set (8+c) (N O ((s:Int)+1))).toArray 55)):=gU.Zt (a5 _) _;have x2':(H.setIfInBounds h.size (R (cs.set (8+c) (N O ((s:Int)+1))).toArray 55))[h.size+2]? = W (R Y1.toArray 55):=by rw[U,if_neg nc];exact x2
       have x3':(H.setIfInBounds h.size (R (cs.set (8+c) (N O ((s:Int)+1))).toArray 55))[h.size+3]? = W (R [N O 0,N O 0].toArray 51):=by rw[U,if_neg nc];exact x3
       have hGs:(H.setIfInBounds h.size (R (cs.set (8+c) (N O ((s:Int)+1))).toArray 55)).size=h.size+6:=by rw[a6];exact hHs
       refine (aF T _ h.size (cs.set (8+c) (N O ((s:Int)+1))) k c s n v (by rw[bc];exact hl) (ints_set nc _ hi) nc nc nc x0').use ?_;rintro _ g1 ⟨rfl,b1⟩;rw[pG cs k c n v _ nc nc]at b1 ⊢;have hfA:=aE hf k c n v nc;have ed:Ql cs k c s n v=⟨((((UH cs k c n v).1.set (8+c) (N O ((s:Int)+1))).set (16+c*2) (N O 0)).set (16+c*2+1) (N O (UH cs k c n v).2)),0,(UH cs k c n v).2⟩:=by unfold Ql;rw[if_neg k0,if_neg q1,if_neg q2,if_neg q3]
       obtain⟨A,hA⟩:=ZQ ((UH cs k c n v).1.set (8+c) (N O ((s:Int)+1)));obtain⟨a,ha⟩:=ZQ ((UH cs k c n v).2);rw[<-hA,<-ha]at ed;simp only[<-hA,<-ha]at b1 ⊢;have ZkK:Xd JJ A=true:=by rw[hA];exact Ve _ _ hfA (UG nc _)
       have ZEo:(Q A)=40:=YD ZkK;obtain⟨G,hG⟩:=ZQ (H.setIfInBounds h.size (R (cs.set (8+c) (N O ((s:Int)+1))).toArray 55):Hp);rw[<-hG]at b1 x1' x2' x3' WT hGs;clear x0' rc' hG;rw[hGs]at b1;have g0:g1[h.size]? = W (R A.toArray 55):=b1.get nc (by rw[U,if_pos rfl,if_pos nc]);have g1c:=b1.get (k:=h.size+1) nc (by rw[U,if_neg nc];exact x1');have g2:=b1.get (k:=h.size+2) nc (by rw[U,if_neg nc];exact x2');have g3:=b1.get (k:=h.size+3) nc (by rw[U,if_neg nc];exact x3');have gs:h.size+6<=g1.size:=by have:=b1.size;rw[a6,hGs]at this;exact this
       have gB:Zk h.size h g1:=(WT.Zt (a5 _) _).trans (b1.mono nc);clear b1 WT x1' x2' x3' hGs;have gc:hc g1 ⟨h.size+1,1,Y⟩=W (N O c):=by rw[Zn g1c];rfl
       have wa:=Ye g0 (16+c*2) [N O 0,N O a];rw[if_pos ⟨by simp only[bK,List.length_nil];omega,rfl⟩,SJ,SJ]at wa;have wa:wr g1 ⟨h.size,16+c*2,Y⟩ [N O 0,N O a]=W (g1.setIfInBounds h.size (R ((A.set (16+c*2) (N O 0)).set (16+c*2+1) (N O a)).toArray 55)):=by rw[wa];simp[Y9]
       simp -implicitDefEqProofs only[go_sem,gc,cc,wa];obtain⟨D,hD⟩:=ZQ ((A.set (16+c*2) (N O 0)).set (16+c*2+1) (N O a));have hfD:Xd JJ D=true:=by rw[hD];exact Ve _ _ (Ve _ _ ZkK (UG nc _)) (UG nc _)
       have Zcm:(Q D)=40:=YD hfD;have lG:=SU hfD;have pI:=Xy Zcm;rw[<-hD]at ed ⊢;obtain⟨G,hG⟩:=ZQ ((g1.setIfInBounds h.size (R D.toArray 55)).push (R [N O 0,N O a].toArray 51):Hp);have n0:G[h.size]? = W (R D.toArray 55):=by rw[hG];simp only[aU,a6,U,a4,↓reduceIte]
       have n2:G[h.size+2]? = W (R Y1.toArray 55):=by rw[hG];simp only[aU,a6,U,a4,↓reduceIte];exact g2
       have n3:G[h.size+3]? = W (R [N O 0,N O 0].toArray 51):=by rw[hG];simp only[aU,a6,U,a4,↓reduceIte];exact g3
       have n6:G[g1.size]? = W (R [N O 0,N O a].toArray 51):=by rw[hG];simp only[aU,a6,a4,↓reduceIte]
       have nB:Zk h.size h G:=by rw[hG];exact (gB.Zt (a5 _) _).YU KQ _
       have nS:G.size=g1.size+1:=by rw[hG];simp
       rw[<-hG];have rA:=Zy n0 Zcm;have rB:=Zy n6 (n:=2) rfl;obtain⟨w2,w3⟩:=fin G D 0 a Zcm lG n2 n3;refine VS.w (h.size+1) [2,3,4] (.q 0 (.or 1 (.w 2 (.w 3 (.w 4 .nil))) (.s 2 (.s 1 (.w 3 (.w 4 .nil)))))) mixed uf ?_;have z1:h.size<h.size+1:=nc;have z2:h.size+1+1<G.size:=nc;have z3:h.size+1+1+1<G.size:=nc;simp -implicitDefEqProofs only[go_sem,rA,rB,w2,w3,Zcm,pI,z1,z2,z3,ed];exact⟨pH G _ _ nB,pH G _ _ nB⟩
  .simp +contextual -implicitDefEqProofs only[go_sem,e2];refine⟨rfl,?_⟩
   (repeat' (first|exact Zk.refl _ _|assumption|refine Zk.add ?_ _|refine Zk.Zt ?_ aab _|refine Zk.trans aac ?_))
theorem xF{g:Hp}{b:Nat}{o o':Obj}(hx:g[b]? = W o'):(g.setIfInBounds b o)[b]? = W o:=by rw[U,if_pos rfl,if_pos (Za hx)]
def St:Vt:=⟨0,⟨0,0⟩,0,0,0,0,0⟩
def C8(v:Vt):List a0:=[N O v.k,N O v.c,N O v.s,N O v.nm,N O v.v]
def US(Zu:Int)(ZkL v:Vt):Vt:=if v.Zu=Zu/\ZL ZkL.b v.b then v else ZkL
def WF(Zu:Int)(l:List Vt):Vt:=l.foldl (US Zu) St
def WH(l:List Vt):Bool:=l.all fun v=>decide (Ym v)
def Sc(Zu:Int)(l:List Vt):Int:=if Zu<0\/39<Zu then 2 else if WH l=true then 0 else 5
def C9(v':a0)(Zu:Int)(l:List Vt):Prop:=
 v'=.tuple [aI (C8 (if Sc Zu l=0 then WF Zu l else St)).toArray,am (if Sc Zu l=0 then decide (0<(WF Zu l).b.r) else false),N O (Sc Zu l)].toArray
def Vss(h:Hp)(v:a0)(LL:List (List Vt)):Prop:=∃p c,v=X p (Q LL) c/\(LL≠[]->∃b o,p=W ⟨b,o,Y⟩/\b<h.size/\∀i (hi:i<(Q LL)),∃w,hc h ⟨b,o+i,Y⟩=W w/\Ts Zv 8 h w LL[i]/\LL[i].length<=2199023255552)
theorem pJ(LL:List (List Vt))(i:Nat)(hi:i<(Q LL)):(LL.take (i+1)).flatten=(LL.take i).flatten++LL[i]:=by
 rw[Y2 LL i hi,List.flatten_append,List.flatten_singleton]
theorem ij(a b:List Vt):WH (a++b)=(WH a&&WH b):=by simp[WH]
theorem Ba{l:List Vt}{v:Vt}(hv:v∈l)(hm:¬Ym v):WH l=false:=by
 rw[WH,List.all_eq_false];exact⟨v,hv,by simpa using hm⟩
set_option maxHeartbeats 1000000 in
theorem Zcn(h:Hp)(u:a0)(LL:List (List Vt))(Zu:Int)(s:Vss h u LL)(hL:(Q LL)<=4611686018427387904):
  Zd ba T 135 #[u,N O Zu] h fun v' h'=>C9 v' Zu LL.flatten/\Zk h.size h h':=by
 have xH:Sc Zu LL.flatten=if Zu<0\/39<Zu then 2 else if WH LL.flatten=true then 0 else 5:=rfl
 obtain⟨p,c,rfl,XE⟩:=s;refine Zd.MQ [_,_] Tryz.func135 ?_;unfold C9;by_cases q1:Zu<0
 .rw[if_pos (.inl q1)]at xH;simp -implicitDefEqProofs only[go_sem,q1,xH];rfl
 .by_cases q2:39<Zu
  .rw[if_pos (.inr q2)]at xH;have q2':40<=Zu:=nc;simp -implicitDefEqProofs only[go_sem,q1,q2',xH];rfl
  .rw[if_neg nc]at xH;have q2':¬40<=Zu:=nc;simp -implicitDefEqProofs only[go_sem,q1,q2'];obtain⟨H,hH⟩:=ZQ ((h.push (R #[N O 0,N O 0,N O 0,N O 0,N O 0] 25)).push (R #[N O 0,N O 0,N O 0,N O 0,N O 0,N O 0,N O 0,N O 0] 133):Hp);have HB:Zk h.size h H:=by rw[hH];(repeat' (first|exact Zk.refl _ _|assumption|refine Zk.add ?_ _|refine Zk.Zt ?_ aab _|refine Zk.trans aac ?_))
   have HZ:H[h.size]? = W (R (C8 St).toArray 25):=by rw[hH,ZJ Hg,Zc];rfl
   have HV:H[h.size+1]? = W (R (Zv St).toArray 133):=by
    have:=Zc (h:=h.push (R #[N O 0,N O 0,N O 0,N O 0,N O 0] 25)) (o:=R #[N O 0,N O 0,N O 0,N O 0,N O 0,N O 0,N O 0,N O 0] 133);rw[aw]at this;rw[hH,this];rfl
   rw[<-hH];clear hH;have wz:∀g:Hp,g[h.size]? = W (R (C8 St).toArray 25)->∀w:List a0,(Q w)=5->w.all YC=true->wr g ⟨h.size,0,Y⟩ w=W (g.setIfInBounds h.size (R w.toArray 25)):=by
    intro g hg w h5 h1;rw[Ye hg 0 w,Z3 (by rw[h5];rfl),if_pos ⟨by rw[h5];exact a5 _,h1⟩]
   refine VS.Yj (fun F g=>F 1=N O Zu/\F 4=al (W ⟨h.size,0,Y⟩)/\F 7=al (W ⟨h.size+1,0,Y⟩)/\F 19=X p (Q LL) c/\F 20=N O (Q LL)/\Zk h.size h g/\g[h.size]? = W (R (C8 St).toArray 25)/\∃i:Nat,i<=(Q LL)/\F 21=N O i/\g[h.size+1]? = W (R (Zv (WF Zu (LL.take i).flatten)).toArray 133)/\WH (LL.take i).flatten=true)
    (fun F _=>(Q LL)-(vi (F 21)).toNat) rfl ⟨rfl,rfl,rfl,rfl,rfl,HB,HZ,0,nc,rfl,HV,rfl⟩ ?_
   clear HB HZ HV H;rintro F g ⟨f1,f4,f7,f19,f20,hg,gZ,i,hi,f21,gV,XY⟩;have zV:=Za gV;by_cases ZU:i<(Q LL)
   .have Z8:(i:Int)<(Q LL):=nc;obtain⟨bb,oo,rfl,Tm,XE⟩:=XE (by intro e;rw[e]at ZU;simp at ZU);obtain⟨w,hw,tw,hwl⟩:=XE i ZU;have hw':V.hc g ⟨bb,oo+i,Y⟩=W w:=by rw[hg.hc (by exact Tm)];exact hw
    have ZeI:=pJ LL i ZU;have xI:LL[i]∈LL:=bR ZU;obtain⟨L,hLi⟩:=ZQ (LL[i]);rw[<-hLi]at tw hwl ZeI xI;obtain⟨pw,cw,rfl,hwc⟩:=WD tw;simp -implicitDefEqProofs only[go_sem,f1,f4,f7,f19,f20,f21,Z8,a3,hw'];refine VS.Yj (fun F g=>F 1=N O Zu/\F 4=al (W ⟨h.size,0,Y⟩)/\F 7=al (W ⟨h.size+1,0,Y⟩)/\F 19=X (W ⟨bb,oo,Y⟩) (Q LL) c/\F 20=N O (Q LL)/\F 21=N O i/\F 25=X pw (Q L) cw/\F 26=N O (Q L)/\Zk h.size h g/\g[h.size]? = W (R (C8 St).toArray 25)/\∃j:Nat,j<=(Q L)/\F 27=N O j/\g[h.size+1]? = W (R (Zv (WF Zu ((LL.take i).flatten++L.take j))).toArray 133)/\WH ((LL.take i).flatten++L.take j)=true)
     (fun F _=>(Q L)-(vi (F 27)).toNat) rfl ⟨f1,f4,f7,f19,f20,f21,rfl,rfl,hg,gZ,0,nc,rfl,by rw[cR,a8];exact gV,by rw[cR,a8];exact XY⟩ ?_
    clear f1 f4 f7 f19 f20 f21 F hg gZ gV XY zV hw';rintro F g ⟨f1,f4,f7,f19,f20,f21,f25,f26,hg,gZ,j,hj,f27,gV,XY⟩;have zV:=Za gV;by_cases hlj:j<(Q L)
    .have Zsy:(j:Int)<(Q L):=nc;obtain⟨b2,o2,rfl,Hr,_,hwc⟩:=hwc (by intro e;rw[e]at hlj;simp at hlj);have r1:rd g ⟨b2,o2+j*8,Y⟩ 8=W (Zv L[j]):=by rw[QU hg (by exact Hr)];exact hwc j hlj
     have ik:(LL.take i).flatten++L.take (j+1)=((LL.take i).flatten++L.take j)++[L[j]]:=by rw[Y2 L j hlj,List.append_assoc]
     have ZeL:L[j]∈LL.flatten:=List.mem_flatten.2 ⟨L,xI,bR hlj⟩;obtain⟨v,hv⟩:=ZQ (L[j]);rw[<-hv]at r1 ik ZeL;have Qa:WF Zu ((LL.take i).flatten++L.take (j+1))=US Zu (WF Zu ((LL.take i).flatten++L.take j)) v:=by
      rw[ik];unfold WF;rw[List.foldl_append];rfl
     have Hl:WH ((LL.take i).flatten++L.take (j+1))=decide (Ym v):=by rw[ik,ij,XY,Bool.true_and];simp[WH]
     obtain⟨B,hB⟩:=ZQ (WF Zu ((LL.take i).flatten++L.take j));rw[<-hB]at gV Qa;unfold Zv at r1;simp -implicitDefEqProofs only[go_sem,f1,f4,f7,f19,f20,f21,f25,f26,f27,Zsy,a3,r1];refine (HC T _ v).use ?_;rintro _ g1 ⟨rfl,b1⟩;have BZ:Zk g.size g g1:=(Zk.push (a5 _) _).trans (b1.mono Hg);have y0:g1[g.size]? = W (R (Zv v).toArray 133):=b1.get Hg Zc;have z1:=BZ.size;have Ns:=hg.trans (BZ.mono hg.size);have gZ1:=BZ.get (Za gZ) gZ;have gV1:=BZ.get zV gV;have z0:=Za y0;by_cases c1:Ym v
     .rw[decide_eq_true c1]at Hl;have y1:V.hc g1 ⟨g.size,0,Y⟩=W (N O v.Zu):=by rw[Zn y0];rfl
      have y2:rd g1 ⟨g.size,1,Y⟩ 2=W (Qz v.b):=by rw[YJ y0 (by simp[Zv])];rfl
      have y3:rd g1 ⟨h.size+1,1,Y⟩ 2=W (Qz B.b):=by rw[YJ gV1 (by simp[Zv])];rfl
      by_cases c2:v.Zu=Zu
      .simp -implicitDefEqProofs only[go_sem,f1,f4,f7,f19,f20,f21,f25,f26,f27,c1,y1,c2,y2,y3];refine (Tn T _ v.b B.b).use ?_;rintro _ g2 ⟨rfl,tI⟩;have z2:=tI.size;have Wn:=Ns.trans (tI.mono Ns.size);have gZ2:=tI.get (Za gZ1) gZ1;have gV2:=tI.get (Za gV1) gV1;have y02:=tI.get z0 y0;by_cases c3:ZL B.b v.b
       .have xr:=(SX v.b B.b).2 c3;have rV:=Zy y02 (n:=8) rfl;have wV:=Ye gV2 0 (Zv v);rw[Z3 (by simp[Zv]),if_pos ⟨by simp[Zv],rfl⟩]at wV;have hpk:US Zu B v=v:=by unfold US;rw[if_pos ⟨c2,c3⟩]
        rw[hpk]at Qa;unfold Zv at rV wV;simp -implicitDefEqProofs only[go_sem,f1,f4,f7,f19,f20,f21,f25,f26,f27,xr,rV,wV];refine⟨⟨f1,f4,f7,f19,f20,f21,f25,f26,Wn.Zt nc _,?_,j+1,hlj,rfl,?_,Hl⟩,?_⟩
        .rw[U,if_neg nc];exact gZ2
        .rw[Qa];exact xF gV2
        .simp only[vi,Zr,↓reduceIte,f27];omega
       .have xr:¬0<Ke v.b B.b:=fun h=>c3 ((SX v.b B.b).1 h);have hpk:US Zu B v=B:=by unfold US;rw[if_neg (fun h=>c3 h.2)]
        rw[hpk]at Qa;simp -implicitDefEqProofs only[go_sem,f1,f4,f7,f19,f20,f21,f25,f26,f27,xr];refine⟨⟨f1,f4,f7,f19,f20,f21,f25,f26,Wn,gZ2,j+1,hlj,rfl,?_,Hl⟩,?_⟩
        .rw[Qa];exact gV2
        .simp only[vi,Zr,↓reduceIte,f27];omega
      .have hpk:US Zu B v=B:=by unfold US;rw[if_neg (fun h=>c2 h.1)]
       rw[hpk]at Qa;simp -implicitDefEqProofs only[go_sem,f1,f4,f7,f19,f20,f21,f25,f26,f27,c1,y1,c2];refine⟨⟨f1,f4,f7,f19,f20,f21,f25,f26,Ns,gZ1,j+1,hlj,rfl,?_,Hl⟩,?_⟩
       .rw[Qa];exact gV1
       .simp only[vi,Zr,↓reduceIte,f27];omega
     .have hf:=Ba ZeL c1;rw[hf,if_neg aaa]at xH;have wz1:=wz g1 gZ1 [N O 0,N O 0,N O 0,N O 0,N O 0] rfl rfl;have zl:=Za gZ1;simp -implicitDefEqProofs only[go_sem,f1,f4,f7,c1,wz1,zl,xH];exact⟨rfl,Ns.Zt (a5 _) _⟩
    .have ZsA:¬(j:Int)<(Q L):=nc;obtain rfl:j=(Q L):=nc;rw[cA,<-ZeI]at gV XY;simp -implicitDefEqProofs only[go_sem,f1,f4,f7,f19,f20,f21,f25,f26,f27,ZsA];refine⟨⟨f1,f4,f7,f19,f20,hg,gZ,i+1,ZU,rfl,gV,XY⟩,?_⟩;simp only[vi,Zr,↓reduceIte,f21];omega
   .have Xp:¬(i:Int)<(Q LL):=nc;obtain rfl:i=(Q LL):=nc;rw[cA]at gV XY;rw[XY,if_pos rfl]at xH;rw[xH,if_pos rfl,if_pos rfl];obtain⟨B,hB⟩:=ZQ (WF Zu LL.flatten);rw[<-hB]at gV ⊢;have r1:rd g ⟨h.size+1,3,Y⟩ 5=W (C8 B):=by rw[YJ gV (by simp[Zv])];rfl
    have r2:V.hc g ⟨h.size+1,1,Y⟩=W (N O B.b.r):=by rw[Zn gV];rfl
    have wB:=wz g gZ (C8 B) rfl rfl;have zl:=Za gZ;unfold C8 at r1 wB ⊢;simp -implicitDefEqProofs only[go_sem,f1,f4,f7,f19,f20,f21,Xp];refine VS.w (h.size) [] (.q 0 (.q 2 (.q 3 (.or 1 (.or 4 (.q 5 (.s 6 (.q 7 (.q 8 .nil)))) (.s 6 (.s 4 (.q 5 (.q 7 (.q 8 .nil)))))) (.s 4 (.q 5 (.s 1 (.s 6 (.q 7 (.q 8 .nil)))))))))) mixed uf ?_;simp -implicitDefEqProofs only[go_sem,f4,f7,r1,r2,wB,zl];have il:=hg.Zt (a5 _) (R #[N O B.k,N O B.c,N O B.s,N O B.nm,N O B.v] 25);exact⟨⟨il,il⟩,il⟩
end Go.Proofs.YthlfaofofaphfaaGreatDoor
