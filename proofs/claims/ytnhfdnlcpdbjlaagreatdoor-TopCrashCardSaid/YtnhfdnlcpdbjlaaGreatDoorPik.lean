/- Part Pik. -/
import Derived.Test.YtnhfdnlcpdbjlaaGreatDoorVst
import Derived.Test.YtnhfdnlcpdbjlaaGreatDoorW13
import Derived.Test.YtnhfdnlcpdbjlaaGreatDoorLchks
open Go.Value renaming int→N,slice→X,pointer→ak,bool→al,agg→an
open Go.IntKind renaming i64→O,u64→S
open Go.Obj renaming cells→R
open Go.Proofs.Tryz renaming prog→a4
open List renaming length→Q,getD_eq_getElem?_getD→aa,getElem?_eq_getElem→aX,append_nil→a0,length_set→a5,mem_iff_getElem→a6,length_drop→a8,take_of_length_le→a9,getElem?_set_ne→ba,length_take→bc,take_append_drop→bg,getD_cons_zero→bh,getD_cons_succ→bj,mem_or_eq_of_mem_set→bn,all_eq_true→bw,length_cons→bx,getElem_mem→bz,filter_eq_nil_iff→bD,drop_of_length_le→bR,getElem?_set_self→bS,getElem?_eq_none→b0,mem_range→b5,mem_cons_of_mem→b6,filter_eq_self→b9,filter_append→ca,mem_cons_self→cd,set_cons_zero→ck,set_cons_succ→cn,getElem_drop→co,getElem_take→cp,take_length→cz,range→cB,take_zero→cC,set_comm→cF
open Nat renaming le_refl→aK,mul_assoc→a3,zero_add→a7,mul_comm→bd,add_mul_mod_self_left→bf,add_sub_cancel→bl,add_assoc→bp,pow_succ→bG,mul_add→b7,add_mod→b8,lt_of_lt_of_le→cf,mod_lt→cg,zero_mul→cq,add_zero→cr,le_of_lt_succ→ct,mod_eq_of_lt→cx
open Int renaming toNat_natCast→aF,natCast_mul→cA
open Option renaming some→W,none→Y
open Array renaming getElem?_setIfInBounds→U,size_push→am,getElem?_push→au,size_setIfInBounds→aU
open Bool renaming and_eq_true→bA
open Go.IntWalk renaming iteOmega→aI
open Go renaming Value→aw
namespace Go.Proofs.YtnhfdnlcpdbjlaaGreatDoor
open Go Go.V
set_option linter.all false
set_option maxRecDepth 100000
variable(T:World){i:Nat}{l:List Nat}
structure Yg where
 r:Int
 n:Int
structure Vt where
 Zs:Int
 b:Yg
 k:Int
 c:Int
 s:Int
 nm:Int
 v:Int
def Qu(b:Yg):List aw:=[N O b.r,N O b.n]
def Zv(v:Vt):List aw:=[N O v.Zs,N O v.b.r,N O v.b.n,N O v.k,N O v.c,N O v.s,N O v.nm,N O v.v]
def ZC(b:Yg):Prop:=(1<=b.r/\b.r<=65536)/\(0<=b.n/\b.n<=4)
instance (b:Yg):Decidable (ZC b):=by unfold ZC;infer_instance
def Yu(v:Vt):Prop:=(0<=v.Zs/\v.Zs<=39)/\ZC v.b/\XB v.k v.c v.s v.nm v.v=0
instance (v:Vt):Decidable (Yu v):=by unfold Yu;infer_instance
def Zw(a b:Yg):Prop:=a.r<b.r\/(a.r=b.r/\a.n<b.n)
instance (a b:Yg):Decidable (Zw a b):=by unfold Zw;infer_instance
def Nc(a b:Int):Int:=if a<b then -1 else if b<a then 1 else 0
def Kc(a b:Yg):Int:=if Nc a.r b.r=0 then Nc a.n b.n else Nc a.r b.r
theorem SQ(a b:Yg):0<Kc a b↔Zw b a:=by
 unfold Kc Nc Zw
 repeat' split
 all_goals omega
theorem MX(a b:Yg):Kc a b<0↔Zw a b:=by
 unfold Kc Nc Zw
 repeat' split
 all_goals omega
theorem AY(h:Hp)(a:Int):Zg a4 T 129 #[N O a] h fun v' h'=>v'=al false/\h'=h:=by
 refine Zg.XK [_] Tryz.func129 ?_;simp -implicitDefEqProofs only[go_sem]
theorem Sm(h:Hp)(a b:Int):Zg a4 T 110 #[N O a,N O b] h fun v' h'=>v'=N O (Nc a b)/\h'=h:=by
 refine Zg.XK [_,_] Tryz.func110 ?_;simp -implicitDefEqProofs only[go_sem];refine (AY T _ _).pure ?_;simp -implicitDefEqProofs only[go_sem];refine (AY T _ _).pure ?_;unfold Nc;by_cases q1:a<b
 .simp -implicitDefEqProofs only[go_sem,q1]
 .by_cases q2:b<a
  .simp -implicitDefEqProofs only[go_sem,q1,q2]
  .simp -implicitDefEqProofs only[go_sem,q1,q2]
theorem wP(h:Hp)(b:Nat)(x y:Int)(h0:hc h ⟨b,0,Y⟩=W (N O x))(h1:hc h ⟨b,1,Y⟩=W (N O y)):Zg a4 T 128 #[X (W ⟨b,0,Y⟩) 2 2] h fun v' h'=>v'=N O (if x=0 then y else x)/\h'=h:=by
 refine Zg.XK [_] Tryz.func128 ?_;simp -implicitDefEqProofs only[go_sem];refine VS.rounds 3 rfl ?_;by_cases q1:x=0
 .by_cases q2:y=0
  .simp -implicitDefEqProofs only[go_sem,h0,h1,q1,q2,Int.reduceAdd]
  .simp -implicitDefEqProofs only[go_sem,h0,h1,q1,q2,Int.reduceAdd]
 .simp -implicitDefEqProofs only[go_sem,h0,h1,q1]
theorem SU(h:Hp)(b:Yg):Zg a4 T 104 #[an (Qu b).toArray] h fun v' h'=>v'=al (decide (ZC b))/\h'=h.push (R (Qu b).toArray 63):=by
 refine Zg.XK [_] Tryz.func104 ?_;unfold Qu;by_cases q1:1<=b.r
 .by_cases q2:b.r<=65536
  .by_cases q3:0<=b.n
   .by_cases q4:b.n<5
    .have e:ZC b:=⟨⟨q1,q2⟩,q3,mD⟩
     simp -implicitDefEqProofs only[go_sem,q1,q2,q3,q4,e]
    .have e:¬ZC b:=by unfold ZC;omega
     simp -implicitDefEqProofs only[go_sem,q1,q2,q3,q4,e]
   .have e:¬ZC b:=by unfold ZC;omega
    simp -implicitDefEqProofs only[go_sem,q1,q2,q3,e]
  .have e:¬ZC b:=by unfold ZC;omega
   simp -implicitDefEqProofs only[go_sem,q1,q2,e]
 .have e:¬ZC b:=by unfold ZC;omega
  simp -implicitDefEqProofs only[go_sem,q1,e]
theorem VY(h:Hp)(a b:Yg):Zg a4 T 105 #[an (Qu a).toArray,an (Qu b).toArray] h fun v' h'=>v'=N O (Kc a b)/\Zk h.size h h':=by
 refine Zg.XK [_,_] Tryz.func105 ?_;unfold Qu;simp -implicitDefEqProofs only[go_sem];refine VS.z (h.size+2) [] (.p 0 (.q 1 (.p 2 (.q 3 (.p 5 (.q 6 (.p 7 (.q 8 (.s 4 (.s 9 (.s 10 (.s 11 (.p 12 .nil))))))))))))) mixed sV ?_;simp -implicitDefEqProofs only[go_sem];refine (Sm T _ _ _).pure ?_;simp -implicitDefEqProofs only[go_sem];refine (Sm T _ _ _).pure ?_;simp -implicitDefEqProofs only[go_sem];refine⟨(Zk.refl _ _).Y1 sW _,?_⟩;refine (wP T _ _ (Nc a.r b.r) (Nc a.n b.n) ?_ ?_).pure ?_
 .simp -implicitDefEqProofs only[go_sem]
 .simp -implicitDefEqProofs only[go_sem]
 unfold Kc;simp -implicitDefEqProofs only[go_sem];refine⟨(Zk.refl _ _).Y1 sW _,?_⟩
 (repeat' (first|exact Zk.refl _ _|assumption|refine Zk.add ?_ _|refine Zk.Zu ?_ IX _|refine Zk.trans KO ?_))
theorem Hd(h:Hp)(v:Vt):Zg a4 T 107 #[an (Zv v).toArray] h fun v' h'=>v'=al (decide (Yu v))/\Zk h.size h h':=by
 refine Zg.XK [_] Tryz.func107 ?_;unfold Zv;by_cases q1:0<=v.Zs
 .by_cases q2:v.Zs<40
  .simp -implicitDefEqProofs only[go_sem,q1,q2];refine (SU T _ v.b).use ?_;rintro _ _ ⟨rfl,rfl⟩;unfold Qu;by_cases q3:ZC v.b
   .simp -implicitDefEqProofs only[go_sem,q3];refine (Uk T _ v.k v.c v.s v.nm v.v).use ?_;rintro _ _ ⟨rfl,rfl⟩;by_cases q4:XB v.k v.c v.s v.nm v.v=0
    .have e:Yu v:=⟨⟨q1,mD⟩,q3,q4⟩
     simp -implicitDefEqProofs only[go_sem,q4,e]
     (repeat' (first|exact Zk.refl _ _|assumption|refine Zk.add ?_ _|refine Zk.Zu ?_ IX _|refine Zk.trans KO ?_))
    .have e:¬Yu v:=fun h=>q4 h.2.2;simp -implicitDefEqProofs only[go_sem,q4,e]
     (repeat' (first|exact Zk.refl _ _|assumption|refine Zk.add ?_ _|refine Zk.Zu ?_ IX _|refine Zk.trans KO ?_))
   .have e:¬Yu v:=fun h=>q3 h.2.1;simp -implicitDefEqProofs only[go_sem,q3,e]
  .have e:¬Yu v:=by unfold Yu;omega
   simp -implicitDefEqProofs only[go_sem,q1,q2,e]
 .have e:¬Yu v:=by unfold Yu;omega
  simp -implicitDefEqProofs only[go_sem,q1,e]
theorem Wk{h:Hp}{v:aw}{l:List Vt}(s:Ts Zv 8 h v l):∃p cap,v=X p (Q l) cap/\(l≠[]->∃b o,p=W ⟨b,o,Y⟩/\b<h.size/\(∀i (hi:i<(Q l)),hc h ⟨b,o+i*8,Y⟩=W (N O l[i].Zs))/\∀i (hi:i<(Q l)),rd h ⟨b,o+i*8,Y⟩ 8=W (Zv l[i])):=by
 obtain⟨p,cap,hv,Vx⟩:=Ts.open (enc:=Zv) (n:=8) (fun _=>rfl) KC s;refine⟨p,cap,hv,fun Xb=>?_⟩;obtain⟨b,o,hp,hb,XH⟩:=Vx Xb;exact⟨b,o,hp,hb,fun i hi=>(XH i hi).hc (i:=0) rfl,fun i hi=>(XH i hi).rd (by simp[Zv]) rfl⟩
def Kd(l:List Vt)(j:Nat):Int:=((l[j]?).map (·.Zs)).getD (-1)
def Sn(l:List Vt)(i:Nat):Int:=if i=0 then -1 else Kd l (i-1)
def RE(p:Yg)(l:List Vt)(i:Nat):Bool:=match l[i]? with
 | some v=>decide (Yu v/\¬Zw p v.b/\(i=0\/Kd l (i-1)<v.Zs))
 | none=>true
def Jw(p:Yg)(l:List Vt):Int:=if ¬ZC p/\¬(p.r=0/\p.n=0) then 5 else if (cB (Q l)).all (RE p l)=true then 0 else 5
theorem ON{l:List Vt}{j:Nat}(hj:j<(Q l)):Kd l j=l[j].Zs:=by
 unfold Kd;rw[aX hj];rfl
theorem MY{p:Yg}{l:List Vt}(hi:i<(Q l)):RE p l i=true↔Yu l[i]/\¬Zw p l[i].b/\(i=0\/Kd l (i-1)<l[i].Zs):=by
 unfold RE;rw[aX hi];simp only[decide_eq_true_eq]
theorem Da{p:Yg}{l:List Vt}(hi:i<(Q l)):RE p l i=true↔Yu l[i]/\¬Zw p l[i].b/\Sn l i<l[i].Zs:=by
 rw[MY hi];unfold Sn;by_cases h0:i=0
 .rw[if_pos h0]
  constructor
  .rintro⟨h1,h2,_⟩;exact⟨h1,h2,by have:=h1.1.1;omega⟩
  .rintro⟨h1,h2,_⟩;exact⟨h1,h2,.inl h0⟩
 .rw[if_neg h0]
  constructor
  .rintro⟨h1,h2,h3⟩;exact⟨h1,h2,h3.resolve_left h0⟩
  .rintro⟨h1,h2,h3⟩;exact⟨h1,h2,.inr h3⟩
theorem PU{p:Yg}{l:List Vt}(hp:¬(¬ZC p/\¬(p.r=0/\p.n=0)))(hg:∀j,j<(Q l)->RE p l j=true):Jw p l=0:=by
 unfold Jw;rw[if_neg hp,if_pos (bw.2 fun i hi=>hg i (b5.1 hi))]
theorem Wl{p:Yg}{l:List Vt}(hi:i<(Q l))(hb:RE p l i=false):Jw p l=5:=by
 unfold Jw;split
 .rfl
 .rw[if_neg];intro h;have:=bw.1 h i (b5.2 hi);rw[hb]at this;cases this
def XC(p:Yg)(v:aw):List aw:=[N O p.r,N O p.n,v]
theorem Nv(h:Hp)(p:Yg)(u:aw)(l:List Vt)(s:Ts Zv 8 h u l)(hlen:(Q l)<=4611686018427387904):
  Zg a4 T 103 #[an (XC p u).toArray] h fun v' h'=>v'=N O (Jw p l)/\Zk h.size h h':=by
 obtain⟨pv,cv,rfl,XH⟩:=Wk s;refine Zg.XK [_] Tryz.func103 ?_;unfold XC;by_cases z:p.r=0/\p.n=0
 .obtain⟨z1,z2⟩:=z;have dX:¬(¬ZC p/\¬(p.r=0/\p.n=0)):=fun h=>h.2 ⟨z1,z2⟩;simp -implicitDefEqProofs only[go_sem,z1,z2];obtain⟨H,hH⟩:=ZP (h.push (R [N O 0,N O 0,X pv (Q l) cv].toArray 66):Hp);have x0:H[h.size]? = W (R (XC p (X pv (Q l) cv)).toArray 66):=by rw[hH];unfold XC;rw[z1,z2];exact Zd
  have gP:Zk h.size h H:=by rw[hH];(repeat' (first|exact Zk.refl _ _|assumption|refine Zk.add ?_ _|refine Zk.Zu ?_ IX _|refine Zk.trans KO ?_))
  rw[<-hH];clear hH;have hz:=Za x0;refine VS.Yq (fun F g=>Zk H.size H g/\F 1=ak (W ⟨h.size,0,Y⟩)/\F 17=X pv (Q l) cv/\F 18=N O (Q l)/\∃i:Nat,i<=(Q l)/\F 19=N O i/\F 3=N O (Sn l i)/\∀j,j<i->RE p l j=true)
   (fun F _=>(Q l)-(vi (F 19)).toNat) rfl ⟨Zk.refl _ _,rfl,rfl,rfl,0,mD,rfl,rfl,fun j hj=>by omega⟩ ?_
  rintro F g ⟨hg,f1,f17,f18,i,hi,f19,f3,XT⟩;have PQ:=hg.size;have Cz:Zk h.size h g:=gP.trans (hg.mono mD);by_cases ZV:i<(Q l)
  .have Z4:(i:Int)<(Q l):=mD;obtain⟨bb,oo,rfl,Tu,Gs,XH⟩:=XH (by intro e;rw[e]at ZV;simp at ZV);have Zsn:bb<H.size:=by have:=gP.size;omega
   have r1:rd g ⟨bb,oo+i*8,Y⟩ 8=W (Zv l[i]):=by
    rw[Q9 Cz (by exact Tu)];exact XH i ZV
   have rp:rd g ⟨h.size,0,Y⟩ 2=W [N O p.r,N O p.n]:=by rw[Q9 hg (by exact hz),YI x0 (by simp[XC])];rfl
   have hsl:=ON ZV;have gl:=Da (p:=p) ZV;obtain⟨v,hv⟩:=ZP (l[i]);rw[<-hv]at r1 gl hsl;unfold Zv at r1;have XE:Sn l (i+1)=v.Zs:=by unfold Sn;rw[if_neg mD,bl];exact hsl
   simp -implicitDefEqProofs only[go_sem,f1,f17,f18,f19,Z4,r1];refine (Hd T _ v).use ?_;rintro _ g1 ⟨rfl,b1⟩;have b1s:=b1.size;simp only[am]at b1s;have y0:g1[g.size]? = W (R [N O v.Zs,N O v.b.r,N O v.b.n,N O v.k,N O v.c,N O v.s,N O v.nm,N O v.v].toArray 97):=b1.get sW Zd;have y1:hc g1 ⟨g.size,0,Y⟩=W (N O v.Zs):=by rw[Zn y0];rfl
   have y2:rd g1 ⟨g.size,1,Y⟩ 2=W [N O v.b.r,N O v.b.n]:=by rw[YI y0 sW];rfl
   have BF:Zk g.size g g1:=(Zk.push (aK _) _).trans (b1.mono sW);have y3:rd g1 ⟨h.size,0,Y⟩ 2=W [N O p.r,N O p.n]:=by rw[Q9 BF (by show h.size<g.size;omega)];exact rp
   have WC:Zk h.size h g1:=Cz.trans (BF.mono mD);have LO:Zk H.size H g1:=hg.trans (BF.mono mD);by_cases c1:Yu v
   .by_cases c2:v.Zs<=Sn l i
    .have e:=Wl (p:=p) ZV (by cases Ao:RE p l i with|false=>rfl|true=>exact absurd (gl.1 Ao).2.2 mD);simp -implicitDefEqProofs only[go_sem,f1,f3,c1,c2,y1,e,WC]
    .simp -implicitDefEqProofs only[go_sem,f1,f3,c1,c2,y1,y2,y3];refine (VY T _ v.b p).use ?_;rintro _ g2 ⟨rfl,b2⟩;have y4:hc g2 ⟨g.size,0,Y⟩=W (N O v.Zs):=by rw[b2.hc (by show g.size<g1.size;omega)];exact y1
     have Py:Zk h.size h g2:=WC.trans (b2.mono (by have:=WC.size;omega));have U1:Zk H.size H g2:=LO.trans (b2.mono (by have:=LO.size;omega));by_cases c3:Zw p v.b
     .have e:=Wl (p:=p) ZV (by cases Ao:RE p l i with|false=>rfl|true=>exact absurd c3 (gl.1 Ao).2.1);have wU:=(SQ v.b p).2 c3;simp -implicitDefEqProofs only[go_sem,wU,e,Py]
     .have wU:¬0<Kc v.b p:=fun h=>c3 ((SQ v.b p).1 h);simp -implicitDefEqProofs only[go_sem,wU,f1,f17,f18,f19,y4];refine⟨⟨U1,f1,f17,f18,i+1,ZV,rfl,by rw[XE];rfl,fun j hj=>?_⟩,?_⟩
      .by_cases Px:j=i
       .subst Px;exact gl.2 ⟨c1,c3,mD⟩
       .exact XT j mD
      .simp only[vi,Zt,↓reduceIte,f19];omega
   .have e:=Wl (p:=p) ZV (by cases Ao:RE p l i with|false=>rfl|true=>exact absurd (gl.1 Ao).1 c1);simp -implicitDefEqProofs only[go_sem,c1,e,WC]
  .have Xw:¬(i:Int)<(Q l):=mD;obtain rfl:i=(Q l):=mD;have e:=PU dX XT;simp -implicitDefEqProofs only[go_sem,f17,f18,f19,Xw,e,Cz]
 .have z':¬p.r=0\/¬p.n=0:=mD;by_cases q:ZC p
  .have dX:¬(¬ZC p/\¬(p.r=0/\p.n=0)):=fun h=>h.1 q;have zz:(p.r=0/\p.n=0)=False:=eq_false z;by_cases z1:p.r=0
   .have z2:¬p.n=0:=fun e=>z ⟨z1,e⟩;exact absurd q.1.1 mD
   .simp -implicitDefEqProofs only[go_sem,z1];refine (SU T _ p).use ?_;rintro _ _ ⟨rfl,rfl⟩;simp -implicitDefEqProofs only[go_sem,q];obtain⟨H,hH⟩:=ZP ((h.push (R [N O p.r,N O p.n,X pv (Q l) cv].toArray 66)).push (R (Qu p).toArray 63):Hp);have x0:H[h.size]? = W (R (XC p (X pv (Q l) cv)).toArray 66):=by rw[hH];simp only[au,am,aI,↓reduceIte];rfl
    have gP:Zk h.size h H:=by rw[hH];(repeat' (first|exact Zk.refl _ _|assumption|refine Zk.add ?_ _|refine Zk.Zu ?_ IX _|refine Zk.trans KO ?_))
    rw[<-hH];clear hH;have hz:=Za x0;refine VS.Yq (fun F g=>Zk H.size H g/\F 1=ak (W ⟨h.size,0,Y⟩)/\F 17=X pv (Q l) cv/\F 18=N O (Q l)/\∃i:Nat,i<=(Q l)/\F 19=N O i/\F 3=N O (Sn l i)/\∀j,j<i->RE p l j=true)
     (fun F _=>(Q l)-(vi (F 19)).toNat) rfl ⟨Zk.refl _ _,rfl,rfl,rfl,0,mD,rfl,rfl,fun j hj=>by omega⟩ ?_
    rintro F g ⟨hg,f1,f17,f18,i,hi,f19,f3,XT⟩;have PQ:=hg.size;have Cz:Zk h.size h g:=gP.trans (hg.mono mD);by_cases ZV:i<(Q l)
    .have Z4:(i:Int)<(Q l):=mD;obtain⟨bb,oo,rfl,Tu,Gs,XH⟩:=XH (by intro e;rw[e]at ZV;simp at ZV);have Zsn:bb<H.size:=by have:=gP.size;omega
     have r1:rd g ⟨bb,oo+i*8,Y⟩ 8=W (Zv l[i]):=by
      rw[Q9 Cz (by exact Tu)];exact XH i ZV
     have rp:rd g ⟨h.size,0,Y⟩ 2=W [N O p.r,N O p.n]:=by rw[Q9 hg (by exact hz),YI x0 (by simp[XC])];rfl
     have hsl:=ON ZV;have gl:=Da (p:=p) ZV;obtain⟨v,hv⟩:=ZP (l[i]);rw[<-hv]at r1 gl hsl;unfold Zv at r1;have XE:Sn l (i+1)=v.Zs:=by unfold Sn;rw[if_neg mD,bl];exact hsl
     simp -implicitDefEqProofs only[go_sem,f1,f17,f18,f19,Z4,r1];refine (Hd T _ v).use ?_;rintro _ g1 ⟨rfl,b1⟩;have b1s:=b1.size;simp only[am]at b1s;have y0:g1[g.size]? = W (R [N O v.Zs,N O v.b.r,N O v.b.n,N O v.k,N O v.c,N O v.s,N O v.nm,N O v.v].toArray 97):=b1.get sW Zd;have y1:hc g1 ⟨g.size,0,Y⟩=W (N O v.Zs):=by rw[Zn y0];rfl
     have y2:rd g1 ⟨g.size,1,Y⟩ 2=W [N O v.b.r,N O v.b.n]:=by rw[YI y0 sW];rfl
     have BF:Zk g.size g g1:=(Zk.push (aK _) _).trans (b1.mono sW);have y3:rd g1 ⟨h.size,0,Y⟩ 2=W [N O p.r,N O p.n]:=by rw[Q9 BF (by show h.size<g.size;omega)];exact rp
     have WC:Zk h.size h g1:=Cz.trans (BF.mono mD);have LO:Zk H.size H g1:=hg.trans (BF.mono mD);by_cases c1:Yu v
     .by_cases c2:v.Zs<=Sn l i
      .have e:=Wl (p:=p) ZV (by cases Ao:RE p l i with|false=>rfl|true=>exact absurd (gl.1 Ao).2.2 mD);simp -implicitDefEqProofs only[go_sem,f1,f3,c1,c2,y1,e,WC]
      .simp -implicitDefEqProofs only[go_sem,f1,f3,c1,c2,y1,y2,y3];refine (VY T _ v.b p).use ?_;rintro _ g2 ⟨rfl,b2⟩;have y4:hc g2 ⟨g.size,0,Y⟩=W (N O v.Zs):=by rw[b2.hc (by show g.size<g1.size;omega)];exact y1
       have Py:Zk h.size h g2:=WC.trans (b2.mono (by have:=WC.size;omega));have U1:Zk H.size H g2:=LO.trans (b2.mono (by have:=LO.size;omega));by_cases c3:Zw p v.b
       .have e:=Wl (p:=p) ZV (by cases Ao:RE p l i with|false=>rfl|true=>exact absurd c3 (gl.1 Ao).2.1);have wU:=(SQ v.b p).2 c3;simp -implicitDefEqProofs only[go_sem,wU,e,Py]
       .have wU:¬0<Kc v.b p:=fun h=>c3 ((SQ v.b p).1 h);simp -implicitDefEqProofs only[go_sem,wU,f1,f17,f18,f19,y4];refine⟨⟨U1,f1,f17,f18,i+1,ZV,rfl,by rw[XE];rfl,fun j hj=>?_⟩,?_⟩
        .by_cases Px:j=i
         .subst Px;exact gl.2 ⟨c1,c3,mD⟩
         .exact XT j mD
        .simp only[vi,Zt,↓reduceIte,f19];omega
     .have e:=Wl (p:=p) ZV (by cases Ao:RE p l i with|false=>rfl|true=>exact absurd (gl.1 Ao).1 c1);simp -implicitDefEqProofs only[go_sem,c1,e,WC]
    .have Xw:¬(i:Int)<(Q l):=mD;obtain rfl:i=(Q l):=mD;have e:=PU dX XT;simp -implicitDefEqProofs only[go_sem,f17,f18,f19,Xw,e,Cz]
  .have e:Jw p l=5:=by unfold Jw;rw[if_pos ⟨q,z⟩]
   by_cases z1:p.r=0
   .have z2:¬p.n=0:=fun e=>z ⟨z1,e⟩;have hb:=SU T (h.push (R [N O 0,N O p.n,X pv (Q l) cv].toArray 66)) p;simp -implicitDefEqProofs only[go_sem,z1,z2];unfold Qu at hb;rw[z1]at hb;refine hb.use ?_;rintro _ _ ⟨rfl,rfl⟩;simp -implicitDefEqProofs only[go_sem,q,e]
   .simp -implicitDefEqProofs only[go_sem,z1];refine (SU T _ p).use ?_;rintro _ _ ⟨rfl,rfl⟩;simp -implicitDefEqProofs only[go_sem,q,e]
theorem So(h:Hp)(u:aw)(l:List Vt)(s:Ts Zv 8 h u l)(hl:(Q l)<=2199023255552):
  Zg a4 T 106 #[u] h fun v' h'=>Qw h.size 97 Zv 8 h' v' l/\Zk h.size h h':=by
 obtain⟨p,c,rfl,Vx⟩:=Wk s;refine Zg.XK [_] Tryz.func106 ?_
 cases p with
 | none=>
  have:l=[]:=by
   cases l with
   | nil=>rfl
   | cons x l=>obtain⟨b,o,hp,_⟩:=Vx sW;cases hp
  subst this;simp -implicitDefEqProofs only[go_sem];exact Qw.nil _ _ _ _ _
 | some a=>
  simp -implicitDefEqProofs only[go_sem];refine OH (E:=97) (B:=h.size) (n:=8) (bytes:=64) KQ Tryz.underlying64 Cp Zb2 rfl Zb1 (fun _=>rfl) (Qw.Ec _ _ Zv 8 _ _) sW (s.YJ (Zk.push (aK _) _)) vI mD ?_;intro v' h' ho hb _;simp -implicitDefEqProofs only[go_sem];exact⟨by simpa using ho,(Zk.push (aK _) _).trans hb⟩
def YF(p:Yg)(l:List Vt)(b:Yg):Int:=if Jw p l≠0 then 5 else if ¬ZC b then 2 else if Zw b p then 7 else 0
theorem KX(p:Yg)(l:List Vt):Jw p l=0\/Jw p l=5:=by
 unfold Jw
 repeat' split
 all_goals simp
def AZ(B:Nat)(h':Hp)(v':aw)(p:Yg)(l:List Vt)(b:Yg):Prop:=∃w1 w2,v'=.tuple [an (XC (if YF p l b=0 then b else ⟨0,0⟩) w1).toArray,w2,N O (YF p l b)].toArray /\
 Qw B 97 Zv 8 h' w1 (if YF p l b=0 then l else [])/\Qw B 97 Zv 8 h' w2 (if YF p l b=0 then l else [])
theorem RF(h:Hp)(p:Yg)(u:aw)(l:List Vt)(b:Yg)(s:Ts Zv 8 h u l)(hl:(Q l)<=2199023255552):
  Zg a4 T 78 #[an (XC p u).toArray,an (Qu b).toArray] h fun v' h'=>AZ h.size h' v' p l b/\Zk h.size h h':=by
 obtain⟨pu,cu,rfl,Vx⟩:=Wk s;refine Zg.LY [_,_] Tryz.func78 ?_;unfold XC Qu;simp -implicitDefEqProofs only[go_sem];have SW:Zk h.size h ((((h.push (R [N O p.r,N O p.n,X pu (Q l) cu].toArray 66)).push (R [N O b.r,N O b.n].toArray 63)).push (R [N O 0,N O 0,X Y 0 0].toArray 66))):=by (repeat' (first|exact Zk.refl _ _|assumption|refine Zk.add ?_ _|refine Zk.Zu ?_ (by first|omega|(simp;omega)) _|refine Zk.trans (by assumption) ?_))
 refine (Nv T _ p _ l (s.YJ SW) (by omega)).use ?_;rintro _ g1 ⟨rfl,b1⟩;have x0:g1[h.size]? = W (R (XC p (X pu (Q l) cu)).toArray 66):=b1.get (by simp only[am];omega) (by simp only[au,am,aI,↓reduceIte,XC]);have x1:g1[h.size+1]? = W (R [N O b.r,N O b.n].toArray 63):=b1.get (by simp only[am];omega) (by simp only[au,am,aI,↓reduceIte]);have x2:g1[h.size+2]? = W (R [N O 0,N O 0,X Y 0 0].toArray 66):=b1.get (by simp only[am];omega) (by simp only[au,am,aI,↓reduceIte]);have WC:Zk h.size h g1:=SW.trans (b1.mono (by simp;omega));have z1:=Za x2;clear b1 SW;have fin:∀(G:Hp) (w:List aw),(Q w)=3->w.all YN=true->G[h.size+2]? = W (R [N O 0,N O 0,X Y 0 0].toArray 66)->wr G ⟨h.size+1+1,0,Y⟩ w=W (G.setIfInBounds (h.size+1+1) (R w.toArray 66)):=by
  intro G w h3 h1 hx;rw[Yh (b:=h.size+1+1) hx 0 w,Yb (by rw[h3];rfl),if_pos ⟨by rw[h3];simp,h1⟩]
 unfold AZ;rcases KX p l with e0|e0
 .have r1:=ZA x1 (n:=2) rfl;simp -implicitDefEqProofs only[go_sem,e0,r1];refine (SU T _ b).use ?_;rintro _ _ ⟨rfl,rfl⟩;by_cases q1:ZC b
  .have rp:rd g1 ⟨h.size,0,Y⟩ 2=W [N O p.r,N O p.n]:=by rw[YI x0 (by simp[XC])];rfl
   have z2:h.size<g1.size:=by omega
   have z3:h.size+1<g1.size:=by omega
   unfold Qu;simp -implicitDefEqProofs only[go_sem,q1,r1,rp,z2,z3];refine (VY T _ b p).use ?_;rintro _ g2 ⟨rfl,b2⟩;have A0:Zk g1.size g1 g2:=(Zk.push (aK _) _).trans (b2.mono (by simp));have x0':=A0.get z2 x0;have x1':=A0.get z3 x1;have x2':=A0.get z1 x2;have Py:=WC.trans (A0.mono WC.size);have z5:=Za x2';by_cases q2:Zw b p
   .have e:YF p l b=7:=by unfold YF;rw[if_neg (by rw[e0];decide),if_neg (fun h=>h q1),if_pos q2]
    have w2:=fin g2 [N O 0,N O 0,X Y 0 0] rfl rfl x2';have c2':Kc b p<0:=(MX b p).2 q2;simp -implicitDefEqProofs only[go_sem,c2',e,w2,z5];refine⟨⟨_,_,rfl,Qw.nil _ _ _ _ _,Qw.nil _ _ _ _ _⟩,?_⟩;exact Py.Zu (by omega) _
   .have e:YF p l b=0:=by unfold YF;rw[if_neg (by rw[e0];decide),if_neg (fun h=>h q1),if_neg q2]
    have r1':=ZA x1' (n:=2) rfl;have rv:hc g2 ⟨h.size,2,Y⟩=W (X pu (Q l) cu):=by rw[Zn x0'];rfl
    have c2':¬Kc b p<0:=fun h=>q2 ((MX b p).1 h);simp -implicitDefEqProofs only[go_sem,c2'];refine VS.z (h.size+2) [] (.q 0 (.p 1 (.q 2 (.p 5 (.q 6 (.s 3 (.p 4 (.s 7 (.s 8 (.p 9 (.p 10 .nil))))))))))) mixed (by kernel_rfl) ?_;have z6:h.size<h.size+2:=by omega
    have z7:h.size+1<h.size+2:=by omega
    simp -implicitDefEqProofs only[go_sem,r1',rv,z6,z7];refine (So T _ _ l (s.YJ Py) hl).use ?_;rintro w1 g3 ⟨o1,b3⟩;obtain⟨p1,c1,rfl,_⟩:=o1.open;have b3':Zk (h.size+2) g2 g3:=b3.mono (by omega);simp -implicitDefEqProofs only[go_sem];refine⟨b3',?_⟩;refine (So T _ _ l ((s.YJ Py).YJ b3) hl).use ?_;rintro w2 g4 ⟨o2,b4⟩;have b3s:=b3.size;have b4s:=b4.size;have gQ:Zk (h.size+2) g2 g4:=b3'.trans (b4.mono (by omega));have Zkl:g4[h.size+2]? = W (R [N O 0,N O 0,X Y 0 0].toArray 66):=b4.get (by omega) (b3.get z5 x2');have z8:=Za Zkl;have wf:=fin g4 [N O b.r,N O b.n,X p1 (Q l) c1] rfl rfl Zkl;have kG:=Py.trans ((b3.trans (b4.mono b3s)).mono Py.size);simp -implicitDefEqProofs only[go_sem,e,wf,z8];refine⟨gQ,gQ.Zu (by omega) _,⟨_,_,rfl,?_,?_⟩,?_⟩
    .exact (((o1.YJ b4 (aK _)).mono (B':=h.size+1+1+1) (by omega)).Yi (by omega) _).mono (by omega)
    .exact ((o2.mono (B':=h.size+1+1+1) (by omega)).Yi (by omega) _).mono (by omega)
    .exact kG.Zu (by omega) _
  .have e:YF p l b=2:=by unfold YF;rw[if_neg (by rw[e0];decide),if_pos q1]
   have w2:=fin g1 [N O 0,N O 0,X Y 0 0] rfl rfl x2;simp -implicitDefEqProofs only[go_sem,q1,e,w2,z1];exact⟨⟨_,_,rfl,Qw.nil _ _ _ _ _,Qw.nil _ _ _ _ _⟩,(WC.Zu (by omega) _).Y1 (by simp;omega) _⟩
 .have e:YF p l b=5:=by unfold YF;rw[if_pos (by rw[e0];decide)]
  have w2:=fin g1 [N O 0,N O 0,X Y 0 0] rfl rfl x2;simp -implicitDefEqProofs only[go_sem,e0,e,w2,z1];exact⟨⟨_,_,rfl,Qw.nil _ _ _ _ _,Qw.nil _ _ _ _ _⟩,WC.Zu (by omega) _⟩
def Srt(l:List Vt):Prop:=∀i j (hi:i<(Q l)) (hj:j<(Q l)),i<j->l[i].Zs<l[j].Zs
theorem MZ{p:Yg}{l:List Vt}(h:Jw p l=0):∀j,j<(Q l)->RE p l j=true:=by
 intro j hj;unfold Jw at h;split at h
 .cases h
 .split at h
  .rename_i XT;exact bw.1 XT j (b5.2 hj)
  .cases h
theorem Gt{p:Yg}{l:List Vt}(h:Jw p l=0):Srt l:=by
 have hg:=MZ h;intro i j
 induction j with
 | zero=>intro _ _ h;omega
 | succ j ih=>
  intro hi hj sK;have h1:=(MY hj).1 (hg _ hj);have h2:Kd l j<l[j+1].Zs:=by
   rcases h1.2.2 with h|h
   .omega
   .simpa using h
  rw[ON mD]at h2;by_cases e:i=j
  .subst e;exact h2
  .exact Int.lt_trans (ih hi mD mD) h2
theorem gS{p:Yg}{l:List Vt}(h:Jw p l=0):∀x∈l,Yu x:=by
 intro x hx;obtain⟨j,hj,rfl⟩:=a6.1 hx;exact ((MY hj).1 (MZ h j hj)).1
def Jh(l:List Vt)(v:Vt):List Vt:=l.filter (fun x=>decide (x.Zs<v.Zs))++v :: l.filter (fun x=>decide (v.Zs<x.Zs))
theorem KY{α:Type}(q:α->Bool)(l:List α)(i:Nat)(h1:∀j (hj:j<(Q l)),j<i->q l[j]=true)(h2:∀j (hj:j<(Q l)),i<=j->q l[j]=false):l.filter q=l.take i:=by
 conv=>lhs;rw[<-bg i l]
 rw[ca,b9.2,bD.2,a0]
 .intro x hx;obtain⟨j,hj,rfl⟩:=a6.1 hx;rw[co];rw[h2 _ (by rw[a8]at hj;omega) mD];decide
 .intro x hx;obtain⟨j,hj,rfl⟩:=a6.1 hx;rw[bc]at hj;rw[cp];exact h1 _ mD mD
theorem KZ{α:Type}(q:α->Bool)(l:List α)(i:Nat)(h1:∀j (hj:j<(Q l)),j<i->q l[j]=false)(h2:∀j (hj:j<(Q l)),i<=j->q l[j]=true):l.filter q=l.drop i:=by
 conv=>lhs;rw[<-bg i l]
 rw[ca,bD.2,b9.2,List.nil_append]
 .intro x hx;obtain⟨j,hj,rfl⟩:=a6.1 hx;rw[co];exact h2 _ (by rw[a8]at hj;omega) mD
 .intro x hx;obtain⟨j,hj,rfl⟩:=a6.1 hx;rw[bc]at hj;rw[cp,h1 _ mD mD];decide
theorem wX{l:List Vt}(hs:Srt l){v:Vt}(hi:i<(Q l))(he:l[i].Zs=v.Zs):Jh l v=l.set i v:=by
 have a1:l.filter (fun x=>decide (x.Zs<v.Zs))=l.take i:=KY _ _ _
  (fun j hj Px=>decide_eq_true (by have:=hs j i hj hi Px;omega))
  (fun j hj sK=>decide_eq_false (by
    by_cases e:i=j
    .subst e;omega
    .have:=hs i j hi hj mD;omega))
 have a2:l.filter (fun x=>decide (v.Zs<x.Zs))=l.drop (i+1):=KZ _ _ _
  (fun j hj Px=>decide_eq_false (by
    by_cases e:j=i
    .subst e;omega
    .have:=hs j i hj hi mD;omega))
  (fun j hj sK=>decide_eq_true (by have:=hs i j hi hj mD;omega))
 rw[Jh,a1,a2,List.set_eq_take_append_cons_drop,if_pos hi]
theorem wZ{l:List Vt}(hs:Srt l){v:Vt}(hi:i<=(Q l))(h1:∀j (hj:j<(Q l)),j<i->l[j].Zs<v.Zs)(h2:∀j (hj:j<(Q l)),i<=j->v.Zs<l[j].Zs):Jh l v=l.take i++v :: l.drop i:=by
 have a1:l.filter (fun x=>decide (x.Zs<v.Zs))=l.take i:=KY _ _ _ (fun j hj Px=>decide_eq_true (h1 j hj Px)) (fun j hj sK=>decide_eq_false (by have:=h2 j hj sK;omega));have a2:l.filter (fun x=>decide (v.Zs<x.Zs))=l.drop i:=KZ _ _ _ (fun j hj Px=>decide_eq_false (by have:=h1 j hj Px;omega)) (fun j hj sK=>decide_eq_true (h2 j hj sK));rw[Jh,a1,a2]
def XU:List Nat->Nat
 | []=>0
 | x :: l=>x+256*XU l
def Dg(l:List Nat):Prop:=∀x∈l,x<256
theorem Dg.getD(w:Dg l)(i:Nat):l.getD i 0<256:=Z3 w i
theorem Dg.set{x:Nat}(w:Dg l)(i:Nat)(hx:x<256):Dg (l.set i x):=by
 intro y hy;rcases bn hy with h|h
 .exact w y h
 .rw[h];exact hx
theorem Zch(w:Dg l):XU l<256 ^ (Q l):=by
 induction l with
 | nil=>simp[XU]
 | cons x l ih=>
  have h1:=ih fun y hy=>w y (b6 _ hy);have h2:=w x cd;simp only[XU,bx,bG];omega
theorem gU(w:Dg l)(i:Nat):l.getD i 0=XU l/256 ^ i%256:=by
 induction l generalizing i with
 | nil=>simp[XU]
 | cons x l ih=>
  have hx:=w x cd
  cases i with
  | zero=>simp only[bh,XU,Nat.pow_zero,Nat.div_one];omega
  | succ i=>
   rw[bj,ih (fun y hy=>w y (b6 _ hy)) i,XU,bG,bd (256 ^ i) 256,<-Nat.div_div_eq_div_mul]
   congr 2
   omega
theorem getD_none(hi:¬i<(Q l)):l.getD i 0=0:=by
 rw[aa,b0 mD];rfl
def uv(x:Nat):aw:=N S (x:Nat)
def W26:Nat:=67108864
def CA(n Z5:Nat):List Nat:=[n%67108864,n/67108864%67108864,n/4503599627370496%67108864,n/302231454903657293676544%67108864,n/20282409603651670423947251286016+Z5*16777216]
theorem He(x n:Nat)(hn:n<=64):Xq S (x:Int) (n:Int)=((x*2 ^ n%18446744073709551616:Nat):Int):=by
 rw[D8 S x n (by show n<=64;omega),MI];rfl
theorem OO(x n:Nat)(hn:n<=64):Jc S (x:Int) (n:Int)=((x/2 ^ n:Nat):Int):=by
 rw[OF S x n (by show n<=64;omega),Nat.shiftRight_eq_div_pow]
theorem PY(x:Nat)(hx:x<18446744073709551616):YL .and S (x:Int) 67108863=((x%67108864:Nat):Int):=by
 have h:=ZbR x 67108863 hx KC;have e:x &&& 67108863=x%67108864:=Nat.and_two_pow_sub_one_eq_mod x 26;rw[e]at h;exact h
theorem kH(L b:Nat)(hL:L<72057594037927936)(hb:b<256):YL .or S ((L*256:Nat):Int) (b:Int)=((L*256+b:Nat):Int):=by
 rw[fS _ _ mD mD,Ua (k:=8) mD mD]
theorem Zkm(L:Nat)(hL:L<72057594037927936):Xq S (L:Int) 8=((L*256:Nat):Int):=by
 have h:=He L 8 KC;rw[show L*2 ^ 8%18446744073709551616=L*256 by omega]at h;exact h
theorem A7{m:Nat}(hm:m<(Q l)):XU (l.drop m)=l.getD m 0+256*XU (l.drop (m+1)):=by
 rw[List.drop_eq_getElem_cons hm];have e:l.getD m 0=l[m]:=by rw[aa,aX hm];rfl
 rw[e];rfl
theorem Dg.drop(w:Dg l)(i:Nat):Dg (l.drop i):=fun x hx=>w x (List.mem_of_mem_drop hx)
theorem VZ(w:Dg l){n:Nat}(hn:(Q l)<=n):XU l<256 ^ n:=cf (Zch w) (Nat.pow_le_pow_right mD hn)
set_option maxHeartbeats 1000000 in
theorem Ke(h:Hp)(v:aw)(l:List Nat)(Z5:Nat)(s:Bs h v l)(hl:(Q l)=16)(ht:Z5<=1):
  Zg a4 T 137 #[v,N S Z5] h fun v' h'=>v'=an ((CA (XU l) Z5).map uv).toArray/\Zk h.size h h':=by
 have wb:=s.byte;obtain⟨p,c,rfl,hc⟩:=s.Vn;obtain⟨bb,oo,rfl,Tu,hc⟩:=hc (by intro e;subst e;simp at hl);obtain⟨lo,hi,rfl,hlo,hhi⟩:∃lo hi:List Nat,l=lo++hi/\(Q lo)=8/\(Q hi)=8:=⟨l.take 8,l.drop 8,(bg 8 l).symm,by rw[bc];omega,by rw[a8];omega⟩
 have wlo:Dg lo:=fun x hx=>wb x (List.mem_append_left _ hx);have whi:Dg hi:=fun x hx=>wb x (List.mem_append_right _ hx);refine Zg.XK [_,_] Tryz.func137 ?_;simp -implicitDefEqProofs only[go_sem];obtain⟨Z,hZ⟩:∃Z:Obj,Z=R #[N S 0,N S 0,N S 0,N S 0,N S 0] 229:=⟨_,rfl⟩
 refine VS.Yq (fun F g=>g=h.push (R #[N S 0,N S 0,N S 0,N S 0,N S 0] 229)/\F 0=X (W ⟨bb,oo,Y⟩) (lo++hi).length c/\F 1=N S Z5/\F 4=ak (W ⟨h.size,0,Y⟩)/\∃j:Nat,j<=8/\F 7=N O ((j:Int)-1)/\F 5=N S (XU (lo.drop j):Nat)/\F 6=N S (XU (hi.drop j):Nat))
  (fun F _=>(vi (F 7)+1).toNat) rfl ⟨rfl,rfl,rfl,rfl,8,by omega,rfl,by rw[bR (by omega)];rfl,by rw[bR (by omega)];rfl⟩ ?_
 rintro F g ⟨rfl,f0,f1,f4,j,hj,f7,f5,f6⟩;by_cases ZV:0<j
 .obtain⟨m,rfl⟩:∃m,j=m+1:=⟨j-1,by omega⟩
  have e1:((m+1:Nat):Int)-1=(m:Nat):=by omega
  rw[e1]at f7;have g1:=hc m (by omega);have g2:=hc (8+m) (by omega);have d1:(lo++hi).getD m 0=lo.getD m 0:=by rw[aa,List.getElem?_append_left (by omega),aa]
  have d2:(lo++hi).getD (8+m) 0=hi.getD m 0:=by rw[aa,List.getElem?_append_right (by omega),hlo,Nat.add_sub_cancel_left,aa]
  rw[d1]at g1;rw[d2]at g2;have x1:=wlo.getD m;have x2:=whi.getD m;have n1:XU (lo.drop m)=XU (lo.drop (m+1))*256+lo.getD m 0:=by rw[A7 (l:=lo) (by omega)];omega
  have n2:XU (hi.drop m)=XU (hi.drop (m+1))*256+hi.getD m 0:=by rw[A7 (l:=hi) (by omega)];omega
  have b1:=VZ (wlo.drop (m+1)) (n:=7) (by rw[a8];omega);have b2:=VZ (whi.drop (m+1)) (n:=7) (by rw[a8];omega);rw[show 256 ^ 7=72057594037927936 from rfl]at b1 b2;have s1:=Zkm _ b1;have s2:=Zkm _ b2;have o1:=kH _ _ b1 x1;have o2:=kH _ _ b2 x2;have em:(8:Int)+(m:Int)=((8+m:Nat):Int):=by omega
  have k1:(m:Int)<(lo++hi).length:=by omega
  have k2:((8+m:Nat):Int)<(lo++hi).length:=by omega
  have k0:(0:Int)<=m:=by omega
  have Zsq:bb<h.size:=Tu;have m1:((lo.getD m 0:Nat):Int)%18446744073709551616=(lo.getD m 0:Nat):=by omega
  have m2:((hi.getD m 0:Nat):Int)%18446744073709551616=(hi.getD m 0:Nat):=by omega
  simp -implicitDefEqProofs only[go_sem,f0,f1,f4,f5,f6,f7,m1,m2,k0,k1,k2,em,aF,Zsq,g1,g2,s1,s2,o1,o2];refine⟨⟨rfl,f0,f1,f4,m,by omega,rfl,?_,?_⟩,?_⟩
  .rw[n1];rfl
  .rw[n2];rfl
  .simp only[vi,Zt,↓reduceIte,f7];omega
 .obtain rfl:j=0:=by omega
  rw[List.drop_zero]at f5 f6;have k0:¬(0:Int)<=((0:Nat):Int)-1:=by omega
  have b1:=VZ wlo (n:=8) (by omega);have b2:=VZ whi (n:=8) (by omega);rw[show 256 ^ 8=18446744073709551616 from rfl]at b1 b2;have IP:XU (lo++hi)=XU lo+18446744073709551616*XU hi:=by
   have:∀a b:List Nat,XU (a++b)=XU a+256 ^ (Q a)*XU b:=by
    intro a b
    induction a with
    | nil=>simp[XU]
    | cons x a ih=>simp only[List.cons_append,XU,ih,bx,bG,b7,bp];congr 2;rw[<-a3,bd 256]
   rw[this,hlo]
  rw[IP];generalize XU lo=L at *;generalize XU hi=M at *;have q1:=PY L b1;have q2:Jc S (L:Int) 26=((L/2 ^ 26:Nat):Int):=OO L 26 (by decide);have q3:=PY (L/2 ^ 26) (by omega);have q4:Jc S (L:Int) 52=((L/2 ^ 52:Nat):Int):=OO L 52 (by decide);have q5:Xq S (M:Int) 12=((M*2 ^ 12%18446744073709551616:Nat):Int):=He M 12 (by decide);have q6:=fS (L/2 ^ 52) (M*2 ^ 12%18446744073709551616) (by omega) (by omega);rw[Nat.or_comm,Ua (k:=12) (by omega) (by omega)]at q6;have q7:=PY (M*2 ^ 12%18446744073709551616+L/2 ^ 52) (by omega);have q8:Jc S (M:Int) 14=((M/2 ^ 14:Nat):Int):=OO M 14 (by decide);have q9:=PY (M/2 ^ 14) (by omega);have q10:Jc S (M:Int) 40=((M/2 ^ 40:Nat):Int):=OO M 40 (by decide);have q11:Xq S (Z5:Int) 24=((Z5*2 ^ 24%18446744073709551616:Nat):Int):=He Z5 24 (by decide);have q12:=fS (M/2 ^ 40) (Z5*2 ^ 24%18446744073709551616) (by omega) (by omega);rw[Nat.or_comm,Ua (k:=24) (by omega) (by omega)]at q12;simp -implicitDefEqProofs only[go_sem,f0,f1,f4,f5,f6,f7,k0,q1,q2,q3,q4,q5,q6,q7,q8,q9,q10,q11,q12];have w1:L%67108864=(L+18446744073709551616*M)%67108864:=by omega
  have w2:L/2 ^ 26%67108864=(L+18446744073709551616*M)/67108864%67108864:=by omega
  have w3:(M*2 ^ 12%18446744073709551616+L/2 ^ 52)%67108864=(L+18446744073709551616*M)/4503599627370496%67108864:=by omega
  have w4:M/2 ^ 14%67108864=(L+18446744073709551616*M)/302231454903657293676544%67108864:=by omega
  have w5:Z5*2 ^ 24%18446744073709551616+M/2 ^ 40=(L+18446744073709551616*M)/20282409603651670423947251286016+Z5*16777216:=by omega
  rw[w1,w2,w3,w4,w5];rfl
def N9(l:List Nat)(i:Nat):List Nat:=
 if i<4 then (l.set i (l.getD i 0%67108864)).set (i+1) ((l.set i (l.getD i 0%67108864)).getD (i+1) 0+l.getD i 0/67108864)
 else (l.set i (l.getD i 0%67108864)).set 0 ((l.set i (l.getD i 0%67108864)).getD 0 0+5*(l.getD i 0/67108864))
def Qy(l:List Nat):Nat->List Nat
 | 0=>l
 | i+1=>N9 (Qy l i) i
def Y4(K:Nat)(l:List Nat):Prop:=∀x∈l,x<K
theorem Y4.getD{K:Nat}(w:Y4 K l)(hK:0<K)(i:Nat):l.getD i 0<K:=by
 by_cases hi:i<(Q l)
 .have e:l.getD i 0=l[i]:=by rw[aa,aX hi];rfl
  rw[e];exact w _ (bz hi)
 .rw[getD_none hi];exact hK
theorem Y4.set{K:Nat}(w:Y4 K l)(i x:Nat)(hx:x<K):Y4 K (l.set i x):=by
 intro y hy;rcases bn hy with h|h
 .exact w y h
 .rw[h];exact hx
theorem Y4.mono{K K':Nat}(w:Y4 K l)(h:K<=K'):Y4 K' l:=fun x hx=>cf (w x hx) h
theorem Eo(l:List Nat)(i:Nat):(N9 l i).length=(Q l):=by
 unfold N9;split<;>simp
theorem Nw(l:List Nat):∀i,(Qy l i).length=(Q l)
 | 0=>rfl
 | i+1=>by rw[Qy,Eo,Nw l i]
theorem oF{K:Nat}(w:Y4 K l)(h0:67108864<=K)(hK:K<=2 ^ 62):Y4 (K+2 ^ 39) (N9 l i):=by
 have hx:=w.getD mD i;have w1:Y4 K (l.set i (l.getD i 0%67108864)):=w.set i _ mD;have hy:=w1.getD mD (i+1);have hz:=w1.getD mD 0;unfold N9;split
 .exact (w1.mono mD).set _ _ mD
 .exact (w1.mono mD).set _ _ mD
theorem Db{K:Nat}(w:Y4 K l)(h0:67108864<=K)(hK:K<=2 ^ 61):∀i,i<=5->Y4 (K+i*2 ^ 39) (Qy l i)
 | 0,_=>by rw[cq,cr];exact w
 | i+1,hi=>by
  have:=oF (i:=i) (Db w h0 hK i mD) mD mD;rw[Qy];exact this.mono mD
theorem M3{j x:Nat}(h:i≠j):(l.set i x).getD j 0=l.getD j 0:=by
 rw[aa,aa,ba h]
def YU(l:List Nat):Obj:=R (l.map uv++[]).toArray 229
theorem kI(x:Nat):Jc S (x:Int) 26=((x/67108864:Nat):Int):=OO x 26 KC
set_option maxHeartbeats 1000000 in
theorem gW(h:Hp)(bk:Nat)(l:List Nat)(hl:(Q l)=5)(w:Y4 (2 ^ 61) l)(hb:h[bk]? = W (YU l)):
  Zg a4 T 141 #[ak (W ⟨bk,0,Y⟩)] h fun v' h'=>∃a,a=Qy l 5/\h'=h.setIfInBounds bk (YU ((a.set 1 (a.getD 1 0+a.getD 0 0/67108864)).set 0 (a.getD 0 0%67108864))):=by
 refine Zg.XK [_] Tryz.func141 ?_;simp -implicitDefEqProofs only[go_sem];refine VS.Yq (fun F g=>F 0=ak (W ⟨bk,0,Y⟩)/\∃i:Nat,i<=5/\F 4=N O i/\g=h.setIfInBounds bk (YU (Qy l i)))
  (fun F _=>5-(vi (F 4)).toNat) rfl ⟨rfl,0,mD,rfl,(WK hb).symm⟩ ?_
 rintro F g ⟨f0,i,hi,f4,rfl⟩;have hx:=Yd (o:=YU (Qy l i)) hb;have hw:=Db w KC KC i hi;have hw2:=hw.getD mD i;have hln:(Qy l i).length=5:=by rw[Nw,hl]
 by_cases ZV:i<5
 .have Z4:(i:Int)<5:=mD;have XE:Qy l (i+1)=N9 (Qy l i) i:=rfl;obtain⟨a,ha⟩:=ZP (Qy l i);rw[<-ha]at hx hw hw2 hln XE ⊢;obtain⟨G,hG⟩:=ZP (h.setIfInBounds bk (YU a));rw[<-hG]at hx ⊢;have g1:=Z7 hx (i:=i) mD;unfold uv at g1;obtain⟨x,hxx⟩:=ZP (a.getD i 0);rw[<-hxx]at g1 hw2;have e1:=kI x;have e2:=PY x mD;simp -implicitDefEqProofs only[go_sem,f0,f4,Z4,aF,a7,g1,e1];refine VS.z (bk+1) [8] (.p 0 (.p 1 (.p 2 (.p 3 (.q 4 (.p 5 (.p 6 (.p 7 (.w 8 .nil))))))))) mixed sV ?_;have c1:QF _ ⟨bk,i,Y⟩ (N S (x%67108864:Nat))=_:=Yz (f:=uv) hx (i:=i) mD (x%67108864) rfl;have UO:=Yd (o:=R ((a.set i (x%67108864)).map uv++[]).toArray 229) hx;have gX:=hw.set i (x%67108864) mD;have Vx:N9 a i=if i<4 then (a.set i (x%67108864)).set (i+1) ((a.set i (x%67108864)).getD (i+1) 0+x/67108864) else (a.set i (x%67108864)).set 0 ((a.set i (x%67108864)).getD 0 0+5*(x/67108864)):=by rw[hxx];rfl
  have wy:(a.set i (x%67108864)).length=5:=by rw[a5,hln]
  obtain⟨a1,ha1⟩:=ZP (a.set i (x%67108864));rw[<-ha1]at UO gX Vx wy c1;obtain⟨G1,sY⟩:=ZP (G.setIfInBounds bk (R (a1.map uv++[]).toArray 229));rw[<-sY]at UO c1;by_cases h4:i<4
  .have h4':(i:Int)<4:=mD;rw[if_pos h4]at Vx;simp -implicitDefEqProofs only[go_sem,f0,f4,Z4,aF,a7,g1,e1,e2,c1,h4'];refine VS.z (bk+1) [10] (.p 0 (.p 1 (.p 2 (.p 3 (.p 4 (.q 5 (.p 6 (.p 7 (.p 8 (.p 9 (.w 10 .nil))))))))))) mixed sV ?_;have g2:=Z7 UO (i:=i+1) mD;unfold uv at g2;have hy:=gX.getD mD (i+1);obtain⟨y,hyy⟩:=ZP (a1.getD (i+1) 0);rw[<-hyy]at g2 hy Vx;have e3:(y:Int)+((x/67108864:Nat):Int)=((y+x/67108864:Nat):Int):=mD;have e4:((y+x/67108864:Nat):Int)%18446744073709551616=((y+x/67108864:Nat):Int):=mD;have ei:(i:Int)+1=((i+1:Nat):Int):=rfl;have hi1:((i+1:Nat):Int)<5:=mD;have c2:QF G1 ⟨bk,i+1,Y⟩ (N S (y+x/67108864:Nat))=_:=Yz (f:=uv) UO (i:=i+1) mD (y+x/67108864) rfl;simp -implicitDefEqProofs only[go_sem,f0,f4,Z4,ei,hi1,aF,a7,g2,e3,e4,c2];refine⟨⟨f0,i+1,ZV,rfl,?_⟩,?_⟩
   .rw[sY,set_set,hG,set_set,XE,Vx];rfl
   .simp only[vi,Zt,↓reduceIte,f4];omega
  .have h4':¬(i:Int)<4:=mD;rw[if_neg h4]at Vx;simp -implicitDefEqProofs only[go_sem,f0,f4,Z4,aF,a7,g1,e1,e2,c1,h4'];refine VS.z (bk+1) [9] (.p 0 (.p 1 (.p 2 (.q 3 (.p 4 (.p 5 (.p 6 (.p 7 (.p 8 (.w 9 .nil)))))))))) mixed sV ?_;have g2:=Z7 UO (i:=0) mD;unfold uv at g2;have hy:=gX.getD mD 0;obtain⟨y,hyy⟩:=ZP (a1.getD 0 0);rw[<-hyy]at g2 hy Vx;have e5:(5:Int)*((x/67108864:Nat):Int)=((5*(x/67108864):Nat):Int):=mD;have e6:((5*(x/67108864):Nat):Int)%18446744073709551616=((5*(x/67108864):Nat):Int):=mD;have e3:(y:Int)+((5*(x/67108864):Nat):Int)=((y+5*(x/67108864):Nat):Int):=mD;have e4:((y+5*(x/67108864):Nat):Int)%18446744073709551616=((y+5*(x/67108864):Nat):Int):=mD;have c2:QF G1 ⟨bk,0,Y⟩ (N S (y+5*(x/67108864):Nat))=_:=Yz (f:=uv) UO (i:=0) mD (y+5*(x/67108864)) rfl;simp -implicitDefEqProofs only[go_sem,f0,f4,Z4,aF,a7,g2,e3,e4,e5,e6,c2];refine⟨⟨f0,i+1,ZV,rfl,?_⟩,?_⟩
   .rw[sY,set_set,hG,set_set,XE,Vx];rfl
   .simp only[vi,Zt,↓reduceIte,f4];omega
 .have Xw:¬(i:Int)<5:=mD;obtain rfl:i=5:=mD;obtain⟨a,ha⟩:=ZP (Qy l 5);rw[<-ha]at hx hw hw2 hln ⊢;obtain⟨G,hG⟩:=ZP (h.setIfInBounds bk (YU a));rw[<-hG]at hx ⊢;have g0:=Z7 hx (i:=0) mD;have g1:=Z7 hx (i:=1) mD;have y0:=hw.getD mD 0;have y1:=hw.getD mD 1;unfold uv at g0 g1;obtain⟨x,hxx⟩:=ZP (a.getD 0 0);obtain⟨y,hyy⟩:=ZP (a.getD 1 0);rw[<-hxx]at g0 y0;rw[<-hyy]at g1 y1;have e1:=kI x;have e2:=PY x mD;have e3:(y:Int)+((x/67108864:Nat):Int)=((y+x/67108864:Nat):Int):=mD;have e4:((y+x/67108864:Nat):Int)%18446744073709551616=((y+x/67108864:Nat):Int):=mD;have c5:((5:Nat):Int)=5:=rfl;rw[c5]at f4 Xw;simp -implicitDefEqProofs only[go_sem,f0,f4,Xw];refine VS.z (bk+1) [12] (.p 0 (.p 1 (.p 2 (.q 3 (.p 4 (.p 5 (.p 6 (.q 7 (.p 8 (.p 9 (.p 10 (.p 11 (.w 12 .nil))))))))))))) mixed sV ?_;have c1:QF G ⟨bk,1,Y⟩ (N S (y+x/67108864:Nat))=_:=Yz (f:=uv) hx (i:=1) mD (y+x/67108864) rfl;have UO:=Yd (o:=R ((a.set 1 (y+x/67108864)).map uv++[]).toArray 229) hx;have wy:(a.set 1 (y+x/67108864)).length=5:=by rw[a5,hln]
  obtain⟨a1,ha1⟩:=ZP (a.set 1 (y+x/67108864));rw[<-ha1]at UO wy c1;obtain⟨G1,sY⟩:=ZP (G.setIfInBounds bk (R (a1.map uv++[]).toArray 229));rw[<-sY]at UO c1;have g2:=Z7 UO (i:=0) mD;unfold uv at g2;have g2e:a1.getD 0 0=x:=by rw[ha1,M3 KC,<-hxx]
  rw[g2e]at g2;simp -implicitDefEqProofs only[go_sem,f0,a7,g0,g1,e1,e3,e4,c1];refine VS.z (bk+1) [7] (.p 0 (.p 1 (.p 2 (.q 3 (.p 4 (.p 5 (.p 6 (.w 7 .nil)))))))) mixed sV ?_;have c2:QF G1 ⟨bk,0,Y⟩ (N S (x%67108864:Nat))=_:=Yz (f:=uv) UO (i:=0) mD (x%67108864) rfl;simp -implicitDefEqProofs only[go_sem,f0,a7,g2,e2,c2];rw[sY,set_set,hG,set_set,ha1];exact⟨a,rfl,by rw[<-hxx,<-hyy];rfl⟩
theorem getD_set_ne{j x:Nat}(h:i≠j):(l.set i x).getD j 0=l.getD j 0:=by
 rw[aa,aa,ba h]
def H16:Nat:=256 ^ 16
def SY:Nat:=4*256 ^ 16-5
def Y8:List Nat->Nat
 | []=>0
 | x :: l=>x+67108864*Y8 l
theorem M7:SY=1361129467683753853853498429727072845819:=rfl
theorem gY{a b c d e:Nat}:∃q r0 r1 r2 r3 r4:Nat,Qy [a,b,c,d,e] 5=[r0,r1,r2,r3,r4]/\Y8 [a,b,c,d,e]=Y8 [r0,r1,r2,r3,r4]+SY*q/\r1<67108864/\r2<67108864/\r3<67108864/\r4<67108864/\r0<=67108863+5*q/\q<=(e+(d+(c+(b+a/67108864)/67108864)/67108864)/67108864)/67108864:=by
 refine⟨(e+(d+(c+(b+a/67108864)/67108864)/67108864)/67108864)/67108864,a%67108864+5*((e+(d+(c+(b+a/67108864)/67108864)/67108864)/67108864)/67108864),(b+a/67108864)%67108864,(c+(b+a/67108864)/67108864)%67108864,(d+(c+(b+a/67108864)/67108864)/67108864)%67108864,(e+(d+(c+(b+a/67108864)/67108864)/67108864)/67108864)%67108864,?_,?_,cg _ KC,cg _ KC,cg _ KC,cg _ KC,mD,aK _⟩
 .rfl
 .simp only[Y8,M7];omega
theorem Ma(h:(Q l)=5):∃a b c d e,l=[a,b,c,d,e]:=by
 match l,h with
 | [a,b,c,d,e],_=>exact⟨a,b,c,d,e,rfl⟩
def X4(l:List Nat):List Nat:=((Qy l 5).set 1 ((Qy l 5).getD 1 0+(Qy l 5).getD 0 0/67108864)).set 0 ((Qy l 5).getD 0 0%67108864)
theorem Y4.Ma{K a b c d e:Nat}(ha:a<K)(hb:b<K)(hc:c<K)(hd:d<K)(he:e<K):Y4 K [a,b,c,d,e]:=by
 intro x hx;simp only[List.mem_cons,List.not_mem_nil,or_false]at hx;rcases hx with rfl|rfl|rfl|rfl|rfl<;>assumption
theorem Y4.Zci{K a b c d e:Nat}(w:Y4 K [a,b,c,d,e]):a<K/\b<K/\c<K/\d<K/\e<K:=
 ⟨w a sW,w b sW,w c sW,w d sW,w e sW⟩
theorem OP(hl:(Q l)=5)(w:Y4 (2 ^ 61) l):(X4 l).length=5/\Y4 134217728 (X4 l)/\Y8 (X4 l)%SY=Y8 l%SY/\Y8 (X4 l)<4*H16+2 ^ 44:=by
 obtain⟨a,b,c,d,e,rfl⟩:=Ma hl;obtain⟨wa,wb,wc,wd,we⟩:=w.Zci;obtain⟨q,r0,r1,r2,r3,r4,hc,hv,h1,h2,h3,h4,h0,hq⟩:=@gY a b c d e;have hL:X4 [a,b,c,d,e]=[r0%67108864,r1+r0/67108864,r2,r3,r4]:=by unfold X4;rw[hc];rfl
 have hq':q<2 ^ 36:=mD;have hr:r0/67108864<8192:=mD;have IP:Y8 [r0%67108864,r1+r0/67108864,r2,r3,r4]=Y8 [r0,r1,r2,r3,r4]:=by simp only[Y8];omega
 rw[hL];refine⟨rfl,Y4.Ma mD mD mD mD mD,?_,?_⟩
 .rw[IP,hv,bf]
 .rw[IP];have e16:H16=340282366920938463463374607431768211456:=rfl;rw[e16];have h0':r0<549755813888:=mD;clear hv hc hq hq' hL IP h0;simp only[Y8];omega
def R7(a b:Nat)(out:List Nat)(i k:Nat):List Nat:=if i+k<5 then out.set (i+k) (out.getD (i+k) 0+a*b) else out.set (i+k-5) (out.getD (i+k-5) 0+5*a*b)
def PZ(a:Nat)(bs out:List Nat)(i:Nat):Nat->List Nat
 | 0=>out
 | k+1=>R7 a (bs.getD k 0) (PZ a bs out i k) i k
def VC(xs bs:List Nat):Nat->List Nat
 | 0=>[0,0,0,0,0]
 | i+1=>PZ (xs.getD i 0) bs (VC xs bs i) i 5
theorem CD(a b:Nat)(out:List Nat)(i k:Nat):(R7 a b out i k).length=(Q out):=by unfold R7;split<;>simp
theorem T7(a:Nat)(bs out:List Nat)(i:Nat):∀k,(PZ a bs out i k).length=(Q out)
 | 0=>rfl
 | k+1=>by rw[PZ,CD,T7 a bs out i k]
theorem T8(xs bs:List Nat):∀i,(VC xs bs i).length=5
 | 0=>rfl
 | i+1=>by rw[VC,T7,T8 xs bs i]
theorem Kf{a b:Nat}(ha:a<268435456)(hb:b<67108864):a*b<18014398509481984:=
 Nat.lt_of_le_of_lt (Nat.mul_le_mul (ct (show a<268435455+1 from ha)) (ct (show b<67108863+1 from hb))) KC
theorem Gu{a b:Nat}(ha:a<268435456)(hb:b<67108864):5*a*b<90071992547409920:=by
 have:=Kf ha hb;rw[a3];omega
theorem xd{K a b:Nat}{out:List Nat}{k:Nat}(w:Y4 K out)(hK:0<K)(ha:a<268435456)(hb:b<67108864):Y4 (K+90071992547409920) (R7 a b out i k):=by
 have h1:=Kf ha hb;have h2:=Gu ha hb;have q1:=w.getD hK (i+k);have q2:=w.getD hK (i+k-5);unfold R7;split
 .exact (w.mono mD).set _ _ mD
 .exact (w.mono mD).set _ _ mD
theorem CE{K a:Nat}{bs out:List Nat}(w:Y4 K out)(hK:0<K)(ha:a<268435456)(hb:Y4 67108864 bs):∀k,Y4 (K+k*90071992547409920) (PZ a bs out i k)
 | 0=>by rw[cq];exact w
 | k+1=>by
  rw[PZ,Nat.add_mul,Nat.one_mul,<-bp];exact xd (CE w hK ha hb k) mD ha (hb.getD mD k)
theorem CF{xs bs:List Nat}(ha:Y4 268435456 xs)(hb:Y4 67108864 bs):∀i,Y4 (1+i*450359962737049600) (VC xs bs i)
 | 0=>Y4.Ma mD mD mD mD mD
 | i+1=>by
  rw[VC];exact (CE (CF ha hb i) mD (ha.getD mD i) hb 5).mono mD
theorem Kg:∀{l:List Nat} {i x:Nat},i<(Q l)->Y8 (l.set i (l.getD i 0+x))=Y8 l+x*67108864 ^ i
 | y :: l,0,x,_=>by simp only[ck,bh,Y8,Nat.pow_zero,Nat.mul_one];omega
 | y :: l,i+1,x,h=>by
  simp only[cn,bj,Y8];rw[Kg (l:=l) (i:=i) (x:=x) (by simpa using h),bG,<-a3];omega
theorem X5:67108864 ^ 5=SY+5:=rfl
theorem Zkq(v a b y P:Nat):(v+5*a*b*y)%P=(v+a*b*(y*(P+5)))%P:=by
 have e:a*b*(y*(P+5))=5*a*b*y+P*(a*b*y):=by
  rw[b7,b7,Nat.add_comm]
  congr 1
  .rw[bd y 5,<-a3,bd (a*b) 5,<-a3 5 a b]
  .rw[bd y P,<-a3,bd (a*b) P,a3]
 rw[e,<-bp,bf]
theorem oH{a b:Nat}{out:List Nat}{k:Nat}(hl:(Q out)=5)(hi:i<5)(hk:k<5):Y8 (R7 a b out i k)%SY=(Y8 out+a*b*67108864 ^ (i+k))%SY:=by
 unfold R7;split
 .rename_i h;rw[Kg mD]
 .rename_i h;rw[Kg mD];obtain⟨j,hj⟩:∃j,i+k=j+5:=⟨i+k-5,mD⟩
  rw[hj,bl,Nat.pow_add,X5];exact Zkq _ _ _ _ _
def pvn(bs:List Nat):Nat->Nat
 | 0=>0
 | k+1=>pvn bs k+bs.getD k 0*67108864 ^ k
theorem A9{bs:List Nat}(h:(Q bs)=5):pvn bs 5=Y8 bs:=by
 obtain⟨a,b,c,d,e,rfl⟩:=Ma h;simp only[pvn,Y8,bh,bj];omega
theorem ab{a:Nat}{bs out:List Nat}(hl:(Q out)=5)(hi:i<5):∀k,k<=5->Y8 (PZ a bs out i k)%SY=(Y8 out+a*67108864 ^ i*pvn bs k)%SY
 | 0,_=>by rw[PZ,pvn,Nat.mul_zero,cr]
 | k+1,hk=>by
  rw[PZ,oH (by rw[T7,hl]) hi mD,b8,ab hl hi k mD,<-b8,pvn,b7,<-bp,Nat.pow_add]
  congr 2
  rw[a3,a3 a]
  congr 1
  rw[<-a3,bd (bs.getD k 0),a3]
theorem ad{xs bs:List Nat}(hb:(Q bs)=5):∀i,i<=5->Y8 (VC xs bs i)%SY=(pvn xs i*Y8 bs)%SY
 | 0,_=>by rw[pvn,cq];rfl
 | i+1,hi=>by
  rw[VC,ab (T8 xs bs i) mD 5 mD,b8,ad hb i mD,<-b8,A9 hb,pvn,Nat.add_mul]
theorem Dc{xs bs:List Nat}(ha:(Q xs)=5)(hb:(Q bs)=5)(wa:Y4 268435456 xs)(wb:Y4 67108864 bs):
  Y4 (2 ^ 61) (VC xs bs 5)/\(VC xs bs 5).length=5/\Y8 (VC xs bs 5)%SY=Y8 xs*Y8 bs%SY:=
 ⟨(CF wa wb 5).mono KC,T8 xs bs 5,by rw[ad hb 5 mD,A9 ha]⟩
def Nf(m:List Nat):Nat->List Nat
 | 0=>m.set 0 (m.getD 0 0+5)
 | i+1=>((Nf m i).set (i+1) ((Nf m i).getD (i+1) 0+(Nf m i).getD i 0/67108864)).set i ((Nf m i).getD i 0%67108864)
theorem Gv(m:List Nat):∀i,(Nf m i).length=(Q m)
 | 0=>by simp[Nf]
 | i+1=>by rw[Nf,a5,a5,Gv m i]
theorem xe{m:List Nat}(w:Y4 134217728 m):∀i,i<=10->Y4 (134217728+6+i*8) (Nf m i)
 | 0,_=>(w.mono mD).set _ _ (by have:=w.getD mD 0;omega)
 | i+1,hi=>by
  have h:=xe w i mD;have q1:=h.getD mD (i+1);have q2:=h.getD mD i;rw[Nf];exact ((h.mono mD).set _ _ mD).set _ _ mD
def P9(m:List Nat):List Nat:=if (Nf m 4).getD 4 0/67108864=0 then m else (Nf m 4).set 4 ((Nf m 4).getD 4 0%67108864)
theorem Zst{A B C P:Nat}(h1:A+5=B)(h2:B=C)(h3:C<P+5):A<P:=mD
theorem Zsu{A B C q:Nat}(h1:A+5=B)(h2:B=C+1361129467683753853853498429727072845824*q)(hv:A<1361129467683753853853498429727072845824+2 ^ 44)(h0:¬q=0):q=1:=mD
theorem Zsv{A B C P:Nat}(h1:A+5=B)(h2:B=C+(P+5))(hv:A<P+5+2 ^ 44)(hP:2 ^ 45<P):A=C+P*1/\C<P:=mD
theorem oI{m:List Nat}(hl:(Q m)=5)(w:Y4 134217728 m)(hv:Y8 m<4*H16+2 ^ 44):(P9 m).length=5/\Y4 134217728 (P9 m)/\Y8 (P9 m)=Y8 m%SY:=by
 obtain⟨a,b,c,d,e,rfl⟩:=Ma hl;obtain⟨wa,wb,wc,wd,we⟩:=w.Zci;obtain⟨t0,ht0⟩:∃t,t=a+5:=⟨_,rfl⟩
 obtain⟨t1,ht1⟩:∃t,t=b+t0/67108864:=⟨_,rfl⟩
 obtain⟨t2,ht2⟩:∃t,t=c+t1/67108864:=⟨_,rfl⟩
 obtain⟨t3,ht3⟩:∃t,t=d+t2/67108864:=⟨_,rfl⟩
 obtain⟨t4,ht4⟩:∃t,t=e+t3/67108864:=⟨_,rfl⟩
 have hY:Nf [a,b,c,d,e] 4=[t0%67108864,t1%67108864,t2%67108864,t3%67108864,t4]:=by rw[ht4,ht3,ht2,ht1,ht0];rfl
 have hW:P9 [a,b,c,d,e]=if t4/67108864=0 then [a,b,c,d,e] else [t0%67108864,t1%67108864,t2%67108864,t3%67108864,t4%67108864]:=by unfold P9;rw[hY];rfl
 have e16:H16=340282366920938463463374607431768211456:=rfl;rw[hW];have hs:Y8 [a,b,c,d,e]+5=Y8 [t0%67108864,t1%67108864,t2%67108864,t3%67108864,t4]:=by simp only[Y8];omega
 have hx:Y8 [t0%67108864,t1%67108864,t2%67108864,t3%67108864,t4]=Y8 [t0%67108864,t1%67108864,t2%67108864,t3%67108864,t4%67108864]+(SY+5)*(t4/67108864):=by rw[M7];simp only[Y8];omega
 have hb4:Y8 [t0%67108864,t1%67108864,t2%67108864,t3%67108864,t4%67108864]<SY+5:=by rw[M7];simp only[Y8];omega
 have hH:4*H16=SY+5:=rfl;rw[hH]at hv;split
 .rename_i h0;refine⟨rfl,w,?_⟩;rw[h0,Nat.mul_zero,cr]at hx;rw[cx (Zst hs hx hb4)]
 .rename_i h0;refine⟨rfl,Y4.Ma mD mD mD mD mD,?_⟩;have h1:t4/67108864=1:=by
   rw[M7]at hx hv;exact Zsu hs hx hv h0
  rw[h1,Nat.mul_one]at hx;obtain⟨hk,hC⟩:=Zsv hs hx hv (by rw[M7];decide);rw[hk,bf,cx hC]
theorem ae(h:Hp)(bk:Nat)(l:List Nat)(hl:(Q l)=5)(w:Y4 (2 ^ 61) l)(hb:h[bk]? = W (YU l)):
  Zg a4 T 141 #[ak (W ⟨bk,0,Y⟩)] h fun v' h'=>h'=h.setIfInBounds bk (YU (X4 l)):=
 (gW T h bk l hl w hb).mono fun v' h' ⟨a,ha,hh⟩=>by subst ha;exact hh
theorem CG(hi:i<(Q l)):nth (l.map uv) i=W (N S (l.getD i 0:Nat)):=by
 rw[Y7,List.getElem?_map,aX hi,aa,aX hi];rfl
theorem Oa{g:Hp}{b:Nat}(hl:(Q l)=5)(hx:g[b]? = W (YU l)):rd g ⟨b,0,Y⟩ 5=W (l.map uv):=by
 unfold YU at hx;rw[a0]at hx;exact ZA hx (by simpa using hl)
set_option maxHeartbeats 1000000 in
theorem af(h:Hp)(xs bs:List Nat)(ha:(Q xs)=5)(hb:(Q bs)=5)(wa:Y4 268435456 xs)(wb:Y4 67108864 bs):
  Zg a4 T 138 #[an (xs.map uv).toArray,an (bs.map uv).toArray] h fun v' h'=>v'=an ((X4 (VC xs bs 5)).map uv).toArray/\Zk h.size h h':=by
 have la:(xs.map uv).length=5:=by simpa using ha
 have lb:(bs.map uv).length=5:=by simpa using hb
 have ta:(xs.map uv).take 5=xs.map uv:=a9 mD;refine Zg.XK [_,_] Tryz.func138 ?_;simp -implicitDefEqProofs only[go_sem,la,lb,ta];obtain⟨H,hH⟩:=ZP (((((h.push (R (xs.map uv).toArray 229)).push (R (bs.map uv).toArray 229)).push (R #[N S 0,N S 0,N S 0,N S 0,N S 0] 229)).push (R #[N S 0,N S 0,N S 0,N S 0,N S 0] 229)):Hp);have HB:Zk h.size h H:=by rw[hH];exact (((Zk.push (aK _) _).Y1 sW _).Y1 vI _).Y1 vI _
 have Hs:H.size=h.size+1+1+1+1:=by rw[hH];simp
 have H1:H[h.size+1]? = W (YU bs):=by
  rw[hH,ZF sW,ZF sW];have:=Zd (h:=h.push (R (xs.map uv).toArray 229)) (o:=R (bs.map uv).toArray 229);rw[am]at this;rw[this];unfold YU;rw[a0]
 have H3:H[h.size+1+1+1]? = W (YU (VC xs bs 0)):=by
  have:=Zd (h:=(((h.push (R (xs.map uv).toArray 229)).push (R (bs.map uv).toArray 229)).push (R #[N S 0,N S 0,N S 0,N S 0,N S 0] 229))) (o:=R #[N S 0,N S 0,N S 0,N S 0,N S 0] 229);rw[am,am,am]at this;rw[hH,this];rfl
 have H2:H[h.size+1+1]? = W (YU [0,0,0,0,0]):=by
  have:=Zd (h:=((h.push (R (xs.map uv).toArray 229)).push (R (bs.map uv).toArray 229))) (o:=R #[N S 0,N S 0,N S 0,N S 0,N S 0] 229);rw[am,am]at this;rw[hH,ZF sW,this];rfl
 rw[<-hH];clear hH;obtain⟨bo,hbo⟩:=ZP (h.size+1+1+1);obtain⟨br,hbr⟩:=ZP (h.size+1+1);obtain⟨bb,Tu⟩:=ZP (h.size+1);rw[<-hbo]at H3 ⊢;rw[<-hbr]at H2 ⊢;rw[<-Tu]at H1 ⊢;refine VS.Yq (fun F g=>F 3=ak (W ⟨bb,0,Y⟩)/\F 4=ak (W ⟨br,0,Y⟩)/\F 5=ak (W ⟨bo,0,Y⟩)/\F 10=an (xs.map uv).toArray/\∃i:Nat,i<=5/\F 11=N O i/\g=H.setIfInBounds bo (YU (VC xs bs i)))
  (fun F _=>5-(vi (F 11)).toNat) rfl ⟨rfl,rfl,rfl,rfl,0,mD,rfl,(WK H3).symm⟩ ?_
 rintro F g ⟨f3,f4,f5,f10,i,hi,f11,rfl⟩;by_cases ZV:i<5
 .have Z4:(i:Int)<5:=mD;have n1:=CG (l:=xs) (i:=i) mD;have H1':(H.setIfInBounds bo (YU (VC xs bs i)))[bb]? = W (YU bs):=by rw[U,if_neg mD];exact H1
  have r1:=Oa hb H1';have wA:=wa.getD mD i;have Zgj:VC xs bs (i+1)=PZ (xs.getD i 0) bs (VC xs bs i) i 5:=rfl;obtain⟨a,hax⟩:=ZP (xs.getD i 0);rw[<-hax]at n1 wA Zgj;simp -implicitDefEqProofs only[go_sem,f3,f4,f5,f10,f11,Z4,aF,n1,r1];have wO:Y4 (1+i*450359962737049600) (VC xs bs i):=CF wa wb i;have lO:=T8 xs bs i;obtain⟨o,ho⟩:=ZP (VC xs bs i);rw[<-ho]at Zgj wO lO ⊢;refine VS.Yq (fun F g=>F 3=ak (W ⟨bb,0,Y⟩)/\F 4=ak (W ⟨br,0,Y⟩)/\F 5=ak (W ⟨bo,0,Y⟩)/\F 10=an (xs.map uv).toArray/\F 11=N O i/\F 6=N O i/\F 7=N S a/\F 15=an (bs.map uv).toArray/\∃k:Nat,k<=5/\F 16=N O k/\g=H.setIfInBounds bo (YU (PZ a bs o i k)))
   (fun F _=>5-(vi (F 16)).toNat) rfl ⟨f3,f4,f5,f10,f11,rfl,rfl,rfl,0,mD,rfl,rfl⟩ ?_
  clear f3 f4 f5 f10 f11 F;rintro F g ⟨f3,f4,f5,f10,f11,f6,f7,f15,k,hk,f16,rfl⟩;by_cases hlk:k<5
  .have Zks:(k:Int)<5:=mD;have n2:=CG (l:=bs) (i:=k) mD;have wB:=wb.getD mD k;have Pa:PZ a bs o i (k+1)=R7 a (bs.getD k 0) (PZ a bs o i k) i k:=rfl;obtain⟨b,hbx⟩:=ZP (bs.getD k 0);rw[<-hbx]at n2 wB Pa;have wR:=CE wO mD wA wb (i:=i) k;have lR:(PZ a bs o i k).length=5:=by rw[T7,lO]
   have hx:(H.setIfInBounds bo (YU (PZ a bs o i k)))[bo]? = W (YU (PZ a bs o i k)):=Yd H3;have hp:=Kf wA wB;have hp5:=Gu wA wB;obtain⟨r,hr⟩:=ZP (PZ a bs o i k);rw[<-hr]at Pa wR lR hx ⊢;obtain⟨G,hG⟩:=ZP (H.setIfInBounds bo (YU r));rw[<-hG]at hx ⊢;have eik:(i:Int)+(k:Int)=((i+k:Nat):Int):=rfl;by_cases h5:i+k<5
   .have h5':((i+k:Nat):Int)<5:=mD;have g1:=Z7 hx (i:=i+k) mD;have y1:=wR.getD mD (i+k);unfold uv at g1;have hs:R7 a b r i k=r.set (i+k) (r.getD (i+k) 0+a*b):=by unfold R7;rw[if_pos h5]
    rw[hs]at Pa;obtain⟨y,hy⟩:=ZP (r.getD (i+k) 0);rw[<-hy]at g1 y1 Pa;have e1:(a:Int)*(b:Int)=((a*b:Nat):Int):=(cA a b).symm;have e2:((a*b:Nat):Int)%18446744073709551616=((a*b:Nat):Int):=mD;obtain⟨p,hp'⟩:=ZP (a*b);rw[<-hp']at e1 e2 hp Pa;have e3:(y:Int)+(p:Int)=((y+p:Nat):Int):=rfl;have e4:((y+p:Nat):Int)%18446744073709551616=((y+p:Nat):Int):=mD;have c1:QF G ⟨bo,i+k,Y⟩ (N S (y+p:Nat))=_:=Yz (f:=uv) hx (i:=i+k) mD (y+p) rfl;simp -implicitDefEqProofs only[go_sem,f3,f4,f5,f6,f7,f10,f11,f15,f16,Zks,aF,n2,eik,h5',g1,e1,e2,e3,e4,c1];refine⟨⟨f3,f4,f5,f10,f11,f6,f7,f15,k+1,hlk,rfl,?_⟩,?_⟩
    .rw[hG,set_set,Pa];rfl
    .simp only[vi,Zt,↓reduceIte,f16];omega
   .have h5':¬((i+k:Nat):Int)<5:=mD;have g1:=Z7 hx (i:=i+k-5) mD;have y1:=wR.getD mD (i+k-5);unfold uv at g1;have hs:R7 a b r i k=r.set (i+k-5) (r.getD (i+k-5) 0+5*a*b):=by unfold R7;rw[if_neg h5]
    rw[hs]at Pa;obtain⟨y,hy⟩:=ZP (r.getD (i+k-5) 0);rw[<-hy]at g1 y1 Pa;have e0:(5:Int)*(a:Int)=((5*a:Nat):Int):=rfl;have e0':((5*a:Nat):Int)%18446744073709551616=((5*a:Nat):Int):=mD;have e1:((5*a:Nat):Int)*(b:Int)=((5*a*b:Nat):Int):=(cA (5*a) b).symm;have e2:((5*a*b:Nat):Int)%18446744073709551616=((5*a*b:Nat):Int):=mD;obtain⟨p,hp'⟩:=ZP (5*a*b);rw[<-hp']at e1 e2 hp5 Pa;have e3:(y:Int)+(p:Int)=((y+p:Nat):Int):=rfl;have e4:((y+p:Nat):Int)%18446744073709551616=((y+p:Nat):Int):=mD;have e5:((i+k:Nat):Int)-5=((i+k-5:Nat):Int):=mD;have e6:((i+k-5:Nat):Int)<5:=mD;have c1:QF G ⟨bo,i+k-5,Y⟩ (N S (y+p:Nat))=_:=Yz (f:=uv) hx (i:=i+k-5) mD (y+p) rfl;simp -implicitDefEqProofs only[go_sem,f3,f4,f5,f6,f7,f10,f11,f15,f16,Zks,aF,n2,eik,h5',g1,e0,e0',e1,e2,e3,e4,e5,e6,c1];refine⟨⟨f3,f4,f5,f10,f11,f6,f7,f15,k+1,hlk,rfl,?_⟩,?_⟩
    .rw[hG,set_set,Pa];rfl
    .simp only[vi,Zt,↓reduceIte,f16];omega
  .have Xw:¬(k:Int)<5:=mD;obtain rfl:k=5:=mD;have c5:((5:Nat):Int)=5:=rfl;rw[c5]at f16 Xw;simp -implicitDefEqProofs only[go_sem,f3,f4,f5,f10,f11,f16,Xw];refine⟨⟨f3,f4,f5,f10,i+1,ZV,rfl,?_⟩,?_⟩
   .rw[Zgj]
   .simp only[vi,Zt,↓reduceIte,f11];omega
 .have Xw:¬(i:Int)<5:=mD;obtain rfl:i=5:=mD;have c5:((5:Nat):Int)=5:=rfl;rw[c5]at f11 Xw;have hx:(H.setIfInBounds bo (YU (VC xs bs 5)))[bo]? = W (YU (VC xs bs 5)):=Yd H3;have NX:(H.setIfInBounds bo (YU (VC xs bs 5)))[br]? = W (YU [0,0,0,0,0]):=by rw[U,if_neg mD];exact H2
  have HB2:Zk h.size h (H.setIfInBounds bo (YU (VC xs bs 5))):=HB.Zu mD _;obtain⟨w1,w2,w3⟩:=Dc ha hb wa wb;obtain⟨o,ho⟩:=ZP (VC xs bs 5);rw[<-ho]at hx NX HB2 w1 w2 ⊢;generalize H.setIfInBounds bo (YU o)=G at *;simp -implicitDefEqProofs only[go_sem,f3,f4,f5,f10,f11,Xw];refine (ae T G bo o w2 w1 hx).use ?_;rintro _ _ rfl;obtain⟨m1,m2,m3⟩:=OP w2 w1;have hO:(G.setIfInBounds bo (YU (X4 o)))[bo]? = W (YU (X4 o)):=Yd hx;have dL:(G.setIfInBounds bo (YU (X4 o)))[br]? = W (YU [0,0,0,0,0]):=by rw[U,if_neg mD];exact NX
  have HB3:Zk h.size h (G.setIfInBounds bo (YU (X4 o))):=HB2.Zu mD _;generalize G.setIfInBounds bo (YU (X4 o))=G2 at *;have r3:=Oa m1 hO;have lc:((X4 o).map uv).length=5:=by simpa using m1
  have w4:=Yh (h:=G2) (b:=br) (l:=([0,0,0,0,0].map uv)) (by unfold YU at dL;rw[a0]at dL;exact dL) 0 ((X4 o).map uv);have ho4:((X4 o).map uv).all YN=true:=by simp[uv,YN]
  rw[if_pos ⟨by simp[lc],ho4⟩,Yb (by simp[lc])]at w4;have tc:((X4 o).map uv).take 5=(X4 o).map uv:=a9 mD;have hlr:=Za dL;simp -implicitDefEqProofs only[go_sem,f3,f4,f5,r3,w4,lc,tc,hlr];exact HB3.Zu mD _
theorem ag(h:Hp)(xs:List Nat)(ha:(Q xs)=5)(wa:Y4 268435456 xs):
  Zg a4 T 139 #[an (xs.map uv).toArray] h fun v' h'=>v'=an ((P9 (X4 xs)).map uv).toArray/\Zk h.size h h':=by
 have la:(xs.map uv).length=5:=by simpa using ha
 refine Zg.XK [_] Tryz.func139 ?_;simp -implicitDefEqProofs only[go_sem,la];obtain⟨H,hH⟩:=ZP (((h.push (R (xs.map uv).toArray 229)).push (R #[N S 0,N S 0,N S 0,N S 0,N S 0] 229)):Hp);have HB:Zk h.size h H:=by rw[hH];exact ((Zk.push (aK _) _).Y1 sW _)
 have Hs:H.size=h.size+1+1:=by rw[hH];simp
 have H0:H[h.size]? = W (YU xs):=by
  rw[hH,ZF sW,Zd];unfold YU;rw[a0]
 have H1:H[h.size+1]? = W (YU [0,0,0,0,0]):=by
  have:=Zd (h:=(h.push (R (xs.map uv).toArray 229))) (o:=R #[N S 0,N S 0,N S 0,N S 0,N S 0] 229);rw[am]at this;rw[hH,this];rfl
 rw[<-hH];clear hH;refine (ae T H h.size xs ha (wa.mono KC) H0).use ?_;rintro _ _ rfl;obtain⟨m1,m2,m3,m4⟩:=OP ha (wa.mono KC);have OM:(H.setIfInBounds h.size (YU (X4 xs)))[h.size]? = W (YU (X4 xs)):=Yd H0;have UO:(H.setIfInBounds h.size (YU (X4 xs)))[h.size+1]? = W (YU [0,0,0,0,0]):=by rw[U,if_neg mD];exact H1
 have HB2:Zk h.size h (H.setIfInBounds h.size (YU (X4 xs))):=HB.Zu (aK _) _;have Hs2:(H.setIfInBounds h.size (YU (X4 xs))).size=h.size+1+1:=by rw[aU];exact Hs
 obtain⟨m,hm⟩:=ZP (X4 xs);rw[<-hm]at OM UO HB2 Hs2 m1 m2 m3 m4 ⊢;generalize H.setIfInBounds h.size (YU m)=G at *;have r0:=Oa m1 OM;have lm:(m.map uv).length=5:=by simpa using m1
 have hom:(m.map uv).all YN=true:=by simp[uv,YN]
 have lp:Xd [Value.int S 0,N S 0,N S 0,N S 0,N S 0] 0 (m.map uv)=m.map uv:=Yb lm;have n0:=CG (l:=m) (i:=0) mD;have y0:=m2.getD mD 0;have hw0:Nf m 0=m.set 0 (m.getD 0 0+5):=rfl;obtain⟨y,hy⟩:=ZP (m.getD 0 0);rw[<-hy]at n0 y0 hw0;have e1:(y:Int)+5=((y+5:Nat):Int):=rfl;have e2:((y+5:Nat):Int)%18446744073709551616=((y+5:Nat):Int):=mD;simp -implicitDefEqProofs only[go_sem,r0,lm,hom,Hs2,lp,n0,e1,e2];have hms:(m.map uv).set 0 (N S (y+5:Nat))=(m.set 0 (y+5)).map uv:=by rw[List.map_set];rfl
 rw[hms,<-hw0];obtain⟨J,hJ⟩:=ZP (G.push (R ((Nf m 0).map uv).toArray 229));have J3:J[h.size+1+1]? = W (YU (Nf m 0)):=by
  rw[hJ,<-Hs2,Zd];unfold YU;rw[a0]
 have J0:J[h.size]? = W (YU m):=by rw[hJ,ZF mD];exact OM
 have J1:J[h.size+1]? = W (YU [0,0,0,0,0]):=by rw[hJ,ZF mD];exact UO
 have JB:Zk h.size h J:=by rw[hJ];exact HB2.Y1 mD _
 rw[<-hJ];clear hJ;obtain⟨b3,hb3⟩:∃b,b=h.size+1+1:=⟨_,rfl⟩
 obtain⟨b2,EF⟩:∃b,b=h.size+1:=⟨_,rfl⟩
 rw[<-hb3]at J3 ⊢;rw[<-EF]at J1 ⊢;refine VS.Yq (fun F g=>F 1=ak (W ⟨h.size,0,Y⟩)/\F 2=ak (W ⟨b2,0,Y⟩)/\F 3=ak (W ⟨b3,0,Y⟩)/\∃i:Nat,i<=4/\F 11=N O i/\g=J.setIfInBounds b3 (YU (Nf m i)))
  (fun F _=>4-(vi (F 11)).toNat) rfl ⟨rfl,rfl,rfl,0,mD,rfl,(WK J3).symm⟩ ?_
 rintro F g ⟨f1,f2,f3,i,hi,f11,rfl⟩;have hx:(J.setIfInBounds b3 (YU (Nf m i)))[b3]? = W (YU (Nf m i)):=Yd J3;have wY:=xe m2 i mD;have lY:(Nf m i).length=5:=by rw[Gv,m1]
 by_cases ZV:i<4
 .have Z4:(i:Int)<4:=mD;have XE:Nf m (i+1)=((Nf m i).set (i+1) ((Nf m i).getD (i+1) 0+(Nf m i).getD i 0/67108864)).set i ((Nf m i).getD i 0%67108864):=rfl;obtain⟨r,hr⟩:=ZP (Nf m i);rw[<-hr]at hx wY lY XE ⊢;obtain⟨G1,sY⟩:=ZP (J.setIfInBounds b3 (YU r));rw[<-sY]at hx ⊢;have g1:=Z7 hx (i:=i+1) mD;have g0:=Z7 hx (i:=i) mD;have q1:=wY.getD mD (i+1);have q0:=wY.getD mD i;unfold uv at g0 g1;obtain⟨a,hax⟩:=ZP (r.getD i 0);obtain⟨b,hbx⟩:=ZP (r.getD (i+1) 0);rw[<-hax]at g0 q0 XE;rw[<-hbx]at g1 q1 XE;have s1:=kI a;have s2:=PY a mD;have t1:(b:Int)+((a/67108864:Nat):Int)=((b+a/67108864:Nat):Int):=rfl;have t2:((b+a/67108864:Nat):Int)%18446744073709551616=((b+a/67108864:Nat):Int):=mD;have ei:(i:Int)+1=((i+1:Nat):Int):=rfl;have CI:((i+1:Nat):Int)<5:=mD;have Zsy:(i:Int)<5:=mD;have c1:QF G1 ⟨b3,i+1,Y⟩ (N S (b+a/67108864:Nat))=_:=Yz (f:=uv) hx (i:=i+1) mD (b+a/67108864) rfl;have CJ:=Yd (o:=R ((r.set (i+1) (b+a/67108864)).map uv++[]).toArray 229) hx;have l1:(r.set (i+1) (b+a/67108864)).length=5:=by rw[a5,lY]
  have v1:(r.set (i+1) (b+a/67108864)).getD i 0=a:=by rw[M3 mD,<-hax]
  obtain⟨r1,BG⟩:=ZP (r.set (i+1) (b+a/67108864));rw[<-BG]at c1 CJ l1 v1 XE;obtain⟨G2,ky⟩:=ZP (G1.setIfInBounds b3 (R (r1.map uv++[]).toArray 229));rw[<-ky]at c1 CJ;have g2:=Z7 CJ (i:=i) mD;unfold uv at g2;rw[v1]at g2;have c2:QF G2 ⟨b3,i,Y⟩ (N S (a%67108864:Nat))=_:=Yz (f:=uv) CJ (i:=i) mD (a%67108864) rfl;simp -implicitDefEqProofs only[go_sem,f1,f2,f3,f11,Z4];refine VS.z (b3+1) [10] (.p 0 (.p 1 (.p 2 (.q 3 (.p 4 (.p 5 (.q 6 (.p 7 (.p 8 (.p 9 (.w 10 .nil))))))))))) mixed sV ?_;simp -implicitDefEqProofs only[go_sem,f1,f2,f3,f11,ei,CI,Zsy,aF,a7,g0,g1,s1,t1,t2,c1,g2,s2,c2];refine⟨⟨f1,f2,f3,i+1,ZV,rfl,?_⟩,?_⟩
  .rw[ky,set_set,sY,set_set,XE];rfl
  .simp only[vi,Zt,↓reduceIte,f11];omega
 .have Xw:¬(i:Int)<4:=mD;obtain rfl:i=4:=mD;have c4:((4:Nat):Int)=4:=rfl;rw[c4]at f11 Xw;have hW:P9 m=if (Nf m 4).getD 4 0/67108864=0 then m else (Nf m 4).set 4 ((Nf m 4).getD 4 0%67108864):=rfl
  have oJ:(J.setIfInBounds b3 (YU (Nf m 4)))[h.size]? = W (YU m):=by rw[U,if_neg mD];exact J0
  have CJ:(J.setIfInBounds b3 (YU (Nf m 4)))[b2]? = W (YU [0,0,0,0,0]):=by rw[U,if_neg mD];exact J1
  have HB3:Zk h.size h (J.setIfInBounds b3 (YU (Nf m 4))):=JB.Zu mD _;obtain⟨r,hr⟩:=ZP (Nf m 4);rw[<-hr]at hx wY lY oJ CJ HB3 hW ⊢;generalize J.setIfInBounds b3 (YU r)=G1 at *;have g4:=Z7 hx (i:=4) mD;have q4:=wY.getD mD 4;unfold uv at g4;obtain⟨a,hax⟩:=ZP (r.getD 4 0);rw[<-hax]at g4 q4 hW;have s1:=kI a;have s2:=PY a mD;have w4:=fun (k:List Nat) (hk:(Q k)=5)=>Yh (h:=G1) (b:=b2) (l:=([0,0,0,0,0].map uv)) (by unfold YU at CJ;rw[a0]at CJ;exact CJ) 0 (k.map uv);have h2s:=Za CJ;by_cases h0:a/67108864=0
  .have h0':((a/67108864:Nat):Int)=0:=mD;rw[if_pos h0]at hW;have w5:=w4 m m1;rw[if_pos ⟨by simp[lm],hom⟩,Yb (by simp[lm])]at w5;have r1:=Oa m1 oJ;have tm:(m.map uv).take 5=m.map uv:=a9 mD;simp -implicitDefEqProofs only[go_sem,f1,f2,f3,f11,Xw,g4,s1,h0',r1,w5,lm,tm,h2s];exact⟨by rw[hW],HB3.Zu mD _⟩
  .have h0':¬((a/67108864:Nat):Int)=0:=mD;rw[if_neg h0]at hW;have c1:QF G1 ⟨b3,4,Y⟩ (N S (a%67108864:Nat))=_:=Yz (f:=uv) hx (i:=4) mD (a%67108864) rfl;have hz:=Yd (o:=R ((r.set 4 (a%67108864)).map uv++[]).toArray 229) hx;have l1:(r.set 4 (a%67108864)).length=5:=by rw[a5,lY]
   have HB4:Zk h.size h (G1.setIfInBounds b3 (R ((r.set 4 (a%67108864)).map uv++[]).toArray 229)):=HB3.Zu mD _;have ic:(G1.setIfInBounds b3 (R ((r.set 4 (a%67108864)).map uv++[]).toArray 229))[b2]? = W (YU [0,0,0,0,0]):=by rw[U,if_neg mD];exact CJ
   rw[hW];obtain⟨r1,BG⟩:=ZP (r.set 4 (a%67108864));rw[<-BG]at c1 hz l1 HB4 ic ⊢;generalize G1.setIfInBounds b3 (R (r1.map uv++[]).toArray 229)=G2 at *;have r4:=Oa l1 hz;have lr:(r1.map uv).length=5:=by simpa using l1
   have hor:(r1.map uv).all YN=true:=by simp[uv,YN]
   have w5:=Yh (h:=G2) (b:=b2) (l:=([0,0,0,0,0].map uv)) (by unfold YU at ic;rw[a0]at ic;exact ic) 0 (r1.map uv);rw[if_pos ⟨by simp[lr],hor⟩,Yb (by simp[lr])]at w5;have tm:(r1.map uv).take 5=r1.map uv:=a9 mD;have Zsz:=Za ic;simp -implicitDefEqProofs only[go_sem,f1,f2,f3,f11,Xw,g4,s1,s2,h0',a7,c1,r4,w5,lr,tm,Zsz];exact HB4.Zu mD _
def xf(key:List Nat)(i:Nat):Nat:=if i%4=3 then key.getD i 0%16 else if i%4=0/\0<i then key.getD i 0/4*4 else key.getD i 0
def Qh(key:List Nat):List Nat:=(cB 16).map (xf key)
def Zku(data:List Nat)(k:Nat):List Nat:=(data.drop (16*k)).take 16++[1]
def xh(r:Nat)(data:List Nat):Nat->Nat
 | 0=>0
 | k+1=>(xh r data k+XU (Zku data k))*r%SY
def Zck(key data:List Nat):Nat:=xh (XU (Qh key)) data (((Q data)+15)/16)+XU ((key.drop 16).take 16)
def ie(key data:List Nat):List Nat:=(cB 16).map fun i=>Zck key data/256 ^ i%256
theorem Ep(key:List Nat):(Qh key).length=16:=by simp[Qh]
theorem ah(key data:List Nat):(ie key data).length=16:=by simp[ie]
theorem OQ{h:Hp}{p:Option Addr}{c n:Nat}(s:Bs h (X p n c) l){m:Nat}(hm:m<=(Q l))(c':Nat):Bs h (X p m c') (l.take m):=by
 refine⟨?_,fun x hx=>s.byte x (List.mem_of_mem_take hx)⟩;obtain⟨p',cap,hv,hl,hc⟩:=s.sl;simp only[Value.slice.injEq]at hv;obtain⟨rfl,_,rfl⟩:=hv;refine⟨_,c',by rw[bc,Nat.min_eq_left hm],sW,fun Xb=>?_⟩;obtain⟨b,o,rfl,XH⟩:=hc (by intro e;simp at e;subst e;simp at Xb);refine⟨b,o,rfl,fun i hi=>?_⟩;have ki:i<m/\i<(Q l):=by rw[List.length_map,bc]at hi;omega
 rw[XH i vI];simp
theorem Zgn{h:Hp}{p:Option Addr}{c n:Nat}(s:Bs h (X p n c) l)(hn:(Q l)=n){k m:Nat}(hk:k+m<=n)(U3:n<=c)(c':Nat):Bs h (X (gF p 1 c k) m c') ((l.drop k).take m):=
 OQ (OK s hn (k:=k) (by omega) U3 c') (by rw[a8];omega) c'
def Sp(key data:List Nat):Int:=if (Q key)≠32\/4000<(Q data) then 1 else 0
def xj(B:Nat)(h:Hp)(v:aw)(key data:List Nat):Prop:=∃w,v=.tuple #[w,N O (Sp key data)]/\YB B 5 h w (if Sp key data=0 then ie key data else [])
def Qi:List (Option IntKind):=rep 32 [W O]++rep 8 [Y]
theorem WL:∀{ks:List (Option IntKind)} {vs:List aw} (i:Nat) (v:aw),Xj ks vs=true->(∀k,ks[i]? = W k->Ve k v=true)->Xj ks (vs.set i v)=true:=by
 intro ks
 induction ks with
 | nil=>intro vs i v h _;cases vs<;>simp[Xj]at h ⊢
 | cons k ks ih=>
  intro vs i v h hk
  cases vs with
  | nil=>simp[Xj]at h
  | cons x vs=>
   simp only[Xj,bA]at h
   cases i with
   | zero=>simp only[ck,Xj,bA];exact⟨hk k rfl,h.2⟩
   | succ i=>simp only[cn,Xj,bA];exact⟨h.1,ih i v h.2 (fun k' O9=>hk k' (by simpa using O9))⟩
theorem Ut(hi:i<32)(n:Int):∀k,Qi[i]? = W k->Ve k (N O n)=true:=by
 intro k hk;have:∀i<32,Qi[i]? = W (W O):=KC;rw[this i hi]at hk;obtain rfl:=Option.some.inj hk;rfl
theorem ai(h1:32<=i)(b:Bool):∀k,Qi[i]? = W k->Ve k (al b)=true:=by
 intro k hk;have:∀j<8,Qi[32+j]? = W Y:=KC;by_cases h2:i<40
 .have:=this (i-32) mD;rw[show 32+(i-32)=i by omega]at this;rw[this]at hk;obtain rfl:=Option.some.inj hk;rfl
 .rw[b0 (by show 40<=i;omega)]at hk;cases hk
theorem La{g:Hp}{b:Nat}{o:Obj}(hx:g[b]? = W o):g.setIfInBounds b o=g:=by
 apply Array.ext_getElem?;intro i;rw[U];by_cases hb:b=i
 .subst hb;rw[if_pos rfl,if_pos (Za hx),hx]
 .rw[if_neg hb]
structure Zkv where
 cells:List aw
 code:Int
 val:Int
def Ob(cs:List aw)(k c n v:Nat):List aw × Int:=
 if k=1 then (cs.set n (N O v),v) else if k=2 then (cs,ci cs n) else (cs.set (32+n) (al true),0)
def V0(cs:List aw)(k c s n v:Nat):Zkv:=
 if k=0 then ⟨cs,0,0⟩ else
 if (s:Int)+1=ci cs (8+c) then ⟨cs,ci cs (16+c*2),ci cs (16+c*2+1)⟩ else
 if (s:Int)<ci cs (8+c) then ⟨cs,7,0⟩ else
 if cb cs (32+c)=true then ⟨cs,11,0⟩ else
 ⟨((((Ob cs k c n v).1.set (8+c) (N O ((s:Int)+1))).set (16+c*2) (N O 0)).set (16+c*2+1) (N O (Ob cs k c n v).2)),0,(Ob cs k c n v).2⟩
def Ia(cs:List aw)(k c s n v:Int):Int:=if UP cs=true then 5 else XB k c s n v
def QO:List aw:=rep 32 [Value.int O 0]++rep 8 [Value.bool false]
def doL(cs:List aw)(k c s n v:Int):List aw:=
 if Ia cs k c s n v=0 then [an (V0 cs k.toNat c.toNat s.toNat n.toNat v.toNat).cells.toArray,an [N O (V0 cs k.toNat c.toNat s.toNat n.toNat v.toNat).code,N O (V0 cs k.toNat c.toNat s.toNat n.toNat v.toNat).val].toArray,N O 0]
  else [an QO.toArray,an [N O 0,N O 0].toArray,N O (Ia cs k c s n v)]
def ZeH(v':aw)(cs:List aw)(k c s n v:Int):Prop:=v'=.tuple (doL cs k c s n v).toArray
theorem RH{k c s n v:Int}(h:XB k c s n v=0):∃k' c' s' n' v':Nat,k=k'/\c=c'/\s=s'/\n=n'/\v=v'/\k'<=3/\c'<=7/\s'<=1048576/\n'<=7/\v'<=1073741824:=by
 have:0<=k/\k<=3/\0<=c/\c<=7/\0<=s/\s<=1048576/\0<=n/\n<=7/\0<=v/\v<=1073741824:=by
  unfold XB at h
  repeat' split at h
  all_goals omega
 exact⟨k.toNat,c.toNat,s.toNat,n.toNat,v.toNat,mD,mD,mD,mD,mD,mD,mD,mD,mD,mD⟩
theorem Dd{cs:List aw}{j:Nat}{x:aw}(h:i≠j):ci (cs.set i x) j=ci cs j:=by
 unfold ci;rw[Y7,Y7,ba h]
theorem ints_set{cs:List aw}{j:Nat}(hj:j<(Q cs))(x:Int)(hi:∀i,i<32->nth cs i=W (N O (ci cs i))):∀i,i<32->nth (cs.set j (N O x)) i=W (N O (ci (cs.set j (N O x)) i)):=by
 intro i h32;by_cases e:j=i
 .subst e;have:nth (cs.set j (N O x)) j=W (N O x):=by rw[Y7,bS hj]
  unfold ci;rw[this]
 .rw[Dd e,Y7,ba e,<-Y7];exact hi i h32
theorem oK(cs:List aw)(k c n v:Nat)(x:aw)(hn:n<=7)(hc:c<=7):Ob (cs.set (8+c) x) k c n v=((Ob cs k c n v).1.set (8+c) x,(Ob cs k c n v).2):=by
 unfold Ob;by_cases k1:k=1
 .rw[if_pos k1,if_pos k1,cF _ _ mD]
 .rw[if_neg k1,if_neg k1];by_cases k2:k=2
  .rw[if_pos k2,if_pos k2,Dd mD]
  .rw[if_neg k2,if_neg k2,cF _ _ mD]
theorem aj{cs:List aw}(hf:Xj Qi cs=true)(k c n v:Nat)(hn:n<=7):Xj Qi (Ob cs k c n v).1=true:=by
 unfold Ob;by_cases k1:k=1
 .rw[if_pos k1];exact WL n _ hf (Ut mD _)
 .rw[if_neg k1];by_cases k2:k=2
  .rw[if_pos k2];exact hf
  .rw[if_neg k2];exact WL (32+n) _ hf (ai mD _)
theorem oM{cs:List aw}(hf:Xj Qi cs=true)(k c s n v:Nat)(hn:n<=7)(hc:c<=7):Xj Qi (V0 cs k c s n v).cells=true:=by
 unfold V0
 repeat' split
 all_goals first|exact hf|skip
 exact WL _ _ (WL _ _ (WL _ _ (aj hf k c n v hn) (Ut mD _)) (Ut mD _)) (Ut mD _)
theorem ao(h:Hp)(b:Nat)(cs:List aw)(k c s n v:Nat)(hl:(Q cs)=40)(hi:∀i,i<32->nth cs i=W (N O (ci cs i)))(hn:n<=7)(hk:1<=k)(hk3:k<=3)(hx:h[b]? = W (R cs.toArray 75)):
  Zg a4 T 66 #[ak (W ⟨b,0,Y⟩),an (UL k c s n v).toArray] h fun v' h'=>v'=an [N O 0,N O (Ob cs k c n v).2].toArray/\Zk h.size (h.setIfInBounds b (R (Ob cs k c n v).1.toArray 75)) h':=by
 refine Zg.XK [_,_] Tryz.func66 ?_;have hb:=Za hx;have hn8:(n:Int)<8:=mD;unfold UL Ob;by_cases k1:k=1
 .subst k1;simp +contextual -implicitDefEqProofs only[go_sem];refine VS.z (h.size+2) [8] (.p 0 (.p 1 (.q 2 (.p 3 (.q 4 (.p 5 (.p 6 (.p 7 (.w 8 .nil))))))))) mixed sV ?_;have w1:=Xk hx n (N O v);rw[if_pos ⟨mD,rfl⟩]at w1;have nn:nth (cs.set n (N O (v:Int))) n=W (N O v):=by rw[Y7,bS mD]
  simp +contextual -implicitDefEqProofs only[go_sem,hn8,w1,hb];refine VS.z (h.size+2) [8] (.p 0 (.p 1 (.q 2 (.p 3 (.p 4 (.p 5 (.q 6 (.p 7 (.w 8 .nil))))))))) mixed sV ?_;simp +contextual -implicitDefEqProofs only[go_sem,hn8,hb,nn]
  try exact ((Zk.push sW _).Y1 sW _)
 .by_cases k2:k=2
  .subst k2;have nn:=hi n mD;have x1:hc h ⟨b,n,Y⟩=W (N O (ci cs n)):=by rw[Zn hx];exact nn
   have hsb:=La hx;simp +contextual -implicitDefEqProofs only[go_sem,hsb];refine VS.z (h.size+2) [8] (.p 0 (.p 1 (.q 2 (.p 3 (.p 4 (.p 5 (.q 6 (.p 7 (.w 8 .nil))))))))) mixed sV ?_;simp +contextual -implicitDefEqProofs only[go_sem,hn8,hb,x1]
  .have k3:k=3:=mD;subst k3;have w1:=Xk hx (32+n) (al true);rw[if_pos ⟨mD,rfl⟩]at w1;simp +contextual -implicitDefEqProofs only[go_sem];refine VS.z (h.size+2) [6] (.p 0 (.p 1 (.q 2 (.p 3 (.p 4 (.p 5 (.w 6 .nil))))))) mixed sV ?_;simp +contextual -implicitDefEqProofs only[go_sem,hn8,w1,hb]
   try exact ((Zk.push sW _).Y1 sW _)
theorem ig(h:Hp)(cs:List aw)(k c s n v:Int)(hf:Xj Qi cs=true)(hi:∀i,i<32->nth cs i=W (N O (ci cs i)))(hb:∀i,32<=i->i<40->nth cs i=W (al (cb cs i))):
  Zg a4 T 38 #[an cs.toArray,an (UL k c s n v).toArray] h fun v' h'=>ZeH v' cs k c s n v/\Zk h.size h h':=by
 have hl:(Q cs)=40:=XD hf;have tk:=Ji hl;have X1:=HX hf;refine Zg.LY [_,_] Tryz.func38 ?_;unfold UL;simp +contextual -implicitDefEqProofs only[go_sem,hl,tk];refine (nQ T _ cs hl hi).use ?_;rintro _ _ ⟨rfl,rfl⟩;unfold ZeH doL Ia;by_cases e1:UP cs=true
 .simp +contextual -implicitDefEqProofs only[go_sem,e1];refine⟨rfl,?_⟩
  (repeat' (first|exact Zk.refl _ _|assumption|refine Zk.add ?_ _|refine Zk.Zu ?_ IX _|refine Zk.trans KO ?_))
 .have e1:UP cs=false:=by simpa using e1
  simp +contextual -implicitDefEqProofs only[go_sem,e1];refine (Uk T _ k c s n v).use ?_;rintro _ _ ⟨rfl,rfl⟩;unfold UL;by_cases e2:XB k c s n v=0
  .obtain⟨k,c,s,n,v,rfl,rfl,rfl,rfl,rfl,y1,y2,y3,y4,y5⟩:=RH e2;simp only[aF];have Vb:QO=[N O 0,N O 0,N O 0,N O 0,N O 0,N O 0,N O 0,N O 0,N O 0,N O 0,N O 0,N O 0,N O 0,N O 0,N O 0,N O 0,N O 0,N O 0,N O 0,N O 0,N O 0,N O 0,N O 0,N O 0,N O 0,N O 0,N O 0,N O 0,N O 0,N O 0,N O 0,N O 0,al false,al false,al false,al false,al false,al false,al false,al false]:=rfl;obtain⟨H,hH⟩:=ZP (((((((h.push (R cs.toArray 75)).push (R [N O k,N O c,N O s,N O n,N O v].toArray 49)).push (R [N O 0,N O 0,N O 0,N O 0,N O 0,N O 0,N O 0,N O 0,N O 0,N O 0,N O 0,N O 0,N O 0,N O 0,N O 0,N O 0,N O 0,N O 0,N O 0,N O 0,N O 0,N O 0,N O 0,N O 0,N O 0,N O 0,N O 0,N O 0,N O 0,N O 0,N O 0,N O 0,al false,al false,al false,al false,al false,al false,al false,al false].toArray 75)).push (R [N O 0,N O 0].toArray 71)).push (R cs.toArray 75)).push (R [N O k,N O c,N O s,N O n,N O v].toArray 49)):Hp);have x0:H[h.size]? = W (R cs.toArray 75):=by rw[hH];simp only[au,am,aI,↓reduceIte]
   have x1:H[h.size+1]? = W (R [N O k,N O c,N O s,N O n,N O v].toArray 49):=by rw[hH];simp only[au,am,aI,↓reduceIte]
   have x2:H[h.size+2]? = W (R QO.toArray 75):=by rw[hH,Vb];simp only[au,am,aI,↓reduceIte]
   have x3:H[h.size+3]? = W (R [N O 0,N O 0].toArray 71):=by rw[hH];simp only[au,am,aI,↓reduceIte]
   have hHs:H.size=h.size+6:=by rw[hH];simp
   have gP:Zk h.size h H:=by rw[hH];(repeat' (first|exact Zk.refl _ _|assumption|refine Zk.add ?_ _|refine Zk.Zu ?_ IX _|refine Zk.trans KO ?_))
   rw[<-hH];clear hH Vb;have c1:hc H ⟨h.size+1,0,Y⟩=W (N O k):=by rw[Zn x1];rfl
   have c2:hc H ⟨h.size+1,1,Y⟩=W (N O c):=by rw[Zn x1];rfl
   have c3:hc H ⟨h.size+1,2,Y⟩=W (N O s):=by rw[Zn x1];rfl
   have cc:(c:Int)<8:=mD;have Zkx:=hi (8+c) mD;have lx:hc H ⟨h.size,8+c,Y⟩=W (N O (ci cs (8+c))):=by rw[Zn x0];exact Zkx
   have fin:∀(G:Hp) (D:List aw) (a b:Int),(Q D)=40->D.all YN=true->G[h.size+2]? = W (R QO.toArray 75)->G[h.size+3]? = W (R [N O 0,N O 0].toArray 71) ->
     wr G ⟨h.size+1+1,0,Y⟩ D=W (G.setIfInBounds (h.size+1+1) (R D.toArray 75)) /\
     wr (G.setIfInBounds (h.size+1+1) (R D.toArray 75)) ⟨h.size+1+1+1,0,Y⟩ [N O a,N O b]=W ((G.setIfInBounds (h.size+1+1) (R D.toArray 75)).setIfInBounds (h.size+1+1+1) (R [N O a,N O b].toArray 71)):=by
    intro G D a b d1 d2 g2 g3;refine⟨?_,?_⟩
    .rw[Yh (b:=h.size+1+1) g2 0 D,Yb (by rw[d1];rfl),if_pos ⟨by rw[d1];exact aK _,d2⟩]
    .rw[Yh (b:=h.size+1+1+1) (l:=[N O 0,N O 0]) (t:=71) (by rw[U,if_neg mD];exact g3),if_pos ⟨sW,rfl⟩];rfl
   have r0:=ZA x0 hl;have oN:∀(G:Hp) (o o':Obj),Zk h.size h G->Zk h.size h ((G.setIfInBounds (h.size+1+1) o).setIfInBounds (h.size+1+1+1) o'):=fun G o o' hG=>(hG.Zu mD _).Zu mD _;by_cases k0:k=0
   .subst k0;have ed:V0 cs 0 c s n v=⟨cs,0,0⟩:=rfl;obtain⟨w2,w3⟩:=fin H cs 0 0 hl X1 x2 x3;simp -implicitDefEqProofs only[go_sem,e2,c1,c2,cc,ed,r0,w2,w3,hl,hHs,tk,gP];exact oN H _ _ gP
   .have k0':¬(k:Int)=0:=mD;simp -implicitDefEqProofs only[go_sem,e2,c1,c2,cc,k0'];refine VS.q mixed sV ?_;by_cases q1:(s:Int)+1=ci cs (8+c)
    .have ed:V0 cs k c s n v=⟨cs,ci cs (16+c*2),ci cs (16+c*2+1)⟩:=by unfold V0;rw[if_neg k0,if_pos q1]
     obtain⟨w2,w3⟩:=fin H cs (ci cs (16+c*2)) (ci cs (16+c*2+1)) hl X1 x2 x3;have ra:rd H ⟨h.size,16+c*2,Y⟩ 2=W [N O (ci cs (16+c*2)),N O (ci cs (16+c*2+1))]:=by
      rw[YI x0 mD,Ap (hi _ mD) (hi _ mD)]
     simp -implicitDefEqProofs only[go_sem,c3,lx,q1];refine VS.z (h.size+1+1) [] (.q 0 (.p 1 (.q 2 (.p 3 (.p 4 (.q 5 (.s 6 (.s 7 (.p 8 .nil))))))))) mixed sV ?_;simp -implicitDefEqProofs only[go_sem,e2,c2,cc,ed,r0,ra,w2,w3,hl,hHs,tk,gP];exact oN H _ _ gP
    .simp -implicitDefEqProofs only[go_sem,c3,lx,q1];refine VS.q mixed sV ?_;by_cases q2:(s:Int)<ci cs (8+c)
     .have ed:V0 cs k c s n v=⟨cs,7,0⟩:=by unfold V0;rw[if_neg k0,if_neg q1,if_pos q2]
      obtain⟨w2,w3⟩:=fin H cs 7 0 hl X1 x2 x3;simp -implicitDefEqProofs only[go_sem,c3,lx,q2,e2,ed,r0,w2,w3,hl,hHs,tk,gP];exact oN H _ _ gP
     .have rv:hc H ⟨h.size,32+c,Y⟩=W (al (cb cs (32+c))):=by rw[Zn x0];exact hb _ mD mD
      by_cases q3:cb cs (32+c)=true
      .have ed:V0 cs k c s n v=⟨cs,11,0⟩:=by unfold V0;rw[if_neg k0,if_neg q1,if_neg q2,if_pos q3]
       obtain⟨w2,w3⟩:=fin H cs 11 0 hl X1 x2 x3;rw[q3]at rv;simp -implicitDefEqProofs only[go_sem,c3,lx,q2,c2,cc,rv,e2,ed,r0,w2,w3,hl,hHs,tk,gP];exact oN H _ _ gP
      .have q3':cb cs (32+c)=false:=by simpa using q3
       rw[q3']at rv;have w1:=Xk x0 (8+c) (N O ((s:Int)+1));rw[if_pos ⟨mD,rfl⟩]at w1;have rc:=ZA x1 (n:=5) rfl;have x1':(H.setIfInBounds h.size (R (cs.set (8+c) (N O ((s:Int)+1))).toArray 75))[h.size+1]? = W (R [N O k,N O c,N O s,N O n,N O v].toArray 49):=by rw[U,if_neg mD];exact x1
       have rc':=ZA x1' (n:=5) rfl;simp -implicitDefEqProofs only[go_sem,c3,lx,q2,c2,cc,rv,w1,rc'];have x0':(H.setIfInBounds h.size (R (cs.set (8+c) (N O ((s:Int)+1))).toArray 75))[h.size]? = W (R (cs.set (8+c) (N O ((s:Int)+1))).toArray 75):=by rw[U,if_pos rfl,if_pos mD]
       have WC:Zk h.size h (H.setIfInBounds h.size (R (cs.set (8+c) (N O ((s:Int)+1))).toArray 75)):=gP.Zu (aK _) _;have x2':(H.setIfInBounds h.size (R (cs.set (8+c) (N O ((s:Int)+1))).toArray 75))[h.size+2]? = W (R QO.toArray 75):=by rw[U,if_neg mD];exact x2
       have x3':(H.setIfInBounds h.size (R (cs.set (8+c) (N O ((s:Int)+1))).toArray 75))[h.size+3]? = W (R [N O 0,N O 0].toArray 71):=by rw[U,if_neg mD];exact x3
       have hGs:(H.setIfInBounds h.size (R (cs.set (8+c) (N O ((s:Int)+1))).toArray 75)).size=h.size+6:=by rw[aU];exact hHs
       refine (ao T _ h.size (cs.set (8+c) (N O ((s:Int)+1))) k c s n v (by rw[a5];exact hl) (ints_set mD _ hi) mD mD mD x0').use ?_;rintro _ g1 ⟨rfl,b1⟩;rw[oK cs k c n v _ mD mD]at b1 ⊢;have hfA:=aj hf k c n v mD;have ed:V0 cs k c s n v=⟨((((Ob cs k c n v).1.set (8+c) (N O ((s:Int)+1))).set (16+c*2) (N O 0)).set (16+c*2+1) (N O (Ob cs k c n v).2)),0,(Ob cs k c n v).2⟩:=by unfold V0;rw[if_neg k0,if_neg q1,if_neg q2,if_neg q3]
       obtain⟨A,hA⟩:=ZP ((Ob cs k c n v).1.set (8+c) (N O ((s:Int)+1)));obtain⟨a,ha⟩:=ZP ((Ob cs k c n v).2);rw[<-hA,<-ha]at ed;simp only[<-hA,<-ha]at b1 ⊢;have Zky:Xj Qi A=true:=by rw[hA];exact WL _ _ hfA (Ut mD _)
       have ZEj:(Q A)=40:=XD Zky;obtain⟨G,hG⟩:=ZP (H.setIfInBounds h.size (R (cs.set (8+c) (N O ((s:Int)+1))).toArray 75):Hp);rw[<-hG]at b1 x1' x2' x3' WC hGs;clear x0' rc' hG;rw[hGs]at b1;have g0:g1[h.size]? = W (R A.toArray 75):=b1.get mD (by rw[U,if_pos rfl,if_pos mD]);have g1c:=b1.get (k:=h.size+1) mD (by rw[U,if_neg mD];exact x1');have g2:=b1.get (k:=h.size+2) mD (by rw[U,if_neg mD];exact x2');have g3:=b1.get (k:=h.size+3) mD (by rw[U,if_neg mD];exact x3');have gs:h.size+6<=g1.size:=by have:=b1.size;rw[aU,hGs]at this;exact this
       have gB:Zk h.size h g1:=(WC.Zu (aK _) _).trans (b1.mono mD);clear b1 WC x1' x2' x3' hGs;have gc:hc g1 ⟨h.size+1,1,Y⟩=W (N O c):=by rw[Zn g1c];rfl
       have wa:=Yh g0 (16+c*2) [N O 0,N O a];rw[if_pos ⟨by simp only[bx,List.length_nil];omega,rfl⟩,SE,SE]at wa;have wa:wr g1 ⟨h.size,16+c*2,Y⟩ [N O 0,N O a]=W (g1.setIfInBounds h.size (R ((A.set (16+c*2) (N O 0)).set (16+c*2+1) (N O a)).toArray 75)):=by rw[wa];simp[Xd]
       simp -implicitDefEqProofs only[go_sem,gc,cc,wa];obtain⟨D,hD⟩:=ZP ((A.set (16+c*2) (N O 0)).set (16+c*2+1) (N O a));have hfD:Xj Qi D=true:=by rw[hD];exact WL _ _ (WL _ _ Zky (Ut mD _)) (Ut mD _)
       have Zcl:(Q D)=40:=XD hfD;have Zkz:=HX hfD;have tkD:=Ji Zcl;rw[<-hD]at ed ⊢;obtain⟨G,hG⟩:=ZP ((g1.setIfInBounds h.size (R D.toArray 75)).push (R [N O 0,N O a].toArray 71):Hp);have n0:G[h.size]? = W (R D.toArray 75):=by rw[hG];simp only[au,aU,U,aI,↓reduceIte]
       have n2:G[h.size+2]? = W (R QO.toArray 75):=by rw[hG];simp only[au,aU,U,aI,↓reduceIte];exact g2
       have n3:G[h.size+3]? = W (R [N O 0,N O 0].toArray 71):=by rw[hG];simp only[au,aU,U,aI,↓reduceIte];exact g3
       have n6:G[g1.size]? = W (R [N O 0,N O a].toArray 71):=by rw[hG];simp only[au,aU,aI,↓reduceIte]
       have nB:Zk h.size h G:=by rw[hG];exact (gB.Zu (aK _) _).Y1 vI _
       have nS:G.size=g1.size+1:=by rw[hG];simp
       rw[<-hG];have rA:=ZA n0 Zcl;have rB:=ZA n6 (n:=2) rfl;obtain⟨w2,w3⟩:=fin G D 0 a Zcl Zkz n2 n3;refine VS.z (h.size+1) [2,3,4] (.q 0 (.or 1 (.w 2 (.w 3 (.w 4 .nil))) (.s 2 (.s 1 (.w 3 (.w 4 .nil)))))) mixed sV ?_;have z1:h.size<h.size+1:=mD;have z2:h.size+1+1<G.size:=mD;have z3:h.size+1+1+1<G.size:=mD;simp -implicitDefEqProofs only[go_sem,rA,rB,w2,w3,Zcl,tkD,z1,z2,z3,ed];exact⟨oN G _ _ nB,oN G _ _ nB⟩
  .simp +contextual -implicitDefEqProofs only[go_sem,e2];refine⟨rfl,?_⟩
   (repeat' (first|exact Zk.refl _ _|assumption|refine Zk.add ?_ _|refine Zk.Zu ?_ IX _|refine Zk.trans KO ?_))
theorem xm{g:Hp}{b:Nat}{o o':Obj}(hx:g[b]? = W o'):(g.setIfInBounds b o)[b]? = W o:=by rw[U,if_pos rfl,if_pos (Za hx)]
def SC:Vt:=⟨0,⟨0,0⟩,0,0,0,0,0⟩
def CK(v:Vt):List aw:=[N O v.k,N O v.c,N O v.s,N O v.nm,N O v.v]
def UC(Zs:Int)(ZkA v:Vt):Vt:=if v.Zs=Zs/\Zw ZkA.b v.b then v else ZkA
def Wm(Zs:Int)(l:List Vt):Vt:=l.foldl (UC Zs) SC
def Wn(l:List Vt):Bool:=l.all fun v=>decide (Yu v)
def T9(Zs:Int)(l:List Vt):Int:=if Zs<0\/39<Zs then 2 else if Wn l=true then 0 else 5
def CL(v':aw)(Zs:Int)(l:List Vt):Prop:=
 v'=.tuple [an (CK (if T9 Zs l=0 then Wm Zs l else SC)).toArray,al (if T9 Zs l=0 then decide (0<(Wm Zs l).b.r) else false),N O (T9 Zs l)].toArray
def Vss(h:Hp)(v:aw)(LL:List (List Vt)):Prop:=∃p c,v=X p (Q LL) c/\(LL≠[]->∃b o,p=W ⟨b,o,Y⟩/\b<h.size/\∀i (hi:i<(Q LL)),∃w,hc h ⟨b,o+i,Y⟩=W w/\Ts Zv 8 h w LL[i]/\LL[i].length<=2199023255552)
theorem oP(LL:List (List Vt))(i:Nat)(hi:i<(Q LL)):(LL.take (i+1)).flatten=(LL.take i).flatten++LL[i]:=by
 rw[Y0 LL i hi,List.flatten_append,List.flatten_singleton]
theorem ii(a b:List Vt):Wn (a++b)=(Wn a&&Wn b):=by simp[Wn]
theorem CM{l:List Vt}{v:Vt}(hv:v∈l)(hm:¬Yu v):Wn l=false:=by
 rw[Wn,List.all_eq_false];exact⟨v,hv,by simpa using hm⟩
set_option maxHeartbeats 1000000 in
theorem Zcm(h:Hp)(u:aw)(LL:List (List Vt))(Zs:Int)(s:Vss h u LL)(hL:(Q LL)<=4611686018427387904):
  Zg a4 T 126 #[u,N O Zs] h fun v' h'=>CL v' Zs LL.flatten/\Zk h.size h h':=by
 have xo:T9 Zs LL.flatten=if Zs<0\/39<Zs then 2 else if Wn LL.flatten=true then 0 else 5:=rfl
 obtain⟨p,c,rfl,XH⟩:=s;refine Zg.LY [_,_] Tryz.func126 ?_;unfold CL;by_cases q1:Zs<0
 .rw[if_pos (.inl q1)]at xo;simp -implicitDefEqProofs only[go_sem,q1,xo];rfl
 .by_cases q2:39<Zs
  .rw[if_pos (.inr q2)]at xo;have q2':40<=Zs:=mD;simp -implicitDefEqProofs only[go_sem,q1,q2',xo];rfl
  .rw[if_neg mD]at xo;have q2':¬40<=Zs:=mD;simp -implicitDefEqProofs only[go_sem,q1,q2'];obtain⟨H,hH⟩:=ZP ((h.push (R #[N O 0,N O 0,N O 0,N O 0,N O 0] 49)).push (R #[N O 0,N O 0,N O 0,N O 0,N O 0,N O 0,N O 0,N O 0] 97):Hp);have HB:Zk h.size h H:=by rw[hH];(repeat' (first|exact Zk.refl _ _|assumption|refine Zk.add ?_ _|refine Zk.Zu ?_ IX _|refine Zk.trans KO ?_))
   have HZ:H[h.size]? = W (R (CK SC).toArray 49):=by rw[hH,ZF sW,Zd];rfl
   have HV:H[h.size+1]? = W (R (Zv SC).toArray 97):=by
    have:=Zd (h:=h.push (R #[N O 0,N O 0,N O 0,N O 0,N O 0] 49)) (o:=R #[N O 0,N O 0,N O 0,N O 0,N O 0,N O 0,N O 0,N O 0] 97);rw[am]at this;rw[hH,this];rfl
   rw[<-hH];clear hH;have wz:∀g:Hp,g[h.size]? = W (R (CK SC).toArray 49)->∀w:List aw,(Q w)=5->w.all YN=true->wr g ⟨h.size,0,Y⟩ w=W (g.setIfInBounds h.size (R w.toArray 49)):=by
    intro g hg w h5 h1;rw[Yh hg 0 w,Yb (by rw[h5];rfl),if_pos ⟨by rw[h5];exact aK _,h1⟩]
   refine VS.Yq (fun F g=>F 1=N O Zs/\F 4=ak (W ⟨h.size,0,Y⟩)/\F 7=ak (W ⟨h.size+1,0,Y⟩)/\F 19=X p (Q LL) c/\F 20=N O (Q LL)/\Zk h.size h g/\g[h.size]? = W (R (CK SC).toArray 49)/\∃i:Nat,i<=(Q LL)/\F 21=N O i/\g[h.size+1]? = W (R (Zv (Wm Zs (LL.take i).flatten)).toArray 97)/\Wn (LL.take i).flatten=true)
    (fun F _=>(Q LL)-(vi (F 21)).toNat) rfl ⟨rfl,rfl,rfl,rfl,rfl,HB,HZ,0,mD,rfl,HV,rfl⟩ ?_
   clear HB HZ HV H;rintro F g ⟨f1,f4,f7,f19,f20,hg,gZ,i,hi,f21,gV,XT⟩;have zV:=Za gV;by_cases ZV:i<(Q LL)
   .have Z4:(i:Int)<(Q LL):=mD;obtain⟨bb,oo,rfl,Tu,XH⟩:=XH (by intro e;rw[e]at ZV;simp at ZV);obtain⟨w,hw,tw,hwl⟩:=XH i ZV;have hw':V.hc g ⟨bb,oo+i,Y⟩=W w:=by rw[hg.hc (by exact Tu)];exact hw
    have ZeK:=oP LL i ZV;have xp:LL[i]∈LL:=bz ZV;obtain⟨L,hLi⟩:=ZP (LL[i]);rw[<-hLi]at tw hwl ZeK xp;obtain⟨pw,cw,rfl,hwc⟩:=Wk tw;simp -implicitDefEqProofs only[go_sem,f1,f4,f7,f19,f20,f21,Z4,aF,hw'];refine VS.Yq (fun F g=>F 1=N O Zs/\F 4=ak (W ⟨h.size,0,Y⟩)/\F 7=ak (W ⟨h.size+1,0,Y⟩)/\F 19=X (W ⟨bb,oo,Y⟩) (Q LL) c/\F 20=N O (Q LL)/\F 21=N O i/\F 25=X pw (Q L) cw/\F 26=N O (Q L)/\Zk h.size h g/\g[h.size]? = W (R (CK SC).toArray 49)/\∃j:Nat,j<=(Q L)/\F 27=N O j/\g[h.size+1]? = W (R (Zv (Wm Zs ((LL.take i).flatten++L.take j))).toArray 97)/\Wn ((LL.take i).flatten++L.take j)=true)
     (fun F _=>(Q L)-(vi (F 27)).toNat) rfl ⟨f1,f4,f7,f19,f20,f21,rfl,rfl,hg,gZ,0,mD,rfl,by rw[cC,a0];exact gV,by rw[cC,a0];exact XT⟩ ?_
    clear f1 f4 f7 f19 f20 f21 F hg gZ gV XT zV hw';rintro F g ⟨f1,f4,f7,f19,f20,f21,f25,f26,hg,gZ,j,hj,f27,gV,XT⟩;have zV:=Za gV;by_cases hlj:j<(Q L)
    .have ZsC:(j:Int)<(Q L):=mD;obtain⟨b2,o2,rfl,EF,_,hwc⟩:=hwc (by intro e;rw[e]at hlj;simp at hlj);have r1:rd g ⟨b2,o2+j*8,Y⟩ 8=W (Zv L[j]):=by rw[Q9 hg (by exact EF)];exact hwc j hlj
     have ij:(LL.take i).flatten++L.take (j+1)=((LL.take i).flatten++L.take j)++[L[j]]:=by rw[Y0 L j hlj,List.append_assoc]
     have ZeN:L[j]∈LL.flatten:=List.mem_flatten.2 ⟨L,xp,bz hlj⟩;obtain⟨v,hv⟩:=ZP (L[j]);rw[<-hv]at r1 ij ZeN;have JU:Wm Zs ((LL.take i).flatten++L.take (j+1))=UC Zs (Wm Zs ((LL.take i).flatten++L.take j)) v:=by
      rw[ij];unfold Wm;rw[List.foldl_append];rfl
     have I3:Wn ((LL.take i).flatten++L.take (j+1))=decide (Yu v):=by rw[ij,ii,XT,Bool.true_and];simp[Wn]
     obtain⟨B,hB⟩:=ZP (Wm Zs ((LL.take i).flatten++L.take j));rw[<-hB]at gV JU;unfold Zv at r1;simp -implicitDefEqProofs only[go_sem,f1,f4,f7,f19,f20,f21,f25,f26,f27,ZsC,aF,r1];refine (Hd T _ v).use ?_;rintro _ g1 ⟨rfl,b1⟩;have BF:Zk g.size g g1:=(Zk.push (aK _) _).trans (b1.mono sW);have y0:g1[g.size]? = W (R (Zv v).toArray 97):=b1.get sW Zd;have z1:=BF.size;have LO:=hg.trans (BF.mono hg.size);have gZ1:=BF.get (Za gZ) gZ;have gV1:=BF.get zV gV;have z0:=Za y0;by_cases c1:Yu v
     .rw[decide_eq_true c1]at I3;have y1:V.hc g1 ⟨g.size,0,Y⟩=W (N O v.Zs):=by rw[Zn y0];rfl
      have y2:rd g1 ⟨g.size,1,Y⟩ 2=W (Qu v.b):=by rw[YI y0 (by simp[Zv])];rfl
      have y3:rd g1 ⟨h.size+1,1,Y⟩ 2=W (Qu B.b):=by rw[YI gV1 (by simp[Zv])];rfl
      by_cases c2:v.Zs=Zs
      .simp -implicitDefEqProofs only[go_sem,f1,f4,f7,f19,f20,f21,f25,f26,f27,c1,y1,c2,y2,y3];refine (VY T _ v.b B.b).use ?_;rintro _ g2 ⟨rfl,nU⟩;have z2:=nU.size;have U1:=LO.trans (nU.mono LO.size);have gZ2:=nU.get (Za gZ1) gZ1;have gV2:=nU.get (Za gV1) gV1;have y02:=nU.get z0 y0;by_cases c3:Zw B.b v.b
       .have wU:=(SQ v.b B.b).2 c3;have rV:=ZA y02 (n:=8) rfl;have wV:=Yh gV2 0 (Zv v);rw[Yb (by simp[Zv]),if_pos ⟨by simp[Zv],rfl⟩]at wV;have hpk:UC Zs B v=v:=by unfold UC;rw[if_pos ⟨c2,c3⟩]
        rw[hpk]at JU;unfold Zv at rV wV;simp -implicitDefEqProofs only[go_sem,f1,f4,f7,f19,f20,f21,f25,f26,f27,wU,rV,wV];refine⟨⟨f1,f4,f7,f19,f20,f21,f25,f26,U1.Zu mD _,?_,j+1,hlj,rfl,?_,I3⟩,?_⟩
        .rw[U,if_neg mD];exact gZ2
        .rw[JU];exact xm gV2
        .simp only[vi,Zt,↓reduceIte,f27];omega
       .have wU:¬0<Kc v.b B.b:=fun h=>c3 ((SQ v.b B.b).1 h);have hpk:UC Zs B v=B:=by unfold UC;rw[if_neg (fun h=>c3 h.2)]
        rw[hpk]at JU;simp -implicitDefEqProofs only[go_sem,f1,f4,f7,f19,f20,f21,f25,f26,f27,wU];refine⟨⟨f1,f4,f7,f19,f20,f21,f25,f26,U1,gZ2,j+1,hlj,rfl,?_,I3⟩,?_⟩
        .rw[JU];exact gV2
        .simp only[vi,Zt,↓reduceIte,f27];omega
      .have hpk:UC Zs B v=B:=by unfold UC;rw[if_neg (fun h=>c2 h.1)]
       rw[hpk]at JU;simp -implicitDefEqProofs only[go_sem,f1,f4,f7,f19,f20,f21,f25,f26,f27,c1,y1,c2];refine⟨⟨f1,f4,f7,f19,f20,f21,f25,f26,LO,gZ1,j+1,hlj,rfl,?_,I3⟩,?_⟩
       .rw[JU];exact gV1
       .simp only[vi,Zt,↓reduceIte,f27];omega
     .have hf:=CM ZeN c1;rw[hf,if_neg KC]at xo;have wz1:=wz g1 gZ1 [N O 0,N O 0,N O 0,N O 0,N O 0] rfl rfl;have zl:=Za gZ1;simp -implicitDefEqProofs only[go_sem,f1,f4,f7,c1,wz1,zl,xo];exact⟨rfl,LO.Zu (aK _) _⟩
    .have ZsE:¬(j:Int)<(Q L):=mD;obtain rfl:j=(Q L):=mD;rw[cz,<-ZeK]at gV XT;simp -implicitDefEqProofs only[go_sem,f1,f4,f7,f19,f20,f21,f25,f26,f27,ZsE];refine⟨⟨f1,f4,f7,f19,f20,hg,gZ,i+1,ZV,rfl,gV,XT⟩,?_⟩;simp only[vi,Zt,↓reduceIte,f21];omega
   .have Xw:¬(i:Int)<(Q LL):=mD;obtain rfl:i=(Q LL):=mD;rw[cz]at gV XT;rw[XT,if_pos rfl]at xo;rw[xo,if_pos rfl,if_pos rfl];obtain⟨B,hB⟩:=ZP (Wm Zs LL.flatten);rw[<-hB]at gV ⊢;have r1:rd g ⟨h.size+1,3,Y⟩ 5=W (CK B):=by rw[YI gV (by simp[Zv])];rfl
    have r2:V.hc g ⟨h.size+1,1,Y⟩=W (N O B.b.r):=by rw[Zn gV];rfl
    have wB:=wz g gZ (CK B) rfl rfl;have zl:=Za gZ;unfold CK at r1 wB ⊢;simp -implicitDefEqProofs only[go_sem,f1,f4,f7,f19,f20,f21,Xw];refine VS.z (h.size) [] (.p 0 (.p 2 (.p 3 (.or 1 (.or 4 (.p 5 (.s 6 (.p 7 (.p 8 .nil)))) (.s 6 (.s 4 (.p 5 (.p 7 (.p 8 .nil)))))) (.s 4 (.p 5 (.s 1 (.s 6 (.p 7 (.p 8 .nil)))))))))) mixed sV ?_;simp -implicitDefEqProofs only[go_sem,f4,f7,r1,r2,wB,zl];have CN:=hg.Zu (aK _) (R #[N O B.k,N O B.c,N O B.s,N O B.nm,N O B.v] 49);exact⟨⟨CN,CN⟩,CN⟩
end Go.Proofs.YtnhfdnlcpdbjlaaGreatDoor
