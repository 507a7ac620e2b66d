/- Part Pik. -/
import Derived.Test.YtkhkmpfenaipaaaGreatDoorVst
import Derived.Test.YtkhkmpfenaipaaaGreatDoorW13
import Derived.Test.YtkhkmpfenaipaaaGreatDoorLchks
open Go.Value renaming int→N,slice→Y,pointer→ae,bool→ak,agg→al
open Go.IntKind renaming i64→O,u64→S
open Go.Obj renaming cells→R
open Go.Proofs.Tryz renaming prog→aL
open List renaming length→Q,toArray→aq,getD_eq_getElem?_getD→aH,append_nil→aS,mem_iff_getElem→aX,take_of_length_le→a3,length_set→a4,take_append_drop→a6,mem_or_eq_of_mem_set→a8,getElem_mem→a9,filter_eq_nil_iff→ba,drop_of_length_le→bc,getElem?_eq_none→bd,mem_cons_of_mem→bf,filter_eq_self→bh,getD_cons_succ→bl,filter_append→bp,mem_cons_self→bt,length_cons→bN,take_length→bR,range→bV
open Nat renaming le_refl→aF,zero_add→a0,add_mul_mod_self_left→a5,add_sub_cancel→a7,add_mod→bg,add_assoc→bn,lt_of_lt_of_le→bw,mod_lt→bA,pow_succ→bE,zero_mul→bG,le_of_lt_succ→bK,mul_add→bS
open Int renaming toNat_natCast→ao,natCast_mul→bT
open Option renaming some→W,none→aa
open Array renaming setIfInBounds→U,getElem?_setIfInBounds→X,size_push→am,getElem?_push→aw,size_setIfInBounds→ax
open Go.IntWalk renaming iteOmega→aI
open Go renaming Value→an
namespace Go.Proofs.YtkhkmpfenaipaaaGreatDoor
set_option maxHeartbeats 1000000
open Go Go.V
set_option linter.all false
set_option maxRecDepth 100000
variable(T:World){i:Nat}{l:List Nat}
structure ZN where
 r:Int
 n:Int
structure Vt where
 Zx:Int
 b:ZN
 k:Int
 c:Int
 s:Int
 nm:Int
 v:Int
def Q0(b:ZN):List an:=[N O b.r,N O b.n]
def Zz(v:Vt):List an:=[N O v.Zx,N O v.b.r,N O v.b.n,N O v.k,N O v.c,N O v.s,N O v.nm,N O v.v]
def Zv(b:ZN):Prop:=(1<=b.r/\b.r<=65536)/\(0<=b.n/\b.n<=4)
instance (b:ZN):Decidable (Zv b):=by unfold Zv;infer_instance
def Yz(v:Vt):Prop:=(0<=v.Zx/\v.Zx<=39)/\Zv v.b/\Xy v.k v.c v.s v.nm v.v=0
instance (v:Vt):Decidable (Yz v):=by unfold Yz;infer_instance
def Zj(a b:ZN):Prop:=a.r<b.r\/(a.r=b.r/\a.n<b.n)
instance (a b:ZN):Decidable (Zj a b):=by unfold Zj;infer_instance
def MI(a b:Int):Int:=if a<b then -1 else if b<a then 1 else 0
def IX(a b:ZN):Int:=if MI a.r b.r=0 then MI a.n b.n else MI a.r b.r
theorem Ph(a b:ZN):0<IX a b↔Zj b a:=by
 unfold IX MI Zj
 grind
theorem KJ(a b:ZN):IX a b<0↔Zj a b:=by
 unfold IX MI Zj
 grind
theorem fQ(h:Hp)(a:Int):Zg aL T 141 #[N O a] h fun b h'=>b=ak false/\h'=h:=by
 refine Zg.X8 [_] Tryz.func141 ?_;simp -implicitDefEqProofs only[go_sem]
theorem Rv(h:Hp)(a b:Int):Zg aL T 126 #[N O a,N O b] h fun e h'=>e=N O (MI a b)/\h'=h:=by
 refine Zg.X8 [_,_] Tryz.func126 ?_;simp -implicitDefEqProofs only[go_sem];refine (fQ T _ _).pure ?_;simp -implicitDefEqProofs only[go_sem];refine (fQ T _ _).pure ?_;unfold MI;by_cases c:a<b
 .simp -implicitDefEqProofs only[go_sem,c]
 .by_cases d:b<a
  .simp -implicitDefEqProofs only[go_sem,c,d]
  .simp -implicitDefEqProofs only[go_sem,c,d]
theorem ZbP(h:Hp)(b:Nat)(x y:Int)(d:hc h ⟨b,0,aa⟩=W (N O x))(c:hc h ⟨b,1,aa⟩=W (N O y)):Zg aL T 140 #[Y (W ⟨b,0,aa⟩) 2 2] h fun f h'=>f=N O (if x=0 then y else x)/\h'=h:=by
 refine Zg.X8 [_] Tryz.func140 ?_;simp -implicitDefEqProofs only[go_sem];refine VS.rounds 3 rfl ?_;by_cases a:x=0
 .by_cases e:y=0
  .simp -implicitDefEqProofs only[go_sem,d,c,a,e,Int.reduceAdd]
  .simp -implicitDefEqProofs only[go_sem,d,c,a,e,Int.reduceAdd]
 .simp -implicitDefEqProofs only[go_sem,d,c,a]
theorem Pk(h:Hp)(b:ZN):Zg aL T 120 #[al (Q0 b).toArray] h fun g h'=>g=ak (decide (Zv b))/\h'=h.push (R (Q0 b).toArray 97):=by
 refine Zg.X8 [_] Tryz.func120 ?_;unfold Q0;by_cases a:1<=b.r
 .by_cases c:b.r<=65536
  .by_cases d:0<=b.n
   .by_cases f:b.n<5
    .have e:Zv b:=⟨⟨a,c⟩,d,uh⟩
     simp -implicitDefEqProofs only[go_sem,a,c,d,f,e]
    .have e:¬Zv b:=by unfold Zv;omega
     simp -implicitDefEqProofs only[go_sem,a,c,d,f,e]
   .have e:¬Zv b:=by unfold Zv;omega
    simp -implicitDefEqProofs only[go_sem,a,c,d,e]
  .have e:¬Zv b:=by unfold Zv;omega
   simp -implicitDefEqProofs only[go_sem,a,c,e]
 .have e:¬Zv b:=by unfold Zv;omega
  simp -implicitDefEqProofs only[go_sem,a,e]
theorem Sc(h:Hp)(a b:ZN):Zg aL T 121 #[al (Q0 a).toArray,al (Q0 b).toArray] h fun c h'=>c=N O (IX a b)/\Zm h.size h h':=by
 refine Zg.X8 [_,_] Tryz.func121 ?_;unfold Q0;simp -implicitDefEqProofs only[go_sem];refine VS.z (h.size+2) [] (.p 0 (.q 1 (.p 2 (.q 3 (.p 5 (.q 6 (.p 7 (.q 8 (.s 4 (.s 9 (.s 10 (.s 11 (.p 12 .nil))))))))))))) mixed zI ?_;simp -implicitDefEqProofs only[go_sem];refine (Rv T _ _ _).pure ?_;simp -implicitDefEqProofs only[go_sem];refine (Rv T _ _ _).pure ?_;simp -implicitDefEqProofs only[go_sem];refine⟨(Zm.refl _ _).Xj zX _,?_⟩;refine (ZbP T _ _ (MI a.r b.r) (MI a.n b.n) ?_ ?_).pure ?_
 .grind [nth,SI]
 .grind [nth,SI]
 unfold IX;simp -implicitDefEqProofs only[go_sem]
 grind [Zm.refl,am,Zm.add]
theorem FC(h:Hp)(v:Vt):Zg aL T 123 #[al (Zz v).toArray] h fun f h'=>f=ak (decide (Yz v))/\Zm h.size h h':=by
 refine Zg.X8 [_] Tryz.func123 ?_;unfold Zz;by_cases c:0<=v.Zx
 .by_cases d:v.Zx<40
  .simp -implicitDefEqProofs only[go_sem,c,d];refine (Pk T _ v.b).use ?_;rintro _ _ ⟨rfl,rfl⟩;unfold Q0;by_cases b:Zv v.b
   .simp -implicitDefEqProofs only[go_sem,b];refine (U9 T _ v.k v.c v.s v.nm v.v).use ?_;rintro _ _ ⟨rfl,rfl⟩;by_cases a:Xy v.k v.c v.s v.nm v.v=0
    .have e:Yz v:=⟨⟨c,uh⟩,b,a⟩
     simp -implicitDefEqProofs only[go_sem,a,e]
     grind [Zm.add,Zm.refl]
    .have e:¬Yz v:=fun h=>a h.2.2;simp -implicitDefEqProofs only[go_sem,a,e]
     grind [Zm.add,Zm.refl]
   .have e:¬Yz v:=fun h=>b h.2.1;simp -implicitDefEqProofs only[go_sem,b,e]
  .have e:¬Yz v:=by unfold Yz;omega
   simp -implicitDefEqProofs only[go_sem,c,d,e]
 .have e:¬Yz v:=by unfold Yz;omega
  simp -implicitDefEqProofs only[go_sem,c,e]
theorem Vk{h:Hp}{v:an}{l:List Vt}(s:Ts Zz 8 h v l):∃p cap,v=Y p (Q l) cap/\(l≠[]->∃b o,p=W ⟨b,o,aa⟩/\b<h.size/\(∀i (hi:i<(Q l)),hc h ⟨b,o+i*8,aa⟩=W (N O l[i].Zx))/\∀i (hi:i<(Q l)),rd h ⟨b,o+i*8,aa⟩ 8=W (Zz l[i])):=by
 let⟨p,cap,c,f⟩:=Ts.open (enc:=Zz) (n:=8) (fun _=>rfl) HE s;refine⟨p,cap,c,fun e=>?_⟩;let⟨b,o,d,hb,a⟩:=f e;exact⟨b,o,d,hb,fun i hi=>(a i hi).hc (i:=0) rfl,fun i hi=>(a i hi).rd (by simp[Zz]) rfl⟩
def EA(l:List Vt)(j:Nat):Int:=((l[j]?).map (·.Zx)).getD (-1)
def Rw(l:List Vt)(i:Nat):Int:=if i=0 then -1 else EA l (i-1)
def Nq(p:ZN)(l:List Vt)(i:Nat):Bool:=match l[i]? with
 | some v=>decide (Yz v/\¬Zj p v.b/\(i=0\/EA l (i-1)<v.Zx))
 | none=>true
def Qq(p:ZN)(l:List Vt):Int:=if ¬Zv p/\¬(p.r=0/\p.n=0) then 5 else if (bV (Q l)).all (Nq p l)=true then 0 else 5
theorem Mn{l:List Vt}{j:Nat}(a:j<(Q l)):EA l j=l[j].Zx:=by
 unfold EA;grind
theorem KK{p:ZN}{l:List Vt}(hi:i<(Q l)):Nq p l i=true↔Yz l[i]/\¬Zj p l[i].b/\(i=0\/EA l (i-1)<l[i].Zx):=by
 grind [Nq]
theorem BR{p:ZN}{l:List Vt}(hi:i<(Q l)):Nq p l i=true↔Yz l[i]/\¬Zj p l[i].b/\Rw l i<l[i].Zx:=by
 grind [Yz,Rw,KK]
theorem Ns{p:ZN}{l:List Vt}(a:¬(¬Zv p/\¬(p.r=0/\p.n=0)))(b:∀j,j<(Q l)->Nq p l j=true):Qq p l=0:=by
 grind [Qq]
theorem Vl{p:ZN}{l:List Vt}(hi:i<(Q l))(hb:Nq p l i=false):Qq p l=5:=by
 grind [Qq]
def XO(p:ZN)(v:an):List an:=[N O p.r,N O p.n,v]
theorem MX(h:Hp)(p:ZN)(u:an)(l:List Vt)(s:Ts Zz 8 h u l)(hlen:(Q l)<=4611686018427387904):
  Zg aL T 119 #[al (XO p u).toArray] h fun v' h'=>v'=N O (Qq p l)/\Zm h.size h h':=by
 obtain⟨pv,t,rfl,D⟩:=Vk s;refine Zg.X8 [_] Tryz.func119 ?_;unfold XO;by_cases z:p.r=0/\p.n=0
 .let⟨z1,z2⟩:=z;have j4:¬(¬Zv p/\¬(p.r=0/\p.n=0)):=fun h=>h.2 ⟨z1,z2⟩;simp -implicitDefEqProofs only[go_sem,z1,z2];let⟨H,k⟩:=ZO (h.push (R [N O 0,N O 0,Y pv (Q l) t].toArray 100):Hp);have G:H[h.size]? = W (R (XO p (Y pv (Q l) t)).toArray 100):=by rw[k];unfold XO;rw[z1,z2];exact Zf
  have d:Zm h.size h H:=by rw[k];all_goals exact aaf
  rw[<-k];clear k;have hz:=Zb G;refine VS.YC (fun F g=>Zm H.size H g/\F 1=ae (W ⟨h.size,0,aa⟩)/\F 17=Y pv (Q l) t/\F 18=N O (Q l)/\∃i:Nat,i<=(Q l)/\F 19=N O i/\F 3=N O (Rw l i)/\∀j,j<i->Nq p l j=true)
   (fun F _=>(Q l)-(vi (F 19)).toNat) rfl ⟨Zm.refl _ _,rfl,rfl,rfl,0,uh,rfl,rfl,fun j hj=>by omega⟩ ?_
  rintro F g ⟨f,f1,f17,f18,i,hi,f19,I,QV⟩;have Mm:=f.size;have B:Zm h.size h g:=d.trans (f.mono uh);by_cases b:i<(Q l)
  .have Yh:(i:Int)<(Q l):=uh;obtain⟨L,oo,rfl,Sb,aW,D⟩:=D zK;have a1:L<H.size:=by have:=d.size;omega
   have n:rd g ⟨L,oo+i*8,aa⟩ 8=W (Zz l[i]):=by
    rw[Ut B (by exact Sb)];exact D i b
   have Z:rd g ⟨h.size,0,aa⟩ 2=W [N O p.r,N O p.n]:=by rw[Ut f (by exact hz),YZ G (by simp[XO])];rfl
   have c:=Mn b;have gl:=BR (p:=p) b;let⟨v,hv⟩:=ZO (l[i]);rw[<-hv]at n gl c;unfold Zz at n;have Jy:Rw l (i+1)=v.Zx:=by unfold Rw;rw[if_neg uh,a7];exact c
   simp -implicitDefEqProofs only[go_sem,f1,f17,f18,f19,Yh,n];refine (FC T _ v).use ?_;rintro _ g1 ⟨rfl,A⟩;have y:=A.size;simp only[am]at y;have E:g1[g.size]? = W (R [N O v.Zx,N O v.b.r,N O v.b.n,N O v.k,N O v.c,N O v.s,N O v.nm,N O v.v].toArray 141):=A.get zX Zf;have m:hc g1 ⟨g.size,0,aa⟩=W (N O v.Zx):=by rw[Zr E];rfl
   have V:rd g1 ⟨g.size,1,aa⟩ 2=W [N O v.b.r,N O v.b.n]:=by rw[YZ E zX];rfl
   have r:Zm g.size g g1:=(Zm.push (aF _) _).trans (A.mono zX);have P:rd g1 ⟨h.size,0,aa⟩ 2=W [N O p.r,N O p.n]:=by rw[Ut r zK];exact Z
   have C:Zm h.size h g1:=B.trans (r.mono uh);have EB:Zm H.size H g1:=f.trans (r.mono uh);by_cases w:Yz v
   .by_cases K:v.Zx<=Rw l i
    .have e:=Vl (p:=p) b zK;simp -implicitDefEqProofs only[go_sem,f1,I,w,K,m,e,C]
    .simp -implicitDefEqProofs only[go_sem,f1,I,w,K,m,V,P];refine (Sc T _ v.b p).use ?_;rintro _ o ⟨rfl,x⟩;have M:hc o ⟨g.size,0,aa⟩=W (N O v.Zx):=by rw[x.hc zK];exact m
     have Od:Zm h.size h o:=C.trans (x.mono zK);have VJ:Zm H.size H o:=EB.trans (x.mono zK);by_cases J:Zj p v.b
     .have e:=Vl (p:=p) b zK;have a:=(Ph v.b p).2 J;simp -implicitDefEqProofs only[go_sem,a,e,Od]
     .have a:¬0<IX v.b p:=fun h=>J ((Ph v.b p).1 h);simp -implicitDefEqProofs only[go_sem,a,f1,f17,f18,f19,M];refine⟨⟨VJ,f1,f17,f18,i+1,b,rfl,by rw[Jy];rfl,fun j hj=>?_⟩,?_⟩
      .grind
      .simp only[vi,Zu,↓reduceIte,f19];omega
   .have e:=Vl (p:=p) b zK;simp -implicitDefEqProofs only[go_sem,w,e,C]
  .have XX:¬(i:Int)<(Q l):=uh;obtain rfl:i=(Q l):=uh;have e:=Ns j4 QV;simp -implicitDefEqProofs only[go_sem,f17,f18,f19,XX,e,B]
 .have z':¬p.r=0\/¬p.n=0:=uh;by_cases q:Zv p
  .have j4:¬(¬Zv p/\¬(p.r=0/\p.n=0)):=fun h=>h.1 q;have zz:(p.r=0/\p.n=0)=False:=eq_false z;by_cases z1:p.r=0
   .have z2:¬p.n=0:=fun e=>z ⟨z1,e⟩;exact absurd q.1.1 uh
   .simp -implicitDefEqProofs only[go_sem,z1];refine (Pk T _ p).use ?_;rintro _ _ ⟨rfl,rfl⟩;simp -implicitDefEqProofs only[go_sem,q];let⟨H,k⟩:=ZO ((h.push (R [N O p.r,N O p.n,Y pv (Q l) t].toArray 100)).push (R (Q0 p).toArray 97):Hp);have G:H[h.size]? = W (R (XO p (Y pv (Q l) t)).toArray 100):=by rw[k];simp only[aw,am,aI,↓reduceIte];rfl
    have d:Zm h.size h H:=by rw[k];all_goals exact aaf
    rw[<-k];clear k;have hz:=Zb G;refine VS.YC (fun F g=>Zm H.size H g/\F 1=ae (W ⟨h.size,0,aa⟩)/\F 17=Y pv (Q l) t/\F 18=N O (Q l)/\∃i:Nat,i<=(Q l)/\F 19=N O i/\F 3=N O (Rw l i)/\∀j,j<i->Nq p l j=true)
     (fun F _=>(Q l)-(vi (F 19)).toNat) rfl ⟨Zm.refl _ _,rfl,rfl,rfl,0,uh,rfl,rfl,fun j hj=>by omega⟩ ?_
    rintro F g ⟨f,f1,f17,f18,i,hi,f19,I,QV⟩;have Mm:=f.size;have B:Zm h.size h g:=d.trans (f.mono uh);by_cases b:i<(Q l)
    .have Yh:(i:Int)<(Q l):=uh;obtain⟨L,oo,rfl,Sb,aW,D⟩:=D zK;have a1:L<H.size:=by have:=d.size;omega
     have n:rd g ⟨L,oo+i*8,aa⟩ 8=W (Zz l[i]):=by
      rw[Ut B (by exact Sb)];exact D i b
     have Z:rd g ⟨h.size,0,aa⟩ 2=W [N O p.r,N O p.n]:=by rw[Ut f (by exact hz),YZ G (by simp[XO])];rfl
     have c:=Mn b;have gl:=BR (p:=p) b;let⟨v,hv⟩:=ZO (l[i]);rw[<-hv]at n gl c;unfold Zz at n;have Jy:Rw l (i+1)=v.Zx:=by unfold Rw;rw[if_neg uh,a7];exact c
     simp -implicitDefEqProofs only[go_sem,f1,f17,f18,f19,Yh,n];refine (FC T _ v).use ?_;rintro _ g1 ⟨rfl,A⟩;have y:=A.size;simp only[am]at y;have E:g1[g.size]? = W (R [N O v.Zx,N O v.b.r,N O v.b.n,N O v.k,N O v.c,N O v.s,N O v.nm,N O v.v].toArray 141):=A.get zX Zf;have m:hc g1 ⟨g.size,0,aa⟩=W (N O v.Zx):=by rw[Zr E];rfl
     have V:rd g1 ⟨g.size,1,aa⟩ 2=W [N O v.b.r,N O v.b.n]:=by rw[YZ E zX];rfl
     have r:Zm g.size g g1:=(Zm.push (aF _) _).trans (A.mono zX);have P:rd g1 ⟨h.size,0,aa⟩ 2=W [N O p.r,N O p.n]:=by rw[Ut r zK];exact Z
     have C:Zm h.size h g1:=B.trans (r.mono uh);have EB:Zm H.size H g1:=f.trans (r.mono uh);by_cases w:Yz v
     .by_cases K:v.Zx<=Rw l i
      .have e:=Vl (p:=p) b zK;simp -implicitDefEqProofs only[go_sem,f1,I,w,K,m,e,C]
      .simp -implicitDefEqProofs only[go_sem,f1,I,w,K,m,V,P];refine (Sc T _ v.b p).use ?_;rintro _ o ⟨rfl,x⟩;have M:hc o ⟨g.size,0,aa⟩=W (N O v.Zx):=by rw[x.hc zK];exact m
       have Od:Zm h.size h o:=C.trans (x.mono zK);have VJ:Zm H.size H o:=EB.trans (x.mono zK);by_cases J:Zj p v.b
       .have e:=Vl (p:=p) b zK;have a:=(Ph v.b p).2 J;simp -implicitDefEqProofs only[go_sem,a,e,Od]
       .have a:¬0<IX v.b p:=fun h=>J ((Ph v.b p).1 h);simp -implicitDefEqProofs only[go_sem,a,f1,f17,f18,f19,M];refine⟨⟨VJ,f1,f17,f18,i+1,b,rfl,by rw[Jy];rfl,fun j hj=>?_⟩,?_⟩
        .grind
        .simp only[vi,Zu,↓reduceIte,f19];omega
     .have e:=Vl (p:=p) b zK;simp -implicitDefEqProofs only[go_sem,w,e,C]
    .have XX:¬(i:Int)<(Q l):=uh;obtain rfl:i=(Q l):=uh;have e:=Ns j4 QV;simp -implicitDefEqProofs only[go_sem,f17,f18,f19,XX,e,B]
  .have e:Qq p l=5:=by unfold Qq;rw[if_pos ⟨q,z⟩]
   by_cases z1:p.r=0
   .have z2:¬p.n=0:=fun e=>z ⟨z1,e⟩;have hb:=Pk T (h.push (R [N O 0,N O p.n,Y pv (Q l) t].toArray 100)) p;simp -implicitDefEqProofs only[go_sem,z1,z2];unfold Q0 at hb;rw[z1]at hb;refine hb.use ?_;rintro _ _ ⟨rfl,rfl⟩;simp -implicitDefEqProofs only[go_sem,q,e]
   .simp -implicitDefEqProofs only[go_sem,z1];refine (Pk T _ p).use ?_;rintro _ _ ⟨rfl,rfl⟩;simp -implicitDefEqProofs only[go_sem,q,e]
theorem Rx(h:Hp)(u:an)(l:List Vt)(s:Ts Zz 8 h u l)(e:(Q l)<=2199023255552):
  Zg aL T 122 #[u] h fun b h'=>QY h.size 141 Zz 8 h' b l/\Zm h.size h h':=by
 obtain⟨p,c,rfl,f⟩:=Vk s;refine Zg.X8 [_] Tryz.func122 ?_
 cases p with
 | none=>
  have:l=[]:=by
   cases l with
   | nil=>rfl
   | cons x l=>grind
  subst this;simp -implicitDefEqProofs only[go_sem];exact QY.nil _ _ _ _ _
 | some a=>
  simp -implicitDefEqProofs only[go_sem];refine RZ (E:=141) (B:=h.size) (n:=8) (bytes:=64) HT Tryz.underlying98 Ku qW rfl qU (fun _=>rfl) (QY.CE _ _ Zz 8 _ _) zX (s.YQ (Zm.push (aF _) _)) Fo uh ?_;intro b h' d hb _;simp -implicitDefEqProofs only[go_sem];exact⟨zK,(Zm.push (aF _) _).trans hb⟩
def YX(p:ZN)(l:List Vt)(b:ZN):Int:=if Qq p l≠0 then 5 else if ¬Zv b then 2 else if Zj b p then 7 else 0
theorem H6(p:ZN)(l:List Vt):Qq p l=0\/Qq p l=5:=by
 unfold Qq
 grind
def fR(B:Nat)(h':Hp)(a:an)(p:ZN)(l:List Vt)(b:ZN):Prop:=∃w1 w2,a=.tuple [al (XO (if YX p l b=0 then b else ⟨0,0⟩) w1).toArray,w2,N O (YX p l b)].toArray /\
 QY B 141 Zz 8 h' w1 (if YX p l b=0 then l else [])/\QY B 141 Zz 8 h' w2 (if YX p l b=0 then l else [])
theorem Ol(h:Hp)(p:ZN)(u:an)(l:List Vt)(b:ZN)(s:Ts Zz 8 h u l)(P:(Q l)<=2199023255552):
  Zg aL T 100 #[al (XO p u).toArray,al (Q0 b).toArray] h fun v' h'=>fR h.size h' v' p l b/\Zm h.size h h':=by
 obtain⟨B,E,rfl,TZ⟩:=Vk s;refine Zg.Kq [_,_] Tryz.func100 ?_;unfold XO Q0;simp -implicitDefEqProofs only[go_sem];have H:Zm h.size h ((((h.push (R [N O p.r,N O p.n,Y B (Q l) E].toArray 100)).push (R [N O b.r,N O b.n].toArray 97)).push (R [N O 0,N O 0,Y aa 0 0].toArray 100))):=by (repeat' (first|exact Zm.refl _ _|assumption|refine Zm.add ?_ _|refine Zm.ZA ?_ (by first|omega|(simp;omega)) _|refine Zm.trans (by assumption) ?_))
 refine (MX T _ p _ l (s.YQ H) (by omega)).use ?_;rintro _ g1 ⟨rfl,m⟩;have J:g1[h.size]? = W (R (XO p (Y B (Q l) E)).toArray 100):=m.get (by grind) (by simp only[aw,am,aI,↓reduceIte,XO]);have I:g1[h.size+1]? = W (R [N O b.r,N O b.n].toArray 97):=m.get (by grind) (by grind);have r:g1[h.size+2]? = W (R [N O 0,N O 0,Y aa 0 0].toArray 100):=m.get (by grind) (by grind);have x:Zm h.size h g1:=H.trans (m.mono (by simp;omega));have z1:=Zb r;clear m H;have fin:∀(G:Hp) (w:List an),(Q w)=3->w.all YV=true->G[h.size+2]? = W (R [N O 0,N O 0,Y aa 0 0].toArray 100)->wr G ⟨h.size+1+1,0,aa⟩ w=W (U G (h.size+1+1) (R (aq w) 100)):=by
  intro G w V h1 hx;rw[Yr (b:=h.size+1+1) hx 0 w,Yf (by rw[V];rfl),if_pos ⟨by rw[V];simp,h1⟩]
 unfold fR;rcases H6 p l with D|D
 .have K:=ZB I (n:=2) rfl;simp -implicitDefEqProofs only[go_sem,D,K];refine (Pk T _ b).use ?_;rintro _ _ ⟨rfl,rfl⟩;by_cases d:Zv b
  .have rp:rd g1 ⟨h.size,0,aa⟩ 2=W [N O p.r,N O p.n]:=by rw[YZ J (by simp[XO])];rfl
   have z2:h.size<g1.size:=by omega
   have z3:h.size+1<g1.size:=by omega
   unfold Q0;simp -implicitDefEqProofs only[go_sem,d,K,rp,z2,z3];refine (Sc T _ b p).use ?_;rintro _ f ⟨rfl,b2⟩;have v:Zm g1.size g1 f:=(Zm.push (aF _) _).trans (b2.mono (by simp));have z:=v.get z2 J;have y:=v.get z3 I;have a:=v.get z1 r;have q:=x.trans (v.mono x.size);have z5:=Zb a;by_cases t:Zj b p
   .have e:YX p l b=7:=by unfold YX;rw[if_neg (by grind),if_neg (fun h=>h d),if_pos t]
    have w2:=fin f [N O 0,N O 0,Y aa 0 0] rfl rfl a;have c:IX b p<0:=(KJ b p).2 t;simp -implicitDefEqProofs only[go_sem,c,e,w2,z5];refine⟨⟨_,_,rfl,QY.nil _ _ _ _ _,QY.nil _ _ _ _ _⟩,?_⟩;exact q.ZA (by omega) _
   .have e:YX p l b=0:=by unfold YX;rw[if_neg (by grind),if_neg (fun h=>h d),if_neg t]
    have A:=ZB y (n:=2) rfl;have rv:hc f ⟨h.size,2,aa⟩=W (Y B (Q l) E):=by rw[Zr z];rfl
    have c:¬IX b p<0:=fun h=>t ((KJ b p).1 h);simp -implicitDefEqProofs only[go_sem,c];refine VS.z (h.size+2) [] (.q 0 (.p 1 (.q 2 (.p 5 (.q 6 (.s 3 (.p 4 (.s 7 (.s 8 (.p 9 (.p 10 .nil))))))))))) mixed (by kernel_rfl) ?_;have z6:h.size<h.size+2:=by omega
    have z7:h.size+1<h.size+2:=by omega
    simp -implicitDefEqProofs only[go_sem,A,rv,z6,z7];refine (Rx T _ _ l (s.YQ q) P).use ?_;rintro w1 g3 ⟨L,k⟩;obtain⟨p1,c1,rfl,_⟩:=L.open;have j:Zm (h.size+2) f g3:=k.mono (by omega);simp -implicitDefEqProofs only[go_sem];refine⟨j,?_⟩;refine (Rx T _ _ l ((s.YQ q).YQ k) P).use ?_;rintro w2 C ⟨o2,g⟩;have F:=k.size;have a1:=g.size;have M:Zm (h.size+2) f C:=j.trans (g.mono (by omega));have o:C[h.size+2]? = W (R [N O 0,N O 0,Y aa 0 0].toArray 100):=g.get (by omega) (k.get z5 a);have Z:=Zb o;have wf:=fin C [N O b.r,N O b.n,Y p1 (Q l) c1] rfl rfl o;have rF:=q.trans ((k.trans (g.mono F)).mono q.size);simp -implicitDefEqProofs only[go_sem,e,wf,Z];refine⟨M,M.ZA (by omega) _,⟨_,_,rfl,?_,?_⟩,?_⟩
    .exact (((L.YQ g (aF _)).mono (B':=h.size+1+1+1) (by omega)).Ym (by omega) _).mono (by omega)
    .exact ((o2.mono (B':=h.size+1+1+1) (by omega)).Ym (by omega) _).mono (by omega)
    .exact rF.ZA (by omega) _
  .have e:YX p l b=2:=by unfold YX;rw[if_neg (by grind),if_pos d]
   have w2:=fin g1 [N O 0,N O 0,Y aa 0 0] rfl rfl r;simp -implicitDefEqProofs only[go_sem,d,e,w2,z1];exact⟨⟨_,_,rfl,QY.nil _ _ _ _ _,QY.nil _ _ _ _ _⟩,(x.ZA (by omega) _).Xj (by simp;omega) _⟩
 .have e:YX p l b=5:=by unfold YX;rw[if_pos (by grind)]
  have w2:=fin g1 [N O 0,N O 0,Y aa 0 0] rfl rfl r;simp -implicitDefEqProofs only[go_sem,D,e,w2,z1];exact⟨⟨_,_,rfl,QY.nil _ _ _ _ _,QY.nil _ _ _ _ _⟩,x.ZA (by omega) _⟩
def Srt(l:List Vt):Prop:=∀i j (hi:i<(Q l)) (a:j<(Q l)),i<j->l[i].Zx<l[j].Zx
theorem KL{p:ZN}{l:List Vt}(h:Qq p l=0):∀j,j<(Q l)->Nq p l j=true:=by
 intro j a;unfold Qq at h
 grind
theorem EC{p:ZN}{l:List Vt}(h:Qq p l=0):Srt l:=by
 have b:=KL h;intro i j
 induction j with
 | zero=>grind
 | succ j a=>
  grind [KK,Mn]
theorem mM{p:ZN}{l:List Vt}(h:Qq p l=0):∀x∈l,Yz x:=by
 intro x b;obtain⟨j,a,rfl⟩:=aX.1 b;exact ((KK a).1 (KL h j a)).1
def Jq(l:List Vt)(v:Vt):List Vt:=l.filter (fun x=>decide (x.Zx<v.Zx))++v :: l.filter (fun x=>decide (v.Zx<x.Zx))
theorem H7{α:Type}(q:α->Bool)(l:List α)(i:Nat)(c:∀j (a:j<(Q l)),j<i->q l[j]=true)(b:∀j (a:j<(Q l)),i<=j->q l[j]=false):l.filter q=l.take i:=by
 conv=>lhs;rw[<-a6 i l]
 rw[bp,bh.2,ba.2,aS]
 .grind [aX]
 grind [aX]
theorem H8{α:Type}(q:α->Bool)(l:List α)(i:Nat)(c:∀j (a:j<(Q l)),j<i->q l[j]=false)(b:∀j (a:j<(Q l)),i<=j->q l[j]=true):l.filter q=l.drop i:=by
 conv=>lhs;rw[<-a6 i l]
 rw[bp,ba.2,bh.2,List.nil_append]
 .grind [aX]
 grind [aX]
theorem ZbS{l:List Vt}(b:Srt l){v:Vt}(hi:i<(Q l))(f:l[i].Zx=v.Zx):Jq l v=l.set i v:=by
 have h:l.filter (fun x=>decide (x.Zx<v.Zx))=l.take i:=H7 _ _ _
  (fun j a d=>decide_eq_true (by have:=b j i a hi d;omega))
  (fun j a c=>decide_eq_false (by
    by_cases e:i=j
    .grind
    .have:=b i j hi a uh;omega))
 have g:l.filter (fun x=>decide (v.Zx<x.Zx))=l.drop (i+1):=H8 _ _ _
  (fun j a d=>decide_eq_false (by
    by_cases e:j=i
    .grind
    .have:=b j i a hi uh;omega))
  (fun j a c=>decide_eq_true (by have:=b i j hi a uh;omega))
 grind [Jq.eq_1,List.set_eq_take_append_cons_drop]
theorem ZbT{l:List Vt}(b:Srt l){v:Vt}(hi:i<=(Q l))(d:∀j (a:j<(Q l)),j<i->l[j].Zx<v.Zx)(c:∀j (a:j<(Q l)),i<=j->v.Zx<l[j].Zx):Jq l v=l.take i++v :: l.drop i:=by
 grind [H7,H8,Jq.eq_1]
def Jb:List Nat->Nat
 | []=>0
 | x :: l=>x+256*Jb l
def Dg(l:List Nat):Prop:=∀x∈l,x<256
theorem Dg.getD(w:Dg l)(i:Nat):l.getD i 0<256:=Yn w i
theorem Dg.set{x:Nat}(w:Dg l)(i:Nat)(b:x<256):Dg (l.set i x):=by
 intro y a;rcases a8 a with h|h
 .exact w y h
 .rw[h];exact b
theorem Zgp(w:Dg l):Jb l<256 ^ (Q l):=by
 induction l with
 | nil=>simp[Jb]
 | cons x l a=>
  have d:=a fun y b=>w y (bf _ b);have c:=w x bt;simp only[Jb,bN,bE];omega
theorem mN(w:Dg l)(i:Nat):l.getD i 0=Jb l/256 ^ i%256:=by
 induction l generalizing i with
 | nil=>simp[Jb]
 | cons x l a=>
  have c:=w x bt
  cases i with
  | zero=>simp only[List.getD_cons_zero,Jb,Nat.pow_zero,Nat.div_one];omega
  | succ i=>
   rw[bl,a (fun y b=>w y (bf _ b)) i,Jb,bE,Nat.mul_comm (256 ^ i) 256,<-Nat.div_div_eq_div_mul]
   congr 2
   omega
theorem getD_none(hi:¬i<(Q l)):l.getD i 0=0:=by
 rw[aH,bd uh];rfl
def uv(x:Nat):an:=N S (x:Nat)
def W26:Nat:=67108864
def aY(n Yi:Nat):List Nat:=[n%67108864,n/67108864%67108864,n/4503599627370496%67108864,n/302231454903657293676544%67108864,n/20282409603651670423947251286016+Yi*16777216]
theorem FD(x n:Nat)(a:n<=64):XV S (x:Int) (n:Int)=((x*2 ^ n%18446744073709551616:Nat):Int):=by
 rw[au S x n (by show n<=64;omega),Kj];rfl
theorem Mo(x n:Nat)(a:n<=64):Xn S (x:Int) (n:Int)=((x/2 ^ n:Nat):Int):=by
 rw[Mi S x n (by show n<=64;omega),Nat.shiftRight_eq_div_pow]
theorem Nt(x:Nat)(a:x<18446744073709551616):Y1 .and S (x:Int) 67108863=((x%67108864:Nat):Int):=by
 have h:=ZfW x 67108863 a HE;have e:x &&& 67108863=x%67108864:=Nat.and_two_pow_sub_one_eq_mod x 26
 grind
theorem rG(L b:Nat)(hL:L<72057594037927936)(hb:b<256):Y1 .or S ((L*256:Nat):Int) (b:Int)=((L*256+b:Nat):Int):=by
 rw[lw _ _ uh uh,UT (k:=8) uh uh]
theorem ZoY(L:Nat)(hL:L<72057594037927936):XV S (L:Int) 8=((L*256:Nat):Int):=by
 have h:=FD L 8 HE
 grind
theorem fS{m:Nat}(a:m<(Q l)):Jb (l.drop m)=l.getD m 0+256*Jb (l.drop (m+1)):=by
 grind [Jb,List.drop_eq_getElem_cons]
theorem Dg.drop(w:Dg l)(i:Nat):Dg (l.drop i):=fun x a=>w x (List.mem_of_mem_drop a)
theorem Sd(w:Dg l){n:Nat}(a:(Q l)<=n):Jb l<256 ^ n:=bw (Zgp w) (Nat.pow_le_pow_right uh a)
theorem IY(h:Hp)(v:an)(l:List Nat)(Yi:Nat)(s:Bs h v l)(hl:(Q l)=16)(ht:Yi<=1):
  Zg aL T 128 #[v,N S Yi] h fun v' h'=>v'=al ((aY (Jb l) Yi).map uv).toArray/\Zm h.size h h':=by
 have wb:=s.byte;obtain⟨p,c,rfl,hc⟩:=s.Th;obtain⟨H,oo,rfl,Sb,hc⟩:=hc (by grind);obtain⟨lo,hi,rfl,q,a1⟩:∃lo hi:List Nat,l=lo++hi/\(Q lo)=8/\(Q hi)=8:=⟨l.take 8,l.drop 8,(a6 8 l).symm,by grind,by grind⟩
 have d:Dg lo:=fun x y=>wb x (List.mem_append_left _ y);have e:Dg hi:=fun x y=>wb x (List.mem_append_right _ y);refine Zg.X8 [_,_] Tryz.func128 ?_;simp -implicitDefEqProofs only[go_sem];obtain⟨Z,hZ⟩:∃Z:Obj,Z=R #[N S 0,N S 0,N S 0,N S 0,N S 0] 221:=⟨_,rfl⟩
 refine VS.YC (fun F g=>g=h.push (R #[N S 0,N S 0,N S 0,N S 0,N S 0] 221)/\F 0=Y (W ⟨H,oo,aa⟩) (lo++hi).length c/\F 1=N S Yi/\F 4=ae (W ⟨h.size,0,aa⟩)/\∃j:Nat,j<=8/\F 7=N O ((j:Int)-1)/\F 5=N S (Jb (lo.drop j):Nat)/\F 6=N S (Jb (hi.drop j):Nat))
  (fun F _=>(vi (F 7)+1).toNat) rfl ⟨rfl,rfl,rfl,rfl,8,by omega,rfl,by rw[bc (by omega)];rfl,by rw[bc (by omega)];rfl⟩ ?_
 rintro F g ⟨rfl,C,f1,B,j,hj,t,A,z⟩;by_cases Ye:0<j
 .obtain⟨m,rfl⟩:∃m,j=m+1:=⟨j-1,by omega⟩
  have e1:((m+1:Nat):Int)-1=(m:Nat):=by omega
  rw[e1]at t;have g1:=hc m (by omega);have G:=hc (8+m) (by omega);have d1:(lo++hi).getD m 0=lo.getD m 0:=by rw[aH,List.getElem?_append_left (by omega),aH]
  have d2:(lo++hi).getD (8+m) 0=hi.getD m 0:=by rw[aH,List.getElem?_append_right (by omega),q,Nat.add_sub_cancel_left,aH]
  rw[d1]at g1;rw[d2]at G;have J:=d.getD m;have I:=e.getD m;have n1:Jb (lo.drop m)=Jb (lo.drop (m+1))*256+lo.getD m 0:=by rw[fS (l:=lo) (by omega)];omega
  have n2:Jb (hi.drop m)=Jb (hi.drop (m+1))*256+hi.getD m 0:=by rw[fS (l:=hi) (by omega)];omega
  have f:=Sd (d.drop (m+1)) (n:=7) (by grind);have r:=Sd (e.drop (m+1)) (n:=7) (by grind);rw[show 256 ^ 7=72057594037927936 from rfl]at f r;have s1:=ZoY _ f;have s2:=ZoY _ r;have o1:=rG _ _ f J;have o2:=rG _ _ r I;have em:(8:Int)+(m:Int)=((8+m:Nat):Int):=by omega
  have k1:(m:Int)<(lo++hi).length:=by omega
  have k2:((8+m:Nat):Int)<(lo++hi).length:=by omega
  have k0:(0:Int)<=m:=by omega
  have D:H<h.size:=Sb;have m1:((lo.getD m 0:Nat):Int)%18446744073709551616=(lo.getD m 0:Nat):=by omega
  have m2:((hi.getD m 0:Nat):Int)%18446744073709551616=(hi.getD m 0:Nat):=by omega
  simp -implicitDefEqProofs only[go_sem,C,f1,B,A,z,t,m1,m2,k0,k1,k2,em,ao,D,g1,G,s1,s2,o1,o2];refine⟨⟨rfl,C,f1,B,m,by omega,rfl,?_,?_⟩,?_⟩
  .rw[n1];rfl
  .rw[n2];rfl
  .simp only[vi,Zu,↓reduceIte,t];omega
 .obtain rfl:j=0:=by omega
  rw[List.drop_zero]at A z;have k0:¬(0:Int)<=((0:Nat):Int)-1:=by omega
  have f:=Sd d (n:=8) (by omega);have r:=Sd e (n:=8) (by omega);rw[show 256 ^ 8=18446744073709551616 from rfl]at f r;have aC:Jb (lo++hi)=Jb lo+18446744073709551616*Jb hi:=by
   have:∀a b:List Nat,Jb (a++b)=Jb a+256 ^ (Q a)*Jb b:=by
    intro a b
    induction a with
    | nil=>simp[Jb]
    | cons x a ih=>grind [Jb.eq_2]
   rw[this,q]
  rw[aC];generalize Jb lo=L at *;generalize Jb hi=M at *;have q1:=Nt L f;have q2:Xn S (L:Int) 26=((L/2 ^ 26:Nat):Int):=Mo L 26 (by decide);have q3:=Nt (L/2 ^ 26) (by omega);have q4:Xn S (L:Int) 52=((L/2 ^ 52:Nat):Int):=Mo L 52 (by decide);have q5:XV S (M:Int) 12=((M*2 ^ 12%18446744073709551616:Nat):Int):=FD M 12 (by decide);have E:=lw (L/2 ^ 52) (M*2 ^ 12%18446744073709551616) (by omega) (by omega);rw[Nat.or_comm,UT (k:=12) (by omega) (by omega)]at E;have q7:=Nt (M*2 ^ 12%18446744073709551616+L/2 ^ 52) (by omega);have q8:Xn S (M:Int) 14=((M/2 ^ 14:Nat):Int):=Mo M 14 (by decide);have q9:=Nt (M/2 ^ 14) (by omega);have w:Xn S (M:Int) 40=((M/2 ^ 40:Nat):Int):=Mo M 40 (by decide);have u:XV S (Yi:Int) 24=((Yi*2 ^ 24%18446744073709551616:Nat):Int):=FD Yi 24 (by decide);have o:=lw (M/2 ^ 40) (Yi*2 ^ 24%18446744073709551616) (by omega) (by omega);rw[Nat.or_comm,UT (k:=24) (by omega) (by omega)]at o;simp -implicitDefEqProofs only[go_sem,C,f1,B,A,z,t,k0,q1,q2,q3,q4,q5,E,q7,q8,q9,w,u,o];have w1:L%67108864=(L+18446744073709551616*M)%67108864:=by omega
  have w2:L/2 ^ 26%67108864=(L+18446744073709551616*M)/67108864%67108864:=by omega
  have V:(M*2 ^ 12%18446744073709551616+L/2 ^ 52)%67108864=(L+18446744073709551616*M)/4503599627370496%67108864:=by omega
  have P:M/2 ^ 14%67108864=(L+18446744073709551616*M)/302231454903657293676544%67108864:=by omega
  have K:Yi*2 ^ 24%18446744073709551616+M/2 ^ 40=(L+18446744073709551616*M)/20282409603651670423947251286016+Yi*16777216:=by omega
  rw[w1,w2,V,P,K];rfl
def Lt(l:List Nat)(i:Nat):List Nat:=
 if i<4 then (l.set i (l.getD i 0%67108864)).set (i+1) ((l.set i (l.getD i 0%67108864)).getD (i+1) 0+l.getD i 0/67108864)
 else (l.set i (l.getD i 0%67108864)).set 0 ((l.set i (l.getD i 0%67108864)).getD 0 0+5*(l.getD i 0/67108864))
def Ui(l:List Nat):Nat->List Nat
 | 0=>l
 | i+1=>Lt (Ui l i) i
def Y0(K:Nat)(l:List Nat):Prop:=∀x∈l,x<K
theorem Y0.getD{K:Nat}(w:Y0 K l)(hK:0<K)(i:Nat):l.getD i 0<K:=by
 by_cases hi:i<(Q l)
 .have e:l.getD i 0=l[i]:=by rw[aH,List.getElem?_eq_getElem hi];rfl
  rw[e];exact w _ (a9 hi)
 grind
theorem Y0.set{K:Nat}(w:Y0 K l)(i x:Nat)(b:x<K):Y0 K (l.set i x):=by
 intro y a;rcases a8 a with h|h
 .exact w y h
 grind
theorem Y0.mono{K a:Nat}(w:Y0 K l)(h:K<=a):Y0 a l:=fun x b=>bw (w x b) h
theorem CR(l:List Nat)(i:Nat):(Lt l i).length=(Q l):=by
 unfold Lt;grind
theorem MY(l:List Nat):∀i,(Ui l i).length=(Q l)
 | 0=>rfl
 | i+1=>by rw[Ui,CR,MY l i]
theorem vQ{K:Nat}(w:Y0 K l)(d:67108864<=K)(hK:K<=2 ^ 62):Y0 (K+2 ^ 39) (Lt l i):=by
 have c:=w.getD uh i;have w1:Y0 K (l.set i (l.getD i 0%67108864)):=w.set i _ uh;have b:=w1.getD uh (i+1);have a:=w1.getD uh 0
 grind [Lt,Y0.set,Y0.mono]
theorem BS{K:Nat}(w:Y0 K l)(a:67108864<=K)(hK:K<=2 ^ 61):∀i,i<=5->Y0 (K+i*2 ^ 39) (Ui l i)
 | 0,_=>by rw[bG,Nat.add_zero];exact w
 | i+1,hi=>by
  have:=vQ (i:=i) (BS w a hK i uh) uh uh;rw[Ui]
  grind
theorem KM{j x:Nat}(h:i≠j):(l.set i x).getD j 0=l.getD j 0:=by
 grind
def Xb(l:List Nat):Obj:=R (l.map uv++[]).toArray 221
theorem rH(x:Nat):Xn S (x:Int) 26=((x/67108864:Nat):Int):=Mo x 26 HE
theorem mO(h:Hp)(bk:Nat)(l:List Nat)(hl:(Q l)=5)(w:Y0 (2 ^ 61) l)(hb:h[bk]? = W (Xb l)):
  Zg aL T 144 #[ae (W ⟨bk,0,aa⟩)] h fun v' h'=>∃a,a=Ui l 5/\h'=U h bk (Xb ((a.set 1 (a.getD 1 0+a.getD 0 0/67108864)).set 0 (a.getD 0 0%67108864))):=by
 refine Zg.X8 [_] Tryz.func144 ?_;simp -implicitDefEqProofs only[go_sem];refine VS.YC (fun F g=>F 0=ae (W ⟨bk,0,aa⟩)/\∃i:Nat,i<=5/\F 4=N O i/\g=U h bk (Xb (Ui l i)))
  (fun F _=>5-(vi (F 4)).toNat) rfl ⟨rfl,0,uh,rfl,(VI hb).symm⟩ ?_
 rintro F g ⟨m,i,hi,q,rfl⟩;have d:=YB (o:=Xb (Ui l i)) hb;have hw:=BS w HE HE i hi;have s:=hw.getD uh i;have n:(Ui l i).length=5:=by rw[MY,hl]
 by_cases Ye:i<5
 .have H:(i:Int)<5:=uh;have Jy:Ui l (i+1)=Lt (Ui l i) i:=rfl;let⟨a,P⟩:=ZO (Ui l i);rw[<-P]at d hw s n Jy ⊢;let⟨G,A⟩:=ZO (U h bk (Xb a));rw[<-A]at d ⊢;have g1:=Yk d (i:=i) uh;unfold uv at g1;let⟨x,c⟩:=ZO (a.getD i 0);rw[<-c]at g1 s;have D:=rH x;have I:=Nt x uh;simp -implicitDefEqProofs only[go_sem,m,q,H,ao,a0,g1,D];refine VS.z (bk+1) [8] (.p 0 (.p 1 (.p 2 (.p 3 (.q 4 (.p 5 (.p 6 (.p 7 (.w 8 .nil))))))))) mixed zI ?_;have r:Uf _ ⟨bk,i,aa⟩ (N S (x%67108864:Nat))=_:=YN (f:=uv) d (i:=i) uh (x%67108864) rfl;have k:=YB (o:=R ((a.set i (x%67108864)).map uv++[]).toArray 221) d;have K:=hw.set i (x%67108864) uh;have v:Lt a i=if i<4 then (a.set i (x%67108864)).set (i+1) ((a.set i (x%67108864)).getD (i+1) 0+x/67108864) else (a.set i (x%67108864)).set 0 ((a.set i (x%67108864)).getD 0 0+5*(x/67108864)):=by rw[c];rfl
  have t:(a.set i (x%67108864)).length=5:=by rw[a4,n]
  let⟨z,p⟩:=ZO (a.set i (x%67108864));rw[<-p]at k K v t r;let⟨J,e⟩:=ZO (U G bk (R (z.map uv++[]).toArray 221));rw[<-e]at k r;by_cases h4:i<4
  .have u:(i:Int)<4:=uh;rw[if_pos h4]at v;simp -implicitDefEqProofs only[go_sem,m,q,H,ao,a0,g1,D,I,r,u];refine VS.z (bk+1) [10] (.p 0 (.p 1 (.p 2 (.p 3 (.p 4 (.q 5 (.p 6 (.p 7 (.p 8 (.p 9 (.w 10 .nil))))))))))) mixed zI ?_;have j:=Yk k (i:=i+1) uh;unfold uv at j;have L:=K.getD uh (i+1);let⟨y,b⟩:=ZO (z.getD (i+1) 0);rw[<-b]at j L v;have C:(y:Int)+((x/67108864:Nat):Int)=((y+x/67108864:Nat):Int):=uh;have B:((y+x/67108864:Nat):Int)%18446744073709551616=((y+x/67108864:Nat):Int):=uh;have ei:(i:Int)+1=((i+1:Nat):Int):=rfl;have M:((i+1:Nat):Int)<5:=uh;have E:Uf J ⟨bk,i+1,aa⟩ (N S (y+x/67108864:Nat))=_:=YN (f:=uv) k (i:=i+1) uh (y+x/67108864) rfl;simp -implicitDefEqProofs only[go_sem,m,q,H,ei,M,ao,a0,j,C,B,E];refine⟨⟨m,i+1,Ye,rfl,?_⟩,?_⟩
   .rw[e,set_set,A,set_set,Jy,v];rfl
   .simp only[vi,Zu,↓reduceIte,q];omega
  .have u:¬(i:Int)<4:=uh;rw[if_neg h4]at v;simp -implicitDefEqProofs only[go_sem,m,q,H,ao,a0,g1,D,I,r,u];refine VS.z (bk+1) [9] (.p 0 (.p 1 (.p 2 (.q 3 (.p 4 (.p 5 (.p 6 (.p 7 (.p 8 (.w 9 .nil)))))))))) mixed zI ?_;have j:=Yk k (i:=0) uh;unfold uv at j;have L:=K.getD uh 0;let⟨y,b⟩:=ZO (z.getD 0 0);rw[<-b]at j L v;have e5:(5:Int)*((x/67108864:Nat):Int)=((5*(x/67108864):Nat):Int):=uh;have e6:((5*(x/67108864):Nat):Int)%18446744073709551616=((5*(x/67108864):Nat):Int):=uh;have C:(y:Int)+((5*(x/67108864):Nat):Int)=((y+5*(x/67108864):Nat):Int):=uh;have B:((y+5*(x/67108864):Nat):Int)%18446744073709551616=((y+5*(x/67108864):Nat):Int):=uh;have E:Uf J ⟨bk,0,aa⟩ (N S (y+5*(x/67108864):Nat))=_:=YN (f:=uv) k (i:=0) uh (y+5*(x/67108864)) rfl;simp -implicitDefEqProofs only[go_sem,m,q,H,ao,a0,j,C,B,e5,e6,E];refine⟨⟨m,i+1,Ye,rfl,?_⟩,?_⟩
   .rw[e,set_set,A,set_set,Jy,v];rfl
   .simp only[vi,Zu,↓reduceIte,q];omega
 .have XX:¬(i:Int)<5:=uh;obtain rfl:i=5:=uh;let⟨a,P⟩:=ZO (Ui l 5);rw[<-P]at d hw s n ⊢;let⟨G,A⟩:=ZO (U h bk (Xb a));rw[<-A]at d ⊢;have Z:=Yk d (i:=0) uh;have g1:=Yk d (i:=1) uh;have y0:=hw.getD uh 0;have y1:=hw.getD uh 1;unfold uv at Z g1;let⟨x,c⟩:=ZO (a.getD 0 0);let⟨y,b⟩:=ZO (a.getD 1 0);rw[<-c]at Z y0;rw[<-b]at g1 y1;have D:=rH x;have I:=Nt x uh;have C:(y:Int)+((x/67108864:Nat):Int)=((y+x/67108864:Nat):Int):=uh;have B:((y+x/67108864:Nat):Int)%18446744073709551616=((y+x/67108864:Nat):Int):=uh;have c5:((5:Nat):Int)=5:=rfl;rw[c5]at q XX;simp -implicitDefEqProofs only[go_sem,m,q,XX];refine VS.z (bk+1) [12] (.p 0 (.p 1 (.p 2 (.q 3 (.p 4 (.p 5 (.p 6 (.q 7 (.p 8 (.p 9 (.p 10 (.p 11 (.w 12 .nil))))))))))))) mixed zI ?_;have r:Uf G ⟨bk,1,aa⟩ (N S (y+x/67108864:Nat))=_:=YN (f:=uv) d (i:=1) uh (y+x/67108864) rfl;have k:=YB (o:=R ((a.set 1 (y+x/67108864)).map uv++[]).toArray 221) d;have t:(a.set 1 (y+x/67108864)).length=5:=by rw[a4,n]
  let⟨z,p⟩:=ZO (a.set 1 (y+x/67108864));rw[<-p]at k t r;let⟨J,e⟩:=ZO (U G bk (R (z.map uv++[]).toArray 221));rw[<-e]at k r;have j:=Yk k (i:=0) uh;unfold uv at j;have V:z.getD 0 0=x:=by rw[p,KM HE,<-c]
  rw[V]at j;simp -implicitDefEqProofs only[go_sem,m,a0,Z,g1,D,C,B,r];refine VS.z (bk+1) [7] (.p 0 (.p 1 (.p 2 (.q 3 (.p 4 (.p 5 (.p 6 (.w 7 .nil)))))))) mixed zI ?_;have E:Uf J ⟨bk,0,aa⟩ (N S (x%67108864:Nat))=_:=YN (f:=uv) k (i:=0) uh (x%67108864) rfl;simp -implicitDefEqProofs only[go_sem,m,a0,j,I,E]
  grind [Xb]
theorem getD_set_ne{j x:Nat}(h:i≠j):(l.set i x).getD j 0=l.getD j 0:=by
 grind
def H16:Nat:=256 ^ 16
def OQ:Nat:=4*256 ^ 16-5
def Xr:List Nat->Nat
 | []=>0
 | x :: l=>x+67108864*Xr l
theorem aZ:OQ=1361129467683753853853498429727072845819:=rfl
theorem mP{a b c d e:Nat}:∃q k j h g f:Nat,Ui [a,b,c,d,e] 5=[k,j,h,g,f]/\Xr [a,b,c,d,e]=Xr [k,j,h,g,f]+OQ*q/\j<67108864/\h<67108864/\g<67108864/\f<67108864/\k<=67108863+5*q/\q<=(e+(d+(c+(b+a/67108864)/67108864)/67108864)/67108864)/67108864:=by
 refine⟨(e+(d+(c+(b+a/67108864)/67108864)/67108864)/67108864)/67108864,a%67108864+5*((e+(d+(c+(b+a/67108864)/67108864)/67108864)/67108864)/67108864),(b+a/67108864)%67108864,(c+(b+a/67108864)/67108864)%67108864,(d+(c+(b+a/67108864)/67108864)/67108864)%67108864,(e+(d+(c+(b+a/67108864)/67108864)/67108864)/67108864)%67108864,?_,?_,bA _ HE,bA _ HE,bA _ HE,bA _ HE,uh,aF _⟩
 .rfl
 .simp only[Xr,aZ];omega
theorem Lu(h:(Q l)=5):∃a b c d e,l=[a,b,c,d,e]:=by
 match l,h with
 | [a,b,c,d,e],_=>grind
def Js(l:List Nat):List Nat:=((Ui l 5).set 1 ((Ui l 5).getD 1 0+(Ui l 5).getD 0 0/67108864)).set 0 ((Ui l 5).getD 0 0%67108864)
theorem Y0.Lu{K a b c d e:Nat}(j:a<K)(hb:b<K)(hc:c<K)(h:d<K)(g:e<K):Y0 K [a,b,c,d,e]:=by
 intro x f
 grind
theorem Y0.Zgr{K a b c d e:Nat}(w:Y0 K [a,b,c,d,e]):a<K/\b<K/\c<K/\d<K/\e<K:=
 ⟨w a zX,w b zX,w c zX,w d zX,w e zX⟩
theorem Mp(n:(Q l)=5)(w:Y0 (2 ^ 61) l):(Js l).length=5/\Y0 134217728 (Js l)/\Xr (Js l)%OQ=Xr l%OQ/\Xr (Js l)<4*H16+2 ^ 44:=by
 obtain⟨a,b,c,d,e,rfl⟩:=Lu n;let⟨r,wb,p,wd,o⟩:=w.Zgr;let⟨q,f,k,j,h,g,hc,s,y,x,v,u,z,t⟩:=@mP a b c d e;have hL:Js [a,b,c,d,e]=[f%67108864,k+f/67108864,j,h,g]:=by unfold Js;rw[hc];rfl
 have m:q<2 ^ 36:=uh;have hr:f/67108864<8192:=uh;have aC:Xr [f%67108864,k+f/67108864,j,h,g]=Xr [f,k,j,h,g]:=by simp only[Xr];omega
 rw[hL]
 grind [Xr,H16,Y0.Lu,a5]
def OJ(a b:Nat)(out:List Nat)(i k:Nat):List Nat:=if i+k<5 then out.set (i+k) (out.getD (i+k) 0+a*b) else out.set (i+k-5) (out.getD (i+k-5) 0+5*a*b)
def Nu(a:Nat)(bs out:List Nat)(i:Nat):Nat->List Nat
 | 0=>out
 | k+1=>OJ a (bs.getD k 0) (Nu a bs out i k) i k
def Tu(xs bs:List Nat):Nat->List Nat
 | 0=>[0,0,0,0,0]
 | i+1=>Nu (xs.getD i 0) bs (Tu xs bs i) i 5
theorem be(a b:Nat)(out:List Nat)(i k:Nat):(OJ a b out i k).length=(Q out):=by unfold OJ;grind
theorem S5(a:Nat)(bs out:List Nat)(i:Nat):∀k,(Nu a bs out i k).length=(Q out)
 | 0=>rfl
 | k+1=>by rw[Nu,be,S5 a bs out i k]
theorem S6(xs bs:List Nat):∀i,(Tu xs bs i).length=5
 | 0=>rfl
 | i+1=>by rw[Tu,S5,S6 xs bs i]
theorem IZ{a b:Nat}(c:a<268435456)(hb:b<67108864):a*b<18014398509481984:=
 Nat.lt_of_le_of_lt (Nat.mul_le_mul (bK (show a<268435455+1 from c)) (bK (show b<67108863+1 from hb))) HE
theorem ED{a b:Nat}(c:a<268435456)(hb:b<67108864):5*a*b<90071992547409920:=by
 have:=IZ c hb
 grind
theorem ZbV{K a b:Nat}{out:List Nat}{k:Nat}(w:Y0 K out)(hK:0<K)(c:a<268435456)(hb:b<67108864):Y0 (K+90071992547409920) (OJ a b out i k):=by
 have g:=IZ c hb;have f:=ED c hb;have e:=w.getD hK (i+k);have d:=w.getD hK (i+k-5)
 grind [OJ,Y0.set,Y0.mono]
theorem bi{K a:Nat}{bs out:List Nat}(w:Y0 K out)(hK:0<K)(b:a<268435456)(hb:Y0 67108864 bs):∀k,Y0 (K+k*90071992547409920) (Nu a bs out i k)
 | 0=>by rw[bG];exact w
 | k+1=>by
  rw[Nu,Nat.add_mul,Nat.one_mul,<-bn];exact ZbV (bi w hK b hb k) uh b (hb.getD uh k)
theorem bj{xs bs:List Nat}(a:Y0 268435456 xs)(hb:Y0 67108864 bs):∀i,Y0 (1+i*450359962737049600) (Tu xs bs i)
 | 0=>Y0.Lu uh uh uh uh uh
 | i+1=>by
  rw[Tu];exact (bi (bj a hb i) uh (a.getD uh i) hb 5).mono uh
theorem I3:∀{l:List Nat} {i x:Nat},i<(Q l)->Xr (l.set i (l.getD i 0+x))=Xr l+x*67108864 ^ i
 | y :: l,0,x,_=>by grind [Xr.eq_2]
 | y :: l,i+1,x,h=>by
  simp only[List.set_cons_succ,bl,Xr];rw[I3 (l:=l) (i:=i) (x:=x) (by simpa using h),bE,<-Nat.mul_assoc];omega
theorem X5:67108864 ^ 5=OQ+5:=rfl
theorem Zo1(v a b y P:Nat):(v+5*a*b*y)%P=(v+a*b*(y*(P+5)))%P:=by
 have e:a*b*(y*(P+5))=5*a*b*y+P*(a*b*y):=by
  rw[bS,bS,Nat.add_comm]
  congr 1
  .grind
  .grind
 rw[e,<-bn,a5]
theorem vU{a b:Nat}{out:List Nat}{k:Nat}(d:(Q out)=5)(hi:i<5)(e:k<5):Xr (OJ a b out i k)%OQ=(Xr out+a*b*67108864 ^ (i+k))%OQ:=by
 unfold OJ;split
 .rename_i h;rw[I3 uh]
 .rename_i h;rw[I3 uh];obtain⟨j,c⟩:∃j,i+k=j+5:=⟨i+k-5,uh⟩
  rw[c,a7,Nat.pow_add,X5];exact Zo1 _ _ _ _ _
def pvn(bs:List Nat):Nat->Nat
 | 0=>0
 | k+1=>pvn bs k+bs.getD k 0*67108864 ^ k
theorem fU{bs:List Nat}(h:(Q bs)=5):pvn bs 5=Xr bs:=by
 grind [pvn,Xr,Lu]
theorem fV{a:Nat}{bs out:List Nat}(b:(Q out)=5)(hi:i<5):∀k,k<=5->Xr (Nu a bs out i k)%OQ=(Xr out+a*67108864 ^ i*pvn bs k)%OQ
 | 0,_=>by rw[Nu,pvn,Nat.mul_zero,Nat.add_zero]
 | k+1,hk=>by
  rw[Nu,vU (by rw[S5,b]) hi uh,bg,fV b hi k uh,<-bg,pvn,bS,<-bn,Nat.pow_add]
  grind
theorem fW{xs bs:List Nat}(hb:(Q bs)=5):∀i,i<=5->Xr (Tu xs bs i)%OQ=(pvn xs i*Xr bs)%OQ
 | 0,_=>by rw[pvn,bG];rfl
 | i+1,hi=>by
  rw[Tu,fV (S6 xs bs i) uh 5 uh,bg,fW hb i uh,<-bg,fU hb,pvn,Nat.add_mul]
theorem BT{xs bs:List Nat}(b:(Q xs)=5)(hb:(Q bs)=5)(a:Y0 268435456 xs)(wb:Y0 67108864 bs):
  Y0 (2 ^ 61) (Tu xs bs 5)/\(Tu xs bs 5).length=5/\Xr (Tu xs bs 5)%OQ=Xr xs*Xr bs%OQ:=
 ⟨(bj a wb 5).mono HE,S6 xs bs 5,by rw[fW hb 5 uh,fU b]⟩
def MK(m:List Nat):Nat->List Nat
 | 0=>m.set 0 (m.getD 0 0+5)
 | i+1=>((MK m i).set (i+1) ((MK m i).getD (i+1) 0+(MK m i).getD i 0/67108864)).set i ((MK m i).getD i 0%67108864)
theorem EE(m:List Nat):∀i,(MK m i).length=(Q m)
 | 0=>by simp[MK]
 | i+1=>by rw[MK,a4,a4,EE m i]
theorem ZbW{m:List Nat}(w:Y0 134217728 m):∀i,i<=10->Y0 (134217728+6+i*8) (MK m i)
 | 0,_=>(w.mono uh).set _ _ (by have:=w.getD uh 0;omega)
 | i+1,hi=>by
  have h:=ZbW w i uh;have b:=h.getD uh (i+1);have a:=h.getD uh i
  grind [MK.eq_2,Y0.set,Y0.mono]
def Nv(m:List Nat):List Nat:=if (MK m 4).getD 4 0/67108864=0 then m else (MK m 4).set 4 ((MK m 4).getD 4 0%67108864)
theorem vV{m:List Nat}(r:(Q m)=5)(w:Y0 134217728 m)(B:Xr m<4*H16+2 ^ 44):(Nv m).length=5/\Y0 134217728 (Nv m)/\Xr (Nv m)=Xr m%OQ:=by
 obtain⟨a,b,c,d,e,rfl⟩:=Lu r;let⟨z,wb,y,wd,x⟩:=w.Zgr;obtain⟨t0,q⟩:∃t,t=a+5:=⟨_,rfl⟩
 obtain⟨j,p⟩:∃t,t=b+t0/67108864:=⟨_,rfl⟩
 obtain⟨h,o⟩:∃t,t=c+j/67108864:=⟨_,rfl⟩
 obtain⟨g,n⟩:∃t,t=d+h/67108864:=⟨_,rfl⟩
 obtain⟨f,k⟩:∃t,t=e+g/67108864:=⟨_,rfl⟩
 have s:MK [a,b,c,d,e] 4=[t0%67108864,j%67108864,h%67108864,g%67108864,f]:=by rw[k,n,o,p,q];rfl
 have u:Nv [a,b,c,d,e]=if f/67108864=0 then [a,b,c,d,e] else [t0%67108864,j%67108864,h%67108864,g%67108864,f%67108864]:=by unfold Nv;rw[s];rfl
 have v:H16=340282366920938463463374607431768211456:=rfl;rw[u];have C:Xr [a,b,c,d,e]+5=Xr [t0%67108864,j%67108864,h%67108864,g%67108864,f]:=by simp only[Xr];omega
 have A:Xr [t0%67108864,j%67108864,h%67108864,g%67108864,f]=Xr [t0%67108864,j%67108864,h%67108864,g%67108864,f%67108864]+(OQ+5)*(f/67108864):=by rw[aZ];simp only[Xr];omega
 grind [Xr,aZ,Y0.Lu,a5]
theorem fX(h:Hp)(bk:Nat)(l:List Nat)(c:(Q l)=5)(w:Y0 (2 ^ 61) l)(hb:h[bk]? = W (Xb l)):
  Zg aL T 144 #[ae (W ⟨bk,0,aa⟩)] h fun b h'=>h'=U h bk (Xb (Js l)):=
 (mO T h bk l c w hb).mono fun b h' ⟨a,d,hh⟩=>by subst d;exact hh
theorem bm(hi:i<(Q l)):nth (l.map uv) i=W (N S (l.getD i 0:Nat)):=by
 grind [uv,X2]
theorem Nw{g:Hp}{b:Nat}(c:(Q l)=5)(a:g[b]? = W (Xb l)):rd g ⟨b,0,aa⟩ 5=W (l.map uv):=by
 unfold Xb at a
 grind [ZB]
theorem fY(h:Hp)(xs bs:List Nat)(ha:(Q xs)=5)(hb:(Q bs)=5)(P:Y0 268435456 xs)(wb:Y0 67108864 bs):
  Zg aL T 129 #[al (xs.map uv).toArray,al (bs.map uv).toArray] h fun v' h'=>v'=al ((Js (Tu xs bs 5)).map uv).toArray/\Zm h.size h h':=by
 have la:(xs.map uv).length=5:=by simpa using ha
 have lb:(bs.map uv).length=5:=by simpa using hb
 have ta:(xs.map uv).take 5=xs.map uv:=a3 uh;refine Zg.X8 [_,_] Tryz.func129 ?_;simp -implicitDefEqProofs only[go_sem,la,lb,ta];let⟨H,s⟩:=ZO (((((h.push (R (xs.map uv).toArray 221)).push (R (bs.map uv).toArray 221)).push (R #[N S 0,N S 0,N S 0,N S 0,N S 0] 221)).push (R #[N S 0,N S 0,N S 0,N S 0,N S 0] 221)):Hp);have HB:Zm h.size h H:=by rw[s];exact (((Zm.push (aF _) _).Xj zX _).Xj Fo _).Xj Fo _
 have Hs:H.size=h.size+1+1+1+1:=by rw[s];simp
 have H1:H[h.size+1]? = W (Xb bs):=by
  rw[s,ZX zX,ZX zX];have:=Zf (h:=h.push (R (xs.map uv).toArray 221)) (o:=R (bs.map uv).toArray 221);rw[am]at this;rw[this];unfold Xb;rw[aS]
 have L:H[h.size+1+1+1]? = W (Xb (Tu xs bs 0)):=by
  have:=Zf (h:=(((h.push (R (xs.map uv).toArray 221)).push (R (bs.map uv).toArray 221)).push (R #[N S 0,N S 0,N S 0,N S 0,N S 0] 221))) (o:=R #[N S 0,N S 0,N S 0,N S 0,N S 0] 221);rw[am,am,am]at this;rw[s,this];rfl
 have H2:H[h.size+1+1]? = W (Xb [0,0,0,0,0]):=by
  have:=Zf (h:=((h.push (R (xs.map uv).toArray 221)).push (R (bs.map uv).toArray 221))) (o:=R #[N S 0,N S 0,N S 0,N S 0,N S 0] 221);rw[am,am]at this;rw[s,ZX zX,this];rfl
 rw[<-s];clear s;let⟨c,b1⟩:=ZO (h.size+1+1+1);let⟨A,b0⟩:=ZO (h.size+1+1);let⟨bb,Sb⟩:=ZO (h.size+1);rw[<-b1]at L ⊢;rw[<-b0]at H2 ⊢;rw[<-Sb]at H1 ⊢;refine VS.YC (fun F g=>F 3=ae (W ⟨bb,0,aa⟩)/\F 4=ae (W ⟨A,0,aa⟩)/\F 5=ae (W ⟨c,0,aa⟩)/\F 10=al (xs.map uv).toArray/\∃i:Nat,i<=5/\F 11=N O i/\g=U H c (Xb (Tu xs bs i)))
  (fun F _=>5-(vi (F 11)).toNat) rfl ⟨rfl,rfl,rfl,rfl,0,uh,rfl,(VI L).symm⟩ ?_
 rintro F g ⟨j,e,d,f10,i,hi,f11,rfl⟩;by_cases Ye:i<5
 .have Yh:(i:Int)<5:=uh;have n1:=bm (l:=xs) (i:=i) uh;have b5:(U H c (Xb (Tu xs bs i)))[bb]? = W (Xb bs):=by rw[X,if_neg uh];exact H1
  have r1:=Nw hb b5;have E:=P.getD uh i;have u:Tu xs bs (i+1)=Nu (xs.getD i 0) bs (Tu xs bs i) i 5:=rfl;let⟨a,b2⟩:=ZO (xs.getD i 0);rw[<-b2]at n1 E u;simp -implicitDefEqProofs only[go_sem,j,e,d,f10,f11,Yh,ao,n1,r1];have wO:Y0 (1+i*450359962737049600) (Tu xs bs i):=bj P wb i;have lO:=S6 xs bs i;let⟨o,ho⟩:=ZO (Tu xs bs i);rw[<-ho]at u wO lO ⊢;refine VS.YC (fun F g=>F 3=ae (W ⟨bb,0,aa⟩)/\F 4=ae (W ⟨A,0,aa⟩)/\F 5=ae (W ⟨c,0,aa⟩)/\F 10=al (xs.map uv).toArray/\F 11=N O i/\F 6=N O i/\F 7=N S a/\F 15=al (bs.map uv).toArray/\∃k:Nat,k<=5/\F 16=N O k/\g=U H c (Xb (Nu a bs o i k)))
   (fun F _=>5-(vi (F 16)).toNat) rfl ⟨j,e,d,f10,f11,rfl,rfl,rfl,0,uh,rfl,rfl⟩ ?_
  clear j e d f10 f11 F;rintro F g ⟨j,e,d,f10,f11,K,J,f15,k,hk,f16,rfl⟩;by_cases v:k<5
  .have B:(k:Int)<5:=uh;have n2:=bm (l:=bs) (i:=k) uh;have Z:=wb.getD uh k;have n:Nu a bs o i (k+1)=OJ a (bs.getD k 0) (Nu a bs o i k) i k:=rfl;let⟨b,aW⟩:=ZO (bs.getD k 0);rw[<-aW]at n2 Z n;have V:=bi wO uh E wb (i:=i) k;have lR:(Nu a bs o i k).length=5:=by rw[S5,lO]
   have m:(U H c (Xb (Nu a bs o i k)))[c]? = W (Xb (Nu a bs o i k)):=YB L;have hp:=IZ E Z;have a1:=ED E Z;let⟨r,hr⟩:=ZO (Nu a bs o i k);rw[<-hr]at n V lR m ⊢;let⟨G,hG⟩:=ZO (U H c (Xb r));rw[<-hG]at m ⊢;have w:(i:Int)+(k:Int)=((i+k:Nat):Int):=rfl;by_cases h5:i+k<5
   .have t:((i+k:Nat):Int)<5:=uh;have g1:=Yk m (i:=i+k) uh;have M:=V.getD uh (i+k);unfold uv at g1;have hs:OJ a b r i k=r.set (i+k) (r.getD (i+k) 0+a*b):=by unfold OJ;rw[if_pos h5]
    rw[hs]at n;let⟨y,hy⟩:=ZO (r.getD (i+k) 0);rw[<-hy]at g1 M n;have z:(a:Int)*(b:Int)=((a*b:Nat):Int):=(bT a b).symm;have x:((a*b:Nat):Int)%18446744073709551616=((a*b:Nat):Int):=uh;let⟨p,q⟩:=ZO (a*b);rw[<-q]at z x hp n;have e3:(y:Int)+(p:Int)=((y+p:Nat):Int):=rfl;have e4:((y+p:Nat):Int)%18446744073709551616=((y+p:Nat):Int):=uh;have c1:Uf G ⟨c,i+k,aa⟩ (N S (y+p:Nat))=_:=YN (f:=uv) m (i:=i+k) uh (y+p) rfl;simp -implicitDefEqProofs only[go_sem,j,e,d,K,J,f10,f11,f15,f16,B,ao,n2,w,t,g1,z,x,e3,e4,c1];refine⟨⟨j,e,d,f10,f11,K,J,f15,k+1,v,rfl,?_⟩,?_⟩
    .rw[hG,set_set,n];rfl
    .simp only[vi,Zu,↓reduceIte,f16];omega
   .have t:¬((i+k:Nat):Int)<5:=uh;have g1:=Yk m (i:=i+k-5) uh;have M:=V.getD uh (i+k-5);unfold uv at g1;have hs:OJ a b r i k=r.set (i+k-5) (r.getD (i+k-5) 0+5*a*b):=by unfold OJ;rw[if_neg h5]
    rw[hs]at n;let⟨y,hy⟩:=ZO (r.getD (i+k-5) 0);rw[<-hy]at g1 M n;have e0:(5:Int)*(a:Int)=((5*a:Nat):Int):=rfl;have b3:((5*a:Nat):Int)%18446744073709551616=((5*a:Nat):Int):=uh;have z:((5*a:Nat):Int)*(b:Int)=((5*a*b:Nat):Int):=(bT (5*a) b).symm;have x:((5*a*b:Nat):Int)%18446744073709551616=((5*a*b:Nat):Int):=uh;let⟨p,q⟩:=ZO (5*a*b);rw[<-q]at z x a1 n;have e3:(y:Int)+(p:Int)=((y+p:Nat):Int):=rfl;have e4:((y+p:Nat):Int)%18446744073709551616=((y+p:Nat):Int):=uh;have e5:((i+k:Nat):Int)-5=((i+k-5:Nat):Int):=uh;have e6:((i+k-5:Nat):Int)<5:=uh;have c1:Uf G ⟨c,i+k-5,aa⟩ (N S (y+p:Nat))=_:=YN (f:=uv) m (i:=i+k-5) uh (y+p) rfl;simp -implicitDefEqProofs only[go_sem,j,e,d,K,J,f10,f11,f15,f16,B,ao,n2,w,t,g1,e0,b3,z,x,e3,e4,e5,e6,c1];refine⟨⟨j,e,d,f10,f11,K,J,f15,k+1,v,rfl,?_⟩,?_⟩
    .rw[hG,set_set,n];rfl
    .simp only[vi,Zu,↓reduceIte,f16];omega
  .have C:¬(k:Int)<5:=uh;obtain rfl:k=5:=uh;have c5:((5:Nat):Int)=5:=rfl;rw[c5]at f16 C;simp -implicitDefEqProofs only[go_sem,j,e,d,f10,f11,f16,C];refine⟨⟨j,e,d,f10,i+1,Ye,rfl,?_⟩,?_⟩
   .rw[u]
   .simp only[vi,Zu,↓reduceIte,f11];omega
 .have C:¬(i:Int)<5:=uh;obtain rfl:i=5:=uh;have c5:((5:Nat):Int)=5:=rfl;rw[c5]at f11 C;have m:(U H c (Xb (Tu xs bs 5)))[c]? = W (Xb (Tu xs bs 5)):=YB L;have LU:(U H c (Xb (Tu xs bs 5)))[A]? = W (Xb [0,0,0,0,0]):=by rw[X,if_neg uh];exact H2
  have D:Zm h.size h (U H c (Xb (Tu xs bs 5))):=HB.ZA uh _;let⟨w1,w2,w3⟩:=BT ha hb P wb;let⟨o,ho⟩:=ZO (Tu xs bs 5);rw[<-ho]at m LU D w1 w2 ⊢;generalize U H c (Xb o)=G at *;simp -implicitDefEqProofs only[go_sem,j,e,d,f10,f11,C];refine (fX T G c o w2 w1 m).use ?_;rintro _ _ rfl;let⟨m1,m2,m3⟩:=Mp w2 w1;have rI:(U G c (Xb (Js o)))[c]? = W (Xb (Js o)):=YB m;have I:(U G c (Xb (Js o)))[A]? = W (Xb [0,0,0,0,0]):=by rw[X,if_neg uh];exact LU
  have b4:Zm h.size h (U G c (Xb (Js o))):=D.ZA uh _;generalize U G c (Xb (Js o))=G2 at *;have r3:=Nw m1 rI;have lc:((Js o).map uv).length=5:=by simpa using m1
  have w4:=Yr (h:=G2) (b:=A) (l:=([0,0,0,0,0].map uv)) (by unfold Xb at I;rw[aS]at I;exact I) 0 ((Js o).map uv);have a2:((Js o).map uv).all YV=true:=by simp[uv,YV]
  rw[if_pos ⟨by simp[lc],a2⟩,Yf (by simp[lc])]at w4;have tc:((Js o).map uv).take 5=(Js o).map uv:=a3 uh;have aV:=Zb I;simp -implicitDefEqProofs only[go_sem,j,e,d,r3,w4,lc,tc,aV];exact b4.ZA uh _
theorem fZ(h:Hp)(xs:List Nat)(ha:(Q xs)=5)(wa:Y0 268435456 xs):
  Zg aL T 130 #[al (xs.map uv).toArray] h fun v' h'=>v'=al ((Nv (Js xs)).map uv).toArray/\Zm h.size h h':=by
 have la:(xs.map uv).length=5:=by simpa using ha
 refine Zg.X8 [_] Tryz.func130 ?_;simp -implicitDefEqProofs only[go_sem,la];let⟨H,x⟩:=ZO (((h.push (R (xs.map uv).toArray 221)).push (R #[N S 0,N S 0,N S 0,N S 0,N S 0] 221)):Hp);have HB:Zm h.size h H:=by rw[x];exact ((Zm.push (aF _) _).Xj zX _)
 have Hs:H.size=h.size+1+1:=by rw[x];simp
 have H0:H[h.size]? = W (Xb xs):=by
  rw[x,ZX zX,Zf];unfold Xb;rw[aS]
 have H1:H[h.size+1]? = W (Xb [0,0,0,0,0]):=by
  have:=Zf (h:=(h.push (R (xs.map uv).toArray 221))) (o:=R #[N S 0,N S 0,N S 0,N S 0,N S 0] 221);rw[am]at this;rw[x,this];rfl
 rw[<-x];clear x;refine (fX T H h.size xs ha (wa.mono HE) H0).use ?_;rintro _ _ rfl;let⟨u,m2,m3,m4⟩:=Mp ha (wa.mono HE);have LW:(U H h.size (Xb (Js xs)))[h.size]? = W (Xb (Js xs)):=YB H0;have WH:(U H h.size (Xb (Js xs)))[h.size+1]? = W (Xb [0,0,0,0,0]):=by rw[X,if_neg uh];exact H1
 have a1:Zm h.size h (U H h.size (Xb (Js xs))):=HB.ZA (aF _) _;have s:(U H h.size (Xb (Js xs))).size=h.size+1+1:=by rw[ax];exact Hs
 let⟨m,hm⟩:=ZO (Js xs);rw[<-hm]at LW WH a1 s u m2 m3 m4 ⊢;generalize U H h.size (Xb m)=G at *;have r0:=Nw u LW;have D:(m.map uv).length=5:=by simpa using u
 have K:(m.map uv).all YV=true:=by simp[uv,YV]
 have lp:XB [Value.int S 0,N S 0,N S 0,N S 0,N S 0] 0 (m.map uv)=m.map uv:=Yf D;have n0:=bm (l:=m) (i:=0) uh;have y0:=m2.getD uh 0;have I:MK m 0=m.set 0 (m.getD 0 0+5):=rfl;let⟨y,hy⟩:=ZO (m.getD 0 0);rw[<-hy]at n0 y0 I;have e1:(y:Int)+5=((y+5:Nat):Int):=rfl;have e2:((y+5:Nat):Int)%18446744073709551616=((y+5:Nat):Int):=uh;simp -implicitDefEqProofs only[go_sem,r0,D,K,s,lp,n0,e1,e2];have aV:(m.map uv).set 0 (N S (y+5:Nat))=(m.set 0 (y+5)).map uv:=by rw[List.map_set];rfl
 rw[aV,<-I];let⟨J,w⟩:=ZO (G.push (R ((MK m 0).map uv).toArray 221));have J3:J[h.size+1+1]? = W (Xb (MK m 0)):=by
  rw[w,<-s,Zf];unfold Xb;rw[aS]
 have J0:J[h.size]? = W (Xb m):=by rw[w,ZX uh];exact LW
 have J1:J[h.size+1]? = W (Xb [0,0,0,0,0]):=by rw[w,ZX uh];exact WH
 have JB:Zm h.size h J:=by rw[w];exact a1.Xj uh _
 rw[<-w];clear w;obtain⟨c,b0⟩:∃b,b=h.size+1+1:=⟨_,rfl⟩
 obtain⟨P,Fv⟩:∃b,b=h.size+1:=⟨_,rfl⟩
 rw[<-b0]at J3 ⊢;rw[<-Fv]at J1 ⊢;refine VS.YC (fun F g=>F 1=ae (W ⟨h.size,0,aa⟩)/\F 2=ae (W ⟨P,0,aa⟩)/\F 3=ae (W ⟨c,0,aa⟩)/\∃i:Nat,i<=4/\F 11=N O i/\g=U J c (Xb (MK m i)))
  (fun F _=>4-(vi (F 11)).toNat) rfl ⟨rfl,rfl,rfl,0,uh,rfl,(VI J3).symm⟩ ?_
 rintro F g ⟨f1,f2,M,i,hi,f11,rfl⟩;have j:(U J c (Xb (MK m i)))[c]? = W (Xb (MK m i)):=YB J3;have A:=ZbW m2 i uh;have lY:(MK m i).length=5:=by rw[EE,u]
 by_cases Ye:i<4
 .have Yh:(i:Int)<4:=uh;have V:MK m (i+1)=((MK m i).set (i+1) ((MK m i).getD (i+1) 0+(MK m i).getD i 0/67108864)).set i ((MK m i).getD i 0%67108864):=rfl;let⟨r,hr⟩:=ZO (MK m i);rw[<-hr]at j A lY V ⊢;let⟨p,L⟩:=ZO (U J c (Xb r));rw[<-L]at j ⊢;have g1:=Yk j (i:=i+1) uh;have g0:=Yk j (i:=i) uh;have q1:=A.getD uh (i+1);have q0:=A.getD uh i;unfold uv at g0 g1;let⟨a,n⟩:=ZO (r.getD i 0);let⟨b,aW⟩:=ZO (r.getD (i+1) 0);rw[<-n]at g0 q0 V;rw[<-aW]at g1 q1 V;have s1:=rH a;have s2:=Nt a uh;have t1:(b:Int)+((a/67108864:Nat):Int)=((b+a/67108864:Nat):Int):=rfl;have t2:((b+a/67108864:Nat):Int)%18446744073709551616=((b+a/67108864:Nat):Int):=uh;have ei:(i:Int)+1=((i+1:Nat):Int):=rfl;have ga:((i+1:Nat):Int)<5:=uh;have b4:(i:Int)<5:=uh;have z:Uf p ⟨c,i+1,aa⟩ (N S (b+a/67108864:Nat))=_:=YN (f:=uv) j (i:=i+1) uh (b+a/67108864) rfl;have d:=YB (o:=R ((r.set (i+1) (b+a/67108864)).map uv++[]).toArray 221) j;have E:(r.set (i+1) (b+a/67108864)).length=5:=by rw[a4,lY]
  have v1:(r.set (i+1) (b+a/67108864)).getD i 0=a:=by rw[KM uh,<-n]
  let⟨e,LX⟩:=ZO (r.set (i+1) (b+a/67108864));rw[<-LX]at z d E v1 V;let⟨G2,vA⟩:=ZO (U p c (R (e.map uv++[]).toArray 221));rw[<-vA]at z d;have g2:=Yk d (i:=i) uh;unfold uv at g2;rw[v1]at g2;have c2:Uf G2 ⟨c,i,aa⟩ (N S (a%67108864:Nat))=_:=YN (f:=uv) d (i:=i) uh (a%67108864) rfl;simp -implicitDefEqProofs only[go_sem,f1,f2,M,f11,Yh];refine VS.z (c+1) [10] (.p 0 (.p 1 (.p 2 (.q 3 (.p 4 (.p 5 (.q 6 (.p 7 (.p 8 (.p 9 (.w 10 .nil))))))))))) mixed zI ?_;simp -implicitDefEqProofs only[go_sem,f1,f2,M,f11,ei,ga,b4,ao,a0,g0,g1,s1,t1,t2,z,g2,s2,c2];refine⟨⟨f1,f2,M,i+1,Ye,rfl,?_⟩,?_⟩
  .rw[vA,set_set,L,set_set,V];rfl
  .simp only[vi,Zu,↓reduceIte,f11];omega
 .have XX:¬(i:Int)<4:=uh;obtain rfl:i=4:=uh;have c4:((4:Nat):Int)=4:=rfl;rw[c4]at f11 XX;have v:Nv m=if (MK m 4).getD 4 0/67108864=0 then m else (MK m 4).set 4 ((MK m 4).getD 4 0%67108864):=rfl
  have vW:(U J c (Xb (MK m 4)))[h.size]? = W (Xb m):=by rw[X,if_neg uh];exact J0
  have d:(U J c (Xb (MK m 4)))[P]? = W (Xb [0,0,0,0,0]):=by rw[X,if_neg uh];exact J1
  have t:Zm h.size h (U J c (Xb (MK m 4))):=JB.ZA uh _;let⟨r,hr⟩:=ZO (MK m 4);rw[<-hr]at j A lY vW d t v ⊢;generalize U J c (Xb r)=p at *;have g4:=Yk j (i:=4) uh;have q4:=A.getD uh 4;unfold uv at g4;let⟨a,n⟩:=ZO (r.getD 4 0);rw[<-n]at g4 q4 v;have s1:=rH a;have s2:=Nt a uh;have w4:=fun (k:List Nat) (hk:(Q k)=5)=>Yr (h:=p) (b:=P) (l:=([0,0,0,0,0].map uv)) (by unfold Xb at d;rw[aS]at d;exact d) 0 (k.map uv);have b1:=Zb d;by_cases h0:a/67108864=0
  .have q:((a/67108864:Nat):Int)=0:=uh;rw[if_pos h0]at v;have B:=w4 m u;rw[if_pos ⟨by simp[D],K⟩,Yf (by simp[D])]at B;have e:=Nw u vW;have tm:(m.map uv).take 5=m.map uv:=a3 uh;simp -implicitDefEqProofs only[go_sem,f1,f2,M,f11,XX,g4,s1,q,e,B,D,tm,b1];exact⟨by rw[v],t.ZA uh _⟩
  .have q:¬((a/67108864:Nat):Int)=0:=uh;rw[if_neg h0]at v;have z:Uf p ⟨c,4,aa⟩ (N S (a%67108864:Nat))=_:=YN (f:=uv) j (i:=4) uh (a%67108864) rfl;have hz:=YB (o:=R ((r.set 4 (a%67108864)).map uv++[]).toArray 221) j;have E:(r.set 4 (a%67108864)).length=5:=by rw[a4,lY]
   have Z:Zm h.size h (U p c (R ((r.set 4 (a%67108864)).map uv++[]).toArray 221)):=t.ZA uh _;have C:(U p c (R ((r.set 4 (a%67108864)).map uv++[]).toArray 221))[P]? = W (Xb [0,0,0,0,0]):=by rw[X,if_neg uh];exact d
   rw[v];let⟨e,LX⟩:=ZO (r.set 4 (a%67108864));rw[<-LX]at z hz E Z C ⊢;generalize U p c (R (e.map uv++[]).toArray 221)=G2 at *;have r4:=Nw E hz;have lr:(e.map uv).length=5:=by simpa using E
   have a2:(e.map uv).all YV=true:=by simp[uv,YV]
   have B:=Yr (h:=G2) (b:=P) (l:=([0,0,0,0,0].map uv)) (by unfold Xb at C;rw[aS]at C;exact C) 0 (e.map uv);rw[if_pos ⟨by simp[lr],a2⟩,Yf (by simp[lr])]at B;have tm:(e.map uv).take 5=e.map uv:=a3 uh;have b5:=Zb C;simp -implicitDefEqProofs only[go_sem,f1,f2,M,f11,XX,g4,s1,s2,q,a0,z,r4,B,lr,tm,b5];exact Z.ZA uh _
def ZbX(key:List Nat)(i:Nat):Nat:=if i%4=3 then key.getD i 0%16 else if i%4=0/\0<i then key.getD i 0/4*4 else key.getD i 0
def QO(key:List Nat):List Nat:=(bV 16).map (ZbX key)
def Zo6(data:List Nat)(k:Nat):List Nat:=(data.drop (16*k)).take 16++[1]
def ZbY(r:Nat)(data:List Nat):Nat->Nat
 | 0=>0
 | k+1=>(ZbY r data k+Jb (Zo6 data k))*r%OQ
def Zgt(key data:List Nat):Nat:=ZbY (Jb (QO key)) data (((Q data)+15)/16)+Jb ((key.drop 16).take 16)
def mS(key data:List Nat):List Nat:=(bV 16).map fun i=>Zgt key data/256 ^ i%256
theorem CS(key:List Nat):(QO key).length=16:=by simp[QO]
theorem gd(key data:List Nat):(mS key data).length=16:=by simp[mS]
theorem Mq{h:Hp}{p:Option Addr}{c n:Nat}(s:Bs h (Y p n c) l){m:Nat}(e:m<=(Q l))(c':Nat):Bs h (Y p m c') (l.take m):=by
 refine⟨?_,fun x d=>s.byte x (List.mem_of_mem_take d)⟩;let⟨f,cap,a,g,hc⟩:=s.sl;simp only[Value.slice.injEq]at a;obtain⟨rfl,_,rfl⟩:=a;refine⟨_,c',by rw[List.length_take,Nat.min_eq_left e],zX,fun j=>?_⟩;obtain⟨b,o,rfl,k⟩:=hc zK
 grind [YU]
theorem ZkD{h:Hp}{p:Option Addr}{c n:Nat}(s:Bs h (Y p n c) l)(a:(Q l)=n){k m:Nat}(d:k+m<=n)(b:n<=c)(c':Nat):Bs h (Y (mw p 1 c k) m c') ((l.drop k).take m):=
 Mq (Mk s a (k:=k) (by omega) b c') (by grind) c'
def Ry(key data:List Nat):Int:=if (Q key)≠32\/4000<(Q data) then 1 else 0
def ZbZ(B:Nat)(h:Hp)(v:an)(key data:List Nat):Prop:=∃w,v=.tuple #[w,N O (Ry key data)]/\YL B 5 h w (if Ry key data=0 then mS key data else [])
def J6:List (Option IntKind):=rep 32 [W O]++rep 8 [aa]
theorem VL:∀{a:List (Option IntKind)} {vs:List an} (i:Nat) (v:an),XC a vs=true->(∀k,a[i]? = W k->WO k v=true)->XC a (vs.set i v)=true:=by
 intro a
 induction a with
 | nil=>intro vs i v h _;cases vs<;>simp[XC]at h ⊢
 | cons k a b=>
  intro vs i v h c
  cases vs with
  | nil=>grind
  | cons x vs=>
   simp only[XC,Bool.and_eq_true]at h
   cases i with
   | zero=>grind [XC.eq_2]
   | succ i=>grind [XC.eq_2]
theorem Wh(hi:i<32)(n:Int):∀k,J6[i]? = W k->WO k (N O n)=true:=by
 intro k a;have:∀i<32,J6[i]? = W (W O):=HE
 grind [WO]
theorem gh(d:32<=i)(b:Bool):∀k,J6[i]? = W k->WO k (ak b)=true:=by
 intro k a;have:∀j<8,J6[32+j]? = W aa:=HE;by_cases c:i<40
 .have:=this (i-32) uh
  grind [WO]
 .rw[bd (by show 40<=i;omega)]at a;cases a
theorem EF{g:Hp}{b:Nat}{o:Obj}(a:g[b]? = W o):U g b o=g:=by
 grind
structure Zo7 where
 cells:List an
 code:Int
 val:Int
def Q2(cs:List an)(k c n v:Nat):List an × Int:=
 if k=1 then (cs.set n (N O v),v) else if k=2 then (cs,ci cs n) else (cs.set (32+n) (ak true),0)
def JH(cs:List an)(k c s n v:Nat):Zo7:=
 if k=0 then ⟨cs,0,0⟩ else
 if (s:Int)+1=ci cs (8+c) then ⟨cs,ci cs (16+c*2),ci cs (16+c*2+1)⟩ else
 if (s:Int)<ci cs (8+c) then ⟨cs,7,0⟩ else
 if cb cs (32+c)=true then ⟨cs,11,0⟩ else
 ⟨((((Q2 cs k c n v).1.set (8+c) (N O ((s:Int)+1))).set (16+c*2) (N O 0)).set (16+c*2+1) (N O (Q2 cs k c n v).2)),0,(Q2 cs k c n v).2⟩
def H9(cs:List an)(k c s n v:Int):Int:=if XK cs=true then 5 else Xy k c s n v
def XE:List an:=rep 32 [Value.int O 0]++rep 8 [Value.bool false]
def doL(cs:List an)(k c s n v:Int):List an:=
 if H9 cs k c s n v=0 then [al (JH cs k.toNat c.toNat s.toNat n.toNat v.toNat).cells.toArray,al [N O (JH cs k.toNat c.toNat s.toNat n.toNat v.toNat).code,N O (JH cs k.toNat c.toNat s.toNat n.toNat v.toNat).val].toArray,N O 0]
  else [al (aq XE),al [N O 0,N O 0].toArray,N O (H9 cs k c s n v)]
def rK(a:an)(cs:List an)(k c s n v:Int):Prop:=a=.tuple (doL cs k c s n v).toArray
theorem JR{k c s n v:Int}(h:Xy k c s n v=0):∃k' c' b n' a:Nat,k=k'/\c=c'/\s=b/\n=n'/\v=a/\k'<=3/\c'<=7/\b<=1048576/\n'<=7/\a<=1073741824:=by
 have:0<=k/\k<=3/\0<=c/\c<=7/\0<=s/\s<=1048576/\0<=n/\n<=7/\0<=v/\v<=1073741824:=by
  unfold Xy at h
  repeat' split at h
  all_goals omega
 exact⟨k.toNat,c.toNat,s.toNat,n.toNat,v.toNat,uh,uh,uh,uh,uh,uh,uh,uh,uh,uh⟩
theorem UO{cs:List an}{j:Nat}{x:an}(h:i≠j):ci (cs.set i x) j=ci cs j:=by
 unfold ci;rw[X2,X2,List.getElem?_set_ne h]
theorem ints_set{cs:List an}{j:Nat}(a:j<(Q cs))(x:Int)(hi:∀i,i<32->nth cs i=W (N O (ci cs i))):∀i,i<32->nth (cs.set j (N O x)) i=W (N O (ci (cs.set j (N O x)) i)):=by
 grind [ci,X2]
theorem vY(cs:List an)(k c n v:Nat)(x:an)(a:n<=7)(hc:c<=7):Q2 (cs.set (8+c) x) k c n v=((Q2 cs k c n v).1.set (8+c) x,(Q2 cs k c n v).2):=by
 grind [Q2,List.set_comm,UO]
theorem gj{cs:List an}(b:XC J6 cs=true)(k c n v:Nat)(e:n<=7):XC J6 (Q2 cs k c n v).1=true:=by
 unfold Q2;by_cases a:k=1
 .rw[if_pos a];exact VL n _ b (Wh uh _)
 .rw[if_neg a];by_cases d:k=2
  .grind
  .rw[if_neg d];exact VL (32+n) _ b (gh uh _)
theorem I4{cs:List an}(a:XC J6 cs=true)(k c s n v:Nat)(b:n<=7)(hc:c<=7):XC J6 (JH cs k c s n v).cells=true:=by
 unfold JH
 repeat' split
 all_goals first|exact a|skip
 exact VL _ _ (VL _ _ (VL _ _ (gj a k c n v b) (Wh uh _)) (Wh uh _)) (Wh uh _)
theorem gk(h:Hp)(b:Nat)(cs:List an)(k c s n v:Nat)(t:(Q cs)=40)(hi:∀i,i<32->nth cs i=W (N O (ci cs i)))(r:n<=7)(u:1<=k)(q:k<=3)(d:h[b]? = W (R (aq cs) 57)):
  Zg aL T 45 #[ae (W ⟨b,0,aa⟩),al (Wg k c s n v).toArray] h fun j h'=>j=al [N O 0,N O (Q2 cs k c n v).2].toArray/\Zm h.size (U h b (R (Q2 cs k c n v).1.toArray 57)) h':=by
 refine Zg.X8 [_,_] Tryz.func45 ?_;have hb:=Zb d;have a:(n:Int)<8:=uh;unfold Wg Q2;by_cases p:k=1
 .subst p;simp +contextual -implicitDefEqProofs only[go_sem];refine VS.z (h.size+2) [8] (.p 0 (.p 1 (.q 2 (.p 3 (.q 4 (.p 5 (.p 6 (.p 7 (.w 8 .nil))))))))) mixed zI ?_;have w1:=XZ d n (N O v);rw[if_pos ⟨uh,rfl⟩]at w1;have e:nth (cs.set n (N O (v:Int))) n=W (N O v):=by rw[X2,List.getElem?_set_self uh]
  simp +contextual -implicitDefEqProofs only[go_sem,a,w1,hb];refine VS.z (h.size+2) [8] (.p 0 (.p 1 (.q 2 (.p 3 (.p 4 (.p 5 (.q 6 (.p 7 (.w 8 .nil))))))))) mixed zI ?_;simp +contextual -implicitDefEqProofs only[go_sem,a,hb,e]
  try exact ((Zm.push zX _).Xj zX _)
 .by_cases o:k=2
  .subst o;have e:=hi n uh;have g:hc h ⟨b,n,aa⟩=W (N O (ci cs n)):=by rw[Zr d];exact e
   have f:=EF d;simp +contextual -implicitDefEqProofs only[go_sem,f];refine VS.z (h.size+2) [8] (.p 0 (.p 1 (.q 2 (.p 3 (.p 4 (.p 5 (.q 6 (.p 7 (.w 8 .nil))))))))) mixed zI ?_;simp +contextual -implicitDefEqProofs only[go_sem,a,hb,g]
  .have m:k=3:=uh;subst m;have w1:=XZ d (32+n) (ak true);rw[if_pos ⟨uh,rfl⟩]at w1;simp +contextual -implicitDefEqProofs only[go_sem];refine VS.z (h.size+2) [6] (.p 0 (.p 1 (.q 2 (.p 3 (.p 4 (.p 5 (.w 6 .nil))))))) mixed zI ?_;simp +contextual -implicitDefEqProofs only[go_sem,a,w1,hb]
   try exact ((Zm.push zX _).Xj zX _)
theorem EG(h:Hp)(cs:List an)(k c s n v:Int)(hf:XC J6 cs=true)(hi:∀i,i<32->nth cs i=W (N O (ci cs i)))(hb:∀i,32<=i->i<40->nth cs i=W (ak (cb cs i))):
  Zg aL T 25 #[al (aq cs),al (Wg k c s n v).toArray] h fun v' h'=>rK v' cs k c s n v/\Zm h.size h h':=by
 have d:(Q cs)=40:=YR hf;have tk:=Ja d;have JD:=Pa hf;refine Zg.Kq [_,_] Tryz.func25 ?_;unfold Wg;simp +contextual -implicitDefEqProofs only[go_sem,d,tk];refine (vx T _ cs d hi).use ?_;rintro _ _ ⟨rfl,rfl⟩;unfold rK doL H9;by_cases e1:XK cs=true
 .simp +contextual -implicitDefEqProofs only[go_sem,e1];refine⟨rfl,?_⟩
  all_goals exact aaf
 .have e1:XK cs=false:=by simpa using e1
  simp +contextual -implicitDefEqProofs only[go_sem,e1];refine (U9 T _ k c s n v).use ?_;rintro _ _ ⟨rfl,rfl⟩;unfold Wg;by_cases y:Xy k c s n v=0
  .obtain⟨k,c,s,n,v,rfl,rfl,rfl,rfl,rfl,y1,y2,y3,y4,y5⟩:=JR y;simp only[ao];have Ri:XE=[N O 0,N O 0,N O 0,N O 0,N O 0,N O 0,N O 0,N O 0,N O 0,N O 0,N O 0,N O 0,N O 0,N O 0,N O 0,N O 0,N O 0,N O 0,N O 0,N O 0,N O 0,N O 0,N O 0,N O 0,N O 0,N O 0,N O 0,N O 0,N O 0,N O 0,N O 0,N O 0,ak false,ak false,ak false,ak false,ak false,ak false,ak false,ak false]:=rfl;let⟨H,u⟩:=ZO (((((((h.push (R (aq cs) 57)).push (R [N O k,N O c,N O s,N O n,N O v].toArray 43)).push (R [N O 0,N O 0,N O 0,N O 0,N O 0,N O 0,N O 0,N O 0,N O 0,N O 0,N O 0,N O 0,N O 0,N O 0,N O 0,N O 0,N O 0,N O 0,N O 0,N O 0,N O 0,N O 0,N O 0,N O 0,N O 0,N O 0,N O 0,N O 0,N O 0,N O 0,N O 0,N O 0,ak false,ak false,ak false,ak false,ak false,ak false,ak false,ak false].toArray 57)).push (R [N O 0,N O 0].toArray 48)).push (R (aq cs) 57)).push (R [N O k,N O c,N O s,N O n,N O v].toArray 43)):Hp);have K:H[h.size]? = W (R (aq cs) 57):=by rw[u];simp only[aw,am,aI,↓reduceIte]
   have I:H[h.size+1]? = W (R [N O k,N O c,N O s,N O n,N O v].toArray 43):=by rw[u];simp only[aw,am,aI,↓reduceIte]
   have F:H[h.size+2]? = W (R (aq XE) 57):=by rw[u,Ri];simp only[aw,am,aI,↓reduceIte]
   have E:H[h.size+3]? = W (R [N O 0,N O 0].toArray 48):=by rw[u];simp only[aw,am,aI,↓reduceIte]
   have f:H.size=h.size+6:=by rw[u];simp
   have g:Zm h.size h H:=by rw[u];all_goals exact aaf
   rw[<-u];clear u Ri;have c1:hc H ⟨h.size+1,0,aa⟩=W (N O k):=by rw[Zr I];rfl
   have Z:hc H ⟨h.size+1,1,aa⟩=W (N O c):=by rw[Zr I];rfl
   have V:hc H ⟨h.size+1,2,aa⟩=W (N O s):=by rw[Zr I];rfl
   have C:(c:Int)<8:=uh;have b2:=hi (8+c) uh;have M:hc H ⟨h.size,8+c,aa⟩=W (N O (ci cs (8+c))):=by rw[Zr K];exact b2
   have fin:∀(G:Hp) (D:List an) (a b:Int),(Q D)=40->D.all YV=true->G[h.size+2]? = W (R (aq XE) 57)->G[h.size+3]? = W (R [N O 0,N O 0].toArray 48) ->
     wr G ⟨h.size+1+1,0,aa⟩ D=W (U G (h.size+1+1) (R (aq D) 57)) /\
     wr (U G (h.size+1+1) (R (aq D) 57)) ⟨h.size+1+1+1,0,aa⟩ [N O a,N O b]=W ((U G (h.size+1+1) (R (aq D) 57)).setIfInBounds (h.size+1+1+1) (R [N O a,N O b].toArray 48)):=by
    intro G D a b d1 d2 g2 g3;refine⟨?_,?_⟩
    .rw[Yr (b:=h.size+1+1) g2 0 D,Yf (by rw[d1];rfl),if_pos ⟨by rw[d1];exact aF _,d2⟩]
    .grind [wr,YV,XB]
   have r0:=ZB K d;have b4:∀(G:Hp) (o o':Obj),Zm h.size h G->Zm h.size h ((U G (h.size+1+1) o).setIfInBounds (h.size+1+1+1) o'):=fun G o o' e=>(e.ZA uh _).ZA uh _;by_cases k0:k=0
   .subst k0;have j:JH cs 0 c s n v=⟨cs,0,0⟩:=rfl;let⟨w2,q⟩:=fin H cs 0 0 d JD F E;simp -implicitDefEqProofs only[go_sem,y,c1,Z,C,j,r0,w2,q,d,f,tk,g]
    grind
   .have aV:¬(k:Int)=0:=uh;simp -implicitDefEqProofs only[go_sem,y,c1,Z,C,aV];refine VS.q mixed zI ?_;by_cases B:(s:Int)+1=ci cs (8+c)
    .have j:JH cs k c s n v=⟨cs,ci cs (16+c*2),ci cs (16+c*2+1)⟩:=by unfold JH;rw[if_neg k0,if_pos B]
     let⟨w2,q⟩:=fin H cs (ci cs (16+c*2)) (ci cs (16+c*2+1)) d JD F E;have ra:rd H ⟨h.size,16+c*2,aa⟩ 2=W [N O (ci cs (16+c*2)),N O (ci cs (16+c*2+1))]:=by
      rw[YZ K uh,eI (hi _ uh) (hi _ uh)]
     simp -implicitDefEqProofs only[go_sem,V,M,B];refine VS.z (h.size+1+1) [] (.q 0 (.p 1 (.q 2 (.p 3 (.p 4 (.q 5 (.s 6 (.s 7 (.p 8 .nil))))))))) mixed zI ?_;simp -implicitDefEqProofs only[go_sem,y,Z,C,j,r0,ra,w2,q,d,f,tk,g]
     grind
    .simp -implicitDefEqProofs only[go_sem,V,M,B];refine VS.q mixed zI ?_;by_cases z:(s:Int)<ci cs (8+c)
     .have j:JH cs k c s n v=⟨cs,7,0⟩:=by unfold JH;rw[if_neg k0,if_neg B,if_pos z]
      let⟨w2,q⟩:=fin H cs 7 0 d JD F E;simp -implicitDefEqProofs only[go_sem,V,M,z,y,j,r0,w2,q,d,f,tk,g]
      grind
     .have rv:hc H ⟨h.size,32+c,aa⟩=W (ak (cb cs (32+c))):=by rw[Zr K];exact hb _ uh uh
      by_cases q3:cb cs (32+c)=true
      .have j:JH cs k c s n v=⟨cs,11,0⟩:=by unfold JH;rw[if_neg k0,if_neg B,if_neg z,if_pos q3]
       let⟨w2,q⟩:=fin H cs 11 0 d JD F E;rw[q3]at rv;simp -implicitDefEqProofs only[go_sem,V,M,z,Z,C,rv,y,j,r0,w2,q,d,f,tk,g]
       grind
      .have a2:cb cs (32+c)=false:=by simpa using q3
       rw[a2]at rv;have w1:=XZ K (8+c) (N O ((s:Int)+1));rw[if_pos ⟨uh,rfl⟩]at w1;have rc:=ZB I (n:=5) rfl;have p:(U H h.size (R (cs.set (8+c) (N O ((s:Int)+1))).toArray 57))[h.size+1]? = W (R [N O k,N O c,N O s,N O n,N O v].toArray 43):=by rw[X,if_neg uh];exact I
       have L:=ZB p (n:=5) rfl;simp -implicitDefEqProofs only[go_sem,V,M,z,Z,C,rv,w1,L];have J:(U H h.size (R (cs.set (8+c) (N O ((s:Int)+1))).toArray 57))[h.size]? = W (R (cs.set (8+c) (N O ((s:Int)+1))).toArray 57):=by rw[X,if_pos rfl,if_pos uh]
       have Tb:Zm h.size h (U H h.size (R (cs.set (8+c) (N O ((s:Int)+1))).toArray 57)):=g.ZA (aF _) _;have x:(U H h.size (R (cs.set (8+c) (N O ((s:Int)+1))).toArray 57))[h.size+2]? = W (R (aq XE) 57):=by rw[X,if_neg uh];exact F
       have w:(U H h.size (R (cs.set (8+c) (N O ((s:Int)+1))).toArray 57))[h.size+3]? = W (R [N O 0,N O 0].toArray 48):=by rw[X,if_neg uh];exact E
       have r:(U H h.size (R (cs.set (8+c) (N O ((s:Int)+1))).toArray 57)).size=h.size+6:=by rw[ax];exact f
       refine (gk T _ h.size (cs.set (8+c) (N O ((s:Int)+1))) k c s n v zK (ints_set uh _ hi) uh uh uh J).use ?_;rintro _ g1 ⟨rfl,m⟩;rw[vY cs k c n v _ uh uh]at m ⊢;have aW:=gj hf k c n v uh;have j:JH cs k c s n v=⟨((((Q2 cs k c n v).1.set (8+c) (N O ((s:Int)+1))).set (16+c*2) (N O 0)).set (16+c*2+1) (N O (Q2 cs k c n v).2)),0,(Q2 cs k c n v).2⟩:=by unfold JH;rw[if_neg k0,if_neg B,if_neg z,if_neg q3]
       let⟨A,hA⟩:=ZO ((Q2 cs k c n v).1.set (8+c) (N O ((s:Int)+1)));let⟨a,ha⟩:=ZO ((Q2 cs k c n v).2);rw[<-hA,<-ha]at j;simp only[<-hA,<-ha]at m ⊢;have a1:XC J6 A=true:=by rw[hA];exact VL _ _ aW (Wh uh _)
       have b3:(Q A)=40:=YR a1;let⟨G,e⟩:=ZO (U H h.size (R (cs.set (8+c) (N O ((s:Int)+1))).toArray 57):Hp);rw[<-e]at m p x w Tb r;clear J L e;rw[r]at m;have g0:g1[h.size]? = W (R (aq A) 57):=m.get uh zK;have b0:=m.get (k:=h.size+1) uh (by rw[X,if_neg uh];exact p);have g2:=m.get (k:=h.size+2) uh (by rw[X,if_neg uh];exact x);have g3:=m.get (k:=h.size+3) uh (by rw[X,if_neg uh];exact w);have gs:h.size+6<=g1.size:=by have:=m.size;rw[ax,r]at this;exact this
       have gB:Zm h.size h g1:=(Tb.ZA (aF _) _).trans (m.mono uh);clear m Tb p x w r;have gc:hc g1 ⟨h.size+1,1,aa⟩=W (N O c):=by rw[Zr b0];rfl
       have wa:=Yr g0 (16+c*2) [N O 0,N O a];rw[if_pos ⟨by simp only[bN,List.length_nil];omega,rfl⟩,RW,RW]at wa;have wa:wr g1 ⟨h.size,16+c*2,aa⟩ [N O 0,N O a]=W (U g1 h.size (R ((A.set (16+c*2) (N O 0)).set (16+c*2+1) (N O a)).toArray 57)):=by rw[wa];simp[XB]
       simp -implicitDefEqProofs only[go_sem,gc,C,wa];let⟨D,hD⟩:=ZO ((A.set (16+c*2) (N O 0)).set (16+c*2+1) (N O a));have P:XC J6 D=true:=by rw[hD];exact VL _ _ (VL _ _ a1 (Wh uh _)) (Wh uh _)
       have t:(Q D)=40:=YR P;have rM:=Pa P;have vZ:=Ja t;rw[<-hD]at j ⊢;let⟨G,e⟩:=ZO ((U g1 h.size (R (aq D) 57)).push (R [N O 0,N O a].toArray 48):Hp);have n0:G[h.size]? = W (R (aq D) 57):=by rw[e];simp only[aw,ax,X,aI,↓reduceIte]
       have n2:G[h.size+2]? = W (R (aq XE) 57):=by rw[e];simp only[aw,ax,X,aI,↓reduceIte];exact g2
       have n3:G[h.size+3]? = W (R [N O 0,N O 0].toArray 48):=by rw[e];simp only[aw,ax,X,aI,↓reduceIte];exact g3
       have n6:G[g1.size]? = W (R [N O 0,N O a].toArray 48):=by rw[e];simp only[aw,ax,aI,↓reduceIte]
       have nB:Zm h.size h G:=by rw[e];exact (gB.ZA (aF _) _).Xj Fo _
       have nS:G.size=g1.size+1:=by rw[e];simp
       rw[<-e];have rA:=ZB n0 t;have rB:=ZB n6 (n:=2) rfl;let⟨w2,q⟩:=fin G D 0 a t rM n2 n3;refine VS.z (h.size+1) [2,3,4] (.q 0 (.or 1 (.w 2 (.w 3 (.w 4 .nil))) (.s 2 (.s 1 (.w 3 (.w 4 .nil)))))) mixed zI ?_;have z1:h.size<h.size+1:=uh;have z2:h.size+1+1<G.size:=uh;have z3:h.size+1+1+1<G.size:=uh;simp -implicitDefEqProofs only[go_sem,rA,rB,w2,q,t,vZ,z1,z2,z3,j]
       grind
  .simp +contextual -implicitDefEqProofs only[go_sem,y];refine⟨rfl,?_⟩
   all_goals exact aaf
theorem Zb0{g:Hp}{b:Nat}{o a:Obj}(c:g[b]? = W a):(U g b o)[b]? = W o:=zK
def Ps:Vt:=⟨0,⟨0,0⟩,0,0,0,0,0⟩
def bu(v:Vt):List an:=[N O v.k,N O v.c,N O v.s,N O v.nm,N O v.v]
def Wq(Zx:Int)(a v:Vt):Vt:=if v.Zx=Zx/\Zj a.b v.b then v else a
def Vm(Zx:Int)(l:List Vt):Vt:=l.foldl (Wq Zx) Ps
def Vn(l:List Vt):Bool:=l.all fun v=>decide (Yz v)
def S7(Zx:Int)(l:List Vt):Int:=if Zx<0\/39<Zx then 2 else if Vn l=true then 0 else 5
def bz(a:an)(Zx:Int)(l:List Vt):Prop:=
 a=.tuple [al (bu (if S7 Zx l=0 then Vm Zx l else Ps)).toArray,ak (if S7 Zx l=0 then decide (0<(Vm Zx l).b.r) else false),N O (S7 Zx l)].toArray
def Vss(h:Hp)(v:an)(a:List (List Vt)):Prop:=∃p c,v=Y p (Q a) c/\(a≠[]->∃b o,p=W ⟨b,o,aa⟩/\b<h.size/\∀i (hi:i<(Q a)),∃w,hc h ⟨b,o+i,aa⟩=W w/\Ts Zz 8 h w a[i]/\a[i].length<=2199023255552)
theorem wh(a:List (List Vt))(i:Nat)(hi:i<(Q a)):(a.take (i+1)).flatten=(a.take i).flatten++a[i]:=by
 grind [Xg]
theorem mT(a b:List Vt):Vn (a++b)=(Vn a&&Vn b):=by simp[Vn]
theorem bB{l:List Vt}{v:Vt}(a:v∈l)(b:¬Yz v):Vn l=false:=by
 grind [Vn.eq_1]
theorem Zgv(h:Hp)(u:an)(a:List (List Vt))(Zx:Int)(s:Vss h u a)(hL:(Q a)<=4611686018427387904):
  Zg aL T 139 #[u,N O Zx] h fun v' h'=>bz v' Zx a.flatten/\Zm h.size h h':=by
 have b:S7 Zx a.flatten=if Zx<0\/39<Zx then 2 else if Vn a.flatten=true then 0 else 5:=rfl
 obtain⟨p,c,rfl,Jx⟩:=s;refine Zg.Kq [_,_] Tryz.func139 ?_;unfold bz;by_cases q1:Zx<0
 .rw[if_pos (.inl q1)]at b;simp -implicitDefEqProofs only[go_sem,q1,b];rfl
 .by_cases q2:39<Zx
  .rw[if_pos (.inr q2)]at b;have x:40<=Zx:=uh;simp -implicitDefEqProofs only[go_sem,q1,x,b];rfl
  .rw[if_neg uh]at b;have x:¬40<=Zx:=uh;simp -implicitDefEqProofs only[go_sem,q1,x];let⟨H,I⟩:=ZO ((h.push (R #[N O 0,N O 0,N O 0,N O 0,N O 0] 43)).push (R #[N O 0,N O 0,N O 0,N O 0,N O 0,N O 0,N O 0,N O 0] 141):Hp);have HB:Zm h.size h H:=by rw[I];all_goals exact aaf
   have HZ:H[h.size]? = W (R (bu Ps).toArray 43):=by rw[I,ZX zX,Zf];rfl
   have HV:H[h.size+1]? = W (R (Zz Ps).toArray 141):=by
    have:=Zf (h:=h.push (R #[N O 0,N O 0,N O 0,N O 0,N O 0] 43)) (o:=R #[N O 0,N O 0,N O 0,N O 0,N O 0,N O 0,N O 0,N O 0] 141);rw[am]at this;rw[I,this];rfl
   rw[<-I];clear I;have wz:∀g:Hp,g[h.size]? = W (R (bu Ps).toArray 43)->∀w:List an,(Q w)=5->w.all YV=true->wr g ⟨h.size,0,aa⟩ w=W (U g h.size (R (aq w) 43)):=by
    intro g r w h5 h1;rw[Yr r 0 w,Yf (by rw[h5];rfl),if_pos ⟨by rw[h5];exact aF _,h1⟩]
   refine VS.YC (fun F g=>F 1=N O Zx/\F 4=ae (W ⟨h.size,0,aa⟩)/\F 7=ae (W ⟨h.size+1,0,aa⟩)/\F 19=Y p (Q a) c/\F 20=N O (Q a)/\Zm h.size h g/\g[h.size]? = W (R (bu Ps).toArray 43)/\∃i:Nat,i<=(Q a)/\F 21=N O i/\g[h.size+1]? = W (R (Zz (Vm Zx (a.take i).flatten)).toArray 141)/\Vn (a.take i).flatten=true)
    (fun F _=>(Q a)-(vi (F 21)).toNat) rfl ⟨rfl,rfl,rfl,rfl,rfl,HB,HZ,0,uh,rfl,HV,rfl⟩ ?_
   clear HB HZ HV H;rintro F g ⟨f1,e,d,f19,f20,r,t,i,hi,f21,k,C⟩;have zV:=Zb k;by_cases Ye:i<(Q a)
   .have Yh:(i:Int)<(Q a):=uh;obtain⟨bb,oo,rfl,Sb,Jx⟩:=Jx zK;let⟨w,hw,tw,aV⟩:=Jx i Ye;have G:V.hc g ⟨bb,oo+i,aa⟩=W w:=by rw[r.hc (by exact Sb)];exact hw
    have P:=wh a i Ye;have Z:a[i]∈a:=a9 Ye;let⟨L,aW⟩:=ZO (a[i]);rw[<-aW]at tw aV P Z;obtain⟨pw,cw,rfl,y⟩:=Vk tw;simp -implicitDefEqProofs only[go_sem,f1,e,d,f19,f20,f21,Yh,ao,G];refine VS.YC (fun F g=>F 1=N O Zx/\F 4=ae (W ⟨h.size,0,aa⟩)/\F 7=ae (W ⟨h.size+1,0,aa⟩)/\F 19=Y (W ⟨bb,oo,aa⟩) (Q a) c/\F 20=N O (Q a)/\F 21=N O i/\F 25=Y pw (Q L) cw/\F 26=N O (Q L)/\Zm h.size h g/\g[h.size]? = W (R (bu Ps).toArray 43)/\∃j:Nat,j<=(Q L)/\F 27=N O j/\g[h.size+1]? = W (R (Zz (Vm Zx ((a.take i).flatten++L.take j))).toArray 141)/\Vn ((a.take i).flatten++L.take j)=true)
     (fun F _=>(Q L)-(vi (F 27)).toNat) rfl ⟨f1,e,d,f19,f20,f21,rfl,rfl,r,t,0,uh,rfl,zK,zK⟩ ?_
    clear f1 e d f19 f20 f21 F r t k C zV G;rintro F g ⟨f1,e,d,f19,f20,f21,f25,f26,r,t,j,hj,f27,k,C⟩;have zV:=Zb k;by_cases f:j<(Q L)
    .have b4:(j:Int)<(Q L):=uh;obtain⟨b2,o2,rfl,Fv,_,y⟩:=y zK;have D:rd g ⟨b2,o2+j*8,aa⟩ 8=W (Zz L[j]):=by rw[Ut r (by exact Fv)];exact y j f
     have rO:(a.take i).flatten++L.take (j+1)=((a.take i).flatten++L.take j)++[L[j]]:=by rw[Xg L j f,List.append_assoc]
     have M:L[j]∈a.flatten:=List.mem_flatten.2 ⟨L,Z,a9 f⟩;let⟨v,hv⟩:=ZO (L[j]);rw[<-hv]at D rO M;have QW:Vm Zx ((a.take i).flatten++L.take (j+1))=Wq Zx (Vm Zx ((a.take i).flatten++L.take j)) v:=by
      rw[rO];unfold Vm;rw[List.foldl_append];rfl
     have LS:Vn ((a.take i).flatten++L.take (j+1))=decide (Yz v):=by rw[rO,mT,C,Bool.true_and];simp[Vn]
     let⟨B,hB⟩:=ZO (Vm Zx ((a.take i).flatten++L.take j));rw[<-hB]at k QW;unfold Zz at D;simp -implicitDefEqProofs only[go_sem,f1,e,d,f19,f20,f21,f25,f26,f27,b4,ao,D];refine (FC T _ v).use ?_;rintro _ g1 ⟨rfl,b1⟩;have dm:Zm g.size g g1:=(Zm.push (aF _) _).trans (b1.mono zX);have y0:g1[g.size]? = W (R (Zz v).toArray 141):=b1.get zX Zf;have z1:=dm.size;have EB:=r.trans (dm.mono r.size);have q:=dm.get (Zb t) t;have z:=dm.get zV k;have z0:=Zb y0;by_cases K:Yz v
     .rw[decide_eq_true K]at LS;have y1:V.hc g1 ⟨g.size,0,aa⟩=W (N O v.Zx):=by rw[Zr y0];rfl
      have y2:rd g1 ⟨g.size,1,aa⟩ 2=W (Q0 v.b):=by rw[YZ y0 (by simp[Zz])];rfl
      have y3:rd g1 ⟨h.size+1,1,aa⟩ 2=W (Q0 B.b):=by rw[YZ z (by simp[Zz])];rfl
      by_cases c2:v.Zx=Zx
      .simp -implicitDefEqProofs only[go_sem,f1,e,d,f19,f20,f21,f25,f26,f27,K,y1,c2,y2,y3];refine (Sc T _ v.b B.b).use ?_;rintro _ g2 ⟨rfl,E⟩;have z2:=E.size;have VJ:=EB.trans (E.mono EB.size);have b0:=E.get (Zb q) q;have J:=E.get (Zb z) z;have a1:=E.get z0 y0;by_cases c3:Zj B.b v.b
       .have A:=(Ph v.b B.b).2 c3;have rV:=ZB a1 (n:=8) rfl;have wV:=Yr J 0 (Zz v);rw[Yf (by simp[Zz]),if_pos ⟨by simp[Zz],rfl⟩]at wV;have m:Wq Zx B v=v:=by unfold Wq;rw[if_pos ⟨c2,c3⟩]
        rw[m]at QW;unfold Zz at rV wV;simp -implicitDefEqProofs only[go_sem,f1,e,d,f19,f20,f21,f25,f26,f27,A,rV,wV];refine⟨⟨f1,e,d,f19,f20,f21,f25,f26,VJ.ZA uh _,?_,j+1,f,rfl,?_,LS⟩,?_⟩
        .grind
        .rw[QW];exact Zb0 J
        .simp only[vi,Zu,↓reduceIte,f27];omega
       .have A:¬0<IX v.b B.b:=fun h=>c3 ((Ph v.b B.b).1 h);have m:Wq Zx B v=B:=by unfold Wq;rw[if_neg (fun h=>c3 h.2)]
        rw[m]at QW;simp -implicitDefEqProofs only[go_sem,f1,e,d,f19,f20,f21,f25,f26,f27,A];refine⟨⟨f1,e,d,f19,f20,f21,f25,f26,VJ,b0,j+1,f,rfl,?_,LS⟩,?_⟩
        .grind
        .simp only[vi,Zu,↓reduceIte,f27];omega
      .have m:Wq Zx B v=B:=by unfold Wq;rw[if_neg (fun h=>c2 h.1)]
       rw[m]at QW;simp -implicitDefEqProofs only[go_sem,f1,e,d,f19,f20,f21,f25,f26,f27,K,y1,c2];refine⟨⟨f1,e,d,f19,f20,f21,f25,f26,EB,q,j+1,f,rfl,?_,LS⟩,?_⟩
       .grind
       .simp only[vi,Zu,↓reduceIte,f27];omega
     .have hf:=bB M K;rw[hf,if_neg HE]at b;have a2:=wz g1 q [N O 0,N O 0,N O 0,N O 0,N O 0] rfl rfl;have zl:=Zb q;simp -implicitDefEqProofs only[go_sem,f1,e,d,K,a2,zl,b];exact⟨rfl,EB.ZA (aF _) _⟩
    .have b3:¬(j:Int)<(Q L):=uh;obtain rfl:j=(Q L):=uh;rw[bR,<-P]at k C;simp -implicitDefEqProofs only[go_sem,f1,e,d,f19,f20,f21,f25,f26,f27,b3];refine⟨⟨f1,e,d,f19,f20,r,t,i+1,Ye,rfl,k,C⟩,?_⟩;simp only[vi,Zu,↓reduceIte,f21];omega
   .have XX:¬(i:Int)<(Q a):=uh;obtain rfl:i=(Q a):=uh;rw[bR]at k C;rw[C,if_pos rfl]at b;rw[b,if_pos rfl,if_pos rfl];let⟨B,hB⟩:=ZO (Vm Zx a.flatten);rw[<-hB]at k ⊢;have D:rd g ⟨h.size+1,3,aa⟩ 5=W (bu B):=by rw[YZ k (by simp[Zz])];rfl
    have r2:V.hc g ⟨h.size+1,1,aa⟩=W (N O B.b.r):=by rw[Zr k];rfl
    have wB:=wz g t (bu B) rfl rfl;have zl:=Zb t;unfold bu at D wB ⊢;simp -implicitDefEqProofs only[go_sem,f1,e,d,f19,f20,f21,XX];refine VS.z (h.size) [] (.p 0 (.p 2 (.p 3 (.or 1 (.or 4 (.p 5 (.s 6 (.p 7 (.p 8 .nil)))) (.s 6 (.s 4 (.p 5 (.p 7 (.p 8 .nil)))))) (.s 4 (.p 5 (.s 1 (.s 6 (.p 7 (.p 8 .nil)))))))))) mixed zI ?_;simp -implicitDefEqProofs only[go_sem,e,d,D,r2,wB,zl]
    grind [Zm.ZA]
end Go.Proofs.YtkhkmpfenaipaaaGreatDoor
