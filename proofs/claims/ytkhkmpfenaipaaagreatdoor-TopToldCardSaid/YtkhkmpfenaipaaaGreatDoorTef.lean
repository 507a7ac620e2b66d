import Derived.Test.YtkhkmpfenaipaaaGreatDoorTym
import Derived.Test.YtkhkmpfenaipaaaGreatDoorChw
open List renaming length→ao,mem_singleton→aq,mem_append→aH,mem_filter→aV,mem_flatMap→aW,mem_cons_of_mem→a0,mem_cons_self→a4,range→a5,mem_map→a7,append_nil→a8,length_filter_le→a9,mem_of_mem_erase→ba,mem_cons→bc,length_append→bd,nodup_append→bh,pairwise_map→bl,mem_range→bo
open Nat renaming le_refl→aL,le_add_right→a6,le_trans→bf,le_succ→bn
open Int renaming toNat_natCast→aX
open Option renaming none→aw,some→ax
open Classical renaming byContradiction→aS
namespace Go.Proofs.YtkhkmpfenaipaaaGreatDoor
open Go Go.V
set_option linter.all false
def GO(n:Nd)(l:Yt):(Zy n l).n.data.length<=(ao n.data)+38/\((Zy n l).n.Zo=aw->(Zy n l).n.data.length<=(ao n.data)):=by
 rcases (YE n l).2 with k|⟨_,_,_,_,e⟩|⟨_,_,_,_,e⟩
 .rw[k.data];grind
 .grind [NZ,Ov]
 grind [N0,cj]
def LN:∀(k:List Yt) (n:Nd),(Zw n k).n.data.length<=(ao n.data)+38/\((Zw n k).n.Zo=aw->(Zw n k).n.data.length<=(ao n.data)):=by
 intro k
 induction k with
 | nil=>grind [Zw.eq_def]
 | cons l k f=>
  intro n;unfold Zw;split
  .grind
  .let⟨d,a⟩:=GO { n with Zd:=k } l;have d:(Zy { n with Zd:=k } l).n.data.length<=(ao n.data)+38:=d;have a:(Zy { n with Zd:=k } l).n.Zo=aw->(Zy { n with Zd:=k } l).n.data.length<=(ao n.data):=a;let⟨o,j⟩:=f (Zy { n with Zd:=k } l).n;show (Zw (Zy { n with Zd:=k } l).n k).n.data.length<=_/\((Zw (Zy { n with Zd:=k } l).n k).n.Zo=aw->(Zw (Zy { n with Zd:=k } l).n k).n.data.length<=_)
   by_cases q:(Zy { n with Zd:=k } l).n.Zo=aw
   .grind
   .have i:(Zy { n with Zd:=k } l).n.Zo.isSome=true:=by
     cases e:(Zy { n with Zd:=k } l).n.Zo with
     | none=>grind
     | some p=>rfl
    grind [Zw.eq_def]
theorem zf(n:Nd)(hb:Blank n.Zc/\((Zw n n.Zd).n.Zo=aw->Blank (Zw n n.Zd).n.Zc)):(step n).n.data.length<=(ao n.data)+38:=by
 unfold step;split
 .cases i:n.Zo with
  | some p=>
   simp only;have:(Yc (ZE n) p).n.data.length<=(ao n.data):=by
    have e:(Yc (ZE n) p).n.data=(ZE n).data:=by cases p<;>rfl
    rw[e];show (if Xo n.data n.XI then n.data else []).length<=_;split
    .grind
    .grind
   omega
  | none=>
   simp only;let⟨f,d⟩:=LN n.Zd n;split
   .exact f
   .rename_i q;have a:(Zw n n.Zd).n.Zo=aw:=by
     cases e:(Zw n n.Zd).n.Zo with
     | none=>rfl
     | some p=>grind
    have:=d a;show (YH (Zw n n.Zd).n).n.data.length<=_;rcases (YD a (hb.2 a)).1.Zo with⟨_,e⟩|⟨_,_,_,_,e,_⟩
    .rw[e];omega
    .rw[e,bd,Ov];omega
 grind
section
variable {S:Cm->Prop} {C:List Cm} {b:ZN} {L:Nat} {w0:Wd}
def Zd4(hC:(ao C)<=100000)(hb:Zv b)(pw:PW C b L w0):∀t,PW C b L (YJ t w0):=by
 intro t
 induction t with
 | zero=>exact pw
 | succ t a=>exact Zd2 a hC hb
def DQ(hC:(ao C)<=100000)(hb:Zv b)(pw:PW C b L w0){X:Nat}(f:X<5){d:Nat}(a:(w0.Za X).data.length<=d):∀t,((YJ t w0).Za X).data.length<=d+38*t:=by
 intro t
 induction t with
 | zero=>exact a
 | succ t i=>
  have P:=Zd4 hC hb pw t;have j:=P.nd X f
  grind [YJ,Qg,PN.up,zf,PN.ZZ,XH,Jf,PW.JC]
def Zd5(hc:WY []∈C):∀a∈Sp.map Raw.ac,C8 S C a:=fun a d=>by
 grind [Sp,Raw.ac,C8,QD,NM,AF]
theorem DR(w:Wd):C9 w=(Sp.map Raw.ac).foldl act w:=by
 show _=act (act (act (act (act (act w (QD 0).ac) (QD 1).ac) (QD 2).ac) (QD 3).ac) (QD 4).ac) NM.ac;rw[We,We,We,We,We,cL];rfl
def Zl6(hC:(ao C)<=100000)(hc:WY []∈C){k:Nat}{d:Gh}{o:Nat->ZN}(W:WI C k w0)(y:TI S d o w0):∀T,∃(g:Nat->Gh) (M:Nat->Nat->ZN),g 0=d/\(∀t,t<=T->TI S (g t) (M t) (YJ t w0))/\(∀t,t<T->∀j b s x,(g t).V j b s x->(g (t+1)).V j b s x)/\∃k,WI C k (YJ T w0):=by
 intro T
 induction T with
 | zero=>exact⟨fun _=>d,fun _=>o,rfl,fun t a=>by rw[show t=0 by omega];exact y,fun t a=>by omega,k,W⟩
 | succ T p=>
  let⟨g,M,D,r,z,k,q⟩:=p;let⟨g',M',v,i,f⟩:=Dx hC (Sp.map Raw.ac) k (YJ T w0) (g T) (M T) q (r T (aL _)) (Zd5 hc);rw[<-DR]at i f;refine⟨fun t=>if t<=T then g t else g',fun t=>if t<=T then M t else M',zK,fun t a=>?_,fun t a=>?_,_,f⟩
  .by_cases e:t<=T
   .grind
   .simp only[if_neg e];rw[show t=T+1 by omega];exact i
  grind
end
def PV(c:Nat)(v:Vw)(X:Nat):OT->Prop
 | .QB _ _ b _=>(X,b,-1,false)∈v.H/\b∈v.K
 | .Us _ _ x=>(X,x.b,x.Zx,false)∈v.H/\0<=x.Zx/\x.Zx<40/\∃i,v.B[i]? = ax x.b/\RU (Vy v) (x.Zx.toNat+1) (c*(i+1))/\RU (Uv v) x.Zx.toNat (gT v+1)
 | .Zn a _ _=>(X,a.p,-1,false)∈v.H/\a.p∈v.K
structure NV(C:List Cm)(v:Vw)(X:Nat)(n:Nd):Prop where
 acc:∀x∈(YY n).l,SX v (ao C) 0 x/\Dn v X x.b x.Zx
 QB:(YY n).p=Y2\/Pm v X (YY n).p
 k0:K0 v (YY n).p/\K0 v n.Yy
 Zn:∀b∈v.B,b.n=X->¬Zj (YY n).p b
 Zo:∀p,n.Zo=ax p->PV (ao C) v X p
 Zi:∀s:Nat,Has n.Zi s->Vy v s
 Zc:∀r,n.Zc=ax r->RV C v X n.Zi r
def Sv(n:Nd):List Yt:=match n.Zo with
 | some (.Us _ _ x)=>[⟨2,0,0,Y2,x,[]⟩]
 | _=>[]
structure St(v w:Vw)(d:Nat):Prop where
 le:v.Le w
 c:w.cost<=v.cost+d
 b:w.B=v.B
 k:w.K=v.K
theorem St.refl(v:Vw)(d:Nat):St v v d:=⟨.refl v,a6 _ _,rfl,rfl⟩
def Vw.put(v:Vw)(x:Nat × ZN × Int × Bool):Vw:={ v with H:=x :: v.H }
def St.put(v:Vw)(x:Nat × ZN × Int × Bool):St v (v.put x) 1:=
 ⟨⟨fun y h=>a0 _ h,fun _ _ h=>h,fun _ h=>h,aL _⟩,by simp[Vw.put,Vw.cost];omega,rfl,rfl⟩
section
variable {C C':List Cm} {v w:Vw} {X:Nat} {n m:Nd} {S:Cm->Prop} {g:Gh} {M:Nat->ZN}
def PV.up(L:v.Le w){c:Nat}{p:OT}(h:PV c v X p):PV c w X p:=by
 cases p with
 | QB a to b vs=>exact⟨L.h _ h.1,L.k _ h.2⟩
 | Us a to x=>
  let⟨q,o,k,i,j,f,d⟩:=h;exact⟨L.h _ q,o,k,i,L.b _ _ j,f.up L.ch (aL _) (aL _),d.up L.u (aL _) (by have:=L.g;omega)⟩
 | Zn a vs cur=>exact⟨L.h _ h.1,L.k _ h.2⟩
def NV.up(L:v.Le w)(d:∀b∈w.B,b∈v.B\/b.n≠X)(h:NV C v X n):NV C w X n:=
 ⟨fun x a=>⟨(h.acc x a).1.up L,L.dn (h.acc x a).2⟩,h.QB.imp_right (Pm.up L),⟨h.k0.1.up L,h.k0.2.up L⟩,fun b hb e=>h.Zn b ((d b hb).resolve_right fun q=>q e) e,fun p i=>(h.Zo p i).up L,fun s f=>L.ch _ (h.Zi s f),fun r hr=>(h.Zc r hr).up L (fun q=>(d _ q).resolve_right fun q=>q (h.Zc r hr).ZM) (fun _ h=>h)⟩
def NV.st{d:Nat}(s:St v w d)(h:NV C v X n):NV C w X n:=h.up s.le fun b hb=>.inl (by rw[<-s.b];exact hb)
theorem NV.same(h:NV C v X n)(e:YY m=YY n)(i:K0 v m.Yy)(f:∀p,m.Zo=ax p->PV (ao C) v X p)(d:∀s:Nat,Has m.Zi s->Vy v s)(a:∀r,m.Zc=ax r->RV C v X m.Zi r):NV C v X m:=
 ⟨by rw[e];exact h.acc,by rw[e];exact h.QB,⟨by rw[e];exact h.k0.1,i⟩,by rw[e];exact h.Zn,f,d,a⟩
def Iw:∀(k:Nat) (n:Nd),(YA k n).1.Yy=n.Yy/\(YA k n).1.Zc=n.Zc:=by
 intro k
 induction k with
 | zero=>intro n;exact⟨rfl,rfl⟩
 | succ k a=>
  grind [XF,YA.eq_def]
theorem NV.Jj(h:NV C v X n){s:Int}(j:0<=s){x:Cm}(hc:Vy v s.toNat):NV C v X (Jj n s x).n:=by
 let⟨K,_,_⟩:=QK n s x;have k:(Go.Proofs.YtkhkmpfenaipaaaGreatDoor.Jj n s x).n.Zi=ins n.Zi s x:=(La _ (X6 n s x)).2;let⟨f,a⟩:=Iw ((X6 n s x).Zi.length+1) (X6 n s x);have a:(Go.Proofs.YtkhkmpfenaipaaaGreatDoor.Jj n s x).n.Zc=n.Zc:=a;refine h.same (by unfold YY;rw[K.go.up,K.Zn,K.data]) (by rw[show (Go.Proofs.YtkhkmpfenaipaaaGreatDoor.Jj n s x).n.Yy=n.Yy from f];exact h.k0.2) (fun p d=>h.Zo p (by rw[<-K.Zo];exact d)) (fun t i=>?_) fun r hr=>(h.Zc r zK).up (.refl v) (fun q=>q) K.go.Zi
 grind [NV.Zi,XQ,Has]
theorem NV.box(h:NV C v X n)(k:List Yt):NV C v X { n with Zd:=k }:=h.same rfl h.k0.2 h.Zo h.Zi h.Zc
def HV(C:List Cm)(v:Vw)(X:Nat)(n:Nd)(k:List Yt)(o:Out):Prop:=
 ∃w,St v w (if o.n.Zo=aw then 0 else 1)/\NV C w X o.n/\(∀m∈o.ls,LV (ao C) w m)/\FI w n.Zn.p (Sv o.n++k)/\o.n.Zn=n.Zn
theorem Qh(h:n.Zo=aw):Sv n=[]:=by unfold Sv;rw[h]
theorem HV.Zt{k:List Yt}(i:n.Zo=aw){o:Out}(f:o.n.Zo=aw)(d:o.n.Zn=n.Zn)(h:NV C v X o.n)(a:∀m∈o.ls,LV (ao C) v m)(F:FI v n.Zn.p k):HV C v X n k o:=
 ⟨v,.refl v _,h,a,by rw[Qh f];exact F,d⟩
theorem LV.plain{c:Nat}{l:Yt}(h:l.a=4\/l.a=5\/l.a=7)(hb:K0 v l.b):LV c v l:=
 ⟨hb,fun e=>by omega,fun e=>by omega,fun e=>by omega,fun e=>by omega,fun e=>by omega⟩
theorem Zh8(j:X<5)(G:GI S g M)(N:NR S g M X n)(f:n.up=true)(i:JZ C' X n){x:Vt}(a:Yz x)(hle:¬Zj x.b n.Zn.p):Xw n.Zn.p n.Zn.l x=0:=by
 have A:=N.acc;have d:=N.m;rw[Yd f]at A d;unfold Xw;rw[if_neg (by rw[PS i.Zn fun v a=>by rw[<-d];exact G.Yi _ _ _ _ (A.has v a)];simp),if_neg (fun q=>q a),if_neg hle]
def Zd6(N:NR S g M X n)(d:n.up=true)(f:n.Zo=aw)(hr:(ao n.data)<=90000){x:Vt}(a:Yz x):QS n.data n.XI x=0:=by
 grind [QS,TR.idle,NR.tape,Xo,Qz]
def tM{l:Yt}(G:GI S g M)(hS:∀x,S x->x.err=0)(LI:Qt C' l)(L:LR S g M l)(f:l.a=2):Yz l.v:=by
 have a:=L.ask f;have d:l.v.cm.err=0:=by
  rcases G.cmd _ _ _ a with q|q
  .rw[q];rfl
  .exact hS _ q
 have:=LI.Zx;exact⟨⟨this.1,uh⟩,G.may _ _ _ a,d⟩
def Zd7(hX:X<5)(G:GI S g M)(N:NR S g M X n)(hS:∀x,S x->x.err=0)(y:n.up=true)(a:n.Zo=aw)(NI:JZ C' X n)(hr:(ao n.data)<=90000)(V:NV C v X n){l:Yt}{k:List Yt}(LI:Qt C' l)(L:LR S g M l)(E:LV (ao C) v l)(F:FI v n.Zn.p (l :: k)):HV C v X n k (Zy n l):=by
 have Z:=Yd y;have acc:=V.acc;have QB:=V.QB;have k0:=V.k0.1;rw[Z]at acc QB k0;have J:l.a≠2->FI v n.Zn.p k:=fun e=>F.tail fun q=>absurd q e;have f:NV C v X (XL n l)/\(XL n l).Zo=aw/\(XL n l).Zn=n.Zn:=by
  unfold XL;split
  .exact⟨V.same rfl E.b V.Zo V.Zi V.Zc,a,rfl⟩
  .grind
 have aw:∀m∈([]:List Yt),LV (ao C) v m:=fun m d=>by cases d
 unfold Zy;split
 .rename_i o;have F:=J uh;unfold Y3;split
  .grind [HV.Zt,LV.plain]
  .rename_i q1;have hb:=PP (by grind:YX n.Zn.p n.Zn.l l.b=0);split
   .rename_i e;refine .Zt a a rfl V (fun m d=>?_) F;rw[aq.1 d];refine⟨E.b,(fun h=>by cases h),fun _=>⟨?_,fun x H=>(acc x H).1⟩,(fun h=>by cases h),(fun h=>by cases h),fun h=>by cases h⟩
    grind [JZ.me,Y2,Zv]
   .split
    .exact .Zt a a rfl V aw F
    .refine⟨v.put (X,l.b,-1,false),St.put _ _,?_,(fun m d=>by cases d),F.up (St.put _ _).le (Yv _),rfl⟩;have V2:=V.st (St.put v (X,l.b,-1,false))
     grind [NV.same,Vw.put,Yd,K0,NV.k0,PV,LV.pre,NV.Zi,NV.Zc]
 split
 .rename_i o;have F:=J uh;unfold YI
  cases cO:n.Zc with
  | none=>exact .Zt a a rfl V aw F
  | some r=>
   have R:=V.Zc r cO;have rg:∀r',RV C v X n.Zi r'->NV C v X { n with Zc:=ax r' }:=fun r' R'=>V.same rfl V.k0.2 V.Zo V.Zi fun x e=>by
    grind
   simp only;split
   .rename_i k1;split
    .rename_i e;refine .Zt a a rfl (rg _ ⟨R.ZM,R.a,fun j vs q=>?_,R.Xc,R.new,R.T7⟩) aw F
     grind [RV.c,XQ,LV.QB]
    .exact .Zt a a rfl V aw F
   .rename_i k1;have k3:l.a=3:=uh;split
    .exact .Zt a a rfl V aw F
    .rename_i e;have e:l.v.b=r.b:=by simpa using e
     have Y:=E.Us k3;rw[e]at Y;have hg:∀j,YF (UB r l) j=ax ()->Dn v j.toNat r.b l.v.Zx:=fun j q=>by
      unfold UB at q;rw[XQ]at q;split at q
      .grind
      .cases D:YF r.Xc l.v.Zx with
       | none=>rw[D]at q;cases q
       | some K=>rw[D]at q;exact R.Xc _ K j D q
     have V1:NV C v X (Vc n r l):=rg _ ⟨R.ZM,R.a,R.c,fun s K j q1 W=>by
      grind [RV.Xc,XQ],R.new,R.T7⟩
     split
     .rename_i h5;let⟨K,_,ls⟩:=QK (Vc n r l) l.v.Zx l.v.cm;refine .Zt a (by rw[K.Zo];exact a) K.Zn (V1.Jj LI.Zx.1 ?_) zK F;have RI:=NI.Zc r cO;have z:TC 5 (UB r l):=by
       unfold UB;refine TC.ins ?_ ⟨LI.c.1,by have:=LI.c.2;omega⟩ _
       cases D:YF r.Xc l.v.Zx with
       | none=>exact .nil 5
       | some K=>exact RI.f _ (SP D)
      refine⟨r.b,_,z.maj h5,fun i hi=>?_⟩;let⟨u,y⟩:=z.back hi;have:=hg _ y;rw[aX]at this;rw[show ((l.v.Zx.toNat:Nat):Int)=l.v.Zx by have:=LI.Zx.1;omega];exact this
     .exact .Zt a a rfl V1 aw F
 split
 .rename_i o;have hv:=tM G hS LI L o;let⟨O,s1,i,s2,s3,s4⟩:=E.ask o;unfold asked;split
  .grind [HV.Zt,LV.plain,FI.tail,Zh8]
  .rename_i q;have hle:=Q7 (by simpa using q:Xw n.Zn.p n.Zn.l l.v=0);split
   .rename_i W;let⟨_,Y⟩:=acc _ W;refine .Zt a a rfl V (fun m d=>?_) (F.tail fun _=>.inl ⟨X,l.v.b,zK⟩);rw[aq.1 d];refine⟨.inl rfl,(fun h=>by cases h),(fun h=>by cases h),(fun h=>by cases h),fun _=>?_,fun h=>by cases h⟩
    grind [JZ.me]
   .rw[if_neg (by rw[Zd6 N y a hr hv];decide)];refine⟨v.put (X,l.v.b,l.v.Zx,false),St.put _ _,?_,(fun m d=>by cases d),(F.head (l':=⟨2,0,0,Y2,l.v,[]⟩) o.symm rfl).up (St.put _ _).le (Yv _),rfl⟩;have V2:=V.st (St.put v (X,l.v.b,l.v.Zx,false));refine V2.same (by rw[Z];exact Yd y) V2.k0.2 (fun p h=>?_) V2.Zi V2.Zc;obtain rfl:=aag h;have L2:=(St.put v (X,l.v.b,l.v.Zx,false)).le;exact⟨a4 ..,O,s1,i,s2,s3.up L2.ch (aL _) (aL _),(F.here o hle O).up L2.u (aL _) (aL _)⟩
 rename_i k2;have F:=J k2;split
 .let⟨K,_⟩:=AI n l.v.cm;have e:(add n l.v.cm).Yy=n.Yy/\(add n l.v.cm).Zi=n.Zi/\(add n l.v.cm).Zc=n.Zc:=by unfold add;split<;>exact⟨rfl,rfl,rfl⟩
  exact .Zt a (by rw[K.Zo];exact a) K.Zn (V.same (by unfold YY;rw[K.go.up,K.Zn,K.data]) (by rw[e.1];exact V.k0.2) (fun p h=>V.Zo p (by rw[<-K.Zo];exact h)) (by rw[e.2.1];exact V.Zi) (by rw[e.2.1,e.2.2];exact V.Zc)) aw F
 split
 .unfold Q3;split
  .rename_i x H;refine .Zt a f.2.1 f.2.2 f.1 (fun m d=>?_) F;rw[aq.1 d];refine⟨.inl rfl,(fun h=>by cases h),(fun h=>by cases h),(fun h=>by cases h),(fun h=>by cases h),fun _=>?_⟩;refine V.Zi _ ?_;rw[show (((Qb l.v.Zx Y2 x).Zx.toNat:Nat):Int)=l.v.Zx by have:=LI.Zx.1;show ((l.v.Zx.toNat:Nat):Int)=_;omega];exact UG H
  .exact .Zt a f.2.1 f.2.2 f.1 aw F
 grind [HV.Zt,QK,YT.Zo,YT.Zn,NV.Jj,Qt.Zx,LV.cho]
end
structure Go1(v w:Vw)(X d:Nat):Prop where
 le:v.Le w
 c:w.cost<=v.cost+d
 k:w.K=v.K
 b:w.B=v.B\/∃b,w.B=v.B++[b]/\b.n=(X:Int)/\b ∉ v.B/\b∈v.K/\∃Q,Co Q/\∀i∈Q,Dn w i b (-1)
section
variable {C C':List Cm} {u v w:Vw} {X:Nat} {n m:Nd} {S:Cm->Prop} {g:Gh} {M:Nat->ZN}
def St.go{d:Nat}(s:St v w d):Go1 v w X d:=⟨s.le,s.c,s.k,.inl s.b⟩
theorem Go1.refl(v:Vw)(d:Nat):Go1 v v X d:=(St.refl v d).go
def St.go1{d e:Nat}(s:St u v d)(h:Go1 v w X e):Go1 u w X (d+e):=
 ⟨s.le.trans h.le,by have:=s.c;have:=h.c;omega,by rw[h.k,s.k],by
  rcases h.b with q|⟨b,k,j,i,f,a⟩
  .exact .inl (by rw[q,s.b])
  grind [St.b,St.k]⟩
theorem Wl(h:n.Zo≠aw)(k:List Yt):Zw n k=⟨{ n with Zd:=k },[],[]⟩:=by
 cases k with
 | nil=>rfl
 | cons l k=>
  unfold Zw;rw[if_pos]
  cases e:n.Zo with
  | none=>grind
  | some p=>rfl
def Zh9(i:X<5)(G:GI S g M)(hS:∀x,S x->x.err=0):∀(k:List Yt) (n:Nd) (v:Vw),NR S g M X n->n.up=true->n.Zo=aw->JZ C' X n->(ao n.data)<=90000->NV C v X n->(∀l∈k,(Qt C' l/\LR S g M l)/\LV (ao C) v l)->FI v n.Zn.p k ->
  ∃w,St v w (if (Zw n k).n.Zo=aw then 0 else 1)/\NV C w X (Zw n k).n/\(∀m∈(Zw n k).ls,LV (ao C) w m)/\FI w n.Zn.p (Sv (Zw n k).n++(Zw n k).n.Zd)/\(Zw n k).n.Zn=n.Zn/\∀l∈(Zw n k).n.Zd,l∈k:=by
 intro k
 induction k with
 | nil=>
  grind [Zw,St.refl,NV.box,Qh]
 | cons l k z=>
  intro n v N p r o hr V f F;have e:Zw n (l :: k)=⟨(Zw (Zy { n with Zd:=k } l).n k).n,(Zy { n with Zd:=k } l).ls++(Zw (Zy { n with Zd:=k } l).n k).ls,(Zy { n with Zd:=k } l).ts++(Zw (Zy { n with Zd:=k } l).n k).ts⟩:=by
   conv=>lhs;unfold Zw
   rw[if_neg zK]
  rw[e];let⟨⟨j,y⟩,h3⟩:=f l zX;let⟨w,s,V1,E,J,W⟩:=Zd7 i G (N.box k) hS p r (o.Zd k) hr (V.box k) j y h3 F;have H:=i7 i G (N.box k) p r (o.Zd k) j y;have I:=(NJ i (o.Zd k) j).nd;by_cases q:(Zy { n with Zd:=k } l).n.Zo=aw
  .rw[if_pos q]at s;have D:=(GO { n with Zd:=k } l).2 q;let⟨w2,d,V2,Y,Z,O,K⟩:=z _ w H.n H.up q I (bf D hr) V1 (fun x a=>⟨(f x (by simp[a])).1,(f x (by simp[a])).2.up s.le⟩) (by
    rw[Qh q]at J
    grind)
   refine⟨w2,⟨s.le.trans d.le,by have:=s.c;have:=d.c;grind,by rw[d.b,s.b],by rw[d.k,s.k]⟩,V2,fun x a=>?_,zK,zK,fun x a=>a0 _ (K x a)⟩;rcases aH.1 a with a|a
   .exact (E x a).up d.le
   grind
  grind [Sv,Wl,NV.box]
def tO(G:GI S g M)(N:NR S g M X n)(f:n.up=true)(i:JZ C' X n){b:ZN}(hb:Zv b)(hle:¬Zj b n.Zn.p):YX n.Zn.p n.Zn.l b=0:=by
 have A:=N.acc;have a:=N.m;rw[Yd f]at A a;unfold YX;rw[if_neg (by rw[PS i.Zn fun v d=>by rw[<-a];exact G.Yi _ _ _ _ (A.has v d)];simp),if_neg (fun q=>q hb),if_neg hle]
def GP:∀(k:List Yt) (n:Nd),∀m∈(Zw n k).ls,m.a≠0/\m.a≠2:=by
 intro k
 induction k with
 | nil=>intro n m a;cases a
 | cons l k d=>
  grind [Zw.eq_def,YE]
def OB:∀(k:List Yt) (n:Nd),n.Zo=aw->∀p,(Zw n k).n.Zo=ax p->(Zw n k).n.Zn=n.Zn/\∃j l,k=j++l :: (Zw n k).n.Zd /\
  ((l.a=0/\YX n.Zn.p n.Zn.l l.b=0/\n.Zn.p≠l.b/\YM p=⟨l.b,n.Zn.l⟩)\/(l.a=2/\Xw n.Zn.p n.Zn.l l.v=0/\l.v ∉ n.Zn.l/\YM p=⟨l.v.b,Jq n.Zn.l l.v⟩)):=by
 intro k
 induction k with
 | nil=>
  grind [Zw]
 | cons l k f=>
  intro n i p h;unfold Zw at h ⊢;rw[if_neg zK]at h ⊢;simp only at h ⊢;rcases (YE { n with Zd:=k } l).2 with K|⟨a,b,c,_,e⟩|⟨a,b,c,_,e⟩
  .have y:(Zy { n with Zd:=k } l).n.Zn=n.Zn:=K.Zn;let⟨s,j,m,r,o⟩:=f _ (by rw[K.Zo];exact i) p h
   grind
  .have d:Zw (Zy { n with Zd:=k } l).n k=⟨{ (Zy { n with Zd:=k } l).n with Zd:=k },[],[]⟩:=Wl (by rw[e];exact fun q=>by cases q) k;rw[d,e]at h ⊢;obtain rfl:=aag h;exact⟨rfl,[],l,rfl,.inl ⟨a,b,c,rfl⟩⟩
  .have d:Zw (Zy { n with Zd:=k } l).n k=⟨{ (Zy { n with Zd:=k } l).n with Zd:=k },[],[]⟩:=Wl (by rw[e];exact fun q=>by cases q) k;rw[d,e]at h ⊢;obtain rfl:=aag h;exact⟨rfl,[],l,rfl,.inr ⟨a,b,c,rfl⟩⟩
structure DV(C:List Cm)(v:Vw)(X:Nat)(n:Nd)(o:Out)(w:Vw):Prop where
 go:Go1 v w X 1
 nd:NV C w X o.n
 l:∀m∈o.ls,LV (ao C) w m
 j:FJ w o.ls
 f:∀Y,Y<5->∀p,FI w p (o.ls.filter (toX Y))
 p:Sv o.n=[]
 ow:o.n.Zn=n.Zn
 ib:o.n.Zd=n.Zd
def DV.plain{o:Out}(k:NV C v X o.n)(d:∀m∈o.ls,LV (ao C) v m/\m.a≠2)(j:Sv o.n=[])(i:o.n.Zn=n.Zn)(f:o.n.Zd=n.Zd):DV C v X n o v:=
 ⟨.refl v 1,k,fun m a=>(d m a).1,FJ.plain fun m a=>(d m a).2,fun _ _ _=>FI.plain fun m a=>(d m (aV.1 a).1).2,j,i,f⟩
def Zl7(hX:X<5)(G:GI S g M)(N:NR S g M X n)(f:n.up=true)(j:n.Zo=aw)(d:JZ C' X n)(H:∀x∈n.ZD,x∈C)(V:NV C v X n){r:XR}(hr:n.Zc=ax r):∃w,DV C v X n (Jc n r) w:=by
 have R:=V.Zc r hr;have aw:∀m∈([]:List Yt),LV (ao C) v m/\m.a≠2:=fun m a=>by cases a
 unfold Jc;split
 .rename_i q;split
  .exact⟨v,.plain V aw (Qh j) rfl rfl⟩
  .have y:=tO G N f d (N.Zc r hr).may (Q6 q);rw[if_pos y,if_pos y];have s:=St.put v (X,r.b,-1,false);have V2:=V.st s;refine⟨_,s.go,V2.same (by rw[Yd f];exact Yd f) V2.k0.2 (fun p h=>?_) V2.Zi V2.Zc,(fun m a=>by cases a),FJ.nil,fun _ _ _=>FI.nil,rfl,rfl,rfl⟩
   grind [PV,Vw.put,RV.a]
 .rename_i q;split
  .refine⟨v,.plain V (fun m a=>?_) (Qh j) rfl rfl⟩;let⟨k,_,a⟩:=aW.1 a;split at a
   .rw[aq.1 a];exact⟨⟨.inr R.a,fun _=>R.a,(fun h=>by cases h),(fun h=>by cases h),(fun h=>by cases h),fun h=>by cases h⟩,zK⟩
   .cases a
  .rename_i h5;have o:=d.Zc r hr;have J:∀t,t<n.ZF.length->Has n.Zi (t:Int):=fun t F e=>by
    have:=d.ZF t F
    grind
   let⟨w,L,c,⟨eH,O,eT⟩,W,R2,bg⟩:=R.rules o V.Zi J d.LA H;have eb:(Xs n r).b=r.b:=(WC n r fun e=>(R.new e).2).1.b;have K:∀b∈w.B,b∈v.B\/b=r.b:=fun b hb=>by
    grind
   have D:∀s:Nat,Has n.Zi s->Vy w s:=fun s h=>L.ch _ (V.Zi s h);let⟨a1,Z,Y⟩:=R2.asks bg D;refine⟨w,⟨L,c,O,?_⟩,⟨fun x z=>⟨((V.acc x z).1).up L,L.dn (V.acc x z).2⟩,V.QB.imp_right (Pm.up L),⟨V.k0.1.up L,V.k0.2.up L⟩,fun b hb e=>?_,fun p h=>(V.Zo p h).up L,D,fun x e=>?_⟩,?_,?_,?_,Qh j,rfl,rfl⟩
   .rcases W with e|⟨e,E⟩
    .exact .inl e
    .refine .inr ⟨r.b,e,R.ZM,(R.new E).1,R.a,_,o.c.maj uh,fun i hi=>L.dn ?_⟩;let⟨vs,h⟩:=o.c.back hi;have:=(R.c _ _ h).1.resolve_right (R.new E).1
     grind
   .rcases K b hb with h|h
    .exact V.Zn b h e
    grind [Yd]
   .grind
   .exact a1
   .exact Z
   .exact Y
def DV.more{o:Out}{k:List Yt}(D:DV C v X n o w){m:Nd}(q:NV C w X m)(d:∀l∈k,LV (ao C) w l/\l.a≠2)(j:Sv m=[])(i:m.Zn=o.n.Zn)(f:m.Zd=o.n.Zd)(ts:List PC):DV C v X n ⟨m,o.ls++k,ts⟩ w:=
 ⟨D.go,q,fun x a=>(aH.1 a).elim (D.l x) fun a=>(d x a).1,D.j.app (FJ.plain fun x a=>(d x a).2),fun Y r p=>by
  grind [FI.app,DV.f,FI.plain],j,by rw[i];exact D.ow,by rw[f];exact D.ib⟩
def DV.of{o:Out}(D:DV C v X m o w)(d:m.Zn=n.Zn)(a:m.Zd=n.Zd):DV C v X n o w:=⟨D.go,D.nd,D.l,D.j,D.f,D.p,by rw[D.ow,d],by rw[D.ib,a]⟩
def Zl8(E:X<5)(G:GI S g M)(N:NR S g M X n)(o:n.up=true)(s:n.Zo=aw)(F:JZ C' X n)(K:∀x∈n.ZD,x∈C)(V:NV C v X n):∃w,DV C v X n (YH n) w:=by
 have J:∃w,DV C v X n (Yj (Zt n)) w:=by
  let⟨H,p1,y⟩:=cH N s o;have k:=(cC F).1;have V1:NV C v X (Zt n)/\(Zt n).Zn=n.Zn/\(Zt n).Zd=n.Zd/\(Zt n).ZD=n.ZD:=by
   rcases UF n with⟨_,e⟩|⟨_,_,_,e⟩|⟨_,_,_,e⟩
   .grind
   .rw[e];exact⟨V.same rfl V.k0.2 V.Zo V.Zi (fun r h=>by cases h),rfl,rfl,rfl⟩
   .grind
  let⟨V1,j,i,O⟩:=V1;unfold Yj;split
  .rename_i r hr;let⟨w,D⟩:=Zl7 E G H y p1 k zK V1 hr;exact⟨w,D.of j i⟩
  .split
   .refine⟨v,(DV.plain (n:=Zt n) V1 (fun m f=>?_) (Qh p1) rfl rfl).of j i⟩;obtain⟨x,_,rfl⟩:=a7.1 f;exact⟨.plain (.inl rfl) (.inl rfl),zK⟩
   .exact⟨v,(DV.plain (n:=Zt n) V1 (fun m f=>by cases f) (Qh p1) rfl rfl).of j i⟩
 let⟨w,D⟩:=J;unfold YH;split
 .grind
 .rename_i q;have z:(Yj (Zt n)).n.Zo=aw:=by
   cases e:(Yj (Zt n)).n.Zo with
   | none=>rfl
   | some p=>grind
  have V2:NV C w X (JT (Yj (Zt n)).n):=D.nd.same rfl D.nd.k0.2 D.nd.Zo D.nd.Zi D.nd.Zc;refine⟨w,D.more V2 (fun l a=>?_) (Qh z) rfl rfl _⟩;unfold Wi at a;split at a
  .rw[aq.1 a];refine⟨.plain (.inr (.inl rfl)) ?_,zK⟩;have d:(JT (Yj (Zt n)).n).up=true:=by
    have:(Yj (Zt n)).n.up=(Zt n).up:=by
     unfold Yj;split
     .grind [Jc]
     .split<;>rfl
    show (Yj (Zt n)).n.up=true;rw[this];exact (cH N s o).2.2
   show K0 w (Wv (JT (Yj (Zt n)).n));unfold Wv;split
   .exact V2.k0.2
   .rw[<-Yd d];exact V2.k0.1
  .cases a
def jB(N:NR S g M X n)(z:n.up=true){p:OT}(k:n.Zo=ax p)(V:NV C v X n)(bk:∀b∈v.B,b∈v.K):
  ∃w,St v w 1/\(∀x∈(YM p).l,SX w (ao C) 0 x/\Dn w X x.b x.Zx)/\Pm w X (YM p).p/\K0 w (YM p).p/\¬Zj (YM p).p n.Zn.p/\∀a to x,p=.Us a to x->Dn w X x.b x.Zx:=by
 have A:=V.acc;rw[Yd z]at A;have P:=V.Zo p k;have R:=N.Zo p k;have QB:∀(b:ZN) (a:QT),a=⟨b,n.Zn.l⟩->(X,b,-1,false)∈v.H->b∈v.K->YX n.Zn.p n.Zn.l b=0->∃w,St v w 1/\(∀x∈a.l,SX w (ao C) 0 x/\Dn w X x.b x.Zx)/\Pm w X a.p/\K0 w a.p/\¬Zj a.p n.Zn.p:=fun b a e E D o=>by
  have s:=St.put v (X,b,-1,true);rw[e];exact⟨_,s,fun x j=>⟨(A x j).1.up s.le,s.le.dn (A x j).2⟩,.inl ⟨s.le.h _ E,a4 ..⟩,.inr (s.le.k _ D),QC o⟩
 cases p with
 | QB a to b vs=>
  let⟨w,s,h⟩:=QB b a R.1 P.1 P.2 R.2.2
  grind [YM]
 | Zn a vs cur=>
  let⟨b,e,_,o,_⟩:=R;have P1:=P.1;have P2:=P.2
  grind [YM]
 | Us a to x=>
  let⟨P1,P2,O,i,K,J,H⟩:=P;let⟨e,r,_⟩:=R;have s:=St.put v (X,x.b,x.Zx,true);have d:Dn (v.put (X,x.b,x.Zx,true)) X x.b x.Zx:=⟨s.le.h _ P1,a4 ..⟩
  have F:Uv (v.put (X,x.b,x.Zx,true)) x.Zx.toNat:=⟨X,x.b,zK⟩
  have Y:SX (v.put (X,x.b,x.Zx,true)) (ao C) 0 x:=⟨P2,O,i,K,J.up s.le.ch (aL _) (aL _),(H.up s.le.u (aL _) (aL _)).next F⟩
  refine⟨_,s,fun y f=>?_,.inr ?_,.inr ?_,?_,fun a' q W Z=>?_⟩
  .have f:y∈a.l:=f;rw[e]at f;unfold Jq at f;rcases aH.1 f with f|f
   .have:=A y (aV.1 f).1;exact⟨this.1.up s.le,s.le.dn this.2⟩
   .rcases bc.1 f with rfl|f
    .grind
    .have:=A y (aV.1 f).1;exact⟨this.1.up s.le,s.le.dn this.2⟩
  .grind [Vw.put,YM]
  .grind [Vw.put,YM]
  .show ¬Zj a.p n.Zn.p;rw[e];exact Q7 r
  grind
def GQ:OT->Prop
 | .Zn _ _ _=>True
 | _=>False
structure SV(C:List Cm)(v:Vw)(X:Nat)(n:Nd)(o:Out)(w:Vw):Prop where
 go:Go1 v w X 1
 nd:NV C w X o.n
 l:∀m∈o.ls,LV (ao C) w m
 j:FJ w o.ls
 f:∀Y,Y<5->∀p,FI w p (o.ls.filter (toX Y))
 b:FI w (YY o.n).p (Sv o.n++o.n.Zd)
 p:¬Zj (YY o.n).p (YY n).p
 ib:∀l∈o.n.Zd,l∈n.Zd
 dt:(ao o.n.data)<=(ao n.data)+38
 a:∀m∈o.ls,m.a=0->m.b.n=(X:Int)/\¬Zj (YY o.n).p m.b
 sp:(YY o.n).p=(YY n).p\/∃p,n.Zo=ax p/\(YY o.n).p=(YM p).p
 sq:∀p,o.n.Zo=ax p->(∃p',n.Zo=ax p'/\(YM p).p=(YM p').p/\(GQ p'->GQ p))\/(∃l∈n.Zd,l.a=0/\(YM p).p=l.b)\/(YM p).p∈v.B\/((YM p).p.n=(X:Int)/\GQ p)
def NV.ZZ(V:NV C v X n):Blank n.Zc:=fun r hr e=>((V.Zc r hr).new e).2
def Zd8(N:NR S g M X n)(o:n.up=true)(NI:JZ C' X n){p:OT}(y:n.Zo=ax p)(V:NV C v X n)(bk:∀b∈v.B,b∈v.K)(F:FI v n.Zn.p (Sv n++n.Zd)):∃w,SV C v X n (Yc (ZE n) p) w:=by
 let⟨w,s,h1,O,K,z,h5⟩:=jB N o y V bk;have V2:=V.st s;have A:=V.acc;rw[Yd o]at A;have R:=N.Zo p y;have f:YY (Yc (ZE n) p).n=YM p:=by
  rw[Yd (by cases p<;>exact o)]
  cases p<;>rfl
 have eO:=Yd o;have W:(Yc (ZE n) p).n.Zo=aw:=by cases p<;>rfl
 have Z:(Yc (ZE n) p).n.Zd=n.Zd:=W0 _ _;have nd:∀m:Nd,YY m=YM p->m.Yy=n.Yy->m.Zo=aw->m.Zi=n.Zi->(∀r,m.Zc=ax r->RV C w X n.Zi r)->NV C w X m:=fun m D e2 e3 e4 e5=>
  ⟨zK,zK,by rw[D,e2];exact⟨K,V2.k0.2⟩,fun b hb e=>by rw[D];exact Xh (by rw[<-eO];exact V2.Zn b hb e) z,(fun q J=>by grind),by rw[e4];exact V2.Zi,fun r hr=>by grind⟩
 have JC:FI w (YM p).p n.Zd:=by
  have F:=F.up s.le z
  cases p with
  | QB a to b vs=>unfold Sv at F;grind
  | Zn a vs cur=>unfold Sv at F;grind
  | Us a to x=>
   unfold Sv at F
   grind [FI,Uv]
 have one:∀l:Yt,LV (ao C) w l->l.a≠2->(∀m∈[l],LV (ao C) w m)/\FJ w [l]/\∀Y,Y<5->∀p,FI w p ([l].filter (toX Y)):=fun l h q=>
  ⟨fun m d=>by grind,FJ.plain fun m d=>by grind,fun _ _ _=>FI.plain fun m d=>by grind⟩
 have fin:NV C w X (Yc (ZE n) p).n->((∀m∈(Yc (ZE n) p).ls,LV (ao C) w m)/\FJ w (Yc (ZE n) p).ls/\∀Y,Y<5->∀H,FI w H ((Yc (ZE n) p).ls.filter (toX Y)))->SV C v X n (Yc (ZE n) p) w:=fun a b=>
  ⟨s.go,a,b.1,b.2.1,b.2.2,by rw[f,Qh W,Z];exact JC,zK,fun l hl=>by grind,by
   have e:(Yc (ZE n) p).n.data=(ZE n).data:=by cases p<;>rfl
   grind [ZE],(fun m d q=>by
   cases p with
   | QB a to b vs=>rw[aq.1 d]at q;cases q
   | Us a to x=>rw[aq.1 d]at q;cases q
   | Zn a vs cur=>cases d),.inr ⟨p,y,by rw[f]⟩,fun q J=>by grind⟩
 have me:((n.me:Nat):Int).toNat=X:=by rw[aX,NI.me]
 refine⟨w,fin ?_ ?_⟩
 .cases p with
  | QB a to b vs=>exact nd _ f rfl rfl rfl V2.Zc
  | Us a to x=>exact nd _ f rfl rfl rfl V2.Zc
  | Zn a vs cur=>
   refine nd _ f rfl rfl rfl fun r hr=>?_;have hr:(if cur=true then n.Zc.map (fun r=>{ r with c:=ins r.c n.me vs }) else n.Zc)=ax r:=hr;split at hr
   .rename_i hc
    cases e:n.Zc with
    | none=>grind
    | some E=>
     rw[e]at hr;obtain rfl:=aag hr;have i:=V2.Zc E e;refine⟨i.ZM,i.a,fun j us q=>?_,i.Xc,i.new,i.T7⟩
     grind [RV.c,XQ,PR,YM]
   .exact V2.Zc r hr
 .cases p with
  | QB a to b vs=>
   refine one _ ⟨.inr (s.le.k _ (V.Zo _ y).2),(fun h=>by cases h),fun _=>⟨?_,fun x k=>?_⟩,(fun h=>by cases h),(fun h=>by cases h),fun h=>by cases h⟩ zK
   .show Pm w ((n.me:Nat):Int).toNat b;rw[me,show b=(YM (.QB a to b vs)).p by show b=a.p;rw[R.1]];exact O
   .have k:x∈vs:=k;rw[R.2.1]at k;exact (A x k).1.up s.le
  | Us a to x=>
   refine one _ ⟨.inl rfl,(fun h=>by cases h),(fun h=>by cases h),(fun h=>by cases h),fun _=>?_,fun h=>by cases h⟩ zK
   grind [ZE]
  | Zn a vs cur=>grind [Yc,FJ.nil,FI.nil]
def Zl9(K:X<5)(G:GI S g M)(hS:∀x,S x->x.err=0)(OX:∀x,S x->x∈C)(N:NR S g M X n)(Z:JZ C' X n)(hr:(ao n.data)<=90000)(V:NV C v X n)(bk:∀b∈v.B,b∈v.K)(O:∀l∈n.Zd,(Qt C' l/\LR S g M l)/\LV (ao C) v l)(F:FI v (YY n).p (Sv n++n.Zd)):∃w,SV C v X n (step n) w:=by
 unfold step;split
 .rename_i k;rw[Yd k]at F;split
  .rename_i p o;exact Zd8 N k Z o V bk F
  .rename_i o;rw[Qh o]at F;let⟨w,s,V1,L1,F1,y,B1⟩:=Zh9 K G hS n.Zd n v N k o Z hr V O F;let⟨H,I,_⟩:=FL K G n.Zd n N k o Z fun l z=>(O l z).1;have E:=GP n.Zd n;split
   .rename_i q;have f:¬(Zw n n.Zd).n.Zo=aw:=fun e=>by grind
    rw[if_neg f]at s;refine⟨w,s.go,V1,L1,FJ.plain fun m d=>(E m d).2,fun _ _ _=>FI.plain fun m d=>(E m (aV.1 d).1).2,by rw[Yd H.up,y];exact F1,by rw[Yd H.up,y,Yd k];exact Yv _,B1,(LN _ _).1,fun m d q=>absurd q (E m d).1,.inl (by rw[Yd H.up,y,Yd k]),fun p J=>?_⟩;let⟨_,j,l,e,h⟩:=OB n.Zd n o p J;have d:l∈n.Zd:=by rw[e];simp
    rcases h with⟨a,_,_,b⟩|⟨a,_,_,b⟩
    .grind
    .let⟨_,_,i,h,_⟩:=(O l d).2.ask a
     grind
   .rename_i q;have f:(Zw n n.Zd).n.Zo=aw:=by
     cases e:(Zw n n.Zd).n.Zo with
     | none=>rfl
     | some p=>grind
    rw[if_pos f]at s;let⟨w2,D⟩:=Zl8 K G H.n H.up f I (fun x hx=>OX x (H.n.b x hx)) V1;have W:YY (YH (Zw n n.Zd).n).n=n.Zn:=by
     rw[Yd,D.ow,y];exact (ZdN K G H.n H.up f I).elim fun _ h=>h.elim fun _ h=>h.h.up
    have G1:Go1 v w2 X 1:=by have:=s.go1 D.go;exact⟨this.le,by have:=this.c;omega,this.k,this.b⟩
    refine⟨w2,G1,D.nd,fun m d=>?_,?_,fun Y hY p=>?_,?_,by rw[W,Yd k];exact Yv _,fun l z=>?_,?_,fun m d q=>?_,.inl (by rw[W,Yd k]),fun p J=>.inr (.inr (.inr ?_))⟩
    .rcases aH.1 d with d|d
     .exact (L1 m d).up D.go.le
     .exact D.l m d
    .exact (FJ.plain fun m d=>(E m d).2).app D.j
    .grind [FI.app,FI.plain,DV.f]
    .rw[W,D.p,D.ib,<-y];rw[Qh f]at F1;rw[y];exact F1.up D.go.le (Yv _)
    .rw[D.ib]at z;exact B1 l z
    .have:=(LN n.Zd n).2 f;show (YH (Zw n n.Zd).n).n.data.length<=_;rcases (YD f V1.ZZ).1.Zo with⟨_,e⟩|⟨_,_,_,_,e,_⟩
     .rw[e];omega
     .rw[e,bd,Ov];omega
    .rcases aH.1 d with d|d
     .grind
     .let⟨r,hr,_,h2,h3,_⟩:=(YD f V1.ZZ).2 m d (.inl q);rw[h3 q];exact⟨(V1.Zc r hr).ZM,zK⟩
    .rcases (YD f V1.ZZ).1.Zo with⟨e,_⟩|⟨r,hr,c1,_,_,e⟩
     .grind
     .rw[show (YH (Zw n n.Zd).n).n.Zo=_ from e]at J;obtain rfl:=aag J;refine⟨?_,trivial⟩;rw[if_pos (tO G H.n H.up I (H.n.Zc r hr).may (Q6 c1))];exact (V1.Zc r hr).ZM
 .exact⟨v,.refl v 1,V,(fun m d=>by cases d),FJ.nil,fun _ _ _=>FI.nil,F,Yv _,fun l z=>z,a6 _ _,(fun m d=>by cases d),.inl rfl,fun p o=>.inl ⟨p,o,rfl,id⟩⟩
end
def DS(w:Wd)(b:ZN):Prop:=∀Y:Nat,Y<5->b.n=Y->¬Zj (YY (w.Za Y)).p b
def Ak(w:Wd)(l:Yt):Prop:=l.a=0->DS w l.b
structure WV(C:List Cm)(v:Vw)(w:Wd):Prop where
 nd:∀X,X<5->NV C v X (w.Za X)
 WM:∀l∈w.b,LV (ao C) v l
 JC:∀X,X<5->∀l∈(w.Za X).Zd,LV (ao C) v l
 fj:FJ v w.b
 ff:∀X,X<5->FI v (YY (w.Za X)).p (w.b.filter (toX X))
 fb:∀X,X<5->FI v (YY (w.Za X)).p (Sv (w.Za X)++(w.Za X).Zd)
 bg:∀b∈v.B,b∈v.K/\∃Q,Co Q/\∀i∈Q,Dn v i b (-1)
 nB:v.B.Nodup
 kr:∀b∈v.K,(1<=b.r/\b.r<=v.K.length)/\0<=b.n/\b.n<5
 aF:∀l∈w.b,Ak w l
 aI:∀X,X<5->∀l∈(w.Za X).Zd,Ak w l
 sN:∀X,X<5->DS w (YY (w.Za X)).p/\∀p,(w.Za X).Zo=ax p->DS w (YM p).p\/((YM p).p.n=(X:Int)/\GQ p)
section
variable {C C':List Cm} {u v:Vw} {w:Wd} {X:Nat} {n m:Nd} {S:Cm->Prop} {g:Gh} {M:Nat->ZN}
def WV.up(W:WV C u w)(L:u.Le v)(f:v.B=u.B)(kr:∀b∈v.K,(1<=b.r/\b.r<=v.K.length)/\0<=b.n/\b.n<5):WV C v w:=
 ⟨fun X a=>(W.nd X a).up L fun b hb=>.inl zK,fun l d=>(W.WM l d).up L,fun X a l d=>(W.JC X a l d).up L,W.fj.up L,fun X a=>(W.ff X a).up L (Yv _),fun X a=>(W.fb X a).up L (Yv _),fun b hb=>by
  grind [WV.bg,Vw.Le.k,Vw.Le.dn],by rw[f];exact W.nB,kr,W.aF,W.aI,W.sN⟩
def WV.out(W:WV C u w)(K:X<5){o:Out}(h:SV C u X (w.Za X) o v):WV C v (w.out X o):=by
 have L:=h.go.le;have other:∀Y,Y≠X->(w.out X o).Za Y=w.Za Y:=fun Y e=>by unfold Wd.out;grind
 have here:(w.out X o).Za X=o.n:=by unfold Wd.out;simp
 have pn:∀Y,¬Zj (YY ((w.out X o).Za Y)).p (YY (w.Za Y)).p:=fun Y=>by
  grind [SV.p,Yv]
 have st:∀b,DS w b->DS (w.out X o) b:=fun b a Y f e=>Xh (a Y f e) (pn Y);have ak:∀l,Ak w l->Ak (w.out X o) l:=fun l a q=>st _ (a q);refine⟨fun Y f=>?_,fun l d=>?_,fun Y f l d=>?_,(W.fj.up L).app h.j,fun Y f=>?_,fun Y f=>?_,fun b hb=>?_,?_,by rw[h.go.k];exact W.kr,fun l d=>?_,fun Y f l d=>?_,fun Y f=>?_⟩
 .by_cases e:Y=X
  .subst e;rw[here];exact h.nd
  .rw[other Y e];refine (W.nd Y f).up L fun b hb=>?_;rcases h.go.b with q|⟨i,q,k,_⟩
   .grind
   grind
 .rcases aH.1 d with d|d
  .exact (W.WM l d).up L
  .exact h.l l d
 .grind [LV.up,WV.JC,SV.ib]
 .grind [Wd.out,FI.app,FI.up,WV.ff,SV.f]
 .grind [SV.b,FI.up,WV.fb]
 .rcases h.go.b with q|⟨i,q,k,_,j,Q,F,E⟩
  .grind [WV.bg,Vw.Le.k,Vw.Le.dn]
  grind [WV.bg,Vw.Le.k,Vw.Le.dn]
 .rcases h.go.b with q|⟨i,q,_,j,_⟩
  .rw[q];exact W.nB
  grind [WV.nB]
 .grind [Ak,Wd.out,WV.aF,SV.a,DS]
 .grind [WV.aI,SV.ib]
 .by_cases e:Y=X
  .subst e;rw[here];have z:=W.sN Y f;refine⟨?_,fun p r=>?_⟩
   .grind [DS,SV.sp,Yv]
   .rcases h.sq p r with⟨J,H,q,D⟩|⟨l,d,a,q⟩|q|q
    .grind
    .rw[q];exact .inl (st _ (W.aI Y f l d a))
    .exact .inl (st _ fun Z s y=>(W.nd Z s).Zn _ q y)
    grind
  grind [WV.sN]
theorem WV.set(W:WV C u w)(i:X<5)(s:Go1 u v X 1)(z:NV C v X m)(y:FI v (YY m).p (Sv m++m.Zd))(r:¬Zj (YY m).p (YY (w.Za X)).p)(q:∀l∈m.Zd,l∈(w.Za X).Zd)(o:(ao m.data)<=(w.Za X).data.length+38)(k:(YY m).p=(YY (w.Za X)).p\/∃p,(w.Za X).Zo=ax p/\(YY m).p=(YM p).p)(j:∀p,m.Zo=ax p->∃a,(w.Za X).Zo=ax a/\(YM p).p=(YM a).p/\(GQ a->GQ p)):WV C v (w.set X m):=by
 rw[Re];exact W.out i ⟨s,z,(fun l d=>by cases d),FJ.nil,(fun _ _ _=>FI.nil),y,r,q,o,(fun l d=>by cases d),k,fun p f=>.inl (j p f)⟩
theorem WV.soft(W:WV C u w)(d:X<5)(e:YY m=YY (w.Za X))(k:NV C u X m)(j:Sv m=Sv (w.Za X))(i:m.Zd=(w.Za X).Zd)(o:m.data=(w.Za X).data)(f:∀p,m.Zo=ax p->∃a,(w.Za X).Zo=ax a/\(YM p).p=(YM a).p/\(GQ a->GQ p)):WV C u (w.set X m):=
 W.set d (.refl u 1) k (by rw[e,j,i];exact W.fb X d) (by rw[e];exact Yv _) zK zK (.inl (by rw[e])) f
def WV.XN(W:WV C v w){l:Yt}(r:0<=l.to/\l.to<5)(j:LV (ao C) v l)(o:Ak w l)(k:l.a=2->RU (Uv v) l.v.Zx.toNat (gT v)):WV C v (XN w l):=by
 unfold Go.Proofs.YtkhkmpfenaipaaaGreatDoor.XN;split
 .have p:l.to.toNat<5:=uh;have other:∀Y,Y≠l.to.toNat->(w.set l.to.toNat { w.Za l.to.toNat with Zd:=(w.Za l.to.toNat).Zd++[l] }).Za Y=w.Za Y:=fun Y e=>by unfold Wd.set;grind
  have here:(w.set l.to.toNat { w.Za l.to.toNat with Zd:=(w.Za l.to.toNat).Zd++[l] }).Za l.to.toNat = { w.Za l.to.toNat with Zd:=(w.Za l.to.toNat).Zd++[l] }:=by unfold Wd.set;simp
  have i:∀Y,YY ((w.set l.to.toNat { w.Za l.to.toNat with Zd:=(w.Za l.to.toNat).Zd++[l] }).Za Y)=YY (w.Za Y):=fun Y=>by
   grind [YY]
  have st:∀b,DS w b->DS (w.set l.to.toNat { w.Za l.to.toNat with Zd:=(w.Za l.to.toNat).Zd++[l] }) b:=fun x a Y d e=>by rw[i];exact a Y d e
  have ak:∀x,Ak w x->Ak (w.set l.to.toNat { w.Za l.to.toNat with Zd:=(w.Za l.to.toNat).Zd++[l] }) x:=fun x a q=>st _ (a q);refine⟨fun Y d=>?_,W.WM,fun Y d x f=>?_,W.fj,fun Y d=>?_,fun Y d=>?_,W.bg,W.nB,W.kr,fun x f=>ak x (W.aF x f),fun Y d x f=>ak x ?_,fun Y d=>?_⟩
  .grind [NV.box,WV.nd]
  .grind [WV.JC]
  .rw[i];exact W.ff Y d
  .by_cases e:Y=l.to.toNat
   .subst e;rw[here];show FI v (YY (w.Za l.to.toNat)).p (Sv (w.Za l.to.toNat)++((w.Za l.to.toNat).Zd++[l]))
    grind [FI.app,WV.fb,FI.one]
   .rw[other Y e];exact W.fb Y d
  .grind [WV.aI]
  .have s:((w.set l.to.toNat { w.Za l.to.toNat with Zd:=(w.Za l.to.toNat).Zd++[l] }).Za Y).Zo=(w.Za Y).Zo:=by
    by_cases e:Y=l.to.toNat
    .grind
    .grind
   grind [WV.sN]
 .exact W
def K0.r(kr:∀b∈v.K,(1<=b.r/\b.r<=v.K.length)/\0<=b.n/\b.n<5){b:ZN}(h:K0 v b):0<=b.r/\b.r<=v.K.length:=by
 grind [Y2,K0]
theorem Zd9(W:WV C v w)(d:X<5)(E:(w.Za X).me=X):∃u,WV C u (w.set X (lead (w.Za X)))/\u.cost<=v.cost+1/\u.K.length<=v.K.length+1/\v.Le u:=by
 have V:=W.nd X d;by_cases q:(w.Za X).up=false\/65536<(Yl (w.Za X)).r
 .grind [lead,WV.soft,Vw.Le.refl]
 .have D:(w.Za X).up=true:=by
   cases e:(w.Za X).up with
   | true=>rfl
   | false=>grind
  have k:=Yd D;have z:=K0.r W.kr V.k0.1;have F:=K0.r W.kr V.k0.2;rw[k]at z;have hr:(w.Za X).Zn.p.r<(Yl (w.Za X)).r/\1<=(Yl (w.Za X)).r/\(Yl (w.Za X)).r<=v.K.length+1:=by
   unfold Yl;simp only;split
   .rename_i r hr;have:=W.kr _ (V.Zc r hr).a;omega
   .omega
  have y:(Yl (w.Za X)).n=X:=by show (((w.Za X).me:Nat):Int)=X;rw[E]
  obtain⟨u,hw⟩:∃u:Vw,u = { v with K:=Yl (w.Za X) :: v.K }:=⟨_,rfl⟩
  have L:v.Le u:=by rw[hw];exact⟨fun x h=>h,fun i x h=>h,fun x h=>a0 _ h,aL _⟩
  have f:u.B=v.B:=by rw[hw]
  have hK:u.K=Yl (w.Za X) :: v.K:=by rw[hw]
  have o:WV C u w:=W.up L f fun b hb=>by
   rw[hK]at hb ⊢;simp only[List.length_cons];rcases bc.1 hb with rfl|hb
   .grind
   .have:=W.kr b hb;omega
  refine⟨u,?_,by rw[hw];simp[Vw.cost];omega,by rw[hK];simp,L⟩;have V2:=o.nd X d;have e:lead (w.Za X) = { w.Za X with Zc:=ax ⟨Yl (w.Za X),[],false,[],[]⟩,Zo:=XM (w.Za X).Zo }:=by unfold lead;rw[if_neg q]
  rw[e];refine o.soft d rfl (V2.same rfl V2.k0.2 (fun p h=>?_) V2.Zi fun r h=>?_) ?_ rfl rfl (fun p h=>?_)
  .have h:XM (w.Za X).Zo=ax p:=h
   cases e:(w.Za X).Zo with
   | none=>rw[e]at h;cases h
   | some p0=>
    have P:=V2.Zo p0 e;rw[e]at h
    cases p0 with
    | QB a to b vs=>cases h;exact P
    | Us a to x=>cases h;exact P
    | Zn a vs cur=>cases h;exact P
  .rw[<-aag h];refine⟨y,zK,fun j vs h=>(by cases h),fun s K j h=>(by cases h),fun _=>⟨fun h=>?_,fun _=>rfl⟩,fun h=>by cases h⟩;rw[f]at h;have:=V.Zn _ h y;rw[k]at this;exact this (.inl hr.1)
  .unfold Sv;show (match XM (w.Za X).Zo with|some (.Us _ _ x)=>[(⟨2,0,0,Y2,x,[]⟩:Yt)]|_=>[])=_
   cases (w.Za X).Zo with
   | none=>rfl
   | some p=>cases p<;>rfl
  .have h:XM (w.Za X).Zo=ax p:=h
   cases e:(w.Za X).Zo with
   | none=>rw[e]at h;cases h
   | some p0=>
    rw[e]at h;refine⟨p0,rfl,?_,?_⟩
    .cases p0<;>cases h<;>rfl
    .cases p0<;>cases h<;>exact id
theorem tT{A:QT}{up:Bool}{d:List Nat}{z:Int}(V:NV C v X n)(e:YY (ZZ X up d z A)=YY n):NV C v X (ZZ X up d z A):=
 V.same e (.inl rfl) (fun p h=>by cases h) (fun s h=>absurd rfl h) fun r h=>by cases h
theorem Zia(W:WV C v w)(o:X<5)(N:NR S g M X (w.Za X)){Zh:Int}(F:0<=Zh):∃u,WV C u (w.set X (Y4 X (w.Za X) Zh))/\u.cost<=v.cost+1/\u.K.length<=v.K.length/\v.Le u:=by
 have V:=W.nd X o
 cases f:(w.Za X).up with
 | false=>
  grind [Y4,WV.soft,Vw.Le.refl]
 | true=>
  let⟨D,y,a⟩:=Dv N.tape f F (i:=X);have k:(Y4 X (w.Za X) Zh).data.length<=(w.Za X).data.length+38:=by
   unfold Y4;rw[if_pos f];split
   .grind [ZZ]
   .exact Nat.zero_le _
  let⟨d,z,e⟩:=M7 X (w.Za X) Zh f;rw[e]at D y a k ⊢;have J:=Yd f;have fb:∀(u:Vw) p,FI u p (Sv (ZZ X false d z Qj)++(ZZ X false d z Qj).Zd):=fun _ _=>FI.nil;rcases a with a|⟨p,j,a⟩
  .grind [ZZ,WV.set,Go1.refl,tT,Yv,Vw.Le.refl]
  .let⟨u,s,Y,O,K,H,_⟩:=jB N f j V fun b hb=>(W.bg b hb).1;have V2:=V.st s;refine⟨u,W.set o s.go ⟨zK,zK,⟨zK,.inl rfl⟩,fun b hb q=>?_,(fun p h=>by cases h),(fun s h=>absurd rfl h),fun r h=>by cases h⟩ (fb _ _) zK (fun l E=>by cases E) k (.inr ⟨p,j,by rw[a]⟩) (fun p h=>by cases h),s.c,by rw[s.k];grind,s.le⟩;rw[a];exact Xh (by rw[<-J];exact V2.Zn b hb q) H
def tU(W:WV C v w)(f:X<5)(N:NR S g M X (w.Za X)):WV C v (w.set X (started X (w.Za X))):=by
 have V:=W.nd X f
 cases o:(w.Za X).up with
 | true=>
  grind [started,WV.soft]
 | false=>
  let⟨r,k,j⟩:=Dw N.tape o (i:=X);have a:=Yd k;rw[j]at a;have e:∃d z A,started X (w.Za X)=ZZ X true d z A/\(ao d)<=(w.Za X).data.length:=by
   unfold started;rw[if_neg zK];refine⟨_,_,_,rfl,?_⟩;unfold Hc;split
   .grind
   .grind
  let⟨d,z,A,e,s⟩:=e;rw[e]at a ⊢;exact W.set f (.refl v 1) (tT V a) FI.nil (by rw[a];exact Yv _) (fun l q=>by cases q) (by show (ao d)<=_;omega) (.inl (by rw[a])) (fun p h=>by cases h)
def Zma(W:WV C v w)(j:∀l∈w.b,0<=l.to/\l.to<5){at':Nat}(D:at'<20)(comes stays:Bool):∃u,WV C u (pick w at' comes stays)/\u.cost<=v.cost+1/\u.K.length<=v.K.length/\v.Le u:=by
 obtain⟨u,hw⟩:∃u:Vw,u = { v with T:=v.T+1 }:=⟨_,rfl⟩
 have L:v.Le u:=by rw[hw];exact⟨fun x h=>h,fun i x h=>h,fun x h=>h,bn _⟩
 have d:WV C u w:=W.up L (by rw[hw]) (by rw[hw];exact W.kr);refine⟨u,?_,by rw[hw];simp[Vw.cost];omega,zK,L⟩;unfold pick;split
 .exact d
 .rename_i l p;let⟨hi,E⟩:=List.getElem?_eq_some_iff.1 p;have f:l∈w.b:=List.mem_of_getElem? p;have o:w.b=w.b.take (at'%w.b.length)++l :: w.b.drop (at'%w.b.length+1):=by
   rw[<-E,List.getElem_cons_drop,List.take_append_drop]
  have k:w.b.eraseIdx (at'%w.b.length)=w.b.take (at'%w.b.length)++w.b.drop (at'%w.b.length+1):=List.eraseIdx_eq_take_drop_succ ..;have y:(w.b.take (at'%w.b.length)).length<=19:=by
   rw[List.length_take];have:=Nat.mod_le at' w.b.length;omega
  generalize w.b.take (at'%w.b.length)=a at o k y;generalize w.b.drop (at'%w.b.length+1)=c at o k;have ig:l.a=2->RU (Uv u) l.v.Zx.toNat (gT u):=fun s=>(W.fj a l c o s).up L.u (aL _) (Nat.div_le_div_right zK);have F:WV C u { w with b:=w.b.eraseIdx (at'%w.b.length) }:=by
   rw[k];refine⟨d.nd,fun x r=>d.WM x zK,d.JC,?_,fun X z=>?_,d.fb,d.bg,d.nB,d.kr,fun x r=>d.aF x zK,d.aI,d.sN⟩
   .have:=W.fj
    grind [FJ.out]
   .have:=d.ff X z
    grind [FI.out]
  have q:=d.WM l f;split
  .split
   .exact d.XN (j l f) q (d.aF l f) ig
   .exact F.XN (j l f) q (d.aF l f) ig
  grind
def Zju(W:WV C v w):WV C v (LH w):=by
 have f:∀X,((LH w).Za X = { w.Za X with Zd:=(w.Za X).Zd++w.b.filter (toX X) }\/(LH w).Za X=w.Za X)/\(LH w).b=[]:=fun X=>by
  refine⟨?_,(LG _ _).2.2⟩;unfold LH;rw[DJ];split
  .exact .inl rfl
  grind
 have st:∀b,DS w b->DS (LH w) b:=fun b a Y k e=>by
  rcases (f Y).1 with j|j
  .rw[j];exact a Y k e
  .rw[j];exact a Y k e
 refine⟨fun X i=>?_,fun l d=>?_,fun X i l d=>?_,by rw[(f 0).2];exact FJ.nil,fun X i=>by rw[(f X).2];exact FI.nil,fun X i=>?_,W.bg,W.nB,W.kr,fun l d=>?_,fun X i l d=>?_,fun X i=>?_⟩
 .grind [NV.box,WV.nd]
 .rw[(f 0).2]at d;cases d
 .grind [WV.JC,WV.WM]
 .rcases (f X).1 with e|e
  .rw[e];show FI v (YY (w.Za X)).p (Sv (w.Za X)++((w.Za X).Zd++w.b.filter (toX X)))
   grind [FI.app,WV.fb,WV.ff]
  .rw[e];exact W.fb X i
 .rw[(f 0).2]at d;cases d
 .refine fun q=>st _ ((?_:Ak w l) q)
  grind [WV.aI,WV.aF]
 grind [YY,WV.sN]
theorem Zea(W:WV C v w)(f:X<5)(d:List Nat):WV C v (Wj w X d):=by
 unfold Wj;split
 .split
  .exact⟨W.nd,W.WM,W.JC,W.fj,W.ff,W.fb,W.bg,W.nB,W.kr,W.aF,W.aI,W.sN⟩
  .split
   .exact⟨W.nd,W.WM,W.JC,W.fj,W.ff,W.fb,W.bg,W.nB,W.kr,W.aF,W.aI,W.sN⟩
   .let⟨m,a⟩:=ZO (VT (add (w.Za X) (JL d (w.Za X).ZF.length)) (JL d (w.Za X).ZF.length));rw[<-a];have e:YY m=YY (w.Za X)/\m.Yy=(w.Za X).Yy/\m.Zo=(w.Za X).Zo/\m.Zi=(w.Za X).Zi/\m.Zc=(w.Za X).Zc/\m.Zd=(w.Za X).Zd/\m.data=(w.Za X).data:=by
     rw[a];unfold VT add;split<;>split<;>exact⟨rfl,rfl,rfl,rfl,rfl,rfl,rfl⟩
    let⟨k,s,j,i,r,q,o⟩:=e;have V:=W.nd X f;exact W.soft f k (V.same k (by rw[s];exact V.k0.2) (by rw[j];exact V.Zo) (by rw[i];exact V.Zi) (by rw[i,r];exact V.Zc)) (by unfold Sv;rw[j]) q o (fun p h=>⟨p,zK,rfl,id⟩)
 .exact W
end
section
variable {C C':List Cm} {u v:Vw} {w:Wd} {X:Nat} {n m:Nd} {S:Cm->Prop} {g:Gh} {M:Nat->ZN}
theorem zh(w:Wd)(l:Yt)(Y:Nat):((XN w l).Za Y).data=(w.Za Y).data:=by
 grind [XN,Wd.set]
theorem zi(w:Wd)(i:Nat)(c s:Bool)(Y:Nat):((pick w i c s).Za Y).data=(w.Za Y).data:=by
 grind [pick,zh]
def Zeb(w:Wd)(Y:Nat):((LH w).Za Y).data=(w.Za Y).data:=by
 unfold LH;rw[DJ];split<;>rfl
theorem DT{w:Wd}{X Y:Nat}{m:Nd}(h:(ao m.data)<=(w.Za X).data.length+38):((w.set X m).Za Y).data.length<=(w.Za Y).data.length+(if X=Y then 38 else 0):=by
 grind [Wd.set]
def Wr(a:Ac)(X:Nat):Bool:=decide (a.a≠7/\a.ZM=X)
def Zjv(W:WV C v w){k:Nat}(I:WI C' k w)(T:TI S g M w)(hS:∀x,S x->x.err=0)(OX:∀x,S x->x∈C){a:Ac}(hi:a.ZM<5)(p:0<=a.Zh)(f:a.a=4\/a.a=5\/a.a=6->a.at'<20)(i:∀X,X<5->(w.Za X).data.length<=90000):
  ∃u,WV C u (act w a)/\u.cost<=v.cost+(if a.a=1 then 0 else 1)/\u.K.length<=v.K.length+(if a.a=2 then 1 else 0)/\v.Le u/\∀Y,((act w a).Za Y).data.length<=(w.Za Y).data.length+(if Wr a Y=true then 38 else 0):=by
 have j:∀Y,a.a≠7->(if Wr a Y=true then 38 else 0)=if a.ZM=Y then 38 else 0:=fun Y h=>by
  grind [Wr]
 have N:=T.nd a.ZM hi;have o:=I.nd a.ZM hi;unfold act;split
 .grind [Wj,Wr,Zea,Vw.Le.refl,Wd.set,VT,add]
 rename_i s;split
 .grind [lead,Zd9,JZ.me,DT]
 rename_i r;split
 .rename_i h;let⟨u,h⟩:=Zl9 hi T.a hS OX N o (i _ hi) (W.nd _ hi) (fun b hb=>(W.bg b hb).1) (fun l d=>⟨⟨I.JC _ hi l d,T.JC _ hi l d⟩,W.JC _ hi l d⟩) (W.fb _ hi);refine⟨u,W.out hi h,h.go.c,by rw[h.go.k];grind,h.go.le,fun Y=>?_⟩;rw[j Y uh];unfold Wd.out;simp only;by_cases e:Y=a.ZM
  .subst e;rw[if_pos rfl,if_pos rfl];exact h.dt
  grind
 split
 .rename_i h;let⟨u,y,c,k,le⟩:=Zma W (fun l d=>(I.WM l d).to) (f h) (decide (a.a≠5)) (decide (a.a=6))
  grind [zi]
 split
 .exact⟨v,Zju W,bn _,aL _,.refl v,fun Y=>by
   rw[show (w.b.foldl XN { w with b:=[] })=LH w from rfl,Zeb];grind⟩
 rename_i q;split
 .grind [Y4,Zia,DT,ZZ]
 .refine⟨v,tU W hi N,bn _,aL _,.refl v,fun Y=>?_⟩
  grind [started,DT,ZZ,Hc]
def Bb(S:Cm->Prop)(C:List Cm)(a:Ac):Prop:=C8 S C a/\(a.a=4\/a.a=5\/a.a=6->a.at'<20)
def Vr(l:List Ac):Nat:=l.countP fun a=>decide (a.a=1)
def leads(l:List Ac):Nat:=l.countP fun a=>decide (a.a=2)
def tV(hC:(ao C')<=100000)(hS:∀x,S x->x.err=0)(OX:∀x,S x->x∈C):∀(l:List Ac) (k:Nat) (w:Wd) (g:Gh) (M:Nat->ZN) (v:Vw),WV C v w->WI C' k w->TI S g M w->(∀a∈l,Bb S C' a)->(∀X,X<5->(w.Za X).data.length+38*l.countP (fun a=>Wr a X)<=90000) ->
  ∃u,WV C u (l.foldl act w)/\u.cost+Vr l<=v.cost+(ao l)/\u.K.length<=v.K.length+leads l/\v.Le u/\∀X,((l.foldl act w).Za X).data.length<=(w.Za X).data.length+38*l.countP (fun a=>Wr a X):=by
 intro l
 induction l with
 | nil=>grind [Vr,Vw.Le.refl]
 | cons a l r=>
  intro k w g M v W I T j y;let⟨⟨f,p,z⟩,h4⟩:=j a zX;have N:∀X,(a :: l).countP (fun a=>Wr a X)=l.countP (fun a=>Wr a X)+if Wr a X=true then 1 else 0:=fun X=>List.countP_cons ..
  let⟨u,F,c,K,le,d⟩:=Zjv W I T hS OX f.1 p h4 fun X o=>by grind
  let⟨g',M',_,H⟩:=AD hC I T a f.1 p z;have q:∀X,((act w a).Za X).data.length+38*l.countP (fun a=>Wr a X)<=(w.Za X).data.length+38*(a :: l).countP (fun a=>Wr a X):=fun X=>by
   grind
  let⟨x,E,O,J,i,D⟩:=r (k+1) (act w a) g' M' u F (Dt hC I a f.1 f.2) H (fun x s=>j x (by simp[s])) fun X o=>bf (q X) (y X o);refine⟨x,E,?_,?_,le.trans i,fun X=>bf (D X) (q X)⟩
  .grind [Vr]
  grind [leads]
def Zjw(hC:(ao C')<=100000)(hS:∀x,S x->x.err=0)(OX:∀x,S x->x∈C):∀(l:List Ac) (k:Nat) (w:Wd) (g:Gh) (M:Nat->ZN) (v:Vw),WV C v w->WI C' k w->TI S g M w->(∀a∈l,Bb S C' a)->(∀X,X<5->(w.Za X).data.length+38*l.countP (fun a=>Wr a X)<=90000) ->
  ∃u,WV C u (l.foldl act w)/\u.cost+Vr l<=v.cost+(ao l)/\u.K.length<=v.K.length+leads l/\∀X,((l.foldl act w).Za X).data.length<=(w.Za X).data.length+38*l.countP (fun a=>Wr a X):=fun l k w g M v W I T h d=>by
 let⟨u,a,b,c,_,e⟩:=tV hC hS OX l k w g M v W I T h d
 grind
def vw0:Vw:=⟨[],[],[],0⟩
def jC:WV C vw0 Qf:=by
 refine⟨fun X d=>?_,(fun l a=>by cases a),(fun X d l a=>by cases a),FJ.nil,fun X d=>FI.nil,fun X d=>FI.nil,(fun b hb=>by cases hb),.nil,(fun b hb=>by cases hb),(fun l a=>by cases a),(fun X d l a=>by cases a),fun X d=>⟨fun Y j _=>Yv _,fun p h=>by cases h⟩⟩;exact⟨fun x f=>(by cases f),.inl rfl,⟨.inl rfl,.inl rfl⟩,(fun b hb=>by cases hb),(fun p i=>by cases i),(fun s h=>absurd rfl h),fun r hr=>by cases hr⟩
end
def grp{α β:Type}[DecidableEq β](H:List β)(gid:β->α)(wt:α->Nat):∀d:List α,d.Nodup->(∀g∈d,∃L:List β,L.Nodup/\(∀x∈L,x∈H/\gid x=g)/\wt g<=(ao L))->∃L:List β,L.Nodup/\(∀x∈L,x∈H/\gid x∈d)/\(d.map wt).sum<=(ao L):=by
 intro d
 induction d with
 | nil=>intro _ _;exact⟨[],.nil,(fun x f=>by cases f),aL _⟩
 | cons g d k=>
  intro i h;rw[List.nodup_cons]at i;let⟨L,o,y,s⟩:=k i.2 fun x f=>h x (by simp[f]);let⟨L',j,q,p⟩:=h g zX;refine⟨L'++L,bh.2 ⟨j,o,fun a r b hb e=>i.1 ?_⟩,fun x f=>?_,?_⟩
  .grind
  .grind
  grind
def six{v:Vw}{b:ZN}{s:Int}{Q:List Nat}(q:Co Q)(d:∀i∈Q,Dn v i b s):∃L:List (Nat × ZN × Int × Bool),L.Nodup/\(∀x∈L,x∈v.H/\x.2.1=b/\x.2.2.1=s)/\6<=(ao L):=by
 have inj:∀(t:Bool),(Q.map fun i=>(i,b,s,t)).Nodup:=fun t=>
  bl.2 (List.Pairwise.imp (fun h e=>h zK) q.1)
 refine⟨(Q.map fun i=>(i,b,s,false))++Q.map fun i=>(i,b,s,true),bh.2 ⟨inj _,inj _,fun x a y f e=>?_⟩,fun x a=>?_,?_⟩
 .grind
 .rcases aH.1 a with a|a
  .obtain⟨i,hi,rfl⟩:=a7.1 a;exact⟨(d i hi).1,rfl,rfl⟩
  .obtain⟨i,hi,rfl⟩:=a7.1 a;exact⟨(d i hi).2,rfl,rfl⟩
 .have:=q.2.2
  grind
def DU(c m chi P:Nat):Nat:=((a5 m).map fun i=>min P (c*(i+1)+chi)).sum
def DW{α:Type}(f g:α->Nat):∀(l:List α),(∀x∈l,f x<=g x)->(l.map f).sum<=(l.map g).sum:=by
 intro l
 induction l with
 | nil=>grind
 | cons x l a=>
  grind
def MC{α:Type}(f:α->Bool):∀l:List α,(ao l)=(l.filter f).length+(l.filter fun x=>!f x).length:=by
 intro l
 induction l with
 | nil=>rfl
 | cons x l a=>
  grind
def FP{P:Nat->Prop}[DecidablePred P]{s k:Nat}(h:RU P s k):s<=k+((a5 s).filter fun x=>decide (P x)).length:=by
 have e:=MC (fun x=>decide (P x)) (a5 s);have:=h ((a5 s).filter fun x=>!decide (P x)) (List.nodup_range.filter _) fun x a=>by
  grind
 grind
def GR{P:Nat->Prop}[DecidablePred P]{s t:Nat}(h:s<=t):((a5 s).filter fun x=>decide (P x)).length<=((a5 t).filter fun x=>decide (P x)).length:=
 YS (List.nodup_range.filter _) fun x a=>by
  grind
def TE(a:QT)(k:ZN × Int):Prop:=(k.2 = -1->Zj a.p k.1)/\(k.2 ≠ -1->¬Zj k.1 a.p/\∀y∈a.l,y.b=k.1->y.Zx≠k.2)
def Xa(n:Nd):QT:=match n.Zo with|some p=>YM p|none=>n.Zn
def Jw(l:Yt):ZN × Int:=if l.a=0 then (l.b,-1) else (l.v.b,l.v.Zx)
instance (a:QT)(k:ZN × Int):Decidable (TE a k):=by unfold TE;infer_instance
def mu(Ko:List (ZN × Int))(a:QT):Nat:=(Ko.filter fun k=>decide (TE a k)).length
def me(Ko:List (ZN × Int))(n:Nd):Nat:=2*mu Ko (Xa n)+(if n.Zo=aw then 0 else 1)
def Zjx{Ko:List (ZN × Int)}{a d:QT}(h:∀k,TE d k->TE a k):mu Ko d<=mu Ko a:=by
 unfold mu
 induction Ko with
 | nil=>grind
 | cons k Ko f=>
  grind
theorem jD{Ko:List (ZN × Int)}{a d:QT}(h:∀k,TE d k->TE a k){k0:ZN × Int}(f:k0∈Ko)(p:TE a k0)(o:¬TE d k0):mu Ko d+1<=mu Ko a:=by
 induction Ko with
 | nil=>cases f
 | cons k Ko i=>
  have j:=Zjx (Ko:=Ko) h
  grind [mu]
theorem Zec(Ko:List (ZN × Int))(a:QT):mu Ko a<=(ao Ko):=a9 ..
theorem Lb{a b c:ZN}(h:Zj a b)(k:Zj b c):Zj a c:=by unfold Zj at *;omega
theorem Wf{a b c:ZN}(h:¬Zj b a)(k:Zj b c):Zj a c:=by unfold Zj at *;omega
theorem DX{a:QT}{b:ZN}(h:¬Zj b a.p):∀k,TE ⟨b,a.l⟩ k->TE a k:=fun k q=>⟨fun e=>Wf h (q.1 e),fun e=>⟨fun z=>(q.2 e).1 (DO z h),(q.2 e).2⟩⟩
def DY{a:QT}{v:Vt}(h:¬Zj v.b a.p)(d:∀y∈a.l,¬Zj a.p y.b):∀k,TE ⟨v.b,Jq a.l v⟩ k->TE a k:=by
 grind [Jq,TE,DO,UW]
theorem cU{a:QT}{b:ZN}(h:Zj a.p b):(∀k,TE ⟨b,a.l⟩ k->TE a k)/\TE a (b,-1)/\¬TE ⟨b,a.l⟩ (b,-1):=by
 grind [TE,Zj]
def tW{a:QT}{v:Vt}(h:¬Zj v.b a.p)(i:∀y∈a.l,¬Zj a.p y.b)(p:0<=v.Zx)(j:v ∉ a.l)(uq:∀y∈a.l,y.b=v.b->y.Zx=v.Zx->y=v):
  (∀k,TE ⟨v.b,Jq a.l v⟩ k->TE a k)/\TE a (v.b,v.Zx)/\¬TE ⟨v.b,Jq a.l v⟩ (v.b,v.Zx):=by
 have f:v∈Jq a.l v:=by unfold Jq;simp
 have d:v.Zx ≠ -1:=uh;exact⟨DY h i,⟨fun e=>absurd e d,fun _=>⟨h,fun y o s r=>j zK⟩⟩,fun q=>(q.2 d).2 v f rfl rfl⟩
structure XP(S:Cm->Prop)(C:List Cm)(b:ZN)(L T:Nat)(w:Nat->Wd)(g:Nat->Gh)(M:Nat->Nat->ZN):Prop where
 hC:(ao C)<=100000
 hb:Zv b
 a:∀t,w (t+1)=C9 (w t)
 pw:PW C b L (w 0)
 nf:∀t,t<=T->∀X,X<5->¬Full ((w t).Za X)
 ti:∀t,t<=T->TI S (g t) (M t) (w t)
section
variable {S:Cm->Prop} {C:List Cm} {b:ZN} {L T:Nat} {w:Nat->Wd} {g:Nat->Gh} {M:Nat->Nat->ZN} {Ko:List (ZN × Int)}
def XP.at(R:XP S C b L T w g M):∀t,PW C b L (w t):=by
 intro t
 induction t with
 | zero=>exact R.pw
 | succ t a=>rw[R.a];exact Zd2 a R.hC R.hb
def XP.uq(R:XP S C b L T w g M){t X:Nat}(r:t<=T)(d:X<5){l:Yt}(z:l∈((w t).Za X).Zd)(D:l.a=2):∀y∈((w t).Za X).Zn.l,y.b=l.v.b->y.Zx=l.v.Zx->y=l.v:=fun y p j i=>by
 have a:=R.ti t r;have A:=(a.nd X d).acc;rw[Yd ((R.at t).nd X d).up]at A;have p1:=(a.JC X d l z).ask D;have f:=a.a.a _ _ _ _ (A.has y p);rw[j,i]at f;have:=a.a.one _ _ _ _ p1 f;let⟨s,b,k,c,q,nm,x⟩:=y;generalize l.v=v at j i this;let⟨F,J,k',c',H,o,E⟩:=v
 grind [Vt.cm]
def Ask(Ko:List (ZN × Int))(n:Nd)(o:List Yt):Prop:=∀l∈o,l.a=0\/l.a=2->TE (Xa n) (Jw l)->Jw l∈Ko
theorem Zib{J K A G:Yt->Prop}{E F I:Nd->Prop}(W:Laws I J K)(H:Q8 I J A G E F):∀(k:List Yt) (n:Nd),I n->(∀l∈k,J l)->E n->E (Zw n k).n:=by
 intro k
 induction k with
 | nil=>intro n _ _ h;exact H.a _ _ h
 | cons l k a=>
  intro n f d h;by_cases q:n.Zo=aw
  .grind [Zw.eq_def,Laws.box,Laws.pL,Q8.Zl4,Q8.a]
  .rw[Wl q];exact H.a _ _ h
def DlR(Ko:List (ZN × Int))(A G:Yt->Prop)(E F:Nd->Prop)(Q:Prop)(a:QT)(o k:List Yt)(r:Nd)(ls:List Yt):Prop:=
 (∃p j d,r.Zo=ax p/\r.Zd=d++k/\o=j++d/\(∀x,TE (YM p) x->TE a x)/\mu Ko (YM p)+1<=mu Ko a/\(E r\/F r\/(∃l∈d,A l)\/Q\/∃m∈ls,G m))\/(∀l∈r.Zd,l∈k)/\(E r\/Q\/∃m∈ls,G m)
def DlR.more{A G:Yt->Prop}{E F:Nd->Prop}{Q f:Prop}{a:QT}{o k:List Yt}{r:Nd}{ls d:List Yt}{l:Yt}(h:DlR Ko A G E F Q a o k r ls)(i:Q->f\/∃m∈d,G m):DlR Ko A G E F f a (l :: o) k r (d++ls):=by
 grind [DlR]
def zj:∀(k:List Yt) (n:Nd),∀l∈(Zw n k).n.Zd,l∈k:=by
 intro k
 induction k with
 | nil=>intro n l a;cases a
 | cons x k d=>
  grind [Zw.eq_def]
def Zed{X:Nat}(hX:X<5)(hC:(ao C)<=100000)(hb:Zv b){A G:Yt->Prop}{E F:Nd->Prop}(H:Q8 (PN C b L X) (PJ C b) A G E F):∀(o k:List Yt) (n:Nd) (Q:Prop),PN C b L X n->(∀l∈o++k,PJ C b l)->n.Zo=aw->(∀l∈o,l.a=2->∀y∈n.Zn.l,y.b=l.v.b->y.Zx=l.v.Zx->y=l.v)->(∀l∈o,l.a=0\/l.a=2->TE n.Zn (Jw l)->Jw l∈Ko)->(E n\/(∃l∈o,A l)\/Q) ->
  DlR Ko A G E F Q n.Zn o k (Zw n (o++k)).n (Zw n (o++k)).ls:=by
 have W:=Jf (C:=C) (b:=b) (L:=L) hX hC hb;intro o
 induction o with
 | nil=>
  intro k n Q h i f _ _ d;refine .inr ⟨zj k n,?_⟩
  grind [Zib]
 | cons l o Y=>
  intro k n Q h i f uq ha d;let⟨hh,s⟩:=ZO (Zy { n with Zd:=o++k } l);have e:Zw n (l :: o++k)=⟨(Zw hh.n (o++k)).n,hh.ls++(Zw hh.n (o++k)).ls,hh.ts++(Zw hh.n (o++k)).ts⟩:=by
   show Zw n (l :: (o++k))=_;rw[s]
   conv=>lhs;unfold Zw
   rw[if_neg zK]
  rw[e];have N:=W.box n (o++k) h;have j:=i l zX;let⟨O,_⟩:=W.pL _ l N f j;have main:E hh.n\/F hh.n\/(∃m∈o,A m)\/(Q\/∃m∈hh.ls,G m):=by
   rw[s];rcases d with d|⟨m,Z,hA⟩|d
   .exact .inl (H.Zl4 _ l N f j (H.a _ _ d))
   .grind [Q8.hit]
   .grind
  have stop:∀p,hh.n.Zo=ax p->hh.n.Zd=o++k->(∀x,TE (YM p) x->TE n.Zn x)->mu Ko (YM p)+1<=mu Ko n.Zn->DlR Ko A G E F Q n.Zn (l :: o) k (Zw hh.n (o++k)).n (hh.ls++(Zw hh.n (o++k)).ls):=fun p q _ J D=>by
   rw[Wl zK,a8];exact .inl ⟨p,[l],o,q,rfl,rfl,J,D,main.imp (H.a _ _) (Or.imp (H.yS _ _) fun z=>z)⟩
  rcases (YE { n with Zd:=o++k } l).2 with K|⟨k0,z,ne,_,q⟩|⟨V,z,nm,_,q⟩
  .rw[<-s]at K O;have BE:hh.n.Zo=aw:=by rw[K.Zo];exact f
   have eo:hh.n.Zn=n.Zn:=K.Zn;have r:=Y k hh.n (Q\/∃m∈hh.ls,G m) O (fun m Z=>i m zK) BE zK zK (by
    grind [Q8.jq])
   rw[eo]at r;exact r.more fun z=>z
  .grind [UW,QC,cU,Jw,NZ,jD,YM]
  .let⟨J,D,u3⟩:=tW (a:=n.Zn) (Q7 z) h.Xc j.li.Zx.1 nm (uq l zX V)
   grind [Jw,N0,jD,YM]
def Zq5(Ko:List (ZN × Int))(A:Yt->Prop)(E F:Nd->Prop)(n:Nd):Prop:=E n\/F n\/∃o k,n.Zd=o++k/\(∃l∈o,A l)/\Ask Ko n o
theorem Ix{X:Nat}{n:Nd}(h:PN C b L X n){p:OT}(a:n.Zo=ax p):Xa (Yc (ZE n) p).n=Xa n/\(Yc (ZE n) p).n.Zo=aw:=by
 have e:(Yc (ZE n) p).n.Zo=aw:=by cases p<;>rfl
 grind [Xa,Zh5]
def XP.YO(R:XP S C b L T w g M){t X:Nat}(ht:t<=T)(f:X<5){A G:Yt->Prop}{E F:Nd->Prop}(H:Q8 (PN C b L X) (PJ C b) A G E F){o k:List Yt}(V:((w t).Za X).Zd=o++k)(J:Ask Ko ((w t).Za X) o){Q:Prop}(hs:E ((w t).Za X)\/(∃l∈o,A l)\/Q):
  (me Ko ((w (t+1)).Za X)+1<=me Ko ((w t).Za X)/\∃j i k',((w (t+1)).Za X).Zd=i++k'/\(∀l∈k',l∈k\/l∈Qw (w t))/\o=j++i/\Ask Ko ((w (t+1)).Za X) i/\(E ((w (t+1)).Za X)\/F ((w (t+1)).Za X)\/(∃l∈i,A l)\/Q\/∃m∈Qw (w t),G m)) \/
  (∀l∈((w (t+1)).Za X).Zd,l∈k\/l∈Qw (w t))/\(E ((w (t+1)).Za X)\/Q\/∃m∈Qw (w t),G m):=by
 have W:=Jf (C:=C) (b:=b) (L:=L) f R.hC R.hb;have P:=R.at t;have N:=P.nd X f;have s:=N.up;have r:=Qg (w t) X f s;rw[<-R.a]at r;generalize Ib:(Qw (w t)).filter (fun l=>decide (l.to.toNat=X))=kk at r;have O:∀l∈kk,l∈Qw (w t):=fun l a=>(aV.1 (by rw[Ib];exact a)).1;have y:(∃m∈(step ((w t).Za X)).ls,G m)->∃m∈Qw (w t),G m:=fun⟨m,q1,Z⟩=>⟨m,JI.2 (.inr ⟨X,f,q1⟩),Z⟩
 cases q:((w t).Za X).Zo with
 | some p=>
  have e:step ((w t).Za X)=Yc (ZE ((w t).Za X)) p:=by unfold step;rw[if_pos s,q]
  let⟨z1,z2⟩:=Ix N q;have ea:Xa ((w (t+1)).Za X)=Xa ((w t).Za X):=by rw[r,e];exact z1
  refine .inl ⟨?_,[],o,k++kk,?_,fun l a=>(aH.1 a).imp_right (O l),rfl,fun l a c d=>J l a c zK,?_⟩
  .grind [me]
  .grind [W0]
  grind [Q8.a,Q8.ZcC]
 | none=>
  have e0:Xa ((w t).Za X)=((w t).Za X).Zn:=by unfold Xa;rw[q]
  have D:=Zed f R.hC R.hb H o k ((w t).Za X) Q N (by rw[<-V];exact P.JC X f) q (fun l a=>R.uq ht f zK) (fun l a c d=>J l a c zK) hs;rw[<-V]at D;have K:(Zw ((w t).Za X) ((w t).Za X).Zd).n.Zo≠aw->step ((w t).Za X)=Zw ((w t).Za X) ((w t).Za X).Zd:=fun c=>by
   unfold step;rw[if_pos s,q];simp only;rw[if_pos]
   cases z:(Zw ((w t).Za X) ((w t).Za X).Zd).n.Zo with
   | none=>grind
   | some p=>rfl
  have a1:(∃m∈(Zw ((w t).Za X) ((w t).Za X).Zd).ls,G m)->∃m∈Qw (w t),G m:=fun⟨m,hm,z⟩=>y ⟨m,by
   grind [step],z⟩
  rcases D with⟨p,j,i,Y,d2,d3,d4,d5,d6⟩|⟨Y,d2⟩
  .have es:=K zK;have ea:Xa ((w (t+1)).Za X)=YM p:=by
    rw[r,es];unfold Xa;simp only[Y]
   refine .inl ⟨?_,j,i,k++kk,zK,fun l a=>(aH.1 a).imp_right (O l),d3,fun l a c d=>J l zK c zK,?_⟩
   .grind [me]
   grind [Q8.a,Q8.yS]
  .refine .inr ⟨fun l a=>?_,?_⟩
   .rw[r]at a;rcases aH.1 a with a|a
    .by_cases c:(Zw ((w t).Za X) ((w t).Za X).Zd).n.Zo=aw
     .rw[Vv s ⟨q,c⟩]at a;cases a
     grind
    grind
   grind [step,Q8.a,Q8.Zq2,XH,PW.JC]
def XP.dl(R:XP S C b L T w g M){X:Nat}(i:X<5){A G:Yt->Prop}{E F:Nd->Prop}(H:Q8 (PN C b L X) (PJ C b) A G E F):∀q t,me Ko ((w t).Za X)<=q->t+q<=T->Zq5 Ko A E F ((w t).Za X)->∃f,t<=f/\f<=t+q+1/\(E ((w f).Za X)\/∃m∈Qw (w f),G m):=by
 have fin:∀t,F ((w t).Za X)->E ((w (t+1)).Za X)\/∃m∈Qw (w t),G m:=fun t d=>by
  have K:=(R.at t).nd X i
  cases s:((w t).Za X).Zo with
  | none=>exact absurd s (H.jq _ d)
  | some p=>
   have e:step ((w t).Za X)=Yc (ZE ((w t).Za X)) p:=by unfold step;rw[if_pos K.up,s]
   rcases H.Zq3 _ p K s d with z|⟨m,z1,z2⟩
   .left;rw[R.a,Qg (w t) X i K.up,e];exact H.a _ _ z
   grind [JI]
 intro q
 induction q with
 | zero=>
  intro t N O d;rcases d with d|d|⟨o,k,J,D,y⟩
  .grind
  .grind
  .rcases R.YO uh i H J y (Q:=False) (.inr (.inl D)) with⟨h,_⟩|⟨_,h|h|h⟩
   .omega
   .grind
   .exact h.elim
   grind
 | succ q W=>
  intro t N O d;rcases d with d|d|⟨o,k,J,D,y⟩
  .grind
  .grind
  .rcases R.YO uh i H J y (Q:=False) (.inr (.inl D)) with⟨h,j,V,k',e,_,_,a,r⟩|⟨_,h|h|h⟩
   .grind [Zq5]
   .grind
   .exact h.elim
   grind
def AM{X:Nat}:Q8 (PN C b L X) (PJ C b) (fun _=>False) (fun _=>False) (fun _=>True) (fun _=>False):=
 ⟨fun _ _ _=>trivial,fun _ _ _ _ _ _=>trivial,fun _ _ _ _=>trivial,fun _ _ _ _ _=>trivial,fun _ _ h=>h,fun _ h=>h.elim,fun _ _ _ _ h=>h.elim,fun _ _ _ _ _ h=>h.elim⟩
def XP.flush(R:XP S C b L T w g M){X:Nat}(z:X<5){Z:Yt->Prop}{t0:Nat}(r:∀t,t0<=t->t<=T->∀m∈Qw (w t),Z m):∀q t,t0<=t->me Ko ((w t).Za X)<=q->t+q<=T->(∃o k,((w t).Za X).Zd=o++k/\(∀l∈k,Z l)/\Ask Ko ((w t).Za X) o)->∃d,t<=d/\d<=t+q+1/\∀l∈((w d).Za X).Zd,Z l:=by
 intro q
 induction q with
 | zero=>
  rintro t p F H ⟨o,k,y,i,s⟩;rcases R.YO uh z AM y s (Q:=False) (.inl trivial) with⟨h,_⟩|⟨h,_⟩
  .omega
  .exact⟨t+1,uh,uh,fun l f=>(h l f).elim (i l) (r t p uh l)⟩
 | succ q E=>
  rintro t p F H ⟨o,k,y,i,s⟩;rcases R.YO uh z AM y s (Q:=False) (.inl trivial) with⟨h,j,D,k',e,K,_,a,_⟩|⟨h,_⟩
  .let⟨d,O,N,J⟩:=E (t+1) uh uh uh ⟨D,k',e,fun l f=>(K l f).elim (i l) (r t p uh l),a⟩;exact⟨d,uh,uh,J⟩
  .exact⟨t+1,uh,uh,fun l f=>(h l f).elim (i l) (r t p uh l)⟩
def XP.box(R:XP S C b L T w g M){t X:Nat}(a:X<5){l:Yt}(d:l∈((w (t+1)).Za X).Zd):l∈((w t).Za X).Zd\/l∈Qw (w t):=by
 rw[R.a]at d;rcases (TD a ((R.at t).nd X a).up).1 d with q|⟨q,_⟩
 .exact .inl ((Vx (R.at t) R.hC R.hb a).2.2 l q)
 grind
def XP.Zid(R:XP S C b L T w g M){t X:Nat}(d:X<5)(i:Qm ((w t).Za X)){l:Yt}(a:l∈((w (t+1)).Za X).Zd):l∈Qw (w t):=by
 have f:=((R.at t).nd X d).up;rw[R.a]at a
 grind [TD,Vv]
end
section
variable {S:Cm->Prop} {C:List Cm} {b:ZN} {L T:Nat} {w:Nat->Wd} {g:Nat->Gh} {M:Nat->Nat->ZN} {e:Nat} {Q:List Cm}
end
section
variable {C:List Cm} {L:Nat} {w:Wd}
end
def Zq6(A:List Raw)(x:Cm):Prop:=∃a∈A,a.k=1/\Xl a.data 0=0/\x=JL a.data 0
def pS(A:List Raw)(L many:Nat)(d:∀i,i<5->((Qv A).Za i).up=true)(a:∀i,i<5->((act (Qv A) (OU L).ac).Za i).up=true):Qv (Ss A L many)=YJ many (act (Qv A) (OU L).ac):=by
 have f:Qv (JG A 0)=Qv A:=by
  unfold JG;rw[show QE 0=[] from rfl,a8,LJ A d]
 have j:Qv (JG A 0++[OU L])=act (Qv A) (OU L).ac:=by
  rw[Oz,f];rfl
 grind [Ss,JG,jo,LJ]
theorem jE(n:Nd)(l:Yt):(Zy n l).n.YO=n.YO:=by
 have a:∀(k:Nat) (n:Nd),(YA k n).1.YO=n.YO:=by
  intro k
  induction k with
  | zero=>intro n;rfl
  | succ k d=>
   grind [XF,YA.eq_def]
 have i:∀(n:Nd) s x,(Jj n s x).n.YO=n.YO:=fun n s x=>a _ _;have f:(XL n l).YO=n.YO:=by unfold XL;split<;>rfl
 unfold Zy;split
 .unfold Y3
  grind
 split
 .grind [YI,C0,Vc]
 split
 .unfold asked
  grind
 grind [add,Q3]
def LO:∀(k:List Yt) (n:Nd),(Zw n k).n.YO=n.YO:=by
 intro k
 induction k with
 | nil=>intro n;rfl
 | cons l k a=>
  grind [Zw.eq_def,jE]
section
variable {S:Cm->Prop} {C:List Cm} {b:ZN} {L T:Nat} {w:Nat->Wd} {g:Nat->Gh} {M:Nat->Nat->ZN}
end
def Xu(l:List Cm):List Value:=l.foldl ML XE
def GS(i:Nat)(st:List Value)(x:Cm):PC:=⟨i,x.c,x.s,UA st x,VR st x⟩
def NWt(n:Nd):Prop:=n.e.Nodup/\∀x∈n.e,x ∉ n.ZF
structure Wt(n m:Nd)(ts:List PC):Prop where
 me:m.me=n.me
 ZF:∃e,m.ZF=n.ZF++e
 len:(ao ts)+m.e.length=n.e.length
 sub:∀x∈m.e,x∈n.e
 nw:NWt n->NWt m
 st:n.store=Xu n.ZF->m.store=Xu m.ZF
 ZH:n.store=Xu n.ZF->∀t∈ts,∃x pre e,m.ZF=pre++x :: e/\x∈n.e/\t=GS n.me (Xu pre) x
theorem Wt.same{n m:Nd}(i:m.me=n.me)(f:m.ZF=n.ZF)(d:m.e=n.e)(j:m.store=n.store):Wt n m []:=
 ⟨i,⟨[],zK⟩,zK,fun x h=>by grind,fun h=>by unfold NWt;rw[f,d];exact h,fun h=>by grind,fun _ t a=>by cases a⟩
theorem Wt.refl(n:Nd):Wt n n []:=.same rfl rfl rfl rfl
theorem Wt.trans{n m p:Nd}{ts a:List PC}(h:Wt n m ts)(k:Wt m p a):Wt n p (ts++a):=by
 let⟨i,g1⟩:=h.ZF;let⟨f,o⟩:=k.ZF;refine⟨by rw[k.me,h.me],⟨i++f,zK⟩,?_,fun x d=>h.sub x (k.sub x d),fun q=>k.nw (h.nw q),fun q=>k.st (h.st q),fun q t j=>?_⟩
 .have:=h.len;have:=k.len
  grind
 grind [Wt.ZH,Wt.st,Wt.sub,Wt.me]
theorem zk(n:Nd)(x:Cm):Wt n (XF n x) (Si n x):=by
 have st:n.store=Xu n.ZF->(XF n x).store=Xu (XF n x).ZF:=fun q=>by
  grind [XF,Xu]
 refine⟨rfl,⟨[x],rfl⟩,?_,fun y a=>ba a,fun q=>⟨List.Nodup.erase _ q.1,fun y a d=>?_⟩,st,fun q t f=>?_⟩
 .grind [Si,XF]
 .have d:y∈n.ZF++[x]:=d;have a:y∈n.e.erase x:=a;rcases aH.1 d with d|d
  .exact q.2 y (ba a) d
  .rw[aq.1 d]at a;exact (List.Nodup.mem_erase_iff q.1).1 a |>.1 rfl
 .unfold Si at f
  grind [XF,GS]
def pT:∀(k:Nat) (n:Nd),Wt n (YA k n).1 (YA k n).2:=by
 intro k
 induction k with
 | zero=>intro n;exact .refl n
 | succ k a=>
  grind [YA.eq_def,Wt.refl,Wt.trans,zk]
theorem jF(n:Nd)(s:Int)(x:Cm):Wt n (Jj n s x).n (Jj n s x).ts:=
 (Wt.same (n:=n) (m:=X6 n s x) rfl rfl rfl rfl).trans (pT _ _)
def zm(n:Nd)(l:Yt):Wt n (Zy n l).n (Zy n l).ts:=by
 have a:Wt n (XL n l) []:=by unfold XL;split<;>exact .same rfl rfl rfl rfl
 unfold Zy;split
 .grind [Y3,Wt.same]
 split
 .unfold YI
  cases hr:n.Zc with
  | none=>exact .refl n
  | some r=>
   simp only;split
   .split<;>exact .same rfl rfl rfl rfl
   .split
    .exact .refl n
    .split
     .exact (Wt.same (n:=n) (m:=Vc n r l) rfl rfl rfl rfl).trans (jF _ _ _)
     .exact .same rfl rfl rfl rfl
 split
 .grind [asked,Wt.same]
 grind [add,Q3,jF,Wt.same]
def jG:∀(k:List Yt) (n:Nd),Wt n (Zw n k).n (Zw n k).ts:=by
 intro k
 induction k with
 | nil=>intro n;exact .same rfl rfl rfl rfl
 | cons l k a=>
  intro n;unfold Zw;split
  .exact .same rfl rfl rfl rfl
  .exact ((Wt.same (n:=n) (m:={ n with Zd:=k }) rfl rfl rfl rfl).trans (zm _ l)).trans (a _)
def Zie(n:Nd):Wt n (YH n).n []:=by
 have a:(Zt n).me=n.me/\(Zt n).ZF=n.ZF/\(Zt n).e=n.e/\(Zt n).store=n.store:=by
  unfold Zt;split
  .split<;>exact⟨rfl,rfl,rfl,rfl⟩
  .grind
 have d:∀m:Nd,(Yj m).n.me=m.me/\(Yj m).n.ZF=m.ZF/\(Yj m).n.e=m.e/\(Yj m).n.store=m.store:=fun m=>by
  grind [Yj,Jc]
 grind [YH,JT,Wt.same]
def Zif(n:Nd):Wt n (step n).n (step n).ts:=by
 unfold step;split
 .cases d:n.Zo with
  | some p=>cases p<;>exact .same rfl rfl rfl rfl
  | none=>
   simp only;split
   .exact jG _ _
   .have:=(jG n.Zd n).trans (Zie (Zw n n.Zd).n);rw[a8]at this;have e:(YH (Zw n n.Zd).n).ts=[]:=by
     have a:∀m:Nd,(Yj m).ts=[]:=fun m=>by
      grind [Yj,Jc]
     unfold YH;split
     .exact a _
     .rfl
    grind
 .exact .refl n
set_option maxRecDepth 100000
theorem zn:∀(l:List Cm) (st:gS),EV st->(PA st l).1=0->XC J6 (PA st l).2.cs=true:=by
 intro l
 induction l with
 | nil=>intro st ok _;exact ok.fit
 | cons x l a=>
  grind [Ie,FH,I7]
def pU{l:List Cm}(h:∀x∈l,x.err=0):RD l=0/\XC J6 (Sf l)=true/\(Sg l).length=(ao l):=by
 grind [RD,GH,Sf,Sg,Fj,zn,FG,Zcs]
def DZ{l:List Raw}{n many:Nat}:∃k,Ss l n many=l++k/\∀x∈k,x.k≠8/\x.k≠1:=by
 have f:∀x∈X0 5,x.k≠8/\x.k≠1:=fun x a=>by
  grind [JV,X0]
 have d:∀k,∀x∈QE k,x.k≠8/\x.k≠1:=fun k x a=>by
  grind [QD,NM,Ir]
 refine⟨X0 5++QE 0++[OU n]++X0 5++QE many,?_,fun x a=>?_⟩
 .unfold Ss JG
  grind
 grind [OU]
section
variable {x:Cm} {ns:List Nat}
end
section
variable {S:Cm->Prop} {C:List Cm} {b:ZN} {L T:Nat} {w:Nat->Wd} {g:Nat->Gh} {M:Nat->Nat->ZN}
end
theorem GU(n:Nd):(Yj (Zt n)).n.Yy=n.Yy/\(Yj (Zt n)).n.Zn=n.Zn:=by
 have a:(Zt n).Yy=n.Yy/\(Zt n).Zn=n.Zn:=by
  rcases UF n with⟨_,e⟩|⟨_,_,_,e⟩|⟨_,_,_,e⟩<;>rw[e]<;>exact⟨rfl,rfl⟩
 grind [Yj,Jc]
def jH(n:Nd):∀l∈(Yj (Zt n)).ls,l.a=0\/l.a=2\/l.a=4:=fun l a=>by
 have fwd:∀n:Nd,∀l∈WT n,l.a=4:=fun n l a=>by
  unfold WT at a
  grind
 unfold Yj at a;split at a
 .unfold Jc at a;split at a
  .split at a<;>cases a
  grind [Wc,Te,US,SC,aq]
 grind
section
variable {C:List Cm} {b:ZN} {L X:Nat}
end
def Bg(n:Nd):Prop:=∃r,n.Zc=ax r/\r.a=true
section
variable {S:Cm->Prop} {C:List Cm} {b c:ZN} {L L' T X:Nat} {w:Nat->Wd} {g:Nat->Gh} {M:Nat->Nat->ZN} {Ko:List (ZN × Int)} {n:Nd}
def jI{k:List Yt}(h:PN C b L X n)(J:∀l∈k,PJ C b l)(uq:∀l∈k,l.a=2->∀y∈n.Zn.l,y.b=l.v.b->y.Zx=l.v.Zx->y=l.v)(D:n.Zo=aw)(E:Ask Ko n k){p:OT}(H:(Zw n k).n.Zo=ax p):mu Ko (YM p)+1<=mu Ko n.Zn:=by
 let⟨_,j,l,e,q⟩:=OB k n D p H;have d:l∈k:=by rw[e];simp
 have K:Xa n=n.Zn:=by unfold Xa;rw[D]
 rcases q with⟨k0,z,F,q⟩|⟨s,z,nm,q⟩
 .have hb:Zj n.Zn.p l.b:=by
   refine aS fun c=>F (UW c (QC z))
  let⟨o,i,f⟩:=cU hb;rw[q];have r:Jw l=(l.b,-1):=by unfold Jw;rw[if_pos k0]
  exact jD o (by rw[<-r];exact E l d (.inl k0) zK) i f
 .let⟨o,i,f⟩:=tW (a:=n.Zn) (Q7 z) h.Xc (J l d).li.Zx.1 nm (uq l d s);rw[q];have r:Jw l=(l.v.b,l.v.Zx):=by unfold Jw;rw[if_neg uh]
  exact jD o (by rw[<-r];exact E l d (.inr s) zK) i f
def XP.D0(R:XP S C b L T w g M){t:Nat}(H:t<=T)(f:X<5)(N:Ask Ko ((w t).Za X) ((w t).Za X).Zd)(hr:∀r,((w t).Za X).Zc=ax r->Zj ((w t).Za X).Zn.p r.b->(r.b,-1)∈Ko):me Ko ((w (t+1)).Za X)<=me Ko ((w t).Za X)/\(¬Qm ((w t).Za X)->me Ko ((w (t+1)).Za X)+1<=me Ko ((w t).Za X)):=by
 have W:=Jf (C:=C) (b:=b) (L:=L) f R.hC R.hb;have P:=R.at t;have k:=P.nd X f;have i:=k.up;have z:=Qg (w t) X f i;rw[<-R.a]at z;have O:∀m:Nd,(w (t+1)).Za X = { m with Zd:=((w (t+1)).Za X).Zd }->me Ko ((w (t+1)).Za X)=me Ko m:=fun m e=>by rw[e];rfl
 have es:=O (step ((w t).Za X)).n (by rw[z]);rw[es]
 cases a:((w t).Za X).Zo with
 | some p=>
  grind [step,me,Ix]
 | none=>
  have Y:Xa ((w t).Za X)=((w t).Za X).Zn:=by unfold Xa;rw[a]
  have V:me Ko ((w t).Za X)=2*mu Ko ((w t).Za X).Zn:=by unfold me;rw[Y,if_pos a];rfl
  rw[V]
  cases d:(Zw ((w t).Za X) ((w t).Za X).Zd).n.Zo with
  | some p=>
   have e:step ((w t).Za X)=Zw ((w t).Za X) ((w t).Za X).Zd:=by
    unfold step;rw[if_pos i,a];simp only;rw[if_pos (by rw[d];rfl)]
   have h:=jI k (P.JC X f) (fun l J=>R.uq H f J) a N d
   grind [me,Xa]
  | none=>
   refine⟨?_,fun q=>absurd ⟨a,d⟩ q⟩;have K:=Jm _ _ d;have j:=(XH W _ _ k (P.JC X f)).1;have D:=(YD d j.ZZ).1;rw[Xi i ⟨a,d⟩];show me Ko (YH (Zw ((w t).Za X) ((w t).Za X).Zd).n).n<=_;rcases D.Zo with⟨e,_⟩|⟨r,E,F,_,_,e⟩
   .grind [me,Xa,WK.Zn,YT.Zn]
   .let⟨Z,h0,hs⟩:=K.back E;rw[if_pos (j.pr0 (j.may r E) (Q6 F))]at e;let⟨y,s,o⟩:=cU F;rw[K.Zn]at y s o;have:=jD y (Ko:=Ko) (by grind [Yw.b,JM.k,YT.Zn]) s o
    grind [me,Xa,YM,YT.Zn]
def XP.Zig(R:XP S C b L T w g M){t:Nat}(a:t<=T)(f:X<5)(d:Ask Ko ((w t).Za X) ((w t).Za X).Zd)(hr:∀r,((w t).Za X).Zc=ax r->(r.b,-1)∈Ko):me Ko ((w (t+1)).Za X)<=me Ko ((w t).Za X)/\(¬Qm ((w t).Za X)->me Ko ((w (t+1)).Za X)+1<=me Ko ((w t).Za X)):=
 R.D0 a f d fun r e _=>hr r e
def XP.WM(R:XP S C b L T w g M)(t:Nat):(w (t+1)).b=[]:=by rw[R.a,Is]
def D4(i:n.up=true)(j:¬Qm n):∀m∈(step n).ls,m.a≠0/\m.a≠2:=fun m d=>by
 cases f:n.Zo with
 | some p=>
  have e:step n=Yc (ZE n) p:=by unfold step;rw[if_pos i,f]
  rw[e]at d
  cases p with
  | QB a to k vs=>rw[aq.1 d];grind
  | Us a to v=>rw[aq.1 d];grind
  | Zn a vs cur=>cases d
 | none=>
  have e:step n=Zw n n.Zd:=by
   unfold step;rw[if_pos i,f];simp only;rw[if_pos]
   cases z:(Zw n n.Zd).n.Zo with
   | none=>exact absurd ⟨f,z⟩ j
   | some p=>rfl
  rw[e]at d;exact GP _ _ m d
theorem Zih(n:Nd):¬Zj (Wv n) n.Zn.p:=by
 grind [Wv,Q6]
def Zmb{m:Yt}(a:m∈(YH n).ls)(d:m.a=5):¬Zj m.b n.Zn.p:=by
 have f:m∈(Yj (Zt n)).ls->¬Zj m.b n.Zn.p:=fun h=>by
  have:=jH n m h;omega
 unfold YH at a
 grind [Wi,JT,Zih,GU]
end
section
variable {S:Cm->Prop} {C:List Cm} {b c:ZN} {L L' T X:Nat} {w:Nat->Wd} {g:Nat->Gh} {M:Nat->Nat->ZN} {Ko Ks:List (ZN × Int)} {n:Nd}
theorem Hw(Ko:List (ZN × Int))(n:Nd):me Ko n<=2*(ao Ko)+1:=by
 unfold me;have:=Zec Ko (Xa n)
 grind
end
section
variable {S:Cm->Prop} {C:List Cm} {b c:ZN} {L L' T X:Nat} {w:Nat->Wd} {g:Nat->Gh} {M:Nat->Nat->ZN} {Ko:List (ZN × Int)} {n:Nd}
def XP.pV(R:XP S C b L T w g M){h:Nat}(hh:h<5){V:Nat}(Y:V≠h){t:Nat}(hr:∀r,((w t).Za h).Zc=ax r->¬Zj ((w t).Za h).Zn.p r.b)(f:Qm ((w t).Za h)):
  ((w (t+1)).Za h).YO=(((w t).Za h).YO+1)%5/\(40<=((w (t+1)).Za h).ZF.length\/((w (t+1)).Za h).YO≠V\/∃m∈Qw (w t),m.a=5/\m.to=V/\¬Zj m.b ((w t).Za h).Zn.p):=by
 have P:=R.at t;have q:=P.nd h hh;have j:=q.up;let⟨d,a⟩:=ZO ((Zw ((w t).Za h) ((w t).Za h).Zd).n);have K:YT ((w t).Za h) d:=by rw[a];exact Jm _ _ f.2
 have k:d.YO=((w t).Za h).YO:=by rw[a];exact LO _ _
 have E:d.Zo=aw:=by rw[a];exact f.2
 have z:∀r,d.Zc=ax r->¬Zj d.Zn.p r.b:=fun r e=>by
  grind [YT.back,YT.Zn,Yw.b,JM.k]
 have p:PN C b L h d:=by rw[a];exact (XH (Jf hh R.hC R.hb) _ _ q (P.JC h hh)).1
 have D:=(YD E p.ZZ).1;have s:(YH d).n.Zo=aw:=by
  rcases D.Zo with⟨e,_⟩|⟨r,e,O,_⟩
  .exact e
  .grind
 let⟨i,n2⟩:=yZ s;have o:(w (t+1)).Za h = { (YH d).n with Zd:=((w (t+1)).Za h).Zd }:=by
  have:=Qg (w t) h hh j;rw[<-R.a,Xi j f,<-a]at this;rw[this]
 have H:((w (t+1)).Za h).YO=(YH d).n.YO:=by rw[o]
 have F:((w (t+1)).Za h).ZF=d.ZF:=by rw[o];exact D.ZF
 rw[H,F,i,k];refine⟨rfl,?_⟩;by_cases N:40<=d.ZF.length
 .exact .inl N
 .by_cases J:(((w t).Za h).YO+1)%5=V
  .let⟨W,y⟩:=n2 (by rw[i,k,J,p.ni.me];omega) uh;have hb:=Zmb y rfl;rw[K.Zn]at hb;refine .inr (.inr ⟨_,JI.2 (.inr ⟨h,hh,?_⟩),rfl,zK,hb⟩)
   grind [Xi]
  grind
def Zee{n:Nd}(h:PN C b L X n){r:XR}(hr:n.Zc=ax r)(d:Zj n.Zn.p r.b)(nf:¬Full n):∃a vs,(YH n).n.Zo=ax (.Zn a vs true)/\a.p=r.b:=by
 have e:Zt n=n:=by
  unfold Zt;rw[hr];simp only;rw[if_neg (Q6 d)]
 have i:Yj (Zt n)=Jc n r:=by
  rw[e];unfold Yj;rw[hr]
 have f:=h.may r hr;rw[Iv.2.1,i];unfold Jc;rw[if_pos d];by_cases q:JS n.data n.XI r.b=0
 .rw[if_neg (by simp[q])]
  grind [PN.pr0,Q6]
 .exact absurd (DN h f q) nf
def XP.Zq7(R:XP S C b L T w g M){h:Nat}(hh:h<5){V:Nat}(hV:V<5)(H:V≠h)(hr:∀t,t<=T->∀r,((w t).Za h).Zc=ax r->¬Zj ((w t).Za h).Zn.p r.b)(E:∀t,t<=T->Ask Ko ((w t).Za h) ((w t).Za h).Zd):∀q t j,me Ko ((w t).Za h)+j<=q->t+q<=T->j<=4->(((w t).Za h).YO+1+j)%5=V ->
  ∃a,t<=a/\a<=t+q/\(40<=((w (a+1)).Za h).ZF.length\/∃m∈Qw (w a),m.a=5/\m.to=V/\¬Zj m.b ((w a).Za h).Zn.p):=by
 have tn:∀t,¬Qm ((w t).Za h)->((w (t+1)).Za h).YO=((w t).Za h).YO:=fun t f=>by
  have i:=((R.at t).nd h hh).up;rw[R.a,Qg (w t) h hh i];show (step ((w t).Za h)).n.YO=_
  cases k:((w t).Za h).Zo with
  | some p=>
   have e:step ((w t).Za h)=Yc (ZE ((w t).Za h)) p:=by unfold step;rw[if_pos i,k]
   rw[e]
   cases p<;>rfl
  | none=>
   have e:step ((w t).Za h)=Zw ((w t).Za h) ((w t).Za h).Zd:=by
    unfold step;rw[if_pos i,k];simp only;rw[if_pos]
    cases z:(Zw ((w t).Za h) ((w t).Za h).Zd).n.Zo with
    | none=>exact absurd ⟨k,z⟩ f
    | some p=>rfl
   rw[e];exact LO _ _
 intro q
 induction q with
 | zero=>
  intro t j K O D J;let⟨W,F⟩:=R.D0 uh hh (E t uh) (fun r e z=>absurd z (hr t uh r e));have f:Qm ((w t).Za h):=aS fun c=>by grind
  let⟨s,d⟩:=R.pV hh H (hr t uh) f
  grind
 | succ q y=>
  intro t j K O D J;let⟨W,F⟩:=R.D0 uh hh (E t uh) (fun r e z=>absurd z (hr t uh r e));by_cases f:Qm ((w t).Za h)
  .let⟨s,d⟩:=R.pV hh H (hr t uh) f;rcases d with d|d|d
   .grind
   .have N:j≠0:=fun e=>by grind
    let⟨a,Z,Y,o⟩:=y (t+1) (j-1) uh uh uh (by rw[s];omega);exact⟨a,uh,uh,o⟩
   .exact⟨t,aL _,uh,.inr d⟩
  .have:=F f;let⟨a,Z,Y,o⟩:=y (t+1) j uh uh D zK;exact⟨a,uh,uh,o⟩
def XP.sh(R:XP S C b L T w g M){a:Nat}(f:a<=T):XP S C b L (T-a) (Go.Proofs.YtkhkmpfenaipaaaGreatDoor.sh w a) (Go.Proofs.YtkhkmpfenaipaaaGreatDoor.sh g a) (Go.Proofs.YtkhkmpfenaipaaaGreatDoor.sh M a):=
 ⟨R.hC,R.hb,fun t=>R.a (a+t),R.at a,fun t d=>R.nf (a+t) uh,fun t d=>R.ti (a+t) uh⟩
def Ma{β:ZN}{A G:Yt->Prop}(f:∀l,A l->l.a=5/\¬Zj l.b β):Q8 (PN C b L' X) (PJ C b) A G (fun n=>¬Zj n.Yy β) (fun _=>False):=by
 have i:∀(n:Nd) l,¬Zj n.Yy β->¬Zj (XL n l).Yy β:=fun n l h=>by
  grind [XL,Lb]
 have d:∀(n:Nd) l,¬Zj n.Yy β->¬Zj (Zy n l).n.Yy β:=fun n l h=>by
  have j:∀(n:Nd) s x,(Jj n s x).n.Yy=n.Yy:=fun n s x=>(Iw _ _).1;unfold Zy;split
  .unfold Y3;grind
  split
  .grind [YI,C0,Vc]
  split
  .unfold asked;grind
  grind [add,Q3]
 refine⟨fun n k h=>h,fun n l _ _ _ h=>d n l h,fun n _ _ h=>?_,fun n p _ _ h=>by cases p<;>exact h,fun n k h=>h,fun n h=>h.elim,fun n p _ _ h=>h.elim,fun n l _ _ _ q=>.inl ?_⟩
 .grind [YH,JT,GU]
 .let⟨a,hb⟩:=f l q;have e:Zy n l=Q3 n l:=by
   unfold Zy;rw[if_neg uh,if_neg uh,if_neg uh,if_neg uh,if_pos a]
  grind [XL,Wf,Q3]
def XP.Zef{β:ZN}(R:XP S C b L' T w g M)(d:X<5){t0:Nat}(h:¬Zj ((w t0).Za X).Yy β):∀t,t0<=t->¬Zj ((w t).Za X).Yy β:=by
 intro t
 induction t with
 | zero=>grind
 | succ t a=>
  intro q;by_cases e:t0=t+1
  .grind
  .rcases (DM (R.at t) R.hC R.hb d (Ma (L':=L') (A:=fun _=>False) (G:=fun _=>False) (fun l h=>h.elim)) (.inl (a uh))).1 with (z|z|⟨_,_,z⟩)|⟨_,_,z⟩
   .rw[R.a];exact z
   .exact z.elim
   .exact z.elim
   grind
end
def InB(P:ZN->Prop)(n:Nd):Prop:=∀r,n.Zc=ax r->P r.b
def Zp(P:ZN->Prop)(l:Yt):Prop:=(l.a=0->P l.b)/\(l.a=2->P l.v.b)
section
variable {S:Cm->Prop} {C:List Cm} {b c:ZN} {L L' T X:Nat} {w:Nat->Wd} {g:Nat->Gh} {M:Nat->Nat->ZN} {Ko Ks:List (ZN × Int)} {n:Nd} {P:ZN->Prop}
theorem InB.Zh{m:Nd}(h:InB P n)(k:∀r',m.Zc=ax r'->∃r,n.Zc=ax r/\r'.b=r.b):InB P m:=fun r' hr=>by
 let⟨r,d,a⟩:=k r' hr;rw[a];exact h r d
def Zeg(q:X<5)(hC:(ao C)<=100000)(hb:Zv b):Laws (fun n=>PN C b L X n/\InB P n) (PJ C b) (fun l=>PJ C b l/\Zp P l):=by
 have W:=Jf (C:=C) (b:=b) (L:=L) (X:=X) q hC hb;refine⟨fun n k h=>⟨W.box n k h.1,h.2⟩,fun n l h d o=>?_,fun n h d=>?_,fun n p h d=>?_⟩
 .let⟨j,i⟩:=W.pL n l h.1 d o
  grind [NZ,N0,Zp,YE,InB.Zh,YT.back,Yw.b,JM.k]
 .grind [InB,Zp,Laws.dty,Ba,YD,PN.ZZ,WK.Rd,Yw.b]
 .let⟨j,i⟩:=W.fin n p h.1 d;refine⟨⟨j,h.2.Zh fun r' hr=>?_⟩,fun m f=>⟨i m f,?_⟩⟩
  .cases p with
   | QB a to s vs=>exact⟨r',hr,rfl⟩
   | Us a to v=>exact⟨r',hr,rfl⟩
   | Zn a vs cur=>
    have hr:(if cur=true then n.Zc.map (fun r=>{ r with c:=ins r.c n.me vs }) else n.Zc)=ax r':=hr;split at hr
    .cases e:n.Zc with
     | none=>grind
     | some r=>
      grind
    grind
  .cases p with
   | QB a to s vs=>rw[aq.1 f];exact⟨(fun e=>by cases e),fun e=>by cases e⟩
   | Us a to v=>rw[aq.1 f];exact⟨(fun e=>by cases e),fun e=>by cases e⟩
   | Zn a vs cur=>cases f
def Zii{β:ZN}{A G:Yt->Prop}(f:∀l,¬A l):Q8 (PN C b L' X) (PJ C b) A G (fun n=>¬Zj n.Zn.p β) (fun _=>False):=by
 refine⟨fun n k h=>h,fun n l _ _ _ h=>?_,fun n d a h=>by rw[(YD a d.ZZ).1.Zn];exact h,fun n p d a h=>?_,fun n k h=>h,fun n h=>h.elim,fun n p _ _ h=>h.elim,fun n l _ _ _ q=>(f l q).elim⟩
 .grind [NZ,N0,YE,YT.Zn]
 .let⟨z1,z2,_⟩:=d.DL p a;have e:(Yc (ZE n) p).n.Zn=YM p:=by cases p<;>rfl
  rw[e];exact Xh h z2
def XP.Vs{β:ZN}(R:XP S C b L' T w g M)(d:X<5){t0:Nat}(h:¬Zj ((w t0).Za X).Zn.p β):∀t,t0<=t->¬Zj ((w t).Za X).Zn.p β:=by
 intro t
 induction t with
 | zero=>grind
 | succ t a=>
  intro q;by_cases e:t0=t+1
  .grind
  .rcases (DM (R.at t) R.hC R.hb d (Zii (L':=L') (A:=fun _=>False) (G:=fun _=>False) (fun l h=>h))) (.inl (a uh)) |>.1 with (z|z|⟨_,_,z⟩)|⟨_,_,z⟩
   .rw[R.a];exact z
   .exact z.elim
   .exact z.elim
   grind
def Zeh(h:PN C b L' X n):¬Zj (Xa n).p n.Zn.p:=by
 unfold Xa;split
 .rename_i p a;exact (h.DL p a).2.1
 .exact Yv _
end
def Rq(l:Yt):Prop:=l.a=0\/l.a=2
def tX(l:Yt):Prop:=(l.a=0->Zv l.b)/\(l.a=2->Yz l.v)
section
variable {S:Cm->Prop} {C:List Cm} {b:ZN} {L X T:Nat} {n:Nd} {g:Gh} {M:Nat->ZN} {Ko:List (ZN × Int)}
theorem Lc{l:Yt}(h:l.a=0):Jw l=(l.b,-1):=by unfold Jw;rw[if_pos h]
theorem ON{l:Yt}(h:l.a=2):Jw l=(l.v.b,l.v.Zx):=by unfold Jw;grind
theorem AN{k:List Yt}(h:PN C b L X n)(d:n.Zo=aw):∀κ,TE (Xa (Zw n k).n) κ->TE n.Zn κ:=fun κ u=>by
 cases a:(Zw n k).n.Zo with
 | none=>
  grind [Jm,Xa,YT.Zn]
 | some p=>
  let⟨_,j,l,_,q⟩:=OB k n d p a;have e:Xa (Zw n k).n=YM p:=by unfold Xa;rw[a]
  rw[e]at u;rcases q with⟨_,z,_,q⟩|⟨_,z,_,q⟩
  .rw[q]at u;exact DX (QC z) _ u
  .rw[q]at u;exact DY (Q7 z) h.Xc _ u
theorem D5(j:X<5)(hC:(ao C)<=100000)(hb:Zv b)(h:PN C b L X n)(i:∀l∈n.Zd,PJ C b l):∀κ,TE (Xa (step n).n) κ->TE (Xa n) κ:=fun κ u=>by
 have f:=h.up
 cases d:n.Zo with
 | some p=>
  grind [step,Ix]
 | none=>
  have k:Xa n=n.Zn:=by unfold Xa;rw[d]
  rw[k];by_cases a:(Zw n n.Zd).n.Zo=aw
  .have K:=Jm _ _ a;have o:=(XH (Jf (C:=C) (b:=b) (L:=L) j hC hb) _ _ h i).1;have D:=(YD a o.ZZ).1;rw[Xi f ⟨d,a⟩]at u;have u:TE (Xa (YH (Zw n n.Zd).n).n) κ:=u;rcases D.Zo with⟨e,_⟩|⟨r,s,y,_,_,e⟩
   .have q:Xa (YH (Zw n n.Zd).n).n=n.Zn:=by unfold Xa;rw[e];show (YH (Zw n n.Zd).n).n.Zn=_;rw[D.Zn,K.Zn]
    grind
   grind [Xa,YM,PN.pr0,PN.may,YT.Zn,Zj,TE]
  grind [step,AN,Xa]
theorem GV(h:PN C b L X n)(s:n.Zo=aw)(nf:¬Full n){l:Yt}(D:PJ C b l)(i:tX l)(y:Rq l):¬TE (Xa (Zy n l).n) (Jw l):=by
 rcases (YE n l).2 with K|⟨k0,z,E,_,e⟩|⟨d,z,nm,_,e⟩
 .have a:(Zy n l).n.Zo=aw:=by rw[K.Zo];exact s
  have e:Xa (Zy n l).n=n.Zn:=by unfold Xa;rw[a];exact K.Zn
  rw[e];intro u;rcases y with k0|d
  .rw[Lc k0]at u;have f:=u.1 rfl;have f:Zj n.Zn.p l.b:=f;have k:Zy n l=Y3 n l:=by unfold Zy;rw[if_pos k0]
   rw[k]at a;unfold Y3 at a;rw[if_neg (by rw[h.pr0 (i.1 k0) (Q6 f)];simp),if_neg (N9 f)]at a;by_cases j:JS n.data n.XI l.b=0
   .grind
   .exact nf (DN h (i.1 k0) j)
  .rw[ON d]at u;have F:=D.li.Zx;let⟨r,p⟩:=u.2 zK;have k:Zy n l=asked n l:=by unfold Zy;rw[if_neg uh,if_neg uh,if_pos d]
   rw[k]at a;unfold asked at a;rw[if_neg (by rw[h.ac0 (i.2 d) r];simp),if_neg (fun q=>p _ q rfl rfl)]at a;by_cases j:QS n.data n.XI l.v=0
   .grind
   .exact nf (jA h (i.2 d) j)
 .have o:Xa (Zy n l).n=⟨l.b,n.Zn.l⟩:=by rw[e];rfl
  rw[o,Lc k0];exact fun q=>Yv _ (q.1 rfl)
 .have o:Xa (Zy n l).n=⟨l.v.b,Jq n.Zn.l l.v⟩:=by rw[e];rfl
  grind [TE,Jq,ON,Zj]
def D6(r:X<5)(hC:(ao C)<=100000)(hb:Zv b):∀(k:List Yt) (n:Nd),PN C b L X n->n.Zo=aw->¬Full n->(∀l∈k,PJ C b l/\tX l)->∀l∈k,Rq l->l∈(Zw n k).n.Zd\/¬TE (Xa (Zw n k).n) (Jw l):=by
 have W:=Jf (C:=C) (b:=b) (L:=L) r hC hb;intro k
 induction k with
 | nil=>grind
 | cons x k s=>
  intro n h d nf p l f o;have a:=p x zX;have i:=W.box n k h;have y:=(W.pL _ x i d a.1).1;have e:(Zw n (x :: k)).n=(Zw (Zy { n with Zd:=k } x).n k).n:=by
   conv=>lhs;unfold Zw
   rw[if_neg zK]
  rw[e];by_cases q:(Zy { n with Zd:=k } x).n.Zo=aw
  .have j:¬Full (Zy { n with Zd:=k } x).n:=by
    rcases (YE { n with Zd:=k } x).2 with K|⟨_,_,_,_,e⟩|⟨_,_,_,_,e⟩
    .unfold Full;rw[K.data];exact nf
    .rw[e]at q;cases q
    .rw[e]at q;cases q
   grind [Xa,Full,GV,AN]
  .rw[Wl q];rcases bc.1 f with rfl|f
   .exact .inr (GV i d nf a.1 a.2 o)
   grind
def step_done(j:X<5)(hC:(ao C)<=100000)(hb:Zv b)(h:PN C b L X n)(nf:¬Full n)(i:∀l∈n.Zd,PJ C b l/\tX l){l:Yt}(d:l∈n.Zd)(k:Rq l):l∈(step n).n.Zd\/¬TE (Xa (step n).n) (Jw l):=by
 have s:=h.up
 cases o:n.Zo with
 | some p=>
  grind [step,W0]
 | none=>
  have D:=D6 j hC hb n.Zd n h o nf i l d k;by_cases a:(Zw n n.Zd).n.Zo=aw
  .have D:=D.resolve_left fun q=>by rw[drain_empty _ _ a]at q;cases q
   refine .inr fun u=>D ?_;have K:=Jm _ _ a;have r:=(XH (Jf (C:=C) (b:=b) (L:=L) j hC hb) _ _ h fun l d=>(i l d).1).1;have e:step (Zw n n.Zd).n=YH (Zw n n.Zd).n:=by
    have f:=drain_empty _ _ a;rw[Xi r.up ⟨a,by rw[f];exact a⟩,f];show (⟨(YH (Zw (Zw n n.Zd).n []).n).n,[]++(YH (Zw (Zw n n.Zd).n []).n).ls,[]++(YH (Zw (Zw n n.Zd).n []).n).ts⟩:Out)=_;have:(Zw (Zw n n.Zd).n []).n=(Zw n n.Zd).n:=by
     show { (Zw n n.Zd).n with Zd:=[] } = _;rw[<-f]
    rw[this];rfl
   grind [step,D5,drain_empty]
  grind [step,Xa]
def Zei(o:X<5)(hC:(ao C)<=100000)(hb:Zv b)(h:PN C b L X n)(i:∀l∈n.Zd,PJ C b l)(uq:∀l∈n.Zd,l.a=2->∀y∈n.Zn.l,y.b=l.v.b->y.Zx=l.v.Zx->y=l.v)(k:Ask Ko n n.Zd)(j:¬Qm n):me Ko (step n).n+1<=me Ko n:=by
 have f:=h.up
 cases a:n.Zo with
 | some p=>
  grind [step,me,Ix]
 | none=>
  have r:Xa n=n.Zn:=by unfold Xa;rw[a]
  cases d:(Zw n n.Zd).n.Zo with
  | none=>exact absurd ⟨a,d⟩ j
  | some p=>
   have e:step n=Zw n n.Zd:=by
    unfold step;rw[if_pos f,a];simp only;rw[if_pos (by rw[d];rfl)]
   have q:=jI h i uq a k d
   grind [me,Xa]
end
section
variable {S:Cm->Prop} {C:List Cm} {b:ZN} {L X T:Nat} {n:Nd} {g:Gh} {M:Nat->ZN} {Ko KB:List (ZN × Int)} {w:Wd}
def Sw{i:Nat}(hi:i<5)(hC:(ao C)<=100000)(hb:Zv b)(h:PN C b L i n)(V:∀l∈n.Zd,PJ C b l)(G:GI S g M)(N:NR S g M i n)(hj:∀l∈n.Zd,Qt C l/\LR S g M l){m:Yt}(a:m∈(step n).ls)(hq:Rq m):
  Qm n/\(∃r,n.Zc=ax r/\((m.a=0/\m.b=r.b)\/(m.a=2/\m.v.b=r.b)))/\∀Y:Nat,Y<5->(∃O∈(step n).ls,Rq O/\Jw O=Jw m/\O.to=Y)\/(m.a=0/\∃vs,PF g M Y m.b vs)\/(m.a=2/\∃x,g.V Y m.v.b m.v.Zx x):=by
 have F:Qm n:=aS fun q=>by
  let⟨z1,z2⟩:=D4 h.up q m a;rcases hq with z|z
  .exact z1 z
  .exact z2 z
 refine⟨F,?_⟩;let⟨H,NI,_⟩:=FL hi G n.Zd n N h.up F.1 h.ni hj;let⟨d,J⟩:=ZO ((Zw n n.Zd).n);have K:YT n d:=by rw[J];exact Jm _ _ F.2
 have ND:NR S g M i d:=by rw[J];exact H.n
 have W:∀x∈(YH d).ls,x∈(step n).ls:=fun x D=>by
  grind [Xi,PN.up]
 have a:m∈(YH d).ls:=by
  rw[Xi h.up F,<-J]at a;rcases aH.1 a with q|q
  .grind [PU,Rq]
  .exact q
 have a2:∀x∈(Yj (Zt d)).ls,x∈(YH d).ls:=fun x D=>by
  grind [YH]
 have a:m∈(Yj (Zt d)).ls:=by
  unfold YH at a;split at a
  .exact a
  .grind [Wi,Rq]
 unfold Yj at a
 cases hr:(Zt d).Zc with
 | none=>
  grind [Rq,WT]
 | some r=>
  rw[hr]at a;simp only at a;have E:Zt d=d/\d.Zc=ax r:=by
   rcases UF d with⟨h1,h2⟩|⟨p,_,_,h2⟩|⟨p,_,_,h2⟩
   .grind
   .grind
   .grind
  have o:∀x∈(Jc d r).ls,x∈(step n).ls:=fun x D=>W x (a2 x (by
   unfold Yj
   grind))
  rw[E.1]at a;have R:=ND.Zc r E.2;let⟨p,e0,s0⟩:=K.back E.2;unfold Jc at a o;split at a
  .split at a<;>cases a
  .rename_i c1;rw[if_neg c1]at o;split at a
   .rename_i Z;rw[if_pos Z]at o;unfold Te at a;let⟨j,hj,a⟩:=aW.1 a;split at a
    .rename_i e;have k:=aq.1 a;refine⟨⟨p,e0,.inl ⟨by rw[k],by rw[k];exact s0.k.b⟩⟩,fun Y hY=>?_⟩
     cases f:YF r.c (Y:Int) with
     | none=>
      refine .inl ⟨⟨0,d.me,Y,r.b,Ps,[]⟩,o _ ?_,.inl rfl,by rw[k];rfl,rfl⟩
      grind [Te]
     | some vs=>
      have:=R.c _ _ f
      grind [aX]
    .cases a
   .rename_i Z;rw[if_neg Z]at o;unfold US at a;let⟨s,a1,a⟩:=aW.1 a;let⟨x,j,D,hk,_,k⟩:=Su a;have Pd:PN C b L i d:=by rw[J];exact (XH (Jf hi hC hb) _ _ h V).1
    have kb:(Xs d r).b=r.b:=(WC d r (Pd.ZZ r E.2)).1.b;have ev:=(TM d r).1;refine⟨⟨p,e0,.inr ⟨by rw[k],by grind [Qb,Yw.b,JM.k]⟩⟩,fun Y hY=>?_⟩
    cases f:YF ((YF (Xs d r).Xc (s:Int)).getD []) (Y:Int) with
    | none=>
     refine .inl ⟨⟨2,d.me,Y,Y2,Qb s (Xs d r).b x,[]⟩,o _ ?_,.inr rfl,by rw[k];rfl,rfl⟩;refine aW.2 ⟨s,a1,?_⟩;unfold Wc;rw[D];simp only;rw[if_pos hk];refine aW.2 ⟨Y,bo.2 hY,?_⟩
     grind [SC]
    | some u=>
     rw[ev]at f
     cases hK:YF r.Xc (s:Int) with
     | none=>rw[hK]at f;cases f
     | some Q=>
      rw[hK]at f;let⟨y,hy⟩:=R.Xc _ Q _ hK f
      grind [Qb,aX]
def bx(w:Wd)(X:Nat):List Yt:=(w.Za X).Zd++w.b.filter fun l=>decide (l.to.toNat=X)
def Bc(w:Wd)(κ:ZN × Int):Prop:=(∃X,X<5/\∃m∈(step (w.Za X)).ls,Rq m/\Jw m=κ)\/∃X,X<5/\Qm (w.Za X)/\∃a vs,(step (w.Za X)).n.Zo=ax (.Zn a vs true)/\κ=(a.p,-2)
open Classical in
noncomputable def left (KB:List (ZN × Int)) (A:ZN × Int->Prop):List (ZN × Int):=KB.filter fun κ=>decide (¬A κ)
structure UI(K0 U:Nat)(KB:List (ZN × Int))(A:ZN × Int->Prop)(w:Wd):Prop where
 lag:∀X,X<5->∃Ko,Ask Ko (w.Za X) (bx w X)/\U+me Ko (w.Za X)+2*(left KB A).length<=K0
 inv:∀X,X<5->∀κ,A κ->κ.2 ≠ -2->TE (Xa (w.Za X)) κ->∃l∈bx w X,Rq l/\Jw l=κ
 Zn:∀X,X<5->∀r,(w.Za X).Zc=ax r->A (r.b,-2)->¬Zj (Xa (w.Za X)).p r.b
def pW(KB:List (ZN × Int))(A N:ZN × Int->Prop):∃new:List (ZN × Int),(left KB fun κ=>A κ\/N κ).length+(ao new)=(left KB A).length/\(∀κ∈KB,N κ->¬A κ->κ∈new):=by
 classical
 induction KB with
 | nil=>exact⟨[],rfl,fun κ h=>by cases h⟩
 | cons k KB d=>
  let⟨new,f,p⟩:=d;unfold left at f ⊢;by_cases a:A k
  .grind
  .by_cases c:N k
   .refine⟨k :: new,?_,fun κ i j o=>?_⟩
    .grind
    grind
   grind
def Zmc(K1 d:List (ZN × Int))(a:QT):mu (K1++d) a<=mu K1 a+(ao d):=by
 grind [mu]
def pX{l:Yt}(d:X<5)(a:(w.Za X).up=true)(h:l∈bx (C9 w) X):l∈(step (w.Za X)).n.Zd\/(l∈Qw w/\l.to.toNat=X):=by
 unfold bx at h
 grind [TD,Is]
def Vb(d:X<5)(a:(w.Za X).up=true):Xa ((C9 w).Za X)=Xa (step (w.Za X)).n/\((C9 w).Za X).Zo=(step (w.Za X)).n.Zo/\((C9 w).Za X).Zc=(step (w.Za X)).n.Zc:=by
 rw[Qg w X d a];exact⟨rfl,rfl,rfl⟩
end
section
variable {S:Cm->Prop} {C:List Cm} {b:ZN} {L X T t:Nat} {w:Nat->Wd} {g:Nat->Gh} {M:Nat->Nat->ZN} {KB:List (ZN × Int)} {A:ZN × Int->Prop} {K0 U:Nat}
def XP.ZdB(R:XP S C b L T w g M)(j:t<=T)(f:X<5){c:ZN}{s:Int}{x:Cm}(k:s ≠ -1)(i:(g t).V X c s x):¬TE (Xa ((w t).Za X)) (c,s):=by
 have P:=(R.at t).nd X f;have N:=(R.ti t j).nd X f;have A:=N.acc;rw[Yd P.up]at A;let⟨v,F,E,D⟩:=A.all _ _ _ i;have d:¬TE ((w t).Za X).Zn (c,s):=fun u=>by
  let⟨z,r⟩:=u.2 k
  grind [UW,VY,PN.Xc]
 unfold Xa;split
 .rename_i p o;have R:=N.Zo p o
  cases p with
  | QB a to q vs=>
   rw[show YM (.QB a to q vs)=a from rfl,R.1];exact fun u=>d (DX (QC R.2.2) _ u)
  | Us a to y=>
   rw[show YM (.Us a to y)=a from rfl,R.1];exact fun u=>d (DY (Q7 R.2.1) P.Xc _ u)
  | Zn a vs cur=>
   grind [YX,PR,YM,DX]
 .exact d
def XP.PG(R:XP S C b L T w g M)(i:t<=T)(a:X<5){c:ZN}{vs:List Vt}(f:PF (g t) (M t) X c vs):¬TE (Xa ((w t).Za X)) (c,-1):=fun u=>by
 have P:=(R.at t).nd X a;have N:=(R.ti t i).nd X a;have e:=N.m;rw[Yd P.up]at e;have d:=f.Yi;rw[e]at d;have:=u.1 rfl;exact d (Wf (Zeh P) this)
def XP.pY(R:XP S C b L T w g M)(ht:t+1<=T)(hz:∀X,X<5->∀l∈((w t).Za X).Zd,tX l)(a1:∀κ,Bc (w t) κ->κ∈KB)(H:UI K0 U KB A (w t))[Decidable ((w t).b=[])][Decidable (Clear (w t))]:
  UI (K0+if (w t).b=[] then 0 else 1) (U+if Clear (w t) then 0 else 1) KB (fun κ=>A κ\/Bc (w t) κ) (w (t+1)):=by
 have P:=R.at t;have TT:=R.ti t uh;have hC:=R.hC;have hb:=R.hb;have up:∀X,X<5->((w t).Za X).up=true:=fun X d=>(P.nd X d).up;have mono:∀X,X<5->∀κ,TE (Xa ((w (t+1)).Za X)) κ->TE (Xa ((w t).Za X)) κ:=fun X d κ u=>by
  rw[R.a,(Vb d (up X d)).1]at u;exact D5 d hC hb (P.nd X d) (P.JC X d) κ u
 have done:∀X,X<5->∀l∈((w t).Za X).Zd,Rq l->l∈(step ((w t).Za X)).n.Zd\/¬TE (Xa ((w (t+1)).Za X)) (Jw l):=fun X d l j f=>by
  rw[R.a,(Vb d (up X d)).1];exact step_done d hC hb (P.nd X d) (R.nf t uh X d) (fun m o=>⟨P.JC X d m o,hz X d m o⟩) j f
 have ks:∀l,PJ C b l->Rq l->(Jw l).2 ≠ -2:=fun l hj f=>by
  rcases f with k|k
  .rw[Lc k];grind
  .rw[ON k];have:=hj.li.Zx
   grind
 have b3:∀X Ko,X<5->Ask Ko ((w t).Za X) (bx (w t) X)->¬Qm ((w t).Za X)->me Ko (step ((w t).Za X)).n+1<=me Ko ((w t).Za X):=fun X Ko d ha p=>
  Zei d hC hb (P.nd X d) (P.JC X d) (fun l j=>R.uq uh d j) (fun l j=>ha l (aH.2 (.inl j))) p
 refine⟨fun X d=>?_,fun X d κ s h2 u=>?_,fun X d r hr s=>?_⟩
 .let⟨Ko,ha,j⟩:=H.lag X d;let⟨new,e1,e2⟩:=pW KB A (Bc (w t));obtain⟨y,CZ⟩:∃y,y=new.filter fun κ=>decide (κ.2 ≠ -2):=⟨_,rfl⟩
  have ln:(ao y)<=(ao new):=by rw[CZ];exact a9 ..
  have E:∀l∈bx (w (t+1)) X,Rq l->TE (Xa ((w (t+1)).Za X)) (Jw l)->(Jw l∈Ko/\(Qm ((w t).Za X)->(w t).b≠[]))\/Jw l∈y:=fun l j f u=>by
   rw[R.a]at j;have O:∀Y∈bx (w t) X,Rq Y->Jw Y=Jw l->Jw l∈Ko/\(Qm ((w t).Za X)->(w t).b≠[]):=fun Y F q0 N=>by
    refine⟨by rw[<-N];exact ha Y F q0 zK,fun p wU=>?_⟩;rcases aH.1 F with h|h
    .grind [Vv]
    grind
   rcases pX d (up X d) j with h|⟨h,b1⟩
   .exact .inl (O l (aH.2 (.inl ((Vx P hC hb d).2.2 l h))) f rfl)
   .rcases JI.1 h with h|⟨i,hi,h⟩
    .exact .inl (O l (aH.2 (.inr (aV.2 ⟨h,zK⟩))) f rfl)
    .have hN:Bc (w t) (Jw l):=.inl ⟨i,hi,l,h,f,rfl⟩;have k2:=ks l ((Vx P hC hb hi).2.1 l h) f
     grind [UI.inv]
  have pe:((w (t+1)).Za X).Zo=(step ((w t).Za X)).n.Zo:=by rw[R.a];exact (Vb d (up X d)).2.1
  have ae:Xa ((w (t+1)).Za X)=Xa (step ((w t).Za X)).n:=by rw[R.a];exact (Vb d (up X d)).1
  have b0:∀K,me K ((w (t+1)).Za X)=me K (step ((w t).Za X)).n:=fun K=>by unfold me;rw[pe,ae]
  have b2:∀K1 Z m,me (K1++Z) m<=me K1 m+2*(ao Z):=fun K1 Z m=>by
   unfold me;have:=Zmc K1 Z (Xa m);omega
  by_cases p:Qm ((w t).Za X)
  ·-- a free ZM: nothing is left kY Zra is new,and its Zn promise
   have p0:(step ((w t).Za X)).n.Zo=aw\/(ao y)+1<=(ao new):=by
    have K:=Jm _ _ p.2;have Pd:=(XH (Jf (C:=C) (b:=b) (L:=L) d hC hb) _ _ (P.nd X d) (P.JC X d)).1;have D:=(YD p.2 Pd.ZZ).1;have es:(step ((w t).Za X)).n=(YH (Zw ((w t).Za X) ((w t).Za X).Zd).n).n:=by rw[Xi (up X d) p]
    rcases D.Zo with⟨e,_⟩|⟨r,cO,c1,_,_,e⟩
    .grind
    .refine .inr ?_;rw[if_pos (Pd.pr0 (Pd.may r cO) (Q6 c1))]at e;have hN:Bc (w t) (r.b,-2):=.inr ⟨X,d,p,_,_,by rw[es];exact e,rfl⟩;have nA:¬A (r.b,-2):=fun a=>by
      let⟨W,F,hs⟩:=K.back cO;have:=H.Zn X d W F (by rw[<-hs.k.b];exact a);refine this ?_;have N:Xa ((w t).Za X)=((w t).Za X).Zn:=by unfold Xa;rw[p.1]
      rw[N,<-hs.k.b,<-K.Zn];exact c1
     have o:=e2 _ (a1 _ hN) hN nA;have e4:=MC (fun κ:ZN × Int=>decide (κ.2 ≠ -2)) new;have:0<(new.filter fun κ:ZN × Int=>!decide (κ.2 ≠ -2)).length:=List.length_pos_of_mem (aV.2 ⟨o,zX⟩)
     grind
   have a3:∀K,mu K (Xa (step ((w t).Za X)).n)<=mu K (Xa ((w t).Za X)):=fun K=>Zjx fun k u=>mono X d k zK;by_cases wU:(w t).b=[]
   .refine⟨y,fun l j f u=>?_,?_⟩
    .rcases E l j f u with⟨_,q⟩|q
     .grind
     .exact q
    grind [me,Zec,Clear,UI.lag]
   .refine⟨Ko++y,fun l j f u=>?_,?_⟩
    .rcases E l j f u with⟨q,_⟩|q
     .grind
     grind
    grind [me]
  .refine⟨Ko++y,fun l j f u=>?_,?_⟩
   .rcases E l j f u with⟨q,_⟩|q
    .grind
    grind
   grind
 .have V:=mono X d κ u;have a2:∀l,(l∈(step ((w t).Za X)).n.Zd\/(l∈Qw (w t)/\l.to.toNat=X))->l∈bx (w (t+1)) X:=fun l h=>by
   unfold bx;rw[R.a];exact aH.2 (.inl ((TD d (up X d)).2 h))
  rcases s with s|s
  .grind [bx,UI.inv,JI]
  .rcases s with⟨i,hi,m,o,f,e⟩|⟨_,_,_,_,_,_,e⟩
   .let⟨_,_,all⟩:=Sw hi hC hb (P.nd i hi) (P.JC i hi) TT.a (TT.nd i hi) (fun l j=>⟨(P.JC i hi l j).li,TT.JC i hi l j⟩) o f;rcases all X d with⟨m',z1,z2,z3,z4⟩|⟨k0,vs,z⟩|⟨k2,x,z⟩
    .exact⟨m',a2 m' (.inr ⟨JI.2 (.inr ⟨i,hi,z1⟩),by rw[z4];simp⟩),z2,by rw[z3,e]⟩
    .rw[<-e,Lc k0]at V;exact absurd V (R.PG uh d z)
    .rw[<-e,ON k2]at V;have:=((Vx P hC hb hi).2.1 m o).li.Zx;exact absurd V (R.ZdB uh d uh z)
   grind
 .rcases s with s|s
  .have J:=hr;rw[R.a,(Vb d (up X d)).2.2]at J;have Q:=(PT (Zeg (P:=fun c=>∃r,((w t).Za X).Zc=ax r/\c=r.b) d hC hb) (up X d) ⟨P.nd X d,fun r h=>⟨r,h,rfl⟩⟩ (P.JC X d)).1.2;let⟨W,F,N⟩:=Q r J;have:=H.Zn X d W F zK;rw[N];exact fun q=>this ((mono X d (W.b,-1) ⟨fun _=>q,fun e=>absurd rfl e⟩).1 rfl)
  .rcases s with⟨i,hi,m,o,f,e⟩|⟨i,hi,p,a,vs,hp,e⟩
   .exact absurd (by rw[e]) (ks m ((Vx P hC hb hi).2.1 m o) f)
   .have T1:=R.ti (t+1) ht;have pe:((w (t+1)).Za i).Zo=ax (.Zn a vs true):=by rw[R.a,(Vb hi (up i hi)).2.1];exact hp
    let⟨b',ea,_,_,hc⟩:=(T1.nd i hi).Zo _ pe;let⟨r1,LX,e1⟩:=hc rfl;have n1:=((T1.nd i hi).Zc r1 LX).ZM;have n2:=((T1.nd X d).Zc r hr).ZM
    grind [Xa,YM,Yv]
end
open Classical in
noncomputable def OY (w:Nat->Wd):Nat->Nat
 | 0=>0
 | t+1=>OY w t+if Clear (w t) then 0 else 1
def cV(w:Nat->Wd):∀t k,OY w t+k<=t->Ct w t k:=by
 classical
 intro t
 induction t with
 | zero=>
  intro k h;rw[show k=0 by omega];exact Ct.zero _ _
 | succ t a=>
  intro k h
  cases k with
  | zero=>exact Ct.zero _ _
  | succ k=>
   grind [Ct,OY.eq_def]
section
variable {S:Cm->Prop} {C:List Cm} {b:ZN} {L X T t:Nat} {w:Nat->Wd} {g:Nat->Gh} {M:Nat->Nat->ZN} {KB:List (ZN × Int)} {A B:ZN × Int->Prop} {K0 K1 U:Nat} {u:Wd}
theorem UI.same(H:UI K0 U KB A u)(h:∀κ,A κ↔B κ)(hK:K0<=K1):UI K1 U KB B u:=by
 have e:A=B:=funext fun κ=>propext (h κ);subst e;exact⟨fun X a=>by
  grind [UI.lag],H.inv,H.Zn⟩
def UI.start{Ks:List (ZN × Int)}(h:∀X,X<5->∀l∈bx u X,Rq l->Jw l∈Ks):UI (2*(ao Ks)+1+2*(ao KB)) 0 KB (fun _=>False) u:=by
 classical
 refine⟨fun X a=>⟨Ks,fun l i f _=>h X a l i f,?_⟩,fun X a κ d=>d.elim,fun X a r hr d=>d.elim⟩
 grind [Hw,left]
def XP.union(R:XP S C b L T w g M)(i:∀t,t<=T->∀X,X<5->∀l∈((w t).Za X).Zd,tX l)(a:∀t,t<T->∀κ,Bc (w t) κ->κ∈KB)(H:UI K0 U KB A (w 0)):∀t,t<=T->UI (K0+1) (U+OY w t) KB (fun κ=>A κ\/∃u,u<t/\Bc (w u) κ) (w t):=by
 classical
 have key:∀t,t<=T->UI (K0+if t=0 then 0 else 1) (U+OY w t) KB (fun κ=>A κ\/∃u,u<t/\Bc (w u) κ) (w t):=by
  intro t
  induction t with
  | zero=>
   intro _;exact H.same (fun κ=>⟨fun h=>.inl h,fun h=>h.resolve_right fun⟨u,q,_⟩=>by omega⟩) (a6 _ _)
  | succ t f=>
   intro j;have d:=R.pY (t:=t) j (i t uh) (a t uh) (f uh);have k:OY w (t+1)=OY w t+if Clear (w t) then 0 else 1:=by conv=>lhs;unfold OY
   have e:U+OY w t+(if Clear (w t) then 0 else 1)=U+OY w (t+1):=by rw[k,Nat.add_assoc]
   rw[e]at d;refine d.same (fun κ=>⟨fun h=>?_,fun h=>?_⟩) ?_
   .grind
   .grind
   .cases t with
    | zero=>
     grind
    | succ t=>
     have z:(w (t+1)).b=[]:=by rw[R.a,Is]
     grind
 grind [UI.same]
def UI.ig(H:UI K0 U KB A u):U<=K0:=by
 let⟨Ko,_,h⟩:=H.lag 0 uh;omega
def UI.lead(H:UI K0 U KB A u){Y:Nat}{m:Nd}(E:Xa m=Xa (u.Za Y))(f:m.Zo=aw↔(u.Za Y).Zo=aw)(D:m.Zd=(u.Za Y).Zd)(y:∀r,m.Zc=ax r->A (r.b,-2)->¬Zj (Xa m).p r.b):UI K0 U KB A (u.set Y m):=by
 have at':∀X,(u.set Y m).Za X=if X=Y then m else u.Za X:=fun X=>rfl
 have fl:(u.set Y m).b=u.b:=rfl;have o:∀X,Xa ((u.set Y m).Za X)=Xa (u.Za X):=fun X=>by
  grind
 have F:∀X,((u.set Y m).Za X).Zo=aw↔(u.Za X).Zo=aw:=fun X=>by
  grind
 have k:∀X,bx (u.set Y m) X=bx u X:=fun X=>by
  grind [bx]
 refine⟨fun X a=>?_,fun X a κ d f q=>?_,fun X a r hr d=>?_⟩
 .let⟨Ko,i,p⟩:=H.lag X a;refine⟨Ko,fun l s j z=>i l zK j zK,?_⟩
  grind [me]
 .rw[o]at q;rw[k];exact H.inv X a κ d f q
 grind [UI.Zn]
end
def UQ{w:Nat->Wd}{T:Nat}{Z a:Nat->Prop}{k:Nat}(f:∀t,t<=T->Ct w t k->Z t)(st:∀t,t<T->a t->a (t+1))(go:∀t,t<T->Clear (w t)->Z t->a (t+1)):∀t,t<=T->Ct w t (k+1)->a t:=by
 intro t
 induction t with
 | zero=>intro _ h;exact h.elim
 | succ t d=>
  grind [Ct]
def EQ(β:ZN)(Q:XR->Prop)(n:Nd):Prop:=(∃r,n.Zc=ax r/\r.b=β/\Q r)\/Zj β n.Zn.p
def Any(_:XR):Prop:=True
section
variable {S:Cm->Prop} {C:List Cm} {b β:ZN} {L h X T:Nat} {n:Nd} {A G:Yt->Prop} {Q:XR->Prop}
theorem OC(n:Nd)(l:Yt):(Zy n l).n.Zn=n.Zn:=by
 grind [NZ,N0,YE,YT.Zn]
def Zej(d:PN C b L X n){p:OT}(a:n.Zo=ax p)(f:Zj β n.Zn.p):Zj β (Yc (ZE n) p).n.Zn.p:=by
 have e:(Yc (ZE n) p).n.Zn=YM p:=by cases p<;>rfl
 rw[e];exact VY f (d.DL p a).2.1
def EQ.pL(a:∀r r',Yw r r'->Q r->Q r')(l:Yt)(e:EQ β Q n):EQ β Q (Zy n l).n:=by
 rcases e with⟨r,i,f,d⟩|e
 .let⟨r',e,k⟩:=Zh3 i l;exact .inl ⟨r',e,by rw[k.k.b];exact f,a r r' k.k d⟩
 .exact .inr (by rw[OC];exact e)
def EQ.dty(f:∀r r',Yw r r'->Q r->Q r')(d:PN C b L X n)(a:n.Zo=aw)(e:EQ β Q n):EQ β Q (YH n).n:=by
 grind [YD,PN.ZZ,EQ,WK.Rd,WK.Zn,Yw.b]
def EQ.fin(f:∀r r',Yw r r'->Q r->Q r')(d:PN C b L X n){p:OT}(a:n.Zo=ax p)(e:EQ β Q n):EQ β Q (Yc (ZE n) p).n:=by
 rcases e with⟨r,o,j,i⟩|e
 .let⟨r',e,k⟩:=Zh4 o p;exact .inl ⟨r',e,by rw[k.b];exact j,f r r' k i⟩
 .exact .inr (Zej d a e)
def PZ:∀r r':XR,Yw r r'->Any r->Any r':=fun _ _ _ h=>h
def Zij(f:X<5)(hC:(ao C)<=100000)(hb:Zv b):Laws (fun n=>PN C b L X n/\EQ β Any n) (PJ C b) (PJ C b):=
 (Jf f hC hb).and (fun n k h=>h) (fun n l _ _ _ h=>h.pL PZ l) (fun n d a h=>h.dty PZ d a) (fun n p d a h=>h.fin PZ d a)
def tY(f:∀r r',Yw r r'->Q r->Q r')(hit:∀n l,PN C b L X n->n.Zo=aw->A l->∀r,n.Zc=ax r->r.b=β->∃r',(Zy n l).n.Zc=ax r'/\r'.b=β/\Q r'):Q8 (fun n=>PN C b L X n/\EQ β Any n) (PJ C b) A G (EQ β Q) (fun _=>False):=
 ⟨fun n k h=>h,fun n l _ _ _ h=>h.pL f l,fun n d a h=>h.dty f d.1 a,fun n p d a h=>h.fin f d.1 a,fun n k h=>h,fun n h=>h.elim,fun n p _ _ h=>h.elim,fun n l d a i j=>.inl (by
  grind [EQ,OC])⟩
def D7:Q8 (fun n=>PN C b L h n/\EQ β Any n) (PJ C b) (fun m=>m.a=1/\m.b=β/\m.c=X/\m.to=h) G (EQ β fun r=>Has r.c X) (fun _=>False):=
 tY (fun r r' k h=>k.c _ h) fun n l i f ⟨k0,d,a,_⟩ r hr hb=>by
  have e:Zy n l=YI n l:=by unfold Zy;rw[if_neg uh,if_pos (.inl k0)]
  grind [YI,C0,Has.now]
def AP{s:Int}{x:Cm}:Q8 (fun n=>PN C b L h n/\EQ β Any n) (PJ C b) (fun m=>m.a=3/\m.v=Qb s β x/\m.c=X/\m.to=h) G (EQ β fun r=>Vtd r s X) (fun _=>False):=
 tY (fun r r' k h=>k.Xc _ _ h) fun n l y q ⟨k0,d,j,_⟩ r hr a=>by
  have e:Zy n l=YI n l:=by unfold Zy;rw[if_neg uh,if_pos (.inr k0)]
  rw[e];unfold YI;rw[hr];simp only;have hb:l.v.b=β:=by rw[d];rfl
  have o:l.v.Zx=s:=by rw[d];rfl
  rw[if_neg uh,if_neg zK];have f:Vtd { r with Xc:=ins r.Xc l.v.Zx (UB r l) } s X:=by
   show Has ((YF (ins r.Xc l.v.Zx (UB r l)) s).getD []) X;rw[XQ,if_pos o];show Has (UB r l) X;unfold UB;rw[j];exact Has.now _ _ _
  split
  .let⟨k,_,_⟩:=QK (Vc n r l) l.v.Zx l.v.cm;let⟨r',p,i⟩:=k.on (r:={ r with Xc:=ins r.Xc l.v.Zx (UB r l) }) rfl;exact⟨r',p,by rw[i.k.b];exact a,i.k.Xc _ _ f⟩
  .exact⟨_,rfl,a,f⟩
def VZ(β:ZN)(n:Nd):Prop:=Full n\/Zj β n.Zn.p
def GW:(∀n k,VZ β n->VZ β { n with Zd:=k })/\(∀n l,VZ β n->VZ β (Zy n l).n)/\(∀n,PN C b L X n->n.Zo=aw->VZ β n->VZ β (YH n).n)/\∀n p,PN C b L X n->n.Zo=ax p->VZ β n->VZ β (Yc (ZE n) p).n:=
 ⟨fun n k h=>h,fun n l h=>h.imp (·.pL l) fun q=>(by rw[OC];exact q),fun n a d h=>h.imp (·.dty (YD d a.ZZ).1) fun q=>(by rw[(YD d a.ZZ).1.Zn];exact q),fun n p a d h=>h.imp (·.fin a p) (Zej a d)⟩
def AQ(s:Zv β):Q8 (PN C b L X) (PJ C b) (fun l=>l.a=0/\l.b=β/\l.c=h) (fun m=>m.a=1/\m.b=β/\m.c=X/\m.to=h) (VZ β) (fun n=>∃a vs,n.Zo=ax (.QB a h β vs)):=by
 let⟨f1,f2,z,y⟩:=GW (C:=C) (b:=b) (β:=β) (L:=L) (X:=X);refine⟨f1,fun n l _ _ _ h=>f2 n l h,z,y,fun n k h=>h,fun n ⟨a,vs,h⟩ e=>zK,fun n p d f ⟨a,vs,r⟩=>?_,fun n l d f D ⟨k0,q,o⟩=>?_⟩
 .rw[r]at f;obtain rfl:=aag f;exact .inr ⟨_,aq.2 rfl,rfl,rfl,by show ((ZE n).me:Int)=X;rw[show (ZE n).me=n.me from rfl,d.ni.me],rfl⟩
 .by_cases i:Zj β n.Zn.p
  .exact .inl (.inr (by rw[OC];exact i))
  have e:Zy n l=Y3 n l:=by unfold Zy;rw[if_pos k0]
  rw[e];unfold Y3;rw[q,o,if_neg (by rw[d.pr0 s i];simp)];by_cases j:n.Zn.p=β
  .rw[if_pos j];exact .inr (.inr ⟨_,aq.2 rfl,rfl,rfl,by show (n.me:Int)=X;rw[d.ni.me],rfl⟩)
  grind [VZ,DN]
def D8{s:Int}{x:Cm}(r:Yz (Qb s β x)):Q8 (PN C b L X) (PJ C b) (fun l=>l.a=2/\l.v=Qb s β x/\l.c=h) (fun m=>m.a=3/\m.v=Qb s β x/\m.c=X/\m.to=h) (VZ β) (fun n=>∃a,n.Zo=ax (.Us a h (Qb s β x))):=by
 let⟨f1,f2,D,z⟩:=GW (C:=C) (b:=b) (β:=β) (L:=L) (X:=X);refine⟨f1,fun n l _ _ _ h=>f2 n l h,D,z,fun n k h=>h,fun n ⟨a,h⟩ e=>zK,fun n p d f ⟨a,y⟩=>?_,fun n l d f E ⟨k0,q,o⟩=>?_⟩
 .rw[y]at f;obtain rfl:=aag f;exact .inr ⟨_,aq.2 rfl,rfl,rfl,by show ((ZE n).me:Int)=X;rw[show (ZE n).me=n.me from rfl,d.ni.me],rfl⟩
 .by_cases i:Zj β n.Zn.p
  .exact .inl (.inr (by rw[OC];exact i))
  have e:Zy n l=asked n l:=by
   unfold Zy;rw[if_neg uh,if_neg uh,if_pos k0]
  rw[e];unfold asked;rw[q,o,if_neg (by rw[d.ac0 r i];simp)];by_cases j:Qb s β x∈n.Zn.l
  .rw[if_pos j];exact .inr (.inr ⟨_,aq.2 rfl,rfl,rfl,by show (n.me:Int)=X;rw[d.ni.me],rfl⟩)
  grind [VZ,jA]
def jK{α:Type}{l:List (Int × α)}{Q:List Nat}(q:Co Q)(h:∀X∈Q,Has l (X:Int)):5<2*(ao l):=by
 have n2:(Q.map fun X:Nat=>(X:Int)).Nodup:=bl.2 (List.Pairwise.imp (fun h e=>h uh) q.1);have:=YS (C:=l.map (·.1)) n2 fun x a=>by
  obtain⟨X,d,rfl⟩:=a7.1 a;have:=h X d;unfold Has at this
  cases e:YF l (X:Int) with
  | none=>grind
  | some v=>exact ZhR e
 have f:=q.2.2
 grind
def AS{r:XR}(hr:n.Zc=ax r)(a:¬Zj r.b n.Zn.p):Yj (Zt n)=Jc n r:=by
 grind [Yj,UF]
end
structure jL(S:Cm->Prop)(C:List Cm)(b:ZN)(L T:Nat)(w:Nat->Wd)(g:Nat->Gh)(M:Nat->Nat->ZN)(β:ZN)(h:Nat)(Q:List Nat)(l:Nat):Prop where
 rd:XP S C b L T w g M
 hh:h<5
 a:Co Q
 may:Zv β
 hS:∀x,S x->x.err=0
 ch:∀t,t<=T->∀s:Nat,s<l->∃y,J9 (g t) (s:Int) y
 l40:l<=40
 Yi:∀t,t<=T->∀X,X∈Q\/X=h->¬Zj β ((w t).Za X).Zn.p
 al:∃r,((w 0).Za h).Zc=ax r/\r.b=β
section
variable {S:Cm->Prop} {C:List Cm} {b β:ZN} {L h X T t l:Nat} {w:Nat->Wd} {g:Nat->Gh} {M:Nat->Nat->ZN} {Q:List Nat} {R:XR->Prop}
def XP.jM(R:XP S C b L T w g M){E:Nd->Prop}(j:∀n k,E n->E { n with Zd:=k })(a:X<5)(i:∀n l,PN C b L X n->E n->E (Zy n l).n)(f:∀n,PN C b L X n->n.Zo=aw->E n->E (YH n).n)(d:∀n p,PN C b L X n->n.Zo=ax p->E n->E (Yc (ZE n) p).n)(h:E ((w t).Za X)):E ((w (t+1)).Za X):=by
 have W:=(Jf (C:=C) (b:=b) (L:=L) (X:=X) a R.hC R.hb).and (E:=E) j (fun n l h _ _ q=>i n l h q) f d;have:=(PT W ((R.at t).nd X a).up ⟨(R.at t).nd X a,h⟩ ((R.at t).JC X a)).1.2;rw[R.a,Qg _ X a ((R.at t).nd X a).up]
 grind
def XP.Mb(R:XP S C b L T w g M)(f:X<5){j:Int}(h:Has ((w t).Za X).Zi j):Has ((w (t+1)).Za X).Zi j:=
 R.jM (E:=fun n=>Has n.Zi j) (fun n k h=>h) f (fun n l _ h=>yV h l) (fun n d a h=>yW h a d) (fun n p _ _ h=>yX h p) h
def XP.Zek(R:XP S C b L T w g M)(i:X<5){P:XR->Prop}(f:∀r r',Yw r r'->P r->P r')(h:EQ β P ((w t).Za X)):EQ β P ((w (t+1)).Za X):=
 R.jM (fun n k h=>h) i (fun n l _ h=>h.pL f l) (fun n d a h=>h.dty f d a) (fun n p d a h=>h.fin f d a) h
def XP.cW(R:XP S C b L T w g M)(a:X<5){A G:Yt->Prop}{E F:Nd->Prop}(H:Q8 (fun n=>PN C b L X n/\EQ β Any n) (PJ C b) A G E F)(k:EQ β Any ((w t).Za X))(j:Src A E F ((w t).Za X)):
  (Src A E F ((w (t+1)).Za X)\/∃m∈Qw (w t),G m)/\(Qm ((w t).Za X)->E ((w (t+1)).Za X)\/∃m∈Qw (w t),G m):=by
 have P:=R.at t;have d:=(P.nd X a).up;let⟨q,p⟩:=jr (Zij (β:=β) a R.hC R.hb) H d ⟨P.nd X a,k⟩ (P.JC X a) j;have o:(∃m∈(step ((w t).Za X)).ls,G m)->∃m∈Qw (w t),G m:=fun⟨m,i,f⟩=>⟨m,JI.2 (.inr ⟨X,a,i⟩),f⟩
 rw[R.a,Qg _ X a d]
 grind [Src,Q8.a,Q8.yS]
def XP.Hx(R:XP S C b L T w g M)(d:X<5){A G:Yt->Prop}{E F:Nd->Prop}(H:Q8 (PN C b L X) (PJ C b) A G E F)(a:Src A E F ((w t).Za X)):
  (Src A E F ((w (t+1)).Za X)\/∃m∈Qw (w t),G m)/\(Qm ((w t).Za X)->E ((w (t+1)).Za X)\/∃m∈Qw (w t),G m):=by
 rw[R.a];exact DM (R.at t) R.hC R.hb d H a
def XP.XN(R:XP S C b L T w g M){Y:Nat}(a:Y<5){A:Yt->Prop}{E F:Nd->Prop}(h:∃m∈Qw (w t),A m)(d:∀m,A m->m.to=Y):Src A E F ((w (t+1)).Za Y):=by
 rw[R.a];exact pP a ((R.at t).nd Y a).up h (fun m q=>by grind)
def XP.Zel(R:XP S C b L T w g M)(f:X<5)(a:Qm ((w t).Za X)):∃d:Nd,PN C b L X d/\d.Zo=aw/\YT ((w t).Za X) d/\(∀l∈(YH d).ls,l∈Qw (w t))/\∃k,(w (t+1)).Za X = { (YH d).n with Zd:=k }:=by
 rw[R.a];exact pR (R.at t) R.hC R.hb f a
namespace jL
variable (I:jL S C b L T w g M β h Q l)
include I
theorem alive:∀t,t<=T->∃r,((w t).Za h).Zc=ax r/\r.b=β:=by
 have key:∀t,EQ β Any ((w t).Za h):=by
  intro t
  induction t with
  | zero=>grind [EQ,Any,jL.al]
  | succ t a=>exact I.rd.Zek I.hh PZ a
 intro t d;rcases key t with⟨r,i,f,_⟩|q
 .grind
 .exact absurd q (I.Yi t d h (.inr rfl))
def any(t:Nat)(a:t<=T):EQ β Any ((w t).Za h):=by
 grind [EQ,Any,jL.alive]
def Z1(_:jL S C b L T w g M β h Q l)(t:Nat):Prop:=((w t).Za h).Zn.p=β\/∃p,((w t).Za h).Zo=ax p/\(YM p).p=β
def Zem(t:Nat)(d:t<=T)(a:¬Zj ((w t).Za h).Zn.p β):((w t).Za h).Zn.p=β:=UW a (I.Yi t d h (.inr rfl))
def Mc(t:Nat)(a:t<T)(d:((w t).Za h).Zn.p=β):((w (t+1)).Za h).Zn.p=β:=
 I.Zem (t+1) a (I.rd.Vs I.hh (t0:=t) (by rw[d];exact Yv _) (t+1) uh)
def Zrb(t:Nat)(a:t<T)(z:I.Z1 t):I.Z1 (t+1):=by
 rcases z with z|⟨p,d,e⟩
 .exact .inl (I.Mc t a z)
 .have P:=(I.rd.at t).nd h I.hh;refine .inl ?_;rw[I.rd.a,Qg _ h I.hh P.up];have es:step ((w t).Za h)=Yc (ZE ((w t).Za h)) p:=by unfold step;rw[if_pos P.up,d]
  show (step ((w t).Za h)).n.Zn.p=β;rw[es];have:(Yc (ZE ((w t).Za h)) p).n.Zn=YM p:=by cases p<;>rfl
  grind
def Zrc(t:Nat)(f:t<T)(hc:Qm ((w t).Za h)):I.Z1 (t+1):=by
 let⟨d,y,D,K,E,k,e⟩:=I.rd.Zel I.hh hc;let⟨r,p,o⟩:=I.alive t uh;let⟨r',j,i⟩:=K.on p;have hb:r'.b=β:=by rw[i.k.b];exact o
 by_cases q:((w t).Za h).Zn.p=β
 .exact .inl (I.Mc t f q)
 .have s:Zj d.Zn.p r'.b:=by
   rw[hb,K.Zn];exact aS fun z=>q (I.Zem t uh z)
  let⟨a,vs,z1,z2⟩:=Zee y j s (by unfold Full;rw[K.data];exact I.rd.nf t uh h I.hh);refine .inr ⟨_,by rw[e];exact z1,?_⟩;show a.p=β;rw[z2,hb]
def z1:∀t,t<=T->Ct w t 1->I.Z1 t:=UQ (Z:=fun _=>True) (fun _ _ _=>trivial) (fun t a z=>I.Zrb t a z) fun t a hc _=>I.Zrc t a (hc h I.hh)
def Mst(β:ZN):Nd->Prop:=EQ β fun r=>∃Q,Co Q/\∀X∈Q,Has r.c (X:Int)
omit I in
def zo:∀r r',Yw r r'->(∃Q,Co Q/\∀X∈Q,Has r.c (X:Int))->∃Q,Co Q/\∀X∈Q,Has r'.c (X:Int):=fun _ _ k ⟨Q,q,h⟩=>⟨Q,q,fun X a=>k.c _ (h X a)⟩
def P1(β:ZN)(h:Nat)(n:Nd):Prop:=Src (fun l=>l.a=0/\l.b=β/\l.c=h) (VZ β) (fun n=>∃a vs,n.Zo=ax (.QB a h β vs)) n
def P2(β:ZN)(h X:Nat)(n:Nd):Prop:=Src (fun m=>m.a=1/\m.b=β/\m.c=X/\m.to=h) (EQ β fun r=>Has r.c (X:Int)) (fun _=>False) n
def Z2(_:jL S C b L T w g M β h Q l)(t:Nat):Prop:=((w t).Za h).Zn.p=β/\(Mst β ((w t).Za h)\/∀X∈Q,P1 β h ((w t).Za X)\/P2 β h X ((w t).Za h))
def Z3(_:jL S C b L T w g M β h Q l)(t:Nat):Prop:=((w t).Za h).Zn.p=β/\(Mst β ((w t).Za h)\/∀X∈Q,P2 β h X ((w t).Za h))
def Z4(_:jL S C b L T w g M β h Q l)(t:Nat):Prop:=((w t).Za h).Zn.p=β/\Mst β ((w t).Za h)
def tZ(t:Nat)(a:t<=T)(d:X∈Q):¬VZ β ((w t).Za X):=fun q=>by
 rcases q with q|q
 .exact I.rd.nf t a X (I.a.2.1 X d) q
 .exact I.Yi t a X (.inl d) q
def Zen(t:Nat)(a:t<T)(X:Nat)(p:P2 β h X ((w t).Za h)):P2 β h X ((w (t+1)).Za h):=by
 rcases (I.rd.cW I.hh (D7 (G:=fun _=>False)) (I.any t uh) p).1 with q|⟨_,_,q⟩
 .exact q
 grind
def Zre(t:Nat)(f:t<T)(d:X∈Q)(p:P1 β h ((w t).Za X)):P1 β h ((w (t+1)).Za X)\/P2 β h X ((w (t+1)).Za h):=by
 rcases (I.rd.Hx (I.a.2.1 X d) (AQ I.may) p).1 with q|q
 .exact .inl q
 .exact .inr (I.rd.XN I.hh q fun m a=>a.2.2.2)
def Zrf(t:Nat)(d:t<T)(a:X∈Q)(i:Qm ((w t).Za X))(p:P1 β h ((w t).Za X)):P2 β h X ((w (t+1)).Za h):=by
 rcases (I.rd.Hx (I.a.2.1 X a) (AQ I.may) p).2 i with q|q
 .exact absurd q (I.tZ (t+1) d a)
 .exact I.rd.XN I.hh q fun m f=>f.2.2.2
def D9(t:Nat)(m:Mst β ((w t).Za h)):Mst β ((w (t+1)).Za h):=I.rd.Zek I.hh zo m
def Zrg(t:Nat)(a:t<T)(z:I.Z2 t):I.Z2 (t+1):=
 ⟨I.Mc t a z.1,z.2.imp (I.D9 t) fun z X d=>(z X d).elim (fun q=>I.Zre t a d q) fun q=>.inr (I.Zen t a X q)⟩
def Zrh(t:Nat)(a:t<T)(z:I.Z3 t):I.Z3 (t+1):=
 ⟨I.Mc t a z.1,z.2.imp (I.D9 t) fun z X d=>I.Zen t a X (z X d)⟩
def Zri(t:Nat)(a:t<T)(z:I.Z4 t):I.Z4 (t+1):=⟨I.Mc t a z.1,I.D9 t z.2⟩
def Zrj(t:Nat)(ht:t<T)(hc:Clear (w t))(z:I.Z1 t):I.Z2 (t+1):=by
 have O:=hc h I.hh;have N:((w t).Za h).Zn.p=β:=by
  rcases z with z|⟨p,i,_⟩
  .exact z
  .rw[O.1]at i;cases i
 let⟨d,y,i,K,s,k,e⟩:=I.rd.Zel I.hh O;let⟨r,h1,h2⟩:=I.alive t uh;let⟨r',V,h4⟩:=K.on h1;have hb:r'.b=β:=by rw[h4.k.b];exact h2
 have J:d.Zn.p=β:=by rw[K.Zn];exact N
 refine⟨I.Mc t ht N,?_⟩;have er:=AS V (by rw[hb,J];exact Yv _);have D:=(YD i y.ZZ).1
 have pr:∃f,((w (t+1)).Za h).Zc=ax f/\f.b=β/\f.c=r'.c:=by
  rw[e];rcases D.Rd with⟨q,_⟩|⟨Z,q,o,_⟩|⟨Z,f,q,_,o,k2,_,_,H⟩
  .grind
  .grind [Yv]
  .grind [Yw.b]
 let⟨f,g1,W,g3⟩:=pr;by_cases c:5<2*r'.c.length
 .refine .inl (.inl ⟨f,g1,W,?_⟩);have Y:=(y.ni.Zc r' V).c;refine⟨_,Y.maj c,fun X j=>?_⟩;let⟨v,hv⟩:=Y.back j;rw[g3];exact fun q=>by grind
 .refine .inr fun X j=>?_;by_cases q:Has r'.c (X:Int)
  .exact .inr (.inl (.inl ⟨f,g1,W,zK⟩))
  .refine .inl (I.rd.XN (I.a.2.1 X j) (A:=fun l=>l.a=0/\l.b=β/\l.c=h/\l.to=X) (E:=VZ β) (F:=fun n=>∃a vs,n.Zo=ax (.QB a h β vs)) ⟨⟨0,d.me,X,r'.b,Ps,[]⟩,s _ (cQ ?_),rfl,hb,by show (d.me:Int)=h;rw[y.ni.me],rfl⟩ (fun m s=>s.2.2.2) |>.imp (fun h=>h) (Or.imp (fun h=>h) fun⟨l,hl,q1,o,H,_⟩=>⟨l,hl,q1,o,H⟩));rw[er];unfold Jc;rw[if_neg (by rw[hb,J];exact Yv _),if_pos c];unfold Te;refine aW.2 ⟨X,bo.2 (I.a.2.1 X j),?_⟩;rw[if_pos (by unfold Has at q;simpa using q)]
   grind
def z2:∀t,t<=T->Ct w t 2->I.Z2 t:=UQ I.z1 I.Zrg I.Zrj
def z3:∀t,t<=T->Ct w t 3->I.Z3 t:=UQ I.z2 I.Zrh fun t a hc z=>
 ⟨I.Mc t a z.1,z.2.imp (I.D9 t) fun z X d=>(z X d).elim (fun q=>I.Zrf t a d (hc X (I.a.2.1 X d)) q) fun q=>I.Zen t a X q⟩
def z4:∀t,t<=T->Ct w t 4->I.Z4 t:=UQ I.z3 I.Zri fun t a hc z=>by
 refine⟨I.Mc t a z.1,z.2.elim (I.D9 t) fun z=>?_⟩;have each:∀X∈Q,∃r,((w (t+1)).Za h).Zc=ax r/\r.b=β/\Has r.c (X:Int):=fun X d=>by
  rcases (I.rd.cW I.hh (D7 (G:=fun _=>False)) (I.any t uh) (z X d)).2 (hc h I.hh) with (q|q)|⟨_,_,q⟩
  .exact q
  .exact absurd q (I.Yi (t+1) a h (.inr rfl))
  grind
 let⟨r,i,f⟩:=I.alive (t+1) a;refine .inl ⟨r,i,f,Q,I.a,fun X d=>?_⟩
 grind
end jL
end
