/- Part Tco. -/
import Derived.Test.YtnhfdnlcpdbjlaaGreatDoorTcd
import Derived.Test.YtnhfdnlcpdbjlaaGreatDoorTyb
import Derived.Test.YtnhfdnlcpdbjlaaGreatDoorChw
open List renaming length→O,mem_append→aa,filter_cons_of_pos→am,mem_singleton→au,mem_filter→aK,mem_map→aU,length_cons→a0,filter_cons_of_neg→a7,length_append→a8,length_map→a9,range→bc,mem_range→bf,append_nil→bj,mem_cons_of_mem→bl,append_assoc→bn,filter_append→bo,length_filter_le→bp,countP_le_length→br,map_cons→bw,mem_flatMap→bx,map_append→bA,nodup_append→bD,length_take→bG,countP_cons→bR,pairwise_map→b4,length_range→b5,length_singleton→b7,mem_cons→b8,sum_cons→b9,mem_cons_self→ca,getElem?_eq_some_iff→cc,getElem?_eq_getElem→cf,nodup_cons→cg,filter_nil→ck
open Nat renaming le_refl→al,le_add_right→bh,le_trans→bk,le_succ→bS,zero_le→b0
open Int renaming toNat_natCast→cd
open Option renaming some→ba,none→bd
open Classical renaming byContradiction→aw
open Prod renaming snd→cn
open Or renaming imp_right→b6
namespace Go.Proofs.YtnhfdnlcpdbjlaaGreatDoor
open Go Go.V
set_option linter.all false
variable{X:Nat}
def Bw(w:Wd)(b:Yg):Prop:=∀Y:Nat,Y<5->b.n=Y->¬Zw (YD (w.Zc Y)).p b
def Ak(w:Wd)(l:Yn):Prop:=l.ZH=0->Bw w l.b
structure WV(C:List Cm)(v:Vw)(w:Wd):Prop where
 nd:∀X,X<5->NV C v X (w.Zc X)
 TA:∀l∈w.Zm,LV (O C) v l
 QD:∀X,X<5->∀l∈(w.Zc X).Zf,LV (O C) v l
 fj:FJ v w.Zm
 ff:∀X,X<5->FI v (YD (w.Zc X)).p (w.Zm.filter (sc X))
 fb:∀X,X<5->FI v (YD (w.Zc X)).p (TK (w.Zc X)++(w.Zc X).Zf)
 bg:∀b∈v.B,b∈v.K/\∃Q,tM Q/\∀i∈Q,Dn v i b (-1)
 nB:v.B.Nodup
 kr:∀b∈v.K,(1<=b.r/\b.r<=v.K.length)/\0<=b.n/\b.n<5
 aF:∀l∈w.Zm,Ak w l
 aI:∀X,X<5->∀l∈(w.Zc X).Zf,Ak w l
 sN:∀X,X<5->Bw w (YD (w.Zc X)).p/\∀p,(w.Zc X).Zp=ba p->Bw w (XW p).p\/(XW p).p.n=(X:Int)
section
variable {C C':List Cm} {u v:Vw} {w:Wd} {X:Nat} {n m:Nd} {S:Cm->Prop} {g:Gh} {M:Nat->Yg}
def WV.up(W:WV C u w)(L:u.Le v)(hB:v.B=u.B)(kr:∀b∈v.K,(1<=b.r/\b.r<=v.K.length)/\0<=b.n/\b.n<5):WV C v w:=
 ⟨fun X hX=>(W.nd X hX).up L fun b hb=>.inl (by rw[<-hB];exact hb),fun l hl=>(W.TA l hl).up L,fun X hX l hl=>(W.QD X hX l hl).up L,W.fj.up L,fun X hX=>(W.ff X hX).up L (YR _),fun X hX=>(W.fb X hX).up L (YR _),fun b hb=>by
  rw[hB]at hb;obtain⟨h,Q,q,d⟩:=W.bg b hb;exact⟨L.k _ h,Q,q,fun i hi=>L.dn (d i hi)⟩,by rw[hB];exact W.nB,kr,W.aF,W.aI,W.sN⟩
def WV.out(W:WV C u w)(hX:X<5){o:Out}(h:SV C u X (w.Zc X) o v):WV C v (w.out X o):=by
 have L:=h.go.le;have other:∀Y,Y≠X->(w.out X o).Zc Y=w.Zc Y:=fun Y e=>by unfold Wd.out;simp only[if_neg e]
 have here:(w.out X o).Zc X=o.n:=by unfold Wd.out;simp
 have pn:∀Y,¬Zw (YD ((w.out X o).Zc Y)).p (YD (w.Zc Y)).p:=fun Y=>by
  by_cases e:Y=X
  .subst e;rw[here];exact h.p
  .rw[other Y e];exact YR _
 have st:∀b,Bw w b->Bw (w.out X o) b:=fun b a Y hY e=>Xs (a Y hY e) (pn Y);have ak:∀l,Ak w l->Ak (w.out X o) l:=fun l a q=>st _ (a q);refine⟨fun Y hY=>?_,fun l hl=>?_,fun Y hY l hl=>?_,(W.fj.up L).app h.j,fun Y hY=>?_,fun Y hY=>?_,fun b hb=>?_,?_,by rw[h.go.k];exact W.kr,fun l hl=>?_,fun Y hY l hl=>?_,fun Y hY=>?_⟩
 .by_cases e:Y=X
  .subst e;rw[here];exact h.nd
  .rw[other Y e];refine (W.nd Y hY).up L fun b hb=>?_;rcases h.go.b with q|⟨b',q,q2,_⟩
   .exact .inl (by rw[<-q];exact hb)
   .rw[q]at hb;rcases aa.1 hb with hb|hb
    .exact .inl hb
    .rw[au.1 hb];exact .inr mD
 .rcases aa.1 hl with hl|hl
  .exact (W.TA l hl).up L
  .exact h.l l hl
 .by_cases e:Y=X
  .subst e;rw[here]at hl;exact (W.QD Y hY l (h.ib l hl)).up L
  .rw[other Y e]at hl;exact (W.QD Y hY l hl).up L
 .show FI v _ ((w.Zm++o.ls).filter (sc Y));rw[bo];exact ((W.ff Y hY).up L (pn Y)).app (h.f Y hY _)
 .by_cases e:Y=X
  .subst e;rw[here];exact h.b
  .rw[other Y e];exact (W.fb Y hY).up L (YR _)
 .rcases h.go.b with q|⟨b',q,q2,_,q3,Q,q4,q5⟩
  .rw[q]at hb;obtain⟨h1,Q,q,d⟩:=W.bg b hb;exact⟨L.k _ h1,Q,q,fun i hi=>L.dn (d i hi)⟩
  .rw[q]at hb;rcases aa.1 hb with hb|hb
   .obtain⟨h1,Q,q,d⟩:=W.bg b hb;exact⟨L.k _ h1,Q,q,fun i hi=>L.dn (d i hi)⟩
   .rw[au.1 hb];exact⟨L.k _ q3,Q,q4,q5⟩
 .rcases h.go.b with q|⟨b',q,_,q3,_⟩
  .rw[q];exact W.nB
  .rw[q,bD];exact⟨W.nB,sW,fun a ha b hb e=>q3 (by rw[<-au.1 hb,<-e];exact ha)⟩
 .rcases aa.1 hl with hl|hl
  .exact ak l (W.aF l hl)
  .intro q Y hY e;obtain⟨h1,h2⟩:=h.a l hl q;have:Y=X:=mD;subst this;rw[here];exact h2
 .by_cases e:Y=X
  .subst e;rw[here]at hl;exact ak l (W.aI Y hY l (h.ib l hl))
  .rw[other Y e]at hl;exact ak l (W.aI Y hY l hl)
 .by_cases e:Y=X
  .subst e;rw[here];have z:=W.sN Y hY;refine⟨?_,fun p hp=>?_⟩
   .rcases h.sp with q|⟨p,hp,q⟩
    .rw[q];exact st _ z.1
    .rcases z.2 p hp with a|a
     .rw[q];exact st _ a
     .intro Z hZ eZ;have:Z=Y:=by rw[q]at eZ;omega
      subst this;rw[here];exact YR _
   .rcases h.sq p hp with⟨p',q1,q⟩|⟨l,hl,a,q⟩|q|q
    .rw[q];exact (z.2 p' q1).imp_left (st _)
    .rw[q];exact .inl (st _ (W.aI Y hY l hl a))
    .exact .inl (st _ fun Z hZ eZ=>(W.nd Z hZ).Zr _ q eZ)
    .exact .inr q
  .rw[other Y e];exact⟨st _ (W.sN Y hY).1,fun p hp=>((W.sN Y hY).2 p hp).imp_left (st _)⟩
def WV.set(W:WV C u w)(hX:X<5)(s:Go1 u v X 1)(h1:NV C v X m)(h2:FI v (YD m).p (TK m++m.Zf))(h3:¬Zw (YD m).p (YD (w.Zc X)).p)(h4:∀l∈m.Zf,l∈(w.Zc X).Zf)(h5:(O m.data)<=(w.Zc X).data.length+38)(h6:(YD m).p=(YD (w.Zc X)).p\/∃p,(w.Zc X).Zp=ba p/\(YD m).p=(XW p).p)(h7:∀p,m.Zp=ba p->∃p',(w.Zc X).Zp=ba p'/\(XW p).p=(XW p').p):WV C v (w.set X m):=by
 rw[VF];exact W.out hX ⟨s,h1,(fun l hl=>by cases hl),FJ.nil,(fun _ _ _=>FI.nil),h2,h3,h4,h5,(fun l hl=>by cases hl),h6,fun p hp=>.inl (h7 p hp)⟩
def WV.soft(W:WV C u w)(hX:X<5)(e:YD m=YD (w.Zc X))(h1:NV C u X m)(h2:TK m=TK (w.Zc X))(h3:m.Zf=(w.Zc X).Zf)(h4:m.data=(w.Zc X).data)(h5:∀p,m.Zp=ba p->∃p',(w.Zc X).Zp=ba p'/\(XW p).p=(XW p').p):WV C u (w.set X m):=
 W.set hX (.refl u 1) h1 (by rw[e,h2,h3];exact W.fb X hX) (by rw[e];exact YR _) (by rw[h3];exact fun l h=>h) (by rw[h4];omega) (.inl (by rw[e])) h5
def WV.JP(W:WV C v w){l:Yn}(h0:0<=l.to/\l.to<5)(hl:LV (O C) v l)(ha:Ak w l)(hf:l.ZH=2->Nk (Uv v) l.v.Zs.toNat (gT v)):WV C v (JP w l):=by
 unfold Go.Proofs.YtnhfdnlcpdbjlaaGreatDoor.JP;split
 .have hX:l.to.toNat<5:=mD;have other:∀Y,Y≠l.to.toNat->(w.set l.to.toNat { w.Zc l.to.toNat with Zf:=(w.Zc l.to.toNat).Zf++[l] }).Zc Y=w.Zc Y:=fun Y e=>by unfold Wd.set;simp only[if_neg e]
  have here:(w.set l.to.toNat { w.Zc l.to.toNat with Zf:=(w.Zc l.to.toNat).Zf++[l] }).Zc l.to.toNat = { w.Zc l.to.toNat with Zf:=(w.Zc l.to.toNat).Zf++[l] }:=by unfold Wd.set;simp
  have eq:∀Y,YD ((w.set l.to.toNat { w.Zc l.to.toNat with Zf:=(w.Zc l.to.toNat).Zf++[l] }).Zc Y)=YD (w.Zc Y):=fun Y=>by
   by_cases e:Y=l.to.toNat
   .subst e;rw[here];rfl
   .rw[other Y e]
  have st:∀b,Bw w b->Bw (w.set l.to.toNat { w.Zc l.to.toNat with Zf:=(w.Zc l.to.toNat).Zf++[l] }) b:=fun x a Y hY e=>by rw[eq];exact a Y hY e
  have ak:∀x,Ak w x->Ak (w.set l.to.toNat { w.Zc l.to.toNat with Zf:=(w.Zc l.to.toNat).Zf++[l] }) x:=fun x a q=>st _ (a q);refine⟨fun Y hY=>?_,W.TA,fun Y hY x hx=>?_,W.fj,fun Y hY=>?_,fun Y hY=>?_,W.bg,W.nB,W.kr,fun x hx=>ak x (W.aF x hx),fun Y hY x hx=>ak x ?_,fun Y hY=>?_⟩
  .by_cases e:Y=l.to.toNat
   .subst e;rw[here];exact (W.nd _ hX).box _
   .rw[other Y e];exact W.nd Y hY
  .by_cases e:Y=l.to.toNat
   .subst e;rw[here]at hx;rcases aa.1 hx with hx|hx
    .exact W.QD _ hX x hx
    .rw[au.1 hx];exact hl
   .rw[other Y e]at hx;exact W.QD Y hY x hx
  .rw[eq];exact W.ff Y hY
  .by_cases e:Y=l.to.toNat
   .subst e;rw[here];show FI v (YD (w.Zc l.to.toNat)).p (TK (w.Zc l.to.toNat)++((w.Zc l.to.toNat).Zf++[l]));rw[<-bn];exact (W.fb _ hX).app (FI.one hf)
   .rw[other Y e];exact W.fb Y hY
  .by_cases e:Y=l.to.toNat
   .subst e;rw[here]at hx;rcases aa.1 hx with hx|hx
    .exact W.aI _ hX x hx
    .rw[au.1 hx];exact ha
   .rw[other Y e]at hx;exact W.aI Y hY x hx
  .have ep:((w.set l.to.toNat { w.Zc l.to.toNat with Zf:=(w.Zc l.to.toNat).Zf++[l] }).Zc Y).Zp=(w.Zc Y).Zp:=by
    by_cases e:Y=l.to.toNat
    .subst e;rw[here]
    .rw[other Y e]
   rw[eq,ep];exact⟨st _ (W.sN Y hY).1,fun p hp=>((W.sN Y hY).2 p hp).imp_left (st _)⟩
 .exact W
def K0.r(kr:∀b∈v.K,(1<=b.r/\b.r<=v.K.length)/\0<=b.n/\b.n<5){b:Yg}(h:K0 v b):0<=b.r/\b.r<=v.K.length:=by
 rcases h with rfl|h
 .exact⟨Int.le_refl _,by show (0:Int)<=_;omega⟩
 .have:=kr b h;omega
def ZhO(W:WV C v w)(hX:X<5)(Hj:(w.Zc X).me=X):∃u,WV C u (w.set X (lead (w.Zc X)))/\u.cost<=v.cost+1/\u.K.length<=v.K.length+1:=by
 have V:=W.nd X hX;by_cases q:(w.Zc X).up=false\/65536<(YM (w.Zc X)).r
 .refine⟨v,?_,bS _,bS _⟩;have e:lead (w.Zc X)=w.Zc X:=by unfold lead;rw[if_pos q]
  rw[e];exact W.soft hX rfl V rfl rfl rfl fun p h=>⟨p,h,rfl⟩
 .have hu:(w.Zc X).up=true:=by
   cases e:(w.Zc X).up with
   | true=>rfl
   | false=>exact absurd (.inl e) q
  have eA:=Yf hu;have k1:=K0.r W.kr V.k0.1;have k2:=K0.r W.kr V.k0.2;rw[eA]at k1;have hr:(w.Zc X).Zr.p.r<(YM (w.Zc X)).r/\1<=(YM (w.Zc X)).r/\(YM (w.Zc X)).r<=v.K.length+1:=by
   unfold YM;simp only;split
   .rename_i r hr;have:=W.kr _ (V.Zh r hr).mq;omega
   .omega
  have Vg:(YM (w.Zc X)).n=X:=by show (((w.Zc X).me:Nat):Int)=X;rw[Hj]
  obtain⟨u,hw⟩:∃u:Vw,u = { v with K:=YM (w.Zc X) :: v.K }:=⟨_,rfl⟩
  have L:v.Le u:=by rw[hw];exact⟨fun x h=>h,fun i x h=>h,fun x h=>bl _ h,al _⟩
  have hB:u.B=v.B:=by rw[hw]
  have hK:u.K=YM (w.Zc X) :: v.K:=by rw[hw]
  have W2:WV C u w:=W.up L hB fun b hb=>by
   rw[hK]at hb ⊢;simp only[a0];rcases b8.1 hb with rfl|hb
   .rw[Vg];omega
   .have:=W.kr b hb;omega
  refine⟨u,?_,by rw[hw];simp[Vw.cost];omega,by rw[hK];simp⟩;have V2:=W2.nd X hX;have e:lead (w.Zc X) = { w.Zc X with Zh:=ba ⟨YM (w.Zc X),[],false,[],[]⟩,Zp:=Xz (w.Zc X).Zp }:=by unfold lead;rw[if_neg q]
  rw[e];refine W2.soft hX rfl (V2.same rfl V2.k0.2 (fun p h=>?_) V2.Zi fun r h=>?_) ?_ rfl rfl (fun p h=>?_)
  .have h:Xz (w.Zc X).Zp=ba p:=h
   cases e:(w.Zc X).Zp with
   | none=>rw[e]at h;cases h
   | some p0=>
    have P:=V2.Zp p0 e;rw[e]at h
    cases p0 with
    | Q8 a to b vs=>cases h;exact P
    | Wo a to x=>cases h;exact P
    | Zr a vs cur=>cases h;exact P
  .rw[<-Option.some.inj h];refine⟨Vg,by rw[hK];exact ca ..,fun j vs h=>(by cases h),fun s K j h=>(by cases h),fun _=>⟨fun h=>?_,fun _=>rfl⟩,fun h=>by cases h⟩;rw[hB]at h;have:=V.Zr _ h Vg;rw[eA]at this;exact this (.inl hr.1)
  .unfold TK;show (match Xz (w.Zc X).Zp with|some (.Wo _ _ x)=>[(⟨2,0,0,X2,x,[]⟩:Yn)]|_=>[])=_
   cases (w.Zc X).Zp with
   | none=>rfl
   | some p=>cases p<;>rfl
  .have h:Xz (w.Zc X).Zp=ba p:=h
   cases e:(w.Zc X).Zp with
   | none=>rw[e]at h;cases h
   | some p0=>
    rw[e]at h;refine⟨p0,rfl,?_⟩
    cases p0<;>cases h<;>rfl
def my{A:Qo}{up:Bool}{d:List Nat}{z:Int}(V:NV C v X n)(e:YD (Yk X up d z A)=YD n):NV C v X (Yk X up d z A):=
 V.same e (.inl rfl) (fun p h=>by cases h) (fun s h=>absurd rfl h) fun r h=>by cases h
def Zd3(W:WV C v w)(hX:X<5)(N:NR S g M X (w.Zc X)){keep:Int}(hk:0<=keep):∃u,WV C u (w.set X (Yo X (w.Zc X) keep))/\u.cost<=v.cost+1/\u.K.length<=v.K.length:=by
 have V:=W.nd X hX
 cases hu:(w.Zc X).up with
 | false=>
  have e:Yo X (w.Zc X) keep=w.Zc X:=by unfold Yo;rw[if_neg (by rw[hu];decide)]
  rw[e];exact⟨v,W.soft hX rfl V rfl rfl rfl fun p h=>⟨p,h,rfl⟩,bS _,al _⟩
 | true=>
  obtain⟨t1,t2,t3⟩:=Fk N.tape hu hk (i:=X);have hd:(Yo X (w.Zc X) keep).data.length<=(w.Zc X).data.length+38:=by
   unfold Yo;rw[if_pos hu];split
   .show ((w.Zc X).data.take _).length<=_;rw[bG];omega
   .exact b0 _
  obtain⟨d,z,e⟩:=Wz X (w.Zc X) keep hu;rw[e]at t1 t2 t3 hd ⊢;have eA:=Yf hu;have fb:∀(u:Vw) p,FI u p (TK (Yk X false d z JG)++(Yk X false d z JG).Zf):=fun _ _=>FI.nil;rcases t3 with t3|⟨p,hp,t3⟩
  .exact⟨v,W.set hX (.refl v 1) (my V (by rw[t3,eA])) (fb _ _) (by rw[t3,eA];exact YR _) (fun l hl=>by cases hl) hd (.inl (by rw[t3,eA])) (fun p h=>by cases h),bS _,al _⟩
  .obtain⟨u,s,h1,h2,h3,h4,_⟩:=dy N hu hp V fun b hb=>(W.bg b hb).1;have V2:=V.st s;refine⟨u,W.set hX s.go ⟨by rw[t3];exact h1,by rw[t3];exact .inr h2,⟨by rw[t3];exact h3,.inl rfl⟩,fun b hb q=>?_,(fun p h=>by cases h),(fun s h=>absurd rfl h),fun r h=>by cases h⟩ (fb _ _) (by rw[t3,eA];exact h4) (fun l hl=>by cases hl) hd (.inr ⟨p,hp,by rw[t3]⟩) (fun p h=>by cases h),s.c,by rw[s.k];exact al _⟩;rw[t3];exact Xs (by rw[<-eA];exact V2.Zr b hb q) h4
def Zd4(W:WV C v w)(hX:X<5)(N:NR S g M X (w.Zc X)):WV C v (w.set X (started X (w.Zc X))):=by
 have V:=W.nd X hX
 cases hu:(w.Zc X).up with
 | true=>
  have e:started X (w.Zc X)=w.Zc X:=by unfold started;rw[if_pos hu]
  rw[e];exact W.soft hX rfl V rfl rfl rfl fun p h=>⟨p,h,rfl⟩
 | false=>
  obtain⟨t1,t2,t3⟩:=Fl N.tape hu (i:=X);have e2:=Yf t2;rw[t3]at e2;have e:∃d z A,started X (w.Zc X)=Yk X true d z A/\(O d)<=(w.Zc X).data.length:=by
   unfold started;rw[if_neg (by rw[hu];decide)];refine⟨_,_,_,rfl,?_⟩;unfold Ln;split
   .rw[bG];omega
   .exact b0 _
  obtain⟨d,z,A,e,hd⟩:=e;rw[e]at e2 ⊢;exact W.set hX (.refl v 1) (my V e2) FI.nil (by rw[e2];exact YR _) (fun l hl=>by cases hl) (by show (O d)<=_;omega) (.inl (by rw[e2])) (fun p h=>by cases h)
def ZhP(W:WV C v w)(WI':∀l∈w.Zm,0<=l.to/\l.to<5){at':Nat}(vX:at'<20)(comes stays:Bool):∃u,WV C u (pick w at' comes stays)/\u.cost<=v.cost+1/\u.K.length<=v.K.length:=by
 obtain⟨u,hw⟩:∃u:Vw,u = { v with T:=v.T+1 }:=⟨_,rfl⟩
 have L:v.Le u:=by rw[hw];exact⟨fun x h=>h,fun i x h=>h,fun x h=>h,bS _⟩
 have W2:WV C u w:=W.up L (by rw[hw]) (by rw[hw];exact W.kr);refine⟨u,?_,by rw[hw];simp[Vw.cost];omega,by rw[hw];exact al _⟩;unfold pick;split
 .exact W2
 .rename_i l hl;obtain⟨hi,el⟩:=cc.1 hl;have hm:l∈w.Zm:=List.mem_of_getElem? hl;have e0:w.Zm=w.Zm.take (at'%w.Zm.length)++l :: w.Zm.drop (at'%w.Zm.length+1):=by
   rw[<-el,List.getElem_cons_drop,List.take_append_drop]
  have e1:w.Zm.eraseIdx (at'%w.Zm.length)=w.Zm.take (at'%w.Zm.length)++w.Zm.drop (at'%w.Zm.length+1):=List.eraseIdx_eq_take_drop_succ ..;have ha:(w.Zm.take (at'%w.Zm.length)).length<=19:=by
   rw[bG];have:=Nat.mod_le at' w.Zm.length;omega
  generalize w.Zm.take (at'%w.Zm.length)=a at e0 e1 ha;generalize w.Zm.drop (at'%w.Zm.length+1)=c at e0 e1;have pQ:l.ZH=2->Nk (Uv u) l.v.Zs.toNat (gT u):=fun hk=>(W.fj a l c e0 hk).up L.u (al _) (Nat.div_le_div_right (by have:=L.t;omega));have W3:WV C u { w with Zm:=w.Zm.eraseIdx (at'%w.Zm.length) }:=by
   rw[e1];refine⟨W2.nd,fun x hx=>W2.TA x (by rw[e0];rcases aa.1 hx with hx|hx<;>simp[hx]),W2.QD,?_,fun X hX=>?_,W2.fb,W2.bg,W2.nB,W2.kr,fun x hx=>W2.aF x (by rw[e0];rcases aa.1 hx with hx|hx<;>simp[hx]),W2.aI,W2.sN⟩
   .have:=W.fj;rw[e0]at this;exact this.out L (by rw[hw];exact al _)
   .have:=W2.ff X hX;rw[e0,bo,List.filter_cons]at this;show FI u _ ((a++c).filter (sc X));rw[bo];split at this
    .exact this.out pQ
    .exact this
  have FT:=W2.TA l hm;split
  .split
   .exact W2.JP (WI' l hm) FT (W2.aF l hm) pQ
   .exact W3.JP (WI' l hm) FT (W2.aF l hm) pQ
  .split
   .exact W2
   .exact W3
def ZmC(W:WV C v w):WV C v (LF w):=by
 have hn:∀X,((LF w).Zc X = { w.Zc X with Zf:=(w.Zc X).Zf++w.Zm.filter (sc X) }\/(LF w).Zc X=w.Zc X)/\(LF w).Zm=[]:=fun X=>by
  refine⟨?_,(Fs _ _).2.2⟩;unfold LF;rw[FC];split
  .exact .inl rfl
  .exact .inr rfl
 have st:∀b,Bw w b->Bw (LF w) b:=fun b a Y hY e=>by
  rcases (hn Y).1 with e2|e2
  .rw[e2];exact a Y hY e
  .rw[e2];exact a Y hY e
 refine⟨fun X hX=>?_,fun l hl=>?_,fun X hX l hl=>?_,by rw[(hn 0).2];exact FJ.nil,fun X hX=>by rw[(hn X).2];exact FI.nil,fun X hX=>?_,W.bg,W.nB,W.kr,fun l hl=>?_,fun X hX l hl=>?_,fun X hX=>?_⟩
 .rcases (hn X).1 with e|e
  .rw[e];exact (W.nd X hX).box _
  .rw[e];exact W.nd X hX
 .rw[(hn 0).2]at hl;cases hl
 .rcases (hn X).1 with e|e
  .rw[e]at hl;rcases aa.1 hl with hl|hl
   .exact W.QD X hX l hl
   .exact W.TA l (aK.1 hl).1
  .rw[e]at hl;exact W.QD X hX l hl
 .rcases (hn X).1 with e|e
  .rw[e];show FI v (YD (w.Zc X)).p (TK (w.Zc X)++((w.Zc X).Zf++w.Zm.filter (sc X)));rw[<-bn];exact (W.fb X hX).app (W.ff X hX)
  .rw[e];exact W.fb X hX
 .rw[(hn 0).2]at hl;cases hl
 .refine fun q=>st _ ((?_:Ak w l) q);rcases (hn X).1 with e|e
  .rw[e]at hl;rcases aa.1 hl with hl|hl
   .exact W.aI X hX l hl
   .exact W.aF l (aK.1 hl).1
  .rw[e]at hl;exact W.aI X hX l hl
 .rcases (hn X).1 with e|e
  .rw[e];exact⟨st _ (W.sN X hX).1,fun p hp=>((W.sN X hX).2 p hp).imp_left (st _)⟩
  .rw[e];exact⟨st _ (W.sN X hX).1,fun p hp=>((W.sN X hX).2 p hp).imp_left (st _)⟩
def ZaD(W:WV C v w)(hX:X<5)(d:List Nat):WV C v (Wq w X d):=by
 unfold Wq;split
 .split
  .exact⟨W.nd,W.TA,W.QD,W.fj,W.ff,W.fb,W.bg,W.nB,W.kr,W.aF,W.aI,W.sN⟩
  .split
   .exact⟨W.nd,W.TA,W.QD,W.fj,W.ff,W.fb,W.bg,W.nB,W.kr,W.aF,W.aI,W.sN⟩
   .obtain⟨m,hm⟩:=ZP (Of (add (w.Zc X) (J2 d (w.Zc X).ZI.length)) (J2 d (w.Zc X).ZI.length));rw[<-hm];have e:YD m=YD (w.Zc X)/\m.Ye=(w.Zc X).Ye/\m.Zp=(w.Zc X).Zp/\m.Zi=(w.Zc X).Zi/\m.Zh=(w.Zc X).Zh/\m.Zf=(w.Zc X).Zf/\m.data=(w.Zc X).data:=by
     rw[hm];unfold Of add;split<;>split<;>exact⟨rfl,rfl,rfl,rfl,rfl,rfl,rfl⟩
    obtain⟨e1,e2,e3,e4,e5,e6,e7⟩:=e;have V:=W.nd X hX;exact W.soft hX e1 (V.same e1 (by rw[e2];exact V.k0.2) (by rw[e3];exact V.Zp) (by rw[e4];exact V.Zi) (by rw[e4,e5];exact V.Zh)) (by unfold TK;rw[e3]) e6 e7 (fun p h=>⟨p,by rw[<-e3];exact h,rfl⟩)
 .exact W
end
section
variable {C C':List Cm} {u v:Vw} {w:Wd} {X:Nat} {n m:Nd} {S:Cm->Prop} {g:Gh} {M:Nat->Yg}
def sj(w:Wd)(l:Yn)(Y:Nat):((JP w l).Zc Y).data=(w.Zc Y).data:=by
 unfold JP;split
 .unfold Wd.set;simp only;split
  .rename_i e;rw[e]
  .rfl
 .rfl
def sr(w:Wd)(i:Nat)(c s:Bool)(Y:Nat):((pick w i c s).Zc Y).data=(w.Zc Y).data:=by
 unfold pick;split
 .rfl
 .split
  .rw[sj];split<;>rfl
  .split<;>rfl
def ZaE(w:Wd)(Y:Nat):((LF w).Zc Y).data=(w.Zc Y).data:=by
 unfold LF;rw[FC];split<;>rfl
def FL{w:Wd}{Y:Nat}{m:Nd}(h:(O m.data)<=(w.Zc X).data.length+38):((w.set X m).Zc Y).data.length<=(w.Zc Y).data.length+(if X=Y then 38 else 0):=by
 unfold Wd.set;simp only;by_cases e:Y=X
 .subst e;rw[if_pos rfl,if_pos rfl];exact h
 .rw[if_neg e];exact bh _ _
def Wr(a:Ac)(X:Nat):Bool:=decide (a.ZH≠7/\a.ZX=X)
def ZmD(W:WV C v w){k:Nat}(I:WI C' k w)(T:TI S g M w)(hS:∀x,S x->x.err=0)(hSC:∀x,S x->x∈C){a:Ac}(hi:a.ZX<5)(hk:0<=a.keep)(vX:a.ZH=4\/a.ZH=5\/a.ZH=6->a.at'<20)(hd:∀X,X<5->(w.Zc X).data.length<=90000):
  ∃u,WV C u (act w a)/\u.cost<=v.cost+(if a.ZH=1 then 0 else 1)/\u.K.length<=v.K.length+(if a.ZH=2 then 1 else 0)/\∀Y,((act w a).Zc Y).data.length<=(w.Zc Y).data.length+(if Wr a Y=true then 38 else 0):=by
 have ew:∀Y,a.ZH≠7->(if Wr a Y=true then 38 else 0)=if a.ZX=Y then 38 else 0:=fun Y h=>by
  unfold Wr;by_cases e:a.ZX=Y
  .rw[if_pos e,if_pos (by simp[h,e])]
  .rw[if_neg e,if_neg (by simp[e])]
 have N:=T.nd a.ZX hi;have NI:=I.nd a.ZX hi;unfold act;split
 .rename_i h;refine⟨v,ZaD W hi a.data,al _,bh _ _,fun Y=>?_⟩;have:((Wq w a.ZX a.data).Zc Y).data=(w.Zc Y).data:=by
   unfold Wq;split
   .split
    .rfl
    .split
     .rfl
     .unfold Wd.set;simp only;split
      .rename_i e;rw[e];unfold Of add;split<;>split<;>rfl
      .rfl
   .rfl
  rw[this];exact bh _ _
 rename_i h1;split
 .rename_i h;obtain⟨u,W2,c,k⟩:=ZhO W hi NI.me;refine⟨u,W2,c,k,fun Y=>?_⟩;rw[ew Y mD];refine FL ?_;unfold lead;split<;>exact bh _ _
 rename_i h2;split
 .rename_i h;obtain⟨u,h⟩:=ZhN hi T.gi hS hSC N NI (hd _ hi) (W.nd _ hi) (fun b hb=>(W.bg b hb).1) (fun l hl=>⟨⟨I.QD _ hi l hl,T.QD _ hi l hl⟩,W.QD _ hi l hl⟩) (W.fb _ hi);refine⟨u,W.out hi h,h.go.c,by rw[h.go.k];exact al _,fun Y=>?_⟩;rw[ew Y mD];unfold Wd.out;simp only;by_cases e:Y=a.ZX
  .subst e;rw[if_pos rfl,if_pos rfl];exact h.dt
  .rw[if_neg e];exact bh _ _
 split
 .rename_i h;obtain⟨u,W2,c,k⟩:=ZhP W (fun l hl=>(I.TA l hl).to) (vX h) (decide (a.ZH≠5)) (decide (a.ZH=6));exact⟨u,W2,c,k,fun Y=>by rw[sr];exact bh _ _⟩
 split
 .exact⟨v,ZmC W,bS _,al _,fun Y=>by
   rw[show (w.Zm.foldl JP { w with Zm:=[] })=LF w from rfl,ZaE];exact bh _ _⟩
 rename_i h7;split
 .obtain⟨u,W2,c,k⟩:=Zd3 W hi N hk;refine⟨u,W2,c,k,fun Y=>?_⟩;rw[ew Y h7];refine FL ?_;unfold Yo;split
  .split
   .show ((w.Zc a.ZX).data.take _).length<=_;rw[bG];omega
   .exact b0 _
  .exact bh _ _
 .refine⟨v,Zd4 W hi N,bS _,al _,fun Y=>?_⟩;rw[ew Y h7];refine FL ?_;unfold started;split
  .exact bh _ _
  .show (Ln _ _).length<=_;unfold Ln;split
   .rw[bG];omega
   .exact b0 _
def Zd5(S:Cm->Prop)(C:List Cm)(a:Ac):Prop:=cI S C a/\(a.ZH=4\/a.ZH=5\/a.ZH=6->a.at'<20)
def RW(l:List Ac):Nat:=l.countP fun a=>decide (a.ZH=1)
def leads(l:List Ac):Nat:=l.countP fun a=>decide (a.ZH=2)
def mz(hC:(O C')<=100000)(hS:∀x,S x->x.err=0)(hSC:∀x,S x->x∈C):∀(l:List Ac) (k:Nat) (w:Wd) (g:Gh) (M:Nat->Yg) (v:Vw),WV C v w->WI C' k w->TI S g M w->(∀a∈l,Zd5 S C' a)->(∀X,X<5->(w.Zc X).data.length+38*l.countP (fun a=>Wr a X)<=90000) ->
  ∃u,WV C u (l.foldl act w)/\u.cost+RW l<=v.cost+(O l)/\u.K.length<=v.K.length+leads l/\∀X,((l.foldl act w).Zc X).data.length<=(w.Zc X).data.length+38*l.countP (fun a=>Wr a X):=by
 intro l
 induction l with
 | nil=>intro k w g M v W _ _ _ _;exact⟨v,W,al _,al _,fun _=>al _⟩
 | cons a l ih=>
  intro k w g M v W I T hl hd;obtain⟨⟨h1,h2,h3⟩,h4⟩:=hl a sW;have cw:∀X,(a :: l).countP (fun a=>Wr a X)=l.countP (fun a=>Wr a X)+if Wr a X=true then 1 else 0:=fun X=>bR ..
  obtain⟨u,W2,c,k2,d⟩:=ZmD W I T hS hSC h1.1 h2 h4 fun X hX=>by have:=hd X hX;omega
  obtain⟨g',M',_,T2⟩:=zW hC I T a h1.1 h2 h3;have de:∀X,((act w a).Zc X).data.length+38*l.countP (fun a=>Wr a X)<=(w.Zc X).data.length+38*(a :: l).countP (fun a=>Wr a X):=fun X=>by
   have:=d X;rw[cw];split at this
   .rename_i q;rw[if_pos q];omega
   .rename_i q;rw[if_neg q];omega
  obtain⟨x,W3,c3,k3,d3⟩:=ih (k+1) (act w a) g' M' u W2 (lV hC I a h1.1 h1.2) T2 (fun x hx=>hl x (by simp[hx])) fun X hX=>bk (de X) (hd X hX);refine⟨x,W3,?_,?_,fun X=>bk (d3 X) (de X)⟩
  .have:RW (a :: l)=RW l+if a.ZH=1 then 1 else 0:=by unfold RW;rw[bR];simp
   rw[this,a0];split at c
   .rename_i q;rw[if_pos q];omega
   .rename_i q;rw[if_neg q];omega
  .have:leads (a :: l)=leads l+if a.ZH=2 then 1 else 0:=by unfold leads;rw[bR];simp
   rw[this];omega
def vw0:Vw:=⟨[],[],[],0⟩
def ZaF:WV C vw0 Ud:=by
 refine⟨fun X hX=>?_,(fun l hl=>by cases hl),(fun X hX l hl=>by cases hl),FJ.nil,fun X hX=>FI.nil,fun X hX=>FI.nil,(fun b hb=>by cases hb),.nil,(fun b hb=>by cases hb),(fun l hl=>by cases hl),(fun X hX l hl=>by cases hl),fun X hX=>⟨fun Y hY _=>YR _,fun p h=>by cases h⟩⟩;exact⟨fun x hx=>(by cases hx),.inl rfl,⟨.inl rfl,.inl rfl⟩,(fun b hb=>by cases hb),(fun p hp=>by cases hp),(fun s h=>absurd rfl h),fun r hr=>by cases hr⟩
end
def grp{α β:Type}[DecidableEq β](H:List β)(gid:β->α)(wt:α->Nat):∀gs:List α,gs.Nodup->(∀g∈gs,∃L:List β,L.Nodup/\(∀x∈L,x∈H/\gid x=g)/\wt g<=(O L))->∃L:List β,L.Nodup/\(∀x∈L,x∈H/\gid x∈gs)/\(gs.map wt).sum<=(O L):=by
 intro gs
 induction gs with
 | nil=>intro _ _;exact⟨[],.nil,(fun x hx=>by cases hx),al _⟩
 | cons g gs ih=>
  intro hn h;rw[cg]at hn;obtain⟨L,h1,h2,h3⟩:=ih hn.2 fun x hx=>h x (by simp[hx]);obtain⟨L',k1,k2,k3⟩:=h g sW;refine⟨L'++L,bD.2 ⟨k1,h1,fun a ha b hb e=>hn.1 ?_⟩,fun x hx=>?_,?_⟩
  .rw[<-(k2 a ha).2,e];exact (h2 b hb).2
  .rcases aa.1 hx with hx|hx
   .exact⟨(k2 x hx).1,by rw[(k2 x hx).2];simp⟩
   .exact⟨(h2 x hx).1,by simp[(h2 x hx).2]⟩
  .rw[bw,b9,a8];omega
def six{v:Vw}{b:Yg}{s:Int}{Q:List Nat}(q:tM Q)(d:∀i∈Q,Dn v i b s):∃L:List (Nat × Yg × Int × Bool),L.Nodup/\(∀x∈L,x∈v.H/\x.2.1=b/\x.2.2.1=s)/\6<=(O L):=by
 have inj:∀(t:Bool),(Q.map fun i=>(i,b,s,t)).Nodup:=fun t=>
  b4.2 (List.Pairwise.imp (fun h e=>h (by simpa using congrArg Prod.fst e)) q.1)
 refine⟨(Q.map fun i=>(i,b,s,false))++Q.map fun i=>(i,b,s,true),bD.2 ⟨inj _,inj _,fun x hx y hy e=>?_⟩,fun x hx=>?_,?_⟩
 .obtain⟨i,_,rfl⟩:=aU.1 hx;obtain⟨j,_,rfl⟩:=aU.1 hy;simp at e
 .rcases aa.1 hx with hx|hx
  .obtain⟨i,hi,rfl⟩:=aU.1 hx;exact⟨(d i hi).1,rfl,rfl⟩
  .obtain⟨i,hi,rfl⟩:=aU.1 hx;exact⟨(d i hi).2,rfl,rfl⟩
 .have:=q.2.2;simp only[a8,a9];omega
def ZvS(c m chi P:Nat):Nat:=((bc m).map fun i=>min P (c*(i+1)+chi)).sum
def sy:∀c,c<7->∀m,m<13->∀chi,chi<17->8*m+c+6*chi<=100->ZvS c m chi (min 40 ((100-8*m-c-4*chi)/2+5+c))<=32+10*c+9*m:=by
 decide +kernel
def ZhQ{α:Type}(f g:α->Nat):∀(l:List α),(∀x∈l,f x<=g x)->(l.map f).sum<=(l.map g).sum:=by
 intro l
 induction l with
 | nil=>intro _;exact al _
 | cons x l ih=>
  intro h;rw[bw,bw,b9,b9];exact Nat.add_le_add (h x sW) (ih fun y hy=>h y (by simp[hy]))
def sz{α:Type}(f:α->Bool):∀l:List α,(O l)=(l.filter f).length+(l.filter fun x=>!f x).length:=by
 intro l
 induction l with
 | nil=>rfl
 | cons x l ih=>
  by_cases c:f x=true
  .rw[am c,a7 (by simp[c]),a0,a0];omega
  .rw[a7 c,am (by simpa using c),a0,a0];omega
def mA{P:Nat->Prop}[DecidablePred P]{s k:Nat}(h:Nk P s k):s<=k+((bc s).filter fun x=>decide (P x)).length:=by
 have e:=sz (fun x=>decide (P x)) (bc s);have:=h ((bc s).filter fun x=>!decide (P x)) (List.nodup_range.filter _) fun x hx=>by
  obtain⟨h1,h2⟩:=aK.1 hx;exact⟨bf.1 h1,by simpa using h2⟩
 rw[b5]at e;omega
def IC{P:Nat->Prop}[DecidablePred P]{s t:Nat}(h:s<=t):((bc s).filter fun x=>decide (P x)).length<=((bc t).filter fun x=>decide (P x)).length:=
 UW (List.nodup_range.filter _) fun x hx=>by
  obtain⟨h1,h2⟩:=aK.1 hx;exact aK.2 ⟨bf.2 (by have:=bf.1 h1;omega),h2⟩
def jV{C:List Cm}{v:Vw}{w:Wd}(W:WV C v w)(hc:(O C)<7)(ZmE:v.cost+(O C)<=100):
  ∃Ks:List (Yg × Int),(O Ks)<=32+10*(v.K.length+(O C))/\(∀b∈v.K,(b,-1)∈Ks)/\∀x:Vt,SX v (O C) (O C) x->(x.b,x.Zs)∈Ks:=by
 classical
 obtain⟨U,hU⟩:∃U,U=(bc 40).filter fun s=>decide (Uv v s):=⟨_,rfl⟩
 obtain⟨H,hH⟩:∃H,H=U.filter fun s=>decide (Mr v s):=⟨_,rfl⟩
 obtain⟨L,l1,l2,l3⟩:=grp v.H (fun x=>if x.2.2.1 = -1 then (Sum.inl x.2.1:Yg ⊕ Nat) else Sum.inr x.2.2.1.toNat) (fun g=>match g with|.inl _=>6|.inr s=>if Mr v s then 6 else 2) (v.B.map Sum.inl++U.map Sum.inr) (by
  rw[bD];refine⟨b4.2 (W.nB.imp fun h e=>h (Sum.inl.inj e)),b4.2 (List.Pairwise.imp (R:=(· ≠ ·)) (fun h e=>h (Sum.inr.inj e)) (by rw[hU];exact List.nodup_range.filter _)),fun a ha b hb e=>?_⟩
  obtain⟨x,_,rfl⟩:=aU.1 ha;obtain⟨y,_,rfl⟩:=aU.1 hb
  cases e) (fun g hg=>by
  rcases aa.1 hg with hg|hg
  .obtain⟨b,hb,rfl⟩:=aU.1 hg;obtain⟨_,Q,q,d⟩:=W.bg b hb;obtain⟨L,h1,h2,h3⟩:=six q d;exact⟨L,h1,fun x hx=>by
    obtain⟨q1,q2,q3⟩:=h2 x hx;exact⟨q1,by rw[if_pos q3,q2]⟩,h3⟩
  .obtain⟨s,hs,rfl⟩:=aU.1 hg;have id:∀x:Nat × Yg × Int × Bool,x.2.2.1=(s:Int)->(if x.2.2.1 = -1 then (Sum.inl x.2.1:Yg ⊕ Nat) else Sum.inr x.2.2.1.toNat)=Sum.inr s:=fun x e=>by
    rw[e,if_neg mD,cd]
   by_cases c:Mr v s
   .obtain⟨b,Q,q,d⟩:=c;obtain⟨L,h1,h2,h3⟩:=six q d;refine⟨L,h1,fun x hx=>?_,by simp only;split<;>omega⟩;obtain⟨q1,_,q3⟩:=h2 x hx;exact⟨q1,id x q3⟩
   .rw[hU]at hs;obtain⟨i,b,d1,d2⟩:=of_decide_eq_true (aK.1 hs).2;refine⟨[(i,b,s,false),(i,b,s,true)],sW,fun x hx=>?_,by simp only;rw[if_neg c];simp⟩;rcases b8.1 hx with rfl|hx
    .exact⟨d1,id _ rfl⟩
    .rw[au.1 hx];exact⟨d2,id _ rfl⟩)
 have hlen:=UW l1 fun x hx=>(l2 x hx).1;have e1:((v.B.map (Sum.inl:Yg->Yg ⊕ Nat)).map fun g=>match g with|.inl _=>6|.inr s=>if Mr v s then 6 else 2).sum=6*v.B.length:=by
  generalize v.B=B
  induction B with
  | nil=>rfl
  | cons b B ih=>rw[bw,bw,b9,ih,a0];simp only;omega
 have e2:∀U:List Nat,((U.map (Sum.inr:Nat->Yg ⊕ Nat)).map fun g=>match g with|.inl _=>6|.inr s=>if Mr v s then 6 else 2).sum=2*(O U)+4*(U.filter fun s=>decide (Mr v s)).length:=by
  intro U
  induction U with
  | nil=>rfl
  | cons s U ih=>
   rw[bw,bw,b9,ih,a0];by_cases c:Mr v s
   .rw[am (by simpa using c)];simp only[if_pos c,a0];omega
   .rw[a7 (by simpa using c)];simp only[if_neg c];omega
 rw[bA,List.sum_append,e1,e2,<-hH]at l3;have hHU:(O H)<=(O U):=by rw[hH];exact bp ..
 have hBK:v.B.length<=v.K.length:=UW W.nB fun b hb=>(W.bg b hb).1;have ZIm:v.H.length+v.B.length+v.K.length+v.T+(O C)<=100:=ZmE;obtain⟨p,hp⟩:∃p:Nat->Nat,p=fun i=>min (min 40 ((O U)+gT v+1+(O C))) ((O C)*(i+1)+(O H)):=⟨_,rfl⟩
 have hg:gT v=(19+v.T)/5:=rfl;have hs:((bc v.B.length).map p).sum<=32+10*(O C)+9*v.B.length:=by
  refine bk (ZhQ p (fun i=>min (min 40 ((100-8*v.B.length-(O C)-4*(O H))/2+5+(O C))) ((O C)*(i+1)+(O H))) _ fun i _=>?_) (sy (O C) hc v.B.length mD (O H) mD mD);rw[hp];simp only;omega
 refine⟨v.K.map (fun b=>(b,-1))++(bc v.B.length).flatMap (fun i=>(bc (p i)).map fun s=>((v.B[i]?).getD X2,((s:Nat):Int))),?_,fun b hb=>aa.2 (.inl (aU.2 ⟨b,hb,rfl⟩)),fun x hx=>?_⟩
 .rw[a8,a9,List.length_flatMap];have:((bc v.B.length).map fun i=>((bc (p i)).map fun s=>((v.B[i]?).getD X2,((s:Nat):Int))).length)=(bc v.B.length).map p:=by
   congr 1
   funext i
   rw[a9,b5]
  rw[this];omega
 .obtain⟨h0,h1,i,h2,h3,h4⟩:=hx;have hi:=(cc.1 h2).1;refine aa.2 (.inr (bx.2 ⟨i,bf.2 hi,aU.2 ⟨x.Zs.toNat,bf.2 ?_,by rw[h2];simp only[Option.getD_some];rw[show ((x.Zs.toNat:Nat):Int)=x.Zs by omega]⟩⟩));have a1:=mA h3;have a2:=mA h4;have a3:=IC (P:=Mr v) (show x.Zs.toNat+1<=40 by omega);have a4:=IC (P:=Uv v) (show x.Zs.toNat+1<=40 by omega);have a5:((bc 40).filter fun s=>decide (Mr v s)).length<=(O H):=UW (List.nodup_range.filter _) fun s hs=>by
   obtain⟨q1,q2⟩:=aK.1 hs;rw[hH,hU];exact aK.2 ⟨aK.2 ⟨q1,decide_eq_true (of_decide_eq_true q2).u⟩,q2⟩
  rw[<-hU]at a4;rw[hp];simp only;omega
def Pw(a:Qo)(k:Yg × Int):Prop:=(k.2 = -1->Zw a.p k.1)/\(k.2 ≠ -1->¬Zw k.1 a.p/\∀y∈a.l,y.b=k.1->y.Zs≠k.2)
def U6(n:Nd):Qo:=match n.Zp with|some p=>XW p|none=>n.Zr
def Vl(l:Yn):Yg × Int:=if l.ZH=0 then (l.b,-1) else (l.v.b,l.v.Zs)
instance (a:Qo)(k:Yg × Int):Decidable (Pw a k):=by unfold Pw;infer_instance
def mu(Ko:List (Yg × Int))(a:Qo):Nat:=(Ko.filter fun k=>decide (Pw a k)).length
def me(Ko:List (Yg × Int))(n:Nd):Nat:=2*mu Ko (U6 n)+(if n.Zp=bd then 0 else 1)
def ZmF{Ko:List (Yg × Int)}{a a':Qo}(h:∀k,Pw a' k->Pw a k):mu Ko a'<=mu Ko a:=by
 unfold mu
 induction Ko with
 | nil=>exact al _
 | cons k Ko ih=>
  by_cases c:Pw a' k
  .rw[am (by simpa using c),am (by simpa using h k c)];simp only[a0];omega
  .rw[a7 (by simpa using c)];refine bk ih ?_;by_cases d:Pw a k
   .rw[am (by simpa using d)];simp
   .rw[a7 (by simpa using d)];exact al _
def dz{Ko:List (Yg × Int)}{a a':Qo}(h:∀k,Pw a' k->Pw a k){k0:Yg × Int}(hk:k0∈Ko)(h1:Pw a k0)(h2:¬Pw a' k0):mu Ko a'+1<=mu Ko a:=by
 induction Ko with
 | nil=>cases hk
 | cons k Ko ih=>
  have hl:=ZmF (Ko:=Ko) h;unfold mu at hl ih ⊢;rcases b8.1 hk with rfl|hk
  .rw[a7 (by simpa using h2),am (by simpa using h1)];simp only[a0];omega
  .have:=ih hk;by_cases c:Pw a' k
   .rw[am (by simpa using c),am (by simpa using h k c)];simp only[a0];omega
   .rw[a7 (by simpa using c)];by_cases d:Pw a k
    .rw[am (by simpa using d)];simp only[a0];omega
    .rw[a7 (by simpa using d)];exact this
def ZhR(Ko:List (Yg × Int))(a:Qo):mu Ko a<=(O Ko):=bp ..
def ZaG{a b c:Yg}(h:Zw a b)(k:Zw b c):Zw a c:=by unfold Zw at *;omega
def UZ{a b c:Yg}(h:¬Zw b a)(k:Zw b c):Zw a c:=by unfold Zw at *;omega
def FM{a:Qo}{b:Yg}(h:¬Zw b a.p):∀k,Pw ⟨b,a.l⟩ k->Pw a k:=fun k q=>⟨fun e=>UZ h (q.1 e),fun e=>⟨fun z=>(q.2 e).1 (FG z h),(q.2 e).2⟩⟩
def dA{a:Qo}{v:Vt}(h:¬Zw v.b a.p)(hv:∀y∈a.l,¬Zw a.p y.b):∀k,Pw ⟨v.b,Jh a.l v⟩ k->Pw a k:=by
 have Hh:v∈Jh a.l v:=by unfold Jh;simp
 refine fun k q=>⟨fun e=>UZ h (q.1 e),fun e=>?_⟩
 obtain⟨q1,q2⟩:=q.2 e;have q1:¬Zw k.1 v.b:=q1;refine⟨fun z=>q1 (FG z h),fun y hy e1 e2=>?_⟩;by_cases c:y.Zs=v.Zs
 .have hy':=hv y hy;rw[e1]at hy';have:v.b=k.1:=UV (fun z=>hy' (UZ h z)) q1;exact q2 v Hh this (by rw[<-c,e2])
 .refine q2 y ?_ e1 e2;unfold Jh;have:y.Zs<v.Zs\/v.Zs<y.Zs:=mD;rcases this with z|z
  .exact aa.2 (.inl (aK.2 ⟨hy,by simpa using z⟩))
  .exact aa.2 (.inr (bl _ (aK.2 ⟨hy,by simpa using z⟩)))
def Bx{a:Qo}{b:Yg}(h:Zw a.p b):(∀k,Pw ⟨b,a.l⟩ k->Pw a k)/\Pw a (b,-1)/\¬Pw ⟨b,a.l⟩ (b,-1):=by
 exact⟨FM (Tj h),⟨fun _=>h,fun e=>absurd rfl e⟩,fun q=>YR _ (q.1 rfl)⟩
def mB{a:Qo}{v:Vt}(h:¬Zw v.b a.p)(hv:∀y∈a.l,¬Zw a.p y.b)(h0:0<=v.Zs)(hn:v ∉ a.l)(uq:∀y∈a.l,y.b=v.b->y.Zs=v.Zs->y=v):
  (∀k,Pw ⟨v.b,Jh a.l v⟩ k->Pw a k)/\Pw a (v.b,v.Zs)/\¬Pw ⟨v.b,Jh a.l v⟩ (v.b,v.Zs):=by
 have Hh:v∈Jh a.l v:=by unfold Jh;simp
 have ne:v.Zs ≠ -1:=mD;exact⟨dA h hv,⟨fun e=>absurd e ne,fun _=>⟨h,fun y hy e1 e2=>hn (by rw[<-uq y hy e1 e2];exact hy)⟩⟩,fun q=>(q.2 ne).2 v Hh rfl rfl⟩
structure Vr(S:Cm->Prop)(C:List Cm)(b:Yg)(L T:Nat)(w:Nat->Wd)(g:Nat->Gh)(M:Nat->Nat->Yg):Prop where
 hC:(O C)<=100000
 hb:ZC b
 nx:∀t,w (t+1)=DN (w t)
 pw:PW C b L (w 0)
 nf:∀t,t<=T->∀X,X<5->¬Full ((w t).Zc X)
 ti:∀t,t<=T->TI S (g t) (M t) (w t)
section
variable {S:Cm->Prop} {C:List Cm} {b:Yg} {L T:Nat} {w:Nat->Wd} {g:Nat->Gh} {M:Nat->Nat->Yg} {Ko:List (Yg × Int)}
def QA.rds(tr:QA S C b L T w g M):Vr S C b L T w g M:=⟨tr.hC,tr.hb,tr.nx,tr.pw,tr.nf,tr.ti⟩
def Vr.at(R:Vr S C b L T w g M):∀t,PW C b L (w t):=by
 intro t
 induction t with
 | zero=>exact R.pw
 | succ t ih=>rw[R.nx];exact jR ih R.hC R.hb
def Vr.uq(R:Vr S C b L T w g M){t:Nat}(ht:t<=T)(hX:X<5){l:Yn}(hl:l∈((w t).Zc X).Zf)(hk:l.ZH=2):∀y∈((w t).Zc X).Zr.l,y.b=l.v.b->y.Zs=l.v.Zs->y=l.v:=fun y hy e1 e2=>by
 have TT:=R.ti t ht;have A:=(TT.nd X hX).acc;rw[Yf ((R.at t).nd X hX).up]at A;have p1:=(TT.QD X hX l hl).ask hk;have p2:=TT.gi.vp _ _ _ _ (A.has y hy);rw[e1,e2]at p2;have:=TT.gi.one _ _ _ _ p1 p2;obtain⟨s,b,k,c,q,nm,x⟩:=y;generalize l.v=v at e1 e2 this;obtain⟨s',b',k',c',q',nm',x'⟩:=v;simp only at e1 e2;simp only[Vt.cm,Un.mk.injEq]at this;obtain⟨rfl,rfl,rfl,rfl,rfl⟩:=this;rw[e1,e2]
def Ask(Ko:List (Yg × Int))(n:Nd)(o:List Yn):Prop:=∀l∈o,l.ZH=0\/l.ZH=2->Pw (U6 n) (Vl l)->Vl l∈Ko
def Zd6{J K A G:Yn->Prop}{E F I:Nd->Prop}(W:Laws I J K)(H:Ou I J A G E F):∀(k:List Yn) (n:Nd),I n->(∀l∈k,J l)->E n->E (Zy n k).n:=by
 intro k
 induction k with
 | nil=>intro n _ _ h;exact H.Mq _ _ h
 | cons l k ih=>
  intro n hI hk h;by_cases q:n.Zp=bd
  .have e:(Zy n (l :: k)).n=(Zy (Zx { n with Zf:=k } l).n k).n:=by
    conv=>lhs;unfold Zy
    rw[if_neg (by rw[q];decide)]
   rw[e];have hI2:=W.box n k hI;exact ih _ (W.hnd _ l hI2 q (hk l sW)).1 (fun m hm=>hk m (by simp[hm])) (H.ZhH _ l hI2 q (hk l sW) (H.Mq _ _ h))
  .rw[Tq q];exact H.Mq _ _ h
def DlR(Ko:List (Yg × Int))(A G:Yn->Prop)(E F:Nd->Prop)(Q:Prop)(a:Qo)(o k:List Yn)(r:Nd)(ls:List Yn):Prop:=
 (∃p j o',r.Zp=ba p/\r.Zf=o'++k/\o=j++o'/\(∀x,Pw (XW p) x->Pw a x)/\mu Ko (XW p)+1<=mu Ko a/\(E r\/F r\/(∃l∈o',A l)\/Q\/∃m∈ls,G m))\/(∀l∈r.Zf,l∈k)/\(E r\/Q\/∃m∈ls,G m)
def DlR.more{A G:Yn->Prop}{E F:Nd->Prop}{Q Q':Prop}{a:Qo}{o k:List Yn}{r:Nd}{ls ls':List Yn}{l:Yn}(h:DlR Ko A G E F Q a o k r ls)(hQ:Q->Q'\/∃m∈ls',G m):DlR Ko A G E F Q' a (l :: o) k r (ls'++ls):=by
 have g:(Q\/∃m∈ls,G m)->Q'\/∃m∈ls'++ls,G m:=fun h=>by
  rcases h with h|⟨m,hm,h⟩
  .exact (hQ h).imp_right fun⟨m,hm,h⟩=>⟨m,aa.2 (.inl hm),h⟩
  .exact .inr ⟨m,aa.2 (.inr hm),h⟩
 rcases h with⟨p,j,o',a1,a2,a3,a4,a5,a6⟩|⟨a1,a2⟩
 .exact .inl ⟨p,l :: j,o',a1,a2,by rw[a3];rfl,a4,a5,a6.imp_right (b6 (b6 g))⟩
 .exact .inr ⟨a1,a2.imp_right g⟩
def sA:∀(k:List Yn) (n:Nd),∀l∈(Zy n k).n.Zf,l∈k:=by
 intro k
 induction k with
 | nil=>intro n l hl;cases hl
 | cons x k ih=>
  intro n l hl;unfold Zy at hl;split at hl
  .exact hl
  .exact bl _ (ih _ l hl)
def ZaH(hX:X<5)(hC:(O C)<=100000)(hb:ZC b){A G:Yn->Prop}{E F:Nd->Prop}(H:Ou (PN C b L X) (PJ C b) A G E F):∀(o k:List Yn) (n:Nd) (Q:Prop),PN C b L X n->(∀l∈o++k,PJ C b l)->n.Zp=bd->(∀l∈o,l.ZH=2->∀y∈n.Zr.l,y.b=l.v.b->y.Zs=l.v.Zs->y=l.v)->(∀l∈o,l.ZH=0\/l.ZH=2->Pw n.Zr (Vl l)->Vl l∈Ko)->(E n\/(∃l∈o,A l)\/Q) ->
  DlR Ko A G E F Q n.Zr o k (Zy n (o++k)).n (Zy n (o++k)).ls:=by
 have W:=JT (C:=C) (b:=b) (L:=L) hX hC hb;intro o
 induction o with
 | nil=>
  intro k n Q h hk hp _ _ hs;refine .inr ⟨sA k n,?_⟩;rcases hs with hs|⟨l,hl,_⟩|hs
  .exact .inl (Zd6 W H k n h hk hs)
  .cases hl
  .exact .inr (.inl hs)
 | cons l o ih=>
  intro k n Q h hk hp uq ha hs;obtain⟨hh,eh⟩:=ZP (Zx { n with Zf:=o++k } l);have e:Zy n (l :: o++k)=⟨(Zy hh.n (o++k)).n,hh.ls++(Zy hh.n (o++k)).ls,hh.ts++(Zy hh.n (o++k)).ts⟩:=by
   show Zy n (l :: (o++k))=_;rw[eh]
   conv=>lhs;unfold Zy
   rw[if_neg (by rw[hp];decide)]
  rw[e];have hI:=W.box n (o++k) h;have hJ:=hk l sW;obtain⟨h1,_⟩:=W.hnd _ l hI hp hJ;have main:E hh.n\/F hh.n\/(∃m∈o,A m)\/(Q\/∃m∈hh.ls,G m):=by
   rw[eh];rcases hs with hs|⟨m,hm,hA⟩|hs
   .exact .inl (H.ZhH _ l hI hp hJ (H.Mq _ _ hs))
   .rcases b8.1 hm with rfl|hm
    .exact (H.hit _ _ hI hp hJ hA).imp_right (b6 fun z=>.inr (.inr z))
    .exact .inr (.inr (.inl ⟨m,hm,hA⟩))
   .exact .inr (.inr (.inr (.inl hs)))
  have stop:∀p,hh.n.Zp=ba p->hh.n.Zf=o++k->(∀x,Pw (XW p) x->Pw n.Zr x)->mu Ko (XW p)+1<=mu Ko n.Zr->DlR Ko A G E F Q n.Zr (l :: o) k (Zy hh.n (o++k)).n (hh.ls++(Zy hh.n (o++k)).ls):=fun p q _ u1 u2=>by
   rw[Tq (by rw[q];exact fun z=>by cases z),bj];exact .inl ⟨p,[l],o,q,rfl,rfl,u1,u2,main.imp (H.Mq _ _) (Or.imp (H.Zam _ _) fun z=>z)⟩
  rcases (Xy { n with Zf:=o++k } l).2 with K|⟨k0,z,ne,_,q⟩|⟨k2,z,nm,_,q⟩
  .rw[<-eh]at K h1;have nM:hh.n.Zp=bd:=by rw[K.Zp];exact hp
   have eo:hh.n.Zr=n.Zr:=K.Zr;have r:=ih k hh.n (Q\/∃m∈hh.ls,G m) h1 (fun m hm=>hk m (by simpa using .inr (aa.1 hm))) nM (by rw[eo];exact fun m hm=>uq m (by simp[hm])) (by rw[eo];exact fun m hm=>ha m (by simp[hm])) (by
    rcases main with z|z|z
    .exact .inl z
    .exact absurd nM (H.cZ _ z)
    .exact .inr z)
   rw[eo]at r;exact r.more fun z=>z
  .have yh:Zw n.Zr.p l.b:=by
    refine aw fun c=>ne (UV c (UX z))
   obtain⟨u1,u2,u3⟩:=Bx yh;have ek:Vl l=(l.b,-1):=by unfold Vl;rw[if_pos k0]
   rw[<-eh]at q;exact stop (.Q8 ⟨l.b,n.Zr.l⟩ l.JA l.b n.Zr.l) (by rw[q];rfl) (by rw[q];rfl) u1 (dz u1 (by rw[<-ek];exact ha l sW (.inl k0) (by rw[ek];exact u2)) u2 u3)
  .obtain⟨u1,u2,u3⟩:=mB (a:=n.Zr) (UY z) h.YY hJ.li.Zs.1 nm (uq l sW k2);have ek:Vl l=(l.v.b,l.v.Zs):=by unfold Vl;rw[if_neg mD]
   rw[<-eh]at q;exact stop (.Wo ⟨l.v.b,Jh n.Zr.l l.v⟩ l.JA l.v) (by rw[q];rfl) (by rw[q];rfl) u1 (dz u1 (by rw[<-ek];exact ha l sW (.inr k2) (by rw[ek];exact u2)) u2 u3)
def ZmH(Ko:List (Yg × Int))(A:Yn->Prop)(E F:Nd->Prop)(n:Nd):Prop:=E n\/F n\/∃o k,n.Zf=o++k/\(∃l∈o,A l)/\Ask Ko n o
def dB{n:Nd}(h:PN C b L X n){p:Ny}(hp:n.Zp=ba p):U6 (Yp (ZJ n) p).n=U6 n/\(Yp (ZJ n) p).n.Zp=bd:=by
 have e:(Yp (ZJ n) p).n.Zp=bd:=by cases p<;>rfl
 refine⟨?_,e⟩;unfold U6;rw[e,hp];exact Hq h hp
def Vr.Yw(R:Vr S C b L T w g M){t:Nat}(ht:t<=T)(hX:X<5){A G:Yn->Prop}{E F:Nd->Prop}(H:Ou (PN C b L X) (PJ C b) A G E F){o k:List Yn}(ei:((w t).Zc X).Zf=o++k)(ha:Ask Ko ((w t).Zc X) o){Q:Prop}(hs:E ((w t).Zc X)\/(∃l∈o,A l)\/Q):
  (me Ko ((w (t+1)).Zc X)+1<=me Ko ((w t).Zc X)/\∃j o' k',((w (t+1)).Zc X).Zf=o'++k'/\(∀l∈k',l∈k\/l∈Jq (w t))/\o=j++o'/\Ask Ko ((w (t+1)).Zc X) o'/\(E ((w (t+1)).Zc X)\/F ((w (t+1)).Zc X)\/(∃l∈o',A l)\/Q\/∃m∈Jq (w t),G m)) \/
  (∀l∈((w (t+1)).Zc X).Zf,l∈k\/l∈Jq (w t))/\(E ((w (t+1)).Zc X)\/Q\/∃m∈Jq (w t),G m):=by
 have W:=JT (C:=C) (b:=b) (L:=L) hX R.hC R.hb;have P:=R.at t;have PX:=P.nd X hX;have hu:=PX.up;have er:=J7 (w t) X hX hu;rw[<-R.nx]at er;generalize Ll:(Jq (w t)).filter (fun l=>decide (l.to.toNat=X))=kk at er;have BD:∀l∈kk,l∈Jq (w t):=fun l hl=>(aK.1 (by rw[Ll];exact hl)).1;have toM:(∃m∈(step ((w t).Zc X)).ls,G m)->∃m∈Jq (w t),G m:=fun⟨m,q1,q2⟩=>⟨m,QY.2 (.inr ⟨X,hX,q1⟩),q2⟩
 cases hp:((w t).Zc X).Zp with
 | some p=>
  have e:step ((w t).Zc X)=Yp (ZJ ((w t).Zc X)) p:=by unfold step;rw[if_pos hu,hp]
  obtain⟨z1,z2⟩:=dB PX hp;have ea:U6 ((w (t+1)).Zc X)=U6 ((w t).Zc X):=by rw[er,e];exact z1
  refine .inl ⟨?_,[],o,k++kk,?_,fun l hl=>(aa.1 hl).imp_right (BD l),rfl,fun l hl c d=>ha l hl c (by rw[<-ea];exact d),?_⟩
  .unfold me;rw[ea,if_pos (by rw[er,e];exact z2),hp];simp
  .rw[er,e];show (Yp (ZJ ((w t).Zc X)) p).n.Zf++kk=_;rw[VH,ei,bn]
  .rw[er,e];exact hs.imp (fun z=>H.Mq _ _ (H.yg _ p PX hp z)) fun z=>.inr (z.imp_right .inl)
 | none=>
  have e0:U6 ((w t).Zc X)=((w t).Zc X).Zr:=by unfold U6;rw[hp]
  have D:=ZaH hX R.hC R.hb H o k ((w t).Zc X) Q PX (by rw[<-ei];exact P.QD X hX) hp (fun l hl=>R.uq ht hX (by rw[ei];exact aa.2 (.inl hl))) (fun l hl c d=>ha l hl c (by rw[e0];exact d)) hs;rw[<-ei]at D;have Hr:(Zy ((w t).Zc X) ((w t).Zc X).Zf).n.Zp≠bd->step ((w t).Zc X)=Zy ((w t).Zc X) ((w t).Zc X).Zf:=fun c=>by
   unfold step;rw[if_pos hu,hp];simp only;rw[if_pos]
   cases z:(Zy ((w t).Zc X) ((w t).Zc X).Zf).n.Zp with
   | none=>exact absurd z c
   | some p=>rfl
  have ZmI:(∃m∈(Zy ((w t).Zc X) ((w t).Zc X).Zf).ls,G m)->∃m∈Jq (w t),G m:=fun⟨m,hm,z⟩=>toM ⟨m,by
   by_cases c:(Zy ((w t).Zc X) ((w t).Zc X).Zf).n.Zp=bd
   .rw[J8 hu ⟨hp,c⟩];exact aa.2 (.inl hm)
   .rw[Hr c];exact hm,z⟩
  rcases D with⟨p,j,o',d1,d2,d3,d4,d5,d6⟩|⟨d1,d2⟩
  .have es:=Hr (by rw[d1];exact fun z=>by cases z);have ea:U6 ((w (t+1)).Zc X)=XW p:=by
    rw[er,es];unfold U6;simp only[d1]
   refine .inl ⟨?_,j,o',k++kk,by rw[er,es];simp only[d2,bn],fun l hl=>(aa.1 hl).imp_right (BD l),d3,fun l hl c d=>ha l (by rw[d3];simp[hl]) c (by rw[e0];exact d4 _ (by rw[<-ea];exact d)),?_⟩
   .unfold me;rw[ea,if_neg (by rw[er,es];simp only[d1];exact fun z=>by cases z),e0,if_pos hp];omega
   .rw[er,es];exact d6.imp (H.Mq _ _) (Or.imp (H.Zam _ _) (b6 (b6 ZmI)))
  .refine .inr ⟨fun l hl=>?_,?_⟩
   .rw[er]at hl;rcases aa.1 hl with hl|hl
    .by_cases c:(Zy ((w t).Zc X) ((w t).Zc X).Zf).n.Zp=bd
     .rw[Nz hu ⟨hp,c⟩]at hl;cases hl
     .rw[Hr c]at hl;exact .inl (d1 l hl)
    .exact .inr (BD l hl)
   .refine d2.imp (fun d=>?_) (b6 ZmI);rw[er];refine H.Mq _ _ ?_;by_cases c:(Zy ((w t).Zc X) ((w t).Zc X).Zf).n.Zp=bd
    .rw[J8 hu ⟨hp,c⟩];exact H.Zmv _ (JQ W _ _ PX (P.QD X hX)).1 c d
    .rw[Hr c];exact d
def Vr.dl(R:Vr S C b L T w g M)(hX:X<5){A G:Yn->Prop}{E F:Nd->Prop}(H:Ou (PN C b L X) (PJ C b) A G E F):∀q t,me Ko ((w t).Zc X)<=q->t+q<=T->ZmH Ko A E F ((w t).Zc X)->∃t',t<=t'/\t'<=t+q+1/\(E ((w t').Zc X)\/∃m∈Jq (w t'),G m):=by
 have fin:∀t,F ((w t).Zc X)->E ((w (t+1)).Zc X)\/∃m∈Jq (w t),G m:=fun t hs=>by
  have PX:=(R.at t).nd X hX
  cases hp:((w t).Zc X).Zp with
  | none=>exact absurd hp (H.cZ _ hs)
  | some p=>
   have e:step ((w t).Zc X)=Yp (ZJ ((w t).Zc X)) p:=by unfold step;rw[if_pos PX.up,hp]
   rcases H.Zmw _ p PX hp hs with z|⟨m,z1,z2⟩
   .left;rw[R.nx,J7 (w t) X hX PX.up,e];exact H.Mq _ _ z
   .exact .inr ⟨m,QY.2 (.inr ⟨X,hX,by rw[e];exact z1⟩),z2⟩
 intro q
 induction q with
 | zero=>
  intro t hq hT hs;rcases hs with hs|hs|⟨o,k,ei,hA,ha⟩
  .exact⟨t,al _,mD,.inl hs⟩
  .rcases fin t hs with z|z
   .exact⟨t+1,mD,mD,.inl z⟩
   .exact⟨t,al _,mD,.inr z⟩
  .rcases R.Yw mD hX H ei ha (Q:=False) (.inr (.inl hA)) with⟨h,_⟩|⟨_,h|h|h⟩
   .omega
   .exact⟨t+1,mD,mD,.inl h⟩
   .exact h.elim
   .exact⟨t,al _,mD,.inr h⟩
 | succ q ih=>
  intro t hq hT hs;rcases hs with hs|hs|⟨o,k,ei,hA,ha⟩
  .exact⟨t,al _,mD,.inl hs⟩
  .rcases fin t hs with z|z
   .exact⟨t+1,mD,mD,.inl z⟩
   .exact⟨t,al _,mD,.inr z⟩
  .rcases R.Yw mD hX H ei ha (Q:=False) (.inr (.inl hA)) with⟨h,j,o',k',e,_,_,a,r⟩|⟨_,h|h|h⟩
   .have go:ZmH Ko A E F ((w (t+1)).Zc X)->_:=fun z=>ih (t+1) mD mD z;have up:(∃t',t+1<=t'/\t'<=t+1+q+1/\(E ((w t').Zc X)\/∃m∈Jq (w t'),G m))->∃t',t<=t'/\t'<=t+(q+1)+1/\(E ((w t').Zc X)\/∃m∈Jq (w t'),G m):=fun⟨t',h1,h2,h3⟩=>⟨t',mD,mD,h3⟩
    rcases r with r|r|r|r|r
    .exact up (go (.inl r))
    .exact up (go (.inr (.inl r)))
    .exact up (go (.inr (.inr ⟨o',k',e,r,a⟩)))
    .exact r.elim
    .exact⟨t,al _,mD,.inr r⟩
   .exact⟨t+1,mD,mD,.inl h⟩
   .exact h.elim
   .exact⟨t,al _,mD,.inr h⟩
def DR:Ou (PN C b L X) (PJ C b) (fun _=>False) (fun _=>False) (fun _=>True) (fun _=>False):=
 ⟨fun _ _ _=>trivial,fun _ _ _ _ _ _=>trivial,fun _ _ _ _=>trivial,fun _ _ _ _ _=>trivial,fun _ _ h=>h,fun _ h=>h.elim,fun _ _ _ _ h=>h.elim,fun _ _ _ _ _ h=>h.elim⟩
def Vr.flush(R:Vr S C b L T w g M)(hX:X<5){Z:Yn->Prop}{t0:Nat}(hm:∀t,t0<=t->t<=T->∀m∈Jq (w t),Z m):∀q t,t0<=t->me Ko ((w t).Zc X)<=q->t+q<=T->(∃o k,((w t).Zc X).Zf=o++k/\(∀l∈k,Z l)/\Ask Ko ((w t).Zc X) o)->∃t',t<=t'/\t'<=t+q+1/\∀l∈((w t').Zc X).Zf,Z l:=by
 intro q
 induction q with
 | zero=>
  rintro t h0 hq hT ⟨o,k,ei,hk,ha⟩;rcases R.Yw mD hX DR ei ha (Q:=False) (.inl trivial) with⟨h,_⟩|⟨h,_⟩
  .omega
  .exact⟨t+1,mD,mD,fun l hl=>(h l hl).elim (hk l) (hm t h0 mD l)⟩
 | succ q ih=>
  rintro t h0 hq hT ⟨o,k,ei,hk,ha⟩;rcases R.Yw mD hX DR ei ha (Q:=False) (.inl trivial) with⟨h,j,o',k',e,O9,_,a,_⟩|⟨h,_⟩
  .obtain⟨t',h1,h2,h3⟩:=ih (t+1) mD mD mD ⟨o',k',e,fun l hl=>(O9 l hl).elim (hk l) (hm t h0 mD l),a⟩;exact⟨t',mD,mD,h3⟩
  .exact⟨t+1,mD,mD,fun l hl=>(h l hl).elim (hk l) (hm t h0 mD l)⟩
def Vr.box(R:Vr S C b L T w g M){t:Nat}(hX:X<5){l:Yn}(hl:l∈((w (t+1)).Zc X).Zf):l∈((w t).Zc X).Zf\/l∈Jq (w t):=by
 rw[R.nx]at hl;rcases (RU hX ((R.at t).nd X hX).up).1 hl with q|⟨q,_⟩
 .exact .inl ((OY (R.at t) R.hC R.hb hX).2.2 l q)
 .exact .inr q
def Vr.stay(R:Vr S C b L T w g M)(hX:X<5){Z:Yn->Prop}{t0:Nat}(hm:∀t,t0<=t->t<=T->∀m∈Jq (w t),Z m)(h:∀l∈((w t0).Zc X).Zf,Z l):∀t,t0<=t->t<=T+1->∀l∈((w t).Zc X).Zf,Z l:=by
 intro t
 induction t with
 | zero=>intro h0 _;rw[show t0=0 by omega]at h;exact h
 | succ t ih=>
  intro h0 hT l hl;by_cases e:t0=t+1
  .rw[e]at h;exact h l hl
  .rcases R.box hX hl with q|q
   .exact ih mD mD l q
   .exact hm t mD mD l q
def Vr.By(R:Vr S C b L T w g M){t:Nat}(hX:X<5)(hf:WS ((w t).Zc X)){l:Yn}(hl:l∈((w (t+1)).Zc X).Zf):l∈Jq (w t):=by
 have hu:=((R.at t).nd X hX).up;rw[R.nx]at hl;rcases (RU hX hu).1 hl with q|⟨q,_⟩
 .rw[Nz hu hf]at q;cases q
 .exact q
end
section
variable {S:Cm->Prop} {C:List Cm} {b:Yg} {L T:Nat} {w:Nat->Wd} {g:Nat->Gh} {M:Nat->Nat->Yg} {e:Nat} {Q:List Cm}
end
section
variable {C:List Cm} {L:Nat} {w:Wd}
end
def ZvW(A:List Raw)(x:Cm):Prop:=∃a∈A,a.k=1/\Xg a.data 0=0/\x=J2 a.data 0
def jW(A:List Raw)(L many:Nat)(hu:∀i,i<5->((JC A).Zc i).up=true)(hu2:∀i,i<5->((act (JC A) (QK L).ac).Zc i).up=true):JC (To A L many)=YC many (act (JC A) (QK L).ac):=by
 have e1:JC (JM A 0)=JC A:=by
  unfold JM;rw[show J6 0=[] from rfl,bj,Mp A hu]
 have e2:JC (JM A 0++[QK L])=act (JC A) (QK L).ac:=by
  rw[Se,e1];rfl
 unfold To;show JC ((JM A 0++[QK L])++YX 5++J6 many)=_;rw[FB,Mp _ (fun i hi=>by rw[e2];exact hu2 i hi),e2]
def dC(n:Nd)(l:Yn):(Zx n l).n.Yw=n.Yw:=by
 have hg:∀(k:Nat) (n:Nd),(Yr k n).1.Yw=n.Yw:=by
  intro k
  induction k with
  | zero=>intro n;rfl
  | succ k ih=>
   intro n;unfold Yr;split
   .rfl
   .exact ih _
 have hl:∀(n:Nd) s x,(X9 n s x).n.Yw=n.Yw:=fun n s x=>hg _ _;have hn:(Xo n l).Yw=n.Yw:=by unfold Xo;split<;>rfl
 unfold Zx;split
 .unfold Y3
  repeat' split
  all_goals rfl
 split
 .unfold Yx
  cases hr:n.Zh with
  | none=>rfl
  | some r=>
   simp only;split
   .split<;>rfl
   .split
    .rfl
    .split
     .rw[hl];rfl
     .rfl
 split
 .unfold asked
  repeat' split
  all_goals rfl
 split
 .show (add n l.v.cm).Yw=_;unfold add;split<;>rfl
 split
 .unfold JY;split<;>exact hn
 split
 .exact hl _ _ _
 .exact hn
def FN:∀(k:List Yn) (n:Nd),(Zy n k).n.Yw=n.Yw:=by
 intro k
 induction k with
 | nil=>intro n;rfl
 | cons l k ih=>
  intro n;unfold Zy;split
  .rfl
  .show (Zy _ k).n.Yw=_;rw[ih,dC]
section
variable {S:Cm->Prop} {C:List Cm} {b:Yg} {L T:Nat} {w:Nat->Wd} {g:Nat->Gh} {M:Nat->Nat->Yg}
end
set_option maxRecDepth 100000
def FO{l:List Raw}{n many:Nat}:∃k,To l n many=l++k/\∀x∈k,x.k≠8/\x.k≠1:=by
 have s9:∀x∈YX 5,x.k≠8/\x.k≠1:=fun x hx=>by
  obtain⟨n,_,rfl⟩:=Mn hx;exact⟨(by decide:(9:Int)≠8),(by decide:(9:Int)≠1)⟩
 have sm:∀k,∀x∈J6 k,x.k≠8/\x.k≠1:=fun k x hx=>by
  rcases Fw hx with⟨n,_,rfl⟩|rfl
  .exact⟨(by decide:(3:Int)≠8),(by decide:(3:Int)≠1)⟩
  .exact⟨(by decide:(7:Int)≠8),(by decide:(7:Int)≠1)⟩
 refine⟨YX 5++J6 0++[QK n]++YX 5++J6 many,?_,fun x hx=>?_⟩
 .unfold To JM;simp only[bn]
 .simp only[aa,au]at hx;rcases hx with (((hx|hx)|rfl)|hx)|hx
  .exact s9 x hx
  .exact sm 0 x hx
  .exact⟨(by decide:(2:Int)≠8),(by decide:(2:Int)≠1)⟩
  .exact s9 x hx
  .exact sm many x hx
section
variable {x:Cm} {ns:List Nat}
end
section
variable {S:Cm->Prop} {C:List Cm} {b:Yg} {L T:Nat} {w:Nat->Wd} {g:Nat->Gh} {M:Nat->Nat->Yg}
end
def ID(n:Nd):(Z1 (Zo n)).n.Ye=n.Ye/\(Z1 (Zo n)).n.Zr=n.Zr:=by
 have hs:(Zo n).Ye=n.Ye/\(Zo n).Zr=n.Zr:=by
  rcases UJ n with⟨_,e⟩|⟨_,_,_,e⟩|⟨_,_,_,e⟩<;>rw[e]<;>exact⟨rfl,rfl⟩
 have hd:(Z1 (Zo n)).n.Ye=(Zo n).Ye/\(Z1 (Zo n)).n.Zr=(Zo n).Zr:=by
  unfold Z1;split
  .unfold Jf
   repeat' split
   all_goals exact⟨rfl,rfl⟩
  .split<;>exact⟨rfl,rfl⟩
 exact⟨by rw[hd.1,hs.1],by rw[hd.2,hs.2]⟩
def dD(n:Nd):∀l∈(Z1 (Zo n)).ls,l.ZH=0\/l.ZH=2\/l.ZH=4:=fun l hl=>by
 have fwd:∀n:Nd,∀l∈U9 n,l.ZH=4:=fun n l hl=>by
  unfold U9 at hl;obtain⟨x,_,rfl⟩:=aU.1 hl;rfl
 unfold Z1 at hl;split at hl
 .unfold Jf at hl;split at hl
  .split at hl<;>cases hl
  .split at hl
   .unfold RM at hl;obtain⟨m,_,hm⟩:=bx.1 hl;split at hm
    .rw[au.1 hm];exact .inl rfl
    .cases hm
   .unfold U8 at hl;obtain⟨s,_,hs⟩:=bx.1 hl;unfold UM at hs;split at hs
    .split at hs
     .obtain⟨m,_,hm⟩:=bx.1 hs;unfold S7 at hm;split at hm
      .rw[au.1 hm];exact .inr (.inl rfl)
      .cases hm
     .cases hs
    .cases hs
 .split at hl
  .exact .inr (.inr (fwd _ l hl))
  .cases hl
section
variable {C:List Cm} {b:Yg} {L X:Nat}
end
def RX(c:Yg)(L X:Nat)(n:Nd):Prop:=∀r,n.Zh=ba r->X=L/\r.b=c
def Zb(c:Yg)(l:Yn):Prop:=(l.ZH=0->l.b=c)/\(l.ZH=2->l.v.b=c)
def Bg(n:Nd):Prop:=∃r,n.Zh=ba r/\r.Xf=true
section
variable {S:Cm->Prop} {C:List Cm} {b c:Yg} {L L' T X:Nat} {w:Nat->Wd} {g:Nat->Gh} {M:Nat->Nat->Yg} {Ko:List (Yg × Int)} {n:Nd}
def ZaI{k:List Yn}(h:PN C b L X n)(hj:∀l∈k,PJ C b l)(uq:∀l∈k,l.ZH=2->∀y∈n.Zr.l,y.b=l.v.b->y.Zs=l.v.Zs->y=l.v)(hp:n.Zp=bd)(ha:Ask Ko n k){p:Ny}(hq:(Zy n k).n.Zp=ba p):mu Ko (XW p)+1<=mu Ko n.Zr:=by
 obtain⟨_,j,l,e,q⟩:=FK k n hp p hq;have hl:l∈k:=by rw[e];simp
 have e0:U6 n=n.Zr:=by unfold U6;rw[hp]
 rcases q with⟨k0,z,ne,q⟩|⟨k2,z,nm,q⟩
 .have hb:Zw n.Zr.p l.b:=by
   refine aw fun c=>ne (UV c (UX z))
  obtain⟨u1,u2,u3⟩:=Bx hb;rw[q];have ek:Vl l=(l.b,-1):=by unfold Vl;rw[if_pos k0]
  exact dz u1 (by rw[<-ek];exact ha l hl (.inl k0) (by rw[ek,e0];exact u2)) u2 u3
 .obtain⟨u1,u2,u3⟩:=mB (a:=n.Zr) (UY z) h.YY (hj l hl).li.Zs.1 nm (uq l hl k2);rw[q];have ek:Vl l=(l.v.b,l.v.Zs):=by unfold Vl;rw[if_neg mD]
  exact dz u1 (by rw[<-ek];exact ha l hl (.inr k2) (by rw[ek,e0];exact u2)) u2 u3
def Vr.LM(R:Vr S C b L T w g M){t:Nat}(ht:t<=T)(hX:X<5)(ha:Ask Ko ((w t).Zc X) ((w t).Zc X).Zf)(hr:∀r,((w t).Zc X).Zh=ba r->(r.b,-1)∈Ko):me Ko ((w (t+1)).Zc X)<=me Ko ((w t).Zc X)/\(¬WS ((w t).Zc X)->me Ko ((w (t+1)).Zc X)+1<=me Ko ((w t).Zc X)):=by
 have W:=JT (C:=C) (b:=b) (L:=L) hX R.hC R.hb;have P:=R.at t;have PX:=P.nd X hX;have hu:=PX.up;have er:=J7 (w t) X hX hu;rw[<-R.nx]at er;have em:∀m:Nd,(w (t+1)).Zc X = { m with Zf:=((w (t+1)).Zc X).Zf }->me Ko ((w (t+1)).Zc X)=me Ko m:=fun m e=>by rw[e];rfl
 have es:=em (step ((w t).Zc X)).n (by rw[er]);rw[es]
 cases hp:((w t).Zc X).Zp with
 | some p=>
  have e:step ((w t).Zc X)=Yp (ZJ ((w t).Zc X)) p:=by unfold step;rw[if_pos hu,hp]
  obtain⟨z1,z2⟩:=dB PX hp;have:me Ko (step ((w t).Zc X)).n+1<=me Ko ((w t).Zc X):=by
   rw[e];unfold me;rw[z1,if_pos z2,hp];simp
  exact⟨mD,fun _=>this⟩
 | none=>
  have e0:U6 ((w t).Zc X)=((w t).Zc X).Zr:=by unfold U6;rw[hp]
  have e1:me Ko ((w t).Zc X)=2*mu Ko ((w t).Zc X).Zr:=by unfold me;rw[e0,if_pos hp];rfl
  rw[e1]
  cases hd:(Zy ((w t).Zc X) ((w t).Zc X).Zf).n.Zp with
  | some p=>
   have e:step ((w t).Zc X)=Zy ((w t).Zc X) ((w t).Zc X).Zf:=by
    unfold step;rw[if_pos hu,hp];simp only;rw[if_pos (by rw[hd];rfl)]
   have h:=ZaI PX (P.QD X hX) (fun l hl=>R.uq ht hX hl) hp ha hd;have e2:me Ko (step ((w t).Zc X)).n=2*mu Ko (XW p)+1:=by
    rw[e];unfold me U6;rw[hd];simp
   exact⟨mD,fun _=>by omega⟩
  | none=>
   refine⟨?_,fun q=>absurd ⟨hp,hd⟩ q⟩;have K:=WT _ _ hd;have Pd:=(JQ W _ _ PX (P.QD X hX)).1;have D:=(Xh hd Pd.Yk).1;rw[J8 hu ⟨hp,hd⟩];show me Ko (YH (Zy ((w t).Zc X) ((w t).Zc X).Zf).n).n<=_;rcases D.Zp with⟨e,_⟩|⟨r,tO,c1,_,_,e⟩
   .unfold me U6;rw[e,D.Zr,K.Zr];exact al _
   .obtain⟨r0,h0,hs⟩:=K.back tO;rw[if_pos (Pd.pr0 (Pd.may r tO) (Tj c1))]at e;obtain⟨u1,u2,u3⟩:=Bx c1;rw[K.Zr]at u1 u2 u3;have:=dz u1 (Ko:=Ko) (by rw[hs.k.b];exact hr r0 h0) u2 u3;unfold me U6;rw[e];show 2*mu Ko ⟨r.b,(Zy ((w t).Zc X) ((w t).Zc X).Zf).n.Zr.l⟩+1<=_;rw[K.Zr];omega
def RX.keep{m:Nd}(h:RX c L' X n)(k:∀r',m.Zh=ba r'->∃r,n.Zh=ba r/\r'.b=r.b):RX c L' X m:=fun r' hr=>by
 obtain⟨r,h1,h2⟩:=k r' hr;rw[h2];exact h r h1
def ZaJ(hX:X<5)(hC:(O C)<=100000)(hb:ZC b):Laws (fun n=>PN C b L X n/\RX c L' X n) (PJ C b) (fun l=>PJ C b l/\Zb c l):=by
 have W:=JT (C:=C) (b:=b) (L:=L) (X:=X) hX hC hb;refine⟨fun n k h=>⟨W.box n k h.1,h.2⟩,fun n l h hp hl=>?_,fun n h hp=>?_,fun n p h hp=>?_⟩
 .obtain⟨h1,h2⟩:=W.hnd n l h.1 hp hl;obtain⟨hk,hc⟩:=Xy n l;refine⟨⟨h1,h.2.keep fun r' hr=>?_⟩,fun m hm=>⟨h2 m hm,fun e=>absurd e (hk m hm).1,fun e=>absurd e (hk m hm).2⟩⟩;rcases hc with k|⟨_,_,_,_,e⟩|⟨_,_,_,_,e⟩
  .obtain⟨r,q1,q2⟩:=k.back hr;exact⟨r,q1,q2.k.b⟩
  .rw[e]at hr;exact⟨r',hr,rfl⟩
  .rw[e]at hr;exact⟨r',hr,rfl⟩
 .obtain⟨h1,h2⟩:=W.dty n h.1 hp;obtain⟨D,hA⟩:=Xh hp h.1.Yk;refine⟨⟨h1,h.2.keep fun r' hr=>?_⟩,fun m hm=>⟨h2 m hm,fun e=>?_,fun e=>?_⟩⟩
  .rcases D.Kn with⟨_,e⟩|⟨_,_,_,e⟩|⟨r,r2,q1,_,e,k,_⟩
   .rw[e]at hr;cases hr
   .rw[e]at hr;cases hr
   .rw[e]at hr;obtain rfl:=Option.some.inj hr;exact⟨r,q1,k.b⟩
  .obtain⟨r,hr,_,_,q,_⟩:=hA m hm (.inl e);rw[q e];exact (h.2 r hr).2
  .obtain⟨r,hr,_,_,_,q,_⟩:=hA m hm (.inr e);rw[q e];exact (h.2 r hr).2
 .obtain⟨h1,h2⟩:=W.fin n p h.1 hp;refine⟨⟨h1,h.2.keep fun r' hr=>?_⟩,fun m hm=>⟨h2 m hm,?_⟩⟩
  .cases p with
   | Q8 a to b' vs=>exact⟨r',hr,rfl⟩
   | Wo a to v=>exact⟨r',hr,rfl⟩
   | Zr a vs cur=>
    have hr:(if cur=true then n.Zh.map (fun r=>{ r with ZL:=ins r.ZL n.me vs }) else n.Zh)=ba r':=hr;split at hr
    .cases e:n.Zh with
     | none=>rw[e]at hr;cases hr
     | some r=>
      rw[e]at hr;obtain rfl:=Option.some.inj hr;exact⟨r,rfl,rfl⟩
    .exact⟨r',hr,rfl⟩
  .cases p with
   | Q8 a to b' vs=>rw[au.1 hm];exact⟨(fun e=>by cases e),fun e=>by cases e⟩
   | Wo a to v=>rw[au.1 hm];exact⟨(fun e=>by cases e),fun e=>by cases e⟩
   | Zr a vs cur=>cases hm
def Vr.one(R:Vr S C b L T w g M)(h0:∀X,X<5->RX c L' X ((w 0).Zc X)):∀t,(∀X,X<5->RX c L' X ((w t).Zc X))/\∀X,X<5->∀m∈(step ((w t).Zc X)).ls,Zb c m:=by
 have st:∀t,(∀X,X<5->RX c L' X ((w t).Zc X))->∀X,X<5->RX c L' X (step ((w t).Zc X)).n/\∀m∈(step ((w t).Zc X)).ls,Zb c m:=fun t h X hX=>by
  have P:=R.at t;obtain⟨q1,q2,_⟩:=Rj (ZaJ (c:=c) (L':=L') hX R.hC R.hb) (P.nd X hX).up ⟨P.nd X hX,h X hX⟩ (P.QD X hX);exact⟨q1.2,fun m hm=>(q2 m hm).2⟩
 intro t
 induction t with
 | zero=>exact⟨h0,fun X hX=>(st 0 h0 X hX).2⟩
 | succ t ih=>
  have:∀X,X<5->RX c L' X ((w (t+1)).Zc X):=fun X hX=>by
   rw[R.nx,J7 _ X hX ((R.at t).nd X hX).up];exact (st t ih.1 X hX).1
  exact⟨this,fun X hX=>(st (t+1) this X hX).2⟩
def Vr.TA(R:Vr S C b L T w g M)(t:Nat):(w (t+1)).Zm=[]:=by rw[R.nx,Bo]
def Vr.mC(R:Vr S C b L T w g M)(h0:∀X,X<5->RX c L' X ((w 0).Zc X)){t:Nat}(hf:(w t).Zm=[]):∀m∈Jq (w t),Zb c m:=fun m hm=>by
 rcases QY.1 hm with q|⟨X,hX,q⟩
 .rw[hf]at q;cases q
 .exact (R.one h0 t).2 X hX m q
def jX(hu:n.up=true)(hf:¬WS n):∀m∈(step n).ls,m.ZH≠0/\m.ZH≠2:=fun m hm=>by
 cases hp:n.Zp with
 | some p=>
  have e:step n=Yp (ZJ n) p:=by unfold step;rw[if_pos hu,hp]
  rw[e]at hm
  cases p with
  | Q8 a to b' vs=>rw[au.1 hm];exact⟨by show (1:Int)≠0;decide,by show (1:Int)≠2;decide⟩
  | Wo a to v=>rw[au.1 hm];exact⟨by show (3:Int)≠0;decide,by show (3:Int)≠2;decide⟩
  | Zr a vs cur=>cases hm
 | none=>
  have e:step n=Zy n n.Zf:=by
   unfold step;rw[if_pos hu,hp];simp only;rw[if_pos]
   cases z:(Zy n n.Zf).n.Zp with
   | none=>exact absurd ⟨hp,z⟩ hf
   | some p=>rfl
  rw[e]at hm;exact WX _ _ m hm
def Zd7(n:Nd):¬Zw (Uo n) n.Zr.p:=by
 unfold Uo;split
 .rename_i q;exact Tj q
 .exact YR _
def ZhS{m:Yn}(hm:m∈(YH n).ls)(hk:m.ZH=5):¬Zw m.b n.Zr.p:=by
 have hd:m∈(Z1 (Zo n)).ls->¬Zw m.b n.Zr.p:=fun h=>by
  have:=dD n m h;omega
 unfold YH at hm;split at hm
 .exact hd hm
 .rcases aa.1 hm with h|h
  .exact hd h
  .unfold QU at h;split at h
   .rw[au.1 h];have:=Zd7 (Je (Z1 (Zo n)).n);rw[show (Je (Z1 (Zo n)).n).Zr=n.Zr from (ID n).2]at this;exact this
   .cases h
def Vr.JY(R:Vr S C b L T w g M){h:Nat}(hh:h<5){V:Nat}(Xb:V≠h){t:Nat}(hr:((w t).Zc h).Zh=bd)(hf:WS ((w t).Zc h)):
  ((w (t+1)).Zc h).Yw=(((w t).Zc h).Yw+1)%5/\(40<=((w (t+1)).Zc h).ZI.length\/((w (t+1)).Zc h).Yw≠V\/∃m∈Jq (w t),m.ZH=5/\m.to=V/\¬Zw m.b ((w t).Zc h).Zr.p):=by
 have P:=R.at t;have PX:=P.nd h hh;have hu:=PX.up;obtain⟨d,ed⟩:=ZP ((Zy ((w t).Zc h) ((w t).Zc h).Zf).n);have K:Xt ((w t).Zc h) d:=by rw[ed];exact WT _ _ hf.2
 have et:d.Yw=((w t).Zc h).Yw:=by rw[ed];exact FN _ _
 have hd:d.Zp=bd:=by rw[ed];exact hf.2
 have hdr:d.Zh=bd:=by
  cases e:d.Zh with
  | none=>rfl
  | some r=>
   obtain⟨r0,q,_⟩:=K.back e;rw[hr]at q;cases q
 have Pd:PN C b L h d:=by rw[ed];exact (JQ (JT hh R.hC R.hb) _ _ PX (P.QD h hh)).1
 have D:=(Xh hd Pd.Yk).1;have hq:(YH d).n.Zp=bd:=by
  rcases D.Zp with⟨e,_⟩|⟨r,e,_⟩
  .exact e
  .rw[hdr]at e;cases e
 obtain⟨n1,n2⟩:=rS hq;have er:(w (t+1)).Zc h = { (YH d).n with Zf:=((w (t+1)).Zc h).Zf }:=by
  have:=J7 (w t) h hh hu;rw[<-R.nx,J8 hu hf,<-ed]at this;rw[this]
 have e1:((w (t+1)).Zc h).Yw=(YH d).n.Yw:=by rw[er]
 have e2:((w (t+1)).Zc h).ZI=d.ZI:=by rw[er];exact D.ZI
 rw[e1,e2,n1,et];refine⟨rfl,?_⟩;by_cases c1:40<=d.ZI.length
 .exact .inl c1
 .by_cases c2:(((w t).Zc h).Yw+1)%5=V
  .obtain⟨bb,hm⟩:=n2 (by rw[n1,et,c2,Pd.ni.me];omega) mD;have hb:=ZhS hm rfl;rw[K.Zr]at hb;refine .inr (.inr ⟨_,QY.2 (.inr ⟨h,hh,?_⟩),rfl,by rw[n1,et];exact c2,hb⟩);rw[J8 hu hf,<-ed];exact aa.2 (.inr hm)
  .exact .inr (.inl c2)
def Vr.ZG(R:Vr S C b L T w g M){h:Nat}(hh:h<5){V:Nat}(hV:V<5)(Xb:V≠h)(hr:∀t,((w t).Zc h).Zh=bd)(ha:∀t,t<=T->Ask Ko ((w t).Zc h) ((w t).Zc h).Zf):∀q t j,me Ko ((w t).Zc h)+j<=q->t+q<=T->j<=4->(((w t).Zc h).Yw+1+j)%5=V ->
  ∃t',t<=t'/\t'<=t+q/\(40<=((w (t'+1)).Zc h).ZI.length\/∃m∈Jq (w t'),m.ZH=5/\m.to=V/\¬Zw m.b ((w t').Zc h).Zr.p):=by
 have tn:∀t,¬WS ((w t).Zc h)->((w (t+1)).Zc h).Yw=((w t).Zc h).Yw:=fun t hf=>by
  have hu:=((R.at t).nd h hh).up;rw[R.nx,J7 (w t) h hh hu];show (step ((w t).Zc h)).n.Yw=_
  cases hp:((w t).Zc h).Zp with
  | some p=>
   have e:step ((w t).Zc h)=Yp (ZJ ((w t).Zc h)) p:=by unfold step;rw[if_pos hu,hp]
   rw[e]
   cases p<;>rfl
  | none=>
   have e:step ((w t).Zc h)=Zy ((w t).Zc h) ((w t).Zc h).Zf:=by
    unfold step;rw[if_pos hu,hp];simp only;rw[if_pos]
    cases z:(Zy ((w t).Zc h) ((w t).Zc h).Zf).n.Zp with
    | none=>exact absurd ⟨hp,z⟩ hf
    | some p=>rfl
   rw[e];exact FN _ _
 intro q
 induction q with
 | zero=>
  intro t j hq hT hj hv;obtain⟨h1,h2⟩:=R.LM mD hh (ha t mD) (fun r e=>by rw[hr]at e;cases e);have hf:WS ((w t).Zc h):=aw fun c=>by have:=h2 c;omega
  obtain⟨k1,k2⟩:=R.JY hh Xb (hr t) hf;refine⟨t,al _,mD,?_⟩;rcases k2 with k2|k2|k2
  .exact .inl k2
  .rw[k1]at k2;omega
  .exact .inr k2
 | succ q ih=>
  intro t j hq hT hj hv;obtain⟨h1,h2⟩:=R.LM mD hh (ha t mD) (fun r e=>by rw[hr]at e;cases e);by_cases hf:WS ((w t).Zc h)
  .obtain⟨k1,k2⟩:=R.JY hh Xb (hr t) hf;rcases k2 with k2|k2|k2
   .exact⟨t,al _,mD,.inl k2⟩
   .have hj0:j≠0:=fun e=>by rw[k1]at k2;subst e;exact k2 (by simpa using hv)
    obtain⟨t',a1,a2,a3⟩:=ih (t+1) (j-1) mD mD mD (by rw[k1];omega);exact⟨t',mD,mD,a3⟩
   .exact⟨t,al _,mD,.inr k2⟩
  .have:=h2 hf;obtain⟨t',a1,a2,a3⟩:=ih (t+1) j mD mD hj (by rw[tn t hf];exact hv);exact⟨t',mD,mD,a3⟩
end
def U0(c:Yg):List (Yg × Int):=(c,-1) :: (bc 40).map fun (s:Nat)=>(c,(s:Int))
def O0(c:Yg):(U0 c).length=41:=by unfold U0;simp
def KA{c:Yg}{s:Int}(h:0<=s/\s<40):(c,s)∈U0 c:=
 bl _ (aU.2 ⟨s.toNat,bf.2 mD,by rw[show ((s.toNat:Nat):Int)=s by omega]⟩)
section
variable {S:Cm->Prop} {C:List Cm} {b c:Yg} {L L' T X:Nat} {w:Nat->Wd} {g:Nat->Gh} {M:Nat->Nat->Yg} {Ko Ks:List (Yg × Int)} {n:Nd}
def Zb.ask{k:List Yn}(hj:∀l∈k,Qb C l)(h:∀l∈k,Zb c l):Ask (U0 c) n k:=fun l hl q _=>by
 unfold Vl;rcases q with q|q
 .rw[if_pos q,(h l hl).1 q];exact ca ..
 .rw[if_neg mD,(h l hl).2 q];exact KA (hj l hl).Zs
def KB(Ko:List (Yg × Int))(n:Nd):me Ko n<=2*(O Ko)+1:=by
 unfold me;have:=ZhR Ko (U6 n);split<;>omega
def jY(u:Wd):∃k,Jq u=u.Zm++k/\∀m∈k,∃i,i<5/\m∈(step (u.Zc i)).ls:=by
 refine⟨(step (u.Zc 0)).ls++(step (u.Zc 1)).ls++(step (u.Zc 2)).ls++(step (u.Zc 3)).ls++(step (u.Zc 4)).ls,by unfold Jq;simp only[bn],fun m hm=>?_⟩;simp only[aa]at hm;rcases hm with (((hm|hm)|hm)|hm)|hm
 .exact⟨0,mD,hm⟩
 .exact⟨1,mD,hm⟩
 .exact⟨2,mD,hm⟩
 .exact⟨3,mD,hm⟩
 .exact⟨4,mD,hm⟩
def Vr.first(R:Vr S C b L' T w g M)(hX:X<5)(h0:((w 0).Zc X).Zf=[]):∃o k,((w 1).Zc X).Zf=o++k/\(∀l∈o,l∈(w 0).Zm)/\∀m∈k,∃i,i<5/\m∈(step ((w 0).Zc i)).ls:=by
 obtain⟨k,e,hk⟩:=jY (w 0);have hs:(step ((w 0).Zc X)).n.Zf=[]:=by
  have:=(OY (R.at 0) R.hC R.hb hX).2.2;rw[h0]at this
  cases q:(step ((w 0).Zc X)).n.Zf with
  | nil=>rfl
  | cons l k=>rw[q]at this;have:=this l sW;cases this
 have er:=J7 (w 0) X hX ((R.at 0).nd X hX).up;rw[<-R.nx,e,bo]at er;refine⟨_,_,by rw[er];show (step ((w 0).Zc X)).n.Zf++_=_;rw[hs,List.nil_append],fun l hl=>(aK.1 hl).1,fun m hm=>hk m (aK.1 hm).1⟩
def Vr.gone(R:Vr S C b L' T w g M)(h0:∀X,X<5->RX c L X ((w 0).Zc X))(hi:∀X,X<5->((w 0).Zc X).Zf=[])(hF:∀l∈(w 0).Zm,l.ZH=0\/l.ZH=2->Vl l∈Ks)(hT:2*(O Ks)+3<=T)(hX:X<5):∀t,2*(O Ks)+3<=t->t<=T->∀l∈((w t).Zc X).Zf,Zb c l:=by
 have hm:∀t,1<=t->t<=T->∀m∈Jq (w t),Zb c m:=fun t h1 _=>R.mC h0 (by
  obtain⟨s,rfl⟩:∃s,t=s+1:=⟨t-1,mD⟩
  exact R.TA s)
 obtain⟨o,k,e,ho,hk⟩:=R.first hX (hi X hX);obtain⟨t',h1,h2,h3⟩:=R.flush (Ko:=Ks) hX hm _ 1 (al _) (KB Ks _) mD ⟨o,k,e,fun l hl=>by
  obtain⟨i,hi,q⟩:=hk l hl;exact (R.one h0 0).2 i hi l q,fun l hl q _=>hF l (ho l hl) q⟩
 intro t ht hT';exact R.stay hX (t0:=t') (fun t q1 q2=>hm t mD q2) h3 t mD mD
def O3{l:Yn}(h:PN C b L' X n)(Hh:∀l∈n.Zf,PJ C b l)(hX:X<5)(hC:(O C)<=100000)(hb:ZC b)(hl:l∈(step n).ls)(hk:l.ZH=0\/l.ZH=2):WS n/\∃r,n.Zh=ba r/\¬Zw n.Zr.p r.b:=by
 have hf:WS n:=aw fun q=>by
  have:=jX h.up q l hl;omega
 refine⟨hf,?_⟩;rw[J8 h.up hf]at hl;have hd:=(JQ (JT hX hC hb) n.Zf n h Hh).1;have K:=WT _ _ hf.2;rcases aa.1 hl with hl|hl
 .have:=WX _ _ l hl;omega
 .obtain⟨r,hr,_,q,_⟩:=(Xh hf.2 hd.Yk).2 l hl hk;obtain⟨r0,h1,h2⟩:=K.back hr;exact⟨r0,h1,by rw[<-h2.k.b,<-K.Zr];exact q⟩
def Vr.Bu(R:Vr S C b L' T w g M)(hX:X<5)(h:((w 0).Zc X).Zr.p=b):∀t,((w t).Zc X).Zr.p=b:=by
 intro t
 induction t with
 | zero=>exact h
 | succ t ih=>
  have W:=(JT (C:=C) (b:=b) (L:=L') (X:=X) hX R.hC R.hb).and (E:=fun n=>n.Zr.p=b) (fun n k h=>h) (fun n l h _ _ q=>Wv.1 n l h q) (fun n h hp q=>Wv.2.1 n h hp q) (fun n p h hp q=>Wv.2.2 n p h hp q);have P:=R.at t;rw[R.nx,J7 _ X hX (P.nd X hX).up];exact (Rj W (P.nd X hX).up ⟨P.nd X hX,ih⟩ (P.QD X hX)).1.2
def FP{A G:Yn->Prop}(hA:∀l,A l->l.ZH=5/\¬Zw l.b b):Ou (PN C b L' X) (PJ C b) A G (fun n=>¬Zw n.Ye b) (fun _=>False):=by
 have hn:∀(n:Nd) l,¬Zw n.Ye b->¬Zw (Xo n l).Ye b:=fun n l h=>by
  unfold Xo;split
  .rename_i q;exact fun z=>h (ZaG q z)
  .exact h
 have he:∀(n:Nd) l,¬Zw n.Ye b->¬Zw (Zx n l).n.Ye b:=fun n l h=>by
  have hl:∀(n:Nd) s x,(X9 n s x).n.Ye=n.Ye:=fun n s x=>(LJ _ _).1;unfold Zx;split
  .unfold Y3;repeat' split
   all_goals exact h
  split
  .unfold Yx;split
   .exact h
   .repeat' split
    all_goals first|exact h|(rw[hl];exact h)
  split
  .unfold asked;repeat' split
   all_goals exact h
  split
  .show ¬Zw (add n l.v.cm).Ye b;unfold add;split<;>exact h
  split
  .unfold JY;split<;>exact hn n l h
  split
  .rw[hl];exact h
  .exact hn n l h
 refine⟨fun n k h=>h,fun n l _ _ _ h=>he n l h,fun n _ _ h=>?_,fun n p _ _ h=>by cases p<;>exact h,fun n k h=>h,fun n h=>h.elim,fun n p _ _ h=>h.elim,fun n l _ _ _ q=>.inl ?_⟩
 .have:(YH n).n.Ye=n.Ye:=by
   unfold YH;split<;>exact (ID n).1
  rw[this];exact h
 .obtain⟨k5,hb⟩:=hA l q;have e:Zx n l=JY n l:=by
   unfold Zx;rw[if_neg mD,if_neg mD,if_neg mD,if_neg mD,if_pos k5]
  have hh:¬Zw (Xo n l).Ye b:=by
   unfold Xo;split
   .exact hb
   .rename_i z;exact fun y=>hb (UZ z y)
  rw[e];unfold JY;split<;>exact hh
def Vr.Ye(R:Vr S C b L' T w g M)(hX:X<5){t0:Nat}(h:¬Zw ((w t0).Zc X).Ye b):∀t,t0<=t->¬Zw ((w t).Zc X).Ye b:=by
 intro t
 induction t with
 | zero=>intro q;rw[show t0=0 by omega]at h;exact h
 | succ t ih=>
  intro q;by_cases e:t0=t+1
  .rw[<-e];exact h
  .rcases (dg (R.at t) R.hC R.hb hX (FP (L':=L') (A:=fun _=>False) (G:=fun _=>False) (fun l h=>h.elim)) (.inl (ih mD))).1 with (z|z|⟨_,_,z⟩)|⟨_,_,z⟩
   .rw[R.nx];exact z
   .exact z.elim
   .exact z.elim
   .exact z.elim
def Vr.ZmJ(R:Vr S C b 7 T w g M)(hL:L<5)(h0:∀X,X<5->RX c L X ((w 0).Zc X))(hi:∀X,X<5->((w 0).Zc X).Zf=[])(qu:∀X,X<5->((w 0).Zc X).Zp=bd)(ht0:∀X,X<5->((w 0).Zc X).Yw=0)(hF:∀l∈(w 0).Zm,l.ZH=0\/l.ZH=2->Vl l∈Ks)(hc:∀r,((w 0).Zc L).Zh=ba r->Zw ((w 0).Zc L).Zr.p r.b){h:Nat}(hh:h<5)(Xb:L≠h)(qW:((w 0).Zc h).Zr.p=b)(hT:2*(O Ks)+88<=T)(hT2:171<=T):
  (∃t,t<=85/\40<=((w t).Zc h).ZI.length)\/¬Zw ((w T).Zc L).Ye b:=by
 have tX:∀t,((w t).Zc h).Zh=bd:=fun t=>by
  cases e:((w t).Zc h).Zh with
  | none=>rfl
  | some r=>exact absurd ((R.one h0 t).1 h hh r e).1.symm Xb
 have Zr:=R.Bu hh qW;have ZmK:∀t,(U6 ((w t).Zc h)).p=b:=fun t=>by
  have P:=(R.at t).nd h hh;unfold U6;split
  .rename_i p hp;obtain⟨z1,z2,_⟩:=P.pnd p hp;rw[Zr t]at z2;exact UV z2 z1
  .exact Zr t
 have ha:∀t,t<=T->Ask (U0 b) ((w t).Zc h) ((w t).Zc h).Zf:=fun t _ l hl q u=>by
  have J:=(R.at t).QD h hh l hl;rcases q with q|q
  .have e:Vl l=(l.b,-1):=by unfold Vl;rw[if_pos q]
   rw[e]at u;have:=u.1 rfl;rw[ZmK t]at this;exact absurd this (J.Q8 q)
  .have e:Vl l=(l.v.b,l.v.Zs):=by unfold Vl;rw[if_neg mD]
   rw[e]at u ⊢;have hs:=J.li.Zs;have:=(u.2 (by show l.v.Zs ≠ -1;omega)).1;rw[ZmK t]at this;have e2:l.v.b=b:=UV this (J.ask q);rw[e2];exact KA hs
 have Hj:me (U0 b) ((w 0).Zc h)<=80:=by
  have e:U6 ((w 0).Zc h)=((w 0).Zc h).Zr:=by unfold U6;rw[qu h hh]
  unfold me;rw[e,if_pos (qu h hh)];unfold mu U0;rw[a7 (by
   simp only[decide_eq_true_eq];intro u;have:=u.1 rfl;rw[qW]at this;exact YR _ this)]
  have:=bp (fun k=>decide (Pw ((w 0).Zc h).Zr k)) ((bc 40).map fun (s:Nat)=>(b,(s:Int)));rw[a9,b5]at this;omega
 obtain⟨t',_,h2,h3⟩:=R.ZG hh hL Xb tX ha 84 0 ((L+4)%5) mD mD mD (by rw[ht0 h hh];omega);rcases h3 with h3|⟨m,hm,k5,kt,kb⟩
 .exact .inl ⟨t'+1,mD,h3⟩
 rw[Zr t']at kb;refine .inr ?_;have Hh:m∈((w (t'+1)).Zc L).Zf:=by
  rw[R.nx];exact (RU hL ((R.at t').nd L hL).up).2 (.inr ⟨hm,mD⟩)
 have fin:∀(Ko:List (Yg × Int)),Ask Ko ((w (t'+1)).Zc L) ((w (t'+1)).Zc L).Zf->2*(O Ko)+88<=T->¬Zw ((w T).Zc L).Ye b:=fun Ko q1 q2=>by
  obtain⟨t2,_,a2,a3⟩:=R.dl hL (FP (L':=7) (A:=fun l=>l.ZH=5/\¬Zw l.b b) (G:=fun _=>False) fun l h=>h) (2*(O Ko)+1) (t'+1) (KB Ko _) mD (.inr (.inr ⟨_,[],(bj _).symm,⟨m,Hh,k5,kb⟩,q1⟩));rcases a3 with a3|⟨_,_,a3⟩
  .exact R.Ye hL a3 T mD
  .exact a3.elim
 by_cases hf:∃t,1<=t/\t<=t'/\WS ((w t).Zc L)
 .obtain⟨t1,f1,f2,f3⟩:=hf;have hm:∀t,1<=t->t<=T->∀m∈Jq (w t),Zb c m:=fun t h1 _=>R.mC h0 (by
   obtain⟨s,rfl⟩:∃s,t=s+1:=⟨t-1,mD⟩
   exact R.TA s)
  have hz:=R.stay hL (t0:=t1+1) (fun t q1 q2=>hm t mD q2) (fun l hl=>hm t1 f1 mD l (R.By hL f3 hl)) (t'+1) mD mD;exact fin (U0 c) (Zb.ask (fun l hl=>((R.at (t'+1)).QD L hL l hl).li) hz) (by rw[O0];omega)
 .have hs:∀t,t<=t'->∀m∈Jq (w t),m∈(w 0).Zm\/(m.ZH≠0/\m.ZH≠2):=fun t ht m hm=>by
   by_cases q:m.ZH=0\/m.ZH=2
   .rcases QY.1 hm with z|⟨i,CI,z⟩
    .cases t with
     | zero=>exact .inl z
     | succ t=>rw[R.TA t]at z;cases z
    .have P:=R.at t;obtain⟨a1,r,a2,a3⟩:=O3 (P.nd i CI) (P.QD i CI) CI R.hC R.hb z q;obtain⟨e,er⟩:=(R.one h0 t).1 i CI r a2;subst e
     cases t with
     | zero=>exact absurd (hc r a2) a3
     | succ t=>exact absurd ⟨t+1,mD,ht,a1⟩ hf
   .exact .inr ⟨fun z=>q (.inl z),fun z=>q (.inr z)⟩
  have hk:∀t,t<=t'+1->∀l∈((w t).Zc L).Zf,l∈(w 0).Zm\/(l.ZH≠0/\l.ZH≠2):=by
   intro t
   induction t with
   | zero=>intro _ l hl;rw[hi L hL]at hl;cases hl
   | succ t ih=>
    intro ht l hl;rcases R.box hL hl with z|z
    .exact ih mD l z
    .exact hs t mD l z
  exact fin Ks (fun l hl q _=>hF l ((hk _ (al _) l hl).resolve_right fun z=>by omega) q) hT
end
section
variable {S:Cm->Prop} {C:List Cm} {b c:Yg} {L L' T X:Nat} {w:Nat->Wd} {g:Nat->Gh} {M:Nat->Nat->Yg} {Ko Ks:List (Yg × Int)} {n:Nd}
def ZaK{r:XM}(hb:r.Xf=false->∀s,Yl r.Yj s=bd){l:Yn}(hl:l∈(Jf n r).ls)(k2:l.ZH=2):Bg (Jf n r).n:=by
 unfold Jf at hl ⊢;split at hl
 .rename_i c1;split at hl<;>cases hl
 .rename_i c1;rw[if_neg c1];split at hl
  .obtain⟨m,_,hm⟩:=bx.1 hl;split at hm
   .rw[au.1 hm]at k2;cases k2
   .cases hm
  .rename_i c2;rw[if_neg c2];exact⟨_,rfl,(UI n r hb).2⟩
def ZaL(hb:Blank n.Zh){l:Yn}(hl:l∈(YH n).ls)(k2:l.ZH=2):Bg (YH n).n:=by
 have h1:∀l∈(Z1 (Zo n)).ls,l.ZH=2->Bg (Z1 (Zo n)).n:=fun l hl k2=>by
  rcases UJ n with⟨hr,e⟩|⟨r,hr,_,e⟩|⟨r,hr,_,e⟩
  .rw[e]at hl ⊢;unfold Z1 at hl ⊢;rw[hr]at hl;simp only at hl;split at hl
   .obtain⟨x,_,rfl⟩:=aU.1 hl;cases k2
   .cases hl
  .rw[e]at hl;unfold Z1 at hl;simp only at hl;split at hl
   .obtain⟨x,_,rfl⟩:=aU.1 hl;cases k2
   .cases hl
  .rw[e]at hl ⊢;unfold Z1 at hl ⊢;rw[hr]at hl ⊢;exact ZaK (hb r hr) hl k2
 unfold YH at hl ⊢;split
 .rename_i q;rw[if_pos q]at hl;exact h1 l hl k2
 .rename_i q;rw[if_neg q]at hl;rcases aa.1 hl with hl|hl
  .exact h1 l hl k2
  .unfold QU at hl;split at hl
   .rw[au.1 hl]at k2;cases k2
   .cases hl
def ZaM(h:PN C b L' X n)(Hh:∀l∈n.Zf,PJ C b l)(hX:X<5)(hC:(O C)<=100000)(hb:ZC b){l:Yn}(hl:l∈(step n).ls)(k2:l.ZH=2):Bg (step n).n:=by
 have hf:=(O3 h Hh hX hC hb hl (.inr k2)).1;rw[J8 h.up hf]at hl ⊢;rcases aa.1 hl with hl|hl
 .exact absurd k2 (WX _ _ l hl).2
 .exact ZaL (JQ (JT hX hC hb) n.Zf n h Hh).1.Yk hl k2
def Vr.acc(R:Vr S C b L' T w g M)(h0:∀X,X<5->RX c L X ((w 0).Zc X)){t:Nat}(hf:(w t).Zm=[])(hb:¬Bg ((w (t+1)).Zc L)):∀m∈Jq (w t),m.ZH≠2:=fun m hm k2=>by
 rcases QY.1 hm with q|⟨i,hi,q⟩
 .rw[hf]at q;cases q
 .have P:=R.at t;obtain⟨_,r,hr,_⟩:=O3 (P.nd i hi) (P.QD i hi) hi R.hC R.hb q (.inr k2);obtain⟨e,_⟩:=(R.one h0 t).1 i hi r hr;subst e;refine hb ?_;rw[R.nx,J7 _ i hi (P.nd i hi).up];exact ZaM (P.nd i hi) (P.QD i hi) hi R.hC R.hb q k2
def Vr.ZaN(R:Vr S C b L' T w g M)(hX:X<5):∀q t,t+q<=T->(∀u,t<=u->u<=t+q->Ask Ko ((w u).Zc X) ((w u).Zc X).Zf/\∀r,((w u).Zc X).Zh=ba r->(r.b,-1)∈Ko)->me Ko ((w t).Zc X)<=q->∃u,t<=u/\u<=t+q/\WS ((w u).Zc X):=by
 intro q
 induction q with
 | zero=>
  intro t hT ha hq;refine⟨t,al _,al _,aw fun c=>?_⟩;have:=(R.LM mD hX (ha t mD mD).1 (ha t mD mD).2).2 c;omega
 | succ q ih=>
  intro t hT ha hq;by_cases c:WS ((w t).Zc X)
  .exact⟨t,al _,mD,c⟩
  .have:=(R.LM mD hX (ha t mD mD).1 (ha t mD mD).2).2 c;obtain⟨u,h1,h2,h3⟩:=ih (t+1) mD (fun u h1 h2=>ha u mD mD) mD;exact⟨u,mD,mD,h3⟩
def QA.ZhT(tr:QA S C b L T w g M)(h0:∀X,X<5->RX b L X ((w 0).Zc X))(hf:(w 0).Zm=[])(hz:∀X,X<5->∀l∈((w 0).Zc X).Zf,Zb c l)(hT:107<=T):∃t,t<=106/\Bg ((w t).Zc L):=by
 have R:=tr.rds;refine aw fun hn=>?_;have nb:∀t,t<=106->¬Bg ((w t).Zc L):=fun t ht q=>hn ⟨t,ht,q⟩;have fl:∀t,(w t).Zm=[]:=fun t=>by
  cases t with
  | zero=>exact hf
  | succ t=>exact R.TA t
 have hm:∀t,t<106->∀m∈Jq (w t),Zb b m/\m.ZH≠2:=fun t ht m hm=>⟨R.mC h0 (fl t) m hm,R.acc h0 (fl t) (nb (t+1) mD) m hm⟩
 have R2:Vr S C b L 105 w g M:=⟨R.hC,R.hb,R.nx,R.pw,fun t ht=>R.nf t mD,fun t ht=>R.ti t mD⟩
 have ask:∀X,X<5->∀t,84<=t->t<=106->Ask [(b,-1)] ((w t).Zc X) ((w t).Zc X).Zf/\∀r,((w t).Zc X).Zh=ba r->(r.b,-1)∈[(b,-1)]:=fun X hX t h1 h2=>by
  obtain⟨t',a1,a2,a3⟩:=R2.flush (Ko:=U0 c) (Z:=fun l=>Zb b l/\l.ZH≠2) (t0:=0) hX (fun t _ ht=>hm t mD) 83 0 (al _) (by have:=KB (U0 c) ((w 0).Zc X);rw[O0]at this;exact this) mD ⟨_,[],(bj _).symm,(fun l hl=>by cases hl),Zb.ask (fun l hl=>(R.pw.QD X hX l hl).li) (hz X hX)⟩;refine⟨fun l hl q _=>?_,fun r hr=>by rw[((R.one h0 t).1 X hX r hr).2];simp⟩;obtain⟨⟨z,_⟩,z2⟩:=R2.stay hX (t0:=t') (fun t _ ht=>hm t mD) a3 t mD mD l hl;have z0:l.ZH=0:=mD;unfold Vl;rw[if_pos z0,z z0];simp
 have ml:∀t X,me [(b,-1)] ((w t).Zc X)<=3:=fun t X=>KB [(b,-1)] _;have ZaN:∀t,84<=t->t<=103->∃u,t<=u/\u<=t+3/\WS ((w u).Zc L):=fun t h1 h2=>R.ZaN tr.hL 3 t mD (fun u q1 q2=>ask L tr.hL u mD mD) (ml t L)
 -- ZdX a free ZvX ZvR
 have go:∀u,u<=105->WS ((w u).Zc L)->∃d r,PN C b L L d/\d.Zp=bd/\Xt ((w u).Zc L) d/\(∀l∈(YH d).ls,l∈Jq (w u))/\(∃k,(w (u+1)).Zc L = { (YH d).n with Zf:=k })/\d.Zh=ba r/\(d.Zr.p=b->¬5<2*r.ZL.length):=fun u hu hf=>by
  obtain⟨d,hd,hp,K,hl,k,hk⟩:=tr.free tr.hL hf;obtain⟨r,hr,_⟩:=hd.Z5 rfl;refine⟨d,r,hd,hp,K,hl,⟨k,hk⟩,hr,fun ho hq=>nb (u+1) mD ⟨Xi d r,by rw[hk];exact (dp hd hp ho hr hq).1,(UI d r (hd.Yk r hr)).2⟩⟩
 -- its Zr promise
 have Zr:∀t,89<=t->t<=106->((w t).Zc L).Zr.p=b:=by
  obtain⟨u,u1,u2,u3⟩:=ZaN 84 (al _) mD;obtain⟨d,r,hd,hp,K,_,⟨k,hk⟩,hr,_⟩:=go u mD u3;have h2:∃t,t<=u+2/\((w t).Zc L).Zr.p=b:=by
   by_cases q:d.Zr.p=b
   .exact⟨u,mD,by rw[<-K.Zr];exact q⟩
   .rcases Zas hd hp q with q|⟨p,q1,q2⟩
    .exact absurd (show Full ((w (u+1)).Zc L) by rw[hk];exact q.dty (Xh hp hd.Yk).1) (R.nf _ mD L tr.hL)
    .have hp':((w (u+1)).Zc L).Zp=ba p:=by rw[hk];exact q1
     have P:=(R.at (u+1)).nd L tr.hL;refine⟨u+2,al _,?_⟩;rw[R.nx (u+1),J7 _ L tr.hL P.up];show (step ((w (u+1)).Zc L)).n.Zr.p=b;rw[show step ((w (u+1)).Zc L)=Yp (ZJ ((w (u+1)).Zc L)) p by unfold step;rw[if_pos P.up,hp'],Hq P hp',q2]
  obtain⟨t0,t1,t2⟩:=h2;exact fun t h1 h2=>tr.stays (T:=T) (Z:=fun t=>((w t).Zc L).Zr.p=b) (fun t ht h=>tr.Bu tr.hL h ht) t2 t mD mD
 -- iY ZmL of iY others
 obtain⟨u,u1,u2,u3⟩:=ZaN 89 mD mD;obtain⟨d,r,hd,hp,K,hl,⟨k,hk⟩,hr,hq⟩:=go u mD u3;have ho:d.Zr.p=b:=by rw[K.Zr];exact Zr u u1 mD
 have inr:∀X:Nat,∀t,t<=102->Bq (fun r=>Has r.ZL X) ((w t).Zc L)->Bq (fun r=>Has r.ZL X) ((w 102).Zc L):=fun X t ht h=>tr.stays (T:=T) (Z:=fun t=>Bq (fun r=>Has r.ZL X) ((w t).Zc L)) (fun t _ h=>tr.Bv (fun r r' k q=>k.ZL _ q) h) h 102 ht mD;have ZL:∀X:Nat,X<5->X≠L->Bq (fun r=>Has r.ZL X) ((w 102).Zc L):=fun X hX hXL=>by
  by_cases hP:Has r.ZL X
  .refine inr X (u+1) mD ?_;obtain⟨r',e,kp⟩:=mm hd hp hr;rw[hk];exact⟨r',e,kp.ZL _ hP⟩
  .have Hh:(⟨0,L,X,b,SC,[]⟩:Yn)∈((w (u+1)).Zc X).Zf:=by
    rw[R.nx];exact (RU hX ((R.at u).nd X hX).up).2 (.inr ⟨hl _ (rR hd hp ho hr (hq ho) hX hP),sW⟩)
   obtain⟨t1,a1,a2,a3⟩:=R.dl hX (Zaq (C:=C) (L:=L) (X:=X) tr.hb) 3 (u+1) (ml _ X) mD (.inr (.inr ⟨_,[],(bj _).symm,⟨_,Hh,rfl,rfl,rfl⟩,(ask X hX (u+1) mD mD).1⟩));rcases a3 with a3|a3
   .exact absurd a3 (R.nf t1 mD X hX)
   .have hs:=tr.comes (E:=Bq fun r=>Has r.ZL X) (F:=fun _=>False) tr.hL a3 fun m h=>h.2.2.2;rcases hs with hs|hs|hs
    .exact inr X (t1+1) mD hs
    .exact hs.elim
    .obtain⟨t2,b1,b2,b3⟩:=R.dl tr.hL (rM (C:=C) (b:=b) (L:=L) (X:=X) (G:=fun _=>False)) 3 (t1+1) (ml _ L) mD (.inr (.inr ⟨_,[],(bj _).symm,hs,(ask L tr.hL (t1+1) mD mD).1⟩));rcases b3 with b3|⟨_,_,b3⟩
     .exact inr X t2 mD b3
     .exact b3.elim
 obtain⟨u',v1,v2,v3⟩:=ZaN 102 mD mD;obtain⟨d',r',hd',hp',K',_,_,hr',hq'⟩:=go u' mD v3;refine hq' (by rw[K'.Zr];exact Zr u' mD mD) (rU tr.hL fun X hX hXL=>?_);obtain⟨r0,h1,h2⟩:=tr.stays (T:=T) (Z:=fun t=>Bq (fun r=>Has r.ZL X) ((w t).Zc L)) (fun t _ h=>tr.Bv (fun r r' k q=>k.ZL _ q) h) (ZL X hX hXL) u' v1 mD;obtain⟨r1,h3,h4⟩:=K'.on h1;rw[hr']at h3;rw[Option.some.inj h3];exact h4.k.ZL _ h2
end
section
variable {S:Cm->Prop} {C:List Cm} {b c:Yg} {L L' T X:Nat} {w:Nat->Wd} {g:Nat->Gh} {M:Nat->Nat->Yg} {Ko Ks:List (Yg × Int)} {n:Nd}
def ZaO:∀(k:List Yn) (n:Nd),Bg (Zy n k).n->Bg n:=by
 intro k
 induction k with
 | nil=>intro n h;exact h
 | cons l k ih=>
  intro n h;unfold Zy at h;split at h
  .exact h
  .obtain⟨r',hr,hb⟩:=ih _ h;rcases (Xy { n with Zf:=k } l).2 with K|⟨_,_,_,_,e⟩|⟨_,_,_,_,e⟩
   .obtain⟨r,h1,h2⟩:=K.back hr;exact⟨r,h1,by rw[<-h2.g];exact hb⟩
   .rw[e]at hr;exact⟨r',hr,hb⟩
   .rw[e]at hr;exact⟨r',hr,hb⟩
def Zd8(hu:n.up=true)(hf:¬WS n)(h:Bg (step n).n):Bg n:=by
 cases hp:n.Zp with
 | some p=>
  have e:step n=Yp (ZJ n) p:=by unfold step;rw[if_pos hu,hp]
  rw[e]at h
  cases p with
  | Q8 a to b' vs=>exact h
  | Wo a to v=>exact h
  | Zr a vs cur=>
   obtain⟨r',hr,hb⟩:=h;have hr:(if cur=true then n.Zh.map (fun r=>{ r with ZL:=ins r.ZL n.me vs }) else n.Zh)=ba r':=hr;split at hr
   .cases e:n.Zh with
    | none=>rw[e]at hr;cases hr
    | some r=>
     rw[e]at hr;obtain rfl:=Option.some.inj hr;exact⟨r,e,hb⟩
   .exact⟨r',hr,hb⟩
 | none=>
  have e:step n=Zy n n.Zf:=by
   unfold step;rw[if_pos hu,hp];simp only;rw[if_pos]
   cases z:(Zy n n.Zf).n.Zp with
   | none=>exact absurd ⟨hp,z⟩ hf
   | some p=>rfl
  rw[e]at h;exact ZaO _ _ h
def QA.Zd9(tr:QA S C b L T w g M){v:Nat}(h1:¬Bg ((w v).Zc L))(h2:Bg ((w (v+1)).Zc L)):WS ((w v).Zc L)/\((w (v+1)).Zc L).Zr.p=b/\∃d r,((w (v+1)).Zc L).Zh=ba (Xi d r)/\(Xi d r).YY=r.YY/\((w (v+1)).Zc L).Zi=d.Zi /\
  (∀(s:Nat) x (m:Nat),s<40->Yl (Xi d r).Yj s=ba x->Yl d.Zi s=bd->m<5->¬jO r s m->(⟨2,L,m,X2,QJ s b x,[]⟩:Yn)∈Jq (w v)) /\
  ∀l∈(step ((w v).Zc L)).ls,l.ZH=2->∃s:Nat,s<40/\l.v.Zs=s/\Has (Xi d r).Yj s/\Yl d.Zi s=bd:=by
 have P:=tr.at v;have PL:=P.nd L tr.hL;have er:=J7 (w v) L tr.hL PL.up;rw[<-tr.nx]at er;have hf:WS ((w v).Zc L):=aw fun q=>h1 (Zd8 PL.up q (by rw[er]at h2;exact h2));obtain⟨d,ed⟩:=ZP ((Zy ((w v).Zc L) ((w v).Zc L).Zf).n);have es:=J8 PL.up hf;rw[<-ed]at es;have hd:PN C b L L d:=by rw[ed];exact (JQ (JT tr.hL tr.hC tr.hb) _ _ PL (P.QD L tr.hL)).1
 have hp:d.Zp=bd:=by rw[ed];exact hf.2
 have K:Xt ((w v).Zc L) d:=by rw[ed];exact WT _ _ hf.2
 have hl:∀l∈(YH d).ls,l∈Jq (w v):=fun l q=>QY.2 (.inr ⟨L,tr.hL,by rw[es];exact aa.2 (.inr q)⟩);have hk:(w (v+1)).Zc L = { (YH d).n with Zf:=((w (v+1)).Zc L).Zf }:=by
  rw[es]at er;rw[er]
 obtain⟨r,hr,_⟩:=hd.Z5 rfl;have Vg:¬r.Xf=true:=fun q=>by
  obtain⟨r0,z1,z2⟩:=K.back hr;exact h1 ⟨r0,z1,by rw[<-z2.g];exact q⟩
 obtain⟨eb,e1⟩:=OZ hd hp hr;have hB:Bg (Jf d r).n:=by
  rw[hk]at h2;obtain⟨r',z1,z2⟩:=h2;have z1:(YH d).n.Zh=ba r':=z1;rw[LG.1,e1]at z1;exact⟨r',z1,z2⟩
 have no:∀m:Nd,m.Zh=ba r->¬Bg m:=fun m e ⟨r',z1,z2⟩=>by
  rw[e]at z1;obtain rfl:=Option.some.inj z1;exact Vg z2
 have hc:¬Zw d.Zr.p r.b:=fun q=>by
  refine no _ ?_ hB;unfold Jf;rw[if_pos q];split<;>exact hr
 have hq:5<2*r.ZL.length:=aw fun q=>by
  refine no _ ?_ hB;unfold Jf;rw[if_neg hc,if_pos q];exact hr
 have ho:d.Zr.p=b:=UV (by rw[<-eb];exact hc) hd.Zr;obtain⟨a1,a2⟩:=dp hd hp ho hr hq;have D:=(Xh hp hd.Yk).1;refine⟨hf,by rw[hk];show (YH d).n.Zr.p=b;rw[D.Zr];exact ho,d,r,by rw[hk];exact a1,(Rk d r).1,by rw[hk];exact D.Zi,fun s x m q1 q2 q3 q4 q5=>hl _ (a2 s x m q1 q2 q3 q4 q5),fun l hl k2=>?_⟩;rw[es]at hl;have h1:∀l∈(Z1 (Zo d)).ls,l.ZH=2->∃s:Nat,s<40/\l.v.Zs=s/\Has (Xi d r).Yj s/\Yl d.Zi s=bd:=fun l hl k2=>by
  rw[e1]at hl;unfold Jf at hl;rw[if_neg hc,if_neg (fun q=>q hq)]at hl;obtain⟨s,hs,hl⟩:=bx.1 hl;obtain⟨x,m,hx,hk,_,rfl⟩:=LH hl;exact⟨s,bf.1 hs,rfl,SA hx,hk⟩
 rcases aa.1 hl with hl|hl
 .exact absurd k2 (WX _ _ l (by rw[<-ed]at *;exact hl)).2
 .unfold YH at hl;split at hl
  .exact h1 l hl k2
  .rcases aa.1 hl with hl|hl
   .exact h1 l hl k2
   .unfold QU at hl;split at hl
    .rw[au.1 hl]at k2;cases k2
    .cases hl
def ZaP{P:Nat->Prop}(h0:¬P 0)(t:Nat):P t->∃v,v<t/\(∀u,u<=v->¬P u)/\P (v+1):=by
 induction t using Nat.strongRecOn with
 | _ t ih=>
  intro h;by_cases q:∃u,u<t/\P u
  .obtain⟨u,h1,h2⟩:=q;obtain⟨v,h3,h4⟩:=ih u h1 h2;exact⟨v,mD,h4⟩
  .cases t with
   | zero=>exact absurd h h0
   | succ t=>exact⟨t,mD,fun u hu p=>q ⟨u,mD,p⟩,h⟩
def QA.ZaQ(tr:QA S C b L T w g M){t:Nat}(ht:t<=T)(hX:X<5)(ho:((w t).Zc X).Zr.p=b){s:Int}{x:Cm}(hs:s ≠ -1)(hv:(g t).V X b s x):¬Pw (U6 ((w t).Zc X)) (b,s):=by
 have P:=(tr.at t).nd X hX;have N:=(tr.ti t ht).nd X hX;have A:=N.acc;rw[Yf P.up]at A;obtain⟨v,h1,h2,h3⟩:=A.all _ _ _ hv;have hb:v.b=b:=UV h3 (by rw[<-ho];exact P.YY v h1);have nu:¬Pw ((w t).Zc X).Zr (b,s):=fun u=>(u.2 hs).2 v h1 hb h2;unfold U6;split
 .rename_i p hp;have R:=N.Zp p hp
  cases p with
  | Q8 a to b' vs=>
   rw[show XW (.Q8 a to b' vs)=a from rfl,R.1];exact fun u=>nu (FM (UX R.2.2) _ u)
  | Wo a to y=>
   rw[show XW (.Wo a to y)=a from rfl,R.1];exact fun u=>nu (dA (UY R.2.1) P.YY _ u)
  | Zr a vs cur=>
   obtain⟨b',e,_,z,_⟩:=R;rw[show XW (.Zr a vs cur)=a from rfl,e];exact fun u=>nu (FM (UX z) _ u)
 .exact nu
def Vr.from(R:Vr S C b L' T w g M)(hX:X<5){t0:Nat}{l:Yn}:∀t,t0<=t->l∈((w t).Zc X).Zf->l∈((w t0).Zc X).Zf\/∃u,t0<=u/\u<t/\l∈Jq (w u):=by
 intro t
 induction t with
 | zero=>intro h hl;rw[show t0=0 by omega];exact .inl hl
 | succ t ih=>
  intro h hl;by_cases e:t0=t+1
  .rw[e];exact .inl hl
  .rcases R.box hX hl with q|q
   .exact (ih mD q).imp_right fun⟨u,a,b,c⟩=>⟨u,a,mD,c⟩
   .exact .inr ⟨t,mD,mD,q⟩
def Vr.busy(R:Vr S C b L' T w g M)(hX:X<5){a:Nat}(haT:a<=T)(hb:∀t,t<a->¬WS ((w t).Zc X))(ha:∀t,t<a->Ask Ko ((w t).Zc X) ((w t).Zc X).Zf)(hr:∀t,t<a->∀r,((w t).Zc X).Zh=ba r->(r.b,-1)∈Ko):∀t,t<=a->me Ko ((w t).Zc X)+t<=me Ko ((w 0).Zc X):=by
 intro t
 induction t with
 | zero=>intro _;omega
 | succ t ih=>
  intro ht;have h1:=ih mD;have h2:=(R.LM mD hX (ha t mD) (hr t mD)).2 (hb t mD);omega
def Zea{Ko:List (Yg × Int)}(hn:Ko.Nodup){a:Qo}{D:List (Yg × Int)}(hD:D.Nodup)(h:∀k∈D,k∈Ko/\¬Pw a k):mu Ko a+(O D)<=(O Ko):=by
 unfold mu;rw[<-a8];refine UW (bD.2 ⟨hn.filter _,hD,fun x hx y hy e=>?_⟩) fun x hx=>?_
 .have:=(aK.1 hx).2;rw[e]at this;exact (h y hy).2 (by simpa using this)
 .rcases aa.1 hx with hx|hx
  .exact (aK.1 hx).1
  .exact (h x hx).1
def IE(c:Yg){P:List Nat}(h:P.Nodup):(P.map fun (s:Nat)=>(c,(s:Int))).Nodup:=
 b4.2 (List.Pairwise.imp (α:=Nat) (R:=(· ≠ ·)) (fun {x y} h (e:((c,(x:Int)):Yg × Int)=(c,(y:Int)))=>h (by have:=congrArg cn e;simp only at this;omega)) h)
def QA.ZmM(tr:QA S C b L T w g M)(h0:∀X,X<5->RX b L X ((w 0).Zc X))(hf:(w 0).Zm=[])(hz:∀X,X<5->∀l∈((w 0).Zc X).Zf,Zb c l)(dO:¬Bg ((w 0).Zc L))(hT:200<=T):
  ∃a,a<=106/\Bg ((w a).Zc L)/\∀s:Nat,s<40->Bq (fun r=>Has r.Yj s) ((w a).Zc L)\/Has ((w a).Zc L).Zi s->Has ((w 194).Zc L).Zi s:=by
 classical
 have R:=tr.rds;obtain⟨t0,ht0,hb0⟩:=tr.ZhT h0 hf hz mD;obtain⟨v,hv,nb,v2⟩:=ZaP (P:=fun t=>Bg ((w t).Zc L)) dO t0 hb0;obtain⟨fL,oL,d,r,er,evt,ek,ZmN,conv⟩:=tr.Zd9 (nb v (al _)) v2;have fl:∀t,(w t).Zm=[]:=fun t=>by
  cases t with
  | zero=>exact hf
  | succ t=>exact R.TA t
 have one:=fun t=>(R.one h0 t).1;have hm:∀t,∀m∈Jq (w t),Zb b m:=fun t=>R.mC h0 (fl t);have xF:∀t,t<v->∀m∈Jq (w t),m.ZH≠2:=fun t ht=>R.acc h0 (fl t) (nb (t+1) mD)
 -- iY ZAZ of iY first ZiW
 obtain⟨P,hP⟩:∃P,P=(bc 40).filter fun (s:Nat)=>decide (Has (Xi d r).Yj (s:Int)/\Yl d.Zi (s:Int)=bd):=⟨_,rfl⟩
 have ZvY:∀s:Nat,s<40->Has (Xi d r).Yj (s:Int)->Yl d.Zi (s:Int)=bd->s∈P:=fun s h1 h2 h3=>by
  rw[hP];exact aK.2 ⟨bf.2 h1,decide_eq_true ⟨h2,h3⟩⟩
 have hPn:P.Nodup:=by rw[hP];exact List.nodup_range.filter _
 have ZIq:(O P)<=40:=by
  have:=bp (fun (s:Nat)=>decide (Has (Xi d r).Yj (s:Int)/\Yl d.Zi (s:Int)=bd)) (bc 40);rw[b5,<-hP]at this;exact this
 obtain⟨KP,hKP⟩:∃K:List (Yg × Int),K=(b,-1) :: P.map fun (s:Nat)=>(b,(s:Int)):=⟨_,rfl⟩
 have ZaR:(O KP)=(O P)+1:=by rw[hKP];simp
 -- ZdX is Z2 ZIr iY ZiY
 have ZhU:∀u,u<=v->∀m∈Jq (w u),m.ZH=0\/m.ZH=2->Vl m∈KP:=fun u hu m h q=>by
  have z:=hm u m h;by_cases k0:m.ZH=0
  .unfold Vl;rw[if_pos k0,z.1 k0,hKP];simp
  .have k2:m.ZH=2:=mD;have e:u=v:=by
    by_cases e:u=v
    .exact e
    .exact absurd k2 (xF u mD m h)
   subst e;rcases QY.1 h with y|⟨i,hi,y⟩
   .rw[fl u]at y;cases y
   .have Pu:=R.at u;obtain⟨_,ri,IJ,_⟩:=O3 (Pu.nd i hi) (Pu.QD i hi) hi R.hC R.hb y q;obtain⟨ei,_⟩:=one u i hi ri IJ;subst ei;obtain⟨s,h1,h2,h3,h4⟩:=conv m y k2;unfold Vl;rw[if_neg k0,z.2 k2,h2,hKP];exact bl _ (aU.2 ⟨s,ZvY s h1 h3 h4,rfl⟩)
 -- each ZvZ time
 have time:∀X,X<5->∃Kq q,Ask Kq ((w (v+1)).Zc X) ((w (v+1)).Zc X).Zf/\me Kq ((w (v+1)).Zc X)<=q/\v+1+q<=109+2*(O P):=fun X hX=>by
  by_cases j2:∃t,t<=v/\WS ((w t).Zc X)
  .obtain⟨t1,h1,h2⟩:=j2;refine⟨KP,_,fun l hl q _=>?_,KB KP _,by rw[ZaR];omega⟩;rcases R.from hX (t0:=t1+1) (v+1) mD hl with y|⟨u,_,hu,y⟩
   .exact ZhU t1 mD l (R.By hX h2 y) q
   .exact ZhU u mD l y q
  .have ask:∀t,t<=v+1->Ask (U0 c++KP) ((w t).Zc X) ((w t).Zc X).Zf:=fun t ht l hl q u=>by
    rcases R.from hX (t0:=0) t (b0 _) hl with y|⟨u,_,hu,y⟩
    .exact aa.2 (.inl (Zb.ask (n:=(w t).Zc X) (fun l hl=>(R.pw.QD X hX l hl).li) (hz X hX) l y q u))
    .exact aa.2 (.inr (ZhU u mD l y q))
   have bz:=R.busy (Ko:=U0 c++KP) hX (a:=v+1) mD (fun t ht q=>j2 ⟨t,mD,q⟩) (fun t ht=>ask t mD) (fun t ht ri IJ=>by
    rw[(one t X hX ri IJ).2,hKP];simp) (v+1) (al _)
   have ml:=KB (U0 c++KP) ((w 0).Zc X);rw[a8,O0,ZaR]at ml;exact⟨U0 c++KP,85+2*(O P)-(v+1),ask _ (al _),mD,mD⟩
 -- each Zaw is on its way in time
 have Zaw:∀(s:Nat) x,s<40->Yl (Xi d r).Yj (s:Int)=ba x->Yl d.Zi (s:Int)=bd->∀X,X<5->rX b L s x X (w (111+2*(O P))):=fun s x hs hx hk X hX=>by
  have may:Yu (QJ s b x):=tr.Zav (t:=v+1) mD hs ⟨_,er,hx⟩;have go:∀t,t<=111+2*(O P)->rX b L s x X (w t)->rX b L s x X (w (111+2*(O P))):=fun t ht h=>tr.stays (T:=T) (Z:=fun t=>rX b L s x X (w t)) (fun t _ h=>tr.ZhK h) h _ ht mD;by_cases hv:jO r s X
  .refine go (v+1) mD (.inl ⟨_,er,?_⟩);show Has ((Yl (Xi d r).YY (s:Int)).getD []) X;rw[evt];exact hv
  .have hl:=ZmN s x X hs hx hk hX hv;have Hh:(⟨2,L,X,X2,QJ s b x,[]⟩:Yn)∈((w (v+1)).Zc X).Zf:=by
    rw[R.nx];exact (RU hX ((R.at v).nd X hX).up).2 (.inr ⟨hl,sW⟩)
   obtain⟨Kq,q,h1,h2,h3⟩:=time X hX;obtain⟨t',a1,a2,a3⟩:=R.dl hX (rN (C:=C) (b:=b) (L:=L) (X:=X) may) q (v+1) h2 mD (.inr (.inr ⟨_,[],(bj _).symm,⟨_,Hh,rfl,rfl,rfl⟩,h1⟩));rcases a3 with a3|a3
   .exact absurd a3 (R.nf t' mD X hX)
   .exact go (t'+1) mD (tr.comes tr.hL a3 fun m h=>h.2.2.2)
 -- who leads has Zfb Zv0
 have oT:∀t,v+1<=t->t<=T->((w t).Zc L).Zr.p=b:=fun t h1 h2=>tr.stays (T:=T) (Z:=fun t=>((w t).Zc L).Zr.p=b) (fun t ht h=>tr.Bu tr.hL h ht) oL t h1 h2;have done:∀s∈P,¬Pw (U6 ((w (111+2*(O P))).Zc L)) (b,(s:Int)):=fun s hs=>by
  rw[hP]at hs;obtain⟨h1,h2⟩:=aK.1 hs;obtain⟨h3,h4⟩:=of_decide_eq_true h2;obtain⟨x,hx⟩:=WU h3;have hv:∃y,(g (111+2*(O P))).V L b s y:=by
   have TT:=tr.ti (111+2*(O P)) mD;rcases Zaw s x (bf.1 h1) hx h4 L tr.hL with⟨r',q1,q2⟩|q|⟨l,q1,q2,q3,q4,_⟩
   .have RRr:=(TT.nd L tr.hL).Zh r' q1;obtain⟨K,e1,e2⟩:∃K,Yl r'.YY (s:Int)=ba K/\Has K L:=by
     unfold jO at q2
     cases e:Yl r'.YY (s:Int) with
     | none=>rw[e]at q2;exact absurd rfl q2
     | some K=>rw[e]at q2;exact⟨K,rfl,q2⟩
    obtain⟨u,hu⟩:=WU e2;obtain⟨y,hy⟩:=RRr.YY s K L e1 hu;obtain⟨_,eb⟩:=one _ L tr.hL r' q1;rw[eb,cd]at hy;exact⟨y,hy⟩
   .exact q.elim
   .have:=(TT.QD L tr.hL l q1).Wo q2;rw[q3,q4,cd]at this;exact⟨_,this⟩
  obtain⟨y,hy⟩:=hv;exact tr.ZaQ mD tr.hL (oT _ mD mD) mD hy
 have pQ:me (U0 b) ((w (111+2*(O P))).Zc L)<=81-2*(O P):=by
  have dJ:(U0 b).Nodup:=by
   unfold U0;refine cg.2 ⟨fun h=>?_,IE b List.nodup_range⟩;obtain⟨s,_,e⟩:=aU.1 h;have:=congrArg cn e;simp only at this;omega
  have:=Zea (Ko:=U0 b) dJ (a:=U6 ((w (111+2*(O P))).Zc L)) (D:=KP) (by
   rw[hKP];refine cg.2 ⟨fun h=>?_,IE b hPn⟩;obtain⟨s,_,e⟩:=aU.1 h;have:=congrArg cn e;simp only at this;omega) (fun k hk=>by
   rw[hKP]at hk;rcases b8.1 hk with rfl|hk
   .refine⟨ca ..,fun u=>?_⟩;have hu:=u.1 rfl;have PL:=(R.at (111+2*(O P))).nd L tr.hL;have oo:=oT (111+2*(O P)) mD mD;unfold U6 at hu;split at hu
    .rename_i p hp;obtain⟨_,z2,_⟩:=PL.pnd p hp;rw[oo]at z2;exact z2 hu
    .rw[oo]at hu;exact YR _ hu
   .obtain⟨s,hs,rfl⟩:=aU.1 hk;have h40:s<40:=by rw[hP]at hs;exact bf.1 (aK.1 hs).1
    exact⟨KA mD,done s hs⟩)
  rw[O0,ZaR]at this;unfold me;split<;>omega
 have Zv1:Ask (U0 b) ((w (111+2*(O P))).Zc L) ((w (111+2*(O P))).Zc L).Zf:=by
  refine Zb.ask (fun l hl=>((R.at _).QD L tr.hL l hl).li) fun l hl=>?_;rcases R.from tr.hL (t0:=v+1) (111+2*(O P)) mD hl with y|⟨u,_,_,y⟩
  .exact hm v l (R.By tr.hL fL y)
  .exact hm u l y
 have Zeb:∀t s,t<=194->Has ((w t).Zc L).Zi s->Has ((w 194).Zc L).Zi s:=fun t s ht h=>tr.stays (T:=T) (Z:=fun t=>Has ((w t).Zc L).Zi s) (fun t _ h=>tr.Zau tr.hL h) h 194 ht mD;refine⟨v+1,mD,v2,fun s hs h=>?_⟩;by_cases hk:Has ((w (v+1)).Zc L).Zi (s:Int)
 .exact Zeb _ _ mD hk
 .obtain⟨r',e1,hp⟩:=h.resolve_right hk;rw[er]at e1;obtain rfl:=Option.some.inj e1;obtain⟨x,hx⟩:=WU hp;have dJ:Yl d.Zi (s:Int)=bd:=by
   rw[ek]at hk;unfold Has at hk
   simpa using hk
  have vt:∀X:Nat,X<5->Bq (fun r=>jO r s X) ((w 194).Zc L):=fun X hX=>by
   rcases Zaw s x hs hx dJ X hX with q|q|q
   .exact tr.stays (T:=T) (Z:=fun t=>Bq (fun r=>jO r s X) ((w t).Zc L)) (fun t _ h=>tr.Bv (fun r r' k h=>k.YY _ _ h) h) q 194 mD mD
   .exact q.elim
   .obtain⟨t',a1,a2,a3⟩:=R.dl tr.hL (dm (C:=C) (b:=b) (L:=L) (X:=X) (s:=(s:Int)) (x:=x) (G:=fun _=>False)) (81-2*(O P)) (111+2*(O P)) pQ mD (.inr (.inr ⟨_,[],(bj _).symm,q,Zv1⟩));rcases a3 with a3|⟨_,_,a3⟩
    .exact tr.stays (T:=T) (Z:=fun t=>Bq (fun r=>jO r s X) ((w t).Zc L)) (fun t _ h=>tr.Bv (fun r r' k h=>k.YY _ _ h) h) a3 194 mD mD
    .exact a3.elim
  obtain⟨r',e1,_⟩:=vt 0 mD;refine ((R.at 194).nd L tr.hL).vk r' e1 s (rT fun X hX _=>?_);obtain⟨r2,e2,h2⟩:=vt X hX;rw[e1]at e2;obtain rfl:=Option.some.inj e2;exact h2
end
section
variable {S:Cm->Prop} {C:List Cm} {b c:Yg} {L L' T X:Nat} {w:Nat->Wd} {g:Nat->Gh} {M:Nat->Nat->Yg} {u:Wd} {n:Nd}
def Tt(u:Wd)(L:Nat)(n:Nd)(X:Nat):(u.set L n).Zc X=if X=L then n else u.Zc X:=rfl
def Zec(P:PW C b L' u)(one:∀X,X<5->RX c L X (u.Zc X))(hL:L<5)(hr:1<=(YM (u.Zc L)).r/\(YM (u.Zc L)).r<=65536)(hb:Zw b (YM (u.Zc L))):
  PW C (YM (u.Zc L)) L (u.set L (lead (u.Zc L)))/\(∀X,X<5->RX (YM (u.Zc L)) L X ((u.set L (lead (u.Zc L))).Zc X))/\¬Bg ((u.set L (lead (u.Zc L))).Zc L)/\(∀X,X<5->Zw ((u.set L (lead (u.Zc L))).Zc X).Zr.p (YM (u.Zc L))) /\
  ZC (YM (u.Zc L))/\(YM (u.Zc L)).n=L/\∀X,((u.set L (lead (u.Zc L))).Zc X).Zf=(u.Zc X).Zf/\((u.set L (lead (u.Zc L))).Zc X).data=(u.Zc X).data/\((u.set L (lead (u.Zc L))).Zc X).up=(u.Zc X).up/\((u.set L (lead (u.Zc L))).Zc X).ZI=(u.Zc X).ZI:=by
 have hn:(YM (u.Zc L)).n=L:=by show (((u.Zc L).me:Nat):Int)=L;rw[(P.nd L hL).ni.me]
 have hm:ZC (YM (u.Zc L)):=⟨⟨mD,mD⟩,by rw[hn];omega⟩
 have el:lead (u.Zc L) = { u.Zc L with Zh:=ba ⟨YM (u.Zc L),[],false,[],[]⟩,Zp:=Xz (u.Zc L).Zp }:=by
  unfold lead;rw[if_neg];rintro (q|q)
  .rw[(P.nd L hL).up]at q;cases q
  .omega
 have nI:=(jt (P.nd L hL).ni).1;rw[el]at nI ⊢;generalize YM (u.Zc L)=B at *;have up1:∀x:Yg,¬Zw b x->¬Zw B x/\x≠B:=fun x h=>⟨fun q=>h (ZaG hb q),fun e=>h (by rw[e];exact hb)⟩
 have lt1:∀x:Yg,¬Zw b x->Zw x B:=fun x h=>UZ h hb;have st:∀p,Xz (u.Zc L).Zp=ba p->∃p0,(u.Zc L).Zp=ba p0/\XW p=XW p0:=fun p h=>by
  cases e:(u.Zc L).Zp with
  | none=>rw[e]at h;cases h
  | some p0=>
   rw[e]at h;refine⟨p0,rfl,?_⟩
   cases p0<;>cases h<;>rfl
 have no:∀X,X<5->X≠L->(u.Zc X).Zh=bd:=fun X hX e=>by
  cases q:(u.Zc X).Zh with
  | none=>rfl
  | some r=>exact absurd (one X hX r q).1 e
 refine⟨⟨fun X hX=>?_,fun l hl=>?_,fun X hX l hl=>?_⟩,fun X hX r hr=>?_,fun h=>?_,fun X hX=>?_,hm,hn,fun X=>?_⟩
 .rw[Tt];by_cases e:X=L
  .subst e;rw[if_pos rfl];have h:=P.nd X hX;refine⟨nI,h.up,(up1 _ h.Zr).1,h.YY,fun p hp=>?_,h.tape,fun q=>absurd rfl q,fun _=>⟨_,rfl,rfl⟩,fun r hr _ s=>?_,fun r hr=>?_,fun r hr s hs=>?_,h.BJ⟩
   .obtain⟨p0,h1,h2⟩:=st p hp;obtain⟨z1,z2,z3⟩:=h.pnd p0 h1;rw[h2];exact⟨(up1 _ z1).1,z2,z3⟩
   .rw[<-Option.some.inj hr];rfl
   .rw[<-Option.some.inj hr];exact hm
   .rw[<-Option.some.inj hr]at hs;have hs:5<2*([]:List (Int × Unit)).length:=hs;simp at hs
  .rw[if_neg e];have h:=P.nd X hX;exact⟨h.ni,h.up,(up1 _ h.Zr).1,h.YY,fun p hp=>⟨(up1 _ (h.pnd p hp).1).1,(h.pnd p hp).2⟩,h.tape,fun _ r hr=>(by rw[no X hX e]at hr;cases hr),fun q=>absurd q e,h.Yk,h.may,h.vk,h.BJ⟩
 .have h:=P.TA l hl;exact⟨h.li,fun e=>(up1 _ (h.Q8 e)).1,fun e=>(up1 _ (h.ask e)).1⟩
 .have hl:l∈(u.Zc X).Zf:=by
   rw[Tt]at hl;split at hl
   .rename_i e;rw[e];exact hl
   .exact hl
  have h:=P.QD X hX l hl;exact⟨h.li,fun e=>(up1 _ (h.Q8 e)).1,fun e=>(up1 _ (h.ask e)).1⟩
 .rw[Tt]at hr;split at hr
  .rename_i e;exact⟨e,by rw[<-Option.some.inj hr]⟩
  .rename_i e;rw[no X hX e]at hr;cases hr
 .rw[Tt,if_pos rfl]at h;obtain⟨r,h1,h2⟩:=h;rw[<-Option.some.inj h1]at h2
  cases h2
 .rw[Tt];split
  .rename_i e;subst e;exact lt1 _ (P.nd X hX).Zr
  .exact lt1 _ (P.nd X hX).Zr
 .rw[Tt];split
  .rename_i e;subst e;exact⟨rfl,rfl,rfl,rfl⟩
  .exact⟨rfl,rfl,rfl,rfl⟩
def QA.ZhV(tr:QA S C b L T w g M)(h0:∀X,X<5->RX b L X ((w 0).Zc X))(hf:(w 0).Zm=[])(hz:∀X,X<5->∀l∈((w 0).Zc X).Zf,Zb c l)(dO:¬Bg ((w 0).Zc L))(hT:200<=T)(Zcr:∀X,X<5->Zw ((w 0).Zc X).Zr.p b){m:Nat}(hm:m<=40)(hch:∀s:Nat,s<m->∃x,QX (g 0) (s:Int) x):m<=((w 194).Zc L).ZI.length:=by
 obtain⟨a,ha,⟨r,hr,hb⟩,hk⟩:=tr.ZmM h0 hf hz dO hT;have one:=(tr.rds.one h0 a).1 L tr.hL r hr;have Zi:∀s:Nat,s<m->Has ((w 194).Zc L).Zi (s:Int):=fun s hs=>by
  refine hk s mD ?_;refine aw fun q=>?_;have q1:Yl r.Yj (s:Int)=bd:=by
   cases e:Yl r.Yj (s:Int) with
   | none=>rfl
   | some x=>exact absurd (.inl ⟨r,hr,SA e⟩) q
  have q2:Yl ((w a).Zc L).Zi (s:Int)=bd:=by
   cases e:Yl ((w a).Zc L).Zi (s:Int) with
   | none=>rfl
   | some x=>exact absurd (.inr (SA e)) q
  have PL:=(tr.at a).nd L tr.hL;have hs2:((w a).Zc L).ZI.length<=s:=by
   refine aw fun z=>?_;have:=PL.ni.ZI s mD;rw[q2]at this;cases this
  have TT:=tr.ti a mD;obtain⟨Q,hQ,_,z2⟩:=((TT.nd L tr.hL).Zh r hr).free hb (s:Int) mD q1 q2;obtain⟨x,Q',b',hQ',hv⟩:=hch s hs;obtain⟨i,i1,i2⟩:=hQ.meet hQ';have hi:=hQ.2.1 i i1;have T0:=tr.ti 0 (b0 _);have IT:=T0.gi.Z5 _ _ _ _ (hv i i2);have Ni:=T0.nd i hi;rw[Ni.m,Yf ((tr.at 0).nd i hi).up]at IT;have hva:(g a).V i b' (s:Int) x:=tr.stays (T:=T) (Z:=fun t=>(g t).V i b' (s:Int) x) (fun t ht h=>tr.mv t ht _ _ _ _ h) (hv i i2) a (b0 _) mD;exact z2 i i1 b' x (by rw[one.2];exact UZ IT (Zcr i hi)) hva
 refine aw fun q=>?_;have PL:=(tr.at 194).nd L tr.hL;exact Zi _ mD PL.BJ
end
def Ww(hX:X<5):∀(k:Nat) (u:Wd),(u.Zc X).up=true->((YC k u).Zc X).up=true/\(u.Zc X).ZI.length<=((YC k u).Zc X).ZI.length:=by
 intro k
 induction k with
 | zero=>intro u hu;exact⟨hu,al _⟩
 | succ k ih=>
  intro u hu;obtain⟨h1,h2⟩:=ih u hu;have h3:=ZhG (YC k u) X hX h1;refine⟨h3,bk h2 ?_⟩;show _<=((DN (YC k u)).Zc X).ZI.length;rw[J7 _ X hX h1];obtain⟨_,_,e,he⟩:=OX ((YC k u).Zc X);show _<=(step ((YC k u).Zc X)).n.ZI.length;rw[he,a8];omega
def DS(u:Wd)(j:Nat):∀k,YC (j+k) u=YC k (YC j u):=by
 intro k
 induction k with
 | zero=>rfl
 | succ k ih=>show DN (YC (j+k) u)=DN (YC k (YC j u));rw[ih]
def Sf(f:Nat->Nd->Nd)(u:Wd):Wd:=(bc 5).foldl (fun v i=>v.set i (f i (v.Zc i))) u
def FQ(f:Nat->Nd->Nd)(u:Wd):(Sf f u).Zm=u.Zm/\∀X,X<5->(Sf f u).Zc X=f X (u.Zc X):=by
 refine⟨rfl,fun X hX=>?_⟩
 match X,hX with
 | 0,_=>rfl
 | 1,_=>rfl
 | 2,_=>rfl
 | 3,_=>rfl
 | 4,_=>rfl
def Vm(keep:Int)(n:Nat):Raw:=⟨8,n,0,keep,[]⟩
def Z8(keep:Int)(k:Nat):List Raw:=(bc k).map (Vm keep)
def Rm(u:Wd)(keep:Int)(n:Nat):act u (Vm keep n).ac=u.set n (Yo n (u.Zc n) keep):=by
 unfold act Vm Raw.ac;simp
def Ro(u:Wd)(n:Nat):act u (J4 n).ac=u.set n (started n (u.Zc n)):=by
 unfold act J4 Raw.ac;simp
def Ox(A:List Raw)(keep:Int):JC (A++Z8 keep 5)=Sf (fun i n=>Yo i n keep) (JC A):=by
 rw[Se];show act (act (act (act (act (JC A) (Vm keep 0).ac) (Vm keep 1).ac) (Vm keep 2).ac) (Vm keep 3).ac) (Vm keep 4).ac=_;rw[Rm,Rm,Rm,Rm,Rm];rfl
def IF(A:List Raw):JC (A++YX 5)=Sf started (JC A):=by
 rw[Se];show act (act (act (act (act (JC A) (J4 0).ac) (J4 1).ac) (J4 2).ac) (J4 3).ac) (J4 4).ac=_;rw[Ro,Ro,Ro,Ro,Ro];rfl
def Pq(l:List Raw):Nat:=(l.filter fun x=>decide (cV x.k)).length
def jZ(l:List Raw):manyN l (O l)=100+20*Pq l:=by
 have h:∀i,i<=(O l)->manyN l i=100+20*Pq (l.take i):=by
  intro i
  induction i with
  | zero=>intro _;rfl
  | succ i ih=>
   intro hi;have ZV:i<(O l):=mD;have ih:=ih mD;unfold manyN;rw[cf ZV];simp only;unfold Pq at ih ⊢;rw[Y0 _ i ZV,bo,a8];by_cases q:cV l[i].k
   .rw[if_pos q,ih,am (by simpa using q)];simp only[ck,b7];omega
   .rw[if_neg q,ih,a7 (by simpa using q)];simp only[ck,List.length_nil];omega
 have:=h (O l) (al _);rw[List.take_length]at this;exact this
def ZaS(l k:List Raw):Pq (l++k)=Pq l+Pq k:=by unfold Pq;rw[bo,a8]
def IG(l:List Raw)(n:Nat):X3 l n=To (To l n (100+20*Pq l)) n (100+20*Pq l):=by
 unfold X3;rw[jZ];unfold Vk Vk Vk;rfl
def sE(A:List Raw):RW (A.map Raw.ac)+leads (A.map Raw.ac)<=Pq A:=by
 induction A with
 | nil=>exact al _
 | cons x A ih=>
  unfold RW leads Pq at ih ⊢;rw[bw,bR,bR];by_cases h1:x.k=1
  .rw[am (by rw[h1];decide),if_pos (by show decide (x.k=1)=true;simpa using h1),if_neg (by show ¬decide (x.k=2)=true;rw[h1];decide),a0];omega
  .rw[if_neg (by show ¬decide (x.k=1)=true;simpa using h1)];by_cases h2:x.k=2
   .rw[am (by rw[h2];decide),if_pos (by show decide (x.k=2)=true;simpa using h2),a0];omega
   .rw[if_neg (by show ¬decide (x.k=2)=true;simpa using h2)];by_cases h3:cV x.k
    .rw[am (by simpa using h3),a0];omega
    .rw[a7 (by simpa using h3)];omega
def Zed(p:Nat->Yg):∀n,∃X,X<n+1/\∀Y,Y<n+1->¬Zw (p X) (p Y):=by
 intro n
 induction n with
 | zero=>exact⟨0,mD,fun Y h=>by rw[show Y=0 by omega];exact YR _⟩
 | succ n ih=>
  obtain⟨X,h1,h2⟩:=ih;by_cases c:Zw (p X) (p (n+1))
  .refine⟨n+1,mD,fun Y h=>?_⟩;by_cases e:Y=n+1
   .rw[e];exact YR _
   .exact fun q=>h2 Y mD (ZaG c q)
  .refine⟨X,mD,fun Y h=>?_⟩;by_cases e:Y=n+1
   .rw[e];exact c
   .exact h2 Y mD
def DT(u:Wd)(keep:Int)(hX:X<5):∃d z a,(Sf started (Sf (fun i n=>Yo i n keep) u)).Zc X=Yk X true d z a:=by
 rw[(FQ _ _).2 X hX,(FQ _ _).2 X hX];have hd:(Yo X (u.Zc X) keep).up=false:=by
  cases hu:(u.Zc X).up with
  | true=>
   obtain⟨d,z,e⟩:=Wz X (u.Zc X) keep hu;rw[e];rfl
  | false=>
   unfold Yo;rw[if_neg (by rw[hu];decide)];exact hu
 unfold started;rw[if_neg (by rw[hd];decide)];exact⟨_,_,_,rfl⟩
def j0{L:Nat}{d:List Nat}{z:Int}{a:Qo}(h0:0<=a.p.r)(h:a.p.r<=60000):lead (Yk L true d z a) = { Yk L true d z a with Zh:=ba ⟨⟨a.p.r+1,L⟩,[],false,[],[]⟩ }:=by
 have e:YM (Yk L true d z a)=⟨a.p.r+1,L⟩:=by
  unfold YM Yk X2;simp only;rw[Int.max_eq_left h0]
 unfold lead;rw[e,if_neg]
 .rfl
 .rintro (q|q)
  .cases q
  .simp only at q;omega
structure ZhW(L:Nat)(c:Yg)(u:Wd):Prop where
 up:∀X,X<5->(u.Zc X).up=true
 box:∀X,X<5->(u.Zc X).Zf=[]
 Zp:∀X,X<5->(u.Zc X).Zp=bd
 Yw:∀X,X<5->(u.Zc X).Yw=0
 Zi:∀X,X<5->(u.Zc X).Zi=[]/\(u.Zc X).ZI=[]
 one:∀X,X<5->∀r,(u.Zc X).Zh=ba r->X=L/\r=⟨c,[],false,[],[]⟩
 mq:(u.Zc L).Zh=ba ⟨c,[],false,[],[]⟩
 n:c.n=L
 low:c.r=(u.Zc L).Zr.p.r+1
def Zee(A:List Raw)(keep:Int){L:Nat}(hL:L<5)(hr:0<=((JC ((A++Z8 keep 5)++YX 5)).Zc L).Zr.p.r/\((JC ((A++Z8 keep 5)++YX 5)).Zc L).Zr.p.r<=60000):∃c,ZhW L c (act (JC ((A++Z8 keep 5)++YX 5)) (QK L).ac)/\(act (JC ((A++Z8 keep 5)++YX 5)) (QK L).ac).Zm=(JC A).Zm:=by
 have ew:JC ((A++Z8 keep 5)++YX 5)=Sf started (Sf (fun i n=>Yo i n keep) (JC A)):=by rw[IF,Ox]
 have e:act (JC ((A++Z8 keep 5)++YX 5)) (QK L).ac=(JC ((A++Z8 keep 5)++YX 5)).set L (lead ((JC ((A++Z8 keep 5)++YX 5)).Zc L)):=by
  unfold act QK Raw.ac;simp
 rw[e];rw[ew]at hr ⊢;have hb:∀X,X<5->∃d z a,(Sf started (Sf (fun i n=>Yo i n keep) (JC A))).Zc X=Yk X true d z a:=fun X hX=>DT (JC A) keep hX;have hf:(Sf started (Sf (fun i n=>Yo i n keep) (JC A))).Zm=(JC A).Zm:=rfl;generalize Sf started (Sf (fun i n=>Yo i n keep) (JC A))=u at *;obtain⟨d,z,a,eL⟩:=hb L hL;rw[eL]at hr ⊢;rw[j0 (a:=a) hr.1 hr.2];have hX:∀(P:Nat->Nd->Prop),(∀X d z a,X≠L->P X (Yk X true d z a))->P L { Yk L true d z a with Zh:=ba ⟨⟨a.p.r+1,L⟩,[],false,[],[]⟩ }->∀X,X<5->P X ((u.set L { Yk L true d z a with Zh:=ba ⟨⟨a.p.r+1,L⟩,[],false,[],[]⟩ }).Zc X):=fun P h1 h2 X h=>by
  rw[Tt];by_cases e:X=L
  .rw[if_pos e,e];exact h2
  .rw[if_neg e];obtain⟨d',z',a',e'⟩:=hb X h;rw[e'];exact h1 X _ _ _ e
 refine⟨⟨a.p.r+1,L⟩,⟨hX (fun _ n=>n.up=true) (fun _ _ _ _ _=>rfl) rfl,hX (fun _ n=>n.Zf=[]) (fun _ _ _ _ _=>rfl) rfl,hX (fun _ n=>n.Zp=bd) (fun _ _ _ _ _=>rfl) rfl,hX (fun _ n=>n.Yw=0) (fun _ _ _ _ _=>rfl) rfl,hX (fun _ n=>n.Zi=[]/\n.ZI=[]) (fun _ _ _ _ _=>⟨rfl,rfl⟩) ⟨rfl,rfl⟩,hX (fun X n=>∀r,n.Zh=ba r->X=L/\r=⟨⟨a.p.r+1,L⟩,[],false,[],[]⟩) (fun _ _ _ _ _ r h=>by cases h) (fun r h=>⟨rfl,(Option.some.inj h).symm⟩),?_,rfl,?_⟩,hf⟩
 .rw[Tt,if_pos rfl]
 .rw[Tt,if_pos rfl];rfl
section
variable {S:Cm->Prop} {C:List Cm} {b c:Yg} {L L':Nat} {u:Wd} {g:Gh} {M:Nat->Yg}
def ZhW.pw(h:ZhW L c u){k:Nat}(I:WI C k u)(T:TI S g M u)(hc:ZC c)(ho:∀X,X<5->¬Zw b (u.Zc X).Zr.p)(hj:∀l∈u.Zm,(l.ZH=0->¬Zw b l.b)/\(l.ZH=2->¬Zw b l.v.b))(h1:L'≠L->Zw c b)(h2:L'<5->L'=L/\c=b):PW C b L' u:=by
 refine⟨fun X hX=>?_,fun l hl=>⟨I.TA l hl,(hj l hl).1,(hj l hl).2⟩,fun X hX l hl=>(by rw[h.box X hX]at hl;cases hl)⟩;have N:=T.nd X hX;have up:=h.up X hX;have pe:=h.Zp X hX;have A:=N.acc;have hm:=N.m;rw[Yf up]at A hm;have ht:=(N.tape.idle up pe).2;refine⟨I.nd X hX,up,ho X hX,fun v hv=>?_,fun p hp=>(by rw[pe]at hp;cases hp),⟨mD,mD⟩,fun e r hr=>?_,fun e=>?_,fun r hr _ s=>?_,fun r hr=>?_,fun r hr s hs=>?_,by rw[(h.Zi X hX).1];rfl⟩
 .rw[<-hm];exact T.gi.Z5 _ _ _ _ (A.has v hv)
 .obtain⟨z1,z2⟩:=h.one X hX r hr;rw[z2];exact h1 fun q=>e (by rw[z1,q])
 .obtain⟨z1,z2⟩:=h2 mD;rw[e,z1];exact⟨_,h.mq,z2⟩
 .rw[(h.one X hX r hr).2];rfl
 .rw[(h.one X hX r hr).2];exact hc
 .rw[(h.one X hX r hr).2]at hs;have hs:5<2*([]:List (Int × Unit)).length:=hs;simp at hs
end
def Zef{C:List Cm}{v:Vw}{n:Nd}(V:NV C v X n)(kr:∀b∈v.K,(1<=b.r/\b.r<=v.K.length)/\0<=b.n/\b.n<5)(hu:n.up=true):1<=(YM n).r/\(YM n).r<=v.K.length+1/\n.Ye.r<(YM n).r/\∀r,n.Zh=ba r->r.b.r<(YM n).r:=by
 have k1:=K0.r kr V.k0.1;have k2:=K0.r kr V.k0.2;rw[Yf hu]at k1;unfold YM;simp only;split
 .rename_i r hr;have:=kr _ (V.Zh r hr).mq;refine⟨mD,mD,mD,fun r' h=>?_⟩;rw[hr]at h;rw[<-Option.some.inj h];omega
 .rename_i hr;refine⟨mD,mD,mD,fun r' h=>?_⟩;rw[hr]at h;cases h
def Zeg(hX:X<5):∀N,((J6 N).map Raw.ac).countP (fun a=>Wr a X)=N:=by
 have h1:(Vj.map Raw.ac).countP (fun a=>Wr a X)=1:=by
  match X,hX with
  | 0,_=>decide
  | 1,_=>decide
  | 2,_=>decide
  | 3,_=>decide
  | 4,_=>decide
 intro N
 induction N with
 | zero=>rfl
 | succ N ih=>rw[RT,bA,List.countP_append,ih,h1]
def dE(n:Nd):(lead n).ZI=n.ZI/\(lead n).up=n.up:=by unfold lead;split<;>exact⟨rfl,rfl⟩
def sF{A:List Raw}(hA:∀x∈A,x.err=0)(hl:(O A)<=100)(vX:∀x∈A,x.k=4\/x.k=5\/x.k=6->x.a.toNat<20)(h6:RW (A.map Raw.ac)<=6){keep:Int}(hce:∀n,n<5->(Vm keep n).err=0){L:Nat}(hL:L<5){Y:Nat}(hY:Y<5):
  ∃Z,Z<5/\((JC A).Zc Y).ZI.length<=((JC (X3 (A++Z8 keep 5) L)).Zc Z).ZI.length:=by
 obtain⟨N,hN⟩:=ZP (100+20*Pq (A++Z8 keep 5));rw[IG,<-hN];obtain⟨R1,hR1⟩:=ZP (Z8 keep 5++YX 5);have ZhX:∀x∈R1++[QK L],x.err=0/\(x.k=8\/x.k=9\/x.k=2):=fun x hx=>by
  rw[hR1]at hx;rcases aa.1 hx with hx|hx
  .rcases aa.1 hx with hx|hx
   .obtain⟨n,hn,rfl⟩:=aU.1 hx;exact⟨hce n (bf.1 hn),.inl rfl⟩
   .obtain⟨n,hn,rfl⟩:=Mn hx;exact⟨DM.1 n hn,.inr (.inl rfl)⟩
  .rw[au.1 hx];exact⟨mi hL,.inr (.inr rfl)⟩
 have ZaT:(O R1)=10:=by rw[hR1];simp[Z8,YX]
 have hB:∀x∈A++(R1++[QK L]),x.err=0:=fun x hx=>(aa.1 hx).elim (hA x) fun h=>(ZhX x h).1;obtain⟨S,hSd⟩:=ZP (ZvW (A++(R1++[QK L])));obtain⟨C',hC'⟩:∃C',C'=Ti [] :: (A++(R1++[QK L])).map fun x=>Ti x.data:=⟨_,rfl⟩
 obtain⟨Cs,hCs⟩:∃Cs,Cs=(A.filter fun x=>decide (x.k=1)).map fun x=>J2 x.data 0:=⟨_,rfl⟩
 have hC:(O C')<=100000:=by rw[hC',a0,a9,a8,a8,ZaT,b7];omega
 have Ca:Ti []∈C':=by rw[hC'];simp
 have ok:∀a∈(A++(R1++[QK L])).map Raw.ac,cI S C' a:=fun a ha=>by
  obtain⟨h1,h2,h3⟩:=ZhE hB (S:=S) (fun z hz hk now h=>by
   obtain⟨q1,q2⟩:=cR h (now:=0) mD mD;rw[hSd];exact⟨z,hz,hk,q1,q2.symm⟩) a ha
  exact⟨⟨h1.1,by rw[hC'];exact bl _ h1.2⟩,h2,h3⟩
 have okA:∀a∈A.map Raw.ac,Zd5 S C' a:=fun a ha=>by
  refine⟨ok a (by rw[bA];exact aa.2 (.inl ha)),fun q=>?_⟩;obtain⟨x,hx,rfl⟩:=aU.1 ha;exact vX x hx q
 have okR:∀a∈(R1++[QK L]).map Raw.ac,Zd5 S C' a:=fun a ha=>by
  refine⟨ok a (by rw[bA];exact aa.2 (.inr ha)),fun q=>?_⟩;obtain⟨x,hx,rfl⟩:=aU.1 ha;have h1:=(ZhX x hx).2;have q:x.k=4\/x.k=5\/x.k=6:=q;omega
 have okM:∀a∈(J6 N).map Raw.ac,Zd5 S C' a:=fun a ha=>by
  obtain⟨x,hx,rfl⟩:=aU.1 ha;have hr:x∈Vj:=by
   unfold J6 at hx;obtain⟨l,h1,h2⟩:=List.mem_flatten.1 hx;rw[(List.mem_replicate.1 h1).2]at h2;exact h2
  refine⟨dx Ca _ (aU.2 ⟨x,hr,rfl⟩),fun q=>?_⟩;have q:x.k=4\/x.k=5\/x.k=6:=q;rcases Fw hx with⟨n,_,rfl⟩|rfl
  .have:(UH n).k=3:=rfl;omega
  .have:Kv.k=7:=rfl;omega
 have hS:∀x,S x->x.err=0:=fun x h=>by
  rw[hSd]at h;obtain⟨a,_,_,q,rfl⟩:=h;exact ZdP q
 have hSC:∀x,S x->x∈Cs:=fun x h=>by
  rw[hSd]at h;obtain⟨a,ha,hk,_,rfl⟩:=h;rw[hCs];rcases aa.1 ha with ha|ha
  .exact aU.2 ⟨a,aK.2 ⟨ha,by simpa using hk⟩,rfl⟩
  .have:=(ZhX a ha).2;omega
 have ZIw:(O Cs)=RW (A.map Raw.ac):=by
  rw[hCs,a9];unfold RW;rw[List.countP_map,List.countP_eq_length_filter];rfl
 -- iY script
 obtain⟨g1,M1,_,T1,W1⟩:=cJ hC (A.map Raw.ac) 0 Ud gh0 (fun _=>X2) (Om _) Fo fun a ha=>(okA a ha).1;have cl:∀(l:List Ac) X,l.countP (fun a=>Wr a X)<=(O l):=fun l X=>br;obtain⟨v1,V1,c1,k1,d1⟩:=mz hC hS hSC (A.map Raw.ac) 0 Ud gh0 (fun _=>X2) vw0 ZaF (Om _) Fo okA fun X _=>by
  have:=cl (A.map Raw.ac) X;rw[a9]at this;show 0+_<=_;omega
 have eA:(A.map Raw.ac).foldl act Ud=JC A:=rfl;rw[eA]at T1 W1 V1 d1;have d1':∀X,((JC A).Zc X).data.length<=3800:=fun X=>by
  have h1:=d1 X;have h2:=cl (A.map Raw.ac) X;rw[a9]at h2;have h3:(Ud.Zc X).data.length=0:=rfl;omega
 rw[a9]at c1;have v0c:vw0.cost=0:=rfl;have v0k:vw0.K.length=0:=rfl;have hld:leads (A.map Raw.ac)<=100:=by
  have:leads (A.map Raw.ac)<=(A.map Raw.ac).length:=br;rw[a9]at this;omega
 obtain⟨Ks,hKs,hK1,hK2⟩:=jV V1 mD mD;have dO:=sE A;have hNN:N=100+20*(Pq A+5):=by rw[hN,ZaS];rfl
 have yh:Pq A<=100:=by
  have:Pq A<=(O A):=bp ..;omega
 -- Zmd and start
 have eR:∀l:List Raw,JC (A++l)=(l.map Raw.ac).foldl act (JC A):=fun l=>Se A l;obtain⟨g2,M2,m2,T2,W2⟩:=cJ hC ((R1++[QK L]).map Raw.ac) _ (JC A) g1 M1 W1 T1 fun a ha=>(okR a ha).1;have dR:∀(l:List Raw),(O l)<=11->∀X,X<5->((JC A).Zc X).data.length+38*(l.map Raw.ac).countP (fun a=>Wr a X)<=4218:=fun l h X _=>by
  have h1:=d1' X;have h2:=cl (l.map Raw.ac) X;rw[a9]at h2;omega
 obtain⟨v2,V2,_,k2,_⟩:=mz hC hS hSC (R1.map Raw.ac) _ (JC A) g1 M1 v1 V1 W1 T1 (fun a ha=>okR a (by rw[bA];exact aa.2 (.inl ha))) fun X hX=>by have:=dR R1 mD X hX;omega
 obtain⟨v3,V3,_,k3,d3⟩:=mz hC hS hSC ((R1++[QK L]).map Raw.ac) _ (JC A) g1 M1 v1 V1 W1 T1 okR fun X hX=>by
  have:=dR (R1++[QK L]) (by rw[a8,ZaT];simp) X hX;omega
 have k2':v2.K.length<=110:=by
  have:leads (R1.map Raw.ac)<=(R1.map Raw.ac).length:=br;rw[a9,ZaT]at this;omega
 have k3':v3.K.length<=111:=by
  have:leads ((R1++[QK L]).map Raw.ac)<=((R1++[QK L]).map Raw.ac).length:=br;rw[a9,a8,ZaT,b7]at this;omega
 have d3':∀X,X<5->(((R1++[QK L]).map Raw.ac).foldl act (JC A) |>.Zc X).data.length<=4218:=fun X hX=>bk (d3 X) (dR (R1++[QK L]) (by rw[a8,ZaT];simp) X hX);have e1:JC ((A++Z8 keep 5)++YX 5)=(R1.map Raw.ac).foldl act (JC A):=by rw[bn,<-hR1,eR]
 have e0:act (JC ((A++Z8 keep 5)++YX 5)) (QK L).ac=((R1++[QK L]).map Raw.ac).foldl act (JC A):=by
  rw[e1,bA,List.foldl_append];rfl
 obtain⟨c,an,pG⟩:=Zee A keep hL (by
  rw[e1];have up:(((R1.map Raw.ac).foldl act (JC A)).Zc L).up=true:=by
   rw[<-e1,IF,Ox];obtain⟨d,z,a,e⟩:=DT (JC A) keep hL;rw[e];rfl
  have:=K0.r V2.kr (V2.nd L hL).k0.1;rw[Yf up]at this;omega)
 rw[e0]at an pG;obtain⟨u,hu⟩:=ZP (((R1++[QK L]).map Raw.ac).foldl act (JC A));rw[<-hu]at an pG T2 W2 V3 d3';have hup:=an.up;have hc:ZC c:=by
  have:=K0.r V3.kr (V3.nd L hL).k0.1;rw[Yf (hup L hL)]at this;have e1:=an.low;have e2:=an.n;exact⟨⟨mD,mD⟩,mD⟩
 have X1:∀X,X<5->RX c L X (u.Zc X):=fun X hX r hr=>by
  obtain⟨z1,z2⟩:=an.one X hX r hr;exact⟨z1,by rw[z2]⟩
 have hF:∀l∈u.Zm,l.ZH=0\/l.ZH=2->Vl l∈Ks:=fun l hl q=>by
  rw[pG]at hl;have LL:=V1.TA l hl;unfold Vl;rcases q with q|q
  .rw[if_pos q];exact hK1 _ (LL.pre q)
  .rw[if_neg mD];exact hK2 _ (LL.ask q)
 -- iY ZmP Zv7
 obtain⟨H,hH5,hH⟩:=Zed (fun X=>(u.Zc X).Zr.p) 4;have aX:∀X,X<5->YD (u.Zc X)=(u.Zc X).Zr:=fun X hX=>Yf (hup X hX);obtain⟨B,hBd⟩:=ZP ((u.Zc H).Zr.p);have hBX:∀X,X<5->¬Zw B (u.Zc X).Zr.p:=fun X hX=>by rw[hBd];exact hH X hX
 have nd5:∀b,b∈v3.K->∃Z:Nat,Z<5/\b.n=Z:=fun b hb=>by
  obtain⟨_,z1,z2⟩:=V3.kr b hb;exact⟨b.n.toNat,mD,mD⟩
 have hj:∀l∈u.Zm,(l.ZH=0->¬Zw B l.b)/\(l.ZH=2->¬Zw B l.v.b):=fun l hl=>by
  have LL:=V3.TA l hl;refine⟨fun q=>?_,fun q=>?_⟩
  .obtain⟨Z,z1,z2⟩:=nd5 _ (LL.pre q);have:=V3.aF l hl q Z z1 z2;rw[aX Z z1]at this;exact Xs this (hBX Z z1)
  .obtain⟨_,_,i,hi,_⟩:=LL.ask q;have hb:l.v.b∈v3.B:=List.mem_iff_getElem?.2 ⟨i,hi⟩;obtain⟨Z,z1,z2⟩:=nd5 _ (V3.bg _ hb).1;have:=(V3.nd Z z1).Zr _ hb z2;rw[aX Z z1]at this;exact Xs this (hBX Z z1)
 -- iY first Zh
 obtain⟨g,M,hg0,hTI,hmv,k4,W4⟩:=Zaz hC Ca W2 T2 N;have mkR:∀b L',ZC b->PW C' b L' u->Vr S C' b L' N (fun t=>YC t u) g M:=fun b L' hb pw=>⟨hC,hb,fun t=>rfl,pw,fun t ht X hX hf=>by
  have:=Mt hC hb pw hX (d3' X hX) t;unfold Full at hf;omega,hTI⟩
 obtain⟨v4,V4,_,k4',_⟩:=mz hC hS hSC ((J6 N).map Raw.ac) _ u g2 M2 v3 V3 W2 T2 okM fun X hX=>by
  rw[Zeg hX];have:=d3' X hX;omega
 have eM:((J6 N).map Raw.ac).foldl act u=YC N u:=by
  have h:=FB (A++(R1++[QK L])) N;rw[Se,eR,<-hu]at h;exact h
 rw[eM]at V4;have k5:v4.K.length<=60000:=by
  have:leads ((J6 N).map Raw.ac)<=((J6 N).map Raw.ac).length:=br;rw[a9,Kz]at this;omega
 have upN:∀X,X<5->((YC N u).Zc X).up=true:=fun X hX=>(Ww hX N u (hup X hX)).1;obtain⟨lb1,lb2,lb3,lb4⟩:=Zef (V4.nd L hL) V4.kr (upN L hL);have eL2:act (YC N u) (QK L).ac=(YC N u).set L (lead ((YC N u).Zc L)):=by
  unfold act QK Raw.ac;simp
 have up2:∀X,X<5->(((YC N u).set L (lead ((YC N u).Zc L))).Zc X).up=true:=fun X hX=>by
  rw[Tt];split
  .rw[(dE _).2];exact upN L hL
  .exact upN X hX
 -- iY whole of iY rounds
 have w1:JC (To (A++Z8 keep 5) L N)=YC N u:=by
  have ea:JM (A++Z8 keep 5) 0=(A++Z8 keep 5)++YX 5:=by
   unfold JM;rw[show J6 0=[] from rfl,bj]
  have eb:JC (JM (A++Z8 keep 5) 0++[QK L])=u:=by
   rw[Se,ea,hu,<-e0];rfl
  unfold To;show JC ((JM (A++Z8 keep 5) 0++[QK L])++YX 5++J6 N)=_;rw[FB,Mp _ (fun i hi=>by rw[eb];exact hup i hi),eb]
 have w2:JC (To (To (A++Z8 keep 5) L N) L N)=YC N ((YC N u).set L (lead ((YC N u).Zc L))):=by
  rw[jW _ L N (fun i hi=>by rw[w1];exact upN i hi) (fun i hi=>by rw[w1,eL2];exact up2 i hi),w1,eL2]
 rw[w2];have m40:((JC A).Zc Y).ZI.length<=40:=(W1.nd Y hY).Kr
 -- ZdX iY first Zh leaves
 have main:(∃b L',PW C' b L' (YC N u)/\Zw b (YM ((YC N u).Zc L))/\∃R:Vr S C' b L' N (fun t=>YC t u) g M,True)\/∃t Z,t<=N/\Z<5/\40<=((YC t u).Zc Z).ZI.length:=by
  by_cases q:Zw B c
  .have pw:PW C' c L u:=an.pw W2 T2 hc (fun X hX=>Tj (UZ (hBX X hX) q)) (fun l hl=>⟨fun k=>Tj (UZ ((hj l hl).1 k) q),fun k=>Tj (UZ ((hj l hl).2 k) q)⟩) (fun e=>absurd rfl e) fun _=>⟨rfl,rfl⟩
   have R:=mkR c L hc pw;refine .inl ⟨c,L,R.at N,?_,R,trivial⟩;obtain⟨r,hr,er⟩:=((R.at N).nd L hL).Z5 rfl;have:=lb4 r hr;rw[er]at this;exact .inl this
  .have Xb:B≠c:=fun e=>by
    have hs:=(V3.sN H hH5).1 L hL;rw[aX H hH5,<-hBd,aX L hL,e]at hs;have:=hs an.n;have low:=an.low;refine this ?_;unfold Zw;omega
   have hcB:Zw c B:=aw fun z=>Xb (UV q z);have hBK:B∈v3.K:=by
    have:=(V3.nd H hH5).k0.1;rw[aX H hH5,<-hBd]at this;refine this.resolve_left fun z=>?_;rw[z]at hcB;have:=hc.1.1;unfold Zw X2 at hcB;simp only at hcB;omega
   obtain⟨h,hh,hn⟩:=nd5 B hBK;have qW:(u.Zc h).Zr.p=B:=by
    have:=(V3.sN H hH5).1 h hh;rw[aX H hH5,<-hBd,aX h hh]at this;exact (UV (hBX h hh) (this hn)).symm
   have hLh:L≠h:=fun e=>by
    subst e;have low:=an.low;rw[qW]at low;have e2:=an.n;unfold Zw at hcB;omega
   have kb:=V3.kr B hBK;have hBm:ZC B:=⟨⟨kb.1.1,mD⟩,mD⟩
   have pw:PW C' B 7 u:=an.pw W2 T2 hc hBX hj (fun _=>hcB) fun e=>by omega
   have R:=mkR B 7 hBm pw;rcases R.ZmJ (c:=c) (Ks:=Ks) hL X1 an.box an.Zp an.Yw hF (fun r hr=>by
    rw[(an.one L hL r hr).2];exact .inl (by have:=an.low;show (u.Zc L).Zr.p.r<c.r;omega)) hh hLh qW mD mD with⟨t,ht,Lt⟩|j1
   .exact .inr ⟨t,h,mD,hh,Lt⟩
   .refine .inl ⟨B,7,R.at N,?_,R,trivial⟩;have j1:¬Zw ((YC N u).Zc L).Ye B:=j1;unfold Zw at j1 ⊢;omega
 rcases main with⟨b,L',pwN,hbL,R,_⟩|⟨t,Z,ht,hZ,Lt⟩
 .refine⟨L,hL,?_⟩;have ZmS:∀X,X<5->∀l∈((YC N u).Zc X).Zf,Zb c l:=fun X hX=>R.gone (Ks:=Ks) X1 an.box hF mD hX N mD (al _);obtain⟨p1,p3,p4,p5,p6,p7,p8⟩:=Zec pwN (R.one X1 N).1 hL ⟨lb1,mD⟩ hbL;obtain⟨g5,M5,m5,T5⟩:=zW hC W4 (hTI N (al _)) (QK L).ac (by show ((L:Nat):Int).toNat<5;omega) (by show (0:Int)<=0;omega) fun now h=>by cases h
  have W5:=lV hC W4 (QK L).ac (by show ((L:Nat):Int).toNat<5;omega) (by show Ti []∈C';exact Ca);rw[eL2]at T5 W5;obtain⟨g6,M6,Mh,tr⟩:=ZdY hC Ca p6 hL p7 hS W5 T5 p1 (T:=200) fun X hX=>by
   rw[(p8 X).2.1];have:((YC N u).Zc X).data.length<=4218+38*N:=Mt hC R.hb R.pw hX (d3' X hX) N;omega
  have hch:∀s:Nat,s<((JC A).Zc Y).ZI.length->∃x,QX (g6 0) (s:Int) x:=fun s hs=>by
   obtain⟨Q,b',hQ,hv⟩:=(T1.nd Y hY).ZI s _ (cf hs);refine⟨((JC A).Zc Y).ZI[s],Q,b',hQ,fun i hi=>?_⟩;rw[Mh];refine m5 _ _ _ _ ?_;have up:∀t,t<=N->(g t).V i b' (s:Int) ((JC A).Zc Y).ZI[s]:=by
    intro t
    induction t with
    | zero=>intro _;rw[hg0];exact m2 _ _ _ _ (hv i hi)
    | succ t ih=>intro ht;exact hmv t mD _ _ _ _ (ih mD)
   exact up N (al _)
  have CN:=tr.ZhV (c:=c) p3 (by
   show (YC N u).Zm=[]
   obtain⟨N',hN'⟩:∃N',N=N'+1:=⟨N-1,mD⟩
   rw[hN'];exact Bo _) (fun X hX l hl=>by
   have hl:l∈(((YC N u).set L (lead ((YC N u).Zc L))).Zc X).Zf:=hl;rw[(p8 X).1]at hl;exact ZmS X hX l hl) p4 (al _) p5 m40 hch
  have Zfh:N=194+(N-194):=mD;refine bk CN ?_
  conv=>rhs;rw[Zfh]
  rw[DS];have:=(Ww hL 194 _ (up2 L hL)).1;rw[<-Zfh];exact (Ww hL (N-194) _ this).2
 .refine⟨Z,hZ,bk m40 (bk Lt ?_)⟩;have h1:((YC t u).Zc Z).ZI.length<=((YC N u).Zc Z).ZI.length:=by
   rw[show N=t+(N-t) by omega,DS];exact (Ww hZ (N-t) _ (Ww hZ t u (hup Z hZ)).1).2
  refine bk h1 (bk ?_ (Ww hZ N _ (up2 Z hZ)).2);rw[Tt];split
  .rename_i e;rw[(dE _).1,e];exact al _
  .exact al _
end Go.Proofs.YtnhfdnlcpdbjlaaGreatDoor
