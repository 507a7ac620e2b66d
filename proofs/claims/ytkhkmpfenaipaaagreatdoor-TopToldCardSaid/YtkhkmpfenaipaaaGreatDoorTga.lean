import Derived.Test.YtkhkmpfenaipaaaGreatDoorTef
open List renaming length→aq,range→aw,mem_range→aW,mem_append→a7,mem_filter→a9,all_eq_true→ba,mem_cons_of_mem→bd,mem_map→bf,mem_flatMap→bn,pairwise_map→bo,length_map→bp,append_nil→bq,getElem?_eq_some_iff→br,length_pos_of_mem→bt,map_append→bw,sum_append→bA,nodup_cons→bG,length_flatMap→bK,mem_cons→bR,map_cons→bS,sum_cons→bT,length_append→bW,length_range→bY,nodup_append→b5,range_succ→b8
open Nat renaming le_refl→a8,zero_le→bc,mul_le_mul_left→bh,le_add_right→b7
open Option renaming some→aV,none→bb
open Bool renaming or_eq_true→bE
open Classical renaming byContradiction→aX,choose→b6
namespace Go.Proofs.YtkhkmpfenaipaaaGreatDoor
open Go Go.V
set_option linter.all false
section
variable {S:Cm->Prop} {C:List Cm} {b β:ZN} {L h X T t l:Nat} {w:Nat->Wd} {g:Nat->Gh} {M:Nat->Nat->ZN} {Q:List Nat} {R:XR->Prop}
namespace jL
variable (I:jL S C b L T w g M β h Q l)
include I
theorem occ(t:Nat)(G:t<=T){r:XR}(hr:((w t).Za h).Zc=aV r)(hb:r.b=β)(hg:r.a=true){s:Nat}(hs:s<l):Has ((w t).Za h).Zi (s:Int)\/∃x,YF r.ZQ (s:Int)=aV x/\Yz (Qb s β x):=by
 have P:=(I.rd.at t).nd h I.hh;have o:=I.rd.ti t G;have R:=(o.nd h I.hh).Zc r hr;have hl:=I.l40;by_cases k:Has ((w t).Za h).Zi (s:Int)
 .exact .inl k
 refine .inr ?_;have k0:YF ((w t).Za h).Zi (s:Int)=bb:=by unfold Has at k;simpa using k
 have Dd:(((w t).Za h).ZF.length:Int)<=s:=by
  refine aX fun q=>?_;have:=P.ni.ZF s uh;rw[k0]at this;cases this
 have D:∃x,YF r.ZQ (s:Int)=aV x:=by
  cases e:YF r.ZQ (s:Int) with
  | some x=>grind
  | none=>
   exfalso;let⟨O,q1,_,q3⟩:=R.free hg s Dd e k0;let⟨y,Q',J,E,K⟩:=I.ch t G s hs;by_cases lt:Zj J r.b
   .grind [Co.meet]
   .by_cases Z:J=r.b
    .subst Z;let⟨i,j,_⟩:=E.meet E;have:=R.pr _ _ (o.a.a _ _ _ _ (K i j))
     grind
    .have Ye:Zj r.b J:=aX fun z=>Z (UW z lt |>.symm);let⟨i,j,i2⟩:=I.a.meet E;have V:=o.a.Yi _ _ _ _ (K i i2);have N:=o.nd i (I.a.2.1 i j);have m:=N.m;rw[Yd ((I.rd.at t).nd i (I.a.2.1 i j)).up]at m;rw[m]at V;rw[hb]at Ye;exact I.Yi t G i (.inl j) (VY Ye V)
 let⟨x,D⟩:=D;refine⟨x,D,⟨by show (0:Int)<=(s:Int);omega,by show (s:Int)<=39;omega⟩,I.may,?_⟩;rcases o.a.cmd _ _ _ (R.safe _ _ D) with rfl|q
 .rfl
 .exact I.hS x q
def V1(β:ZN)(h:Nat)(s:Nat)(x:Cm)(n:Nd):Prop:=Src (fun l=>l.a=2/\l.v=Qb s β x/\l.c=h) (VZ β) (fun n=>∃a,n.Zo=aV (.Us a h (Qb s β x))) n
def V2(β:ZN)(h X:Nat)(s:Nat)(x:Cm)(n:Nd):Prop:=Src (fun m=>m.a=3/\m.v=Qb s β x/\m.c=X/\m.to=h) (EQ β fun r=>Vtd r (s:Int) (X:Int)) (fun _=>False) n
def Z5(_:jL S C b L T w g M β h Q l)(t:Nat):Prop:=∀s,s<l->Has ((w t).Za h).Zi (s:Int)\/∃x,Yz (Qb s β x)/\∀X∈Q,V1 β h s x ((w t).Za X)\/V2 β h X s x ((w t).Za h)
def Z6(_:jL S C b L T w g M β h Q l)(t:Nat):Prop:=∀s,s<l->Has ((w t).Za h).Zi (s:Int)\/∃x,Yz (Qb s β x)/\∀X∈Q,V2 β h X s x ((w t).Za h)
def Z7(_:jL S C b L T w g M β h Q l)(t:Nat):Prop:=∀s:Nat,s<l->Has ((w t).Za h).Zi (s:Int)
theorem Zeo(t:Nat)(i:t<T)(X s:Nat)(x:Cm)(p:V2 β h X s x ((w t).Za h)):V2 β h X s x ((w (t+1)).Za h):=by
 rcases (I.rd.cW I.hh (AP (G:=fun _=>False)) (I.any t uh) p).1 with q|⟨_,_,q⟩
 .exact q
 grind
def Zrl(t:Nat)(y:t<T)(o:X∈Q)(s:Nat)(x:Cm)(i:Yz (Qb s β x))(p:V1 β h s x ((w t).Za X)):V1 β h s x ((w (t+1)).Za X)\/V2 β h X s x ((w (t+1)).Za h):=by
 rcases (I.rd.Hx (I.a.2.1 X o) (D8 i) p).1 with q|q
 .exact .inl q
 .exact .inr (I.rd.XN I.hh q fun m j=>j.2.2.2)
def Zrm(t:Nat)(o:t<T)(i:X∈Q)(z:Qm ((w t).Za X))(s:Nat)(x:Cm)(j:Yz (Qb s β x))(p:V1 β h s x ((w t).Za X)):V2 β h X s x ((w (t+1)).Za h):=by
 rcases (I.rd.Hx (I.a.2.1 X i) (D8 j) p).2 z with q|q
 .exact absurd q (I.tZ (t+1) o i)
 .exact I.rd.XN I.hh q fun m y=>y.2.2.2
def Zrn(t:Nat)(j:t<T)(z:I.Z5 t):I.Z5 (t+1):=fun s o=>(z s o).imp (fun k=>I.rd.Mb I.hh k) fun⟨x,i,z⟩=>⟨x,i,fun X m=>(z X m).elim (fun q=>I.Zrl t j m s x i q) fun q=>.inr (I.Zeo t j X s x q)⟩
def Zro(t:Nat)(j:t<T)(z:I.Z6 t):I.Z6 (t+1):=fun s m=>(z s m).imp (fun k=>I.rd.Mb I.hh k) fun⟨x,i,z⟩=>⟨x,i,fun X o=>I.Zeo t j X s x (z X o)⟩
def Zrp(t:Nat)(_:t<T)(z:I.Z7 t):I.Z7 (t+1):=fun s i=>I.rd.Mb I.hh (z s i)
theorem Zrq(t:Nat)(ht:t<T)(hc:Clear (w t))(z:I.Z4 t):I.Z5 (t+1):=by
 have hf:=hc h I.hh;let⟨ho,z⟩:=z;let⟨d,G,hp,K,y,k,e⟩:=I.rd.Zel I.hh hf;let⟨r,h1,h2,Q',q',D⟩:=z.resolve_right (I.Yi t uh h (.inr rfl));let⟨r',Z,V⟩:=K.on h1;have hb:r'.b=β:=by rw[V.k.b];exact h2
 have J:d.Zn.p=β:=by rw[K.Zn];exact ho
 have er:=AS Z (by rw[hb,J];exact Yv _);have JF:5<2*r'.c.length:=jK q' fun X o=>V.k.c _ (D X o);have j:Jc d r'=⟨{ d with Zc:=aV (Xs d r') },US d (Xs d r'),[]⟩:=by
  unfold Jc;rw[if_neg (by rw[hb,J];exact Yv _),if_neg uh]
 have eR:((w (t+1)).Za h).Zc=aV (Xs d r'):=by
  rw[e];show (YH d).n.Zc=_;rw[Iv.1,er,j]
 let⟨O,bg⟩:=WC d r' (G.ZZ r' Z);have i:(Xs d r').b=β:=by rw[O.b,hb]
 have ek:((w (t+1)).Za h).Zi=d.Zi:=by rw[e];exact (YD hp G.ZZ).1.Zi
 intro s hs;rcases I.occ (t+1) ht eR i bg hs with q|⟨x,hx,hv⟩
 .exact .inl q
 by_cases kn:Has ((w (t+1)).Za h).Zi (s:Int)
 .exact .inl kn
 refine .inr ⟨x,hv,fun X o=>?_⟩;by_cases v:Vtd r' (s:Int) (X:Int)
 .exact .inr (.inl (.inl ⟨_,eR,i,O.Xc _ _ v⟩))
 .refine .inl (I.rd.XN (I.a.2.1 X o) (A:=fun l=>l.a=2/\l.v=Qb s β x/\l.c=h/\l.to=X) (E:=VZ β) (F:=fun n=>∃a,n.Zo=aV (.Us a h (Qb s β x))) ⟨⟨2,d.me,X,Y2,Qb s (Xs d r').b x,[]⟩,y _ (cQ ?_),rfl,by rw[i],by show (d.me:Int)=h;rw[G.ni.me],rfl⟩ (fun m y=>y.2.2.2) |>.imp (fun h=>h) (Or.imp (fun h=>h) fun⟨l,P,q1,q2,q3,_⟩=>⟨l,P,q1,q2,q3⟩));rw[er,j];show _∈US d (Xs d r');have P:=I.l40;refine bn.2 ⟨s,aW.2 uh,?_⟩;unfold Wc;rw[hx];simp only;rw[ek]at kn;rw[if_pos (by unfold Has at kn;grind)];refine bn.2 ⟨X,aW.2 (I.a.2.1 X o),?_⟩;unfold SC;rw[(TM d r').1,if_pos (by unfold Vtd Has at v;simpa using v)]
  grind
def z5:∀t,t<=T->Ct w t 5->I.Z5 t:=UQ I.z4 I.Zrn I.Zrq
def z6:∀t,t<=T->Ct w t 6->I.Z6 t:=UQ I.z5 I.Zro fun t m hc z s o=>
 (z s o).imp (fun k=>I.rd.Mb I.hh k) fun⟨x,j,z⟩=>⟨x,j,fun X i=>(z X i).elim (fun q=>I.Zrm t m i (hc X (I.a.2.1 X i)) s x j q) fun q=>I.Zeo t m X s x q⟩
theorem z7:∀t,t<=T->Ct w t 7->I.Z7 t:=UQ I.z6 I.Zrp fun t i hc z s m=>by
 rcases z s m with k|⟨x,y,z⟩
 .exact I.rd.Mb I.hh k
 have each:∀X∈Q,∃r,((w (t+1)).Za h).Zc=aV r/\r.b=β/\Vtd r (s:Int) (X:Int):=fun X j=>by
  rcases (I.rd.cW I.hh (AP (G:=fun _=>False)) (I.any t uh) (z X j)).2 (hc h I.hh) with (q|q)|⟨_,_,q⟩
  .exact q
  .exact absurd q (I.Yi (t+1) i h (.inr rfl))
  grind
 let⟨r,o,D⟩:=I.alive (t+1) i;refine ((I.rd.at (t+1)).nd h I.hh).vk r o _ (jK I.a fun X j=>?_)
 grind [Vtd]
theorem ZF(t:Nat)(i:t<=T)(hc:Ct w t 7):l<=((w t).Za h).ZF.length:=by
 cases m:l with
 | zero=>grind
 | succ k=>exact ((I.rd.at t).nd h I.hh).Zl5 fun u j=>I.z7 t i hc u uh
end jL
end
structure Rz(C:List Cm)(F:Nat->Prop)(p0:Nat)(kn pr:List (Int × Cm))(e:Nat):Prop where
 SF:∀s:Nat,Has pr s->s<40/\∀t:Nat,t<s->Has pr t\/Has kn t
 cmd:∀(s:Nat) x,e<=s->YF pr s=aV x->x∈C
 inj:∀(s t:Nat) x,e<=t->t<s->YF pr s=aV x->YF pr t=aV x->F t
 full:e<=p0\/∀t:Nat,t<e->Has pr t\/Has kn t
def j3(p0 e:Nat)(pr:List (Int × Cm)):List Nat:=(aw 40).filter fun s=>decide (p0<=s/\e<=s/\YF pr (s:Int)≠bb)
section
variable {C:List Cm} {F:Nat->Prop} {p0 e μ:Nat} {kn kn' pr:List (Int × Cm)} {n:Nd} {r:XR}
def Rz.up(m:∀s:Int,Has kn s->Has kn' s)(R:Rz C F p0 kn pr e):Rz C F p0 kn' pr e:=
 ⟨fun s j=>⟨(R.SF s j).1,fun t i=>((R.SF s j).2 t i).imp_right (m t)⟩,R.cmd,R.inj,R.full.imp_right fun h t i=>(h t i).imp_right (m t)⟩
theorem Rz.count(R:Rz C F p0 kn pr e)(hF:∀t,p0<=t->¬F t):(j3 p0 e pr).length<=(aq C):=by
 have mem:∀s∈j3 p0 e pr,p0<=s/\e<=s/\Has pr (s:Int):=fun s G=>by
  have:=(a9.1 G).2
  simpa [Has] using this
 have n2:((j3 p0 e pr).map fun x:Nat=>(YF pr (x:Int)).getD Ag).Nodup:=by
  refine bo.2 (List.Pairwise.imp_of_mem (fun {a b} J hb V D=>?_) (List.nodup_range.filter _));let⟨E,o,m⟩:=mem a J;let⟨P,O,K⟩:=mem b hb;let⟨x,j⟩:=Jr m;let⟨y,i⟩:=Jr K;rw[j,i]at D;obtain rfl:x=y:=D;have:a<b\/b<a:=uh;rcases this with h|h
  .exact hF a E (R.inj b a x o h i j)
  .exact hF b P (R.inj a b x O h j i)
 have:=YS (C:=C) n2 fun y i=>by
  obtain⟨x,j,rfl⟩:=bf.1 i;let⟨E,o,m⟩:=mem x j;let⟨z,q⟩:=Jr m;rw[q];exact R.cmd x z o q
 grind
theorem Rz.all(R:Rz C F p0 kn pr e)[DecidablePred F]{k:Nat}(V:(((aw 40).filter fun s=>decide (F s)).filter fun s=>decide (e<=s)).length<=k):((aw 40).filter fun s:Nat=>decide (YF pr (s:Int)≠bb)).length<=e+(aq C)+k:=by
 obtain⟨D,K⟩:∃D,D=(aw 40).filter fun s:Nat=>decide (YF pr (s:Int)≠bb):=⟨_,rfl⟩
 have m:D.Nodup:=by rw[K];exact List.nodup_range.filter _
 have mD:∀s∈D,s∈aw 40/\Has pr (s:Int):=fun s P=>by
  grind [Has]
 rw[<-K];have h1:=MB e D;have h2:(D.filter fun x=>decide (x<e)).length<=e:=by
  have:=YS (l:=D.filter fun x=>decide (x<e)) (C:=aw e) (m.filter _) fun x i=>aW.2 zK
  rwa [bY]at this
 have h3:=MC (fun s=>decide (F s)) (D.filter fun x=>decide (e<=x));have h4:((D.filter fun x=>decide (e<=x)).filter fun s=>decide (F s)).length<=k:=Nat.le_trans (YS ((m.filter _).filter _) fun x i=>by
  grind) V
 have h5:((D.filter fun x=>decide (e<=x)).filter fun s=>!decide (F s)).length<=(aq C):=by
  obtain⟨Z,J⟩:∃Z,Z=((D.filter fun x=>decide (e<=x)).filter fun s=>!decide (F s)):=⟨_,rfl⟩
  have mem:∀s∈Z,e<=s/\Has pr (s:Int)/\¬F s:=fun s P=>by
   grind
  have O:Z.Nodup:=by rw[J];exact (m.filter _).filter _
  rw[<-J];have n2:(Z.map fun x:Nat=>(YF pr (x:Int)).getD Ag).Nodup:=by
   refine bo.2 (List.Pairwise.imp_of_mem (fun {a b} ha hb XU G=>?_) O);let⟨q,o,a4⟩:=mem a ha;let⟨b2,b3,b4⟩:=mem b hb;let⟨x,i⟩:=Jr o;let⟨y,j⟩:=Jr b3;rw[i,j]at G;obtain rfl:x=y:=G;have:a<b\/b<a:=uh;rcases this with h|h
   .exact a4 (R.inj b a x q h j i)
   .exact b4 (R.inj a b x b2 h i j)
  have:=YS (C:=C) n2 fun y j=>by
   obtain⟨x,i,rfl⟩:=bf.1 j;let⟨q,o,_⟩:=mem x i;let⟨z,E⟩:=Jr o;rw[E];exact R.cmd x z q E
  rwa [bp]at this
 omega
theorem range_one{P Q:Nat->Bool}{s:Nat}(j:s<40)(h:∀t,t≠s->P t=Q t)(o:P s=false)(m:Q s=true):((aw 40).filter Q).length=((aw 40).filter P).length+1:=by
 have key:∀k,k<=40->((aw k).filter Q).length=((aw k).filter P).length+if s<k then 1 else 0:=by
  intro k
  induction k with
  | zero=>intro _;rfl
  | succ k i=>
   grind [b8]
 grind
theorem Rz.one{x:Cm}(R:Rz C F p0 n.Zi r.ZQ e)(hF:∀u,u<n.ZF.length->F u)(Z:∀t,t<n.ZF.length->Has n.Zi (t:Int))(hx:x∈C)(hL:n.ZF.length<=40)(hp:p0<=μ)(hk:∀s:Nat,Has n.Zi (s:Int)->s<μ)(hr:∀s:Nat,Has r.ZQ (s:Int)->s<μ):
  Rz C F p0 n.Zi (Qk n r x).ZQ e/\(∃j,(j3 p0 e (Qk n r x).ZQ).length=(j3 p0 e r.ZQ).length+j/\∀s:Nat,Has (Qk n r x).ZQ (s:Int)->s<μ+j)/\∀s:Nat,Has (Qk n r x).ZQ (s:Int)->¬Has r.ZQ (s:Int)->¬Has n.Zi (s:Int):=by
 unfold Qk;split
 .rename_i s G;let⟨q1,q2,J,V⟩:=Mz _ _ _ G;have o:=GN _ _ _ (fun u z=>.inr (Z u z)) G;have ne:=AL _ _ _ G;have li:∀t:Nat,YF (ins r.ZQ (s:Int) x) (t:Int)=if t=s then aV x else YF r.ZQ (t:Int):=fun t=>by
   grind [XQ]
  have ns:¬Has r.ZQ (s:Int):=fun h=>h J;have nk:¬Has n.Zi (s:Int):=fun h=>h V;have E:s<40:=uh;have T7:∀u:Nat,Has r.ZQ u\/Has n.Zi u->Has (ins r.ZQ (s:Int) x) u\/Has n.Zi u:=fun u h=>h.imp_left fun h=>h.ins _ _;have hold:∀t:Nat,t≠s->Has (ins r.ZQ (s:Int) x) (t:Int)->Has r.ZQ (t:Int):=fun t e i=>by
   unfold Has at i;rw[li,if_neg e]at i;exact i
  have sμ:s<=μ:=aX fun q=>by
   grind [Occ]
  refine⟨⟨fun t i=>?_,fun t y O K=>?_,fun t u y O K m D=>?_,R.full.imp_right fun h t i=>T7 t (h t i)⟩,?_,fun t O K=>?_⟩
  .show t<40/\∀u:Nat,u<t->Has (ins r.ZQ (s:Int) x) u\/Has n.Zi u;by_cases e:t=s
   .exact⟨uh,fun u z=>T7 u (o u uh)⟩
   .have i:=hold t e i;exact⟨(R.SF t i).1,fun u z=>T7 u ((R.SF t i).2 u z)⟩
  .grind [Rz.cmd]
  .have m:YF (ins r.ZQ (s:Int) x) (t:Int)=aV y:=m;have D:YF (ins r.ZQ (s:Int) x) (u:Int)=aV y:=D;rw[li]at m D;split at D
   .rename_i e4;rw[if_neg uh]at m;rcases (R.SF t (UG m)).2 s uh with q|q
    .grind
    grind
   grind [Rz.inj]
  .by_cases c:p0<=s
   .have es:e<=s:=by
     rcases R.full with q|q
     .omega
     .grind
    refine⟨1,?_,fun t i=>?_⟩
    .unfold j3;refine range_one (P:=fun t=>decide (p0<=t/\e<=t/\YF r.ZQ (t:Int)≠bb)) (Q:=fun t=>decide (p0<=t/\e<=t/\YF (ins r.ZQ (s:Int) x) (t:Int)≠bb)) E (fun t i=>?_) ?_ ?_
     .grind
     .simp[J]
     grind
    grind
   .refine⟨0,?_,fun t i=>?_⟩
    .grind [j3]
    grind
  grind
 grind
theorem Rz.many(hF:∀u,u<n.ZF.length->F u)(V:∀t,t<n.ZF.length->Has n.Zi (t:Int))(hL:n.ZF.length<=40):∀(l:List Cm) (r:XR) (μ:Nat),(∀x∈l,x∈C)->Rz C F p0 n.Zi r.ZQ e->p0<=μ->(∀s:Nat,Has n.Zi (s:Int)->s<μ)->(∀s:Nat,Has r.ZQ (s:Int)->s<μ) ->
  Rz C F p0 n.Zi (XS n r l).ZQ e/\(∃j,(j3 p0 e (XS n r l).ZQ).length=(j3 p0 e r.ZQ).length+j/\∀s:Nat,Has (XS n r l).ZQ (s:Int)->s<μ+j)/\∀s:Nat,Has (XS n r l).ZQ (s:Int)->¬Has r.ZQ (s:Int)->¬Has n.Zi (s:Int):=by
 intro l
 induction l with
 | nil=>intro r μ _ R _ _ hr;exact⟨R,⟨0,rfl,hr⟩,fun s m D=>absurd m D⟩
 | cons x l K=>
  intro r μ o R P Z hr;let⟨m,⟨j,D,h3⟩,h4⟩:=R.one (x:=x) hF V (o x zX) hL P Z hr;let⟨J,⟨i,k2,G⟩,k4⟩:=K (Qk n r x) (μ+j) (fun y O=>o y (by simp[O])) m uh (fun s q=>by grind) h3;refine⟨J,⟨j+i,by grind [XS],fun s q=>by have:=G s q;omega⟩,fun s E q2=>?_⟩;by_cases z:Has (Qk n r x).ZQ (s:Int)
  .grind
  .exact k4 s E z
theorem Rz.begin(D:PO r)(hr:∀s,YF r.ZQ s=bb)(O:∀t,t<n.ZF.length->Has n.Zi (t:Int))(G:∀v∈(Yu r).flatten,v.Zx<(μ:Int)):
  Rz C F p0 n.Zi (Qs n r).ZQ (WS (Yu r).flatten+1).toNat/\(j3 p0 (WS (Yu r).flatten+1).toNat (Qs n r).ZQ).length=0/\∀s:Nat,Has (Qs n r).ZQ (s:Int)->s<μ:=by
 let⟨z,P,_⟩:=LC n (Yu r) ((WS (Yu r).flatten+1).toNat-n.ZF.length) n.ZF.length r.ZQ;have K:=cG D;have YG:∀(s:Nat) y,YF (Qs n r).ZQ (s:Int)=aV y->n.ZF.length<=s/\s<(WS (Yu r).flatten+1).toNat:=fun s y e=>by
  rcases z s y e with q|⟨t,E,o,m,_⟩
  .grind
  .omega
 have full:∀t:Nat,t<(WS (Yu r).flatten+1).toNat->Has (Qs n r).ZQ (t:Int)\/Has n.Zi (t:Int):=fun t q=>by
  grind [Has,Qs]
 refine⟨⟨fun s j=>?_,fun s x q e=>?_,fun s t x q _ _ e=>?_,.inr full⟩,?_,fun s j=>?_⟩
 .let⟨y,i⟩:=Jr j
  grind
 .grind
 .grind
 .rw[List.length_eq_zero_iff];refine List.filter_eq_nil_iff.2 fun s _ q=>?_;let⟨_,o,m⟩:=of_decide_eq_true q;let⟨y,i⟩:=Jr (h:=m)
  grind
 .let⟨y,i⟩:=Jr j;have:=YG s y i;rcases (Oy (Yu r).flatten (-1)).2.2 with q|⟨v,J,q⟩
  .rw[show WS (Yu r).flatten = -1 from q]at this
   grind
  grind [WS]
end
def M2(μ:Nat)(l:Yt):Prop:=l.a=2->l.v.Zx<(μ:Int)
structure Gn(Cs:List Cm)(F:Nat->Prop)(p0 μ e f:Nat)(n:Nd):Prop where
 Zn:∀v∈n.Zn.l,v.Zx<(μ:Int)
 DL:∀p,n.Zo=aV p->∀v∈(YM p).l,v.Zx<(μ:Int)
 ZQ:∀r,n.Zc=aV r->∀s:Nat,Has r.ZQ (s:Int)->s<μ
 new:∀r,n.Zc=aV r->r.a=false->f=0
 T7:∀r,n.Zc=aV r->r.a=true->Rz Cs F p0 n.Zi r.ZQ e/\(j3 p0 e r.ZQ).length=f
 le:f<=(aq Cs)
section
variable {S:Cm->Prop} {C Cs:List Cm} {F:Nat->Prop} {b:ZN} {L X T t p0 μ μ' e f l:Nat} {w:Nat->Wd} {g:Nat->Gh} {M:Nat->Nat->ZN} {n:Nd}
def M2.up{m:Yt}(h:M2 μ m)(q:μ<=μ'):M2 μ' m:=fun k=>by have:=h k;omega
def Gn.up(h:Gn Cs F p0 μ e f n)(q:μ<=μ'):Gn Cs F p0 μ' e f n:=
 ⟨fun v i=>(by have:=h.Zn v i;omega),fun p m v i=>(by have:=h.DL p m v i;omega),fun r hr s j=>(by have:=h.ZQ r hr s j;omega),h.new,h.T7,h.le⟩
theorem OD:∀(k:List Yt) (n:Nd),(∀r',(Zw n k).n.Zc=aV r'->∃r,n.Zc=aV r/\JM r r')/\(∀s,Has n.Zi s->Has (Zw n k).n.Zi s)/\(Zw n k).n.Zn=n.Zn:=by
 intro k
 induction k with
 | nil=>grind [Zw,JM.refl]
 | cons x k i=>
  intro n;by_cases q:n.Zo=bb
  .have e:(Zw n (x :: k)).n=(Zw (Zy { n with Zd:=k } x).n k).n:=by
    conv=>lhs;unfold Zw
    rw[if_neg zK]
   rw[e];let⟨y,o,m⟩:=i (Zy { n with Zd:=k } x).n;refine⟨fun r' hr=>?_,fun s j=>o s ?_,by rw[m,OC]⟩
   .grind [NZ,N0,YE,YT.back,JM.trans]
   .exact (It { n with Zd:=k } x).Zi s j
  grind [Wl]
theorem pZ(n:Nd)(r:XR):((Jc n r).n.Zc=n.Zc/\∀m∈(Jc n r).ls,m.a≠2)\/(5<2*r.c.length/\¬Zj n.Zn.p r.b/\(Jc n r).n.Zc=aV (Xs n r)/\(Jc n r).ls=US n (Xs n r)):=by
 unfold Jc
 grind [Te]
theorem LP(n:Nd):((∀r',(YH n).n.Zc=aV r'->n.Zc=aV r')/\∀m∈(YH n).ls,m.a≠2)\/∃r,n.Zc=aV r/\5<2*r.c.length/\¬Zj n.Zn.p r.b/\¬Zj r.b n.Zn.p/\(YH n).n.Zc=aV (Xs n r)/\(∀m∈(YH n).ls,m.a=2->m∈US n (Xs n r))/\∀m∈US n (Xs n r),m∈(YH n).ls:=by
 have s:∀m∈(YH n).ls,m∈(Yj (Zt n)).ls\/m.a=5:=fun m o=>by
  unfold YH at o
  grind [Wi]
 have fwd:∀m:Nd,m.Zc=bb->(Yj m).n.Zc=bb/\∀x∈(Yj m).ls,x.a≠2:=fun m o=>by
  grind [Yj,WT]
 rw[Iv.1];rcases UF n with⟨j,i⟩|⟨r,j,_,i⟩|⟨r,j,q,i⟩
 .grind
 .grind
 .have e:Yj (Zt n)=Jc n r:=by rw[i];unfold Yj;rw[j]
  grind [cQ,pZ]
theorem XP.grow(R:XP S C b L T w g M)(ht:t<=T)(hX:X<5)(OX:∀x,S x->x∈Cs)(hF:∀u,u<((w (t+1)).Za X).ZF.length->F u)(hp:p0<=μ)(hV:∀i,i<5->∀c s x,(g t).V i c s x->s<(μ:Int))(zp:∀s,p0<=s->¬F s)(hb:∀m∈((w t).Za X).Zd,M2 μ m)(G:Gn Cs F p0 μ e f ((w t).Za X)):
  ∃J j,Gn Cs F p0 (μ+j) J (f+j) ((w (t+1)).Za X)/\(∀m∈(step ((w t).Za X)).ls,M2 (μ+j) m)/\((∃r,((w t).Za X).Zc=aV r/\r.a=true)->J=e)/\(((w t).Za X).Zc=bb->j=0)/\((∀m∈(step ((w t).Za X)).ls,m.a≠2)->j=0):=by
 have P:=(R.at t).nd X hX;have Pj:=(R.at t).JC X hX;have hu:=P.up;have TT:=R.ti t ht;have er:(w (t+1)).Za X = { (step ((w t).Za X)).n with Zd:=((w (t+1)).Za X).Zd }:=by rw[R.a,Qg _ X hX hu]
 have box:∀{m:Nd} {μ e f:Nat} (k:List Yt),Gn Cs F p0 μ e f m->Gn Cs F p0 μ e f { m with Zd:=k }:=fun k h=>⟨h.Zn,h.DL,h.ZQ,h.new,h.T7,h.le⟩
 have Zt:∀m:Nd,(∀v∈m.Zn.l,v.Zx<(μ:Int))->(∀p,m.Zo=aV p->∀v∈(YM p).l,v.Zx<(μ:Int))->(∀s,Has ((w t).Za X).Zi s->Has m.Zi s)->(∀r',m.Zc=aV r'->∃r,((w t).Za X).Zc=aV r/\r'.ZQ=r.ZQ/\r'.a=r.a)->Gn Cs F p0 μ e f m:=fun m O h2 h3 h4=>by
  refine⟨O,h2,fun r' hr s V=>?_,fun r' hr hb=>?_,fun r' hr hb=>?_,G.le⟩
  .let⟨r,q1,q2,_⟩:=h4 r' hr;rw[q2]at V;exact G.ZQ r q1 s V
  .grind [Gn.new]
  .let⟨r,q1,q2,q3⟩:=h4 r' hr;let⟨z1,z2⟩:=G.T7 r q1 zK;rw[q2];exact⟨z1.up h3,z2⟩
 cases PK:((w t).Za X).Zo with
 | some p=>
  have es:step ((w t).Za X)=Yc (ZE ((w t).Za X)) p:=by unfold step;rw[if_pos hu,PK]
  have eo:(Yc (ZE ((w t).Za X)) p).n.Zn=YM p:=by cases p<;>rfl
  have ep:(Yc (ZE ((w t).Za X)) p).n.Zo=bb:=by cases p<;>rfl
  refine⟨e,0,?_,fun m Z E=>?_,fun _=>rfl,fun _=>rfl,fun _=>rfl⟩
  .rw[er,es];refine box _ (Zt _ (by rw[eo];exact G.DL p PK) (fun q hq=>by grind) (Iu _ p).Zi fun r' hr=>?_)
   cases p with
   | QB a to b' vs=>exact⟨r',hr,rfl,rfl⟩
   | Us a to v=>exact⟨r',hr,rfl,rfl⟩
   | Zn a vs cur=>
    have hr:(if cur=true then ((w t).Za X).Zc.map (fun r=>{ r with c:=ins r.c ((w t).Za X).me vs }) else ((w t).Za X).Zc)=aV r':=hr;split at hr
    .cases q:((w t).Za X).Zc with
     | none=>grind
     | some r=>
      grind
    grind
  grind [zd]
 | none=>
  let⟨s1,s2,s3⟩:=OD ((w t).Za X).Zd ((w t).Za X);by_cases hd:(Zw ((w t).Za X) ((w t).Za X).Zd).n.Zo=bb
  .have hf:Qm ((w t).Za X):=⟨PK,hd⟩
   let⟨d,ed⟩:=ZO ((Zw ((w t).Za X) ((w t).Za X).Zd).n);have Pd:PN C b L X d:=by rw[ed];exact (XH (Jf hX R.hC R.hb) _ _ P Pj).1
   have ND:NR S (g t) (M t) X d:=by rw[ed];exact (FL hX TT.a _ _ (TT.nd X hX) hu PK P.ni fun l hl=>⟨(Pj l hl).li,TT.JC X hX l hl⟩).1.n
   rw[<-ed]at s1 s2 s3 hd;have D:=(YD hd Pd.ZZ).1;have es:(step ((w t).Za X)).n=(YH d).n:=by rw[Xi hu hf,ed]
   have el:∀m∈(step ((w t).Za X)).ls,m.a=2->m∈(YH d).ls:=fun m Z E=>by
    grind [Xi,PU]
   have Gd:Gn Cs F p0 μ e f d:=Zt d (by rw[s3];exact G.Zn) (fun p hp=>by grind) s2 fun r' hr=>by
    grind [JM.p,JM.g]
   have lg:((w (t+1)).Za X).ZF=d.ZF:=by rw[er,es];exact D.ZF
   rw[lg]at hF;have ph:∀v∈(YH d).n.Zn.l,v.Zx<(μ:Int):=by rw[D.Zn];exact Gd.Zn
   have ae:∀p,(YH d).n.Zo=aV p->∀v∈(YM p).l,v.Zx<(μ:Int):=fun p hp=>by
    grind [YM,WK.Zo,Gn.Zn,PN.pr0,PN.may,Q6]
   rcases LP d with⟨z1,z2⟩|⟨r,O,h2,h3,h4,h5,h6,h7⟩
   .refine⟨e,0,?_,fun m Z E=>absurd E (z2 m (el m Z E)),fun _=>rfl,fun _=>rfl,fun _=>rfl⟩;rw[er,es];refine box _ ⟨ph,ae,fun r' hr=>Gd.ZQ r' (z1 r' hr),fun r' hr=>Gd.new r' (z1 r' hr),fun r' hr hb=>?_,Gd.le⟩
    grind [Gn.T7,WK.Zi]
   .have RI:=Pd.ni.Zc r O;have a0:=ND.Zc r O;have hk:∀s:Nat,Has d.Zi (s:Int)->s<μ:=fun s V=>by
     let⟨x,hx⟩:=Jr V;let⟨Q,c,q,o⟩:=ND.Zi _ _ hx;let⟨i,hi,_⟩:=q.meet q;have:=hV i (q.2.1 i hi) _ _ _ (o i hi);omega
    have hl:∀t,t<d.ZF.length->Has d.Zi (t:Int):=fun t q=>by
     have:=Pd.ni.ZF t q
     grind [Has]
    have hq:∀x∈d.ZD,x∈Cs:=fun x hx=>OX x (ND.b x hx);have hL:=Pd.ni.LA
    have st:∃J K,Xs d r=XS d K d.ZD/\Rz Cs F p0 d.Zi K.ZQ J/\(j3 p0 J K.ZQ).length=f/\(∀s:Nat,Has K.ZQ (s:Int)->s<μ)/\(r.a=true->J=e)/\∀s,Has r.ZQ s->Has K.ZQ s:=by
     by_cases bN:r.a=true
     .let⟨q1,q2⟩:=Gd.T7 r O bN
      grind [Xs,Gn.ZQ]
     .have qN:r.a=false:=by simpa using bN
      let⟨q1,q2,q3⟩:=Rz.begin (C:=Cs) (F:=F) (p0:=p0) (μ:=μ) RI (Pd.ZZ r O qN) hl fun v o=>by
       let⟨m,_,vs,z1,z2⟩:=My o;have pf:=a0.c _ _ z1;exact hV _ pf.lt _ _ _ (pf.has v z2).1
      exact⟨_,Qs d r,by unfold Xs;grind,q1,by rw[q2,Gd.new r O qN],q3,fun h=>absurd h bN,fun s h=>absurd (Pd.ZZ r O qN s) h⟩
    let⟨J,K,a1,a2,a3,a4,a5,a6⟩:=st;let⟨b1,⟨j,b2,b3⟩,b4⟩:=Rz.many hF hl hL d.ZD K μ hq a2 hp hk a4;rw[<-a1]at b1 b2 b3 b4;let⟨kp,bg⟩:=WC d r (Pd.ZZ r O);refine⟨J,j,?_,fun m Z E=>?_,fun⟨r1,q1,q2⟩=>?_,fun q=>?_,fun q=>?_⟩
    .rw[er,es];refine box _ ⟨fun v o=>by grind,fun p hp v o=>by grind,fun r' hr=>?_,fun r' hr hb=>?_,fun r' hr hb=>?_,?_⟩
     .grind
     .grind
     .grind [WK.Zi]
     .rw[<-a3,<-b2];exact b1.count zp
    .let⟨s,_,Z⟩:=bn.1 (h6 m (el m Z E) E)
     grind [Qb,Su,UG]
    .grind [JM.g]
    .grind
    .refine aX fun hj=>?_;have h9:¬ ∀s∈j3 p0 J (Xs d r).ZQ,s∈j3 p0 J K.ZQ:=fun z=>by
      have:=YS (List.nodup_range.filter _) z
      grind [j3]
     refine h9 fun s V=>aX fun hn=>?_;let⟨c1,c2⟩:=a9.1 V;let⟨c3,c4,c5⟩:=of_decide_eq_true c2;have n0:¬Has K.ZQ (s:Int):=fun z=>hn (a9.2 ⟨c1,decide_eq_true ⟨c3,c4,z⟩⟩);have nk:=b4 s c5 n0;let⟨x,hx⟩:=Jr (h:=c5);have nv:YF ((YF (Xs d r).Xc (s:Int)).getD []) ((0:Nat):Int)=bb:=by
      rw[(TM d r).1]
      cases o:YF ((YF r.Xc (s:Int)).getD []) ((0:Nat):Int) with
      | none=>rfl
      | some u=>
       exfalso
       cases hK:YF r.Xc (s:Int) with
       | none=>rw[hK]at o;cases o
       | some Q=>
        rw[hK]at o;let⟨y,hy⟩:=a0.Xc _ Q _ hK o;exact n0 (a6 _ (UG (a0.pr _ _ (TT.a.a _ _ _ _ hy))))
     have Z:(⟨2,d.me,((0:Nat):Int),Y2,Qb s (Xs d r).b x,[]⟩:Yt)∈US d (Xs d r):=by
      refine bn.2 ⟨s,c1,?_⟩;unfold Wc;rw[hx];simp only;rw[if_pos (by unfold Has at nk;grind)];refine bn.2 ⟨0,aW.2 uh,?_⟩;unfold SC;rw[if_pos nv];exact List.mem_singleton.2 rfl
     grind [Xi]
  .have V:step ((w t).Za X)=Zw ((w t).Za X) ((w t).Za X).Zd:=by
    unfold step;rw[if_pos hu,PK];simp only;rw[if_pos]
    cases q:(Zw ((w t).Za X) ((w t).Za X).Zd).n.Zo with
    | none=>grind
    | some p=>rfl
   refine⟨e,0,?_,fun m Z E=>?_,fun _=>rfl,fun _=>rfl,fun _=>rfl⟩
   .rw[er,V];refine box _ (Zt _ (by rw[s3];exact G.Zn) (fun p hp=>?_) s2 fun r' hr=>?_)
    .let⟨_,j,l,ej,q⟩:=OB _ _ PK p hp;rcases q with⟨_,_,_,q⟩|⟨E,_,_,q⟩
     .rw[q];exact G.Zn
     .rw[q];intro v o;have o:v∈Jq ((w t).Za X).Zn.l l.v:=o;unfold Jq at o;rcases a7.1 o with z|z
      .exact G.Zn v (a9.1 z).1
      .rcases bR.1 z with rfl|z
       .exact hb l (by rw[ej];simp) E
       .exact G.Zn v (a9.1 z).1
    grind [JM.p,JM.g]
   grind [PU]
end
def Jg(f:Nat->Nat):Nat:=f 0+f 1+f 2+f 3+f 4
theorem Zik{f:Nat->Nat}{X:Nat}(i:X<5):f X<=Jg f:=by
 grind [Jg]
theorem Ca(f j:Nat->Nat):Jg (fun X=>f X+j X)=Jg f+Jg j:=by unfold Jg;grind
theorem AT{f h:Nat->Nat}(e:∀X,X<5->f X=h X):Jg f=Jg h:=by
 grind [Jg]
theorem AU{f:Nat->Nat}{X:Nat}(i:X<5):Jg (fun Y=>if Y=X then 0 else f Y)+f X=Jg f:=by
 grind [Jg]
structure Gw(Cs:List Cm)(F:Nat->Prop)(p0 B:Nat)(e f:Nat->Nat)(w:Wd):Prop where
 nd:∀X,X<5->Gn Cs F p0 (B+Jg f) (e X) (f X) (w.Za X)
 box:∀X,X<5->∀m∈(w.Za X).Zd,M2 (B+Jg f) m
 WM:∀m∈w.b,M2 (B+Jg f) m
section
variable {S:Cm->Prop} {C Cs:List Cm} {F:Nat->Prop} {b:ZN} {L X T t p0 B l:Nat} {w:Nat->Wd} {g:Nat->Gh} {M:Nat->Nat->ZN} {u:Wd} {e f:Nat->Nat}
theorem XP.jN(R:XP S C b L T w g M)(J:t<=T)(OX:∀x,S x->x∈Cs)(hF:∀X,X<5->∀u,u<((w (t+1)).Za X).ZF.length->F u)(hp:p0<=B)(zp:∀s,p0<=s->¬F s)(G:Gw Cs F p0 B e f (w t)):
  ∃D E,Gw Cs F p0 B D E (w (t+1))/\(∀X,X<5->(∃r,((w t).Za X).Zc=aV r/\r.a=true)->D X=e X)/\(∀X,X<5->((w t).Za X).Zc=bb->E X=f X)/\∀X,X<5->(∀m∈(step ((w t).Za X)).ls,m.a≠2)->E X=f X:=by
 have TT:=R.ti t J;have P:∀i,i<5->∀c s x,(g t).V i c s x->s<((B+Jg f:Nat):Int):=fun i hi c s x O=>by
  have A:=(TT.nd i hi).acc;rw[Yd ((R.at t).nd i hi).up]at A;let⟨v,Z,V,_⟩:=A.all _ _ _ O;rw[<-V];exact (G.nd i hi).Zn v Z
 have each:∀X,∃p:Nat × Nat,X<5->Gn Cs F p0 (B+Jg f+p.2) p.1 (f X+p.2) ((w (t+1)).Za X)/\(∀m∈(step ((w t).Za X)).ls,M2 (B+Jg f+p.2) m)/\((∃r,((w t).Za X).Zc=aV r/\r.a=true)->p.1=e X)/\(((w t).Za X).Zc=bb->p.2=0)/\((∀m∈(step ((w t).Za X)).ls,m.a≠2)->p.2=0):=fun X=>by
  by_cases o:X<5
  .let⟨D,j,h⟩:=R.grow J o OX (hF X o) uh P zp (G.box X o) (G.nd X o);exact⟨(D,j),fun _=>h⟩
  .exact⟨(0,0),fun h=>absurd h o⟩
 obtain⟨p,y⟩:∃p:Nat->Nat × Nat,∀X,X<5->Gn Cs F p0 (B+Jg f+(p X).2) (p X).1 (f X+(p X).2) ((w (t+1)).Za X)/\(∀m∈(step ((w t).Za X)).ls,M2 (B+Jg f+(p X).2) m)/\((∃r,((w t).Za X).Zc=aV r/\r.a=true)->(p X).1=e X)/\(((w t).Za X).Zc=bb->(p X).2=0)/\((∀m∈(step ((w t).Za X)).ls,m.a≠2)->(p X).2=0):=
  ⟨fun X=>b6 (each X),fun X=>Classical.choose_spec (each X)⟩
 have es:B+Jg (fun X=>f X+(p X).2)=B+Jg f+Jg fun X=>(p X).2:=by rw[Ca];omega
 have K:∀X,X<5->B+Jg f+(p X).2<=B+Jg (fun X=>f X+(p X).2):=fun X o=>by
  have:=Zik (f:=fun X=>(p X).2) o;omega
 have a0:∀m∈Qw (w t),M2 (B+Jg fun X=>f X+(p X).2) m:=fun m z=>by
  rcases JI.1 z with q|⟨i,hi,q⟩
  .exact (G.WM m q).up uh
  .exact ((y i hi).2.1 m q).up (K i hi)
 refine⟨fun X=>(p X).1,fun X=>f X+(p X).2,⟨fun X o=>(y X o).1.up (K X o),fun X o m z=>?_,fun m z=>?_⟩,fun X o=>(y X o).2.2.1,fun X o q=>by grind,fun X o q=>by grind⟩
 .rw[R.a]at z;rcases (TD o ((R.at t).nd X o).up).1 z with q|⟨q,_⟩
  .exact (G.box X o m ((Vx (R.at t) R.hC R.hb o).2.2 m q)).up uh
  grind
 .rw[R.a,Is]at z;cases z
theorem XP.jO(R:XP S C b L T w g M)(m:X<5)(h:∀r,((w t).Za X).Zc=aV r->r.a=true):∀r,((w (t+1)).Za X).Zc=aV r->r.a=true:=
 R.jM (E:=fun n=>∀r,n.Zc=aV r->r.a=true) (fun n k h=>h) m (fun n l _ h r' hr=>by
  grind [NZ,N0,YE,YT.back,JM.g]) (fun n j i h r' hr=>by
  grind [WK.Rd,YD,PN.ZZ]) (fun n p j i h r' hr=>by
  cases p with
  | QB a to o vs=>exact h r' hr
  | Us a to v=>exact h r' hr
  | Zn a vs cur=>
   have hr:(if cur=true then n.Zc.map (fun r=>{ r with c:=ins r.c n.me vs }) else n.Zc)=aV r':=hr;split at hr
   .cases q:n.Zc with
    | none=>grind
    | some r=>
     grind
   grind) h
theorem XP.cX(R:XP S C b L T w g M)(m:X<5)(hr:((w t).Za X).Zc=bb):((w (t+1)).Za X).Zc=bb:=
 R.jM (t:=t) (X:=X) (E:=fun n=>n.Zc=bb) (fun n k h=>h) m (fun n l _ h=>by
  rcases (YE n l).2 with K|⟨_,_,_,_,e⟩|⟨_,_,_,_,e⟩
  .cases q:(Zy n l).n.Zc with
   | none=>rfl
   | some r'=>
    grind [YT.back]
  .rw[e];exact h
  .rw[e];exact h) (fun n j i h=>by
  grind [WK.Rd,YD,PN.ZZ]) (fun n p j i h=>by
  cases p with
  | QB a to o vs=>exact h
  | Us a to v=>exact h
  | Zn a vs cur=>
   grind [Yc,ZE]) hr
theorem XP.Cb(R:XP S C b L T w g M)(OX:∀x,S x->x∈Cs)(hF:∀t,t<=T->∀X,X<5->∀u,u<((w t).Za X).ZF.length->F u)(hp:p0<=B)(zp:∀s,p0<=s->¬F s)(G:Gw Cs F p0 B e f (w 0)):
  ∀t,t<=T->∃K J,Gw Cs F p0 B K J (w t)/\(∀X,X<5->(∃r,((w 0).Za X).Zc=aV r/\r.a=true)->K X=e X/\∀r,((w t).Za X).Zc=aV r->r.a=true)/\∀X,X<5->((w 0).Za X).Zc=bb->((w t).Za X).Zc=bb/\J X=f X:=by
 intro t
 induction t with
 | zero=>intro _;exact⟨e,f,G,fun X i ⟨r,h1,h2⟩=>⟨rfl,fun r' hr=>by grind⟩,fun X i q=>⟨q,rfl⟩⟩
 | succ t V=>
  intro Z;let⟨e1,f1,G1,E,P⟩:=V uh;let⟨j,f2,m,k2,n2,_⟩:=R.jN (t:=t) uh OX (hF (t+1) Z) hp zp G1;have D:∀X,X<5->((w 0).Za X).Zc=bb->((w (t+1)).Za X).Zc=bb/\f2 X=f X:=fun X i q=>by
   let⟨z1,z2⟩:=P X i q;exact⟨R.cX i z1,zK⟩
  by_cases hq:∀X,X<5->((w t).Za X).Zc=bb->(∃r,((w 0).Za X).Zc=aV r/\r.a=true)->j X=e X
  .refine⟨j,f2,m,fun X i y=>?_,D⟩;let⟨O,o⟩:=E X i y;refine⟨?_,R.jO i o⟩
   cases hr:((w t).Za X).Zc with
   | none=>grind
   | some r=>grind
  ·-- a Zc ZOA is no more: its number ZOB not ZAY
   refine⟨fun X=>if ((w t).Za X).Zc=bb then e X else j X,f2,⟨fun X i=>?_,m.box,m.WM⟩,fun X i y=>?_,D⟩
   .have z:=m.nd X i;by_cases hr:((w t).Za X).Zc=bb
    .have hn:((w (t+1)).Za X).Zc=bb:=R.cX i hr;simp only[if_pos hr];exact⟨z.Zn,z.DL,fun r q=>zK,fun r q=>zK,fun r q=>zK,z.le⟩
    grind
   .let⟨O,o⟩:=E X i y;refine⟨?_,R.jO i o⟩;show (if ((w t).Za X).Zc=bb then e X else j X)=e X;split
    .rfl
    .rename_i hr
     cases Mv:((w t).Za X).Zc with
     | none=>grind
     | some r=>grind
theorem Gw.lead(G:Gw Cs F p0 B e f u){Y:Nat}(K:Y<5){m:Nd}(P:m.Zn=(u.Za Y).Zn)(i:m.Zo=(u.Za Y).Zo\/∀p,m.Zo=aV p->∃j,(u.Za Y).Zo=aV j/\YM p=YM j)(V:m.Zd=(u.Za Y).Zd)(O:∀r,m.Zc=aV r->r.a=false/\∀s,YF r.ZQ s=bb):
  Gw Cs F p0 (B+f Y) e (fun X=>if X=Y then 0 else f X) (u.set Y m):=by
 have at':∀X,(u.set Y m).Za X=if X=Y then m else u.Za X:=fun X=>rfl
 have es:B+f Y+Jg (fun X=>if X=Y then 0 else f X)=B+Jg f:=by have:=AU (f:=f) K;omega
 refine⟨fun X z=>?_,fun X z x y=>?_,fun x y=>?_⟩
 .rw[es,at'];by_cases c:X=Y
  .subst c;rw[if_pos rfl];simp only[if_pos];have q:=G.nd X z;refine⟨by rw[P];exact q.Zn,fun p o=>?_,fun r hr s J=>absurd ((O r hr).2 s) J,fun _ _ _=>rfl,fun r hr hb=>zK,bc _⟩;rcases i with i|i
   .rw[i]at o;exact q.DL p o
   .let⟨j,E,D⟩:=i p o;rw[D];exact q.DL j E
  grind [Gw.nd]
 .rw[es]
  grind [Gw.box]
 .rw[es];exact G.WM x y
end
def Hy(pr:List (Int × Cm)):List Nat:=(aw 40).filter fun s:Nat=>decide (YF pr (s:Int)≠bb)
section
variable {S:Cm->Prop} {C Cs:List Cm} {F:Nat->Prop} {b:ZN} {L X T t p0 B k:Nat} {w:Nat->Wd} {g:Nat->Gh} {M:Nat->Nat->ZN} {e f:Nat->Nat} {κ:ZN × Int}
theorem XP.back(R:XP S C b L T w g M)(o:X<5){r':XR}(hr:((w (t+1)).Za X).Zc=aV r'):∃r,((w t).Za X).Zc=aV r/\Yw r r':=by
 refine R.jM (t:=t) (E:=fun n=>∀r',n.Zc=aV r'->∃r,((w t).Za X).Zc=aV r/\Yw r r') (fun n k h=>h) o (fun n l _ h r' hr=>?_) (fun n m j h r' hr=>?_) (fun n p m j h r' hr=>?_) (fun r' hr=>⟨r',hr,Yw.refl _⟩) r' hr
 .grind [NZ,N0,YE,YT.back,Yw.trans,JM.k]
 .grind [WK.Rd,YD,PN.ZZ,Yw.trans]
 .cases p with
  | QB a to s vs=>exact h r' hr
  | Us a to v=>exact h r' hr
  | Zn a vs cur=>
   have hr:(if cur=true then n.Zc.map (fun r=>{ r with c:=ins r.c n.me vs }) else n.Zc)=aV r':=hr;split at hr
   .cases q:n.Zc with
    | none=>grind
    | some r=>
     rw[q]at hr;obtain rfl:=aag hr;let⟨i,z1,z2⟩:=h r q;exact⟨i,z1,z2.trans ⟨rfl,fun _ _ h=>h,fun h=>h,fun k h=>Has.ins h _ _,fun _ _ h=>h⟩⟩
   grind
theorem XP.Qn(R:XP S C b L T w g M)(q:X<5):∀t r',((w t).Za X).Zc=aV r'->∀u,u<=t->∃r,((w u).Za X).Zc=aV r/\Yw r r':=by
 intro t
 induction t with
 | zero=>grind [Yw.refl]
 | succ t o=>
  intro r' hr u s;by_cases e:u=t+1
  .rw[e];exact⟨r',hr,Yw.refl _⟩
  .let⟨r,m,j⟩:=R.back q hr;let⟨i,z1,z2⟩:=o r m u uh;exact⟨i,z1,z2.trans j⟩
theorem XP.now(R:XP S C b L T w g M)(ht:t+1<=T)(hN:Bc (w t) κ):∃X,X<5/\∃r,((w t).Za X).Zc=aV r/\(κ=(r.b,-1)\/(κ=(r.b,-2)/\Zj ((w t).Za X).Zn.p r.b)\/∃s:Nat,κ=(r.b,(s:Int))/\∃r',((w (t+1)).Za X).Zc=aV r'/\Has r'.ZQ (s:Int))/\((∃m∈(step ((w t).Za X)).ls,Rq m)\/κ=(r.b,-2)):=by
 have P:=R.at t;have J:=R.ti t uh;rcases hN with⟨i,hi,m,E,Z,rfl⟩|⟨i,hi,o,a,vs,hp,rfl⟩
 .let⟨o,⟨r,hr,hk⟩,_⟩:=Sw hi R.hC R.hb (P.nd i hi) (P.JC i hi) J.a (J.nd i hi) (fun l hl=>⟨(P.JC i hi l hl).li,J.JC i hi l hl⟩) E Z;refine⟨i,hi,r,hr,?_,.inl ⟨m,E,Z⟩⟩;rcases hk with⟨k0,e⟩|⟨G,e⟩
  .exact .inl (by rw[Lc k0,e])
  .have y:=(P.nd i hi).up;let⟨d,ed⟩:=ZO ((Zw ((w t).Za i) ((w t).Za i).Zd).n);have gH:m∈(YH d).ls:=by
    rw[Xi y o,<-ed]at E;rcases a7.1 E with q|q
    .exact absurd G (PU _ _ m q).2
    .exact q
   rcases LP d with⟨_,z⟩|⟨O,h1,_,_,_,h5,h6,_⟩
   .grind
   .let⟨s,_,q⟩:=bn.1 (h6 m gH G);let⟨x,j,hx,_,_,em⟩:=Su q;refine .inr (.inr ⟨s,by rw[ON G,e,em];rfl,Xs d O,?_,UG hx⟩);rw[R.a,(Vb hi y).2.2,Xi y o,<-ed];exact h5
 .have T1:=R.ti (t+1) ht;have pe:((w (t+1)).Za i).Zo=aV (.Zn a vs true):=by rw[R.a,(Vb hi (P.nd i hi).up).2.1];exact hp
  let⟨b',ea,_,_,hc⟩:=(T1.nd i hi).Zo _ pe;let⟨O,LX,e1⟩:=hc rfl;let⟨r,q1,V⟩:=R.back hi LX;refine⟨i,hi,r,q1,.inr (.inl ⟨by rw[ea,<-e1,V.b],?_⟩),.inr (by rw[ea,<-e1,V.b])⟩;have y:=(P.nd i hi).up;have K:=Jm _ _ o.2;have Pd:=(XH (Jf (C:=C) (b:=b) (L:=L) hi R.hC R.hb) _ _ (P.nd i hi) (P.JC i hi)).1;have D:=(YD o.2 Pd.ZZ).1;have es:(step ((w t).Za i)).n=(YH (Zw ((w t).Za i) ((w t).Za i).Zd).n).n:=by rw[Xi y o]
  rw[es]at hp;rcases D.Zo with⟨z,_⟩|⟨r2,a0,c1,_⟩
  .grind
  grind [YT.back,YT.Zn,Yw.b,JM.k]
theorem XP.cover(R:XP S C b L T w g M)(O:X<5)(q:∀t,t<=T->∀r,((w t).Za X).Zc=aV r->(∀s:Nat,Has r.ZQ (s:Int)->s<40)/\(Hy r.ZQ).length<=k):∃D:List Nat,(aq D)<=k/\∀t,t<=T->∀r,((w t).Za X).Zc=aV r->∀s:Nat,Has r.ZQ (s:Int)->s∈D:=by
 have key:∀u,u<=T->∃D:List Nat,(aq D)<=k/\∀t,t<=u->∀r,((w t).Za X).Zc=aV r->∀s:Nat,Has r.ZQ (s:Int)->s∈D:=by
  intro u
  induction u with
  | zero=>
   intro _
   cases hr:((w 0).Za X).Zc with
   | none=>exact⟨[],bc _,fun t o r h=>by grind⟩
   | some i=>
    let⟨z,y⟩:=q 0 uh i hr
    grind [Has,Hy]
  | succ u V=>
   intro J
   cases hr:((w (u+1)).Za X).Zc with
   | none=>
    grind
   | some i=>
    let⟨z,y⟩:=q (u+1) J i hr;refine⟨Hy i.ZQ,y,fun t o r h s K=>?_⟩;let⟨P,m,E⟩:=R.Qn O (u+1) i hr t o;rw[h]at m;obtain rfl:=aag m;let⟨x,G⟩:=Jr K;have j:Has i.ZQ (s:Int):=UG (E.ZQ _ _ G);exact a9.2 ⟨aW.2 (z s j),by unfold Has at j;grind⟩
 exact key T (a8 _)
end
structure CDx(d:ZN)(X:Nat)(w:Wd):Prop where
 Zn:(w.Za X).Zn.p≠d
 DL:∀p,(w.Za X).Zo=aV p->(YM p).p≠d
 box:∀l∈bx w X,UJ d l
 Rd:∀r,(w.Za X).Zc=aV r->r.b≠d
def UNd(d:ZN)(n:Nd):Prop:=n.Zn.p≠d/\(∀p,n.Zo=aV p->(YM p).p≠d)/\∀r,n.Zc=aV r->r.b≠d
section
variable {S:Cm->Prop} {C:List Cm} {b d:ZN} {L X T t:Nat} {w:Nat->Wd} {g:Nat->Gh} {M:Nat->Nat->ZN} {n:Nd}
theorem Zep(s:X<5)(hC:(aq C)<=100000)(hb:Zv b):Laws (fun n=>PN C b L X n/\UNd d n) (fun l=>PJ C b l/\UJ d l) (PJ C b):=by
 have W:=Jf (C:=C) (b:=b) (L:=L) (X:=X) s hC hb;refine⟨fun n k h=>⟨W.box n k h.1,h.2⟩,fun n l h i o=>?_,fun n h i=>?_,fun n p h i=>?_⟩
 .let⟨m,j⟩:=W.pL n l h.1 i o.1;refine⟨⟨m,by rw[OC];exact h.2.1,?_⟩,j⟩;rcases (YE n l).2 with K|⟨k0,_,_,_,e⟩|⟨y,_,_,_,e⟩
  .grind [YT.Zo,YT.back,Yw.b,JM.k,UNd]
  .grind [YM,NZ,UJ,UNd]
  grind [YM,N0,UJ,UNd]
 .let⟨m,j⟩:=W.dty n h.1 i;have D:=(YD i h.1.ZZ).1;refine⟨⟨m,by rw[D.Zn];exact h.2.1,fun p q=>?_,fun r q=>?_⟩,j⟩
  .rcases D.Zo with⟨e,_⟩|⟨r,hr,E,_,_,e⟩
   .grind
   grind [YM,UNd,PN.pr0,PN.may,Q6]
  grind [WK.Rd,Yw.b,UNd]
 .let⟨m,j⟩:=W.fin n p h.1 i;refine⟨⟨m,?_,fun q z=>?_,fun r q=>?_⟩,j⟩
  .have e:(Yc (ZE n) p).n.Zn=YM p:=by cases p<;>rfl
   rw[e];exact h.2.2.1 p i
  .have e:(Yc (ZE n) p).n.Zo=bb:=by cases p<;>rfl
   grind
  .cases p with
   | QB a to G vs=>exact h.2.2.2 r q
   | Us a to v=>exact h.2.2.2 r q
   | Zn a vs cur=>
    have q:(if cur=true then n.Zc.map (fun r=>{ r with c:=ins r.c n.me vs }) else n.Zc)=aV r:=q;split at q
    .cases z:n.Zc with
     | none=>grind
     | some x=>
      grind [UNd]
    .exact h.2.2.2 r q
theorem XP.cdx(R:XP S C b L T w g M)(j:X<5)(h:CDx d X (w t))(E:∀i,i<5->∀m∈(step ((w t).Za i)).ls,UJ d m):CDx d X (w (t+1)):=by
 have P:=R.at t;have q:=(P.nd X j).up;let⟨⟨_,D,y,x⟩,_,q4⟩:=PT (Zep (d:=d) j R.hC R.hb) q ⟨P.nd X j,h.Zn,h.DL,h.Rd⟩ fun l o=>⟨P.JC X j l o,h.box l (a7.2 (.inl o))⟩
 have e:=Qg (w t) X j q;rw[<-R.a]at e;refine⟨zK,zK,fun l o=>?_,zK⟩;rw[R.a]at o;rcases pX j q o with z|⟨z,s⟩
 .exact h.box l (a7.2 (.inl (q4 l z)))
 .rcases JI.1 z with z|⟨i,hi,z⟩
  .exact h.box l (a7.2 (.inr (a9.2 ⟨z,zK⟩)))
  grind
theorem qc{l:Yt}(i:¬UJ d l):Rq l/\(l.a=0/\l.b=d\/l.a=2/\l.v.b=d):=by
 unfold UJ at i
 grind [Rq]
theorem jP{i:Nat}(hi:i<5)(hC:(aq C)<=100000)(hb:Zv b)(h:PN C b L i n)(x:∀l∈n.Zd,PJ C b l){m:Yt}(j:m∈(step n).ls)(y:Rq m):Qm n/\(∃r,n.Zc=aV r/\n.Zn.p=r.b)/\(step n).n.Zn=n.Zn/\(step n).n.Zo=bb:=by
 have o:Qm n:=aX fun q=>by
  let⟨z1,z2⟩:=D4 h.up q m j;exact y.elim z1 z2
 let⟨d,s⟩:=ZO ((Zw n n.Zd).n);have K:YT n d:=by rw[s];exact Jm _ _ o.2
 have Z:PN C b L i d:=by rw[s];exact (XH (Jf hi hC hb) _ _ h x).1
 have J:d.Zo=bb:=by rw[s];exact o.2
 let⟨D,O⟩:=YD J Z.ZZ;have es:(step n).n=(YH d).n:=by rw[Xi h.up o,s]
 have j:m∈(YH d).ls:=by
  rw[Xi h.up o,<-s]at j;rcases a7.1 j with q|q
  .grind [PU,Rq]
  .exact q
 let⟨r,hr,V,P,_⟩:=O m j y;let⟨z,G,E⟩:=K.back hr;refine⟨o,⟨z,G,?_⟩,by rw[es,D.Zn,K.Zn],?_⟩
 .rw[<-K.Zn,<-E.k.b];exact UW P V
 .rw[es];rcases D.Zo with⟨e,_⟩|⟨r1,z1,z2,_⟩
  .exact e
  grind
theorem XP.ez(R:XP S C b L T w g M){D:Nat->ZN}{β:ZN}{t0:Nat}(V:∀t,t0<=t->(w t).b=[])(may:∀X,X<5->Zj β (D X)->Zv (D X))(dies:∀Y,Y<5->∀t,t<=T->∀r,((w t).Za Y).Zc=aV r->Zj β r.b->Zj r.b (D Y))(fin:∀X,X<5->Zj β (D X)->∀t,t<=T->CDx (D X) X (w t)->(∀u,t<=u->u<T->∀i,i<5->∀m∈(step ((w u).Za i)).ls,UJ (D X) m)->False):
  ∀k X,X<5->Zj β (D X)->400000-yq (D X)<=k->∀t,t0<=t->t<T->∀m∈(step ((w t).Za X)).ls,¬Rq m:=by
 intro k
 induction k with
 | zero=>
  grind [yq,Zv]
 | succ k ih=>
  intro X j z hk t h1 ht m hm hq;have P:=R.at t;let⟨hf,⟨r,hr,ho⟩,e1,e2⟩:=jP j R.hC R.hb (P.nd X j) (P.JC X j) hm hq;have hu:=(P.nd X j).up;have ne:r.b≠D X:=fun e=>by
   grind [Yv]
  have quiet:∀u,t<=u->u<T->∀i,i<5->∀m∈(step ((w u).Za i)).ls,UJ (D X) m:=fun u Z O i hi x hx=>aX fun q=>by
   let⟨o,hd⟩:=qc q;have J:=R.at u;have G:=R.ti u uh;let⟨_,⟨K,LX,y⟩,_⟩:=Sw hi R.hC R.hb (J.nd i hi) (J.JC i hi) G.a (G.nd i hi) (fun l s=>⟨(J.JC i hi l s).li,G.JC i hi l s⟩) hx o;have eb:K.b=D X:=by
    rcases y with⟨k0,e⟩|⟨k2,e⟩
    .grind
    .grind
   have E:=dies i hi u uh K LX zK;rw[eb]at E;have hz:Zj β (D i):=Lb z E;have:=cF (may X j z) (may i hi hz) E
   grind
  refine fin X j z (t+1) ht ?_ (fun u Z O=>quiet u uh O);have e:=Qg (w t) X j hu;rw[<-R.a]at e;have fl:=V t h1;refine⟨zK,fun p hp=>?_,fun l s=>?_,fun r' Mv=>?_⟩
  .grind
  .grind [bx,Vv,JI]
  .let⟨r0,z1,z2⟩:=R.back j Mv
   grind [Yw.b]
theorem XP.Cc(R:XP S C b L T w g M)(q:X<5)(h:CDx d X (w t))(o:∀u,t<=u->u<T->∀i,i<5->∀m∈(step ((w u).Za i)).ls,UJ d m):∀u,t<=u->u<=T->CDx d X (w u):=by
 intro u
 induction u with
 | zero=>grind
 | succ u j=>
  intro x s;by_cases e:t=u+1
  .grind
  .exact R.cdx q (j uh uh) (o u uh uh)
end
open Classical in
noncomputable def Cp (v:Vw):List Nat:=(aw 40).filter fun s=>decide (Uv v s)
open Classical in
noncomputable def WN (v:Vw):List Nat:=(aw 40).filter fun s=>decide (Vy v s)
noncomputable def MO (v:Vw) (c:Nat):Nat:=min 40 ((Cp v).length+gT v+1+c)
noncomputable def Ur (v:Vw) (c i:Nat):Nat:=min (MO v c) (c*(i+1)+(WN v).length)
noncomputable def JW (v:Vw) (c:Nat):Nat:=min (MO v c) (c*v.B.length+(WN v).length)
section
variable {C Cs:List Cm} {v:Vw} {w:Wd} {c X:Nat} {n:Nd}
theorem qe{s k:Nat}(h:RU (Uv v) s k)(i:s<=40):s<=k+(Cp v).length:=by
 classical
 have m:=FP h;have j:=GR (P:=Uv v) i
 grind [Cp]
theorem qf{s k:Nat}(h:RU (Vy v) s k)(i:s<=40):s<=k+(WN v).length:=by
 classical
 have m:=FP h;have j:=GR (P:=Vy v) i
 grind [WN]
theorem Iy(W:WV C v w):6*v.B.length+2*(Cp v).length+4*(WN v).length<=v.H.length/\v.B.length<=v.K.length:=by
 classical
 obtain⟨U,o⟩:∃U,U=(aw 40).filter fun s=>decide (Uv v s):=⟨_,rfl⟩
 obtain⟨H,D⟩:∃H,H=U.filter fun s=>decide (Vy v s):=⟨_,rfl⟩
 let⟨L,K,J,G⟩:=grp v.H (fun x=>if x.2.2.1 = -1 then (Sum.inl x.2.1:ZN ⊕ Nat) else Sum.inr x.2.2.1.toNat) (fun g=>match g with|.inl _=>6|.inr s=>if Vy v s then 6 else 2) (v.B.map Sum.inl++U.map Sum.inr) (by
  grind [WV.nB,List.nodup_range]) (fun g j=>by
  rcases a7.1 j with j|j
  .obtain⟨b,hb,rfl⟩:=bf.1 j;let⟨_,Q,q,d⟩:=W.bg b hb;let⟨L,Z,V,P⟩:=six q d
   grind
  .obtain⟨s,m,rfl⟩:=bf.1 j;have id:∀x:Nat × ZN × Int × Bool,x.2.2.1=(s:Int)->(if x.2.2.1 = -1 then (Sum.inl x.2.1:ZN ⊕ Nat) else Sum.inr x.2.2.1.toNat)=Sum.inr s:=fun x e=>by
    grind
   by_cases c:Vy v s
   .let⟨b,Q,q,d⟩:=c;let⟨L,Z,V,P⟩:=six q d
    grind
   .rw[o]at m;let⟨i,b,d1,d2⟩:=of_decide_eq_true (a9.1 m).2;refine⟨[(i,b,s,false),(i,b,s,true)],zX,fun x z=>?_,zK⟩
    grind)
 have hlen:=YS K fun x z=>(J x z).1;have e1:((v.B.map (Sum.inl:ZN->ZN ⊕ Nat)).map fun g=>match g with|.inl _=>6|.inr s=>if Vy v s then 6 else 2).sum=6*v.B.length:=by
  generalize v.B=B
  induction B with
  | nil=>rfl
  | cons b B O=>grind
 have e2:∀U:List Nat,((U.map (Sum.inr:Nat->ZN ⊕ Nat)).map fun g=>match g with|.inl _=>6|.inr s=>if Vy v s then 6 else 2).sum=2*(aq U)+4*(U.filter fun s=>decide (Vy v s)).length:=by
  intro U
  induction U with
  | nil=>rfl
  | cons s U O=>
   grind
 rw[bw,bA,e1,e2,<-D]at G;have e3:(WN v).length<=(aq H):=by
  unfold WN;refine YS (List.nodup_range.filter _) fun s m=>?_;let⟨E,y⟩:=a9.1 m;rw[D,o];exact a9.2 ⟨a9.2 ⟨E,decide_eq_true (of_decide_eq_true y).u⟩,y⟩
 have e4:(Cp v).length=(aq U):=by unfold Cp;rw[o]
 exact⟨uh,YS W.nB fun b hb=>(W.bg b hb).1⟩
theorem cY{x:Vt}(h:SX v c c x):∃i,i<v.B.length/\v.B[i]? = aV x.b/\x.Zx.toNat<Ur v c i/\x.Zx<((JW v c:Nat):Int):=by
 let⟨s,q,i,o,m,j⟩:=h;have hi:=(br.1 o).1;have D:=qf m uh;have z:=qe j uh;have y:c*(i+1)<=c*v.B.length:=bh _ hi
 grind [Ur,JW,MO]
theorem SX.less{d i:Nat}{x:Vt}(h:SX v c d x)(q:d<=i):SX v c i x:=by
 grind [SX,RU.up]
theorem jQ(v:Vw)(c:Nat):∃Ks:List (ZN × Int),(aq Ks)<=v.K.length+((aw v.B.length).map (Ur v c)).sum/\(∀b∈v.K,(b,-1)∈Ks)/\∀x:Vt,SX v c c x->(x.b,x.Zx)∈Ks:=by
 refine⟨v.K.map (fun b=>(b,-1))++(aw v.B.length).flatMap (fun i=>(aw (Ur v c i)).map fun s=>((v.B[i]?).getD Y2,((s:Nat):Int))),?_,fun b hb=>a7.2 (.inl (bf.2 ⟨b,hb,rfl⟩)),fun x j=>?_⟩
 .rw[bW,bp,bK];have:((aw v.B.length).map fun i=>((aw (Ur v c i)).map fun s=>((v.B[i]?).getD Y2,((s:Nat):Int))).length)=(aw v.B.length).map (Ur v c):=by
   congr 1
   funext i
   rw[bp,bY]
  grind
 .let⟨i,hi,o,m,_⟩:=cY j;have q:=j.1
  grind
theorem RV.rz{r:XR}{kn:List (Int × Cm)}(V:RV Cs v X kn r)(y:∀t:Nat,Has kn t->Vy v t)(hb:r.a=true):∃i e,v.B[i]? = aV r.b/\Rz Cs (Vy v) (JW v (aq Cs)) kn r.ZQ e/\(∀s:Nat,Has r.ZQ (s:Int)->s<JW v (aq Cs)) /\
  ∀pr kn',Rz Cs (Vy v) (JW v (aq Cs)) kn' pr e->(Hy pr).length<=Ur v (aq Cs) i:=by
 classical
 let⟨i,e,E,D,o,R⟩:=V.T7 hb;have hi:=(br.1 E).1;have a3:(aq Cs)*(i+1)<=(aq Cs)*v.B.length:=bh _ hi;let⟨j,J⟩:=ZO (min e 40);have f1:RU (Vy v) j ((aq Cs)*i):=D.up (fun _ h=>h) uh (a8 _);have f2:RU (Uv v) j (gT v+1):=o.up (fun _ h=>h) uh (a8 _);have b1:=qf f1 uh;have b2:=qe f2 uh;have em:(aq Cs)*(i+1)=(aq Cs)*i+(aq Cs):=by rw[Nat.mul_add,Nat.mul_one]
 refine⟨i,j,E,⟨R.SF,fun s x q h=>?_,fun s t x O G o z=>?_,.inl ?_⟩,fun s m=>?_,fun pr kn' Z=>?_⟩
 .have:=(R.SF s (UG h)).1;exact R.cmd s x uh h
 .have:=(R.SF t (UG z)).1;exact R.inj s t x uh G o z
 .unfold JW MO;omega
 .have K:=(R.SF s m).1;have c1:=qf (R.ig (fun _ h=>h) y D m) uh;have c2:=qe (R.ig (fun _ h=>h.u) y o m) uh;unfold JW MO;omega
 .have d0:(Hy pr).length<=40:=by unfold Hy;exact Nat.le_trans (List.length_filter_le ..) zK
  have parts:∀P:Nat->Prop,((aw j).filter fun s=>decide (P s)).length+(((aw 40).filter fun s=>decide (P s)).filter fun s=>decide (j<=s)).length=((aw 40).filter fun s=>decide (P s)).length:=fun P=>by
   rw[MB j ((aw 40).filter fun s=>decide (P s))]
   congr 1
   refine Nat.le_antisymm (YS (List.nodup_range.filter _) fun s m=>?_) (YS ((List.nodup_range.filter _).filter _) fun s m=>?_)
   .grind
   grind
  have p1:=parts (Vy v);have p2:=parts (Uv v);have g1:=FP f1;have g2:=FP f2;have ec:(WN v).length=((aw 40).filter fun s=>decide (Vy v s)).length:=rfl;have eu:(Cp v).length=((aw 40).filter fun s=>decide (Uv v s)).length:=rfl;have z1:=Z.all (a8 _);have z2:=Z.all (k:=(((aw 40).filter fun s=>decide (Uv v s)).filter fun s=>decide (j<=s)).length) (YS ((List.nodup_range.filter _).filter _) fun s m=>by
   grind [Vy.u])
  grind [Hy,Ur,MO]
end
def tP(c m chi u:Nat):Nat:=min 40 ((100-8*m-u-c-4*chi)/2+5+c)
def tG(c m chi u:Nat):Nat:=min 40 (min (tP c m chi u) (c*m+chi)+6*c)
def Zrr(c m chi u v:Nat):Bool:=decide (8*m+u+c+6*chi<=100/\u+v<=4->m+u+DU c m chi (tP c m chi u)+u*(tG c m chi u+2)+v*(min (tP c m chi u) (c*m+chi)+1)+2*(tG c m chi u+2)+10<100+20*(c+m+u+1))
def zq:((aw 6).all fun c=>(aw 12).all fun m=>(aw 16).all fun chi=>decide (86<8*m+c+6*chi)||(aw 5).all fun u=>(aw 5).all fun v=>Zrr (c+1) (m+1) (chi+1) u v)=true:=by
 decide +kernel
theorem Zer{c m chi u v:Nat}(hc:1<=c/\c<7)(D:1<=m)(E:1<=chi)(j:u+v<=4)(h:8*m+u+c+6*chi<=100):
  m+u+DU c m chi (tP c m chi u)+u*(tG c m chi u+2)+v*(min (tP c m chi u) (c*m+chi)+1)+2*(tG c m chi u+2)+10<100+20*(c+m+u+1):=by
 have z:=zq;rw[ba]at z;have y:=z (c-1) (aW.2 uh);rw[ba]at y;have x:=y (m-1) (aW.2 uh);rw[ba]at x;have i:=x (chi-1) (aW.2 uh);rw[bE]at i;have i:=i.resolve_left fun q=>by grind
 rw[ba]at i;have s:=i u (aW.2 uh);rw[ba]at s;have o:=s v (aW.2 uh);rw[show c-1+1=c by omega,show m-1+1=m by omega,show chi-1+1=chi by omega]at o;exact of_decide_eq_true o ⟨h,j⟩
section
variable {S:Cm->Prop} {C Cs:List Cm} {F:Nat->Prop} {b:ZN} {L L' X T t N N2:Nat} {w w1 w2:Nat->Wd} {g g1 g2:Nat->Gh} {M M1 M2:Nat->Nat->ZN} {KB Ks:List (ZN × Int)} {κ:ZN × Int}
theorem XP.okl(R:XP S C b L T w g M)(hS:∀x,S x->x.err=0)(J:∀X,X<5->∀l∈bx (w 0) X,l.a=0->Zv l.b):∀t,t<=T->∀X,X<5->∀l∈bx (w t) X,tX l:=by
 have key:∀t,t<=T->∀X,X<5->∀l∈bx (w t) X,l.a=0->Zv l.b:=by
  intro t
  induction t with
  | zero=>grind
  | succ t D=>
   intro s X j l m k0;have P:=R.at t;have o:=R.ti t uh;rw[R.a]at m;rcases pX j (P.nd X j).up m with z|⟨z,G⟩
   .exact D uh X j l (a7.2 (.inl ((Vx P R.hC R.hb j).2.2 l z))) k0
   .rcases JI.1 z with z|⟨i,hi,z⟩
    .exact D uh X j l (a7.2 (.inr (a9.2 ⟨z,zK⟩))) k0
    .let⟨_,⟨r,hr,q⟩,_⟩:=Sw hi R.hC R.hb (P.nd i hi) (P.JC i hi) o.a (o.nd i hi) (fun l m=>⟨(P.JC i hi l m).li,o.JC i hi l m⟩) z (.inl k0);rcases q with⟨_,e⟩|⟨y,_⟩
     .rw[e];exact (P.nd i hi).may r hr
     .omega
 intro t s X j l m;refine⟨key t s X j l m,fun y=>?_⟩;have P:=R.at t;have o:=R.ti t s;have E:Qt C l/\LR S (g t) (M t) l:=by
  rcases a7.1 m with z|z
  .exact⟨(P.JC X j l z).li,o.JC X j l z⟩
  .have z:=(a9.1 z).1;exact⟨(P.WM l z).li,o.WM l z⟩
 exact tM o.a hS E.1 E.2 y
theorem Wm(n:Nd):(∀p,XM n.Zo=aV p->∃p0,n.Zo=aV p0/\YM p=YM p0)/\(XM n.Zo=bb↔n.Zo=bb):=by
 cases e:n.Zo with
 | none=>exact⟨fun p h=>(by cases h),.rfl⟩
 | some p0=>exact⟨fun p h=>⟨p0,rfl,by cases p0<;>cases h<;>rfl⟩,by cases p0<;>exact⟨fun h=>(by cases h),fun h=>by cases h⟩⟩
def UH(n:Nd):Nd:={ n with Zc:=aV ⟨Yl n,[],false,[],[]⟩,Zo:=XM n.Zo }
theorem cZ{n:Nd}(i:n.up=true)(h:(Yl n).r<=65536):lead n=UH n:=by
 grind [lead,UH]
theorem Cd(n:Nd):Xa (UH n)=Xa n:=by
 grind [Wm,Xa,UH]
theorem XP.Hz(R:XP S C b L T w g M)(m:X<5){u:Nat}{r:XR}(hr:((w u).Za X).Zc=aV r)(o:u<=t):EQ r.b Any ((w t).Za X):=by
 have key:∀j,EQ r.b Any ((w (u+j)).Za X):=by
  intro j
  induction j with
  | zero=>exact .inl ⟨r,hr,rfl,trivial⟩
  | succ j i=>exact R.Zek m PZ i
 have:=key (t-u)
 grind
theorem IB(R:XP S C b L T w g M)(j:X<5){u:Nat}{r:XR}(hr:((w u).Za X).Zc=aV r)(i:u<=t):r.b.r<(Yl ((w t).Za X)).r:=by
 rcases R.Hz j hr i with⟨m,s,o,_⟩|q
 .grind [Yl]
 .unfold Zj at q;unfold Yl
  grind
theorem Zme(R1:XP S C b L' N w1 g1 M1)(R2:XP S C b L' N2 w2 g2 M2)(hL:L<5)(link:w2 0=(w1 N).set L (UH ((w1 N).Za L)))(J:∀t,t<=N->∀X,X<5->∀l∈bx (w1 t) X,tX l)(G:∀t,t<=N2->∀X,X<5->∀l∈bx (w2 t) X,tX l)(hKs:∀X,X<5->∀l∈bx (w1 0) X,Rq l->Jw l∈Ks)(Tb:∀t,t<N->∀κ,Bc (w1 t) κ->κ∈KB)(Od:∀t,t<N2->∀κ,Bc (w2 t) κ->κ∈KB):OY w1 N+OY w2 N2<=2*(aq Ks)+2*(aq KB)+3:=by
 have Z:UI (2*(aq Ks)+1+2*(aq KB)) 0 KB (fun _=>False) (w1 0):=UI.start hKs;have V:=R1.union (fun t i X m l j=>J t i X m l (a7.2 (.inl j))) Tb Z N (a8 _);have P:UI (2*(aq Ks)+1+2*(aq KB)+1) (0+OY w1 N) KB (fun κ=>False\/∃u,u<N/\Bc (w1 u) κ) (w2 0):=by
  rw[link];refine V.lead (Cd _) (Wm _).2 rfl fun r hr E=>?_;obtain rfl:=aag hr;rcases E with q|⟨u,D,q⟩
  .exact q.elim
  .exfalso;let⟨Y,x,o,y,q,_⟩:=R1.now D q;have K:(Yl ((w1 N).Za L))=o.b:=by
    rcases q with q|⟨q,_⟩|⟨s,q,_⟩
    .grind
    .grind
    .grind
   have z:=(((R1.ti u uh).nd Y x).Zc o y).ZM;have n2:(Yl ((w1 N).Za L)).n=L:=by show (((w1 N).Za L).me:Int)=L;rw[((R1.at N).nd L hL).ni.me]
   rw[K,z]at n2;have:Y=L:=uh;subst this;have:=IB R1 x y (t:=N) uh
   grind
 have O:=R2.union (fun t i X m l j=>G t i X m l (a7.2 (.inl j))) Od P N2 (a8 _);have:=O.ig;omega
end
def P9(b:ZN)(G:Nat):List (ZN × Int):=(b,-1) :: (b,-2) :: (aw G).map fun s:Nat=>(b,(s:Int))
theorem HC(b:ZN)(G:Nat):(P9 b G).length=G+2:=by unfold P9;simp
structure Sta(Cs:List Cm)(F:Nat->Prop)(p0 L:Nat)(e:Nat->Nat)(w:Wd):Prop where
 gw:Gw Cs F p0 p0 e (fun _=>0) w
 zp:∀s,p0<=s->¬F s
 beg:∀X,X<5->X≠L->∀r,(w.Za X).Zc=aV r->r.a=true->(∀pr kn,Rz Cs F p0 kn pr (e X)->(Hy pr).length<=p0)/\¬Zj (w.Za X).Zn.p r.b
 new:∀r,(w.Za L).Zc=aV r->r.a=false
 has:∃r,(w.Za L).Zc=aV r
section
variable {S:Cm->Prop} {C Cs:List Cm} {F:Nat->Prop} {b:ZN} {L L' X T t N N2 p0:Nat} {w1 w2:Nat->Wd} {g1 g2:Nat->Gh} {M1 M2:Nat->Nat->ZN} {KB Ks:List (ZN × Int)} {e:Nat->Nat}
open Classical in
noncomputable def Bd (w:Wd):Nat:=Jg fun X=>if (w.Za X).Zc=bb then 0 else 1
structure Md(S:Cm->Prop)(C Cs:List Cm)(F:Nat->Prop)(b:ZN)(L' L p0 N N2:Nat)(e:Nat->Nat)(w1 w2:Nat->Wd)(g1 g2:Nat->Gh)(M1 M2:Nat->Nat->ZN):Prop where
 R1:XP S C b L' N w1 g1 M1
 R2:XP S C b L' N2 w2 g2 M2
 hL:L<5
 link:w2 0=(w1 N).set L (UH ((w1 N).Za L))
 hS:∀x,S x->x.err=0
 OX:∀x,S x->x∈Cs
 k0:∀X,X<5->∀l∈bx (w1 0) X,l.a=0->Zv l.b
 qg:Sta Cs F p0 L e (w1 0)
 f1:∀t,t<=N->∀X,X<5->∀u,u<((w1 t).Za X).ZF.length->F u
 f2:∀t,t<=N2->∀X,X<5->∀u,u<((w2 t).Za X).ZF.length->F u
namespace Md
variable (W:Md S C Cs F b L' L p0 N N2 e w1 w2 g1 g2 M1 M2)
include W
theorem at0(X:Nat)(i:X≠L):(w2 0).Za X=(w1 N).Za X:=by
 rw[W.link];show (if X=L then _ else _)=_
 grind
theorem bx0(X:Nat):bx (w2 0) X=bx (w1 N) X:=by
 rw[W.link]
 grind [bx,Wd.set,UH]
def ok1:∀t,t<=N->∀X,X<5->∀l∈bx (w1 t) X,tX l:=W.R1.okl W.hS W.k0
def ok2:∀t,t<=N2->∀X,X<5->∀l∈bx (w2 t) X,tX l:=W.R2.okl W.hS fun X j l i k=>by
 rw[W.bx0]at i;exact (W.ok1 N (a8 _) X j l i).1 k
def Zes:∀t,t<=N->∃j i,Gw Cs F p0 p0 j i (w1 t)/\(∀X,X<5->(∃r,((w1 0).Za X).Zc=aV r/\r.a=true)->j X=e X/\∀r,((w1 t).Za X).Zc=aV r->r.a=true)/\∀X,X<5->((w1 0).Za X).Zc=bb->((w1 t).Za X).Zc=bb/\i X=0:=
 W.R1.Cb W.OX W.f1 (a8 _) W.qg.zp W.qg.gw
open Classical in
omit W in
theorem t9(f:Nat->Nat)(w:Wd)(j:∀X,X<5->f X<=(aq Cs))(i:∀X,X<5->(w.Za X).Zc=bb->f X=0):Jg f<=(aq Cs)*Bd w:=by
 grind [Jg,Bd]
theorem Zjy:∃(o:Nat->Nat) (B:Nat),p0<=B/\(∀X,X<5->X≠L->(∃r,((w1 0).Za X).Zc=aV r/\r.a=true)->o X=e X/\∀r,((w1 N).Za X).Zc=aV r->r.a=true) /\
  ∀t,t<=N2->∃s j,Gw Cs F p0 B s j (w2 t)/\(∀X,X<5->(∃r,((w2 0).Za X).Zc=aV r/\r.a=true)->s X=o X/\∀r,((w2 t).Za X).Zc=aV r->r.a=true)/\B+Jg j<=p0+(aq Cs)*(Bd (w1 0)+1):=by
 let⟨o,O,G,h,J⟩:=W.Zes N (a8 _);have y:=G.lead W.hL (m:=UH ((w1 N).Za L)) rfl (.inr (Wm _).1) rfl fun r hr=>by
  grind [UH,YF]
 rw[<-W.link]at y;refine⟨o,p0+O L,b7 _ _,fun X i _ K=>h X i K,fun t E=>?_⟩;let⟨s,j,x,D,P⟩:=W.R2.Cb W.OX W.f2 (b7 _ _) W.qg.zp y t E;refine⟨s,j,x,D,?_⟩;have z:=t9 j (w1 0) (fun X i=>(x.nd X i).le) fun X i q=>by
  let⟨Z,V⟩:=J X i q;by_cases c:X=L
  .subst c;let⟨r,hr⟩:=W.qg.has
   grind
  grind [Md.at0]
 have:=(G.nd L W.hL).le
 grind
theorem Zjz{G:Nat}(D:G=min 40 (p0+(aq Cs)*(Bd (w1 0)+1))){t X:Nat}(x:t<=N)(i:X<5){r:XR}(hr:((w1 t).Za X).Zc=aV r){s:Nat}(j:Has r.ZQ (s:Int)):s<G/\s<40/\r.a=true:=by
 let⟨O,z,o,_,y⟩:=W.Zes t x;have m:=o.nd X i;have K:=m.ZQ r hr s j;have J:=t9 z (w1 0) (fun X i=>(o.nd X i).le) fun X i q=>(y X i q).2;have hb:r.a=true:=aX fun q=>absurd (((W.R1.at t).nd X i).ZZ r hr (by simpa using q) s) j;have E:=((m.T7 r hr hb).1.SF s j).1
 grind
theorem Zet{G:Nat}(y:G=min 40 (p0+(aq Cs)*(Bd (w1 0)+1))){t X:Nat}(o:t<=N2)(j:X<5){r:XR}(hr:((w2 t).Za X).Zc=aV r){s:Nat}(i:Has r.ZQ (s:Int)):s<G/\s<40/\r.a=true:=by
 let⟨K,B,_,_,h⟩:=W.Zjy;let⟨O,J,x,_,z⟩:=h t o;have m:=x.nd X j;have E:=m.ZQ r hr s i;have hb:r.a=true:=aX fun q=>absurd (((W.R2.at t).nd X j).ZZ r hr (by simpa using q) s) i;have D:=((m.T7 r hr hb).1.SF s i).1
 grind
theorem cover(X:Nat)(i:X<5)(q:X≠L){m:XR}(G:((w1 0).Za X).Zc=aV m)(hb:m.a=true):∃D:List Nat,(aq D)<=p0/\(∀t,t<=N->∀r,((w1 t).Za X).Zc=aV r->∀s:Nat,Has r.ZQ (s:Int)->s∈D)/\∀t,t<=N2->∀r,((w2 t).Za X).Zc=aV r->∀s:Nat,Has r.ZQ (s:Int)->s∈D:=by
 have hd:=(W.qg.beg X i q m G hb).1;let⟨D1,V,P⟩:=W.R1.cover (k:=p0) i fun t j r hr=>by
  let⟨e',f',J,h,_⟩:=W.Zes t j;let⟨z1,z2⟩:=h X i ⟨m,G,hb⟩;have Z:=((J.nd X i).T7 r hr (z2 r hr)).1
  grind [Rz.SF]
 let⟨e0,B,_,he,h⟩:=W.Zjy;let⟨a1,a2⟩:=he X i q ⟨m,G,hb⟩
 cases o:((w1 N).Za X).Zc with
 | none=>
  refine⟨D1,V,P,fun t j r hr s K=>?_⟩;let⟨O,z,_⟩:=W.R2.Qn i t r hr 0 uh;rw[W.at0 X q,o]at z;cases z
 | some y=>
  have E:=a2 y o;let⟨D2,p1,p2⟩:=W.R2.cover (k:=p0) i fun t j r hr=>by
   let⟨e',f',J,h,_⟩:=h t j;let⟨z1,z2⟩:=h X i ⟨y,by rw[W.at0 X q];exact o,E⟩;have Z:=((J.nd X i).T7 r hr (z2 r hr)).1
   grind [Rz.SF]
  refine⟨D2,p1,fun t j r hr s K=>?_,p2⟩;let⟨O,z1,z2⟩:=W.R1.Qn i N y o t j;rw[hr]at z1;obtain rfl:=aag z1;let⟨x,hx⟩:=Jr K
  grind [Md.at0,UG,Yw.ZQ]
open Classical in
noncomputable def wt (_:Md S C Cs F b L' L p0 N N2 e w1 w2 g1 g2 M1 M2) (G X:Nat):Nat:=match ((w1 0).Za X).Zc with
 | none=>0
 | some r=>if r.a=true then p0+1 else G+2
theorem TO{G:Nat}(V:G=min 40 (p0+(aq Cs)*(Bd (w1 0)+1)))(X:Nat)(i:X<5):∃K:List (ZN × Int),(aq K)<=W.wt G X /\
  (∀t,t<N->∀r,((w1 t).Za X).Zc=aV r->∀κ:ZN × Int,(κ=(r.b,-1)\/(κ=(r.b,-2)/\Zj ((w1 t).Za X).Zn.p r.b)\/∃s:Nat,κ=(r.b,(s:Int))/\∃r',((w1 (t+1)).Za X).Zc=aV r'/\Has r'.ZQ (s:Int))->κ∈K) /\
  (X≠L->∀t,t<N2->∀r,((w2 t).Za X).Zc=aV r->∀κ:ZN × Int,(κ=(r.b,-1)\/(κ=(r.b,-2)/\Zj ((w2 t).Za X).Zn.p r.b)\/∃s:Nat,κ=(r.b,(s:Int))/\∃r',((w2 (t+1)).Za X).Zc=aV r'/\Has r'.ZQ (s:Int))->κ∈K):=by
 unfold wt
 cases P:((w1 0).Za X).Zc with
 | none=>
  refine⟨[],a8 _,fun t x r hr=>?_,fun j t x r hr=>?_⟩
  .let⟨O,z,_⟩:=W.R1.Qn i t r hr 0 uh
   grind
  .let⟨O,z,_⟩:=W.R2.Qn i t r hr 0 uh;rw[W.at0 X j]at z;let⟨r3,z,_⟩:=W.R1.Qn i N O z 0 uh
   grind
 | some m=>
  have b1:∀t r,((w1 t).Za X).Zc=aV r->r.b=m.b:=fun t r hr=>by
   let⟨O,z1,z2⟩:=W.R1.Qn i t r hr 0 uh
   grind [Yw.b]
  have Z:X≠L->∀t r,((w2 t).Za X).Zc=aV r->r.b=m.b:=fun j t r hr=>by
   let⟨O,z1,z2⟩:=W.R2.Qn i t r hr 0 uh;rw[W.at0 X j]at z1;rw[z2.b];grind
  simp only;by_cases hb:m.a=true
  .rw[if_pos hb];have j:X≠L:=fun q=>by
    subst q;have:=W.qg.new m P
    grind
   let⟨D,d1,d2,d3⟩:=W.cover X i j P hb;have E:=(W.qg.beg X i j m P hb).2;refine⟨(m.b,-1) :: D.map fun s:Nat=>(m.b,(s:Int)),zK,fun t x r hr κ h=>?_,fun _ t x r hr κ h=>?_⟩
   .have o:=b1 t r hr;rw[o]at h;rcases h with h|⟨_,h⟩|⟨s,h,r',J,y⟩
    .rw[h];simp
    .exact absurd h (W.R1.Vs i (t0:=0) E t (bc _))
    grind
   .have o:=Z j t r hr;rw[o]at h;rcases h with h|⟨_,h⟩|⟨s,h,r',J,y⟩
    .rw[h];simp
    .refine absurd h (W.R2.Vs i (t0:=0) ?_ t (bc _));rw[W.at0 X j];exact W.R1.Vs i (t0:=0) E N (bc _)
    grind
  .rw[if_neg hb];refine⟨P9 m.b G,Nat.le_of_eq (HC _ _),fun t x r hr κ h=>?_,fun j t x r hr κ h=>?_⟩
   .have o:=b1 t r hr;rw[o]at h;rcases h with h|⟨h,_⟩|⟨s,h,r',J,y⟩
    .rw[h];simp[P9]
    .rw[h];simp[P9]
    .rw[h];exact bd _ (bd _ (bf.2 ⟨s,aW.2 (W.Zjz V uh i J y).1,rfl⟩))
   .have o:=Z j t r hr;rw[o]at h;rcases h with h|⟨h,_⟩|⟨s,h,r',J,y⟩
    .rw[h];simp[P9]
    .rw[h];simp[P9]
    .rw[h];exact bd _ (bd _ (bf.2 ⟨s,aW.2 (W.Zet V uh i J y).1,rfl⟩))
theorem all_keys{G:Nat}(i:G=min 40 (p0+(aq Cs)*(Bd (w1 0)+1))):∃KB:List (ZN × Int),(aq KB)<=Jg (W.wt G)+(G+2)/\(∀t,t<N->∀κ,Bc (w1 t) κ->κ∈KB)/\∀t,t<N2->∀κ,Bc (w2 t) κ->κ∈KB:=by
 let⟨K0,a0,b0,c0⟩:=W.TO i 0 uh;let⟨Z,a1,b1,c1⟩:=W.TO i 1 uh;let⟨V,a2,b2,c2⟩:=W.TO i 2 uh;let⟨P,a3,b3,c3⟩:=W.TO i 3 uh;let⟨O,a4,b4,c4⟩:=W.TO i 4 uh;have E:∃r,((w2 0).Za L).Zc=aV r/\r.b=Yl ((w1 N).Za L):=by
  rw[W.link];exact⟨⟨Yl ((w1 N).Za L),[],false,[],[]⟩,by grind [Wd.set,UH],rfl⟩
 let⟨z,y,eL⟩:=E;refine⟨K0++Z++V++P++O++P9 z.b G,?_,fun t x κ m=>?_,fun t x κ m=>?_⟩
 .grind [Jg,HC]
 .let⟨X,j,r,hr,h,o⟩:=W.R1.now x m;clear o m;simp only[a7]
  match X,j with
  | 0,_=>grind
  | 1,_=>grind
  | 2,_=>grind
  | 3,_=>grind
  | 4,_=>grind
 .let⟨X,j,r,hr,h,o⟩:=W.R2.now x m;clear o m;simp only[a7];by_cases q:X=L
  .subst q;have J:r.b=z.b:=by
    let⟨r2,z1,z2⟩:=W.R2.Qn j t r hr 0 uh;rw[y]at z1;obtain rfl:=aag z1;exact z2.b
   rw[J]at h;refine .inr ?_;rcases h with h|⟨h,_⟩|⟨s,h,r',K,D⟩
   .rw[h];simp[P9]
   .rw[h];simp[P9]
   .rw[h];exact bd _ (bd _ (bf.2 ⟨s,aW.2 (W.Zet i uh j K D).1,rfl⟩))
  .match X,j with
   | 0,_=>grind
   | 1,_=>grind
   | 2,_=>grind
   | 3,_=>grind
   | 4,_=>grind
end Md
end
theorem WD(p:Nat->Bool):((aw 5).filter p).length=Jg fun X=>if p X=true then 1 else 0:=by
 have e:aw 5=[0,1,2,3,4]:=rfl
 grind [Jg]
theorem MD{f h:Nat->Nat}(q:∀X,X<5->f X<=h X):Jg f<=Jg h:=by
 grind [Jg]
theorem Zeu(a u v:Nat->Nat)(g p:Nat):Jg (fun X=>(a X+u X)*g+v X*p)=(Jg a+Jg u)*g+Jg v*p:=by
 unfold Jg
 grind
theorem Ce{L:Nat}(hL:L<5):Jg (fun X=>if X=L then 1 else 0)=1:=by
 grind [Jg]
structure Led(v:Vw)(L:Nat)(w:Wd):Prop where
 nB:v.B.Nodup
 bk:∀b∈v.B,b∈v.K
 rg:∀X,X<5->X≠L->∀r,(w.Za X).Zc=aV r->r.b∈v.K/\(r.a=false->r.b ∉ v.B)/\r.b.n=X
section
variable {S:Cm->Prop} {C Cs:List Cm} {F:Nat->Prop} {b:ZN} {L L' N N2 p0:Nat} {w1 w2:Nat->Wd} {g1 g2:Nat->Gh} {M1 M2:Nat->Nat->ZN} {Ks:List (ZN × Int)} {e:Nat->Nat} {v:Vw}
open Classical in
theorem Md.weights(W:Md S C Cs F b L' L p0 N N2 e w1 w2 g1 g2 M1 M2)(D:Led v L (w1 0))(G:Nat):∃u z,u+z<=4/\v.B.length+u<=v.K.length/\Jg (W.wt G)<=(1+u)*(G+2)+z*(p0+1)/\Bd (w1 0)<=5:=by
 obtain⟨i,K⟩:∃i:Nat->Bool,i=fun X=>decide (X≠L/\∃r,((w1 0).Za X).Zc=aV r/\r.a=false):=⟨_,rfl⟩
 obtain⟨m,J⟩:∃m:Nat->Bool,m=fun X=>decide (X≠L/\∃r,((w1 0).Za X).Zc=aV r/\r.a=true):=⟨_,rfl⟩
 have O:=Ce W.hL;refine⟨((aw 5).filter i).length,((aw 5).filter m).length,?_,?_,?_⟩
 .rw[WD,WD];have o:Jg (fun X=>(if i X=true then 1 else 0)+(if m X=true then 1 else 0)+(if X=L then 1 else 0))<=Jg fun _=>1:=MD fun X _=>by
   grind
  grind [Jg]
 .obtain⟨j,P⟩:∃j:Nat->ZN,j=fun X=>match ((w1 0).Za X).Zc with|some r=>r.b|none=>Y2:=⟨_,rfl⟩
  have mem:∀X∈(aw 5).filter i,X<5/\j X∈v.K/\j X ∉ v.B/\(j X).n=X:=fun X Z=>by
   grind [Led.rg]
  have nd:(v.B++((aw 5).filter i).map j).Nodup:=by
   rw[b5];refine⟨D.nB,bo.2 (List.Pairwise.imp_of_mem (fun {x y} s E XU V=>?_) (List.nodup_range.filter i)),fun x s y E e=>?_⟩
   .grind
   .grind
  have:=YS (C:=v.K) nd fun x s=>by
   grind [Led.bk]
  grind
 .have o:Jg (W.wt G)<=Jg fun X=>((if X=L then 1 else 0)+(if i X=true then 1 else 0))*(G+2)+(if m X=true then 1 else 0)*(p0+1):=MD fun X _=>by
   unfold Md.wt
   cases hr:((w1 0).Za X).Zc with
   | none=>grind
   | some r=>
    simp only;by_cases hb:r.a=true
    .rw[if_pos hb];have LQ:X≠L:=fun q=>by
      subst q;have:=W.qg.new r hr
      grind
     grind
    grind
  rw[Zeu,O,<-WD,<-WD]at o;refine⟨o,?_⟩;have:Bd (w1 0)<=Jg fun _=>1:=MD fun X _=>by split<;>omega
  exact this
theorem Md.Zil(W:Md S C Cs F b L' L p0 N N2 e w1 w2 g1 g2 M1 M2)(D:Led v L (w1 0))(O:p0=JW v (aq Cs))(hc:1<=(aq Cs)/\(aq Cs)<7)(P:1<=v.B.length)(Iz:1<=(WN v).length)(a1:6*v.B.length+2*(Cp v).length+4*(WN v).length+v.B.length+v.K.length+v.T+(aq Cs)<=100)(hKs:(aq Ks)<=v.K.length+((aw v.B.length).map (Ur v (aq Cs))).sum)(j:∀X,X<5->∀l∈bx (w1 0) X,Rq l->Jw l∈Ks)(hN:100+20*((aq Cs)+v.K.length+1)<=N)(V:N<=N2\/2500<=N+N2):OY w1 N+OY w2 N2+19<=N+N2:=by
 classical
 let⟨G,o⟩:=ZO (min 40 (p0+(aq Cs)*(Bd (w1 0)+1)));let⟨u,z,h1,h2,h3,h5⟩:=W.weights D G;let⟨KB,k1,E,y⟩:=W.all_keys o;have hu:=Zme W.R1 W.R2 W.hL W.link W.ok1 W.ok2 j E y;have a0:(WN v).length<=(Cp v).length:=by
  unfold WN Cp;refine YS (List.nodup_range.filter _) fun s J=>?_;let⟨x,q⟩:=a9.1 J;exact a9.2 ⟨x,decide_eq_true (of_decide_eq_true q).u⟩
 have hg:gT v=(19+v.T)/5:=rfl;have hT:MO v (aq Cs)<=tP (aq Cs) v.B.length (WN v).length u:=by unfold MO tP;omega
 have hS:((aw v.B.length).map (Ur v (aq Cs))).sum<=DU (aq Cs) v.B.length (WN v).length (tP (aq Cs) v.B.length (WN v).length u):=by
  unfold DU;refine DW _ _ _ fun i _=>?_;unfold Ur;omega
 have K:p0<=min (tP (aq Cs) v.B.length (WN v).length u) ((aq Cs)*v.B.length+(WN v).length):=by rw[O];unfold JW;omega
 have Z:G<=tG (aq Cs) v.B.length (WN v).length u:=by
  have:=bh (aq Cs) (show Bd (w1 0)+1<=6 by omega);rw[o];unfold tG;omega
 have num:=Zer (c:=(aq Cs)) (m:=v.B.length) (chi:=(WN v).length) (u:=u) (v:=z) hc P Iz h1 uh;have e1:u*(G+2)<=u*(tG (aq Cs) v.B.length (WN v).length u+2):=bh _ uh;have e2:z*(p0+1)<=z*(min (tP (aq Cs) v.B.length (WN v).length u) ((aq Cs)*v.B.length+(WN v).length)+1):=bh _ uh
 grind
end
section
variable {S:Cm->Prop} {C Cs:List Cm} {F:Nat->Prop} {b β:ZN} {h L L' X T N N2 p0 l t:Nat} {w w1 w2:Nat->Wd} {g g1 g2:Nat->Gh} {M M1 M2:Nat->Nat->ZN} {Ks:List (ZN × Int)} {e:Nat->Nat} {v:Vw} {u:Wd}
theorem XT(u:Wd)(L:Nat)(n:Nd)(X:Nat):(u.set L n).Za X=if X=L then n else u.Za X:=rfl
theorem qh(P:PW C β h u)(hL:L<5)(hr:1<=(Yl (u.Za L)).r/\(Yl (u.Za L)).r<=65536):
  (Zj β (Yl (u.Za L))->PW C (Yl (u.Za L)) L (u.set L (UH (u.Za L))))/\(Zj (Yl (u.Za L)) β->L≠h->PW C β h (u.set L (UH (u.Za L)))):=by
 have G:(Yl (u.Za L)).n=L:=by show (((u.Za L).me:Nat):Int)=L;rw[(P.nd L hL).ni.me]
 have D:Zv (Yl (u.Za L)):=⟨⟨uh,uh⟩,zK⟩
 have y:=(Zdr (P.nd L hL).ni).1;rw[cZ (P.nd L hL).up hr.2]at y;have st:=(Wm (u.Za L)).1;have vk:∀r,(UH (u.Za L)).Zc=aV r->∀s,5<2*((YF r.Xc s).getD []).length->Has (UH (u.Za L)).Zi s:=fun r hr s E=>by
  grind [YF,UH]
 have JC:∀X,X<5->∀l∈((u.set L (UH (u.Za L))).Za X).Zd,l∈(u.Za X).Zd:=fun X _ l m=>by
  grind [UH,XT]
 have h:=P.nd L hL;refine⟨fun hb=>?_,fun hb z=>?_⟩
 .have j:∀x:ZN,¬Zj β x->¬Zj (Yl (u.Za L)) x:=fun x h q=>h (Lb hb q);refine⟨fun X i=>?_,fun l m=>?_,fun X i l m=>?_⟩
  .rw[XT];by_cases e:X=L
   .subst e;rw[if_pos rfl];refine⟨y,h.up,j _ h.Zn,h.Xc,fun p o=>?_,h.tape,fun q=>absurd rfl q,fun _=>⟨_,rfl,rfl⟩,fun r hr _ s=>?_,fun r hr=>?_,vk,h.SF⟩
    .grind [UH,PN.DL]
    .rw[<-aag hr];rfl
    .rw[<-aag hr];exact D
   .rw[if_neg e];have h:=P.nd X i;exact⟨h.ni,h.up,j _ h.Zn,h.Xc,fun p o=>⟨j _ (h.DL p o).1,(h.DL p o).2⟩,h.tape,fun _ r hr=>Wf (h.le hr) hb,fun q=>absurd q e,h.ZZ,h.may,h.vk,h.SF⟩
  .have h:=P.WM l m;exact⟨h.li,fun e=>j _ (h.QB e),fun e=>j _ (h.ask e)⟩
  .have h:=P.JC X i l (JC X i l m);exact⟨h.li,fun e=>j _ (h.QB e),fun e=>j _ (h.ask e)⟩
 .refine⟨fun X i=>?_,P.WM,fun X i l m=>P.JC X i l (JC X i l m)⟩;rw[XT];by_cases e:X=L
  .subst e;rw[if_pos rfl];refine⟨y,h.up,h.Zn,h.Xc,fun p o=>?_,h.tape,fun _ r hr=>?_,fun q=>absurd q z,fun r hr _ s=>?_,fun r hr=>?_,vk,h.SF⟩
   .grind [UH,PN.DL]
   .rw[<-aag hr];exact hb
   .rw[<-aag hr];rfl
   .rw[<-aag hr];exact D
  .rw[if_neg e];exact P.nd X i
def ZA0:Co [0,1,2,3,4]:=⟨HE,HE,HE⟩
def XP.with(R:XP S C b L T w g M)(hb:Zv β)(P:PW C β h (w 0)):XP S C β h T w g M:=⟨R.hC,hb,R.a,P,R.nf,R.ti⟩
structure Inc(l:Nat)(T:Nat)(w:Nat->Wd)(g:Nat->Gh):Prop where
 ch:∀t,t<=T->∀s:Nat,s<l->∃y,J9 (g t) (s:Int) y
 l40:l<=40
 lg:∀t,t<=T->∀X,X<5->((w t).Za X).ZF.length<l
theorem XP.FQ(R:XP S C b L T w g M)(hS:∀x,S x->x.err=0)(I:Inc l T w g)(hb:Zv β)(hh:h<5)(P:PW C β h (w 0)):T<=OY w T+6:=by
 refine aX fun q=>?_;have R':=R.with hb P
 have m:jL S C β h T w g M β h [0,1,2,3,4] l:=⟨R',hh,ZA0,hb,hS,I.ch,I.l40,fun t o X j=>?_,(P.nd h hh).Yi rfl⟩
 .have:=m.ZF T (a8 _) (cV w T 7 uh);have:=I.lg T (a8 _) h hh;omega
 .have i:X<5:=by
   rcases j with q|q
   .grind
   .omega
  exact ((R'.at t).nd X i).Zn
theorem XP.ua(R:XP S C b L T w g M)(hS:∀x,S x->x.err=0)(I:Inc l T w g){Q:List Nat}(q:Co Q)(hh:h<5){r:XR}(hr:((w T).Za h).Zc=aV r)(E:¬Zj r.b ((w T).Za h).Zn.p)(s:∀X∈Q,¬Zj r.b ((w T).Za X).Zn.p):T<=OY w T+6:=by
 refine aX fun z=>?_;have mono:∀X,X<5->¬Zj r.b ((w T).Za X).Zn.p->∀t,t<=T->¬Zj r.b ((w t).Za X).Zn.p:=fun X i o t j z=>o (VY z (R.Vs i (t0:=t) (Yv _) T j));let⟨m,y,k0⟩:=R.Qn hh T r hr 0 (bc _);have D:jL S C b L T w g M r.b h Q l:=⟨R,hh,q,((R.at T).nd h hh).may r hr,hS,I.ch,I.l40,fun t j X i=>?_,⟨m,y,k0.b.symm⟩⟩
 .have:=D.ZF T (a8 _) (cV w T 7 uh);have:=I.lg T (a8 _) h hh;omega
 .rcases i with i|rfl
  .exact mono X (q.2.1 X i) (s X i) t j
  grind
theorem Md.one(W:Md S C Cs F b L' L p0 N N2 e w1 w2 g1 g2 M1 M2)(E:Inc l N w1 g1)(m:Inc l N2 w2 g2)(G:1<=(Yl ((w1 N).Za L)).r/\(Yl ((w1 N).Za L)).r<=65536)(hb:Zv β)(hh:h<5)(P:PW C β h (w1 0))(x:OY w1 N+OY w2 N2+19<=N+N2):False:=by
 have O:=W.R1.FQ W.hS E hb hh P;have R':=W.R1.with hb P
 have i:=R'.at N;have s:(Yl ((w1 N).Za L)).n=L:=by show (((w1 N).Za L).me:Int)=L;rw[(i.nd L W.hL).ni.me]
 let⟨p1,J⟩:=qh i W.hL G;have y:Zv (Yl ((w1 N).Za L)):=⟨⟨uh,uh⟩,by have:=W.hL;omega⟩
 have K:N2<=OY w2 N2+6:=by
  by_cases q:Zj β (Yl ((w1 N).Za L))
  .exact W.R2.FQ W.hS m y W.hL (by rw[W.link];exact p1 q)
  .let⟨r,hr,D⟩:=(i.nd h hh).Yi rfl;have j:L≠h:=fun z=>by
    grind [Zj,Yl]
   have V:Zj (Yl ((w1 N).Za L)) β:=by
    refine aX fun z=>j ?_;have e:=UW z q;have o:=(((W.R1.ti N (a8 _)).nd h hh).Zc r hr).ZM;rw[D,<-e,s]at o;omega
   exact W.R2.FQ W.hS m hb hh (by rw[W.link];grind)
 omega
end
section
variable {S:Cm->Prop} {C Cs:List Cm} {F:Nat->Prop} {b β:ZN} {h L L' X T N N2 p0 l t a:Nat} {w w1 w2:Nat->Wd} {g g1 g2:Nat->Gh} {M M1 M2:Nat->Nat->ZN} {KB KB' Ks:List (ZN × Int)} {e:Nat->Nat} {v:Vw} {u:Wd} {A:ZN × Int->Prop} {K0 U:Nat}
theorem Zev(w:Nat->Wd)(a:Nat):∀t,OY w (a+t)=OY w a+OY (sh w a) t:=by
 classical
 intro t
 induction t with
 | zero=>rfl
 | succ t i=>
  grind [OY.eq_def,sh]
theorem Zew(w:Nat->Wd){a t:Nat}(h:a<=t):OY w a<=OY w t:=by
 have:=Zev w a (t-a)
 grind
theorem Zex(w:Nat->Wd):∀T,Ct w T 2->∃a,1<=a/\a<T/\Clear (w a):=by
 have one:∀T,Ct w T 1->∃a,a<T/\Clear (w a):=by
  intro T
  induction T with
  | zero=>intro h;exact h.elim
  | succ T i=>
   grind [Ct]
 intro T
 induction T with
 | zero=>intro h;exact h.elim
 | succ T i=>
  grind [Ct]
theorem UI.ZA1(R:XP S C b L T w g M)(x:t<=T)(s:∀X,X<5->∀l∈((w t).Za X).Zd,tX l)(D:(w t).b=[])(hc:Clear (w t))(H:UI K0 U KB A (w t)):UI (2*(aq KB')) 0 KB' A (w t):=by
 classical
 refine⟨fun X i=>⟨[],fun l j y u=>?_,?_⟩,H.inv,H.Zn⟩
 .have P:=R.at t;unfold bx at j;rw[D,List.filter_nil,bq]at j;have z:=(hc X i).1;have E:=(hc X i).2;rcases D6 i R.hC R.hb ((w t).Za X).Zd ((w t).Za X) (P.nd X i) z (R.nf t x X i) (fun m o=>⟨P.JC X i m o,s X i m o⟩) l j y with q|q
  .rw[drain_empty _ _ E]at q;cases q
  grind [Xa,YT.Zn,Jm]
 .have e:me [] ((w t).Za X)=0:=by unfold me;rw[if_pos (hc X i).1];rfl
  grind [left]
theorem AV(R1:XP S C b L' N w1 g1 M1)(hL:L<5){u:Nat}(x:u<N):¬Bc (w1 u) (Yl ((w1 N).Za L),-2):=fun q=>by
 let⟨Y,j,i,m,q,_⟩:=R1.now x q;have y:(Yl ((w1 N).Za L))=i.b:=by
  rcases q with q|⟨q,_⟩|⟨s,q,_⟩
  .grind
  .grind
  .grind
 have o:=(((R1.ti u uh).nd Y j).Zc i m).ZM;have n2:(Yl ((w1 N).Za L)).n=L:=by show (((w1 N).Za L).me:Int)=L;rw[((R1.at N).nd L hL).ni.me]
 rw[y,o]at n2;have:Y=L:=uh;subst this;have:=IB R1 j m (t:=N) uh
 grind
theorem Md.from(W:Md S C Cs F b L' L p0 N N2 e w1 w2 g1 g2 M1 M2)(ha:1<=a)(E:a<N)(hc:Clear (w1 a))(Tb:∀t,a<=t->t<N->∀κ,Bc (w1 t) κ->κ∈KB')(Od:∀t,t<N2->∀κ,Bc (w2 t) κ->κ∈KB'):OY w1 N+OY w2 N2<=OY w1 a+2*(aq KB')+2:=by
 let⟨G,K⟩:=ZO (min 40 (p0+(aq Cs)*(Bd (w1 0)+1)));let⟨KB,_,z,_⟩:=W.all_keys K;have x:∀t,t<=N->∀X,X<5->∀l∈((w1 t).Za X).Zd,tX l:=fun t m X j l i=>W.ok1 t m X j l (a7.2 (.inl i));have o:∀t,t<=N2->∀X,X<5->∀l∈((w2 t).Za X).Zd,tX l:=fun t m X j l i=>W.ok2 t m X j l (a7.2 (.inl i));obtain⟨Ks,hKs⟩:∃Ks:List (ZN × Int),∀X,X<5->∀l∈bx (w1 0) X,Rq l->Jw l∈Ks:=by
  refine⟨(bx (w1 0) 0++bx (w1 0) 1++bx (w1 0) 2++bx (w1 0) 3++bx (w1 0) 4).map Jw,fun X j l i _=>bf.2 ⟨l,?_,rfl⟩⟩
  grind
 have U0:UI (2*(aq Ks)+1+2*(aq KB)) 0 KB (fun _=>False) (w1 0):=UI.start hKs;have Ua:=W.R1.union x z U0 a uh;have fl:(w1 a).b=[]:=by
  obtain⟨s,rfl⟩:∃s,a=s+1:=⟨a-1,uh⟩
  exact W.R1.WM s
 have Ub:=Ua.ZA1 (KB':=KB') W.R1 uh (x a uh) fl hc;have R':=W.R1.sh (a:=a) uh;have y:=R'.union (fun t m X j l i=>x (a+t) uh X j l i) (fun t m κ J=>Tb (a+t) uh uh κ J) Ub (N-a) (a8 _);have P:sh w1 a (N-a)=w1 N:=by unfold Go.Proofs.YtkhkmpfenaipaaaGreatDoor.sh;congr 1;omega
 rw[P]at y;have Z:UI (2*(aq KB')+1) (0+OY (sh w1 a) (N-a)) KB' (fun κ=>(False\/∃u,u<a/\Bc (w1 u) κ)\/∃u,u<N-a/\Bc (sh w1 a u) κ) (w2 0):=by
  rw[W.link];refine y.lead (Cd _) (Wm _).2 rfl fun r hr O=>?_;obtain rfl:=aag hr;rcases O with (q|⟨u,D,q⟩)|⟨u,D,q⟩
  .exact q.elim
  .exact absurd q (AV W.R1 W.hL uh)
  .grind [AV,Md.hL]
 have V:=W.R2.union o Od Z N2 (a8 _);have:=V.ig
 grind [sh,Zev]
end
theorem ub(p:Nat->ZN):∀n,∃X,X<n+1/\∀Y,Y<n+1->¬Zj (p X) (p Y):=by
 intro n
 induction n with
 | zero=>grind [Yv]
 | succ n i=>
  let⟨X,m,j⟩:=i;by_cases c:Zj (p X) (p (n+1))
  .refine⟨n+1,uh,fun Y h=>?_⟩
   grind [Yv,Lb]
  .refine⟨X,uh,fun Y h=>?_⟩
   grind
section
variable {S:Cm->Prop} {C Cs:List Cm} {F:Nat->Prop} {b β:ZN} {h L L' X T N N2 p0 l t a:Nat} {w w1 w2:Nat->Wd} {g g1 g2:Nat->Gh} {M M1 M2:Nat->Nat->ZN} {KB KB' Ks:List (ZN × Int)} {e:Nat->Nat} {v:Vw} {u:Wd}
theorem XP.Cf(R:XP S C b L T w g M):∃β:ZN,(∀X,X<5->∀r,((w T).Za X).Zc=aV r->¬Zj β r.b\/Zj r.b ((w T).Za X).Zn.p)/\(β=Y2\/∃h,h<5/\∃r,((w T).Za h).Zc=aV r/\r.b=β/\¬Zj r.b ((w T).Za h).Zn.p):=by
 classical
 obtain⟨p,i⟩:∃p:Nat->ZN,p=fun X=>match ((w T).Za X).Zc with|some r=>if Zj r.b ((w T).Za X).Zn.p then Y2 else r.b|none=>Y2:=⟨_,rfl⟩
 let⟨H,o,j⟩:=ub p 4;refine⟨p H,fun X m r hr=>?_,?_⟩
 .grind
 grind
theorem da{c:ZN}(h:Zv c):Zj Y2 c:=by unfold Zv at h;unfold Zj Y2;grind
theorem XP.db(R:XP S C b L T w g M)(i:X<5)(h:Zj β ((w t).Za X).Zn.p)(o:β=Y2\/Zv β):Zv ((w t).Za X).Zn.p:=by
 rcases ((R.at t).nd X i).ni.Zn.bal with q|⟨m,j⟩
 .exact q
 grind [Zv,Y2,Zj]
def jR(w:Nat->Wd)(T X:Nat):Prop:=∃t,1<=t/\t<T/\∃m∈(step ((w t).Za X)).ls,Rq m
theorem XP.ez1(R:XP S C b L T w g M)(o:β=Y2\/Zv β)(live:∀X,X<5->∀r,((w T).Za X).Zc=aV r->¬Zj β r.b\/Zj r.b ((w T).Za X).Zn.p)(i:X<5)(E:Zj β ((w T).Za X).Zn.p):¬jR w T X:=fun⟨t,K,J,m,y,x⟩=>by
 have dies:∀Y,Y<5->∀t,t<=T->∀r,((w t).Za Y).Zc=aV r->Zj β r.b->Zj r.b ((w T).Za Y).Zn.p:=fun Y G t j r hr hb=>by
  rcases R.Hz G hr j with⟨O,z1,z2,_⟩|z
  .grind
  .exact z
 refine R.ez (D:=fun X=>((w T).Za X).Zn.p) (β:=β) (t0:=1) (fun t j=>?_) (fun X i q=>R.db i q o) dies (fun X i _ t j c q=>(R.Cc i c q T j (a8 _)).Zn rfl) _ X i E (a8 _) t K J m y x;obtain⟨s,rfl⟩:∃s,t=s+1:=⟨t-1,uh⟩
 exact R.WM s
def XP.uc(R:XP S C b L T w g M)(i:X<5){m:Yt}(o:m∈(step ((w t).Za X)).ls)(j:Rq m):∃r,((w t).Za X).Zc=aV r/\((w t).Za X).Zn.p=r.b:=by
 have P:=R.at t;exact (jP i R.hC R.hb (P.nd X i) (P.JC X i) o j).2.1
theorem XP.two(R:XP S C b L T w g M):(∃h,h<5/\∃r,((w T).Za h).Zc=aV r/\¬Zj r.b ((w T).Za h).Zn.p/\∃Q,Co Q/\∀X∈Q,¬Zj r.b ((w T).Za X).Zn.p) \/
  ∃(β:ZN) (Z:List Nat),(∀X,X<5->∀r,((w T).Za X).Zc=aV r->¬Zj β r.b\/Zj r.b ((w T).Za X).Zn.p)/\(β=Y2\/Zv β)/\Z.Nodup/\(aq Z)<=2/\(∀X∈Z,X<5)/\∀X,X<5->X ∉ Z->¬jR w T X/\(Zj β ((w T).Za X).Zn.p\/β=Y2):=by
 classical
 let⟨β,live,q⟩:=R.Cf;have o:β=Y2\/Zv β:=q.imp_right fun⟨h,hh,r,hr,y,_⟩=>by rw[<-y];exact ((R.at T).nd h hh).may r hr
 obtain⟨Q,P⟩:∃Q,Q=(aw 5).filter fun X=>decide (¬Zj β ((w T).Za X).Zn.p):=⟨_,rfl⟩
 have D:Q.Nodup:=by rw[P];exact List.nodup_range.filter _
 have E:∀X,X∈Q↔X<5/\¬Zj β ((w T).Za X).Zn.p:=fun X=>by grind
 rcases q with e|⟨h,hh,r,hr,y,O⟩
 ·-- qd ZA2: qd Zrw
  refine .inr ⟨β,[],live,o,.nil,bc _,(fun X j=>by cases j),fun X j _=>⟨fun s=>?_,.inr e⟩⟩;by_cases z:Zj β ((w T).Za X).Zn.p
  .exact R.ez1 o live j z s
  .let⟨t,h1,V,m,K,G⟩:=s;let⟨r,hr,J⟩:=R.uc j K G;have x:=da (((R.at t).nd X j).may r hr);rw[<-J,<-e]at x;exact z (VY x (R.Vs j (t0:=t) (Yv _) T uh))
 .by_cases c:3<=(aq Q)
  .exact .inl ⟨h,hh,r,hr,O,Q,⟨D,fun i hi=>((E i).1 hi).1,c⟩,fun X j=>by grind⟩
  grind [XP.ez1]
end
open Classical in
noncomputable def Oa (w:Wd) (L:Nat):Nat:=((aw 5).filter fun X=>decide (X≠L/\∃r,(w.Za X).Zc=aV r/\r.a=false)).length
open Classical in
noncomputable def OE (w:Wd) (L:Nat):Nat:=((aw 5).filter fun X=>decide (X≠L/\∃r,(w.Za X).Zc=aV r/\r.a=true)).length
def w2(G p0 u z:Nat):Nat:=(G+2)+if u=0 then (if z=0 then 0 else p0+1) else G+2
section
variable {S:Cm->Prop} {C Cs:List Cm} {F:Nat->Prop} {b β:ZN} {h L L' X T N N2 p0 l t a:Nat} {w1 w2:Nat->Wd} {g g1 g2:Nat->Gh} {M M1 M2:Nat->Nat->ZN} {KB KB' Ks:List (ZN × Int)} {e:Nat->Nat} {v:Vw} {u:Wd}
def ud{α:Type}{p:α->Bool}{l:List α}{x:α}(h:x∈l)(i:p x=true):(l.filter p).length≠0:=fun q=>by
 have:=bt (a9.2 ⟨h,i⟩);omega
open Classical in
theorem dd(w:Wd){L:Nat}(hL:L<5)(i:∃r,(w.Za L).Zc=aV r):Bd w=Oa w L+OE w L+1:=by
 unfold Bd Oa OE;rw[WD,WD];have e:Jg (fun X=>if (w.Za X).Zc=bb then 0 else 1)=Jg fun X=>((if decide (X≠L/\∃r,(w.Za X).Zc=aV r/\r.a=false)=true then 1 else 0)+(if decide (X≠L/\∃r,(w.Za X).Zc=aV r/\r.a=true)=true then 1 else 0))+(if X=L then 1 else 0):=by
  refine AT fun X _=>?_;let⟨j,m⟩:=i;by_cases c:X=L
  .grind
  .cases hr:(w.Za X).Zc with
   | none=>simp[c]
   | some r=>
    cases hb:r.a<;>simp[c,hb]
 grind [Ca,Ce]
open Classical in
theorem AW(w:Wd){L H:Nat}(hL:L<5)(j:H<5)(s:H≠L)(i:∃r,(w.Za L).Zc=aV r)(m:(w.Za H).Zc=bb):Oa w L+OE w L<=3:=by
 have q:=dd w hL i;have o:Bd w+1<=5:=by
  unfold Bd;have e:Jg (fun X=>(if (w.Za X).Zc=bb then 0 else 1)+if X=H then 1 else 0)<=Jg fun _=>1:=MD fun X _=>by
   grind
  rw[Ca,Ce j]at e;exact e
 omega
open Classical in
theorem Zim{w:Wd}(D:Led v L w)(hb:β∈v.K)(hd:∀X,X<5->X≠L->∀r,(w.Za X).Zc=aV r->r.b≠β)(T7:∀X,X<5->X≠L->∀r,(w.Za X).Zc=aV r->r.a=true->r.b∈v.B):∃q,q<=1/\v.B.length+Oa w L+q<=v.K.length/\OE w L+(1-q)<=v.B.length:=by
 obtain⟨i,ie⟩:∃i:Nat->ZN,i=fun X=>match (w.Za X).Zc with|some r=>r.b|none=>Y2:=⟨_,rfl⟩
 obtain⟨m,J⟩:∃m:Nat->Bool,m=fun X=>decide (X≠L/\∃r,(w.Za X).Zc=aV r/\r.a=false):=⟨_,rfl⟩
 obtain⟨o,G⟩:∃o:Nat->Bool,o=fun X=>decide (X≠L/\∃r,(w.Za X).Zc=aV r/\r.a=true):=⟨_,rfl⟩
 have eU:Oa w L=((aw 5).filter m).length:=by unfold Oa;rw[J]
 have eZ:OE w L=((aw 5).filter o).length:=by unfold OE;rw[G]
 have mu:∀X∈(aw 5).filter m,i X∈v.K/\i X ∉ v.B/\(i X).n=X/\i X≠β:=fun X K=>by
  grind [Led.rg]
 have Z:∀X∈(aw 5).filter o,i X∈v.B/\(i X).n=X/\i X≠β:=fun X K=>by
  grind [Led.rg]
 have z:(((aw 5).filter m).map i).Nodup:=bo.2 (List.Pairwise.imp_of_mem (fun {x y} j E V P=>by
  grind) (List.nodup_range.filter m))
 have s:(((aw 5).filter o).map i).Nodup:=bo.2 (List.Pairwise.imp_of_mem (fun {x y} j E V P=>by
  grind) (List.nodup_range.filter o))
 have O:(v.B++((aw 5).filter m).map i).Nodup:=by
  rw[b5];refine⟨D.nB,z,fun x j y E e=>?_⟩;obtain⟨X,K,rfl⟩:=bf.1 E;exact (mu X K).2.1 zK
 by_cases c:β∈v.B
 .refine⟨0,uh,?_,?_⟩
  .have:=YS (C:=v.K) O fun x j=>by
    rcases a7.1 j with q|q
    .exact D.bk x q
    grind
   grind
  .have:=YS (l:=β :: ((aw 5).filter o).map i) (C:=v.B) (bG.2 ⟨fun q=>by
    grind,s⟩) fun x j=>by
    rcases bR.1 j with q|q
    .grind
    grind
   grind
 .refine⟨1,uh,?_,?_⟩
  .have:=YS (l:=β :: (v.B++((aw 5).filter m).map i)) (C:=v.K) (bG.2 ⟨fun q=>by
    rcases a7.1 q with q|q
    .exact c q
    grind,O⟩) fun x j=>by
    rcases bR.1 j with q|q
    .grind
    .rcases a7.1 q with q|q
     .exact D.bk x q
     grind
   grind
  .have:=YS (C:=v.B) s fun x j=>by
    grind
   grind
open Classical in
theorem Md.Zrx(W:Md S C Cs F b L' L p0 N N2 e w1 w2 g1 g2 M1 M2){G:Nat}(K:p0<=G){Z:List Nat}(i:Z.Nodup)(j:(aq Z)<=2)(o:∀X∈Z,X<5):(Z.map (W.wt G)).sum<=Go.Proofs.YtkhkmpfenaipaaaGreatDoor.w2 G p0 (Oa (w1 0) L) (OE (w1 0) L):=by
 have all:∀X,W.wt G X<=G+2:=fun X=>by
  unfold Md.wt
  grind
 have oth:∀X,X<5->X≠L->Oa (w1 0) L=0->W.wt G X<=if OE (w1 0) L=0 then 0 else p0+1:=fun X m s z=>by
  unfold Md.wt
  cases hr:((w1 0).Za X).Zc with
  | none=>grind
  | some r=>
   simp only
   cases hb:r.a with
   | false=>exact absurd z (ud (aW.2 m) (decide_eq_true ⟨s,r,hr,hb⟩))
   | true=>
    have D:OE (w1 0) L≠0:=ud (aW.2 m) (decide_eq_true ⟨s,r,hr,hb⟩)
    grind
 unfold Go.Proofs.YtkhkmpfenaipaaaGreatDoor.w2
 match Z,i,j,o with
 | [],_,_,_=>grind
 | [x],_,_,_=>
  grind
 | [x,y],i,_,o=>
  have J:=all x;have E:=all y;have O:x≠y:=by
   rw[bG]at i;exact fun q=>i.1 (by rw[q];simp)
  simp only[bS,List.map_nil,bT,List.sum_nil]
  grind
 | _ :: _ :: _ :: _,_,j,_=>simp at j
end
def qP(c m chi u q:Nat):Nat:=min 40 ((100-8*m-u-q-c-4*chi)/2+5+c)
def qG(c m chi u z q:Nat):Nat:=min 40 (min (qP c m chi u q) (c*m+chi)+c*(u+z+2))
def Zry(c m chi u z q:Nat):Bool:=decide (8*m+u+q+c+6*chi<=100/\u+z<=3/\z+(1-q)<=m->2*(w2 (qG c m chi u z q) (min (qP c m chi u q) (c*m+chi)) u z+5+(qG c m chi u z q+2))+8<100+20*(c+m+u+q+1))
def Zmf:((aw 6).all fun c=>(aw 12).all fun m=>(aw 16).all fun chi=>decide (86<8*m+c+6*chi)||(aw 4).all fun u=>(aw 4).all fun z=>(aw 2).all fun q=>Zry (c+1) (m+1) (chi+1) u z q)=true:=by
 decide +kernel
theorem ZA3{c m chi u z q:Nat}(hc:1<=c/\c<7)(J:1<=m)(O:1<=chi)(D:u+z<=3)(G:q<=1)(E:z+(1-q)<=m)(h:8*m+u+q+c+6*chi<=100):
  2*(w2 (qG c m chi u z q) (min (qP c m chi u q) (c*m+chi)) u z+5+(qG c m chi u z q+2))+8<100+20*(c+m+u+q+1):=by
 have y:=Zmf;rw[ba]at y;have x:=y (c-1) (aW.2 uh);rw[ba]at x;have s:=x (m-1) (aW.2 uh);rw[ba]at s;have i:=s (chi-1) (aW.2 uh);rw[bE]at i;have i:=i.resolve_left fun q=>by grind
 rw[ba]at i;have o:=i u (aW.2 uh);rw[ba]at o;have j:=o z (aW.2 uh);rw[ba]at j;have K:=j q (aW.2 uh)
 grind [w2,Zry]
theorem ue{G j p i u z:Nat}(o:G<=j)(m:p<=i):w2 G p u z<=w2 j i u z:=by
 unfold w2
 grind
section
variable {S:Cm->Prop} {C Cs:List Cm} {F:Nat->Prop} {b β:ZN} {h L L' X T N N2 p0 l t a:Nat} {w1 w2:Nat->Wd} {g1 g2:Nat->Gh} {M1 M2:Nat->Nat->ZN} {KB KB' Ks:List (ZN × Int)} {e:Nat->Nat} {v:Vw} {u:Wd}
structure Bud(v:Vw)(Cs:List Cm)(p0 N N2:Nat):Prop where
 p:p0=JW v (aq Cs)
 c:1<=(aq Cs)/\(aq Cs)<7
 m:1<=v.B.length
 chi:1<=(WN v).length
 bud:6*v.B.length+2*(Cp v).length+4*(WN v).length+v.B.length+v.K.length+v.T+(aq Cs)<=100
 n:100+20*((aq Cs)+v.K.length+1)<=N
 n2:N<=N2\/2500<=N+N2
 n3:N<=2120
theorem Bud.ig(B:Bud v Cs p0 N N2){w:Wd}{L q:Nat}(hL:L<5)(x:∃r,(w.Za L).Zc=aV r)(O:Oa w L+OE w L<=3)(y:q<=1)(hU:v.B.length+Oa w L+q<=v.K.length)(J:OE w L+(1-q)<=v.B.length){G:Nat}(K:G=min 40 (p0+(aq Cs)*(Bd w+1))):
  2*(Go.Proofs.YtkhkmpfenaipaaaGreatDoor.w2 G p0 (Oa w L) (OE w L)+5+(G+2))+8<N2:=by
 have P:(WN v).length<=(Cp v).length:=by
  classical
  unfold WN Cp;refine YS (List.nodup_range.filter _) fun s x=>?_
  grind [Vy.u]
 have hg:gT v=(19+v.T)/5:=rfl;have hb:=B.bud;have hc:=B.c;have num:=ZA3 (c:=(aq Cs)) (m:=v.B.length) (chi:=(WN v).length) (u:=Oa w L) (z:=OE w L) (q:=q) B.c B.m B.chi O y J uh;have hT:MO v (aq Cs)<=qP (aq Cs) v.B.length (WN v).length (Oa w L) q:=by unfold MO qP;omega
 have D:p0<=min (qP (aq Cs) v.B.length (WN v).length (Oa w L) q) ((aq Cs)*v.B.length+(WN v).length):=by rw[B.p];unfold JW;omega
 have E:=dd w hL x;have i:G<=qG (aq Cs) v.B.length (WN v).length (Oa w L) (OE w L) q:=by
  rw[K,E];unfold qG;rw[show Oa w L+OE w L+1+1=Oa w L+OE w L+2 by omega];omega
 have hw:=ue (u:=Oa w L) (z:=OE w L) i D;have j:G<=40:=uh;have o:p0<=40:=by rw[B.p];unfold JW MO;omega
 have Z:=ue (u:=Oa w L) (z:=OE w L) j o;have V:Go.Proofs.YtkhkmpfenaipaaaGreatDoor.w2 40 40 (Oa w L) (OE w L)<=84:=by
  unfold Go.Proofs.YtkhkmpfenaipaaaGreatDoor.w2;split
  .split<;>omega
  .omega
 have n:=B.n;have n2:=B.n2;have n3:=B.n3
 grind
theorem Md.Zey(W:Md S C Cs F b L' L p0 N N2 e w1 w2 g1 g2 M1 M2){G:Nat}(K:G=min 40 (p0+(aq Cs)*(Bd (w1 0)+1))){Z:List Nat}(h5:∀X∈Z,X<5)(s1:∀X,X<5->X ∉ Z->¬jR w1 N X)(s2:∀X,X<5->X≠L->X ∉ Z->∀t,t<N2->∀m∈(step ((w2 t).Za X)).ls,¬Rq m):
  ∃KB:List (ZN × Int),(aq KB)<=(Z.map (W.wt G)).sum+5+(G+2)/\(∀t,1<=t->t<N->∀κ,Bc (w1 t) κ->κ∈KB)/\∀t,t<N2->∀κ,Bc (w2 t) κ->κ∈KB:=by
 have hl:∃r,((w2 0).Za L).Zc=aV r:=by
  rw[W.link,XT,if_pos rfl];exact⟨_,rfl⟩
 let⟨J,z⟩:=hl;obtain⟨j,a2⟩:∃j:Nat->List (ZN × Int),∀X,X<5->(j X).length<=W.wt G X /\
   (∀t,t<N->∀r,((w1 t).Za X).Zc=aV r->∀κ:ZN × Int,(κ=(r.b,-1)\/(κ=(r.b,-2)/\Zj ((w1 t).Za X).Zn.p r.b)\/∃s:Nat,κ=(r.b,(s:Int))/\∃r',((w1 (t+1)).Za X).Zc=aV r'/\Has r'.ZQ (s:Int))->κ∈j X) /\
   (X≠L->∀t,t<N2->∀r,((w2 t).Za X).Zc=aV r->∀κ:ZN × Int,(κ=(r.b,-1)\/(κ=(r.b,-2)/\Zj ((w2 t).Za X).Zn.p r.b)\/∃s:Nat,κ=(r.b,(s:Int))/\∃r',((w2 (t+1)).Za X).Zc=aV r'/\Has r'.ZQ (s:Int))->κ∈j X):=by
  classical
  exact⟨fun X=>if i:X<5 then b6 (W.TO K X i) else [],fun X i=>by
   grind⟩
 obtain⟨o,D⟩:∃o:Nat->ZN,o=fun X=>match ((w1 0).Za X).Zc with|some r=>r.b|none=>Y2:=⟨_,rfl⟩
 have a0:∀X,X<5->∀t r,((w1 t).Za X).Zc=aV r->r.b=o X:=fun X i t r hr=>by
  let⟨P,z1,z2⟩:=W.R1.Qn i t r hr 0 (bc _);rw[D];simp only[z1];exact z2.b
 have V:∀X,X<5->X≠L->∀t r,((w2 t).Za X).Zc=aV r->r.b=o X:=fun X i O t r hr=>by
  let⟨P,z1,z2⟩:=W.R2.Qn i t r hr 0 (bc _)
  grind [Yw.b,Md.at0]
 have a1:∀X,X∈Z->∀κ,κ∈j X->κ∈(Z.map j).flatten:=fun X i κ hκ=>List.mem_flatten.2 ⟨j X,bf.2 ⟨X,i,rfl⟩,hκ⟩;refine⟨(Z.map j).flatten++(aw 5).map (fun X=>(o X,(-2:Int)))++P9 J.b G,?_,fun t h1 y κ E=>?_,fun t y κ E=>?_⟩
 .have key:∀Z:List Nat,(∀X∈Z,X<5)->((Z.map j).flatten).length<=(Z.map (W.wt G)).sum:=by
   intro Z
   induction Z with
   | nil=>grind
   | cons x Z ih=>
    grind
  grind [HC]
 .let⟨X,i,r,hr,q,hx⟩:=W.R1.now y E
  grind [jR]
 .let⟨X,i,r,hr,q,hx⟩:=W.R2.now y E;rw[a7,a7];by_cases O:X=L
  .have eb:r.b=J.b:=by
    let⟨r2,z1,z2⟩:=W.R2.Qn i t r hr 0 uh;rw[O,z]at z1;obtain rfl:=aag z1;exact z2.b
   rw[eb]at q;refine .inr ?_;rcases q with q|⟨q,_⟩|⟨s,q,r',Mv,hs⟩
   .rw[q];simp[P9]
   .rw[q];simp[P9]
   .rw[q];exact bd _ (bd _ (bf.2 ⟨s,aW.2 (W.Zet K uh i Mv hs).1,rfl⟩))
  grind
def Md.Zrz(W:Md S C Cs F b L' L p0 N N2 e w1 w2 g1 g2 M1 M2)(I1:Inc l N w1 g1)(I2:Inc l N2 w2 g2)(D:Led v L (w1 0))(B:Bud v Cs p0 N N2)(BN:1<=(Yl ((w1 N).Za L)).r/\(Yl ((w1 N).Za L)).r<=65536)(hb:Zv β)(P:PW C β 7 (w1 0)){H:Nat}(hH:H<5)(E:H≠L)(y:((w1 0).Za H).Zc=bb)(hK:β∈v.K)(T7:∀X,X<5->X≠L->∀r,((w1 0).Za X).Zc=aV r->r.a=true->r.b∈v.B)(Fy:Zj β (Yl ((w1 N).Za L)))(a0:OY w1 N+OY w2 N2+19<=N+N2):False:=by
 have j:=(W.R1.with hb P).at N;have hn:(Yl ((w1 N).Za L)).n=L:=by show (((w1 N).Za L).me:Int)=L;rw[(j.nd L W.hL).ni.me]
 have gH:Zv (Yl ((w1 N).Za L)):=⟨⟨uh,uh⟩,by have:=W.hL;omega⟩
 have c2:=W.R2.FQ W.hS I2 gH W.hL (by rw[W.link];exact (qh j W.hL BN).1 Fy);rcases W.R1.two with⟨h,hh,r,hr,hd,Q,hQ,q⟩|⟨β',Z,live,_,nZ,lZ,O,out⟩
 .have:=W.R1.ua W.hS I1 hQ hh hr hd q;omega
 let⟨G,K⟩:=ZO (min 40 (p0+(aq Cs)*(Bd (w1 0)+1)));let⟨a,a1,a2,ac⟩:=Zex w1 N (cV w1 N 2 uh);let⟨KB,k1,k2,k3⟩:=W.Zey K O (fun X i x=>(out X i x).1) fun X i V x t ht m J hq=>by
  let⟨r,hr,ho⟩:=W.R2.uc i J hq;let⟨o,z1,z2⟩:=W.R2.Qn i t r hr 0 (bc _);have up:=W.R2.Vs i (t0:=0) (Yv _) t (bc _);rw[W.at0 X V]at z1 up;have Ye:Zj o.b ((w1 N).Za X).Zn.p:=by
   rcases live X i o z1 with q|q
   .rcases (out X i x).2 with z|z
    .exact Wf q z
    .rw[z]at q;exact absurd (da (((W.R1.at N).nd X i).may o z1)) q
   .exact q
  rw[ho,z2.b]at up;exact up Ye
 have hf:=W.from a1 a2 ac (fun t h1 h2=>k2 t uh h2) k3
 have J:=Zew w1 (a:=a) (t:=N) uh;have h3:=AW (w1 0) W.hL hH E W.qg.has y;let⟨q,q1,q2,q3⟩:=Zim D hK (fun X i V r hr e=>by
  have:=((P.nd X i).Rd uh r hr)
  rw[e]at this;exact Yv _ this) T7
 have num:=B.ig W.hL W.qg.has h3 q1 q2 q3 K;have s:p0<=G:=by
  have:p0<=40:=by rw[B.p];unfold JW MO;omega
  omega
 have hw:=W.Zrx s nZ lZ O;omega
end
section
variable {S:Cm->Prop} {C Cs:List Cm} {F:Nat->Prop} {b β:ZN} {h H L L' X T N N2 p0 l t a:Nat} {w w1 w2:Nat->Wd} {g g1 g2:Nat->Gh} {M M1 M2:Nat->Nat->ZN} {Kb Kv Ks Ko:List (ZN × Int)} {e:Nat->Nat} {v:Vw} {u:Wd}
def XP.uf(R:XP S C b L' T w g M)(j:X<5)(h:((w 0).Za X).Zc=bb):∀t,((w t).Za X).Zc=bb:=by
 intro t
 induction t with
 | zero=>exact h
 | succ t i=>exact R.cX j i
theorem XP.busy(R:XP S C b L' T w g M)(o:X<5){a:Nat}(j:a<=T)(hb:∀t,t<a->¬Qm ((w t).Za X))(m:∀t,t<a->Ask Ko ((w t).Za X) ((w t).Za X).Zd)(hr:∀t,t<a->∀r,((w t).Za X).Zc=aV r->(r.b,-1)∈Ko):∀t,t<=a->me Ko ((w t).Za X)+t<=me Ko ((w 0).Za X):=by
 intro t
 induction t with
 | zero=>grind
 | succ t i=>
  intro q;have x:=i uh;have s:=(R.Zig uh o (m t uh) (hr t uh)).2 (hb t uh);omega
theorem XP.ZrA(R:XP S C b L' N w g M)(E:H<5)(hL:L<5)(XU:L≠H)(hβ:∀t,t<=N->¬Zj ((w t).Za H).Zn.p β)(hn:((w 0).Za H).Zc=bb)(lg:∀t,t<=N->((w t).Za H).ZF.length<40)(aH:∀t,1<=t->t<=N->Ask Kb ((w t).Za H) ((w t).Za H).Zd)(Z:∀t,1<=t->t<=N->(∀s,1<=s->s<t->¬Qm ((w s).Za L))->Ask Kv ((w t).Za L) ((w t).Za L).Zd)(rL:∀t,t<=N->∀r,((w t).Za L).Zc=aV r->(r.b,-1)∈Kv)(aS:∀s t,1<=s->s<t->t<=N->Qm ((w s).Za L)->Ask Ks ((w t).Za L) ((w t).Za L).Zd)(n1:2*(aq Kv)+2*(aq Kb)+12<=N+N)(n2:2*(aq Kb)+2*(aq Ks)+12<=N)(n3:2*(aq Kv)+4<=N)(n4:2*(aq Kb)+10<=N):¬Zj ((w N).Za L).Yy β:=by
 have R1:=R.sh (a:=1) (T:=N) uh;obtain⟨j,hj,a0⟩:∃j:Nat,j<=4/\(((w 1).Za H).YO+1+j)%5=L:=by
  have:=(R.at 1).nd H E;have h0:0<=((w 1).Za H).YO:=this.ni.YO.1;exact⟨(((L:Int)-((w 1).Za H).YO+4)%5).toNat,uh,uh⟩
 have C6:=Hw Kb ((w 1).Za H);have i:∀t,Go.Proofs.YtkhkmpfenaipaaaGreatDoor.sh w 1 t=w (t+1):=fun t=>by unfold Go.Proofs.YtkhkmpfenaipaaaGreatDoor.sh;congr 1;omega
 let⟨y,_,h2,V⟩:=R1.Zq7 (Ko:=Kb) E hL XU (fun t o r hr=>by rw[i,R.uf E hn]at hr;cases hr) (fun t o=>by grind) (2*(aq Kb)+1+4) 0 j (by
  grind) uh hj zK
 rcases V with V|⟨m,P,k5,kt,O⟩
 .grind
 rw[i]at P O
 let⟨a,ha⟩:=ZO (y+1+1);have sy:m∈((w a).Za L).Zd:=by
  rw[ha,R.a];exact (TD hL ((R.at (y+1)).nd L hL).up).2 (.inr ⟨P,uh⟩)
 have NH:¬Zj m.b β:=fun z=>hβ (y+1) uh (Wf O z);have fin:∀(K:List (ZN × Int)) q,Ask K ((w a).Za L) ((w a).Za L).Zd->me K ((w a).Za L)<=q->a+q+1<=N->¬Zj ((w N).Za L).Yy β:=fun K q hA hq hN=>by
  let⟨t2,_,a2,x⟩:=R.dl (Ko:=K) hL (Ma (L':=L') (β:=β) (A:=fun l=>l.a=5/\¬Zj l.b β) (G:=fun _=>False) fun l h=>h) q a hq uh (.inr (.inr ⟨_,[],(bq _).symm,⟨m,sy,k5,NH⟩,hA⟩));rcases x with x|⟨_,_,x⟩
  .exact R.Zef hL x N uh
  grind
 by_cases c:∃s,1<=s/\s<a/\Qm ((w s).Za L)
 .let⟨s,c1,c2,c3⟩:=c;have:=Hw Ks ((w a).Za L)
  grind
 .have nf:∀s,1<=s->s<a->¬Qm ((w s).Za L):=fun s D J q3=>c ⟨s,D,J,q3⟩;have hb:=R1.busy (Ko:=Kv) hL (a:=a-1) uh (fun t o=>by grind) (fun t o=>by rw[i];exact Z (t+1) uh uh fun s D J=>nf s D uh) (fun t o r hr=>by grind) (a-1) (a8 _);rw[i,i,show a-1+1=a by omega]at hb;have:=Hw Kv ((w (0+1)).Za L);exact fin Kv (2*(aq Kv)+1-(a-1)) (Z a uh uh nf) uh uh
theorem XP.ez0(R:XP S C b L T w g M)(E:(w 0).b=[])(o:β=Y2\/Zv β)(live:∀X,X<5->∀r,((w T).Za X).Zc=aV r->¬Zj β r.b\/Zj r.b ((w T).Za X).Zn.p)(i:X<5)(G:Zj β ((w T).Za X).Zn.p):∀t,t<T->∀m∈(step ((w t).Za X)).ls,¬Rq m:=fun t K m y x=>by
 have dies:∀Y,Y<5->∀t,t<=T->∀r,((w t).Za Y).Zc=aV r->Zj β r.b->Zj r.b ((w T).Za Y).Zn.p:=fun Y J t j r hr hb=>by
  rcases R.Hz J hr j with⟨O,z1,z2,_⟩|z
  .grind
  .exact z
 refine R.ez (D:=fun X=>((w T).Za X).Zn.p) (β:=β) (t0:=0) (fun t _=>?_) (fun X i q=>R.db i q o) dies (fun X i _ t j c q=>(R.Cc i c q T j (a8 _)).Zn rfl) _ X i G (a8 _) t (bc _) K m y x
 cases t with
 | zero=>exact E
 | succ s=>exact R.WM s
end
section
variable {S:Cm->Prop} {C Cs:List Cm} {F:Nat->Prop} {b β d:ZN} {h H L L' X T N N2 p0 l t a:Nat} {w w1 w2:Nat->Wd} {g g1 g2:Nat->Gh} {M M1 M2:Nat->Nat->ZN} {Kb Kv Ks Ko:List (ZN × Int)} {e:Nat->Nat} {v:Vw} {u:Wd}
namespace Md
variable (W:Md S C Cs F b L' L p0 N N2 e w1 w2 g1 g2 M1 M2)
include W
def ZA6(i:1<=N):(w2 0).b=[]:=by
 rw[W.link];show (w1 N).b=[]
 obtain⟨s,rfl⟩:∃s,N=s+1:=⟨N-1,uh⟩
 exact W.R1.WM s
theorem ZrB(X:Nat):Xa ((w2 0).Za X)=Xa ((w1 N).Za X)/\((w2 0).Za X).Zn=((w1 N).Za X).Zn:=by
 rw[W.link,XT]
 grind [UH,Cd]
def ZA7(X:Nat)(i:X<5)(t:Nat)(m:t<=N):¬Zj ((w2 N2).Za X).Zn.p ((w1 t).Za X).Zn.p:=by
 have o:=W.R1.Vs i (t0:=t) (Yv _) N m;have j:=W.R2.Vs i (t0:=0) (Yv _) N2 (bc _);rw[(W.ZrB X).2]at j;exact Xh o j
theorem AX(live:∀X,X<5->∀r,((w2 N2).Za X).Zc=aV r->¬Zj β r.b\/Zj r.b ((w2 N2).Za X).Zn.p):∀Y,Y<5->∀t,t<=N2->∀r,((w2 t).Za Y).Zc=aV r->Zj β r.b->Zj r.b ((w2 N2).Za Y).Zn.p:=fun Y j t i r hr hb=>by
 rcases W.R2.Hz j hr i with⟨m,z1,z2,_⟩|z
 .grind
 .exact z
theorem ZjB(live:∀X,X<5->∀r,((w2 N2).Za X).Zc=aV r->¬Zj β r.b\/Zj r.b ((w2 N2).Za X).Zn.p):∀Y,Y<5->∀t,t<=N->∀r,((w1 t).Za Y).Zc=aV r->Zj β r.b->Zj r.b ((w2 N2).Za Y).Zn.p:=fun Y i t j r hr hb=>by
 rcases W.R1.Hz i hr j with⟨o,z1,z2,_⟩|z
 .by_cases c:Y=L
  .subst c;have q:=IB W.R1 i hr j;have m:Zj r.b (Yl ((w1 N).Za Y)):=.inl q;have:=W.AX live Y i 0 (bc _) ⟨Yl ((w1 N).Za Y),[],false,[],[]⟩ (by rw[W.link,XT,if_pos rfl];rfl) (Lb hb m);exact Lb m this
  .have:=W.AX live Y i 0 (bc _) o (by rw[W.at0 Y c];exact z1) zK
   grind
 .exact VY z (W.ZA7 Y i N (a8 _))
theorem uj2(K:1<=N)(E:β=Y2\/Zv β)(live:∀X,X<5->∀r,((w2 N2).Za X).Zc=aV r->¬Zj β r.b\/Zj r.b ((w2 N2).Za X).Zn.p)(J:Zj β d):∀u,u<N2->∀i,i<5->∀m∈(step ((w2 u).Za i)).ls,UJ d m:=fun u G i hi m z=>aX fun q=>by
 let⟨y,Z⟩:=qc q;have s:=W.R2.at u;have o:=W.R2.ti u uh;let⟨_,⟨x,P,j⟩,_⟩:=Sw hi W.R2.hC W.R2.hb (s.nd i hi) (s.JC i hi) o.a (o.nd i hi) (fun l D=>⟨(s.JC i hi l D).li,o.JC i hi l D⟩) z y;have O:x.b=d:=by
  rcases j with⟨k0,e⟩|⟨V,e⟩
  .grind
  .grind
 have:=W.AX live i hi u uh x P zK;rw[O]at this;exact W.R2.ez0 (W.ZA6 K) E live hi (Lb J this) u G m z y
theorem ZrC(z:1<=N)(q:β=Y2\/Zv β)(live:∀X,X<5->∀r,((w2 N2).Za X).Zc=aV r->¬Zj β r.b\/Zj r.b ((w2 N2).Za X).Zn.p)(y:X<5)(x:Zj β d)(j:X=L->Yl ((w1 N).Za L)≠d)(h:CDx d X (w1 N)):((w2 N2).Za X).Zn.p≠d:=by
 have D:CDx d X (w2 0):=by
  refine⟨by rw[(W.ZrB X).2];exact h.Zn,fun p E=>?_,fun l j=>by rw[W.bx0]at j;exact h.box l j,fun r hr=>?_⟩
  .grind [CDx.DL,UH,XT,Md.link,Wm]
  .grind [CDx.Rd,UH,XT,Md.link]
 exact (W.R2.Cc y D (fun u _ o i hi m s=>W.uj2 z q live x u o i hi m s) N2 (bc _) (a8 _)).Zn
theorem ez2(J:1<=N)(j:β=Y2\/Zv β)(live:∀X,X<5->∀r,((w2 N2).Za X).Zc=aV r->¬Zj β r.b\/Zj r.b ((w2 N2).Za X).Zn.p)(i:X<5)(G:Zj β ((w2 N2).Za X).Zn.p):¬jR w1 N X:=fun⟨t,O,K,m,E,y⟩=>by
 refine W.R1.ez (D:=fun X=>((w2 N2).Za X).Zn.p) (β:=β) (t0:=1) (fun t o=>?_) (fun X i q=>W.R2.db i q j) (W.ZjB live) (fun X i x t o c q=>?_) _ X i G (a8 _) t O K m E y
 .obtain⟨s,rfl⟩:∃s,t=s+1:=⟨t-1,uh⟩
  exact W.R1.WM s
 .have P:=W.R1.Cc i c q N o (a8 _);refine W.ZrC J j live i x (fun e z=>?_) P rfl;subst e;have:=W.AX live X i 0 (bc _) ⟨Yl ((w1 N).Za X),[],false,[],[]⟩ (by rw[W.link,XT,if_pos rfl];rfl) zK
  grind [Yv]
theorem low(hN:1<=N)(hβ:β=Y2\/Zv β)(live:∀X,X<5->∀r,((w2 N2).Za X).Zc=aV r->¬Zj β r.b\/Zj r.b ((w2 N2).Za X).Zn.p)(hKs:∀l∈((w1 1).Za L).Zd,Rq l->Jw l∈Ks)(hn:2*(aq Ks)+5<=N):¬Zj β ((w2 N2).Za L).Zn.p:=fun G=>by
 let⟨d,ed⟩:=ZO (((w2 N2).Za L).Zn.p);rw[<-ed]at G;have hL:=W.hL
 have CZ:Zj (Yl ((w1 N).Za L)) d:=by
  by_cases c:Zj β (Yl ((w1 N).Za L))
  .rw[ed];exact W.AX live L hL 0 (bc _) ⟨Yl ((w1 N).Za L),[],false,[],[]⟩ (by rw[W.link,XT,if_pos rfl];rfl) c
  .exact Wf c G
 have ph:Zj ((w1 N).Za L).Zn.p d:=by
  refine Lb (b:=Yl ((w1 N).Za L)) ?_ CZ;refine .inl ?_;unfold Yl;simp only;split<;>omega
 have quiet:∀u,1<=u->u<N->∀i,i<5->∀m∈(step ((w1 u).Za i)).ls,UJ d m:=fun u J hu i hi m o=>aX fun q=>by
  let⟨D,hk⟩:=qc q;have Pu:=W.R1.at u;have TT:=W.R1.ti u uh;let⟨_,⟨r1,LX,O⟩,_⟩:=Sw hi W.R1.hC W.R1.hb (Pu.nd i hi) (Pu.JC i hi) TT.a (TT.nd i hi) (fun l x=>⟨(Pu.JC i hi l x).li,TT.JC i hi l x⟩) o D;have eb:r1.b=d:=by
   rcases O with⟨k0,e⟩|⟨k2,e⟩
   .grind
   .grind
  have:=W.ZjB live i hi u uh r1 LX zK;rw[eb]at this;exact W.ez2 hN hβ live hi (Lb G this) ⟨u,J,hu,m,o,D⟩
 have mq:∀u,1<=u->u<N->∀m∈Qw (w1 u),UJ d m:=fun u E V m o=>by
  rcases JI.1 o with z|⟨i,hi,z⟩
  .obtain⟨s,rfl⟩:∃s,u=s+1:=⟨u-1,uh⟩
   rw[W.R1.WM s]at z;cases z
  grind
 obtain⟨N',a0⟩:∃N',N=N'+1:=⟨N-1,uh⟩
 have R':XP S C b L' N' w1 g1 M1:=⟨W.R1.hC,W.R1.hb,W.R1.a,W.R1.pw,fun t K=>W.R1.nf t uh,fun t K=>W.R1.ti t uh⟩
 let⟨j,q1,q2,q3⟩:=R'.flush (Ko:=Ks) hL (Z:=UJ d) (t0:=1) (fun t E V m o=>mq t E uh m o) (2*(aq Ks)+1) 1 (a8 _) (Hw Ks _) uh ⟨((w1 1).Za L).Zd,[],(bq _).symm,(fun l x=>by cases x),fun l x D _=>hKs l x D⟩;have fl:(w1 j).b=[]:=by
  obtain⟨s,rfl⟩:∃s,j=s+1:=⟨j-1,uh⟩
  exact W.R1.WM s
 have y:∀t,t<=N->Zj ((w1 t).Za L).Zn.p d:=fun t K=>Wf (W.R1.Vs hL (t0:=t) (Yv _) N K) ph;have c:CDx d L (w1 j):=by
  refine⟨N9 (y j uh),fun p hp e=>?_,fun l x=>?_,fun r hr e=>?_⟩
  .have P:=(W.R1.at j).nd L hL;have:=y (j+1) uh;rw[W.R1.a,Qg _ L hL P.up]at this;have es:step ((w1 j).Za L)=Yc (ZE ((w1 j).Za L)) p:=by unfold step;rw[if_pos P.up,hp]
   have this:Zj (step ((w1 j).Za L)).n.Zn.p d:=this;rw[es]at this;have eo:(Yc (ZE ((w1 j).Za L)) p).n.Zn=YM p:=by cases p<;>rfl
   rw[eo,e]at this;exact Yv _ this
  .unfold bx at x
   grind
  .have E:=IB W.R1 hL hr (t:=N) uh
   grind [Zj]
 have cN:=W.R1.Cc hL c (fun u E V i hi m o=>quiet u uh V i hi m o) N uh (a8 _)
 grind [Md.ZrC,N9]
end Md
end
section
variable {S:Cm->Prop} {C Cs:List Cm} {F:Nat->Prop} {b β:ZN} {h H L L' X T N N2 p0 l t a:Nat} {w w1 w2:Nat->Wd} {g g1 g2:Nat->Gh} {M M1 M2:Nat->Nat->ZN} {Kb Kv Ks Ko:List (ZN × Int)} {e:Nat->Nat} {v:Vw} {u:Wd}
def XP.Zin(R:XP S C b L T w g M)(m:X<5)(o:¬Qm ((w t).Za X)):((w (t+1)).Za X).YO=((w t).Za X).YO:=by
 have i:=((R.at t).nd X m).up;rw[R.a,Qg (w t) X m i];show (step ((w t).Za X)).n.YO=_
 cases j:((w t).Za X).Zo with
 | some p=>
  have e:step ((w t).Za X)=Yc (ZE ((w t).Za X)) p:=by unfold step;rw[if_pos i,j]
  rw[e]
  cases p<;>rfl
 | none=>
  have e:step ((w t).Za X)=Zw ((w t).Za X) ((w t).Za X).Zd:=by
   unfold step;rw[if_pos i,j];simp only;rw[if_pos]
   cases z:(Zw ((w t).Za X) ((w t).Za X).Zd).n.Zo with
   | none=>exact absurd ⟨j,z⟩ o
   | some p=>rfl
  rw[e];exact LO _ _
theorem XP.qj(R:XP S C b L' T w g M)(o:H<5)(hL:L<5)(XU:L≠H)(hβ:∀t,t<=T->¬Zj ((w t).Za H).Zn.p β)(P:((w 0).Za H).Zc=bb)(lg:∀t,t<=T->((w t).Za H).ZF.length<40)(h7:OY w T+7<=T):¬Zj ((w T).Za L).Yy β:=by
 obtain⟨A,hA⟩:∃A:Yt->Prop,A=fun l=>l.a=5/\¬Zj l.b β/\l.to=(L:Int):=⟨_,rfl⟩
 obtain⟨E,hE⟩:∃E:Nd->Prop,E=fun n=>¬Zj n.Yy β:=⟨_,rfl⟩
 have s:Q8 (PN C b L' L) (PJ C b) A (fun _=>False) E (fun _=>False):=by
  rw[hE];exact Ma fun l q=>by grind
 obtain⟨Z,D⟩:∃Z:Nat->Nat->Prop,Z=fun k t=>Src A E (fun _=>False) ((w t).Za L)\/∃j:Nat,j+k<=4/\(((w t).Za H).YO+1+j)%5=L:=⟨_,rfl⟩
 have src:∀t,Src A E (fun _=>False) ((w t).Za L)->Src A E (fun _=>False) ((w (t+1)).Za L):=fun t q=>(R.Hx hL s q).1.resolve_right fun⟨_,_,z⟩=>z;have fr:∀k t,t<T->Qm ((w t).Za H)->Z k t->Z (k+1) (t+1):=fun k t i y q=>by
  rw[D]at q ⊢;rcases q with q|⟨j,K,J⟩
  .grind
  .let⟨k1,x⟩:=R.pV o XU (fun r hr=>by rw[R.uf o P]at hr;cases hr) y;rcases x with x|x|⟨m,V,k5,kt,kb⟩
   .grind
   .have a0:j≠0:=fun e=>by grind
    exact .inr ⟨j-1,uh,zK⟩
   .refine .inl (R.XN hL ⟨m,V,?_⟩ fun m q=>by grind)
    grind [Wf]
 have less:∀k t,Z (k+1) t->Z k t:=fun k t q=>by
  grind
 have st:∀k t,t<T->Z k t->Z k (t+1):=fun k t i q=>by
  by_cases y:Qm ((w t).Za H)
  .grind
  .rw[D]at q ⊢;rcases q with q|⟨j,K,J⟩
   .grind
   .exact .inr ⟨j,K,by rw[R.Zin o y];exact J⟩
 have z0:Z 0 0:=by
  rw[D];have:=(R.at 0).nd H o;have h0:0<=((w 0).Za H).YO:=this.ni.YO.1;exact .inr ⟨(((L:Int)-((w 0).Za H).YO+4)%5).toNat,uh,uh⟩
 have z1:∀t,t<=T->Ct w t 0->Z 0 t:=by
  intro t
  induction t with
  | zero=>grind
  | succ t G=>grind [Ct.zero]
 have O:∀k t,t<=T->Ct w t k->Z k t:=by
  intro k
  induction k with
  | zero=>exact z1
  | succ k G=>exact UQ G (st (k+1)) fun t i hc q=>fr k t i (hc H o) q
 have z5:∀t,t<=T->Ct w t 5->Src A E (fun _=>False) ((w t).Za L):=fun t i hc=>by
  grind
 have z6:∀t,t<=T->Ct w t 6->¬Zj ((w t).Za L).Yy β:=UQ z5 (fun t _ q=>R.Zef hL q (t+1) uh) fun t i hc q=>by
  have:=((R.Hx hL s q).2 (hc L hL)).resolve_right fun⟨_,_,z⟩=>z
  grind
 exact z6 T (a8 _) (cV w T 6 uh)
end
def kP(c m chi q:Nat):Nat:=min 40 ((106-8*m-1-q-c-4*chi)/2+5+c)
def ZeA(c m chi P:Nat):Nat:=((aw (m-1)).map fun i=>min P (c*(i+1+1)+chi)).sum
def ZrE(c m chi x u:Nat):Bool:=
 decide (8*m+1+(u+x)+c+6*chi<=106->2*((if x=0 then ZeA c m chi (kP c m chi (u+x)) else DU c m chi (kP c m chi (u+x)))+(m+1+(u+x))+(if u=1 then min (kP c m chi (u+x)) (c*m+chi)+c else min (kP c m chi (u+x)) (c*m+chi)))+4<=100+20*(c+m+1+(u+x))+2 /\
  2*(DU c m chi (kP c m chi (u+x))+(m+1+(u+x)))+5<=100+20*(c+m+1+(u+x))/\2*min (kP c m chi (u+x)) (c*m+chi)+4*(min 40 (min (kP c m chi (u+x)) (c*m+chi)+5*c)+1)+12<=100+20*(c+m+1+(u+x)))
def ZrF:((aw 6).all fun c=>(aw 12).all fun m=>(aw 16).all fun chi=>decide (106<8*m+c+6*chi+16)||(aw 2).all fun x=>(aw 2).all fun u=>ZrE (c+1) (m+1) (chi+1) x u)=true:=by
 decide +kernel
theorem ZrG{c m chi x u:Nat}(hc:1<=c/\c<7)(E:1<=m)(J:1<=chi)(z:x<=1)(D:u<=1)(h:8*m+1+(u+x)+c+6*chi<=106):
  2*((if x=0 then ZeA c m chi (kP c m chi (u+x)) else DU c m chi (kP c m chi (u+x)))+(m+1+(u+x))+(if u=1 then min (kP c m chi (u+x)) (c*m+chi)+c else min (kP c m chi (u+x)) (c*m+chi)))+4<=100+20*(c+m+1+(u+x))+2 /\
  2*(DU c m chi (kP c m chi (u+x))+(m+1+(u+x)))+5<=100+20*(c+m+1+(u+x))/\2*min (kP c m chi (u+x)) (c*m+chi)+4*(min 40 (min (kP c m chi (u+x)) (c*m+chi)+5*c)+1)+12<=100+20*(c+m+1+(u+x)):=by
 have y:=ZrF;rw[ba]at y;have s:=y (c-1) (aW.2 uh);rw[ba]at s;have o:=s (m-1) (aW.2 uh);rw[ba]at o;have i:=o (chi-1) (aW.2 uh);rw[bE]at i;have i:=i.resolve_left fun q=>by grind
 rw[ba]at i;have j:=i x (aW.2 uh);rw[ba]at j;have G:=j u (aW.2 uh)
 grind [ZrE]
theorem ZeB(f o:Nat->Nat):∀m j,j<m->(∀i,i<m->o i<=f i)->o j=0->((aw m).map o).sum+f j<=((aw m).map f).sum:=by
 intro m
 induction m with
 | zero=>grind
 | succ m q=>
  intro j z h D;rw[b8,bw,bw,bA,bA];simp only[bS,List.map_nil,bT,List.sum_nil];have y:=h m uh;by_cases c:j=m
  .subst c;have:=DW o f (aw j) (fun x s=>h x zK);omega
  grind
open Classical in
theorem Zio(v:Vw)(c:Nat)(β:ZN)(hK:β∈v.K):∃Ks:List (ZN × Int),(aq Ks)+1<=v.K.length+(if β∈v.B then ((aw (v.B.length-1)).map fun i=>Ur v c (i+1)).sum else ((aw v.B.length).map (Ur v c)).sum)/\(∀b∈v.K,b≠β->(b,-1)∈Ks)/\∀x:Vt,SX v c c x->x.b≠β->(x.b,x.Zx)∈Ks:=by
 obtain⟨o,G⟩:∃o:Nat->Nat,o=fun i=>if v.B[i]? = aV β then 0 else Ur v c i:=⟨_,rfl⟩
 refine⟨(v.K.filter fun b=>decide (b≠β)).map (fun b=>(b,-1))++(aw v.B.length).flatMap (fun i=>if v.B[i]? = aV β then [] else (aw (Ur v c i)).map fun s=>((v.B[i]?).getD Y2,((s:Nat):Int))),?_,fun b hb z=>a7.2 (.inl (bf.2 ⟨b,a9.2 ⟨hb,decide_eq_true z⟩,rfl⟩)),fun x y z=>?_⟩
 .rw[bW,bp,bK];have e:((aw v.B.length).map fun i=>(if v.B[i]? = aV β then [] else (aw (Ur v c i)).map fun s=>((v.B[i]?).getD Y2,((s:Nat):Int))).length)=(aw v.B.length).map o:=by
   congr 1
   funext i
   rw[G];simp only;split
   .rfl
   .grind
  rw[e];have V:=MC (fun b=>decide (b≠β)) v.K;have J:0<(v.K.filter fun x=>!decide (x≠β)).length:=bt (a:=β) (a9.2 ⟨hK,zX⟩);have le:∀i,o i<=Ur v c i:=fun i=>by grind
  by_cases q:β∈v.B
  .rw[if_pos q];let⟨j,E,ej⟩:=List.getElem_of_mem q;have D:=ZeB (Ur v c) o v.B.length j E (fun i _=>le i) zK;have O:Ur v c 0<=Ur v c j:=by
    have:=bh c (show 0+1<=j+1 by omega);unfold Ur;omega
   obtain⟨m,K⟩:∃m,v.B.length=m+1:=⟨v.B.length-1,uh⟩
   rw[K]at D ⊢;have es:((aw (m+1)).map (Ur v c)).sum=Ur v c 0+((aw m).map fun i=>Ur v c (i+1)).sum:=by
    rw[List.range_succ_eq_map,bS,bT,List.map_map];rfl
   grind
  .rw[if_neg q];have:=DW o (Ur v c) (aw v.B.length) fun i _=>le i;omega
 .let⟨i,hi,J,P,_⟩:=cY y;have Z:=y.1
  grind
section
variable {S:Cm->Prop} {C Cs:List Cm} {F:Nat->Prop} {b β:ZN} {h H L L' X Y T N N2 p p0 p1 l t a:Nat} {w w1 w2:Nat->Wd} {g g1 g2:Nat->Gh} {M M1 M2:Nat->Nat->ZN} {Kb Kv Ks Ko:List (ZN × Int)} {e:Nat->Nat} {v v1:Vw} {u:Wd}
theorem XP.Z8(R:XP S C b L T w g M)(ht:t+1<=T)(i:X<5){m:Yt}(D:m∈(step ((w t).Za X)).ls)(hq:Rq m):Qm ((w t).Za X)/\∃r,((w t).Za X).Zc=aV r/\((m.a=0/\m.b=r.b)\/(m.a=2/\m.v.b=r.b))/\(Jw m=(r.b,-1)\/∃s:Nat,Jw m=(r.b,(s:Int))/\∃r',((w (t+1)).Za X).Zc=aV r'/\Has r'.ZQ (s:Int)):=by
 have P:=R.at t;have G:=R.ti t uh;let⟨E,⟨r,hr,K⟩,_⟩:=Sw i R.hC R.hb (P.nd X i) (P.JC X i) G.a (G.nd X i) (fun l J=>⟨(P.JC X i l J).li,G.JC X i l J⟩) D hq;refine⟨E,r,hr,K,?_⟩;rcases K with⟨k0,e⟩|⟨o,e⟩
 .exact .inl (by rw[Lc k0,e])
 .have y:=(P.nd X i).up;let⟨d,O⟩:=ZO ((Zw ((w t).Za X) ((w t).Za X).Zd).n);have gH:m∈(YH d).ls:=by
   rw[Xi y E,<-O]at D;rcases a7.1 D with q|q
   .exact absurd o (PU _ _ m q).2
   .exact q
  rcases LP d with⟨_,z⟩|⟨V,h1,_,_,_,h5,h6,_⟩
  .grind
  .let⟨s,_,q⟩:=bn.1 (h6 m gH o);let⟨x,j,Z,_,_,em⟩:=Su q;refine .inr ⟨s,by rw[ON o,e,em];rfl,Xs d V,?_,UG Z⟩;rw[R.a,(Vb i y).2.2,Xi y E,<-O];exact h5
theorem XP.ZeC(R:XP S C b L' T w g M)(OX:∀x,S x->x∈Cs)(hF:∀t,t<=T->∀X,X<5->∀u,u<((w t).Za X).ZF.length->F u)(zp:∀s,p<=s->¬F s)(G:Gw Cs F p p e (fun _=>0) (w 0))(o:a<=T)(E:∀t,t<a->∀X,X<5->X≠Y->∀m∈(step ((w t).Za X)).ls,m.a≠2):
  ∀t,t<=a->∃q i,Gw Cs F p p q i (w t)/\∀X,X<5->X≠Y->i X=0:=by
 intro t
 induction t with
 | zero=>grind
 | succ t j=>
  intro D;let⟨e1,f1,y,z⟩:=j uh;let⟨J,f2,K,_,_,k⟩:=R.jN (t:=t) uh OX (hF (t+1) uh) (a8 _) zp y
  grind
theorem XP.ZeD(R:XP S C b L' T w g M)(OX:∀x,S x->x∈Cs)(hF:∀t,t<=T->∀X,X<5->∀u,u<((w t).Za X).ZF.length->F u)(zp:∀s,p<=s->¬F s)(G:Gw Cs F p p e (fun _=>0) (w 0))(i:Y<5)(beg:∀r,((w 0).Za Y).Zc=aV r->r.a=true->∀pr kn,Rz Cs F p kn pr (e Y)->(Hy pr).length<=p):
  ∃D:List Nat,(aq D)<=p+(if ∃r,((w 0).Za Y).Zc=aV r/\r.a=false then (aq Cs) else 0)/\∀a,a<=T->(∀t,t<a->∀X,X<5->X≠Y->∀m∈(step ((w t).Za X)).ls,m.a≠2)->∀t,t<=a->∀r,((w t).Za Y).Zc=aV r->∀s:Nat,Has r.ZQ (s:Int)->s∈D:=by
 cases K:((w 0).Za Y).Zc with
 | none=>
  refine⟨[],bc _,fun a J E t q r hr=>?_⟩;let⟨_,z,_⟩:=R.Qn i t r hr 0 (bc _)
  grind
 | some o=>
  by_cases hb:o.a=true
  .let⟨D,d1,d2⟩:=R.cover (k:=p) i fun t q r hr=>by
    let⟨O,j,y,h,_⟩:=R.Cb OX hF (a8 _) zp G t q;let⟨z1,z2⟩:=h Y i ⟨o,K,hb⟩;have Z:=((y.nd Y i).T7 r hr (z2 r hr)).1
    grind [Rz.SF]
   grind
  .have P:o.a=false:=by simpa using hb
   rw[if_pos ⟨o,rfl,P⟩];refine⟨aw (p+(aq Cs)),zK,fun a J E t q r hr s h=>?_⟩;let⟨O,j,y,n⟩:=R.ZeC OX hF zp G J E t q;have h1:=(y.nd Y i).ZQ r hr s h;have h2:=(y.nd Y i).le;have h3:Jg j=j Y:=by
    rw[<-AU (f:=j) i,AT (h:=fun _=>0) fun X V=>by
     grind]
    show (0+0+0+0+0)+j Y=j Y;omega
   grind
end
structure One(v v1:Vw)(Cs:List Cm)(F1:Nat->Prop)(p0 p1:Nat)(e1:Nat->Nat)(w:Wd):Prop where
 p:p1=JW v1 (aq Cs)
 pp:p0<=p1
 gw:Gw Cs F1 p1 p1 e1 (fun _=>0) w
 hF:∀s,p1<=s->¬F1 s
 beg:∀X,X<5->∀r,(w.Za X).Zc=aV r->r.a=true->∀pr kn,Rz Cs F1 p1 kn pr (e1 X)->(Hy pr).length<=p1
 box:∀X,X<5->∀l∈(w.Za X).Zd,(l.a=0->l.b∈v1.K)/\(l.a=2->SX v1 (aq Cs) (aq Cs) l.v)
 rk:∀X,X<5->∀r,(w.Za X).Zc=aV r->r.b∈v1.K/\(r.a=false->r.b ∉ v1.B)/\r.b.n=X
 nB:v1.B.Nodup
 bk:∀b∈v1.B,b∈v1.K
 k:v1.K.length<=v.K.length+1
 bud:6*v1.B.length+2*(Cp v1).length+4*(WN v1).length+v1.B.length+v1.K.length+v1.T+(aq Cs)<=106
 m:1<=v1.B.length
 chi:1<=(WN v1).length
section
variable {S:Cm->Prop} {C Cs:List Cm} {F F1:Nat->Prop} {b β d:ZN} {h H L L' X Y T N N2 p p0 p1 l t a:Nat} {w w1 w2:Nat->Wd} {g g1 g2:Nat->Gh} {M M1 M2:Nat->Nat->ZN} {Kb Kv Ks Ko:List (ZN × Int)} {e e1:Nat->Nat} {v v1:Vw} {u:Wd}
theorem XP.boxes(R:XP S C b L T w g M)(j:X<5){Z:Yt->Prop}{t0:Nat}(h:∀l∈((w t0).Za X).Zd,Z l)(s:∀t,t0<=t->t<a->∀m∈Qw (w t),Z m):∀t,t0<=t->t<=a->∀l∈((w t).Za X).Zd,Z l:=by
 intro t
 induction t with
 | zero=>grind
 | succ t o=>
  intro y x l i;by_cases e:t0=t+1
  .grind
  .rcases R.box j i with q|q
   .grind
   grind
theorem Zip{n:Nd}(h:PN C b L X n):∀y∈(Xa n).l,¬Zj (Xa n).p y.b:=by
 unfold Xa;split
 .rename_i p i;exact (h.DL p i).2.2
 .exact h.Xc
theorem ZeE(R:XP S C b L T w g M)(j:X<5)(h:¬Zj (Xa ((w t).Za X)).p β):¬Zj ((w (t+1)).Za X).Zn.p β:=by
 have P:=(R.at t).nd X j
 cases i:((w t).Za X).Zo with
 | none=>
  have e:Xa ((w t).Za X)=((w t).Za X).Zn:=by unfold Xa;rw[i]
  rw[e]at h;exact R.Vs j (t0:=t) h (t+1) uh
 | some p=>
  have e:Xa ((w t).Za X)=YM p:=by unfold Xa;rw[i]
  rw[e]at h;have es:step ((w t).Za X)=Yc (ZE ((w t).Za X)) p:=by unfold step;rw[if_pos P.up,i]
  have m:(Yc (ZE ((w t).Za X)) p).n.Zn=YM p:=by cases p<;>rfl
  rw[R.a,Qg _ X j P.up]
  grind
theorem XP.Ziq(R:XP S C b L' N w g M)(i:X<5)(ok:∀t,t<=N->∀l∈((w t).Za X).Zd,tX l)(s:∀t,1<=t->t<N->∀m∈Qw (w t),Rq m->(Jw m).1≠β)(y:∀l∈((w 1).Za X).Zd,Rq l->Jw l∈Ko)(hn:2*(aq Ko)+5<=N){l:Yt}(x:l∈((w 1).Za X).Zd)(o:Rq l)(V:(Jw l).1=β):¬Zj ((w N).Za X).Zn.p β:=by
 obtain⟨D,a0⟩:∃D,N=D+1:=⟨N-1,uh⟩
 have R':XP S C b L' D w g M:=⟨R.hC,R.hb,R.a,R.pw,fun t E=>R.nf t uh,fun t E=>R.ti t uh⟩
 let⟨j,J,q2,G⟩:=R'.flush (Ko:=Ko) i (Z:=fun m=>Rq m->(Jw m).1≠β) (t0:=1) (fun t h1 h2 m LS=>s t h1 uh m LS) (2*(aq Ko)+1) 1 (a8 _) (Hw Ko _) uh ⟨((w 1).Za X).Zd,[],(bq _).symm,(fun l x=>by cases x),fun l x o _=>y l x o⟩;have key:∀t,1<=t->t<=N->l∈((w t).Za X).Zd\/¬TE (Xa ((w t).Za X)) (Jw l):=by
  intro t
  induction t with
  | zero=>grind
  | succ t K=>
   intro _ E;by_cases c:t=0
   .grind
   .have P:=(R.at t).nd X i;have ea:Xa ((w (t+1)).Za X)=Xa (step ((w t).Za X)).n:=by rw[R.a];exact (Vb i P.up).1
    rcases K uh uh with q|q
    .rcases step_done i R.hC R.hb P (R.nf t uh X i) (fun m s=>⟨(R.at t).JC X i m s,ok t uh m s⟩) q o with z|z
     .refine .inl ?_;rw[R.a];exact (TD i P.up).2 (.inl z)
     grind
    .refine .inr fun z=>q ?_;rw[ea]at z;exact D5 i R.hC R.hb P ((R.at t).JC X i) _ z
 have O:=(key j J uh).resolve_left fun q=>G l q o V;have P:=(R.at j).nd X i;have ha:¬Zj (Xa ((w j).Za X)).p β:=fun z=>O (by
  grind [TE,Q6,Zip])
 exact R.Vs i (t0:=j+1) (ZeE R i ha) N uh
theorem qm{n:Nd}(h:¬Zj n.Yy β):Zj β (Yl n):=by
 refine .inl ?_;unfold Zj at h;unfold Yl
 grind
def ZeF{w:Wd}{L H:Nat}(hL:L<5)(m:H<5)(o:H≠L)(i:∃r,(w.Za L).Zc=aV r)(j:(w.Za H).Zc=bb):Bd w+1<=5:=by
 have s:=dd w hL i;have q:=AW w hL m o i j;omega
theorem One.num(O:One v v1 Cs F1 p0 p1 e1 u)(B:Bud v Cs p0 N N2){x q G SUM:Nat}(j:x<=1)(o:q<=1)(hK:v1.B.length+1+(q+x)<=v1.K.length)(hS:SUM=if x=0 then ((aw (v1.B.length-1)).map fun i=>Ur v1 (aq Cs) (i+1)).sum else ((aw v1.B.length).map (Ur v1 (aq Cs))).sum)(hG:G<=min 40 (p0+(aq Cs)*5)):
  2*(SUM+v1.K.length+(p1+if q=1 then (aq Cs) else 0))+4<=N+2/\2*(v1.K.length+((aw v1.B.length).map (Ur v1 (aq Cs))).sum)+5<=N/\2*p1+4*(G+1)+12<=N:=by
 have D:(WN v1).length<=(Cp v1).length:=by
  classical
  unfold WN Cp;refine YS (List.nodup_range.filter _) fun s K=>?_
  grind [Vy.u]
 have hg:gT v1=(19+v1.T)/5:=rfl;have hb:=O.bud;have hc:=B.c;have Z:=O.k;have V:=B.n;have num:=ZrG (c:=(aq Cs)) (m:=v1.B.length) (chi:=(WN v1).length) (x:=x) (u:=q) B.c O.m O.chi j o uh;have hT:MO v1 (aq Cs)<=kP (aq Cs) v1.B.length (WN v1).length (q+x):=by unfold MO kP;omega
 have P:p1<=min (kP (aq Cs) v1.B.length (WN v1).length (q+x)) ((aq Cs)*v1.B.length+(WN v1).length):=by rw[O.p];unfold JW;omega
 have J:((aw v1.B.length).map (Ur v1 (aq Cs))).sum<=DU (aq Cs) v1.B.length (WN v1).length (kP (aq Cs) v1.B.length (WN v1).length (q+x)):=by
  unfold DU;refine DW _ _ _ fun i _=>?_;unfold Ur;omega
 have E:((aw (v1.B.length-1)).map fun i=>Ur v1 (aq Cs) (i+1)).sum<=ZeA (aq Cs) v1.B.length (WN v1).length (kP (aq Cs) v1.B.length (WN v1).length (q+x)):=by
  unfold ZeA;refine DW _ _ _ fun i _=>?_;unfold Ur;omega
 have z:SUM<=if x=0 then ZeA (aq Cs) v1.B.length (WN v1).length (kP (aq Cs) v1.B.length (WN v1).length (q+x)) else DU (aq Cs) v1.B.length (WN v1).length (kP (aq Cs) v1.B.length (WN v1).length (q+x)):=by
  rw[hS];split<;>assumption
 have y:=O.pp
 grind
end
