/- Part Tpt. -/
import Derived.Test.YthlfaofofaphfaaGreatDoorTyn
import Derived.Test.YthlfaofofaphfaaGreatDoorTyc
import Derived.Test.YthlfaofofaphfaaGreatDoorChw
import Derived.Test.YthlfaofofaphfaaGreatDoorTxb
import Derived.Test.YthlfaofofaphfaaGreatDoorTab
import Derived.LaidSub
open Go.Proofs.Tryz renaming prog→aN
open List renaming length→o,length_append→B,mem_append→E,getElem?_eq_getElem→G,mem_singleton→H,drop_append_of_le_length→N,take_of_length_le→O,getD_cons_zero→R,getElem_mem→U,take_append_of_le_length→Y,getD_eq_getElem?_getD→Z,length_cons→ae,drop_of_length_le→ag,nil_append→al,length_singleton→am,drop_succ_cons→aw,length_map→aO,drop_zero→a0
open Nat renaming le_refl→aa
open Int renaming toNat_natCast→J
open Option renaming some→ab
open Decidable renaming not_not→aD
namespace Go.Proofs.YthlfaofofaphfaaGreatDoor
open Go Go.V
set_option linter.unusedSimpArgs false
set_option linter.unusedVariables false
section
variable {S:Cm->Prop} {C:List Cm} {b:YA} {L T:Nat} {w:Nat->Wd} {g:Nat->Gh} {M:Nat->Nat->YA} {e:Nat} {Q:List Cm}
theorem Clean.short(c:Clean S C b L T w g M e Q){t:Nat}(ht:t<=T){X:Nat}(hX:X<5):((w t).Zb X).ZA.length<=e+(o Q):=by
 by_cases q:((w t).Zb X).ZA.length<=e+(o Q)
 .exact q
 .have hl:e+(o Q)<((w t).Zb X).ZA.length:=pA;have TT:=c.tr.ti t ht;obtain⟨Qm,b',hQm,hv⟩:=(TT.nd X hX).ZA (e+(o Q)) _ (G hl);obtain⟨i,hi,_⟩:=hQm.meet hQm;have KT:=hQm.2.1 i hi;have A:=(TT.nd i KT).acc;rw[JL ((c.tr.at t).nd i KT).up]at A;obtain⟨v,Cq,jG,_⟩:=A.all _ _ _ (hv i hi);have K:=(c.at t ht).1 i KT;have hvb:v.b=b:=by
   rcases K.Ku v Cq with q|q
   .exact q
   .omega
  obtain⟨r,hr,hp⟩:=K.Xb v Cq hvb;rw[jG]at hp;have:=(c.ji T (aa _) r hr).few (s:=e+(o Q)) (by unfold Has;rw[hp];simp);omega
end
def PV(L:Nat):YA:=⟨1,L⟩
theorem PC{w:Wd}(h:TU w)(L:Nat):(act w (XJ L).ac).Zp=[]/\(act w (XJ L).ac).ZE=w.ZE/\∀X,(act w (XJ L).ac).Zb X=if X=L then { w.Zb L with Zh:=ab ⟨PV L,[],false,[],[]⟩ } else w.Zb X:=by
 have e:act w (XJ L).ac=w.set L (lead (w.Zb L)):=by
  unfold act XJ Raw.ac;simp
 have F:=h.nd L;have el:lead (w.Zb L) = { w.Zb L with Zh:=ab ⟨PV L,[],false,[],[]⟩ }:=by
  have eb:Ju (w.Zb L)=PV L:=by
   unfold Ju PV;rw[F.Zh,F.Zq,F.Y1,F.me];rfl
  unfold lead;rw[if_neg (by
   rw[F.up,eb];unfold PV;simp only;intro q;rcases q with q|q
   .cases q
   .omega),eb,show Ja (w.Zb L).Zs=(w.Zb L).Zs by rw[F.Zs];rfl]
 rw[e,el];refine⟨h.Mf,rfl,fun X=>rfl⟩
section
variable {C:List Cm} {L:Nat} {w:Wd}
theorem EA(hL:L<5):ZF (PV L):=⟨⟨by show (1:Int)<=1;omega,by show (1:Int)<=65536;omega⟩,by show (0:Int)<=(L:Int);omega,by show (L:Int)<=4;omega⟩
theorem fF(h:TU w)(hL:L<5){k:Nat}(W:WI C k (act w (XJ L).ac)):PW C (PV L) L (act w (XJ L).ac)/\Un (PV L) L (act w (XJ L).ac):=by
 obtain⟨h1,_,h2⟩:=PC h L;have hb:=EA hL;have nb0:¬ZM (PV L) Jq:=by unfold ZM PV Jq;simp only;omega
 have ne0:Jq≠PV L:=fun q=>by
  have:=congrArg YA.r q;unfold Jq PV at this;simp only at this;omega
 have Ha:∀X,((act w (XJ L).ac).Zb X).Zg=[]:=fun X=>by
  rw[h2 X];split
  .exact (h.nd L).Zg
  .exact (h.nd X).Zg
 refine⟨⟨fun X hX=>?_,fun l hl=>(by rw[h1]at hl;cases hl),fun X hX l hl=>(by rw[Ha]at hl;cases hl)⟩,⟨fun X hX VT=>?_,fun X hX l hl=>(by rw[Ha]at hl;cases hl),fun l hl=>(by rw[h1]at hl;cases hl)⟩⟩
 .have ni:=W.nd X hX;have e:=h2 X;by_cases q:X=L
  .subst q;rw[if_pos rfl]at e;rw[e]at ni ⊢;have F:=h.nd X;refine⟨ni,F.up,?_,?_,?_,?_,fun q=>absurd rfl q,fun _=>⟨_,rfl,rfl⟩,fun r hr _ s=>?_,fun r hr=>?_,fun r hr s hs=>?_,?_⟩
   .show ¬ZM (PV X) (w.Zb X).Zq.p;rw[F.Zq];exact nb0
   .show ∀v∈(w.Zb X).Zq.l,¬ZM (w.Zb X).Zq.p v.b;rw[F.Zq];intro v hv;cases hv
   .intro p hp;have hp:(w.Zb X).Zs=ab p:=hp;rw[F.Zs]at hp;cases hp
   .show 0<=(w.Zb X).Y4/\(w.Zb X).Y4<=(w.Zb X).data.length;rw[F.Y4,F.data];simp
   .obtain rfl:=Option.some.inj hr;rfl
   .obtain rfl:=Option.some.inj hr;exact hb
   .obtain rfl:=Option.some.inj hr;cases hs
   .show Yh (w.Zb X).Zi ((w.Zb X).ZA.length:Int)=none;rw[F.Zi];rfl
  .rw[if_neg q]at e;rw[e]at ni ⊢;have F:=h.nd X;refine⟨ni,F.up,by rw[F.Zq];exact nb0,(by rw[F.Zq];intro v hv;cases hv),fun p hp=>(by rw[F.Zs]at hp;cases hp),by rw[F.Y4,F.data];simp,fun _ r hr=>(by rw[F.Zh]at hr;cases hr),fun p=>absurd p q,fun r hr=>(by rw[F.Zh]at hr;cases hr),fun r hr=>(by rw[F.Zh]at hr;cases hr),fun r hr=>(by rw[F.Zh]at hr;cases hr),by rw[F.Zi];rfl⟩
 .rw[h2 X,if_neg VT];have F:=h.nd X;exact⟨by rw[F.Zq];exact ne0,fun p hp=>(by rw[F.Zs]at hp;cases hp)⟩
theorem fG(h:TU w)(Pb:Int->Cm->Prop)(X:Nat):CN (PV L) Pb (0:Nat) L X ((act w (XJ L).ac).Zb X):=by
 obtain⟨_,_,h2⟩:=PC h L;rw[h2 X];by_cases q:X=L
 .rw[if_pos q];have F:=h.nd L;refine⟨fun p=>absurd q p,?_,?_,?_,fun r hr j vs hv=>?_⟩
  .show ∀v∈(w.Zb L).Zq.l,_;rw[F.Zq];intro v hv;cases hv
  .intro p hp;have hp:(w.Zb L).Zs=ab p:=hp;rw[F.Zs]at hp;cases hp
  .show Lo _ _ (w.Zb L).Zq.l;rw[F.Zq];intro v hv;cases hv
  .obtain rfl:=Option.some.inj hr;cases hv
 .rw[if_neg q];have F:=h.nd X;exact⟨fun _=>F.Zh,(by rw[F.Zq];intro v hv;cases hv),fun p hp=>(by rw[F.Zs]at hp;cases hp),(by rw[F.Zq];intro v hv;cases hv),fun r hr=>(by rw[F.Zh]at hr;cases hr)⟩
end
def MT(A:List Raw)(x:Cm):Prop:=∃a∈A,a.k=1/\YR a.data 0=0/\x=Xu a.data 0
theorem pj{A:List Raw}(hA:∀x∈A,x.err=0)(hl:(o A)<=90000):∃(g:Gh) (M:Nat->YA) (k:Nat),TI (MT A) g M (Xo A)/\WI (Uz [] :: A.map fun x=>Uz x.data) k (Xo A):=by
 have hC:(Uz [] :: A.map fun x=>Uz x.data).length<=100000:=by rw[ae,aO];omega
 have ok:∀a∈A.map Raw.ac,eu (MT A) (Uz [] :: A.map fun x=>Uz x.data) a:=fun a ha=>by
  obtain⟨h1,h2,h3⟩:=Zbu hA (S:=MT A) (fun z hz hk now h=>by
   obtain⟨q1,q2⟩:=Ht h (now:=0) pA pA;exact⟨z,hz,hk,q1,q2.symm⟩) a ha
  exact⟨⟨h1.1,List.mem_cons_of_mem _ h1.2⟩,h2,h3⟩
 obtain⟨g,M,_,T0,W⟩:=eG hC (A.map Raw.ac) 0 QT gh0 (fun _=>Jq) (OS _) Ei ok;exact⟨g,M,_,T0,W⟩
theorem EB(A:List Raw)(L many:Nat)(hu:∀i,i<5->((Xo A).Zb i).up=true)(hu2:∀i,i<5->((act (Xo A) (XJ L).ac).Zb i).up=true):Xo (Uk A L many)=Qq many (act (Xo A) (XJ L).ac):=by
 have e1:Xo (JM A 0)=Xo A:=by
  unfold JM;rw[show Uv 0=[] from rfl,List.append_nil,Et A hu]
 have e2:Xo (JM A 0++[XJ L])=act (Xo A) (XJ L).ac:=by
  rw[SG,e1];rfl
 unfold Uk;show Xo ((JM A 0++[XJ L])++XY 5++Uv many)=_;rw[Zbz,Et _ (fun i hi=>by rw[e2];exact hu2 i hi),e2]
theorem lW{A:List Raw}(hA:∀x∈A,x.err=0)(hF:TU (Xo A))(hl:(o A)<=100){L:Nat}(hL:L<5){Q:List Cm}(hQ:∀x,MT A x->x∈Q)(hQ8:(o Q)<=8){many:Nat}(hm:8+5*(2*(1+(o Q))+1)<=many)(rR:many<=2000){x:Cm}{X:Nat}(hX:X<5)(hx:x∈((Xo A).Zb X).Zx):RP x (Xo (Uk A L many)):=by
 obtain⟨h1,_,h2⟩:=PC hF L;have A':∀x∈A++[XJ L],x.err=0:=fun y hy=>by
  rcases E.1 hy with hy|hy
  .exact hA y hy
  .rw[H.1 hy];exact Az hL
 have ew:Xo (A++[XJ L])=act (Xo A) (XJ L).ac:=by rw[SG];rfl
 obtain⟨g0,M0,k,T0,W⟩:=pj A' (by rw[B,am];omega);rw[ew]at T0 W;have hS:∀x,MT (A++[XJ L]) x->MT A x:=fun x ⟨a,ha,hk,h⟩=>by
  rcases E.1 ha with ha|ha
  .exact⟨a,ha,hk,h⟩
  .rw[H.1 ha]at hk;cases hk
 obtain⟨pw,un⟩:=fF hF hL W;have hC:(Uz [] :: (A++[XJ L]).map fun x=>Uz x.data).length<=100000:=by rw[ae,aO,B,am];omega
 obtain⟨g,M,_,tr⟩:=ph hC IQ (EA hL) hL rfl (fun y hy=>by
  obtain⟨a,_,_,q,rfl⟩:=hS y hy;exact oP q) W T0 pw (T:=many) (fun X hX=>by
  have:((act (Xo A) (XJ L).ac).Zb X).data=[]:=by
   rw[h2 X];split
   .exact (hF.nd L).data
   .exact (hF.nd X).data
  rw[this];simp only[List.length_nil];omega)
 have NL:((act (Xo A) (XJ L).ac).Zb L).ZA=[]:=by rw[h2 L,if_pos rfl];exact (hF.nd L).ZA
 have Ha:∀X,((act (Xo A) (XJ L).ac).Zb X).Zg=[]:=fun X=>by
  rw[h2 X];split
  .exact (hF.nd L).Zg
  .exact (hF.nd X).Zg
 have c:Clean (MT (A++[XJ L])) (Uz [] :: (A++[XJ L]).map fun x=>Uz x.data) (PV L) L many (fun t=>Qq t (act (Xo A) (XJ L).ac)) g M 0 Q:=
  ⟨tr,fun X _=>fG hF _ X,fun X _ l hl=>(by
   have hl:l∈((act (Xo A) (XJ L).ac).Zb X).Zg:=hl;rw[Ha]at hl;cases hl),fun l hl=>(by
   have hl:l∈(act (Xo A) (XJ L).ac).Zp:=hl;rw[h1]at hl;cases hl),(by show 0=((act (Xo A) (XJ L).ac).Zb L).ZA.length;rw[NL];rfl),fun y _=>(by
   show y ∉ ((act (Xo A) (XJ L).ac).Zb L).ZA;rw[NL];simp),fun r hr s=>(by
   have hr:((act (Xo A) (XJ L).ac).Zb L).Zh=ab r:=hr;rw[h2 L,if_pos rfl]at hr;obtain rfl:=Option.some.inj hr;rfl),fun y hy=>.inl (hQ y (hS y hy))⟩
 have hc:=c.clear (k:=8) hm;have T3:Sc x ((act (Xo A) (XJ L).ac).Zb X):=by
  rw[h2 X];split
  .rename_i q;rw[q]at hx;exact .inl hx
  .exact .inl hx
 rw[EB A L many (fun i hi=>(hF.nd i).up) (fun i hi=>(pw.nd i hi).up)];rcases tr.done un hX T3 many (aa _) hc with q|q
 .exact q
 .have:=c.short (t:=many) (aa _) hL;have q:40<=((Qq many (act (Xo A) (XJ L).ac)).Zb L).ZA.length:=q;have this:((Qq many (act (Xo A) (XJ L).ac)).Zb L).ZA.length<=0+(o Q):=this;omega
theorem uS(kl:List Nat)(hk:(o kl)=32)(n:Nat)(hn:n<1073741824)(plain:List Nat)(hp:(o plain)<=2000):Wl kl 0 0 JS (TF kl n plain)=0:=by
 have hd:(TF kl n plain).drop 4=Ru kl (XT (YJ n)) (YJ n) plain:=by
  unfold TF;rw[N (by show 4<=4;omega),show (YJ n).drop 4=[] from rfl,al]
 have hr:VD (TF kl n plain)=n:=Cz n pA _;have ht:(QJ kl (XT (YJ n)) (YJ n) (Wk kl 1 (XT (YJ n)) plain)).length=16:=Su _ _;have hs:(Ru kl (XT (YJ n)) (YJ n) plain).length=(o plain)+16:=by
  unfold Ru;rw[B,ht,JC]
 have hl:(TF kl n plain).length=(o plain)+20:=by
  unfold TF;rw[B,hs];show 4+_=_;omega
 have hc:Ji (o kl) 0 0 JS=0:=by rw[hk];decide
 have hm:Dl 0 JS n=false:=by
  unfold Dl;rw[decide_eq_false pA,decide_eq_false pA];rfl
 unfold Wl;rw[if_neg (by rw[hc];decide),if_neg pA,if_neg pA,hr,if_neg pA,hm,if_neg aaa,hd];unfold No Qd;have VW:(XT (YJ n)).length=12:=rfl;have hhl:(YJ n).length=4:=rfl;rw[hk,VW,hhl,hs,if_neg VL,if_neg pA,Nat.add_sub_cancel,if_neg];simp only[ne_eq,aD];unfold Ru;rw[List.take_left' (JC _ _ _ _),List.drop_left' (JC _ _ _ _)]
theorem Zb0{n c r u k s nm v:Nat}(hn:n<=1073741823)(hr:r<=7)(hu:u<=1048576)(Ze4:YC k c s nm v=0)(ZiZ:KU k r){now:Int}(h0:0<=now)(ZbQ:now<=u):
  QD n c r u k c s nm v=0/\YR (Ic n c r u k c s nm v) now=0/\Xu (Ic n c r u k c s nm v) now=⟨k,c,s,nm,v⟩:=by
 obtain⟨k',c',s',n',v',e1,e2,e3,e4,e5,y1,y2,y3,y4,y5⟩:=YY Ze4;have hk3:k<=3:=pA;have hc7:c<=7:=pA;have hs7:s<=1048576:=pA;have hn7:nm<=7:=pA;have hv7:v<=1073741824:=pA;have Zi0:JP (c:Int) (r:Int) (u:Int)=0:=by
  unfold JP;rw[if_neg pA]
 have hP0:QD n c r u k c s nm v=0:=by
  unfold QD VE;rw[if_neg pA,Zi0];simp[Ze4]
 refine⟨hP0,?_⟩;obtain⟨P,hP⟩:=ZL (da c r u k c s nm v);have hg:P.take 22=Ry Wm c r u:=by
  rw[hP];unfold da;rw[Y (by rw[Qx];omega),O (by rw[Qx];omega)];simp only[J]
 have hb:P.drop 22=ZC [k,c,s,nm,v]:=by
  rw[hP];unfold da;rw[N (by rw[Qx];omega),ag (by rw[Qx];omega),al];simp only[J]
 have hPl:(o P)=42:=by
  rw[hP];unfold da;rw[B,Qx,ZN];rfl
 have hrc:Ic n c r u k c s nm v=c :: TF (UL c) n P:=by
  unfold Ic;rw[hP];simp only[J]
 have MV:Jg (c :: TF (UL c) n P)=P:=by
  unfold Jg;rw[R,aw,a0];exact ul _ _ pA _
 have f:∀(i:Nat) (m:Nat),XH (ZC [k,c,s,nm,v]) i=m/16777216%256*16777216+m/65536%256*65536+m/256%256*256+m%256->m<4294967296->XH (ZC [k,c,s,nm,v]) i=m:=fun i m e hm=>by rw[e];exact RJ hm
 have f0:=f 0 k (by simp[XH,ZC,Xq]) pA;have f1:=f 4 c (by simp[XH,ZC,Xq]) pA;have f2:=f 8 s (by simp[XH,ZC,Xq]) pA;have f3:=f 12 nm (by simp[XH,ZC,Xq]) pA;have f4:=f 16 v (by simp[XH,ZC,Xq]) pA;have i0:XD (P.drop 22) 0=k:=by unfold XD;rw[hb];exact congrArg _ f0
 have i1:XD (P.drop 22) 1=c:=by unfold XD;rw[hb];exact congrArg _ f1
 have i2:XD (P.drop 22) 2=s:=by unfold XD;rw[hb];exact congrArg _ f2
 have i3:XD (P.drop 22) 3=nm:=by unfold XD;rw[hb];exact congrArg _ f3
 have i4:XD (P.drop 22) 4=v:=by unfold XD;rw[hb];exact congrArg _ f4
 have hgl:(Ry Wm c r u).length=22:=Qx _ _ _ _;have g0:(Ry Wm c r u).getD 0 0=c:=rfl;have g1:(Ry Wm c r u).getD 1 0=r:=rfl;have g2:XH (Ry Wm c r u) 2=u:=um _ _ _ _ pA;have opn:ZnK (c :: TF (UL c) n P):=by
  refine⟨IQ,?_,?_,by rw[MV];exact hPl,?_,?_,?_⟩
  .rw[R];unfold Qn;rw[if_neg pA]
  .rw[R,aw,a0];exact uS _ (OJ _) n pA P pA
  .rw[MV,hg];unfold QS;have ht6:(Ry Wm c r u).take 6=cV c r u:=by
    unfold Ry;rw[Y (by show 6<=6;omega),O (by show 6<=6;omega)]
   have hd6:(Ry Wm c r u).drop 6=(LD Wm (cV c r u)).take 16:=by
    unfold Ry;rw[N (by show 6<=6;omega),ag (by show 6<=6;omega),al]
   rw[if_neg (by rw[OK,hgl];simp),ht6,hd6,if_neg IQ,g0,g1,g2];exact Zi0
  .rw[MV,hb];unfold QA;rw[if_pos (by rw[ZN];rfl),f0,f1,f2,f3,f4];exact Ze4
  .rw[MV,i0,i1,R];exact fun q=>q.2 rfl
 have hA:Ai (Jg (c :: TF (UL c) n P)) now=0:=by
  rw[MV];unfold Ai;rw[hg,g0,g1,g2,i0,i1,i2,i3,i4];unfold Rv;rw[if_neg (by rw[Zi0];simp),if_neg (by rw[Ze4];simp),if_neg (by simp only[J,ne_eq,not_or,aD];exact⟨ZiZ,trivial⟩),if_neg pA]
 have ZnY:YR (c :: TF (UL c) n P) now=0:=(Gs _ _).2 ⟨opn,hA⟩;rw[hrc];refine⟨ZnY,?_⟩;unfold Xu;rw[if_pos ZnY,MV,i0,i1,i2,i3,i4]
set_option maxRecDepth 100000
theorem uT:∀(l:List Cm) (st:AU),I9 st->(T9 st l).1=0->Xe JR (T9 st l).2.cs=true:=by
 intro l
 induction l with
 | nil=>intro st ok _;exact ok.fit
 | cons x l ih=>
  intro st ok h;by_cases q:UU st.cs x=0
  .rw[Np q]at h ⊢;exact ih _ (L1 ok q).1 h
  .rw[KY q]at h;exact absurd h q
theorem EC{l:List Cm}(h:∀x∈l,x.err=0):VF l=0/\Xe JR (JJ l)=true/\(MF l).length=(o l):=by
 have e:=SC h;refine⟨e,?_,?_⟩
 .unfold JJ;rw[if_pos e];exact uT l KX L0 e
 .unfold MF;rw[if_pos e,zY l KX e];show 0+(o l)=_;omega
theorem Zi1(i:Nat)(x:Cm):∀(l:List Ac) (w:Wd),(∀a∈l,a.Z3≠8)->(w.Zb i).up=true->x∈(w.Zb i).ZA->((l.foldl act w).Zb i).up=true/\x∈((l.foldl act w).Zb i).ZA:=by
 intro l
 induction l with
 | nil=>intro w _ hu hx;exact⟨hu,hx⟩
 | cons a l ih=>
  intro w hl hu hx;have h8:=hl a IQ;have hu2:=(Zbs w a i h8).1 hu;refine ih (act w a) (fun y hy=>hl y (by simp[hy])) hu2 ?_;rcases eK w a i with⟨q,_⟩|⟨_,_,q⟩|⟨_,_,_,q⟩|q
  .exact absurd q h8
  .rw[q];unfold started;rw[if_pos hu];exact hx
  .obtain⟨_,_,e,he⟩:=q;rw[he];exact E.2 (.inl hx)
  .rw[q.2.2];exact hx
theorem TV{l:List Raw}{n many:Nat}:∃k,Uk l n many=l++k/\∀x∈k,x.k≠8/\x.k≠1:=by
 have s9:∀x∈XY 5,x.k≠8/\x.k≠1:=fun x hx=>by
  obtain⟨n,_,rfl⟩:=Pz hx;exact⟨(by decide:(9:Int)≠8),(by decide:(9:Int)≠1)⟩
 have sm:∀k,∀x∈Uv k,x.k≠8/\x.k≠1:=fun k x hx=>by
  rcases Kn hx with⟨n,_,rfl⟩|rfl
  .exact⟨(by decide:(3:Int)≠8),(by decide:(3:Int)≠1)⟩
  .exact⟨(by decide:(7:Int)≠8),(by decide:(7:Int)≠1)⟩
 refine⟨XY 5++Uv 0++[XJ n]++XY 5++Uv many,?_,fun x hx=>?_⟩
 .unfold Uk JM;simp only[List.append_assoc]
 .simp only[E,H]at hx;rcases hx with (((hx|hx)|rfl)|hx)|hx
  .exact s9 x hx
  .exact sm 0 x hx
  .exact⟨(by decide:(2:Int)≠8),(by decide:(2:Int)≠1)⟩
  .exact s9 x hx
  .exact sm many x hx
theorem Ze5(l:List Raw)(n many i:Nat)(hi:i<5):((Xo (Uk l n many)).Zb i).up=true:=CE _ _ i hi
theorem lX{l:List Raw}{n many:Nat}{x:Cm}(hu:∀i,i<5->((Xo l).Zb i).up=true)(h:RP x (Xo l)):RP x (Xo (Uk l n many)):=by
 obtain⟨X,hX,hx⟩:=h;obtain⟨k,e,hk⟩:=TV (l:=l) (n:=n) (many:=many);rw[e,SG];exact⟨X,hX,(Zi1 X x _ _ (fun a ha=>by
  obtain⟨z,hz,rfl⟩:=List.mem_map.1 ha;exact (hk z hz).1) (hu X hX) hx).2⟩
theorem Ix{A:List Raw}(hA:∀x∈A,x.err=0)(hl:(o A)<=100000){x:Cm}(h:RP x (Xo A)):x∈gn (Xo A):=by
 obtain⟨X,hX,hx⟩:=h;obtain⟨s,hs,rfl⟩:=List.mem_iff_getElem.1 hx;have hle:((Xo A).Zb X).ZA.length<=(gn (Xo A)).length:=Zbv (Xo A) 5 X hX;rcases Ko (Xo A) with q|⟨i,hi,q⟩
 .rw[q]at hle;simp at hle;rw[hle]at hs;simp at hs
 .rw[q]at hle ⊢;have hs2:s<((Xo A).Zb i).ZA.length:=pA;have e:A=A.take (o A):=(O (aa _)).symm;have h1:((Xo (A.take (o A))).Zb X).ZA[s]? = ab ((Xo A).Zb X).ZA[s]:=by rw[<-e];exact G hs
  have h2:((Xo (A.take (o A))).Zb i).ZA[s]? = ab ((Xo A).Zb i).ZA[s]:=by rw[<-e];exact G hs2
  rw[kQ hA hl _ _ X i hX hi s _ _ h1 h2];exact U hs2
def Mg(x:Cm)(i:Nat)(n:Nat):Raw:=⟨1,n,0,0,S6 i x.c 7 60 x⟩
def Xa(x:Cm)(ns:List Nat):Nat->List Raw
 | 0=>[]
 | k+1=>Xa x ns k++[Mg x k (ns.getD k 0)]
theorem l9{k:Nat}(h1:1<=k)(h3:k<=3):KU k 7:=by
 unfold KU;have:k=1\/k=2\/k=3:=pA;rcases this with rfl|rfl|rfl
 .exact .inl ⟨rfl,rfl⟩
 .exact .inr (.inl ⟨rfl,rfl⟩)
 .exact .inr (.inr ⟨rfl,rfl⟩)
theorem W0{x:Cm}(hx:x.err=0)(hk:1<=x.k){i:Nat}(hi:i<=1000){now:Int}(h0:0<=now)(h60:now<=60):QD i x.c 7 60 x.k x.c x.s x.n x.v=0/\YR (S6 i x.c 7 60 x) now=0/\Xu (S6 i x.c 7 60 x) now=x:=by
 obtain⟨k,c,s,n,v,e1,e2,e3,e4,e5,y1,y2,y3,y4,y5⟩:=YY (show YC x.k x.c x.s x.n x.v=0 from hx);have hx':YC (k:Int) c s n v=0:=by
  have:YC x.k x.c x.s x.n x.v=0:=hx;rw[e1,e2,e3,e4,e5]at this;exact this
 obtain⟨h1,h2,h3⟩:=Zb0 (n:=i) (c:=c) (r:=7) (u:=60) (k:=k) (s:=s) (nm:=n) (v:=v) pA pA pA hx' (l9 pA y1) h0 pA;have hp:QD i x.c 7 60 x.k x.c x.s x.n x.v=0:=by rw[e1,e2,e3,e4,e5];exact h1
 refine⟨hp,?_⟩;have hB:S6 i x.c 7 60 x=Ic (i:Nat) c (7:Nat) (60:Nat) k c s n v:=by
  unfold S6;rw[if_pos hp,e1,e2,e3,e4,e5];rfl
 rw[hB];refine⟨h2,?_⟩;rw[h3];obtain⟨xk,xc,xs,xn,xv⟩:=x;simp only at e1 e2 e3 e4 e5;rw[e1,e2,e3,e4,e5]
theorem fH(i:Nat)(x:Cm)(r u:Int):(S6 i x.c r u x).length<=2000:=by
 unfold S6;split
 .unfold Ic TF Ru;rw[ae,B,B,JC];have ht:(QJ (UL x.c.toNat) (XT (YJ ((i:Int).toNat))) (YJ ((i:Int).toNat)) (Wk (UL x.c.toNat) 1 (XT (YJ ((i:Int).toNat))) (da x.c r u x.k x.c x.s x.n x.v))).length=16:=Su _ _;rw[ht];unfold da;rw[B,Qx,ZN];show 4+(22+4*5+16)+1<=2000;omega
 .exact Nat.zero_le _
theorem ED{x:Cm}{i n:Nat}(hn:n<5):(Mg x i n).err=0:=by
 have hl:=fH i x 7 60;unfold Raw.err Mg;simp only;obtain⟨d,hd⟩:=ZL ((S6 i x.c 7 60 x).length);rw[<-hd]at hl ⊢;have:∀n<5,∀d:Nat,d<=2000->Wj 1 (n:Nat) 0 0 d=0:=by
  intro n hn d hd;unfold Wj Jn U2;rw[if_neg pA,if_neg pA,if_neg pA,if_neg pA]
 exact this n hn d hl
theorem Zb1(l:List Raw)(x:Raw):Xo (l++[x])=act (Xo l) x.ac:=by rw[SG];rfl
theorem MU(w:Wd)(x:Cm)(i n:Nat):act w (Mg x i n).ac=Jz w n (S6 i x.c 7 60 x):=by
 unfold act Mg Raw.ac;simp
section
variable {x:Cm} {ns:List Nat}
theorem RS(k:Nat):(Xa x ns k).length=k:=by
 induction k with
 | zero=>rfl
 | succ k ih=>rw[Xa,B,ih];rfl
theorem CS(hn:∀n∈ns,n<5){k:Nat}(hk:k<=(o ns)):∀y∈Xa x ns k,y.err=0:=by
 induction k with
 | zero=>intro y hy;cases hy
 | succ k ih=>
  intro y hy;unfold Xa at hy;rcases E.1 hy with hy|hy
  .exact ih pA y hy
  .rw[H.1 hy];refine ED (hn _ ?_);rw[Z,G pA];exact U pA
theorem CT(hx:x.err=0)(h1:1<=x.k){k:Nat}(hk:k<=1000):∀y,MT (Xa x ns k) y->y=x:=by
 induction k with
 | zero=>intro y ⟨a,ha,_⟩;cases ha
 | succ k ih=>
  intro y ⟨a,ha,hak,ho,hy⟩;unfold Xa at ha;rcases E.1 ha with ha|ha
  .exact ih pA y ⟨a,ha,hak,ho,hy⟩
  .rw[H.1 ha]at hy;rw[hy];exact (W0 hx h1 pA pA pA).2.2
theorem fI(hx:x.err=0)(h1:1<=x.k){k:Nat}(hk:k<=1000):TU (Xo (Xa x ns k))/\∀j,j<k->x∈((Xo (Xa x ns k)).Zb (ns.getD j 0)).Zx:=by
 induction k with
 | zero=>exact⟨ZbZ,fun j hj=>by omega⟩
 | succ k ih=>
  obtain⟨f1,f2⟩:=ih pA;unfold Xa;rw[Zb1,MU];obtain⟨g1,g2,g3⟩:=PB f1 (ns.getD k 0) (S6 k x.c 7 60 x);obtain⟨_,o1,o2⟩:=W0 hx h1 (i:=k) pA (now:=0) pA pA;refine⟨g1,fun j hj=>?_⟩;by_cases e:j=k
  .subst e;have:=g3 o1;rw[o2]at this;exact this
  .exact g2 _ x (f2 j pA)
theorem Zb2(hx:x.err=0)(h1:1<=x.k)(hn:∀n∈ns,n<5){k:Nat}(hk:k<=(o ns))(hk4:k<=4){L:Nat}(hL:L<5):(∀y∈gn (Xo (Yr (Xa x ns k) L)),y=x\/y=Oa)/\(0<k->x∈gn (Xo (Yr (Xa x ns k) L)))/\(k=0->x ∉ gn (Xo (Yr (Xa x ns k) L))):=by
 have Ae:=CS (x:=x) hn hk;have Al:(Xa x ns k).length<=4:=by rw[RS];exact hk4
 have Se:=SE Ae hL;have Sl:(Yr (Xa x ns k) L).length<=100000:=by
  have:=SF (n:=L) (b:=4) Al;omega
 obtain⟨F1,F2⟩:=fI (ns:=ns) hx h1 (k:=k) pA;have Zgj:∀y∈gn (Xo (Yr (Xa x ns k) L)),y=Oa\/(0<k/\y=x):=fun y hy=>by
  rcases Ko (Xo (Yr (Xa x ns k) L)) with q|⟨i,hi,q⟩
  .rw[q]at hy;cases hy
  .rw[q]at hy;rcases CF Se Sl hi hy with q|⟨a,ha,hak,ho,e⟩
   .exact .inl q
   .have ha':a∈Xa x ns k:=by
     unfold Yr VJ VJ VJ at ha;obtain⟨k2,e2,h2⟩:=TV (l:=Uk (Xa x ns k) L (manyN (Xa x ns k) (Xa x ns k).length)) (n:=L) (many:=manyN (Xa x ns k) (Xa x ns k).length);obtain⟨k1,e1,h1⟩:=TV (l:=Xa x ns k) (n:=L) (many:=manyN (Xa x ns k) (Xa x ns k).length);rw[e2,e1]at ha;rcases E.1 ha with ha|ha
     .rcases E.1 ha with ha|ha
      .exact ha
      .exact absurd hak (h1 a ha).2
     .exact absurd hak (h2 a ha).2
    refine .inr ⟨?_,CT hx h1 pA y ⟨a,ha',hak,ho,e⟩⟩
    cases k with
    | zero=>cases ha'
    | succ k=>omega
 have Y7:x≠Oa:=fun q=>by rw[q]at h1;exact absurd h1 aaa
 refine⟨fun y hy=>?_,fun h0=>?_,fun h0 hy=>?_⟩
 .rcases Zgj y hy with q|q
  .exact .inr q
  .exact .inl q.2
 .have ZCn:manyN (Xa x ns k) (Xa x ns k).length<=180:=by
   have:=Kq (Xa x ns k) (Xa x ns k).length;omega
  have Zw6:100<=manyN (Xa x ns k) (Xa x ns k).length:=by
   have:∀(l:List Raw) i,100<=manyN l i:=by
    intro l i
    induction i with
    | zero=>exact aa _
    | succ i ih=>
     unfold manyN
     cases l[i]? with
     | none=>exact ih
     | some y=>simp only;split<;>omega
   exact this _ _
  have D:=lW Ae F1 pA hL (Q:=[x]) (fun y hy=>by rw[CT hx h1 pA y hy];simp) IQ (many:=manyN (Xa x ns k) (Xa x ns k).length) aai pA (X:=ns.getD 0 0) (by
   refine hn _ ?_;rw[Z,G pA];exact U pA) (F2 0 h0)
  refine Ix Se Sl ?_;exact lX (fun i hi=>Ze5 _ _ _ i hi) D
 .rcases Zgj x hy with q|q
  .exact Y7 q
  .omega
end
theorem ma{x:Cm}(hx:x.err=0)(h1:1<=x.k):∀(l:List Cm) (st:AU),I9 st->Xm st.cs=false->(∀y∈l,y=x\/y=Oa) ->
  (st.cs=(YT Yj x).cells->(T9 st l).2.cs=(YT Yj x).cells)/\(st.cs=Yj->(T9 st l).2.cs=if x∈l then (YT Yj x).cells else Yj):=by
 have he:YC x.k x.c x.s x.n x.v=0:=hx;obtain⟨k,c,s,n,v,e1,e2,e3,e4,e5,y1,y2,y3,y4,y5⟩:=YY he;have Y7:Oa≠x:=fun q=>by rw[<-q]at h1;exact absurd h1 aaa
 have k0:¬k=0:=pA;have hz8:∀c<8,ci Yj (8+c)=0:=aaa;have zW:∀c<8,cb Yj (32+c)=false:=aaa;have hD:YT Yj x=⟨((((Ur Yj k c n v).1.set (8+c) (.int .i64 ((s:Int)+1))).set (16+c*2) (.int .i64 0)).set (16+c*2+1) (.int .i64 (Ur Yj k c n v).2)),0,(Ur Yj k c n v).2⟩:=by
  unfold YT Qb;rw[e1,e2,e3,e4,e5];simp only[J];rw[if_neg k0,if_neg (by rw[hz8 c pA];omega),if_neg (by rw[hz8 c pA];omega),if_neg (by rw[zW c pA];decide)]
 have mX:ci (YT Yj x).cells (8+c)=(s:Int)+1:=by
  rw[hD];simp only;rw[Je _ _ pA,Je _ _ pA,Ud (by rw[OI];show 8+c<40;omega)]
 have again:YT (YT Yj x).cells x=⟨(YT Yj x).cells,ci (YT Yj x).cells (16+c*2),ci (YT Yj x).cells (16+c*2+1)⟩:=by
  obtain⟨D,hDD⟩:=ZL ((YT Yj x).cells);rw[<-hDD]at mX ⊢;unfold YT Qb;rw[e1,e2,e3,e4,e5];simp only[J];rw[if_neg k0,if_pos mX.symm]
 have Zn0:∀cs,(YT cs Oa).cells=cs:=fun cs=>rfl;intro l
 induction l with
 | nil=>intro st _ _ _;exact⟨fun h=>h,fun h=>by rw[if_neg IQ];exact h⟩
 | cons y l ih=>
  intro st ok hb hl;have hy:=hl y IQ;have hye:y.err=0:=by rcases hy with rfl|rfl;exact hx;rfl
  have h0:UU st.cs y=0:=by
   unfold UU OF;rw[hb,if_neg aaa];exact hye
  rw[Np h0];have so:=(L1 ok h0).1;obtain⟨k',c',s',n',v',f1,f2,f3,f4,f5,z1,z2,z3,z4,z5⟩:=YY (show YC y.k y.c y.s y.n y.v=0 from hye);have sb:Xm (OH st y).cs=false:=by
   show Xm (YT st.cs y).cells=false;unfold YT;rw[f1,f2,f3,f4,f5];exact Ip (Ys ok.fit) hb _ _ _ _ _ z1 z2 z3 z4 z5
  obtain⟨i1,i2⟩:=ih (OH st y) so sb (fun z hz=>hl z (by simp[hz]));rcases hy with rfl|rfl
  .refine⟨fun h=>i1 ?_,fun h=>?_⟩
   .show (YT st.cs y).cells=_;rw[h,again]
   .rw[if_pos IQ];refine i1 ?_;show (YT st.cs y).cells=_;rw[h]
  .refine⟨fun h=>i1 ?_,fun h=>?_⟩
   .show (YT st.cs Oa).cells=_;rw[Zn0];exact h
   .have:=i2 (by show (YT st.cs Oa).cells=_;rw[Zn0];exact h);rw[this];by_cases q:x∈l
    .rw[if_pos q,if_pos (by simp[q])]
    .rw[if_neg q,if_neg (by simp only[List.mem_cons,not_or];exact⟨fun e=>Y7 e.symm,q⟩)]
theorem EE{x:Cm}(hx:x.err=0)(h1:1<=x.k){l:List Cm}(hl:∀y∈l,y=x\/y=Oa):JJ l=if x∈l then (YT Yj x).cells else Yj:=by
 have he:∀y∈l,y.err=0:=fun y hy=>by rcases hl y hy with rfl|rfl;exact hx;rfl
 unfold JJ;rw[if_pos (SC he)];exact (ma hx h1 l KX L0 rfl hl).2 rfl
theorem AH(T:World)(h:Hp)(u:Value)(a:List Cm)(x:Cm)(su:Ts JZ.C 5 h u a)(hl:(o a)<=1000000):
  Zd aN T 12 #[u,.agg x.C.toArray] h fun v' h'=>v'=.bool (decide (x∈a))/\Zj h.size h h':=by
 obtain⟨p,c,rfl,XL⟩:=Qp su;obtain⟨h1,Xp⟩:=ZL (h.push (.cells x.C.toArray 25):Hp);have e1:=Xp.symm;have b1:Zj h.size h h1:=by rw[Xp];exact (Zj.refl _ _).add _
 have y1:h1[h.size]? = ab (.cells x.C.toArray 25):=by rw[Xp];exact Zc
 have r2:rd h1 ⟨h.size,0,none⟩ 5=ab x.C:=Zy y1 rfl;refine Zd.XS [_,_] Tryz.func12 ?_;simp -implicitDefEqProofs only[go_sem,e1];refine VS.Yk (fun F g=>g=h1/\F 0=.slice p (o a) c/\F 3=.pointer (ab ⟨h.size,0,none⟩)/\∃i:Nat,i<=(o a)/\F 5=.int .i64 i/\x ∉ a.take i)
  (fun F _=>(o a)-(vi (F 5)).toNat) rfl ⟨rfl,rfl,rfl,0,Nat.zero_le _,rfl,IQ⟩ ?_
 rintro F g ⟨rfl,f0,f3,i,hi,f5,XO⟩;by_cases hla:i<(o a)
 .have Zn1:(i:Int)<(o a):=pA;obtain⟨bb,oo,rfl,TC,Fo⟩:=XL (by intro e;rw[e]at hla;simp at hla);have r1:rd g ⟨bb,oo+i*5,none⟩ 5=ab a[i].C:=by rw[Q3 b1 (by exact TC)];exact Fo i hla
  simp -implicitDefEqProofs only[go_sem,f0,f3,f5,Zn1];refine VS.q mixed vM ?_;simp -implicitDefEqProofs only[go_sem,f0,f3,f5,Zn1,r1,r2];by_cases e:a[i]=x
  .have hx:x∈a:=by rw[<-e];exact U hla
   simp -implicitDefEqProofs only[go_sem,e,f0,f3,f5,hx];exact b1
  .simp -implicitDefEqProofs only[go_sem,e,f0,f3,f5];unfold XN;refine⟨⟨rfl,f0,f3,i+1,hla,rfl,fun hx=>?_⟩,?_⟩
   .rw[Y8 a i hla]at hx;rcases E.1 hx with hx|hx
    .exact XO hx
    .exact e (H.1 hx).symm
   .simp only[vi,Zr,↓reduceIte,f5];omega
 .have Xv:¬(i:Int)<(o a):=pA;have hx:¬x∈a:=fun q=>XO (by rw[O pA];exact q);simp -implicitDefEqProofs only[go_sem,f0,f3,f5,Xv,hx];exact b1
theorem Iy{n:Int}(h:(Lit.int .i64 n).wf=true):i64 n:=by
 have h:(decide (IntKind.i64.min<=n)&&decide (n<=IntKind.i64.max))=true:=h;rw[Bool.and_eq_true,decide_eq_true_eq,decide_eq_true_eq,show IntKind.i64.min = -9223372036854775808 from rfl,show IntKind.i64.max=9223372036854775807 from rfl]at h;exact⟨h.1,pA⟩
def TkM(h:Hp):Prop:=Tk h/\AP 1 niv PP h
theorem TkM.tbs{h:Hp}(t:TkM h):dp Nx h:=⟨t.1,t.2,rfl,rfl⟩
theorem fJ{W:World}(h:laidMetH aN [("conclave/sha.numbers", Rows.laid_conclave_sha_numbers),("conclave/order.need", Rows.laid_conclave_order_need)] W):TkM W.heap:=by
 constructor
 .have h1:=h.filter (fun x=>x.1 == "conclave/sha.numbers")
  exact ZhB h1
 .have h1:=h.filter (fun x=>x.1 == "conclave/order.need")
  exact ZdC h1
theorem CU(os:Os)(args:Array Value):laidMetH aN [("conclave/sha.numbers", Rows.laid_conclave_sha_numbers),("conclave/order.need", Rows.laid_conclave_order_need)] ((World.doorLaid aN 87 os).forCall (fun _ _=>0) ⟨#[],args,[]⟩).memory:=
 laidMetH_of_parts3 (fuel:=8) (laidMet_of_run' 8 vM vM) vM vM
end Go.Proofs.YthlfaofofaphfaaGreatDoor
