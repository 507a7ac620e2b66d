/- Part Lrs. -/
import Derived.Test.YtdpjmhgbmhjniaaGreatDoorMdf
import Derived.Test.YtdpjmhgbmhjniaaGreatDoorShaq
import Derived.Test.YtdpjmhgbmhjniaaGreatDoorMoe
open Go.Value renaming slice→Q,int→U,pointer→am,bool→aw,agg→a2
open Go.IntKind renaming i64→O
open Go.Obj renaming cells→aa
open Go.Proofs.Tryz renaming prog→bc
open List renaming length→J,length_append→ao,length_cons→a0,mem_append→a1,take_of_length_le→a5,length_take→a6,foldl_cons→a9,mem_filter→ba,mem_cons→bd,mem_map→bg,length_singleton→bk,getElem_mem→bo,eq_nil_of_length_eq_zero→br,length_nil→bx,filter_sublist→bz,mem_range→bA,length_erase_of_mem→bG,getElem?_eq_getElem→bH,mem_of_mem_eraseIdx→bJ,mem_flatMap→bK,length_pos_of_mem→bL,length_map→bP,mem_of_mem_take→bS,map_congr_left→bT,pairwise_cons→bU,foldl_append→bV,not_mem_nil→b8,mem_flatten→ca,range_succ→cg,map_append→ch
open Nat renaming le_refl→aI,lt_of_lt_of_le→a8,le_trans→bh,mul_le_mul_right→bp,le_succ→bE,zero_le→bR,zero_add→b0
open Option renaming map_eq_some_iff→bf,some→X,none→Y
open Array renaming size_push→be,getElem?_setIfInBounds→bw
open Classical renaming byContradiction→ay
open Go renaming Value→al,World→bD
namespace Go.Proofs.YtdpjmhgbmhjniaaGreatDoor
open Go Go.V
set_option linter.all false
set_option maxRecDepth 100000
variable{C:List Cm}{h:Hp}{i:Nat}{l:List Nat}{n:Nd}
theorem BL{S:Tg->Prop}{o o':Ow}{h':Hp}(k:Kp S o h o' h'){b:Nat}{t u:Tg}(hb:o' b=X t)(ht:S t)(hu:S u):Kp S o h (XY o' b u) h':=by
 refine⟨k.size,fun c hc hn=>⟨(k.Zd c hc hn).1,?_⟩,fun c hc v hv hs=>?_,fun c hc v hv=>?_,fun c hc=>?_⟩
 .by_cases e:c=b
  .subst e;have:=(k.Zd c hc hn).2;rw[hb]at this;exact (hn t this.symm ht).elim
  .rw[Xp e];exact (k.Zd c hc hn).2
 .by_cases e:c=b
  .subst e;exact⟨u,Xj,hu⟩
  .rw[Xp e];exact k.stay c hc v hv hs
 .by_cases e:c=b
  .subst e;rw[Xj]at hv;cases hv;exact hu
  .rw[Xp e]at hv;exact k.new c hc v hv
 .by_cases e:c=b
  .subst e;rw[k.Ya c hc]at hb;cases hb
  .rw[Xp e];exact k.Ya c hc
def Hm(i:Nat)(t:Tg):Prop:=t=.Zi i\/t=.Yw i\/t=.XL i
theorem kX{o:Ow}{wb nb:Nat}{a:NA}(d:UO o h)(N:ZV o h wb i nb a n):
  ∃o',Kp (Hm i) o h o' h/\Z7 o' h wb i nb { a with Zi:=Y } { n with Zi:=Y,Z8:=XL n.Z8 }/\o' nb=X (.Yf i):=by
 have key:∀o',Kp (Hm i) o h o' h->UV o' h wb i nb Y a.Z8 (XL n.Z8)->Z7 o' h wb i nb { a with Zi:=Y } { n with Zi:=Y,Z8:=XL n.Z8 }:=fun o' k p=>
  ⟨N.pt.data.Zd k,N.pt.Xh.Zd k,trivial,N.pt.Zp.Zd k (by rintro (e|e|e)<;>cases e),N.pt.ZP.Zd k (by rintro (e|e|e)<;>cases e),N.pt.Zw.Zd k (by rintro (e|e|e)<;>cases e),N.pt.Zh.Zd k (by rintro (e|e|e)<;>cases e),N.pt.Zt.Zd k (by rintro (e|e|e)<;>cases e),p,N.pt.store⟩
 have hp:=N.pt.Z8;have hR:=N.pt.Zi
 cases MB:a.Zi with
 | none=>
  rw[MB]at hp;refine⟨o,Kp.refl d _,key o (Kp.refl d _) ?_,N.ZQ.1⟩
  match hn:n.Z8,hp with
  | none,hp=>exact hp
  | some (.EU _ _ _ _),hp=>exact hp
  | some (.EV _ _ _),hp=>exact hp
  | some (.Zy _ _ false),hp=>exact hp
  | some (.Zy _ _ true),⟨b6,b4,b7,b5,w,rb,h1,h2,h3,h4,h5,h6,a',h7,_⟩=>cases h7
 | some ra=>
  rw[MB]at hp hR;obtain⟨r,hr⟩:∃r,n.Zi=X r:=by
   cases hx:n.Zi with
   | none=>rw[hx]at hR;exact hR.elim
   | some r=>exact⟨r,rfl⟩
  rw[hr]at hR;have hR:YZ o i h ra r:=hR;have Ys:ra.rb≠ra.pb:=fun e=>by
   have h1:=hR.ZQ.1;have h2:=hR.Yw.1;rw[e,h2]at h1;cases h1
  have k1:Kp (Hm i) o h (XY o ra.rb (.XL i)) h:=BL (Kp.refl d (Hm i)) hR.ZQ.1 (.inl rfl) (.inr (.inr rfl));have mG:XY o ra.rb (.XL i) ra.pb=X (.Yw i):=by rw[Xp (fun e=>Ys e.symm)];exact hR.Yw.1
  have k2:Kp (Hm i) o h (XY (XY o ra.rb (.XL i)) ra.pb (.XL i)) h:=BL k1 mG (.inr (.inl rfl)) (.inr (.inr rfl));obtain⟨o2,vd⟩:=ZD (XY (XY o ra.rb (.XL i)) ra.pb (.XL i));rw[<-vd]at k2;have s1:o2 ra.rb=X (.XL i):=by rw[vd,Xp Ys];exact Xj
  have s2:o2 ra.pb=X (.XL i):=by rw[vd];exact Xj
  have so:∀b,b≠ra.rb->b≠ra.pb->o2 b=o b:=fun b e1 e2=>by rw[vd,Xp e2,Xp e1]
  have sst:∀b,o b=X (.XL i)->o2 b=X (.XL i):=fun b hb=>by
   by_cases e1:b=ra.rb
   .rw[e1];exact s1
   .by_cases e2:b=ra.pb
    .rw[e2];exact s2
    .rw[so b e1 e2];exact hb
  have VZ:o2 nb=X (.Yf i):=by
   rw[so nb (fun e=>by have:=N.ZQ.1;rw[e,hR.ZQ.1]at this;cases this) (fun e=>by have:=N.ZQ.1;rw[e,hR.Yw.1]at this;cases this)];exact N.ZQ.1
  refine⟨o2,k2,key o2 k2 ?_,VZ⟩
  match hn:n.Z8,hp with
  | none,hp=>exact hp
  | some (.EU a to b vs),⟨b6,b4,b9,u,h1,h2,h3,h4,h5⟩=>exact⟨b6,b4,b9,u,h1,h2.Zd k2,h3.Zd k2,h4.Zd k2,h5.Zd k2⟩
  | some (.EV a to x),⟨b6,b4,b9,u,h1,h2,h3,h4,h5⟩=>exact⟨b6,b4,b9,u,h1,h2.Zd k2,h3.Zd k2,h4.Zd k2,h5.Zd k2⟩
  | some (.Zy a vs cur),⟨b6,b4,b7,b5,w,rb,h1,h2,h3,h4,h5,h6,h7⟩=>
   refine⟨b6,b4,b7,b5,w,rb,h1,h2.Zd k2,h3.Zd k2,h4.Zd k2,h5.Zd k2,h6.Zd k2,?_⟩;rw[if_neg Dq]
   cases cur with
   | false=>
    rw[if_neg Dq]at h7;obtain⟨cs,pb,pv,g1,g2,g3⟩:=h7;exact⟨cs,pb,pv,⟨sst _ g1.1,g1.2⟩,g2,sst _ g3.1,g3.2⟩
   | true=>
    rw[if_pos rfl]at h7;obtain⟨a',q1,q2⟩:=h7;obtain rfl:=Option.some.inj q1;rw[<-q2];exact⟨_,ra.pb,ra.pv,⟨s1,hR.ZQ.2⟩,rfl,s2,hR.Yw.2⟩
theorem zX{o:Ow}{wb nb:Nat}{ra:Option RA}{v:al}{p:Option mT}(s:UV o h wb i nb Y v (XL p)):UV o h wb i nb ra v (XL p):=by
 match p,s with
 | none,s=>exact s
 | some (.EU _ _ _ _),s=>exact s
 | some (.EV _ _ _),s=>exact s
 | some (.Zy _ _ _),s=>exact s
set_option maxHeartbeats 4000000 in
theorem zY(T:bD)(h:Hp)(o:Ow)(wb i nb:Nat)(a:NA)(n:Nd)(d:UO o h)(N:ZV o h wb i nb a n)(hb:n.Zy.p.r<=1000000000000/\n.YH.r<=1000000000000 /\ -1000000000000<=n.Zy.p.r /\ -1000000000000<=n.YH.r)(hr:∀r,n.Zi=X r->r.b.r<=1000000000000 /\ -1000000000000<=r.b.r):
  Zc bc T 69 #[Zr wb,Zr nb] h fun v' h'=>∃o' a',Kp (fun t=>t.of=X i) o h o' h'/\ZV o' h' wb i nb a' (lead n):=by
 refine Zc.Kb (args:=#[_,_]) Tryz.func69 rfl rfl rfl ?_;obtain⟨M,hM⟩:=ZD (max n.Zy.p.r n.YH.r+1);refine VS.seq (VS.mono (N:=fun F' g'=>F' 1=am (X ⟨nb,0,Y⟩)/\Zf h.size h g'/\∃kb,h.size<=kb/\F' 4=am (X ⟨kb,0,Y⟩)/\g'[kb]? = X (aa [U O M,U O n.me].toArray 116)) ?_ ?_ (fun _ _ _ h=>h) (fun _ _ h=>h))
 .refine JC _ _ _ _ _ _ rfl ?_;unfold Zr;have P:=ZI N.ZQ.2 N.pt.store.len;have VZ:=Za N.ZQ.2;simp -implicitDefEqProofs only[go_sem];refine VS.z (h.size) [19] (.p 0 (.p 1 (.p 2 (.p 3 (.p 4 (.q 5 (.p 6 (.p 7 (.p 8 (.p 9 (.q 10 (.p 11 (.p 12 (.p 13 (.p 14 (.p 15 (.q 16 (.p 17 (.s 18 (.w 19 .nil)))))))))))))))))))) mixed po ?_;simp -implicitDefEqProofs only[go_sem,P.Zq8,P.ZdE,P.me,VZ];have em:(if n.YH.r>n.Zy.p.r then n.YH.r else n.Zy.p.r)+1=M:=by
   rw[hM];split<;>omega
  rw[em];exact⟨_,aI _,rfl,Zb⟩
 rintro F1 g1 ⟨f1,b1,kb,uQ,f4,y4⟩;refine VS.seq (VS.mono (N:=fun F' g'=>F' 1=am (X ⟨nb,0,Y⟩)/\F' 4=am (X ⟨kb,0,Y⟩)/\Zf h.size h g'/\g'[kb]? = X (aa [U O (QL n).r,U O n.me].toArray 116)) ?_ ?_ (fun _ _ _ h=>h) (fun _ _ h=>h))
 .refine JC _ _ _ _ _ _ rfl ?_;have k1:=ZN d b1;have N1:=N.Zu k1;have P1:=ZI N1.ZQ.2 N1.pt.store.len;have P1r:=P1.Zi;have Qb:=Za N1.ZQ.2;have l4:=Za y4;have r4:hc g1 ⟨kb,0,Y⟩=X (U O M):=Zg y4
  cases MB:a.Zi with
  | none=>
   rw[MB]at P1r;unfold Ok at P1r;have hn:n.Zi=Y:=by
    have:=N.pt.Zi;rw[MB]at this
    cases hx:n.Zi with
    | none=>rfl
    | some r=>rw[hx]at this;exact this.elim
   have e1:(QL n).r=M:=by unfold QL;rw[hn,hM]
   rw[e1];simp -implicitDefEqProofs only[go_sem,f1,P1r];exact⟨f4,b1,y4⟩
  | some ra=>
   rw[MB]at P1r;unfold Ok Zr at P1r;obtain⟨r,hn⟩:∃r,n.Zi=X r:=by
    have:=N.pt.Zi;rw[MB]at this
    cases hx:n.Zi with
    | none=>rw[hx]at this;exact this.elim
    | some r=>exact⟨r,rfl⟩
   have R1:YZ o i g1 ra r:=by have:=N1.pt.Zi;rw[MB,hn]at this;exact this
   have AC:=Za R1.ZQ.2;have rr0:hc g1 ⟨ra.rb,0,Y⟩=X (U O r.b.r):=Zg R1.ZQ.2;have e1:(QL n).r=max M (r.b.r+1):=by unfold QL;rw[hn,hM]
   obtain⟨fo,xm⟩:=hr r hn;obtain⟨Z,hZ⟩:=ZD ((QL n).r);have hz:(if r.b.r+1>M then r.b.r+1 else M)=Z:=by
    rw[hZ,e1];split<;>omega
   rw[<-hZ];have w4:Jb g1 ⟨kb,0,Y⟩ (U O Z)=X (g1.setIfInBounds kb (aa [U O Z,U O n.me].toArray 116)):=by rw[Ye y4 0 _];rfl
   simp -implicitDefEqProofs only[go_sem,f1,P1r];refine VS.z (g1.size) [10] (.p 0 (.q 1 (.p 2 (.p 3 (.p 4 (.p 5 (.q 6 (.p 7 (.p 8 (.p 9 (.w 10 .nil))))))))))) mixed po ?_;simp -implicitDefEqProofs only[go_sem,f1,f4,P1r,r4,rr0,AC,l4,hz,w4];exact⟨b1.Zj uQ _,ZE y4⟩
 clear f1 f4 y4 b1;rintro F3 g3 ⟨f1,f4,b3,y4⟩;refine JC _ _ _ _ _ _ rfl ?_;have k3:=ZN d b3;have N3:=N.Zu k3;have P3:=ZI N3.ZQ.2 N3.pt.store.len;have P3u:=P3.up;have Ol:=Za N3.ZQ.2;have l4:=Za y4;have r4a:hc g3 ⟨kb,0,Y⟩=X (U O (QL n).r):=Zg y4
 cases hu:n.up with
 | false=>
  rw[hu]at P3u;have e1:lead n=n:=by unfold lead;rw[if_pos (.inl hu)]
  rw[e1];simp -implicitDefEqProofs only[go_sem,f1,P3u];exact⟨o,a,ZR k3,N3⟩
 | true=>
 rw[hu]at P3u;by_cases c:65536<(QL n).r
 .have e1:lead n=n:=by unfold lead;rw[if_pos (.inr c)]
  rw[e1];have c':(QL n).r>65536:=c;simp -implicitDefEqProofs only[go_sem,f1,f4,P3u,r4a,c,c'];exact⟨o,a,ZR k3,N3⟩
 have e1:lead n = { n with Zi:=X ⟨QL n,[],false,[],[]⟩,Z8:=XL n.Z8 }:=by
  unfold lead;rw[if_neg];rintro (e|e)
  .rw[hu]at e;cases e
  .exact c e
 rw[e1];have c':¬(QL n).r>65536:=c;have r4:rd g3 ⟨kb,0,Y⟩ 2=X [U O (QL n).r,U O n.me]:=Zs y4 rfl;obtain⟨o2,k2,mY,Qj⟩:=kX k3.Ya N3;obtain⟨ra,MB⟩:∃ra:RA,ra=⟨g3.size+3,g3.size,g3.size+1,g3.size+2,[],[]⟩:=⟨_,rfl⟩
 obtain⟨r,hr0⟩:∃r:Q9,r=⟨QL n,[],false,[],[]⟩:=⟨_,rfl⟩
 obtain⟨p1,mG⟩:=ZD (g3.push (XJ []):Hp);obtain⟨p2,i7⟩:=ZD (p1.push (XJ []):Hp);obtain⟨p3,hp3⟩:=ZD (p2.push (XJ []):Hp);obtain⟨p4,hp4⟩:=ZD (p3.push (aa (di r ra).toArray 194):Hp);have s1:p1.size=g3.size+1:=by rw[mG];simp
 have s2:p2.size=g3.size+2:=by rw[i7,be,s1]
 have s3:p3.size=g3.size+3:=by rw[hp3,be,s2]
 have s4:p4.size=g3.size+4:=by rw[hp4,be,s3]
 have q1:p4[g3.size]? = X (XJ []):=by rw[hp4,Zl gX,hp3,Zl gX,i7,Zl gX,mG];exact Zb
 have q2:p4[g3.size+1]? = X (XJ []):=by rw[hp4,Zl gX,hp3,Zl gX,i7,<-s1];exact Zb
 have q3:p4[g3.size+2]? = X (XJ []):=by rw[hp4,Zl gX,hp3,<-s2];exact Zb
 have q4:p4[g3.size+3]? = X (aa (di r ra).toArray 194):=by rw[hp4,<-s3];exact Zb
 have kp:Kp (X6 i) o2 g3 o2 p4:=by rw[hp4,hp3,i7,mG];exact ((((Kp.refl k2.Ya _).push _).push _).push _).push _
 have ka:=kp.SK (b:=g3.size) (t:=.Yw i) (aI _) gX (.inr (.inl rfl));have kb':=ka.SK (b:=g3.size+1) (t:=.Xf i) gX gX (.inr (.inr (.inl rfl)));have kc:=kb'.SK (b:=g3.size+2) (t:=.JV i) gX gX (.inr (.inr (.inr (.inl rfl))));have k5:=kc.SK (b:=g3.size+3) (t:=.Zi i) gX gX (.inl rfl);obtain⟨o5,ho5⟩:=ZD (XY (XY (XY (XY o2 g3.size (.Yw i)) (g3.size+1) (.Xf i)) (g3.size+2) (.JV i)) (g3.size+3) (.Zi i));rw[<-ho5]at k5;clear ka kb' kc kp;have t1:o5 g3.size=X (.Yw i):=by rw[ho5,Xp gX,Xp gX,Xp gX];exact Xj
 have t2:o5 (g3.size+1)=X (.Xf i):=by rw[ho5,Xp gX,Xp gX];exact Xj
 have t3:o5 (g3.size+2)=X (.JV i):=by rw[ho5,Xp gX];exact Xj
 have t4:o5 (g3.size+3)=X (.Zi i):=by rw[ho5];exact Xj
 have R5:YZ o5 i p4 ra r:=by
  rw[MB,hr0];rw[MB,hr0]at q4;exact⟨⟨t4,q4⟩,⟨t1,q1⟩,.nil,⟨t2,q2⟩,⟨t3,q3⟩,.nil,Dq⟩
 have en:∀t:Tg,(t=.Zp i\/t=.ZP i\/t=.Zw i\/t=.Zh i\/t=.Zt i\/t=.XL i\/t=.Yf i)->¬X6 i t:=by
  intro t ht hr;rcases ht with rfl|rfl|rfl|rfl|rfl|rfl|rfl<;>rcases hr with e|e|e|e|⟨s,e⟩<;>cases e
 have pn:UV o5 p4 wb i nb (X ra) a.Z8 (XL n.Z8):=zX (mY.Z8.Zd k5 (en _ Dq));have pt5:Z7 o5 p4 wb i nb { a with Zi:=X ra } { n with Zi:=X r,Z8:=XL n.Z8 }:=
  ⟨mY.data.Zd k5,mY.Xh.Zd k5,R5,mY.Zp.Zd k5 (en _ Dq),mY.ZP.Zd k5 (en _ Dq),mY.Zw.Zd k5 (en _ Dq),mY.Zh.Zd k5 (en _ Dq),mY.Zt.Zd k5 (en _ Dq),pn,mY.store⟩
 have B5:Uq o5 (.Yf i) p4 nb (Xy n a):=Uq.Zd (o:=o2) ⟨Qj,N3.ZQ.2⟩ k5 (en _ Dq);obtain⟨g6,w6,N6,k6⟩:=Z7.write pt5 k5.Ya B5 ((Y7 B5.2 N.pt.store.len).Zi (X ra));have Om:=Za B5.2;have ee:p4=(((g3.push (.map #[] 0)).push (.map #[] 0)).push (.map #[] 0)).push (aa #[U O (QL n).r,U O n.me,.map (X g3.size),aw false,.map (X (g3.size+1)),.map (X (g3.size+2))] 194):=by
  rw[hp4,hp3,i7,mG,MB,hr0];rfl
 have w6':Jb p4 ⟨nb,9,Y⟩ (am (X ⟨g3.size+3,0,Y⟩))=X g6:=by rw[<-w6,MB];rfl
 have ee':=ee.symm;rw[hr0]at N6;simp -implicitDefEqProofs only[go_sem,f1,f4,P3u,r4a,c,c',r4,ee',w6',Om];refine⟨o5,_,((ZR k3).trans (k2.mono fun t q=>?_)).trans ((k5.mono fun t q=>My q).trans (k6.mono fun t q=>by rw[q];rfl)),N6⟩;rcases q with rfl|rfl|rfl<;>rfl
theorem Zd0{a r:V0}{k j:Nat}(h:Rec l a k r j):∀f,(J l)+1<=k+f->I8 l f a k=(r,j):=by
 induction h with
 | stop e=>
  intro f hf
  cases f with
  | zero=>rfl
  | succ f=>unfold I8;rw[e]
 | @go a a' r k k' j e _ ih=>
  intro f hf;have e':=e;unfold X4 at e';split at e'
  .rename_i q;rw[bf]at e';obtain⟨x,_,hx⟩:=e';have hk:k'=k+(Be l k+4):=(congrArg Prod.snd hx).symm
   cases f with
   | zero=>omega
   | succ f=>
    unfold I8;rw[e];exact ih f gX
  .cases e'
theorem Db{r:V0}{k:Nat}(h:Rec l Uj 0 r k):Rh l=(r,k):=Zd0 h _ gX
theorem FA{o:Ow}{wb:Nat}{Yr:Nat->Nat}{YW:WA}{fl:List XR}{Yj:Nat->Int}{ZB:List Pk}(d:UO o h)(W:ZS o h wb Yr YW fl Yj ZB)(i nb:Nat)(hi:i<5):
  ∃b off c g,YW.Zm=Q (X ⟨b,off,Y⟩) 5 c/\Jb h ⟨b,off+i,Y⟩ (Zr nb)=X g/\Kp (fun t=>t=.Zm) o h o g/\ZS o g wb (fun j=>if j=i then nb else Yr j) YW fl Yj ZB:=by
 rcases hw:W.Zm with⟨_,e,_⟩|⟨b,off,cap,pre,Zx,g1,g2,g3,g4,g5,g6,g7⟩
 .cases e
 have xS:Jb h ⟨b,off+i,Y⟩ (Zr nb)=X (h.setIfInBounds b (aa (pre++([Zr (Yr 0),Zr (Yr 1),Zr (Yr 2),Zr (Yr 3),Zr (Yr 4)].set i (Zr nb)++Zx)).toArray 112)):=by
  rw[Ye g3,if_pos ⟨by simp only[ao,a0];omega,rfl⟩];rw[<-g4,List.set_append_right _ _ gX,Nat.add_sub_cancel_left,List.set_append_left _ _ (by simpa using hi)]
 have kk:Kp (fun t=>t=.Zm) o h o (h.setIfInBounds b (aa (pre++([Zr (Yr 0),Zr (Yr 1),Zr (Yr 2),Zr (Yr 3),Zr (Yr 4)].set i (Zr nb)++Zx)).toArray 112)):=(Kp.refl d (fun t=>t=.Zm)).set g1 rfl _;refine⟨b,off,cap,_,g2,xS,kk,W.ZQ.Zd kk MI,?_,W.Zo.Zd kk MI,W.ZB.Zd kk MI⟩;refine .inr ⟨b,off,cap,pre,Zx,g1,g2,?_,g4,rfl,g6,g7⟩;rw[ZE g3]
 match i,hi with
 | 0,_=>rfl
 | 1,_=>rfl
 | 2,_=>rfl
 | 3,_=>rfl
 | 4,_=>rfl
def Su(k n a b:Int)(d:al):List al:=[U O k,U O n,U O a,U O b,d]
structure WOk(w:Wd):Prop where
 me:∀i,i<5->(w.Zm i).me=i
 step:∀i,i<5->dD (w.Zm i) w.Zo.length w.ZB.length
 Zw:∀i,i<5->(w.Zm i).Zw.length<=100000000000
 ZP:∀i,i<5->(w.Zm i).ZP.length<=100000000000
 Zh:∀i,i<5->(w.Zm i).Zh.length<=100000000000
 Zt:∀i,i<5->(w.Zm i).Zt.length<=100000000000
 data:∀i,i<5->(w.Zm i).data.length<=1000000
 ZB:w.ZB.length<=100000000000
 Yj:∀i,i<5->0<=w.Yj i/\w.Yj i<=1000000000000
 Zse:∀i,i<5->(w.Zm i).Zy.p.r<=1000000000000/\(w.Zm i).YH.r<=1000000000000 /\ -1000000000000<=(w.Zm i).Zy.p.r /\ -1000000000000<=(w.Zm i).YH.r
 rgn:∀i,i<5->∀r,(w.Zm i).Zi=X r->r.b.r<=1000000000000 /\ -1000000000000<=r.b.r
 to:∀l∈w.Zo,0<=l.to/\l.to<5
 room:w.Zo.length<=100000000000
theorem JH.fresh{o o':Ow}{h':Hp}{wb:Nat}{Yr:Nat->Nat}{YW:WA}{w:Wd}{nb:Nat}{a:NA}(A:JH o h wb Yr YW w)(k:Kp (fun t=>t=.Zm\/t.of=X i) o h o' h')(N:ZV o' h' wb i nb a n)(W:ZS o' h' wb (fun j=>if j=i then nb else Yr j) YW w.Zo w.Yj w.ZB):JH o' h' wb (fun j=>if j=i then nb else Yr j) YW (w.set i n):=by
 refine⟨W,fun j hj=>?_⟩;by_cases e:j=i
 .subst e;refine⟨a,?_⟩;unfold Wd.set
  simpa using N
 .obtain⟨b,M⟩:=A.nd j hj;refine⟨b,?_⟩;unfold Wd.set;simp only[if_neg e];refine M.Zd k fun t q hq=>?_;rcases q with rfl|q
  .cases hq
  .rw[hq]at q;exact e (Option.some.inj q)
theorem BM(w:Wd)(i:Nat):w.set i (w.Zm i)=w:=by
 unfold Wd.set;have:(fun j=>if j=i then w.Zm i else w.Zm j)=w.Zm:=by
  funext j;split
  .next e=>rw[e]
  .rfl
 rw[this]
theorem Hn{o:Ow}{h':Hp}{p:Option Addr}{c:Nat}{L:List Nat}(d:UO o h')(hb:Bs h' (Q p (J L) c) L)(hc:(J L)<=c)(hf:∀b,ZJ (Q p (J L) c)=X b->o b=Y/\b<h'.size):TD o h' (Q p (J L) c) L:=
 ⟨⟨hb.sl,⟨p,c,rfl,hc⟩,fun b q=>⟨(hf b q).2,(hf b q).1⟩⟩,hb.byte⟩
theorem BN{o:Ow}{v:al}{k:Nat}(d:UO o h)(s:TD o h v l)(hk:k<h.size)(hv:∀b,ZJ v=X b->b≠k)(x:Obj):TD o (h.setIfInBounds k x) v l:=by
 have d2:UO (XY o k Tg.Zm) h:=fun b hb=>by rw[Xp gX];exact d b hb
 have s2:TD (XY o k Tg.Zm) h v l:=⟨⟨s.1.sl,s.1.fits,fun b hb=>⟨(s.1.free b hb).1,by rw[Xp (hv b hb)];exact (s.1.free b hb).2⟩⟩,s.2⟩
 have k2:Kp (fun t=>t=Tg.Zm) (XY o k Tg.Zm) h (XY o k Tg.Zm) (h.setIfInBounds k x):=(Kp.refl d2 (fun t=>t=Tg.Zm)).set Xj rfl x;have s3:=s2.Zd k2;exact⟨⟨s3.1.sl,s3.1.fits,fun b hb=>⟨(s3.1.free b hb).1,(s.1.free b hb).2⟩⟩,s3.2⟩
theorem dG(i:Nat)(n:Nd)(k:Int)(L:List Nat)(Z E:Int)(hu:n.up=true)(h:SV n.data n.XW k=(L,Z,E)):Ua i n k = { Qw i true L Z Uj with up:=false }:=by
 unfold Ua;rw[if_pos hu];unfold SV at h;by_cases c:Xu n.data n.XW
 .rw[if_pos (show (J n.data)<=100000/\0<=n.XW/\n.XW<=(J n.data) from c)]at h;by_cases q:k<0
  .rw[if_pos q]at h
   cases h
   rw[if_neg (fun e=>by have:=e.2;omega)];rfl
  .rw[if_neg q]at h
   cases h
   rw[if_pos ⟨c,gX⟩];rfl
 .rw[if_neg (show ¬((J n.data)<=100000/\0<=n.XW/\n.XW<=(J n.data)) from c)]at h
  cases h
  rw[if_neg (fun e=>c e.1)];rfl
theorem dH(w:Wd)(l:XR)(i:Nat):((Ss w l).Zm i).Zt.length<=(w.Zm i).Zt.length+1:=by
 unfold Ss;split
 .unfold Wd.set;simp only;split
  .next e=>subst e;simp
  .omega
 .omega
theorem BO(i:Nat):∀(ls:List XR) (w:Wd),((ls.foldl Ss w).Zm i).Zt.length<=(w.Zm i).Zt.length+(J ls):=by
 intro ls
 induction ls with
 | nil=>intro w;simp
 | cons l ls ih=>
  intro w;have h1:=ih (Ss w l);have h2:=dH w l i;simp only[a9,a0];omega
def WP(l:List Vt):Prop:=(∀x∈l,Yv x)/\l.Pairwise (fun a b=>a.ZA<b.ZA)
structure FB(a:V0):Prop where
 bal:Z6 a.p\/(a.p.r=0/\a.p.n=0)
 JV:WP a.l
def NC(b:Ji):Prop:=0<=b.r/\b.r<=65536
theorem dI:∀(l:List Vt) (a:Int),l.Pairwise (fun a b=>a.ZA<b.ZA)->(∀x∈l,a<=x.ZA/\x.ZA<=39)->a<=40->((J l):Int)<=40-a:=by
 intro l
 induction l with
 | nil=>intro a _ _ h;simp;omega
 | cons x l ih=>
  intro a hp hx ha;rw[bU]at hp;have h1:=hx x Dq;have:=ih (x.ZA+1) hp.2 (fun y hy=>⟨by have:=hp.1 y hy;omega,(hx y (by simp[hy])).2⟩) gX;simp only[a0];omega
theorem WP.len{l:List Vt}(h:WP l):(J l)<=40:=by
 have:=dI l 0 h.2 (fun x hx=>⟨(h.1 x hx).1.1,(h.1 x hx).1.2⟩) gX;omega
theorem WP.nil:WP []:=⟨fun x hx=>by (cases hx),.nil⟩
theorem WP.ins{l:List Vt}(h:WP l){v:Vt}(hv:Yv v):WP (Ui l v):=by
 unfold Ui;refine⟨fun x hx=>?_,?_⟩
 .rcases a1.1 hx with hx|hx
  .exact h.1 x (ba.1 hx).1
  .rcases bd.1 hx with rfl|hx
   .exact hv
   .exact h.1 x (ba.1 hx).1
 .rw[List.pairwise_append,bU];refine⟨h.2.sublist bz,⟨fun y hy=>by simpa using (ba.1 hy).2,h.2.sublist bz⟩,fun x hx y hy=>?_⟩;have h1:x.ZA<v.ZA:=by simpa using (ba.1 hx).2
  rcases bd.1 hy with rfl|hy
  .exact h1
  .have h2:v.ZA<y.ZA:=by simpa using (ba.1 hy).2
   omega
theorem FB.zero:FB Uj:=⟨.inr ⟨rfl,rfl⟩,WP.nil⟩
theorem Z6.I{b:Ji}(h:Z6 b):NC b:=⟨by have:=h.1.1;omega,h.1.2⟩
theorem FB.tP{a:V0}(h:FB a):NC a.p:=by
 rcases h.bal with q|q
 .exact q.I
 .unfold NC;omega
structure QT(C:List Cm)(l:XR):Prop where
 YI:0<=l.YI/\l.YI<=7
 JU:0<=l.JU/\l.JU<5
 to:0<=l.to/\l.to<5
 b:NC l.b
 ZA:0<=l.v.ZA/\l.v.ZA<40
 vs:WP l.vs
 cmd:l.YI=4->l.v.cm∈C
def NE{β:Type}(m:Int)(l:List (Int × β)):Prop:=(l.map (·.1)).Nodup/\∀x∈l.map (·.1),0<=x/\x<m
theorem NE.nil{β:Type}(m:Int):NE m ([]:List (Int × β)):=⟨Dq,fun x hx=>by (cases hx)⟩
theorem NE.ins{β:Type}{m:Int}{l:List (Int × β)}(h:NE m l){k:Int}(hk:0<=k/\k<m)(v:β):NE m (ins l k v):=by
 obtain⟨h1,h2⟩:=Bx (k:=k) (v:=v) h.1;refine⟨h1,fun x hx=>?_⟩;rcases h2 x hx with rfl|q
 .exact hk
 .exact h.2 x q
theorem kY:∀(m:Nat) (l:List Int),l.Nodup->(∀x∈l,0<=x/\x<(m:Int))->(J l)<=m:=by
 intro m
 induction m with
 | zero=>
  intro l _ h
  cases l with
  | nil=>simp
  | cons x l=>have:=h x Dq;omega
 | succ m ih=>
  intro l hn h;have h1:=ih (l.erase (m:Int)) (hn.erase _) (fun x hx=>by
   have hx':=(List.Nodup.mem_erase_iff hn).1 hx;have:=h x hx'.2;have:x≠(m:Int):=hx'.1;omega)
  have:(J l)<=(l.erase (m:Int)).length+1:=by rw[List.length_erase];split<;>omega
  omega
theorem NE.len{β:Type}{m:Nat}{l:List (Int × β)}(h:NE (m:Int) l):(J l)<=m:=by
 have:=kY m _ h.1 h.2
 simpa using this
structure Dc(r:Q9):Prop where
 b:NC r.b
 Yw:NE 5 r.Yw
 vs:∀x∈r.Yw,WP x.2
 T5:∀x∈r.JV,NE 5 x.2
def Zje:mT->Prop
 | .EU a to b vs=>FB a/\(0<=to/\to<5)/\NC b/\WP vs
 | .EV a to v=>FB a/\(0<=to/\to<5)/\Yv v
 | .Zy a vs _=>FB a/\WP vs
structure QU(C:List Cm)(i:Nat)(n:Nd):Prop where
 me:n.me=i
 XK:0<=n.XK/\n.XK<5
 Zy:FB n.Zy
 YH:NC n.YH
 Z8:∀p,n.Z8=X p->Zje p
 Zi:∀r,n.Zi=X r->Dc r
 Zp:NE 40 n.Zp
 ZP:∀j,j<n.ZP.length->(XD n.Zp (j:Int)).isSome=true
 Zw:n.Zw.Nodup/\∀x∈n.Zw,x∈C
 data:(J n.data)<=100000
theorem QU.Dd(h:QU C i n):n.ZP.length<=40:=by
 have h1:=Bv n.Zp 0 n.ZP.length (fun j hj=>by simpa using h.ZP j hj);have h2:=h.Zp.len (m:=40);omega
theorem MC{p:Ji}{l:List Vt}{b:Ji}(h:YT p l b=0):Z6 b:=by
 unfold YT at h;by_cases c1:X8 p l≠0
 .rw[if_pos c1]at h;cases h
 .rw[if_neg c1]at h;by_cases c2:¬Z6 b
  .rw[if_pos c2]at h;cases h
  .simpa using c2
theorem FC{p:Ji}{l:List Vt}{x:Vt}(h:Xk p l x=0):Yv x:=by
 unfold Xk at h;by_cases c1:X8 p l≠0
 .rw[if_pos c1]at h;cases h
 .rw[if_neg c1]at h;by_cases c2:¬Yv x
  .rw[if_pos c2]at h;cases h
  .simpa using c2
theorem BP{n:Int}{k:Nat}(h:J7 l n k=0):(J l)+(k+5)<=100000:=by
 unfold J7 at h;by_cases c1:¬Xu l n
 .rw[if_pos c1]at h;cases h
 .rw[if_neg c1]at h;by_cases c2:100000<(J l)+(k+5)
  .rw[if_pos c2]at h;cases h
  .omega
theorem BQ{n:Int}{b:Ji}(h:Q6 l n b=0):(J l)+14<=100000:=by
 unfold Q6 at h;by_cases c1:¬Xu l n
 .rw[if_pos c1]at h;cases h
 .rw[if_neg c1]at h;by_cases c2:¬Z6 b
  .rw[if_pos c2]at h;cases h
  .rw[if_neg c2]at h;exact BP h
theorem tT{n:Int}{x:Vt}(h:U6 l n x=0):(J l)+38<=100000:=by
 unfold U6 at h;by_cases c1:¬Xu l n
 .rw[if_pos c1]at h;cases h
 .rw[if_neg c1]at h;by_cases c2:¬Yv x
  .rw[if_pos c2]at h;cases h
  .rw[if_neg c2]at h;exact BP h
theorem gM(b:Ji):(Xt (Q7 b)).length=14:=by rw[S7];rfl
theorem zZ(x:Vt):(Xt (Ph x)).length=38:=by rw[S7];rfl
structure T7(C:List Cm)(i:Nat)(n:Nd)(o:Out):Prop where
 nd:QU C i o.n
 ls:∀l∈o.ls,QT C l
 few:(J o.ls)<=1
 ts:(J o.ts)+o.n.Zh.length<=n.Zh.length
theorem T7.same(h:QU C i n):T7 C i n ⟨n,[],[]⟩:=⟨h,(fun l hl=>by cases hl),Dq,Dq⟩
theorem T7.one(h:QU C i n){l:XR}(hl:QT C l):T7 C i n ⟨n,[l],[]⟩:=⟨h,fun x hx=>by
 have:x=l:=by simpa using hx
 rw[this];exact hl,Dq,Dq⟩
theorem dJ{l:XR}(hi:i<5)(h:QU C i n)(hl:QT C l):T7 C i n (XC n l):=by
 have Dp:0<=(n.me:Int)/\(n.me:Int)<5:=by rw[h.me];omega
 have v0:0<=S5.ZA/\S5.ZA<40:=MZ;unfold XC;by_cases c1:YT n.Zy.p n.Zy.l l.b≠0
 .rw[if_pos c1];exact T7.one h ⟨Dq,Dp,hl.JU,h.Zy.tP,v0,WP.nil,fun e=>by cases e⟩
 rw[if_neg c1];have hb:Z6 l.b:=MC (by simpa using c1);by_cases c2:n.Zy.p=l.b
 .rw[if_pos c2];exact T7.one h ⟨Dq,Dp,hl.JU,hl.b,v0,h.Zy.JV,fun e=>by cases e⟩
 rw[if_neg c2];by_cases c3:Q6 n.data n.XW l.b≠0
 .rw[if_pos c3];exact T7.same h
 rw[if_neg c3];have hd:=BQ (by simpa using c3);refine⟨{ h with Z8:=?_,data:=?_ },(fun x hx=>by cases hx),Dq,Dq⟩
 .intro p hp;obtain rfl:=Option.some.inj hp;exact⟨⟨.inl hb,h.Zy.JV⟩,hl.JU,hb.I,h.Zy.JV⟩
 .show (n.data++Xt (Q7 l.b)).length<=100000;rw[ao,gM];exact hd
theorem Zaa{l:XR}(hi:i<5)(h:QU C i n)(hl:QT C l):T7 C i n (asked n l):=by
 have Dp:0<=(n.me:Int)/\(n.me:Int)<5:=by rw[h.me];omega
 have v0:0<=S5.ZA/\S5.ZA<40:=MZ;unfold asked;by_cases c1:Xk n.Zy.p n.Zy.l l.v≠0
 .rw[if_pos c1];exact T7.one h ⟨Dq,Dp,hl.JU,h.Zy.tP,v0,WP.nil,fun e=>by cases e⟩
 rw[if_neg c1];have hv:Yv l.v:=FC (by simpa using c1);by_cases c2:l.v∈n.Zy.l
 .rw[if_pos c2];exact T7.one h ⟨Dq,Dp,hl.JU,by unfold NC Qh;simp,hl.ZA,WP.nil,fun e=>by cases e⟩
 rw[if_neg c2];by_cases c3:U6 n.data n.XW l.v≠0
 .rw[if_pos c3];exact T7.same h
 rw[if_neg c3];have hd:=tT (by simpa using c3);refine⟨{ h with Z8:=?_,data:=?_ },(fun x hx=>by cases hx),Dq,Dq⟩
 .intro p hp;obtain rfl:=Option.some.inj hp;exact⟨⟨.inl hv.2.1,h.Zy.JV.ins hv⟩,hl.JU,hv⟩
 .show (n.data++Xt (Ph l.v)).length<=100000;rw[ao,zZ];exact hd
theorem tU{x:Cm}(h:QU C i n)(hx:XD n.Zp (n.ZP.length:Int)=X x):QU C i (VO n x)/\(T3 n x).length+(VO n x).Zh.length<=n.Zh.length:=by
 refine⟨{ h with ZP:=?_,Zw:=?_ },?_⟩
 .intro j hj;have hj':j<(n.ZP++[x]).length:=hj;show (XD n.Zp (j:Int)).isSome=true;rw[ao,bk]at hj';by_cases e:j<n.ZP.length
  .exact h.ZP j e
  .have:j=n.ZP.length:=gX;subst this;rw[hx];rfl
 .exact⟨h.Zw.1.sublist bz,fun y hy=>h.Zw.2 y (ba.1 hy).1⟩
 .show (T3 n x).length+(n.Zh.erase x).length<=n.Zh.length;unfold T3;by_cases c:x∈n.Zh
  .rw[if_pos c,bG c];have:=bL c;simp;omega
  .rw[if_neg c,List.erase_of_not_mem c];simp
theorem kZ:∀(k:Nat) (n:Nd),QU C i n->QU C i (Xq k n).1/\(Xq k n).2.length+(Xq k n).1.Zh.length<=n.Zh.length:=by
 intro k
 induction k with
 | zero=>intro n h;exact⟨h,by simp[Xq]⟩
 | succ k ih=>
  intro n h;unfold Xq
  cases hx:XD n.Zp (n.ZP.length:Int) with
  | none=>exact⟨h,Dq⟩
  | some x=>
   obtain⟨h1,h2⟩:=tU h hx;obtain⟨h3,h4⟩:=ih _ h1;refine⟨h3,?_⟩;simp only[ao];omega
theorem gN(h:QU C i n)(s:Int)(x:Cm)(hs:0<=s/\s<40):T7 C i n (Vu n s x):=by
 have h1:QU C i (WM n s x):={ h with
  Zp:=h.Zp.ins hs x
  ZP:=fun j hj=>by
   show (XD (ins n.Zp s x) (j:Int)).isSome=true;rw[fh];split
   .rfl
   .exact h.ZP j hj }
 obtain⟨h2,h3⟩:=kZ ((WM n s x).Zp.length+1) (WM n s x) h1;exact⟨h2,(fun l hl=>by cases hl),by simp[Vu],h3⟩
theorem Ho{β:Type}:∀{l:List (Int × β)} {k:Int} {v:β} {x:Int × β},x∈ins l k v->x.2=v\/x∈l:=by
 intro l
 induction l with
 | nil=>
  intro k v x hx;left;have:x=(k,v):=by simpa [ins] using hx
  rw[this]
 | cons y l ih=>
  intro k v x hx;obtain⟨a,b⟩:=y;unfold ins at hx;split at hx
  .rcases bd.1 hx with rfl|hx
   .exact .inl rfl
   .exact .inr (by simp[hx])
  .rcases bd.1 hx with rfl|hx
   .exact .inr Dq
   .rcases ih hx with q|q
    .exact .inl q
    .exact .inr (by simp[q])
theorem dK{l:XR}(hi:i<5)(h:QU C i n)(hl:QT C l):T7 C i n (Y6 n l):=by
 unfold Y6
 cases hr:n.Zi with
 | none=>exact T7.same h
 | some r=>
  have R:=h.Zi r hr;have hs:∀r',(I3 n r l).Zi=X r'->Dc r':=by
   intro r' hr';obtain rfl:=Option.some.inj hr';refine⟨R.b,R.Yw,R.vs,fun x hx=>?_⟩;rcases Ho hx with q|q
   .rw[q];unfold Sq;refine NE.ins ?_ hl.JU ()
    cases hk:XD r.JV l.v.ZA with
    | none=>exact NE.nil 5
    | some s=>exact R.T5 _ (Kg hk)
   .exact R.T5 x q
  have hv:QU C i (I3 n r l):={ h with Zi:=hs }
  simp only;split
  .split
   .refine⟨{ h with Zi:=fun r' hr'=>?_ },(fun x hx=>by cases hx),Dq,by simp[ZdC]⟩;obtain rfl:=Option.some.inj hr';refine⟨R.b,R.Yw.ins hl.JU l.vs,fun x hx=>?_,R.T5⟩;rcases Ho hx with q|q
    .rw[q];exact hl.vs
    .exact R.vs x q
   .exact T7.same h
  .split
   .exact T7.same h
   .split
    .have:=gN hv l.v.ZA l.v.cm hl.ZA;exact⟨this.nd,this.ls,this.few,this.ts⟩
    .exact⟨hv,(fun x hx=>by cases hx),Dq,by simp[I3]⟩
theorem ZbL{x:Cm}(h:QU C i n)(hx:x∈C):QU C i (add n x):=by
 unfold add;split
 .exact h
 .rename_i q;refine { h with Zw:=⟨?_,fun y hy=>?_⟩ }
  .show (n.Zw++[x]).Nodup;rw[List.nodup_append];refine⟨h.Zw.1,Dq,fun a ha b hb e=>?_⟩;have:b=x:=by simpa using hb
   exact q (.inl (by rw[<-this,<-e];exact ha))
  .have hy:y∈n.Zw++[x]:=hy;rcases a1.1 hy with hy|hy
   .exact h.Zw.2 y hy
   .have:y=x:=by simpa using hy
    rw[this];exact hx
theorem gO{l:XR}(h:QU C i n)(hl:QT C l):QU C i (Qa n l):=by
 unfold Qa;split
 .exact { h with YH:=hl.b }
 .exact h
theorem Zab{l:XR}(hi:i<5)(h:QU C i n)(hl:QT C l):T7 C i n (Tx n l):=by
 have Dp:0<=(n.me:Int)/\(n.me:Int)<5:=by rw[h.me];omega
 have hn:=gO h hl;have hw:(Qa n l).Zh=n.Zh:=by unfold Qa;split<;>rfl
 unfold Tx;split
 .next y _=>
  refine⟨hn,fun x hx=>?_,Dq,by simp[hw]⟩;have:x=⟨6,n.me,l.JU,Qh,Sp l.v.ZA Qh y,[]⟩:=by simpa using hx
  rw[this];exact⟨Dq,Dp,hl.JU,by unfold NC Qh;simp,hl.ZA,WP.nil,fun e=>by cases e⟩
 .exact⟨hn,(fun x hx=>by cases hx),Dq,by simp[hw]⟩
theorem BR{l:XR}(hi:i<5)(h:QU C i n)(hl:QT C l):T7 C i n (Yn n l):=by
 have hw:(Qa n l).Zh=n.Zh:=by unfold Qa;split<;>rfl
 unfold Yn;split
 .exact dJ hi h hl
 split
 .exact dK hi h hl
 split
 .exact Zaa hi h hl
 split
 .rename_i e;refine⟨ZbL h (hl.cmd e),(fun x hx=>by cases hx),Dq,?_⟩;have:(add n l.v.cm).Zh=n.Zh:=by unfold add;split<;>rfl
  simp[this]
 split
 .exact Zab hi h hl
 split
 .exact gN h _ _ hl.ZA
 .exact⟨gO h hl,(fun x hx=>by cases hx),Dq,by simp[hw]⟩
theorem QU.Zt(h:QU C i n)(k:List XR):QU C i { n with Zt:=k }:={ h with }
theorem gP(hi:i<5):∀(k:List XR) (n:Nd),QU C i n->(∀l∈k,QT C l) ->
  QU C i (Xr n k).n/\(∀l∈(Xr n k).ls,QT C l)/\(∀l∈(Xr n k).n.Zt,QT C l)/\(Xr n k).ls.length+(Xr n k).n.Zt.length<=(J k)/\(Xr n k).ts.length+(Xr n k).n.Zh.length<=n.Zh.length:=by
 intro k
 induction k with
 | nil=>
  intro n h _;unfold Xr;exact⟨h.Zt [],(fun x hx=>by cases hx),(fun x hx=>by cases hx),Dq,Dq⟩
 | cons l k ih=>
  intro n h hk;unfold Xr;split
  .exact⟨h.Zt _,(fun x hx=>by cases hx),hk,Dq,Dq⟩
  .have o:=BR hi (h.Zt k) (hk l Dq);obtain⟨h1,h2,h3,h4,h5⟩:=ih _ o.nd (fun x hx=>hk x (by simp[hx]));have ots:=o.ts;have of:=o.few;refine⟨h1,fun x hx=>?_,h3,?_,?_⟩
   .rcases a1.1 hx with hx|hx
    .exact o.ls x hx
    .exact h2 x hx
   .simp only[ao,a0];omega
   .simp only[ao];have:({ n with Zt:=k }:Nd).Zh=n.Zh:=rfl;rw[this]at ots;omega
theorem RW:∀{l C:List Cm},l.Nodup->(∀x∈l,x∈C)->(J l)<=(J C):=by
 intro l
 induction l with
 | nil=>intro C _ _;simp
 | cons x l ih=>
  intro C hn hs;rw[List.nodup_cons]at hn;have hx:=hs x Dq;have h1:=ih (C:=C.erase x) hn.2 (fun y hy=>by
   have Ys:y≠x:=fun e=>hn.1 (by rw[<-e];exact hy);exact (List.mem_erase_of_ne Ys).2 (hs y (by simp[hy])))
  rw[bG hx]at h1;have:=bL hx;simp only[a0];omega
theorem QU.hand{l:XR}(h:QU C i n)(hl:QT C l)(hC:(J C)<=100000)(hw:n.Zh.length<=100000){f t:Nat}(hf:f<=100000000000)(ht:t<=1000000):dC n l f t:=by
 have Gv:=h.Dd;have az:=h.Zp.len (m:=40);have hq:n.Zw.length<=(J C):=RW h.Zw.1 h.Zw.2;refine⟨hl.YI,gX,by have:=h.Zy.JV.len;omega,by have:=h.data;omega,gX,gX,gX,gX,gX,fun r s hr=>?_⟩
 cases hk:XD r.JV s with
 | none=>simp
 | some x=>
  have:=(h.Zi r hr).T5 _ (Kg hk);have:(J x)<=5:=this.len (m:=5);simp only[Option.getD_some];omega
theorem QU.dut(h:QU C i n)(hC:(J C)<=100000){f:Nat}(hf:f<=100000000000):tJ n f:=by
 have Gv:=h.Dd;have hq:n.Zw.length<=(J C):=RW h.Zw.1 h.Zw.2;refine⟨gX,by have:=h.Zy.JV.len;omega,by have:=h.data;omega,fun r hr=>?_,gX,gX,h.XK⟩;have R:=h.Zi r hr;have hp:r.Yw.length<=5:=R.Yw.len (m:=5);refine⟨fun x hx=>by have:=(R.vs x hx).len;omega,fun x hx v hv=>?_,gX⟩;have:=((R.vs x hx).1 v hv).1.2;omega
theorem tV(hi:i<5)(hC:(J C)<=100000):∀(k:List XR) (n:Nd),QU C i n->(∀l∈k,QT C l)->n.Zh.length<=100000->∀f t,f+(J k)<=100000000000->t+n.Zh.length<=1000000->RV n k f t:=by
 intro k
 induction k with
 | nil=>intro n _ _ _ f t _ _;exact trivial
 | cons l k ih=>
  intro n h hk hw f t hf ht;simp only[a0]at hf;unfold RV;by_cases hp:n.Z8.isSome=true
  .exact .inl hp
  .have o:=BR hi (h.Zt k) (hk l Dq);have ots:=o.ts;have of:=o.few;have:({ n with Zt:=k }:Nd).Zh=n.Zh:=rfl;rw[this]at ots;exact .inr ⟨(h.Zt k).hand (hk l Dq) hC hw gX gX,ih _ o.nd (fun x hx=>hk x (by simp[hx])) gX _ _ gX gX⟩
theorem tW(hi:i<5)(hC:(J C)<=100000)(h:QU C i n)(hk:∀l∈n.Zt,QT C l)(hw:n.Zh.length<=100000){f t:Nat}(hf:f+n.Zt.length<=100000000000)(ht:t+n.Zh.length<=1000000):dD n f t:=by
 obtain⟨h1,h2,h3,h4,h5⟩:=gP hi n.Zt n h hk;exact⟨by have:=h.data;omega,gX,fun _=>tV hi hC n.Zt n h hk hw f t hf ht,fun _ _=>h1.dut hC gX⟩
theorem Zac{r:Q9}{x:Cm}(R:Dc r):Dc (TA n r x):=by
 unfold TA;split
 .exact⟨R.b,R.Yw,R.vs,R.T5⟩
 .exact R
theorem li:∀(l:List Cm) (r:Q9),Dc r->Dc (Qi n r l):=by
 intro l
 induction l with
 | nil=>intro r R;exact R
 | cons x l ih=>intro r R;exact ih _ (Zac R)
theorem Zad{r:Q9}(R:Dc r):Dc (I7 n r):=by
 unfold I7;refine li _ _ ?_;split
 .exact R
 .exact⟨R.b,R.Yw,R.vs,R.T5⟩
theorem De:NC Qh:=by unfold NC Qh;simp
theorem Zd1{r:Q9}(hi:i<5)(h:QU C i n)(R:Dc r):QU C i (UU n r).n/\(∀l∈(UU n r).ls,QT C l)/\(UU n r).n.Zt=n.Zt/\(UU n r).n.Zh=n.Zh:=by
 have Dp:0<=(n.me:Int)/\(n.me:Int)<5:=by rw[h.me];omega
 have v0:0<=S5.ZA/\S5.ZA<40:=MZ;unfold UU;split
 .split
  .exact⟨h,(fun x hx=>by cases hx),rfl,rfl⟩
  .rename_i hd;have hd:=BQ (by simpa using hd);refine⟨{ h with Z8:=?_,data:=?_ },(fun x hx=>by cases hx),rfl,rfl⟩
   .intro p hp;obtain rfl:=Option.some.inj hp;by_cases c:YT n.Zy.p n.Zy.l r.b=0
    .simp only[c,if_true];exact⟨⟨.inl (MC c),h.Zy.JV⟩,h.Zy.JV⟩
    .simp only[c,if_false];exact⟨FB.zero,WP.nil⟩
   .show (n.data++Xt (Q7 r.b)).length<=100000;rw[ao,gM];exact hd
 .split
  .refine⟨h,fun l hl=>?_,rfl,rfl⟩;unfold I4 at hl;simp only[bK,bA]at hl;obtain⟨m,hm,hl⟩:=hl;split at hl
   .have:l=⟨0,n.me,m,r.b,S5,[]⟩:=by simpa using hl
    rw[this];exact⟨Dq,Dp,by simp only;omega,R.b,v0,WP.nil,fun e=>by cases e⟩
   .cases hl
  .refine⟨{ h with Zi:=fun r' hr'=>?_ },fun l hl=>?_,rfl,rfl⟩
   .obtain rfl:=Option.some.inj hr';exact Zad R
   .unfold I5 at hl;simp only[bK,bA]at hl;obtain⟨s,hs,hl⟩:=hl;unfold VP at hl;split at hl
    .split at hl
     .simp only[bK,bA]at hl;obtain⟨m,hm,hl⟩:=hl;unfold Nv at hl;split at hl
      .next x _ _ _=>
       have:l=⟨2,n.me,m,Qh,Sp s (I7 n r).b x,[]⟩:=by simpa using hl
       rw[this];exact⟨Dq,Dp,by simp only;omega,De,by simp only[Sp];omega,WP.nil,fun e=>by cases e⟩
      .cases hl
     .cases hl
    .cases hl
theorem Zae(h:QU C i n):QU C i (Zu n)/\(Zu n).Zt=n.Zt/\(Zu n).Zh=n.Zh:=by
 unfold Zu;split
 .split
  .exact⟨{ h with Zi:=fun r hr=>by cases hr },rfl,rfl⟩
  .exact⟨h,rfl,rfl⟩
 .exact⟨h,rfl,rfl⟩
theorem Zaf(hi:i<5)(h:QU C i n):QU C i (YY n).n/\(∀l∈(YY n).ls,QT C l)/\(YY n).n.Zt=n.Zt/\(YY n).n.Zh=n.Zh:=by
 have Dp:0<=(n.me:Int)/\(n.me:Int)<5:=by rw[h.me];omega
 unfold YY;split
 .next r hr=>exact Zd1 hi h (h.Zi r hr)
 .split
  .rename_i q;refine⟨h,fun l hl=>?_,rfl,rfl⟩;unfold Re at hl;simp only[bg]at hl;obtain⟨x,hx,rfl⟩:=hl;have hb:Z6 n.Zy.p:=by
    rcases h.Zy.bal with e|e
    .exact e
    .have:=q.1;omega
   exact⟨Dq,Dp,by simp only;have:=hb.2;omega,De,by simp[Sp],WP.nil,fun _=>h.Zw.2 x hx⟩
  .exact⟨h,(fun x hx=>by cases hx),rfl,rfl⟩
theorem Zag(h:QU C i n):NC (Wa n):=by
 unfold Wa;split
 .exact h.YH
 .exact h.Zy.tP
theorem Zd2(hi:i<5)(hC:(J C)<=100000)(h:QU C i n):QU C i (Sr n).n/\(∀l∈(Sr n).ls,QT C l)/\(Sr n).n.Zt=n.Zt/\(Sr n).n.Zh=n.Zh/\(Sr n).ls.length<=100201/\(Sr n).ts=[]:=by
 obtain⟨s1,s2,s3⟩:=Zae h;obtain⟨d1,d2,d3,d4⟩:=Zaf hi s1;have hq:(Zu n).Zw.length<=(J C):=RW s1.Zw.1 s1.Zw.2;have hls:=BF (Zu n);unfold Sr;split
 .exact⟨d1,d2,by rw[d3,s2],by rw[d4,s3],gX,(On _).2.2.2.2.2⟩
 .have tt:0<=((YY (Zu n)).n.XK+1)%5/\((YY (Zu n)).n.XK+1)%5<5:=gX;have t1:QU C i (UA (YY (Zu n)).n):={ d1 with XK:=tt }
  have Dp:0<=((UA (YY (Zu n)).n).me:Int)/\((UA (YY (Zu n)).n).me:Int)<5:=by rw[t1.me];omega
  refine⟨t1,fun l hl=>?_,by show (YY (Zu n)).n.Zt=_;rw[d3,s2],by show (YY (Zu n)).n.Zh=_;rw[d4,s3],?_,rfl⟩
  .rcases a1.1 hl with hl|hl
   .exact d2 l hl
   .unfold Rg at hl;split at hl
    .rename_i q;have:l=⟨5,(UA (YY (Zu n)).n).me,(UA (YY (Zu n)).n).XK,Wa (UA (YY (Zu n)).n),Sp (UA (YY (Zu n)).n).ZP.length Qh vm,[]⟩:=by simpa using hl
     rw[this];exact⟨Dq,Dp,t1.XK,Zag t1,by simp only[Sp];have:=q.2;omega,WP.nil,fun e=>by cases e⟩
    .cases hl
  .have:(Rg (UA (YY (Zu n)).n)).length<=1:=by unfold Rg;split<;>simp
   simp only[ao];omega
theorem tX(h:QU C i n):QU C i (Xo n):=by
 refine { h with Z8:=(fun p hp=>by cases hp),data:=?_ };show (if Xu n.data n.XW then n.data else []).length<=100000;split
 .exact h.data
 .simp
theorem tY{p:mT}(hi:i<5)(h:QU C i n)(P:Zje p):QU C i (QB n p).n/\(∀l∈(QB n p).ls,QT C l)/\(QB n p).n.Zt=n.Zt/\(QB n p).n.Zh=n.Zh/\(QB n p).ls.length<=1/\(QB n p).ts=[]:=by
 have Dp:0<=(n.me:Int)/\(n.me:Int)<5:=by rw[h.me];omega
 have v0:0<=S5.ZA/\S5.ZA<40:=MZ
 cases p with
 | EU a to b vs=>
  obtain⟨p1,p2,p3,p4⟩:=P;refine⟨{ h with Zy:=p1 },fun l hl=>?_,rfl,rfl,by simp[QB],rfl⟩;have:l=⟨1,n.me,to,b,S5,vs⟩:=by simpa [QB] using hl
  rw[this];exact⟨Dq,Dp,p2,p3,v0,p4,fun e=>by cases e⟩
 | EV a to v=>
  obtain⟨p1,p2,p3⟩:=P;refine⟨{ h with Zy:=p1 },fun l hl=>?_,rfl,rfl,by simp[QB],rfl⟩;have:l=⟨3,n.me,to,Qh,v,[]⟩:=by simpa [QB] using hl
  rw[this];exact⟨Dq,Dp,p2,De,by have:=p3.1;simp only;omega,WP.nil,fun e=>by cases e⟩
 | Zy a vs cur=>
  obtain⟨p1,p2⟩:=P;refine⟨{ h with Zy:=p1,Zi:=fun r hr=>?_ },(fun x hx=>by cases hx),rfl,rfl,by simp[QB],rfl⟩;have hr:(if cur=true then n.Zi.map (fun r=>{ r with Yw:=ins r.Yw n.me vs }) else n.Zi)=X r:=hr;split at hr
  .rw[bf]at hr;obtain⟨r0,h0,rfl⟩:=hr;have R:=h.Zi r0 h0;refine⟨R.b,R.Yw.ins Dp vs,fun x hx=>?_,R.T5⟩;rcases Ho hx with q|q
   .rw[q];exact p2
   .exact R.vs x q
  .exact h.Zi r hr
theorem Zd3(hi:i<5)(hC:(J C)<=100000)(h:QU C i n)(hk:∀l∈n.Zt,QT C l):
  QU C i (step n).n/\(∀l∈(step n).ls,QT C l)/\(∀l∈(step n).n.Zt,QT C l)/\(step n).ls.length+(step n).n.Zt.length<=n.Zt.length+100201/\(step n).ts.length+(step n).n.Zh.length<=n.Zh.length:=by
 unfold step;split
 .cases hp:n.Z8 with
  | some p=>
   obtain⟨f1,f2,f3,f4,f5,f6⟩:=tY hi (tX h) (h.Z8 p hp);refine⟨f1,f2,by simp only;rw[f3];exact hk,?_,?_⟩
   .simp only;rw[f3];show _+n.Zt.length<=_;omega
   .simp only;rw[f4,f6];show 0+n.Zh.length<=_;omega
  | none=>
   obtain⟨d1,d2,d3,d4,d5⟩:=gP hi n.Zt n h hk;simp only;split
   .exact⟨d1,d2,d3,gX,d5⟩
   .obtain⟨e1,e2,e3,e4,e5,e6⟩:=Zd2 hi hC d1;refine⟨e1,fun l hl=>?_,by simp only;rw[e3];exact d3,?_,?_⟩
    .rcases a1.1 hl with hl|hl
     .exact d2 l hl
     .exact e2 l hl
    .simp only[ao];rw[e3];omega
    .simp only;rw[e4,e6,List.append_nil];exact d5
 .exact⟨h,(fun x hx=>by cases hx),hk,Dq,Dq⟩
theorem Zd4{a a':V0}{b:List Nat}(h:JR a b=X a')(ha:FB a):FB a':=by
 unfold JR at h;split at h
 .split at h
  .rename_i q
   cases h
   exact⟨.inl (MC q),ha.JV⟩
  .cases h
 .split at h
  .split at h
   .cases h
   .split at h
    .rename_i q
     cases h
     have hv:=FC q;exact⟨.inl hv.2.1,ha.JV.ins hv⟩
    .cases h
  .cases h
theorem Zah(l:List Nat):∀(f:Nat) (a:V0) (k:Nat),FB a->FB (I8 l f a k).1:=by
 intro f
 induction f with
 | zero=>intro a k h;exact h
 | succ f ih=>
  intro a k h;unfold I8
  cases hs:X4 l a k with
  | none=>exact h
  | some x=>
   refine ih _ _ ?_;unfold X4 at hs;split at hs
   .rw[bf]at hs;obtain⟨y,hy,rfl⟩:=hs;exact Zd4 hy h
   .cases hs
theorem tZ(l:List Nat):FB (Rh l).1:=Zah l _ _ _ FB.zero
theorem Kr{up:Bool}{data:List Nat}{XW:Int}{Zy:V0}(hd:(J data)<=100000)(ho:FB Zy):QU C i (Qw i up data XW Zy):=
 ⟨rfl,by unfold Qw;simp,ho,De,(fun p hp=>by cases hp),(fun r hr=>by cases hr),NE.nil 40,(fun j hj=>by cases hj),⟨by simp[Qw],(fun x hx=>by cases hx)⟩,hd⟩
theorem lj(h:QU C i n)(Zd:Int):QU C i (Ua i n Zd)/\((Ua i n Zd).Zt=[]/\(Ua i n Zd).Zh=[]\/Ua i n Zd=n):=by
 unfold Ua;split
 .split
  .refine⟨Kr ?_ FB.zero,.inl ⟨rfl,rfl⟩⟩;have:=h.data;rw[a6];omega
  .exact⟨Kr Dq FB.zero,.inl ⟨rfl,rfl⟩⟩
 .exact⟨h,.inr rfl⟩
theorem lq(h:QU C i n):QU C i (started i n)/\((started i n).Zt=[]/\(started i n).Zh=[]\/started i n=n):=by
 unfold started;split
 .exact⟨h,.inr rfl⟩
 .refine⟨Kr ?_ ?_,.inl ⟨rfl,rfl⟩⟩
  .unfold dh;have:=h.data;split
   .rw[a6];omega
   .simp
  .split
   .exact tZ _
   .exact FB.zero
theorem Zd5(h:QU C i n):QU C i (lead n)/\(lead n).Zt=n.Zt/\(lead n).Zh=n.Zh:=by
 unfold lead;split
 .exact⟨h,rfl,rfl⟩
 .rename_i q;refine⟨{ h with Z8:=?_,Zi:=fun r hr=>?_ },rfl,rfl⟩
  .intro p hp;have hp:XL n.Z8=X p:=hp
   cases hn:n.Z8 with
   | none=>rw[hn]at hp;cases hp
   | some p0=>
    have P:=h.Z8 p0 hn;rw[hn]at hp
    cases p0 with
    | EU a to b vs=>cases hp;exact P
    | EV a to v=>cases hp;exact P
    | Zy a vs cur=>cases hp;exact P
  .obtain rfl:=Option.some.inj hr;refine⟨⟨?_,?_⟩,NE.nil 5,(fun x hx=>by cases hx),(fun x hx=>by cases hx)⟩
   .have h1:=h.Zy.tP.1;show 0<=(QL n).r;unfold QL;simp only;split<;>omega
   .have:¬65536<(QL n).r:=fun e=>q (.inr e);show (QL n).r<=65536;omega
def Oo(f:Nat->Nat):Nat:=f 0+f 1+f 2+f 3+f 4
theorem ua(f:Nat->Nat)(i a:Nat)(hi:i<5):Oo (fun j=>if j=i then a else f j)+f i=Oo f+a:=by
 unfold Oo
 match i,hi with
 | 0,_=>simp;omega
 | 1,_=>simp;omega
 | 2,_=>simp;omega
 | 3,_=>simp;omega
 | 4,_=>simp;omega
theorem gQ(f:Nat->Nat)(i:Nat)(hi:i<5):f i<=Oo f:=by
 unfold Oo
 match i,hi with
 | 0,_=>omega
 | 1,_=>omega
 | 2,_=>omega
 | 3,_=>omega
 | 4,_=>omega
structure WI(C:List Cm)(k:Nat)(w:Wd):Prop where
 nd:∀i,i<5->QU C i (w.Zm i)
 dL:∀i,i<5->∀l∈(w.Zm i).Zt,QT C l
 lu:∀l∈w.Zo,QT C l
 room:w.Zo.length+Oo (fun i=>(w.Zm i).Zt.length)<=k*100300
 wait:w.ZB.length+Oo (fun i=>(w.Zm i).Zh.length)<=k
 Yj:∀i,0<=w.Yj i/\w.Yj i<=k
theorem NF(w:Wd)(i:Nat)(n:Nd)(g:Nd->Nat)(hi:i<5):Oo (fun j=>g (if j=i then n else w.Zm j))+g (w.Zm i)=Oo (fun j=>g (w.Zm j))+g n:=by
 have:=ua (fun j=>g (w.Zm j)) i (g n) hi;have e:(fun j=>g (if j=i then n else w.Zm j))=(fun j=>if j=i then g n else g (w.Zm j)):=by
  funext j;split<;>rfl
 rw[e];exact this
theorem WI.out{k:Nat}{w:Wd}(h:WI C k w)(hi:i<5){o:Out}(h1:QU C i o.n)(h2:∀l∈o.ls,QT C l)(h3:∀l∈o.n.Zt,QT C l)(h4:(J o.ls)+o.n.Zt.length<=(w.Zm i).Zt.length+100300)(h5:(J o.ts)+o.n.Zh.length<=(w.Zm i).Zh.length+1):WI C (k+1) (w.out i o):=by
 unfold Wd.out;refine⟨fun j hj=>?_,fun j hj l hl=>?_,fun l hl=>?_,?_,?_,fun j=>by have:=h.Yj j;simp only;omega⟩
 .by_cases e:j=i
  .subst e;simpa using h1
  .simp only[if_neg e];exact h.nd j hj
 .by_cases e:j=i
  .subst e;simp only[if_true]at hl;exact h3 l hl
  .simp only[if_neg e]at hl;exact h.dL j hj l hl
 .rcases a1.1 hl with hl|hl
  .exact h.lu l hl
  .exact h2 l hl
 .have:=NF w i o.n (fun n=>n.Zt.length) hi;have hr:=h.room;simp only[ao]at this ⊢;omega
 .have:=NF w i o.n (fun n=>n.Zh.length) hi;have hr:=h.wait;simp only[ao]at this ⊢;omega
theorem Ks(w:Wd)(i:Nat)(n:Nd):w.set i n=w.out i ⟨n,[],[]⟩:=by
 unfold Wd.set Wd.out;simp
theorem WI.more{k:Nat}{w:Wd}(h:WI C k w):WI C (k+1) w:=
 ⟨h.nd,h.dL,h.lu,bh h.room (bp _ (bE k)),bh h.wait (bE k),fun i=>⟨(h.Yj i).1,by have:=(h.Yj i).2;omega⟩⟩
theorem WI.ok{k:Nat}{w:Wd}(h:WI C k w)(hC:(J C)<=100000)(hk:k<=100000):WOk w:=by
 have hr:=h.room;have hw:=h.wait;have Rw:∀i,i<5->(w.Zm i).Zt.length+w.Zo.length<=10030000000:=fun i hi=>by
  have:(w.Zm i).Zt.length<=_:=gQ (fun i=>(w.Zm i).Zt.length) i hi;omega
 have LM:∀i,i<5->(w.Zm i).Zh.length+w.ZB.length<=100000:=fun i hi=>by
  have:(w.Zm i).Zh.length<=_:=gQ (fun i=>(w.Zm i).Zh.length) i hi;omega
 refine⟨fun i hi=>(h.nd i hi).me,fun i hi=>tW hi hC (h.nd i hi) (h.dL i hi) (by have:=LM i hi;omega) (by have:=Rw i hi;omega) (by have:=LM i hi;omega),fun i hi=>?_,fun i hi=>?_,fun i hi=>?_,fun i hi=>?_,fun i hi=>?_,?_,fun i hi=>?_,fun i hi=>?_,fun i hi r hr=>?_,fun l hl=>(h.lu l hl).to,?_⟩
 .have:=RW (h.nd i hi).Zw.1 (h.nd i hi).Zw.2;omega
 .have:=(h.nd i hi).Dd;omega
 .have:=LM i hi;omega
 .have:=Rw i hi;omega
 .have:=(h.nd i hi).data;omega
 .have:=LM 0 gX;omega
 .have:=h.Yj i;omega
 .have h1:=(h.nd i hi).Zy.tP;have h2:=(h.nd i hi).YH;unfold NC at h1 h2;omega
 .have h1:=((h.nd i hi).Zi r hr).b;unfold NC at h1;omega
 .have:=Rw 0 gX;omega
set_option maxHeartbeats 8000000 in
theorem Zd6(T:bD)(h:Hp)(o:Ow)(wb:Nat)(Yr:Nat->Nat)(YW:WA)(w:Wd)(a:Ac)(dv:al)(d:UO o h)(A:JH o h wb Yr YW w)(ok:WOk w)(hk:1<=a.YI/\a.YI<=9)(hi:a.Yf<5)(iv:TD o h dv a.data)(uW:(J a.data)<=140737488355328)(tb:Az o h):
  Zc bc T 40 #[Zr wb,a2 (Su a.YI a.Yf a.at' a.Zd dv).toArray] h fun v' h'=>∃o' XS Zsg,Kp TG o h o' h'/\JH o' h' wb Zsg XS (act w a):=by
 obtain⟨pd,cd,hdv,QQ⟩:=iv.1.fits;have Bd:Sn dv:=by rw[hdv];exact QQ
 subst hdv;refine Zc.Y8 [_,_] Tryz.func40 ?_;unfold Zr Su;obtain⟨h1,YX⟩:=ZD (h.push (aa (Su a.YI a.Yf a.at' a.Zd (Q pd (J a.data) cd)).toArray 41):Hp);have k1:Kp QC o h o h1:=by rw[YX];exact Yc d _
 have x3:ZY o h1 h.size (aa (Su a.YI a.Yf a.at' a.Zd (Q pd (J a.data) cd)).toArray 41):=⟨d _ (aI _),by rw[YX];exact Zb⟩
 have e0:=YX.symm;unfold Su at e0;have A1:=A.Zu k1;have tb1:=tb.Zd k1;have R1:=Xi A1.wd.ZQ.2;have Rn:=R1.Zm;obtain⟨b,off,c,hn,hc5,hb,Pq⟩:=WO A1.wd;rw[hn]at Rn;have Gs:=Za A1.wd.ZQ.2;have q0:hc h1 ⟨h.size,0,Y⟩=X (U O a.YI):=Zg x3.2;have q1:hc h1 ⟨h.size,1,Y⟩=X (U O a.Yf):=Zg x3.2;have q2:hc h1 ⟨h.size,2,Y⟩=X (U O a.at'):=Zg x3.2;have q3:hc h1 ⟨h.size,3,Y⟩=X (U O a.Zd):=Zg x3.2;have q4:hc h1 ⟨h.size,4,Y⟩=X (Q pd (J a.data) cd):=Zg x3.2;have l3:=Za x3.2;have ri:=Pq a.Yf hi;unfold Zr at ri;have fM:(a.Yf:Int)<5:=gX;obtain⟨na,N1⟩:=A1.nd a.Yf hi;have VZ:=Za N1.ZQ.2;have zp:=iv.Zd k1;have Hj:a.YI=1\/a.YI=2\/a.YI=3\/(a.YI=4\/a.YI=5\/a.YI=6)\/a.YI=7\/a.YI=8\/a.YI=9:=gX;rcases Hj with e|e|e|e|e|e|e
 ·-- a command
  have ea:act w a=Mw w a.Yf a.data:=by unfold act;rw[if_pos e]
  rw[ea];rw[e]at q0;have cs:=kW T h1 o wb Yr YW w a.Yf a.data (Q pd (J a.data) cd) k1.Ya A1 hi (ok.me _ hi) zp Bd uW tb1 (by have:=ok.Zw _ hi;omega) (by have:=ok.ZP _ hi;omega) (by have:=ok.Zh _ hi;omega) (by have:=ok.ZB;omega) (ok.Yj _ hi);unfold Zr at cs;simp -implicitDefEqProofs only[go_sem,e0,q0];refine VS.z (h1.size) [11] (.p 0 (.p 1 (.p 2 (.p 3 (.q 4 (.p 5 (.q 6 (.p 7 (.q 8 (.p 9 (.q 10 (.w 11 .nil)))))))))))) mixed po ?_;simp -implicitDefEqProofs only[go_sem,Rn,q1,q4,Gs,l3,hb,fM,ri];refine cs.use ?_;rintro v' g ⟨o',XS,kk,A'⟩;simp -implicitDefEqProofs only[go_sem];exact⟨o',XS,Yr,(Yy k1).trans kk,A'⟩
 ·-- to lead
  have ea:act w a=w.set a.Yf (lead (w.Zm a.Yf)):=by unfold act;rw[if_neg gX,if_pos e]
  rw[ea];rw[e]at q0;have cs:=zY T h1 o wb a.Yf (Yr a.Yf) na (w.Zm a.Yf) k1.Ya N1 (ok.Zse _ hi) (ok.rgn _ hi);unfold Zr at cs;simp -implicitDefEqProofs only[go_sem,e0,q0];refine VS.z (h1.size) [9] (.p 0 (.p 1 (.p 2 (.p 3 (.q 4 (.p 5 (.q 6 (.p 7 (.q 8 (.w 9 .nil)))))))))) mixed po ?_;simp -implicitDefEqProofs only[go_sem,Rn,q1,Gs,l3,hb,fM,ri];refine cs.use ?_;rintro v' g ⟨o',a',kk,N'⟩;simp -implicitDefEqProofs only[go_sem];exact⟨o',YW,Yr,(Yy k1).trans (Yy kk),A1.XK (kk.mono fun t q=>.inr (.inr (.inr q))) N' (A1.wd.Zd kk fun t q e=>by rw[q]at e;cases e)⟩
 ·-- a step
  have ea:act w a=w.out a.Yf (step (w.Zm a.Yf)):=by unfold act;rw[if_neg gX,if_neg gX,if_pos e]
  rw[ea];rw[e]at q0;have cs:=tL T h1 o wb a.Yf (Yr a.Yf) Yr na (w.Zm a.Yf) YW w.Zo w.Yj w.ZB k1.Ya N1 A1.wd tb1 (ok.step _ hi);unfold Zr at cs;simp -implicitDefEqProofs only[go_sem,e0,q0];refine VS.z (h1.size) [9] (.p 0 (.p 1 (.p 2 (.p 3 (.q 4 (.p 5 (.q 6 (.p 7 (.q 8 (.w 9 .nil)))))))))) mixed po ?_;simp -implicitDefEqProofs only[go_sem,Rn,q1,Gs,l3,hb,fM,ri];refine cs.use ?_;rintro v' g ⟨o',a',XS,kk,N',W'⟩;simp -implicitDefEqProofs only[go_sem];exact⟨o',XS,Yr,(Yy k1).trans (Yy kk),A1.XK kk N' W'⟩
 ·-- a letter
  have ea:act w a=pick w a.at' (decide (a.YI≠5)) (decide (a.YI=6)):=by unfold act;rw[if_neg gX,if_neg gX,if_neg gX,if_pos e]
  rw[ea];have cs:=tM T h1 o wb Yr YW w a.at' (decide (a.YI≠5)) (decide (a.YI=6)) k1.Ya A1 ok.to (by have:=ok.room;omega) (fun j hj=>by have:=ok.Zt j hj;omega);unfold Zr at cs;rcases e with e|e|e
  all_goals
   rw[e]at q0 cs ⊢;rw[e]at e0;simp -implicitDefEqProofs only[go_sem,e0,q0,q2];refine cs.use ?_;rintro v' g ⟨o',XS,kk,A'⟩;simp -implicitDefEqProofs only[go_sem];exact⟨o',XS,Yr,(Yy k1).trans kk,A'⟩
 ·-- all ZmY
  have ea:act w a=w.Zo.foldl Ss { w with Zo:=[] }:=by unfold act;rw[if_neg gX,if_neg gX,if_neg gX,if_neg gX,if_pos e]
  rw[ea];rw[e]at q0;have YB:=ok.room;obtain⟨pf,cf,hf,hfc⟩:=TH A1.wd.Zo;have Rf:=R1.Zo;rw[hf]at Rf;obtain⟨g2,w2,W2,k2⟩:=A1.wd.Fz (fl':=[]) (v:=Q Y 0 0) (Kp.refl k1.Ya (fun t=>t=.Zo)) ⟨[],rfl,YP.nil _ _ _ _ _,fun x hx=>by cases hx⟩ (R1.EY (Q Y 0 0) rfl);have A2:JH o g2 wb Yr { YW with Zo:=Q Y 0 0 } { w with Zo:=[] }:=A1.zS k2 (by rintro t rfl;rfl) W2;have L2:Up o .Zo g2 (Q pf w.Zo.length cf) w.Zo:=by rw[<-hf];exact A1.wd.Zo.Zd k2 MI
  have K2:Kp TG o h o g2:=(Yy k1).trans (Yy k2);simp -implicitDefEqProofs only[go_sem,e0,q0,Rf,Gs,w2];refine VS.Z9 (fun F g=>F 0=am (X ⟨wb,0,Y⟩)/\F 118=Q pf w.Zo.length cf/\F 119=U O w.Zo.length/\∃(j:Nat) (o':Ow),j<=w.Zo.length/\F 120=U O j/\Kp TG o h o' g/\JH o' g wb Yr { YW with Zo:=Q Y 0 0 } ((w.Zo.take j).foldl Ss { w with Zo:=[] })/\Up o' .Zo g (Q pf w.Zo.length cf) w.Zo)
   (fun F _=>w.Zo.length-(vi (F 120)).toNat) rfl ⟨rfl,rfl,rfl,0,o,bR _,rfl,K2,A2,L2⟩ ?_
  rintro F3 g3 ⟨f0,f118,f119,j,o3,hj,f120,K3,A3,L3⟩;by_cases ZL:j<w.Zo.length
  .have ZW:(j:Int)<w.Zo.length:=gX;obtain⟨v,b3,ZFg,c3,hv,hvc,hb3,Zd7,iv3⟩:=gL L3 j ZL;simp only[Value.slice.injEq]at hv;obtain⟨rfl,_,rfl⟩:=hv;obtain⟨l,hl⟩:=ZD (w.Zo[j]);rw[<-hl]at Zd7 iv3;have zM:l∈w.Zo:=by rw[hl];exact bo ZL
   obtain⟨pw,cw,rfl⟩:=iv3.ZM;obtain⟨g4,Vw⟩:=ZD (g3.push (aa (Xg l (Q pw (J l.vs) cw)).toArray 170):Hp);have k4:Kp QC o3 g3 o3 g4:=by rw[Vw];exact Yc K3.Ya _
   have x6:ZY o3 g4 g3.size (aa (Xg l (Q pw (J l.vs) cw)).toArray 170):=⟨K3.Ya _ (aI _),by rw[Vw];exact Zb⟩
   have e4:=Vw.symm;have r6:rd g4 ⟨g3.size,0,Y⟩ 14=X (Xg l (Q pw (J l.vs) cw)):=Zs x6.2 rfl;obtain⟨wj,hwj⟩:=ZD ((w.Zo.take j).foldl Ss { w with Zo:=[] });rw[<-hwj]at A3;have Y5:(w.Zo.take (j+1)).foldl Ss { w with Zo:=[] } = Ss wj l:=by
    rw[Yp _ j ZL,<-hl,bV,<-hwj];rfl
   have cc:=Da T g4 o3 wb Yr _ wj l (Q pw (J l.vs) cw) k4.Ya (A3.Zu k4) (iv3.Zd k4) (ok.to l zM) (fun i hi=>by
    have h1:=BO i (w.Zo.take j) { w with Zo:=[] };rw[<-hwj,a6]at h1;have h2:=ok.Zt i hi;have h3:=ok.room;have h4:(({ w with Zo:=[] }:Wd).Zm i).Zt.length=(w.Zm i).Zt.length:=rfl;omega)
   unfold Zr Xg at cc;unfold Xg at e4 r6 Zd7;simp -implicitDefEqProofs only[go_sem,f0,f118,f119,f120,ZW,Zd7,e4,r6];refine cc.use ?_;rintro v' g5 ⟨o5,k5,A5⟩;simp -implicitDefEqProofs only[go_sem,f120];unfold XB;refine⟨⟨f0,f118,f119,j+1,o5,ZL,rfl,(K3.trans (Yy k4)).trans (Yy k5),by rw[Y5];exact A5,(L3.Zd k4 (fun q=>q.elim)).Zd k5 (by rintro⟨_,e⟩;cases e)⟩,?_⟩;simp only[vi,Zk,↓reduceIte,f120];omega
  .have YU:¬(j:Int)<w.Zo.length:=gX;obtain rfl:j=w.Zo.length:=gX;rw[a5 (aI _)]at A3;simp -implicitDefEqProofs only[go_sem,f119,f120,YU];exact⟨o3,_,Yr,K3,A3⟩
 ·-- a Zx8
  have ea:act w a=w.set a.Yf (Ua a.Yf (w.Zm a.Yf) a.Zd):=by unfold act;rw[if_neg gX,if_neg gX,if_neg gX,if_neg gX,if_neg gX,if_pos e]
  rw[ea];rw[e]at q0;obtain⟨n,RC⟩:=ZD (w.Zm a.Yf);have Zd8:=ok.data _ hi;rw[<-RC]at N1 Zd8;have P1:=ZI N1.ZQ.2 N1.pt.store.len;have P1u:=P1.up;simp -implicitDefEqProofs only[go_sem,e0,q0];refine VS.mono (N:=fun F' g'=>Zf h1.size h1 g'/\F' 0=am (X ⟨wb,0,Y⟩)/\F' 3=am (X ⟨h.size,0,Y⟩)/\F' 7=am (X ⟨Yr a.Yf,0,Y⟩)) ?_ ?_ (fun _ _ _ h=>h) (fun _ _ h=>h)
  .refine VS.z (h1.size) [] (.p 0 (.p 1 (.p 2 (.q 3 (.p 4 (.q 5 (.p 6 (.q 7 (.p 8 .nil))))))))) mixed po ?_;simp -implicitDefEqProofs only[go_sem,Rn,q1,Gs,l3,hb,fM,ri]
   try exact Zf.refl _ _
  rintro F2 g2 ⟨b2,f0,f3,f7⟩;have Pm:=ZN k1.Ya b2;have A2:=A1.Zu Pm;have N2:=N1.Zu Pm;have K2:=k1.trans Pm;have y3:=x3.Zd Pm;have P2:=ZI N2.ZQ.2 N2.pt.store.len;have gK:=P2.up;have Qj:=Za N2.ZQ.2;clear P1 P1u
  cases hu:n.up with
  | false=>
   rw[hu]at gK;have e1:Ua a.Yf (w.Zm a.Yf) a.Zd=w.Zm a.Yf:=by unfold Ua;rw[<-RC,if_neg (by rw[hu];simp)]
   rw[e1,BM];simp -implicitDefEqProofs only[go_sem,f7,gK];exact⟨o,YW,Yr,Yy K2,A2⟩
  | true=>
   rw[hu]at gK;obtain⟨pt,ct,mZ⟩:=N2.pt.data.1.ZM;have mZ:na.data=Q pt (J n.data) ct:=mZ;have P2t:=P2.tape;rw[mZ]at P2t;have ND:=N2.pt.data;rw[mZ]at ND;obtain⟨L,Z,E,hLZ⟩:∃L Z E,SV n.data n.XW a.Zd=(L,Z,E):=⟨_,_,_,rfl⟩
   have q3:hc g2 ⟨h.size,3,Y⟩=X (U O a.Zd):=Zg y3.2;have l3:=Za y3.2;have call:∀G,Zf g2.size g2 G->Zc bc T 73 #[a2 #[Q pt (J n.data) ct,U O n.XW],U O a.Zd] G fun v' h'=>Zf G.size G h'/\fI G.size h' v' (L,Z,E):=fun G hG=>by
    rw[<-hLZ];exact qf T G _ n.XW a.Zd n.data (ND.bs.Yb hG) gX
   have wT:∀(G:Hp) (k:Nat) (m:Int) (p:Option Addr) (L c:Nat),G[k]? = X (aa [Q Y 0 0,U O 0].toArray 114)->wr G ⟨k,0,Y⟩ [Q p L c,U O m]=X (G.setIfInBounds k (aa [Q p L c,U O m].toArray 114)):=fun G k m p L c hx=>by
    rw[Z2 hx 0 _];rfl
   rw[dG a.Yf (w.Zm a.Yf) a.Zd L Z E (by rw[<-RC];exact hu) (by rw[<-RC];exact hLZ)];simp -implicitDefEqProofs only[go_sem,f7,gK];refine VS.mono (N:=fun F' g'=>F' 0=am (X ⟨wb,0,Y⟩)/\F' 3=am (X ⟨h.size,0,Y⟩)/\Zf g2.size g2 g'/\∃kt p c,F' 8=am (X ⟨kt,0,Y⟩)/\g'[kt]? = X (aa [Q p (J L) c,U O Z].toArray 114)/\TD o g' (Q p (J L) c) L) ?_ ?_ (fun _ _ _ h=>h) (fun _ _ h=>h)
   .refine VS.z (g2.size) [6,11] (.p 0 (.p 1 (.p 2 (.q 3 (.p 4 (.q 5 (.or 6 (.p 7 (.p 8 (.p 9 (.s 10 (.w 11 (.p 12 .nil)))))) (.s 10 (.w 6 (.p 7 (.p 8 (.p 9 (.w 11 (.p 12 .nil)))))))))))))) mixed po ?_;simp -implicitDefEqProofs only[go_sem,f0,f3,f7,P2t,q3,Qj,l3]
    repeat' (first|with_reducible exact Zf.refl _ _|with_reducible exact Zf.push gX _|with_reducible refine And.intro ?_ ?_)
    all_goals first
     | (refine (call g2 (Zf.refl _ _)).use ?_
        rintro _ g5 ⟨b5,p5,c5,L',Z',E',hz,rfl,bs,uX,mP⟩
        cases hz
        have s5:=b5.size;have kk:=ZN K2.Ya b5;have im:TD o g5 (Q p5 (J L) c5) L:=Hn kk.Ya bs uX fun b hb=>⟨K2.Ya b (mP b hb).1,(mP b hb).2⟩
        simp -implicitDefEqProofs only[go_sem,b5];exact⟨f0,f3,_,_,_,rfl,Zb,im.Zd (Yc kk.Ya _)⟩)
     | (refine (call (g2.push (aa _ 114)) (Zf.push (aI _) _)).use ?_
        rintro _ g5 ⟨b5,p5,c5,L',Z',E',hz,rfl,bs,uX,mP⟩
        cases hz
        have B5:Zf g2.size g2 g5:=(Zf.push (aI _) _).trans (b5.mono Dq);have xA:=b5.get (k:=g2.size) Dq Zb;have Sf:=wT _ _ Z p5 (J L) c5 xA;have zA:=Za xA;have kk:=ZN K2.Ya B5;have im:TD o g5 (Q p5 (J L) c5) L:=Hn kk.Ya bs uX fun b hb=>⟨K2.Ya b (by have:=(mP b hb).1;rw[be]at this;omega),(mP b hb).2⟩
        have ks:=BN kk.Ya im zA (fun b hb=>by have:=(mP b hb).1;rw[be]at this;omega) (aa [Q p5 (J L) c5,U O Z].toArray 114);simp -implicitDefEqProofs only[go_sem,B5,Sf,zA];exact⟨f0,f3,_,_,_,rfl,ZE xA,ks⟩)
   clear f0 f3 f7;rintro F3 g3 ⟨f0,f3,b3,kt,p3,c3,f8,yt,im3⟩;have WV:=ZN K2.Ya b3;have K3:=K2.trans WV;have A3:=A2.Zu WV;have z3:=y3.Zd WV;obtain⟨b,off,c,hn,hc5,hb,Pq⟩:=WO A3.wd;have R3:=Xi A3.wd.ZQ.2;have Rn:=R3.Zm;rw[hn]at Rn;have Gs:=Za A3.wd.ZQ.2;have q1:hc g3 ⟨h.size,1,Y⟩=X (U O a.Yf):=Zg z3.2;have l3:=Za z3.2;have rt:rd g3 ⟨kt,0,Y⟩ 2=X [Q p3 (J L) c3,U O Z]:=Zs yt rfl;have lt:=Za yt;have cb:Zc bc T 67 #[U O a.Yf,a2 #[Q p3 (J L) c3,U O Z],a2 #[U O 0,U O 0,Q Y 0 0]] g3 _:=Hl T g3 o wb a.Yf (Q p3 (J L) c3) L Z (Q Y 0 0) Uj K3.Ya im3 (Im.nil _ _ _ _);refine VS.z (g3.size) [12] (.p 0 (.p 1 (.p 2 (.q 3 (.p 4 (.q 5 (.p 6 (.q 7 (.q 8 (.p 9 (.s 10 (.p 11 (.w 12 .nil))))))))))))) mixed po ?_;simp -implicitDefEqProofs only[go_sem,f0,f3,f8,Rn,q1,rt,Gs,l3,lt,hb,fM];refine cb.use ?_;rintro _ g4 ⟨nb,o4,a4,rfl,b4,k4,N4⟩;have W4:=A3.wd.Zd k4 (by rintro t (rfl|rfl)<;>simp[Tg.of]);obtain⟨b',Zsj,c',g5,Pz,w5,k5,W5⟩:=FA k4.Ya W4 a.Yf nb hi;rw[hn]at Pz;simp only[Value.slice.injEq,Option.some.injEq,Addr.mk.injEq,true_and,and_true]at Pz;obtain⟨⟨rfl,rfl⟩,rfl⟩:=Pz;have hb4:b<g4.size:=a8 hb b4.size;have N5:=N4.Zd k5 (by rintro t rfl e;cases e);have K5:Kp TG o h o4 g5:=((Yy K3).trans (Yy k4)).trans (Yy k5);have z5:=(z3.Zd k4).Zd k5;unfold Zr at w5 ⊢;simp -implicitDefEqProofs only[go_sem,b4,w5,hb4,fM];have R5:=Xi W5.ZQ.2;have R5n:=R5.Zm;rw[hn]at R5n;obtain⟨b'',Zyb,c'',Zd9,_,hb5,Zsk⟩:=WO W5;rw[hn]at Zd9;simp only[Value.slice.injEq,Option.some.injEq,Addr.mk.injEq,true_and,and_true]at Zd9;obtain⟨⟨rfl,rfl⟩,rfl⟩:=Zd9;have ri5:=Zsk a.Yf hi;simp only[↓reduceIte]at ri5;unfold Zr at ri5;have dF:=Za W5.ZQ.2;have m7:hc g5 ⟨h.size,1,Y⟩=X (U O a.Yf):=Zg z5.2;have l35:=Za z5.2;have Om:=Za N5.ZQ.2;obtain⟨g6,w6,N6,k6⟩:=Z7.write (n:={ Qw a.Yf true L Z Uj with up:=false }) (a:=a4) { N5.pt with } K5.Ya N5.ZQ ((Y7 N5.ZQ.2 N5.pt.store.len).up false);refine VS.z (g5.size) [10] (.p 0 (.p 1 (.p 2 (.q 3 (.p 4 (.q 5 (.p 6 (.q 7 (.p 8 (.p 9 (.w 10 .nil))))))))))) mixed po ?_;simp -implicitDefEqProofs only[go_sem,f0,f3,R5n,m7,dF,l35,hb5,fM,ri5,Om,w6];have kk:Kp (fun t=>t=.Zm\/t.of=X a.Yf) o g3 o4 g6:=((k4.mono fun t q=>by rcases q with rfl|rfl<;>exact .inr rfl).trans (k5.mono fun t q=>.inl q)).trans (k6.mono fun t q=>.inr (by rw[q];rfl));exact⟨o4,YW,_,K5.trans (Yy k6),A3.fresh kk N6 (W5.Zd k6 (by rintro t rfl;simp[Tg.of]))⟩
 ·-- a start
  have ea:act w a=w.set a.Yf (started a.Yf (w.Zm a.Yf)):=by unfold act;rw[if_neg gX,if_neg gX,if_neg gX,if_neg gX,if_neg gX,if_neg gX]
  rw[ea];rw[e]at q0;obtain⟨n,RC⟩:=ZD (w.Zm a.Yf);have Zd8:=ok.data _ hi;rw[<-RC]at N1 Zd8;simp -implicitDefEqProofs only[go_sem,e0,q0];refine VS.mono (N:=fun F' g'=>Zf h1.size h1 g'/\F' 0=am (X ⟨wb,0,Y⟩)/\F' 3=am (X ⟨h.size,0,Y⟩)/\F' 10=am (X ⟨Yr a.Yf,0,Y⟩)) ?_ ?_ (fun _ _ _ h=>h) (fun _ _ h=>h)
  .refine VS.z (h1.size) [] (.p 0 (.p 1 (.p 2 (.q 3 (.p 4 (.q 5 (.p 6 (.q 7 (.p 8 .nil))))))))) mixed po ?_;simp -implicitDefEqProofs only[go_sem,Rn,q1,Gs,l3,hb,fM,ri]
   try exact Zf.refl _ _
  rintro F2 g2 ⟨b2,f0,f3,f10⟩;have Pm:=ZN k1.Ya b2;have A2:=A1.Zu Pm;have N2:=N1.Zu Pm;have K2:=k1.trans Pm;have aV:=tb1.Zd Pm;have y3:=x3.Zd Pm;have P2:=ZI N2.ZQ.2 N2.pt.store.len;have gK:=P2.up;have Qj:=Za N2.ZQ.2
  cases hu:n.up with
  | true=>
   rw[hu]at gK;have e1:started a.Yf (w.Zm a.Yf)=w.Zm a.Yf:=by unfold started;rw[<-RC,if_pos hu]
   rw[e1,BM];simp -implicitDefEqProofs only[go_sem,f10,gK];exact⟨o,YW,Yr,Yy K2,A2⟩
  | false=>
   rw[hu]at gK;obtain⟨pt,ct,mZ,hct⟩:=N2.pt.data.1.fits;have mZ:na.data=Q pt (J n.data) ct:=mZ;have P2t:=P2.tape;rw[mZ]at P2t;have ND:=N2.pt.data;rw[mZ]at ND;obtain⟨D,hD⟩:=ZD (dh n.data n.XW);obtain⟨Z,hZ⟩:=ZD (ze n.data n.XW);obtain⟨Va,Zjh⟩:=ZD (if Xu D Z then (Rh D).1 else Uj);have es:started a.Yf (w.Zm a.Yf)=Qw a.Yf true D Z Va:=by unfold started;rw[<-RC,if_neg (by rw[hu];simp),Zjh,hD,hZ]
   rw[es];have hDl:(J D)<=1000000:=by
    rw[hD];unfold dh;split
    .rw[a6];omega
    .simp
   simp -implicitDefEqProofs only[go_sem,f10,gK,P2t];refine (j9 T g2 _ n.XW n.data ND.bs hct gX aV.tk).use ?_;rintro v3 g3 ⟨R3,b3⟩;obtain⟨p3,c3,E3,rfl,o3⟩:∃p c E,v3=.tuple [a2 [Q p (J D) c,U O Z].toArray,U O E].toArray/\Yd g2.size 5 g3 (Q p (J D) c) D:=by
    obtain⟨r,k,E,w',rfl,ob,hk,hr⟩:=R3;have h1:(if E=0 then n.data.take k else [])=D:=by
     rw[hD];unfold dh;split at hr
     .rename_i q;rw[if_pos hr.1,if_pos q,Db hr.2]
     .rename_i q;rw[if_neg (show ¬E=0 by omega),if_neg q]
    have h2:(if E=0 then (if (k:Int)<n.XW then (k:Int) else n.XW) else 0)=Z:=by
     rw[hZ];unfold ze;split at hr
     .rename_i q;rw[if_pos hr.1,if_pos q,Db hr.2]
     .rename_i q;rw[if_neg (show ¬E=0 by omega),if_neg q]
    rw[h1]at ob;rw[h2];obtain⟨p,c,rfl,_⟩:=ob.open;exact⟨p,c,E,rfl,ob⟩
   have WV:=ZN K2.Ya b3;obtain⟨g4,Vw⟩:=ZD (g3.push (aa [Q p3 (J D) c3,U O Z].toArray 114):Hp);have k4:Kp QC o g2 o g4:=by rw[Vw];exact WV.push _
   have x11:ZY o g4 g3.size (aa [Q p3 (J D) c3,U O Z].toArray 114):=⟨WV.Ya _ (aI _),by rw[Vw];exact Zb⟩
   have e4:=Vw.symm;have iD4:TD o g4 (Q p3 (J D) c3) D:=by rw[Vw];exact TD.Zd ⟨Im.Ub o3.Zy (fun b hb=>K2.Ya b hb),o3.byte⟩ (Yc WV.Ya _)
   have r11:rd g4 ⟨g3.size,0,Y⟩ 2=X [Q p3 (J D) c3,U O Z]:=Zs x11.2 rfl;have tb4:=aV.Zd k4;simp -implicitDefEqProofs only[go_sem,e4,r11];refine (IW T g4 _ Z D iD4.bs gX tb4.tk).use ?_;rintro v5 g5 ⟨R5,b5⟩;obtain⟨p5,c5,E5,K5',rfl,o5⟩:∃p c E K,v5=.tuple [a2 [U O Va.p.r,U O Va.p.n,Q p (J Va.l) c].toArray,U O K,U O E].toArray/\WU o g5 (Q p (J Va.l) c) Va.l:=by
    obtain⟨r,k,E,w',rfl,ob,hk,_,hr⟩:=R5;have h1:r=Va:=by
     rw[Zjh];split at hr
     .rw[if_pos aab,Db hr.2]
     .rw[if_neg aab];exact hr.2.1
    rw[h1]at ob ⊢;have im:WU o g5 w' Va.l:=Im.Ub ob.Zy (fun b hb=>k4.Ya b hb);obtain⟨p,c,rfl⟩:=im.ZM;exact⟨p,c,E,_,rfl,im⟩
   have Fu:=ZN k4.Ya b5;obtain⟨g6,RU⟩:=ZD (g5.push (aa [U O Va.p.r,U O Va.p.n,Q p5 (J Va.l) c5].toArray 119):Hp);have k6:Kp QC o g4 o g6:=by rw[RU];exact Fu.push _
   have x13:ZY o g6 g5.size (aa [U O Va.p.r,U O Va.p.n,Q p5 (J Va.l) c5].toArray 119):=⟨Fu.Ya _ (aI _),by rw[RU];exact Zb⟩
   have e6:=RU.symm;have K6:Kp QC o h o g6:=(K2.trans k4).trans k6;have iD6:=iD4.Zd k6;have iV6:WU o g6 (Q p5 (J Va.l) c5) Va.l:=by rw[RU];exact o5.Zd (Yc Fu.Ya _)
   have A6:=(A2.Zu k4).Zu k6;have z3:=(y3.Zd k4).Zd k6;have z11:=x11.Zd k6;clear hn hc5 hb Pq Rn Gs q1 l3 ri;obtain⟨b,off,c,hn,hc5,hb,Pq⟩:=WO A6.wd;have R6:=Xi A6.wd.ZQ.2;have Rn:=R6.Zm;rw[hn]at Rn;have Gs:=Za A6.wd.ZQ.2;have q1:hc g6 ⟨h.size,1,Y⟩=X (U O a.Yf):=Zg z3.2;have l3:=Za z3.2;have rt:rd g6 ⟨g3.size,0,Y⟩ 2=X [Q p3 (J D) c3,U O Z]:=Zs z11.2 rfl;have lt:=Za z11.2;have ra:rd g6 ⟨g5.size,0,Y⟩ 3=X [U O Va.p.r,U O Va.p.n,Q p5 (J Va.l) c5]:=Zs x13.2 rfl;have la:=Za x13.2;have cb:=Hl T g6 o wb a.Yf (Q p3 (J D) c3) D Z (Q p5 (J Va.l) c5) Va K6.Ya iD6 iV6;simp -implicitDefEqProofs only[go_sem,e6];refine VS.z (g6.size) [12] (.p 0 (.p 1 (.p 2 (.q 3 (.p 4 (.q 5 (.p 6 (.q 7 (.q 8 (.q 9 (.s 10 (.p 11 (.w 12 .nil))))))))))))) mixed po ?_;simp -implicitDefEqProofs only[go_sem,f0,f3,Rn,q1,rt,ra,Gs,l3,lt,la,hb,fM];refine cb.use ?_;rintro _ g7 ⟨nb,o7,a7,rfl,b7,k7,N7⟩;have W7:=A6.wd.Zd k7 (by rintro t (rfl|rfl)<;>simp[Tg.of]);obtain⟨b',Zsj,c',g8,Pz,w8,k8,W8⟩:=FA k7.Ya W7 a.Yf nb hi;rw[hn]at Pz;simp only[Value.slice.injEq,Option.some.injEq,Addr.mk.injEq,true_and,and_true]at Pz;obtain⟨⟨rfl,rfl⟩,rfl⟩:=Pz;have hb7:b<g7.size:=a8 hb b7.size;have N8:=N7.Zd k8 (by rintro t rfl e;cases e);have K8:Kp TG o h o7 g8:=((Yy K6).trans (Yy k7)).trans (Yy k8);unfold Zr at w8 ⊢;simp -implicitDefEqProofs only[go_sem,b7,w8,hb7,fM];have kk:Kp (fun t=>t=.Zm\/t.of=X a.Yf) o g6 o7 g8:=(k7.mono fun t q=>by rcases q with rfl|rfl<;>exact .inr rfl).trans (k8.mono fun t q=>.inl q);exact⟨o7,YW,_,K8,A6.fresh kk N8 W8⟩
def Hq(Yr:Nat->Nat)(j:Nat):List al:=(List.range j).map fun i=>Zr (Yr i)
theorem dM(Yr:Nat->Nat)(j:Nat):Hq Yr (j+1)=Hq Yr j++[Zr (Yr j)]:=by
 unfold Hq;rw[cg,ch];rfl
theorem dN(Yr:Nat->Nat)(j nb:Nat):Hq (fun i=>if i=j then nb else Yr i) j=Hq Yr j:=by
 unfold Hq;apply bT;intro i hi;rw[bA]at hi;simp only;rw[if_neg gX]
set_option maxHeartbeats 4000000 in
theorem ub(T:bD)(h:Hp)(o:Ow)(d:UO o h):
  Zc bc T 39 #[] h fun v' h'=>∃wb Yr o' YW,v'=Zr wb/\Kp TG o h o' h'/\JH o' h' wb Yr YW Ri:=by
 refine Zc.Y8 [] Tryz.func39 ?_;obtain⟨wb,Zea⟩:=ZD (h.size);obtain⟨g1,WB⟩:∃g1:Hp,g1=h.push (aa (Xv (fun _=>0) ⟨Q Y 0 0,Q Y 0 0,Q Y 0 0⟩).toArray 111):=⟨_,rfl⟩
 have e1:=WB.symm;unfold Xv at e1;simp only at e1;have k1:Kp TG o h (XY o wb .world) g1:=by rw[WB,Zea];exact ((Kp.refl d TG).push _).SK (aI _) Dq trivial
 have B1:Uq (XY o wb .world) .world g1 wb (aa (Xv (fun _=>0) ⟨Q Y 0 0,Q Y 0 0,Q Y 0 0⟩).toArray 111):=⟨Xj,by rw[WB,Zea];exact Zb⟩
 simp -implicitDefEqProofs only[go_sem,e1];rw[<-Zea];refine VS.Z9 (fun F g=>F 1=am (X ⟨wb,0,Y⟩)/\∃(j:Nat) (o':Ow) (Yr:Nat->Nat) (v:al),j<=5/\F 5=U O j/\Kp TG o h o' g/\Uq o' .world g wb (aa (Xv (fun _=>0) ⟨v,Q Y 0 0,Q Y 0 0⟩).toArray 111)/\YP o' .Zm 112 1 g v j (Hq Yr j)/\∀i,i<j->∃a,ZV o' g wb i (Yr i) a (Qw i true [] 0 Uj))
  (fun F _=>5-(vi (F 5)).toNat) rfl ⟨rfl,0,_,fun _=>0,Q Y 0 0,gX,rfl,k1,B1,YP.nil _ _ _ _ _,fun i hi=>by omega⟩ ?_
 clear B1 k1 e1 WB;rintro F2 g2 ⟨f1,j,o2,Yr,v,hj,f5,K2,B2,O2,N2⟩;by_cases ZL:j<5
 .have ZW:(j:Int)<5:=gX;obtain⟨pv,cv,rfl,_⟩:=O2.ZM;have R2:=Xi B2.2;have Rn:=R2.Zm;simp only at Rn;have Gs:=Za B2.2;have cb:Zc bc T 67 #[U O j,a2 #[Q Y 0 0,U O 0],a2 #[U O 0,U O 0,Q Y 0 0]] g2 _:=Hl T g2 o2 wb j (Q Y 0 0) [] 0 (Q Y 0 0) Uj K2.Ya ⟨Im.nil _ _ _ _,fun x hx=>by cases hx⟩ (Im.nil _ _ _ _);simp -implicitDefEqProofs only[go_sem,f1,f5,ZW];refine VS.z (g2.size) [10,13] (.p 0 (.p 1 (.p 2 (.p 3 (.q 4 (.p 5 (.p 6 (.p 7 (.s 8 (.s 9 (.w 10 (.p 11 (.p 12 (.w 13 .nil)))))))))))))) mixed po ?_;simp -implicitDefEqProofs only[go_sem,f1,f5,Rn,Gs];refine cb.use ?_;rintro _ g3 ⟨nb,o3,a3,rfl,b3,k3,N3⟩;unfold Zr;simp -implicitDefEqProofs only[go_sem,b3];obtain⟨g4,Vw⟩:=ZD (g3.push (aa [Zr nb].toArray 112):Hp);have e4:=Vw.symm;unfold Zr at e4;rw[e4];have k4:Kp QC o3 g3 o3 g4:=by rw[Vw];exact Yc k3.Ya _
  have B4:=(B2.Zd k3 (by rintro (e|e)<;>cases e)).Zd k4 (fun q=>q);have O4:=(O2.Zd k3 (by rintro (e|e)<;>cases e)).Zd k4 (fun q=>q);have N4:=N3.Zu k4;have M4:∀i,i<j->∃a,ZV o3 g4 wb i (Yr i) a (Qw i true [] 0 Uj):=fun i hi=>by
   obtain⟨a,N⟩:=N2 i hi;refine⟨a,(N.Zd k3 ?_).Zu k4⟩;rintro t (rfl|rfl) e
   .have:=Option.some.inj e;omega
   .have:=Option.some.inj e;omega
  have x4:g4[g3.size]? = X (aa [Zr nb].toArray 112):=by rw[Vw];exact Zb
  have src:Sl 1 g4 (Q (X ⟨g3.size,0,Y⟩) 1 1) 1 [Zr nb]:=⟨_,1,rfl,rfl,fun _=>⟨g3.size,0,rfl,fun i hi=>by
   rw[Zg x4,YE,b0];exact bH hi⟩⟩
  refine JX (E:=112) (n:=1) (bytes:=8) (k:=1) ZcC Tryz.underlying108 ZgJ ZgL rfl ZgK O4 k4.Ya src rfl gX gX ?_;intro v' o5 g5 O5 k5 _;have k5:Kp (fun u=>u=.Zm) o3 g4 o5 g5:=k5;obtain⟨p5,c5,rfl,_⟩:=O5.ZM;have B5:=B4.Zd k5 MI;have w5:=(Xi B5.2).ZdG (Q p5 (j+1) c5) rfl;have dF:=Za B5.2;obtain⟨g6,RU⟩:∃g6,g6=g5.setIfInBounds wb (aa (Xv (fun _=>0) ⟨Q p5 (j+1) c5,Q Y 0 0,Q Y 0 0⟩).toArray 111):=⟨_,rfl⟩
  simp only at w5;rw[<-RU]at w5;have k6:Kp (fun t=>t=.world) o5 g5 o5 g6:=by rw[RU];exact (Kp.refl k5.Ya (fun t=>t=.world)).set B5.1 rfl _
  have B6:Uq o5 .world g6 wb (aa (Xv (fun _=>0) ⟨Q p5 (j+1) c5,Q Y 0 0,Q Y 0 0⟩).toArray 111):=⟨B5.1,by rw[RU];exact ZE B5.2⟩
  have K6:Kp TG o h o5 g6:=(((K2.trans (Yy k3)).trans (Yy k4)).trans (Yy k5)).trans (Yy k6);simp -implicitDefEqProofs only[go_sem,w5,dF,f5];unfold XB;refine⟨⟨f1,j+1,o5,(fun i=>if i=j then nb else Yr i),Q p5 (j+1) c5,ZL,rfl,K6,B6,?_,fun i hi=>?_⟩,?_⟩
  .rw[dM,dN];simp only[↓reduceIte];exact O5.Zd k6 MI
  .by_cases e:i=j
   .subst e;refine⟨a3,?_⟩;simp only[↓reduceIte];exact (N4.Zd k5 (by rintro t rfl e;cases e)).Zd k6 (by rintro t rfl e;cases e)
   .obtain⟨a,N⟩:=M4 i gX;refine⟨a,?_⟩;simp only[if_neg e];exact (N.Zd k5 (by rintro t rfl e;cases e)).Zd k6 (by rintro t rfl e;cases e)
  .simp only[vi,Zk,↓reduceIte,f5];omega
 .have YU:¬(j:Int)<5:=gX;obtain rfl:j=5:=gX;simp -implicitDefEqProofs only[go_sem,f1,f5,YU];exact⟨wb,Yr,o2,_,rfl,K2,⟨B2,O2,⟨[],rfl,YP.nil _ _ _ _ _,fun x hx=>by cases hx⟩,YP.nil _ _ _ _ _⟩,fun i hi=>N2 i hi⟩
theorem dO(T:bD)(h:Hp)(u:al)(l:List Cm)(s:Ts QA.C 5 h u l)(hl:(J l)<=2199023255552):
  Zc bc T 41 #[u] h fun v' h'=>JD h.size 43 QA.C 5 h' v' l/\Zf h.size h h':=by
 obtain⟨p,c,rfl,UX⟩:=JG s;refine Zc.Y8 [_] Tryz.func41 ?_
 cases p with
 | none=>
  have:l=[]:=by
   cases l with
   | nil=>rfl
   | cons x l=>obtain⟨b,o,hp,_⟩:=UX Dq;cases hp
  subst this;simp -implicitDefEqProofs only[go_sem];exact JD.nil _ _ _ _ _
 | some a=>
  simp -implicitDefEqProofs only[go_sem];refine RD (E:=43) (B:=h.size) (n:=5) (bytes:=40) Ce Tryz.underlying35 ZcA pI rfl ZgI (fun _=>rfl) (JD.HX _ _ QA.C 5 _ _) Dq (s.Yb (Zf.push (aI _) _)) L6 gX ?_;intro v' h' ho hb _;simp -implicitDefEqProofs only[go_sem];exact⟨by simpa using ho,(Zf.push (aI _) _).trans hb⟩
structure Raw where
 k:Int
 n:Int
 a:Int
 b:Int
 data:List Nat
def Raw.ac(x:Raw):Ac:=⟨x.k,x.n.toNat,x.a.toNat,x.b,x.data⟩
def Raw.err(x:Raw):Int:=XV x.k x.n x.a x.b (J x.data)
def QE(x:Raw × al):List al:=Su x.1.k x.1.n x.1.a x.1.b x.2
def Qk:List Raw->Int
 | []=>0
 | x :: l=>if x.err≠0 then x.err else Qk l
def VV(l:List Raw):Int:=if 100000<(J l) then 1 else Qk l
theorem uc(x:Raw × al):(QE x).length=5:=rfl
theorem Hr{l:List Raw}{j:Nat}(hj:j<(J l))(h0:∀x∈l.take j,x.err=0)(h1:l[j].err≠0):Qk l=l[j].err:=by
 induction l generalizing j with
 | nil=>simp at hj
 | cons y l ih=>
  cases j with
  | zero=>unfold Qk;rw[if_pos (by simpa using h1)];rfl
  | succ j=>
   unfold Qk;rw[if_neg (by simpa using h0 y Dq)];exact ih (by simpa using hj) (fun x hx=>h0 x (by simp[hx])) (by simpa using h1)
theorem Ro{l:List Raw}(h0:∀x∈l,x.err=0):Qk l=0:=by
 induction l with
 | nil=>rfl
 | cons y l ih=>unfold Qk;rw[if_neg (by simpa using h0 y Dq)];exact ih fun x hx=>h0 x (by simp[hx])
theorem dP{x:Raw}(h:x.err=0):(1<=x.k/\x.k<=9)/\(0<=x.n/\x.n<=4)/\(0<=x.a/\x.a<=1048576)/\(0<=x.b/\x.b<=100000)/\(J x.data)<=2000:=by
 unfold Raw.err XV at h;by_cases c1:1<=x.k/\x.k<=9
 case neg=>rw[if_pos c1]at h;cases h
 rw[if_neg (by simpa using c1)]at h;by_cases c2:(Yl x.k/\¬(0<=x.n/\x.n<=4))\/(Xe x.k/\¬(0<=x.a/\x.a<=1048576))\/(x.k=8/\¬(0<=x.b/\x.b<=100000))
 .rw[if_pos c2]at h;cases h
 rw[if_neg c2]at h;by_cases c3:2000<(J x.data)
 .rw[if_pos c3]at h;cases h
 rw[if_neg c3]at h;by_cases c4:(¬Yl x.k/\x.n≠0)\/(¬Xe x.k/\x.a≠0)\/(x.k≠8/\x.b≠0)\/(x.k≠1/\0<(J x.data))
 .rw[if_pos c4]at h;cases h
 refine⟨c1,?_,?_,?_,gX⟩
 .by_cases q:Yl x.k
  .exact ay fun e=>c2 (.inl ⟨q,e⟩)
  .have:x.n=0:=ay fun e=>c4 (.inl ⟨q,e⟩);omega
 .by_cases q:Xe x.k
  .exact ay fun e=>c2 (.inr (.inl ⟨q,e⟩))
  .have:x.a=0:=ay fun e=>c4 (.inr (.inl ⟨q,e⟩));omega
 .by_cases q:x.k=8
  .exact ay fun e=>c2 (.inr (.inr ⟨q,e⟩))
  .have:x.b=0:=ay fun e=>c4 (.inr (.inr (.inl ⟨q,e⟩)));omega
def YQ(xs:List (Raw × al)):List Raw:=xs.map (·.1)
def Ps:Ow:=fun _=>Y
theorem Rp(h:Hp):UO Ps h:=fun _ _=>rfl
theorem MD{S:Tg->Prop}{h':Hp}{o':Ow}(k:Kp S Ps h o' h'):Zf h.size h h':=
 ⟨k.size,fun b hb=>(k.Zd b hb fun t ht=>by cases ht).1⟩
def nc:List al:=[U O 0,aw false,aw false,aw false,aw false,aw false,Q Y 0 0,U O 0,U O 0,U O 0,U O 0,U O 0,Q Y 0 0]
def lw(w:Wd)(lv tv:al):List al:=[U O w.Zo.length,aw (w.Zm 0).up,aw (w.Zm 1).up,aw (w.Zm 2).up,aw (w.Zm 3).up,aw (w.Zm 4).up,lv,U O (w.Yj 0),U O (w.Yj 1),U O (w.Yj 2),U O (w.Yj 3),U O (w.Yj 4),tv]
structure lD(h:Hp)(R:List al)(w:Wd)(lv tv:al)(vs:List al):Prop where
 cells:R=lw w lv tv
 Zji:Ts (fun v=>[v]) 1 h lv vs
 each:D8 (fun v l=>Ts QA.C 5 h v l) vs [(w.Zm 0).ZP,(w.Zm 1).ZP,(w.Zm 2).ZP,(w.Zm 3).ZP,(w.Zm 4).ZP]
 ZB:Ts Ha 5 h tv w.ZB
 ZFp:D8 (fun v (l:List Cm)=>∃p c,v=Q p (J l) c/\(J l)<=c) vs [(w.Zm 0).ZP,(w.Zm 1).ZP,(w.Zm 2).ZP,(w.Zm 3).ZP,(w.Zm 4).ZP]
def U8(B:Nat)(h:Hp)(R:List al)(w:Wd)(lv tv:al)(vs:List al):Prop:=∀G:Hp,(∀b,B<=b->b<h.size->G[b]? = h[b]?)->lD G R w lv tv vs
theorem U8.at{B:Nat}{R:List al}{w:Wd}{lv tv:al}{vs:List al}(s:U8 B h R w lv tv vs):lD h R w lv tv vs:=s h fun _ _ _=>rfl
theorem U8.Yb{B:Nat}{h':Hp}{R:List al}{w:Wd}{lv tv:al}{vs:List al}(s:U8 B h R w lv tv vs)(b:Zf h.size h h'):U8 B h' R w lv tv vs:=
 fun G hG=>s G fun k h1 h2=>by rw[hG k h1 (a8 h2 b.size)];exact b.block k h2
theorem U8.set{B:Nat}{R:List al}{w:Wd}{lv tv:al}{vs:List al}(s:U8 B h R w lv tv vs){k:Nat}(hk:k<B)(x:Obj):U8 B (h.setIfInBounds k x) R w lv tv vs:=
 fun G hG=>s G fun b h1 h2=>by rw[hG b h1 (by simpa using h2),bw,if_neg gX]
def FD(B:Nat)(h':Hp)(v':al)(l:List Raw):Prop:=
 if VV l=0 then ∃R lv tv vs,v'=.tuple #[a2 R.toArray,U O 0]/\U8 B h' R (Mx (l.map Raw.ac)) lv tv vs
 else v'=.tuple #[a2 nc.toArray,U O (VV l)]
theorem RY{v:al}{l:List (Raw × al)}(s:Ts QE 5 h v l):∃p c,v=Q p (J l) c/\(l≠[]->∃b o,p=X ⟨b,o,Y⟩/\b<h.size/\∀i (hi:i<(J l)),rd h ⟨b,o+i*5,Y⟩ 5=X (QE l[i])):=by
 obtain⟨p,c,hv,hh⟩:=s.open uc MZ;refine⟨p,c,hv,fun Ys=>?_⟩;obtain⟨b,o,h1,h2,h3⟩:=hh Ys;exact⟨b,o,h1,h2,fun i hi=>(h3 i hi).rd (by simp[QE,Su]) rfl⟩
def BS(w:Wd)(j:Nat)(lv tv:al):List al:=[U O w.Zo.length,aw (if 0<j then (w.Zm 0).up else false),aw (if 1<j then (w.Zm 1).up else false),aw (if 2<j then (w.Zm 2).up else false),aw (if 3<j then (w.Zm 3).up else false),aw (if 4<j then (w.Zm 4).up else false),lv,U O (w.Yj 0),U O (w.Yj 1),U O (w.Yj 2),U O (w.Yj 3),U O (w.Yj 4),tv]
theorem gS(w:Wd)(j:Nat)(lv tv:al):(BS w j lv tv).length=13:=rfl
theorem Zeb(w:Wd)(j:Nat)(lv tv:al)(hj:j<5):(BS w j lv tv).set (1+j) (aw (w.Zm j).up)=BS w (j+1) lv tv:=by
 match j,hj with
 | 0,_=>rfl
 | 1,_=>rfl
 | 2,_=>rfl
 | 3,_=>rfl
 | 4,_=>rfl
theorem Zai(w:Wd)(j:Nat)(lv lv' tv:al):(BS w j lv tv).set 6 lv'=BS w j lv' tv:=rfl
def ME(w:Wd)(j:Nat):List (List Cm):=(List.range j).map fun i=>(w.Zm i).ZP
theorem BT(w:Wd)(j:Nat):ME w (j+1)=ME w j++[(w.Zm j).ZP]:=by
 unfold ME;rw[cg,ch];rfl
def dQ(t:Tg):Prop:=t=.ZP 100\/t=.ZP 101
theorem NH{α β:Type}{R R':α->β->Prop}{l:List α}{k:List β}(s:D8 R l k)(h:∀x y,R x y->R' x y):D8 R' l k:=by
 induction s with
 | nil=>exact .nil
 | cons a _ ih=>exact .cons (h _ _ a) ih
theorem lF(l:List al):ZK (fun v=>[v]) l=l:=by
 induction l with
 | nil=>rfl
 | cons x l ih=>
  have:ZK (fun v=>[v]) (x :: l)=[x]++ZK (fun v=>[v]) l:=by simp[ZK]
  rw[this,ih];rfl
theorem ud{o:Ow}{t:Tg}{E:TypeId}{n m b:Nat}{v:al}{cs:List al}(s:YP o t E n h v m cs)(hb:ZJ v=X b):o b=X t:=by
 rcases s with⟨⟨q,rfl⟩,_,_⟩|⟨b',j,cap,pre,Zx,h1,rfl,h3,h4,h5,h6,h7⟩
 .cases q<;>simp[ZJ]at hb
 .unfold ZJ at hb;simp only at hb;split at hb
  .cases hb
  .have:=Option.some.inj hb;rw[<-this];exact h1
theorem gT{o:Ow}{t:Tg}{E:TypeId}{n m:Nat}{G:Hp}{v:al}{cs:List al}(s:YP o t E n h v m cs)(hG:∀b,o b=X t->b<h.size->G[b]? = h[b]?):YP o t E n G v m cs:=by
 rcases s with s|⟨b',j,cap,pre,Zx,h1,rfl,h3,h4,h5,h6,h7⟩
 .exact .inl s
 .exact .inr ⟨b',j,cap,pre,Zx,h1,rfl,by rw[hG b' h1 (Za h3)];exact h3,h4,h5,h6,h7⟩
theorem Zjj{o:Ow}{n m:Nat}{G:Hp}{v:al}{cs:List al}(s:Im o n h v m cs)(hG:∀b,ZJ v=X b->b<h.size->G[b]? = h[b]?):Sl n G v m cs:=by
 obtain⟨⟨p,c,rfl,hl,uX⟩,⟨p',c',he,hm⟩,hf⟩:=s;simp only[Value.slice.injEq,true_and]at he;obtain⟨rfl,rfl⟩:=he;refine⟨p,c,rfl,hl,fun Ys=>?_⟩;obtain⟨b,off,rfl,YR⟩:=uX Ys;have At:c≠0:=by
  intro e;have:m=0:=gX;rw[this,Nat.zero_mul]at hl;exact Ys (br hl)
 have hb:ZJ (Q (X ⟨b,off,Y⟩) m c)=X b:=by unfold ZJ;simp only;rw[if_neg At]
 refine⟨b,off,rfl,fun i hi=>?_⟩;have h1:=YR i hi;have h2:=hG b hb (hf b hb).1;unfold V.hc at h1 ⊢;rw[h2];exact h1
theorem BU{S:Tg->Prop}{h':Hp}{o':Ow}{t:Tg}{b:Nat}(k:Kp S Ps h o' h')(hb:o' b=X t):h.size<=b:=by
 refine ay fun q=>?_;obtain⟨_,h2⟩:=k.Zd b gX (fun t ht=>by cases ht);rw[hb]at h2;cases h2
set_option maxHeartbeats 8000000 in
theorem Zaj(T:bD)(h:Hp)(v:al)(xs:List (Raw × al))(hv:Ts QE 5 h v xs)(hx:∀x∈xs,TD Ps h x.2 x.1.data)(tb:Az Ps h)(Ax:xs.length<=4611686018427387904)(inv:(∀x∈YQ xs,x.err=0)->xs.length<=100000->∀j,j<=xs.length->WOk (Mx (((YQ xs).take j).map Raw.ac))):
  Zc bc T 20 #[v] h fun v' h'=>Zf h.size h h'/\FD h.size h' v' (YQ xs):=by
 obtain⟨p,c,rfl,YR⟩:=RY hv;refine Zc.PX [_] Tryz.func20 ?_;obtain⟨h1,YX⟩:=ZD (h.push (.cells nc.toArray 30):Hp);have e1:=YX.symm;unfold nc at e1;have b1:Zf h.size h h1:=by rw[YX];exact Zf.push (aI _) _
 have s1:h1.size=h.size+1:=by rw[YX];simp
 have x2:h1[h.size]? = X (.cells nc.toArray 30):=by rw[YX];exact Zb
 have rl:(YQ xs).length=xs.length:=by unfold YQ;simp
 have rz:∀G:Hp,Zf h1.size h1 G->G[h.size]? = X (.cells nc.toArray 30):=fun G hG=>hG.get gX x2;have wz:∀G:Hp,Zf h1.size h1 G->wr G ⟨h.size,0,Y⟩ [.int .i64 0,.bool false,.bool false,.bool false,.bool false,.bool false,.slice Y 0 0,.int .i64 0,.int .i64 0,.int .i64 0,.int .i64 0,.int .i64 0,.slice Y 0 0]=X G:=fun G hG=>by
  rw[Z2 (rz G hG) 0 _];have:(G.setIfInBounds h.size (.cells (YJ nc 0 [.int .i64 0,.bool false,.bool false,.bool false,.bool false,.bool false,.slice Y 0 0,.int .i64 0,.int .i64 0,.int .i64 0,.int .i64 0,.int .i64 0,.slice Y 0 0]).toArray 30))=G:=Ni (rz G hG);rw[if_pos ⟨by simp[nc],rfl⟩];exact congrArg X this
 have rr:∀G:Hp,Zf h1.size h1 G->rd G ⟨h.size,0,Y⟩ 13=X [.int .i64 0,.bool false,.bool false,.bool false,.bool false,.bool false,.slice Y 0 0,.int .i64 0,.int .i64 0,.int .i64 0,.int .i64 0,.int .i64 0,.slice Y 0 0]:=fun G hG=>Zs (rz G hG) rfl;have w0:=wz h1 (Zf.refl _ _);have r0:=rr h1 (Zf.refl _ _);have l0:=Za x2;by_cases HP:100000<xs.length
 .have TI:(xs.length:Int)>100000:=gX;have e2:VV (YQ xs)=1:=by unfold VV;rw[rl,if_pos HP]
  simp -implicitDefEqProofs only[go_sem,e1,TI,w0,r0];refine⟨b1,?_⟩;unfold FD;rw[e2,if_neg MZ];rfl
 have TI:¬(xs.length:Int)>100000:=gX;have Zec:xs.length<=100000:=gX;have e2:VV (YQ xs)=Qk (YQ xs):=by unfold VV;rw[rl,if_neg HP]
 have Df:∀i (hi:i<xs.length),(YQ xs)[i]'(by rw[rl];exact hi)=xs[i].1:=fun i hi=>by unfold YQ;simp
 simp -implicitDefEqProofs only[go_sem,e1,TI];refine VS.Z9 (fun F g=>F 0=.slice p xs.length c/\F 2=.pointer (X ⟨h.size,0,Y⟩)/\F 17=.slice p xs.length c/\F 18=.int .i64 xs.length/\Zf h1.size h1 g/\∃j:Nat,j<=xs.length/\F 19=.int .i64 j/\∀x∈(YQ xs).take j,x.err=0)
  (fun F _=>xs.length-(vi (F 19)).toNat) rfl ⟨rfl,rfl,rfl,rfl,Zf.refl _ _,0,bR _,rfl,fun x hx=>by simp at hx⟩ ?_
 rintro F2 g2 ⟨f0,f2,f17,f18,b2,j,hj,f19,hz⟩;by_cases ZL:j<xs.length
 .have ZW:(j:Int)<xs.length:=gX;obtain⟨bb,oo,rfl,U9,Pq⟩:=YR (by intro e;rw[e]at ZL;simp at ZL);obtain⟨x,So⟩:=ZD (xs[j]);have ue:x∈xs:=by rw[So];exact bo ZL
  have iv:=hx x ue;obtain⟨pd,cd,Pc⟩:=iv.1.ZM;have r1:rd g2 ⟨bb,oo+j*5,Y⟩ 5=X (QE x):=by rw[JW (b1.trans (b2.mono gX)) U9,So];exact Pq j ZL
  unfold QE Su at r1;rw[Pc]at r1;obtain⟨g3,LC⟩:=ZD (g2.push (.cells (Su x.1.k x.1.n x.1.a x.1.b (.slice pd x.1.data.length cd)).toArray 41):Hp);have e3:=LC.symm;have y3:g3[g2.size]? = X (.cells (Su x.1.k x.1.n x.1.a x.1.b (.slice pd x.1.data.length cd)).toArray 41):=by rw[LC];exact Zb
  have r3:rd g3 ⟨g2.size,0,Y⟩ 5=X (Su x.1.k x.1.n x.1.a x.1.b (.slice pd x.1.data.length cd)):=Zs y3 rfl;unfold Su at e3 r3;have b3:Zf h1.size h1 g3:=by rw[LC];exact b2.Yx b2.size _
  have ck:=VE T g3 x.1.k x.1.n x.1.a x.1.b pd x.1.data.length cd;unfold YA at ck;simp -implicitDefEqProofs only[go_sem,f0,f2,f17,f18,f19,ZW,r1,e3,r3];refine ck.use ?_;rintro _ g4 ⟨rfl,b4⟩;have B4:Zf h1.size h1 g4:=b3.trans (b4.mono b3.size);have exr:x.1.err=XV x.1.k x.1.n x.1.a x.1.b x.1.data.length:=rfl;rw[<-exr];by_cases hex:x.1.err=0
  .simp -implicitDefEqProofs only[go_sem,hex,f19];unfold XB;refine⟨⟨f0,f2,f17,f18,B4,j+1,ZL,rfl,fun y hy=>?_⟩,?_⟩
   .rw[Yp _ j (by rw[rl];exact ZL),a1]at hy;rcases hy with hy|hy
    .exact hz y hy
    .rw[Df j ZL,<-So]at hy;have:y=x.1:=by simpa using hy
     rw[this];exact hex
   .simp only[vi,Zk,↓reduceIte,f19];omega
  .have w4:=wz g4 B4;have r4:=rr g4 B4;have l4:=Za (rz g4 B4);simp -implicitDefEqProofs only[go_sem,hex,w4,r4,f2,l4];refine⟨b1.trans (B4.mono gX),?_⟩;unfold FD;have:Qk (YQ xs)=x.1.err:=by
    have:=Hr (l:=YQ xs) (j:=j) (by rw[rl];exact ZL) hz (by rw[Df j ZL,<-So];exact hex);rw[this,Df j ZL,<-So]
   rw[e2,this,if_neg hex];rfl
 have YU:¬(j:Int)<xs.length:=gX;obtain rfl:j=xs.length:=gX;have Xc:∀x∈YQ xs,x.err=0:=fun x hx=>hz x (by rw[a5 gX];exact hx);have hzero:VV (YQ xs)=0:=by rw[e2];exact Ro Xc
 have inv:=inv Xc Zec;simp -implicitDefEqProofs only[go_sem,f18,f19,YU];refine (ub T g2 Ps (Rp g2)).use ?_;rintro _ g3 ⟨wb,Zso,o3,vx,rfl,K3,A3⟩;unfold Zr;have bh2:Zf h.size h g2:=b1.trans (b2.mono gX);have kh2:Kp TG Ps h Ps g2:=Kp.Ie (Rp h) bh2 _;obtain⟨acs,Zak⟩:=ZD ((YQ xs).map Raw.ac);have Zjk:acs.length=xs.length:=by rw[Zak,bP,rl]
 have inv:∀j,j<=xs.length->WOk (Mx (acs.take j)):=fun j hj=>by
  have:=inv j hj;rw[Zak,<-List.map_take];exact this
 simp -implicitDefEqProofs only[go_sem,f0,f2];refine VS.Z9 (fun F g=>F 2=.pointer (X ⟨h.size,0,Y⟩)/\F 7=.pointer (X ⟨wb,0,Y⟩)/\F 31=.slice p xs.length c/\F 32=.int .i64 xs.length/\∃(j:Nat) (o':Ow) (Yr:Nat->Nat) (XS:WA),j<=xs.length/\F 33=.int .i64 j/\Kp TG Ps g2 o' g/\JH o' g wb Yr XS (Mx (acs.take j)))
  (fun F _=>xs.length-(vi (F 33)).toNat) rfl ⟨f2,rfl,rfl,rfl,0,o3,Zso,vx,bR _,rfl,K3,A3⟩ ?_
 clear f0 f2 f17 f18 f19 K3 A3;rintro F4 g4 ⟨f2,f7,f31,f32,j,o4,Zsp,gJ,hj,f33,K4,A4⟩;by_cases ZL:j<xs.length
 .have ZW:(j:Int)<xs.length:=gX;obtain⟨bb,oo,rfl,U9,Pq⟩:=YR (by intro e;rw[e]at ZL;simp at ZL);obtain⟨x,So⟩:=ZD (xs[j]);have ue:x∈xs:=by rw[So];exact bo ZL
  have jj:x.1.err=0:=Xc x.1 (by unfold YQ;exact List.mem_map_of_mem ue);obtain⟨q1,q2,q3,q4,q5⟩:=dP jj;have Kh4:Kp TG Ps h o4 g4:=kh2.trans K4;have iv:=(hx x ue).Zd Kh4;obtain⟨pd,cd,Pc⟩:=iv.1.ZM;have r1:rd g4 ⟨bb,oo+j*5,Y⟩ 5=X (QE x):=by rw[JW (MD Kh4) U9,So];exact Pq j ZL
  unfold QE Su at r1;rw[Pc]at r1 iv;obtain⟨g5,tI⟩:=ZD (g4.push (.cells (Su x.1.k x.1.n x.1.a x.1.b (.slice pd x.1.data.length cd)).toArray 41):Hp);have e5:=tI.symm;have k5:Kp QC o4 g4 o4 g5:=by rw[tI];exact Yc K4.Ya _
  have y5:g5[g4.size]? = X (.cells (Su x.1.k x.1.n x.1.a x.1.b (.slice pd x.1.data.length cd)).toArray 41):=by rw[tI];exact Zb
  have r5:rd g5 ⟨g4.size,0,Y⟩ 5=X (Su x.1.k x.1.n x.1.a x.1.b (.slice pd x.1.data.length cd)):=Zs y5 rfl;unfold Su at e5 r5;have en:((x.1.n.toNat:Nat):Int)=x.1.n:=gX;have ea:((x.1.a.toNat:Nat):Int)=x.1.a:=gX;have cd2:=Zd6 T g5 o4 wb Zsp gJ (Mx (acs.take j)) x.1.ac (.slice pd x.1.data.length cd) k5.Ya (A4.Zu k5) (inv j hj) q1 (by unfold Raw.ac;simp only;omega) (iv.Zd k5) (by unfold Raw.ac;simp only;omega) ((tb.Zd Kh4).Zd k5);unfold Zr Su Raw.ac at cd2;simp only at cd2;rw[en,ea]at cd2;have Y5:Mx (acs.take (j+1))=act (Mx (acs.take j)) ⟨x.1.k,x.1.n.toNat,x.1.a.toNat,x.1.b,x.1.data⟩:=by
   rw[Yp _ j (by rw[Zjk];exact ZL)];unfold Mx;rw[bV];have:acs[j]'(by rw[Zjk];exact ZL)=⟨x.1.k,x.1.n.toNat,x.1.a.toNat,x.1.b,x.1.data⟩:=by
    simp only[Zak,List.getElem_map,Df j ZL,<-So];rfl
   rw[this];rfl
  simp -implicitDefEqProofs only[go_sem,f2,f7,f31,f32,f33,ZW,r1,e5,r5];refine cd2.use ?_;rintro v' g6 ⟨o6,WA6,Zsr,k6,A6⟩;simp -implicitDefEqProofs only[go_sem,f33];unfold XB;refine⟨⟨f2,f7,f31,f32,j+1,o6,Zsr,WA6,ZL,rfl,(K4.trans (Yy k5)).trans k6,by rw[Y5];exact A6⟩,?_⟩;simp only[vi,Zk,↓reduceIte,f33];omega
 have YU:¬(j:Int)<xs.length:=gX;obtain rfl:j=xs.length:=gX;rw[a5 gX]at A4;have okW:=inv xs.length (aI _);rw[a5 gX]at okW;obtain⟨w,hw⟩:=ZD (Mx acs);rw[<-hw]at A4 okW;have U4:=Xi A4.wd.ZQ.2;have U4o:=U4.out;have Zss:=Za A4.wd.ZQ.2;obtain⟨pf,cf,hpf,_⟩:=TH A4.wd.Zo;obtain⟨pt,ct,mZ,_⟩:=A4.wd.ZB.ZM;obtain⟨tv,htv⟩:=ZD (gJ.ZB);rw[mZ]at U4o htv;obtain⟨kb,uQ⟩:=ZD (g4.size);obtain⟨g5,tI⟩:=ZD (g4.push (.cells [.int .i64 0,.bool false,.bool false,.bool false,.bool false,.bool false,.slice Y 0 0,.int .i64 (w.Yj 0),.int .i64 (w.Yj 1),.int .i64 (w.Yj 2),.int .i64 (w.Yj 3),.int .i64 (w.Yj 4),.slice pt w.ZB.length ct].toArray 30):Hp);have e5:=tI.symm;have y5:g5[kb]? = X (.cells [.int .i64 0,.bool false,.bool false,.bool false,.bool false,.bool false,.slice Y 0 0,.int .i64 (w.Yj 0),.int .i64 (w.Yj 1),.int .i64 (w.Yj 2),.int .i64 (w.Yj 3),.int .i64 (w.Yj 4),.slice pt w.ZB.length ct].toArray 30):=by rw[tI,uQ];exact Zb
 have k5:Kp QC o4 g4 o4 g5:=by rw[tI];exact Yc K4.Ya _
 obtain⟨g6,RU⟩:=ZD (g5.setIfInBounds kb (.cells (BS w 0 (.slice Y 0 0) (.slice pt w.ZB.length ct)).toArray 30):Hp);have w6:Jb g5 ⟨kb,0,Y⟩ (.int .i64 w.Zo.length)=X g6:=by rw[Ye y5 0 _,RU];rfl
 have l5:=Za y5;obtain⟨o6,ho6⟩:=ZD (XY o4 kb (.ZP 101));have k6:Kp dQ o4 g4 o6 g6:=by rw[ho6,RU];exact ((ZR k5).SK gX l5 (.inr rfl)).aQ gX _
 have B6:Uq o6 (.ZP 101) g6 kb (.cells (BS w 0 (.slice Y 0 0) (.slice pt w.ZB.length ct)).toArray 30):=⟨by rw[ho6];exact Xj,by rw[RU];exact ZE y5⟩
 have A5:=A4.Zu k5;have U5:=Xi A5.wd.ZQ.2;have U5f:=U5.Zo;rw[hpf]at U5f;have dF:=Za A5.wd.ZQ.2;have nof:∀t,dQ t->t.of≠Y:=by rintro t (rfl|rfl) e<;>cases e
 have non:∀t (i:Nat),i<5->dQ t->t.of≠X i:=by
  rintro t i hi (rfl|rfl) e
  .have:=Option.some.inj e;omega
  .have:=Option.some.inj e;omega
 have W6:=A4.wd.Zd k6 nof;obtain⟨bn,Zsu,cn,hn,iO,hbn,Zed⟩:=WO W6;have U6n:=(Xi W6.ZQ.2).Zm;rw[hn]at U6n;have Zjl:=Za W6.ZQ.2;simp -implicitDefEqProofs only[go_sem,f32,f33,YU,f2,f7,U4o,Zss,e5];rw[<-uQ];simp -implicitDefEqProofs only[go_sem,f7,U5f,dF,w6,l5,U6n,Zjl];refine VS.Z9 (fun F g=>F 2=.pointer (X ⟨h.size,0,Y⟩)/\F 10=.pointer (X ⟨kb,0,Y⟩)/\F 54=.slice (X ⟨bn,Zsu,Y⟩) 5 cn/\F 55=.int .i64 5/\∃(j:Nat) (o':Ow) (lv:al) (vs:List al),j<=5/\F 56=.int .i64 j/\Kp dQ o4 g4 o' g/\Uq o' (.ZP 101) g kb (.cells (BS w j lv (.slice pt w.ZB.length ct)).toArray 30) /\
   YP o' (.ZP 100) 35 1 g lv j vs/\D8 (fun v l=>Im o' 5 g v l.length (ZK QA.C l)/\∀b,ZJ v=X b->g4.size<=b) vs (ME w j))
  (fun F _=>5-(vi (F 56)).toNat) rfl ⟨f2,rfl,rfl,rfl,0,o6,.slice Y 0 0,[],gX,rfl,k6,B6,YP.nil _ _ _ _ _,.nil⟩ ?_
 clear f2 f7 f31 f32 f33 B6 k6 w6 l5 U6n Zjl W6 Zed hbn ho6 RU y5 e5;rintro F7 g7 ⟨f2,f10,f54,f55,j,o7,lv,vs,hj,f56,K7,B7,O7,L7⟩;have W7:=A4.wd.Zd K7 nof;by_cases ZL:j<5
 .have ZW:(j:Int)<5:=gX;obtain⟨na,N4j⟩:=A4.nd j ZL;have N7:=N4j.Zd K7 (fun t q=>non t j ZL q);obtain⟨bn',Zyk,cn',Pz,ZFt,hbn,Zed⟩:=WO W7;rw[hn]at Pz;simp only[Value.slice.injEq,Option.some.injEq,Addr.mk.injEq,true_and,and_true]at Pz;obtain⟨⟨rfl,rfl⟩,rfl⟩:=Pz;have ri:=Zed j ZL;unfold Zr at ri;have P7:=ZI N7.ZQ.2 N7.pt.store.len;have P7u:=P7.up;have ZdS:=Za N7.ZQ.2;have l7:=Za B7.2;obtain⟨g8,Gn⟩:=ZD (g7.setIfInBounds kb (.cells (BS w (j+1) lv (.slice pt w.ZB.length ct)).toArray 30):Hp);have w8:Jb g7 ⟨kb,1+j,Y⟩ (.bool (w.Zm j).up)=X g8:=by
   rw[Ye B7.2,if_pos ⟨by rw[gS];omega,rfl⟩,Zeb w j lv _ ZL,Gn]
  have k8:Kp dQ o7 g7 o7 g8:=by rw[Gn];exact (Kp.refl K7.Ya dQ).set B7.1 (.inr rfl) _
  have k8':Kp (fun t=>t=.ZP 101) o7 g7 o7 g8:=by rw[Gn];exact (Kp.refl K7.Ya (fun t=>t=.ZP 101)).set B7.1 rfl _
  have B8:Uq o7 (.ZP 101) g8 kb (.cells (BS w (j+1) lv (.slice pt w.ZB.length ct)).toArray 30):=⟨B7.1,by rw[Gn];exact ZE B7.2⟩
  have O8:=O7.Zd k8' MI;have L8:=NH L7 (R':=fun v l=>Im o7 5 g8 v l.length (ZK QA.C l)/\∀b,ZJ v=X b->g4.size<=b) (fun v l q=>⟨q.1.Zd k8,q.2⟩);have K8:=K7.trans k8;have N8:=N7.Zd k8 (fun t q=>non t j ZL q);have P8l:=(ZI N8.ZQ.2 N8.pt.store.len).ZP;obtain⟨pl,cl,KB,_⟩:=YP.ZM N8.pt.ZP;have KB:na.ZP=.slice pl (w.Zm j).ZP.length cl:=KB;rw[KB]at P8l;have Tl:=N8.pt.ZP.ts;rw[KB]at Tl;have zQ:=Za N8.ZQ.2;have l8:=Za B8.2;obtain⟨plv,clv,rfl,_⟩:=O8.ZM;have r8:hc g8 ⟨kb,6,Y⟩=X (.slice plv j clv):=Zg B8.2;have cc:=dO T g8 (.slice pl (w.Zm j).ZP.length cl) (w.Zm j).ZP Tl (by have:=okW.ZP j ZL;omega);simp -implicitDefEqProofs only[go_sem,f2,f10,f54,f55,f56,ZW,ri,P7u,ZdS,w8,l7,hbn];refine VS.z (g8.size) [8,10] (.p 0 (.q 1 (.p 2 (.p 3 (.p 4 (.q 5 (.s 6 (.s 7 (.w 8 (.p 9 (.w 10 .nil))))))))))) mixed po ?_;simp -implicitDefEqProofs only[go_sem,f2,f10,r8,P8l,zQ,l8];refine cc.use ?_;rintro v9 g9 ⟨o9,b9⟩;have k9:Kp QC o7 g8 o7 g9:=ZN K8.Ya b9;have im9:Im o7 5 g9 v9 (w.Zm j).ZP.length (ZK QA.C (w.Zm j).ZP):=Im.Ub o9.Zy (fun b hb=>K8.Ya b hb);have lo9:∀b,ZJ v9=X b->g4.size<=b:=fun b hb=>bh K8.size (o9.Zy.ZQ b hb);obtain⟨p9,c9,rfl⟩:=im9.ZM;obtain⟨g10,Zal⟩:=ZD (g9.push (.cells [.slice p9 (w.Zm j).ZP.length c9].toArray 35):Hp);have e10:=Zal.symm;have kC:Kp QC o7 g9 o7 g10:=by rw[Zal];exact Yc k9.Ya _
  have K10:Kp dQ o4 g4 o7 g10:=(K8.trans (ZR k9)).trans (ZR kC);have B10:=(B8.Zd k9 (fun q=>q)).Zd kC (fun q=>q);have O10:=(O8.Zd k9 (fun q=>q)).Zd kC (fun q=>q);have Zsw:=im9.Zd kC;have x10:g10[g9.size]? = X (.cells [.slice p9 (w.Zm j).ZP.length c9].toArray 35):=by rw[Zal];exact Zb
  have src:Sl 1 g10 (.slice (X ⟨g9.size,0,Y⟩) 1 1) 1 [.slice p9 (w.Zm j).ZP.length c9]:=⟨_,1,rfl,rfl,fun _=>⟨g9.size,0,rfl,fun i hi=>by
   rw[Zg x10,YE,b0];exact bH hi⟩⟩
  simp -implicitDefEqProofs only[go_sem,b9,e10];refine⟨by rw[Zal];exact b9.Yx b9.size _,?_⟩;refine JX (E:=35) (n:=1) (bytes:=24) (k:=1) ZgD Tryz.underlying26 ZnQ ZnS rfl ZnR O10 K10.Ya src rfl gX gX ?_;intro v11 o11 g11 O11 mV _;have mV:Kp (fun u=>u=.ZP 100) o7 g10 o11 g11:=mV;obtain⟨p11,c11,rfl,_⟩:=O11.ZM;have B11:=B10.Zd mV MI;have l11:=Za B11.2;obtain⟨g12,Cw⟩:=ZD (g11.setIfInBounds kb (.cells (BS w (j+1) (.slice p11 (j+1) c11) (.slice pt w.ZB.length ct)).toArray 30):Hp);have w12:Jb g11 ⟨kb,6,Y⟩ (.slice p11 (j+1) c11)=X g12:=by
   rw[Ye B11.2,if_pos ⟨by rw[gS];omega,rfl⟩,Zai,Cw]
  have AB:Kp (fun t=>t=.ZP 101) o11 g11 o11 g12:=by rw[Cw];exact (Kp.refl mV.Ya (fun t=>t=.ZP 101)).set B11.1 rfl _
  have B12:Uq o11 (.ZP 101) g12 kb (.cells (BS w (j+1) (.slice p11 (j+1) c11) (.slice pt w.ZB.length ct)).toArray 30):=⟨B11.1,by rw[Cw];exact ZE B11.2⟩
  simp -implicitDefEqProofs only[go_sem,f10,w12,l11,f56];unfold XB;refine⟨⟨f2,f10,f54,f55,j+1,o11,.slice p11 (j+1) c11,vs++[.slice p9 (w.Zm j).ZP.length c9],ZL,rfl,(K10.trans (mV.mono fun t q=>.inl q)).trans (AB.mono fun t q=>.inr q),B12,O11.Zd AB MI,?_⟩,?_⟩
  .rw[BT];refine BD (NH L8 fun v l q=>⟨((((q.1.Zd k9).Zd kC).Zd mV).Zd AB),q.2⟩) ⟨(Zsw.Zd mV).Zd AB,lo9⟩
  .simp only[vi,Zk,↓reduceIte,f56];omega
 have YU:¬(j:Int)<5:=gX;obtain rfl:j=5:=gX;have bx7:ZY o7 g7 h.size (.cells nc.toArray 30):=ZY.Zd (ZY.Zd (o:=Ps) ⟨rfl,rz g2 b2⟩ K4) K7;have rk:rd g7 ⟨kb,0,Y⟩ 13=X (BS w 5 lv (.slice pt w.ZB.length ct)):=Zs B7.2 rfl;obtain⟨g8,Gn⟩:=ZD (g7.setIfInBounds h.size (.cells (BS w 5 lv (.slice pt w.ZB.length ct)).toArray 30):Hp);have w8:wr g7 ⟨h.size,0,Y⟩ (BS w 5 lv (.slice pt w.ZB.length ct))=X g8:=by
  obtain⟨plv,clv,rfl,_⟩:=O7.ZM;rw[Z2 bx7.2 0 _,Gn];rfl
 have l7:=Za bx7.2;have r8:rd g8 ⟨h.size,0,Y⟩ 13=X (BS w 5 lv (.slice pt w.ZB.length ct)):=Zs (by rw[Gn];exact ZE bx7.2) rfl;have K7a:Kp TG Ps h o7 g7:=(kh2.trans K4).trans (Yy K7);have vl:vs.length=5:=by have:=O7.length;omega
 have bound:h.size<g4.size:=a8 (Za (rz g2 b2)) K4.size;rw[show BS w 5 lv (.slice pt w.ZB.length ct)=lw w lv (.slice pt w.ZB.length ct) from rfl]at rk w8 r8;unfold lw at rk w8 r8;simp -implicitDefEqProofs only[go_sem,f55,f56,YU,f2,f10,rk,w8,l7,r8];refine⟨by rw[Gn];exact (MD K7a).Zj (aI _) _,?_⟩;unfold FD;rw[hzero,if_pos rfl,<-Zak,<-hw];refine⟨_,lv,.slice pt w.ZB.length ct,vs,rfl,fun G hG=>?_⟩;have wt:=W7.ZB;rw[mZ]at wt;have Ys:∀b,b<g7.size->b≠h.size->G[b]? = g8[b]? -> G[b]? = g7[b]?:=fun b _ h2 e=>by rw[e,Gn,bw,if_neg (fun e=>h2 e.symm)]
 have hs8:g8.size=g7.size:=by rw[Gn];simp
 have Zy:∀t,∀b,o7 b=X t->b<g7.size->G[b]? = g7[b]?:=fun t b q1 q2=>Ys b q2 (fun e=>by rw[e,bx7.1]at q1;cases q1) (hG b (BU K7a q1) gX);refine⟨rfl,⟨by rw[lF,vl];exact (gT O7 (Zy _)).sl⟩,?_,⟨(gT wt (Zy _)).sl⟩,NH (k:=ME w 5) L7 fun v l q=>q.1.fits⟩;refine NH (k:=ME w 5) L7 fun v l q=>⟨Zjj q.1 fun b hb ZL=>?_⟩
 have:=q.2 b hb;exact Ys b ZL gX (hG b gX gX)
structure CmI(C:List Cm)(w v:Wd)(m:Nat):Prop where
 nd:∀i,i<5->QU C i (v.Zm i)
 dL:∀i,i<5->∀l∈(v.Zm i).Zt,QT C l
 lu:v.Zo=w.Zo
 sum:Oo (fun i=>(v.Zm i).Zt.length)<=Oo (fun i=>(w.Zm i).Zt.length)+m
 wait:Oo (fun i=>(v.Zm i).Zh.length)=Oo (fun i=>(w.Zm i).Zh.length)
 ZB:v.ZB=w.ZB
 Yj:v.Yj=w.Yj
theorem dR{w:Wd}{l:XR}(h1:∀i,i<5->QU C i (w.Zm i))(h2:∀i,i<5->∀l∈(w.Zm i).Zt,QT C l)(hl:QT C l):CmI C w (Ss w l) 1:=by
 have hto:l.to.toNat<5:=by have:=hl.to;omega
 unfold Ss;split
 .refine⟨fun i hi=>?_,fun i hi x hx=>?_,rfl,?_,?_,rfl,rfl⟩
  .unfold Wd.set;by_cases e:i=l.to.toNat
   .simp only[if_pos e];rw[e];exact { h1 _ hto with }
   .simp only[if_neg e];exact h1 i hi
  .unfold Wd.set at hx;by_cases e:i=l.to.toNat
   .simp only[if_pos e]at hx;rcases a1.1 hx with hx|hx
    .exact h2 _ hto x hx
    .have:x=l:=by simpa using hx
     rw[this];exact hl
   .simp only[if_neg e]at hx;exact h2 i hi x hx
  .have:=NF w l.to.toNat { w.Zm l.to.toNat with Zt:=(w.Zm l.to.toNat).Zt++[l] } (fun n=>n.Zt.length) hto;unfold Wd.set;simp only[ao,bk]at this ⊢;omega
  .have:=NF w l.to.toNat { w.Zm l.to.toNat with Zt:=(w.Zm l.to.toNat).Zt++[l] } (fun n=>n.Zh.length) hto;unfold Wd.set;simp only at this ⊢;omega
 .exact⟨h1,h2,rfl,gX,rfl,rfl,rfl⟩
theorem Zam:∀(ls:List XR) (w:Wd),(∀i,i<5->QU C i (w.Zm i))->(∀i,i<5->∀l∈(w.Zm i).Zt,QT C l)->(∀l∈ls,QT C l)->CmI C w (ls.foldl Ss w) (J ls):=by
 intro ls
 induction ls with
 | nil=>intro w h1 h2 _;exact⟨h1,h2,rfl,Dq,rfl,rfl,rfl⟩
 | cons l ls ih=>
  intro w h1 h2 h3;have a:=dR h1 h2 (h3 l Dq);have b:=ih (Ss w l) a.nd a.dL (fun x hx=>h3 x (by simp[hx]));refine⟨b.nd,b.dL,by rw[a9,b.lu,a.lu],?_,by rw[a9,b.wait,a.wait],by rw[a9,b.ZB,a.ZB],by rw[a9,b.Yj,a.Yj]⟩;have h4:=b.sum;have h5:=a.sum;simp only[a9,a0];omega
theorem WI.Zan{k:Nat}{w u v:Wd}{m:Nat}(h:WI C k w)(c:CmI C u v m)(hu1:u.Zm=w.Zm)(hu2:∀l∈u.Zo,l∈w.Zo)(hu3:u.ZB=w.ZB)(hu4:u.Yj=w.Yj)(hm:u.Zo.length+m<=w.Zo.length+1):WI C (k+1) v:=by
 have hs:=c.sum;have hw:=c.wait;rw[hu1]at hs hw;have h1:=h.room;have h2:=h.wait;refine⟨c.nd,c.dL,fun l hl=>h.lu l (hu2 l (by rw[<-c.lu];exact hl)),?_,?_,fun i=>by rw[c.Yj,hu4];have:=h.Yj i;omega⟩
 .rw[c.lu];omega
 .rw[c.ZB,hu3,hw];omega
theorem Zee{k:Nat}{w:Wd}(h:WI C k w)(at':Nat)(comes stays:Bool):WI C (k+1) (pick w at' comes stays):=by
 unfold pick;split
 .exact h.more
 .rename_i l hl;have zM:l∈w.Zo:=List.mem_of_getElem? hl;have hll:=h.lu l zM;have el:(w.Zo.eraseIdx (at'%w.Zo.length)).length+1<=w.Zo.length+1:=by
   have:=List.length_eraseIdx_le w.Zo (at'%w.Zo.length);omega
  have el2:(w.Zo.eraseIdx (at'%w.Zo.length)).length<=w.Zo.length:=gX
  cases comes with
  | true=>
   cases stays with
   | true=>exact h.Zan (u:=w) (dR h.nd h.dL hll) rfl (fun l q=>q) rfl rfl gX
   | false=>exact h.Zan (u:={ w with Zo:=w.Zo.eraseIdx (at'%w.Zo.length) }) (dR h.nd h.dL hll) rfl (fun l q=>bJ q) rfl rfl el
  | false=>
   cases stays with
   | true=>exact h.more
   | false=>exact h.Zan (u:={ w with Zo:=w.Zo.eraseIdx (at'%w.Zo.length) }) (m:=0) ⟨h.nd,h.dL,rfl,Dq,rfl,rfl,rfl⟩ rfl (fun l q=>bJ q) rfl rfl (by simp only;omega)
def MF(rc:List Nat):Cm:=⟨XQ ((Qm rc).drop 22) 0,XQ ((Qm rc).drop 22) 1,XQ ((Qm rc).drop 22) 2,XQ ((Qm rc).drop 22) 3,XQ ((Qm rc).drop 22) 4⟩
theorem uf(n:Nd)(x:Cm):(Gt n x).Zh.length<=n.Zh.length+1:=by
 unfold Gt;split
 .omega
 .simp
theorem ug{k:Nat}{w:Wd}(h:WI C k w)(hi:i<5){rc:List Nat}(hc:MF rc∈C):WI C (k+1) (Mw w i rc):=by
 unfold Mw;split
 .split
  .refine⟨h.nd,h.dL,h.lu,bh h.room (bp _ (bE k)),bh h.wait (bE k),fun j=>?_⟩;have h1:=h.Yj j;have h2:=h.Yj i;simp only;split<;>omega
  .rename_i q;have e:Si rc (w.Zm i).ZP.length=MF rc:=by
    unfold Si MF;rw[if_pos (by simpa using q)]
   rw[e];split
   .have hw:=h.wait;refine⟨h.nd,h.dL,h.lu,bh h.room (bp _ (bE k)),by simp only[ao,bk];omega,fun j=>by have:=h.Yj j;simp only;omega⟩
   .rw[Ks];have ha:=ZbL (h.nd i hi) hc;have s1:(add (w.Zm i) (MF rc)).Zt=(w.Zm i).Zt:=by unfold add;split<;>rfl
    have s2:(Gt (add (w.Zm i) (MF rc)) (MF rc)).Zt=(w.Zm i).Zt:=by unfold Gt;split<;>exact s1
    have s3:=uf (add (w.Zm i) (MF rc)) (MF rc);have s4:=(add_same (w.Zm i) (MF rc)).1;refine h.out hi ?_ (fun l hl=>by cases hl) (by simp only[s2];exact h.dL i hi) (by simp only[s2];simp) (by simp only[bx];rw[s4]at s3;omega);unfold Gt;simp only;split
    .exact ha
    .exact { ha with }
 .exact h.more
theorem Zjo(hC:(J C)<=100000){k:Nat}{w:Wd}(h:WI C k w)(a:Ac)(hi:a.Yf<5)(hc:MF a.data∈C):WI C (k+1) (act w a):=by
 have hn:=h.nd a.Yf hi;have hb:=h.dL a.Yf hi;unfold act;split
 .exact ug h hi hc
 split
 .obtain⟨l1,l2,l3⟩:=Zd5 hn;rw[Ks];exact h.out hi l1 (fun l hl=>by cases hl) (by simp only[l2];exact hb) (by simp only[l2];simp) (by simp only[l3];simp)
 split
 .obtain⟨s1,s2,s3,s4,s5⟩:=Zd3 hi hC hn hb;exact h.out hi s1 s2 s3 gX gX
 split
 .exact Zee h _ _ _
 split
 .have c:=Zam w.Zo { w with Zo:=[] } h.nd h.dL h.lu;exact h.Zan c rfl (fun l hl=>by cases hl) rfl rfl Dq
 split
 .obtain⟨c1,c2⟩:=lj hn a.Zd;rw[Ks];rcases c2 with⟨c2,c3⟩|c2
  .exact h.out hi c1 (fun l hl=>by cases hl) (by simp only[c2];intro l hl;cases hl) (by simp only[c2];simp) (by simp only[c3];simp)
  .exact h.out hi c1 (fun l hl=>by cases hl) (by simp only[c2];exact hb) (by simp only[c2];simp) (by simp only[c2];simp)
 .obtain⟨c1,c2⟩:=lq hn;rw[Ks];rcases c2 with⟨c2,c3⟩|c2
  .exact h.out hi c1 (fun l hl=>by cases hl) (by simp only[c2];intro l hl;cases hl) (by simp only[c2];simp) (by simp only[c3];simp)
  .exact h.out hi c1 (fun l hl=>by cases hl) (by simp only[c2];exact hb) (by simp only[c2];simp) (by simp only[c2];simp)
theorem BV(C:List Cm):WI C 0 Ri:=by
 refine⟨fun i hi=>Kr Dq FB.zero,(fun i hi l hl=>by cases hl),(fun l hl=>by cases hl),by simp[Ri,Oo,Qw],by simp[Ri,Oo,Qw],fun i=>by simp[Ri]⟩
theorem uh(hC:(J C)<=100000):∀(l:List Ac) (k:Nat) (w:Wd),WI C k w->(∀a∈l,a.Yf<5/\MF a.data∈C)->WI C (k+(J l)) (l.foldl act w):=by
 intro l
 induction l with
 | nil=>intro k w h _;exact h
 | cons a l ih=>
  intro k w h hl;have:=ih (k+1) (act w a) (Zjo hC h a (hl a Dq).1 (hl a Dq).2) (fun x hx=>hl x (by simp[hx]));rw[a0,show k+((J l)+1)=k+1+(J l) by omega];exact this
theorem Zao(xs:List (Raw × al))(hz:∀x∈YQ xs,x.err=0)(hl:(J xs)<=100000)(j:Nat)(hj:j<=(J xs)):WOk (Mx (((YQ xs).take j).map Raw.ac)):=by
 obtain⟨C,hC⟩:∃C,C=(YQ xs).map fun x=>MF x.data:=⟨_,rfl⟩
 have rl:(YQ xs).length=(J xs):=by unfold YQ;simp
 have yQ:(J C)<=100000:=by rw[hC,bP,rl];exact hl
 have:=uh yQ (((YQ xs).take j).map Raw.ac) 0 Ri (BV C) (fun a ha=>by
  obtain⟨x,hx,rfl⟩:=bg.1 ha;have hx:=bS hx;obtain⟨_,h2,_,_,_⟩:=dP (hz x hx);refine⟨by unfold Raw.ac;simp only;omega,?_⟩;rw[hC];exact bg.2 ⟨x,hx,rfl⟩)
 refine this.ok yQ ?_;rw[bP,a6];omega
theorem Zap(T:bD)(h:Hp)(v:al)(xs:List (Raw × al))(hv:Ts QE 5 h v xs)(hx:∀x∈xs,TD Ps h x.2 x.1.data)(tb:Az Ps h)(Ax:(J xs)<=4611686018427387904):
  Zc bc T 20 #[v] h fun v' h'=>Zf h.size h h'/\FD h.size h' v' (YQ xs):=
 Zaj T h v xs hv hx tb Ax fun h1 h2 j hj=>Zao xs h1 h2 j hj
theorem Ht{v:al}{l:List (Raw × al)}(s:Ts QE 5 h v l):∃p c,v=Q p (J l) c:=by
 obtain⟨p,c,h,_⟩:=RY s;exact⟨p,c,h⟩
def Sj(k n a b:Int)(d:List Nat):List Nat:=YF k++(if Yl k then 32 :: Uy n else [])++(if Xe k then 32 :: Uy a else [])++(if k=8 then 32 :: Uy b else [])++(if k=1 then 32 :: Uk d else [])
theorem NJ{k n a b:Int}{d:List Nat}(hk:1<=k/\k<=9):Rb k n a b d=Sj k n a b d++[10]:=by
 have:k=1\/k=2\/k=3\/k=4\/k=5\/k=6\/k=7\/k=8\/k=9:=gX;rcases this with rfl|rfl|rfl|rfl|rfl|rfl|rfl|rfl|rfl<;>simp[Rb,Sj,ZH,WL,Yl,Xe,YV]
theorem ui(x:Raw × al):QE x=YA x.1.k x.1.n x.1.a x.1.b x.2:=rfl
theorem Hu(x:Nat): -1<=VN x/\VN x<=15:=by unfold VN;split<;>(try split)<;>omega
def Dh:List Nat->Option (List Nat)
 | x :: y :: l=>if VN x<0\/VN y<0 then Y else (Dh l).map fun d=>(16*VN x+VN y).toNat :: d
 | []=>X []
 | _=>Y
def BW(k:Int):Nat:=if k=8\/k=1 then 3 else if Yl k\/Xe k then 2 else 1
def lG(k:Int)(ws:List (List Nat)):Option Raw:=
 if (J ws)≠BW k then Y
 else match (if k=1 then Dh (ws.getD 2 []) else X []) with
  | none=>Y
  | some d=>
   if XV k (if Yl k then Xm (ws.getD 1 []) else 0) (if Xe k then Xm (ws.getD 1 []) else 0) (if k=8 then Xm (ws.getD 2 []) else 0) (J d)≠0 then Y
   else X ⟨k,if Yl k then Xm (ws.getD 1 []) else 0,if Xe k then Xm (ws.getD 1 []) else 0,if k=8 then Xm (ws.getD 2 []) else 0,d⟩
def NK(w:List Nat):Int:=
 if w=YF 1 then 1 else if w=YF 2 then 2 else if w=YF 3 then 3 else if w=YF 4 then 4 else if w=YF 5 then 5 else if w=YF 6 then 6 else if w=YF 7 then 7 else if w=YF 8 then 8 else if w=YF 9 then 9 else 0
def BX(ws:List (List Nat)):Option Raw:=if NK (ws.getD 0 [])=0 then Y else lG (NK (ws.getD 0 [])) ws
theorem BY(x y:Nat)(l:List Nat):Dh (x :: y :: l)=if VN x<0\/VN y<0 then Y else (Dh l).map fun d=>(16*VN x+VN y).toNat :: d:=rfl
theorem Zaq{k:Int}{L:List (List Nat)}{d:List Nat}{n a b:Int}(hl:(J L)=BW k)(hd:(if k=1 then Dh (L.getD 2 []) else X [])=X d)(hn:(if Yl k then Xm (L.getD 1 []) else 0)=n)(ha:(if Xe k then Xm (L.getD 1 []) else 0)=a)(hb:(if k=8 then Xm (L.getD 2 []) else 0)=b):
  lG k L=if XV k n a b (J d)≠0 then Y else X ⟨k,n,a,b,d⟩:=by
 unfold lG;rw[if_neg gX,hd,hn,ha,hb]
def WQ:List Raw->Nat->Option (Nat × Int)
 | [],_=>Y
 | x :: l,i=>if x.err≠0 then X (i,x.err) else WQ l (i+1)
theorem Gw{l:List Raw}{j:Nat}(hj:j<(J l))(h0:∀x∈l.take j,x.err=0)(h1:l[j].err≠0):∀i,WQ l i=X (i+j,l[j].err):=by
 induction l generalizing j with
 | nil=>simp at hj
 | cons y l ih=>
  intro i
  cases j with
  | zero=>unfold WQ;rw[if_pos (by simpa using h1)];rfl
  | succ j=>
   unfold WQ;rw[if_neg (by simpa using h0 y Dq),ih (by simpa using hj) (fun x hx=>h0 x (by simp[hx])) (by simpa using h1)];simp only[List.getElem_cons_succ];rw[show i+1+j=i+(j+1) by omega]
theorem PK{l:List Raw}(h0:∀x∈l,x.err=0):∀i,WQ l i=Y:=by
 induction l with
 | nil=>intro _;rfl
 | cons y l ih=>intro i;unfold WQ;rw[if_neg (by simpa using h0 y Dq)];exact ih (fun x hx=>h0 x (by simp[hx])) _
def Raw.line(x:Raw):List Nat:=Rb x.k x.n x.a x.b x.data
def Jj(l:List Raw):List Nat:=(l.map Raw.line).flatten
def Shown(l:List Raw):List al:=
 if 100000<(J l) then [Pj [],U O 0,U O 1]
 else match WQ l 0 with
  | some (i,e)=>[Pj [],U O i,U O e]
  | none=>[Pj (Jj l),U O 0,U O 0]
theorem Hv{x:Raw}(h:x.err=0):(1<=x.k/\x.k<=9)/\(J x.data)<=2000/\∀y∈ZH x.k,Qo x.k x.n x.a x.b y:=by
 unfold Raw.err XV at h;by_cases c1:1<=x.k/\x.k<=9
 case neg=>rw[if_pos c1]at h;cases h
 rw[if_neg (by simpa using c1)]at h;by_cases c2:(Yl x.k/\¬(0<=x.n/\x.n<=4))\/(Xe x.k/\¬(0<=x.a/\x.a<=1048576))\/(x.k=8/\¬(0<=x.b/\x.b<=100000))
 .rw[if_pos c2]at h;cases h
 rw[if_neg c2]at h;by_cases c3:2000<(J x.data)
 .rw[if_pos gX]at h;cases h
 refine⟨c1,gX,fun y hy=>ay fun hn=>c2 ?_⟩;unfold ZH at hy;unfold Qo at hn;unfold Yl Xe;have av:∀p:Nat,YV x.k x.n x.a x.b p=[x.k,x.n,x.a,x.b].getD p 0:=fun _=>rfl;split at hy
 .obtain rfl:y=(1,4):=by simpa using hy
  have:¬(0<=x.n/\x.n<=4):=hn;omega
 .split at hy
  .obtain rfl:y=(2,1048576):=by simpa using hy
   have:¬(0<=x.a/\x.a<=1048576):=hn;omega
  .split at hy
   .simp only[bd,b8,or_false]at hy;rcases hy with rfl|rfl
    .have:¬(0<=x.n/\x.n<=4):=hn;omega
    .have:¬(0<=x.b/\x.b<=100000):=hn;omega
   .cases hy
theorem uj:∀l:List Nat,(Uk l).length=2*(J l):=by
 intro l;induction l with
 | nil=>rfl
 | cons y l ih=>
  have e:Uk (y :: l)=[QS (y/16),QS (y%16)]++Uk l:=by simp[Uk]
  rw[e,ao,ih];simp only[a0,bx];omega
theorem BZ(k:Int)(hk:1<=k/\k<=9):(∀x∈YF k,x<256)/\(YF k).length<=6:=by
 unfold YF;have h9:∀j,j<10->(∀x∈Tw.getD j [],x<256)/\(Tw.getD j []).length<=6:=MZ;exact h9 _ gX
theorem RZ{x:Raw}(h:x.err=0)(hb:∀y∈x.data,y<256):x.line≠[]/\(J x.line)<=5000/\∀y∈x.line,y<256:=by
 obtain⟨hk,hd,hg⟩:=Hv h;have h1:=BZ x.k hk;have h2:=Mv (k:=x.k) (n:=x.n) (a:=x.a) (b:=x.b) (ZH x.k) (fun y hy=>⟨hg y hy,RS y hy⟩);have h3:=Mg x.k;have h4:=uj x.data;unfold Raw.line Rb;refine⟨Dq,?_,?_⟩
 .simp only[ao,a0,bx];split
  .simp only[a0];omega
  .simp only[bx];omega
 .intro y hy;simp only[a1,List.mem_singleton]at hy;rcases hy with ((hy|hy)|hy)|hy
  .exact h1.1 y hy
  .unfold WL at hy;rw[ca]at hy;obtain⟨l,hl,hy⟩:=hy;rw[bg]at hl;obtain⟨z,_,rfl⟩:=hl;exact Fm _ y hy
  .split at hy
   .rcases bd.1 hy with rfl|hy
    .omega
    .unfold Uk at hy;rw[ca]at hy;obtain⟨l,hl,hy⟩:=hy;rw[bg]at hl;obtain⟨z,hz,rfl⟩:=hl;have:=hb z hz;have hxb:∀y,y<16->QS y<256:=fun y hy=>by unfold QS;split<;>omega
     simp only[bd,b8,or_false]at hy;rcases hy with rfl|rfl
     .exact hxb _ gX
     .exact hxb _ gX
   .cases hy
  .omega
theorem Aa{l:List Raw}(h:∀x∈l,x.err=0/\∀y∈x.data,y<256):(Jj l).length<=5000*(J l):=by
 induction l with
 | nil=>simp[Jj]
 | cons x l ih=>
  have e:Jj (x :: l)=x.line++Jj l:=by simp[Jj]
  have h1:=(RZ (h x Dq).1 (h x Dq).2).2.1;have h2:=ih fun y hy=>h y (by simp[hy]);rw[e,ao,a0];omega
theorem Zar{l:List Raw}(h:l≠[]):Jj l≠[]:=by
 obtain⟨x,l,rfl⟩:=List.exists_cons_of_ne_nil h;intro e;have e2:Jj (x :: l)=x.line++Jj l:=by simp[Jj]
 rw[e2]at e;have:=(List.append_eq_nil_iff.1 e).1;unfold Raw.line Rb at this;simp at this
theorem lH(l:List Raw)(x:Raw):Jj (l++[x])=Jj l++x.line:=by simp[Jj]
section
variable {P:Program} {T:bD} {K:al->Hp->Prop} {h:Hp} {ty:TypeId}
theorem L4{sT:Nat}{cb:Array Bool}(H:K (am Y) h):Sa P T .unsafeSliceData #[sT] ty cb [Q Y 0 0] K h:=H
theorem L5{pT iT:Nat}{cb:Array Bool}(H:K (.string ⟨#[]⟩) h):Sa P T .unsafeString #[pT,iT] ty cb [am Y,U O 0] K h:=H
end
theorem dS(T:bD)(h:Hp)(b:Nat)(q:Option Addr)(hb:h[b]? = X (aa [.pointer q,Q Y 0 0].toArray 92)):
  Zc bc T 35 #[am (X ⟨b,0,Y⟩)] h fun v' h'=>v'=.string ⟨#[]⟩/\h'=h:=by
 refine Zc.Y8 [_] Tryz.func35 ?_;have x1:hc h ⟨b,1,Y⟩=X (Q Y 0 0):=by rw[Zg hb];rfl
 simp +contextual -implicitDefEqProofs only[go_sem,x1];refine VS.w ((b+1)) [] (.q 0 (.q 1 (.q 2 (.q 3 (.q 5 (.q 6 (.q 7 (.q 8 (.q 9 (.s 4 (.s 10 (.q 11 .nil)))))))))))) mixed po ?_;simp -implicitDefEqProofs only[go_sem,x1];refine L4 ?_;simp -implicitDefEqProofs only[go_sem,x1];refine L5 ?_;simp -implicitDefEqProofs only[go_sem,x1]
set_option maxHeartbeats 4000000 in
theorem Zas(T:bD)(h:Hp)(v:al)(xs:List (Raw × al))(hv:Ts QE 5 h v xs)(hx:∀x∈xs,Bs h x.2 x.1.data)(Ax:(J xs)<=2513169434916)(tw:Words h)(tp:Tv h):
  Zc bc T 17 #[v] h fun v' h'=>v'=.tuple (Shown (YQ xs)).toArray/\Zf h.size h h':=by
 obtain⟨p,c,rfl,YR⟩:=RY hv;have rl:(YQ xs).length=(J xs):=by unfold YQ;simp
 refine Zc.PX [_] Tryz.func17 ?_;by_cases HP:100000<(J xs)
 .have TI:((J xs):Int)>100000:=gX;have e2:Shown (YQ xs)=[Pj [],U O 0,U O 1]:=by unfold Shown;rw[rl,if_pos HP]
  rw[e2];simp -implicitDefEqProofs only[go_sem,TI]
  first|rfl|exact⟨rfl,Zf.refl _ _⟩|exact Zf.refl _ _
 have TI:¬((J xs):Int)>100000:=gX;obtain⟨G,hG⟩:=ZD (h.push (aa [am Y,Q Y 0 0].toArray 92):Hp);have eG:=hG.symm;have gB:G[h.size]? = X (aa [am Y,Q Y 0 0].toArray 92):=by rw[hG];exact Zb
 have gb:Zf h.size h G:=by rw[hG];exact Zf.push (aI _) _
 have bl0:dd h.size (Q Y 0 0) G []:=⟨⟨Y,.inl rfl,gB⟩,⟨Own.nil _ _ _ _,fun x hx=>by cases hx⟩⟩
 simp -implicitDefEqProofs only[go_sem,TI,eG];refine VS.Z9 (fun F g=>F 5=am (X ⟨h.size,0,Y⟩)/\F 12=Q p (J xs) c/\F 13=U O (J xs)/\Zf h.size h g/\∃(j:Nat) (w:al),j<=(J xs)/\F 14=U O j/\(∀x∈(YQ xs).take j,x.err=0)/\dd h.size w g (Jj ((YQ xs).take j))/\(j=0->w=Q Y 0 0))
  (fun F _=>(J xs)-(vi (F 14)).toNat) rfl ⟨rfl,rfl,rfl,gb,0,_,bR _,rfl,fun x hx=>by simp at hx,bl0,fun _=>rfl⟩ ?_
 rintro F2 g2 ⟨f5,f12,f13,b2,j,w,hj,f14,hz,bl,uV⟩;have WR:∀x∈YQ xs,∀y∈x.data,y<256:=fun x ue=>by
  unfold YQ at ue;obtain⟨z,hz,rfl⟩:=bg.1 ue;exact (hx z hz).byte
 have htl:=Aa (l:=(YQ xs).take j) fun x hx=>⟨hz x hx,WR x (bS hx)⟩
 rw[a6]at htl;by_cases ZL:j<(J xs)
 .have ZW:(j:Int)<(J xs):=gX;obtain⟨bb,oo,rfl,U9,Pq⟩:=YR (by intro e;rw[e]at ZL;simp at ZL);obtain⟨x,So⟩:=ZD (xs[j]);have ue:x∈xs:=by rw[So];exact bo ZL
  have ivh:=hx x ue;obtain⟨pd,cd,Pc,_⟩:=ivh.open;rw[Pc]at ivh;have r1:rd g2 ⟨bb,oo+j*5,Y⟩ 5=X (QE x):=by rw[JW b2 U9,So];exact Pq j ZL
  rw[ui]at r1;unfold YA at r1;rw[Pc]at r1;obtain⟨g3,LC⟩:=ZD (g2.push (aa (YA x.1.k x.1.n x.1.a x.1.b (Q pd x.1.data.length cd)).toArray 41):Hp);have e3:=LC.symm;have b3:Zf g2.size g2 g3:=by rw[LC];exact Zf.push (aI _) _
  have y3:g3[g2.size]? = X (aa (YA x.1.k x.1.n x.1.a x.1.b (Q pd x.1.data.length cd)).toArray 41):=by rw[LC];exact Zb
  have r3:rd g3 ⟨g2.size,0,Y⟩ 5=X (YA x.1.k x.1.n x.1.a x.1.b (Q pd x.1.data.length cd)):=Zs y3 rfl;have l3:=Za y3;have ck:=VE T g3 x.1.k x.1.n x.1.a x.1.b pd x.1.data.length cd;unfold YA at e3 r3 ck;simp -implicitDefEqProofs only[go_sem,f5,f12,f13,f14,ZW,r1,e3,r3,l3];refine ck.use ?_;rintro _ g4 ⟨rfl,b4⟩;have exr:x.1.err=XV x.1.k x.1.n x.1.a x.1.b x.1.data.length:=rfl;rw[<-exr];have y4:=b4.get l3 y3;have b24:Zf g2.size g2 g4:=b3.trans (b4.mono b3.size);have B4:Zf h.size h g4:=b2.trans (b24.mono b2.size);have r4:rd g4 ⟨g2.size,0,Y⟩ 5=X (YA x.1.k x.1.n x.1.a x.1.b (Q pd x.1.data.length cd)):=Zs y4 rfl;have l4:=Za y4;have Zat:(YQ xs)[j]'(by rw[rl];exact ZL)=x.1:=by unfold YQ;simp[So]
  by_cases hex:x.1.err=0
  .obtain⟨gk,gd,gg⟩:=Hv hex;have lo:=gm T g4 x.1.k x.1.n x.1.a x.1.b pd cd x.1.data gk (ivh.Yb B4) gd gg ⟨a8 tw.1 B4.size,fun k hk=>by rw[B4.hc tw.1];exact tw.2 k hk⟩ (by
    obtain⟨e,fr,ht⟩:=tp;exact⟨e,fr,B4.get (Za ht) ht⟩)
   unfold YA at lo r4;simp -implicitDefEqProofs only[go_sem,hex,r4,l4];refine lo.use ?_;rintro _ g5 ⟨rfl,b5⟩;have B5:Zf h.size h g5:=B4.trans (b5.mono B4.size);have b25:Zf g2.size g2 g5:=b24.trans (b5.mono b24.size);have bl5:dd h.size w g5 (Jj ((YQ xs).take j)):=by
    obtain⟨⟨q,hq,hb⟩,o⟩:=bl;have:=Za hb;exact⟨⟨q,hq,b25.get this hb⟩,o.Yb b25 gX⟩
   have lf:=RZ hex ivh.byte;simp -implicitDefEqProofs only[go_sem,f5];unfold Pj;refine (Jr T g5 _ _ _ (Rb x.1.k x.1.n x.1.a x.1.b x.1.data) bl5 lf.2.2 (by have:=lf.2.1;unfold Raw.line at this;omega)).use ?_;rintro _ g6 ⟨w6,bl6,kp6,_⟩;have hs5:=bl5.lt;have B6:Zf h.size h g6:=B5.trans (kp6.Yb gX (aI _) (fun y hy=>by have:=bl5.low y hy;omega));simp -implicitDefEqProofs only[go_sem,f5,f12,f13,f14];refine⟨⟨f5,f12,f13,B6,j+1,w6,ZL,rfl,fun y hy=>?_,?_,fun e=>by omega⟩,?_⟩
   .rw[Yp _ j (by rw[rl];exact ZL),a1,Zat]at hy;rcases hy with hy|hy
    .exact hz y hy
    .have:y=x.1:=by simpa using hy
     rw[this];exact hex
   .rw[Yp _ j (by rw[rl];exact ZL),Zat,lH];exact bl6
   .simp only[vi,Zk,↓reduceIte,f14];omega
  .have e2:Shown (YQ xs)=[Pj [],U O j,U O x.1.err]:=by
    unfold Shown;rw[rl,if_neg HP,Gw (j:=j) (by rw[rl];exact ZL) hz (by rw[Zat];exact hex),Zat,b0]
   rw[e2];simp -implicitDefEqProofs only[go_sem,hex];exact⟨rfl,B4⟩
 have YU:¬(j:Int)<(J xs):=gX;obtain rfl:j=(J xs):=gX;rw[a5 gX]at hz bl htl;have e2:Shown (YQ xs)=[Pj (Jj (YQ xs)),U O 0,U O 0]:=by
  unfold Shown;rw[rl,if_neg HP,PK hz]
 rw[e2];by_cases h0:(J xs)=0
 .have Ip:YQ xs=[]:=br gX;rw[Ip]at bl ⊢;obtain rfl:=uV h0;obtain⟨⟨q,hq,hb⟩,_⟩:=bl;simp -implicitDefEqProofs only[go_sem,f5,f12,f13,f14,YU];refine (dS T g2 h.size q hb).use ?_;rintro _ _ ⟨rfl,rfl⟩;simp -implicitDefEqProofs only[go_sem];exact⟨rfl,b2⟩
 .simp -implicitDefEqProofs only[go_sem,f5,f12,f13,f14,YU];refine (Mu T g2 _ _ _ bl ?_ gX).use ?_
  .exact Zar (fun e=>h0 (by rw[<-rl,e];rfl))
  rintro _ g3 ⟨rfl,kp3⟩;simp -implicitDefEqProofs only[go_sem];have:=bl.lt;exact⟨rfl,b2.trans (kp3.Yb gX (aI _) (fun y hy=>by have:=bl.low y hy;omega))⟩
theorem uk:∀k:Int,1<=k/\k<=9->NK (YF k)=k:=by
 intro k hk;have:k=1\/k=2\/k=3\/k=4\/k=5\/k=6\/k=7\/k=8\/k=9:=gX;rcases this with rfl|rfl|rfl|rfl|rfl|rfl|rfl|rfl|rfl<;>decide
theorem toNat_ofNat(h:∀x∈l,x<256):(l.map UInt8.ofNat).map UInt8.toNat=l:=by
 rw[List.map_map]
 conv=>rhs;rw[<-List.map_id l]
 refine bT fun x hx=>?_;have:=h x hx;simp only[Function.comp,id,UInt8.toNat_ofNat'];omega
theorem ul(hl:∀x∈l,x<256)(w:ByteArray):((⟨(l.map UInt8.ofNat).toArray⟩:ByteArray).toList == w.toList)=decide (l=bl w):=by
 rw[Lib.toList_data,Lib.toList_data];show ((l.map UInt8.ofNat) == w.data.toList)=decide (l=bl w);by_cases e:l=bl w
 .rw[decide_eq_true e,e];unfold bl;rw[List.map_map,show (UInt8.ofNat ∘ UInt8.toNat)=id from funext fun x=>UInt8.ofNat_toNat,List.map_id];exact beq_self_eq_true _
 .rw[decide_eq_false e];refine Bool.eq_false_iff.2 fun q=>e ?_;have q:=eq_of_beq q;unfold bl;rw[<-q,toNat_ofNat hl]
def UW:List Nat->List Nat->List Raw->List Raw × Int × Int
 | [],cur,acc=>if cur=[] then (acc,0,0) else if (J acc)=100000 then ([],100000,8) else ([],(J acc),3)
 | b :: l,cur,acc=>
  if b=10 then
   if (J acc)=100000 then ([],100000,8)
   else match BX (Xn cur) with
    | none=>([],(J acc),3)
    | some x=>UW l [] (acc++[x])
  else UW l (cur++[b]) acc
theorem lI(cur:List Nat)(acc:List Raw):UW [] cur acc=(if cur=[] then (acc,0,0) else if (J acc)=100000 then ([],100000,8) else ([],(J acc),3):List Raw × Int × Int):=rfl
theorem Oq(b:Nat)(l cur:List Nat)(acc:List Raw):UW (b :: l) cur acc=(if b=10 then (if (J acc)=100000 then ([],100000,8)
   else match BX (Xn cur) with
    | none=>([],(J acc),3)
    | some x=>UW l [] (acc++[x])) else UW l (cur++[b]) acc:List Raw × Int × Int):=rfl
theorem lJ{k:Int}{L:List (List Nat)}{x:Raw}(h:lG k L=X x):x.err=0/\x.k=k:=by
 unfold lG at h;split at h
 .cases h
 .split at h
  .cases h
  .rename_i d hd;generalize (if Yl k then Xm (L.getD 1 []) else 0)=n at h;generalize (if Xe k then Xm (L.getD 1 []) else 0)=a at h;generalize (if k=8 then Xm (L.getD 2 []) else 0)=b at h;split at h
   .cases h
   .rename_i Ys
    cases h
    exact⟨Decidable.of_not_not Ys,rfl⟩
def Zjp(r:List Raw × Int × Int)(h:Hp)(v:al):Prop:=
 ∃sv ys,v=.tuple #[sv,U O r.2.1,U O r.2.2]/\YQ ys=r.1/\Ts QE 5 h sv ys/\∀y∈ys,TD Ps h y.2 y.1.data
theorem TD.no{o:Ow}{v:al}(s:TD o h v l):TD Ps h v l:=⟨⟨s.1.sl,s.1.fits,fun b hb=>⟨(s.1.free b hb).1,rfl⟩⟩,s.2⟩
theorem Ab:Ts QE 5 h (Q Y 0 0) []:=(JD.nil 0 41 QE 5 h).ts
end Go.Proofs.YtdpjmhgbmhjniaaGreatDoor
