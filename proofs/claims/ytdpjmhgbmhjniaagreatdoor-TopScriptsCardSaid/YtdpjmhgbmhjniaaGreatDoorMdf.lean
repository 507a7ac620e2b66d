/- Part Mdf. -/
import Derived.Test.YtdpjmhgbmhjniaaGreatDoorMox
open Go.Value renaming slice→Q,int→U,pointer→aa,bool→a8,agg→ba
open Go.IntKind renaming i64→O
open Go.Obj renaming cells→ao
open Go.Proofs.Tryz renaming prog→bg
open List renaming length→Z,length_append→aI,append_nil→a5,append_assoc→a7,length_map→a9,range→be,eraseIdx_eq_take_drop_succ→bf,getElem?_eq_getElem→bn,getElem_map→bo,foldl_append→bD,take_of_length_le→bH,range'→bJ,length_take→bK,take_length→bL,getElem_mem→bP,map_append→bR,nil_append→bS,map→bT
open Nat renaming le_refl→az,add_sub_cancel_left→bG
open Option renaming isSome_some→bc,isSome_none→bd,getD_some→bh,getD_none→bk,map_some→bp,map_none→bz,some→av,none→ay
open Array renaming size_push→a0
open Bool renaming false_eq_true→bA
open And renaming intro→b0
open Go renaming Value→a6,World→bE
namespace Go.Proofs.YtdpjmhgbmhjniaaGreatDoor
open Go Go.V
set_option linter.all false
set_option maxRecDepth 100000
variable{h:Hp}{o:Ow}
def ZdM(B:Nat)(o:Ow)(h0 h:Hp)(u:a6)(LL:List (List Vt)):Prop:=
 ∃ws:List a6,Own B 117 1 h u (Z LL) ws/\D8 (fun w l=>WU o h0 w l/\(Z l)<=1000000) ws LL
def dy(o:Ow)(h:Hp)(u:a6)(LL:List (List Vt)):Prop:=∃p c,u=Q p (Z LL) c/\(LL≠[]->∃b off,p=av ⟨b,off,ay⟩/\b<h.size/\o b=ay/\∀i (hi:i<(Z LL)),∃w,hc h ⟨b,off+i,ay⟩=av w/\WU o h w LL[i]/\LL[i].length<=1000000)
theorem dy.vss{u:a6}{LL:List (List Vt)}(s:dy o h u LL):Vss h u LL:=by
 obtain⟨p,c,hv,hh⟩:=s;refine⟨p,c,hv,fun Ys=>?_⟩;obtain⟨b,off,h1,h2,h3,h4⟩:=hh Ys;refine⟨b,off,h1,h2,fun i hi=>?_⟩;obtain⟨w,g1,g2,g3⟩:=h4 i hi;exact⟨w,g1,g2.ts,gX⟩
theorem dy.Zd{S:Tg->Prop}{o':Ow}{h':Hp}{u:a6}{LL:List (List Vt)}(s:dy o h u LL)(k:Kp S o h o' h'):dy o' h' u LL:=by
 obtain⟨p,c,hv,hh⟩:=s;refine⟨p,c,hv,fun Ys=>?_⟩;obtain⟨b,off,h1,h2,h3,h4⟩:=hh Ys;obtain⟨q1,q2⟩:=k.Zd b h2 fun t ht=>by rw[h3]at ht;cases ht
 refine⟨b,off,h1,Nat.lt_of_lt_of_le h2 k.size,q2.trans h3,fun i hi=>?_⟩;obtain⟨w,g1,g2,g3⟩:=h4 i hi;refine⟨w,?_,g2.Zd k,g3⟩;unfold hc at g1 ⊢;rw[q1];exact g1
theorem ZdM.ZrK{h0:Hp}{u:a6}{LL:List (List Vt)}(s:ZdM h0.size o h0 h u LL)(d:UO o h0)(hb:Zf h0.size h0 h):dy o h u LL:=by
 obtain⟨ws,Zy,al⟩:=s;have zE:(Z ws)=(Z LL):=by
  clear Zy
  induction al with
  | nil=>rfl
  | cons _ _ ih=>simp[ih]
 have ZrL:∀i (hi:i<(Z LL)),∃w,ws[i]? = av w/\WU o h0 w LL[i]/\LL[i].length<=1000000:=by
  clear Zy zE
  induction al with
  | nil=>intro i hi;simp at hi
  | cons FY _ ih=>
   intro i hi
   cases i with
   | zero=>exact⟨_,rfl,FY⟩
   | succ i=>exact ih i (by simpa using hi)
 obtain⟨p,c,hv,hl,YR⟩:=Zy.sl;refine⟨p,c,hv,fun Ys=>?_⟩;have KC:0<(Z LL):=List.length_pos_iff.2 Ys;obtain⟨b,off,rfl,MR⟩:=YR (by intro e;rw[e]at zE;simp at zE;omega);have hbB:h0.size<=b:=by
  refine Zy.ZQ b ?_;rcases Zy with⟨⟨q,h1⟩,h2,h3⟩|⟨b',cap,sp,_,h1,_,_,_,hm⟩
  .subst h3;simp at zE;omega
  .rw[hv]at h1;simp only[Value.slice.injEq,Option.some.injEq,Addr.mk.injEq]at h1;obtain⟨⟨rfl,_,_⟩,h12,h13⟩:=h1;rw[hv];have:c≠0:=gX;simp[ZJ,this]
 refine⟨b,off,rfl,UJ (MR 0 gX),d b hbB,fun i hi=>?_⟩;obtain⟨w,h1,h2,h3⟩:=ZrL i hi;have Av:i<(Z ws):=gX;rw[bn Av]at h1;exact⟨w,by rw[MR i Av,Option.some.inj h1],h2.Zd (ZN d hb),h3⟩
theorem BD{α β:Type}{R:α->β->Prop}{l:List α}{k:List β}(s:D8 R l k){a:α}{b:β}(h:R a b):D8 R (l++[a]) (k++[b]):=by
 induction s with
 | nil=>exact .cons h .nil
 | cons x _ ih=>exact .cons x ih
theorem kK(l:List Vt)(v:Vt):Bn (l++[v])=if Bn l<v.ZA then v.ZA else Bn l:=by
 unfold Bn;rw[bD];rfl
theorem YZ.gI{i:Nat}{ra:RA}{r:Q9}(s:YZ o i h ra r)(d:UO o h){k:Int}{x:Cm}:
  Kp (fun t=>t=.Xf i) o h o (h.setIfInBounds ra.qb (XJ (ins (U2 Vv r.Xf) k (ba x.C.toArray))))/\YZ o i (h.setIfInBounds ra.qb (XJ (ins (U2 Vv r.Xf) k (ba x.C.toArray)))) ra { r with Xf:=ins r.Xf k x }:=by
 have kk:Kp (fun t=>t=.Xf i) o h o (h.setIfInBounds ra.qb (XJ (ins (U2 Vv r.Xf) k (ba x.C.toArray)))):=(Kp.refl d (fun t=>t=.Xf i)).set s.Xf.1 rfl _;exact⟨kk,s.ZQ.Zd kk MI,s.Yw.Zd kk MI,s.Rj.Zd kk,⟨s.Xf.1,by rw[ZE s.Xf.2,SI];rfl⟩,s.JV.Zd kk MI,s.T5.Zd kk (fun _ e=>by cases e),s.keys⟩
theorem T6(r:Q9):(Ja r).length=5:=rfl
theorem Fy(r:Q9)(m:Nat)(hm:m<(Ja r).length):(Ja r)[m]=(XD r.Yw (m:Int)).getD []:=by
 simp only[Ja,bo,List.getElem_range]
theorem YZ.list{i:Nat}{ra:RA}{r:Q9}(s:YZ o i h ra r)(hp:∀x∈r.Yw,x.2.length<=1000000)(m:Int):∃p c vs,(XD ra.pv m).getD (Q ay 0 0)=Q p (Z vs) c/\(XD r.Yw m).getD []=vs/\WU o h (Q p (Z vs) c) vs/\(Z vs)<=1000000:=by
 rcases s.Rj.XD m with⟨h1,h2⟩|⟨w,vs,h1,h2,iv⟩
 .exact⟨ay,0,[],by rw[h1];rfl,by rw[h2];rfl,Im.nil _ _ _ _,Dq⟩
 .obtain⟨p,c,rfl⟩:=iv.ZM;exact⟨p,c,vs,by rw[h1];rfl,by rw[h2];rfl,iv,hp _ (Kg h2)⟩
set_option maxHeartbeats 1000000 in
theorem tq(T:bE)(h:Hp)(o:Ow)(wb i nb:Nat)(a:NA)(n:Nd)(ra:RA)(r:Q9)(d:UO o h)(N:ZV o h wb i nb { a with Zi:=av ra } { n with Zi:=av r })(hp:∀x∈r.Yw,x.2.length<=1000000)(hs:∀x∈r.Yw,∀v∈x.2,v.ZA<=1000000)(hl:n.ZP.length<=1000000000000):
  Zc bg T 162 #[Zr nb,Zr ra.rb] h fun v' h'=>∃ra',ra'.rb=ra.rb/\Kp (X6 i) o h o h'/\ZV o h' wb i nb { a with Zi:=av ra' } { n with Zi:=av (Rd n r) }:=by
 have VZ:=Za N.ZQ.2;have R:YZ o i h ra r:=N.pt.Zi;have dj:=Za R.ZQ.2;refine Zc.Y8 [_,_] Tryz.func162 ?_;unfold Zr;simp -implicitDefEqProofs only[go_sem];refine VS.Z9 (fun F g=>Zf h.size h g/\F 0=aa (av ⟨nb,0,ay⟩)/\F 1=aa (av ⟨ra.rb,0,ay⟩)/\∃m:Nat,m<=5/\F 12=U O m/\ZdM h.size o h g (F 4) ((Ja r).take m)/\F 5=U O (Bn ((Ja r).take m).flatten))
  (fun F _=>5-(vi (F 12)).toNat) rfl ⟨Zf.refl _ _,rfl,rfl,0,gX,rfl,⟨[],Own.nil _ _ _ _,.nil⟩,rfl⟩ ?_
 rintro F g ⟨hg,f0,f1,m,hm,f12,hG,f5⟩;have kg:=ZN d hg;have N1:=N.Zu kg;have R1:=R.Zd kg (fun _ _ q=>q);obtain⟨_,q2,q3,q4,_⟩:=R1.rr;have gs:=hg.size;by_cases ZL:m<5
 .have ZW:(m:Int)<5:=gX;obtain⟨pm,cm,vs,e1,e2,iv,rD⟩:=R1.list hp (m:Int);have hm5:m<(Ja r).length:=by rw[T6];exact ZL
  have e3:(Ja r)[m]=vs:=by rw[Fy,e2]
  have e4:(Ja r).take (m+1)=(Ja r).take m++[vs]:=by rw[Yp _ m hm5,e3]
  have lk:=fun (G:Hp) (hG:Zf g.size g G) (K:a6->Hp->Prop)=>YK (h:=G) (K:=K) (n:=(m:Int)) (c:=false) Lt sA (hG.get (Za R1.Yw.2) R1.Yw.2);simp only[e1,bA,if_false]at lk;have lk0:=lk g (Zf.refl _ _);obtain⟨ws,Zy,al⟩:=hG;obtain⟨p4,c4,hF4⟩:∃p c,F 4=Q p ((Ja r).take m).length c:=by
   obtain⟨p,c,h1,_⟩:=Zy.sl;exact⟨p,c,h1⟩
  have ml:((Ja r).take m).length=m:=by rw[bK,T6];omega
  rw[ml]at hF4 Zy;rw[hF4]at Zy;simp -implicitDefEqProofs only[go_sem,f0,f1,f5,f12,hF4,ZW,q2,lk0];have src:Sl 1 (g.push (ao [Q pm (Z vs) cm].toArray 117)) (Q (av ⟨g.size,0,ay⟩) 1 1) 1 [Q pm (Z vs) cm]:=Sl.made Dq 1;refine MU (E:=117) (n:=1) (B:=h.size) (bytes:=24) (m:=m) (k:=1) (cs:=ws) ZcD Tryz.underlying298 ZgN ZgP rfl ZgO (Zy.push _) L6 src rfl gX gX ?_;intro u3 g3 ZiW ZrN _;have LC:Zf h.size h g3:=(hg.Yx gX _).trans (ZrN.Yb L6 (Zy.push (ao [Q pm (Z vs) cm].toArray 117)).ZQ);have kg3:=ZN d LC;have R3:=R.Zd kg3 (fun _ _ q=>q);obtain⟨_,q23,_,_,_⟩:=R3.rr;have lk3:=fun (K:a6->Hp->Prop)=>YK (K:=K) (n:=(m:Int)) (c:=false) Lt sA R3.Yw.2;simp only[e1,bA,if_false]at lk3;obtain⟨p5,c5,rfl⟩:∃p c,u3=Q p (m+1) c:=by obtain⟨p,c,h1,_⟩:=ZiW.sl;exact⟨p,c,h1⟩
  have iv0:WU o h (Q pm (Z vs) cm) vs:=by
   obtain⟨pm',cm',vs',x1,x2,iv',_⟩:=R.list hp (m:Int);rw[e1]at x1;rw[e2]at x2;subst x2;rw[<-x1]at iv';exact iv'
  have al3:D8 (fun w l=>WU o h w l/\(Z l)<=1000000) (ws++[Q pm (Z vs) cm]) ((Ja r).take m++[vs]):=by
   exact BD al ⟨iv0,rD⟩
  simp -implicitDefEqProofs only[go_sem,f0,f1,f5,f12,ZW,q23,lk3];obtain⟨LL,hLL⟩:=ZD (((Ja r).take m).flatten);have yp:((Ja r).take (m+1)).flatten=LL++vs:=by rw[e4,List.flatten_append,<-hLL];simp
  rw[<-hLL]at f5;have ivo:=fun g' (hb:Zf h.size h g')=>Hd (iv0.Zd (ZN d hb)).ts;refine VS.Z9 (fun F' g'=>Zf h.size h g'/\F' 0=aa (av ⟨nb,0,ay⟩)/\F' 1=aa (av ⟨ra.rb,0,ay⟩)/\F' 12=U O m/\F' 29=Q pm (Z vs) cm/\F' 30=U O (Z vs)/\F' 4=Q p5 (m+1) c5/\Own h.size 117 1 g' (Q p5 (m+1) c5) (m+1) (ws++[Q pm (Z vs) cm])/\∃j:Nat,j<=(Z vs)/\F' 31=U O j/\F' 5=U O (Bn (LL++vs.take j)))
   (fun F' _=>(Z vs)-(vi (F' 31)).toNat) rfl ⟨LC,f0,f1,f12,rfl,rfl,rfl,ZiW,0,gX,rfl,by rw[List.take_zero,a5];exact f5⟩ ?_
  rintro F2 g4 ⟨Vw,f0,f1,f12,f29,f30,f4,ZiX,j,hj,f31,f5⟩;by_cases AL:j<(Z vs)
  .have ZrO:(j:Int)<(Z vs):=gX;obtain⟨pp,cc,hv1,qN⟩:=ivo g4 Vw;obtain⟨bb,oo,hpp,U9,Pq⟩:=qN (by intro e;rw[e]at AL;simp at AL);simp only[Value.slice.injEq]at hv1;obtain⟨rfl,_,rfl⟩:=hv1;subst hpp;have r1:=Pq j AL;unfold Zn at r1;simp -implicitDefEqProofs only[go_sem,f0,f1,f12,f29,f30,f4,f31,f5,ZrO,r1];unfold XB;refine⟨⟨Vw.Yx Vw.size _,f0,f1,f12,f29,f30,f4,ZiX.push _,j+1,AL,rfl,?_⟩,?_⟩
   .show Value.int O _=_;rw[Yp vs j AL,<-a7,kK]
   .simp only[vi,Zk,↓reduceIte,f31];omega
  .have YU:¬(j:Int)<(Z vs):=gX;obtain rfl:j=(Z vs):=gX;rw[bL]at f5;simp -implicitDefEqProofs only[go_sem,f30,f31,YU,f12];unfold XB;refine⟨⟨Vw,f0,f1,m+1,ZL,rfl,⟨_,?_,by rw[e4];exact al3⟩,by rw[yp];exact f5⟩,?_⟩
   .show Own _ _ _ _ (F2 4) _ _;rw[f4,e4,aI,ml];exact ZiX
   .simp only[vi,Zk,↓reduceIte,f12];omega
 .have YU:¬(m:Int)<5:=gX;obtain rfl:m=5:=gX;have ht5:(Ja r).take 5=Ja r:=by rw[bH];exact Nat.le_of_eq (T6 r)
  rw[ht5]at hG f5;have P1:=ZI N1.ZQ.2 N1.pt.store.len;have Qb:=Za N1.ZQ.2;obtain⟨lp,lc,Gv,_⟩:=YP.ZM N1.pt.ZP;have P11:=P1.ZP;rw[Gv]at P11;have kL:=hG.ZrK d hg;obtain⟨u,hu⟩:=ZD (F 4);rw[<-hu]at kL hG;obtain⟨Z4,jR⟩:=ZD (Bn (Ja r).flatten);rw[<-jR]at f5;have htl:Z4<=1000000:=by
   rw[jR];have key:∀(l:List Vt) (t:Int),t<=1000000->(∀v∈l,v.ZA<=1000000)->l.foldl (fun t v=>if t<v.ZA then v.ZA else t) t<=1000000:=by
    intro l
    induction l with
    | nil=>intro t ht _;exact ht
    | cons x l ih=>
     intro t ht hh;refine ih _ ?_ (fun v hv=>hh v (List.mem_cons_of_mem _ hv));show (if t<x.ZA then x.ZA else t)<=1000000;split
     .exact hh x List.mem_cons_self
     .exact ht
   refine key _ _ gX ?_;intro v hv;simp only[List.mem_flatten]at hv;obtain⟨l,qa,FL⟩:=hv;obtain⟨k,hk,rfl⟩:=List.getElem_of_mem qa;rw[Fy]at FL
   cases hx:XD r.Yw (k:Int) with
   | none=>rw[hx]at FL;cases FL
   | some y=>rw[hx]at FL;exact hs _ (Kg hx) v FL
  clear hG;obtain⟨LL,hLL⟩:=ZD (Ja r);rw[<-hLL]at kL jR;obtain⟨C,hC⟩:=ZD ((Z4+1).toNat-n.ZP.length);have LW:Rd n r = { r with Xf:=(bJ n.ZP.length C).foldl (Uz n LL) r.Xf,Rc:=true }:=by
   unfold Rd;rw[hC,jR,hLL]
  rw[LW];have hu':=hu.symm;simp -implicitDefEqProofs only[go_sem,f0,f1,f5,f12,YU,P11];refine VS.Z9 (fun F' g'=>Kp (X6 i) o h o g'/\F' 0=aa (av ⟨nb,0,ay⟩)/\F' 1=aa (av ⟨ra.rb,0,ay⟩)/\F' 4=u/\F' 5=U O Z4/\dy o g' u LL/\∃k:Nat,k<=C/\F' 9=U O ((n.ZP.length+k:Nat):Int)/\ZV o g' wb i nb { a with Zi:=av ra } { n with Zi:=av { r with Xf:=(bJ n.ZP.length k).foldl (Uz n LL) r.Xf } })
   (fun F' _=>n.ZP.length+C-(vi (F' 9)).toNat) rfl ⟨ZR kg,f0,f1,hu',f5,kL,0,gX,rfl,N1⟩ ?_
  rintro F2 g2 ⟨K2,f0,f1,f4,f5,kL,k,hk,f9,N2⟩;obtain⟨pk,xV⟩:=ZD ((bJ n.ZP.length k).foldl (Uz n LL) r.Xf);rw[<-xV]at N2;have R2:YZ o i g2 ra { r with Xf:=pk }:=N2.pt.Zi;obtain⟨_,_,_,q4,_⟩:=R2.rr;have P2:=ZI N2.ZQ.2 N2.pt.store.len;have Qj:=Za N2.ZQ.2;have By:=Za R2.ZQ.2;by_cases hkc:k<C
  .have hle:(((n.ZP.length+k:Nat):Int))<=Z4:=gX;have lk:=fun (K:a6->Hp->Prop)=>YK (K:=K) (n:=((n.ZP.length+k:Nat):Int)) (c:=true) TC Nw N2.pt.Zp.2;rw[XI]at lk;have Y5:(bJ n.ZP.length (k+1)).foldl (Uz n LL) r.Xf=Uz n LL pk (n.ZP.length+k):=by
    rw[List.range'_concat,bD,<-xV];simp
   cases hx:XD n.Zp ((n.ZP.length+k:Nat):Int) with
   | some y=>
    have e6:Uz n LL pk (n.ZP.length+k)=pk:=by unfold Uz;rw[if_neg (by rw[hx];simp)]
    simp only[show ({ n with Zi:=av { r with Xf:=pk } }:Nd).Zp=n.Zp from rfl,hx,bp,bh,bc,↓reduceIte]at lk;simp -implicitDefEqProofs only[go_sem,f0,f1,f4,f5,f9,hle,P2.Zp,lk,Vv];have kx:=Yc K2.Ya (ao y.C.toArray 43);unfold XB;refine⟨⟨K2.push _,f0,f1,f4,f5,kL.Zd kx,k+1,hkc,?_,by rw[Y5,e6];exact N2.Zu kx⟩,?_⟩
    .show Value.int O _=Value.int O _
     congr 1
    .simp only[vi,Zk,↓reduceIte,f9];omega
   | none=>
    have e6:Uz n LL pk (n.ZP.length+k)=ins pk ((n.ZP.length+k:Nat):Int) (Bo LL ((n.ZP.length+k:Nat):Int)):=by unfold Uz;rw[if_pos hx]
    simp only[show ({ n with Zi:=av { r with Xf:=pk } }:Nd).Zp=n.Zp from rfl,hx,bz,bk,bd,↓reduceIte]at lk;simp -implicitDefEqProofs only[go_sem,f0,f1,f4,f5,f9,hle,P2.Zp,lk];obtain⟨g3,LC⟩:=ZD (g2.push (ao vm.C.toArray 43):Hp);have kx:Kp QC o g2 o g3:=by rw[LC];exact Yc K2.Ya _
    rw[<-LC];have N3:=N2.Zu kx;have R3:YZ o i g3 ra { r with Xf:=pk }:=N3.pt.Zi;obtain⟨_,_,_,q43,_⟩:=R3.rr;have ZrP:=Za R3.ZQ.2;have hv3:=kL.Zd kx;have LLl:(Z LL)<=4611686018427387904:=by rw[hLL,T6];omega
    refine VS.z (g3.size) [12] (.p 0 (.p 1 (.p 2 (.q 3 (.p 4 (.p 5 (.p 6 (.s 7 (.p 8 (.p 9 (.p 10 (.p 11 (.w 12 .nil))))))))))))) mixed po ?_;simp -implicitDefEqProofs only[go_sem,f0,f1,f4,f5,f9,q43,ZrP];refine (xQ T g3 u LL ((n.ZP.length+k:Nat):Int) hv3.vss LLl).use ?_;rintro _ g4 ⟨yn,b4⟩;unfold EG at yn;subst yn;have k4:=ZN kx.Ya b4;have N4:=N3.Zu k4;have R4:YZ o i g4 ra { r with Xf:=pk }:=N4.pt.Zi;have eC:EF (if RO ((n.ZP.length+k:Nat):Int) LL.flatten=0 then WE ((n.ZP.length+k:Nat):Int) LL.flatten else S5)=(Bo LL ((n.ZP.length+k:Nat):Int)).C:=by
     unfold Bo;split<;>rfl
    rw[eC];simp -implicitDefEqProofs only[go_sem,b4,f0,f1,f4,f5,f9];rw[Jg TC R4.Xf.2];obtain⟨k5,R5⟩:=R4.gI k4.Ya (k:=((n.ZP.length+k:Nat):Int)) (x:=Bo LL ((n.ZP.length+k:Nat):Int));have k5':Kp (X6 i) o g4 o _:=k5.mono fun t q=>.inr (.inr (.inl q));simp -implicitDefEqProofs only[go_sem,f9];unfold XB;refine⟨⟨(K2.trans ((ZR kx).trans (ZR k4))).trans k5',f0,f1,f4,f5,(hv3.Zd k4).Zd k5',k+1,hkc,?_,?_⟩,?_⟩
    .show Value.int O _=Value.int O _
     congr 1
    .rw[Y5,e6];exact⟨N4.ZQ.Zd k5 MI,Z7.QO N4.pt k5' rfl rfl R5⟩
    .simp only[vi,Zk,↓reduceIte,f9];omega
  .have hgt:¬(((n.ZP.length+k:Nat):Int))<=Z4:=gX;obtain rfl:k=C:=gX;obtain⟨g4,w4,h4⟩:∃g4,Jb g2 ⟨ra.rb,3,ay⟩ (a8 true)=av g4/\g4=g2.setIfInBounds ra.rb (ao (di { r with Xf:=pk,Rc:=true } ra).toArray 194):=by
    refine⟨_,?_,rfl⟩;rw[Ye R2.ZQ.2,if_pos ⟨by simp[di],rfl⟩];rfl
   simp -implicitDefEqProofs only[go_sem,f0,f1,f4,f5,f9,hgt,By,w4];have kk:Kp (fun t=>t=.Zi i) o g2 o g4:=by rw[h4];exact (Kp.refl K2.Ya (fun t=>t=.Zi i)).set R2.ZQ.1 rfl _
   have R4:YZ o i g4 ra { r with Xf:=pk,Rc:=true }:=⟨⟨R2.ZQ.1,by rw[h4];exact ZE R2.ZQ.2⟩,R2.Yw.Zd kk MI,R2.Rj.Zd kk,R2.Xf.Zd kk MI,R2.JV.Zd kk MI,R2.T5.Zd kk (fun _ e=>by cases e),R2.keys⟩
   rw[<-xV];refine⟨ra,rfl,K2.trans (kk.mono fun t q=>.inl q),N2.ZQ.Zd kk MI,Z7.QO N2.pt (kk.mono fun t q=>.inl q) rfl rfl R4⟩
theorem QD{α:Type}(f:Nat->List α)(m:Nat):(be (m+1)).flatMap f=(be m).flatMap f++f m:=by
 rw[List.range_succ,List.flatMap_append];simp
theorem WN{α:Type}(f:Nat->List α)(k m:Nat)(h:∀i,(f i).length<=k):((be m).flatMap f).length<=m*k:=by
 induction m with
 | zero=>simp
 | succ m ih=>rw[QD,aI,Nat.add_mul];have:=h m;omega
theorem kM{n n':Nd}(hk:n.Zp=n'.Zp)(r:Q9)(x:Cm):∀k s,U7 n r x k s=U7 n' r x k s:=by
 intro k
 induction k with
 | zero=>intro s;rfl
 | succ k ih=>intro s;unfold U7;rw[hk,ih]
theorem EZ{n n':Nd}(hk:n.Zp=n'.Zp)(hl:n.ZP=n'.ZP)(r:Q9)(x:Cm):free n r x=free n' r x:=by
 unfold free;rw[hl,kM hk]
theorem tC{n n':Nd}(hk:n.Zp=n'.Zp)(hl:n.ZP=n'.ZP)(r:Q9)(x:Cm):TA n r x=TA n' r x:=by
 unfold TA;rw[EZ hk hl]
theorem dz{n n':Nd}(hk:n.Zp=n'.Zp)(hl:n.ZP=n'.ZP):∀(l:List Cm) (r:Q9),Qi n r l=Qi n' r l:=by
 intro l
 induction l with
 | nil=>intro r;rfl
 | cons x l ih=>intro r;show Qi n (TA n r x) l=Qi n' (TA n' r x) l;rw[tC hk hl,ih]
theorem kO{n n':Nd}(hk:n.Zp=n'.Zp)(LL:List (List Vt)):Uz n LL=Uz n' LL:=by
 funext pr s;unfold Uz;rw[hk]
theorem kP{n n':Nd}(hk:n.Zp=n'.Zp)(hl:n.ZP=n'.ZP)(r:Q9):Rd n r=Rd n' r:=by
 unfold Rd;rw[hl,kO hk]
theorem zF{n n':Nd}(hk:n.Zp=n'.Zp)(hm:n.me=n'.me)(r:Q9):VP n r=VP n' r:=by
 funext s;unfold VP Nv;rw[hk,hm]
theorem tD{n n':Nd}(hk:n.Zp=n'.Zp)(hm:n.me=n'.me)(r:Q9):I5 n r=I5 n' r:=by
 unfold I5;rw[zF hk hm]
set_option maxHeartbeats 4000000 in
theorem zH(T:bE)(h:Hp)(o:Ow)(wb i nb:Nat)(Yr:Nat->Nat)(a:NA)(n:Nd)(ra:RA)(r:Q9)(YW:WA)(fl:List XR)(Yj:Nat->Int)(ZB:List Pk)(d:UO o h)(N:ZV o h wb i nb { a with Zi:=av ra } { n with Zi:=av r })(W:ZS o h wb Yr YW fl Yj ZB)(tb:Az o h)(YB:(Z fl)<=900000000000)(rD:n.Zy.l.length<=1000000)(mM:(Z n.data)<=1000000)(hp:∀x∈r.Yw,x.2.length<=1000000)(hs:∀x∈r.Yw,∀v∈x.2,v.ZA<=1000000)(KB:r.Yw.length<=1000000000000)(hl:n.ZP.length<=1000000000000)(hq:n.Zw.length<=1000000000000):
  Zc bg T 132 #[Zr wb,Zr nb,Zr ra.rb] h fun v' h'=>∃o' a' XS,Kp (X1 i) o h o' h'/\ZV o' h' wb i nb a' (UU { n with Zi:=av r } r).n/\ZS o' h' wb Yr XS (fl++(UU { n with Zi:=av r } r).ls) Yj ZB:=by
 refine Zc.Y8 [_,_,_] Tryz.func132 ?_;obtain⟨h1,YX⟩:=ZD ((h.push (ao [Zr nb].toArray 112)).push (ao [Zr ra.rb].toArray 120):Hp);have k1:Kp QC o h o h1:=by rw[YX];exact ((Kp.refl d _).push _).push _
 have x4:ZY o h1 h.size (ao [Zr nb].toArray 112):=⟨d _ (az _),by rw[YX];exact kF _ _ _⟩
 have x5:ZY o h1 (h.size+1) (ao [Zr ra.rb].toArray 120):=⟨d _ gX,by rw[YX];exact mW _ _ _⟩
 have e0:=YX.symm;unfold Zr at e0 ⊢;have N1:=N.Zu k1;have W1:=W.Zu k1;have R1:YZ o i h1 ra r:=N1.pt.Zi;obtain⟨q0,q2,q3,q4,q5⟩:=R1.rr;have P1:=ZI N1.ZQ.2 N1.pt.store.len;have l4:=Za x4.2;have l5:=Za x5.2;have AC:=Za R1.ZQ.2;have Qb:=Za N1.ZQ.2;have r4:hc h1 ⟨h.size,0,ay⟩=av (Zr nb):=Zg x4.2;have r5:hc h1 ⟨h.size+1,0,ay⟩=av (Zr ra.rb):=Zg x5.2;unfold Zr at r4 r5;have zI:rd h1 ⟨nb,4,ay⟩ 2=av (JF n.Zy.p):=P1.Bp;simp -implicitDefEqProofs only[go_sem,e0];refine VS.mono (N:=fun F' g'=>Zf h1.size h1 g'/\F' 0=aa (av ⟨wb,0,ay⟩)/\F' 4=aa (av ⟨h.size,0,ay⟩)/\F' 5=aa (av ⟨h.size+1,0,ay⟩)/\F' 35=a8 (decide (Y4 n.Zy.p r.b))) ?_ ?_ (fun _ _ _ h=>h) (fun _ _ h=>h)
 .refine VS.z (h1.size) [9] (.q 0 (.p 1 (.p 2 (.q 3 (.q 4 (.p 5 (.p 6 (.p 7 (.q 8 (.w 9 .nil)))))))))) mixed po ?_;simp -implicitDefEqProofs only[go_sem,r4,r5,q0,zI,l4,l5,AC,Qb];refine (NB T h1 r.b n.Zy.p).use ?_;rintro _ g ⟨rfl,b⟩;simp -implicitDefEqProofs only[go_sem,b]
 rintro F1 g1 ⟨b1,f0,f4,f5,f35⟩;have kb:=ZN k1.Ya b1
 replace N1:=N1.Zu kb
 replace W1:=W1.Zu kb
 replace k1:=k1.trans kb
 replace x4:=x4.Zd kb
 replace x5:=x5.Zd kb
 have tb1:=tb.Zd k1;clear R1 q0 q2 q3 q4 q5 P1 zI l4 l5 AC Qb r4 r5 e0;have R1:YZ o i g1 ra r:=N1.pt.Zi;obtain⟨q0,q2,q3,q4,q5⟩:=R1.rr;have P1:=ZI N1.ZQ.2 N1.pt.store.len;have l4:=Za x4.2;have l5:=Za x5.2;have AC:=Za R1.ZQ.2;have Qb:=Za N1.ZQ.2;have r4:hc g1 ⟨h.size,0,ay⟩=av (Zr nb):=Zg x4.2;have r5:hc g1 ⟨h.size+1,0,ay⟩=av (Zr ra.rb):=Zg x5.2;unfold Zr at r4 r5;by_cases c1:Y4 n.Zy.p r.b
 .have tE:=P1.Zy;obtain⟨pv,cv,gG⟩:=N1.pt.Xh.ZM;have gG:a.Xh=Q pv n.Zy.l.length cv:=gG;have tE:rd g1 ⟨nb,4,ay⟩ 3=av [U O n.Zy.p.r,U O n.Zy.p.n,Q pv n.Zy.l.length cv]:=by rw[<-gG];exact tE
  have N1v:WU o g1 (Q pv n.Zy.l.length cv) n.Zy.l:=by rw[<-gG];exact N1.pt.Xh
  unfold JF at q0;have call:∀G,Zf g1.size g1 G->Zc bg T 134 #[ba #[U O n.Zy.p.r,U O n.Zy.p.n,Q pv n.Zy.l.length cv],ba #[U O r.b.r,U O r.b.n]] G fun v' h'=>Cv G.size h' v' n.Zy.p n.Zy.l r.b/\Zf G.size G h':=fun G hG=>
   TX T G n.Zy.p _ n.Zy.l r.b (N1v.ts.Yb hG) gX
  obtain⟨E,hE⟩:=ZD (YT n.Zy.p n.Zy.l r.b);have wA:∀(G:Hp) (k:Nat) (r m:Int) (p:Option Addr) (L c:Nat),G[k]? = av (ao [U O 0,U O 0,Q ay 0 0].toArray 119)->wr G ⟨k,0,ay⟩ [U O r,U O m,Q p L c]=av (G.setIfInBounds k (ao [U O r,U O m,Q p L c].toArray 119)):=fun G k r m p L c hx=>by
   rw[Z2 hx 0 _];rfl
  have wB:∀(G:Hp) (k:Nat) (p:Option Addr) (L c:Nat),G[k]? = av (ao [Q ay 0 0].toArray 117)->Jb G ⟨k,0,ay⟩ (Q p L c)=av (G.setIfInBounds k (ao [Q p L c].toArray 117)):=fun G k p L c hx=>by
   rw[Ye hx 0 _];rfl
  simp -implicitDefEqProofs only[go_sem,f35,c1];refine VS.mono (N:=fun F' g'=>Zf g1.size g1 g'/\F' 4=aa (av ⟨h.size,0,ay⟩)/\F' 5=aa (av ⟨h.size+1,0,ay⟩)/\gF g1.size g' (F' 6) (F' 7) n.Zy.p n.Zy.l r.b) ?_ ?_ (fun _ _ _ h=>h) (fun _ _ h=>h)
  .refine VS.z (g1.size) [8,15,16] (.q 0 (.p 1 (.p 2 (.q 3 (.q 4 (.p 5 (.p 6 (.q 7 (.or 8 (.p 9 (.p 10 (.p 11 (.p 12 (.or 13 (.s 14 (.w 15 (.w 16 (.p 17 .nil)))) (.s 14 (.s 13 (.w 15 (.w 16 (.p 17 .nil)))))))))) (.or 13 (.or 8 (.p 9 (.p 10 (.p 11 (.p 12 (.s 14 (.w 15 (.w 16 (.p 17 .nil)))))))) (.s 14 (.w 8 (.p 9 (.p 10 (.p 11 (.p 12 (.w 15 (.w 16 (.p 17 .nil)))))))))) (.s 14 (.or 8 (.p 9 (.p 10 (.p 11 (.p 12 (.s 13 (.w 15 (.w 16 (.p 17 .nil)))))))) (.s 13 (.w 8 (.p 9 (.p 10 (.p 11 (.p 12 (.w 15 (.w 16 (.p 17 .nil))))))))))))))))))))) mixed po ?_;simp -implicitDefEqProofs only[go_sem,f4,f5,r4,r5,tE,q0,Qb,AC,l4,l5];unfold gF Zr Y0
   repeat' (first|with_reducible exact Zf.refl _ _|with_reducible exact Zf.push gX _|with_reducible refine b0 ?_ ?_)
   all_goals first
    | (refine (call g1 (Zf.refl _ _)).use ?_
       rintro _ g5 ⟨⟨w1,w2,rfl,o1,o2⟩,b5⟩;obtain⟨p1,c1,rfl,_⟩:=o1.open;obtain⟨p2,c2,rfl,_⟩:=o2.open;rw[<-hE]at *;have s5:=b5.size;unfold Y0;simp -implicitDefEqProofs only[go_sem,b5];refine⟨⟨f4,f5,_,_,_,_,rfl,rfl,s5,gX,kF _ _ _,mW _ _ _,(o1.push _).push _,(o2.push _).push _⟩,⟨f4,f5,_,_,_,_,rfl,rfl,gX,s5,mW _ _ _,kF _ _ _,(o1.push _).push _,(o2.push _).push _⟩⟩)
    | (refine (call (g1.push (ao _ 119)) (Zf.push (az _) _)).use ?_
       rintro _ g5 ⟨⟨w1,w2,rfl,o1,o2⟩,b5⟩;obtain⟨p1,c1,rfl,_⟩:=o1.open;obtain⟨p2,c2,rfl,_⟩:=o2.open;rw[<-hE]at *;have s5:=b5.size;rw[a0]at s5;have B5:Zf g1.size g1 g5:=(Zf.push (az _) _).trans (b5.mono Dq);have xA:=b5.get (k:=g1.size) Dq Zb;have Sf:=wA _ _ (if E=0 then r.b else ⟨0,0⟩).r (if E=0 then r.b else ⟨0,0⟩).n p1 (if E=0 then n.Zy.l else []).length c1 xA;have zA:=Za xA;unfold Y0;simp -implicitDefEqProofs only[go_sem,B5,Sf,zA];exact⟨f4,f5,_,_,_,_,rfl,rfl,az _,gX,by rw[Zl (by simpa using zA)];exact ZE xA,gs2 _ _ _ _,((o1.Z3 Dq _).push _).mono Dq,((o2.Z3 Dq _).push _).mono Dq⟩)
    | (refine (call (g1.push (ao _ 117)) (Zf.push (az _) _)).use ?_
       rintro _ g5 ⟨⟨w1,w2,rfl,o1,o2⟩,b5⟩;obtain⟨p1,c1,rfl,_⟩:=o1.open;obtain⟨p2,c2,rfl,_⟩:=o2.open;rw[<-hE]at *;have s5:=b5.size;rw[a0]at s5;have B5:Zf g1.size g1 g5:=(Zf.push (az _) _).trans (b5.mono Dq);have xB:=b5.get (k:=g1.size) Dq Zb;have Hf:=wB _ _ p2 (if E=0 then n.Zy.l else []).length c2 xB;have zB:=Za xB;unfold Y0;simp -implicitDefEqProofs only[go_sem,B5,Hf,zB];exact⟨f4,f5,_,_,_,_,rfl,rfl,gX,az _,gs2 _ _ _ _,by rw[Zl (by simpa using zB)];exact ZE xB,((o1.Z3 Dq _).push _).mono Dq,((o2.Z3 Dq _).push _).mono Dq⟩)
    | (refine (call ((g1.push (ao _ 119)).push (ao _ 117)) ((Zf.push (az _) _).Yx Dq _)).use ?_
       rintro _ g5 ⟨⟨w1,w2,rfl,o1,o2⟩,b5⟩;obtain⟨p1,c1,rfl,_⟩:=o1.open;obtain⟨p2,c2,rfl,_⟩:=o2.open;rw[<-hE]at *;have s5:=b5.size;rw[a0,a0]at s5;have B5:Zf g1.size g1 g5:=((Zf.push (az _) _).Yx Dq _).trans (b5.mono L6);have xA:=b5.get (k:=g1.size) L6 (kF _ _ _);have xB:=b5.get (k:=g1.size+1) Dq (mW _ _ _);have Sf:=wA _ _ (if E=0 then r.b else ⟨0,0⟩).r (if E=0 then r.b else ⟨0,0⟩).n p1 (if E=0 then n.Zy.l else []).length c1 xA;have zA:=Za xA;have MA:=fun o:Obj=>(Zq (o:=o) (show g1.size≠g1.size+1 by omega)).trans xB;have Hf:=fun o:Obj=>wB _ _ p2 (if E=0 then n.Zy.l else []).length c2 (MA o);have zB:g1.size+1<g5.size:=Za xB;unfold Y0;simp -implicitDefEqProofs only[go_sem,B5,Sf,zA,Hf,zB];exact⟨f4,f5,_,_,_,_,rfl,rfl,gX,gX,(Zq gX).trans (ZE xA),ZE (MA _),((o1.Z3 L6 _).Z3 Dq _).mono L6,((o2.Z3 L6 _).Z3 Dq _).mono L6⟩)
    | (refine (call ((g1.push (ao _ 117)).push (ao _ 119)) ((Zf.push (az _) _).Yx Dq _)).use ?_
       rintro _ g5 ⟨⟨w1,w2,rfl,o1,o2⟩,b5⟩;obtain⟨p1,c1,rfl,_⟩:=o1.open;obtain⟨p2,c2,rfl,_⟩:=o2.open;rw[<-hE]at *;have s5:=b5.size;rw[a0,a0]at s5;have B5:Zf g1.size g1 g5:=((Zf.push (az _) _).Yx Dq _).trans (b5.mono L6);have xB:=b5.get (k:=g1.size) L6 (kF _ _ _);have xA:=b5.get (k:=g1.size+1) Dq (mW _ _ _);have Sf:=wA _ _ (if E=0 then r.b else ⟨0,0⟩).r (if E=0 then r.b else ⟨0,0⟩).n p1 (if E=0 then n.Zy.l else []).length c1 xA;have zA:=Za xA;have MA:=fun o:Obj=>(Zq (o:=o) (show g1.size+1≠g1.size by omega)).trans xB;have Hf:=fun o:Obj=>wB _ _ p2 (if E=0 then n.Zy.l else []).length c2 (MA o);have zB:g1.size<g5.size:=Za xB;unfold Y0;simp -implicitDefEqProofs only[go_sem,B5,Sf,zA,Hf,zB];exact⟨f4,f5,_,_,_,_,rfl,rfl,gX,gX,(Zq gX).trans (ZE xA),ZE (MA _),((o1.Z3 Dq _).Z3 L6 _).mono L6,((o2.Z3 Dq _).Z3 L6 _).mono L6⟩)
  rintro F2 g2 ⟨b2,f4,f5,ka,kc,w1,w2,fA,fC,ge1,ge2,yA,yC,o1,o2⟩;rw[<-hE]at yA o1 o2;obtain⟨A,hA⟩:∃A:V0,A=if E=0 then ⟨r.b,n.Zy.l⟩ else Uj:=⟨_,rfl⟩
  obtain⟨V,hV⟩:∃V:List Vt,V=if E=0 then n.Zy.l else []:=⟨_,rfl⟩
  have hAp:(if E=0 then r.b else ⟨0,0⟩)=A.p:=by rw[hA];split<;>rfl
  have hAl:(if E=0 then n.Zy.l else [])=A.l:=by rw[hA];split<;>rfl
  have hVl:(if E=0 then n.Zy.l else [])=V:=hV.symm;rw[hAp]at yA;rw[hAl]at o1;rw[hVl]at o2;have Pm:=ZN k1.Ya b2;have N2:=N1.Zu Pm;have W2:=W1.Zu Pm;have K2:=k1.trans Pm;have z4:=x4.Zd Pm;have z5:=x5.Zd Pm;have aV:=tb1.Zd Pm;have R2:YZ o i g2 ra r:=N2.pt.Zi;obtain⟨u0,_,_,_,_⟩:=R2.rr;unfold JF at u0;have iv7:WU o g2 w2 V:=Im.Ub o2.Zy (fun b hb=>k1.Ya b hb);have iv6:WU o g2 w1 A.l:=Im.Ub o1.Zy (fun b hb=>k1.Ya b hb);have z6:ZY o g2 ka _:=⟨k1.Ya ka ge1,yA⟩
  have z7:ZY o g2 kc _:=⟨k1.Ya kc ge2,yC⟩
  have P2:=ZI N2.ZQ.2 N2.pt.store.len;have m4:=Za z4.2;have m5:=Za z5.2;have mr:=Za R2.ZQ.2;have Qj:=Za N2.ZQ.2;have s4:hc g2 ⟨h.size,0,ay⟩=av (Zr nb):=Zg z4.2;have s5:hc g2 ⟨h.size+1,0,ay⟩=av (Zr ra.rb):=Zg z5.2;unfold Zr at s4 s5 fA fC;have sW:=P2.tape;obtain⟨pd,cd,Pc⟩:=N2.pt.data.1.ZM;have Pc:a.data=Q pd (Z n.data) cd:=Pc;have sW:rd g2 ⟨nb,2,ay⟩ 2=av [Q pd (Z n.data) cd,U O n.XW]:=by rw[<-Pc];exact sW
  have N2d:TD o g2 (Q pd (Z n.data) cd) n.data:=by rw[<-Pc];exact N2.pt.data
  obtain⟨E2,kG⟩:=ZD (Q6 n.data n.XW r.b);have call2:∀G,Zf g2.size g2 G->Zc bg T 153 #[ba #[Q pd (Z n.data) cd,U O n.XW],ba #[U O r.b.r,U O r.b.n]] G fun v' h'=>T1 G.size h' v' n.data n.XW E2 (Xt (Q7 r.b))/\Zf G.size G h':=fun G hG=>by
   rw[kG];exact Ln T G _ n.XW n.data r.b (N2d.bs.Yb hG) gX (aV.tk.JT hG)
  have wT:∀(G:Hp) (k:Nat) (m:Int) (p:Option Addr) (L c:Nat),G[k]? = av (ao [Q ay 0 0,U O 0].toArray 114)->wr G ⟨k,0,ay⟩ [Q p L c,U O m]=av (G.setIfInBounds k (ao [Q p L c,U O m].toArray 114)):=fun G k m p L c hx=>by
   rw[Z2 hx 0 _];rfl
  refine VS.mono (N:=fun F' g'=>Zf g2.size g2 g'/\F' 4=aa (av ⟨h.size,0,ay⟩)/\F' 5=aa (av ⟨h.size+1,0,ay⟩)/\F' 6=aa (av ⟨ka,0,ay⟩)/\F' 7=aa (av ⟨kc,0,ay⟩)/\F' 10=U O E2/\Fv g2.size g' (F' 9) n.data n.XW E2 (Xt (Q7 r.b))) ?_ ?_ (fun _ _ _ h=>h) (fun _ _ h=>h)
  .refine VS.z (g2.size) [8,13] (.q 0 (.p 1 (.p 2 (.q 3 (.q 4 (.p 5 (.p 6 (.q 7 (.or 8 (.p 9 (.p 10 (.p 11 (.s 12 (.w 13 (.p 14 .nil)))))) (.s 12 (.w 8 (.p 9 (.p 10 (.p 11 (.w 13 (.p 14 .nil)))))))))))))))) mixed po ?_;simp -implicitDefEqProofs only[go_sem,f4,f5,fA,fC,s4,s5,sW,u0,m4,m5,mr,Qj];unfold Fv
   repeat' (first|with_reducible exact Zf.refl _ _|with_reducible exact Zf.push gX _|with_reducible refine b0 ?_ ?_)
   all_goals first
    | (refine (call2 g2 (Zf.refl _ _)).use ?_
       rintro _ g5 ⟨⟨w,rfl,o1⟩,b5⟩;obtain⟨p1,c1,rfl,_⟩:=o1.bs.open;have s5:=b5.size;simp -implicitDefEqProofs only[go_sem,b5];exact⟨f4,f5,fA,fC,_,_,rfl,s5,Zb,o1.push _⟩)
    | (refine (call2 (g2.push (ao _ 114)) (Zf.push (az _) _)).use ?_
       rintro _ g5 ⟨⟨w,rfl,o1⟩,b5⟩;obtain⟨p1,c1,rfl,_⟩:=o1.bs.open;have B5:Zf g2.size g2 g5:=(Zf.push (az _) _).trans (b5.mono Dq);have xA:=b5.get (k:=g2.size) Dq Zb;have Sf:=wT _ _ (if E2=0 then n.XW else 0) p1 (if E2=0 then n.data++Xt (Q7 r.b) else []).length c1 xA;have zA:=Za xA;simp -implicitDefEqProofs only[go_sem,B5,Sf,zA];exact⟨f4,f5,fA,fC,_,_,rfl,az _,ZE xA,(o1.Z3 Dq _).mono Dq⟩)
  rintro F3 g3 ⟨b3,f4,f5,f6,f7,f10,kt,wt,fT,ge3,yT,oT⟩;have WV:=ZN K2.Ya b3;have N4:=N2.Zu WV;have W4:=W2.Zu WV;have K4:Kp QC o h o g3:=K2.Yb b3;by_cases e2:E2=0
  case neg=>
   have eP:UU { n with Zi:=av r } r=⟨{ n with Zi:=av r },[],[]⟩:=by unfold UU;rw[if_pos c1,if_pos (by rw[<-kG];exact e2)]
   rw[eP,a5];simp -implicitDefEqProofs only[go_sem,f10,e2];exact⟨o,_,YW,ZR K4,N4,W4⟩
  rw[if_pos e2]at yT oT;have u4:=z4.Zd WV;have u5:=z5.Zd WV;have u6:=z6.Zd WV;have u7:=z7.Zd WV;have iu6:=iv6.Zd WV;have iu7:=iv7.Zd WV;have iT:TD o g3 wt (n.data++Xt (Q7 r.b)):=⟨Im.Ub oT.Zy (fun b hb=>K2.Ya b hb),oT.byte⟩
  have eP:UU { n with Zi:=av r } r=⟨{ n with Zi:=av r,data:=n.data++Xt (Q7 r.b),Z8:=av (.Zy A V true) },[],[]⟩:=by
   unfold UU;rw[if_pos c1,if_neg (by rw[<-kG];simpa using e2),hA,hV,hE]
  rw[eP,a5];obtain⟨pt,ct,rfl,_⟩:=oT.bs.open;have v4:hc g3 ⟨h.size,0,ay⟩=av (Zr nb):=Zg u4.2;have vT:rd g3 ⟨kt,0,ay⟩ 2=av [Q pt (n.data++Xt (Q7 r.b)).length ct,U O n.XW]:=Zs yT rfl;have L1:=Za N4.ZQ.2;obtain⟨g4,w4,N5,k5⟩:=Z7.write (a:={ a with Zi:=av ra,data:=Q pt (n.data++Xt (Q7 r.b)).length ct }) (n:={ n with Zi:=av r,data:=n.data++Xt (Q7 r.b) }) { N4.pt with data:=iT } K4.Ya N4.ZQ ((Y7 N4.ZQ.2 N4.pt.store.len).tape (Q pt (n.data++Xt (Q7 r.b)).length ct) n.XW rfl);have v4':hc g4 ⟨h.size,0,ay⟩=av (Zr nb):=Zg (u4.Zd k5).2;have Om:=Za N5.ZQ.2;have pn:UV o g4 wb i nb (av ra) (WZ 161 [ka,h.size,kc,h.size+1]) (av (.Zy A V true)):=
   ⟨ka,h.size,kc,h.size+1,w2,ra.rb,rfl,⟨_,u6.Zd k5,iu6.Zd k5⟩,u4.Zd k5,u7.Zd k5,iu7.Zd k5,u5.Zd k5,by rw[if_pos rfl];exact⟨ra,rfl,rfl⟩⟩
  obtain⟨g6,w6,N6,k6⟩:=Z7.write (a:={ a with Zi:=av ra,data:=Q pt (n.data++Xt (Q7 r.b)).length ct,Z8:=WZ 161 [ka,h.size,kc,h.size+1] }) (n:={ n with Zi:=av r,data:=n.data++Xt (Q7 r.b),Z8:=av (.Zy A V true) }) { N5.pt with Z8:=pn } k5.Ya N5.ZQ ((Y7 N5.ZQ.2 N5.pt.store.len).Z8 (WZ 161 [ka,h.size,kc,h.size+1]) rfl);unfold WZ at w6;simp only[bT]at w6;unfold Zr at v4 v4' w6;simp -implicitDefEqProofs only[go_sem,f10,e2,f4,f5,f6,f7,fT,v4,vT,w4,L1,v4',w6,Om];have K6:Kp (X1 i) o h o g6:=((ZR K4).trans (k5.mono fun t q=>.inr (.inr (.inr (by rw[q];rfl))))).trans (k6.mono fun t q=>.inr (.inr (.inr (by rw[q];rfl))));exact⟨o,_,YW,K6,N6,(W4.Zd k5 (by rintro t rfl;simp[Tg.of])).Zd k6 (by rintro t rfl;simp[Tg.of])⟩
 by_cases c2:5<2*r.Yw.length
 case neg=>
  have eP:UU { n with Zi:=av r } r=⟨{ n with Zi:=av r },I4 n r,[]⟩:=by unfold UU;rw[if_neg c1,if_pos c2];rfl
  rw[eP];have lm:=fun (K:a6->Hp->Prop) (cs:Array Bool) (ty:TypeId)=>TN (T:=T) (K:=K) (ty:=ty) (cs:=cs) Lt R1.Yw.2;rw[R1.Rj.length]at lm;simp -implicitDefEqProofs only[go_sem,f0,f4,f5,f35,c1,r4,r5,q2,lm];refine (Kq T g1 r.Yw.length KB).use ?_;rintro _ _ ⟨rfl,rfl⟩;simp -implicitDefEqProofs only[go_sem,c2,f0,f4,f5];obtain⟨pf,hpf⟩:∃pf:Nat->List XR,pf=fun (m:Nat)=>if XD r.Yw (m:Int)=ay then [⟨0,n.me,m,r.b,S5,[]⟩] else []:=⟨_,rfl⟩
  have ZiZ:I4 n r=(be 5).flatMap pf:=by rw[hpf];rfl
  have ZrR:∀m,(pf m).length<=1:=fun m=>by rw[hpf];simp only;split<;>simp
  rw[ZiZ];clear r4 r5 q0 q2 q3 q4 q5 l4 l5 AC Qb P1 R1 lm ZiZ;refine VS.Z9 (fun F g=>F 0=aa (av ⟨wb,0,ay⟩)/\F 4=aa (av ⟨h.size,0,ay⟩)/\F 5=aa (av ⟨h.size+1,0,ay⟩)/\∃(m:Nat) (o':Ow) (XS:WA),m<=5/\F 78=U O m/\Kp gq o h o' g/\ZV o' g wb i nb { a with Zi:=av ra } { n with Zi:=av r }/\ZS o' g wb Yr XS (fl++(be m).flatMap pf) Yj ZB/\ZY o' g h.size (ao [Zr nb].toArray 112)/\ZY o' g (h.size+1) (ao [Zr ra.rb].toArray 120))
   (fun F _=>5-(vi (F 78)).toNat) rfl ⟨f0,f4,f5,0,o,YW,gX,rfl,ZR k1,N1,by simpa using W1,x4,x5⟩ ?_
  rintro F2 g2 ⟨f0,f4,f5,m,o2,WA2,hm,f78,K2,N2,W2,x4,x5⟩;by_cases ZL:m<5
  .have ZW:(m:Int)<5:=gX;have R2:YZ o2 i g2 ra r:=N2.pt.Zi;obtain⟨q0,q2,q3,q4,q5⟩:=R2.rr;have P2:=ZI N2.ZQ.2 N2.pt.store.len;have l4:=Za x4.2;have l5:=Za x5.2;have AC:=Za R2.ZQ.2;have Qj:=Za N2.ZQ.2;have r4:hc g2 ⟨h.size,0,ay⟩=av (Zr nb):=Zg x4.2;have r5:hc g2 ⟨h.size+1,0,ay⟩=av (Zr ra.rb):=Zg x5.2;unfold Zr at r4 r5;unfold JF at q0;have lk:=fun (K:a6->Hp->Prop)=>YK (K:=K) (n:=(m:Int)) (c:=true) Lt sA R2.Yw.2;have hpm:pf m=if XD r.Yw (m:Int)=ay then [⟨0,n.me,m,r.b,S5,[]⟩] else []:=by rw[hpf]
   rcases R2.Rj.XD (m:Int) with⟨z1,z2⟩|⟨w,vs,z1,z2,iv⟩
   .rw[if_pos z2]at hpm;simp only[z1,bk,bd,↓reduceIte]at lk;simp -implicitDefEqProofs only[go_sem,f0,f4,f5,f78,ZW,r5,q2,lk];refine VS.z (g2.size) [8] (.p 0 (.q 1 (.p 2 (.q 3 (.p 4 (.p 5 (.q 6 (.p 7 (.w 8 .nil))))))))) mixed po ?_;simp -implicitDefEqProofs only[go_sem,f0,f4,f5,f78,r4,r5,q0,l4,l5,AC];have rl:(fl++(be m).flatMap pf).length<=1000000000000:=by
     have:=WN pf 1 m ZrR;rw[aI];omega
    refine (Wl T g2 o2 wb nb Yr n.me WA2 _ Yj ZB (m:Int) ⟨0,0,0,r.b,S5,[]⟩ (Q ay 0 0) K2.Ya W2 P2.me Qj (Im.nil _ _ _ _) rl).use ?_;rintro v' g3 ⟨o3,vx,k3,_,W3⟩;simp -implicitDefEqProofs only[go_sem,f78];unfold XB;refine⟨⟨f0,f4,f5,m+1,o3,vx,ZL,rfl,K2.trans k3,N2.Zd k3 (by rintro t (rfl|rfl)<;>simp[Tg.of]),by rw[QD,hpm,<-a7];exact W3,x4.Zd k3,x5.Zd k3⟩,?_⟩;simp only[vi,Zk,↓reduceIte,f78];omega
   .rw[if_neg (by rw[z2];simp)]at hpm;obtain⟨pw,cw,rfl⟩:=iv.ZM;simp only[z1,bh,bc,↓reduceIte]at lk;simp -implicitDefEqProofs only[go_sem,f0,f4,f5,f78,ZW,r5,q2,lk];unfold XB;refine⟨⟨f0,f4,f5,m+1,o2,WA2,ZL,rfl,K2,N2,by rw[QD,hpm,a5];exact W2,x4,x5⟩,?_⟩;simp only[vi,Zk,↓reduceIte,f78];omega
  .have YU:¬(m:Int)<5:=gX;obtain rfl:m=5:=gX;simp -implicitDefEqProofs only[go_sem,f78,YU];exact⟨o2,_,WA2,K2.mono (fun t q=>by rcases q with rfl|rfl<;>simp[X1]),N2,W2⟩
 have lm:=fun (K:a6->Hp->Prop) (cs:Array Bool) (ty:TypeId)=>TN (T:=T) (K:=K) (ty:=ty) (cs:=cs) Lt R1.Yw.2;rw[R1.Rj.length]at lm;obtain⟨r1,fo⟩:=ZD (if r.Rc=true then r else Rd n r);have eP:UU { n with Zi:=av r } r=⟨{ n with Zi:=av (Qi n r1 n.Zw) },I5 n (Qi n r1 n.Zw),[]⟩:=by
  unfold UU;rw[if_neg c1,if_neg (by simpa using c2)];have e1:I7 { n with Zi:=av r } r=Qi n r1 n.Zw:=by
   unfold I7;rw[fo,kP (n:={ n with Zi:=av r }) (n':=n) rfl rfl,dz (n:={ n with Zi:=av r }) (n':=n) rfl rfl]
  rw[e1,tD (n:={ n with Zi:=av r }) (n':=n) rfl rfl]
 rw[eP];simp -implicitDefEqProofs only[go_sem,f0,f4,f5,f35,c1,r4,r5,q2,lm];refine (Kq T g1 r.Yw.length KB).use ?_;rintro _ g' ⟨rfl,Ij⟩;rw[Ij]
 cases cb:r.Rc
 all_goals
 first
 | (rw[cb,if_neg Dq]at fo
    rw[cb]at q3;simp -implicitDefEqProofs only[go_sem,c2,f0,f4,f5,r4,r5,q3];refine (tq T g1 o wb i nb a n ra r k1.Ya N1 hp hs hl).use ?_;rintro v' g2 ⟨ra1,dj,kx,N3⟩;rw[<-fo]at N3;have kx':Kp (X1 i) o g1 o g2:=kx.mono fun t q=>.inr (.inr (.inr (My q)));have W3:=W1.Zd kx (by intro t q;rw[My q];simp);have y4:=x4.Zd kx;have y5:=x5.Zd kx;have K3:Kp (X1 i) o h o g2:=(ZR k1).trans kx')
 | (rw[cb,if_pos rfl]at fo
    rw[cb]at q3;simp -implicitDefEqProofs only[go_sem,c2,f0,f4,f5,r4,r5,q3];obtain⟨g2,JK⟩:=ZD (g1);obtain⟨ra1,kE⟩:=ZD (ra);have dj:ra1.rb=ra.rb:=by rw[kE]
    have N3:ZV o g2 wb i nb { a with Zi:=av ra1 } { n with Zi:=av r1 }:=by rw[kE,fo,JK];exact N1
    have W3:ZS o g2 wb Yr YW fl Yj ZB:=by rw[JK];exact W1
    have y4:ZY o g2 h.size (ao [Zr nb].toArray 112):=by rw[JK];exact x4
    have y5:ZY o g2 (h.size+1) (ao [Zr ra.rb].toArray 120):=by rw[JK];exact x5
    have K3:Kp (X1 i) o h o g2:=by rw[JK];exact ZR k1
    rw[<-JK])
 all_goals
  clear r4 r5 q0 q2 q3 q4 q5 l4 l5 AC Qb P1 R1 lm;have P3:=ZI N3.ZQ.2 N3.pt.store.len;obtain⟨pq,cq,zK,_⟩:=YP.ZM N3.pt.Zw;have zK:a.Zw=Q pq n.Zw.length cq:=zK;have P3q:hc g2 ⟨nb,52,ay⟩=av (Q pq n.Zw.length cq):=by rw[<-zK];exact P3.Zw
  have r4:hc g2 ⟨h.size,0,ay⟩=av (Zr nb):=Zg y4.2;have r5:hc g2 ⟨h.size+1,0,ay⟩=av (Zr ra.rb):=Zg y5.2;unfold Zr at r4 r5;simp -implicitDefEqProofs only[go_sem,f0,f4,f5,r4,r5,P3q];clear r4 r5 P3q P3;refine VS.Z9 (fun F g=>F 0=aa (av ⟨wb,0,ay⟩)/\F 4=aa (av ⟨h.size,0,ay⟩)/\F 5=aa (av ⟨h.size+1,0,ay⟩)/\F 113=Q pq n.Zw.length cq/\F 114=U O n.Zw.length/\∃(j:Nat) (ra':RA),j<=n.Zw.length/\F 115=U O j/\Kp (X1 i) o h o g/\ra'.rb=ra.rb/\ZV o g wb i nb { a with Zi:=av ra' } { n with Zi:=av (Qi n r1 (n.Zw.take j)) }/\ZS o g wb Yr YW fl Yj ZB/\ZY o g h.size (ao [Zr nb].toArray 112)/\ZY o g (h.size+1) (ao [Zr ra.rb].toArray 120))
   (fun F _=>n.Zw.length-(vi (F 115)).toNat) rfl ⟨f0,f4,f5,rfl,rfl,0,ra1,gX,rfl,K3,dj,N3,W3,y4,y5⟩ ?_
  clear f0 f4 f5 y4 y5 K3 N3 W3 dj;rintro F3 g3 ⟨f0,f4,f5,f113,f114,j,ra',hj,f115,K3,dj,N3,W3,y4,y5⟩;obtain⟨rj,hrj⟩:=ZD (Qi n r1 (n.Zw.take j));rw[<-hrj]at N3;have r4:hc g3 ⟨h.size,0,ay⟩=av (Zr nb):=Zg y4.2;have r5:hc g3 ⟨h.size+1,0,ay⟩=av (Zr ra.rb):=Zg y5.2;unfold Zr at r4 r5;have l4:=Za y4.2;have l5:=Za y5.2;by_cases ZL:j<n.Zw.length
  .have ZW:(j:Int)<n.Zw.length:=gX;obtain⟨pz,cz,Ej,bV⟩:=JG N3.pt.Zw.ts;obtain⟨bb,oo,yE,U9,Pq⟩:=bV (by intro e;have:n.Zw=[]:=e;rw[this]at ZL;simp at ZL);have Ej:a.Zw=Q pz n.Zw.length cz:=Ej;rw[zK]at Ej;simp only[Value.slice.injEq]at Ej;obtain⟨rfl,_,rfl⟩:=Ej;subst yE;have re:rd g3 ⟨bb,oo+j*5,ay⟩ 5=av (n.Zw[j]).C:=Pq j ZL;obtain⟨x,hx⟩:=ZD (n.Zw[j]);rw[<-hx]at re;have Y5:Qi n r1 (n.Zw.take (j+1))=TA n rj x:=by
    rw[Yp _ j ZL,<-hx,hrj];unfold Qi;rw[bD];rfl
   obtain⟨g4,Vw⟩:=ZD (g3.push (ao x.C.toArray 43):Hp);have k4:Kp QC o g3 o g4:=by rw[Vw];exact Yc K3.Ya _
   have x4':ZY o g4 g3.size (ao x.C.toArray 43):=⟨K3.Ya _ (az _),by rw[Vw];exact Zb⟩
   have e4:=Vw.symm;have N4:=N3.Zu k4;have R4:YZ o i g4 ra' rj:=N4.pt.Zi;have z4:=y4.Zd k4;have z5:=y5.Zd k4;have s4:hc g4 ⟨h.size,0,ay⟩=av (Zr nb):=Zg z4.2;have s5:hc g4 ⟨h.size+1,0,ay⟩=av (Zr ra'.rb):=by rw[dj];exact Zg z5.2
   have sx:rd g4 ⟨g3.size,0,ay⟩ 5=av x.C:=Zs x4'.2 rfl;have cf:=zC T g4 o wb i nb { a with Zi:=av ra' } { n with Zi:=av rj } ra' rj x k4.Ya N4 R4 hl;rw[show Wc { n with Zi:=av rj } rj x=Wc n rj x from by unfold Wc;rw[EZ (n:={ n with Zi:=av rj }) (n':=n) rfl rfl],EZ (n:={ n with Zi:=av rj }) (n':=n) rfl rfl]at cf;unfold Vv Zr at cf;unfold Zr at s4 s5;simp -implicitDefEqProofs only[go_sem,f0,f4,f5,f113,f114,f115,ZW,re,e4,s4,s5,sx];refine cf.use ?_;rintro _ g5 ⟨rfl,b5⟩;have k5:=ZN k4.Ya b5;have K5:Kp (X1 i) o h o g5:=(K3.trans (ZR k4)).trans (ZR k5);have N5:=N4.Zu k5;have R5:YZ o i g5 ra' rj:=N5.pt.Zi;have W5:=(W3.Zu k4).Zu k5;have u4:=z4.Zd k5;have u5:=z5.Zd k5;have ux:=x4'.Zd k5
   cases hf:free n rj x with
   | none=>
    have e1:TA n rj x=rj:=by unfold TA;rw[hf]
    simp -implicitDefEqProofs only[go_sem,bd,f115];unfold XB;refine⟨⟨f0,f4,f5,f113,f114,j+1,ra',ZL,rfl,K5,dj,by rw[Y5,e1];exact N5,W5,u4,u5⟩,?_⟩;simp only[vi,Zk,↓reduceIte,f115];omega
   | some sl=>
    have e1:TA n rj x = { rj with Xf:=ins rj.Xf (sl:Int) x }:=by unfold TA;rw[hf]
    have e2:Wc n rj x=sl:=by unfold Wc;rw[hf]
    rw[e2];simp -implicitDefEqProofs only[go_sem,bc];have t5:hc g5 ⟨h.size+1,0,ay⟩=av (Zr ra'.rb):=by rw[dj];exact Zg u5.2
    unfold Zr at t5;have tx:rd g5 ⟨g3.size,0,ay⟩ 5=av x.C:=Zs ux.2 rfl;obtain⟨_,_,_,t4,_⟩:=R5.rr;have m5:=Za u5.2;have mr:=Za R5.ZQ.2;have mx:=Za ux.2;refine VS.z (g5.size) [6] (.q 0 (.p 1 (.p 2 (.q 3 (.p 4 (.q 5 (.w 6 .nil))))))) mixed po ?_;simp -implicitDefEqProofs only[go_sem,f5,t5,t4,tx,m5,mr,mx];rw[Jg TC R5.Xf.2];obtain⟨k6,R6⟩:=R5.gI K5.Ya (k:=(sl:Int)) (x:=x);have k6':Kp (X6 i) o g5 o _:=k6.mono fun t q=>.inr (.inr (.inl q));have k6a:Kp (X1 i) o g5 o _:=k6.mono fun t q=>.inr (.inr (.inr (by rw[q];rfl)));simp -implicitDefEqProofs only[go_sem,f115];unfold XB;refine⟨⟨f0,f4,f5,f113,f114,j+1,ra',ZL,rfl,K5.trans k6a,dj,?_,W5.Zd k6 (by rintro t rfl;simp[Tg.of]),u4.Zd k6,u5.Zd k6⟩,?_⟩
    .rw[Y5,e1];exact⟨N5.ZQ.Zd k6 MI,Z7.QO N5.pt k6' rfl rfl R6⟩
    .simp only[vi,Zk,↓reduceIte,f115];omega
  .have YU:¬(j:Int)<n.Zw.length:=gX;obtain rfl:j=n.Zw.length:=gX;rw[bL]at hrj;simp -implicitDefEqProofs only[go_sem,f114,f115,YU];rw[<-hrj];obtain⟨r2,xm⟩:=ZD (rj);rw[<-xm]at N3 ⊢;have Zi1:∀s x m,(Nv n r2 s x m).length<=1:=fun s x m=>by unfold Nv;split<;>simp
   have Zi2:∀s,(VP n r2 s).length<=5:=fun s=>by
    unfold VP;split
    .split
     .exact WN _ 1 5 (Zi1 s _)
     .simp
    .simp
   clear r4 r5 l4 l5;refine VS.Z9 (fun F g=>F 0=aa (av ⟨wb,0,ay⟩)/\F 4=aa (av ⟨h.size,0,ay⟩)/\F 5=aa (av ⟨h.size+1,0,ay⟩)/\∃(s:Nat) (o':Ow) (XS:WA),s<=40/\F 134=U O s/\Kp (X1 i) o h o' g/\ZV o' g wb i nb { a with Zi:=av ra' } { n with Zi:=av r2 }/\ZS o' g wb Yr XS (fl++(be s).flatMap (VP n r2)) Yj ZB/\ZY o' g h.size (ao [Zr nb].toArray 112)/\ZY o' g (h.size+1) (ao [Zr ra.rb].toArray 120))
    (fun F _=>40-(vi (F 134)).toNat) rfl ⟨f0,f4,f5,0,o,YW,gX,rfl,K3,N3,by simpa using W3,y4,y5⟩ ?_
   clear f0 f4 f5 y4 y5 K3 N3 W3;rintro F4 g4 ⟨f0,f4,f5,s,o4,gJ,hs4,f134,K4,N4,W4,y4,y5⟩;by_cases jr:s<40
   case neg=>
    have ZcR:¬(s:Int)<40:=gX;obtain rfl:s=40:=gX;simp -implicitDefEqProofs only[go_sem,f134,ZcR];exact⟨o4,_,gJ,K4,N4,W4⟩
   have GZ:(s:Int)<40:=gX;have R4:YZ o4 i g4 ra' r2:=N4.pt.Zi;obtain⟨_,_,_,t4,t5⟩:=R4.rr;have P4:=ZI N4.ZQ.2 N4.pt.store.len;have r4:hc g4 ⟨h.size,0,ay⟩=av (Zr nb):=Zg y4.2;have r5:hc g4 ⟨h.size+1,0,ay⟩=av (Zr ra'.rb):=by rw[dj];exact Zg y5.2
   unfold Zr at r4 r5;have l4:=Za y4.2;have l5:=Za y5.2;have n4:¬h.size=g4.size:=gX;have n5:¬h.size+1=g4.size:=gX;have nnb:¬nb=g4.size:=by have:=Za N4.ZQ.2;omega
   have Fx:=fun (K:a6->Hp->Prop)=>YK (K:=K) (n:=(s:Int)) (c:=true) TC Nw R4.Xf.2;rw[XI]at Fx;have VU:=fun (K:a6->Hp->Prop) (z:Obj)=>YK (h:=g4.push z) (K:=K) (n:=(s:Int)) (c:=true) TC Nw ((Zl (Za N4.pt.Zp.2)).trans N4.pt.Zp.2);simp only[XI,show ({ n with Zi:=av r2 }:Nd).Zp=n.Zp from rfl]at VU;have zL:∀x y:Obj,Kp QC o4 g4 o4 ((g4.push x).push y):=fun x y=>(Yc K4.Ya _).push _;have skip:∀(x y:Obj),VP n r2 s=[]->ZV o4 ((g4.push x).push y) wb i nb { a with Zi:=av ra' } { n with Zi:=av r2 }/\ZS o4 ((g4.push x).push y) wb Yr gJ (fl++(be (s+1)).flatMap (VP n r2)) Yj ZB/\ZY o4 ((g4.push x).push y) h.size (ao [Zr nb].toArray 112)/\ZY o4 ((g4.push x).push y) (h.size+1) (ao [Zr ra.rb].toArray 120):=fun x y hz=>
    ⟨N4.Zu (zL x y),by rw[QD,hz,a5];exact W4.Zu (zL x y),y4.Zd (zL x y),y5.Zd (zL x y)⟩
   cases c3:XD r2.Xf (s:Int) with
   | none=>
    have hz:VP n r2 s=[]:=by unfold VP;rw[c3]
    simp only[c3,bz,bk,bd,↓reduceIte]at Fx
    cases c4:XD n.Zp (s:Int) with
    | none=>
     simp only[c4,bz,bk,bd,↓reduceIte]at VU;simp -implicitDefEqProofs only[go_sem,f0,f4,f5,f134,GZ,r5,t4,r4,n4,n5,nnb,Fx,VU,P4.Zp];unfold XB;refine⟨⟨f0,f4,f5,s+1,o4,gJ,jr,rfl,K4.trans (ZR (zL _ _)),skip _ _ hz⟩,?_⟩;simp only[vi,Zk,↓reduceIte,f134];omega
    | some y=>
     simp only[c4,bp,bh,bc,↓reduceIte]at VU;simp -implicitDefEqProofs only[go_sem,f0,f4,f5,f134,GZ,r5,t4,r4,n4,n5,nnb,Fx,VU,P4.Zp,Vv];unfold XB;refine⟨⟨f0,f4,f5,s+1,o4,gJ,jr,rfl,K4.trans (ZR (zL _ _)),skip _ _ hz⟩,?_⟩;simp only[vi,Zk,↓reduceIte,f134];omega
   | some x=>
    simp only[c3,bp,bh,bc,↓reduceIte]at Fx
    cases c4:XD n.Zp (s:Int) with
    | some y=>
     have hz:VP n r2 s=[]:=by unfold VP;rw[c3];simp only;rw[if_neg (by rw[c4];simp)]
     simp only[c4,bp,bh,bc,↓reduceIte]at VU;simp -implicitDefEqProofs only[go_sem,f0,f4,f5,f134,GZ,r5,t4,r4,n4,n5,nnb,Fx,VU,P4.Zp,Vv];unfold XB;refine⟨⟨f0,f4,f5,s+1,o4,gJ,jr,rfl,K4.trans (ZR (zL _ _)),skip _ _ hz⟩,?_⟩;simp only[vi,Zk,↓reduceIte,f134];omega
    | none=>
     have hz:VP n r2 s=(be 5).flatMap (Nv n r2 s x):=by unfold VP;rw[c3];simp only;rw[if_pos c4]
     simp only[c4,bz,bk,bd,↓reduceIte]at VU;simp -implicitDefEqProofs only[go_sem,f0,f4,f5,f134,GZ,r5,t4,r4,n4,n5,nnb,Fx,VU,P4.Zp,Vv];obtain⟨fs,hfs⟩:=ZD (fl++(be s).flatMap (VP n r2));have ZEL:(Z fs)<=900000001000:=by
      have:=WN (VP n r2) 5 s Zi2;rw[hfs,aI];omega
     have hnx:fl++(be (s+1)).flatMap (VP n r2)=fs++(be 5).flatMap (Nv n r2 s x):=by rw[QD,hz,<-a7,<-hfs]
     rw[<-hfs]at W4;have kz:=zL (ao x.C.toArray 43) (ao vm.C.toArray 43);have xb:ZY o4 ((g4.push (ao x.C.toArray 43)).push (ao vm.C.toArray 43)) g4.size (ao x.C.toArray 43):=⟨K4.Ya _ (az _),kF _ _ _⟩
     refine VS.Z9 (fun F g=>F 0=aa (av ⟨wb,0,ay⟩)/\F 4=aa (av ⟨h.size,0,ay⟩)/\F 5=aa (av ⟨h.size+1,0,ay⟩)/\F 134=U O s/\F 18=U O s/\F 19=aa (av ⟨g4.size,0,ay⟩)/\∃(m:Nat) (o':Ow) (XS:WA),m<=5/\F 160=U O m/\Kp (X1 i) o h o' g/\ZV o' g wb i nb { a with Zi:=av ra' } { n with Zi:=av r2 }/\ZS o' g wb Yr XS (fs++(be m).flatMap (Nv n r2 s x)) Yj ZB/\ZY o' g h.size (ao [Zr nb].toArray 112)/\ZY o' g (h.size+1) (ao [Zr ra.rb].toArray 120)/\ZY o' g g4.size (ao x.C.toArray 43))
      (fun F _=>5-(vi (F 160)).toNat) rfl ⟨f0,f4,f5,f134,rfl,rfl,0,o4,gJ,gX,rfl,K4.trans (ZR kz),N4.Zu kz,by simpa using W4.Zu kz,y4.Zd kz,y5.Zd kz,xb⟩ ?_
     clear f0 f4 f5 f134 y4 y5 r4 r5 t4 t5 P4 Fx VU skip zL kz xb l4 l5 n4 n5 nnb R4;rintro F5 g5 ⟨f0,f4,f5,f134,f18,f19,m,o5,WA5,hm,f160,K5,N5,W5,y4,y5,xb⟩;by_cases zM:m<5
     case neg=>
      have hgm:¬(m:Int)<5:=gX;obtain rfl:m=5:=gX;simp -implicitDefEqProofs only[go_sem,f160,hgm,f134];unfold XB;refine⟨⟨f0,f4,f5,s+1,o5,WA5,jr,rfl,K5,N5,by rw[hnx];exact W5,y4,y5⟩,?_⟩;simp only[vi,Zk,↓reduceIte,f134];omega
     have Zi4:(m:Int)<5:=gX;have R5:YZ o5 i g5 ra' r2:=N5.pt.Zi;obtain⟨v0,_,_,_,v5⟩:=R5.rr;unfold JF at v0;have r5:hc g5 ⟨h.size+1,0,ay⟩=av (Zr ra'.rb):=by rw[dj];exact Zg y5.2
     unfold Zr at r5;have lkv:=fun (K:a6->Hp->Prop)=>YK (K:=K) (n:=(s:Int)) (c:=false) I9 Fp R5.JV.2;rw[XI]at lkv;simp only[bA,if_false]at lkv;obtain⟨g6,RU⟩:=ZD (g5.push (ao [].toArray 255):Hp);have e6:=RU.symm;have k6:Kp QC o5 g5 o5 g6:=by rw[RU];exact Yc K5.Ya _
     have w6:wr g6 ⟨g5.size,0,ay⟩ []=av g6:=by
      have hx:g6[g5.size]? = av (ao [].toArray 255):=by rw[RU];exact Zb
      rw[Z2 hx 0 [],if_pos ⟨Dq,rfl⟩]
      congr 1
      exact Ni hx
     have N6:=N5.Zu k6;have W6:=W5.Zu k6;have z4:=y4.Zd k6;have z5:=y5.Zd k6;have zx:=xb.Zd k6;have K6:Kp (X1 i) o h o5 g6:=K5.trans (ZR k6);have P6:=ZI N6.ZQ.2 N6.pt.store.len;have R6:YZ o5 i g6 ra' r2:=N6.pt.Zi;obtain⟨u0,_,_,_,_⟩:=R6.rr;unfold JF at u0;have s4:hc g6 ⟨h.size,0,ay⟩=av (Zr nb):=Zg z4.2;have s5:hc g6 ⟨h.size+1,0,ay⟩=av (Zr ra'.rb):=by rw[dj];exact Zg z5.2
     unfold Zr at s4 s5;have sx:rd g6 ⟨g4.size,0,ay⟩ 5=av [U O x.k,U O x.c,U O x.s,U O x.n,U O x.v]:=Zs zx.2 rfl;have m4:=Za z4.2;have m5:=Za z5.2;have mx:=Za zx.2;have mr:=Za R6.ZQ.2;have tF:=Za N6.ZQ.2;obtain⟨S,hS⟩:=ZD ((XD r2.JV (s:Int)).getD []);have CN:Nv n r2 s x m=if XD S (m:Int)=ay then [⟨2,n.me,m,Qh,Sp s r2.b x,[]⟩] else []:=by unfold Nv;rw[hS]
     obtain⟨mv,hmv,lki⟩:∃mv,(Option.map vo (XD ra'.sv (s:Int))).getD (.map ay)=mv/\∀K:a6->Hp->Prop,MV bg 254 mv (U O (m:Int)) true K g5=K (.tuple #[ba #[],a8 (XD S (m:Int)).isSome]) g5:=by
      rcases R5.T5.XD (s:Int) with⟨z1,z2⟩|⟨sb,S',z1,z2,hsb⟩
      .refine⟨.map ay,by rw[z1];rfl,fun K=>?_⟩;rw[Eh Fo ZbB,hS,z2];rfl
      .refine⟨.map (av sb),by rw[z1];rfl,fun K=>?_⟩;have:=YK (K:=K) (n:=(m:Int)) (c:=true) Fo ZbB hsb.2;have hSS:S=S':=by rw[hS,z2];rfl
       rw[this];unfold L0;rw[XI,<-hSS]
       cases XD S (m:Int)<;>rfl
     rw[hmv]at lkv
     cases cS:XD S (m:Int) with
     | some uu=>
      rw[if_neg (by rw[cS];simp)]at CN;simp only[cS,bc]at lki;simp -implicitDefEqProofs only[go_sem,f0,f4,f5,f18,f19,f160,Zi4,r5,v5,lkv,lki,e6,w6];unfold XB;refine⟨⟨f0,f4,f5,f134,f18,f19,m+1,o5,WA5,zM,rfl,K6,N6,by rw[QD,CN,a5];exact W6,z4,z5,zx⟩,?_⟩;simp only[vi,Zk,↓reduceIte,f160];omega
     | none=>
      rw[if_pos cS]at CN;simp only[cS,bd]at lki;simp -implicitDefEqProofs only[go_sem,f0,f4,f5,f18,f19,f160,Zi4,r5,v5,lkv,lki,e6,w6];refine VS.z (g6.size) [11] (.p 0 (.q 1 (.p 2 (.p 3 (.q 4 (.p 5 (.p 6 (.q 7 (.q 8 (.p 9 (.p 10 (.w 11 .nil)))))))))))) mixed po ?_;simp -implicitDefEqProofs only[go_sem,f0,f4,f5,f18,f19,f160,s4,s5,u0,sx,m4,m5,mx,mr];have rl:(fs++(be m).flatMap (Nv n r2 s x)).length<=1000000000000:=by
       have:=WN (Nv n r2 s x) 1 m (Zi1 s x);rw[aI];omega
      refine (Wl T g6 o5 wb nb Yr n.me WA5 _ Yj ZB (m:Int) ⟨2,0,0,Qh,Sp s r2.b x,[]⟩ (Q ay 0 0) K6.Ya W6 P6.me tF (Im.nil _ _ _ _) rl).use ?_;rintro v' g7 ⟨o7,WA7,k7,_,W7⟩;simp -implicitDefEqProofs only[go_sem,f160];unfold XB;refine⟨⟨f0,f4,f5,f134,f18,f19,m+1,o7,WA7,zM,rfl,K6.trans (k7.mono fun t q=>by rcases q with rfl|rfl<;>simp[X1]),N6.Zd k7 (by rintro t (rfl|rfl)<;>simp[Tg.of]),by rw[QD,CN,<-a7];exact W7,z4.Zd k7,z5.Zd k7,zx.Zd k7⟩,?_⟩;simp only[vi,Zk,↓reduceIte,f160];omega
theorem UV.fn{wb i nb:Nat}{ra:Option RA}{v:a6}{p:Option mT}(s:UV o h wb i nb ra v p):(p=ay/\v=.nilFunc)\/(p.isSome=true/\∃f l,v=.func (.func f) #[] l):=by
 match p,s with
 | none,s=>exact .inl ⟨rfl,s⟩
 | some (.EU _ _ _ _),⟨_,_,_,_,e,_⟩=>exact .inr ⟨rfl,_,_,e⟩
 | some (.EV _ _ _),⟨_,_,_,_,e,_⟩=>exact .inr ⟨rfl,_,_,e⟩
 | some (.Zy _ _ _),⟨_,_,_,_,_,_,e,_⟩=>exact .inr ⟨rfl,_,_,e⟩
theorem kQ(n:Nd)(r:Q9):(UU n r).n.XK=n.XK/\(UU n r).n.ZP=n.ZP/\(UU n r).n.me=n.me/\(UU n r).n.YH=n.YH/\(UU n r).n.Zy=n.Zy/\(UU n r).ts=[]:=by
 unfold UU;split
 .split<;>exact⟨rfl,rfl,rfl,rfl,rfl,rfl⟩
 .split<;>exact⟨rfl,rfl,rfl,rfl,rfl,rfl⟩
theorem dA(n:Nd)(r:Q9):(I4 n r).length<=5:=by
 have:=WN (fun (m:Nat)=>if XD r.Yw (m:Int)=ay then [(⟨0,n.me,m,r.b,S5,[]⟩:XR)] else []) 1 5 (fun m=>by split<;>simp);exact this
theorem kR(n:Nd)(r:Q9):(I5 n r).length<=200:=by
 have h1:∀s x m,(Nv n r s x m).length<=1:=fun s x m=>by unfold Nv;split<;>simp
 have h2:∀s,(VP n r s).length<=5:=fun s=>by
  unfold VP;split
  .split
   .exact WN _ 1 5 (h1 s _)
   .simp
  .simp
 exact WN _ 5 40 h2
theorem zN(n:Nd)(r:Q9):(UU n r).ls.length<=200:=by
 unfold UU;split
 .split<;>simp
 .split
  .have:=dA n r;simp only;omega
  .exact kR n _
theorem dB(n:Nd):(Zu n).XK=n.XK/\(Zu n).ZP=n.ZP/\(Zu n).me=n.me/\(Zu n).YH=n.YH/\(Zu n).Zy=n.Zy/\(Zu n).Zw=n.Zw/\(Zu n).Z8=n.Z8/\(Zu n).data=n.data/\(Zu n).XW=n.XW:=by
 unfold Zu;split
 .split<;>exact⟨rfl,rfl,rfl,rfl,rfl,rfl,rfl,rfl,rfl⟩
 .exact⟨rfl,rfl,rfl,rfl,rfl,rfl,rfl,rfl,rfl⟩
theorem BE(n:Nd):(Zu n).Zi=ay\/(Zu n).Zi=n.Zi:=by
 unfold Zu;split
 .split
  .exact .inl rfl
  .exact .inr rfl
 .exact .inr rfl
theorem On(n:Nd):(YY n).n.XK=n.XK/\(YY n).n.ZP=n.ZP/\(YY n).n.me=n.me/\(YY n).n.YH=n.YH/\(YY n).n.Zy=n.Zy/\(YY n).ts=[]:=by
 unfold YY;split
 .exact kQ _ _
 .split<;>exact⟨rfl,rfl,rfl,rfl,rfl,rfl⟩
theorem BF(n:Nd):(YY n).ls.length<=200+n.Zw.length:=by
 unfold YY;split
 .next r _=>have:=zN n r;omega
 .split
  .simp[Re]
  .simp
set_option maxHeartbeats 4000000 in
theorem zO(T:bE)(h:Hp)(o:Ow)(wb i nb:Nat)(Yr:Nat->Nat)(a:NA)(n:Nd)(YW:WA)(fl:List XR)(Yj:Nat->Int)(ZB:List Pk)(d:UO o h)(N:ZV o h wb i nb a n)(W:ZS o h wb Yr YW fl Yj ZB)(tb:Az o h)(hp0:n.Z8=ay)(YB:(Z fl)<=800000000000)(rD:n.Zy.l.length<=1000000)(mM:(Z n.data)<=1000000)(hr:∀r,n.Zi=av r->(∀x∈r.Yw,x.2.length<=1000000)/\(∀x∈r.Yw,∀v∈x.2,v.ZA<=1000000)/\r.Yw.length<=1000000000000)(hl:n.ZP.length<=100000000000)(hq:n.Zw.length<=10000000000)(ht:0<=n.XK/\n.XK<5):
  Zc bg T 99 #[Zr wb,Zr nb] h fun v' h'=>∃o' a' XS,Kp (X1 i) o h o' h'/\ZV o' h' wb i nb a' (Sr n).n/\ZS o' h' wb Yr XS (fl++(Sr n).ls) Yj ZB:=by
 refine Zc.Kb (args:=#[_,_]) Tryz.func99 rfl rfl rfl ?_;obtain⟨ZbG,ZdN,sme,ZdO,kS,E8,tH,ZbH,ZrV⟩:=dB n;refine VS.seq (VS.mono (N:=fun F' g'=>F' 0=aa (av ⟨wb,0,ay⟩)/\F' 1=aa (av ⟨nb,0,ay⟩)/\∃a1,Kp (X1 i) o h o g'/\ZV o g' wb i nb a1 (Zu n)/\ZS o g' wb Yr YW fl Yj ZB) ?_ ?_ (fun _ _ _ h=>h) (fun _ _ h=>h))
 .refine JC _ _ _ _ _ _ rfl ?_;unfold Zr;have P:=ZI N.ZQ.2 N.pt.store.len;have VZ:=Za N.ZQ.2;have Pr:=P.Zi;have Po:=P.Bp
  cases MB:a.Zi with
  | none=>
   rw[MB]at Pr;have hn:n.Zi=ay:=by
    have:=N.pt.Zi;rw[MB]at this
    cases hx:n.Zi with
    | none=>rfl
    | some r=>rw[hx]at this;exact this.elim
   have es:Zu n=n:=by unfold Zu;rw[hn]
   rw[es];unfold Ok at Pr;simp -implicitDefEqProofs only[go_sem,Pr];refine VS.mono (N:=fun F' g'=>Zf h.size h g'/\F' 0=aa (av ⟨wb,0,ay⟩)/\F' 1=aa (av ⟨nb,0,ay⟩)/\F' 26=a8 false) ?_ ?_ (fun _ _ _ h=>h) (fun _ _ h=>h)
   .refine VS.z (h.size) [12] (.p 0 (.p 1 (.p 2 (.p 3 (.p 4 (.p 5 (.p 6 (.q 7 (.p 8 (.p 9 (.p 10 (.q 11 (.w 12 (.p 13 .nil)))))))))))))) mixed (by kernel_rfl) ?_;simp -implicitDefEqProofs only[go_sem,Pr,Po,VZ]
    try exact Zf.refl _ _
   rintro F1 g1 ⟨b1,f0,f1,f26⟩;have kb:=ZN d b1;simp -implicitDefEqProofs only[go_sem,f26];exact⟨f0,f1,a,ZR kb,N.Zu kb,W.Zu kb⟩
  | some ra=>
   obtain⟨r,hn⟩:∃r,n.Zi=av r:=by
    have:=N.pt.Zi;rw[MB]at this
    cases hx:n.Zi with
    | none=>rw[hx]at this;exact this.elim
    | some r=>exact⟨r,rfl⟩
   rw[MB]at Pr;unfold Ok Zr at Pr;have R:YZ o i h ra r:=by have:=N.pt.Zi;rw[MB,hn]at this;exact this
   obtain⟨q0,_,_,_,_⟩:=R.rr;have AC:=Za R.ZQ.2;simp -implicitDefEqProofs only[go_sem,Pr];refine VS.mono (N:=fun F' g'=>Zf h.size h g'/\F' 0=aa (av ⟨wb,0,ay⟩)/\F' 1=aa (av ⟨nb,0,ay⟩)/\F' 26=a8 (decide (Y4 r.b n.Zy.p))) ?_ ?_ (fun _ _ _ h=>h) (fun _ _ h=>h)
   .refine VS.z (h.size) [12] (.p 0 (.p 1 (.p 2 (.p 3 (.p 4 (.p 5 (.p 6 (.q 7 (.p 8 (.p 9 (.p 10 (.q 11 (.w 12 (.p 13 .nil)))))))))))))) mixed (by kernel_rfl) ?_;simp -implicitDefEqProofs only[go_sem,Pr,Po,q0,VZ,AC];refine (NB T h n.Zy.p r.b).use ?_;rintro _ g ⟨rfl,b⟩;simp -implicitDefEqProofs only[go_sem,b]
   rintro F1 g1 ⟨b1,f0,f1,f26⟩;have kb:=ZN d b1;have N1:=N.Zu kb;have W1:=W.Zu kb;by_cases c:Y4 r.b n.Zy.p
   .have es:Zu n = { n with Zi:=ay }:=by unfold Zu;rw[hn];simp only;rw[if_pos c]
    rw[es];have hpn:a.Z8=.nilFunc:=by
     have:=N.pt.Z8;rw[hp0]at this;exact this
    have pn:UV o g1 wb i nb ay a.Z8 n.Z8:=by rw[hp0];exact hpn
    obtain⟨g2,w2,N2,k2⟩:=Z7.write (a:={ a with Zi:=ay }) (n:={ n with Zi:=ay }) { N1.pt with Zi:=trivial,Z8:=pn } kb.Ya N1.ZQ ((Y7 N1.ZQ.2 N1.pt.store.len).Zi ay);have Qb:=Za N1.ZQ.2;unfold Ok at w2;simp -implicitDefEqProofs only[go_sem,f0,f1,f26,c,w2,Qb];exact⟨_,(ZR kb).trans (k2.mono fun t q=>.inr (.inr (.inr (by rw[q];rfl)))),N2,W1.Zd k2 (by rintro t rfl;simp[Tg.of])⟩
   .have es:Zu n=n:=by unfold Zu;rw[hn];simp only;rw[if_neg c]
    rw[es];simp -implicitDefEqProofs only[go_sem,f26,c];exact⟨f0,f1,a,ZR kb,N1,W1⟩
 rintro F1 g1 ⟨f0,f1,a1,K1,N1,W1⟩;obtain⟨s,hs⟩:=ZD (Zu n);rw[<-hs]at N1 ZbG ZdN sme ZdO kS E8 tH ZbH ZrV;have srg:s.Zi=ay\/s.Zi=n.Zi:=by rw[hs];exact BE n
 obtain⟨ZbI,Zi6,eme,ZdP,ZrW,ets⟩:=On s;have els:=BF s;unfold Sr;rw[<-hs];clear hs;refine VS.seq (VS.mono (N:=fun F' g'=>F' 0=aa (av ⟨wb,0,ay⟩)/\F' 1=aa (av ⟨nb,0,ay⟩)/\∃kb a1,F' 5=aa (av ⟨kb,0,ay⟩)/\ZY o g' kb (ao [U O n.Zy.p.r,U O n.Zy.p.n].toArray 116)/\Kp (X1 i) o h o g'/\ZV o g' wb i nb a1 s/\ZS o g' wb Yr YW fl Yj ZB) ?_ ?_ (fun _ _ _ h=>h) (fun _ _ h=>h))
 .refine JC _ _ _ _ _ _ rfl ?_;have P1:=ZI N1.ZQ.2 N1.pt.store.len;have P1o:=P1.Bp;rw[kS]at P1o;have VZ:=Za N1.ZQ.2;obtain⟨g2,JK⟩:=ZD (g1.push (ao [U O n.Zy.p.r,U O n.Zy.p.n].toArray 116):Hp);have k2:Kp QC o g1 o g2:=by rw[JK];exact Yc K1.Ya _
  have x5:ZY o g2 g1.size (ao [U O n.Zy.p.r,U O n.Zy.p.n].toArray 116):=⟨K1.Ya _ (az _),by rw[JK];exact Zb⟩
  have e2:=JK.symm;simp -implicitDefEqProofs only[go_sem,f0,f1,P1o,VZ,e2];exact⟨_,a1,rfl,x5,K1.trans (ZR k2),N1.Zu k2,W1.Zu k2⟩
 clear f0 f1 K1 N1 W1;rintro F2 g2 ⟨f0,f1,kb,a2,f5,x5,K2,N2,W2⟩;have aV:=tb.Zd K2;refine VS.seq (VS.mono (N:=fun F' g'=>F' 0=aa (av ⟨wb,0,ay⟩)/\F' 1=aa (av ⟨nb,0,ay⟩)/\(YY s).n.Z8=ay/\∃o' a1 XS,Kp (X1 i) o h o' g'/\ZV o' g' wb i nb a1 (YY s).n/\ZS o' g' wb Yr XS (fl++(YY s).ls) Yj ZB) ?_ ?_ (fun _ _ _ h=>h) (fun _ _ h=>h))
 .refine JC _ _ _ _ _ _ rfl ?_;have P2:=ZI N2.ZQ.2 N2.pt.store.len;have P2r:=P2.Zi;have kT:=P2.me;have VZ:=Za N2.ZQ.2;have l5:=Za x5.2
  cases MB:a2.Zi with
  | some ra=>
   obtain⟨r,hn⟩:∃r,s.Zi=av r:=by
    have:=N2.pt.Zi;rw[MB]at this
    cases hx:s.Zi with
    | none=>rw[hx]at this;exact this.elim
    | some r=>exact⟨r,rfl⟩
   have hnr:n.Zi=av r:=by
    rcases srg with e|e
    .rw[e]at hn;cases hn
    .rw[<-e,hn]
   have e1:YY s=UU s r:=by unfold YY;rw[hn]
   have ea:a2 = { a2 with Zi:=av ra }:=by rw[<-MB]
   have es:s = { s with Zi:=av r }:=by rw[<-hn]
   obtain⟨fo,xm,hr3⟩:=hr r hnr;rw[MB]at P2r;unfold Ok Zr at P2r;have cr:=zH T g2 o wb i nb Yr a2 s ra r YW fl Yj ZB K2.Ya (by rw[<-ea,<-es];exact N2) W2 aV (by omega) (by rw[kS];exact rD) (by rw[ZbH];exact mM) fo xm hr3 (by rw[ZdN];omega) (by rw[E8];omega);rw[<-es,<-e1]at cr;unfold Zr at cr;simp -implicitDefEqProofs only[go_sem,f0,f1,P2r];refine cr.use ?_;rintro v' g3 ⟨o3,a3,vx,k3,N3,W3⟩;have P3:=(ZI N3.ZQ.2 N3.pt.store.len).Z8;rcases N3.pt.Z8.fn with⟨c1,c2⟩|⟨c1,f,l,c2⟩
   .rw[c2]at P3;simp -implicitDefEqProofs only[go_sem,f0,f1,P3];exact⟨c1,o3,a3,vx,K2.trans k3,N3,W3⟩
   .rw[c2]at P3;simp -implicitDefEqProofs only[go_sem,f0,f1,P3];rw[if_pos c1];exact⟨o3,a3,vx,K2.trans k3,N3,W3⟩
  | none=>
   have hn:s.Zi=ay:=by
    have:=N2.pt.Zi;rw[MB]at this
    cases hx:s.Zi with
    | none=>rfl
    | some r=>rw[hx]at this;exact this.elim
   rw[MB]at P2r;unfold Ok at P2r;have r5a:hc g2 ⟨kb,0,ay⟩=av (U O n.Zy.p.r):=Zg x5.2;have r5b:hc g2 ⟨kb,1,ay⟩=av (U O n.Zy.p.n):=Zg x5.2;rw[sme]at kT;by_cases c:0<n.Zy.p.r/\n.Zy.p.n≠n.me
   case neg=>
    have e1:YY s=⟨s,[],[]⟩:=by unfold YY;rw[hn];simp only;rw[kS,sme,if_neg c]
    rw[e1];have Pc:s.Z8=ay:=by rw[tH];exact hp0
    simp -implicitDefEqProofs only[go_sem,f0,f1,P2r];refine VS.mono (N:=fun F' g'=>Zf g2.size g2 g'/\F' 0=aa (av ⟨wb,0,ay⟩)/\F' 1=aa (av ⟨nb,0,ay⟩)/\F' 53=a8 false) ?_ ?_ (fun _ _ _ h=>h) (fun _ _ h=>h)
    .refine VS.z (g2.size) [] (.p 0 (.q 1 (.p 2 (.p 3 (.p 4 (.q 5 (.p 6 (.p 7 (.p 8 (.q 9 (.p 10 (.p 11 (.p 12 .nil))))))))))))) mixed (by kernel_rfl) ?_;by_cases c1:0<n.Zy.p.r
     .have c2:n.Zy.p.n=n.me:=by
       rcases Decidable.em (n.Zy.p.n=n.me) with e|e
       .exact e
       .exact (c ⟨c1,e⟩).elim
      simp -implicitDefEqProofs only[go_sem,f0,f1,f5,r5a,r5b,kT,l5,VZ,c1,c2]
      try exact Zf.refl _ _
     .simp -implicitDefEqProofs only[go_sem,f0,f1,f5,r5a,r5b,kT,l5,VZ,c1]
      try exact Zf.refl _ _
    rintro F3 g3 ⟨b3,f0,f1,f53⟩;have WV:=ZN K2.Ya b3;simp -implicitDefEqProofs only[go_sem,f53];exact⟨f0,f1,Pc,o,a2,YW,K2.trans (ZR WV),N2.Zu WV,by rw[a5];exact W2.Zu WV⟩
   have e1:YY s=⟨s,Re s,[]⟩:=by unfold YY;rw[hn];simp only;rw[kS,sme,if_pos c]
   rw[e1];have Pc:s.Z8=ay:=by rw[tH];exact hp0
   obtain⟨c1,c2⟩:=c;simp -implicitDefEqProofs only[go_sem,f0,f1,P2r];refine VS.mono (N:=fun F' g'=>Zf g2.size g2 g'/\F' 0=aa (av ⟨wb,0,ay⟩)/\F' 1=aa (av ⟨nb,0,ay⟩)/\F' 5=aa (av ⟨kb,0,ay⟩)/\F' 53=a8 true) ?_ ?_ (fun _ _ _ h=>h) (fun _ _ h=>h)
   .refine VS.z (g2.size) [] (.p 0 (.q 1 (.p 2 (.p 3 (.p 4 (.q 5 (.p 6 (.p 7 (.p 8 (.q 9 (.p 10 (.p 11 (.p 12 .nil))))))))))))) mixed (by kernel_rfl) ?_;simp -implicitDefEqProofs only[go_sem,f0,f1,f5,r5a,r5b,kT,l5,VZ,c1,c2]
    try exact Zf.refl _ _
   clear f0 f1 f5;rintro F3 g3 ⟨b3,f0,f1,f5,f53⟩;have WV:=ZN K2.Ya b3;have N3:=N2.Zu WV;have W3:=W2.Zu WV;have K3:=K2.trans (ZR (S:=X1 i) WV);have y5:=x5.Zd WV;obtain⟨pq,cq,zK,_⟩:=YP.ZM N3.pt.Zw;have zK:a2.Zw=Q pq s.Zw.length cq:=zK;have P3q:=(ZI N3.ZQ.2 N3.pt.store.len).Zw;rw[zK]at P3q;simp -implicitDefEqProofs only[go_sem,f0,f1,f53,P3q];have hql:s.Zw.length<=10000000000:=by rw[E8];exact hq
   refine VS.Z9 (fun F g=>F 0=aa (av ⟨wb,0,ay⟩)/\F 1=aa (av ⟨nb,0,ay⟩)/\F 5=aa (av ⟨kb,0,ay⟩)/\F 69=Q pq s.Zw.length cq/\F 70=U O s.Zw.length/\∃(j:Nat) (o':Ow) (XS:WA),j<=s.Zw.length/\F 71=U O j/\Kp (X1 i) o h o' g/\ZV o' g wb i nb a2 s/\ZS o' g wb Yr XS (fl++(Re s).take j) Yj ZB/\ZY o' g kb (ao [U O n.Zy.p.r,U O n.Zy.p.n].toArray 116))
    (fun F _=>s.Zw.length-(vi (F 71)).toNat) rfl ⟨f0,f1,f5,rfl,rfl,0,o,YW,by omega,rfl,K3,N3,by simpa using W3,y5⟩ ?_
   clear f0 f1 f5 f53 P3q N3 W3 K3 y5 WV b3 x5 K2 N2 W2;rintro F4 g4 ⟨f0,f1,f5,f69,f70,j,o4,gJ,hj,f71,K4,N4,W4,y5⟩;have yp:(Re s).length=s.Zw.length:=by unfold Re;simp
   by_cases ZL:j<s.Zw.length
   .have ZW:(j:Int)<s.Zw.length:=by omega
    obtain⟨pz,cz,Ej,bV⟩:=JG N4.pt.Zw.ts;obtain⟨bb,oo,yE,U9,Pq⟩:=bV (by intro e;have:s.Zw=[]:=e;rw[this]at ZL;simp at ZL);have Ej:a2.Zw=Q pz s.Zw.length cz:=Ej;rw[zK]at Ej;simp only[Value.slice.injEq]at Ej;obtain⟨rfl,_,rfl⟩:=Ej;subst yE;have re:rd g4 ⟨bb,oo+j*5,ay⟩ 5=av (s.Zw[j]).C:=Pq j ZL;obtain⟨x,hx⟩:=ZD (s.Zw[j]);rw[<-hx]at re;have Y5:(Re s).take (j+1)=(Re s).take j++[⟨4,s.me,n.Zy.p.n,Qh,Sp 0 Qh x,[]⟩]:=by
     rw[Yp _ j (by rw[yp];exact ZL)]
     congr 2
     unfold Re;rw[bo,<-hx,kS]
    obtain⟨g5,tI⟩:=ZD (g4.push (ao x.C.toArray 43):Hp);have k5:Kp QC o4 g4 o4 g5:=by rw[tI];exact Yc K4.Ya _
    have x7:ZY o4 g5 g4.size (ao x.C.toArray 43):=⟨K4.Ya _ (az _),by rw[tI];exact Zb⟩
    have e5:=tI.symm;have N5:=N4.Zu k5;have W5:=W4.Zu k5;have z5:=y5.Zd k5;have s5:hc g5 ⟨kb,1,ay⟩=av (U O n.Zy.p.n):=Zg z5.2;have sx:rd g5 ⟨g4.size,0,ay⟩ 5=av [U O x.k,U O x.c,U O x.s,U O x.n,U O x.v]:=Zs x7.2 rfl;have re:rd g4 ⟨bb,oo+j*5,ay⟩ 5=av [U O x.k,U O x.c,U O x.s,U O x.n,U O x.v]:=re;have e5:g4.push (ao [U O x.k,U O x.c,U O x.s,U O x.n,U O x.v].toArray 43)=g5:=e5;have P5:=ZI N5.ZQ.2 N5.pt.store.len;have Om:=Za N5.ZQ.2;simp -implicitDefEqProofs only[go_sem,f0,f1,f5,f69,f70,f71,ZW,re,e5,s5,sx];have rl:(fl++(Re s).take j).length<=1000000000000:=by
     rw[aI,bK];omega
    refine (Wl T g5 o4 wb nb Yr s.me gJ _ Yj ZB n.Zy.p.n ⟨4,0,0,Qh,Sp 0 Qh x,[]⟩ (Q ay 0 0) k5.Ya W5 P5.me Om (Im.nil _ _ _ _) rl).use ?_;rintro v' g6 ⟨o6,WA6,k6,_,W6⟩;simp -implicitDefEqProofs only[go_sem,f71];unfold XB;refine⟨⟨f0,f1,f5,f69,f70,j+1,o6,WA6,ZL,rfl,(K4.trans (ZR k5)).trans (k6.mono fun t q=>by rcases q with rfl|rfl<;>simp[X1]),N5.Zd k6 (by rintro t (rfl|rfl)<;>simp[Tg.of]),by rw[Y5,<-a7];exact W6,z5.Zd k6⟩,?_⟩;simp only[vi,Zk,↓reduceIte,f71];omega
   .have YU:¬(j:Int)<s.Zw.length:=by omega
    obtain rfl:j=s.Zw.length:=by omega
    rw[bH (by rw[yp];exact az _)]at W4;simp -implicitDefEqProofs only[go_sem,f70,f71,YU];exact⟨f0,f1,Pc,o4,a2,gJ,K4,N4,W4⟩
 clear f0 f1 f5 x5 K2 N2 W2 aV;rintro F3 g3 ⟨f0,f1,Pc,o3,a3,vx,K3,N3,W3⟩;rw[if_neg (by rw[Pc];simp)];obtain⟨m,hm⟩:=ZD ((YY s).n);obtain⟨ls,hls⟩:=ZD ((YY s).ls);rw[<-hm]at ZbI Zi6 eme ZdP ZrW N3 Pc;rw[<-hls]at W3 els;rw[<-hm,<-hls];clear hm hls;have hmt:0<=m.XK/\m.XK<5:=by rw[ZbI,ZbG];exact ht
 have fX:m.ZP.length<=100000000000:=by rw[Zi6,ZdN];exact hl
 have hll:(Z ls)<=10000000200:=by rw[E8]at els;omega
 refine VS.seq (VS.mono (N:=fun F' g'=>F' 0=aa (av ⟨wb,0,ay⟩)/\F' 1=aa (av ⟨nb,0,ay⟩)/\Kp (X1 i) o h o3 g'/\ZV o3 g' wb i nb a3 (UA m)/\ZS o3 g' wb Yr vx (fl++ls) Yj ZB) ?_ ?_ (fun _ _ _ h=>h) (fun _ _ h=>h))
 .refine JC _ _ _ _ _ _ rfl ?_;have P3:=ZI N3.ZQ.2 N3.pt.store.len;have P3t:=P3.XK;have VZ:=Za N3.ZQ.2;have et:(m.XK+1).tmod 5=(m.XK+1)%5:=Int.tmod_eq_emod_of_nonneg (by omega);obtain⟨g4,w4,N4,k4⟩:=Z7.write (a:=a3) (n:=UA m) { N3.pt with } K3.Ya N3.ZQ ((Y7 N3.ZQ.2 N3.pt.store.len).XK ((m.XK+1)%5));simp -implicitDefEqProofs only[go_sem,f0,f1,P3t,et,w4,VZ];exact⟨K3.trans (k4.mono fun t q=>.inr (.inr (.inr (by rw[q];rfl)))),N4,W3.Zd k4 (by rintro t rfl;simp[Tg.of])⟩
 clear f0 f1 K3 N3 W3;rintro F4 g4 ⟨f0,f1,K4,N4,W4⟩;obtain⟨q,hq0⟩:=ZD (UA m);have ql:q.ZP=m.ZP:=by rw[hq0];rfl
 rw[<-hq0]at N4 ⊢;clear hq0;have P4:=ZI N4.ZQ.2 N4.pt.store.len;have P4t:=P4.XK;have ZdR:=P4.me;have P4o:=P4.Bp;have P4l:=P4.ZP;obtain⟨pl,cl,KB,_⟩:=YP.ZM N4.pt.ZP;have KB:a3.ZP=Q pl q.ZP.length cl:=KB;rw[KB]at P4l;have VZ:=Za N4.ZQ.2;rw[<-ql]at fX;refine JC _ _ _ _ _ _ rfl ?_;simp -implicitDefEqProofs only[go_sem];by_cases c:q.XK≠q.me/\q.ZP.length<40
 case neg=>
  have e1:Rg q=[]:=by unfold Rg;rw[if_neg c]
  rw[e1,a5];refine VS.mono (N:=fun F' g'=>Zf g4.size g4 g'/\F' 109=a8 false) ?_ ?_ (fun _ _ _ h=>h) (fun _ _ h=>h)
  .refine VS.z (g4.size) [] (.p 0 (.p 1 (.p 2 (.q 3 (.p 4 (.p 5 (.p 6 (.q 7 (.p 8 (.p 9 (.p 10 (.p 11 (.p 12 (.q 13 (.p 14 (.p 15 (.p 16 .nil))))))))))))))))) mixed (by kernel_rfl) ?_;by_cases c1:q.XK=q.me
   .simp -implicitDefEqProofs only[go_sem,f0,f1,P4t,ZdR,P4l,VZ,c1]
    try exact Zf.refl _ _
   .have c2:¬(q.ZP.length:Int)<40:=by
     intro e;exact c ⟨c1,by omega⟩
    simp -implicitDefEqProofs only[go_sem,f0,f1,P4t,ZdR,P4l,VZ,c1,c2]
    try exact Zf.refl _ _
  rintro F5 g5 ⟨b5,f109⟩;have Fu:=ZN K4.Ya b5;simp -implicitDefEqProofs only[go_sem,f109];exact⟨o3,a3,vx,K4.trans (ZR Fu),N4.Zu Fu,W4.Zu Fu⟩
 have e1:Rg q=[⟨5,q.me,q.XK,Wa q,Sp q.ZP.length Qh vm,[]⟩]:=by unfold Rg;rw[if_pos c]
 rw[e1];obtain⟨c1,c2⟩:=c;have c2:(q.ZP.length:Int)<40:=by omega
 refine VS.mono (N:=fun F' g'=>Zf g4.size g4 g'/\F' 0=aa (av ⟨wb,0,ay⟩)/\F' 1=aa (av ⟨nb,0,ay⟩)/\F' 109=a8 true) ?_ ?_ (fun _ _ _ h=>h) (fun _ _ h=>h)
 .refine VS.z (g4.size) [] (.p 0 (.p 1 (.p 2 (.q 3 (.p 4 (.p 5 (.p 6 (.q 7 (.p 8 (.p 9 (.p 10 (.p 11 (.p 12 (.q 13 (.p 14 (.p 15 (.p 16 .nil))))))))))))))))) mixed (by kernel_rfl) ?_;simp -implicitDefEqProofs only[go_sem,f0,f1,P4t,ZdR,P4l,VZ,c1,c2]
  try exact Zf.refl _ _
 clear f0 f1;rintro F5 g5 ⟨b5,f0,f1,f109⟩;have Fu:=ZN K4.Ya b5;have N5:=N4.Zu Fu;have W5:=W4.Zu Fu;have K5:Kp (X1 i) o h o3 g5:=K4.trans (ZR Fu);have P5:=ZI N5.ZQ.2 N5.pt.store.len;have P5o:=P5.Bp;have Om:=Za N5.ZQ.2;obtain⟨g6,RU⟩:=ZD (g5.push (ao [U O q.Zy.p.r,U O q.Zy.p.n].toArray 116):Hp);have k6:Kp QC o3 g5 o3 g6:=by rw[RU];exact Yc K5.Ya _
 have x8:ZY o3 g6 g5.size (ao [U O q.Zy.p.r,U O q.Zy.p.n].toArray 116):=⟨K5.Ya _ (az _),by rw[RU];exact Zb⟩
 have e6:=RU.symm;have N6:=N5.Zu k6;have W6:=W5.Zu k6;have K6:Kp (X1 i) o h o3 g6:=K5.trans (ZR k6);have P6h:=(ZI N6.ZQ.2 N6.pt.store.len).YH;have tF:=Za N6.ZQ.2;have l8:=Za x8.2;have r8:rd g6 ⟨g5.size,0,ay⟩ 2=av [U O q.Zy.p.r,U O q.Zy.p.n]:=Zs x8.2 rfl;obtain⟨kb,uQ⟩:=ZD (g5.size);simp -implicitDefEqProofs only[go_sem,f0,f1,f109,P5o,Om,e6];rw[<-uQ]at x8 l8 r8 ⊢;refine VS.mono (N:=fun F' g'=>Zf g6.size g6 g'/\F' 0=aa (av ⟨wb,0,ay⟩)/\F' 1=aa (av ⟨nb,0,ay⟩)/\F' 8=aa (av ⟨kb,0,ay⟩)/\F' 120=a8 (decide (Y4 q.Zy.p q.YH))) ?_ ?_ (fun _ _ _ h=>h) (fun _ _ h=>h)
 .refine VS.z (g6.size) [5] (.p 0 (.p 1 (.p 2 (.q 3 (.q 4 (.w 5 .nil)))))) mixed (by kernel_rfl) ?_;simp -implicitDefEqProofs only[go_sem,f0,f1,P6h,r8,tF,l8];refine (NB T g6 q.YH q.Zy.p).use ?_;rintro _ g ⟨rfl,b⟩;simp -implicitDefEqProofs only[go_sem,b];exact⟨f0,f1⟩
 clear f0 f1;rintro F7 g7 ⟨b7,f0,f1,f8,f120⟩;have kb7:=ZN K6.Ya b7;have N7:=N6.Zu kb7;have W7:=W6.Zu kb7;have K7:Kp (X1 i) o h o3 g7:=K6.trans (ZR kb7);have y8:=x8.Zd kb7;have P7h:=(ZI N7.ZQ.2 N7.pt.store.len).YH;have ZdS:=Za N7.ZQ.2;have m8:=Za y8.2;by_cases c6:Y4 q.Zy.p q.YH
 all_goals
 first
 | (have eb:Wa q=q.YH:=by unfold Wa;rw[if_pos c6]
    obtain⟨g8,Gn⟩:=ZD (g7.setIfInBounds kb (ao [U O q.YH.r,U O q.YH.n].toArray 116):Hp);have w8:wr g7 ⟨kb,0,ay⟩ [U O q.YH.r,U O q.YH.n]=av g8:=by rw[Z2 y8.2 0 _,Gn];rfl
    have k8:Kp QC o3 g5 o3 g8:=by rw[Gn];exact (k6.trans kb7).aQ (by omega) _
    have z8:ZY o3 g8 kb (ao [U O (Wa q).r,U O (Wa q).n].toArray 116):=⟨y8.1,by rw[Gn,eb];exact ZE y8.2⟩
    simp -implicitDefEqProofs only[go_sem,f0,f1,f8,f120,c6,P7h,ZdS,w8])
 | (have eb:Wa q=q.Zy.p:=by unfold Wa;rw[if_neg c6]
    obtain⟨g8,Gn⟩:=ZD (g7:Hp);have k8:Kp QC o3 g5 o3 g8:=by rw[Gn];exact k6.trans kb7
    have z8:ZY o3 g8 kb (ao [U O (Wa q).r,U O (Wa q).n].toArray 116):=⟨y8.1,by rw[Gn,eb];exact y8.2⟩
    simp -implicitDefEqProofs only[go_sem,f120,c6];rw[<-Gn])
 all_goals
  have N8:=N5.Zu k8;have W8:=W5.Zu k8;have K8:Kp (X1 i) o h o3 g8:=K5.trans (ZR k8);have P8:=ZI N8.ZQ.2 N8.pt.store.len;have P8t:=P8.XK;have P8l:=P8.ZP;rw[KB]at P8l;have zQ:=Za N8.ZQ.2;have n8:=Za z8.2;have s8:rd g8 ⟨kb,0,ay⟩ 2=av [U O (Wa q).r,U O (Wa q).n]:=Zs z8.2 rfl;refine VS.z (g8.size) [14] (.p 0 (.p 1 (.p 2 (.p 3 (.p 4 (.q 5 (.q 6 (.p 7 (.p 8 (.p 9 (.q 10 (.p 11 (.p 12 (.p 13 (.w 14 .nil))))))))))))))) mixed (by kernel_rfl) ?_;simp -implicitDefEqProofs only[go_sem,f0,f1,f8,P8t,P8l,s8,zQ,n8];have rl:(fl++ls).length<=1000000000000:=by rw[aI];omega
  refine (Wl T g8 o3 wb nb Yr q.me vx _ Yj ZB q.XK ⟨5,0,0,Wa q,Sp q.ZP.length Qh vm,[]⟩ (Q ay 0 0) K8.Ya W8 P8.me zQ (Im.nil _ _ _ _) rl).use ?_;rintro v' g9 ⟨o9,WA9,k9,_,W9⟩;simp -implicitDefEqProofs only[go_sem];exact⟨o9,a3,WA9,K8.trans (k9.mono fun t q=>by rcases q with rfl|rfl<;>simp[X1]),N8.Zd k9 (by rintro t (rfl|rfl)<;>simp[Tg.of]),by rw[<-a7];exact W9⟩
structure dC(n:Nd)(l:XR)(fl ZB:Nat):Prop where
 YI:0<=l.YI/\l.YI<=7
 room:fl<=1000000000000
 Xh:n.Zy.l.length<=1000000
 data:(Z n.data)<=1000000
 Zp:n.Zp.length<=100000000000
 ZP:n.ZP.length<=100000000000
 ZB:ZB<=100000000000
 Zw:n.Zw.length<=1000000000000
 Zh:n.Zh.length<=1000000000000
 T5:∀r s,n.Zi=av r->((XD r.JV s).getD []).length<=1000000
structure tJ(n:Nd)(fl:Nat):Prop where
 room:fl<=800000000000
 Xh:n.Zy.l.length<=1000000
 data:(Z n.data)<=1000000
 rgn:∀r,n.Zi=av r->(∀x∈r.Yw,x.2.length<=1000000)/\(∀x∈r.Yw,∀v∈x.2,v.ZA<=1000000)/\r.Yw.length<=1000000000000
 ZP:n.ZP.length<=100000000000
 Zw:n.Zw.length<=10000000000
 XK:0<=n.XK/\n.XK<5
def RV:Nd->List XR->Nat->Nat->Prop
 | _,[],_,_=>True
 | n,l :: k,f,t=>n.Z8.isSome=true\/(dC { n with Zt:=k } l f t/\RV (Yn { n with Zt:=k } l).n k (f+(Yn { n with Zt:=k } l).ls.length) (t+(Yn { n with Zt:=k } l).ts.length))
structure dD(n:Nd)(fl ZB:Nat):Prop where
 data:(Z n.data)<=1000000
 room:fl<=1000000000000
 dr:n.Z8=ay->RV n n.Zt fl ZB
 du:n.Z8=ay->(Xr n n.Zt).n.Z8=ay->tJ (Xr n n.Zt).n (fl+(Xr n n.Zt).ls.length)
theorem E9(n:Nd)(l:XR)(k:List XR):(Yn { n with Zt:=k } l).n.Zt=k:=by
 have hL:∀(m:Nat) (x:Nd),(Xq m x).1.Zt=x.Zt:=by
  intro m
  induction m with
  | zero=>intro x;rfl
  | succ m ih=>
   intro x;unfold Xq;split
   .rfl
   .simp only;rw[ih];rfl
 have hl:∀(x:Nd) s c,(Vu x s c).n.Zt=x.Zt:=fun x s c=>by unfold Vu;simp only;rw[hL];rfl
 have hn:∀x:Nd,(Qa x l).Zt=x.Zt:=fun x=>by unfold Qa;split<;>rfl
 unfold Yn;split
 .unfold XC;split;· rfl
  split;· rfl
  split<;>rfl
 split
 .unfold Y6;split
  .rfl
  .split
   .split<;>rfl
   .split;· rfl
    split
    .rw[hl];rfl
    .rfl
 split
 .unfold asked;split;· rfl
  split;· rfl
  split<;>rfl
 split
 .unfold add;simp only;split<;>rfl
 split
 .unfold Tx;split
  .simp only;rw[hn]
  .simp only;rw[hn]
 split
 .rw[hl]
 .simp only;rw[hn]
theorem zR{t:Tg}{v:a6}{l:XR}{k:List XR}(s:Up o t h v (l :: k)):
  ∃w b off c,v=Q (av ⟨b,off,ay⟩) ((Z k)+1) c/\(Z k)+1<=c/\rd h ⟨b,off,ay⟩ 14=av (Xg l w)/\WU o h w l.vs/\Up o t h (Q (if c=1 then av ⟨b,off,ay⟩ else av ⟨b,off+14,ay⟩) (Z k) (c-1)) k:=by
 obtain⟨xs,h1,h2,h3⟩:=s
 cases xs with
 | nil=>cases h1
 | cons x xs=>
  obtain⟨l',w⟩:=x;simp only[List.map_cons,List.cons.injEq]at h1;obtain⟨rfl,rfl⟩:=h1;have vu:=h2;rcases h2 with⟨_,e,_⟩|⟨b,off,cap,pre,Zx,g1,rfl,g3,g4,g5,g6,g7⟩
  .cases e
  refine⟨w,b,off,cap,by rw[a9];rfl,by rw[a9];exact g7,?_,h3 (l',w) Dq,?_⟩
  .have e1:ZK Lu ((l',w) :: xs)=Xg l' w++ZK Lu xs:=by simp[ZK,Lu]
   have g5':(ZK Lu ((l',w) :: xs)).length=((Z xs)+1)*14:=g5;rw[Yh g3 (by simp only[aI];omega),<-g4,List.drop_left,e1,a7];rfl
  .refine⟨xs,rfl,?_,fun x hx=>h3 x (by simp[hx])⟩;have tl:=vu.tail (k:=1) Dq;have e1:ZK Lu ((l',w) :: xs)=Xg l' w++ZK Lu xs:=by simp[ZK,Lu]
   rw[e1]at tl;have e2:(Xg l' w++ZK Lu xs).drop (1*14)=ZK Lu xs:=rfl;rw[e2]at tl
   simpa [addr_add] using tl
def BG(nb:Nat)(g:Hp):Nat:=match hc g ⟨nb,54,ay⟩ with
 | some (Q _ m _)=>m
 | _=>0
theorem BH{wb i nb:Nat}{a:NA}{n:Nd}(N:ZV o h wb i nb a n):BG nb h=n.Zt.length:=by
 obtain⟨xs,h1,h2,_⟩:=N.pt.Zt;obtain⟨p,c,h3,_⟩:=h2.ZM;have:=(ZI N.ZQ.2 N.pt.store.len).Zt;unfold BG;rw[this,h3,<-h1,a9]
theorem BI{i:Nat}(t:Tg)(q:ZdK i t):X1 i t:=by
 rcases q with rfl|rfl|rfl|rfl|rfl
 .exact .inl rfl
 .exact .inr (.inl rfl)
 all_goals exact .inr (.inr (.inr rfl))
set_option maxHeartbeats 4000000 in
theorem tL(T:bE)(h:Hp)(o:Ow)(wb i nb:Nat)(Yr:Nat->Nat)(a:NA)(n:Nd)(YW:WA)(fl:List XR)(Yj:Nat->Int)(ZB:List Pk)(d:UO o h)(N:ZV o h wb i nb a n)(W:ZS o h wb Yr YW fl Yj ZB)(tb:Az o h)(ok:dD n (Z fl) (Z ZB)):
  Zc bg T 70 #[Zr wb,Zr nb] h fun v' h'=>∃o' a' XS,Kp (X1 i) o h o' h'/\ZV o' h' wb i nb a' (step n).n/\ZS o' h' wb Yr XS (fl++(step n).ls) Yj (ZB++(step n).ts):=by
 refine Zc.Y8 [_,_] Tryz.func70 ?_;unfold Zr;have P:=ZI N.ZQ.2 N.pt.store.len;have VZ:=Za N.ZQ.2;have Pu:=P.up
 cases hu:n.up with
 | false=>
  have e1:step n=⟨n,[],[]⟩:=by unfold step;rw[hu];rfl
  rw[hu]at Pu;rw[e1,a5,a5];simp -implicitDefEqProofs only[go_sem,Pu];exact⟨o,a,YW,Kp.refl d _,N,W⟩
 | true=>
 rw[hu]at Pu;have Pp:=P.Z8
 cases hp:n.Z8 with
 | some p=>
  have e1:step n=QB (Xo n) p:=by unfold step;rw[hu,hp];rfl
  rw[e1];have Pn:=N.pt.Z8;rw[hp]at Pn;obtain⟨f,l,hf⟩:∃f l,a.Z8=.func (.func f) #[] l:=by
   rcases Pn.fn with⟨c,_⟩|⟨_,c⟩
   .cases c
   .exact c
  have Pp':=Pp;rw[hf]at Pp';obtain⟨pd,cd,Pc⟩:=N.pt.data.1.ZM;have Pc:a.data=Q pd (Z n.data) cd:=Pc;have Pt:=P.tape;rw[Pc]at Pt;have Nd:=N.pt.data;rw[Pc]at Nd;simp -implicitDefEqProofs only[go_sem,Pu,Pp',Pt];refine (xH T h _ n.XW n.data Nd.bs (by have:=ok.data;omega)).use ?_;rintro v1 h1 ⟨b1,s1⟩;have kb:=ZN d b1;have N1:=N.Zu kb;have W1:=W.Zu kb;obtain⟨p1,c1,rfl,i1⟩:∃p1 c1,v1=.tuple [ba [Q p1 (Xo n).data.length c1,U O (Xo n).XW].toArray,U O (if Xu n.data n.XW then 0 else 5)].toArray/\TD o h1 (Q p1 (Xo n).data.length c1) (Xo n).data:=by
   unfold bF at s1;by_cases c:Xu n.data n.XW
   .rw[if_pos (show (Z n.data)<=100000/\0<=n.XW/\n.XW<=(Z n.data) from c)]at s1;obtain⟨w,rfl,o1⟩:=s1;obtain⟨p1,c1,rfl,_⟩:=o1.bs.open;have e2:(Xo n).data=n.data:=by unfold Xo;simp only;rw[if_pos c]
    have e3:(Xo n).XW=(Z n.data):=by unfold Xo;simp only;rw[if_pos c]
    rw[e2,e3,if_pos c];exact⟨p1,c1,rfl,Im.Ub o1.Zy (fun b hb=>d b hb),o1.byte⟩
   .rw[if_neg (show ¬((Z n.data)<=100000/\0<=n.XW/\n.XW<=(Z n.data)) from c)]at s1;have e2:(Xo n).data=[]:=by unfold Xo;simp only;rw[if_neg c]
    have e3:(Xo n).XW=0:=by unfold Xo;simp only;rw[if_neg c]
    rw[e2,e3,if_neg c];exact⟨ay,0,s1,Im.nil _ _ _ _,fun x hx=>by cases hx⟩
  obtain⟨g2,w2,N2,k2⟩:=Z7.write (a:={ a with data:=Q p1 (Xo n).data.length c1 }) (n:={ n with data:=(Xo n).data,XW:=(Xo n).XW }) { N1.pt with data:=i1 } kb.Ya N1.ZQ ((Y7 N1.ZQ.2 N1.pt.store.len).tape (Q p1 (Xo n).data.length c1) (Xo n).XW rfl);have Qb:=Za N1.ZQ.2;have Qj:=Za N2.ZQ.2;have dE:hc g2 ⟨nb,55,ay⟩=av a.Z8:=(ZI N2.ZQ.2 N2.pt.store.len).Z8;have pn:UV o g2 wb i nb a.Zi .nilFunc ay:=rfl;obtain⟨g3,w3,N3,k3⟩:=Z7.write (a:={ a with data:=Q p1 (Xo n).data.length c1,Z8:=.nilFunc }) (n:=Xo n) { N2.pt with Z8:=pn } k2.Ya N2.ZQ ((Y7 N2.ZQ.2 N2.pt.store.len).Z8 .nilFunc rfl);have K3:Kp (X1 i) o h o g3:=((ZR kb).trans (k2.mono fun t q=>.inr (.inr (.inr (by rw[q];rfl))))).trans (k3.mono fun t q=>.inr (.inr (.inr (by rw[q];rfl))));have W3:=(W1.Zd k2 (by rintro t rfl;simp[Tg.of])).Zd k3 (by rintro t rfl;simp[Tg.of]);have Pn3:UV o g3 wb i nb a.Zi a.Z8 (av p):=((Pn.Zd kb (by rintro⟨⟩)).Zd k2 MI).Zd k3 MI;clear hf Pp';rw[show (QB (Xo n) p).ts=[] from by cases p<;>rfl,a5];have rm:=ok.room;have hns:(Xo n).Z8=ay:=rfl
  cases p with
  | EU acc to b vs=>
   obtain⟨b6,b4,b9,u,vq,vu,h3',h4',h5'⟩:=Pn3;have cf:=zm T g3 o wb i nb Yr YW fl Yj ZB _ (Xo n) acc to b vs b6 b4 b9 u k3.Ya N3 W3 rm vu h3' h4' h5';rw[vq]at dE;unfold WZ at dE;simp only[bT]at dE;unfold Zr at dE cf;simp -implicitDefEqProofs only[go_sem,w2,Qb,dE,w3,Qj];refine cf.use ?_;rintro v' h' ⟨o',a',XS,k,N',W'⟩;simp -implicitDefEqProofs only[go_sem];exact⟨o',a',XS,K3.trans (k.mono BI),N',W'⟩
  | EV acc to x=>
   obtain⟨b6,b4,b9,u,vq,vu,h3',h4',h5'⟩:=Pn3;have cf:=zn T g3 o wb i nb Yr YW fl Yj ZB _ (Xo n) acc to x b6 b4 b9 u k3.Ya N3 W3 rm vu h3' h4' h5';rw[vq]at dE;unfold WZ at dE;simp only[bT]at dE;unfold Zr at dE cf;simp -implicitDefEqProofs only[go_sem,w2,Qb,dE,w3,Qj];refine cf.use ?_;rintro v' h' ⟨o',a',XS,k,N',W'⟩;simp -implicitDefEqProofs only[go_sem];exact⟨o',a',XS,K3.trans (k.mono BI),N',W'⟩
  | Zy acc vs cur=>
   obtain⟨b6,b4,b7,b5,vq,cf⟩:=zo T g3 o wb i nb _ (Xo n) acc vs cur a.Z8 k3.Ya N3 hns Pn3;rw[vq]at dE;unfold WZ at dE;simp only[bT]at dE;unfold Zr at dE cf;rw[show (QB (Xo n) (.Zy acc vs cur)).ls=[] from rfl,a5];simp -implicitDefEqProofs only[go_sem,w2,Qb,dE,w3,Qj];refine cf.use ?_;rintro v' h' ⟨o',a',k,N'⟩;simp -implicitDefEqProofs only[go_sem];exact⟨o',a',YW,K3.trans (k.mono fun t q=>by rcases q with rfl|rfl|rfl<;>exact .inr (.inr (.inr rfl))),N',W3.Zd k (fun t q=>by rcases q with rfl|rfl|rfl<;>simp[Tg.of])⟩
 | none=>
  have Pp0:a.Z8=.nilFunc:=by have:=N.pt.Z8;rw[hp]at this;exact this
  have Pp1:=P.Z8;rw[Pp0]at Pp1;simp -implicitDefEqProofs only[go_sem,Pu,Pp1];obtain⟨D,hD⟩:=ZD (Xr n n.Zt);have dr:=ok.dr hp;have du:=ok.du hp;have e1:step n=if D.n.Z8.isSome=true then D else ⟨(Sr D.n).n,D.ls++(Sr D.n).ls,D.ts++(Sr D.n).ts⟩:=by unfold step;rw[hu,hp,hD];rfl
  rw[<-hD]at du;rw[e1];refine VS.Z9 (fun F g=>F 0=aa (av ⟨wb,0,ay⟩)/\F 1=aa (av ⟨nb,0,ay⟩)/\∃(o':Ow) (a':NA) (XS:WA) (m:Nd) (ls:List XR) (ts:List Pk),Kp (X1 i) o h o' g/\ZV o' g wb i nb a' m/\ZS o' g wb Yr XS (fl++ls) Yj (ZB++ts)/\D=⟨(Xr m m.Zt).n,ls++(Xr m m.Zt).ls,ts++(Xr m m.Zt).ts⟩/\RV m m.Zt ((Z fl)+(Z ls)) ((Z ZB)+(Z ts)))
   (fun _ g=>BG nb g) rfl ⟨rfl,rfl,o,a,YW,n,[],[],Kp.refl d _,N,by simpa using W,by rw[hD];rfl,by simpa using dr⟩ ?_
  clear Pu Pp Pp0 Pp1 P VZ N W d;rintro F1 g1 ⟨f0,f1,o1,a1,vy,m,ls,ts,K1,N1,W1,hDm,dr1⟩;have P1:=ZI N1.ZQ.2 N1.pt.store.len;have Qb:=Za N1.ZQ.2;have P1i:=P1.Zt;have zI:=P1.Z8;have stop:(m.Zt=[]\/m.Z8.isSome=true)->D=⟨m,ls,ts⟩:=by
   intro q;have e2:Xr m m.Zt=⟨m,[],[]⟩:=by
    cases vz:m.Zt with
    | nil=>unfold Xr;rw[<-vz]
    | cons l k=>
     rcases q with q|q
     .rw[vz]at q;cases q
     .unfold Xr;rw[if_pos q,<-vz]
   rw[hDm,e2];simp
  rcases N1.pt.Z8.fn with⟨c1,c2⟩|⟨c1,f,fl',c2⟩
  .rw[c2]at zI
   cases vz:m.Zt with
   | nil=>
    have eD:=stop (.inl vz);obtain⟨p,c,hi⟩:∃p c,a1.Zt=Q p 0 c:=by
     have:=N1.pt.Zt;rw[vz]at this;obtain⟨xs,h1,h2,_⟩:=this;obtain⟨p,c,h3,_⟩:=h2.ZM;rw[List.map_eq_nil_iff]at h1;subst h1;exact⟨p,c,h3⟩
    rw[hi]at P1i;have dok:=du (by rw[eD];exact c1);rw[eD]at dok;rw[eD,if_neg (by rw[c1];simp)];have cd:=zO T g1 o1 wb i nb Yr a1 m vy (fl++ls) Yj (ZB++ts) K1.Ya N1 W1 (tb.Zd K1) c1 (by rw[aI];exact dok.room) dok.Xh dok.data dok.rgn dok.ZP dok.Zw dok.XK;unfold Zr at cd;simp -implicitDefEqProofs only[go_sem,f0,f1,P1i,zI];refine cd.use ?_;rintro v' g2 ⟨o2,a2,WA2,k2,N2,W2⟩;simp -implicitDefEqProofs only[go_sem];have edt:(Sr m).ts=[]:=by
     unfold Sr;split
     .exact (On _).2.2.2.2.2
     .rfl
    refine⟨o2,a2,WA2,K1.trans k2,N2,?_⟩;rw[edt,a5,<-a7];exact W2
   | cons l k=>
    have NI:=N1.pt.Zt;rw[vz]at NI;obtain⟨w,b,off,c,hi,UX,Pq,iv,tl⟩:=zR NI;rw[hi]at P1i;rw[vz]at dr1;have hk:dC { m with Zt:=k } l ((Z fl)+(Z ls)) ((Z ZB)+(Z ts))/\RV (Yn { m with Zt:=k } l).n k ((Z fl)+(Z ls)+(Yn { m with Zt:=k } l).ls.length) ((Z ZB)+(Z ts)+(Yn { m with Zt:=k } l).ts.length):=by
     rcases dr1 with q|q
     .rw[c1]at q;cases q
     .exact q
    obtain⟨hk,dr2⟩:=hk;have AA:D=⟨(Xr (Yn { m with Zt:=k } l).n k).n,(ls++(Yn { m with Zt:=k } l).ls)++(Xr (Yn { m with Zt:=k } l).n k).ls,(ts++(Yn { m with Zt:=k } l).ts)++(Xr (Yn { m with Zt:=k } l).n k).ts⟩:=by
     rw[hDm,vz];have e2:Xr m (l :: k)=⟨(Xr (Yn { m with Zt:=k } l).n k).n,(Yn { m with Zt:=k } l).ls++(Xr (Yn { m with Zt:=k } l).n k).ls,(Yn { m with Zt:=k } l).ts++(Xr (Yn { m with Zt:=k } l).n k).ts⟩:=by
      rw[Xr];rw[if_neg (by rw[c1];simp)]
     rw[e2];simp
    have Rw:=E9 m l k;clear stop dr1 hDm;obtain⟨pw,cw,rfl⟩:=iv.ZM;obtain⟨g2,JK⟩:=ZD (g1.push (ao (Xg l (Q pw (Z l.vs) cw)).toArray 170):Hp);have k2:Kp QC o1 g1 o1 g2:=by rw[JK];exact Yc K1.Ya _
    have x5:ZY o1 g2 g1.size (ao (Xg l (Q pw (Z l.vs) cw)).toArray 170):=⟨K1.Ya _ (az _),by rw[JK];exact Zb⟩
    have e2:=JK.symm;have N2:=N1.Zu k2;have W2:=W1.Zu k2;have P2i:=(ZI N2.ZQ.2 N2.pt.store.len).Zt;rw[hi]at P2i;have Qj:=Za N2.ZQ.2;obtain⟨vi',hvi⟩:∃v:a6,v=Q (if c=1 then av ⟨b,off,ay⟩ else av ⟨b,off+14,ay⟩) (Z k) (c-1):=⟨_,rfl⟩
    have tl2:Up o1 (.Zt i) g2 vi' k:=by rw[hvi];exact tl.Zd k2 (fun q=>q.elim)
    obtain⟨g3,w3,N3,k3⟩:=Z7.write (a:={ a1 with Zt:=vi' }) (n:={ m with Zt:=k }) { N2.pt with Zt:=tl2 } k2.Ya N2.ZQ ((Y7 N2.ZQ.2 N2.pt.store.len).Zt vi' (by rw[hvi];rfl));rw[hvi]at w3;have y5:=x5.Zd k3;have W3:=W2.Zd k3 (by rintro t rfl;simp[Tg.of]);have r5:rd g3 ⟨g1.size,0,ay⟩ 14=av (Xg l (Q pw (Z l.vs) cw)):=Zs y5.2 rfl;have K3:Kp (X1 i) o h o1 g3:=(K1.trans (ZR k2)).trans (k3.mono fun t q=>.inr (.inr (.inr (by rw[q];rfl))));have MR:(1:Int)<=c:=gX;have ch:=kJ T g3 o1 wb i nb Yr _ { m with Zt:=k } vy (fl++ls) Yj (ZB++ts) l (Q pw (Z l.vs) cw) k3.Ya N3 W3 ((iv.Zd k2).Zd k3) (tb.Zd K3) hk.YI (by rw[aI];exact hk.room) hk.Xh hk.data hk.Zp hk.ZP (by rw[aI];exact hk.ZB) hk.Zw hk.Zh hk.T5;unfold Zr Xg at ch;unfold Xg at Pq e2 r5;simp -implicitDefEqProofs only[go_sem,f0,f1,P1i,zI,Pq,e2,P2i,Qj,w3,UX,MR,r5,Nat.add_sub_cancel];refine ch.use ?_;rintro v' g4 ⟨o4,a4,gJ,k4,N4,W4⟩;simp -implicitDefEqProofs only[go_sem];unfold XB;have in4:=BH N4;have in1:=BH N1;rw[Rw]at in4;rw[vz]at in1;refine⟨⟨f0,f1,o4,a4,gJ,(Yn { m with Zt:=k } l).n,ls++(Yn { m with Zt:=k } l).ls,ts++(Yn { m with Zt:=k } l).ts,K3.trans k4,N4,by rw[<-a7,<-a7];exact W4,by rw[Rw];exact AA,by rw[Rw,aI,aI,<-Nat.add_assoc,<-Nat.add_assoc];exact dr2⟩,?_⟩;show BG nb g4<BG nb g1;rw[in4,in1];simp
  .rw[c2]at zI;have eD:=stop (.inr c1);rw[eD,if_pos c1];obtain⟨p,c,hi⟩:∃p c,a1.Zt=Q p m.Zt.length c:=by
    obtain⟨xs,h1,h2,_⟩:=N1.pt.Zt;obtain⟨p,c,h3,_⟩:=h2.ZM;rw[<-h1,a9];exact⟨p,c,h3⟩
   rw[hi]at P1i;by_cases hz:0<m.Zt.length
   .have FK:(0:Int)<m.Zt.length:=gX;simp -implicitDefEqProofs only[go_sem,f0,f1,P1i,zI,FK];exact⟨o1,a1,vy,K1,N1,W1⟩
   .have FK:¬(0:Int)<m.Zt.length:=gX;simp -implicitDefEqProofs only[go_sem,f0,f1,P1i,zI,FK];exact⟨o1,a1,vy,K1,N1,W1⟩
def TG(t:Tg):Prop:=True
def Zi9(t:Tg):Prop:=∃i,t.of=av i
theorem Yy{S:Tg->Prop}{o':Ow}{h':Hp}(k:Kp S o h o' h'):Kp TG o h o' h':=k.mono fun _ _=>trivial
structure JH(o:Ow)(h:Hp)(wb:Nat)(Yr:Nat->Nat)(YW:WA)(w:Wd):Prop where
 wd:ZS o h wb Yr YW w.Zo w.Yj w.ZB
 nd:∀i,i<5->∃a,ZV o h wb i (Yr i) a (w.Zm i)
theorem JH.Zu{h':Hp}{wb:Nat}{Yr:Nat->Nat}{YW:WA}{w:Wd}{o':Ow}(A:JH o h wb Yr YW w)(k:Kp QC o h o' h'):JH o' h' wb Yr YW w:=
 ⟨A.wd.Zu k,fun i hi=>by obtain⟨a,N⟩:=A.nd i hi;exact⟨a,N.Zu k⟩⟩
theorem JH.XK{o':Ow}{h':Hp}{wb:Nat}{Yr:Nat->Nat}{YW vy:WA}{w:Wd}{i:Nat}{a:NA}{n:Nd}{fl:List XR}{Yj:Nat->Int}{ZB:List Pk}(A:JH o h wb Yr YW w)(k:Kp (X1 i) o h o' h')(N:ZV o' h' wb i (Yr i) a n)(W:ZS o' h' wb Yr vy fl Yj ZB):JH o' h' wb Yr vy { Zm:=fun j=>if j=i then n else w.Zm j,Zo:=fl,Yj:=Yj,ZB:=ZB }:=by
 refine⟨W,fun j hj=>?_⟩;by_cases e:j=i
 .subst e;exact⟨a,by simpa using N⟩
 .obtain⟨b,M⟩:=A.nd j hj;refine⟨b,?_⟩;simp only[if_neg e];refine M.Zd k fun t q hq=>?_;rcases q with rfl|rfl|rfl|q
  .cases hq
  .cases hq
  .cases hq
  .rw[hq]at q;exact e (Option.some.inj q)
theorem WO{wb:Nat}{Yr:Nat->Nat}{YW:WA}{fl:List XR}{Yj:Nat->Int}{ZB:List Pk}(W:ZS o h wb Yr YW fl Yj ZB):
  ∃b off c,YW.Zm=Q (av ⟨b,off,ay⟩) 5 c/\5<=c/\b<h.size/\∀i,i<5->hc h ⟨b,off+i,ay⟩=av (Zr (Yr i)):=by
 rcases W.Zm with⟨_,e,_⟩|⟨b,off,cap,pre,Zx,g1,g2,g3,g4,g5,g6,g7⟩
 .cases e
 refine⟨b,off,cap,g2,g7,Za g3,fun i hi=>?_⟩;rw[Zg g3,YE,<-g4,List.getElem?_append_right gX,bG]
 match i,hi with
 | 0,_=>rfl
 | 1,_=>rfl
 | 2,_=>rfl
 | 3,_=>rfl
 | 4,_=>rfl
theorem kU{T:bE}{K:a6->Hp->Prop}{ty:TypeId}{t:Tg}{v:a6}{l:List XR}{x:XR}{w:a6}{bx:Nat}{cb:Array Bool}(s:Up o t h v l)(d:UO o h)(iv:WU o h w x.vs)(hb:h[bx]? = av (ao (Xg x w).toArray 170))(hr:(Z l)<=1000000000000)(H:∀p c o' h',Up o' t h' (Q p ((Z l)+1) c) (l++[x])->Kp (fun u=>u=t) o h o' h'->K (Q p ((Z l)+1) c) h'):
  Sa bg T .append #[109,109] ty cb [v,Q (av ⟨bx,0,ay⟩) 1 1] K h:=by
 have src:Sl 14 h (Q (av ⟨bx,0,ay⟩) 1 1) 1 (Xg x w):=⟨_,1,rfl,rfl,fun _=>⟨bx,0,rfl,fun i hi=>by
  rw[Zg hb,YE,Nat.zero_add];exact bn hi⟩⟩
 obtain⟨p,c,hw⟩:=iv.ZM;have Xz:Yq w=true:=by rw[hw];rfl
 obtain⟨xs,QH,PA,bU⟩:=s;have Ax:(Z xs)=(Z l):=by rw[<-QH,a9]
 refine JX (E:=170) (n:=14) (bytes:=128) (k:=1) Eo Tryz.underlying109 pJ fv rfl Zbc PA d src (by rw[Xg,List.all_eq_true];intro x hx;simp at hx;rcases hx with rfl|rfl|rfl|rfl|rfl|rfl|rfl|rfl|rfl|rfl|rfl|rfl|rfl|rfl<;>first|rfl|exact Xz) gX gX ?_;intro v' o' h' w' k _;obtain⟨p',c',rfl,_⟩:=w'.ZM;rw[Ax];refine H p' c' o' h' ⟨xs++[(x,w)],by rw[bR,QH];rfl,?_,fun y hy=>?_⟩ k
 .rw[YD,UL,aI,<-Ax];exact w'
 .rcases List.mem_append.1 hy with hy|hy
  .exact (bU y hy).Zd k
  .have:y=(x,w):=by simpa using hy
   subst this;exact iv.Zd k
theorem TH{t:Tg}{v:a6}{l:List XR}(s:Up o t h v l):∃p c,v=Q p (Z l) c/\(Z l)<=c:=by
 obtain⟨xs,h1,h2,_⟩:=s;obtain⟨p,c,h3,h4⟩:=h2.ZM;rw[<-h1,a9];exact⟨p,c,h3,h4⟩
set_option maxHeartbeats 4000000 in
theorem Da(T:bE)(h:Hp)(o:Ow)(wb:Nat)(Yr:Nat->Nat)(YW:WA)(w:Wd)(l:XR)(v:a6)(d:UO o h)(A:JH o h wb Yr YW w)(iv:WU o h v l.vs)(hto:0<=l.to/\l.to<5)(Rw:∀i,i<5->(w.Zm i).Zt.length<=1000000000000):
  Zc bg T 72 #[Zr wb,ba (Xg l v).toArray] h fun v' h'=>∃o',Kp Zi9 o h o' h'/\JH o' h' wb Yr YW (Ss w l):=by
 obtain⟨pw,cw,rfl⟩:=iv.ZM;obtain⟨j,hj⟩:∃j:Nat,(j:Int)=l.to:=⟨l.to.toNat,gX⟩
 have hj5:j<5:=gX;have hjn:l.to.toNat=j:=gX;refine Zc.Y8 [_,_] Tryz.func72 ?_;unfold Zr Xg;obtain⟨h1,YX⟩:=ZD (h.push (ao (Xg l (Q pw (Z l.vs) cw)).toArray 170):Hp);have k1:Kp QC o h o h1:=by rw[YX];exact Yc d _
 have x3:ZY o h1 h.size (ao (Xg l (Q pw (Z l.vs) cw)).toArray 170):=⟨d _ (az _),by rw[YX];exact Zb⟩
 have e0:=YX.symm;unfold Xg at e0;have A1:=A.Zu k1;have R1:=Xi A1.wd.ZQ.2;obtain⟨b,off,c,hn,hc5,hb,Pq⟩:=WO A1.wd;have Rn:=R1.Zm;rw[hn]at Rn;have Gs:=Za A1.wd.ZQ.2;have r3:hc h1 ⟨h.size,2,ay⟩=av (U O j):=by rw[hj];exact Zg x3.2
 have l3:=Za x3.2;have rj:=Pq j hj5;unfold Zr at rj;have Zsa:(j:Int)<5:=gX;simp -implicitDefEqProofs only[go_sem,e0];refine VS.mono (N:=fun F' g'=>Zf h1.size h1 g'/\F' 3=aa (av ⟨h.size,0,ay⟩)/\F' 4=aa (av ⟨Yr j,0,ay⟩)) ?_ ?_ (fun _ _ _ h=>h) (fun _ _ h=>h)
 .refine VS.z (h1.size) [] (.p 0 (.p 1 (.p 2 (.q 3 (.p 4 (.q 5 (.p 6 (.q 7 (.p 8 .nil))))))))) mixed po ?_;simp -implicitDefEqProofs only[go_sem,Rn,r3,Gs,l3,hb,Zsa,rj]
  try exact Zf.refl _ _
 rintro F1 g1 ⟨b1,f3,f4⟩;have kb:=ZN k1.Ya b1;have A2:=A1.Zu kb;have K2:=k1.trans kb;have y3:=x3.Zd kb;obtain⟨a,N2⟩:=A2.nd j hj5;have P2:=ZI N2.ZQ.2 N2.pt.store.len;have gK:=P2.up;have VZ:=Za N2.ZQ.2;unfold Ss;rw[hjn]
 cases hu:(w.Zm j).up with
 | false=>
  rw[hu]at gK;rw[if_neg Dq];simp -implicitDefEqProofs only[go_sem,f4,gK];exact⟨o,ZR K2,A2⟩
 | true=>
  rw[hu]at gK;rw[if_pos rfl];obtain⟨pi,ci,hi,_⟩:=TH N2.pt.Zt;have P2i:=P2.Zt;rw[hi]at P2i;have r3:rd g1 ⟨h.size,0,ay⟩ 14=av (Xg l (Q pw (Z l.vs) cw)):=Zs y3.2 rfl;unfold Xg at r3;have l3:=Za y3.2;simp -implicitDefEqProofs only[go_sem,f4,gK];refine VS.z (g1.size) [7,10] (.p 0 (.p 1 (.p 2 (.p 3 (.q 4 (.q 5 (.s 6 (.w 7 (.p 8 (.p 9 (.w 10 .nil))))))))))) mixed po ?_;simp -implicitDefEqProofs only[go_sem,f3,f4,P2i,r3,VZ,l3];obtain⟨g2,JK⟩:=ZD (g1.push (ao (Xg l (Q pw (Z l.vs) cw)).toArray 170):Hp);have k2:Kp QC o g1 o g2:=by rw[JK];exact Yc K2.Ya _
  have e2:=JK.symm;unfold Xg at e2;rw[e2];have N3:=N2.Zu k2;have A3:=A2.Zu k2;have K3:=K2.trans k2;have LI:=N3.pt.Zt;rw[hi]at LI;refine kU LI K3.Ya ((iv.Zd K2).Zd k2) (by rw[JK];exact Zb) (Rw j hj5) ?_;intro p3 c3 o3 g3 L3 k3;have k3:Kp (fun t=>t=.Zt j) o g2 o3 g3:=k3;have N4:=Z7.ky N3.pt k3 L3;have B4:=N3.ZQ.Zd k3 MI;have W4:=A3.wd.Zd k3 (by rintro t rfl;simp[Tg.of]);obtain⟨g5,w5,N5,k5⟩:=Z7.write N4 k3.Ya B4 ((Y7 B4.2 N3.pt.store.len).Zt (Q p3 ((w.Zm j).Zt.length+1) c3) rfl);have L1:=Za B4.2;simp -implicitDefEqProofs only[go_sem,w5,L1];have W5:=W4.Zd k5 (by rintro t rfl;simp[Tg.of]);have kk:Kp (fun t=>t.of=av j) o g2 o3 g5:=(k3.mono fun t q=>by rw[q];rfl).trans (k5.mono fun t q=>by rw[q];rfl);exact⟨o3,(ZR K3).trans (kk.mono fun t q=>⟨j,q⟩),A3.XK (kk.mono fun t q=>.inr (.inr (.inr q))) N5 W5⟩
theorem gL{t:Tg}{v:a6}{l:List XR}(s:Up o t h v l)(k:Nat)(hk:k<(Z l)):
  ∃w b off c,v=Q (av ⟨b,off,ay⟩) (Z l) c/\(Z l)<=c/\b<h.size/\rd h ⟨b,off+k*14,ay⟩ 14=av (Xg l[k] w)/\WU o h w l[k].vs:=by
 obtain⟨xs,rfl,h2,h3⟩:=s;rw[a9]at hk;rcases h2 with⟨_,e,_⟩|⟨b,off,cap,pre,Zx,g1,rfl,g3,g4,g5,g6,g7⟩
 .omega
 refine⟨xs[k].2,b,off,cap,by rw[a9],by rw[a9];exact g7,Za g3,?_,?_⟩
 .have hlen:∀x,(Lu x).length=14:=fun x=>rfl;have hle:k*14+14<=(Z xs)*14:=by omega
  rw[Yh g3 (by simp only[aI];omega),<-g4,List.drop_append,List.drop_of_length_le (by omega),bS,bG];rw[List.drop_append_of_le_length (by omega),List.take_append_of_le_length (by rw[List.length_drop];omega)];rw[TF hlen xs k (by omega),List.drop_eq_getElem_cons hk];have e1:ZK Lu (xs[k] :: xs.drop (k+1))=Xg xs[k].1 xs[k].2++ZK Lu (xs.drop (k+1)):=by simp[ZK,Lu]
  rw[e1,bo];rfl
 .rw[bo];exact h3 _ (bP hk)
theorem kV{o':Ow}{t:Tg}{h':Hp}{xs:List (XR × a6)}{v:a6}{k:Nat}(hk:k<(Z xs))(h2:YP o' t 170 14 h' v ((Z xs)-1) ((ZK Lu xs).take (k*14)++(ZK Lu xs).drop ((k+1)*14)))(h3:∀x∈xs,WU o' h' x.2 x.1.vs):
  Up o' t h' v ((xs.map (·.1)).eraseIdx k):=by
 have hlen:∀x,(Lu x).length=14:=fun x=>rfl;have el:(xs.eraseIdx k).length=(Z xs)-1:=by rw[List.length_eraseIdx_of_lt hk]
 refine⟨xs.eraseIdx k,?_,?_,fun x hx=>h3 x (List.mem_of_mem_eraseIdx hx)⟩
 .rw[bf,bf,bR,List.map_take,List.map_drop]
 .rw[el];have e1:ZK Lu (xs.eraseIdx k)=(ZK Lu xs).take (k*14)++(ZK Lu xs).drop ((k+1)*14):=by
   rw[RT hlen xs k gX,TF hlen xs (k+1) gX,<-YD,bf]
  rw[e1];exact h2
theorem ZS.Fz{o1:Ow}{h1:Hp}{wb:Nat}{nb:Nat->Nat}{a:WA}{fl fl':List XR}{Yj:Nat->Int}{ZB:List Pk}{v:a6}(W:ZS o h wb nb a fl Yj ZB)(k:Kp (fun t=>t=.Zo) o h o1 h1)(hv:Up o1 .Zo h1 v fl'){e:Option Hp}(w:e=av (h1.setIfInBounds wb (ao (Xv Yj { a with Zo:=v }).toArray 111))):
  ∃g,e=av g/\ZS o1 g wb nb { a with Zo:=v } fl' Yj ZB/\Kp (fun t=>t=.world) o1 h1 o1 g:=by
 have b:=W.ZQ.Zd k MI;have kk:Kp (fun t=>t=.world) o1 h1 o1 (h1.setIfInBounds wb (ao (Xv Yj { a with Zo:=v }).toArray 111)):=(Kp.refl k.Ya (fun t=>t=.world)).set b.1 rfl _;exact⟨_,w,⟨⟨b.1,ZE b.2⟩,(W.Zm.Zd k MI).Zd kk MI,hv.Zd kk MI,(W.ZB.Zd k MI).Zd kk MI⟩,kk⟩
theorem JH.zS{S:Tg->Prop}{o':Ow}{h':Hp}{wb:Nat}{Yr:Nat->Nat}{YW vy:WA}{w:Wd}{fl:List XR}{Yj:Nat->Int}{ZB:List Pk}(A:JH o h wb Yr YW w)(k:Kp S o h o' h')(hn:∀t,S t->t.of=ay)(W:ZS o' h' wb Yr vy fl Yj ZB):
  JH o' h' wb Yr vy { w with Zo:=fl,Yj:=Yj,ZB:=ZB }:=
 ⟨W,fun i hi=>by obtain⟨a,N⟩:=A.nd i hi;exact⟨a,N.Zd k fun t q e=>by rw[hn t q]at e;cases e⟩⟩
theorem zT:∀(xs:List (XR × a6)),(∀x∈xs,WU o h x.2 x.1.vs)->(ZK Lu xs).all Yq=true:=by
 intro xs
 induction xs with
 | nil=>intro _;rfl
 | cons x xs ih=>
  intro hx;have e1:ZK Lu (x :: xs)=Lu x++ZK Lu xs:=by simp[ZK]
  obtain⟨p,c,hw⟩:=(hx x Dq).ZM;rw[e1,List.all_append,ih (fun y hy=>hx y (by simp[hy])),Bool.and_true];unfold Lu;rw[hw];rfl
set_option maxHeartbeats 4000000 in
theorem tM(T:bE)(h:Hp)(o:Ow)(wb:Nat)(Yr:Nat->Nat)(YW:WA)(w:Wd)(at':Nat)(comes stays:Bool)(d:UO o h)(A:JH o h wb Yr YW w)(hto:∀l∈w.Zo,0<=l.to/\l.to<5)(yp:w.Zo.length<=1000000000000)(Rw:∀i,i<5->(w.Zm i).Zt.length<=1000000000000):
  Zc bg T 71 #[Zr wb,U O at',a8 comes,a8 stays] h fun v' h'=>∃o' XS,Kp TG o h o' h'/\JH o' h' wb Yr XS (pick w at' comes stays):=by
 refine Zc.Y8 [_,_,_,_] Tryz.func71 ?_;unfold Zr;have R:=Xi A.wd.ZQ.2;have Rf:=R.Zo;have Gs:=Za A.wd.ZQ.2;obtain⟨pf,cf,hf,hfc⟩:=TH A.wd.Zo;rw[hf]at Rf;by_cases hz:w.Zo.length=0
 .have hp:pick w at' comes stays=w:=by
   unfold pick;rw[List.getElem?_eq_none (by rw[hz];exact Nat.zero_le _)]
  rw[hp];have FK:(w.Zo.length:Int)=0:=gX;simp -implicitDefEqProofs only[go_sem,Rf,FK];exact⟨o,YW,Kp.refl d _,A⟩
 have FK:¬(w.Zo.length:Int)=0:=gX;obtain⟨k,hk⟩:=ZD (at'%w.Zo.length);have ve:k<w.Zo.length:=by rw[hk];exact Nat.mod_lt _ gX
 have ek:(at':Int).tmod (w.Zo.length:Int)=(k:Int):=by rw[hk];rfl
 have BJ:(k:Int)<w.Zo.length:=gX;obtain⟨v,b,off,c,hv,hvc,hb,Pq,iv⟩:=gL A.wd.Zo k ve;rw[hf]at hv;simp only[Value.slice.injEq]at hv;obtain⟨rfl,_,rfl⟩:=hv;obtain⟨l,hl⟩:=ZD (w.Zo[k]);rw[<-hl]at Pq iv;have zM:l∈w.Zo:=by rw[hl];exact bP ve
 obtain⟨pw,cw,rfl⟩:=iv.ZM;obtain⟨h1,YX⟩:=ZD (h.push (ao (Xg l (Q pw (Z l.vs) cw)).toArray 170):Hp);have k1:Kp QC o h o h1:=by rw[YX];exact Yc d _
 have x9:ZY o h1 h.size (ao (Xg l (Q pw (Z l.vs) cw)).toArray 170):=⟨d _ (az _),by rw[YX];exact Zb⟩
 have e0:=YX.symm;unfold Xg at e0 Pq;have A1:=A.Zu k1;have R1:=Xi A1.wd.ZQ.2;have R1f:=R1.Zo;rw[hf]at R1f;have ZdU:=Za A1.wd.ZQ.2;have r9:rd h1 ⟨h.size,0,ay⟩ 14=av (Xg l (Q pw (Z l.vs) cw)):=Zs x9.2 rfl;unfold Xg at r9;have eg:w.Zo[at'%w.Zo.length]? = av l:=by rw[<-hk,hl];exact bn ve
 have ep:pick w at' comes stays=if comes=true then Ss (if stays=true then w else { w with Zo:=w.Zo.eraseIdx k }) l else (if stays=true then w else { w with Zo:=w.Zo.eraseIdx k }):=by
  unfold pick;rw[eg,hk]
 rw[ep]
 cases stays with
 | true=>
  rw[if_pos rfl]
  cases comes with
  | false=>
   rw[if_neg Dq];simp -implicitDefEqProofs only[go_sem,Rf,FK,ek,BJ,Pq,e0];exact⟨o,YW,Yy k1,A1⟩
  | true=>
   rw[if_pos rfl];have cc:=Da T h1 o wb Yr YW w l (Q pw (Z l.vs) cw) k1.Ya A1 (iv.Zd k1) (hto l zM) Rw;unfold Zr Xg at cc;simp -implicitDefEqProofs only[go_sem,Rf,FK,ek,BJ,Pq,e0,r9];refine cc.use ?_;rintro v' g ⟨o',kk,A'⟩;simp -implicitDefEqProofs only[go_sem];exact⟨o',YW,(Yy k1).trans (Yy kk),A'⟩
 | false=>
  rw[if_neg (show ¬(false=true) by simp)];obtain⟨xs,QH,PA,bU⟩:=A1.wd.Zo;have Ax:(Z xs)=w.Zo.length:=by rw[<-QH,a9]
  have cd:=Br T h1 o .Zo YW.Zo (Z xs) k (ZK Lu xs) PA k1.Ya (zT xs bU) gX gX;rw[hf]at cd;have ek2:(k:Int)+1=((k:Int)+1):=rfl;simp -implicitDefEqProofs only[go_sem,Rf,FK,ek,BJ,Pq,e0,R1f];refine cd.use ?_;rintro v2 g2 ⟨L2,k2⟩;have k2:Kp (fun t=>t=.Zo) o h1 o g2:=k2;have L3:Up o .Zo g2 v2 (w.Zo.eraseIdx k):=by
   rw[<-QH];exact kV gX L2 (fun x hx=>(bU x hx).Zd k2)
  have B2:=A1.wd.ZQ.Zd k2 MI;obtain⟨p2,c2,rfl,_⟩:=TH L3;obtain⟨g3,w3,W3,k3⟩:=A1.wd.Fz k2 L3 ((Xi B2.2).EY (Q p2 (w.Zo.eraseIdx k).length c2) rfl);have A3:JH o g3 wb Yr { YW with Zo:=Q p2 (w.Zo.eraseIdx k).length c2 } { w with Zo:=w.Zo.eraseIdx k }:=
   A1.zS (S:=fun t=>t=.Zo\/t=.world) ((k2.mono fun t q=>.inl q).trans (k3.mono fun t q=>.inr q)) (by rintro t (rfl|rfl)<;>rfl) W3
  have ZdV:=Za B2.2;have y9:=(x9.Zd k2).Zd k3;have r9:rd g3 ⟨h.size,0,ay⟩ 14=av (Xg l (Q pw (Z l.vs) cw)):=Zs y9.2 rfl;unfold Xg at r9;have K3:Kp TG o h o g3:=((Yy k1).trans (Yy k2)).trans (Yy k3)
  cases comes with
  | false=>
   rw[if_neg (show ¬(false=true) by simp)];simp -implicitDefEqProofs only[go_sem,w3,ZdV];exact⟨o,_,K3,A3⟩
  | true=>
   rw[if_pos rfl];have cc:=Da T g3 o wb Yr _ _ l (Q pw (Z l.vs) cw) k3.Ya A3 (((iv.Zd k1).Zd k2).Zd k3) (hto l zM) Rw;unfold Zr Xg at cc;simp -implicitDefEqProofs only[go_sem,w3,ZdV,r9];refine cc.use ?_;rintro v' g ⟨o',kk,A'⟩;simp -implicitDefEqProofs only[go_sem];exact⟨o',_,K3.trans (Yy kk),A'⟩
theorem zU(rc:List Nat)(now:Int):Bj rc now=(Si rc now).C:=by
 unfold Bj Si;split<;>rfl
theorem ZdW{wb:Nat}{Yj:Nat->Int}{a:WA}(H:h[wb]? = av (ao (Xv Yj a).toArray 111))(i:Nat)(hi:i<5):
  hc h ⟨wb,9+i,ay⟩=av (U O (Yj i))/\∀k,Jb h ⟨wb,9+i,ay⟩ (U O k)=av (h.setIfInBounds wb (ao (Xv (fun j=>if j=i then k else Yj j) a).toArray 111)):=by
 match i,hi with
 | 0,_=>exact⟨Zg H,fun k=>by rw[Ye H,if_pos ⟨by simp[Xv],rfl⟩];rfl⟩
 | 1,_=>exact⟨Zg H,fun k=>by rw[Ye H,if_pos ⟨by simp[Xv],rfl⟩];rfl⟩
 | 2,_=>exact⟨Zg H,fun k=>by rw[Ye H,if_pos ⟨by simp[Xv],rfl⟩];rfl⟩
 | 3,_=>exact⟨Zg H,fun k=>by rw[Ye H,if_pos ⟨by simp[Xv],rfl⟩];rfl⟩
 | 4,_=>exact⟨Zg H,fun k=>by rw[Ye H,if_pos ⟨by simp[Xv],rfl⟩];rfl⟩
theorem tO{i:Nat}(t:Tg)(q:ZdH i t):X1 i t:=by
 rcases q with rfl|rfl<;>exact .inr (.inr (.inr rfl))
theorem add_same(n:Nd)(x:Cm):(add n x).Zh=n.Zh/\(add n x).me=n.me:=by
 unfold add;split<;>exact⟨rfl,rfl⟩
set_option maxHeartbeats 4000000 in
theorem kW(T:bE)(h:Hp)(o:Ow)(wb:Nat)(Yr:Nat->Nat)(YW:WA)(w:Wd)(i:Nat)(rc:List Nat)(v:a6)(d:UO o h)(A:JH o h wb Yr YW w)(hi:i<5)(vp:(w.Zm i).me=i)(iv:TD o h v rc)(QQ:Sn v)(uW:(Z rc)<=140737488355328)(tb:Az o h)(hq:(w.Zm i).Zw.length<=1000000000000)(hl:(w.Zm i).ZP.length<=1000000000000)(LM:(w.Zm i).Zh.length<=1000000000000)(ht:w.ZB.length<=1000000000000)(hb:0<=w.Yj i/\w.Yj i<=1000000000000):
  Zc bg T 68 #[Zr wb,Zr (Yr i),v] h fun v' h'=>∃o' XS,Kp TG o h o' h'/\JH o' h' wb Yr XS (Mw w i rc):=by
 obtain⟨pv,cv,rfl⟩:=iv.1.ZM;refine Zc.Y8 [_,_,_] Tryz.func68 ?_;unfold Zr;obtain⟨a,N⟩:=A.nd i hi;obtain⟨n,hn⟩:=ZD (w.Zm i);unfold Mw;rw[<-hn]at N vp hq hl LM ⊢;have P:=ZI N.ZQ.2 N.pt.store.len;have VZ:=Za N.ZQ.2;have Pu:=P.up
 cases hu:n.up with
 | false=>
  rw[hu]at Pu;rw[if_neg Dq];simp -implicitDefEqProofs only[go_sem,Pu];exact⟨o,YW,Kp.refl d _,A⟩
 | true=>
 rw[hu]at Pu;rw[if_pos rfl];have Pl:=P.ZP;obtain⟨pl,cl,KB,_⟩:=YP.ZM N.pt.ZP;have KB:a.ZP=Q pl n.ZP.length cl:=KB;rw[KB]at Pl;obtain⟨E,hE⟩:=ZD (XF rc n.ZP.length);obtain⟨x,hx⟩:=ZD (Si rc n.ZP.length);have co:=rS T h (Q pv (Z rc) cv) rc n.ZP.length iv.bs QQ uW tb.tk tb.tn;rw[zU,<-hE,<-hx]at co;rw[<-hE,<-hx];simp -implicitDefEqProofs only[go_sem,Pu,Pl];refine co.use ?_;rintro _ g ⟨rfl,b⟩;have kb:=ZN d b;obtain⟨g1,WB⟩:=ZD (g.push (ao x.C.toArray 43):Hp);have e1:=WB.symm;have k1:Kp QC o h o g1:=by rw[WB];exact kb.push _
 have x6:ZY o g1 g.size (ao x.C.toArray 43):=⟨kb.Ya _ (az _),by rw[WB];exact Zb⟩
 have A1:=A.Zu k1;have N1:=N.Zu k1;have P1:=ZI N1.ZQ.2 N1.pt.store.len;have ZdX:=P1.me;rw[vp]at ZdX;have Qb:=Za N1.ZQ.2;have ZdU:=Za A1.wd.ZQ.2;obtain⟨br,bw⟩:=ZdW A1.wd.ZQ.2 i hi;have r6:rd g1 ⟨g.size,0,ay⟩ 5=av x.C:=Zs x6.2 rfl;have l6:=Za x6.2;have fM:(i:Int)<5:=gX;by_cases hz:E=0
 case neg=>
  rw[if_pos (by simpa using hz)];simp -implicitDefEqProofs only[go_sem,e1,hz];refine VS.z (g1.size) [15] (.p 0 (.p 1 (.p 2 (.p 3 (.q 4 (.p 5 (.p 6 (.p 7 (.p 8 (.q 9 (.p 10 (.p 11 (.p 12 (.p 13 (.p 14 (.w 15 .nil)))))))))))))))) mixed po ?_;simp -implicitDefEqProofs only[go_sem,ZdX,Qb,ZdU,fM,br,bw];have kk:Kp (fun t=>t=.world) o g1 o (g1.setIfInBounds wb (ao (Xv (fun j=>if j=i then w.Yj i+1 else w.Yj j) YW).toArray 111)):=(Kp.refl k1.Ya (fun t=>t=.world)).set A1.wd.ZQ.1 rfl _;exact⟨o,YW,(Yy k1).trans (Yy kk),A1.zS kk (by rintro t rfl;rfl) ⟨⟨A1.wd.ZQ.1,ZE A1.wd.ZQ.2⟩,A1.wd.Zm.Zd kk MI,A1.wd.Zo.Zd kk MI,A1.wd.ZB.Zd kk MI⟩⟩
 rw[if_neg (by simpa using hz)];have P1l:hc g1 ⟨Yr i,11,ay⟩=av a.ZP:=P1.ZP;simp -implicitDefEqProofs only[go_sem,e1,hz];obtain⟨J,hJ⟩:=ZD (TE n.ZP x);refine VS.mono (N:=fun F' g'=>Zf g1.size g1 g'/\F' 0=aa (av ⟨wb,0,ay⟩)/\F' 1=aa (av ⟨Yr i,0,ay⟩)/\F' 6=aa (av ⟨g.size,0,ay⟩)/\F' 8=U O J) ?_ ?_ (fun _ _ _ h=>h) (fun _ _ h=>h)
 .refine VS.z (g1.size) [5] (.p 0 (.p 1 (.p 2 (.q 3 (.q 4 (.w 5 (.p 6 .nil))))))) mixed po ?_;simp -implicitDefEqProofs only[go_sem,P1l,r6,Qb,l6];refine (Hb T g1 _ n.ZP x N1.pt.ZP.ts gX).use ?_;rintro _ g2 ⟨rfl,b2⟩;simp -implicitDefEqProofs only[go_sem,b2,hJ]
 rintro F2 g2 ⟨b2,f0,f1,f6,f8⟩;have Pm:=ZN k1.Ya b2;have A2:=A1.Zu Pm;have N2:=N1.Zu Pm;have y6:=x6.Zd Pm;have K2:Kp QC o h o g2:=k1.trans Pm;have P2:=ZI N2.ZQ.2 N2.pt.store.len;have kT:=P2.me;rw[vp]at kT;have Qj:=Za N2.ZQ.2;have ZdV:=Za A2.wd.ZQ.2;have r62:rd g2 ⟨g.size,0,ay⟩ 5=av x.C:=Zs y6.2 rfl;have l62:=Za y6.2;clear r6 l6 Qb ZdU br bw P1 ZdX P1l e1;by_cases hm:x∈n.ZP
 .have hJ0:0<=J:=by rw[hJ];exact (Nz _ _).2 hm
  rw[if_pos hm];have call:=fun G=>gv T G n.store N2.pt.store x;have P2s:rd g2 ⟨Yr i,12,ay⟩ 40=av n.store:=P2.store;obtain⟨D,hDe⟩:=ZD (EW n.store x);obtain⟨E2,kG⟩:=ZD (Nt n.store x);obtain⟨c1,UX⟩:=ZD (Oj n.store x);obtain⟨c2,MR⟩:=ZD (I1 n.store x);have hD:=N2.pt.store.do x
  rw[<-hDe]at hD;rw[<-hDe,<-kG,<-UX,<-MR]at call;rw[<-UX,<-MR];have Ly:=hD.len;have AA:=hD.one;unfold Vv at call;have FL:=ZZ (zs:=J2) (vs:=D) (by rw[Ly];rfl);unfold J2 at FL;simp only[rep,List.cons_append,bS]at FL;have wA:∀(G:Hp) (k:Nat),G[k]? = av (ao J2.toArray 58)->wr G ⟨k,0,ay⟩ D=av (G.setIfInBounds k (ao D.toArray 58)):=fun G k hx=>by
   rw[Z2 hx 0 D,ZZ (by rw[Ly];rfl),if_pos ⟨by rw[Ly];simp[J2,rep],AA⟩]
  have wB:∀(G:Hp) (k:Nat),G[k]? = av (ao [U O 0,U O 0].toArray 48)->wr G ⟨k,0,ay⟩ [U O c1,U O c2]=av (G.setIfInBounds k (ao [U O c1,U O c2].toArray 48)):=fun G k hx=>by
   rw[Z2 hx 0 _];rfl
  have gl:∀(G:Hp) (X Y:Obj),((G.push X).push Y)[G.size]? = av X:=fun G X Y=>by rw[Zl Dq,Zb]
  have gs:∀(G:Hp) (k:Nat) (X Y:Obj),((G.setIfInBounds k X).push Y)[G.size]? = av Y:=fun G k X Y=>by
   have:=Zb (h:=G.setIfInBounds k X) (o:=Y);rwa [Array.size_setIfInBounds]at this
  have gl':=gs;have gr:∀(G:Hp) (X Y:Obj),((G.push X).push Y)[G.size+1]? = av Y:=fun G X Y=>by
   have:=Zb (h:=G.push X) (o:=Y);rwa [a0]at this
  simp -implicitDefEqProofs only[go_sem,f8,hJ0];refine VS.mono (N:=fun F' g'=>Zf g2.size g2 g'/\F' 0=aa (av ⟨wb,0,ay⟩)/\F' 1=aa (av ⟨Yr i,0,ay⟩)/\F' 6=aa (av ⟨g.size,0,ay⟩)/\∃B,F' 10=aa (av ⟨B,0,ay⟩)/\g2.size<=B/\g'[B]? = av (ao [U O c1,U O c2].toArray 48)) ?_ ?_ (fun _ _ _ h=>h) (fun _ _ h=>h)
  .refine VS.z (g2.size) [5,12,13] (.p 0 (.p 1 (.p 2 (.q 3 (.q 4 (.or 5 (.p 6 (.p 7 (.p 8 (.p 9 (.or 10 (.s 11 (.w 12 (.w 13 (.p 14 .nil)))) (.s 11 (.s 10 (.w 12 (.w 13 (.p 14 .nil)))))))))) (.or 10 (.or 5 (.p 6 (.p 7 (.p 8 (.p 9 (.s 11 (.w 12 (.w 13 (.p 14 .nil)))))))) (.s 11 (.w 5 (.p 6 (.p 7 (.p 8 (.p 9 (.w 12 (.w 13 (.p 14 .nil)))))))))) (.s 11 (.or 5 (.p 6 (.p 7 (.p 8 (.p 9 (.s 10 (.w 12 (.w 13 (.p 14 .nil)))))))) (.s 10 (.w 5 (.p 6 (.p 7 (.p 8 (.p 9 (.w 12 (.w 13 (.p 14 .nil)))))))))))))))))) mixed po ?_;simp -implicitDefEqProofs only[go_sem,f0,f1,f6,P2s,Qj,l62,r62]
   repeat' (first|with_reducible exact Zf.refl _ _|with_reducible exact Zf.push gX _|with_reducible refine b0 ?_ ?_)
   all_goals first
    | (refine (call g2).use ?_
       rintro _ g5 ⟨rfl,b5⟩;have s5:=b5.size;simp -implicitDefEqProofs only[go_sem,b5,Ly,AA,FL];refine⟨⟨f0,f1,f6,_,rfl,gX,gr _ _ _⟩,⟨f0,f1,f6,_,rfl,s5,gl _ _ _⟩⟩)
    | (refine (call (g2.push (ao _ 58))).use ?_
       rintro _ g5 ⟨rfl,b5⟩;have s5:=b5.size;rw[a0]at s5;have B5:Zf g2.size g2 g5:=(Zf.push (az _) _).trans (b5.mono Dq);have xA:=b5.get (k:=g2.size) Dq Zb;have Sf:=wA _ _ xA;have zA:=Za xA;simp -implicitDefEqProofs only[go_sem,B5,Ly,AA,Sf,zA];exact⟨f0,f1,f6,_,rfl,gX,gs _ _ _ _⟩)
    | (refine (call (g2.push (ao _ 48))).use ?_
       rintro _ g5 ⟨rfl,b5⟩;have s5:=b5.size;rw[a0]at s5;have B5:Zf g2.size g2 g5:=(Zf.push (az _) _).trans (b5.mono Dq);have xB:=b5.get (k:=g2.size) Dq Zb;have Hf:=wB _ _ xB;have zB:=Za xB;have gB:=ZE (o:=ao [U O c1,U O c2].toArray 48) xB;simp -implicitDefEqProofs only[go_sem,B5,Ly,AA,Hf,FL,zB];exact⟨f0,f1,f6,_,rfl,az _,by rw[Zl (by simpa using zB)];exact gB⟩)
    | (refine (call ((g2.push (ao _ 58)).push (ao _ 48))).use ?_
       rintro _ g5 ⟨rfl,b5⟩;have s5:=b5.size;rw[a0,a0]at s5;have B5:Zf g2.size g2 g5:=((Zf.push (az _) _).Yx Dq _).trans (b5.mono L6);have xA:=b5.get (k:=g2.size) L6 (gl _ _ _);have xB:=b5.get (k:=g2.size+1) Dq (gr _ _ _);have Sf:=wA _ _ xA;have zA:=Za xA;have MA:=(Zq (o:=ao D.toArray 58) (show g2.size≠g2.size+1 by omega)).trans xB;have Hf:=wB _ _ MA;have zB:=Za MA;simp -implicitDefEqProofs only[go_sem,B5,Ly,AA,Sf,zA,Hf,zB];exact⟨f0,f1,f6,_,rfl,gX,ZE MA⟩)
    | (refine (call ((g2.push (ao _ 48)).push (ao _ 58))).use ?_
       rintro _ g5 ⟨rfl,b5⟩;have s5:=b5.size;rw[a0,a0]at s5;have B5:Zf g2.size g2 g5:=((Zf.push (az _) _).Yx Dq _).trans (b5.mono L6);have xB:=b5.get (k:=g2.size) L6 (gl _ _ _);have xA:=b5.get (k:=g2.size+1) Dq (gr _ _ _);have Sf:=wA _ _ xA;have zA:=Za xA;have MA:=(Zq (o:=ao D.toArray 58) (show g2.size+1≠g2.size by omega)).trans xB;have Hf:=wB _ _ MA;have zB:=Za MA;simp -implicitDefEqProofs only[go_sem,B5,Ly,AA,Sf,zA,Hf,zB];exact⟨f0,f1,f6,_,rfl,gX,ZE MA⟩)
  clear f0 f1 f6 f8;rintro F5 g5 ⟨b5,f0,f1,f6,B,f10,hB,yB⟩;have Fu:=ZN K2.Ya b5;have A5:=A2.Zu Fu;have N5:=N2.Zu Fu;have z6:=y6.Zd Fu;have K5:Kp QC o h o g5:=K2.trans Fu;have xB:ZY o g5 B (ao [U O c1,U O c2].toArray 48):=⟨K2.Ya _ hB,yB⟩
  have Zsc:=(ZI N5.ZQ.2 N5.pt.store.len).me;have Om:=Za N5.ZQ.2;have U5:=Xi A5.wd.ZQ.2;have dF:=Za A5.wd.ZQ.2;have rx1:hc g5 ⟨g.size,1,ay⟩=av (U O x.c):=Zg z6.2;have rx2:hc g5 ⟨g.size,2,ay⟩=av (U O x.s):=Zg z6.2;have rB:rd g5 ⟨B,0,ay⟩ 2=av [U O c1,U O c2]:=Zs yB rfl;have zx:=Za z6.2;have zB:=Za yB;refine VS.z (g5.size) [17,21] (.p 0 (.p 1 (.p 2 (.p 3 (.p 4 (.q 5 (.p 6 (.p 7 (.p 8 (.q 9 (.p 10 (.q 11 (.p 12 (.q 13 (.q 14 (.p 15 (.s 16 (.w 17 (.p 18 (.p 19 (.p 20 (.w 21 .nil)))))))))))))))))))))) mixed po ?_;simp -implicitDefEqProofs only[go_sem,f0,f1,f6,f10,U5.ZB,Zsc,rx1,rx2,rB,Om,dF,zx,zB];have k6:=Yc K5.Ya (ao (Ha ⟨n.me,x.c,x.s,c1,c2⟩).toArray 50);have A6:=A5.Zu k6;refine Lx (l:=w.ZB) (x:=⟨n.me,x.c,x.s,c1,c2⟩) A6.wd.ZB k6.Ya Zb ht ?_;intro p7 c7 o7 g7 q7 k7;have b7:=A6.wd.ZQ.Zd k7 MI;obtain⟨g8,w8,W8,k8⟩:=A6.wd.gx k7 q7 ((Xi b7.2).ZbC (Q p7 _ c7) rfl);have z7:=Za b7.2;simp -implicitDefEqProofs only[go_sem,w8,z7];have A8:=A6.zS (S:=fun t=>t=.ZB\/t=.world) ((k7.mono fun t q=>.inl q).trans (k8.mono fun t q=>.inr q)) (by rintro t (rfl|rfl)<;>rfl) W8;exact⟨o7,_,(((Yy K5).trans (Yy k6)).trans (Yy k7)).trans (Yy k8),A8⟩
 .have hJ0:¬0<=J:=by rw[hJ];exact fun e=>hm ((Nz _ _).1 e)
  rw[if_neg hm];have ca:=sO T g2 o wb i (Yr i) a n x K2.Ya N2 hq hl;unfold Zr Vv at ca;simp -implicitDefEqProofs only[go_sem,f1,f6,f8,hJ0,r62];refine ca.use ?_;rintro v3 g3 ⟨o3,a3,k3,N3⟩;have k3a:Kp (X1 i) o g2 o3 g3:=k3.mono tO;obtain⟨aw,am⟩:=add_same n x;obtain⟨m,yi⟩:=ZD (add n x);rw[<-yi]at N3 aw am ⊢;have W3:=A2.wd.Zd k3 (by rintro t (rfl|rfl)<;>simp[Tg.of]);have z6:=y6.Zd k3;have P3:=ZI N3.ZQ.2 N3.pt.store.len;have P3w:hc g3 ⟨Yr i,53,ay⟩=av a3.Zh:=P3.Zh;have Ol:=Za N3.ZQ.2;have r63:rd g3 ⟨g.size,0,ay⟩ 5=av x.C:=Zs z6.2 rfl;have l63:=Za z6.2;have hmw:m.Zh.length<=1000000000000:=by rw[aw];exact LM
  have K3:Kp TG o h o3 g3:=(Yy K2).trans (Yy k3);simp -implicitDefEqProofs only[go_sem];refine VS.mono (N:=fun F' g'=>Zf g3.size g3 g'/\F' 1=aa (av ⟨Yr i,0,ay⟩)/\F' 6=aa (av ⟨g.size,0,ay⟩)/\F' 92=a8 (!decide (x∈m.Zh))) ?_ ?_ (fun _ _ _ h=>h) (fun _ _ h=>h)
  .refine VS.z (g3.size) [5] (.p 0 (.p 1 (.p 2 (.q 3 (.q 4 (.w 5 (.p 6 .nil))))))) mixed po ?_;simp -implicitDefEqProofs only[go_sem,f1,f6,P3w,r63,Ol,l63];refine (VQ T g3 _ m.Zh x N3.pt.Zh.ts gX).use ?_;rintro _ g4 ⟨rfl,b4⟩;simp -implicitDefEqProofs only[go_sem,b4];exact⟨f1,f6⟩
  clear f0 f1 f6;rintro F4 g4 ⟨b4,f1,f6,f92⟩;have kb4:=ZN K3.Ya b4;have N4:=N3.Zu kb4;have W4:=W3.Zu kb4;have k4a:Kp (X1 i) o g2 o3 g4:=k3a.trans (ZR kb4);have K4:Kp TG o h o3 g4:=K3.trans (Yy kb4);by_cases zW:x∈m.Zh
  .have e5:Gt m x=m:=by unfold Gt;rw[if_pos zW]
   rw[e5];simp -implicitDefEqProofs only[go_sem,f92,zW];exact⟨o3,_,K4,A2.XK k4a N4 W4⟩
  .have e5:Gt m x = { m with Zh:=m.Zh++[x] }:=by unfold Gt;rw[if_neg zW]
   rw[e5];have q6:=z6.Zd kb4;have P4w:=(ZI N4.ZQ.2 N4.pt.store.len).Zh;obtain⟨pw,cw,hpw,_⟩:=YP.ZM N4.pt.Zh;have hpw:a3.Zh=Q pw m.Zh.length cw:=hpw;have P4w:hc g4 ⟨Yr i,53,ay⟩=av (Q pw m.Zh.length cw):=by rw[<-hpw];exact P4w
   have L1:=Za N4.ZQ.2;have r64:rd g4 ⟨g.size,0,ay⟩ 5=av x.C:=Zs q6.2 rfl;have l64:=Za q6.2;simp -implicitDefEqProofs only[go_sem,f92,zW];refine VS.z (g4.size) [7,10] (.p 0 (.p 1 (.p 2 (.p 3 (.q 4 (.q 5 (.s 6 (.w 7 (.p 8 (.p 9 (.w 10 .nil))))))))))) mixed po ?_;simp -implicitDefEqProofs only[go_sem,f1,f6,P4w,r64,L1,l64];have k5:=Yc K4.Ya (ao x.C.toArray 43);have N5:=N4.Zu k5;have W5:=W4.Zu k5;have Q5:=N5.pt.Zh;rw[hpw]at Q5;refine Mz (l:=m.Zh) Q5 k5.Ya Zb hmw ?_;intro p6 c6 o6 g6 q7 k6;have b6:=N5.ZQ.Zd k6 MI;obtain⟨g7,w7,N7,k7⟩:=(N5.pt.Lv k6 q7).write k6.Ya b6 ((Y7 b6.2 N5.pt.store.len).Zh (Q p6 (m.Zh.length+1) c6) rfl);have tF:=Za b6.2;simp -implicitDefEqProofs only[go_sem,w7,tF];have kk:Kp (X1 i) o g2 o6 g7:=((k4a.trans (ZR k5)).trans (k6.mono fun t q=>.inr (.inr (.inr (by rw[q];rfl))))).trans (k7.mono fun t q=>.inr (.inr (.inr (by rw[q];rfl))));exact⟨o6,_,(Yy K2).trans (Yy kk),A2.XK kk N7 ((W5.Zd k6 (by rintro t rfl;simp[Tg.of])).Zd k7 (by rintro t rfl;simp[Tg.of]))⟩
def Hk(i:Nat)(t:Tg):Prop:=t=.Yf i\/t=.Zp i
set_option maxHeartbeats 4000000 in
theorem Hl(T:bE)(h:Hp)(o:Ow)(wb i:Nat)(dv:a6)(BK:List Nat)(XW:Int)(vv:a6)(Va:V0)(d:UO o h)(iD:TD o h dv BK)(iV:WU o h vv Va.l):
  Zc bg T 67 #[U O i,ba #[dv,U O XW],ba #[U O Va.p.r,U O Va.p.n,vv]] h fun v' h'=>∃nb o' a',v'=Zr nb/\Zf h.size h h'/\Kp (Hk i) o h o' h'/\ZV o' h' wb i nb a' (Qw i true BK XW Va):=by
 obtain⟨pd,cd,rfl⟩:=iD.1.ZM;obtain⟨pv,cv,rfl⟩:=iV.ZM;refine Zc.Y8 [_,_,_] Tryz.func67 ?_;unfold Zr;obtain⟨h1,YX⟩:=ZD ((h.push (ao [Q pd (Z BK) cd,U O XW].toArray 114)).push (ao [U O Va.p.r,U O Va.p.n,Q pv (Z Va.l) cv].toArray 119):Hp);have k1:Kp QC o h o h1:=by rw[YX];exact ((Kp.refl d _).push _).push _
 have x4:ZY o h1 h.size (ao [Q pd (Z BK) cd,U O XW].toArray 114):=⟨d _ (az _),by rw[YX];exact kF _ _ _⟩
 have x5:ZY o h1 (h.size+1) (ao [U O Va.p.r,U O Va.p.n,Q pv (Z Va.l) cv].toArray 119):=⟨d _ gX,by rw[YX];exact mW _ _ _⟩
 have e0:=YX.symm;have r4:rd h1 ⟨h.size,0,ay⟩ 2=av [Q pd (Z BK) cd,U O XW]:=Zs x4.2 rfl;have r5:rd h1 ⟨h.size+1,0,ay⟩ 3=av [U O Va.p.r,U O Va.p.n,Q pv (Z Va.l) cv]:=Zs x5.2 rfl;simp -implicitDefEqProofs only[go_sem,e0,r4,r5];obtain⟨A,hA⟩:∃A:NA,A=⟨Q pd (Z BK) cd,Q pv (Z Va.l) cv,ay,h1.size,Q ay 0 0,Q ay 0 0,Q ay 0 0,Q ay 0 0,.nilFunc⟩:=⟨_,rfl⟩
 obtain⟨h2,WT⟩:=ZD (h1.push (XJ []):Hp);obtain⟨h3,vj⟩:=ZD (h2.push (Xy (Qw i true BK XW Va) A):Hp);have s2:h2.size=h1.size+1:=by rw[WT];simp
 have ee:h3=(h1.push (.map #[] 0)).push (Xy (Qw i true BK XW Va) A):=by rw[vj,WT];rfl
 rw[hA]at ee;refine⟨h1.size+1,XY (XY o h1.size (.Zp i)) (h1.size+1) (.Yf i),A,rfl,?_⟩;have k2:Kp (Hk i) o h1 (XY o h1.size (.Zp i)) h2:=by rw[WT];exact ((Kp.refl k1.Ya _).push _).SK (az _) Dq (.inr rfl)
 have k3:Kp (Hk i) o h1 (XY (XY o h1.size (.Zp i)) (h1.size+1) (.Yf i)) h3:=by rw[vj];exact (k2.push _).SK gX (by rw[a0];omega) (.inl rfl)
 have kx:Kp (fun t=>t=.Yf i) (XY o h1.size (.Zp i)) h2 (XY (XY o h1.size (.Zp i)) (h1.size+1) (.Yf i)) h3:=by rw[vj];exact ((Kp.refl k2.Ya _).push _).SK gX (by rw[a0];omega) rfl
 have m2:QN (XY o h1.size (.Zp i)) (.Zp i) h2 h1.size (U2 Vv []):=⟨Xj,by rw[WT];exact Zb⟩
 have iD3:=(iD.Zd k1).Zd k3;have iV3:=(iV.Zd k1).Zd k3;have K3:Kp (Hk i) o h (XY (XY o h1.size (.Zp i)) (h1.size+1) (.Yf i)) h3:=(ZR k1).trans k3;have st:Nx J2:=Nx.sU po;show Zf h.size h ((h1.push (.map #[] 0)).push (Xy (Qw i true BK XW Va) ⟨Q pd (Z BK) cd,Q pv (Z Va.l) cv,ay,h1.size,Q ay 0 0,Q ay 0 0,Q ay 0 0,Q ay 0 0,.nilFunc⟩))/\Kp (Hk i) o h _ ((h1.push (.map #[] 0)).push (Xy (Qw i true BK XW Va) ⟨Q pd (Z BK) cd,Q pv (Z Va.l) cv,ay,h1.size,Q ay 0 0,Q ay 0 0,Q ay 0 0,Q ay 0 0,.nilFunc⟩))/\ZV _ ((h1.push (.map #[] 0)).push (Xy (Qw i true BK XW Va) ⟨Q pd (Z BK) cd,Q pv (Z Va.l) cv,ay,h1.size,Q ay 0 0,Q ay 0 0,Q ay 0 0,Q ay 0 0,.nilFunc⟩)) wb i (h1.size+1) A (Qw i true BK XW Va);rw[<-ee];refine⟨by rw[vj,WT,YX];exact ((((Zf.refl _ _).add _).add _).add _).add _,K3,⟨Xj,by rw[vj,<-s2];exact Zb⟩,?_⟩;rw[hA];exact⟨iD3,iV3,trivial,m2.Zd kx MI,YP.nil _ _ _ _ _,YP.nil _ _ _ _ _,YP.nil _ _ _ _ _,⟨[],rfl,YP.nil _ _ _ _ _,fun x hx=>by cases hx⟩,rfl,st⟩
end Go.Proofs.YtdpjmhgbmhjniaaGreatDoor
