/- Part Tpt. -/
import Derived.Test.YthlfaofofaphfaaGreatDoorTyd
import Derived.Test.YthlfaofofaphfaaGreatDoorChw
import Derived.Test.YthlfaofofaphfaaGreatDoorTzb
import Derived.Test.YthlfaofofaphfaaGreatDoorTxb
import Derived.Test.YthlfaofofaphfaaGreatDoorTab
import Derived.LaidSub
open Go.Value renaming int→O
open Go.IntKind renaming i64→H
open Go.Proofs.Tryz renaming prog→bo
open List renaming length→o,length_append→U,mem_append→aa,mem_singleton→am,getElem?_eq_getElem→au,drop_append_of_le_length→aI,take_of_length_le→aU,getD_cons_zero→a0,append_assoc→a7,length_singleton→a8,mem_cons→a9,take_append_of_le_length→ba,getElem_mem→be,length_cons→bf,not_mem_nil→bg,drop_of_length_le→bh,nil_append→bk,length_nil→bl,mem_iff_getElem→bn,drop_succ_cons→bp,length_map→bw,drop_zero→bC
open Nat renaming le_refl→a6,zero_le→bd
open Int renaming toNat_natCast→J,tmod_eq_emod_of_nonneg→aw
open Option renaming some→K,none→al
open Decidable renaming not_not→br
open Go renaming Value→bc
namespace Go.Proofs.YthlfaofofaphfaaGreatDoor
open Go Go.V
set_option linter.unusedSimpArgs false
set_option linter.unusedVariables false
theorem sW(kl:List Nat)(hk:(o kl)=32)(n:Nat)(hn:n<1073741824)(plain:List Nat)(hp:(o plain)<=2000):U6 kl 0 0 JK (Tp kl n plain)=0:=by
 have hd:(Tp kl n plain).drop 4=S6 kl (XL (YH n)) (YH n) plain:=by
  unfold Tp;rw[aI (by show 4<=4;omega),show (YH n).drop 4=[] from rfl,bk]
 have hr:Vv (Tp kl n plain)=n:=D1 n nc _;have ht:(QA kl (XL (YH n)) (YH n) (U3 kl 1 (XL (YH n)) plain)).length=16:=Sb _ _;have hs:(S6 kl (XL (YH n)) (YH n) plain).length=(o plain)+16:=by
  unfold S6;rw[U,ht,Ju]
 have hl:(Tp kl n plain).length=(o plain)+20:=by
  unfold Tp;rw[U,hs];show 4+_=_;omega
 have hc:Jc (o kl) 0 0 JK=0:=by rw[hk];decide
 have hm:EF 0 JK n=false:=by
  unfold EF;rw[decide_eq_false nc,decide_eq_false nc];rfl
 unfold U6;rw[if_neg (by rw[hc];decide),if_neg nc,if_neg nc,hr,if_neg nc,hm,if_neg aaa,hd];unfold OQ J6;have VJ:(XL (YH n)).length=12:=rfl;have hhl:(YH n).length=4:=rfl;rw[hk,VJ,hhl,hs,if_neg KQ,if_neg nc,Nat.add_sub_cancel,if_neg];simp only[ne_eq,br];unfold S6;rw[List.take_left' (Ju _ _ _ _),List.drop_left' (Ju _ _ _ _)]
theorem ZaX{n c r u k s nm v:Nat}(hn:n<=1073741823)(hr:r<=7)(hu:u<=1048576)(Zec:YE k c s nm v=0)(ZhW:Kk k r){now:Int}(h0:0<=now)(ZaL:now<=u):
  QK n c r u k c s nm v=0/\YP (Hb n c r u k c s nm v) now=0/\Xo (Hb n c r u k c s nm v) now=⟨k,c,s,nm,v⟩:=by
 obtain⟨k',c',s',n',v',e1,e2,e3,e4,e5,y1,y2,y3,y4,y5⟩:=Xb Zec;have hk3:k<=3:=nc;have hc7:c<=7:=nc;have hs7:s<=1048576:=nc;have hn7:nm<=7:=nc;have hv7:v<=1073741824:=nc;have ZhX:JG (c:Int) (r:Int) (u:Int)=0:=by
  unfold JG;rw[if_neg nc]
 have hP0:QK n c r u k c s nm v=0:=by
  unfold QK Vw;rw[if_neg nc,ZhX];simp[Zec]
 refine⟨hP0,?_⟩;obtain⟨P,hP⟩:=ZQ (bm c r u k c s nm v);have hg:P.take 22=Ra U9 c r u:=by
  rw[hP];unfold bm;rw[ba (by rw[Qo];omega),aU (by rw[Qo];omega)];simp only[J]
 have hb:P.drop 22=ZC [k,c,s,nm,v]:=by
  rw[hP];unfold bm;rw[aI (by rw[Qo];omega),bh (by rw[Qo];omega),bk];simp only[J]
 have hPl:(o P)=42:=by
  rw[hP];unfold bm;rw[U,Qo,ZM];rfl
 have hrc:Hb n c r u k c s nm v=c :: Tp (Uz c) n P:=by
  unfold Hb;rw[hP];simp only[J]
 have Mp:Ja (c :: Tp (Uz c) n P)=P:=by
  unfold Ja;rw[a0,bp,bC];exact rP _ _ nc _
 have f:∀(i:Nat) (m:Nat),XB (ZC [k,c,s,nm,v]) i=m/16777216%256*16777216+m/65536%256*65536+m/256%256*256+m%256->m<4294967296->XB (ZC [k,c,s,nm,v]) i=m:=fun i m e hm=>by rw[e];exact Rl hm
 have f0:=f 0 k (by simp[XB,ZC,Xl]) nc;have f1:=f 4 c (by simp[XB,ZC,Xl]) nc;have f2:=f 8 s (by simp[XB,ZC,Xl]) nc;have f3:=f 12 nm (by simp[XB,ZC,Xl]) nc;have f4:=f 16 v (by simp[XB,ZC,Xl]) nc;have i0:Xv (P.drop 22) 0=k:=by unfold Xv;rw[hb];exact congrArg _ f0
 have i1:Xv (P.drop 22) 1=c:=by unfold Xv;rw[hb];exact congrArg _ f1
 have i2:Xv (P.drop 22) 2=s:=by unfold Xv;rw[hb];exact congrArg _ f2
 have i3:Xv (P.drop 22) 3=nm:=by unfold Xv;rw[hb];exact congrArg _ f3
 have i4:Xv (P.drop 22) 4=v:=by unfold Xv;rw[hb];exact congrArg _ f4
 have hgl:(Ra U9 c r u).length=22:=Qo _ _ _ _;have g0:(Ra U9 c r u).getD 0 0=c:=rfl;have g1:(Ra U9 c r u).getD 1 0=r:=rfl;have g2:XB (Ra U9 c r u) 2=u:=rQ _ _ _ _ nc;have opn:Zmx (c :: Tp (Uz c) n P):=by
  refine⟨Hg,?_,?_,by rw[Mp];exact hPl,?_,?_,?_⟩
  .rw[a0];unfold Qd;rw[if_neg nc]
  .rw[a0,bp,bC];exact sW _ (Of _) n nc P nc
  .rw[Mp,hg];unfold QJ;have ht6:(Ra U9 c r u).take 6=aX c r u:=by
    unfold Ra;rw[ba (by show 6<=6;omega),aU (by show 6<=6;omega)]
   have hd6:(Ra U9 c r u).drop 6=(M3 U9 (aX c r u)).take 16:=by
    unfold Ra;rw[aI (by show 6<=6;omega),bh (by show 6<=6;omega),bk]
   rw[if_neg (by rw[Og,hgl];simp),ht6,hd6,if_neg Hg,g0,g1,g2];exact ZhX
  .rw[Mp,hb];unfold Qr;rw[if_pos (by rw[ZM];rfl),f0,f1,f2,f3,f4];exact Zec
  .rw[Mp,i0,i1,a0];exact fun q=>q.2 rfl
 have hA:Bt (Ja (c :: Tp (Uz c) n P)) now=0:=by
  rw[Mp];unfold Bt;rw[hg,g0,g1,g2,i0,i1,i2,i3,i4];unfold S7;rw[if_neg (by rw[ZhX];simp),if_neg (by rw[Zec];simp),if_neg (by simp only[J,ne_eq,not_or,br];exact⟨ZhW,trivial⟩),if_neg nc]
 have ZmM:YP (c :: Tp (Uz c) n P) now=0:=(HN _ _).2 ⟨opn,hA⟩;rw[hrc];refine⟨ZmM,?_⟩;unfold Xo;rw[if_pos ZmM,Mp,i0,i1,i2,i3,i4]
set_option maxRecDepth 100000
theorem sX:∀(l:List Cm) (st:bi),G7 st->(Rb st l).1=0->Xd JJ (Rb st l).2.cs=true:=by
 intro l
 induction l with
 | nil=>intro st ok _;exact ok.fit
 | cons x l ih=>
  intro st ok h;by_cases q:U7 st.cs x=0
  .rw[Ls q]at h ⊢;exact ih _ (HH ok q).1 h
  .rw[Kn q]at h;exact absurd h q
theorem kj{l:List Cm}(h:∀x∈l,x.err=0):RL l=0/\Xd JJ (U8 l)=true/\(Mc l).length=(o l):=by
 have e:=IP h;refine⟨e,?_,?_⟩
 .unfold U8;rw[if_pos e];exact sX l I9 HG e
 .unfold Mc;rw[if_pos e,yk l I9 e];show 0+(o l)=_;omega
theorem F0{l:List Raw}{n many:Nat}:∃k,Wj l n many=l++k/\∀x∈k,x.k≠8/\x.k≠1:=by
 have s9:∀x∈Je 5,x.k≠8/\x.k≠1:=fun x hx=>by
  obtain⟨n,_,rfl⟩:=Ml hx;exact⟨(by decide:(9:Int)≠8),(by decide:(9:Int)≠1)⟩
 have sm:∀k,∀x∈UA k,x.k≠8/\x.k≠1:=fun k x hx=>by
  rcases FL hx with⟨n,_,rfl⟩|rfl
  .exact⟨(by decide:(3:Int)≠8),(by decide:(3:Int)≠1)⟩
  .exact⟨(by decide:(7:Int)≠8),(by decide:(7:Int)≠1)⟩
 refine⟨Je 5++UA 0++[JX n]++Je 5++UA many,?_,fun x hx=>?_⟩
 .unfold Wj QQ;simp only[a7]
 .simp only[aa,am]at hx;rcases hx with (((hx|hx)|rfl)|hx)|hx
  .exact s9 x hx
  .exact sm 0 x hx
  .exact⟨(by decide:(2:Int)≠8),(by decide:(2:Int)≠1)⟩
  .exact s9 x hx
  .exact sm many x hx
theorem Cc{A:List Raw}(hA:∀x∈A,x.err=0)(hl:(o A)<=100000){x:Cm}(h:Nx x (Js A)):x∈lng (Js A):=by
 obtain⟨X,hX,hx⟩:=h;obtain⟨s,hs,rfl⟩:=bn.1 hx;have hle:((Js A).Zb X).ZB.length<=(lng (Js A)).length:=Zaq (Js A) 5 X hX;rcases BI (Js A) with q|⟨i,hi,q⟩
 .rw[q]at hle;simp at hle;rw[hle]at hs;simp at hs
 .rw[q]at hle ⊢;have hs2:s<((Js A).Zb i).ZB.length:=nc;have e:A=A.take (o A):=(aU (a6 _)).symm;have h1:((Js (A.take (o A))).Zb X).ZB[s]? = K ((Js A).Zb X).ZB[s]:=by rw[<-e];exact au hs
  have h2:((Js (A.take (o A))).Zb i).ZB[s]? = K ((Js A).Zb i).ZB[s]:=by rw[<-e];exact au hs2
  rw[jH hA hl _ _ X i hX hi s _ _ h1 h2];exact be hs2
def LP(x:Cm)(i:Nat)(n:Nat):Raw:=⟨1,n,0,0,RT i x.c 7 60 x⟩
theorem ko{k:Nat}(h1:1<=k)(h3:k<=3):Kk k 7:=by
 unfold Kk;have:k=1\/k=2\/k=3:=nc;rcases this with rfl|rfl|rfl
 .exact .inl ⟨rfl,rfl⟩
 .exact .inr (.inl ⟨rfl,rfl⟩)
 .exact .inr (.inr ⟨rfl,rfl⟩)
theorem KP{x:Cm}(hx:x.err=0)(hk:1<=x.k){i:Nat}(hi:i<=1000){now:Int}(h0:0<=now)(h60:now<=60):QK i x.c 7 60 x.k x.c x.s x.n x.v=0/\YP (RT i x.c 7 60 x) now=0/\Xo (RT i x.c 7 60 x) now=x:=by
 obtain⟨k,c,s,n,v,e1,e2,e3,e4,e5,y1,y2,y3,y4,y5⟩:=Xb (show YE x.k x.c x.s x.n x.v=0 from hx);have hx':YE (k:Int) c s n v=0:=by
  have:YE x.k x.c x.s x.n x.v=0:=hx;rw[e1,e2,e3,e4,e5]at this;exact this
 obtain⟨h1,h2,h3⟩:=ZaX (n:=i) (c:=c) (r:=7) (u:=60) (k:=k) (s:=s) (nm:=n) (v:=v) nc nc nc hx' (ko nc y1) h0 nc;have hp:QK i x.c 7 60 x.k x.c x.s x.n x.v=0:=by rw[e1,e2,e3,e4,e5];exact h1
 refine⟨hp,?_⟩;have hB:RT i x.c 7 60 x=Hb (i:Nat) c (7:Nat) (60:Nat) k c s n v:=by
  unfold RT;rw[if_pos hp,e1,e2,e3,e4,e5];rfl
 rw[hB];refine⟨h2,?_⟩;rw[h3];obtain⟨xk,xc,xs,xn,xv⟩:=x;simp only at e1 e2 e3 e4 e5;rw[e1,e2,e3,e4,e5]
theorem ZaY(i:Nat)(x:Cm)(r u:Int):(RT i x.c r u x).length<=2000:=by
 unfold RT;split
 .unfold Hb Tp S6;rw[bf,U,U,Ju];have ht:(QA (Uz x.c.toNat) (XL (YH ((i:Int).toNat))) (YH ((i:Int).toNat)) (U3 (Uz x.c.toNat) 1 (XL (YH ((i:Int).toNat))) (bm x.c r u x.k x.c x.s x.n x.v))).length=16:=Sb _ _;rw[ht];unfold bm;rw[U,Qo,ZM];show 4+(22+4*5+16)+1<=2000;omega
 .exact bd _
theorem dR{x:Cm}{i n:Nat}(hn:n<5):(LP x i n).err=0:=by
 have hl:=ZaY i x 7 60;unfold Raw.err LP;simp only;obtain⟨d,hd⟩:=ZQ ((RT i x.c 7 60 x).length);rw[<-hd]at hl ⊢;have:∀n<5,∀d:Nat,d<=2000->U2 1 (n:Nat) 0 0 d=0:=by
  intro n hn d hd;unfold U2 Jh UR;rw[if_neg nc,if_neg nc,if_neg nc,if_neg nc]
 exact this n hn d hl
theorem F6(w:Wd)(x:Cm)(i n:Nat):act w (LP x i n).ac=JN w n (RT i x.c 7 60 x):=by
 unfold act LP Raw.ac;simp
section
variable {x:Cm} {ns:List Nat}
end
structure ue(w:Wd):Prop where
 up:∀i,i<5->(w.Zb i).up=true
 me:∀i,i<5->(w.Zb i).me=i
 nw:∀i,i<5->NWt (w.Zb i)
 st:∀i,i<5->(w.Zb i).store=EQ (w.Zb i).ZB
structure TW(w v:Wd):Prop where
 ZB:∀i,i<5->∃e,(v.Zb i).ZB=(w.Zb i).ZB++e
 ZE:∃ts,v.ZE=w.ZE++ts/\∀t∈ts,∃i x pre e,i<5/\(v.Zb i).ZB=pre++x :: e/\x∈(w.Zb i).Zj/\t=ZaW i (EQ pre) x
 sum:v.ZE.length+Vy (fun i=>(v.Zb i).Zj.length)=w.ZE.length+Vy (fun i=>(w.Zb i).Zj.length)
 sub:∀i,i<5->∀x∈(v.Zb i).Zj,x∈(w.Zb i).Zj
theorem TW.refl(w:Wd):TW w w:=⟨fun _ _=>⟨[],Hg⟩,⟨[],Hg,fun t h=>by cases h⟩,rfl,fun _ _ _ h=>h⟩
theorem TW.trans{u v w:Wd}(h:TW u v)(k:TW v w):TW u w:=by
 obtain⟨ts,h1,h2⟩:=h.ZE;obtain⟨us,k1,k2⟩:=k.ZE;refine⟨fun i hi=>?_,⟨ts++us,by rw[k1,h1,a7],fun t ht=>?_⟩,by rw[k.sum,h.sum],fun i hi x hx=>h.sub i hi x (k.sub i hi x hx)⟩
 .obtain⟨e1,g1⟩:=h.ZB i hi;obtain⟨e2,g2⟩:=k.ZB i hi;exact⟨e1++e2,by rw[g2,g1,a7]⟩
 .rcases aa.1 ht with ht|ht
  .obtain⟨i,x,pre,e,hi,a1,a2,a3⟩:=h2 t ht;obtain⟨e2,g2⟩:=k.ZB i hi;exact⟨i,x,pre,e++e2,hi,by rw[g2,a1];simp,a2,a3⟩
  .obtain⟨i,x,pre,e,hi,a1,a2,a3⟩:=k2 t ht;exact⟨i,x,pre,e,hi,a1,h.sub i hi x a2,a3⟩
theorem BT{w v:Wd}(ht:v.ZE=w.ZE)(h:∀i,i<5->(v.Zb i).up=(w.Zb i).up/\(v.Zb i).me=(w.Zb i).me/\(v.Zb i).ZB=(w.Zb i).ZB/\(v.Zb i).Zj=(w.Zb i).Zj/\(v.Zb i).store=(w.Zb i).store)(W:ue w):ue v/\TW w v:=by
 refine⟨⟨fun i hi=>by rw[(h i hi).1];exact W.up i hi,fun i hi=>by rw[(h i hi).2.1];exact W.me i hi,fun i hi=>?_,fun i hi=>?_⟩,⟨fun i hi=>⟨[],by rw[(h i hi).2.2.1];simp⟩,⟨[],by rw[ht];simp,fun t h=>by cases h⟩,?_,fun i hi x hx=>by rw[(h i hi).2.2.2.1]at hx;exact hx⟩⟩
 .unfold NWt;rw[(h i hi).2.2.1,(h i hi).2.2.2.1];exact W.nw i hi
 .rw[(h i hi).2.2.1,(h i hi).2.2.2.2];exact W.st i hi
 .rw[ht];have q:∀i,i<5->(v.Zb i).Zj=(w.Zb i).Zj:=fun i hi=>(h i hi).2.2.2.1;simp only[Vy,q 0 nc,q 1 nc,q 2 nc,q 3 nc,q 4 nc]
def dS(a:Ac):Prop:=(a.Z7=2\/a.Z7=3\/a.Z7=7\/a.Z7=9)/\a.ZV<5
theorem ZhY{w:Wd}{a:Ac}(hk:dS a)(W:ue w):ue (act w a)/\TW w (act w a):=by
 obtain⟨hk,hn⟩:=hk;rcases hk with k|k|k|k
 .have e:act w a=w.set a.ZV (lead (w.Zb a.ZV)):=by unfold act;rw[if_neg nc,if_pos k]
  rw[e];refine BT rfl (fun i hi=>?_) W;rw[Uc];by_cases q:i=a.ZV
  .rw[if_pos q,q];unfold lead;split<;>exact⟨rfl,rfl,rfl,rfl,rfl⟩
  .rw[if_neg q];exact⟨rfl,rfl,rfl,rfl,rfl⟩
 .have e:act w a=w.out a.ZV (step (w.Zb a.ZV)):=by unfold act;rw[if_neg nc,if_neg nc,if_pos k]
  rw[e];have S:=Zeb (w.Zb a.ZV);have su:(step (w.Zb a.ZV)).n.up=(w.Zb a.ZV).up:=(KF (w.Zb a.ZV)).1;have hx:∀i,i<5->Wt (w.Zb i) ((w.out a.ZV (step (w.Zb a.ZV))).Zb i) (if i=a.ZV then (step (w.Zb a.ZV)).ts else []):=fun i hi=>by
   rw[FJ];by_cases q:i=a.ZV
   .rw[if_pos q,if_pos q,q];exact S
   .rw[if_neg q,if_neg q];exact .refl _
  refine⟨⟨fun i hi=>?_,fun i hi=>by rw[(hx i hi).me];exact W.me i hi,fun i hi=>(hx i hi).nw (W.nw i hi),fun i hi=>(hx i hi).st (W.st i hi)⟩,⟨fun i hi=>(hx i hi).ZB,⟨(step (w.Zb a.ZV)).ts,rfl,fun t ht=>?_⟩,?_,fun i hi=>(hx i hi).sub⟩⟩
  .rw[FJ];by_cases q:i=a.ZV
   .rw[if_pos q,su,<-q];exact W.up i hi
   .rw[if_neg q];exact W.up i hi
  .obtain⟨x,pre,e,h1,h2,h3⟩:=S.ZE (W.st _ hn) t ht;refine⟨a.ZV,x,pre,e,hn,?_,h2,by rw[h3,W.me _ hn]⟩;rw[FJ,if_pos rfl];exact h1
  .have h1:=Rk w a.ZV (step (w.Zb a.ZV)).n (fun n=>n.Zj.length) hn;have h2:=S.len;show (w.ZE++(step (w.Zb a.ZV)).ts).length+Vy (fun i=>(if i=a.ZV then (step (w.Zb a.ZV)).n else w.Zb i).Zj.length)=_;rw[U];omega
 .have e:act w a=w.Zp.foldl Q3 { w with Zp:=[] }:=by
   unfold act;rw[if_neg nc,if_neg nc,if_neg nc,if_neg nc,if_pos k]
  rw[e];have ht:∀(ls:List YF) (w:Wd),(ls.foldl Q3 w).ZE=w.ZE:=by
   intro ls
   induction ls with
   | nil=>intro w;rfl
   | cons l ls ih=>intro w;rw[List.foldl_cons,ih];unfold Q3;split<;>rfl
  refine BT (ht _ _) (fun i hi=>?_) W;rw[dh];split<;>exact⟨rfl,rfl,rfl,rfl,rfl⟩
 .have e:act w a=w.set a.ZV (started a.ZV (w.Zb a.ZV)):=by
   unfold act;rw[if_neg nc,if_neg nc,if_neg nc,if_neg nc,if_neg nc,if_neg nc]
  rw[e];refine BT rfl (fun i hi=>?_) W;rw[Uc];by_cases q:i=a.ZV
  .rw[if_pos q];unfold started;rw[if_pos (W.up _ hn),q];exact⟨rfl,rfl,rfl,rfl,rfl⟩
  .rw[if_neg q];exact⟨rfl,rfl,rfl,rfl,rfl⟩
theorem Zed:∀(l:List Ac) (w:Wd),(∀a∈l,dS a)->ue w->ue (l.foldl act w)/\TW w (l.foldl act w):=by
 intro l
 induction l with
 | nil=>intro w _ W;exact⟨W,.refl w⟩
 | cons a l ih=>
  intro w hl W;obtain⟨h1,h2⟩:=ZhY (hl a Hg) W;obtain⟨h3,h4⟩:=ih (act w a) (fun b hb=>hl b (by simp[hb])) h1;exact⟨h3,h2.trans h4⟩
theorem sY{l:List Raw}{n many:Nat}(hn:n<5):∃k,Wj l n many=l++k/\∀x∈k,dS x.ac:=by
 have s9:∀x∈Je 5,dS x.ac:=fun x hx=>by
  obtain⟨n,hn,rfl⟩:=Ml hx;exact⟨.inr (.inr (.inr rfl)),by show ((n:Nat):Int).toNat<5;omega⟩
 have sm:∀k,∀x∈UA k,dS x.ac:=fun k x hx=>by
  rcases FL hx with⟨n,hn,rfl⟩|rfl
  .exact⟨.inr (.inl rfl),by show ((n:Nat):Int).toNat<5;omega⟩
  .exact⟨.inr (.inr (.inl rfl)),aaa⟩
 refine⟨Je 5++UA 0++[JX n]++Je 5++UA many,?_,fun x hx=>?_⟩
 .unfold Wj QQ;simp only[a7]
 .simp only[aa,am]at hx;rcases hx with (((hx|hx)|rfl)|hx)|hx
  .exact s9 x hx
  .exact sm 0 x hx
  .exact⟨.inl rfl,by show ((n:Nat):Int).toNat<5;omega⟩
  .exact s9 x hx
  .exact sm many x hx
theorem m7{l:List Raw}{n many:Nat}(hn:n<5)(W:ue (Js l)):ue (Js (Wj l n many))/\TW (Js l) (Js (Wj l n many)):=by
 obtain⟨k,e,hk⟩:=sY (l:=l) (many:=many) hn;rw[e,LM];exact Zed _ _ (fun a ha=>by
  obtain⟨x,hx,rfl⟩:=List.mem_map.1 ha;exact hk x hx) W
section
variable {S:Cm->Prop} {C:List Cm} {b:Yw} {L T:Nat} {w:Nat->Wd} {g:Nat->Gh} {M:Nat->Nat->Yw}
theorem Yk.ZhZ(tr:Yk S C b L T w g M){X Y:Nat}(hX:X<5)(hY:Y<5)(ho:∀X,X<5->((w 0).Zb X).Zq.p=b):∀m,m<=((w 0).Zb Y).ZB.length->∀t,t<=T->Ct w t (7*m)->m<=((w t).Zb X).ZB.length:=by
 intro m
 induction m with
 | zero=>intro _ t _ _;exact bd _
 | succ m ih=>
  intro hm t ht hc;obtain⟨a,ha,c1,c2⟩:=Ct.split (w:=w) t (7*m) 7 (by rw[show 7*m+7=7*(m+1) by omega];exact hc);have h1:=ih nc a nc c1;have tr2:=tr.sh (a:=a) nc;have h40:=((tr.at 0).nd Y hY).ni.Kz;have hk0:Has ((w 0).Zb Y).Zi (m:Int):=fun q=>by
   have:=((tr.at 0).nd Y hY).ni.ZB m nc;rw[q]at this;cases this
  have hk:Has ((w a).Zb Y).Zi (m:Int):=tr.stays (Z:=fun t=>Has ((w t).Zb Y).Zi (m:Int)) (fun t _ h=>tr.Wm hY h) hk0 a (bd _) nc;have:=tr2.Jg hX hY (s:=m) nc (fun X hX=>tr.ZmK ho hX a nc) hk h1 (t-a) nc c2;have e2:Go.Proofs.YthlfaofofaphfaaGreatDoor.sh w a (t-a)=w t:=by show w (a+(t-a))=w t;rw[show a+(t-a)=t by omega]
  rw[e2]at this;exact this
end
theorem dU{A:List Raw}(hA:∀x∈A,x.err=0)(hF:RX (Js A))(hl:(o A)<=100){L:Nat}(hL:L<5){Q:List Cm}(hQ:∀x,EP A x->x∈Q){many:Nat}(tM:many<=2000):∃S C g M,Clean S C (Oy L) L many (fun t=>Ud t (act (Js A) (JX L).ac)) g M 0 Q/\Un (Oy L) L (act (Js A) (JX L).ac) /\
  (∀X x,x∈((Js A).Zb X).Zx->SD x ((act (Js A) (JX L).ac).Zb X))/\Js (Wj A L many)=Ud many (act (Js A) (JX L).ac):=by
 obtain⟨h1,_,h2⟩:=Mo hF L;have A':∀x∈A++[JX L],x.err=0:=fun y hy=>by
  rcases aa.1 hy with hy|hy
  .exact hA y hy
  .rw[am.1 hy];exact mQ hL
 have ew:Js (A++[JX L])=act (Js A) (JX L).ac:=by rw[LM];rfl
 obtain⟨g0,M0,k,T0,W⟩:=Zd8 A' (by rw[U,a8];omega);rw[ew]at T0 W;have hS:∀x,EP (A++[JX L]) x->EP A x:=fun x ⟨a,ha,hk,h⟩=>by
  rcases aa.1 ha with ha|ha
  .exact⟨a,ha,hk,h⟩
  .rw[am.1 ha]at hk;cases hk
 obtain⟨pw,un⟩:=ZaU hF hL W;have hC:(Wg [] :: (A++[JX L]).map fun x=>Wg x.data).length<=100000:=by rw[bf,bw,U,a8];omega
 obtain⟨g,M,_,tr⟩:=Zd7 hC Hg (dL hL) hL rfl (fun y hy=>by
  obtain⟨a,_,_,q,rfl⟩:=hS y hy;exact ZdT q) W T0 pw (T:=many) (fun X hX=>by
  have:((act (Js A) (JX L).ac).Zb X).data=[]:=by
   rw[h2 X];split
   .exact (hF.nd L).data
   .exact (hF.nd X).data
  rw[this];simp only[bl];omega)
 have Kv:((act (Js A) (JX L).ac).Zb L).ZB=[]:=by rw[h2 L,if_pos rfl];exact (hF.nd L).ZB
 have HI:∀X,((act (Js A) (JX L).ac).Zb X).Zg=[]:=fun X=>by
  rw[h2 X];split
  .exact (hF.nd L).Zg
  .exact (hF.nd X).Zg
 have c:Clean (EP (A++[JX L])) (Wg [] :: (A++[JX L]).map fun x=>Wg x.data) (Oy L) L many (fun t=>Ud t (act (Js A) (JX L).ac)) g M 0 Q:=
  ⟨tr,fun X _=>ZaV hF _ X,fun X _ l hl=>(by
   have hl:l∈((act (Js A) (JX L).ac).Zb X).Zg:=hl;rw[HI]at hl;cases hl),fun l hl=>(by
   have hl:l∈(act (Js A) (JX L).ac).Zp:=hl;rw[h1]at hl;cases hl),(by show 0=((act (Js A) (JX L).ac).Zb L).ZB.length;rw[Kv];rfl),fun y _=>(by
   show y ∉ ((act (Js A) (JX L).ac).Zb L).ZB;rw[Kv];simp),fun r hr s=>(by
   have hr:((act (Js A) (JX L).ac).Zb L).Zh=K r:=hr;rw[h2 L,if_pos rfl]at hr;obtain rfl:=Option.some.inj hr;rfl),fun y hy=>.inl (hQ y (hS y hy))⟩
 refine⟨_,_,_,_,c,un,fun X x hx=>?_,j9 A L many (fun i hi=>(hF.nd i).up) (fun i hi=>(pw.nd i hi).up)⟩;rw[h2 X];split
 .rename_i q;rw[q]at hx;exact .inl hx
 .exact .inl hx
theorem sZ{A:List Raw}(hA:∀x∈A,x.err=0)(hF:RX (Js A))(hl:(o A)<=100){L:Nat}(hL:L<5){Q:List Cm}(hQ:∀x,EP A x->x∈Q)(hQ8:(o Q)<=8){many:Nat}(hm:8+7*(o Q)+5*(2*(1+(o Q))+1)<=many)(tM:many<=2000){x:Cm}{X:Nat}(hX:X<5)(hx:x∈((Js A).Zb X).Zx):
  ∀Y,Y<5->x∈((Js (Wj A L many)).Zb Y).ZB:=by
 intro Y hY;obtain⟨S,C,g,M,c,un,SK,e⟩:=dU hA hF hl hL hQ (many:=many) tM;have tr:=c.tr;rw[e];obtain⟨w,hw⟩:∃w:Nat->Wd,w=fun t=>Ud t (act (Js A) (JX L).ac):=⟨_,rfl⟩
 have ew:Ud many (act (Js A) (JX L).ac)=w many:=by rw[hw]
 have e0:act (Js A) (JX L).ac=w 0:=by rw[hw];rfl
 rw[<-hw]at c tr;rw[e0]at un;have SK:=SK X x hx;rw[e0]at SK;rw[ew];have hc:=c.clear (k:=8+7*(o Q)) hm;obtain⟨a,ha,c1,c2⟩:=Ct.split (w:=w) many 8 (7*(o Q)) hc;have D:=tr.done un hX SK a ha c1;have HI:Nx x (w a):=by
  rcases D with q|q
  .exact q
  .have:=c.short (t:=a) ha hL;omega
 obtain⟨Z,hZ,hxz⟩:=HI;obtain⟨s,hs,rfl⟩:=bn.1 hxz;have hsq:=c.short (t:=a) ha hZ;have tr2:=tr.sh (a:=a) ha;have ho:=(tr.ZaJ un a ha (Ct.down c1 nc)).1.1;have hm:=tr2.ZhZ hY hZ ho (s+1) hs (many-a) (a6 _) (Ct.down c2 nc);have e2:Go.Proofs.YthlfaofofaphfaaGreatDoor.sh w a (many-a)=w many:=by show w (a+(many-a))=w many;rw[show a+(many-a)=many by omega]
 rw[e2]at hm;obtain⟨f,hf⟩:=tr2.ZmJ hZ (many-a);rw[e2]at hf;have hf:((w many).Zb Z).ZB=((w a).Zb Z).ZB++f:=hf;have g1:((w many).Zb Z).ZB[s]? = K ((w a).Zb Z).ZB[s]:=by rw[hf,List.getElem?_append_left hs];exact au hs
 have I0:s<((w many).Zb Y).ZB.length:=hm;have g2:((w many).Zb Y).ZB[s]? = K ((w many).Zb Y).ZB[s]:=au I0;have TT:=tr.ti many (a6 _);rw[Jk.one TT.gi ((TT.nd Z hZ).ZB s _ g1) ((TT.nd Y hY).ZB s _ g2)];exact be I0
def Pd(cs:List bc)(x:Cm):Prop:=ci cs (8+x.c.toNat)=x.s+1/\ci cs x.n.toNat=x.v
def Fre(cs:List bc)(x:Cm):Prop:=ci cs (8+x.c.toNat)=0
structure LQ(x y:Cm):Prop where
 ex:x.err=0
 ey:y.err=0
 kx:x.k=1
 ky:y.k=1
 c:x.c≠y.c
 n:x.n≠y.n
theorem LQ.symm{x y:Cm}(t:LQ x y):LQ y x:=⟨t.ey,t.ex,t.ky,t.kx,fun e=>t.c e.symm,fun e=>t.n e.symm⟩
structure Sok(x y:Cm)(cs:List bc):Prop where
 px:Pd cs x\/Fre cs x
 py:Pd cs y\/Fre cs y
 bx:cb cs (32+x.c.toNat)=false
 by':cb cs (32+y.c.toNat)=false
 len:(o cs)=40
theorem Sok.symm{x y:Cm}{cs:List bc}(s:Sok x y cs):Sok y x cs:=⟨s.py,s.px,s.by',s.bx,s.len⟩
theorem dV{x y:Cm}(t:LQ x y){cs:List bc}(s:Sok x y cs):Sok x y (X1 cs x).cells/\Pd (X1 cs x).cells x/\(Pd cs y->Pd (X1 cs x).cells y):=by
 obtain⟨k,c,q,n,v,e1,e2,e3,e4,e5,y1,y2,y3,y4,y5⟩:=Xb (show YE x.k x.c x.s x.n x.v=0 from t.ex);obtain⟨k',c',q',n',v',f1,f2,f3,f4,f5,z1,z2,z3,z4,z5⟩:=Xb (show YE y.k y.c y.s y.n y.v=0 from t.ey);have hk:k=1:=by have:=t.kx;omega
 have hc:c≠c':=fun e=>t.c (by rw[e2,f2,e]);have hn:n≠n':=fun e=>t.n (by rw[e4,f4,e]);subst hk;have hl:=s.len;have sx:=s.px;have sy:=s.py;have bx:=s.bx;have bz:=s.by'
 unfold Pd Fre at sx sy;rw[e2,e3,e4,e5]at sx;rw[f2,f3,f4,f5]at sy;rw[e2]at bx;rw[f2]at bz;simp only[J]at sx sy bx bz;have cbs:∀(l:List bc) (j i:Nat) (z:bc),i≠j->cb (l.set j z) i=cb l i:=fun l j i z h=>by
  unfold cb;rw[YR,YR,List.getElem?_set_ne (fun e=>h e.symm)]
 by_cases hd:ci cs (8+c)=(q:Int)+1
 .have hD:(X1 cs x).cells=cs:=by
   unfold X1 Ql;rw[e1,e2,e3,e4,e5];simp only[J];rw[if_neg nc,if_pos hd.symm]
  rw[hD];have hpx:Pd cs x:=by
   rcases s.px with h|h
   .exact h
   .unfold Fre at h;rw[e2]at h;simp only[J]at h;omega
  exact⟨s,hpx,fun h=>h⟩
 .have h0:ci cs (8+c)=0:=by
   rcases sx with h|h
   .exact absurd h.1 hd
   .exact h
  have hD:(X1 cs x).cells=(((cs.set n (O H v)).set (8+c) (O H ((q:Int)+1))).set (16+c*2) (O H 0)).set (16+c*2+1) (O H v):=by
   unfold X1 Ql UH;rw[e1,e2,e3,e4,e5];simp only[J];rw[if_neg nc,if_neg nc,if_neg nc,if_neg (by rw[bx];decide)];rfl
  rw[hD];have gi:∀i,i≠n->i≠8+c->i≠16+c*2->i≠16+c*2+1->ci ((((cs.set n (O H v)).set (8+c) (O H ((q:Int)+1))).set (16+c*2) (O H 0)).set (16+c*2+1) (O H v)) i=ci cs i:=fun i h1 h2 h3 h4=>by
   rw[Jl _ _ h4,Jl _ _ h3,Jl _ _ h2,Jl _ _ h1]
  have gb:∀i,i≠n->i≠8+c->i≠16+c*2->i≠16+c*2+1->cb ((((cs.set n (O H v)).set (8+c) (O H ((q:Int)+1))).set (16+c*2) (O H 0)).set (16+c*2+1) (O H v)) i=cb cs i:=fun i h1 h2 h3 h4=>by
   rw[cbs _ _ _ _ h4,cbs _ _ _ _ h3,cbs _ _ _ _ h2,cbs _ _ _ _ h1]
  have px:Pd ((((cs.set n (O H v)).set (8+c) (O H ((q:Int)+1))).set (16+c*2) (O H 0)).set (16+c*2+1) (O H v)) x:=by
   unfold Pd;rw[e2,e3,e4,e5];simp only[J];refine⟨?_,?_⟩
   .rw[Jl _ _ nc,Jl _ _ nc,UU KQ]
   .rw[Jl _ _ nc,Jl _ _ nc,Jl _ _ nc,UU nc]
  have ey1:=gi (8+c') nc nc nc nc;have ey2:=gi n' nc nc nc nc;have hy:∀z,Pd cs y->ci z (8+c')=ci cs (8+c')->ci z n'=ci cs n'->Pd z y:=fun z h g1 g2=>by
   unfold Pd at h ⊢;rw[f2,f3,f4,f5]at h ⊢;simp only[J]at h ⊢;rw[g1,g2];exact h
  refine⟨⟨.inl px,?_,?_,?_,by simp only[List.length_set];exact hl⟩,px,fun h=>hy _ h ey1 ey2⟩
  .rcases s.py with h|h
   .exact .inl (hy _ h ey1 ey2)
   .refine .inr ?_;unfold Fre at h ⊢;rw[f2]at h ⊢;simp only[J]at h ⊢;rw[ey1];exact h
  .rw[e2];simp only[J];rw[gb _ nc nc nc nc];exact bx
  .rw[f2];simp only[J];rw[gb _ nc nc nc nc];exact bz
theorem td{x y:Cm}(t:LQ x y):∀(l:List Cm) (st:bi),G7 st->XA st.cs=false->(∀z∈l,z=x\/z=y\/z=IB)->Sok x y st.cs ->
  ((Pd st.cs x\/x∈l)->Pd (Rb st l).2.cs x)/\((Pd st.cs y\/y∈l)->Pd (Rb st l).2.cs y):=by
 have Pq:x≠IB:=fun e=>by have:=t.kx;rw[e]at this;exact absurd this aaa
 have ie:y≠IB:=fun e=>by have:=t.ky;rw[e]at this;exact absurd this aaa
 intro l
 induction l with
 | nil=>intro st _ _ _ _;exact⟨fun h=>h.elim (fun h=>h) (fun h=>by cases h),fun h=>h.elim (fun h=>h) (fun h=>by cases h)⟩
 | cons z l ih=>
  intro st ok hb hl s;have hz:=hl z Hg;have hze:z.err=0:=by rcases hz with rfl|rfl|rfl;exact t.ex;exact t.ey;rfl
  have h0:U7 st.cs z=0:=by
   unfold U7 Nu;rw[hb,if_neg aaa];exact hze
  rw[Ls h0];have so:=(HH ok h0).1;obtain⟨k',c',s',n',v',f1,f2,f3,f4,f5,z1,z2,z3,z4,z5⟩:=Xb (show YE z.k z.c z.s z.n z.v=0 from hze);have sb:XA (Lr st z).cs=false:=by
   show XA (X1 st.cs z).cells=false;unfold X1;rw[f1,f2,f3,f4,f5];exact D0 (YD ok.fit) hb _ _ _ _ _ z1 z2 z3 z4 z5
  have key:Sok x y (X1 st.cs z).cells/\((Pd st.cs x\/z=x)->Pd (X1 st.cs z).cells x)/\((Pd st.cs y\/z=y)->Pd (X1 st.cs z).cells y):=by
   rcases hz with rfl|rfl|rfl
   .obtain⟨a1,a2,a3⟩:=dV t s;exact⟨a1,fun _=>a2,fun h=>h.elim a3 fun e=>absurd (by rw[e]) t.c⟩
   .obtain⟨a1,a2,a3⟩:=dV t.symm s.symm;exact⟨a1.symm,fun h=>h.elim a3 fun e=>absurd (by rw[e]) t.c,fun _=>a2⟩
   .have hc:(X1 st.cs IB).cells=st.cs:=rfl;rw[hc];exact⟨s,fun h=>h.elim (fun h=>h) fun e=>absurd e.symm Pq,fun h=>h.elim (fun h=>h) fun e=>absurd e.symm ie⟩
  obtain⟨i1,i2⟩:=ih (Lr st z) so sb (fun a ha=>hl a (by simp[ha])) key.1;refine⟨fun h=>i1 ?_,fun h=>i2 ?_⟩
  .rcases h with h|h
   .exact .inl (key.2.1 (.inl h))
   .rcases a9.1 h with h|h
    .exact .inl (key.2.1 (.inr h.symm))
    .exact .inr h
  .rcases h with h|h
   .exact .inl (key.2.2 (.inl h))
   .rcases a9.1 h with h|h
    .exact .inl (key.2.2 (.inr h.symm))
    .exact .inr h
theorem th{x y:Cm}(t:LQ x y){l:List Cm}(hl:∀z∈l,z=x\/z=y\/z=IB)(h1:x∈l)(h2:y∈l):Pd (U8 l) x/\Pd (U8 l) y:=by
 have he:∀z∈l,z.err=0:=fun z hz=>by rcases hl z hz with rfl|rfl|rfl;exact t.ex;exact t.ey;rfl
 obtain⟨k,c,q,n,v,e1,e2,e3,e4,e5,y1,y2,y3,y4,y5⟩:=Xb (show YE x.k x.c x.s x.n x.v=0 from t.ex);obtain⟨k',c',q',n',v',f1,f2,f3,f4,f5,z1,z2,z3,z4,z5⟩:=Xb (show YE y.k y.c y.s y.n y.v=0 from t.ey);have hz8:∀c<8,ci Y1 (8+c)=0:=aaa;have hzb:∀c<8,cb Y1 (32+c)=false:=aaa;have s:Sok x y I9.cs:=by
  refine⟨.inr ?_,.inr ?_,?_,?_,rfl⟩
  .unfold Fre;rw[e2];exact hz8 c nc
  .unfold Fre;rw[f2];exact hz8 c' nc
  .rw[e2];exact hzb c nc
  .rw[f2];exact hzb c' nc
 unfold U8;rw[if_pos (IP he)];have:=td t l I9 HG rfl hl s;exact⟨this.1 (.inr h1),this.2 (.inr h2)⟩
theorem F8{w:Wd}{i:Nat}{d:List Nat}{x:Cm}(hi:i<5)(W:ue w)(h1:YP d (w.Zb i).ZB.length=0)(h2:Xo d (w.Zb i).ZB.length=x)(h3:x ∉ (w.Zb i).ZB)(h4:x ∉ (w.Zb i).Zj):
  ue (JN w i d)/\(JN w i d).ZE=w.ZE/\Vy (fun j=>((JN w i d).Zb j).Zj.length)=Vy (fun j=>(w.Zb j).Zj.length)+1/\(∀j,((JN w i d).Zb j).ZB=(w.Zb j).ZB) /\
  ∀j y,y∈((JN w i d).Zb j).Zj->y∈(w.Zb j).Zj\/(j=i/\y=x):=by
 have e:JN w i d=w.set i (Rc (add (w.Zb i) x) x):=by
  unfold JN;rw[if_pos (W.up i hi),if_neg (by simp[h1]),h2,if_neg h3]
 have ha:(add (w.Zb i) x).up=(w.Zb i).up/\(add (w.Zb i) x).me=(w.Zb i).me/\(add (w.Zb i) x).ZB=(w.Zb i).ZB/\(add (w.Zb i) x).Zj=(w.Zb i).Zj/\(add (w.Zb i) x).store=(w.Zb i).store:=by
  unfold add;split<;>exact⟨rfl,rfl,rfl,rfl,rfl⟩
 obtain⟨a1,a2,a3,a4,a5⟩:=ha;obtain⟨N,hN⟩:=ZQ (Rc (add (w.Zb i) x) x);have hq:N.up=(w.Zb i).up/\N.me=(w.Zb i).me/\N.ZB=(w.Zb i).ZB/\N.Zj=(w.Zb i).Zj++[x]/\N.store=(w.Zb i).store:=by
  rw[hN];unfold Rc;rw[a4,if_neg h4];exact⟨a1,a2,a3,rfl,a5⟩
 rw[e,<-hN];obtain⟨q1,q2,q3,q4,q5⟩:=hq;refine⟨⟨fun j hj=>?_,fun j hj=>?_,fun j hj=>?_,fun j hj=>?_⟩,rfl,?_,fun j=>?_,fun j y hy=>?_⟩
 .rw[Uc];by_cases q:j=i
  .rw[if_pos q,q1];exact W.up i hi
  .rw[if_neg q];exact W.up j hj
 .rw[Uc];by_cases q:j=i
  .rw[if_pos q,q2,q];exact W.me i hi
  .rw[if_neg q];exact W.me j hj
 .rw[Uc];by_cases q:j=i
  .rw[if_pos q];obtain⟨n1,n2⟩:=W.nw i hi;unfold NWt;rw[q4,q3];refine⟨?_,fun y hy hl=>?_⟩
   .rw[List.nodup_append];exact⟨n1,Hg,fun a ha b hb e=>by rw[am.1 hb]at e;rw[e]at ha;exact h4 ha⟩
   .rcases aa.1 hy with hy|hy
    .exact n2 y hy hl
    .rw[am.1 hy]at hl;exact h3 hl
  .rw[if_neg q];exact W.nw j hj
 .rw[Uc];by_cases q:j=i
  .rw[if_pos q,q5,q3];exact W.st i hi
  .rw[if_neg q];exact W.st j hj
 .have:=Rk w i N (fun n=>n.Zj.length) hi;rw[q4,U,a8]at this;show Vy (fun j=>(if j=i then N else w.Zb j).Zj.length)=_;omega
 .rw[Uc];by_cases q:j=i
  .rw[if_pos q,q];exact q3
  .rw[if_neg q]
 .rw[Uc]at hy;by_cases q:j=i
  .rw[if_pos q,q4]at hy;rcases aa.1 hy with hy|hy
   .rw[q];exact .inl hy
   .exact .inr ⟨q,am.1 hy⟩
  .rw[if_neg q]at hy;exact .inl hy
theorem ZvU:ue QL:=⟨fun _ _=>rfl,fun _ _=>rfl,fun _ _=>⟨List.nodup_nil,fun _ h=>by cases h⟩,fun _ _=>rfl⟩
section
variable {x y:Cm} {a b L:Nat}
def SE(x y:Cm)(a b:Nat):List Raw:=[LP x 1 a,LP y 1 b]
theorem kq{x:Cm}(h:x.k=1):1<=x.k:=nc
theorem Cd(t:LQ x y)(ha:a<5)(hb:b<5):(∀z∈SE x y a b,z.err=0)/\RX (Js (SE x y a b))/\x∈((Js (SE x y a b)).Zb a).Zx/\y∈((Js (SE x y a b)).Zb b).Zx /\
  ue (Js (SE x y a b))/\(Js (SE x y a b)).ZE=[]/\Vy (fun j=>((Js (SE x y a b)).Zb j).Zj.length)=2/\(∀j z,z∈((Js (SE x y a b)).Zb j).Zj->z=x\/z=y) /\
  ∀z,EP (SE x y a b) z->z=x\/z=y:=by
 have one:∀z:Cm,z.err=0->z.k=1->YP (RT 1 z.c 7 60 z) 0=0/\Xo (RT 1 z.c 7 60 z) 0=z:=fun z hz hk=>(KP (i:=1) hz (kq hk) nc (now:=0) nc nc).2;have ox:=one x t.ex t.kx;have oy:=one y t.ey t.ky;have Y4:x≠y:=fun e=>t.c (by rw[e]);have e:Js (SE x y a b)=JN (JN QL a (RT 1 x.c 7 60 x)) b (RT 1 y.c 7 60 y):=by
  show act (act QL (LP x 1 a).ac) (LP y 1 b).ac=_;rw[F6,F6];rfl
 rw[e];obtain⟨f1,f2,f3⟩:=LO ZhV a (RT 1 x.c 7 60 x);obtain⟨g1,g2,g3⟩:=LO f1 b (RT 1 y.c 7 60 y);have f3:=f3 ox.1;rw[ox.2]at f3;have g3:=g3 oy.1;rw[oy.2]at g3;obtain⟨w1,w2,w3,w4,w5⟩:=F8 (w:=QL) (x:=x) ha ZvU ox.1 ox.2 (fun h=>by cases h) (fun h=>by cases h);have hl:((JN QL a (RT 1 x.c 7 60 x)).Zb b).ZB=[]:=(f1.nd b).ZB;obtain⟨v1,v2,v3,v4,v5⟩:=F8 (d:=RT 1 y.c 7 60 y) (x:=y) hb w1 (by rw[hl];exact oy.1) (by rw[hl];exact oy.2) (fun h=>by rw[hl]at h;cases h) (fun h=>by
  rcases w5 b y h with h|h
  .cases h
  .exact Y4 h.2.symm)
 refine⟨fun z hz=>?_,g1,g2 _ _ f3,g3,v1,by rw[v2,w2];rfl,by rw[v3,w3];rfl,fun j z hz=>?_,fun z hz=>?_⟩
 .unfold SE at hz;simp only[a9,bg,or_false]at hz;rcases hz with rfl|rfl
  .exact dR ha
  .exact dR hb
 .rcases v5 j z hz with h|h
  .rcases w5 j z h with h|h
   .cases h
   .exact .inl h.2
  .exact .inr h.2
 .obtain⟨r,hr,hk,ho,hz⟩:=hz;unfold SE at hr;simp only[a9,bg,or_false]at hr;rcases hr with rfl|rfl
  .exact .inl (hz.trans ox.2)
  .exact .inr (hz.trans oy.2)
theorem Zee(t:LQ x y)(ha:a<5)(hb:b<5)(hL:L<5):(∀z∈lng (Js (Xi (SE x y a b) L)),z=x\/z=y\/z=IB)/\x∈lng (Js (Xi (SE x y a b) L))/\y∈lng (Js (Xi (SE x y a b) L))/\(Js (Xi (SE x y a b) L)).ZE.length=2:=by
 obtain⟨s1,s2,s3,s4,s5,s6,s7,s8,s9⟩:=Cd t ha hb;obtain⟨A,hA⟩:=ZQ (SE x y a b);have hAl:(o A)=2:=by rw[hA];rfl
 rw[<-hA]at s1 s2 s3 s4 s5 s6 s7 s8 s9 ⊢;obtain⟨m,hm⟩:=ZQ (manyN A (o A));have m1:m<=140:=by rw[hm];have:=FO A (o A);omega
 have m2:100<=m:=by
  rw[hm];have:∀(l:List Raw) i,100<=manyN l i:=by
   intro l i
   induction i with
   | zero=>exact a6 _
   | succ i ih=>
    unfold manyN
    cases l[i]? with
    | none=>exact ih
    | some y=>simp only;split<;>omega
  exact this _ _
 have hs:Xi A L=Wj (Wj A L m) L m:=by rw[hm];rfl
 have Se:=IQ s1 hL;have Sl:(Xi A L).length<=100000:=by
  have:=IR (l:=A) (n:=L) (b:=2) nc;omega
 have hQ:∀z,EP A z->z∈[x,y]:=fun z hz=>by rcases s9 z hz with rfl|rfl<;>simp
 have D:∀z X,X<5->z∈((Js A).Zb X).Zx->∀Y,Y<5->z∈((Js (Wj A L m)).Zb Y).ZB:=fun z X hX hz=>
  sZ s1 s2 nc hL (Q:=[x,y]) hQ Hg (many:=m) (by simp only[bf,bl];omega) nc hX hz
 have Dx:=D x a ha s3;have Dy:=D y b hb s4;obtain⟨W1,T1⟩:=m7 (many:=m) hL s5;obtain⟨W2,T2⟩:=m7 (many:=m) hL W1;have T:=T1.trans T2;rw[<-hs]at W2 T T2;have Zf:∀z Y,Y<5->z∈((Js (Wj A L m)).Zb Y).ZB->z∈((Js (Xi A L)).Zb Y).ZB:=fun z Y hY h=>by
  obtain⟨e,he⟩:=T2.ZB Y hY;rw[he];exact aa.2 (.inl h)
 have al:∀j,j<5->((Js (Xi A L)).Zb j).Zj=[]:=fun j hj=>by
  cases e:((Js (Xi A L)).Zb j).Zj with
  | nil=>rfl
  | cons z l=>
   exfalso;have hz:z∈((Js (Xi A L)).Zb j).Zj:=by rw[e];simp
   have hn:=(W2.nw j hj).2 z hz;rcases s8 j z (T.sub j hj z hz) with rfl|rfl
   .exact hn (Zf _ j hj (Dx j hj))
   .exact hn (Zf _ j hj (Dy j hj))
 refine⟨fun z hz=>?_,Cc Se Sl ⟨0,nc,Zf _ 0 nc (Dx 0 nc)⟩,Cc Se Sl ⟨0,nc,Zf _ 0 nc (Dy 0 nc)⟩,?_⟩
 .rcases BI (Js (Xi A L)) with q|⟨i,hi,q⟩
  .rw[q]at hz;cases hz
  .rw[q]at hz;rcases rS Se Sl hi hz with q|⟨r,hr,hrk,ho,e⟩
   .exact .inr (.inr q)
   .have UZ:r∈A:=by
     rw[hs]at hr;obtain⟨k2,e2,h2⟩:=F0 (l:=Wj A L m) (n:=L) (many:=m);obtain⟨k1,e1,h1⟩:=F0 (l:=A) (n:=L) (many:=m);rw[e2,e1]at hr;rcases aa.1 hr with hr|hr
     .rcases aa.1 hr with hr|hr
      .exact hr
      .exact absurd hrk (h1 r hr).2
     .exact absurd hrk (h2 r hr).2
    rcases s9 z ⟨r,UZ,hrk,ho,e⟩ with q|q
    .exact .inl q
    .exact .inr (.inl q)
 .have:=T.sum;rw[s6,s7]at this;have h5:Vy (fun i=>((Js (Xi A L)).Zb i).Zj.length)=0:=by
   simp only[Vy,al 0 nc,al 1 nc,al 2 nc,al 3 nc,al 4 nc,bl]
  rw[h5]at this
  simpa using this
end
theorem ZaZ(T:World)(h:Hp)(u:bc)(a:List Cm)(x:Cm)(su:Ts J2.C 5 h u a)(hl:(o a)<=1000000):
  Zd bo T 12 #[u,.agg x.C.toArray] h fun v' h'=>v'=.bool (decide (x∈a))/\Zk h.size h h':=by
 obtain⟨p,c,rfl,XE⟩:=QC su;obtain⟨h1,Xk⟩:=ZQ (h.push (.cells x.C.toArray 25):Hp);have e1:=Xk.symm;have b1:Zk h.size h h1:=by rw[Xk];exact (Zk.refl _ _).add _
 have y1:h1[h.size]? = K (.cells x.C.toArray 25):=by rw[Xk];exact Zc
 have r2:rd h1 ⟨h.size,0,al⟩ 5=K x.C:=Zy y1 rfl;refine Zd.XS [_,_] Tryz.func12 ?_;simp -implicitDefEqProofs only[go_sem,e1];refine VS.Yj (fun F g=>g=h1/\F 0=.slice p (o a) c/\F 3=.pointer (K ⟨h.size,0,al⟩)/\∃i:Nat,i<=(o a)/\F 5=O H i/\x ∉ a.take i)
  (fun F _=>(o a)-(vi (F 5)).toNat) rfl ⟨rfl,rfl,rfl,0,bd _,rfl,Hg⟩ ?_
 rintro F g ⟨rfl,f0,f3,i,hi,f5,XY⟩;by_cases hla:i<(o a)
 .have ZmN:(i:Int)<(o a):=nc;obtain⟨bb,oo,rfl,Tm,GJ⟩:=XE (by intro e;rw[e]at hla;simp at hla);have r1:rd g ⟨bb,oo+i*5,al⟩ 5=K a[i].C:=by rw[QU b1 (by exact Tm)];exact GJ i hla
  simp -implicitDefEqProofs only[go_sem,f0,f3,f5,ZmN];refine VS.q mixed uf ?_;simp -implicitDefEqProofs only[go_sem,f0,f3,f5,ZmN,r1,r2];by_cases e:a[i]=x
  .have hx:x∈a:=by rw[<-e];exact be hla
   simp -implicitDefEqProofs only[go_sem,e,f0,f3,f5,hx];exact b1
  .simp -implicitDefEqProofs only[go_sem,e,f0,f3,f5];unfold XK;refine⟨⟨rfl,f0,f3,i+1,hla,rfl,fun hx=>?_⟩,?_⟩
   .rw[Y2 a i hla]at hx;rcases aa.1 hx with hx|hx
    .exact XY hx
    .exact e (am.1 hx).symm
   .simp only[vi,Zr,↓reduceIte,f5];omega
 .have Xp:¬(i:Int)<(o a):=nc;have hx:¬x∈a:=fun q=>XY (by rw[aU nc];exact q);simp -implicitDefEqProofs only[go_sem,f0,f3,f5,Xp,hx];exact b1
def Zh1(k c s n v:Int):Cm:=⟨1,OX c 4,OX s 6,OX n 4,(cmW k c s n v).v⟩
def Zh2(k c s n v ot:Int):Cm:=⟨1,(OX c 4+1+OX ot 3).tmod 4,OX s 6,(OX n 4+1).tmod 4,(cmW k c s n v).v⟩
theorem Za0(k c s n v ot:Int):LQ (Zh1 k c s n v) (Zh2 k c s n v ot):=by
 have r2:=X8 c (m:=4) nc;have r3:=X8 s (m:=6) nc;have r4:=X8 n (m:=4) nc;have r5:=X8 v (m:=1000) nc;have r6:=X8 ot (m:=3) nc;have rv:0<=(cmW k c s n v).v/\(cmW k c s n v).v<1000:=by
  unfold cmW;simp only;split<;>omega
 unfold Zh1 Zh2;generalize (cmW k c s n v).v=V at *;generalize OX c 4=A at *;generalize OX s 6=B at *;generalize OX n 4=D at *;generalize OX ot 3=G at *;have m1:(A+1+G).tmod 4=(A+1+G)%4:=aw nc;have m2:(D+1).tmod 4=(D+1)%4:=aw nc;rw[m1,m2];refine⟨?_,?_,rfl,rfl,fun e=>?_,fun e=>?_⟩
 .unfold J2.err YE;simp only;rw[if_neg nc,if_neg nc,if_neg nc,if_neg nc]
 .unfold J2.err YE;simp only;rw[if_neg nc,if_neg nc,if_neg nc,if_neg nc]
 .simp only at e;omega
 .simp only at e;omega
set_option maxHeartbeats 4000000 in
theorem Zef(T:World)(h:Hp)(k c s n v ot na nb ld:Int)(wk:i64 k)(wc:i64 c)(ws:i64 s)(wn:i64 n)(wv:i64 v)(wo:i64 ot)(wa:i64 na)(wb:i64 nb)(hl:i64 ld)(tb:eG LC h):
  Zd bo T 4 #[.agg (cL k c s n v).toArray,.int .i64 ot,.int .i64 na,.int .i64 nb,.int .i64 ld] h fun v' h'=>v'=.bool true/\Zk h.size h h':=by
 have tk:Tk h:=tb.tk;refine Zd.XS [_,_,_,_,_] Tryz.func4 ?_;obtain⟨h0,Qn⟩:=ZQ (h.push (.cells (cL k c s n v).toArray 23):Hp);have e0:=Qn.symm;have b0:Zk h.size h h0:=by rw[Qn];exact (Zk.refl _ _).add _
 have y0:h0[h.size]? = K (.cells (cL k c s n v).toArray 23):=by rw[Qn];exact Zc
 have r0:rd h0 ⟨h.size,0,al⟩ 5=K (cL k c s n v):=Zy y0 rfl;obtain⟨Wc,hWc⟩:=ZQ (cL k c s n v);have ck:=cM T h0 k c s n v wk wc ws wn wv;rw[<-hWc]at e0 r0 ck ⊢;simp -implicitDefEqProofs only[go_sem,e0,r0];refine ck.use ?_;rintro _ h1 ⟨rfl,b1⟩;obtain⟨X0,j3⟩:=ZQ (cmW k c s n v);obtain⟨X,hX⟩:=ZQ (Zh1 k c s n v);obtain⟨Y,hY⟩:=ZQ (Zh2 k c s n v ot);have hP:=Za0 k c s n v ot;rw[<-hX,<-hY]at hP;have x1:X0.c=X.c/\X0.s=X.s/\X0.n=X.n/\X0.v=X.v:=by rw[j3,hX];exact⟨rfl,rfl,rfl,rfl⟩
 have hX1:=hP.kx;have hY1:=hP.ky;rw[<-j3];obtain⟨h2,VQ⟩:=ZQ (h1.push (.cells X0.C.toArray 25):Hp);obtain⟨h3,G8⟩:=ZQ (h1.push (.cells X.C.toArray 25):Hp);obtain⟨h4,hh4⟩:=ZQ (h3.push (.cells X.C.toArray 25):Hp);have e2:=VQ.symm;have e4:=hh4.symm;have y2:h2[h1.size]? = K (.cells X0.C.toArray 25):=by rw[VQ];exact Zc
 have y3:h3[h1.size]? = K (.cells X.C.toArray 25):=by rw[G8];exact Zc
 have b3:Zk h1.size h1 h3:=by rw[G8];exact (Zk.refl _ _).add _
 have b4:Zk h3.size h3 h4:=by rw[hh4];exact (Zk.refl _ _).add _
 have hXl:X0.C.length=5:=rfl;have hXo:X0.C.all YC=true:=rfl;have hXp:Y9 [Value.int .i64 0,.int .i64 0,.int .i64 0,.int .i64 0,.int .i64 0] 0 X0.C=X0.C:=rfl;have ZvW:X.C.length=5:=rfl;have ZvX:X.C.all YC=true:=rfl;have ZvY:Y9 [Value.int .i64 0,.int .i64 0,.int .i64 0,.int .i64 0,.int .i64 0] 0 X.C=X.C:=rfl;have w2:QP h2 ⟨h1.size,0,al⟩ (.int .i64 1)=K h3:=by
  rw[Xe y2 0 _,VQ,G8,if_pos ⟨by simp[J2.C,QW],rfl⟩,QT];obtain⟨q1,q2,q3,q4⟩:=x1;unfold J2.C QW;rw[q1,q2,q3,q4,hX1];rfl
 have r3:rd h3 ⟨h1.size,0,al⟩ 5=K X.C:=Zy y3 rfl;have l3:=Za y3;have l2:=Za y2;simp -implicitDefEqProofs only[go_sem,e2,hXl,hXo,hXp,w2,r3,l2,l3,e4,ZvW,ZvX,ZvY];have r0:=X8 c (m:=4) nc;have r6:=X8 ot (m:=3) nc;have r4':=X8 n (m:=4) nc;have hXc:0<=X.c/\X.c<4:=by rw[hX];exact r0
 have hXn:0<=X.n/\X.n<4:=by rw[hX];exact r4'
 have hYc:Y.c=(X.c+1+OX ot 3).tmod 4:=by rw[hY,hX];rfl
 have hYn:Y.n=(X.n+1).tmod 4:=by rw[hY,hX];rfl
 have hYs:Y.s=X.s/\Y.v=X.v:=by rw[hY,hX];exact⟨rfl,rfl⟩
 have y3b:h4[h1.size]? = K (.cells X.C.toArray 25):=b4.get l3 y3;have y4:h4[h3.size]? = K (.cells X.C.toArray 25):=by rw[hh4];exact Zc
 have c3:hc h4 ⟨h1.size,1,al⟩=K (.int .i64 X.c):=Zn y3b;obtain⟨h5,hh5⟩:=ZQ (h3.push (.cells [.int .i64 1,.int .i64 Y.c,.int .i64 X.s,.int .i64 X.n,.int .i64 X.v].toArray 25):Hp);obtain⟨h6,iO⟩:=ZQ (h3.push (.cells Y.C.toArray 25):Hp);have b5:Zk h3.size h3 h5:=by rw[hh5];exact (Zk.refl _ _).add _
 have b6:Zk h3.size h3 h6:=by rw[iO];exact (Zk.refl _ _).add _
 have y5:h5[h3.size]? = K (.cells [.int .i64 1,.int .i64 Y.c,.int .i64 X.s,.int .i64 X.n,.int .i64 X.v].toArray 25):=by rw[hh5];exact Zc
 have w4:QP h4 ⟨h3.size,1,al⟩ (.int .i64 Y.c)=K h5:=by
  rw[Xe y4 1 _,hh4,hh5,if_pos ⟨by simp[J2.C,QW],rfl⟩,QT];unfold J2.C QW;rw[hX1];rfl
 have c5:hc h5 ⟨h1.size,3,al⟩=K (.int .i64 X.n):=Zn (b5.get l3 y3);have w5:QP h5 ⟨h3.size,3,al⟩ (.int .i64 Y.n)=K h6:=by
  rw[Xe y5 3 _,hh5,iO,if_pos ⟨Hg,rfl⟩,QT];unfold J2.C QW;rw[hY1,hYs.1,hYs.2];rfl
 have l4:=Za y3b;have l4':=Za y4;have l5':=Za y5;refine VS.w (h4.size) [8] (.q 0 (.q 1 (.q 2 (.q 3 (.q 4 (.q 5 (.q 6 (.q 7 (.w 8 .nil))))))))) mixed uf ?_;simp -implicitDefEqProofs only[go_sem,c3,l4];refine Ug (fun h=>RS T h ot 3 wo nc nc) ?_;generalize OX ot 3=G at *;have m1:(X.c+1+G).tmod 4=(X.c+1+G)%4:=aw nc;have m2:(X.n+1).tmod 4=(X.n+1)%4:=aw nc;have ZvZ:=hYc.symm;have Zv0:=hYn.symm;simp -implicitDefEqProofs only[go_sem,c3,l4,ZvZ,w4];have ir:∀(l:List Cm),True:=fun _=>trivial;have B3:Zk h.size h h3:=b0.trans ((b1.trans (b3.mono b1.size)).mono b0.size);have B6:Zk h.size h h6:=B3.trans (b6.mono B3.size);have x6:=b6.get l3 y3;have y6:h6[h3.size]? = K (.cells Y.C.toArray 25):=by rw[iO];exact Zc
 have rX6:rd h6 ⟨h1.size,0,al⟩ 5=K X.C:=Zy x6 rfl;have cX6:hc h6 ⟨h1.size,1,al⟩=K (.int .i64 X.c):=Zn x6;have z6:=Za x6;have pk:=lX T h6 1 X.c 7 60 X.k X.c X.s X.n X.v (tk.Qx B6);obtain⟨DX,hDX⟩:∃D,D=RT 1 X.c 7 60 X:=⟨_,rfl⟩
 have hX2:(if QK 1 X.c 7 60 X.k X.c X.s X.n X.v=0 then Hb 1 X.c 7 60 X.k X.c X.s X.n X.v else [])=DX:=by rw[hDX];rfl
 have pX:QK 1 X.c 7 60 X.k X.c X.s X.n X.v=0:=(KP (i:=1) hP.ex (kq hP.kx) nc (now:=0) nc nc).1;unfold ZcO at pk;rw[hX2,pX]at pk;simp -implicitDefEqProofs only[go_sem,c5,w5,Zv0,l5',cX6,rX6,z6];refine pk.use ?_;rintro _ h7 ⟨⟨wvv,rfl,owX⟩,b7⟩;obtain⟨p7,c7,rfl,_⟩:=owX.bs.open;have B7:Zk h.size h h7:=B6.trans (b7.mono B6.size);have x7:=b7.get (Za x6) x6;have y7:=b7.get (Za y6) y6;have rY7:rd h7 ⟨h3.size,0,al⟩ 5=K Y.C:=Zy y7 rfl;have cY7:hc h7 ⟨h3.size,1,al⟩=K (.int .i64 Y.c):=Zn y7;have z7:=Za y7;have pk:=lX T h7 1 Y.c 7 60 Y.k Y.c Y.s Y.n Y.v (tk.Qx B7);obtain⟨DY,hDY⟩:∃D,D=RT 1 Y.c 7 60 Y:=⟨_,rfl⟩
 have hY2:(if QK 1 Y.c 7 60 Y.k Y.c Y.s Y.n Y.v=0 then Hb 1 Y.c 7 60 Y.k Y.c Y.s Y.n Y.v else [])=DY:=by rw[hDY];rfl
 have pY:QK 1 Y.c 7 60 Y.k Y.c Y.s Y.n Y.v=0:=(KP (i:=1) hP.ey (kq hP.ky) nc (now:=0) nc nc).1;unfold ZcO at pk;rw[hY2,pY]at pk;simp -implicitDefEqProofs only[go_sem,rY7,cY7,z7];refine pk.use ?_;rintro _ h8 ⟨⟨wvv,rfl,owY⟩,b8⟩;obtain⟨p8,c8,rfl,_⟩:=owY.bs.open;simp -implicitDefEqProofs only[go_sem];refine (RS T h8 na 5 wa nc nc).pure ?_;simp -implicitDefEqProofs only[go_sem];refine (RS T h8 nb 5 wb nc nc).pure ?_;simp -implicitDefEqProofs only[go_sem];obtain⟨a,ha⟩:∃a:Nat,OX na 5=a:=⟨(OX na 5).toNat,by have:=X8 na (m:=5) nc;omega⟩
 obtain⟨b,hb⟩:∃b:Nat,OX nb 5=b:=⟨(OX nb 5).toNat,by have:=X8 nb (m:=5) nc;omega⟩
 obtain⟨L,hL⟩:∃L:Nat,OX ld 5=L:=⟨(OX ld 5).toNat,by have:=X8 ld (m:=5) nc;omega⟩
 have a5:a<5:=by have:=X8 na (m:=5) nc;omega
 have b5':b<5:=by have:=X8 nb (m:=5) nc;omega
 have L5:L<5:=by have:=X8 ld (m:=5) nc;omega
 rw[ha,hb];obtain⟨g1,Ns⟩:=ZQ (h8.push (.cells #[Value.int .i64 1,.int .i64 a,.int .i64 0,.int .i64 0,.slice p7 DX.length c7,.int .i64 1,.int .i64 b,.int .i64 0,.int .i64 0,.slice p8 DY.length c8] 36):Hp);rw[<-Ns];have yg1:g1[h8.size]? = K (.cells [Value.int .i64 1,.int .i64 a,.int .i64 0,.int .i64 0,.slice p7 DX.length c7,.int .i64 1,.int .i64 b,.int .i64 0,.int .i64 0,.slice p8 DY.length c8].toArray 36):=by rw[Ns];exact Zc
 have oR:Zk h8.size h8 g1:=by rw[Ns];exact (Zk.refl _ _).add _
 have B8:Zk h.size h h8:=B7.trans (b8.mono B7.size);have Bg1:Zk h.size h g1:=B8.trans (oR.mono B8.size);obtain⟨ys,hys⟩:∃ys:List (Raw × bc),ys=[((⟨1,a,0,0,DX⟩:Raw),Value.slice p7 DX.length c7),((⟨1,b,0,0,DY⟩:Raw),Value.slice p8 DY.length c8)]:=⟨_,rfl⟩
 have t2:Ts Wq 5 g1 (.slice (K ⟨h8.size,0,al⟩) 2 2) ys:=by
  rw[hys];exact⟨⟨_,2,rfl,rfl,fun _=>⟨h8.size,0,rfl,fun i hi=>by rw[Zn yg1,YR,Nat.zero_add];exact au hi⟩⟩⟩
 have i2:∀y∈ys,Pv LC g1 y.2 y.1.data:=fun y hy=>by
  rw[hys]at hy;simp only[a9,bg,or_false]at hy;rcases hy with rfl|rfl
  .exact DU (((owX.Yy b8 (a6 _)).Yy oR (a6 _))) (fun _ _=>rfl)
  .exact DU (owY.Yy oR (a6 _)) (fun _ _=>rfl)
 have hry:Xh ys=SE X Y a b:=by
  rw[hys];unfold Xh SE LP;rw[hDX,hDY];rfl
 have yl:ys.length=2:=by rw[hys];rfl
 obtain⟨lg1,lg2,lg3,tl⟩:=Zee (L:=L) hP a5 b5' L5;have Ae:=(Cd hP a5 b5').1;have Al:(SE X Y a b).length=2:=rfl;obtain⟨A,hA⟩:=ZQ (SE X Y a b);rw[<-hA]at lg1 lg2 lg3 tl Ae Al hry;refine (RS T g1 ld 5 hl nc nc).pure ?_;rw[hL];simp -implicitDefEqProofs only[go_sem];refine (dg T g1 _ ys L L5 t2 i2 nc).use ?_;rintro v4 g4 ⟨q4,_,zs,hrz,t4,i4⟩;rw[hry]at hrz;have Ze:=IQ Ae L5;have Zl:(Xi A L).length<=30000:=by have:=IR (n:=L) (b:=2) (by omega:A.length<=2);omega
 have zl:zs.length<=30000:=by
  have:=congrArg o hrz;unfold Xh at this;rw[bw]at this;omega
 have Q4:Zk h.size h g4:=Bg1.trans (q4.mono Bg1.size);have tb4:=tb.Zf (ZY (FE h) Q4);refine (ZhA T g4 v4 zs t4 i4 tb4 nc (by rw[hrz];exact cZ Ze nc)).use ?_;rw[hrz];rintro _ g5 ⟨⟨lv,tv,vs,rfl,rf⟩,q5⟩;have Q5:Zk h.size h g5:=Q4.trans (q5.mono Q4.size);have hlen:(lng (Js (Xi A L))).length<=40:=by
  rcases BI (Js (Xi A L)) with q|⟨j,hj,q⟩
  .rw[q];exact bd _
  .rw[q];exact ZdR Ze nc j hj
 obtain⟨W,hW⟩:=ZQ (Js (Xi A L));rw[<-hW]at rf hlen lg1 lg2 lg3 tl ⊢;obtain⟨ro,⟨pl,ol,cl,rfl⟩,pt,ct,rfl⟩:=rf.at.ok;obtain⟨R,hR⟩:=ZQ (ju W (.slice (K ⟨pl,ol,al⟩) 5 cl) (.slice pt W.ZE.length ct));rw[<-hR]at ro ⊢;have hRl:=ro.len;have ua:=ro.one;have hRp:=ro.put;have ZdJ:=ro.le;have et:=ro.take;obtain⟨g6,Ly⟩:=ZQ (g5.push (.cells R.toArray 42):Hp);have e6:=Ly.symm;have q6:Zk g5.size g5 g6:=by rw[Ly];exact (Zk.refl _ _).add _
 have yg6:g6[g5.size]? = K (.cells R.toArray 42):=by rw[Ly];exact Zc
 have rg6:rd g6 ⟨g5.size,0,al⟩ 13=K R:=Zy yg6 hRl;have Q6:Zk h.size h g6:=Q5.trans (q6.mono Q5.size);have cl6:=jP T g6 W _ _ vs (rf.Yy q6).at;rw[<-hR]at cl6;simp -implicitDefEqProofs only[go_sem,hRl,ua,hRp,ZdJ,e6,rg6,et];refine cl6.use ?_;rintro v7 g7 ⟨t7,q7⟩;have Q7:Zk h.size h g7:=Q6.trans (q7.mono Q6.size);obtain⟨Lg,hLg⟩:=ZQ (lng W);rw[<-hLg]at t7 hlen lg1 lg2 lg3;have ZdN:∀y∈Lg,y.err=0:=fun y hy=>by rcases lg1 y hy with rfl|rfl|rfl;exact hP.ex;exact hP.ey;rfl
 obtain⟨C1,C2,C3⟩:=kj ZdN;obtain⟨pg7,cg7,rfl,_⟩:=QC t7;have ch:=yq T g7 _ Lg t7 (tk.Qx Q7);rw[if_neg nc,if_neg nc,C1]at ch;simp -implicitDefEqProofs only[go_sem];refine ch.use ?_;rintro _ g8 ⟨⟨wv1,E,D,rfl,hED,oe⟩,q8⟩;simp only[Prod.mk.injEq]at hED;obtain⟨rfl,rfl⟩:=hED;have D40:(U8 Lg).length=40:=YD C2;have SF:=SU C2;have pI:(U8 Lg).take 40=U8 Lg:=Xy D40;obtain⟨PX,PY⟩:=th hP lg1 lg2 lg3;obtain⟨D,hD⟩:=ZQ (U8 Lg);rw[<-hD]at C2 D40 SF pI PX PY ⊢;obtain⟨p8',c8',hwv⟩:=oe.open;subst hwv;obtain⟨g9,hg9⟩:=ZQ (g8.push (.cells D.toArray 55):Hp);have e9:=hg9.symm;have q9:Zk g8.size g8 g9:=by rw[hg9];exact (Zk.refl _ _).add _
 have yg9:g9[g8.size]? = K (.cells D.toArray 55):=by rw[hg9];exact Zc
 simp -implicitDefEqProofs only[go_sem,D40,SF,Z3,pI,e9];have g69:Zk g6.size g6 g9:=q7.trans ((q8.trans (q9.mono q8.size)).mono q7.size);have Q9:Zk h.size h g9:=Q6.trans (g69.mono Q6.size);have o9:Zk h6.size h6 g9:=b7.trans ((b8.trans ((oR.trans ((q4.trans ((q5.trans ((q6.trans (g69.mono q6.size)).mono q5.size)).mono q4.size)).mono oR.size)).mono b8.size)).mono b7.size);have xA:=o9.get (Za x6) x6;have xB:=o9.get (Za y6) y6;have xR:=g69.get (Za yg6) yg6;obtain⟨kx,cx,sx,nx,vx,ea1,ea2,ea3,ea4,ea5,u1,u2,u3,u4,u5⟩:=Xb (show YE X.k X.c X.s X.n X.v=0 from hP.ex);obtain⟨ky,cy,sy,ny,vy,eb1,eb2,eb3,eb4,eb5,z1,z2,z3,z4,z5⟩:=Xb (show YE Y.k Y.c Y.s Y.n Y.v=0 from hP.ey);have cA1:hc g9 ⟨h1.size,1,al⟩=K (.int .i64 cx):=by rw[Zn xA,<-ea2];rfl
 have cA2:hc g9 ⟨h1.size,2,al⟩=K (.int .i64 sx):=by rw[Zn xA,<-ea3];rfl
 have cA3:hc g9 ⟨h1.size,3,al⟩=K (.int .i64 nx):=by rw[Zn xA,<-ea4];rfl
 have cA4:hc g9 ⟨h1.size,4,al⟩=K (.int .i64 vx):=by rw[Zn xA,<-ea5];rfl
 have cB1:hc g9 ⟨h3.size,1,al⟩=K (.int .i64 cy):=by rw[Zn xB,<-eb2];rfl
 have cB2:hc g9 ⟨h3.size,2,al⟩=K (.int .i64 sy):=by rw[Zn xB,<-eb3];rfl
 have cB3:hc g9 ⟨h3.size,3,al⟩=K (.int .i64 ny):=by rw[Zn xB,<-eb4];rfl
 have cB4:hc g9 ⟨h3.size,4,al⟩=K (.int .i64 vy):=by rw[Zn xB,<-eb5];rfl
 have rA:rd g9 ⟨h1.size,0,al⟩ 5=K X.C:=Zy xA rfl;have rB:rd g9 ⟨h3.size,0,al⟩ 5=K Y.C:=Zy xB rfl;have cR:hc g9 ⟨g5.size,12,al⟩=K (.slice pt W.ZE.length ct):=by rw[Zn xR,hR];rfl
 unfold Pd at PX PY;rw[ea2,ea3,ea4,ea5]at PX;rw[eb2,eb3,eb4,eb5]at PY;simp only[J]at PX PY;have dD:∀(i:Nat) (z:Int),i<32->ci D i=z->hc g9 ⟨g8.size,i,al⟩=K (.int .i64 z):=fun i z hi hz=>by
  rw[Zn yg9,<-hz];exact Mb C2 i hi
 have d1:=dD _ _ nc PX.1;have d2:=dD _ _ nc PX.2;have d3:=dD _ _ nc PY.1;have d4:=dD _ _ nc PY.2;have n1:(cx:Int)<8:=nc;have n2:(nx:Int)<8:=nc;have n3:(cy:Int)<8:=nc;have n4:(ny:Int)<8:=nc;have la:=Za xA;have lb:=Za xB;have lD:=Za yg9;have lR:=Za xR;have tl':(W.ZE.length:Int)=2:=nc;have tLg:Ts J2.C 5 g9 (.slice pg7 Lg.length cg7) Lg:=t7.Yy (q8.trans (q9.mono q8.size));have hcX:=ZaZ T g9 _ Lg X tLg nc;rw[decide_eq_true lg2]at hcX;simp only[List.append];refine VS.w (g9.size) [] (.q 0 (.q 1 (.q 2 (.q 3 (.q 4 (.q 5 (.q 6 (.q 7 (.q 8 (.q 9 (.q 10 (.q 11 (.q 12 (.q 13 (.q 14 (.q 15 (.s 16 (.q 17 (.q 18 (.q 19 (.q 20 (.s 21 (.q 22 (.q 23 (.q 24 (.q 25 (.q 26 (.q 27 (.q 28 (.q 29 (.q 30 (.q 31 (.q 32 (.q 33 (.q 34 (.q 35 (.q 36 (.q 37 (.q 38 (.q 39 (.q 40 (.q 41 (.q 42 (.q 43 (.q 44 (.q 45 (.q 46 (.q 47 (.q 48 (.q 49 (.q 50 (.q 51 (.q 52 (.q 53 (.q 54 (.q 55 (.q 56 (.q 57 (.q 58 (.q 59 (.q 60 (.q 61 (.q 62 (.q 63 (.q 64 (.q 65 (.q 66 (.q 67 (.q 68 (.q 69 (.q 70 (.q 71 .nil)))))))))))))))))))))))))))))))))))))))))))))))))))))))))))))))))))))))) mixed uf ?_;simp -implicitDefEqProofs only[go_sem,rA,rB,cA1,cA2,cA3,cA4,cB1,cB2,cB3,cB4,cR,d1,d2,d3,d4,n1,n2,n3,n4,la,lb,lD,lR,tl'];refine hcX.use ?_;rintro _ gA ⟨rfl,bA⟩;have hcY:=ZaZ T gA _ Lg Y (tLg.Yy bA) nc;rw[decide_eq_true lg3]at hcY;simp -implicitDefEqProofs only[go_sem,rA,rB,cA1,cA2,cA3,cA4,cB1,cB2,cB3,cB4,cR,d1,d2,d3,d4,n1,n2,n3,n4,la,lb,lD,lR,tl'];refine⟨bA,hcY.use ?_⟩;rintro _ gB ⟨rfl,bB⟩;have bAB:=bA.trans (bB.mono bA.size);simp -implicitDefEqProofs only[go_sem,rA,rB,cA1,cA2,cA3,cA4,cB1,cB2,cB3,cB4,cR,d1,d2,d3,d4,n1,n2,n3,n4,la,lb,lD,lR,tl'];exact⟨bAB,Q9.trans (bAB.mono Q9.size)⟩
theorem BU{n:Int}(h:(Lit.int H n).wf=true):i64 n:=by
 have h:(decide (IntKind.i64.min<=n)&&decide (n<=IntKind.i64.max))=true:=h;rw[Bool.and_eq_true,decide_eq_true_eq,decide_eq_true_eq,show IntKind.i64.min = -9223372036854775808 from rfl,show IntKind.i64.max=9223372036854775807 from rfl]at h;exact⟨h.1,nc⟩
def TkM(h:Hp):Prop:=Tk h/\BX 1 niv Pf h
theorem TkM.tbs{h:Hp}(t:TkM h):eG LC h:=⟨t.1,t.2,rfl,rfl⟩
theorem Za1{W:World}(h:laidMetH bo [("conclave/sha.numbers", Rows.laid_conclave_sha_numbers),("conclave/order.need", Rows.laid_conclave_order_need)] W):TkM W.heap:=by
 constructor
 .have h1:=h.filter (fun x=>x.1 == "conclave/sha.numbers")
  exact Zgy h1
 .have h1:=h.filter (fun x=>x.1 == "conclave/order.need")
  exact Zcx h1
theorem tj(os:Os)(args:Array bc):laidMetH bo [("conclave/sha.numbers", Rows.laid_conclave_sha_numbers),("conclave/order.need", Rows.laid_conclave_order_need)] ((World.doorLaid bo 87 os).forCall (fun _ _=>0) ⟨#[],args,[]⟩).memory:=
 laidMetH_of_parts3 (fuel:=8) (laidMet_of_run' 8 uf uf) uf uf
end Go.Proofs.YthlfaofofaphfaaGreatDoor
