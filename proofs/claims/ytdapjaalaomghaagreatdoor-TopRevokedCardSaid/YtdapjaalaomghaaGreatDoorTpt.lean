import Derived.Test.YtdapjaalaomghaaGreatDoorTyd
import Derived.Test.YtdapjaalaomghaaGreatDoorChw
import Derived.Test.YtdapjaalaomghaaGreatDoorTzb
import Derived.Test.YtdapjaalaomghaaGreatDoorTxb
import Derived.Test.YtdapjaalaomghaaGreatDoorTab
import Derived.LaidSub
open Go.Value renaming int→O,slice→aU
open Go.IntKind renaming i64→o
open Go.Obj renaming cells→am
open Go.Proofs.Tryz renaming prog→bA
open List renaming length→G,mem_singleton→H,length_append→U,mem_append→aa,getElem?_eq_getElem→ao,length_singleton→aw,drop_append_of_le_length→a7,getD_cons_zero→a8,nil_append→a9,append_assoc→ba,take_append_of_le_length→bb,foldl_cons→bc,length_map→bd,length_nil→be,length_cons→bg,mem_flatMap→bh,take_of_length_le→bk,drop_of_length_le→bl,length_eq_one_iff→bn,mem_iff_getElem→bo,drop_succ_cons→bp,filter_append→br,getElem_mem→bx,filter_nil→bC,drop_zero→bG
open Nat renaming le_refl→ae,zero_le→bf
open Int renaming toNat_natCast→a6
open Option renaming some→al,none→aq
open Decidable renaming not_not→bw
namespace Go.Proofs.YtdapjaalaomghaaGreatDoor
open Go Go.V
set_option linter.all false
variable{many:Nat}
theorem tX(kl:List Nat)(hk:(G kl)=32)(n:Nat)(hn:n<1073741824)(plain:List Nat)(hp:(G plain)<=2000):Wn kl 0 0 JP (TB kl n plain)=0:=by
 have hd:(TB kl n plain).drop 4=Rp kl (XM (YH n)) (YH n) plain:=by
  unfold TB;rw[a7 (by show 4<=4;omega),show (YH n).drop 4=[] from rfl,a9]
 have hr:VD (TB kl n plain)=n:=Ch n nT _;have ht:(QB kl (XM (YH n)) (YH n) (Wm kl 1 (XM (YH n)) plain)).length=16:=Sq _ _;have hs:(Rp kl (XM (YH n)) (YH n) plain).length=(G plain)+16:=by
  unfold Rp;rw[U,ht,Ju]
 have hl:(TB kl n plain).length=(G plain)+20:=by
  unfold TB;rw[U,hs];show 4+_=_;omega
 have hc:Ja (G kl) 0 0 JP=0:=by rw[hk];decide
 have hm:EY 0 JP n=false:=by
  unfold EY;rw[decide_eq_false nT,decide_eq_false nT];rfl
 unfold Wn;rw[if_neg (by rw[hc];decide),if_neg nT,if_neg nT,hr,if_neg nT,hm,if_neg Iw,hd];unfold Ng J6;have VT:(XM (YH n)).length=12:=rfl;have hhl:(YH n).length=4:=rfl;rw[hk,VT,hhl,hs,if_neg Ig,if_neg nT,Nat.add_sub_cancel,if_neg];simp only[ne_eq,bw];unfold Rp;rw[List.take_left' (Ju _ _ _ _),List.drop_left' (Ju _ _ _ _)]
theorem Zbq{n c r u k s nm v:Nat}(hn:n<=1073741823)(hr:r<=7)(hu:u<=1048576)(ZeK:Y0 k c s nm v=0)(ZiA:KA k r){now:Int}(h0:0<=now)(Zbb:now<=u):
  QL n c r u k c s nm v=0/\YK (Hr n c r u k c s nm v) now=0/\Xl (Hr n c r u k c s nm v) now=⟨k,c,s,nm,v⟩:=by
 obtain⟨k',c',s',n',v',e1,e2,e3,e4,e5,y1,y2,y3,y4,y5⟩:=Jr ZeK;have hk3:k<=3:=nT;have hc7:c<=7:=nT;have hs7:s<=1048576:=nT;have hn7:nm<=7:=nT;have hv7:v<=1073741824:=nT;have ZiB:JM (c:Int) (r:Int) (u:Int)=0:=by
  unfold JM;rw[if_neg nT]
 have hP0:QL n c r u k c s nm v=0:=by
  unfold QL VE;rw[if_neg nT,ZiB];simp[ZeK]
 refine⟨hP0,?_⟩;obtain⟨P,hP⟩:=ZN (ce c r u k c s nm v);have hg:P.take 22=Rt Wo c r u:=by
  rw[hP];unfold ce;rw[bb (by rw[Qn];omega),bk (by rw[Qn];omega)];simp only[a6]
 have hb:P.drop 22=ZB [k,c,s,nm,v]:=by
  rw[hP];unfold ce;rw[a7 (by rw[Qn];omega),bl (by rw[Qn];omega),a9];simp only[a6]
 have hPl:(G P)=42:=by
  rw[hP];unfold ce;rw[U,Qn,ZK];rfl
 have hrc:Hr n c r u k c s nm v=c :: TB (UD c) n P:=by
  unfold Hr;rw[hP];simp only[a6]
 have MG:X7 (c :: TB (UD c) n P)=P:=by
  unfold X7;rw[a8,bp,bG];exact sQ _ _ nT _
 have f:∀(i:Nat) (m:Nat),XD (ZB [k,c,s,nm,v]) i=m/16777216%256*16777216+m/65536%256*65536+m/256%256*256+m%256->m<4294967296->XD (ZB [k,c,s,nm,v]) i=m:=fun i m e hm=>by rw[e];exact RD hm
 have f0:=f 0 k (by simp[XD,ZB,Xj]) nT;have f1:=f 4 c (by simp[XD,ZB,Xj]) nT;have f2:=f 8 s (by simp[XD,ZB,Xj]) nT;have f3:=f 12 nm (by simp[XD,ZB,Xj]) nT;have f4:=f 16 v (by simp[XD,ZB,Xj]) nT;have i0:Xz (P.drop 22) 0=k:=by unfold Xz;rw[hb];exact congrArg _ f0
 have i1:Xz (P.drop 22) 1=c:=by unfold Xz;rw[hb];exact congrArg _ f1
 have i2:Xz (P.drop 22) 2=s:=by unfold Xz;rw[hb];exact congrArg _ f2
 have i3:Xz (P.drop 22) 3=nm:=by unfold Xz;rw[hb];exact congrArg _ f3
 have i4:Xz (P.drop 22) 4=v:=by unfold Xz;rw[hb];exact congrArg _ f4
 have hgl:(Rt Wo c r u).length=22:=Qn _ _ _ _;have g0:(Rt Wo c r u).getD 0 0=c:=rfl;have g1:(Rt Wo c r u).getD 1 0=r:=rfl;have g2:XD (Rt Wo c r u) 2=u:=sR _ _ _ _ nT;have opn:Znn (c :: TB (UD c) n P):=by
  refine⟨uK,?_,?_,by rw[MG];exact hPl,?_,?_,?_⟩
  .rw[a8];unfold Qc;rw[if_neg nT]
  .rw[a8,bp,bG];exact tX _ (OE _) n nT P nT
  .rw[MG,hg];unfold QK;have ht6:(Rt Wo c r u).take 6=bV c r u:=by
    unfold Rt;rw[bb (by show 6<=6;omega),bk (by show 6<=6;omega)]
   have hd6:(Rt Wo c r u).drop 6=(Lp Wo (bV c r u)).take 16:=by
    unfold Rt;rw[a7 (by show 6<=6;omega),bl (by show 6<=6;omega),a9]
   rw[if_neg (by rw[OF,hgl];simp),ht6,hd6,if_neg uK,g0,g1,g2];exact ZiB
  .rw[MG,hb];unfold Qq;rw[if_pos (by rw[ZK];rfl),f0,f1,f2,f3,f4];exact ZeK
  .rw[MG,i0,i1,a8];exact fun q=>q.2 rfl
 have hA:BP (X7 (c :: TB (UD c) n P)) now=0:=by
  rw[MG];unfold BP;rw[hg,g0,g1,g2,i0,i1,i2,i3,i4];unfold Rq;rw[if_neg (by rw[ZiB];simp),if_neg (by rw[ZeK];simp),if_neg (by simp only[a6,ne_eq,not_or,bw];exact⟨ZiA,trivial⟩),if_neg nT]
 have ZnB:YK (c :: TB (UD c) n P) now=0:=(Ga _ _).2 ⟨opn,hA⟩;rw[hrc];refine⟨ZnB,?_⟩;unfold Xl;rw[if_pos ZnB,MG,i0,i1,i2,i3,i4]
set_option maxRecDepth 100000
theorem tZ:∀(l:List Cm) (st:bY),Fp st->(Pa st l).1=0->Xa JO (Pa st l).2.cs=true:=by
 intro l
 induction l with
 | nil=>intro st ok _;exact ok.fit
 | cons x l ih=>
  intro st ok h;by_cases q:UO st.cs x=0
  .rw[LH q]at h ⊢;exact ih _ (H4 ok q).1 h
  .rw[KD q]at h;exact absurd h q
theorem kS{l:List Cm}(h:∀x∈l,x.err=0):Pc l=0/\Xa JO (SO l)=true/\(Ms l).length=(G l):=by
 have e:=I0 h;refine⟨e,?_,?_⟩
 .unfold SO;rw[if_pos e];exact tZ l Fo HY e
 .unfold Ms;rw[if_pos e,yS l Fo e];show 0+(G l)=_;omega
theorem kT{l:List Raw}{n:Nat}:∃k,Jw l n many=l++k/\∀x∈k,x.k≠8/\x.k≠1:=by
 have s9:∀x∈XZ 5,x.k≠8/\x.k≠1:=fun x hx=>by
  obtain⟨n,_,rfl⟩:=Pk hx;exact⟨(by decide:(9:Int)≠8),(by decide:(9:Int)≠1)⟩
 have sm:∀k,∀x∈Ul k,x.k≠8/\x.k≠1:=fun k x hx=>by
  rcases L9 hx with⟨n,_,rfl⟩|rfl
  .exact⟨(by decide:(3:Int)≠8),(by decide:(3:Int)≠1)⟩
  .exact⟨(by decide:(7:Int)≠8),(by decide:(7:Int)≠1)⟩
 refine⟨XZ 5++Ul 0++[Xf n]++XZ 5++Ul many,?_,fun x hx=>?_⟩
 .unfold Jw Qt;simp only[ba]
 .simp only[aa,H]at hx;rcases hx with (((hx|hx)|rfl)|hx)|hx
  .exact s9 x hx
  .exact sm 0 x hx
  .exact⟨(by decide:(2:Int)≠8),(by decide:(2:Int)≠1)⟩
  .exact s9 x hx
  .exact sm many x hx
theorem Zbr(i:Nat)(x:Cm)(r u:Int):(Ab i x.c r u x).length<=2000:=by
 unfold Ab;split
 .unfold Hr TB Rp;rw[bg,U,U,Ju];have ht:(QB (UD x.c.toNat) (XM (YH ((i:Int).toNat))) (YH ((i:Int).toNat)) (Wm (UD x.c.toNat) 1 (XM (YH ((i:Int).toNat))) (ce x.c r u x.k x.c x.s x.n x.v))).length=16:=Sq _ _;rw[ht];unfold ce;rw[U,Qn,ZK];show 4+(22+4*5+16)+1<=2000;omega
 .exact bf _
section
variable {x:Cm} {ns:List Nat}
end
structure uI(w:Wd):Prop where
 up:∀i,i<5->(w.Zb i).up=true
 me:∀i,i<5->(w.Zb i).me=i
 nw:∀i,i<5->NWt (w.Zb i)
 st:∀i,i<5->(w.Zb i).store=T9 (w.Zb i).Zw
structure TW(w v:Wd):Prop where
 Zw:∀i,i<5->∃e,(v.Zb i).Zw=(w.Zb i).Zw++e
 ZA:∃ts,v.ZA=w.ZA++ts/\∀t∈ts,∃i x pre e,i<5/\(v.Zb i).Zw=pre++x :: e/\x∈(w.Zb i).Zi/\t=Zbp i (T9 pre) x
 sum:v.ZA.length+VF (fun i=>(v.Zb i).Zi.length)=w.ZA.length+VF (fun i=>(w.Zb i).Zi.length)
 sub:∀i,i<5->∀x∈(v.Zb i).Zi,x∈(w.Zb i).Zi
theorem TW.refl(w:Wd):TW w w:=⟨fun _ _=>⟨[],uK⟩,⟨[],uK,fun t h=>by cases h⟩,rfl,fun _ _ _ h=>h⟩
theorem TW.trans{u v w:Wd}(h:TW u v)(k:TW v w):TW u w:=by
 obtain⟨ts,h1,h2⟩:=h.ZA;obtain⟨us,k1,k2⟩:=k.ZA;refine⟨fun i hi=>?_,⟨ts++us,by rw[k1,h1,ba],fun t ht=>?_⟩,by rw[k.sum,h.sum],fun i hi x hx=>h.sub i hi x (k.sub i hi x hx)⟩
 .obtain⟨e1,g1⟩:=h.Zw i hi;obtain⟨e2,g2⟩:=k.Zw i hi;exact⟨e1++e2,by rw[g2,g1,ba]⟩
 .rcases aa.1 ht with ht|ht
  .obtain⟨i,x,pre,e,hi,a1,a2,a3⟩:=h2 t ht;obtain⟨e2,g2⟩:=k.Zw i hi;exact⟨i,x,pre,e++e2,hi,by rw[g2,a1];simp,a2,a3⟩
  .obtain⟨i,x,pre,e,hi,a1,a2,a3⟩:=k2 t ht;exact⟨i,x,pre,e,hi,a1,h.sub i hi x a2,a3⟩
theorem At{w v:Wd}(ht:v.ZA=w.ZA)(h:∀i,i<5->(v.Zb i).up=(w.Zb i).up/\(v.Zb i).me=(w.Zb i).me/\(v.Zb i).Zw=(w.Zb i).Zw/\(v.Zb i).Zi=(w.Zb i).Zi/\(v.Zb i).store=(w.Zb i).store)(W:uI w):uI v/\TW w v:=by
 refine⟨⟨fun i hi=>by rw[(h i hi).1];exact W.up i hi,fun i hi=>by rw[(h i hi).2.1];exact W.me i hi,fun i hi=>?_,fun i hi=>?_⟩,⟨fun i hi=>⟨[],by rw[(h i hi).2.2.1];simp⟩,⟨[],by rw[ht];simp,fun t h=>by cases h⟩,?_,fun i hi x hx=>by rw[(h i hi).2.2.2.1]at hx;exact hx⟩⟩
 .unfold NWt;rw[(h i hi).2.2.1,(h i hi).2.2.2.1];exact W.nw i hi
 .rw[(h i hi).2.2.1,(h i hi).2.2.2.2];exact W.st i hi
 .rw[ht];have q:∀i,i<5->(v.Zb i).Zi=(w.Zb i).Zi:=fun i hi=>(h i hi).2.2.2.1;simp only[VF,q 0 nT,q 1 nT,q 2 nT,q 3 nT,q 4 nT]
def ff(a:Ac):Prop:=(a.ZR=2\/a.ZR=3\/a.ZR=7\/a.ZR=9)/\a.ZV<5
theorem ZiC{w:Wd}{a:Ac}(hk:ff a)(W:uI w):uI (act w a)/\TW w (act w a):=by
 obtain⟨hk,hn⟩:=hk;rcases hk with k|k|k|k
 .have e:act w a=w.set a.ZV (lead (w.Zb a.ZV)):=by unfold act;rw[if_neg nT,if_pos k]
  rw[e];refine At rfl (fun i hi=>?_) W;rw[JX];by_cases q:i=a.ZV
  .rw[if_pos q,q];unfold lead;split<;>exact⟨rfl,rfl,rfl,rfl,rfl⟩
  .rw[if_neg q];exact⟨rfl,rfl,rfl,rfl,rfl⟩
 .have e:act w a=w.out a.ZV (step (w.Zb a.ZV)):=by unfold act;rw[if_neg nT,if_neg nT,if_pos k]
  rw[e];have S:=ZeJ (w.Zb a.ZV);have su:(step (w.Zb a.ZV)).n.up=(w.Zb a.ZV).up:=(KW (w.Zb a.ZV)).1;have hx:∀i,i<5->Wt (w.Zb i) ((w.out a.ZV (step (w.Zb a.ZV))).Zb i) (if i=a.ZV then (step (w.Zb a.ZV)).ts else []):=fun i hi=>by
   rw[FX];by_cases q:i=a.ZV
   .rw[if_pos q,if_pos q,q];exact S
   .rw[if_neg q,if_neg q];exact .refl _
  refine⟨⟨fun i hi=>?_,fun i hi=>by rw[(hx i hi).me];exact W.me i hi,fun i hi=>(hx i hi).nw (W.nw i hi),fun i hi=>(hx i hi).st (W.st i hi)⟩,⟨fun i hi=>(hx i hi).Zw,⟨(step (w.Zb a.ZV)).ts,rfl,fun t ht=>?_⟩,?_,fun i hi=>(hx i hi).sub⟩⟩
  .rw[FX];by_cases q:i=a.ZV
   .rw[if_pos q,su,<-q];exact W.up i hi
   .rw[if_neg q];exact W.up i hi
  .obtain⟨x,pre,e,h1,h2,h3⟩:=S.ZA (W.st _ hn) t ht;refine⟨a.ZV,x,pre,e,hn,?_,h2,by rw[h3,W.me _ hn]⟩;rw[FX,if_pos rfl];exact h1
  .have h1:=RC w a.ZV (step (w.Zb a.ZV)).n (fun n=>n.Zi.length) hn;have h2:=S.len;show (w.ZA++(step (w.Zb a.ZV)).ts).length+VF (fun i=>(if i=a.ZV then (step (w.Zb a.ZV)).n else w.Zb i).Zi.length)=_;rw[U];omega
 .have e:act w a=w.Zo.foldl Q0 { w with Zo:=[] }:=by
   unfold act;rw[if_neg nT,if_neg nT,if_neg nT,if_neg nT,if_pos k]
  rw[e];have ht:∀(ls:List YF) (w:Wd),(ls.foldl Q0 w).ZA=w.ZA:=by
   intro ls
   induction ls with
   | nil=>intro w;rfl
   | cons l ls ih=>intro w;rw[bc,ih];unfold Q0;split<;>rfl
  refine At (ht _ _) (fun i hi=>?_) W;rw[dO];split<;>exact⟨rfl,rfl,rfl,rfl,rfl⟩
 .have e:act w a=w.set a.ZV (started a.ZV (w.Zb a.ZV)):=by
   unfold act;rw[if_neg nT,if_neg nT,if_neg nT,if_neg nT,if_neg nT,if_neg nT]
  rw[e];refine At rfl (fun i hi=>?_) W;rw[JX];by_cases q:i=a.ZV
  .rw[if_pos q];unfold started;rw[if_pos (W.up _ hn),q];exact⟨rfl,rfl,rfl,rfl,rfl⟩
  .rw[if_neg q];exact⟨rfl,rfl,rfl,rfl,rfl⟩
theorem ZeL:∀(l:List Ac) (w:Wd),(∀a∈l,ff a)->uI w->uI (l.foldl act w)/\TW w (l.foldl act w):=by
 intro l
 induction l with
 | nil=>intro w _ W;exact⟨W,.refl w⟩
 | cons a l ih=>
  intro w hl W;obtain⟨h1,h2⟩:=ZiC (hl a uK) W;obtain⟨h3,h4⟩:=ih (act w a) (fun b hb=>hl b (by simp[hb])) h1;exact⟨h3,h2.trans h4⟩
theorem t9{l:List Raw}{n:Nat}(hn:n<5):∃k,Jw l n many=l++k/\∀x∈k,ff x.ac:=by
 have s9:∀x∈XZ 5,ff x.ac:=fun x hx=>by
  obtain⟨n,hn,rfl⟩:=Pk hx;exact⟨.inr (.inr (.inr rfl)),by show ((n:Nat):Int).toNat<5;omega⟩
 have sm:∀k,∀x∈Ul k,ff x.ac:=fun k x hx=>by
  rcases L9 hx with⟨n,hn,rfl⟩|rfl
  .exact⟨.inr (.inl rfl),by show ((n:Nat):Int).toNat<5;omega⟩
  .exact⟨.inr (.inr (.inl rfl)),Iw⟩
 refine⟨XZ 5++Ul 0++[Xf n]++XZ 5++Ul many,?_,fun x hx=>?_⟩
 .unfold Jw Qt;simp only[ba]
 .simp only[aa,H]at hx;rcases hx with (((hx|hx)|rfl)|hx)|hx
  .exact s9 x hx
  .exact sm 0 x hx
  .exact⟨.inl rfl,by show ((n:Nat):Int).toNat<5;omega⟩
  .exact s9 x hx
  .exact sm many x hx
theorem Gb{l:List Raw}{n:Nat}(hn:n<5)(W:uI (Xc l)):uI (Xc (Jw l n many))/\TW (Xc l) (Xc (Jw l n many)):=by
 obtain⟨k,e,hk⟩:=t9 (l:=l) (many:=many) hn;rw[e,Pm];exact ZeL _ _ (fun a ha=>by
  obtain⟨x,hx,rfl⟩:=List.mem_map.1 ha;exact hk x hx) W
section
variable {S:Cm->Prop} {C:List Cm} {b:Yn} {L T:Nat} {w:Nat->Wd} {g:Nat->Gh} {M:Nat->Nat->Yn}
theorem Yj.ZiD(tr:Yj S C b L T w g M){X Y:Nat}(hX:X<5)(hY:Y<5)(ho:∀X,X<5->((w 0).Zb X).Zm.p=b):∀m,m<=((w 0).Zb Y).Zw.length->∀t,t<=T->Ct w t (7*m)->m<=((w t).Zb X).Zw.length:=by
 intro m
 induction m with
 | zero=>intro _ t _ _;exact bf _
 | succ m ih=>
  intro hm t ht hc;obtain⟨a,ha,c1,c2⟩:=Ct.split (w:=w) t (7*m) 7 (by rw[show 7*m+7=7*(m+1) by omega];exact hc);have h1:=ih nT a nT c1;have tr2:=tr.sh (a:=a) nT;have h40:=((tr.at 0).nd Y hY).ni.KQ;have hk0:Has ((w 0).Zb Y).Zh (m:Int):=fun q=>by
   have:=((tr.at 0).nd Y hY).ni.Zw m nT;rw[q]at this;cases this
  have hk:Has ((w a).Zb Y).Zh (m:Int):=tr.stays (Z:=fun t=>Has ((w t).Zb Y).Zh (m:Int)) (fun t _ h=>tr.Wz hY h) hk0 a (bf _) nT;have:=tr2.X8 hX hY (s:=m) nT (fun X hX=>tr.Znz ho hX a nT) hk h1 (t-a) nT c2;have e2:Go.Proofs.YtdapjaalaomghaaGreatDoor.sh w a (t-a)=w t:=by show w (a+(t-a))=w t;rw[show a+(t-a)=t by omega]
  rw[e2]at this;exact this
end
theorem fg{A:List Raw}(hA:∀x∈A,x.err=0)(hF:Pv (Xc A))(hl:(G A)<=100){L:Nat}(hL:L<5){Q:List Cm}(hQ:∀x,Px A x->x∈Q)(ur:many<=2000):∃S C g M,Clean S C (RK L) L many (fun t=>QM t (act (Xc A) (Xf L).ac)) g M 0 Q/\Un (RK L) L (act (Xc A) (Xf L).ac) /\
  (∀X x,x∈((Xc A).Zb X).Zr->TM x ((act (Xc A) (Xf L).ac).Zb X))/\Xc (Jw A L many)=QM many (act (Xc A) (Xf L).ac):=by
 obtain⟨h1,_,h2⟩:=Pw hF L;have A':∀x∈A++[Xf L],x.err=0:=fun y hy=>by
  rcases aa.1 hy with hy|hy
  .exact hA y hy
  .rw[H.1 hy];exact Ah hL
 have ew:Xc (A++[Xf L])=act (Xc A) (Xf L).ac:=by rw[Pm];rfl
 obtain⟨g0,M0,k,T0,W⟩:=Ap A' (by rw[U,aw];omega);rw[ew]at T0 W;have hS:∀x,Px (A++[Xf L]) x->Px A x:=fun x ⟨a,ha,hk,h⟩=>by
  rcases aa.1 ha with ha|ha
  .exact⟨a,ha,hk,h⟩
  .rw[H.1 ha]at hk;cases hk
 obtain⟨pw,un⟩:=Zbn hF hL W;have hC:(UE [] :: (A++[Xf L]).map fun x=>UE x.data).length<=100000:=by rw[bg,bd,U,aw];omega
 obtain⟨g,M,_,tr⟩:=nM hC uK (eW hL) hL rfl (fun y hy=>by
  obtain⟨a,_,_,q,rfl⟩:=hS y hy;exact nF q) W T0 pw (T:=many) (fun X hX=>by
  have:((act (Xc A) (Xf L).ac).Zb X).data=[]:=by
   rw[h2 X];split
   .exact (hF.nd L).data
   .exact (hF.nd X).data
  rw[this];simp only[be];omega)
 have KN:((act (Xc A) (Xf L).ac).Zb L).Zw=[]:=by rw[h2 L,if_pos rfl];exact (hF.nd L).Zw
 have H5:∀X,((act (Xc A) (Xf L).ac).Zb X).Zf=[]:=fun X=>by
  rw[h2 X];split
  .exact (hF.nd L).Zf
  .exact (hF.nd X).Zf
 have c:Clean (Px (A++[Xf L])) (UE [] :: (A++[Xf L]).map fun x=>UE x.data) (RK L) L many (fun t=>QM t (act (Xc A) (Xf L).ac)) g M 0 Q:=
  ⟨tr,fun X _=>Zbo hF _ X,fun X _ l hl=>(by
   have hl:l∈((act (Xc A) (Xf L).ac).Zb X).Zf:=hl;rw[H5]at hl;cases hl),fun l hl=>(by
   have hl:l∈(act (Xc A) (Xf L).ac).Zo:=hl;rw[h1]at hl;cases hl),(by show 0=((act (Xc A) (Xf L).ac).Zb L).Zw.length;rw[KN];rfl),fun y _=>(by
   show y ∉ ((act (Xc A) (Xf L).ac).Zb L).Zw;rw[KN];simp),fun r hr s=>(by
   have hr:((act (Xc A) (Xf L).ac).Zb L).Zg=al r:=hr;rw[h2 L,if_pos rfl]at hr;obtain rfl:=Option.some.inj hr;rfl),fun y hy=>.inl (hQ y (hS y hy))⟩
 refine⟨_,_,_,_,c,un,fun X x hx=>?_,Ej A L many (fun i hi=>(hF.nd i).up) (fun i hi=>(pw.nd i hi).up)⟩;rw[h2 X];split
 .rename_i q;rw[q]at hx;exact .inl hx
 .exact .inl hx
def Hj(b:Yn)(l:YF):Prop:=l.ZR=5\/l.ZR=7->¬ZE b l.b
theorem fh(n:Nd):(Z2 (Zn n)).n.Z8=n.Z8/\(Z2 (Zn n)).n.Zm=n.Zm:=by
 have hs:(Zn n).Z8=n.Z8/\(Zn n).Zm=n.Zm:=by
  rcases U9 n with⟨_,e⟩|⟨_,_,_,e⟩|⟨_,_,_,e⟩<;>rw[e]<;>exact⟨rfl,rfl⟩
 have hd:(Z2 (Zn n)).n.Z8=(Zn n).Z8/\(Z2 (Zn n)).n.Zm=(Zn n).Zm:=by
  unfold Z2;split
  .unfold Js
   repeat' split
   all_goals exact⟨rfl,rfl⟩
  .split<;>exact⟨rfl,rfl⟩
 exact⟨by rw[hd.1,hs.1],by rw[hd.2,hs.2]⟩
theorem I7(n:Nd):∀l∈(Z2 (Zn n)).ls,l.ZR=0\/l.ZR=2\/l.ZR=4:=fun l hl=>by
 have fwd:∀n:Nd,∀l∈U3 n,l.ZR=4:=fun n l hl=>by
  unfold U3 at hl;obtain⟨x,_,rfl⟩:=List.mem_map.1 hl;rfl
 unfold Z2 at hl;split at hl
 .unfold Js at hl;split at hl
  .split at hl<;>cases hl
  .split at hl
   .unfold SP at hl;obtain⟨m,_,hm⟩:=bh.1 hl;split at hm
    .rw[H.1 hm];exact .inl rfl
    .cases hm
   .unfold Wr at hl;obtain⟨s,_,hs⟩:=bh.1 hl;unfold WU at hs;split at hs
    .split at hs
     .obtain⟨m,_,hm⟩:=bh.1 hs;unfold Pe at hm;split at hm
      .rw[H.1 hm];exact .inr (.inl rfl)
      .cases hm
     .cases hs
    .cases hs
 .split at hl
  .exact .inr (.inr (fwd _ l hl))
  .cases hl
section
variable {C:List Cm} {b:Yn} {L X:Nat}
theorem ZeM(hX:X<5)(hC:(G C)<=100000)(hb:ZD b):Laws (fun n=>PN C b L X n/\¬ZE b n.Z8) (fun l=>PJ C b l/\Hj b l) (fun l=>PJ C b l/\Hj b l):=by
 have W:=JH (C:=C) (b:=b) (L:=L) (X:=X) hX hC hb;refine⟨fun n k h=>⟨W.box n k h.1,h.2⟩,fun n l h hp hl=>?_,fun n h hp=>?_,fun n p h hp=>?_⟩
 .obtain⟨h1,h2⟩:=W.ku n l h.1 hp hl.1;have hg:∀(k:Nat) (n:Nd),(Ye k n).1.Z8=n.Z8:=by
   intro k
   induction k with
   | zero=>intro n;rfl
   | succ k ih=>
    intro n;unfold Ye;split
    .rfl
    .exact ih _
  have hln:∀(n:Nd) s x,(X8 n s x).n.Z8=n.Z8:=fun n s x=>hg _ _;have hn:(l.ZR=5\/l.ZR=7)->¬ZE b (Xk n l).Z8:=fun k=>by
   unfold Xk;split
   .exact hl.2 k
   .exact h.2
  have key:¬ZE b (Zu n l).n.Z8/\∀m∈(Zu n l).ls,Hj b m:=by
   unfold Zu;split
   .unfold YA;split
    .refine⟨h.2,fun m hm=>?_⟩;rw[H.1 hm];exact fun _=>h.1.Zm
    .split
     .refine⟨h.2,fun m hm=>?_⟩;rw[H.1 hm];exact fun k=>by rcases k with k|k<;>cases k
     .split
      .exact⟨h.2,fun m hm=>by cases hm⟩
      .exact⟨h.2,fun m hm=>by cases hm⟩
   split
   .unfold Ym
    cases hr:n.Zg with
    | none=>exact⟨h.2,fun m hm=>by cases hm⟩
    | some r=>
     simp only;split
     .split
      .exact⟨h.2,fun m hm=>by cases hm⟩
      .exact⟨h.2,fun m hm=>by cases hm⟩
     .split
      .exact⟨h.2,fun m hm=>by cases hm⟩
      .split
       .exact⟨by rw[hln];exact h.2,fun m hm=>by cases hm⟩
       .exact⟨h.2,fun m hm=>by cases hm⟩
   split
   .unfold asked;split
    .refine⟨h.2,fun m hm=>?_⟩;rw[H.1 hm];exact fun _=>h.1.Zm
    .split
     .refine⟨h.2,fun m hm=>?_⟩;rw[H.1 hm];exact fun k=>by rcases k with k|k<;>cases k
     .split
      .exact⟨h.2,fun m hm=>by cases hm⟩
      .exact⟨h.2,fun m hm=>by cases hm⟩
   split
   .refine⟨?_,fun m hm=>by cases hm⟩;show ¬ZE b (add n l.v.cm).Z8;unfold add;split<;>exact h.2
   split
   .rename_i k5;unfold Qd;split
    .refine⟨hn (.inl k5),fun m hm=>?_⟩;rw[H.1 hm];exact fun k=>by rcases k with k|k<;>cases k
    .exact⟨hn (.inl k5),fun m hm=>by cases hm⟩
   split
   .exact⟨by rw[hln];exact h.2,fun m hm=>by cases hm⟩
   .rename_i k0 k1 k2 k4 k5 k6;refine⟨?_,fun m hm=>by cases hm⟩;by_cases k7:l.ZR=7
    .exact hn (.inr k7)
    .have hk:=hl.1.li.ZR;omega
  exact⟨⟨h1,key.1⟩,fun m hm=>⟨h2 m hm,key.2 m hm⟩⟩
 .obtain⟨h1,h2⟩:=W.kv n h.1 hp;obtain⟨e1,e2⟩:=fh n;have hh:(Yi n).n.Z8=n.Z8:=by
   unfold Yi;split
   .exact e1
   .exact e1
  refine⟨⟨h1,by rw[hh];exact h.2⟩,fun m hm=>⟨h2 m hm,?_⟩⟩;unfold Yi at hm;split at hm
  .intro k;rcases I7 n m hm with q|q|q<;>omega
  .rcases aa.1 hm with hm|hm
   .intro k;rcases I7 n m hm with q|q|q<;>omega
   .unfold QZ at hm;split at hm
    .rw[H.1 hm];intro _;show ¬ZE b (Ws (JD (Z2 (Zn n)).n));unfold Ws JD;simp only;rw[e1,e2];split
     .exact h.2
     .exact h.1.Zm
    .cases hm
 .obtain⟨h1,h2⟩:=W.fin n p h.1 hp;refine⟨⟨h1,?_⟩,fun m hm=>⟨h2 m hm,?_⟩⟩
  .cases p<;>exact h.2
  .cases p with
   | Vy a to b' vs=>rw[H.1 hm];exact fun k=>by rcases k with k|k<;>cases k
   | TC a to v=>rw[H.1 hm];exact fun k=>by rcases k with k|k<;>cases k
   | Zm a vs cur=>cases hm
theorem Zbs:∀(k:List YF) (n:Nd),n.Zp=aq->(∀l∈k,l.ZR≠0/\l.ZR≠2)->(Zy n k).n.Zp=aq:=by
 intro k
 induction k with
 | nil=>intro n h _;exact h
 | cons l k ih=>
  intro n h hk;unfold Zy;rw[if_neg (by rw[h];decide)];refine ih _ ?_ (fun m hm=>hk m (by simp[hm]));have hl:=hk l uK;rcases (Xu { n with Zf:=k } l).2 with q|q|q
  .rw[q.Zp];exact h
  .exact absurd q.1 hl.1
  .exact absurd q.1 hl.2
theorem kU{n:Nd}(h:PN C b L L n)(hp:n.Zp=aq)(hb:n.Zm.p=b){r:Xw}(hr:n.Zg=al r)(hq:5<2*r.ZF.length)(DQ:r.Xg=true)(hqu:n.Zr=[])(hk:∀s x,Yg r.ZT s=al x->Has n.Zh s):
  (∀m∈(Yi n).ls,m.ZR≠0/\m.ZR≠2)/\(Yi n).n.Zg=al r:=by
 obtain⟨h2,e⟩:=Ti h hp hr;have hR:XJ n r=r:=by unfold XJ;rw[if_pos DQ,hqu];rfl
 have er:Js n r=⟨{ n with Zg:=al r },Wr n r,[]⟩:=by
  unfold Js;rw[if_neg (by rw[hb,h2];exact JW _),if_neg nT,hR]
 have e0:Wr n r=[]:=by
  unfold Wr;rw[List.flatMap_eq_nil_iff];intro s _;unfold WU;split
  .rename_i x hx;rw[if_neg (hk _ x hx)]
  .rfl
 refine⟨fun m hm=>?_,by rw[TN.1,e,er]⟩;unfold Yi at hm;split at hm
 .rw[e,er,e0]at hm;cases hm
 .rw[e,er,e0]at hm;rw[a9]at hm;unfold QZ at hm;split at hm
  .rw[H.1 hm];exact⟨fun k=>(by cases k),fun k=>(by cases k)⟩
  .cases hm
end
def ZiE(L:Nat)(n:Nd):Prop:=∃r,n.Zg=al r/\(∀X:Nat,X<5->X≠L->Has r.ZF X)/\r.Xg=true/\∀s x,Yg r.ZT s=al x->Has n.Zh s
structure Cs(b:Yn)(L:Nat)(w:Wd):Prop where
 Zm:∀X,X<5->(w.Zb X).Zm.p=b
 AC:∀X,X<5->(w.Zb X).Zp=aq
 VN:∀X,X<5->X≠L->(w.Zb X).Zg=aq
 Ub:∀X,X<5->∀l∈(w.Zb X).Zf,l.ZR≠0/\l.ZR≠2
 PI:w.Zo=[]
 done:ZiE L (w.Zb L)
section
variable {S:Cm->Prop} {C:List Cm} {b:Yn} {L T:Nat} {w:Nat->Wd} {g:Nat->Gh} {M:Nat->Nat->Yn} {e:Nat} {Q:List Cm}
theorem Yj.Em(tr:Yj S C b L T w g M){t:Nat}(Zm:∀X,X<5->((w t).Zb X).Zm.p=b)(hc:Clear (w t))(rg:∀X,X<5->X≠L->((w t).Zb X).Zg=aq)(fF:(w t).Zo=[])(hd:ZiE L ((w t).Zb L))(hqu:((w (t+1)).Zb L).Zr=[]):Cs b L (w (t+1)):=by
 -- each ZV behind its Zee
 have D:∀X,X<5->∃d:Nd,PN C b L X d/\d.Zp=aq/\Xs ((w t).Zb X) d/\(∀l∈(step ((w t).Zb X)).ls,l.ZR≠0/\l.ZR≠2\/l∈(Yi d).ls)/\∃k,(w (t+1)).Zb X = { (Yi d).n with Zf:=k }:=fun X hX=>by
  have P:=(tr.at t).nd X hX;have dl:=(JF (JH (C:=C) (b:=b) (L:=L) hX tr.hC tr.hb) ((w t).Zb X).Zf ((w t).Zb X) P ((tr.at t).Ub X hX)).1;have hf:=hc X hX;have hs:=Ui P.up hf;refine⟨_,dl,hf.2,Wa _ _ hf.2,fun l hl=>?_,?_⟩
  .rw[hs]at hl;rcases aa.1 hl with hl|hl
   .exact .inl (Eg _ _ l hl)
   .exact .inr hl
  .rw[tr.nx,Qf _ X hX P.up,hs];exact⟨_,rfl⟩
 have dp:∀X,X<5->∀d:Nd,PN C b L X d->d.Zp=aq->Xs ((w t).Zb X) d->(Yi d).n.Zp=aq/\d.Zm.p=b/\(Yi d).n.Zm=d.Zm:=fun X hX d h hp K=>by
  have ho:d.Zm.p=b:=by rw[K.Zm];exact Zm X hX
  exact⟨El h hp ho,ho,(Yr hp h.Yl).1.Zm⟩
 -- the ZwH
 obtain⟨r,hr,Zbt,DQ,hk⟩:=hd;obtain⟨d,h1,h2,K,h4,k,h5⟩:=D L tr.hL;obtain⟨r1,HU,R⟩:=K.on hr;have hq1:d.Zr=[]:=by
  have:((w (t+1)).Zb L).Zr=d.Zr:=by rw[h5];exact (Yr h2 h1.Yl).1.Zr
  rw[<-this];exact hqu
 have Zbu:∀X:Nat,X<5->X≠L->Has r1.ZF X:=fun X hX We=>R.k.ZF X (Zbt X hX We);have hk1:∀s x,Yg r1.ZT s=al x->Has d.Zh s:=fun s x hs=>K.go.Zh s (hk s x (by rw[<-R.p];exact hs));obtain⟨l1,l2⟩:=kU h1 h2 (dp L tr.hL d h1 h2 K).2.1 HU (Ib tr.hL Zbu) (by rw[R.g];exact DQ) hq1 hk1;have quiet:∀X,X<5->∀l∈(step ((w t).Zb X)).ls,l.ZR≠0/\l.ZR≠2:=fun X hX l hl=>by
  by_cases q:X=L
  .subst q;rcases h4 l hl with q|q
   .exact q
   .exact l1 l q
  .obtain⟨d',g1,g2,K',g4,_,_⟩:=D X hX;rcases g4 l hl with q2|q2
   .exact q2
   .have hA:=(Yr g2 g1.Yl).2 l q2;have AG:¬(l.ZR=0\/l.ZR=2):=fun e=>by
     obtain⟨r',UQ,_⟩:=hA e;obtain⟨r0,h0,_⟩:=K'.back UQ;rw[rg X hX q]at h0;cases h0
    exact⟨fun e=>AG (.inl e),fun e=>AG (.inr e)⟩
 have ml:∀l∈T8 (w t),l.ZR≠0/\l.ZR≠2:=fun l hl=>by
  rcases UG.1 hl with q|⟨i,hi,q⟩
  .rw[fF]at q;cases q
  .exact quiet i hi l q
 refine⟨fun X hX=>?_,fun X hX=>?_,fun X hX We=>?_,fun X hX l hl=>?_,by rw[tr.nx,Ka],?_⟩
 .obtain⟨d',g1,g2,K',_,k',e'⟩:=D X hX;have:=dp X hX d' g1 g2 K';rw[e'];show (Yi d').n.Zm.p=b;rw[this.2.2];exact this.2.1
 .obtain⟨d',g1,g2,K',_,k',e'⟩:=D X hX;rw[e'];exact (dp X hX d' g1 g2 K').1
 .obtain⟨d',g1,g2,K',_,k',e'⟩:=D X hX;have hn:d'.Zg=aq:=by
   cases q:d'.Zg with
   | none=>rfl
   | some r'=>
    obtain⟨r0,h0,_⟩:=K'.back q;rw[rg X hX We]at h0;cases h0
  rw[e'];show (Yi d').n.Zg=aq;rcases (Yr g2 g1.Yl).1.VN with⟨_,q⟩|⟨_,q,_⟩|⟨_,_,q,_⟩
  .exact q
  .rw[hn]at q;cases q
  .rw[hn]at q;cases q
 .have P:=(tr.at t).nd X hX;rw[tr.nx]at hl;rcases (Sy hX P.up).1 hl with q|⟨q,_⟩
  .rw[Dc P.up (hc X hX)]at q;cases q
  .exact ml l q
 .refine⟨r1,?_,Zbu,by rw[R.g];exact DQ,fun s x hs=>?_⟩
  .rw[h5];exact l2
  .rw[h5];show Has (Yi d).n.Zh s;rw[(Yr h2 h1.Yl).1.Zh];exact hk1 s x hs
theorem Cs.clear{b:Yn}{L:Nat}{w:Wd}(q:Cs b L w):Clear w:=fun X hX=>⟨q.AC X hX,Zbs _ _ (q.AC X hX) (q.Ub X hX)⟩
theorem Ct.some{w:Nat->Wd}:∀{t k:Nat},Ct w t (k+1)->∃a,a<t/\Clear (w a):=by
 intro t
 induction t with
 | zero=>intro k h;exact h.elim
 | succ t ih=>
  intro k h;rcases h with h|⟨hc,_⟩
  .obtain⟨a,ha,hc⟩:=ih h;exact⟨a,nT,hc⟩
  .exact⟨t,nT,hc⟩
theorem Yj.ZiF(tr:Yj S C b L T w g M)(h0:Un b L (w 0)):∀t,t<=T->Ct w t 5->((∀X,X<5->((w t).Zb X).Zm.p=b)/\∀X:Nat,X<5->X≠L->PU (fun r=>Has r.ZF X) ((w t).Zb L))/\PU (fun r=>r.Xg=true) ((w t).Zb L):=by
 intro t ht hc;refine⟨tr.Za4 h0 t ht hc.less,?_⟩;refine tr.US (Z':=fun t=>PU (fun r=>r.Xg=true) ((w t).Zb L)) (tr.Za4 h0) (fun t ht h=>tr.S3 (fun r r' k q=>k.Xg q) h) (fun t ht hc h=>?_) t ht hc;obtain⟨d,hd,hp,K,_,k,e⟩:=tr.free tr.hL (hc L tr.hL);obtain⟨r0,hr0,_⟩:=hd.Z1 rfl;have Zbt:∀X:Nat,X<5->X≠L->Has r0.ZF X:=fun X hX We=>by
  obtain⟨r,h1,h2⟩:=h.2 X hX We;obtain⟨r',h3,R⟩:=K.on h1;rw[hr0]at h3;obtain rfl:=Option.some.inj h3;exact R.k.ZF X h2
 have ho:d.Zm.p=b:=by rw[K.Zm];exact h.1 L tr.hL
 have q:=(d7 hd hp ho hr0 (Ib tr.hL Zbt)).1;refine⟨XJ d r0,?_,(OQ d r0 (hd.Yl r0 hr0)).2⟩;rw[e];exact q
end
structure Calm(b:Yn)(L e D:Nat)(w:Wd):Prop where
 up:∀X,X<5->(w.Zb X).up=true
 Zm:∀X,X<5->(w.Zb X).Zm.p=b
 YZ:∀X,X<5->∀v∈(w.Zb X).Zm.l,¬ZE b v.b/\v.Zt<(e:Int)
 AC:∀X,X<5->(w.Zb X).Zp=aq
 tape:∀X,X<5->0<=(w.Zb X).YS/\(w.Zb X).YS<=(w.Zb X).data.length
 VN:∀X,X<5->X≠L->(w.Zb X).Zg=aq
 Z1:∃r,(w.Zb L).Zg=al r/\r.b=b
 Aj:∀X,X<5->Yg (w.Zb X).Zh ((w.Zb X).Zw.length:Int)=aq
 PH:∀X,X<5->¬ZE b (w.Zb X).Z8
 Ub:∀X,X<5->∀l∈(w.Zb X).Zf,(l.ZR≠0/\l.ZR≠2)/\(l.ZR=1->∀v∈l.vs,v.Zt<(e:Int))
 PI:w.Zo=[]
 Zw:e=(w.Zb L).Zw.length
 nq:NQ (w.Zb L)
 lo:1<=b.r/\b.n=L
 hj:∀X,X<5->∀l∈(w.Zb X).Zf,Hj b l
 E9:∀X,X<5->(w.Zb X).data.length<=D
section
variable {S:Cm->Prop} {C:List Cm} {b:Yn} {L T:Nat} {w:Nat->Wd} {g:Nat->Gh} {M:Nat->Nat->Yn} {e:Nat} {Q:List Cm}
theorem Yj.Z8(tr:Yj S C b L T w g M)(h0:∀X,X<5->¬ZE b ((w 0).Zb X).Z8)(j0:∀X,X<5->∀l∈((w 0).Zb X).Zf,Hj b l)(f0:(w 0).Zo=[]):∀t,(∀X,X<5->¬ZE b ((w t).Zb X).Z8)/\(∀X,X<5->∀l∈((w t).Zb X).Zf,Hj b l)/\(w t).Zo=[]:=by
 intro t
 induction t with
 | zero=>exact⟨h0,j0,f0⟩
 | succ t ih=>
  obtain⟨h1,h2,h3⟩:=ih;have EB:∀X,X<5->¬ZE b (step ((w t).Zb X)).n.Z8/\(∀m∈(step ((w t).Zb X)).ls,Hj b m)/\∀l∈(step ((w t).Zb X)).n.Zf,l∈((w t).Zb X).Zf:=fun X hX=>by
   have q:=Va (ZeM (C:=C) (b:=b) (L:=L) hX tr.hC tr.hb) ((tr.at t).nd X hX).up ⟨(tr.at t).nd X hX,h1 X hX⟩ (fun l hl=>⟨(tr.at t).Ub X hX l hl,h2 X hX l hl⟩);exact⟨q.1.2,fun m hm=>(q.2.1 m hm).2,q.2.2⟩
  have hm:∀l∈T8 (w t),Hj b l:=fun l hl=>by
   rcases UG.1 hl with q|⟨i,hi,q⟩
   .rw[h3]at q;cases q
   .exact (EB i hi).2.1 l q
  refine⟨fun X hX=>?_,fun X hX l hl=>?_,by rw[tr.nx,Ka]⟩
  .rw[tr.nx,Qf _ X hX ((tr.at t).nd X hX).up];exact (EB X hX).1
  .rw[tr.nx]at hl;rcases (Sy hX ((tr.at t).nd X hX).up).1 hl with q|⟨q,_⟩
   .exact h2 X hX l ((EB X hX).2.2 l q)
   .exact hm l q
theorem Clean.Zbv(c:Clean S C b L T w g M e Q){x:Cm}{a t:Nat}(hat:a<=t)(ht:t<=T)(h:x∈((w a).Zb L).Zw):x∈((w t).Zb L).Zw:=by
 have tr2:=c.tr.sh (a:=a) nT;obtain⟨f,hf⟩:=tr2.Zbh c.tr.hL (t-a);have e2:Go.Proofs.YtdapjaalaomghaaGreatDoor.sh w a (t-a)=w t:=by show w (a+(t-a))=w t;rw[show a+(t-a)=t by omega]
 rw[e2]at hf;have hf:((w t).Zb L).Zw=((w a).Zb L).Zw++f:=hf;rw[hf];exact aa.2 (.inl h)
theorem Clean.I8(c:Clean S C b L T w g M e Q)(hQ:∀x∈Q,x ∉ ((w 0).Zb L).Zw){a:Nat}(I9:∀x∈Q,x∈((w a).Zb L).Zw){t:Nat}(hat:a<=t)(ht:t<=T):∀r,((w t).Zb L).Zg=al r->∀s x,Yg r.ZT s=al x->Has ((w t).Zb L).Zh s:=by
 intro r hr s x hs;obtain⟨u,hu,heu,hxQ⟩:=(c.ji t ht r hr).of s x hs;obtain⟨i,hi,hx⟩:=bo.1 (c.Zbv hat ht (I9 x hxQ));obtain⟨f,hf⟩:=c.tr.Zbh c.tr.hL t;have hie:e<=i:=by
  by_cases q:e<=i
  .exact q
  .exfalso;refine hQ x hxQ ?_;have ZS:i<((w 0).Zb L).Zw.length:=by rw[<-c.Zw];omega
   have:((w 0).Zb L).Zw[i]=x:=by
    rw[<-hx];simp only[hf];rw[List.getElem_append_left ZS]
   rw[<-this];exact bx ZS
 have TT:=c.tr.ti t ht;obtain⟨Qm,b',hQm,hv⟩:=(TT.nd L c.tr.hL).Zw i x (by rw[ao hi,hx]);obtain⟨j,hj,_⟩:=hQm.meet hQm;have hj5:=hQm.2.1 j hj;have A:=(TT.nd j hj5).acc;rw[Jn ((c.tr.at t).nd j hj5).up]at A;obtain⟨v,FG,bP,_⟩:=A.all _ _ _ (hv j hj);have K:=(c.at t ht).1 j hj5;have hvb:v.b=b:=by
  rcases K.MH v FG with q|q
  .exact q
  .omega
 obtain⟨rT,hrT,hp⟩:=K.YZ v FG hvb;obtain⟨r2,hr2,pH⟩:=c.tr.stays (Z:=fun t=>PU (fun r=>Yg r.ZT s=al x) ((w t).Zb L)) (fun t _ h=>c.tr.S3 (fun r r' k q=>k.ZT _ _ q) h) ⟨r,hr,hs⟩ T ht (ae _);rw[hrT]at hr2;obtain rfl:=Option.some.inj hr2;rw[bP]at hp;have hch:Jf (g T) (i:Int) x:=c.tr.stays (Z:=fun t=>Jf (g t) (i:Int) x) (fun t ht h=>c.tr.If ht h) ((TT.nd L c.tr.hL).Zw i x (by rw[ao hi,hx])) T ht (ae _);have hvx:Yg rT.ZT (i:Int)=al x:=by
  rw[<-c.tr.eI (ae _) ⟨rT,hrT,hp⟩ hch];exact hp
 have:=(c.ji T (ae _) rT hrT).inj s (i:Int) x pH hvx;intro q;have hk:=((c.tr.at t).nd L c.tr.hL).ni.Zw i hi;rw[<-this,q]at hk
 cases hk
theorem Clean.En(c:Clean S C b L T w g M e Q){a:Nat}(I9:∀x∈Q,x∈((w a).Zb L).Zw){t:Nat}(hat:a<=t)(ht:t<=T):((w t).Zb L).Zr=[]:=by
 cases q:((w t).Zb L).Zr with
 | nil=>rfl
 | cons x k=>
  exfalso;have hx:x∈((w t).Zb L).Zr:=by rw[q];simp
  have hS:=((c.tr.ti t ht).nd L c.tr.hL).AB x hx;refine c.nq t x hx ?_;rcases c.Zny x hS with h|h
  .exact c.Zbv hat ht (I9 x h)
  .exact c.Zbv (bf _) ht h
theorem Clean.calm(c:Clean S C b L T w g M e Q)(un:Un b L (w 0))(hQ:∀x∈Q,x ∉ ((w 0).Zb L).Zw){a:Nat}(ha:a<=T)(ye:0<a)(h5:Ct w a 5)(I9:∀x∈Q,x∈((w a).Zb L).Zw)(h1:Ct (sh w a) (T-a) 1)(h0:∀X,X<5->¬ZE b ((w 0).Zb X).Z8)(j0:∀X,X<5->∀l∈((w 0).Zb X).Zf,Hj b l)(f0:(w 0).Zo=[]){D:Nat}(hD:∀X,X<5->((w T).Zb X).data.length<=D):Calm b L ((w T).Zb L).Zw.length D (w T):=by
 have tr:=c.tr;have PH:=tr.Z8 h0 j0 f0;obtain⟨⟨o5,p5⟩,g5⟩:=tr.ZiF un a ha h5;have Zm:∀t,a<=t->t<=T->∀X,X<5->((w t).Zb X).Zm.p=b:=fun t h1 h2 X hX=>tr.stays (Z:=fun t=>((w t).Zb X).Zm.p=b) (fun t ht h=>tr.Pq hX h ht) (o5 X hX) t h1 h2;have ZwI:∀t,a<=t->t<=T->ZiE L ((w t).Zb L):=fun t h1 h2=>by
  obtain⟨r,hr,hb⟩:=tr.stays (Z:=fun t=>PU (fun r=>r.Xg=true) ((w t).Zb L)) (fun t _ h=>tr.S3 (fun r r' k q=>k.Xg q) h) g5 t h1 h2;refine⟨r,hr,fun X hX We=>?_,hb,fun s x hs=>c.I8 hQ I9 h1 h2 r hr s x hs⟩;obtain⟨r',UQ,hp⟩:=tr.stays (Z:=fun t=>PU (fun r=>Has r.ZF X) ((w t).Zb L)) (fun t _ h=>tr.S3 (fun r r' k q=>k.ZF _ q) h) (p5 X hX We) t h1 h2;rw[hr]at UQ;obtain rfl:=Option.some.inj UQ;exact hp
 obtain⟨d,hd,JS⟩:=h1.some;have JS:Clear (w (a+d)):=JS;have rg:∀t,t<=T->∀X,X<5->X≠L->((w t).Zb X).Zg=aq:=fun t ht X hX We=>((c.at t ht).1 X hX).VN We;have q1:Cs b L (w (a+d+1)):=tr.Em (Zm _ nT nT) JS (rg _ nT) (PH _).2.2 (ZwI _ nT nT) (c.En I9 nT nT);have qT:Cs b L (w T):=(tr.stays (Z:=fun t=>Cs b L (w t)/\a<=t) (fun t ht h=>⟨tr.Em h.1.Zm h.1.clear h.1.VN h.1.PI h.1.done (c.En I9 nT nT),nT⟩) ⟨q1,nT⟩ T nT (ae _)).1;have P:=tr.at T;obtain⟨cn,cj,_⟩:=c.at T (ae _);obtain⟨rT,hrT,LN⟩:=(P.nd L tr.hL).Z1 rfl;have lt:∀(v:Vt),(v.b=b->PbT L T w v.Zt v.cm)->(v.b=b\/v.Zt<e)->v.Zt<(((w T).Zb L).Zw.length:Int):=fun v h1 h2=>by
  obtain⟨f,hf⟩:=tr.Zbh tr.hL T;have hle:e<=((w T).Zb L).Zw.length:=by rw[c.Zw,hf,U];omega
  rcases h2 with h2|h2
  .obtain⟨r,hr,hp⟩:=h1 h2;rw[hrT]at hr;obtain rfl:=Option.some.inj hr;have J:=c.ji T (ae _) rT hrT;obtain⟨u,hu,heu,_⟩:=J.of _ _ hp;have kn:=c.I8 hQ I9 ha (ae _) rT hrT;have:=(P.nd L tr.hL).Eh (s:=u) fun z hz=>by
    by_cases q:z<((w T).Zb L).Zw.length
    .intro hn;have:=(P.nd L tr.hL).ni.Zw z q;rw[hn]at this;cases this
    .by_cases qz:z=u
     .rw[qz,<-hu];exact kn _ _ hp
     .have hg:=J.Aj u z (by unfold Has;rw[<-hu,hp];simp) nT nT;unfold Has at hg
      cases q2:Yg rT.ZT (z:Int) with
      | none=>exact absurd q2 hg
      | some y=>exact kn _ y q2
   omega
  .omega
 refine⟨fun X hX=>(P.nd X hX).up,qT.Zm,fun X hX v hv=>⟨?_,lt v ((cn X hX).YZ v hv) ((cn X hX).MH v hv)⟩,qT.AC,fun X hX=>(P.nd X hX).tape,fun X hX We=>(cn X hX).VN We,⟨rT,hrT,LN⟩,fun X hX=>(P.nd X hX).Aj,(PH T).1,fun X hX l hl=>⟨qT.Ub X hX l hl,fun k1 v hv=>?_⟩,qT.PI,rfl,c.nq T,⟨tr.hb.1.1,tr.hn⟩,(PH T).2.1,hD⟩
 .have:=(P.nd X hX).YZ v hv;rw[qT.Zm X hX]at this;exact this
 .have TT:=tr.ti T (ae _);have PP:=(TT.Ub X hX l hl).Vy k1;exact lt v (fun hb=>tr.Zbg (ae _) (by
   have:=TT.gi.vp _ _ _ _ (PP.has v hv).1;rw[hb]at this;exact this)) ((cj X hX l hl).vs k1 v hv)
end
def Ud(b:Yn)(L:Nat):Yn:=⟨b.r+1,L⟩
theorem fi(b:Yn)(L:Nat):ZE b (Ud b L):=by unfold ZE Ud;simp only;omega
theorem ua{b:Yn}{L e D:Nat}{w:Wd}(hL:L<5)(K:Calm b L e D w)(hb:b.r<=60000)(Hv:(w.Zb L).me=L):
  act w (Xf L).ac=w.set L { w.Zb L with Zg:=al ⟨Ud b L,[],false,[],[]⟩ }:=by
 have e1:act w (Xf L).ac=w.set L (lead (w.Zb L)):=by
  unfold act Xf Raw.ac;simp
 obtain⟨r,hr,LN⟩:=K.Z1;have hh:=K.PH L hL;have hlo:=K.lo;have eb:Je (w.Zb L)=Ud b L:=by
  unfold Je Ud;rw[hr,K.Zm L hL,Hv];simp only;rw[LN];have:(w.Zb L).Z8.r<=b.r:=by
   unfold ZE at hh;omega
  rw[show max (max b.r (w.Zb L).Z8.r+1) (b.r+1)=b.r+1 by omega]
 have el:lead (w.Zb L) = { w.Zb L with Zg:=al ⟨Ud b L,[],false,[],[]⟩ }:=by
  unfold lead;rw[if_neg (by
   rw[K.up L hL,eb];unfold Ud;simp only;intro q;rcases q with q|q
   .cases q
   .omega),eb,show XV (w.Zb L).Zp=(w.Zb L).Zp by rw[K.AC L hL];rfl]
 rw[e1,el]
theorem kV{b:Yn}{L e D:Nat}{A:List Raw}(hA:∀x∈A,x.err=0)(hl:(G A)<=80000)(hL:L<5)(K:Calm b L e D (Xc A))(hb:b.r<=60000){Q:List Cm}(hQ:∀x,Px A x->x∈Q\/x∈((Xc A).Zb L).Zw)(hD:D+38*many<=99900):
  ∃S C g M,Clean S C (Ud b L) L many (fun t=>QM t (act (Xc A) (Xf L).ac)) g M e Q/\Un (Ud b L) L (act (Xc A) (Xf L).ac)/\Xc (Jw A L many)=QM many (act (Xc A) (Xf L).ac) /\
  (∀X x,x∈((Xc A).Zb X).Zr->TM x ((act (Xc A) (Xf L).ac).Zb X))/\(∀X,((act (Xc A) (Xf L).ac).Zb X).Zw=((Xc A).Zb X).Zw) /\
  (∀X,X<5->¬ZE (Ud b L) ((act (Xc A) (Xf L).ac).Zb X).Z8)/\(∀X,X<5->∀l∈((act (Xc A) (Xf L).ac).Zb X).Zf,Hj (Ud b L) l)/\(act (Xc A) (Xf L).ac).Zo=[] /\
  ∀X,X<5->((QM many (act (Xc A) (Xf L).ac)).Zb X).data.length<=D+38*many:=by
 have A':∀x∈A++[Xf L],x.err=0:=fun y hy=>by
  rcases aa.1 hy with hy|hy
  .exact hA y hy
  .rw[H.1 hy];exact Ah hL
 have ew:Xc (A++[Xf L])=act (Xc A) (Xf L).ac:=by rw[Pm];rfl
 obtain⟨_,_,_,_,W0⟩:=Ap hA nT;have Hv:((Xc A).Zb L).me=L:=by have:=(W0.nd L hL).me;omega
 obtain⟨g0,M0,k,T0,W⟩:=Ap A' (by rw[U,aw];omega);rw[ew]at T0 W;have hS:∀x,Px (A++[Xf L]) x->Px A x:=fun x ⟨a,ha,hk,h⟩=>by
  rcases aa.1 ha with ha|ha
  .exact⟨a,ha,hk,h⟩
  .rw[H.1 ha]at hk;cases hk
 have E:=ua hL K hb Hv;have hlo:=K.lo;have nb:ZD (Ud b L):=⟨⟨by show (1:Int)<=b.r+1;omega,by show b.r+1<=65536;omega⟩,by show (0:Int)<=(L:Int);omega,by show (L:Int)<=4;omega⟩
 have hN:∀X,(act (Xc A) (Xf L).ac).Zb X=if X=L then { (Xc A).Zb L with Zg:=al ⟨Ud b L,[],false,[],[]⟩ } else (Xc A).Zb X:=fun X=>by rw[E];rfl
 obtain⟨w1,Bq⟩:=ZN (act (Xc A) (Xf L).ac);rw[<-Bq]at T0 W E hN ⊢;have fld:∀X,X<5->(w1.Zb X).up=true/\(w1.Zb X).Zm=((Xc A).Zb X).Zm/\(w1.Zb X).Zp=aq/\(w1.Zb X).YS=((Xc A).Zb X).YS/\(w1.Zb X).data=((Xc A).Zb X).data/\(w1.Zb X).Zh=((Xc A).Zb X).Zh/\(w1.Zb X).Z8=((Xc A).Zb X).Z8:=fun X hX=>by
  rw[hN X];by_cases q:X=L
  .rw[if_pos q,<-q];exact⟨K.up X hX,rfl,K.AC X hX,rfl,rfl,rfl,rfl⟩
  .rw[if_neg q];exact⟨K.up X hX,rfl,K.AC X hX,rfl,rfl,rfl,rfl⟩
 have uJ:∀X,(w1.Zb X).Zw=((Xc A).Zb X).Zw/\(w1.Zb X).Zf=((Xc A).Zb X).Zf/\(w1.Zb X).Zr=((Xc A).Zb X).Zr:=fun X=>by
  rw[hN X];by_cases q:X=L
  .rw[if_pos q,<-q];exact⟨rfl,rfl,rfl⟩
  .rw[if_neg q];exact⟨rfl,rfl,rfl⟩
 have hrL:(w1.Zb L).Zg=al ⟨Ud b L,[],false,[],[]⟩:=by rw[hN L,if_pos rfl]
 have hrX:∀X,X<5->X≠L->(w1.Zb X).Zg=aq:=fun X hX q=>by rw[hN X,if_neg q];exact K.VN X hX q
 have fF:w1.Zo=[]:=by rw[E];exact K.PI
 have ab:=fi b L;have nab:¬ZE (Ud b L) b:=by unfold ZE Ud;simp only;omega
 have lift:∀c:Yn,¬ZE b c->¬ZE (Ud b L) c:=fun c h q=>h (by unfold ZE Ud at *;simp only at *;omega);have neb:∀c:Yn,¬ZE b c->c≠Ud b L:=fun c h q=>h (by rw[q];exact ab);have pw:PW (UE [] :: (A++[Xf L]).map fun x=>UE x.data) (Ud b L) L w1:=by
  refine⟨fun X hX=>?_,fun l hl=>(by rw[fF]at hl;cases hl),fun X hX l hl=>⟨W.Ub X hX l hl,fun k=>?_,fun k=>?_⟩⟩
  .obtain⟨f1,f2,f3,f4,f5,f6,f7⟩:=fld X hX;have hr:∀r,(w1.Zb X).Zg=al r->X=L/\r=⟨Ud b L,[],false,[],[]⟩:=fun r h=>by
    by_cases q:X=L
    .rw[q,hrL]at h;exact⟨q,(Option.some.inj h).symm⟩
    .rw[hrX X hX q]at h;cases h
   refine⟨W.nd X hX,f1,by rw[f2,K.Zm X hX];exact nab,fun v hv=>?_,fun p hp=>(by rw[f3]at hp;cases hp),by rw[f4,f5];exact K.tape X hX,fun q r h=>absurd (hr r h).1 q,fun q=>⟨_,by rw[q];exact hrL,rfl⟩,fun r h _ s=>by rw[(hr r h).2];rfl,fun r h=>by rw[(hr r h).2];exact nb,fun r h s hs=>(by rw[(hr r h).2]at hs;cases hs),by rw[f6,(uJ X).1];exact K.Aj X hX⟩;rw[f2]at hv ⊢;rw[K.Zm X hX];exact (K.YZ X hX v hv).1
  .rw[(uJ X).2.1]at hl;exact absurd k (K.Ub X hX l hl).1.1
  .rw[(uJ X).2.1]at hl;exact absurd k (K.Ub X hX l hl).1.2
 have un:Un (Ud b L) L w1:=by
  refine⟨fun X hX _=>⟨by rw[(fld X hX).2.1,K.Zm X hX];exact neb b (JW b),fun p hp=>(by rw[(fld X hX).2.2.1]at hp;cases hp)⟩,fun X hX l hl=>?_,fun l hl=>by rw[fF]at hl;cases hl⟩;rw[(uJ X).2.1]at hl;exact⟨fun k=>absurd k (K.Ub X hX l hl).1.1,fun k=>absurd k (K.Ub X hX l hl).1.2⟩
 have hC:(UE [] :: (A++[Xf L]).map fun x=>UE x.data).length<=100000:=by rw[bg,bd,U,aw];omega
 have E9:∀X,X<5->(w1.Zb X).data.length<=D:=fun X hX=>by rw[(fld X hX).2.2.2.2.1];exact K.E9 X hX
 obtain⟨g,M,_,tr⟩:=nM hC uK nb hL rfl (fun y hy=>by
  obtain⟨a,_,_,q,rfl⟩:=hS y hy;exact nF q) W T0 pw (T:=many) (fun X hX=>by have:=E9 X hX;omega)
 refine⟨_,_,g,M,⟨tr,fun X hX=>?_,fun X hX l hl=>?_,fun l hl=>?_,by show e=(w1.Zb L).Zw.length;rw[(uJ L).1];exact K.Zw,fun x hx=>?_,fun r hr s=>?_,fun x hx=>?_⟩,un,?_,fun X x hx=>.inl (by rw[(uJ X).2.2];exact hx),fun X=>(uJ X).1,fun X hX=>by rw[(fld X hX).2.2.2.2.2.2];exact lift _ (K.PH X hX),fun X hX l hl k=>?_,fF,fun X hX=>MF hC nb pw hX (E9 X hX) many⟩
 .show CN _ _ _ L X (w1.Zb X);obtain⟨f1,f2,f3,f4,f5,f6,f7⟩:=fld X hX;refine⟨hrX X hX,fun v hv q=>?_,fun p hp=>(by rw[f3]at hp;cases hp),fun v hv=>?_,fun r hr j vs hv=>?_⟩
  .rw[f2]at hv;exact absurd q (neb _ (K.YZ X hX v hv).1)
  .rw[f2]at hv;exact .inr (K.YZ X hX v hv).2
  .by_cases q:X=L
   .rw[q,hrL]at hr;obtain rfl:=Option.some.inj hr
    cases hv
   .rw[hrX X hX q]at hr;cases hr
 .have hl:l∈(w1.Zb X).Zf:=hl;rw[(uJ X).2.1]at hl;obtain⟨k1,k2⟩:=K.Ub X hX l hl;exact⟨fun k=>absurd k k1.1,fun k=>absurd k k1.2,fun k v hv=>.inr (k2 k v hv)⟩
 .have hl:l∈w1.Zo:=hl;rw[fF]at hl;cases hl
 .have hx:x∈(w1.Zb L).Zr:=hx;show x ∉ (w1.Zb L).Zw;rw[(uJ L).2.2]at hx;rw[(uJ L).1];exact K.nq x hx
 .have hr:(w1.Zb L).Zg=al r:=hr;rw[hrL]at hr;obtain rfl:=Option.some.inj hr;rfl
 .show x∈Q\/x∈(w1.Zb L).Zw;rw[(uJ L).1];exact hQ x (hS x hx)
 .rw[Bq];exact Ej A L many (fun i hi=>K.up i hi) (fun i hi=>by rw[<-Bq];exact (fld i hi).1)
 .rw[(uJ X).2.1]at hl;exact lift _ (K.hj X hX l hl k)
section
variable {S:Cm->Prop} {C:List Cm} {b:Yn} {L T:Nat} {w:Nat->Wd} {g:Nat->Gh} {M:Nat->Nat->Yn} {e:Nat} {Q:List Cm}
theorem Clean.phase(c:Clean S C b L T w g M e Q)(un:Un b L (w 0))(hQ:∀x∈Q,x ∉ ((w 0).Zb L).Zw)(SC:∀x∈Q,∃X,X<5/\TM x ((w 0).Zb X))(heQ:e+(G Q)<40)(hT:8+7*(e+(G Q))+1+5*(2*(1+(G Q))+1)<=T)(h0:∀X,X<5->¬ZE b ((w 0).Zb X).Z8)(j0:∀X,X<5->∀l∈((w 0).Zb X).Zf,Hj b l)(f0:(w 0).Zo=[]){D:Nat}(hD:∀X,X<5->((w T).Zb X).data.length<=D):
  (∀x∈Q,∀Y,Y<5->x∈((w T).Zb Y).Zw)/\Calm b L ((w T).Zb L).Zw.length D (w T)/\((w T).Zb L).Zw.length<=e+(G Q):=by
 have tr:=c.tr;have hc:=c.clear (k:=8+7*(e+(G Q))+1) hT;obtain⟨a2,ha2,c12,c3⟩:=Ct.split (w:=w) T (8+7*(e+(G Q))) 1 hc;obtain⟨a1,ye,c1,c2⟩:=Ct.split (w:=w) a2 8 (7*(e+(G Q))) c12;have all:∀x∈Q,∀t,a2<=t->t<=T->∀Y,Y<5->x∈((w t).Zb Y).Zw:=fun x hx t h1 h2 Y hY=>by
  obtain⟨X,hX,hax⟩:=SC x hx;have D:=tr.done un hX hax a1 nT c1;have H5:Kc x (w a1):=by
   rcases D with q|q
   .exact q
   .have:=c.short (t:=a1) nT tr.hL;omega
  obtain⟨Z,hZ,hxz⟩:=H5;obtain⟨s,hs,rfl⟩:=bo.1 hxz;have hsq:=c.short (t:=a1) nT hZ;have tr2:=tr.sh (a:=a1) nT;have ho:=(tr.Za9 un a1 nT (Ct.down c1 nT)).1.1;have hm:=tr2.ZiD hY hZ ho (s+1) hs (a2-a1) nT (Ct.down c2 nT);have e2:∀t,a1<=t->Go.Proofs.YtdapjaalaomghaaGreatDoor.sh w a1 (t-a1)=w t:=fun t h=>by show w (a1+(t-a1))=w t;rw[show a1+(t-a1)=t by omega]
  rw[e2 a2 nT]at hm;have Hd:s<((w t).Zb Y).Zw.length:=tr.stays (Z:=fun t=>s<((w t).Zb Y).Zw.length) (fun t _ h=>tr.more hY h) hm t h1 h2;obtain⟨f,hf⟩:=tr2.Zbh hZ (t-a1);rw[e2 t nT]at hf;have hf:((w t).Zb Z).Zw=((w a1).Zb Z).Zw++f:=hf;have g1:((w t).Zb Z).Zw[s]? = al ((w a1).Zb Z).Zw[s]:=by rw[hf,List.getElem?_append_left hs];exact ao hs
  have g2:((w t).Zb Y).Zw[s]? = al ((w t).Zb Y).Zw[s]:=ao Hd;have TT:=tr.ti t h2;rw[Jf.one TT.gi ((TT.nd Z hZ).Zw s _ g1) ((TT.nd Y hY).Zw s _ g2)];exact bx Hd
 have ha0:0<a2:=by
  cases a2 with
  | zero=>
   obtain rfl:a1=0:=nT;exact c1.elim
  | succ n=>omega
 have h5:Ct w a2 5:=Ct.down c12 nT;exact⟨fun x hx Y hY=>all x hx T nT (ae _) Y hY,c.calm un hQ ha2 ha0 h5 (fun x hx=>all x hx a2 (ae _) ha2 L tr.hL) c3 h0 j0 f0 hD,c.short (ae _) tr.hL⟩
end
theorem Eo{b:Yn}{L e D:Nat}{A:List Raw}(hA:∀x∈A,x.err=0)(hl:(G A)<=80000)(hL:L<5)(K:Calm b L e D (Xc A))(hb:b.r<=60000){Q:List Cm}(hQ:∀x,Px A x->x∈Q\/x∈((Xc A).Zb L).Zw)(hQn:∀x∈Q,x ∉ ((Xc A).Zb L).Zw)(SC:∀x∈Q,∃X,X<5/\x∈((Xc A).Zb X).Zr)(heQ:e+(G Q)<40)(hT:8+7*(e+(G Q))+1+5*(2*(1+(G Q))+1)<=many)(hD:D+38*many<=99900):
  (∀x∈Q,∀Y,Y<5->x∈((Xc (Jw A L many)).Zb Y).Zw)/\∃e',e'<=e+(G Q)/\Calm (Ud b L) L e' (D+38*many) (Xc (Jw A L many)):=by
 obtain⟨S,C,g,M,c,un,e1,hk,hlg,h0,j0,f0,hd⟩:=kV hA hl hL K hb hQ hD;rw[e1];obtain⟨p1,p2,p3⟩:=c.phase un (fun x hx=>by
  show x ∉ ((act (Xc A) (Xf L).ac).Zb L).Zw;rw[hlg];exact hQn x hx) (fun x hx=>by
  obtain⟨X,hX,hq⟩:=SC x hx;exact⟨X,hX,hk X x hq⟩) heQ hT h0 j0 f0 hd
 exact⟨p1,_,p3,p2⟩
theorem fj{A:List Raw}(hA:∀x∈A,x.err=0)(hF:Pv (Xc A))(hl:(G A)<=100){L:Nat}(hL:L<5){Q:List Cm}(hQ:∀x,Px A x->x∈Q)(SC:∀x∈Q,∃X,X<5/\x∈((Xc A).Zb X).Zr)(heQ:(G Q)<40)(hT:8+7*(G Q)+1+5*(2*(1+(G Q))+1)<=many)(ur:many<=2000):
  (∀x∈Q,∀Y,Y<5->x∈((Xc (Jw A L many)).Zb Y).Zw)/\∃e',e'<=(G Q)/\Calm (RK L) L e' (38*many) (Xc (Jw A L many)):=by
 obtain⟨S,C,g,M,c,un,hk,e1⟩:=fg hA hF hl hL hQ (many:=many) ur;rw[e1];obtain⟨h1,_,h2⟩:=Pw hF L;have hh:∀X,((act (Xc A) (Xf L).ac).Zb X).Z8=Jg/\((act (Xc A) (Xf L).ac).Zb X).Zf=[]/\((act (Xc A) (Xf L).ac).Zb X).Zw=[]/\((act (Xc A) (Xf L).ac).Zb X).data=[]:=fun X=>by
  rw[h2 X];by_cases q:X=L
  .rw[if_pos q];have F:=hF.nd L;exact⟨F.Z8,F.Zf,F.Zw,F.data⟩
  .rw[if_neg q];have F:=hF.nd X;exact⟨F.Z8,F.Zf,F.Zw,F.data⟩
 obtain⟨p1,p2,p3⟩:=c.phase un (fun x hx=>by
  show x ∉ ((act (Xc A) (Xf L).ac).Zb L).Zw;rw[(hh L).2.2.1];simp) (fun x hx=>by
  obtain⟨X,hX,hq⟩:=SC x hx;exact⟨X,hX,hk X x hq⟩) nT nT (fun X _=>by
  show ¬ZE (RK L) ((act (Xc A) (Xf L).ac).Zb X).Z8;rw[(hh X).1];unfold ZE RK Jg;simp only;omega) (fun X _ l hl=>by
  have hl:l∈((act (Xc A) (Xf L).ac).Zb X).Zf:=hl;rw[(hh X).2.1]at hl;cases hl) h1 (D:=38*many) (fun X hX=>by
  have:=MF c.tr.hC c.tr.hb c.tr.pw hX (d:=0) (by
   show ((act (Xc A) (Xf L).ac).Zb X).data.length<=0;rw[(hh X).2.2.2];exact ae _) many
  rw[Nat.zero_add]at this;exact this)
 exact⟨p1,_,nT,p2⟩
theorem fm{b:Yn}{L e D:Nat}{w:Wd}(K:Calm b L e D w){i:Nat}{d:List Nat}{x:Cm}(hi:i<5)(h1:YK d (w.Zb i).Zw.length=0)(h2:Xl d (w.Zb i).Zw.length=x)(h3:x ∉ (w.Zb i).Zw)(h4:x ∉ (w.Zb L).Zw):
  Calm b L e D (Jk w i d)/\x∈((Jk w i d).Zb i).Zr:=by
 have e1:Jk w i d=w.set i (TF (add (w.Zb i) x) x):=by
  unfold Jk;rw[if_pos (K.up i hi),if_neg (by simp[h1]),h2,if_neg h3]
 obtain⟨N,hN⟩:=ZN (TF (add (w.Zb i) x) x);have hq:(N.up=(w.Zb i).up/\N.Zm=(w.Zb i).Zm/\N.Zp=(w.Zb i).Zp/\N.YS=(w.Zb i).YS/\N.data=(w.Zb i).data/\N.Zh=(w.Zb i).Zh/\N.Z8=(w.Zb i).Z8/\N.Zw=(w.Zb i).Zw/\N.Zf=(w.Zb i).Zf/\N.Zg=(w.Zb i).Zg)/\x∈N.Zr/\∀y∈N.Zr,y∈(w.Zb i).Zr\/y=x:=by
  rw[hN];unfold TF add;by_cases q:x∈(w.Zb i).Zr\/x∈(w.Zb i).Zw
  .have hq:x∈(w.Zb i).Zr:=q.elim (fun h=>h) (fun h=>absurd h h3);rw[if_pos q];split<;>exact⟨⟨rfl,rfl,rfl,rfl,rfl,rfl,rfl,rfl,rfl,rfl⟩,hq,fun y hy=>.inl hy⟩
  .rw[if_neg q];have hm:∀y∈(w.Zb i).Zr++[x],y∈(w.Zb i).Zr\/y=x:=fun y hy=>by
    rcases aa.1 hy with hy|hy
    .exact .inl hy
    .exact .inr (H.1 hy)
   split<;>exact⟨⟨rfl,rfl,rfl,rfl,rfl,rfl,rfl,rfl,rfl,rfl⟩,aa.2 (.inr uK),hm⟩
 obtain⟨⟨q1,q2,q3,q4,q5,q6,q7,q8,q9,q10⟩,q11,q12⟩:=hq;rw[e1,<-hN];have f:∀X,((w.set i N).Zb X).up=(w.Zb X).up/\((w.set i N).Zb X).Zm=(w.Zb X).Zm/\((w.set i N).Zb X).Zp=(w.Zb X).Zp/\((w.set i N).Zb X).YS=(w.Zb X).YS/\((w.set i N).Zb X).data=(w.Zb X).data/\((w.set i N).Zb X).Zh=(w.Zb X).Zh/\((w.set i N).Zb X).Z8=(w.Zb X).Z8/\((w.set i N).Zb X).Zw=(w.Zb X).Zw/\((w.set i N).Zb X).Zf=(w.Zb X).Zf/\((w.set i N).Zb X).Zg=(w.Zb X).Zg:=fun X=>by
  rw[JX];by_cases q:X=i
  .rw[if_pos q,q];exact⟨q1,q2,q3,q4,q5,q6,q7,q8,q9,q10⟩
  .rw[if_neg q];exact⟨rfl,rfl,rfl,rfl,rfl,rfl,rfl,rfl,rfl,rfl⟩
 refine⟨⟨fun X hX=>by rw[(f X).1];exact K.up X hX,fun X hX=>by rw[(f X).2.1];exact K.Zm X hX,fun X hX=>by rw[(f X).2.1];exact K.YZ X hX,fun X hX=>by rw[(f X).2.2.1];exact K.AC X hX,fun X hX=>by rw[(f X).2.2.2.1,(f X).2.2.2.2.1];exact K.tape X hX,
  fun X hX q=>by rw[(f X).2.2.2.2.2.2.2.2.2];exact K.VN X hX q,by rw[(f L).2.2.2.2.2.2.2.2.2];exact K.Z1,fun X hX=>by rw[(f X).2.2.2.2.2.1,(f X).2.2.2.2.2.2.2.1];exact K.Aj X hX,fun X hX=>by rw[(f X).2.2.2.2.2.2.1];exact K.PH X hX,fun X hX=>by rw[(f X).2.2.2.2.2.2.2.2.1];exact K.Ub X hX,K.PI,by rw[(f L).2.2.2.2.2.2.2.1];exact K.Zw,fun y hy=>?_,K.lo,
  fun X hX=>by rw[(f X).2.2.2.2.2.2.2.2.1];exact K.hj X hX,fun X hX=>by rw[(f X).2.2.2.2.1];exact K.E9 X hX⟩,by rw[JX,if_pos rfl];exact q11⟩
 rw[(f L).2.2.2.2.2.2.2.1];rw[JX]at hy;by_cases q:L=i
 .rw[if_pos q]at hy;rcases q12 y hy with h|h
  .rw[<-q]at h;exact K.nq y h
  .rw[h];exact h4
 .rw[if_neg q]at hy;exact K.nq y hy
theorem Ep{w:Wd}{i:Nat}{d:List Nat}{x:Cm}(hi:i<5)(W:uI w)(h1:YK d (w.Zb i).Zw.length=0)(h2:Xl d (w.Zb i).Zw.length=x)(h3:x ∉ (w.Zb i).Zw)(h4:x ∉ (w.Zb i).Zi):
  uI (Jk w i d)/\(Jk w i d).ZA=w.ZA/\VF (fun j=>((Jk w i d).Zb j).Zi.length)=VF (fun j=>(w.Zb j).Zi.length)+1/\(∀j,((Jk w i d).Zb j).Zw=(w.Zb j).Zw) /\
  ∀j y,y∈((Jk w i d).Zb j).Zi->y∈(w.Zb j).Zi\/(j=i/\y=x):=by
 have e:Jk w i d=w.set i (TF (add (w.Zb i) x) x):=by
  unfold Jk;rw[if_pos (W.up i hi),if_neg (by simp[h1]),h2,if_neg h3]
 have ha:(add (w.Zb i) x).up=(w.Zb i).up/\(add (w.Zb i) x).me=(w.Zb i).me/\(add (w.Zb i) x).Zw=(w.Zb i).Zw/\(add (w.Zb i) x).Zi=(w.Zb i).Zi/\(add (w.Zb i) x).store=(w.Zb i).store:=by
  unfold add;split<;>exact⟨rfl,rfl,rfl,rfl,rfl⟩
 obtain⟨a1,a2,a3,a4,a5⟩:=ha;obtain⟨N,hN⟩:=ZN (TF (add (w.Zb i) x) x);have hq:N.up=(w.Zb i).up/\N.me=(w.Zb i).me/\N.Zw=(w.Zb i).Zw/\N.Zi=(w.Zb i).Zi++[x]/\N.store=(w.Zb i).store:=by
  rw[hN];unfold TF;rw[a4,if_neg h4];exact⟨a1,a2,a3,rfl,a5⟩
 rw[e,<-hN];obtain⟨q1,q2,q3,q4,q5⟩:=hq;refine⟨⟨fun j hj=>?_,fun j hj=>?_,fun j hj=>?_,fun j hj=>?_⟩,rfl,?_,fun j=>?_,fun j y hy=>?_⟩
 .rw[JX];by_cases q:j=i
  .rw[if_pos q,q1];exact W.up i hi
  .rw[if_neg q];exact W.up j hj
 .rw[JX];by_cases q:j=i
  .rw[if_pos q,q2,q];exact W.me i hi
  .rw[if_neg q];exact W.me j hj
 .rw[JX];by_cases q:j=i
  .rw[if_pos q];obtain⟨n1,n2⟩:=W.nw i hi;unfold NWt;rw[q4,q3];refine⟨?_,fun y hy hl=>?_⟩
   .rw[List.nodup_append];exact⟨n1,uK,fun a ha b hb e=>by rw[H.1 hb]at e;rw[e]at ha;exact h4 ha⟩
   .rcases aa.1 hy with hy|hy
    .exact n2 y hy hl
    .rw[H.1 hy]at hl;exact h3 hl
  .rw[if_neg q];exact W.nw j hj
 .rw[JX];by_cases q:j=i
  .rw[if_pos q,q5,q3];exact W.st i hi
  .rw[if_neg q];exact W.st j hj
 .have:=RC w i N (fun n=>n.Zi.length) hi;rw[q4,U,aw]at this;show VF (fun j=>(if j=i then N else w.Zb j).Zi.length)=_;omega
 .rw[JX];by_cases q:j=i
  .rw[if_pos q,q];exact q3
  .rw[if_neg q]
 .rw[JX]at hy;by_cases q:j=i
  .rw[if_pos q,q4]at hy;rcases aa.1 hy with hy|hy
   .rw[q];exact .inl hy
   .exact .inr ⟨q,H.1 hy⟩
  .rw[if_neg q]at hy;exact .inl hy
theorem ZwL:uI Ur:=⟨fun _ _=>rfl,fun _ _=>rfl,fun _ _=>⟨List.nodup_nil,fun _ h=>by cases h⟩,fun _ _=>rfl⟩
section
variable {x y:Cm} {a b L:Nat}
end
def PV(l:List Raw):Nat:=(l.filter fun x=>decide (F8 x.k)).length
theorem kW(l:List Raw):manyN l (G l)=100+20*PV l:=by
 have h:∀i,i<=(G l)->manyN l i=100+20*PV (l.take i):=by
  intro i
  induction i with
  | zero=>intro _;rfl
  | succ i ih=>
   intro hi;have ZS:i<(G l):=nT;have ih:=ih nT;unfold manyN;rw[ao ZS];simp only;unfold PV at ih ⊢;rw[Y1 _ i ZS,br,U];by_cases q:F8 l[i].k
   .rw[if_pos q,ih,List.filter_cons_of_pos (by simpa using q)];simp only[bC,aw];omega
   .rw[if_neg q,ih,List.filter_cons_of_neg (by simpa using q)];simp only[bC,be];omega
 have:=h (G l) (ae _);rw[List.take_length]at this;exact this
theorem fo(l k:List Raw):PV (l++k)=PV l+PV k:=by unfold PV;rw[br,U]
theorem Cu{l:List Raw}(h:∀x∈l,¬F8 x.k):PV l=0:=by
 unfold PV;rw[List.length_eq_zero_iff,List.filter_eq_nil_iff];intro x hx;simpa using h x hx
theorem Cv(l:List Raw)(n many:Nat):PV (Jw l n many)=PV l+1:=by
 have s9:PV (XZ 5)=0:=Cu fun x hx=>by
  obtain⟨n,_,rfl⟩:=Pk hx;exact (by decide:¬F8 9)
 have sm:∀k,PV (Ul k)=0:=fun k=>Cu fun x hx=>by
  rcases L9 hx with⟨n,_,rfl⟩|rfl
  .exact (by decide:¬F8 3)
  .exact (by decide:¬F8 7)
 have sl:PV [Xf n]=1:=rfl;unfold Jw Qt;simp only[fo,s9,sm,sl]
theorem Ha(l:List Raw)(n:Nat):Xr l n=Jw (Jw l n (100+20*PV l)) n (100+20*PV l):=by
 unfold Xr;rw[kW];unfold VH VH VH;rfl
def QE:Cm:=⟨3,1,0,2,0⟩
def Qu:List Value:=(JK Yy QE).cells
structure Zbw(y:Cm):Prop where
 ey:y.err=0
 ky:y.k=1
 cy:y.c=2
theorem fp{y:Cm}(t:Zbw y):Wh Qu y=Qu/\Wp Qu y=11/\Ru Qu y=0:=by
 obtain⟨k,c,q,n,v,e1,e2,e3,e4,e5,y1,y2,y3,y4,y5⟩:=Jr (show Y0 y.k y.c y.s y.n y.v=0 from t.ey);have hk:=t.ky;have hc:=t.cy;have h0:UO Qu y=0:=by
  unfold UO OB;rw[if_neg (show ¬Xq Qu=true by decide)];exact t.ey
 have hl:ci Qu (8+2)=0:=Iw;have hb:cb Qu (32+2)=true:=Iw;have hD:JK Qu y=⟨Qu,11,0⟩:=by
  unfold JK QA;rw[e1,e2,e3,e4,e5];simp only[a6];obtain rfl:k=1:=nT;obtain rfl:c=2:=nT;rw[if_neg nT,if_neg (by rw[hl];omega),if_neg (by rw[hl];omega),if_pos hb]
 unfold Wh Wp Ru;rw[if_pos h0,if_pos h0,if_pos h0,hD];exact⟨rfl,rfl,rfl⟩
theorem Ji:Wh Yy QE=Qu/\Wp Yy QE=0/\Ru Yy QE=0/\Wh Qu QE=Qu/\Wp Qu QE=0/\Ru Qu QE=0/\Wh Yy Nv=Yy/\Wh Qu Nv=Qu:=⟨by rfl,by rfl,by rfl,by rfl,by rfl,by rfl,by rfl,by rfl⟩
theorem ZiH(l k:List Cm):T9 (l++k)=k.foldl Wh (T9 l):=by unfold T9;rw[List.foldl_append]
theorem Zbx{y:Cm}(t:Zbw y):∀(l:List Cm),(∀z∈l,z=QE\/z=y\/z=Nv)->l.foldl Wh Qu=Qu:=by
 intro l
 induction l with
 | nil=>intro _;rfl
 | cons z l ih=>
  intro h;rw[bc];have:Wh Qu z=Qu:=by
   rcases h z uK with rfl|rfl|rfl
   .exact Ji.2.2.2.1
   .exact (fp t).1
   .exact Ji.2.2.2.2.2.2.2
  rw[this];exact ih fun a ha=>h a (by simp[ha])
theorem nN:∀(l:List Cm),(∀z∈l,z=QE\/z=Nv)->(T9 l=Yy\/T9 l=Qu)/\(QE∈l->T9 l=Qu):=by
 have:∀(l:List Cm) st,(st=Yy\/st=Qu)->(∀z∈l,z=QE\/z=Nv)->(l.foldl Wh st=Yy\/l.foldl Wh st=Qu)/\((st=Qu\/QE∈l)->l.foldl Wh st=Qu):=by
  intro l
  induction l with
  | nil=>intro st h _;exact⟨h,fun q=>q.elim (fun q=>q) (fun q=>by cases q)⟩
  | cons z l ih=>
   intro st h hl;rw[bc];have hs:(Wh st z=Yy\/Wh st z=Qu)/\((st=Qu\/z=QE)->Wh st z=Qu):=by
    rcases hl z uK with rfl|rfl
    .rcases h with rfl|rfl
     .exact⟨.inr Ji.1,fun _=>Ji.1⟩
     .exact⟨.inr Ji.2.2.2.1,fun _=>Ji.2.2.2.1⟩
    .rcases h with rfl|rfl
     .exact⟨.inl Ji.2.2.2.2.2.2.1,fun q=>q.elim (fun q=>by rw[Ji.2.2.2.2.2.2.1];exact q) (fun q=>absurd q Iw)⟩
     .exact⟨.inr Ji.2.2.2.2.2.2.2,fun _=>Ji.2.2.2.2.2.2.2⟩
   obtain⟨i1,i2⟩:=ih (Wh st z) hs.1 (fun a ha=>hl a (by simp[ha]));refine⟨i1,fun q=>i2 ?_⟩;rcases q with q|q
   .exact .inl (hs.2 (.inl q))
   .rcases List.mem_cons.1 q with q|q
    .exact .inl (hs.2 (.inr q.symm))
    .exact .inr q
 intro l h;obtain⟨h1,h2⟩:=this l Yy (.inl rfl) h;exact⟨h1,fun q=>h2 (.inr q)⟩
theorem Zby{l:List Cm}(h:∀x∈l,x.err=0):SO l=T9 l:=by
 have:∀(l:List Cm) (st:bY),Fp st->Xq st.cs=false->(∀x∈l,x.err=0)->(Pa st l).2.cs=l.foldl Wh st.cs:=by
  intro l
  induction l with
  | nil=>intro st _ _ _;rfl
  | cons z l ih=>
   intro st ok hb hl;have hze:=hl z uK;have h0:UO st.cs z=0:=by
    unfold UO OB;rw[hb,if_neg Iw];exact hze
   rw[LH h0,bc];obtain⟨k',c',s',n',v',f1,f2,f3,f4,f5,z1,z2,z3,z4,z5⟩:=Jr (show Y0 z.k z.c z.s z.n z.v=0 from hze);have sb:Xq (NV st z).cs=false:=by
    show Xq (JK st.cs z).cells=false;unfold JK;rw[f1,f2,f3,f4,f5];exact Cg (YE ok.fit) hb _ _ _ _ _ z1 z2 z3 z4 z5
   have e:(NV st z).cs=Wh st.cs z:=by
    show (JK st.cs z).cells=_;unfold Wh;rw[if_pos h0]
   rw[ih (NV st z) (H4 ok h0).1 sb (fun a ha=>hl a (by simp[ha])),e]
 unfold SO;rw[if_pos (I0 h)];exact this l Fo HY rfl h
theorem Er{x:Cm}(hx:x.err=0){r:Nat}(hr:r<=7)(hR:KA x.k.toNat r){i:Nat}(hi:i<=1000){now:Int}(h0:0<=now)(h60:now<=60):QL i x.c r 60 x.k x.c x.s x.n x.v=0/\YK (Ab i x.c r 60 x) now=0/\Xl (Ab i x.c r 60 x) now=x:=by
 obtain⟨k,c,s,n,v,e1,e2,e3,e4,e5,y1,y2,y3,y4,y5⟩:=Jr (show Y0 x.k x.c x.s x.n x.v=0 from hx);have hx':Y0 (k:Int) c s n v=0:=by
  have:Y0 x.k x.c x.s x.n x.v=0:=hx;rw[e1,e2,e3,e4,e5]at this;exact this
 rw[e1,a6]at hR;obtain⟨h1,h2,h3⟩:=Zbq (n:=i) (c:=c) (r:=r) (u:=60) (k:=k) (s:=s) (nm:=n) (v:=v) nT hr nT hx' hR h0 nT;have hp:QL i x.c r 60 x.k x.c x.s x.n x.v=0:=by rw[e1,e2,e3,e4,e5];exact h1
 refine⟨hp,?_⟩;have hB:Ab i x.c r 60 x=Hr (i:Nat) c (r:Nat) (60:Nat) k c s n v:=by
  unfold Ab;rw[if_pos hp,e1,e2,e3,e4,e5];rfl
 rw[hB];refine⟨h2,?_⟩;rw[h3];obtain⟨xk,xc,xs,xn,xv⟩:=x;simp only at e1 e2 e3 e4 e5;rw[e1,e2,e3,e4,e5]
theorem nO{d:List Nat}{n:Nat}(hn:n<5)(hd:(G d)<=2000):(⟨1,n,0,0,d⟩:Raw).err=0:=by
 unfold Raw.err;simp only;have:∀n<5,∀d:Nat,d<=2000->Wl 1 (n:Nat) 0 0 d=0:=by
  intro n hn d hd;unfold Wl Jh UZ;rw[if_neg nT,if_neg nT,if_neg nT,if_neg nT]
 exact this n hn _ hd
theorem nP(w:Wd)(d:List Nat)(n:Nat):act w (⟨1,n,0,0,d⟩:Raw).ac=Jk w n d:=by
 unfold act Raw.ac;simp
structure nQ(d:List Nat)(x:Cm):Prop where
 op:∀now:Int,0<=now->now<=60->YK d now=0/\Xl d now=x
 len:(G d)<=2000
section
variable {y:Cm} {n L:Nat} {d d':List Nat}
def RL(d:List Nat)(n:Nat):List Raw:=[⟨1,n,0,0,d⟩]
theorem kX(r:nQ d QE)(hn:n<5):(∀z∈RL d n,z.err=0)/\Pv (Xc (RL d n))/\QE∈((Xc (RL d n)).Zb n).Zr/\uI (Xc (RL d n))/\(Xc (RL d n)).ZA=[]/\VF (fun j=>((Xc (RL d n)).Zb j).Zi.length)=1/\(∀j z,z∈((Xc (RL d n)).Zb j).Zi->z=QE/\j=n)/\∀z,Px (RL d n) z->z=QE:=by
 obtain⟨o1,o2⟩:=r.op 0 nT nT;have e:Xc (RL d n)=Jk Ur n d:=by
  show act Ur (⟨1,n,0,0,d⟩:Raw).ac=_;rw[nP]
 rw[e];obtain⟨f1,f2,f3⟩:=Ao Ziz n d;have f3:=f3 o1;rw[o2]at f3;obtain⟨w1,w2,w3,w4,w5⟩:=Ep (w:=Ur) (x:=QE) hn ZwL o1 o2 (fun h=>by cases h) (fun h=>by cases h);refine⟨fun z hz=>?_,f1,f3,w1,by rw[w2];rfl,by rw[w3];rfl,fun j z hz=>?_,fun z hz=>?_⟩
 .unfold RL at hz;rw[H.1 hz];exact nO hn r.len
 .rcases w5 j z hz with h|h
  .cases h
  .exact⟨h.2,h.1⟩
 .obtain⟨a,ha,hk,ho,hz⟩:=hz;unfold RL at ha;rw[H.1 ha]at hz;exact hz.trans o2
theorem Zbz{l:List Cm}(h:∀z∈l,z=QE\/z=Nv):Wp (T9 l) QE=0/\Ru (T9 l) QE=0:=by
 rcases (nN l h).1 with q|q
 .rw[q];exact⟨Ji.2.1,Ji.2.2.1⟩
 .rw[q];exact⟨Ji.2.2.2.2.1,Ji.2.2.2.2.2.1⟩
theorem Cw(t:Zbw y){l k:List Cm}(h:∀z∈l,z=QE\/z=Nv)(hx:QE∈l)(hk:∀z∈k,z=QE\/z=y\/z=Nv):T9 (l++k)=Qu:=by
 rw[ZiH,(nN l h).2 hx];exact Zbx t k hk
theorem fq{A:List Raw}{P:Cm->Prop}(hA:∀x∈A,x.err=0)(hl:(G A)<=100000)(hS:∀z,Px A z->P z)(h0:P Nv){i:Nat}(hi:i<5):∀z∈((Xc A).Zb i).Zw,P z:=fun z hz=>by
 rcases sV hA hl hi hz with q|⟨a,ha,hk,ho,e⟩
 .rw[q];exact h0
 .exact hS z ⟨a,ha,hk,ho,e⟩
theorem Kd{A:List Raw}{L:Nat}{z:Cm}(h:Px (Jw A L many) z):Px A z:=by
 obtain⟨a,ha,hk,ho,hz⟩:=h;obtain⟨k,e,hk2⟩:=kT (l:=A) (n:=L) (many:=many);rw[e]at ha;rcases aa.1 ha with ha|ha
 .exact⟨a,ha,hk,ho,hz⟩
 .exact absurd hk (hk2 a ha).2
theorem ZeN(t:Zbw y)(r:nQ d QE)(r':nQ d' y)(hn:n<5)(hL:L<5):
  (∀z∈Xr (Xr (RL d n) L++[(⟨1,n,0,0,d'⟩:Raw)]) L,z.err=0)/\(Xr (RL d n) L).length=1463/\(Xr (Xr (RL d n) L++[(⟨1,n,0,0,d'⟩:Raw)]) L).length=3646 /\
  (∃t0 t1:PS,(Xc (Xr (Xr (RL d n) L++[(⟨1,n,0,0,d'⟩:Raw)]) L)).ZA=[t0,t1]/\t0.code=0/\t0.val=0/\t1.code=11) /\
  (∀z∈lng (Xc (Xr (Xr (RL d n) L++[(⟨1,n,0,0,d'⟩:Raw)]) L)),z.err=0)/\SO (lng (Xc (Xr (Xr (RL d n) L++[(⟨1,n,0,0,d'⟩:Raw)]) L)))=Qu:=by
 obtain⟨s1,s2,s3,s4,s5,s6,s7,s8⟩:=kX r hn;obtain⟨A,hA⟩:=ZN (RL d n);have hAl:(G A)=1:=by rw[hA];rfl
 have hAb:PV A=1:=by rw[hA];rfl
 rw[<-hA]at s1 s2 s3 s4 s5 s6 s7 s8 ⊢;have q1:Xr A L=Jw (Jw A L 120) L 120:=by rw[Ha,hAb]
 obtain⟨B1,Wf⟩:=ZN (Jw A L 120);obtain⟨B2,SA⟩:=ZN (Jw B1 L 120);have l1:(G B1)=732:=by rw[Wf,RF,hAl]
 have l2:(G B2)=1463:=by rw[SA,RF,l1]
 rw[q1,<-Wf,<-SA];obtain⟨A2,hA2⟩:=ZN (B2++[(⟨1,n,0,0,d'⟩:Raw)]);have lA2:(G A2)=1464:=by rw[hA2,U,l2];rfl
 have bA2:PV A2=4:=by
  rw[hA2,fo,SA,Wf,Cv,Cv,hAb];rfl
 rw[<-hA2];have q2:Xr A2 L=Jw (Jw A2 L 180) L 180:=by rw[Ha,bA2]
 obtain⟨B3,uo⟩:=ZN (Jw A2 L 180);obtain⟨B4,EU⟩:=ZN (Jw B3 L 180);have l3:(G B3)=2555:=by rw[uo,RF,lA2]
 have l4:(G B4)=3646:=by rw[EU,RF,l3]
 rw[q2,<-uo,<-EU];have se:∀(l:List Raw) m,(∀x∈l,x.err=0)->∀x∈Jw l L m,x.err=0:=fun l m h=>sY h hL m 1;have e1:∀x∈B1,x.err=0:=by rw[Wf];exact se _ _ s1
 have e2:∀x∈B2,x.err=0:=by rw[SA];exact se _ _ e1
 have eA2:∀x∈A2,x.err=0:=fun x hx=>by
  rw[hA2]at hx;rcases aa.1 hx with hx|hx
  .exact e2 x hx
  .rw[H.1 hx];exact nO hn r'.len
 have e3:∀x∈B3,x.err=0:=by rw[uo];exact se _ _ eA2
 have e4:∀x∈B4,x.err=0:=by rw[EU];exact se _ _ e3
 -- Zip is ZjP
 have S1:∀z,Px B1 z->z=QE:=fun z h=>s8 z (Kd (by rw[Wf]at h;exact h));have S2:∀z,Px B2 z->z=QE:=fun z h=>S1 z (Kd (by rw[SA]at h;exact h));have hxy:QE≠y:=fun e=>by have:=t.ky;rw[<-e]at this;exact absurd this Iw
 have iR:y≠Nv:=fun e=>by have:=t.ky;rw[e]at this;exact absurd this Iw
 have lg2:∀i,i<5->∀z∈((Xc B2).Zb i).Zw,z=QE\/z=Nv:=fun i hi=>fq e2 nT (fun z h=>.inl (S2 z h)) (.inr rfl) hi;have yn2:∀i,i<5->y ∉ ((Xc B2).Zb i).Zw:=fun i hi h=>by
  rcases lg2 i hi y h with q|q
  .exact hxy q.symm
  .exact iR q
 -- the first two ZwM
 obtain⟨p1,c1,h1,K1⟩:=fj s1 s2 nT hL (Q:=[QE]) (fun z h=>by rw[s8 z h];simp) (fun z h=>⟨n,hn,by rw[H.1 h];exact s3⟩) uK (many:=120) uK nT;rw[<-Wf]at p1 K1;have p1:=p1 QE uK;have h1:c1<=1:=h1;obtain⟨W1,T1⟩:=Gb (many:=120) hL s4;rw[<-Wf]at W1 T1;obtain⟨_,c2,h2,K2⟩:=Eo e1 nT hL K1 (by show (1:Int)<=60000;omega) (Q:=[]) (fun z h=>.inr (by rw[S1 z h];exact p1 L hL)) (fun z h=>by cases h) (fun z h=>by cases h) Ig (many:=120) Ig nT;have h2:c2<=c1:=h2;rw[<-SA]at K2;obtain⟨W2,T2⟩:=Gb (many:=120) hL W1;rw[<-SA]at W2 T2;have x2:∀i,i<5->QE∈((Xc B2).Zb i).Zw:=fun i hi=>by
  obtain⟨f,hf⟩:=T2.Zw i hi;rw[hf];exact aa.2 (.inl (p1 i hi))
 -- the second record
 have eA:Xc A2=Jk (Xc B2) n d':=by
  rw[hA2,Pm];show act (Xc B2) (⟨1,n,0,0,d'⟩:Raw).ac=_;rw[nP]
 have hlen:((Xc B2).Zb n).Zw.length<=40:=nE e2 nT n hn;obtain⟨o1,o2⟩:=r'.op ((Xc B2).Zb n).Zw.length nT nT;have wy:y ∉ ((Xc B2).Zb n).Zi:=fun h=>by
  obtain⟨q,_⟩:=s7 n y (T1.sub n hn y (T2.sub n hn y h));exact hxy q.symm
 obtain⟨V1,V2,V3,V4,V5⟩:=Ep (d:=d') (x:=y) hn W2 o1 o2 (yn2 n hn) wy;obtain⟨K2',hq⟩:=fm K2 hn o1 o2 (yn2 n hn) (yn2 L hL);rw[<-eA]at V1 V2 V3 V4 V5 K2' hq;have SA2:∀z,Px A2 z->z=QE\/z=y:=fun z h=>by
  obtain⟨a,ha,hk,ho,hz⟩:=h;rw[hA2]at ha;rcases aa.1 ha with ha|ha
  .exact .inl (S2 z ⟨a,ha,hk,ho,hz⟩)
  .rw[H.1 ha]at hz;exact .inr (hz.trans (r'.op 0 nT nT).2)
 -- the ZBG Zg
 obtain⟨p3,c3,h3,K3⟩:=Eo eA2 nT hL K2' (by show (1:Int)+1<=60000;omega) (Q:=[y]) (fun z h=>by
   rcases SA2 z h with q|q
   .exact .inr (by rw[V4,q];exact x2 L hL)
   .exact .inl (by rw[q];simp)) (fun z h=>by rw[H.1 h,V4];exact yn2 L hL) (fun z h=>⟨n,hn,by rw[H.1 h];exact hq⟩) aah (many:=180) aah nT
 rw[<-uo]at p3;have p3:=p3 y uK;obtain⟨W3,T3⟩:=Gb (many:=180) hL V1;rw[<-uo]at W3 T3;obtain⟨W4,T4⟩:=Gb (many:=180) hL W3;rw[<-EU]at W4 T4;have T34:=T3.trans T4
 -- ZwN waits
 have T12:=T1.trans T2;have nR:∀j,j<5->((Xc B2).Zb j).Zi=[]:=fun j hj=>by
  cases q:((Xc B2).Zb j).Zi with
  | nil=>rfl
  | cons z l=>
   exfalso;have hz:z∈((Xc B2).Zb j).Zi:=by rw[q];simp
   have:=(s7 j z (T12.sub j hj z hz)).1;rw[this]at hz;exact (W2.nw j hj).2 QE hz (x2 j hj)
 have ZnD:∀j,j<5->((Xc B4).Zb j).Zi=[]:=fun j hj=>by
  cases q:((Xc B4).Zb j).Zi with
  | nil=>rfl
  | cons z l=>
   exfalso;have hz:z∈((Xc B4).Zb j).Zi:=by rw[q];simp
   rcases V5 j z (T34.sub j hj z hz) with h|h
   .rw[nR j hj]at h;cases h
   .rw[h.2]at hz;refine (W4.nw j hj).2 y hz ?_;obtain⟨f,hf⟩:=T4.Zw j hj;rw[hf];exact aa.2 (.inl (p3 j hj))
 have z5:∀(w:Wd),(∀j,j<5->(w.Zb j).Zi=[])->VF (fun i=>(w.Zb i).Zi.length)=0:=fun w h=>by
  simp only[VF,h 0 nT,h 1 nT,h 2 nT,h 3 nT,h 4 nT,be]
 have n2:=T12.sum;rw[s5,s6,z5 _ nR]at n2;have n4:=T34.sum;rw[V2,V3,z5 _ nR,z5 _ ZnD]at n4;have n2:(Xc B2).ZA.length=1:=by simpa using n2
 have n4:(Xc B4).ZA.length=2:=by rw[n2]at n4;simpa using n4
 -- the answers
 obtain⟨ts,u1,u2⟩:=T12.ZA;rw[s5,a9]at u1;obtain⟨us,v1,v2⟩:=T34.ZA;rw[V2,u1]at v1;have tl:(G ts)=1:=by rw[<-u1];exact n2
 have ul:(G us)=1:=by
  have:=congrArg G v1;rw[n4,U,tl]at this;omega
 obtain⟨t0,rfl⟩:=bn.1 tl;obtain⟨t1,rfl⟩:=bn.1 ul;obtain⟨i,z,pre,f,hi,g1,g2,g3⟩:=u2 t0 uK;obtain rfl:=(s7 i z g2).1;have ZwP:∀z∈pre,z=QE\/z=Nv:=fun z hz=>lg2 i hi z (by rw[g1];exact aa.2 (.inl hz));have a0:=Zbz ZwP;obtain⟨i',z',ZiI,f',HN,g1',cW,g3'⟩:=v2 t1 uK;have Cz:z'=y/\i'=n:=by
  rcases V5 i' z' cW with h|h
  .rw[nR i' HN]at h;cases h
  .exact⟨h.2,h.1⟩
 obtain⟨rfl,rfl⟩:=Cz;have lg4:∀i,i<5->∀z∈((Xc B4).Zb i).Zw,z=QE\/z=z'\/z=Nv:=fun i hi=>fq e4 nT (fun z h=>by
  have:=SA2 z (Kd (by rw[uo]at EU;rw[EU]at h;exact Kd h));rcases this with q|q
  .exact .inl q
  .exact .inr (.inl q)) (.inr (.inr rfl)) hi
 -- a Zw behind all: Zip stood there first,and the rest
 have cut:∀i,i<5->∃k,((Xc B4).Zb i).Zw=((Xc B2).Zb i).Zw++k:=fun i hi=>by
  obtain⟨f,hf⟩:=T34.Zw i hi;exact⟨f,by rw[hf,V4]⟩
 have a1:T9 ZiI=Qu:=by
  obtain⟨k,hk⟩:=cut i' HN;rw[g1']at hk;have ZiJ:∃k',ZiI=((Xc B2).Zb i').Zw++k':=by
   rcases List.append_eq_append_iff.1 hk with⟨a,h1,h2⟩|⟨a,h1,h2⟩
   .cases a with
    | nil=>exact⟨[],by rw[h1];simp⟩
    | cons z a=>
     exfalso;simp only[List.cons_append,List.cons.injEq]at h2;refine yn2 i' HN ?_;rw[h1,<-h2.1];simp
   .exact⟨a,h1⟩
  obtain⟨k',NE⟩:=ZiJ;rw[NE];refine Cw t (lg2 i' HN) (x2 i' HN) (fun z hz=>lg4 i' HN z ?_);rw[g1',NE];exact aa.2 (.inl (aa.2 (.inr hz)))
 have ZaE:∀z∈lng (Xc B4),z.err=0:=fun z hz=>by
  rcases Ag (Xc B4) with q|⟨j,hj,q⟩
  .rw[q]at hz;cases hz
  .rw[q]at hz;rcases lg4 j hj z hz with rfl|rfl|rfl
   .rfl
   .exact t.ey
   .rfl
 refine⟨e4,l2,l4,⟨t0,t1,v1,?_,?_,?_⟩,ZaE,?_⟩
 .rw[g3];exact a0.1
 .rw[g3];exact a0.2
 .rw[g3'];show Wp (T9 ZiI) z'=11;rw[a1];exact (fp t).2.1
 .rw[Zby ZaE];rcases Ag (Xc B4) with q|⟨j,hj,q⟩
  .exfalso;have hle:((Xc B4).Zb 0).Zw.length<=(lng (Xc B4)).length:=ZaR (Xc B4) 5 0 nT;rw[q]at hle;obtain⟨k,hk⟩:=cut 0 nT;have:=x2 0 nT;rw[hk,U,be]at hle;have h0:((Xc B2).Zb 0).Zw=[]:=List.eq_nil_of_length_eq_zero nT;rw[h0]at this;cases this
  .rw[q];obtain⟨k,hk⟩:=cut j hj;rw[hk];exact Cw t (lg2 j hj) (x2 j hj) (fun z hz=>lg4 j hj z (by rw[hk];exact aa.2 (.inr hz)))
end
def ZiK(k c s n v:Int):Cm:=⟨1,2,FU s 6,FU n 4,(cmW k c s n v).v⟩
theorem ZiL(k c s n v:Int):Zbw (ZiK k c s n v):=by
 have r3:=U8 s (m:=6) nT;have r4:=U8 n (m:=4) nT;have r5:=U8 v (m:=1000) nT;have rv:0<=(cmW k c s n v).v/\(cmW k c s n v).v<1000:=by
  unfold cmW;simp only;split<;>omega
 unfold ZiK;generalize (cmW k c s n v).v=V at *;generalize FU s 6=B at *;generalize FU n 4=D at *;refine⟨?_,rfl,rfl⟩;unfold Qo.err Y0;simp only;rw[if_neg nT,if_neg nT,if_neg nT,if_neg nT]
theorem fu{x:Cm}(hx:x.err=0){r:Nat}(hr:r<=7)(hR:KA x.k.toNat r)(c R:Int)(hc:c=x.c)(hR':R=(r:Nat)):QL 1 c R 60 x.k x.c x.s x.n x.v=0/\nQ (Ab 1 c R 60 x) x:=by
 subst hc;subst hR';exact⟨(Er hx hr hR (i:=1) nT (now:=0) nT nT).1,⟨fun now h0 h1=>(Er hx hr hR (i:=1) nT h0 h1).2,Zbr 1 x _ _⟩⟩
set_option maxHeartbeats 4000000 in
theorem ZeO(T:World)(h:Hp)(k c s n v na ld:Int)(wk:i64 k)(wc:i64 c)(ws:i64 s)(wn:i64 n)(wv:i64 v)(wa:i64 na)(hl:i64 ld)(tb:fK LX h):
  Zd bA T 3 #[.agg (dB k c s n v).toArray,O o na,O o ld] h fun v' h'=>v'=.bool true/\Zj h.size h h':=by
 have tk:Tk h:=tb.tk;refine Zd.XT [_,_,_] Tryz.func3 ?_;obtain⟨h0,Ql⟩:=ZN (h.push (am (dB k c s n v).toArray 23):Hp);have e0:=Ql.symm;have b0:Zj h.size h h0:=by rw[Ql];exact (Zj.refl _ _).add _
 have y0:h0[h.size]? = al (am (dB k c s n v).toArray 23):=by rw[Ql];exact Zc
 have r0:rd h0 ⟨h.size,0,aq⟩ 5=al (dB k c s n v):=Zz y0 rfl;obtain⟨Wc,hWc⟩:=ZN (dB k c s n v);have ck:=dC T h0 k c s n v wk wc ws wn wv;rw[<-hWc]at e0 r0 ck ⊢;simp -implicitDefEqProofs only[go_sem,e0,r0];refine ck.use ?_;rintro _ h1 ⟨rfl,b1⟩;obtain⟨X0,kK⟩:=ZN (cmW k c s n v);obtain⟨Y,hY⟩:=ZN (ZiK k c s n v);have hP:=ZiL k c s n v;rw[<-hY]at hP;have x1:X0.s=Y.s/\X0.n=Y.n/\X0.v=Y.v:=by rw[kK,hY];exact⟨rfl,rfl,rfl⟩
 have hY1:=hP.ky;have hY2:=hP.cy;rw[<-kK];obtain⟨h2,VZ⟩:=ZN (h1.push (am X0.C.toArray 24):Hp);obtain⟨h2b,ZiM⟩:=ZN (h1.push (am [O o 1,O o X0.c,O o X0.s,O o X0.n,O o X0.v].toArray 24):Hp);obtain⟨h3,Fq⟩:=ZN (h1.push (am Y.C.toArray 24):Hp);have e2:=VZ.symm;have y2:h2[h1.size]? = al (am X0.C.toArray 24):=by rw[VZ];exact Zc
 have y2b:h2b[h1.size]? = al (am [O o 1,O o X0.c,O o X0.s,O o X0.n,O o X0.v].toArray 24):=by rw[ZiM];exact Zc
 have y3:h3[h1.size]? = al (am Y.C.toArray 24):=by rw[Fq];exact Zc
 have b3:Zj h1.size h1 h3:=by rw[Fq];exact (Zj.refl _ _).add _
 have hXl:X0.C.length=5:=rfl;have hXo:X0.C.all YD=true:=rfl;have hXp:Y8 [Value.int o 0,O o 0,O o 0,O o 0,O o 0] 0 X0.C=X0.C:=rfl;have hYl:Y.C.length=5:=rfl;have hYo:Y.C.all YD=true:=rfl;have w2:QQ h2 ⟨h1.size,0,aq⟩ (O o 1)=al h2b:=by
  rw[Xh y2 0 _,VZ,ZiM,if_pos ⟨by simp[Qo.C,Uy],rfl⟩,UT];rfl
 have w3:QQ h2b ⟨h1.size,1,aq⟩ (O o 2)=al h3:=by
  rw[Xh y2b 1 _,ZiM,Fq,if_pos ⟨uK,rfl⟩,UT];obtain⟨q2,q3,q4⟩:=x1;unfold Qo.C Uy;rw[q2,q3,q4,hY1,hY2];rfl
 have l3:=Za y3;have l2:=Za y2;have l2b:=Za y2b;have B3:Zj h.size h h3:=b0.trans ((b1.trans (b3.mono b1.size)).mono b0.size);obtain⟨h4,hh4⟩:=ZN (h3.push (am #[O o 3,O o 1,O o 0,O o 2,O o 0] 24):Hp);have e4:=hh4.symm;have b4:Zj h3.size h3 h4:=by rw[hh4];exact (Zj.refl _ _).add _
 have B4:Zj h.size h h4:=B3.trans (b4.mono B3.size);have y4:=b4.get l3 y3;have rK4:rd h4 ⟨h3.size,0,aq⟩ 5=al [O o 3,O o 1,O o 0,O o 2,O o 0]:=Zz (by rw[hh4];exact Zc) rfl;have pk:=mI T h4 1 1 4 60 3 1 0 2 0 (tk.Qx B4);obtain⟨pX,rX⟩:=fu (x:=QE) rfl (r:=4) nT Iw 1 4 rfl rfl;obtain⟨DX,hDX⟩:∃D,D=Ab 1 1 4 60 QE:=⟨_,rfl⟩
 have hX2:(if QL 1 1 4 60 3 1 0 2 0=0 then Hr 1 1 4 60 3 1 0 2 0 else [])=DX:=by rw[hDX];rfl
 rw[<-hDX]at rX;have pX:QL 1 1 4 60 3 1 0 2 0=0:=pX;unfold Zdn at pk;rw[hX2,pX]at pk;simp -implicitDefEqProofs only[go_sem,e2,hXl,hXo,hXp,w2,w3,l2,l2b,l3,e4,rK4];refine pk.use ?_;rintro _ h7 ⟨⟨wvv,rfl,owX⟩,b7⟩;obtain⟨p7,c7,rfl,_⟩:=owX.bs.open;have B7:Zj h.size h h7:=B4.trans (b7.mono B4.size);have y7:=b7.get (Za y4) y4;have rY7:rd h7 ⟨h1.size,0,aq⟩ 5=al Y.C:=Zz y7 rfl;have z7:=Za y7;have pk:=mI T h7 1 2 2 60 Y.k Y.c Y.s Y.n Y.v (tk.Qx B7);obtain⟨pY,rY⟩:=fu (x:=Y) hP.ey (r:=2) nT (by rw[hY1];decide) 2 2 hY2.symm rfl;obtain⟨DY,hDY⟩:∃D,D=Ab 1 2 2 60 Y:=⟨_,rfl⟩
 have ZwS:(if QL 1 2 2 60 Y.k Y.c Y.s Y.n Y.v=0 then Hr 1 2 2 60 Y.k Y.c Y.s Y.n Y.v else [])=DY:=by rw[hDY];rfl
 rw[<-hDY]at rY;unfold Zdn at pk;rw[ZwS,pY]at pk;simp -implicitDefEqProofs only[go_sem,rY7,z7];refine pk.use ?_;rintro _ h8 ⟨⟨wvv,rfl,owY⟩,b8⟩;obtain⟨p8,c8,rfl,_⟩:=owY.bs.open;simp -implicitDefEqProofs only[go_sem];refine (MA T h8 na 5 wa nT nT).pure ?_;simp -implicitDefEqProofs only[go_sem];obtain⟨a,ha⟩:∃a:Nat,FU na 5=a:=⟨(FU na 5).toNat,by have:=U8 na (m:=5) nT;omega⟩
 obtain⟨L,hL⟩:∃L:Nat,FU ld 5=L:=⟨(FU ld 5).toNat,by have:=U8 ld (m:=5) nT;omega⟩
 have a5:a<5:=by have:=U8 na (m:=5) nT;omega
 have L5:L<5:=by have:=U8 ld (m:=5) nT;omega
 rw[ha];obtain⟨g1,NO⟩:=ZN (h8.push (am #[Value.int o 1,O o a,O o 0,O o 0,aU p7 (G DX) c7] 36):Hp);rw[<-NO];have yg1:g1[h8.size]? = al (am [Value.int o 1,O o a,O o 0,O o 0,aU p7 (G DX) c7].toArray 36):=by rw[NO];exact Zc
 have xw:Zj h8.size h8 g1:=by rw[NO];exact (Zj.refl _ _).add _
 have B8:Zj h.size h h8:=B7.trans (b8.mono B7.size);have Bg1:Zj h.size h g1:=B8.trans (xw.mono B8.size);obtain⟨ys,hys⟩:∃ys:List (Raw × Value),ys=[((⟨1,a,0,0,DX⟩:Raw),Value.slice p7 (G DX) c7)]:=⟨_,rfl⟩
 have t2:Ts WD 5 g1 (aU (al ⟨h8.size,0,aq⟩) 1 1) ys:=by
  rw[hys];exact⟨⟨_,1,rfl,rfl,fun _=>⟨h8.size,0,rfl,fun i hi=>by rw[Zl yg1,YW,Nat.zero_add];exact ao hi⟩⟩⟩
 have ZwT:=(owX.Yz b8 (ae _)).Yz xw (ae _);have i2:∀y∈ys,PT LX g1 y.2 y.1.data:=fun y hy=>by
  rw[hys]at hy;rw[H.1 hy];exact Cd ZwT (fun _ _=>rfl)
 have hry:Xe ys=RL DX a:=by rw[hys];rfl
 have yl:(G ys)=1:=by rw[hys];rfl
 obtain⟨R1,hR1⟩:=ZN (Xr (RL DX a) L);obtain⟨al1,al2,al3,⟨t0,t1,al4,al5,al6,al7⟩,al8,al9⟩:=ZeN (n:=a) (L:=L) hP rX rY a5 L5;rw[<-hR1]at al1 al2 al3 al4 al8 al9;obtain⟨S1,hS1⟩:=ZN (R1++[(⟨1,a,0,0,DY⟩:Raw)]);rw[<-hS1]at al1 al3 al4 al8 al9;obtain⟨S2,hS2⟩:=ZN (Xr S1 L);rw[<-hS2]at al1 al3 al4 al8 al9;refine (MA T g1 ld 5 hl nT nT).pure ?_;rw[hL];simp -implicitDefEqProofs only[go_sem];refine (I1 T g1 _ ys L L5 t2 i2 nT).use ?_;rintro v4 g4 ⟨hk,o4,Bk,A4⟩;rw[hry,<-hR1]at A4;have bA4:=A4.done.1;have im:PT o4 g4 (aU p8 (G DY) c8) DY:=(Cd (((owY.Yz xw (ae _)).Yz Bk (ae _))) (fun _ _=>rfl)).Ze A4.1;have Bhk:Zj h.size h hk:=Bg1.trans (Bk.mono Bg1.size);simp -implicitDefEqProofs only[go_sem];refine A4.PQ nT ⟨1,a,0,0,DY⟩ p8 c8 im ?_;intro v5 o5 g5 A5 _;rw[<-hS1]at A5;obtain⟨bA5,_,ys5,ZnF,t5,i5⟩:=A5.done;have Bg5:Zj h.size h g5:=Bhk.trans (bA5.mono Bhk.size);have yl5:(G ys5)=1464:=by
  have:=congrArg G ZnF;unfold Xe at this;rw[bd]at this;rw[this,hS1,U,al2];rfl
 refine (MA T g5 ld 5 hl nT nT).pure ?_;rw[hL];simp -implicitDefEqProofs only[go_sem];refine (dN T g5 v5 ys5 L L5 t5 i5 nT).use ?_;rintro v6 g6' ⟨q4,_,zs,hrz,t4,i4⟩;rw[ZnF,<-hS2]at hrz;have zl:(G zs)=3646:=by
  have:=congrArg G hrz;unfold Xe at this;rw[bd]at this;omega
 have Q4:Zj h.size h g6':=Bg5.trans (q4.mono Bg5.size);have tb4:=tb.Ze (ZX (FT h) Q4);simp -implicitDefEqProofs only[go_sem];refine (Zie T g6' v6 zs t4 i4 tb4 nT (by rw[hrz];exact dJ al1 nT)).use ?_;rw[hrz];rintro _ g5' ⟨⟨lv,tv,vs,rfl,rf⟩,q5⟩;have Q5:Zj h.size h g5':=Q4.trans (q5.mono Q4.size);have hlen:(lng (Xc S2)).length<=40:=by
  rcases Ag (Xc S2) with q|⟨j,hj,q⟩
  .rw[q];exact bf _
  .rw[q];exact nE al1 nT j hj
 obtain⟨W,hW⟩:=ZN (Xc S2);rw[<-hW]at rf hlen al4 al8 al9 ⊢;have tl:W.ZA.length=2:=by rw[al4];rfl
 obtain⟨ro,⟨pl,ol,cl,rfl⟩,pt,ct,rfl⟩:=rf.at.ok;obtain⟨R,hR⟩:=ZN (jU W (aU (al ⟨pl,ol,aq⟩) 5 cl) (aU pt W.ZA.length ct));rw[<-hR]at ro ⊢;have hRl:=ro.len;have uE:=ro.one;have hRp:=ro.put;have Zen:=ro.le;have et:=ro.take;obtain⟨g6,LS⟩:=ZN (g5'.push (am R.toArray 42):Hp);have e6:=LS.symm;have q6:Zj g5'.size g5' g6:=by rw[LS];exact (Zj.refl _ _).add _
 have yg6:g6[g5'.size]? = al (am R.toArray 42):=by rw[LS];exact Zc
 have rg6:rd g6 ⟨g5'.size,0,aq⟩ 13=al R:=Zz yg6 hRl;have Q6:Zj h.size h g6:=Q5.trans (q6.mono Q5.size);have cl6:=kj T g6 W _ _ vs (rf.Yz q6).at;rw[<-hR]at cl6;have tl':(W.ZA.length:Int)=2:=nT;have cR6:hc g6 ⟨g5'.size,12,aq⟩=al (aU pt W.ZA.length ct):=by rw[Zl yg6,hR];rfl
 have lR6:=Za yg6;simp -implicitDefEqProofs only[go_sem,hRl,uE,hRp,Zen,e6,rg6,et,cR6,tl',lR6];refine cl6.use ?_;rintro v7 g7 ⟨t7,q7⟩;have Q7:Zj h.size h g7:=Q6.trans (q7.mono Q6.size);obtain⟨Lg,hLg⟩:=ZN (lng W);rw[<-hLg]at t7 hlen al8 al9;obtain⟨C1,C2,C3⟩:=kS al8;obtain⟨pg7,cg7,rfl,_⟩:=Q2 t7;have ch:=yZ T g7 _ Lg t7 (tk.Qx Q7);rw[if_neg nT,if_neg nT,C1,al9]at ch;rw[al9]at C2;simp -implicitDefEqProofs only[go_sem];refine ch.use ?_;rintro _ g8 ⟨⟨wv1,E,D,rfl,hED,oe⟩,q8⟩;simp only[Prod.mk.injEq]at hED;obtain⟨rfl,rfl⟩:=hED;have D40:(G Qu)=40:=YE C2;have S4:=Re C2;have qj:Qu.take 40=Qu:=XB D40;have cL:ci Qu 10=0:=Iw;have cRv:cb Qu 34=true:=Iw;obtain⟨D,hD⟩:=ZN (Qu);rw[<-hD]at C2 D40 S4 qj cL cRv ⊢;obtain⟨p8',c8',hwv⟩:=oe.open;subst hwv;obtain⟨g9,hg9⟩:=ZN (g8.push (am D.toArray 52):Hp);have e9:=hg9.symm;have q9:Zj g8.size g8 g9:=by rw[hg9];exact (Zj.refl _ _).add _
 have yg9:g9[g8.size]? = al (am D.toArray 52):=by rw[hg9];exact Zc
 have g69:Zj g6.size g6 g9:=q7.trans ((q8.trans (q9.mono q8.size)).mono q7.size);have Q9:Zj h.size h g9:=Q6.trans (g69.mono Q6.size);have xR:=g69.get (Za yg6) yg6;have cR9:hc g9 ⟨g5'.size,12,aq⟩=al (aU pt W.ZA.length ct):=by rw[Zl xR,hR];rfl
 have lR9:=Za xR;have lD:=Za yg9;have d1:hc g9 ⟨g8.size,10,aq⟩=al (O o 0):=by rw[Zl yg9,<-cL];exact Mr C2 10 nT
 have d2:hc g9 ⟨g8.size,34,aq⟩=al (.bool true):=by rw[Zl yg9,<-cRv];exact OD C2 34 nT nT
 have tT:Ts Mu 5 g9 (aU pt W.ZA.length ct) W.ZA:=(rf.Yz (q6.trans (g69.mono q6.size))).at.ZA;obtain⟨pt',ct',eT,hT⟩:=tT.open (n:=5) (enc:=Mu) (fun _=>rfl) Iw;simp only[Value.slice.injEq,true_and]at eT;obtain⟨rfl,rfl⟩:=eT;obtain⟨bt,ot,rfl,mD,PH⟩:=hT (by rw[al4];simp);have k0:=PH 0 nT;have k1:=PH 1 nT;have T0:W.ZA[0]=t0:=by simp only[al4];rfl
 have T1:W.ZA[1]=t1:=by simp only[al4];rfl
 rw[T0]at k0;rw[T1]at k1;rw[Nat.zero_mul,Nat.add_zero]at k0;rw[Nat.one_mul]at k1;have m0:JG g9 bt (ot+3) [O o 0,O o 0]:=fun i hi=>by
  have HN:i<2:=hi;have:=k0.hc (i:=3+i) (x:=O o 0) (by
   unfold Mu;rw[al5,al6]
   match i,HN with
   | 0,_=>rfl
   | 1,_=>rfl)
  rw[<-Nat.add_assoc]at this;rw[this]
  match i,HN with
  | 0,_=>rfl
  | 1,_=>rfl
 have r0:rd g9 ⟨bt,ot+3,aq⟩ 2=al [O o 0,O o 0]:=m0.rd uK rfl;have r1:hc g9 ⟨bt,ot+5+3,aq⟩=al (O o 11):=k1.hc (i:=3) (by unfold Mu;rw[al7];rfl);simp -implicitDefEqProofs only[go_sem,D40,S4,Z4,qj,e9,cR9,lR9,lD,d1,d2,tl',r0,r1];exact Q9
theorem ZbA{n:Int}(h:(Lit.int o n).wf=true):i64 n:=by
 have h:(decide (IntKind.i64.min<=n)&&decide (n<=IntKind.i64.max))=true:=h;rw[Bool.and_eq_true,decide_eq_true_eq,decide_eq_true_eq,show IntKind.i64.min = -9223372036854775808 from rfl,show IntKind.i64.max=9223372036854775807 from rfl]at h;exact⟨h.1,nT⟩
def TkM(h:Hp):Prop:=Tk h/\Aw 1 niv PG h
theorem TkM.tbs{h:Hp}(t:TkM h):fK LX h:=⟨t.1,t.2,rfl,rfl⟩
theorem ZbB{W:World}(h:laidMetH bA [("conclave/sha.numbers", Rows.laid_conclave_sha_numbers),("conclave/order.need", Rows.laid_conclave_order_need)] W):TkM W.heap:=by
 constructor
 .have h1:=h.filter (fun x=>x.1 == "conclave/sha.numbers")
  exact Zhe h1
 .have h1:=h.filter (fun x=>x.1 == "conclave/order.need")
  exact Zc8 h1
theorem ub(os:Os)(args:Array Value):laidMetH bA [("conclave/sha.numbers", Rows.laid_conclave_sha_numbers),("conclave/order.need", Rows.laid_conclave_order_need)] ((World.doorLaid bA 87 os).forCall (fun _ _=>0) ⟨#[],args,[]⟩).memory:=
 laidMetH_of_parts3 (fuel:=8) (laidMet_of_run' 8 uj uj) uj uj
